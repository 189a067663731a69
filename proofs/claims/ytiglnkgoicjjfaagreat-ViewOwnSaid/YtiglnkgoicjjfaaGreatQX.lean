import Derived.Test.YtiglnkgoicjjfaaGreatQE
import Derived.Test.YtiglnkgoicjjfaaGreatPwYi
import Derived.Test.YtiglnkgoicjjfaaGreatQDc
set_option linter.all false
set_option maxRecDepth 100000
namespace Go.PW
abbrev Zuc(x:Zki):Prop:=(SzL 16 SzT) x.Subs
theorem Zaik{x:Zki}(h:Z2f x):Zuc x:=(Zfh h.2.2 (fun _ h=>Za0p h))
abbrev Zch(x:Zn):Prop:=SzS x.Sub
theorem Zf8{x:Zn}(h:Zgd x):Zch x:=(Zaer h.2.2.2.2.2.2.2.1)
abbrev Zbk(x:Zq):Prop:=SzS x.Sub/\Zch x.Filter
theorem Zwh{x:Zq}(h:Zsg x):Zbk x:=⟨Zaer h.2.2.2.1,Zf8 h.2.2.2.2⟩
abbrev Zou(x:Zd0):Prop:=Zch x.Filter
theorem Z9p{x:Zd0}(h:Ztv x):Zou x:=(Zf8 h.2.2)
abbrev Zjm(x:Zbp):Prop:=Zch x.Filter
theorem Zail{x:Zbp}(h:Z2g x):Zjm x:=(Zf8 h.2.2)
abbrev Zsi(x:Zgw):Prop:=Zch x.Filter
theorem Zake{x:Zgw}(h:Z46 x):Zsi x:=(Zf8 h.2.2)
abbrev Zwi(x:Zdt):Prop:=Zch x.Filter
theorem Zac7{x:Zdt}(h:Zwd x):Zwi x:=(Zf8 h.2.2.2)
abbrev Za2(x:Zv):Prop:=Zsi x.Ref/\Zwi x.Amount/\SzS x.Card/\Zch x.Filter/\(SzL 176 Zbk) x.Mods
theorem Zac8{x:Zv}(h:Zwe x):Za2 x:=⟨Zake h.2.1,Zac7 h.2.2.1,Zaer h.2.2.2.2.2.1,Zf8 h.2.2.2.2.2.2.1,Zfh h.2.2.2.2.2.2.2.2 (fun _ h=>(Zwh h))⟩
abbrev Zgg(x:Zbx):Prop:=Zch x.Filter
theorem Z9q{x:Zbx}(h:Ztw x):Zgg x:=(Zf8 h.2.2.1)
abbrev Zbo(x:Zs):Prop:=Zch x.Filter/\(SzL 176 Zbk) x.Mods/\Zou x.Trigger/\(SzL 144 Zjm) x.Specs/\(SzL 560 Za2) x.Effects/\Zgg x.Replace
theorem Zo3{x:Zs}(h:Zk3 x):Zbo x:=⟨Zf8 h.2.1,Zfh h.2.2.1 (fun _ h=>(Zwh h)),Z9p h.2.2.2.2.2.1,Zfh h.2.2.2.2.2.2.2.1 (fun _ h=>(Zail h)),Zfh h.2.2.2.2.2.2.2.2.1 (fun _ h=>(Zac8 h)),Z9q h.2.2.2.2.2.2.2.2.2⟩
abbrev Zbq(x:Zai):Prop:=SzS x.Name/\Zuc x.Line/\(SzL 640 Zbo) x.Abilities
theorem Zaim{x:Zai}(h:Z2h x):Zbq x:=⟨Zaer h.1,Zaik h.2.2.2.2.1,Zfh h.2.2.2.2.2.2.2.2 (fun _ h=>(Zo3 h))⟩
abbrev Zde(x:Z5):Prop:=(SzL 8 (fun _=>True)) x.Library/\(SzL 8 (fun _=>True)) x.Hand/\(SzL 8 (fun _=>True)) x.Graveyard
theorem Zac9{x:Z5}(h:Zwf x):Zde x:=⟨Zfh h.2.2.2.2.2.2.1 (fun _ _=>trivial),Zfh h.2.2.2.2.2.2.2.1 (fun _ _=>trivial),Zfh h.2.2.2.2.2.2.2.2 (fun _ _=>trivial)⟩
abbrev Zd3(x:Zal):Prop:=Zbo x.Ability/\(SzL 16 (fun _=>True)) x.Targets
theorem Zain{x:Zal}(h:Z2i x):Zd3 x:=⟨Zo3 h.2.2.2.2.2.2.1,Zfh h.2.2.2.2.2.2.2.1 (fun _ _=>trivial)⟩
abbrev Zfm(x:Zab):Prop:=Zbo x.Ability
theorem Z9r{x:Zab}(h:Ztx x):Zfm x:=(Zo3 h.2.2.1)
abbrev Zfn(x:Za1):Prop:=(SzL 8 (fun _=>True)) x.Objects/\(SzL 176 Zbk) x.Mods
theorem Zaio{x:Za1}(h:Z2j x):Zfn x:=⟨Zfh h.2.2.2.2.1 (fun _ _=>trivial),Zfh h.2.2.2.2.2 (fun _ h=>(Zwh h))⟩
abbrev Zt(x:Za):Prop:=(SzL 152 Zde) x.Players/\(SzL 128 (fun _=>True)) x.Objects/\(SzL 8 (fun _=>True)) x.Battlefield/\(SzL 8 (fun _=>True)) x.Exile/\(SzL 824 Zd3) x.Stack/\(SzL 768 Zfm) x.Waiting/\(SzL 80 Zfn) x.Conts/\(SzL 8 (fun _=>True)) x.Extra
theorem Z00{x:Za}(h:Zsh x):Zt x:=⟨Zfh h.1 (fun _ h=>(Zac9 h)),Zfh h.2.1 (fun _ _=>trivial),Zfh h.2.2.1 (fun _ _=>trivial),Zfh h.2.2.2.1 (fun _ _=>trivial),Zfh h.2.2.2.2.1 (fun _ h=>(Zain h)),Zfh h.2.2.2.2.2.1 (fun _ h=>(Z9r h)),Zfh h.2.2.2.2.2.2.1 (fun _ h=>(Zaio h)),Zfh h.2.2.2.2.2.2.2.2.2.2.2.2.2.2.2.2.1 (fun _ _=>trivial)⟩
abbrev Zj8(x:Zbc):Prop:=(SzL 24 (fun _=>True)) x.Options
theorem Zada{x:Zbc}(h:Zwg x):Zj8 x:=(Zfh h.2.2.2.2.2.2 (fun _ _=>trivial))
abbrev Zcn(x:Z6):Prop:=(SzL 176 Zbq) x.Cards/\Zt x.State/\(SzL 24 (SzL 8 (fun _=>True))) x.Answers/\Zj8 x.Pending/\(SzL 280 Zt) x.Seen
theorem Zaip{x:Z6}(h:Zabm x):Zcn x:=⟨Zfh h.1 (fun _ h=>(Zaim h)),Z00 h.2.1,Zfh h.2.2.1 (fun _ h=>(Zfh h (fun _ _=>trivial))),Zada h.2.2.2.1,Zfh h.2.2.2.2.2 (fun _ h=>(Z00 h))⟩
abbrev Zud(x:Zc3):Prop:=(SzL 8 (fun _=>True)) x.Graveyard
abbrev Zce(x:Zj):Prop:=(SzL 120 Zud) x.Players/\(SzL 8 (fun _=>True)) x.Hand/\(SzL 128 (fun _=>True)) x.Objects/\(SzL 8 (fun _=>True)) x.Battlefield/\(SzL 8 (fun _=>True)) x.Exile/\(SzL 824 Zd3) x.Stack/\(SzL 768 Zfm) x.Waiting/\(SzL 80 Zfn) x.Conts/\(SzL 8 (fun _=>True)) x.Extra/\Zj8 x.Pending
theorem Zabn{a0:Int}:Tot (Zah6 a0) (fun r=>True):=by
 unfold Zah6
 refine tZ ?_
 dsimp only [Zajj,LT.den]
 refine tD (fun h1=>?_) (fun h1=>?_)
 .exact tR trivial
 .exact tR trivial
def Z47:Zs9->Prop
 | .L0 v0 v3=>(SzT v0)/\(0<=v3)
 | .L1 v0 v3=>(SzT v0)/\(0<=v3)/\(v3 < (v0.length:Int))/\(0<=v3)/\(v3 < v0.length)
def Zn3:Zs9->M6
 | .L0 v0 v3=>(1,((v0.length:Int) - v3).toNat,1000000,0,0,0)
 | .L1 v0 v3=>(1,((v0.length:Int) - v3).toNat,0,0,0,0)
theorem Zmh{v0:List UInt8}{v3:Int}(h:Z47 (.L1 v0 v3)):Tot (Znf v0 v3).den (Nx Z47 Zn3 (1,((v0.length:Int) - v3).toNat,0,0,0,0) (fun r=>True)):=by
 obtain⟨ov0,cv3,bd2,i0,i1⟩:=h
 have lb_v0:v0.length<=562949953421312:=ov0
 dsimp only [Znf,LT.den]
 refine tD (fun h1=>?_) (fun h1=>?_)
 .refine tB (tI (by omega) (by omega)) (fun x2 h3=>?_)
  refine tE (fun h4=>?_) (fun h4=>?_)
  .refine qw (v3 - 1) fun q5 q6=>?_
   refine tB (tI (by omega) (by omega)) (fun x7 h8=>?_)
   refine tE (fun h9=>?_) (fun h9=>?_)
   .exact tR trivial
   .refine qw (v3+1) fun q10 q11=>?_
    exact tL ⟨ov0,cl⟩ (by unfold Zn3 lt6;dsimp only;omega)
  .refine qw (v3+1) fun q12 q13=>?_
   exact tL ⟨ov0,cl⟩ (by unfold Zn3 lt6;dsimp only;omega)
 .refine qw (v3+1) fun q14 q15=>?_
  exact tL ⟨ov0,cl⟩ (by unfold Zn3 lt6;dsimp only;omega)
theorem Z48{a0:List UInt8}(oa0:SzT a0):Tot (Zam6 a0) (fun r=>True):=by
 unfold Zam6
 refine tX (Inv:=Z47) (μ:=Zn3) (m:=(1000000,0,0,0,0,0)) ?_ ?_
 .have lb_a0:a0.length<=562949953421312:=oa0
  dsimp only [Zam4,LT.den]
  have q1:a0.length<=562949953421312:=oa0
  refine tD (fun h2=>?_) (fun h2=>?_)
  .exact tR trivial
  .refine tD (fun h3=>?_) (fun h3=>?_)
   .exact tR trivial
   .refine tB (tI (by omega) (by omega)) (fun x4 h5=>?_)
    refine tB (Zabn) (fun x6 h7=>?_)
    refine tO (fun h8=>?_) (fun h8=>?_)
    .exact tR trivial
    .refine qw ((a0.length:Int) - 1) fun q9 q10=>?_
     refine tB (tI (by omega) (by omega)) (fun x11 h12=>?_)
     refine tE (fun h13=>?_) (fun h13=>?_)
     .exact tR trivial
     .exact tL ⟨oa0,cl⟩ (by unfold Zn3 lt6;dsimp only;omega)
 .intro s hs
  cases s with
  | L0 v0 v3=>
   obtain⟨ov0,cv3⟩:=hs
   have lb_v0:v0.length<=562949953421312:=ov0
   show Tot (Z62 v0 v3).den _
   dsimp only [Z62,LT.den,Zn3]
   have q1:v0.length<=562949953421312:=ov0
   refine tD (fun h2=>?_) (fun h2=>?_)
   .refine tB (tI (by omega) (by omega)) (fun x3 h4=>?_)
    refine tB (Zabn) (fun x5 h6=>?_)
    refine tO (fun h7=>?_) (fun h7=>?_)
    .refine tB (tI (by omega) (by omega)) (fun x8 h9=>?_)
     refine tD (fun h10=>?_) (fun h10=>?_)
     .refine tB (tI (by omega) (by omega)) (fun x11 h12=>?_)
      refine tN (fun h13=>?_) (fun h13=>?_)
      .exact tR trivial
      .exact tJ (Zmh ⟨ov0,cl,cl,cl,cl⟩)
     .refine tB (tI (by omega) (by omega)) (fun x14 h15=>?_)
      refine tD (fun h16=>?_) (fun h16=>?_)
      .refine tB (tI (by omega) (by omega)) (fun x17 h18=>?_)
       refine tN (fun h19=>?_) (fun h19=>?_)
       .exact tR trivial
       .exact tJ (Zmh ⟨ov0,cl,cl,cl,cl⟩)
      .exact tJ (Zmh ⟨ov0,cl,cl,cl,cl⟩)
    .exact tJ (Zmh ⟨ov0,cl,cl,cl,cl⟩)
   .exact tR trivial
  | L1 _ _=>exact Zmh hs
def Zzd(n m:Int):Bool:=decide (n>=0)&&decide (n<=m)
def Zagr(c:Zbz):Bool:=Zzd c.Generic 99&&(Zzd c.X 2&&c.Color.list.all fun n=>Zzd n 9)
theorem Zatu(c:Zbz):Zaev c=some (Zagr c):=by
 unfold Zaev LF.run;dsimp only [Zam7,LT.den]
 have hl:Za6 Ztb.step (.L0 c 0)=some (c.Color.list.all fun n=>Zzd n 9):=by
  have:=Zamz (st:=fun i=>Zta.L0 c (i:Int)) (step:=Ztb.step) (bad:=false) c.Color.list (fun n=>Zzd n 9) (fun i x hx=>by
   have hi:=(List.getElem?_eq_some_iff.1 hx).1
   have hi:i < 5:=hi
   show (Zz4 _ _).den=_
   dsimp only [Zz4,LT.den]
   rw [decide_eq_true (by omega),Zak hx,Z6x (by omega) (by omega)]
   simp only [cond_true,Option.bind_some]
   unfold Zzd
   by_cases h1:x < 0
   .rw [decide_eq_true h1,decide_eq_false (show ¬ x>=0 by omega)];rfl
   .rw [decide_eq_false h1,decide_eq_true (show x>=0 by omega)]
    by_cases h2:x > 9
    .rw [decide_eq_true h2,decide_eq_false (show ¬ x<=9 by omega)];rfl
    .rw [decide_eq_false h2,decide_eq_true (show x<=9 by omega)];rfl)
  rw [show (Zta.L0 c 0) = .L0 c ((0:Nat):Int) from rfl,this]
  have he:Za6 Ztb.step (.L0 c ((c.Color.list.length:Nat):Int))=some true:=by
   refine Zbe ?_
   show (Zz4 c 5).den=_
   rfl
  rw [he]
  cases c.Color.list.all fun n=>Zzd n 9<;>rfl
 refine (Zaeq fun _=>Zaeq fun _=>Zaeq fun _=>Zaeq fun _=>(show Option.bind (some (Sum.inl (Zta.L0 c 0))) (Znd Ztb.step)=some (c.Color.list.all fun n=>Zzd n 9) from hl)).trans ?_
 congr 1
 unfold Zagr Zzd
 rw [Bool.eq_iff_iff]
 simp only [Bool.and_eq_true,Bool.not_eq_true',decide_eq_false_iff_not,decide_eq_true_eq,ge_iff_le,gt_iff_lt,Int.not_lt]
 constructor
 .rintro ⟨h1,h2,h3,h4,h5⟩;exact⟨⟨h1,h2⟩,⟨h3,h4⟩,h5⟩
 .rintro ⟨⟨h1,h2⟩,⟨h3,h4⟩,h5⟩;exact⟨h1,h2,h3,h4,h5⟩
theorem Z49(a0:Zbz):Tot (Zaev a0) (fun r=>(r=true->a0.X<=2)/\(r=true->∀ n,n∈A5.list a0.Color->n<=9)):=by
 refine⟨_,Zatu a0,fun h=>?_,fun h n hn=>?_⟩
 .simp only [Zagr,Zzd,Bool.and_eq_true,decide_eq_true_eq] at h
  exact h.2.1.2
 .simp only [Zagr,Zzd,Bool.and_eq_true,decide_eq_true_eq,List.all_eq_true] at h
  exact (h.2.2 n hn).2
theorem Z8m:Tot (Zok) (fun r=>((SzL 16 SzN) r)/\(r.length=2)):=by
 unfold Zok
 refine tZ ?_
 dsimp only [Zx5,LT.den]
 have q1:(SzL 16 SzN) ([([98,97,115,105,99]:List UInt8),([117,110,105,113,117,101]:List UInt8)]:List (List UInt8)):=⟨by simp only [List.length_cons,List.length_nil];omega,mem_cons' (by unfold SzN;first | omega | (simp only [List.length_append,List.length_cons,List.length_nil];omega)) (mem_cons' (by unfold SzN;first | omega | (simp only [List.length_append,List.length_cons,List.length_nil];omega)) (fun _ h=>by cases h))⟩
 have lq1:([([98,97,115,105,99]:List UInt8),([117,110,105,113,117,101]:List UInt8)]:List (List UInt8)).length=2:=rfl
 exact tR ⟨q1,cl⟩
def Zakf:Zo8->Prop
 | .L0 v0 v1 v5=>((SzL 16 SzT) v0)/\(SzT v1)/\(0<=v5)
def Zze:Zo8->M6
 | .L0 v0 v1 v5=>(1,((v0.length:Int) - v5).toNat,1000000,0,0,0)
theorem Z58{a0:List (List UInt8)}{a1:List UInt8}(oa0:(SzL 16 SzT) a0)(oa1:SzT a1):Tot (Z66 a0 a1) (fun r=>True):=by
 unfold Z66
 refine tX (Inv:=Zakf) (μ:=Zze) (m:=(1000000,0,0,0,0,0)) ?_ ?_
 .have lb_a0:=oa0.1
  have lb_a1:a1.length<=562949953421312:=oa1
  dsimp only [Z94,LT.den]
  exact tL ⟨oa0,oa1,cl⟩ (by unfold Zze lt6;dsimp only;omega)
 .intro s hs
  cases s with
  | L0 v0 v1 v5=>
   obtain⟨ov0,ov1,cv5⟩:=hs
   have lb_v0:=ov0.1
   have lb_v1:v1.length<=562949953421312:=ov1
   show Tot (Zx7 v0 v1 v5).den _
   dsimp only [Zx7,LT.den]
   have q1:=ov0.1
   refine tD (fun h2=>?_) (fun h2=>?_)
   .refine tB (tI (by omega) (by omega)) (fun x3 h4=>?_)
    have oh4:SzT x3:=ov0.2 x3 h4.1
    refine tF (fun h5=>?_) (fun h5=>?_)
    .exact tR trivial
    .refine qw (v5+1) fun q6 q7=>?_
     exact tL ⟨ov0,ov1,cl⟩ (by unfold Zze lt6;dsimp only;omega)
   .exact tR trivial
theorem Zxd:Tot (Zp0) (fun r=>((SzL 16 SzN) r)/\(r.length=6)):=by
 unfold Zp0
 refine tZ ?_
 dsimp only [Zz5,LT.den]
 have q1:(SzL 16 SzN) ([([99,114,101,97,116,117,114,101]:List UInt8),([105,110,115,116,97,110,116]:List UInt8),([114,105,116,117,97,108]:List UInt8),([114,101,108,105,99]:List UInt8),([99,104,97,114,109]:List UInt8),([108,97,110,100]:List UInt8)]:List (List UInt8)):=⟨by simp only [List.length_cons,List.length_nil];omega,mem_cons' (by unfold SzN;first | omega | (simp only [List.length_append,List.length_cons,List.length_nil];omega)) (mem_cons' (by unfold SzN;first | omega | (simp only [List.length_append,List.length_cons,List.length_nil];omega)) (mem_cons' (by unfold SzN;first | omega | (simp only [List.length_append,List.length_cons,List.length_nil];omega)) (mem_cons' (by unfold SzN;first | omega | (simp only [List.length_append,List.length_cons,List.length_nil];omega)) (mem_cons' (by unfold SzN;first | omega | (simp only [List.length_append,List.length_cons,List.length_nil];omega)) (mem_cons' (by unfold SzN;first | omega | (simp only [List.length_append,List.length_cons,List.length_nil];omega)) (fun _ h=>by cases h))))))⟩
 have lq1:([([99,114,101,97,116,117,114,101]:List UInt8),([105,110,115,116,97,110,116]:List UInt8),([114,105,116,117,97,108]:List UInt8),([114,101,108,105,99]:List UInt8),([99,104,97,114,109]:List UInt8),([108,97,110,100]:List UInt8)]:List (List UInt8)).length=6:=rfl
 exact tR ⟨q1,cl⟩
theorem Zwj{a0:List UInt8}(oa0:SzT a0):Tot (Z68 a0) (fun r=>True):=by
 unfold Z68
 refine tZ ?_
 have lb_a0:a0.length<=562949953421312:=oa0
 dsimp only [Z96,LT.den]
 refine tB (Z48 oa0) (fun x1 h2=>?_)
 refine tF (fun h3=>?_) (fun h3=>?_)
 .refine tB (Z8m) (fun x4 h5=>?_)
  have eh5_1:=h5.2
  refine tB (Z58 (SzL.nt h5.1) oa0) (fun x6 h7=>?_)
  refine tD (fun h8=>?_) (fun h8=>?_)
  .refine tB (Zxd) (fun x9 h10=>?_)
   have eh10_1:=h10.2
   refine tB (Z58 (SzL.nt h10.1) oa0) (fun x11 h12=>?_)
   exact tR trivial
  .exact tR trivial
 .exact tR trivial
def Zarc:Zuu->Prop
 | .L0 v0 v1 v5=>(0<=v5)/\(v1<=100)
def Z5a:Zuu->M6
 | .L0 v0 v1 v5=>(1,(v1 - v5).toNat,1000000,0,0,0)
theorem Z2k{a0:Int}{a1:Int}(h0:a1<=100):Tot (Zah7 a0 a1) (fun r=>True):=by
 unfold Zah7
 refine tX (Inv:=Zarc) (μ:=Z5a) (m:=(1000000,0,0,0,0,0)) ?_ ?_
 .dsimp only [Zajl,LT.den]
  exact tL ⟨cl,cl⟩ (by unfold Z5a lt6;dsimp only;omega)
 .intro s hs
  cases s with
  | L0 v0 v1 v5=>
   obtain⟨cv5,i0⟩:=hs
   show Tot (Z4h v0 v1 v5).den _
   dsimp only [Z4h,LT.den]
   refine tD (fun h1=>?_) (fun h1=>?_)
   .refine qw (v5+1) fun q2 q3=>?_
    exact tL ⟨cl,cl⟩ (by unfold Z5a lt6;dsimp only;omega)
   .exact tR trivial
def Zatv:Zya->Prop
 | .L0 E0 v3=>(Zuc E0)/\(0<=v3)
def Z01:Zya->M6
 | .L0 E0 v3=>(1,((E0.Subs.length:Int) - v3).toNat,1000000,0,0,0)
theorem Zatw{a0:Zki}(oa0:Zuc a0):Tot (Zana a0) (fun r=>True):=by
 unfold Zana
 refine tX (Inv:=Zatv) (μ:=Z01) (m:=(1000000,0,0,0,0,0)) ?_ ?_
 .dsimp only [Zam8,LT.den]
  refine tD (fun h1=>?_) (fun h1=>?_)
  .exact tR trivial
  .refine tD (fun h2=>?_) (fun h2=>?_)
   .exact tR trivial
   .refine tD (fun h3=>?_) (fun h3=>?_)
    .exact tR trivial
    .refine tD (fun h4=>?_) (fun h4=>?_)
     .exact tR trivial
     .have q5:=oa0.1
      refine tD (fun h6=>?_) (fun h6=>?_)
      .exact tR trivial
      .exact tL ⟨oa0,cl⟩ (by unfold Z01 lt6;dsimp only;omega)
 .intro s hs
  cases s with
  | L0 E0 v3=>
   obtain⟨O0,cv3⟩:=hs
   show Tot (Z69 E0 v3).den _
   dsimp only [Z69,LT.den]
   have q1:=O0.1
   refine tD (fun h2=>?_) (fun h2=>?_)
   .refine tB (tI (by omega) (by omega)) (fun x3 h4=>?_)
    have oh4:SzT x3:=O0.2 x3 h4.1
    refine tB (Zwj oh4) (fun x5 h6=>?_)
    refine tO (fun h7=>?_) (fun h7=>?_)
    .exact tR trivial
    .refine tD (fun h8=>?_) (fun h8=>?_)
     .refine qw (v3 - 1) fun q9 q10=>?_
      refine tB (tI (by omega) (by omega)) (fun x11 h12=>?_)
      have oh12:SzT x11:=O0.2 x11 h12.1
      refine tO (fun h13=>?_) (fun h13=>?_)
      .exact tR trivial
      .refine qw (v3+1) fun q14 q15=>?_
       exact tL ⟨O0,cl⟩ (by unfold Z01 lt6;dsimp only;omega)
     .refine qw (v3+1) fun q16 q17=>?_
      exact tL ⟨O0,cl⟩ (by unfold Z01 lt6;dsimp only;omega)
   .refine tE (fun h18=>?_) (fun h18=>?_)
    .exact tR trivial
    .refine tE (fun h19=>?_) (fun h19=>?_)
     .exact tR trivial
     .refine tB (Z2k cl) (fun x20 h21=>?_)
      refine tO (fun h22=>?_) (fun h22=>?_)
      .refine tB (Z2k cl) (fun x23 h24=>?_)
       exact tR trivial
      .exact tR trivial
theorem Zags{a0:Int}:Tot (Zand a0) (fun r=>True):=by
 unfold Zand
 refine tZ ?_
 dsimp only [Zanb,LT.den]
 refine tD (fun h1=>?_) (fun h1=>?_)
 .exact tR trivial
 .exact tR trivial
theorem Zadb{a0:Zai}(oa0:Zbq a0):Tot (Zyb a0) (fun r=>True):=by
 unfold Zyb
 refine tZ ?_
 dsimp only [Z21,LT.den]
 exact tR trivial
def Zakg:Zo9->Prop
 | .L0 v0 v1 v7=>(0<=v7)/\True
def Zsj:Zo9->M6
 | .L0 v0 v1 v7=>(1,(6 - v7).toNat,1000000,0,0,0)
theorem Z59{a0:Int}{a1:Int}{a2:Int}:Tot (Z7a a0 a1 a2) (fun r=>True):=by
 unfold Z7a
 refine tX (Inv:=Zakg) (μ:=Zsj) (m:=(1000000,0,0,0,0,0)) ?_ ?_
 .dsimp only [Z98,LT.den]
  refine tD (fun h1=>?_) (fun h1=>?_)
  .exact tR trivial
  .refine tD (fun h2=>?_) (fun h2=>?_)
   .exact tR trivial
   .refine tD (fun h3=>?_) (fun h3=>?_)
    .exact tR trivial
    .refine tD (fun h4=>?_) (fun h4=>?_)
     .exact tR trivial
     .exact tL ⟨cl,trivial⟩ (by unfold Zsj lt6;dsimp only;omega)
 .intro s hs
  cases s with
  | L0 v0 v1 v7=>
   obtain⟨cv7,_⟩:=hs
   show Tot (Zyc v0 v1 v7).den _
   dsimp only [Zyc,LT.den]
   refine tD (fun h1=>?_) (fun h1=>?_)
   .refine tE (fun h2=>?_) (fun h2=>?_)
    .refine tE (fun h3=>?_) (fun h3=>?_)
     .exact tR trivial
     .refine qw (v7+1) fun q4 q5=>?_
      exact tL ⟨cl,trivial⟩ (by unfold Zsj lt6;dsimp only;omega)
    .refine qw (v7+1) fun q6 q7=>?_
     exact tL ⟨cl,trivial⟩ (by unfold Zsj lt6;dsimp only;omega)
   .exact tR trivial
theorem Zwk{a0:Zg}:Tot (Z7c a0) (fun r=>(r=true->0<=a0.Kind/\a0.Kind<=3)):=by
 unfold Z7c
 refine tZ ?_
 dsimp only [Zaaa,LT.den]
 refine tD (fun h1=>?_) (fun h1=>?_)
 .exact tR (by intro hr;cases hr)
 .refine tD (fun h2=>?_) (fun h2=>?_)
  .exact tR (by intro hr;cases hr)
  .refine tD (fun h3=>?_) (fun h3=>?_)
   .exact tR (by intro hr;cases hr)
   .refine tD (fun h4=>?_) (fun h4=>?_)
    .exact tR (by intro hr;cases hr)
    .refine tN (fun h5=>?_) (fun h5=>?_)
     .exact tR (by intro hr;first | omega | (cases hr;done))
     .exact tR (by intro hr;first | omega | (cases hr;done))
abbrev Zabo(a0:Zn)(r:Bool):Prop:=(r=true->0<=a0.Zone/\a0.Zone<=5/\0<=a0.Who/\a0.Who<=2/\0<=a0.Self/\a0.Self<=2/\0<=a0.Tap/\a0.Tap<=2/\0<=a0.Power.Kind/\a0.Power.Kind<=3/\0<=a0.Tough.Kind/\a0.Tough.Kind<=3/\0<=a0.Value.Kind/\a0.Value.Kind<=3)
def Z5b(a0:Zn):Zye->Prop
 | .L0 E0=>(E0=a0)/\(Zch E0)/\(0<=E0.Zone/\E0.Zone<=5/\0<=E0.Who/\E0.Who<=2/\0<=E0.Self/\E0.Self<=2/\0<=E0.Tap/\E0.Tap<=2)
def Zajw:Zye->M6
 | .L0 E0=>(0,0,0,0,0,0)
theorem Zwl{a0:Zn}{E0:Zn}(h:(Z5b a0) (.L0 E0)):Tot (Zuv E0).den (Nx (Z5b a0) Zajw (0,0,0,0,0,0) (Zabo a0)):=by
 obtain⟨al0,O0,i0⟩:=h
 subst al0
 dsimp only [Zuv,LT.den]
 refine tB (Zwk) (fun x1 h2=>?_)
 have eh2_0:=h2
 refine tF (fun h3=>?_) (fun h3=>?_)
 .have h3_0:=eh2_0 h3
  refine tB (Zwk) (fun x4 h5=>?_)
  have eh5_0:=h5
  refine tF (fun h6=>?_) (fun h6=>?_)
  .have h6_0:=eh5_0 h6
   refine tB (Zwk) (fun x7 h8=>?_)
   have eh8_0:=h8
   exact tR (by intro hr;have:=eh8_0 hr;first | omega | (cases hr;done))
  .exact tR (by intro hr;cases hr)
 .exact tR (by intro hr;cases hr)
theorem Zhw{a0:Zn}(oa0:Zch a0):Tot (Zang a0) (Zabo a0):=by
 unfold Zang
 refine tX (Inv:=(Z5b a0)) (μ:=Zajw) (m:=(1000000,0,0,0,0,0)) ?_ ?_
 .dsimp only [Zane,LT.den]
  refine tD (fun h1=>?_) (fun h1=>?_)
  .exact tR (by intro hr;cases hr)
  .refine tD (fun h2=>?_) (fun h2=>?_)
   .exact tR (by intro hr;cases hr)
   .refine tD (fun h3=>?_) (fun h3=>?_)
    .exact tR (by intro hr;cases hr)
    .refine tD (fun h4=>?_) (fun h4=>?_)
     .exact tR (by intro hr;cases hr)
     .refine tD (fun h5=>?_) (fun h5=>?_)
      .exact tR (by intro hr;cases hr)
      .refine tD (fun h6=>?_) (fun h6=>?_)
       .exact tR (by intro hr;cases hr)
       .refine tD (fun h7=>?_) (fun h7=>?_)
        .exact tR (by intro hr;cases hr)
        .refine tD (fun h8=>?_) (fun h8=>?_)
         .exact tR (by intro hr;cases hr)
         .refine tB (Z59) (fun x9 h10=>?_)
          refine tO (fun h11=>?_) (fun h11=>?_)
          .exact tR (by intro hr;cases hr)
          .refine tB (Z59) (fun x12 h13=>?_)
           refine tO (fun h14=>?_) (fun h14=>?_)
           .exact tR (by intro hr;cases hr)
           .refine tO (fun h15=>?_) (fun h15=>?_)
            .refine tB (Zwj (SzS.t oa0)) (fun x16 h17=>?_)
             refine tO (fun h18=>?_) (fun h18=>?_)
             .exact tR (by intro hr;cases hr)
             .refine tD (fun h19=>?_) (fun h19=>?_)
              .exact tR (by intro hr;cases hr)
              .refine tD (fun h20=>?_) (fun h20=>?_)
               .exact tR (by intro hr;cases hr)
               .exact tJ (Zwl ⟨rfl,oa0,cl⟩)
            .refine tD (fun h21=>?_) (fun h21=>?_)
             .exact tR (by intro hr;cases hr)
             .refine tD (fun h22=>?_) (fun h22=>?_)
              .exact tR (by intro hr;cases hr)
              .exact tJ (Zwl ⟨rfl,oa0,cl⟩)
 .intro s hs
  cases s with
  | L0 _=>exact Zwl hs
def Zn4:Zol->Prop
 | .L0 E0 E1 v7 v8=>(Zbk E0)/\(Zbk E1)
 | .L1 E0 E1 v7 v16=>(Zbk E0)/\(Zbk E1)
def Z2l:Zol->M6
 | .L0 E0 E1 v7 v8=>(0,0,0,0,0,0)
 | .L1 E0 E1 v7 v16=>(0,0,0,0,0,0)
theorem Zsk{E0:Zq}{E1:Zq}{v7:Int}{v16:Bool}(h:Zn4 (.L1 E0 E1 v7 v16)):Tot (Zpa E0 E1 v7 v16).den (Nx Zn4 Z2l (0,0,0,0,0,0) (fun r=>(Zbk r))):=by
 obtain⟨O0,O1⟩:=h
 dsimp only [Zpa,LT.den]
 refine tF (fun h1=>?_) (fun h1=>?_)
 .exact tR ⟨SzS.nil,O0.2⟩
 .refine tE (fun h2=>?_) (fun h2=>?_)
  .exact tR ⟨O0.1,SzS.nil⟩
  .refine tE (fun h3=>?_) (fun h3=>?_)
   .exact tR ⟨O0.1,O0.2⟩
   .refine tE (fun h4=>?_) (fun h4=>?_)
    .exact tR ⟨O0.1,O0.2⟩
    .exact tR O0
theorem Zhx{E0:Zq}{E1:Zq}{v7:Int}{v8:Bool}(h:Zn4 (.L0 E0 E1 v7 v8)):Tot (Ziu E0 E1 v7 v8).den (Nx Zn4 Z2l (0,0,0,0,0,0) (fun r=>(Zbk r))):=by
 obtain⟨O0,O1⟩:=h
 dsimp only [Ziu,LT.den]
 refine tF (fun h1=>?_) (fun h1=>?_)
 .exact tR ⟨O0.1,O0.2⟩
 .refine tE (fun h2=>?_) (fun h2=>?_)
  .exact tJ (Zsk ⟨O0,O1⟩)
  .exact tJ (Zsk ⟨O0,O1⟩)
theorem Zao9{a0:Zq}(oa0:Zbk a0):Tot (Zaca a0) (fun r=>(Zbk r)):=by
 unfold Zaca
 refine tX (Inv:=Zn4) (μ:=Z2l) (m:=(1000000,0,0,0,0,0)) ?_ ?_
 .dsimp only [Zaex,LT.den]
  refine tE (fun h1=>?_) (fun h1=>?_)
  .exact tJ (Zhx ⟨⟨oa0.1,oa0.2⟩,⟨SzS.nil,SzS.nil⟩⟩)
  .refine tE (fun h2=>?_) (fun h2=>?_)
   .exact tJ (Zhx ⟨⟨oa0.1,oa0.2⟩,⟨SzS.nil,SzS.nil⟩⟩)
   .refine tE (fun h3=>?_) (fun h3=>?_)
    .exact tJ (Zhx ⟨⟨oa0.1,oa0.2⟩,⟨SzS.nil,SzS.nil⟩⟩)
    .refine tE (fun h4=>?_) (fun h4=>?_)
     .exact tJ (Zhx ⟨⟨oa0.1,oa0.2⟩,⟨SzS.nil,SzS.nil⟩⟩)
     .refine tE (fun h5=>?_) (fun h5=>?_)
      .exact tJ (Zhx ⟨⟨oa0.1,oa0.2⟩,⟨SzS.nil,SzS.nil⟩⟩)
      .exact tJ (Zhx ⟨⟨oa0.1,oa0.2⟩,⟨SzS.nil,SzS.nil⟩⟩)
 .intro s hs
  cases s with
  | L0 _ _ _ _=>exact Zhx hs
  | L1 _ _ _ _=>exact Zsk hs
theorem Zakh{a0:Int}:Tot (Z7d a0) (fun r=>True):=by
 unfold Z7d
 refine tZ ?_
 dsimp only [Zaac,LT.den]
 refine tD (fun h1=>?_) (fun h1=>?_)
 .refine tD (fun h2=>?_) (fun h2=>?_)
  .exact tR trivial
  .exact tR trivial
 .exact tR trivial
def Zxm:Zqh->Prop
 | .L0 E0 v18 v19=>(Zbk E0)/\True
 | .L1 E0 v18 v25=>(Zbk E0)/\True
 | .L2 E0 v18 v51=>(Zbk E0)/\True
def Z02:Zqh->M6
 | .L0 E0 v18 v19=>(0,0,0,0,0,0)
 | .L1 E0 v18 v25=>(0,0,0,0,0,0)
 | .L2 E0 v18 v51=>(0,0,0,0,0,0)
theorem Zwm{E0:Zq}{v18:Int}{v51:Bool}(h:(Zbk E0)/\True):Tot (Zuw E0 v18 v51).den (Nx Zxm Z02 (0,0,0,0,0,0) (fun r=>True)):=by
 obtain⟨O0,_⟩:=h
 dsimp only [Zuw,LT.den]
 refine tF (fun h1=>?_) (fun h1=>?_)
 .refine tD (fun h2=>?_) (fun h2=>?_)
  .exact tR trivial
  .exact tR trivial
 .refine tE (fun h3=>?_) (fun h3=>?_)
  .refine tB (Zhw O0.2) (fun x4 h5=>?_)
   have eh5_0:=h5
   exact tR trivial
  .refine tE (fun h6=>?_) (fun h6=>?_)
   .refine tD (fun h7=>?_) (fun h7=>?_)
    .refine tD (fun h8=>?_) (fun h8=>?_)
     .refine tD (fun h9=>?_) (fun h9=>?_)
      .exact tR trivial
      .exact tR trivial
     .exact tR trivial
    .exact tR trivial
   .refine tE (fun h10=>?_) (fun h10=>?_)
    .refine tD (fun h11=>?_) (fun h11=>?_)
     .refine tD (fun h12=>?_) (fun h12=>?_)
      .refine tD (fun h13=>?_) (fun h13=>?_)
       .exact tR trivial
       .exact tR trivial
      .exact tR trivial
     .exact tR trivial
    .exact tR trivial
theorem Zwn{E0:Zq}{v18:Int}{v25:Bool}(h:(Zbk E0)/\True):Tot (Zux E0 v18 v25).den (Nx Zxm Z02 (0,0,0,0,0,0) (fun r=>True)):=by
 obtain⟨O0,_⟩:=h
 dsimp only [Zux,LT.den]
 refine tF (fun h1=>?_) (fun h1=>?_)
 .refine tB (Zwj (SzS.t O0.1)) (fun x2 h3=>?_)
  exact tR trivial
 .refine tE (fun h4=>?_) (fun h4=>?_)
  .refine tD (fun h5=>?_) (fun h5=>?_)
   .exact tR trivial
   .exact tR trivial
  .refine tE (fun h6=>?_) (fun h6=>?_)
   .refine tD (fun h7=>?_) (fun h7=>?_)
    .exact tR trivial
    .exact tR trivial
   .refine tE (fun h8=>?_) (fun h8=>?_)
    .exact tJ (Zwm ⟨O0,trivial⟩)
    .exact tJ (Zwm ⟨O0,trivial⟩)
theorem Zwo{E0:Zq}{v18:Int}{v19:Bool}(h:(Zbk E0)/\True):Tot (Zuy E0 v18 v19).den (Nx Zxm Z02 (0,0,0,0,0,0) (fun r=>True)):=by
 obtain⟨O0,_⟩:=h
 dsimp only [Zuy,LT.den]
 refine tF (fun h1=>?_) (fun h1=>?_)
 .refine tB (Zakh) (fun x2 h3=>?_)
  exact tR trivial
 .refine tE (fun h4=>?_) (fun h4=>?_)
  .exact tJ (Zwn ⟨O0,trivial⟩)
  .exact tJ (Zwn ⟨O0,trivial⟩)
theorem Zagt{a0:Zq}(oa0:Zbk a0):Tot (Zank a0) (fun r=>True):=by
 unfold Zank
 refine tX (Inv:=Zxm) (μ:=Z02) (m:=(1000000,0,0,0,0,0)) ?_ ?_
 .dsimp only [Zani,LT.den]
  refine tD (fun h1=>?_) (fun h1=>?_)
  .exact tR trivial
  .refine tD (fun h2=>?_) (fun h2=>?_)
   .exact tR trivial
   .refine tB (Zao9 oa0) (fun x3 h4=>?_)
    refine tO (fun h5=>?_) (fun h5=>?_)
    .exact tR trivial
    .refine tE (fun h6=>?_) (fun h6=>?_)
     .exact tJ (Zwo ⟨oa0,trivial⟩)
     .exact tJ (Zwo ⟨oa0,trivial⟩)
 .intro s hs
  cases s with
  | L0 _ _ _=>exact Zwo hs
  | L1 _ _ _=>exact Zwn hs
  | L2 _ _ _=>exact Zwm hs
def Zaiq:Zng->Prop
 | .L0 v0 v1 v2 v7 v8=>((SzL 16 SzN) v0)/\(SzN v2)/\(0<=v8)/\(v7.length<=200*v8.toNat)/\(v0.length<=100)/\(v8<=v0.length)
def Zmi:Zng->M6
 | .L0 v0 v1 v2 v7 v8=>(1,((v0.length:Int) - v8).toNat,1000000,0,0,0)
theorem Zair{a0:List (List UInt8)}{a1:Int}{a2:List UInt8}(oa0:(SzL 16 SzN) a0)(oa2:SzN a2)(h0:a0.length<=100):Tot (Z4j a0 a1 a2) (fun r=>(SzT r)/\(r.length<=20000)):=by
 unfold Z4j
 refine tX (Inv:=Zaiq) (μ:=Zmi) (m:=(1000000,0,0,0,0,0)) ?_ ?_
 .have lb_a0:=oa0.1
  have lb_a2:a2.length<=100:=oa2
  dsimp only [Z7e,LT.den]
  exact tL ⟨oa0,oa2,cl,cl,cl,cl⟩ (by unfold Zmi lt6;dsimp only;omega)
 .intro s hs
  cases s with
  | L0 v0 v1 v2 v7 v8=>
   obtain⟨ov0,ov2,cv8,i0,i1,i2⟩:=hs
   have lb_v0:=ov0.1
   have lb_v2:v2.length<=100:=ov2
   show Tot (Zvv v0 v1 v2 v7 v8).den _
   dsimp only [Zvv,LT.den]
   have q1:=(SzL.nt ov0).1
   refine tD (fun h2=>?_) (fun h2=>?_)
   .refine tB (Z2k cl) (fun x3 h4=>?_)
    refine tF (fun h5=>?_) (fun h5=>?_)
    .refine tO (fun h6=>?_) (fun h6=>?_)
     .have q7:v2.length<=100:=ov2
      refine tB (tK (by first | (simp only [List.length_append,List.length_cons,List.length_nil];omega) | omega)) (fun x8 h9=>?_)
      refine tB (tI (by omega) (by omega)) (fun x10 h11=>?_)
      have oh11:SzN x10:=ov0.2 x10 h11.1
      have q12:x10.length<=100:=oh11
      refine tB (tK (by first | (simp only [List.length_append,List.length_cons,List.length_nil];omega) | omega)) (fun x13 h14=>?_)
      refine qw (v8+1) fun q15 q16=>?_
      exact tL ⟨ov0,ov2,cl,cl,cl,cl⟩ (by unfold Zmi lt6;dsimp only;omega)
     .refine tB (tI (by omega) (by omega)) (fun x17 h18=>?_)
      have oh18:SzN x17:=ov0.2 x17 h18.1
      have q19:x17.length<=100:=oh18
      refine tB (tK (by first | (simp only [List.length_append,List.length_cons,List.length_nil];omega) | omega)) (fun x20 h21=>?_)
      refine qw (v8+1) fun q22 q23=>?_
      exact tL ⟨ov0,ov2,cl,cl,cl,cl⟩ (by unfold Zmi lt6;dsimp only;omega)
    .refine qw (v8+1) fun q24 q25=>?_
     exact tL ⟨ov0,ov2,cl,cl,cl,cl⟩ (by unfold Zmi lt6;dsimp only;omega)
   .exact tR ⟨(by unfold SzT;first | omega | (simp only [List.length_append,List.length_cons,List.length_nil];omega)),cl⟩
theorem Zo4{a0:Int}:Tot (Zvw a0) (fun r=>(SzT r)/\(r.length<=20000)):=by
 unfold Zvw
 refine tZ ?_
 dsimp only [Zz7,LT.den]
 refine tD (fun h1=>?_) (fun h1=>?_)
 .exact tR ⟨SzT.nil,cl⟩
 .refine tD (fun h2=>?_) (fun h2=>?_)
  .exact tR ⟨SzT.nil,cl⟩
  .refine tB (Zxd) (fun x3 h4=>?_)
   have eh4_1:=h4.2
   refine tB (Zair h4.1 (by unfold SzN;first | omega | (simp only [List.length_append,List.length_cons,List.length_nil];omega)) cl) (fun x5 h6=>?_)
   have eh6_1:=h6.2
   exact tR ⟨h6.1,cl⟩
theorem Zatx{a0:Int}:Tot (Zann a0) (fun r=>True):=by
 unfold Zann
 refine tZ ?_
 dsimp only [Zanl,LT.den]
 refine tD (fun h1=>?_) (fun h1=>?_)
 .exact tR trivial
 .exact tR trivial
theorem Zsl{a0:Int}:Tot (Zacb a0) (fun r=>(SzN r)):=by
 unfold Zacb
 refine tZ ?_
 dsimp only [Zaez,LT.den]
 refine tE (fun h1=>?_) (fun h1=>?_)
 .exact tR (by unfold SzN;first | omega | (simp only [List.length_append,List.length_cons,List.length_nil];omega))
 .refine tE (fun h2=>?_) (fun h2=>?_)
  .exact tR (by unfold SzN;first | omega | (simp only [List.length_append,List.length_cons,List.length_nil];omega))
  .refine tE (fun h3=>?_) (fun h3=>?_)
   .exact tR (by unfold SzN;first | omega | (simp only [List.length_append,List.length_cons,List.length_nil];omega))
   .refine tE (fun h4=>?_) (fun h4=>?_)
    .exact tR (by unfold SzN;first | omega | (simp only [List.length_append,List.length_cons,List.length_nil];omega))
    .refine tE (fun h5=>?_) (fun h5=>?_)
     .exact tR (by unfold SzN;first | omega | (simp only [List.length_append,List.length_cons,List.length_nil];omega))
     .exact tR (SzN.nil)
def Zapa:Zrr->Prop
 | .L0 v0 v3 v4=>(0<=v4)/\(v3.length<=200*v4.toNat)/\(v4<=5)
def Zps:Zrr->M6
 | .L0 v0 v3 v4=>(1,(5 - v4).toNat,1000000,0,0,0)
theorem Z8n{a0:Int}:Tot (Zacc a0) (fun r=>(SzT r)):=by
 unfold Zacc
 refine tX (Inv:=Zapa) (μ:=Zps) (m:=(1000000,0,0,0,0,0)) ?_ ?_
 .dsimp only [Zae1,LT.den]
  refine tB (Zatx) (fun x1 h2=>?_)
  refine tO (fun h3=>?_) (fun h3=>?_)
  .exact tR (SzT.nil)
  .refine tE (fun h4=>?_) (fun h4=>?_)
   .exact tR (by unfold SzT;first | omega | (simp only [List.length_append,List.length_cons,List.length_nil];omega))
   .exact tL ⟨cl,cl,cl⟩ (by unfold Zps lt6;dsimp only;omega)
 .intro s hs
  cases s with
  | L0 v0 v3 v4=>
   obtain⟨cv4,i0,i1⟩:=hs
   show Tot (Z1i v0 v3 v4).den _
   dsimp only [Z1i,LT.den]
   refine tD (fun h1=>?_) (fun h1=>?_)
   .refine tB (tK (by first | omega | exact shl_ne' (by omega) (by omega) | decide)) (fun x2 h3=>?_)
    refine tB (tK (by first | omega | exact shl_ne' (by omega) (by omega) | decide)) (fun x4 h5=>?_)
    refine tE (fun h6=>?_) (fun h6=>?_)
    .refine tO (fun h7=>?_) (fun h7=>?_)
     .refine tB (tK (by first | (simp only [List.length_append,List.length_cons,List.length_nil];omega) | omega)) (fun x8 h9=>?_)
      refine tB (Zsl) (fun x10 h11=>?_)
      have q12:x10.length<=100:=h11
      refine tB (tK (by first | (simp only [List.length_append,List.length_cons,List.length_nil];omega) | omega)) (fun x13 h14=>?_)
      refine qw (v4+1) fun q15 q16=>?_
      exact tL ⟨cl,cl,cl⟩ (by unfold Zps lt6;dsimp only;omega)
     .refine tB (Zsl) (fun x17 h18=>?_)
      have q19:x17.length<=100:=h18
      refine tB (tK (by first | (simp only [List.length_append,List.length_cons,List.length_nil];omega) | omega)) (fun x20 h21=>?_)
      refine qw (v4+1) fun q22 q23=>?_
      exact tL ⟨cl,cl,cl⟩ (by unfold Zps lt6;dsimp only;omega)
    .refine qw (v4+1) fun q24 q25=>?_
     exact tL ⟨cl,cl,cl⟩ (by unfold Zps lt6;dsimp only;omega)
   .exact tR (by unfold SzT;first | omega | (simp only [List.length_append,List.length_cons,List.length_nil];omega))
theorem Zaki:Tot (Zz9) (fun r=>((SzL 16 SzN) r)/\(r.length=17)):=by
 unfold Zz9
 refine tZ ?_
 dsimp only [Zaaf,LT.den]
 have q1:(SzL 16 SzN) ([([102,108,121,105,110,103]:List UInt8),([114,101,97,99,104]:List UInt8),([104,97,115,116,101]:List UInt8),([118,105,103,105,108,97,110,116]:List UInt8),([116,114,97,109,112,108,101]:List UInt8),([102,105,114,115,116,45,115,116,114,105,107,101]:List UInt8),([100,111,117,98,108,101,45,115,116,114,105,107,101]:List UInt8),([100,101,97,100,108,121]:List UInt8),([108,105,102,101,108,105,110,107]:List UInt8),([109,101,110,97,99,101]:List UInt8),([100,101,102,101,110,100,101,114]:List UInt8),([119,97,114,100,101,100]:List UInt8),([115,116,117,114,100,121]:List UInt8),([101,108,117,115,105,118,101]:List UInt8),([110,111,45,97,116,116,97,99,107]:List UInt8),([110,111,45,98,108,111,99,107]:List UInt8),([109,117,115,116,45,97,116,116,97,99,107]:List UInt8)]:List (List UInt8)):=⟨by simp only [List.length_cons,List.length_nil];omega,mem_cons' (by unfold SzN;first | omega | (simp only [List.length_append,List.length_cons,List.length_nil];omega)) (mem_cons' (by unfold SzN;first | omega | (simp only [List.length_append,List.length_cons,List.length_nil];omega)) (mem_cons' (by unfold SzN;first | omega | (simp only [List.length_append,List.length_cons,List.length_nil];omega)) (mem_cons' (by unfold SzN;first | omega | (simp only [List.length_append,List.length_cons,List.length_nil];omega)) (mem_cons' (by unfold SzN;first | omega | (simp only [List.length_append,List.length_cons,List.length_nil];omega)) (mem_cons' (by unfold SzN;first | omega | (simp only [List.length_append,List.length_cons,List.length_nil];omega)) (mem_cons' (by unfold SzN;first | omega | (simp only [List.length_append,List.length_cons,List.length_nil];omega)) (mem_cons' (by unfold SzN;first | omega | (simp only [List.length_append,List.length_cons,List.length_nil];omega)) (mem_cons' (by unfold SzN;first | omega | (simp only [List.length_append,List.length_cons,List.length_nil];omega)) (mem_cons' (by unfold SzN;first | omega | (simp only [List.length_append,List.length_cons,List.length_nil];omega)) (mem_cons' (by unfold SzN;first | omega | (simp only [List.length_append,List.length_cons,List.length_nil];omega)) (mem_cons' (by unfold SzN;first | omega | (simp only [List.length_append,List.length_cons,List.length_nil];omega)) (mem_cons' (by unfold SzN;first | omega | (simp only [List.length_append,List.length_cons,List.length_nil];omega)) (mem_cons' (by unfold SzN;first | omega | (simp only [List.length_append,List.length_cons,List.length_nil];omega)) (mem_cons' (by unfold SzN;first | omega | (simp only [List.length_append,List.length_cons,List.length_nil];omega)) (mem_cons' (by unfold SzN;first | omega | (simp only [List.length_append,List.length_cons,List.length_nil];omega)) (mem_cons' (by unfold SzN;first | omega | (simp only [List.length_append,List.length_cons,List.length_nil];omega)) (fun _ h=>by cases h)))))))))))))))))⟩
 have lq1:([([102,108,121,105,110,103]:List UInt8),([114,101,97,99,104]:List UInt8),([104,97,115,116,101]:List UInt8),([118,105,103,105,108,97,110,116]:List UInt8),([116,114,97,109,112,108,101]:List UInt8),([102,105,114,115,116,45,115,116,114,105,107,101]:List UInt8),([100,111,117,98,108,101,45,115,116,114,105,107,101]:List UInt8),([100,101,97,100,108,121]:List UInt8),([108,105,102,101,108,105,110,107]:List UInt8),([109,101,110,97,99,101]:List UInt8),([100,101,102,101,110,100,101,114]:List UInt8),([119,97,114,100,101,100]:List UInt8),([115,116,117,114,100,121]:List UInt8),([101,108,117,115,105,118,101]:List UInt8),([110,111,45,97,116,116,97,99,107]:List UInt8),([110,111,45,98,108,111,99,107]:List UInt8),([109,117,115,116,45,97,116,116,97,99,107]:List UInt8)]:List (List UInt8)).length=17:=rfl
 exact tR ⟨q1,cl⟩
theorem Zzf{a0:Int}:Tot (Zacd a0) (fun r=>(SzN r)):=by
 unfold Zacd
 refine tZ ?_
 dsimp only [Zae3,LT.den]
 refine tD (fun h1=>?_) (fun h1=>?_)
 .exact tR (SzN.nil)
 .refine tD (fun h2=>?_) (fun h2=>?_)
  .exact tR (SzN.nil)
  .refine tB (Zaki) (fun x3 h4=>?_)
   have eh4_1:=h4.2
   refine tB (tI (by omega) (by omega)) (fun x5 h6=>?_)
   have oh6:SzN x5:=h4.1.2 x5 h6.1
   exact tR oh6
def Zapb:Zrs->Prop
 | .L0 v0 v3 v4=>(0<=v4)/\(v3.length<=200*v4.toNat)/\(v4<=17)
def Zpt:Zrs->M6
 | .L0 v0 v3 v4=>(1,(17 - v4).toNat,1000000,0,0,0)
theorem Z8o{a0:Int}:Tot (Zace a0) (fun r=>(SzT r)):=by
 unfold Zace
 refine tX (Inv:=Zapb) (μ:=Zpt) (m:=(1000000,0,0,0,0,0)) ?_ ?_
 .dsimp only [Zae5,LT.den]
  refine tB (Zags) (fun x1 h2=>?_)
  refine tO (fun h3=>?_) (fun h3=>?_)
  .exact tR (SzT.nil)
  .exact tL ⟨cl,cl,cl⟩ (by unfold Zpt lt6;dsimp only;omega)
 .intro s hs
  cases s with
  | L0 v0 v3 v4=>
   obtain⟨cv4,i0,i1⟩:=hs
   show Tot (Z1k v0 v3 v4).den _
   dsimp only [Z1k,LT.den]
   refine tD (fun h1=>?_) (fun h1=>?_)
   .refine tE (fun h2=>?_) (fun h2=>?_)
    .refine tO (fun h3=>?_) (fun h3=>?_)
     .refine tB (tK (by first | (simp only [List.length_append,List.length_cons,List.length_nil];omega) | omega)) (fun x4 h5=>?_)
      refine tB (Zzf) (fun x6 h7=>?_)
      have q8:x6.length<=100:=h7
      refine tB (tK (by first | (simp only [List.length_append,List.length_cons,List.length_nil];omega) | omega)) (fun x9 h10=>?_)
      refine qw (v4+1) fun q11 q12=>?_
      exact tL ⟨cl,cl,cl⟩ (by unfold Zpt lt6;dsimp only;omega)
     .refine tB (Zzf) (fun x13 h14=>?_)
      have q15:x13.length<=100:=h14
      refine tB (tK (by first | (simp only [List.length_append,List.length_cons,List.length_nil];omega) | omega)) (fun x16 h17=>?_)
      refine qw (v4+1) fun q18 q19=>?_
      exact tL ⟨cl,cl,cl⟩ (by unfold Zpt lt6;dsimp only;omega)
    .refine qw (v4+1) fun q20 q21=>?_
     exact tL ⟨cl,cl,cl⟩ (by unfold Zpt lt6;dsimp only;omega)
   .refine tF (fun h22=>?_) (fun h22=>?_)
    .exact tR (by unfold SzT;first | omega | (simp only [List.length_append,List.length_cons,List.length_nil];omega))
    .exact tR (by unfold SzT;first | omega | (simp only [List.length_append,List.length_cons,List.length_nil];omega))
theorem Z9s:Tot (Zp1) (fun r=>((SzL 16 SzN) r)/\(r.length=6)):=by
 unfold Zp1
 refine tZ ?_
 dsimp only [Z0a,LT.den]
 have q1:(SzL 16 SzN) ([([]:List UInt8),([105,110,45,104,97,110,100]:List UInt8),([105,110,45,108,105,98,114,97,114,121]:List UInt8),([105,110,45,103,114,97,118,101,121,97,114,100]:List UInt8),([105,110,45,101,120,105,108,101]:List UInt8),([111,110,45,115,116,97,99,107]:List UInt8)]:List (List UInt8)):=⟨by simp only [List.length_cons,List.length_nil];omega,mem_cons' (SzN.nil) (mem_cons' (by unfold SzN;first | omega | (simp only [List.length_append,List.length_cons,List.length_nil];omega)) (mem_cons' (by unfold SzN;first | omega | (simp only [List.length_append,List.length_cons,List.length_nil];omega)) (mem_cons' (by unfold SzN;first | omega | (simp only [List.length_append,List.length_cons,List.length_nil];omega)) (mem_cons' (by unfold SzN;first | omega | (simp only [List.length_append,List.length_cons,List.length_nil];omega)) (mem_cons' (by unfold SzN;first | omega | (simp only [List.length_append,List.length_cons,List.length_nil];omega)) (fun _ h=>by cases h))))))⟩
 have lq1:([([]:List UInt8),([105,110,45,104,97,110,100]:List UInt8),([105,110,45,108,105,98,114,97,114,121]:List UInt8),([105,110,45,103,114,97,118,101,121,97,114,100]:List UInt8),([105,110,45,101,120,105,108,101]:List UInt8),([111,110,45,115,116,97,99,107]:List UInt8)]:List (List UInt8)).length=6:=rfl
 exact tR ⟨q1,cl⟩
theorem Zadc:Tot (Zrt) (fun r=>((SzL 16 SzN) r)/\(r.length=3)):=by
 unfold Zrt
 refine tZ ?_
 dsimp only [Z23,LT.den]
 have q1:(SzL 16 SzN) ([([]:List UInt8),([121,111,117,114,115]:List UInt8),([116,104,101,105,114,115]:List UInt8)]:List (List UInt8)):=⟨by simp only [List.length_cons,List.length_nil];omega,mem_cons' (SzN.nil) (mem_cons' (by unfold SzN;first | omega | (simp only [List.length_append,List.length_cons,List.length_nil];omega)) (mem_cons' (by unfold SzN;first | omega | (simp only [List.length_append,List.length_cons,List.length_nil];omega)) (fun _ h=>by cases h)))⟩
 have lq1:([([]:List UInt8),([121,111,117,114,115]:List UInt8),([116,104,101,105,114,115]:List UInt8)]:List (List UInt8)).length=3:=rfl
 exact tR ⟨q1,cl⟩
theorem Z9t:Tot (Zp2) (fun r=>((SzL 16 SzN) r)/\(r.length=3)):=by
 unfold Zp2
 refine tZ ?_
 dsimp only [Z0c,LT.den]
 have q1:(SzL 16 SzN) ([([]:List UInt8),([115,101,108,102]:List UInt8),([111,116,104,101,114]:List UInt8)]:List (List UInt8)):=⟨by simp only [List.length_cons,List.length_nil];omega,mem_cons' (SzN.nil) (mem_cons' (by unfold SzN;first | omega | (simp only [List.length_append,List.length_cons,List.length_nil];omega)) (mem_cons' (by unfold SzN;first | omega | (simp only [List.length_append,List.length_cons,List.length_nil];omega)) (fun _ h=>by cases h)))⟩
 have lq1:([([]:List UInt8),([115,101,108,102]:List UInt8),([111,116,104,101,114]:List UInt8)]:List (List UInt8)).length=3:=rfl
 exact tR ⟨q1,cl⟩
theorem Zadd:Tot (Zru) (fun r=>((SzL 16 SzN) r)/\(r.length=3)):=by
 unfold Zru
 refine tZ ?_
 dsimp only [Z25,LT.den]
 have q1:(SzL 16 SzN) ([([]:List UInt8),([116,97,112,112,101,100]:List UInt8),([117,110,116,97,112,112,101,100]:List UInt8)]:List (List UInt8)):=⟨by simp only [List.length_cons,List.length_nil];omega,mem_cons' (SzN.nil) (mem_cons' (by unfold SzN;first | omega | (simp only [List.length_append,List.length_cons,List.length_nil];omega)) (mem_cons' (by unfold SzN;first | omega | (simp only [List.length_append,List.length_cons,List.length_nil];omega)) (fun _ h=>by cases h)))⟩
 have lq1:([([]:List UInt8),([116,97,112,112,101,100]:List UInt8),([117,110,116,97,112,112,101,100]:List UInt8)]:List (List UInt8)).length=3:=rfl
 exact tR ⟨q1,cl⟩
def Zard:Zuz->Prop
 | .L0 v0 v1 v5=>(0<=v5)/\(v1<=100)
def Z5c:Zuz->M6
 | .L0 v0 v1 v5=>(1,(v1 - v5).toNat,1000000,0,0,0)
theorem Zpu{a0:Int}{a1:Int}(h0:a1<=100):Tot (Zah8 a0 a1) (fun r=>True):=by
 unfold Zah8
 refine tX (Inv:=Zard) (μ:=Z5c) (m:=(1000000,0,0,0,0,0)) ?_ ?_
 .dsimp only [Zajp,LT.den]
  exact tL ⟨cl,cl⟩ (by unfold Z5c lt6;dsimp only;omega)
 .intro s hs
  cases s with
  | L0 v0 v1 v5=>
   obtain⟨cv5,i0⟩:=hs
   show Tot (Z4k v0 v1 v5).den _
   dsimp only [Z4k,LT.den]
   refine tD (fun h1=>?_) (fun h1=>?_)
   .refine qw (v5+1) fun q2 q3=>?_
    exact tL ⟨cl,cl⟩ (by unfold Z5c lt6;dsimp only;omega)
   .exact tR trivial
def Zade:Zks->Prop
 | .L0 v0 v3 v4=>(0<=v4)/\(v0<=100)
def Zsm:Zks->M6
 | .L0 v0 v3 v4=>(1,(v0 - v4).toNat,1000000,0,0,0)
theorem Zzg{a0:Int}(h0:a0<=100):Tot (Zyf a0) (fun r=>(SzT r)/\(r.length<=20000)):=by
 unfold Zyf
 refine tX (Inv:=Zade) (μ:=Zsm) (m:=(1000000,0,0,0,0,0)) ?_ ?_
 .dsimp only [Z27,LT.den]
  exact tL ⟨cl,cl⟩ (by unfold Zsm lt6;dsimp only;omega)
 .intro s hs
  cases s with
  | L0 v0 v3 v4=>
   obtain⟨cv4,i0⟩:=hs
   show Tot (Zrw v0 v3 v4).den _
   dsimp only [Zrw,LT.den]
   refine tD (fun h1=>?_) (fun h1=>?_)
   .refine qw (v3*2) fun q2 q3=>?_
    refine qw (v4+1) fun q4 q5=>?_
    exact tL ⟨cl,cl⟩ (by unfold Zsm lt6;dsimp only;omega)
   .refine tB (Zo4) (fun x6 h7=>?_)
    have eh7_1:=h7.2
    exact tR ⟨h7.1,cl⟩
theorem Zakj:Tot (Z0f) (fun r=>((SzL 16 SzN) r)/\(r.length=4)):=by
 unfold Z0f
 refine tZ ?_
 dsimp only [Zaai,LT.den]
 have q1:(SzL 16 SzN) ([([]:List UInt8),([62,61]:List UInt8),([60,61]:List UInt8),([61]:List UInt8)]:List (List UInt8)):=⟨by simp only [List.length_cons,List.length_nil];omega,mem_cons' (SzN.nil) (mem_cons' (by unfold SzN;first | omega | (simp only [List.length_append,List.length_cons,List.length_nil];omega)) (mem_cons' (by unfold SzN;first | omega | (simp only [List.length_append,List.length_cons,List.length_nil];omega)) (mem_cons' (by unfold SzN;first | omega | (simp only [List.length_append,List.length_cons,List.length_nil];omega)) (fun _ h=>by cases h))))⟩
 have lq1:([([]:List UInt8),([62,61]:List UInt8),([60,61]:List UInt8),([61]:List UInt8)]:List (List UInt8)).length=4:=rfl
 exact tR ⟨q1,cl⟩
theorem Zayq{n:Int}(h0:0<=n)(h1:n < 18446744073709551616):Zrp .u64 n 10=n / 10:=by
 unfold Zrp
 rw [Int.tdiv_eq_ediv_of_nonneg h0]
 have h2:0<=n / 10:=by omega
 have h3:n / 10 < 18446744073709551616:=by omega
 simp only [IntKind.wrap,IntKind.bits,IntKind.signed,Bool.false_and,Bool.false_eq_true,if_false]
 exact Int.emod_eq_of_lt h2 h3
theorem Z03:∀ (k:Nat) (n:Int) (s:List UInt8),k<=20->0<=n->n < 10 ^ k->n < 18446744073709551616->s.length+k<=40->Tot (Za6 Zrx.step (.L0 n s)) fun r=>SzN r/\r.length<=40
 | 0,n,s,_,h0,h1,_,hs=>by
  have:n=0:=by omega
  subst this
  refine Tot.stop (r:=s) ?_ ⟨show s.length<=100 by omega,by omega⟩
  show (Zi8 _ _).den=_
  dsimp only [Zi8,LT.den]
  rfl
 | k+1,n,s,hk,h0,h1,h2,hs=>by
  by_cases hn:n > 0
  .obtain⟨d,hd,hl⟩:=Tot.str (xs:=[IntKind.wrap .u8 (IntKind.wrap .u64 (48+(Int.tmod n 10)))]) (by simp) (by intro m hm;simp only [List.mem_cons,List.not_mem_nil,or_false] at hm;subst hm;exact Zavv _)
   simp only [List.length_cons,List.length_nil] at hl
   have e:Zrx.step (.L0 n s)=some (.inl (.L0 (n / 10) (d++s))):=by
    show (Zi8 _ _).den=_
    dsimp only [Zi8,LT.den]
    rw [decide_eq_true hn,cond_true,hd,Option.bind_some,decide_eq_true (show d.length+s.length<=9223372036854775807 by omega),Zayq h0 h2]
    rfl
   obtain⟨r,hr,hp⟩:=Z03 k (n / 10) (d++s) (by omega) (by omega) (by
    rw [Int.pow_succ] at h1
    have:n / 10 < 10 ^ k:=Int.ediv_lt_of_lt_mul (by decide) h1
    exact this) (by omega) (by rw [List.length_append];omega)
   exact⟨r,by rw [Zek e];exact hr,hp⟩
  .refine Tot.stop (r:=s) ?_ ⟨show s.length<=100 by omega,by omega⟩
   show (Zi8 _ _).den=_
   dsimp only [Zi8,LT.den]
   rw [decide_eq_false hn];rfl
theorem Z3p(a0:Int)(h0:0<=a0)(h1:a0 < 18446744073709551616):Tot (Z4l a0) (fun r=>(SzN r)/\(r.length<=40)):=by
 unfold Z4l LF.run;dsimp only [Z7g,LT.den]
 obtain⟨d,hd,hl⟩:=Tot.str (xs:=[IntKind.wrap .u8 (IntKind.wrap .u64 (48+(Int.tmod a0 10)))]) (by simp) (by intro m hm;simp only [List.mem_cons,List.not_mem_nil,or_false] at hm;subst hm;exact Zavv _)
 simp only [List.length_cons,List.length_nil] at hl
 rw [hd,Option.bind_some,Option.bind_some,Zbf,Zayq h0 h1]
 exact Z03 20 (a0 / 10) d (by omega) (by omega) (by omega) (by omega) (by omega)
theorem Zk4{a0:Int}:Tot (Zacj a0) (fun r=>(SzN r)):=by
 unfold Zacj
 refine tZ ?_
 dsimp only [Zae9,LT.den]
 refine tD (fun h1=>?_) (fun h1=>?_)
 .have q2:0<=IntKind.wrap .u64 a0/\IntKind.wrap .u64 a0 < 18446744073709551616:=Zah4 _
  have q3:0<=IntKind.wrap .u64 (0 - (IntKind.wrap .u64 a0))/\IntKind.wrap .u64 (0 - (IntKind.wrap .u64 a0)) < 18446744073709551616:=Zah4 _
  refine tB (Z3p (IntKind.wrap .u64 (0 - (IntKind.wrap .u64 a0))) cl cl) (fun x4 h5=>?_)
  have eh5_1:=h5.2
  have q6:x4.length<=100:=h5.1
  refine tB (tK (by first | (simp only [List.length_append,List.length_cons,List.length_nil];omega) | omega)) (fun x7 h8=>?_)
  exact tR (by unfold SzN;first | omega | (simp only [List.length_append,List.length_cons,List.length_nil];omega))
 .have q9:0<=IntKind.wrap .u64 a0/\IntKind.wrap .u64 a0 < 18446744073709551616:=Zah4 _
  refine tB (Z3p (IntKind.wrap .u64 a0) cl cl) (fun x10 h11=>?_)
  have eh11_1:=h11.2
  exact tR h11.1
theorem Zo5{a0:List UInt8}{a1:Zg}(oa0:SzN a0)(h0:0<=a1.Kind)(h1:a1.Kind<=3):Tot (Zvx a0 a1) (fun r=>(SzT r)):=by
 unfold Zvx
 refine tZ ?_
 have lb_a0:a0.length<=100:=oa0
 dsimp only [Z0g,LT.den]
 refine tE (fun h1=>?_) (fun h1=>?_)
 .exact tR (SzT.nil)
 .refine tB (Zakj) (fun x2 h3=>?_)
  have eh3_1:=h3.2
  refine tB (tI (by omega) (by omega)) (fun x4 h5=>?_)
  have oh5:SzN x4:=h3.1.2 x4 h5.1
  have q6:a0.length<=100:=oa0
  have q7:x4.length<=100:=oh5
  refine tB (tK (by first | (simp only [List.length_append,List.length_cons,List.length_nil];omega) | omega)) (fun x8 h9=>?_)
  refine tB (Zk4) (fun x10 h11=>?_)
  have q12:x10.length<=100:=h11
  refine tB (tK (by first | (simp only [List.length_append,List.length_cons,List.length_nil];omega) | omega)) (fun x13 h14=>?_)
  exact tR (by unfold SzT;first | omega | (simp only [List.length_append,List.length_cons,List.length_nil];omega))
def Zapc:Zry->Prop
 | .L0 v0 v1 v5 v6=>((SzL 16 SzT) v0)/\(SzN v1)/\(0<=v6)/\(v5.length<=1125899906842624*v6.toNat)/\(v0.length<=100)/\(v6<=v0.length)
def Zue:Zry->M6
 | .L0 v0 v1 v5 v6=>(1,((v0.length:Int) - v6).toNat,1000000,0,0,0)
theorem Zapd{a0:List (List UInt8)}{a1:List UInt8}(oa0:(SzL 16 SzT) a0)(oa1:SzN a1)(h0:a0.length<=100):Tot (Zack a0 a1) (fun r=>(r.length<=144115188075855872)):=by
 unfold Zack
 refine tX (Inv:=Zapc) (μ:=Zue) (m:=(1000000,0,0,0,0,0)) ?_ ?_
 .have lb_a0:=oa0.1
  have lb_a1:a1.length<=100:=oa1
  dsimp only [Zafb,LT.den]
  exact tL ⟨oa0,oa1,cl,cl,cl,cl⟩ (by unfold Zue lt6;dsimp only;omega)
 .intro s hs
  cases s with
  | L0 v0 v1 v5 v6=>
   obtain⟨ov0,ov1,cv6,i0,i1,i2⟩:=hs
   have lb_v0:=ov0.1
   have lb_v1:v1.length<=100:=ov1
   show Tot (Z1l v0 v1 v5 v6).den _
   dsimp only [Z1l,LT.den]
   have q1:=ov0.1
   refine tD (fun h2=>?_) (fun h2=>?_)
   .refine tD (fun h3=>?_) (fun h3=>?_)
    .have q4:v1.length<=100:=ov1
     refine tB (tK (by first | (simp only [List.length_append,List.length_cons,List.length_nil];omega) | omega)) (fun x5 h6=>?_)
     refine tB (tI (by omega) (by omega)) (fun x7 h8=>?_)
     have oh8:SzT x7:=ov0.2 x7 h8.1
     have q9:x7.length<=562949953421312:=oh8
     refine tB (tK (by first | (simp only [List.length_append,List.length_cons,List.length_nil];omega) | omega)) (fun x10 h11=>?_)
     refine qw (v6+1) fun q12 q13=>?_
     exact tL ⟨ov0,ov1,cl,cl,cl,cl⟩ (by unfold Zue lt6;dsimp only;omega)
    .refine tB (tI (by omega) (by omega)) (fun x14 h15=>?_)
     have oh15:SzT x14:=ov0.2 x14 h15.1
     have q16:x14.length<=562949953421312:=oh15
     refine tB (tK (by first | (simp only [List.length_append,List.length_cons,List.length_nil];omega) | omega)) (fun x17 h18=>?_)
     refine qw (v6+1) fun q19 q20=>?_
     exact tL ⟨ov0,ov1,cl,cl,cl,cl⟩ (by unfold Zue lt6;dsimp only;omega)
   .exact tR cl
theorem Zg6{b0:List (List UInt8)}{a1:List UInt8}(ob0:(SzL 16 SzT) b0)(oa1:SzT a1)(h0:b0.length<=1000):Tot (Zyh b0 a1) (fun r=>((SzL 16 SzT) r)/\(r.length<=b0.length+1)):=by
 unfold Zyh
 refine tZ ?_
 have lb_b0:=ob0.1
 have lb_a1:a1.length<=562949953421312:=oa1
 dsimp only [Z29,LT.den]
 refine tF (fun h1=>?_) (fun h1=>?_)
 .exact tR ⟨ob0,cl⟩
 .have q4:=ob0.1
  refine tB (tA (by simp only [List.length_cons,List.length_nil];omega) (by decide)) (fun x2 h3=>?_)
  have lh3:x2.length=b0.length+1:=by rw [h3,List.length_append];rfl
  exact tR ⟨SzL.app (k:=16) h3 lo ob0.2 (me1 oa1),cl⟩
def Zzh:Ziv->Prop
 | .L0 E0 v6 v7 v8=>(Zch E0)/\((SzL 16 SzN) v6)/\((SzL 16 SzT) v7)/\(0<=v8)/\(v7.length<=3+v8.toNat)/\(v8<=6)/\(v6.length=3)/\(0<=E0.Tap/\E0.Tap<=2/\0<=E0.Power.Kind/\E0.Power.Kind<=3/\0<=E0.Tough.Kind/\E0.Tough.Kind<=3/\0<=E0.Value.Kind/\E0.Value.Kind<=3)
 | .L1 E0 v6 v7 v9=>(Zch E0)/\((SzL 16 SzN) v6)/\((SzL 16 SzT) v7)/\(0<=v9)/\(v7.length<=9+v9.toNat)/\(v9<=6)/\(v6.length=3)/\(0<=E0.Tap/\E0.Tap<=2/\0<=E0.Power.Kind/\E0.Power.Kind<=3/\0<=E0.Tough.Kind/\E0.Tough.Kind<=3/\0<=E0.Value.Kind/\E0.Value.Kind<=3)
 | .L2 E0 v6 v7 v10=>(Zch E0)/\((SzL 16 SzN) v6)/\((SzL 16 SzT) v7)/\(0<=v10)/\(v7.length<=15+v10.toNat)/\(v10<=5)/\(v6.length=3)/\(0<=E0.Tap/\E0.Tap<=2/\0<=E0.Power.Kind/\E0.Power.Kind<=3/\0<=E0.Tough.Kind/\E0.Tough.Kind<=3/\0<=E0.Value.Kind/\E0.Value.Kind<=3)
 | .L3 E0 v6 v7 v11=>(Zch E0)/\((SzL 16 SzN) v6)/\((SzL 16 SzT) v7)/\(0<=v11)/\(v7.length<=20+v11.toNat)/\(v11<=5)/\(v6.length=3)/\(0<=E0.Tap/\E0.Tap<=2/\0<=E0.Power.Kind/\E0.Power.Kind<=3/\0<=E0.Tough.Kind/\E0.Tough.Kind<=3/\0<=E0.Value.Kind/\E0.Value.Kind<=3)
 | .L4 E0 v6 v7=>(Zch E0)/\((SzL 16 SzN) v6)/\((SzL 16 SzT) v7)/\(v7.length<=26)/\(v6.length=3)/\(0<=E0.Tap/\E0.Tap<=2/\0<=E0.Power.Kind/\E0.Power.Kind<=3/\0<=E0.Tough.Kind/\E0.Tough.Kind<=3/\0<=E0.Value.Kind/\E0.Value.Kind<=3)
 | .L5 E0 v6 v7 v12=>(Zch E0)/\((SzL 16 SzN) v6)/\((SzL 16 SzT) v7)/\(0<=v12)/\(v7.length<=26+v12.toNat)/\(v12<=17)/\(v6.length=3)/\(0<=E0.Tap/\E0.Tap<=2/\0<=E0.Power.Kind/\E0.Power.Kind<=3/\0<=E0.Tough.Kind/\E0.Tough.Kind<=3/\0<=E0.Value.Kind/\E0.Value.Kind<=3)
def Zcs:Ziv->M6
 | .L0 E0 v6 v7 v8=>(9,(6 - v8).toNat,1000000,0,0,0)
 | .L1 E0 v6 v7 v9=>(7,(6 - v9).toNat,1000000,0,0,0)
 | .L2 E0 v6 v7 v10=>(5,(5 - v10).toNat,1000000,0,0,0)
 | .L3 E0 v6 v7 v11=>(3,(5 - v11).toNat,1000000,0,0,0)
 | .L4 E0 v6 v7=>(2,0,0,0,0,0)
 | .L5 E0 v6 v7 v12=>(1,(17 - v12).toNat,1000000,0,0,0)
theorem Zsn{E0:Zn}{v6:List (List UInt8)}{v7:List (List UInt8)}(h:Zzh (.L4 E0 v6 v7)):Tot (Zpb E0 v6 v7).den (Nx Zzh Zcs (2,0,0,0,0,0) (fun r=>(r.length<=144115188075855872))):=by
 obtain⟨O0,ov6,ov7,i0,i1,i2⟩:=h
 have lb_v6:=ov6.1
 have lb_v7:=ov7.1
 dsimp only [Zpb,LT.den]
 exact tL ⟨O0,ov6,ov7,cl,cl,cl,cl,cl⟩ (by unfold Zcs lt6;dsimp only;omega)
theorem Zape{a0:Zn}(oa0:Zch a0):Tot (Zacl a0) (fun r=>(r.length<=144115188075855872)):=by
 unfold Zacl
 refine tX (Inv:=Zzh) (μ:=Zcs) (m:=(1000000,0,0,0,0,0)) ?_ ?_
 .dsimp only [Zafd,LT.den]
  refine tB (Zhw oa0) (fun x1 h2=>?_)
  have eh2_0:=h2
  refine tO (fun h3=>?_) (fun h3=>?_)
  .exact tR cl
  .have h3_0:=eh2_0 h3
   refine tB (Z9s) (fun x4 h5=>?_)
   have eh5_1:=h5.2
   refine tB (Zadc) (fun x6 h7=>?_)
   have eh7_1:=h7.2
   refine tB (Z9t) (fun x8 h9=>?_)
   have eh9_1:=h9.2
   refine tB (Zadd) (fun x10 h11=>?_)
   have eh11_1:=h11.2
   refine tB (tI (by omega) (by omega)) (fun x12 h13=>?_)
   have oh13:SzN x12:=h5.1.2 x12 h13.1
   refine tB (Zg6 SzL.nil (SzN.t oh13) cl) (fun x14 h15=>?_)
   have eh15_1:=h15.2
   try simp only [List.length_nil,List.length_cons,Nat.zero_add] at eh15_1
   refine tB (tI (by omega) (by omega)) (fun x16 h17=>?_)
   have oh17:SzN x16:=h7.1.2 x16 h17.1
   refine tB (Zg6 h15.1 (SzN.t oh17) cl) (fun x18 h19=>?_)
   have eh19_1:=h19.2
   refine tB (tI (by omega) (by omega)) (fun x20 h21=>?_)
   have oh21:SzN x20:=h9.1.2 x20 h21.1
   refine tB (Zg6 h19.1 (SzN.t oh21) cl) (fun x22 h23=>?_)
   have eh23_1:=h23.2
   exact tL ⟨oa0,h11.1,h23.1,cl,cl,cl,cl,cl⟩ (by unfold Zcs lt6;dsimp only;omega)
 .intro s hs
  cases s with
  | L0 E0 v6 v7 v8=>
   obtain⟨O0,ov6,ov7,cv8,i0,i1,i2,i3⟩:=hs
   have lb_v6:=ov6.1
   have lb_v7:=ov7.1
   show Tot (Z1m E0 v6 v7 v8).den _
   dsimp only [Z1m,LT.den,Zcs]
   refine tD (fun h1=>?_) (fun h1=>?_)
   .refine tB (Zpu cl) (fun x2 h3=>?_)
    refine tF (fun h4=>?_) (fun h4=>?_)
    .refine tB (Zzg cl) (fun x5 h6=>?_)
     have eh6_1:=h6.2
     have q9:=ov7.1
     refine tB (tA (by simp only [List.length_cons,List.length_nil];omega) (by decide)) (fun x7 h8=>?_)
     have lh8:x7.length=v7.length+1:=by rw [h8,List.length_append];rfl
     refine qw (v8+1) fun q10 q11=>?_
     exact tL ⟨O0,ov6,SzL.app (k:=16) h8 lo ov7.2 (me1 h6.1),cl,cl,cl,cl,cl⟩ (by unfold Zcs lt6;dsimp only;omega)
    .refine qw (v8+1) fun q12 q13=>?_
     exact tL ⟨O0,ov6,ov7,cl,cl,cl,cl,cl⟩ (by unfold Zcs lt6;dsimp only;omega)
   .exact tL ⟨O0,ov6,ov7,cl,cl,cl,cl,cl⟩ (by unfold Zcs lt6;dsimp only;omega)
  | L1 E0 v6 v7 v9=>
   obtain⟨O0,ov6,ov7,cv9,i0,i1,i2,i3⟩:=hs
   have lb_v6:=ov6.1
   have lb_v7:=ov7.1
   show Tot (Z1n E0 v6 v7 v9).den _
   dsimp only [Z1n,LT.den,Zcs]
   refine tD (fun h1=>?_) (fun h1=>?_)
   .refine tB (Zpu cl) (fun x2 h3=>?_)
    refine tF (fun h4=>?_) (fun h4=>?_)
    .refine tB (Zzg cl) (fun x5 h6=>?_)
     have eh6_1:=h6.2
     have q7:x5.length<=562949953421312:=h6.1
     refine tB (tK (by first | (simp only [List.length_append,List.length_cons,List.length_nil];omega) | omega)) (fun x8 h9=>?_)
     have q12:=ov7.1
     refine tB (tA (by simp only [List.length_cons,List.length_nil];omega) (by decide)) (fun x10 h11=>?_)
     have lh11:x10.length=v7.length+1:=by rw [h11,List.length_append];rfl
     refine qw (v9+1) fun q13 q14=>?_
     exact tL ⟨O0,ov6,SzL.app (k:=16) h11 lo ov7.2 (me1 (by unfold SzT;first | omega | (simp only [List.length_append,List.length_cons,List.length_nil];omega))),cl,cl,cl,cl,cl⟩ (by unfold Zcs lt6;dsimp only;omega)
    .refine qw (v9+1) fun q15 q16=>?_
     exact tL ⟨O0,ov6,ov7,cl,cl,cl,cl,cl⟩ (by unfold Zcs lt6;dsimp only;omega)
   .exact tL ⟨O0,ov6,ov7,cl,cl,cl,cl,cl⟩ (by unfold Zcs lt6;dsimp only;omega)
  | L2 E0 v6 v7 v10=>
   obtain⟨O0,ov6,ov7,cv10,i0,i1,i2,i3⟩:=hs
   have lb_v6:=ov6.1
   have lb_v7:=ov7.1
   show Tot (Z1o E0 v6 v7 v10).den _
   dsimp only [Z1o,LT.den,Zcs]
   refine tD (fun h1=>?_) (fun h1=>?_)
   .refine tB (Zpu cl) (fun x2 h3=>?_)
    refine tF (fun h4=>?_) (fun h4=>?_)
    .refine tB (Zsl) (fun x5 h6=>?_)
     have q9:=ov7.1
     refine tB (tA (by simp only [List.length_cons,List.length_nil];omega) (by decide)) (fun x7 h8=>?_)
     have lh8:x7.length=v7.length+1:=by rw [h8,List.length_append];rfl
     refine qw (v10+1) fun q10 q11=>?_
     exact tL ⟨O0,ov6,SzL.app (k:=16) h8 lo ov7.2 (me1 (SzN.t h6)),cl,cl,cl,cl,cl⟩ (by unfold Zcs lt6;dsimp only;omega)
    .refine qw (v10+1) fun q12 q13=>?_
     exact tL ⟨O0,ov6,ov7,cl,cl,cl,cl,cl⟩ (by unfold Zcs lt6;dsimp only;omega)
   .exact tL ⟨O0,ov6,ov7,cl,cl,cl,cl,cl⟩ (by unfold Zcs lt6;dsimp only;omega)
  | L3 E0 v6 v7 v11=>
   obtain⟨O0,ov6,ov7,cv11,i0,i1,i2,i3⟩:=hs
   have lb_v6:=ov6.1
   have lb_v7:=ov7.1
   show Tot (Z1p E0 v6 v7 v11).den _
   dsimp only [Z1p,LT.den,Zcs]
   refine tD (fun h1=>?_) (fun h1=>?_)
   .refine tB (Zpu cl) (fun x2 h3=>?_)
    refine tF (fun h4=>?_) (fun h4=>?_)
    .refine tB (Zsl) (fun x5 h6=>?_)
     have q7:x5.length<=100:=h6
     refine tB (tK (by first | (simp only [List.length_append,List.length_cons,List.length_nil];omega) | omega)) (fun x8 h9=>?_)
     have q12:=ov7.1
     refine tB (tA (by simp only [List.length_cons,List.length_nil];omega) (by decide)) (fun x10 h11=>?_)
     have lh11:x10.length=v7.length+1:=by rw [h11,List.length_append];rfl
     refine qw (v11+1) fun q13 q14=>?_
     exact tL ⟨O0,ov6,SzL.app (k:=16) h11 lo ov7.2 (me1 (by unfold SzT;first | omega | (simp only [List.length_append,List.length_cons,List.length_nil];omega))),cl,cl,cl,cl,cl⟩ (by unfold Zcs lt6;dsimp only;omega)
    .refine qw (v11+1) fun q15 q16=>?_
     exact tL ⟨O0,ov6,ov7,cl,cl,cl,cl,cl⟩ (by unfold Zcs lt6;dsimp only;omega)
   .refine tO (fun h17=>?_) (fun h17=>?_)
    .have q18:E0.Sub.length<=281474976710656:=O0
     refine tB (tK (by first | (simp only [List.length_append,List.length_cons,List.length_nil];omega) | omega)) (fun x19 h20=>?_)
     have q23:=ov7.1
     refine tB (tA (by simp only [List.length_cons,List.length_nil];omega) (by decide)) (fun x21 h22=>?_)
     have lh22:x21.length=v7.length+1:=by rw [h22,List.length_append];rfl
     exact tJ (Zsn ⟨O0,ov6,SzL.app (k:=16) h22 lo ov7.2 (me1 (by unfold SzT;first | omega | (simp only [List.length_append,List.length_cons,List.length_nil];omega))),cl,cl,cl⟩)
    .exact tJ (Zsn ⟨O0,ov6,ov7,cl,cl,cl⟩)
  | L4 _ _ _=>exact Zsn hs
  | L5 E0 v6 v7 v12=>
   obtain⟨O0,ov6,ov7,cv12,i0,i1,i2,i3⟩:=hs
   have lb_v6:=ov6.1
   have lb_v7:=ov7.1
   show Tot (Z1q E0 v6 v7 v12).den _
   dsimp only [Z1q,LT.den,Zcs]
   refine tD (fun h1=>?_) (fun h1=>?_)
   .refine tB (Zpu cl) (fun x2 h3=>?_)
    refine tF (fun h4=>?_) (fun h4=>?_)
    .refine tB (Zzf) (fun x5 h6=>?_)
     have q7:x5.length<=100:=h6
     refine tB (tK (by first | (simp only [List.length_append,List.length_cons,List.length_nil];omega) | omega)) (fun x8 h9=>?_)
     have q12:=ov7.1
     refine tB (tA (by simp only [List.length_cons,List.length_nil];omega) (by decide)) (fun x10 h11=>?_)
     have lh11:x10.length=v7.length+1:=by rw [h11,List.length_append];rfl
     refine qw (v12+1) fun q13 q14=>?_
     exact tL ⟨O0,ov6,SzL.app (k:=16) h11 lo ov7.2 (me1 (by unfold SzT;first | omega | (simp only [List.length_append,List.length_cons,List.length_nil];omega))),cl,cl,cl,cl,cl⟩ (by unfold Zcs lt6;dsimp only;omega)
    .refine qw (v12+1) fun q15 q16=>?_
     exact tL ⟨O0,ov6,ov7,cl,cl,cl,cl,cl⟩ (by unfold Zcs lt6;dsimp only;omega)
   .refine tB (tI (by omega) (by omega)) (fun x17 h18=>?_)
    have oh18:SzN x17:=ov6.2 x17 h18.1
    refine tB (Zg6 ov7 (SzN.t oh18) cl) (fun x19 h20=>?_)
    have eh20_1:=h20.2
    refine tB (Zo5 (by unfold SzN;first | omega | (simp only [List.length_append,List.length_cons,List.length_nil];omega)) cl cl) (fun x21 h22=>?_)
    refine tB (Zg6 h20.1 h22 cl) (fun x23 h24=>?_)
    have eh24_1:=h24.2
    refine tB (Zo5 (by unfold SzN;first | omega | (simp only [List.length_append,List.length_cons,List.length_nil];omega)) cl cl) (fun x25 h26=>?_)
    refine tB (Zg6 h24.1 h26 cl) (fun x27 h28=>?_)
    have eh28_1:=h28.2
    refine tB (Zo5 (by unfold SzN;first | omega | (simp only [List.length_append,List.length_cons,List.length_nil];omega)) cl cl) (fun x29 h30=>?_)
    refine tB (Zg6 h28.1 h30 cl) (fun x31 h32=>?_)
    have eh32_1:=h32.2
    refine tE (fun h33=>?_) (fun h33=>?_)
    .exact tR cl
    .refine tB (Zapd h32.1 (by unfold SzN;first | omega | (simp only [List.length_append,List.length_cons,List.length_nil];omega)) cl) (fun x34 h35=>?_)
     have eh35_0:=h35
     exact tR cl
theorem Z8p{a0:Zq}(oa0:Zbk a0):Tot (Zacm a0) (fun r=>(r.length<=288230376151711744)):=by
 unfold Zacm
 refine tZ ?_
 dsimp only [Zaff,LT.den]
 refine tB (Zagt oa0) (fun x1 h2=>?_)
 refine tO (fun h3=>?_) (fun h3=>?_)
 .exact tR cl
 .refine tE (fun h4=>?_) (fun h4=>?_)
  .exact tR cl
  .refine tE (fun h5=>?_) (fun h5=>?_)
   .refine tB (Zo4) (fun x6 h7=>?_)
    have eh7_1:=h7.2
    have q8:x6.length<=562949953421312:=h7.1
    refine tB (tK (by first | (simp only [List.length_append,List.length_cons,List.length_nil];omega) | omega)) (fun x9 h10=>?_)
    exact tR cl
   .refine tE (fun h11=>?_) (fun h11=>?_)
    .refine tB (Zo4) (fun x12 h13=>?_)
     have eh13_1:=h13.2
     have q14:x12.length<=562949953421312:=h13.1
     refine tB (tK (by first | (simp only [List.length_append,List.length_cons,List.length_nil];omega) | omega)) (fun x15 h16=>?_)
     exact tR cl
    .refine tE (fun h17=>?_) (fun h17=>?_)
     .have q18:a0.Sub.length<=281474976710656:=oa0.1
      refine tB (tK (by first | (simp only [List.length_append,List.length_cons,List.length_nil];omega) | omega)) (fun x19 h20=>?_)
      exact tR cl
     .refine tE (fun h21=>?_) (fun h21=>?_)
      .have q22:a0.Sub.length<=281474976710656:=oa0.1
       refine tB (tK (by first | (simp only [List.length_append,List.length_cons,List.length_nil];omega) | omega)) (fun x23 h24=>?_)
       exact tR cl
      .refine tE (fun h25=>?_) (fun h25=>?_)
       .refine tB (Z8n) (fun x26 h27=>?_)
        have q28:x26.length<=562949953421312:=h27
        refine tB (tK (by first | (simp only [List.length_append,List.length_cons,List.length_nil];omega) | omega)) (fun x29 h30=>?_)
        exact tR cl
       .refine tE (fun h31=>?_) (fun h31=>?_)
        .refine tB (Z8n) (fun x32 h33=>?_)
         have q34:x32.length<=562949953421312:=h33
         refine tB (tK (by first | (simp only [List.length_append,List.length_cons,List.length_nil];omega) | omega)) (fun x35 h36=>?_)
         exact tR cl
        .refine tE (fun h37=>?_) (fun h37=>?_)
         .refine tB (Z8o) (fun x38 h39=>?_)
          have q40:x38.length<=562949953421312:=h39
          refine tB (tK (by first | (simp only [List.length_append,List.length_cons,List.length_nil];omega) | omega)) (fun x41 h42=>?_)
          exact tR cl
         .refine tE (fun h43=>?_) (fun h43=>?_)
          .refine tB (Z8o) (fun x44 h45=>?_)
           have q46:x44.length<=562949953421312:=h45
           refine tB (tK (by first | (simp only [List.length_append,List.length_cons,List.length_nil];omega) | omega)) (fun x47 h48=>?_)
           exact tR cl
          .refine tE (fun h49=>?_) (fun h49=>?_)
           .exact tR cl
           .refine tE (fun h50=>?_) (fun h50=>?_)
            .refine tB (Zape oa0.2) (fun x51 h52=>?_)
             have eh52_0:=h52
             refine tB (tK (by first | (simp only [List.length_append,List.length_cons,List.length_nil];omega) | omega)) (fun x53 h54=>?_)
             refine tB (tK (by first | (simp only [List.length_append,List.length_cons,List.length_nil];omega) | omega)) (fun x55 h56=>?_)
             exact tR cl
            .refine tE (fun h57=>?_) (fun h57=>?_)
             .refine tB (Zk4) (fun x58 h59=>?_)
              have q60:x58.length<=100:=h59
              refine tB (tK (by first | (simp only [List.length_append,List.length_cons,List.length_nil];omega) | omega)) (fun x61 h62=>?_)
              refine tB (tK (by first | (simp only [List.length_append,List.length_cons,List.length_nil];omega) | omega)) (fun x63 h64=>?_)
              refine tB (Zk4) (fun x65 h66=>?_)
              have q67:x65.length<=100:=h66
              refine tB (tK (by first | (simp only [List.length_append,List.length_cons,List.length_nil];omega) | omega)) (fun x68 h69=>?_)
              exact tR cl
             .refine tE (fun h70=>?_) (fun h70=>?_)
              .refine tB (Zk4) (fun x71 h72=>?_)
               have q73:x71.length<=100:=h72
               refine tB (tK (by first | (simp only [List.length_append,List.length_cons,List.length_nil];omega) | omega)) (fun x74 h75=>?_)
               refine tB (tK (by first | (simp only [List.length_append,List.length_cons,List.length_nil];omega) | omega)) (fun x76 h77=>?_)
               refine tB (Zk4) (fun x78 h79=>?_)
               have q80:x78.length<=100:=h79
               refine tB (tK (by first | (simp only [List.length_append,List.length_cons,List.length_nil];omega) | omega)) (fun x81 h82=>?_)
               exact tR cl
              .exact tR cl
def Zadf:Zkt->Prop
 | .L0 v0 v3 v4=>((SzL 176 Zbk) v0)/\(0<=v4)/\(v3.length<=576460752303423488*v4.toNat)/\(v0.length<=6)/\(v4<=v0.length)
def Zm1:Zkt->M6
 | .L0 v0 v3 v4=>(1,((v0.length:Int) - v4).toNat,1000000,0,0,0)
theorem Zqt{a0:List Zq}(oa0:(SzL 176 Zbk) a0):Tot (Zyi a0) (fun r=>(r.length<=4611686018427387904)):=by
 unfold Zyi
 refine tX (Inv:=Zadf) (μ:=Zm1) (m:=(1000000,0,0,0,0,0)) ?_ ?_
 .have lb_a0:=oa0.1
  dsimp only [Z3b,LT.den]
  have q1:=oa0.1
  refine tE (fun h2=>?_) (fun h2=>?_)
  .exact tR cl
  .refine tD (fun h3=>?_) (fun h3=>?_)
   .exact tR cl
   .exact tL ⟨oa0,cl,cl,cl,cl⟩ (by unfold Zm1 lt6;dsimp only;omega)
 .intro s hs
  cases s with
  | L0 v0 v3 v4=>
   obtain⟨ov0,cv4,i0,i1,i2⟩:=hs
   have lb_v0:=ov0.1
   show Tot (Zrz v0 v3 v4).den _
   dsimp only [Zrz,LT.den]
   have q1:=ov0.1
   refine tD (fun h2=>?_) (fun h2=>?_)
   .refine tB (tI (by omega) (by omega)) (fun x3 h4=>?_)
    have oh4:Zbk x3:=ov0.2 x3 h4.1
    refine tB (Zagt oh4) (fun x5 h6=>?_)
    refine tO (fun h7=>?_) (fun h7=>?_)
    .exact tR cl
    .refine tD (fun h8=>?_) (fun h8=>?_)
     .refine tB (tK (by first | (simp only [List.length_append,List.length_cons,List.length_nil];omega) | omega)) (fun x9 h10=>?_)
      refine tB (Z8p oh4) (fun x11 h12=>?_)
      have eh12_0:=h12
      refine tB (tK (by first | (simp only [List.length_append,List.length_cons,List.length_nil];omega) | omega)) (fun x13 h14=>?_)
      refine qw (v4+1) fun q15 q16=>?_
      exact tL ⟨ov0,cl,cl,cl,cl⟩ (by unfold Zm1 lt6;dsimp only;omega)
     .refine tB (Z8p oh4) (fun x17 h18=>?_)
      have eh18_0:=h18
      refine tB (tK (by first | (simp only [List.length_append,List.length_cons,List.length_nil];omega) | omega)) (fun x19 h20=>?_)
      refine qw (v4+1) fun q21 q22=>?_
      exact tL ⟨ov0,cl,cl,cl,cl⟩ (by unfold Zm1 lt6;dsimp only;omega)
   .exact tR cl
theorem Zakk{a0:Zh6}:Tot (Z7h a0) (fun r=>True):=by
 unfold Z7h
 refine tZ ?_
 dsimp only [Zaal,LT.den]
 refine tB (Z49 a0.Mana) (fun x1 h2=>?_)
 have eh2_0:=h2.1
 have eh2_1:=h2.2
 refine tF (fun h3=>?_) (fun h3=>?_)
 .have h3_0:=eh2_0 h3
  have h3_1:=eh2_1 h3
  refine tE (fun h4=>?_) (fun h4=>?_)
  .refine tD (fun h5=>?_) (fun h5=>?_)
   .exact tR trivial
   .exact tR trivial
  .exact tR trivial
 .exact tR trivial
theorem Z8q{a0:Int}:Tot (Zacn a0) (fun r=>(SzN r)):=by
 unfold Zacn
 refine tZ ?_
 dsimp only [Zafh,LT.den]
 refine tE (fun h1=>?_) (fun h1=>?_)
 .exact tR (by unfold SzN;first | omega | (simp only [List.length_append,List.length_cons,List.length_nil];omega))
 .refine tE (fun h2=>?_) (fun h2=>?_)
  .exact tR (by unfold SzN;first | omega | (simp only [List.length_append,List.length_cons,List.length_nil];omega))
  .refine tE (fun h3=>?_) (fun h3=>?_)
   .exact tR (by unfold SzN;first | omega | (simp only [List.length_append,List.length_cons,List.length_nil];omega))
   .refine tE (fun h4=>?_) (fun h4=>?_)
    .exact tR (by unfold SzN;first | omega | (simp only [List.length_append,List.length_cons,List.length_nil];omega))
    .refine tE (fun h5=>?_) (fun h5=>?_)
     .exact tR (by unfold SzN;first | omega | (simp only [List.length_append,List.length_cons,List.length_nil];omega))
     .refine tE (fun h6=>?_) (fun h6=>?_)
      .exact tR (by unfold SzN;first | omega | (simp only [List.length_append,List.length_cons,List.length_nil];omega))
      .refine tE (fun h7=>?_) (fun h7=>?_)
       .exact tR (by unfold SzN;first | omega | (simp only [List.length_append,List.length_cons,List.length_nil];omega))
       .refine tE (fun h8=>?_) (fun h8=>?_)
        .exact tR (by unfold SzN;first | omega | (simp only [List.length_append,List.length_cons,List.length_nil];omega))
        .refine tE (fun h9=>?_) (fun h9=>?_)
         .exact tR (by unfold SzN;first | omega | (simp only [List.length_append,List.length_cons,List.length_nil];omega))
         .refine tE (fun h10=>?_) (fun h10=>?_)
          .exact tR (by unfold SzN;first | omega | (simp only [List.length_append,List.length_cons,List.length_nil];omega))
          .refine tE (fun h11=>?_) (fun h11=>?_)
           .exact tR (by unfold SzN;first | omega | (simp only [List.length_append,List.length_cons,List.length_nil];omega))
           .refine tE (fun h12=>?_) (fun h12=>?_)
            .exact tR (by unfold SzN;first | omega | (simp only [List.length_append,List.length_cons,List.length_nil];omega))
            .refine tE (fun h13=>?_) (fun h13=>?_)
             .exact tR (by unfold SzN;first | omega | (simp only [List.length_append,List.length_cons,List.length_nil];omega))
             .refine tE (fun h14=>?_) (fun h14=>?_)
              .exact tR (by unfold SzN;first | omega | (simp only [List.length_append,List.length_cons,List.length_nil];omega))
              .exact tR (SzN.nil)
theorem Z3q{a0:Int}:Tot (Z4m a0) (fun r=>True):=by
 unfold Z4m
 refine tZ ?_
 dsimp only [Z7i,LT.den]
 refine tE (fun h1=>?_) (fun h1=>?_)
 .exact tR trivial
 .refine tE (fun h2=>?_) (fun h2=>?_)
  .exact tR trivial
  .refine tE (fun h3=>?_) (fun h3=>?_)
   .exact tR trivial
   .refine tE (fun h4=>?_) (fun h4=>?_)
    .exact tR trivial
    .refine tE (fun h5=>?_) (fun h5=>?_)
     .exact tR trivial
     .exact tR trivial
theorem Z9u{a0:Int}:Tot (Zvy a0) (fun r=>True):=by
 unfold Zvy
 refine tZ ?_
 dsimp only [Z0i,LT.den]
 refine tB (Z8q) (fun x1 h2=>?_)
 refine tO (fun h3=>?_) (fun h3=>?_)
 .refine tB (Z3q) (fun x4 h5=>?_)
  refine tO (fun h6=>?_) (fun h6=>?_)
  .exact tR trivial
  .exact tR trivial
 .exact tR trivial
def Z5d:Zyj->Prop
 | .L0 E0=>(Zou E0)/\True
def Zajx:Zyj->M6
 | .L0 E0=>(0,0,0,0,0,0)
theorem Zwp{E0:Zd0}(h:Z5d (.L0 E0)):Tot (Zu0 E0).den (Nx Z5d Zajx (0,0,0,0,0,0) (fun r=>True)):=by
 obtain⟨O0,_⟩:=h
 dsimp only [Zu0,LT.den]
 refine tB (Z9u) (fun x1 h2=>?_)
 refine tO (fun h3=>?_) (fun h3=>?_)
 .exact tR trivial
 .refine tE (fun h4=>?_) (fun h4=>?_)
  .refine tB (Zhw O0) (fun x5 h6=>?_)
   have eh6_0:=h6
   refine tF (fun h7=>?_) (fun h7=>?_)
   .have h7_0:=eh6_0 h7
    exact tR trivial
   .exact tR trivial
  .refine tB (Zhw O0) (fun x8 h9=>?_)
   have eh9_0:=h9
   refine tF (fun h10=>?_) (fun h10=>?_)
   .have h10_0:=eh9_0 h10
    exact tR trivial
   .exact tR trivial
theorem Zaty{a0:Zd0}(oa0:Zou a0):Tot (Zant a0) (fun r=>True):=by
 unfold Zant
 refine tX (Inv:=Z5d) (μ:=Zajx) (m:=(1000000,0,0,0,0,0)) ?_ ?_
 .dsimp only [Zanr,LT.den]
  refine tB (Z8q) (fun x1 h2=>?_)
  refine tF (fun h3=>?_) (fun h3=>?_)
  .exact tR trivial
  .refine tD (fun h4=>?_) (fun h4=>?_)
   .exact tR trivial
   .refine tD (fun h5=>?_) (fun h5=>?_)
    .exact tR trivial
    .refine tB (Z3q) (fun x6 h7=>?_)
     refine tO (fun h8=>?_) (fun h8=>?_)
     .refine tN (fun h9=>?_) (fun h9=>?_)
      .exact tR trivial
      .exact tJ (Zwp ⟨oa0,trivial⟩)
     .exact tJ (Zwp ⟨oa0,trivial⟩)
 .intro s hs
  cases s with
  | L0 _=>exact Zwp hs
theorem Zwq{a0:Zn}(oa0:Zch a0):Tot (Z7k a0) (fun r=>True):=by
 unfold Z7k
 refine tZ ?_
 dsimp only [Zaao,LT.den]
 refine tB (Zhw oa0) (fun x1 h2=>?_)
 have eh2_0:=h2
 refine tF (fun h3=>?_) (fun h3=>?_)
 .have h3_0:=eh2_0 h3
  exact tR trivial
 .exact tR trivial
theorem Zakl{a0:Zbx}(oa0:Zgg a0):Tot (Z7l a0) (fun r=>True):=by
 unfold Z7l
 refine tZ ?_
 dsimp only [Zaaq,LT.den]
 refine tN (fun h1=>?_) (fun h1=>?_)
 .exact tR trivial
 .refine tB (Zwq oa0) (fun x2 h3=>?_)
  refine tO (fun h4=>?_) (fun h4=>?_)
  .exact tR trivial
  .refine tE (fun h5=>?_) (fun h5=>?_)
   .refine tE (fun h6=>?_) (fun h6=>?_)
    .refine tE (fun h7=>?_) (fun h7=>?_)
     .refine tE (fun h8=>?_) (fun h8=>?_)
      .exact tR trivial
      .refine tE (fun h9=>?_) (fun h9=>?_)
       .exact tR trivial
       .exact tR trivial
     .exact tR trivial
    .exact tR trivial
   .refine tE (fun h10=>?_) (fun h10=>?_)
    .refine tE (fun h11=>?_) (fun h11=>?_)
     .refine tE (fun h12=>?_) (fun h12=>?_)
      .exact tR trivial
      .exact tR trivial
     .exact tR trivial
    .refine tE (fun h13=>?_) (fun h13=>?_)
     .refine tE (fun h14=>?_) (fun h14=>?_)
      .refine tD (fun h15=>?_) (fun h15=>?_)
       .refine tD (fun h16=>?_) (fun h16=>?_)
        .refine tD (fun h17=>?_) (fun h17=>?_)
         .exact tR trivial
         .exact tR trivial
        .exact tR trivial
       .exact tR trivial
      .exact tR trivial
     .exact tR trivial
theorem Zakm{a0:Zbx}(oa0:Zgg a0):Tot (Z7m a0) (fun r=>True):=by
 unfold Z7m
 refine tZ ?_
 dsimp only [Zaas,LT.den]
 refine tN (fun h1=>?_) (fun h1=>?_)
 .exact tR trivial
 .refine tN (fun h2=>?_) (fun h2=>?_)
  .exact tR trivial
  .refine tE (fun h3=>?_) (fun h3=>?_)
   .refine tD (fun h4=>?_) (fun h4=>?_)
    .exact tR trivial
    .exact tR trivial
   .refine tE (fun h5=>?_) (fun h5=>?_)
    .refine tD (fun h6=>?_) (fun h6=>?_)
     .exact tR trivial
     .exact tR trivial
    .exact tR trivial
def Zov:Zqk->Prop
 | .L0 E0 v3 v4=>(Zgg E0)/\True
 | .L1 E0 v3=>(Zgg E0)/\True
 | .L2 E0 v3 v4 v109=>(Zgg E0)/\True
def Z04:Zqk->M6
 | .L0 E0 v3 v4=>(0,0,0,0,0,0)
 | .L1 E0 v3=>(0,0,0,0,0,0)
 | .L2 E0 v3 v4 v109=>(0,0,0,0,0,0)
theorem Zp6{E0:Zbx}{v3:Bool}{v4:Bool}{v109:Bool}(h:(Zgg E0)/\True):Tot (Zq0 E0 v3 v4 v109).den (Nx Zov Z04 (0,0,0,0,0,0) (fun r=>True)):=by
 obtain⟨O0,_⟩:=h
 dsimp only [Zq0,LT.den]
 refine tF (fun h1=>?_) (fun h1=>?_)
 .refine tF (fun h2=>?_) (fun h2=>?_)
  .refine tD (fun h3=>?_) (fun h3=>?_)
   .refine tD (fun h4=>?_) (fun h4=>?_)
    .exact tR trivial
    .exact tR trivial
   .exact tR trivial
  .exact tR trivial
 .exact tR trivial
theorem Zmj{E0:Zbx}{v3:Bool}(h:Zov (.L1 E0 v3)):Tot (Znh E0 v3).den (Nx Zov Z04 (0,0,0,0,0,0) (fun r=>True)):=by
 obtain⟨O0,_⟩:=h
 dsimp only [Znh,LT.den]
 refine tE (fun h1=>?_) (fun h1=>?_)
 .refine tB (Zwq O0) (fun x2 h3=>?_)
  refine tF (fun h4=>?_) (fun h4=>?_)
  .exact tR trivial
  .refine tE (fun h5=>?_) (fun h5=>?_)
   .exact tR trivial
   .refine tE (fun h6=>?_) (fun h6=>?_)
    .exact tR trivial
    .exact tR trivial
 .refine tE (fun h7=>?_) (fun h7=>?_)
  .exact tR trivial
  .refine tE (fun h8=>?_) (fun h8=>?_)
   .exact tR trivial
   .exact tR trivial
theorem Zp7{E0:Zbx}{v3:Bool}{v4:Bool}(h:Zov (.L0 E0 v3 v4)):Tot (Zq1 E0 v3 v4).den (Nx Zov Z04 (0,0,0,0,0,0) (fun r=>True)):=by
 obtain⟨O0,_⟩:=h
 dsimp only [Zq1,LT.den]
 refine tE (fun h1=>?_) (fun h1=>?_)
 .refine tN (fun h2=>?_) (fun h2=>?_)
  .refine tN (fun h3=>?_) (fun h3=>?_)
   .refine tN (fun h4=>?_) (fun h4=>?_)
    .refine tN (fun h5=>?_) (fun h5=>?_)
     .exact tR trivial
     .exact tJ (Zmj ⟨O0,trivial⟩)
    .exact tJ (Zmj ⟨O0,trivial⟩)
   .exact tJ (Zmj ⟨O0,trivial⟩)
  .exact tJ (Zmj ⟨O0,trivial⟩)
 .refine tE (fun h6=>?_) (fun h6=>?_)
  .refine tF (fun h7=>?_) (fun h7=>?_)
   .refine tE (fun h8=>?_) (fun h8=>?_)
    .refine tB (Zwq O0) (fun x9 h10=>?_)
     exact tR trivial
    .exact tR trivial
   .exact tR trivial
  .refine tE (fun h11=>?_) (fun h11=>?_)
   .refine tE (fun h12=>?_) (fun h12=>?_)
    .refine tD (fun h13=>?_) (fun h13=>?_)
     .refine tD (fun h14=>?_) (fun h14=>?_)
      .exact tR trivial
      .exact tR trivial
     .exact tR trivial
    .refine tE (fun h15=>?_) (fun h15=>?_)
     .refine tD (fun h16=>?_) (fun h16=>?_)
      .refine tD (fun h17=>?_) (fun h17=>?_)
       .exact tR trivial
       .exact tR trivial
      .exact tR trivial
     .exact tR trivial
   .refine tE (fun h18=>?_) (fun h18=>?_)
    .exact tJ (Zp6 ⟨O0,trivial⟩)
    .refine tE (fun h19=>?_) (fun h19=>?_)
     .exact tJ (Zp6 ⟨O0,trivial⟩)
     .exact tJ (Zp6 ⟨O0,trivial⟩)
theorem Zatz{a0:Zbx}(oa0:Zgg a0):Tot (Zany a0) (fun r=>True):=by
 unfold Zany
 refine tX (Inv:=Zov) (μ:=Z04) (m:=(1000000,0,0,0,0,0)) ?_ ?_
 .dsimp only [Zanw,LT.den]
  refine tE (fun h1=>?_) (fun h1=>?_)
  .refine tB (Zakl oa0) (fun x2 h3=>?_)
   exact tR trivial
  .refine tB (Zakm oa0) (fun x4 h5=>?_)
   refine tO (fun h6=>?_) (fun h6=>?_)
   .exact tR trivial
   .refine tE (fun h7=>?_) (fun h7=>?_)
    .exact tJ (Zp7 ⟨oa0,trivial⟩)
    .refine tE (fun h8=>?_) (fun h8=>?_)
     .exact tJ (Zp7 ⟨oa0,trivial⟩)
     .exact tJ (Zp7 ⟨oa0,trivial⟩)
 .intro s hs
  cases s with
  | L0 _ _ _=>exact Zp7 hs
  | L1 _ _=>exact Zmj hs
  | L2 _ _ _ _=>exact Zp6 hs
theorem Zapf{a0:Zbp}(oa0:Zjm a0):Tot (Zacp a0) (fun r=>True):=by
 unfold Zacp
 refine tZ ?_
 dsimp only [Zafj,LT.den]
 refine tO (fun h1=>?_) (fun h1=>?_)
 .refine tF (fun h2=>?_) (fun h2=>?_)
  .exact tR trivial
  .exact tR trivial
 .refine tB (Zhw oa0) (fun x3 h4=>?_)
  have eh4_0:=h4
  refine tF (fun h5=>?_) (fun h5=>?_)
  .have h5_0:=eh4_0 h5
   refine tE (fun h6=>?_) (fun h6=>?_)
   .exact tR trivial
   .refine tE (fun h7=>?_) (fun h7=>?_)
    .exact tR trivial
    .exact tR trivial
  .exact tR trivial
def Zakn:Zpc->Prop
 | .L0 v0 v3=>((SzL 144 Zjm) v0)/\(0<=v3)
def Zzi:Zpc->M6
 | .L0 v0 v3=>(1,((v0.length:Int) - v3).toNat,1000000,0,0,0)
theorem Zako{a0:List Zbp}(oa0:(SzL 144 Zjm) a0):Tot (Z7n a0) (fun r=>True):=by
 unfold Z7n
 refine tX (Inv:=Zakn) (μ:=Zzi) (m:=(1000000,0,0,0,0,0)) ?_ ?_
 .have lb_a0:=oa0.1
  dsimp only [Zaau,LT.den]
  exact tL ⟨oa0,cl⟩ (by unfold Zzi lt6;dsimp only;omega)
 .intro s hs
  cases s with
  | L0 v0 v3=>
   obtain⟨ov0,cv3⟩:=hs
   have lb_v0:=ov0.1
   show Tot (Zyl v0 v3).den _
   dsimp only [Zyl,LT.den]
   have q1:=ov0.1
   refine tD (fun h2=>?_) (fun h2=>?_)
   .refine tB (tI (by omega) (by omega)) (fun x3 h4=>?_)
    have oh4:Zjm x3:=ov0.2 x3 h4.1
    refine tB (Zapf oh4) (fun x5 h6=>?_)
    refine tO (fun h7=>?_) (fun h7=>?_)
    .exact tR trivial
    .refine qw (v3+1) fun q8 q9=>?_
     exact tL ⟨ov0,cl⟩ (by unfold Zzi lt6;dsimp only;omega)
   .exact tR trivial
theorem Zapg{a0:Int}:Tot (Zacq a0) (fun r=>(SzN r)):=by
 unfold Zacq
 refine tZ ?_
 dsimp only [Zafl,LT.den]
 refine tD (fun h1=>?_) (fun h1=>?_)
 .exact tR (SzN.nil)
 .refine tD (fun h2=>?_) (fun h2=>?_)
  .exact tR (SzN.nil)
  .have q3:(SzL 16 SzN) ([([100,97,109,97,103,101]:List UInt8),([100,101,115,116,114,111,121]:List UInt8),([109,111,118,101]:List UInt8),([100,114,97,119]:List UInt8),([100,105,115,99,97,114,100]:List UInt8),([103,97,105,110]:List UInt8),([108,111,115,101]:List UInt8),([116,97,112]:List UInt8),([117,110,116,97,112]:List UInt8),([112,117,116]:List UInt8),([116,97,107,101]:List UInt8),([99,114,101,97,116,101]:List UInt8),([109,111,100]:List UInt8),([109,97,110,97]:List UInt8),([99,111,117,110,116,101,114]:List UInt8),([99,111,112,121]:List UInt8),([98,101,99,111,109,101]:List UInt8),([115,97,99,114,105,102,105,99,101]:List UInt8),([109,105,108,108]:List UInt8),([115,99,114,121]:List UInt8),([115,101,97,114,99,104]:List UInt8),([115,104,105,101,108,100]:List UInt8),([116,117,114,110]:List UInt8),([119,105,110]:List UInt8),([100,101,102,101,97,116]:List UInt8),([118,101,110,111,109]:List UInt8)]:List (List UInt8)):=⟨by simp only [List.length_cons,List.length_nil];omega,mem_cons' (by unfold SzN;first | omega | (simp only [List.length_append,List.length_cons,List.length_nil];omega)) (mem_cons' (by unfold SzN;first | omega | (simp only [List.length_append,List.length_cons,List.length_nil];omega)) (mem_cons' (by unfold SzN;first | omega | (simp only [List.length_append,List.length_cons,List.length_nil];omega)) (mem_cons' (by unfold SzN;first | omega | (simp only [List.length_append,List.length_cons,List.length_nil];omega)) (mem_cons' (by unfold SzN;first | omega | (simp only [List.length_append,List.length_cons,List.length_nil];omega)) (mem_cons' (by unfold SzN;first | omega | (simp only [List.length_append,List.length_cons,List.length_nil];omega)) (mem_cons' (by unfold SzN;first | omega | (simp only [List.length_append,List.length_cons,List.length_nil];omega)) (mem_cons' (by unfold SzN;first | omega | (simp only [List.length_append,List.length_cons,List.length_nil];omega)) (mem_cons' (by unfold SzN;first | omega | (simp only [List.length_append,List.length_cons,List.length_nil];omega)) (mem_cons' (by unfold SzN;first | omega | (simp only [List.length_append,List.length_cons,List.length_nil];omega)) (mem_cons' (by unfold SzN;first | omega | (simp only [List.length_append,List.length_cons,List.length_nil];omega)) (mem_cons' (by unfold SzN;first | omega | (simp only [List.length_append,List.length_cons,List.length_nil];omega)) (mem_cons' (by unfold SzN;first | omega | (simp only [List.length_append,List.length_cons,List.length_nil];omega)) (mem_cons' (by unfold SzN;first | omega | (simp only [List.length_append,List.length_cons,List.length_nil];omega)) (mem_cons' (by unfold SzN;first | omega | (simp only [List.length_append,List.length_cons,List.length_nil];omega)) (mem_cons' (by unfold SzN;first | omega | (simp only [List.length_append,List.length_cons,List.length_nil];omega)) (mem_cons' (by unfold SzN;first | omega | (simp only [List.length_append,List.length_cons,List.length_nil];omega)) (mem_cons' (by unfold SzN;first | omega | (simp only [List.length_append,List.length_cons,List.length_nil];omega)) (mem_cons' (by unfold SzN;first | omega | (simp only [List.length_append,List.length_cons,List.length_nil];omega)) (mem_cons' (by unfold SzN;first | omega | (simp only [List.length_append,List.length_cons,List.length_nil];omega)) (mem_cons' (by unfold SzN;first | omega | (simp only [List.length_append,List.length_cons,List.length_nil];omega)) (mem_cons' (by unfold SzN;first | omega | (simp only [List.length_append,List.length_cons,List.length_nil];omega)) (mem_cons' (by unfold SzN;first | omega | (simp only [List.length_append,List.length_cons,List.length_nil];omega)) (mem_cons' (by unfold SzN;first | omega | (simp only [List.length_append,List.length_cons,List.length_nil];omega)) (mem_cons' (by unfold SzN;first | omega | (simp only [List.length_append,List.length_cons,List.length_nil];omega)) (mem_cons' (by unfold SzN;first | omega | (simp only [List.length_append,List.length_cons,List.length_nil];omega)) (fun _ h=>by cases h))))))))))))))))))))))))))⟩
   have lq3:([([100,97,109,97,103,101]:List UInt8),([100,101,115,116,114,111,121]:List UInt8),([109,111,118,101]:List UInt8),([100,114,97,119]:List UInt8),([100,105,115,99,97,114,100]:List UInt8),([103,97,105,110]:List UInt8),([108,111,115,101]:List UInt8),([116,97,112]:List UInt8),([117,110,116,97,112]:List UInt8),([112,117,116]:List UInt8),([116,97,107,101]:List UInt8),([99,114,101,97,116,101]:List UInt8),([109,111,100]:List UInt8),([109,97,110,97]:List UInt8),([99,111,117,110,116,101,114]:List UInt8),([99,111,112,121]:List UInt8),([98,101,99,111,109,101]:List UInt8),([115,97,99,114,105,102,105,99,101]:List UInt8),([109,105,108,108]:List UInt8),([115,99,114,121]:List UInt8),([115,101,97,114,99,104]:List UInt8),([115,104,105,101,108,100]:List UInt8),([116,117,114,110]:List UInt8),([119,105,110]:List UInt8),([100,101,102,101,97,116]:List UInt8),([118,101,110,111,109]:List UInt8)]:List (List UInt8)).length=26:=rfl
   refine qw (a0 - 1) fun q4 q5=>?_
   refine tB (tI (by omega) (by omega)) (fun x6 h7=>?_)
   have oh7:SzN x6:=q3.2 x6 h7.1
   exact tR oh7
def Zzj:Zom->Prop
 | .L0 v3 v4=>True
 | .L1 v3 v14=>True
def Z2m:Zom->M6
 | .L0 v3 v4=>(0,0,0,0,0,0)
 | .L1 v3 v14=>(0,0,0,0,0,0)
theorem Zso{v3:Int}{v14:Bool}(h:True):Tot (Zpd v3 v14).den (Nx Zzj Z2m (0,0,0,0,0,0) (fun r=>(SzN r))):=by
 dsimp only [Zpd,LT.den]
 refine tF (fun h1=>?_) (fun h1=>?_)
 .exact tR (by unfold SzN;first | omega | (simp only [List.length_append,List.length_cons,List.length_nil];omega))
 .refine tE (fun h2=>?_) (fun h2=>?_)
  .exact tR (by unfold SzN;first | omega | (simp only [List.length_append,List.length_cons,List.length_nil];omega))
  .refine tE (fun h3=>?_) (fun h3=>?_)
   .exact tR (by unfold SzN;first | omega | (simp only [List.length_append,List.length_cons,List.length_nil];omega))
   .refine tE (fun h4=>?_) (fun h4=>?_)
    .exact tR (by unfold SzN;first | omega | (simp only [List.length_append,List.length_cons,List.length_nil];omega))
    .refine tE (fun h5=>?_) (fun h5=>?_)
     .exact tR (by unfold SzN;first | omega | (simp only [List.length_append,List.length_cons,List.length_nil];omega))
     .refine tE (fun h6=>?_) (fun h6=>?_)
      .exact tR (by unfold SzN;first | omega | (simp only [List.length_append,List.length_cons,List.length_nil];omega))
      .refine tE (fun h7=>?_) (fun h7=>?_)
       .exact tR (by unfold SzN;first | omega | (simp only [List.length_append,List.length_cons,List.length_nil];omega))
       .refine tE (fun h8=>?_) (fun h8=>?_)
        .exact tR (SzN.nil)
        .refine tE (fun h9=>?_) (fun h9=>?_)
         .exact tR (SzN.nil)
         .exact tR (by unfold SzN;first | omega | (simp only [List.length_append,List.length_cons,List.length_nil];omega))
theorem Zgs{v3:Int}{v4:Bool}(h:True):Tot (Zhl v3 v4).den (Nx Zzj Z2m (0,0,0,0,0,0) (fun r=>(SzN r))):=by
 dsimp only [Zhl,LT.den]
 refine tF (fun h1=>?_) (fun h1=>?_)
 .exact tR (by unfold SzN;first | omega | (simp only [List.length_append,List.length_cons,List.length_nil];omega))
 .refine tE (fun h2=>?_) (fun h2=>?_)
  .exact tR (by unfold SzN;first | omega | (simp only [List.length_append,List.length_cons,List.length_nil];omega))
  .refine tE (fun h3=>?_) (fun h3=>?_)
   .exact tJ (Zso trivial)
   .exact tJ (Zso trivial)
theorem Zaph{a0:Int}:Tot (Zacr a0) (fun r=>(SzN r)):=by
 unfold Zacr
 refine tX (Inv:=Zzj) (μ:=Z2m) (m:=(1000000,0,0,0,0,0)) ?_ ?_
 .dsimp only [Zafn,LT.den]
  refine tE (fun h1=>?_) (fun h1=>?_)
  .exact tJ (Zgs trivial)
  .refine tE (fun h2=>?_) (fun h2=>?_)
   .exact tJ (Zgs trivial)
   .refine tE (fun h3=>?_) (fun h3=>?_)
    .exact tJ (Zgs trivial)
    .refine tE (fun h4=>?_) (fun h4=>?_)
     .exact tJ (Zgs trivial)
     .refine tE (fun h5=>?_) (fun h5=>?_)
      .exact tJ (Zgs trivial)
      .refine tE (fun h6=>?_) (fun h6=>?_)
       .exact tJ (Zgs trivial)
       .exact tJ (Zgs trivial)
 .intro s hs
  cases s with
  | L0 _ _=>exact Zgs hs
  | L1 _ _=>exact Zso hs
def Zapi:Zr1->Prop
 | .L0 v1 v5 v6=>(SzT v5)/\(0<=v6)
def Z2n:Zr1->M6
 | .L0 v1 v5 v6=>(1,((v5.length:Int) - v6).toNat,1000000,0,0,0)
theorem Zi2{a0:Int}{a1:Int}:Tot (Zacs a0 a1) (fun r=>True):=by
 unfold Zacs
 refine tX (Inv:=Zapi) (μ:=Z2n) (m:=(1000000,0,0,0,0,0)) ?_ ?_
 .dsimp only [Zafp,LT.den]
  refine tB (Zaph) (fun x1 h2=>?_)
  exact tL ⟨SzN.t h2,cl⟩ (by unfold Z2n lt6;dsimp only;omega)
 .intro s hs
  cases s with
  | L0 v1 v5 v6=>
   obtain⟨ov5,cv6⟩:=hs
   have lb_v5:v5.length<=562949953421312:=ov5
   show Tot (Z1r v1 v5 v6).den _
   dsimp only [Z1r,LT.den]
   have q1:v5.length<=562949953421312:=ov5
   refine tD (fun h2=>?_) (fun h2=>?_)
   .refine tB (tI (by omega) (by omega)) (fun x3 h4=>?_)
    refine tE (fun h5=>?_) (fun h5=>?_)
    .exact tR trivial
    .refine qw (v6+1) fun q6 q7=>?_
     exact tL ⟨ov5,cl⟩ (by unfold Z2n lt6;dsimp only;omega)
   .exact tR trivial
theorem Zadg{a0:Int}:Tot (Zym a0) (fun r=>True):=by
 unfold Zym
 refine tZ ?_
 dsimp only [Z3d,LT.den]
 refine tE (fun h1=>?_) (fun h1=>?_)
 .exact tR trivial
 .exact tR trivial
def Zsp:Ztc->Prop
 | .L0 v1 E0=>(Zsi E0)/\True
 | .L1 E0=>(Zsi E0)/\True
def Z8r:Ztc->M6
 | .L0 v1 E0=>(0,0,0,0,0,0)
 | .L1 E0=>(0,0,0,0,0,0)
theorem Zwr{E0:Zgw}(h:Zsp (.L1 E0)):Tot (Zu1 E0).den (Nx Zsp Z8r (0,0,0,0,0,0) (fun r=>True)):=by
 obtain⟨O0,_⟩:=h
 dsimp only [Zu1,LT.den]
 refine tE (fun h1=>?_) (fun h1=>?_)
 .refine tB (Zhw O0) (fun x2 h3=>?_)
  have eh3_0:=h3
  exact tR trivial
 .exact tR trivial
theorem Zws{v1:Int}{E0:Zgw}(h:Zsp (.L0 v1 E0)):Tot (Zu2 v1 E0).den (Nx Zsp Z8r (0,0,0,0,0,0) (fun r=>True)):=by
 obtain⟨O0,_⟩:=h
 dsimp only [Zu2,LT.den]
 refine tD (fun h1=>?_) (fun h1=>?_)
 .exact tR trivial
 .refine tD (fun h2=>?_) (fun h2=>?_)
  .exact tR trivial
  .refine tB (Zadg) (fun x3 h4=>?_)
   refine tF (fun h5=>?_) (fun h5=>?_)
   .refine tD (fun h6=>?_) (fun h6=>?_)
    .exact tR trivial
    .refine tD (fun h7=>?_) (fun h7=>?_)
     .exact tR trivial
     .exact tJ (Zwr ⟨O0,trivial⟩)
   .refine tN (fun h8=>?_) (fun h8=>?_)
    .exact tR trivial
    .exact tJ (Zwr ⟨O0,trivial⟩)
theorem Zat0{a0:Zgw}{a1:Int}(oa0:Zsi a0):Tot (Zan2 a0 a1) (fun r=>True):=by
 unfold Zan2
 refine tX (Inv:=Zsp) (μ:=Z8r) (m:=(1000000,0,0,0,0,0)) ?_ ?_
 .dsimp only [Zan0,LT.den]
  refine tD (fun h1=>?_) (fun h1=>?_)
  .exact tJ (Zws ⟨oa0,trivial⟩)
  .exact tJ (Zws ⟨oa0,trivial⟩)
 .intro s hs
  cases s with
  | L0 _ _=>exact Zws hs
  | L1 _=>exact Zwr hs
theorem Z8s{a0:Int}:Tot (Zact a0) (fun r=>(SzN r)):=by
 unfold Zact
 refine tZ ?_
 dsimp only [Zafs,LT.den]
 refine tE (fun h1=>?_) (fun h1=>?_)
 .exact tR (by unfold SzN;first | omega | (simp only [List.length_append,List.length_cons,List.length_nil];omega))
 .refine tE (fun h2=>?_) (fun h2=>?_)
  .exact tR (by unfold SzN;first | omega | (simp only [List.length_append,List.length_cons,List.length_nil];omega))
  .refine tE (fun h3=>?_) (fun h3=>?_)
   .exact tR (by unfold SzN;first | omega | (simp only [List.length_append,List.length_cons,List.length_nil];omega))
   .exact tR (SzN.nil)
theorem Zat1{a0:Zdt}(oa0:Zwi a0):Tot (Zan5 a0) (fun r=>True):=by
 unfold Zan5
 refine tZ ?_
 dsimp only [Zan3,LT.den]
 refine tE (fun h1=>?_) (fun h1=>?_)
 .refine tD (fun h2=>?_) (fun h2=>?_)
  .exact tR trivial
  .refine tD (fun h3=>?_) (fun h3=>?_)
   .exact tR trivial
   .refine tD (fun h4=>?_) (fun h4=>?_)
    .refine tD (fun h5=>?_) (fun h5=>?_)
     .exact tR trivial
     .exact tR trivial
    .exact tR trivial
 .refine tE (fun h6=>?_) (fun h6=>?_)
  .refine tD (fun h7=>?_) (fun h7=>?_)
   .exact tR trivial
   .refine tD (fun h8=>?_) (fun h8=>?_)
    .exact tR trivial
    .refine tB (Zhw oa0) (fun x9 h10=>?_)
     have eh10_0:=h10
     refine tO (fun h11=>?_) (fun h11=>?_)
     .exact tR trivial
     .have h11_0:=eh10_0 h11
      refine tD (fun h12=>?_) (fun h12=>?_)
      .refine tD (fun h13=>?_) (fun h13=>?_)
       .exact tR trivial
       .exact tR trivial
      .exact tR trivial
  .refine tE (fun h14=>?_) (fun h14=>?_)
   .refine tB (Z8s) (fun x15 h16=>?_)
    refine tF (fun h17=>?_) (fun h17=>?_)
    .exact tR trivial
    .refine tD (fun h18=>?_) (fun h18=>?_)
     .refine tD (fun h19=>?_) (fun h19=>?_)
      .exact tR trivial
      .exact tR trivial
     .exact tR trivial
   .refine tD (fun h20=>?_) (fun h20=>?_)
    .refine tD (fun h21=>?_) (fun h21=>?_)
     .exact tR trivial
     .exact tR trivial
    .exact tR trivial
theorem Zapj{a0:List Zq}(oa0:(SzL 176 Zbk) a0):Tot (Zacu a0) (fun r=>True):=by
 unfold Zacu
 refine tZ ?_
 have lb_a0:=oa0.1
 dsimp only [Zafu,LT.den]
 refine tB (Zqt oa0) (fun x1 h2=>?_)
 have eh2_0:=h2
 exact tR trivial
def Zapk:Zr2->Prop
 | .L0 E0 E1 E2 v4=>(0<=v4)/\True
def Z2o:Zr2->M6
 | .L0 E0 E1 E2 v4=>(1,(5 - v4).toNat,1000000,0,0,0)
theorem Zapl{a0:A6 Int}:Tot (Zacv a0) (fun r=>True):=by
 unfold Zacv
 refine tX (Inv:=Zapk) (μ:=Z2o) (m:=(1000000,0,0,0,0,0)) ?_ ?_
 .dsimp only [Zafw,LT.den]
  refine tB (tI (by omega) (by have e:(A6.list a0).length=6:=rfl;omega)) (fun x1 h2=>?_)
  exact tL ⟨cl,trivial⟩ (by unfold Z2o lt6;dsimp only;omega)
 .intro s hs
  cases s with
  | L0 E0 E1 E2 v4=>
   obtain⟨cv4,_⟩:=hs
   show Tot (Z1s E0 E1 E2 v4).den _
   dsimp only [Z1s,LT.den]
   refine tD (fun h1=>?_) (fun h1=>?_)
   .refine qw (v4+1) fun q2 q3=>?_
    refine tB (tI (by omega) (by have e:(A6.list E0).length=6:=rfl;omega)) (fun x4 h5=>?_)
    refine tB (tI (by omega) (by have e:(A5.list E2.Color).length=5:=rfl;omega)) (fun x6 h7=>?_)
    refine tB (Tot.setA5 (by omega) (by omega)) (fun x8 h9=>?_)
    exact tL ⟨cl,trivial⟩ (by unfold Z2o lt6;dsimp only;omega)
   .exact tR trivial
def Zapm:Zln->Prop
 | .L0 E0 v3 v4=>(0<=v4)/\(E0.X<=2)/\(∀ n,n∈A5.list E0.Color->n<=9)/\(v3.length<=v4.toNat)/\(v4<=2)
 | .L1 E0 v3 v5=>(0<=v5)/\(v3.length<=200+200*v5.toNat)/\(∀ n,n∈A5.list E0.Color->n<=9)/\(v5<=5)
 | .L2 E0 v3 v5 v6=>(0<=v5)/\(0<=v6)/\(v5 < 5)/\(v3.length<=200+200*v5.toNat+v6.toNat)/\(∀ n,n∈A5.list E0.Color->n<=9)/\(v5 < 5)/\(v6<=9)
def Zjn:Zln->M6
 | .L0 E0 v3 v4=>(3,(E0.X - v4).toNat,1000000,0,0,0)
 | .L1 E0 v3 v5=>(1,(5 - v5).toNat,1000000,0,0,0)
 | .L2 E0 v3 v5 v6=>(1,(5 - v5).toNat,1,(9 - v6).toNat,1000000,0)
theorem Zapn{a0:Zbz}:Tot (Zacw a0) (fun r=>(SzT r)):=by
 unfold Zacw
 refine tX (Inv:=Zapm) (μ:=Zjn) (m:=(1000000,0,0,0,0,0)) ?_ ?_
 .dsimp only [Zafy,LT.den]
  refine tB (Z49 a0) (fun x1 h2=>?_)
  have eh2_0:=h2.1
  have eh2_1:=h2.2
  refine tO (fun h3=>?_) (fun h3=>?_)
  .exact tR (SzT.nil)
  .have h3_0:=eh2_0 h3
   have h3_1:=eh2_1 h3
   exact tL ⟨cl,cl,cl,cl,cl⟩ (by unfold Zjn lt6;dsimp only;omega)
 .intro s hs
  cases s with
  | L0 E0 v3 v4=>
   obtain⟨cv4,i0,i1,i2,i3⟩:=hs
   show Tot (Z1t E0 v3 v4).den _
   dsimp only [Z1t,LT.den]
   refine tD (fun h1=>?_) (fun h1=>?_)
   .refine tB (tK (by first | (simp only [List.length_append,List.length_cons,List.length_nil];omega) | omega)) (fun x2 h3=>?_)
    refine qw (v4+1) fun q4 q5=>?_
    exact tL ⟨cl,cl,cl,cl,cl⟩ (by unfold Zjn lt6;dsimp only;omega)
   .refine tN (fun h6=>?_) (fun h6=>?_)
    .refine tB (Zk4) (fun x7 h8=>?_)
     have q9:x7.length<=100:=h8
     refine tB (tK (by first | (simp only [List.length_append,List.length_cons,List.length_nil];omega) | omega)) (fun x10 h11=>?_)
     exact tL ⟨cl,cl,cl,cl⟩ (by unfold Zjn lt6;dsimp only;omega)
    .exact tL ⟨cl,cl,cl,cl⟩ (by unfold Zjn lt6;dsimp only;omega)
  | L1 E0 v3 v5=>
   obtain⟨cv5,i0,i1,i2⟩:=hs
   show Tot (Z1u E0 v3 v5).den _
   dsimp only [Z1u,LT.den]
   refine tD (fun h1=>?_) (fun h1=>?_)
   .exact tL ⟨cl,cl,cl,cl,cl,cl,cl⟩ (by unfold Zjn lt6;dsimp only;omega)
   .refine tF (fun h2=>?_) (fun h2=>?_)
    .exact tR (by unfold SzT;first | omega | (simp only [List.length_append,List.length_cons,List.length_nil];omega))
    .exact tR (by unfold SzT;first | omega | (simp only [List.length_append,List.length_cons,List.length_nil];omega))
  | L2 E0 v3 v5 v6=>
   obtain⟨cv5,cv6,bd2,i0,i1,i2,i3⟩:=hs
   show Tot (Z1v E0 v3 v5 v6).den _
   dsimp only [Z1v,LT.den]
   refine tB (tI (by omega) (by have e:(A5.list E0.Color).length=5:=rfl;omega)) (fun x1 h2=>?_)
   have ph2:=i1 x1 h2.1
   refine tD (fun h3=>?_) (fun h3=>?_)
   .refine qw (v5+1) fun q4 q5=>?_
    refine tB (Tot.slice (by omega) (by omega) (by first | omega | (simp only [List.length_cons,List.length_nil];omega))) (fun x6 h7=>?_)
    have lh7:=h7.1
    refine tB (tK (by first | (simp only [List.length_append,List.length_cons,List.length_nil];omega) | omega)) (fun x8 h9=>?_)
    refine qw (v6+1) fun q10 q11=>?_
    exact tL ⟨cl,cl,cl,cl,cl,cl,cl⟩ (by unfold Zjn lt6;dsimp only;omega)
   .refine qw (v5+1) fun q12 q13=>?_
    exact tL ⟨cl,cl,cl,cl⟩ (by unfold Zjn lt6;dsimp only;omega)
theorem Zadh{a0:A6 Int}:Tot (Zyn a0) (fun r=>(SzT r)):=by
 unfold Zyn
 refine tZ ?_
 dsimp only [Z3f,LT.den]
 refine tB (Zapl) (fun x1 h2=>?_)
 refine tB (Zapn) (fun x3 h4=>?_)
 exact tR h4
theorem Zais{a0:Int}{a1:Zn}(oa1:Zch a1):Tot (Z4n a0 a1) (fun r=>True):=by
 unfold Z4n
 refine tZ ?_
 dsimp only [Z7o,LT.den]
 refine tE (fun h1=>?_) (fun h1=>?_)
 .refine tB (Zhw oa1) (fun x2 h3=>?_)
  have eh3_0:=h3
  refine tF (fun h4=>?_) (fun h4=>?_)
  .have h4_0:=eh3_0 h4
   exact tR trivial
  .exact tR trivial
 .refine tB (Zhw oa1) (fun x5 h6=>?_)
  have eh6_0:=h6
  refine tF (fun h7=>?_) (fun h7=>?_)
  .have h7_0:=eh6_0 h7
   exact tR trivial
  .exact tR trivial
def Zhy:Zi9->Prop
 | .L0 E0 v5=>(Za2 E0)/\True
 | .L1 E0 v5 v6=>(Za2 E0)/\True
 | .L2 E0 v5 v6 v7=>(Za2 E0)/\True
 | .L3 E0 v5 v6 v7 v8=>(Za2 E0)/\True
 | .L4 E0 v5 v6 v7 v8 v9=>(Za2 E0)/\True
 | .L5 E0 v5 v6 v7 v8 v9 v10=>(Za2 E0)/\True
 | .L6 E0 v5 v6 v7 v8 v9 v10 v11=>(Za2 E0)/\True
 | .L7 v5 v6 v7 v8 v9 v10 v11 v12=>True
def Zke:Zi9->M6
 | .L0 E0 v5=>(0,0,0,0,0,0)
 | .L1 E0 v5 v6=>(0,0,0,0,0,0)
 | .L2 E0 v5 v6 v7=>(0,0,0,0,0,0)
 | .L3 E0 v5 v6 v7 v8=>(0,0,0,0,0,0)
 | .L4 E0 v5 v6 v7 v8 v9=>(0,0,0,0,0,0)
 | .L5 E0 v5 v6 v7 v8 v9 v10=>(0,0,0,0,0,0)
 | .L6 E0 v5 v6 v7 v8 v9 v10 v11=>(0,0,0,0,0,0)
 | .L7 v5 v6 v7 v8 v9 v10 v11 v12=>(0,0,0,0,0,0)
theorem Zwt{v5:Bool}{v6:Bool}{v7:Bool}{v8:Bool}{v9:Bool}{v10:Bool}{v11:Bool}{v12:Bool}(h:True):Tot (Zu3 v5 v6 v7 v8 v9 v10 v11 v12).den (Nx Zhy Zke (0,0,0,0,0,0) (fun r=>True)):=by
 dsimp only [Zu3,LT.den]
 refine tF (fun h1=>?_) (fun h1=>?_)
 .refine tF (fun h2=>?_) (fun h2=>?_)
  .refine tF (fun h3=>?_) (fun h3=>?_)
   .refine tF (fun h4=>?_) (fun h4=>?_)
    .refine tF (fun h5=>?_) (fun h5=>?_)
     .refine tF (fun h6=>?_) (fun h6=>?_)
      .refine tF (fun h7=>?_) (fun h7=>?_)
       .exact tR trivial
       .exact tR trivial
      .exact tR trivial
     .exact tR trivial
    .exact tR trivial
   .exact tR trivial
  .exact tR trivial
 .exact tR trivial
theorem Zp8{E0:Zv}{v5:Bool}{v6:Bool}{v7:Bool}{v8:Bool}{v9:Bool}{v10:Bool}{v11:Bool}(h:(Za2 E0)/\True):Tot (Zq2 E0 v5 v6 v7 v8 v9 v10 v11).den (Nx Zhy Zke (0,0,0,0,0,0) (fun r=>True)):=by
 obtain⟨O0,_⟩:=h
 dsimp only [Zq2,LT.den]
 refine tB (Zi2) (fun x1 h2=>?_)
 refine tF (fun h3=>?_) (fun h3=>?_)
 .refine tB (Zais O0.2.2.2.1) (fun x4 h5=>?_)
  exact tJ (Zwt trivial)
 .exact tJ (Zwt trivial)
theorem Zwu{E0:Zv}{v5:Bool}{v6:Bool}{v7:Bool}{v8:Bool}{v9:Bool}{v10:Bool}(h:(Za2 E0)/\True):Tot (Zu4 E0 v5 v6 v7 v8 v9 v10).den (Nx Zhy Zke (0,0,0,0,0,0) (fun r=>True)):=by
 obtain⟨O0,_⟩:=h
 dsimp only [Zu4,LT.den]
 refine tB (Zi2) (fun x1 h2=>?_)
 refine tF (fun h3=>?_) (fun h3=>?_)
 .refine tO (fun h4=>?_) (fun h4=>?_)
  .refine tB (Zadh) (fun x5 h6=>?_)
   exact tJ (Zp8 ⟨O0,trivial⟩)
  .exact tJ (Zp8 ⟨O0,trivial⟩)
 .exact tJ (Zp8 ⟨O0,trivial⟩)
theorem Zwv{E0:Zv}{v5:Bool}{v6:Bool}{v7:Bool}{v8:Bool}{v9:Bool}(h:(Za2 E0)/\True):Tot (Zu5 E0 v5 v6 v7 v8 v9).den (Nx Zhy Zke (0,0,0,0,0,0) (fun r=>True)):=by
 obtain⟨O0,_⟩:=h
 dsimp only [Zu5,LT.den]
 have q1:=O0.2.2.2.2.1
 refine tB (Zi2) (fun x2 h3=>?_)
 refine tF (fun h4=>?_) (fun h4=>?_)
 .refine tB (Zapj O0.2.2.2.2) (fun x5 h6=>?_)
  exact tJ (Zwu ⟨O0,trivial⟩)
 .exact tJ (Zwu ⟨O0,trivial⟩)
theorem Zww{E0:Zv}{v5:Bool}{v6:Bool}{v7:Bool}{v8:Bool}(h:(Za2 E0)/\True):Tot (Zu6 E0 v5 v6 v7 v8).den (Nx Zhy Zke (0,0,0,0,0,0) (fun r=>True)):=by
 obtain⟨O0,_⟩:=h
 dsimp only [Zu6,LT.den]
 refine tB (Zi2) (fun x1 h2=>?_)
 refine tF (fun h3=>?_) (fun h3=>?_)
 .refine tB (Zat1 O0.2.1) (fun x4 h5=>?_)
  exact tJ (Zwv ⟨O0,trivial⟩)
 .exact tJ (Zwv ⟨O0,trivial⟩)
theorem Zp9{E0:Zv}{v5:Bool}{v6:Bool}{v7:Bool}(h:(Za2 E0)/\True):Tot (Zq3 E0 v5 v6 v7).den (Nx Zhy Zke (0,0,0,0,0,0) (fun r=>True)):=by
 obtain⟨O0,_⟩:=h
 dsimp only [Zq3,LT.den]
 refine tB (Zi2) (fun x1 h2=>?_)
 refine tF (fun h3=>?_) (fun h3=>?_)
 .refine tB (Z48 (SzS.t O0.2.2.1)) (fun x4 h5=>?_)
  exact tJ (Zww ⟨O0,trivial⟩)
 .exact tJ (Zww ⟨O0,trivial⟩)
theorem Zmk{E0:Zv}{v5:Bool}{v6:Bool}(h:Zhy (.L1 E0 v5 v6)):Tot (Zni E0 v5 v6).den (Nx Zhy Zke (0,0,0,0,0,0) (fun r=>True)):=by
 obtain⟨O0,_⟩:=h
 dsimp only [Zni,LT.den]
 refine tE (fun h1=>?_) (fun h1=>?_)
 .exact tJ (Zp9 ⟨O0,trivial⟩)
 .refine tB (Zi2) (fun x2 h3=>?_)
  refine tF (fun h4=>?_) (fun h4=>?_)
  .refine tB (Z8s) (fun x5 h6=>?_)
   exact tJ (Zp9 ⟨O0,trivial⟩)
  .exact tJ (Zp9 ⟨O0,trivial⟩)
theorem Zwx{E0:Zv}{v5:Bool}(h:Zhy (.L0 E0 v5)):Tot (Zu7 E0 v5).den (Nx Zhy Zke (0,0,0,0,0,0) (fun r=>True)):=by
 obtain⟨O0,_⟩:=h
 dsimp only [Zu7,LT.den]
 refine tE (fun h1=>?_) (fun h1=>?_)
 .exact tJ (Zmk ⟨O0,trivial⟩)
 .refine tB (Zi2) (fun x2 h3=>?_)
  refine tF (fun h4=>?_) (fun h4=>?_)
  .refine tD (fun h5=>?_) (fun h5=>?_)
   .exact tJ (Zmk ⟨O0,trivial⟩)
   .exact tJ (Zmk ⟨O0,trivial⟩)
  .exact tJ (Zmk ⟨O0,trivial⟩)
theorem Zat2{a0:Zv}{a1:Int}(oa0:Za2 a0):Tot (Zan8 a0 a1) (fun r=>True):=by
 unfold Zan8
 refine tX (Inv:=Zhy) (μ:=Zke) (m:=(1000000,0,0,0,0,0)) ?_ ?_
 .dsimp only [Zan6,LT.den]
  refine tB (Zapg) (fun x1 h2=>?_)
  refine tF (fun h3=>?_) (fun h3=>?_)
  .exact tR trivial
  .refine tB (Zi2) (fun x4 h5=>?_)
   refine tF (fun h6=>?_) (fun h6=>?_)
   .refine tB (Zat0 oa0.1) (fun x7 h8=>?_)
    exact tJ (Zwx ⟨oa0,trivial⟩)
   .exact tJ (Zwx ⟨oa0,trivial⟩)
 .intro s hs
  cases s with
  | L0 _ _=>exact Zwx hs
  | L1 _ _ _=>exact Zmk hs
  | L2 _ _ _ _=>exact Zp9 hs
  | L3 _ _ _ _ _=>exact Zww hs
  | L4 _ _ _ _ _ _=>exact Zwv hs
  | L5 _ _ _ _ _ _ _=>exact Zwu hs
  | L6 _ _ _ _ _ _ _ _=>exact Zp8 hs
  | L7 _ _ _ _ _ _ _ _=>exact Zwt hs
def Zagu:Zma->Prop
 | .L0 v0 v1 v5=>((SzL 560 Za2) v0)/\(0<=v5)
def Zty:Zma->M6
 | .L0 v0 v1 v5=>(1,((v0.length:Int) - v5).toNat,1000000,0,0,0)
theorem Zagv{a0:List Zv}{a1:Int}(oa0:(SzL 560 Za2) a0):Tot (Z1w a0 a1) (fun r=>True):=by
 unfold Z1w
 refine tX (Inv:=Zagu) (μ:=Zty) (m:=(1000000,0,0,0,0,0)) ?_ ?_
 .have lb_a0:=oa0.1
  dsimp only [Z5n,LT.den]
  exact tL ⟨oa0,cl⟩ (by unfold Zty lt6;dsimp only;omega)
 .intro s hs
  cases s with
  | L0 v0 v1 v5=>
   obtain⟨ov0,cv5⟩:=hs
   have lb_v0:=ov0.1
   show Tot (Ztd v0 v1 v5).den _
   dsimp only [Ztd,LT.den]
   have q1:=ov0.1
   refine tD (fun h2=>?_) (fun h2=>?_)
   .refine tB (tI (by omega) (by omega)) (fun x3 h4=>?_)
    have oh4:Za2 x3:=ov0.2 x3 h4.1
    refine tB (Zat2 oh4) (fun x5 h6=>?_)
    refine tO (fun h7=>?_) (fun h7=>?_)
    .exact tR trivial
    .refine qw (v5+1) fun q8 q9=>?_
     exact tL ⟨ov0,cl⟩ (by unfold Zty lt6;dsimp only;omega)
   .refine tD (fun h10=>?_) (fun h10=>?_)
    .exact tR trivial
    .exact tR trivial
def Zhz:Zlo->Prop
 | .L0 E0 v3=>(Zbo E0)/\True
 | .L1 E0 v3=>(Zbo E0)/\True
 | .L2 E0 v3=>(Zbo E0)/\True
 | .L3 E0 v3=>(Zbo E0)/\True
 | .L4 E0 v3=>(Zbo E0)/\True
def Zrb:Zlo->M6
 | .L0 E0 v3=>(0,0,0,0,0,0)
 | .L1 E0 v3=>(0,0,0,0,0,0)
 | .L2 E0 v3=>(0,0,0,0,0,0)
 | .L3 E0 v3=>(0,0,0,0,0,0)
 | .L4 E0 v3=>(0,0,0,0,0,0)
theorem Zwy{E0:Zs}{v3:Bool}(h:Zhz (.L4 E0 v3)):Tot (Zu8 E0 v3).den (Nx Zhz Zrb (0,0,0,0,0,0) (fun r=>True)):=by
 obtain⟨O0,_⟩:=h
 dsimp only [Zu8,LT.den]
 refine tF (fun h1=>?_) (fun h1=>?_)
 .refine tB (Zako O0.2.2.2.1) (fun x2 h3=>?_)
  refine tF (fun h4=>?_) (fun h4=>?_)
  .have q5:=O0.2.2.2.1.1
   refine tB (Zagv O0.2.2.2.2.1) (fun x6 h7=>?_)
   exact tR trivial
  .exact tR trivial
 .have q8:=O0.2.2.2.1.1
  refine tE (fun h9=>?_) (fun h9=>?_)
  .have q10:=O0.2.2.2.2.1.1
   exact tR trivial
  .exact tR trivial
theorem Zwz{E0:Zs}{v3:Bool}(h:Zhz (.L3 E0 v3)):Tot (Zu9 E0 v3).den (Nx Zhz Zrb (0,0,0,0,0,0) (fun r=>True)):=by
 obtain⟨O0,_⟩:=h
 dsimp only [Zu9,LT.den]
 refine tE (fun h1=>?_) (fun h1=>?_)
 .refine tB (Zatz O0.2.2.2.2.2) (fun x2 h3=>?_)
  refine tO (fun h4=>?_) (fun h4=>?_)
  .exact tR trivial
  .exact tJ (Zwy ⟨O0,trivial⟩)
 .refine tO (fun h5=>?_) (fun h5=>?_)
  .exact tR trivial
  .exact tJ (Zwy ⟨O0,trivial⟩)
theorem Zw0{E0:Zs}{v3:Bool}(h:Zhz (.L2 E0 v3)):Tot (Zva E0 v3).den (Nx Zhz Zrb (0,0,0,0,0,0) (fun r=>True)):=by
 obtain⟨O0,_⟩:=h
 dsimp only [Zva,LT.den]
 refine tE (fun h1=>?_) (fun h1=>?_)
 .refine tB (Zaty O0.2.2.1) (fun x2 h3=>?_)
  refine tO (fun h4=>?_) (fun h4=>?_)
  .exact tR trivial
  .exact tJ (Zwz ⟨O0,trivial⟩)
 .refine tO (fun h5=>?_) (fun h5=>?_)
  .exact tR trivial
  .refine tF (fun h6=>?_) (fun h6=>?_)
   .exact tR trivial
   .exact tJ (Zwz ⟨O0,trivial⟩)
theorem Zw1{E0:Zs}{v3:Bool}(h:Zhz (.L1 E0 v3)):Tot (Zvb E0 v3).den (Nx Zhz Zrb (0,0,0,0,0,0) (fun r=>True)):=by
 obtain⟨O0,_⟩:=h
 dsimp only [Zvb,LT.den]
 refine tE (fun h1=>?_) (fun h1=>?_)
 .refine tB (Zakk) (fun x2 h3=>?_)
  refine tO (fun h4=>?_) (fun h4=>?_)
  .exact tR trivial
  .exact tJ (Zw0 ⟨O0,trivial⟩)
 .refine tO (fun h5=>?_) (fun h5=>?_)
  .exact tR trivial
  .refine tF (fun h6=>?_) (fun h6=>?_)
   .exact tR trivial
   .exact tJ (Zw0 ⟨O0,trivial⟩)
theorem Zqa{E0:Zs}{v3:Bool}(h:Zhz (.L0 E0 v3)):Tot (Zq4 E0 v3).den (Nx Zhz Zrb (0,0,0,0,0,0) (fun r=>True)):=by
 obtain⟨O0,_⟩:=h
 dsimp only [Zq4,LT.den]
 refine tE (fun h1=>?_) (fun h1=>?_)
 .refine tB (Zhw O0.1) (fun x2 h3=>?_)
  have eh3_0:=h3
  refine tO (fun h4=>?_) (fun h4=>?_)
  .exact tR trivial
  .have h4_0:=eh3_0 h4
   refine tN (fun h5=>?_) (fun h5=>?_)
   .exact tR trivial
   .refine tB (Zqt O0.2.1) (fun x6 h7=>?_)
    have eh7_0:=h7
    refine tF (fun h8=>?_) (fun h8=>?_)
    .exact tR trivial
    .exact tJ (Zw1 ⟨O0,trivial⟩)
 .refine tO (fun h9=>?_) (fun h9=>?_)
  .exact tR trivial
  .have q10:=O0.2.1.1
   refine tD (fun h11=>?_) (fun h11=>?_)
   .exact tR trivial
   .exact tJ (Zw1 ⟨O0,trivial⟩)
theorem Zxn{a0:Zs}(oa0:Zbo a0):Tot (Zaob a0) (fun r=>True):=by
 unfold Zaob
 refine tX (Inv:=Zhz) (μ:=Zrb) (m:=(1000000,0,0,0,0,0)) ?_ ?_
 .dsimp only [Zan9,LT.den]
  refine tD (fun h1=>?_) (fun h1=>?_)
  .exact tR trivial
  .refine tD (fun h2=>?_) (fun h2=>?_)
   .exact tR trivial
   .refine tE (fun h3=>?_) (fun h3=>?_)
    .exact tJ (Zqa ⟨oa0,trivial⟩)
    .refine tE (fun h4=>?_) (fun h4=>?_)
     .exact tJ (Zqa ⟨oa0,trivial⟩)
     .exact tJ (Zqa ⟨oa0,trivial⟩)
 .intro s hs
  cases s with
  | L0 _ _=>exact Zqa hs
  | L1 _ _=>exact Zw1 hs
  | L2 _ _=>exact Zw0 hs
  | L3 _ _=>exact Zwz hs
  | L4 _ _=>exact Zwy hs
theorem Zapo{a0:Zai}(oa0:Zbq a0):Tot (Zacx a0) (fun r=>True):=by
 unfold Zacx
 refine tZ ?_
 dsimp only [Zaf1,LT.den]
 refine tE (fun h1=>?_) (fun h1=>?_)
 .exact tR trivial
 .exact tR trivial
def Z5e(a0:Zai):Zte->Prop
 | .L0 E0=>(E0=a0)/\(Zbq E0)/\(E0.Abilities.length<=8)
 | .L1 E0 v3 v4=>(E0=a0)/\(Zbq E0)/\(0<=v4)/\(E0.Abilities.length<=8)
def Zrc:Zte->M6
 | .L0 E0=>(2,0,0,0,0,0)
 | .L1 E0 v3 v4=>(1,((E0.Abilities.length:Int) - v4).toNat,1000000,0,0,0)
theorem Zw2{a0:Zai}{E0:Zai}(h:(Z5e a0) (.L0 E0)):Tot (Zvc E0).den (Nx (Z5e a0) Zrc (2,0,0,0,0,0) (fun r=>(r=true->a0.Abilities.length<=8))):=by
 obtain⟨al0,O0,i0⟩:=h
 subst al0
 dsimp only [Zvc,LT.den]
 exact tL ⟨rfl,O0,cl,cl⟩ (by unfold Zrc lt6;dsimp only;omega)
theorem Zat3{a0:Zai}(oa0:Zbq a0):Tot (Zaoe a0) (fun r=>(r=true->a0.Abilities.length<=8)):=by
 unfold Zaoe
 refine tX (Inv:=(Z5e a0)) (μ:=Zrc) (m:=(1000000,0,0,0,0,0)) ?_ ?_
 .dsimp only [Zaoc,LT.den]
  refine tB (Z48 (SzS.t oa0.1)) (fun x1 h2=>?_)
  refine tO (fun h3=>?_) (fun h3=>?_)
  .exact tR (by first | (intro hr;exact absurd hr (by decide)) | (intro _;omega))
  .refine tB (Z49 a0.Cost) (fun x4 h5=>?_)
   have eh5_0:=h5.1
   have eh5_1:=h5.2
   refine tO (fun h6=>?_) (fun h6=>?_)
   .exact tR (by first | (intro hr;exact absurd hr (by decide)) | (intro _;omega))
   .have h6_0:=eh5_0 h6
    have h6_1:=eh5_1 h6
    refine tB (Zatw oa0.2.1) (fun x7 h8=>?_)
    refine tO (fun h9=>?_) (fun h9=>?_)
    .exact tR (by first | (intro hr;exact absurd hr (by decide)) | (intro _;omega))
    .refine tB (Zags) (fun x10 h11=>?_)
     refine tO (fun h12=>?_) (fun h12=>?_)
     .exact tR (by first | (intro hr;exact absurd hr (by decide)) | (intro _;omega))
     .refine tD (fun h13=>?_) (fun h13=>?_)
      .exact tR (by first | (intro hr;exact absurd hr (by decide)) | (intro _;omega))
      .refine tD (fun h14=>?_) (fun h14=>?_)
       .exact tR (by first | (intro hr;exact absurd hr (by decide)) | (intro _;omega))
       .refine tD (fun h15=>?_) (fun h15=>?_)
        .exact tR (by first | (intro hr;exact absurd hr (by decide)) | (intro _;omega))
        .refine tD (fun h16=>?_) (fun h16=>?_)
         .exact tR (by first | (intro hr;exact absurd hr (by decide)) | (intro _;omega))
         .refine tD (fun h17=>?_) (fun h17=>?_)
          .exact tR (by first | (intro hr;exact absurd hr (by decide)) | (intro _;omega))
          .refine tD (fun h18=>?_) (fun h18=>?_)
           .exact tR (by first | (intro hr;exact absurd hr (by decide)) | (intro _;omega))
           .refine tB (Zadb oa0) (fun x19 h20=>?_)
            refine tO (fun h21=>?_) (fun h21=>?_)
            .refine tN (fun h22=>?_) (fun h22=>?_)
             .exact tR (by first | (intro hr;exact absurd hr (by decide)) | (intro _;omega))
             .refine tN (fun h23=>?_) (fun h23=>?_)
              .exact tR (by first | (intro hr;exact absurd hr (by decide)) | (intro _;omega))
              .have q24:=oa0.2.2.1
               refine tD (fun h25=>?_) (fun h25=>?_)
               .exact tR (by first | (intro hr;exact absurd hr (by decide)) | (intro _;omega))
               .exact tJ (Zw2 ⟨rfl,oa0,cl⟩)
            .have q26:=oa0.2.2.1
             refine tD (fun h27=>?_) (fun h27=>?_)
             .exact tR (by first | (intro hr;exact absurd hr (by decide)) | (intro _;omega))
             .exact tJ (Zw2 ⟨rfl,oa0,cl⟩)
 .intro s hs
  cases s with
  | L0 _=>exact Zw2 hs
  | L1 E0 v3 v4=>
   obtain⟨al0,O0,cv4,i0⟩:=hs
   subst al0
   show Tot (Z7q E0 v3 v4).den _
   dsimp only [Z7q,LT.den,Zrc]
   have q1:=O0.2.2.1
   refine tD (fun h2=>?_) (fun h2=>?_)
   .refine tB (tI (by omega) (by omega)) (fun x3 h4=>?_)
    have oh4:Zbo x3:=O0.2.2.2 x3 h4.1
    refine tB (Zxn oh4) (fun x5 h6=>?_)
    refine tO (fun h7=>?_) (fun h7=>?_)
    .exact tR (by first | (intro hr;exact absurd hr (by decide)) | (intro _;omega))
    .refine tE (fun h8=>?_) (fun h8=>?_)
     .refine qw (v3+1) fun q9 q10=>?_
      refine qw (v4+1) fun q11 q12=>?_
      exact tL ⟨rfl,O0,cl,cl⟩ (by unfold Zrc lt6;dsimp only;omega)
     .refine qw (v4+1) fun q13 q14=>?_
      exact tL ⟨rfl,O0,cl,cl⟩ (by unfold Zrc lt6;dsimp only;omega)
   .refine tB (Zapo O0) (fun x15 h16=>?_)
    refine tF (fun h17=>?_) (fun h17=>?_)
    .refine tO (fun h18=>?_) (fun h18=>?_)
     .refine tE (fun h19=>?_) (fun h19=>?_)
      .refine tE (fun h20=>?_) (fun h20=>?_)
       .exact tR (by first | (intro hr;exact absurd hr (by decide)) | (intro _;omega))
       .exact tR (by first | (intro hr;exact absurd hr (by decide)) | (intro _;omega))
      .exact tR (by first | (intro hr;exact absurd hr (by decide)) | (intro _;omega))
     .exact tR (by first | (intro hr;exact absurd hr (by decide)) | (intro _;omega))
    .refine tE (fun h21=>?_) (fun h21=>?_)
     .refine tO (fun h22=>?_) (fun h22=>?_)
      .refine tE (fun h23=>?_) (fun h23=>?_)
       .exact tR (by first | (intro hr;exact absurd hr (by decide)) | (intro _;omega))
       .exact tR (by first | (intro hr;exact absurd hr (by decide)) | (intro _;omega))
      .exact tR (by first | (intro hr;exact absurd hr (by decide)) | (intro _;omega))
     .exact tR (by first | (intro hr;exact absurd hr (by decide)) | (intro _;omega))
def Zapp:Zr3->Prop
 | .L0 v0 v1 v5=>((SzL 176 Zbq) v0)/\(SzT v1)/\(0<=v5)
def Z2p:Zr3->M6
 | .L0 v0 v1 v5=>(1,((v0.length:Int) - v5).toNat,1000000,0,0,0)
theorem Zapq{a0:List Zai}{a1:List UInt8}(oa0:(SzL 176 Zbq) a0)(oa1:SzT a1):Tot (Zacy a0 a1) (fun r=>True):=by
 unfold Zacy
 refine tX (Inv:=Zapp) (μ:=Z2p) (m:=(1000000,0,0,0,0,0)) ?_ ?_
 .have lb_a0:=oa0.1
  have lb_a1:a1.length<=562949953421312:=oa1
  dsimp only [Zaf3,LT.den]
  exact tL ⟨oa0,oa1,cl⟩ (by unfold Z2p lt6;dsimp only;omega)
 .intro s hs
  cases s with
  | L0 v0 v1 v5=>
   obtain⟨ov0,ov1,cv5⟩:=hs
   have lb_v0:=ov0.1
   have lb_v1:v1.length<=562949953421312:=ov1
   show Tot (Z1x v0 v1 v5).den _
   dsimp only [Z1x,LT.den]
   have q1:=ov0.1
   refine tD (fun h2=>?_) (fun h2=>?_)
   .refine tB (tI (by omega) (by omega)) (fun x3 h4=>?_)
    have oh4:Zbq x3:=ov0.2 x3 h4.1
    refine tF (fun h5=>?_) (fun h5=>?_)
    .exact tR trivial
    .refine qw (v5+1) fun q6 q7=>?_
     exact tL ⟨ov0,ov1,cl⟩ (by unfold Z2p lt6;dsimp only;omega)
   .exact tR trivial
def Zakp:Zpe->Prop
 | .L0 v0 v1 v5=>((SzL 176 Zbq) v0)/\(SzT v1)/\(0<=v5)
def Zsq:Zpe->M6
 | .L0 v0 v1 v5=>(1,((v0.length:Int) - v5).toNat,1000000,0,0,0)
theorem Zakq{a0:List Zai}{a1:List UInt8}(oa0:(SzL 176 Zbq) a0)(oa1:SzT a1):Tot (Z7r a0 a1) (fun r=>True):=by
 unfold Z7r
 refine tX (Inv:=Zakp) (μ:=Zsq) (m:=(1000000,0,0,0,0,0)) ?_ ?_
 .have lb_a0:=oa0.1
  have lb_a1:a1.length<=562949953421312:=oa1
  dsimp only [Zaax,LT.den]
  exact tL ⟨oa0,oa1,cl⟩ (by unfold Zsq lt6;dsimp only;omega)
 .intro s hs
  cases s with
  | L0 v0 v1 v5=>
   obtain⟨ov0,ov1,cv5⟩:=hs
   have lb_v0:=ov0.1
   have lb_v1:v1.length<=562949953421312:=ov1
   show Tot (Zyo v0 v1 v5).den _
   dsimp only [Zyo,LT.den]
   have q1:=ov0.1
   refine tD (fun h2=>?_) (fun h2=>?_)
   .refine tB (tI (by omega) (by omega)) (fun x3 h4=>?_)
    have oh4:Zbq x3:=ov0.2 x3 h4.1
    refine tF (fun h5=>?_) (fun h5=>?_)
    .refine tF (fun h6=>?_) (fun h6=>?_)
     .exact tR trivial
     .refine qw (v5+1) fun q7 q8=>?_
      exact tL ⟨ov0,ov1,cl⟩ (by unfold Zsq lt6;dsimp only;omega)
    .refine qw (v5+1) fun q9 q10=>?_
     exact tL ⟨ov0,ov1,cl⟩ (by unfold Zsq lt6;dsimp only;omega)
   .exact tR trivial
def Zagw:Zj6->Prop
 | .L0 v0 E0 v5=>((SzL 176 Zbq) v0)/\(Zbq E0)/\(0<=v5)
 | .L1 v0 E0 v5 v6=>((SzL 176 Zbq) v0)/\(Zbq E0)/\(0<=v5)/\(0<=v6)/\(v5 < (E0.Abilities.length:Int))/\(v5 < (E0.Abilities.length:Int))
def Zjp:Zj6->M6
 | .L0 v0 E0 v5=>(1,((E0.Abilities.length:Int) - v5).toNat,1000000,0,0,0)
 | .L1 v0 E0 v5 v6=>(1,((E0.Abilities.length:Int) - v5).toNat,1,((((E0.Abilities[v5.toNat]?).map fun x=>x.Effects.length).getD 0:Nat) - v6).toNat,1000000,0)
theorem Zagx{a0:List Zai}{a1:Zai}(oa0:(SzL 176 Zbq) a0)(oa1:Zbq a1):Tot (Z1y a0 a1) (fun r=>True):=by
 unfold Z1y
 refine tX (Inv:=Zagw) (μ:=Zjp) (m:=(1000000,0,0,0,0,0)) ?_ ?_
 .have lb_a0:=oa0.1
  dsimp only [Z5p,LT.den]
  exact tL ⟨oa0,oa1,cl⟩ (by unfold Zjp lt6;dsimp only;omega)
 .intro s hs
  cases s with
  | L0 v0 E0 v5=>
   obtain⟨ov0,O0,cv5⟩:=hs
   have lb_v0:=ov0.1
   show Tot (Ztf v0 E0 v5).den _
   dsimp only [Ztf,LT.den]
   have q1:=O0.2.2.1
   refine tD (fun h2=>?_) (fun h2=>?_)
   .exact tL ⟨ov0,O0,cl,cl,cl,cl⟩ (by unfold Zjp lt6;dsimp only;omega)
   .exact tR trivial
  | L1 v0 E0 v5 v6=>
   obtain⟨ov0,O0,cv5,cv6,bd4,i0⟩:=hs
   have lb_v0:=ov0.1
   show Tot (Ztg v0 E0 v5 v6).den _
   dsimp only [Ztg,LT.den]
   have lx_0:E0.Abilities.length*640<=140737488351232:=O0.2.2.1
   refine tB (tI (by omega) (by omega)) (fun x1 h2=>?_)
   have oh2:Zbo x1:=O0.2.2.2 x1 h2.1
   have mh2:((E0.Abilities[v5.toNat]?).map fun x=>x.Effects.length).getD 0=x1.Effects.length:=by rw [h2.2];rfl
   have q3:=oh2.2.2.2.2.1.1
   refine tD (fun h4=>?_) (fun h4=>?_)
   .refine tB (tI (by omega) (by omega)) (fun x5 h6=>?_)
    have oh6:Za2 x5:=oh2.2.2.2.2.1.2 x5 h6.1
    refine tE (fun h7=>?_) (fun h7=>?_)
    .refine tB (Zakq ov0 (SzS.t oh6.2.2.1)) (fun x8 h9=>?_)
     refine tO (fun h10=>?_) (fun h10=>?_)
     .exact tR trivial
     .refine qw (v6+1) fun q11 q12=>?_
      exact tL ⟨ov0,O0,cl,cl,cl,cl⟩ (by unfold Zjp lt6;dsimp only;omega)
    .refine qw (v6+1) fun q13 q14=>?_
     exact tL ⟨ov0,O0,cl,cl,cl,cl⟩ (by unfold Zjp lt6;dsimp only;omega)
   .refine qw (v5+1) fun q15 q16=>?_
    exact tL ⟨ov0,O0,cl⟩ (by unfold Zjp lt6;dsimp only;omega)
def Zakr(a0:List Zai):Zpf->Prop
 | .L0 v0 v4=>(v0=a0)/\((SzL 176 Zbq) v0)/\(0<=v4)/\(∀ (k:Nat) c,(k:Int) < v4->v0[k]?=some c->c.Abilities.length<=8)
def Zzk:Zpf->M6
 | .L0 v0 v4=>(1,((v0.length:Int) - v4).toNat,1000000,0,0,0)
theorem Zaks{a0:List Zai}(oa0:(SzL 176 Zbq) a0):Tot (Z7s a0) (fun r=>(r.2=0->∀ c,c∈a0->c.Abilities.length<=8)):=by
 unfold Z7s
 refine tX (Inv:=(Zakr a0)) (μ:=Zzk) (m:=(1000000,0,0,0,0,0)) ?_ ?_
 .have lb_a0:=oa0.1
  dsimp only [Zaaz,LT.den]
  have q1:=oa0.1
  refine tD (fun h2=>?_) (fun h2=>?_)
  .exact tR (by first | (intro hr;exact absurd hr (by decide)) | (intro _ c hc;obtain⟨k,hk⟩:=List.mem_iff_getElem?.1 hc;exact i0 k c (by grind) hk))
  .exact tL ⟨rfl,oa0,cl,(by first | (intro k c hk;omega) | (intro k c hk hc;rcases Zayo (v:=v4) ‹_› (by omega) hk hc ‹_› with h | h;(exact i0 k c h hc);(rw [h];assumption)))⟩ (by unfold Zzk lt6;dsimp only;omega)
 .intro s hs
  cases s with
  | L0 v0 v4=>
   obtain⟨al0,ov0,cv4,i0⟩:=hs
   have lb_v0:=ov0.1
   subst al0
   show Tot (Zyp v0 v4).den _
   dsimp only [Zyp,LT.den]
   have q1:=ov0.1
   refine tD (fun h2=>?_) (fun h2=>?_)
   .refine tB (tI (by omega) (by omega)) (fun x3 h4=>?_)
    have oh4:Zbq x3:=ov0.2 x3 h4.1
    have mh4:=h4.2
    refine tB (Zat3 oh4) (fun x5 h6=>?_)
    have eh6_0:=h6
    refine tO (fun h7=>?_) (fun h7=>?_)
    .exact tR (by first | (intro hr;exact absurd hr (by decide)) | (intro _ c hc;obtain⟨k,hk⟩:=List.mem_iff_getElem?.1 hc;exact i0 k c (by grind) hk))
    .have h7_0:=eh6_0 h7
     refine tB (Zapq ov0 (SzS.t oh4.1)) (fun x8 h9=>?_)
     refine tD (fun h10=>?_) (fun h10=>?_)
     .exact tR (by first | (intro hr;exact absurd hr (by decide)) | (intro _ c hc;obtain⟨k,hk⟩:=List.mem_iff_getElem?.1 hc;exact i0 k c (by grind) hk))
     .refine tB (Zagx ov0 oh4) (fun x11 h12=>?_)
      refine tO (fun h13=>?_) (fun h13=>?_)
      .exact tR (by first | (intro hr;exact absurd hr (by decide)) | (intro _ c hc;obtain⟨k,hk⟩:=List.mem_iff_getElem?.1 hc;exact i0 k c (by grind) hk))
      .refine qw (v4+1) fun q14 q15=>?_
       exact tL ⟨rfl,ov0,cl,(by first | (intro k c hk;omega) | (intro k c hk hc;rcases Zayo (v:=v4) ‹_› (by omega) hk hc ‹_› with h | h;(exact i0 k c h hc);(rw [h];assumption)))⟩ (by unfold Zzk lt6;dsimp only;omega)
   .exact tR (by first | (intro hr;exact absurd hr (by decide)) | (intro _ c hc;obtain⟨k,hk⟩:=List.mem_iff_getElem?.1 hc;exact i0 k c (by grind) hk))
theorem Zfx{a0:Int}{a1:Int}{a2:Int}:Tot (Zaoj a0 a1 a2) (fun r=>True):=by
 unfold Zaoj
 refine tZ ?_
 dsimp only [Zaoh,LT.den]
 refine tD (fun h1=>?_) (fun h1=>?_)
 .exact tR trivial
 .exact tR trivial
def Zakt:Zpg->Prop
 | .L0 E0 v3=>(0<=v3)/\True
def Zzl:Zpg->M6
 | .L0 E0 v3=>(1,(6 - v3).toNat,1000000,0,0,0)
theorem Zaku{a0:A6 Int}:Tot (Z7t a0) (fun r=>True):=by
 unfold Z7t
 refine tX (Inv:=Zakt) (μ:=Zzl) (m:=(1000000,0,0,0,0,0)) ?_ ?_
 .dsimp only [Zaa1,LT.den]
  exact tL ⟨cl,trivial⟩ (by unfold Zzl lt6;dsimp only;omega)
 .intro s hs
  cases s with
  | L0 E0 v3=>
   obtain⟨cv3,_⟩:=hs
   show Tot (Zyq E0 v3).den _
   dsimp only [Zyq,LT.den]
   refine tD (fun h1=>?_) (fun h1=>?_)
   .refine tB (tI (by omega) (by have e:(A6.list E0).length=6:=rfl;omega)) (fun x2 h3=>?_)
    refine tD (fun h4=>?_) (fun h4=>?_)
    .exact tR trivial
    .refine tB (tI (by omega) (by have e:(A6.list E0).length=6:=rfl;omega)) (fun x5 h6=>?_)
     refine tD (fun h7=>?_) (fun h7=>?_)
     .exact tR trivial
     .refine qw (v3+1) fun q8 q9=>?_
      exact tL ⟨cl,trivial⟩ (by unfold Zzl lt6;dsimp only;omega)
   .exact tR trivial
def Zakv(a0:Za)(a1:Int):Zph->Prop
 | .L0 v1 E0 v5=>(E0=a0)/\(Zt E0)/\(0<=v5)
def Zzm:Zph->M6
 | .L0 v1 E0 v5=>(1,((E0.Objects.length:Int) - v5).toNat,1000000,0,0,0)
theorem Zakw{a0:Za}{a1:Int}(oa0:Zt a0):Tot (Zvd a0 a1) (fun r=>(r < (a0.Objects.length:Int))):=by
 unfold Zvd
 refine tX (Inv:=(Zakv a0 a1)) (μ:=Zzm) (m:=(1000000,0,0,0,0,0)) ?_ ?_
 .dsimp only [Z1z,LT.den]
  exact tL ⟨rfl,oa0,cl⟩ (by unfold Zzm lt6;dsimp only;omega)
 .intro s hs
  cases s with
  | L0 v1 E0 v5=>
   obtain⟨al0,O0,cv5⟩:=hs
   subst al0
   show Tot (Zhr v1 E0 v5).den _
   dsimp only [Zhr,LT.den]
   have q1:=O0.2.1.1
   refine tD (fun h2=>?_) (fun h2=>?_)
   .refine tB (tI (by omega) (by omega)) (fun x3 h4=>?_)
    refine tE (fun h5=>?_) (fun h5=>?_)
    .exact tR cl
    .refine qw (v5+1) fun q6 q7=>?_
     exact tL ⟨rfl,O0,cl⟩ (by unfold Zzm lt6;dsimp only;omega)
   .exact tR cl
theorem Zapr{a0:Za}{a1:Int}(oa0:Zt a0):Tot (Z4p a0 a1) (fun r=>True):=by
 unfold Z4p
 refine tZ ?_
 dsimp only [Z4o,LT.den]
 refine tB (Zakw oa0) (fun x1 h2=>?_)
 have eh2_0:=h2
 refine tD (fun h3=>?_) (fun h3=>?_)
 .exact tR trivial
 .refine tB (tI (by omega) (by omega)) (fun x4 h5=>?_)
  exact tR trivial
theorem Z3r{a0:Za}{a1:Int}(oa0:Zt a0):Tot (Zr4 a0 a1) (fun r=>True):=by
 unfold Zr4
 refine tZ ?_
 dsimp only [Zyr,LT.den]
 refine tB (Zapr oa0) (fun x1 h2=>?_)
 exact tR trivial
def Zakx:Zpi->Prop
 | .L0 v0 v1 v5 v6=>((SzL 8 (fun _=>True)) v0)/\(0<=v6)
def Zsr:Zpi->M6
 | .L0 v0 v1 v5 v6=>(1,((v0.length:Int) - v6).toNat,1000000,0,0,0)
theorem Zw3{a0:List Int}{a1:Int}(oa0:(SzL 8 (fun _=>True)) a0):Tot (Zq5 a0 a1) (fun r=>True):=by
 unfold Zq5
 refine tX (Inv:=Zakx) (μ:=Zsr) (m:=(1000000,0,0,0,0,0)) ?_ ?_
 .have lb_a0:=oa0.1
  dsimp only [Z10,LT.den]
  exact tL ⟨oa0,cl⟩ (by unfold Zsr lt6;dsimp only;omega)
 .intro s hs
  cases s with
  | L0 v0 v1 v5 v6=>
   obtain⟨ov0,cv6⟩:=hs
   have lb_v0:=ov0.1
   show Tot (Znj v0 v1 v5 v6).den _
   dsimp only [Znj,LT.den]
   have q1:=ov0.1
   refine tD (fun h2=>?_) (fun h2=>?_)
   .refine tB (tI (by omega) (by omega)) (fun x3 h4=>?_)
    refine tE (fun h5=>?_) (fun h5=>?_)
    .refine qw (v5+1) fun q6 q7=>?_
     refine qw (v6+1) fun q8 q9=>?_
     exact tL ⟨ov0,cl⟩ (by unfold Zsr lt6;dsimp only;omega)
    .refine qw (v6+1) fun q10 q11=>?_
     exact tL ⟨ov0,cl⟩ (by unfold Zsr lt6;dsimp only;omega)
   .exact tR trivial
def Zaps:Zlp->Prop
 | .L0 v1 v2 v3 E0 v9=>((SzL 8 (fun _=>True)) v1)/\(Zt E0)/\(0<=v9)
def Zuf:Zlp->M6
 | .L0 v1 v2 v3 E0 v9=>(1,((v1.length:Int) - v9).toNat,1000000,0,0,0)
theorem Zn5{a0:Za}{a1:List Int}{a2:Int}{a3:Int}(oa0:Zt a0)(oa1:(SzL 8 (fun _=>True)) a1):Tot (Zik a0 a1 a2 a3) (fun r=>True):=by
 unfold Zik
 refine tX (Inv:=Zaps) (μ:=Zuf) (m:=(1000000,0,0,0,0,0)) ?_ ?_
 .have lb_a1:=oa1.1
  dsimp only [Z4q,LT.den]
  exact tL ⟨oa1,oa0,cl⟩ (by unfold Zuf lt6;dsimp only;omega)
 .intro s hs
  cases s with
  | L0 v1 v2 v3 E0 v9=>
   obtain⟨ov1,O0,cv9⟩:=hs
   have lb_v1:=ov1.1
   show Tot (Zpj v1 v2 v3 E0 v9).den _
   dsimp only [Zpj,LT.den]
   have q1:=ov1.1
   refine tD (fun h2=>?_) (fun h2=>?_)
   .refine tB (tI (by omega) (by omega)) (fun x3 h4=>?_)
    refine tB (Z3r O0) (fun x5 h6=>?_)
    refine tO (fun h7=>?_) (fun h7=>?_)
    .exact tR trivial
    .refine tN (fun h8=>?_) (fun h8=>?_)
     .exact tR trivial
     .refine tD (fun h9=>?_) (fun h9=>?_)
      .refine tN (fun h10=>?_) (fun h10=>?_)
       .exact tR trivial
       .refine tB (Zw3 ov1) (fun x11 h12=>?_)
        refine tN (fun h13=>?_) (fun h13=>?_)
        .exact tR trivial
        .refine qw (v9+1) fun q14 q15=>?_
         exact tL ⟨ov1,O0,cl⟩ (by unfold Zuf lt6;dsimp only;omega)
      .refine tB (Zw3 ov1) (fun x16 h17=>?_)
       refine tN (fun h18=>?_) (fun h18=>?_)
       .exact tR trivial
       .refine qw (v9+1) fun q19 q20=>?_
        exact tL ⟨ov1,O0,cl⟩ (by unfold Zuf lt6;dsimp only;omega)
   .exact tR trivial
def Zagy:Zmb->Prop
 | .L0 E0 v3=>(Zt E0)/\(0<=v3)
def Ztz:Zmb->M6
 | .L0 E0 v3=>(1,((E0.Players.length:Int) - v3).toNat,1000000,0,0,0)
theorem Zagz{a0:Za}(oa0:Zt a0):Tot (Zmp a0) (fun r=>True):=by
 unfold Zmp
 refine tX (Inv:=Zagy) (μ:=Ztz) (m:=(1000000,0,0,0,0,0)) ?_ ?_
 .dsimp only [Zvz,LT.den]
  have q1:=oa0.1.1
  refine tB (Zfx) (fun x2 h3=>?_)
  refine tO (fun h4=>?_) (fun h4=>?_)
  .exact tR trivial
  .exact tL ⟨oa0,cl⟩ (by unfold Ztz lt6;dsimp only;omega)
 .intro s hs
  cases s with
  | L0 E0 v3=>
   obtain⟨O0,cv3⟩:=hs
   show Tot (Zku E0 v3).den _
   dsimp only [Zku,LT.den]
   have q1:=O0.1.1
   refine tD (fun h2=>?_) (fun h2=>?_)
   .refine tB (tI (by omega) (by omega)) (fun x3 h4=>?_)
    have oh4:Zde x3:=O0.1.2 x3 h4.1
    refine tB (Zfx) (fun x5 h6=>?_)
    refine tO (fun h7=>?_) (fun h7=>?_)
    .exact tR trivial
    .refine tB (Zfx) (fun x8 h9=>?_)
     refine tO (fun h10=>?_) (fun h10=>?_)
     .exact tR trivial
     .refine tB (Zfx) (fun x11 h12=>?_)
      refine tO (fun h13=>?_) (fun h13=>?_)
      .exact tR trivial
      .refine tB (Zaku) (fun x14 h15=>?_)
       refine tO (fun h16=>?_) (fun h16=>?_)
       .exact tR trivial
       .refine tB (Zn5 O0 oh4.1) (fun x17 h18=>?_)
        refine tO (fun h19=>?_) (fun h19=>?_)
        .exact tR trivial
        .refine tB (Zn5 O0 oh4.2.1) (fun x20 h21=>?_)
         refine tO (fun h22=>?_) (fun h22=>?_)
         .exact tR trivial
         .refine tB (Zn5 O0 oh4.2.2) (fun x23 h24=>?_)
          refine tO (fun h25=>?_) (fun h25=>?_)
          .exact tR trivial
          .refine qw (v3+1) fun q26 q27=>?_
           exact tL ⟨O0,cl⟩ (by unfold Ztz lt6;dsimp only;omega)
   .refine tB (Zn5 O0 O0.2.2.1) (fun x28 h29=>?_)
    refine tF (fun h30=>?_) (fun h30=>?_)
    .refine tB (Zn5 O0 O0.2.2.2.1) (fun x31 h32=>?_)
     exact tR trivial
    .exact tR trivial
theorem Zio{a0:Za}{a1:Int}(oa0:Zt a0):Tot (Z4s a0 a1) (fun r=>True):=by
 unfold Z4s
 refine tZ ?_
 dsimp only [Z7v,LT.den]
 have q1:=oa0.1.1
 refine qw ((a0.Players.length:Int) - 1) fun q2 q3=>?_
 refine tB (Zfx) (fun x4 h5=>?_)
 exact tR trivial
def Zat4:Zyt->Prop
 | .L0 E0 v3=>(0<=v3)/\True
def Z8t:Zyt->M6
 | .L0 E0 v3=>(1,(3 - v3).toNat,1000000,0,0,0)
theorem Zat5{a0:A3 Int}:Tot (Zaoo a0) (fun r=>True):=by
 unfold Zaoo
 refine tX (Inv:=Zat4) (μ:=Z8t) (m:=(1000000,0,0,0,0,0)) ?_ ?_
 .dsimp only [Zaom,LT.den]
  exact tL ⟨cl,trivial⟩ (by unfold Z8t lt6;dsimp only;omega)
 .intro s hs
  cases s with
  | L0 E0 v3=>
   obtain⟨cv3,_⟩:=hs
   show Tot (Z7x E0 v3).den _
   dsimp only [Z7x,LT.den]
   refine tD (fun h1=>?_) (fun h1=>?_)
   .refine tB (tI (by omega) (by have e:(A3.list E0).length=3:=rfl;omega)) (fun x2 h3=>?_)
    refine tD (fun h4=>?_) (fun h4=>?_)
    .exact tR trivial
    .refine tB (tI (by omega) (by have e:(A3.list E0).length=3:=rfl;omega)) (fun x5 h6=>?_)
     refine tD (fun h7=>?_) (fun h7=>?_)
     .exact tR trivial
     .refine qw (v3+1) fun q8 q9=>?_
      exact tL ⟨cl,trivial⟩ (by unfold Z8t lt6;dsimp only;omega)
   .exact tR trivial
theorem Zapt{a0:Zp}:Tot (Zacz a0) (fun r=>True):=by
 unfold Zacz
 refine tZ ?_
 dsimp only [Zaf6,LT.den]
 exact tR trivial
theorem Zaky{a0:Zp}:Tot (Z7y a0) (fun r=>True):=by
 unfold Z7y
 refine tZ ?_
 dsimp only [Zaa3,LT.den]
 exact tR trivial
theorem Zat6{a0:Zp}{a1:Int}{a2:Int}:Tot (Zaos a0 a1 a2) (fun r=>True):=by
 unfold Zaos
 refine tZ ?_
 dsimp only [Zaoq,LT.den]
 refine tD (fun h1=>?_) (fun h1=>?_)
 .exact tR trivial
 .refine tD (fun h2=>?_) (fun h2=>?_)
  .exact tR trivial
  .refine tD (fun h3=>?_) (fun h3=>?_)
   .exact tR trivial
   .refine tD (fun h4=>?_) (fun h4=>?_)
    .exact tR trivial
    .refine tD (fun h5=>?_) (fun h5=>?_)
     .exact tR trivial
     .refine tD (fun h6=>?_) (fun h6=>?_)
      .exact tR trivial
      .refine tD (fun h7=>?_) (fun h7=>?_)
       .exact tR trivial
       .refine tD (fun h8=>?_) (fun h8=>?_)
        .exact tR trivial
        .refine tD (fun h9=>?_) (fun h9=>?_)
         .exact tR trivial
         .refine tD (fun h10=>?_) (fun h10=>?_)
          .exact tR trivial
          .refine tD (fun h11=>?_) (fun h11=>?_)
           .exact tR trivial
           .refine tD (fun h12=>?_) (fun h12=>?_)
            .exact tR trivial
            .refine tD (fun h13=>?_) (fun h13=>?_)
             .exact tR trivial
             .refine tD (fun h14=>?_) (fun h14=>?_)
              .exact tR trivial
              .refine tD (fun h15=>?_) (fun h15=>?_)
               .exact tR trivial
               .refine tD (fun h16=>?_) (fun h16=>?_)
                .exact tR trivial
                .refine tD (fun h17=>?_) (fun h17=>?_)
                 .exact tR trivial
                 .refine tB (Zat5) (fun x18 h19=>?_)
                  refine tO (fun h20=>?_) (fun h20=>?_)
                  .exact tR trivial
                  .refine tD (fun h21=>?_) (fun h21=>?_)
                   .exact tR trivial
                   .refine tD (fun h22=>?_) (fun h22=>?_)
                    .exact tR trivial
                    .refine tD (fun h23=>?_) (fun h23=>?_)
                     .exact tR trivial
                     .refine tD (fun h24=>?_) (fun h24=>?_)
                      .exact tR trivial
                      .refine tE (fun h25=>?_) (fun h25=>?_)
                       .exact tR trivial
                       .refine tB (Zapt) (fun x26 h27=>?_)
                        refine tF (fun h28=>?_) (fun h28=>?_)
                        .refine tB (Zaky) (fun x29 h30=>?_)
                         refine tF (fun h31=>?_) (fun h31=>?_)
                         .refine tO (fun h32=>?_) (fun h32=>?_)
                          .refine tO (fun h33=>?_) (fun h33=>?_)
                           .exact tR trivial
                           .exact tR trivial
                          .exact tR trivial
                         .exact tR trivial
                        .exact tR trivial
def Zait:Znk->Prop
 | .L0 v1 E0 v5 v6=>(Zt E0)/\(0<=v6)
def Zml:Znk->M6
 | .L0 v1 E0 v5 v6=>(1,((E0.Stack.length:Int) - v6).toNat,1000000,0,0,0)
theorem Zaiu{a0:Za}{a1:Int}(oa0:Zt a0):Tot (Z4t a0 a1) (fun r=>True):=by
 unfold Z4t
 refine tX (Inv:=Zait) (μ:=Zml) (m:=(1000000,0,0,0,0,0)) ?_ ?_
 .dsimp only [Z7z,LT.den]
  exact tL ⟨oa0,cl⟩ (by unfold Zml lt6;dsimp only;omega)
 .intro s hs
  cases s with
  | L0 v1 E0 v5 v6=>
   obtain⟨O0,cv6⟩:=hs
   show Tot (Zv1 v1 E0 v5 v6).den _
   dsimp only [Zv1,LT.den]
   have q1:=O0.2.2.2.2.1.1
   refine tD (fun h2=>?_) (fun h2=>?_)
   .refine tB (tI (by omega) (by omega)) (fun x3 h4=>?_)
    have oh4:Zd3 x3:=O0.2.2.2.2.1.2 x3 h4.1
    refine tE (fun h5=>?_) (fun h5=>?_)
    .refine tE (fun h6=>?_) (fun h6=>?_)
     .refine qw (v5+1) fun q7 q8=>?_
      refine qw (v6+1) fun q9 q10=>?_
      exact tL ⟨O0,cl⟩ (by unfold Zml lt6;dsimp only;omega)
     .refine qw (v6+1) fun q11 q12=>?_
      exact tL ⟨O0,cl⟩ (by unfold Zml lt6;dsimp only;omega)
    .refine qw (v6+1) fun q13 q14=>?_
     exact tL ⟨O0,cl⟩ (by unfold Zml lt6;dsimp only;omega)
   .exact tR trivial
theorem Zn6{a0:List Int}(oa0:(SzL 8 (fun _=>True)) a0):Tot (Zth a0) (fun r=>((SzL 8 (fun _=>True)) r)):=by
 unfold Zth
 refine tZ ?_
 have lb_a0:=oa0.1
 dsimp only [Z4u,LT.den]
 have q3:=oa0.1
 refine tB (tA (by first | omega | (simp only [List.length_cons,List.length_nil];omega)) (by decide)) (fun x1 h2=>?_)
 have lh2:x1.length=([]:List Int).length+a0.length:=by rw [h2,List.length_append]
 try simp only [List.length_cons,List.length_nil,Nat.zero_add] at lh2
 exact tR SzL.tr
theorem Zapu{a0:Za}{a1:Int}{a2:Int}(oa0:Zt a0):Tot (Zyu a0 a1 a2) (fun r=>((SzL 8 (fun _=>True)) r)):=by
 unfold Zyu
 refine tZ ?_
 dsimp only [Z4v,LT.den]
 refine tE (fun h1=>?_) (fun h1=>?_)
 .refine tB (Zn6 oa0.2.2.1) (fun x2 h3=>?_)
  exact tR h3
 .refine tE (fun h4=>?_) (fun h4=>?_)
  .refine tB (Zn6 oa0.2.2.2.1) (fun x5 h6=>?_)
   exact tR h6
  .refine tD (fun h7=>?_) (fun h7=>?_)
   .exact tR SzL.nil
   .have q8:=oa0.1.1
    refine tD (fun h9=>?_) (fun h9=>?_)
    .exact tR SzL.nil
    .refine tE (fun h10=>?_) (fun h10=>?_)
     .refine tB (tI (by omega) (by omega)) (fun x11 h12=>?_)
      have oh12:Zde x11:=oa0.1.2 x11 h12.1
      refine tB (Zn6 oh12.2.1) (fun x13 h14=>?_)
      exact tR h14
     .refine tE (fun h15=>?_) (fun h15=>?_)
      .refine tB (tI (by omega) (by omega)) (fun x16 h17=>?_)
       have oh17:Zde x16:=oa0.1.2 x16 h17.1
       refine tB (Zn6 oh17.1) (fun x18 h19=>?_)
       exact tR h19
      .refine tE (fun h20=>?_) (fun h20=>?_)
       .refine tB (tI (by omega) (by omega)) (fun x21 h22=>?_)
        have oh22:Zde x21:=oa0.1.2 x21 h22.1
        refine tB (Zn6 oh22.2.2) (fun x23 h24=>?_)
        exact tR h24
       .exact tR SzL.nil
theorem Z3s{a0:Za}{a1:Zp}(oa0:Zt a0):Tot (Zlq a0 a1) (fun r=>True):=by
 unfold Zlq
 refine tZ ?_
 dsimp only [Zyv,LT.den]
 refine tE (fun h1=>?_) (fun h1=>?_)
 .refine tB (Zaiu oa0) (fun x2 h3=>?_)
  exact tR trivial
 .refine tB (Zapu oa0) (fun x4 h5=>?_)
  refine tB (Zw3 h5) (fun x6 h7=>?_)
  exact tR trivial
def Zag0:Zmc->Prop
 | .L0 v0 E0 v5=>((SzL 176 Zbq) v0)/\(Zt E0)/\(0<=v5)
def Zow:Zmc->M6
 | .L0 v0 E0 v5=>(1,((E0.Objects.length:Int) - v5).toNat,1000000,0,0,0)
theorem Zm2{a0:List Zai}{a1:Za}(oa0:(SzL 176 Zbq) a0)(oa1:Zt a1):Tot (Ziw a0 a1) (fun r=>True):=by
 unfold Ziw
 refine tX (Inv:=Zag0) (μ:=Zow) (m:=(1000000,0,0,0,0,0)) ?_ ?_
 .have lb_a0:=oa0.1
  dsimp only [Zv2,LT.den]
  have q1:=oa1.2.1.1
  refine tD (fun h2=>?_) (fun h2=>?_)
  .exact tR trivial
  .exact tL ⟨oa0,oa1,cl⟩ (by unfold Zow lt6;dsimp only;omega)
 .intro s hs
  cases s with
  | L0 v0 E0 v5=>
   obtain⟨ov0,O0,cv5⟩:=hs
   have lb_v0:=ov0.1
   show Tot (Zkv v0 E0 v5).den _
   dsimp only [Zkv,LT.den]
   have q1:=O0.2.1.1
   refine tD (fun h2=>?_) (fun h2=>?_)
   .refine tB (tI (by omega) (by omega)) (fun x3 h4=>?_)
    have q5:=ov0.1
    have q6:=O0.1.1
    refine tB (Zat6) (fun x7 h8=>?_)
    refine tO (fun h9=>?_) (fun h9=>?_)
    .exact tR trivial
    .refine tD (fun h10=>?_) (fun h10=>?_)
     .exact tR trivial
     .refine tD (fun h11=>?_) (fun h11=>?_)
      .exact tR trivial
      .refine tD (fun h12=>?_) (fun h12=>?_)
       .refine qw (v5 - 1) fun q13 q14=>?_
        refine tB (tI (by omega) (by omega)) (fun x15 h16=>?_)
        refine tD (fun h17=>?_) (fun h17=>?_)
        .exact tR trivial
        .refine tB (Z3s O0) (fun x18 h19=>?_)
         refine tO (fun h20=>?_) (fun h20=>?_)
         .exact tR trivial
         .refine qw (v5+1) fun q21 q22=>?_
          exact tL ⟨ov0,O0,cl⟩ (by unfold Zow lt6;dsimp only;omega)
       .refine tB (Z3s O0) (fun x23 h24=>?_)
        refine tO (fun h25=>?_) (fun h25=>?_)
        .exact tR trivial
        .refine qw (v5+1) fun q26 q27=>?_
         exact tL ⟨ov0,O0,cl⟩ (by unfold Zow lt6;dsimp only;omega)
   .exact tR trivial
def Zadi:Zil->Prop
 | .L0 v0 v1 v5=>((SzL 176 Zbk) v0)/\((SzL 176 Zbk) v1)/\(0<=v5)/\(v0.length=v1.length)
def Zss:Zil->M6
 | .L0 v0 v1 v5=>(1,((v0.length:Int) - v5).toNat,1000000,0,0,0)
theorem Zzn{a0:List Zq}{a1:List Zq}(oa0:(SzL 176 Zbk) a0)(oa1:(SzL 176 Zbk) a1):Tot (Znl a0 a1) (fun r=>True):=by
 unfold Znl
 refine tX (Inv:=Zadi) (μ:=Zss) (m:=(1000000,0,0,0,0,0)) ?_ ?_
 .have lb_a0:=oa0.1
  have lb_a1:=oa1.1
  dsimp only [Zti,LT.den]
  have q1:=oa0.1
  have q2:=oa1.1
  refine tN (fun h3=>?_) (fun h3=>?_)
  .exact tR trivial
  .exact tL ⟨oa0,oa1,cl,cl⟩ (by unfold Zss lt6;dsimp only;omega)
 .intro s hs
  cases s with
  | L0 v0 v1 v5=>
   obtain⟨ov0,ov1,cv5,i0⟩:=hs
   have lb_v0:=ov0.1
   have lb_v1:=ov1.1
   show Tot (Zht v0 v1 v5).den _
   dsimp only [Zht,LT.den]
   have q1:=ov0.1
   refine tD (fun h2=>?_) (fun h2=>?_)
   .refine tB (tI (by omega) (by omega)) (fun x3 h4=>?_)
    have oh4:Zbk x3:=ov0.2 x3 h4.1
    refine tB (tI (by omega) (by omega)) (fun x5 h6=>?_)
    have oh6:Zbk x5:=ov1.2 x5 h6.1
    refine tO (fun h7=>?_) (fun h7=>?_)
    .exact tR trivial
    .refine qw (v5+1) fun q8 q9=>?_
     exact tL ⟨ov0,ov1,cl,cl⟩ (by unfold Zss lt6;dsimp only;omega)
   .exact tR trivial
theorem Zapv{a0:Zv}{a1:Zv}(oa0:Za2 a0)(oa1:Za2 a1):Tot (Zyw a0 a1) (fun r=>True):=by
 unfold Zyw
 refine tZ ?_
 dsimp only [Z4w,LT.den]
 refine tE (fun h1=>?_) (fun h1=>?_)
 .refine tF (fun h2=>?_) (fun h2=>?_)
  .refine tF (fun h3=>?_) (fun h3=>?_)
   .refine tE (fun h4=>?_) (fun h4=>?_)
    .refine tE (fun h5=>?_) (fun h5=>?_)
     .refine tF (fun h6=>?_) (fun h6=>?_)
      .refine tF (fun h7=>?_) (fun h7=>?_)
       .refine tF (fun h8=>?_) (fun h8=>?_)
        .refine tB (Zzn oa0.2.2.2.2 oa1.2.2.2.2) (fun x9 h10=>?_)
         exact tR trivial
        .exact tR trivial
       .exact tR trivial
      .exact tR trivial
     .exact tR trivial
    .exact tR trivial
   .exact tR trivial
  .exact tR trivial
 .exact tR trivial
def Zadj:Zim->Prop
 | .L0 v0 v1 v5=>((SzL 560 Za2) v0)/\((SzL 560 Za2) v1)/\(0<=v5)/\(v0.length=v1.length)
def Zst:Zim->M6
 | .L0 v0 v1 v5=>(1,((v0.length:Int) - v5).toNat,1000000,0,0,0)
theorem Zadk{a0:List Zv}{a1:List Zv}(oa0:(SzL 560 Za2) a0)(oa1:(SzL 560 Za2) a1):Tot (Znm a0 a1) (fun r=>True):=by
 unfold Znm
 refine tX (Inv:=Zadj) (μ:=Zst) (m:=(1000000,0,0,0,0,0)) ?_ ?_
 .have lb_a0:=oa0.1
  have lb_a1:=oa1.1
  dsimp only [Ztj,LT.den]
  have q1:=oa0.1
  have q2:=oa1.1
  refine tN (fun h3=>?_) (fun h3=>?_)
  .exact tR trivial
  .exact tL ⟨oa0,oa1,cl,cl⟩ (by unfold Zst lt6;dsimp only;omega)
 .intro s hs
  cases s with
  | L0 v0 v1 v5=>
   obtain⟨ov0,ov1,cv5,i0⟩:=hs
   have lb_v0:=ov0.1
   have lb_v1:=ov1.1
   show Tot (Zhu v0 v1 v5).den _
   dsimp only [Zhu,LT.den]
   have q1:=ov0.1
   refine tD (fun h2=>?_) (fun h2=>?_)
   .refine tB (tI (by omega) (by omega)) (fun x3 h4=>?_)
    have oh4:Za2 x3:=ov0.2 x3 h4.1
    refine tB (tI (by omega) (by omega)) (fun x5 h6=>?_)
    have oh6:Za2 x5:=ov1.2 x5 h6.1
    refine tB (Zapv oh4 oh6) (fun x7 h8=>?_)
    refine tO (fun h9=>?_) (fun h9=>?_)
    .exact tR trivial
    .refine qw (v5+1) fun q10 q11=>?_
     exact tL ⟨ov0,ov1,cl,cl⟩ (by unfold Zst lt6;dsimp only;omega)
   .exact tR trivial
def Zapw:Zoq->Prop
 | .L0 E0 E1 v5=>(Zbo E0)/\(Zbo E1)/\(0<=v5)/\(E0.Specs.length=E1.Specs.length)
def Z2q:Zoq->M6
 | .L0 E0 E1 v5=>(1,((E0.Specs.length:Int) - v5).toNat,1000000,0,0,0)
theorem Zapx{a0:Zs}{a1:Zs}(oa0:Zbo a0)(oa1:Zbo a1):Tot (Zyx a0 a1) (fun r=>True):=by
 unfold Zyx
 refine tX (Inv:=Zapw) (μ:=Z2q) (m:=(1000000,0,0,0,0,0)) ?_ ?_
 .dsimp only [Z4x,LT.den]
  have q1:=oa0.2.2.2.1.1
  have q2:=oa1.2.2.2.1.1
  refine tN (fun h3=>?_) (fun h3=>?_)
  .exact tR trivial
  .exact tL ⟨oa0,oa1,cl,cl⟩ (by unfold Z2q lt6;dsimp only;omega)
 .intro s hs
  cases s with
  | L0 E0 E1 v5=>
   obtain⟨O0,O1,cv5,i0⟩:=hs
   show Tot (Zkj E0 E1 v5).den _
   dsimp only [Zkj,LT.den]
   have q1:=O0.2.2.2.1.1
   refine tD (fun h2=>?_) (fun h2=>?_)
   .refine tB (tI (by omega) (by omega)) (fun x3 h4=>?_)
    have oh4:Zjm x3:=O0.2.2.2.1.2 x3 h4.1
    refine tB (tI (by omega) (by omega)) (fun x5 h6=>?_)
    have oh6:Zjm x5:=O1.2.2.2.1.2 x5 h6.1
    refine tO (fun h7=>?_) (fun h7=>?_)
    .exact tR trivial
    .refine qw (v5+1) fun q8 q9=>?_
     exact tL ⟨O0,O1,cl,cl⟩ (by unfold Z2q lt6;dsimp only;omega)
   .refine tE (fun h10=>?_) (fun h10=>?_)
    .refine tF (fun h11=>?_) (fun h11=>?_)
     .refine tB (Zzn O0.2.1 O1.2.1) (fun x12 h13=>?_)
      refine tF (fun h14=>?_) (fun h14=>?_)
      .refine tF (fun h15=>?_) (fun h15=>?_)
       .refine tF (fun h16=>?_) (fun h16=>?_)
        .refine tF (fun h17=>?_) (fun h17=>?_)
         .refine tF (fun h18=>?_) (fun h18=>?_)
          .refine tB (Zadk O0.2.2.2.2.1 O1.2.2.2.2.1) (fun x19 h20=>?_)
           refine tF (fun h21=>?_) (fun h21=>?_)
           .exact tR trivial
           .exact tR trivial
          .exact tR trivial
         .exact tR trivial
        .exact tR trivial
       .exact tR trivial
      .exact tR trivial
     .exact tR trivial
    .exact tR trivial
theorem Zapy{a0:Za}{a1:Zal}(oa0:Zt a0)(oa1:Zd3 a1):Tot (Zac0 a0 a1) (fun r=>True):=by
 unfold Zac0
 refine tZ ?_
 dsimp only [Zagc,LT.den]
 refine qw (a0.NextId - 1) fun q1 q2=>?_
 refine tB (Zfx) (fun x3 h4=>?_)
 refine tO (fun h5=>?_) (fun h5=>?_)
 .exact tR trivial
 .refine tB (Zfx) (fun x6 h7=>?_)
  refine tO (fun h8=>?_) (fun h8=>?_)
  .exact tR trivial
  .have q9:=oa1.2.1
   refine tD (fun h10=>?_) (fun h10=>?_)
   .exact tR trivial
   .refine tB (Zio oa0) (fun x11 h12=>?_)
    refine tO (fun h13=>?_) (fun h13=>?_)
    .exact tR trivial
    .refine tB (Z3r oa0) (fun x14 h15=>?_)
     refine tE (fun h16=>?_) (fun h16=>?_)
     .refine tB (Zapx oa1.1 ⟨SzS.nil,SzL.nil,SzS.nil,SzL.nil,SzL.nil,SzS.nil⟩) (fun x17 h18=>?_)
      refine tE (fun h19=>?_) (fun h19=>?_)
      .refine tF (fun h20=>?_) (fun h20=>?_)
       .refine tE (fun h21=>?_) (fun h21=>?_)
        .refine tF (fun h22=>?_) (fun h22=>?_)
         .exact tR trivial
         .refine tB (Zxn oa1.1) (fun x23 h24=>?_)
          exact tR trivial
        .exact tR trivial
       .exact tR trivial
      .exact tR trivial
     .refine tE (fun h25=>?_) (fun h25=>?_)
      .refine tO (fun h26=>?_) (fun h26=>?_)
       .refine tB (Zxn oa1.1) (fun x27 h28=>?_)
        exact tR trivial
       .exact tR trivial
      .exact tR trivial
def Zat7:Zyy->Prop
 | .L0 v0 v3=>((SzL 8 (fun _=>True)) v0)/\(0<=v3)/\(1<=v3)
def Z8u:Zyy->M6
 | .L0 v0 v3=>(1,((v0.length:Int) - v3).toNat,1000000,0,0,0)
theorem Zat8{a0:List Int}(oa0:(SzL 8 (fun _=>True)) a0):Tot (Zaow a0) (fun r=>True):=by
 unfold Zaow
 refine tX (Inv:=Zat7) (μ:=Z8u) (m:=(1000000,0,0,0,0,0)) ?_ ?_
 .have lb_a0:=oa0.1
  dsimp only [Zaou,LT.den]
  exact tL ⟨oa0,cl,cl⟩ (by unfold Z8u lt6;dsimp only;omega)
 .intro s hs
  cases s with
  | L0 v0 v3=>
   obtain⟨ov0,cv3,i0⟩:=hs
   have lb_v0:=ov0.1
   show Tot (Z72 v0 v3).den _
   dsimp only [Z72,LT.den]
   have q1:=ov0.1
   refine tD (fun h2=>?_) (fun h2=>?_)
   .refine qw (v3 - 1) fun q3 q4=>?_
    refine tB (tI (by omega) (by omega)) (fun x5 h6=>?_)
    refine tB (tI (by omega) (by omega)) (fun x7 h8=>?_)
    refine tD (fun h9=>?_) (fun h9=>?_)
    .exact tR trivial
    .refine qw (v3+1) fun q10 q11=>?_
     exact tL ⟨ov0,cl,cl⟩ (by unfold Z8u lt6;dsimp only;omega)
   .exact tR trivial
def Zakz:Zjk->Prop
 | .L0 E0 v3=>(Zt E0)/\(0<=v3)
 | .L1 E0 v3 v4=>(Zt E0)/\(0<=v4)/\(0<=v3)/\(v3 < (E0.Stack.length:Int))
 | .L2 E0 v5=>(Zt E0)/\(0<=v5)
 | .L3 E0 v7=>(Zt E0)/\(0<=v7)
def Zh0:Zjk->M6
 | .L0 E0 v3=>(5,((E0.Stack.length:Int) - v3).toNat,1000000,0,0,0)
 | .L1 E0 v3 v4=>(5,((E0.Stack.length:Int) - v3).toNat,1,(v3 - v4).toNat,1000000,0)
 | .L2 E0 v5=>(3,((E0.Waiting.length:Int) - v5).toNat,1000000,0,0,0)
 | .L3 E0 v7=>(1,((E0.Conts.length:Int) - v7).toNat,1000000,0,0,0)
theorem Zqb{a0:Za}(oa0:Zt a0):Tot (Z0m a0) (fun r=>True):=by
 unfold Z0m
 refine tX (Inv:=Zakz) (μ:=Zh0) (m:=(1000000,0,0,0,0,0)) ?_ ?_
 .dsimp only [Zaa5,LT.den]
  have q1:=oa0.2.2.2.2.1.1
  refine tD (fun h2=>?_) (fun h2=>?_)
  .exact tR trivial
  .have q3:=oa0.2.2.2.2.2.1.1
   refine tD (fun h4=>?_) (fun h4=>?_)
   .exact tR trivial
   .have q5:=oa0.2.2.2.2.2.2.1.1
    refine tD (fun h6=>?_) (fun h6=>?_)
    .exact tR trivial
    .exact tL ⟨oa0,cl⟩ (by unfold Zh0 lt6;dsimp only;omega)
 .intro s hs
  cases s with
  | L0 E0 v3=>
   obtain⟨O0,cv3⟩:=hs
   show Tot (Zyz E0 v3).den _
   dsimp only [Zyz,LT.den]
   have q1:=O0.2.2.2.2.1.1
   refine tD (fun h2=>?_) (fun h2=>?_)
   .refine tB (tI (by omega) (by omega)) (fun x3 h4=>?_)
    have oh4:Zd3 x3:=O0.2.2.2.2.1.2 x3 h4.1
    refine tB (Zapy O0 oh4) (fun x5 h6=>?_)
    refine tO (fun h7=>?_) (fun h7=>?_)
    .exact tR trivial
    .exact tL ⟨O0,cl,cl,cl⟩ (by unfold Zh0 lt6;dsimp only;omega)
   .exact tL ⟨O0,cl⟩ (by unfold Zh0 lt6;dsimp only;omega)
  | L1 E0 v3 v4=>
   obtain⟨O0,cv4,cv3,bd3⟩:=hs
   show Tot (Zy0 E0 v3 v4).den _
   dsimp only [Zy0,LT.den]
   have lx_0:E0.Stack.length*824<=140737488351232:=O0.2.2.2.2.1.1
   refine tD (fun h1=>?_) (fun h1=>?_)
   .refine tB (tI (by omega) (by omega)) (fun x2 h3=>?_)
    have oh3:Zd3 x2:=O0.2.2.2.2.1.2 x2 h3.1
    refine tB (tI (by omega) (by omega)) (fun x4 h5=>?_)
    have oh5:Zd3 x4:=O0.2.2.2.2.1.2 x4 h5.1
    refine tE (fun h6=>?_) (fun h6=>?_)
    .exact tR trivial
    .refine qw (v4+1) fun q7 q8=>?_
     exact tL ⟨O0,cl,cl,cl⟩ (by unfold Zh0 lt6;dsimp only;omega)
   .refine qw (v3+1) fun q9 q10=>?_
    exact tL ⟨O0,cl⟩ (by unfold Zh0 lt6;dsimp only;omega)
  | L2 E0 v5=>
   obtain⟨O0,cv5⟩:=hs
   show Tot (Zy1 E0 v5).den _
   dsimp only [Zy1,LT.den]
   have q1:=O0.2.2.2.2.2.1.1
   refine tD (fun h2=>?_) (fun h2=>?_)
   .refine tB (tI (by omega) (by omega)) (fun x3 h4=>?_)
    have oh4:Zfm x3:=O0.2.2.2.2.2.1.2 x3 h4.1
    refine tB (Zio O0) (fun x5 h6=>?_)
    refine tO (fun h7=>?_) (fun h7=>?_)
    .exact tR trivial
    .refine tN (fun h8=>?_) (fun h8=>?_)
     .exact tR trivial
     .refine tB (Zxn oh4) (fun x9 h10=>?_)
      refine tO (fun h11=>?_) (fun h11=>?_)
      .exact tR trivial
      .refine qw (v5+1) fun q12 q13=>?_
       exact tL ⟨O0,cl⟩ (by unfold Zh0 lt6;dsimp only;omega)
   .exact tL ⟨O0,cl⟩ (by unfold Zh0 lt6;dsimp only;omega)
  | L3 E0 v7=>
   obtain⟨O0,cv7⟩:=hs
   show Tot (Zy2 E0 v7).den _
   dsimp only [Zy2,LT.den]
   have q1:=O0.2.2.2.2.2.2.1.1
   refine tD (fun h2=>?_) (fun h2=>?_)
   .refine tB (tI (by omega) (by omega)) (fun x3 h4=>?_)
    have oh4:Zfn x3:=O0.2.2.2.2.2.2.1.2 x3 h4.1
    refine tB (Zio O0) (fun x5 h6=>?_)
    refine tO (fun h7=>?_) (fun h7=>?_)
    .exact tR trivial
    .refine tD (fun h8=>?_) (fun h8=>?_)
     .exact tR trivial
     .refine tB (Zfx) (fun x9 h10=>?_)
      refine tO (fun h11=>?_) (fun h11=>?_)
      .exact tR trivial
      .refine tB (Zat8 oh4.1) (fun x12 h13=>?_)
       refine tO (fun h14=>?_) (fun h14=>?_)
       .exact tR trivial
       .refine tB (Zqt oh4.2) (fun x15 h16=>?_)
        have eh16_0:=h16
        refine tF (fun h17=>?_) (fun h17=>?_)
        .exact tR trivial
        .refine qw (v7+1) fun q18 q19=>?_
         exact tL ⟨O0,cl⟩ (by unfold Zh0 lt6;dsimp only;omega)
   .exact tR trivial
def Zat9:Zql->Prop
 | .L0 v0 E0 v5=>((SzL 176 Zbq) v0)/\(Zt E0)/\(0<=v5)
def Z8v:Zql->M6
 | .L0 v0 E0 v5=>(1,((E0.Extra.length:Int) - v5).toNat,1000000,0,0,0)
theorem Zaua{a0:List Zai}{a1:Za}(oa0:(SzL 176 Zbq) a0)(oa1:Zt a1):Tot (Zy3 a0 a1) (fun r=>True):=by
 unfold Zy3
 refine tX (Inv:=Zat9) (μ:=Z8v) (m:=(1000000,0,0,0,0,0)) ?_ ?_
 .have lb_a0:=oa0.1
  dsimp only [Zac1,LT.den]
  refine tB (Zfx) (fun x1 h2=>?_)
  refine tO (fun h3=>?_) (fun h3=>?_)
  .exact tR trivial
  .refine tB (Zfx) (fun x4 h5=>?_)
   refine tO (fun h6=>?_) (fun h6=>?_)
   .exact tR trivial
   .refine tB (Zfx) (fun x7 h8=>?_)
    refine tO (fun h9=>?_) (fun h9=>?_)
    .exact tR trivial
    .refine tB (Zfx) (fun x10 h11=>?_)
     refine tO (fun h12=>?_) (fun h12=>?_)
     .exact tR trivial
     .have q13:=oa1.2.1.1
      refine tD (fun h14=>?_) (fun h14=>?_)
      .exact tR trivial
      .refine tB (Zagz oa1) (fun x15 h16=>?_)
       refine tO (fun h17=>?_) (fun h17=>?_)
       .exact tR trivial
       .refine tB (Zio oa1) (fun x18 h19=>?_)
        refine tO (fun h20=>?_) (fun h20=>?_)
        .exact tR trivial
        .refine tB (Zio oa1) (fun x21 h22=>?_)
         refine tO (fun h23=>?_) (fun h23=>?_)
         .exact tR trivial
         .have q24:=oa1.1.1
          refine tB (Zfx) (fun x25 h26=>?_)
          refine tO (fun h27=>?_) (fun h27=>?_)
          .exact tR trivial
          .have q28:=oa1.2.2.2.2.2.2.2.1
           refine tD (fun h29=>?_) (fun h29=>?_)
           .exact tR trivial
           .refine tB (Zfx) (fun x30 h31=>?_)
            refine tO (fun h32=>?_) (fun h32=>?_)
            .exact tR trivial
            .exact tL ⟨oa0,oa1,cl⟩ (by unfold Z8v lt6;dsimp only;omega)
 .intro s hs
  cases s with
  | L0 v0 E0 v5=>
   obtain⟨ov0,O0,cv5⟩:=hs
   have lb_v0:=ov0.1
   show Tot (Zve v0 E0 v5).den _
   dsimp only [Zve,LT.den]
   have q1:=O0.2.2.2.2.2.2.2.1
   refine tD (fun h2=>?_) (fun h2=>?_)
   .refine tB (tI (by omega) (by omega)) (fun x3 h4=>?_)
    refine tB (Zio O0) (fun x5 h6=>?_)
    refine tO (fun h7=>?_) (fun h7=>?_)
    .exact tR trivial
    .refine qw (v5+1) fun q8 q9=>?_
     exact tL ⟨ov0,O0,cl⟩ (by unfold Z8v lt6;dsimp only;omega)
   .refine tE (fun h10=>?_) (fun h10=>?_)
    .refine tB (Zio O0) (fun x11 h12=>?_)
     refine tO (fun h13=>?_) (fun h13=>?_)
     .exact tR trivial
     .refine tN (fun h14=>?_) (fun h14=>?_)
      .refine tN (fun h15=>?_) (fun h15=>?_)
       .exact tR trivial
       .refine tB (Zm2 ov0 O0) (fun x16 h17=>?_)
        refine tF (fun h18=>?_) (fun h18=>?_)
        .refine tB (Zqb O0) (fun x19 h20=>?_)
         exact tR trivial
        .exact tR trivial
      .refine tB (Zm2 ov0 O0) (fun x21 h22=>?_)
       refine tF (fun h23=>?_) (fun h23=>?_)
       .refine tB (Zqb O0) (fun x24 h25=>?_)
        exact tR trivial
       .exact tR trivial
    .refine tN (fun h26=>?_) (fun h26=>?_)
     .refine tN (fun h27=>?_) (fun h27=>?_)
      .exact tR trivial
      .refine tB (Zm2 ov0 O0) (fun x28 h29=>?_)
       refine tF (fun h30=>?_) (fun h30=>?_)
       .refine tB (Zqb O0) (fun x31 h32=>?_)
        exact tR trivial
       .exact tR trivial
     .refine tB (Zm2 ov0 O0) (fun x33 h34=>?_)
      refine tF (fun h35=>?_) (fun h35=>?_)
      .refine tB (Zqb O0) (fun x36 h37=>?_)
       exact tR trivial
      .exact tR trivial
def Zak0:Zpl->Prop
 | .L0 v0 E0 v5=>((SzL 176 Zbq) v0)/\(Zt E0)/\(0<=v5)
def Zzo:Zpl->M6
 | .L0 v0 E0 v5=>(1,((E0.Players.length:Int) - v5).toNat,1000000,0,0,0)
theorem Zak1{a0:List Zai}{a1:Za}(oa0:(SzL 176 Zbq) a0)(oa1:Zt a1):Tot (Z0n a0 a1) (fun r=>True):=by
 unfold Z0n
 refine tX (Inv:=Zak0) (μ:=Zzo) (m:=(1000000,0,0,0,0,0)) ?_ ?_
 .have lb_a0:=oa0.1
  dsimp only [Z13,LT.den]
  have q1:=oa0.1
  refine tD (fun h2=>?_) (fun h2=>?_)
  .exact tR trivial
  .have q3:=oa1.1.1
   refine tD (fun h4=>?_) (fun h4=>?_)
   .exact tR trivial
   .have q5:=oa1.2.1.1
    refine tD (fun h6=>?_) (fun h6=>?_)
    .exact tR trivial
    .have q7:=oa1.2.2.1.1
     refine tD (fun h8=>?_) (fun h8=>?_)
     .exact tR trivial
     .have q9:=oa1.2.2.2.1.1
      refine tD (fun h10=>?_) (fun h10=>?_)
      .exact tR trivial
      .have q11:=oa1.2.2.2.2.1.1
       refine tD (fun h12=>?_) (fun h12=>?_)
       .exact tR trivial
       .have q13:=oa1.2.2.2.2.2.1.1
        refine tD (fun h14=>?_) (fun h14=>?_)
        .exact tR trivial
        .have q15:=oa1.2.2.2.2.2.2.1.1
         refine tD (fun h16=>?_) (fun h16=>?_)
         .exact tR trivial
         .have q17:=oa1.2.2.2.2.2.2.2.1
          refine tD (fun h18=>?_) (fun h18=>?_)
          .exact tR trivial
          .exact tL ⟨oa0,oa1,cl⟩ (by unfold Zzo lt6;dsimp only;omega)
 .intro s hs
  cases s with
  | L0 v0 E0 v5=>
   obtain⟨ov0,O0,cv5⟩:=hs
   have lb_v0:=ov0.1
   show Tot (Znn v0 E0 v5).den _
   dsimp only [Znn,LT.den]
   have q1:=O0.1.1
   refine tD (fun h2=>?_) (fun h2=>?_)
   .refine tB (tI (by omega) (by omega)) (fun x3 h4=>?_)
    have oh4:Zde x3:=O0.1.2 x3 h4.1
    have q5:=oh4.1.1
    have q6:=oh4.2.1.1
    refine qw ((x3.Library.length:Int)+(x3.Hand.length:Int)) fun q7 q8=>?_
    have q9:=oh4.2.2.1
    refine qw ((IntKind.wrap .i64 ((x3.Library.length:Int)+(x3.Hand.length:Int)))+(x3.Graveyard.length:Int)) fun q10 q11=>?_
    refine tD (fun h12=>?_) (fun h12=>?_)
    .exact tR trivial
    .refine qw (v5+1) fun q13 q14=>?_
     exact tL ⟨ov0,O0,cl⟩ (by unfold Zzo lt6;dsimp only;omega)
   .refine tB (Zaks ov0) (fun x15 h16=>?_)
    have eh16_0:=h16
    refine tE (fun h17=>?_) (fun h17=>?_)
    .refine tB (Zaua ov0 O0) (fun x18 h19=>?_)
     exact tR trivial
    .exact tR trivial
theorem Zare{a0:Z6}(oa0:Zcn a0):Tot (Zxt a0) (fun r=>True):=by
 unfold Zxt
 refine tZ ?_
 dsimp only [Z73,LT.den]
 refine tB (Zak1 oa0.1 oa0.2.1) (fun x1 h2=>?_)
 refine tF (fun h3=>?_) (fun h3=>?_)
 .have q4:=oa0.2.2.2.1.1
  exact tR trivial
 .exact tR trivial
end Go.PW
