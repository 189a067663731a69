import Derived.Test.YtchddhcajpagjaaGreatQE
import Derived.Test.YtchddhcajpagjaaGreatPwYc
import Derived.Test.YtchddhcajpagjaaGreatQDc
import Derived.Test.YtchddhcajpagjaaGreatQSe
set_option linter.all false
set_option maxRecDepth 100000
namespace Go.PW
abbrev Zj0(x:Zah):Prop:=(SzL 16 SzT) x.Subs
theorem Zapt{x:Zah}(h:Z68 x):Zj0 x:=(Zf5 h.2.2 (fun _ h=>Za9j h))
abbrev Z7(x:Zc):Prop:=SzS x.Sub
theorem Ze3{x:Zc}(h:Ze5 x):Z7 x:=(Zalj h.2.2.2.2.2.2.2.1)
abbrev Zu(x:Zi):Prop:=SzS x.Sub/\Z7 x.Filter
theorem Zz1{x:Zi}(h:Zvh x):Zu x:=⟨Zalj h.2.2.2.1,Ze3 h.2.2.2.2⟩
abbrev Zqr(x:Zc3):Prop:=Z7 x.Filter
theorem Zafw{x:Zc3}(h:Zw2 x):Zqr x:=(Ze3 h.2.2)
abbrev Ze6(x:Zba):Prop:=Z7 x.Filter
theorem Zapu{x:Zba}(h:Z69 x):Ze6 x:=(Ze3 h.2.2)
abbrev Zvi(x:Zhb):Prop:=Z7 x.Filter
theorem Zar8{x:Zhb}(h:Zaad x):Zvi x:=(Ze3 h.2.2)
abbrev Zz2(x:Zbs):Prop:=Z7 x.Filter
theorem Zaj2{x:Zbs}(h:Zzy x):Zz2 x:=(Ze3 h.2.2.2)
abbrev Z8(x:Zs):Prop:=Zvi x.Ref/\Zz2 x.Amount/\SzS x.Card/\Z7 x.Filter/\(SzL 176 Zu) x.Mods
theorem Zaj3{x:Zs}(h:Zzz x):Z8 x:=⟨Zar8 h.2.1,Zaj2 h.2.2.1,Zalj h.2.2.2.2.2.1,Ze3 h.2.2.2.2.2.2.1,Zf5 h.2.2.2.2.2.2.2.2 (fun _ h=>(Zz1 h))⟩
abbrev Zff(x:Za7):Prop:=Z7 x.Filter
theorem Zafx{x:Za7}(h:Zw3 x):Zff x:=(Ze3 h.2.2.1)
abbrev Z3(x:Zg):Prop:=Z7 x.Filter/\(SzL 176 Zu) x.Mods/\Zqr x.Trigger/\(SzL 144 Ze6) x.Specs/\(SzL 560 Z8) x.Effects/\Zff x.Replace
theorem Zra{x:Zg}(h:Zmy x):Z3 x:=⟨Ze3 h.2.1,Zf5 h.2.2.1 (fun _ h=>(Zz1 h)),Zafw h.2.2.2.2.2.1,Zf5 h.2.2.2.2.2.2.2.1 (fun _ h=>(Zapu h)),Zf5 h.2.2.2.2.2.2.2.2.1 (fun _ h=>(Zaj3 h)),Zafx h.2.2.2.2.2.2.2.2.2⟩
abbrev Zad(x:Zn):Prop:=SzS x.Name/\Zj0 x.Line/\(SzL 640 Z3) x.Abilities
theorem Zapv{x:Zn}(h:Zah0 x):Zad x:=⟨Zalj h.1,Zapt h.2.2.2.2.1,Zf5 h.2.2.2.2.2.2.2.2 (fun _ h=>(Zra h))⟩
abbrev Zk0(x:Zlb):Prop:=(SzL 8 (fun _=>True)) x.Library/\(SzL 8 (fun _=>True)) x.Hand/\(SzL 8 (fun _=>True)) x.Graveyard
theorem Zaj4{x:Zlb}(h:Zz0 x):Zk0 x:=⟨Zf5 h.2.2.2.2.2.2.1 (fun _ _=>trivial),Zf5 h.2.2.2.2.2.2.2.1 (fun _ _=>trivial),Zf5 h.2.2.2.2.2.2.2.2 (fun _ _=>trivial)⟩
abbrev Zlt(x:Znh):Prop:=Z3 x.Ability/\(SzL 16 (fun _=>True)) x.Targets
theorem Zapw{x:Znh}(h:Z7a x):Zlt x:=⟨Zra h.2.2.2.2.2.2.1,Zf5 h.2.2.2.2.2.2.2.1 (fun _ _=>trivial)⟩
abbrev Zw6(x:Zlo):Prop:=Z3 x.Ability
theorem Zafy{x:Zlo}(h:Zw4 x):Zw6 x:=(Zra h.2.2.1)
abbrev Zr3(x:Zdn):Prop:=(SzL 8 (fun _=>True)) x.Objects/\(SzL 176 Zu) x.Mods
theorem Zapx{x:Zdn}(h:Z7b x):Zr3 x:=⟨Zf5 h.2.2.2.2.1 (fun _ _=>trivial),Zf5 h.2.2.2.2.2 (fun _ h=>(Zz1 h))⟩
abbrev Z9(x:Zl):Prop:=(SzL 152 Zk0) x.Players/\(SzL 128 (fun _=>True)) x.Objects/\(SzL 8 (fun _=>True)) x.Battlefield/\(SzL 8 (fun _=>True)) x.Exile/\(SzL 824 Zlt) x.Stack/\(SzL 768 Zw6) x.Waiting/\(SzL 80 Zr3) x.Conts/\(SzL 8 (fun _=>True)) x.Extra
theorem Zan0{x:Zl}(h:Zaei x):Z9 x:=⟨Zf5 h.1 (fun _ h=>(Zaj4 h)),Zf5 h.2.1 (fun _ _=>trivial),Zf5 h.2.2.1 (fun _ _=>trivial),Zf5 h.2.2.2.1 (fun _ _=>trivial),Zf5 h.2.2.2.2.1 (fun _ h=>(Zapw h)),Zf5 h.2.2.2.2.2.1 (fun _ h=>(Zafy h)),Zf5 h.2.2.2.2.2.2.1 (fun _ h=>(Zapx h)),Zf5 h.2.2.2.2.2.2.2.2.2.2.2.2.2.2.2.2.1 (fun _ _=>trivial)⟩
abbrev Zbn(x:Zal):Prop:=(SzL 8 (fun _=>True)) x.Objects/\Z7 x.Filter/\(SzL 176 Zu) x.Mods
abbrev Zv(x:Zb):Prop:=SzS x.Name/\Zj0 x.Line/\(SzL 640 Z3) x.Abilities
abbrev Zz(x:Zj):Prop:=Z9 x.s/\(SzL 224 Zbn) x.forces/\(SzL 176 Zv) x.traits/\(SzL 1 (fun _=>True)) x.dropped/\(SzL 1 (fun _=>True)) x.done/\(SzL 24 (SzL 8 (fun _=>True))) x.hits
abbrev Zz3(x:Zbb):Prop:=(SzL 8 (fun _=>True)) x.hits/\(SzL 8 (fun _=>True)) x.numbers
theorem Zah1{a0:Int}:Tot (Z7w a0) (fun r=>True):=by
 unfold Z7w
 refine tZ ?_
 dsimp only [Zacv,LT.den]
 refine tD (fun h1=>?_) (fun h1=>?_)
 .exact tR trivial
 .exact tR trivial
def Zaam:Zni->Prop
 | .L0 v0 v3=>(SzT v0)/\(0<=v3)
 | .L1 v0 v3=>(SzT v0)/\(0<=v3)/\(v3 < (v0.length:Int))/\(0<=v3)/\(v3 < v0.length)
def Zp1:Zni->M6
 | .L0 v0 v3=>(1,((v0.length:Int) - v3).toNat,1000000,0,0,0)
 | .L1 v0 v3=>(1,((v0.length:Int) - v3).toNat,0,0,0,0)
theorem Zn9{v0:List UInt8}{v3:Int}(h:Zaam (.L1 v0 v3)):Tot (Zlc v0 v3).den (Nx Zaam Zp1 (1,((v0.length:Int) - v3).toNat,0,0,0,0) (fun r=>True)):=by
 obtain⟨ov0,cv3,bd2,i0,i1⟩:=h
 have lb_v0:v0.length<=562949953421312:=ov0
 dsimp only [Zlc,LT.den]
 refine tD (fun h1=>?_) (fun h1=>?_)
 .refine tB (tI (by omega) (by omega)) (fun x2 h3=>?_)
  refine tE (fun h4=>?_) (fun h4=>?_)
  .refine qw (v3 - 1) fun q5 q6=>?_
   refine tB (tI (by omega) (by omega)) (fun x7 h8=>?_)
   refine tE (fun h9=>?_) (fun h9=>?_)
   .exact tR trivial
   .refine qw (v3+1) fun q10 q11=>?_
    exact tL ⟨ov0,cl⟩ (by unfold Zp1 lt6;dsimp only;omega)
  .refine qw (v3+1) fun q12 q13=>?_
   exact tL ⟨ov0,cl⟩ (by unfold Zp1 lt6;dsimp only;omega)
 .refine qw (v3+1) fun q14 q15=>?_
  exact tL ⟨ov0,cl⟩ (by unfold Zp1 lt6;dsimp only;omega)
theorem Zaan{a0:List UInt8}(oa0:SzT a0):Tot (Zacw a0) (fun r=>True):=by
 unfold Zacw
 refine tX (Inv:=Zaam) (μ:=Zp1) (m:=(1000000,0,0,0,0,0)) ?_ ?_
 .have lb_a0:a0.length<=562949953421312:=oa0
  dsimp only [Zail,LT.den]
  have q1:a0.length<=562949953421312:=oa0
  refine tD (fun h2=>?_) (fun h2=>?_)
  .exact tR trivial
  .refine tD (fun h3=>?_) (fun h3=>?_)
   .exact tR trivial
   .refine tB (tI (by omega) (by omega)) (fun x4 h5=>?_)
    refine tB (Zah1) (fun x6 h7=>?_)
    refine tO (fun h8=>?_) (fun h8=>?_)
    .exact tR trivial
    .refine qw ((a0.length:Int) - 1) fun q9 q10=>?_
     refine tB (tI (by omega) (by omega)) (fun x11 h12=>?_)
     refine tE (fun h13=>?_) (fun h13=>?_)
     .exact tR trivial
     .exact tL ⟨oa0,cl⟩ (by unfold Zp1 lt6;dsimp only;omega)
 .intro s hs
  cases s with
  | L0 v0 v3=>
   obtain⟨ov0,cv3⟩:=hs
   have lb_v0:v0.length<=562949953421312:=ov0
   show Tot (Zpa v0 v3).den _
   dsimp only [Zpa,LT.den,Zp1]
   have q1:v0.length<=562949953421312:=ov0
   refine tD (fun h2=>?_) (fun h2=>?_)
   .refine tB (tI (by omega) (by omega)) (fun x3 h4=>?_)
    refine tB (Zah1) (fun x5 h6=>?_)
    refine tO (fun h7=>?_) (fun h7=>?_)
    .refine tB (tI (by omega) (by omega)) (fun x8 h9=>?_)
     refine tD (fun h10=>?_) (fun h10=>?_)
     .refine tB (tI (by omega) (by omega)) (fun x11 h12=>?_)
      refine tN (fun h13=>?_) (fun h13=>?_)
      .exact tR trivial
      .exact tJ (Zn9 ⟨ov0,cl,cl,cl,cl⟩)
     .refine tB (tI (by omega) (by omega)) (fun x14 h15=>?_)
      refine tD (fun h16=>?_) (fun h16=>?_)
      .refine tB (tI (by omega) (by omega)) (fun x17 h18=>?_)
       refine tN (fun h19=>?_) (fun h19=>?_)
       .exact tR trivial
       .exact tJ (Zn9 ⟨ov0,cl,cl,cl,cl⟩)
      .exact tJ (Zn9 ⟨ov0,cl,cl,cl,cl⟩)
    .exact tJ (Zn9 ⟨ov0,cl,cl,cl,cl⟩)
   .exact tR trivial
  | L1 _ _=>exact Zn9 hs
def Zz4(n m:Int):Bool:=decide (n>=0)&&decide (n<=m)
def Zaen(c:Zt):Bool:=Zz4 c.Generic 99&&(Zz4 c.X 2&&c.Color.list.all fun n=>Zz4 n 9)
theorem Za2d(c:Zt):Z7x c=some (Zaen c):=by
 unfold Z7x LF.run;dsimp only [Zaim,LT.den]
 have hl:Zdf Zlp.step (.L0 c 0)=some (c.Color.list.all fun n=>Zz4 n 9):=by
  have:=Z11 (st:=fun i=>Znj.L0 c (i:Int)) (step:=Zlp.step) (bad:=false) c.Color.list (fun n=>Zz4 n 9) (fun i x hx=>by
   have hi:=(List.getElem?_eq_some_iff.1 hx).1
   have hi:i < 5:=hi
   show (Zpb _ _).den=_
   dsimp only [Zpb,LT.den]
   rw [decide_eq_true (by omega),Zla hx,Zgz (by omega) (by omega)]
   simp only [cond_true,Option.bind_some]
   unfold Zz4
   by_cases h1:x < 0
   .rw [decide_eq_true h1,decide_eq_false (show ¬ x>=0 by omega)];rfl
   .rw [decide_eq_false h1,decide_eq_true (show x>=0 by omega)]
    by_cases h2:x > 9
    .rw [decide_eq_true h2,decide_eq_false (show ¬ x<=9 by omega)];rfl
    .rw [decide_eq_false h2,decide_eq_true (show x<=9 by omega)];rfl)
  rw [show (Znj.L0 c 0) = .L0 c ((0:Nat):Int) from rfl,this]
  have he:Zdf Zlp.step (.L0 c ((c.Color.list.length:Nat):Int))=some true:=by
   refine Zd7 ?_
   show (Zpb c 5).den=_
   rfl
  rw [he]
  cases c.Color.list.all fun n=>Zz4 n 9<;>rfl
 refine (Zb2 fun _=>Zb2 fun _=>Zb2 fun _=>Zb2 fun _=>(show Option.bind (some (Sum.inl (Znj.L0 c 0))) (Zib Zlp.step)=some (c.Color.list.all fun n=>Zz4 n 9) from hl)).trans ?_
 congr 1
 unfold Zaen Zz4
 rw [Bool.eq_iff_iff]
 simp only [Bool.and_eq_true,Bool.not_eq_true',decide_eq_false_iff_not,decide_eq_true_eq,ge_iff_le,gt_iff_lt,Int.not_lt]
 constructor
 .rintro ⟨h1,h2,h3,h4,h5⟩;exact⟨⟨h1,h2⟩,⟨h3,h4⟩,h5⟩
 .rintro ⟨⟨h1,h2⟩,⟨h3,h4⟩,h5⟩;exact⟨h1,h2,h3,h4,h5⟩
theorem Zaao(a0:Zt):Tot (Z7x a0) (fun r=>(r=true->a0.X<=2)/\(r=true->∀ n,n∈A5.list a0.Color->n<=9)/\(r=Z3s a0)):=by
 refine⟨_,Za2d a0,fun h=>?_,fun h n hn=>?_,?_⟩
 .simp only [Zaen,Zz4,Bool.and_eq_true,decide_eq_true_eq] at h
  exact h.2.1.2
 .simp only [Zaen,Zz4,Bool.and_eq_true,decide_eq_true_eq,List.all_eq_true] at h
  exact (h.2.2 n hn).2
 .unfold Zaen Zz4 Z3s
  rw [Bool.eq_iff_iff]
  simp only [Bool.and_eq_true,decide_eq_true_eq,List.all_eq_true,ge_iff_le]
  exact⟨fun⟨⟨h1,h2⟩,⟨h3,h4⟩,h5⟩=>⟨h1,h2,h3,h4,h5⟩,fun⟨h1,h2,h3,h4,h5⟩=>⟨⟨h1,h2⟩,⟨h3,h4⟩,h5⟩⟩
theorem Zaeo:Tot (Zmc) (fun r=>((SzL 16 SzN) r)/\(r.length=2)):=by
 unfold Zmc
 refine tZ ?_
 dsimp only [Z14,LT.den]
 have q1:(SzL 16 SzN) ([([98,97,115,105,99]:List UInt8),([117,110,105,113,117,101]:List UInt8)]:List (List UInt8)):=⟨by simp only [List.length_cons,List.length_nil];omega,mem_cons' (by unfold SzN;first | omega | (simp only [List.length_append,List.length_cons,List.length_nil];omega)) (mem_cons' (by unfold SzN;first | omega | (simp only [List.length_append,List.length_cons,List.length_nil];omega)) (fun _ h=>by cases h))⟩
 have lq1:([([98,97,115,105,99]:List UInt8),([117,110,105,113,117,101]:List UInt8)]:List (List UInt8)).length=2:=rfl
 exact tR ⟨q1,cl⟩
def Zar9:Zri->Prop
 | .L0 v0 v1 v5=>((SzL 16 SzT) v0)/\(SzT v1)/\(0<=v5)
def Z3t:Zri->M6
 | .L0 v0 v1 v5=>(1,((v0.length:Int) - v5).toNat,1000000,0,0,0)
theorem Zabz{a0:List (List UInt8)}{a1:List UInt8}(oa0:(SzL 16 SzT) a0)(oa1:SzT a1):Tot (Zx4 a0 a1) (fun r=>True):=by
 unfold Zx4
 refine tX (Inv:=Zar9) (μ:=Z3t) (m:=(1000000,0,0,0,0,0)) ?_ ?_
 .have lb_a0:=oa0.1
  have lb_a1:a1.length<=562949953421312:=oa1
  dsimp only [Z53,LT.den]
  exact tL ⟨oa0,oa1,cl⟩ (by unfold Z3t lt6;dsimp only;omega)
 .intro s hs
  cases s with
  | L0 v0 v1 v5=>
   obtain⟨ov0,ov1,cv5⟩:=hs
   have lb_v0:=ov0.1
   have lb_v1:v1.length<=562949953421312:=ov1
   show Tot (Zj7 v0 v1 v5).den _
   dsimp only [Zj7,LT.den]
   have q1:=ov0.1
   refine tD (fun h2=>?_) (fun h2=>?_)
   .refine tB (tI (by omega) (by omega)) (fun x3 h4=>?_)
    have oh4:SzT x3:=ov0.2 x3 h4.1
    refine tF (fun h5=>?_) (fun h5=>?_)
    .exact tR trivial
    .refine qw (v5+1) fun q6 q7=>?_
     exact tL ⟨ov0,ov1,cl⟩ (by unfold Z3t lt6;dsimp only;omega)
   .exact tR trivial
theorem Z04:Tot (Znw) (fun r=>((SzL 16 SzN) r)/\(r.length=6)):=by
 unfold Znw
 refine tZ ?_
 dsimp only [Z4q,LT.den]
 have q1:(SzL 16 SzN) ([([99,114,101,97,116,117,114,101]:List UInt8),([105,110,115,116,97,110,116]:List UInt8),([114,105,116,117,97,108]:List UInt8),([114,101,108,105,99]:List UInt8),([99,104,97,114,109]:List UInt8),([108,97,110,100]:List UInt8)]:List (List UInt8)):=⟨by simp only [List.length_cons,List.length_nil];omega,mem_cons' (by unfold SzN;first | omega | (simp only [List.length_append,List.length_cons,List.length_nil];omega)) (mem_cons' (by unfold SzN;first | omega | (simp only [List.length_append,List.length_cons,List.length_nil];omega)) (mem_cons' (by unfold SzN;first | omega | (simp only [List.length_append,List.length_cons,List.length_nil];omega)) (mem_cons' (by unfold SzN;first | omega | (simp only [List.length_append,List.length_cons,List.length_nil];omega)) (mem_cons' (by unfold SzN;first | omega | (simp only [List.length_append,List.length_cons,List.length_nil];omega)) (mem_cons' (by unfold SzN;first | omega | (simp only [List.length_append,List.length_cons,List.length_nil];omega)) (fun _ h=>by cases h))))))⟩
 have lq1:([([99,114,101,97,116,117,114,101]:List UInt8),([105,110,115,116,97,110,116]:List UInt8),([114,105,116,117,97,108]:List UInt8),([114,101,108,105,99]:List UInt8),([99,104,97,114,109]:List UInt8),([108,97,110,100]:List UInt8)]:List (List UInt8)).length=6:=rfl
 exact tR ⟨q1,cl⟩
theorem Zz5{a0:List UInt8}(oa0:SzT a0):Tot (Zx5 a0) (fun r=>True):=by
 unfold Zx5
 refine tZ ?_
 have lb_a0:a0.length<=562949953421312:=oa0
 dsimp only [Z55,LT.den]
 refine tB (Zaan oa0) (fun x1 h2=>?_)
 refine tF (fun h3=>?_) (fun h3=>?_)
 .refine tB (Zaeo) (fun x4 h5=>?_)
  have eh5_1:=h5.2
  refine tB (Zabz (SzL.nt h5.1) oa0) (fun x6 h7=>?_)
  refine tD (fun h8=>?_) (fun h8=>?_)
  .refine tB (Z04) (fun x9 h10=>?_)
   have eh10_1:=h10.2
   refine tB (Zabz (SzL.nt h10.1) oa0) (fun x11 h12=>?_)
   exact tR trivial
  .exact tR trivial
 .exact tR trivial
def Zazi:Zx6->Prop
 | .L0 v0 v1 v5=>(0<=v5)/\(v1<=100)
def Zaap:Zx6->M6
 | .L0 v0 v1 v5=>(1,(v1 - v5).toNat,1000000,0,0,0)
theorem Z7g{a0:Int}{a1:Int}(h0:a1<=100):Tot (Zao8 a0 a1) (fun r=>True):=by
 unfold Zao8
 refine tX (Inv:=Zazi) (μ:=Zaap) (m:=(1000000,0,0,0,0,0)) ?_ ?_
 .dsimp only [Zaq6,LT.den]
  exact tL ⟨cl,cl⟩ (by unfold Zaap lt6;dsimp only;omega)
 .intro s hs
  cases s with
  | L0 v0 v1 v5=>
   obtain⟨cv5,i0⟩:=hs
   show Tot (Z9v v0 v1 v5).den _
   dsimp only [Z9v,LT.den]
   refine tD (fun h1=>?_) (fun h1=>?_)
   .refine qw (v5+1) fun q2 q3=>?_
    exact tL ⟨cl,cl⟩ (by unfold Zaap lt6;dsimp only;omega)
   .exact tR trivial
def Za2e:Z19->Prop
 | .L0 E0 v3=>(Zj0 E0)/\(0<=v3)
def Z5m:Z19->M6
 | .L0 E0 v3=>(1,((E0.Subs.length:Int) - v3).toNat,1000000,0,0,0)
theorem Za2f{a0:Zah}(oa0:Zj0 a0):Tot (Zau1 a0) (fun r=>True):=by
 unfold Zau1
 refine tX (Inv:=Za2e) (μ:=Z5m) (m:=(1000000,0,0,0,0,0)) ?_ ?_
 .dsimp only [Zauz,LT.den]
  refine tD (fun h1=>?_) (fun h1=>?_)
  .exact tR trivial
  .refine tD (fun h2=>?_) (fun h2=>?_)
   .exact tR trivial
   .refine tD (fun h3=>?_) (fun h3=>?_)
    .exact tR trivial
    .refine tD (fun h4=>?_) (fun h4=>?_)
     .exact tR trivial
     .have q5:=oa0.1
      refine tD (fun h6=>?_) (fun h6=>?_)
      .exact tR trivial
      .exact tL ⟨oa0,cl⟩ (by unfold Z5m lt6;dsimp only;omega)
 .intro s hs
  cases s with
  | L0 E0 v3=>
   obtain⟨O0,cv3⟩:=hs
   show Tot (Zacz E0 v3).den _
   dsimp only [Zacz,LT.den]
   have q1:=O0.1
   refine tD (fun h2=>?_) (fun h2=>?_)
   .refine tB (tI (by omega) (by omega)) (fun x3 h4=>?_)
    have oh4:SzT x3:=O0.2 x3 h4.1
    refine tB (Zz5 oh4) (fun x5 h6=>?_)
    refine tO (fun h7=>?_) (fun h7=>?_)
    .exact tR trivial
    .refine tD (fun h8=>?_) (fun h8=>?_)
     .refine qw (v3 - 1) fun q9 q10=>?_
      refine tB (tI (by omega) (by omega)) (fun x11 h12=>?_)
      have oh12:SzT x11:=O0.2 x11 h12.1
      refine tO (fun h13=>?_) (fun h13=>?_)
      .exact tR trivial
      .refine qw (v3+1) fun q14 q15=>?_
       exact tL ⟨O0,cl⟩ (by unfold Z5m lt6;dsimp only;omega)
     .refine qw (v3+1) fun q16 q17=>?_
      exact tL ⟨O0,cl⟩ (by unfold Z5m lt6;dsimp only;omega)
   .refine tE (fun h18=>?_) (fun h18=>?_)
    .exact tR trivial
    .refine tE (fun h19=>?_) (fun h19=>?_)
     .exact tR trivial
     .refine tB (Z7g cl) (fun x20 h21=>?_)
      refine tO (fun h22=>?_) (fun h22=>?_)
      .refine tB (Z7g cl) (fun x23 h24=>?_)
       exact tR trivial
      .exact tR trivial
theorem Zan1{a0:Int}:Tot (Zau4 a0) (fun r=>True):=by
 unfold Zau4
 refine tZ ?_
 dsimp only [Zau2,LT.den]
 refine tD (fun h1=>?_) (fun h1=>?_)
 .exact tR trivial
 .exact tR trivial
theorem Zaj5{a0:Zn}(oa0:Zad a0):Tot (Z2a a0) (fun r=>True):=by
 unfold Z2a
 refine tZ ?_
 dsimp only [Z7y,LT.den]
 exact tR trivial
def Zasa:Zrj->Prop
 | .L0 v0 v1 v7=>(0<=v7)/\True
def Zvj:Zrj->M6
 | .L0 v0 v1 v7=>(1,(6 - v7).toNat,1000000,0,0,0)
theorem Zab0{a0:Int}{a1:Int}{a2:Int}:Tot (Zx7 a0 a1 a2) (fun r=>True):=by
 unfold Zx7
 refine tX (Inv:=Zasa) (μ:=Zvj) (m:=(1000000,0,0,0,0,0)) ?_ ?_
 .dsimp only [Z56,LT.den]
  refine tD (fun h1=>?_) (fun h1=>?_)
  .exact tR trivial
  .refine tD (fun h2=>?_) (fun h2=>?_)
   .exact tR trivial
   .refine tD (fun h3=>?_) (fun h3=>?_)
    .exact tR trivial
    .refine tD (fun h4=>?_) (fun h4=>?_)
     .exact tR trivial
     .exact tL ⟨cl,trivial⟩ (by unfold Zvj lt6;dsimp only;omega)
 .intro s hs
  cases s with
  | L0 v0 v1 v7=>
   obtain⟨cv7,_⟩:=hs
   show Tot (Zj8 v0 v1 v7).den _
   dsimp only [Zj8,LT.den]
   refine tD (fun h1=>?_) (fun h1=>?_)
   .refine tE (fun h2=>?_) (fun h2=>?_)
    .refine tE (fun h3=>?_) (fun h3=>?_)
     .exact tR trivial
     .refine qw (v7+1) fun q4 q5=>?_
      exact tL ⟨cl,trivial⟩ (by unfold Zvj lt6;dsimp only;omega)
    .refine qw (v7+1) fun q6 q7=>?_
     exact tL ⟨cl,trivial⟩ (by unfold Zvj lt6;dsimp only;omega)
   .exact tR trivial
theorem Zz6{a0:Za}:Tot (Zx8 a0) (fun r=>(r=true->0<=a0.Kind/\a0.Kind<=3)):=by
 unfold Zx8
 refine tZ ?_
 dsimp only [Z57,LT.den]
 refine tD (fun h1=>?_) (fun h1=>?_)
 .exact tR (by intro hr;cases hr)
 .refine tD (fun h2=>?_) (fun h2=>?_)
  .exact tR (by intro hr;cases hr)
  .refine tD (fun h3=>?_) (fun h3=>?_)
   .exact tR (by intro hr;cases hr)
   .refine tD (fun h4=>?_) (fun h4=>?_)
    .exact tR (by intro hr;cases hr)
    .refine tN (fun h5=>?_) (fun h5=>?_)
     .exact tR (by intro hr;first | omega | (cases hr;done))
     .exact tR (by intro hr;first | omega | (cases hr;done))
abbrev Zah2(a0:Zc)(r:Bool):Prop:=(r=true->0<=a0.Zone/\a0.Zone<=5/\0<=a0.Who/\a0.Who<=2/\0<=a0.Self/\a0.Self<=2/\0<=a0.Tap/\a0.Tap<=2/\0<=a0.Power.Kind/\a0.Power.Kind<=3/\0<=a0.Tough.Kind/\a0.Tough.Kind<=3/\0<=a0.Value.Kind/\a0.Value.Kind<=3)
def Zaaq(a0:Zc):Z2c->Prop
 | .L0 E0=>(E0=a0)/\(Z7 E0)/\(0<=E0.Zone/\E0.Zone<=5/\0<=E0.Who/\E0.Who<=2/\0<=E0.Self/\E0.Self<=2/\0<=E0.Tap/\E0.Tap<=2)
def Zarq:Z2c->M6
 | .L0 E0=>(0,0,0,0,0,0)
theorem Zz7{a0:Zc}{E0:Zc}(h:(Zaaq a0) (.L0 E0)):Tot (Zpc E0).den (Nx (Zaaq a0) Zarq (0,0,0,0,0,0) (Zah2 a0)):=by
 obtain⟨al0,O0,i0⟩:=h
 subst al0
 dsimp only [Zpc,LT.den]
 refine tB (Zz6) (fun x1 h2=>?_)
 have eh2_0:=h2
 refine tF (fun h3=>?_) (fun h3=>?_)
 .have h3_0:=eh2_0 h3
  refine tB (Zz6) (fun x4 h5=>?_)
  have eh5_0:=h5
  refine tF (fun h6=>?_) (fun h6=>?_)
  .have h6_0:=eh5_0 h6
   refine tB (Zz6) (fun x7 h8=>?_)
   have eh8_0:=h8
   exact tR (by intro hr;have:=eh8_0 hr;first | omega | (cases hr;done))
  .exact tR (by intro hr;cases hr)
 .exact tR (by intro hr;cases hr)
theorem Zazj{a0:Zc}(oa0:Z7 a0):Tot (Z70 a0) (Zah2 a0):=by
 unfold Z70
 refine tX (Inv:=(Zaaq a0)) (μ:=Zarq) (m:=(1000000,0,0,0,0,0)) ?_ ?_
 .dsimp only [Zain,LT.den]
  refine tD (fun h1=>?_) (fun h1=>?_)
  .exact tR (by intro hr;cases hr)
  .refine tD (fun h2=>?_) (fun h2=>?_)
   .exact tR (by intro hr;cases hr)
   .refine tD (fun h3=>?_) (fun h3=>?_)
    .exact tR (by intro hr;cases hr)
    .refine tD (fun h4=>?_) (fun h4=>?_)
     .exact tR (by intro hr;cases hr)
     .refine tD (fun h5=>?_) (fun h5=>?_)
      .exact tR (by intro hr;cases hr)
      .refine tD (fun h6=>?_) (fun h6=>?_)
       .exact tR (by intro hr;cases hr)
       .refine tD (fun h7=>?_) (fun h7=>?_)
        .exact tR (by intro hr;cases hr)
        .refine tD (fun h8=>?_) (fun h8=>?_)
         .exact tR (by intro hr;cases hr)
         .refine tB (Zab0) (fun x9 h10=>?_)
          refine tO (fun h11=>?_) (fun h11=>?_)
          .exact tR (by intro hr;cases hr)
          .refine tB (Zab0) (fun x12 h13=>?_)
           refine tO (fun h14=>?_) (fun h14=>?_)
           .exact tR (by intro hr;cases hr)
           .refine tO (fun h15=>?_) (fun h15=>?_)
            .refine tB (Zz5 (SzS.t oa0)) (fun x16 h17=>?_)
             refine tO (fun h18=>?_) (fun h18=>?_)
             .exact tR (by intro hr;cases hr)
             .refine tD (fun h19=>?_) (fun h19=>?_)
              .exact tR (by intro hr;cases hr)
              .refine tD (fun h20=>?_) (fun h20=>?_)
               .exact tR (by intro hr;cases hr)
               .exact tJ (Zz7 ⟨rfl,oa0,cl⟩)
            .refine tD (fun h21=>?_) (fun h21=>?_)
             .exact tR (by intro hr;cases hr)
             .refine tD (fun h22=>?_) (fun h22=>?_)
              .exact tR (by intro hr;cases hr)
              .exact tJ (Zz7 ⟨rfl,oa0,cl⟩)
 .intro s hs
  cases s with
  | L0 _=>exact Zz7 hs
theorem Zg5{a0:Zc}(oa0:Z7 a0):Tot (Z70 a0) (fun r=>(r=true->0<=a0.Zone/\a0.Zone<=5/\0<=a0.Who/\a0.Who<=2/\0<=a0.Self/\a0.Self<=2/\0<=a0.Tap/\a0.Tap<=2/\0<=a0.Power.Kind/\a0.Power.Kind<=3/\0<=a0.Tough.Kind/\a0.Tough.Kind<=3/\0<=a0.Value.Kind/\a0.Value.Kind<=3)/\(r=filV a0)):=(Tot.we (Zazj oa0)).mono fun r h=>⟨h.1,Option.some.inj (h.2.symm.trans (Za4t a0))⟩
def Zp2:Zqe->Prop
 | .L0 E0 E1 v7 v8=>(Zu E0)/\(Zu E1)
 | .L1 E0 E1 v7 v16=>(Zu E0)/\(Zu E1)
def Z7h:Zqe->M6
 | .L0 E0 E1 v7 v8=>(0,0,0,0,0,0)
 | .L1 E0 E1 v7 v16=>(0,0,0,0,0,0)
theorem Zvk{E0:Zi}{E1:Zi}{v7:Int}{v16:Bool}(h:Zp2 (.L1 E0 E1 v7 v16)):Tot (Zrl E0 E1 v7 v16).den (Nx Zp2 Z7h (0,0,0,0,0,0) (fun r=>(Zu r))):=by
 obtain⟨O0,O1⟩:=h
 dsimp only [Zrl,LT.den]
 refine tF (fun h1=>?_) (fun h1=>?_)
 .exact tR ⟨SzS.nil,O0.2⟩
 .refine tE (fun h2=>?_) (fun h2=>?_)
  .exact tR ⟨O0.1,SzS.nil⟩
  .refine tE (fun h3=>?_) (fun h3=>?_)
   .exact tR ⟨O0.1,O0.2⟩
   .refine tE (fun h4=>?_) (fun h4=>?_)
    .exact tR ⟨O0.1,O0.2⟩
    .exact tR O0
theorem Zg6{E0:Zi}{E1:Zi}{v7:Int}{v8:Bool}(h:Zp2 (.L0 E0 E1 v7 v8)):Tot (Zh6 E0 E1 v7 v8).den (Nx Zp2 Z7h (0,0,0,0,0,0) (fun r=>(Zu r))):=by
 obtain⟨O0,O1⟩:=h
 dsimp only [Zh6,LT.den]
 refine tF (fun h1=>?_) (fun h1=>?_)
 .exact tR ⟨O0.1,O0.2⟩
 .refine tE (fun h2=>?_) (fun h2=>?_)
  .exact tJ (Zvk ⟨O0,O1⟩)
  .exact tJ (Zvk ⟨O0,O1⟩)
theorem Zaxf{a0:Zi}(oa0:Zu a0):Tot (Zaip a0) (fun r=>(Zu r)):=by
 unfold Zaip
 refine tX (Inv:=Zp2) (μ:=Z7h) (m:=(1000000,0,0,0,0,0)) ?_ ?_
 .dsimp only [Zalp,LT.den]
  refine tE (fun h1=>?_) (fun h1=>?_)
  .exact tJ (Zg6 ⟨⟨oa0.1,oa0.2⟩,⟨SzS.nil,SzS.nil⟩⟩)
  .refine tE (fun h2=>?_) (fun h2=>?_)
   .exact tJ (Zg6 ⟨⟨oa0.1,oa0.2⟩,⟨SzS.nil,SzS.nil⟩⟩)
   .refine tE (fun h3=>?_) (fun h3=>?_)
    .exact tJ (Zg6 ⟨⟨oa0.1,oa0.2⟩,⟨SzS.nil,SzS.nil⟩⟩)
    .refine tE (fun h4=>?_) (fun h4=>?_)
     .exact tJ (Zg6 ⟨⟨oa0.1,oa0.2⟩,⟨SzS.nil,SzS.nil⟩⟩)
     .refine tE (fun h5=>?_) (fun h5=>?_)
      .exact tJ (Zg6 ⟨⟨oa0.1,oa0.2⟩,⟨SzS.nil,SzS.nil⟩⟩)
      .exact tJ (Zg6 ⟨⟨oa0.1,oa0.2⟩,⟨SzS.nil,SzS.nil⟩⟩)
 .intro s hs
  cases s with
  | L0 _ _ _ _=>exact Zg6 hs
  | L1 _ _ _ _=>exact Zvk hs
theorem Zasb{a0:Int}:Tot (Zac1 a0) (fun r=>True):=by
 unfold Zac1
 refine tZ ?_
 dsimp only [Zagh,LT.den]
 refine tD (fun h1=>?_) (fun h1=>?_)
 .refine tD (fun h2=>?_) (fun h2=>?_)
  .exact tR trivial
  .exact tR trivial
 .exact tR trivial
def Z1g:Zsv->Prop
 | .L0 E0 v18 v19=>(Zu E0)/\True
 | .L1 E0 v18 v25=>(Zu E0)/\True
 | .L2 E0 v18 v51=>(Zu E0)/\True
def Z5n:Zsv->M6
 | .L0 E0 v18 v19=>(0,0,0,0,0,0)
 | .L1 E0 v18 v25=>(0,0,0,0,0,0)
 | .L2 E0 v18 v51=>(0,0,0,0,0,0)
theorem Zz8{E0:Zi}{v18:Int}{v51:Bool}(h:(Zu E0)/\True):Tot (Zx9 E0 v18 v51).den (Nx Z1g Z5n (0,0,0,0,0,0) (fun r=>True)):=by
 obtain⟨O0,_⟩:=h
 dsimp only [Zx9,LT.den]
 refine tF (fun h1=>?_) (fun h1=>?_)
 .refine tD (fun h2=>?_) (fun h2=>?_)
  .exact tR trivial
  .exact tR trivial
 .refine tE (fun h3=>?_) (fun h3=>?_)
  .refine tB (Zg5 O0.2) (fun x4 h5=>?_)
   have eh5_0:=h5.1
   have eh5_1:=h5.2
   exact tR trivial
  .refine tE (fun h6=>?_) (fun h6=>?_)
   .refine tD (fun h7=>?_) (fun h7=>?_)
    .refine tD (fun h8=>?_) (fun h8=>?_)
     .refine tD (fun h9=>?_) (fun h9=>?_)
      .exact tR trivial
      .exact tR trivial
     .exact tR trivial
    .exact tR trivial
   .refine tE (fun h10=>?_) (fun h10=>?_)
    .refine tD (fun h11=>?_) (fun h11=>?_)
     .refine tD (fun h12=>?_) (fun h12=>?_)
      .refine tD (fun h13=>?_) (fun h13=>?_)
       .exact tR trivial
       .exact tR trivial
      .exact tR trivial
     .exact tR trivial
    .exact tR trivial
theorem Zz9{E0:Zi}{v18:Int}{v25:Bool}(h:(Zu E0)/\True):Tot (Zya E0 v18 v25).den (Nx Z1g Z5n (0,0,0,0,0,0) (fun r=>True)):=by
 obtain⟨O0,_⟩:=h
 dsimp only [Zya,LT.den]
 refine tF (fun h1=>?_) (fun h1=>?_)
 .refine tB (Zz5 (SzS.t O0.1)) (fun x2 h3=>?_)
  exact tR trivial
 .refine tE (fun h4=>?_) (fun h4=>?_)
  .refine tD (fun h5=>?_) (fun h5=>?_)
   .exact tR trivial
   .exact tR trivial
  .refine tE (fun h6=>?_) (fun h6=>?_)
   .refine tD (fun h7=>?_) (fun h7=>?_)
    .exact tR trivial
    .exact tR trivial
   .refine tE (fun h8=>?_) (fun h8=>?_)
    .exact tJ (Zz8 ⟨O0,trivial⟩)
    .exact tJ (Zz8 ⟨O0,trivial⟩)
theorem Z0a{E0:Zi}{v18:Int}{v19:Bool}(h:(Zu E0)/\True):Tot (Zyb E0 v18 v19).den (Nx Z1g Z5n (0,0,0,0,0,0) (fun r=>True)):=by
 obtain⟨O0,_⟩:=h
 dsimp only [Zyb,LT.den]
 refine tF (fun h1=>?_) (fun h1=>?_)
 .refine tB (Zasb) (fun x2 h3=>?_)
  exact tR trivial
 .refine tE (fun h4=>?_) (fun h4=>?_)
  .exact tJ (Zz9 ⟨O0,trivial⟩)
  .exact tJ (Zz9 ⟨O0,trivial⟩)
theorem Zan2{a0:Zi}(oa0:Zu a0):Tot (Zau8 a0) (fun r=>True):=by
 unfold Zau8
 refine tX (Inv:=Z1g) (μ:=Z5n) (m:=(1000000,0,0,0,0,0)) ?_ ?_
 .dsimp only [Zau6,LT.den]
  refine tD (fun h1=>?_) (fun h1=>?_)
  .exact tR trivial
  .refine tD (fun h2=>?_) (fun h2=>?_)
   .exact tR trivial
   .refine tB (Zaxf oa0) (fun x3 h4=>?_)
    refine tO (fun h5=>?_) (fun h5=>?_)
    .exact tR trivial
    .refine tE (fun h6=>?_) (fun h6=>?_)
     .exact tJ (Z0a ⟨oa0,trivial⟩)
     .exact tJ (Z0a ⟨oa0,trivial⟩)
 .intro s hs
  cases s with
  | L0 _ _ _=>exact Z0a hs
  | L1 _ _ _=>exact Zz9 hs
  | L2 _ _ _=>exact Zz8 hs
def Zapy:Zpd->Prop
 | .L0 v0 v1 v2 v7 v8=>((SzL 16 SzN) v0)/\(SzN v2)/\(0<=v8)/\(v7.length<=200*v8.toNat)/\(v0.length<=100)/\(v8<=v0.length)
def Zoa:Zpd->M6
 | .L0 v0 v1 v2 v7 v8=>(1,((v0.length:Int) - v8).toNat,1000000,0,0,0)
theorem Zapz{a0:List (List UInt8)}{a1:Int}{a2:List UInt8}(oa0:(SzL 16 SzN) a0)(oa2:SzN a2)(h0:a0.length<=100):Tot (Z9x a0 a1 a2) (fun r=>(SzT r)/\(r.length<=20000)):=by
 unfold Z9x
 refine tX (Inv:=Zapy) (μ:=Zoa) (m:=(1000000,0,0,0,0,0)) ?_ ?_
 .have lb_a0:=oa0.1
  have lb_a2:a2.length<=100:=oa2
  dsimp only [Zac2,LT.den]
  exact tL ⟨oa0,oa2,cl,cl,cl,cl⟩ (by unfold Zoa lt6;dsimp only;omega)
 .intro s hs
  cases s with
  | L0 v0 v1 v2 v7 v8=>
   obtain⟨ov0,ov2,cv8,i0,i1,i2⟩:=hs
   have lb_v0:=ov0.1
   have lb_v2:v2.length<=100:=ov2
   show Tot (Zzi v0 v1 v2 v7 v8).den _
   dsimp only [Zzi,LT.den]
   have q1:=(SzL.nt ov0).1
   refine tD (fun h2=>?_) (fun h2=>?_)
   .refine tB (Z7g cl) (fun x3 h4=>?_)
    refine tF (fun h5=>?_) (fun h5=>?_)
    .refine tO (fun h6=>?_) (fun h6=>?_)
     .have q7:v2.length<=100:=ov2
      refine tB (tK (by first | (simp only [List.length_append,List.length_cons,List.length_nil];omega) | omega)) (fun x8 h9=>?_)
      refine tB (tI (by omega) (by omega)) (fun x10 h11=>?_)
      have oh11:SzN x10:=ov0.2 x10 h11.1
      have q12:x10.length<=100:=oh11
      refine tB (tK (by first | (simp only [List.length_append,List.length_cons,List.length_nil];omega) | omega)) (fun x13 h14=>?_)
      refine qw (v8+1) fun q15 q16=>?_
      exact tL ⟨ov0,ov2,cl,cl,cl,cl⟩ (by unfold Zoa lt6;dsimp only;omega)
     .refine tB (tI (by omega) (by omega)) (fun x17 h18=>?_)
      have oh18:SzN x17:=ov0.2 x17 h18.1
      have q19:x17.length<=100:=oh18
      refine tB (tK (by first | (simp only [List.length_append,List.length_cons,List.length_nil];omega) | omega)) (fun x20 h21=>?_)
      refine qw (v8+1) fun q22 q23=>?_
      exact tL ⟨ov0,ov2,cl,cl,cl,cl⟩ (by unfold Zoa lt6;dsimp only;omega)
    .refine qw (v8+1) fun q24 q25=>?_
     exact tL ⟨ov0,ov2,cl,cl,cl,cl⟩ (by unfold Zoa lt6;dsimp only;omega)
   .exact tR ⟨(by unfold SzT;first | omega | (simp only [List.length_append,List.length_cons,List.length_nil];omega)),cl⟩
theorem Zrb{a0:Int}:Tot (Zzj a0) (fun r=>(SzT r)/\(r.length<=20000)):=by
 unfold Zzj
 refine tZ ?_
 dsimp only [Z4s,LT.den]
 refine tD (fun h1=>?_) (fun h1=>?_)
 .exact tR ⟨SzT.nil,cl⟩
 .refine tD (fun h2=>?_) (fun h2=>?_)
  .exact tR ⟨SzT.nil,cl⟩
  .refine tB (Z04) (fun x3 h4=>?_)
   have eh4_1:=h4.2
   refine tB (Zapz h4.1 (by unfold SzN;first | omega | (simp only [List.length_append,List.length_cons,List.length_nil];omega)) cl) (fun x5 h6=>?_)
   have eh6_1:=h6.2
   exact tR ⟨h6.1,cl⟩
theorem Za2g{a0:Int}:Tot (Zavb a0) (fun r=>True):=by
 unfold Zavb
 refine tZ ?_
 dsimp only [Zau9,LT.den]
 refine tD (fun h1=>?_) (fun h1=>?_)
 .exact tR trivial
 .exact tR trivial
theorem Zvl{a0:Int}:Tot (Zaiq a0) (fun r=>(SzN r)):=by
 unfold Zaiq
 refine tZ ?_
 dsimp only [Zalr,LT.den]
 refine tE (fun h1=>?_) (fun h1=>?_)
 .exact tR (by unfold SzN;first | omega | (simp only [List.length_append,List.length_cons,List.length_nil];omega))
 .refine tE (fun h2=>?_) (fun h2=>?_)
  .exact tR (by unfold SzN;first | omega | (simp only [List.length_append,List.length_cons,List.length_nil];omega))
  .refine tE (fun h3=>?_) (fun h3=>?_)
   .exact tR (by unfold SzN;first | omega | (simp only [List.length_append,List.length_cons,List.length_nil];omega))
   .refine tE (fun h4=>?_) (fun h4=>?_)
    .exact tR (by unfold SzN;first | omega | (simp only [List.length_append,List.length_cons,List.length_nil];omega))
    .refine tE (fun h5=>?_) (fun h5=>?_)
     .exact tR (by unfold SzN;first | omega | (simp only [List.length_append,List.length_cons,List.length_nil];omega))
     .exact tR (SzN.nil)
def Zaxg:Zt7->Prop
 | .L0 v0 v3 v4=>(0<=v4)/\(v3.length<=200*v4.toNat)/\(v4<=5)
def Zr4:Zt7->M6
 | .L0 v0 v3 v4=>(1,(5 - v4).toNat,1000000,0,0,0)
theorem Zaep{a0:Int}:Tot (Zair a0) (fun r=>(SzT r)):=by
 unfold Zair
 refine tX (Inv:=Zaxg) (μ:=Zr4) (m:=(1000000,0,0,0,0,0)) ?_ ?_
 .dsimp only [Zalt,LT.den]
  refine tB (Za2g) (fun x1 h2=>?_)
  refine tO (fun h3=>?_) (fun h3=>?_)
  .exact tR (SzT.nil)
  .refine tE (fun h4=>?_) (fun h4=>?_)
   .exact tR (by unfold SzT;first | omega | (simp only [List.length_append,List.length_cons,List.length_nil];omega))
   .exact tL ⟨cl,cl,cl⟩ (by unfold Zr4 lt6;dsimp only;omega)
 .intro s hs
  cases s with
  | L0 v0 v3 v4=>
   obtain⟨cv4,i0,i1⟩:=hs
   show Tot (Z58 v0 v3 v4).den _
   dsimp only [Z58,LT.den]
   refine tD (fun h1=>?_) (fun h1=>?_)
   .refine tB (tK (by first | omega | exact shl_ne' (by omega) (by omega) | decide)) (fun x2 h3=>?_)
    refine tB (tK (by first | omega | exact shl_ne' (by omega) (by omega) | decide)) (fun x4 h5=>?_)
    refine tE (fun h6=>?_) (fun h6=>?_)
    .refine tO (fun h7=>?_) (fun h7=>?_)
     .refine tB (tK (by first | (simp only [List.length_append,List.length_cons,List.length_nil];omega) | omega)) (fun x8 h9=>?_)
      refine tB (Zvl) (fun x10 h11=>?_)
      have q12:x10.length<=100:=h11
      refine tB (tK (by first | (simp only [List.length_append,List.length_cons,List.length_nil];omega) | omega)) (fun x13 h14=>?_)
      refine qw (v4+1) fun q15 q16=>?_
      exact tL ⟨cl,cl,cl⟩ (by unfold Zr4 lt6;dsimp only;omega)
     .refine tB (Zvl) (fun x17 h18=>?_)
      have q19:x17.length<=100:=h18
      refine tB (tK (by first | (simp only [List.length_append,List.length_cons,List.length_nil];omega) | omega)) (fun x20 h21=>?_)
      refine qw (v4+1) fun q22 q23=>?_
      exact tL ⟨cl,cl,cl⟩ (by unfold Zr4 lt6;dsimp only;omega)
    .refine qw (v4+1) fun q24 q25=>?_
     exact tL ⟨cl,cl,cl⟩ (by unfold Zr4 lt6;dsimp only;omega)
   .exact tR (by unfold SzT;first | omega | (simp only [List.length_append,List.length_cons,List.length_nil];omega))
theorem Zasc:Tot (Z4u) (fun r=>((SzL 16 SzN) r)/\(r.length=17)):=by
 unfold Z4u
 refine tZ ?_
 dsimp only [Zagk,LT.den]
 have q1:(SzL 16 SzN) ([([102,108,121,105,110,103]:List UInt8),([114,101,97,99,104]:List UInt8),([104,97,115,116,101]:List UInt8),([118,105,103,105,108,97,110,116]:List UInt8),([116,114,97,109,112,108,101]:List UInt8),([102,105,114,115,116,45,115,116,114,105,107,101]:List UInt8),([100,111,117,98,108,101,45,115,116,114,105,107,101]:List UInt8),([100,101,97,100,108,121]:List UInt8),([108,105,102,101,108,105,110,107]:List UInt8),([109,101,110,97,99,101]:List UInt8),([100,101,102,101,110,100,101,114]:List UInt8),([119,97,114,100,101,100]:List UInt8),([115,116,117,114,100,121]:List UInt8),([101,108,117,115,105,118,101]:List UInt8),([110,111,45,97,116,116,97,99,107]:List UInt8),([110,111,45,98,108,111,99,107]:List UInt8),([109,117,115,116,45,97,116,116,97,99,107]:List UInt8)]:List (List UInt8)):=⟨by simp only [List.length_cons,List.length_nil];omega,mem_cons' (by unfold SzN;first | omega | (simp only [List.length_append,List.length_cons,List.length_nil];omega)) (mem_cons' (by unfold SzN;first | omega | (simp only [List.length_append,List.length_cons,List.length_nil];omega)) (mem_cons' (by unfold SzN;first | omega | (simp only [List.length_append,List.length_cons,List.length_nil];omega)) (mem_cons' (by unfold SzN;first | omega | (simp only [List.length_append,List.length_cons,List.length_nil];omega)) (mem_cons' (by unfold SzN;first | omega | (simp only [List.length_append,List.length_cons,List.length_nil];omega)) (mem_cons' (by unfold SzN;first | omega | (simp only [List.length_append,List.length_cons,List.length_nil];omega)) (mem_cons' (by unfold SzN;first | omega | (simp only [List.length_append,List.length_cons,List.length_nil];omega)) (mem_cons' (by unfold SzN;first | omega | (simp only [List.length_append,List.length_cons,List.length_nil];omega)) (mem_cons' (by unfold SzN;first | omega | (simp only [List.length_append,List.length_cons,List.length_nil];omega)) (mem_cons' (by unfold SzN;first | omega | (simp only [List.length_append,List.length_cons,List.length_nil];omega)) (mem_cons' (by unfold SzN;first | omega | (simp only [List.length_append,List.length_cons,List.length_nil];omega)) (mem_cons' (by unfold SzN;first | omega | (simp only [List.length_append,List.length_cons,List.length_nil];omega)) (mem_cons' (by unfold SzN;first | omega | (simp only [List.length_append,List.length_cons,List.length_nil];omega)) (mem_cons' (by unfold SzN;first | omega | (simp only [List.length_append,List.length_cons,List.length_nil];omega)) (mem_cons' (by unfold SzN;first | omega | (simp only [List.length_append,List.length_cons,List.length_nil];omega)) (mem_cons' (by unfold SzN;first | omega | (simp only [List.length_append,List.length_cons,List.length_nil];omega)) (mem_cons' (by unfold SzN;first | omega | (simp only [List.length_append,List.length_cons,List.length_nil];omega)) (fun _ h=>by cases h)))))))))))))))))⟩
 have lq1:([([102,108,121,105,110,103]:List UInt8),([114,101,97,99,104]:List UInt8),([104,97,115,116,101]:List UInt8),([118,105,103,105,108,97,110,116]:List UInt8),([116,114,97,109,112,108,101]:List UInt8),([102,105,114,115,116,45,115,116,114,105,107,101]:List UInt8),([100,111,117,98,108,101,45,115,116,114,105,107,101]:List UInt8),([100,101,97,100,108,121]:List UInt8),([108,105,102,101,108,105,110,107]:List UInt8),([109,101,110,97,99,101]:List UInt8),([100,101,102,101,110,100,101,114]:List UInt8),([119,97,114,100,101,100]:List UInt8),([115,116,117,114,100,121]:List UInt8),([101,108,117,115,105,118,101]:List UInt8),([110,111,45,97,116,116,97,99,107]:List UInt8),([110,111,45,98,108,111,99,107]:List UInt8),([109,117,115,116,45,97,116,116,97,99,107]:List UInt8)]:List (List UInt8)).length=17:=rfl
 exact tR ⟨q1,cl⟩
theorem Z3u{a0:Int}:Tot (Zais a0) (fun r=>(SzN r)):=by
 unfold Zais
 refine tZ ?_
 dsimp only [Zalv,LT.den]
 refine tD (fun h1=>?_) (fun h1=>?_)
 .exact tR (SzN.nil)
 .refine tD (fun h2=>?_) (fun h2=>?_)
  .exact tR (SzN.nil)
  .refine tB (Zasc) (fun x3 h4=>?_)
   have eh4_1:=h4.2
   refine tB (tI (by omega) (by omega)) (fun x5 h6=>?_)
   have oh6:SzN x5:=h4.1.2 x5 h6.1
   exact tR oh6
def Zaxh:Zt8->Prop
 | .L0 v0 v3 v4=>(0<=v4)/\(v3.length<=200*v4.toNat)/\(v4<=17)
def Zr5:Zt8->M6
 | .L0 v0 v3 v4=>(1,(17 - v4).toNat,1000000,0,0,0)
theorem Zaeq{a0:Int}:Tot (Zait a0) (fun r=>(SzT r)):=by
 unfold Zait
 refine tX (Inv:=Zaxh) (μ:=Zr5) (m:=(1000000,0,0,0,0,0)) ?_ ?_
 .dsimp only [Zalx,LT.den]
  refine tB (Zan1) (fun x1 h2=>?_)
  refine tO (fun h3=>?_) (fun h3=>?_)
  .exact tR (SzT.nil)
  .exact tL ⟨cl,cl,cl⟩ (by unfold Zr5 lt6;dsimp only;omega)
 .intro s hs
  cases s with
  | L0 v0 v3 v4=>
   obtain⟨cv4,i0,i1⟩:=hs
   show Tot (Z6a v0 v3 v4).den _
   dsimp only [Z6a,LT.den]
   refine tD (fun h1=>?_) (fun h1=>?_)
   .refine tE (fun h2=>?_) (fun h2=>?_)
    .refine tO (fun h3=>?_) (fun h3=>?_)
     .refine tB (tK (by first | (simp only [List.length_append,List.length_cons,List.length_nil];omega) | omega)) (fun x4 h5=>?_)
      refine tB (Z3u) (fun x6 h7=>?_)
      have q8:x6.length<=100:=h7
      refine tB (tK (by first | (simp only [List.length_append,List.length_cons,List.length_nil];omega) | omega)) (fun x9 h10=>?_)
      refine qw (v4+1) fun q11 q12=>?_
      exact tL ⟨cl,cl,cl⟩ (by unfold Zr5 lt6;dsimp only;omega)
     .refine tB (Z3u) (fun x13 h14=>?_)
      have q15:x13.length<=100:=h14
      refine tB (tK (by first | (simp only [List.length_append,List.length_cons,List.length_nil];omega) | omega)) (fun x16 h17=>?_)
      refine qw (v4+1) fun q18 q19=>?_
      exact tL ⟨cl,cl,cl⟩ (by unfold Zr5 lt6;dsimp only;omega)
    .refine qw (v4+1) fun q20 q21=>?_
     exact tL ⟨cl,cl,cl⟩ (by unfold Zr5 lt6;dsimp only;omega)
   .refine tF (fun h22=>?_) (fun h22=>?_)
    .exact tR (by unfold SzT;first | omega | (simp only [List.length_append,List.length_cons,List.length_nil];omega))
    .exact tR (by unfold SzT;first | omega | (simp only [List.length_append,List.length_cons,List.length_nil];omega))
theorem Zafz:Tot (Zsg) (fun r=>((SzL 16 SzN) r)/\(r.length=6)):=by
 unfold Zsg
 refine tZ ?_
 dsimp only [Z4v,LT.den]
 have q1:(SzL 16 SzN) ([([]:List UInt8),([105,110,45,104,97,110,100]:List UInt8),([105,110,45,108,105,98,114,97,114,121]:List UInt8),([105,110,45,103,114,97,118,101,121,97,114,100]:List UInt8),([105,110,45,101,120,105,108,101]:List UInt8),([111,110,45,115,116,97,99,107]:List UInt8)]:List (List UInt8)):=⟨by simp only [List.length_cons,List.length_nil];omega,mem_cons' (SzN.nil) (mem_cons' (by unfold SzN;first | omega | (simp only [List.length_append,List.length_cons,List.length_nil];omega)) (mem_cons' (by unfold SzN;first | omega | (simp only [List.length_append,List.length_cons,List.length_nil];omega)) (mem_cons' (by unfold SzN;first | omega | (simp only [List.length_append,List.length_cons,List.length_nil];omega)) (mem_cons' (by unfold SzN;first | omega | (simp only [List.length_append,List.length_cons,List.length_nil];omega)) (mem_cons' (by unfold SzN;first | omega | (simp only [List.length_append,List.length_cons,List.length_nil];omega)) (fun _ h=>by cases h))))))⟩
 have lq1:([([]:List UInt8),([105,110,45,104,97,110,100]:List UInt8),([105,110,45,108,105,98,114,97,114,121]:List UInt8),([105,110,45,103,114,97,118,101,121,97,114,100]:List UInt8),([105,110,45,101,120,105,108,101]:List UInt8),([111,110,45,115,116,97,99,107]:List UInt8)]:List (List UInt8)).length=6:=rfl
 exact tR ⟨q1,cl⟩
theorem Zaj6:Tot (Zt9) (fun r=>((SzL 16 SzN) r)/\(r.length=3)):=by
 unfold Zt9
 refine tZ ?_
 dsimp only [Z71,LT.den]
 have q1:(SzL 16 SzN) ([([]:List UInt8),([121,111,117,114,115]:List UInt8),([116,104,101,105,114,115]:List UInt8)]:List (List UInt8)):=⟨by simp only [List.length_cons,List.length_nil];omega,mem_cons' (SzN.nil) (mem_cons' (by unfold SzN;first | omega | (simp only [List.length_append,List.length_cons,List.length_nil];omega)) (mem_cons' (by unfold SzN;first | omega | (simp only [List.length_append,List.length_cons,List.length_nil];omega)) (fun _ h=>by cases h)))⟩
 have lq1:([([]:List UInt8),([121,111,117,114,115]:List UInt8),([116,104,101,105,114,115]:List UInt8)]:List (List UInt8)).length=3:=rfl
 exact tR ⟨q1,cl⟩
theorem Zaf0:Tot (Zsh) (fun r=>((SzL 16 SzN) r)/\(r.length=3)):=by
 unfold Zsh
 refine tZ ?_
 dsimp only [Z4x,LT.den]
 have q1:(SzL 16 SzN) ([([]:List UInt8),([115,101,108,102]:List UInt8),([111,116,104,101,114]:List UInt8)]:List (List UInt8)):=⟨by simp only [List.length_cons,List.length_nil];omega,mem_cons' (SzN.nil) (mem_cons' (by unfold SzN;first | omega | (simp only [List.length_append,List.length_cons,List.length_nil];omega)) (mem_cons' (by unfold SzN;first | omega | (simp only [List.length_append,List.length_cons,List.length_nil];omega)) (fun _ h=>by cases h)))⟩
 have lq1:([([]:List UInt8),([115,101,108,102]:List UInt8),([111,116,104,101,114]:List UInt8)]:List (List UInt8)).length=3:=rfl
 exact tR ⟨q1,cl⟩
theorem Zaj7:Tot (Zua) (fun r=>((SzL 16 SzN) r)/\(r.length=3)):=by
 unfold Zua
 refine tZ ?_
 dsimp only [Z73,LT.den]
 have q1:(SzL 16 SzN) ([([]:List UInt8),([116,97,112,112,101,100]:List UInt8),([117,110,116,97,112,112,101,100]:List UInt8)]:List (List UInt8)):=⟨by simp only [List.length_cons,List.length_nil];omega,mem_cons' (SzN.nil) (mem_cons' (by unfold SzN;first | omega | (simp only [List.length_append,List.length_cons,List.length_nil];omega)) (mem_cons' (by unfold SzN;first | omega | (simp only [List.length_append,List.length_cons,List.length_nil];omega)) (fun _ h=>by cases h)))⟩
 have lq1:([([]:List UInt8),([116,97,112,112,101,100]:List UInt8),([117,110,116,97,112,112,101,100]:List UInt8)]:List (List UInt8)).length=3:=rfl
 exact tR ⟨q1,cl⟩
def Zazk:Zyc->Prop
 | .L0 v0 v1 v5=>(0<=v5)/\(v1<=100)
def Zaar:Zyc->M6
 | .L0 v0 v1 v5=>(1,(v1 - v5).toNat,1000000,0,0,0)
theorem Zr6{a0:Int}{a1:Int}(h0:a1<=100):Tot (Zao9 a0 a1) (fun r=>True):=by
 unfold Zao9
 refine tX (Inv:=Zazk) (μ:=Zaar) (m:=(1000000,0,0,0,0,0)) ?_ ?_
 .dsimp only [Zara,LT.den]
  exact tL ⟨cl,cl⟩ (by unfold Zaar lt6;dsimp only;omega)
 .intro s hs
  cases s with
  | L0 v0 v1 v5=>
   obtain⟨cv5,i0⟩:=hs
   show Tot (Z9y v0 v1 v5).den _
   dsimp only [Z9y,LT.den]
   refine tD (fun h1=>?_) (fun h1=>?_)
   .refine qw (v5+1) fun q2 q3=>?_
    exact tL ⟨cl,cl⟩ (by unfold Zaar lt6;dsimp only;omega)
   .exact tR trivial
def Zaj8:Zmd->Prop
 | .L0 v0 v3 v4=>(0<=v4)/\(v0<=100)
def Zvm:Zmd->M6
 | .L0 v0 v3 v4=>(1,(v0 - v4).toNat,1000000,0,0,0)
theorem Z3v{a0:Int}(h0:a0<=100):Tot (Z2d a0) (fun r=>(SzT r)/\(r.length<=20000)):=by
 unfold Z2d
 refine tX (Inv:=Zaj8) (μ:=Zvm) (m:=(1000000,0,0,0,0,0)) ?_ ?_
 .dsimp only [Z75,LT.den]
  exact tL ⟨cl,cl⟩ (by unfold Zvm lt6;dsimp only;omega)
 .intro s hs
  cases s with
  | L0 v0 v3 v4=>
   obtain⟨cv4,i0⟩:=hs
   show Tot (Zuc v0 v3 v4).den _
   dsimp only [Zuc,LT.den]
   refine tD (fun h1=>?_) (fun h1=>?_)
   .refine qw (v3*2) fun q2 q3=>?_
    refine qw (v4+1) fun q4 q5=>?_
    exact tL ⟨cl,cl⟩ (by unfold Zvm lt6;dsimp only;omega)
   .refine tB (Zrb) (fun x6 h7=>?_)
    have eh7_1:=h7.2
    exact tR ⟨h7.1,cl⟩
theorem Zasd:Tot (Z40) (fun r=>((SzL 16 SzN) r)/\(r.length=4)):=by
 unfold Z40
 refine tZ ?_
 dsimp only [Zagn,LT.den]
 have q1:(SzL 16 SzN) ([([]:List UInt8),([62,61]:List UInt8),([60,61]:List UInt8),([61]:List UInt8)]:List (List UInt8)):=⟨by simp only [List.length_cons,List.length_nil];omega,mem_cons' (SzN.nil) (mem_cons' (by unfold SzN;first | omega | (simp only [List.length_append,List.length_cons,List.length_nil];omega)) (mem_cons' (by unfold SzN;first | omega | (simp only [List.length_append,List.length_cons,List.length_nil];omega)) (mem_cons' (by unfold SzN;first | omega | (simp only [List.length_append,List.length_cons,List.length_nil];omega)) (fun _ h=>by cases h))))⟩
 have lq1:([([]:List UInt8),([62,61]:List UInt8),([60,61]:List UInt8),([61]:List UInt8)]:List (List UInt8)).length=4:=rfl
 exact tR ⟨q1,cl⟩
theorem Za7m{n:Int}(h0:0<=n)(h1:n < 18446744073709551616):Zq3 .u64 n 10=n / 10:=by
 unfold Zq3
 rw [Int.tdiv_eq_ediv_of_nonneg h0]
 have h2:0<=n / 10:=by omega
 have h3:n / 10 < 18446744073709551616:=by omega
 simp only [IntKind.wrap,IntKind.bits,IntKind.signed,Bool.false_and,Bool.false_eq_true,if_false]
 exact Int.emod_eq_of_lt h2 h3
theorem Z5o:∀ (k:Nat) (n:Int) (s:List UInt8),k<=20->0<=n->n < 10 ^ k->n < 18446744073709551616->s.length+k<=40->Tot (Zdf Zud.step (.L0 n s)) fun r=>SzN r/\r.length<=40
 | 0,n,s,_,h0,h1,_,hs=>by
  have:n=0:=by omega
  subst this
  refine Tot.stop (r:=s) ?_ ⟨show s.length<=100 by omega,by omega⟩
  show (Ziy _ _).den=_
  dsimp only [Ziy,LT.den]
  rfl
 | k+1,n,s,hk,h0,h1,h2,hs=>by
  by_cases hn:n > 0
  .obtain⟨d,hd,hl⟩:=Tot.str (xs:=[IntKind.wrap .u8 (IntKind.wrap .u64 (48+(Int.tmod n 10)))]) (by simp) (by intro m hm;simp only [List.mem_cons,List.not_mem_nil,or_false] at hm;subst hm;exact Za31 _)
   simp only [List.length_cons,List.length_nil] at hl
   have e:Zud.step (.L0 n s)=some (.inl (.L0 (n / 10) (d++s))):=by
    show (Ziy _ _).den=_
    dsimp only [Ziy,LT.den]
    rw [decide_eq_true hn,cond_true,hd,Option.bind_some,decide_eq_true (show d.length+s.length<=9223372036854775807 by omega),Za7m h0 h2]
    rfl
   obtain⟨r,hr,hp⟩:=Z5o k (n / 10) (d++s) (by omega) (by omega) (by
    rw [Int.pow_succ] at h1
    have:n / 10 < 10 ^ k:=Int.ediv_lt_of_lt_mul (by decide) h1
    exact this) (by omega) (by rw [List.length_append];omega)
   exact⟨r,by rw [Zlm e];exact hr,hp⟩
  .refine Tot.stop (r:=s) ?_ ⟨show s.length<=100 by omega,by omega⟩
   show (Ziy _ _).den=_
   dsimp only [Ziy,LT.den]
   rw [decide_eq_false hn];rfl
theorem Z84(a0:Int)(h0:0<=a0)(h1:a0 < 18446744073709551616):Tot (Z9z a0) (fun r=>(SzN r)/\(r.length<=40)):=by
 unfold Z9z LF.run;dsimp only [Zac4,LT.den]
 obtain⟨d,hd,hl⟩:=Tot.str (xs:=[IntKind.wrap .u8 (IntKind.wrap .u64 (48+(Int.tmod a0 10)))]) (by simp) (by intro m hm;simp only [List.mem_cons,List.not_mem_nil,or_false] at hm;subst hm;exact Za31 _)
 simp only [List.length_cons,List.length_nil] at hl
 rw [hd,Option.bind_some,Option.bind_some,Zng,Za7m h0 h1]
 exact Z5o 20 (a0 / 10) d (by omega) (by omega) (by omega) (by omega) (by omega)
theorem Zm1{a0:Int}:Tot (Zaiy a0) (fun r=>(SzN r)):=by
 unfold Zaiy
 refine tZ ?_
 dsimp only [Zal1,LT.den]
 refine tD (fun h1=>?_) (fun h1=>?_)
 .have q2:0<=IntKind.wrap .u64 a0/\IntKind.wrap .u64 a0 < 18446744073709551616:=Zafj _
  have q3:0<=IntKind.wrap .u64 (0 - (IntKind.wrap .u64 a0))/\IntKind.wrap .u64 (0 - (IntKind.wrap .u64 a0)) < 18446744073709551616:=Zafj _
  refine tB (Z84 (IntKind.wrap .u64 (0 - (IntKind.wrap .u64 a0))) cl cl) (fun x4 h5=>?_)
  have eh5_1:=h5.2
  have q6:x4.length<=100:=h5.1
  refine tB (tK (by first | (simp only [List.length_append,List.length_cons,List.length_nil];omega) | omega)) (fun x7 h8=>?_)
  exact tR (by unfold SzN;first | omega | (simp only [List.length_append,List.length_cons,List.length_nil];omega))
 .have q9:0<=IntKind.wrap .u64 a0/\IntKind.wrap .u64 a0 < 18446744073709551616:=Zafj _
  refine tB (Z84 (IntKind.wrap .u64 a0) cl cl) (fun x10 h11=>?_)
  have eh11_1:=h11.2
  exact tR h11.1
theorem Zrc{a0:List UInt8}{a1:Za}(oa0:SzN a0)(h0:0<=a1.Kind)(h1:a1.Kind<=3):Tot (Zzk a0 a1) (fun r=>(SzT r)):=by
 unfold Zzk
 refine tZ ?_
 have lb_a0:a0.length<=100:=oa0
 dsimp only [Z41,LT.den]
 refine tE (fun h1=>?_) (fun h1=>?_)
 .exact tR (SzT.nil)
 .refine tB (Zasd) (fun x2 h3=>?_)
  have eh3_1:=h3.2
  refine tB (tI (by omega) (by omega)) (fun x4 h5=>?_)
  have oh5:SzN x4:=h3.1.2 x4 h5.1
  have q6:a0.length<=100:=oa0
  have q7:x4.length<=100:=oh5
  refine tB (tK (by first | (simp only [List.length_append,List.length_cons,List.length_nil];omega) | omega)) (fun x8 h9=>?_)
  refine tB (Zm1) (fun x10 h11=>?_)
  have q12:x10.length<=100:=h11
  refine tB (tK (by first | (simp only [List.length_append,List.length_cons,List.length_nil];omega) | omega)) (fun x13 h14=>?_)
  exact tR (by unfold SzT;first | omega | (simp only [List.length_append,List.length_cons,List.length_nil];omega))
def Zaxi:Zue->Prop
 | .L0 v0 v1 v5 v6=>((SzL 16 SzT) v0)/\(SzN v1)/\(0<=v6)/\(v5.length<=1125899906842624*v6.toNat)/\(v0.length<=100)/\(v6<=v0.length)
def Zxo:Zue->M6
 | .L0 v0 v1 v5 v6=>(1,((v0.length:Int) - v6).toNat,1000000,0,0,0)
theorem Zaxj{a0:List (List UInt8)}{a1:List UInt8}(oa0:(SzL 16 SzT) a0)(oa1:SzN a1)(h0:a0.length<=100):Tot (Zaiz a0 a1) (fun r=>(r.length<=144115188075855872)):=by
 unfold Zaiz
 refine tX (Inv:=Zaxi) (μ:=Zxo) (m:=(1000000,0,0,0,0,0)) ?_ ?_
 .have lb_a0:=oa0.1
  have lb_a1:a1.length<=100:=oa1
  dsimp only [Zal3,LT.den]
  exact tL ⟨oa0,oa1,cl,cl,cl,cl⟩ (by unfold Zxo lt6;dsimp only;omega)
 .intro s hs
  cases s with
  | L0 v0 v1 v5 v6=>
   obtain⟨ov0,ov1,cv6,i0,i1,i2⟩:=hs
   have lb_v0:=ov0.1
   have lb_v1:v1.length<=100:=ov1
   show Tot (Z6b v0 v1 v5 v6).den _
   dsimp only [Z6b,LT.den]
   have q1:=ov0.1
   refine tD (fun h2=>?_) (fun h2=>?_)
   .refine tD (fun h3=>?_) (fun h3=>?_)
    .have q4:v1.length<=100:=ov1
     refine tB (tK (by first | (simp only [List.length_append,List.length_cons,List.length_nil];omega) | omega)) (fun x5 h6=>?_)
     refine tB (tI (by omega) (by omega)) (fun x7 h8=>?_)
     have oh8:SzT x7:=ov0.2 x7 h8.1
     have q9:x7.length<=562949953421312:=oh8
     refine tB (tK (by first | (simp only [List.length_append,List.length_cons,List.length_nil];omega) | omega)) (fun x10 h11=>?_)
     refine qw (v6+1) fun q12 q13=>?_
     exact tL ⟨ov0,ov1,cl,cl,cl,cl⟩ (by unfold Zxo lt6;dsimp only;omega)
    .refine tB (tI (by omega) (by omega)) (fun x14 h15=>?_)
     have oh15:SzT x14:=ov0.2 x14 h15.1
     have q16:x14.length<=562949953421312:=oh15
     refine tB (tK (by first | (simp only [List.length_append,List.length_cons,List.length_nil];omega) | omega)) (fun x17 h18=>?_)
     refine qw (v6+1) fun q19 q20=>?_
     exact tL ⟨ov0,ov1,cl,cl,cl,cl⟩ (by unfold Zxo lt6;dsimp only;omega)
   .exact tR cl
theorem Zgf{b0:List (List UInt8)}{a1:List UInt8}(ob0:(SzL 16 SzT) b0)(oa1:SzT a1)(h0:b0.length<=1000):Tot (Z2f b0 a1) (fun r=>((SzL 16 SzT) r)/\(r.length<=b0.length+1)):=by
 unfold Z2f
 refine tZ ?_
 have lb_b0:=ob0.1
 have lb_a1:a1.length<=562949953421312:=oa1
 dsimp only [Z77,LT.den]
 refine tF (fun h1=>?_) (fun h1=>?_)
 .exact tR ⟨ob0,cl⟩
 .have q4:=ob0.1
  refine tB (tA (by simp only [List.length_cons,List.length_nil];omega) (by decide)) (fun x2 h3=>?_)
  have lh3:x2.length=b0.length+1:=by rw [h3,List.length_append];rfl
  exact tR ⟨SzL.app (k:=16) h3 lo ob0.2 (me1 oa1),cl⟩
def Z3w:Zh7->Prop
 | .L0 E0 v6 v7 v8=>(Z7 E0)/\((SzL 16 SzN) v6)/\((SzL 16 SzT) v7)/\(0<=v8)/\(v7.length<=3+v8.toNat)/\(v8<=6)/\(v6.length=3)/\(0<=E0.Tap/\E0.Tap<=2/\0<=E0.Power.Kind/\E0.Power.Kind<=3/\0<=E0.Tough.Kind/\E0.Tough.Kind<=3/\0<=E0.Value.Kind/\E0.Value.Kind<=3)
 | .L1 E0 v6 v7 v9=>(Z7 E0)/\((SzL 16 SzN) v6)/\((SzL 16 SzT) v7)/\(0<=v9)/\(v7.length<=9+v9.toNat)/\(v9<=6)/\(v6.length=3)/\(0<=E0.Tap/\E0.Tap<=2/\0<=E0.Power.Kind/\E0.Power.Kind<=3/\0<=E0.Tough.Kind/\E0.Tough.Kind<=3/\0<=E0.Value.Kind/\E0.Value.Kind<=3)
 | .L2 E0 v6 v7 v10=>(Z7 E0)/\((SzL 16 SzN) v6)/\((SzL 16 SzT) v7)/\(0<=v10)/\(v7.length<=15+v10.toNat)/\(v10<=5)/\(v6.length=3)/\(0<=E0.Tap/\E0.Tap<=2/\0<=E0.Power.Kind/\E0.Power.Kind<=3/\0<=E0.Tough.Kind/\E0.Tough.Kind<=3/\0<=E0.Value.Kind/\E0.Value.Kind<=3)
 | .L3 E0 v6 v7 v11=>(Z7 E0)/\((SzL 16 SzN) v6)/\((SzL 16 SzT) v7)/\(0<=v11)/\(v7.length<=20+v11.toNat)/\(v11<=5)/\(v6.length=3)/\(0<=E0.Tap/\E0.Tap<=2/\0<=E0.Power.Kind/\E0.Power.Kind<=3/\0<=E0.Tough.Kind/\E0.Tough.Kind<=3/\0<=E0.Value.Kind/\E0.Value.Kind<=3)
 | .L4 E0 v6 v7=>(Z7 E0)/\((SzL 16 SzN) v6)/\((SzL 16 SzT) v7)/\(v7.length<=26)/\(v6.length=3)/\(0<=E0.Tap/\E0.Tap<=2/\0<=E0.Power.Kind/\E0.Power.Kind<=3/\0<=E0.Tough.Kind/\E0.Tough.Kind<=3/\0<=E0.Value.Kind/\E0.Value.Kind<=3)
 | .L5 E0 v6 v7 v12=>(Z7 E0)/\((SzL 16 SzN) v6)/\((SzL 16 SzT) v7)/\(0<=v12)/\(v7.length<=26+v12.toNat)/\(v12<=17)/\(v6.length=3)/\(0<=E0.Tap/\E0.Tap<=2/\0<=E0.Power.Kind/\E0.Power.Kind<=3/\0<=E0.Tough.Kind/\E0.Tough.Kind<=3/\0<=E0.Value.Kind/\E0.Value.Kind<=3)
def Zbm:Zh7->M6
 | .L0 E0 v6 v7 v8=>(9,(6 - v8).toNat,1000000,0,0,0)
 | .L1 E0 v6 v7 v9=>(7,(6 - v9).toNat,1000000,0,0,0)
 | .L2 E0 v6 v7 v10=>(5,(5 - v10).toNat,1000000,0,0,0)
 | .L3 E0 v6 v7 v11=>(3,(5 - v11).toNat,1000000,0,0,0)
 | .L4 E0 v6 v7=>(2,0,0,0,0,0)
 | .L5 E0 v6 v7 v12=>(1,(17 - v12).toNat,1000000,0,0,0)
theorem Zvn{E0:Zc}{v6:List (List UInt8)}{v7:List (List UInt8)}(h:Z3w (.L4 E0 v6 v7)):Tot (Zrm E0 v6 v7).den (Nx Z3w Zbm (2,0,0,0,0,0) (fun r=>(r.length<=144115188075855872))):=by
 obtain⟨O0,ov6,ov7,i0,i1,i2⟩:=h
 have lb_v6:=ov6.1
 have lb_v7:=ov7.1
 dsimp only [Zrm,LT.den]
 exact tL ⟨O0,ov6,ov7,cl,cl,cl,cl,cl⟩ (by unfold Zbm lt6;dsimp only;omega)
theorem Zaxk{a0:Zc}(oa0:Z7 a0):Tot (Zai0 a0) (fun r=>(r.length<=144115188075855872)):=by
 unfold Zai0
 refine tX (Inv:=Z3w) (μ:=Zbm) (m:=(1000000,0,0,0,0,0)) ?_ ?_
 .dsimp only [Zal5,LT.den]
  refine tB (Zg5 oa0) (fun x1 h2=>?_)
  have eh2_0:=h2.1
  have eh2_1:=h2.2
  refine tO (fun h3=>?_) (fun h3=>?_)
  .exact tR cl
  .have h3_0:=eh2_0 h3
   refine tB (Zafz) (fun x4 h5=>?_)
   have eh5_1:=h5.2
   refine tB (Zaj6) (fun x6 h7=>?_)
   have eh7_1:=h7.2
   refine tB (Zaf0) (fun x8 h9=>?_)
   have eh9_1:=h9.2
   refine tB (Zaj7) (fun x10 h11=>?_)
   have eh11_1:=h11.2
   refine tB (tI (by omega) (by omega)) (fun x12 h13=>?_)
   have oh13:SzN x12:=h5.1.2 x12 h13.1
   refine tB (Zgf SzL.nil (SzN.t oh13) cl) (fun x14 h15=>?_)
   have eh15_1:=h15.2
   try simp only [List.length_nil,List.length_cons,Nat.zero_add] at eh15_1
   refine tB (tI (by omega) (by omega)) (fun x16 h17=>?_)
   have oh17:SzN x16:=h7.1.2 x16 h17.1
   refine tB (Zgf h15.1 (SzN.t oh17) cl) (fun x18 h19=>?_)
   have eh19_1:=h19.2
   refine tB (tI (by omega) (by omega)) (fun x20 h21=>?_)
   have oh21:SzN x20:=h9.1.2 x20 h21.1
   refine tB (Zgf h19.1 (SzN.t oh21) cl) (fun x22 h23=>?_)
   have eh23_1:=h23.2
   exact tL ⟨oa0,h11.1,h23.1,cl,cl,cl,cl,cl⟩ (by unfold Zbm lt6;dsimp only;omega)
 .intro s hs
  cases s with
  | L0 E0 v6 v7 v8=>
   obtain⟨O0,ov6,ov7,cv8,i0,i1,i2,i3⟩:=hs
   have lb_v6:=ov6.1
   have lb_v7:=ov7.1
   show Tot (Z6c E0 v6 v7 v8).den _
   dsimp only [Z6c,LT.den,Zbm]
   refine tD (fun h1=>?_) (fun h1=>?_)
   .refine tB (Zr6 cl) (fun x2 h3=>?_)
    refine tF (fun h4=>?_) (fun h4=>?_)
    .refine tB (Z3v cl) (fun x5 h6=>?_)
     have eh6_1:=h6.2
     have q9:=ov7.1
     refine tB (tA (by simp only [List.length_cons,List.length_nil];omega) (by decide)) (fun x7 h8=>?_)
     have lh8:x7.length=v7.length+1:=by rw [h8,List.length_append];rfl
     refine qw (v8+1) fun q10 q11=>?_
     exact tL ⟨O0,ov6,SzL.app (k:=16) h8 lo ov7.2 (me1 h6.1),cl,cl,cl,cl,cl⟩ (by unfold Zbm lt6;dsimp only;omega)
    .refine qw (v8+1) fun q12 q13=>?_
     exact tL ⟨O0,ov6,ov7,cl,cl,cl,cl,cl⟩ (by unfold Zbm lt6;dsimp only;omega)
   .exact tL ⟨O0,ov6,ov7,cl,cl,cl,cl,cl⟩ (by unfold Zbm lt6;dsimp only;omega)
  | L1 E0 v6 v7 v9=>
   obtain⟨O0,ov6,ov7,cv9,i0,i1,i2,i3⟩:=hs
   have lb_v6:=ov6.1
   have lb_v7:=ov7.1
   show Tot (Z6d E0 v6 v7 v9).den _
   dsimp only [Z6d,LT.den,Zbm]
   refine tD (fun h1=>?_) (fun h1=>?_)
   .refine tB (Zr6 cl) (fun x2 h3=>?_)
    refine tF (fun h4=>?_) (fun h4=>?_)
    .refine tB (Z3v cl) (fun x5 h6=>?_)
     have eh6_1:=h6.2
     have q7:x5.length<=562949953421312:=h6.1
     refine tB (tK (by first | (simp only [List.length_append,List.length_cons,List.length_nil];omega) | omega)) (fun x8 h9=>?_)
     have q12:=ov7.1
     refine tB (tA (by simp only [List.length_cons,List.length_nil];omega) (by decide)) (fun x10 h11=>?_)
     have lh11:x10.length=v7.length+1:=by rw [h11,List.length_append];rfl
     refine qw (v9+1) fun q13 q14=>?_
     exact tL ⟨O0,ov6,SzL.app (k:=16) h11 lo ov7.2 (me1 (by unfold SzT;first | omega | (simp only [List.length_append,List.length_cons,List.length_nil];omega))),cl,cl,cl,cl,cl⟩ (by unfold Zbm lt6;dsimp only;omega)
    .refine qw (v9+1) fun q15 q16=>?_
     exact tL ⟨O0,ov6,ov7,cl,cl,cl,cl,cl⟩ (by unfold Zbm lt6;dsimp only;omega)
   .exact tL ⟨O0,ov6,ov7,cl,cl,cl,cl,cl⟩ (by unfold Zbm lt6;dsimp only;omega)
  | L2 E0 v6 v7 v10=>
   obtain⟨O0,ov6,ov7,cv10,i0,i1,i2,i3⟩:=hs
   have lb_v6:=ov6.1
   have lb_v7:=ov7.1
   show Tot (Z6e E0 v6 v7 v10).den _
   dsimp only [Z6e,LT.den,Zbm]
   refine tD (fun h1=>?_) (fun h1=>?_)
   .refine tB (Zr6 cl) (fun x2 h3=>?_)
    refine tF (fun h4=>?_) (fun h4=>?_)
    .refine tB (Zvl) (fun x5 h6=>?_)
     have q9:=ov7.1
     refine tB (tA (by simp only [List.length_cons,List.length_nil];omega) (by decide)) (fun x7 h8=>?_)
     have lh8:x7.length=v7.length+1:=by rw [h8,List.length_append];rfl
     refine qw (v10+1) fun q10 q11=>?_
     exact tL ⟨O0,ov6,SzL.app (k:=16) h8 lo ov7.2 (me1 (SzN.t h6)),cl,cl,cl,cl,cl⟩ (by unfold Zbm lt6;dsimp only;omega)
    .refine qw (v10+1) fun q12 q13=>?_
     exact tL ⟨O0,ov6,ov7,cl,cl,cl,cl,cl⟩ (by unfold Zbm lt6;dsimp only;omega)
   .exact tL ⟨O0,ov6,ov7,cl,cl,cl,cl,cl⟩ (by unfold Zbm lt6;dsimp only;omega)
  | L3 E0 v6 v7 v11=>
   obtain⟨O0,ov6,ov7,cv11,i0,i1,i2,i3⟩:=hs
   have lb_v6:=ov6.1
   have lb_v7:=ov7.1
   show Tot (Z6f E0 v6 v7 v11).den _
   dsimp only [Z6f,LT.den,Zbm]
   refine tD (fun h1=>?_) (fun h1=>?_)
   .refine tB (Zr6 cl) (fun x2 h3=>?_)
    refine tF (fun h4=>?_) (fun h4=>?_)
    .refine tB (Zvl) (fun x5 h6=>?_)
     have q7:x5.length<=100:=h6
     refine tB (tK (by first | (simp only [List.length_append,List.length_cons,List.length_nil];omega) | omega)) (fun x8 h9=>?_)
     have q12:=ov7.1
     refine tB (tA (by simp only [List.length_cons,List.length_nil];omega) (by decide)) (fun x10 h11=>?_)
     have lh11:x10.length=v7.length+1:=by rw [h11,List.length_append];rfl
     refine qw (v11+1) fun q13 q14=>?_
     exact tL ⟨O0,ov6,SzL.app (k:=16) h11 lo ov7.2 (me1 (by unfold SzT;first | omega | (simp only [List.length_append,List.length_cons,List.length_nil];omega))),cl,cl,cl,cl,cl⟩ (by unfold Zbm lt6;dsimp only;omega)
    .refine qw (v11+1) fun q15 q16=>?_
     exact tL ⟨O0,ov6,ov7,cl,cl,cl,cl,cl⟩ (by unfold Zbm lt6;dsimp only;omega)
   .refine tO (fun h17=>?_) (fun h17=>?_)
    .have q18:E0.Sub.length<=281474976710656:=O0
     refine tB (tK (by first | (simp only [List.length_append,List.length_cons,List.length_nil];omega) | omega)) (fun x19 h20=>?_)
     have q23:=ov7.1
     refine tB (tA (by simp only [List.length_cons,List.length_nil];omega) (by decide)) (fun x21 h22=>?_)
     have lh22:x21.length=v7.length+1:=by rw [h22,List.length_append];rfl
     exact tJ (Zvn ⟨O0,ov6,SzL.app (k:=16) h22 lo ov7.2 (me1 (by unfold SzT;first | omega | (simp only [List.length_append,List.length_cons,List.length_nil];omega))),cl,cl,cl⟩)
    .exact tJ (Zvn ⟨O0,ov6,ov7,cl,cl,cl⟩)
  | L4 _ _ _=>exact Zvn hs
  | L5 E0 v6 v7 v12=>
   obtain⟨O0,ov6,ov7,cv12,i0,i1,i2,i3⟩:=hs
   have lb_v6:=ov6.1
   have lb_v7:=ov7.1
   show Tot (Z6g E0 v6 v7 v12).den _
   dsimp only [Z6g,LT.den,Zbm]
   refine tD (fun h1=>?_) (fun h1=>?_)
   .refine tB (Zr6 cl) (fun x2 h3=>?_)
    refine tF (fun h4=>?_) (fun h4=>?_)
    .refine tB (Z3u) (fun x5 h6=>?_)
     have q7:x5.length<=100:=h6
     refine tB (tK (by first | (simp only [List.length_append,List.length_cons,List.length_nil];omega) | omega)) (fun x8 h9=>?_)
     have q12:=ov7.1
     refine tB (tA (by simp only [List.length_cons,List.length_nil];omega) (by decide)) (fun x10 h11=>?_)
     have lh11:x10.length=v7.length+1:=by rw [h11,List.length_append];rfl
     refine qw (v12+1) fun q13 q14=>?_
     exact tL ⟨O0,ov6,SzL.app (k:=16) h11 lo ov7.2 (me1 (by unfold SzT;first | omega | (simp only [List.length_append,List.length_cons,List.length_nil];omega))),cl,cl,cl,cl,cl⟩ (by unfold Zbm lt6;dsimp only;omega)
    .refine qw (v12+1) fun q15 q16=>?_
     exact tL ⟨O0,ov6,ov7,cl,cl,cl,cl,cl⟩ (by unfold Zbm lt6;dsimp only;omega)
   .refine tB (tI (by omega) (by omega)) (fun x17 h18=>?_)
    have oh18:SzN x17:=ov6.2 x17 h18.1
    refine tB (Zgf ov7 (SzN.t oh18) cl) (fun x19 h20=>?_)
    have eh20_1:=h20.2
    refine tB (Zrc (by unfold SzN;first | omega | (simp only [List.length_append,List.length_cons,List.length_nil];omega)) cl cl) (fun x21 h22=>?_)
    refine tB (Zgf h20.1 h22 cl) (fun x23 h24=>?_)
    have eh24_1:=h24.2
    refine tB (Zrc (by unfold SzN;first | omega | (simp only [List.length_append,List.length_cons,List.length_nil];omega)) cl cl) (fun x25 h26=>?_)
    refine tB (Zgf h24.1 h26 cl) (fun x27 h28=>?_)
    have eh28_1:=h28.2
    refine tB (Zrc (by unfold SzN;first | omega | (simp only [List.length_append,List.length_cons,List.length_nil];omega)) cl cl) (fun x29 h30=>?_)
    refine tB (Zgf h28.1 h30 cl) (fun x31 h32=>?_)
    have eh32_1:=h32.2
    refine tE (fun h33=>?_) (fun h33=>?_)
    .exact tR cl
    .refine tB (Zaxj h32.1 (by unfold SzN;first | omega | (simp only [List.length_append,List.length_cons,List.length_nil];omega)) cl) (fun x34 h35=>?_)
     have eh35_0:=h35
     exact tR cl
theorem Zaer{a0:Zi}(oa0:Zu a0):Tot (Zai1 a0) (fun r=>(r.length<=288230376151711744)):=by
 unfold Zai1
 refine tZ ?_
 dsimp only [Zal7,LT.den]
 refine tB (Zan2 oa0) (fun x1 h2=>?_)
 refine tO (fun h3=>?_) (fun h3=>?_)
 .exact tR cl
 .refine tE (fun h4=>?_) (fun h4=>?_)
  .exact tR cl
  .refine tE (fun h5=>?_) (fun h5=>?_)
   .refine tB (Zrb) (fun x6 h7=>?_)
    have eh7_1:=h7.2
    have q8:x6.length<=562949953421312:=h7.1
    refine tB (tK (by first | (simp only [List.length_append,List.length_cons,List.length_nil];omega) | omega)) (fun x9 h10=>?_)
    exact tR cl
   .refine tE (fun h11=>?_) (fun h11=>?_)
    .refine tB (Zrb) (fun x12 h13=>?_)
     have eh13_1:=h13.2
     have q14:x12.length<=562949953421312:=h13.1
     refine tB (tK (by first | (simp only [List.length_append,List.length_cons,List.length_nil];omega) | omega)) (fun x15 h16=>?_)
     exact tR cl
    .refine tE (fun h17=>?_) (fun h17=>?_)
     .have q18:a0.Sub.length<=281474976710656:=oa0.1
      refine tB (tK (by first | (simp only [List.length_append,List.length_cons,List.length_nil];omega) | omega)) (fun x19 h20=>?_)
      exact tR cl
     .refine tE (fun h21=>?_) (fun h21=>?_)
      .have q22:a0.Sub.length<=281474976710656:=oa0.1
       refine tB (tK (by first | (simp only [List.length_append,List.length_cons,List.length_nil];omega) | omega)) (fun x23 h24=>?_)
       exact tR cl
      .refine tE (fun h25=>?_) (fun h25=>?_)
       .refine tB (Zaep) (fun x26 h27=>?_)
        have q28:x26.length<=562949953421312:=h27
        refine tB (tK (by first | (simp only [List.length_append,List.length_cons,List.length_nil];omega) | omega)) (fun x29 h30=>?_)
        exact tR cl
       .refine tE (fun h31=>?_) (fun h31=>?_)
        .refine tB (Zaep) (fun x32 h33=>?_)
         have q34:x32.length<=562949953421312:=h33
         refine tB (tK (by first | (simp only [List.length_append,List.length_cons,List.length_nil];omega) | omega)) (fun x35 h36=>?_)
         exact tR cl
        .refine tE (fun h37=>?_) (fun h37=>?_)
         .refine tB (Zaeq) (fun x38 h39=>?_)
          have q40:x38.length<=562949953421312:=h39
          refine tB (tK (by first | (simp only [List.length_append,List.length_cons,List.length_nil];omega) | omega)) (fun x41 h42=>?_)
          exact tR cl
         .refine tE (fun h43=>?_) (fun h43=>?_)
          .refine tB (Zaeq) (fun x44 h45=>?_)
           have q46:x44.length<=562949953421312:=h45
           refine tB (tK (by first | (simp only [List.length_append,List.length_cons,List.length_nil];omega) | omega)) (fun x47 h48=>?_)
           exact tR cl
          .refine tE (fun h49=>?_) (fun h49=>?_)
           .exact tR cl
           .refine tE (fun h50=>?_) (fun h50=>?_)
            .refine tB (Zaxk oa0.2) (fun x51 h52=>?_)
             have eh52_0:=h52
             refine tB (tK (by first | (simp only [List.length_append,List.length_cons,List.length_nil];omega) | omega)) (fun x53 h54=>?_)
             refine tB (tK (by first | (simp only [List.length_append,List.length_cons,List.length_nil];omega) | omega)) (fun x55 h56=>?_)
             exact tR cl
            .refine tE (fun h57=>?_) (fun h57=>?_)
             .refine tB (Zm1) (fun x58 h59=>?_)
              have q60:x58.length<=100:=h59
              refine tB (tK (by first | (simp only [List.length_append,List.length_cons,List.length_nil];omega) | omega)) (fun x61 h62=>?_)
              refine tB (tK (by first | (simp only [List.length_append,List.length_cons,List.length_nil];omega) | omega)) (fun x63 h64=>?_)
              refine tB (Zm1) (fun x65 h66=>?_)
              have q67:x65.length<=100:=h66
              refine tB (tK (by first | (simp only [List.length_append,List.length_cons,List.length_nil];omega) | omega)) (fun x68 h69=>?_)
              exact tR cl
             .refine tE (fun h70=>?_) (fun h70=>?_)
              .refine tB (Zm1) (fun x71 h72=>?_)
               have q73:x71.length<=100:=h72
               refine tB (tK (by first | (simp only [List.length_append,List.length_cons,List.length_nil];omega) | omega)) (fun x74 h75=>?_)
               refine tB (tK (by first | (simp only [List.length_append,List.length_cons,List.length_nil];omega) | omega)) (fun x76 h77=>?_)
               refine tB (Zm1) (fun x78 h79=>?_)
               have q80:x78.length<=100:=h79
               refine tB (tK (by first | (simp only [List.length_append,List.length_cons,List.length_nil];omega) | omega)) (fun x81 h82=>?_)
               exact tR cl
              .exact tR cl
def Zaj9:Zme->Prop
 | .L0 v0 v3 v4=>((SzL 176 Zu) v0)/\(0<=v4)/\(v3.length<=576460752303423488*v4.toNat)/\(v0.length<=6)/\(v4<=v0.length)
def Zou:Zme->M6
 | .L0 v0 v3 v4=>(1,((v0.length:Int) - v4).toNat,1000000,0,0,0)
theorem Zs5{a0:List Zi}(oa0:(SzL 176 Zu) a0):Tot (Z2g a0) (fun r=>(r.length<=4611686018427387904)):=by
 unfold Z2g
 refine tX (Inv:=Zaj9) (μ:=Zou) (m:=(1000000,0,0,0,0,0)) ?_ ?_
 .have lb_a0:=oa0.1
  dsimp only [Z79,LT.den]
  have q1:=oa0.1
  refine tE (fun h2=>?_) (fun h2=>?_)
  .exact tR cl
  .refine tD (fun h3=>?_) (fun h3=>?_)
   .exact tR cl
   .exact tL ⟨oa0,cl,cl,cl,cl⟩ (by unfold Zou lt6;dsimp only;omega)
 .intro s hs
  cases s with
  | L0 v0 v3 v4=>
   obtain⟨ov0,cv4,i0,i1,i2⟩:=hs
   have lb_v0:=ov0.1
   show Tot (Zuf v0 v3 v4).den _
   dsimp only [Zuf,LT.den]
   have q1:=ov0.1
   refine tD (fun h2=>?_) (fun h2=>?_)
   .refine tB (tI (by omega) (by omega)) (fun x3 h4=>?_)
    have oh4:Zu x3:=ov0.2 x3 h4.1
    refine tB (Zan2 oh4) (fun x5 h6=>?_)
    refine tO (fun h7=>?_) (fun h7=>?_)
    .exact tR cl
    .refine tD (fun h8=>?_) (fun h8=>?_)
     .refine tB (tK (by first | (simp only [List.length_append,List.length_cons,List.length_nil];omega) | omega)) (fun x9 h10=>?_)
      refine tB (Zaer oh4) (fun x11 h12=>?_)
      have eh12_0:=h12
      refine tB (tK (by first | (simp only [List.length_append,List.length_cons,List.length_nil];omega) | omega)) (fun x13 h14=>?_)
      refine qw (v4+1) fun q15 q16=>?_
      exact tL ⟨ov0,cl,cl,cl,cl⟩ (by unfold Zou lt6;dsimp only;omega)
     .refine tB (Zaer oh4) (fun x17 h18=>?_)
      have eh18_0:=h18
      refine tB (tK (by first | (simp only [List.length_append,List.length_cons,List.length_nil];omega) | omega)) (fun x19 h20=>?_)
      refine qw (v4+1) fun q21 q22=>?_
      exact tL ⟨ov0,cl,cl,cl,cl⟩ (by unfold Zou lt6;dsimp only;omega)
   .exact tR cl
theorem Zase{a0:Zic}:Tot (Zac5 a0) (fun r=>True):=by
 unfold Zac5
 refine tZ ?_
 dsimp only [Zagq,LT.den]
 refine tB (Zaao a0.Mana) (fun x1 h2=>?_)
 have eh2_0:=h2.1
 have eh2_1:=h2.2.1
 have eh2_2:=h2.2.2
 refine tF (fun h3=>?_) (fun h3=>?_)
 .have h3_0:=eh2_0 h3
  have h3_1:=eh2_1 h3
  refine tE (fun h4=>?_) (fun h4=>?_)
  .refine tD (fun h5=>?_) (fun h5=>?_)
   .exact tR trivial
   .exact tR trivial
  .exact tR trivial
 .exact tR trivial
theorem Zaes{a0:Int}:Tot (Zai2 a0) (fun r=>(SzN r)):=by
 unfold Zai2
 refine tZ ?_
 dsimp only [Zal9,LT.den]
 refine tE (fun h1=>?_) (fun h1=>?_)
 .exact tR (by unfold SzN;first | omega | (simp only [List.length_append,List.length_cons,List.length_nil];omega))
 .refine tE (fun h2=>?_) (fun h2=>?_)
  .exact tR (by unfold SzN;first | omega | (simp only [List.length_append,List.length_cons,List.length_nil];omega))
  .refine tE (fun h3=>?_) (fun h3=>?_)
   .exact tR (by unfold SzN;first | omega | (simp only [List.length_append,List.length_cons,List.length_nil];omega))
   .refine tE (fun h4=>?_) (fun h4=>?_)
    .exact tR (by unfold SzN;first | omega | (simp only [List.length_append,List.length_cons,List.length_nil];omega))
    .refine tE (fun h5=>?_) (fun h5=>?_)
     .exact tR (by unfold SzN;first | omega | (simp only [List.length_append,List.length_cons,List.length_nil];omega))
     .refine tE (fun h6=>?_) (fun h6=>?_)
      .exact tR (by unfold SzN;first | omega | (simp only [List.length_append,List.length_cons,List.length_nil];omega))
      .refine tE (fun h7=>?_) (fun h7=>?_)
       .exact tR (by unfold SzN;first | omega | (simp only [List.length_append,List.length_cons,List.length_nil];omega))
       .refine tE (fun h8=>?_) (fun h8=>?_)
        .exact tR (by unfold SzN;first | omega | (simp only [List.length_append,List.length_cons,List.length_nil];omega))
        .refine tE (fun h9=>?_) (fun h9=>?_)
         .exact tR (by unfold SzN;first | omega | (simp only [List.length_append,List.length_cons,List.length_nil];omega))
         .refine tE (fun h10=>?_) (fun h10=>?_)
          .exact tR (by unfold SzN;first | omega | (simp only [List.length_append,List.length_cons,List.length_nil];omega))
          .refine tE (fun h11=>?_) (fun h11=>?_)
           .exact tR (by unfold SzN;first | omega | (simp only [List.length_append,List.length_cons,List.length_nil];omega))
           .refine tE (fun h12=>?_) (fun h12=>?_)
            .exact tR (by unfold SzN;first | omega | (simp only [List.length_append,List.length_cons,List.length_nil];omega))
            .refine tE (fun h13=>?_) (fun h13=>?_)
             .exact tR (by unfold SzN;first | omega | (simp only [List.length_append,List.length_cons,List.length_nil];omega))
             .refine tE (fun h14=>?_) (fun h14=>?_)
              .exact tR (by unfold SzN;first | omega | (simp only [List.length_append,List.length_cons,List.length_nil];omega))
              .exact tR (SzN.nil)
theorem Z85{a0:Int}:Tot (Z90 a0) (fun r=>True):=by
 unfold Z90
 refine tZ ?_
 dsimp only [Zac6,LT.den]
 refine tE (fun h1=>?_) (fun h1=>?_)
 .exact tR trivial
 .refine tE (fun h2=>?_) (fun h2=>?_)
  .exact tR trivial
  .refine tE (fun h3=>?_) (fun h3=>?_)
   .exact tR trivial
   .refine tE (fun h4=>?_) (fun h4=>?_)
    .exact tR trivial
    .refine tE (fun h5=>?_) (fun h5=>?_)
     .exact tR trivial
     .exact tR trivial
theorem Zaf1{a0:Int}:Tot (Zzl a0) (fun r=>True):=by
 unfold Zzl
 refine tZ ?_
 dsimp only [Z43,LT.den]
 refine tB (Zaes) (fun x1 h2=>?_)
 refine tO (fun h3=>?_) (fun h3=>?_)
 .refine tB (Z85) (fun x4 h5=>?_)
  refine tO (fun h6=>?_) (fun h6=>?_)
  .exact tR trivial
  .exact tR trivial
 .exact tR trivial
def Zaas:Z2h->Prop
 | .L0 E0=>(Zqr E0)/\True
def Zarr:Z2h->M6
 | .L0 E0=>(0,0,0,0,0,0)
theorem Z0b{E0:Zc3}(h:Zaas (.L0 E0)):Tot (Zyd E0).den (Nx Zaas Zarr (0,0,0,0,0,0) (fun r=>True)):=by
 obtain⟨O0,_⟩:=h
 dsimp only [Zyd,LT.den]
 refine tB (Zaf1) (fun x1 h2=>?_)
 refine tO (fun h3=>?_) (fun h3=>?_)
 .exact tR trivial
 .refine tE (fun h4=>?_) (fun h4=>?_)
  .refine tB (Zg5 O0) (fun x5 h6=>?_)
   have eh6_0:=h6.1
   have eh6_1:=h6.2
   refine tF (fun h7=>?_) (fun h7=>?_)
   .have h7_0:=eh6_0 h7
    exact tR trivial
   .exact tR trivial
  .refine tB (Zg5 O0) (fun x8 h9=>?_)
   have eh9_0:=h9.1
   have eh9_1:=h9.2
   refine tF (fun h10=>?_) (fun h10=>?_)
   .have h10_0:=eh9_0 h10
    exact tR trivial
   .exact tR trivial
theorem Za2h{a0:Zc3}(oa0:Zqr a0):Tot (Zavh a0) (fun r=>True):=by
 unfold Zavh
 refine tX (Inv:=Zaas) (μ:=Zarr) (m:=(1000000,0,0,0,0,0)) ?_ ?_
 .dsimp only [Zavf,LT.den]
  refine tB (Zaes) (fun x1 h2=>?_)
  refine tF (fun h3=>?_) (fun h3=>?_)
  .exact tR trivial
  .refine tD (fun h4=>?_) (fun h4=>?_)
   .exact tR trivial
   .refine tD (fun h5=>?_) (fun h5=>?_)
    .exact tR trivial
    .refine tB (Z85) (fun x6 h7=>?_)
     refine tO (fun h8=>?_) (fun h8=>?_)
     .refine tN (fun h9=>?_) (fun h9=>?_)
      .exact tR trivial
      .exact tJ (Z0b ⟨oa0,trivial⟩)
     .exact tJ (Z0b ⟨oa0,trivial⟩)
 .intro s hs
  cases s with
  | L0 _=>exact Z0b hs
theorem Z0c{a0:Zc}(oa0:Z7 a0):Tot (Zac8 a0) (fun r=>True):=by
 unfold Zac8
 refine tZ ?_
 dsimp only [Zagt,LT.den]
 refine tB (Zg5 oa0) (fun x1 h2=>?_)
 have eh2_0:=h2.1
 have eh2_1:=h2.2
 refine tF (fun h3=>?_) (fun h3=>?_)
 .have h3_0:=eh2_0 h3
  exact tR trivial
 .exact tR trivial
theorem Zasf{a0:Za7}(oa0:Zff a0):Tot (Zac9 a0) (fun r=>True):=by
 unfold Zac9
 refine tZ ?_
 dsimp only [Zagv,LT.den]
 refine tN (fun h1=>?_) (fun h1=>?_)
 .exact tR trivial
 .refine tB (Z0c oa0) (fun x2 h3=>?_)
  refine tO (fun h4=>?_) (fun h4=>?_)
  .exact tR trivial
  .refine tE (fun h5=>?_) (fun h5=>?_)
   .refine tE (fun h6=>?_) (fun h6=>?_)
    .refine tE (fun h7=>?_) (fun h7=>?_)
     .refine tE (fun h8=>?_) (fun h8=>?_)
      .exact tR trivial
      .refine tE (fun h9=>?_) (fun h9=>?_)
       .exact tR trivial
       .exact tR trivial
     .exact tR trivial
    .exact tR trivial
   .refine tE (fun h10=>?_) (fun h10=>?_)
    .refine tE (fun h11=>?_) (fun h11=>?_)
     .refine tE (fun h12=>?_) (fun h12=>?_)
      .exact tR trivial
      .exact tR trivial
     .exact tR trivial
    .refine tE (fun h13=>?_) (fun h13=>?_)
     .refine tE (fun h14=>?_) (fun h14=>?_)
      .refine tD (fun h15=>?_) (fun h15=>?_)
       .refine tD (fun h16=>?_) (fun h16=>?_)
        .refine tD (fun h17=>?_) (fun h17=>?_)
         .exact tR trivial
         .exact tR trivial
        .exact tR trivial
       .exact tR trivial
      .exact tR trivial
     .exact tR trivial
theorem Zasg{a0:Za7}(oa0:Zff a0):Tot (Zada a0) (fun r=>True):=by
 unfold Zada
 refine tZ ?_
 dsimp only [Zagx,LT.den]
 refine tN (fun h1=>?_) (fun h1=>?_)
 .exact tR trivial
 .refine tN (fun h2=>?_) (fun h2=>?_)
  .exact tR trivial
  .refine tE (fun h3=>?_) (fun h3=>?_)
   .refine tD (fun h4=>?_) (fun h4=>?_)
    .exact tR trivial
    .exact tR trivial
   .refine tE (fun h5=>?_) (fun h5=>?_)
    .refine tD (fun h6=>?_) (fun h6=>?_)
     .exact tR trivial
     .exact tR trivial
    .exact tR trivial
def Zqs:Zsy->Prop
 | .L0 E0 v3 v4=>(Zff E0)/\True
 | .L1 E0 v3=>(Zff E0)/\True
 | .L2 E0 v3 v4 v109=>(Zff E0)/\True
def Z5p:Zsy->M6
 | .L0 E0 v3 v4=>(0,0,0,0,0,0)
 | .L1 E0 v3=>(0,0,0,0,0,0)
 | .L2 E0 v3 v4 v109=>(0,0,0,0,0,0)
theorem Zsj{E0:Za7}{v3:Bool}{v4:Bool}{v109:Bool}(h:(Zff E0)/\True):Tot (Ztc E0 v3 v4 v109).den (Nx Zqs Z5p (0,0,0,0,0,0) (fun r=>True)):=by
 obtain⟨O0,_⟩:=h
 dsimp only [Ztc,LT.den]
 refine tF (fun h1=>?_) (fun h1=>?_)
 .refine tF (fun h2=>?_) (fun h2=>?_)
  .refine tD (fun h3=>?_) (fun h3=>?_)
   .refine tD (fun h4=>?_) (fun h4=>?_)
    .exact tR trivial
    .exact tR trivial
   .exact tR trivial
  .exact tR trivial
 .exact tR trivial
theorem Zob{E0:Za7}{v3:Bool}(h:Zqs (.L1 E0 v3)):Tot (Zpe E0 v3).den (Nx Zqs Z5p (0,0,0,0,0,0) (fun r=>True)):=by
 obtain⟨O0,_⟩:=h
 dsimp only [Zpe,LT.den]
 refine tE (fun h1=>?_) (fun h1=>?_)
 .refine tB (Z0c O0) (fun x2 h3=>?_)
  refine tF (fun h4=>?_) (fun h4=>?_)
  .exact tR trivial
  .refine tE (fun h5=>?_) (fun h5=>?_)
   .exact tR trivial
   .refine tE (fun h6=>?_) (fun h6=>?_)
    .exact tR trivial
    .exact tR trivial
 .refine tE (fun h7=>?_) (fun h7=>?_)
  .exact tR trivial
  .refine tE (fun h8=>?_) (fun h8=>?_)
   .exact tR trivial
   .exact tR trivial
theorem Zsk{E0:Za7}{v3:Bool}{v4:Bool}(h:Zqs (.L0 E0 v3 v4)):Tot (Ztd E0 v3 v4).den (Nx Zqs Z5p (0,0,0,0,0,0) (fun r=>True)):=by
 obtain⟨O0,_⟩:=h
 dsimp only [Ztd,LT.den]
 refine tE (fun h1=>?_) (fun h1=>?_)
 .refine tN (fun h2=>?_) (fun h2=>?_)
  .refine tN (fun h3=>?_) (fun h3=>?_)
   .refine tN (fun h4=>?_) (fun h4=>?_)
    .refine tN (fun h5=>?_) (fun h5=>?_)
     .exact tR trivial
     .exact tJ (Zob ⟨O0,trivial⟩)
    .exact tJ (Zob ⟨O0,trivial⟩)
   .exact tJ (Zob ⟨O0,trivial⟩)
  .exact tJ (Zob ⟨O0,trivial⟩)
 .refine tE (fun h6=>?_) (fun h6=>?_)
  .refine tF (fun h7=>?_) (fun h7=>?_)
   .refine tE (fun h8=>?_) (fun h8=>?_)
    .refine tB (Z0c O0) (fun x9 h10=>?_)
     exact tR trivial
    .exact tR trivial
   .exact tR trivial
  .refine tE (fun h11=>?_) (fun h11=>?_)
   .refine tE (fun h12=>?_) (fun h12=>?_)
    .refine tD (fun h13=>?_) (fun h13=>?_)
     .refine tD (fun h14=>?_) (fun h14=>?_)
      .exact tR trivial
      .exact tR trivial
     .exact tR trivial
    .refine tE (fun h15=>?_) (fun h15=>?_)
     .refine tD (fun h16=>?_) (fun h16=>?_)
      .refine tD (fun h17=>?_) (fun h17=>?_)
       .exact tR trivial
       .exact tR trivial
      .exact tR trivial
     .exact tR trivial
   .refine tE (fun h18=>?_) (fun h18=>?_)
    .exact tJ (Zsj ⟨O0,trivial⟩)
    .refine tE (fun h19=>?_) (fun h19=>?_)
     .exact tJ (Zsj ⟨O0,trivial⟩)
     .exact tJ (Zsj ⟨O0,trivial⟩)
theorem Za2i{a0:Za7}(oa0:Zff a0):Tot (Zavm a0) (fun r=>True):=by
 unfold Zavm
 refine tX (Inv:=Zqs) (μ:=Z5p) (m:=(1000000,0,0,0,0,0)) ?_ ?_
 .dsimp only [Zavk,LT.den]
  refine tE (fun h1=>?_) (fun h1=>?_)
  .refine tB (Zasf oa0) (fun x2 h3=>?_)
   exact tR trivial
  .refine tB (Zasg oa0) (fun x4 h5=>?_)
   refine tO (fun h6=>?_) (fun h6=>?_)
   .exact tR trivial
   .refine tE (fun h7=>?_) (fun h7=>?_)
    .exact tJ (Zsk ⟨oa0,trivial⟩)
    .refine tE (fun h8=>?_) (fun h8=>?_)
     .exact tJ (Zsk ⟨oa0,trivial⟩)
     .exact tJ (Zsk ⟨oa0,trivial⟩)
 .intro s hs
  cases s with
  | L0 _ _ _=>exact Zsk hs
  | L1 _ _=>exact Zob hs
  | L2 _ _ _ _=>exact Zsj hs
theorem Zaxl{a0:Zba}(oa0:Ze6 a0):Tot (Zai4 a0) (fun r=>True):=by
 unfold Zai4
 refine tZ ?_
 dsimp only [Zamb,LT.den]
 refine tO (fun h1=>?_) (fun h1=>?_)
 .refine tF (fun h2=>?_) (fun h2=>?_)
  .exact tR trivial
  .exact tR trivial
 .refine tB (Zg5 oa0) (fun x3 h4=>?_)
  have eh4_0:=h4.1
  have eh4_1:=h4.2
  refine tF (fun h5=>?_) (fun h5=>?_)
  .have h5_0:=eh4_0 h5
   refine tE (fun h6=>?_) (fun h6=>?_)
   .exact tR trivial
   .refine tE (fun h7=>?_) (fun h7=>?_)
    .exact tR trivial
    .exact tR trivial
  .exact tR trivial
def Zash:Zrn->Prop
 | .L0 v0 v3=>((SzL 144 Ze6) v0)/\(0<=v3)
def Z3x:Zrn->M6
 | .L0 v0 v3=>(1,((v0.length:Int) - v3).toNat,1000000,0,0,0)
theorem Zasi{a0:List Zba}(oa0:(SzL 144 Ze6) a0):Tot (Zadb a0) (fun r=>True):=by
 unfold Zadb
 refine tX (Inv:=Zash) (μ:=Z3x) (m:=(1000000,0,0,0,0,0)) ?_ ?_
 .have lb_a0:=oa0.1
  dsimp only [Zagz,LT.den]
  exact tL ⟨oa0,cl⟩ (by unfold Z3x lt6;dsimp only;omega)
 .intro s hs
  cases s with
  | L0 v0 v3=>
   obtain⟨ov0,cv3⟩:=hs
   have lb_v0:=ov0.1
   show Tot (Z2j v0 v3).den _
   dsimp only [Z2j,LT.den]
   have q1:=ov0.1
   refine tD (fun h2=>?_) (fun h2=>?_)
   .refine tB (tI (by omega) (by omega)) (fun x3 h4=>?_)
    have oh4:Ze6 x3:=ov0.2 x3 h4.1
    refine tB (Zaxl oh4) (fun x5 h6=>?_)
    refine tO (fun h7=>?_) (fun h7=>?_)
    .exact tR trivial
    .refine qw (v3+1) fun q8 q9=>?_
     exact tL ⟨ov0,cl⟩ (by unfold Z3x lt6;dsimp only;omega)
   .exact tR trivial
theorem Zaxm{a0:Int}:Tot (Zai5 a0) (fun r=>(SzN r)):=by
 unfold Zai5
 refine tZ ?_
 dsimp only [Zamd,LT.den]
 refine tD (fun h1=>?_) (fun h1=>?_)
 .exact tR (SzN.nil)
 .refine tD (fun h2=>?_) (fun h2=>?_)
  .exact tR (SzN.nil)
  .have q3:(SzL 16 SzN) ([([100,97,109,97,103,101]:List UInt8),([100,101,115,116,114,111,121]:List UInt8),([109,111,118,101]:List UInt8),([100,114,97,119]:List UInt8),([100,105,115,99,97,114,100]:List UInt8),([103,97,105,110]:List UInt8),([108,111,115,101]:List UInt8),([116,97,112]:List UInt8),([117,110,116,97,112]:List UInt8),([112,117,116]:List UInt8),([116,97,107,101]:List UInt8),([99,114,101,97,116,101]:List UInt8),([109,111,100]:List UInt8),([109,97,110,97]:List UInt8),([99,111,117,110,116,101,114]:List UInt8),([99,111,112,121]:List UInt8),([98,101,99,111,109,101]:List UInt8),([115,97,99,114,105,102,105,99,101]:List UInt8),([109,105,108,108]:List UInt8),([115,99,114,121]:List UInt8),([115,101,97,114,99,104]:List UInt8),([115,104,105,101,108,100]:List UInt8),([116,117,114,110]:List UInt8),([119,105,110]:List UInt8),([100,101,102,101,97,116]:List UInt8),([118,101,110,111,109]:List UInt8)]:List (List UInt8)):=⟨by simp only [List.length_cons,List.length_nil];omega,mem_cons' (by unfold SzN;first | omega | (simp only [List.length_append,List.length_cons,List.length_nil];omega)) (mem_cons' (by unfold SzN;first | omega | (simp only [List.length_append,List.length_cons,List.length_nil];omega)) (mem_cons' (by unfold SzN;first | omega | (simp only [List.length_append,List.length_cons,List.length_nil];omega)) (mem_cons' (by unfold SzN;first | omega | (simp only [List.length_append,List.length_cons,List.length_nil];omega)) (mem_cons' (by unfold SzN;first | omega | (simp only [List.length_append,List.length_cons,List.length_nil];omega)) (mem_cons' (by unfold SzN;first | omega | (simp only [List.length_append,List.length_cons,List.length_nil];omega)) (mem_cons' (by unfold SzN;first | omega | (simp only [List.length_append,List.length_cons,List.length_nil];omega)) (mem_cons' (by unfold SzN;first | omega | (simp only [List.length_append,List.length_cons,List.length_nil];omega)) (mem_cons' (by unfold SzN;first | omega | (simp only [List.length_append,List.length_cons,List.length_nil];omega)) (mem_cons' (by unfold SzN;first | omega | (simp only [List.length_append,List.length_cons,List.length_nil];omega)) (mem_cons' (by unfold SzN;first | omega | (simp only [List.length_append,List.length_cons,List.length_nil];omega)) (mem_cons' (by unfold SzN;first | omega | (simp only [List.length_append,List.length_cons,List.length_nil];omega)) (mem_cons' (by unfold SzN;first | omega | (simp only [List.length_append,List.length_cons,List.length_nil];omega)) (mem_cons' (by unfold SzN;first | omega | (simp only [List.length_append,List.length_cons,List.length_nil];omega)) (mem_cons' (by unfold SzN;first | omega | (simp only [List.length_append,List.length_cons,List.length_nil];omega)) (mem_cons' (by unfold SzN;first | omega | (simp only [List.length_append,List.length_cons,List.length_nil];omega)) (mem_cons' (by unfold SzN;first | omega | (simp only [List.length_append,List.length_cons,List.length_nil];omega)) (mem_cons' (by unfold SzN;first | omega | (simp only [List.length_append,List.length_cons,List.length_nil];omega)) (mem_cons' (by unfold SzN;first | omega | (simp only [List.length_append,List.length_cons,List.length_nil];omega)) (mem_cons' (by unfold SzN;first | omega | (simp only [List.length_append,List.length_cons,List.length_nil];omega)) (mem_cons' (by unfold SzN;first | omega | (simp only [List.length_append,List.length_cons,List.length_nil];omega)) (mem_cons' (by unfold SzN;first | omega | (simp only [List.length_append,List.length_cons,List.length_nil];omega)) (mem_cons' (by unfold SzN;first | omega | (simp only [List.length_append,List.length_cons,List.length_nil];omega)) (mem_cons' (by unfold SzN;first | omega | (simp only [List.length_append,List.length_cons,List.length_nil];omega)) (mem_cons' (by unfold SzN;first | omega | (simp only [List.length_append,List.length_cons,List.length_nil];omega)) (mem_cons' (by unfold SzN;first | omega | (simp only [List.length_append,List.length_cons,List.length_nil];omega)) (fun _ h=>by cases h))))))))))))))))))))))))))⟩
   have lq3:([([100,97,109,97,103,101]:List UInt8),([100,101,115,116,114,111,121]:List UInt8),([109,111,118,101]:List UInt8),([100,114,97,119]:List UInt8),([100,105,115,99,97,114,100]:List UInt8),([103,97,105,110]:List UInt8),([108,111,115,101]:List UInt8),([116,97,112]:List UInt8),([117,110,116,97,112]:List UInt8),([112,117,116]:List UInt8),([116,97,107,101]:List UInt8),([99,114,101,97,116,101]:List UInt8),([109,111,100]:List UInt8),([109,97,110,97]:List UInt8),([99,111,117,110,116,101,114]:List UInt8),([99,111,112,121]:List UInt8),([98,101,99,111,109,101]:List UInt8),([115,97,99,114,105,102,105,99,101]:List UInt8),([109,105,108,108]:List UInt8),([115,99,114,121]:List UInt8),([115,101,97,114,99,104]:List UInt8),([115,104,105,101,108,100]:List UInt8),([116,117,114,110]:List UInt8),([119,105,110]:List UInt8),([100,101,102,101,97,116]:List UInt8),([118,101,110,111,109]:List UInt8)]:List (List UInt8)).length=26:=rfl
   refine qw (a0 - 1) fun q4 q5=>?_
   refine tB (tI (by omega) (by omega)) (fun x6 h7=>?_)
   have oh7:SzN x6:=q3.2 x6 h7.1
   exact tR oh7
def Z3y:Zqf->Prop
 | .L0 v3 v4=>True
 | .L1 v3 v14=>True
def Z7i:Zqf->M6
 | .L0 v3 v4=>(0,0,0,0,0,0)
 | .L1 v3 v14=>(0,0,0,0,0,0)
theorem Zvo{v3:Int}{v14:Bool}(h:True):Tot (Zro v3 v14).den (Nx Z3y Z7i (0,0,0,0,0,0) (fun r=>(SzN r))):=by
 dsimp only [Zro,LT.den]
 refine tF (fun h1=>?_) (fun h1=>?_)
 .exact tR (by unfold SzN;first | omega | (simp only [List.length_append,List.length_cons,List.length_nil];omega))
 .refine tE (fun h2=>?_) (fun h2=>?_)
  .exact tR (by unfold SzN;first | omega | (simp only [List.length_append,List.length_cons,List.length_nil];omega))
  .refine tE (fun h3=>?_) (fun h3=>?_)
   .exact tR (by unfold SzN;first | omega | (simp only [List.length_append,List.length_cons,List.length_nil];omega))
   .refine tE (fun h4=>?_) (fun h4=>?_)
    .exact tR (by unfold SzN;first | omega | (simp only [List.length_append,List.length_cons,List.length_nil];omega))
    .refine tE (fun h5=>?_) (fun h5=>?_)
     .exact tR (by unfold SzN;first | omega | (simp only [List.length_append,List.length_cons,List.length_nil];omega))
     .refine tE (fun h6=>?_) (fun h6=>?_)
      .exact tR (by unfold SzN;first | omega | (simp only [List.length_append,List.length_cons,List.length_nil];omega))
      .refine tE (fun h7=>?_) (fun h7=>?_)
       .exact tR (by unfold SzN;first | omega | (simp only [List.length_append,List.length_cons,List.length_nil];omega))
       .refine tE (fun h8=>?_) (fun h8=>?_)
        .exact tR (SzN.nil)
        .refine tE (fun h9=>?_) (fun h9=>?_)
         .exact tR (SzN.nil)
         .exact tR (by unfold SzN;first | omega | (simp only [List.length_append,List.length_cons,List.length_nil];omega))
theorem Zfw{v3:Int}{v4:Bool}(h:True):Tot (Zgx v3 v4).den (Nx Z3y Z7i (0,0,0,0,0,0) (fun r=>(SzN r))):=by
 dsimp only [Zgx,LT.den]
 refine tF (fun h1=>?_) (fun h1=>?_)
 .exact tR (by unfold SzN;first | omega | (simp only [List.length_append,List.length_cons,List.length_nil];omega))
 .refine tE (fun h2=>?_) (fun h2=>?_)
  .exact tR (by unfold SzN;first | omega | (simp only [List.length_append,List.length_cons,List.length_nil];omega))
  .refine tE (fun h3=>?_) (fun h3=>?_)
   .exact tJ (Zvo trivial)
   .exact tJ (Zvo trivial)
theorem Zaxn{a0:Int}:Tot (Zai6 a0) (fun r=>(SzN r)):=by
 unfold Zai6
 refine tX (Inv:=Z3y) (μ:=Z7i) (m:=(1000000,0,0,0,0,0)) ?_ ?_
 .dsimp only [Zamf,LT.den]
  refine tE (fun h1=>?_) (fun h1=>?_)
  .exact tJ (Zfw trivial)
  .refine tE (fun h2=>?_) (fun h2=>?_)
   .exact tJ (Zfw trivial)
   .refine tE (fun h3=>?_) (fun h3=>?_)
    .exact tJ (Zfw trivial)
    .refine tE (fun h4=>?_) (fun h4=>?_)
     .exact tJ (Zfw trivial)
     .refine tE (fun h5=>?_) (fun h5=>?_)
      .exact tJ (Zfw trivial)
      .refine tE (fun h6=>?_) (fun h6=>?_)
       .exact tJ (Zfw trivial)
       .exact tJ (Zfw trivial)
 .intro s hs
  cases s with
  | L0 _ _=>exact Zfw hs
  | L1 _ _=>exact Zvo hs
def Zaxo:Zuh->Prop
 | .L0 v1 v5 v6=>(SzT v5)/\(0<=v6)
def Z7j:Zuh->M6
 | .L0 v1 v5 v6=>(1,((v5.length:Int) - v6).toNat,1000000,0,0,0)
theorem Zik{a0:Int}{a1:Int}:Tot (Zai7 a0 a1) (fun r=>True):=by
 unfold Zai7
 refine tX (Inv:=Zaxo) (μ:=Z7j) (m:=(1000000,0,0,0,0,0)) ?_ ?_
 .dsimp only [Zamh,LT.den]
  refine tB (Zaxn) (fun x1 h2=>?_)
  exact tL ⟨SzN.t h2,cl⟩ (by unfold Z7j lt6;dsimp only;omega)
 .intro s hs
  cases s with
  | L0 v1 v5 v6=>
   obtain⟨ov5,cv6⟩:=hs
   have lb_v5:v5.length<=562949953421312:=ov5
   show Tot (Z6h v1 v5 v6).den _
   dsimp only [Z6h,LT.den]
   have q1:v5.length<=562949953421312:=ov5
   refine tD (fun h2=>?_) (fun h2=>?_)
   .refine tB (tI (by omega) (by omega)) (fun x3 h4=>?_)
    refine tE (fun h5=>?_) (fun h5=>?_)
    .exact tR trivial
    .refine qw (v6+1) fun q6 q7=>?_
     exact tL ⟨ov5,cl⟩ (by unfold Z7j lt6;dsimp only;omega)
   .exact tR trivial
theorem Zaka{a0:Int}:Tot (Z2k a0) (fun r=>True):=by
 unfold Z2k
 refine tZ ?_
 dsimp only [Z8b,LT.den]
 refine tE (fun h1=>?_) (fun h1=>?_)
 .exact tR trivial
 .exact tR trivial
def Zvp:Zwl->Prop
 | .L0 v1 E0=>(Zvi E0)/\True
 | .L1 E0=>(Zvi E0)/\True
def Zaet:Zwl->M6
 | .L0 v1 E0=>(0,0,0,0,0,0)
 | .L1 E0=>(0,0,0,0,0,0)
theorem Z0d{E0:Zhb}(h:Zvp (.L1 E0)):Tot (Zye E0).den (Nx Zvp Zaet (0,0,0,0,0,0) (fun r=>True)):=by
 obtain⟨O0,_⟩:=h
 dsimp only [Zye,LT.den]
 refine tE (fun h1=>?_) (fun h1=>?_)
 .refine tB (Zg5 O0) (fun x2 h3=>?_)
  have eh3_0:=h3.1
  have eh3_1:=h3.2
  exact tR trivial
 .exact tR trivial
theorem Z0e{v1:Int}{E0:Zhb}(h:Zvp (.L0 v1 E0)):Tot (Zyf v1 E0).den (Nx Zvp Zaet (0,0,0,0,0,0) (fun r=>True)):=by
 obtain⟨O0,_⟩:=h
 dsimp only [Zyf,LT.den]
 refine tD (fun h1=>?_) (fun h1=>?_)
 .exact tR trivial
 .refine tD (fun h2=>?_) (fun h2=>?_)
  .exact tR trivial
  .refine tB (Zaka) (fun x3 h4=>?_)
   refine tF (fun h5=>?_) (fun h5=>?_)
   .refine tD (fun h6=>?_) (fun h6=>?_)
    .exact tR trivial
    .refine tD (fun h7=>?_) (fun h7=>?_)
     .exact tR trivial
     .exact tJ (Z0d ⟨O0,trivial⟩)
   .refine tN (fun h8=>?_) (fun h8=>?_)
    .exact tR trivial
    .exact tJ (Z0d ⟨O0,trivial⟩)
theorem Za2j{a0:Zhb}{a1:Int}(oa0:Zvi a0):Tot (Zavq a0 a1) (fun r=>True):=by
 unfold Zavq
 refine tX (Inv:=Zvp) (μ:=Zaet) (m:=(1000000,0,0,0,0,0)) ?_ ?_
 .dsimp only [Zavo,LT.den]
  refine tD (fun h1=>?_) (fun h1=>?_)
  .exact tJ (Z0e ⟨oa0,trivial⟩)
  .exact tJ (Z0e ⟨oa0,trivial⟩)
 .intro s hs
  cases s with
  | L0 _ _=>exact Z0e hs
  | L1 _=>exact Z0d hs
theorem Zaeu{a0:Int}:Tot (Zai8 a0) (fun r=>(SzT r)/\(r=[]↔¬ (0<=a0/\a0<=2))):=by
 unfold Zai8
 refine tZ ?_
 dsimp only [Zamk,LT.den]
 refine tE (fun h1=>?_) (fun h1=>?_)
 .exact tR ⟨(by unfold SzT;first | omega | (simp only [List.length_append,List.length_cons,List.length_nil];omega)),(by first | (refine⟨fun _=>by omega,fun _=>rfl⟩) | (have w := ‹_∈A3.list _›;simp only [A3.list,List.mem_cons,List.not_mem_nil,or_false] at w;grind) | grind)⟩
 .refine tE (fun h2=>?_) (fun h2=>?_)
  .exact tR ⟨(by unfold SzT;first | omega | (simp only [List.length_append,List.length_cons,List.length_nil];omega)),(by first | (refine⟨fun _=>by omega,fun _=>rfl⟩) | (have w := ‹_∈A3.list _›;simp only [A3.list,List.mem_cons,List.not_mem_nil,or_false] at w;grind) | grind)⟩
  .refine tE (fun h3=>?_) (fun h3=>?_)
   .exact tR ⟨(by unfold SzT;first | omega | (simp only [List.length_append,List.length_cons,List.length_nil];omega)),(by first | (refine⟨fun _=>by omega,fun _=>rfl⟩) | (have w := ‹_∈A3.list _›;simp only [A3.list,List.mem_cons,List.not_mem_nil,or_false] at w;grind) | grind)⟩
   .exact tR ⟨SzT.nil,(by first | (refine⟨fun _=>by omega,fun _=>rfl⟩) | (have w := ‹_∈A3.list _›;simp only [A3.list,List.mem_cons,List.not_mem_nil,or_false] at w;grind) | grind)⟩
theorem Za2k{a0:Zbs}(oa0:Zz2 a0):Tot (Zavt a0) (fun r=>(r=amV a0)):=by
 unfold Zavt
 refine tZ ?_
 dsimp only [Zavr,LT.den]
 refine tE (fun h1=>?_) (fun h1=>?_)
 .refine tD (fun h2=>?_) (fun h2=>?_)
  .exact tR (by obtain⟨k1,k2,k3,k4⟩:=a0;unfold amV;grind [Zki,usV])
  .refine tD (fun h3=>?_) (fun h3=>?_)
   .exact tR (by obtain⟨k1,k2,k3,k4⟩:=a0;unfold amV;grind [Zki,usV])
   .refine tD (fun h4=>?_) (fun h4=>?_)
    .refine tD (fun h5=>?_) (fun h5=>?_)
     .exact tR (by obtain⟨k1,k2,k3,k4⟩:=a0;unfold amV;grind [Zki,usV])
     .exact tR (by obtain⟨k1,k2,k3,k4⟩:=a0;unfold amV;grind [Zki,usV])
    .exact tR (by obtain⟨k1,k2,k3,k4⟩:=a0;unfold amV;grind [Zki,usV])
 .refine tE (fun h6=>?_) (fun h6=>?_)
  .refine tD (fun h7=>?_) (fun h7=>?_)
   .exact tR (by obtain⟨k1,k2,k3,k4⟩:=a0;unfold amV;grind [Zki,usV])
   .refine tD (fun h8=>?_) (fun h8=>?_)
    .exact tR (by obtain⟨k1,k2,k3,k4⟩:=a0;unfold amV;grind [Zki,usV])
    .refine tB (Zg5 oa0) (fun x9 h10=>?_)
     have eh10_0:=h10.1
     have eh10_1:=h10.2
     refine tO (fun h11=>?_) (fun h11=>?_)
     .exact tR (by obtain⟨k1,k2,k3,k4⟩:=a0;unfold amV;grind [Zki,usV])
     .have h11_0:=eh10_0 h11
      refine tD (fun h12=>?_) (fun h12=>?_)
      .refine tD (fun h13=>?_) (fun h13=>?_)
       .exact tR (by obtain⟨k1,k2,k3,k4⟩:=a0;unfold amV;grind [Zki,usV])
       .exact tR (by obtain⟨k1,k2,k3,k4⟩:=a0;unfold amV;grind [Zki,usV])
      .exact tR (by obtain⟨k1,k2,k3,k4⟩:=a0;unfold amV;grind [Zki,usV])
  .refine tE (fun h14=>?_) (fun h14=>?_)
   .refine tB (Zaeu) (fun x15 h16=>?_)
    have eh16_1:=h16.2
    refine tF (fun h17=>?_) (fun h17=>?_)
    .exact tR (by obtain⟨k1,k2,k3,k4⟩:=a0;unfold amV;grind [Zki,usV])
    .refine tD (fun h18=>?_) (fun h18=>?_)
     .refine tD (fun h19=>?_) (fun h19=>?_)
      .exact tR (by obtain⟨k1,k2,k3,k4⟩:=a0;unfold amV;grind [Zki,usV])
      .exact tR (by obtain⟨k1,k2,k3,k4⟩:=a0;unfold amV;grind [Zki,usV])
     .exact tR (by obtain⟨k1,k2,k3,k4⟩:=a0;unfold amV;grind [Zki,usV])
   .refine tD (fun h20=>?_) (fun h20=>?_)
    .refine tD (fun h21=>?_) (fun h21=>?_)
     .exact tR (by obtain⟨k1,k2,k3,k4⟩:=a0;unfold amV;grind [Zki,usV])
     .exact tR (by obtain⟨k1,k2,k3,k4⟩:=a0;unfold amV;grind [Zki,usV])
    .exact tR (by obtain⟨k1,k2,k3,k4⟩:=a0;unfold amV;grind [Zki,usV])
theorem Zaxp{a0:List Zi}(oa0:(SzL 176 Zu) a0):Tot (Zai9 a0) (fun r=>True):=by
 unfold Zai9
 refine tZ ?_
 have lb_a0:=oa0.1
 dsimp only [Zamm,LT.den]
 refine tB (Zs5 oa0) (fun x1 h2=>?_)
 have eh2_0:=h2
 exact tR trivial
def Zaxq:Zui->Prop
 | .L0 E0 E1 E2 v4=>(0<=v4)/\True
def Z7k:Zui->M6
 | .L0 E0 E1 E2 v4=>(1,(5 - v4).toNat,1000000,0,0,0)
theorem Zaxr{a0:A6 Int}:Tot (Zaja a0) (fun r=>True):=by
 unfold Zaja
 refine tX (Inv:=Zaxq) (μ:=Z7k) (m:=(1000000,0,0,0,0,0)) ?_ ?_
 .dsimp only [Zamo,LT.den]
  refine tB (tI (by omega) (by have e:(A6.list a0).length=6:=rfl;omega)) (fun x1 h2=>?_)
  exact tL ⟨cl,trivial⟩ (by unfold Z7k lt6;dsimp only;omega)
 .intro s hs
  cases s with
  | L0 E0 E1 E2 v4=>
   obtain⟨cv4,_⟩:=hs
   show Tot (Z6i E0 E1 E2 v4).den _
   dsimp only [Z6i,LT.den]
   refine tD (fun h1=>?_) (fun h1=>?_)
   .refine qw (v4+1) fun q2 q3=>?_
    refine tB (tI (by omega) (by have e:(A6.list E0).length=6:=rfl;omega)) (fun x4 h5=>?_)
    refine tB (tI (by omega) (by have e:(A5.list E2.Color).length=5:=rfl;omega)) (fun x6 h7=>?_)
    refine tB (Tot.setA5 (by omega) (by omega)) (fun x8 h9=>?_)
    exact tL ⟨cl,trivial⟩ (by unfold Z7k lt6;dsimp only;omega)
   .exact tR trivial
def Zaxs:Znk->Prop
 | .L0 E0 v3 v4=>(0<=v4)/\(E0.X<=2)/\(∀ n,n∈A5.list E0.Color->n<=9)/\(v3.length<=v4.toNat)/\(v4<=2)
 | .L1 E0 v3 v5=>(0<=v5)/\(v3.length<=200+200*v5.toNat)/\(∀ n,n∈A5.list E0.Color->n<=9)/\(v5<=5)
 | .L2 E0 v3 v5 v6=>(0<=v5)/\(0<=v6)/\(v5 < 5)/\(v3.length<=200+200*v5.toNat+v6.toNat)/\(∀ n,n∈A5.list E0.Color->n<=9)/\(v5 < 5)/\(v6<=9)
def Zj1:Znk->M6
 | .L0 E0 v3 v4=>(3,(E0.X - v4).toNat,1000000,0,0,0)
 | .L1 E0 v3 v5=>(1,(5 - v5).toNat,1000000,0,0,0)
 | .L2 E0 v3 v5 v6=>(1,(5 - v5).toNat,1,(9 - v6).toNat,1000000,0)
theorem Zaxt{a0:Zt}:Tot (Zajb a0) (fun r=>(SzT r)):=by
 unfold Zajb
 refine tX (Inv:=Zaxs) (μ:=Zj1) (m:=(1000000,0,0,0,0,0)) ?_ ?_
 .dsimp only [Zamq,LT.den]
  refine tB (Zaao a0) (fun x1 h2=>?_)
  have eh2_0:=h2.1
  have eh2_1:=h2.2.1
  have eh2_2:=h2.2.2
  refine tO (fun h3=>?_) (fun h3=>?_)
  .exact tR (SzT.nil)
  .have h3_0:=eh2_0 h3
   have h3_1:=eh2_1 h3
   exact tL ⟨cl,cl,cl,cl,cl⟩ (by unfold Zj1 lt6;dsimp only;omega)
 .intro s hs
  cases s with
  | L0 E0 v3 v4=>
   obtain⟨cv4,i0,i1,i2,i3⟩:=hs
   show Tot (Z6j E0 v3 v4).den _
   dsimp only [Z6j,LT.den]
   refine tD (fun h1=>?_) (fun h1=>?_)
   .refine tB (tK (by first | (simp only [List.length_append,List.length_cons,List.length_nil];omega) | omega)) (fun x2 h3=>?_)
    refine qw (v4+1) fun q4 q5=>?_
    exact tL ⟨cl,cl,cl,cl,cl⟩ (by unfold Zj1 lt6;dsimp only;omega)
   .refine tN (fun h6=>?_) (fun h6=>?_)
    .refine tB (Zm1) (fun x7 h8=>?_)
     have q9:x7.length<=100:=h8
     refine tB (tK (by first | (simp only [List.length_append,List.length_cons,List.length_nil];omega) | omega)) (fun x10 h11=>?_)
     exact tL ⟨cl,cl,cl,cl⟩ (by unfold Zj1 lt6;dsimp only;omega)
    .exact tL ⟨cl,cl,cl,cl⟩ (by unfold Zj1 lt6;dsimp only;omega)
  | L1 E0 v3 v5=>
   obtain⟨cv5,i0,i1,i2⟩:=hs
   show Tot (Z6k E0 v3 v5).den _
   dsimp only [Z6k,LT.den]
   refine tD (fun h1=>?_) (fun h1=>?_)
   .exact tL ⟨cl,cl,cl,cl,cl,cl,cl⟩ (by unfold Zj1 lt6;dsimp only;omega)
   .refine tF (fun h2=>?_) (fun h2=>?_)
    .exact tR (by unfold SzT;first | omega | (simp only [List.length_append,List.length_cons,List.length_nil];omega))
    .exact tR (by unfold SzT;first | omega | (simp only [List.length_append,List.length_cons,List.length_nil];omega))
  | L2 E0 v3 v5 v6=>
   obtain⟨cv5,cv6,bd2,i0,i1,i2,i3⟩:=hs
   show Tot (Z6l E0 v3 v5 v6).den _
   dsimp only [Z6l,LT.den]
   refine tB (tI (by omega) (by have e:(A5.list E0.Color).length=5:=rfl;omega)) (fun x1 h2=>?_)
   have ph2:=i1 x1 h2.1
   refine tD (fun h3=>?_) (fun h3=>?_)
   .refine qw (v5+1) fun q4 q5=>?_
    refine tB (Tot.slice (by omega) (by omega) (by first | omega | (simp only [List.length_cons,List.length_nil];omega))) (fun x6 h7=>?_)
    have lh7:=h7.1
    refine tB (tK (by first | (simp only [List.length_append,List.length_cons,List.length_nil];omega) | omega)) (fun x8 h9=>?_)
    refine qw (v6+1) fun q10 q11=>?_
    exact tL ⟨cl,cl,cl,cl,cl,cl,cl⟩ (by unfold Zj1 lt6;dsimp only;omega)
   .refine qw (v5+1) fun q12 q13=>?_
    exact tL ⟨cl,cl,cl,cl⟩ (by unfold Zj1 lt6;dsimp only;omega)
theorem Zakb{a0:A6 Int}:Tot (Z2l a0) (fun r=>(SzT r)):=by
 unfold Z2l
 refine tZ ?_
 dsimp only [Z8d,LT.den]
 refine tB (Zaxr) (fun x1 h2=>?_)
 refine tB (Zaxt) (fun x3 h4=>?_)
 exact tR h4
theorem Zap0{a0:Int}{a1:Zc}(oa1:Z7 a1):Tot (Z91 a0 a1) (fun r=>True):=by
 unfold Z91
 refine tZ ?_
 dsimp only [Zadc,LT.den]
 refine tE (fun h1=>?_) (fun h1=>?_)
 .refine tB (Zg5 oa1) (fun x2 h3=>?_)
  have eh3_0:=h3.1
  have eh3_1:=h3.2
  refine tF (fun h4=>?_) (fun h4=>?_)
  .have h4_0:=eh3_0 h4
   exact tR trivial
  .exact tR trivial
 .refine tB (Zg5 oa1) (fun x5 h6=>?_)
  have eh6_0:=h6.1
  have eh6_1:=h6.2
  refine tF (fun h7=>?_) (fun h7=>?_)
  .have h7_0:=eh6_0 h7
   exact tR trivial
  .exact tR trivial
def Zg7:Ziz->Prop
 | .L0 E0 v5=>(Z8 E0)/\True
 | .L1 E0 v5 v6=>(Z8 E0)/\True
 | .L2 E0 v5 v6 v7=>(Z8 E0)/\True
 | .L3 E0 v5 v6 v7 v8=>(Z8 E0)/\True
 | .L4 E0 v5 v6 v7 v8 v9=>(Z8 E0)/\True
 | .L5 E0 v5 v6 v7 v8 v9 v10=>(Z8 E0)/\True
 | .L6 E0 v5 v6 v7 v8 v9 v10 v11=>(Z8 E0)/\True
 | .L7 v5 v6 v7 v8 v9 v10 v11 v12=>True
def Zli:Ziz->M6
 | .L0 E0 v5=>(0,0,0,0,0,0)
 | .L1 E0 v5 v6=>(0,0,0,0,0,0)
 | .L2 E0 v5 v6 v7=>(0,0,0,0,0,0)
 | .L3 E0 v5 v6 v7 v8=>(0,0,0,0,0,0)
 | .L4 E0 v5 v6 v7 v8 v9=>(0,0,0,0,0,0)
 | .L5 E0 v5 v6 v7 v8 v9 v10=>(0,0,0,0,0,0)
 | .L6 E0 v5 v6 v7 v8 v9 v10 v11=>(0,0,0,0,0,0)
 | .L7 v5 v6 v7 v8 v9 v10 v11 v12=>(0,0,0,0,0,0)
theorem Z0f{v5:Bool}{v6:Bool}{v7:Bool}{v8:Bool}{v9:Bool}{v10:Bool}{v11:Bool}{v12:Bool}(h:True):Tot (Zyg v5 v6 v7 v8 v9 v10 v11 v12).den (Nx Zg7 Zli (0,0,0,0,0,0) (fun r=>True)):=by
 dsimp only [Zyg,LT.den]
 refine tF (fun h1=>?_) (fun h1=>?_)
 .refine tF (fun h2=>?_) (fun h2=>?_)
  .refine tF (fun h3=>?_) (fun h3=>?_)
   .refine tF (fun h4=>?_) (fun h4=>?_)
    .refine tF (fun h5=>?_) (fun h5=>?_)
     .refine tF (fun h6=>?_) (fun h6=>?_)
      .refine tF (fun h7=>?_) (fun h7=>?_)
       .exact tR trivial
       .exact tR trivial
      .exact tR trivial
     .exact tR trivial
    .exact tR trivial
   .exact tR trivial
  .exact tR trivial
 .exact tR trivial
theorem Zsl{E0:Zs}{v5:Bool}{v6:Bool}{v7:Bool}{v8:Bool}{v9:Bool}{v10:Bool}{v11:Bool}(h:(Z8 E0)/\True):Tot (Zte E0 v5 v6 v7 v8 v9 v10 v11).den (Nx Zg7 Zli (0,0,0,0,0,0) (fun r=>True)):=by
 obtain⟨O0,_⟩:=h
 dsimp only [Zte,LT.den]
 refine tB (Zik) (fun x1 h2=>?_)
 refine tF (fun h3=>?_) (fun h3=>?_)
 .refine tB (Zap0 O0.2.2.2.1) (fun x4 h5=>?_)
  exact tJ (Z0f trivial)
 .exact tJ (Z0f trivial)
theorem Z0g{E0:Zs}{v5:Bool}{v6:Bool}{v7:Bool}{v8:Bool}{v9:Bool}{v10:Bool}(h:(Z8 E0)/\True):Tot (Zyh E0 v5 v6 v7 v8 v9 v10).den (Nx Zg7 Zli (0,0,0,0,0,0) (fun r=>True)):=by
 obtain⟨O0,_⟩:=h
 dsimp only [Zyh,LT.den]
 refine tB (Zik) (fun x1 h2=>?_)
 refine tF (fun h3=>?_) (fun h3=>?_)
 .refine tO (fun h4=>?_) (fun h4=>?_)
  .refine tB (Zakb) (fun x5 h6=>?_)
   exact tJ (Zsl ⟨O0,trivial⟩)
  .exact tJ (Zsl ⟨O0,trivial⟩)
 .exact tJ (Zsl ⟨O0,trivial⟩)
theorem Z0h{E0:Zs}{v5:Bool}{v6:Bool}{v7:Bool}{v8:Bool}{v9:Bool}(h:(Z8 E0)/\True):Tot (Zyi E0 v5 v6 v7 v8 v9).den (Nx Zg7 Zli (0,0,0,0,0,0) (fun r=>True)):=by
 obtain⟨O0,_⟩:=h
 dsimp only [Zyi,LT.den]
 have q1:=O0.2.2.2.2.1
 refine tB (Zik) (fun x2 h3=>?_)
 refine tF (fun h4=>?_) (fun h4=>?_)
 .refine tB (Zaxp O0.2.2.2.2) (fun x5 h6=>?_)
  exact tJ (Z0g ⟨O0,trivial⟩)
 .exact tJ (Z0g ⟨O0,trivial⟩)
theorem Z0i{E0:Zs}{v5:Bool}{v6:Bool}{v7:Bool}{v8:Bool}(h:(Z8 E0)/\True):Tot (Zyj E0 v5 v6 v7 v8).den (Nx Zg7 Zli (0,0,0,0,0,0) (fun r=>True)):=by
 obtain⟨O0,_⟩:=h
 dsimp only [Zyj,LT.den]
 refine tB (Zik) (fun x1 h2=>?_)
 refine tF (fun h3=>?_) (fun h3=>?_)
 .refine tB (Za2k O0.2.1) (fun x4 h5=>?_)
  have eh5_0:=h5
  exact tJ (Z0h ⟨O0,trivial⟩)
 .exact tJ (Z0h ⟨O0,trivial⟩)
theorem Zsm{E0:Zs}{v5:Bool}{v6:Bool}{v7:Bool}(h:(Z8 E0)/\True):Tot (Ztf E0 v5 v6 v7).den (Nx Zg7 Zli (0,0,0,0,0,0) (fun r=>True)):=by
 obtain⟨O0,_⟩:=h
 dsimp only [Ztf,LT.den]
 refine tB (Zik) (fun x1 h2=>?_)
 refine tF (fun h3=>?_) (fun h3=>?_)
 .refine tB (Zaan (SzS.t O0.2.2.1)) (fun x4 h5=>?_)
  exact tJ (Z0i ⟨O0,trivial⟩)
 .exact tJ (Z0i ⟨O0,trivial⟩)
theorem Zoc{E0:Zs}{v5:Bool}{v6:Bool}(h:Zg7 (.L1 E0 v5 v6)):Tot (Zpf E0 v5 v6).den (Nx Zg7 Zli (0,0,0,0,0,0) (fun r=>True)):=by
 obtain⟨O0,_⟩:=h
 dsimp only [Zpf,LT.den]
 refine tE (fun h1=>?_) (fun h1=>?_)
 .exact tJ (Zsm ⟨O0,trivial⟩)
 .refine tB (Zik) (fun x2 h3=>?_)
  refine tF (fun h4=>?_) (fun h4=>?_)
  .refine tB (Zaeu) (fun x5 h6=>?_)
   have eh6_1:=h6.2
   exact tJ (Zsm ⟨O0,trivial⟩)
  .exact tJ (Zsm ⟨O0,trivial⟩)
theorem Z0j{E0:Zs}{v5:Bool}(h:Zg7 (.L0 E0 v5)):Tot (Zyk E0 v5).den (Nx Zg7 Zli (0,0,0,0,0,0) (fun r=>True)):=by
 obtain⟨O0,_⟩:=h
 dsimp only [Zyk,LT.den]
 refine tE (fun h1=>?_) (fun h1=>?_)
 .exact tJ (Zoc ⟨O0,trivial⟩)
 .refine tB (Zik) (fun x2 h3=>?_)
  refine tF (fun h4=>?_) (fun h4=>?_)
  .refine tD (fun h5=>?_) (fun h5=>?_)
   .exact tJ (Zoc ⟨O0,trivial⟩)
   .exact tJ (Zoc ⟨O0,trivial⟩)
  .exact tJ (Zoc ⟨O0,trivial⟩)
theorem Za2l{a0:Zs}{a1:Int}(oa0:Z8 a0):Tot (Zavw a0 a1) (fun r=>True):=by
 unfold Zavw
 refine tX (Inv:=Zg7) (μ:=Zli) (m:=(1000000,0,0,0,0,0)) ?_ ?_
 .dsimp only [Zavu,LT.den]
  refine tB (Zaxm) (fun x1 h2=>?_)
  refine tF (fun h3=>?_) (fun h3=>?_)
  .exact tR trivial
  .refine tB (Zik) (fun x4 h5=>?_)
   refine tF (fun h6=>?_) (fun h6=>?_)
   .refine tB (Za2j oa0.1) (fun x7 h8=>?_)
    exact tJ (Z0j ⟨oa0,trivial⟩)
   .exact tJ (Z0j ⟨oa0,trivial⟩)
 .intro s hs
  cases s with
  | L0 _ _=>exact Z0j hs
  | L1 _ _ _=>exact Zoc hs
  | L2 _ _ _ _=>exact Zsm hs
  | L3 _ _ _ _ _=>exact Z0i hs
  | L4 _ _ _ _ _ _=>exact Z0h hs
  | L5 _ _ _ _ _ _ _=>exact Z0g hs
  | L6 _ _ _ _ _ _ _ _=>exact Zsl hs
  | L7 _ _ _ _ _ _ _ _=>exact Z0f hs
def Zan3:Znx->Prop
 | .L0 v0 v1 v5=>((SzL 560 Z8) v0)/\(0<=v5)
def Zw7:Znx->M6
 | .L0 v0 v1 v5=>(1,((v0.length:Int) - v5).toNat,1000000,0,0,0)
theorem Zan4{a0:List Zs}{a1:Int}(oa0:(SzL 560 Z8) a0):Tot (Z6m a0 a1) (fun r=>True):=by
 unfold Z6m
 refine tX (Inv:=Zan3) (μ:=Zw7) (m:=(1000000,0,0,0,0,0)) ?_ ?_
 .have lb_a0:=oa0.1
  dsimp only [Zaa6,LT.den]
  exact tL ⟨oa0,cl⟩ (by unfold Zw7 lt6;dsimp only;omega)
 .intro s hs
  cases s with
  | L0 v0 v1 v5=>
   obtain⟨ov0,cv5⟩:=hs
   have lb_v0:=ov0.1
   show Tot (Zwm v0 v1 v5).den _
   dsimp only [Zwm,LT.den]
   have q1:=ov0.1
   refine tD (fun h2=>?_) (fun h2=>?_)
   .refine tB (tI (by omega) (by omega)) (fun x3 h4=>?_)
    have oh4:Z8 x3:=ov0.2 x3 h4.1
    refine tB (Za2l oh4) (fun x5 h6=>?_)
    refine tO (fun h7=>?_) (fun h7=>?_)
    .exact tR trivial
    .refine qw (v5+1) fun q8 q9=>?_
     exact tL ⟨ov0,cl⟩ (by unfold Zw7 lt6;dsimp only;omega)
   .refine tD (fun h10=>?_) (fun h10=>?_)
    .exact tR trivial
    .exact tR trivial
def Zg8:Znl->Prop
 | .L0 E0 v3=>(Z3 E0)/\True
 | .L1 E0 v3=>(Z3 E0)/\True
 | .L2 E0 v3=>(Z3 E0)/\True
 | .L3 E0 v3=>(Z3 E0)/\True
 | .L4 E0 v3=>(Z3 E0)/\True
def Zto:Znl->M6
 | .L0 E0 v3=>(0,0,0,0,0,0)
 | .L1 E0 v3=>(0,0,0,0,0,0)
 | .L2 E0 v3=>(0,0,0,0,0,0)
 | .L3 E0 v3=>(0,0,0,0,0,0)
 | .L4 E0 v3=>(0,0,0,0,0,0)
theorem Z0k{E0:Zg}{v3:Bool}(h:Zg8 (.L4 E0 v3)):Tot (Zyl E0 v3).den (Nx Zg8 Zto (0,0,0,0,0,0) (fun r=>True)):=by
 obtain⟨O0,_⟩:=h
 dsimp only [Zyl,LT.den]
 refine tF (fun h1=>?_) (fun h1=>?_)
 .refine tB (Zasi O0.2.2.2.1) (fun x2 h3=>?_)
  refine tF (fun h4=>?_) (fun h4=>?_)
  .have q5:=O0.2.2.2.1.1
   refine tB (Zan4 O0.2.2.2.2.1) (fun x6 h7=>?_)
   exact tR trivial
  .exact tR trivial
 .have q8:=O0.2.2.2.1.1
  refine tE (fun h9=>?_) (fun h9=>?_)
  .have q10:=O0.2.2.2.2.1.1
   exact tR trivial
  .exact tR trivial
theorem Z0l{E0:Zg}{v3:Bool}(h:Zg8 (.L3 E0 v3)):Tot (Zym E0 v3).den (Nx Zg8 Zto (0,0,0,0,0,0) (fun r=>True)):=by
 obtain⟨O0,_⟩:=h
 dsimp only [Zym,LT.den]
 refine tE (fun h1=>?_) (fun h1=>?_)
 .refine tB (Za2i O0.2.2.2.2.2) (fun x2 h3=>?_)
  refine tO (fun h4=>?_) (fun h4=>?_)
  .exact tR trivial
  .exact tJ (Z0k ⟨O0,trivial⟩)
 .refine tO (fun h5=>?_) (fun h5=>?_)
  .exact tR trivial
  .exact tJ (Z0k ⟨O0,trivial⟩)
theorem Z0m{E0:Zg}{v3:Bool}(h:Zg8 (.L2 E0 v3)):Tot (Zyn E0 v3).den (Nx Zg8 Zto (0,0,0,0,0,0) (fun r=>True)):=by
 obtain⟨O0,_⟩:=h
 dsimp only [Zyn,LT.den]
 refine tE (fun h1=>?_) (fun h1=>?_)
 .refine tB (Za2h O0.2.2.1) (fun x2 h3=>?_)
  refine tO (fun h4=>?_) (fun h4=>?_)
  .exact tR trivial
  .exact tJ (Z0l ⟨O0,trivial⟩)
 .refine tO (fun h5=>?_) (fun h5=>?_)
  .exact tR trivial
  .refine tF (fun h6=>?_) (fun h6=>?_)
   .exact tR trivial
   .exact tJ (Z0l ⟨O0,trivial⟩)
theorem Z0n{E0:Zg}{v3:Bool}(h:Zg8 (.L1 E0 v3)):Tot (Zyo E0 v3).den (Nx Zg8 Zto (0,0,0,0,0,0) (fun r=>True)):=by
 obtain⟨O0,_⟩:=h
 dsimp only [Zyo,LT.den]
 refine tE (fun h1=>?_) (fun h1=>?_)
 .refine tB (Zase) (fun x2 h3=>?_)
  refine tO (fun h4=>?_) (fun h4=>?_)
  .exact tR trivial
  .exact tJ (Z0m ⟨O0,trivial⟩)
 .refine tO (fun h5=>?_) (fun h5=>?_)
  .exact tR trivial
  .refine tF (fun h6=>?_) (fun h6=>?_)
   .exact tR trivial
   .exact tJ (Z0m ⟨O0,trivial⟩)
theorem Zsn{E0:Zg}{v3:Bool}(h:Zg8 (.L0 E0 v3)):Tot (Ztg E0 v3).den (Nx Zg8 Zto (0,0,0,0,0,0) (fun r=>True)):=by
 obtain⟨O0,_⟩:=h
 dsimp only [Ztg,LT.den]
 refine tE (fun h1=>?_) (fun h1=>?_)
 .refine tB (Zg5 O0.1) (fun x2 h3=>?_)
  have eh3_0:=h3.1
  have eh3_1:=h3.2
  refine tO (fun h4=>?_) (fun h4=>?_)
  .exact tR trivial
  .have h4_0:=eh3_0 h4
   refine tN (fun h5=>?_) (fun h5=>?_)
   .exact tR trivial
   .refine tB (Zs5 O0.2.1) (fun x6 h7=>?_)
    have eh7_0:=h7
    refine tF (fun h8=>?_) (fun h8=>?_)
    .exact tR trivial
    .exact tJ (Z0n ⟨O0,trivial⟩)
 .refine tO (fun h9=>?_) (fun h9=>?_)
  .exact tR trivial
  .have q10:=O0.2.1.1
   refine tD (fun h11=>?_) (fun h11=>?_)
   .exact tR trivial
   .exact tJ (Z0n ⟨O0,trivial⟩)
theorem Z1h{a0:Zg}(oa0:Z3 a0):Tot (Zavz a0) (fun r=>True):=by
 unfold Zavz
 refine tX (Inv:=Zg8) (μ:=Zto) (m:=(1000000,0,0,0,0,0)) ?_ ?_
 .dsimp only [Zavx,LT.den]
  refine tD (fun h1=>?_) (fun h1=>?_)
  .exact tR trivial
  .refine tD (fun h2=>?_) (fun h2=>?_)
   .exact tR trivial
   .refine tE (fun h3=>?_) (fun h3=>?_)
    .exact tJ (Zsn ⟨oa0,trivial⟩)
    .refine tE (fun h4=>?_) (fun h4=>?_)
     .exact tJ (Zsn ⟨oa0,trivial⟩)
     .exact tJ (Zsn ⟨oa0,trivial⟩)
 .intro s hs
  cases s with
  | L0 _ _=>exact Zsn hs
  | L1 _ _=>exact Z0n hs
  | L2 _ _=>exact Z0m hs
  | L3 _ _=>exact Z0l hs
  | L4 _ _=>exact Z0k hs
theorem Zaxu{a0:Zn}(oa0:Zad a0):Tot (Zajc a0) (fun r=>True):=by
 unfold Zajc
 refine tZ ?_
 dsimp only [Zamt,LT.den]
 refine tE (fun h1=>?_) (fun h1=>?_)
 .exact tR trivial
 .exact tR trivial
def Zaat(a0:Zn):Zwn->Prop
 | .L0 E0=>(E0=a0)/\(Zad E0)/\(E0.Abilities.length<=8)
 | .L1 E0 v3 v4=>(E0=a0)/\(Zad E0)/\(0<=v4)/\(E0.Abilities.length<=8)
def Ztp:Zwn->M6
 | .L0 E0=>(2,0,0,0,0,0)
 | .L1 E0 v3 v4=>(1,((E0.Abilities.length:Int) - v4).toNat,1000000,0,0,0)
theorem Z0o{a0:Zn}{E0:Zn}(h:(Zaat a0) (.L0 E0)):Tot (Zyp E0).den (Nx (Zaat a0) Ztp (2,0,0,0,0,0) (fun r=>(r=true->a0.Abilities.length<=8))):=by
 obtain⟨al0,O0,i0⟩:=h
 subst al0
 dsimp only [Zyp,LT.den]
 exact tL ⟨rfl,O0,cl,cl⟩ (by unfold Ztp lt6;dsimp only;omega)
theorem Za2m{a0:Zn}(oa0:Zad a0):Tot (Zav2 a0) (fun r=>(r=true->a0.Abilities.length<=8)):=by
 unfold Zav2
 refine tX (Inv:=(Zaat a0)) (μ:=Ztp) (m:=(1000000,0,0,0,0,0)) ?_ ?_
 .dsimp only [Zav0,LT.den]
  refine tB (Zaan (SzS.t oa0.1)) (fun x1 h2=>?_)
  refine tO (fun h3=>?_) (fun h3=>?_)
  .exact tR (by first | (intro hr;exact absurd hr (by decide)) | (intro _;omega))
  .refine tB (Zaao a0.Cost) (fun x4 h5=>?_)
   have eh5_0:=h5.1
   have eh5_1:=h5.2.1
   have eh5_2:=h5.2.2
   refine tO (fun h6=>?_) (fun h6=>?_)
   .exact tR (by first | (intro hr;exact absurd hr (by decide)) | (intro _;omega))
   .have h6_0:=eh5_0 h6
    have h6_1:=eh5_1 h6
    refine tB (Za2f oa0.2.1) (fun x7 h8=>?_)
    refine tO (fun h9=>?_) (fun h9=>?_)
    .exact tR (by first | (intro hr;exact absurd hr (by decide)) | (intro _;omega))
    .refine tB (Zan1) (fun x10 h11=>?_)
     refine tO (fun h12=>?_) (fun h12=>?_)
     .exact tR (by first | (intro hr;exact absurd hr (by decide)) | (intro _;omega))
     .refine tD (fun h13=>?_) (fun h13=>?_)
      .exact tR (by first | (intro hr;exact absurd hr (by decide)) | (intro _;omega))
      .refine tD (fun h14=>?_) (fun h14=>?_)
       .exact tR (by first | (intro hr;exact absurd hr (by decide)) | (intro _;omega))
       .refine tD (fun h15=>?_) (fun h15=>?_)
        .exact tR (by first | (intro hr;exact absurd hr (by decide)) | (intro _;omega))
        .refine tD (fun h16=>?_) (fun h16=>?_)
         .exact tR (by first | (intro hr;exact absurd hr (by decide)) | (intro _;omega))
         .refine tD (fun h17=>?_) (fun h17=>?_)
          .exact tR (by first | (intro hr;exact absurd hr (by decide)) | (intro _;omega))
          .refine tD (fun h18=>?_) (fun h18=>?_)
           .exact tR (by first | (intro hr;exact absurd hr (by decide)) | (intro _;omega))
           .refine tB (Zaj5 oa0) (fun x19 h20=>?_)
            refine tO (fun h21=>?_) (fun h21=>?_)
            .refine tN (fun h22=>?_) (fun h22=>?_)
             .exact tR (by first | (intro hr;exact absurd hr (by decide)) | (intro _;omega))
             .refine tN (fun h23=>?_) (fun h23=>?_)
              .exact tR (by first | (intro hr;exact absurd hr (by decide)) | (intro _;omega))
              .have q24:=oa0.2.2.1
               refine tD (fun h25=>?_) (fun h25=>?_)
               .exact tR (by first | (intro hr;exact absurd hr (by decide)) | (intro _;omega))
               .exact tJ (Z0o ⟨rfl,oa0,cl⟩)
            .have q26:=oa0.2.2.1
             refine tD (fun h27=>?_) (fun h27=>?_)
             .exact tR (by first | (intro hr;exact absurd hr (by decide)) | (intro _;omega))
             .exact tJ (Z0o ⟨rfl,oa0,cl⟩)
 .intro s hs
  cases s with
  | L0 _=>exact Z0o hs
  | L1 E0 v3 v4=>
   obtain⟨al0,O0,cv4,i0⟩:=hs
   subst al0
   show Tot (Zade E0 v3 v4).den _
   dsimp only [Zade,LT.den,Ztp]
   have q1:=O0.2.2.1
   refine tD (fun h2=>?_) (fun h2=>?_)
   .refine tB (tI (by omega) (by omega)) (fun x3 h4=>?_)
    have oh4:Z3 x3:=O0.2.2.2 x3 h4.1
    refine tB (Z1h oh4) (fun x5 h6=>?_)
    refine tO (fun h7=>?_) (fun h7=>?_)
    .exact tR (by first | (intro hr;exact absurd hr (by decide)) | (intro _;omega))
    .refine tE (fun h8=>?_) (fun h8=>?_)
     .refine qw (v3+1) fun q9 q10=>?_
      refine qw (v4+1) fun q11 q12=>?_
      exact tL ⟨rfl,O0,cl,cl⟩ (by unfold Ztp lt6;dsimp only;omega)
     .refine qw (v4+1) fun q13 q14=>?_
      exact tL ⟨rfl,O0,cl,cl⟩ (by unfold Ztp lt6;dsimp only;omega)
   .refine tB (Zaxu O0) (fun x15 h16=>?_)
    refine tF (fun h17=>?_) (fun h17=>?_)
    .refine tO (fun h18=>?_) (fun h18=>?_)
     .refine tE (fun h19=>?_) (fun h19=>?_)
      .refine tE (fun h20=>?_) (fun h20=>?_)
       .exact tR (by first | (intro hr;exact absurd hr (by decide)) | (intro _;omega))
       .exact tR (by first | (intro hr;exact absurd hr (by decide)) | (intro _;omega))
      .exact tR (by first | (intro hr;exact absurd hr (by decide)) | (intro _;omega))
     .exact tR (by first | (intro hr;exact absurd hr (by decide)) | (intro _;omega))
    .refine tE (fun h21=>?_) (fun h21=>?_)
     .refine tO (fun h22=>?_) (fun h22=>?_)
      .refine tE (fun h23=>?_) (fun h23=>?_)
       .exact tR (by first | (intro hr;exact absurd hr (by decide)) | (intro _;omega))
       .exact tR (by first | (intro hr;exact absurd hr (by decide)) | (intro _;omega))
      .exact tR (by first | (intro hr;exact absurd hr (by decide)) | (intro _;omega))
     .exact tR (by first | (intro hr;exact absurd hr (by decide)) | (intro _;omega))
def Zaxv:Zuj->Prop
 | .L0 v0 v1 v5=>((SzL 176 Zad) v0)/\(SzT v1)/\(0<=v5)
def Z7l:Zuj->M6
 | .L0 v0 v1 v5=>(1,((v0.length:Int) - v5).toNat,1000000,0,0,0)
theorem Zaxw{a0:List Zn}{a1:List UInt8}(oa0:(SzL 176 Zad) a0)(oa1:SzT a1):Tot (Zajd a0 a1) (fun r=>True):=by
 unfold Zajd
 refine tX (Inv:=Zaxv) (μ:=Z7l) (m:=(1000000,0,0,0,0,0)) ?_ ?_
 .have lb_a0:=oa0.1
  have lb_a1:a1.length<=562949953421312:=oa1
  dsimp only [Zamv,LT.den]
  exact tL ⟨oa0,oa1,cl⟩ (by unfold Z7l lt6;dsimp only;omega)
 .intro s hs
  cases s with
  | L0 v0 v1 v5=>
   obtain⟨ov0,ov1,cv5⟩:=hs
   have lb_v0:=ov0.1
   have lb_v1:v1.length<=562949953421312:=ov1
   show Tot (Z6n v0 v1 v5).den _
   dsimp only [Z6n,LT.den]
   have q1:=ov0.1
   refine tD (fun h2=>?_) (fun h2=>?_)
   .refine tB (tI (by omega) (by omega)) (fun x3 h4=>?_)
    have oh4:Zad x3:=ov0.2 x3 h4.1
    refine tF (fun h5=>?_) (fun h5=>?_)
    .exact tR trivial
    .refine qw (v5+1) fun q6 q7=>?_
     exact tL ⟨ov0,ov1,cl⟩ (by unfold Z7l lt6;dsimp only;omega)
   .exact tR trivial
def Zasj:Zrp->Prop
 | .L0 v0 v1 v5=>((SzL 176 Zad) v0)/\(SzT v1)/\(0<=v5)
def Zvq:Zrp->M6
 | .L0 v0 v1 v5=>(1,((v0.length:Int) - v5).toNat,1000000,0,0,0)
theorem Zask{a0:List Zn}{a1:List UInt8}(oa0:(SzL 176 Zad) a0)(oa1:SzT a1):Tot (Zadf a0 a1) (fun r=>True):=by
 unfold Zadf
 refine tX (Inv:=Zasj) (μ:=Zvq) (m:=(1000000,0,0,0,0,0)) ?_ ?_
 .have lb_a0:=oa0.1
  have lb_a1:a1.length<=562949953421312:=oa1
  dsimp only [Zag2,LT.den]
  exact tL ⟨oa0,oa1,cl⟩ (by unfold Zvq lt6;dsimp only;omega)
 .intro s hs
  cases s with
  | L0 v0 v1 v5=>
   obtain⟨ov0,ov1,cv5⟩:=hs
   have lb_v0:=ov0.1
   have lb_v1:v1.length<=562949953421312:=ov1
   show Tot (Z2m v0 v1 v5).den _
   dsimp only [Z2m,LT.den]
   have q1:=ov0.1
   refine tD (fun h2=>?_) (fun h2=>?_)
   .refine tB (tI (by omega) (by omega)) (fun x3 h4=>?_)
    have oh4:Zad x3:=ov0.2 x3 h4.1
    refine tF (fun h5=>?_) (fun h5=>?_)
    .refine tF (fun h6=>?_) (fun h6=>?_)
     .exact tR trivial
     .refine qw (v5+1) fun q7 q8=>?_
      exact tL ⟨ov0,ov1,cl⟩ (by unfold Zvq lt6;dsimp only;omega)
    .refine qw (v5+1) fun q9 q10=>?_
     exact tL ⟨ov0,ov1,cl⟩ (by unfold Zvq lt6;dsimp only;omega)
   .exact tR trivial
def Zan5:Zky->Prop
 | .L0 v0 E0 v5=>((SzL 176 Zad) v0)/\(Zad E0)/\(0<=v5)
 | .L1 v0 E0 v5 v6=>((SzL 176 Zad) v0)/\(Zad E0)/\(0<=v5)/\(0<=v6)/\(v5 < (E0.Abilities.length:Int))/\(v5 < (E0.Abilities.length:Int))
def Zj3:Zky->M6
 | .L0 v0 E0 v5=>(1,((E0.Abilities.length:Int) - v5).toNat,1000000,0,0,0)
 | .L1 v0 E0 v5 v6=>(1,((E0.Abilities.length:Int) - v5).toNat,1,((((E0.Abilities[v5.toNat]?).map fun x=>x.Effects.length).getD 0:Nat) - v6).toNat,1000000,0)
theorem Zan6{a0:List Zn}{a1:Zn}(oa0:(SzL 176 Zad) a0)(oa1:Zad a1):Tot (Z6o a0 a1) (fun r=>True):=by
 unfold Z6o
 refine tX (Inv:=Zan5) (μ:=Zj3) (m:=(1000000,0,0,0,0,0)) ?_ ?_
 .have lb_a0:=oa0.1
  dsimp only [Zaa8,LT.den]
  exact tL ⟨oa0,oa1,cl⟩ (by unfold Zj3 lt6;dsimp only;omega)
 .intro s hs
  cases s with
  | L0 v0 E0 v5=>
   obtain⟨ov0,O0,cv5⟩:=hs
   have lb_v0:=ov0.1
   show Tot (Zwo v0 E0 v5).den _
   dsimp only [Zwo,LT.den]
   have q1:=O0.2.2.1
   refine tD (fun h2=>?_) (fun h2=>?_)
   .exact tL ⟨ov0,O0,cl,cl,cl,cl⟩ (by unfold Zj3 lt6;dsimp only;omega)
   .exact tR trivial
  | L1 v0 E0 v5 v6=>
   obtain⟨ov0,O0,cv5,cv6,bd4,i0⟩:=hs
   have lb_v0:=ov0.1
   show Tot (Zwp v0 E0 v5 v6).den _
   dsimp only [Zwp,LT.den]
   have lx_0:E0.Abilities.length*640<=140737488351232:=O0.2.2.1
   refine tB (tI (by omega) (by omega)) (fun x1 h2=>?_)
   have oh2:Z3 x1:=O0.2.2.2 x1 h2.1
   have mh2:((E0.Abilities[v5.toNat]?).map fun x=>x.Effects.length).getD 0=x1.Effects.length:=by rw [h2.2];rfl
   have q3:=oh2.2.2.2.2.1.1
   refine tD (fun h4=>?_) (fun h4=>?_)
   .refine tB (tI (by omega) (by omega)) (fun x5 h6=>?_)
    have oh6:Z8 x5:=oh2.2.2.2.2.1.2 x5 h6.1
    refine tE (fun h7=>?_) (fun h7=>?_)
    .refine tB (Zask ov0 (SzS.t oh6.2.2.1)) (fun x8 h9=>?_)
     refine tO (fun h10=>?_) (fun h10=>?_)
     .exact tR trivial
     .refine qw (v6+1) fun q11 q12=>?_
      exact tL ⟨ov0,O0,cl,cl,cl,cl⟩ (by unfold Zj3 lt6;dsimp only;omega)
    .refine qw (v6+1) fun q13 q14=>?_
     exact tL ⟨ov0,O0,cl,cl,cl,cl⟩ (by unfold Zj3 lt6;dsimp only;omega)
   .refine qw (v5+1) fun q15 q16=>?_
    exact tL ⟨ov0,O0,cl⟩ (by unfold Zj3 lt6;dsimp only;omega)
def Zasl(a0:List Zn):Zrq->Prop
 | .L0 v0 v4=>(v0=a0)/\((SzL 176 Zad) v0)/\(0<=v4)/\(∀ (k:Nat) c,(k:Int) < v4->v0[k]?=some c->c.Abilities.length<=8)
def Z3z:Zrq->M6
 | .L0 v0 v4=>(1,((v0.length:Int) - v4).toNat,1000000,0,0,0)
theorem Zasm{a0:List Zn}(oa0:(SzL 176 Zad) a0):Tot (Zadg a0) (fun r=>(r.2=0->∀ c,c∈a0->c.Abilities.length<=8)):=by
 unfold Zadg
 refine tX (Inv:=(Zasl a0)) (μ:=Z3z) (m:=(1000000,0,0,0,0,0)) ?_ ?_
 .have lb_a0:=oa0.1
  dsimp only [Zag4,LT.den]
  have q1:=oa0.1
  refine tD (fun h2=>?_) (fun h2=>?_)
  .exact tR (by first | (intro hr;exact absurd hr (by decide)) | (intro _ c hc;obtain⟨k,hk⟩:=List.mem_iff_getElem?.1 hc;exact i0 k c (by grind) hk))
  .exact tL ⟨rfl,oa0,cl,(by first | (intro k c hk;omega) | (intro k c hk hc;rcases Zalk (v:=v4) ‹_› (by omega) hk hc ‹_› with h | h;(exact i0 k c h hc);(rw [h];assumption)))⟩ (by unfold Z3z lt6;dsimp only;omega)
 .intro s hs
  cases s with
  | L0 v0 v4=>
   obtain⟨al0,ov0,cv4,i0⟩:=hs
   have lb_v0:=ov0.1
   subst al0
   show Tot (Z2n v0 v4).den _
   dsimp only [Z2n,LT.den]
   have q1:=ov0.1
   refine tD (fun h2=>?_) (fun h2=>?_)
   .refine tB (tI (by omega) (by omega)) (fun x3 h4=>?_)
    have oh4:Zad x3:=ov0.2 x3 h4.1
    have mh4:=h4.2
    refine tB (Za2m oh4) (fun x5 h6=>?_)
    have eh6_0:=h6
    refine tO (fun h7=>?_) (fun h7=>?_)
    .exact tR (by first | (intro hr;exact absurd hr (by decide)) | (intro _ c hc;obtain⟨k,hk⟩:=List.mem_iff_getElem?.1 hc;exact i0 k c (by grind) hk))
    .have h7_0:=eh6_0 h7
     refine tB (Zaxw ov0 (SzS.t oh4.1)) (fun x8 h9=>?_)
     refine tD (fun h10=>?_) (fun h10=>?_)
     .exact tR (by first | (intro hr;exact absurd hr (by decide)) | (intro _ c hc;obtain⟨k,hk⟩:=List.mem_iff_getElem?.1 hc;exact i0 k c (by grind) hk))
     .refine tB (Zan6 ov0 oh4) (fun x11 h12=>?_)
      refine tO (fun h13=>?_) (fun h13=>?_)
      .exact tR (by first | (intro hr;exact absurd hr (by decide)) | (intro _ c hc;obtain⟨k,hk⟩:=List.mem_iff_getElem?.1 hc;exact i0 k c (by grind) hk))
      .refine qw (v4+1) fun q14 q15=>?_
       exact tL ⟨rfl,ov0,cl,(by first | (intro k c hk;omega) | (intro k c hk hc;rcases Zalk (v:=v4) ‹_› (by omega) hk hc ‹_› with h | h;(exact i0 k c h hc);(rw [h];assumption)))⟩ (by unfold Z3z lt6;dsimp only;omega)
   .exact tR (by first | (intro hr;exact absurd hr (by decide)) | (intro _ c hc;obtain⟨k,hk⟩:=List.mem_iff_getElem?.1 hc;exact i0 k c (by grind) hk))
theorem Zet{a0:Int}{a1:Int}{a2:Int}:Tot (Zav7 a0 a1 a2) (fun r=>(r=true↔(a1<=a0/\a0<=a2))):=by
 unfold Zav7
 refine tZ ?_
 dsimp only [Zav5,LT.den]
 refine tD (fun h1=>?_) (fun h1=>?_)
 .exact tR (by grind)
 .exact tR (by grind)
def Zasn:Zrr->Prop
 | .L0 E0 v3=>(0<=v3)/\True
def Z30:Zrr->M6
 | .L0 E0 v3=>(1,(6 - v3).toNat,1000000,0,0,0)
theorem Zaso{a0:A6 Int}:Tot (Zadh a0) (fun r=>True):=by
 unfold Zadh
 refine tX (Inv:=Zasn) (μ:=Z30) (m:=(1000000,0,0,0,0,0)) ?_ ?_
 .dsimp only [Zag6,LT.den]
  exact tL ⟨cl,trivial⟩ (by unfold Z30 lt6;dsimp only;omega)
 .intro s hs
  cases s with
  | L0 E0 v3=>
   obtain⟨cv3,_⟩:=hs
   show Tot (Z2o E0 v3).den _
   dsimp only [Z2o,LT.den]
   refine tD (fun h1=>?_) (fun h1=>?_)
   .refine tB (tI (by omega) (by have e:(A6.list E0).length=6:=rfl;omega)) (fun x2 h3=>?_)
    refine tD (fun h4=>?_) (fun h4=>?_)
    .exact tR trivial
    .refine tB (tI (by omega) (by have e:(A6.list E0).length=6:=rfl;omega)) (fun x5 h6=>?_)
     refine tD (fun h7=>?_) (fun h7=>?_)
     .exact tR trivial
     .refine qw (v3+1) fun q8 q9=>?_
      exact tL ⟨cl,trivial⟩ (by unfold Z30 lt6;dsimp only;omega)
   .exact tR trivial
def Zasp(a0:Zl)(a1:Int):Zrs->Prop
 | .L0 v1 E0 v5=>(E0=a0)/\(v1=a1)/\(Z9 E0)/\(0<=v5)/\(NoId E0.Objects v1 v5)
def Z31:Zrs->M6
 | .L0 v1 E0 v5=>(1,((E0.Objects.length:Int) - v5).toNat,1000000,0,0,0)
theorem Zasq{a0:Zl}{a1:Int}(oa0:Z9 a0):Tot (Zadi a0 a1) (fun r=>(r < (a0.Objects.length:Int))/\(r=ixO a0.Objects a1)):=by
 unfold Zadi
 refine tX (Inv:=(Zasp a0 a1)) (μ:=Z31) (m:=(1000000,0,0,0,0,0)) ?_ ?_
 .dsimp only [Zag8,LT.den]
  exact tL ⟨rfl,rfl,oa0,cl,(by first | exact Zany | exact Z5l ‹_› ‹_› ‹_› (by first | assumption | grind) (by omega))⟩ (by unfold Z31 lt6;dsimp only;omega)
 .intro s hs
  cases s with
  | L0 v1 E0 v5=>
   obtain⟨al0,al1,O0,cv5,i0⟩:=hs
   subst al0
   subst al1
   show Tot (Z2p v1 E0 v5).den _
   dsimp only [Z2p,LT.den]
   have q1:=O0.2.1.1
   refine tD (fun h2=>?_) (fun h2=>?_)
   .refine tB (tI (by omega) (by omega)) (fun x3 h4=>?_)
    have mh4:=h4.2
    refine tE (fun h5=>?_) (fun h5=>?_)
    .exact tR ⟨cl,(by first | exact Zafl ‹_› ‹_› ‹_› (by first | assumption | grind) | exact Z3r ‹_› (by omega))⟩
    .refine qw (v5+1) fun q6 q7=>?_
     exact tL ⟨rfl,rfl,O0,cl,(by first | exact Zany | exact Z5l ‹_› ‹_› ‹_› (by first | assumption | grind) (by omega))⟩ (by unfold Z31 lt6;dsimp only;omega)
   .exact tR ⟨cl,(by first | exact Zafl ‹_› ‹_› ‹_› (by first | assumption | grind) | exact Z3r ‹_› (by omega))⟩
theorem Zaxx{a0:Zl}{a1:Int}(oa0:Z9 a0):Tot (Zaje a0 a1) (fun r=>(r=fdV a0.Objects a1)):=by
 unfold Zaje
 refine tZ ?_
 dsimp only [Zamx,LT.den]
 refine tB (Zasq oa0) (fun x1 h2=>?_)
 have eh2_0:=h2.1
 have eh2_1:=h2.2
 have lh2:=Za9q a0.Objects a1
 refine tD (fun h3=>?_) (fun h3=>?_)
 .exact tR (by first | exact Za4v ‹_› ‹_› | exact Za0i ‹_› ‹_› ‹_›)
 .refine tB (tI (by omega) (by omega)) (fun x4 h5=>?_)
  have mh5:=h5.2
  exact tR (by first | exact Za4v ‹_› ‹_› | exact Za0i ‹_› ‹_› ‹_›)
theorem Z86{a0:Zl}{a1:Int}(oa0:Z9 a0):Tot (Z92 a0 a1) (fun r=>True):=by
 unfold Z92
 refine tZ ?_
 dsimp only [Zadj,LT.den]
 refine tB (Zaxx oa0) (fun x1 h2=>?_)
 have eh2_0:=h2
 exact tR trivial
def Zasr:Zrt->Prop
 | .L0 v0 v1 v5 v6=>((SzL 8 (fun _=>True)) v0)/\(0<=v6)
def Zvr:Zrt->M6
 | .L0 v0 v1 v5 v6=>(1,((v0.length:Int) - v6).toNat,1000000,0,0,0)
theorem Z0p{a0:List Int}{a1:Int}(oa0:(SzL 8 (fun _=>True)) a0):Tot (Zadl a0 a1) (fun r=>True):=by
 unfold Zadl
 refine tX (Inv:=Zasr) (μ:=Zvr) (m:=(1000000,0,0,0,0,0)) ?_ ?_
 .have lb_a0:=oa0.1
  dsimp only [Zaha,LT.den]
  exact tL ⟨oa0,cl⟩ (by unfold Zvr lt6;dsimp only;omega)
 .intro s hs
  cases s with
  | L0 v0 v1 v5 v6=>
   obtain⟨ov0,cv6⟩:=hs
   have lb_v0:=ov0.1
   show Tot (Z2q v0 v1 v5 v6).den _
   dsimp only [Z2q,LT.den]
   have q1:=ov0.1
   refine tD (fun h2=>?_) (fun h2=>?_)
   .refine tB (tI (by omega) (by omega)) (fun x3 h4=>?_)
    refine tE (fun h5=>?_) (fun h5=>?_)
    .refine qw (v5+1) fun q6 q7=>?_
     refine qw (v6+1) fun q8 q9=>?_
     exact tL ⟨ov0,cl⟩ (by unfold Zvr lt6;dsimp only;omega)
    .refine qw (v6+1) fun q10 q11=>?_
     exact tL ⟨ov0,cl⟩ (by unfold Zvr lt6;dsimp only;omega)
   .exact tR trivial
def Zaxy:Zuk->Prop
 | .L0 v1 v2 v3 E0 v9=>((SzL 8 (fun _=>True)) v1)/\(Z9 E0)/\(0<=v9)
def Zxp:Zuk->M6
 | .L0 v1 v2 v3 E0 v9=>(1,((v1.length:Int) - v9).toNat,1000000,0,0,0)
theorem Zp3{a0:Zl}{a1:List Int}{a2:Int}{a3:Int}(oa0:Z9 a0)(oa1:(SzL 8 (fun _=>True)) a1):Tot (Zajf a0 a1 a2 a3) (fun r=>True):=by
 unfold Zajf
 refine tX (Inv:=Zaxy) (μ:=Zxp) (m:=(1000000,0,0,0,0,0)) ?_ ?_
 .have lb_a1:=oa1.1
  dsimp only [Zamz,LT.den]
  exact tL ⟨oa1,oa0,cl⟩ (by unfold Zxp lt6;dsimp only;omega)
 .intro s hs
  cases s with
  | L0 v1 v2 v3 E0 v9=>
   obtain⟨ov1,O0,cv9⟩:=hs
   have lb_v1:=ov1.1
   show Tot (Z6p v1 v2 v3 E0 v9).den _
   dsimp only [Z6p,LT.den]
   have q1:=ov1.1
   refine tD (fun h2=>?_) (fun h2=>?_)
   .refine tB (tI (by omega) (by omega)) (fun x3 h4=>?_)
    refine tB (Z86 O0) (fun x5 h6=>?_)
    refine tO (fun h7=>?_) (fun h7=>?_)
    .exact tR trivial
    .refine tN (fun h8=>?_) (fun h8=>?_)
     .exact tR trivial
     .refine tD (fun h9=>?_) (fun h9=>?_)
      .refine tN (fun h10=>?_) (fun h10=>?_)
       .exact tR trivial
       .refine tB (Z0p ov1) (fun x11 h12=>?_)
        refine tN (fun h13=>?_) (fun h13=>?_)
        .exact tR trivial
        .refine qw (v9+1) fun q14 q15=>?_
         exact tL ⟨ov1,O0,cl⟩ (by unfold Zxp lt6;dsimp only;omega)
      .refine tB (Z0p ov1) (fun x16 h17=>?_)
       refine tN (fun h18=>?_) (fun h18=>?_)
       .exact tR trivial
       .refine qw (v9+1) fun q19 q20=>?_
        exact tL ⟨ov1,O0,cl⟩ (by unfold Zxp lt6;dsimp only;omega)
   .exact tR trivial
def Zan7:Zny->Prop
 | .L0 E0 v3=>(Z9 E0)/\(0<=v3)
def Zw8:Zny->M6
 | .L0 E0 v3=>(1,((E0.Players.length:Int) - v3).toNat,1000000,0,0,0)
theorem Zan8{a0:Zl}(oa0:Z9 a0):Tot (Z6q a0) (fun r=>True):=by
 unfold Z6q
 refine tX (Inv:=Zan7) (μ:=Zw8) (m:=(1000000,0,0,0,0,0)) ?_ ?_
 .dsimp only [Zabb,LT.den]
  have q1:=oa0.1.1
  refine tB (Zet) (fun x2 h3=>?_)
  have eh3_0:=h3
  refine tO (fun h4=>?_) (fun h4=>?_)
  .exact tR trivial
  .exact tL ⟨oa0,cl⟩ (by unfold Zw8 lt6;dsimp only;omega)
 .intro s hs
  cases s with
  | L0 E0 v3=>
   obtain⟨O0,cv3⟩:=hs
   show Tot (Zwq E0 v3).den _
   dsimp only [Zwq,LT.den]
   have q1:=O0.1.1
   refine tD (fun h2=>?_) (fun h2=>?_)
   .refine tB (tI (by omega) (by omega)) (fun x3 h4=>?_)
    have oh4:Zk0 x3:=O0.1.2 x3 h4.1
    refine tB (Zet) (fun x5 h6=>?_)
    have eh6_0:=h6
    refine tO (fun h7=>?_) (fun h7=>?_)
    .exact tR trivial
    .refine tB (Zet) (fun x8 h9=>?_)
     have eh9_0:=h9
     refine tO (fun h10=>?_) (fun h10=>?_)
     .exact tR trivial
     .refine tB (Zet) (fun x11 h12=>?_)
      have eh12_0:=h12
      refine tO (fun h13=>?_) (fun h13=>?_)
      .exact tR trivial
      .refine tB (Zaso) (fun x14 h15=>?_)
       refine tO (fun h16=>?_) (fun h16=>?_)
       .exact tR trivial
       .refine tB (Zp3 O0 oh4.1) (fun x17 h18=>?_)
        refine tO (fun h19=>?_) (fun h19=>?_)
        .exact tR trivial
        .refine tB (Zp3 O0 oh4.2.1) (fun x20 h21=>?_)
         refine tO (fun h22=>?_) (fun h22=>?_)
         .exact tR trivial
         .refine tB (Zp3 O0 oh4.2.2) (fun x23 h24=>?_)
          refine tO (fun h25=>?_) (fun h25=>?_)
          .exact tR trivial
          .refine qw (v3+1) fun q26 q27=>?_
           exact tL ⟨O0,cl⟩ (by unfold Zw8 lt6;dsimp only;omega)
   .refine tB (Zp3 O0 O0.2.2.1) (fun x28 h29=>?_)
    refine tF (fun h30=>?_) (fun h30=>?_)
    .refine tB (Zp3 O0 O0.2.2.2.1) (fun x31 h32=>?_)
     exact tR trivial
    .exact tR trivial
theorem Zhv{a0:Zl}{a1:Int}(oa0:Z9 a0):Tot (Z93 a0 a1) (fun r=>(r=true↔(0<=a1/\a1 < (a0.Players.length:Int)))):=by
 unfold Z93
 refine tZ ?_
 dsimp only [Zadm,LT.den]
 have q1:=oa0.1.1
 refine qw ((a0.Players.length:Int) - 1) fun q2 q3=>?_
 refine tB (Zet) (fun x4 h5=>?_)
 have eh5_0:=h5
 exact tR (by grind)
def Za2n:Z2s->Prop
 | .L0 E0 v3=>(0<=v3)/\True
def Zaev:Z2s->M6
 | .L0 E0 v3=>(1,(3 - v3).toNat,1000000,0,0,0)
theorem Za2o{a0:A3 Int}:Tot (Zawc a0) (fun r=>True):=by
 unfold Zawc
 refine tX (Inv:=Za2n) (μ:=Zaev) (m:=(1000000,0,0,0,0,0)) ?_ ?_
 .dsimp only [Zawa,LT.den]
  exact tL ⟨cl,trivial⟩ (by unfold Zaev lt6;dsimp only;omega)
 .intro s hs
  cases s with
  | L0 E0 v3=>
   obtain⟨cv3,_⟩:=hs
   show Tot (Zado E0 v3).den _
   dsimp only [Zado,LT.den]
   refine tD (fun h1=>?_) (fun h1=>?_)
   .refine tB (tI (by omega) (by have e:(A3.list E0).length=3:=rfl;omega)) (fun x2 h3=>?_)
    refine tD (fun h4=>?_) (fun h4=>?_)
    .exact tR trivial
    .refine tB (tI (by omega) (by have e:(A3.list E0).length=3:=rfl;omega)) (fun x5 h6=>?_)
     refine tD (fun h7=>?_) (fun h7=>?_)
     .exact tR trivial
     .refine qw (v3+1) fun q8 q9=>?_
      exact tL ⟨cl,trivial⟩ (by unfold Zaev lt6;dsimp only;omega)
   .exact tR trivial
theorem Zaxz{a0:Ze}:Tot (Zajg a0) (fun r=>True):=by
 unfold Zajg
 refine tZ ?_
 dsimp only [Zam1,LT.den]
 exact tR trivial
theorem Zass{a0:Ze}:Tot (Zadp a0) (fun r=>True):=by
 unfold Zadp
 refine tZ ?_
 dsimp only [Zahc,LT.den]
 exact tR trivial
theorem Za2p{a0:Ze}{a1:Int}{a2:Int}:Tot (Zawg a0 a1 a2) (fun r=>(r=true->1<=a0.Id)):=by
 unfold Zawg
 refine tZ ?_
 dsimp only [Zawe,LT.den]
 refine tD (fun h1=>?_) (fun h1=>?_)
 .exact tR (by intro hr;cases hr)
 .refine tD (fun h2=>?_) (fun h2=>?_)
  .exact tR (by intro hr;cases hr)
  .refine tD (fun h3=>?_) (fun h3=>?_)
   .exact tR (by intro hr;cases hr)
   .refine tD (fun h4=>?_) (fun h4=>?_)
    .exact tR (by intro hr;cases hr)
    .refine tD (fun h5=>?_) (fun h5=>?_)
     .exact tR (by intro hr;cases hr)
     .refine tD (fun h6=>?_) (fun h6=>?_)
      .exact tR (by intro hr;cases hr)
      .refine tD (fun h7=>?_) (fun h7=>?_)
       .exact tR (by intro hr;cases hr)
       .refine tD (fun h8=>?_) (fun h8=>?_)
        .exact tR (by intro hr;cases hr)
        .refine tD (fun h9=>?_) (fun h9=>?_)
         .exact tR (by intro hr;cases hr)
         .refine tD (fun h10=>?_) (fun h10=>?_)
          .exact tR (by intro hr;cases hr)
          .refine tD (fun h11=>?_) (fun h11=>?_)
           .exact tR (by intro hr;cases hr)
           .refine tD (fun h12=>?_) (fun h12=>?_)
            .exact tR (by intro hr;cases hr)
            .refine tD (fun h13=>?_) (fun h13=>?_)
             .exact tR (by intro hr;cases hr)
             .refine tD (fun h14=>?_) (fun h14=>?_)
              .exact tR (by intro hr;cases hr)
              .refine tD (fun h15=>?_) (fun h15=>?_)
               .exact tR (by intro hr;cases hr)
               .refine tD (fun h16=>?_) (fun h16=>?_)
                .exact tR (by intro hr;cases hr)
                .refine tD (fun h17=>?_) (fun h17=>?_)
                 .exact tR (by intro hr;cases hr)
                 .refine tB (Za2o) (fun x18 h19=>?_)
                  refine tO (fun h20=>?_) (fun h20=>?_)
                  .exact tR (by intro hr;cases hr)
                  .refine tD (fun h21=>?_) (fun h21=>?_)
                   .exact tR (by intro hr;cases hr)
                   .refine tD (fun h22=>?_) (fun h22=>?_)
                    .exact tR (by intro hr;cases hr)
                    .refine tD (fun h23=>?_) (fun h23=>?_)
                     .exact tR (by intro hr;cases hr)
                     .refine tD (fun h24=>?_) (fun h24=>?_)
                      .exact tR (by intro hr;cases hr)
                      .refine tE (fun h25=>?_) (fun h25=>?_)
                       .exact tR (by intro hr;first | omega | (cases hr;done))
                       .refine tB (Zaxz) (fun x26 h27=>?_)
                        refine tF (fun h28=>?_) (fun h28=>?_)
                        .refine tB (Zass) (fun x29 h30=>?_)
                         refine tF (fun h31=>?_) (fun h31=>?_)
                         .refine tO (fun h32=>?_) (fun h32=>?_)
                          .refine tO (fun h33=>?_) (fun h33=>?_)
                           .exact tR (by intro hr;first | omega | (cases hr;done))
                           .exact tR (by intro hr;cases hr)
                          .exact tR (by intro hr;cases hr)
                         .exact tR (by intro hr;cases hr)
                        .exact tR (by intro hr;cases hr)
def Zap1:Zpg->Prop
 | .L0 v1 E0 v5 v6=>(Z9 E0)/\(0<=v6)
def Zod:Zpg->M6
 | .L0 v1 E0 v5 v6=>(1,((E0.Stack.length:Int) - v6).toNat,1000000,0,0,0)
theorem Zap2{a0:Zl}{a1:Int}(oa0:Z9 a0):Tot (Z94 a0 a1) (fun r=>True):=by
 unfold Z94
 refine tX (Inv:=Zap1) (μ:=Zod) (m:=(1000000,0,0,0,0,0)) ?_ ?_
 .dsimp only [Zadq,LT.den]
  exact tL ⟨oa0,cl⟩ (by unfold Zod lt6;dsimp only;omega)
 .intro s hs
  cases s with
  | L0 v1 E0 v5 v6=>
   obtain⟨O0,cv6⟩:=hs
   show Tot (Zzm v1 E0 v5 v6).den _
   dsimp only [Zzm,LT.den]
   have q1:=O0.2.2.2.2.1.1
   refine tD (fun h2=>?_) (fun h2=>?_)
   .refine tB (tI (by omega) (by omega)) (fun x3 h4=>?_)
    have oh4:Zlt x3:=O0.2.2.2.2.1.2 x3 h4.1
    refine tE (fun h5=>?_) (fun h5=>?_)
    .refine tE (fun h6=>?_) (fun h6=>?_)
     .refine qw (v5+1) fun q7 q8=>?_
      refine qw (v6+1) fun q9 q10=>?_
      exact tL ⟨O0,cl⟩ (by unfold Zod lt6;dsimp only;omega)
     .refine qw (v6+1) fun q11 q12=>?_
      exact tL ⟨O0,cl⟩ (by unfold Zod lt6;dsimp only;omega)
    .refine qw (v6+1) fun q13 q14=>?_
     exact tL ⟨O0,cl⟩ (by unfold Zod lt6;dsimp only;omega)
   .exact tR trivial
theorem Zp4{a0:List Int}(oa0:(SzL 8 (fun _=>True)) a0):Tot (Zajh a0) (fun r=>((SzL 8 (fun _=>True)) r)):=by
 unfold Zajh
 refine tZ ?_
 have lb_a0:=oa0.1
 dsimp only [Zam3,LT.den]
 have q3:=oa0.1
 refine tB (tA (by first | omega | (simp only [List.length_cons,List.length_nil];omega)) (by decide)) (fun x1 h2=>?_)
 have lh2:x1.length=([]:List Int).length+a0.length:=by rw [h2,List.length_append]
 try simp only [List.length_cons,List.length_nil,Nat.zero_add] at lh2
 exact tR SzL.tr
theorem Zax0{a0:Zl}{a1:Int}{a2:Int}(oa0:Z9 a0):Tot (Z95 a0 a1 a2) (fun r=>((SzL 8 (fun _=>True)) r)):=by
 unfold Z95
 refine tZ ?_
 dsimp only [Zam5,LT.den]
 refine tE (fun h1=>?_) (fun h1=>?_)
 .refine tB (Zp4 oa0.2.2.1) (fun x2 h3=>?_)
  exact tR h3
 .refine tE (fun h4=>?_) (fun h4=>?_)
  .refine tB (Zp4 oa0.2.2.2.1) (fun x5 h6=>?_)
   exact tR h6
  .refine tD (fun h7=>?_) (fun h7=>?_)
   .exact tR SzL.nil
   .have q8:=oa0.1.1
    refine tD (fun h9=>?_) (fun h9=>?_)
    .exact tR SzL.nil
    .refine tE (fun h10=>?_) (fun h10=>?_)
     .refine tB (tI (by omega) (by omega)) (fun x11 h12=>?_)
      have oh12:Zk0 x11:=oa0.1.2 x11 h12.1
      refine tB (Zp4 oh12.2.1) (fun x13 h14=>?_)
      exact tR h14
     .refine tE (fun h15=>?_) (fun h15=>?_)
      .refine tB (tI (by omega) (by omega)) (fun x16 h17=>?_)
       have oh17:Zk0 x16:=oa0.1.2 x16 h17.1
       refine tB (Zp4 oh17.1) (fun x18 h19=>?_)
       exact tR h19
      .refine tE (fun h20=>?_) (fun h20=>?_)
       .refine tB (tI (by omega) (by omega)) (fun x21 h22=>?_)
        have oh22:Zk0 x21:=oa0.1.2 x21 h22.1
        refine tB (Zp4 oh22.2.2) (fun x23 h24=>?_)
        exact tR h24
       .exact tR SzL.nil
theorem Z87{a0:Zl}{a1:Ze}(oa0:Z9 a0):Tot (Z96 a0 a1) (fun r=>True):=by
 unfold Z96
 refine tZ ?_
 dsimp only [Zads,LT.den]
 refine tE (fun h1=>?_) (fun h1=>?_)
 .refine tB (Zap2 oa0) (fun x2 h3=>?_)
  exact tR trivial
 .refine tB (Zax0 oa0) (fun x4 h5=>?_)
  refine tB (Z0p h5) (fun x6 h7=>?_)
  exact tR trivial
def Zan9(a0:List Zn)(a1:Zl):Znz->Prop
 | .L0 v0 E0 v5=>(v0=a0)/\(E0=a1)/\((SzL 176 Zad) v0)/\(Z9 E0)/\(0<=v5)/\(Cons E0.Objects v5)
def Zqt:Znz->M6
 | .L0 v0 E0 v5=>(1,((E0.Objects.length:Int) - v5).toNat,1000000,0,0,0)
theorem Zov{a0:List Zn}{a1:Zl}(oa0:(SzL 176 Zad) a0)(oa1:Z9 a1):Tot (Z6r a0 a1) (fun r=>(r=true->Ids a1.Objects)/\(r=true->Zq9 a1.Objects)):=by
 unfold Z6r
 refine tX (Inv:=(Zan9 a0 a1)) (μ:=Zqt) (m:=(1000000,0,0,0,0,0)) ?_ ?_
 .have lb_a0:=oa0.1
  dsimp only [Zabe,LT.den]
  have q1:=oa1.2.1.1
  refine tD (fun h2=>?_) (fun h2=>?_)
  .exact tR ⟨(by first | (intro hr;exact absurd hr (by decide)) | exact fun _=>Zp0 (v:=v5) ‹_› (by omega)),(by first | (intro hr;exact absurd hr (by decide)) | exact fun _=>Ztn (v:=v5) ‹_› (by omega))⟩
  .exact tL ⟨rfl,rfl,oa0,oa1,cl,(by first | exact Zaw4 | exact Ztl (v:=v5) ‹_› ‹_› (by omega) (by omega) (Zaw5 (v:=v5) ‹_› (by omega) ‹_›) (by omega) | exact Ztl (v:=v5) ‹_› ‹_› (by omega) (by omega) (fun y hv _=>absurd hv (by omega)) (by omega))⟩ (by unfold Zqt lt6;dsimp only;omega)
 .intro s hs
  cases s with
  | L0 v0 E0 v5=>
   obtain⟨al0,al1,ov0,O0,cv5,i0⟩:=hs
   have lb_v0:=ov0.1
   subst al0
   subst al1
   show Tot (Zwr v0 E0 v5).den _
   dsimp only [Zwr,LT.den]
   have q1:=O0.2.1.1
   refine tD (fun h2=>?_) (fun h2=>?_)
   .refine tB (tI (by omega) (by omega)) (fun x3 h4=>?_)
    have mh4:=h4.2
    have q5:=ov0.1
    have q6:=O0.1.1
    refine tB (Za2p) (fun x7 h8=>?_)
    have eh8_0:=h8
    refine tO (fun h9=>?_) (fun h9=>?_)
    .exact tR ⟨(by first | (intro hr;exact absurd hr (by decide)) | exact fun _=>Zp0 (v:=v5) ‹_› (by omega)),(by first | (intro hr;exact absurd hr (by decide)) | exact fun _=>Ztn (v:=v5) ‹_› (by omega))⟩
    .have h9_0:=eh8_0 h9
     refine tD (fun h10=>?_) (fun h10=>?_)
     .exact tR ⟨(by first | (intro hr;exact absurd hr (by decide)) | exact fun _=>Zp0 (v:=v5) ‹_› (by omega)),(by first | (intro hr;exact absurd hr (by decide)) | exact fun _=>Ztn (v:=v5) ‹_› (by omega))⟩
     .refine tD (fun h11=>?_) (fun h11=>?_)
      .exact tR ⟨(by first | (intro hr;exact absurd hr (by decide)) | exact fun _=>Zp0 (v:=v5) ‹_› (by omega)),(by first | (intro hr;exact absurd hr (by decide)) | exact fun _=>Ztn (v:=v5) ‹_› (by omega))⟩
      .refine tD (fun h12=>?_) (fun h12=>?_)
       .refine qw (v5 - 1) fun q13 q14=>?_
        refine tB (tI (by omega) (by omega)) (fun x15 h16=>?_)
        have mh16:=h16.2
        refine tD (fun h17=>?_) (fun h17=>?_)
        .exact tR ⟨(by first | (intro hr;exact absurd hr (by decide)) | exact fun _=>Zp0 (v:=v5) ‹_› (by omega)),(by first | (intro hr;exact absurd hr (by decide)) | exact fun _=>Ztn (v:=v5) ‹_› (by omega))⟩
        .refine tB (Z87 O0) (fun x18 h19=>?_)
         refine tO (fun h20=>?_) (fun h20=>?_)
         .exact tR ⟨(by first | (intro hr;exact absurd hr (by decide)) | exact fun _=>Zp0 (v:=v5) ‹_› (by omega)),(by first | (intro hr;exact absurd hr (by decide)) | exact fun _=>Ztn (v:=v5) ‹_› (by omega))⟩
         .refine qw (v5+1) fun q21 q22=>?_
          exact tL ⟨rfl,rfl,ov0,O0,cl,(by first | exact Zaw4 | exact Ztl (v:=v5) ‹_› ‹_› (by omega) (by omega) (Zaw5 (v:=v5) ‹_› (by omega) ‹_›) (by omega) | exact Ztl (v:=v5) ‹_› ‹_› (by omega) (by omega) (fun y hv _=>absurd hv (by omega)) (by omega))⟩ (by unfold Zqt lt6;dsimp only;omega)
       .refine tB (Z87 O0) (fun x23 h24=>?_)
        refine tO (fun h25=>?_) (fun h25=>?_)
        .exact tR ⟨(by first | (intro hr;exact absurd hr (by decide)) | exact fun _=>Zp0 (v:=v5) ‹_› (by omega)),(by first | (intro hr;exact absurd hr (by decide)) | exact fun _=>Ztn (v:=v5) ‹_› (by omega))⟩
        .refine qw (v5+1) fun q26 q27=>?_
         exact tL ⟨rfl,rfl,ov0,O0,cl,(by first | exact Zaw4 | exact Ztl (v:=v5) ‹_› ‹_› (by omega) (by omega) (Zaw5 (v:=v5) ‹_› (by omega) ‹_›) (by omega) | exact Ztl (v:=v5) ‹_› ‹_› (by omega) (by omega) (fun y hv _=>absurd hv (by omega)) (by omega))⟩ (by unfold Zqt lt6;dsimp only;omega)
   .exact tR ⟨(by first | (intro hr;exact absurd hr (by decide)) | exact fun _=>Zp0 (v:=v5) ‹_› (by omega)),(by first | (intro hr;exact absurd hr (by decide)) | exact fun _=>Ztn (v:=v5) ‹_› (by omega))⟩
def Zakc:Zmf->Prop
 | .L0 v0 v1 v5=>((SzL 176 Zu) v0)/\((SzL 176 Zu) v1)/\(0<=v5)/\(v0.length=v1.length)
def Zvs:Zmf->M6
 | .L0 v0 v1 v5=>(1,((v0.length:Int) - v5).toNat,1000000,0,0,0)
theorem Z32{a0:List Zi}{a1:List Zi}(oa0:(SzL 176 Zu) a0)(oa1:(SzL 176 Zu) a1):Tot (Z2t a0 a1) (fun r=>True):=by
 unfold Z2t
 refine tX (Inv:=Zakc) (μ:=Zvs) (m:=(1000000,0,0,0,0,0)) ?_ ?_
 .have lb_a0:=oa0.1
  have lb_a1:=oa1.1
  dsimp only [Z8f,LT.den]
  have q1:=oa0.1
  have q2:=oa1.1
  refine tN (fun h3=>?_) (fun h3=>?_)
  .exact tR trivial
  .exact tL ⟨oa0,oa1,cl,cl⟩ (by unfold Zvs lt6;dsimp only;omega)
 .intro s hs
  cases s with
  | L0 v0 v1 v5=>
   obtain⟨ov0,ov1,cv5,i0⟩:=hs
   have lb_v0:=ov0.1
   have lb_v1:=ov1.1
   show Tot (Zul v0 v1 v5).den _
   dsimp only [Zul,LT.den]
   have q1:=ov0.1
   refine tD (fun h2=>?_) (fun h2=>?_)
   .refine tB (tI (by omega) (by omega)) (fun x3 h4=>?_)
    have oh4:Zu x3:=ov0.2 x3 h4.1
    refine tB (tI (by omega) (by omega)) (fun x5 h6=>?_)
    have oh6:Zu x5:=ov1.2 x5 h6.1
    refine tO (fun h7=>?_) (fun h7=>?_)
    .exact tR trivial
    .refine qw (v5+1) fun q8 q9=>?_
     exact tL ⟨ov0,ov1,cl,cl⟩ (by unfold Zvs lt6;dsimp only;omega)
   .exact tR trivial
theorem Zax1{a0:Zs}{a1:Zs}(oa0:Z8 a0)(oa1:Z8 a1):Tot (Zaji a0 a1) (fun r=>True):=by
 unfold Zaji
 refine tZ ?_
 dsimp only [Zam7,LT.den]
 refine tE (fun h1=>?_) (fun h1=>?_)
 .refine tF (fun h2=>?_) (fun h2=>?_)
  .refine tF (fun h3=>?_) (fun h3=>?_)
   .refine tE (fun h4=>?_) (fun h4=>?_)
    .refine tE (fun h5=>?_) (fun h5=>?_)
     .refine tF (fun h6=>?_) (fun h6=>?_)
      .refine tF (fun h7=>?_) (fun h7=>?_)
       .refine tF (fun h8=>?_) (fun h8=>?_)
        .refine tB (Z32 oa0.2.2.2.2 oa1.2.2.2.2) (fun x9 h10=>?_)
         exact tR trivial
        .exact tR trivial
       .exact tR trivial
      .exact tR trivial
     .exact tR trivial
    .exact tR trivial
   .exact tR trivial
  .exact tR trivial
 .exact tR trivial
def Zakd:Zmg->Prop
 | .L0 v0 v1 v5=>((SzL 560 Z8) v0)/\((SzL 560 Z8) v1)/\(0<=v5)/\(v0.length=v1.length)
def Zvt:Zmg->M6
 | .L0 v0 v1 v5=>(1,((v0.length:Int) - v5).toNat,1000000,0,0,0)
theorem Zake{a0:List Zs}{a1:List Zs}(oa0:(SzL 560 Z8) a0)(oa1:(SzL 560 Z8) a1):Tot (Z2u a0 a1) (fun r=>True):=by
 unfold Z2u
 refine tX (Inv:=Zakd) (μ:=Zvt) (m:=(1000000,0,0,0,0,0)) ?_ ?_
 .have lb_a0:=oa0.1
  have lb_a1:=oa1.1
  dsimp only [Z8h,LT.den]
  have q1:=oa0.1
  have q2:=oa1.1
  refine tN (fun h3=>?_) (fun h3=>?_)
  .exact tR trivial
  .exact tL ⟨oa0,oa1,cl,cl⟩ (by unfold Zvt lt6;dsimp only;omega)
 .intro s hs
  cases s with
  | L0 v0 v1 v5=>
   obtain⟨ov0,ov1,cv5,i0⟩:=hs
   have lb_v0:=ov0.1
   have lb_v1:=ov1.1
   show Tot (Zum v0 v1 v5).den _
   dsimp only [Zum,LT.den]
   have q1:=ov0.1
   refine tD (fun h2=>?_) (fun h2=>?_)
   .refine tB (tI (by omega) (by omega)) (fun x3 h4=>?_)
    have oh4:Z8 x3:=ov0.2 x3 h4.1
    refine tB (tI (by omega) (by omega)) (fun x5 h6=>?_)
    have oh6:Z8 x5:=ov1.2 x5 h6.1
    refine tB (Zax1 oh4 oh6) (fun x7 h8=>?_)
    refine tO (fun h9=>?_) (fun h9=>?_)
    .exact tR trivial
    .refine qw (v5+1) fun q10 q11=>?_
     exact tL ⟨ov0,ov1,cl,cl⟩ (by unfold Zvt lt6;dsimp only;omega)
   .exact tR trivial
def Zax2:Zun->Prop
 | .L0 E0 E1 v5=>(Z3 E0)/\(Z3 E1)/\(0<=v5)/\(E0.Specs.length=E1.Specs.length)
def Z7m:Zun->M6
 | .L0 E0 E1 v5=>(1,((E0.Specs.length:Int) - v5).toNat,1000000,0,0,0)
theorem Zax3{a0:Zg}{a1:Zg}(oa0:Z3 a0)(oa1:Z3 a1):Tot (Zajj a0 a1) (fun r=>True):=by
 unfold Zajj
 refine tX (Inv:=Zax2) (μ:=Z7m) (m:=(1000000,0,0,0,0,0)) ?_ ?_
 .dsimp only [Zana,LT.den]
  have q1:=oa0.2.2.2.1.1
  have q2:=oa1.2.2.2.1.1
  refine tN (fun h3=>?_) (fun h3=>?_)
  .exact tR trivial
  .exact tL ⟨oa0,oa1,cl,cl⟩ (by unfold Z7m lt6;dsimp only;omega)
 .intro s hs
  cases s with
  | L0 E0 E1 v5=>
   obtain⟨O0,O1,cv5,i0⟩:=hs
   show Tot (Z6s E0 E1 v5).den _
   dsimp only [Z6s,LT.den]
   have q1:=O0.2.2.2.1.1
   refine tD (fun h2=>?_) (fun h2=>?_)
   .refine tB (tI (by omega) (by omega)) (fun x3 h4=>?_)
    have oh4:Ze6 x3:=O0.2.2.2.1.2 x3 h4.1
    refine tB (tI (by omega) (by omega)) (fun x5 h6=>?_)
    have oh6:Ze6 x5:=O1.2.2.2.1.2 x5 h6.1
    refine tO (fun h7=>?_) (fun h7=>?_)
    .exact tR trivial
    .refine qw (v5+1) fun q8 q9=>?_
     exact tL ⟨O0,O1,cl,cl⟩ (by unfold Z7m lt6;dsimp only;omega)
   .refine tE (fun h10=>?_) (fun h10=>?_)
    .refine tF (fun h11=>?_) (fun h11=>?_)
     .refine tB (Z32 O0.2.1 O1.2.1) (fun x12 h13=>?_)
      refine tF (fun h14=>?_) (fun h14=>?_)
      .refine tF (fun h15=>?_) (fun h15=>?_)
       .refine tF (fun h16=>?_) (fun h16=>?_)
        .refine tF (fun h17=>?_) (fun h17=>?_)
         .refine tF (fun h18=>?_) (fun h18=>?_)
          .refine tB (Zake O0.2.2.2.2.1 O1.2.2.2.2.1) (fun x19 h20=>?_)
           refine tF (fun h21=>?_) (fun h21=>?_)
           .exact tR trivial
           .exact tR trivial
          .exact tR trivial
         .exact tR trivial
        .exact tR trivial
       .exact tR trivial
      .exact tR trivial
     .exact tR trivial
    .exact tR trivial
theorem Zax4{a0:Zl}{a1:Znh}(oa0:Z9 a0)(oa1:Zlt a1):Tot (Zajk a0 a1) (fun r=>True):=by
 unfold Zajk
 refine tZ ?_
 dsimp only [Zanc,LT.den]
 refine qw (a0.NextId - 1) fun q1 q2=>?_
 refine tB (Zet) (fun x3 h4=>?_)
 have eh4_0:=h4
 refine tO (fun h5=>?_) (fun h5=>?_)
 .exact tR trivial
 .refine tB (Zet) (fun x6 h7=>?_)
  have eh7_0:=h7
  refine tO (fun h8=>?_) (fun h8=>?_)
  .exact tR trivial
  .have q9:=oa1.2.1
   refine tD (fun h10=>?_) (fun h10=>?_)
   .exact tR trivial
   .refine tB (Zhv oa0) (fun x11 h12=>?_)
    have eh12_0:=h12
    refine tO (fun h13=>?_) (fun h13=>?_)
    .exact tR trivial
    .refine tB (Z86 oa0) (fun x14 h15=>?_)
     refine tE (fun h16=>?_) (fun h16=>?_)
     .refine tB (Zax3 oa1.1 ⟨SzS.nil,SzL.nil,SzS.nil,SzL.nil,SzL.nil,SzS.nil⟩) (fun x17 h18=>?_)
      refine tE (fun h19=>?_) (fun h19=>?_)
      .refine tF (fun h20=>?_) (fun h20=>?_)
       .refine tE (fun h21=>?_) (fun h21=>?_)
        .refine tF (fun h22=>?_) (fun h22=>?_)
         .exact tR trivial
         .refine tB (Z1h oa1.1) (fun x23 h24=>?_)
          exact tR trivial
        .exact tR trivial
       .exact tR trivial
      .exact tR trivial
     .refine tE (fun h25=>?_) (fun h25=>?_)
      .refine tO (fun h26=>?_) (fun h26=>?_)
       .refine tB (Z1h oa1.1) (fun x27 h28=>?_)
        exact tR trivial
       .exact tR trivial
      .exact tR trivial
def Za2q:Z2v->Prop
 | .L0 v0 v3=>((SzL 8 (fun _=>True)) v0)/\(0<=v3)/\(1<=v3)
def Zaew:Z2v->M6
 | .L0 v0 v3=>(1,((v0.length:Int) - v3).toNat,1000000,0,0,0)
theorem Za2r{a0:List Int}(oa0:(SzL 8 (fun _=>True)) a0):Tot (Zawk a0) (fun r=>True):=by
 unfold Zawk
 refine tX (Inv:=Za2q) (μ:=Zaew) (m:=(1000000,0,0,0,0,0)) ?_ ?_
 .have lb_a0:=oa0.1
  dsimp only [Zawi,LT.den]
  exact tL ⟨oa0,cl,cl⟩ (by unfold Zaew lt6;dsimp only;omega)
 .intro s hs
  cases s with
  | L0 v0 v3=>
   obtain⟨ov0,cv3,i0⟩:=hs
   have lb_v0:=ov0.1
   show Tot (Zadu v0 v3).den _
   dsimp only [Zadu,LT.den]
   have q1:=ov0.1
   refine tD (fun h2=>?_) (fun h2=>?_)
   .refine qw (v3 - 1) fun q3 q4=>?_
    refine tB (tI (by omega) (by omega)) (fun x5 h6=>?_)
    refine tB (tI (by omega) (by omega)) (fun x7 h8=>?_)
    refine tD (fun h9=>?_) (fun h9=>?_)
    .exact tR trivial
    .refine qw (v3+1) fun q10 q11=>?_
     exact tL ⟨ov0,cl,cl⟩ (by unfold Zaew lt6;dsimp only;omega)
   .exact tR trivial
def Zast(a0:Zl):Zjx->Prop
 | .L0 E0 v3=>(E0=a0)/\(Z9 E0)/\(0<=v3)/\(E0.Conts.length<=64)
 | .L1 E0 v3 v4=>(E0=a0)/\(Z9 E0)/\(0<=v4)/\(0<=v3)/\(v3 < (E0.Stack.length:Int))/\(E0.Conts.length<=64)
 | .L2 E0 v5=>(E0=a0)/\(Z9 E0)/\(0<=v5)/\(E0.Conts.length<=64)
 | .L3 E0 v7=>(E0=a0)/\(Z9 E0)/\(0<=v7)/\(E0.Conts.length<=64)
def Zg9:Zjx->M6
 | .L0 E0 v3=>(5,((E0.Stack.length:Int) - v3).toNat,1000000,0,0,0)
 | .L1 E0 v3 v4=>(5,((E0.Stack.length:Int) - v3).toNat,1,(v3 - v4).toNat,1000000,0)
 | .L2 E0 v5=>(3,((E0.Waiting.length:Int) - v5).toNat,1000000,0,0,0)
 | .L3 E0 v7=>(1,((E0.Conts.length:Int) - v7).toNat,1000000,0,0,0)
theorem Zso{a0:Zl}(oa0:Z9 a0):Tot (Zadv a0) (fun r=>(r=true->a0.Conts.length<=64)):=by
 unfold Zadv
 refine tX (Inv:=(Zast a0)) (μ:=Zg9) (m:=(1000000,0,0,0,0,0)) ?_ ?_
 .dsimp only [Zahe,LT.den]
  have q1:=oa0.2.2.2.2.1.1
  refine tD (fun h2=>?_) (fun h2=>?_)
  .exact tR (by first | (intro hr;exact absurd hr (by decide)) | (intro _;omega))
  .have q3:=oa0.2.2.2.2.2.1.1
   refine tD (fun h4=>?_) (fun h4=>?_)
   .exact tR (by first | (intro hr;exact absurd hr (by decide)) | (intro _;omega))
   .have q5:=oa0.2.2.2.2.2.2.1.1
    refine tD (fun h6=>?_) (fun h6=>?_)
    .exact tR (by first | (intro hr;exact absurd hr (by decide)) | (intro _;omega))
    .exact tL ⟨rfl,oa0,cl,cl⟩ (by unfold Zg9 lt6;dsimp only;omega)
 .intro s hs
  cases s with
  | L0 E0 v3=>
   obtain⟨al0,O0,cv3,i0⟩:=hs
   subst al0
   show Tot (Z2w E0 v3).den _
   dsimp only [Z2w,LT.den]
   have q1:=O0.2.2.2.2.1.1
   refine tD (fun h2=>?_) (fun h2=>?_)
   .refine tB (tI (by omega) (by omega)) (fun x3 h4=>?_)
    have oh4:Zlt x3:=O0.2.2.2.2.1.2 x3 h4.1
    refine tB (Zax4 O0 oh4) (fun x5 h6=>?_)
    refine tO (fun h7=>?_) (fun h7=>?_)
    .exact tR (by first | (intro hr;exact absurd hr (by decide)) | (intro _;omega))
    .exact tL ⟨rfl,O0,cl,cl,cl,cl⟩ (by unfold Zg9 lt6;dsimp only;omega)
   .exact tL ⟨rfl,O0,cl,cl⟩ (by unfold Zg9 lt6;dsimp only;omega)
  | L1 E0 v3 v4=>
   obtain⟨al0,O0,cv4,cv3,bd4,i0⟩:=hs
   subst al0
   show Tot (Z2x E0 v3 v4).den _
   dsimp only [Z2x,LT.den]
   have lx_0:E0.Stack.length*824<=140737488351232:=O0.2.2.2.2.1.1
   refine tD (fun h1=>?_) (fun h1=>?_)
   .refine tB (tI (by omega) (by omega)) (fun x2 h3=>?_)
    have oh3:Zlt x2:=O0.2.2.2.2.1.2 x2 h3.1
    refine tB (tI (by omega) (by omega)) (fun x4 h5=>?_)
    have oh5:Zlt x4:=O0.2.2.2.2.1.2 x4 h5.1
    refine tE (fun h6=>?_) (fun h6=>?_)
    .exact tR (by first | (intro hr;exact absurd hr (by decide)) | (intro _;omega))
    .refine qw (v4+1) fun q7 q8=>?_
     exact tL ⟨rfl,O0,cl,cl,cl,cl⟩ (by unfold Zg9 lt6;dsimp only;omega)
   .refine qw (v3+1) fun q9 q10=>?_
    exact tL ⟨rfl,O0,cl,cl⟩ (by unfold Zg9 lt6;dsimp only;omega)
  | L2 E0 v5=>
   obtain⟨al0,O0,cv5,i0⟩:=hs
   subst al0
   show Tot (Z2y E0 v5).den _
   dsimp only [Z2y,LT.den]
   have q1:=O0.2.2.2.2.2.1.1
   refine tD (fun h2=>?_) (fun h2=>?_)
   .refine tB (tI (by omega) (by omega)) (fun x3 h4=>?_)
    have oh4:Zw6 x3:=O0.2.2.2.2.2.1.2 x3 h4.1
    refine tB (Zhv O0) (fun x5 h6=>?_)
    have eh6_0:=h6
    refine tO (fun h7=>?_) (fun h7=>?_)
    .exact tR (by first | (intro hr;exact absurd hr (by decide)) | (intro _;omega))
    .refine tN (fun h8=>?_) (fun h8=>?_)
     .exact tR (by first | (intro hr;exact absurd hr (by decide)) | (intro _;omega))
     .refine tB (Z1h oh4) (fun x9 h10=>?_)
      refine tO (fun h11=>?_) (fun h11=>?_)
      .exact tR (by first | (intro hr;exact absurd hr (by decide)) | (intro _;omega))
      .refine qw (v5+1) fun q12 q13=>?_
       exact tL ⟨rfl,O0,cl,cl⟩ (by unfold Zg9 lt6;dsimp only;omega)
   .exact tL ⟨rfl,O0,cl,cl⟩ (by unfold Zg9 lt6;dsimp only;omega)
  | L3 E0 v7=>
   obtain⟨al0,O0,cv7,i0⟩:=hs
   subst al0
   show Tot (Z2z E0 v7).den _
   dsimp only [Z2z,LT.den]
   have q1:=O0.2.2.2.2.2.2.1.1
   refine tD (fun h2=>?_) (fun h2=>?_)
   .refine tB (tI (by omega) (by omega)) (fun x3 h4=>?_)
    have oh4:Zr3 x3:=O0.2.2.2.2.2.2.1.2 x3 h4.1
    refine tB (Zhv O0) (fun x5 h6=>?_)
    have eh6_0:=h6
    refine tO (fun h7=>?_) (fun h7=>?_)
    .exact tR (by first | (intro hr;exact absurd hr (by decide)) | (intro _;omega))
    .refine tD (fun h8=>?_) (fun h8=>?_)
     .exact tR (by first | (intro hr;exact absurd hr (by decide)) | (intro _;omega))
     .refine tB (Zet) (fun x9 h10=>?_)
      have eh10_0:=h10
      refine tO (fun h11=>?_) (fun h11=>?_)
      .exact tR (by first | (intro hr;exact absurd hr (by decide)) | (intro _;omega))
      .refine tB (Za2r oh4.1) (fun x12 h13=>?_)
       refine tO (fun h14=>?_) (fun h14=>?_)
       .exact tR (by first | (intro hr;exact absurd hr (by decide)) | (intro _;omega))
       .refine tB (Zs5 oh4.2) (fun x15 h16=>?_)
        have eh16_0:=h16
        refine tF (fun h17=>?_) (fun h17=>?_)
        .exact tR (by first | (intro hr;exact absurd hr (by decide)) | (intro _;omega))
        .refine qw (v7+1) fun q18 q19=>?_
         exact tL ⟨rfl,O0,cl,cl⟩ (by unfold Zg9 lt6;dsimp only;omega)
   .exact tR (by first | (intro hr;exact absurd hr (by decide)) | (intro _;omega))
end Go.PW
