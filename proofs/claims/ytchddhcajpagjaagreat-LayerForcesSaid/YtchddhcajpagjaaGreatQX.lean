import Derived.Test.YtchddhcajpagjaaGreatQE
import Derived.Test.YtchddhcajpagjaaGreatPwYc
import Derived.Test.YtchddhcajpagjaaGreatQDc
import Derived.Test.YtchddhcajpagjaaGreatQSd
set_option linter.all false
set_option maxRecDepth 100000
namespace Go.PW
abbrev Zne(x:Z6):Prop:=(SzL 16 SzT) x.Subs
theorem Zaj4{x:Z6}(h:Z1c x):Zne x:=(Zd4 h.2.2 (fun _ h=>Za26 h))
abbrev Zaq(x:Zc):Prop:=SzS x.Sub
theorem Zc8{x:Zc}(h:Zdb x):Zaq x:=(Zae1 h.2.2.2.2.2.2.2.1)
abbrev Z8(x:Zh):Prop:=SzS x.Sub/\Zaq x.Filter
theorem Zuw{x:Zh}(h:Zqg x):Z8 x:=⟨Zae1 h.2.2.2.1,Zc8 h.2.2.2.2⟩
abbrev Zl8(x:Zbx):Prop:=Zaq x.Filter
theorem Z9u{x:Zbx}(h:Zry x):Zl8 x:=(Zc8 h.2.2)
abbrev Zem(x:Zat):Prop:=Zaq x.Filter
theorem Zaj5{x:Zat}(h:Z1d x):Zem x:=(Zc8 h.2.2)
abbrev Zqi(x:Ze6):Prop:=Zaq x.Filter
theorem Zamp{x:Ze6}(h:Z38 x):Zqi x:=(Zc8 h.2.2)
abbrev Zux(x:Za9):Prop:=Zaq x.Filter
theorem Zadn{x:Za9}(h:Zur x):Zux x:=(Zc8 h.2.2.2)
abbrev Z7(x:Zs):Prop:=Zqi x.Ref/\Zux x.Amount/\SzS x.Card/\Zaq x.Filter/\(SzL 176 Z8) x.Mods
theorem Zado{x:Zs}(h:Zus x):Z7 x:=⟨Zamp h.2.1,Zadn h.2.2.1,Zae1 h.2.2.2.2.2.1,Zc8 h.2.2.2.2.2.2.1,Zd4 h.2.2.2.2.2.2.2.2 (fun _ h=>(Zuw h))⟩
abbrev Zdg(x:Zas):Prop:=Zaq x.Filter
theorem Z9v{x:Zas}(h:Zrz x):Zdg x:=(Zc8 h.2.2.1)
abbrev Z4(x:Ze):Prop:=Zaq x.Filter/\(SzL 176 Z8) x.Mods/\Zl8 x.Trigger/\(SzL 144 Zem) x.Specs/\(SzL 560 Z7) x.Effects/\Zdg x.Replace
theorem Zmp{x:Ze}(h:Zix x):Z4 x:=⟨Zc8 h.2.1,Zd4 h.2.2.1 (fun _ h=>(Zuw h)),Z9u h.2.2.2.2.2.1,Zd4 h.2.2.2.2.2.2.2.1 (fun _ h=>(Zaj5 h)),Zd4 h.2.2.2.2.2.2.2.2.1 (fun _ h=>(Zado h)),Z9v h.2.2.2.2.2.2.2.2.2⟩
abbrev Z3(x:Zk):Prop:=SzS x.Name/\Zne x.Line/\(SzL 640 Z4) x.Abilities
theorem Zaj6{x:Zk}(h:Zabr x):Z3 x:=⟨Zae1 h.1,Zaj4 h.2.2.2.2.1,Zd4 h.2.2.2.2.2.2.2.2 (fun _ h=>(Zmp h))⟩
abbrev Zhi(x:Zhq):Prop:=(SzL 8 (fun _=>True)) x.Library/\(SzL 8 (fun _=>True)) x.Hand/\(SzL 8 (fun _=>True)) x.Graveyard
theorem Zadp{x:Zhq}(h:Zut x):Zhi x:=⟨Zd4 h.2.2.2.2.2.2.1 (fun _ _=>trivial),Zd4 h.2.2.2.2.2.2.2.1 (fun _ _=>trivial),Zd4 h.2.2.2.2.2.2.2.2 (fun _ _=>trivial)⟩
abbrev Zh5(x:Zjh):Prop:=Z4 x.Ability/\(SzL 16 (fun _=>True)) x.Targets
theorem Zaj7{x:Zjh}(h:Z1e x):Zh5 x:=⟨Zmp h.2.2.2.2.2.2.1,Zd4 h.2.2.2.2.2.2.2.1 (fun _ _=>trivial)⟩
abbrev Zr4(x:Zh2):Prop:=Z4 x.Ability
theorem Z9w{x:Zh2}(h:Zr0 x):Zr4 x:=(Zmp h.2.2.1)
abbrev Zj9(x:Zb9):Prop:=(SzL 8 (fun _=>True)) x.Objects/\(SzL 176 Z8) x.Mods
theorem Zaj8{x:Zb9}(h:Z1f x):Zj9 x:=⟨Zd4 h.2.2.2.2.1 (fun _ _=>trivial),Zd4 h.2.2.2.2.2 (fun _ h=>(Zuw h))⟩
abbrev Z9(x:Zo):Prop:=(SzL 152 Zhi) x.Players/\(SzL 128 (fun _=>True)) x.Objects/\(SzL 8 (fun _=>True)) x.Battlefield/\(SzL 8 (fun _=>True)) x.Exile/\(SzL 824 Zh5) x.Stack/\(SzL 768 Zr4) x.Waiting/\(SzL 80 Zj9) x.Conts/\(SzL 8 (fun _=>True)) x.Extra
theorem Zaho{x:Zo}(h:Z8e x):Z9 x:=⟨Zd4 h.1 (fun _ h=>(Zadp h)),Zd4 h.2.1 (fun _ _=>trivial),Zd4 h.2.2.1 (fun _ _=>trivial),Zd4 h.2.2.2.1 (fun _ _=>trivial),Zd4 h.2.2.2.2.1 (fun _ h=>(Zaj7 h)),Zd4 h.2.2.2.2.2.1 (fun _ h=>(Z9w h)),Zd4 h.2.2.2.2.2.2.1 (fun _ h=>(Zaj8 h)),Zd4 h.2.2.2.2.2.2.2.2.2.2.2.2.2.2.2.2.1 (fun _ _=>trivial)⟩
abbrev Zgt(x:Zad):Prop:=(SzL 8 (fun _=>True)) x.Objects/\Zaq x.Filter/\(SzL 176 Z8) x.Mods
abbrev Zcx(x:Z2):Prop:=(SzL 8 (fun _=>True)) x.Objects/\Zaq x.Filter/\(SzL 176 Z8) x.Mods
abbrev Za7(x:Zb):Prop:=SzS x.Name/\Zne x.Line/\(SzL 640 Z4) x.Abilities
theorem Zabs{a0:Int}:Tot (Z10 a0) (fun r=>True):=by
 unfold Z10
 refine tZ ?_
 dsimp only [Z6h,LT.den]
 refine tD (fun h1=>?_) (fun h1=>?_)
 .exact tR trivial
 .exact tR trivial
def Z4c:Zji->Prop
 | .L0 v0 v3=>(SzT v0)/\(0<=v3)
 | .L1 v0 v3=>(SzT v0)/\(0<=v3)/\(v3 < (v0.length:Int))/\(0<=v3)/\(v3 < v0.length)
def Zln:Zji->M6
 | .L0 v0 v3=>(1,((v0.length:Int) - v3).toNat,1000000,0,0,0)
 | .L1 v0 v3=>(1,((v0.length:Int) - v3).toNat,0,0,0,0)
theorem Zj2{v0:List UInt8}{v3:Int}(h:Z4c (.L1 v0 v3)):Tot (Zhr v0 v3).den (Nx Z4c Zln (1,((v0.length:Int) - v3).toNat,0,0,0,0) (fun r=>True)):=by
 obtain⟨ov0,cv3,bd2,i0,i1⟩:=h
 have lb_v0:v0.length<=562949953421312:=ov0
 dsimp only [Zhr,LT.den]
 refine tD (fun h1=>?_) (fun h1=>?_)
 .refine tB (tI (by omega) (by omega)) (fun x2 h3=>?_)
  refine tE (fun h4=>?_) (fun h4=>?_)
  .refine qw (v3 - 1) fun q5 q6=>?_
   refine tB (tI (by omega) (by omega)) (fun x7 h8=>?_)
   refine tE (fun h9=>?_) (fun h9=>?_)
   .exact tR trivial
   .refine qw (v3+1) fun q10 q11=>?_
    exact tL ⟨ov0,cl⟩ (by unfold Zln lt6;dsimp only;omega)
  .refine qw (v3+1) fun q12 q13=>?_
   exact tL ⟨ov0,cl⟩ (by unfold Zln lt6;dsimp only;omega)
 .refine qw (v3+1) fun q14 q15=>?_
  exact tL ⟨ov0,cl⟩ (by unfold Zln lt6;dsimp only;omega)
theorem Z4d{a0:List UInt8}(oa0:SzT a0):Tot (Z6i a0) (fun r=>True):=by
 unfold Z6i
 refine tX (Inv:=Z4c) (μ:=Zln) (m:=(1000000,0,0,0,0,0)) ?_ ?_
 .have lb_a0:a0.length<=562949953421312:=oa0
  dsimp only [Zab5,LT.den]
  have q1:a0.length<=562949953421312:=oa0
  refine tD (fun h2=>?_) (fun h2=>?_)
  .exact tR trivial
  .refine tD (fun h3=>?_) (fun h3=>?_)
   .exact tR trivial
   .refine tB (tI (by omega) (by omega)) (fun x4 h5=>?_)
    refine tB (Zabs) (fun x6 h7=>?_)
    refine tO (fun h8=>?_) (fun h8=>?_)
    .exact tR trivial
    .refine qw ((a0.length:Int) - 1) fun q9 q10=>?_
     refine tB (tI (by omega) (by omega)) (fun x11 h12=>?_)
     refine tE (fun h13=>?_) (fun h13=>?_)
     .exact tR trivial
     .exact tL ⟨oa0,cl⟩ (by unfold Zln lt6;dsimp only;omega)
 .intro s hs
  cases s with
  | L0 v0 v3=>
   obtain⟨ov0,cv3⟩:=hs
   have lb_v0:v0.length<=562949953421312:=ov0
   show Tot (Zk2 v0 v3).den _
   dsimp only [Zk2,LT.den,Zln]
   have q1:v0.length<=562949953421312:=ov0
   refine tD (fun h2=>?_) (fun h2=>?_)
   .refine tB (tI (by omega) (by omega)) (fun x3 h4=>?_)
    refine tB (Zabs) (fun x5 h6=>?_)
    refine tO (fun h7=>?_) (fun h7=>?_)
    .refine tB (tI (by omega) (by omega)) (fun x8 h9=>?_)
     refine tD (fun h10=>?_) (fun h10=>?_)
     .refine tB (tI (by omega) (by omega)) (fun x11 h12=>?_)
      refine tN (fun h13=>?_) (fun h13=>?_)
      .exact tR trivial
      .exact tJ (Zj2 ⟨ov0,cl,cl,cl,cl⟩)
     .refine tB (tI (by omega) (by omega)) (fun x14 h15=>?_)
      refine tD (fun h16=>?_) (fun h16=>?_)
      .refine tB (tI (by omega) (by omega)) (fun x17 h18=>?_)
       refine tN (fun h19=>?_) (fun h19=>?_)
       .exact tR trivial
       .exact tJ (Zj2 ⟨ov0,cl,cl,cl,cl⟩)
      .exact tJ (Zj2 ⟨ov0,cl,cl,cl,cl⟩)
    .exact tJ (Zj2 ⟨ov0,cl,cl,cl,cl⟩)
   .exact tR trivial
  | L1 _ _=>exact Zj2 hs
def Zuy(n m:Int):Bool:=decide (n>=0)&&decide (n<=m)
def Z8j(c:Zr):Bool:=Zuy c.Generic 99&&(Zuy c.X 2&&c.Color.list.all fun n=>Zuy n 9)
theorem Zawk(c:Zr):Z11 c=some (Z8j c):=by
 unfold Z11 LF.run;dsimp only [Zab6,LT.den]
 have hl:Zcr Zh3.step (.L0 c 0)=some (c.Color.list.all fun n=>Zuy n 9):=by
  have:=Z3l (st:=fun i=>Zjj.L0 c (i:Int)) (step:=Zh3.step) (bad:=false) c.Color.list (fun n=>Zuy n 9) (fun i x hx=>by
   have hi:=(List.getElem?_eq_some_iff.1 hx).1
   have hi:i < 5:=hi
   show (Zk3 _ _).den=_
   dsimp only [Zk3,LT.den]
   rw [decide_eq_true (by omega),Zpa hx,Zgv (by omega) (by omega)]
   simp only [cond_true,Option.bind_some]
   unfold Zuy
   by_cases h1:x < 0
   .rw [decide_eq_true h1,decide_eq_false (show ¬ x>=0 by omega)];rfl
   .rw [decide_eq_false h1,decide_eq_true (show x>=0 by omega)]
    by_cases h2:x > 9
    .rw [decide_eq_true h2,decide_eq_false (show ¬ x<=9 by omega)];rfl
    .rw [decide_eq_false h2,decide_eq_true (show x<=9 by omega)];rfl)
  rw [show (Zjj.L0 c 0) = .L0 c ((0:Nat):Int) from rfl,this]
  have he:Zcr Zh3.step (.L0 c ((c.Color.list.length:Nat):Int))=some true:=by
   refine Zeb ?_
   show (Zk3 c 5).den=_
   rfl
  rw [he]
  cases c.Color.list.all fun n=>Zuy n 9<;>rfl
 refine (Zbc fun _=>Zbc fun _=>Zbc fun _=>Zbc fun _=>(show Option.bind (some (Sum.inl (Zjj.L0 c 0))) (Zh0 Zh3.step)=some (c.Color.list.all fun n=>Zuy n 9) from hl)).trans ?_
 congr 1
 unfold Z8j Zuy
 rw [Bool.eq_iff_iff]
 simp only [Bool.and_eq_true,Bool.not_eq_true',decide_eq_false_iff_not,decide_eq_true_eq,ge_iff_le,gt_iff_lt,Int.not_lt]
 constructor
 .rintro ⟨h1,h2,h3,h4,h5⟩;exact⟨⟨h1,h2⟩,⟨h3,h4⟩,h5⟩
 .rintro ⟨⟨h1,h2⟩,⟨h3,h4⟩,h5⟩;exact⟨h1,h2,h3,h4,h5⟩
theorem Zv7(a0:Zr):Tot (Z11 a0) (fun r=>(r=true->a0.X<=2)/\(r=true->∀ n,n∈A5.list a0.Color->n<=9)/\(r=Zuv a0)):=by
 refine⟨_,Zawk a0,fun h=>?_,fun h n hn=>?_,?_⟩
 .simp only [Z8j,Zuy,Bool.and_eq_true,decide_eq_true_eq] at h
  exact h.2.1.2
 .simp only [Z8j,Zuy,Bool.and_eq_true,decide_eq_true_eq,List.all_eq_true] at h
  exact (h.2.2 n hn).2
 .unfold Z8j Zuy Zuv
  rw [Bool.eq_iff_iff]
  simp only [Bool.and_eq_true,decide_eq_true_eq,List.all_eq_true,ge_iff_le]
  exact⟨fun⟨⟨h1,h2⟩,⟨h3,h4⟩,h5⟩=>⟨h1,h2,h3,h4,h5⟩,fun⟨h1,h2,h3,h4,h5⟩=>⟨⟨h1,h2⟩,⟨h3,h4⟩,h5⟩⟩
theorem Z8k:Tot (Zij) (fun r=>((SzL 16 SzN) r)/\(r.length=2)):=by
 unfold Zij
 refine tZ ?_
 dsimp only [Zwt,LT.den]
 have q1:(SzL 16 SzN) ([([98,97,115,105,99]:List UInt8),([117,110,105,113,117,101]:List UInt8)]:List (List UInt8)):=⟨by simp only [List.length_cons,List.length_nil];omega,mem_cons' (by unfold SzN;first | omega | (simp only [List.length_append,List.length_cons,List.length_nil];omega)) (mem_cons' (by unfold SzN;first | omega | (simp only [List.length_append,List.length_cons,List.length_nil];omega)) (fun _ h=>by cases h))⟩
 have lq1:([([98,97,115,105,99]:List UInt8),([117,110,105,113,117,101]:List UInt8)]:List (List UInt8)).length=2:=rfl
 exact tR ⟨q1,cl⟩
def Zamq:Zmw->Prop
 | .L0 v0 v1 v5=>((SzL 16 SzT) v0)/\(SzT v1)/\(0<=v5)
def Zyg:Zmw->M6
 | .L0 v0 v1 v5=>(1,((v0.length:Int) - v5).toNat,1000000,0,0,0)
theorem Z5j{a0:List (List UInt8)}{a1:List UInt8}(oa0:(SzL 16 SzT) a0)(oa1:SzT a1):Tot (Zsy a0 a1) (fun r=>True):=by
 unfold Zsy
 refine tX (Inv:=Zamq) (μ:=Zyg) (m:=(1000000,0,0,0,0,0)) ?_ ?_
 .have lb_a0:=oa0.1
  have lb_a1:a1.length<=562949953421312:=oa1
  dsimp only [Zz9,LT.den]
  exact tL ⟨oa0,oa1,cl⟩ (by unfold Zyg lt6;dsimp only;omega)
 .intro s hs
  cases s with
  | L0 v0 v1 v5=>
   obtain⟨ov0,ov1,cv5⟩:=hs
   have lb_v0:=ov0.1
   have lb_v1:v1.length<=562949953421312:=ov1
   show Tot (Zgw v0 v1 v5).den _
   dsimp only [Zgw,LT.den]
   have q1:=ov0.1
   refine tD (fun h2=>?_) (fun h2=>?_)
   .refine tB (tI (by omega) (by omega)) (fun x3 h4=>?_)
    have oh4:SzT x3:=ov0.2 x3 h4.1
    refine tF (fun h5=>?_) (fun h5=>?_)
    .exact tR trivial
    .refine qw (v5+1) fun q6 q7=>?_
     exact tL ⟨ov0,ov1,cl⟩ (by unfold Zyg lt6;dsimp only;omega)
   .exact tR trivial
theorem Zvr:Tot (Zjq) (fun r=>((SzL 16 SzN) r)/\(r.length=6)):=by
 unfold Zjq
 refine tZ ?_
 dsimp only [Zy9,LT.den]
 have q1:(SzL 16 SzN) ([([99,114,101,97,116,117,114,101]:List UInt8),([105,110,115,116,97,110,116]:List UInt8),([114,105,116,117,97,108]:List UInt8),([114,101,108,105,99]:List UInt8),([99,104,97,114,109]:List UInt8),([108,97,110,100]:List UInt8)]:List (List UInt8)):=⟨by simp only [List.length_cons,List.length_nil];omega,mem_cons' (by unfold SzN;first | omega | (simp only [List.length_append,List.length_cons,List.length_nil];omega)) (mem_cons' (by unfold SzN;first | omega | (simp only [List.length_append,List.length_cons,List.length_nil];omega)) (mem_cons' (by unfold SzN;first | omega | (simp only [List.length_append,List.length_cons,List.length_nil];omega)) (mem_cons' (by unfold SzN;first | omega | (simp only [List.length_append,List.length_cons,List.length_nil];omega)) (mem_cons' (by unfold SzN;first | omega | (simp only [List.length_append,List.length_cons,List.length_nil];omega)) (mem_cons' (by unfold SzN;first | omega | (simp only [List.length_append,List.length_cons,List.length_nil];omega)) (fun _ h=>by cases h))))))⟩
 have lq1:([([99,114,101,97,116,117,114,101]:List UInt8),([105,110,115,116,97,110,116]:List UInt8),([114,105,116,117,97,108]:List UInt8),([114,101,108,105,99]:List UInt8),([99,104,97,114,109]:List UInt8),([108,97,110,100]:List UInt8)]:List (List UInt8)).length=6:=rfl
 exact tR ⟨q1,cl⟩
theorem Zuz{a0:List UInt8}(oa0:SzT a0):Tot (Zsz a0) (fun r=>True):=by
 unfold Zsz
 refine tZ ?_
 have lb_a0:a0.length<=562949953421312:=oa0
 dsimp only [Z0b,LT.den]
 refine tB (Z4d oa0) (fun x1 h2=>?_)
 refine tF (fun h3=>?_) (fun h3=>?_)
 .refine tB (Z8k) (fun x4 h5=>?_)
  have eh5_1:=h5.2
  refine tB (Z5j (SzL.nt h5.1) oa0) (fun x6 h7=>?_)
  refine tD (fun h8=>?_) (fun h8=>?_)
  .refine tB (Zvr) (fun x9 h10=>?_)
   have eh10_1:=h10.2
   refine tB (Z5j (SzL.nt h10.1) oa0) (fun x11 h12=>?_)
   exact tR trivial
  .exact tR trivial
 .exact tR trivial
def Zatx:Zs0->Prop
 | .L0 v0 v1 v5=>(0<=v5)/\(v1<=100)
def Z4e:Zs0->M6
 | .L0 v0 v1 v5=>(1,(v1 - v5).toNat,1000000,0,0,0)
theorem Z1i{a0:Int}{a1:Int}(h0:a1<=100):Tot (Zai6 a0 a1) (fun r=>True):=by
 unfold Zai6
 refine tX (Inv:=Zatx) (μ:=Z4e) (m:=(1000000,0,0,0,0,0)) ?_ ?_
 .dsimp only [Zak3,LT.den]
  exact tL ⟨cl,cl⟩ (by unfold Z4e lt6;dsimp only;omega)
 .intro s hs
  cases s with
  | L0 v0 v1 v5=>
   obtain⟨cv5,i0⟩:=hs
   show Tot (Z3n v0 v1 v5).den _
   dsimp only [Z3n,LT.den]
   refine tD (fun h1=>?_) (fun h1=>?_)
   .refine qw (v5+1) fun q2 q3=>?_
    exact tL ⟨cl,cl⟩ (by unfold Z4e lt6;dsimp only;omega)
   .exact tR trivial
def Zawl:Zwy->Prop
 | .L0 E0 v3=>(Zne E0)/\(0<=v3)
def Zzy:Zwy->M6
 | .L0 E0 v3=>(1,((E0.Subs.length:Int) - v3).toNat,1000000,0,0,0)
theorem Zawm{a0:Z6}(oa0:Zne a0):Tot (Zao7 a0) (fun r=>True):=by
 unfold Zao7
 refine tX (Inv:=Zawl) (μ:=Zzy) (m:=(1000000,0,0,0,0,0)) ?_ ?_
 .dsimp only [Zao5,LT.den]
  refine tD (fun h1=>?_) (fun h1=>?_)
  .exact tR trivial
  .refine tD (fun h2=>?_) (fun h2=>?_)
   .exact tR trivial
   .refine tD (fun h3=>?_) (fun h3=>?_)
    .exact tR trivial
    .refine tD (fun h4=>?_) (fun h4=>?_)
     .exact tR trivial
     .have q5:=oa0.1
      refine tD (fun h6=>?_) (fun h6=>?_)
      .exact tR trivial
      .exact tL ⟨oa0,cl⟩ (by unfold Zzy lt6;dsimp only;omega)
 .intro s hs
  cases s with
  | L0 E0 v3=>
   obtain⟨O0,cv3⟩:=hs
   show Tot (Z6l E0 v3).den _
   dsimp only [Z6l,LT.den]
   have q1:=O0.1
   refine tD (fun h2=>?_) (fun h2=>?_)
   .refine tB (tI (by omega) (by omega)) (fun x3 h4=>?_)
    have oh4:SzT x3:=O0.2 x3 h4.1
    refine tB (Zuz oh4) (fun x5 h6=>?_)
    refine tO (fun h7=>?_) (fun h7=>?_)
    .exact tR trivial
    .refine tD (fun h8=>?_) (fun h8=>?_)
     .refine qw (v3 - 1) fun q9 q10=>?_
      refine tB (tI (by omega) (by omega)) (fun x11 h12=>?_)
      have oh12:SzT x11:=O0.2 x11 h12.1
      refine tO (fun h13=>?_) (fun h13=>?_)
      .exact tR trivial
      .refine qw (v3+1) fun q14 q15=>?_
       exact tL ⟨O0,cl⟩ (by unfold Zzy lt6;dsimp only;omega)
     .refine qw (v3+1) fun q16 q17=>?_
      exact tL ⟨O0,cl⟩ (by unfold Zzy lt6;dsimp only;omega)
   .refine tE (fun h18=>?_) (fun h18=>?_)
    .exact tR trivial
    .refine tE (fun h19=>?_) (fun h19=>?_)
     .exact tR trivial
     .refine tB (Z1i cl) (fun x20 h21=>?_)
      refine tO (fun h22=>?_) (fun h22=>?_)
      .refine tB (Z1i cl) (fun x23 h24=>?_)
       exact tR trivial
      .exact tR trivial
theorem Zahp{a0:Int}:Tot (Zapa a0) (fun r=>True):=by
 unfold Zapa
 refine tZ ?_
 dsimp only [Zao8,LT.den]
 refine tD (fun h1=>?_) (fun h1=>?_)
 .exact tR trivial
 .exact tR trivial
theorem Zadq{a0:Zk}(oa0:Z3 a0):Tot (Zwz a0) (fun r=>True):=by
 unfold Zwz
 refine tZ ?_
 dsimp only [Z12,LT.den]
 exact tR trivial
def Zamr:Zmx->Prop
 | .L0 v0 v1 v7=>(0<=v7)/\True
def Zqj:Zmx->M6
 | .L0 v0 v1 v7=>(1,(6 - v7).toNat,1000000,0,0,0)
theorem Z5k{a0:Int}{a1:Int}{a2:Int}:Tot (Zs1 a0 a1 a2) (fun r=>True):=by
 unfold Zs1
 refine tX (Inv:=Zamr) (μ:=Zqj) (m:=(1000000,0,0,0,0,0)) ?_ ?_
 .dsimp only [Z0c,LT.den]
  refine tD (fun h1=>?_) (fun h1=>?_)
  .exact tR trivial
  .refine tD (fun h2=>?_) (fun h2=>?_)
   .exact tR trivial
   .refine tD (fun h3=>?_) (fun h3=>?_)
    .exact tR trivial
    .refine tD (fun h4=>?_) (fun h4=>?_)
     .exact tR trivial
     .exact tL ⟨cl,trivial⟩ (by unfold Zqj lt6;dsimp only;omega)
 .intro s hs
  cases s with
  | L0 v0 v1 v7=>
   obtain⟨cv7,_⟩:=hs
   show Tot (Zgx v0 v1 v7).den _
   dsimp only [Zgx,LT.den]
   refine tD (fun h1=>?_) (fun h1=>?_)
   .refine tE (fun h2=>?_) (fun h2=>?_)
    .refine tE (fun h3=>?_) (fun h3=>?_)
     .exact tR trivial
     .refine qw (v7+1) fun q4 q5=>?_
      exact tL ⟨cl,trivial⟩ (by unfold Zqj lt6;dsimp only;omega)
    .refine qw (v7+1) fun q6 q7=>?_
     exact tL ⟨cl,trivial⟩ (by unfold Zqj lt6;dsimp only;omega)
   .exact tR trivial
theorem Zu0{a0:Za}:Tot (Zs2 a0) (fun r=>(r=true->0<=a0.Kind/\a0.Kind<=3)):=by
 unfold Zs2
 refine tZ ?_
 dsimp only [Z0d,LT.den]
 refine tD (fun h1=>?_) (fun h1=>?_)
 .exact tR (by intro hr;cases hr)
 .refine tD (fun h2=>?_) (fun h2=>?_)
  .exact tR (by intro hr;cases hr)
  .refine tD (fun h3=>?_) (fun h3=>?_)
   .exact tR (by intro hr;cases hr)
   .refine tD (fun h4=>?_) (fun h4=>?_)
    .exact tR (by intro hr;cases hr)
    .refine tN (fun h5=>?_) (fun h5=>?_)
     .exact tR (by intro hr;first | omega | (cases hr;done))
     .exact tR (by intro hr;first | omega | (cases hr;done))
abbrev Zabt(a0:Zc)(r:Bool):Prop:=(r=true->0<=a0.Zone/\a0.Zone<=5/\0<=a0.Who/\a0.Who<=2/\0<=a0.Self/\a0.Self<=2/\0<=a0.Tap/\a0.Tap<=2/\0<=a0.Power.Kind/\a0.Power.Kind<=3/\0<=a0.Tough.Kind/\a0.Tough.Kind<=3/\0<=a0.Value.Kind/\a0.Value.Kind<=3)
def Z4f(a0:Zc):Zw1->Prop
 | .L0 E0=>(E0=a0)/\(Zaq E0)/\(0<=E0.Zone/\E0.Zone<=5/\0<=E0.Who/\E0.Who<=2/\0<=E0.Self/\E0.Self<=2/\0<=E0.Tap/\E0.Tap<=2)
def Zals:Zw1->M6
 | .L0 E0=>(0,0,0,0,0,0)
theorem Zu1{a0:Zc}{E0:Zc}(h:(Z4f a0) (.L0 E0)):Tot (Zk4 E0).den (Nx (Z4f a0) Zals (0,0,0,0,0,0) (Zabt a0)):=by
 obtain⟨al0,O0,i0⟩:=h
 subst al0
 dsimp only [Zk4,LT.den]
 refine tB (Zu0) (fun x1 h2=>?_)
 have eh2_0:=h2
 refine tF (fun h3=>?_) (fun h3=>?_)
 .have h3_0:=eh2_0 h3
  refine tB (Zu0) (fun x4 h5=>?_)
  have eh5_0:=h5
  refine tF (fun h6=>?_) (fun h6=>?_)
  .have h6_0:=eh5_0 h6
   refine tB (Zu0) (fun x7 h8=>?_)
   have eh8_0:=h8
   exact tR (by intro hr;have:=eh8_0 hr;first | omega | (cases hr;done))
  .exact tR (by intro hr;cases hr)
 .exact tR (by intro hr;cases hr)
theorem Zaty{a0:Zc}(oa0:Zaq a0):Tot (Z14 a0) (Zabt a0):=by
 unfold Z14
 refine tX (Inv:=(Z4f a0)) (μ:=Zals) (m:=(1000000,0,0,0,0,0)) ?_ ?_
 .dsimp only [Zab7,LT.den]
  refine tD (fun h1=>?_) (fun h1=>?_)
  .exact tR (by intro hr;cases hr)
  .refine tD (fun h2=>?_) (fun h2=>?_)
   .exact tR (by intro hr;cases hr)
   .refine tD (fun h3=>?_) (fun h3=>?_)
    .exact tR (by intro hr;cases hr)
    .refine tD (fun h4=>?_) (fun h4=>?_)
     .exact tR (by intro hr;cases hr)
     .refine tD (fun h5=>?_) (fun h5=>?_)
      .exact tR (by intro hr;cases hr)
      .refine tD (fun h6=>?_) (fun h6=>?_)
       .exact tR (by intro hr;cases hr)
       .refine tD (fun h7=>?_) (fun h7=>?_)
        .exact tR (by intro hr;cases hr)
        .refine tD (fun h8=>?_) (fun h8=>?_)
         .exact tR (by intro hr;cases hr)
         .refine tB (Z5k) (fun x9 h10=>?_)
          refine tO (fun h11=>?_) (fun h11=>?_)
          .exact tR (by intro hr;cases hr)
          .refine tB (Z5k) (fun x12 h13=>?_)
           refine tO (fun h14=>?_) (fun h14=>?_)
           .exact tR (by intro hr;cases hr)
           .refine tO (fun h15=>?_) (fun h15=>?_)
            .refine tB (Zuz (SzS.t oa0)) (fun x16 h17=>?_)
             refine tO (fun h18=>?_) (fun h18=>?_)
             .exact tR (by intro hr;cases hr)
             .refine tD (fun h19=>?_) (fun h19=>?_)
              .exact tR (by intro hr;cases hr)
              .refine tD (fun h20=>?_) (fun h20=>?_)
               .exact tR (by intro hr;cases hr)
               .exact tJ (Zu1 ⟨rfl,oa0,cl⟩)
            .refine tD (fun h21=>?_) (fun h21=>?_)
             .exact tR (by intro hr;cases hr)
             .refine tD (fun h22=>?_) (fun h22=>?_)
              .exact tR (by intro hr;cases hr)
              .exact tJ (Zu1 ⟨rfl,oa0,cl⟩)
 .intro s hs
  cases s with
  | L0 _=>exact Zu1 hs
theorem Zeq{a0:Zc}(oa0:Zaq a0):Tot (Z14 a0) (fun r=>(r=true->0<=a0.Zone/\a0.Zone<=5/\0<=a0.Who/\a0.Who<=2/\0<=a0.Self/\a0.Self<=2/\0<=a0.Tap/\a0.Tap<=2/\0<=a0.Power.Kind/\a0.Power.Kind<=3/\0<=a0.Tough.Kind/\a0.Tough.Kind<=3/\0<=a0.Value.Kind/\a0.Value.Kind<=3)/\(r=filV a0)):=(Tot.we (Zaty oa0)).mono fun r h=>⟨h.1,Option.some.inj (h.2.symm.trans (Zayx a0))⟩
def Zlo:Zly->Prop
 | .L0 E0 E1 v7 v8=>(Z8 E0)/\(Z8 E1)
 | .L1 E0 E1 v7 v16=>(Z8 E0)/\(Z8 E1)
def Z1j:Zly->M6
 | .L0 E0 E1 v7 v8=>(0,0,0,0,0,0)
 | .L1 E0 E1 v7 v16=>(0,0,0,0,0,0)
theorem Zqk{E0:Zh}{E1:Zh}{v7:Int}{v16:Bool}(h:Zlo (.L1 E0 E1 v7 v16)):Tot (Zmz E0 E1 v7 v16).den (Nx Zlo Z1j (0,0,0,0,0,0) (fun r=>(Z8 r))):=by
 obtain⟨O0,O1⟩:=h
 dsimp only [Zmz,LT.den]
 refine tF (fun h1=>?_) (fun h1=>?_)
 .exact tR ⟨SzS.nil,O0.2⟩
 .refine tE (fun h2=>?_) (fun h2=>?_)
  .exact tR ⟨O0.1,SzS.nil⟩
  .refine tE (fun h3=>?_) (fun h3=>?_)
   .exact tR ⟨O0.1,O0.2⟩
   .refine tE (fun h4=>?_) (fun h4=>?_)
    .exact tR ⟨O0.1,O0.2⟩
    .exact tR O0
theorem Zer{E0:Zh}{E1:Zh}{v7:Int}{v8:Bool}(h:Zlo (.L0 E0 E1 v7 v8)):Tot (Zfi E0 E1 v7 v8).den (Nx Zlo Z1j (0,0,0,0,0,0) (fun r=>(Z8 r))):=by
 obtain⟨O0,O1⟩:=h
 dsimp only [Zfi,LT.den]
 refine tF (fun h1=>?_) (fun h1=>?_)
 .exact tR ⟨O0.1,O0.2⟩
 .refine tE (fun h2=>?_) (fun h2=>?_)
  .exact tJ (Zqk ⟨O0,O1⟩)
  .exact tJ (Zqk ⟨O0,O1⟩)
theorem Zarp{a0:Zh}(oa0:Z8 a0):Tot (Zab9 a0) (fun r=>(Z8 r)):=by
 unfold Zab9
 refine tX (Inv:=Zlo) (μ:=Z1j) (m:=(1000000,0,0,0,0,0)) ?_ ?_
 .dsimp only [Zae7,LT.den]
  refine tE (fun h1=>?_) (fun h1=>?_)
  .exact tJ (Zer ⟨⟨oa0.1,oa0.2⟩,⟨SzS.nil,SzS.nil⟩⟩)
  .refine tE (fun h2=>?_) (fun h2=>?_)
   .exact tJ (Zer ⟨⟨oa0.1,oa0.2⟩,⟨SzS.nil,SzS.nil⟩⟩)
   .refine tE (fun h3=>?_) (fun h3=>?_)
    .exact tJ (Zer ⟨⟨oa0.1,oa0.2⟩,⟨SzS.nil,SzS.nil⟩⟩)
    .refine tE (fun h4=>?_) (fun h4=>?_)
     .exact tJ (Zer ⟨⟨oa0.1,oa0.2⟩,⟨SzS.nil,SzS.nil⟩⟩)
     .refine tE (fun h5=>?_) (fun h5=>?_)
      .exact tJ (Zer ⟨⟨oa0.1,oa0.2⟩,⟨SzS.nil,SzS.nil⟩⟩)
      .exact tJ (Zer ⟨⟨oa0.1,oa0.2⟩,⟨SzS.nil,SzS.nil⟩⟩)
 .intro s hs
  cases s with
  | L0 _ _ _ _=>exact Zer hs
  | L1 _ _ _ _=>exact Zqk hs
theorem Zams{a0:Int}:Tot (Z6n a0) (fun r=>True):=by
 unfold Z6n
 refine tZ ?_
 dsimp only [Z99,LT.den]
 refine tD (fun h1=>?_) (fun h1=>?_)
 .refine tD (fun h2=>?_) (fun h2=>?_)
  .exact tR trivial
  .exact tR trivial
 .exact tR trivial
def Zv8:Zn2->Prop
 | .L0 E0 v18 v19=>(Z8 E0)/\True
 | .L1 E0 v18 v25=>(Z8 E0)/\True
 | .L2 E0 v18 v51=>(Z8 E0)/\True
def Zzz:Zn2->M6
 | .L0 E0 v18 v19=>(0,0,0,0,0,0)
 | .L1 E0 v18 v25=>(0,0,0,0,0,0)
 | .L2 E0 v18 v51=>(0,0,0,0,0,0)
theorem Zu2{E0:Zh}{v18:Int}{v51:Bool}(h:(Z8 E0)/\True):Tot (Zs3 E0 v18 v51).den (Nx Zv8 Zzz (0,0,0,0,0,0) (fun r=>True)):=by
 obtain⟨O0,_⟩:=h
 dsimp only [Zs3,LT.den]
 refine tF (fun h1=>?_) (fun h1=>?_)
 .refine tD (fun h2=>?_) (fun h2=>?_)
  .exact tR trivial
  .exact tR trivial
 .refine tE (fun h3=>?_) (fun h3=>?_)
  .refine tB (Zeq O0.2) (fun x4 h5=>?_)
   have eh5_0:=h5.1
   have eh5_1:=h5.2
   exact tR trivial
  .refine tE (fun h6=>?_) (fun h6=>?_)
   .refine tD (fun h7=>?_) (fun h7=>?_)
    .refine tD (fun h8=>?_) (fun h8=>?_)
     .refine tD (fun h9=>?_) (fun h9=>?_)
      .exact tR trivial
      .exact tR trivial
     .exact tR trivial
    .exact tR trivial
   .refine tE (fun h10=>?_) (fun h10=>?_)
    .refine tD (fun h11=>?_) (fun h11=>?_)
     .refine tD (fun h12=>?_) (fun h12=>?_)
      .refine tD (fun h13=>?_) (fun h13=>?_)
       .exact tR trivial
       .exact tR trivial
      .exact tR trivial
     .exact tR trivial
    .exact tR trivial
theorem Zu3{E0:Zh}{v18:Int}{v25:Bool}(h:(Z8 E0)/\True):Tot (Zs4 E0 v18 v25).den (Nx Zv8 Zzz (0,0,0,0,0,0) (fun r=>True)):=by
 obtain⟨O0,_⟩:=h
 dsimp only [Zs4,LT.den]
 refine tF (fun h1=>?_) (fun h1=>?_)
 .refine tB (Zuz (SzS.t O0.1)) (fun x2 h3=>?_)
  exact tR trivial
 .refine tE (fun h4=>?_) (fun h4=>?_)
  .refine tD (fun h5=>?_) (fun h5=>?_)
   .exact tR trivial
   .exact tR trivial
  .refine tE (fun h6=>?_) (fun h6=>?_)
   .refine tD (fun h7=>?_) (fun h7=>?_)
    .exact tR trivial
    .exact tR trivial
   .refine tE (fun h8=>?_) (fun h8=>?_)
    .exact tJ (Zu2 ⟨O0,trivial⟩)
    .exact tJ (Zu2 ⟨O0,trivial⟩)
theorem Zu4{E0:Zh}{v18:Int}{v19:Bool}(h:(Z8 E0)/\True):Tot (Zs5 E0 v18 v19).den (Nx Zv8 Zzz (0,0,0,0,0,0) (fun r=>True)):=by
 obtain⟨O0,_⟩:=h
 dsimp only [Zs5,LT.den]
 refine tF (fun h1=>?_) (fun h1=>?_)
 .refine tB (Zams) (fun x2 h3=>?_)
  exact tR trivial
 .refine tE (fun h4=>?_) (fun h4=>?_)
  .exact tJ (Zu3 ⟨O0,trivial⟩)
  .exact tJ (Zu3 ⟨O0,trivial⟩)
theorem Zahq{a0:Zh}(oa0:Z8 a0):Tot (Zape a0) (fun r=>True):=by
 unfold Zape
 refine tX (Inv:=Zv8) (μ:=Zzz) (m:=(1000000,0,0,0,0,0)) ?_ ?_
 .dsimp only [Zapc,LT.den]
  refine tD (fun h1=>?_) (fun h1=>?_)
  .exact tR trivial
  .refine tD (fun h2=>?_) (fun h2=>?_)
   .exact tR trivial
   .refine tB (Zarp oa0) (fun x3 h4=>?_)
    refine tO (fun h5=>?_) (fun h5=>?_)
    .exact tR trivial
    .refine tE (fun h6=>?_) (fun h6=>?_)
     .exact tJ (Zu4 ⟨oa0,trivial⟩)
     .exact tJ (Zu4 ⟨oa0,trivial⟩)
 .intro s hs
  cases s with
  | L0 _ _ _=>exact Zu4 hs
  | L1 _ _ _=>exact Zu3 hs
  | L2 _ _ _=>exact Zu2 hs
def Zaj9:Zk5->Prop
 | .L0 v0 v1 v2 v7 v8=>((SzL 16 SzN) v0)/\(SzN v2)/\(0<=v8)/\(v7.length<=200*v8.toNat)/\(v0.length<=100)/\(v8<=v0.length)
def Zj3:Zk5->M6
 | .L0 v0 v1 v2 v7 v8=>(1,((v0.length:Int) - v8).toNat,1000000,0,0,0)
theorem Zaka{a0:List (List UInt8)}{a1:Int}{a2:List UInt8}(oa0:(SzL 16 SzN) a0)(oa2:SzN a2)(h0:a0.length<=100):Tot (Z3p a0 a1 a2) (fun r=>(SzT r)/\(r.length<=20000)):=by
 unfold Z3p
 refine tX (Inv:=Zaj9) (μ:=Zj3) (m:=(1000000,0,0,0,0,0)) ?_ ?_
 .have lb_a0:=oa0.1
  have lb_a2:a2.length<=100:=oa2
  dsimp only [Z6o,LT.den]
  exact tL ⟨oa0,oa2,cl,cl,cl,cl⟩ (by unfold Zj3 lt6;dsimp only;omega)
 .intro s hs
  cases s with
  | L0 v0 v1 v2 v7 v8=>
   obtain⟨ov0,ov2,cv8,i0,i1,i2⟩:=hs
   have lb_v0:=ov0.1
   have lb_v2:v2.length<=100:=ov2
   show Tot (Zt2 v0 v1 v2 v7 v8).den _
   dsimp only [Zt2,LT.den]
   have q1:=(SzL.nt ov0).1
   refine tD (fun h2=>?_) (fun h2=>?_)
   .refine tB (Z1i cl) (fun x3 h4=>?_)
    refine tF (fun h5=>?_) (fun h5=>?_)
    .refine tO (fun h6=>?_) (fun h6=>?_)
     .have q7:v2.length<=100:=ov2
      refine tB (tK (by first | (simp only [List.length_append,List.length_cons,List.length_nil];omega) | omega)) (fun x8 h9=>?_)
      refine tB (tI (by omega) (by omega)) (fun x10 h11=>?_)
      have oh11:SzN x10:=ov0.2 x10 h11.1
      have q12:x10.length<=100:=oh11
      refine tB (tK (by first | (simp only [List.length_append,List.length_cons,List.length_nil];omega) | omega)) (fun x13 h14=>?_)
      refine qw (v8+1) fun q15 q16=>?_
      exact tL ⟨ov0,ov2,cl,cl,cl,cl⟩ (by unfold Zj3 lt6;dsimp only;omega)
     .refine tB (tI (by omega) (by omega)) (fun x17 h18=>?_)
      have oh18:SzN x17:=ov0.2 x17 h18.1
      have q19:x17.length<=100:=oh18
      refine tB (tK (by first | (simp only [List.length_append,List.length_cons,List.length_nil];omega) | omega)) (fun x20 h21=>?_)
      refine qw (v8+1) fun q22 q23=>?_
      exact tL ⟨ov0,ov2,cl,cl,cl,cl⟩ (by unfold Zj3 lt6;dsimp only;omega)
    .refine qw (v8+1) fun q24 q25=>?_
     exact tL ⟨ov0,ov2,cl,cl,cl,cl⟩ (by unfold Zj3 lt6;dsimp only;omega)
   .exact tR ⟨(by unfold SzT;first | omega | (simp only [List.length_append,List.length_cons,List.length_nil];omega)),cl⟩
theorem Zmq{a0:Int}:Tot (Zt3 a0) (fun r=>(SzT r)/\(r.length<=20000)):=by
 unfold Zt3
 refine tZ ?_
 dsimp only [Zzb,LT.den]
 refine tD (fun h1=>?_) (fun h1=>?_)
 .exact tR ⟨SzT.nil,cl⟩
 .refine tD (fun h2=>?_) (fun h2=>?_)
  .exact tR ⟨SzT.nil,cl⟩
  .refine tB (Zvr) (fun x3 h4=>?_)
   have eh4_1:=h4.2
   refine tB (Zaka h4.1 (by unfold SzN;first | omega | (simp only [List.length_append,List.length_cons,List.length_nil];omega)) cl) (fun x5 h6=>?_)
   have eh6_1:=h6.2
   exact tR ⟨h6.1,cl⟩
theorem Zawn{a0:Int}:Tot (Zaph a0) (fun r=>True):=by
 unfold Zaph
 refine tZ ?_
 dsimp only [Zapf,LT.den]
 refine tD (fun h1=>?_) (fun h1=>?_)
 .exact tR trivial
 .exact tR trivial
theorem Zql{a0:Int}:Tot (Zaca a0) (fun r=>(SzN r)):=by
 unfold Zaca
 refine tZ ?_
 dsimp only [Zae9,LT.den]
 refine tE (fun h1=>?_) (fun h1=>?_)
 .exact tR (by unfold SzN;first | omega | (simp only [List.length_append,List.length_cons,List.length_nil];omega))
 .refine tE (fun h2=>?_) (fun h2=>?_)
  .exact tR (by unfold SzN;first | omega | (simp only [List.length_append,List.length_cons,List.length_nil];omega))
  .refine tE (fun h3=>?_) (fun h3=>?_)
   .exact tR (by unfold SzN;first | omega | (simp only [List.length_append,List.length_cons,List.length_nil];omega))
   .refine tE (fun h4=>?_) (fun h4=>?_)
    .exact tR (by unfold SzN;first | omega | (simp only [List.length_append,List.length_cons,List.length_nil];omega))
    .refine tE (fun h5=>?_) (fun h5=>?_)
     .exact tR (by unfold SzN;first | omega | (simp only [List.length_append,List.length_cons,List.length_nil];omega))
     .exact tR (SzN.nil)
def Zarq:Zpc->Prop
 | .L0 v0 v3 v4=>(0<=v4)/\(v3.length<=200*v4.toNat)/\(v4<=5)
def Znf:Zpc->M6
 | .L0 v0 v3 v4=>(1,(5 - v4).toNat,1000000,0,0,0)
theorem Z8l{a0:Int}:Tot (Zacb a0) (fun r=>(SzT r)):=by
 unfold Zacb
 refine tX (Inv:=Zarq) (μ:=Znf) (m:=(1000000,0,0,0,0,0)) ?_ ?_
 .dsimp only [Zafb,LT.den]
  refine tB (Zawn) (fun x1 h2=>?_)
  refine tO (fun h3=>?_) (fun h3=>?_)
  .exact tR (SzT.nil)
  .refine tE (fun h4=>?_) (fun h4=>?_)
   .exact tR (by unfold SzT;first | omega | (simp only [List.length_append,List.length_cons,List.length_nil];omega))
   .exact tL ⟨cl,cl,cl⟩ (by unfold Znf lt6;dsimp only;omega)
 .intro s hs
  cases s with
  | L0 v0 v3 v4=>
   obtain⟨cv4,i0,i1⟩:=hs
   show Tot (Z0e v0 v3 v4).den _
   dsimp only [Z0e,LT.den]
   refine tD (fun h1=>?_) (fun h1=>?_)
   .refine tB (tK (by first | omega | exact shl_ne' (by omega) (by omega) | decide)) (fun x2 h3=>?_)
    refine tB (tK (by first | omega | exact shl_ne' (by omega) (by omega) | decide)) (fun x4 h5=>?_)
    refine tE (fun h6=>?_) (fun h6=>?_)
    .refine tO (fun h7=>?_) (fun h7=>?_)
     .refine tB (tK (by first | (simp only [List.length_append,List.length_cons,List.length_nil];omega) | omega)) (fun x8 h9=>?_)
      refine tB (Zql) (fun x10 h11=>?_)
      have q12:x10.length<=100:=h11
      refine tB (tK (by first | (simp only [List.length_append,List.length_cons,List.length_nil];omega) | omega)) (fun x13 h14=>?_)
      refine qw (v4+1) fun q15 q16=>?_
      exact tL ⟨cl,cl,cl⟩ (by unfold Znf lt6;dsimp only;omega)
     .refine tB (Zql) (fun x17 h18=>?_)
      have q19:x17.length<=100:=h18
      refine tB (tK (by first | (simp only [List.length_append,List.length_cons,List.length_nil];omega) | omega)) (fun x20 h21=>?_)
      refine qw (v4+1) fun q22 q23=>?_
      exact tL ⟨cl,cl,cl⟩ (by unfold Znf lt6;dsimp only;omega)
    .refine qw (v4+1) fun q24 q25=>?_
     exact tL ⟨cl,cl,cl⟩ (by unfold Znf lt6;dsimp only;omega)
   .exact tR (by unfold SzT;first | omega | (simp only [List.length_append,List.length_cons,List.length_nil];omega))
theorem Zamt:Tot (Zzd) (fun r=>((SzL 16 SzN) r)/\(r.length=17)):=by
 unfold Zzd
 refine tZ ?_
 dsimp only [Zaac,LT.den]
 have q1:(SzL 16 SzN) ([([102,108,121,105,110,103]:List UInt8),([114,101,97,99,104]:List UInt8),([104,97,115,116,101]:List UInt8),([118,105,103,105,108,97,110,116]:List UInt8),([116,114,97,109,112,108,101]:List UInt8),([102,105,114,115,116,45,115,116,114,105,107,101]:List UInt8),([100,111,117,98,108,101,45,115,116,114,105,107,101]:List UInt8),([100,101,97,100,108,121]:List UInt8),([108,105,102,101,108,105,110,107]:List UInt8),([109,101,110,97,99,101]:List UInt8),([100,101,102,101,110,100,101,114]:List UInt8),([119,97,114,100,101,100]:List UInt8),([115,116,117,114,100,121]:List UInt8),([101,108,117,115,105,118,101]:List UInt8),([110,111,45,97,116,116,97,99,107]:List UInt8),([110,111,45,98,108,111,99,107]:List UInt8),([109,117,115,116,45,97,116,116,97,99,107]:List UInt8)]:List (List UInt8)):=⟨by simp only [List.length_cons,List.length_nil];omega,mem_cons' (by unfold SzN;first | omega | (simp only [List.length_append,List.length_cons,List.length_nil];omega)) (mem_cons' (by unfold SzN;first | omega | (simp only [List.length_append,List.length_cons,List.length_nil];omega)) (mem_cons' (by unfold SzN;first | omega | (simp only [List.length_append,List.length_cons,List.length_nil];omega)) (mem_cons' (by unfold SzN;first | omega | (simp only [List.length_append,List.length_cons,List.length_nil];omega)) (mem_cons' (by unfold SzN;first | omega | (simp only [List.length_append,List.length_cons,List.length_nil];omega)) (mem_cons' (by unfold SzN;first | omega | (simp only [List.length_append,List.length_cons,List.length_nil];omega)) (mem_cons' (by unfold SzN;first | omega | (simp only [List.length_append,List.length_cons,List.length_nil];omega)) (mem_cons' (by unfold SzN;first | omega | (simp only [List.length_append,List.length_cons,List.length_nil];omega)) (mem_cons' (by unfold SzN;first | omega | (simp only [List.length_append,List.length_cons,List.length_nil];omega)) (mem_cons' (by unfold SzN;first | omega | (simp only [List.length_append,List.length_cons,List.length_nil];omega)) (mem_cons' (by unfold SzN;first | omega | (simp only [List.length_append,List.length_cons,List.length_nil];omega)) (mem_cons' (by unfold SzN;first | omega | (simp only [List.length_append,List.length_cons,List.length_nil];omega)) (mem_cons' (by unfold SzN;first | omega | (simp only [List.length_append,List.length_cons,List.length_nil];omega)) (mem_cons' (by unfold SzN;first | omega | (simp only [List.length_append,List.length_cons,List.length_nil];omega)) (mem_cons' (by unfold SzN;first | omega | (simp only [List.length_append,List.length_cons,List.length_nil];omega)) (mem_cons' (by unfold SzN;first | omega | (simp only [List.length_append,List.length_cons,List.length_nil];omega)) (mem_cons' (by unfold SzN;first | omega | (simp only [List.length_append,List.length_cons,List.length_nil];omega)) (fun _ h=>by cases h)))))))))))))))))⟩
 have lq1:([([102,108,121,105,110,103]:List UInt8),([114,101,97,99,104]:List UInt8),([104,97,115,116,101]:List UInt8),([118,105,103,105,108,97,110,116]:List UInt8),([116,114,97,109,112,108,101]:List UInt8),([102,105,114,115,116,45,115,116,114,105,107,101]:List UInt8),([100,111,117,98,108,101,45,115,116,114,105,107,101]:List UInt8),([100,101,97,100,108,121]:List UInt8),([108,105,102,101,108,105,110,107]:List UInt8),([109,101,110,97,99,101]:List UInt8),([100,101,102,101,110,100,101,114]:List UInt8),([119,97,114,100,101,100]:List UInt8),([115,116,117,114,100,121]:List UInt8),([101,108,117,115,105,118,101]:List UInt8),([110,111,45,97,116,116,97,99,107]:List UInt8),([110,111,45,98,108,111,99,107]:List UInt8),([109,117,115,116,45,97,116,116,97,99,107]:List UInt8)]:List (List UInt8)).length=17:=rfl
 exact tR ⟨q1,cl⟩
theorem Zyh{a0:Int}:Tot (Zacc a0) (fun r=>(SzN r)):=by
 unfold Zacc
 refine tZ ?_
 dsimp only [Zafd,LT.den]
 refine tD (fun h1=>?_) (fun h1=>?_)
 .exact tR (SzN.nil)
 .refine tD (fun h2=>?_) (fun h2=>?_)
  .exact tR (SzN.nil)
  .refine tB (Zamt) (fun x3 h4=>?_)
   have eh4_1:=h4.2
   refine tB (tI (by omega) (by omega)) (fun x5 h6=>?_)
   have oh6:SzN x5:=h4.1.2 x5 h6.1
   exact tR oh6
def Zarr:Zpd->Prop
 | .L0 v0 v3 v4=>(0<=v4)/\(v3.length<=200*v4.toNat)/\(v4<=17)
def Zng:Zpd->M6
 | .L0 v0 v3 v4=>(1,(17 - v4).toNat,1000000,0,0,0)
theorem Z8m{a0:Int}:Tot (Zacd a0) (fun r=>(SzT r)):=by
 unfold Zacd
 refine tX (Inv:=Zarr) (μ:=Zng) (m:=(1000000,0,0,0,0,0)) ?_ ?_
 .dsimp only [Zaff,LT.den]
  refine tB (Zahp) (fun x1 h2=>?_)
  refine tO (fun h3=>?_) (fun h3=>?_)
  .exact tR (SzT.nil)
  .exact tL ⟨cl,cl,cl⟩ (by unfold Zng lt6;dsimp only;omega)
 .intro s hs
  cases s with
  | L0 v0 v3 v4=>
   obtain⟨cv4,i0,i1⟩:=hs
   show Tot (Z0g v0 v3 v4).den _
   dsimp only [Z0g,LT.den]
   refine tD (fun h1=>?_) (fun h1=>?_)
   .refine tE (fun h2=>?_) (fun h2=>?_)
    .refine tO (fun h3=>?_) (fun h3=>?_)
     .refine tB (tK (by first | (simp only [List.length_append,List.length_cons,List.length_nil];omega) | omega)) (fun x4 h5=>?_)
      refine tB (Zyh) (fun x6 h7=>?_)
      have q8:x6.length<=100:=h7
      refine tB (tK (by first | (simp only [List.length_append,List.length_cons,List.length_nil];omega) | omega)) (fun x9 h10=>?_)
      refine qw (v4+1) fun q11 q12=>?_
      exact tL ⟨cl,cl,cl⟩ (by unfold Zng lt6;dsimp only;omega)
     .refine tB (Zyh) (fun x13 h14=>?_)
      have q15:x13.length<=100:=h14
      refine tB (tK (by first | (simp only [List.length_append,List.length_cons,List.length_nil];omega) | omega)) (fun x16 h17=>?_)
      refine qw (v4+1) fun q18 q19=>?_
      exact tL ⟨cl,cl,cl⟩ (by unfold Zng lt6;dsimp only;omega)
    .refine qw (v4+1) fun q20 q21=>?_
     exact tL ⟨cl,cl,cl⟩ (by unfold Zng lt6;dsimp only;omega)
   .refine tF (fun h22=>?_) (fun h22=>?_)
    .exact tR (by unfold SzT;first | omega | (simp only [List.length_append,List.length_cons,List.length_nil];omega))
    .exact tR (by unfold SzT;first | omega | (simp only [List.length_append,List.length_cons,List.length_nil];omega))
theorem Z9x:Tot (Znm) (fun r=>((SzL 16 SzN) r)/\(r.length=6)):=by
 unfold Znm
 refine tZ ?_
 dsimp only [Zze,LT.den]
 have q1:(SzL 16 SzN) ([([]:List UInt8),([105,110,45,104,97,110,100]:List UInt8),([105,110,45,108,105,98,114,97,114,121]:List UInt8),([105,110,45,103,114,97,118,101,121,97,114,100]:List UInt8),([105,110,45,101,120,105,108,101]:List UInt8),([111,110,45,115,116,97,99,107]:List UInt8)]:List (List UInt8)):=⟨by simp only [List.length_cons,List.length_nil];omega,mem_cons' (SzN.nil) (mem_cons' (by unfold SzN;first | omega | (simp only [List.length_append,List.length_cons,List.length_nil];omega)) (mem_cons' (by unfold SzN;first | omega | (simp only [List.length_append,List.length_cons,List.length_nil];omega)) (mem_cons' (by unfold SzN;first | omega | (simp only [List.length_append,List.length_cons,List.length_nil];omega)) (mem_cons' (by unfold SzN;first | omega | (simp only [List.length_append,List.length_cons,List.length_nil];omega)) (mem_cons' (by unfold SzN;first | omega | (simp only [List.length_append,List.length_cons,List.length_nil];omega)) (fun _ h=>by cases h))))))⟩
 have lq1:([([]:List UInt8),([105,110,45,104,97,110,100]:List UInt8),([105,110,45,108,105,98,114,97,114,121]:List UInt8),([105,110,45,103,114,97,118,101,121,97,114,100]:List UInt8),([105,110,45,101,120,105,108,101]:List UInt8),([111,110,45,115,116,97,99,107]:List UInt8)]:List (List UInt8)).length=6:=rfl
 exact tR ⟨q1,cl⟩
theorem Zadr:Tot (Zpe) (fun r=>((SzL 16 SzN) r)/\(r.length=3)):=by
 unfold Zpe
 refine tZ ?_
 dsimp only [Z15,LT.den]
 have q1:(SzL 16 SzN) ([([]:List UInt8),([121,111,117,114,115]:List UInt8),([116,104,101,105,114,115]:List UInt8)]:List (List UInt8)):=⟨by simp only [List.length_cons,List.length_nil];omega,mem_cons' (SzN.nil) (mem_cons' (by unfold SzN;first | omega | (simp only [List.length_append,List.length_cons,List.length_nil];omega)) (mem_cons' (by unfold SzN;first | omega | (simp only [List.length_append,List.length_cons,List.length_nil];omega)) (fun _ h=>by cases h)))⟩
 have lq1:([([]:List UInt8),([121,111,117,114,115]:List UInt8),([116,104,101,105,114,115]:List UInt8)]:List (List UInt8)).length=3:=rfl
 exact tR ⟨q1,cl⟩
theorem Z9y:Tot (Znn) (fun r=>((SzL 16 SzN) r)/\(r.length=3)):=by
 unfold Znn
 refine tZ ?_
 dsimp only [Zzg,LT.den]
 have q1:(SzL 16 SzN) ([([]:List UInt8),([115,101,108,102]:List UInt8),([111,116,104,101,114]:List UInt8)]:List (List UInt8)):=⟨by simp only [List.length_cons,List.length_nil];omega,mem_cons' (SzN.nil) (mem_cons' (by unfold SzN;first | omega | (simp only [List.length_append,List.length_cons,List.length_nil];omega)) (mem_cons' (by unfold SzN;first | omega | (simp only [List.length_append,List.length_cons,List.length_nil];omega)) (fun _ h=>by cases h)))⟩
 have lq1:([([]:List UInt8),([115,101,108,102]:List UInt8),([111,116,104,101,114]:List UInt8)]:List (List UInt8)).length=3:=rfl
 exact tR ⟨q1,cl⟩
theorem Zads:Tot (Zpf) (fun r=>((SzL 16 SzN) r)/\(r.length=3)):=by
 unfold Zpf
 refine tZ ?_
 dsimp only [Z17,LT.den]
 have q1:(SzL 16 SzN) ([([]:List UInt8),([116,97,112,112,101,100]:List UInt8),([117,110,116,97,112,112,101,100]:List UInt8)]:List (List UInt8)):=⟨by simp only [List.length_cons,List.length_nil];omega,mem_cons' (SzN.nil) (mem_cons' (by unfold SzN;first | omega | (simp only [List.length_append,List.length_cons,List.length_nil];omega)) (mem_cons' (by unfold SzN;first | omega | (simp only [List.length_append,List.length_cons,List.length_nil];omega)) (fun _ h=>by cases h)))⟩
 have lq1:([([]:List UInt8),([116,97,112,112,101,100]:List UInt8),([117,110,116,97,112,112,101,100]:List UInt8)]:List (List UInt8)).length=3:=rfl
 exact tR ⟨q1,cl⟩
def Zatz:Zs6->Prop
 | .L0 v0 v1 v5=>(0<=v5)/\(v1<=100)
def Z4g:Zs6->M6
 | .L0 v0 v1 v5=>(1,(v1 - v5).toNat,1000000,0,0,0)
theorem Znh{a0:Int}{a1:Int}(h0:a1<=100):Tot (Zai7 a0 a1) (fun r=>True):=by
 unfold Zai7
 refine tX (Inv:=Zatz) (μ:=Z4g) (m:=(1000000,0,0,0,0,0)) ?_ ?_
 .dsimp only [Zak7,LT.den]
  exact tL ⟨cl,cl⟩ (by unfold Z4g lt6;dsimp only;omega)
 .intro s hs
  cases s with
  | L0 v0 v1 v5=>
   obtain⟨cv5,i0⟩:=hs
   show Tot (Z3q v0 v1 v5).den _
   dsimp only [Z3q,LT.den]
   refine tD (fun h1=>?_) (fun h1=>?_)
   .refine qw (v5+1) fun q2 q3=>?_
    exact tL ⟨cl,cl⟩ (by unfold Z4g lt6;dsimp only;omega)
   .exact tR trivial
def Zadt:Zik->Prop
 | .L0 v0 v3 v4=>(0<=v4)/\(v0<=100)
def Zqm:Zik->M6
 | .L0 v0 v3 v4=>(1,(v0 - v4).toNat,1000000,0,0,0)
theorem Zyi{a0:Int}(h0:a0<=100):Tot (Zw2 a0) (fun r=>(SzT r)/\(r.length<=20000)):=by
 unfold Zw2
 refine tX (Inv:=Zadt) (μ:=Zqm) (m:=(1000000,0,0,0,0,0)) ?_ ?_
 .dsimp only [Z19,LT.den]
  exact tL ⟨cl,cl⟩ (by unfold Zqm lt6;dsimp only;omega)
 .intro s hs
  cases s with
  | L0 v0 v3 v4=>
   obtain⟨cv4,i0⟩:=hs
   show Tot (Zph v0 v3 v4).den _
   dsimp only [Zph,LT.den]
   refine tD (fun h1=>?_) (fun h1=>?_)
   .refine qw (v3*2) fun q2 q3=>?_
    refine qw (v4+1) fun q4 q5=>?_
    exact tL ⟨cl,cl⟩ (by unfold Zqm lt6;dsimp only;omega)
   .refine tB (Zmq) (fun x6 h7=>?_)
    have eh7_1:=h7.2
    exact tR ⟨h7.1,cl⟩
theorem Zamu:Tot (Zzj) (fun r=>((SzL 16 SzN) r)/\(r.length=4)):=by
 unfold Zzj
 refine tZ ?_
 dsimp only [Zaaf,LT.den]
 have q1:(SzL 16 SzN) ([([]:List UInt8),([62,61]:List UInt8),([60,61]:List UInt8),([61]:List UInt8)]:List (List UInt8)):=⟨by simp only [List.length_cons,List.length_nil];omega,mem_cons' (SzN.nil) (mem_cons' (by unfold SzN;first | omega | (simp only [List.length_append,List.length_cons,List.length_nil];omega)) (mem_cons' (by unfold SzN;first | omega | (simp only [List.length_append,List.length_cons,List.length_nil];omega)) (mem_cons' (by unfold SzN;first | omega | (simp only [List.length_append,List.length_cons,List.length_nil];omega)) (fun _ h=>by cases h))))⟩
 have lq1:([([]:List UInt8),([62,61]:List UInt8),([60,61]:List UInt8),([61]:List UInt8)]:List (List UInt8)).length=4:=rfl
 exact tR ⟨q1,cl⟩
theorem Za1h{n:Int}(h0:0<=n)(h1:n < 18446744073709551616):Zmg .u64 n 10=n / 10:=by
 unfold Zmg
 rw [Int.tdiv_eq_ediv_of_nonneg h0]
 have h2:0<=n / 10:=by omega
 have h3:n / 10 < 18446744073709551616:=by omega
 simp only [IntKind.wrap,IntKind.bits,IntKind.signed,Bool.false_and,Bool.false_eq_true,if_false]
 exact Int.emod_eq_of_lt h2 h3
theorem Zz0:∀ (k:Nat) (n:Int) (s:List UInt8),k<=20->0<=n->n < 10 ^ k->n < 18446744073709551616->s.length+k<=40->Tot (Zcr Zpi.step (.L0 n s)) fun r=>SzN r/\r.length<=40
 | 0,n,s,_,h0,h1,_,hs=>by
  have:n=0:=by omega
  subst this
  refine Tot.stop (r:=s) ?_ ⟨show s.length<=100 by omega,by omega⟩
  show (Zf3 _ _).den=_
  dsimp only [Zf3,LT.den]
  rfl
 | k+1,n,s,hk,h0,h1,h2,hs=>by
  by_cases hn:n > 0
  .obtain⟨d,hd,hl⟩:=Tot.str (xs:=[IntKind.wrap .u8 (IntKind.wrap .u64 (48+(Int.tmod n 10)))]) (by simp) (by intro m hm;simp only [List.mem_cons,List.not_mem_nil,or_false] at hm;subst hm;exact Zax7 _)
   simp only [List.length_cons,List.length_nil] at hl
   have e:Zpi.step (.L0 n s)=some (.inl (.L0 (n / 10) (d++s))):=by
    show (Zf3 _ _).den=_
    dsimp only [Zf3,LT.den]
    rw [decide_eq_true hn,cond_true,hd,Option.bind_some,decide_eq_true (show d.length+s.length<=9223372036854775807 by omega),Za1h h0 h2]
    rfl
   obtain⟨r,hr,hp⟩:=Zz0 k (n / 10) (d++s) (by omega) (by omega) (by
    rw [Int.pow_succ] at h1
    have:n / 10 < 10 ^ k:=Int.ediv_lt_of_lt_mul (by decide) h1
    exact this) (by omega) (by rw [List.length_append];omega)
   exact⟨r,by rw [Zjf e];exact hr,hp⟩
  .refine Tot.stop (r:=s) ?_ ⟨show s.length<=100 by omega,by omega⟩
   show (Zf3 _ _).den=_
   dsimp only [Zf3,LT.den]
   rw [decide_eq_false hn];rfl
theorem Z21(a0:Int)(h0:0<=a0)(h1:a0 < 18446744073709551616):Tot (Z3r a0) (fun r=>(SzN r)/\(r.length<=40)):=by
 unfold Z3r LF.run;dsimp only [Z6q,LT.den]
 obtain⟨d,hd,hl⟩:=Tot.str (xs:=[IntKind.wrap .u8 (IntKind.wrap .u64 (48+(Int.tmod a0 10)))]) (by simp) (by intro m hm;simp only [List.mem_cons,List.not_mem_nil,or_false] at hm;subst hm;exact Zax7 _)
 simp only [List.length_cons,List.length_nil] at hl
 rw [hd,Option.bind_some,Option.bind_some,Zq8,Za1h h0 h1]
 exact Zz0 20 (a0 / 10) d (by omega) (by omega) (by omega) (by omega) (by omega)
theorem Ziz{a0:Int}:Tot (Zaci a0) (fun r=>(SzN r)):=by
 unfold Zaci
 refine tZ ?_
 dsimp only [Zafj,LT.den]
 refine tD (fun h1=>?_) (fun h1=>?_)
 .have q2:0<=IntKind.wrap .u64 a0/\IntKind.wrap .u64 a0 < 18446744073709551616:=Zai4 _
  have q3:0<=IntKind.wrap .u64 (0 - (IntKind.wrap .u64 a0))/\IntKind.wrap .u64 (0 - (IntKind.wrap .u64 a0)) < 18446744073709551616:=Zai4 _
  refine tB (Z21 (IntKind.wrap .u64 (0 - (IntKind.wrap .u64 a0))) cl cl) (fun x4 h5=>?_)
  have eh5_1:=h5.2
  have q6:x4.length<=100:=h5.1
  refine tB (tK (by first | (simp only [List.length_append,List.length_cons,List.length_nil];omega) | omega)) (fun x7 h8=>?_)
  exact tR (by unfold SzN;first | omega | (simp only [List.length_append,List.length_cons,List.length_nil];omega))
 .have q9:0<=IntKind.wrap .u64 a0/\IntKind.wrap .u64 a0 < 18446744073709551616:=Zai4 _
  refine tB (Z21 (IntKind.wrap .u64 a0) cl cl) (fun x10 h11=>?_)
  have eh11_1:=h11.2
  exact tR h11.1
theorem Zmr{a0:List UInt8}{a1:Za}(oa0:SzN a0)(h0:0<=a1.Kind)(h1:a1.Kind<=3):Tot (Zt4 a0 a1) (fun r=>(SzT r)):=by
 unfold Zt4
 refine tZ ?_
 have lb_a0:a0.length<=100:=oa0
 dsimp only [Zzk,LT.den]
 refine tE (fun h1=>?_) (fun h1=>?_)
 .exact tR (SzT.nil)
 .refine tB (Zamu) (fun x2 h3=>?_)
  have eh3_1:=h3.2
  refine tB (tI (by omega) (by omega)) (fun x4 h5=>?_)
  have oh5:SzN x4:=h3.1.2 x4 h5.1
  have q6:a0.length<=100:=oa0
  have q7:x4.length<=100:=oh5
  refine tB (tK (by first | (simp only [List.length_append,List.length_cons,List.length_nil];omega) | omega)) (fun x8 h9=>?_)
  refine tB (Ziz) (fun x10 h11=>?_)
  have q12:x10.length<=100:=h11
  refine tB (tK (by first | (simp only [List.length_append,List.length_cons,List.length_nil];omega) | omega)) (fun x13 h14=>?_)
  exact tR (by unfold SzT;first | omega | (simp only [List.length_append,List.length_cons,List.length_nil];omega))
def Zars:Zpj->Prop
 | .L0 v0 v1 v5 v6=>((SzL 16 SzT) v0)/\(SzN v1)/\(0<=v6)/\(v5.length<=1125899906842624*v6.toNat)/\(v0.length<=100)/\(v6<=v0.length)
def Zsk:Zpj->M6
 | .L0 v0 v1 v5 v6=>(1,((v0.length:Int) - v6).toNat,1000000,0,0,0)
theorem Zart{a0:List (List UInt8)}{a1:List UInt8}(oa0:(SzL 16 SzT) a0)(oa1:SzN a1)(h0:a0.length<=100):Tot (Zacj a0 a1) (fun r=>(r.length<=144115188075855872)):=by
 unfold Zacj
 refine tX (Inv:=Zars) (μ:=Zsk) (m:=(1000000,0,0,0,0,0)) ?_ ?_
 .have lb_a0:=oa0.1
  have lb_a1:a1.length<=100:=oa1
  dsimp only [Zafl,LT.den]
  exact tL ⟨oa0,oa1,cl,cl,cl,cl⟩ (by unfold Zsk lt6;dsimp only;omega)
 .intro s hs
  cases s with
  | L0 v0 v1 v5 v6=>
   obtain⟨ov0,ov1,cv6,i0,i1,i2⟩:=hs
   have lb_v0:=ov0.1
   have lb_v1:v1.length<=100:=ov1
   show Tot (Z0h v0 v1 v5 v6).den _
   dsimp only [Z0h,LT.den]
   have q1:=ov0.1
   refine tD (fun h2=>?_) (fun h2=>?_)
   .refine tD (fun h3=>?_) (fun h3=>?_)
    .have q4:v1.length<=100:=ov1
     refine tB (tK (by first | (simp only [List.length_append,List.length_cons,List.length_nil];omega) | omega)) (fun x5 h6=>?_)
     refine tB (tI (by omega) (by omega)) (fun x7 h8=>?_)
     have oh8:SzT x7:=ov0.2 x7 h8.1
     have q9:x7.length<=562949953421312:=oh8
     refine tB (tK (by first | (simp only [List.length_append,List.length_cons,List.length_nil];omega) | omega)) (fun x10 h11=>?_)
     refine qw (v6+1) fun q12 q13=>?_
     exact tL ⟨ov0,ov1,cl,cl,cl,cl⟩ (by unfold Zsk lt6;dsimp only;omega)
    .refine tB (tI (by omega) (by omega)) (fun x14 h15=>?_)
     have oh15:SzT x14:=ov0.2 x14 h15.1
     have q16:x14.length<=562949953421312:=oh15
     refine tB (tK (by first | (simp only [List.length_append,List.length_cons,List.length_nil];omega) | omega)) (fun x17 h18=>?_)
     refine qw (v6+1) fun q19 q20=>?_
     exact tL ⟨ov0,ov1,cl,cl,cl,cl⟩ (by unfold Zsk lt6;dsimp only;omega)
   .exact tR cl
theorem Zed{b0:List (List UInt8)}{a1:List UInt8}(ob0:(SzL 16 SzT) b0)(oa1:SzT a1)(h0:b0.length<=1000):Tot (Zw4 b0 a1) (fun r=>((SzL 16 SzT) r)/\(r.length<=b0.length+1)):=by
 unfold Zw4
 refine tZ ?_
 have lb_b0:=ob0.1
 have lb_a1:a1.length<=562949953421312:=oa1
 dsimp only [Z2b,LT.den]
 refine tF (fun h1=>?_) (fun h1=>?_)
 .exact tR ⟨ob0,cl⟩
 .have q4:=ob0.1
  refine tB (tA (by simp only [List.length_cons,List.length_nil];omega) (by decide)) (fun x2 h3=>?_)
  have lh3:x2.length=b0.length+1:=by rw [h3,List.length_append];rfl
  exact tR ⟨SzL.app (k:=16) h3 lo ob0.2 (me1 oa1),cl⟩
def Zyj:Zfj->Prop
 | .L0 E0 v6 v7 v8=>(Zaq E0)/\((SzL 16 SzN) v6)/\((SzL 16 SzT) v7)/\(0<=v8)/\(v7.length<=3+v8.toNat)/\(v8<=6)/\(v6.length=3)/\(0<=E0.Tap/\E0.Tap<=2/\0<=E0.Power.Kind/\E0.Power.Kind<=3/\0<=E0.Tough.Kind/\E0.Tough.Kind<=3/\0<=E0.Value.Kind/\E0.Value.Kind<=3)
 | .L1 E0 v6 v7 v9=>(Zaq E0)/\((SzL 16 SzN) v6)/\((SzL 16 SzT) v7)/\(0<=v9)/\(v7.length<=9+v9.toNat)/\(v9<=6)/\(v6.length=3)/\(0<=E0.Tap/\E0.Tap<=2/\0<=E0.Power.Kind/\E0.Power.Kind<=3/\0<=E0.Tough.Kind/\E0.Tough.Kind<=3/\0<=E0.Value.Kind/\E0.Value.Kind<=3)
 | .L2 E0 v6 v7 v10=>(Zaq E0)/\((SzL 16 SzN) v6)/\((SzL 16 SzT) v7)/\(0<=v10)/\(v7.length<=15+v10.toNat)/\(v10<=5)/\(v6.length=3)/\(0<=E0.Tap/\E0.Tap<=2/\0<=E0.Power.Kind/\E0.Power.Kind<=3/\0<=E0.Tough.Kind/\E0.Tough.Kind<=3/\0<=E0.Value.Kind/\E0.Value.Kind<=3)
 | .L3 E0 v6 v7 v11=>(Zaq E0)/\((SzL 16 SzN) v6)/\((SzL 16 SzT) v7)/\(0<=v11)/\(v7.length<=20+v11.toNat)/\(v11<=5)/\(v6.length=3)/\(0<=E0.Tap/\E0.Tap<=2/\0<=E0.Power.Kind/\E0.Power.Kind<=3/\0<=E0.Tough.Kind/\E0.Tough.Kind<=3/\0<=E0.Value.Kind/\E0.Value.Kind<=3)
 | .L4 E0 v6 v7=>(Zaq E0)/\((SzL 16 SzN) v6)/\((SzL 16 SzT) v7)/\(v7.length<=26)/\(v6.length=3)/\(0<=E0.Tap/\E0.Tap<=2/\0<=E0.Power.Kind/\E0.Power.Kind<=3/\0<=E0.Tough.Kind/\E0.Tough.Kind<=3/\0<=E0.Value.Kind/\E0.Value.Kind<=3)
 | .L5 E0 v6 v7 v12=>(Zaq E0)/\((SzL 16 SzN) v6)/\((SzL 16 SzT) v7)/\(0<=v12)/\(v7.length<=26+v12.toNat)/\(v12<=17)/\(v6.length=3)/\(0<=E0.Tap/\E0.Tap<=2/\0<=E0.Power.Kind/\E0.Power.Kind<=3/\0<=E0.Tough.Kind/\E0.Tough.Kind<=3/\0<=E0.Value.Kind/\E0.Value.Kind<=3)
def Za1:Zfj->M6
 | .L0 E0 v6 v7 v8=>(9,(6 - v8).toNat,1000000,0,0,0)
 | .L1 E0 v6 v7 v9=>(7,(6 - v9).toNat,1000000,0,0,0)
 | .L2 E0 v6 v7 v10=>(5,(5 - v10).toNat,1000000,0,0,0)
 | .L3 E0 v6 v7 v11=>(3,(5 - v11).toNat,1000000,0,0,0)
 | .L4 E0 v6 v7=>(2,0,0,0,0,0)
 | .L5 E0 v6 v7 v12=>(1,(17 - v12).toNat,1000000,0,0,0)
theorem Zqn{E0:Zc}{v6:List (List UInt8)}{v7:List (List UInt8)}(h:Zyj (.L4 E0 v6 v7)):Tot (Zm0 E0 v6 v7).den (Nx Zyj Za1 (2,0,0,0,0,0) (fun r=>(r.length<=144115188075855872))):=by
 obtain⟨O0,ov6,ov7,i0,i1,i2⟩:=h
 have lb_v6:=ov6.1
 have lb_v7:=ov7.1
 dsimp only [Zm0,LT.den]
 exact tL ⟨O0,ov6,ov7,cl,cl,cl,cl,cl⟩ (by unfold Za1 lt6;dsimp only;omega)
theorem Zaru{a0:Zc}(oa0:Zaq a0):Tot (Zack a0) (fun r=>(r.length<=144115188075855872)):=by
 unfold Zack
 refine tX (Inv:=Zyj) (μ:=Za1) (m:=(1000000,0,0,0,0,0)) ?_ ?_
 .dsimp only [Zafn,LT.den]
  refine tB (Zeq oa0) (fun x1 h2=>?_)
  have eh2_0:=h2.1
  have eh2_1:=h2.2
  refine tO (fun h3=>?_) (fun h3=>?_)
  .exact tR cl
  .have h3_0:=eh2_0 h3
   refine tB (Z9x) (fun x4 h5=>?_)
   have eh5_1:=h5.2
   refine tB (Zadr) (fun x6 h7=>?_)
   have eh7_1:=h7.2
   refine tB (Z9y) (fun x8 h9=>?_)
   have eh9_1:=h9.2
   refine tB (Zads) (fun x10 h11=>?_)
   have eh11_1:=h11.2
   refine tB (tI (by omega) (by omega)) (fun x12 h13=>?_)
   have oh13:SzN x12:=h5.1.2 x12 h13.1
   refine tB (Zed SzL.nil (SzN.t oh13) cl) (fun x14 h15=>?_)
   have eh15_1:=h15.2
   try simp only [List.length_nil,List.length_cons,Nat.zero_add] at eh15_1
   refine tB (tI (by omega) (by omega)) (fun x16 h17=>?_)
   have oh17:SzN x16:=h7.1.2 x16 h17.1
   refine tB (Zed h15.1 (SzN.t oh17) cl) (fun x18 h19=>?_)
   have eh19_1:=h19.2
   refine tB (tI (by omega) (by omega)) (fun x20 h21=>?_)
   have oh21:SzN x20:=h9.1.2 x20 h21.1
   refine tB (Zed h19.1 (SzN.t oh21) cl) (fun x22 h23=>?_)
   have eh23_1:=h23.2
   exact tL ⟨oa0,h11.1,h23.1,cl,cl,cl,cl,cl⟩ (by unfold Za1 lt6;dsimp only;omega)
 .intro s hs
  cases s with
  | L0 E0 v6 v7 v8=>
   obtain⟨O0,ov6,ov7,cv8,i0,i1,i2,i3⟩:=hs
   have lb_v6:=ov6.1
   have lb_v7:=ov7.1
   show Tot (Z0i E0 v6 v7 v8).den _
   dsimp only [Z0i,LT.den,Za1]
   refine tD (fun h1=>?_) (fun h1=>?_)
   .refine tB (Znh cl) (fun x2 h3=>?_)
    refine tF (fun h4=>?_) (fun h4=>?_)
    .refine tB (Zyi cl) (fun x5 h6=>?_)
     have eh6_1:=h6.2
     have q9:=ov7.1
     refine tB (tA (by simp only [List.length_cons,List.length_nil];omega) (by decide)) (fun x7 h8=>?_)
     have lh8:x7.length=v7.length+1:=by rw [h8,List.length_append];rfl
     refine qw (v8+1) fun q10 q11=>?_
     exact tL ⟨O0,ov6,SzL.app (k:=16) h8 lo ov7.2 (me1 h6.1),cl,cl,cl,cl,cl⟩ (by unfold Za1 lt6;dsimp only;omega)
    .refine qw (v8+1) fun q12 q13=>?_
     exact tL ⟨O0,ov6,ov7,cl,cl,cl,cl,cl⟩ (by unfold Za1 lt6;dsimp only;omega)
   .exact tL ⟨O0,ov6,ov7,cl,cl,cl,cl,cl⟩ (by unfold Za1 lt6;dsimp only;omega)
  | L1 E0 v6 v7 v9=>
   obtain⟨O0,ov6,ov7,cv9,i0,i1,i2,i3⟩:=hs
   have lb_v6:=ov6.1
   have lb_v7:=ov7.1
   show Tot (Z0j E0 v6 v7 v9).den _
   dsimp only [Z0j,LT.den,Za1]
   refine tD (fun h1=>?_) (fun h1=>?_)
   .refine tB (Znh cl) (fun x2 h3=>?_)
    refine tF (fun h4=>?_) (fun h4=>?_)
    .refine tB (Zyi cl) (fun x5 h6=>?_)
     have eh6_1:=h6.2
     have q7:x5.length<=562949953421312:=h6.1
     refine tB (tK (by first | (simp only [List.length_append,List.length_cons,List.length_nil];omega) | omega)) (fun x8 h9=>?_)
     have q12:=ov7.1
     refine tB (tA (by simp only [List.length_cons,List.length_nil];omega) (by decide)) (fun x10 h11=>?_)
     have lh11:x10.length=v7.length+1:=by rw [h11,List.length_append];rfl
     refine qw (v9+1) fun q13 q14=>?_
     exact tL ⟨O0,ov6,SzL.app (k:=16) h11 lo ov7.2 (me1 (by unfold SzT;first | omega | (simp only [List.length_append,List.length_cons,List.length_nil];omega))),cl,cl,cl,cl,cl⟩ (by unfold Za1 lt6;dsimp only;omega)
    .refine qw (v9+1) fun q15 q16=>?_
     exact tL ⟨O0,ov6,ov7,cl,cl,cl,cl,cl⟩ (by unfold Za1 lt6;dsimp only;omega)
   .exact tL ⟨O0,ov6,ov7,cl,cl,cl,cl,cl⟩ (by unfold Za1 lt6;dsimp only;omega)
  | L2 E0 v6 v7 v10=>
   obtain⟨O0,ov6,ov7,cv10,i0,i1,i2,i3⟩:=hs
   have lb_v6:=ov6.1
   have lb_v7:=ov7.1
   show Tot (Z0k E0 v6 v7 v10).den _
   dsimp only [Z0k,LT.den,Za1]
   refine tD (fun h1=>?_) (fun h1=>?_)
   .refine tB (Znh cl) (fun x2 h3=>?_)
    refine tF (fun h4=>?_) (fun h4=>?_)
    .refine tB (Zql) (fun x5 h6=>?_)
     have q9:=ov7.1
     refine tB (tA (by simp only [List.length_cons,List.length_nil];omega) (by decide)) (fun x7 h8=>?_)
     have lh8:x7.length=v7.length+1:=by rw [h8,List.length_append];rfl
     refine qw (v10+1) fun q10 q11=>?_
     exact tL ⟨O0,ov6,SzL.app (k:=16) h8 lo ov7.2 (me1 (SzN.t h6)),cl,cl,cl,cl,cl⟩ (by unfold Za1 lt6;dsimp only;omega)
    .refine qw (v10+1) fun q12 q13=>?_
     exact tL ⟨O0,ov6,ov7,cl,cl,cl,cl,cl⟩ (by unfold Za1 lt6;dsimp only;omega)
   .exact tL ⟨O0,ov6,ov7,cl,cl,cl,cl,cl⟩ (by unfold Za1 lt6;dsimp only;omega)
  | L3 E0 v6 v7 v11=>
   obtain⟨O0,ov6,ov7,cv11,i0,i1,i2,i3⟩:=hs
   have lb_v6:=ov6.1
   have lb_v7:=ov7.1
   show Tot (Z0l E0 v6 v7 v11).den _
   dsimp only [Z0l,LT.den,Za1]
   refine tD (fun h1=>?_) (fun h1=>?_)
   .refine tB (Znh cl) (fun x2 h3=>?_)
    refine tF (fun h4=>?_) (fun h4=>?_)
    .refine tB (Zql) (fun x5 h6=>?_)
     have q7:x5.length<=100:=h6
     refine tB (tK (by first | (simp only [List.length_append,List.length_cons,List.length_nil];omega) | omega)) (fun x8 h9=>?_)
     have q12:=ov7.1
     refine tB (tA (by simp only [List.length_cons,List.length_nil];omega) (by decide)) (fun x10 h11=>?_)
     have lh11:x10.length=v7.length+1:=by rw [h11,List.length_append];rfl
     refine qw (v11+1) fun q13 q14=>?_
     exact tL ⟨O0,ov6,SzL.app (k:=16) h11 lo ov7.2 (me1 (by unfold SzT;first | omega | (simp only [List.length_append,List.length_cons,List.length_nil];omega))),cl,cl,cl,cl,cl⟩ (by unfold Za1 lt6;dsimp only;omega)
    .refine qw (v11+1) fun q15 q16=>?_
     exact tL ⟨O0,ov6,ov7,cl,cl,cl,cl,cl⟩ (by unfold Za1 lt6;dsimp only;omega)
   .refine tO (fun h17=>?_) (fun h17=>?_)
    .have q18:E0.Sub.length<=281474976710656:=O0
     refine tB (tK (by first | (simp only [List.length_append,List.length_cons,List.length_nil];omega) | omega)) (fun x19 h20=>?_)
     have q23:=ov7.1
     refine tB (tA (by simp only [List.length_cons,List.length_nil];omega) (by decide)) (fun x21 h22=>?_)
     have lh22:x21.length=v7.length+1:=by rw [h22,List.length_append];rfl
     exact tJ (Zqn ⟨O0,ov6,SzL.app (k:=16) h22 lo ov7.2 (me1 (by unfold SzT;first | omega | (simp only [List.length_append,List.length_cons,List.length_nil];omega))),cl,cl,cl⟩)
    .exact tJ (Zqn ⟨O0,ov6,ov7,cl,cl,cl⟩)
  | L4 _ _ _=>exact Zqn hs
  | L5 E0 v6 v7 v12=>
   obtain⟨O0,ov6,ov7,cv12,i0,i1,i2,i3⟩:=hs
   have lb_v6:=ov6.1
   have lb_v7:=ov7.1
   show Tot (Z0m E0 v6 v7 v12).den _
   dsimp only [Z0m,LT.den,Za1]
   refine tD (fun h1=>?_) (fun h1=>?_)
   .refine tB (Znh cl) (fun x2 h3=>?_)
    refine tF (fun h4=>?_) (fun h4=>?_)
    .refine tB (Zyh) (fun x5 h6=>?_)
     have q7:x5.length<=100:=h6
     refine tB (tK (by first | (simp only [List.length_append,List.length_cons,List.length_nil];omega) | omega)) (fun x8 h9=>?_)
     have q12:=ov7.1
     refine tB (tA (by simp only [List.length_cons,List.length_nil];omega) (by decide)) (fun x10 h11=>?_)
     have lh11:x10.length=v7.length+1:=by rw [h11,List.length_append];rfl
     refine qw (v12+1) fun q13 q14=>?_
     exact tL ⟨O0,ov6,SzL.app (k:=16) h11 lo ov7.2 (me1 (by unfold SzT;first | omega | (simp only [List.length_append,List.length_cons,List.length_nil];omega))),cl,cl,cl,cl,cl⟩ (by unfold Za1 lt6;dsimp only;omega)
    .refine qw (v12+1) fun q15 q16=>?_
     exact tL ⟨O0,ov6,ov7,cl,cl,cl,cl,cl⟩ (by unfold Za1 lt6;dsimp only;omega)
   .refine tB (tI (by omega) (by omega)) (fun x17 h18=>?_)
    have oh18:SzN x17:=ov6.2 x17 h18.1
    refine tB (Zed ov7 (SzN.t oh18) cl) (fun x19 h20=>?_)
    have eh20_1:=h20.2
    refine tB (Zmr (by unfold SzN;first | omega | (simp only [List.length_append,List.length_cons,List.length_nil];omega)) cl cl) (fun x21 h22=>?_)
    refine tB (Zed h20.1 h22 cl) (fun x23 h24=>?_)
    have eh24_1:=h24.2
    refine tB (Zmr (by unfold SzN;first | omega | (simp only [List.length_append,List.length_cons,List.length_nil];omega)) cl cl) (fun x25 h26=>?_)
    refine tB (Zed h24.1 h26 cl) (fun x27 h28=>?_)
    have eh28_1:=h28.2
    refine tB (Zmr (by unfold SzN;first | omega | (simp only [List.length_append,List.length_cons,List.length_nil];omega)) cl cl) (fun x29 h30=>?_)
    refine tB (Zed h28.1 h30 cl) (fun x31 h32=>?_)
    have eh32_1:=h32.2
    refine tE (fun h33=>?_) (fun h33=>?_)
    .exact tR cl
    .refine tB (Zart h32.1 (by unfold SzN;first | omega | (simp only [List.length_append,List.length_cons,List.length_nil];omega)) cl) (fun x34 h35=>?_)
     have eh35_0:=h35
     exact tR cl
theorem Z8n{a0:Zh}(oa0:Z8 a0):Tot (Zacl a0) (fun r=>(r.length<=288230376151711744)):=by
 unfold Zacl
 refine tZ ?_
 dsimp only [Zafp,LT.den]
 refine tB (Zahq oa0) (fun x1 h2=>?_)
 refine tO (fun h3=>?_) (fun h3=>?_)
 .exact tR cl
 .refine tE (fun h4=>?_) (fun h4=>?_)
  .exact tR cl
  .refine tE (fun h5=>?_) (fun h5=>?_)
   .refine tB (Zmq) (fun x6 h7=>?_)
    have eh7_1:=h7.2
    have q8:x6.length<=562949953421312:=h7.1
    refine tB (tK (by first | (simp only [List.length_append,List.length_cons,List.length_nil];omega) | omega)) (fun x9 h10=>?_)
    exact tR cl
   .refine tE (fun h11=>?_) (fun h11=>?_)
    .refine tB (Zmq) (fun x12 h13=>?_)
     have eh13_1:=h13.2
     have q14:x12.length<=562949953421312:=h13.1
     refine tB (tK (by first | (simp only [List.length_append,List.length_cons,List.length_nil];omega) | omega)) (fun x15 h16=>?_)
     exact tR cl
    .refine tE (fun h17=>?_) (fun h17=>?_)
     .have q18:a0.Sub.length<=281474976710656:=oa0.1
      refine tB (tK (by first | (simp only [List.length_append,List.length_cons,List.length_nil];omega) | omega)) (fun x19 h20=>?_)
      exact tR cl
     .refine tE (fun h21=>?_) (fun h21=>?_)
      .have q22:a0.Sub.length<=281474976710656:=oa0.1
       refine tB (tK (by first | (simp only [List.length_append,List.length_cons,List.length_nil];omega) | omega)) (fun x23 h24=>?_)
       exact tR cl
      .refine tE (fun h25=>?_) (fun h25=>?_)
       .refine tB (Z8l) (fun x26 h27=>?_)
        have q28:x26.length<=562949953421312:=h27
        refine tB (tK (by first | (simp only [List.length_append,List.length_cons,List.length_nil];omega) | omega)) (fun x29 h30=>?_)
        exact tR cl
       .refine tE (fun h31=>?_) (fun h31=>?_)
        .refine tB (Z8l) (fun x32 h33=>?_)
         have q34:x32.length<=562949953421312:=h33
         refine tB (tK (by first | (simp only [List.length_append,List.length_cons,List.length_nil];omega) | omega)) (fun x35 h36=>?_)
         exact tR cl
        .refine tE (fun h37=>?_) (fun h37=>?_)
         .refine tB (Z8m) (fun x38 h39=>?_)
          have q40:x38.length<=562949953421312:=h39
          refine tB (tK (by first | (simp only [List.length_append,List.length_cons,List.length_nil];omega) | omega)) (fun x41 h42=>?_)
          exact tR cl
         .refine tE (fun h43=>?_) (fun h43=>?_)
          .refine tB (Z8m) (fun x44 h45=>?_)
           have q46:x44.length<=562949953421312:=h45
           refine tB (tK (by first | (simp only [List.length_append,List.length_cons,List.length_nil];omega) | omega)) (fun x47 h48=>?_)
           exact tR cl
          .refine tE (fun h49=>?_) (fun h49=>?_)
           .exact tR cl
           .refine tE (fun h50=>?_) (fun h50=>?_)
            .refine tB (Zaru oa0.2) (fun x51 h52=>?_)
             have eh52_0:=h52
             refine tB (tK (by first | (simp only [List.length_append,List.length_cons,List.length_nil];omega) | omega)) (fun x53 h54=>?_)
             refine tB (tK (by first | (simp only [List.length_append,List.length_cons,List.length_nil];omega) | omega)) (fun x55 h56=>?_)
             exact tR cl
            .refine tE (fun h57=>?_) (fun h57=>?_)
             .refine tB (Ziz) (fun x58 h59=>?_)
              have q60:x58.length<=100:=h59
              refine tB (tK (by first | (simp only [List.length_append,List.length_cons,List.length_nil];omega) | omega)) (fun x61 h62=>?_)
              refine tB (tK (by first | (simp only [List.length_append,List.length_cons,List.length_nil];omega) | omega)) (fun x63 h64=>?_)
              refine tB (Ziz) (fun x65 h66=>?_)
              have q67:x65.length<=100:=h66
              refine tB (tK (by first | (simp only [List.length_append,List.length_cons,List.length_nil];omega) | omega)) (fun x68 h69=>?_)
              exact tR cl
             .refine tE (fun h70=>?_) (fun h70=>?_)
              .refine tB (Ziz) (fun x71 h72=>?_)
               have q73:x71.length<=100:=h72
               refine tB (tK (by first | (simp only [List.length_append,List.length_cons,List.length_nil];omega) | omega)) (fun x74 h75=>?_)
               refine tB (tK (by first | (simp only [List.length_append,List.length_cons,List.length_nil];omega) | omega)) (fun x76 h77=>?_)
               refine tB (Ziz) (fun x78 h79=>?_)
               have q80:x78.length<=100:=h79
               refine tB (tK (by first | (simp only [List.length_append,List.length_cons,List.length_nil];omega) | omega)) (fun x81 h82=>?_)
               exact tR cl
              .exact tR cl
def Zadu:Zil->Prop
 | .L0 v0 v3 v4=>((SzL 176 Z8) v0)/\(0<=v4)/\(v3.length<=576460752303423488*v4.toNat)/\(v0.length<=6)/\(v4<=v0.length)
def Zkm:Zil->M6
 | .L0 v0 v3 v4=>(1,((v0.length:Int) - v4).toNat,1000000,0,0,0)
theorem Zn8{a0:List Zh}(oa0:(SzL 176 Z8) a0):Tot (Zw5 a0) (fun r=>(r.length<=4611686018427387904)):=by
 unfold Zw5
 refine tX (Inv:=Zadu) (μ:=Zkm) (m:=(1000000,0,0,0,0,0)) ?_ ?_
 .have lb_a0:=oa0.1
  dsimp only [Z2d,LT.den]
  have q1:=oa0.1
  refine tE (fun h2=>?_) (fun h2=>?_)
  .exact tR cl
  .refine tD (fun h3=>?_) (fun h3=>?_)
   .exact tR cl
   .exact tL ⟨oa0,cl,cl,cl,cl⟩ (by unfold Zkm lt6;dsimp only;omega)
 .intro s hs
  cases s with
  | L0 v0 v3 v4=>
   obtain⟨ov0,cv4,i0,i1,i2⟩:=hs
   have lb_v0:=ov0.1
   show Tot (Zpk v0 v3 v4).den _
   dsimp only [Zpk,LT.den]
   have q1:=ov0.1
   refine tD (fun h2=>?_) (fun h2=>?_)
   .refine tB (tI (by omega) (by omega)) (fun x3 h4=>?_)
    have oh4:Z8 x3:=ov0.2 x3 h4.1
    refine tB (Zahq oh4) (fun x5 h6=>?_)
    refine tO (fun h7=>?_) (fun h7=>?_)
    .exact tR cl
    .refine tD (fun h8=>?_) (fun h8=>?_)
     .refine tB (tK (by first | (simp only [List.length_append,List.length_cons,List.length_nil];omega) | omega)) (fun x9 h10=>?_)
      refine tB (Z8n oh4) (fun x11 h12=>?_)
      have eh12_0:=h12
      refine tB (tK (by first | (simp only [List.length_append,List.length_cons,List.length_nil];omega) | omega)) (fun x13 h14=>?_)
      refine qw (v4+1) fun q15 q16=>?_
      exact tL ⟨ov0,cl,cl,cl,cl⟩ (by unfold Zkm lt6;dsimp only;omega)
     .refine tB (Z8n oh4) (fun x17 h18=>?_)
      have eh18_0:=h18
      refine tB (tK (by first | (simp only [List.length_append,List.length_cons,List.length_nil];omega) | omega)) (fun x19 h20=>?_)
      refine qw (v4+1) fun q21 q22=>?_
      exact tL ⟨ov0,cl,cl,cl,cl⟩ (by unfold Zkm lt6;dsimp only;omega)
   .exact tR cl
theorem Zamv{a0:Zfq}:Tot (Z6r a0) (fun r=>True):=by
 unfold Z6r
 refine tZ ?_
 dsimp only [Zaai,LT.den]
 refine tB (Zv7 a0.Mana) (fun x1 h2=>?_)
 have eh2_0:=h2.1
 have eh2_1:=h2.2.1
 have eh2_2:=h2.2.2
 refine tF (fun h3=>?_) (fun h3=>?_)
 .have h3_0:=eh2_0 h3
  have h3_1:=eh2_1 h3
  refine tE (fun h4=>?_) (fun h4=>?_)
  .refine tD (fun h5=>?_) (fun h5=>?_)
   .exact tR trivial
   .exact tR trivial
  .exact tR trivial
 .exact tR trivial
theorem Z8o{a0:Int}:Tot (Zacm a0) (fun r=>(SzN r)):=by
 unfold Zacm
 refine tZ ?_
 dsimp only [Zafr,LT.den]
 refine tE (fun h1=>?_) (fun h1=>?_)
 .exact tR (by unfold SzN;first | omega | (simp only [List.length_append,List.length_cons,List.length_nil];omega))
 .refine tE (fun h2=>?_) (fun h2=>?_)
  .exact tR (by unfold SzN;first | omega | (simp only [List.length_append,List.length_cons,List.length_nil];omega))
  .refine tE (fun h3=>?_) (fun h3=>?_)
   .exact tR (by unfold SzN;first | omega | (simp only [List.length_append,List.length_cons,List.length_nil];omega))
   .refine tE (fun h4=>?_) (fun h4=>?_)
    .exact tR (by unfold SzN;first | omega | (simp only [List.length_append,List.length_cons,List.length_nil];omega))
    .refine tE (fun h5=>?_) (fun h5=>?_)
     .exact tR (by unfold SzN;first | omega | (simp only [List.length_append,List.length_cons,List.length_nil];omega))
     .refine tE (fun h6=>?_) (fun h6=>?_)
      .exact tR (by unfold SzN;first | omega | (simp only [List.length_append,List.length_cons,List.length_nil];omega))
      .refine tE (fun h7=>?_) (fun h7=>?_)
       .exact tR (by unfold SzN;first | omega | (simp only [List.length_append,List.length_cons,List.length_nil];omega))
       .refine tE (fun h8=>?_) (fun h8=>?_)
        .exact tR (by unfold SzN;first | omega | (simp only [List.length_append,List.length_cons,List.length_nil];omega))
        .refine tE (fun h9=>?_) (fun h9=>?_)
         .exact tR (by unfold SzN;first | omega | (simp only [List.length_append,List.length_cons,List.length_nil];omega))
         .refine tE (fun h10=>?_) (fun h10=>?_)
          .exact tR (by unfold SzN;first | omega | (simp only [List.length_append,List.length_cons,List.length_nil];omega))
          .refine tE (fun h11=>?_) (fun h11=>?_)
           .exact tR (by unfold SzN;first | omega | (simp only [List.length_append,List.length_cons,List.length_nil];omega))
           .refine tE (fun h12=>?_) (fun h12=>?_)
            .exact tR (by unfold SzN;first | omega | (simp only [List.length_append,List.length_cons,List.length_nil];omega))
            .refine tE (fun h13=>?_) (fun h13=>?_)
             .exact tR (by unfold SzN;first | omega | (simp only [List.length_append,List.length_cons,List.length_nil];omega))
             .refine tE (fun h14=>?_) (fun h14=>?_)
              .exact tR (by unfold SzN;first | omega | (simp only [List.length_append,List.length_cons,List.length_nil];omega))
              .exact tR (SzN.nil)
theorem Z22{a0:Int}:Tot (Z3s a0) (fun r=>True):=by
 unfold Z3s
 refine tZ ?_
 dsimp only [Z6s,LT.den]
 refine tE (fun h1=>?_) (fun h1=>?_)
 .exact tR trivial
 .refine tE (fun h2=>?_) (fun h2=>?_)
  .exact tR trivial
  .refine tE (fun h3=>?_) (fun h3=>?_)
   .exact tR trivial
   .refine tE (fun h4=>?_) (fun h4=>?_)
    .exact tR trivial
    .refine tE (fun h5=>?_) (fun h5=>?_)
     .exact tR trivial
     .exact tR trivial
theorem Z9z{a0:Int}:Tot (Zt5 a0) (fun r=>True):=by
 unfold Zt5
 refine tZ ?_
 dsimp only [Zzm,LT.den]
 refine tB (Z8o) (fun x1 h2=>?_)
 refine tO (fun h3=>?_) (fun h3=>?_)
 .refine tB (Z22) (fun x4 h5=>?_)
  refine tO (fun h6=>?_) (fun h6=>?_)
  .exact tR trivial
  .exact tR trivial
 .exact tR trivial
def Z4h:Zw6->Prop
 | .L0 E0=>(Zl8 E0)/\True
def Zalt:Zw6->M6
 | .L0 E0=>(0,0,0,0,0,0)
theorem Zu5{E0:Zbx}(h:Z4h (.L0 E0)):Tot (Zs7 E0).den (Nx Z4h Zalt (0,0,0,0,0,0) (fun r=>True)):=by
 obtain⟨O0,_⟩:=h
 dsimp only [Zs7,LT.den]
 refine tB (Z9z) (fun x1 h2=>?_)
 refine tO (fun h3=>?_) (fun h3=>?_)
 .exact tR trivial
 .refine tE (fun h4=>?_) (fun h4=>?_)
  .refine tB (Zeq O0) (fun x5 h6=>?_)
   have eh6_0:=h6.1
   have eh6_1:=h6.2
   refine tF (fun h7=>?_) (fun h7=>?_)
   .have h7_0:=eh6_0 h7
    exact tR trivial
   .exact tR trivial
  .refine tB (Zeq O0) (fun x8 h9=>?_)
   have eh9_0:=h9.1
   have eh9_1:=h9.2
   refine tF (fun h10=>?_) (fun h10=>?_)
   .have h10_0:=eh9_0 h10
    exact tR trivial
   .exact tR trivial
theorem Zawo{a0:Zbx}(oa0:Zl8 a0):Tot (Zapn a0) (fun r=>True):=by
 unfold Zapn
 refine tX (Inv:=Z4h) (μ:=Zalt) (m:=(1000000,0,0,0,0,0)) ?_ ?_
 .dsimp only [Zapl,LT.den]
  refine tB (Z8o) (fun x1 h2=>?_)
  refine tF (fun h3=>?_) (fun h3=>?_)
  .exact tR trivial
  .refine tD (fun h4=>?_) (fun h4=>?_)
   .exact tR trivial
   .refine tD (fun h5=>?_) (fun h5=>?_)
    .exact tR trivial
    .refine tB (Z22) (fun x6 h7=>?_)
     refine tO (fun h8=>?_) (fun h8=>?_)
     .refine tN (fun h9=>?_) (fun h9=>?_)
      .exact tR trivial
      .exact tJ (Zu5 ⟨oa0,trivial⟩)
     .exact tJ (Zu5 ⟨oa0,trivial⟩)
 .intro s hs
  cases s with
  | L0 _=>exact Zu5 hs
theorem Zu6{a0:Zc}(oa0:Zaq a0):Tot (Z6u a0) (fun r=>True):=by
 unfold Z6u
 refine tZ ?_
 dsimp only [Zaal,LT.den]
 refine tB (Zeq oa0) (fun x1 h2=>?_)
 have eh2_0:=h2.1
 have eh2_1:=h2.2
 refine tF (fun h3=>?_) (fun h3=>?_)
 .have h3_0:=eh2_0 h3
  exact tR trivial
 .exact tR trivial
theorem Zamw{a0:Zas}(oa0:Zdg a0):Tot (Z6v a0) (fun r=>True):=by
 unfold Z6v
 refine tZ ?_
 dsimp only [Zaan,LT.den]
 refine tN (fun h1=>?_) (fun h1=>?_)
 .exact tR trivial
 .refine tB (Zu6 oa0) (fun x2 h3=>?_)
  refine tO (fun h4=>?_) (fun h4=>?_)
  .exact tR trivial
  .refine tE (fun h5=>?_) (fun h5=>?_)
   .refine tE (fun h6=>?_) (fun h6=>?_)
    .refine tE (fun h7=>?_) (fun h7=>?_)
     .refine tE (fun h8=>?_) (fun h8=>?_)
      .exact tR trivial
      .refine tE (fun h9=>?_) (fun h9=>?_)
       .exact tR trivial
       .exact tR trivial
     .exact tR trivial
    .exact tR trivial
   .refine tE (fun h10=>?_) (fun h10=>?_)
    .refine tE (fun h11=>?_) (fun h11=>?_)
     .refine tE (fun h12=>?_) (fun h12=>?_)
      .exact tR trivial
      .exact tR trivial
     .exact tR trivial
    .refine tE (fun h13=>?_) (fun h13=>?_)
     .refine tE (fun h14=>?_) (fun h14=>?_)
      .refine tD (fun h15=>?_) (fun h15=>?_)
       .refine tD (fun h16=>?_) (fun h16=>?_)
        .refine tD (fun h17=>?_) (fun h17=>?_)
         .exact tR trivial
         .exact tR trivial
        .exact tR trivial
       .exact tR trivial
      .exact tR trivial
     .exact tR trivial
theorem Zamx{a0:Zas}(oa0:Zdg a0):Tot (Z6w a0) (fun r=>True):=by
 unfold Z6w
 refine tZ ?_
 dsimp only [Zaap,LT.den]
 refine tN (fun h1=>?_) (fun h1=>?_)
 .exact tR trivial
 .refine tN (fun h2=>?_) (fun h2=>?_)
  .exact tR trivial
  .refine tE (fun h3=>?_) (fun h3=>?_)
   .refine tD (fun h4=>?_) (fun h4=>?_)
    .exact tR trivial
    .exact tR trivial
   .refine tE (fun h5=>?_) (fun h5=>?_)
    .refine tD (fun h6=>?_) (fun h6=>?_)
     .exact tR trivial
     .exact tR trivial
    .exact tR trivial
def Zl9:Zn5->Prop
 | .L0 E0 v3 v4=>(Zdg E0)/\True
 | .L1 E0 v3=>(Zdg E0)/\True
 | .L2 E0 v3 v4 v109=>(Zdg E0)/\True
def Zz1:Zn5->M6
 | .L0 E0 v3 v4=>(0,0,0,0,0,0)
 | .L1 E0 v3=>(0,0,0,0,0,0)
 | .L2 E0 v3 v4 v109=>(0,0,0,0,0,0)
theorem Zno{E0:Zas}{v3:Bool}{v4:Bool}{v109:Bool}(h:(Zdg E0)/\True):Tot (Zof E0 v3 v4 v109).den (Nx Zl9 Zz1 (0,0,0,0,0,0) (fun r=>True)):=by
 obtain⟨O0,_⟩:=h
 dsimp only [Zof,LT.den]
 refine tF (fun h1=>?_) (fun h1=>?_)
 .refine tF (fun h2=>?_) (fun h2=>?_)
  .refine tD (fun h3=>?_) (fun h3=>?_)
   .refine tD (fun h4=>?_) (fun h4=>?_)
    .exact tR trivial
    .exact tR trivial
   .exact tR trivial
  .exact tR trivial
 .exact tR trivial
theorem Zj4{E0:Zas}{v3:Bool}(h:Zl9 (.L1 E0 v3)):Tot (Zk6 E0 v3).den (Nx Zl9 Zz1 (0,0,0,0,0,0) (fun r=>True)):=by
 obtain⟨O0,_⟩:=h
 dsimp only [Zk6,LT.den]
 refine tE (fun h1=>?_) (fun h1=>?_)
 .refine tB (Zu6 O0) (fun x2 h3=>?_)
  refine tF (fun h4=>?_) (fun h4=>?_)
  .exact tR trivial
  .refine tE (fun h5=>?_) (fun h5=>?_)
   .exact tR trivial
   .refine tE (fun h6=>?_) (fun h6=>?_)
    .exact tR trivial
    .exact tR trivial
 .refine tE (fun h7=>?_) (fun h7=>?_)
  .exact tR trivial
  .refine tE (fun h8=>?_) (fun h8=>?_)
   .exact tR trivial
   .exact tR trivial
theorem Znp{E0:Zas}{v3:Bool}{v4:Bool}(h:Zl9 (.L0 E0 v3 v4)):Tot (Zog E0 v3 v4).den (Nx Zl9 Zz1 (0,0,0,0,0,0) (fun r=>True)):=by
 obtain⟨O0,_⟩:=h
 dsimp only [Zog,LT.den]
 refine tE (fun h1=>?_) (fun h1=>?_)
 .refine tN (fun h2=>?_) (fun h2=>?_)
  .refine tN (fun h3=>?_) (fun h3=>?_)
   .refine tN (fun h4=>?_) (fun h4=>?_)
    .refine tN (fun h5=>?_) (fun h5=>?_)
     .exact tR trivial
     .exact tJ (Zj4 ⟨O0,trivial⟩)
    .exact tJ (Zj4 ⟨O0,trivial⟩)
   .exact tJ (Zj4 ⟨O0,trivial⟩)
  .exact tJ (Zj4 ⟨O0,trivial⟩)
 .refine tE (fun h6=>?_) (fun h6=>?_)
  .refine tF (fun h7=>?_) (fun h7=>?_)
   .refine tE (fun h8=>?_) (fun h8=>?_)
    .refine tB (Zu6 O0) (fun x9 h10=>?_)
     exact tR trivial
    .exact tR trivial
   .exact tR trivial
  .refine tE (fun h11=>?_) (fun h11=>?_)
   .refine tE (fun h12=>?_) (fun h12=>?_)
    .refine tD (fun h13=>?_) (fun h13=>?_)
     .refine tD (fun h14=>?_) (fun h14=>?_)
      .exact tR trivial
      .exact tR trivial
     .exact tR trivial
    .refine tE (fun h15=>?_) (fun h15=>?_)
     .refine tD (fun h16=>?_) (fun h16=>?_)
      .refine tD (fun h17=>?_) (fun h17=>?_)
       .exact tR trivial
       .exact tR trivial
      .exact tR trivial
     .exact tR trivial
   .refine tE (fun h18=>?_) (fun h18=>?_)
    .exact tJ (Zno ⟨O0,trivial⟩)
    .refine tE (fun h19=>?_) (fun h19=>?_)
     .exact tJ (Zno ⟨O0,trivial⟩)
     .exact tJ (Zno ⟨O0,trivial⟩)
theorem Zawp{a0:Zas}(oa0:Zdg a0):Tot (Zaps a0) (fun r=>True):=by
 unfold Zaps
 refine tX (Inv:=Zl9) (μ:=Zz1) (m:=(1000000,0,0,0,0,0)) ?_ ?_
 .dsimp only [Zapq,LT.den]
  refine tE (fun h1=>?_) (fun h1=>?_)
  .refine tB (Zamw oa0) (fun x2 h3=>?_)
   exact tR trivial
  .refine tB (Zamx oa0) (fun x4 h5=>?_)
   refine tO (fun h6=>?_) (fun h6=>?_)
   .exact tR trivial
   .refine tE (fun h7=>?_) (fun h7=>?_)
    .exact tJ (Znp ⟨oa0,trivial⟩)
    .refine tE (fun h8=>?_) (fun h8=>?_)
     .exact tJ (Znp ⟨oa0,trivial⟩)
     .exact tJ (Znp ⟨oa0,trivial⟩)
 .intro s hs
  cases s with
  | L0 _ _ _=>exact Znp hs
  | L1 _ _=>exact Zj4 hs
  | L2 _ _ _ _=>exact Zno hs
theorem Zarv{a0:Zat}(oa0:Zem a0):Tot (Zaco a0) (fun r=>True):=by
 unfold Zaco
 refine tZ ?_
 dsimp only [Zaft,LT.den]
 refine tO (fun h1=>?_) (fun h1=>?_)
 .refine tF (fun h2=>?_) (fun h2=>?_)
  .exact tR trivial
  .exact tR trivial
 .refine tB (Zeq oa0) (fun x3 h4=>?_)
  have eh4_0:=h4.1
  have eh4_1:=h4.2
  refine tF (fun h5=>?_) (fun h5=>?_)
  .have h5_0:=eh4_0 h5
   refine tE (fun h6=>?_) (fun h6=>?_)
   .exact tR trivial
   .refine tE (fun h7=>?_) (fun h7=>?_)
    .exact tR trivial
    .exact tR trivial
  .exact tR trivial
def Zamy:Zm1->Prop
 | .L0 v0 v3=>((SzL 144 Zem) v0)/\(0<=v3)
def Zyk:Zm1->M6
 | .L0 v0 v3=>(1,((v0.length:Int) - v3).toNat,1000000,0,0,0)
theorem Zamz{a0:List Zat}(oa0:(SzL 144 Zem) a0):Tot (Z6x a0) (fun r=>True):=by
 unfold Z6x
 refine tX (Inv:=Zamy) (μ:=Zyk) (m:=(1000000,0,0,0,0,0)) ?_ ?_
 .have lb_a0:=oa0.1
  dsimp only [Zaar,LT.den]
  exact tL ⟨oa0,cl⟩ (by unfold Zyk lt6;dsimp only;omega)
 .intro s hs
  cases s with
  | L0 v0 v3=>
   obtain⟨ov0,cv3⟩:=hs
   have lb_v0:=ov0.1
   show Tot (Zw8 v0 v3).den _
   dsimp only [Zw8,LT.den]
   have q1:=ov0.1
   refine tD (fun h2=>?_) (fun h2=>?_)
   .refine tB (tI (by omega) (by omega)) (fun x3 h4=>?_)
    have oh4:Zem x3:=ov0.2 x3 h4.1
    refine tB (Zarv oh4) (fun x5 h6=>?_)
    refine tO (fun h7=>?_) (fun h7=>?_)
    .exact tR trivial
    .refine qw (v3+1) fun q8 q9=>?_
     exact tL ⟨ov0,cl⟩ (by unfold Zyk lt6;dsimp only;omega)
   .exact tR trivial
theorem Zarw{a0:Int}:Tot (Zacp a0) (fun r=>(SzN r)):=by
 unfold Zacp
 refine tZ ?_
 dsimp only [Zafv,LT.den]
 refine tD (fun h1=>?_) (fun h1=>?_)
 .exact tR (SzN.nil)
 .refine tD (fun h2=>?_) (fun h2=>?_)
  .exact tR (SzN.nil)
  .have q3:(SzL 16 SzN) ([([100,97,109,97,103,101]:List UInt8),([100,101,115,116,114,111,121]:List UInt8),([109,111,118,101]:List UInt8),([100,114,97,119]:List UInt8),([100,105,115,99,97,114,100]:List UInt8),([103,97,105,110]:List UInt8),([108,111,115,101]:List UInt8),([116,97,112]:List UInt8),([117,110,116,97,112]:List UInt8),([112,117,116]:List UInt8),([116,97,107,101]:List UInt8),([99,114,101,97,116,101]:List UInt8),([109,111,100]:List UInt8),([109,97,110,97]:List UInt8),([99,111,117,110,116,101,114]:List UInt8),([99,111,112,121]:List UInt8),([98,101,99,111,109,101]:List UInt8),([115,97,99,114,105,102,105,99,101]:List UInt8),([109,105,108,108]:List UInt8),([115,99,114,121]:List UInt8),([115,101,97,114,99,104]:List UInt8),([115,104,105,101,108,100]:List UInt8),([116,117,114,110]:List UInt8),([119,105,110]:List UInt8),([100,101,102,101,97,116]:List UInt8),([118,101,110,111,109]:List UInt8)]:List (List UInt8)):=⟨by simp only [List.length_cons,List.length_nil];omega,mem_cons' (by unfold SzN;first | omega | (simp only [List.length_append,List.length_cons,List.length_nil];omega)) (mem_cons' (by unfold SzN;first | omega | (simp only [List.length_append,List.length_cons,List.length_nil];omega)) (mem_cons' (by unfold SzN;first | omega | (simp only [List.length_append,List.length_cons,List.length_nil];omega)) (mem_cons' (by unfold SzN;first | omega | (simp only [List.length_append,List.length_cons,List.length_nil];omega)) (mem_cons' (by unfold SzN;first | omega | (simp only [List.length_append,List.length_cons,List.length_nil];omega)) (mem_cons' (by unfold SzN;first | omega | (simp only [List.length_append,List.length_cons,List.length_nil];omega)) (mem_cons' (by unfold SzN;first | omega | (simp only [List.length_append,List.length_cons,List.length_nil];omega)) (mem_cons' (by unfold SzN;first | omega | (simp only [List.length_append,List.length_cons,List.length_nil];omega)) (mem_cons' (by unfold SzN;first | omega | (simp only [List.length_append,List.length_cons,List.length_nil];omega)) (mem_cons' (by unfold SzN;first | omega | (simp only [List.length_append,List.length_cons,List.length_nil];omega)) (mem_cons' (by unfold SzN;first | omega | (simp only [List.length_append,List.length_cons,List.length_nil];omega)) (mem_cons' (by unfold SzN;first | omega | (simp only [List.length_append,List.length_cons,List.length_nil];omega)) (mem_cons' (by unfold SzN;first | omega | (simp only [List.length_append,List.length_cons,List.length_nil];omega)) (mem_cons' (by unfold SzN;first | omega | (simp only [List.length_append,List.length_cons,List.length_nil];omega)) (mem_cons' (by unfold SzN;first | omega | (simp only [List.length_append,List.length_cons,List.length_nil];omega)) (mem_cons' (by unfold SzN;first | omega | (simp only [List.length_append,List.length_cons,List.length_nil];omega)) (mem_cons' (by unfold SzN;first | omega | (simp only [List.length_append,List.length_cons,List.length_nil];omega)) (mem_cons' (by unfold SzN;first | omega | (simp only [List.length_append,List.length_cons,List.length_nil];omega)) (mem_cons' (by unfold SzN;first | omega | (simp only [List.length_append,List.length_cons,List.length_nil];omega)) (mem_cons' (by unfold SzN;first | omega | (simp only [List.length_append,List.length_cons,List.length_nil];omega)) (mem_cons' (by unfold SzN;first | omega | (simp only [List.length_append,List.length_cons,List.length_nil];omega)) (mem_cons' (by unfold SzN;first | omega | (simp only [List.length_append,List.length_cons,List.length_nil];omega)) (mem_cons' (by unfold SzN;first | omega | (simp only [List.length_append,List.length_cons,List.length_nil];omega)) (mem_cons' (by unfold SzN;first | omega | (simp only [List.length_append,List.length_cons,List.length_nil];omega)) (mem_cons' (by unfold SzN;first | omega | (simp only [List.length_append,List.length_cons,List.length_nil];omega)) (mem_cons' (by unfold SzN;first | omega | (simp only [List.length_append,List.length_cons,List.length_nil];omega)) (fun _ h=>by cases h))))))))))))))))))))))))))⟩
   have lq3:([([100,97,109,97,103,101]:List UInt8),([100,101,115,116,114,111,121]:List UInt8),([109,111,118,101]:List UInt8),([100,114,97,119]:List UInt8),([100,105,115,99,97,114,100]:List UInt8),([103,97,105,110]:List UInt8),([108,111,115,101]:List UInt8),([116,97,112]:List UInt8),([117,110,116,97,112]:List UInt8),([112,117,116]:List UInt8),([116,97,107,101]:List UInt8),([99,114,101,97,116,101]:List UInt8),([109,111,100]:List UInt8),([109,97,110,97]:List UInt8),([99,111,117,110,116,101,114]:List UInt8),([99,111,112,121]:List UInt8),([98,101,99,111,109,101]:List UInt8),([115,97,99,114,105,102,105,99,101]:List UInt8),([109,105,108,108]:List UInt8),([115,99,114,121]:List UInt8),([115,101,97,114,99,104]:List UInt8),([115,104,105,101,108,100]:List UInt8),([116,117,114,110]:List UInt8),([119,105,110]:List UInt8),([100,101,102,101,97,116]:List UInt8),([118,101,110,111,109]:List UInt8)]:List (List UInt8)).length=26:=rfl
   refine qw (a0 - 1) fun q4 q5=>?_
   refine tB (tI (by omega) (by omega)) (fun x6 h7=>?_)
   have oh7:SzN x6:=q3.2 x6 h7.1
   exact tR oh7
def Zyl:Zlz->Prop
 | .L0 v3 v4=>True
 | .L1 v3 v14=>True
def Z1k:Zlz->M6
 | .L0 v3 v4=>(0,0,0,0,0,0)
 | .L1 v3 v14=>(0,0,0,0,0,0)
theorem Zqo{v3:Int}{v14:Bool}(h:True):Tot (Zm2 v3 v14).den (Nx Zyl Z1k (0,0,0,0,0,0) (fun r=>(SzN r))):=by
 dsimp only [Zm2,LT.den]
 refine tF (fun h1=>?_) (fun h1=>?_)
 .exact tR (by unfold SzN;first | omega | (simp only [List.length_append,List.length_cons,List.length_nil];omega))
 .refine tE (fun h2=>?_) (fun h2=>?_)
  .exact tR (by unfold SzN;first | omega | (simp only [List.length_append,List.length_cons,List.length_nil];omega))
  .refine tE (fun h3=>?_) (fun h3=>?_)
   .exact tR (by unfold SzN;first | omega | (simp only [List.length_append,List.length_cons,List.length_nil];omega))
   .refine tE (fun h4=>?_) (fun h4=>?_)
    .exact tR (by unfold SzN;first | omega | (simp only [List.length_append,List.length_cons,List.length_nil];omega))
    .refine tE (fun h5=>?_) (fun h5=>?_)
     .exact tR (by unfold SzN;first | omega | (simp only [List.length_append,List.length_cons,List.length_nil];omega))
     .refine tE (fun h6=>?_) (fun h6=>?_)
      .exact tR (by unfold SzN;first | omega | (simp only [List.length_append,List.length_cons,List.length_nil];omega))
      .refine tE (fun h7=>?_) (fun h7=>?_)
       .exact tR (by unfold SzN;first | omega | (simp only [List.length_append,List.length_cons,List.length_nil];omega))
       .refine tE (fun h8=>?_) (fun h8=>?_)
        .exact tR (SzN.nil)
        .refine tE (fun h9=>?_) (fun h9=>?_)
         .exact tR (SzN.nil)
         .exact tR (by unfold SzN;first | omega | (simp only [List.length_append,List.length_cons,List.length_nil];omega))
theorem Zdw{v3:Int}{v4:Bool}(h:True):Tot (Zel v3 v4).den (Nx Zyl Z1k (0,0,0,0,0,0) (fun r=>(SzN r))):=by
 dsimp only [Zel,LT.den]
 refine tF (fun h1=>?_) (fun h1=>?_)
 .exact tR (by unfold SzN;first | omega | (simp only [List.length_append,List.length_cons,List.length_nil];omega))
 .refine tE (fun h2=>?_) (fun h2=>?_)
  .exact tR (by unfold SzN;first | omega | (simp only [List.length_append,List.length_cons,List.length_nil];omega))
  .refine tE (fun h3=>?_) (fun h3=>?_)
   .exact tJ (Zqo trivial)
   .exact tJ (Zqo trivial)
theorem Zarx{a0:Int}:Tot (Zacq a0) (fun r=>(SzN r)):=by
 unfold Zacq
 refine tX (Inv:=Zyl) (μ:=Z1k) (m:=(1000000,0,0,0,0,0)) ?_ ?_
 .dsimp only [Zafx,LT.den]
  refine tE (fun h1=>?_) (fun h1=>?_)
  .exact tJ (Zdw trivial)
  .refine tE (fun h2=>?_) (fun h2=>?_)
   .exact tJ (Zdw trivial)
   .refine tE (fun h3=>?_) (fun h3=>?_)
    .exact tJ (Zdw trivial)
    .refine tE (fun h4=>?_) (fun h4=>?_)
     .exact tJ (Zdw trivial)
     .refine tE (fun h5=>?_) (fun h5=>?_)
      .exact tJ (Zdw trivial)
      .refine tE (fun h6=>?_) (fun h6=>?_)
       .exact tJ (Zdw trivial)
       .exact tJ (Zdw trivial)
 .intro s hs
  cases s with
  | L0 _ _=>exact Zdw hs
  | L1 _ _=>exact Zqo hs
def Zary:Zpm->Prop
 | .L0 v1 v5 v6=>(SzT v5)/\(0<=v6)
def Z1l:Zpm->M6
 | .L0 v1 v5 v6=>(1,((v5.length:Int) - v6).toNat,1000000,0,0,0)
theorem Zfx{a0:Int}{a1:Int}:Tot (Zacr a0 a1) (fun r=>True):=by
 unfold Zacr
 refine tX (Inv:=Zary) (μ:=Z1l) (m:=(1000000,0,0,0,0,0)) ?_ ?_
 .dsimp only [Zafz,LT.den]
  refine tB (Zarx) (fun x1 h2=>?_)
  exact tL ⟨SzN.t h2,cl⟩ (by unfold Z1l lt6;dsimp only;omega)
 .intro s hs
  cases s with
  | L0 v1 v5 v6=>
   obtain⟨ov5,cv6⟩:=hs
   have lb_v5:v5.length<=562949953421312:=ov5
   show Tot (Z0n v1 v5 v6).den _
   dsimp only [Z0n,LT.den]
   have q1:v5.length<=562949953421312:=ov5
   refine tD (fun h2=>?_) (fun h2=>?_)
   .refine tB (tI (by omega) (by omega)) (fun x3 h4=>?_)
    refine tE (fun h5=>?_) (fun h5=>?_)
    .exact tR trivial
    .refine qw (v6+1) fun q6 q7=>?_
     exact tL ⟨ov5,cl⟩ (by unfold Z1l lt6;dsimp only;omega)
   .exact tR trivial
theorem Zadv{a0:Int}:Tot (Zw9 a0) (fun r=>True):=by
 unfold Zw9
 refine tZ ?_
 dsimp only [Z2f,LT.den]
 refine tE (fun h1=>?_) (fun h1=>?_)
 .exact tR trivial
 .exact tR trivial
def Zqp:Zq9->Prop
 | .L0 v1 E0=>(Zqi E0)/\True
 | .L1 E0=>(Zqi E0)/\True
def Z8p:Zq9->M6
 | .L0 v1 E0=>(0,0,0,0,0,0)
 | .L1 E0=>(0,0,0,0,0,0)
theorem Zu7{E0:Ze6}(h:Zqp (.L1 E0)):Tot (Zs8 E0).den (Nx Zqp Z8p (0,0,0,0,0,0) (fun r=>True)):=by
 obtain⟨O0,_⟩:=h
 dsimp only [Zs8,LT.den]
 refine tE (fun h1=>?_) (fun h1=>?_)
 .refine tB (Zeq O0) (fun x2 h3=>?_)
  have eh3_0:=h3.1
  have eh3_1:=h3.2
  exact tR trivial
 .exact tR trivial
theorem Zu8{v1:Int}{E0:Ze6}(h:Zqp (.L0 v1 E0)):Tot (Zs9 v1 E0).den (Nx Zqp Z8p (0,0,0,0,0,0) (fun r=>True)):=by
 obtain⟨O0,_⟩:=h
 dsimp only [Zs9,LT.den]
 refine tD (fun h1=>?_) (fun h1=>?_)
 .exact tR trivial
 .refine tD (fun h2=>?_) (fun h2=>?_)
  .exact tR trivial
  .refine tB (Zadv) (fun x3 h4=>?_)
   refine tF (fun h5=>?_) (fun h5=>?_)
   .refine tD (fun h6=>?_) (fun h6=>?_)
    .exact tR trivial
    .refine tD (fun h7=>?_) (fun h7=>?_)
     .exact tR trivial
     .exact tJ (Zu7 ⟨O0,trivial⟩)
   .refine tN (fun h8=>?_) (fun h8=>?_)
    .exact tR trivial
    .exact tJ (Zu7 ⟨O0,trivial⟩)
theorem Zawq{a0:Ze6}{a1:Int}(oa0:Zqi a0):Tot (Zapw a0 a1) (fun r=>True):=by
 unfold Zapw
 refine tX (Inv:=Zqp) (μ:=Z8p) (m:=(1000000,0,0,0,0,0)) ?_ ?_
 .dsimp only [Zapu,LT.den]
  refine tD (fun h1=>?_) (fun h1=>?_)
  .exact tJ (Zu8 ⟨oa0,trivial⟩)
  .exact tJ (Zu8 ⟨oa0,trivial⟩)
 .intro s hs
  cases s with
  | L0 _ _=>exact Zu8 hs
  | L1 _=>exact Zu7 hs
theorem Z8q{a0:Int}:Tot (Zacs a0) (fun r=>(SzT r)/\(r=[]↔¬ (0<=a0/\a0<=2))):=by
 unfold Zacs
 refine tZ ?_
 dsimp only [Zaf2,LT.den]
 refine tE (fun h1=>?_) (fun h1=>?_)
 .exact tR ⟨(by unfold SzT;first | omega | (simp only [List.length_append,List.length_cons,List.length_nil];omega)),(by first | (refine⟨fun _=>by omega,fun _=>rfl⟩) | (have w := ‹_∈A3.list _›;simp only [A3.list,List.mem_cons,List.not_mem_nil,or_false] at w;grind) | grind)⟩
 .refine tE (fun h2=>?_) (fun h2=>?_)
  .exact tR ⟨(by unfold SzT;first | omega | (simp only [List.length_append,List.length_cons,List.length_nil];omega)),(by first | (refine⟨fun _=>by omega,fun _=>rfl⟩) | (have w := ‹_∈A3.list _›;simp only [A3.list,List.mem_cons,List.not_mem_nil,or_false] at w;grind) | grind)⟩
  .refine tE (fun h3=>?_) (fun h3=>?_)
   .exact tR ⟨(by unfold SzT;first | omega | (simp only [List.length_append,List.length_cons,List.length_nil];omega)),(by first | (refine⟨fun _=>by omega,fun _=>rfl⟩) | (have w := ‹_∈A3.list _›;simp only [A3.list,List.mem_cons,List.not_mem_nil,or_false] at w;grind) | grind)⟩
   .exact tR ⟨SzT.nil,(by first | (refine⟨fun _=>by omega,fun _=>rfl⟩) | (have w := ‹_∈A3.list _›;simp only [A3.list,List.mem_cons,List.not_mem_nil,or_false] at w;grind) | grind)⟩
theorem Zawr{a0:Za9}(oa0:Zux a0):Tot (Zapz a0) (fun r=>(r=amV a0)):=by
 unfold Zapz
 refine tZ ?_
 dsimp only [Zapx,LT.den]
 refine tE (fun h1=>?_) (fun h1=>?_)
 .refine tD (fun h2=>?_) (fun h2=>?_)
  .exact tR (by obtain⟨k1,k2,k3,k4⟩:=a0;unfold amV;grind [Zg5,usV])
  .refine tD (fun h3=>?_) (fun h3=>?_)
   .exact tR (by obtain⟨k1,k2,k3,k4⟩:=a0;unfold amV;grind [Zg5,usV])
   .refine tD (fun h4=>?_) (fun h4=>?_)
    .refine tD (fun h5=>?_) (fun h5=>?_)
     .exact tR (by obtain⟨k1,k2,k3,k4⟩:=a0;unfold amV;grind [Zg5,usV])
     .exact tR (by obtain⟨k1,k2,k3,k4⟩:=a0;unfold amV;grind [Zg5,usV])
    .exact tR (by obtain⟨k1,k2,k3,k4⟩:=a0;unfold amV;grind [Zg5,usV])
 .refine tE (fun h6=>?_) (fun h6=>?_)
  .refine tD (fun h7=>?_) (fun h7=>?_)
   .exact tR (by obtain⟨k1,k2,k3,k4⟩:=a0;unfold amV;grind [Zg5,usV])
   .refine tD (fun h8=>?_) (fun h8=>?_)
    .exact tR (by obtain⟨k1,k2,k3,k4⟩:=a0;unfold amV;grind [Zg5,usV])
    .refine tB (Zeq oa0) (fun x9 h10=>?_)
     have eh10_0:=h10.1
     have eh10_1:=h10.2
     refine tO (fun h11=>?_) (fun h11=>?_)
     .exact tR (by obtain⟨k1,k2,k3,k4⟩:=a0;unfold amV;grind [Zg5,usV])
     .have h11_0:=eh10_0 h11
      refine tD (fun h12=>?_) (fun h12=>?_)
      .refine tD (fun h13=>?_) (fun h13=>?_)
       .exact tR (by obtain⟨k1,k2,k3,k4⟩:=a0;unfold amV;grind [Zg5,usV])
       .exact tR (by obtain⟨k1,k2,k3,k4⟩:=a0;unfold amV;grind [Zg5,usV])
      .exact tR (by obtain⟨k1,k2,k3,k4⟩:=a0;unfold amV;grind [Zg5,usV])
  .refine tE (fun h14=>?_) (fun h14=>?_)
   .refine tB (Z8q) (fun x15 h16=>?_)
    have eh16_1:=h16.2
    refine tF (fun h17=>?_) (fun h17=>?_)
    .exact tR (by obtain⟨k1,k2,k3,k4⟩:=a0;unfold amV;grind [Zg5,usV])
    .refine tD (fun h18=>?_) (fun h18=>?_)
     .refine tD (fun h19=>?_) (fun h19=>?_)
      .exact tR (by obtain⟨k1,k2,k3,k4⟩:=a0;unfold amV;grind [Zg5,usV])
      .exact tR (by obtain⟨k1,k2,k3,k4⟩:=a0;unfold amV;grind [Zg5,usV])
     .exact tR (by obtain⟨k1,k2,k3,k4⟩:=a0;unfold amV;grind [Zg5,usV])
   .refine tD (fun h20=>?_) (fun h20=>?_)
    .refine tD (fun h21=>?_) (fun h21=>?_)
     .exact tR (by obtain⟨k1,k2,k3,k4⟩:=a0;unfold amV;grind [Zg5,usV])
     .exact tR (by obtain⟨k1,k2,k3,k4⟩:=a0;unfold amV;grind [Zg5,usV])
    .exact tR (by obtain⟨k1,k2,k3,k4⟩:=a0;unfold amV;grind [Zg5,usV])
theorem Zarz{a0:List Zh}(oa0:(SzL 176 Z8) a0):Tot (Zact a0) (fun r=>True):=by
 unfold Zact
 refine tZ ?_
 have lb_a0:=oa0.1
 dsimp only [Zaf4,LT.den]
 refine tB (Zn8 oa0) (fun x1 h2=>?_)
 have eh2_0:=h2
 exact tR trivial
def Zar0:Zpn->Prop
 | .L0 E0 E1 E2 v4=>(0<=v4)/\True
def Z1m:Zpn->M6
 | .L0 E0 E1 E2 v4=>(1,(5 - v4).toNat,1000000,0,0,0)
theorem Zar1{a0:A6 Int}:Tot (Zacu a0) (fun r=>True):=by
 unfold Zacu
 refine tX (Inv:=Zar0) (μ:=Z1m) (m:=(1000000,0,0,0,0,0)) ?_ ?_
 .dsimp only [Zaf6,LT.den]
  refine tB (tI (by omega) (by have e:(A6.list a0).length=6:=rfl;omega)) (fun x1 h2=>?_)
  exact tL ⟨cl,trivial⟩ (by unfold Z1m lt6;dsimp only;omega)
 .intro s hs
  cases s with
  | L0 E0 E1 E2 v4=>
   obtain⟨cv4,_⟩:=hs
   show Tot (Z0o E0 E1 E2 v4).den _
   dsimp only [Z0o,LT.den]
   refine tD (fun h1=>?_) (fun h1=>?_)
   .refine qw (v4+1) fun q2 q3=>?_
    refine tB (tI (by omega) (by have e:(A6.list E0).length=6:=rfl;omega)) (fun x4 h5=>?_)
    refine tB (tI (by omega) (by have e:(A5.list E2.Color).length=5:=rfl;omega)) (fun x6 h7=>?_)
    refine tB (Tot.setA5 (by omega) (by omega)) (fun x8 h9=>?_)
    exact tL ⟨cl,trivial⟩ (by unfold Z1m lt6;dsimp only;omega)
   .exact tR trivial
def Zar2:Zjk->Prop
 | .L0 E0 v3 v4=>(0<=v4)/\(E0.X<=2)/\(∀ n,n∈A5.list E0.Color->n<=9)/\(v3.length<=v4.toNat)/\(v4<=2)
 | .L1 E0 v3 v5=>(0<=v5)/\(v3.length<=200+200*v5.toNat)/\(∀ n,n∈A5.list E0.Color->n<=9)/\(v5<=5)
 | .L2 E0 v3 v5 v6=>(0<=v5)/\(0<=v6)/\(v5 < 5)/\(v3.length<=200+200*v5.toNat+v6.toNat)/\(∀ n,n∈A5.list E0.Color->n<=9)/\(v5 < 5)/\(v6<=9)
def Zgq:Zjk->M6
 | .L0 E0 v3 v4=>(3,(E0.X - v4).toNat,1000000,0,0,0)
 | .L1 E0 v3 v5=>(1,(5 - v5).toNat,1000000,0,0,0)
 | .L2 E0 v3 v5 v6=>(1,(5 - v5).toNat,1,(9 - v6).toNat,1000000,0)
theorem Zar3{a0:Zr}:Tot (Zacv a0) (fun r=>(SzT r)):=by
 unfold Zacv
 refine tX (Inv:=Zar2) (μ:=Zgq) (m:=(1000000,0,0,0,0,0)) ?_ ?_
 .dsimp only [Zaf8,LT.den]
  refine tB (Zv7 a0) (fun x1 h2=>?_)
  have eh2_0:=h2.1
  have eh2_1:=h2.2.1
  have eh2_2:=h2.2.2
  refine tO (fun h3=>?_) (fun h3=>?_)
  .exact tR (SzT.nil)
  .have h3_0:=eh2_0 h3
   have h3_1:=eh2_1 h3
   exact tL ⟨cl,cl,cl,cl,cl⟩ (by unfold Zgq lt6;dsimp only;omega)
 .intro s hs
  cases s with
  | L0 E0 v3 v4=>
   obtain⟨cv4,i0,i1,i2,i3⟩:=hs
   show Tot (Z0p E0 v3 v4).den _
   dsimp only [Z0p,LT.den]
   refine tD (fun h1=>?_) (fun h1=>?_)
   .refine tB (tK (by first | (simp only [List.length_append,List.length_cons,List.length_nil];omega) | omega)) (fun x2 h3=>?_)
    refine qw (v4+1) fun q4 q5=>?_
    exact tL ⟨cl,cl,cl,cl,cl⟩ (by unfold Zgq lt6;dsimp only;omega)
   .refine tN (fun h6=>?_) (fun h6=>?_)
    .refine tB (Ziz) (fun x7 h8=>?_)
     have q9:x7.length<=100:=h8
     refine tB (tK (by first | (simp only [List.length_append,List.length_cons,List.length_nil];omega) | omega)) (fun x10 h11=>?_)
     exact tL ⟨cl,cl,cl,cl⟩ (by unfold Zgq lt6;dsimp only;omega)
    .exact tL ⟨cl,cl,cl,cl⟩ (by unfold Zgq lt6;dsimp only;omega)
  | L1 E0 v3 v5=>
   obtain⟨cv5,i0,i1,i2⟩:=hs
   show Tot (Z0q E0 v3 v5).den _
   dsimp only [Z0q,LT.den]
   refine tD (fun h1=>?_) (fun h1=>?_)
   .exact tL ⟨cl,cl,cl,cl,cl,cl,cl⟩ (by unfold Zgq lt6;dsimp only;omega)
   .refine tF (fun h2=>?_) (fun h2=>?_)
    .exact tR (by unfold SzT;first | omega | (simp only [List.length_append,List.length_cons,List.length_nil];omega))
    .exact tR (by unfold SzT;first | omega | (simp only [List.length_append,List.length_cons,List.length_nil];omega))
  | L2 E0 v3 v5 v6=>
   obtain⟨cv5,cv6,bd2,i0,i1,i2,i3⟩:=hs
   show Tot (Z0r E0 v3 v5 v6).den _
   dsimp only [Z0r,LT.den]
   refine tB (tI (by omega) (by have e:(A5.list E0.Color).length=5:=rfl;omega)) (fun x1 h2=>?_)
   have ph2:=i1 x1 h2.1
   refine tD (fun h3=>?_) (fun h3=>?_)
   .refine qw (v5+1) fun q4 q5=>?_
    refine tB (Tot.slice (by omega) (by omega) (by first | omega | (simp only [List.length_cons,List.length_nil];omega))) (fun x6 h7=>?_)
    have lh7:=h7.1
    refine tB (tK (by first | (simp only [List.length_append,List.length_cons,List.length_nil];omega) | omega)) (fun x8 h9=>?_)
    refine qw (v6+1) fun q10 q11=>?_
    exact tL ⟨cl,cl,cl,cl,cl,cl,cl⟩ (by unfold Zgq lt6;dsimp only;omega)
   .refine qw (v5+1) fun q12 q13=>?_
    exact tL ⟨cl,cl,cl,cl⟩ (by unfold Zgq lt6;dsimp only;omega)
theorem Zadw{a0:A6 Int}:Tot (Zxa a0) (fun r=>(SzT r)):=by
 unfold Zxa
 refine tZ ?_
 dsimp only [Z2h,LT.den]
 refine tB (Zar1) (fun x1 h2=>?_)
 refine tB (Zar3) (fun x3 h4=>?_)
 exact tR h4
theorem Zakb{a0:Int}{a1:Zc}(oa1:Zaq a1):Tot (Z3t a0 a1) (fun r=>True):=by
 unfold Z3t
 refine tZ ?_
 dsimp only [Z6y,LT.den]
 refine tE (fun h1=>?_) (fun h1=>?_)
 .refine tB (Zeq oa1) (fun x2 h3=>?_)
  have eh3_0:=h3.1
  have eh3_1:=h3.2
  refine tF (fun h4=>?_) (fun h4=>?_)
  .have h4_0:=eh3_0 h4
   exact tR trivial
  .exact tR trivial
 .refine tB (Zeq oa1) (fun x5 h6=>?_)
  have eh6_0:=h6.1
  have eh6_1:=h6.2
  refine tF (fun h7=>?_) (fun h7=>?_)
  .have h7_0:=eh6_0 h7
   exact tR trivial
  .exact tR trivial
def Zes:Zf4->Prop
 | .L0 E0 v5=>(Z7 E0)/\True
 | .L1 E0 v5 v6=>(Z7 E0)/\True
 | .L2 E0 v5 v6 v7=>(Z7 E0)/\True
 | .L3 E0 v5 v6 v7 v8=>(Z7 E0)/\True
 | .L4 E0 v5 v6 v7 v8 v9=>(Z7 E0)/\True
 | .L5 E0 v5 v6 v7 v8 v9 v10=>(Z7 E0)/\True
 | .L6 E0 v5 v6 v7 v8 v9 v10 v11=>(Z7 E0)/\True
 | .L7 v5 v6 v7 v8 v9 v10 v11 v12=>True
def Zhy:Zf4->M6
 | .L0 E0 v5=>(0,0,0,0,0,0)
 | .L1 E0 v5 v6=>(0,0,0,0,0,0)
 | .L2 E0 v5 v6 v7=>(0,0,0,0,0,0)
 | .L3 E0 v5 v6 v7 v8=>(0,0,0,0,0,0)
 | .L4 E0 v5 v6 v7 v8 v9=>(0,0,0,0,0,0)
 | .L5 E0 v5 v6 v7 v8 v9 v10=>(0,0,0,0,0,0)
 | .L6 E0 v5 v6 v7 v8 v9 v10 v11=>(0,0,0,0,0,0)
 | .L7 v5 v6 v7 v8 v9 v10 v11 v12=>(0,0,0,0,0,0)
theorem Zu9{v5:Bool}{v6:Bool}{v7:Bool}{v8:Bool}{v9:Bool}{v10:Bool}{v11:Bool}{v12:Bool}(h:True):Tot (Zta v5 v6 v7 v8 v9 v10 v11 v12).den (Nx Zes Zhy (0,0,0,0,0,0) (fun r=>True)):=by
 dsimp only [Zta,LT.den]
 refine tF (fun h1=>?_) (fun h1=>?_)
 .refine tF (fun h2=>?_) (fun h2=>?_)
  .refine tF (fun h3=>?_) (fun h3=>?_)
   .refine tF (fun h4=>?_) (fun h4=>?_)
    .refine tF (fun h5=>?_) (fun h5=>?_)
     .refine tF (fun h6=>?_) (fun h6=>?_)
      .refine tF (fun h7=>?_) (fun h7=>?_)
       .exact tR trivial
       .exact tR trivial
      .exact tR trivial
     .exact tR trivial
    .exact tR trivial
   .exact tR trivial
  .exact tR trivial
 .exact tR trivial
theorem Znq{E0:Zs}{v5:Bool}{v6:Bool}{v7:Bool}{v8:Bool}{v9:Bool}{v10:Bool}{v11:Bool}(h:(Z7 E0)/\True):Tot (Zoh E0 v5 v6 v7 v8 v9 v10 v11).den (Nx Zes Zhy (0,0,0,0,0,0) (fun r=>True)):=by
 obtain⟨O0,_⟩:=h
 dsimp only [Zoh,LT.den]
 refine tB (Zfx) (fun x1 h2=>?_)
 refine tF (fun h3=>?_) (fun h3=>?_)
 .refine tB (Zakb O0.2.2.2.1) (fun x4 h5=>?_)
  exact tJ (Zu9 trivial)
 .exact tJ (Zu9 trivial)
theorem Zva{E0:Zs}{v5:Bool}{v6:Bool}{v7:Bool}{v8:Bool}{v9:Bool}{v10:Bool}(h:(Z7 E0)/\True):Tot (Ztb E0 v5 v6 v7 v8 v9 v10).den (Nx Zes Zhy (0,0,0,0,0,0) (fun r=>True)):=by
 obtain⟨O0,_⟩:=h
 dsimp only [Ztb,LT.den]
 refine tB (Zfx) (fun x1 h2=>?_)
 refine tF (fun h3=>?_) (fun h3=>?_)
 .refine tO (fun h4=>?_) (fun h4=>?_)
  .refine tB (Zadw) (fun x5 h6=>?_)
   exact tJ (Znq ⟨O0,trivial⟩)
  .exact tJ (Znq ⟨O0,trivial⟩)
 .exact tJ (Znq ⟨O0,trivial⟩)
theorem Zvb{E0:Zs}{v5:Bool}{v6:Bool}{v7:Bool}{v8:Bool}{v9:Bool}(h:(Z7 E0)/\True):Tot (Ztc E0 v5 v6 v7 v8 v9).den (Nx Zes Zhy (0,0,0,0,0,0) (fun r=>True)):=by
 obtain⟨O0,_⟩:=h
 dsimp only [Ztc,LT.den]
 have q1:=O0.2.2.2.2.1
 refine tB (Zfx) (fun x2 h3=>?_)
 refine tF (fun h4=>?_) (fun h4=>?_)
 .refine tB (Zarz O0.2.2.2.2) (fun x5 h6=>?_)
  exact tJ (Zva ⟨O0,trivial⟩)
 .exact tJ (Zva ⟨O0,trivial⟩)
theorem Zvc{E0:Zs}{v5:Bool}{v6:Bool}{v7:Bool}{v8:Bool}(h:(Z7 E0)/\True):Tot (Ztd E0 v5 v6 v7 v8).den (Nx Zes Zhy (0,0,0,0,0,0) (fun r=>True)):=by
 obtain⟨O0,_⟩:=h
 dsimp only [Ztd,LT.den]
 refine tB (Zfx) (fun x1 h2=>?_)
 refine tF (fun h3=>?_) (fun h3=>?_)
 .refine tB (Zawr O0.2.1) (fun x4 h5=>?_)
  have eh5_0:=h5
  exact tJ (Zvb ⟨O0,trivial⟩)
 .exact tJ (Zvb ⟨O0,trivial⟩)
theorem Znr{E0:Zs}{v5:Bool}{v6:Bool}{v7:Bool}(h:(Z7 E0)/\True):Tot (Zoi E0 v5 v6 v7).den (Nx Zes Zhy (0,0,0,0,0,0) (fun r=>True)):=by
 obtain⟨O0,_⟩:=h
 dsimp only [Zoi,LT.den]
 refine tB (Zfx) (fun x1 h2=>?_)
 refine tF (fun h3=>?_) (fun h3=>?_)
 .refine tB (Z4d (SzS.t O0.2.2.1)) (fun x4 h5=>?_)
  exact tJ (Zvc ⟨O0,trivial⟩)
 .exact tJ (Zvc ⟨O0,trivial⟩)
theorem Zj5{E0:Zs}{v5:Bool}{v6:Bool}(h:Zes (.L1 E0 v5 v6)):Tot (Zk7 E0 v5 v6).den (Nx Zes Zhy (0,0,0,0,0,0) (fun r=>True)):=by
 obtain⟨O0,_⟩:=h
 dsimp only [Zk7,LT.den]
 refine tE (fun h1=>?_) (fun h1=>?_)
 .exact tJ (Znr ⟨O0,trivial⟩)
 .refine tB (Zfx) (fun x2 h3=>?_)
  refine tF (fun h4=>?_) (fun h4=>?_)
  .refine tB (Z8q) (fun x5 h6=>?_)
   have eh6_1:=h6.2
   exact tJ (Znr ⟨O0,trivial⟩)
  .exact tJ (Znr ⟨O0,trivial⟩)
theorem Zvd{E0:Zs}{v5:Bool}(h:Zes (.L0 E0 v5)):Tot (Zte E0 v5).den (Nx Zes Zhy (0,0,0,0,0,0) (fun r=>True)):=by
 obtain⟨O0,_⟩:=h
 dsimp only [Zte,LT.den]
 refine tE (fun h1=>?_) (fun h1=>?_)
 .exact tJ (Zj5 ⟨O0,trivial⟩)
 .refine tB (Zfx) (fun x2 h3=>?_)
  refine tF (fun h4=>?_) (fun h4=>?_)
  .refine tD (fun h5=>?_) (fun h5=>?_)
   .exact tJ (Zj5 ⟨O0,trivial⟩)
   .exact tJ (Zj5 ⟨O0,trivial⟩)
  .exact tJ (Zj5 ⟨O0,trivial⟩)
theorem Zaws{a0:Zs}{a1:Int}(oa0:Z7 a0):Tot (Zap2 a0 a1) (fun r=>True):=by
 unfold Zap2
 refine tX (Inv:=Zes) (μ:=Zhy) (m:=(1000000,0,0,0,0,0)) ?_ ?_
 .dsimp only [Zap0,LT.den]
  refine tB (Zarw) (fun x1 h2=>?_)
  refine tF (fun h3=>?_) (fun h3=>?_)
  .exact tR trivial
  .refine tB (Zfx) (fun x4 h5=>?_)
   refine tF (fun h6=>?_) (fun h6=>?_)
   .refine tB (Zawq oa0.1) (fun x7 h8=>?_)
    exact tJ (Zvd ⟨oa0,trivial⟩)
   .exact tJ (Zvd ⟨oa0,trivial⟩)
 .intro s hs
  cases s with
  | L0 _ _=>exact Zvd hs
  | L1 _ _ _=>exact Zj5 hs
  | L2 _ _ _ _=>exact Znr hs
  | L3 _ _ _ _ _=>exact Zvc hs
  | L4 _ _ _ _ _ _=>exact Zvb hs
  | L5 _ _ _ _ _ _ _=>exact Zva hs
  | L6 _ _ _ _ _ _ _ _=>exact Znq hs
  | L7 _ _ _ _ _ _ _ _=>exact Zu9 hs
def Zahr:Zjr->Prop
 | .L0 v0 v1 v5=>((SzL 560 Z7) v0)/\(0<=v5)
def Zr5:Zjr->M6
 | .L0 v0 v1 v5=>(1,((v0.length:Int) - v5).toNat,1000000,0,0,0)
theorem Zahs{a0:List Zs}{a1:Int}(oa0:(SzL 560 Z7) a0):Tot (Z0s a0 a1) (fun r=>True):=by
 unfold Z0s
 refine tX (Inv:=Zahr) (μ:=Zr5) (m:=(1000000,0,0,0,0,0)) ?_ ?_
 .have lb_a0:=oa0.1
  dsimp only [Z4s,LT.den]
  exact tL ⟨oa0,cl⟩ (by unfold Zr5 lt6;dsimp only;omega)
 .intro s hs
  cases s with
  | L0 v0 v1 v5=>
   obtain⟨ov0,cv5⟩:=hs
   have lb_v0:=ov0.1
   show Tot (Zra v0 v1 v5).den _
   dsimp only [Zra,LT.den]
   have q1:=ov0.1
   refine tD (fun h2=>?_) (fun h2=>?_)
   .refine tB (tI (by omega) (by omega)) (fun x3 h4=>?_)
    have oh4:Z7 x3:=ov0.2 x3 h4.1
    refine tB (Zaws oh4) (fun x5 h6=>?_)
    refine tO (fun h7=>?_) (fun h7=>?_)
    .exact tR trivial
    .refine qw (v5+1) fun q8 q9=>?_
     exact tL ⟨ov0,cl⟩ (by unfold Zr5 lt6;dsimp only;omega)
   .refine tD (fun h10=>?_) (fun h10=>?_)
    .exact tR trivial
    .exact tR trivial
def Zet:Zjl->Prop
 | .L0 E0 v3=>(Z4 E0)/\True
 | .L1 E0 v3=>(Z4 E0)/\True
 | .L2 E0 v3=>(Z4 E0)/\True
 | .L3 E0 v3=>(Z4 E0)/\True
 | .L4 E0 v3=>(Z4 E0)/\True
def Zoq:Zjl->M6
 | .L0 E0 v3=>(0,0,0,0,0,0)
 | .L1 E0 v3=>(0,0,0,0,0,0)
 | .L2 E0 v3=>(0,0,0,0,0,0)
 | .L3 E0 v3=>(0,0,0,0,0,0)
 | .L4 E0 v3=>(0,0,0,0,0,0)
theorem Zve{E0:Ze}{v3:Bool}(h:Zet (.L4 E0 v3)):Tot (Ztf E0 v3).den (Nx Zet Zoq (0,0,0,0,0,0) (fun r=>True)):=by
 obtain⟨O0,_⟩:=h
 dsimp only [Ztf,LT.den]
 refine tF (fun h1=>?_) (fun h1=>?_)
 .refine tB (Zamz O0.2.2.2.1) (fun x2 h3=>?_)
  refine tF (fun h4=>?_) (fun h4=>?_)
  .have q5:=O0.2.2.2.1.1
   refine tB (Zahs O0.2.2.2.2.1) (fun x6 h7=>?_)
   exact tR trivial
  .exact tR trivial
 .have q8:=O0.2.2.2.1.1
  refine tE (fun h9=>?_) (fun h9=>?_)
  .have q10:=O0.2.2.2.2.1.1
   exact tR trivial
  .exact tR trivial
theorem Zvf{E0:Ze}{v3:Bool}(h:Zet (.L3 E0 v3)):Tot (Ztg E0 v3).den (Nx Zet Zoq (0,0,0,0,0,0) (fun r=>True)):=by
 obtain⟨O0,_⟩:=h
 dsimp only [Ztg,LT.den]
 refine tE (fun h1=>?_) (fun h1=>?_)
 .refine tB (Zawp O0.2.2.2.2.2) (fun x2 h3=>?_)
  refine tO (fun h4=>?_) (fun h4=>?_)
  .exact tR trivial
  .exact tJ (Zve ⟨O0,trivial⟩)
 .refine tO (fun h5=>?_) (fun h5=>?_)
  .exact tR trivial
  .exact tJ (Zve ⟨O0,trivial⟩)
theorem Zvg{E0:Ze}{v3:Bool}(h:Zet (.L2 E0 v3)):Tot (Zth E0 v3).den (Nx Zet Zoq (0,0,0,0,0,0) (fun r=>True)):=by
 obtain⟨O0,_⟩:=h
 dsimp only [Zth,LT.den]
 refine tE (fun h1=>?_) (fun h1=>?_)
 .refine tB (Zawo O0.2.2.1) (fun x2 h3=>?_)
  refine tO (fun h4=>?_) (fun h4=>?_)
  .exact tR trivial
  .exact tJ (Zvf ⟨O0,trivial⟩)
 .refine tO (fun h5=>?_) (fun h5=>?_)
  .exact tR trivial
  .refine tF (fun h6=>?_) (fun h6=>?_)
   .exact tR trivial
   .exact tJ (Zvf ⟨O0,trivial⟩)
theorem Zvh{E0:Ze}{v3:Bool}(h:Zet (.L1 E0 v3)):Tot (Zti E0 v3).den (Nx Zet Zoq (0,0,0,0,0,0) (fun r=>True)):=by
 obtain⟨O0,_⟩:=h
 dsimp only [Zti,LT.den]
 refine tE (fun h1=>?_) (fun h1=>?_)
 .refine tB (Zamv) (fun x2 h3=>?_)
  refine tO (fun h4=>?_) (fun h4=>?_)
  .exact tR trivial
  .exact tJ (Zvg ⟨O0,trivial⟩)
 .refine tO (fun h5=>?_) (fun h5=>?_)
  .exact tR trivial
  .refine tF (fun h6=>?_) (fun h6=>?_)
   .exact tR trivial
   .exact tJ (Zvg ⟨O0,trivial⟩)
theorem Zns{E0:Ze}{v3:Bool}(h:Zet (.L0 E0 v3)):Tot (Zoj E0 v3).den (Nx Zet Zoq (0,0,0,0,0,0) (fun r=>True)):=by
 obtain⟨O0,_⟩:=h
 dsimp only [Zoj,LT.den]
 refine tE (fun h1=>?_) (fun h1=>?_)
 .refine tB (Zeq O0.1) (fun x2 h3=>?_)
  have eh3_0:=h3.1
  have eh3_1:=h3.2
  refine tO (fun h4=>?_) (fun h4=>?_)
  .exact tR trivial
  .have h4_0:=eh3_0 h4
   refine tN (fun h5=>?_) (fun h5=>?_)
   .exact tR trivial
   .refine tB (Zn8 O0.2.1) (fun x6 h7=>?_)
    have eh7_0:=h7
    refine tF (fun h8=>?_) (fun h8=>?_)
    .exact tR trivial
    .exact tJ (Zvh ⟨O0,trivial⟩)
 .refine tO (fun h9=>?_) (fun h9=>?_)
  .exact tR trivial
  .have q10:=O0.2.1.1
   refine tD (fun h11=>?_) (fun h11=>?_)
   .exact tR trivial
   .exact tJ (Zvh ⟨O0,trivial⟩)
theorem Zv9{a0:Ze}(oa0:Z4 a0):Tot (Zap5 a0) (fun r=>True):=by
 unfold Zap5
 refine tX (Inv:=Zet) (μ:=Zoq) (m:=(1000000,0,0,0,0,0)) ?_ ?_
 .dsimp only [Zap3,LT.den]
  refine tD (fun h1=>?_) (fun h1=>?_)
  .exact tR trivial
  .refine tD (fun h2=>?_) (fun h2=>?_)
   .exact tR trivial
   .refine tE (fun h3=>?_) (fun h3=>?_)
    .exact tJ (Zns ⟨oa0,trivial⟩)
    .refine tE (fun h4=>?_) (fun h4=>?_)
     .exact tJ (Zns ⟨oa0,trivial⟩)
     .exact tJ (Zns ⟨oa0,trivial⟩)
 .intro s hs
  cases s with
  | L0 _ _=>exact Zns hs
  | L1 _ _=>exact Zvh hs
  | L2 _ _=>exact Zvg hs
  | L3 _ _=>exact Zvf hs
  | L4 _ _=>exact Zve hs
theorem Zar4{a0:Zk}(oa0:Z3 a0):Tot (Zacw a0) (fun r=>True):=by
 unfold Zacw
 refine tZ ?_
 dsimp only [Zagb,LT.den]
 refine tE (fun h1=>?_) (fun h1=>?_)
 .exact tR trivial
 .exact tR trivial
def Z4i(a0:Zk):Zrb->Prop
 | .L0 E0=>(E0=a0)/\(Z3 E0)/\(E0.Abilities.length<=8)
 | .L1 E0 v3 v4=>(E0=a0)/\(Z3 E0)/\(0<=v4)/\(E0.Abilities.length<=8)
def Zor:Zrb->M6
 | .L0 E0=>(2,0,0,0,0,0)
 | .L1 E0 v3 v4=>(1,((E0.Abilities.length:Int) - v4).toNat,1000000,0,0,0)
theorem Zvi{a0:Zk}{E0:Zk}(h:(Z4i a0) (.L0 E0)):Tot (Ztj E0).den (Nx (Z4i a0) Zor (2,0,0,0,0,0) (fun r=>(r=true->a0.Abilities.length<=8))):=by
 obtain⟨al0,O0,i0⟩:=h
 subst al0
 dsimp only [Ztj,LT.den]
 exact tL ⟨rfl,O0,cl,cl⟩ (by unfold Zor lt6;dsimp only;omega)
theorem Zawt{a0:Zk}(oa0:Z3 a0):Tot (Zap8 a0) (fun r=>(r=true->a0.Abilities.length<=8)):=by
 unfold Zap8
 refine tX (Inv:=(Z4i a0)) (μ:=Zor) (m:=(1000000,0,0,0,0,0)) ?_ ?_
 .dsimp only [Zap6,LT.den]
  refine tB (Z4d (SzS.t oa0.1)) (fun x1 h2=>?_)
  refine tO (fun h3=>?_) (fun h3=>?_)
  .exact tR (by first | (intro hr;exact absurd hr (by decide)) | (intro _;omega))
  .refine tB (Zv7 a0.Cost) (fun x4 h5=>?_)
   have eh5_0:=h5.1
   have eh5_1:=h5.2.1
   have eh5_2:=h5.2.2
   refine tO (fun h6=>?_) (fun h6=>?_)
   .exact tR (by first | (intro hr;exact absurd hr (by decide)) | (intro _;omega))
   .have h6_0:=eh5_0 h6
    have h6_1:=eh5_1 h6
    refine tB (Zawm oa0.2.1) (fun x7 h8=>?_)
    refine tO (fun h9=>?_) (fun h9=>?_)
    .exact tR (by first | (intro hr;exact absurd hr (by decide)) | (intro _;omega))
    .refine tB (Zahp) (fun x10 h11=>?_)
     refine tO (fun h12=>?_) (fun h12=>?_)
     .exact tR (by first | (intro hr;exact absurd hr (by decide)) | (intro _;omega))
     .refine tD (fun h13=>?_) (fun h13=>?_)
      .exact tR (by first | (intro hr;exact absurd hr (by decide)) | (intro _;omega))
      .refine tD (fun h14=>?_) (fun h14=>?_)
       .exact tR (by first | (intro hr;exact absurd hr (by decide)) | (intro _;omega))
       .refine tD (fun h15=>?_) (fun h15=>?_)
        .exact tR (by first | (intro hr;exact absurd hr (by decide)) | (intro _;omega))
        .refine tD (fun h16=>?_) (fun h16=>?_)
         .exact tR (by first | (intro hr;exact absurd hr (by decide)) | (intro _;omega))
         .refine tD (fun h17=>?_) (fun h17=>?_)
          .exact tR (by first | (intro hr;exact absurd hr (by decide)) | (intro _;omega))
          .refine tD (fun h18=>?_) (fun h18=>?_)
           .exact tR (by first | (intro hr;exact absurd hr (by decide)) | (intro _;omega))
           .refine tB (Zadq oa0) (fun x19 h20=>?_)
            refine tO (fun h21=>?_) (fun h21=>?_)
            .refine tN (fun h22=>?_) (fun h22=>?_)
             .exact tR (by first | (intro hr;exact absurd hr (by decide)) | (intro _;omega))
             .refine tN (fun h23=>?_) (fun h23=>?_)
              .exact tR (by first | (intro hr;exact absurd hr (by decide)) | (intro _;omega))
              .have q24:=oa0.2.2.1
               refine tD (fun h25=>?_) (fun h25=>?_)
               .exact tR (by first | (intro hr;exact absurd hr (by decide)) | (intro _;omega))
               .exact tJ (Zvi ⟨rfl,oa0,cl⟩)
            .have q26:=oa0.2.2.1
             refine tD (fun h27=>?_) (fun h27=>?_)
             .exact tR (by first | (intro hr;exact absurd hr (by decide)) | (intro _;omega))
             .exact tJ (Zvi ⟨rfl,oa0,cl⟩)
 .intro s hs
  cases s with
  | L0 _=>exact Zvi hs
  | L1 E0 v3 v4=>
   obtain⟨al0,O0,cv4,i0⟩:=hs
   subst al0
   show Tot (Z60 E0 v3 v4).den _
   dsimp only [Z60,LT.den,Zor]
   have q1:=O0.2.2.1
   refine tD (fun h2=>?_) (fun h2=>?_)
   .refine tB (tI (by omega) (by omega)) (fun x3 h4=>?_)
    have oh4:Z4 x3:=O0.2.2.2 x3 h4.1
    refine tB (Zv9 oh4) (fun x5 h6=>?_)
    refine tO (fun h7=>?_) (fun h7=>?_)
    .exact tR (by first | (intro hr;exact absurd hr (by decide)) | (intro _;omega))
    .refine tE (fun h8=>?_) (fun h8=>?_)
     .refine qw (v3+1) fun q9 q10=>?_
      refine qw (v4+1) fun q11 q12=>?_
      exact tL ⟨rfl,O0,cl,cl⟩ (by unfold Zor lt6;dsimp only;omega)
     .refine qw (v4+1) fun q13 q14=>?_
      exact tL ⟨rfl,O0,cl,cl⟩ (by unfold Zor lt6;dsimp only;omega)
   .refine tB (Zar4 O0) (fun x15 h16=>?_)
    refine tF (fun h17=>?_) (fun h17=>?_)
    .refine tO (fun h18=>?_) (fun h18=>?_)
     .refine tE (fun h19=>?_) (fun h19=>?_)
      .refine tE (fun h20=>?_) (fun h20=>?_)
       .exact tR (by first | (intro hr;exact absurd hr (by decide)) | (intro _;omega))
       .exact tR (by first | (intro hr;exact absurd hr (by decide)) | (intro _;omega))
      .exact tR (by first | (intro hr;exact absurd hr (by decide)) | (intro _;omega))
     .exact tR (by first | (intro hr;exact absurd hr (by decide)) | (intro _;omega))
    .refine tE (fun h21=>?_) (fun h21=>?_)
     .refine tO (fun h22=>?_) (fun h22=>?_)
      .refine tE (fun h23=>?_) (fun h23=>?_)
       .exact tR (by first | (intro hr;exact absurd hr (by decide)) | (intro _;omega))
       .exact tR (by first | (intro hr;exact absurd hr (by decide)) | (intro _;omega))
      .exact tR (by first | (intro hr;exact absurd hr (by decide)) | (intro _;omega))
     .exact tR (by first | (intro hr;exact absurd hr (by decide)) | (intro _;omega))
def Zar5:Zpo->Prop
 | .L0 v0 v1 v5=>((SzL 176 Z3) v0)/\(SzT v1)/\(0<=v5)
def Z1n:Zpo->M6
 | .L0 v0 v1 v5=>(1,((v0.length:Int) - v5).toNat,1000000,0,0,0)
theorem Zar6{a0:List Zk}{a1:List UInt8}(oa0:(SzL 176 Z3) a0)(oa1:SzT a1):Tot (Zacx a0 a1) (fun r=>True):=by
 unfold Zacx
 refine tX (Inv:=Zar5) (μ:=Z1n) (m:=(1000000,0,0,0,0,0)) ?_ ?_
 .have lb_a0:=oa0.1
  have lb_a1:a1.length<=562949953421312:=oa1
  dsimp only [Zagd,LT.den]
  exact tL ⟨oa0,oa1,cl⟩ (by unfold Z1n lt6;dsimp only;omega)
 .intro s hs
  cases s with
  | L0 v0 v1 v5=>
   obtain⟨ov0,ov1,cv5⟩:=hs
   have lb_v0:=ov0.1
   have lb_v1:v1.length<=562949953421312:=ov1
   show Tot (Z0t v0 v1 v5).den _
   dsimp only [Z0t,LT.den]
   have q1:=ov0.1
   refine tD (fun h2=>?_) (fun h2=>?_)
   .refine tB (tI (by omega) (by omega)) (fun x3 h4=>?_)
    have oh4:Z3 x3:=ov0.2 x3 h4.1
    refine tF (fun h5=>?_) (fun h5=>?_)
    .exact tR trivial
    .refine qw (v5+1) fun q6 q7=>?_
     exact tL ⟨ov0,ov1,cl⟩ (by unfold Z1n lt6;dsimp only;omega)
   .exact tR trivial
def Zam0:Zm3->Prop
 | .L0 v0 v1 v5=>((SzL 176 Z3) v0)/\(SzT v1)/\(0<=v5)
def Zqq:Zm3->M6
 | .L0 v0 v1 v5=>(1,((v0.length:Int) - v5).toNat,1000000,0,0,0)
theorem Zam1{a0:List Zk}{a1:List UInt8}(oa0:(SzL 176 Z3) a0)(oa1:SzT a1):Tot (Z61 a0 a1) (fun r=>True):=by
 unfold Z61
 refine tX (Inv:=Zam0) (μ:=Zqq) (m:=(1000000,0,0,0,0,0)) ?_ ?_
 .have lb_a0:=oa0.1
  have lb_a1:a1.length<=562949953421312:=oa1
  dsimp only [Zaau,LT.den]
  exact tL ⟨oa0,oa1,cl⟩ (by unfold Zqq lt6;dsimp only;omega)
 .intro s hs
  cases s with
  | L0 v0 v1 v5=>
   obtain⟨ov0,ov1,cv5⟩:=hs
   have lb_v0:=ov0.1
   have lb_v1:v1.length<=562949953421312:=ov1
   show Tot (Zxb v0 v1 v5).den _
   dsimp only [Zxb,LT.den]
   have q1:=ov0.1
   refine tD (fun h2=>?_) (fun h2=>?_)
   .refine tB (tI (by omega) (by omega)) (fun x3 h4=>?_)
    have oh4:Z3 x3:=ov0.2 x3 h4.1
    refine tF (fun h5=>?_) (fun h5=>?_)
    .refine tF (fun h6=>?_) (fun h6=>?_)
     .exact tR trivial
     .refine qw (v5+1) fun q7 q8=>?_
      exact tL ⟨ov0,ov1,cl⟩ (by unfold Zqq lt6;dsimp only;omega)
    .refine qw (v5+1) fun q9 q10=>?_
     exact tL ⟨ov0,ov1,cl⟩ (by unfold Zqq lt6;dsimp only;omega)
   .exact tR trivial
def Zaht:Zhf->Prop
 | .L0 v0 E0 v5=>((SzL 176 Z3) v0)/\(Z3 E0)/\(0<=v5)
 | .L1 v0 E0 v5 v6=>((SzL 176 Z3) v0)/\(Z3 E0)/\(0<=v5)/\(0<=v6)/\(v5 < (E0.Abilities.length:Int))/\(v5 < (E0.Abilities.length:Int))
def Zgu:Zhf->M6
 | .L0 v0 E0 v5=>(1,((E0.Abilities.length:Int) - v5).toNat,1000000,0,0,0)
 | .L1 v0 E0 v5 v6=>(1,((E0.Abilities.length:Int) - v5).toNat,1,((((E0.Abilities[v5.toNat]?).map fun x=>x.Effects.length).getD 0:Nat) - v6).toNat,1000000,0)
theorem Zahu{a0:List Zk}{a1:Zk}(oa0:(SzL 176 Z3) a0)(oa1:Z3 a1):Tot (Z0u a0 a1) (fun r=>True):=by
 unfold Z0u
 refine tX (Inv:=Zaht) (μ:=Zgu) (m:=(1000000,0,0,0,0,0)) ?_ ?_
 .have lb_a0:=oa0.1
  dsimp only [Z4u,LT.den]
  exact tL ⟨oa0,oa1,cl⟩ (by unfold Zgu lt6;dsimp only;omega)
 .intro s hs
  cases s with
  | L0 v0 E0 v5=>
   obtain⟨ov0,O0,cv5⟩:=hs
   have lb_v0:=ov0.1
   show Tot (Zrc v0 E0 v5).den _
   dsimp only [Zrc,LT.den]
   have q1:=O0.2.2.1
   refine tD (fun h2=>?_) (fun h2=>?_)
   .exact tL ⟨ov0,O0,cl,cl,cl,cl⟩ (by unfold Zgu lt6;dsimp only;omega)
   .exact tR trivial
  | L1 v0 E0 v5 v6=>
   obtain⟨ov0,O0,cv5,cv6,bd4,i0⟩:=hs
   have lb_v0:=ov0.1
   show Tot (Zrd v0 E0 v5 v6).den _
   dsimp only [Zrd,LT.den]
   have lx_0:E0.Abilities.length*640<=140737488351232:=O0.2.2.1
   refine tB (tI (by omega) (by omega)) (fun x1 h2=>?_)
   have oh2:Z4 x1:=O0.2.2.2 x1 h2.1
   have mh2:((E0.Abilities[v5.toNat]?).map fun x=>x.Effects.length).getD 0=x1.Effects.length:=by rw [h2.2];rfl
   have q3:=oh2.2.2.2.2.1.1
   refine tD (fun h4=>?_) (fun h4=>?_)
   .refine tB (tI (by omega) (by omega)) (fun x5 h6=>?_)
    have oh6:Z7 x5:=oh2.2.2.2.2.1.2 x5 h6.1
    refine tE (fun h7=>?_) (fun h7=>?_)
    .refine tB (Zam1 ov0 (SzS.t oh6.2.2.1)) (fun x8 h9=>?_)
     refine tO (fun h10=>?_) (fun h10=>?_)
     .exact tR trivial
     .refine qw (v6+1) fun q11 q12=>?_
      exact tL ⟨ov0,O0,cl,cl,cl,cl⟩ (by unfold Zgu lt6;dsimp only;omega)
    .refine qw (v6+1) fun q13 q14=>?_
     exact tL ⟨ov0,O0,cl,cl,cl,cl⟩ (by unfold Zgu lt6;dsimp only;omega)
   .refine qw (v5+1) fun q15 q16=>?_
    exact tL ⟨ov0,O0,cl⟩ (by unfold Zgu lt6;dsimp only;omega)
def Zam2(a0:List Zk):Zm4->Prop
 | .L0 v0 v4=>(v0=a0)/\((SzL 176 Z3) v0)/\(0<=v4)/\(∀ (k:Nat) c,(k:Int) < v4->v0[k]?=some c->c.Abilities.length<=8)
def Zym:Zm4->M6
 | .L0 v0 v4=>(1,((v0.length:Int) - v4).toNat,1000000,0,0,0)
theorem Zam3{a0:List Zk}(oa0:(SzL 176 Z3) a0):Tot (Z62 a0) (fun r=>(r.2=0->∀ c,c∈a0->c.Abilities.length<=8)):=by
 unfold Z62
 refine tX (Inv:=(Zam2 a0)) (μ:=Zym) (m:=(1000000,0,0,0,0,0)) ?_ ?_
 .have lb_a0:=oa0.1
  dsimp only [Zaaw,LT.den]
  have q1:=oa0.1
  refine tD (fun h2=>?_) (fun h2=>?_)
  .exact tR (by first | (intro hr;exact absurd hr (by decide)) | (intro _ c hc;obtain⟨k,hk⟩:=List.mem_iff_getElem?.1 hc;exact i0 k c (by grind) hk))
  .exact tL ⟨rfl,oa0,cl,(by first | (intro k c hk;omega) | (intro k c hk hc;rcases Zae2 (v:=v4) ‹_› (by omega) hk hc ‹_› with h | h;(exact i0 k c h hc);(rw [h];assumption)))⟩ (by unfold Zym lt6;dsimp only;omega)
 .intro s hs
  cases s with
  | L0 v0 v4=>
   obtain⟨al0,ov0,cv4,i0⟩:=hs
   have lb_v0:=ov0.1
   subst al0
   show Tot (Zxc v0 v4).den _
   dsimp only [Zxc,LT.den]
   have q1:=ov0.1
   refine tD (fun h2=>?_) (fun h2=>?_)
   .refine tB (tI (by omega) (by omega)) (fun x3 h4=>?_)
    have oh4:Z3 x3:=ov0.2 x3 h4.1
    have mh4:=h4.2
    refine tB (Zawt oh4) (fun x5 h6=>?_)
    have eh6_0:=h6
    refine tO (fun h7=>?_) (fun h7=>?_)
    .exact tR (by first | (intro hr;exact absurd hr (by decide)) | (intro _ c hc;obtain⟨k,hk⟩:=List.mem_iff_getElem?.1 hc;exact i0 k c (by grind) hk))
    .have h7_0:=eh6_0 h7
     refine tB (Zar6 ov0 (SzS.t oh4.1)) (fun x8 h9=>?_)
     refine tD (fun h10=>?_) (fun h10=>?_)
     .exact tR (by first | (intro hr;exact absurd hr (by decide)) | (intro _ c hc;obtain⟨k,hk⟩:=List.mem_iff_getElem?.1 hc;exact i0 k c (by grind) hk))
     .refine tB (Zahu ov0 oh4) (fun x11 h12=>?_)
      refine tO (fun h13=>?_) (fun h13=>?_)
      .exact tR (by first | (intro hr;exact absurd hr (by decide)) | (intro _ c hc;obtain⟨k,hk⟩:=List.mem_iff_getElem?.1 hc;exact i0 k c (by grind) hk))
      .refine qw (v4+1) fun q14 q15=>?_
       exact tL ⟨rfl,ov0,cl,(by first | (intro k c hk;omega) | (intro k c hk hc;rcases Zae2 (v:=v4) ‹_› (by omega) hk hc ‹_› with h | h;(exact i0 k c h hc);(rw [h];assumption)))⟩ (by unfold Zym lt6;dsimp only;omega)
   .exact tR (by first | (intro hr;exact absurd hr (by decide)) | (intro _ c hc;obtain⟨k,hk⟩:=List.mem_iff_getElem?.1 hc;exact i0 k c (by grind) hk))
theorem Zc1{a0:Int}{a1:Int}{a2:Int}:Tot (Zaqd a0 a1 a2) (fun r=>(r=true↔(a1<=a0/\a0<=a2))):=by
 unfold Zaqd
 refine tZ ?_
 dsimp only [Zaqb,LT.den]
 refine tD (fun h1=>?_) (fun h1=>?_)
 .exact tR (by grind)
 .exact tR (by grind)
def Zam4:Zm5->Prop
 | .L0 E0 v3=>(0<=v3)/\True
def Zyn:Zm5->M6
 | .L0 E0 v3=>(1,(6 - v3).toNat,1000000,0,0,0)
theorem Zam5{a0:A6 Int}:Tot (Z63 a0) (fun r=>True):=by
 unfold Z63
 refine tX (Inv:=Zam4) (μ:=Zyn) (m:=(1000000,0,0,0,0,0)) ?_ ?_
 .dsimp only [Zaay,LT.den]
  exact tL ⟨cl,trivial⟩ (by unfold Zyn lt6;dsimp only;omega)
 .intro s hs
  cases s with
  | L0 E0 v3=>
   obtain⟨cv3,_⟩:=hs
   show Tot (Zxd E0 v3).den _
   dsimp only [Zxd,LT.den]
   refine tD (fun h1=>?_) (fun h1=>?_)
   .refine tB (tI (by omega) (by have e:(A6.list E0).length=6:=rfl;omega)) (fun x2 h3=>?_)
    refine tD (fun h4=>?_) (fun h4=>?_)
    .exact tR trivial
    .refine tB (tI (by omega) (by have e:(A6.list E0).length=6:=rfl;omega)) (fun x5 h6=>?_)
     refine tD (fun h7=>?_) (fun h7=>?_)
     .exact tR trivial
     .refine qw (v3+1) fun q8 q9=>?_
      exact tL ⟨cl,trivial⟩ (by unfold Zyn lt6;dsimp only;omega)
   .exact tR trivial
def Zam6(a0:Zo)(a1:Int):Zm6->Prop
 | .L0 v1 E0 v5=>(E0=a0)/\(v1=a1)/\(Z9 E0)/\(0<=v5)/\(NoId E0.Objects v1 v5)
def Zyo:Zm6->M6
 | .L0 v1 E0 v5=>(1,((E0.Objects.length:Int) - v5).toNat,1000000,0,0,0)
theorem Zam7{a0:Zo}{a1:Int}(oa0:Z9 a0):Tot (Z64 a0 a1) (fun r=>(r < (a0.Objects.length:Int))/\(r=ixO a0.Objects a1)):=by
 unfold Z64
 refine tX (Inv:=(Zam6 a0 a1)) (μ:=Zyo) (m:=(1000000,0,0,0,0,0)) ?_ ?_
 .dsimp only [Zaa0,LT.den]
  exact tL ⟨rfl,rfl,oa0,cl,(by first | exact Zayz | exact Zalq ‹_› ‹_› ‹_› (by first | assumption | grind) (by omega))⟩ (by unfold Zyo lt6;dsimp only;omega)
 .intro s hs
  cases s with
  | L0 v1 E0 v5=>
   obtain⟨al0,al1,O0,cv5,i0⟩:=hs
   subst al0
   subst al1
   show Tot (Zxe v1 E0 v5).den _
   dsimp only [Zxe,LT.den]
   have q1:=O0.2.1.1
   refine tD (fun h2=>?_) (fun h2=>?_)
   .refine tB (tI (by omega) (by omega)) (fun x3 h4=>?_)
    have mh4:=h4.2
    refine tE (fun h5=>?_) (fun h5=>?_)
    .exact tR ⟨cl,(by first | exact Zaup ‹_› ‹_› ‹_› (by first | assumption | grind) | exact Zarh ‹_› (by omega))⟩
    .refine qw (v5+1) fun q6 q7=>?_
     exact tL ⟨rfl,rfl,O0,cl,(by first | exact Zayz | exact Zalq ‹_› ‹_› ‹_› (by first | assumption | grind) (by omega))⟩ (by unfold Zyo lt6;dsimp only;omega)
   .exact tR ⟨cl,(by first | exact Zaup ‹_› ‹_› ‹_› (by first | assumption | grind) | exact Zarh ‹_› (by omega))⟩
theorem Zar7{a0:Zo}{a1:Int}(oa0:Z9 a0):Tot (Zacy a0 a1) (fun r=>(r=fdV a0.Objects a1)):=by
 unfold Zacy
 refine tZ ?_
 dsimp only [Zagf,LT.den]
 refine tB (Zam7 oa0) (fun x1 h2=>?_)
 have eh2_0:=h2.1
 have eh2_1:=h2.2
 have lh2:=Za3b a0.Objects a1
 refine tD (fun h3=>?_) (fun h3=>?_)
 .exact tR (by first | exact Zay0 ‹_› ‹_› | exact Zauq ‹_› ‹_› ‹_›)
 .refine tB (tI (by omega) (by omega)) (fun x4 h5=>?_)
  have mh5:=h5.2
  exact tR (by first | exact Zay0 ‹_› ‹_› | exact Zauq ‹_› ‹_› ‹_›)
theorem Z23{a0:Zo}{a1:Int}(oa0:Z9 a0):Tot (Z3u a0 a1) (fun r=>True):=by
 unfold Z3u
 refine tZ ?_
 dsimp only [Z65,LT.den]
 refine tB (Zar7 oa0) (fun x1 h2=>?_)
 have eh2_0:=h2
 exact tR trivial
def Zam8:Zm7->Prop
 | .L0 v0 v1 v5 v6=>((SzL 8 (fun _=>True)) v0)/\(0<=v6)
def Zqr:Zm7->M6
 | .L0 v0 v1 v5 v6=>(1,((v0.length:Int) - v6).toNat,1000000,0,0,0)
theorem Zvj{a0:List Int}{a1:Int}(oa0:(SzL 8 (fun _=>True)) a0):Tot (Z67 a0 a1) (fun r=>True):=by
 unfold Z67
 refine tX (Inv:=Zam8) (μ:=Zqr) (m:=(1000000,0,0,0,0,0)) ?_ ?_
 .have lb_a0:=oa0.1
  dsimp only [Zaa2,LT.den]
  exact tL ⟨oa0,cl⟩ (by unfold Zqr lt6;dsimp only;omega)
 .intro s hs
  cases s with
  | L0 v0 v1 v5 v6=>
   obtain⟨ov0,cv6⟩:=hs
   have lb_v0:=ov0.1
   show Tot (Zxf v0 v1 v5 v6).den _
   dsimp only [Zxf,LT.den]
   have q1:=ov0.1
   refine tD (fun h2=>?_) (fun h2=>?_)
   .refine tB (tI (by omega) (by omega)) (fun x3 h4=>?_)
    refine tE (fun h5=>?_) (fun h5=>?_)
    .refine qw (v5+1) fun q6 q7=>?_
     refine qw (v6+1) fun q8 q9=>?_
     exact tL ⟨ov0,cl⟩ (by unfold Zqr lt6;dsimp only;omega)
    .refine qw (v6+1) fun q10 q11=>?_
     exact tL ⟨ov0,cl⟩ (by unfold Zqr lt6;dsimp only;omega)
   .exact tR trivial
def Zar8:Zpp->Prop
 | .L0 v1 v2 v3 E0 v9=>((SzL 8 (fun _=>True)) v1)/\(Z9 E0)/\(0<=v9)
def Zsl:Zpp->M6
 | .L0 v1 v2 v3 E0 v9=>(1,((v1.length:Int) - v9).toNat,1000000,0,0,0)
theorem Zlp{a0:Zo}{a1:List Int}{a2:Int}{a3:Int}(oa0:Z9 a0)(oa1:(SzL 8 (fun _=>True)) a1):Tot (Zacz a0 a1 a2 a3) (fun r=>True):=by
 unfold Zacz
 refine tX (Inv:=Zar8) (μ:=Zsl) (m:=(1000000,0,0,0,0,0)) ?_ ?_
 .have lb_a1:=oa1.1
  dsimp only [Zagh,LT.den]
  exact tL ⟨oa1,oa0,cl⟩ (by unfold Zsl lt6;dsimp only;omega)
 .intro s hs
  cases s with
  | L0 v1 v2 v3 E0 v9=>
   obtain⟨ov1,O0,cv9⟩:=hs
   have lb_v1:=ov1.1
   show Tot (Z0v v1 v2 v3 E0 v9).den _
   dsimp only [Z0v,LT.den]
   have q1:=ov1.1
   refine tD (fun h2=>?_) (fun h2=>?_)
   .refine tB (tI (by omega) (by omega)) (fun x3 h4=>?_)
    refine tB (Z23 O0) (fun x5 h6=>?_)
    refine tO (fun h7=>?_) (fun h7=>?_)
    .exact tR trivial
    .refine tN (fun h8=>?_) (fun h8=>?_)
     .exact tR trivial
     .refine tD (fun h9=>?_) (fun h9=>?_)
      .refine tN (fun h10=>?_) (fun h10=>?_)
       .exact tR trivial
       .refine tB (Zvj ov1) (fun x11 h12=>?_)
        refine tN (fun h13=>?_) (fun h13=>?_)
        .exact tR trivial
        .refine qw (v9+1) fun q14 q15=>?_
         exact tL ⟨ov1,O0,cl⟩ (by unfold Zsl lt6;dsimp only;omega)
      .refine tB (Zvj ov1) (fun x16 h17=>?_)
       refine tN (fun h18=>?_) (fun h18=>?_)
       .exact tR trivial
       .refine qw (v9+1) fun q19 q20=>?_
        exact tL ⟨ov1,O0,cl⟩ (by unfold Zsl lt6;dsimp only;omega)
   .exact tR trivial
def Zahv:Zjs->Prop
 | .L0 E0 v3=>(Z9 E0)/\(0<=v3)
def Zr6:Zjs->M6
 | .L0 E0 v3=>(1,((E0.Players.length:Int) - v3).toNat,1000000,0,0,0)
theorem Zahw{a0:Zo}(oa0:Z9 a0):Tot (Z0w a0) (fun r=>True):=by
 unfold Z0w
 refine tX (Inv:=Zahv) (μ:=Zr6) (m:=(1000000,0,0,0,0,0)) ?_ ?_
 .dsimp only [Z4x,LT.den]
  have q1:=oa0.1.1
  refine tB (Zc1) (fun x2 h3=>?_)
  have eh3_0:=h3
  refine tO (fun h4=>?_) (fun h4=>?_)
  .exact tR trivial
  .exact tL ⟨oa0,cl⟩ (by unfold Zr6 lt6;dsimp only;omega)
 .intro s hs
  cases s with
  | L0 E0 v3=>
   obtain⟨O0,cv3⟩:=hs
   show Tot (Zre E0 v3).den _
   dsimp only [Zre,LT.den]
   have q1:=O0.1.1
   refine tD (fun h2=>?_) (fun h2=>?_)
   .refine tB (tI (by omega) (by omega)) (fun x3 h4=>?_)
    have oh4:Zhi x3:=O0.1.2 x3 h4.1
    refine tB (Zc1) (fun x5 h6=>?_)
    have eh6_0:=h6
    refine tO (fun h7=>?_) (fun h7=>?_)
    .exact tR trivial
    .refine tB (Zc1) (fun x8 h9=>?_)
     have eh9_0:=h9
     refine tO (fun h10=>?_) (fun h10=>?_)
     .exact tR trivial
     .refine tB (Zc1) (fun x11 h12=>?_)
      have eh12_0:=h12
      refine tO (fun h13=>?_) (fun h13=>?_)
      .exact tR trivial
      .refine tB (Zam5) (fun x14 h15=>?_)
       refine tO (fun h16=>?_) (fun h16=>?_)
       .exact tR trivial
       .refine tB (Zlp O0 oh4.1) (fun x17 h18=>?_)
        refine tO (fun h19=>?_) (fun h19=>?_)
        .exact tR trivial
        .refine tB (Zlp O0 oh4.2.1) (fun x20 h21=>?_)
         refine tO (fun h22=>?_) (fun h22=>?_)
         .exact tR trivial
         .refine tB (Zlp O0 oh4.2.2) (fun x23 h24=>?_)
          refine tO (fun h25=>?_) (fun h25=>?_)
          .exact tR trivial
          .refine qw (v3+1) fun q26 q27=>?_
           exact tL ⟨O0,cl⟩ (by unfold Zr6 lt6;dsimp only;omega)
   .refine tB (Zlp O0 O0.2.2.1) (fun x28 h29=>?_)
    refine tF (fun h30=>?_) (fun h30=>?_)
    .refine tB (Zlp O0 O0.2.2.2.1) (fun x31 h32=>?_)
     exact tR trivial
    .exact tR trivial
theorem Zfd{a0:Zo}{a1:Int}(oa0:Z9 a0):Tot (Z3v a0 a1) (fun r=>(r=true↔(0<=a1/\a1 < (a0.Players.length:Int)))):=by
 unfold Z3v
 refine tZ ?_
 dsimp only [Z68,LT.den]
 have q1:=oa0.1.1
 refine qw ((a0.Players.length:Int) - 1) fun q2 q3=>?_
 refine tB (Zc1) (fun x4 h5=>?_)
 have eh5_0:=h5
 exact tR (by grind)
def Zawu:Zxh->Prop
 | .L0 E0 v3=>(0<=v3)/\True
def Z8r:Zxh->M6
 | .L0 E0 v3=>(1,(3 - v3).toNat,1000000,0,0,0)
theorem Zawv{a0:A3 Int}:Tot (Zaqi a0) (fun r=>True):=by
 unfold Zaqi
 refine tX (Inv:=Zawu) (μ:=Z8r) (m:=(1000000,0,0,0,0,0)) ?_ ?_
 .dsimp only [Zaqg,LT.den]
  exact tL ⟨cl,trivial⟩ (by unfold Z8r lt6;dsimp only;omega)
 .intro s hs
  cases s with
  | L0 E0 v3=>
   obtain⟨cv3,_⟩:=hs
   show Tot (Z7a E0 v3).den _
   dsimp only [Z7a,LT.den]
   refine tD (fun h1=>?_) (fun h1=>?_)
   .refine tB (tI (by omega) (by have e:(A3.list E0).length=3:=rfl;omega)) (fun x2 h3=>?_)
    refine tD (fun h4=>?_) (fun h4=>?_)
    .exact tR trivial
    .refine tB (tI (by omega) (by have e:(A3.list E0).length=3:=rfl;omega)) (fun x5 h6=>?_)
     refine tD (fun h7=>?_) (fun h7=>?_)
     .exact tR trivial
     .refine qw (v3+1) fun q8 q9=>?_
      exact tL ⟨cl,trivial⟩ (by unfold Z8r lt6;dsimp only;omega)
   .exact tR trivial
theorem Zar9{a0:Zf}:Tot (Zac0 a0) (fun r=>True):=by
 unfold Zac0
 refine tZ ?_
 dsimp only [Zagj,LT.den]
 exact tR trivial
theorem Zam9{a0:Zf}:Tot (Z7b a0) (fun r=>True):=by
 unfold Z7b
 refine tZ ?_
 dsimp only [Zaa4,LT.den]
 exact tR trivial
theorem Zaww{a0:Zf}{a1:Int}{a2:Int}:Tot (Zaqm a0 a1 a2) (fun r=>(r=true->1<=a0.Id)):=by
 unfold Zaqm
 refine tZ ?_
 dsimp only [Zaqk,LT.den]
 refine tD (fun h1=>?_) (fun h1=>?_)
 .exact tR (by intro hr;cases hr)
 .refine tD (fun h2=>?_) (fun h2=>?_)
  .exact tR (by intro hr;cases hr)
  .refine tD (fun h3=>?_) (fun h3=>?_)
   .exact tR (by intro hr;cases hr)
   .refine tD (fun h4=>?_) (fun h4=>?_)
    .exact tR (by intro hr;cases hr)
    .refine tD (fun h5=>?_) (fun h5=>?_)
     .exact tR (by intro hr;cases hr)
     .refine tD (fun h6=>?_) (fun h6=>?_)
      .exact tR (by intro hr;cases hr)
      .refine tD (fun h7=>?_) (fun h7=>?_)
       .exact tR (by intro hr;cases hr)
       .refine tD (fun h8=>?_) (fun h8=>?_)
        .exact tR (by intro hr;cases hr)
        .refine tD (fun h9=>?_) (fun h9=>?_)
         .exact tR (by intro hr;cases hr)
         .refine tD (fun h10=>?_) (fun h10=>?_)
          .exact tR (by intro hr;cases hr)
          .refine tD (fun h11=>?_) (fun h11=>?_)
           .exact tR (by intro hr;cases hr)
           .refine tD (fun h12=>?_) (fun h12=>?_)
            .exact tR (by intro hr;cases hr)
            .refine tD (fun h13=>?_) (fun h13=>?_)
             .exact tR (by intro hr;cases hr)
             .refine tD (fun h14=>?_) (fun h14=>?_)
              .exact tR (by intro hr;cases hr)
              .refine tD (fun h15=>?_) (fun h15=>?_)
               .exact tR (by intro hr;cases hr)
               .refine tD (fun h16=>?_) (fun h16=>?_)
                .exact tR (by intro hr;cases hr)
                .refine tD (fun h17=>?_) (fun h17=>?_)
                 .exact tR (by intro hr;cases hr)
                 .refine tB (Zawv) (fun x18 h19=>?_)
                  refine tO (fun h20=>?_) (fun h20=>?_)
                  .exact tR (by intro hr;cases hr)
                  .refine tD (fun h21=>?_) (fun h21=>?_)
                   .exact tR (by intro hr;cases hr)
                   .refine tD (fun h22=>?_) (fun h22=>?_)
                    .exact tR (by intro hr;cases hr)
                    .refine tD (fun h23=>?_) (fun h23=>?_)
                     .exact tR (by intro hr;cases hr)
                     .refine tD (fun h24=>?_) (fun h24=>?_)
                      .exact tR (by intro hr;cases hr)
                      .refine tE (fun h25=>?_) (fun h25=>?_)
                       .exact tR (by intro hr;first | omega | (cases hr;done))
                       .refine tB (Zar9) (fun x26 h27=>?_)
                        refine tF (fun h28=>?_) (fun h28=>?_)
                        .refine tB (Zam9) (fun x29 h30=>?_)
                         refine tF (fun h31=>?_) (fun h31=>?_)
                         .refine tO (fun h32=>?_) (fun h32=>?_)
                          .refine tO (fun h33=>?_) (fun h33=>?_)
                           .exact tR (by intro hr;first | omega | (cases hr;done))
                           .exact tR (by intro hr;cases hr)
                          .exact tR (by intro hr;cases hr)
                         .exact tR (by intro hr;cases hr)
                        .exact tR (by intro hr;cases hr)
def Zakc:Zk8->Prop
 | .L0 v1 E0 v5 v6=>(Z9 E0)/\(0<=v6)
def Zj6:Zk8->M6
 | .L0 v1 E0 v5 v6=>(1,((E0.Stack.length:Int) - v6).toNat,1000000,0,0,0)
theorem Zakd{a0:Zo}{a1:Int}(oa0:Z9 a0):Tot (Z3w a0 a1) (fun r=>True):=by
 unfold Z3w
 refine tX (Inv:=Zakc) (μ:=Zj6) (m:=(1000000,0,0,0,0,0)) ?_ ?_
 .dsimp only [Z7c,LT.den]
  exact tL ⟨oa0,cl⟩ (by unfold Zj6 lt6;dsimp only;omega)
 .intro s hs
  cases s with
  | L0 v1 E0 v5 v6=>
   obtain⟨O0,cv6⟩:=hs
   show Tot (Zt6 v1 E0 v5 v6).den _
   dsimp only [Zt6,LT.den]
   have q1:=O0.2.2.2.2.1.1
   refine tD (fun h2=>?_) (fun h2=>?_)
   .refine tB (tI (by omega) (by omega)) (fun x3 h4=>?_)
    have oh4:Zh5 x3:=O0.2.2.2.2.1.2 x3 h4.1
    refine tE (fun h5=>?_) (fun h5=>?_)
    .refine tE (fun h6=>?_) (fun h6=>?_)
     .refine qw (v5+1) fun q7 q8=>?_
      refine qw (v6+1) fun q9 q10=>?_
      exact tL ⟨O0,cl⟩ (by unfold Zj6 lt6;dsimp only;omega)
     .refine qw (v6+1) fun q11 q12=>?_
      exact tL ⟨O0,cl⟩ (by unfold Zj6 lt6;dsimp only;omega)
    .refine qw (v6+1) fun q13 q14=>?_
     exact tL ⟨O0,cl⟩ (by unfold Zj6 lt6;dsimp only;omega)
   .exact tR trivial
theorem Zlq{a0:List Int}(oa0:(SzL 8 (fun _=>True)) a0):Tot (Zac1 a0) (fun r=>((SzL 8 (fun _=>True)) r)):=by
 unfold Zac1
 refine tZ ?_
 have lb_a0:=oa0.1
 dsimp only [Zagl,LT.den]
 have q3:=oa0.1
 refine tB (tA (by first | omega | (simp only [List.length_cons,List.length_nil];omega)) (by decide)) (fun x1 h2=>?_)
 have lh2:x1.length=([]:List Int).length+a0.length:=by rw [h2,List.length_append]
 try simp only [List.length_cons,List.length_nil,Nat.zero_add] at lh2
 exact tR SzL.tr
theorem Zasa{a0:Zo}{a1:Int}{a2:Int}(oa0:Z9 a0):Tot (Z3x a0 a1 a2) (fun r=>((SzL 8 (fun _=>True)) r)):=by
 unfold Z3x
 refine tZ ?_
 dsimp only [Zagn,LT.den]
 refine tE (fun h1=>?_) (fun h1=>?_)
 .refine tB (Zlq oa0.2.2.1) (fun x2 h3=>?_)
  exact tR h3
 .refine tE (fun h4=>?_) (fun h4=>?_)
  .refine tB (Zlq oa0.2.2.2.1) (fun x5 h6=>?_)
   exact tR h6
  .refine tD (fun h7=>?_) (fun h7=>?_)
   .exact tR SzL.nil
   .have q8:=oa0.1.1
    refine tD (fun h9=>?_) (fun h9=>?_)
    .exact tR SzL.nil
    .refine tE (fun h10=>?_) (fun h10=>?_)
     .refine tB (tI (by omega) (by omega)) (fun x11 h12=>?_)
      have oh12:Zhi x11:=oa0.1.2 x11 h12.1
      refine tB (Zlq oh12.2.1) (fun x13 h14=>?_)
      exact tR h14
     .refine tE (fun h15=>?_) (fun h15=>?_)
      .refine tB (tI (by omega) (by omega)) (fun x16 h17=>?_)
       have oh17:Zhi x16:=oa0.1.2 x16 h17.1
       refine tB (Zlq oh17.1) (fun x18 h19=>?_)
       exact tR h19
      .refine tE (fun h20=>?_) (fun h20=>?_)
       .refine tB (tI (by omega) (by omega)) (fun x21 h22=>?_)
        have oh22:Zhi x21:=oa0.1.2 x21 h22.1
        refine tB (Zlq oh22.2.2) (fun x23 h24=>?_)
        exact tR h24
       .exact tR SzL.nil
theorem Z24{a0:Zo}{a1:Zf}(oa0:Z9 a0):Tot (Z3y a0 a1) (fun r=>True):=by
 unfold Z3y
 refine tZ ?_
 dsimp only [Z7e,LT.den]
 refine tE (fun h1=>?_) (fun h1=>?_)
 .refine tB (Zakd oa0) (fun x2 h3=>?_)
  exact tR trivial
 .refine tB (Zasa oa0) (fun x4 h5=>?_)
  refine tB (Zvj h5) (fun x6 h7=>?_)
  exact tR trivial
def Zahx(a0:List Zk)(a1:Zo):Zjt->Prop
 | .L0 v0 E0 v5=>(v0=a0)/\(E0=a1)/\((SzL 176 Z3) v0)/\(Z9 E0)/\(0<=v5)/\(Cons E0.Objects v5)
def Zma:Zjt->M6
 | .L0 v0 E0 v5=>(1,((E0.Objects.length:Int) - v5).toNat,1000000,0,0,0)
theorem Zkn{a0:List Zk}{a1:Zo}(oa0:(SzL 176 Z3) a0)(oa1:Z9 a1):Tot (Z0x a0 a1) (fun r=>(r=true->Ids a1.Objects)):=by
 unfold Z0x
 refine tX (Inv:=(Zahx a0 a1)) (μ:=Zma) (m:=(1000000,0,0,0,0,0)) ?_ ?_
 .have lb_a0:=oa0.1
  dsimp only [Z40,LT.den]
  have q1:=oa1.2.1.1
  refine tD (fun h2=>?_) (fun h2=>?_)
  .exact tR (by first | (intro hr;exact absurd hr (by decide)) | exact fun _=>Zll (v:=v5) ‹_› (by omega))
  .exact tL ⟨rfl,rfl,oa0,oa1,cl,(by first | exact Zari | exact Zoo (v:=v5) ‹_› ‹_› (by omega) (by omega) (Zarj (v:=v5) ‹_› (by omega) ‹_›) (by omega) | exact Zoo (v:=v5) ‹_› ‹_› (by omega) (by omega) (fun y hv _=>absurd hv (by omega)) (by omega))⟩ (by unfold Zma lt6;dsimp only;omega)
 .intro s hs
  cases s with
  | L0 v0 E0 v5=>
   obtain⟨al0,al1,ov0,O0,cv5,i0⟩:=hs
   have lb_v0:=ov0.1
   subst al0
   subst al1
   show Tot (Zrf v0 E0 v5).den _
   dsimp only [Zrf,LT.den]
   have q1:=O0.2.1.1
   refine tD (fun h2=>?_) (fun h2=>?_)
   .refine tB (tI (by omega) (by omega)) (fun x3 h4=>?_)
    have mh4:=h4.2
    have q5:=ov0.1
    have q6:=O0.1.1
    refine tB (Zaww) (fun x7 h8=>?_)
    have eh8_0:=h8
    refine tO (fun h9=>?_) (fun h9=>?_)
    .exact tR (by first | (intro hr;exact absurd hr (by decide)) | exact fun _=>Zll (v:=v5) ‹_› (by omega))
    .have h9_0:=eh8_0 h9
     refine tD (fun h10=>?_) (fun h10=>?_)
     .exact tR (by first | (intro hr;exact absurd hr (by decide)) | exact fun _=>Zll (v:=v5) ‹_› (by omega))
     .refine tD (fun h11=>?_) (fun h11=>?_)
      .exact tR (by first | (intro hr;exact absurd hr (by decide)) | exact fun _=>Zll (v:=v5) ‹_› (by omega))
      .refine tD (fun h12=>?_) (fun h12=>?_)
       .refine qw (v5 - 1) fun q13 q14=>?_
        refine tB (tI (by omega) (by omega)) (fun x15 h16=>?_)
        have mh16:=h16.2
        refine tD (fun h17=>?_) (fun h17=>?_)
        .exact tR (by first | (intro hr;exact absurd hr (by decide)) | exact fun _=>Zll (v:=v5) ‹_› (by omega))
        .refine tB (Z24 O0) (fun x18 h19=>?_)
         refine tO (fun h20=>?_) (fun h20=>?_)
         .exact tR (by first | (intro hr;exact absurd hr (by decide)) | exact fun _=>Zll (v:=v5) ‹_› (by omega))
         .refine qw (v5+1) fun q21 q22=>?_
          exact tL ⟨rfl,rfl,ov0,O0,cl,(by first | exact Zari | exact Zoo (v:=v5) ‹_› ‹_› (by omega) (by omega) (Zarj (v:=v5) ‹_› (by omega) ‹_›) (by omega) | exact Zoo (v:=v5) ‹_› ‹_› (by omega) (by omega) (fun y hv _=>absurd hv (by omega)) (by omega))⟩ (by unfold Zma lt6;dsimp only;omega)
       .refine tB (Z24 O0) (fun x23 h24=>?_)
        refine tO (fun h25=>?_) (fun h25=>?_)
        .exact tR (by first | (intro hr;exact absurd hr (by decide)) | exact fun _=>Zll (v:=v5) ‹_› (by omega))
        .refine qw (v5+1) fun q26 q27=>?_
         exact tL ⟨rfl,rfl,ov0,O0,cl,(by first | exact Zari | exact Zoo (v:=v5) ‹_› ‹_› (by omega) (by omega) (Zarj (v:=v5) ‹_› (by omega) ‹_›) (by omega) | exact Zoo (v:=v5) ‹_› ‹_› (by omega) (by omega) (fun y hv _=>absurd hv (by omega)) (by omega))⟩ (by unfold Zma lt6;dsimp only;omega)
   .exact tR (by first | (intro hr;exact absurd hr (by decide)) | exact fun _=>Zll (v:=v5) ‹_› (by omega))
def Zadx:Zim->Prop
 | .L0 v0 v1 v5=>((SzL 176 Z8) v0)/\((SzL 176 Z8) v1)/\(0<=v5)/\(v0.length=v1.length)
def Zqs:Zim->M6
 | .L0 v0 v1 v5=>(1,((v0.length:Int) - v5).toNat,1000000,0,0,0)
theorem Zyp{a0:List Zh}{a1:List Zh}(oa0:(SzL 176 Z8) a0)(oa1:(SzL 176 Z8) a1):Tot (Zxi a0 a1) (fun r=>True):=by
 unfold Zxi
 refine tX (Inv:=Zadx) (μ:=Zqs) (m:=(1000000,0,0,0,0,0)) ?_ ?_
 .have lb_a0:=oa0.1
  have lb_a1:=oa1.1
  dsimp only [Z2j,LT.den]
  have q1:=oa0.1
  have q2:=oa1.1
  refine tN (fun h3=>?_) (fun h3=>?_)
  .exact tR trivial
  .exact tL ⟨oa0,oa1,cl,cl⟩ (by unfold Zqs lt6;dsimp only;omega)
 .intro s hs
  cases s with
  | L0 v0 v1 v5=>
   obtain⟨ov0,ov1,cv5,i0⟩:=hs
   have lb_v0:=ov0.1
   have lb_v1:=ov1.1
   show Tot (Zpq v0 v1 v5).den _
   dsimp only [Zpq,LT.den]
   have q1:=ov0.1
   refine tD (fun h2=>?_) (fun h2=>?_)
   .refine tB (tI (by omega) (by omega)) (fun x3 h4=>?_)
    have oh4:Z8 x3:=ov0.2 x3 h4.1
    refine tB (tI (by omega) (by omega)) (fun x5 h6=>?_)
    have oh6:Z8 x5:=ov1.2 x5 h6.1
    refine tO (fun h7=>?_) (fun h7=>?_)
    .exact tR trivial
    .refine qw (v5+1) fun q8 q9=>?_
     exact tL ⟨ov0,ov1,cl,cl⟩ (by unfold Zqs lt6;dsimp only;omega)
   .exact tR trivial
theorem Zasb{a0:Zs}{a1:Zs}(oa0:Z7 a0)(oa1:Z7 a1):Tot (Zac2 a0 a1) (fun r=>True):=by
 unfold Zac2
 refine tZ ?_
 dsimp only [Zagp,LT.den]
 refine tE (fun h1=>?_) (fun h1=>?_)
 .refine tF (fun h2=>?_) (fun h2=>?_)
  .refine tF (fun h3=>?_) (fun h3=>?_)
   .refine tE (fun h4=>?_) (fun h4=>?_)
    .refine tE (fun h5=>?_) (fun h5=>?_)
     .refine tF (fun h6=>?_) (fun h6=>?_)
      .refine tF (fun h7=>?_) (fun h7=>?_)
       .refine tF (fun h8=>?_) (fun h8=>?_)
        .refine tB (Zyp oa0.2.2.2.2 oa1.2.2.2.2) (fun x9 h10=>?_)
         exact tR trivial
        .exact tR trivial
       .exact tR trivial
      .exact tR trivial
     .exact tR trivial
    .exact tR trivial
   .exact tR trivial
  .exact tR trivial
 .exact tR trivial
def Zady:Zin->Prop
 | .L0 v0 v1 v5=>((SzL 560 Z7) v0)/\((SzL 560 Z7) v1)/\(0<=v5)/\(v0.length=v1.length)
def Zqt:Zin->M6
 | .L0 v0 v1 v5=>(1,((v0.length:Int) - v5).toNat,1000000,0,0,0)
theorem Zadz{a0:List Zs}{a1:List Zs}(oa0:(SzL 560 Z7) a0)(oa1:(SzL 560 Z7) a1):Tot (Zxj a0 a1) (fun r=>True):=by
 unfold Zxj
 refine tX (Inv:=Zady) (μ:=Zqt) (m:=(1000000,0,0,0,0,0)) ?_ ?_
 .have lb_a0:=oa0.1
  have lb_a1:=oa1.1
  dsimp only [Z2l,LT.den]
  have q1:=oa0.1
  have q2:=oa1.1
  refine tN (fun h3=>?_) (fun h3=>?_)
  .exact tR trivial
  .exact tL ⟨oa0,oa1,cl,cl⟩ (by unfold Zqt lt6;dsimp only;omega)
 .intro s hs
  cases s with
  | L0 v0 v1 v5=>
   obtain⟨ov0,ov1,cv5,i0⟩:=hs
   have lb_v0:=ov0.1
   have lb_v1:=ov1.1
   show Tot (Zpr v0 v1 v5).den _
   dsimp only [Zpr,LT.den]
   have q1:=ov0.1
   refine tD (fun h2=>?_) (fun h2=>?_)
   .refine tB (tI (by omega) (by omega)) (fun x3 h4=>?_)
    have oh4:Z7 x3:=ov0.2 x3 h4.1
    refine tB (tI (by omega) (by omega)) (fun x5 h6=>?_)
    have oh6:Z7 x5:=ov1.2 x5 h6.1
    refine tB (Zasb oh4 oh6) (fun x7 h8=>?_)
    refine tO (fun h9=>?_) (fun h9=>?_)
    .exact tR trivial
    .refine qw (v5+1) fun q10 q11=>?_
     exact tL ⟨ov0,ov1,cl,cl⟩ (by unfold Zqt lt6;dsimp only;omega)
   .exact tR trivial
def Zasc:Zps->Prop
 | .L0 E0 E1 v5=>(Z4 E0)/\(Z4 E1)/\(0<=v5)/\(E0.Specs.length=E1.Specs.length)
def Z1o:Zps->M6
 | .L0 E0 E1 v5=>(1,((E0.Specs.length:Int) - v5).toNat,1000000,0,0,0)
theorem Zasd{a0:Ze}{a1:Ze}(oa0:Z4 a0)(oa1:Z4 a1):Tot (Zac3 a0 a1) (fun r=>True):=by
 unfold Zac3
 refine tX (Inv:=Zasc) (μ:=Z1o) (m:=(1000000,0,0,0,0,0)) ?_ ?_
 .dsimp only [Zags,LT.den]
  have q1:=oa0.2.2.2.1.1
  have q2:=oa1.2.2.2.1.1
  refine tN (fun h3=>?_) (fun h3=>?_)
  .exact tR trivial
  .exact tL ⟨oa0,oa1,cl,cl⟩ (by unfold Z1o lt6;dsimp only;omega)
 .intro s hs
  cases s with
  | L0 E0 E1 v5=>
   obtain⟨O0,O1,cv5,i0⟩:=hs
   show Tot (Z0y E0 E1 v5).den _
   dsimp only [Z0y,LT.den]
   have q1:=O0.2.2.2.1.1
   refine tD (fun h2=>?_) (fun h2=>?_)
   .refine tB (tI (by omega) (by omega)) (fun x3 h4=>?_)
    have oh4:Zem x3:=O0.2.2.2.1.2 x3 h4.1
    refine tB (tI (by omega) (by omega)) (fun x5 h6=>?_)
    have oh6:Zem x5:=O1.2.2.2.1.2 x5 h6.1
    refine tO (fun h7=>?_) (fun h7=>?_)
    .exact tR trivial
    .refine qw (v5+1) fun q8 q9=>?_
     exact tL ⟨O0,O1,cl,cl⟩ (by unfold Z1o lt6;dsimp only;omega)
   .refine tE (fun h10=>?_) (fun h10=>?_)
    .refine tF (fun h11=>?_) (fun h11=>?_)
     .refine tB (Zyp O0.2.1 O1.2.1) (fun x12 h13=>?_)
      refine tF (fun h14=>?_) (fun h14=>?_)
      .refine tF (fun h15=>?_) (fun h15=>?_)
       .refine tF (fun h16=>?_) (fun h16=>?_)
        .refine tF (fun h17=>?_) (fun h17=>?_)
         .refine tF (fun h18=>?_) (fun h18=>?_)
          .refine tB (Zadz O0.2.2.2.2.1 O1.2.2.2.2.1) (fun x19 h20=>?_)
           refine tF (fun h21=>?_) (fun h21=>?_)
           .exact tR trivial
           .exact tR trivial
          .exact tR trivial
         .exact tR trivial
        .exact tR trivial
       .exact tR trivial
      .exact tR trivial
     .exact tR trivial
    .exact tR trivial
theorem Zase{a0:Zo}{a1:Zjh}(oa0:Z9 a0)(oa1:Zh5 a1):Tot (Zac4 a0 a1) (fun r=>True):=by
 unfold Zac4
 refine tZ ?_
 dsimp only [Zagu,LT.den]
 refine qw (a0.NextId - 1) fun q1 q2=>?_
 refine tB (Zc1) (fun x3 h4=>?_)
 have eh4_0:=h4
 refine tO (fun h5=>?_) (fun h5=>?_)
 .exact tR trivial
 .refine tB (Zc1) (fun x6 h7=>?_)
  have eh7_0:=h7
  refine tO (fun h8=>?_) (fun h8=>?_)
  .exact tR trivial
  .have q9:=oa1.2.1
   refine tD (fun h10=>?_) (fun h10=>?_)
   .exact tR trivial
   .refine tB (Zfd oa0) (fun x11 h12=>?_)
    have eh12_0:=h12
    refine tO (fun h13=>?_) (fun h13=>?_)
    .exact tR trivial
    .refine tB (Z23 oa0) (fun x14 h15=>?_)
     refine tE (fun h16=>?_) (fun h16=>?_)
     .refine tB (Zasd oa1.1 ⟨SzS.nil,SzL.nil,SzS.nil,SzL.nil,SzL.nil,SzS.nil⟩) (fun x17 h18=>?_)
      refine tE (fun h19=>?_) (fun h19=>?_)
      .refine tF (fun h20=>?_) (fun h20=>?_)
       .refine tE (fun h21=>?_) (fun h21=>?_)
        .refine tF (fun h22=>?_) (fun h22=>?_)
         .exact tR trivial
         .refine tB (Zv9 oa1.1) (fun x23 h24=>?_)
          exact tR trivial
        .exact tR trivial
       .exact tR trivial
      .exact tR trivial
     .refine tE (fun h25=>?_) (fun h25=>?_)
      .refine tO (fun h26=>?_) (fun h26=>?_)
       .refine tB (Zv9 oa1.1) (fun x27 h28=>?_)
        exact tR trivial
       .exact tR trivial
      .exact tR trivial
def Zawx:Zxk->Prop
 | .L0 v0 v3=>((SzL 8 (fun _=>True)) v0)/\(0<=v3)/\(1<=v3)
def Z8s:Zxk->M6
 | .L0 v0 v3=>(1,((v0.length:Int) - v3).toNat,1000000,0,0,0)
theorem Zawy{a0:List Int}(oa0:(SzL 8 (fun _=>True)) a0):Tot (Zaqq a0) (fun r=>True):=by
 unfold Zaqq
 refine tX (Inv:=Zawx) (μ:=Z8s) (m:=(1000000,0,0,0,0,0)) ?_ ?_
 .have lb_a0:=oa0.1
  dsimp only [Zaqo,LT.den]
  exact tL ⟨oa0,cl,cl⟩ (by unfold Z8s lt6;dsimp only;omega)
 .intro s hs
  cases s with
  | L0 v0 v3=>
   obtain⟨ov0,cv3,i0⟩:=hs
   have lb_v0:=ov0.1
   show Tot (Z7g v0 v3).den _
   dsimp only [Z7g,LT.den]
   have q1:=ov0.1
   refine tD (fun h2=>?_) (fun h2=>?_)
   .refine qw (v3 - 1) fun q3 q4=>?_
    refine tB (tI (by omega) (by omega)) (fun x5 h6=>?_)
    refine tB (tI (by omega) (by omega)) (fun x7 h8=>?_)
    refine tD (fun h9=>?_) (fun h9=>?_)
    .exact tR trivial
    .refine qw (v3+1) fun q10 q11=>?_
     exact tL ⟨ov0,cl,cl⟩ (by unfold Z8s lt6;dsimp only;omega)
   .exact tR trivial
def Zana(a0:Zo):Zgo->Prop
 | .L0 E0 v3=>(E0=a0)/\(Z9 E0)/\(0<=v3)/\(E0.Conts.length<=64)
 | .L1 E0 v3 v4=>(E0=a0)/\(Z9 E0)/\(0<=v4)/\(0<=v3)/\(v3 < (E0.Stack.length:Int))/\(E0.Conts.length<=64)
 | .L2 E0 v5=>(E0=a0)/\(Z9 E0)/\(0<=v5)/\(E0.Conts.length<=64)
 | .L3 E0 v7=>(E0=a0)/\(Z9 E0)/\(0<=v7)/\(E0.Conts.length<=64)
def Zeu:Zgo->M6
 | .L0 E0 v3=>(5,((E0.Stack.length:Int) - v3).toNat,1000000,0,0,0)
 | .L1 E0 v3 v4=>(5,((E0.Stack.length:Int) - v3).toNat,1,(v3 - v4).toNat,1000000,0)
 | .L2 E0 v5=>(3,((E0.Waiting.length:Int) - v5).toNat,1000000,0,0,0)
 | .L3 E0 v7=>(1,((E0.Conts.length:Int) - v7).toNat,1000000,0,0,0)
theorem Znt{a0:Zo}(oa0:Z9 a0):Tot (Z7h a0) (fun r=>(r=true->a0.Conts.length<=64)):=by
 unfold Z7h
 refine tX (Inv:=(Zana a0)) (μ:=Zeu) (m:=(1000000,0,0,0,0,0)) ?_ ?_
 .dsimp only [Zaa6,LT.den]
  have q1:=oa0.2.2.2.2.1.1
  refine tD (fun h2=>?_) (fun h2=>?_)
  .exact tR (by first | (intro hr;exact absurd hr (by decide)) | (intro _;omega))
  .have q3:=oa0.2.2.2.2.2.1.1
   refine tD (fun h4=>?_) (fun h4=>?_)
   .exact tR (by first | (intro hr;exact absurd hr (by decide)) | (intro _;omega))
   .have q5:=oa0.2.2.2.2.2.2.1.1
    refine tD (fun h6=>?_) (fun h6=>?_)
    .exact tR (by first | (intro hr;exact absurd hr (by decide)) | (intro _;omega))
    .exact tL ⟨rfl,oa0,cl,cl⟩ (by unfold Zeu lt6;dsimp only;omega)
 .intro s hs
  cases s with
  | L0 E0 v3=>
   obtain⟨al0,O0,cv3,i0⟩:=hs
   subst al0
   show Tot (Zxl E0 v3).den _
   dsimp only [Zxl,LT.den]
   have q1:=O0.2.2.2.2.1.1
   refine tD (fun h2=>?_) (fun h2=>?_)
   .refine tB (tI (by omega) (by omega)) (fun x3 h4=>?_)
    have oh4:Zh5 x3:=O0.2.2.2.2.1.2 x3 h4.1
    refine tB (Zase O0 oh4) (fun x5 h6=>?_)
    refine tO (fun h7=>?_) (fun h7=>?_)
    .exact tR (by first | (intro hr;exact absurd hr (by decide)) | (intro _;omega))
    .exact tL ⟨rfl,O0,cl,cl,cl,cl⟩ (by unfold Zeu lt6;dsimp only;omega)
   .exact tL ⟨rfl,O0,cl,cl⟩ (by unfold Zeu lt6;dsimp only;omega)
  | L1 E0 v3 v4=>
   obtain⟨al0,O0,cv4,cv3,bd4,i0⟩:=hs
   subst al0
   show Tot (Zxm E0 v3 v4).den _
   dsimp only [Zxm,LT.den]
   have lx_0:E0.Stack.length*824<=140737488351232:=O0.2.2.2.2.1.1
   refine tD (fun h1=>?_) (fun h1=>?_)
   .refine tB (tI (by omega) (by omega)) (fun x2 h3=>?_)
    have oh3:Zh5 x2:=O0.2.2.2.2.1.2 x2 h3.1
    refine tB (tI (by omega) (by omega)) (fun x4 h5=>?_)
    have oh5:Zh5 x4:=O0.2.2.2.2.1.2 x4 h5.1
    refine tE (fun h6=>?_) (fun h6=>?_)
    .exact tR (by first | (intro hr;exact absurd hr (by decide)) | (intro _;omega))
    .refine qw (v4+1) fun q7 q8=>?_
     exact tL ⟨rfl,O0,cl,cl,cl,cl⟩ (by unfold Zeu lt6;dsimp only;omega)
   .refine qw (v3+1) fun q9 q10=>?_
    exact tL ⟨rfl,O0,cl,cl⟩ (by unfold Zeu lt6;dsimp only;omega)
  | L2 E0 v5=>
   obtain⟨al0,O0,cv5,i0⟩:=hs
   subst al0
   show Tot (Zxn E0 v5).den _
   dsimp only [Zxn,LT.den]
   have q1:=O0.2.2.2.2.2.1.1
   refine tD (fun h2=>?_) (fun h2=>?_)
   .refine tB (tI (by omega) (by omega)) (fun x3 h4=>?_)
    have oh4:Zr4 x3:=O0.2.2.2.2.2.1.2 x3 h4.1
    refine tB (Zfd O0) (fun x5 h6=>?_)
    have eh6_0:=h6
    refine tO (fun h7=>?_) (fun h7=>?_)
    .exact tR (by first | (intro hr;exact absurd hr (by decide)) | (intro _;omega))
    .refine tN (fun h8=>?_) (fun h8=>?_)
     .exact tR (by first | (intro hr;exact absurd hr (by decide)) | (intro _;omega))
     .refine tB (Zv9 oh4) (fun x9 h10=>?_)
      refine tO (fun h11=>?_) (fun h11=>?_)
      .exact tR (by first | (intro hr;exact absurd hr (by decide)) | (intro _;omega))
      .refine qw (v5+1) fun q12 q13=>?_
       exact tL ⟨rfl,O0,cl,cl⟩ (by unfold Zeu lt6;dsimp only;omega)
   .exact tL ⟨rfl,O0,cl,cl⟩ (by unfold Zeu lt6;dsimp only;omega)
  | L3 E0 v7=>
   obtain⟨al0,O0,cv7,i0⟩:=hs
   subst al0
   show Tot (Zxo E0 v7).den _
   dsimp only [Zxo,LT.den]
   have q1:=O0.2.2.2.2.2.2.1.1
   refine tD (fun h2=>?_) (fun h2=>?_)
   .refine tB (tI (by omega) (by omega)) (fun x3 h4=>?_)
    have oh4:Zj9 x3:=O0.2.2.2.2.2.2.1.2 x3 h4.1
    refine tB (Zfd O0) (fun x5 h6=>?_)
    have eh6_0:=h6
    refine tO (fun h7=>?_) (fun h7=>?_)
    .exact tR (by first | (intro hr;exact absurd hr (by decide)) | (intro _;omega))
    .refine tD (fun h8=>?_) (fun h8=>?_)
     .exact tR (by first | (intro hr;exact absurd hr (by decide)) | (intro _;omega))
     .refine tB (Zc1) (fun x9 h10=>?_)
      have eh10_0:=h10
      refine tO (fun h11=>?_) (fun h11=>?_)
      .exact tR (by first | (intro hr;exact absurd hr (by decide)) | (intro _;omega))
      .refine tB (Zawy oh4.1) (fun x12 h13=>?_)
       refine tO (fun h14=>?_) (fun h14=>?_)
       .exact tR (by first | (intro hr;exact absurd hr (by decide)) | (intro _;omega))
       .refine tB (Zn8 oh4.2) (fun x15 h16=>?_)
        have eh16_0:=h16
        refine tF (fun h17=>?_) (fun h17=>?_)
        .exact tR (by first | (intro hr;exact absurd hr (by decide)) | (intro _;omega))
        .refine qw (v7+1) fun q18 q19=>?_
         exact tL ⟨rfl,O0,cl,cl⟩ (by unfold Zeu lt6;dsimp only;omega)
   .exact tR (by first | (intro hr;exact absurd hr (by decide)) | (intro _;omega))
end Go.PW
