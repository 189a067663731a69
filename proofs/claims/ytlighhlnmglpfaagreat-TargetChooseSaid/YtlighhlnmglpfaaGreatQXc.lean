import Derived.Test.YtlighhlnmglpfaaGreatQXb
set_option linter.all false
set_option maxRecDepth 100000
namespace Go.PW
abbrev Zao4(a0:(List Int))(a1:(List (List Bool)))(a2:Int)(r:(List Int)):Prop:=((SzL 8 (fun _=>True)) r)∧(Rch a0 (fun x y=>nB a1 x y=true) a2 r)
def Zaua(a0:(List Int))(a1:(List (List Bool)))(a2:Int):Zgf→Prop
 | .L0 v0 v1 v2 v7 v8=>(v0=a0)∧(v1=a1)∧(v2=a2)∧((SzL 8 (fun _=>True)) v0)∧((SzL 24 (SzL 1 (fun _=>True))) v1)∧((SzL 8 (fun _=>True)) v7)∧(0≤v8)∧(∀ x,x∈v0→0≤x)∧(v0.Nodup)∧(v0.length≤10000)∧(0≤v2)∧(RA v0 v1 v2 v7 v8)
 | .L1 v0 v1 v7 v9=>(v0=a0)∧(v1=a1)∧((SzL 8 (fun _=>True)) v0)∧((SzL 24 (SzL 1 (fun _=>True))) v1)∧((SzL 8 (fun _=>True)) v7)∧(0≤v9)∧(∀ x,x∈v0→0≤x)∧(v0.Nodup)∧(v0.length≤10000)∧(RB v0 v1 a2 v7 v9)
 | .L2 v0 v1 v7 v9 v10=>(v0=a0)∧(v1=a1)∧((SzL 8 (fun _=>True)) v0)∧((SzL 24 (SzL 1 (fun _=>True))) v1)∧((SzL 8 (fun _=>True)) v7)∧(0≤v10)∧(0≤v9)∧(v9 < (v7.length:Int))∧(∀ x,x∈v0→0≤x)∧(v0.Nodup)∧(v0.length≤10000)∧(RC v0 v1 a2 v7 v9 v10)
def Z9j:Zgf→M6
 | .L0 v0 v1 v2 v7 v8=>(3,((v0.length:Int) - v8).toNat,1000000,0,0,0)
 | .L1 v0 v1 v7 v9=>(1,((v0.length:Int) - v9).toNat,1000000,0,0,0)
 | .L2 v0 v1 v7 v9 v10=>(1,((v0.length:Int) - v9).toNat,1,((v0.length:Int) - v10).toNat,1000000,0)
theorem Z5m(a0:(List Int))(a1:(List (List Bool)))(a2:Int)(oa0:(SzL 8 (fun _=>True)) a0)(oa1:(SzL 24 (SzL 1 (fun _=>True))) a1)(h0:0≤a2)(h1:∀ x,x∈a0→0≤x)(h2:a0.Nodup)(h3:a0.length≤10000):Tot (Zwc a0 a1 a2) (Zao4 a0 a1 a2):=by
 unfold Zwc
 refine tX (Inv:=(Zaua a0 a1 a2)) (μ:=Z9j) (m:=(1000000,0,0,0,0,0)) ?_ ?_
 ·have lb_a0:=oa0.1
  have lb_a1:=oa1.1
  dsimp only [Zacz,LT.den]
  exact tL ⟨rfl,rfl,rfl,oa0,oa1,SzL.nil,cl,(by assumption),(by assumption),cl,(by assumption),(by first | exact RA_0 | (refine Za3a (by assumption) (by assumption) (by assumption) (by assumption) (by assumption) ?_ ?_<;>grind) | (refine Zavg (by assumption) (by assumption) (by assumption) ?_ ?_<;>grind))⟩ Z0h
 ·intro s hs
  cases s with
  | L0 v0 v1 v2 v7 v8=>
   obtain⟨al0,al1,al2,ov0,ov1,ov7,cv8,i0,i1,i2,i3,i4⟩:=hs
   have lb_v0:=ov0.1
   have lb_v1:=ov1.1
   have lb_v7:=ov7.1
   subst al0
   subst al1
   subst al2
   show Tot (Zu2 v0 v1 v2 v7 v8).den _
   dsimp only [Zu2,LT.den]
   have li:=i4.1.len
   have q1:=ov0.1
   refine tD (fun h2=>?_) (fun h2=>?_)
   ·refine tB (tI (by omega) (by omega)) (fun x3 h4=>?_)
    have mh4:=h4.2
    refine tB (Z3y v1 v2 x3 ov1 Z0i Z0i) (fun x5 h6=>?_)
    have eh6_0:=h6
    refine tF (fun h7=>?_) (fun h7=>?_)
    ·have q8:(SzL 8 (fun _=>True)) ([x3]:(List Int)):=⟨by simp only [List.length_cons,List.length_nil];omega,fun _ _=>trivial⟩
     have q11:=ov7.1
     refine tB (tA Zb0 (by decide)) (fun x9 h10=>?_)
     have lh10:x9.length=v7.length+1:=by rw [h10,List.length_append];rfl
     refine qw (v8+1) fun q12 q13=>?_
     exact tL ⟨rfl,rfl,rfl,ov0,ov1,⟨lo,fun _ _=>trivial⟩,cl,(by assumption),(by assumption),cl,(by assumption),(by first | exact RA_0 | (refine Za3a (by assumption) (by assumption) (by assumption) (by assumption) (by assumption) ?_ ?_<;>grind) | (refine Zavg (by assumption) (by assumption) (by assumption) ?_ ?_<;>grind))⟩ Z0h
    ·refine qw (v8+1) fun q14 q15=>?_
     exact tL ⟨rfl,rfl,rfl,ov0,ov1,ov7,cl,(by assumption),(by assumption),cl,(by assumption),(by first | exact RA_0 | (refine Za3a (by assumption) (by assumption) (by assumption) (by assumption) (by assumption) ?_ ?_<;>grind) | (refine Zavg (by assumption) (by assumption) (by assumption) ?_ ?_<;>grind))⟩ Z0h
   ·exact tL ⟨rfl,rfl,ov0,ov1,ov7,cl,(by assumption),(by assumption),cl,tk48⟩ Z0h
  | L1 v0 v1 v7 v9=>
   obtain⟨al0,al1,ov0,ov1,ov7,cv9,i0,i1,i2,i3⟩:=hs
   have lb_v0:=ov0.1
   have lb_v1:=ov1.1
   have lb_v7:=ov7.1
   subst al0
   subst al1
   show Tot (Zu3 v0 v1 v7 v9).den _
   dsimp only [Zu3,LT.den]
   have li:=i3.1.len
   have q1:=ov7.1
   refine tD (fun h2=>?_) (fun h2=>?_)
   ·exact tL ⟨rfl,rfl,ov0,ov1,ov7,cl,cl,cl,(by assumption),(by assumption),cl,(by first | exact RC_0 (by assumption) | (refine Zaqj (by assumption) (by assumption) (by assumption) (by assumption) (by assumption) (by assumption) ?_ ?_ ?_<;>grind) | (refine Zaiv (by assumption) (by assumption) (by assumption) (by assumption) ?_ ?_<;>grind))⟩ Z0h
   ·exact tR ⟨ov7,(by exact Zbjb (by assumption) (by omega))⟩
  | L2 v0 v1 v7 v9 v10=>
   obtain⟨al0,al1,ov0,ov1,ov7,cv10,cv9,bd7,i0,i1,i2,i3⟩:=hs
   have lb_v0:=ov0.1
   have lb_v1:=ov1.1
   have lb_v7:=ov7.1
   subst al0
   subst al1
   show Tot (Zu4 v0 v1 v7 v9 v10).den _
   dsimp only [Zu4,LT.den]
   have lx_0:v7.length*8≤140737488351232:=ov7.1
   have li:=i3.1.1.len
   have q1:=ov0.1
   refine tD (fun h2=>?_) (fun h2=>?_)
   ·refine tB (tI (by omega) (by omega)) (fun x3 h4=>?_)
    have mh4:=h4.2;have ch4:x3∈v0:=i3.1.1.2.1 _ h4.1
    refine tB (tI (by omega) (by omega)) (fun x5 h6=>?_)
    have mh6:=h6.2
    refine tB (Z3y v1 x3 x5 ov1 Z0i Z0i) (fun x7 h8=>?_)
    have eh8_0:=h8
    refine tF (fun h9=>?_) (fun h9=>?_)
    ·refine tB (Z7r v7 x5 ov7) (fun x10 h11=>?_)
     have eh11_0:=h11
     refine tO (fun h12=>?_) (fun h12=>?_)
     ·have q13:(SzL 8 (fun _=>True)) ([x5]:(List Int)):=⟨by simp only [List.length_cons,List.length_nil];omega,fun _ _=>trivial⟩
      have q16:=ov7.1
      refine tB (tA Zb0 (by decide)) (fun x14 h15=>?_)
      have lh15:x14.length=v7.length+1:=by rw [h15,List.length_append];rfl
      refine qw (v10+1) fun q17 q18=>?_
      exact tL ⟨rfl,rfl,ov0,ov1,⟨lo,fun _ _=>trivial⟩,cl,cl,cl,(by assumption),(by assumption),cl,(by first | exact RC_0 (by assumption) | (refine Zaqj (by assumption) (by assumption) (by assumption) (by assumption) (by assumption) (by assumption) ?_ ?_ ?_<;>grind) | (refine Zaiv (by assumption) (by assumption) (by assumption) (by assumption) ?_ ?_<;>grind))⟩ Z0h
     ·refine qw (v10+1) fun q19 q20=>?_
      exact tL ⟨rfl,rfl,ov0,ov1,ov7,cl,cl,cl,(by assumption),(by assumption),cl,(by first | exact RC_0 (by assumption) | (refine Zaqj (by assumption) (by assumption) (by assumption) (by assumption) (by assumption) (by assumption) ?_ ?_ ?_<;>grind) | (refine Zaiv (by assumption) (by assumption) (by assumption) (by assumption) ?_ ?_<;>grind))⟩ Z0h
    ·refine qw (v10+1) fun q21 q22=>?_
     exact tL ⟨rfl,rfl,ov0,ov1,ov7,cl,cl,cl,(by assumption),(by assumption),cl,(by first | exact RC_0 (by assumption) | (refine Zaqj (by assumption) (by assumption) (by assumption) (by assumption) (by assumption) (by assumption) ?_ ?_ ?_<;>grind) | (refine Zaiv (by assumption) (by assumption) (by assumption) (by assumption) ?_ ?_<;>grind))⟩ Z0h
   ·refine qw (v9+1) fun q23 q24=>?_
    exact tL ⟨rfl,rfl,ov0,ov1,ov7,cl,(by assumption),(by assumption),cl,tk48⟩ Z0h
abbrev Zaxc(a0:(List Int))(a1:(List (List Bool)))(r:(List Int)):Prop:=((SzL 8 (fun _=>True)) r)∧(∀ x,x∈r→x∈a0∧0≤x)∧(∀ x,x∈a0→0≤x→r≠[])
def Za1d(a0:(List Int))(a1:(List (List Bool))):Zly→Prop
 | .L0 v1 v5 v6 v7=>(v1=a1)∧((SzL 24 (SzL 1 (fun _=>True))) v1)∧((SzL 8 (fun _=>True)) v5)∧((SzL 8 (fun _=>True)) v6)∧(0≤v7)∧(∀ x,x∈v5→x∈a0∧0≤x)∧(∀ x,x∈a0→0≤x→x∈v5)∧(v5.Nodup)∧(v5.length≤10000)∧(v6.length≤v7.toNat)∧(∀ x,x∈v6→x∈v5)∧(∀ (k:Nat) x,(k:Int) < v7→v5[k]?=some x→RD v5 v1 x→x∈v6)
 | .L1 v1 v5 v6 v7 v8 v9=>(v1=a1)∧((SzL 24 (SzL 1 (fun _=>True))) v1)∧((SzL 8 (fun _=>True)) v5)∧((SzL 8 (fun _=>True)) v6)∧(0≤v9)∧(0≤v7)∧(v7 < (v5.length:Int))∧(∀ x,x∈v5→x∈a0∧0≤x)∧(∀ x,x∈a0→0≤x→x∈v5)∧(v5.Nodup)∧(v5.length≤10000)∧(v6.length≤v7.toNat)∧(∀ x,x∈v6→x∈v5)∧(∀ (k:Nat) x,(k:Int) < v7→v5[k]?=some x→RD v5 v1 x→x∈v6)∧(∀ x,v5[v7.toNat]?=some x→RD v5 v1 x→v8=true)
def Zah7:Zly→M6
 | .L0 v1 v5 v6 v7=>(1,((v5.length:Int) - v7).toNat,1000000,0,0,0)
 | .L1 v1 v5 v6 v7 v8 v9=>(1,((v5.length:Int) - v7).toNat,1,((v5.length:Int) - v9).toNat,1000000,0)
theorem Za1e(a0:(List Int))(a1:(List (List Bool)))(oa0:(SzL 8 (fun _=>True)) a0)(oa1:(SzL 24 (SzL 1 (fun _=>True))) a1)(h0:a0.length≤10000):Tot (Z43 a0 a1) (Zaxc a0 a1):=by
 unfold Z43
 refine tX (Inv:=(Za1d a0 a1)) (μ:=Zah7) (m:=(1000000,0,0,0,0,0)) ?_ ?_
 ·have lb_a0:=oa0.1
  have lb_a1:=oa1.1
  dsimp only [Zalx,LT.den]
  refine tB (Zao3 a0 oa0) (fun x1 h2=>?_)
  have eh2_1:=h2.2.1
  have eh2_2:=h2.2.2.1
  have eh2_3:=h2.2.2.2
  exact tL ⟨rfl,oa1,h2.1,SzL.nil,cl,Zan,Zan,Zan,cl,cl,tk74,tk14⟩ Z5a
 ·intro s hs
  cases s with
  | L0 v1 v5 v6 v7=>
   obtain⟨al0,ov1,ov5,ov6,cv7,i0,i1,i2,i3,i4,i5,i6⟩:=hs
   have lb_v1:=ov1.1
   have lb_v5:=ov5.1
   have lb_v6:=ov6.1
   subst al0
   show Tot (Z2x v1 v5 v6 v7).den _
   dsimp only [Z2x,LT.den]
   have q1:=ov5.1
   refine tD (fun h2=>?_) (fun h2=>?_)
   ·exact tL ⟨rfl,ov1,ov5,ov6,cl,cl,cl,Zan,Zan,Zan,cl,cl,Zan,Zan,tk7⟩ Z5a
   ·exact tR ⟨ov6,(by grind),(by exact Zbfi (by assumption) (by assumption) (by assumption) (by omega) (by omega) (fun y hy=>(Z5m v5 v1 y ov5 ov1 (i0 y hy).2 (fun x hx=>(i0 x hx).2) (by assumption) (by assumption)).imp fun r h=>h.2.2))⟩
  | L1 v1 v5 v6 v7 v8 v9=>
   obtain⟨al0,ov1,ov5,ov6,cv9,cv7,bd6,i0,i1,i2,i3,i4,i5,i6,i7⟩:=hs
   have lb_v1:=ov1.1
   have lb_v5:=ov5.1
   have lb_v6:=ov6.1
   subst al0
   show Tot (Z2y v1 v5 v6 v7 v8 v9).den _
   dsimp only [Z2y,LT.den]
   have lx_0:v5.length*8≤140737488351232:=ov5.1
   have q1:=ov5.1
   refine tD (fun h2=>?_) (fun h2=>?_)
   ·refine tN (fun h3=>?_) (fun h3=>?_)
    ·refine tB (tI (by omega) (by omega)) (fun x4 h5=>?_)
     have mh5:=h5.2;have ch5:=i0 _ h5.1
     refine tB (tI (by omega) (by omega)) (fun x6 h7=>?_)
     have mh7:=h7.2;have ch7:=i0 _ h7.1
     refine tB (Z3y v1 x4 x6 ov1 Z0i Z0i) (fun x8 h9=>?_)
     have eh9_0:=h9
     refine tF (fun h10=>?_) (fun h10=>?_)
     ·refine tB (Z5m v5 v1 x6 ov5 ov1 cl Zan Zan cl) (fun x11 h12=>?_)
      have eh12_1:=h12.2
      refine tB (Z7r x11 x4 h12.1) (fun x13 h14=>?_)
      have eh14_0:=h14
      refine tO (fun h15=>?_) (fun h15=>?_)
      ·refine qw (v9+1) fun q16 q17=>?_
       exact tL ⟨rfl,ov1,ov5,ov6,cl,cl,cl,Zan,Zan,Zan,cl,cl,Zan,Zan,tk7⟩ Z5a
      ·refine qw (v9+1) fun q18 q19=>?_
       exact tL ⟨rfl,ov1,ov5,ov6,cl,cl,cl,Zan,Zan,Zan,cl,cl,Zan,Zan,tk7⟩ Z5a
     ·refine qw (v9+1) fun q20 q21=>?_
      exact tL ⟨rfl,ov1,ov5,ov6,cl,cl,cl,Zan,Zan,Zan,cl,cl,Zan,Zan,tk7⟩ Z5a
    ·refine qw (v9+1) fun q22 q23=>?_
     exact tL ⟨rfl,ov1,ov5,ov6,cl,cl,cl,Zan,Zan,Zan,cl,cl,Zan,Zan,tk7⟩ Z5a
   ·refine tF (fun h24=>?_) (fun h24=>?_)
    ·refine tB (tI (by omega) (by omega)) (fun x25 h26=>?_)
     have mh26:=h26.2;have ch26:=i0 _ h26.1
     have q27:(SzL 8 (fun _=>True)) ([x25]:(List Int)):=⟨by simp only [List.length_cons,List.length_nil];omega,fun _ _=>trivial⟩
     have q30:=ov6.1
     refine tB (tA Zb0 (by decide)) (fun x28 h29=>?_)
     have lh29:x28.length=v6.length+1:=by rw [h29,List.length_append];rfl
     refine qw (v7+1) fun q31 q32=>?_
     exact tL ⟨rfl,ov1,ov5,⟨lo,fun _ _=>trivial⟩,cl,Zan,Zan,Zan,cl,cl,tk74,tk14⟩ Z5a
    ·refine qw (v7+1) fun q33 q34=>?_
     exact tL ⟨rfl,ov1,ov5,ov6,cl,Zan,Zan,Zan,cl,cl,tk74,tk14⟩ Z5a
theorem Zzr(a0:(List Int))(a1:Int)(oa0:(SzL 8 (fun _=>True)) a0)(h0:0≤a1):Tot (Zagu a0 a1) (fun r=>True):=by
 unfold Zagu
 refine tZ ?_
 have lb_a0:=oa0.1
 dsimp only [Zalz,LT.den]
 have q1:=oa0.1
 refine tD (fun h2=>?_) (fun h2=>?_)
 ·refine tB (tI (by omega) (by omega)) (fun x3 h4=>?_)
  exact tR trivial
 ·exact tR trivial
def Za61(a0:(List Int))(a1:(List Int))(a2:(List (List Bool))):Zsy→Prop
 | .L0 v1 v7 v8 v9=>(v1=a1)∧((SzL 8 (fun _=>True)) v1)∧((SzL 8 (fun _=>True)) v7)∧(0≤v9)∧(∀ x,x∈v7→x∈a0∧0≤x)∧(∀ x,x∈a0→0≤x→v7≠[])∧((v9=0∧v8 = -1)∨v8∈v7)
def Zamj:Zsy→M6
 | .L0 v1 v7 v8 v9=>(1,((v7.length:Int) - v9).toNat,1000000,0,0,0)
theorem Za62(a0:(List Int))(a1:(List Int))(a2:(List (List Bool)))(oa0:(SzL 8 (fun _=>True)) a0)(oa1:(SzL 8 (fun _=>True)) a1)(oa2:(SzL 24 (SzL 1 (fun _=>True))) a2)(h0:a0.length≤10000):Tot (Zan2 a0 a1 a2) (fun r=>(∀ x,x∈a0→0≤x→r∈a0∧0≤r)):=by
 unfold Zan2
 refine tX (Inv:=(Za61 a0 a1 a2)) (μ:=Zamj) (m:=(1000000,0,0,0,0,0)) ?_ ?_
 ·have lb_a0:=oa0.1
  have lb_a1:=oa1.1
  have lb_a2:=oa2.1
  dsimp only [Zasy,LT.den]
  refine tB (Za1e a0 a2 oa0 oa2 cl) (fun x1 h2=>?_)
  have eh2_1:=h2.2.1
  have eh2_2:=h2.2.2
  exact tL ⟨rfl,oa1,h2.1,cl,Zan,Zan,tk79⟩ Zaiy
 ·intro s hs
  cases s with
  | L0 v1 v7 v8 v9=>
   obtain⟨al0,ov1,ov7,cv9,i0,i1,i2⟩:=hs
   have lb_v1:=ov1.1
   have lb_v7:=ov7.1
   subst al0
   show Tot (Z6z v1 v7 v8 v9).den _
   dsimp only [Z6z,LT.den]
   have q1:=ov7.1
   refine tD (fun h2=>?_) (fun h2=>?_)
   ·refine tB (tI (by omega) (by omega)) (fun x3 h4=>?_)
    have mh4:=h4.2;have ch4:=i0 _ h4.1
    refine tB (Zzr v1 x3 ov1 Z0i) (fun x5 h6=>?_)
    refine tD (fun h7=>?_) (fun h7=>?_)
    ·refine qw (v9+1) fun q8 q9=>?_
     exact tL ⟨rfl,ov1,ov7,cl,Zan,Zan,tk79⟩ Zaiy
    ·refine tB (Zzr v1 v8 ov1 Z0i) (fun x10 h11=>?_)
     refine tD (fun h12=>?_) (fun h12=>?_)
     ·refine qw (v9+1) fun q13 q14=>?_
      exact tL ⟨rfl,ov1,ov7,cl,Zan,Zan,tk79⟩ Zaiy
     ·refine tB (Zzr v1 v8 ov1 Z0i) (fun x15 h16=>?_)
      refine tE (fun h17=>?_) (fun h17=>?_)
      ·refine tD (fun h18=>?_) (fun h18=>?_)
       ·refine qw (v9+1) fun q19 q20=>?_
        exact tL ⟨rfl,ov1,ov7,cl,Zan,Zan,tk79⟩ Zaiy
       ·refine qw (v9+1) fun q21 q22=>?_
        exact tL ⟨rfl,ov1,ov7,cl,Zan,Zan,tk79⟩ Zaiy
      ·refine qw (v9+1) fun q23 q24=>?_
       exact tL ⟨rfl,ov1,ov7,cl,Zan,Zan,tk79⟩ Zaiy
   ·exact tR (by intro x hx h0;have:=List.length_pos_iff.2 (i1 x hx h0);grind)
def Za63(a0:Zc)(a1:(List Int))(a2:Int):Zkk→Prop
 | .L0 v1 v2 E0 v7 v8 v9=>(E0=a0)∧(v1=a1)∧((SzL 8 (fun _=>True)) v1)∧(Z5 E0)∧((SzL 8 (fun _=>True)) v7)∧((SzL 24 (SzL 1 (fun _=>True))) v8)∧(0≤v9)∧(∀ x,x∈v1→0≤x∧x < (E0.L.length:Int))∧(E0.All.length=E0.S.Objects.length)∧(E0.Blank.length=E0.S.Objects.length)∧(E0.Begun.length=E0.L.length)∧(E0.Sets.length=E0.L.length)∧(E0.S.Objects.length≤60)∧(E0.L.length≤10000)∧(v1.length≤10000)∧(v8.length=v9.toNat)∧(∀ y,y∈v8→y.length=E0.L.length)∧(v9.toNat≤E0.L.length)∧(v7.length≤v9.toNat)
 | .L1 v1 v2 E0 v7 v8 v10=>(E0=a0)∧(v1=a1)∧((SzL 8 (fun _=>True)) v1)∧(Z5 E0)∧((SzL 8 (fun _=>True)) v7)∧((SzL 24 (SzL 1 (fun _=>True))) v8)∧(0≤v10)∧(∀ x,x∈v1→0≤x∧x < (E0.L.length:Int))∧(E0.All.length=E0.S.Objects.length)∧(E0.Blank.length=E0.S.Objects.length)∧(E0.Begun.length=E0.L.length)∧(E0.Sets.length=E0.L.length)∧(E0.S.Objects.length≤60)∧(E0.L.length≤10000)∧(v1.length≤10000)∧(v8.length=E0.L.length)∧(∀ y,y∈v8→y.length=E0.L.length)
 | .L2 v1 v2 E0 v7 v8 v10 v11=>(E0=a0)∧(v1=a1)∧((SzL 8 (fun _=>True)) v1)∧(Z5 E0)∧((SzL 8 (fun _=>True)) v7)∧((SzL 24 (SzL 1 (fun _=>True))) v8)∧(0≤v11)∧(0≤v10)∧(v10 < (v1.length:Int))∧(∀ x,x∈v1→0≤x∧x < (E0.L.length:Int))∧(E0.All.length=E0.S.Objects.length)∧(E0.Blank.length=E0.S.Objects.length)∧(E0.Begun.length=E0.L.length)∧(E0.Sets.length=E0.L.length)∧(E0.S.Objects.length≤60)∧(E0.L.length≤10000)∧(v1.length≤10000)∧(v8.length=E0.L.length)∧(∀ y,y∈v8→y.length=E0.L.length)
def Zamk:Zkk→M6
 | .L0 v1 v2 E0 v7 v8 v9=>(3,((E0.L.length:Int) - v9).toNat,1000000,0,0,0)
 | .L1 v1 v2 E0 v7 v8 v10=>(1,((v1.length:Int) - v10).toNat,1000000,0,0,0)
 | .L2 v1 v2 E0 v7 v8 v10 v11=>(1,((v1.length:Int) - v10).toNat,1,((v1.length:Int) - v11).toNat,1000000,0)
theorem Za64(a0:Zc)(a1:(List Int))(a2:Int)(oa0:Z5 a0)(oa1:(SzL 8 (fun _=>True)) a1)(h0:a0.All.length=a0.S.Objects.length)(h1:a0.Blank.length=a0.S.Objects.length)(h2:a0.Begun.length=a0.L.length)(h3:a0.Sets.length=a0.L.length)(h4:a0.S.Objects.length≤60)(h5:a0.L.length≤10000)(h6:∀ x,x∈a1→0≤x∧x < (a0.L.length:Int))(h7:a1.length≤10000):Tot (Zan3 a0 a1 a2) (fun r=>(∀ x,x∈a1→r∈a1)):=by
 unfold Zan3
 refine tX (Inv:=(Za63 a0 a1 a2)) (μ:=Zamk) (m:=(1000000,0,0,0,0,0)) ?_ ?_
 ·have lb_a1:=oa1.1
  dsimp only [Zas0,LT.den]
  exact tL ⟨rfl,rfl,oa1,oa0,SzL.nil,SzL.nil,cl,Zan,cl,cl,cl,cl,cl,cl,cl,cl,tk30,cl,cl⟩ Zaiz
 ·intro s hs
  cases s with
  | L0 v1 v2 E0 v7 v8 v9=>
   obtain⟨al0,al1,ov1,O0,ov7,ov8,cv9,i0,i1,i2,i3,i4,i5,i6,i7,i8,i9,i10,i11⟩:=hs
   have lb_v1:=ov1.1
   have lb_v7:=ov7.1
   have lb_v8:=ov8.1
   subst al0
   subst al1
   show Tot (Z60 v1 v2 E0 v7 v8 v9).den _
   dsimp only [Z60,LT.den]
   have q1:=O0.2.2.1.1
   refine tD (fun h2=>?_) (fun h2=>?_)
   ·refine tB (tI (by omega) (by omega)) (fun x3 h4=>?_)
    have oh4:Zah x3:=O0.2.2.1.2 x3 h4.1
    have q5:(SzL 8 (fun _=>True)) ([x3.Stamp]:(List Int)):=⟨by simp only [List.length_cons,List.length_nil];omega,fun _ _=>trivial⟩
    have q8:=ov7.1
    refine tB (tA Zb0 (by decide)) (fun x6 h7=>?_)
    have lh7:x6.length=v7.length+1:=by rw [h7,List.length_append];rfl
    refine tB (Tot.make ⟨by omega,by omega,by omega,by omega⟩) (fun x9 h10=>?_)
    have lh10:=h10.1
    have q11:(SzL 24 (SzL 1 (fun _=>True))) ([x9]:(List (List Bool))):=⟨by simp only [List.length_cons,List.length_nil];omega,(mem_cons' ⟨lo,fun _ _=>trivial⟩ (fun _ h=>by cases h))⟩
    have q14:=ov8.1
    refine tB (tA Zb0 (by decide)) (fun x12 h13=>?_)
    have lh13:x12.length=v8.length+1:=by rw [h13,List.length_append];rfl
    refine qw (v9+1) fun q15 q16=>?_
    exact tL ⟨rfl,rfl,ov1,O0,⟨lo,fun _ _=>trivial⟩,(SzL.app (k:=24) h13 lo ov8.2 q11.2),cl,Zan,cl,cl,cl,cl,cl,cl,cl,cl,tk30,cl,cl⟩ Zaiz
   ·exact tL ⟨rfl,rfl,ov1,O0,ov7,ov8,cl,Zan,cl,cl,cl,cl,cl,cl,cl,cl,tk30⟩ Zaiz
  | L1 v1 v2 E0 v7 v8 v10=>
   obtain⟨al0,al1,ov1,O0,ov7,ov8,cv10,i0,i1,i2,i3,i4,i5,i6,i7,i8,i9⟩:=hs
   have lb_v1:=ov1.1
   have lb_v7:=ov7.1
   have lb_v8:=ov8.1
   subst al0
   subst al1
   show Tot (Z61 v1 v2 E0 v7 v8 v10).den _
   dsimp only [Z61,LT.den]
   have q1:=ov1.1
   refine tD (fun h2=>?_) (fun h2=>?_)
   ·exact tL ⟨rfl,rfl,ov1,O0,ov7,ov8,cl,cl,cl,Zan,cl,cl,cl,cl,cl,cl,cl,cl,tk30⟩ Zaiz
   ·refine tB (Za62 v1 v7 v8 ov1 ov7 ov8 cl) (fun x3 h4=>?_)
    have eh4_0:=h4
    exact tR (by grind)
  | L2 v1 v2 E0 v7 v8 v10 v11=>
   obtain⟨al0,al1,ov1,O0,ov7,ov8,cv11,cv10,bd8,i0,i1,i2,i3,i4,i5,i6,i7,i8,i9⟩:=hs
   have lb_v1:=ov1.1
   have lb_v7:=ov7.1
   have lb_v8:=ov8.1
   subst al0
   subst al1
   show Tot (Z62 v1 v2 E0 v7 v8 v10 v11).den _
   dsimp only [Z62,LT.den]
   have lx_0:v1.length*8≤140737488351232:=ov1.1
   have q1:=ov1.1
   refine tD (fun h2=>?_) (fun h2=>?_)
   ·refine tB (tI (by omega) (by omega)) (fun x3 h4=>?_)
    have ch4:=i0 _ h4.1
    refine tB (tI (by omega) (by omega)) (fun x5 h6=>?_)
    have oh6:(SzL 1 (fun _=>True)) x5:=ov8.2 x5 h6.1
    have mh6:=h6.1;have nh6:=i9 _ h6.1
    refine tB (tI (by omega) (by omega)) (fun x7 h8=>?_)
    have ch8:=i0 _ h8.1
    refine tB (Za1c E0 x3 x7 v2 O0 cl cl cl cl cl cl cl cl cl cl) (fun x9 h10=>?_)
    refine tB (tI (by omega) (by omega)) (fun x11 h12=>?_)
    refine tB (Tot.setM) (fun x13 h14=>?_)
    have lh14:x13.length=v8.length:=by rw [h14,List.length_set]
    refine qw (v11+1) fun q15 q16=>?_
    exact tL ⟨rfl,rfl,ov1,O0,ov7,(SzL.setM h14 ov8 oh6),cl,cl,cl,Zan,cl,cl,cl,cl,cl,cl,cl,cl,tk30⟩ Zaiz
   ·refine qw (v10+1) fun q17 q18=>?_
    exact tL ⟨rfl,rfl,ov1,O0,ov7,ov8,cl,Zan,cl,cl,cl,cl,cl,cl,cl,cl,tk30⟩ Zaiz
abbrev Zao5(a0:(List Int))(a1:Int)(r:(List Int)):Prop:=((SzL 8 (fun _=>True)) r)∧(r=a0.filter fun y=>y != a1)
def Zaub(a0:(List Int))(a1:Int):Zlf→Prop
 | .L0 v0 v1 v5 v6=>(v0=a0)∧(v1=a1)∧((SzL 8 (fun _=>True)) v0)∧((SzL 8 (fun _=>True)) v5)∧(0≤v6)∧(v5.length≤v6.toNat)∧(v6.toNat≤v0.length)∧(v5=(v0.take v6.toNat).filter fun y=>y != v1)
def Z9k:Zlf→M6
 | .L0 v0 v1 v5 v6=>(1,((v0.length:Int) - v6).toNat,1000000,0,0,0)
theorem Zauc(a0:(List Int))(a1:Int)(oa0:(SzL 8 (fun _=>True)) a0):Tot (Z63 a0 a1) (Zao5 a0 a1):=by
 unfold Z63
 refine tX (Inv:=(Zaub a0 a1)) (μ:=Z9k) (m:=(1000000,0,0,0,0,0)) ?_ ?_
 ·have lb_a0:=oa0.1
  dsimp only [Zac1,LT.den]
  exact tL ⟨rfl,rfl,oa0,SzL.nil,cl,cl,cl,tk13⟩ Zbbj
 ·intro s hs
  cases s with
  | L0 v0 v1 v5 v6=>
   obtain⟨al0,al1,ov0,ov5,cv6,i0,i1,i2⟩:=hs
   have lb_v0:=ov0.1
   have lb_v5:=ov5.1
   subst al0
   subst al1
   show Tot (Zu5 v0 v1 v5 v6).den _
   dsimp only [Zu5,LT.den]
   have q1:=ov0.1
   refine tD (fun h2=>?_) (fun h2=>?_)
   ·refine tB (tI (by omega) (by omega)) (fun x3 h4=>?_)
    have mh4:=h4.2
    refine tN (fun h5=>?_) (fun h5=>?_)
    ·have q6:(SzL 8 (fun _=>True)) ([x3]:(List Int)):=⟨by simp only [List.length_cons,List.length_nil];omega,fun _ _=>trivial⟩
     have q9:=ov5.1
     refine tB (tA Zb0 (by decide)) (fun x7 h8=>?_)
     have lh8:x7.length=v5.length+1:=by rw [h8,List.length_append];rfl
     refine qw (v6+1) fun q10 q11=>?_
     exact tL ⟨rfl,rfl,ov0,⟨lo,fun _ _=>trivial⟩,cl,cl,cl,tk13⟩ Zbbj
    ·refine qw (v6+1) fun q12 q13=>?_
     exact tL ⟨rfl,rfl,ov0,ov5,cl,cl,cl,tk13⟩ Zbbj
   ·exact tR ⟨ov5,(by exact Zbhw (by assumption) (by omega))⟩
abbrev Zaud(a0:Zc)(a1:Int)(r:(Zc×(List Int))):Prop:=(Z5 r.1)∧((SzL 8 (fun _=>True)) r.2)∧(r.1.S.Objects.length=a0.S.Objects.length)∧(r.1.L.length=a0.L.length)∧(r.1.All.length=r.1.S.Objects.length)∧(r.1.Blank.length=r.1.S.Objects.length)∧(r.1.Begun.length=r.1.L.length)∧(r.1.Sets.length=r.1.L.length)
def Zaxd(a0:Zc)(a1:Int):Zjk→Prop
 | .L0 v1 E0 E1 v6 v7=>(v1=a1)∧(Z5 E0)∧(Z5 E1)∧((SzL 8 (fun _=>True)) v6)∧(0≤v7)∧(E0.S.Objects.length=a0.S.Objects.length)∧(E0.L.length=a0.L.length)∧(E0.All.length=E0.S.Objects.length)∧(E0.Blank.length=E0.S.Objects.length)∧(E0.Begun.length=E0.L.length)∧(E0.Sets.length=E0.L.length)∧(a0.S.Objects.length≤60)∧(a0.L.length≤10000)∧(v6.Nodup)∧(∀ x,x∈v6→0≤x∧x < v7)∧(v6.length≤v7.toNat)∧(v7.toNat≤E0.L.length)
 | .L1 v1 E0 E1 v6 v8 v9 v10=>(v1=a1)∧(Z5 E0)∧(Z5 E1)∧((SzL 8 (fun _=>True)) v6)∧((SzL 8 (fun _=>True)) v8)∧(0≤v10)∧(E0.S.Objects.length=a0.S.Objects.length)∧(E0.L.length=a0.L.length)∧(E0.All.length=E0.S.Objects.length)∧(E0.Blank.length=E0.S.Objects.length)∧(E0.Begun.length=E0.L.length)∧(E0.Sets.length=E0.L.length)∧(a0.S.Objects.length≤60)∧(a0.L.length≤10000)∧(v6.Nodup)∧(∀ x,x∈v6→0≤x∧x < (E0.L.length:Int))∧((v6.length:Int)=v9 - v10)∧(v10≤v9)∧(v9≤10000)∧(v8.length≤v10.toNat)
def Zadk:Zjk→M6
 | .L0 v1 E0 E1 v6 v7=>(3,((E0.L.length:Int) - v7).toNat,1000000,0,0,0)
 | .L1 v1 E0 E1 v6 v8 v9 v10=>(1,(v9 - v10).toNat,1000000,0,0,0)
theorem Zaxe(a0:Zc)(a1:Int)(oa0:Z5 a0)(h0:a0.All.length=a0.S.Objects.length)(h1:a0.Blank.length=a0.S.Objects.length)(h2:a0.Begun.length=a0.L.length)(h3:a0.Sets.length=a0.L.length)(h4:a0.S.Objects.length≤60)(h5:a0.L.length≤10000):Tot (Zaaq a0 a1) (Zaud a0 a1):=by
 unfold Zaaq
 refine tX (Inv:=(Zaxd a0 a1)) (μ:=Zadk) (m:=(1000000,0,0,0,0,0)) ?_ ?_
 ·dsimp only [Zagv,LT.den]
  refine tE (fun h1=>?_) (fun h1=>?_)
  ·refine tB (Zat4 a0 oa0 cl cl cl cl cl cl) (fun x2 h3=>?_)
   have eh3_1:=h3.2.1
   have eh3_2:=h3.2.2.1
   have eh3_3:=h3.2.2.2.1
   have eh3_4:=h3.2.2.2.2.1
   have eh3_5:=h3.2.2.2.2.2.1
   have eh3_6:=h3.2.2.2.2.2.2
   exact tL ⟨rfl,h3.1,⟨⟨SzL.nil,SzL.nil,SzL.nil,SzL.nil,SzL.nil,SzL.nil,SzL.nil,SzL.nil⟩,SzL.nil,SzL.nil,SzL.nil,SzL.nil,SzL.nil⟩,SzL.nil,cl,cl,cl,cl,cl,cl,cl,cl,cl,tk16,tk60,cl,cl⟩ Zaix
  ·exact tL ⟨rfl,oa0,⟨⟨SzL.nil,SzL.nil,SzL.nil,SzL.nil,SzL.nil,SzL.nil,SzL.nil,SzL.nil⟩,SzL.nil,SzL.nil,SzL.nil,SzL.nil,SzL.nil⟩,SzL.nil,cl,cl,cl,cl,cl,cl,cl,cl,cl,tk16,tk60,cl,cl⟩ Zaix
 ·intro s hs
  cases s with
  | L0 v1 E0 E1 v6 v7=>
   obtain⟨al0,O0,O1,ov6,cv7,i0,i1,i2,i3,i4,i5,i6,i7,i8,i9,i10,i11⟩:=hs
   have lb_v6:=ov6.1
   subst al0
   show Tot (Zyl v1 E0 E1 v6 v7).den _
   dsimp only [Zyl,LT.den]
   have q1:=O0.2.2.1.1
   refine tD (fun h2=>?_) (fun h2=>?_)
   ·refine tB (tI (by omega) (by omega)) (fun x3 h4=>?_)
    have oh4:Zah x3:=O0.2.2.1.2 x3 h4.1
    refine tB (Zat6 x3 v1 oh4) (fun x5 h6=>?_)
    refine tF (fun h7=>?_) (fun h7=>?_)
    ·have q8:(SzL 8 (fun _=>True)) ([v7]:(List Int)):=⟨by simp only [List.length_cons,List.length_nil];omega,fun _ _=>trivial⟩
     have q11:=ov6.1
     refine tB (tA Zb0 (by decide)) (fun x9 h10=>?_)
     have lh10:x9.length=v6.length+1:=by rw [h10,List.length_append];rfl
     refine qw (v7+1) fun q12 q13=>?_
     exact tL ⟨rfl,O0,O1,⟨lo,fun _ _=>trivial⟩,cl,cl,cl,cl,cl,cl,cl,cl,cl,tk16,tk60,cl,cl⟩ Zaix
    ·refine qw (v7+1) fun q14 q15=>?_
     exact tL ⟨rfl,O0,O1,ov6,cl,cl,cl,cl,cl,cl,cl,cl,cl,tk16,tk60,cl,cl⟩ Zaix
   ·have q16:=ov6.1
    exact tL ⟨rfl,O0,O1,ov6,SzL.nil,cl,cl,cl,cl,cl,cl,cl,cl,cl,tk16,(by intro x hx;have:=i9 x;grind),cl,cl,cl,cl⟩ Zaix
  | L1 v1 E0 E1 v6 v8 v9 v10=>
   obtain⟨al0,O0,O1,ov6,ov8,cv10,i0,i1,i2,i3,i4,i5,i6,i7,i8,i9,i10,i11,i12,i13⟩:=hs
   have lb_v6:=ov6.1
   have lb_v8:=ov8.1
   subst al0
   show Tot (Zym v1 E0 E1 v6 v8 v9 v10).den _
   dsimp only [Zym,LT.den]
   refine tD (fun h1=>?_) (fun h1=>?_)
   ·refine tB (Za64 E0 v6 v1 O0 ov6 cl cl cl cl cl cl Zan cl) (fun x2 h3=>?_)
    have eh3_0:=h3
    have dh3:x2∈v6:=(List.exists_mem_of_length_pos (l:=v6) (by omega)).elim fun y hy=>eh3_0 y hy;have gh3:=i9 _ dh3
    have q4:(SzL 8 (fun _=>True)) ([x2]:(List Int)):=⟨by simp only [List.length_cons,List.length_nil];omega,fun _ _=>trivial⟩
    have q7:=ov8.1
    refine tB (tA Zb0 (by decide)) (fun x5 h6=>?_)
    have lh6:x5.length=v8.length+1:=by rw [h6,List.length_append];rfl
    refine tB (Z5k E0 x2 v1 O0 cl cl cl cl cl cl cl cl) (fun x8 h9=>?_)
    have eh9_1:=h9.2.1
    have eh9_2:=h9.2.2.1
    have eh9_3:=h9.2.2.2.1
    have eh9_4:=h9.2.2.2.2.1
    have eh9_5:=h9.2.2.2.2.2.1
    have eh9_6:=h9.2.2.2.2.2.2
    refine tB (Zauc v6 x2 ov6) (fun x10 h11=>?_)
    have eh11_1:=h11.2
    have wh11:x10.length+1=v6.length:=by rw [eh11_1];exact Za7n (by assumption) (by assumption)
    refine qw (v10+1) fun q12 q13=>?_
    exact tL ⟨rfl,h9.1,O1,h11.1,⟨lo,fun _ _=>trivial⟩,cl,cl,cl,cl,cl,cl,cl,cl,cl,tk16,(by intro x hx;have:=i9 x;grind),cl,cl,cl,cl⟩ Zaix
   ·exact tR ⟨O0,ov8,cl,cl,cl,cl,cl,cl⟩
def Za8o(a0:(List Zq))(a1:Zb):Zxt→Prop
 | .L0 E0 v6=>(Z5 E0)∧(0≤v6)∧(E0.All.length=E0.S.Objects.length)∧(E0.Blank.length=E0.S.Objects.length)∧(E0.Begun.length=E0.L.length)∧(E0.Sets.length=E0.L.length)∧(E0.S.Objects.length≤60)∧(E0.L.length≤10000)∧(E0.S.Objects.length=a1.Objects.length)
def Zabg:Zxt→M6
 | .L0 E0 v6=>(1,(8+1 - v6).toNat,1000000,0,0,0)
theorem Zp4(a0:(List Zq))(a1:Zb)(oa0:(SzL 176 Zal) a0)(oa1:Zw a1)(h0:∀ c,c∈a0→c.Abilities.length≤8)(h1:a1.Objects.length≤60)(h2:a1.Conts.length≤8):Tot (Zav6 a0 a1) (fun r=>((SzL 176 Zv) r)∧(r.length=a1.Objects.length)):=by
 unfold Zav6
 refine tX (Inv:=(Za8o a0 a1)) (μ:=Zabg) (m:=(1000000,0,0,0,0,0)) ?_ ?_
 ·have lb_a0:=oa0.1
  dsimp only [Zazd,LT.den]
  refine tB (Za03 a0 a1 oa0 oa1 Zan cl cl) (fun x1 h2=>?_)
  have eh2_1:=h2.2.1
  have eh2_2:=h2.2.2.1
  have eh2_3:=h2.2.2.2.1
  have eh2_4:=h2.2.2.2.2.1
  have eh2_5:=h2.2.2.2.2.2.1
  have eh2_6:=h2.2.2.2.2.2.2
  exact tL ⟨h2.1,cl,cl,cl,cl,cl,cl,cl,cl⟩ (by unfold Zabg lt6;dsimp only;omega)
 ·intro s hs
  cases s with
  | L0 E0 v6=>
   obtain⟨O0,cv6,i0,i1,i2,i3,i4,i5,i6⟩:=hs
   show Tot (Zaar E0 v6).den _
   dsimp only [Zaar,LT.den]
   refine tD (fun h1=>?_) (fun h1=>?_)
   ·refine tB (Zaxe E0 v6 O0 cl cl cl cl cl cl) (fun x2 h3=>?_)
    have eh3_2:=h3.2.2.1
    have eh3_3:=h3.2.2.2.1
    have eh3_4:=h3.2.2.2.2.1
    have eh3_5:=h3.2.2.2.2.2.1
    have eh3_6:=h3.2.2.2.2.2.2.1
    have eh3_7:=h3.2.2.2.2.2.2.2
    refine qw (v6+1) fun q4 q5=>?_
    exact tL ⟨h3.1,cl,cl,cl,cl,cl,cl,cl,cl⟩ (by unfold Zabg lt6;dsimp only;omega)
   ·exact tR ⟨O0.2.1,cl⟩
def Zaxf(a0:Zb):Zng→Prop
 | .L0 E0 v3 v4=>(E0=a0)∧(Zw E0)∧((SzL 8 (fun _=>True)) v3)∧(0≤v4)∧(v3=Zvg E0.Players v4)∧(v3.length≤v4.toNat)∧(v4≤(E0.Players.length:Int))
def Zadl:Zng→M6
 | .L0 E0 v3 v4=>(1,((E0.Players.length:Int) - v4).toNat,1000000,0,0,0)
theorem Zaxg(a0:Zb)(oa0:Zw a0):Tot (Z0d a0) (fun r=>((SzL 8 (fun _=>True)) r)∧(r=Zyv a0.Players)):=by
 unfold Z0d
 refine tX (Inv:=(Zaxf a0)) (μ:=Zadl) (m:=(1000000,0,0,0,0,0)) ?_ ?_
 ·dsimp only [Zagx,LT.den]
  exact tL ⟨rfl,oa0,SzL.nil,cl,tk10,cl,cl⟩ Zbbl
 ·intro s hs
  cases s with
  | L0 E0 v3 v4=>
   obtain⟨al0,O0,ov3,cv4,i0,i1,i2⟩:=hs
   have lb_v3:=ov3.1
   subst al0
   show Tot (Zyn E0 v3 v4).den _
   dsimp only [Zyn,LT.den]
   have q1:=O0.1.1
   refine tD (fun h2=>?_) (fun h2=>?_)
   ·refine tB (tI (by omega) (by omega)) (fun x3 h4=>?_)
    have oh4:Zcv x3:=O0.1.2 x3 h4.1
    have mh4:=h4.2
    refine tO (fun h5=>?_) (fun h5=>?_)
    ·have q6:(SzL 8 (fun _=>True)) ([v4]:(List Int)):=⟨by simp only [List.length_cons,List.length_nil];omega,fun _ _=>trivial⟩
     have q9:=ov3.1
     refine tB (tA Zb0 (by decide)) (fun x7 h8=>?_)
     have lh8:x7.length=v3.length+1:=by rw [h8,List.length_append];rfl
     refine qw (v4+1) fun q10 q11=>?_
     exact tL ⟨rfl,O0,⟨lo,fun _ _=>trivial⟩,cl,tk10,cl,cl⟩ Zbbl
    ·refine qw (v4+1) fun q12 q13=>?_
     exact tL ⟨rfl,O0,ov3,cl,tk10,cl,cl⟩ Zbbl
   ·exact tR ⟨ov3,(by exact Za51 (by assumption) (by omega) (by omega))⟩
def Za1f(a0:Zb)(a1:Int):Zpx→Prop
 | .L0 v1 E0 v5=>(E0=a0)∧(v1=a1)∧(Zw E0)∧(0≤v5)∧(NoId E0.Objects v1 v5)
def Z3z:Zpx→M6
 | .L0 v1 E0 v5=>(1,((E0.Objects.length:Int) - v5).toNat,1000000,0,0,0)
theorem Za1g(a0:Zb)(a1:Int)(oa0:Zw a0):Tot (Zagz a0 a1) (fun r=>(r=ixO a0.Objects a1)):=by
 unfold Zagz
 refine tX (Inv:=(Za1f a0 a1)) (μ:=Z3z) (m:=(1000000,0,0,0,0,0)) ?_ ?_
 ·dsimp only [Zal1,LT.den]
  exact tL ⟨rfl,rfl,oa0,cl,tk37⟩ (by unfold Z3z lt6;dsimp only;omega)
 ·intro s hs
  cases s with
  | L0 v1 E0 v5=>
   obtain⟨al0,al1,O0,cv5,i0⟩:=hs
   subst al0
   subst al1
   show Tot (Z20 v1 E0 v5).den _
   dsimp only [Z20,LT.den]
   have q1:=O0.2.1.1
   refine tD (fun h2=>?_) (fun h2=>?_)
   ·refine tB (tI (by omega) (by omega)) (fun x3 h4=>?_)
    have mh4:=h4.2
    refine tE (fun h5=>?_) (fun h5=>?_)
    ·exact tR tk24
    ·refine qw (v5+1) fun q6 q7=>?_
     exact tL ⟨rfl,rfl,O0,cl,tk37⟩ (by unfold Z3z lt6;dsimp only;omega)
   ·exact tR tk24
theorem Zaxh(a0:Zb)(a1:(List Za))(a2:Int)(a3:Int)(oa0:Zw a0)(oa1:(SzL 176 Zv) a1)(h0:a2 < (a0.Objects.length:Int)):Tot (Zaas a0 a1 a2 a3) (fun r=>(∀ x,0≤a2→a0.Objects[a2.toNat]?=some x→r=(decide (x.Zone=0)&&(kwB (trV a1 a2).Keys 2048&&decide ((trV a1 a2).Control≠a3))))):=by
 unfold Zaas
 refine tZ ?_
 have lb_a1:=oa1.1
 dsimp only [Zag0,LT.den]
 refine tD (fun h1=>?_) (fun h1=>?_)
 ·have q2:=oa1.1
  refine tD (fun h3=>?_) (fun h3=>?_)
  ·refine tB (tI (by omega) (by omega)) (fun x4 h5=>?_)
   have mh5:=h5.2
   refine tE (fun h6=>?_) (fun h6=>?_)
   ·refine tB (tI (by omega) (by omega)) (fun x7 h8=>?_)
    have oh8:Zv x7:=oa1.2 x7 h8.1
    have mh8:=h8.2
    refine tB (Zwh x7.Keys 2048) (fun x9 h10=>?_)
    have eh10_0:=h10
    refine tF (fun h11=>?_) (fun h11=>?_)
    ·exact tR Zath
    ·exact tR Zath
   ·exact tR Zath
  ·exact tR Zath
 ·exact tR Zath
abbrev Zadm(a0:Zb)(a1:(List Za))(a2:Zj)(a3:Zr)(r:(List Zi)):Prop:=((SzL 24 (fun _=>True)) r)∧(r.length≤64)∧(r=lgV a0 a1 a2 a3)
def Z30(a0:Zb)(a1:(List Za))(a2:Zj)(a3:Zr):Zkl→Prop
 | .L0 v1 E0 E1 E2 v9 v10 v11=>(v1=a1)∧(E0=a0)∧(E1=a2)∧(E2=a3)∧((SzL 176 Zv) v1)∧(Zw E0)∧(Zat E1)∧(Zas E2)∧((SzL 24 (fun _=>True)) v9)∧((SzL 8 (fun _=>True)) v10)∧(0≤v11)∧(E0.Objects.length≤60)∧(v10.length≤4)∧(v10=Zyv E0.Players)∧(E2.Player=true)∧(v9.length≤v11.toNat)∧(v11≤(v10.length:Int))∧(v9=(v10.take v11.toNat).map fun x=>(⟨6,x,0⟩:Zi))
 | .L1 v1 E0 E1 E2 v9=>(v1=a1)∧(E0=a0)∧(E1=a2)∧(E2=a3)∧((SzL 176 Zv) v1)∧(Zw E0)∧(Zat E1)∧(Zas E2)∧((SzL 24 (fun _=>True)) v9)∧(E0.Objects.length≤60)∧(v9.length≤4)∧(v9=lgP E0 E2)
 | .L2 v1 E0 E1 v9 v12 v13=>(v1=a1)∧(E0=a0)∧(E1=a2)∧((SzL 176 Zv) v1)∧(Zw E0)∧(Zat E1)∧((SzL 24 (fun _=>True)) v9)∧((SzL 8 (fun _=>True)) v12)∧(0≤v13)∧(E0.Objects.length≤60)∧(v12.length≤60)∧(v9.length≤4+v13.toNat)∧(v13≤(v12.length:Int))∧(a3.Object=true)∧(v12=Zs6 E0 v1 E1.You E1.Source a3.Filter)∧(v9=lgP E0 a3++((v12.take v13.toNat).filter fun id => !Zjo E0 v1 E1.You E1.Source id).map fun x=>(⟨5,x,0⟩:Zi))
def Zp5:Zkl→M6
 | .L0 v1 E0 E1 E2 v9 v10 v11=>(3,((v10.length:Int) - v11).toNat,1000000,0,0,0)
 | .L1 v1 E0 E1 E2 v9=>(2,0,0,0,0,0)
 | .L2 v1 E0 E1 v9 v12 v13=>(1,((v12.length:Int) - v13).toNat,1000000,0,0,0)
theorem Ztt(a0:Zb)(a1:(List Za))(a2:Zj)(a3:Zr)(v1:(List Za))(E0:Zb)(E1:Zj)(E2:Zr)(v9:(List Zi))(h:(Z30 a0 a1 a2 a3) (.L1 v1 E0 E1 E2 v9)):Tot (Zpy v1 E0 E1 E2 v9).den (Nx (Z30 a0 a1 a2 a3) Zp5 (2,0,0,0,0,0) (Zadm a0 a1 a2 a3)):=by
 obtain⟨al0,al1,al2,al3,ov1,O0,O1,O2,ov9,i0,i1,i2⟩:=h
 have lb_v1:=ov1.1
 have lb_v9:=ov9.1
 subst al0
 subst al1
 subst al2
 subst al3
 dsimp only [Zpy,LT.den]
 refine tO (fun h1=>?_) (fun h1=>?_)
 ·exact tR ⟨ov9,cl,tk18⟩
 ·refine tB (Zah4 E0 v1 E1.You E1.Source E2.Filter O0 ov1 O2) (fun x2 h3=>?_)
  have eh3_1:=h3.2
  have lh3:x2.length≤E0.Objects.length:=by rw [eh3_1];exact Zazl ..
  exact tL ⟨rfl,rfl,rfl,ov1,O0,O1,ov9,h3.1,cl,cl,cl,cl,cl,Zan,(by assumption),tk0⟩ Z5b
theorem Ztu(a0:Zb)(a1:(List Za))(a2:Zj)(a3:Zr)(oa0:Zw a0)(oa1:(SzL 176 Zv) a1)(oa2:Zat a2)(oa3:Zas a3)(h0:a0.Objects.length≤60)(h1:a0.Players.length≤4):Tot (Zaat a0 a1 a2 a3) (Zadm a0 a1 a2 a3):=by
 unfold Zaat
 refine tX (Inv:=(Z30 a0 a1 a2 a3)) (μ:=Zp5) (m:=(1000000,0,0,0,0,0)) ?_ ?_
 ·have lb_a1:=oa1.1
  dsimp only [Zas3,LT.den]
  refine tF (fun h1=>?_) (fun h1=>?_)
  ·refine tB (Zaxg a0 oa0) (fun x2 h3=>?_)
   have eh3_1:=h3.2
   have lh3:x2.length≤a0.Players.length:=by rw [eh3_1];exact Zbf3 _
   exact tL ⟨rfl,rfl,rfl,rfl,oa1,oa0,oa2,oa3,SzL.nil,h3.1,cl,cl,cl,(by assumption),(by assumption),cl,cl,tk51⟩ Z5b
  ·exact tJ (Ztt a0 a1 a2 a3 a1 a0 a2 a3 ([]:(List Zi)) ⟨rfl,rfl,rfl,rfl,oa1,oa0,oa2,oa3,SzL.nil,cl,cl,tk28⟩)
 ·intro s hs
  cases s with
  | L0 v1 E0 E1 E2 v9 v10 v11=>
   obtain⟨al0,al1,al2,al3,ov1,O0,O1,O2,ov9,ov10,cv11,i0,i1,i2,i3,i4,i5,i6⟩:=hs
   have lb_v1:=ov1.1
   have lb_v9:=ov9.1
   have lb_v10:=ov10.1
   subst al0
   subst al1
   subst al2
   subst al3
   show Tot (Z64 v1 E0 E1 E2 v9 v10 v11).den _
   dsimp only [Z64,LT.den,Zp5]
   have q1:=ov10.1
   refine tD (fun h2=>?_) (fun h2=>?_)
   ·refine tB (tI (by omega) (by omega)) (fun x3 h4=>?_)
    have mh4:=h4.2
    have q5:(SzL 24 (fun _=>True)) ([(⟨6,x3,0⟩:Zi)]:(List Zi)):=⟨by simp only [List.length_cons,List.length_nil];omega,fun _ _=>trivial⟩
    have q8:=ov9.1
    refine tB (tA Zb0 (by decide)) (fun x6 h7=>?_)
    have lh7:x6.length=v9.length+1:=by rw [h7,List.length_append];rfl
    refine qw (v11+1) fun q9 q10=>?_
    exact tL ⟨rfl,rfl,rfl,rfl,ov1,O0,O1,O2,⟨lo,fun _ _=>trivial⟩,ov10,cl,cl,cl,(by assumption),(by assumption),cl,cl,tk51⟩ Z5b
   ·exact tJ (Ztt E0 v1 E1 E2 v1 E0 E1 E2 v9 ⟨rfl,rfl,rfl,rfl,ov1,O0,O1,O2,ov9,cl,cl,tk28⟩)
  | L1 v1 E0 E1 E2 v9=>exact Ztt a0 a1 a2 a3 v1 E0 E1 E2 v9 hs
  | L2 v1 E0 E1 v9 v12 v13=>
   obtain⟨al0,al1,al2,ov1,O0,O1,ov9,ov12,cv13,i0,i1,i2,i3,i4,i5,i6⟩:=hs
   have lb_v1:=ov1.1
   have lb_v9:=ov9.1
   have lb_v12:=ov12.1
   subst al0
   subst al1
   subst al2
   show Tot (Z65 v1 E0 E1 v9 v12 v13).den _
   dsimp only [Z65,LT.den,Zp5]
   have q1:=ov12.1
   refine tD (fun h2=>?_) (fun h2=>?_)
   ·refine tB (tI (by omega) (by omega)) (fun x3 h4=>?_)
    have mh4:=h4.2
    refine tB (Za1g E0 x3 O0) (fun x5 h6=>?_)
    have eh6_0:=h6
    have lh6:=Za5z E0.Objects x3
    refine tD (fun h7=>?_) (fun h7=>?_)
    ·refine qw (v13+1) fun q8 q9=>?_
     exact tL ⟨rfl,rfl,rfl,ov1,O0,O1,ov9,ov12,cl,cl,cl,cl,cl,Zan,(by assumption),tk0⟩ Z5b
    ·refine tB (Zaxh E0 v1 x5 E1.You O0 ov1 cl) (fun x10 h11=>?_)
     have eh11_0:=h11
     refine tF (fun h12=>?_) (fun h12=>?_)
     ·refine qw (v13+1) fun q13 q14=>?_
      exact tL ⟨rfl,rfl,rfl,ov1,O0,O1,ov9,ov12,cl,cl,cl,cl,cl,Zan,(by assumption),tk0⟩ Z5b
     ·refine tE (fun h15=>?_) (fun h15=>?_)
      ·refine tB (tI (by omega) (by omega)) (fun x16 h17=>?_)
       have mh17:=h17.2
       refine tE (fun h18=>?_) (fun h18=>?_)
       ·refine qw (v13+1) fun q19 q20=>?_
        exact tL ⟨rfl,rfl,rfl,ov1,O0,O1,ov9,ov12,cl,cl,cl,cl,cl,Zan,(by assumption),tk0⟩ Z5b
       ·have q21:(SzL 24 (fun _=>True)) ([(⟨5,x3,0⟩:Zi)]:(List Zi)):=⟨by simp only [List.length_cons,List.length_nil];omega,fun _ _=>trivial⟩
        have q24:=ov9.1
        refine tB (tA Zb0 (by decide)) (fun x22 h23=>?_)
        have lh23:x22.length=v9.length+1:=by rw [h23,List.length_append];rfl
        refine qw (v13+1) fun q25 q26=>?_
        exact tL ⟨rfl,rfl,rfl,ov1,O0,O1,⟨lo,fun _ _=>trivial⟩,ov12,cl,cl,cl,cl,cl,Zan,(by assumption),tk0⟩ Z5b
      ·have q27:(SzL 24 (fun _=>True)) ([(⟨5,x3,0⟩:Zi)]:(List Zi)):=⟨by simp only [List.length_cons,List.length_nil];omega,fun _ _=>trivial⟩
       have q30:=ov9.1
       refine tB (tA Zb0 (by decide)) (fun x28 h29=>?_)
       have lh29:x28.length=v9.length+1:=by rw [h29,List.length_append];rfl
       refine qw (v13+1) fun q31 q32=>?_
       exact tL ⟨rfl,rfl,rfl,ov1,O0,O1,⟨lo,fun _ _=>trivial⟩,ov12,cl,cl,cl,cl,cl,Zan,(by assumption),tk0⟩ Z5b
   ·exact tR ⟨ov9,cl,tk18⟩
def Zbcc(a0:Zb)(a1:(List Za))(a2:Zj)(a3:Zr)(a4:Zf):Z21→Prop
 | .L0 E0 v12 v13=>((SzL 24 (fun _=>True)) v12)∧(0≤v13)∧(v12=lgV a0 a1 a2 a3)∧(E0=opV a4)∧(∀ (k:Nat) y,(k:Int) < v13→v12[k]?=some y→y≠E0)
def Zazr:Z21→M6
 | .L0 E0 v12 v13=>(1,((v12.length:Int) - v13).toNat,1000000,0,0,0)
theorem Zaue(a0:Zb)(a1:(List Za))(a2:Zj)(a3:Zr)(a4:Zf)(oa0:Zw a0)(oa1:(SzL 176 Zv) a1)(oa2:Zat a2)(oa3:Zas a3)(h0:a0.Objects.length≤60)(h1:a0.Players.length≤4):Tot (Za5o a0 a1 a2 a3 a4) (fun r=>(r=isV a0 a1 a2 a3 a4)):=by
 unfold Za5o
 refine tX (Inv:=(Zbcc a0 a1 a2 a3 a4)) (μ:=Zazr) (m:=(1000000,0,0,0,0,0)) ?_ ?_
 ·have lb_a1:=oa1.1
  dsimp only [Za5m,LT.den]
  refine tN (fun h1=>?_) (fun h1=>?_)
  ·refine tB (Ztu a0 a1 a2 a3 oa0 oa1 oa2 oa3 cl cl) (fun x2 h3=>?_)
   have eh3_1:=h3.2.1
   have eh3_2:=h3.2.2
   exact tL ⟨h3.1,cl,(by assumption),tk66,tk36⟩ Zbbu
  ·refine tB (Ztu a0 a1 a2 a3 oa0 oa1 oa2 oa3 cl cl) (fun x4 h5=>?_)
   have eh5_1:=h5.2.1
   have eh5_2:=h5.2.2
   exact tL ⟨h5.1,cl,(by assumption),tk66,tk36⟩ Zbbu
 ·intro s hs
  cases s with
  | L0 E0 v12 v13=>
   obtain⟨ov12,cv13,i0,i1,i2⟩:=hs
   have lb_v12:=ov12.1
   show Tot (Zag2 E0 v12 v13).den _
   dsimp only [Zag2,LT.den]
   have q1:=ov12.1
   refine tD (fun h2=>?_) (fun h2=>?_)
   ·refine tB (tI (by omega) (by omega)) (fun x3 h4=>?_)
    have mh4:=h4.2
    refine tF (fun h5=>?_) (fun h5=>?_)
    ·exact tR tk21
    ·refine qw (v13+1) fun q6 q7=>?_
     exact tL ⟨ov12,cl,(by assumption),tk66,tk36⟩ Zbbu
   ·exact tR tk21
def Zah8(a0:(List Zq))(a1:Zb)(a2:Z0):Zfl→Prop
 | .L0 E0 E1 v7 v8=>(E0=a1)∧(E1=a2)∧(Zw E0)∧(Za9 E1)∧((SzL 176 Zv) v7)∧(0≤v8)∧(E0.Objects.length≤60)∧(E0.Players.length≤4)
 | .L1 E0 E1 v7 v8 v9=>(E0=a1)∧(E1=a2)∧(Zw E0)∧(Za9 E1)∧((SzL 176 Zv) v7)∧(0≤v9)∧(0≤v8)∧(v8 < (E1.Specs.length:Int))∧(E0.Objects.length≤60)∧(E0.Players.length≤4)
def Zz3:Zfl→M6
 | .L0 E0 E1 v7 v8=>(1,((E1.Specs.length:Int) - v8).toNat,1000000,0,0,0)
 | .L1 E0 E1 v7 v8 v9=>(1,((E1.Specs.length:Int) - v8).toNat,1,((E1.Targets.length:Int) - v9).toNat,1000000,0)
theorem Zah9(a0:(List Zq))(a1:Zb)(a2:Z0)(oa0:(SzL 176 Zal) a0)(oa1:Zw a1)(oa2:Za9 a2):Tot (Zu6 a0 a1 a2) (fun r=>(r=true)):=by
 unfold Zu6
 refine tX (Inv:=(Zah8 a0 a1 a2)) (μ:=Zz3) (m:=(1000000,0,0,0,0,0)) ?_ ?_
 ·have lb_a0:=oa0.1
  dsimp only [Z22,LT.den]
  refine tB (Zll a0 a1 oa0 oa1) (fun x1 h2=>?_)
  have eh2_0:=h2.1
  have eh2_1:=h2.2
  refine tO (fun h3=>?_) (fun h3=>?_)
  ·refine tB (Zbv) (fun x4 h5=>?_)
   have eh5_0:=h5
   exact tR Zeq
  ·have h3_0:=eh2_0 h3
   have h3_1:=eh2_1 h3
   refine tB (Zp3 a2 oa2) (fun x6 h7=>?_)
   have eh7_0:=h7
   refine tO (fun h8=>?_) (fun h8=>?_)
   ·refine tB (Zbv) (fun x9 h10=>?_)
    have eh10_0:=h10
    exact tR Zeq
   ·have h8_0:=eh7_0 h8
    refine tB (Zp4 a0 a1 oa0 oa1 Zan cl cl) (fun x11 h12=>?_)
    have eh12_1:=h12.2
    exact tL ⟨rfl,rfl,oa1,oa2,h12.1,cl,cl,cl⟩ tk87
 ·intro s hs
  cases s with
  | L0 E0 E1 v7 v8=>
   obtain⟨al0,al1,O0,O1,ov7,cv8,i0,i1⟩:=hs
   have lb_v7:=ov7.1
   subst al0
   subst al1
   show Tot (Zoq E0 E1 v7 v8).den _
   dsimp only [Zoq,LT.den]
   have q1:=O1.2.1.1
   refine tD (fun h2=>?_) (fun h2=>?_)
   ·refine tB (tI (by omega) (by omega)) (fun x3 h4=>?_)
    have oh4:Zas x3:=O1.2.1.2 x3 h4.1
    have mh4:=h4.2
    refine tB (Zf3 E0 v7 E1.Ctx x3 O0 ov7 O1.1 oh4 cl cl) (fun x5 h6=>?_)
    have eh6_1:=h6.2.1
    have eh6_2:=h6.2.2
    refine tB (Ztu E0 v7 E1.Ctx x3 O0 ov7 O1.1 oh4 cl cl) (fun x7 h8=>?_)
    have eh8_1:=h8.2.1
    have eh8_2:=h8.2.2
    refine tB (Z5j x5 x7 h6.1 h8.1) (fun x9 h10=>?_)
    have eh10_0:=h10
    refine tO (fun h11=>?_) (fun h11=>?_)
    ·exact tR Zeq
    ·exact tL ⟨rfl,rfl,O0,O1,ov7,cl,cl,cl,cl,cl⟩ tk87
   ·refine tB (Zbv) (fun x12 h13=>?_)
    have eh13_0:=h13
    exact tR Zeq
  | L1 E0 E1 v7 v8 v9=>
   obtain⟨al0,al1,O0,O1,ov7,cv9,cv8,bd7,i0,i1⟩:=hs
   have lb_v7:=ov7.1
   subst al0
   subst al1
   show Tot (Zor E0 E1 v7 v8 v9).den _
   dsimp only [Zor,LT.den]
   have lx_0:E1.Specs.length*144≤140737488351232:=O1.2.1.1
   have q1:=O1.2.2.1.1
   refine tD (fun h2=>?_) (fun h2=>?_)
   ·refine tB (tI (by omega) (by omega)) (fun x3 h4=>?_)
    have oh4:Zas x3:=O1.2.1.2 x3 h4.1
    have mh4:=h4.2
    refine tB (tI (by omega) (by omega)) (fun x5 h6=>?_)
    have mh6:=h6.2
    refine tB (Zlp E0 v7 E1.Ctx x3 x5 O0 ov7 O1.1 oh4 cl cl) (fun x7 h8=>?_)
    have eh8_0:=h8
    refine tB (Zaue E0 v7 E1.Ctx x3 x5 O0 ov7 O1.1 oh4 cl cl) (fun x9 h10=>?_)
    have eh10_0:=h10
    refine tO (fun h11=>?_) (fun h11=>?_)
    ·exact tR Zeq
    ·refine qw (v9+1) fun q12 q13=>?_
     exact tL ⟨rfl,rfl,O0,O1,ov7,cl,cl,cl,cl,cl⟩ tk87
   ·refine qw (v8+1) fun q14 q15=>?_
    exact tL ⟨rfl,rfl,O0,O1,ov7,cl,cl,cl⟩ tk87
abbrev Za1h(a0:Zb)(a1:(List Za))(a2:Zj)(a3:(List Zr))(a4:(List Zf))(r:((List Zf)×Bool)):Prop:=((SzL 16 (fun _=>True)) r.1)∧(r.1.length≤a4.length)∧(r.1=kpV a0 a1 a2 a3 a4)∧(r.2=okV a0 a1 a2 a3 a4 a4.length)
def Za65(a0:Zb)(a1:(List Za))(a2:Zj)(a3:(List Zr))(a4:(List Zf)):Zs0→Prop
 | .L0 v1 v3 v4 E0 E1 v12 v13 v14=>(v1=a1)∧(v3=a3)∧(E0=a0)∧(E1=a2)∧(v4=a4)∧((SzL 176 Zv) v1)∧((SzL 144 Zas) v3)∧((SzL 16 (fun _=>True)) v4)∧(Zw E0)∧(Zat E1)∧((SzL 16 (fun _=>True)) v12)∧(0≤v14)∧(E0.Objects.length≤60)∧(E0.Players.length≤4)∧(v4.length≤1000000)∧(v12.length≤v14.toNat)∧(v14≤(v4.length:Int))∧(v12=kpN E0 v1 E1 v3 v4 v14)∧(v13=okV E0 v1 E1 v3 v4 v14)
def Zaml:Zs0→M6
 | .L0 v1 v3 v4 E0 E1 v12 v13 v14=>(1,((v4.length:Int) - v14).toNat,1000000,0,0,0)
theorem Za66(a0:Zb)(a1:(List Za))(a2:Zj)(a3:(List Zr))(a4:(List Zf))(oa0:Zw a0)(oa1:(SzL 176 Zv) a1)(oa2:Zat a2)(oa3:(SzL 144 Zas) a3)(oa4:(SzL 16 (fun _=>True)) a4)(h0:a0.Objects.length≤60)(h1:a0.Players.length≤4)(h2:a4.length≤1000000):Tot (Zaau a0 a1 a2 a3 a4) (Za1h a0 a1 a2 a3 a4):=by
 unfold Zaau
 refine tX (Inv:=(Za65 a0 a1 a2 a3 a4)) (μ:=Zaml) (m:=(1000000,0,0,0,0,0)) ?_ ?_
 ·have lb_a1:=oa1.1
  have lb_a3:=oa3.1
  have lb_a4:=oa4.1
  dsimp only [Zas5,LT.den]
  have q1:=oa4.1
  exact tL ⟨rfl,rfl,rfl,rfl,rfl,oa1,oa3,oa4,oa0,oa2,SzL.nil,cl,cl,cl,cl,cl,cl,tk2,tk4⟩ Za16
 ·intro s hs
  cases s with
  | L0 v1 v3 v4 E0 E1 v12 v13 v14=>
   obtain⟨al0,al1,al2,al3,al4,ov1,ov3,ov4,O0,O1,ov12,cv14,i0,i1,i2,i3,i4,i5,i6⟩:=hs
   have lb_v1:=ov1.1
   have lb_v3:=ov3.1
   have lb_v4:=ov4.1
   have lb_v12:=ov12.1
   subst al0
   subst al1
   subst al2
   subst al3
   subst al4
   show Tot (Z66 v1 v3 v4 E0 E1 v12 v13 v14).den _
   dsimp only [Z66,LT.den]
   have q1:=ov4.1
   refine tD (fun h2=>?_) (fun h2=>?_)
   ·have q3:=ov3.1
    refine tD (fun h4=>?_) (fun h4=>?_)
    ·refine tB (tI (by omega) (by omega)) (fun x5 h6=>?_)
     have oh6:Zas x5:=ov3.2 x5 h6.1
     have mh6:=h6.2
     refine tB (tI (by omega) (by omega)) (fun x7 h8=>?_)
     have mh8:=h8.2
     refine tB (Zaue E0 v1 E1 x5 x7 O0 ov1 O1 oh6 cl cl) (fun x9 h10=>?_)
     have eh10_0:=h10
     refine tF (fun h11=>?_) (fun h11=>?_)
     ·have q12:(SzL 16 (fun _=>True)) ([x7]:(List Zf)):=⟨by simp only [List.length_cons,List.length_nil];omega,fun _ _=>trivial⟩
      have q15:=ov12.1
      refine tB (tA Zb0 (by decide)) (fun x13 h14=>?_)
      have lh14:x13.length=v12.length+1:=by rw [h14,List.length_append];rfl
      refine qw (v14+1) fun q16 q17=>?_
      exact tL ⟨rfl,rfl,rfl,rfl,rfl,ov1,ov3,ov4,O0,O1,⟨lo,fun _ _=>trivial⟩,cl,cl,cl,cl,cl,cl,tk2,tk4⟩ Za16
     ·have q18:(SzL 16 (fun _=>True)) ([(⟨(-1),(-1)⟩:Zf)]:(List Zf)):=⟨by simp only [List.length_cons,List.length_nil];omega,fun _ _=>trivial⟩
      have q21:=ov12.1
      refine tB (tA Zb0 (by decide)) (fun x19 h20=>?_)
      have lh20:x19.length=v12.length+1:=by rw [h20,List.length_append];rfl
      refine qw (v14+1) fun q22 q23=>?_
      exact tL ⟨rfl,rfl,rfl,rfl,rfl,ov1,ov3,ov4,O0,O1,⟨lo,fun _ _=>trivial⟩,cl,cl,cl,cl,cl,cl,tk2,tk4⟩ Za16
    ·have q24:(SzL 16 (fun _=>True)) ([(⟨(-1),(-1)⟩:Zf)]:(List Zf)):=⟨by simp only [List.length_cons,List.length_nil];omega,fun _ _=>trivial⟩
     have q27:=ov12.1
     refine tB (tA Zb0 (by decide)) (fun x25 h26=>?_)
     have lh26:x25.length=v12.length+1:=by rw [h26,List.length_append];rfl
     refine qw (v14+1) fun q28 q29=>?_
     exact tL ⟨rfl,rfl,rfl,rfl,rfl,ov1,ov3,ov4,O0,O1,⟨lo,fun _ _=>trivial⟩,cl,cl,cl,cl,cl,cl,tk2,tk4⟩ Za16
   ·exact tR ⟨ov12,cl,(by exact Za9f (v:=v14) (by assumption) (by omega)),(by exact Za9h (v:=v14) (by assumption) (by omega))⟩
def Zauf(a0:(List Zf))(a1:(List Zf)):Zlg→Prop
 | .L0 v0 v1 v5=>(v0=a0)∧(v1=a1)∧((SzL 16 (fun _=>True)) v0)∧((SzL 16 (fun _=>True)) v1)∧(0≤v5)∧(v0.length=v1.length)∧(∀ k:Nat,(k:Int) < v5→v0[k]?=v1[k]?)
def Zvt:Zlg→M6
 | .L0 v0 v1 v5=>(1,((v0.length:Int) - v5).toNat,1000000,0,0,0)
theorem Ztv(a0:(List Zf))(a1:(List Zf))(oa0:(SzL 16 (fun _=>True)) a0)(oa1:(SzL 16 (fun _=>True)) a1):Tot (Z67 a0 a1) (fun r=>(r=true↔a0=a1)):=by
 unfold Z67
 refine tX (Inv:=(Zauf a0 a1)) (μ:=Zvt) (m:=(1000000,0,0,0,0,0)) ?_ ?_
 ·have lb_a0:=oa0.1
  have lb_a1:=oa1.1
  dsimp only [Zac3,LT.den]
  have q1:=oa0.1
  have q2:=oa1.1
  refine tN (fun h3=>?_) (fun h3=>?_)
  ·exact tR tk12
  ·exact tL ⟨rfl,rfl,oa0,oa1,cl,cl,tk23⟩ (by unfold Zvt lt6;dsimp only;omega)
 ·intro s hs
  cases s with
  | L0 v0 v1 v5=>
   obtain⟨al0,al1,ov0,ov1,cv5,i0,i1⟩:=hs
   have lb_v0:=ov0.1
   have lb_v1:=ov1.1
   subst al0
   subst al1
   show Tot (Zu7 v0 v1 v5).den _
   dsimp only [Zu7,LT.den]
   have q1:=ov0.1
   refine tD (fun h2=>?_) (fun h2=>?_)
   ·refine tB (tI (by omega) (by omega)) (fun x3 h4=>?_)
    have mh4:=h4.2
    refine tB (tI (by omega) (by omega)) (fun x5 h6=>?_)
    have mh6:=h6.2
    refine tO (fun h7=>?_) (fun h7=>?_)
    ·exact tR tk12
    ·refine qw (v5+1) fun q8 q9=>?_
     exact tL ⟨rfl,rfl,ov0,ov1,cl,cl,tk23⟩ (by unfold Zvt lt6;dsimp only;omega)
   ·exact tR tk12
theorem Zaia(a0:(List Zq))(a1:Zb)(a2:Z0)(oa0:(SzL 176 Zal) a0)(oa1:Zw a1)(oa2:Za9 a2):Tot (Zu9 a0 a1 a2) (fun r=>(r=true)):=by
 unfold Zu9
 refine tZ ?_
 have lb_a0:=oa0.1
 dsimp only [Z24,LT.den]
 refine tB (Zll a0 a1 oa0 oa1) (fun x1 h2=>?_)
 have eh2_0:=h2.1
 have eh2_1:=h2.2
 refine tO (fun h3=>?_) (fun h3=>?_)
 ·refine tB (Zbv) (fun x4 h5=>?_)
  have eh5_0:=h5
  exact tR Zeq
 ·have h3_0:=eh2_0 h3
  have h3_1:=eh2_1 h3
  refine tB (Zp3 a2 oa2) (fun x6 h7=>?_)
  have eh7_0:=h7
  refine tO (fun h8=>?_) (fun h8=>?_)
  ·refine tB (Zbv) (fun x9 h10=>?_)
   have eh10_0:=h10
   exact tR Zeq
  ·have h8_0:=eh7_0 h8
   refine tB (Zp4 a0 a1 oa0 oa1 Zan cl cl) (fun x11 h12=>?_)
   have eh12_1:=h12.2
   refine tB (Ztn a1 x11 a2.Ctx a2.Specs a2.Targets oa1 h12.1 oa2.1 oa2.2.1 oa2.2.2.1 cl cl cl) (fun x13 h14=>?_)
   have eh14_1:=h14.2.1
   have eh14_2:=h14.2.2.1
   have eh14_3:=h14.2.2.2
   refine tB (Za66 a1 x11 a2.Ctx a2.Specs a2.Targets oa1 h12.1 oa2.1 oa2.2.1 oa2.2.2.1 cl cl cl) (fun x15 h16=>?_)
   have eh16_1:=h16.2.1
   have eh16_2:=h16.2.2.1
   have eh16_3:=h16.2.2.2
   refine tB (Ztv x13.1 x15.1 h14.1 h16.1) (fun x17 h18=>?_)
   have eh18_0:=h18
   refine tF (fun h19=>?_) (fun h19=>?_)
   ·refine tF (fun h20=>?_) (fun h20=>?_)
    ·refine tB (Zbv) (fun x21 h22=>?_)
     have eh22_0:=h22
     exact tR Zeq
    ·exact tR Zeq
   ·exact tR Zeq
def Zadx(a0:(List Zq))(a1:Zb)(a2:Z0):Zgi→Prop
 | .L0 E0 E1 v7 v8 v10=>(E0=a1)∧(E1=a2)∧(Zw E0)∧(Za9 E1)∧((SzL 176 Zv) v7)∧((SzL 16 (fun _=>True)) v8)∧(0≤v10)∧(E0.Objects.length≤60)∧(E0.Players.length≤4)∧(v8.length≤1000000)∧(v8.length=E1.Specs.length)∧(LegT E0 v7 E1.Ctx E1.Specs v8)
def Znv:Zgi→M6
 | .L0 E0 E1 v7 v8 v10=>(1,((v8.length:Int) - v10).toNat,1000000,0,0,0)
theorem Zady(a0:(List Zq))(a1:Zb)(a2:Z0)(oa0:(SzL 176 Zal) a0)(oa1:Zw a1)(oa2:Za9 a2):Tot (Zs1 a0 a1 a2) (fun r=>(r=true)):=by
 unfold Zs1
 refine tX (Inv:=(Zadx a0 a1 a2)) (μ:=Znv) (m:=(1000000,0,0,0,0,0)) ?_ ?_
 ·have lb_a0:=oa0.1
  dsimp only [Zzy,LT.den]
  refine tB (Zll a0 a1 oa0 oa1) (fun x1 h2=>?_)
  have eh2_0:=h2.1
  have eh2_1:=h2.2
  refine tO (fun h3=>?_) (fun h3=>?_)
  ·refine tB (Zbv) (fun x4 h5=>?_)
   have eh5_0:=h5
   exact tR Zeq
  ·have h3_0:=eh2_0 h3
   have h3_1:=eh2_1 h3
   refine tB (Zp3 a2 oa2) (fun x6 h7=>?_)
   have eh7_0:=h7
   refine tO (fun h8=>?_) (fun h8=>?_)
   ·refine tB (Zbv) (fun x9 h10=>?_)
    have eh10_0:=h10
    exact tR Zeq
   ·have h8_0:=eh7_0 h8
    refine tB (Zp4 a0 a1 oa0 oa1 Zan cl cl) (fun x11 h12=>?_)
    have eh12_1:=h12.2
    refine tB (Z7m a2.Answers oa2.2.2.2) (fun x13 h14=>?_)
    have eh14_1:=h14.2.1
    have eh14_2:=h14.2.2
    refine tB (Zip x13 a1 x11 a2.Ctx a2.Specs h14.1 oa1 h12.1 oa2.1 oa2.2.1 cl cl cl cl cl) (fun x15 h16=>?_)
    have eh16_2:=h16.2.2.1
    try simp only [List.length_nil,List.length_cons,Nat.zero_add] at eh16_2
    have eh16_3:=h16.2.2.2.1
    have eh16_4:=h16.2.2.2.2.1
    have eh16_5:=h16.2.2.2.2.2
    try simp only [List.length_nil,List.length_cons,Nat.zero_add] at eh16_5
    have ch16:=Zbig (by assumption:Ids a1.Objects).1 (by assumption:_=chG a1 _ _ _ [] _);have dh16:=ch16.1;have fh16:=ch16.2
    refine tO (fun h17=>?_) (fun h17=>?_)
    ·have q18:=h16.1.1
     refine tE (fun h19=>?_) (fun h19=>?_)
     ·refine tB (Zbv) (fun x20 h21=>?_)
      have eh21_0:=h21
      exact tR Zeq
     ·exact tR Zeq
    ·have q22:=h16.1.1
     have q23:=oa2.2.1.1
     refine tN (fun h24=>?_) (fun h24=>?_)
     ·exact tR Zeq
     ·exact tL ⟨rfl,rfl,oa1,oa2,h12.1,h16.1,cl,cl,cl,cl,cl,tk65⟩ (by unfold Znv lt6;dsimp only;omega)
 ·intro s hs
  cases s with
  | L0 E0 E1 v7 v8 v10=>
   obtain⟨al0,al1,O0,O1,ov7,ov8,cv10,i0,i1,i2,i3,i4⟩:=hs
   have lb_v7:=ov7.1
   have lb_v8:=ov8.1
   subst al0
   subst al1
   show Tot (Znh E0 E1 v7 v8 v10).den _
   dsimp only [Znh,LT.den]
   have q1:=ov8.1
   refine tD (fun h2=>?_) (fun h2=>?_)
   ·refine tB (tI (by omega) (by omega)) (fun x3 h4=>?_)
    have oh4:Zas x3:=O1.2.1.2 x3 h4.1
    have mh4:=h4.2
    refine tB (tI (by omega) (by omega)) (fun x5 h6=>?_)
    have mh6:=h6.2
    refine tB (Zlp E0 v7 E1.Ctx x3 x5 O0 ov7 O1.1 oh4 cl cl) (fun x7 h8=>?_)
    have eh8_0:=h8
    have wh8:=Zbjy (by assumption:LegT E0 v7 E1.Ctx E1.Specs v8) (by assumption) (by assumption) (by assumption:x7=_)
    refine tO (fun h9=>?_) (fun h9=>?_)
    ·exact tR Zeq
    ·refine qw (v10+1) fun q10 q11=>?_
     exact tL ⟨rfl,rfl,O0,O1,ov7,ov8,cl,cl,cl,cl,cl,tk65⟩ (by unfold Znv lt6;dsimp only;omega)
   ·refine tB (Ztn E0 v7 E1.Ctx E1.Specs v8 O0 ov7 O1.1 O1.2.1 ov8 cl cl cl) (fun x12 h13=>?_)
    have eh13_1:=h13.2.1
    have eh13_2:=h13.2.2.1
    have eh13_3:=h13.2.2.2
    have k1h13:x12.1=v8:=(by assumption:x12.1=kpV _ _ _ _ _).trans (Zbjv (by assumption));have k2h13:x12.2=true:=(by assumption:x12.2=okV _ _ _ _ _ _).trans (Zbjw (by assumption))
    refine tB (Ztv v8 x12.1 ov8 h13.1) (fun x14 h15=>?_)
    have eh15_0:=h15
    refine tF (fun h16=>?_) (fun h16=>?_)
    ·refine tF (fun h17=>?_) (fun h17=>?_)
     ·refine tB (Zbv) (fun x18 h19=>?_)
      have eh19_0:=h19
      exact tR Zeq
     ·exact tR Zeq
    ·exact tR Zeq
def Zabh(a0:(List Zq))(a1:Zb)(a2:Z0):Zc2→Prop
 | .L0 E0 E1 v7 v8=>(E0=a1)∧(E1=a2)∧(Zw E0)∧(Za9 E1)∧((SzL 176 Zv) v7)∧(0≤v8)∧(E0.Objects.length≤60)∧(E0.Players.length≤4)∧(Ids E0.Objects)
 | .L1 E0 E1 v7 v8 E2 v10=>(E0=a1)∧(E1=a2)∧(Zw E0)∧(Za9 E1)∧((SzL 176 Zv) v7)∧(0≤v10)∧(0≤v8)∧(E0.Objects.length≤60)∧(E0.Players.length≤4)∧(v8 < (E0.Objects.length:Int))∧(Ids E0.Objects)∧(WdT E0 v7 E1.Ctx v8 E2)
 | .L2 E0 E1 v7 v11=>(E0=a1)∧(E1=a2)∧(Zw E0)∧(Za9 E1)∧((SzL 176 Zv) v7)∧(0≤v11)∧(E0.Objects.length≤60)∧(E0.Players.length≤4)
 | .L3 E0 E1 v7 v11 v12=>(E0=a1)∧(E1=a2)∧(Zw E0)∧(Za9 E1)∧((SzL 176 Zv) v7)∧(0≤v12)∧(0≤v11)∧(v11 < (E0.Players.length:Int))∧(E0.Objects.length≤60)∧(E0.Players.length≤4)
def Zt5:Zc2→M6
 | .L0 E0 E1 v7 v8=>(3,((E0.Objects.length:Int) - v8).toNat,1000000,0,0,0)
 | .L1 E0 E1 v7 v8 E2 v10=>(3,((E0.Objects.length:Int) - v8).toNat,1,((E1.Specs.length:Int) - v10).toNat,1000000,0)
 | .L2 E0 E1 v7 v11=>(1,((E0.Players.length:Int) - v11).toNat,1000000,0,0,0)
 | .L3 E0 E1 v7 v11 v12=>(1,((E0.Players.length:Int) - v11).toNat,1,((E1.Specs.length:Int) - v12).toNat,1000000,0)
theorem Zabi(a0:(List Zq))(a1:Zb)(a2:Z0)(oa0:(SzL 176 Zal) a0)(oa1:Zw a1)(oa2:Za9 a2):Tot (Zqv a0 a1 a2) (fun r=>(r=true)):=by
 unfold Zqv
 refine tX (Inv:=(Zabh a0 a1 a2)) (μ:=Zt5) (m:=(1000000,0,0,0,0,0)) ?_ ?_
 ·have lb_a0:=oa0.1
  dsimp only [Zxu,LT.den]
  refine tB (Zll a0 a1 oa0 oa1) (fun x1 h2=>?_)
  have eh2_0:=h2.1
  have eh2_1:=h2.2
  refine tO (fun h3=>?_) (fun h3=>?_)
  ·refine tB (Zbv) (fun x4 h5=>?_)
   have eh5_0:=h5
   exact tR Zeq
  ·have h3_0:=eh2_0 h3
   have h3_1:=eh2_1 h3
   refine tB (Zp3 a2 oa2) (fun x6 h7=>?_)
   have eh7_0:=h7
   refine tO (fun h8=>?_) (fun h8=>?_)
   ·refine tB (Zbv) (fun x9 h10=>?_)
    have eh10_0:=h10
    exact tR Zeq
   ·have h8_0:=eh7_0 h8
    refine tB (Zp4 a0 a1 oa0 oa1 Zan cl cl) (fun x11 h12=>?_)
    have eh12_1:=h12.2
    exact tL ⟨rfl,rfl,oa1,oa2,h12.1,cl,cl,cl,(by assumption)⟩ Zvh
 ·intro s hs
  cases s with
  | L0 E0 E1 v7 v8=>
   obtain⟨al0,al1,O0,O1,ov7,cv8,i0,i1,i2⟩:=hs
   have lb_v7:=ov7.1
   subst al0
   subst al1
   show Tot (Zl3 E0 E1 v7 v8).den _
   dsimp only [Zl3,LT.den]
   have q1:=O0.2.1.1
   refine tD (fun h2=>?_) (fun h2=>?_)
   ·have q3:=ov7.1
    refine tD (fun h4=>?_) (fun h4=>?_)
    ·refine tB (tI (by omega) (by omega)) (fun x5 h6=>?_)
     have mh6:=h6.2
     refine tN (fun h7=>?_) (fun h7=>?_)
     ·refine qw (v8+1) fun q8 q9=>?_
      exact tL ⟨rfl,rfl,O0,O1,ov7,cl,cl,cl,(by assumption)⟩ Zvh
     ·refine tB (tI (by omega) (by omega)) (fun x10 h11=>?_)
      have oh11:Zv x10:=ov7.2 x10 h11.1
      have mh11:=h11.2
      refine tB (Zwh x10.Keys 2048) (fun x12 h13=>?_)
      have eh13_0:=h13
      refine tO (fun h14=>?_) (fun h14=>?_)
      ·refine qw (v8+1) fun q15 q16=>?_
       exact tL ⟨rfl,rfl,O0,O1,ov7,cl,cl,cl,(by assumption)⟩ Zvh
      ·refine tE (fun h17=>?_) (fun h17=>?_)
       ·refine qw (v8+1) fun q18 q19=>?_
        exact tL ⟨rfl,rfl,O0,O1,ov7,cl,cl,cl,(by assumption)⟩ Zvh
       ·exact tL ⟨rfl,rfl,O0,O1,ov7,cl,cl,cl,cl,cl,(by assumption),tk44⟩ Zvh
    ·exact tL ⟨rfl,rfl,O0,O1,ov7,cl,cl,cl⟩ Zvh
   ·exact tL ⟨rfl,rfl,O0,O1,ov7,cl,cl,cl⟩ Zvh
  | L1 E0 E1 v7 v8 E2 v10=>
   obtain⟨al0,al1,O0,O1,ov7,cv10,cv8,i0,i1,i2,i3,i4⟩:=hs
   have lb_v7:=ov7.1
   subst al0
   subst al1
   show Tot (Zl4 E0 E1 v7 v8 E2 v10).den _
   dsimp only [Zl4,LT.den]
   have q1:=O1.2.1.1
   refine tD (fun h2=>?_) (fun h2=>?_)
   ·refine tB (tI (by omega) (by omega)) (fun x3 h4=>?_)
    have oh4:Zas x3:=O1.2.1.2 x3 h4.1
    have mh4:=h4.2
    refine tB (Zlp E0 v7 E1.Ctx x3 (⟨E2.Id,0⟩:Zf) O0 ov7 O1.1 oh4 cl cl) (fun x5 h6=>?_)
    have eh6_0:=h6
    try have wh6:=Zbg8 (by assumption) (by assumption) (by assumption:x5=isV _ _ _ _ ⟨E2.Id,0⟩)
    try have wh6:=(by assumption:x5=isV _ _ _ _ ⟨0,v11⟩).trans (Zazn v11)
    refine tF (fun h7=>?_) (fun h7=>?_)
    ·exact tR Zeq
    ·refine qw (v10+1) fun q8 q9=>?_
     exact tL ⟨rfl,rfl,O0,O1,ov7,cl,cl,cl,cl,cl,(by assumption),tk44⟩ Zvh
   ·refine qw (v8+1) fun q10 q11=>?_
    exact tL ⟨rfl,rfl,O0,O1,ov7,cl,cl,cl,(by assumption)⟩ Zvh
  | L2 E0 E1 v7 v11=>
   obtain⟨al0,al1,O0,O1,ov7,cv11,i0,i1⟩:=hs
   have lb_v7:=ov7.1
   subst al0
   subst al1
   show Tot (Zl5 E0 E1 v7 v11).den _
   dsimp only [Zl5,LT.den]
   have q1:=O0.1.1
   refine tD (fun h2=>?_) (fun h2=>?_)
   ·exact tL ⟨rfl,rfl,O0,O1,ov7,cl,cl,cl,cl,cl⟩ Zvh
   ·refine tB (Zbv) (fun x3 h4=>?_)
    have eh4_0:=h4
    exact tR Zeq
  | L3 E0 E1 v7 v11 v12=>
   obtain⟨al0,al1,O0,O1,ov7,cv12,cv11,bd7,i0,i1⟩:=hs
   have lb_v7:=ov7.1
   subst al0
   subst al1
   show Tot (Zl6 E0 E1 v7 v11 v12).den _
   dsimp only [Zl6,LT.den]
   have lx_0:E0.Players.length*152≤140737488351232:=O0.1.1
   have q1:=O1.2.1.1
   refine tD (fun h2=>?_) (fun h2=>?_)
   ·refine tB (tI (by omega) (by omega)) (fun x3 h4=>?_)
    have oh4:Zas x3:=O1.2.1.2 x3 h4.1
    have mh4:=h4.2
    refine tB (Zlp E0 v7 E1.Ctx x3 (⟨0,v11⟩:Zf) O0 ov7 O1.1 oh4 cl cl) (fun x5 h6=>?_)
    have eh6_0:=h6
    try have wh6:=Zbg8 (by assumption) (by assumption) (by assumption:x5=isV _ _ _ _ ⟨E2.Id,0⟩)
    try have wh6:=(by assumption:x5=isV _ _ _ _ ⟨0,v11⟩).trans (Zazn v11)
    refine tF (fun h7=>?_) (fun h7=>?_)
    ·refine tB (tI (by omega) (by omega)) (fun x8 h9=>?_)
     have oh9:Zcv x8:=O0.1.2 x8 h9.1
     have mh9:=h9.2
     have bh9:=Zawg mh9 (by omega)
     refine tO (fun h10=>?_) (fun h10=>?_)
     ·exact tR Zeq
     ·refine qw (v12+1) fun q11 q12=>?_
      exact tL ⟨rfl,rfl,O0,O1,ov7,cl,cl,cl,cl,cl⟩ Zvh
    ·refine tO (fun h13=>?_) (fun h13=>?_)
     ·exact tR Zeq
     ·refine qw (v12+1) fun q14 q15=>?_
      exact tL ⟨rfl,rfl,O0,O1,ov7,cl,cl,cl,cl,cl⟩ Zvh
   ·refine qw (v11+1) fun q16 q17=>?_
    exact tL ⟨rfl,rfl,O0,O1,ov7,cl,cl,cl⟩ Zvh
theorem Z9l(a0:(List Int))(oa0:(SzL 8 (fun _=>True)) a0):Tot (Z0e a0) (fun r=>((SzL 8 (fun _=>True)) r)∧(r=a0)):=by
 unfold Z0e
 refine tZ ?_
 have lb_a0:=oa0.1
 dsimp only [Zag4,LT.den]
 have q3:=oa0.1
 refine tB (tA Zkm (by decide)) (fun x1 h2=>?_)
 have lh2:x1.length=([]:(List Int)).length+a0.length:=by rw [h2,List.length_append]
 try simp only [List.length_cons,List.length_nil,Nat.zero_add] at lh2
 exact tR ⟨⟨lo,fun _ _=>trivial⟩,Zan⟩
def Za8p(a0:(List (List Int))):Zxw→Prop
 | .L0 v0 E0 v4=>(v0=a0)∧((SzL 24 (SzL 8 (fun _=>True))) v0)∧(Zba E0)∧(0≤v4)∧(v4≤(v0.length:Int))∧(E0.Answers.length≤v4.toNat)∧(E0=(⟨v0.take v4.toNat,Zh7,false,false,0⟩:Zg))
def Zabj:Zxw→M6
 | .L0 v0 E0 v4=>(1,((v0.length:Int) - v4).toNat,1000000,0,0,0)
theorem Za8q(a0:(List (List Int)))(oa0:(SzL 24 (SzL 8 (fun _=>True))) a0):Tot (Zav8 a0) (fun r=>(Zba r)∧(r=nwV a0)∧(r.N=0)):=by
 unfold Zav8
 refine tX (Inv:=(Za8p a0)) (μ:=Zabj) (m:=(1000000,0,0,0,0,0)) ?_ ?_
 ·have lb_a0:=oa0.1
  dsimp only [Zazg,LT.den]
  exact tL ⟨rfl,oa0,⟨SzL.nil,SzL.nil⟩,cl,cl,cl,tk43⟩ (by unfold Zabj lt6;dsimp only;omega)
 ·intro s hs
  cases s with
  | L0 v0 E0 v4=>
   obtain⟨al0,ov0,O0,cv4,i0,i1,i2⟩:=hs
   have lb_v0:=ov0.1
   subst al0
   show Tot (Zaav v0 E0 v4).den _
   dsimp only [Zaav,LT.den]
   have q1:=ov0.1
   refine tD (fun h2=>?_) (fun h2=>?_)
   ·refine tB (tI (by omega) (by omega)) (fun x3 h4=>?_)
    have oh4:(SzL 8 (fun _=>True)) x3:=ov0.2 x3 h4.1
    have mh4:=h4.2
    refine tB (Z9l x3 oh4) (fun x5 h6=>?_)
    have eh6_1:=h6.2
    have q7:(SzL 24 (SzL 8 (fun _=>True))) ([x5]:(List (List Int))):=⟨by simp only [List.length_cons,List.length_nil];omega,(mem_cons' h6.1 (fun _ h=>by cases h))⟩
    have q10:=O0.1.1
    refine tB (tA Zb0 (by decide)) (fun x8 h9=>?_)
    have lh9:x8.length=E0.Answers.length+1:=by rw [h9,List.length_append];rfl
    refine qw (v4+1) fun q11 q12=>?_
    exact tL ⟨rfl,ov0,⟨(SzL.app (k:=24) h9 lo O0.1.2 q7.2),O0.2⟩,cl,cl,cl,tk43⟩ (by unfold Zabj lt6;dsimp only;omega)
   ·exact tR ⟨O0,(by exact Zbie (by assumption) (by omega)),(by first | rfl | (rw [‹E0=_›]))⟩
theorem Zvu(a0:Int):Tot (Zaaw a0) (fun r=>(a0=2→r=true)):=by
 unfold Zaaw
 refine tZ ?_
 dsimp only [Zag6,LT.den]
 refine tE (fun h1=>?_) (fun h1=>?_)
 ·exact tR Zati
 ·refine tE (fun h2=>?_) (fun h2=>?_)
  ·exact tR Zati
  ·refine tE (fun h3=>?_) (fun h3=>?_)
   ·exact tR Zati
   ·refine tE (fun h4=>?_) (fun h4=>?_)
    ·exact tR Zati
    ·exact tR Zati
def Zvv(a0:Zm):Zni→Prop
 | .L0 E0 v3 v23 v24=>(E0=a0)∧(Zap E0)∧(v23=E0.Kind)∧(¬ E0.Kind=2)
def Zadn:Zni→M6
 | .L0 E0 v3 v23 v24=>(0,0,0,0,0,0)
theorem Zo4(a0:Zm)(E0:Zm)(v3:Int)(v23:Int)(v24:Bool)(h:(Zvv a0) (.L0 E0 v3 v23 v24)):Tot (Zlh E0 v3 v23 v24).den (Nx (Zvv a0) Zadn (0,0,0,0,0,0) (fun r=>(a0.Kind=2→(r=true↔a0.Options.length≤1)))):=by
 obtain⟨al0,O0,i0,i1⟩:=h
 subst al0
 dsimp only [Zlh,LT.den]
 refine tF (fun h1=>?_) (fun h1=>?_)
 ·exact tR (by grind)
 ·refine tE (fun h2=>?_) (fun h2=>?_)
  ·refine tE (fun h3=>?_) (fun h3=>?_)
   ·refine tE (fun h4=>?_) (fun h4=>?_)
    ·exact tR (by grind)
    ·exact tR (by grind)
   ·exact tR (by grind)
  ·refine tE (fun h5=>?_) (fun h5=>?_)
   ·exact tR (by grind)
   ·exact tR (by grind)
theorem Zaxi(a0:Zm)(oa0:Zap a0):Tot (Zaax a0) (fun r=>(a0.Kind=2→(r=true↔a0.Options.length≤1))):=by
 unfold Zaax
 refine tX (Inv:=(Zvv a0)) (μ:=Zadn) (m:=(1000000,0,0,0,0,0)) ?_ ?_
 ·dsimp only [Zag8,LT.den]
  have q1:=oa0.1
  refine tB (Zvu a0.Kind) (fun x2 h3=>?_)
  have eh3_0:=h3
  refine tF (fun h4=>?_) (fun h4=>?_)
  ·exact tR (by grind)
  ·refine tE (fun h5=>?_) (fun h5=>?_)
   ·exact tR (by grind)
   ·refine tE (fun h6=>?_) (fun h6=>?_)
    ·exact tR (by grind)
    ·refine tE (fun h7=>?_) (fun h7=>?_)
     ·exact tJ (Zo4 a0 a0 (a0.Options.length:Int) a0.Kind (a0.Kind==6) ⟨rfl,oa0,cl,(by grind)⟩)
     ·exact tJ (Zo4 a0 a0 (a0.Options.length:Int) a0.Kind (a0.Kind==7) ⟨rfl,oa0,cl,(by grind)⟩)
 ·intro s hs
  cases s with
  | L0 E0 v3 v23 v24=>exact Zo4 a0 E0 v3 v23 v24 hs
def Za1i:Zpz→Prop
 | .L0 v0 v3 v4=>((SzL 8 (fun _=>True)) v3)∧(0≤v4)∧(v0≤10000000000000)∧(v3.length≤v4.toNat)
def Z31:Zpz→M6
 | .L0 v0 v3 v4=>(1,(v0 - v4).toNat,1000000,0,0,0)
theorem Zado(a0:Int)(h0:a0≤10000000000000):Tot (Zaha a0) (fun r=>((SzL 8 (fun _=>True)) r)):=by
 unfold Zaha
 refine tX (Inv:=Za1i) (μ:=Z31) (m:=(1000000,0,0,0,0,0)) ?_ ?_
 ·dsimp only [Zal3,LT.den]
  exact tL ⟨SzL.nil,cl,cl,cl⟩ (by unfold Z31 lt6;dsimp only;omega)
 ·intro s hs
  cases s with
  | L0 v0 v3 v4=>
   obtain⟨ov3,cv4,i0,i1⟩:=hs
   have lb_v3:=ov3.1
   show Tot (Z26 v0 v3 v4).den _
   dsimp only [Z26,LT.den]
   refine tD (fun h1=>?_) (fun h1=>?_)
   ·have q2:(SzL 8 (fun _=>True)) ([v4]:(List Int)):=⟨by simp only [List.length_cons,List.length_nil];omega,fun _ _=>trivial⟩
    have q5:=ov3.1
    refine tB (tA Zb0 (by decide)) (fun x3 h4=>?_)
    have lh4:x3.length=v3.length+1:=by rw [h4,List.length_append];rfl
    refine qw (v4+1) fun q6 q7=>?_
    exact tL ⟨⟨lo,fun _ _=>trivial⟩,cl,cl,cl⟩ (by unfold Z31 lt6;dsimp only;omega)
   ·exact tR ov3
theorem Zib(a0:Zm)(oa0:Zap a0):Tot (Z68 a0) (fun r=>((SzL 8 (fun _=>True)) r)∧(a0.Kind=2→r=[0])):=by
 unfold Z68
 refine tZ ?_
 have lq:=oa0.1
 dsimp only [Zac6,LT.den]
 have q1:=oa0.1
 refine tB (Zvu a0.Kind) (fun x2 h3=>?_)
 have eh3_0:=h3
 refine tF (fun h4=>?_) (fun h4=>?_)
 ·have q5:(SzL 8 (fun _=>True)) ([0]:(List Int)):=⟨by simp only [List.length_cons,List.length_nil];omega,fun _ _=>trivial⟩
  exact tR ⟨q5,Zs7⟩
 ·refine tE (fun h6=>?_) (fun h6=>?_)
  ·refine tB (Zado (Zt8 (Zrp a0.Least 0) (a0.Options.length:Int)) tk88) (fun x7 h8=>?_)
   exact tR ⟨h8,Zs7⟩
  ·refine tE (fun h9=>?_) (fun h9=>?_)
   ·refine tB (Zado (a0.Options.length:Int) tk88) (fun x10 h11=>?_)
    exact tR ⟨h11,Zs7⟩
   ·refine tE (fun h12=>?_) (fun h12=>?_)
    ·have q13:(SzL 8 (fun _=>True)) ([a0.Least]:(List Int)):=⟨by simp only [List.length_cons,List.length_nil];omega,fun _ _=>trivial⟩
     exact tR ⟨q13,Zs7⟩
    ·refine tE (fun h14=>?_) (fun h14=>?_)
     ·refine tB (Tot.make ⟨by omega,by omega,by omega,by omega⟩) (fun x15 h16=>?_)
      have lh16:=h16.1
      refine tD (fun h17=>?_) (fun h17=>?_)
      ·refine tB (tI (by omega) (by omega)) (fun x18 h19=>?_)
       refine tB (Tot.set (by omega) (by omega)) (fun x20 h21=>?_)
       have lh21:=h21.1
       exact tR ⟨⟨lo,fun _ _=>trivial⟩,Zs7⟩
      ·exact tR ⟨⟨lo,fun _ _=>trivial⟩,Zs7⟩
     ·exact tR ⟨SzL.nil,Zs7⟩
theorem Zaib(a0:Zm)(oa0:Zap a0):Tot (Zaay a0) (fun r=>(Zap r)∧(r=a0)):=by
 unfold Zaay
 refine tZ ?_
 dsimp only [Zas7,LT.den]
 have q3:=oa0.1
 refine tB (tA Zkm (by decide)) (fun x1 h2=>?_)
 have lh2:x1.length=([]:(List Zi)).length+a0.Options.length:=by rw [h2,List.length_append]
 try simp only [List.length_cons,List.length_nil,Nat.zero_add] at lh2
 exact tR ⟨⟨lo,fun _ _=>trivial⟩,(by obtain⟨⟩:=a0;grind)⟩
abbrev Zao6(a0:(List Int))(a1:Int)(r:Bool):Prop:=(a0.length=1→(r=true↔∀ x,x∈a0→0≤x∧x < a1))∧(r=true→∀ x,x∈a0→0≤x∧x < a1)
def Zaug(a0:(List Int))(a1:Int):Zhv→Prop
 | .L0 v0 v1 v5=>(v0=a0)∧(v1=a1)∧((SzL 8 (fun _=>True)) v0)∧(0≤v5)∧(∀ (k:Nat) y,(k:Int) < v5→v0[k]?=some y→0≤y∧y < v1)
 | .L1 v0 v1 v5 v6=>(v0=a0)∧(v1=a1)∧((SzL 8 (fun _=>True)) v0)∧(0≤v6)∧(0≤v5)∧(v5 < (v0.length:Int))∧(v5 < (v0.length:Int))∧(∀ (k:Nat) y,(k:Int) < v5+1→v0[k]?=some y→0≤y∧y < v1)
def Z9m:Zhv→M6
 | .L0 v0 v1 v5=>(1,((v0.length:Int) - v5).toNat,1000000,0,0,0)
 | .L1 v0 v1 v5 v6=>(1,((v0.length:Int) - v5).toNat,1,(v5 - v6).toNat,1000000,0)
theorem Zmj(a0:(List Int))(a1:Int)(oa0:(SzL 8 (fun _=>True)) a0):Tot (Z69 a0 a1) (Zao6 a0 a1):=by
 unfold Z69
 refine tX (Inv:=(Zaug a0 a1)) (μ:=Z9m) (m:=(1000000,0,0,0,0,0)) ?_ ?_
 ·have lb_a0:=oa0.1
  dsimp only [Zac8,LT.den]
  exact tL ⟨rfl,rfl,oa0,cl,tk63⟩ Za10
 ·intro s hs
  cases s with
  | L0 v0 v1 v5=>
   obtain⟨al0,al1,ov0,cv5,i0⟩:=hs
   have lb_v0:=ov0.1
   subst al0
   subst al1
   show Tot (Zva v0 v1 v5).den _
   dsimp only [Zva,LT.den]
   have q1:=ov0.1
   refine tD (fun h2=>?_) (fun h2=>?_)
   ·refine tB (tI (by omega) (by omega)) (fun x3 h4=>?_)
    have mh4:=h4.2;have nh4:=h4.1
    refine tD (fun h5=>?_) (fun h5=>?_)
    ·exact tR ⟨(by first | (intro hl;refine⟨fun h=>absurd h (by decide),fun h=>?_⟩;exfalso;have:=h _ (by assumption);omega) | (intro hl;refine⟨fun _ x hx=>?_,fun _=>rfl⟩;obtain⟨k,hk⟩:=List.mem_iff_getElem?.1 hx;have:=(List.getElem?_eq_some_iff.1 hk).1;grind) | (intro hl;exfalso;omega) | grind),(by first | (intro h;exact absurd h (by decide)) | (intro _ x hx;obtain⟨k,hk⟩:=List.mem_iff_getElem?.1 hx;have:=(List.getElem?_eq_some_iff.1 hk).1;grind))⟩
    ·refine tD (fun h6=>?_) (fun h6=>?_)
     ·exact tR ⟨(by first | (intro hl;refine⟨fun h=>absurd h (by decide),fun h=>?_⟩;exfalso;have:=h _ (by assumption);omega) | (intro hl;refine⟨fun _ x hx=>?_,fun _=>rfl⟩;obtain⟨k,hk⟩:=List.mem_iff_getElem?.1 hx;have:=(List.getElem?_eq_some_iff.1 hk).1;grind) | (intro hl;exfalso;omega) | grind),(by first | (intro h;exact absurd h (by decide)) | (intro _ x hx;obtain⟨k,hk⟩:=List.mem_iff_getElem?.1 hx;have:=(List.getElem?_eq_some_iff.1 hk).1;grind))⟩
     ·exact tL ⟨rfl,rfl,ov0,cl,cl,cl,cl,tk31⟩ Za10
   ·exact tR ⟨(by first | (intro hl;refine⟨fun h=>absurd h (by decide),fun h=>?_⟩;exfalso;have:=h _ (by assumption);omega) | (intro hl;refine⟨fun _ x hx=>?_,fun _=>rfl⟩;obtain⟨k,hk⟩:=List.mem_iff_getElem?.1 hx;have:=(List.getElem?_eq_some_iff.1 hk).1;grind) | (intro hl;exfalso;omega) | grind),(by first | (intro h;exact absurd h (by decide)) | (intro _ x hx;obtain⟨k,hk⟩:=List.mem_iff_getElem?.1 hx;have:=(List.getElem?_eq_some_iff.1 hk).1;grind))⟩
  | L1 v0 v1 v5 v6=>
   obtain⟨al0,al1,ov0,cv6,cv5,bd5,i0,i1⟩:=hs
   have lb_v0:=ov0.1
   subst al0
   subst al1
   show Tot (Zvb v0 v1 v5 v6).den _
   dsimp only [Zvb,LT.den]
   have lx_0:v0.length*8≤140737488351232:=ov0.1
   refine tD (fun h1=>?_) (fun h1=>?_)
   ·refine tB (tI (by omega) (by omega)) (fun x2 h3=>?_)
    have mh3:=h3.2;have nh3:=h3.1
    refine tB (tI (by omega) (by omega)) (fun x4 h5=>?_)
    have mh5:=h5.2;have nh5:=h5.1
    refine tE (fun h6=>?_) (fun h6=>?_)
    ·exact tR ⟨(by first | (intro hl;refine⟨fun h=>absurd h (by decide),fun h=>?_⟩;exfalso;have:=h _ (by assumption);omega) | (intro hl;refine⟨fun _ x hx=>?_,fun _=>rfl⟩;obtain⟨k,hk⟩:=List.mem_iff_getElem?.1 hx;have:=(List.getElem?_eq_some_iff.1 hk).1;grind) | (intro hl;exfalso;omega) | grind),(by first | (intro h;exact absurd h (by decide)) | (intro _ x hx;obtain⟨k,hk⟩:=List.mem_iff_getElem?.1 hx;have:=(List.getElem?_eq_some_iff.1 hk).1;grind))⟩
    ·refine qw (v6+1) fun q7 q8=>?_
     exact tL ⟨rfl,rfl,ov0,cl,cl,cl,cl,tk31⟩ Za10
   ·refine qw (v5+1) fun q9 q10=>?_
    exact tL ⟨rfl,rfl,ov0,cl,tk63⟩ Za10
def Za1j(a0:Zm)(a1:(List Int)):Zlz→Prop
 | .L0 v1 E0 v5=>(E0=a0)∧(v1=a1)∧((SzL 8 (fun _=>True)) v1)∧(Zap E0)∧(0≤v5)∧(∀ x,x∈v1→0≤x∧x < (E0.Options.length:Int))
 | .L1 v1 E0 v5 v6=>(E0=a0)∧(v1=a1)∧((SzL 8 (fun _=>True)) v1)∧(Zap E0)∧(0≤v6)∧(0≤v5)∧(v5 < (v1.length:Int))∧(∀ x,x∈v1→0≤x∧x < (E0.Options.length:Int))∧(v5 < (v1.length:Int))
def Zaic:Zlz→M6
 | .L0 v1 E0 v5=>(1,((v1.length:Int) - v5).toNat,1000000,0,0,0)
 | .L1 v1 E0 v5 v6=>(1,((v1.length:Int) - v5).toNat,1,(v5 - v6).toNat,1000000,0)
theorem Za1k(a0:Zm)(a1:(List Int))(oa0:Zap a0)(oa1:(SzL 8 (fun _=>True)) a1)(h0:∀ x,x∈a1→0≤x∧x < (a0.Options.length:Int)):Tot (Zahc a0 a1) (fun r=>True):=by
 unfold Zahc
 refine tX (Inv:=(Za1j a0 a1)) (μ:=Zaic) (m:=(1000000,0,0,0,0,0)) ?_ ?_
 ·have lb_a1:=oa1.1
  dsimp only [Zal5,LT.den]
  exact tL ⟨rfl,rfl,oa1,oa0,cl,Zan⟩ Za13
 ·intro s hs
  cases s with
  | L0 v1 E0 v5=>
   obtain⟨al0,al1,ov1,O0,cv5,i0⟩:=hs
   have lb_v1:=ov1.1
   subst al0
   subst al1
   show Tot (Z27 v1 E0 v5).den _
   dsimp only [Z27,LT.den]
   have q1:=ov1.1
   refine tD (fun h2=>?_) (fun h2=>?_)
   ·exact tL ⟨rfl,rfl,ov1,O0,cl,cl,cl,Zan,cl⟩ Za13
   ·exact tR trivial
  | L1 v1 E0 v5 v6=>
   obtain⟨al0,al1,ov1,O0,cv6,cv5,bd6,i0,i1⟩:=hs
   have lb_v1:=ov1.1
   subst al0
   subst al1
   show Tot (Z28 v1 E0 v5 v6).den _
   dsimp only [Z28,LT.den]
   have lx_0:v1.length*8≤140737488351232:=ov1.1
   refine tD (fun h1=>?_) (fun h1=>?_)
   ·refine tB (tI (by omega) (by omega)) (fun x2 h3=>?_)
    have nh3:=i0 _ h3.1
    refine tB (tI (by omega) (by omega)) (fun x4 h5=>?_)
    refine tB (tI (by omega) (by omega)) (fun x6 h7=>?_)
    have nh7:=i0 _ h7.1
    refine tB (tI (by omega) (by omega)) (fun x8 h9=>?_)
    refine tE (fun h10=>?_) (fun h10=>?_)
    ·exact tR trivial
    ·refine qw (v6+1) fun q11 q12=>?_
     exact tL ⟨rfl,rfl,ov1,O0,cl,cl,cl,Zan,cl⟩ Za13
   ·refine qw (v5+1) fun q13 q14=>?_
    exact tL ⟨rfl,rfl,ov1,O0,cl,Zan⟩ Za13
abbrev Z9n(a0:Zm)(a1:(List Int))(r:Bool):Prop:=(a0.Kind=2→(r=true↔a1.length=1∧∀ x,x∈a1→0≤x∧x < (a0.Options.length:Int)))
def Zzs(a0:Zm)(a1:(List Int)):Zl0→Prop
 | .L0 v1 E0 v5 v26 v78=>(E0=a0)∧(v1=a1)∧((SzL 8 (fun _=>True)) v1)∧(Zap E0)∧(¬ E0.Kind=2)∧(v26=E0.Kind)∧(v5=(E0.Options.length:Int))
 | .L1 v1 E0 v5 v6 v7=>(E0=a0)∧(v1=a1)∧((SzL 8 (fun _=>True)) v1)∧(Zap E0)∧(0≤v7)∧(¬ E0.Kind=2)
def Znw:Zl0→M6
 | .L0 v1 E0 v5 v26 v78=>(2,0,0,0,0,0)
 | .L1 v1 E0 v5 v6 v7=>(1,((v1.length:Int) - v7).toNat,1000000,0,0,0)
theorem Zq1(a0:Zm)(a1:(List Int))(v1:(List Int))(E0:Zm)(v5:Int)(v26:Int)(v78:Bool)(h:(Zzs a0 a1) (.L0 v1 E0 v5 v26 v78)):Tot (Znj v1 E0 v5 v26 v78).den (Nx (Zzs a0 a1) Znw (2,0,0,0,0,0) (Z9n a0 a1)):=by
 obtain⟨al0,al1,ov1,O0,i0,i1,i2⟩:=h
 have lb_v1:=ov1.1
 subst al0
 subst al1
 dsimp only [Znj,LT.den]
 refine tF (fun h1=>?_) (fun h1=>?_)
 ·refine tB (Zmj v1 v5 ov1) (fun x2 h3=>?_)
  have eh3_0:=h3.1
  have eh3_1:=h3.2
  refine tF (fun h4=>?_) (fun h4=>?_)
  ·have h4_0:=eh3_1 h4
   refine tB (Za1k E0 v1 O0 ov1 Zan) (fun x5 h6=>?_)
   exact tR (by grind)
  ·exact tR (by grind)
 ·refine tE (fun h7=>?_) (fun h7=>?_)
  ·exact tL ⟨rfl,rfl,ov1,O0,cl,(by grind)⟩ (by unfold Znw lt6;dsimp only;omega)
  ·exact tR (by grind)
theorem Za1l(a0:Zm)(a1:(List Int))(oa0:Zap a0)(oa1:(SzL 8 (fun _=>True)) a1):Tot (Zahd a0 a1) (Z9n a0 a1):=by
 unfold Zahd
 refine tX (Inv:=(Zzs a0 a1)) (μ:=Znw) (m:=(1000000,0,0,0,0,0)) ?_ ?_
 ·have lb_a1:=oa1.1
  dsimp only [Zal7,LT.den]
  have q1:=oa0.1
  have q2:=oa1.1
  refine tD (fun h3=>?_) (fun h3=>?_)
  ·exact tR (by grind)
  ·refine tB (Zvu a0.Kind) (fun x4 h5=>?_)
   have eh5_0:=h5
   refine tF (fun h6=>?_) (fun h6=>?_)
   ·refine tE (fun h7=>?_) (fun h7=>?_)
    ·refine tB (Zmj a1 (a0.Options.length:Int) oa1) (fun x8 h9=>?_)
     have eh9_0:=h9.1
     have eh9_1:=h9.2
     exact tR (by grind)
    ·exact tR (by grind)
   ·refine tE (fun h10=>?_) (fun h10=>?_)
    ·refine tB (Zmj a1 (a0.Options.length:Int) oa1) (fun x11 h12=>?_)
     have eh12_0:=h12.1
     have eh12_1:=h12.2
     refine tF (fun h13=>?_) (fun h13=>?_)
     ·have h13_0:=eh12_1 h13
      refine tD (fun h14=>?_) (fun h14=>?_)
      ·exact tR (by grind)
      ·exact tR (by grind)
     ·exact tR (by grind)
    ·refine tE (fun h15=>?_) (fun h15=>?_)
     ·refine tB (Zmj a1 (a0.Options.length:Int) oa1) (fun x16 h17=>?_)
      have eh17_0:=h17.1
      have eh17_1:=h17.2
      refine tF (fun h18=>?_) (fun h18=>?_)
      ·have h18_0:=eh17_1 h18
       exact tR (by grind)
      ·exact tR (by grind)
     ·refine tE (fun h19=>?_) (fun h19=>?_)
      ·refine tE (fun h20=>?_) (fun h20=>?_)
       ·refine tB (tI (by omega) (by omega)) (fun x21 h22=>?_)
        refine tD (fun h23=>?_) (fun h23=>?_)
        ·exact tR (by grind)
        ·exact tR (by grind)
       ·exact tR (by grind)
      ·refine tE (fun h24=>?_) (fun h24=>?_)
       ·exact tJ (Zq1 a0 a1 a1 a0 (a0.Options.length:Int) a0.Kind (a0.Kind==6) ⟨rfl,rfl,oa1,oa0,(by grind),cl,cl⟩)
       ·exact tJ (Zq1 a0 a1 a1 a0 (a0.Options.length:Int) a0.Kind (a0.Kind==7) ⟨rfl,rfl,oa1,oa0,(by grind),cl,cl⟩)
 ·intro s hs
  cases s with
  | L0 v1 E0 v5 v26 v78=>exact Zq1 a0 a1 v1 E0 v5 v26 v78 hs
  | L1 v1 E0 v5 v6 v7=>
   obtain⟨al0,al1,ov1,O0,cv7,i0⟩:=hs
   have lb_v1:=ov1.1
   subst al0
   subst al1
   show Tot (Z29 v1 E0 v5 v6 v7).den _
   dsimp only [Z29,LT.den,Znw]
   have q1:=ov1.1
   refine tD (fun h2=>?_) (fun h2=>?_)
   ·refine tB (tI (by omega) (by omega)) (fun x3 h4=>?_)
    refine tD (fun h5=>?_) (fun h5=>?_)
    ·exact tR (by grind)
    ·refine tD (fun h6=>?_) (fun h6=>?_)
     ·exact tR (by grind)
     ·refine qw (v6+x3) fun q7 q8=>?_
      refine qw (v7+1) fun q9 q10=>?_
      exact tL ⟨rfl,rfl,ov1,O0,cl,(by grind)⟩ (by unfold Znw lt6;dsimp only;omega)
   ·refine tE (fun h11=>?_) (fun h11=>?_)
    ·exact tR (by grind)
    ·exact tR (by grind)
theorem Zzt(b0:Zg)(a1:Zm)(ob0:Zba b0)(oa1:Zap a1)(h0:a1.Kind=2)(h1:0≤b0.N):Tot (Zik b0 a1) (fun r=>((SzL 8 (fun _=>True)) r.1)∧(Zba r.2)∧(0≤r.2.N)∧(r=Z47 b0 a1)):=by
 unfold Zik
 refine tZ ?_
 dsimp only [Znk,LT.den]
 refine tB (Zaxi a1 oa1) (fun x1 h2=>?_)
 have eh2_0:=h2
 refine tF (fun h3=>?_) (fun h3=>?_)
 ·refine tB (Zib a1 oa1) (fun x4 h5=>?_)
  have eh5_1:=h5.2
  exact tR ⟨h5.1,ob0,cl,Zai0⟩
 ·refine tF (fun h6=>?_) (fun h6=>?_)
  ·refine tB (Zib a1 oa1) (fun x7 h8=>?_)
   have eh8_1:=h8.2
   exact tR ⟨h8.1,ob0,cl,Zai0⟩
  ·refine tF (fun h9=>?_) (fun h9=>?_)
   ·refine tB (Zib a1 oa1) (fun x10 h11=>?_)
    have eh11_1:=h11.2
    exact tR ⟨h11.1,ob0,cl,Zai0⟩
   ·have q12:=ob0.1.1
    refine tD (fun h13=>?_) (fun h13=>?_)
    ·refine tB (Zaib a1 oa1) (fun x14 h15=>?_)
     have eh15_1:=h15.2
     refine tB (Zib a1 oa1) (fun x16 h17=>?_)
     have eh17_1:=h17.2
     exact tR ⟨h17.1,⟨ob0.1,h15.1⟩,cl,Zai0⟩
    ·refine tB (tI (by omega) (by omega)) (fun x18 h19=>?_)
     have oh19:(SzL 8 (fun _=>True)) x18:=ob0.1.2 x18 h19.1
     have mh19:=h19.2;have nh19:=h19.1
     refine qw (b0.N+1) fun q20 q21=>?_
     refine tB (Za1l a1 x18 oa1 oh19) (fun x22 h23=>?_)
     have eh23_0:=h23
     refine tO (fun h24=>?_) (fun h24=>?_)
     ·refine tB (Zib a1 oa1) (fun x25 h26=>?_)
      have eh26_1:=h26.2
      exact tR ⟨h26.1,⟨ob0.1,ob0.2⟩,cl,Zai0⟩
     ·refine tB (Z9l x18 oh19) (fun x27 h28=>?_)
      have eh28_1:=h28.2
      exact tR ⟨h28.1,⟨ob0.1,ob0.2⟩,cl,Zai0⟩
abbrev Ztw(b0:Zg)(a1:Zb)(a2:(List Za))(a3:Zj)(a4:(List Zr))(r:((List Zf)×Bool×Zg)):Prop:=((SzL 16 (fun _=>True)) r.1)∧(Zba r.2.2)∧(r.1.length≤a4.length)∧(r=chG a1 a2 a3 a4 [] b0)
def Zl9(b0:Zg)(a1:Zb)(a2:(List Za))(a3:Zj)(a4:(List Zr)):Zfb→Prop
 | .L0 c0 v2 v4 E1 E2 v12 v13=>(v2=a2)∧(E1=a1)∧(E2=a3)∧(v4=a4)∧(Zba c0)∧((SzL 176 Zv) v2)∧((SzL 144 Zas) v4)∧(Zw E1)∧(Zat E2)∧((SzL 16 (fun _=>True)) v12)∧(0≤v13)∧(E1.Objects.length≤60)∧(E1.Players.length≤4)∧(v4.length≤1000000)∧(0≤c0.N)∧(v12.length≤v13.toNat)∧(v13≤(v4.length:Int))∧(chG E1 v2 E2 (v4.drop v13.toNat) v12 c0=chG E1 v2 E2 v4 [] b0)
 | .L1 c0 v2 v4 E1 E2 v12 v13 E3=>(v2=a2)∧(E1=a1)∧(E2=a3)∧(v4=a4)∧(Zba c0)∧((SzL 176 Zv) v2)∧((SzL 144 Zas) v4)∧(Zw E1)∧(Zat E2)∧((SzL 16 (fun _=>True)) v12)∧(0≤v13)∧(v13 < (v4.length:Int))∧(E1.Objects.length≤60)∧(E1.Players.length≤4)∧(v4.length≤1000000)∧(0≤c0.N)∧(v12.length≤v13.toNat)∧(0≤v13)∧(v13 < (v4.length:Int))∧(chG E1 v2 E2 (v4.drop (v13+1).toNat) (v12++[tgO E3]) c0=chG E1 v2 E2 v4 [] b0)
def Zic:Zfb→M6
 | .L0 c0 v2 v4 E1 E2 v12 v13=>(1,((v4.length:Int) - v13).toNat,1000000,0,0,0)
 | .L1 c0 v2 v4 E1 E2 v12 v13 E3=>(1,((v4.length:Int) - v13).toNat,0,0,0,0)
theorem Zeg(b0:Zg)(a1:Zb)(a2:(List Za))(a3:Zj)(a4:(List Zr))(c0:Zg)(v2:(List Za))(v4:(List Zr))(E1:Zb)(E2:Zj)(v12:(List Zf))(v13:Int)(E3:Zi)(h:(Zl9 b0 a1 a2 a3 a4) (.L1 c0 v2 v4 E1 E2 v12 v13 E3)):Tot (Zdr c0 v2 v4 E1 E2 v12 v13 E3).den (Nx (Zl9 b0 a1 a2 a3 a4) Zic (1,((v4.length:Int) - v13).toNat,0,0,0,0) (Ztw b0 a1 a2 a3 a4)):=by
 obtain⟨al0,al1,al2,al3,oc0,ov2,ov4,O1,O2,ov12,cv13,bd11,i0,i1,i2,i3,i4,i5,i6,i7⟩:=h
 have lb_v2:=ov2.1
 have lb_v4:=ov4.1
 have lb_v12:=ov12.1
 subst al0
 subst al1
 subst al2
 subst al3
 dsimp only [Zdr,LT.den]
 have lx_0:v4.length*144≤140737488351232:=ov4.1
 refine tE (fun h1=>?_) (fun h1=>?_)
 ·have q2:(SzL 16 (fun _=>True)) ([(⟨E3.A,0⟩:Zf)]:(List Zf)):=⟨by simp only [List.length_cons,List.length_nil];omega,fun _ _=>trivial⟩
  have q5:=ov12.1
  refine tB (tA Zb0 (by decide)) (fun x3 h4=>?_)
  have lh4:x3.length=v12.length+1:=by rw [h4,List.length_append];rfl
  refine qw (v13+1) fun q6 q7=>?_
  exact tL ⟨rfl,rfl,rfl,rfl,oc0,ov2,ov4,O1,O2,⟨lo,fun _ _=>trivial⟩,cl,cl,cl,cl,cl,cl,cl,tk29⟩ tk86
 ·have q8:(SzL 16 (fun _=>True)) ([(⟨0,E3.A⟩:Zf)]:(List Zf)):=⟨by simp only [List.length_cons,List.length_nil];omega,fun _ _=>trivial⟩
  have q11:=ov12.1
  refine tB (tA Zb0 (by decide)) (fun x9 h10=>?_)
  have lh10:x9.length=v12.length+1:=by rw [h10,List.length_append];rfl
  refine qw (v13+1) fun q12 q13=>?_
  exact tL ⟨rfl,rfl,rfl,rfl,oc0,ov2,ov4,O1,O2,⟨lo,fun _ _=>trivial⟩,cl,cl,cl,cl,cl,cl,cl,tk29⟩ tk86
theorem Zadz(b0:Zg)(a1:Zb)(a2:(List Za))(a3:Zj)(a4:(List Zr))(ob0:Zba b0)(oa1:Zw a1)(oa2:(SzL 176 Zv) a2)(oa3:Zat a3)(oa4:(SzL 144 Zas) a4)(h0:a1.Objects.length≤60)(h1:a1.Players.length≤4)(h2:a4.length≤1000000)(h3:0≤b0.N):Tot (Zs2 b0 a1 a2 a3 a4) (Ztw b0 a1 a2 a3 a4):=by
 unfold Zs2
 refine tX (Inv:=(Zl9 b0 a1 a2 a3 a4)) (μ:=Zic) (m:=(1000000,0,0,0,0,0)) ?_ ?_
 ·have lb_a2:=oa2.1
  have lb_a4:=oa4.1
  dsimp only [Zz0,LT.den]
  exact tL ⟨rfl,rfl,rfl,rfl,ob0,oa2,oa4,oa1,oa3,SzL.nil,cl,cl,cl,cl,cl,cl,cl,tk29⟩ tk86
 ·intro s hs
  cases s with
  | L0 c0 v2 v4 E1 E2 v12 v13=>
   obtain⟨al0,al1,al2,al3,oc0,ov2,ov4,O1,O2,ov12,cv13,i0,i1,i2,i3,i4,i5,i6⟩:=hs
   have lb_v2:=ov2.1
   have lb_v4:=ov4.1
   have lb_v12:=ov12.1
   subst al0
   subst al1
   subst al2
   subst al3
   show Tot (Znm c0 v2 v4 E1 E2 v12 v13).den _
   dsimp only [Znm,LT.den,Zic]
   have q1:=ov4.1
   refine tD (fun h2=>?_) (fun h2=>?_)
   ·refine tB (tI (by omega) (by omega)) (fun x3 h4=>?_)
    have oh4:Zas x3:=ov4.2 x3 h4.1
    have mh4:=h4.2
    refine tB (Ztu E1 v2 E2 x3 O1 ov2 O2 oh4 cl cl) (fun x5 h6=>?_)
    have eh6_1:=h6.2.1
    have eh6_2:=h6.2.2
    have q7:=h6.1.1
    refine tE (fun h8=>?_) (fun h8=>?_)
    ·exact tR ⟨SzL.nil,oc0,cl,tk41⟩
    ·refine tB (Zzt c0 (⟨2,E2.You,E2.Source,0,0,0,x5⟩:Zm) oc0 h6.1 Zhj cl) (fun x9 h10=>?_)
     have eh10_2:=h10.2.2.1
     have eh10_3:=h10.2.2.2
     refine tB (tI (by omega) (by omega)) (fun x11 h12=>?_)
     have mh12:=h12.2
     have q13:=h10.1.1
     refine tD (fun h14=>?_) (fun h14=>?_)
     ·refine tB (tI (by omega) (by omega)) (fun x15 h16=>?_)
      have mh16:=h16.2
      refine tD (fun h17=>?_) (fun h17=>?_)
      ·refine tD (fun h18=>?_) (fun h18=>?_)
       ·refine tB (tI (by omega) (by omega)) (fun x19 h20=>?_)
        have mh20:=h20.2
        exact tJ (Zeg b0 E1 v2 E2 v4 x9.2 v2 v4 E1 E2 v12 v13 x19 ⟨rfl,rfl,rfl,rfl,h10.2.1,ov2,ov4,O1,O2,ov12,cl,cl,cl,cl,cl,cl,cl,cl,cl,tk5⟩)
       ·exact tJ (Zeg b0 E1 v2 E2 v4 x9.2 v2 v4 E1 E2 v12 v13 x11 ⟨rfl,rfl,rfl,rfl,h10.2.1,ov2,ov4,O1,O2,ov12,cl,cl,cl,cl,cl,cl,cl,cl,cl,tk5⟩)
      ·exact tJ (Zeg b0 E1 v2 E2 v4 x9.2 v2 v4 E1 E2 v12 v13 x11 ⟨rfl,rfl,rfl,rfl,h10.2.1,ov2,ov4,O1,O2,ov12,cl,cl,cl,cl,cl,cl,cl,cl,cl,tk5⟩)
     ·exact tJ (Zeg b0 E1 v2 E2 v4 x9.2 v2 v4 E1 E2 v12 v13 x11 ⟨rfl,rfl,rfl,rfl,h10.2.1,ov2,ov4,O1,O2,ov12,cl,cl,cl,cl,cl,cl,cl,cl,cl,tk5⟩)
   ·exact tR ⟨ov12,oc0,cl,tk41⟩
  | L1 c0 v2 v4 E1 E2 v12 v13 E3=>exact Zeg b0 a1 a2 a3 a4 c0 v2 v4 E1 E2 v12 v13 E3 hs
theorem Zt1(b0:Z6)(ob0:Zcp b0):Tot (Zgo b0) (fun r=>(Zap r.1)∧(r=(if b0.waits=true then (b0.pending,true) else (Zh7,false)))):=by
 unfold Zgo
 refine tZ ?_
 dsimp only [Zj1,LT.den]
 refine tO (fun h1=>?_) (fun h1=>?_)
 ·exact tR ⟨SzL.nil,tk69⟩
 ·refine tB (Zlm b0.pending.Options ob0.2) (fun x2 h3=>?_)
  have eh3_1:=h3.2
  exact tR ⟨h3.1,tk69⟩
theorem Zt2(b0:Zg)(ob0:Zba b0):Tot (Zgp b0) (fun r=>(Zap r.1)∧(r=(if b0.Waits=true then (b0.Choice,true) else (Zh7,false)))):=by
 unfold Zgp
 refine tZ ?_
 dsimp only [Zj3,LT.den]
 refine tO (fun h1=>?_) (fun h1=>?_)
 ·exact tR ⟨SzL.nil,(by grind)⟩
 ·refine tB (Zaib b0.Choice ob0.2) (fun x2 h3=>?_)
  have eh3_1:=h3.2
  exact tR ⟨h3.1,(by grind)⟩
theorem Z0l(b0:Z6)(ob0:Zcp b0):Tot (Zjl b0) (fun r=>(r=b0.bad)):=by
 unfold Zjl
 refine tZ ?_
 dsimp only [Zog,LT.den]
 exact tR (by grind)
theorem Z0m(b0:Zg)(ob0:Zba b0):Tot (Zjm b0) (fun r=>(r=b0.Wrong)):=by
 unfold Zjm
 refine tZ ?_
 dsimp only [Zoi,LT.den]
 exact tR (by grind)
theorem Zzu(b0:Zg)(ob0:Zba b0):Tot (Zil b0) (fun r=>(r=b0.N)):=by
 unfold Zil
 refine tZ ?_
 dsimp only [Znn,LT.den]
 exact tR (by rfl)
abbrev Z32(b0:Z6)(b1:Zg)(r:(Bool×Z6×Zg)):Prop:=(Zcp r.2.1)∧(Zba r.2.2)∧(akV b0=b1→r.1=true)
def Z35(b0:Z6)(b1:Zg):Zew→Prop
 | .L0 c0 c1 E2 E3 v9=>(c0=b0)∧(c1=b1)∧(Zcp c0)∧(Zba c1)∧(Zap E2)∧(Zap E3)∧(0≤v9)∧(E2.Options.length=E3.Options.length)∧(akV c0=c1→E2=E3)
def Zir:Zew→M6
 | .L0 c0 c1 E2 E3 v9=>(1,((E2.Options.length:Int) - v9).toNat,1000000,0,0,0)
theorem Z36(b0:Z6)(b1:Zg)(ob0:Zcp b0)(ob1:Zba b1):Tot (Zl7 b0 b1) (Z32 b0 b1):=by
 unfold Zl7
 refine tX (Inv:=(Z35 b0 b1)) (μ:=Zir) (m:=(1000000,0,0,0,0,0)) ?_ ?_
 ·dsimp only [Zrf,LT.den]
  refine tB (Zt1 b0 ob0) (fun x1 h2=>?_)
  have eh2_1:=h2.2
  refine tB (Zt2 b1 ob1) (fun x3 h4=>?_)
  have eh4_1:=h4.2
  refine tO (fun h5=>?_) (fun h5=>?_)
  ·exact tR ⟨ob0,ob1,tk8⟩
  ·refine tB (Z0l b0 ob0) (fun x6 h7=>?_)
   have eh7_0:=h7
   refine tB (Z0m b1 ob1) (fun x8 h9=>?_)
   have eh9_0:=h9
   refine tO (fun h10=>?_) (fun h10=>?_)
   ·exact tR ⟨ob0,ob1,tk8⟩
   ·refine tB (Zlq b0 ob0) (fun x11 h12=>?_)
    have eh12_0:=h12
    refine tB (Zzu b1 ob1) (fun x13 h14=>?_)
    have eh14_0:=h14
    refine tN (fun h15=>?_) (fun h15=>?_)
    ·exact tR ⟨ob0,ob1,tk8⟩
    ·have q16:=h2.1.1
     have q17:=h4.1.1
     refine tN (fun h18=>?_) (fun h18=>?_)
     ·exact tR ⟨ob0,ob1,tk8⟩
     ·exact tL ⟨rfl,rfl,ob0,ob1,h2.1,h4.1,cl,cl,tk61⟩ (by unfold Zir lt6;dsimp only;omega)
 ·intro s hs
  cases s with
  | L0 c0 c1 E2 E3 v9=>
   obtain⟨al0,al1,oc0,oc1,O2,O3,cv9,i0,i1⟩:=hs
   subst al0
   subst al1
   show Tot (Zim c0 c1 E2 E3 v9).den _
   dsimp only [Zim,LT.den]
   have q1:=O2.1
   refine tD (fun h2=>?_) (fun h2=>?_)
   ·refine tB (tI (by omega) (by omega)) (fun x3 h4=>?_)
    have mh4:=h4.2
    refine tB (tI (by omega) (by omega)) (fun x5 h6=>?_)
    have mh6:=h6.2
    refine tO (fun h7=>?_) (fun h7=>?_)
    ·exact tR ⟨oc0,oc1,tk8⟩
    ·refine qw (v9+1) fun q8 q9=>?_
     exact tL ⟨rfl,rfl,oc0,oc1,O2,O3,cl,cl,tk61⟩ (by unfold Zir lt6;dsimp only;omega)
   ·refine tE (fun h10=>?_) (fun h10=>?_)
    ·refine tE (fun h11=>?_) (fun h11=>?_)
     ·refine tE (fun h12=>?_) (fun h12=>?_)
      ·refine tE (fun h13=>?_) (fun h13=>?_)
       ·refine tE (fun h14=>?_) (fun h14=>?_)
        ·exact tR ⟨oc0,oc1,tk8⟩
        ·exact tR ⟨oc0,oc1,tk8⟩
       ·exact tR ⟨oc0,oc1,tk8⟩
      ·exact tR ⟨oc0,oc1,tk8⟩
     ·exact tR ⟨oc0,oc1,tk8⟩
    ·exact tR ⟨oc0,oc1,tk8⟩
theorem Zabk(a0:(List Zq))(a1:Zb)(a2:Z0)(oa0:(SzL 176 Zal) a0)(oa1:Zw a1)(oa2:Za9 a2):Tot (Zqw a0 a1 a2) (fun r=>(r=true)):=by
 unfold Zqw
 refine tZ ?_
 have lb_a0:=oa0.1
 dsimp only [Zxx,LT.den]
 refine tB (Zll a0 a1 oa0 oa1) (fun x1 h2=>?_)
 have eh2_0:=h2.1
 have eh2_1:=h2.2
 refine tO (fun h3=>?_) (fun h3=>?_)
 ·refine tB (Zbv) (fun x4 h5=>?_)
  have eh5_0:=h5
  exact tR Zeq
 ·have h3_0:=eh2_0 h3
  have h3_1:=eh2_1 h3
  refine tB (Zp3 a2 oa2) (fun x6 h7=>?_)
  have eh7_0:=h7
  refine tO (fun h8=>?_) (fun h8=>?_)
  ·refine tB (Zbv) (fun x9 h10=>?_)
   have eh10_0:=h10
   exact tR Zeq
  ·have h8_0:=eh7_0 h8
   refine tB (Zp4 a0 a1 oa0 oa1 Zan cl cl) (fun x11 h12=>?_)
   have eh12_1:=h12.2
   refine tB (Z7m a2.Answers oa2.2.2.2) (fun x13 h14=>?_)
   have eh14_1:=h14.2.1
   have eh14_2:=h14.2.2
   refine tB (Za8q a2.Answers oa2.2.2.2) (fun x15 h16=>?_)
   have eh16_1:=h16.2.1
   have eh16_2:=h16.2.2
   refine tB (Zip x13 a1 x11 a2.Ctx a2.Specs h14.1 oa1 h12.1 oa2.1 oa2.2.1 cl cl cl cl cl) (fun x17 h18=>?_)
   have eh18_2:=h18.2.2.1
   try simp only [List.length_nil,List.length_cons,Nat.zero_add] at eh18_2
   have eh18_3:=h18.2.2.2.1
   have eh18_4:=h18.2.2.2.2.1
   have eh18_5:=h18.2.2.2.2.2
   try simp only [List.length_nil,List.length_cons,Nat.zero_add] at eh18_5
   refine tB (Zadz x15 a1 x11 a2.Ctx a2.Specs h16.1 oa1 h12.1 oa2.1 oa2.2.1 cl cl cl cl) (fun x19 h20=>?_)
   have eh20_2:=h20.2.2.1
   try simp only [List.length_nil,List.length_cons,Nat.zero_add] at eh20_2
   have eh20_3:=h20.2.2.2
   refine tB (Z36 x17.2.2 x19.2.2 h18.2.1 h20.2.1) (fun x21 h22=>?_)
   have eh22_2:=h22.2.2
   refine tF (fun h23=>?_) (fun h23=>?_)
   ·refine tB (Ztv x17.1 x19.1 h18.1 h20.1) (fun x24 h25=>?_)
    have eh25_0:=h25
    refine tF (fun h26=>?_) (fun h26=>?_)
    ·refine tF (fun h27=>?_) (fun h27=>?_)
     ·refine tB (Zbv) (fun x28 h29=>?_)
      have eh29_0:=h29
      exact tR Zeq
     ·exact tR Zeq
    ·exact tR Zeq
   ·exact tR Zeq
end Go.PW
