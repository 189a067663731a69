import Derived.Test.YtlighhlnmglpfaaGreatQX
set_option linter.all false
set_option maxRecDepth 100000
namespace Go.PW
def Za0x:Zgv→Prop
 | .L0 E0 v3=>(Zw E0)∧(0≤v3)
 | .L1 E0 v3 v4=>(Zw E0)∧(0≤v4)∧(0≤v3)∧(v3 < (E0.Stack.length:Int))
 | .L2 E0 v5=>(Zw E0)∧(0≤v5)
 | .L3 E0 v7=>(Zw E0)∧(0≤v7)
def Zahy:Zgv→M6
 | .L0 E0 v3=>(5,((E0.Stack.length:Int) - v3).toNat,1000000,0,0,0)
 | .L1 E0 v3 v4=>(5,((E0.Stack.length:Int) - v3).toNat,1,(v3 - v4).toNat,1000000,0)
 | .L2 E0 v5=>(3,((E0.Waiting.length:Int) - v5).toNat,1000000,0,0,0)
 | .L3 E0 v7=>(1,((E0.Conts.length:Int) - v7).toNat,1000000,0,0,0)
theorem Zqj(a0:Zb)(oa0:Zw a0):Tot (Zafq a0) (fun r=>True):=by
 unfold Zafq
 refine tX (Inv:=Za0x) (μ:=Zahy) (m:=(1000000,0,0,0,0,0)) ?_ ?_
 ·dsimp only [Zaku,LT.den]
  have q1:=oa0.2.2.2.2.1.1
  refine tD (fun h2=>?_) (fun h2=>?_)
  ·exact tR trivial
  ·have q3:=oa0.2.2.2.2.2.1.1
   refine tD (fun h4=>?_) (fun h4=>?_)
   ·exact tR trivial
   ·have q5:=oa0.2.2.2.2.2.2.1.1
    refine tD (fun h6=>?_) (fun h6=>?_)
    ·exact tR trivial
    ·exact tL ⟨oa0,cl⟩ Z49
 ·intro s hs
  cases s with
  | L0 E0 v3=>
   obtain⟨O0,cv3⟩:=hs
   show Tot (Z1x E0 v3).den _
   dsimp only [Z1x,LT.den]
   have q1:=O0.2.2.2.2.1.1
   refine tD (fun h2=>?_) (fun h2=>?_)
   ·refine tB (tI (by omega) (by omega)) (fun x3 h4=>?_)
    have oh4:Zin x3:=O0.2.2.2.2.1.2 x3 h4.1
    refine tB (Za6x E0 x3 O0 oh4) (fun x5 h6=>?_)
    refine tO (fun h7=>?_) (fun h7=>?_)
    ·exact tR trivial
    ·exact tL ⟨O0,cl,cl,cl⟩ Z49
   ·exact tL ⟨O0,cl⟩ Z49
  | L1 E0 v3 v4=>
   obtain⟨O0,cv4,cv3,bd3⟩:=hs
   show Tot (Z1y E0 v3 v4).den _
   dsimp only [Z1y,LT.den]
   have lx_0:E0.Stack.length*824≤140737488351232:=O0.2.2.2.2.1.1
   refine tD (fun h1=>?_) (fun h1=>?_)
   ·refine tB (tI (by omega) (by omega)) (fun x2 h3=>?_)
    have oh3:Zin x2:=O0.2.2.2.2.1.2 x2 h3.1
    refine tB (tI (by omega) (by omega)) (fun x4 h5=>?_)
    have oh5:Zin x4:=O0.2.2.2.2.1.2 x4 h5.1
    refine tE (fun h6=>?_) (fun h6=>?_)
    ·exact tR trivial
    ·refine qw (v4+1) fun q7 q8=>?_
     exact tL ⟨O0,cl,cl,cl⟩ Z49
   ·refine qw (v3+1) fun q9 q10=>?_
    exact tL ⟨O0,cl⟩ Z49
  | L2 E0 v5=>
   obtain⟨O0,cv5⟩:=hs
   show Tot (Z1z E0 v5).den _
   dsimp only [Z1z,LT.den]
   have q1:=O0.2.2.2.2.2.1.1
   refine tD (fun h2=>?_) (fun h2=>?_)
   ·refine tB (tI (by omega) (by omega)) (fun x3 h4=>?_)
    have oh4:Zvi x3:=O0.2.2.2.2.2.1.2 x3 h4.1
    refine tB (Zfm E0 x3.Control O0) (fun x5 h6=>?_)
    have eh6_0:=h6
    refine tO (fun h7=>?_) (fun h7=>?_)
    ·exact tR trivial
    ·refine tN (fun h8=>?_) (fun h8=>?_)
     ·exact tR trivial
     ·refine tB (Z0k x3.Ability oh4) (fun x9 h10=>?_)
      refine tO (fun h11=>?_) (fun h11=>?_)
      ·exact tR trivial
      ·refine qw (v5+1) fun q12 q13=>?_
       exact tL ⟨O0,cl⟩ Z49
   ·exact tL ⟨O0,cl⟩ Z49
  | L3 E0 v7=>
   obtain⟨O0,cv7⟩:=hs
   show Tot (Z10 E0 v7).den _
   dsimp only [Z10,LT.den]
   have q1:=O0.2.2.2.2.2.2.1.1
   refine tD (fun h2=>?_) (fun h2=>?_)
   ·refine tB (tI (by omega) (by omega)) (fun x3 h4=>?_)
    have oh4:Zwf x3:=O0.2.2.2.2.2.2.1.2 x3 h4.1
    refine tB (Zfm E0 x3.Control O0) (fun x5 h6=>?_)
    have eh6_0:=h6
    refine tO (fun h7=>?_) (fun h7=>?_)
    ·exact tR trivial
    ·refine tD (fun h8=>?_) (fun h8=>?_)
     ·exact tR trivial
     ·refine tB (Zdk x3.Until 1 2) (fun x9 h10=>?_)
      have eh10_0:=h10
      refine tO (fun h11=>?_) (fun h11=>?_)
      ·exact tR trivial
      ·refine tB (Zbb9 x3.Objects oh4.1) (fun x12 h13=>?_)
       refine tO (fun h14=>?_) (fun h14=>?_)
       ·exact tR trivial
       ·refine tB (Zqy x3.Mods oh4.2) (fun x15 h16=>?_)
        have eh16_0:=h16
        refine tF (fun h17=>?_) (fun h17=>?_)
        ·exact tR trivial
        ·refine qw (v7+1) fun q18 q19=>?_
         exact tL ⟨O0,cl⟩ Z49
   ·exact tR trivial
def Zbca(a0:(List Zq))(a1:Zb):Z11→Prop
 | .L0 v0 E0 v5=>(E0=a1)∧((SzL 176 Zal) v0)∧(Zw E0)∧(0≤v5)
def Zahz:Z11→M6
 | .L0 v0 E0 v5=>(1,((E0.Extra.length:Int) - v5).toNat,1000000,0,0,0)
theorem Zbcb(a0:(List Zq))(a1:Zb)(oa0:(SzL 176 Zal) a0)(oa1:Zw a1):Tot (Za44 a0 a1) (fun r=>(r=true→Ids a1.Objects)):=by
 unfold Za44
 refine tX (Inv:=(Zbca a0 a1)) (μ:=Zahz) (m:=(1000000,0,0,0,0,0)) ?_ ?_
 ·have lb_a0:=oa0.1
  dsimp only [Za42,LT.den]
  refine tB (Zdk a1.NextId 1 1000000) (fun x1 h2=>?_)
  have eh2_0:=h2
  refine tO (fun h3=>?_) (fun h3=>?_)
  ·exact tR Zhd
  ·refine tB (Zdk a1.NextStamp 1 1000000) (fun x4 h5=>?_)
   have eh5_0:=h5
   refine tO (fun h6=>?_) (fun h6=>?_)
   ·exact tR Zhd
   ·refine tB (Zdk a1.Turn 0 500) (fun x7 h8=>?_)
    have eh8_0:=h8
    refine tO (fun h9=>?_) (fun h9=>?_)
    ·exact tR Zhd
    ·refine tB (Zdk a1.Step 0 10) (fun x10 h11=>?_)
     have eh11_0:=h11
     refine tO (fun h12=>?_) (fun h12=>?_)
     ·exact tR Zhd
     ·have q13:=oa1.2.1.1
      refine tD (fun h14=>?_) (fun h14=>?_)
      ·exact tR Zhd
      ·refine tB (Zatr a1 oa1) (fun x15 h16=>?_)
       refine tO (fun h17=>?_) (fun h17=>?_)
       ·exact tR Zhd
       ·refine tB (Zfm a1 a1.Active oa1) (fun x18 h19=>?_)
        have eh19_0:=h19
        refine tO (fun h20=>?_) (fun h20=>?_)
        ·exact tR Zhd
        ·refine tB (Zfm a1 a1.Priority oa1) (fun x21 h22=>?_)
         have eh22_0:=h22
         refine tO (fun h23=>?_) (fun h23=>?_)
         ·exact tR Zhd
         ·have q24:=oa1.1.1
          refine tB (Zdk a1.Passes 0 (a1.Players.length:Int)) (fun x25 h26=>?_)
          have eh26_0:=h26
          refine tO (fun h27=>?_) (fun h27=>?_)
          ·exact tR Zhd
          ·have q28:=oa1.2.2.2.2.2.2.2.1
           refine tD (fun h29=>?_) (fun h29=>?_)
           ·exact tR Zhd
           ·refine tB (Zdk a1.Over 0 2) (fun x30 h31=>?_)
            have eh31_0:=h31
            refine tO (fun h32=>?_) (fun h32=>?_)
            ·exact tR Zhd
            ·exact tL ⟨rfl,oa0,oa1,cl⟩ (by unfold Zahz lt6;dsimp only;omega)
 ·intro s hs
  cases s with
  | L0 v0 E0 v5=>
   obtain⟨al0,ov0,O0,cv5⟩:=hs
   have lb_v0:=ov0.1
   subst al0
   show Tot (Zafr v0 E0 v5).den _
   dsimp only [Zafr,LT.den]
   have q1:=O0.2.2.2.2.2.2.2.1
   refine tD (fun h2=>?_) (fun h2=>?_)
   ·refine tB (tI (by omega) (by omega)) (fun x3 h4=>?_)
    refine tB (Zfm E0 x3 O0) (fun x5 h6=>?_)
    have eh6_0:=h6
    refine tO (fun h7=>?_) (fun h7=>?_)
    ·exact tR Zhd
    ·refine qw (v5+1) fun q8 q9=>?_
     exact tL ⟨rfl,ov0,O0,cl⟩ (by unfold Zahz lt6;dsimp only;omega)
   ·refine tE (fun h10=>?_) (fun h10=>?_)
    ·refine tB (Zfm E0 E0.Winner O0) (fun x11 h12=>?_)
     have eh12_0:=h12
     refine tO (fun h13=>?_) (fun h13=>?_)
     ·exact tR Zhd
     ·refine tN (fun h14=>?_) (fun h14=>?_)
      ·refine tN (fun h15=>?_) (fun h15=>?_)
       ·exact tR Zhd
       ·refine tB (Zmh v0 E0 ov0 O0) (fun x16 h17=>?_)
        have eh17_0:=h17
        refine tF (fun h18=>?_) (fun h18=>?_)
        ·have h18_0:=eh17_0 h18
         refine tB (Zqj E0 O0) (fun x19 h20=>?_)
         exact tR Zhd
        ·exact tR Zhd
      ·refine tB (Zmh v0 E0 ov0 O0) (fun x21 h22=>?_)
       have eh22_0:=h22
       refine tF (fun h23=>?_) (fun h23=>?_)
       ·have h23_0:=eh22_0 h23
        refine tB (Zqj E0 O0) (fun x24 h25=>?_)
        exact tR Zhd
       ·exact tR Zhd
    ·refine tN (fun h26=>?_) (fun h26=>?_)
     ·refine tN (fun h27=>?_) (fun h27=>?_)
      ·exact tR Zhd
      ·refine tB (Zmh v0 E0 ov0 O0) (fun x28 h29=>?_)
       have eh29_0:=h29
       refine tF (fun h30=>?_) (fun h30=>?_)
       ·have h30_0:=eh29_0 h30
        refine tB (Zqj E0 O0) (fun x31 h32=>?_)
        exact tR Zhd
       ·exact tR Zhd
     ·refine tB (Zmh v0 E0 ov0 O0) (fun x33 h34=>?_)
      have eh34_0:=h34
      refine tF (fun h35=>?_) (fun h35=>?_)
      ·have h35_0:=eh34_0 h35
       refine tB (Zqj E0 O0) (fun x36 h37=>?_)
       exact tR Zhd
      ·exact tR Zhd
abbrev Zaw2(a0:(List Zq))(a1:Zb)(r:Bool):Prop:=(r=true→a1.Objects.length≤60∧a1.Conts.length≤8∧a1.Players.length≤4∧∀ c,c∈a0→c.Abilities.length≤8)∧(r=true→Ids a1.Objects)
def Za0y(a0:(List Zq))(a1:Zb):Zpl→Prop
 | .L0 v0 E0 v5=>(v0=a0)∧(E0=a1)∧((SzL 176 Zal) v0)∧(Zw E0)∧(0≤v5)∧(E0.Objects.length≤60)∧(E0.Conts.length≤8)∧(E0.Players.length≤4)
def Z3n:Zpl→M6
 | .L0 v0 E0 v5=>(1,((E0.Players.length:Int) - v5).toNat,1000000,0,0,0)
theorem Zll(a0:(List Zq))(a1:Zb)(oa0:(SzL 176 Zal) a0)(oa1:Zw a1):Tot (Zafs a0 a1) (Zaw2 a0 a1):=by
 unfold Zafs
 refine tX (Inv:=(Za0y a0 a1)) (μ:=Z3n) (m:=(1000000,0,0,0,0,0)) ?_ ?_
 ·have lb_a0:=oa0.1
  dsimp only [Zakw,LT.den]
  have q1:=oa0.1
  refine tD (fun h2=>?_) (fun h2=>?_)
  ·exact tR ⟨Zyx,Zyy⟩
  ·have q3:=oa1.1.1
   refine tD (fun h4=>?_) (fun h4=>?_)
   ·exact tR ⟨Zyx,Zyy⟩
   ·have q5:=oa1.2.1.1
    refine tD (fun h6=>?_) (fun h6=>?_)
    ·exact tR ⟨Zyx,Zyy⟩
    ·have q7:=oa1.2.2.1.1
     refine tD (fun h8=>?_) (fun h8=>?_)
     ·exact tR ⟨Zyx,Zyy⟩
     ·have q9:=oa1.2.2.2.1.1
      refine tD (fun h10=>?_) (fun h10=>?_)
      ·exact tR ⟨Zyx,Zyy⟩
      ·have q11:=oa1.2.2.2.2.1.1
       refine tD (fun h12=>?_) (fun h12=>?_)
       ·exact tR ⟨Zyx,Zyy⟩
       ·have q13:=oa1.2.2.2.2.2.1.1
        refine tD (fun h14=>?_) (fun h14=>?_)
        ·exact tR ⟨Zyx,Zyy⟩
        ·have q15:=oa1.2.2.2.2.2.2.1.1
         refine tD (fun h16=>?_) (fun h16=>?_)
         ·exact tR ⟨Zyx,Zyy⟩
         ·have q17:=oa1.2.2.2.2.2.2.2.1
          refine tD (fun h18=>?_) (fun h18=>?_)
          ·exact tR ⟨Zyx,Zyy⟩
          ·exact tL ⟨rfl,rfl,oa0,oa1,cl,cl,cl,cl⟩ (by unfold Z3n lt6;dsimp only;omega)
 ·intro s hs
  cases s with
  | L0 v0 E0 v5=>
   obtain⟨al0,al1,ov0,O0,cv5,i0,i1,i2⟩:=hs
   have lb_v0:=ov0.1
   subst al0
   subst al1
   show Tot (Z12 v0 E0 v5).den _
   dsimp only [Z12,LT.den]
   have q1:=O0.1.1
   refine tD (fun h2=>?_) (fun h2=>?_)
   ·refine tB (tI (by omega) (by omega)) (fun x3 h4=>?_)
    have oh4:Zcv x3:=O0.1.2 x3 h4.1
    have q5:=oh4.1.1
    have q6:=oh4.2.1.1
    refine qw ((x3.Library.length:Int)+(x3.Hand.length:Int)) fun q7 q8=>?_
    have q9:=oh4.2.2.1
    refine qw ((IntKind.wrap .i64 ((x3.Library.length:Int)+(x3.Hand.length:Int)))+(x3.Graveyard.length:Int)) fun q10 q11=>?_
    refine tD (fun h12=>?_) (fun h12=>?_)
    ·exact tR ⟨Zyx,Zyy⟩
    ·refine qw (v5+1) fun q13 q14=>?_
     exact tL ⟨rfl,rfl,ov0,O0,cl,cl,cl,cl⟩ (by unfold Z3n lt6;dsimp only;omega)
   ·refine tB (Za0q v0 ov0) (fun x15 h16=>?_)
    have eh16_0:=h16
    refine tE (fun h17=>?_) (fun h17=>?_)
    ·refine tB (Zbcb v0 E0 ov0 O0) (fun x18 h19=>?_)
     have eh19_0:=h19
     exact tR ⟨Zyx,Zyy⟩
    ·exact tR ⟨Zyx,Zyy⟩
def Zah0:Zg5→Prop
 | .L0 v0 v3=>((SzL 24 (SzL 8 (fun _=>True))) v0)∧(0≤v3)
def Zow:Zg5→M6
 | .L0 v0 v3=>(1,((v0.length:Int) - v3).toNat,1000000,0,0,0)
theorem Zah1(a0:(List (List Int)))(oa0:(SzL 24 (SzL 8 (fun _=>True))) a0):Tot (Zuj a0) (fun r=>True):=by
 unfold Zuj
 refine tX (Inv:=Zah0) (μ:=Zow) (m:=(1000000,0,0,0,0,0)) ?_ ?_
 ·have lb_a0:=oa0.1
  dsimp only [Z13,LT.den]
  exact tL ⟨oa0,cl⟩ (by unfold Zow lt6;dsimp only;omega)
 ·intro s hs
  cases s with
  | L0 v0 v3=>
   obtain⟨ov0,cv3⟩:=hs
   have lb_v0:=ov0.1
   show Tot (Zon v0 v3).den _
   dsimp only [Zon,LT.den]
   have q1:=ov0.1
   refine tD (fun h2=>?_) (fun h2=>?_)
   ·refine tB (tI (by omega) (by omega)) (fun x3 h4=>?_)
    have oh4:(SzL 8 (fun _=>True)) x3:=ov0.2 x3 h4.1
    have q5:=oh4.1
    refine tD (fun h6=>?_) (fun h6=>?_)
    ·exact tR trivial
    ·refine qw (v3+1) fun q7 q8=>?_
     exact tL ⟨ov0,cl⟩ (by unfold Zow lt6;dsimp only;omega)
   ·exact tR trivial
theorem Zp3(a0:Z0)(oa0:Za9 a0):Tot (Zavn a0) (fun r=>(r=true→a0.Specs.length≤6∧a0.Targets.length≤8)):=by
 unfold Zavn
 refine tZ ?_
 dsimp only [Zayo,LT.den]
 have q1:=oa0.2.1.1
 refine tD (fun h2=>?_) (fun h2=>?_)
 ·have q3:=oa0.2.2.1.1
  refine tD (fun h4=>?_) (fun h4=>?_)
  ·refine tB (Zah1 a0.Answers oa0.2.2.2) (fun x5 h6=>?_)
   exact tR Zatg
  ·exact tR Zbo
 ·exact tR Zbo
theorem Zt4(a0:(List Int))(oa0:(SzL 8 (fun _=>True)) a0):Tot (Zmd a0) (fun r=>((SzL 8 (fun _=>True)) r)∧(r=a0)):=by
 unfold Zmd
 refine tZ ?_
 have lb_a0:=oa0.1
 dsimp only [Zzv,LT.den]
 have q3:=oa0.1
 refine tB (tA Zkm (by decide)) (fun x1 h2=>?_)
 have lh2:x1.length=([]:(List Int)).length+a0.length:=by rw [h2,List.length_append]
 try simp only [List.length_cons,List.length_nil,Nat.zero_add] at lh2
 exact tR ⟨⟨lo,fun _ _=>trivial⟩,Zan⟩
def Za8j(a0:(List (List Int))):Zxi→Prop
 | .L0 E0 v8 v9 v10=>(Zcp E0)∧((SzL 24 (SzL 8 (fun _=>True))) v8)∧(0≤v10)∧(v9=(v8.length:Int))∧(v10≤v9)∧(E0.answers.length≤v10.toNat)∧(v8=a0)∧(E0=(⟨a0.take v10.toNat,0,Zh7,false,false⟩:Z6))
def Zabe:Zxi→M6
 | .L0 E0 v8 v9 v10=>(1,(v9 - v10).toNat,1000000,0,0,0)
theorem Z7m(a0:(List (List Int)))(oa0:(SzL 24 (SzL 8 (fun _=>True))) a0):Tot (Zavo a0) (fun r=>(Zcp r)∧(akV r=nwV a0)∧(r.used=0)):=by
 unfold Zavo
 refine tX (Inv:=(Za8j a0)) (μ:=Zabe) (m:=(1000000,0,0,0,0,0)) ?_ ?_
 ·have lb_a0:=oa0.1
  dsimp only [Zayq,LT.den]
  have q1:=oa0.1
  exact tL ⟨⟨SzL.nil,SzL.nil⟩,oa0,cl,cl,cl,cl,Zhj,tk35⟩ (by unfold Zabe lt6;dsimp only;omega)
 ·intro s hs
  cases s with
  | L0 E0 v8 v9 v10=>
   obtain⟨O0,ov8,cv10,i0,i1,i2,i3,i4⟩:=hs
   have lb_v8:=ov8.1
   show Tot (Zaae E0 v8 v9 v10).den _
   dsimp only [Zaae,LT.den]
   refine tD (fun h1=>?_) (fun h1=>?_)
   ·refine tB (tI (by omega) (by omega)) (fun x2 h3=>?_)
    have oh3:(SzL 8 (fun _=>True)) x2:=ov8.2 x2 h3.1
    have mh3:=h3.2
    refine tB (Zt4 x2 oh3) (fun x4 h5=>?_)
    have eh5_1:=h5.2
    have q6:(SzL 24 (SzL 8 (fun _=>True))) ([x4]:(List (List Int))):=⟨by simp only [List.length_cons,List.length_nil];omega,(mem_cons' h5.1 (fun _ h=>by cases h))⟩
    have q9:=O0.1.1
    refine tB (tA Zb0 (by decide)) (fun x7 h8=>?_)
    have lh8:x7.length=E0.answers.length+1:=by rw [h8,List.length_append];rfl
    refine qw (v10+1) fun q10 q11=>?_
    exact tL ⟨⟨(SzL.app (k:=24) h8 lo O0.1.2 q6.2),O0.2⟩,ov8,cl,cl,cl,cl,Zhj,tk35⟩ (by unfold Zabe lt6;dsimp only;omega)
   ·exact tR ⟨O0,(by exact Zbjt (by assumption) (by rw [← ‹v8=a0›];omega)),(by first | rfl | (rw [‹E0=_›]))⟩
abbrev Zajh(a0:Zb)(r:(List Int)):Prop:=((SzL 8 (fun _=>True)) r)∧(r.length≤a0.Players.length)∧(r=Zyv a0.Players)
def Zaop(a0:Zb):Zi5→Prop
 | .L0 v3 v7 v8 v9=>((SzL 8 (fun _=>True)) v3)∧((SzL 152 Zcv) v7)∧(0≤v9)∧(v8=(v7.length:Int))∧(v8=(a0.Players.length:Int))∧(v7=a0.Players)∧(v3=Zvg v7 v9)∧(v3.length≤v9.toNat)∧(v9≤v8)
def Z5i:Zi5→M6
 | .L0 v3 v7 v8 v9=>(1,(v8 - v9).toNat,1000000,0,0,0)
theorem Zaoq(a0:Zb)(oa0:Zw a0):Tot (Zsf a0) (Zajh a0):=by
 unfold Zsf
 refine tX (Inv:=(Zaop a0)) (μ:=Z5i) (m:=(1000000,0,0,0,0,0)) ?_ ?_
 ·dsimp only [Z8j,LT.den]
  have q1:=oa0.1.1
  exact tL ⟨SzL.nil,oa0.1,cl,cl,cl,Zhj,tk10,cl,cl⟩ tk90
 ·intro s hs
  cases s with
  | L0 v3 v7 v8 v9=>
   obtain⟨ov3,ov7,cv9,i0,i1,i2,i3,i4,i5⟩:=hs
   have lb_v3:=ov3.1
   have lb_v7:=ov7.1
   show Tot (Zse v3 v7 v8 v9).den _
   dsimp only [Zse,LT.den]
   refine tD (fun h1=>?_) (fun h1=>?_)
   ·refine tB (tI (by omega) (by omega)) (fun x2 h3=>?_)
    have oh3:Zcv x2:=ov7.2 x2 h3.1
    have mh3:=h3.2
    refine tO (fun h4=>?_) (fun h4=>?_)
    ·have q5:(SzL 8 (fun _=>True)) ([v9]:(List Int)):=⟨by simp only [List.length_cons,List.length_nil];omega,fun _ _=>trivial⟩
     have q8:=ov3.1
     refine tB (tA Zb0 (by decide)) (fun x6 h7=>?_)
     have lh7:x6.length=v3.length+1:=by rw [h7,List.length_append];rfl
     refine qw (v9+1) fun q9 q10=>?_
     exact tL ⟨⟨lo,fun _ _=>trivial⟩,ov7,cl,cl,cl,Zhj,tk10,cl,cl⟩ tk90
    ·refine qw (v9+1) fun q11 q12=>?_
     exact tL ⟨ov3,ov7,cl,cl,cl,Zhj,tk10,cl,cl⟩ tk90
   ·exact tR ⟨ov3,cl,(by rw [← ‹v7=a0.Players›];exact Za51 (by assumption) (by omega) (by omega))⟩
abbrev Zadv(a0:Int)(a1:(List Int))(r:(List Zi)):Prop:=((SzL 24 (fun _=>True)) r)∧(r.length≤a1.length)∧(r=a1.map fun x=>(⟨a0,x,0⟩:Zi))
def Zah2(a0:Int)(a1:(List Int)):Zg6→Prop
 | .L0 v0 v5 v8 v9 v10=>(v0=a0)∧((SzL 24 (fun _=>True)) v5)∧((SzL 8 (fun _=>True)) v8)∧(0≤v10)∧(v9=(v8.length:Int))∧(v8.length=a1.length)∧(v8=a1)∧(v5=(v8.take v10.toNat).map fun x=>(⟨v0,x,0⟩:Zi))∧(v5.length≤v10.toNat)∧(v10≤v9)
def Zox:Zg6→M6
 | .L0 v0 v5 v8 v9 v10=>(1,(v9 - v10).toNat,1000000,0,0,0)
theorem Zxz(a0:Int)(a1:(List Int))(oa1:(SzL 8 (fun _=>True)) a1)(h0:a1.length≤1000000):Tot (Zn8 a0 a1) (Zadv a0 a1):=by
 unfold Zn8
 refine tX (Inv:=(Zah2 a0 a1)) (μ:=Zox) (m:=(1000000,0,0,0,0,0)) ?_ ?_
 ·have lb_a1:=oa1.1
  dsimp only [Z15,LT.den]
  have q1:=oa1.1
  exact tL ⟨rfl,SzL.nil,oa1,cl,cl,cl,Zhj,tk51,cl,cl⟩ (by unfold Zox lt6;dsimp only;omega)
 ·intro s hs
  cases s with
  | L0 v0 v5 v8 v9 v10=>
   obtain⟨al0,ov5,ov8,cv10,i0,i1,i2,i3,i4,i5⟩:=hs
   have lb_v5:=ov5.1
   have lb_v8:=ov8.1
   subst al0
   show Tot (Zoo v0 v5 v8 v9 v10).den _
   dsimp only [Zoo,LT.den]
   refine tD (fun h1=>?_) (fun h1=>?_)
   ·refine tB (tI (by omega) (by omega)) (fun x2 h3=>?_)
    have mh3:=h3.2
    have q4:(SzL 24 (fun _=>True)) ([(⟨v0,x2,0⟩:Zi)]:(List Zi)):=⟨by simp only [List.length_cons,List.length_nil];omega,fun _ _=>trivial⟩
    have q7:=ov5.1
    refine tB (tA Zb0 (by decide)) (fun x5 h6=>?_)
    have lh6:x5.length=v5.length+1:=by rw [h6,List.length_append];rfl
    refine qw (v10+1) fun q8 q9=>?_
    exact tL ⟨rfl,⟨lo,fun _ _=>trivial⟩,ov8,cl,cl,cl,Zhj,tk51,cl,cl⟩ (by unfold Zox lt6;dsimp only;omega)
   ·exact tR ⟨ov5,cl,(by rw [← ‹v8=a1›];exact Zbd0 (by assumption) (by omega))⟩
theorem Zatt(a0:Int)(a1:Int):Tot (Zv6 a0 a1) (fun r=>(r=kwB a0 a1)):=by
 unfold Zv6
 refine tZ ?_
 dsimp only [Zab2,LT.den]
 exact tR (by rfl)
theorem Za9o{x:Za}(h:Zv x):x.Line.Subs.length≤4611686018427387904:=by
 have:x.Line.Subs.length*16≤140737488351232:=h.2.1.1
 omega
theorem Za6y{s:Zb}{all:List Za}{you src:Int}{f:Ze}(h:Zw s):SzL 8 (fun _=>True) (Zs6 s all you src f):=by
 have h1:s.Objects.length*128≤140737488351232:=h.2.1.1
 have h2:(Zs6 s all you src f).length≤s.Objects.length:=Zamv ..
 exact⟨by omega,fun _ _=>trivial⟩
theorem Zaw3(a0:Zb)(a1:List Za)(a2 a3:Int)(a4:Ze)(oa0:Zw a0)(oa1:(SzL 176 Zv) a1)(oa4:Zav a4):Tot (Zz9 a0 a1 a2 a3 a4) (fun r=>((SzL 8 (fun _=>True)) r)∧(r=Zs6 a0 a1 a2 a3 a4)):=
 ⟨_,Zbh7 a0 a1 a2 a3 a4 oa0.2.1.1 fun t ht=>Za9o (oa1.2 t ht),Za6y oa0,rfl⟩
theorem Z3o(a0:Zl)(b0:Int):Tot (Zkh a0 b0) (fun r=>(r=(a0.Id==b0))):=by
 unfold Zkh
 refine tZ ?_
 dsimp only [Zpn,LT.den]
 exact tR (by rfl)
def Zez(a0:(List Zl))(b0:Int):Za3→Prop
 | .L0 v0 c0 v7 v8=>(v0=a0)∧(c0=b0)∧((SzL 128 (fun _=>True)) v0)∧(0≤v8)∧(v7=(v0.length:Int))∧(NoId v0 c0 v8)
def Zci:Za3→M6
 | .L0 v0 c0 v7 v8=>(1,(v7 - v8).toNat,1000000,0,0,0)
theorem Ze0(a0:(List Zl))(b0:Int)(oa0:(SzL 128 (fun _=>True)) a0):Tot (Zbt a0 b0) (fun r=>(r.1=ixO a0 b0)∧(r.2=b0)):=by
 unfold Zbt
 refine tX (Inv:=(Zez a0 b0)) (μ:=Zci) (m:=(1000000,0,0,0,0,0)) ?_ ?_
 ·have lb_a0:=oa0.1
  dsimp only [Zcn,LT.den]
  have q1:=oa0.1
  exact tL ⟨rfl,rfl,oa0,cl,cl,tk37⟩ tk56
 ·intro s hs
  cases s with
  | L0 v0 c0 v7 v8=>
   obtain⟨al0,al1,ov0,cv8,i0,i1⟩:=hs
   have lb_v0:=ov0.1
   subst al0
   subst al1
   show Tot (Zbq v0 c0 v7 v8).den _
   dsimp only [Zbq,LT.den]
   refine tD (fun h1=>?_) (fun h1=>?_)
   ·refine tB (tI (by omega) (by omega)) (fun x2 h3=>?_)
    have mh3:=h3.2
    refine tB (Z3o x2 c0) (fun x4 h5=>?_)
    have eh5_0:=h5
    refine tF (fun h6=>?_) (fun h6=>?_)
    ·exact tR ⟨tk24,Zhj⟩
    ·refine qw (v8+1) fun q7 q8=>?_
     exact tL ⟨rfl,rfl,ov0,cl,cl,tk37⟩ tk56
   ·exact tR ⟨tk24,Zhj⟩
def Zoy(a0:Zb)(a1:(List Za))(a2:Zj)(a3:Int):Zh4→Prop
 | .L0 E0 E1 E2 v9 E3=>(E0=a0)∧(E1=a2)∧(Zw E0)∧(Zat E1)∧(Zv E3)∧(0≤v9)∧(v9 < (E0.Objects.length:Int))∧(E2=a3)∧(v9=ixO E0.Objects a3)∧(E3=trV a1 v9)
def Z3p:Zh4→M6
 | .L0 E0 E1 E2 v9 E3=>(0,0,0,0,0,0)
theorem Zko(a0:Zb)(a1:(List Za))(a2:Zj)(a3:Int)(E0:Zb)(E1:Zj)(E2:Int)(v9:Int)(E3:Za)(h:(Zoy a0 a1 a2 a3) (.L0 E0 E1 E2 v9 E3)):Tot (Zg9 E0 E1 E2 v9 E3).den (Nx (Zoy a0 a1 a2 a3) Z3p (0,0,0,0,0,0) (fun r=>(r=Zjo a0 a1 a2.You a2.Source a3))):=by
 obtain⟨al0,al1,O0,O1,O3,i0,i1,i2,i3,i4⟩:=h
 subst al0
 subst al1
 dsimp only [Zg9,LT.den]
 refine tB (tI (by omega) (by omega)) (fun x1 h2=>?_)
 have mh2:=h2.2
 refine tE (fun h3=>?_) (fun h3=>?_)
 ·refine tB (Zatt E3.Keys 2048) (fun x4 h5=>?_)
  have eh5_0:=h5
  refine tF (fun h6=>?_) (fun h6=>?_)
  ·exact tR Zatj
  ·exact tR Zatj
 ·refine tE (fun h7=>?_) (fun h7=>?_)
  ·exact tR Zatj
  ·exact tR Zatj
theorem Zaji(a0:Zb)(a1:(List Za))(a2:Zj)(a3:Int)(oa0:Zw a0)(oa1:(SzL 176 Zv) a1)(oa2:Zat a2):Tot (Zyd a0 a1 a2 a3) (fun r=>(r=Zjo a0 a1 a2.You a2.Source a3)):=by
 unfold Zyd
 refine tX (Inv:=(Zoy a0 a1 a2 a3)) (μ:=Z3p) (m:=(1000000,0,0,0,0,0)) ?_ ?_
 ·have lb_a1:=oa1.1
  dsimp only [Z40,LT.den]
  refine tB (Ze0 a0.Objects a3 oa0.2.1) (fun x1 h2=>?_)
  have eh2_0:=h2.1
  have eh2_1:=h2.2
  have lh2:=Za5z a0.Objects a3
  refine tD (fun h3=>?_) (fun h3=>?_)
  ·exact tR Zatj
  ·have q4:=oa1.1
   refine tD (fun h5=>?_) (fun h5=>?_)
   ·refine tB (tI (by omega) (by omega)) (fun x6 h7=>?_)
    have oh7:Zv x6:=oa1.2 x6 h7.1
    have mh7:=h7.2
    exact tJ (Zko a0 a1 a2 a3 a0 a2 x1.2 x1.1 x6 ⟨rfl,rfl,oa0,oa2,oh7,cl,cl,Zhj,Zan,tk68⟩)
   ·exact tJ (Zko a0 a1 a2 a3 a0 a2 x1.2 x1.1 (⟨([]:List UInt8),(⟨0,0,(⟨0,0,0,0,0⟩:(A5 Int))⟩:Z1),0,(⟨0,0,([]:(List (List UInt8)))⟩:Z8),0,0,0,([]:(List Zt)),0⟩:Za) ⟨rfl,rfl,oa0,oa2,⟨(SzS.nil),SzL.nil,SzL.nil⟩,cl,cl,Zhj,Zan,tk68⟩)
 ·intro s hs
  cases s with
  | L0 E0 E1 E2 v9 E3=>exact Zko a0 a1 a2 a3 E0 E1 E2 v9 E3 hs
theorem Zit(a0:Int)(a1:Zb)(a2:(List Za))(a3:Zj)(oa1:Zw a1)(oa2:(SzL 176 Zv) a2)(oa3:Zat a3):Tot (Zgn a0 a1 a2 a3) (fun r=>(r=Zjo a1 a2 a3.You a3.Source a0)):=by
 unfold Zgn
 refine tZ ?_
 have lb_a2:=oa2.1
 dsimp only [Zjz,LT.den]
 refine tB (Zaji a1 a2 a3 a0 oa1 oa2 oa3) (fun x1 h2=>?_)
 have eh2_0:=h2
 exact tR (by assumption)
def Zhk(a0:(List Int))(a1:Zb)(a1_1:(List Za))(a1_2:Zj):Zbl→Prop
 | .L0 v0 w1_0 w1_1 w1_2 v7 v8=>(v0=a0)∧(w1_0=a1)∧(w1_1=a1_1)∧(w1_2=a1_2)∧((SzL 8 (fun _=>True)) v0)∧(Zw w1_0)∧((SzL 176 Zv) w1_1)∧(Zat w1_2)∧(0≤v8)∧(v7=(v0.length:Int))∧(∀ (k:Nat) x,(k:Int) < v8→v0[k]?=some x→(fun id => !Zjo w1_0 w1_1 w1_2.You w1_2.Source id) x=true)
def Zd1:Zbl→M6
 | .L0 v0 w1_0 w1_1 w1_2 v7 v8=>(1,(v7 - v8).toNat,1000000,0,0,0)
theorem Zhl(a0:(List Int))(a1:Zb)(a1_1:(List Za))(a1_2:Zj)(oa0:(SzL 8 (fun _=>True)) a0)(oa1:Zw a1)(oa1_1:(SzL 176 Zv) a1_1)(oa1_2:Zat a1_2):Tot (Zct a0 a1 a1_1 a1_2) (fun r=>(FD a0 (fun id => !Zjo a1 a1_1 a1_2.You a1_2.Source id) r)):=by
 unfold Zct
 refine tX (Inv:=(Zhk a0 a1 a1_1 a1_2)) (μ:=Zd1) (m:=(1000000,0,0,0,0,0)) ?_ ?_
 ·have lb_a0:=oa0.1
  have lb_a1_1:=oa1_1.1
  dsimp only [Zd7,LT.den]
  have q1:=oa0.1
  exact tL ⟨rfl,rfl,rfl,rfl,oa0,oa1,oa1_1,oa1_2,cl,cl,tk46⟩ tk67
 ·intro s hs
  cases s with
  | L0 v0 w1_0 w1_1 w1_2 v7 v8=>
   obtain⟨al0,al1,al2,al3,ov0,ow1_0,ow1_1,ow1_2,cv8,i0,i1⟩:=hs
   have lb_v0:=ov0.1
   have lb_w1_1:=ow1_1.1
   subst al0
   subst al1
   subst al2
   subst al3
   show Tot (Zch v0 w1_0 w1_1 w1_2 v7 v8).den _
   dsimp only [Zch,LT.den]
   refine tD (fun h1=>?_) (fun h1=>?_)
   ·refine tB (tI (by omega) (by omega)) (fun x2 h3=>?_)
    have mh3:=h3.2
    refine tB (Zit x2 w1_0 w1_1 w1_2 ow1_0 ow1_1 ow1_2) (fun x4 h5=>?_)
    have eh5_0:=h5
    refine tF (fun h6=>?_) (fun h6=>?_)
    ·exact tR tk40
    ·refine qw (v8+1) fun q7 q8=>?_
     exact tL ⟨rfl,rfl,rfl,rfl,ov0,ow1_0,ow1_1,ow1_2,cl,cl,tk46⟩ tk67
   ·exact tR tk40
abbrev Zfw(b0:(List Int))(a1:Zb)(a1_1:(List Za))(a1_2:Zj)(r:(List Int)):Prop:=((SzL 8 (fun _=>True)) r)∧(r.length≤b0.length)∧(r=b0.filter (fun id => !Zjo a1 a1_1 a1_2.You a1_2.Source id))
def Zfy(b0:(List Int))(a1:Zb)(a1_1:(List Za))(a1_2:Zj):Zbh→Prop
 | .L0 v0 w1_0 w1_1 w1_2 v5 v6=>(w1_0=a1)∧(w1_1=a1_1)∧(w1_2=a1_2)∧((SzL 8 (fun _=>True)) v0)∧(Zw w1_0)∧((SzL 176 Zv) w1_1)∧(Zat w1_2)∧(0≤v6)∧(DI b0 v0 (fun id => !Zjo w1_0 w1_1 w1_2.You w1_2.Source id) v5 v6)∧(v6≤(v0.length:Int))
def Zc7:Zbh→M6
 | .L0 v0 w1_0 w1_1 w1_2 v5 v6=>(1,((v0.length:Int) - v6).toNat,1000000,0,0,0)
theorem Zfz(b0:(List Int))(a1:Zb)(a1_1:(List Za))(a1_2:Zj)(ob0:(SzL 8 (fun _=>True)) b0)(oa1:Zw a1)(oa1_1:(SzL 176 Zv) a1_1)(oa1_2:Zat a1_2):Tot (Zb4 b0 a1 a1_1 a1_2) (Zfw b0 a1 a1_1 a1_2):=by
 unfold Zb4
 refine tX (Inv:=(Zfy b0 a1 a1_1 a1_2)) (μ:=Zc7) (m:=(1000000,0,0,0,0,0)) ?_ ?_
 ·have lb_b0:=ob0.1
  have lb_a1_1:=oa1_1.1
  dsimp only [Zdc,LT.den]
  refine tB (Zhl b0 a1 a1_1 a1_2 ob0 oa1 oa1_1 oa1_2) (fun x1 h2=>?_)
  have eh2_0:=h2
  have ph2:=Zbjg eh2_0
  refine tE (fun h3=>?_) (fun h3=>?_)
  ·exact tR ⟨ob0,cl,tk19⟩
  ·refine qw (x1+1) fun q4 q5=>?_
   exact tL ⟨rfl,rfl,rfl,ob0,oa1,oa1_1,oa1_2,cl,tk9,cl⟩ tk64
 ·intro s hs
  cases s with
  | L0 v0 w1_0 w1_1 w1_2 v5 v6=>
   obtain⟨al0,al1,al2,ov0,ow1_0,ow1_1,ow1_2,cv6,i0,i1⟩:=hs
   have lb_v0:=ov0.1
   have lb_w1_1:=ow1_1.1
   subst al0
   subst al1
   subst al2
   show Tot (Zbz v0 w1_0 w1_1 w1_2 v5 v6).den _
   dsimp only [Zbz,LT.den]
   have l0:=i0.1;have l1:=i0.2.1;have l2:=i0.2.2.1
   have q1:=ov0.1
   refine tD (fun h2=>?_) (fun h2=>?_)
   ·refine tB (tI (by omega) (by omega)) (fun x3 h4=>?_)
    have mh4:=h4.2
    refine tB (Zit x3 w1_0 w1_1 w1_2 ow1_0 ow1_1 ow1_2) (fun x5 h6=>?_)
    have eh6_0:=h6
    refine tO (fun h7=>?_) (fun h7=>?_)
    ·refine tB (tI (by omega) (by omega)) (fun x8 h9=>?_)
     have mh9:=h9.2
     refine tB (Tot.set (by omega) (by omega)) (fun x10 h11=>?_)
     have lh11:=h11.1
     have vh11:=h11.2.2
     refine qw (v5+1) fun q12 q13=>?_
     refine qw (v6+1) fun q14 q15=>?_
     exact tL ⟨rfl,rfl,rfl,⟨lo,fun _ _=>trivial⟩,ow1_0,ow1_1,ow1_2,cl,tk9,cl⟩ tk64
    ·refine qw (v6+1) fun q16 q17=>?_
     exact tL ⟨rfl,rfl,rfl,ov0,ow1_0,ow1_1,ow1_2,cl,tk9,cl⟩ tk64
   ·refine tB (Tot.clr (by omega) (by omega)) (fun x18 h19=>?_)
    have lh19:=h19.1
    have vh19:=h19.2.2
    have q22:x18.length*8≤140737488351232:=(show SzL 8 (fun _=>True) x18 from ⟨lo,fun _ _=>trivial⟩).1
    refine tB (Tot.slice (by omega) (by omega) (by omega)) (fun x20 h21=>?_)
    have lh21:=h21.1
    have vh21:=h21.2.2
    exact tR ⟨⟨lo,fun _ _=>trivial⟩,cl,tk19⟩
abbrev Z3q(a0:Zb)(a1:(List Za))(a2:Zj)(a3:Zr)(r:(List Zi)):Prop:=((SzL 24 (fun _=>True)) r)∧(r.length≤64)∧(r=lgV a0 a1 a2 a3)
def Zti(a0:Zb)(a1:(List Za))(a2:Zj)(a3:Zr):Zky→Prop
 | .L0 E0 E1 E2 E3 v9=>(E0=a0)∧(E1=a1)∧(E2=a2)∧(E3=a3)∧(Zw E0)∧((SzL 176 Zv) E1)∧(Zat E2)∧(Zas E3)∧((SzL 24 (fun _=>True)) v9)∧(E0.Objects.length≤60)∧(v9.length≤4)∧(v9=lgP E0 E3)
def Z89:Zky→M6
 | .L0 E0 E1 E2 E3 v9=>(0,0,0,0,0,0)
theorem Znu(a0:Zb)(a1:(List Za))(a2:Zj)(a3:Zr)(E0:Zb)(E1:(List Za))(E2:Zj)(E3:Zr)(v9:(List Zi))(h:(Zti a0 a1 a2 a3) (.L0 E0 E1 E2 E3 v9)):Tot (Zi8 E0 E1 E2 E3 v9).den (Nx (Zti a0 a1 a2 a3) Z89 (0,0,0,0,0,0) (Z3q a0 a1 a2 a3)):=by
 obtain⟨al0,al1,al2,al3,O0,O1,O2,O3,ov9,i0,i1,i2⟩:=h
 have lb_b30000001:=O1.1
 have lb_v9:=ov9.1
 subst al0
 subst al1
 subst al2
 subst al3
 dsimp only [Zi8,LT.den]
 refine tF (fun h1=>?_) (fun h1=>?_)
 ·refine tB (Zaw3 E0 E1 E2.You E2.Source E3.Filter O0 O1 O3) (fun x2 h3=>?_)
  have eh3_1:=h3.2
  have lh3:x2.length≤E0.Objects.length:=by rw [eh3_1];exact Zazl ..
  refine tB (Zfz x2 E0 E1 E2 h3.1 O0 O1 O2) (fun x4 h5=>?_)
  have eh5_1:=h5.2.1
  have eh5_2:=h5.2.2
  refine tB (Zxz 5 x4 h5.1 cl) (fun x6 h7=>?_)
  have eh7_1:=h7.2.1
  have eh7_2:=h7.2.2
  have q10:=ov9.1
  have q11:=h7.1.1
  refine tB (tA Zkm (by decide)) (fun x8 h9=>?_)
  have lh9:x8.length=v9.length+x6.length:=by rw [h9,List.length_append]
  try simp only [List.length_cons,List.length_nil,Nat.zero_add] at lh9
  exact tR ⟨⟨lo,fun _ _=>trivial⟩,cl,tk52⟩
 ·exact tR ⟨ov9,cl,tk52⟩
theorem Zf3(a0:Zb)(a1:(List Za))(a2:Zj)(a3:Zr)(oa0:Zw a0)(oa1:(SzL 176 Zv) a1)(oa2:Zat a2)(oa3:Zas a3)(h0:a0.Objects.length≤60)(h1:a0.Players.length≤4):Tot (Zv7 a0 a1 a2 a3) (Z3q a0 a1 a2 a3):=by
 unfold Zv7
 refine tX (Inv:=(Zti a0 a1 a2 a3)) (μ:=Z89) (m:=(1000000,0,0,0,0,0)) ?_ ?_
 ·have lb_a1:=oa1.1
  dsimp only [Zab4,LT.den]
  refine tF (fun h1=>?_) (fun h1=>?_)
  ·refine tB (Zaoq a0 oa0) (fun x2 h3=>?_)
   have eh3_1:=h3.2.1
   have eh3_2:=h3.2.2
   refine tB (Zxz 6 x2 h3.1 cl) (fun x4 h5=>?_)
   have eh5_1:=h5.2.1
   have eh5_2:=h5.2.2
   have q8:=h5.1.1
   refine tB (tA Zkm (by decide)) (fun x6 h7=>?_)
   have lh7:x6.length=([]:(List Zi)).length+x4.length:=by rw [h7,List.length_append]
   try simp only [List.length_cons,List.length_nil,Nat.zero_add] at lh7
   exact tJ (Znu a0 a1 a2 a3 a0 a1 a2 a3 x6 ⟨rfl,rfl,rfl,rfl,oa0,oa1,oa2,oa3,⟨lo,fun _ _=>trivial⟩,cl,cl,tk57⟩)
  ·exact tJ (Znu a0 a1 a2 a3 a0 a1 a2 a3 ([]:(List Zi)) ⟨rfl,rfl,rfl,rfl,oa0,oa1,oa2,oa3,SzL.nil,cl,cl,tk57⟩)
 ·intro s hs
  cases s with
  | L0 E0 E1 E2 E3 v9=>exact Znu a0 a1 a2 a3 E0 E1 E2 E3 v9 hs
def Zjr(a0:Zm):Zi9→Prop
 | .L0 E0 v3 v8 v9=>(E0=a0)∧(Zap E0)∧(v8=E0.Kind)∧(v3=(E0.Options.length:Int))∧(E0.Kind=2→v9=true)
 | .L1 E0 v3 v8 v19=>(E0=a0)∧(Zap E0)∧(v8=E0.Kind)∧(¬ E0.Kind=2)
def Zzm:Zi9→M6
 | .L0 E0 v3 v8 v9=>(0,0,0,0,0,0)
 | .L1 E0 v3 v8 v19=>(0,0,0,0,0,0)
theorem Zoz(a0:Zm)(E0:Zm)(v3:Int)(v8:Int)(v19:Bool)(h:(Zjr a0) (.L1 E0 v3 v8 v19)):Tot (Zkz E0 v3 v8 v19).den (Nx (Zjr a0) Zzm (0,0,0,0,0,0) (fun r=>(a0.Kind=2→(r=true↔a0.Options.length≤1)))):=by
 obtain⟨al0,O0,i0,i1⟩:=h
 subst al0
 dsimp only [Zkz,LT.den]
 refine tF (fun h1=>?_) (fun h1=>?_)
 ·exact tR (by grind)
 ·refine tE (fun h2=>?_) (fun h2=>?_)
  ·refine tE (fun h3=>?_) (fun h3=>?_)
   ·refine tE (fun h4=>?_) (fun h4=>?_)
    ·exact tR (by grind)
    ·exact tR (by grind)
   ·exact tR (by grind)
  ·refine tE (fun h5=>?_) (fun h5=>?_)
   ·exact tR (by grind)
   ·exact tR (by grind)
theorem Zde(a0:Zm)(E0:Zm)(v3:Int)(v8:Int)(v9:Bool)(h:(Zjr a0) (.L0 E0 v3 v8 v9)):Tot (Zdv E0 v3 v8 v9).den (Nx (Zjr a0) Zzm (0,0,0,0,0,0) (fun r=>(a0.Kind=2→(r=true↔a0.Options.length≤1)))):=by
 obtain⟨al0,O0,i0,i1,i2⟩:=h
 subst al0
 dsimp only [Zdv,LT.den]
 refine tF (fun h1=>?_) (fun h1=>?_)
 ·exact tR (by grind)
 ·refine tE (fun h2=>?_) (fun h2=>?_)
  ·exact tJ (Zoz E0 E0 v3 v8 (v8==6) ⟨rfl,O0,cl,(by grind)⟩)
  ·exact tJ (Zoz E0 E0 v3 v8 (v8==7) ⟨rfl,O0,cl,(by grind)⟩)
theorem Zaw4(a0:Zm)(oa0:Zap a0):Tot (Zaah a0) (fun r=>(a0.Kind=2→(r=true↔a0.Options.length≤1))):=by
 unfold Zaah
 refine tX (Inv:=(Zjr a0)) (μ:=Zzm) (m:=(1000000,0,0,0,0,0)) ?_ ?_
 ·dsimp only [Zaf2,LT.den]
  have q1:=oa0.1
  refine tE (fun h2=>?_) (fun h2=>?_)
  ·exact tJ (Zde a0 a0 (a0.Options.length:Int) a0.Kind (a0.Kind==1) ⟨rfl,oa0,cl,cl,Znq⟩)
  ·refine tE (fun h3=>?_) (fun h3=>?_)
   ·exact tJ (Zde a0 a0 (a0.Options.length:Int) a0.Kind (a0.Kind==2) ⟨rfl,oa0,cl,cl,Znq⟩)
   ·refine tE (fun h4=>?_) (fun h4=>?_)
    ·exact tJ (Zde a0 a0 (a0.Options.length:Int) a0.Kind (a0.Kind==9) ⟨rfl,oa0,cl,cl,Znq⟩)
    ·refine tE (fun h5=>?_) (fun h5=>?_)
     ·exact tJ (Zde a0 a0 (a0.Options.length:Int) a0.Kind (a0.Kind==10) ⟨rfl,oa0,cl,cl,Znq⟩)
     ·refine tE (fun h6=>?_) (fun h6=>?_)
      ·exact tJ (Zde a0 a0 (a0.Options.length:Int) a0.Kind (a0.Kind==11) ⟨rfl,oa0,cl,cl,Znq⟩)
      ·refine tE (fun h7=>?_) (fun h7=>?_)
       ·exact tJ (Zde a0 a0 (a0.Options.length:Int) a0.Kind (a0.Kind==4) ⟨rfl,oa0,cl,cl,Znq⟩)
       ·exact tJ (Zde a0 a0 (a0.Options.length:Int) a0.Kind (a0.Kind==8) ⟨rfl,oa0,cl,cl,Znq⟩)
 ·intro s hs
  cases s with
  | L0 E0 v3 v8 v9=>exact Zde a0 E0 v3 v8 v9 hs
  | L1 E0 v3 v8 v19=>exact Zoz a0 E0 v3 v8 v19 hs
def Za0z:Zpp→Prop
 | .L0 v3 v5 v6=>((SzL 8 (fun _=>True)) v3)∧(0≤v6)∧(v5≤10000000000000)∧(v3.length≤v6.toNat)
def Z3r:Zpp→M6
 | .L0 v3 v5 v6=>(1,(v5 - v6).toNat,1000000,0,0,0)
theorem Zadf(a0:Int)(h0:a0≤10000000000000):Tot (Zaf4 a0) (fun r=>((SzL 8 (fun _=>True)) r)):=by
 unfold Zaf4
 refine tX (Inv:=Za0z) (μ:=Z3r) (m:=(1000000,0,0,0,0,0)) ?_ ?_
 ·dsimp only [Zak3,LT.den]
  exact tL ⟨SzL.nil,cl,cl,cl⟩ (by unfold Z3r lt6;dsimp only;omega)
 ·intro s hs
  cases s with
  | L0 v3 v5 v6=>
   obtain⟨ov3,cv6,i0,i1⟩:=hs
   have lb_v3:=ov3.1
   show Tot (Z2i v3 v5 v6).den _
   dsimp only [Z2i,LT.den]
   refine tD (fun h1=>?_) (fun h1=>?_)
   ·have q2:(SzL 8 (fun _=>True)) ([v6]:(List Int)):=⟨by simp only [List.length_cons,List.length_nil];omega,fun _ _=>trivial⟩
    have q5:=ov3.1
    refine tB (tA Zb0 (by decide)) (fun x3 h4=>?_)
    have lh4:x3.length=v3.length+1:=by rw [h4,List.length_append];rfl
    refine qw (v6+1) fun q6 q7=>?_
    exact tL ⟨⟨lo,fun _ _=>trivial⟩,cl,cl,cl⟩ (by unfold Z3r lt6;dsimp only;omega)
   ·exact tR ov3
def Ztj(a0:Zm):Zk0→Prop
 | .L0 E0 v3 v9 v10=>(E0=a0)∧(Zap E0)∧(v9=E0.Kind)∧(v3=(E0.Options.length:Int))∧(E0.Kind=2→v10=true)
def Z9a:Zk0→M6
 | .L0 E0 v3 v9 v10=>(0,0,0,0,0,0)
theorem Zex(a0:Zm)(E0:Zm)(v3:Int)(v9:Int)(v10:Bool)(h:(Ztj a0) (.L0 E0 v3 v9 v10)):Tot (Zet E0 v3 v9 v10).den (Nx (Ztj a0) Z9a (0,0,0,0,0,0) (fun r=>((SzL 8 (fun _=>True)) r)∧(a0.Kind=2→r=[0]))):=by
 obtain⟨al0,O0,i0,i1,i2⟩:=h
 subst al0
 dsimp only [Zet,LT.den]
 have lq:=O0.1
 refine tF (fun h1=>?_) (fun h1=>?_)
 ·have q2:(SzL 8 (fun _=>True)) ([0]:(List Int)):=⟨by simp only [List.length_cons,List.length_nil];omega,fun _ _=>trivial⟩
  exact tR ⟨q2,Zs7⟩
 ·refine tE (fun h3=>?_) (fun h3=>?_)
  ·refine tB (Zadf (Zt8 (Zrp E0.Least 0) v3) tk88) (fun x4 h5=>?_)
   exact tR ⟨h5,Zs7⟩
  ·refine tE (fun h6=>?_) (fun h6=>?_)
   ·refine tB (Zadf v3 tk88) (fun x7 h8=>?_)
    exact tR ⟨h8,Zs7⟩
   ·refine tE (fun h9=>?_) (fun h9=>?_)
    ·have q10:(SzL 8 (fun _=>True)) ([E0.Least]:(List Int)):=⟨by simp only [List.length_cons,List.length_nil];omega,fun _ _=>trivial⟩
     exact tR ⟨q10,Zs7⟩
    ·refine tE (fun h11=>?_) (fun h11=>?_)
     ·refine tD (fun h12=>?_) (fun h12=>?_)
      ·refine tB (Tot.make ⟨by omega,by omega,by omega,by omega⟩) (fun x13 h14=>?_)
       have lh14:=h14.1
       refine tB (tI (by omega) (by omega)) (fun x15 h16=>?_)
       refine tB (Tot.set (by omega) (by omega)) (fun x17 h18=>?_)
       have lh18:=h18.1
       exact tR ⟨⟨lo,fun _ _=>trivial⟩,Zs7⟩
      ·exact tR ⟨SzL.nil,Zs7⟩
     ·exact tR ⟨SzL.nil,Zs7⟩
theorem Zia(a0:Zm)(oa0:Zap a0):Tot (Z6l a0) (fun r=>((SzL 8 (fun _=>True)) r)∧(a0.Kind=2→r=[0])):=by
 unfold Z6l
 refine tX (Inv:=(Ztj a0)) (μ:=Z9a) (m:=(1000000,0,0,0,0,0)) ?_ ?_
 ·have lq:=oa0.1
  dsimp only [Zab7,LT.den]
  have q1:=oa0.1
  refine tE (fun h2=>?_) (fun h2=>?_)
  ·exact tJ (Zex a0 a0 (a0.Options.length:Int) a0.Kind (a0.Kind==1) ⟨rfl,oa0,cl,cl,Znq⟩)
  ·refine tE (fun h3=>?_) (fun h3=>?_)
   ·exact tJ (Zex a0 a0 (a0.Options.length:Int) a0.Kind (a0.Kind==2) ⟨rfl,oa0,cl,cl,Znq⟩)
   ·refine tE (fun h4=>?_) (fun h4=>?_)
    ·exact tJ (Zex a0 a0 (a0.Options.length:Int) a0.Kind (a0.Kind==9) ⟨rfl,oa0,cl,cl,Znq⟩)
    ·refine tE (fun h5=>?_) (fun h5=>?_)
     ·exact tJ (Zex a0 a0 (a0.Options.length:Int) a0.Kind (a0.Kind==10) ⟨rfl,oa0,cl,cl,Znq⟩)
     ·exact tJ (Zex a0 a0 (a0.Options.length:Int) a0.Kind (a0.Kind==11) ⟨rfl,oa0,cl,cl,Znq⟩)
 ·intro s hs
  cases s with
  | L0 E0 v3 v9 v10=>exact Zex a0 E0 v3 v9 v10 hs
theorem Zlm(a0:(List Zi))(oa0:(SzL 24 (fun _=>True)) a0):Tot (Zif a0) (fun r=>((SzL 24 (fun _=>True)) r)∧(r=a0)):=by
 unfold Zif
 refine tZ ?_
 have lb_a0:=oa0.1
 dsimp only [Zm3,LT.den]
 have q3:=oa0.1
 refine tB (tA Zkm (by decide)) (fun x1 h2=>?_)
 have lh2:x1.length=([]:(List Zi)).length+a0.length:=by rw [h2,List.length_append]
 try simp only [List.length_cons,List.length_nil,Nat.zero_add] at lh2
 exact tR ⟨⟨lo,fun _ _=>trivial⟩,Zan⟩
def Zx0(a0:(List Int))(a1:Int):Zdi→Prop
 | .L0 v0 v1 v7 v8=>(v0=a0)∧(v1=a1)∧((SzL 8 (fun _=>True)) v0)∧(0≤v8)∧(v7=(v0.length:Int))∧(∀ (k:Nat) y,(k:Int) < v8→v0[k]?=some y→y≠v1)
def Zln:Zdi→M6
 | .L0 v0 v1 v7 v8=>(1,(v7 - v8).toNat,1000000,0,0,0)
theorem Zj5(a0:(List Int))(a1:Int)(oa0:(SzL 8 (fun _=>True)) a0):Tot (Zhr a0 a1) (fun r=>((r = -1∧¬ a1∈a0)∨(0≤r∧r < (a0.length:Int)))):=by
 unfold Zhr
 refine tX (Inv:=(Zx0 a0 a1)) (μ:=Zln) (m:=(1000000,0,0,0,0,0)) ?_ ?_
 ·have lb_a0:=oa0.1
  dsimp only [Zmf,LT.den]
  have q1:=oa0.1
  exact tL ⟨rfl,rfl,oa0,cl,cl,tk47⟩ tk80
 ·intro s hs
  cases s with
  | L0 v0 v1 v7 v8=>
   obtain⟨al0,al1,ov0,cv8,i0,i1⟩:=hs
   have lb_v0:=ov0.1
   subst al0
   subst al1
   show Tot (Zgb v0 v1 v7 v8).den _
   dsimp only [Zgb,LT.den]
   refine tD (fun h1=>?_) (fun h1=>?_)
   ·refine tB (tI (by omega) (by omega)) (fun x2 h3=>?_)
    have mh3:=h3.2
    refine tE (fun h4=>?_) (fun h4=>?_)
    ·exact tR tk58
    ·refine qw (v8+1) fun q5 q6=>?_
     exact tL ⟨rfl,rfl,ov0,cl,cl,tk47⟩ tk80
   ·exact tR tk58
theorem Zatu(a0:(List Int))(a1:Int)(oa0:(SzL 8 (fun _=>True)) a0):Tot (Z6m a0 a1) (fun r=>((r = -1∧¬ a1∈a0)∨(0≤r∧r < (a0.length:Int)))):=by
 unfold Z6m
 refine tZ ?_
 have lb_a0:=oa0.1
 dsimp only [Zab9,LT.den]
 refine tB (Zj5 a0 a1 oa0) (fun x1 h2=>?_)
 have eh2_0:=h2
 exact tR tk58
abbrev Zaor(a0:Zm)(a1:(List Int))(r:Bool):Prop:=(a1.length=1→(r=true↔∀ x,x∈a1→0≤x∧x < (a0.Options.length:Int)))∧(r=true→∀ x,x∈a1→0≤x∧x < (a0.Options.length:Int))
def Zatv(a0:Zm)(a1:(List Int)):Zk3→Prop
 | .L0 v1 E0 v7 v8 v9=>(E0=a0)∧(v1=a1)∧((SzL 8 (fun _=>True)) v1)∧(Zap E0)∧((SzL 8 (fun _=>True)) v7)∧(0≤v9)∧(v8=(v7.length:Int))∧(v7=v1)∧(∀ (k:Nat) y,(k:Int) < v9→v7[k]?=some y→0≤y∧y < (E0.Options.length:Int))
def Zvl:Zk3→M6
 | .L0 v1 E0 v7 v8 v9=>(1,(v8 - v9).toNat,1000000,0,0,0)
theorem Zmi(a0:Zm)(a1:(List Int))(oa0:Zap a0)(oa1:(SzL 8 (fun _=>True)) a1):Tot (Z6n a0 a1) (Zaor a0 a1):=by
 unfold Z6n
 refine tX (Inv:=(Zatv a0 a1)) (μ:=Zvl) (m:=(1000000,0,0,0,0,0)) ?_ ?_
 ·have lb_a1:=oa1.1
  dsimp only [Zacb,LT.den]
  have q1:=oa1.1
  exact tL ⟨rfl,rfl,oa1,oa0,oa1,cl,cl,Zhj,tk31⟩ (by unfold Zvl lt6;dsimp only;omega)
 ·intro s hs
  cases s with
  | L0 v1 E0 v7 v8 v9=>
   obtain⟨al0,al1,ov1,O0,ov7,cv9,i0,i1,i2⟩:=hs
   have lb_v1:=ov1.1
   have lb_v7:=ov7.1
   subst al0
   subst al1
   show Tot (Zup v1 E0 v7 v8 v9).den _
   dsimp only [Zup,LT.den]
   refine tD (fun h1=>?_) (fun h1=>?_)
   ·refine tB (tI (by omega) (by omega)) (fun x2 h3=>?_)
    have mh3:=h3.2;have nh3:=h3.1
    refine tD (fun h4=>?_) (fun h4=>?_)
    ·exact tR ⟨(by first | (intro hl;refine⟨fun h=>absurd h (by decide),fun h=>?_⟩;exfalso;have:=h _ (by assumption);omega) | (intro hl;refine⟨fun _ x hx=>?_,fun _=>rfl⟩;obtain⟨k,hk⟩:=List.mem_iff_getElem?.1 hx;have:=(List.getElem?_eq_some_iff.1 hk).1;grind) | (intro hl;exfalso;omega) | grind),(by first | (intro h;exact absurd h (by decide)) | (intro _ x hx;obtain⟨k,hk⟩:=List.mem_iff_getElem?.1 hx;have:=(List.getElem?_eq_some_iff.1 hk).1;grind))⟩
    ·have q5:=O0.1
     refine tD (fun h6=>?_) (fun h6=>?_)
     ·exact tR ⟨(by first | (intro hl;refine⟨fun h=>absurd h (by decide),fun h=>?_⟩;exfalso;have:=h _ (by assumption);omega) | (intro hl;refine⟨fun _ x hx=>?_,fun _=>rfl⟩;obtain⟨k,hk⟩:=List.mem_iff_getElem?.1 hx;have:=(List.getElem?_eq_some_iff.1 hk).1;grind) | (intro hl;exfalso;omega) | grind),(by first | (intro h;exact absurd h (by decide)) | (intro _ x hx;obtain⟨k,hk⟩:=List.mem_iff_getElem?.1 hx;have:=(List.getElem?_eq_some_iff.1 hk).1;grind))⟩
     ·refine tB (Zatu v1 x2 ov1) (fun x7 h8=>?_)
      have eh8_0:=h8
      refine tN (fun h9=>?_) (fun h9=>?_)
      ·exact tR ⟨(by first | (intro hl;refine⟨fun h=>absurd h (by decide),fun h=>?_⟩;exfalso;have:=h _ (by assumption);omega) | (intro hl;refine⟨fun _ x hx=>?_,fun _=>rfl⟩;obtain⟨k,hk⟩:=List.mem_iff_getElem?.1 hx;have:=(List.getElem?_eq_some_iff.1 hk).1;grind) | (intro hl;exfalso;omega) | grind),(by first | (intro h;exact absurd h (by decide)) | (intro _ x hx;obtain⟨k,hk⟩:=List.mem_iff_getElem?.1 hx;have:=(List.getElem?_eq_some_iff.1 hk).1;grind))⟩
      ·refine qw (v9+1) fun q10 q11=>?_
       exact tL ⟨rfl,rfl,ov1,O0,ov7,cl,cl,Zhj,tk31⟩ (by unfold Zvl lt6;dsimp only;omega)
   ·exact tR ⟨(by first | (intro hl;refine⟨fun h=>absurd h (by decide),fun h=>?_⟩;exfalso;have:=h _ (by assumption);omega) | (intro hl;refine⟨fun _ x hx=>?_,fun _=>rfl⟩;obtain⟨k,hk⟩:=List.mem_iff_getElem?.1 hx;have:=(List.getElem?_eq_some_iff.1 hk).1;grind) | (intro hl;exfalso;omega) | grind),(by first | (intro h;exact absurd h (by decide)) | (intro _ x hx;obtain⟨k,hk⟩:=List.mem_iff_getElem?.1 hx;have:=(List.getElem?_eq_some_iff.1 hk).1;grind))⟩
theorem Ztk(a0:(List Int))(a1:Int)(oa0:(SzL 8 (fun _=>True)) a0):Tot (Zgc a0 a1) (fun r=>True):=by
 unfold Zgc
 refine tZ ?_
 have lb_a0:=oa0.1
 dsimp only [Zja,LT.den]
 refine tB (Zj5 a0 a1 oa0) (fun x1 h2=>?_)
 have eh2_0:=h2
 exact tR trivial
theorem Za00(a0:(List Int))(a1:Int)(oa0:(SzL 8 (fun _=>True)) a0):Tot (Zaf5 a0 a1) (fun r=>True):=by
 unfold Zaf5
 refine tZ ?_
 have lb_a0:=oa0.1
 dsimp only [Zak5,LT.den]
 refine tB (Ztk a0 a1 oa0) (fun x1 h2=>?_)
 exact tR trivial
def Zaos(a0:Zm)(a1:(List Int)):Zjc→Prop
 | .L0 E0 v5 v8 v9 v10=>(E0=a0)∧(Zap E0)∧((SzL 8 (fun _=>True)) v5)∧((SzL 8 (fun _=>True)) v8)∧(0≤v10)∧(∀ x,x∈v8→0≤x∧x < (E0.Options.length:Int))∧(v9=(v8.length:Int))∧(v5.length≤v10.toNat)∧(v10≤v9)
def Ztl:Zjc→M6
 | .L0 E0 v5 v8 v9 v10=>(1,(v9 - v10).toNat,1000000,0,0,0)
theorem Zaot(a0:Zm)(a1:(List Int))(oa0:Zap a0)(oa1:(SzL 8 (fun _=>True)) a1)(h0:∀ x,x∈a1→0≤x∧x < (a0.Options.length:Int)):Tot (Z2j a0 a1) (fun r=>True):=by
 unfold Z2j
 refine tX (Inv:=(Zaos a0 a1)) (μ:=Ztl) (m:=(1000000,0,0,0,0,0)) ?_ ?_
 ·have lb_a1:=oa1.1
  dsimp only [Z8m,LT.den]
  have q1:=oa1.1
  exact tL ⟨rfl,oa0,SzL.nil,oa1,cl,Zan,cl,cl,cl⟩ (by unfold Ztl lt6;dsimp only;omega)
 ·intro s hs
  cases s with
  | L0 E0 v5 v8 v9 v10=>
   obtain⟨al0,O0,ov5,ov8,cv10,i0,i1,i2,i3⟩:=hs
   have lb_v5:=ov5.1
   have lb_v8:=ov8.1
   subst al0
   show Tot (Zsl E0 v5 v8 v9 v10).den _
   dsimp only [Zsl,LT.den]
   refine tD (fun h1=>?_) (fun h1=>?_)
   ·refine tB (tI (by omega) (by omega)) (fun x2 h3=>?_)
    have nh3:=i0 _ h3.1
    refine tB (tI (by omega) (by omega)) (fun x4 h5=>?_)
    refine tB (Za00 v5 x4.A ov5) (fun x6 h7=>?_)
    refine tF (fun h8=>?_) (fun h8=>?_)
    ·exact tR trivial
    ·have q9:(SzL 8 (fun _=>True)) ([x4.A]:(List Int)):=⟨by simp only [List.length_cons,List.length_nil];omega,fun _ _=>trivial⟩
     have q12:=ov5.1
     refine tB (tA Zb0 (by decide)) (fun x10 h11=>?_)
     have lh11:x10.length=v5.length+1:=by rw [h11,List.length_append];rfl
     refine qw (v10+1) fun q13 q14=>?_
     exact tL ⟨rfl,O0,⟨lo,fun _ _=>trivial⟩,ov8,cl,Zan,cl,cl,cl⟩ (by unfold Ztl lt6;dsimp only;omega)
   ·exact tR trivial
def Zaou:Zjd→Prop
 | .L0 v1 E0 v5 v8 v9 v10=>((SzL 8 (fun _=>True)) v1)∧(Zap E0)∧((SzL 8 (fun _=>True)) v8)∧(0≤v10)∧(v9=(v8.length:Int))
def Ztm:Zjd→M6
 | .L0 v1 E0 v5 v8 v9 v10=>(1,(v9 - v10).toNat,1000000,0,0,0)
theorem Zaov(a0:Zm)(a1:(List Int))(oa0:Zap a0)(oa1:(SzL 8 (fun _=>True)) a1):Tot (Z2k a0 a1) (fun r=>True):=by
 unfold Z2k
 refine tX (Inv:=Zaou) (μ:=Ztm) (m:=(1000000,0,0,0,0,0)) ?_ ?_
 ·have lb_a1:=oa1.1
  dsimp only [Z8o,LT.den]
  have q1:=oa1.1
  exact tL ⟨oa1,oa0,oa1,cl,cl⟩ (by unfold Ztm lt6;dsimp only;omega)
 ·intro s hs
  cases s with
  | L0 v1 E0 v5 v8 v9 v10=>
   obtain⟨ov1,O0,ov8,cv10,i0⟩:=hs
   have lb_v1:=ov1.1
   have lb_v8:=ov8.1
   show Tot (Zsm v1 E0 v5 v8 v9 v10).den _
   dsimp only [Zsm,LT.den]
   refine tD (fun h1=>?_) (fun h1=>?_)
   ·refine tB (tI (by omega) (by omega)) (fun x2 h3=>?_)
    refine tD (fun h4=>?_) (fun h4=>?_)
    ·exact tR trivial
    ·refine tD (fun h5=>?_) (fun h5=>?_)
     ·exact tR trivial
     ·refine qw (v5+x2) fun q6 q7=>?_
      refine qw (v10+1) fun q8 q9=>?_
      exact tL ⟨ov1,O0,ov8,cl,cl⟩ (by unfold Ztm lt6;dsimp only;omega)
   ·have q10:=ov1.1
    have q11:=O0.1
    refine tE (fun h12=>?_) (fun h12=>?_)
    ·exact tR trivial
    ·exact tR trivial
abbrev Zvm(a0:Zm)(a1:(List Int))(r:Bool):Prop:=(a0.Kind=2→(r=true↔a1.length=1∧∀ x,x∈a1→0≤x∧x < (a0.Options.length:Int)))
def Zlo(a0:Zm)(a1:(List Int)):Zlx→Prop
 | .L0 v1 E0 v9 v10=>(E0=a0)∧(v1=a1)∧((SzL 8 (fun _=>True)) v1)∧(Zap E0)∧(v9=E0.Kind)∧(E0.Kind=2→v10=true)
 | .L1 v1 E0 v9 v77=>(E0=a0)∧(v1=a1)∧((SzL 8 (fun _=>True)) v1)∧(Zap E0)∧(¬ E0.Kind=2)∧(v9=E0.Kind)
def Z3s:Zlx→M6
 | .L0 v1 E0 v9 v10=>(0,0,0,0,0,0)
 | .L1 v1 E0 v9 v77=>(0,0,0,0,0,0)
theorem Zqz(a0:Zm)(a1:(List Int))(v1:(List Int))(E0:Zm)(v9:Int)(v77:Bool)(h:(Zlo a0 a1) (.L1 v1 E0 v9 v77)):Tot (Zm5 v1 E0 v9 v77).den (Nx (Zlo a0 a1) Z3s (0,0,0,0,0,0) (Zvm a0 a1)):=by
 obtain⟨al0,al1,ov1,O0,i0,i1⟩:=h
 have lb_v1:=ov1.1
 subst al0
 subst al1
 dsimp only [Zm5,LT.den]
 refine tF (fun h1=>?_) (fun h1=>?_)
 ·refine tB (Zmi E0 v1 O0 ov1) (fun x2 h3=>?_)
  have eh3_0:=h3.1
  have eh3_1:=h3.2
  refine tF (fun h4=>?_) (fun h4=>?_)
  ·have h4_0:=eh3_1 h4
   refine tB (Zaot E0 v1 O0 ov1 Zan) (fun x5 h6=>?_)
   exact tR (by grind)
  ·exact tR (by grind)
 ·refine tE (fun h7=>?_) (fun h7=>?_)
  ·refine tB (Zaov E0 v1 O0 ov1) (fun x8 h9=>?_)
   exact tR (by grind)
  ·exact tR (by grind)
theorem Zfn(a0:Zm)(a1:(List Int))(v1:(List Int))(E0:Zm)(v9:Int)(v10:Bool)(h:(Zlo a0 a1) (.L0 v1 E0 v9 v10)):Tot (Zfu v1 E0 v9 v10).den (Nx (Zlo a0 a1) Z3s (0,0,0,0,0,0) (Zvm a0 a1)):=by
 obtain⟨al0,al1,ov1,O0,i0,i1⟩:=h
 have lb_v1:=ov1.1
 subst al0
 subst al1
 dsimp only [Zfu,LT.den]
 refine tF (fun h1=>?_) (fun h1=>?_)
 ·have q2:=ov1.1
  refine tE (fun h3=>?_) (fun h3=>?_)
  ·refine tB (Zmi E0 v1 O0 ov1) (fun x4 h5=>?_)
   have eh5_0:=h5.1
   have eh5_1:=h5.2
   exact tR (by grind)
  ·exact tR (by grind)
 ·refine tE (fun h6=>?_) (fun h6=>?_)
  ·have q7:=ov1.1
   refine tD (fun h8=>?_) (fun h8=>?_)
   ·refine tD (fun h9=>?_) (fun h9=>?_)
    ·refine tB (Zmi E0 v1 O0 ov1) (fun x10 h11=>?_)
     have eh11_0:=h11.1
     have eh11_1:=h11.2
     exact tR (by grind)
    ·exact tR (by grind)
   ·exact tR (by grind)
  ·refine tE (fun h12=>?_) (fun h12=>?_)
   ·have q13:=ov1.1
    have q14:=O0.1
    refine tE (fun h15=>?_) (fun h15=>?_)
    ·refine tB (Zmi E0 v1 O0 ov1) (fun x16 h17=>?_)
     have eh17_0:=h17.1
     have eh17_1:=h17.2
     exact tR (by grind)
    ·exact tR (by grind)
   ·refine tE (fun h18=>?_) (fun h18=>?_)
    ·have q19:=ov1.1
     refine tE (fun h20=>?_) (fun h20=>?_)
     ·refine tB (tI (by omega) (by omega)) (fun x21 h22=>?_)
      refine tD (fun h23=>?_) (fun h23=>?_)
      ·exact tR (by grind)
      ·exact tR (by grind)
     ·exact tR (by grind)
    ·refine tE (fun h24=>?_) (fun h24=>?_)
     ·exact tJ (Zqz E0 v1 v1 E0 v9 (v9==6) ⟨rfl,rfl,ov1,O0,(by grind),cl⟩)
     ·exact tJ (Zqz E0 v1 v1 E0 v9 (v9==7) ⟨rfl,rfl,ov1,O0,(by grind),cl⟩)
theorem Za01(a0:Zm)(a1:(List Int))(oa0:Zap a0)(oa1:(SzL 8 (fun _=>True)) a1):Tot (Zaf6 a0 a1) (Zvm a0 a1):=by
 unfold Zaf6
 refine tX (Inv:=(Zlo a0 a1)) (μ:=Z3s) (m:=(1000000,0,0,0,0,0)) ?_ ?_
 ·have lb_a1:=oa1.1
  dsimp only [Zak7,LT.den]
  have q1:=oa1.1
  refine tD (fun h2=>?_) (fun h2=>?_)
  ·exact tR (by grind)
  ·refine tE (fun h3=>?_) (fun h3=>?_)
   ·exact tJ (Zfn a0 a1 a1 a0 a0.Kind (a0.Kind==1) ⟨rfl,rfl,oa1,oa0,cl,Znq⟩)
   ·refine tE (fun h4=>?_) (fun h4=>?_)
    ·exact tJ (Zfn a0 a1 a1 a0 a0.Kind (a0.Kind==2) ⟨rfl,rfl,oa1,oa0,cl,Znq⟩)
    ·refine tE (fun h5=>?_) (fun h5=>?_)
     ·exact tJ (Zfn a0 a1 a1 a0 a0.Kind (a0.Kind==9) ⟨rfl,rfl,oa1,oa0,cl,Znq⟩)
     ·refine tE (fun h6=>?_) (fun h6=>?_)
      ·exact tJ (Zfn a0 a1 a1 a0 a0.Kind (a0.Kind==10) ⟨rfl,rfl,oa1,oa0,cl,Znq⟩)
      ·exact tJ (Zfn a0 a1 a1 a0 a0.Kind (a0.Kind==11) ⟨rfl,rfl,oa1,oa0,cl,Znq⟩)
 ·intro s hs
  cases s with
  | L0 v1 E0 v9 v10=>exact Zfn a0 a1 v1 E0 v9 v10 hs
  | L1 v1 E0 v9 v77=>exact Zqz a0 a1 v1 E0 v9 v77 hs
def Zju(a0:(List Zi))(a1:Zi):Zbr→Prop
 | .L0 v0 E0 v7 v8=>(v0=a0)∧(E0=a1)∧((SzL 24 (fun _=>True)) v0)∧(0≤v8)∧(v7=(v0.length:Int))∧(∀ (k:Nat) y,(k:Int) < v8→v0[k]?=some y→y≠E0)
def Ze9:Zbr→M6
 | .L0 v0 E0 v7 v8=>(1,(v7 - v8).toNat,1000000,0,0,0)
theorem Zjv(a0:(List Zi))(a1:Zi)(oa0:(SzL 24 (fun _=>True)) a0):Tot (Zdm a0 a1) (fun r=>(0≤r↔a1∈a0)):=by
 unfold Zdm
 refine tX (Inv:=(Zju a0 a1)) (μ:=Ze9) (m:=(1000000,0,0,0,0,0)) ?_ ?_
 ·have lb_a0:=oa0.1
  dsimp only [Zfd,LT.den]
  have q1:=oa0.1
  exact tL ⟨rfl,rfl,oa0,cl,cl,tk33⟩ tk72
 ·intro s hs
  cases s with
  | L0 v0 E0 v7 v8=>
   obtain⟨al0,al1,ov0,cv8,i0,i1⟩:=hs
   have lb_v0:=ov0.1
   subst al0
   subst al1
   show Tot (Zc4 v0 E0 v7 v8).den _
   dsimp only [Zc4,LT.den]
   refine tD (fun h1=>?_) (fun h1=>?_)
   ·refine tB (tI (by omega) (by omega)) (fun x2 h3=>?_)
    have mh3:=h3.2
    refine tF (fun h4=>?_) (fun h4=>?_)
    ·exact tR tk49
    ·refine qw (v8+1) fun q5 q6=>?_
     exact tL ⟨rfl,rfl,ov0,cl,cl,tk33⟩ tk72
   ·exact tR tk49
theorem Zef(a0:(List Zi))(a1:Zi)(oa0:(SzL 24 (fun _=>True)) a0):Tot (Zc5 a0 a1) (fun r=>(r=true↔a1∈a0)):=by
 unfold Zc5
 refine tZ ?_
 have lb_a0:=oa0.1
 dsimp only [Zeu,LT.den]
 refine tB (Zjv a0 a1 oa0) (fun x1 h2=>?_)
 have eh2_0:=h2
 exact tR (by exact decide_eq_true_iff.trans (by assumption))
theorem Zlp(a0:Zb)(a1:(List Za))(a2:Zj)(a3:Zr)(a4:Zf)(oa0:Zw a0)(oa1:(SzL 176 Zv) a1)(oa2:Zat a2)(oa3:Zas a3)(h0:a0.Objects.length≤60)(h1:a0.Players.length≤4):Tot (Zaf7 a0 a1 a2 a3 a4) (fun r=>(r=isV a0 a1 a2 a3 a4)):=by
 unfold Zaf7
 refine tZ ?_
 have lb_a1:=oa1.1
 dsimp only [Zak9,LT.den]
 refine tN (fun h1=>?_) (fun h1=>?_)
 ·refine tB (Zf3 a0 a1 a2 a3 oa0 oa1 oa2 oa3 cl cl) (fun x2 h3=>?_)
  have eh3_1:=h3.2.1
  have eh3_2:=h3.2.2
  refine tB (Zef x2 (⟨5,a4.Object,0⟩:Zi) h3.1) (fun x4 h5=>?_)
  have eh5_0:=h5
  exact tR tk25
 ·refine tB (Zf3 a0 a1 a2 a3 oa0 oa1 oa2 oa3 cl cl) (fun x6 h7=>?_)
  have eh7_1:=h7.2.1
  have eh7_2:=h7.2.2
  refine tB (Zef x6 (⟨6,a4.Player,0⟩:Zi) h7.1) (fun x8 h9=>?_)
  have eh9_0:=h9
  exact tR tk25
abbrev Zaow(a0:Zb)(a1:(List Za))(a2:Zj)(a3:(List Zr))(a4:(List Zf))(r:((List Zf)×Bool)):Prop:=((SzL 16 (fun _=>True)) r.1)∧(r.1.length≤a4.length)∧(r.1=kpV a0 a1 a2 a3 a4)∧(r.2=okV a0 a1 a2 a3 a4 a4.length)
def Zatw(a0:Zb)(a1:(List Za))(a2:Zj)(a3:(List Zr))(a4:(List Zf)):Zk4→Prop
 | .L0 v1 v3 E0 E1 v12 v13 v19 v20 v21=>(v1=a1)∧(v3=a3)∧(E0=a0)∧(E1=a2)∧(v19=a4)∧((SzL 176 Zv) v1)∧((SzL 144 Zas) v3)∧(Zw E0)∧(Zat E1)∧((SzL 16 (fun _=>True)) v12)∧((SzL 16 (fun _=>True)) v19)∧(0≤v21)∧(E0.Objects.length≤60)∧(E0.Players.length≤4)∧(v19.length≤1000000)∧(v12.length≤v21.toNat)∧(v21≤(v19.length:Int))∧(v12=kpN E0 v1 E1 v3 v19 v21)∧(v13=okV E0 v1 E1 v3 v19 v21)∧(v20=(v19.length:Int))
def Z9b:Zk4→M6
 | .L0 v1 v3 E0 E1 v12 v13 v19 v20 v21=>(1,(v20 - v21).toNat,1000000,0,0,0)
theorem Ztn(a0:Zb)(a1:(List Za))(a2:Zj)(a3:(List Zr))(a4:(List Zf))(oa0:Zw a0)(oa1:(SzL 176 Zv) a1)(oa2:Zat a2)(oa3:(SzL 144 Zas) a3)(oa4:(SzL 16 (fun _=>True)) a4)(h0:a0.Objects.length≤60)(h1:a0.Players.length≤4)(h2:a4.length≤1000000):Tot (Zv8 a0 a1 a2 a3 a4) (Zaow a0 a1 a2 a3 a4):=by
 unfold Zv8
 refine tX (Inv:=(Zatw a0 a1 a2 a3 a4)) (μ:=Z9b) (m:=(1000000,0,0,0,0,0)) ?_ ?_
 ·have lb_a1:=oa1.1
  have lb_a3:=oa3.1
  have lb_a4:=oa4.1
  dsimp only [Zacd,LT.den]
  have q1:=oa4.1
  exact tL ⟨rfl,rfl,rfl,rfl,rfl,oa1,oa3,oa0,oa2,SzL.nil,oa4,cl,cl,cl,cl,cl,cl,tk1,tk3,cl⟩ tk96
 ·intro s hs
  cases s with
  | L0 v1 v3 E0 E1 v12 v13 v19 v20 v21=>
   obtain⟨al0,al1,al2,al3,al4,ov1,ov3,O0,O1,ov12,ov19,cv21,i0,i1,i2,i3,i4,i5,i6,i7⟩:=hs
   have lb_v1:=ov1.1
   have lb_v3:=ov3.1
   have lb_v12:=ov12.1
   have lb_v19:=ov19.1
   subst al0
   subst al1
   subst al2
   subst al3
   subst al4
   show Tot (Zuq v1 v3 E0 E1 v12 v13 v19 v20 v21).den _
   dsimp only [Zuq,LT.den]
   refine tD (fun h1=>?_) (fun h1=>?_)
   ·refine tB (tI (by omega) (by omega)) (fun x2 h3=>?_)
    have mh3:=h3.2
    have q4:=ov3.1
    refine tD (fun h5=>?_) (fun h5=>?_)
    ·refine tB (tI (by omega) (by omega)) (fun x6 h7=>?_)
     have oh7:Zas x6:=ov3.2 x6 h7.1
     have mh7:=h7.2
     refine tB (Zlp E0 v1 E1 x6 x2 O0 ov1 O1 oh7 cl cl) (fun x8 h9=>?_)
     have eh9_0:=h9
     refine tF (fun h10=>?_) (fun h10=>?_)
     ·have q11:(SzL 16 (fun _=>True)) ([x2]:(List Zf)):=⟨by simp only [List.length_cons,List.length_nil];omega,fun _ _=>trivial⟩
      have q14:=ov12.1
      refine tB (tA Zb0 (by decide)) (fun x12 h13=>?_)
      have lh13:x12.length=v12.length+1:=by rw [h13,List.length_append];rfl
      refine qw (v21+1) fun q15 q16=>?_
      exact tL ⟨rfl,rfl,rfl,rfl,rfl,ov1,ov3,O0,O1,⟨lo,fun _ _=>trivial⟩,ov19,cl,cl,cl,cl,cl,cl,tk1,tk3,cl⟩ tk96
     ·have q17:(SzL 16 (fun _=>True)) ([(⟨(-1),(-1)⟩:Zf)]:(List Zf)):=⟨by simp only [List.length_cons,List.length_nil];omega,fun _ _=>trivial⟩
      have q20:=ov12.1
      refine tB (tA Zb0 (by decide)) (fun x18 h19=>?_)
      have lh19:x18.length=v12.length+1:=by rw [h19,List.length_append];rfl
      refine qw (v21+1) fun q21 q22=>?_
      exact tL ⟨rfl,rfl,rfl,rfl,rfl,ov1,ov3,O0,O1,⟨lo,fun _ _=>trivial⟩,ov19,cl,cl,cl,cl,cl,cl,tk1,tk3,cl⟩ tk96
    ·have q23:(SzL 16 (fun _=>True)) ([(⟨(-1),(-1)⟩:Zf)]:(List Zf)):=⟨by simp only [List.length_cons,List.length_nil];omega,fun _ _=>trivial⟩
     have q26:=ov12.1
     refine tB (tA Zb0 (by decide)) (fun x24 h25=>?_)
     have lh25:x24.length=v12.length+1:=by rw [h25,List.length_append];rfl
     refine qw (v21+1) fun q27 q28=>?_
     exact tL ⟨rfl,rfl,rfl,rfl,rfl,ov1,ov3,O0,O1,⟨lo,fun _ _=>trivial⟩,ov19,cl,cl,cl,cl,cl,cl,tk1,tk3,cl⟩ tk96
   ·exact tR ⟨ov12,cl,(by exact Za9f (v:=v21) (by assumption) (by omega)),(by exact Za9h (v:=v21) (by assumption) (by omega))⟩
def Zatx(a0:(List Zi))(a1:(List Zi)):Zk5→Prop
 | .L0 v0 v1 v5=>(v0=a0)∧(v1=a1)∧((SzL 24 (fun _=>True)) v0)∧((SzL 24 (fun _=>True)) v1)∧(0≤v5)∧(v0.length=v1.length)∧(∀ k:Nat,(k:Int) < v5→v0[k]?=v1[k]?)
def Zvn:Zk5→M6
 | .L0 v0 v1 v5=>(1,((v0.length:Int) - v5).toNat,1000000,0,0,0)
theorem Z5j(a0:(List Zi))(a1:(List Zi))(oa0:(SzL 24 (fun _=>True)) a0)(oa1:(SzL 24 (fun _=>True)) a1):Tot (Z6o a0 a1) (fun r=>(r=true↔a0=a1)):=by
 unfold Z6o
 refine tX (Inv:=(Zatx a0 a1)) (μ:=Zvn) (m:=(1000000,0,0,0,0,0)) ?_ ?_
 ·have lb_a0:=oa0.1
  have lb_a1:=oa1.1
  dsimp only [Zacf,LT.den]
  have q1:=oa0.1
  have q2:=oa1.1
  refine tN (fun h3=>?_) (fun h3=>?_)
  ·exact tR tk11
  ·exact tL ⟨rfl,rfl,oa0,oa1,cl,cl,tk22⟩ (by unfold Zvn lt6;dsimp only;omega)
 ·intro s hs
  cases s with
  | L0 v0 v1 v5=>
   obtain⟨al0,al1,ov0,ov1,cv5,i0,i1⟩:=hs
   have lb_v0:=ov0.1
   have lb_v1:=ov1.1
   subst al0
   subst al1
   show Tot (Zur v0 v1 v5).den _
   dsimp only [Zur,LT.den]
   have q1:=ov0.1
   refine tD (fun h2=>?_) (fun h2=>?_)
   ·refine tB (tI (by omega) (by omega)) (fun x3 h4=>?_)
    have mh4:=h4.2
    refine tB (tI (by omega) (by omega)) (fun x5 h6=>?_)
    have mh6:=h6.2
    refine tO (fun h7=>?_) (fun h7=>?_)
    ·exact tR tk11
    ·refine qw (v5+1) fun q8 q9=>?_
     exact tL ⟨rfl,rfl,ov0,ov1,cl,cl,tk22⟩ (by unfold Zvn lt6;dsimp only;omega)
   ·exact tR tk11
theorem Zzn(b0:Z6)(a1:Zm)(ob0:Zcp b0)(oa1:Zap a1)(h0:a1.Kind=2)(h1:0≤b0.used)(h2:b0.used≤(b0.answers.length:Int)):Tot (Zig b0 a1) (fun r=>((SzL 8 (fun _=>True)) r.1)∧(Zcp r.2)∧(0≤r.2.used)∧(r.2.used≤(r.2.answers.length:Int))∧((r.1,akV r.2)=Z47 (akV b0) a1)):=by
 unfold Zig
 refine tZ ?_
 dsimp only [Zm7,LT.den]
 refine tF (fun h1=>?_) (fun h1=>?_)
 ·refine tB (Zia a1 oa1) (fun x2 h3=>?_)
  have eh3_1:=h3.2
  exact tR ⟨h3.1,ob0,cl,cl,tk38⟩
 ·refine tF (fun h4=>?_) (fun h4=>?_)
  ·refine tB (Zia a1 oa1) (fun x5 h6=>?_)
   have eh6_1:=h6.2
   exact tR ⟨h6.1,ob0,cl,cl,tk38⟩
  ·refine tB (Zaw4 a1 oa1) (fun x7 h8=>?_)
   have eh8_0:=h8
   refine tF (fun h9=>?_) (fun h9=>?_)
   ·refine tB (Zia a1 oa1) (fun x10 h11=>?_)
    have eh11_1:=h11.2
    exact tR ⟨h11.1,ob0,cl,cl,tk38⟩
   ·have q12:=ob0.1.1
    refine tE (fun h13=>?_) (fun h13=>?_)
    ·refine tB (Zlm a1.Options oa1) (fun x14 h15=>?_)
     have eh15_1:=h15.2
     refine tB (Zia (⟨a1.Kind,a1.Player,a1.Source,a1.Least,a1.Most,a1.N,x14⟩:Zm) h15.1) (fun x16 h17=>?_)
     have eh17_1:=h17.2
     exact tR ⟨h17.1,⟨ob0.1,h15.1⟩,cl,cl,tk38⟩
    ·refine tB (tI (by omega) (by omega)) (fun x18 h19=>?_)
     have oh19:(SzL 8 (fun _=>True)) x18:=ob0.1.2 x18 h19.1
     have mh19:=h19.2;have nh19:=h19.1
     refine qw (b0.used+1) fun q20 q21=>?_
     refine tB (Za01 a1 x18 oa1 oh19) (fun x22 h23=>?_)
     have eh23_0:=h23
     refine tO (fun h24=>?_) (fun h24=>?_)
     ·refine tB (Zia a1 oa1) (fun x25 h26=>?_)
      have eh26_1:=h26.2
      exact tR ⟨h26.1,⟨ob0.1,ob0.2⟩,cl,cl,tk38⟩
     ·refine tB (Zt4 x18 oh19) (fun x27 h28=>?_)
      have eh28_1:=h28.2
      exact tR ⟨h28.1,⟨ob0.1,ob0.2⟩,cl,cl,tk38⟩
abbrev Zok(b0:Z6)(a1:Zb)(a2:(List Za))(a3:Zj)(a4:(List Zr))(r:((List Zf)×Bool×Z6)):Prop:=((SzL 16 (fun _=>True)) r.1)∧(Zcp r.2.2)∧(r.1.length≤a4.length)∧((r.1,r.2.1,akV r.2.2)=chG a1 a2 a3 a4 [] (akV b0))∧(0≤r.2.2.used)∧(r.2.2.used≤(r.2.2.answers.length:Int))
def Zio(b0:Z6)(a1:Zb)(a2:(List Za))(a3:Zj)(a4:(List Zr)):Zdy→Prop
 | .L0 c0 v2 E1 E2 v12 v18 v19 v20=>(v2=a2)∧(E1=a1)∧(E2=a3)∧(Zcp c0)∧((SzL 176 Zv) v2)∧(Zw E1)∧(Zat E2)∧((SzL 16 (fun _=>True)) v12)∧((SzL 144 Zas) v18)∧(0≤v20)∧(E1.Objects.length≤60)∧(E1.Players.length≤4)∧(0≤c0.used)∧(c0.used≤(c0.answers.length:Int))∧(v19=(v18.length:Int))∧(v18.length=a4.length)∧(v18=a4)∧(v12.length≤v20.toNat)∧(v20≤v19)∧(chG E1 v2 E2 (v18.drop v20.toNat) v12 (akV c0)=chG a1 a2 a3 a4 [] (akV b0))
 | .L1 c0 v2 E1 E2 v12 E3 v18 v19 v20=>(v2=a2)∧(E1=a1)∧(E2=a3)∧(Zcp c0)∧((SzL 176 Zv) v2)∧(Zw E1)∧(Zat E2)∧((SzL 16 (fun _=>True)) v12)∧((SzL 144 Zas) v18)∧(0≤v20)∧(v20 < v19)∧(E1.Objects.length≤60)∧(E1.Players.length≤4)∧(0≤c0.used)∧(c0.used≤(c0.answers.length:Int))∧(v19=(v18.length:Int))∧(v18.length=a4.length)∧(v18=a4)∧(v12.length≤v20.toNat)∧(0≤v20)∧(v20 < v19)∧(chG E1 v2 E2 (v18.drop (v20+1).toNat) (v12++[tgO E3]) (akV c0)=chG a1 a2 a3 a4 [] (akV b0))
def Zf4:Zdy→M6
 | .L0 c0 v2 E1 E2 v12 v18 v19 v20=>(1,(v19 - v20).toNat,1000000,0,0,0)
 | .L1 c0 v2 E1 E2 v12 E3 v18 v19 v20=>(1,(v19 - v20).toNat,0,0,0,0)
theorem Zdl(b0:Z6)(a1:Zb)(a2:(List Za))(a3:Zj)(a4:(List Zr))(c0:Z6)(v2:(List Za))(E1:Zb)(E2:Zj)(v12:(List Zf))(E3:Zi)(v18:(List Zr))(v19:Int)(v20:Int)(h:(Zio b0 a1 a2 a3 a4) (.L1 c0 v2 E1 E2 v12 E3 v18 v19 v20)):Tot (Zcy c0 v2 E1 E2 v12 E3 v18 v19 v20).den (Nx (Zio b0 a1 a2 a3 a4) Zf4 (1,(v19 - v20).toNat,0,0,0,0) (Zok b0 a1 a2 a3 a4)):=by
 obtain⟨al0,al1,al2,oc0,ov2,O1,O2,ov12,ov18,cv20,bd10,i0,i1,i2,i3,i4,i5,i6,i7,i8,i9,i10⟩:=h
 have lb_v2:=ov2.1
 have lb_v12:=ov12.1
 have lb_v18:=ov18.1
 subst al0
 subst al1
 subst al2
 dsimp only [Zcy,LT.den]
 refine tE (fun h1=>?_) (fun h1=>?_)
 ·have q2:(SzL 16 (fun _=>True)) ([(⟨E3.A,0⟩:Zf)]:(List Zf)):=⟨by simp only [List.length_cons,List.length_nil];omega,fun _ _=>trivial⟩
  have q5:=ov12.1
  refine tB (tA Zb0 (by decide)) (fun x3 h4=>?_)
  have lh4:x3.length=v12.length+1:=by rw [h4,List.length_append];rfl
  refine qw (v20+1) fun q6 q7=>?_
  exact tL ⟨rfl,rfl,rfl,oc0,ov2,O1,O2,⟨lo,fun _ _=>trivial⟩,ov18,cl,cl,cl,cl,cl,cl,cl,Zhj,cl,cl,tk29⟩ tk84
 ·have q8:(SzL 16 (fun _=>True)) ([(⟨0,E3.A⟩:Zf)]:(List Zf)):=⟨by simp only [List.length_cons,List.length_nil];omega,fun _ _=>trivial⟩
  have q11:=ov12.1
  refine tB (tA Zb0 (by decide)) (fun x9 h10=>?_)
  have lh10:x9.length=v12.length+1:=by rw [h10,List.length_append];rfl
  refine qw (v20+1) fun q12 q13=>?_
  exact tL ⟨rfl,rfl,rfl,oc0,ov2,O1,O2,⟨lo,fun _ _=>trivial⟩,ov18,cl,cl,cl,cl,cl,cl,cl,Zhj,cl,cl,tk29⟩ tk84
theorem Zip(b0:Z6)(a1:Zb)(a2:(List Za))(a3:Zj)(a4:(List Zr))(ob0:Zcp b0)(oa1:Zw a1)(oa2:(SzL 176 Zv) a2)(oa3:Zat a3)(oa4:(SzL 144 Zas) a4)(h0:a1.Objects.length≤60)(h1:a1.Players.length≤4)(h2:a4.length≤1000000)(h3:0≤b0.used)(h4:b0.used≤(b0.answers.length:Int)):Tot (Zm9 b0 a1 a2 a3 a4) (Zok b0 a1 a2 a3 a4):=by
 unfold Zm9
 refine tX (Inv:=(Zio b0 a1 a2 a3 a4)) (μ:=Zf4) (m:=(1000000,0,0,0,0,0)) ?_ ?_
 ·have lb_a2:=oa2.1
  have lb_a4:=oa4.1
  dsimp only [Zsn,LT.den]
  have q1:=oa4.1
  exact tL ⟨rfl,rfl,rfl,ob0,oa2,oa1,oa3,SzL.nil,oa4,cl,cl,cl,cl,cl,cl,cl,Zhj,cl,cl,tk29⟩ tk84
 ·intro s hs
  cases s with
  | L0 c0 v2 E1 E2 v12 v18 v19 v20=>
   obtain⟨al0,al1,al2,oc0,ov2,O1,O2,ov12,ov18,cv20,i0,i1,i2,i3,i4,i5,i6,i7,i8,i9⟩:=hs
   have lb_v2:=ov2.1
   have lb_v12:=ov12.1
   have lb_v18:=ov18.1
   subst al0
   subst al1
   subst al2
   show Tot (Zje c0 v2 E1 E2 v12 v18 v19 v20).den _
   dsimp only [Zje,LT.den,Zf4]
   refine tD (fun h1=>?_) (fun h1=>?_)
   ·refine tB (tI (by omega) (by omega)) (fun x2 h3=>?_)
    have oh3:Zas x2:=ov18.2 x2 h3.1
    have mh3:=h3.2
    refine tB (Zf3 E1 v2 E2 x2 O1 ov2 O2 oh3 cl cl) (fun x4 h5=>?_)
    have eh5_1:=h5.2.1
    have eh5_2:=h5.2.2
    have q6:=h5.1.1
    refine tE (fun h7=>?_) (fun h7=>?_)
    ·exact tR ⟨SzL.nil,oc0,cl,tk41,cl,cl⟩
    ·refine tB (Zzn c0 (⟨2,E2.You,E2.Source,0,0,0,x4⟩:Zm) oc0 h5.1 Zhj cl cl) (fun x8 h9=>?_)
     have eh9_2:=h9.2.2.1
     have eh9_3:=h9.2.2.2.1
     have eh9_4:=h9.2.2.2.2
     refine tB (tI (by omega) (by omega)) (fun x10 h11=>?_)
     have mh11:=h11.2
     have q12:=h9.1.1
     refine tD (fun h13=>?_) (fun h13=>?_)
     ·refine tB (tI (by omega) (by omega)) (fun x14 h15=>?_)
      have mh15:=h15.2
      refine tD (fun h16=>?_) (fun h16=>?_)
      ·refine tD (fun h17=>?_) (fun h17=>?_)
       ·refine tB (tI (by omega) (by omega)) (fun x18 h19=>?_)
        have mh19:=h19.2
        exact tJ (Zdl b0 E1 v2 E2 a4 x8.2 v2 E1 E2 v12 x18 v18 v19 v20 ⟨rfl,rfl,rfl,h9.2.1,ov2,O1,O2,ov12,ov18,cl,cl,cl,cl,cl,cl,cl,cl,(by assumption),cl,cl,cl,tk5⟩)
       ·exact tJ (Zdl b0 E1 v2 E2 a4 x8.2 v2 E1 E2 v12 x10 v18 v19 v20 ⟨rfl,rfl,rfl,h9.2.1,ov2,O1,O2,ov12,ov18,cl,cl,cl,cl,cl,cl,cl,cl,(by assumption),cl,cl,cl,tk5⟩)
      ·exact tJ (Zdl b0 E1 v2 E2 a4 x8.2 v2 E1 E2 v12 x10 v18 v19 v20 ⟨rfl,rfl,rfl,h9.2.1,ov2,O1,O2,ov12,ov18,cl,cl,cl,cl,cl,cl,cl,cl,(by assumption),cl,cl,cl,tk5⟩)
     ·exact tJ (Zdl b0 E1 v2 E2 a4 x8.2 v2 E1 E2 v12 x10 v18 v19 v20 ⟨rfl,rfl,rfl,h9.2.1,ov2,O1,O2,ov12,ov18,cl,cl,cl,cl,cl,cl,cl,cl,(by assumption),cl,cl,cl,tk5⟩)
   ·exact tR ⟨ov12,oc0,cl,tk41,cl,cl⟩
  | L1 c0 v2 E1 E2 v12 E3 v18 v19 v20=>exact Zdl b0 a1 a2 a3 a4 c0 v2 E1 E2 v12 E3 v18 v19 v20 hs
theorem Zlq(b0:Z6)(ob0:Zcp b0):Tot (Zii b0) (fun r=>(r=b0.used)):=by
 unfold Zii
 refine tZ ?_
 dsimp only [Zna,LT.den]
 exact tR (by rfl)
abbrev al8P:Za2:=⟨20,0,0,⟨0,0,0,0,0,0⟩,false,false,[],[],[]⟩
abbrev Z7n:Zb:=⟨[al8P,al8P],[⟨4,0,0,0,0,false,false,false,false,0,⟨0,0,0⟩,0,-1,-1,false,0,0⟩,⟨6,0,1,1,0,false,false,false,false,0,⟨0,0,0⟩,0,-1,-1,false,0,0⟩],[4,6],[],[],[],[],0,0,0,false,0,0,7,1,0,[],0,-1⟩
abbrev Z7o:List Za:=[⟨[],⟨0,0,⟨0,0,0,0,0⟩⟩,0,⟨0,1,[]⟩,0,0,0,[],0⟩,⟨[],⟨0,0,⟨0,0,0,0,0⟩⟩,0,⟨0,1,[]⟩,0,0,2048,[],1⟩]
abbrev Z7p(n:Int):Zj:=⟨n,0,0,[],⟨0,0,0,0,0,0,0,0,0,0,false,false,⟨0,0,0⟩⟩⟩
abbrev Zo0:Zr:=⟨true,true,⟨0,0,0,1,0,0,0,[],0,0,⟨0,0⟩,⟨0,0⟩,⟨0,0⟩⟩⟩
theorem Zblh:chG Z7n Z7o (Z7p 0) [Zo0] [] (nwV [[2]])=([⟨4,0⟩],true,⟨[[2]],Zh7,false,false,1⟩):=by kernel_rfl
theorem Zbky:kpV Z7n Z7o (Z7p 0) [Zo0,Zo0] [⟨4,0⟩,⟨6,0⟩]=[⟨4,0⟩,⟨-1,-1⟩]:=by kernel_rfl
theorem Zbkz:okV Z7n Z7o (Z7p 0) [Zo0,Zo0] [⟨4,0⟩,⟨6,0⟩] 2=true:=by kernel_rfl
theorem Zbk0:lgV Z7n Z7o (Z7p 0) Zo0=[⟨6,0,0⟩,⟨6,1,0⟩,⟨5,4,0⟩]:=by kernel_rfl
theorem Zbk1:lgV Z7n Z7o (Z7p 1) Zo0=[⟨6,0,0⟩,⟨6,1,0⟩,⟨5,4,0⟩,⟨5,6,0⟩]:=by kernel_rfl
theorem Zbv:Tot Zaf8 (fun r=>r=true):=by
 unfold Zaf8
 refine tZ ?_
 dsimp only [Zalb,LT.den]
 have szP:Zcv al8P:=⟨SzL.nil,SzL.nil,SzL.nil⟩
 have szS:Zw Z7n:=⟨⟨by decide,mem_cons' szP (mem_cons' szP fun _ h=>by cases h)⟩,⟨by decide,fun _ _=>trivial⟩,⟨by decide,fun _ _=>trivial⟩,SzL.nil,SzL.nil,SzL.nil,SzL.nil,SzL.nil⟩
 have szA:SzL 176 Zv Z7o:=⟨by decide,mem_cons' ⟨SzS.nil,SzL.nil,SzL.nil⟩ (mem_cons' ⟨SzS.nil,SzL.nil,SzL.nil⟩ fun _ h=>by cases h)⟩
 have szC:∀ n,Zat (Z7p n):=fun n=>SzL.nil
 have szF:Zas Zo0:=SzS.nil
 have szF1:SzL 144 Zas [Zo0]:=⟨by decide,mem_cons' szF fun _ h=>by cases h⟩
 have szF2:SzL 144 Zas [Zo0,Zo0]:=⟨by decide,mem_cons' szF (mem_cons' szF fun _ h=>by cases h)⟩
 have szW:SzL 24 (SzL 8 (fun _=>True)) [[(2:Int)]]:=⟨by decide,mem_cons' ⟨by decide,fun _ _=>trivial⟩ fun _ h=>by cases h⟩
 have szG:SzL 16 (fun _=>True) [(⟨4,0⟩:Zf),⟨6,0⟩]:=⟨by decide,fun _ _=>trivial⟩
 refine tB (Z7m _ szW) (fun x7 h7=>?_)
 obtain⟨s7,e7,u7⟩:=h7
 refine tB (Zip x7 Z7n Z7o (Z7p 0) [Zo0] s7 szS szA (szC 0) szF1 (by decide) (by decide) (by decide) (by omega) (by omega)) (fun x10 h10=>?_)
 obtain⟨-,s10,-,c10,-,-⟩:=h10
 rw [e7,Zblh] at c10
 obtain⟨t10,ok10,k10⟩:=x10
 simp only [Prod.mk.injEq] at c10
 obtain⟨rfl,rfl,c10⟩:=c10
 have u10:k10.used=1:=congrArg (fun w:Zg=>w.N) c10
 refine tB (Ztn Z7n Z7o (Z7p 0) [Zo0,Zo0] [⟨4,0⟩,⟨6,0⟩] szS szA (szC 0) szF2 szG (by decide) (by decide) (by decide)) (fun x14 h14=>?_)
 obtain⟨-,-,k14,o14⟩:=h14
 obtain⟨t14,ok14⟩:=x14
 have k14:t14=_:=k14.trans Zbky
 have o14:ok14=true:=o14.trans Zbkz
 subst k14;subst o14
 refine tB (Zf3 Z7n Z7o (Z7p 0) Zo0 szS szA (szC 0) szF (by decide) (by decide)) (fun x16 h16=>?_)
 obtain⟨z16,-,h16⟩:=h16
 refine tB (Z5j _ _ z16 ⟨by decide,fun _ _=>trivial⟩) (fun x19 h19=>?_)
 obtain rfl:x19=true:=h19.2 (h16.trans Zbk0)
 refine Tot.bt rfl ?_
 refine tB (Zf3 Z7n Z7o (Z7p 1) Zo0 szS szA (szC 1) szF (by decide) (by decide)) (fun x22 h22=>?_)
 obtain⟨-,-,h22⟩:=h22
 have h22:=h22.trans Zbk1
 subst h22
 refine Tot.bt (by kernel_rfl) ?_
 refine Tot.bt rfl ?_
 refine Tot.bt (by kernel_rfl) ?_
 refine tB (tI (xs:=[(⟨4,0⟩:Zf)]) (i:=0) (by decide) (by decide)) (fun x29 h29=>?_)
 obtain rfl:x29=⟨4,0⟩:=(Option.some.inj h29.2).symm
 refine Tot.bt (by kernel_rfl) ?_
 refine tB (Zlq _ s10) (fun x32 h32=>?_)
 obtain rfl:x32=1:=h32.trans u10
 refine Tot.bt (by kernel_rfl) ?_
 refine Tot.bt rfl ?_
 refine Tot.bt (by kernel_rfl) ?_
 refine tB (tI (xs:=[(⟨4,0⟩:Zf),⟨-1,-1⟩]) (i:=0) (by decide) (by decide)) (fun x38 h38=>?_)
 obtain rfl:x38=⟨4,0⟩:=(Option.some.inj h38.2).symm
 refine Tot.bt (by kernel_rfl) ?_
 refine tB (tI (xs:=[(⟨4,0⟩:Zf),⟨-1,-1⟩]) (i:=1) (by decide) (by decide)) (fun x41 h41=>?_)
 obtain rfl:x41=⟨-1,-1⟩:=(Option.some.inj h41.2).symm
 exact tR (by kernel_rfl)
def Zaw5:Znc→Prop
 | .L0 E0 v3 v4 v5=>(0≤v5)∧True
def Zadg:Znc→M6
 | .L0 E0 v3 v4 v5=>(1,(5 - v5).toNat,1000000,0,0,0)
theorem Zaw6(a0:Z1):Tot (Zaai a0) (fun r=>True):=by
 unfold Zaai
 refine tX (Inv:=Zaw5) (μ:=Zadg) (m:=(1000000,0,0,0,0,0)) ?_ ?_
 ·dsimp only [Zaf9,LT.den]
  refine tB (Zs9 a0) (fun x1 h2=>?_)
  have eh2_0:=h2.1
  have eh2_1:=h2.2
  refine tO (fun h3=>?_) (fun h3=>?_)
  ·exact tR trivial
  ·have h3_0:=eh2_0 h3
   have h3_1:=eh2_1 h3
   exact tL ⟨cl,trivial⟩ Zbbk
 ·intro s hs
  cases s with
  | L0 E0 v3 v4 v5=>
   obtain⟨cv5,_⟩:=hs
   show Tot (Zyf E0 v3 v4 v5).den _
   dsimp only [Zyf,LT.den]
   refine tD (fun h1=>?_) (fun h1=>?_)
   ·refine tB (tI (by omega) tk78) (fun x2 h3=>?_)
    refine tD (fun h4=>?_) (fun h4=>?_)
    ·refine qw (v3+v4) fun q5 q6=>?_
     refine qw (2*v4) fun q7 q8=>?_
     refine qw (v5+1) fun q9 q10=>?_
     exact tL ⟨cl,trivial⟩ Zbbk
    ·refine qw (2*v4) fun q11 q12=>?_
     refine qw (v5+1) fun q13 q14=>?_
     exact tL ⟨cl,trivial⟩ Zbbk
   ·exact tR trivial
def Zaty:Zk7→Prop
 | .L0 E0 E1 E2 v4=>(Za1 E0)∧(Za1 E1)∧(Za1 E2)∧(0≤v4)∧(E2.Effects.length≤v4.toNat)∧(v4.toNat≤E0.Effects.length)
def Zvo:Zk7→M6
 | .L0 E0 E1 E2 v4=>(1,((E0.Effects.length:Int) - v4).toNat,1000000,0,0,0)
theorem Zatz(a0:Zt)(oa0:Za1 a0):Tot (Zv9 a0) (fun r=>(Za1 r)):=by
 unfold Zv9
 refine tX (Inv:=Zaty) (μ:=Zvo) (m:=(1000000,0,0,0,0,0)) ?_ ?_
 ·dsimp only [Zach,LT.den]
  have q3:=oa0.2.1.1
  refine tB (tA Zkm (by decide)) (fun x1 h2=>?_)
  have lh2:x1.length=([]:(List Zz)).length+a0.Mods.length:=by rw [h2,List.length_append]
  try simp only [List.length_cons,List.length_nil,Nat.zero_add] at lh2
  have q6:=oa0.2.2.2.1.1
  refine tB (tA Zkm (by decide)) (fun x4 h5=>?_)
  have lh5:x4.length=([]:(List Zr)).length+a0.Specs.length:=by rw [h5,List.length_append]
  try simp only [List.length_cons,List.length_nil,Nat.zero_add] at lh5
  exact tL ⟨oa0,⟨(SzS.nil),SzL.nil,(SzS.nil),SzL.nil,SzL.nil,(SzS.nil)⟩,⟨oa0.1,(SzL.app (k:=176) h2 lo (fun _ h=>by cases h) oa0.2.1.2),oa0.2.2.1,(SzL.app (k:=144) h5 lo (fun _ h=>by cases h) oa0.2.2.2.1.2),SzL.nil,oa0.2.2.2.2.2⟩,cl,cl,cl⟩ (by unfold Zvo lt6;dsimp only;omega)
 ·intro s hs
  cases s with
  | L0 E0 E1 E2 v4=>
   obtain⟨O0,O1,O2,cv4,i0,i1⟩:=hs
   show Tot (Zus E0 E1 E2 v4).den _
   dsimp only [Zus,LT.den]
   have q1:=O0.2.2.2.2.1.1
   refine tD (fun h2=>?_) (fun h2=>?_)
   ·refine tB (tI (by omega) (by omega)) (fun x3 h4=>?_)
    have oh4:Zaw x3:=O0.2.2.2.2.1.2 x3 h4.1
    have q7:=oh4.2.2.2.2.1
    refine tB (tA Zkm (by decide)) (fun x5 h6=>?_)
    have lh6:x5.length=([]:(List Zz)).length+x3.Mods.length:=by rw [h6,List.length_append]
    try simp only [List.length_cons,List.length_nil,Nat.zero_add] at lh6
    have q8:(SzL 560 Zaw) ([(⟨x3.Op,x3.Ref,x3.Amount,x3.Counter,x3.Zone,x3.Card,x3.Filter,x3.Pool,x5⟩:Z9)]:(List Z9)):=⟨by simp only [List.length_cons,List.length_nil];omega,(mem_cons' ⟨oh4.1,oh4.2.1,oh4.2.2.1,oh4.2.2.2.1,(SzL.app (k:=176) h6 lo (fun _ h=>by cases h) oh4.2.2.2.2.2)⟩ (fun _ h=>by cases h))⟩
    have q11:=O2.2.2.2.2.1.1
    refine tB (tA Zb0 (by decide)) (fun x9 h10=>?_)
    have lh10:x9.length=E2.Effects.length+1:=by rw [h10,List.length_append];rfl
    refine qw (v4+1) fun q12 q13=>?_
    exact tL ⟨O0,O1,⟨O2.1,O2.2.1,O2.2.2.1,O2.2.2.2.1,(SzL.app (k:=560) h10 lo O2.2.2.2.2.1.2 q8.2),O2.2.2.2.2.2⟩,cl,cl,cl⟩ (by unfold Zvo lt6;dsimp only;omega)
   ·exact tR O2
abbrev Zaox(a0:Zq)(r:Za):Prop:=(Zv r)∧(r.Abilities.length≤a0.Abilities.length)
def Zat0(a0:Zq):Zk8→Prop
 | .L0 E0 E1 E2 v4=>(E0=a0)∧(Zal E0)∧(Zv E1)∧(Zv E2)∧(0≤v4)∧(E2.Abilities.length≤v4.toNat)∧(v4.toNat≤E0.Abilities.length)
def Zvp:Zk8→M6
 | .L0 E0 E1 E2 v4=>(1,((E0.Abilities.length:Int) - v4).toNat,1000000,0,0,0)
theorem Zat1(a0:Zq)(oa0:Zal a0):Tot (Z6p a0) (Zaox a0):=by
 unfold Z6p
 refine tX (Inv:=(Zat0 a0)) (μ:=Zvp) (m:=(1000000,0,0,0,0,0)) ?_ ?_
 ·dsimp only [Zacj,LT.den]
  refine tB (Zaw6 a0.Cost) (fun x1 h2=>?_)
  have q5:=oa0.2.1.1
  refine tB (tA Zkm (by decide)) (fun x3 h4=>?_)
  have lh4:x3.length=([]:(List (List UInt8))).length+a0.Line.Subs.length:=by rw [h4,List.length_append]
  try simp only [List.length_cons,List.length_nil,Nat.zero_add] at lh4
  exact tL ⟨rfl,oa0,⟨(SzS.nil),SzL.nil,SzL.nil⟩,⟨oa0.1,(SzL.app (k:=16) h4 lo (fun _ h=>by cases h) oa0.2.1.2),SzL.nil⟩,cl,cl,cl⟩ (by unfold Zvp lt6;dsimp only;omega)
 ·intro s hs
  cases s with
  | L0 E0 E1 E2 v4=>
   obtain⟨al0,O0,O1,O2,cv4,i0,i1⟩:=hs
   subst al0
   show Tot (Zut E0 E1 E2 v4).den _
   dsimp only [Zut,LT.den]
   have q1:=O0.2.2.1
   refine tD (fun h2=>?_) (fun h2=>?_)
   ·refine tB (tI (by omega) (by omega)) (fun x3 h4=>?_)
    have oh4:Za1 x3:=O0.2.2.2 x3 h4.1
    refine tB (Zatz x3 oh4) (fun x5 h6=>?_)
    have q7:(SzL 640 Za1) ([x5]:(List Zt)):=⟨by simp only [List.length_cons,List.length_nil];omega,(mem_cons' h6 (fun _ h=>by cases h))⟩
    have q10:=O2.2.2.1
    refine tB (tA Zb0 (by decide)) (fun x8 h9=>?_)
    have lh9:x8.length=E2.Abilities.length+1:=by rw [h9,List.length_append];rfl
    refine qw (v4+1) fun q11 q12=>?_
    exact tL ⟨rfl,O0,O1,⟨O2.1,O2.2.1,(SzL.app (k:=640) h9 lo O2.2.2.2 q7.2)⟩,cl,cl,cl⟩ (by unfold Zvp lt6;dsimp only;omega)
   ·exact tR ⟨O2,cl⟩
def Zto:Zuu→Prop
 | .L0 v0 E0 E1 v5=>((SzL 176 Zal) v0)∧(Zv E1)∧(∀ c,c∈v0→c.Abilities.length≤8)∧(E1.Abilities.length≤8)
 | .L1 E0 E1 E2=>(Zv E1)∧(Zv E2)∧(E1.Abilities.length≤8)∧(E2.Abilities.length≤8)
def Zah3:Zuu→M6
 | .L0 v0 E0 E1 v5=>(0,0,0,0,0,0)
 | .L1 E0 E1 E2=>(0,0,0,0,0,0)
theorem Zqk(E0:Zl)(E1:Za)(E2:Za)(h:Zto (.L1 E0 E1 E2)):Tot (Zre E0 E1 E2).den (Nx Zto Zah3 (0,0,0,0,0,0) (fun r=>(Zv r)∧(r.Abilities.length≤8))):=by
 obtain⟨O1,O2,i0,i1⟩:=h
 dsimp only [Zre,LT.den]
 refine tE (fun h1=>?_) (fun h1=>?_)
 ·exact tR ⟨⟨O2.1,O2.2.1,O2.2.2⟩,cl⟩
 ·refine tE (fun h2=>?_) (fun h2=>?_)
  ·exact tR ⟨⟨O2.1,O2.2.1,O2.2.2⟩,cl⟩
  ·exact tR ⟨⟨O2.1,O2.2.1,O2.2.2⟩,cl⟩
theorem Zzo(v0:(List Zq))(E0:Zl)(E1:Za)(v5:Int)(h:Zto (.L0 v0 E0 E1 v5)):Tot (Zxo v0 E0 E1 v5).den (Nx Zto Zah3 (0,0,0,0,0,0) (fun r=>(Zv r)∧(r.Abilities.length≤8))):=by
 obtain⟨ov0,O1,i0,i1⟩:=h
 have lb_v0:=ov0.1
 dsimp only [Zxo,LT.den]
 refine tD (fun h1=>?_) (fun h1=>?_)
 ·have q2:=ov0.1
  refine tD (fun h3=>?_) (fun h3=>?_)
  ·refine tB (tI (by omega) (by omega)) (fun x4 h5=>?_)
   have oh5:Zal x4:=ov0.2 x4 h5.1
   have mh5:=i0 x4 h5.1
   refine tB (Zat1 x4 oh5) (fun x6 h7=>?_)
   have eh7_1:=h7.2
   exact tJ (Zqk E0 E1 x6 ⟨O1,h7.1,cl,cl⟩)
  ·exact tJ (Zqk E0 E1 (⟨([]:List UInt8),(⟨0,0,(⟨0,0,0,0,0⟩:(A5 Int))⟩:Z1),0,(⟨0,0,([]:(List (List UInt8)))⟩:Z8),0,0,0,([]:(List Zt)),0⟩:Za) ⟨O1,⟨(SzS.nil),SzL.nil,SzL.nil⟩,cl,cl⟩)
 ·exact tJ (Zqk E0 E1 (⟨([]:List UInt8),(⟨0,0,(⟨0,0,0,0,0⟩:(A5 Int))⟩:Z1),0,(⟨0,0,([]:(List (List UInt8)))⟩:Z8),0,0,0,([]:(List Zt)),0⟩:Za) ⟨O1,⟨(SzS.nil),SzL.nil,SzL.nil⟩,cl,cl⟩)
theorem Zat2(a0:(List Zq))(a1:Zl)(oa0:(SzL 176 Zal) a0)(h0:∀ c,c∈a0→c.Abilities.length≤8):Tot (Zask a0 a1) (fun r=>(Zv r)∧(r.Abilities.length≤8)):=by
 unfold Zask
 refine tX (Inv:=Zto) (μ:=Zah3) (m:=(1000000,0,0,0,0,0)) ?_ ?_
 ·have lb_a0:=oa0.1
  dsimp only [Za48,LT.den]
  refine tD (fun h1=>?_) (fun h1=>?_)
  ·exact tJ (Zzo a0 a1 (⟨([]:List UInt8),(⟨0,0,(⟨0,0,0,0,0⟩:(A5 Int))⟩:Z1),0,(⟨0,0,([]:(List (List UInt8)))⟩:Z8),0,0,0,([]:(List Zt)),0⟩:Za) a1.Card ⟨oa0,⟨(SzS.nil),SzL.nil,SzL.nil⟩,Zan,cl⟩)
  ·exact tJ (Zzo a0 a1 (⟨([]:List UInt8),(⟨0,0,(⟨0,0,0,0,0⟩:(A5 Int))⟩:Z1),0,(⟨0,0,([]:(List (List UInt8)))⟩:Z8),0,0,0,([]:(List Zt)),0⟩:Za) a1.Copy ⟨oa0,⟨(SzS.nil),SzL.nil,SzL.nil⟩,Zan,cl⟩)
 ·intro s hs
  cases s with
  | L0 v0 E0 E1 v5=>exact Zzo v0 E0 E1 v5 hs
  | L1 E0 E1 E2=>exact Zqk E0 E1 E2 hs
def Zaw7(a0:(List Zq))(a1:Zb):Zha→Prop
 | .L0 v0 E0 v5 v6=>(E0=a1)∧((SzL 176 Zal) v0)∧(Zw E0)∧((SzL 224 Zah) v5)∧(0≤v6)∧(∀ c,c∈v0→c.Abilities.length≤8)∧(E0.Objects.length≤60)∧(E0.Conts.length≤8)∧(v5.length≤8*v6.toNat)∧(v6.toNat≤E0.Objects.length)
 | .L1 v0 E0 v5 v6 E1 E2 v9=>(E0=a1)∧((SzL 176 Zal) v0)∧(Zw E0)∧((SzL 224 Zah) v5)∧(Zv E2)∧(0≤v9)∧(0≤v6)∧(v6 < (E0.Objects.length:Int))∧(∀ c,c∈v0→c.Abilities.length≤8)∧(E0.Objects.length≤60)∧(E0.Conts.length≤8)∧(E2.Abilities.length≤8)∧(v5.length≤8*v6.toNat+v9.toNat)∧(v9.toNat≤E2.Abilities.length)
 | .L2 E0 v5 v11=>(E0=a1)∧(Zw E0)∧((SzL 224 Zah) v5)∧(0≤v11)∧(E0.Conts.length≤8)∧(v5.length≤480+v11.toNat)∧(v11.toNat≤E0.Conts.length)
def Zadh:Zha→M6
 | .L0 v0 E0 v5 v6=>(3,((E0.Objects.length:Int) - v6).toNat,1000000,0,0,0)
 | .L1 v0 E0 v5 v6 E1 E2 v9=>(3,((E0.Objects.length:Int) - v6).toNat,1,((E2.Abilities.length:Int) - v9).toNat,1000000,0)
 | .L2 E0 v5 v11=>(1,((E0.Conts.length:Int) - v11).toNat,1000000,0,0,0)
theorem Zaw8(a0:(List Zq))(a1:Zb)(oa0:(SzL 176 Zal) a0)(oa1:Zw a1)(h0:∀ c,c∈a0→c.Abilities.length≤8)(h1:a1.Objects.length≤60)(h2:a1.Conts.length≤8):Tot (Z0a a0 a1) (fun r=>((SzL 224 Zah) r)∧(r.length≤10000)):=by
 unfold Z0a
 refine tX (Inv:=(Zaw7 a0 a1)) (μ:=Zadh) (m:=(1000000,0,0,0,0,0)) ?_ ?_
 ·have lb_a0:=oa0.1
  dsimp only [Zagb,LT.den]
  exact tL ⟨rfl,oa0,oa1,SzL.nil,cl,Zan,cl,cl,cl,cl⟩ Z48
 ·intro s hs
  cases s with
  | L0 v0 E0 v5 v6=>
   obtain⟨al0,ov0,O0,ov5,cv6,i0,i1,i2,i3,i4⟩:=hs
   have lb_v0:=ov0.1
   have lb_v5:=ov5.1
   subst al0
   show Tot (Zyg v0 E0 v5 v6).den _
   dsimp only [Zyg,LT.den]
   have q1:=O0.2.1.1
   refine tD (fun h2=>?_) (fun h2=>?_)
   ·refine tB (tI (by omega) (by omega)) (fun x3 h4=>?_)
    refine tN (fun h5=>?_) (fun h5=>?_)
    ·refine qw (v6+1) fun q6 q7=>?_
     exact tL ⟨rfl,ov0,O0,ov5,cl,Zan,cl,cl,cl,cl⟩ Z48
    ·refine tB (Zat2 v0 x3 ov0 Zan) (fun x8 h9=>?_)
     have eh9_1:=h9.2
     exact tL ⟨rfl,ov0,O0,ov5,h9.1,cl,cl,cl,Zan,cl,cl,cl,cl,cl⟩ Z48
   ·exact tL ⟨rfl,O0,ov5,cl,cl,cl,cl⟩ Z48
  | L1 v0 E0 v5 v6 E1 E2 v9=>
   obtain⟨al0,ov0,O0,ov5,O2,cv9,cv6,bd7,i0,i1,i2,i3,i4,i5⟩:=hs
   have lb_v0:=ov0.1
   have lb_v5:=ov5.1
   subst al0
   show Tot (Zyh v0 E0 v5 v6 E1 E2 v9).den _
   dsimp only [Zyh,LT.den]
   have lx_0:E0.Objects.length*128≤140737488351232:=O0.2.1.1
   have q1:=O2.2.2.1
   refine tD (fun h2=>?_) (fun h2=>?_)
   ·refine tB (tI (by omega) (by omega)) (fun x3 h4=>?_)
    have oh4:Za1 x3:=O2.2.2.2 x3 h4.1
    refine tE (fun h5=>?_) (fun h5=>?_)
    ·have q6:(SzL 224 Zah) ([(⟨E1.Id,v9,E1.Control,E1.Stamp,false,([]:(List Int)),x3.Filter,x3.Mods⟩:Zx)]:(List Zx)):=⟨by simp only [List.length_cons,List.length_nil];omega,(mem_cons' ⟨SzL.nil,oh4.1,oh4.2.1⟩ (fun _ h=>by cases h))⟩
     have q9:=ov5.1
     refine tB (tA Zb0 (by decide)) (fun x7 h8=>?_)
     have lh8:x7.length=v5.length+1:=by rw [h8,List.length_append];rfl
     refine qw (v9+1) fun q10 q11=>?_
     exact tL ⟨rfl,ov0,O0,(SzL.app (k:=224) h8 lo ov5.2 q6.2),O2,cl,cl,cl,Zan,cl,cl,cl,cl,cl⟩ Z48
    ·refine qw (v9+1) fun q12 q13=>?_
     exact tL ⟨rfl,ov0,O0,ov5,O2,cl,cl,cl,Zan,cl,cl,cl,cl,cl⟩ Z48
   ·refine qw (v6+1) fun q14 q15=>?_
    exact tL ⟨rfl,ov0,O0,ov5,cl,Zan,cl,cl,cl,cl⟩ Z48
  | L2 E0 v5 v11=>
   obtain⟨al0,O0,ov5,cv11,i0,i1,i2⟩:=hs
   have lb_v5:=ov5.1
   subst al0
   show Tot (Zyi E0 v5 v11).den _
   dsimp only [Zyi,LT.den]
   have q1:=O0.2.2.2.2.2.2.1.1
   refine tD (fun h2=>?_) (fun h2=>?_)
   ·refine tB (tI (by omega) (by omega)) (fun x3 h4=>?_)
    have oh4:Zwf x3:=O0.2.2.2.2.2.2.1.2 x3 h4.1
    have q5:(SzL 224 Zah) ([(⟨x3.Source,(-1),x3.Control,x3.Stamp,true,x3.Objects,(⟨0,0,0,0,0,0,0,([]:List UInt8),0,0,(⟨0,0⟩:Zd),(⟨0,0⟩:Zd),(⟨0,0⟩:Zd)⟩:Ze),x3.Mods⟩:Zx)]:(List Zx)):=⟨by simp only [List.length_cons,List.length_nil];omega,(mem_cons' ⟨oh4.1,(SzS.nil),oh4.2⟩ (fun _ h=>by cases h))⟩
    have q8:=ov5.1
    refine tB (tA Zb0 (by decide)) (fun x6 h7=>?_)
    have lh7:x6.length=v5.length+1:=by rw [h7,List.length_append];rfl
    refine qw (v11+1) fun q9 q10=>?_
    exact tL ⟨rfl,O0,(SzL.app (k:=224) h7 lo ov5.2 q5.2),cl,cl,cl,cl⟩ Z48
   ·exact tR ⟨ov5,cl⟩
abbrev Zaw9(a0:(List Zq))(a1:Zb)(r:Zc):Prop:=(Z5 r)∧(r.S.Objects.length=a1.Objects.length)∧(r.L.length≤10000)∧(r.All.length=r.S.Objects.length)∧(r.Blank.length=r.S.Objects.length)∧(r.Begun.length=r.L.length)∧(r.Sets.length=r.L.length)
def Za02(a0:(List Zq))(a1:Zb):Zpq→Prop
 | .L0 v0 E0 E1 E2 v6=>(E0=a1)∧((SzL 176 Zal) v0)∧(Zw E0)∧(Z5 E1)∧(Z5 E2)∧(0≤v6)∧(∀ c,c∈v0→c.Abilities.length≤8)∧(E2.S.Objects.length=E0.Objects.length)∧(E2.L.length≤10000)∧(E2.All.length=v6.toNat)∧(v6.toNat≤E0.Objects.length)∧(E0.Objects.length≤60)
def Z3t:Zpq→M6
 | .L0 v0 E0 E1 E2 v6=>(1,((E0.Objects.length:Int) - v6).toNat,1000000,0,0,0)
theorem Za03(a0:(List Zq))(a1:Zb)(oa0:(SzL 176 Zal) a0)(oa1:Zw a1)(h0:∀ c,c∈a0→c.Abilities.length≤8)(h1:a1.Objects.length≤60)(h2:a1.Conts.length≤8):Tot (Zagd a0 a1) (Zaw9 a0 a1):=by
 unfold Zagd
 refine tX (Inv:=(Za02 a0 a1)) (μ:=Z3t) (m:=(1000000,0,0,0,0,0)) ?_ ?_
 ·have lb_a0:=oa0.1
  dsimp only [Zald,LT.den]
  refine tB (Zaw8 a0 a1 oa0 oa1 Zan cl cl) (fun x1 h2=>?_)
  have eh2_1:=h2.2
  exact tL ⟨rfl,oa0,oa1,⟨⟨SzL.nil,SzL.nil,SzL.nil,SzL.nil,SzL.nil,SzL.nil,SzL.nil,SzL.nil⟩,SzL.nil,SzL.nil,SzL.nil,SzL.nil,SzL.nil⟩,⟨oa1,SzL.nil,h2.1,SzL.nil,SzL.nil,SzL.nil⟩,cl,Zan,cl,cl,cl,cl,cl⟩ (by unfold Z3t lt6;dsimp only;omega)
 ·intro s hs
  cases s with
  | L0 v0 E0 E1 E2 v6=>
   obtain⟨al0,ov0,O0,O1,O2,cv6,i0,i1,i2,i3,i4,i5⟩:=hs
   have lb_v0:=ov0.1
   subst al0
   show Tot (Z2l v0 E0 E1 E2 v6).den _
   dsimp only [Z2l,LT.den]
   have q1:=O0.2.1.1
   refine tD (fun h2=>?_) (fun h2=>?_)
   ·refine tB (tI (by omega) (by omega)) (fun x3 h4=>?_)
    refine tB (Zat2 v0 x3 ov0 Zan) (fun x5 h6=>?_)
    have eh6_1:=h6.2
    have q7:(SzL 176 Zv) ([x5]:(List Za)):=⟨by simp only [List.length_cons,List.length_nil];omega,(mem_cons' h6.1 (fun _ h=>by cases h))⟩
    have q10:=O2.2.1.1
    refine tB (tA Zb0 (by decide)) (fun x8 h9=>?_)
    have lh9:x8.length=E2.All.length+1:=by rw [h9,List.length_append];rfl
    refine qw (v6+1) fun q11 q12=>?_
    exact tL ⟨rfl,ov0,O0,O1,⟨O2.1,(SzL.app (k:=176) h9 lo O2.2.1.2 q7.2),O2.2.2.1,O2.2.2.2.1,O2.2.2.2.2.1,O2.2.2.2.2.2⟩,cl,Zan,cl,cl,cl,cl,cl⟩ (by unfold Z3t lt6;dsimp only;omega)
   ·have q13:=O2.2.2.1.1
    refine tB (Tot.make ⟨by omega,by omega,by omega,by omega⟩) (fun x14 h15=>?_)
    have lh15:=h15.1
    refine tB (Tot.make ⟨by omega,by omega,by omega,by omega⟩) (fun x16 h17=>?_)
    have lh17:=h17.1
    refine tB (Tot.make ⟨by omega,by omega,by omega,by omega⟩) (fun x18 h19=>?_)
    have lh19:=h19.1
    exact tR ⟨⟨O2.1,O2.2.1,O2.2.2.1,⟨lo,fun _ _=>trivial⟩,⟨lo,fun e he=>by rw [h17.2 e he];exact SzL.nil⟩,⟨lo,fun _ _=>trivial⟩⟩,cl,cl,cl,cl,cl,cl⟩
theorem Zc8(a0:Int):Tot (Zxp a0) (fun r=>(r=clV a0)):=by
 unfold Zxp
 refine tZ ?_
 dsimp only [Z6q,LT.den]
 refine tD (fun h1=>?_) (fun h1=>?_)
 ·exact tR (by unfold clV Zt8 Zrp;grind)
 ·refine tD (fun h2=>?_) (fun h2=>?_)
  ·exact tR (by unfold clV Zt8 Zrp;grind)
  ·exact tR (by unfold clV Zt8 Zrp;grind)
theorem Za8k(a0:Int)(a1:Int):Tot (Zavy a0 a1) (fun r=>True):=by
 unfold Zavy
 refine tZ ?_
 dsimp only [Zayz,LT.den]
 refine tB (Zc8 a0) (fun x1 h2=>?_)
 have eh2_0:=h2
 refine tB (Zc8 a1) (fun x3 h4=>?_)
 have eh4_0:=h4
 refine qw (x1 - x3) fun q5 q6=>?_
 refine tB (Zc8 (IntKind.wrap .i64 (x1 - x3))) (fun x7 h8=>?_)
 have eh8_0:=h8
 exact tR trivial
theorem Za04(a0:(A3 Int)):Tot (Zage a0) (fun r=>True):=by
 unfold Zage
 refine tZ ?_
 dsimp only [Zalg,LT.den]
 refine tB (tI (by omega) (by have e:(A3.list a0).length=3:=rfl;omega)) (fun x1 h2=>?_)
 refine tB (tI (by omega) (by have e:(A3.list a0).length=3:=rfl;omega)) (fun x3 h4=>?_)
 refine tB (Za8k x1 x3) (fun x5 h6=>?_)
 exact tR trivial
theorem Ziq(a0:Int)(a1:Int):Tot (Z8s a0 a1) (fun r=>True):=by
 unfold Z8s
 refine tZ ?_
 dsimp only [Zagf,LT.den]
 refine tB (Zc8 a0) (fun x1 h2=>?_)
 have eh2_0:=h2
 refine tB (Zc8 a1) (fun x3 h4=>?_)
 have eh4_0:=h4
 refine qw (x1+x3) fun q5 q6=>?_
 refine tB (Zc8 (IntKind.wrap .i64 (x1+x3))) (fun x7 h8=>?_)
 have eh8_0:=h8
 exact tR trivial
abbrev Zaoy(a0:Zc)(r:Zc):Prop:=(Z5 r)∧(r.S.Objects.length=a0.S.Objects.length)∧(r.L.length=a0.L.length)∧(r.All.length=r.S.Objects.length)∧(r.Blank.length=r.S.Objects.length)∧(r.Begun.length=r.L.length)∧(r.Sets.length=r.L.length)
def Zat3(a0:Zc):Zk9→Prop
 | .L0 E0 E1 E2 v4=>(E0=a0)∧(Z5 E0)∧(Z5 E1)∧(Z5 E2)∧(0≤v4)∧(E2.S.Objects.length=E0.S.Objects.length)∧(E2.L.length=E0.L.length)∧(E2.Begun.length=E0.Begun.length)∧(E2.Sets.length=E0.Sets.length)∧(E2.Blank.length=E0.Blank.length)∧(E2.All.length=v4.toNat)∧(v4.toNat≤E0.All.length)∧(E0.All.length=E0.S.Objects.length)∧(E0.Blank.length=E0.S.Objects.length)∧(E0.Begun.length=E0.L.length)∧(E0.Sets.length=E0.L.length)∧(E0.S.Objects.length≤60)∧(E0.L.length≤10000)
def Z9c:Zk9→M6
 | .L0 E0 E1 E2 v4=>(1,((E0.All.length:Int) - v4).toNat,1000000,0,0,0)
theorem Zat4(a0:Zc)(oa0:Z5 a0)(h0:a0.All.length=a0.S.Objects.length)(h1:a0.Blank.length=a0.S.Objects.length)(h2:a0.Begun.length=a0.L.length)(h3:a0.Sets.length=a0.L.length)(h4:a0.S.Objects.length≤60)(h5:a0.L.length≤10000):Tot (Z6r a0) (Zaoy a0):=by
 unfold Z6r
 refine tX (Inv:=(Zat3 a0)) (μ:=Z9c) (m:=(1000000,0,0,0,0,0)) ?_ ?_
 ·dsimp only [Zacl,LT.den]
  exact tL ⟨rfl,oa0,⟨⟨SzL.nil,SzL.nil,SzL.nil,SzL.nil,SzL.nil,SzL.nil,SzL.nil,SzL.nil⟩,SzL.nil,SzL.nil,SzL.nil,SzL.nil,SzL.nil⟩,⟨oa0.1,SzL.nil,oa0.2.2.1,oa0.2.2.2.1,oa0.2.2.2.2.1,oa0.2.2.2.2.2⟩,cl,cl,cl,cl,cl,cl,cl,cl,cl,cl,cl,cl,cl,cl⟩ tk97
 ·intro s hs
  cases s with
  | L0 E0 E1 E2 v4=>
   obtain⟨al0,O0,O1,O2,cv4,i0,i1,i2,i3,i4,i5,i6,i7,i8,i9,i10,i11,i12⟩:=hs
   subst al0
   show Tot (Zuv E0 E1 E2 v4).den _
   dsimp only [Zuv,LT.den]
   have q1:=O0.2.1.1
   refine tD (fun h2=>?_) (fun h2=>?_)
   ·refine tB (tI (by omega) (by omega)) (fun x3 h4=>?_)
    have oh4:Zv x3:=O0.2.1.2 x3 h4.1
    refine tB (tI (by omega) (by omega)) (fun x5 h6=>?_)
    refine tE (fun h7=>?_) (fun h7=>?_)
    ·refine tE (fun h8=>?_) (fun h8=>?_)
     ·refine tB (Za04 x5.Counters) (fun x9 h10=>?_)
      refine tB (Ziq x3.Power x9) (fun x11 h12=>?_)
      refine tB (Ziq x3.Tough x9) (fun x13 h14=>?_)
      have q15:(SzL 176 Zv) ([(⟨x3.Name,x3.Cost,x3.Colors,x3.Line,x11,x13,x3.Keys,x3.Abilities,x3.Control⟩:Za)]:(List Za)):=⟨by simp only [List.length_cons,List.length_nil];omega,(mem_cons' ⟨oh4.1,oh4.2.1,oh4.2.2⟩ (fun _ h=>by cases h))⟩
      have q18:=O2.2.1.1
      refine tB (tA Zb0 (by decide)) (fun x16 h17=>?_)
      have lh17:x16.length=E2.All.length+1:=by rw [h17,List.length_append];rfl
      refine qw (v4+1) fun q19 q20=>?_
      exact tL ⟨rfl,O0,O1,⟨O2.1,(SzL.app (k:=176) h17 lo O2.2.1.2 q15.2),O2.2.2.1,O2.2.2.2.1,O2.2.2.2.2.1,O2.2.2.2.2.2⟩,cl,cl,cl,cl,cl,cl,cl,cl,cl,cl,cl,cl,cl,cl⟩ tk97
     ·have q21:(SzL 176 Zv) ([x3]:(List Za)):=⟨by simp only [List.length_cons,List.length_nil];omega,(mem_cons' oh4 (fun _ h=>by cases h))⟩
      have q24:=O2.2.1.1
      refine tB (tA Zb0 (by decide)) (fun x22 h23=>?_)
      have lh23:x22.length=E2.All.length+1:=by rw [h23,List.length_append];rfl
      refine qw (v4+1) fun q25 q26=>?_
      exact tL ⟨rfl,O0,O1,⟨O2.1,(SzL.app (k:=176) h23 lo O2.2.1.2 q21.2),O2.2.2.1,O2.2.2.2.1,O2.2.2.2.2.1,O2.2.2.2.2.2⟩,cl,cl,cl,cl,cl,cl,cl,cl,cl,cl,cl,cl,cl,cl⟩ tk97
    ·have q27:(SzL 176 Zv) ([x3]:(List Za)):=⟨by simp only [List.length_cons,List.length_nil];omega,(mem_cons' oh4 (fun _ h=>by cases h))⟩
     have q30:=O2.2.1.1
     refine tB (tA Zb0 (by decide)) (fun x28 h29=>?_)
     have lh29:x28.length=E2.All.length+1:=by rw [h29,List.length_append];rfl
     refine qw (v4+1) fun q31 q32=>?_
     exact tL ⟨rfl,O0,O1,⟨O2.1,(SzL.app (k:=176) h29 lo O2.2.1.2 q27.2),O2.2.2.1,O2.2.2.2.1,O2.2.2.2.2.1,O2.2.2.2.2.2⟩,cl,cl,cl,cl,cl,cl,cl,cl,cl,cl,cl,cl,cl,cl⟩ tk97
   ·exact tR ⟨O2,cl,cl,cl,cl,cl,cl⟩
def Zql:Zij→Prop
 | .L0 v3 v6=>True
 | .L1 v3 v11=>True
 | .L2 v3 v14=>True
def Ztp:Zij→M6
 | .L0 v3 v6=>(0,0,0,0,0,0)
 | .L1 v3 v11=>(0,0,0,0,0,0)
 | .L2 v3 v14=>(0,0,0,0,0,0)
theorem Zkp(v3:Int)(v14:Bool)(h:True):Tot (Zjf v3 v14).den (Nx Zql Ztp (0,0,0,0,0,0) (fun r=>True)):=by
 dsimp only [Zjf,LT.den]
 refine tF (fun h1=>?_) (fun h1=>?_)
 ·exact tR trivial
 ·refine tE (fun h2=>?_) (fun h2=>?_)
  ·exact tR trivial
  ·refine tE (fun h3=>?_) (fun h3=>?_)
   ·exact tR trivial
   ·refine tE (fun h4=>?_) (fun h4=>?_)
    ·exact tR trivial
    ·refine tE (fun h5=>?_) (fun h5=>?_)
     ·exact tR trivial
     ·exact tR trivial
theorem Zq0(v3:Int)(v11:Bool)(h:True):Tot (Znd v3 v11).den (Nx Zql Ztp (0,0,0,0,0,0) (fun r=>True)):=by
 dsimp only [Znd,LT.den]
 refine tF (fun h1=>?_) (fun h1=>?_)
 ·exact tR trivial
 ·refine tE (fun h2=>?_) (fun h2=>?_)
  ·exact tJ (Zkp v3 (v3==8) trivial)
  ·refine tE (fun h3=>?_) (fun h3=>?_)
   ·exact tJ (Zkp v3 (v3==9) trivial)
   ·exact tJ (Zkp v3 (v3==10) trivial)
theorem Zhf(v3:Int)(v6:Bool)(h:True):Tot (Zhb v3 v6).den (Nx Zql Ztp (0,0,0,0,0,0) (fun r=>True)):=by
 dsimp only [Zhb,LT.den]
 refine tF (fun h1=>?_) (fun h1=>?_)
 ·exact tR trivial
 ·refine tE (fun h2=>?_) (fun h2=>?_)
  ·exact tJ (Zq0 v3 (v3==6) trivial)
  ·exact tJ (Zq0 v3 (v3==7) trivial)
theorem Zaxa(a0:Int):Tot (Zcc a0) (fun r=>True):=by
 unfold Zcc
 refine tX (Inv:=Zql) (μ:=Ztp) (m:=(1000000,0,0,0,0,0)) ?_ ?_
 ·dsimp only [Zali,LT.den]
  refine tE (fun h1=>?_) (fun h1=>?_)
  ·exact tR trivial
  ·refine tE (fun h2=>?_) (fun h2=>?_)
   ·exact tJ (Zhf a0 (a0==2) trivial)
   ·refine tE (fun h3=>?_) (fun h3=>?_)
    ·exact tJ (Zhf a0 (a0==3) trivial)
    ·refine tE (fun h4=>?_) (fun h4=>?_)
     ·exact tJ (Zhf a0 (a0==4) trivial)
     ·exact tJ (Zhf a0 (a0==5) trivial)
 ·intro s hs
  cases s with
  | L0 v3 v6=>exact Zhf v3 v6 hs
  | L1 v3 v11=>exact Zq0 v3 v11 hs
  | L2 v3 v14=>exact Zkp v3 v14 hs
theorem Zqm(a0:Int):Tot (Zcc a0) (fun r=>r=(Zcc a0).getD 0):=(Tot.we (Zaxa a0)).mono fun r h=>by rw [h.2];rfl
def Zat5:Zla→Prop
 | .L0 v1 E0 v5=>(Zah E0)∧(0≤v5)
def Zvq:Zla→M6
 | .L0 v1 E0 v5=>(1,((E0.Mods.length:Int) - v5).toNat,1000000,0,0,0)
theorem Zat6(a0:Zx)(a1:Int)(oa0:Zah a0):Tot (Z6s a0 a1) (fun r=>True):=by
 unfold Z6s
 refine tX (Inv:=Zat5) (μ:=Zvq) (m:=(1000000,0,0,0,0,0)) ?_ ?_
 ·dsimp only [Zacn,LT.den]
  exact tL ⟨oa0,cl⟩ (by unfold Zvq lt6;dsimp only;omega)
 ·intro s hs
  cases s with
  | L0 v1 E0 v5=>
   obtain⟨O0,cv5⟩:=hs
   show Tot (Zuw v1 E0 v5).den _
   dsimp only [Zuw,LT.den]
   have q1:=O0.2.2.1
   refine tD (fun h2=>?_) (fun h2=>?_)
   ·refine tB (tI (by omega) (by omega)) (fun x3 h4=>?_)
    have oh4:Za0 x3:=O0.2.2.2 x3 h4.1
    refine tB (Zqm x3.Kind) (fun x5 h6=>?_)
    have eh6_0:=h6
    refine tE (fun h7=>?_) (fun h7=>?_)
    ·exact tR trivial
    ·refine qw (v5+1) fun q8 q9=>?_
     exact tL ⟨O0,cl⟩ (by unfold Zvq lt6;dsimp only;omega)
   ·exact tR trivial
def Za05(a0:Zb)(a1:Int):Zpr→Prop
 | .L0 v1 E0 v5=>(E0=a0)∧(Zw E0)∧(0≤v5)
def Z3u:Zpr→M6
 | .L0 v1 E0 v5=>(1,((E0.Objects.length:Int) - v5).toNat,1000000,0,0,0)
theorem Zadi(a0:Zb)(a1:Int)(oa0:Zw a0):Tot (Zagg a0 a1) (fun r=>(-1≤r)∧(r < a0.Objects.length)):=by
 unfold Zagg
 refine tX (Inv:=(Za05 a0 a1)) (μ:=Z3u) (m:=(1000000,0,0,0,0,0)) ?_ ?_
 ·dsimp only [Zalk,LT.den]
  exact tL ⟨rfl,oa0,cl⟩ (by unfold Z3u lt6;dsimp only;omega)
 ·intro s hs
  cases s with
  | L0 v1 E0 v5=>
   obtain⟨al0,O0,cv5⟩:=hs
   subst al0
   show Tot (Z2m v1 E0 v5).den _
   dsimp only [Z2m,LT.den]
   have q1:=O0.2.1.1
   refine tD (fun h2=>?_) (fun h2=>?_)
   ·refine tB (tI (by omega) (by omega)) (fun x3 h4=>?_)
    refine tE (fun h5=>?_) (fun h5=>?_)
    ·exact tR ⟨cl,cl⟩
    ·refine qw (v5+1) fun q6 q7=>?_
     exact tL ⟨rfl,O0,cl⟩ (by unfold Z3u lt6;dsimp only;omega)
   ·exact tR ⟨cl,cl⟩
theorem Zoe(a0:Zc)(a1:Int)(oa0:Z5 a0)(h0:a0.All.length=a0.S.Objects.length)(h1:a0.Blank.length=a0.S.Objects.length)(h2:a0.Begun.length=a0.L.length)(h3:a0.Sets.length=a0.L.length)(h4:a0.S.Objects.length≤60)(h5:a0.L.length≤10000)(h6:0≤a1)(h7:a1 < a0.L.length):Tot (Zaaj a0 a1) (fun r=>True):=by
 unfold Zaaj
 refine tZ ?_
 dsimp only [Zagi,LT.den]
 refine tB (tI (by omega) (by omega)) (fun x1 h2=>?_)
 have oh2:Zah x1:=oa0.2.2.1.2 x1 h2.1
 refine tF (fun h3=>?_) (fun h3=>?_)
 ·exact tR trivial
 ·refine tB (tI (by omega) (by omega)) (fun x4 h5=>?_)
  refine tF (fun h6=>?_) (fun h6=>?_)
  ·exact tR trivial
  ·refine tB (Zadi a0.S x1.Source oa0.1) (fun x7 h8=>?_)
   have eh8_0:=h8.1
   have eh8_1:=h8.2
   refine tD (fun h9=>?_) (fun h9=>?_)
   ·exact tR trivial
   ·refine tB (tI (by omega) (by omega)) (fun x10 h11=>?_)
    exact tR trivial
def Za06(a0:(List Int))(a1:Int):Zps→Prop
 | .L0 v0 v1 v5=>(v0=a0)∧(v1=a1)∧((SzL 8 (fun _=>True)) v0)∧(0≤v5)∧(∀ (k:Nat) x,(k:Int) < v5→v0[k]?=some x→x≠v1)
def Z3v:Zps→M6
 | .L0 v0 v1 v5=>(1,((v0.length:Int) - v5).toNat,1000000,0,0,0)
theorem Za07(a0:(List Int))(a1:Int)(oa0:(SzL 8 (fun _=>True)) a0):Tot (Zagk a0 a1) (fun r=>(0≤r↔a1∈a0)):=by
 unfold Zagk
 refine tX (Inv:=(Za06 a0 a1)) (μ:=Z3v) (m:=(1000000,0,0,0,0,0)) ?_ ?_
 ·have lb_a0:=oa0.1
  dsimp only [Zalm,LT.den]
  exact tL ⟨rfl,rfl,oa0,cl,tk42⟩ (by unfold Z3v lt6;dsimp only;omega)
 ·intro s hs
  cases s with
  | L0 v0 v1 v5=>
   obtain⟨al0,al1,ov0,cv5,i0⟩:=hs
   have lb_v0:=ov0.1
   subst al0
   subst al1
   show Tot (Z2n v0 v1 v5).den _
   dsimp only [Z2n,LT.den]
   have q1:=ov0.1
   refine tD (fun h2=>?_) (fun h2=>?_)
   ·refine tB (tI (by omega) (by omega)) (fun x3 h4=>?_)
    have mh4:=h4.2
    refine tE (fun h5=>?_) (fun h5=>?_)
    ·exact tR Za18
    ·refine qw (v5+1) fun q6 q7=>?_
     exact tL ⟨rfl,rfl,ov0,cl,tk42⟩ (by unfold Z3v lt6;dsimp only;omega)
   ·exact tR Za18
theorem Zamh(a0:(List Int))(a1:Int)(oa0:(SzL 8 (fun _=>True)) a0):Tot (Zav0 a0 a1) (fun r=>(r=true↔a1∈a0)):=by
 unfold Zav0
 refine tZ ?_
 have lb_a0:=oa0.1
 dsimp only [Zay2,LT.den]
 refine tB (Za07 a0 a1 oa0) (fun x1 h2=>?_)
 have eh2_0:=h2
 exact tR (by grind)
theorem Zwg(a0:Zc)(a1:Int)(oa0:Z5 a0)(h0:a0.All.length=a0.S.Objects.length)(h1:a0.Blank.length=a0.S.Objects.length)(h2:a0.Begun.length=a0.L.length)(h3:a0.Sets.length=a0.L.length)(h4:a0.S.Objects.length≤60)(h5:a0.L.length≤10000)(h6:0≤a1)(h7:a1 < a0.L.length):Tot (Zav1 a0 a1) (fun r=>True):=by
 unfold Zav1
 refine tZ ?_
 dsimp only [Zay4,LT.den]
 refine tB (tI (by omega) (by omega)) (fun x1 h2=>?_)
 have oh2:Zah x1:=oa0.2.2.1.2 x1 h2.1
 refine tB (Zadi a0.S x1.Source oa0.1) (fun x3 h4=>?_)
 have eh4_0:=h4.1
 have eh4_1:=h4.2
 refine tF (fun h5=>?_) (fun h5=>?_)
 ·exact tR trivial
 ·refine tD (fun h6=>?_) (fun h6=>?_)
  ·exact tR trivial
  ·refine tB (tI (by omega) (by omega)) (fun x7 h8=>?_)
   have oh8:Zv x7:=oa0.2.1.2 x7 h8.1
   exact tR trivial
theorem Za8l(a0:Int)(a1:Int)(a2:Int):Tot (Z8t a0 a1 a2) (fun r=>True):=by
 unfold Z8t
 refine tZ ?_
 dsimp only [Zagl,LT.den]
 refine tE (fun h1=>?_) (fun h1=>?_)
 ·exact tR trivial
 ·refine tN (fun h2=>?_) (fun h2=>?_)
  ·exact tR trivial
  ·exact tR trivial
theorem Za6z(a0:Int)(a1:Int)(a2:Int):Tot (Z2o a0 a1 a2) (fun r=>True):=by
 unfold Z2o
 refine tZ ?_
 dsimp only [Zaak,LT.den]
 refine tE (fun h1=>?_) (fun h1=>?_)
 ·exact tR trivial
 ·refine tN (fun h2=>?_) (fun h2=>?_)
  ·exact tR trivial
  ·exact tR trivial
theorem Za8m(a0:Bool)(a1:Int):Tot (Z8u a0 a1) (fun r=>True):=by
 unfold Z8u
 refine tZ ?_
 dsimp only [Zagm,LT.den]
 refine tE (fun h1=>?_) (fun h1=>?_)
 ·exact tR trivial
 ·refine tN (fun h2=>?_) (fun h2=>?_)
  ·exact tR trivial
  ·exact tR trivial
theorem Zfa(a0:Int)(a1:Int):Tot (Zpt a0 a1) (fun r=>True):=by
 unfold Zpt
 refine tZ ?_
 dsimp only [Zacp,LT.den]
 exact tR trivial
theorem Z9d(a0:Z8)(a1:(List UInt8))(oa0:Zdb a0)(oa1:SzT a1):Tot (Zsq a0 a1) (fun r=>True):=by
 unfold Zsq
 refine tZ ?_
 have lb_a1:a1.length≤562949953421312:=oa1
 dsimp only [Z2p,LT.den]
 refine tB (Zy1 a0.Subs a1 oa0 oa1) (fun x1 h2=>?_)
 exact tR trivial
theorem Zwh(a0:Int)(a1:Int):Tot (Zaiw a0 a1) (fun r=>(r=kwB a0 a1)):=by
 unfold Zaiw
 refine tZ ?_
 dsimp only [Zay8,LT.den]
 exact tR (by rfl)
theorem Zlr(a0:Zd)(a1:Int):Tot (Zxq a0 a1) (fun r=>True):=by
 unfold Zxq
 refine tZ ?_
 dsimp only [Z6t,LT.den]
 refine tE (fun h1=>?_) (fun h1=>?_)
 ·exact tR trivial
 ·refine tE (fun h2=>?_) (fun h2=>?_)
  ·exact tR trivial
  ·refine tE (fun h3=>?_) (fun h3=>?_)
   ·exact tR trivial
   ·refine tE (fun h4=>?_) (fun h4=>?_)
    ·exact tR trivial
    ·exact tR trivial
theorem Zami(a0:Int)(a1:Int):Tot (Z8v a0 a1) (fun r=>(r=muV a0 a1)):=by
 unfold Z8v
 refine tZ ?_
 dsimp only [Zago,LT.den]
 refine tB (Zc8 a0) (fun x1 h2=>?_)
 have eh2_0:=h2
 refine tB (Zc8 a1) (fun x3 h4=>?_)
 have eh4_0:=h4
 refine qw (x1*x3) fun q5 q6=>?_
 refine tB (Zc8 (IntKind.wrap .i64 (x1*x3))) (fun x7 h8=>?_)
 have eh8_0:=h8
 exact tR (by unfold muV;grind)
def Za08:Zpu→Prop
 | .L0 v1 E0 v5 v6=>(0≤v6)∧True
def Z3w:Zpu→M6
 | .L0 v1 E0 v5 v6=>(1,(5 - v6).toNat,1000000,0,0,0)
theorem Zzp(a0:Z1)(a1:Int):Tot (Zxr a0 a1) (fun r=>True):=by
 unfold Zxr
 refine tX (Inv:=Za08) (μ:=Z3w) (m:=(1000000,0,0,0,0,0)) ?_ ?_
 ·dsimp only [Z6u,LT.den]
  refine tB (Zs9 a0) (fun x1 h2=>?_)
  have eh2_0:=h2.1
  have eh2_1:=h2.2
  refine tO (fun h3=>?_) (fun h3=>?_)
  ·exact tR trivial
  ·have h3_0:=eh2_0 h3
   have h3_1:=eh2_1 h3
   exact tL ⟨cl,trivial⟩ (by unfold Z3w lt6;dsimp only;omega)
 ·intro s hs
  cases s with
  | L0 v1 E0 v5 v6=>
   obtain⟨cv6,_⟩:=hs
   show Tot (Zhc v1 E0 v5 v6).den _
   dsimp only [Zhc,LT.den]
   refine tD (fun h1=>?_) (fun h1=>?_)
   ·refine tB (tI (by omega) tk78) (fun x2 h3=>?_)
    refine tB (Ziq v5 x2) (fun x4 h5=>?_)
    refine qw (v6+1) fun q6 q7=>?_
    exact tL ⟨cl,trivial⟩ (by unfold Z3w lt6;dsimp only;omega)
   ·refine tD (fun h8=>?_) (fun h8=>?_)
    ·refine tB (Zami E0.X 0) (fun x9 h10=>?_)
     have eh10_0:=h10
     refine tB (Ziq v5 x9) (fun x11 h12=>?_)
     exact tR trivial
    ·refine tB (Zami E0.X v1) (fun x13 h14=>?_)
     have eh14_0:=h14
     refine tB (Ziq v5 x13) (fun x15 h16=>?_)
     exact tR trivial
def Zvr:Znf→Prop
 | .L0 E0 E1 v5=>(Zv E0)∧(Zav E1)
def Zadj:Znf→M6
 | .L0 E0 E1 v5=>(0,0,0,0,0,0)
theorem Ziw(E0:Za)(E1:Ze)(v5:Bool)(h:Zvr (.L0 E0 E1 v5)):Tot (Zff E0 E1 v5).den (Nx Zvr Zadj (0,0,0,0,0,0) (fun r=>True)):=by
 obtain⟨O0,O1⟩:=h
 dsimp only [Zff,LT.den]
 refine tN (fun h1=>?_) (fun h1=>?_)
 ·refine tF (fun h2=>?_) (fun h2=>?_)
  ·refine tB (Zlr E1.Tough E0.Tough) (fun x3 h4=>?_)
   refine tO (fun h5=>?_) (fun h5=>?_)
   ·exact tR trivial
   ·refine tB (Zzp E0.Cost 0) (fun x6 h7=>?_)
    refine tB (Zlr E1.Value x6) (fun x8 h9=>?_)
    exact tR trivial
  ·refine tO (fun h10=>?_) (fun h10=>?_)
   ·exact tR trivial
   ·refine tB (Zzp E0.Cost 0) (fun x11 h12=>?_)
    refine tB (Zlr E1.Value x11) (fun x13 h14=>?_)
    exact tR trivial
 ·refine tB (Zzp E0.Cost 0) (fun x15 h16=>?_)
  refine tB (Zlr E1.Value x15) (fun x17 h18=>?_)
  exact tR trivial
theorem Z9e(a0:Za)(a1:Ze)(oa0:Zv a0)(oa1:Zav a1):Tot (Zsr a0 a1) (fun r=>True):=by
 unfold Zsr
 refine tX (Inv:=Zvr) (μ:=Zadj) (m:=(1000000,0,0,0,0,0)) ?_ ?_
 ·dsimp only [Z2r,LT.den]
  refine tB (Zfa a0.Line.Types 1) (fun x1 h2=>?_)
  refine tN (fun h3=>?_) (fun h3=>?_)
  ·refine tF (fun h4=>?_) (fun h4=>?_)
   ·refine tB (Zlr a1.Power a0.Power) (fun x5 h6=>?_)
    refine tO (fun h7=>?_) (fun h7=>?_)
    ·exact tR trivial
    ·exact tJ (Ziw a0 a1 x1 ⟨oa0,oa1⟩)
   ·refine tO (fun h8=>?_) (fun h8=>?_)
    ·exact tR trivial
    ·exact tJ (Ziw a0 a1 x1 ⟨oa0,oa1⟩)
  ·exact tJ (Ziw a0 a1 x1 ⟨oa0,oa1⟩)
 ·intro s hs
  cases s with
  | L0 E0 E1 v5=>exact Ziw E0 E1 v5 hs
def Zjs:Zjg→Prop
 | .L0 E0 E1=>(Zv E0)∧(Zav E1)
 | .L1 E0 E1=>(Zv E0)∧(Zav E1)
def Zzq:Zjg→M6
 | .L0 E0 E1=>(0,0,0,0,0,0)
 | .L1 E0 E1=>(0,0,0,0,0,0)
theorem Zo1(E0:Za)(E1:Ze)(h:Zjs (.L1 E0 E1)):Tot (Zgd E0 E1).den (Nx Zjs Zzq (0,0,0,0,0,0) (fun r=>True)):=by
 obtain⟨O0,O1⟩:=h
 dsimp only [Zgd,LT.den]
 refine tO (fun h1=>?_) (fun h1=>?_)
 ·refine tB (Z9d E0.Line E1.Sub O0.2.1 (SzS.t O1)) (fun x2 h3=>?_)
  refine tO (fun h4=>?_) (fun h4=>?_)
  ·exact tR trivial
  ·refine tB (Zwh E0.Keys E1.Keys) (fun x5 h6=>?_)
   have eh6_0:=h6
   refine tO (fun h7=>?_) (fun h7=>?_)
   ·exact tR trivial
   ·refine tB (Z9e E0 E1 O0 O1) (fun x8 h9=>?_)
    exact tR trivial
 ·refine tB (Zwh E0.Keys E1.Keys) (fun x10 h11=>?_)
  have eh11_0:=h11
  refine tO (fun h12=>?_) (fun h12=>?_)
  ·exact tR trivial
  ·refine tB (Z9e E0 E1 O0 O1) (fun x13 h14=>?_)
   exact tR trivial
theorem Zo2(E0:Za)(E1:Ze)(h:Zjs (.L0 E0 E1)):Tot (Zge E0 E1).den (Nx Zjs Zzq (0,0,0,0,0,0) (fun r=>True)):=by
 obtain⟨O0,O1⟩:=h
 dsimp only [Zge,LT.den]
 refine tN (fun h1=>?_) (fun h1=>?_)
 ·refine tB (Zfa E0.Colors E1.Colors) (fun x2 h3=>?_)
  refine tO (fun h4=>?_) (fun h4=>?_)
  ·exact tR trivial
  ·refine tB (Zfa E0.Colors E1.NotColors) (fun x5 h6=>?_)
   refine tF (fun h7=>?_) (fun h7=>?_)
   ·exact tR trivial
   ·exact tJ (Zo1 E0 E1 ⟨O0,O1⟩)
 ·refine tB (Zfa E0.Colors E1.NotColors) (fun x8 h9=>?_)
  refine tF (fun h10=>?_) (fun h10=>?_)
  ·exact tR trivial
  ·exact tJ (Zo1 E0 E1 ⟨O0,O1⟩)
theorem Z9f(a0:Zl)(a1:Za)(a2:Int)(a3:Int)(a4:Ze)(oa1:Zv a1)(oa4:Zav a4):Tot (Zst a0 a1 a2 a3 a4) (fun r=>True):=by
 unfold Zst
 refine tX (Inv:=Zjs) (μ:=Zzq) (m:=(1000000,0,0,0,0,0)) ?_ ?_
 ·dsimp only [Z2t,LT.den]
  refine tB (Zek a4 oa4) (fun x1 h2=>?_)
  have eh2_0:=h2.1
  have eh2_1:=h2.2
  refine tO (fun h3=>?_) (fun h3=>?_)
  ·exact tR trivial
  ·have h3_0:=eh2_0 h3
   refine tN (fun h4=>?_) (fun h4=>?_)
   ·exact tR trivial
   ·refine tB (Za8l a1.Control a2 a4.Who) (fun x5 h6=>?_)
    refine tO (fun h7=>?_) (fun h7=>?_)
    ·exact tR trivial
    ·refine tB (Za6z a0.Id a3 a4.Self) (fun x8 h9=>?_)
     refine tO (fun h10=>?_) (fun h10=>?_)
     ·exact tR trivial
     ·refine tB (Za8m a0.Tapped a4.Tap) (fun x11 h12=>?_)
      refine tO (fun h13=>?_) (fun h13=>?_)
      ·exact tR trivial
      ·refine tN (fun h14=>?_) (fun h14=>?_)
       ·refine tB (Zfa a1.Line.Types a4.Types) (fun x15 h16=>?_)
        refine tO (fun h17=>?_) (fun h17=>?_)
        ·exact tR trivial
        ·refine tB (Zfa a1.Line.Types a4.NotTypes) (fun x18 h19=>?_)
         refine tF (fun h20=>?_) (fun h20=>?_)
         ·exact tR trivial
         ·exact tJ (Zo2 a1 a4 ⟨oa1,oa4⟩)
       ·refine tB (Zfa a1.Line.Types a4.NotTypes) (fun x21 h22=>?_)
        refine tF (fun h23=>?_) (fun h23=>?_)
        ·exact tR trivial
        ·exact tJ (Zo2 a1 a4 ⟨oa1,oa4⟩)
 ·intro s hs
  cases s with
  | L0 E0 E1=>exact Zo2 E0 E1 hs
  | L1 E0 E1=>exact Zo1 E0 E1 hs
def Zat7:Zlb→Prop
 | .L0 v1 E0 v5 E1 v7=>(Z5 E0)∧((SzL 8 (fun _=>True)) v5)∧(Zah E1)∧(0≤v7)∧(E0.All.length=E0.S.Objects.length)∧(E0.Blank.length=E0.S.Objects.length)∧(E0.Begun.length=E0.L.length)∧(E0.Sets.length=E0.L.length)∧(E0.S.Objects.length≤60)∧(E0.L.length≤10000)∧(0≤v1)∧(v1 < E0.L.length)∧(v5.length≤v7.toNat)∧(v7.toNat≤E0.S.Objects.length)
def Z9g:Zlb→M6
 | .L0 v1 E0 v5 E1 v7=>(1,((E0.S.Objects.length:Int) - v7).toNat,1000000,0,0,0)
theorem Ztq(a0:Zc)(a1:Int)(oa0:Z5 a0)(h0:a0.All.length=a0.S.Objects.length)(h1:a0.Blank.length=a0.S.Objects.length)(h2:a0.Begun.length=a0.L.length)(h3:a0.Sets.length=a0.L.length)(h4:a0.S.Objects.length≤60)(h5:a0.L.length≤10000)(h6:0≤a1)(h7:a1 < a0.L.length):Tot (Z6v a0 a1) (fun r=>((SzL 8 (fun _=>True)) r)):=by
 unfold Z6v
 refine tX (Inv:=Zat7) (μ:=Z9g) (m:=(1000000,0,0,0,0,0)) ?_ ?_
 ·dsimp only [Zact,LT.den]
  refine tB (tI (by omega) (by omega)) (fun x1 h2=>?_)
  refine tF (fun h3=>?_) (fun h3=>?_)
  ·refine tB (tI (by omega) (by omega)) (fun x4 h5=>?_)
   have oh5:(SzL 8 (fun _=>True)) x4:=oa0.2.2.2.2.1.2 x4 h5.1
   exact tR oh5
  ·refine tB (Zoe a0 a1 oa0 cl cl cl cl cl cl cl cl) (fun x6 h7=>?_)
   refine tO (fun h8=>?_) (fun h8=>?_)
   ·exact tR SzL.nil
   ·refine tB (tI (by omega) (by omega)) (fun x9 h10=>?_)
    have oh10:Zah x9:=oa0.2.2.1.2 x9 h10.1
    exact tL ⟨oa0,SzL.nil,oh10,cl,cl,cl,cl,cl,cl,cl,cl,cl,cl,cl⟩ tk98
 ·intro s hs
  cases s with
  | L0 v1 E0 v5 E1 v7=>
   obtain⟨O0,ov5,O1,cv7,i0,i1,i2,i3,i4,i5,i6,i7,i8,i9⟩:=hs
   have lb_v5:=ov5.1
   show Tot (Zux v1 E0 v5 E1 v7).den _
   dsimp only [Zux,LT.den]
   have q1:=O0.1.2.1.1
   refine tD (fun h2=>?_) (fun h2=>?_)
   ·refine tB (tI (by omega) (by omega)) (fun x3 h4=>?_)
    refine tN (fun h5=>?_) (fun h5=>?_)
    ·refine qw (v7+1) fun q6 q7=>?_
     exact tL ⟨O0,ov5,O1,cl,cl,cl,cl,cl,cl,cl,cl,cl,cl,cl⟩ tk98
    ·refine tF (fun h8=>?_) (fun h8=>?_)
     ·refine tB (Zamh E1.Objects x3.Id O1.1) (fun x9 h10=>?_)
      have eh10_0:=h10
      refine tF (fun h11=>?_) (fun h11=>?_)
      ·have q12:(SzL 8 (fun _=>True)) ([x3.Id]:(List Int)):=⟨by simp only [List.length_cons,List.length_nil];omega,fun _ _=>trivial⟩
       have q15:=ov5.1
       refine tB (tA Zb0 (by decide)) (fun x13 h14=>?_)
       have lh14:x13.length=v5.length+1:=by rw [h14,List.length_append];rfl
       refine qw (v7+1) fun q16 q17=>?_
       exact tL ⟨O0,⟨lo,fun _ _=>trivial⟩,O1,cl,cl,cl,cl,cl,cl,cl,cl,cl,cl,cl⟩ tk98
      ·refine tO (fun h18=>?_) (fun h18=>?_)
       ·refine tB (tI (by omega) (by omega)) (fun x19 h20=>?_)
        have oh20:Zv x19:=O0.2.1.2 x19 h20.1
        refine tB (Zwg E0 v1 O0 cl cl cl cl cl cl cl cl) (fun x21 h22=>?_)
        refine tB (Z9f x3 x19 x21 E1.Source E1.Filter oh20 O1.2.1) (fun x23 h24=>?_)
        refine tF (fun h25=>?_) (fun h25=>?_)
        ·have q26:(SzL 8 (fun _=>True)) ([x3.Id]:(List Int)):=⟨by simp only [List.length_cons,List.length_nil];omega,fun _ _=>trivial⟩
         have q29:=ov5.1
         refine tB (tA Zb0 (by decide)) (fun x27 h28=>?_)
         have lh28:x27.length=v5.length+1:=by rw [h28,List.length_append];rfl
         refine qw (v7+1) fun q30 q31=>?_
         exact tL ⟨O0,⟨lo,fun _ _=>trivial⟩,O1,cl,cl,cl,cl,cl,cl,cl,cl,cl,cl,cl⟩ tk98
        ·refine qw (v7+1) fun q32 q33=>?_
         exact tL ⟨O0,ov5,O1,cl,cl,cl,cl,cl,cl,cl,cl,cl,cl,cl⟩ tk98
       ·refine qw (v7+1) fun q34 q35=>?_
        exact tL ⟨O0,ov5,O1,cl,cl,cl,cl,cl,cl,cl,cl,cl,cl,cl⟩ tk98
     ·refine tO (fun h36=>?_) (fun h36=>?_)
      ·refine tB (tI (by omega) (by omega)) (fun x37 h38=>?_)
       have oh38:Zv x37:=O0.2.1.2 x37 h38.1
       refine tB (Zwg E0 v1 O0 cl cl cl cl cl cl cl cl) (fun x39 h40=>?_)
       refine tB (Z9f x3 x37 x39 E1.Source E1.Filter oh38 O1.2.1) (fun x41 h42=>?_)
       refine tF (fun h43=>?_) (fun h43=>?_)
       ·have q44:(SzL 8 (fun _=>True)) ([x3.Id]:(List Int)):=⟨by simp only [List.length_cons,List.length_nil];omega,fun _ _=>trivial⟩
        have q47:=ov5.1
        refine tB (tA Zb0 (by decide)) (fun x45 h46=>?_)
        have lh46:x45.length=v5.length+1:=by rw [h46,List.length_append];rfl
        refine qw (v7+1) fun q48 q49=>?_
        exact tL ⟨O0,⟨lo,fun _ _=>trivial⟩,O1,cl,cl,cl,cl,cl,cl,cl,cl,cl,cl,cl⟩ tk98
       ·refine qw (v7+1) fun q50 q51=>?_
        exact tL ⟨O0,ov5,O1,cl,cl,cl,cl,cl,cl,cl,cl,cl,cl,cl⟩ tk98
      ·refine qw (v7+1) fun q52 q53=>?_
       exact tL ⟨O0,ov5,O1,cl,cl,cl,cl,cl,cl,cl,cl,cl,cl,cl⟩ tk98
   ·exact tR ov5
theorem Zah4(a0:Zb)(a1:List Za)(a2 a3:Int)(a4:Ze)(oa0:Zw a0)(oa1:(SzL 176 Zv) a1)(oa4:Zav a4):Tot (Z2u a0 a1 a2 a3 a4) (fun r=>((SzL 8 (fun _=>True)) r)∧(r=Zs6 a0 a1 a2 a3 a4)):=
 ⟨_,Za8f a0 a1 a2 a3 a4 oa0.2.1.1 fun t ht=>Za9o (oa1.2 t ht),Za6y oa0,rfl⟩
abbrev Zaoz(a0:Zc)(a1:Int)(a2:Int)(r:(List Int)):Prop:=((SzL 8 (fun _=>True)) r)∧(∀ f,a0.L[a1.toNat]?=some f→r.length=(f.Mods.filter fun m=>(Zcc m.Kind).getD 0==a2).length)
def Zat8(a0:Zc)(a1:Int)(a2:Int):Zlc→Prop
 | .L0 v1 v2 E0 v7 E1 v9=>(E0=a0)∧(v1=a1)∧(v2=a2)∧(Z5 E0)∧((SzL 8 (fun _=>True)) v7)∧(Zah E1)∧(0≤v9)∧(E0.All.length=E0.S.Objects.length)∧(E0.Blank.length=E0.S.Objects.length)∧(E0.Begun.length=E0.L.length)∧(E0.Sets.length=E0.L.length)∧(E0.S.Objects.length≤60)∧(E0.L.length≤10000)∧(0≤v1)∧(v1 < E0.L.length)∧(v7.length≤v9.toNat)∧(v9.toNat≤E1.Mods.length)∧(E0.L[v1.toNat]?=some E1)∧(v7.length=cnt (fun m=>(Zcc m.Kind).getD 0==v2) E1.Mods v9)
def Z9h:Zlc→M6
 | .L0 v1 v2 E0 v7 E1 v9=>(1,((E1.Mods.length:Int) - v9).toNat,1000000,0,0,0)
theorem Ztr(a0:Zc)(a1:Int)(a2:Int)(oa0:Z5 a0)(h0:a0.All.length=a0.S.Objects.length)(h1:a0.Blank.length=a0.S.Objects.length)(h2:a0.Begun.length=a0.L.length)(h3:a0.Sets.length=a0.L.length)(h4:a0.S.Objects.length≤60)(h5:a0.L.length≤10000)(h6:0≤a1)(h7:a1 < a0.L.length):Tot (Zwb a0 a1 a2) (Zaoz a0 a1 a2):=by
 unfold Zwb
 refine tX (Inv:=(Zat8 a0 a1 a2)) (μ:=Z9h) (m:=(1000000,0,0,0,0,0)) ?_ ?_
 ·dsimp only [Zacv,LT.den]
  refine tB (tI (by omega) (by omega)) (fun x1 h2=>?_)
  have oh2:Zah x1:=oa0.2.2.1.2 x1 h2.1
  have mh2:=h2.2
  exact tL ⟨rfl,rfl,rfl,oa0,SzL.nil,oh2,cl,cl,cl,cl,cl,cl,cl,cl,cl,cl,cl,(by assumption),tk15⟩ tk99
 ·intro s hs
  cases s with
  | L0 v1 v2 E0 v7 E1 v9=>
   obtain⟨al0,al1,al2,O0,ov7,O1,cv9,i0,i1,i2,i3,i4,i5,i6,i7,i8,i9,i10,i11⟩:=hs
   have lb_v7:=ov7.1
   subst al0
   subst al1
   subst al2
   show Tot (Zuz v1 v2 E0 v7 E1 v9).den _
   dsimp only [Zuz,LT.den]
   have q1:=O1.2.2.1
   refine tD (fun h2=>?_) (fun h2=>?_)
   ·refine tB (tI (by omega) (by omega)) (fun x3 h4=>?_)
    have oh4:Za0 x3:=O1.2.2.2 x3 h4.1
    have mh4:=h4.2
    refine tB (Zqm x3.Kind) (fun x5 h6=>?_)
    have eh6_0:=h6
    refine tN (fun h7=>?_) (fun h7=>?_)
    ·refine qw (v9+1) fun q8 q9=>?_
     exact tL ⟨rfl,rfl,rfl,O0,ov7,O1,cl,cl,cl,cl,cl,cl,cl,cl,cl,cl,cl,(by assumption),tk15⟩ tk99
    ·refine tE (fun h10=>?_) (fun h10=>?_)
     ·refine tB (Zwg E0 v1 O0 cl cl cl cl cl cl cl cl) (fun x11 h12=>?_)
      refine tB (Zah4 E0.S E0.All x11 E1.Source x3.Filter O0.1 O0.2.1 oh4.2) (fun x13 h14=>?_)
      have eh14_1:=h14.2
      have q15:=h14.1.1
      have q16:(SzL 8 (fun _=>True)) ([(x13.length:Int)]:(List Int)):=⟨by simp only [List.length_cons,List.length_nil];omega,fun _ _=>trivial⟩
      have q19:=ov7.1
      refine tB (tA Zb0 (by decide)) (fun x17 h18=>?_)
      have lh18:x17.length=v7.length+1:=by rw [h18,List.length_append];rfl
      refine qw (v9+1) fun q20 q21=>?_
      exact tL ⟨rfl,rfl,rfl,O0,⟨lo,fun _ _=>trivial⟩,O1,cl,cl,cl,cl,cl,cl,cl,cl,cl,cl,cl,(by assumption),tk15⟩ tk99
     ·have q22:(SzL 8 (fun _=>True)) ([0]:(List Int)):=⟨by simp only [List.length_cons,List.length_nil];omega,fun _ _=>trivial⟩
      have q25:=ov7.1
      refine tB (tA Zb0 (by decide)) (fun x23 h24=>?_)
      have lh24:x23.length=v7.length+1:=by rw [h24,List.length_append];rfl
      refine qw (v9+1) fun q26 q27=>?_
      exact tL ⟨rfl,rfl,rfl,O0,⟨lo,fun _ _=>trivial⟩,O1,cl,cl,cl,cl,cl,cl,cl,cl,cl,cl,cl,(by assumption),tk15⟩ tk99
   ·exact tR ⟨ov7,(by intro f hf;cases hf.symm.trans (by assumption:_=some E1);rw [← Zbhu (v:=v9) (by omega)];assumption)⟩
def Zvs:Zjh→Prop
 | .L0 v1 E0 E1 v5 v6=>(SzT v1)∧(Zdb E0)∧(Zdb E1)∧((SzL 16 SzT) v5)∧(0≤v6)∧(v6.toNat≤v5.length)∧(v5.length≤4)
 | .L1 v1 E0 E1 v5 v6=>(SzT v1)∧(Zdb E0)∧(Zdb E1)∧((SzL 16 SzT) v5)∧(0≤v6)∧(v6.toNat≤v5.length)∧(v5.length≤4)
def Zls:Zjh→M6
 | .L0 v1 E0 E1 v5 v6=>(1,((v5.length:Int) - v6).toNat,1000000,0,0,0)
 | .L1 v1 E0 E1 v5 v6=>(0,0,0,0,0,0)
theorem Zo3(v1:(List UInt8))(E0:Z8)(E1:Z8)(v5:(List (List UInt8)))(v6:Int)(h:Zvs (.L1 v1 E0 E1 v5 v6)):Tot (Zld v1 E0 E1 v5 v6).den (Nx Zvs Zls (0,0,0,0,0,0) (fun r=>(Zdb r))):=by
 obtain⟨ov1,O0,O1,ov5,i0,i1,i2⟩:=h
 have lb_v1:v1.length≤562949953421312:=ov1
 have lb_v5:=ov5.1
 dsimp only [Zld,LT.den]
 have q3:=ov5.1
 refine tB (Tot.slice (by omega) (by omega) (by omega)) (fun x1 h2=>?_)
 have lh2:=h2.1
 have q6:x1.length*16≤140737488351232:=(show SzL 16 SzT x1 from ⟨lo,fun e he=>ov5.2 e (h2.2.1 e he)⟩).1
 refine tB (tA Zkm (by decide)) (fun x4 h5=>?_)
 have lh5:x4.length=([]:(List (List UInt8))).length+x1.length:=by rw [h5,List.length_append]
 try simp only [List.length_cons,List.length_nil,Nat.zero_add] at lh5
 have q7:(SzL 16 SzT) ([v1]:(List (List UInt8))):=⟨by simp only [List.length_cons,List.length_nil];omega,(mem_cons' ov1 (fun _ h=>by cases h))⟩
 have q10:=(SzL.app (k:=16) h5 lo (fun _ h=>by cases h) (show SzL _ SzT _ from ⟨lo,fun e he=>ov5.2 e (h2.2.1 e he)⟩).2).1
 refine tB (tA Zb0 (by decide)) (fun x8 h9=>?_)
 have lh9:x8.length=x4.length+1:=by rw [h9,List.length_append];rfl
 refine tB (Tot.slice (by omega) (by omega) (by omega)) (fun x11 h12=>?_)
 have lh12:=h12.1
 have q15:=(SzL.app (k:=16) h9 lo (SzL.app (k:=16) h5 lo (fun _ h=>by cases h) (show SzL _ SzT _ from ⟨lo,fun e he=>ov5.2 e (h2.2.1 e he)⟩).2).2 q7.2).1
 have q16:x11.length*16≤140737488351232:=(show SzL 16 SzT x11 from ⟨lo,fun e he=>ov5.2 e (h12.2.1 e he)⟩).1
 refine tB (tA Zkm (by decide)) (fun x13 h14=>?_)
 have lh14:x13.length=x8.length+x11.length:=by rw [h14,List.length_append]
 try simp only [List.length_cons,List.length_nil,Nat.zero_add] at lh14
 exact tR (SzL.app (k:=16) h14 lo (SzL.app (k:=16) h9 lo (SzL.app (k:=16) h5 lo (fun _ h=>by cases h) (show SzL _ SzT _ from ⟨lo,fun e he=>ov5.2 e (h2.2.1 e he)⟩).2).2 q7.2).2 (show SzL _ SzT _ from ⟨lo,fun e he=>ov5.2 e (h12.2.1 e he)⟩).2)
theorem Zaxb(a0:Z8)(a1:(List UInt8))(oa0:Zdb a0)(oa1:SzT a1):Tot (Zaan a0 a1) (fun r=>(Zdb r)):=by
 unfold Zaan
 refine tX (Inv:=Zvs) (μ:=Zls) (m:=(1000000,0,0,0,0,0)) ?_ ?_
 ·have lb_a1:a1.length≤562949953421312:=oa1
  dsimp only [Zagp,LT.den]
  have q3:=oa0.1
  refine tB (tA Zkm (by decide)) (fun x1 h2=>?_)
  have lh2:x1.length=([]:(List (List UInt8))).length+a0.Subs.length:=by rw [h2,List.length_append]
  try simp only [List.length_cons,List.length_nil,Nat.zero_add] at lh2
  refine tB (Zqd a1 oa1) (fun x4 h5=>?_)
  refine tO (fun h6=>?_) (fun h6=>?_)
  ·exact tR (SzL.app (k:=16) h2 lo (fun _ h=>by cases h) oa0.2)
  ·refine tB (Z9d a0 a1 oa0 oa1) (fun x7 h8=>?_)
   refine tF (fun h9=>?_) (fun h9=>?_)
   ·exact tR (SzL.app (k:=16) h2 lo (fun _ h=>by cases h) oa0.2)
   ·have q10:=(SzL.app (k:=16) h2 lo (fun _ h=>by cases h) oa0.2).1
    refine tD (fun h11=>?_) (fun h11=>?_)
    ·exact tR (SzL.app (k:=16) h2 lo (fun _ h=>by cases h) oa0.2)
    ·exact tL ⟨oa1,oa0,SzL.nil,(SzL.app (k:=16) h2 lo (fun _ h=>by cases h) oa0.2),cl,cl,cl⟩ (by unfold Zls lt6;dsimp only;omega)
 ·intro s hs
  cases s with
  | L0 v1 E0 E1 v5 v6=>
   obtain⟨ov1,O0,O1,ov5,i0,i1,i2⟩:=hs
   have lb_v1:v1.length≤562949953421312:=ov1
   have lb_v5:=ov5.1
   show Tot (Zyk v1 E0 E1 v5 v6).den _
   dsimp only [Zyk,LT.den,Zls]
   have q1:=ov5.1
   refine tD (fun h2=>?_) (fun h2=>?_)
   ·refine tB (tI (by omega) (by omega)) (fun x3 h4=>?_)
    have oh4:SzT x3:=ov5.2 x3 h4.1
    refine tF (fun h5=>?_) (fun h5=>?_)
    ·refine qw (v6+1) fun q6 q7=>?_
     exact tL ⟨ov1,O0,O1,ov5,cl,cl,cl⟩ (by unfold Zls lt6;dsimp only;omega)
    ·exact tJ (Zo3 v1 E0 E1 v5 v6 ⟨ov1,O0,O1,ov5,cl,cl,cl⟩)
   ·exact tJ (Zo3 v1 E0 E1 v5 v6 ⟨ov1,O0,O1,ov5,cl,cl,cl⟩)
  | L1 v1 E0 E1 v5 v6=>exact Zo3 v1 E0 E1 v5 v6 hs
theorem Za09(a0:Za)(a1:Zz)(a2:Int)(a3:Int)(oa0:Zv a0)(oa1:Za0 a1):Tot (Zagr a0 a1 a2 a3) (fun r=>(Zv r)):=by
 unfold Zagr
 refine tZ ?_
 dsimp only [Zalq,LT.den]
 refine tB (Zaba a1 oa1) (fun x1 h2=>?_)
 refine tO (fun h3=>?_) (fun h3=>?_)
 ·exact tR oa0
 ·refine tE (fun h4=>?_) (fun h4=>?_)
  ·exact tR ⟨oa0.1,oa0.2.1,oa0.2.2⟩
  ·refine tE (fun h5=>?_) (fun h5=>?_)
   ·exact tR ⟨oa0.1,oa0.2.1,oa0.2.2⟩
   ·refine tE (fun h6=>?_) (fun h6=>?_)
    ·exact tR ⟨oa0.1,oa0.2.1,oa0.2.2⟩
    ·refine tE (fun h7=>?_) (fun h7=>?_)
     ·have q8:(SzL 16 SzT) ([a1.Sub]:(List (List UInt8))):=⟨by simp only [List.length_cons,List.length_nil];omega,(mem_cons' (SzS.t oa1.1) (fun _ h=>by cases h))⟩
      exact tR ⟨oa0.1,q8,oa0.2.2⟩
     ·refine tE (fun h9=>?_) (fun h9=>?_)
      ·refine tB (Zaxb a0.Line a1.Sub oa0.2.1 (SzS.t oa1.1)) (fun x10 h11=>?_)
       exact tR ⟨oa0.1,h11,oa0.2.2⟩
      ·refine tE (fun h12=>?_) (fun h12=>?_)
       ·exact tR ⟨oa0.1,oa0.2.1,oa0.2.2⟩
       ·refine tE (fun h13=>?_) (fun h13=>?_)
        ·exact tR ⟨oa0.1,oa0.2.1,oa0.2.2⟩
        ·refine tE (fun h14=>?_) (fun h14=>?_)
         ·exact tR ⟨oa0.1,oa0.2.1,oa0.2.2⟩
         ·refine tE (fun h15=>?_) (fun h15=>?_)
          ·exact tR ⟨oa0.1,oa0.2.1,oa0.2.2⟩
          ·refine tE (fun h16=>?_) (fun h16=>?_)
           ·exact tR ⟨oa0.1,oa0.2.1,SzL.nil⟩
           ·refine tE (fun h17=>?_) (fun h17=>?_)
            ·refine tB (Zc8 a3) (fun x18 h19=>?_)
             have eh19_0:=h19
             refine tB (Zc8 a3) (fun x20 h21=>?_)
             have eh21_0:=h21
             exact tR ⟨oa0.1,oa0.2.1,oa0.2.2⟩
            ·refine tE (fun h22=>?_) (fun h22=>?_)
             ·exact tR ⟨oa0.1,oa0.2.1,oa0.2.2⟩
             ·refine tE (fun h23=>?_) (fun h23=>?_)
              ·refine tB (Ziq a0.Power a1.N) (fun x24 h25=>?_)
               refine tB (Ziq a0.Tough a1.M) (fun x26 h27=>?_)
               exact tR ⟨oa0.1,oa0.2.1,oa0.2.2⟩
              ·refine tE (fun h28=>?_) (fun h28=>?_)
               ·exact tR ⟨oa0.1,oa0.2.1,oa0.2.2⟩
               ·exact tR oa0
def Z3x:Zji→Prop
 | .L0 v2 v3 v4 E0 E1 E2 v11 v12=>((SzL 8 (fun _=>True)) v4)∧(Zv E0)∧(Zah E1)∧(Zv E2)∧(0≤v12)∧(0≤v11)∧(v11=cnt (fun m=>(Zcc m.Kind).getD 0==v2) E1.Mods v12)∧(v4.length=(E1.Mods.filter fun m=>(Zcc m.Kind).getD 0==v2).length)∧(v11≤17592186043904)
def Zts:Zji→M6
 | .L0 v2 v3 v4 E0 E1 E2 v11 v12=>(1,((E1.Mods.length:Int) - v12).toNat,1000000,0,0,0)
theorem Zadw(v2:Int)(v3:Int)(v4:(List Int))(E0:Za)(E1:Zx)(E2:Za)(v11:Int)(v12:Int)(h:((SzL 8 (fun _=>True)) v4)∧(Zv E0)∧(Zah E1)∧(Zv E2)∧(0≤v12)∧(0≤v11)∧(v11=cnt (fun m=>(Zcc m.Kind).getD 0==v2) E1.Mods v12)∧(v4.length=(E1.Mods.filter fun m=>(Zcc m.Kind).getD 0==v2).length)∧(v11≤17592186043904)):Tot (Zsu v2 v3 v4 E0 E1 E2 v11 v12).den (Nx Z3x Zts (1,((E1.Mods.length:Int) - v12).toNat,1000000,0,0,0) (fun r=>(Zv r))):=by
 obtain⟨ov4,O0,O1,O2,cv12,cv11,i0,i1,i2⟩:=h
 have lb_v4:v4.length*8≤140737488351232:=ov4.1
 dsimp only [Zsu,LT.den]
 have q1:E1.Mods.length*176≤140737488351232:=O1.2.2.1
 refine tD (fun h2=>?_) (fun h2=>?_)
 ·refine tB (tI (by omega) (by omega)) (fun x3 h4=>?_)
  have oh4:Za0 x3:=O1.2.2.2 x3 h4.1
  refine tB (Zqm x3.Kind) (fun x5 h6=>?_)
  refine tE (fun h7=>?_) (fun h7=>?_)
  ·have hp:(fun m:Zz=>(Zcc m.Kind).getD 0==v2) x3=true:=by
    show ((Zcc x3.Kind).getD 0==v2)=true
    rw [← h6,h7];exact beq_self_eq_true _
   have hlt:=Zbjc (p:=fun m:Zz=>(Zcc m.Kind).getD 0==v2) h4.2 cv12 hp
   have hnx:=fun w=>Zavh (p:=fun m:Zz=>(Zcc m.Kind).getD 0==v2) (w:=w) h4.2 cv12 hp
   refine tB (tI (by omega) (by omega)) (fun x8 h9=>?_)
   refine tB (Za09 E0 x3 v3 x8 O0 oh4) (fun x10 h11=>?_)
   replace h11:(Zv x10):=h11
   refine qw (v11+1) fun q12 q13=>?_
   refine qw (v12+1) fun q14 q15=>?_
   have hw:IntKind.wrap .i64 (v12+1)=v12+1:=by omega
   exact tL ⟨ov4,h11,O1,O2,cl,cl,by rw [hw,hnx _ rfl];omega,i1,cl⟩ tk91
  ·have hp:(fun m:Zz=>(Zcc m.Kind).getD 0==v2) x3=false:=by
    show ((Zcc x3.Kind).getD 0==v2)=false
    rw [← h6];exact beq_false_of_ne h7
   have hnx:=fun w=>Za3b (p:=fun m:Zz=>(Zcc m.Kind).getD 0==v2) (w:=w) h4.2 cv12 hp
   refine qw (v12+1) fun q16 q17=>?_
   have hw:IntKind.wrap .i64 (v12+1)=v12+1:=by omega
   exact tL ⟨ov4,O0,O1,O2,cl,cv11,by rw [hw,hnx _ rfl];exact i0,i1,i2⟩ tk91
 ·exact tR O0
theorem Zao0(a0:Za)(a1:Zx)(a2:Int)(a3:Int)(a4:(List Int))(oa0:Zv a0)(oa1:Zah a1)(oa4:(SzL 8 (fun _=>True)) a4)(h0:a4.length=(a1.Mods.filter fun m=>(Zcc m.Kind).getD 0==a2).length):Tot (Z2v a0 a1 a2 a3 a4) (fun r=>(Zv r)):=by
 unfold Z2v
 refine tX (Inv:=Z3x) (μ:=Zts) (m:=(1000000,0,0,0,0,0)) ?_ ?_
 ·have lb_a4:a4.length*8≤140737488351232:=oa4.1
  dsimp only [Z8w,LT.den]
  exact tL ⟨oa4,oa0,oa1,⟨(SzS.nil),SzL.nil,SzL.nil⟩,cl,cl,rfl,h0,cl⟩ tk91
 ·intro s hs
  cases s with
  | L0 v2 v3 v4 E0 E1 E2 v11 v12=>exact Zadw v2 v3 v4 E0 E1 E2 v11 v12 hs
def Za1a:Zpw→Prop
 | .L0 v1 E0 v5=>(Zah E0)∧(0≤v5)
def Zah5:Zpw→M6
 | .L0 v1 E0 v5=>(1,((E0.Mods.length:Int) - v5).toNat,1000000,0,0,0)
theorem Za1b(a0:Zx)(a1:Int)(oa0:Zah a0):Tot (Zags a0 a1) (fun r=>True):=by
 unfold Zags
 refine tX (Inv:=Za1a) (μ:=Zah5) (m:=(1000000,0,0,0,0,0)) ?_ ?_
 ·dsimp only [Zals,LT.den]
  exact tL ⟨oa0,cl⟩ Zbbp
 ·intro s hs
  cases s with
  | L0 v1 E0 v5=>
   obtain⟨O0,cv5⟩:=hs
   show Tot (Z2w v1 E0 v5).den _
   dsimp only [Z2w,LT.den]
   have q1:=O0.2.2.1
   refine tD (fun h2=>?_) (fun h2=>?_)
   ·refine tB (tI (by omega) (by omega)) (fun x3 h4=>?_)
    have oh4:Za0 x3:=O0.2.2.2 x3 h4.1
    refine tE (fun h5=>?_) (fun h5=>?_)
    ·refine tB (Zqm x3.Kind) (fun x6 h7=>?_)
     have eh7_0:=h7
     refine tE (fun h8=>?_) (fun h8=>?_)
     ·exact tR trivial
     ·refine qw (v5+1) fun q9 q10=>?_
      exact tL ⟨O0,cl⟩ Zbbp
    ·refine qw (v5+1) fun q11 q12=>?_
     exact tL ⟨O0,cl⟩ Zbbp
   ·exact tR trivial
abbrev Zao1(a0:Zc)(a1:Int)(a2:Int)(r:Zc):Prop:=(Z5 r)∧(r.S.Objects.length=a0.S.Objects.length)∧(r.L.length=a0.L.length)∧(r.All.length=r.S.Objects.length)∧(r.Blank.length=r.S.Objects.length)∧(r.Begun.length=r.L.length)∧(r.Sets.length=r.L.length)
def Zat9(a0:Zc)(a1:Int)(a2:Int):Zle→Prop
 | .L0 v1 v2 E0 E1 v7 v8 v9 E2 v11=>(E0=a0)∧(Z5 E0)∧(Z5 E1)∧((SzL 8 (fun _=>True)) v7)∧((SzL 8 (fun _=>True)) v8)∧(Z5 E2)∧(0≤v11)∧(E0.All.length=E0.S.Objects.length)∧(E0.Blank.length=E0.S.Objects.length)∧(E0.Begun.length=E0.L.length)∧(E0.Sets.length=E0.L.length)∧(E0.S.Objects.length≤60)∧(E0.L.length≤10000)∧(0≤v1)∧(v1 < E0.L.length)∧(E2.S.Objects.length=E0.S.Objects.length)∧(E2.L.length=E0.L.length)∧(E2.All.length=E2.S.Objects.length)∧(E2.Blank.length=E2.S.Objects.length)∧(E2.Begun.length=E2.L.length)∧(E2.Sets.length=E2.L.length)∧(∀ f,E0.L[v1.toNat]?=some f→v8.length=(f.Mods.filter fun m=>(Zcc m.Kind).getD 0==v2).length)
def Z9i:Zle→M6
 | .L0 v1 v2 E0 E1 v7 v8 v9 E2 v11=>(1,((E0.S.Objects.length:Int) - v11).toNat,1000000,0,0,0)
theorem Z5k(a0:Zc)(a1:Int)(a2:Int)(oa0:Z5 a0)(h0:a0.All.length=a0.S.Objects.length)(h1:a0.Blank.length=a0.S.Objects.length)(h2:a0.Begun.length=a0.L.length)(h3:a0.Sets.length=a0.L.length)(h4:a0.S.Objects.length≤60)(h5:a0.L.length≤10000)(h6:0≤a1)(h7:a1 < a0.L.length):Tot (Z6w a0 a1 a2) (Zao1 a0 a1 a2):=by
 unfold Z6w
 refine tX (Inv:=(Zat9 a0 a1 a2)) (μ:=Z9i) (m:=(1000000,0,0,0,0,0)) ?_ ?_
 ·dsimp only [Zacx,LT.den]
  refine tB (Zoe a0 a1 oa0 cl cl cl cl cl cl cl cl) (fun x1 h2=>?_)
  refine tO (fun h3=>?_) (fun h3=>?_)
  ·exact tR ⟨oa0,cl,cl,cl,cl,cl,cl⟩
  ·refine tB (Ztq a0 a1 oa0 cl cl cl cl cl cl cl cl) (fun x4 h5=>?_)
   refine tB (Ztr a0 a1 a2 oa0 cl cl cl cl cl cl cl cl) (fun x6 h7=>?_)
   have eh7_1:=h7.2
   refine tB (Zwg a0 a1 oa0 cl cl cl cl cl cl cl cl) (fun x8 h9=>?_)
   have q12:=oa0.2.1.1
   refine tB (tA Zkm (by decide)) (fun x10 h11=>?_)
   have lh11:x10.length=([]:(List Za)).length+a0.All.length:=by rw [h11,List.length_append]
   try simp only [List.length_cons,List.length_nil,Nat.zero_add] at lh11
   have q15:=oa0.2.2.2.1.1
   refine tB (tA Zkm (by decide)) (fun x13 h14=>?_)
   have lh14:x13.length=([]:(List Bool)).length+a0.Begun.length:=by rw [h14,List.length_append]
   try simp only [List.length_cons,List.length_nil,Nat.zero_add] at lh14
   have q18:=oa0.2.2.2.2.1.1
   refine tB (tA Zkm (by decide)) (fun x16 h17=>?_)
   have lh17:x16.length=([]:(List (List Int))).length+a0.Sets.length:=by rw [h17,List.length_append]
   try simp only [List.length_cons,List.length_nil,Nat.zero_add] at lh17
   have q21:=oa0.2.2.2.2.2.1
   refine tB (tA Zkm (by decide)) (fun x19 h20=>?_)
   have lh20:x19.length=([]:(List Bool)).length+a0.Blank.length:=by rw [h20,List.length_append]
   try simp only [List.length_cons,List.length_nil,Nat.zero_add] at lh20
   refine tB (tI (by omega) (by omega)) (fun x22 h23=>?_)
   refine tB (Tot.set (by omega) (by omega)) (fun x24 h25=>?_)
   have lh25:=h25.1
   refine tB (tI (by omega) (by omega)) (fun x26 h27=>?_)
   have oh27:(SzL 8 (fun _=>True)) x26:=(SzL.app (k:=24) h17 lo (fun _ h=>by cases h) oa0.2.2.2.2.1.2).2 x26 h27.1
   refine tB (Tot.set (by omega) (by omega)) (fun x28 h29=>?_)
   have lh29:=h29.1
   exact tL ⟨rfl,oa0,⟨⟨SzL.nil,SzL.nil,SzL.nil,SzL.nil,SzL.nil,SzL.nil,SzL.nil,SzL.nil⟩,SzL.nil,SzL.nil,SzL.nil,SzL.nil,SzL.nil⟩,h5,h7.1,⟨oa0.1,(SzL.app (k:=176) h11 lo (fun _ h=>by cases h) oa0.2.1.2),oa0.2.2.1,⟨lo,fun _ _=>trivial⟩,⟨lo,fun e he=>(h29.2.1 e he).elim (fun w=>by rw [w];exact h5) ((SzL.app (k:=24) h17 lo (fun _ h=>by cases h) oa0.2.2.2.2.1.2).2 e)⟩,⟨lo,fun _ _=>trivial⟩⟩,cl,cl,cl,cl,cl,cl,cl,cl,cl,cl,cl,cl,cl,cl,cl,(by assumption)⟩ Za1z
 ·intro s hs
  cases s with
  | L0 v1 v2 E0 E1 v7 v8 v9 E2 v11=>
   obtain⟨al0,O0,O1,ov7,ov8,O2,cv11,i0,i1,i2,i3,i4,i5,i6,i7,i8,i9,i10,i11,i12,i13,i14⟩:=hs
   have lb_v7:=ov7.1
   have lb_v8:=ov8.1
   subst al0
   show Tot (Zu1 v1 v2 E0 E1 v7 v8 v9 E2 v11).den _
   dsimp only [Zu1,LT.den]
   have q1:=O0.1.2.1.1
   refine tD (fun h2=>?_) (fun h2=>?_)
   ·refine tB (tI (by omega) (by omega)) (fun x3 h4=>?_)
    refine tB (Zamh v7 x3.Id ov7) (fun x5 h6=>?_)
    have eh6_0:=h6
    refine tO (fun h7=>?_) (fun h7=>?_)
    ·refine qw (v11+1) fun q8 q9=>?_
     exact tL ⟨rfl,O0,O1,ov7,ov8,O2,cl,cl,cl,cl,cl,cl,cl,cl,cl,cl,cl,cl,cl,cl,cl,(by assumption)⟩ Za1z
    ·refine tB (tI (by omega) (by omega)) (fun x10 h11=>?_)
     have oh11:Zv x10:=O0.2.1.2 x10 h11.1
     refine tB (tI (by omega) (by omega)) (fun x12 h13=>?_)
     have oh13:Zah x12:=O0.2.2.1.2 x12 h13.1
     have mh13:=h13.2
     refine tB (Zao0 x10 x12 v2 v9 v8 oh11 oh13 ov8 (by grind)) (fun x14 h15=>?_)
     refine tB (tI (by omega) (by omega)) (fun x16 h17=>?_)
     have oh17:Zv x16:=O2.2.1.2 x16 h17.1
     refine tB (Tot.set (by omega) (by omega)) (fun x18 h19=>?_)
     have lh19:=h19.1
     refine tB (Za1b x12 v2 oh13) (fun x20 h21=>?_)
     refine tF (fun h22=>?_) (fun h22=>?_)
     ·refine tB (tI (by omega) (by omega)) (fun x23 h24=>?_)
      refine tB (Tot.set (by omega) (by omega)) (fun x25 h26=>?_)
      have lh26:=h26.1
      refine qw (v11+1) fun q27 q28=>?_
      exact tL ⟨rfl,O0,O1,ov7,ov8,⟨O2.1,⟨lo,fun e he=>(h19.2.1 e he).elim (fun w=>by rw [w];exact h15) (O2.2.1.2 e)⟩,O2.2.2.1,O2.2.2.2.1,O2.2.2.2.2.1,⟨lo,fun _ _=>trivial⟩⟩,cl,cl,cl,cl,cl,cl,cl,cl,cl,cl,cl,cl,cl,cl,cl,(by assumption)⟩ Za1z
     ·refine qw (v11+1) fun q29 q30=>?_
      exact tL ⟨rfl,O0,O1,ov7,ov8,⟨O2.1,⟨lo,fun e he=>(h19.2.1 e he).elim (fun w=>by rw [w];exact h15) (O2.2.1.2 e)⟩,O2.2.2.1,O2.2.2.2.1,O2.2.2.2.2.1,O2.2.2.2.2.2⟩,cl,cl,cl,cl,cl,cl,cl,cl,cl,cl,cl,cl,cl,cl,cl,(by assumption)⟩ Za1z
   ·exact tR ⟨O2,cl,cl,cl,cl,cl,cl⟩
def Za60(a0:(List Int))(a1:(List Int)):Zsv→Prop
 | .L0 v0 v1 v5=>(v0=a0)∧(v1=a1)∧((SzL 8 (fun _=>True)) v0)∧((SzL 8 (fun _=>True)) v1)∧(0≤v5)∧(v0.length=v1.length)∧(∀ k:Nat,(k:Int) < v5→v0[k]?=v1[k]?)
def Z7q:Zsv→M6
 | .L0 v0 v1 v5=>(1,((v0.length:Int) - v5).toNat,1000000,0,0,0)
theorem Zah6(a0:(List Int))(a1:(List Int))(oa0:(SzL 8 (fun _=>True)) a0)(oa1:(SzL 8 (fun _=>True)) a1):Tot (Zanz a0 a1) (fun r=>(r=true↔a0=a1)):=by
 unfold Zanz
 refine tX (Inv:=(Za60 a0 a1)) (μ:=Z7q) (m:=(1000000,0,0,0,0,0)) ?_ ?_
 ·have lb_a0:=oa0.1
  have lb_a1:=oa1.1
  dsimp only [Zass,LT.den]
  have q1:=oa0.1
  have q2:=oa1.1
  refine tN (fun h3=>?_) (fun h3=>?_)
  ·exact tR (by first | (refine⟨fun _=>Z3b (by assumption) (by assumption) (by omega),fun _=>rfl⟩) | (refine⟨fun h=>absurd h (by decide),fun h=>?_⟩;exfalso;grind))
  ·exact tL ⟨rfl,rfl,oa0,oa1,cl,cl,tk34⟩ (by unfold Z7q lt6;dsimp only;omega)
 ·intro s hs
  cases s with
  | L0 v0 v1 v5=>
   obtain⟨al0,al1,ov0,ov1,cv5,i0,i1⟩:=hs
   have lb_v0:=ov0.1
   have lb_v1:=ov1.1
   subst al0
   subst al1
   show Tot (Z6x v0 v1 v5).den _
   dsimp only [Z6x,LT.den]
   have q1:=ov0.1
   refine tD (fun h2=>?_) (fun h2=>?_)
   ·refine tB (tI (by omega) (by omega)) (fun x3 h4=>?_)
    have mh4:=h4.2
    refine tB (tI (by omega) (by omega)) (fun x5 h6=>?_)
    have mh6:=h6.2
    refine tN (fun h7=>?_) (fun h7=>?_)
    ·exact tR (by first | (refine⟨fun _=>Z3b (by assumption) (by assumption) (by omega),fun _=>rfl⟩) | (refine⟨fun h=>absurd h (by decide),fun h=>?_⟩;exfalso;grind))
    ·refine qw (v5+1) fun q8 q9=>?_
     exact tL ⟨rfl,rfl,ov0,ov1,cl,cl,tk34⟩ (by unfold Z7q lt6;dsimp only;omega)
   ·exact tR (by first | (refine⟨fun _=>Z3b (by assumption) (by assumption) (by omega),fun _=>rfl⟩) | (refine⟨fun h=>absurd h (by decide),fun h=>?_⟩;exfalso;grind))
theorem Za1c(a0:Zc)(a1:Int)(a2:Int)(a3:Int)(oa0:Z5 a0)(h0:a0.All.length=a0.S.Objects.length)(h1:a0.Blank.length=a0.S.Objects.length)(h2:a0.Begun.length=a0.L.length)(h3:a0.Sets.length=a0.L.length)(h4:a0.S.Objects.length≤60)(h5:a0.L.length≤10000)(h6:0≤a1)(h7:a1 < a0.L.length)(h8:0≤a2)(h9:a2 < a0.L.length):Tot (Zagt a0 a1 a2 a3) (fun r=>True):=by
 unfold Zagt
 refine tZ ?_
 dsimp only [Zalv,LT.den]
 refine tE (fun h1=>?_) (fun h1=>?_)
 ·exact tR trivial
 ·refine tB (Z5k a0 a2 a3 oa0 cl cl cl cl cl cl cl cl) (fun x2 h3=>?_)
  have eh3_1:=h3.2.1
  have eh3_2:=h3.2.2.1
  have eh3_3:=h3.2.2.2.1
  have eh3_4:=h3.2.2.2.2.1
  have eh3_5:=h3.2.2.2.2.2.1
  have eh3_6:=h3.2.2.2.2.2.2
  refine tB (Zoe a0 a1 oa0 cl cl cl cl cl cl cl cl) (fun x4 h5=>?_)
  refine tB (Zoe x2 a1 h3.1 cl cl cl cl cl cl cl cl) (fun x6 h7=>?_)
  refine tO (fun h8=>?_) (fun h8=>?_)
  ·exact tR trivial
  ·refine tB (Ztq a0 a1 oa0 cl cl cl cl cl cl cl cl) (fun x9 h10=>?_)
   refine tB (Ztq x2 a1 h3.1 cl cl cl cl cl cl cl cl) (fun x11 h12=>?_)
   refine tB (Zah6 x9 x11 h10 h12) (fun x13 h14=>?_)
   have eh14_0:=h14
   refine tO (fun h15=>?_) (fun h15=>?_)
   ·exact tR trivial
   ·refine tB (Ztr a0 a1 a3 oa0 cl cl cl cl cl cl cl cl) (fun x16 h17=>?_)
    have eh17_1:=h17.2
    refine tB (Ztr x2 a1 a3 h3.1 cl cl cl cl cl cl cl cl) (fun x18 h19=>?_)
    have eh19_1:=h19.2
    refine tB (Zah6 x16 x18 h17.1 h19.1) (fun x20 h21=>?_)
    have eh21_0:=h21
    exact tR trivial
def Za8n(a0:(List Int))(a1:Int):Zxs→Prop
 | .L0 v0 v1 v5=>(v0=a0)∧(v1=a1)∧((SzL 8 (fun _=>True)) v0)∧(0≤v5)∧(∀ (k:Nat) x,(k:Int) < v5→v0[k]?=some x→x≠v1)
def Zabf:Zxs→M6
 | .L0 v0 v1 v5=>(1,((v0.length:Int) - v5).toNat,1000000,0,0,0)
theorem Z7r(a0:(List Int))(a1:Int)(oa0:(SzL 8 (fun _=>True)) a0):Tot (Zav3 a0 a1) (fun r=>(r=true↔a1∈a0)):=by
 unfold Zav3
 refine tX (Inv:=(Za8n a0 a1)) (μ:=Zabf) (m:=(1000000,0,0,0,0,0)) ?_ ?_
 ·have lb_a0:=oa0.1
  dsimp only [Zazb,LT.den]
  exact tL ⟨rfl,rfl,oa0,cl,tk26⟩ (by unfold Zabf lt6;dsimp only;omega)
 ·intro s hs
  cases s with
  | L0 v0 v1 v5=>
   obtain⟨al0,al1,ov0,cv5,i0⟩:=hs
   have lb_v0:=ov0.1
   subst al0
   subst al1
   show Tot (Zaao v0 v1 v5).den _
   dsimp only [Zaao,LT.den]
   have q1:=ov0.1
   refine tD (fun h2=>?_) (fun h2=>?_)
   ·refine tB (tI (by omega) (by omega)) (fun x3 h4=>?_)
    have mh4:=h4.2
    refine tE (fun h5=>?_) (fun h5=>?_)
    ·exact tR Za18
    ·refine qw (v5+1) fun q6 q7=>?_
     exact tL ⟨rfl,rfl,ov0,cl,tk26⟩ (by unfold Zabf lt6;dsimp only;omega)
   ·exact tR Za18
abbrev Zajj(a0:(List Int))(r:(List Int)):Prop:=((SzL 8 (fun _=>True)) r)∧(r.length≤a0.length)∧(r.Nodup∧∀ x,x∈r→x∈a0∧0≤x)∧(∀ x,x∈a0→0≤x→x∈r)
def Zao2(a0:(List Int)):Zjj→Prop
 | .L0 v0 v3 v4=>(v0=a0)∧((SzL 8 (fun _=>True)) v0)∧((SzL 8 (fun _=>True)) v3)∧(0≤v4)∧(v3.length≤v4.toNat)∧(v4.toNat≤v0.length)∧(v3.Nodup∧∀ x,x∈v3→x∈v0∧0≤x)∧(∀ (k:Nat) x,(k:Int) < v4→v0[k]?=some x→0≤x→x∈v3)
def Z5l:Zjj→M6
 | .L0 v0 v3 v4=>(1,((v0.length:Int) - v4).toNat,1000000,0,0,0)
theorem Zao3(a0:(List Int))(oa0:(SzL 8 (fun _=>True)) a0):Tot (Zsx a0) (Zajj a0):=by
 unfold Zsx
 refine tX (Inv:=(Zao2 a0)) (μ:=Z5l) (m:=(1000000,0,0,0,0,0)) ?_ ?_
 ·have lb_a0:=oa0.1
  dsimp only [Z8z,LT.den]
  exact tL ⟨rfl,oa0,SzL.nil,cl,cl,cl,(by first | exact⟨List.nodup_nil,fun x hx=>nomatch hx⟩ | assumption | (refine⟨?_,fun x hx=>?_⟩<;>grind [Zn4])),tk27⟩ tk92
 ·intro s hs
  cases s with
  | L0 v0 v3 v4=>
   obtain⟨al0,ov0,ov3,cv4,i0,i1,i2,i3⟩:=hs
   have lb_v0:=ov0.1
   have lb_v3:=ov3.1
   subst al0
   show Tot (Zsw v0 v3 v4).den _
   dsimp only [Zsw,LT.den]
   have q1:=ov0.1
   refine tD (fun h2=>?_) (fun h2=>?_)
   ·refine tB (tI (by omega) (by omega)) (fun x3 h4=>?_)
    have mh4:=h4.2
    refine tD (fun h5=>?_) (fun h5=>?_)
    ·refine tB (Z7r v3 x3 ov3) (fun x6 h7=>?_)
     have eh7_0:=h7
     refine tO (fun h8=>?_) (fun h8=>?_)
     ·have q9:(SzL 8 (fun _=>True)) ([x3]:(List Int)):=⟨by simp only [List.length_cons,List.length_nil];omega,fun _ _=>trivial⟩
      have q12:=ov3.1
      refine tB (tA Zb0 (by decide)) (fun x10 h11=>?_)
      have lh11:x10.length=v3.length+1:=by rw [h11,List.length_append];rfl
      refine qw (v4+1) fun q13 q14=>?_
      exact tL ⟨rfl,ov0,⟨lo,fun _ _=>trivial⟩,cl,cl,cl,(by first | exact⟨List.nodup_nil,fun x hx=>nomatch hx⟩ | assumption | (refine⟨?_,fun x hx=>?_⟩<;>grind [Zn4])),tk27⟩ tk92
     ·refine qw (v4+1) fun q15 q16=>?_
      exact tL ⟨rfl,ov0,ov3,cl,cl,cl,(by first | exact⟨List.nodup_nil,fun x hx=>nomatch hx⟩ | assumption | (refine⟨?_,fun x hx=>?_⟩<;>grind [Zn4])),tk27⟩ tk92
    ·refine qw (v4+1) fun q17 q18=>?_
     exact tL ⟨rfl,ov0,ov3,cl,cl,cl,(by first | exact⟨List.nodup_nil,fun x hx=>nomatch hx⟩ | assumption | (refine⟨?_,fun x hx=>?_⟩<;>grind [Zn4])),tk27⟩ tk92
   ·exact tR ⟨ov3,cl,(by assumption),(by intro x hx h0;obtain⟨k,hk⟩:=List.mem_iff_getElem?.1 hx;grind)⟩
theorem Z3y(a0:(List (List Bool)))(a1:Int)(a2:Int)(oa0:(SzL 24 (SzL 1 (fun _=>True))) a0)(h0:0≤a1)(h1:0≤a2):Tot (Zan1 a0 a1 a2) (fun r=>(r=nB a0 a1 a2)):=by
 unfold Zan1
 refine tZ ?_
 have lb_a0:=oa0.1
 dsimp only [Zasv,LT.den]
 have q1:=oa0.1
 refine tD (fun h2=>?_) (fun h2=>?_)
 ·refine tB (tI (by omega) (by omega)) (fun x3 h4=>?_)
  have oh4:(SzL 1 (fun _=>True)) x3:=oa0.2 x3 h4.1
  have q5:=oh4.1
  refine tD (fun h6=>?_) (fun h6=>?_)
  ·refine tB (tI (by omega) (by omega)) (fun x7 h8=>?_)
   exact tR (by unfold nB;grind)
  ·exact tR (by unfold nB;grind)
 ·exact tR (by unfold nB;grind)
end Go.PW
