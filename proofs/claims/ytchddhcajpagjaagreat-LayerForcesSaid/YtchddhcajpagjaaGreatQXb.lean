import Derived.Test.YtchddhcajpagjaaGreatQX
set_option linter.all false
set_option maxRecDepth 100000
namespace Go.PW
def Zawz(a0:List Zk)(a1:Zo):Zxp->Prop
 | .L0 v0 E0 v5=>(v0=a0)/\(E0=a1)/\((SzL 176 Z3) v0)/\(Z9 E0)/\(0<=v5)/\(E0.Objects.length<=2048)
def Z8t:Zxp->M6
 | .L0 v0 E0 v5=>(1,((E0.Extra.length:Int) - v5).toNat,1000000,0,0,0)
theorem Zaw0{a0:List Zk}{a1:Zo}(oa0:(SzL 176 Z3) a0)(oa1:Z9 a1):Tot (Zaqt a0 a1) (fun r=>(r=true->a1.Objects.length<=2048/\a1.Conts.length<=64)):=by
 unfold Zaqt
 refine tX (Inv:=(Zawz a0 a1)) (μ:=Z8t) (m:=(1000000,0,0,0,0,0)) ?_ ?_
 .have lb_a0:=oa0.1
  dsimp only [Zaqr,LT.den]
  refine tB (Zc1) (fun x1 h2=>?_)
  have eh2_0:=h2
  refine tO (fun h3=>?_) (fun h3=>?_)
  .exact tR (by first | (intro hr;exact absurd hr (by decide)) | (intro hr;exact⟨by omega,by grind⟩))
  .refine tB (Zc1) (fun x4 h5=>?_)
   have eh5_0:=h5
   refine tO (fun h6=>?_) (fun h6=>?_)
   .exact tR (by first | (intro hr;exact absurd hr (by decide)) | (intro hr;exact⟨by omega,by grind⟩))
   .refine tB (Zc1) (fun x7 h8=>?_)
    have eh8_0:=h8
    refine tO (fun h9=>?_) (fun h9=>?_)
    .exact tR (by first | (intro hr;exact absurd hr (by decide)) | (intro hr;exact⟨by omega,by grind⟩))
    .refine tB (Zc1) (fun x10 h11=>?_)
     have eh11_0:=h11
     refine tO (fun h12=>?_) (fun h12=>?_)
     .exact tR (by first | (intro hr;exact absurd hr (by decide)) | (intro hr;exact⟨by omega,by grind⟩))
     .have q13:=oa1.2.1.1
      refine tD (fun h14=>?_) (fun h14=>?_)
      .exact tR (by first | (intro hr;exact absurd hr (by decide)) | (intro hr;exact⟨by omega,by grind⟩))
      .refine tB (Zahw oa1) (fun x15 h16=>?_)
       refine tO (fun h17=>?_) (fun h17=>?_)
       .exact tR (by first | (intro hr;exact absurd hr (by decide)) | (intro hr;exact⟨by omega,by grind⟩))
       .refine tB (Zfd oa1) (fun x18 h19=>?_)
        have eh19_0:=h19
        refine tO (fun h20=>?_) (fun h20=>?_)
        .exact tR (by first | (intro hr;exact absurd hr (by decide)) | (intro hr;exact⟨by omega,by grind⟩))
        .refine tB (Zfd oa1) (fun x21 h22=>?_)
         have eh22_0:=h22
         refine tO (fun h23=>?_) (fun h23=>?_)
         .exact tR (by first | (intro hr;exact absurd hr (by decide)) | (intro hr;exact⟨by omega,by grind⟩))
         .have q24:=oa1.1.1
          refine tB (Zc1) (fun x25 h26=>?_)
          have eh26_0:=h26
          refine tO (fun h27=>?_) (fun h27=>?_)
          .exact tR (by first | (intro hr;exact absurd hr (by decide)) | (intro hr;exact⟨by omega,by grind⟩))
          .have q28:=oa1.2.2.2.2.2.2.2.1
           refine tD (fun h29=>?_) (fun h29=>?_)
           .exact tR (by first | (intro hr;exact absurd hr (by decide)) | (intro hr;exact⟨by omega,by grind⟩))
           .refine tB (Zc1) (fun x30 h31=>?_)
            have eh31_0:=h31
            refine tO (fun h32=>?_) (fun h32=>?_)
            .exact tR (by first | (intro hr;exact absurd hr (by decide)) | (intro hr;exact⟨by omega,by grind⟩))
            .exact tL ⟨rfl,rfl,oa0,oa1,cl,cl⟩ (by unfold Z8t lt6;dsimp only;omega)
 .intro s hs
  cases s with
  | L0 v0 E0 v5=>
   obtain⟨al0,al1,ov0,O0,cv5,i0⟩:=hs
   have lb_v0:=ov0.1
   subst al0
   subst al1
   show Tot (Z7i v0 E0 v5).den _
   dsimp only [Z7i,LT.den]
   have q1:=O0.2.2.2.2.2.2.2.1
   refine tD (fun h2=>?_) (fun h2=>?_)
   .refine tB (tI (by omega) (by omega)) (fun x3 h4=>?_)
    refine tB (Zfd O0) (fun x5 h6=>?_)
    have eh6_0:=h6
    refine tO (fun h7=>?_) (fun h7=>?_)
    .exact tR (by first | (intro hr;exact absurd hr (by decide)) | (intro hr;exact⟨by omega,by grind⟩))
    .refine qw (v5+1) fun q8 q9=>?_
     exact tL ⟨rfl,rfl,ov0,O0,cl,cl⟩ (by unfold Z8t lt6;dsimp only;omega)
   .refine tE (fun h10=>?_) (fun h10=>?_)
    .refine tB (Zfd O0) (fun x11 h12=>?_)
     have eh12_0:=h12
     refine tO (fun h13=>?_) (fun h13=>?_)
     .exact tR (by first | (intro hr;exact absurd hr (by decide)) | (intro hr;exact⟨by omega,by grind⟩))
     .refine tN (fun h14=>?_) (fun h14=>?_)
      .refine tN (fun h15=>?_) (fun h15=>?_)
       .exact tR (by first | (intro hr;exact absurd hr (by decide)) | (intro hr;exact⟨by omega,by grind⟩))
       .refine tB (Zkn ov0 O0) (fun x16 h17=>?_)
        have eh17_0:=h17
        refine tF (fun h18=>?_) (fun h18=>?_)
        .have h18_0:=eh17_0 h18
         refine tB (Znt O0) (fun x19 h20=>?_)
         have eh20_0:=h20
         exact tR (by first | (intro hr;exact absurd hr (by decide)) | (intro hr;exact⟨by omega,by grind⟩))
        .exact tR (by first | (intro hr;exact absurd hr (by decide)) | (intro hr;exact⟨by omega,by grind⟩))
      .refine tB (Zkn ov0 O0) (fun x21 h22=>?_)
       have eh22_0:=h22
       refine tF (fun h23=>?_) (fun h23=>?_)
       .have h23_0:=eh22_0 h23
        refine tB (Znt O0) (fun x24 h25=>?_)
        have eh25_0:=h25
        exact tR (by first | (intro hr;exact absurd hr (by decide)) | (intro hr;exact⟨by omega,by grind⟩))
       .exact tR (by first | (intro hr;exact absurd hr (by decide)) | (intro hr;exact⟨by omega,by grind⟩))
    .refine tN (fun h26=>?_) (fun h26=>?_)
     .refine tN (fun h27=>?_) (fun h27=>?_)
      .exact tR (by first | (intro hr;exact absurd hr (by decide)) | (intro hr;exact⟨by omega,by grind⟩))
      .refine tB (Zkn ov0 O0) (fun x28 h29=>?_)
       have eh29_0:=h29
       refine tF (fun h30=>?_) (fun h30=>?_)
       .have h30_0:=eh29_0 h30
        refine tB (Znt O0) (fun x31 h32=>?_)
        have eh32_0:=h32
        exact tR (by first | (intro hr;exact absurd hr (by decide)) | (intro hr;exact⟨by omega,by grind⟩))
       .exact tR (by first | (intro hr;exact absurd hr (by decide)) | (intro hr;exact⟨by omega,by grind⟩))
     .refine tB (Zkn ov0 O0) (fun x33 h34=>?_)
      have eh34_0:=h34
      refine tF (fun h35=>?_) (fun h35=>?_)
      .have h35_0:=eh34_0 h35
       refine tB (Znt O0) (fun x36 h37=>?_)
       have eh37_0:=h37
       exact tR (by first | (intro hr;exact absurd hr (by decide)) | (intro hr;exact⟨by omega,by grind⟩))
      .exact tR (by first | (intro hr;exact absurd hr (by decide)) | (intro hr;exact⟨by omega,by grind⟩))
theorem Zanb{a0:List Zk}{a1:Zo}(oa0:(SzL 176 Z3) a0)(oa1:Z9 a1):Tot (Z7j a0 a1) (fun r=>(r=true->a1.Objects.length<=2048/\a1.Conts.length<=64/\∀ c,c∈a0->c.Abilities.length<=8)):=by
 unfold Z7j
 refine tZ ?_
 have lb_a0:=oa0.1
 dsimp only [Zaa8,LT.den]
 refine tB (Zam3 oa0) (fun x1 h2=>?_)
 have eh2_0:=h2
 refine tE (fun h3=>?_) (fun h3=>?_)
 .refine tB (Zaw0 oa0 oa1) (fun x4 h5=>?_)
  have eh5_0:=h5
  exact tR (by first | (intro hr;exact absurd hr (by decide)) | (intro hr;grind))
 .exact tR (by first | (intro hr;exact absurd hr (by decide)) | (intro hr;grind))
def Zat0(a0:Zr):Zla->Prop
 | .L0 E0 v6 v7=>(E0=a0)/\(0<=v7)/\(v6=E0.Color)/\(∀ (k:Nat) x,(k:Int) < v7->(A5.list E0.Color)[k]?=some x->0<=x/\x<=9)
def Z4j:Zla->M6
 | .L0 E0 v6 v7=>(1,(5 - v7).toNat,1000000,0,0,0)
theorem Zat1{a0:Zr}:Tot (Z2n a0) (fun r=>(r=Zuv a0)):=by
 unfold Z2n
 refine tX (Inv:=(Zat0 a0)) (μ:=Z4j) (m:=(1000000,0,0,0,0,0)) ?_ ?_
 .dsimp only [Z7k,LT.den]
  exact tL ⟨rfl,cl,(by first | rfl | assumption),(by first | (intro k x hk;omega) | exact Zaoz ‹_› ‹_› (by omega) ⟨by omega,by omega⟩ (by omega))⟩ (by unfold Z4j lt6;dsimp only;omega)
 .intro s hs
  cases s with
  | L0 E0 v6 v7=>
   obtain⟨al0,cv7,i0,i1⟩:=hs
   subst al0
   show Tot (Zjm E0 v6 v7).den _
   dsimp only [Zjm,LT.den]
   refine tD (fun h1=>?_) (fun h1=>?_)
   .refine tB (tI (by omega) (by have e:(A5.list v6).length=5:=rfl;omega)) (fun x2 h3=>?_)
    have mh3:=h3.2
    rw [i0] at mh3
    refine tD (fun h4=>?_) (fun h4=>?_)
    .exact tR (by first | with_reducible exact Z20 ‹_› (by omega) | (rw [Zwc ‹_› (by omega)];grind))
    .refine tD (fun h5=>?_) (fun h5=>?_)
     .exact tR (by first | with_reducible exact Z20 ‹_› (by omega) | (rw [Zwc ‹_› (by omega)];grind))
     .refine qw (v7+1) fun q6 q7=>?_
      exact tL ⟨rfl,cl,(by first | rfl | assumption),(by first | (intro k x hk;omega) | exact Zaoz ‹_› ‹_› (by omega) ⟨by omega,by omega⟩ (by omega))⟩ (by unfold Z4j lt6;dsimp only;omega)
   .refine tD (fun h8=>?_) (fun h8=>?_)
    .refine tD (fun h9=>?_) (fun h9=>?_)
     .refine tD (fun h10=>?_) (fun h10=>?_)
      .exact tR (by first | with_reducible exact Z20 ‹_› (by omega) | (rw [Zwc ‹_› (by omega)];grind))
      .exact tR (by first | with_reducible exact Z20 ‹_› (by omega) | (rw [Zwc ‹_› (by omega)];grind))
     .exact tR (by first | with_reducible exact Z20 ‹_› (by omega) | (rw [Zwc ‹_› (by omega)];grind))
    .exact tR (by first | with_reducible exact Z20 ‹_› (by omega) | (rw [Zwc ‹_› (by omega)];grind))
def Zahy(a0:Zr):Zju->Prop
 | .L0 v3 v16 v17=>(0<=v17)/\(v17<=5)/\(v16=a0.Color)/\(Zuv a0=true)/\(v3=coP v16 v17)
def Zmb:Zju->M6
 | .L0 v3 v16 v17=>(1,(5 - v17).toNat,1000000,0,0,0)
theorem Zahz{a0:Zr}:Tot (Z00 a0) (fun r=>(r=coV a0)):=by
 unfold Z00
 refine tX (Inv:=(Zahy a0)) (μ:=Zmb) (m:=(1000000,0,0,0,0,0)) ?_ ?_
 .dsimp only [Z42,LT.den]
  refine tB (Zat1) (fun x1 h2=>?_)
  have eh2_0:=h2
  refine tO (fun h3=>?_) (fun h3=>?_)
  .exact tR (by first | with_reducible exact Zahn ‹_› ‹_› ‹_› (by omega) (by omega) | with_reducible exact Zawi ‹_› | with_reducible exact Z8h (by grind))
  .refine tF (fun h4=>?_) (fun h4=>?_)
   .exact tR (by first | with_reducible exact Zahn ‹_› ‹_› ‹_› (by omega) (by omega) | with_reducible exact Zawi ‹_› | with_reducible exact Z8h (by grind))
   .exact tL ⟨cl,cl,(by first | rfl | assumption),(by first | assumption | grind),(by first | with_reducible exact Z9h _ | with_reducible exact Zawh ‹_› ‹_› (by omega) (by omega) ‹_› (by omega) | with_reducible exact Z9i ‹_› ‹_› (by omega) (by omega) (by omega) (by omega))⟩ (by unfold Zmb lt6;dsimp only;omega)
 .intro s hs
  cases s with
  | L0 v3 v16 v17=>
   obtain⟨cv17,i0,i1,i2,i3⟩:=hs
   show Tot (Zrg v3 v16 v17).den _
   dsimp only [Zrg,LT.den]
   refine tD (fun h1=>?_) (fun h1=>?_)
   .refine tB (tI (by omega) (by have e:(A5.list v16).length=5:=rfl;omega)) (fun x2 h3=>?_)
    have mh3:=h3.2
    refine tD (fun h4=>?_) (fun h4=>?_)
    .refine tB (tK (by first | omega | exact shl_ne' (by omega) (by omega) | decide)) (fun x5 h6=>?_)
     refine qw (v17+1) fun q7 q8=>?_
     exact tL ⟨cl,cl,(by first | rfl | assumption),(by first | assumption | grind),(by first | with_reducible exact Z9h _ | with_reducible exact Zawh ‹_› ‹_› (by omega) (by omega) ‹_› (by omega) | with_reducible exact Z9i ‹_› ‹_› (by omega) (by omega) (by omega) (by omega))⟩ (by unfold Zmb lt6;dsimp only;omega)
    .refine qw (v17+1) fun q9 q10=>?_
     exact tL ⟨cl,cl,(by first | rfl | assumption),(by first | assumption | grind),(by first | with_reducible exact Z9h _ | with_reducible exact Zawh ‹_› ‹_› (by omega) (by omega) ‹_› (by omega) | with_reducible exact Z9i ‹_› ‹_› (by omega) (by omega) (by omega) (by omega))⟩ (by unfold Zmb lt6;dsimp only;omega)
   .exact tR (by first | with_reducible exact Zahn ‹_› ‹_› ‹_› (by omega) (by omega) | with_reducible exact Zawi ‹_› | with_reducible exact Z8h (by grind))
theorem Zni{a0:List (List UInt8)}(oa0:(SzL 16 SzT) a0):Tot (Zc5 a0) (fun r=>((SzL 16 SzT) r)/\(r=a0)):=by
 unfold Zc5
 split
 .refine tZ ?_
  have lb_a0:=oa0.1
  dsimp only [Zeh,LT.den]
  have q3:=oa0.1
  refine tB (tA (by first | omega | (simp only [List.length_cons,List.length_nil];omega)) (by decide)) (fun x1 h2=>?_)
  have lh2:x1.length=([]:List (List UInt8)).length+a0.length:=by rw [h2,List.length_append]
  try simp only [List.length_cons,List.length_nil,Nat.zero_add] at lh2
  exact tR ⟨SzL.app (k:=16) h2 lo (fun _ h=>by cases h) oa0.2,(by first | rfl | assumption | (simpa using (by assumption:_=[]++a0)) | grind)⟩
 .refine tZ ?_
  dsimp only [Zcn,LT.den]
  exact tR ⟨SzL.nil,(by first | rfl | assumption | (simpa using (by assumption:_=[]++a0)) | grind)⟩
theorem Zcc{a0:List Zh}(oa0:(SzL 176 Z8) a0):Tot (Zby a0) (fun r=>((SzL 176 Z8) r)/\(r=a0)):=by
 unfold Zby
 split
 .refine tZ ?_
  have lb_a0:=oa0.1
  dsimp only [Zd7,LT.den]
  have q3:=oa0.1
  refine tB (tA (by first | omega | (simp only [List.length_cons,List.length_nil];omega)) (by decide)) (fun x1 h2=>?_)
  have lh2:x1.length=([]:List Zh).length+a0.length:=by rw [h2,List.length_append]
  try simp only [List.length_cons,List.length_nil,Nat.zero_add] at lh2
  exact tR ⟨SzL.app (k:=176) h2 lo (fun _ h=>by cases h) oa0.2,(by first | rfl | assumption | (simpa using (by assumption:_=[]++a0)) | grind)⟩
 .refine tZ ?_
  dsimp only [Zcg,LT.den]
  exact tR ⟨SzL.nil,(by first | rfl | assumption | (simpa using (by assumption:_=[]++a0)) | grind)⟩
theorem Zkq{a0:List Zat}(oa0:(SzL 144 Zem) a0):Tot (Zci a0) (fun r=>((SzL 144 Zem) r)/\(r=a0)):=by
 unfold Zci
 split
 .refine tZ ?_
  have lb_a0:=oa0.1
  dsimp only [Zdc,LT.den]
  have q3:=oa0.1
  refine tB (tA (by first | omega | (simp only [List.length_cons,List.length_nil];omega)) (by decide)) (fun x1 h2=>?_)
  have lh2:x1.length=([]:List Zat).length+a0.length:=by rw [h2,List.length_append]
  try simp only [List.length_cons,List.length_nil,Nat.zero_add] at lh2
  exact tR ⟨SzL.app (k:=144) h2 lo (fun _ h=>by cases h) oa0.2,(by first | rfl | assumption | (simpa using (by assumption:_=[]++a0)) | grind)⟩
 .refine tZ ?_
  dsimp only [Zb4,LT.den]
  exact tR ⟨SzL.nil,(by first | rfl | assumption | (simpa using (by assumption:_=[]++a0)) | grind)⟩
theorem Zi1{a0:List Zs}(oa0:(SzL 560 Z7) a0):Tot (Zb0 a0) (fun r=>((SzL 560 Z7) r)/\(r=a0)):=by
 unfold Zb0
 split
 .refine tZ ?_
  have lb_a0:=oa0.1
  dsimp only [Zcs,LT.den]
  have q3:=oa0.1
  refine tB (tA (by first | omega | (simp only [List.length_cons,List.length_nil];omega)) (by decide)) (fun x1 h2=>?_)
  have lh2:x1.length=([]:List Zs).length+a0.length:=by rw [h2,List.length_append]
  try simp only [List.length_cons,List.length_nil,Nat.zero_add] at lh2
  exact tR ⟨SzL.app (k:=560) h2 lo (fun _ h=>by cases h) oa0.2,(by first | rfl | assumption | (simpa using (by assumption:_=[]++a0)) | grind)⟩
 .refine tZ ?_
  dsimp only [Zbr,LT.den]
  exact tR ⟨SzL.nil,(by first | rfl | assumption | (simpa using (by assumption:_=[]++a0)) | grind)⟩
def Z4k(a0:Ze):Zfs->Prop
 | .L0 E0 E1 v18 v19=>(Z4 E0)/\(Z4 E1)/\(0<=v19)/\(v18=(a0.Effects.length:Int))/\(v18=(E0.Effects.length:Int))/\(E0=a0)
def Zke:Zfs->M6
 | .L0 E0 E1 v18 v19=>(1,(v18 - v19).toNat,1000000,0,0,0)
theorem Z4l{a0:Ze}(oa0:Z4 a0):Tot (Zjo a0) (fun r=>(Z4 r)/\(r=a0)):=by
 unfold Zjo
 refine tX (Inv:=(Z4k a0)) (μ:=Zke) (m:=(1000000,0,0,0,0,0)) ?_ ?_
 .dsimp only [Ztl,LT.den]
  refine tB (Zcc oa0.2.1) (fun x1 h2=>?_)
  have eh2_1:=h2.2
  refine tB (Zkq oa0.2.2.2.1) (fun x3 h4=>?_)
  have eh4_1:=h4.2
  refine tB (Zi1 oa0.2.2.2.2.1) (fun x5 h6=>?_)
  have eh6_1:=h6.2
  exact tL ⟨⟨oa0.1,h2.1,oa0.2.2.1,h4.1,h6.1,oa0.2.2.2.2.2⟩,⟨SzS.nil,SzL.nil,SzS.nil,SzL.nil,SzL.nil,SzS.nil⟩,cl,(by first | assumption | grind),(by first | assumption | grind),(by first | with_reducible exact Zarl ‹_› ‹_› ‹_› ‹_› | (subst_vars;rfl))⟩ (by unfold Zke lt6;dsimp only;omega)
 .intro s hs
  cases s with
  | L0 E0 E1 v18 v19=>
   obtain⟨O0,O1,cv19,i0,i1,i2⟩:=hs
   show Tot (Zkc E0 E1 v18 v19).den _
   dsimp only [Zkc,LT.den]
   have lq:=O0.2.2.2.2.1.1
   refine tD (fun h1=>?_) (fun h1=>?_)
   .refine tB (tI (by omega) (by omega)) (fun x2 h3=>?_)
    have oh3:Z7 x2:=O0.2.2.2.2.1.2 x2 h3.1
    have mh3:=h3.2
    refine tB (Zcc oh3.2.2.2.2) (fun x4 h5=>?_)
    have eh5_1:=h5.2
    refine tB (Tot.set (by omega) (by omega)) (fun x6 h7=>?_)
    have lh7:=h7.1
    have vh7:=h7.2.2
    refine qw (v19+1) fun q8 q9=>?_
    exact tL ⟨⟨O0.1,O0.2.1,O0.2.2.1,O0.2.2.2.1,⟨lo,fun e he=>(h7.2.1 e he).elim (fun w=>by rw [w];exact⟨oh3.1,oh3.2.1,oh3.2.2.1,oh3.2.2.2.1,h5.1⟩) (O0.2.2.2.2.1.2 e)⟩,O0.2.2.2.2.2⟩,O1,cl,(by first | assumption | grind),(by first | assumption | grind),(by first | with_reducible exact Zarl ‹_› ‹_› ‹_› ‹_› | (subst_vars;rfl))⟩ (by unfold Zke lt6;dsimp only;omega)
   .exact tR ⟨O0,‹_›⟩
def Zad0(a0:Zk):Zio->Prop
 | .L0 E0 E1 v32 v33 v34=>(Za7 E0)/\(Za7 E1)/\((SzL 640 Z4) v32)/\(0<=v34)/\(v33=(v32.length:Int))/\(E1.Abilities.length<=v34.toNat)/\(v34<=v33)/\(v32=a0.Abilities)/\(E1={ prV a0 with Abilities:=a0.Abilities.take v34.toNat })
def Zqu:Zio->M6
 | .L0 E0 E1 v32 v33 v34=>(1,(v33 - v34).toNat,1000000,0,0,0)
theorem Zad1{a0:Zk}(oa0:Z3 a0):Tot (Zxq a0) (fun r=>(Za7 r)/\(r=prV a0)):=by
 unfold Zxq
 refine tX (Inv:=(Zad0 a0)) (μ:=Zqu) (m:=(1000000,0,0,0,0,0)) ?_ ?_
 .dsimp only [Z2o,LT.den]
  refine tB (Zahz) (fun x1 h2=>?_)
  have eh2_0:=h2
  refine tB (Zni oa0.2.1) (fun x3 h4=>?_)
  have eh4_1:=h4.2
  have q5:=oa0.2.2.1
  exact tL ⟨⟨SzS.nil,SzL.nil,SzL.nil⟩,⟨oa0.1,h4.1,SzL.nil⟩,oa0.2.2,cl,cl,cl,cl,(by first | rfl | assumption),(by first | with_reducible exact pr_0 ‹_› ‹_› | with_reducible exact Z9j ‹_› (by rw [<- (by assumption:v32=a0.Abilities)];assumption) (by omega) (by omega) ‹_› ‹_›)⟩ (by unfold Zqu lt6;dsimp only;omega)
 .intro s hs
  cases s with
  | L0 E0 E1 v32 v33 v34=>
   obtain⟨O0,O1,ov32,cv34,i0,i1,i2,i3,i4⟩:=hs
   have lb_v32:=ov32.1
   show Tot (Zpu E0 E1 v32 v33 v34).den _
   dsimp only [Zpu,LT.den]
   refine tD (fun h1=>?_) (fun h1=>?_)
   .refine tB (tI (by omega) (by omega)) (fun x2 h3=>?_)
    have oh3:Z4 x2:=ov32.2 x2 h3.1
    have mh3:=h3.2
    refine tB (Z4l oh3) (fun x4 h5=>?_)
    have eh5_1:=h5.2
    have q8:=O1.2.2.1
    refine tB (tA (by simp only [List.length_cons,List.length_nil];omega) (by decide)) (fun x6 h7=>?_)
    have lh7:x6.length=E1.Abilities.length+1:=by rw [h7,List.length_append];rfl
    refine qw (v34+1) fun q9 q10=>?_
    exact tL ⟨O0,⟨O1.1,O1.2.1,SzL.app (k:=640) h7 lo O1.2.2.2 (me1 h5.1)⟩,ov32,cl,cl,cl,cl,(by first | rfl | assumption),(by first | with_reducible exact pr_0 ‹_› ‹_› | with_reducible exact Z9j ‹_› (by rw [<- (by assumption:v32=a0.Abilities)];assumption) (by omega) (by omega) ‹_› ‹_›)⟩ (by unfold Zqu lt6;dsimp only;omega)
   .exact tR ⟨O1,(by exact Zay1 ‹_› (by first | omega | grind))⟩
def Znj(a0:List Zk)(a1:Zf):Zok->Prop
 | .L0 v0 E0 E1 v5=>(v0=a0)/\(E0=a1)/\((SzL 176 Z3) v0)/\(Za7 E1)/\(v5=if E0.Copy < 0 then E0.Card else E0.Copy)
 | .L1 E0 E1 E2=>(E0=a1)/\(Za7 E1)/\(Za7 E2)/\(E2=Z1h a0 (if E0.Copy < 0 then E0.Card else E0.Copy))
def Z4m:Zok->M6
 | .L0 v0 E0 E1 v5=>(0,0,0,0,0,0)
 | .L1 E0 E1 E2=>(0,0,0,0,0,0)
theorem Zmc{a0:List Zk}{a1:Zf}{E0:Zf}{E1:Zb}{E2:Zb}(h:(Znj a0 a1) (.L1 E0 E1 E2)):Tot (Zl1 E0 E1 E2).den (Nx (Znj a0 a1) Z4m (0,0,0,0,0,0) (fun r=>(Za7 r)/\(r=baV a0 a1))):=by
 obtain⟨al0,O1,O2,i0⟩:=h
 subst al0
 dsimp only [Zl1,LT.den]
 refine tE (fun h1=>?_) (fun h1=>?_)
 .exact tR ⟨⟨O2.1,O2.2.1,O2.2.2⟩,(by first | exact ba_c ‹_› rfl (by omega) | exact ba_o ‹_› rfl (by omega))⟩
 .refine tE (fun h2=>?_) (fun h2=>?_)
  .exact tR ⟨⟨O2.1,O2.2.1,O2.2.2⟩,(by first | exact ba_c ‹_› rfl (by omega) | exact ba_o ‹_› rfl (by omega))⟩
  .exact tR ⟨⟨O2.1,O2.2.1,O2.2.2⟩,(by first | exact ba_c ‹_› rfl (by omega) | exact ba_o ‹_› rfl (by omega))⟩
theorem Zr7{a0:List Zk}{a1:Zf}{v0:List Zk}{E0:Zf}{E1:Zb}{v5:Int}(h:(Znj a0 a1) (.L0 v0 E0 E1 v5)):Tot (Zpv v0 E0 E1 v5).den (Nx (Znj a0 a1) Z4m (0,0,0,0,0,0) (fun r=>(Za7 r)/\(r=baV a0 a1))):=by
 obtain⟨al0,al1,ov0,O1,i0⟩:=h
 have lb_v0:=ov0.1
 subst al0
 subst al1
 dsimp only [Zpv,LT.den]
 refine tD (fun h1=>?_) (fun h1=>?_)
 .have q2:=ov0.1
  refine tD (fun h3=>?_) (fun h3=>?_)
  .refine tB (tI (by omega) (by omega)) (fun x4 h5=>?_)
   have oh5:Z3 x4:=ov0.2 x4 h5.1
   have mh5:=h5.2
   refine tB (Zad1 oh5) (fun x6 h7=>?_)
   have eh7_1:=h7.2
   exact tJ (Zmc ⟨rfl,O1,h7.1,(by rw [<- (by assumption:v5=if E0.Copy < 0 then E0.Card else E0.Copy)];first | exact (Zop (by omega)).symm | (rw [Zr1 ‹_› (by omega)];assumption))⟩)
  .exact tJ (Zmc ⟨rfl,O1,⟨SzS.nil,SzL.nil,SzL.nil⟩,(by rw [<- (by assumption:v5=if E0.Copy < 0 then E0.Card else E0.Copy)];first | exact (Zop (by omega)).symm | (rw [Zr1 ‹_› (by omega)];assumption))⟩)
 .exact tJ (Zmc ⟨rfl,O1,⟨SzS.nil,SzL.nil,SzL.nil⟩,(by rw [<- (by assumption:v5=if E0.Copy < 0 then E0.Card else E0.Copy)];first | exact (Zop (by omega)).symm | (rw [Zr1 ‹_› (by omega)];assumption))⟩)
theorem Zat2{a0:List Zk}{a1:Zf}(oa0:(SzL 176 Z3) a0):Tot (Z9g a0 a1) (fun r=>(Za7 r)/\(r=baV a0 a1)):=by
 unfold Z9g
 refine tX (Inv:=(Znj a0 a1)) (μ:=Z4m) (m:=(1000000,0,0,0,0,0)) ?_ ?_
 .have lb_a0:=oa0.1
  dsimp only [Zala,LT.den]
  refine tD (fun h1=>?_) (fun h1=>?_)
  .exact tJ (Zr7 ⟨rfl,rfl,oa0,⟨SzS.nil,SzL.nil,SzL.nil⟩,(by grind)⟩)
  .exact tJ (Zr7 ⟨rfl,rfl,oa0,⟨SzS.nil,SzL.nil,SzL.nil⟩,(by grind)⟩)
 .intro s hs
  cases s with
  | L0 _ _ _ _=>exact Zr7 hs
  | L1 _ _ _=>exact Zmc hs
theorem Zty{a0:List Int}(oa0:(SzL 8 (fun _=>True)) a0):Tot (Zdi a0) (fun r=>((SzL 8 (fun _=>True)) r)/\(r=a0)):=by
 unfold Zdi
 split
 .refine tZ ?_
  have lb_a0:=oa0.1
  dsimp only [Zgh,LT.den]
  have q3:=oa0.1
  refine tB (tA (by first | omega | (simp only [List.length_cons,List.length_nil];omega)) (by decide)) (fun x1 h2=>?_)
  have lh2:x1.length=([]:List Int).length+a0.length:=by rw [h2,List.length_append]
  try simp only [List.length_cons,List.length_nil,Nat.zero_add] at lh2
  exact tR ⟨SzL.tr,(by first | rfl | assumption | (simpa using (by assumption:_=[]++a0)) | grind)⟩
 .refine tZ ?_
  dsimp only [Zd9,LT.den]
  exact tR ⟨SzL.nil,(by first | rfl | assumption | (simpa using (by assumption:_=[]++a0)) | grind)⟩
def Zad2(a0:List Zk)(a1:Zo):Ze7->Prop
 | .L0 v0 E0 v5 v13 v14 v15=>(v0=a0)/\(E0=a1)/\((SzL 176 Z3) v0)/\(Z9 E0)/\((SzL 224 Zgt) v5)/\((SzL 128 (fun _=>True)) v13)/\(0<=v15)/\(E0.Objects.length<=2048)/\(E0.Conts.length<=64)/\(∀ c,c∈v0->c.Abilities.length<=8)/\(v5=obF fL v0 v13 v15)/\(v13=E0.Objects)/\(v14=(v13.length:Int))/\(v15<=v14)
 | .L1 v0 E0 v5 E1 v13 v14 v15 v25 v26 v27=>(v0=a0)/\(E0=a1)/\((SzL 176 Z3) v0)/\(Z9 E0)/\((SzL 224 Zgt) v5)/\((SzL 128 (fun _=>True)) v13)/\((SzL 640 Z4) v25)/\(0<=v27)/\(0<=v15)/\(v15 < v14)/\(E0.Objects.length<=2048)/\(E0.Conts.length<=64)/\(∀ c,c∈v0->c.Abilities.length<=8)/\(v5=obF fL v0 v13 v15++abF (fL E1) v25 v27)/\(E1.Zone=0)/\(v13[v15.toNat]?=some E1)/\(v25=(baV v0 E1).Abilities)/\(v13=E0.Objects)/\(v14=(v13.length:Int))/\(v15 < v14)/\(v26=(v25.length:Int))/\(v27<=v26)
 | .L2 v5 v54 v55 v56=>((SzL 224 Zgt) v5)/\((SzL 80 Zj9) v54)/\(0<=v56)/\(∀ c,c∈a0->c.Abilities.length<=8)/\(a1.Objects.length<=2048)/\(a1.Conts.length<=64)/\(v5=obF fL a0 a1.Objects a1.Objects.length++coF gL v54 v56)/\(v54=a1.Conts)/\(v55=(v54.length:Int))/\(v56<=v55)
def Zc2:Ze7->M6
 | .L0 v0 E0 v5 v13 v14 v15=>(3,(v14 - v15).toNat,1000000,0,0,0)
 | .L1 v0 E0 v5 E1 v13 v14 v15 v25 v26 v27=>(3,(v14 - v15).toNat,1,(v26 - v27).toNat,1000000,0)
 | .L2 v5 v54 v55 v56=>(1,(v55 - v56).toNat,1000000,0,0,0)
theorem Zad3{a0:List Zk}{a1:Zo}(oa0:(SzL 176 Z3) a0)(oa1:Z9 a1)(h0:a1.Objects.length<=2048)(h1:a1.Conts.length<=64)(h2:∀ c,c∈a0->c.Abilities.length<=8):Tot (Zpz a0 a1) (fun r=>((SzL 224 Zgt) r)/\(r=FS fL gL a0 a1)):=by
 unfold Zpz
 refine tX (Inv:=(Zad2 a0 a1)) (μ:=Zc2) (m:=(1000000,0,0,0,0,0)) ?_ ?_
 .have lb_a0:=oa0.1
  dsimp only [Z2q,LT.den]
  have q1:=oa1.2.1.1
  exact tL ⟨rfl,rfl,oa0,oa1,SzL.nil,oa1.2.1,cl,cl,cl,(by first | assumption | grind),(by first | exact Z9l | exact Zr3 ‹_› ‹_› (by omega) (by omega) (by omega) | exact Zwd ‹_› ‹_› ‹_› (by omega) (by omega) (by omega) (by omega)),(by first | rfl | assumption),cl,cl⟩ (by unfold Zc2 lt6;dsimp only;omega)
 .intro s hs
  cases s with
  | L0 v0 E0 v5 v13 v14 v15=>
   obtain⟨al0,al1,ov0,O0,ov5,ov13,cv15,i0,i1,i2,i3,i4,i5,i6⟩:=hs
   have lb_v0:=ov0.1
   have lb_v5:=ov5.1
   have lb_v13:=ov13.1
   subst al0
   subst al1
   show Tot (Zpw v0 E0 v5 v13 v14 v15).den _
   dsimp only [Zpw,LT.den]
   have lq:v5.length<=8*2048:=by rw [(by assumption:v5=obF _ _ _ _)];have:=Zwe (f:=fL) (l:=v13) (v:=v15) (by assumption:∀ c,c∈v0->_);have:v13.length<=2048:=(by first | omega | (rw [(by assumption:v13=_)];omega));omega
   refine tD (fun h1=>?_) (fun h1=>?_)
   .refine tB (tI (by omega) (by omega)) (fun x2 h3=>?_)
    have mh3:=h3.2
    refine tN (fun h4=>?_) (fun h4=>?_)
    .refine qw (v15+1) fun q5 q6=>?_
     exact tL ⟨rfl,rfl,ov0,O0,ov5,ov13,cl,cl,cl,(by first | assumption | grind),(by first | exact Z9l | exact Zr3 ‹_› ‹_› (by omega) (by omega) (by omega) | exact Zwd ‹_› ‹_› ‹_› (by omega) (by omega) (by omega) (by omega)),(by first | rfl | assumption),cl,cl⟩ (by unfold Zc2 lt6;dsimp only;omega)
    .refine tB (Zat2 ov0) (fun x7 h8=>?_)
     have eh8_1:=h8.2
     have q9:=h8.1.2.2.1
     exact tL ⟨rfl,rfl,ov0,O0,ov5,ov13,h8.1.2.2,cl,cl,cl,cl,cl,(by first | assumption | grind),(by first | exact Z9k ‹_› | exact Zhh ‹_› ‹_› ‹_› (by omega) (by omega) (by omega) rfl | exact Zhh ‹_› ‹_› ‹_› (by omega) (by omega) (by omega) (by subst_vars;rfl) | exact Zr2 ‹_› ‹_› (by omega) (by omega) (by omega)),cl,‹_›,(by first | assumption | grind),‹_›,cl,cl,cl,cl⟩ (by unfold Zc2 lt6;dsimp only;omega)
   .have q10:=O0.2.2.2.2.2.2.1.1
    exact tL ⟨ov5,O0.2.2.2.2.2.2.1,cl,(by first | assumption | grind),cl,cl,(by first | exact Zans (by grind) | exact Zlm ‹_› ‹_› ‹_› (by omega) (by omega) rfl | exact Zlm ‹_› ‹_› ‹_› (by omega) (by omega) (by subst_vars;rfl)),(by first | rfl | (subst_vars;rfl)),cl,cl⟩ (by unfold Zc2 lt6;dsimp only;omega)
  | L1 v0 E0 v5 E1 v13 v14 v15 v25 v26 v27=>
   obtain⟨al0,al1,ov0,O0,ov5,ov13,ov25,cv27,cv15,bd9,i0,i1,i2,i3,i4,i5,i6,i7,i8,i9,i10,i11⟩:=hs
   have lb_v0:=ov0.1
   have lb_v5:=ov5.1
   have lb_v13:=ov13.1
   have lb_v25:=ov25.1
   subst al0
   subst al1
   show Tot (Zpx v0 E0 v5 E1 v13 v14 v15 v25 v26 v27).den _
   dsimp only [Zpx,LT.den]
   have lq:v5.length<=8*2048+8:=by rw [(by assumption:v5=obF _ _ _ _++_),List.length_append];have:=Zwe (f:=fL) (l:=v13) (v:=v15) (by assumption:∀ c,c∈v0->_);have:v13.length<=2048:=(by first | omega | (rw [(by assumption:v13=_)];omega));have:=Zaj3 (f:=fL E1) (l:=v25) (v:=v27);have:=Zaj0 (by assumption:∀ c,c∈v0->_) E1;rw [<- (by assumption:v25=(baV v0 E1).Abilities)] at this;omega
   refine tD (fun h1=>?_) (fun h1=>?_)
   .refine tB (tI (by omega) (by omega)) (fun x2 h3=>?_)
    have oh3:Z4 x2:=ov25.2 x2 h3.1
    have mh3:=h3.2
    refine tE (fun h4=>?_) (fun h4=>?_)
    .refine tB (Zcc oh3.2.1) (fun x5 h6=>?_)
     have eh6_1:=h6.2
     have q9:=ov5.1
     refine tB (tA (by simp only [List.length_cons,List.length_nil];omega) (by decide)) (fun x7 h8=>?_)
     have lh8:x7.length=v5.length+1:=by rw [h8,List.length_append];rfl
     refine qw (v27+1) fun q10 q11=>?_
     exact tL ⟨rfl,rfl,ov0,O0,SzL.app (k:=224) h8 lo ov5.2 (me1 ⟨SzL.nil,oh3.1,h6.1⟩),ov13,ov25,cl,cl,cl,cl,cl,(by first | assumption | grind),(by first | exact Z9k ‹_› | exact Zhh ‹_› ‹_› ‹_› (by omega) (by omega) (by omega) rfl | exact Zhh ‹_› ‹_› ‹_› (by omega) (by omega) (by omega) (by subst_vars;rfl) | exact Zr2 ‹_› ‹_› (by omega) (by omega) (by omega)),cl,‹_›,(by first | assumption | grind),‹_›,cl,cl,cl,cl⟩ (by unfold Zc2 lt6;dsimp only;omega)
    .refine qw (v27+1) fun q12 q13=>?_
     exact tL ⟨rfl,rfl,ov0,O0,ov5,ov13,ov25,cl,cl,cl,cl,cl,(by first | assumption | grind),(by first | exact Z9k ‹_› | exact Zhh ‹_› ‹_› ‹_› (by omega) (by omega) (by omega) rfl | exact Zhh ‹_› ‹_› ‹_› (by omega) (by omega) (by omega) (by subst_vars;rfl) | exact Zr2 ‹_› ‹_› (by omega) (by omega) (by omega)),cl,‹_›,(by first | assumption | grind),‹_›,cl,cl,cl,cl⟩ (by unfold Zc2 lt6;dsimp only;omega)
   .refine qw (v15+1) fun q14 q15=>?_
    exact tL ⟨rfl,rfl,ov0,O0,ov5,ov13,cl,cl,cl,(by first | assumption | grind),(by first | exact Z9l | exact Zr3 ‹_› ‹_› (by omega) (by omega) (by omega) | exact Zwd ‹_› ‹_› ‹_› (by omega) (by omega) (by omega) (by omega)),(by first | rfl | assumption),cl,cl⟩ (by unfold Zc2 lt6;dsimp only;omega)
  | L2 v5 v54 v55 v56=>
   obtain⟨ov5,ov54,cv56,i0,i1,i2,i3,i4,i5,i6⟩:=hs
   have lb_v5:=ov5.1
   have lb_v54:=ov54.1
   show Tot (Zpy v5 v54 v55 v56).den _
   dsimp only [Zpy,LT.den]
   have lq:v5.length<=8*2048+64:=by rw [(by assumption:v5=obF _ _ _ _++_),List.length_append];have:=Zwe (f:=fL) (l:=a1.Objects) (v:=a1.Objects.length) (by assumption:∀ c,c∈a0->_);have:(coF gL v54 v56).length<=64:=(by unfold coF;rw [List.length_map,List.length_take];have:v54.length<=64:=(by first | omega | (rw [(by assumption:v54=_)];omega));omega);omega
   refine tD (fun h1=>?_) (fun h1=>?_)
   .refine tB (tI (by omega) (by omega)) (fun x2 h3=>?_)
    have oh3:Zj9 x2:=ov54.2 x2 h3.1
    have mh3:=h3.2
    refine tB (Zty oh3.1) (fun x4 h5=>?_)
    have eh5_1:=h5.2
    refine tB (Zcc oh3.2) (fun x6 h7=>?_)
    have eh7_1:=h7.2
    have q10:=ov5.1
    refine tB (tA (by simp only [List.length_cons,List.length_nil];omega) (by decide)) (fun x8 h9=>?_)
    have lh9:x8.length=v5.length+1:=by rw [h9,List.length_append];rfl
    refine qw (v56+1) fun q11 q12=>?_
    exact tL ⟨SzL.app (k:=224) h9 lo ov5.2 (me1 ⟨h5.1,SzS.nil,h7.1⟩),ov54,cl,(by first | assumption | grind),cl,cl,(by first | exact Zans (by grind) | exact Zlm ‹_› ‹_› ‹_› (by omega) (by omega) rfl | exact Zlm ‹_› ‹_› ‹_› (by omega) (by omega) (by subst_vars;rfl)),(by first | rfl | (subst_vars;rfl)),cl,cl⟩ (by unfold Zc2 lt6;dsimp only;omega)
   .exact tR ⟨ov5,(by exact Zay2 ‹_› (by first | rfl | assumption) (by omega))⟩
theorem Z5l:Tot Zalk (fun r=>r=true):=⟨true,by kernel_rfl,rfl⟩
def Zake(a0:Zr):Zlh->Prop
 | .L0 E0 v3 v4 v5=>(E0=a0)/\(0<=v5)/\(v5<=5)/\(v3=coP E0.Color v5)/\(v4=2 ^ v5.toNat)/\(Zuv E0=true)
def Znu:Zlh->M6
 | .L0 E0 v3 v4 v5=>(1,(5 - v5).toNat,1000000,0,0,0)
theorem Zakf{a0:Zr}:Tot (Z33 a0) (fun r=>(r=coV a0)):=by
 unfold Z33
 refine tX (Inv:=(Zake a0)) (μ:=Znu) (m:=(1000000,0,0,0,0,0)) ?_ ?_
 .dsimp only [Z72,LT.den]
  refine tB (Zv7 a0) (fun x1 h2=>?_)
  have eh2_0:=h2.1
  have eh2_1:=h2.2.1
  have eh2_2:=h2.2.2
  refine tO (fun h3=>?_) (fun h3=>?_)
  .exact tR (by first | with_reducible exact Zahn ‹_› rfl ‹_› (by omega) (by omega) | with_reducible exact Z8h (by grind))
  .have h3_0:=eh2_0 h3
   have h3_1:=eh2_1 h3
   exact tL ⟨rfl,cl,cl,(by first | with_reducible exact Z9h _ | with_reducible exact Zark ‹_› ‹_› (by omega) (by omega) ‹_› ‹_› (by omega) (by omega) | with_reducible exact Z9i ‹_› ‹_› (by omega) (by omega) (by omega) (by omega)),(by first | with_reducible exact Zajz (by omega) ‹_› (by omega) (by omega) | rfl),(by first | assumption | grind)⟩ (by unfold Znu lt6;dsimp only;omega)
 .intro s hs
  cases s with
  | L0 E0 v3 v4 v5=>
   obtain⟨al0,cv5,i0,i1,i2,i3⟩:=hs
   subst al0
   show Tot (Zun E0 v3 v4 v5).den _
   dsimp only [Zun,LT.den]
   have lb:0<=v3/\v3<=31:=by rw [i1];exact co_b
   have lp:v4<=32/\1<=v4:=by rw [i2];exact pw_b (by omega)
   refine tD (fun h1=>?_) (fun h1=>?_)
   .refine tB (tI (by omega) (by have e:(A5.list E0.Color).length=5:=rfl;omega)) (fun x2 h3=>?_)
    have mh3:=h3.2
    refine tD (fun h4=>?_) (fun h4=>?_)
    .refine qw (v3+v4) fun q5 q6=>?_
     refine qw (2*v4) fun q7 q8=>?_
     refine qw (v5+1) fun q9 q10=>?_
     exact tL ⟨rfl,cl,cl,(by first | with_reducible exact Z9h _ | with_reducible exact Zark ‹_› ‹_› (by omega) (by omega) ‹_› ‹_› (by omega) (by omega) | with_reducible exact Z9i ‹_› ‹_› (by omega) (by omega) (by omega) (by omega)),(by first | with_reducible exact Zajz (by omega) ‹_› (by omega) (by omega) | rfl),(by first | assumption | grind)⟩ (by unfold Znu lt6;dsimp only;omega)
    .refine qw (2*v4) fun q11 q12=>?_
     refine qw (v5+1) fun q13 q14=>?_
     exact tL ⟨rfl,cl,cl,(by first | with_reducible exact Z9h _ | with_reducible exact Zark ‹_› ‹_› (by omega) (by omega) ‹_› ‹_› (by omega) (by omega) | with_reducible exact Z9i ‹_› ‹_› (by omega) (by omega) (by omega) (by omega)),(by first | with_reducible exact Zajz (by omega) ‹_› (by omega) (by omega) | rfl),(by first | assumption | grind)⟩ (by unfold Znu lt6;dsimp only;omega)
   .exact tR (by first | with_reducible exact Zahn ‹_› rfl ‹_› (by omega) (by omega) | with_reducible exact Z8h (by grind))
def Zah0(a0:Ze):Zjz->Prop
 | .L0 E0 E1 E2 v4=>(E0=a0)/\(Z4 E0)/\(Z4 E1)/\(Z4 E2)/\(0<=v4)/\(E2.Effects.length<=v4.toNat)/\(v4.toNat<=E0.Effects.length)/\(E2={ E0 with Effects:=E0.Effects.take v4.toNat })
def Zr8:Zjz->M6
 | .L0 E0 E1 E2 v4=>(1,((E0.Effects.length:Int) - v4).toNat,1000000,0,0,0)
theorem Zah1{a0:Ze}(oa0:Z4 a0):Tot (Zsi a0) (fun r=>(Z4 r)/\(r=a0)):=by
 unfold Zsi
 refine tX (Inv:=(Zah0 a0)) (μ:=Zr8) (m:=(1000000,0,0,0,0,0)) ?_ ?_
 .dsimp only [Z5b,LT.den]
  have q3:=oa0.2.1.1
  refine tB (tA (by first | omega | (simp only [List.length_cons,List.length_nil];omega)) (by decide)) (fun x1 h2=>?_)
  have lh2:x1.length=([]:List Zh).length+a0.Mods.length:=by rw [h2,List.length_append]
  try simp only [List.length_cons,List.length_nil,Nat.zero_add] at lh2
  have q6:=oa0.2.2.2.1.1
  refine tB (tA (by first | omega | (simp only [List.length_cons,List.length_nil];omega)) (by decide)) (fun x4 h5=>?_)
  have lh5:x4.length=([]:List Zat).length+a0.Specs.length:=by rw [h5,List.length_append]
  try simp only [List.length_cons,List.length_nil,Nat.zero_add] at lh5
  exact tL ⟨rfl,oa0,⟨SzS.nil,SzL.nil,SzS.nil,SzL.nil,SzL.nil,SzS.nil⟩,⟨oa0.1,SzL.app (k:=176) h2 lo (fun _ h=>by cases h) oa0.2.1.2,oa0.2.2.1,SzL.app (k:=144) h5 lo (fun _ h=>by cases h) oa0.2.2.2.1.2,SzL.nil,oa0.2.2.2.2.2⟩,cl,cl,cl,(by first | with_reducible exact Za1g ‹_› ‹_› | with_reducible exact Zarm ‹_› ‹_› (by omega) (by omega) ‹_› ‹_›)⟩ (by unfold Zr8 lt6;dsimp only;omega)
 .intro s hs
  cases s with
  | L0 E0 E1 E2 v4=>
   obtain⟨al0,O0,O1,O2,cv4,i0,i1,i2⟩:=hs
   subst al0
   show Tot (Zru E0 E1 E2 v4).den _
   dsimp only [Zru,LT.den]
   have q1:=O0.2.2.2.2.1.1
   refine tD (fun h2=>?_) (fun h2=>?_)
   .refine tB (tI (by omega) (by omega)) (fun x3 h4=>?_)
    have oh4:Z7 x3:=O0.2.2.2.2.1.2 x3 h4.1
    have mh4:=h4.2
    have q7:=oh4.2.2.2.2.1
    refine tB (tA (by first | omega | (simp only [List.length_cons,List.length_nil];omega)) (by decide)) (fun x5 h6=>?_)
    have lh6:x5.length=([]:List Zh).length+x3.Mods.length:=by rw [h6,List.length_append]
    try simp only [List.length_cons,List.length_nil,Nat.zero_add] at lh6
    have q10:=O2.2.2.2.2.1.1
    refine tB (tA (by simp only [List.length_cons,List.length_nil];omega) (by decide)) (fun x8 h9=>?_)
    have lh9:x8.length=E2.Effects.length+1:=by rw [h9,List.length_append];rfl
    refine qw (v4+1) fun q11 q12=>?_
    exact tL ⟨rfl,O0,O1,⟨O2.1,O2.2.1,O2.2.2.1,O2.2.2.2.1,SzL.app (k:=560) h9 lo O2.2.2.2.2.1.2 (me1 ⟨oh4.1,oh4.2.1,oh4.2.2.1,oh4.2.2.2.1,SzL.app (k:=176) h6 lo (fun _ h=>by cases h) oh4.2.2.2.2.2⟩),O2.2.2.2.2.2⟩,cl,cl,cl,(by first | with_reducible exact Za1g ‹_› ‹_› | with_reducible exact Zarm ‹_› ‹_› (by omega) (by omega) ‹_› ‹_›)⟩ (by unfold Zr8 lt6;dsimp only;omega)
   .exact tR ⟨O2,(by exact Za2j ‹_› (by omega))⟩
abbrev Zad4(a0:Zk)(r:Zb):Prop:=(Za7 r)/\(r.Abilities.length<=a0.Abilities.length)/\(r=prV a0)
def Zah2(a0:Zk):Zj0->Prop
 | .L0 E0 E1 E2 v4=>(E0=a0)/\(Z3 E0)/\(Za7 E1)/\(Za7 E2)/\(0<=v4)/\(E2.Abilities.length<=v4.toNat)/\(v4.toNat<=E0.Abilities.length)/\(E2={ prV E0 with Abilities:=E0.Abilities.take v4.toNat })
def Zr9:Zj0->M6
 | .L0 E0 E1 E2 v4=>(1,((E0.Abilities.length:Int) - v4).toNat,1000000,0,0,0)
theorem Zah3{a0:Zk}(oa0:Z3 a0):Tot (Z08 a0) (Zad4 a0):=by
 unfold Z08
 refine tX (Inv:=(Zah2 a0)) (μ:=Zr9) (m:=(1000000,0,0,0,0,0)) ?_ ?_
 .dsimp only [Z5d,LT.den]
  refine tB (Zakf) (fun x1 h2=>?_)
  have eh2_0:=h2
  have q5:=oa0.2.1.1
  refine tB (tA (by first | omega | (simp only [List.length_cons,List.length_nil];omega)) (by decide)) (fun x3 h4=>?_)
  have lh4:x3.length=([]:List (List UInt8)).length+a0.Line.Subs.length:=by rw [h4,List.length_append]
  try simp only [List.length_cons,List.length_nil,Nat.zero_add] at lh4
  exact tL ⟨rfl,oa0,⟨SzS.nil,SzL.nil,SzL.nil⟩,⟨oa0.1,SzL.app (k:=16) h4 lo (fun _ h=>by cases h) oa0.2.1.2,SzL.nil⟩,cl,cl,cl,(by first | with_reducible exact pr_0 ‹_› ‹_› | with_reducible exact pr_0' ‹_› ‹_› | with_reducible exact Z9j ‹_› ‹_› (by omega) (by omega) ‹_› ‹_›)⟩ (by unfold Zr9 lt6;dsimp only;omega)
 .intro s hs
  cases s with
  | L0 E0 E1 E2 v4=>
   obtain⟨al0,O0,O1,O2,cv4,i0,i1,i2⟩:=hs
   subst al0
   show Tot (Zrv E0 E1 E2 v4).den _
   dsimp only [Zrv,LT.den]
   have q1:=O0.2.2.1
   refine tD (fun h2=>?_) (fun h2=>?_)
   .refine tB (tI (by omega) (by omega)) (fun x3 h4=>?_)
    have oh4:Z4 x3:=O0.2.2.2 x3 h4.1
    have mh4:=h4.2
    refine tB (Zah1 oh4) (fun x5 h6=>?_)
    have eh6_1:=h6.2
    have q9:=O2.2.2.1
    refine tB (tA (by simp only [List.length_cons,List.length_nil];omega) (by decide)) (fun x7 h8=>?_)
    have lh8:x7.length=E2.Abilities.length+1:=by rw [h8,List.length_append];rfl
    refine qw (v4+1) fun q10 q11=>?_
    exact tL ⟨rfl,O0,O1,⟨O2.1,O2.2.1,SzL.app (k:=640) h8 lo O2.2.2.2 (me1 h6.1)⟩,cl,cl,cl,(by first | with_reducible exact pr_0 ‹_› ‹_› | with_reducible exact pr_0' ‹_› ‹_› | with_reducible exact Z9j ‹_› ‹_› (by omega) (by omega) ‹_› ‹_›)⟩ (by unfold Zr9 lt6;dsimp only;omega)
   .exact tR ⟨O2,cl,(by exact Zay1 ‹_› (by first | omega | grind))⟩
abbrev Z1p(a0:List Zk)(a1:Zf)(r:Zb):Prop:=(Za7 r)/\(r.Abilities.length<=8)/\(r=baV a0 a1)
def Zqv(a0:List Zk)(a1:Zf):Zrw->Prop
 | .L0 v0 E0 E1 v5=>(v0=a0)/\(E0=a1)/\((SzL 176 Z3) v0)/\(Za7 E1)/\(∀ c,c∈v0->c.Abilities.length<=8)/\(v5=if E0.Copy < 0 then E0.Card else E0.Copy)
 | .L1 E0 E1 E2=>(E0=a1)/\(Za7 E1)/\(Za7 E2)/\(E2.Abilities.length<=8)/\(E2=Z1h a0 (if E0.Copy < 0 then E0.Card else E0.Copy))
def Z8u:Zrw->M6
 | .L0 v0 E0 E1 v5=>(0,0,0,0,0,0)
 | .L1 E0 E1 E2=>(0,0,0,0,0,0)
theorem Znv{a0:List Zk}{a1:Zf}{E0:Zf}{E1:Zb}{E2:Zb}(h:(Zqv a0 a1) (.L1 E0 E1 E2)):Tot (Zon E0 E1 E2).den (Nx (Zqv a0 a1) Z8u (0,0,0,0,0,0) (Z1p a0 a1)):=by
 obtain⟨al0,O1,O2,i0,i1⟩:=h
 subst al0
 dsimp only [Zon,LT.den]
 refine tE (fun h1=>?_) (fun h1=>?_)
 .exact tR ⟨⟨O2.1,O2.2.1,O2.2.2⟩,cl,(by first | exact ba_c ‹_› rfl (by omega) | exact ba_o ‹_› rfl (by omega))⟩
 .refine tE (fun h2=>?_) (fun h2=>?_)
  .exact tR ⟨⟨O2.1,O2.2.1,O2.2.2⟩,cl,(by first | exact ba_c ‹_› rfl (by omega) | exact ba_o ‹_› rfl (by omega))⟩
  .exact tR ⟨⟨O2.1,O2.2.1,O2.2.2⟩,cl,(by first | exact ba_c ‹_› rfl (by omega) | exact ba_o ‹_› rfl (by omega))⟩
theorem Zvk{a0:List Zk}{a1:Zf}{v0:List Zk}{E0:Zf}{E1:Zb}{v5:Int}(h:(Zqv a0 a1) (.L0 v0 E0 E1 v5)):Tot (Ztx v0 E0 E1 v5).den (Nx (Zqv a0 a1) Z8u (0,0,0,0,0,0) (Z1p a0 a1)):=by
 obtain⟨al0,al1,ov0,O1,i0,i1⟩:=h
 have lb_v0:=ov0.1
 subst al0
 subst al1
 dsimp only [Ztx,LT.den]
 refine tD (fun h1=>?_) (fun h1=>?_)
 .have q2:=ov0.1
  refine tD (fun h3=>?_) (fun h3=>?_)
  .refine tB (tI (by omega) (by omega)) (fun x4 h5=>?_)
   have oh5:Z3 x4:=ov0.2 x4 h5.1
   have mh5:=h5.2
   have nh5:=i0 x4 h5.1
   refine tB (Zah3 oh5) (fun x6 h7=>?_)
   have eh7_1:=h7.2.1
   have eh7_2:=h7.2.2
   exact tJ (Znv ⟨rfl,O1,h7.1,cl,(by rw [<- (by assumption:v5=if E0.Copy < 0 then E0.Card else E0.Copy)];first | exact (Zop (by omega)).symm | (rw [Zr1 ‹_› (by omega)];assumption))⟩)
  .exact tJ (Znv ⟨rfl,O1,⟨SzS.nil,SzL.nil,SzL.nil⟩,cl,(by rw [<- (by assumption:v5=if E0.Copy < 0 then E0.Card else E0.Copy)];first | exact (Zop (by omega)).symm | (rw [Zr1 ‹_› (by omega)];assumption))⟩)
 .exact tJ (Znv ⟨rfl,O1,⟨SzS.nil,SzL.nil,SzL.nil⟩,cl,(by rw [<- (by assumption:v5=if E0.Copy < 0 then E0.Card else E0.Copy)];first | exact (Zop (by omega)).symm | (rw [Zr1 ‹_› (by omega)];assumption))⟩)
theorem Zaw1{a0:List Zk}{a1:Zf}(oa0:(SzL 176 Z3) a0)(h0:∀ c,c∈a0->c.Abilities.length<=8):Tot (Zahg a0 a1) (Z1p a0 a1):=by
 unfold Zahg
 refine tX (Inv:=(Zqv a0 a1)) (μ:=Z8u) (m:=(1000000,0,0,0,0,0)) ?_ ?_
 .have lb_a0:=oa0.1
  dsimp only [Zaq8,LT.den]
  refine tD (fun h1=>?_) (fun h1=>?_)
  .exact tJ (Zvk ⟨rfl,rfl,oa0,⟨SzS.nil,SzL.nil,SzL.nil⟩,(by first | assumption | grind),(by grind)⟩)
  .exact tJ (Zvk ⟨rfl,rfl,oa0,⟨SzS.nil,SzL.nil,SzL.nil⟩,(by first | assumption | grind),(by grind)⟩)
 .intro s hs
  cases s with
  | L0 _ _ _ _=>exact Zvk hs
  | L1 _ _ _=>exact Znv hs
def Zakg(a0:List Zk)(a1:Zo):Zg1->Prop
 | .L0 v0 E0 v5 v6=>(v0=a0)/\(E0=a1)/\((SzL 176 Z3) v0)/\(Z9 E0)/\((SzL 224 Zcx) v5)/\(0<=v6)/\(E0.Objects.length<=2048)/\(E0.Conts.length<=64)/\(∀ c,c∈v0->c.Abilities.length<=8)/\(v5=obF fR v0 E0.Objects v6)/\(v6<=(E0.Objects.length:Int))
 | .L1 v0 E0 v5 v6 E1 E2 v9=>(v0=a0)/\(E0=a1)/\((SzL 176 Z3) v0)/\(Z9 E0)/\((SzL 224 Zcx) v5)/\(Za7 E2)/\(0<=v9)/\(0<=v6)/\(v6 < (E0.Objects.length:Int))/\(E0.Objects.length<=2048)/\(E0.Conts.length<=64)/\(∀ c,c∈v0->c.Abilities.length<=8)/\(v5=obF fR v0 E0.Objects v6++abF (fR E1) E2.Abilities v9)/\(E1.Zone=0)/\(E0.Objects[v6.toNat]?=some E1)/\(E2.Abilities=(baV v0 E1).Abilities)/\(v6 < (E0.Objects.length:Int))/\(v9<=(E2.Abilities.length:Int))
 | .L2 E0 v5 v11=>(E0=a1)/\(Z9 E0)/\((SzL 224 Zcx) v5)/\(0<=v11)/\(∀ c,c∈a0->c.Abilities.length<=8)/\(E0.Objects.length<=2048)/\(E0.Conts.length<=64)/\(v5=obF fR a0 a1.Objects a1.Objects.length++coF gR E0.Conts v11)/\(v11<=(E0.Conts.length:Int))
def Zea:Zg1->M6
 | .L0 v0 E0 v5 v6=>(3,((E0.Objects.length:Int) - v6).toNat,1000000,0,0,0)
 | .L1 v0 E0 v5 v6 E1 E2 v9=>(3,((E0.Objects.length:Int) - v6).toNat,1,((E2.Abilities.length:Int) - v9).toNat,1000000,0)
 | .L2 E0 v5 v11=>(1,((E0.Conts.length:Int) - v11).toNat,1000000,0,0,0)
theorem Zakh{a0:List Zk}{a1:Zo}(oa0:(SzL 176 Z3) a0)(oa1:Z9 a1)(h0:a1.Objects.length<=2048)(h1:a1.Conts.length<=64)(h2:∀ c,c∈a0->c.Abilities.length<=8):Tot (Zv5 a0 a1) (fun r=>((SzL 224 Zcx) r)/\(r=FS fR gR a0 a1)):=by
 unfold Zv5
 refine tX (Inv:=(Zakg a0 a1)) (μ:=Zea) (m:=(1000000,0,0,0,0,0)) ?_ ?_
 .have lb_a0:=oa0.1
  dsimp only [Z74,LT.den]
  exact tL ⟨rfl,rfl,oa0,oa1,SzL.nil,cl,cl,cl,(by first | assumption | grind),(by first | exact Z9l | exact Zr3 ‹_› ‹_› (by omega) (by omega) (by omega) | exact Zwd ‹_› ‹_› ‹_› (by omega) (by omega) (by omega) (by omega)),cl⟩ (by unfold Zea lt6;dsimp only;omega)
 .intro s hs
  cases s with
  | L0 v0 E0 v5 v6=>
   obtain⟨al0,al1,ov0,O0,ov5,cv6,i0,i1,i2,i3,i4⟩:=hs
   have lb_v0:=ov0.1
   have lb_v5:=ov5.1
   subst al0
   subst al1
   show Tot (Zuo v0 E0 v5 v6).den _
   dsimp only [Zuo,LT.den]
   have lq:v5.length<=8*2048:=by rw [(by assumption:v5=obF _ _ _ _)];have:=Zwe (f:=fR) (l:=E0.Objects) (v:=v6) (by assumption:∀ c,c∈v0->_);have:E0.Objects.length<=2048:=(by first | omega | (rw [(by assumption:E0.Objects=_)];omega));omega
   have q1:=O0.2.1.1
   refine tD (fun h2=>?_) (fun h2=>?_)
   .refine tB (tI (by omega) (by omega)) (fun x3 h4=>?_)
    have mh4:=h4.2
    refine tN (fun h5=>?_) (fun h5=>?_)
    .refine qw (v6+1) fun q6 q7=>?_
     exact tL ⟨rfl,rfl,ov0,O0,ov5,cl,cl,cl,(by first | assumption | grind),(by first | exact Z9l | exact Zr3 ‹_› ‹_› (by omega) (by omega) (by omega) | exact Zwd ‹_› ‹_› ‹_› (by omega) (by omega) (by omega) (by omega)),cl⟩ (by unfold Zea lt6;dsimp only;omega)
    .refine tB (Zaw1 ov0 (by first | assumption | grind)) (fun x8 h9=>?_)
     have eh9_1:=h9.2.1
     have eh9_2:=h9.2.2
     exact tL ⟨rfl,rfl,ov0,O0,ov5,h9.1,cl,cl,cl,cl,cl,(by first | assumption | grind),(by first | exact Z9k ‹_› | exact Zhh ‹_› ‹_› ‹_› (by omega) (by omega) (by omega) rfl | exact Zhh ‹_› ‹_› ‹_› (by omega) (by omega) (by omega) (by subst_vars;rfl) | exact Zr2 ‹_› ‹_› (by omega) (by omega) (by omega)),cl,‹_›,(by first | assumption | grind),cl,cl⟩ (by unfold Zea lt6;dsimp only;omega)
   .exact tL ⟨rfl,O0,ov5,cl,(by first | assumption | grind),cl,cl,(by first | exact Zans (by grind) | exact Zlm ‹_› ‹_› ‹_› (by omega) (by omega) rfl | exact Zlm ‹_› ‹_› ‹_› (by omega) (by omega) (by subst_vars;rfl)),cl⟩ (by unfold Zea lt6;dsimp only;omega)
  | L1 v0 E0 v5 v6 E1 E2 v9=>
   obtain⟨al0,al1,ov0,O0,ov5,O2,cv9,cv6,bd8,i0,i1,i2,i3,i4,i5,i6,i7,i8⟩:=hs
   have lb_v0:=ov0.1
   have lb_v5:=ov5.1
   subst al0
   subst al1
   show Tot (Zup v0 E0 v5 v6 E1 E2 v9).den _
   dsimp only [Zup,LT.den]
   have lx_0:E0.Objects.length*128<=140737488351232:=O0.2.1.1
   have lq:v5.length<=8*2048+8:=by rw [(by assumption:v5=obF _ _ _ _++_),List.length_append];have:=Zwe (f:=fR) (l:=E0.Objects) (v:=v6) (by assumption:∀ c,c∈v0->_);have:E0.Objects.length<=2048:=(by first | omega | (rw [(by assumption:E0.Objects=_)];omega));have:=Zaj3 (f:=fR E1) (l:=E2.Abilities) (v:=v9);have:=Zaj0 (by assumption:∀ c,c∈v0->_) E1;rw [<- (by assumption:E2.Abilities=(baV v0 E1).Abilities)] at this;omega
   have q1:=O2.2.2.1
   refine tD (fun h2=>?_) (fun h2=>?_)
   .refine tB (tI (by omega) (by omega)) (fun x3 h4=>?_)
    have oh4:Z4 x3:=O2.2.2.2 x3 h4.1
    have mh4:=h4.2
    refine tE (fun h5=>?_) (fun h5=>?_)
    .have q8:=ov5.1
     refine tB (tA (by simp only [List.length_cons,List.length_nil];omega) (by decide)) (fun x6 h7=>?_)
     have lh7:x6.length=v5.length+1:=by rw [h7,List.length_append];rfl
     refine qw (v9+1) fun q9 q10=>?_
     exact tL ⟨rfl,rfl,ov0,O0,SzL.app (k:=224) h7 lo ov5.2 (me1 ⟨SzL.nil,oh4.1,oh4.2.1⟩),O2,cl,cl,cl,cl,cl,(by first | assumption | grind),(by first | exact Z9k ‹_› | exact Zhh ‹_› ‹_› ‹_› (by omega) (by omega) (by omega) rfl | exact Zhh ‹_› ‹_› ‹_› (by omega) (by omega) (by omega) (by subst_vars;rfl) | exact Zr2 ‹_› ‹_› (by omega) (by omega) (by omega)),cl,‹_›,(by first | assumption | grind),cl,cl⟩ (by unfold Zea lt6;dsimp only;omega)
    .refine qw (v9+1) fun q11 q12=>?_
     exact tL ⟨rfl,rfl,ov0,O0,ov5,O2,cl,cl,cl,cl,cl,(by first | assumption | grind),(by first | exact Z9k ‹_› | exact Zhh ‹_› ‹_› ‹_› (by omega) (by omega) (by omega) rfl | exact Zhh ‹_› ‹_› ‹_› (by omega) (by omega) (by omega) (by subst_vars;rfl) | exact Zr2 ‹_› ‹_› (by omega) (by omega) (by omega)),cl,‹_›,(by first | assumption | grind),cl,cl⟩ (by unfold Zea lt6;dsimp only;omega)
   .refine qw (v6+1) fun q13 q14=>?_
    exact tL ⟨rfl,rfl,ov0,O0,ov5,cl,cl,cl,(by first | assumption | grind),(by first | exact Z9l | exact Zr3 ‹_› ‹_› (by omega) (by omega) (by omega) | exact Zwd ‹_› ‹_› ‹_› (by omega) (by omega) (by omega) (by omega)),cl⟩ (by unfold Zea lt6;dsimp only;omega)
  | L2 E0 v5 v11=>
   obtain⟨al0,O0,ov5,cv11,i0,i1,i2,i3,i4⟩:=hs
   have lb_v5:=ov5.1
   subst al0
   show Tot (Zuq E0 v5 v11).den _
   dsimp only [Zuq,LT.den]
   have lq:v5.length<=8*2048+64:=by rw [(by assumption:v5=obF _ _ _ _++_),List.length_append];have:=Zwe (f:=fR) (l:=E0.Objects) (v:=E0.Objects.length) (by assumption:∀ c,c∈a0->_);have:(coF gR E0.Conts v11).length<=64:=(by unfold coF;rw [List.length_map,List.length_take];have:E0.Conts.length<=64:=(by first | omega | (rw [(by assumption:E0.Conts=_)];omega));omega);omega
   have q1:=O0.2.2.2.2.2.2.1.1
   refine tD (fun h2=>?_) (fun h2=>?_)
   .refine tB (tI (by omega) (by omega)) (fun x3 h4=>?_)
    have oh4:Zj9 x3:=O0.2.2.2.2.2.2.1.2 x3 h4.1
    have mh4:=h4.2
    have q7:=ov5.1
    refine tB (tA (by simp only [List.length_cons,List.length_nil];omega) (by decide)) (fun x5 h6=>?_)
    have lh6:x5.length=v5.length+1:=by rw [h6,List.length_append];rfl
    refine qw (v11+1) fun q8 q9=>?_
    exact tL ⟨rfl,O0,SzL.app (k:=224) h6 lo ov5.2 (me1 ⟨oh4.1,SzS.nil,oh4.2⟩),cl,(by first | assumption | grind),cl,cl,(by first | exact Zans (by grind) | exact Zlm ‹_› ‹_› ‹_› (by omega) (by omega) rfl | exact Zlm ‹_› ‹_› ‹_› (by omega) (by omega) (by subst_vars;rfl)),cl⟩ (by unfold Zea lt6;dsimp only;omega)
   .exact tR ⟨ov5,(by exact Zay2 ‹_› (by first | rfl | assumption) (by omega))⟩
def Zasf(a0:List Int)(a1:List Int):Zqc->Prop
 | .L0 v0 v1 v5=>(v0=a0)/\(v1=a1)/\((SzL 8 (fun _=>True)) v0)/\((SzL 8 (fun _=>True)) v1)/\(0<=v5)/\(v0.length=v1.length)
def Z1q:Zqc->M6
 | .L0 v0 v1 v5=>(1,((v0.length:Int) - v5).toNat,1000000,0,0,0)
theorem Zasg{a0:List Int}{a1:List Int}(oa0:(SzL 8 (fun _=>True)) a0)(oa1:(SzL 8 (fun _=>True)) a1):Tot (Zadg a0 a1) (fun r=>(a0=a1->r=true)):=by
 unfold Zadg
 refine tX (Inv:=(Zasf a0 a1)) (μ:=Z1q) (m:=(1000000,0,0,0,0,0)) ?_ ?_
 .have lb_a0:=oa0.1
  have lb_a1:=oa1.1
  dsimp only [Zahh,LT.den]
  have q1:=oa0.1
  have q2:=oa1.1
  refine tN (fun h3=>?_) (fun h3=>?_)
  .exact tR (by first | (intro _;rfl) | (intro he;subst he;exfalso;grind))
  .exact tL ⟨rfl,rfl,oa0,oa1,cl,cl⟩ (by unfold Z1q lt6;dsimp only;omega)
 .intro s hs
  cases s with
  | L0 v0 v1 v5=>
   obtain⟨al0,al1,ov0,ov1,cv5,i0⟩:=hs
   have lb_v0:=ov0.1
   have lb_v1:=ov1.1
   subst al0
   subst al1
   show Tot (Z09 v0 v1 v5).den _
   dsimp only [Z09,LT.den]
   have q1:=ov0.1
   refine tD (fun h2=>?_) (fun h2=>?_)
   .refine tB (tI (by omega) (by omega)) (fun x3 h4=>?_)
    have mh4:=h4.2
    refine tB (tI (by omega) (by omega)) (fun x5 h6=>?_)
    have mh6:=h6.2
    refine tN (fun h7=>?_) (fun h7=>?_)
    .exact tR (by first | (intro _;rfl) | (intro he;subst he;exfalso;grind))
    .refine qw (v5+1) fun q8 q9=>?_
     exact tL ⟨rfl,rfl,ov0,ov1,cl,cl⟩ (by unfold Z1q lt6;dsimp only;omega)
   .exact tR (by first | (intro _;rfl) | (intro he;subst he;exfalso;grind))
def Zad5(a0:List Zh)(a1:List Zh):Ziv->Prop
 | .L0 v0 v1 v5=>(v0=a0)/\(v1=a1)/\((SzL 176 Z8) v0)/\((SzL 176 Z8) v1)/\(0<=v5)/\(v0.length=v1.length)
def Zqw:Ziv->M6
 | .L0 v0 v1 v5=>(1,((v0.length:Int) - v5).toNat,1000000,0,0,0)
theorem Zad6{a0:List Zh}{a1:List Zh}(oa0:(SzL 176 Z8) a0)(oa1:(SzL 176 Z8) a1):Tot (Zx9 a0 a1) (fun r=>(a0=a1->r=true)):=by
 unfold Zx9
 refine tX (Inv:=(Zad5 a0 a1)) (μ:=Zqw) (m:=(1000000,0,0,0,0,0)) ?_ ?_
 .have lb_a0:=oa0.1
  have lb_a1:=oa1.1
  dsimp only [Z2y,LT.den]
  have q1:=oa0.1
  have q2:=oa1.1
  refine tN (fun h3=>?_) (fun h3=>?_)
  .exact tR (by first | (intro _;rfl) | (intro he;subst he;exfalso;grind [Z37]))
  .exact tL ⟨rfl,rfl,oa0,oa1,cl,cl⟩ (by unfold Zqw lt6;dsimp only;omega)
 .intro s hs
  cases s with
  | L0 v0 v1 v5=>
   obtain⟨al0,al1,ov0,ov1,cv5,i0⟩:=hs
   have lb_v0:=ov0.1
   have lb_v1:=ov1.1
   subst al0
   subst al1
   show Tot (Zqd v0 v1 v5).den _
   dsimp only [Zqd,LT.den]
   have q1:=ov0.1
   refine tD (fun h2=>?_) (fun h2=>?_)
   .refine tB (tI (by omega) (by omega)) (fun x3 h4=>?_)
    have oh4:Z8 x3:=ov0.2 x3 h4.1
    have mh4:=h4.2
    refine tB (tI (by omega) (by omega)) (fun x5 h6=>?_)
    have oh6:Z8 x5:=ov1.2 x5 h6.1
    have mh6:=h6.2
    refine tO (fun h7=>?_) (fun h7=>?_)
    .exact tR (by first | (intro _;rfl) | (intro he;subst he;exfalso;grind [Z37]))
    .refine qw (v5+1) fun q8 q9=>?_
     exact tL ⟨rfl,rfl,ov0,ov1,cl,cl⟩ (by unfold Zqw lt6;dsimp only;omega)
   .exact tR (by first | (intro _;rfl) | (intro he;subst he;exfalso;grind [Z37]))
def Z5s:Zgf->Prop
 | .L0 v5 v6 v7=>((SzL 224 Zgt) v5)/\((SzL 224 Zcx) v6)/\(0<=v7)/\(v5.length=v6.length)/\(v5=v6.map toL)
def Zlr:Zgf->M6
 | .L0 v5 v6 v7=>(1,((v5.length:Int) - v7).toNat,1000000,0,0,0)
theorem Z5t{a0:List Zk}{a1:Zo}(oa0:(SzL 176 Z3) a0)(oa1:Z9 a1):Tot (Zqe a0 a1) (fun r=>(r=true)):=by
 unfold Zqe
 refine tX (Inv:=Z5s) (μ:=Zlr) (m:=(1000000,0,0,0,0,0)) ?_ ?_
 .have lb_a0:=oa0.1
  dsimp only [Zvp,LT.den]
  refine tB (Zanb oa0 oa1) (fun x1 h2=>?_)
  have eh2_0:=h2
  refine tO (fun h3=>?_) (fun h3=>?_)
  .refine tB (Z5l) (fun x4 h5=>?_)
   have eh5_0:=h5
   exact tR (by first | rfl | assumption | (exfalso;simp [toL,Zqh] at *;done) | (exfalso;grind [toL,Ziy]))
  .have h3_0:=eh2_0 h3
   refine tB (Zad3 oa0 oa1 cl cl (by first | assumption | grind)) (fun x6 h7=>?_)
   have eh7_1:=h7.2
   refine tB (Zakh oa0 oa1 cl cl (by first | assumption | grind)) (fun x8 h9=>?_)
   have eh9_1:=h9.2
   have q10:=h7.1.1
   have q11:=h9.1.1
   refine tN (fun h12=>?_) (fun h12=>?_)
   .exact tR (by first | rfl | assumption | (exfalso;simp [toL,Zqh] at *;done) | (exfalso;grind [toL,Ziy]))
   .exact tL ⟨h7.1,h9.1,cl,cl,(by first | assumption | (subst_vars;exact Ziy _ _))⟩ (by unfold Zlr lt6;dsimp only;omega)
 .intro s hs
  cases s with
  | L0 v5 v6 v7=>
   obtain⟨ov5,ov6,cv7,i0,i1⟩:=hs
   have lb_v5:=ov5.1
   have lb_v6:=ov6.1
   show Tot (Zli v5 v6 v7).den _
   dsimp only [Zli,LT.den]
   have q1:=ov5.1
   refine tD (fun h2=>?_) (fun h2=>?_)
   .refine tB (tI (by omega) (by omega)) (fun x3 h4=>?_)
    have oh4:Zgt x3:=ov5.2 x3 h4.1
    have mh4:=h4.2
    refine tB (tI (by omega) (by omega)) (fun x5 h6=>?_)
    have oh6:Zcx x5:=ov6.2 x5 h6.1
    have mh6:=h6.2
    obtain rfl:=Za3e ‹_› ‹_› h6.2
    refine tN (fun h7=>?_) (fun h7=>?_)
    .exact tR (by first | rfl | assumption | (exfalso;simp [toL,Zqh] at *;done) | (exfalso;grind [toL,Ziy]))
    .refine tN (fun h8=>?_) (fun h8=>?_)
     .exact tR (by first | rfl | assumption | (exfalso;simp [toL,Zqh] at *;done) | (exfalso;grind [toL,Ziy]))
     .refine tN (fun h9=>?_) (fun h9=>?_)
      .exact tR (by first | rfl | assumption | (exfalso;simp [toL,Zqh] at *;done) | (exfalso;grind [toL,Ziy]))
      .refine tN (fun h10=>?_) (fun h10=>?_)
       .exact tR (by first | rfl | assumption | (exfalso;simp [toL,Zqh] at *;done) | (exfalso;grind [toL,Ziy]))
       .refine tO (fun h11=>?_) (fun h11=>?_)
        .exact tR (by first | rfl | assumption | (exfalso;simp [toL,Zqh] at *;done) | (exfalso;grind [toL,Ziy]))
        .refine tO (fun h12=>?_) (fun h12=>?_)
         .exact tR (by first | rfl | assumption | (exfalso;simp [toL,Zqh] at *;done) | (exfalso;grind [toL,Ziy]))
         .refine tB (Zasg oh4.1 oh6.1) (fun x13 h14=>?_)
          have eh14_0:=h14
          refine tO (fun h15=>?_) (fun h15=>?_)
          .exact tR (by first | rfl | assumption | (exfalso;simp [toL,Zqh] at *;done) | (exfalso;grind [toL,Ziy]))
          .refine tB (Zad6 oh4.2.2 oh6.2.2) (fun x16 h17=>?_)
           have eh17_0:=h17
           refine tO (fun h18=>?_) (fun h18=>?_)
           .exact tR (by first | rfl | assumption | (exfalso;simp [toL,Zqh] at *;done) | (exfalso;grind [toL,Ziy]))
           .refine qw (v7+1) fun q19 q20=>?_
            exact tL ⟨ov5,ov6,cl,cl,(by first | assumption | (subst_vars;exact Ziy _ _))⟩ (by unfold Zlr lt6;dsimp only;omega)
   .refine tB (Z5l) (fun x21 h22=>?_)
    have eh22_0:=h22
    exact tR (by first | rfl | assumption | (exfalso;simp [toL,Zqh] at *;done) | (exfalso;grind [toL,Ziy]))
end Go.PW
