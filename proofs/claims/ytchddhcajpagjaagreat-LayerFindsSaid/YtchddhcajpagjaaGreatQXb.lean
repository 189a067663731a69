import Derived.Test.YtchddhcajpagjaaGreatQX
set_option linter.all false
set_option maxRecDepth 100000
namespace Go.PW
abbrev Zazl(a0:List Zn)(a1:Zl)(r:Bool):Prop:=(r=true->a1.Objects.length<=2048/\a1.Conts.length<=64)/\(r=true->Zq9 a1.Objects)
def Za2s(a0:List Zn)(a1:Zl):Z20->Prop
 | .L0 v0 E0 v5=>(v0=a0)/\(E0=a1)/\((SzL 176 Zad) v0)/\(Z9 E0)/\(0<=v5)/\(E0.Objects.length<=2048)
def Zaex:Z20->M6
 | .L0 v0 E0 v5=>(1,((E0.Extra.length:Int) - v5).toNat,1000000,0,0,0)
theorem Za2t{a0:List Zn}{a1:Zl}(oa0:(SzL 176 Zad) a0)(oa1:Z9 a1):Tot (Zawn a0 a1) (Zazl a0 a1):=by
 unfold Zawn
 refine tX (Inv:=(Za2s a0 a1)) (μ:=Zaex) (m:=(1000000,0,0,0,0,0)) ?_ ?_
 .have lb_a0:=oa0.1
  dsimp only [Zawl,LT.den]
  refine tB (Zet) (fun x1 h2=>?_)
  have eh2_0:=h2
  refine tO (fun h3=>?_) (fun h3=>?_)
  .exact tR ⟨(by first | (intro hr;exact absurd hr (by decide)) | (intro hr;exact⟨by omega,by grind⟩)),(by first | (intro hr;exact absurd hr (by decide)) | (intro _;assumption) | assumption)⟩
  .refine tB (Zet) (fun x4 h5=>?_)
   have eh5_0:=h5
   refine tO (fun h6=>?_) (fun h6=>?_)
   .exact tR ⟨(by first | (intro hr;exact absurd hr (by decide)) | (intro hr;exact⟨by omega,by grind⟩)),(by first | (intro hr;exact absurd hr (by decide)) | (intro _;assumption) | assumption)⟩
   .refine tB (Zet) (fun x7 h8=>?_)
    have eh8_0:=h8
    refine tO (fun h9=>?_) (fun h9=>?_)
    .exact tR ⟨(by first | (intro hr;exact absurd hr (by decide)) | (intro hr;exact⟨by omega,by grind⟩)),(by first | (intro hr;exact absurd hr (by decide)) | (intro _;assumption) | assumption)⟩
    .refine tB (Zet) (fun x10 h11=>?_)
     have eh11_0:=h11
     refine tO (fun h12=>?_) (fun h12=>?_)
     .exact tR ⟨(by first | (intro hr;exact absurd hr (by decide)) | (intro hr;exact⟨by omega,by grind⟩)),(by first | (intro hr;exact absurd hr (by decide)) | (intro _;assumption) | assumption)⟩
     .have q13:=oa1.2.1.1
      refine tD (fun h14=>?_) (fun h14=>?_)
      .exact tR ⟨(by first | (intro hr;exact absurd hr (by decide)) | (intro hr;exact⟨by omega,by grind⟩)),(by first | (intro hr;exact absurd hr (by decide)) | (intro _;assumption) | assumption)⟩
      .refine tB (Zan8 oa1) (fun x15 h16=>?_)
       refine tO (fun h17=>?_) (fun h17=>?_)
       .exact tR ⟨(by first | (intro hr;exact absurd hr (by decide)) | (intro hr;exact⟨by omega,by grind⟩)),(by first | (intro hr;exact absurd hr (by decide)) | (intro _;assumption) | assumption)⟩
       .refine tB (Zhv oa1) (fun x18 h19=>?_)
        have eh19_0:=h19
        refine tO (fun h20=>?_) (fun h20=>?_)
        .exact tR ⟨(by first | (intro hr;exact absurd hr (by decide)) | (intro hr;exact⟨by omega,by grind⟩)),(by first | (intro hr;exact absurd hr (by decide)) | (intro _;assumption) | assumption)⟩
        .refine tB (Zhv oa1) (fun x21 h22=>?_)
         have eh22_0:=h22
         refine tO (fun h23=>?_) (fun h23=>?_)
         .exact tR ⟨(by first | (intro hr;exact absurd hr (by decide)) | (intro hr;exact⟨by omega,by grind⟩)),(by first | (intro hr;exact absurd hr (by decide)) | (intro _;assumption) | assumption)⟩
         .have q24:=oa1.1.1
          refine tB (Zet) (fun x25 h26=>?_)
          have eh26_0:=h26
          refine tO (fun h27=>?_) (fun h27=>?_)
          .exact tR ⟨(by first | (intro hr;exact absurd hr (by decide)) | (intro hr;exact⟨by omega,by grind⟩)),(by first | (intro hr;exact absurd hr (by decide)) | (intro _;assumption) | assumption)⟩
          .have q28:=oa1.2.2.2.2.2.2.2.1
           refine tD (fun h29=>?_) (fun h29=>?_)
           .exact tR ⟨(by first | (intro hr;exact absurd hr (by decide)) | (intro hr;exact⟨by omega,by grind⟩)),(by first | (intro hr;exact absurd hr (by decide)) | (intro _;assumption) | assumption)⟩
           .refine tB (Zet) (fun x30 h31=>?_)
            have eh31_0:=h31
            refine tO (fun h32=>?_) (fun h32=>?_)
            .exact tR ⟨(by first | (intro hr;exact absurd hr (by decide)) | (intro hr;exact⟨by omega,by grind⟩)),(by first | (intro hr;exact absurd hr (by decide)) | (intro _;assumption) | assumption)⟩
            .exact tL ⟨rfl,rfl,oa0,oa1,cl,cl⟩ (by unfold Zaex lt6;dsimp only;omega)
 .intro s hs
  cases s with
  | L0 v0 E0 v5=>
   obtain⟨al0,al1,ov0,O0,cv5,i0⟩:=hs
   have lb_v0:=ov0.1
   subst al0
   subst al1
   show Tot (Zadw v0 E0 v5).den _
   dsimp only [Zadw,LT.den]
   have q1:=O0.2.2.2.2.2.2.2.1
   refine tD (fun h2=>?_) (fun h2=>?_)
   .refine tB (tI (by omega) (by omega)) (fun x3 h4=>?_)
    refine tB (Zhv O0) (fun x5 h6=>?_)
    have eh6_0:=h6
    refine tO (fun h7=>?_) (fun h7=>?_)
    .exact tR ⟨(by first | (intro hr;exact absurd hr (by decide)) | (intro hr;exact⟨by omega,by grind⟩)),(by first | (intro hr;exact absurd hr (by decide)) | (intro _;assumption) | assumption)⟩
    .refine qw (v5+1) fun q8 q9=>?_
     exact tL ⟨rfl,rfl,ov0,O0,cl,cl⟩ (by unfold Zaex lt6;dsimp only;omega)
   .refine tE (fun h10=>?_) (fun h10=>?_)
    .refine tB (Zhv O0) (fun x11 h12=>?_)
     have eh12_0:=h12
     refine tO (fun h13=>?_) (fun h13=>?_)
     .exact tR ⟨(by first | (intro hr;exact absurd hr (by decide)) | (intro hr;exact⟨by omega,by grind⟩)),(by first | (intro hr;exact absurd hr (by decide)) | (intro _;assumption) | assumption)⟩
     .refine tN (fun h14=>?_) (fun h14=>?_)
      .refine tN (fun h15=>?_) (fun h15=>?_)
       .exact tR ⟨(by first | (intro hr;exact absurd hr (by decide)) | (intro hr;exact⟨by omega,by grind⟩)),(by first | (intro hr;exact absurd hr (by decide)) | (intro _;assumption) | assumption)⟩
       .refine tB (Zov ov0 O0) (fun x16 h17=>?_)
        have eh17_0:=h17.1
        have eh17_1:=h17.2
        refine tF (fun h18=>?_) (fun h18=>?_)
        .have h18_0:=eh17_0 h18
         have h18_1:=eh17_1 h18
         refine tB (Zso O0) (fun x19 h20=>?_)
         have eh20_0:=h20
         exact tR ⟨(by first | (intro hr;exact absurd hr (by decide)) | (intro hr;exact⟨by omega,by grind⟩)),(by first | (intro hr;exact absurd hr (by decide)) | (intro _;assumption) | assumption)⟩
        .exact tR ⟨(by first | (intro hr;exact absurd hr (by decide)) | (intro hr;exact⟨by omega,by grind⟩)),(by first | (intro hr;exact absurd hr (by decide)) | (intro _;assumption) | assumption)⟩
      .refine tB (Zov ov0 O0) (fun x21 h22=>?_)
       have eh22_0:=h22.1
       have eh22_1:=h22.2
       refine tF (fun h23=>?_) (fun h23=>?_)
       .have h23_0:=eh22_0 h23
        have h23_1:=eh22_1 h23
        refine tB (Zso O0) (fun x24 h25=>?_)
        have eh25_0:=h25
        exact tR ⟨(by first | (intro hr;exact absurd hr (by decide)) | (intro hr;exact⟨by omega,by grind⟩)),(by first | (intro hr;exact absurd hr (by decide)) | (intro _;assumption) | assumption)⟩
       .exact tR ⟨(by first | (intro hr;exact absurd hr (by decide)) | (intro hr;exact⟨by omega,by grind⟩)),(by first | (intro hr;exact absurd hr (by decide)) | (intro _;assumption) | assumption)⟩
    .refine tN (fun h26=>?_) (fun h26=>?_)
     .refine tN (fun h27=>?_) (fun h27=>?_)
      .exact tR ⟨(by first | (intro hr;exact absurd hr (by decide)) | (intro hr;exact⟨by omega,by grind⟩)),(by first | (intro hr;exact absurd hr (by decide)) | (intro _;assumption) | assumption)⟩
      .refine tB (Zov ov0 O0) (fun x28 h29=>?_)
       have eh29_0:=h29.1
       have eh29_1:=h29.2
       refine tF (fun h30=>?_) (fun h30=>?_)
       .have h30_0:=eh29_0 h30
        have h30_1:=eh29_1 h30
        refine tB (Zso O0) (fun x31 h32=>?_)
        have eh32_0:=h32
        exact tR ⟨(by first | (intro hr;exact absurd hr (by decide)) | (intro hr;exact⟨by omega,by grind⟩)),(by first | (intro hr;exact absurd hr (by decide)) | (intro _;assumption) | assumption)⟩
       .exact tR ⟨(by first | (intro hr;exact absurd hr (by decide)) | (intro hr;exact⟨by omega,by grind⟩)),(by first | (intro hr;exact absurd hr (by decide)) | (intro _;assumption) | assumption)⟩
     .refine tB (Zov ov0 O0) (fun x33 h34=>?_)
      have eh34_0:=h34.1
      have eh34_1:=h34.2
      refine tF (fun h35=>?_) (fun h35=>?_)
      .have h35_0:=eh34_0 h35
       have h35_1:=eh34_1 h35
       refine tB (Zso O0) (fun x36 h37=>?_)
       have eh37_0:=h37
       exact tR ⟨(by first | (intro hr;exact absurd hr (by decide)) | (intro hr;exact⟨by omega,by grind⟩)),(by first | (intro hr;exact absurd hr (by decide)) | (intro _;assumption) | assumption)⟩
      .exact tR ⟨(by first | (intro hr;exact absurd hr (by decide)) | (intro hr;exact⟨by omega,by grind⟩)),(by first | (intro hr;exact absurd hr (by decide)) | (intro _;assumption) | assumption)⟩
theorem Zasu{a0:List Zn}{a1:Zl}(oa0:(SzL 176 Zad) a0)(oa1:Z9 a1):Tot (Zadx a0 a1) (fun r=>(r=true->a1.Objects.length<=2048/\a1.Conts.length<=64/\∀ c,c∈a0->c.Abilities.length<=8)/\(r=true->Zq9 a1.Objects)):=by
 unfold Zadx
 refine tZ ?_
 have lb_a0:=oa0.1
 dsimp only [Zahg,LT.den]
 refine tB (Zasm oa0) (fun x1 h2=>?_)
 have eh2_0:=h2
 refine tE (fun h3=>?_) (fun h3=>?_)
 .refine tB (Za2t oa0 oa1) (fun x4 h5=>?_)
  have eh5_0:=h5.1
  have eh5_1:=h5.2
  exact tR ⟨(by first | (intro hr;exact absurd hr (by decide)) | (intro hr;grind)),(by first | assumption | (intro hr;exact absurd hr (by decide)) | (intro hr;grind))⟩
 .exact tR ⟨(by first | (intro hr;exact absurd hr (by decide)) | (intro hr;grind)),(by first | assumption | (intro hr;exact absurd hr (by decide)) | (intro hr;grind))⟩
def Zazm(a0:Zt):Zpi->Prop
 | .L0 E0 v6 v7=>(E0=a0)/\(0<=v7)/\(v6=E0.Color)/\(∀ (k:Nat) x,(k:Int) < v7->(A5.list E0.Color)[k]?=some x->0<=x/\x<=9)
def Zaau:Zpi->M6
 | .L0 E0 v6 v7=>(1,(5 - v7).toNat,1000000,0,0,0)
theorem Zah3{a0:Zt}:Tot (Z8j a0) (fun r=>(r=Z3s a0)):=by
 unfold Z8j
 refine tX (Inv:=(Zazm a0)) (μ:=Zaau) (m:=(1000000,0,0,0,0,0)) ?_ ?_
 .dsimp only [Zady,LT.den]
  exact tL ⟨rfl,cl,(by first | rfl | assumption),(by first | (intro k x hk;omega) | exact Z9t ‹_› ‹_› (by omega) ⟨by omega,by omega⟩ (by omega))⟩ (by unfold Zaau lt6;dsimp only;omega)
 .intro s hs
  cases s with
  | L0 E0 v6 v7=>
   obtain⟨al0,cv7,i0,i1⟩:=hs
   subst al0
   show Tot (Znm E0 v6 v7).den _
   dsimp only [Znm,LT.den]
   refine tD (fun h1=>?_) (fun h1=>?_)
   .refine tB (tI (by omega) (by have e:(A5.list v6).length=5:=rfl;omega)) (fun x2 h3=>?_)
    have mh3:=h3.2
    rw [i0] at mh3
    refine tD (fun h4=>?_) (fun h4=>?_)
    .exact tR (by first | with_reducible exact Z8z ‹_› (by omega) | (rw [Z1m ‹_› (by omega)];grind))
    .refine tD (fun h5=>?_) (fun h5=>?_)
     .exact tR (by first | with_reducible exact Z8z ‹_› (by omega) | (rw [Z1m ‹_› (by omega)];grind))
     .refine qw (v7+1) fun q6 q7=>?_
      exact tL ⟨rfl,cl,(by first | rfl | assumption),(by first | (intro k x hk;omega) | exact Z9t ‹_› ‹_› (by omega) ⟨by omega,by omega⟩ (by omega))⟩ (by unfold Zaau lt6;dsimp only;omega)
   .refine tD (fun h8=>?_) (fun h8=>?_)
    .refine tD (fun h9=>?_) (fun h9=>?_)
     .refine tD (fun h10=>?_) (fun h10=>?_)
      .exact tR (by first | with_reducible exact Z8z ‹_› (by omega) | (rw [Z1m ‹_› (by omega)];grind))
      .exact tR (by first | with_reducible exact Z8z ‹_› (by omega) | (rw [Z1m ‹_› (by omega)];grind))
     .exact tR (by first | with_reducible exact Z8z ‹_› (by omega) | (rw [Z1m ‹_› (by omega)];grind))
    .exact tR (by first | with_reducible exact Z8z ‹_› (by omega) | (rw [Z1m ‹_› (by omega)];grind))
def Zaoa(a0:Zt):Zn0->Prop
 | .L0 v3 v16 v17=>(0<=v17)/\(v17<=5)/\(v16=a0.Color)/\(Z3s a0=true)/\(v3=coP v16 v17)
def Zqu:Zn0->M6
 | .L0 v3 v16 v17=>(1,(5 - v17).toNat,1000000,0,0,0)
theorem Zaob{a0:Zt}:Tot (Z6u a0) (fun r=>(r=coV a0)):=by
 unfold Z6u
 refine tX (Inv:=(Zaoa a0)) (μ:=Zqu) (m:=(1000000,0,0,0,0,0)) ?_ ?_
 .dsimp only [Zabg,LT.den]
  refine tB (Zah3) (fun x1 h2=>?_)
  have eh2_0:=h2
  refine tO (fun h3=>?_) (fun h3=>?_)
  .exact tR (by first | with_reducible exact Za17 ‹_› ‹_› ‹_› (by omega) (by omega) | with_reducible exact Za16 ‹_› | with_reducible exact Zaw7 (by grind))
  .refine tF (fun h4=>?_) (fun h4=>?_)
   .exact tR (by first | with_reducible exact Za17 ‹_› ‹_› ‹_› (by omega) (by omega) | with_reducible exact Za16 ‹_› | with_reducible exact Zaw7 (by grind))
   .exact tL ⟨cl,cl,(by first | rfl | assumption),(by first | assumption | grind),(by first | with_reducible exact Za13 _ | with_reducible exact Za14 ‹_› ‹_› (by omega) (by omega) ‹_› (by omega) | with_reducible exact Za15 ‹_› ‹_› (by omega) (by omega) (by omega) (by omega))⟩ (by unfold Zqu lt6;dsimp only;omega)
 .intro s hs
  cases s with
  | L0 v3 v16 v17=>
   obtain⟨cv17,i0,i1,i2,i3⟩:=hs
   show Tot (Zws v3 v16 v17).den _
   dsimp only [Zws,LT.den]
   refine tD (fun h1=>?_) (fun h1=>?_)
   .refine tB (tI (by omega) (by have e:(A5.list v16).length=5:=rfl;omega)) (fun x2 h3=>?_)
    have mh3:=h3.2
    refine tD (fun h4=>?_) (fun h4=>?_)
    .refine tB (tK (by first | omega | exact shl_ne' (by omega) (by omega) | decide)) (fun x5 h6=>?_)
     refine qw (v17+1) fun q7 q8=>?_
     exact tL ⟨cl,cl,(by first | rfl | assumption),(by first | assumption | grind),(by first | with_reducible exact Za13 _ | with_reducible exact Za14 ‹_› ‹_› (by omega) (by omega) ‹_› (by omega) | with_reducible exact Za15 ‹_› ‹_› (by omega) (by omega) (by omega) (by omega))⟩ (by unfold Zqu lt6;dsimp only;omega)
    .refine qw (v17+1) fun q9 q10=>?_
     exact tL ⟨cl,cl,(by first | rfl | assumption),(by first | assumption | grind),(by first | with_reducible exact Za13 _ | with_reducible exact Za14 ‹_› ‹_› (by omega) (by omega) ‹_› (by omega) | with_reducible exact Za15 ‹_› ‹_› (by omega) (by omega) (by omega) (by omega))⟩ (by unfold Zqu lt6;dsimp only;omega)
   .exact tR (by first | with_reducible exact Za17 ‹_› ‹_› ‹_› (by omega) (by omega) | with_reducible exact Za16 ‹_› | with_reducible exact Zaw7 (by grind))
theorem Zga{a0:List (List UInt8)}(oa0:(SzL 16 SzT) a0):Tot (Zex a0) (fun r=>((SzL 16 SzT) r)/\(r=a0)):=by
 unfold Zex
 split
 .refine tZ ?_
  have lb_a0:=oa0.1
  dsimp only [Zgo,LT.den]
  have q3:=oa0.1
  refine tB (tA (by first | omega | (simp only [List.length_cons,List.length_nil];omega)) (by decide)) (fun x1 h2=>?_)
  have lh2:x1.length=([]:List (List UInt8)).length+a0.length:=by rw [h2,List.length_append]
  try simp only [List.length_cons,List.length_nil,Nat.zero_add] at lh2
  exact tR ⟨SzL.app (k:=16) h2 lo (fun _ h=>by cases h) oa0.2,(by first | rfl | assumption | (simpa using (by assumption:_=[]++a0)) | grind)⟩
 .refine tZ ?_
  dsimp only [Zd8,LT.den]
  exact tR ⟨SzL.nil,(by first | rfl | assumption | (simpa using (by assumption:_=[]++a0)) | grind)⟩
theorem Zbq{a0:List Zi}(oa0:(SzL 176 Zu) a0):Tot (Zc4 a0) (fun r=>((SzL 176 Zu) r)/\(r=a0)):=by
 unfold Zc4
 split
 .refine tZ ?_
  have lb_a0:=oa0.1
  dsimp only [Zf8,LT.den]
  have q3:=oa0.1
  refine tB (tA (by first | omega | (simp only [List.length_cons,List.length_nil];omega)) (by decide)) (fun x1 h2=>?_)
  have lh2:x1.length=([]:List Zi).length+a0.length:=by rw [h2,List.length_append]
  try simp only [List.length_cons,List.length_nil,Nat.zero_add] at lh2
  exact tR ⟨SzL.app (k:=176) h2 lo (fun _ h=>by cases h) oa0.2,(by first | rfl | assumption | (simpa using (by assumption:_=[]++a0)) | grind)⟩
 .refine tZ ?_
  dsimp only [Zdx,LT.den]
  exact tR ⟨SzL.nil,(by first | rfl | assumption | (simpa using (by assumption:_=[]++a0)) | grind)⟩
theorem Zh2{a0:List Zba}(oa0:(SzL 144 Ze6) a0):Tot (Zcu a0) (fun r=>((SzL 144 Ze6) r)/\(r=a0)):=by
 unfold Zcu
 split
 .refine tZ ?_
  have lb_a0:=oa0.1
  dsimp only [Ze9,LT.den]
  have q3:=oa0.1
  refine tB (tA (by first | omega | (simp only [List.length_cons,List.length_nil];omega)) (by decide)) (fun x1 h2=>?_)
  have lh2:x1.length=([]:List Zba).length+a0.length:=by rw [h2,List.length_append]
  try simp only [List.length_cons,List.length_nil,Nat.zero_add] at lh2
  exact tR ⟨SzL.app (k:=144) h2 lo (fun _ h=>by cases h) oa0.2,(by first | rfl | assumption | (simpa using (by assumption:_=[]++a0)) | grind)⟩
 .refine tZ ?_
  dsimp only [Zdg,LT.den]
  exact tR ⟨SzL.nil,(by first | rfl | assumption | (simpa using (by assumption:_=[]++a0)) | grind)⟩
theorem Zgw{a0:List Zs}(oa0:(SzL 560 Z8) a0):Tot (Zc5 a0) (fun r=>((SzL 560 Z8) r)/\(r=a0)):=by
 unfold Zc5
 split
 .refine tZ ?_
  have lb_a0:=oa0.1
  dsimp only [Zee,LT.den]
  have q3:=oa0.1
  refine tB (tA (by first | omega | (simp only [List.length_cons,List.length_nil];omega)) (by decide)) (fun x1 h2=>?_)
  have lh2:x1.length=([]:List Zs).length+a0.length:=by rw [h2,List.length_append]
  try simp only [List.length_cons,List.length_nil,Nat.zero_add] at lh2
  exact tR ⟨SzL.app (k:=560) h2 lo (fun _ h=>by cases h) oa0.2,(by first | rfl | assumption | (simpa using (by assumption:_=[]++a0)) | grind)⟩
 .refine tZ ?_
  dsimp only [Zcs,LT.den]
  exact tR ⟨SzL.nil,(by first | rfl | assumption | (simpa using (by assumption:_=[]++a0)) | grind)⟩
def Zaav(a0:Zg):Zie->Prop
 | .L0 E0 E1 v18 v19=>(Z3 E0)/\(Z3 E1)/\(0<=v19)/\(v18=(a0.Effects.length:Int))/\(v18=(E0.Effects.length:Int))/\(E0=a0)
def Zoj:Zie->M6
 | .L0 E0 E1 v18 v19=>(1,(v18 - v19).toNat,1000000,0,0,0)
theorem Zaaw{a0:Zg}(oa0:Z3 a0):Tot (Zno a0) (fun r=>(Z3 r)/\(r=a0)):=by
 unfold Zno
 refine tX (Inv:=(Zaav a0)) (μ:=Zoj) (m:=(1000000,0,0,0,0,0)) ?_ ?_
 .dsimp only [Zyr,LT.den]
  refine tB (Zbq oa0.2.1) (fun x1 h2=>?_)
  have eh2_1:=h2.2
  refine tB (Zh2 oa0.2.2.2.1) (fun x3 h4=>?_)
  have eh4_1:=h4.2
  refine tB (Zgw oa0.2.2.2.2.1) (fun x5 h6=>?_)
  have eh6_1:=h6.2
  exact tL ⟨⟨oa0.1,h2.1,oa0.2.2.1,h4.1,h6.1,oa0.2.2.2.2.2⟩,⟨SzS.nil,SzL.nil,SzS.nil,SzL.nil,SzL.nil,SzS.nil⟩,cl,(by first | assumption | grind),(by first | assumption | grind),(by first | with_reducible exact Zaw8 ‹_› ‹_› ‹_› ‹_› | (subst_vars;rfl))⟩ (by unfold Zoj lt6;dsimp only;omega)
 .intro s hs
  cases s with
  | L0 E0 E1 v18 v19=>
   obtain⟨O0,O1,cv19,i0,i1,i2⟩:=hs
   show Tot (Zoi E0 E1 v18 v19).den _
   dsimp only [Zoi,LT.den]
   have lq:=O0.2.2.2.2.1.1
   refine tD (fun h1=>?_) (fun h1=>?_)
   .refine tB (tI (by omega) (by omega)) (fun x2 h3=>?_)
    have oh3:Z8 x2:=O0.2.2.2.2.1.2 x2 h3.1
    have mh3:=h3.2
    refine tB (Zbq oh3.2.2.2.2) (fun x4 h5=>?_)
    have eh5_1:=h5.2
    refine tB (Tot.set (by omega) (by omega)) (fun x6 h7=>?_)
    have lh7:=h7.1
    have vh7:=h7.2.2
    refine qw (v19+1) fun q8 q9=>?_
    exact tL ⟨⟨O0.1,O0.2.1,O0.2.2.1,O0.2.2.2.1,⟨lo,fun e he=>(h7.2.1 e he).elim (fun w=>by rw [w];exact⟨oh3.1,oh3.2.1,oh3.2.2.1,oh3.2.2.2.1,h5.1⟩) (O0.2.2.2.2.1.2 e)⟩,O0.2.2.2.2.2⟩,O1,cl,(by first | assumption | grind),(by first | assumption | grind),(by first | with_reducible exact Zaw8 ‹_› ‹_› ‹_› ‹_› | (subst_vars;rfl))⟩ (by unfold Zoj lt6;dsimp only;omega)
   .exact tR ⟨O0,‹_›⟩
def Zakf(a0:Zn):Zmh->Prop
 | .L0 E0 E1 v32 v33 v34=>(Zv E0)/\(Zv E1)/\((SzL 640 Z3) v32)/\(0<=v34)/\(v33=(v32.length:Int))/\(E1.Abilities.length<=v34.toNat)/\(v34<=v33)/\(v32=a0.Abilities)/\(E1={ prV a0 with Abilities:=a0.Abilities.take v34.toNat })
def Zvu:Zmh->M6
 | .L0 E0 E1 v32 v33 v34=>(1,(v33 - v34).toNat,1000000,0,0,0)
theorem Zakg{a0:Zn}(oa0:Zad a0):Tot (Z21 a0) (fun r=>(Zv r)/\(r=prV a0)):=by
 unfold Z21
 refine tX (Inv:=(Zakf a0)) (μ:=Zvu) (m:=(1000000,0,0,0,0,0)) ?_ ?_
 .dsimp only [Z8k,LT.den]
  refine tB (Zaob) (fun x1 h2=>?_)
  have eh2_0:=h2
  refine tB (Zga oa0.2.1) (fun x3 h4=>?_)
  have eh4_1:=h4.2
  have q5:=oa0.2.2.1
  exact tL ⟨⟨SzS.nil,SzL.nil,SzL.nil⟩,⟨oa0.1,h4.1,SzL.nil⟩,oa0.2.2,cl,cl,cl,cl,(by first | rfl | assumption),(by first | with_reducible exact pr_0 ‹_› ‹_› | with_reducible exact Za0k ‹_› (by rw [<- (by assumption:v32=a0.Abilities)];assumption) (by omega) (by omega) ‹_› ‹_›)⟩ (by unfold Zvu lt6;dsimp only;omega)
 .intro s hs
  cases s with
  | L0 E0 E1 v32 v33 v34=>
   obtain⟨O0,O1,ov32,cv34,i0,i1,i2,i3,i4⟩:=hs
   have lb_v32:=ov32.1
   show Tot (Zup E0 E1 v32 v33 v34).den _
   dsimp only [Zup,LT.den]
   refine tD (fun h1=>?_) (fun h1=>?_)
   .refine tB (tI (by omega) (by omega)) (fun x2 h3=>?_)
    have oh3:Z3 x2:=ov32.2 x2 h3.1
    have mh3:=h3.2
    refine tB (Zaaw oh3) (fun x4 h5=>?_)
    have eh5_1:=h5.2
    have q8:=O1.2.2.1
    refine tB (tA (by simp only [List.length_cons,List.length_nil];omega) (by decide)) (fun x6 h7=>?_)
    have lh7:x6.length=E1.Abilities.length+1:=by rw [h7,List.length_append];rfl
    refine qw (v34+1) fun q9 q10=>?_
    exact tL ⟨O0,⟨O1.1,O1.2.1,SzL.app (k:=640) h7 lo O1.2.2.2 (me1 h5.1)⟩,ov32,cl,cl,cl,cl,(by first | rfl | assumption),(by first | with_reducible exact pr_0 ‹_› ‹_› | with_reducible exact Za0k ‹_› (by rw [<- (by assumption:v32=a0.Abilities)];assumption) (by omega) (by omega) ‹_› ‹_›)⟩ (by unfold Zvu lt6;dsimp only;omega)
   .exact tR ⟨O1,(by exact Za9u ‹_› (by first | omega | grind))⟩
def Zr7(a0:List Zn)(a1:Ze):Zth->Prop
 | .L0 v0 E0 E1 v5=>(v0=a0)/\(E0=a1)/\((SzL 176 Zad) v0)/\(Zv E1)/\(v5=if E0.Copy < 0 then E0.Card else E0.Copy)
 | .L1 E0 E1 E2=>(E0=a1)/\(Zv E1)/\(Zv E2)/\(E2=cdAt a0 (if E0.Copy < 0 then E0.Card else E0.Copy))
def Zaax:Zth->M6
 | .L0 v0 E0 E1 v5=>(0,0,0,0,0,0)
 | .L1 E0 E1 E2=>(0,0,0,0,0,0)
theorem Zqv{a0:List Zn}{a1:Ze}{E0:Ze}{E1:Zb}{E2:Zb}(h:(Zr7 a0 a1) (.L1 E0 E1 E2)):Tot (Zqh E0 E1 E2).den (Nx (Zr7 a0 a1) Zaax (0,0,0,0,0,0) (fun r=>(Zv r)/\(r=baV a0 a1))):=by
 obtain⟨al0,O1,O2,i0⟩:=h
 subst al0
 dsimp only [Zqh,LT.den]
 refine tE (fun h1=>?_) (fun h1=>?_)
 .exact tR ⟨⟨O2.1,O2.2.1,O2.2.2⟩,(by first | exact ba_c ‹_› rfl (by omega) | exact ba_o ‹_› rfl (by omega))⟩
 .refine tE (fun h2=>?_) (fun h2=>?_)
  .exact tR ⟨⟨O2.1,O2.2.1,O2.2.2⟩,(by first | exact ba_c ‹_› rfl (by omega) | exact ba_o ‹_› rfl (by omega))⟩
  .exact tR ⟨⟨O2.1,O2.2.1,O2.2.2⟩,(by first | exact ba_c ‹_› rfl (by omega) | exact ba_o ‹_› rfl (by omega))⟩
theorem Zw9{a0:List Zn}{a1:Ze}{v0:List Zn}{E0:Ze}{E1:Zb}{v5:Int}(h:(Zr7 a0 a1) (.L0 v0 E0 E1 v5)):Tot (Zuq v0 E0 E1 v5).den (Nx (Zr7 a0 a1) Zaax (0,0,0,0,0,0) (fun r=>(Zv r)/\(r=baV a0 a1))):=by
 obtain⟨al0,al1,ov0,O1,i0⟩:=h
 have lb_v0:=ov0.1
 subst al0
 subst al1
 dsimp only [Zuq,LT.den]
 refine tD (fun h1=>?_) (fun h1=>?_)
 .have q2:=ov0.1
  refine tD (fun h3=>?_) (fun h3=>?_)
  .refine tB (tI (by omega) (by omega)) (fun x4 h5=>?_)
   have oh5:Zad x4:=ov0.2 x4 h5.1
   have mh5:=h5.2
   refine tB (Zakg oh5) (fun x6 h7=>?_)
   have eh7_1:=h7.2
   exact tJ (Zqv ⟨rfl,O1,h7.1,(by rw [<- (by assumption:v5=if E0.Copy < 0 then E0.Card else E0.Copy)];first | exact (Z80 (by omega)).symm | (rw [Zafm ‹_› (by omega)];assumption))⟩)
  .exact tJ (Zqv ⟨rfl,O1,⟨SzS.nil,SzL.nil,SzL.nil⟩,(by rw [<- (by assumption:v5=if E0.Copy < 0 then E0.Card else E0.Copy)];first | exact (Z80 (by omega)).symm | (rw [Zafm ‹_› (by omega)];assumption))⟩)
 .exact tJ (Zqv ⟨rfl,O1,⟨SzS.nil,SzL.nil,SzL.nil⟩,(by rw [<- (by assumption:v5=if E0.Copy < 0 then E0.Card else E0.Copy)];first | exact (Z80 (by omega)).symm | (rw [Zafm ‹_› (by omega)];assumption))⟩)
theorem Zah4{a0:List Zn}{a1:Ze}(oa0:(SzL 176 Zad) a0):Tot (Zafk a0 a1) (fun r=>(Zv r)/\(r=baV a0 a1)):=by
 unfold Zafk
 refine tX (Inv:=(Zr7 a0 a1)) (μ:=Zaax) (m:=(1000000,0,0,0,0,0)) ?_ ?_
 .have lb_a0:=oa0.1
  dsimp only [Zard,LT.den]
  refine tD (fun h1=>?_) (fun h1=>?_)
  .exact tJ (Zw9 ⟨rfl,rfl,oa0,⟨SzS.nil,SzL.nil,SzL.nil⟩,(by grind)⟩)
  .exact tJ (Zw9 ⟨rfl,rfl,oa0,⟨SzS.nil,SzL.nil,SzL.nil⟩,(by grind)⟩)
 .intro s hs
  cases s with
  | L0 _ _ _ _=>exact Zw9 hs
  | L1 _ _ _=>exact Zqv hs
theorem Zy5{a0:List Int}(oa0:(SzL 8 (fun _=>True)) a0):Tot (Zfh a0) (fun r=>((SzL 8 (fun _=>True)) r)/\(r=a0)):=by
 unfold Zfh
 split
 .refine tZ ?_
  have lb_a0:=oa0.1
  dsimp only [Zjj,LT.den]
  have q3:=oa0.1
  refine tB (tA (by first | omega | (simp only [List.length_cons,List.length_nil];omega)) (by decide)) (fun x1 h2=>?_)
  have lh2:x1.length=([]:List Int).length+a0.length:=by rw [h2,List.length_append]
  try simp only [List.length_cons,List.length_nil,Nat.zero_add] at lh2
  exact tR ⟨SzL.tr,(by first | rfl | assumption | (simpa using (by assumption:_=[]++a0)) | grind)⟩
 .refine tZ ?_
  dsimp only [Zgc,LT.den]
  exact tR ⟨SzL.nil,(by first | rfl | assumption | (simpa using (by assumption:_=[]++a0)) | grind)⟩
def Zakh(a0:List Zn)(a1:Zl):Zhl->Prop
 | .L0 v0 E0 v5 v13 v14 v15=>(v0=a0)/\(E0=a1)/\((SzL 176 Zad) v0)/\(Z9 E0)/\((SzL 224 Zbn) v5)/\((SzL 128 (fun _=>True)) v13)/\(0<=v15)/\(E0.Objects.length<=2048)/\(E0.Conts.length<=64)/\(∀ c,c∈v0->c.Abilities.length<=8)/\(v5=obF fL v0 v13 v15)/\(v13=E0.Objects)/\(v14=(v13.length:Int))/\(v15<=v14)
 | .L1 v0 E0 v5 E1 v13 v14 v15 v25 v26 v27=>(v0=a0)/\(E0=a1)/\((SzL 176 Zad) v0)/\(Z9 E0)/\((SzL 224 Zbn) v5)/\((SzL 128 (fun _=>True)) v13)/\((SzL 640 Z3) v25)/\(0<=v27)/\(0<=v15)/\(v15 < v14)/\(E0.Objects.length<=2048)/\(E0.Conts.length<=64)/\(∀ c,c∈v0->c.Abilities.length<=8)/\(v5=obF fL v0 v13 v15++abF (fL E1) v25 v27)/\(E1.Zone=0)/\(v13[v15.toNat]?=some E1)/\(v25=(baV v0 E1).Abilities)/\(v13=E0.Objects)/\(v14=(v13.length:Int))/\(v15 < v14)/\(v26=(v25.length:Int))/\(v27<=v26)
 | .L2 v5 v54 v55 v56=>((SzL 224 Zbn) v5)/\((SzL 80 Zr3) v54)/\(0<=v56)/\(∀ c,c∈a0->c.Abilities.length<=8)/\(a1.Objects.length<=2048)/\(a1.Conts.length<=64)/\(v5=obF fL a0 a1.Objects a1.Objects.length++coF gL v54 v56)/\(v54=a1.Conts)/\(v55=(v54.length:Int))/\(v56<=v55)
def Zeu:Zhl->M6
 | .L0 v0 E0 v5 v13 v14 v15=>(3,(v14 - v15).toNat,1000000,0,0,0)
 | .L1 v0 E0 v5 E1 v13 v14 v15 v25 v26 v27=>(3,(v14 - v15).toNat,1,(v26 - v27).toNat,1000000,0)
 | .L2 v5 v54 v55 v56=>(1,(v55 - v56).toNat,1000000,0,0,0)
theorem Zaki{a0:List Zn}{a1:Zl}(oa0:(SzL 176 Zad) a0)(oa1:Z9 a1)(h0:a1.Objects.length<=2048)(h1:a1.Conts.length<=64)(h2:∀ c,c∈a0->c.Abilities.length<=8):Tot (Zuu a0 a1) (fun r=>((SzL 224 Zbn) r)/\(r=FS fL gL a0 a1)):=by
 unfold Zuu
 refine tX (Inv:=(Zakh a0 a1)) (μ:=Zeu) (m:=(1000000,0,0,0,0,0)) ?_ ?_
 .have lb_a0:=oa0.1
  dsimp only [Z8m,LT.den]
  have q1:=oa1.2.1.1
  exact tL ⟨rfl,rfl,oa0,oa1,SzL.nil,oa1.2.1,cl,cl,cl,(by first | assumption | grind),(by first | exact Za19 | exact Zaj1 ‹_› ‹_› (by omega) (by omega) (by omega) | exact Zaps ‹_› ‹_› ‹_› (by omega) (by omega) (by omega) (by omega)),(by first | rfl | assumption),cl,cl⟩ (by unfold Zeu lt6;dsimp only;omega)
 .intro s hs
  cases s with
  | L0 v0 E0 v5 v13 v14 v15=>
   obtain⟨al0,al1,ov0,O0,ov5,ov13,cv15,i0,i1,i2,i3,i4,i5,i6⟩:=hs
   have lb_v0:=ov0.1
   have lb_v5:=ov5.1
   have lb_v13:=ov13.1
   subst al0
   subst al1
   show Tot (Zur v0 E0 v5 v13 v14 v15).den _
   dsimp only [Zur,LT.den]
   have lq:v5.length<=8*2048:=by rw [(by assumption:v5=obF _ _ _ _)];have:=Zafn (f:=fL) (l:=v13) (v:=v15) (by assumption:∀ c,c∈v0->_);have:v13.length<=2048:=(by first | omega | (rw [(by assumption:v13=_)];omega));omega
   refine tD (fun h1=>?_) (fun h1=>?_)
   .refine tB (tI (by omega) (by omega)) (fun x2 h3=>?_)
    have mh3:=h3.2
    refine tN (fun h4=>?_) (fun h4=>?_)
    .refine qw (v15+1) fun q5 q6=>?_
     exact tL ⟨rfl,rfl,ov0,O0,ov5,ov13,cl,cl,cl,(by first | assumption | grind),(by first | exact Za19 | exact Zaj1 ‹_› ‹_› (by omega) (by omega) (by omega) | exact Zaps ‹_› ‹_› ‹_› (by omega) (by omega) (by omega) (by omega)),(by first | rfl | assumption),cl,cl⟩ (by unfold Zeu lt6;dsimp only;omega)
    .refine tB (Zah4 ov0) (fun x7 h8=>?_)
     have eh8_1:=h8.2
     have q9:=h8.1.2.2.1
     exact tL ⟨rfl,rfl,ov0,O0,ov5,ov13,h8.1.2.2,cl,cl,cl,cl,cl,(by first | assumption | grind),(by first | exact Za18 ‹_› | exact Z1n ‹_› ‹_› ‹_› (by omega) (by omega) (by omega) rfl | exact Z1n ‹_› ‹_› ‹_› (by omega) (by omega) (by omega) (by subst_vars;rfl) | exact Zajz ‹_› ‹_› (by omega) (by omega) (by omega)),cl,‹_›,(by first | assumption | grind),‹_›,cl,cl,cl,cl⟩ (by unfold Zeu lt6;dsimp only;omega)
   .have q10:=O0.2.2.2.2.2.2.1.1
    exact tL ⟨ov5,O0.2.2.2.2.2.2.1,cl,(by first | assumption | grind),cl,cl,(by first | exact Za7k (by grind) | exact Zaak ‹_› ‹_› ‹_› (by omega) (by omega) rfl | exact Zaak ‹_› ‹_› ‹_› (by omega) (by omega) (by subst_vars;rfl)),(by first | rfl | (subst_vars;rfl)),cl,cl⟩ (by unfold Zeu lt6;dsimp only;omega)
  | L1 v0 E0 v5 E1 v13 v14 v15 v25 v26 v27=>
   obtain⟨al0,al1,ov0,O0,ov5,ov13,ov25,cv27,cv15,bd9,i0,i1,i2,i3,i4,i5,i6,i7,i8,i9,i10,i11⟩:=hs
   have lb_v0:=ov0.1
   have lb_v5:=ov5.1
   have lb_v13:=ov13.1
   have lb_v25:=ov25.1
   subst al0
   subst al1
   show Tot (Zus v0 E0 v5 E1 v13 v14 v15 v25 v26 v27).den _
   dsimp only [Zus,LT.den]
   have lq:v5.length<=8*2048+8:=by rw [(by assumption:v5=obF _ _ _ _++_),List.length_append];have:=Zafn (f:=fL) (l:=v13) (v:=v15) (by assumption:∀ c,c∈v0->_);have:v13.length<=2048:=(by first | omega | (rw [(by assumption:v13=_)];omega));have:=Za0l (f:=fL E1) (l:=v25) (v:=v27);have:=Za0j (by assumption:∀ c,c∈v0->_) E1;rw [<- (by assumption:v25=(baV v0 E1).Abilities)] at this;omega
   refine tD (fun h1=>?_) (fun h1=>?_)
   .refine tB (tI (by omega) (by omega)) (fun x2 h3=>?_)
    have oh3:Z3 x2:=ov25.2 x2 h3.1
    have mh3:=h3.2
    refine tE (fun h4=>?_) (fun h4=>?_)
    .refine tB (Zbq oh3.2.1) (fun x5 h6=>?_)
     have eh6_1:=h6.2
     have q9:=ov5.1
     refine tB (tA (by simp only [List.length_cons,List.length_nil];omega) (by decide)) (fun x7 h8=>?_)
     have lh8:x7.length=v5.length+1:=by rw [h8,List.length_append];rfl
     refine qw (v27+1) fun q10 q11=>?_
     exact tL ⟨rfl,rfl,ov0,O0,SzL.app (k:=224) h8 lo ov5.2 (me1 ⟨SzL.nil,oh3.1,h6.1⟩),ov13,ov25,cl,cl,cl,cl,cl,(by first | assumption | grind),(by first | exact Za18 ‹_› | exact Z1n ‹_› ‹_› ‹_› (by omega) (by omega) (by omega) rfl | exact Z1n ‹_› ‹_› ‹_› (by omega) (by omega) (by omega) (by subst_vars;rfl) | exact Zajz ‹_› ‹_› (by omega) (by omega) (by omega)),cl,‹_›,(by first | assumption | grind),‹_›,cl,cl,cl,cl⟩ (by unfold Zeu lt6;dsimp only;omega)
    .refine qw (v27+1) fun q12 q13=>?_
     exact tL ⟨rfl,rfl,ov0,O0,ov5,ov13,ov25,cl,cl,cl,cl,cl,(by first | assumption | grind),(by first | exact Za18 ‹_› | exact Z1n ‹_› ‹_› ‹_› (by omega) (by omega) (by omega) rfl | exact Z1n ‹_› ‹_› ‹_› (by omega) (by omega) (by omega) (by subst_vars;rfl) | exact Zajz ‹_› ‹_› (by omega) (by omega) (by omega)),cl,‹_›,(by first | assumption | grind),‹_›,cl,cl,cl,cl⟩ (by unfold Zeu lt6;dsimp only;omega)
   .refine qw (v15+1) fun q14 q15=>?_
    exact tL ⟨rfl,rfl,ov0,O0,ov5,ov13,cl,cl,cl,(by first | assumption | grind),(by first | exact Za19 | exact Zaj1 ‹_› ‹_› (by omega) (by omega) (by omega) | exact Zaps ‹_› ‹_› ‹_› (by omega) (by omega) (by omega) (by omega)),(by first | rfl | assumption),cl,cl⟩ (by unfold Zeu lt6;dsimp only;omega)
  | L2 v5 v54 v55 v56=>
   obtain⟨ov5,ov54,cv56,i0,i1,i2,i3,i4,i5,i6⟩:=hs
   have lb_v5:=ov5.1
   have lb_v54:=ov54.1
   show Tot (Zut v5 v54 v55 v56).den _
   dsimp only [Zut,LT.den]
   have lq:v5.length<=8*2048+64:=by rw [(by assumption:v5=obF _ _ _ _++_),List.length_append];have:=Zafn (f:=fL) (l:=a1.Objects) (v:=a1.Objects.length) (by assumption:∀ c,c∈a0->_);have:(coF gL v54 v56).length<=64:=(by unfold coF;rw [List.length_map,List.length_take];have:v54.length<=64:=(by first | omega | (rw [(by assumption:v54=_)];omega));omega);omega
   refine tD (fun h1=>?_) (fun h1=>?_)
   .refine tB (tI (by omega) (by omega)) (fun x2 h3=>?_)
    have oh3:Zr3 x2:=ov54.2 x2 h3.1
    have mh3:=h3.2
    refine tB (Zy5 oh3.1) (fun x4 h5=>?_)
    have eh5_1:=h5.2
    refine tB (Zbq oh3.2) (fun x6 h7=>?_)
    have eh7_1:=h7.2
    have q10:=ov5.1
    refine tB (tA (by simp only [List.length_cons,List.length_nil];omega) (by decide)) (fun x8 h9=>?_)
    have lh9:x8.length=v5.length+1:=by rw [h9,List.length_append];rfl
    refine qw (v56+1) fun q11 q12=>?_
    exact tL ⟨SzL.app (k:=224) h9 lo ov5.2 (me1 ⟨h5.1,SzS.nil,h7.1⟩),ov54,cl,(by first | assumption | grind),cl,cl,(by first | exact Za7k (by grind) | exact Zaak ‹_› ‹_› ‹_› (by omega) (by omega) rfl | exact Zaak ‹_› ‹_› ‹_› (by omega) (by omega) (by subst_vars;rfl)),(by first | rfl | (subst_vars;rfl)),cl,cl⟩ (by unfold Zeu lt6;dsimp only;omega)
   .exact tR ⟨ov5,(by exact Za9v ‹_› (by first | rfl | assumption) (by omega))⟩
abbrev Zakj(a0:List Zn)(a1:Zl)(r:Zj):Prop:=(Zz r)/\(r.s=a1)/\(r.traits.length=r.s.Objects.length)/\(r.dropped.length=r.s.Objects.length)/\(r.done.length=r.forces.length)/\(r.hits.length=r.forces.length)/\(r.s.Objects.length<=2048)/\(r.forces.length<=16448)/\(HI r.s.Objects.length r.hits)
def Zaoc(a0:List Zn)(a1:Zl):Zn1->Prop
 | .L0 v0 E0 v19 v20 v21=>(v0=a0)/\((SzL 176 Zad) v0)/\(Zz E0)/\((SzL 128 (fun _=>True)) v19)/\(0<=v21)/\(∀ c,c∈v0->c.Abilities.length<=8)/\(E0.s=a1)/\(v20=(v19.length:Int))/\(v20=(E0.s.Objects.length:Int))/\(v20<=2048)/\(E0.forces.length<=16448)/\(E0.dropped.length=v20.toNat)/\(E0.traits.length=v21.toNat)/\(v21<=v20)
def Zxa:Zn1->M6
 | .L0 v0 E0 v19 v20 v21=>(1,(v20 - v21).toNat,1000000,0,0,0)
theorem Zaod{a0:List Zn}{a1:Zl}(oa0:(SzL 176 Zad) a0)(oa1:Z9 a1)(h0:a1.Objects.length<=2048)(h1:a1.Conts.length<=64)(h2:∀ c,c∈a0->c.Abilities.length<=8):Tot (Z6v a0 a1) (Zakj a0 a1):=by
 unfold Z6v
 refine tX (Inv:=(Zaoc a0 a1)) (μ:=Zxa) (m:=(1000000,0,0,0,0,0)) ?_ ?_
 .have lb_a0:=oa0.1
  dsimp only [Zabi,LT.den]
  refine tB (Zaki oa0 oa1 cl cl (by first | assumption | grind)) (fun x1 h2=>?_)
  have eh2_1:=h2.2
  have lh2:=Za9w (f:=fL) (g:=gL) (s:=a1) (by assumption:∀ c,c∈a0->_);rw [<- (by assumption:x1=FS _ _ _ _)] at lh2
  have q3:=oa1.2.1.1
  refine tB (Tot.mk) (fun x4 h5=>?_)
  have lh5:=h5.1
  exact tL ⟨rfl,oa0,⟨oa1,h2.1,SzL.nil,SzL.tr,SzL.nil,SzL.nil⟩,oa1.2.1,cl,(by first | assumption | grind),(by first | rfl | assumption),cl,cl,cl,cl,cl,cl,cl⟩ (by unfold Zxa lt6;dsimp only;omega)
 .intro s hs
  cases s with
  | L0 v0 E0 v19 v20 v21=>
   obtain⟨al0,ov0,O0,ov19,cv21,i0,i1,i2,i3,i4,i5,i6,i7,i8⟩:=hs
   have lb_v0:=ov0.1
   have lb_v19:=ov19.1
   subst al0
   show Tot (Zwt v0 E0 v19 v20 v21).den _
   dsimp only [Zwt,LT.den]
   refine tD (fun h1=>?_) (fun h1=>?_)
   .refine tB (tI (by omega) (by omega)) (fun x2 h3=>?_)
    have mh3:=h3.2
    refine tB (Zah4 ov0) (fun x4 h5=>?_)
    have eh5_1:=h5.2
    have q8:=O0.2.2.1.1
    refine tB (tA (by simp only [List.length_cons,List.length_nil];omega) (by decide)) (fun x6 h7=>?_)
    have lh7:x6.length=E0.traits.length+1:=by rw [h7,List.length_append];rfl
    refine qw (v21+1) fun q9 q10=>?_
    exact tL ⟨rfl,ov0,⟨O0.1,O0.2.1,SzL.app (k:=176) h7 lo O0.2.2.1.2 (me1 h5.1),O0.2.2.2.1,O0.2.2.2.2.1,O0.2.2.2.2.2⟩,ov19,cl,(by first | assumption | grind),(by first | rfl | assumption),cl,cl,cl,cl,cl,cl,cl⟩ (by unfold Zxa lt6;dsimp only;omega)
   .have q11:=O0.2.1.1
    refine tB (Tot.mk) (fun x12 h13=>?_)
    have lh13:=h13.1
    refine tB (Tot.mk) (fun x14 h15=>?_)
    have lh15:=h15.1
    exact tR ⟨⟨O0.1,O0.2.1,O0.2.2.1,O0.2.2.2.1,SzL.tr,⟨lo,fun e he=>by rw [h15.2 e he];exact SzL.nil⟩⟩,(by first | rfl | assumption),cl,cl,cl,cl,cl,cl,(by first | assumption | exact Zae | exact Zao (by assumption:(_:Int)=_/\∀ y:List Int,y∈_->y=[]).2)⟩
theorem Zeg{a0:Int}:Tot (Zyu a0) (fun r=>(r=clV a0)):=by
 unfold Zyu
 refine tZ ?_
 dsimp only [Z6w,LT.den]
 exact tR (by rfl)
theorem Zazn{a0:Int}{a1:Int}:Tot (Zape a0 a1) (fun r=>True):=by
 unfold Zape
 refine tZ ?_
 dsimp only [Zarf,LT.den]
 refine tB (Zeg) (fun x1 h2=>?_)
 have eh2_0:=h2
 refine tB (Zeg) (fun x3 h4=>?_)
 have eh4_0:=h4
 refine qw (x1 - x3) fun q5 q6=>?_
 refine tB (Zeg) (fun x7 h8=>?_)
 have eh8_0:=h8
 exact tR trivial
theorem Zaf2{a0:A3 Int}:Tot (Zzp a0) (fun r=>True):=by
 unfold Zzp
 refine tZ ?_
 dsimp only [Z48,LT.den]
 refine tB (tI (by omega) (by have e:(A3.list a0).length=3:=rfl;omega)) (fun x1 h2=>?_)
 refine tB (tI (by omega) (by have e:(A3.list a0).length=3:=rfl;omega)) (fun x3 h4=>?_)
 refine tB (Zazn) (fun x5 h6=>?_)
 exact tR trivial
theorem Zr8{a0:Int}{a1:Int}:Tot (Z8o a0 a1) (fun r=>True):=by
 unfold Z8o
 refine tZ ?_
 dsimp only [Zadz,LT.den]
 refine tB (Zeg) (fun x1 h2=>?_)
 have eh2_0:=h2
 refine tB (Zeg) (fun x3 h4=>?_)
 have eh4_0:=h4
 refine qw (x1+x3) fun q5 q6=>?_
 refine tB (Zeg) (fun x7 h8=>?_)
 have eh8_0:=h8
 exact tR trivial
def Zsp:Zlq->Prop
 | .L0 v0 v3 v6=>True
 | .L1 v0 v3 v11=>True
 | .L2 v0 v3 v14=>True
def Zvv:Zlq->M6
 | .L0 v0 v3 v6=>(0,0,0,0,0,0)
 | .L1 v0 v3 v11=>(0,0,0,0,0,0)
 | .L2 v0 v3 v14=>(0,0,0,0,0,0)
theorem Zns{v0:Int}{v3:Int}{v14:Bool}(h:True):Tot (Zmi v0 v3 v14).den (Nx Zsp Zvv (0,0,0,0,0,0) (fun r=>True)):=by
 dsimp only [Zmi,LT.den]
 refine tF (fun h1=>?_) (fun h1=>?_)
 .exact tR trivial
 .refine tE (fun h2=>?_) (fun h2=>?_)
  .refine qw (5+v0) fun q3 q4=>?_
   refine qw ((IntKind.wrap .i64 (5+v0)) - 11) fun q5 q6=>?_
   exact tR trivial
  .refine tE (fun h7=>?_) (fun h7=>?_)
   .refine qw (5+v0) fun q8 q9=>?_
    refine qw ((IntKind.wrap .i64 (5+v0)) - 11) fun q10 q11=>?_
    exact tR trivial
   .refine tE (fun h12=>?_) (fun h12=>?_)
    .refine qw (5+v0) fun q13 q14=>?_
     refine qw ((IntKind.wrap .i64 (5+v0)) - 11) fun q15 q16=>?_
     exact tR trivial
    .refine tE (fun h17=>?_) (fun h17=>?_)
     .refine qw (5+v0) fun q18 q19=>?_
      refine qw ((IntKind.wrap .i64 (5+v0)) - 11) fun q20 q21=>?_
      exact tR trivial
     .exact tR trivial
theorem Zs6{v0:Int}{v3:Int}{v11:Bool}(h:True):Tot (Zpl v0 v3 v11).den (Nx Zsp Zvv (0,0,0,0,0,0) (fun r=>True)):=by
 dsimp only [Zpl,LT.den]
 refine tF (fun h1=>?_) (fun h1=>?_)
 .exact tR trivial
 .refine tE (fun h2=>?_) (fun h2=>?_)
  .exact tJ (Zns trivial)
  .refine tE (fun h3=>?_) (fun h3=>?_)
   .exact tJ (Zns trivial)
   .exact tJ (Zns trivial)
theorem Zkd{v0:Int}{v3:Int}{v6:Bool}(h:True):Tot (Zj9 v0 v3 v6).den (Nx Zsp Zvv (0,0,0,0,0,0) (fun r=>True)):=by
 dsimp only [Zj9,LT.den]
 refine tF (fun h1=>?_) (fun h1=>?_)
 .exact tR trivial
 .refine tE (fun h2=>?_) (fun h2=>?_)
  .exact tJ (Zs6 trivial)
  .exact tJ (Zs6 trivial)
theorem Zsq{a0:Int}:Tot (Zad0 a0) (fun r=>True):=by
 unfold Zad0
 refine tX (Inv:=Zsp) (μ:=Zvv) (m:=(1000000,0,0,0,0,0)) ?_ ?_
 .dsimp only [Zahk,LT.den]
  refine tE (fun h1=>?_) (fun h1=>?_)
  .exact tR trivial
  .refine tE (fun h2=>?_) (fun h2=>?_)
   .exact tJ (Zkd trivial)
   .refine tE (fun h3=>?_) (fun h3=>?_)
    .exact tJ (Zkd trivial)
    .refine tE (fun h4=>?_) (fun h4=>?_)
     .exact tJ (Zkd trivial)
     .exact tJ (Zkd trivial)
 .intro s hs
  cases s with
  | L0 _ _ _=>exact Zkd hs
  | L1 _ _ _=>exact Zs6 hs
  | L2 _ _ _=>exact Zns hs
theorem Z33{a0:Zi}{b0:Int}(oa0:Zu a0):Tot (Znp a0 b0) (fun r=>True):=by
 unfold Znp
 refine tZ ?_
 dsimp only [Zrv,LT.den]
 refine tB (Zsq) (fun x1 h2=>?_)
 exact tR trivial
def Zhw(a0:List Zi)(b0:Int):Zaz->Prop
 | .L0 v0 c0 v7 v8=>(v0=a0)/\(c0=b0)/\((SzL 176 Zu) v0)/\(0<=v8)/\(v7=(v0.length:Int))
def Zb6:Zaz->M6
 | .L0 v0 c0 v7 v8=>(1,(v7 - v8).toNat,1000000,0,0,0)
theorem Zhx{a0:List Zi}{b0:Int}(oa0:(SzL 176 Zu) a0):Tot (Zci a0 b0) (fun r=>True):=by
 unfold Zci
 refine tX (Inv:=(Zhw a0 b0)) (μ:=Zb6) (m:=(1000000,0,0,0,0,0)) ?_ ?_
 .have lb_a0:=oa0.1
  dsimp only [Zd2,LT.den]
  have q1:=oa0.1
  exact tL ⟨rfl,rfl,oa0,cl,cl⟩ (by unfold Zb6 lt6;dsimp only;omega)
 .intro s hs
  cases s with
  | L0 v0 c0 v7 v8=>
   obtain⟨al0,al1,ov0,cv8,i0⟩:=hs
   have lb_v0:=ov0.1
   subst al0
   subst al1
   show Tot (Zb3 v0 c0 v7 v8).den _
   dsimp only [Zb3,LT.den]
   refine tD (fun h1=>?_) (fun h1=>?_)
   .refine tB (tI (by omega) (by omega)) (fun x2 h3=>?_)
    have oh3:Zu x2:=ov0.2 x2 h3.1
    refine tB (Z33 oh3) (fun x4 h5=>?_)
    refine tF (fun h6=>?_) (fun h6=>?_)
    .exact tR trivial
    .refine qw (v8+1) fun q7 q8=>?_
     exact tL ⟨rfl,rfl,ov0,cl,cl⟩ (by unfold Zb6 lt6;dsimp only;omega)
   .exact tR trivial
theorem Zhe{a0:List Zi}{b0:Int}(oa0:(SzL 176 Zu) a0):Tot (Zb4 a0 b0) (fun r=>True):=by
 unfold Zb4
 refine tZ ?_
 have lb_a0:=oa0.1
 dsimp only [Zdv,LT.den]
 refine tB (Zhx oa0) (fun x1 h2=>?_)
 exact tR trivial
theorem Zaf3{a0:Zal}{a1:Int}(oa0:Zbn a0):Tot (Zzq a0 a1) (fun r=>True):=by
 unfold Zzq
 refine tZ ?_
 dsimp only [Z5a,LT.den]
 refine tB (Zhe oa0.2.2) (fun x1 h2=>?_)
 exact tR trivial
def Zwb:Zjf->Prop
 | .L0 v1 E0 v5=>(Z7 E0)/\True
def Zy6:Zjf->M6
 | .L0 v1 E0 v5=>(0,0,0,0,0,0)
theorem Zlu{v1:Int}{E0:Zc}{v5:Bool}(h:(Z7 E0)/\True):Tot (Zif v1 E0 v5).den (Nx Zwb Zy6 (0,0,0,0,0,0) (fun r=>True)):=by
 obtain⟨O0,_⟩:=h
 dsimp only [Zif,LT.den]
 refine tE (fun h1=>?_) (fun h1=>?_)
 .exact tR trivial
 .refine tE (fun h2=>?_) (fun h2=>?_)
  .refine tN (fun h3=>?_) (fun h3=>?_)
   .exact tR trivial
   .refine tO (fun h4=>?_) (fun h4=>?_)
    .exact tR trivial
    .exact tR trivial
  .refine tE (fun h5=>?_) (fun h5=>?_)
   .exact tR trivial
   .refine tE (fun h6=>?_) (fun h6=>?_)
    .exact tR trivial
    .exact tR trivial
theorem Zwc{a0:Zc}{a1:Int}(oa0:Z7 a0):Tot (Zux a0 a1) (fun r=>True):=by
 unfold Zux
 refine tX (Inv:=Zwb) (μ:=Zy6) (m:=(1000000,0,0,0,0,0)) ?_ ?_
 .dsimp only [Z0w,LT.den]
  refine tN (fun h1=>?_) (fun h1=>?_)
  .exact tJ (Zlu ⟨oa0,trivial⟩)
  .exact tJ (Zlu ⟨oa0,trivial⟩)
 .intro s hs
  cases s with
  | L0 _ _ _=>exact Zlu hs
theorem Zy7{a0:Int}:Tot (Zwu a0) (fun r=>(r=false)):=by
 unfold Zwu
 refine tZ ?_
 dsimp only [Z23,LT.den]
 exact tR (by simp)
theorem Zaay{a0:Int}{a1:Int}:Tot (Zs0 a0 a1) (fun r=>((r = -1/\a0 < a1)\/(r=1/\a1 < a0)\/(r=0/\a0=a1))):=by
 unfold Zs0
 refine tZ ?_
 dsimp only [Zyw,LT.den]
 refine tB (Zy7) (fun x1 h2=>?_)
 have eh2_0:=h2
 refine tB (Zy7) (fun x3 h4=>?_)
 have eh4_0:=h4
 refine tF (fun h5=>?_) (fun h5=>?_)
 .refine tF (fun h6=>?_) (fun h6=>?_)
  .exact tR (by first | omega | grind)
  .exact tR (by first | omega | grind)
 .refine tF (fun h7=>?_) (fun h7=>?_)
  .exact tR (by first | omega | grind)
  .refine tD (fun h8=>?_) (fun h8=>?_)
   .exact tR (by first | omega | grind)
   .refine tD (fun h9=>?_) (fun h9=>?_)
    .exact tR (by first | omega | grind)
    .exact tR (by first | omega | grind)
theorem Z05{a0:Ze}{a1:Int}:Tot (Zzr a0 a1) (fun r=>((r = -1/\a0.Id < a1)\/(r=1/\a1 < a0.Id)\/(r=0/\a0.Id=a1))):=by
 unfold Zzr
 refine tZ ?_
 dsimp only [Z5c,LT.den]
 refine tB (Zaay) (fun x1 h2=>?_)
 have eh2_0:=h2
 exact tR ‹_›
abbrev Ze4(a0:List Ze)(a1:Int)(r:Int×Bool):Prop:=(BSP a0 a1 r)/\(0<=r.1)/\(r.1<=(a0.length:Int))/\(r.2=true->r.1 < (a0.length:Int))
def Ze7(a0:List Ze)(a1:Int):Zag->Prop
 | .L0 v0 v1 v8 v9 v10=>(v0=a0)/\(v1=a1)/\((SzL 128 (fun _=>True)) v0)/\(0<=v9)/\(v8=(v0.length:Int))/\(v9<=v10)/\(v10<=v8)/\(BSI v0 v1 v9 v10)
def Zav:Zag->M6
 | .L0 v0 v1 v8 v9 v10=>(1,(v10 - v9).toNat,1000000,0,0,0)
theorem Ze8{a0:List Ze}{a1:Int}(oa0:(SzL 128 (fun _=>True)) a0):Tot (Zbi a0 a1) (Ze4 a0 a1):=by
 unfold Zbi
 refine tX (Inv:=(Ze7 a0 a1)) (μ:=Zav) (m:=(1000000,0,0,0,0,0)) ?_ ?_
 .have lb_a0:=oa0.1
  dsimp only [Zcm,LT.den]
  have q1:=oa0.1
  exact tL ⟨rfl,rfl,oa0,cl,cl,cl,cl,(by first | exact Za2c (by omega) | exact Zaxc ‹_› ‹_› (by omega) (by omega) (by omega) | exact Zaxd ‹_› ‹_› (by omega) (by omega) (by omega) | assumption)⟩ (by unfold Zav lt6;dsimp only;omega)
 .intro s hs
  cases s with
  | L0 v0 v1 v8 v9 v10=>
   obtain⟨al0,al1,ov0,cv9,i0,i1,i2,i3⟩:=hs
   have lb_v0:=ov0.1
   subst al0
   subst al1
   show Tot (Zbd v0 v1 v8 v9 v10).den _
   dsimp only [Zbd,LT.den]
   have lm:=Za9x (i:=v9) (j:=v10) (n:=v8) (by omega) (by omega) (by omega) (by omega)
   refine tD (fun h1=>?_) (fun h1=>?_)
   .refine qw (v9+v10) fun q2 q3=>?_
    have q4:0<=IntKind.wrap .u64 (IntKind.wrap .i64 (v9+v10))/\IntKind.wrap .u64 (IntKind.wrap .i64 (v9+v10)) < 18446744073709551616:=Zafj _
    refine qw (shrI .u64 (IntKind.wrap .u64 (IntKind.wrap .i64 (v9+v10))) 1) fun q5 q6=>?_
    refine tB (tI (by omega) (by omega)) (fun x7 h8=>?_)
    have mh8:=h8.2
    refine tB (Z05) (fun x9 h10=>?_)
    have eh10_0:=h10
    refine tD (fun h11=>?_) (fun h11=>?_)
    .refine qw ((IntKind.wrap .i64 (shrI .u64 (IntKind.wrap .u64 (IntKind.wrap .i64 (v9+v10))) 1))+1) fun q12 q13=>?_
     exact tL ⟨rfl,rfl,ov0,cl,cl,cl,cl,(by first | exact Za2c (by omega) | exact Zaxc ‹_› ‹_› (by omega) (by omega) (by omega) | exact Zaxd ‹_› ‹_› (by omega) (by omega) (by omega) | assumption)⟩ (by unfold Zav lt6;dsimp only;omega)
    .exact tL ⟨rfl,rfl,ov0,cl,cl,cl,cl,(by first | exact Za2c (by omega) | exact Zaxc ‹_› ‹_› (by omega) (by omega) (by omega) | exact Zaxd ‹_› ‹_› (by omega) (by omega) (by omega) | assumption)⟩ (by unfold Zav lt6;dsimp only;omega)
   .refine tD (fun h14=>?_) (fun h14=>?_)
    .refine tB (tI (by omega) (by omega)) (fun x15 h16=>?_)
     have mh16:=h16.2
     refine tB (Z05) (fun x17 h18=>?_)
     have eh18_0:=h18
     exact tR ⟨(by first | exact Za4y ‹_› (by omega) ‹_› (by omega) ‹_› | exact Za7l ‹_› (by omega)),cl,cl,(by first | (intro hr;exact absurd hr Bool.false_ne_true) | (intro _;omega))⟩
    .exact tR ⟨(by first | exact Za4y ‹_› (by omega) ‹_› (by omega) ‹_› | exact Za7l ‹_› (by omega)),cl,cl,(by first | (intro hr;exact absurd hr Bool.false_ne_true) | (intro _;omega))⟩
theorem Zvw{a0:Zl}{a1:Int}(oa0:Z9 a0):Tot (Z6x a0 a1) (fun r=>(Zq9 a0.Objects->r=ixO a0.Objects a1)/\(-1<=r)/\(r < (a0.Objects.length:Int))):=by
 unfold Z6x
 refine tZ ?_
 dsimp only [Zabk,LT.den]
 refine tB (Ze8 oa0.2.1) (fun x1 h2=>?_)
 have eh2_0:=h2.1
 have eh2_1:=h2.2.1
 have eh2_2:=h2.2.2.1
 have eh2_3:=h2.2.2.2
 refine tO (fun h3=>?_) (fun h3=>?_)
 .exact tR ⟨(by first | exact li_n ‹_› ‹_› | exact li_y ‹_› ‹_›),cl,(by first | omega | grind)⟩
 .exact tR ⟨(by first | exact li_n ‹_› ‹_› | exact li_y ‹_› ‹_›),cl,(by first | omega | grind)⟩
def Zy8(a0:List Int)(a1:Int):Zep->Prop
 | .L0 v0 v1 v7 v8=>(v0=a0)/\(v1=a1)/\((SzL 8 (fun _=>True)) v0)/\(0<=v8)/\(v7=(v0.length:Int))
def Zjc:Zep->M6
 | .L0 v0 v1 v7 v8=>(1,(v7 - v8).toNat,1000000,0,0,0)
theorem Zil{a0:List Int}{a1:Int}(oa0:(SzL 8 (fun _=>True)) a0):Tot (Zkt a0 a1) (fun r=>(-1<=r)/\(r < (a0.length:Int))):=by
 unfold Zkt
 refine tX (Inv:=(Zy8 a0 a1)) (μ:=Zjc) (m:=(1000000,0,0,0,0,0)) ?_ ?_
 .have lb_a0:=oa0.1
  dsimp only [Zon,LT.den]
  have q1:=oa0.1
  exact tL ⟨rfl,rfl,oa0,cl,cl⟩ (by unfold Zjc lt6;dsimp only;omega)
 .intro s hs
  cases s with
  | L0 v0 v1 v7 v8=>
   obtain⟨al0,al1,ov0,cv8,i0⟩:=hs
   have lb_v0:=ov0.1
   subst al0
   subst al1
   show Tot (Zi1 v0 v1 v7 v8).den _
   dsimp only [Zi1,LT.den]
   refine tD (fun h1=>?_) (fun h1=>?_)
   .refine tB (tI (by omega) (by omega)) (fun x2 h3=>?_)
    refine tE (fun h4=>?_) (fun h4=>?_)
    .exact tR ⟨cl,cl⟩
    .refine qw (v8+1) fun q5 q6=>?_
     exact tL ⟨rfl,rfl,ov0,cl,cl⟩ (by unfold Zjc lt6;dsimp only;omega)
   .exact tR ⟨cl,cl⟩
theorem Zlj{a0:List Int}{a1:Int}(oa0:(SzL 8 (fun _=>True)) a0):Tot (Zi3 a0 a1) (fun r=>True):=by
 unfold Zi3
 refine tZ ?_
 have lb_a0:=oa0.1
 dsimp only [Zmj,LT.den]
 refine tB (Zil oa0) (fun x1 h2=>?_)
 have eh2_0:=h2.1
 have eh2_1:=h2.2
 exact tR trivial
theorem Zaaz(a0 a1:List UInt8)(h:a0.length < 4294967281):Tot (strings_Contains a0 a1) (fun _=>True):=by
 unfold strings_Contains
 first | exact⟨_,if_pos h,trivial⟩ | (rw [if_pos h];exact⟨_,rfl,trivial⟩) | exact⟨_,rfl,trivial⟩
def Zazo:Zti->Prop
 | .L0 v36 v37 v38=>((SzL 1 (fun _=>True)) v36)/\(0<=v38)/\(v37=(v36.length:Int))
def Zjr:Zti->M6
 | .L0 v36 v37 v38=>(1,(v37 - v38).toNat,1000000,0,0,0)
theorem Zazp{a0:List UInt8}(oa0:SzT a0):Tot (Z8p a0) (fun r=>True):=by
 unfold Z8p
 refine tX (Inv:=Zazo) (μ:=Zjr) (m:=(1000000,0,0,0,0,0)) ?_ ?_
 .have lb_a0:a0.length<=562949953421312:=oa0
  dsimp only [Zad1,LT.den]
  have q1:a0.length<=562949953421312:=oa0
  refine tE (fun h2=>?_) (fun h2=>?_)
  .exact tR trivial
  .refine tD (fun h3=>?_) (fun h3=>?_)
   .exact tR trivial
   .refine tB (tI (by omega) (by omega)) (fun x4 h5=>?_)
    refine tD (fun h6=>?_) (fun h6=>?_)
    .exact tR trivial
    .refine tB (tI (by omega) (by omega)) (fun x7 h8=>?_)
     refine tD (fun h9=>?_) (fun h9=>?_)
     .exact tR trivial
     .refine qw ((a0.length:Int) - 1) fun q10 q11=>?_
      refine tB (tI (by omega) (by omega)) (fun x12 h13=>?_)
      refine tE (fun h14=>?_) (fun h14=>?_)
      .exact tR trivial
      .refine tB (Zaaz a0 ([45,45]:List UInt8) cl) (fun x15 h16=>?_)
       refine tF (fun h17=>?_) (fun h17=>?_)
       .exact tR trivial
       .refine tB (Tot.bytes (by first | omega | (have:=oa0;unfold SzT at this;omega))) (fun x18 h19=>?_)
        have lh19:=h19
        have q20:x18.length*1<=140737488351232:=(show SzL 1 (fun _=>True) x18 from SzL.tr).1
        exact tL ⟨SzL.tr,cl,cl⟩ (by unfold Zjr lt6;dsimp only;omega)
 .intro s hs
  cases s with
  | L0 v36 v37 v38=>
   obtain⟨ov36,cv38,i0⟩:=hs
   have lb_v36:=ov36.1
   show Tot (Znq v36 v37 v38).den _
   dsimp only [Znq,LT.den]
   refine tD (fun h1=>?_) (fun h1=>?_)
   .refine tB (tI (by omega) (by omega)) (fun x2 h3=>?_)
    refine tD (fun h4=>?_) (fun h4=>?_)
    .refine tD (fun h5=>?_) (fun h5=>?_)
     .refine tN (fun h6=>?_) (fun h6=>?_)
      .exact tR trivial
      .refine qw (v38+1) fun q7 q8=>?_
       exact tL ⟨ov36,cl,cl⟩ (by unfold Zjr lt6;dsimp only;omega)
     .refine tD (fun h9=>?_) (fun h9=>?_)
      .refine tN (fun h10=>?_) (fun h10=>?_)
       .exact tR trivial
       .refine qw (v38+1) fun q11 q12=>?_
        exact tL ⟨ov36,cl,cl⟩ (by unfold Zjr lt6;dsimp only;omega)
      .refine qw (v38+1) fun q13 q14=>?_
       exact tL ⟨ov36,cl,cl⟩ (by unfold Zjr lt6;dsimp only;omega)
    .refine tD (fun h15=>?_) (fun h15=>?_)
     .refine tD (fun h16=>?_) (fun h16=>?_)
      .refine tN (fun h17=>?_) (fun h17=>?_)
       .exact tR trivial
       .refine qw (v38+1) fun q18 q19=>?_
        exact tL ⟨ov36,cl,cl⟩ (by unfold Zjr lt6;dsimp only;omega)
      .refine tD (fun h20=>?_) (fun h20=>?_)
       .refine tN (fun h21=>?_) (fun h21=>?_)
        .exact tR trivial
        .refine qw (v38+1) fun q22 q23=>?_
         exact tL ⟨ov36,cl,cl⟩ (by unfold Zjr lt6;dsimp only;omega)
       .refine qw (v38+1) fun q24 q25=>?_
        exact tL ⟨ov36,cl,cl⟩ (by unfold Zjr lt6;dsimp only;omega)
     .refine qw (v38+1) fun q26 q27=>?_
      exact tL ⟨ov36,cl,cl⟩ (by unfold Zjr lt6;dsimp only;omega)
   .exact tR trivial
theorem Zaey(a0:Int)(h0:0<=a0)(h1:a0 < 2):Tot (Zqi a0) (fun r=>(SzT r)):=by
 obtain h | h:a0=0\/a0=1:=by omega
 all_goals subst h
 .exact⟨[98,97,115,105,99],by kernel_rfl,by unfold SzT;decide⟩
 .exact⟨[117,110,105,113,117,101],by kernel_rfl,by unfold SzT;decide⟩
theorem Zaf4(a0:Int)(h0:0<=a0)(h1:a0 < 6):Tot (Zsi a0) (fun r=>(SzT r)):=by
 obtain h | h | h | h | h | h:a0=0\/a0=1\/a0=2\/a0=3\/a0=4\/a0=5:=by omega
 all_goals subst h
 .exact⟨[99,114,101,97,116,117,114,101],by kernel_rfl,by unfold SzT;decide⟩
 .exact⟨[105,110,115,116,97,110,116],by kernel_rfl,by unfold SzT;decide⟩
 .exact⟨[114,105,116,117,97,108],by kernel_rfl,by unfold SzT;decide⟩
 .exact⟨[114,101,108,105,99],by kernel_rfl,by unfold SzT;decide⟩
 .exact⟨[99,104,97,114,109],by kernel_rfl,by unfold SzT;decide⟩
 .exact⟨[108,97,110,100],by kernel_rfl,by unfold SzT;decide⟩
def Zxb:Zef->Prop
 | .L0 v0 v8 v9=>(SzT v0)/\(0<=v9)/\(v8<=2)
def Zim:Zef->M6
 | .L0 v0 v8 v9=>(1,(v8 - v9).toNat,1000000,0,0,0)
theorem Zxc{a0:List UInt8}{a1:Int}(oa0:SzT a0)(h0:a1<=2):Tot (Ze0 a0 a1) (fun r=>True):=by
 unfold Ze0
 refine tX (Inv:=Zxb) (μ:=Zim) (m:=(1000000,0,0,0,0,0)) ?_ ?_
 .have lb_a0:a0.length<=562949953421312:=oa0
  dsimp only [Zi4,LT.den]
  exact tL ⟨oa0,cl,cl⟩ (by unfold Zim lt6;dsimp only;omega)
 .intro s hs
  cases s with
  | L0 v0 v8 v9=>
   obtain⟨ov0,cv9,i0⟩:=hs
   have lb_v0:v0.length<=562949953421312:=ov0
   show Tot (Zcz v0 v8 v9).den _
   dsimp only [Zcz,LT.den]
   refine tD (fun h1=>?_) (fun h1=>?_)
   .refine tB (Zaey v9 cl cl) (fun x2 h3=>?_)
    refine tO (fun h4=>?_) (fun h4=>?_)
    .refine qw (v9+1) fun q5 q6=>?_
     exact tL ⟨ov0,cl,cl⟩ (by unfold Zim lt6;dsimp only;omega)
    .refine tB (tK (by first | omega | exact shl_ne' (by omega) (by omega) | decide)) (fun x7 h8=>?_)
     exact tR trivial
   .exact tR trivial
def Zy9:Zeq->Prop
 | .L0 v0 v8 v9=>(SzT v0)/\(0<=v9)/\(v8<=6)
def Zjd:Zeq->M6
 | .L0 v0 v8 v9=>(1,(v8 - v9).toNat,1000000,0,0,0)
theorem Zza{a0:List UInt8}{a1:Int}(oa0:SzT a0)(h0:a1<=6):Tot (Zfi a0 a1) (fun r=>True):=by
 unfold Zfi
 refine tX (Inv:=Zy9) (μ:=Zjd) (m:=(1000000,0,0,0,0,0)) ?_ ?_
 .have lb_a0:a0.length<=562949953421312:=oa0
  dsimp only [Zjk,LT.den]
  exact tL ⟨oa0,cl,cl⟩ (by unfold Zjd lt6;dsimp only;omega)
 .intro s hs
  cases s with
  | L0 v0 v8 v9=>
   obtain⟨ov0,cv9,i0⟩:=hs
   have lb_v0:v0.length<=562949953421312:=ov0
   show Tot (Zdc v0 v8 v9).den _
   dsimp only [Zdc,LT.den]
   refine tD (fun h1=>?_) (fun h1=>?_)
   .refine tB (Zaf4 v9 cl cl) (fun x2 h3=>?_)
    refine tO (fun h4=>?_) (fun h4=>?_)
    .refine qw (v9+1) fun q5 q6=>?_
     exact tL ⟨ov0,cl,cl⟩ (by unfold Zjd lt6;dsimp only;omega)
    .refine tB (tK (by first | omega | exact shl_ne' (by omega) (by omega) | decide)) (fun x7 h8=>?_)
     exact tR trivial
   .exact tR trivial
theorem Z88{a0:List UInt8}(oa0:SzT a0):Tot (Zuz a0) (fun r=>True):=by
 unfold Zuz
 refine tZ ?_
 have lb_a0:a0.length<=562949953421312:=oa0
 dsimp only [Z29,LT.den]
 refine tB (Zazp oa0) (fun x1 h2=>?_)
 refine tF (fun h3=>?_) (fun h3=>?_)
 .refine tB (Zxc oa0 cl) (fun x4 h5=>?_)
  refine tE (fun h6=>?_) (fun h6=>?_)
  .refine tB (Zza oa0 cl) (fun x7 h8=>?_)
   exact tR trivial
  .exact tR trivial
 .exact tR trivial
theorem Zab1(a0:Zc)(oa0:Z7 a0):Tot (Z5f a0) (fun r=>r=filV a0):=⟨_,Zaek a0,rfl⟩
theorem Zzb{a0:Int}{a1:Int}{a2:Int}:Tot (Zml a0 a1 a2) (fun r=>True):=by
 unfold Zml
 refine tZ ?_
 dsimp only [Zs2,LT.den]
 refine tE (fun h1=>?_) (fun h1=>?_)
 .exact tR trivial
 .refine tN (fun h2=>?_) (fun h2=>?_)
  .exact tR trivial
  .exact tR trivial
theorem Zab2{a0:Za}{a1:Int}:Tot (Zy0 a0 a1) (fun r=>True):=by
 unfold Zy0
 refine tZ ?_
 dsimp only [Z6y,LT.den]
 refine tE (fun h1=>?_) (fun h1=>?_)
 .exact tR trivial
 .refine tE (fun h2=>?_) (fun h2=>?_)
  .exact tR trivial
  .refine tE (fun h3=>?_) (fun h3=>?_)
   .exact tR trivial
   .refine tE (fun h4=>?_) (fun h4=>?_)
    .exact tR trivial
    .exact tR trivial
def Zr9:Zbp->Prop
 | .L0 v0 v1 v7 v8=>((SzL 16 SzT) v0)/\(SzT v1)/\(0<=v8)/\(v7=(v0.length:Int))
def Zgg:Zbp->M6
 | .L0 v0 v1 v7 v8=>(1,(v7 - v8).toNat,1000000,0,0,0)
theorem Zsa{a0:List (List UInt8)}{a1:List UInt8}(oa0:(SzL 16 SzT) a0)(oa1:SzT a1):Tot (Zey a0 a1) (fun r=>True):=by
 unfold Zey
 refine tX (Inv:=Zr9) (μ:=Zgg) (m:=(1000000,0,0,0,0,0)) ?_ ?_
 .have lb_a0:=oa0.1
  have lb_a1:a1.length<=562949953421312:=oa1
  dsimp only [Zgp,LT.den]
  have q1:=oa0.1
  exact tL ⟨oa0,oa1,cl,cl⟩ (by unfold Zgg lt6;dsimp only;omega)
 .intro s hs
  cases s with
  | L0 v0 v1 v7 v8=>
   obtain⟨ov0,ov1,cv8,i0⟩:=hs
   have lb_v0:=ov0.1
   have lb_v1:v1.length<=562949953421312:=ov1
   show Tot (Zbl v0 v1 v7 v8).den _
   dsimp only [Zbl,LT.den]
   refine tD (fun h1=>?_) (fun h1=>?_)
   .refine tB (tI (by omega) (by omega)) (fun x2 h3=>?_)
    have oh3:SzT x2:=ov0.2 x2 h3.1
    refine tF (fun h4=>?_) (fun h4=>?_)
    .exact tR trivial
    .refine qw (v8+1) fun q5 q6=>?_
     exact tL ⟨ov0,ov1,cl,cl⟩ (by unfold Zgg lt6;dsimp only;omega)
   .exact tR trivial
theorem Zp5{a0:List (List UInt8)}{a1:List UInt8}(oa0:(SzL 16 SzT) a0)(oa1:SzT a1):Tot (Zd9 a0 a1) (fun r=>True):=by
 unfold Zd9
 refine tZ ?_
 have lb_a0:=oa0.1
 have lb_a1:a1.length<=562949953421312:=oa1
 dsimp only [Zfl,LT.den]
 refine tB (Zsa oa0 oa1) (fun x1 h2=>?_)
 exact tR trivial
theorem Z5q{a0:Zah}{a1:List UInt8}(oa0:Zj0 a0)(oa1:SzT a1):Tot (Zry a0 a1) (fun r=>True):=by
 unfold Zry
 refine tZ ?_
 have lb_a1:a1.length<=562949953421312:=oa1
 dsimp only [Zzu,LT.den]
 refine tB (Zp5 oa0 oa1) (fun x1 h2=>?_)
 exact tR trivial
theorem Z5r{a0:Int}{a1:Int}:Tot (Zxm a0 a1) (fun r=>(r=kwB a0 a1)):=by
 unfold Zxm
 refine tZ ?_
 dsimp only [Zabn,LT.den]
 exact tR (by rfl)
theorem Zazq{a0:Int}{a1:Int}:Tot (Z8s a0 a1) (fun r=>(r=muV a0 a1)):=by
 unfold Z8s
 refine tZ ?_
 dsimp only [Zad5,LT.den]
 refine tB (Zeg) (fun x1 h2=>?_)
 have eh2_0:=h2
 refine tB (Zeg) (fun x3 h4=>?_)
 have eh4_0:=h4
 refine qw (x1*x3) fun q5 q6=>?_
 refine tB (Zeg) (fun x7 h8=>?_)
 have eh8_0:=h8
 exact tR (by unfold muV;grind)
def Zap3:Zpn->Prop
 | .L0 v1 E0 v5 v14 v15=>(0<=v15)/\True
def Z0q:Zpn->M6
 | .L0 v1 E0 v5 v14 v15=>(1,(5 - v15).toNat,1000000,0,0,0)
theorem Zap4{a0:Zt}{a1:Int}:Tot (Zu1 a0 a1) (fun r=>True):=by
 unfold Zu1
 refine tX (Inv:=Zap3) (μ:=Z0q) (m:=(1000000,0,0,0,0,0)) ?_ ?_
 .dsimp only [Z3d,LT.den]
  refine tB (Zah3) (fun x1 h2=>?_)
  have eh2_0:=h2
  refine tO (fun h3=>?_) (fun h3=>?_)
  .exact tR trivial
  .exact tL ⟨cl,trivial⟩ (by unfold Z0q lt6;dsimp only;omega)
 .intro s hs
  cases s with
  | L0 v1 E0 v5 v14 v15=>
   obtain⟨cv15,_⟩:=hs
   show Tot (Zi6 v1 E0 v5 v14 v15).den _
   dsimp only [Zi6,LT.den]
   refine tD (fun h1=>?_) (fun h1=>?_)
   .refine tB (tI (by omega) (by have e:(A5.list v14).length=5:=rfl;omega)) (fun x2 h3=>?_)
    refine qw (v5+x2) fun q4 q5=>?_
    refine qw (v15+1) fun q6 q7=>?_
    exact tL ⟨cl,trivial⟩ (by unfold Z0q lt6;dsimp only;omega)
   .refine tB (Zazq) (fun x8 h9=>?_)
    have eh9_0:=h9
    refine tB (Zr8) (fun x10 h11=>?_)
    exact tR trivial
theorem Zqz{a0:Za}{a1:Int}{b0:Bool}:Tot (Zhh a0 a1 b0) (fun r=>True):=by
 unfold Zhh
 refine tZ ?_
 dsimp only [Zmm,LT.den]
 refine tE (fun h1=>?_) (fun h1=>?_)
 .exact tR trivial
 .refine tF (fun h2=>?_) (fun h2=>?_)
  .refine tB (Zab2) (fun x3 h4=>?_)
   exact tR trivial
  .exact tR trivial
def Zgh:Zfb->Prop
 | .L0 v3 E0 E1 E2 E3 v30=>(Zv E1)/\(Z7 E2)
 | .L1 E0 E1 E2 E3 v49=>(Zv E1)/\(Z7 E2)
 | .L2 E0 E1 E2 E3 v68=>(Zv E1)/\(Z7 E2)
 | .L3 E0 E1 E2 E3 v88=>(Zv E1)/\(Z7 E2)
 | .L4 E0 E1 E2=>(Zv E0)/\(Z7 E1)
def Ziv:Zfb->M6
 | .L0 v3 E0 E1 E2 E3 v30=>(0,0,0,0,0,0)
 | .L1 E0 E1 E2 E3 v49=>(0,0,0,0,0,0)
 | .L2 E0 E1 E2 E3 v68=>(0,0,0,0,0,0)
 | .L3 E0 E1 E2 E3 v88=>(0,0,0,0,0,0)
 | .L4 E0 E1 E2=>(0,0,0,0,0,0)
theorem Zhi{E0:Zb}{E1:Zc}{E2:Bool}(h:Zgh (.L4 E0 E1 E2)):Tot (Zer E0 E1 E2).den (Nx Zgh Ziv (0,0,0,0,0,0) (fun r=>True)):=by
 obtain⟨O0,O1⟩:=h
 dsimp only [Zer,LT.den]
 refine tB (Zqz) (fun x1 h2=>?_)
 refine tF (fun h3=>?_) (fun h3=>?_)
 .refine tB (Zqz) (fun x4 h5=>?_)
  refine tF (fun h6=>?_) (fun h6=>?_)
  .refine tB (Zap4) (fun x7 h8=>?_)
   refine tB (Zab2) (fun x9 h10=>?_)
   exact tR trivial
  .exact tR trivial
 .exact tR trivial
theorem Zkj{E0:Ze}{E1:Zb}{E2:Zc}{E3:Bool}{v88:Bool}(h:(Zv E1)/\(Z7 E2)):Tot (Zft E0 E1 E2 E3 v88).den (Nx Zgh Ziv (0,0,0,0,0,0) (fun r=>True)):=by
 obtain⟨O1,O2⟩:=h
 dsimp only [Zft,LT.den]
 refine tF (fun h1=>?_) (fun h1=>?_)
 .exact tR trivial
 .refine tE (fun h2=>?_) (fun h2=>?_)
  .refine tO (fun h3=>?_) (fun h3=>?_)
   .exact tR trivial
   .refine tE (fun h4=>?_) (fun h4=>?_)
    .refine tF (fun h5=>?_) (fun h5=>?_)
     .exact tR trivial
     .exact tJ (Zhi ⟨O1,O2⟩)
    .exact tJ (Zhi ⟨O1,O2⟩)
  .refine tE (fun h6=>?_) (fun h6=>?_)
   .refine tF (fun h7=>?_) (fun h7=>?_)
    .exact tR trivial
    .exact tJ (Zhi ⟨O1,O2⟩)
   .exact tJ (Zhi ⟨O1,O2⟩)
theorem Zok{E0:Ze}{E1:Zb}{E2:Zc}{E3:Bool}{v68:Bool}(h:(Zv E1)/\(Z7 E2)):Tot (Zg1 E0 E1 E2 E3 v68).den (Nx Zgh Ziv (0,0,0,0,0,0) (fun r=>True)):=by
 obtain⟨O1,O2⟩:=h
 dsimp only [Zg1,LT.den]
 refine tF (fun h1=>?_) (fun h1=>?_)
 .exact tR trivial
 .refine tO (fun h2=>?_) (fun h2=>?_)
  .refine tB (Z5q O1.2.1 (SzS.t O2)) (fun x3 h4=>?_)
   refine tO (fun h5=>?_) (fun h5=>?_)
   .exact tJ (Zkj ⟨O1,O2⟩)
   .refine tB (Z5r) (fun x6 h7=>?_)
    have eh7_0:=h7
    exact tJ (Zkj ⟨O1,O2⟩)
  .refine tB (Z5r) (fun x8 h9=>?_)
   have eh9_0:=h9
   exact tJ (Zkj ⟨O1,O2⟩)
theorem Zf1{E0:Ze}{E1:Zb}{E2:Zc}{E3:Bool}{v49:Bool}(h:(Zv E1)/\(Z7 E2)):Tot (Zd0 E0 E1 E2 E3 v49).den (Nx Zgh Ziv (0,0,0,0,0,0) (fun r=>True)):=by
 obtain⟨O1,O2⟩:=h
 dsimp only [Zd0,LT.den]
 refine tF (fun h1=>?_) (fun h1=>?_)
 .exact tR trivial
 .refine tB (Zzb) (fun x2 h3=>?_)
  refine tO (fun h4=>?_) (fun h4=>?_)
  .exact tJ (Zok ⟨O1,O2⟩)
  .refine tB (Zzb) (fun x5 h6=>?_)
   exact tJ (Zok ⟨O1,O2⟩)
theorem Zf2{v3:Int}{E0:Ze}{E1:Zb}{E2:Zc}{E3:Bool}{v30:Bool}(h:(Zv E1)/\(Z7 E2)):Tot (Zbu v3 E0 E1 E2 E3 v30).den (Nx Zgh Ziv (0,0,0,0,0,0) (fun r=>True)):=by
 obtain⟨O1,O2⟩:=h
 dsimp only [Zbu,LT.den]
 refine tF (fun h1=>?_) (fun h1=>?_)
 .exact tR trivial
 .refine tE (fun h2=>?_) (fun h2=>?_)
  .refine tN (fun h3=>?_) (fun h3=>?_)
   .exact tJ (Zf1 ⟨O1,O2⟩)
   .refine tE (fun h4=>?_) (fun h4=>?_)
    .exact tJ (Zf1 ⟨O1,O2⟩)
    .exact tJ (Zf1 ⟨O1,O2⟩)
  .refine tE (fun h5=>?_) (fun h5=>?_)
   .exact tJ (Zf1 ⟨O1,O2⟩)
   .exact tJ (Zf1 ⟨O1,O2⟩)
theorem Z34{a0:Ze}{a1:Zb}{a2:Int}{a3:Int}{a4:Zc}(oa1:Zv a1)(oa4:Z7 a4):Tot (Zpo a0 a1 a2 a3 a4) (fun r=>True):=by
 unfold Zpo
 refine tX (Inv:=Zgh) (μ:=Ziv) (m:=(1000000,0,0,0,0,0)) ?_ ?_
 .dsimp only [Zwy,LT.den]
  refine tB (Zab1 a4 oa4) (fun x1 h2=>?_)
  have eh2_0:=h2
  refine tO (fun h3=>?_) (fun h3=>?_)
  .exact tR trivial
  .refine tN (fun h4=>?_) (fun h4=>?_)
   .exact tR trivial
   .refine tE (fun h5=>?_) (fun h5=>?_)
    .refine tN (fun h6=>?_) (fun h6=>?_)
     .exact tJ (Zf2 ⟨oa1,oa4⟩)
     .refine tE (fun h7=>?_) (fun h7=>?_)
      .exact tJ (Zf2 ⟨oa1,oa4⟩)
      .exact tJ (Zf2 ⟨oa1,oa4⟩)
    .refine tE (fun h8=>?_) (fun h8=>?_)
     .exact tJ (Zf2 ⟨oa1,oa4⟩)
     .exact tJ (Zf2 ⟨oa1,oa4⟩)
 .intro s hs
  cases s with
  | L0 _ _ _ _ _ _=>exact Zf2 hs
  | L1 _ _ _ _ _=>exact Zf1 hs
  | L2 _ _ _ _ _=>exact Zok hs
  | L3 _ _ _ _ _=>exact Zkj hs
  | L4 _ _ _=>exact Zhi hs
theorem Za8v{x:Zb}(h:Zv x):x.Line.Subs.length<=4611686018427387904:=by
 have:x.Line.Subs.length*16<=140737488351232:=h.2.1.1
 omega
theorem Za7a{s:Zl}{all:List Zb}{you src:Int}{f:Zc}(h:Z9 s):SzL 8 (fun _=>True) (Zatc s all you src f):=by
 have h1:s.Objects.length*128<=140737488351232:=h.2.1.1
 have h2:(Zatc s all you src f).length<=s.Objects.length:=Zaut ..
 exact⟨by omega,fun _ _=>trivial⟩
theorem Zap5(a0:Zl)(a1:List Zb)(a2 a3:Int)(a4:Zc)(oa0:Z9 a0)(oa1:(SzL 176 Zv) a1)(oa4:Z7 a4):Tot (Z1c a0 a1 a2 a3 a4) (fun r=>((SzL 8 (fun _=>True)) r)/\(r=Zatc a0 a1 a2 a3 a4)):=
 ⟨_,Za8m a0 a1 a2 a3 a4 oa0.2.1.1 fun t ht=>Za8v (oa1.2 t ht),Za7a oa0,rfl⟩
def Zzc:Zes->Prop
 | .L0 v0 v1 v12 v13=>((SzL 8 (fun _=>True)) v0)/\((SzL 8 (fun _=>True)) v1)/\(0<=v13)/\(v12=(v0.length:Int))/\(v0.length=v1.length)
def Zje:Zes->M6
 | .L0 v0 v1 v12 v13=>(1,(v12 - v13).toNat,1000000,0,0,0)
theorem Zna{a0:List Int}{a1:List Int}(oa0:(SzL 8 (fun _=>True)) a0)(oa1:(SzL 8 (fun _=>True)) a1):Tot (Zku a0 a1) (fun r=>True):=by
 unfold Zku
 refine tX (Inv:=Zzc) (μ:=Zje) (m:=(1000000,0,0,0,0,0)) ?_ ?_
 .have lb_a0:=oa0.1
  have lb_a1:=oa1.1
  dsimp only [Zop,LT.den]
  have q1:=oa0.1
  have q2:=oa1.1
  refine tN (fun h3=>?_) (fun h3=>?_)
  .exact tR trivial
  .exact tL ⟨oa0,oa1,cl,cl,cl⟩ (by unfold Zje lt6;dsimp only;omega)
 .intro s hs
  cases s with
  | L0 v0 v1 v12 v13=>
   obtain⟨ov0,ov1,cv13,i0,i1⟩:=hs
   have lb_v0:=ov0.1
   have lb_v1:=ov1.1
   show Tot (Zi7 v0 v1 v12 v13).den _
   dsimp only [Zi7,LT.den]
   refine tD (fun h1=>?_) (fun h1=>?_)
   .refine tB (tI (by omega) (by omega)) (fun x2 h3=>?_)
    refine tB (tI (by omega) (by omega)) (fun x4 h5=>?_)
    refine tN (fun h6=>?_) (fun h6=>?_)
    .exact tR trivial
    .refine qw (v13+1) fun q7 q8=>?_
     exact tL ⟨ov0,ov1,cl,cl,cl⟩ (by unfold Zje lt6;dsimp only;omega)
   .exact tR trivial
theorem Z0r{a0:Zbb}{a1:Zbb}(oa0:Zz3 a0)(oa1:Zz3 a1):Tot (Zlr a0 a1) (fun r=>True):=by
 unfold Zlr
 refine tZ ?_
 dsimp only [Zpp,LT.den]
 refine tO (fun h1=>?_) (fun h1=>?_)
 .exact tR trivial
 .refine tB (Zna oa0.1 oa1.1) (fun x2 h3=>?_)
  refine tO (fun h4=>?_) (fun h4=>?_)
  .exact tR trivial
  .refine tB (Zna oa0.2 oa1.2) (fun x5 h6=>?_)
   exact tR trivial
theorem Zl3{a0:List Bool}(oa0:(SzL 1 (fun _=>True)) a0):Tot (Zgn a0) (fun r=>((SzL 1 (fun _=>True)) r)/\(r=a0)):=by
 unfold Zgn
 split
 .refine tZ ?_
  have lb_a0:=oa0.1
  dsimp only [Zig,LT.den]
  have q3:=oa0.1
  refine tB (tA (by first | omega | (simp only [List.length_cons,List.length_nil];omega)) (by decide)) (fun x1 h2=>?_)
  have lh2:x1.length=([]:List Bool).length+a0.length:=by rw [h2,List.length_append]
  try simp only [List.length_cons,List.length_nil,Nat.zero_add] at lh2
  exact tR ⟨SzL.tr,(by first | rfl | assumption | (simpa using (by assumption:_=[]++a0)) | grind)⟩
 .refine tZ ?_
  dsimp only [Zfc,LT.den]
  exact tR ⟨SzL.nil,(by first | rfl | assumption | (simpa using (by assumption:_=[]++a0)) | grind)⟩
theorem Zl6{a0:List Zg}(oa0:(SzL 640 Z3) a0):Tot (Zcx a0) (fun r=>((SzL 640 Z3) r)):=by
 unfold Zcx
 split
 .refine tZ ?_
  have lb_a0:=oa0.1
  dsimp only [Zd1,LT.den]
  have q3:=oa0.1
  refine tB (tA (by first | omega | (simp only [List.length_cons,List.length_nil];omega)) (by decide)) (fun x1 h2=>?_)
  have lh2:x1.length=([]:List Zg).length+a0.length:=by rw [h2,List.length_append]
  try simp only [List.length_cons,List.length_nil,Nat.zero_add] at lh2
  exact tR (SzL.app (k:=640) h2 lo (fun _ h=>by cases h) oa0.2)
 .refine tZ ?_
  dsimp only [Zcb,LT.den]
  exact tR SzL.nil
def Zap6:Zmo->Prop
 | .L0 E0 E1 v18 v19=>(Zv E0)/\(Zv E1)/\(0<=v19)/\(v18=(E0.Abilities.length:Int))
 | .L1 y45000015 E0 E1 v18 v19 v54 v55 v4=>(Z3 y45000015)/\(Zv E0)/\(Zv E1)/\(0<=v55)/\(0<=v19)/\(v19 < v18)/\(v18=(E0.Abilities.length:Int))/\(0<=v4)/\(v4 < v18)/\(v19 < v18)/\(v54=(y45000015.Effects.length:Int))
def Zoe:Zmo->M6
 | .L0 E0 E1 v18 v19=>(1,(v18 - v19).toNat,1000000,0,0,0)
 | .L1 y45000015 E0 E1 v18 v19 v54 v55 v4=>(1,(v18 - v19).toNat,1,(v54 - v55).toNat,1000000,0)
theorem Zap7{a0:Zb}(oa0:Zv a0):Tot (Z98 a0) (fun r=>(Zv r)):=by
 unfold Z98
 refine tX (Inv:=Zap6) (μ:=Zoe) (m:=(1000000,0,0,0,0,0)) ?_ ?_
 .dsimp only [Zad7,LT.den]
  refine tB (Zga oa0.2.1) (fun x1 h2=>?_)
  have eh2_1:=h2.2
  refine tB (Zl6 oa0.2.2) (fun x3 h4=>?_)
  exact tL ⟨⟨oa0.1,h2.1,h4⟩,⟨SzS.nil,SzL.nil,SzL.nil⟩,cl,cl⟩ (by unfold Zoe lt6;dsimp only;omega)
 .intro s hs
  cases s with
  | L0 E0 E1 v18 v19=>
   obtain⟨O0,O1,cv19,i0⟩:=hs
   show Tot (Zzv E0 E1 v18 v19).den _
   dsimp only [Zzv,LT.den]
   refine tD (fun h1=>?_) (fun h1=>?_)
   .refine tB (tI (by omega) (by omega)) (fun x2 h3=>?_)
    have oh3:Z3 x2:=O0.2.2.2 x2 h3.1
    refine tB (Zbq oh3.2.1) (fun x4 h5=>?_)
    have eh5_1:=h5.2
    refine tB (Zh2 oh3.2.2.2.1) (fun x6 h7=>?_)
    have eh7_1:=h7.2
    refine tB (Zgw oh3.2.2.2.2.1) (fun x8 h9=>?_)
    have eh9_1:=h9.2
    exact tL ⟨⟨oh3.1,h5.1,oh3.2.2.1,h7.1,h9.1,oh3.2.2.2.2.2⟩,O0,O1,cl,cl,cl,cl,cl,cl,cl,cl⟩ (by unfold Zoe lt6;dsimp only;omega)
   .exact tR O0
  | L1 y45000015 E0 E1 v18 v19 v54 v55 v4=>
   obtain⟨oy45000015,O0,O1,cv55,cv19,bd5,i0,i1,i2,i3,i4⟩:=hs
   show Tot (Zzw y45000015 E0 E1 v18 v19 v54 v55 v4).den _
   dsimp only [Zzw,LT.den]
   have lq:=oy45000015.2.2.2.2.1.1
   have lr:=O0.2.2.1
   refine tD (fun h1=>?_) (fun h1=>?_)
   .refine tB (tI (by omega) (by omega)) (fun x2 h3=>?_)
    have oh3:Z8 x2:=oy45000015.2.2.2.2.1.2 x2 h3.1
    refine tB (Zbq oh3.2.2.2.2) (fun x4 h5=>?_)
    have eh5_1:=h5.2
    refine tB (Tot.set (by omega) (by omega)) (fun x6 h7=>?_)
    have lh7:=h7.1
    refine qw (v55+1) fun q8 q9=>?_
    exact tL ⟨⟨oy45000015.1,oy45000015.2.1,oy45000015.2.2.1,oy45000015.2.2.2.1,⟨lo,fun e he=>(h7.2.1 e he).elim (fun w=>by rw [w];exact⟨oh3.1,oh3.2.1,oh3.2.2.1,oh3.2.2.2.1,h5.1⟩) (oy45000015.2.2.2.2.1.2 e)⟩,oy45000015.2.2.2.2.2⟩,O0,O1,cl,cl,cl,cl,cl,cl,cl,cl⟩ (by unfold Zoe lt6;dsimp only;omega)
   .refine tB (Tot.set (by omega) (by omega)) (fun x10 h11=>?_)
    have lh11:=h11.1
    refine qw (v19+1) fun q12 q13=>?_
    exact tL ⟨⟨O0.1,O0.2.1,⟨lo,fun e he=>(h11.2.1 e he).elim (fun w=>by rw [w];exact oy45000015) (O0.2.2.2 e)⟩⟩,O1,cl,cl⟩ (by unfold Zoe lt6;dsimp only;omega)
theorem Zjs{a0:Int}{a1:Int}{a2:Int}:Tot (Zawt a0 a1 a2) (fun r=>True):=by
 unfold Zawt
 refine tZ ?_
 dsimp only [Zawr,LT.den]
 refine tD (fun h1=>?_) (fun h1=>?_)
 .exact tR trivial
 .exact tR trivial
def Zp6:Zqk->Prop
 | .L0 E0 E1 E2 v8 v9=>(Zu E0)/\(Zu E1)/\(Zu E2)
 | .L1 E0 E1 E2 v8 v19=>(Zu E0)/\(Zu E1)/\(Zu E2)
def Z7n:Zqk->M6
 | .L0 E0 E1 E2 v8 v9=>(0,0,0,0,0,0)
 | .L1 E0 E1 E2 v8 v19=>(0,0,0,0,0,0)
theorem Zvx{E0:Zi}{E1:Zi}{E2:Zi}{v8:Int}{v19:Bool}(h:Zp6 (.L1 E0 E1 E2 v8 v19)):Tot (Zrz E0 E1 E2 v8 v19).den (Nx Zp6 Z7n (0,0,0,0,0,0) (fun r=>(Zu r))):=by
 obtain⟨O0,O1,O2⟩:=h
 dsimp only [Zrz,LT.den]
 refine tF (fun h1=>?_) (fun h1=>?_)
 .exact tR ⟨O0.1,O2.2⟩
 .refine tE (fun h2=>?_) (fun h2=>?_)
  .exact tR ⟨O2.1,O0.2⟩
  .refine tE (fun h3=>?_) (fun h3=>?_)
   .exact tR ⟨O2.1,O2.2⟩
   .refine tE (fun h4=>?_) (fun h4=>?_)
    .exact tR ⟨O2.1,O2.2⟩
    .exact tR O2
theorem Zha{E0:Zi}{E1:Zi}{E2:Zi}{v8:Int}{v9:Bool}(h:Zp6 (.L0 E0 E1 E2 v8 v9)):Tot (Zh8 E0 E1 E2 v8 v9).den (Nx Zp6 Z7n (0,0,0,0,0,0) (fun r=>(Zu r))):=by
 obtain⟨O0,O1,O2⟩:=h
 dsimp only [Zh8,LT.den]
 refine tF (fun h1=>?_) (fun h1=>?_)
 .exact tR ⟨O2.1,O2.2⟩
 .refine tE (fun h2=>?_) (fun h2=>?_)
  .exact tJ (Zvx ⟨O0,O1,O2⟩)
  .exact tJ (Zvx ⟨O0,O1,O2⟩)
theorem Zax5{a0:Zi}(oa0:Zu a0):Tot (Zajq a0) (fun r=>(Zu r)):=by
 unfold Zajq
 refine tX (Inv:=Zp6) (μ:=Z7n) (m:=(1000000,0,0,0,0,0)) ?_ ?_
 .dsimp only [Zanh,LT.den]
  refine tE (fun h1=>?_) (fun h1=>?_)
  .exact tJ (Zha ⟨oa0,⟨SzS.nil,SzS.nil⟩,⟨SzS.nil,SzS.nil⟩⟩)
  .refine tE (fun h2=>?_) (fun h2=>?_)
   .exact tJ (Zha ⟨oa0,⟨SzS.nil,SzS.nil⟩,⟨SzS.nil,SzS.nil⟩⟩)
   .refine tE (fun h3=>?_) (fun h3=>?_)
    .exact tJ (Zha ⟨oa0,⟨SzS.nil,SzS.nil⟩,⟨SzS.nil,SzS.nil⟩⟩)
    .refine tE (fun h4=>?_) (fun h4=>?_)
     .exact tJ (Zha ⟨oa0,⟨SzS.nil,SzS.nil⟩,⟨SzS.nil,SzS.nil⟩⟩)
     .refine tE (fun h5=>?_) (fun h5=>?_)
      .exact tJ (Zha ⟨oa0,⟨SzS.nil,SzS.nil⟩,⟨SzS.nil,SzS.nil⟩⟩)
      .exact tJ (Zha ⟨oa0,⟨SzS.nil,SzS.nil⟩,⟨SzS.nil,SzS.nil⟩⟩)
 .intro s hs
  cases s with
  | L0 _ _ _ _ _=>exact Zha hs
  | L1 _ _ _ _ _=>exact Zvx hs
def Z1i:Zs4->Prop
 | .L0 E0 v14 v15=>(Zu E0)/\True
 | .L1 E0 v14 v27=>(Zu E0)/\True
 | .L2 E0 v14 v43=>(Zu E0)/\True
def Z5s:Zs4->M6
 | .L0 E0 v14 v15=>(0,0,0,0,0,0)
 | .L1 E0 v14 v27=>(0,0,0,0,0,0)
 | .L2 E0 v14 v43=>(0,0,0,0,0,0)
theorem Z0s{E0:Zi}{v14:Int}{v43:Bool}(h:(Zu E0)/\True):Tot (Zy1 E0 v14 v43).den (Nx Z1i Z5s (0,0,0,0,0,0) (fun r=>True)):=by
 obtain⟨O0,_⟩:=h
 dsimp only [Zy1,LT.den]
 refine tF (fun h1=>?_) (fun h1=>?_)
 .refine tB (Zjs) (fun x2 h3=>?_)
  exact tR trivial
 .refine tE (fun h4=>?_) (fun h4=>?_)
  .refine tB (Zab1 E0.Filter O0.2) (fun x5 h6=>?_)
   have eh6_0:=h6
   exact tR trivial
  .refine tE (fun h7=>?_) (fun h7=>?_)
   .refine tB (Zjs) (fun x8 h9=>?_)
    refine tF (fun h10=>?_) (fun h10=>?_)
    .refine tB (Zjs) (fun x11 h12=>?_)
     exact tR trivial
    .exact tR trivial
   .refine tE (fun h13=>?_) (fun h13=>?_)
    .refine tB (Zjs) (fun x14 h15=>?_)
     refine tF (fun h16=>?_) (fun h16=>?_)
     .refine tB (Zjs) (fun x17 h18=>?_)
      exact tR trivial
     .exact tR trivial
    .exact tR trivial
theorem Z0t{E0:Zi}{v14:Int}{v27:Bool}(h:(Zu E0)/\True):Tot (Zy2 E0 v14 v27).den (Nx Z1i Z5s (0,0,0,0,0,0) (fun r=>True)):=by
 obtain⟨O0,_⟩:=h
 dsimp only [Zy2,LT.den]
 refine tF (fun h1=>?_) (fun h1=>?_)
 .refine tB (Z88 (SzS.t O0.1)) (fun x2 h3=>?_)
  exact tR trivial
 .refine tE (fun h4=>?_) (fun h4=>?_)
  .refine tB (Zjs) (fun x5 h6=>?_)
   exact tR trivial
  .refine tE (fun h7=>?_) (fun h7=>?_)
   .refine tB (Zjs) (fun x8 h9=>?_)
    exact tR trivial
   .refine tE (fun h10=>?_) (fun h10=>?_)
    .exact tJ (Z0s ⟨O0,trivial⟩)
    .exact tJ (Z0s ⟨O0,trivial⟩)
theorem Z0u{E0:Zi}{v14:Int}{v15:Bool}(h:(Zu E0)/\True):Tot (Zy3 E0 v14 v15).den (Nx Z1i Z5s (0,0,0,0,0,0) (fun r=>True)):=by
 obtain⟨O0,_⟩:=h
 dsimp only [Zy3,LT.den]
 refine tF (fun h1=>?_) (fun h1=>?_)
 .refine tB (Zjs) (fun x2 h3=>?_)
  refine tF (fun h4=>?_) (fun h4=>?_)
  .exact tR trivial
  .exact tR trivial
 .refine tE (fun h5=>?_) (fun h5=>?_)
  .exact tJ (Z0t ⟨O0,trivial⟩)
  .exact tJ (Z0t ⟨O0,trivial⟩)
theorem Za2u{a0:Zi}(oa0:Zu a0):Tot (Zaww a0) (fun r=>True):=by
 unfold Zaww
 refine tX (Inv:=Z1i) (μ:=Z5s) (m:=(1000000,0,0,0,0,0)) ?_ ?_
 .dsimp only [Zawu,LT.den]
  refine tB (Zjs) (fun x1 h2=>?_)
  refine tO (fun h3=>?_) (fun h3=>?_)
  .exact tR trivial
  .refine tB (Zax5 oa0) (fun x4 h5=>?_)
   refine tO (fun h6=>?_) (fun h6=>?_)
   .exact tR trivial
   .refine tE (fun h7=>?_) (fun h7=>?_)
    .exact tJ (Z0u ⟨oa0,trivial⟩)
    .exact tJ (Z0u ⟨oa0,trivial⟩)
 .intro s hs
  cases s with
  | L0 _ _ _=>exact Z0u hs
  | L1 _ _ _=>exact Z0t hs
  | L2 _ _ _=>exact Z0s hs
theorem Z89{a0:List UInt8}{a1:List UInt8}(oa0:SzT a0)(oa1:SzT a1):Tot (Zq6 a0 a1) (fun r=>True):=by
 unfold Zq6
 refine tZ ?_
 have lb_a0:a0.length<=562949953421312:=oa0
 have lb_a1:a1.length<=562949953421312:=oa1
 dsimp only [Zv9,LT.den]
 exact tR trivial
def Ziq(a0:List (List UInt8))(a1:List UInt8):Za2->Prop
 | .L0 v0 w1_0 v7 v8=>(v0=a0)/\(w1_0=a1)/\((SzL 16 SzT) v0)/\(SzT w1_0)/\(0<=v8)/\(v7=(v0.length:Int))
def Zcl:Za2->M6
 | .L0 v0 w1_0 v7 v8=>(1,(v7 - v8).toNat,1000000,0,0,0)
theorem Zir{a0:List (List UInt8)}{a1:List UInt8}(oa0:(SzL 16 SzT) a0)(oa1:SzT a1):Tot (Zcv a0 a1) (fun r=>(-1<=r)/\(r < (a0.length:Int))):=by
 unfold Zcv
 refine tX (Inv:=(Ziq a0 a1)) (μ:=Zcl) (m:=(1000000,0,0,0,0,0)) ?_ ?_
 .have lb_a0:=oa0.1
  have lb_a1:a1.length<=562949953421312:=oa1
  dsimp only [Zel,LT.den]
  have q1:=oa0.1
  exact tL ⟨rfl,rfl,oa0,oa1,cl,cl⟩ (by unfold Zcl lt6;dsimp only;omega)
 .intro s hs
  cases s with
  | L0 v0 w1_0 v7 v8=>
   obtain⟨al0,al1,ov0,ow1_0,cv8,i0⟩:=hs
   have lb_v0:=ov0.1
   have lb_w1_0:w1_0.length<=562949953421312:=ow1_0
   subst al0
   subst al1
   show Tot (Zcj v0 w1_0 v7 v8).den _
   dsimp only [Zcj,LT.den]
   refine tD (fun h1=>?_) (fun h1=>?_)
   .refine tB (tI (by omega) (by omega)) (fun x2 h3=>?_)
    have oh3:SzT x2:=ov0.2 x2 h3.1
    refine tB (Z89 oh3 ow1_0) (fun x4 h5=>?_)
    refine tF (fun h6=>?_) (fun h6=>?_)
    .exact tR ⟨cl,cl⟩
    .refine qw (v8+1) fun q7 q8=>?_
     exact tL ⟨rfl,rfl,ov0,ow1_0,cl,cl⟩ (by unfold Zcl lt6;dsimp only;omega)
   .exact tR ⟨cl,cl⟩
theorem Zgb(b0:List (List UInt8))(a1:Int)(b1:List (List UInt8))(ob0:SzL 16 SzT b0)(ob1:SzL 16 SzT b1)(h0:b0.length<=4096)(h1:0<=a1)(h2:a1<=(b0.length:Int))(h3:b1.length=1) :
 Tot (Zg2 b0 a1 b1) (fun r=>(SzL 16 SzT r)/\(r.length=b0.length+1)):=by
 match b1,h3 with
 | [y],_=>
  refine⟨_,Za9l h1 h2 (by omega),⟨?_,fun e he=>?_⟩,?_⟩
  .simp only [List.length_append,List.length_cons,List.length_take,List.length_drop];omega
  .rcases List.mem_append.1 he with h | h
   .exact ob0.2 e (List.mem_of_mem_take h)
   .rcases List.mem_cons.1 h with h | h
    .rw [h];exact ob1.2 y (by simp)
    .exact ob0.2 e (List.mem_of_mem_drop h)
  .simp only [List.length_append,List.length_cons,List.length_take,List.length_drop];omega
theorem Zaoe{a0:Zah}{a1:List UInt8}(oa0:Zj0 a0)(oa1:SzT a1):Tot (Z6z a0 a1) (fun r=>(Zj0 r)):=by
 unfold Z6z
 refine tZ ?_
 have lb_a1:a1.length<=562949953421312:=oa1
 dsimp only [Zabp,LT.den]
 refine tB (Zga oa0) (fun x1 h2=>?_)
 have eh2_1:=h2.2
 refine tB (Z88 oa1) (fun x3 h4=>?_)
 refine tO (fun h5=>?_) (fun h5=>?_)
 .exact tR h2.1
 .refine tB (Z5q h2.1 oa1) (fun x6 h7=>?_)
  refine tF (fun h8=>?_) (fun h8=>?_)
  .exact tR h2.1
  .refine tD (fun h9=>?_) (fun h9=>?_)
   .exact tR h2.1
   .refine tB (Zir h2.1 oa1) (fun x10 h11=>?_)
    have eh11_0:=h11.1
    have eh11_1:=h11.2
    refine tD (fun h12=>?_) (fun h12=>?_)
    .refine tB (Zgb x1 (x1.length:Int) [a1] h2.1 (SzL.one oa1) cl cl cl cl) (fun x13 h14=>?_)
     have eh14_1:=h14.2
     exact tR h14.1
    .refine tB (Zgb x1 x10 [a1] h2.1 (SzL.one oa1) cl cl cl cl) (fun x15 h16=>?_)
     have eh16_1:=h16.2
     exact tR h16.1
theorem Zasv{a0:Zb}{a1:Zi}{a2:Int}{a3:Int}(oa0:Zv a0)(oa1:Zu a1):Tot (Z5g a0 a1 a2 a3) (fun r=>(Zv r)):=by
 unfold Z5g
 refine tZ ?_
 dsimp only [Zaho,LT.den]
 refine tB (Zap7 oa0) (fun x1 h2=>?_)
 refine tB (Za2u oa1) (fun x3 h4=>?_)
 refine tO (fun h5=>?_) (fun h5=>?_)
 .exact tR h2
 .refine tE (fun h6=>?_) (fun h6=>?_)
  .exact tR ⟨h2.1,h2.2.1,h2.2.2⟩
  .refine tE (fun h7=>?_) (fun h7=>?_)
   .exact tR ⟨h2.1,h2.2.1,h2.2.2⟩
   .refine tE (fun h8=>?_) (fun h8=>?_)
    .exact tR ⟨h2.1,h2.2.1,h2.2.2⟩
    .refine tE (fun h9=>?_) (fun h9=>?_)
     .exact tR ⟨h2.1,SzL.one (SzS.t oa1.1),h2.2.2⟩
     .refine tE (fun h10=>?_) (fun h10=>?_)
      .refine tB (Zaoe h2.2.1 (SzS.t oa1.1)) (fun x11 h12=>?_)
       exact tR ⟨h2.1,h12,h2.2.2⟩
      .refine tE (fun h13=>?_) (fun h13=>?_)
       .exact tR ⟨h2.1,h2.2.1,h2.2.2⟩
       .refine tE (fun h14=>?_) (fun h14=>?_)
        .exact tR ⟨h2.1,h2.2.1,h2.2.2⟩
        .refine tE (fun h15=>?_) (fun h15=>?_)
         .exact tR ⟨h2.1,h2.2.1,h2.2.2⟩
         .refine tE (fun h16=>?_) (fun h16=>?_)
          .exact tR ⟨h2.1,h2.2.1,h2.2.2⟩
          .refine tE (fun h17=>?_) (fun h17=>?_)
           .exact tR ⟨h2.1,h2.2.1,SzL.nil⟩
           .refine tE (fun h18=>?_) (fun h18=>?_)
            .refine tB (Zeg) (fun x19 h20=>?_)
             have eh20_0:=h20
             refine tB (Zeg) (fun x21 h22=>?_)
             have eh22_0:=h22
             exact tR ⟨h2.1,h2.2.1,h2.2.2⟩
            .refine tE (fun h23=>?_) (fun h23=>?_)
             .exact tR ⟨h2.1,h2.2.1,h2.2.2⟩
             .refine tE (fun h24=>?_) (fun h24=>?_)
              .refine tB (Zr8) (fun x25 h26=>?_)
               refine tB (Zr8) (fun x27 h28=>?_)
               exact tR ⟨h2.1,h2.2.1,h2.2.2⟩
              .refine tE (fun h29=>?_) (fun h29=>?_)
               .exact tR ⟨h2.1,h2.2.1,h2.2.2⟩
               .exact tR h2
abbrev Zaa0(a0:List Int)(r:List Int):Prop:=((SzL 8 (fun _=>True)) r)/\(r.length<=a0.length)/\(SUB r a0)
def Zab9(a0:List Int):Zjh->Prop
 | .L0 v3 v6 v7 v8=>(v6=a0)/\((SzL 8 (fun _=>True)) v3)/\((SzL 8 (fun _=>True)) v6)/\(0<=v8)/\(v7=(v6.length:Int))/\(v3.length<=v8.toNat)/\(v8<=v7)/\(SUB v3 v6)
def Zin:Zjh->M6
 | .L0 v3 v6 v7 v8=>(1,(v7 - v8).toNat,1000000,0,0,0)
theorem Zaca{a0:List Int}(oa0:(SzL 8 (fun _=>True)) a0):Tot (Zor a0) (Zaa0 a0):=by
 unfold Zor
 refine tX (Inv:=(Zab9 a0)) (μ:=Zin) (m:=(1000000,0,0,0,0,0)) ?_ ?_
 .have lb_a0:=oa0.1
  dsimp only [Z00,LT.den]
  have q1:=oa0.1
  exact tL ⟨rfl,SzL.nil,oa0,cl,cl,cl,cl,(by first | exact Zw5 | assumption | exact Zafo ‹_› ‹_› ‹_›)⟩ (by unfold Zin lt6;dsimp only;omega)
 .intro s hs
  cases s with
  | L0 v3 v6 v7 v8=>
   obtain⟨al0,ov3,ov6,cv8,i0,i1,i2,i3⟩:=hs
   have lb_v3:=ov3.1
   have lb_v6:=ov6.1
   subst al0
   show Tot (Zpr v3 v6 v7 v8).den _
   dsimp only [Zpr,LT.den]
   refine tD (fun h1=>?_) (fun h1=>?_)
   .refine tB (tI (by omega) (by omega)) (fun x2 h3=>?_)
    have mh3:=h3.2
    refine tD (fun h4=>?_) (fun h4=>?_)
    .refine tB (Zlj ov3) (fun x5 h6=>?_)
     refine tO (fun h7=>?_) (fun h7=>?_)
     .have q10:=ov3.1
      refine tB (tA (by simp only [List.length_cons,List.length_nil];omega) (by decide)) (fun x8 h9=>?_)
      have lh9:x8.length=v3.length+1:=by rw [h9,List.length_append];rfl
      refine qw (v8+1) fun q11 q12=>?_
      exact tL ⟨rfl,SzL.tr,ov6,cl,cl,cl,cl,(by first | exact Zw5 | assumption | exact Zafo ‹_› ‹_› ‹_›)⟩ (by unfold Zin lt6;dsimp only;omega)
     .refine qw (v8+1) fun q13 q14=>?_
      exact tL ⟨rfl,ov3,ov6,cl,cl,cl,cl,(by first | exact Zw5 | assumption | exact Zafo ‹_› ‹_› ‹_›)⟩ (by unfold Zin lt6;dsimp only;omega)
    .refine qw (v8+1) fun q15 q16=>?_
     exact tL ⟨rfl,ov3,ov6,cl,cl,cl,cl,(by first | exact Zw5 | assumption | exact Zafo ‹_› ‹_› ‹_›)⟩ (by unfold Zin lt6;dsimp only;omega)
   .exact tR ⟨ov3,cl,‹_›⟩
theorem Z06{a0:List (List Bool)}{a1:Int}{a2:Int}(oa0:(SzL 24 (SzL 1 (fun _=>True))) a0):Tot (Zzx a0 a1 a2) (fun r=>True):=by
 unfold Zzx
 refine tZ ?_
 have lb_a0:=oa0.1
 dsimp only [Z5h,LT.den]
 refine tD (fun h1=>?_) (fun h1=>?_)
 .refine tD (fun h2=>?_) (fun h2=>?_)
  .have q3:=oa0.1
   refine tD (fun h4=>?_) (fun h4=>?_)
   .refine tB (tI (by omega) (by omega)) (fun x5 h6=>?_)
    have oh6:(SzL 1 (fun _=>True)) x5:=oa0.2 x5 h6.1
    have q7:=oh6.1
    refine tD (fun h8=>?_) (fun h8=>?_)
    .refine tB (tI (by omega) (by omega)) (fun x9 h10=>?_)
     exact tR trivial
    .exact tR trivial
   .exact tR trivial
  .exact tR trivial
 .exact tR trivial
abbrev Zaf5(a0:List Int)(a1:List (List Bool))(r:(List Int)×(List (List Bool))):Prop:=(r.1.length=a0.length)/\(r.2.length=a0.length)/\(RWS a0.length r.2)
def Zakk(a0:List Int)(a1:List (List Bool)):Zfd->Prop
 | .L0 v1 E0 v5 E1 v17 v18=>(E0=a0)/\(v1=a1)/\((SzL 24 (SzL 1 (fun _=>True))) v1)/\((SzL 8 (fun _=>True)) E0)/\((SzL 24 (SzL 1 (fun _=>True))) E1)/\(0<=v18)/\(v5=(E0.length:Int))/\((E1.length:Int)=v5)/\(E0.length<=16448)/\(RWV E0.length E1 v18)/\(v17=v5)
 | .L1 v1 E0 v5 E1 v7 v17 v18 v26 v27=>(E0=a0)/\(v1=a1)/\((SzL 24 (SzL 1 (fun _=>True))) v1)/\((SzL 8 (fun _=>True)) E0)/\((SzL 24 (SzL 1 (fun _=>True))) E1)/\(0<=v27)/\(0<=v18)/\(v18 < v17)/\(v5=(E0.length:Int))/\((E1.length:Int)=v5)/\(E0.length<=16448)/\(RWV E0.length E1 (v18+1))/\(v17=v5)/\(v18 < v17)/\(v7=v18)/\(v26=v5)
 | .L2 E0 v5 E1 v48 v49=>(E0=a0)/\((SzL 8 (fun _=>True)) E0)/\((SzL 24 (SzL 1 (fun _=>True))) E1)/\(0<=v49)/\(v5=(E0.length:Int))/\((E1.length:Int)=v5)/\(E0.length<=16448)/\(RWS E0.length E1)/\(v48=v5)
 | .L3 E0 v5 E1 v9 v48 v49 v52 v53=>(E0=a0)/\((SzL 8 (fun _=>True)) E0)/\((SzL 24 (SzL 1 (fun _=>True))) E1)/\(0<=v53)/\(0<=v49)/\(v49 < v48)/\(v5=(E0.length:Int))/\((E1.length:Int)=v5)/\(E0.length<=16448)/\(RWS E0.length E1)/\(v48=v5)/\(v52=v5)/\(v9=v49)/\(v49 < v48)
 | .L4 E0 v5 E1 v9 v10 v48 v49 v52 v53 v56 v57=>(E0=a0)/\((SzL 8 (fun _=>True)) E0)/\((SzL 24 (SzL 1 (fun _=>True))) E1)/\(0<=v57)/\(0<=v49)/\(0<=v53)/\(v49 < v48)/\(v53 < v52)/\(v5=(E0.length:Int))/\((E1.length:Int)=v5)/\(E0.length<=16448)/\(RWS E0.length E1)/\(v48=v5)/\(v52=v5)/\(v9=v49)/\(v49 < v48)/\(v56=v5)/\(v10=v53)/\(v53 < v52)
def Zcd:Zfd->M6
 | .L0 v1 E0 v5 E1 v17 v18=>(3,(v17 - v18).toNat,1000000,0,0,0)
 | .L1 v1 E0 v5 E1 v7 v17 v18 v26 v27=>(3,(v17 - v18).toNat,1,(v26 - v27).toNat,1000000,0)
 | .L2 E0 v5 E1 v48 v49=>(1,(v48 - v49).toNat,1000000,0,0,0)
 | .L3 E0 v5 E1 v9 v48 v49 v52 v53=>(1,(v48 - v49).toNat,1,(v52 - v53).toNat,1000000,0)
 | .L4 E0 v5 E1 v9 v10 v48 v49 v52 v53 v56 v57=>(1,(v48 - v49).toNat,1,(v52 - v53).toNat,1,(v56 - v57).toNat)
theorem Zakl{a0:List Int}{a1:List (List Bool)}(oa0:(SzL 8 (fun _=>True)) a0)(oa1:(SzL 24 (SzL 1 (fun _=>True))) a1)(h0:a0.length<=16448):Tot (Z3g a0 a1) (Zaf5 a0 a1):=by
 unfold Z3g
 refine tX (Inv:=(Zakk a0 a1)) (μ:=Zcd) (m:=(1000000,0,0,0,0,0)) ?_ ?_
 .have lb_a0:=oa0.1
  have lb_a1:=oa1.1
  dsimp only [Z8t,LT.den]
  have q1:=oa0.1
  refine tB (Tot.mk) (fun x2 h3=>?_)
  have lh3:=h3.1
  exact tL ⟨rfl,rfl,oa1,oa0,⟨lo,fun e he=>by rw [h3.2 e he];exact SzL.nil⟩,cl,cl,cl,cl,(by first | assumption | exact Zafp | exact Zaal ‹_› ‹_› (by omega) (by omega) ‹_› | exact Z82 ‹_› ‹_› (by omega) (by omega) (by omega) | (rw [show IntKind.wrap .i64 (v18+1)=v18+1 by omega];assumption)),cl⟩ (by unfold Zcd lt6;dsimp only;omega)
 .intro s hs
  cases s with
  | L0 v1 E0 v5 E1 v17 v18=>
   obtain⟨al0,al1,ov1,O0,O1,cv18,i0,i1,i2,i3,i4⟩:=hs
   have lb_v1:=ov1.1
   have lb_b30000000:=O0.1
   have lb_b30000001:=O1.1
   subst al0
   subst al1
   show Tot (Zu4 v1 E0 v5 E1 v17 v18).den _
   dsimp only [Zu4,LT.den]
   refine tD (fun h1=>?_) (fun h1=>?_)
   .refine tB (Tot.mk) (fun x2 h3=>?_)
    have lh3:=h3.1
    refine tB (tI (by omega) (by omega)) (fun x4 h5=>?_)
    have oh5:(SzL 1 (fun _=>True)) x4:=O1.2 x4 h5.1
    have mh5:=h5.2;first | have wh5:=Zy4 (by assumption:RWS _ E1) mh5 | have wh5:=Zaem (by assumption:RWV _ E1 _) (by omega) mh5 | skip
    have mh5:=h5.2
    refine tB (Tot.set (by omega) (by omega)) (fun x6 h7=>?_)
    have lh7:=h7.1
    exact tL ⟨rfl,rfl,ov1,O0,⟨lo,fun e he=>(h7.2.1 e he).elim (fun w=>by rw [w];exact SzL.tr) (O1.2 e)⟩,cl,cl,cl,cl,cl,cl,(by first | assumption | exact Zafp | exact Zaal ‹_› ‹_› (by omega) (by omega) ‹_› | exact Z82 ‹_› ‹_› (by omega) (by omega) (by omega) | (rw [show IntKind.wrap .i64 (v18+1)=v18+1 by omega];assumption)),cl,cl,cl,cl⟩ (by unfold Zcd lt6;dsimp only;omega)
   .exact tL ⟨rfl,O0,O1,cl,cl,cl,cl,(by first | assumption | exact Zgm ‹_› (by omega) | exact Zgl ‹_› ‹_› ‹_›),cl⟩ (by unfold Zcd lt6;dsimp only;omega)
  | L1 v1 E0 v5 E1 v7 v17 v18 v26 v27=>
   obtain⟨al0,al1,ov1,O0,O1,cv27,cv18,bd7,i0,i1,i2,i3,i4,i5,i6,i7⟩:=hs
   have lb_v1:=ov1.1
   have lb_b30000000:=O0.1
   have lb_b30000001:=O1.1
   subst al0
   subst al1
   show Tot (Zu5 v1 E0 v5 E1 v7 v17 v18 v26 v27).den _
   dsimp only [Zu5,LT.den]
   refine tD (fun h1=>?_) (fun h1=>?_)
   .refine tB (tI (by omega) (by omega)) (fun x2 h3=>?_)
    have oh3:(SzL 1 (fun _=>True)) x2:=O1.2 x2 h3.1
    have mh3:=h3.2;first | have wh3:=Zy4 (by assumption:RWS _ E1) mh3 | have wh3:=Zaem (by assumption:RWV _ E1 _) (by omega) mh3 | skip
    have mh3:=h3.2
    refine tB (tI (by omega) (by omega)) (fun x4 h5=>?_)
    have mh5:=h5.2
    refine tB (tI (by omega) (by omega)) (fun x6 h7=>?_)
    have mh7:=h7.2
    refine tB (Z06 ov1) (fun x8 h9=>?_)
    refine tB (tI (by omega) (by omega)) (fun x10 h11=>?_)
    have mh11:=h11.2
    refine tB (Tot.setM) (fun x12 h13=>?_)
    have lh13:x12.length=E1.length:=by rw [h13,List.length_set]
    refine qw (v27+1) fun q14 q15=>?_
    exact tL ⟨rfl,rfl,ov1,O0,SzL.setM h13 O1 oh3,cl,cl,cl,cl,cl,cl,(by first | assumption | exact Zafp | exact Zaal ‹_› ‹_› (by omega) (by omega) ‹_› | exact Z82 ‹_› ‹_› (by omega) (by omega) (by omega) | (rw [show IntKind.wrap .i64 (v18+1)=v18+1 by omega];assumption)),cl,cl,cl,cl⟩ (by unfold Zcd lt6;dsimp only;omega)
   .refine qw (v18+1) fun q16 q17=>?_
    exact tL ⟨rfl,rfl,ov1,O0,O1,cl,cl,cl,cl,(by first | assumption | exact Zafp | exact Zaal ‹_› ‹_› (by omega) (by omega) ‹_› | exact Z82 ‹_› ‹_› (by omega) (by omega) (by omega) | (rw [show IntKind.wrap .i64 (v18+1)=v18+1 by omega];assumption)),cl⟩ (by unfold Zcd lt6;dsimp only;omega)
  | L2 E0 v5 E1 v48 v49=>
   obtain⟨al0,O0,O1,cv49,i0,i1,i2,i3,i4⟩:=hs
   have lb_b30000000:=O0.1
   have lb_b30000001:=O1.1
   subst al0
   show Tot (Zu6 E0 v5 E1 v48 v49).den _
   dsimp only [Zu6,LT.den]
   refine tD (fun h1=>?_) (fun h1=>?_)
   .exact tL ⟨rfl,O0,O1,cl,cl,cl,cl,cl,cl,(by first | assumption | exact Zgm ‹_› (by omega) | exact Zgl ‹_› ‹_› ‹_›),cl,cl,cl,cl⟩ (by unfold Zcd lt6;dsimp only;omega)
   .exact tR ⟨cl,cl,‹_›⟩
  | L3 E0 v5 E1 v9 v48 v49 v52 v53=>
   obtain⟨al0,O0,O1,cv53,cv49,bd5,i0,i1,i2,i3,i4,i5,i6,i7⟩:=hs
   have lb_b30000000:=O0.1
   have lb_b30000001:=O1.1
   subst al0
   show Tot (Zu7 E0 v5 E1 v9 v48 v49 v52 v53).den _
   dsimp only [Zu7,LT.den]
   refine tD (fun h1=>?_) (fun h1=>?_)
   .exact tL ⟨rfl,O0,O1,cl,cl,cl,cl,cl,cl,cl,cl,(by first | assumption | exact Zgm ‹_› (by omega) | exact Zgl ‹_› ‹_› ‹_›),cl,cl,cl,cl,cl,cl,cl⟩ (by unfold Zcd lt6;dsimp only;omega)
   .refine qw (v49+1) fun q2 q3=>?_
    exact tL ⟨rfl,O0,O1,cl,cl,cl,cl,(by first | assumption | exact Zgm ‹_› (by omega) | exact Zgl ‹_› ‹_› ‹_›),cl⟩ (by unfold Zcd lt6;dsimp only;omega)
  | L4 E0 v5 E1 v9 v10 v48 v49 v52 v53 v56 v57=>
   obtain⟨al0,O0,O1,cv57,cv49,cv53,bd6,bd7,i0,i1,i2,i3,i4,i5,i6,i7,i8,i9,i10⟩:=hs
   have lb_b30000000:=O0.1
   have lb_b30000001:=O1.1
   subst al0
   show Tot (Zu8 E0 v5 E1 v9 v10 v48 v49 v52 v53 v56 v57).den _
   dsimp only [Zu8,LT.den]
   refine tD (fun h1=>?_) (fun h1=>?_)
   .refine tB (tI (by omega) (by omega)) (fun x2 h3=>?_)
    have oh3:(SzL 1 (fun _=>True)) x2:=O1.2 x2 h3.1
    have mh3:=h3.2;first | have wh3:=Zy4 (by assumption:RWS _ E1) mh3 | have wh3:=Zaem (by assumption:RWV _ E1 _) (by omega) mh3 | skip
    have mh3:=h3.2
    refine tB (tI (by omega) (by omega)) (fun x4 h5=>?_)
    have mh5:=h5.2
    refine tF (fun h6=>?_) (fun h6=>?_)
    .refine tB (tI (by omega) (by omega)) (fun x7 h8=>?_)
     have oh8:(SzL 1 (fun _=>True)) x7:=O1.2 x7 h8.1
     have mh8:=h8.2;first | have wh8:=Zy4 (by assumption:RWS _ E1) mh8 | have wh8:=Zaem (by assumption:RWV _ E1 _) (by omega) mh8 | skip
     have mh8:=h8.2
     refine tB (tI (by omega) (by omega)) (fun x9 h10=>?_)
     have mh10:=h10.2
     refine tF (fun h11=>?_) (fun h11=>?_)
     .refine tB (tI (by omega) (by omega)) (fun x12 h13=>?_)
      have oh13:(SzL 1 (fun _=>True)) x12:=O1.2 x12 h13.1
      have mh13:=h13.2;first | have wh13:=Zy4 (by assumption:RWS _ E1) mh13 | have wh13:=Zaem (by assumption:RWV _ E1 _) (by omega) mh13 | skip
      have mh13:=h13.2
      refine tB (tI (by omega) (by omega)) (fun x14 h15=>?_)
      have mh15:=h15.2
      refine tB (Tot.setM) (fun x16 h17=>?_)
      have lh17:x16.length=E1.length:=by rw [h17,List.length_set]
      refine qw (v57+1) fun q18 q19=>?_
      exact tL ⟨rfl,O0,SzL.setM h17 O1 oh13,cl,cl,cl,cl,cl,cl,cl,cl,(by first | assumption | exact Zgm ‹_› (by omega) | exact Zgl ‹_› ‹_› ‹_›),cl,cl,cl,cl,cl,cl,cl⟩ (by unfold Zcd lt6;dsimp only;omega)
     .refine qw (v57+1) fun q20 q21=>?_
      exact tL ⟨rfl,O0,O1,cl,cl,cl,cl,cl,cl,cl,cl,(by first | assumption | exact Zgm ‹_› (by omega) | exact Zgl ‹_› ‹_› ‹_›),cl,cl,cl,cl,cl,cl,cl⟩ (by unfold Zcd lt6;dsimp only;omega)
    .refine qw (v57+1) fun q22 q23=>?_
     exact tL ⟨rfl,O0,O1,cl,cl,cl,cl,cl,cl,cl,cl,(by first | assumption | exact Zgm ‹_› (by omega) | exact Zgl ‹_› ‹_› ‹_›),cl,cl,cl,cl,cl,cl,cl⟩ (by unfold Zcd lt6;dsimp only;omega)
   .refine qw (v53+1) fun q24 q25=>?_
    exact tL ⟨rfl,O0,O1,cl,cl,cl,cl,cl,cl,(by first | assumption | exact Zgm ‹_› (by omega) | exact Zgl ‹_› ‹_› ‹_›),cl,cl,cl,cl⟩ (by unfold Zcd lt6;dsimp only;omega)
theorem Z0v{a0:Int}{a1:Int}{a2:List Int}{a3:List (List Bool)}(oa2:(SzL 8 (fun _=>True)) a2)(oa3:(SzL 24 (SzL 1 (fun _=>True))) a3)(h0:a3.length=a2.length)(h1:RWS a2.length a3):Tot (Zls a0 a1 a2 a3) (fun r=>True):=by
 unfold Zls
 refine tZ ?_
 have lb_a2:=oa2.1
 have lb_a3:=oa3.1
 dsimp only [Zps,LT.den]
 refine tB (Zil oa2) (fun x1 h2=>?_)
 have eh2_0:=h2.1
 have eh2_1:=h2.2
 refine tB (Zil oa2) (fun x3 h4=>?_)
 have eh4_0:=h4.1
 have eh4_1:=h4.2
 refine tD (fun h5=>?_) (fun h5=>?_)
 .refine tD (fun h6=>?_) (fun h6=>?_)
  .refine tB (tI (by omega) (by omega)) (fun x7 h8=>?_)
   have oh8:(SzL 1 (fun _=>True)) x7:=oa3.2 x7 h8.1
   have mh8:=h8.2;have wh8:=Zy4 (by assumption:RWS _ a3) mh8
   have mh8:=h8.2
   refine tB (tI (by omega) (by omega)) (fun x9 h10=>?_)
   have mh10:=h10.2
   exact tR trivial
  .exact tR trivial
 .exact tR trivial
theorem Zsb{a0:Int}{b0:Int}{b1:List (List Bool)}{b2:(List Int)×(List (List Bool))}(ob1:(SzL 24 (SzL 1 (fun _=>True))) b1)(h0:b2.1.length<=16448)(h1:b2.2.length=b2.1.length)(h2:RWS b2.1.length b2.2):Tot (Zhf a0 b0 b1 b2) (fun r=>True):=by
 unfold Zhf
 refine tZ ?_
 have lb_b1:=ob1.1
 dsimp only [Zkn,LT.den]
 refine tN (fun h1=>?_) (fun h1=>?_)
 .refine tB (Z06 ob1) (fun x2 h3=>?_)
  refine tF (fun h4=>?_) (fun h4=>?_)
  .refine tB (Z0v szx szx cl ‹_›) (fun x5 h6=>?_)
   exact tR trivial
  .exact tR trivial
 .exact tR trivial
abbrev Zke(a0:List Int)(b0:Int)(b1:List (List Bool))(b2:(List Int)×(List (List Bool)))(r:Int×Int×(List (List Bool))×((List Int)×(List (List Bool)))):Prop:=((SzL 24 (SzL 1 (fun _=>True))) r.2.2.1)/\(r.2=(b0,b1,b2))
def Zkl(a0:List Int)(b0:Int)(b1:List (List Bool))(b2:(List Int)×(List (List Bool))):Zbh->Prop
 | .L0 v0 c0 c1 c2 v7 v8=>(v0=a0)/\(c0=b0)/\(c1=b1)/\(c2=b2)/\((SzL 8 (fun _=>True)) v0)/\((SzL 24 (SzL 1 (fun _=>True))) c1)/\(0<=v8)/\(v7=(v0.length:Int))/\(c2.1.length<=16448)/\(c2.2.length=c2.1.length)/\(RWS c2.1.length c2.2)
def Zc9:Zbh->M6
 | .L0 v0 c0 c1 c2 v7 v8=>(1,(v7 - v8).toNat,1000000,0,0,0)
theorem Zkm{a0:List Int}{b0:Int}{b1:List (List Bool)}{b2:(List Int)×(List (List Bool))}(oa0:(SzL 8 (fun _=>True)) a0)(ob1:(SzL 24 (SzL 1 (fun _=>True))) b1)(h0:b2.1.length<=16448)(h1:b2.2.length=b2.1.length)(h2:RWS b2.1.length b2.2):Tot (Zds a0 b0 b1 b2) (Zke a0 b0 b1 b2):=by
 unfold Zds
 refine tX (Inv:=(Zkl a0 b0 b1 b2)) (μ:=Zc9) (m:=(1000000,0,0,0,0,0)) ?_ ?_
 .have lb_a0:=oa0.1
  have lb_b1:=ob1.1
  dsimp only [Zfu,LT.den]
  have q1:=oa0.1
  exact tL ⟨rfl,rfl,rfl,rfl,oa0,ob1,cl,cl,cl,cl,(by first | assumption)⟩ (by unfold Zc9 lt6;dsimp only;omega)
 .intro s hs
  cases s with
  | L0 v0 c0 c1 c2 v7 v8=>
   obtain⟨al0,al1,al2,al3,ov0,oc1,cv8,i0,i1,i2,i3⟩:=hs
   have lb_v0:=ov0.1
   have lb_c1:=oc1.1
   subst al0
   subst al1
   subst al2
   subst al3
   show Tot (Zc7 v0 c0 c1 c2 v7 v8).den _
   dsimp only [Zc7,LT.den]
   refine tD (fun h1=>?_) (fun h1=>?_)
   .refine tB (tI (by omega) (by omega)) (fun x2 h3=>?_)
    refine tB (Zsb oc1 cl cl (by first | assumption)) (fun x4 h5=>?_)
    refine tF (fun h6=>?_) (fun h6=>?_)
    .exact tR ⟨oc1,(by first | rfl | assumption)⟩
    .refine qw (v8+1) fun q7 q8=>?_
     exact tL ⟨rfl,rfl,rfl,rfl,ov0,oc1,cl,cl,cl,cl,(by first | assumption)⟩ (by unfold Zc9 lt6;dsimp only;omega)
   .exact tR ⟨oc1,(by first | rfl | assumption)⟩
theorem Zjt{a0:List Int}{b0:Int}{b1:List (List Bool)}{b2:(List Int)×(List (List Bool))}(oa0:(SzL 8 (fun _=>True)) a0)(ob1:(SzL 24 (SzL 1 (fun _=>True))) b1)(h0:b2.1.length<=16448)(h1:b2.2.length=b2.1.length)(h2:RWS b2.1.length b2.2):Tot (Zc8 a0 b0 b1 b2) (fun r=>((SzL 24 (SzL 1 (fun _=>True))) r.2.2.1)/\(r.2=(b0,b1,b2))):=by
 unfold Zc8
 refine tZ ?_
 have lb_a0:=oa0.1
 have lb_b1:=ob1.1
 dsimp only [Ze1,LT.den]
 refine tB (Zkm oa0 ob1 cl cl (by first | assumption)) (fun x1 h2=>?_)
 have eh2_1:=h2.2
 exact tR ⟨h2.1,(by first | rfl | assumption)⟩
abbrev Zaf6(a0:List Int)(a1:List (List Bool))(r:List Int):Prop:=((SzL 8 (fun _=>True)) r)/\(r.length<=16448)/\(SUB r a0)
def Zakm(a0:List Int)(a1:List (List Bool)):Zmp->Prop
 | .L0 E0 v5 E1 v7 v16 v17 v18=>((SzL 24 (SzL 1 (fun _=>True))) E0)/\((SzL 8 (fun _=>True)) v5)/\((SzL 8 (fun _=>True)) v7)/\((SzL 8 (fun _=>True)) v16)/\(0<=v18)/\(v5.length<=16448)/\(v17=(v16.length:Int))/\(v16.length<=16448)/\(v7.length<=v18.toNat)/\(v18<=v17)/\(SUB v16 a0)/\(SUB v7 a0)/\(E1.1.length<=16448)/\(E1.2.length=E1.1.length)/\(RWS E1.1.length E1.2)
def Zow:Zmp->M6
 | .L0 E0 v5 E1 v7 v16 v17 v18=>(1,(v17 - v18).toNat,1000000,0,0,0)
theorem Zakn{a0:List Int}{a1:List (List Bool)}(oa0:(SzL 8 (fun _=>True)) a0)(oa1:(SzL 24 (SzL 1 (fun _=>True))) a1)(h0:a0.length<=16448):Tot (Zva a0 a1) (Zaf6 a0 a1):=by
 unfold Zva
 refine tX (Inv:=(Zakm a0 a1)) (μ:=Zow) (m:=(1000000,0,0,0,0,0)) ?_ ?_
 .have lb_a0:=oa0.1
  have lb_a1:=oa1.1
  dsimp only [Z8v,LT.den]
  refine tB (Zaca oa0) (fun x1 h2=>?_)
  have eh2_1:=h2.2.1
  have eh2_2:=h2.2.2
  refine tB (Zakl h2.1 oa1 cl) (fun x3 h4=>?_)
  have eh4_0:=h4.1
  have eh4_1:=h4.2.1
  have eh4_2:=h4.2.2
  have q5:=h2.1.1
  exact tL ⟨oa1,h2.1,SzL.nil,h2.1,cl,cl,cl,cl,cl,cl,‹_›,(by first | exact Zw5 | assumption | exact sub_app' (d:=v16) ‹_› ‹_› ‹_› ‹_›),cl,cl,(by first | assumption | exact Zaxb ‹_› (by omega))⟩ (by unfold Zow lt6;dsimp only;omega)
 .intro s hs
  cases s with
  | L0 E0 v5 E1 v7 v16 v17 v18=>
   obtain⟨O0,ov5,ov7,ov16,cv18,i0,i1,i2,i3,i4,i5,i6,i7,i8,i9⟩:=hs
   have lb_b30000000:=O0.1
   have lb_v5:=ov5.1
   have lb_v7:=ov7.1
   have lb_v16:=ov16.1
   show Tot (Zu9 E0 v5 E1 v7 v16 v17 v18).den _
   dsimp only [Zu9,LT.den]
   refine tD (fun h1=>?_) (fun h1=>?_)
   .refine tB (tI (by omega) (by omega)) (fun x2 h3=>?_)
    have mh3:=h3.2
    refine tB (Zjt ov5 O0 cl cl (by first | assumption)) (fun x4 h5=>?_)
    have eh5_1:=h5.2
    have mh5:v16[v18.toNat]?=some x4.2.1:=by rw [eh5_1];assumption
    have uh5:x4.2.2.2.1.length<=16448:=by rw [eh5_1];assumption
    have wh5:x4.2.2.2.2.length=x4.2.2.2.1.length:=by rw [eh5_1];assumption
    have zh5:RWS x4.2.2.2.1.length x4.2.2.2.2:=by rw [eh5_1];assumption
    refine tO (fun h6=>?_) (fun h6=>?_)
    .have q9:=ov7.1
     refine tB (tA (by simp only [List.length_cons,List.length_nil];omega) (by decide)) (fun x7 h8=>?_)
     have lh8:x7.length=v7.length+1:=by rw [h8,List.length_append];rfl
     refine qw (v18+1) fun q10 q11=>?_
     exact tL ⟨h5.1,ov5,SzL.tr,ov16,cl,cl,cl,cl,cl,cl,‹_›,(by first | exact Zw5 | assumption | exact sub_app' (d:=v16) ‹_› ‹_› ‹_› ‹_›),cl,cl,(by first | assumption | exact Zaxb ‹_› (by omega))⟩ (by unfold Zow lt6;dsimp only;omega)
    .refine qw (v18+1) fun q12 q13=>?_
     exact tL ⟨h5.1,ov5,ov7,ov16,cl,cl,cl,cl,cl,cl,‹_›,(by first | exact Zw5 | assumption | exact sub_app' (d:=v16) ‹_› ‹_› ‹_› ‹_›),cl,cl,(by first | assumption | exact Zaxb ‹_› (by omega))⟩ (by unfold Zow lt6;dsimp only;omega)
   .exact tR ⟨ov7,cl,‹_›⟩
theorem Z35{a0:List Int}{a1:Int}(oa0:(SzL 8 (fun _=>True)) a0)(h0:0<=a1):Tot (Z3h a0 a1) (fun r=>True):=by
 unfold Z3h
 refine tZ ?_
 have lb_a0:=oa0.1
 dsimp only [Z8x,LT.den]
 have q1:=oa0.1
 refine tD (fun h2=>?_) (fun h2=>?_)
 .refine tB (tI (by omega) (by omega)) (fun x3 h4=>?_)
  exact tR trivial
 .exact tR trivial
def Zaof(a0:List Int)(a1:List Int)(a2:List (List Bool)):Zn5->Prop
 | .L0 v1 v7 v14 v15 v16=>(v1=a1)/\((SzL 8 (fun _=>True)) v1)/\((SzL 8 (fun _=>True)) v14)/\(0<=v16)/\(POS a0)/\(v15=(v14.length:Int))/\(v14.length<=16448)/\(SUB v14 a0)/\(v7 < 0\/v7∈a0)
def Zhy:Zn5->M6
 | .L0 v1 v7 v14 v15 v16=>(1,(v15 - v16).toNat,1000000,0,0,0)
theorem Zaog{a0:List Int}{a1:List Int}{a2:List (List Bool)}(oa0:(SzL 8 (fun _=>True)) a0)(oa1:(SzL 8 (fun _=>True)) a1)(oa2:(SzL 24 (SzL 1 (fun _=>True))) a2)(h0:a0.length<=16448)(h1:POS a0):Tot (Z60 a0 a1 a2) (fun r=>(r < 0\/r∈a0)):=by
 unfold Z60
 refine tX (Inv:=(Zaof a0 a1 a2)) (μ:=Zhy) (m:=(1000000,0,0,0,0,0)) ?_ ?_
 .have lb_a0:=oa0.1
  have lb_a1:=oa1.1
  have lb_a2:=oa2.1
  dsimp only [Zabr,LT.den]
  refine tB (Zakn oa0 oa2 cl) (fun x1 h2=>?_)
  have eh2_1:=h2.2.1
  have eh2_2:=h2.2.2
  have q3:=h2.1.1
  exact tL ⟨rfl,oa1,h2.1,cl,‹_›,cl,cl,‹_›,(by first | assumption | exact Z81 ‹_› ‹_› | (left;omega))⟩ (by unfold Zhy lt6;dsimp only;omega)
 .intro s hs
  cases s with
  | L0 v1 v7 v14 v15 v16=>
   obtain⟨al0,ov1,ov14,cv16,i0,i1,i2,i3,i4⟩:=hs
   have lb_v1:=ov1.1
   have lb_v14:=ov14.1
   subst al0
   show Tot (Zw0 v1 v7 v14 v15 v16).den _
   dsimp only [Zw0,LT.den]
   refine tD (fun h1=>?_) (fun h1=>?_)
   .refine tB (tI (by omega) (by omega)) (fun x2 h3=>?_)
    have mh3:=h3.2;have zh3:=Za90 (by assumption:POS a0) (by assumption:SUB v14 a0) mh3
    have mh3:=h3.2
    refine tD (fun h4=>?_) (fun h4=>?_)
    .refine qw (v16+1) fun q5 q6=>?_
     exact tL ⟨rfl,ov1,ov14,cl,‹_›,cl,cl,‹_›,(by first | assumption | exact Z81 ‹_› ‹_› | (left;omega))⟩ (by unfold Zhy lt6;dsimp only;omega)
    .refine tB (Z35 ov1 cl) (fun x7 h8=>?_)
     refine tB (Z35 ov1 cl) (fun x9 h10=>?_)
     refine tD (fun h11=>?_) (fun h11=>?_)
     .refine qw (v16+1) fun q12 q13=>?_
      exact tL ⟨rfl,ov1,ov14,cl,‹_›,cl,cl,‹_›,(by first | assumption | exact Z81 ‹_› ‹_› | (left;omega))⟩ (by unfold Zhy lt6;dsimp only;omega)
     .refine tE (fun h14=>?_) (fun h14=>?_)
      .refine tD (fun h15=>?_) (fun h15=>?_)
       .refine qw (v16+1) fun q16 q17=>?_
        exact tL ⟨rfl,ov1,ov14,cl,‹_›,cl,cl,‹_›,(by first | assumption | exact Z81 ‹_› ‹_› | (left;omega))⟩ (by unfold Zhy lt6;dsimp only;omega)
       .refine qw (v16+1) fun q18 q19=>?_
        exact tL ⟨rfl,ov1,ov14,cl,‹_›,cl,cl,‹_›,(by first | assumption | exact Z81 ‹_› ‹_› | (left;omega))⟩ (by unfold Zhy lt6;dsimp only;omega)
      .refine qw (v16+1) fun q20 q21=>?_
       exact tL ⟨rfl,ov1,ov14,cl,‹_›,cl,cl,‹_›,(by first | assumption | exact Z81 ‹_› ‹_› | (left;omega))⟩ (by unfold Zhy lt6;dsimp only;omega)
   .exact tR ‹_›
abbrev Zvy(b0:Zj)(r:Zj):Prop:=(Zz r)/\(r.traits.length=r.s.Objects.length)/\(r.dropped.length=r.s.Objects.length)/\(r.done.length=r.forces.length)/\(r.hits.length=r.forces.length)/\(r.s.Objects.length<=2048)/\(r.forces.length<=16448)/\(HI r.s.Objects.length r.hits)/\(r.s=b0.s)/\(r.forces=b0.forces)
def Zv4(b0:Zj):Zd4->Prop
 | .L0 c0 v10 v11 v12=>(Zz c0)/\((SzL 128 (fun _=>True)) v10)/\(0<=v12)/\(c0.traits.length=c0.s.Objects.length)/\(c0.dropped.length=c0.s.Objects.length)/\(c0.done.length=c0.forces.length)/\(c0.hits.length=c0.forces.length)/\(c0.s.Objects.length<=2048)/\(c0.forces.length<=16448)/\(HI c0.s.Objects.length c0.hits)/\(c0.s=b0.s)/\(c0.forces=b0.forces)/\(v11=(v10.length:Int))/\(v11=(c0.s.Objects.length:Int))
def Zdy:Zd4->M6
 | .L0 c0 v10 v11 v12=>(1,(v11 - v12).toNat,1000000,0,0,0)
theorem Zv5{b0:Zj}(ob0:Zz b0)(h0:b0.traits.length=b0.s.Objects.length)(h1:b0.dropped.length=b0.s.Objects.length)(h2:b0.done.length=b0.forces.length)(h3:b0.hits.length=b0.forces.length)(h4:b0.s.Objects.length<=2048)(h5:b0.forces.length<=16448)(h6:HI b0.s.Objects.length b0.hits):Tot (Zjn b0) (Zvy b0):=by
 unfold Zjn
 refine tX (Inv:=(Zv4 b0)) (μ:=Zdy) (m:=(1000000,0,0,0,0,0)) ?_ ?_
 .dsimp only [Zm4,LT.den]
  have q1:=ob0.1.2.1.1
  exact tL ⟨ob0,ob0.1.2.1,cl,cl,cl,cl,cl,cl,cl,(by first | assumption | exact Zae | exact Zao (by assumption:(_:Int)=_/\∀ y:List Int,y∈_->y=[]).2),(by first | rfl | assumption | grind),(by first | rfl | assumption | grind),cl,cl⟩ (by unfold Zdy lt6;dsimp only;omega)
 .intro s hs
  cases s with
  | L0 c0 v10 v11 v12=>
   obtain⟨oc0,ov10,cv12,i0,i1,i2,i3,i4,i5,i6,i7,i8,i9,i10⟩:=hs
   have lb_v10:=ov10.1
   show Tot (Zho c0 v10 v11 v12).den _
   dsimp only [Zho,LT.den]
   refine tD (fun h1=>?_) (fun h1=>?_)
   .refine tB (tI (by omega) (by omega)) (fun x2 h3=>?_)
    have mh3:=h3.2
    refine tB (tI (by omega) (by omega)) (fun x4 h5=>?_)
    have oh5:Zv x4:=oc0.2.2.1.2 x4 h5.1
    have mh5:=h5.2;have nh5:=oh5.1;have ah5:=oh5.2.1;have bh5:=oh5.2.2;unfold SzS at nh5
    have mh5:=h5.2
    refine tE (fun h6=>?_) (fun h6=>?_)
    .refine tN (fun h7=>?_) (fun h7=>?_)
     .refine tB (Zaf2) (fun x8 h9=>?_)
      refine tB (Zr8) (fun x10 h11=>?_)
      refine tB (Zr8) (fun x12 h13=>?_)
      refine tB (Tot.set (by omega) (by omega)) (fun x14 h15=>?_)
      have lh15:=h15.1
      refine tB (Tot.set2 (by omega) (by omega) (by omega)) (fun x16 h17=>?_)
      have lh17:=h17.1
      refine qw (v12+1) fun q18 q19=>?_
      exact tL ⟨⟨oc0.1,oc0.2.1,⟨lo,fun e he=>(h17.2.1 e he).elim (fun w=>by rw [w];exact⟨(by unfold SzS;first | omega | (simp only [List.length_append,List.length_cons,List.length_nil];omega)),szx,szx⟩) ((show SzL 1 Zv _ from ⟨lo,fun e he=>(h15.2.1 e he).elim (fun w=>by rw [w];exact⟨oh5.1,oh5.2.1,oh5.2.2⟩) (oc0.2.2.1.2 e)⟩).2 e)⟩,oc0.2.2.2.1,oc0.2.2.2.2.1,oc0.2.2.2.2.2⟩,ov10,cl,cl,cl,cl,cl,cl,cl,(by first | assumption | exact Zae | exact Zao (by assumption:(_:Int)=_/\∀ y:List Int,y∈_->y=[]).2),(by first | rfl | assumption | grind),(by first | rfl | assumption | grind),cl,cl⟩ (by unfold Zdy lt6;dsimp only;omega)
     .refine qw (v12+1) fun q20 q21=>?_
      exact tL ⟨oc0,ov10,cl,cl,cl,cl,cl,cl,cl,(by first | assumption | exact Zae | exact Zao (by assumption:(_:Int)=_/\∀ y:List Int,y∈_->y=[]).2),(by first | rfl | assumption | grind),(by first | rfl | assumption | grind),cl,cl⟩ (by unfold Zdy lt6;dsimp only;omega)
    .refine qw (v12+1) fun q22 q23=>?_
     exact tL ⟨oc0,ov10,cl,cl,cl,cl,cl,cl,cl,(by first | assumption | exact Zae | exact Zao (by assumption:(_:Int)=_/\∀ y:List Int,y∈_->y=[]).2),(by first | rfl | assumption | grind),(by first | rfl | assumption | grind),cl,cl⟩ (by unfold Zdy lt6;dsimp only;omega)
   .exact tR ⟨oc0,cl,cl,cl,cl,cl,cl,(by first | assumption | exact Zae | exact Zao (by assumption:(_:Int)=_/\∀ y:List Int,y∈_->y=[]).2),(by first | rfl | assumption | grind),(by first | rfl | assumption | grind)⟩
def Ztr(b0:Zj)(a1:Int)(a2:Int):Zdq->Prop
 | .L0 v1 v2 E1 v18 v19 v20=>(v1=a1)/\(v2=a2)/\(Zbn E1)/\((SzL 176 Zu) v18)/\(0<=v20)/\(b0.traits.length=b0.s.Objects.length)/\(b0.dropped.length=b0.s.Objects.length)/\(b0.done.length=b0.forces.length)/\(b0.hits.length=b0.forces.length)/\(b0.s.Objects.length<=2048)/\(b0.forces.length<=16448)/\(HI b0.s.Objects.length b0.hits)/\(Zz b0)/\(0<=v1)/\(v1 < (b0.forces.length:Int))/\(v19=(v18.length:Int))
def Zdl:Zdq->M6
 | .L0 v1 v2 E1 v18 v19 v20=>(1,(v19 - v20).toNat,1000000,0,0,0)
theorem Zts{b0:Zj}{a1:Int}{a2:Int}(ob0:Zz b0)(h0:b0.traits.length=b0.s.Objects.length)(h1:b0.dropped.length=b0.s.Objects.length)(h2:b0.done.length=b0.forces.length)(h3:b0.hits.length=b0.forces.length)(h4:b0.s.Objects.length<=2048)(h5:b0.forces.length<=16448)(h6:HI b0.s.Objects.length b0.hits)(h7:0<=a1)(h8:a1 < (b0.forces.length:Int)):Tot (Zih b0 a1 a2) (fun r=>True):=by
 unfold Zih
 refine tX (Inv:=(Ztr b0 a1 a2)) (μ:=Zdl) (m:=(1000000,0,0,0,0,0)) ?_ ?_
 .dsimp only [Zlx,LT.den]
  refine tB (tI (by omega) (by omega)) (fun x1 h2=>?_)
  have oh2:Zbn x1:=ob0.2.1.2 x1 h2.1
  have mh2:=h2.2
  have q3:=oh2.2.2.1
  exact tL ⟨rfl,rfl,oh2,oh2.2.2,cl,cl,cl,cl,cl,cl,cl,(by first | assumption | exact Zae | exact Zao (by assumption:(_:Int)=_/\∀ y:List Int,y∈_->y=[]).2),‹_›,cl,cl,cl⟩ (by unfold Zdl lt6;dsimp only;omega)
 .intro s hs
  cases s with
  | L0 v1 v2 E1 v18 v19 v20=>
   obtain⟨al0,al1,O1,ov18,cv20,i0,i1,i2,i3,i4,i5,i6,i7,i8,i9,i10⟩:=hs
   have lb_v18:=ov18.1
   subst al0
   subst al1
   show Tot (Zg3 b0 v1 v2 E1 v18 v19 v20).den _
   dsimp only [Zg3,LT.den]
   refine tD (fun h1=>?_) (fun h1=>?_)
   .refine tB (tI (by omega) (by omega)) (fun x2 h3=>?_)
    have oh3:Zu x2:=ov18.2 x2 h3.1
    have mh3:=h3.2
    refine tE (fun h4=>?_) (fun h4=>?_)
    .refine tB (Zsq) (fun x5 h6=>?_)
     refine tE (fun h7=>?_) (fun h7=>?_)
     .refine tB (Zwc oh3.2) (fun x8 h9=>?_)
      refine tF (fun h10=>?_) (fun h10=>?_)
      .exact tR trivial
      .refine qw (v20+1) fun q11 q12=>?_
       exact tL ⟨rfl,rfl,O1,ov18,cl,cl,cl,cl,cl,cl,cl,(by first | assumption | exact Zae | exact Zao (by assumption:(_:Int)=_/\∀ y:List Int,y∈_->y=[]).2),‹_›,cl,cl,cl⟩ (by unfold Zdl lt6;dsimp only;omega)
     .refine qw (v20+1) fun q13 q14=>?_
      exact tL ⟨rfl,rfl,O1,ov18,cl,cl,cl,cl,cl,cl,cl,(by first | assumption | exact Zae | exact Zao (by assumption:(_:Int)=_/\∀ y:List Int,y∈_->y=[]).2),‹_›,cl,cl,cl⟩ (by unfold Zdl lt6;dsimp only;omega)
    .refine qw (v20+1) fun q15 q16=>?_
     exact tL ⟨rfl,rfl,O1,ov18,cl,cl,cl,cl,cl,cl,cl,(by first | assumption | exact Zae | exact Zao (by assumption:(_:Int)=_/\∀ y:List Int,y∈_->y=[]).2),‹_›,cl,cl,cl⟩ (by unfold Zdl lt6;dsimp only;omega)
   .refine tO (fun h17=>?_) (fun h17=>?_)
    .refine tB (tI (by omega) (by omega)) (fun x18 h19=>?_)
     have mh19:=h19.2
     refine tO (fun h20=>?_) (fun h20=>?_)
     .refine tE (fun h21=>?_) (fun h21=>?_)
      .exact tR trivial
      .refine tB (Zwc O1.2.1) (fun x22 h23=>?_)
       exact tR trivial
     .exact tR trivial
    .exact tR trivial
theorem Zlk{b0:Zj}{a1:Int}(ob0:Zz b0)(h0:b0.traits.length=b0.s.Objects.length)(h1:b0.dropped.length=b0.s.Objects.length)(h2:b0.done.length=b0.forces.length)(h3:b0.hits.length=b0.forces.length)(h4:b0.s.Objects.length<=2048)(h5:b0.forces.length<=16448)(h6:HI b0.s.Objects.length b0.hits)(h7:0<=a1)(h8:a1 < (b0.forces.length:Int)):Tot (Zi9 b0 a1) (fun r=>True):=by
 unfold Zi9
 refine tZ ?_
 dsimp only [Zmq,LT.den]
 refine tB (tI (by omega) (by omega)) (fun x1 h2=>?_)
 have oh2:Zbn x1:=ob0.2.1.2 x1 h2.1
 refine tF (fun h3=>?_) (fun h3=>?_)
 .exact tR trivial
 .refine tB (tI (by omega) (by omega)) (fun x4 h5=>?_)
  refine tF (fun h6=>?_) (fun h6=>?_)
  .exact tR trivial
  .refine tB (Zvw ob0.1) (fun x7 h8=>?_)
   have eh8_0:=h8.1
   have eh8_1:=h8.2.1
   have eh8_2:=h8.2.2
   refine tD (fun h9=>?_) (fun h9=>?_)
   .exact tR trivial
   .refine tB (tI (by omega) (by omega)) (fun x10 h11=>?_)
    exact tR trivial
theorem Zio{b0:Zj}{a1:Int}(ob0:Zz b0)(h0:b0.traits.length=b0.s.Objects.length)(h1:b0.dropped.length=b0.s.Objects.length)(h2:b0.done.length=b0.forces.length)(h3:b0.hits.length=b0.forces.length)(h4:b0.s.Objects.length<=2048)(h5:b0.forces.length<=16448)(h6:HI b0.s.Objects.length b0.hits)(h7:0<=a1)(h8:a1 < (b0.forces.length:Int)):Tot (Zkv b0 a1) (fun r=>True):=by
 unfold Zkv
 refine tZ ?_
 dsimp only [Zos,LT.den]
 refine tB (tI (by omega) (by omega)) (fun x1 h2=>?_)
 have oh2:Zbn x1:=ob0.2.1.2 x1 h2.1
 refine tB (Zvw ob0.1) (fun x3 h4=>?_)
 have eh4_0:=h4.1
 have eh4_1:=h4.2.1
 have eh4_2:=h4.2.2
 refine tO (fun h5=>?_) (fun h5=>?_)
 .refine tD (fun h6=>?_) (fun h6=>?_)
  .refine tB (tI (by omega) (by omega)) (fun x7 h8=>?_)
   have oh8:Zv x7:=ob0.2.2.1.2 x7 h8.1
   exact tR trivial
  .exact tR trivial
 .exact tR trivial
abbrev Zsc(b0:Zj)(a1:Int)(r:List Int):Prop:=((SzL 8 (fun _=>True)) r)/\(r.length<=b0.s.Objects.length)/\(INR b0.s.Objects.length r)
def Zs7(b0:Zj)(a1:Int):Zdh->Prop
 | .L0 E1 v6 v7 v42 v43 v44=>(Zbn E1)/\((SzL 8 (fun _=>True)) v7)/\((SzL 128 (fun _=>True)) v42)/\(0<=v44)/\(b0.traits.length=b0.s.Objects.length)/\(b0.dropped.length=b0.s.Objects.length)/\(b0.done.length=b0.forces.length)/\(b0.hits.length=b0.forces.length)/\(b0.s.Objects.length<=2048)/\(b0.forces.length<=16448)/\(HI b0.s.Objects.length b0.hits)/\(Zz b0)/\(v43=(v42.length:Int))/\(v43=(b0.s.Objects.length:Int))/\(v7.length<=v44.toNat)/\(v44<=v43)/\(INR b0.s.Objects.length v7)
def Zaw:Zdh->M6
 | .L0 E1 v6 v7 v42 v43 v44=>(1,(v43 - v44).toNat,1000000,0,0,0)
theorem Zkf{b0:Zj}{a1:Int}(ob0:Zz b0)(h0:b0.traits.length=b0.s.Objects.length)(h1:b0.dropped.length=b0.s.Objects.length)(h2:b0.done.length=b0.forces.length)(h3:b0.hits.length=b0.forces.length)(h4:b0.s.Objects.length<=2048)(h5:b0.forces.length<=16448)(h6:HI b0.s.Objects.length b0.hits)(h7:0<=a1)(h8:a1 < (b0.forces.length:Int)):Tot (Zhp b0 a1) (Zsc b0 a1):=by
 unfold Zhp
 refine tX (Inv:=(Zs7 b0 a1)) (μ:=Zaw) (m:=(1000000,0,0,0,0,0)) ?_ ?_
 .dsimp only [Zlf,LT.den]
  refine tB (tI (by omega) (by omega)) (fun x1 h2=>?_)
  have mh2:=h2.2
  refine tF (fun h3=>?_) (fun h3=>?_)
  .refine tB (tI (by omega) (by omega)) (fun x4 h5=>?_)
   have oh5:(SzL 8 (fun _=>True)) x4:=ob0.2.2.2.2.2.2 x4 h5.1
   have mh5:=h5.2
   exact tR ⟨oh5,(by first | omega | exact (Z83 ‹_› ‹_›).1 | (simp;done)),(by first | assumption | exact Zf0 | exact (Z83 ‹_› ‹_›).2)⟩
  .refine tB (Zlk ob0 cl cl cl cl cl cl (by first | assumption | exact Zae | exact Zao (by assumption:(_:Int)=_/\∀ y:List Int,y∈_->y=[]).2) cl cl) (fun x6 h7=>?_)
   refine tO (fun h8=>?_) (fun h8=>?_)
   .exact tR ⟨SzL.nil,(by first | omega | exact (Z83 ‹_› ‹_›).1 | (simp;done)),(by first | assumption | exact Zf0 | exact (Z83 ‹_› ‹_›).2)⟩
   .refine tB (tI (by omega) (by omega)) (fun x9 h10=>?_)
    have oh10:Zbn x9:=ob0.2.1.2 x9 h10.1
    have mh10:=h10.2
    refine tB (Zio ob0 cl cl cl cl cl cl (by first | assumption | exact Zae | exact Zao (by assumption:(_:Int)=_/\∀ y:List Int,y∈_->y=[]).2) cl cl) (fun x11 h12=>?_)
    have q13:=ob0.1.2.1.1
    exact tL ⟨oh10,SzL.nil,ob0.1.2.1,cl,cl,cl,cl,cl,cl,cl,(by first | assumption | exact Zae | exact Zao (by assumption:(_:Int)=_/\∀ y:List Int,y∈_->y=[]).2),‹_›,cl,cl,cl,cl,(by first | assumption | exact Zf0 | exact Zhu ‹_› ‹_› (by omega) (by omega))⟩ (by unfold Zaw lt6;dsimp only;omega)
 .intro s hs
  cases s with
  | L0 E1 v6 v7 v42 v43 v44=>
   obtain⟨O1,ov7,ov42,cv44,i0,i1,i2,i3,i4,i5,i6,i7,i8,i9,i10,i11,i12⟩:=hs
   have lb_v7:=ov7.1
   have lb_v42:=ov42.1
   show Tot (Zgq b0 E1 v6 v7 v42 v43 v44).den _
   dsimp only [Zgq,LT.den]
   refine tD (fun h1=>?_) (fun h1=>?_)
   .refine tB (tI (by omega) (by omega)) (fun x2 h3=>?_)
    have mh3:=h3.2
    refine tE (fun h4=>?_) (fun h4=>?_)
    .refine tF (fun h5=>?_) (fun h5=>?_)
     .refine tB (Zlj O1.1) (fun x6 h7=>?_)
      refine tF (fun h8=>?_) (fun h8=>?_)
      .have q11:=ov7.1
       refine tB (tA (by simp only [List.length_cons,List.length_nil];omega) (by decide)) (fun x9 h10=>?_)
       have lh10:x9.length=v7.length+1:=by rw [h10,List.length_append];rfl
       refine qw (v44+1) fun q12 q13=>?_
       exact tL ⟨O1,SzL.tr,ov42,cl,cl,cl,cl,cl,cl,cl,(by first | assumption | exact Zae | exact Zao (by assumption:(_:Int)=_/\∀ y:List Int,y∈_->y=[]).2),‹_›,cl,cl,cl,cl,(by first | assumption | exact Zf0 | exact Zhu ‹_› ‹_› (by omega) (by omega))⟩ (by unfold Zaw lt6;dsimp only;omega)
      .refine tO (fun h14=>?_) (fun h14=>?_)
       .refine tB (tI (by omega) (by omega)) (fun x15 h16=>?_)
        have oh16:Zv x15:=(asz:Zz b0).2.2.1.2 x15 h16.1
        have mh16:=h16.2
        refine tB (Z34 oh16 O1.2.1) (fun x17 h18=>?_)
        refine tF (fun h19=>?_) (fun h19=>?_)
        .have q22:=ov7.1
         refine tB (tA (by simp only [List.length_cons,List.length_nil];omega) (by decide)) (fun x20 h21=>?_)
         have lh21:x20.length=v7.length+1:=by rw [h21,List.length_append];rfl
         refine qw (v44+1) fun q23 q24=>?_
         exact tL ⟨O1,SzL.tr,ov42,cl,cl,cl,cl,cl,cl,cl,(by first | assumption | exact Zae | exact Zao (by assumption:(_:Int)=_/\∀ y:List Int,y∈_->y=[]).2),‹_›,cl,cl,cl,cl,(by first | assumption | exact Zf0 | exact Zhu ‹_› ‹_› (by omega) (by omega))⟩ (by unfold Zaw lt6;dsimp only;omega)
        .refine qw (v44+1) fun q25 q26=>?_
         exact tL ⟨O1,ov7,ov42,cl,cl,cl,cl,cl,cl,cl,(by first | assumption | exact Zae | exact Zao (by assumption:(_:Int)=_/\∀ y:List Int,y∈_->y=[]).2),‹_›,cl,cl,cl,cl,(by first | assumption | exact Zf0 | exact Zhu ‹_› ‹_› (by omega) (by omega))⟩ (by unfold Zaw lt6;dsimp only;omega)
       .refine qw (v44+1) fun q27 q28=>?_
        exact tL ⟨O1,ov7,ov42,cl,cl,cl,cl,cl,cl,cl,(by first | assumption | exact Zae | exact Zao (by assumption:(_:Int)=_/\∀ y:List Int,y∈_->y=[]).2),‹_›,cl,cl,cl,cl,(by first | assumption | exact Zf0 | exact Zhu ‹_› ‹_› (by omega) (by omega))⟩ (by unfold Zaw lt6;dsimp only;omega)
     .refine tO (fun h29=>?_) (fun h29=>?_)
      .refine tB (tI (by omega) (by omega)) (fun x30 h31=>?_)
       have oh31:Zv x30:=(asz:Zz b0).2.2.1.2 x30 h31.1
       have mh31:=h31.2
       refine tB (Z34 oh31 O1.2.1) (fun x32 h33=>?_)
       refine tF (fun h34=>?_) (fun h34=>?_)
       .have q37:=ov7.1
        refine tB (tA (by simp only [List.length_cons,List.length_nil];omega) (by decide)) (fun x35 h36=>?_)
        have lh36:x35.length=v7.length+1:=by rw [h36,List.length_append];rfl
        refine qw (v44+1) fun q38 q39=>?_
        exact tL ⟨O1,SzL.tr,ov42,cl,cl,cl,cl,cl,cl,cl,(by first | assumption | exact Zae | exact Zao (by assumption:(_:Int)=_/\∀ y:List Int,y∈_->y=[]).2),‹_›,cl,cl,cl,cl,(by first | assumption | exact Zf0 | exact Zhu ‹_› ‹_› (by omega) (by omega))⟩ (by unfold Zaw lt6;dsimp only;omega)
       .refine qw (v44+1) fun q40 q41=>?_
        exact tL ⟨O1,ov7,ov42,cl,cl,cl,cl,cl,cl,cl,(by first | assumption | exact Zae | exact Zao (by assumption:(_:Int)=_/\∀ y:List Int,y∈_->y=[]).2),‹_›,cl,cl,cl,cl,(by first | assumption | exact Zf0 | exact Zhu ‹_› ‹_› (by omega) (by omega))⟩ (by unfold Zaw lt6;dsimp only;omega)
      .refine qw (v44+1) fun q42 q43=>?_
       exact tL ⟨O1,ov7,ov42,cl,cl,cl,cl,cl,cl,cl,(by first | assumption | exact Zae | exact Zao (by assumption:(_:Int)=_/\∀ y:List Int,y∈_->y=[]).2),‹_›,cl,cl,cl,cl,(by first | assumption | exact Zf0 | exact Zhu ‹_› ‹_› (by omega) (by omega))⟩ (by unfold Zaw lt6;dsimp only;omega)
    .refine qw (v44+1) fun q44 q45=>?_
     exact tL ⟨O1,ov7,ov42,cl,cl,cl,cl,cl,cl,cl,(by first | assumption | exact Zae | exact Zao (by assumption:(_:Int)=_/\∀ y:List Int,y∈_->y=[]).2),‹_›,cl,cl,cl,cl,(by first | assumption | exact Zf0 | exact Zhu ‹_› ‹_› (by omega) (by omega))⟩ (by unfold Zaw lt6;dsimp only;omega)
   .exact tR ⟨ov7,(by first | omega | exact (Z83 ‹_› ‹_›).1 | (simp;done)),(by first | assumption | exact Zf0 | exact (Z83 ‹_› ‹_›).2)⟩
def Ztt(b0:Zj)(a1:Int)(a2:Int):Zdr->Prop
 | .L0 v1 v2 E1 v8 v23 v24 v25=>(v1=a1)/\(v2=a2)/\(Zbn E1)/\((SzL 8 (fun _=>True)) v8)/\((SzL 176 Zu) v23)/\(0<=v25)/\(b0.traits.length=b0.s.Objects.length)/\(b0.dropped.length=b0.s.Objects.length)/\(b0.done.length=b0.forces.length)/\(b0.hits.length=b0.forces.length)/\(b0.s.Objects.length<=2048)/\(b0.forces.length<=16448)/\(HI b0.s.Objects.length b0.hits)/\(Zz b0)/\(0<=v1)/\(v1 < (b0.forces.length:Int))/\(v24=(v23.length:Int))/\(v24=(v8.length:Int))/\(v24=(E1.Mods.length:Int))/\(b0.forces[v1.toNat]?=some E1)
def Zdm:Zdr->M6
 | .L0 v1 v2 E1 v8 v23 v24 v25=>(1,(v24 - v25).toNat,1000000,0,0,0)
theorem Zkq{b0:Zj}{a1:Int}{a2:Int}(ob0:Zz b0)(h0:b0.traits.length=b0.s.Objects.length)(h1:b0.dropped.length=b0.s.Objects.length)(h2:b0.done.length=b0.forces.length)(h3:b0.hits.length=b0.forces.length)(h4:b0.s.Objects.length<=2048)(h5:b0.forces.length<=16448)(h6:HI b0.s.Objects.length b0.hits)(h7:0<=a1)(h8:a1 < (b0.forces.length:Int)):Tot (Zij b0 a1 a2) (fun r=>((SzL 8 (fun _=>True)) r)/\(ML b0.forces a1 r)):=by
 unfold Zij
 refine tX (Inv:=(Ztt b0 a1 a2)) (μ:=Zdm) (m:=(1000000,0,0,0,0,0)) ?_ ?_
 .dsimp only [Zlz,LT.den]
  refine tB (tI (by omega) (by omega)) (fun x1 h2=>?_)
  have oh2:Zbn x1:=ob0.2.1.2 x1 h2.1
  have mh2:=h2.2
  have q3:=oh2.2.2.1
  refine tB (Tot.mk) (fun x4 h5=>?_)
  have lh5:=h5.1
  exact tL ⟨rfl,rfl,oh2,SzL.tr,oh2.2.2,cl,cl,cl,cl,cl,cl,cl,(by first | assumption | exact Zae | exact Zao (by assumption:(_:Int)=_/\∀ y:List Int,y∈_->y=[]).2),‹_›,cl,cl,cl,cl,cl,‹_›⟩ (by unfold Zdm lt6;dsimp only;omega)
 .intro s hs
  cases s with
  | L0 v1 v2 E1 v8 v23 v24 v25=>
   obtain⟨al0,al1,O1,ov8,ov23,cv25,i0,i1,i2,i3,i4,i5,i6,i7,i8,i9,i10,i11,i12,i13⟩:=hs
   have lb_v8:=ov8.1
   have lb_v23:=ov23.1
   subst al0
   subst al1
   show Tot (Zg4 b0 v1 v2 E1 v8 v23 v24 v25).den _
   dsimp only [Zg4,LT.den]
   refine tD (fun h1=>?_) (fun h1=>?_)
   .refine tB (tI (by omega) (by omega)) (fun x2 h3=>?_)
    have oh3:Zu x2:=ov23.2 x2 h3.1
    have mh3:=h3.2
    refine tE (fun h4=>?_) (fun h4=>?_)
    .refine tB (Zsq) (fun x5 h6=>?_)
     refine tE (fun h7=>?_) (fun h7=>?_)
     .refine tB (Zio (asz:Zz b0) cl cl cl cl cl cl (by first | assumption | exact Zae | exact Zao (by assumption:(_:Int)=_/\∀ y:List Int,y∈_->y=[]).2) cl cl) (fun x8 h9=>?_)
      refine tB (Zap5 b0.s b0.traits x8 E1.Source x2.Filter (asz:Zz b0).1 (asz:Zz b0).2.2.1 oh3.2) (fun x10 h11=>?_)
      have eh11_1:=h11.2
      refine tB (tI (by omega) (by omega)) (fun x12 h13=>?_)
      have mh13:=h13.2
      refine tB (Tot.set (by omega) (by omega)) (fun x14 h15=>?_)
      have lh15:=h15.1
      refine qw (v25+1) fun q16 q17=>?_
      exact tL ⟨rfl,rfl,O1,SzL.tr,ov23,cl,cl,cl,cl,cl,cl,cl,(by first | assumption | exact Zae | exact Zao (by assumption:(_:Int)=_/\∀ y:List Int,y∈_->y=[]).2),‹_›,cl,cl,cl,cl,cl,‹_›⟩ (by unfold Zdm lt6;dsimp only;omega)
     .refine qw (v25+1) fun q18 q19=>?_
      exact tL ⟨rfl,rfl,O1,ov8,ov23,cl,cl,cl,cl,cl,cl,cl,(by first | assumption | exact Zae | exact Zao (by assumption:(_:Int)=_/\∀ y:List Int,y∈_->y=[]).2),‹_›,cl,cl,cl,cl,cl,‹_›⟩ (by unfold Zdm lt6;dsimp only;omega)
    .refine qw (v25+1) fun q20 q21=>?_
     exact tL ⟨rfl,rfl,O1,ov8,ov23,cl,cl,cl,cl,cl,cl,cl,(by first | assumption | exact Zae | exact Zao (by assumption:(_:Int)=_/\∀ y:List Int,y∈_->y=[]).2),‹_›,cl,cl,cl,cl,cl,‹_›⟩ (by unfold Zdm lt6;dsimp only;omega)
   .exact tR ⟨ov8,(by exact ml_i ‹_› (by omega))⟩
theorem Zm2{b0:Zj}{a1:Int}{a2:Int}(ob0:Zz b0)(h0:b0.traits.length=b0.s.Objects.length)(h1:b0.dropped.length=b0.s.Objects.length)(h2:b0.done.length=b0.forces.length)(h3:b0.hits.length=b0.forces.length)(h4:b0.s.Objects.length<=2048)(h5:b0.forces.length<=16448)(h6:HI b0.s.Objects.length b0.hits)(h7:0<=a1)(h8:a1 < (b0.forces.length:Int)):Tot (Zkb b0 a1 a2) (fun r=>(Zz3 r)):=by
 unfold Zkb
 refine tZ ?_
 dsimp only [Zn6,LT.den]
 refine tB (Zlk ob0 cl cl cl cl cl cl (by first | assumption | exact Zae | exact Zao (by assumption:(_:Int)=_/\∀ y:List Int,y∈_->y=[]).2) cl cl) (fun x1 h2=>?_)
 refine tB (Zkf ob0 cl cl cl cl cl cl (by first | assumption | exact Zae | exact Zao (by assumption:(_:Int)=_/\∀ y:List Int,y∈_->y=[]).2) cl cl) (fun x3 h4=>?_)
 have eh4_1:=h4.2.1
 have eh4_2:=h4.2.2
 refine tB (Zkq ob0 cl cl cl cl cl cl (by first | assumption | exact Zae | exact Zao (by assumption:(_:Int)=_/\∀ y:List Int,y∈_->y=[]).2) cl cl) (fun x5 h6=>?_)
 have eh6_1:=h6.2
 exact tR ⟨h4.1,h6.1⟩
theorem Zvz{b0:Zj}(ob0:Zz b0):Tot (Zja b0) (fun r=>(Zz r)/\(r=b0)):=by
 unfold Zja
 refine tZ ?_
 dsimp only [Zmt,LT.den]
 have q3:=ob0.2.2.1.1
 refine tB (tA (by first | omega | (simp only [List.length_nil];omega)) (by decide)) (fun x1 h2=>?_)
 refine tB (Zl3 ob0.2.2.2.1) (fun x4 h5=>?_)
 have eh5_1:=h5.2
 refine tB (Zl3 ob0.2.2.2.2.1) (fun x6 h7=>?_)
 have eh7_1:=h7.2
 have q10:=ob0.2.2.2.2.2.1
 refine tB (tA (by first | omega | (simp only [List.length_nil];omega)) (by decide)) (fun x8 h9=>?_)
 exact tR ⟨⟨ob0.1,ob0.2.1,ob0.2.2.1,h5.1,h7.1,ob0.2.2.2.2.2⟩,(by first | rfl | (subst_vars;rfl))⟩
abbrev Zv0(b0:Zj)(a1:Int)(a2:Int)(r:Zj):Prop:=(Zz r)/\(r.traits.length=r.s.Objects.length)/\(r.dropped.length=r.s.Objects.length)/\(r.done.length=r.forces.length)/\(r.hits.length=r.forces.length)/\(r.s.Objects.length<=2048)/\(r.forces.length<=16448)/\(HI r.s.Objects.length r.hits)/\(r.s=b0.s)/\(r.forces=b0.forces)
def Zv6(b0:Zj)(a1:Int)(a2:Int):Zc0->Prop
 | .L0 c0 v1 v2 v6 v7 v8 v23 v24 v25=>(v1=a1)/\(v2=a2)/\(Zz c0)/\((SzL 8 (fun _=>True)) v6)/\((SzL 8 (fun _=>True)) v7)/\((SzL 8 (fun _=>True)) v23)/\(0<=v25)/\(c0.traits.length=c0.s.Objects.length)/\(c0.dropped.length=c0.s.Objects.length)/\(c0.done.length=c0.forces.length)/\(c0.hits.length=c0.forces.length)/\(c0.s.Objects.length<=2048)/\(c0.forces.length<=16448)/\(HI c0.s.Objects.length c0.hits)/\(c0.s=b0.s)/\(c0.forces=b0.forces)/\(0<=v1)/\(v1 < (c0.forces.length:Int))/\(v6.length<=c0.s.Objects.length)/\(INR c0.s.Objects.length v6)/\(ML c0.forces v1 v7)/\(v24=(v23.length:Int))/\(INR c0.s.Objects.length v23)
 | .L1 c0 v1 v2 v6 v7 v8 v10 v23 v24 v25 v36 v37 v38=>(v1=a1)/\(v2=a2)/\(Zz c0)/\((SzL 8 (fun _=>True)) v6)/\((SzL 8 (fun _=>True)) v7)/\((SzL 8 (fun _=>True)) v23)/\((SzL 176 Zu) v36)/\(0<=v38)/\(0<=v25)/\(v25 < v24)/\(c0.traits.length=c0.s.Objects.length)/\(c0.dropped.length=c0.s.Objects.length)/\(c0.done.length=c0.forces.length)/\(c0.hits.length=c0.forces.length)/\(c0.s.Objects.length<=2048)/\(c0.forces.length<=16448)/\(HI c0.s.Objects.length c0.hits)/\(c0.s=b0.s)/\(c0.forces=b0.forces)/\(0<=v1)/\(v1 < (c0.forces.length:Int))/\(v6.length<=c0.s.Objects.length)/\(INR c0.s.Objects.length v6)/\(ML c0.forces v1 v7)/\(v24=(v23.length:Int))/\(INR c0.s.Objects.length v23)/\(0<=v10)/\(v10 < (c0.s.Objects.length:Int))/\(v37=(v36.length:Int))/\(v37=(v7.length:Int))
def Zb0:Zc0->M6
 | .L0 c0 v1 v2 v6 v7 v8 v23 v24 v25=>(1,(v24 - v25).toNat,1000000,0,0,0)
 | .L1 c0 v1 v2 v6 v7 v8 v10 v23 v24 v25 v36 v37 v38=>(1,(v24 - v25).toNat,1,(v37 - v38).toNat,1000000,0)
theorem Zl4{b0:Zj}{a1:Int}{a2:Int}(ob0:Zz b0)(h0:b0.traits.length=b0.s.Objects.length)(h1:b0.dropped.length=b0.s.Objects.length)(h2:b0.done.length=b0.forces.length)(h3:b0.hits.length=b0.forces.length)(h4:b0.s.Objects.length<=2048)(h5:b0.forces.length<=16448)(h6:HI b0.s.Objects.length b0.hits)(h7:0<=a1)(h8:a1 < (b0.forces.length:Int)):Tot (Zjo b0 a1 a2) (Zv0 b0 a1 a2):=by
 unfold Zjo
 refine tX (Inv:=(Zv6 b0 a1 a2)) (μ:=Zb0) (m:=(1000000,0,0,0,0,0)) ?_ ?_
 .dsimp only [Zm6,LT.den]
  refine tB (Zkf ob0 cl cl cl cl cl cl (by first | assumption | exact Zae | exact Zao (by assumption:(_:Int)=_/\∀ y:List Int,y∈_->y=[]).2) cl cl) (fun x1 h2=>?_)
  have eh2_1:=h2.2.1
  have eh2_2:=h2.2.2
  refine tB (Zkq ob0 cl cl cl cl cl cl (by first | assumption | exact Zae | exact Zao (by assumption:(_:Int)=_/\∀ y:List Int,y∈_->y=[]).2) cl cl) (fun x3 h4=>?_)
  have eh4_1:=h4.2
  refine tB (Zio ob0 cl cl cl cl cl cl (by first | assumption | exact Zae | exact Zao (by assumption:(_:Int)=_/\∀ y:List Int,y∈_->y=[]).2) cl cl) (fun x5 h6=>?_)
  have q7:=h2.1.1
  exact tL ⟨rfl,rfl,ob0,h2.1,h4.1,h2.1,cl,cl,cl,cl,cl,cl,cl,(by first | assumption | exact Zae | exact Zao (by assumption:(_:Int)=_/\∀ y:List Int,y∈_->y=[]).2),(by first | rfl | assumption | grind),(by first | rfl | assumption | grind),cl,cl,cl,(by first | assumption),(by first | assumption),cl,(by first | assumption)⟩ (by unfold Zb0 lt6;dsimp only;omega)
 .intro s hs
  cases s with
  | L0 c0 v1 v2 v6 v7 v8 v23 v24 v25=>
   obtain⟨al0,al1,oc0,ov6,ov7,ov23,cv25,i0,i1,i2,i3,i4,i5,i6,i7,i8,i9,i10,i11,i12,i13,i14,i15⟩:=hs
   have lb_v6:=ov6.1
   have lb_v7:=ov7.1
   have lb_v23:=ov23.1
   subst al0
   subst al1
   show Tot (Zhq c0 v1 v2 v6 v7 v8 v23 v24 v25).den _
   dsimp only [Zhq,LT.den]
   refine tD (fun h1=>?_) (fun h1=>?_)
   .refine tB (tI (by omega) (by omega)) (fun x2 h3=>?_)
    have mh3:=h3.2;have zh3:=Zanz (by assumption:INR _ v23) mh3
    have mh3:=h3.2
    refine tB (tI (by omega) (by omega)) (fun x4 h5=>?_)
    have oh5:Zbn x4:=oc0.2.1.2 x4 h5.1
    have mh5:=h5.2
    have q6:=oh5.2.2.1
    exact tL ⟨rfl,rfl,oc0,ov6,ov7,ov23,oh5.2.2,cl,cl,cl,cl,cl,cl,cl,cl,cl,(by first | assumption | exact Zae | exact Zao (by assumption:(_:Int)=_/\∀ y:List Int,y∈_->y=[]).2),(by first | rfl | assumption | grind),(by first | rfl | assumption | grind),cl,cl,cl,(by first | assumption),(by first | assumption),cl,(by first | assumption),cl,cl,cl,(by first | omega | (have:=(by assumption:ML _ _ _) _ ‹_›;omega))⟩ (by unfold Zb0 lt6;dsimp only;omega)
   .refine tB (tI (by omega) (by omega)) (fun x7 h8=>?_)
    have mh8:=h8.2
    refine tB (Tot.set (by omega) (by omega)) (fun x9 h10=>?_)
    have lh10:=h10.1
    refine tB (tI (by omega) (by omega)) (fun x11 h12=>?_)
    have oh12:(SzL 8 (fun _=>True)) x11:=oc0.2.2.2.2.2.2 x11 h12.1
    have mh12:=h12.2
    refine tB (Tot.set (by omega) (by omega)) (fun x13 h14=>?_)
    have lh14:=h14.1
    exact tR ⟨⟨oc0.1,oc0.2.1,oc0.2.2.1,oc0.2.2.2.1,SzL.tr,⟨lo,fun e he=>(h14.2.1 e he).elim (fun w=>by rw [w];exact ov6) (oc0.2.2.2.2.2.2 e)⟩⟩,cl,cl,cl,cl,cl,cl,(by first | assumption | exact Zae | exact Zao (by assumption:(_:Int)=_/\∀ y:List Int,y∈_->y=[]).2 | exact Za9y ‹_› ‹_› ‹_› (by assumption:_/\(∀ e:List Int,e∈_->e=_\/e∈_)/\_).2.1),(by first | rfl | assumption | grind),(by first | rfl | assumption | grind)⟩
  | L1 c0 v1 v2 v6 v7 v8 v10 v23 v24 v25 v36 v37 v38=>
   obtain⟨al0,al1,oc0,ov6,ov7,ov23,ov36,cv38,cv25,bd9,i0,i1,i2,i3,i4,i5,i6,i7,i8,i9,i10,i11,i12,i13,i14,i15,i16,i17,i18,i19⟩:=hs
   have lb_v6:=ov6.1
   have lb_v7:=ov7.1
   have lb_v23:=ov23.1
   have lb_v36:=ov36.1
   subst al0
   subst al1
   show Tot (Zhr c0 v1 v2 v6 v7 v8 v10 v23 v24 v25 v36 v37 v38).den _
   dsimp only [Zhr,LT.den]
   refine tD (fun h1=>?_) (fun h1=>?_)
   .refine tB (tI (by omega) (by omega)) (fun x2 h3=>?_)
    have oh3:Zu x2:=ov36.2 x2 h3.1
    have mh3:=h3.2
    refine tB (Zsq) (fun x4 h5=>?_)
    refine tN (fun h6=>?_) (fun h6=>?_)
    .refine qw (v38+1) fun q7 q8=>?_
     exact tL ⟨rfl,rfl,oc0,ov6,ov7,ov23,ov36,cl,cl,cl,cl,cl,cl,cl,cl,cl,(by first | assumption | exact Zae | exact Zao (by assumption:(_:Int)=_/\∀ y:List Int,y∈_->y=[]).2),(by first | rfl | assumption | grind),(by first | rfl | assumption | grind),cl,cl,cl,(by first | assumption),(by first | assumption),cl,(by first | assumption),cl,cl,cl,(by first | omega | (have:=(by assumption:ML _ _ _) _ ‹_›;omega))⟩ (by unfold Zb0 lt6;dsimp only;omega)
    .refine tB (tI (by omega) (by omega)) (fun x9 h10=>?_)
     have oh10:Zv x9:=oc0.2.2.1.2 x9 h10.1
     have mh10:=h10.2
     refine tB (tI (by omega) (by omega)) (fun x11 h12=>?_)
     have mh12:=h12.2
     refine tB (Zasv oh10 oh3) (fun x13 h14=>?_)
     refine tB (Tot.set (by omega) (by omega)) (fun x15 h16=>?_)
     have lh16:=h16.1
     refine tE (fun h17=>?_) (fun h17=>?_)
     .refine tB (tI (by omega) (by omega)) (fun x18 h19=>?_)
      have mh19:=h19.2
      refine tB (Tot.set (by omega) (by omega)) (fun x20 h21=>?_)
      have lh21:=h21.1
      refine qw (v38+1) fun q22 q23=>?_
      exact tL ⟨rfl,rfl,⟨oc0.1,oc0.2.1,⟨lo,fun e he=>(h16.2.1 e he).elim (fun w=>by rw [w];exact h14) (oc0.2.2.1.2 e)⟩,SzL.tr,oc0.2.2.2.2.1,oc0.2.2.2.2.2⟩,ov6,ov7,ov23,ov36,cl,cl,cl,cl,cl,cl,cl,cl,cl,(by first | assumption | exact Zae | exact Zao (by assumption:(_:Int)=_/\∀ y:List Int,y∈_->y=[]).2),(by first | rfl | assumption | grind),(by first | rfl | assumption | grind),cl,cl,cl,(by first | assumption),(by first | assumption),cl,(by first | assumption),cl,cl,cl,(by first | omega | (have:=(by assumption:ML _ _ _) _ ‹_›;omega))⟩ (by unfold Zb0 lt6;dsimp only;omega)
     .refine qw (v38+1) fun q24 q25=>?_
      exact tL ⟨rfl,rfl,⟨oc0.1,oc0.2.1,⟨lo,fun e he=>(h16.2.1 e he).elim (fun w=>by rw [w];exact h14) (oc0.2.2.1.2 e)⟩,oc0.2.2.2.1,oc0.2.2.2.2.1,oc0.2.2.2.2.2⟩,ov6,ov7,ov23,ov36,cl,cl,cl,cl,cl,cl,cl,cl,cl,(by first | assumption | exact Zae | exact Zao (by assumption:(_:Int)=_/\∀ y:List Int,y∈_->y=[]).2),(by first | rfl | assumption | grind),(by first | rfl | assumption | grind),cl,cl,cl,(by first | assumption),(by first | assumption),cl,(by first | assumption),cl,cl,cl,(by first | omega | (have:=(by assumption:ML _ _ _) _ ‹_›;omega))⟩ (by unfold Zb0 lt6;dsimp only;omega)
   .refine qw (v25+1) fun q26 q27=>?_
    exact tL ⟨rfl,rfl,oc0,ov6,ov7,ov23,cl,cl,cl,cl,cl,cl,cl,(by first | assumption | exact Zae | exact Zao (by assumption:(_:Int)=_/\∀ y:List Int,y∈_->y=[]).2),(by first | rfl | assumption | grind),(by first | rfl | assumption | grind),cl,cl,cl,(by first | assumption),(by first | assumption),cl,(by first | assumption)⟩ (by unfold Zb0 lt6;dsimp only;omega)
def Zqw(b0:Zj)(a1:List Int)(a2:Int):Za8->Prop
 | .L0 v2 v7 v27 v28=>(v2=a2)/\((SzL 24 (SzL 1 (fun _=>True))) v7)/\(0<=v28)/\(b0.traits.length=b0.s.Objects.length)/\(b0.dropped.length=b0.s.Objects.length)/\(b0.done.length=b0.forces.length)/\(b0.hits.length=b0.forces.length)/\(b0.s.Objects.length<=2048)/\(b0.forces.length<=16448)/\(HI b0.s.Objects.length b0.hits)/\(Zz b0)/\(v27=(v7.length:Int))/\(RWV b0.forces.length v7 v28)/\(INR b0.forces.length a1)/\(a1.length<=16448)/\(v7.length=b0.forces.length)
 | .L1 v2 v7 v9 v43 v44=>(v2=a2)/\((SzL 24 (SzL 1 (fun _=>True))) v7)/\(0<=v44)/\(b0.traits.length=b0.s.Objects.length)/\(b0.dropped.length=b0.s.Objects.length)/\(b0.done.length=b0.forces.length)/\(b0.hits.length=b0.forces.length)/\(b0.s.Objects.length<=2048)/\(b0.forces.length<=16448)/\(HI b0.s.Objects.length b0.hits)/\(Zz b0)/\(v7.length=b0.forces.length)/\(MSZ v9)/\(RWS b0.forces.length v7)/\(v43=(a1.length:Int))/\(INR b0.forces.length a1)
 | .L2 v2 v7 v9 v69 v70=>(v2=a2)/\((SzL 24 (SzL 1 (fun _=>True))) v7)/\(0<=v70)/\(b0.traits.length=b0.s.Objects.length)/\(b0.dropped.length=b0.s.Objects.length)/\(b0.done.length=b0.forces.length)/\(b0.hits.length=b0.forces.length)/\(b0.s.Objects.length<=2048)/\(b0.forces.length<=16448)/\(HI b0.s.Objects.length b0.hits)/\(Zz b0)/\(v7.length=b0.forces.length)/\(MSZ v9)/\(RWS b0.forces.length v7)/\(v69=(a1.length:Int))/\(INR b0.forces.length a1)
 | .L3 v2 v7 v9 v14 E1 v69 v70 v81 v82=>(v2=a2)/\((SzL 24 (SzL 1 (fun _=>True))) v7)/\(Zz E1)/\(0<=v82)/\(0<=v70)/\(v70 < v69)/\(b0.traits.length=b0.s.Objects.length)/\(b0.dropped.length=b0.s.Objects.length)/\(b0.done.length=b0.forces.length)/\(b0.hits.length=b0.forces.length)/\(b0.s.Objects.length<=2048)/\(b0.forces.length<=16448)/\(HI b0.s.Objects.length b0.hits)/\(Zz b0)/\(v7.length=b0.forces.length)/\(MSZ v9)/\(RWS b0.forces.length v7)/\(v69=(a1.length:Int))/\(v81=(a1.length:Int))/\(INR b0.forces.length a1)/\(0<=v14)/\(v14 < (b0.forces.length:Int))/\(E1.forces.length=b0.forces.length)/\(E1.traits.length=E1.s.Objects.length)/\(E1.dropped.length=E1.s.Objects.length)/\(E1.done.length=E1.forces.length)/\(E1.hits.length=E1.forces.length)/\(E1.s.Objects.length<=2048)/\(E1.forces.length<=16448)/\(HI E1.s.Objects.length E1.hits)
def Zac:Za8->M6
 | .L0 v2 v7 v27 v28=>(5,(v27 - v28).toNat,1000000,0,0,0)
 | .L1 v2 v7 v9 v43 v44=>(3,(v43 - v44).toNat,1000000,0,0,0)
 | .L2 v2 v7 v9 v69 v70=>(1,(v69 - v70).toNat,1000000,0,0,0)
 | .L3 v2 v7 v9 v14 E1 v69 v70 v81 v82=>(1,(v69 - v70).toNat,1,(v81 - v82).toNat,1000000,0)
theorem Zqx{b0:Zj}{a1:List Int}{a2:Int}(ob0:Zz b0)(oa1:(SzL 8 (fun _=>True)) a1)(h0:b0.traits.length=b0.s.Objects.length)(h1:b0.dropped.length=b0.s.Objects.length)(h2:b0.done.length=b0.forces.length)(h3:b0.hits.length=b0.forces.length)(h4:b0.s.Objects.length<=2048)(h5:b0.forces.length<=16448)(h6:HI b0.s.Objects.length b0.hits)(h7:a1.length<=16448)(h8:INR b0.forces.length a1):Tot (Zgr b0 a1 a2) (fun r=>((SzL 24 (SzL 1 (fun _=>True))) r)):=by
 unfold Zgr
 refine tX (Inv:=(Zqw b0 a1 a2)) (μ:=Zac) (m:=(1000000,0,0,0,0,0)) ?_ ?_
 .have lb_a1:=oa1.1
  dsimp only [Zjy,LT.den]
  have q1:=ob0.2.1.1
  refine tB (Tot.mk) (fun x2 h3=>?_)
  have lh3:=h3.1
  exact tL ⟨rfl,⟨lo,fun e he=>by rw [h3.2 e he];exact SzL.nil⟩,cl,cl,cl,cl,cl,cl,cl,(by first | assumption | exact Zae | exact Zao (by assumption:(_:Int)=_/\∀ y:List Int,y∈_->y=[]).2),‹_›,cl,(by first | assumption | exact Zafp | exact Z82 ‹_› ‹_› (by omega) (by omega) (by omega)),‹_›,cl,cl⟩ (by unfold Zac lt6;dsimp only;omega)
 .intro s hs
  cases s with
  | L0 v2 v7 v27 v28=>
   obtain⟨al0,ov7,cv28,i0,i1,i2,i3,i4,i5,i6,i7,i8,i9,i10,i11,i12⟩:=hs
   have lb_v7:=ov7.1
   subst al0
   show Tot (Zfn b0 a1 v2 v7 v27 v28).den _
   dsimp only [Zfn,LT.den]
   refine tD (fun h1=>?_) (fun h1=>?_)
   .have q2:=(asz:Zz b0).2.1.1
    refine tB (Tot.mk) (fun x3 h4=>?_)
    have lh4:=h4.1
    refine tB (tI (by omega) (by omega)) (fun x5 h6=>?_)
    have oh6:(SzL 1 (fun _=>True)) x5:=ov7.2 x5 h6.1
    have mh6:=h6.2;first | have wh6:=Zy4 (by assumption:RWS _ v7) mh6 | skip
    have mh6:=h6.2
    refine tB (Tot.set (by omega) (by omega)) (fun x7 h8=>?_)
    have lh8:=h8.1
    refine qw (v28+1) fun q9 q10=>?_
    exact tL ⟨rfl,⟨lo,fun e he=>(h8.2.1 e he).elim (fun w=>by rw [w];exact SzL.tr) (ov7.2 e)⟩,cl,cl,cl,cl,cl,cl,cl,(by first | assumption | exact Zae | exact Zao (by assumption:(_:Int)=_/\∀ y:List Int,y∈_->y=[]).2),‹_›,cl,(by first | assumption | exact Zafp | exact Z82 ‹_› ‹_› (by omega) (by omega) (by omega)),‹_›,cl,cl⟩ (by unfold Zac lt6;dsimp only;omega)
   .exact tL ⟨rfl,ov7,cl,cl,cl,cl,cl,cl,cl,(by first | assumption | exact Zae | exact Zao (by assumption:(_:Int)=_/\∀ y:List Int,y∈_->y=[]).2),‹_›,cl,(by first | assumption | exact Zqp | exact Zqq ‹_› ‹_› ‹_›),(by first | assumption | exact Zgm ‹_› (by omega) | exact Zgl ‹_› ‹_› ‹_›),cl,‹_›⟩ (by unfold Zac lt6;dsimp only;omega)
  | L1 v2 v7 v9 v43 v44=>
   obtain⟨al0,ov7,cv44,i0,i1,i2,i3,i4,i5,i6,i7,i8,i9,i10,i11,i12⟩:=hs
   have lb_v7:=ov7.1
   subst al0
   show Tot (Zfo b0 a1 v2 v7 v9 v43 v44).den _
   dsimp only [Zfo,LT.den]
   refine tD (fun h1=>?_) (fun h1=>?_)
   .refine tB (tI (by omega) (by omega)) (fun x2 h3=>?_)
    have mh3:=h3.2;have zh3:=Zanz (by assumption:INR b0.forces.length a1) mh3
    have mh3:=h3.2
    refine tB (Zts (asz:Zz b0) cl cl cl cl cl cl (by first | assumption | exact Zae | exact Zao (by assumption:(_:Int)=_/\∀ y:List Int,y∈_->y=[]).2) cl cl) (fun x4 h5=>?_)
    refine tF (fun h6=>?_) (fun h6=>?_)
    .refine tB (Zm2 (asz:Zz b0) cl cl cl cl cl cl (by first | assumption | exact Zae | exact Zao (by assumption:(_:Int)=_/\∀ y:List Int,y∈_->y=[]).2) cl cl) (fun x7 h8=>?_)
     refine tB (Tot.lk) (fun x9 h10=>?_)
     refine qw (v44+1) fun q11 q12=>?_
     exact tL ⟨rfl,ov7,cl,cl,cl,cl,cl,cl,cl,(by first | assumption | exact Zae | exact Zao (by assumption:(_:Int)=_/\∀ y:List Int,y∈_->y=[]).2),‹_›,cl,(by first | assumption | exact Zqp | exact Zqq ‹_› ‹_› ‹_›),(by first | assumption | exact Zgm ‹_› (by omega) | exact Zgl ‹_› ‹_› ‹_›),cl,‹_›⟩ (by unfold Zac lt6;dsimp only;omega)
    .refine qw (v44+1) fun q13 q14=>?_
     exact tL ⟨rfl,ov7,cl,cl,cl,cl,cl,cl,cl,(by first | assumption | exact Zae | exact Zao (by assumption:(_:Int)=_/\∀ y:List Int,y∈_->y=[]).2),‹_›,cl,(by first | assumption | exact Zqp | exact Zqq ‹_› ‹_› ‹_›),(by first | assumption | exact Zgm ‹_› (by omega) | exact Zgl ‹_› ‹_› ‹_›),cl,‹_›⟩ (by unfold Zac lt6;dsimp only;omega)
   .refine tE (fun h15=>?_) (fun h15=>?_)
    .exact tR ov7
    .refine tD (fun h16=>?_) (fun h16=>?_)
     .exact tR ov7
     .exact tL ⟨rfl,ov7,cl,cl,cl,cl,cl,cl,cl,(by first | assumption | exact Zae | exact Zao (by assumption:(_:Int)=_/\∀ y:List Int,y∈_->y=[]).2),‹_›,cl,(by first | assumption | exact Zqp | exact Zqq ‹_› ‹_› ‹_›),(by first | assumption | exact Zgm ‹_› (by omega) | exact Zgl ‹_› ‹_› ‹_›),cl,‹_›⟩ (by unfold Zac lt6;dsimp only;omega)
  | L2 v2 v7 v9 v69 v70=>
   obtain⟨al0,ov7,cv70,i0,i1,i2,i3,i4,i5,i6,i7,i8,i9,i10,i11,i12⟩:=hs
   have lb_v7:=ov7.1
   subst al0
   show Tot (Zfp b0 a1 v2 v7 v9 v69 v70).den _
   dsimp only [Zfp,LT.den]
   refine tD (fun h1=>?_) (fun h1=>?_)
   .refine tB (tI (by omega) (by omega)) (fun x2 h3=>?_)
    have mh3:=h3.2;have zh3:=Zanz (by assumption:INR b0.forces.length a1) mh3
    have mh3:=h3.2
    refine tB (Zvz (asz:Zz b0)) (fun x4 h5=>?_)
    have eh5_1:=h5.2
    have uh5_0:x4.traits.length=x4.s.Objects.length:=by rw [eh5_1];assumption
    have uh5_1:x4.dropped.length=x4.s.Objects.length:=by rw [eh5_1];assumption
    have uh5_2:x4.done.length=x4.forces.length:=by rw [eh5_1];assumption
    have uh5_3:x4.hits.length=x4.forces.length:=by rw [eh5_1];assumption
    have uh5_4:x4.s.Objects.length<=2048:=by rw [eh5_1];assumption
    have uh5_5:x4.forces.length<=16448:=by rw [eh5_1];assumption
    have uh5_6:HI x4.s.Objects.length x4.hits:=by rw [eh5_1];assumption
    have uh5_f:x4.forces.length=b0.forces.length:=by rw [eh5_1]
    have uh5_g:x4.forces=b0.forces:=by rw [eh5_1]
    refine tB (Zl4 h5.1 cl cl cl cl cl cl (by first | assumption | exact Zae | exact Zao (by assumption:(_:Int)=_/\∀ y:List Int,y∈_->y=[]).2) cl cl) (fun x6 h7=>?_)
    have eh7_1:=h7.2.1
    have eh7_2:=h7.2.2.1
    have eh7_3:=h7.2.2.2.1
    have eh7_4:=h7.2.2.2.2.1
    have eh7_5:=h7.2.2.2.2.2.1
    have eh7_6:=h7.2.2.2.2.2.2.1
    have eh7_7:=h7.2.2.2.2.2.2.2.1
    have eh7_8:=h7.2.2.2.2.2.2.2.2.1
    have eh7_9:=h7.2.2.2.2.2.2.2.2.2
    exact tL ⟨rfl,ov7,h7.1,cl,cl,cl,cl,cl,cl,cl,cl,cl,(by first | assumption | exact Zae | exact Zao (by assumption:(_:Int)=_/\∀ y:List Int,y∈_->y=[]).2),‹_›,cl,(by first | assumption | exact Zqp | exact Zqq ‹_› ‹_› ‹_›),(by first | assumption | exact Zgm ‹_› (by omega) | exact Zgl ‹_› ‹_› ‹_›),cl,cl,‹_›,cl,cl,(by first | omega | grind),cl,cl,cl,cl,cl,cl,(by first | assumption | exact Zae | exact Zao (by assumption:(_:Int)=_/\∀ y:List Int,y∈_->y=[]).2)⟩ (by unfold Zac lt6;dsimp only;omega)
   .exact tR ov7
  | L3 v2 v7 v9 v14 E1 v69 v70 v81 v82=>
   obtain⟨al0,ov7,O1,cv82,cv70,bd5,i0,i1,i2,i3,i4,i5,i6,i7,i8,i9,i10,i11,i12,i13,i14,i15,i16,i17,i18,i19,i20,i21,i22,i23⟩:=hs
   have lb_v7:=ov7.1
   subst al0
   show Tot (Zfq b0 a1 v2 v7 v9 v14 E1 v69 v70 v81 v82).den _
   dsimp only [Zfq,LT.den]
   refine tD (fun h1=>?_) (fun h1=>?_)
   .refine tB (tI (by omega) (by omega)) (fun x2 h3=>?_)
    have mh3:=h3.2;have zh3:=Zanz (by assumption:INR b0.forces.length a1) mh3
    have mh3:=h3.2
    refine tB (Tot.lk) (fun x4 h5=>?_)
    refine tF (fun h6=>?_) (fun h6=>?_)
    .refine tN (fun h7=>?_) (fun h7=>?_)
     .refine tB (tI (by omega) (by omega)) (fun x8 h9=>?_)
      have oh9:(SzL 1 (fun _=>True)) x8:=ov7.2 x8 h9.1
      have mh9:=h9.2;first | have wh9:=Zy4 (by assumption:RWS _ v7) mh9 | skip
      have mh9:=h9.2
      refine tB (Zm2 O1 cl cl cl cl cl cl (by first | assumption | exact Zae | exact Zao (by assumption:(_:Int)=_/\∀ y:List Int,y∈_->y=[]).2) cl cl) (fun x10 h11=>?_)
      refine tB (Z0r szx h11) (fun x12 h13=>?_)
      refine tB (tI (by omega) (by omega)) (fun x14 h15=>?_)
      have mh15:=h15.2
      refine tB (Tot.setM) (fun x16 h17=>?_)
      have lh17:x16.length=v7.length:=by rw [h17,List.length_set]
      refine qw (v82+1) fun q18 q19=>?_
      exact tL ⟨rfl,SzL.setM h17 ov7 oh9,O1,cl,cl,cl,cl,cl,cl,cl,cl,cl,(by first | assumption | exact Zae | exact Zao (by assumption:(_:Int)=_/\∀ y:List Int,y∈_->y=[]).2),‹_›,cl,(by first | assumption | exact Zqp | exact Zqq ‹_› ‹_› ‹_›),(by first | assumption | exact Zgm ‹_› (by omega) | exact Zgl ‹_› ‹_› ‹_›),cl,cl,‹_›,cl,cl,(by first | omega | grind),cl,cl,cl,cl,cl,cl,(by first | assumption | exact Zae | exact Zao (by assumption:(_:Int)=_/\∀ y:List Int,y∈_->y=[]).2)⟩ (by unfold Zac lt6;dsimp only;omega)
     .refine qw (v82+1) fun q20 q21=>?_
      exact tL ⟨rfl,ov7,O1,cl,cl,cl,cl,cl,cl,cl,cl,cl,(by first | assumption | exact Zae | exact Zao (by assumption:(_:Int)=_/\∀ y:List Int,y∈_->y=[]).2),‹_›,cl,(by first | assumption | exact Zqp | exact Zqq ‹_› ‹_› ‹_›),(by first | assumption | exact Zgm ‹_› (by omega) | exact Zgl ‹_› ‹_› ‹_›),cl,cl,‹_›,cl,cl,(by first | omega | grind),cl,cl,cl,cl,cl,cl,(by first | assumption | exact Zae | exact Zao (by assumption:(_:Int)=_/\∀ y:List Int,y∈_->y=[]).2)⟩ (by unfold Zac lt6;dsimp only;omega)
    .refine qw (v82+1) fun q22 q23=>?_
     exact tL ⟨rfl,ov7,O1,cl,cl,cl,cl,cl,cl,cl,cl,cl,(by first | assumption | exact Zae | exact Zao (by assumption:(_:Int)=_/\∀ y:List Int,y∈_->y=[]).2),‹_›,cl,(by first | assumption | exact Zqp | exact Zqq ‹_› ‹_› ‹_›),(by first | assumption | exact Zgm ‹_› (by omega) | exact Zgl ‹_› ‹_› ‹_›),cl,cl,‹_›,cl,cl,(by first | omega | grind),cl,cl,cl,cl,cl,cl,(by first | assumption | exact Zae | exact Zao (by assumption:(_:Int)=_/\∀ y:List Int,y∈_->y=[]).2)⟩ (by unfold Zac lt6;dsimp only;omega)
   .refine qw (v70+1) fun q24 q25=>?_
    exact tL ⟨rfl,ov7,cl,cl,cl,cl,cl,cl,cl,(by first | assumption | exact Zae | exact Zao (by assumption:(_:Int)=_/\∀ y:List Int,y∈_->y=[]).2),‹_›,cl,(by first | assumption | exact Zqp | exact Zqq ‹_› ‹_› ‹_›),(by first | assumption | exact Zgm ‹_› (by omega) | exact Zgl ‹_› ‹_› ‹_›),cl,‹_›⟩ (by unfold Zac lt6;dsimp only;omega)
theorem Zll{a0:Int}{a1:Int}:Tot (Zjb a0 a1) (fun r=>(r = !neI a1 a0)):=by
 unfold Zjb
 refine tZ ?_
 dsimp only [Zmv,LT.den]
 exact tR (by simp [neI])
def Zhz(a0:List Int)(a1:Int):Za0->Prop
 | .L0 v0 w1_0 v7 v8=>(v0=a0)/\(w1_0=a1)/\((SzL 8 (fun _=>True)) v0)/\(0<=v8)/\(v7=(v0.length:Int))/\(∀ (k:Nat) x,(k:Int) < v8->v0[k]?=some x->neI w1_0 x=true)
def Zb7:Za0->M6
 | .L0 v0 w1_0 v7 v8=>(1,(v7 - v8).toNat,1000000,0,0,0)
theorem Zh0{a0:List Int}{a1:Int}(oa0:(SzL 8 (fun _=>True)) a0):Tot (Zck a0 a1) (fun r=>(FD a0 (neI a1) r)):=by
 unfold Zck
 refine tX (Inv:=(Zhz a0 a1)) (μ:=Zb7) (m:=(1000000,0,0,0,0,0)) ?_ ?_
 .have lb_a0:=oa0.1
  dsimp only [Zd5,LT.den]
  have q1:=oa0.1
  exact tL ⟨rfl,rfl,oa0,cl,cl,(by first | (intro k x hk;omega) | exact Z9t ‹_› ‹_› ‹_› (by grind) (by omega))⟩ (by unfold Zb7 lt6;dsimp only;omega)
 .intro s hs
  cases s with
  | L0 v0 w1_0 v7 v8=>
   obtain⟨al0,al1,ov0,cv8,i0,i1⟩:=hs
   have lb_v0:=ov0.1
   subst al0
   subst al1
   show Tot (Zb5 v0 w1_0 v7 v8).den _
   dsimp only [Zb5,LT.den]
   refine tD (fun h1=>?_) (fun h1=>?_)
   .refine tB (tI (by omega) (by omega)) (fun x2 h3=>?_)
    have mh3:=h3.2
    refine tB (Zll) (fun x4 h5=>?_)
    have eh5_0:=h5
    refine tF (fun h6=>?_) (fun h6=>?_)
    .exact tR (by first | exact Za34 ‹_› ‹_› ‹_› (by grind) | exact Za0c ‹_› (by omega))
    .refine qw (v8+1) fun q7 q8=>?_
     exact tL ⟨rfl,rfl,ov0,cl,cl,(by first | (intro k x hk;omega) | exact Z9t ‹_› ‹_› ‹_› (by grind) (by omega))⟩ (by unfold Zb7 lt6;dsimp only;omega)
   .exact tR (by first | exact Za34 ‹_› ‹_› ‹_› (by grind) | exact Za0c ‹_› (by omega))
def Zgt(b0:List Int)(a1:Int):Zar->Prop
 | .L0 v0 w1_0 v5 v6=>(w1_0=a1)/\((SzL 8 (fun _=>True)) v0)/\(0<=v6)/\(DI b0 v0 (neI w1_0) v5 v6)/\(v6<=(v0.length:Int))
def Za3:Zar->M6
 | .L0 v0 w1_0 v5 v6=>(1,((v0.length:Int) - v6).toNat,1000000,0,0,0)
theorem Zgu{b0:List Int}{a1:Int}(ob0:(SzL 8 (fun _=>True)) b0):Tot (Zby b0 a1) (fun r=>((SzL 8 (fun _=>True)) r)/\(r=b0.filter (neI a1))):=by
 unfold Zby
 refine tX (Inv:=(Zgt b0 a1)) (μ:=Za3) (m:=(1000000,0,0,0,0,0)) ?_ ?_
 .have lb_b0:=ob0.1
  dsimp only [Zdj,LT.den]
  refine tB (Zh0 ob0) (fun x1 h2=>?_)
  have eh2_0:=h2
  have ph2:=Za9k eh2_0
  refine tE (fun h3=>?_) (fun h3=>?_)
  .exact tR ⟨ob0,(by first | exact Za35 ‹_› ‹_› | exact Za33 (v:=v0) (i:=v5) (j:=v6) ‹_› ‹_› ‹_› (by omega) (by omega))⟩
  .refine qw (x1+1) fun q4 q5=>?_
   exact tL ⟨rfl,ob0,cl,(by first | exact Zaij ‹_› ‹_› (by omega) | exact Zao6 (v:=v0) (i:=v5) (j:=v6) ‹_› (by grind) ‹_› (by grind) (by omega) (by omega) | exact Zao7 (j:=v6) ‹_› ‹_› (by grind) (by omega)),cl⟩ (by unfold Za3 lt6;dsimp only;omega)
 .intro s hs
  cases s with
  | L0 v0 w1_0 v5 v6=>
   obtain⟨al0,ov0,cv6,i0,i1⟩:=hs
   have lb_v0:=ov0.1
   subst al0
   show Tot (Zbr v0 w1_0 v5 v6).den _
   dsimp only [Zbr,LT.den]
   have l0:=i0.1;have l1:=i0.2.1;have l2:=i0.2.2.1
   refine tD (fun h1=>?_) (fun h1=>?_)
   .refine tB (tI (by omega) (by omega)) (fun x2 h3=>?_)
    have mh3:=h3.2
    refine tB (Zll) (fun x4 h5=>?_)
    have eh5_0:=h5
    refine tO (fun h6=>?_) (fun h6=>?_)
    .refine tB (tI (by omega) (by omega)) (fun x7 h8=>?_)
     have mh8:=h8.2
     refine tB (Tot.set (by omega) (by omega)) (fun x9 h10=>?_)
     have lh10:=h10.1
     have vh10:=h10.2.2
     refine qw (v5+1) fun q11 q12=>?_
     refine qw (v6+1) fun q13 q14=>?_
     exact tL ⟨rfl,SzL.tr,cl,(by first | exact Zaij ‹_› ‹_› (by omega) | exact Zao6 (v:=v0) (i:=v5) (j:=v6) ‹_› (by grind) ‹_› (by grind) (by omega) (by omega) | exact Zao7 (j:=v6) ‹_› ‹_› (by grind) (by omega)),cl⟩ (by unfold Za3 lt6;dsimp only;omega)
    .refine qw (v6+1) fun q15 q16=>?_
     exact tL ⟨rfl,ov0,cl,(by first | exact Zaij ‹_› ‹_› (by omega) | exact Zao6 (v:=v0) (i:=v5) (j:=v6) ‹_› (by grind) ‹_› (by grind) (by omega) (by omega) | exact Zao7 (j:=v6) ‹_› ‹_› (by grind) (by omega)),cl⟩ (by unfold Za3 lt6;dsimp only;omega)
   .have q19:=ov0.1
    refine tB (Tot.clr (by omega) (by omega)) (fun x17 h18=>?_)
    have lh18:=h18.1
    have vh18:=h18.2.2
    have q22:x17.length*8<=140737488351232:=(show SzL 8 (fun _=>True) x17 from SzL.tr).1
    refine tB (Tot.slice (by omega) (by omega) (by omega)) (fun x20 h21=>?_)
    have lh21:=h21.1
    have vh21:=h21.2.2
    exact tR ⟨SzL.tr,(by first | exact Za35 ‹_› ‹_› | exact Za33 (v:=v0) (i:=v5) (j:=v6) ‹_› ‹_› ‹_› (by omega) (by omega))⟩
end Go.PW
