import Derived.Test.YtdjfkajcchcdkaaGreatQX
set_option linter.all false
set_option maxRecDepth 100000
namespace Go.PW
abbrev N0(a0:List Z1)(a1:ae)(r:Bool):Prop:=(r=true->a1.Objects.length<=2048/\a1.Conts.length<=64)/\(r=true->SrtO a1.Objects)
def N1(a0:List Z1)(a1:ae):Z1a->Prop
 |.L0 v0 E0 v5=>(v0=a0)/\(E0=a1)/\((SzL 176 cR) v0)/\(bc E0)/\(0<=v5)/\(E0.Objects.length<=2048)
def CP:Z1a->M6
 |.L0 v0 E0 v5=>(1,((E0.Extra.length:Int)-v5).toNat,1000000,0,0,0)
def N2{a0:List Z1}{a1:ae}(oa0:(SzL 176 cR) a0)(oa1:bc a1):Tot (vp a0 a1) (N0 a0 a1):=by
 unfold vp;refine tX (Inv:=(N1 a0 a1)) (μ:=CP) (m:=(1000000,0,0,0,0,0)) ?_ ?_
 .have lb_a0:=oa0.1;dsimp only[CQ,LT.den];refine tB (fH) (λx1 h2=>?_);have eh2_0:=h2;refine tO (λh3=>?_) (λh3=>?_)
  .exact tR ⟨dB,dC⟩
  refine tB (fH) (λx4 h5=>?_);have eh5_0:=h5;refine tO (λh6=>?_) (λh6=>?_)
  .exact tR ⟨dB,dC⟩
  refine tB (fH) (λx7 h8=>?_);have eh8_0:=h8;refine tO (λh9=>?_) (λh9=>?_)
  .exact tR ⟨dB,dC⟩
  refine tB (fH) (λx10 h11=>?_);have eh11_0:=h11;refine tO (λh12=>?_) (λh12=>?_)
  .exact tR ⟨dB,dC⟩
  have q13:=oa1.2.1.1;refine tD (λh14=>?_) (λh14=>?_)
  .exact tR ⟨dB,dC⟩
  refine tB (N3 oa1) (λx15 h16=>?_);refine tO (λh17=>?_) (λh17=>?_)
  .exact tR ⟨dB,dC⟩
  refine tB (kR oa1) (λx18 h19=>?_);have eh19_0:=h19;refine tO (λh20=>?_) (λh20=>?_)
  .exact tR ⟨dB,dC⟩
  refine tB (kR oa1) (λx21 h22=>?_);have eh22_0:=h22;refine tO (λh23=>?_) (λh23=>?_)
  .exact tR ⟨dB,dC⟩
  have q24:=oa1.1.1;refine tB (fH) (λx25 h26=>?_);have eh26_0:=h26;refine tO (λh27=>?_) (λh27=>?_)
  .exact tR ⟨dB,dC⟩
  have q28:=oa1.2.2.2.2.2.2.2.1;refine tD (λh29=>?_) (λh29=>?_)
  .exact tR ⟨dB,dC⟩
  refine tB (fH) (λx30 h31=>?_);have eh31_0:=h31;refine tO (λh32=>?_) (λh32=>?_)
  .exact tR ⟨dB,dC⟩
  exact tL ⟨rfl,rfl,oa0,oa1,cl,cl⟩ CR
 intro s hs;cases s with
 |L0 v0 E0 v5=>
  obtain⟨al0,al1,ov0,O0,cv5,i0⟩:=hs;have lb_v0:=ov0.1;subst al0;subst al1;show Tot (vq v0 E0 v5).den _;dsimp only[vq,LT.den];have q1:=O0.2.2.2.2.2.2.2.1;refine tD (λh2=>?_) (λh2=>?_)
  .refine tB (tI O O) (λx3 h4=>?_);refine tB (kR O0) (λx5 h6=>?_);have eh6_0:=h6;refine tO (λh7=>?_) (λh7=>?_)
   .exact tR ⟨dB,dC⟩
   refine qw (v5+1) λq8 q9=>?_;exact tL ⟨rfl,rfl,ov0,O0,cl,cl⟩ CR
  refine tE (λh10=>?_) (λh10=>?_)
  .refine tB (kR O0) (λx11 h12=>?_);have eh12_0:=h12;refine tO (λh13=>?_) (λh13=>?_)
   .exact tR ⟨dB,dC⟩
   refine tN (λh14=>?_) (λh14=>?_)
   .refine tN (λh15=>?_) (λh15=>?_)
    .exact tR ⟨dB,dC⟩
    refine tB (rD ov0 O0) (λx16 h17=>?_);have eh17_0:=h17.1;have eh17_1:=h17.2;refine tF (λh18=>?_) (λh18=>?_)
    .have h18_0:=eh17_0 h18;have h18_1:=eh17_1 h18;refine tB (rE O0) (λx19 h20=>?_);have eh20_0:=h20;exact tR ⟨dB,dC⟩
    exact tR ⟨dB,dC⟩
   refine tB (rD ov0 O0) (λx21 h22=>?_);have eh22_0:=h22.1;have eh22_1:=h22.2;refine tF (λh23=>?_) (λh23=>?_)
   .have h23_0:=eh22_0 h23;have h23_1:=eh22_1 h23;refine tB (rE O0) (λx24 h25=>?_);have eh25_0:=h25;exact tR ⟨dB,dC⟩
   exact tR ⟨dB,dC⟩
  refine tN (λh26=>?_) (λh26=>?_)
  .refine tN (λh27=>?_) (λh27=>?_)
   .exact tR ⟨dB,dC⟩
   refine tB (rD ov0 O0) (λx28 h29=>?_);have eh29_0:=h29.1;have eh29_1:=h29.2;refine tF (λh30=>?_) (λh30=>?_)
   .have h30_0:=eh29_0 h30;have h30_1:=eh29_1 h30;refine tB (rE O0) (λx31 h32=>?_);have eh32_0:=h32;exact tR ⟨dB,dC⟩
   exact tR ⟨dB,dC⟩
  refine tB (rD ov0 O0) (λx33 h34=>?_);have eh34_0:=h34.1;have eh34_1:=h34.2;refine tF (λh35=>?_) (λh35=>?_)
  .have h35_0:=eh34_0 h35;have h35_1:=eh34_1 h35;refine tB (rE O0) (λx36 h37=>?_);have eh37_0:=h37;exact tR ⟨dB,dC⟩
  exact tR ⟨dB,dC⟩
abbrev N4(a0:List Z1)(a1:ae)(r:Bool):Prop:=(r=true->a1.Objects.length<=60/\a1.Conts.length<=8/\a1.Players.length<=4/\∀c,c∈a0->c.Abilities.length<=8)/\(r=true->a1.Stack.length<=8/\a1.Waiting.length<=8)
def N5(a0:List Z1)(a1:ae):nV->Prop
 |.L0 v0 E0 v5=>(v0=a0)/\(E0=a1)/\((SzL 176 cR) v0)/\(bc E0)/\(0<=v5)/\(E0.Objects.length<=60)/\(E0.Conts.length<=8)/\(E0.Players.length<=4)/\(E0.Stack.length<=8)/\(E0.Waiting.length<=8)
def Z2w:nV->M6
 |.L0 v0 E0 v5=>(1,((E0.Players.length:Int)-v5).toNat,1000000,0,0,0)
def CS{a0:List Z1}{a1:ae}(oa0:(SzL 176 cR) a0)(oa1:bc a1):Tot (vr a0 a1) (N4 a0 a1):=by
 unfold vr;refine tX (Inv:=(N5 a0 a1)) (μ:=Z2w) (m:=(1000000,0,0,0,0,0)) ?_ ?_
 .have lb_a0:=oa0.1;dsimp only[CT,LT.den];have q1:=oa0.1;refine tD (λh2=>?_) (λh2=>?_)
  .exact tR ⟨gq,gr⟩
  have q3:=oa1.1.1;refine tD (λh4=>?_) (λh4=>?_)
  .exact tR ⟨gq,gr⟩
  have q5:=oa1.2.1.1;refine tD (λh6=>?_) (λh6=>?_)
  .exact tR ⟨gq,gr⟩
  have q7:=oa1.2.2.1.1;refine tD (λh8=>?_) (λh8=>?_)
  .exact tR ⟨gq,gr⟩
  have q9:=oa1.2.2.2.1.1;refine tD (λh10=>?_) (λh10=>?_)
  .exact tR ⟨gq,gr⟩
  have q11:=oa1.2.2.2.2.1.1;refine tD (λh12=>?_) (λh12=>?_)
  .exact tR ⟨gq,gr⟩
  have q13:=oa1.2.2.2.2.2.1.1;refine tD (λh14=>?_) (λh14=>?_)
  .exact tR ⟨gq,gr⟩
  have q15:=oa1.2.2.2.2.2.2.1.1;refine tD (λh16=>?_) (λh16=>?_)
  .exact tR ⟨gq,gr⟩
  have q17:=oa1.2.2.2.2.2.2.2.1;refine tD (λh18=>?_) (λh18=>?_)
  .exact tR ⟨gq,gr⟩
  exact tL ⟨rfl,rfl,oa0,oa1,cl,cl,cl,cl,cl,cl⟩ CU
 intro s hs;cases s with
 |L0 v0 E0 v5=>
  obtain⟨al0,al1,ov0,O0,cv5,i0,i1,i2,i3,i4⟩:=hs;have lb_v0:=ov0.1;subst al0;subst al1;show Tot (Z1b v0 E0 v5).den _;dsimp only[Z1b,LT.den];have q1:=O0.1.1;refine tD (λh2=>?_) (λh2=>?_)
  .refine tB (tI O O) (λx3 h4=>?_);have oh4:eV x3:=O0.1.2 x3 h4.1;have q5:=oh4.1.1;have q6:=oh4.2.1.1;refine qw ((x3.Library.length:Int)+(x3.Hand.length:Int)) λq7 q8=>?_;have q9:=oh4.2.2.1;refine qw ((IntKind.wrap .i64 ((x3.Library.length:Int)+(x3.Hand.length:Int)))+(x3.Graveyard.length:Int)) λq10 q11=>?_;refine tD (λh12=>?_) (λh12=>?_)
   .exact tR ⟨gq,gr⟩
   refine qw (v5+1) λq13 q14=>?_;exact tL ⟨rfl,rfl,ov0,O0,cl,cl,cl,cl,cl,cl⟩ CU
  refine tB (N6 ov0) (λx15 h16=>?_);have eh16_0:=h16;refine tE (λh17=>?_) (λh17=>?_)
  .refine tB (N2 ov0 O0) (λx18 h19=>?_);have eh19_0:=h19.1;have eh19_1:=h19.2;exact tR ⟨gq,gr⟩
  exact tR ⟨gq,gr⟩
def N7{a0:List bS}(oa0:(SzL 152 eV) a0):Tot (rF a0) (λr=>((SzL 152 eV) r)/\(r=a0)):=by
 unfold rF;split
 .refine tZ ?_;have lb_a0:=oa0.1;dsimp only[vt,LT.den];have q3:=oa0.1;refine tB (tA eD aH) (λx1 h2=>?_);have lh2:x1.length=([]:List bS).length+a0.length:=by rw[h2,bn]
  try simp only[bJ,bU,aK]at lh2
  exact tR ⟨SzL.app (k:=152) h2 lo (λ_ h=>by cases h) oa0.2,eg⟩
 refine tZ ?_;dsimp only[rG,LT.den];exact tR ⟨SzL.nil,eg⟩
def kS{a0:List Int}(oa0:(SzL 8 (λ_=>True)) a0):Tot (nW a0) (λr=>((SzL 8 (λ_=>True)) r)/\(r=a0)):=by
 unfold nW;split
 .refine tZ ?_;have lb_a0:=oa0.1;dsimp only[vu,LT.den];have q3:=oa0.1;refine tB (tA eD aH) (λx1 h2=>?_);have lh2:x1.length=([]:List Int).length+a0.length:=by rw[h2,bn]
  try simp only[bJ,bU,aK]at lh2
  exact tR ⟨SzL.tr,eg⟩
 refine tZ ?_;dsimp only[rH,LT.den];exact tR ⟨SzL.nil,eg⟩
def N8{a0:bS}(oa0:eV a0):Tot (rI a0) (λr=>(eV r)/\(r=a0)):=by unfold rI;refine tZ ?_;dsimp only[CV,LT.den];refine tB (kS oa0.1) (λx1 h2=>?_);have eh2_1:=h2.2;refine tB (kS oa0.2.1) (λx3 h4=>?_);have eh4_1:=h4.2;refine tB (kS oa0.2.2) (λx5 h6=>?_);have eh6_1:=h6.2;exact tR ⟨⟨h2.1,h4.1,h6.1⟩,(by subst_vars;rfl)⟩
def N9{a0:List ay}(oa0:(SzL 128 (λ_=>True)) a0):Tot (rJ a0) (λr=>((SzL 128 (λ_=>True)) r)/\(r=a0)):=by
 unfold rJ;split
 .refine tZ ?_;have lb_a0:=oa0.1;dsimp only[vv,LT.den];have q3:=oa0.1;refine tB (tA eD aH) (λx1 h2=>?_);have lh2:x1.length=([]:List ay).length+a0.length:=by rw[h2,bn]
  try simp only[bJ,bU,aK]at lh2
  exact tR ⟨SzL.tr,eg⟩
 refine tZ ?_;dsimp only[rK,LT.den];exact tR ⟨SzL.nil,eg⟩
def Oa{a0:List az}(oa0:(SzL 824 cH) a0):Tot (rL a0) (λr=>((SzL 824 cH) r)/\(r=a0)):=by
 unfold rL;split
 .refine tZ ?_;have lb_a0:=oa0.1;dsimp only[vw,LT.den];have q3:=oa0.1;refine tB (tA eD aH) (λx1 h2=>?_);have lh2:x1.length=([]:List az).length+a0.length:=by rw[h2,bn]
  try simp only[bJ,bU,aK]at lh2
  exact tR ⟨SzL.app (k:=824) h2 lo (λ_ h=>by cases h) oa0.2,eg⟩
 refine tZ ?_;dsimp only[rM,LT.den];exact tR ⟨SzL.nil,eg⟩
def vx{a0:List ah}(oa0:(SzL 176 cc) a0):Tot (nX a0) (λr=>((SzL 176 cc) r)/\(r=a0)):=by
 unfold nX;split
 .refine tZ ?_;have lb_a0:=oa0.1;dsimp only[vy,LT.den];have q3:=oa0.1;refine tB (tA eD aH) (λx1 h2=>?_);have lh2:x1.length=([]:List ah).length+a0.length:=by rw[h2,bn]
  try simp only[bJ,bU,aK]at lh2
  exact tR ⟨SzL.app (k:=176) h2 lo (λ_ h=>by cases h) oa0.2,eg⟩
 refine tZ ?_;dsimp only[rN,LT.den];exact tR ⟨SzL.nil,eg⟩
def Ob{a0:List bz}(oa0:(SzL 144 iH) a0):Tot (nY a0) (λr=>((SzL 144 iH) r)/\(r=a0)):=by
 unfold nY;split
 .refine tZ ?_;have lb_a0:=oa0.1;dsimp only[vz,LT.den];have q3:=oa0.1;refine tB (tA eD aH) (λx1 h2=>?_);have lh2:x1.length=([]:List bz).length+a0.length:=by rw[h2,bn]
  try simp only[bJ,bU,aK]at lh2
  exact tR ⟨SzL.app (k:=144) h2 lo (λ_ h=>by cases h) oa0.2,eg⟩
 refine tZ ?_;dsimp only[rO,LT.den];exact tR ⟨SzL.nil,eg⟩
def Oc{a0:List aU}(oa0:(SzL 560 cJ) a0):Tot (rP a0) (λr=>((SzL 560 cJ) r)/\(r=a0)):=by
 unfold rP;split
 .refine tZ ?_;have lb_a0:=oa0.1;dsimp only[vA,LT.den];have q3:=oa0.1;refine tB (tA eD aH) (λx1 h2=>?_);have lh2:x1.length=([]:List aU).length+a0.length:=by rw[h2,bn]
  try simp only[bJ,bU,aK]at lh2
  exact tR ⟨SzL.app (k:=560) h2 lo (λ_ h=>by cases h) oa0.2,eg⟩
 refine tZ ?_;dsimp only[rQ,LT.den];exact tR ⟨SzL.nil,eg⟩
def Z94(a0:ar):nZ->Prop
 |.L0 E0 E1 v18 v19=>(dn E0)/\(dn E1)/\(0<=v19)/\(v18=(a0.Effects.length:Int))/\(v18=(E0.Effects.length:Int))/\(E0=a0)
def CW:nZ->M6
 |.L0 E0 E1 v18 v19=>(1,(v18-v19).toNat,1000000,0,0,0)
def CX{a0:ar}(oa0:dn a0):Tot (rR a0) (λr=>(dn r)/\(r=a0)):=by
 unfold rR;refine tX (Inv:=(Z94 a0)) (μ:=CW) (m:=(1000000,0,0,0,0,0)) ?_ ?_
 .dsimp only[CY,LT.den];refine tB (vx oa0.2.1) (λx1 h2=>?_);have eh2_1:=h2.2;refine tB (Ob oa0.2.2.2.1) (λx3 h4=>?_);have eh4_1:=h4.2;refine tB (Oc oa0.2.2.2.2.1) (λx5 h6=>?_);have eh6_1:=h6.2;exact tL ⟨⟨oa0.1,h2.1,oa0.2.2.1,h4.1,h6.1,oa0.2.2.2.2.2⟩,⟨SzS.nil,SzL.nil,SzS.nil,SzL.nil,SzL.nil,SzS.nil⟩,cl,mu,mu,CZ⟩ C0
 intro s hs;cases s with
 |L0 E0 E1 v18 v19=>
  obtain⟨O0,O1,cv19,i0,i1,i2⟩:=hs;show Tot (vB E0 E1 v18 v19).den _;dsimp only[vB,LT.den];have lq:=O0.2.2.2.2.1.1;refine tD (λh1=>?_) (λh1=>?_)
  .refine tB (tI O O) (λx2 h3=>?_);have oh3:cJ x2:=O0.2.2.2.2.1.2 x2 h3.1;have mh3:=h3.2;refine tB (vx oh3.2.2.2.2) (λx4 h5=>?_);have eh5_1:=h5.2;refine tB (Tot.set O O) (λx6 h7=>?_);have lh7:=h7.1;have vh7:=h7.2.2;refine qw (v19+1) λq8 q9=>?_;exact tL ⟨⟨O0.1,O0.2.1,O0.2.2.1,O0.2.2.2.1,⟨lo,λe he=>(h7.2.1 e he).elim (λw=>by rw[w];exact⟨oh3.1,oh3.2.1,oh3.2.2.1,oh3.2.2.2.1,h5.1⟩) (O0.2.2.2.2.1.2 e)⟩,O0.2.2.2.2.2⟩,O1,cl,mu,mu,CZ⟩ C0
  exact tR ⟨O0,V⟩
def Od{a0:List bG}(oa0:(SzL 16 (λ_=>True)) a0):Tot (n4 a0) (λr=>((SzL 16 (λ_=>True)) r)/\(r=a0)):=by
 unfold n4;split
 .refine tZ ?_;have lb_a0:=oa0.1;dsimp only[vC,LT.den];have q3:=oa0.1;refine tB (tA eD aH) (λx1 h2=>?_);have lh2:x1.length=([]:List bG).length+a0.length:=by rw[h2,bn]
  try simp only[bJ,bU,aK]at lh2
  exact tR ⟨SzL.tr,eg⟩
 refine tZ ?_;dsimp only[rS,LT.den];exact tR ⟨SzL.nil,eg⟩
def Oe{a0:List bZ}(oa0:(SzL 768 gW) a0):Tot (rT a0) (λr=>((SzL 768 gW) r)/\(r=a0)):=by
 unfold rT;split
 .refine tZ ?_;have lb_a0:=oa0.1;dsimp only[vD,LT.den];have q3:=oa0.1;refine tB (tA eD aH) (λx1 h2=>?_);have lh2:x1.length=([]:List bZ).length+a0.length:=by rw[h2,bn]
  try simp only[bJ,bU,aK]at lh2
  exact tR ⟨SzL.app (k:=768) h2 lo (λ_ h=>by cases h) oa0.2,eg⟩
 refine tZ ?_;dsimp only[rU,LT.den];exact tR ⟨SzL.nil,eg⟩
def Of{a0:List cd}(oa0:(SzL 80 fI) a0):Tot (rV a0) (λr=>((SzL 80 fI) r)/\(r=a0)):=by
 unfold rV;split
 .refine tZ ?_;have lb_a0:=oa0.1;dsimp only[vE,LT.den];have q3:=oa0.1;refine tB (tA eD aH) (λx1 h2=>?_);have lh2:x1.length=([]:List cd).length+a0.length:=by rw[h2,bn]
  try simp only[bJ,bU,aK]at lh2
  exact tR ⟨SzL.app (k:=80) h2 lo (λ_ h=>by cases h) oa0.2,eg⟩
 refine tZ ?_;dsimp only[rW,LT.den];exact tR ⟨SzL.nil,eg⟩
def Og(a0:ae):jO->Prop
 |.L0 E0 E1 v13 v14=>(bc E0)/\(bc E1)/\(0<=v14)/\(E0=a0)/\(v13=(a0.Players.length:Int))
 |.L1 E0 E1 v46 v47=>(bc E0)/\(bc E1)/\(0<=v47)/\(E0=a0)/\(v46=(a0.Stack.length:Int))
 |.L2 E0 E1 v81 v82=>(bc E0)/\(bc E1)/\(0<=v82)/\(E0=a0)/\(v81=(a0.Waiting.length:Int))
 |.L3 E0 E1 v104 v105=>(bc E0)/\(bc E1)/\(0<=v105)/\(E0=a0)/\(v104=(a0.Conts.length:Int))
def C1:jO->M6
 |.L0 E0 E1 v13 v14=>(7,(v13-v14).toNat,1000000,0,0,0)
 |.L1 E0 E1 v46 v47=>(5,(v46-v47).toNat,1000000,0,0,0)
 |.L2 E0 E1 v81 v82=>(3,(v81-v82).toNat,1000000,0,0,0)
 |.L3 E0 E1 v104 v105=>(1,(v104-v105).toNat,1000000,0,0,0)
def rX{a0:ae}(oa0:bc a0):Tot (n5 a0) (λr=>(bc r)/\(r=a0)):=by
 unfold n5;refine tX (Inv:=(Og a0)) (μ:=C1) (m:=(1000000,0,0,0,0,0)) ?_ ?_
 .dsimp only[C2,LT.den];refine tB (N7 oa0.1) (λx1 h2=>?_);have eh2_1:=h2.2;exact tL ⟨⟨h2.1,oa0.2.1,oa0.2.2.1,oa0.2.2.2.1,oa0.2.2.2.2.1,oa0.2.2.2.2.2.1,oa0.2.2.2.2.2.2.1,oa0.2.2.2.2.2.2.2⟩,⟨SzL.nil,SzL.nil,SzL.nil,SzL.nil,SzL.nil,SzL.nil,SzL.nil,SzL.nil⟩,cl,C3,jP⟩ jQ
 intro s hs;cases s with
 |L0 E0 E1 v13 v14=>
  obtain⟨O0,O1,cv14,i0,i1⟩:=hs;show Tot (Z1c E0 E1 v13 v14).den _;dsimp only[Z1c,LT.den];have lq:E0.Players.length=a0.Players.length:=by rw[i0]
  have lr:=O0.1.1;refine tD (λh1=>?_) (λh1=>?_)
  .refine tB (tI O O) (λx2 h3=>?_);have oh3:eV x2:=O0.1.2 x2 h3.1;have mh3:=h3.2;refine tB (N8 oh3) (λx4 h5=>?_);have eh5_1:=h5.2;refine tB (Tot.set O O) (λx6 h7=>?_);have lh7:=h7.1;have vh7:=h7.2.2;refine qw (v14+1) λq8 q9=>?_;exact tL ⟨⟨⟨lo,λe he=>(h7.2.1 e he).elim (λw=>by rw[w];exact h5.1) (O0.1.2 e)⟩,O0.2.1,O0.2.2.1,O0.2.2.2.1,O0.2.2.2.2.1,O0.2.2.2.2.2.1,O0.2.2.2.2.2.2.1,O0.2.2.2.2.2.2.2⟩,O1,cl,C3,jP⟩ jQ
  refine tB (N9 O0.2.1) (λx10 h11=>?_);have eh11_1:=h11.2;refine tB (kS O0.2.2.1) (λx12 h13=>?_);have eh13_1:=h13.2;refine tB (kS O0.2.2.2.1) (λx14 h15=>?_);have eh15_1:=h15.2;refine tB (Oa O0.2.2.2.2.1) (λx16 h17=>?_);have eh17_1:=h17.2;exact tL ⟨⟨O0.1,h11.1,h13.1,h15.1,h17.1,O0.2.2.2.2.2.1,O0.2.2.2.2.2.2.1,O0.2.2.2.2.2.2.2⟩,O1,cl,C4,jP⟩ jQ
 |L1 E0 E1 v46 v47=>
  obtain⟨O0,O1,cv47,i0,i1⟩:=hs;show Tot (Z1d E0 E1 v46 v47).den _;dsimp only[Z1d,LT.den];have lq:E0.Stack.length=a0.Stack.length:=by rw[i0]
  have lr:=O0.2.2.2.2.1.1;refine tD (λh1=>?_) (λh1=>?_)
  .refine tB (tI O O) (λx2 h3=>?_);have oh3:cH x2:=O0.2.2.2.2.1.2 x2 h3.1;have mh3:=h3.2;refine tB (CX oh3.1) (λx4 h5=>?_);have eh5_1:=h5.2;refine tB (Tot.set O O) (λx6 h7=>?_);have lh7:=h7.1;have vh7:=h7.2.2;refine tB (tI O O) (λx8 h9=>?_);have oh9:cH x8:=(show SzL 1 cH _ from⟨lo,λe he=>(h7.2.1 e he).elim (λw=>by rw[w];exact⟨h5.1,oh3.2⟩) (O0.2.2.2.2.1.2 e)⟩).2 x8 h9.1;have mh9:=h9.2;refine tB (Od oh9.2) (λx10 h11=>?_);have eh11_1:=h11.2;refine tB (Tot.set O O) (λx12 h13=>?_);have lh13:=h13.1;have vh13:=h13.2.2;refine qw (v47+1) λq14 q15=>?_;exact tL ⟨⟨O0.1,O0.2.1,O0.2.2.1,O0.2.2.2.1,⟨lo,λe he=>(h13.2.1 e he).elim (λw=>by rw[w];exact⟨oh9.1,h11.1⟩) ((show SzL 1 cH _ from⟨lo,λe he=>(h7.2.1 e he).elim (λw=>by rw[w];exact⟨h5.1,oh3.2⟩) (O0.2.2.2.2.1.2 e)⟩).2 e)⟩,O0.2.2.2.2.2.1,O0.2.2.2.2.2.2.1,O0.2.2.2.2.2.2.2⟩,O1,cl,C4,jP⟩ jQ
  refine tB (Oe O0.2.2.2.2.2.1) (λx16 h17=>?_);have eh17_1:=h17.2;exact tL ⟨⟨O0.1,O0.2.1,O0.2.2.1,O0.2.2.2.1,O0.2.2.2.2.1,h17.1,O0.2.2.2.2.2.2.1,O0.2.2.2.2.2.2.2⟩,O1,cl,C5,jP⟩ jQ
 |L2 E0 E1 v81 v82=>
  obtain⟨O0,O1,cv82,i0,i1⟩:=hs;show Tot (Z1e E0 E1 v81 v82).den _;dsimp only[Z1e,LT.den];have lq:E0.Waiting.length=a0.Waiting.length:=by rw[i0]
  have lr:=O0.2.2.2.2.2.1.1;refine tD (λh1=>?_) (λh1=>?_)
  .refine tB (tI O O) (λx2 h3=>?_);have oh3:gW x2:=O0.2.2.2.2.2.1.2 x2 h3.1;have mh3:=h3.2;refine tB (CX oh3) (λx4 h5=>?_);have eh5_1:=h5.2;refine tB (Tot.set O O) (λx6 h7=>?_);have lh7:=h7.1;have vh7:=h7.2.2;refine qw (v82+1) λq8 q9=>?_;exact tL ⟨⟨O0.1,O0.2.1,O0.2.2.1,O0.2.2.2.1,O0.2.2.2.2.1,⟨lo,λe he=>(h7.2.1 e he).elim (λw=>by rw[w];exact h5.1) (O0.2.2.2.2.2.1.2 e)⟩,O0.2.2.2.2.2.2.1,O0.2.2.2.2.2.2.2⟩,O1,cl,C5,jP⟩ jQ
  refine tB (Of O0.2.2.2.2.2.2.1) (λx10 h11=>?_);have eh11_1:=h11.2;exact tL ⟨⟨O0.1,O0.2.1,O0.2.2.1,O0.2.2.2.1,O0.2.2.2.2.1,O0.2.2.2.2.2.1,h11.1,O0.2.2.2.2.2.2.2⟩,O1,cl,C6,jP⟩ jQ
 |L3 E0 E1 v104 v105=>
  obtain⟨O0,O1,cv105,i0,i1⟩:=hs;show Tot (Z1f E0 E1 v104 v105).den _;dsimp only[Z1f,LT.den];have lq:E0.Conts.length=a0.Conts.length:=by rw[i0]
  have lr:=O0.2.2.2.2.2.2.1.1;refine tD (λh1=>?_) (λh1=>?_)
  .refine tB (tI O O) (λx2 h3=>?_);have oh3:fI x2:=O0.2.2.2.2.2.2.1.2 x2 h3.1;have mh3:=h3.2;refine tB (kS oh3.1) (λx4 h5=>?_);have eh5_1:=h5.2;refine tB (Tot.set O O) (λx6 h7=>?_);have lh7:=h7.1;have vh7:=h7.2.2;refine tB (tI O O) (λx8 h9=>?_);have oh9:fI x8:=(show SzL 1 fI _ from⟨lo,λe he=>(h7.2.1 e he).elim (λw=>by rw[w];exact⟨h5.1,oh3.2⟩) (O0.2.2.2.2.2.2.1.2 e)⟩).2 x8 h9.1;have mh9:=h9.2;refine tB (vx oh9.2) (λx10 h11=>?_);have eh11_1:=h11.2;refine tB (Tot.set O O) (λx12 h13=>?_);have lh13:=h13.1;have vh13:=h13.2.2;refine qw (v105+1) λq14 q15=>?_;exact tL ⟨⟨O0.1,O0.2.1,O0.2.2.1,O0.2.2.2.1,O0.2.2.2.2.1,O0.2.2.2.2.2.1,⟨lo,λe he=>(h13.2.1 e he).elim (λw=>by rw[w];exact⟨oh9.1,h11.1⟩) ((show SzL 1 fI _ from⟨lo,λe he=>(h7.2.1 e he).elim (λw=>by rw[w];exact⟨h5.1,oh3.2⟩) (O0.2.2.2.2.2.2.1.2 e)⟩).2 e)⟩,O0.2.2.2.2.2.2.2⟩,O1,cl,C6,jP⟩ jQ
  refine tB (kS O0.2.2.2.2.2.2.2) (λx16 h17=>?_);have eh17_1:=h17.2;exact tR ⟨⟨O0.1,O0.2.1,O0.2.2.1,O0.2.2.2.1,O0.2.2.2.2.1,O0.2.2.2.2.2.1,O0.2.2.2.2.2.2.1,h17.1⟩,(by subst_vars;rfl)⟩
def Z8a{a0:ae}{a1:az}(oa0:bc a0)(oa1:cH a1):Tot (rY a0 a1) (λr=>(bc r)/\(r=puS a0 a1)):=by
 unfold rY;refine tZ ?_;dsimp only[C7,LT.den];refine tB (rX oa0) (λx1 h2=>?_);have eh2_1:=h2.2;refine tD (λh3=>?_) (λh3=>?_)
 .exact tR ⟨h2.1,mv⟩
 refine tE (λh4=>?_) (λh4=>?_)
 .refine qw (x1.NextId+1) λq5 q6=>?_;have q9:=h2.1.2.2.2.2.1.1;refine tB (tA eW aH) (λx7 h8=>?_);have lh8:x7.length=x1.Stack.length+1:=by rw[h8,bn];rfl
  refine tB (rX ⟨h2.1.1,h2.1.2.1,h2.1.2.2.1,h2.1.2.2.2.1,SzL.app (k:=824) h8 lo h2.1.2.2.2.2.1.2 (me1 ⟨oa1.1,oa1.2⟩),h2.1.2.2.2.2.2.1,h2.1.2.2.2.2.2.2.1,h2.1.2.2.2.2.2.2.2⟩) (λx10 h11=>?_);have eh11_1:=h11.2;exact tR ⟨h11.1,mv⟩
 have q14:=h2.1.2.2.2.2.1.1;refine tB (tA eW aH) (λx12 h13=>?_);have lh13:x12.length=x1.Stack.length+1:=by rw[h13,bn];rfl
 refine tB (rX ⟨h2.1.1,h2.1.2.1,h2.1.2.2.1,h2.1.2.2.2.1,SzL.app (k:=824) h13 lo h2.1.2.2.2.2.1.2 (me1 oa1),h2.1.2.2.2.2.2.1,h2.1.2.2.2.2.2.2.1,h2.1.2.2.2.2.2.2.2⟩) (λx15 h16=>?_);have eh16_1:=h16.2;exact tR ⟨h16.1,mv⟩
def gu:Tot C8 (λr=>r=true):=⟨true,by kernel_rfl,rfl⟩
def Oh(a0:ar):n6->Prop
 |.L0 E0 E1 E2 v4=>(E0=a0)/\(dn E0)/\(dn E1)/\(dn E2)/\(0<=v4)/\(E2.Effects.length<=v4.toNat)/\(v4.toNat<=E0.Effects.length)/\(E2={ E0 with Effects:=E0.Effects.take v4.toNat })
def C9:n6->M6
 |.L0 E0 E1 E2 v4=>(1,((E0.Effects.length:Int)-v4).toNat,1000000,0,0,0)
def Z4k{a0:ar}(oa0:dn a0):Tot (Z50 a0) (λr=>(dn r)/\(r=a0)):=by
 unfold Z50;refine tX (Inv:=(Oh a0)) (μ:=C9) (m:=(1000000,0,0,0,0,0)) ?_ ?_
 .dsimp only[Da,LT.den];have q3:=oa0.2.1.1;refine tB (tA eD aH) (λx1 h2=>?_);have lh2:x1.length=([]:List ah).length+a0.Mods.length:=by rw[h2,bn]
  try simp only[bJ,bU,aK]at lh2
  have q6:=oa0.2.2.2.1.1;refine tB (tA eD aH) (λx4 h5=>?_);have lh5:x4.length=([]:List bz).length+a0.Specs.length:=by rw[h5,bn]
  try simp only[bJ,bU,aK]at lh5
  exact tL ⟨rfl,oa0,⟨SzS.nil,SzL.nil,SzS.nil,SzL.nil,SzL.nil,SzS.nil⟩,⟨oa0.1,SzL.app (k:=176) h2 lo (λ_ h=>by cases h) oa0.2.1.2,oa0.2.2.1,SzL.app (k:=144) h5 lo (λ_ h=>by cases h) oa0.2.2.2.1.2,SzL.nil,oa0.2.2.2.2.2⟩,cl,cl,cl,Db⟩ Dc
 intro s hs;cases s with
 |L0 E0 E1 E2 v4=>
  obtain⟨al0,O0,O1,O2,cv4,i0,i1,i2⟩:=hs;subst al0;show Tot (vF E0 E1 E2 v4).den _;dsimp only[vF,LT.den];have q1:=O0.2.2.2.2.1.1;refine tD (λh2=>?_) (λh2=>?_)
  .refine tB (tI O O) (λx3 h4=>?_);have oh4:cJ x3:=O0.2.2.2.2.1.2 x3 h4.1;have mh4:=h4.2;have q7:=oh4.2.2.2.2.1;refine tB (tA eD aH) (λx5 h6=>?_);have lh6:x5.length=([]:List ah).length+x3.Mods.length:=by rw[h6,bn]
   try simp only[bJ,bU,aK]at lh6
   have q10:=O2.2.2.2.2.1.1;refine tB (tA eW aH) (λx8 h9=>?_);have lh9:x8.length=E2.Effects.length+1:=by rw[h9,bn];rfl
   refine qw (v4+1) λq11 q12=>?_;exact tL ⟨rfl,O0,O1,⟨O2.1,O2.2.1,O2.2.2.1,O2.2.2.2.1,SzL.app (k:=560) h9 lo O2.2.2.2.2.1.2 (me1 ⟨oh4.1,oh4.2.1,oh4.2.2.1,oh4.2.2.2.1,SzL.app (k:=176) h6 lo (λ_ h=>by cases h) oh4.2.2.2.2.2⟩),O2.2.2.2.2.2⟩,cl,cl,cl,Db⟩ Dc
  exact tR ⟨O2,(by exact Oi V O)⟩
def Oj(a0:ae):jR->Prop
 |.L0 E0 E1 E2 v4=>(E0=a0)/\(bc E0)/\(bc E1)/\(bc E2)/\(0<=v4)/\(E2.Players.length<=v4.toNat)/\(v4.toNat<=E0.Players.length)/\(E2={ E0 with Players:=E0.Players.take v4.toNat })
 |.L1 E0 E1 E2 v6=>(E0=a0)/\(bc E0)/\(bc E1)/\(bc E2)/\(0<=v6)/\(E2.Stack.length<=v6.toNat)/\(v6.toNat<=E0.Stack.length)/\(E2={ E0 with Stack:=E0.Stack.take v6.toNat })
 |.L2 E0 E1 E2 v8=>(E0=a0)/\(bc E0)/\(bc E1)/\(bc E2)/\(0<=v8)/\(E2.Waiting.length<=v8.toNat)/\(v8.toNat<=E0.Waiting.length)/\(E2={ E0 with Waiting:=E0.Waiting.take v8.toNat })
 |.L3 E0 E1 E2 v10=>(E0=a0)/\(bc E0)/\(bc E1)/\(bc E2)/\(0<=v10)/\(E2.Conts.length<=v10.toNat)/\(v10.toNat<=E0.Conts.length)/\(E2={ E0 with Conts:=E0.Conts.take v10.toNat })
def Dd:jR->M6
 |.L0 E0 E1 E2 v4=>(7,((E0.Players.length:Int)-v4).toNat,1000000,0,0,0)
 |.L1 E0 E1 E2 v6=>(5,((E0.Stack.length:Int)-v6).toNat,1000000,0,0,0)
 |.L2 E0 E1 E2 v8=>(3,((E0.Waiting.length:Int)-v8).toNat,1000000,0,0,0)
 |.L3 E0 E1 E2 v10=>(1,((E0.Conts.length:Int)-v10).toNat,1000000,0,0,0)
def Ol{a0:ae}(oa0:bc a0):Tot (vG a0) (λr=>(bc r)/\(r=a0)):=by
 unfold vG;refine tX (Inv:=(Oj a0)) (μ:=Dd) (m:=(1000000,0,0,0,0,0)) ?_ ?_
 .dsimp only[De,LT.den];exact tL ⟨rfl,oa0,⟨SzL.nil,SzL.nil,SzL.nil,SzL.nil,SzL.nil,SzL.nil,SzL.nil,SzL.nil⟩,⟨SzL.nil,oa0.2.1,oa0.2.2.1,oa0.2.2.2.1,oa0.2.2.2.2.1,oa0.2.2.2.2.2.1,oa0.2.2.2.2.2.2.1,oa0.2.2.2.2.2.2.2⟩,cl,cl,cl,Df⟩ jS
 intro s hs;cases s with
 |L0 E0 E1 E2 v4=>
  obtain⟨al0,O0,O1,O2,cv4,i0,i1,i2⟩:=hs;subst al0;show Tot (Z51 E0 E1 E2 v4).den _;dsimp only[Z51,LT.den];have q1:=O0.1.1;refine tD (λh2=>?_) (λh2=>?_)
  .refine tB (tI O O) (λx3 h4=>?_);have oh4:eV x3:=O0.1.2 x3 h4.1;have mh4:=h4.2;refine tB (gv oh4.1) (λx5 h6=>?_);have eh6_1:=h6.2;refine tB (gv oh4.2.1) (λx7 h8=>?_);have eh8_1:=h8.2;refine tB (gv oh4.2.2) (λx9 h10=>?_);have eh10_1:=h10.2;have q13:=O2.1.1;refine tB (tA eW aH) (λx11 h12=>?_);have lh12:x11.length=E2.Players.length+1:=by rw[h12,bn];rfl
   refine qw (v4+1) λq14 q15=>?_;exact tL ⟨rfl,O0,O1,⟨SzL.app (k:=152) h12 lo O2.1.2 (me1 ⟨h6.1,h8.1,h10.1⟩),O2.2.1,O2.2.2.1,O2.2.2.2.1,O2.2.2.2.2.1,O2.2.2.2.2.2.1,O2.2.2.2.2.2.2.1,O2.2.2.2.2.2.2.2⟩,cl,cl,cl,Df⟩ jS
  have q18:=O0.2.1.1;refine tB (tA eD aH) (λx16 h17=>?_);have lh17:x16.length=([]:List ay).length+E0.Objects.length:=by rw[h17,bn]
  try simp only[bJ,bU,aK]at lh17
  refine tB (gv O0.2.2.1) (λx19 h20=>?_);have eh20_1:=h20.2;refine tB (gv O0.2.2.2.1) (λx21 h22=>?_);have eh22_1:=h22.2;exact tL ⟨rfl,O0,O1,⟨O2.1,SzL.tr,h20.1,h22.1,SzL.nil,O2.2.2.2.2.2.1,O2.2.2.2.2.2.2.1,O2.2.2.2.2.2.2.2⟩,cl,cl,cl,Dg⟩ jS
 |L1 E0 E1 E2 v6=>
  obtain⟨al0,O0,O1,O2,cv6,i0,i1,i2⟩:=hs;subst al0;show Tot (Z52 E0 E1 E2 v6).den _;dsimp only[Z52,LT.den];have q1:=O0.2.2.2.2.1.1;refine tD (λh2=>?_) (λh2=>?_)
  .refine tB (tI O O) (λx3 h4=>?_);have oh4:cH x3:=O0.2.2.2.2.1.2 x3 h4.1;have mh4:=h4.2;refine tB (Z4k oh4.1) (λx5 h6=>?_);have eh6_1:=h6.2;have q9:=oh4.2.1;refine tB (tA eD aH) (λx7 h8=>?_);have lh8:x7.length=([]:List bG).length+x3.Targets.length:=by rw[h8,bn]
   try simp only[bJ,bU,aK]at lh8
   have q12:=O2.2.2.2.2.1.1;refine tB (tA eW aH) (λx10 h11=>?_);have lh11:x10.length=E2.Stack.length+1:=by rw[h11,bn];rfl
   refine qw (v6+1) λq13 q14=>?_;exact tL ⟨rfl,O0,O1,⟨O2.1,O2.2.1,O2.2.2.1,O2.2.2.2.1,SzL.app (k:=824) h11 lo O2.2.2.2.2.1.2 (me1 ⟨h6.1,SzL.tr⟩),O2.2.2.2.2.2.1,O2.2.2.2.2.2.2.1,O2.2.2.2.2.2.2.2⟩,cl,cl,cl,Dg⟩ jS
  exact tL ⟨rfl,O0,O1,⟨O2.1,O2.2.1,O2.2.2.1,O2.2.2.2.1,O2.2.2.2.2.1,SzL.nil,O2.2.2.2.2.2.2.1,O2.2.2.2.2.2.2.2⟩,cl,cl,cl,Dh⟩ jS
 |L2 E0 E1 E2 v8=>
  obtain⟨al0,O0,O1,O2,cv8,i0,i1,i2⟩:=hs;subst al0;show Tot (Z53 E0 E1 E2 v8).den _;dsimp only[Z53,LT.den];have q1:=O0.2.2.2.2.2.1.1;refine tD (λh2=>?_) (λh2=>?_)
  .refine tB (tI O O) (λx3 h4=>?_);have oh4:gW x3:=O0.2.2.2.2.2.1.2 x3 h4.1;have mh4:=h4.2;refine tB (Z4k oh4) (λx5 h6=>?_);have eh6_1:=h6.2;have q9:=O2.2.2.2.2.2.1.1;refine tB (tA eW aH) (λx7 h8=>?_);have lh8:x7.length=E2.Waiting.length+1:=by rw[h8,bn];rfl
   refine qw (v8+1) λq10 q11=>?_;exact tL ⟨rfl,O0,O1,⟨O2.1,O2.2.1,O2.2.2.1,O2.2.2.2.1,O2.2.2.2.2.1,SzL.app (k:=768) h8 lo O2.2.2.2.2.2.1.2 (me1 h6.1),O2.2.2.2.2.2.2.1,O2.2.2.2.2.2.2.2⟩,cl,cl,cl,Dh⟩ jS
  exact tL ⟨rfl,O0,O1,⟨O2.1,O2.2.1,O2.2.2.1,O2.2.2.2.1,O2.2.2.2.2.1,O2.2.2.2.2.2.1,SzL.nil,O2.2.2.2.2.2.2.2⟩,cl,cl,cl,Di⟩ jS
 |L3 E0 E1 E2 v10=>
  obtain⟨al0,O0,O1,O2,cv10,i0,i1,i2⟩:=hs;subst al0;show Tot (Z54 E0 E1 E2 v10).den _;dsimp only[Z54,LT.den];have q1:=O0.2.2.2.2.2.2.1.1;refine tD (λh2=>?_) (λh2=>?_)
  .refine tB (tI O O) (λx3 h4=>?_);have oh4:fI x3:=O0.2.2.2.2.2.2.1.2 x3 h4.1;have mh4:=h4.2;refine tB (gv oh4.1) (λx5 h6=>?_);have eh6_1:=h6.2;have q9:=oh4.2.1;refine tB (tA eD aH) (λx7 h8=>?_);have lh8:x7.length=([]:List ah).length+x3.Mods.length:=by rw[h8,bn]
   try simp only[bJ,bU,aK]at lh8
   have q12:=O2.2.2.2.2.2.2.1.1;refine tB (tA eW aH) (λx10 h11=>?_);have lh11:x10.length=E2.Conts.length+1:=by rw[h11,bn];rfl
   refine qw (v10+1) λq13 q14=>?_;exact tL ⟨rfl,O0,O1,⟨O2.1,O2.2.1,O2.2.2.1,O2.2.2.2.1,O2.2.2.2.2.1,O2.2.2.2.2.2.1,SzL.app (k:=80) h11 lo O2.2.2.2.2.2.2.1.2 (me1 ⟨h6.1,SzL.app (k:=176) h8 lo (λ_ h=>by cases h) oh4.2.2⟩),O2.2.2.2.2.2.2.2⟩,cl,cl,cl,Di⟩ jS
  refine tB (gv O0.2.2.2.2.2.2.2) (λx15 h16=>?_);have eh16_1:=h16.2;exact tR ⟨⟨O2.1,O2.2.1,O2.2.2.1,O2.2.2.2.1,O2.2.2.2.2.1,O2.2.2.2.2.2.1,O2.2.2.2.2.2.2.1,h16.1⟩,(by exact Om V O V)⟩
def Oo{a0:ae}{a1:az}(oa0:bc a0)(oa1:cH a1):Tot (vH a0 a1) (λr=>(bc r)/\(r=puS a0 a1)):=by
 unfold vH;refine tZ ?_;dsimp only[Dj,LT.den];have q1:=oa0.2.2.2.2.1.1;refine tD (λh2=>?_) (λh2=>?_)
 .exact tR ⟨oa0,mv⟩
 refine tB (Ol oa0) (λx3 h4=>?_);have eh4_1:=h4.2;have lh4:x3.Stack.length=a0.Stack.length:=by rw[eh4_1]
 refine tE (λh5=>?_) (λh5=>?_)
 .refine qw (x3.NextId+1) λq6 q7=>?_;have q10:=h4.1.2.2.2.2.1.1;refine tB (tA eW aH) (λx8 h9=>?_);have lh9:x8.length=x3.Stack.length+1:=by rw[h9,bn];rfl
  exact tR ⟨⟨h4.1.1,h4.1.2.1,h4.1.2.2.1,h4.1.2.2.2.1,SzL.app (k:=824) h9 lo h4.1.2.2.2.2.1.2 (me1 ⟨oa1.1,oa1.2⟩),h4.1.2.2.2.2.2.1,h4.1.2.2.2.2.2.2.1,h4.1.2.2.2.2.2.2.2⟩,mv⟩
 have q13:=h4.1.2.2.2.2.1.1;refine tB (tA eW aH) (λx11 h12=>?_);have lh12:x11.length=x3.Stack.length+1:=by rw[h12,bn];rfl
 exact tR ⟨⟨h4.1.1,h4.1.2.1,h4.1.2.2.1,h4.1.2.2.2.1,SzL.app (k:=824) h12 lo h4.1.2.2.2.2.1.2 (me1 oa1),h4.1.2.2.2.2.2.1,h4.1.2.2.2.2.2.2.1,h4.1.2.2.2.2.2.2.2⟩,mv⟩
def Oq(a0:List Int)(a1:List Int):n7->Prop
 |.L0 v0 v1 v5=>(v0=a0)/\(v1=a1)/\((SzL 8 (λ_=>True)) v0)/\((SzL 8 (λ_=>True)) v1)/\(0<=v5)/\(v0.length=v1.length)
def Z6l:n7->M6
 |.L0 v0 v1 v5=>(1,((v0.length:Int)-v5).toNat,1000000,0,0,0)
def kU{a0:List Int}{a1:List Int}(oa0:(SzL 8 (λ_=>True)) a0)(oa1:(SzL 8 (λ_=>True)) a1):Tot (vI a0 a1) (λr=>(a0=a1->r=true)):=by
 unfold vI;refine tX (Inv:=(Oq a0 a1)) (μ:=Z6l) (m:=(1000000,0,0,0,0,0)) ?_ ?_
 .have lb_a0:=oa0.1;have lb_a1:=oa1.1;dsimp only[Dk,LT.den];have q1:=oa0.1;have q2:=oa1.1;refine tN (λh3=>?_) (λh3=>?_)
  .exact tR vJ
  exact tL ⟨rfl,rfl,oa0,oa1,cl,cl⟩ Dl
 intro s hs;cases s with
 |L0 v0 v1 v5=>
  obtain⟨al0,al1,ov0,ov1,cv5,i0⟩:=hs;have lb_v0:=ov0.1;have lb_v1:=ov1.1;subst al0;subst al1;show Tot (Z55 v0 v1 v5).den _;dsimp only[Z55,LT.den];have q1:=ov0.1;refine tD (λh2=>?_) (λh2=>?_)
  .refine tB (tI O O) (λx3 h4=>?_);have mh4:=h4.2;refine tB (tI O O) (λx5 h6=>?_);have mh6:=h6.2;refine tN (λh7=>?_) (λh7=>?_)
   .exact tR vJ
   refine qw (v5+1) λq8 q9=>?_;exact tL ⟨rfl,rfl,ov0,ov1,cl,cl⟩ Dl
  exact tR vJ
def Ot{a0:bS}{a1:bS}(oa0:eV a0)(oa1:eV a1):Tot (vK a0 a1) (λr=>(a0=a1->r=true)):=by
 unfold vK;refine tZ ?_;dsimp only[Z14,LT.den];refine tN (λh1=>?_) (λh1=>?_)
 .exact tR aT
 refine tN (λh2=>?_) (λh2=>?_)
 .exact tR aT
 refine tN (λh3=>?_) (λh3=>?_)
 .exact tR aT
 refine tO (λh4=>?_) (λh4=>?_)
 .exact tR aT
 refine tO (λh5=>?_) (λh5=>?_)
 .exact tR aT
 refine tO (λh6=>?_) (λh6=>?_)
 .exact tR aT
 refine tB (kU oa0.1 oa1.1) (λx7 h8=>?_);have eh8_0:=h8;refine tF (λh9=>?_) (λh9=>?_)
 .refine tB (kU oa0.2.1 oa1.2.1) (λx10 h11=>?_);have eh11_0:=h11;refine tF (λh12=>?_) (λh12=>?_)
  .refine tB (kU oa0.2.2 oa1.2.2) (λx13 h14=>?_);have eh14_0:=h14;exact tR aT
  exact tR aT
 exact tR aT
def Ou(a0:az)(a1:az):n8->Prop
 |.L0 E0 E1 v5=>(E0=a0)/\(E1=a1)/\(cH E0)/\(cH E1)/\(0<=v5)/\(E0.Targets.length=E1.Targets.length)
def Dm:n8->M6
 |.L0 E0 E1 v5=>(1,((E0.Targets.length:Int)-v5).toNat,1000000,0,0,0)
def Ov{a0:az}{a1:az}(oa0:cH a0)(oa1:cH a1):Tot (Z16 a0 a1) (λr=>(a0=a1->r=true)):=by
 unfold Z16;refine tX (Inv:=(Ou a0 a1)) (μ:=Dm) (m:=(1000000,0,0,0,0,0)) ?_ ?_
 .dsimp only[Z7z,LT.den];have q1:=oa0.2.1;have q2:=oa1.2.1;refine tN (λh3=>?_) (λh3=>?_)
  .exact tR aT
  exact tL ⟨rfl,rfl,oa0,oa1,cl,cl⟩ Dn
 intro s hs;cases s with
 |L0 E0 E1 v5=>
  obtain⟨al0,al1,O0,O1,cv5,i0⟩:=hs;subst al0;subst al1;show Tot (vL E0 E1 v5).den _;dsimp only[vL,LT.den];have q1:=O0.2.1;refine tD (λh2=>?_) (λh2=>?_)
  .refine tB (tI O O) (λx3 h4=>?_);have mh4:=h4.2;refine tB (tI O O) (λx5 h6=>?_);have mh6:=h6.2;refine tO (λh7=>?_) (λh7=>?_)
   .exact tR aT
   refine qw (v5+1) λq8 q9=>?_;exact tL ⟨rfl,rfl,O0,O1,cl,cl⟩ Dn
  refine tE (λh10=>?_) (λh10=>?_)
  .refine tE (λh11=>?_) (λh11=>?_)
   .refine tE (λh12=>?_) (λh12=>?_)
    .refine tE (λh13=>?_) (λh13=>?_)
     .refine tE (λh14=>?_) (λh14=>?_)
      .refine tF (λh15=>?_) (λh15=>?_)
       .refine tB (Z2v O0.1 O1.1) (λx16 h17=>?_);have eh17_0:=h17;refine tF (λh18=>?_) (λh18=>?_)
        .exact tR aT
        exact tR aT
       exact tR aT
      exact tR aT
     exact tR aT
    exact tR aT
   exact tR aT
  exact tR aT
def Ow{a0:bZ}{a1:bZ}(oa0:gW a0)(oa1:gW a1):Tot (vM a0 a1) (λr=>(a0=a1->r=true)):=by
 unfold vM;refine tZ ?_;dsimp only[Dp,LT.den];refine tE (λh1=>?_) (λh1=>?_)
 .refine tE (λh2=>?_) (λh2=>?_)
  .refine tB (Z2v oa0 oa1) (λx3 h4=>?_);have eh4_0:=h4;refine tF (λh5=>?_) (λh5=>?_)
   .exact tR aT
   exact tR aT
  exact tR aT
 exact tR aT
def Ox(a0:List ah)(a1:List ah):n9->Prop
 |.L0 v0 v1 v5=>(v0=a0)/\(v1=a1)/\((SzL 176 cc) v0)/\((SzL 176 cc) v1)/\(0<=v5)/\(v0.length=v1.length)
def Dq:n9->M6
 |.L0 v0 v1 v5=>(1,((v0.length:Int)-v5).toNat,1000000,0,0,0)
def Oy{a0:List ah}{a1:List ah}(oa0:(SzL 176 cc) a0)(oa1:(SzL 176 cc) a1):Tot (Z17 a0 a1) (λr=>(a0=a1->r=true)):=by
 unfold Z17;refine tX (Inv:=(Ox a0 a1)) (μ:=Dq) (m:=(1000000,0,0,0,0,0)) ?_ ?_
 .have lb_a0:=oa0.1;have lb_a1:=oa1.1;dsimp only[Z71,LT.den];have q1:=oa0.1;have q2:=oa1.1;refine tN (λh3=>?_) (λh3=>?_)
  .exact tR aT
  exact tL ⟨rfl,rfl,oa0,oa1,cl,cl⟩ Dr
 intro s hs;cases s with
 |L0 v0 v1 v5=>
  obtain⟨al0,al1,ov0,ov1,cv5,i0⟩:=hs;have lb_v0:=ov0.1;have lb_v1:=ov1.1;subst al0;subst al1;show Tot (vN v0 v1 v5).den _;dsimp only[vN,LT.den];have q1:=ov0.1;refine tD (λh2=>?_) (λh2=>?_)
  .refine tB (tI O O) (λx3 h4=>?_);have oh4:cc x3:=ov0.2 x3 h4.1;have mh4:=h4.2;refine tB (tI O O) (λx5 h6=>?_);have oh6:cc x5:=ov1.2 x5 h6.1;have mh6:=h6.2;refine tO (λh7=>?_) (λh7=>?_)
   .exact tR aT
   refine qw (v5+1) λq8 q9=>?_;exact tL ⟨rfl,rfl,ov0,ov1,cl,cl⟩ Dr
  exact tR aT
def Oz{a0:cd}{a1:cd}(oa0:fI a0)(oa1:fI a1):Tot (Z18 a0 a1) (λr=>(a0=a1->r=true)):=by
 unfold Z18;refine tZ ?_;dsimp only[Z73,LT.den];refine tE (λh1=>?_) (λh1=>?_)
 .refine tE (λh2=>?_) (λh2=>?_)
  .refine tE (λh3=>?_) (λh3=>?_)
   .refine tE (λh4=>?_) (λh4=>?_)
    .refine tB (kU oa0.1 oa1.1) (λx5 h6=>?_);have eh6_0:=h6;refine tF (λh7=>?_) (λh7=>?_)
     .refine tB (Oy oa0.2 oa1.2) (λx8 h9=>?_);have eh9_0:=h9;exact tR aT
     exact tR aT
    exact tR aT
   exact tR aT
  exact tR aT
 exact tR aT
def OA(a0:ae)(a1:ae):jm->Prop
 |.L0 E0 E1 v5=>(E0=a0)/\(E1=a1)/\(bc E0)/\(bc E1)/\(0<=v5)/\(E0.Players.length=E1.Players.length)/\(E0.Objects.length=E1.Objects.length)/\(E0.Stack.length=E1.Stack.length)/\(E0.Waiting.length=E1.Waiting.length)/\(E0.Conts.length=E1.Conts.length)
 |.L1 E0 E1 v6=>(E0=a0)/\(E1=a1)/\(bc E0)/\(bc E1)/\(0<=v6)/\(E0.Players.length=E1.Players.length)/\(E0.Objects.length=E1.Objects.length)/\(E0.Stack.length=E1.Stack.length)/\(E0.Waiting.length=E1.Waiting.length)/\(E0.Conts.length=E1.Conts.length)
 |.L2 E0 E1 v7=>(E0=a0)/\(E1=a1)/\(bc E0)/\(bc E1)/\(0<=v7)/\(E0.Players.length=E1.Players.length)/\(E0.Objects.length=E1.Objects.length)/\(E0.Stack.length=E1.Stack.length)/\(E0.Waiting.length=E1.Waiting.length)/\(E0.Conts.length=E1.Conts.length)
 |.L3 E0 E1 v8=>(E0=a0)/\(E1=a1)/\(bc E0)/\(bc E1)/\(0<=v8)/\(E0.Players.length=E1.Players.length)/\(E0.Objects.length=E1.Objects.length)/\(E0.Stack.length=E1.Stack.length)/\(E0.Waiting.length=E1.Waiting.length)/\(E0.Conts.length=E1.Conts.length)
 |.L4 E0 E1 v9=>(E0=a0)/\(E1=a1)/\(bc E0)/\(bc E1)/\(0<=v9)/\(E0.Players.length=E1.Players.length)/\(E0.Objects.length=E1.Objects.length)/\(E0.Stack.length=E1.Stack.length)/\(E0.Waiting.length=E1.Waiting.length)/\(E0.Conts.length=E1.Conts.length)
def Ds:jm->M6
 |.L0 E0 E1 v5=>(9,((E0.Players.length:Int)-v5).toNat,1000000,0,0,0)
 |.L1 E0 E1 v6=>(7,((E0.Objects.length:Int)-v6).toNat,1000000,0,0,0)
 |.L2 E0 E1 v7=>(5,((E0.Stack.length:Int)-v7).toNat,1000000,0,0,0)
 |.L3 E0 E1 v8=>(3,((E0.Waiting.length:Int)-v8).toNat,1000000,0,0,0)
 |.L4 E0 E1 v9=>(1,((E0.Conts.length:Int)-v9).toNat,1000000,0,0,0)
def OB{a0:ae}{a1:ae}(oa0:bc a0)(oa1:bc a1):Tot (vO a0 a1) (λr=>(a0=a1->r=true)):=by
 unfold vO;refine tX (Inv:=(OA a0 a1)) (μ:=Ds) (m:=(1000000,0,0,0,0,0)) ?_ ?_
 .dsimp only[Dt,LT.den];have q1:=oa0.1.1;have q2:=oa1.1.1;refine tN (λh3=>?_) (λh3=>?_)
  .exact tR aT
  have q4:=oa0.2.1.1;have q5:=oa1.2.1.1;refine tN (λh6=>?_) (λh6=>?_)
  .exact tR aT
  have q7:=oa0.2.2.2.2.1.1;have q8:=oa1.2.2.2.2.1.1;refine tN (λh9=>?_) (λh9=>?_)
  .exact tR aT
  have q10:=oa0.2.2.2.2.2.1.1;have q11:=oa1.2.2.2.2.2.1.1;refine tN (λh12=>?_) (λh12=>?_)
  .exact tR aT
  have q13:=oa0.2.2.2.2.2.2.1.1;have q14:=oa1.2.2.2.2.2.2.1.1;refine tN (λh15=>?_) (λh15=>?_)
  .exact tR aT
  exact tL ⟨rfl,rfl,oa0,oa1,cl,cl,cl,cl,cl,cl⟩ iI
 intro s hs;cases s with
 |L0 E0 E1 v5=>
  obtain⟨al0,al1,O0,O1,cv5,i0,i1,i2,i3,i4⟩:=hs;subst al0;subst al1;show Tot (Z19 E0 E1 v5).den _;dsimp only[Z19,LT.den];have q1:=O0.1.1;refine tD (λh2=>?_) (λh2=>?_)
  .refine tB (tI O O) (λx3 h4=>?_);have oh4:eV x3:=O0.1.2 x3 h4.1;have mh4:=h4.2;refine tB (tI O O) (λx5 h6=>?_);have oh6:eV x5:=O1.1.2 x5 h6.1;have mh6:=h6.2;refine tB (Ot oh4 oh6) (λx7 h8=>?_);have eh8_0:=h8;refine tO (λh9=>?_) (λh9=>?_)
   .exact tR aT
   refine qw (v5+1) λq10 q11=>?_;exact tL ⟨rfl,rfl,O0,O1,cl,cl,cl,cl,cl,cl⟩ iI
  exact tL ⟨rfl,rfl,O0,O1,cl,cl,cl,cl,cl,cl⟩ iI
 |L1 E0 E1 v6=>
  obtain⟨al0,al1,O0,O1,cv6,i0,i1,i2,i3,i4⟩:=hs;subst al0;subst al1;show Tot (Z2a E0 E1 v6).den _;dsimp only[Z2a,LT.den];have q1:=O0.2.1.1;refine tD (λh2=>?_) (λh2=>?_)
  .refine tB (tI O O) (λx3 h4=>?_);have mh4:=h4.2;refine tB (tI O O) (λx5 h6=>?_);have mh6:=h6.2;refine tO (λh7=>?_) (λh7=>?_)
   .exact tR aT
   refine qw (v6+1) λq8 q9=>?_;exact tL ⟨rfl,rfl,O0,O1,cl,cl,cl,cl,cl,cl⟩ iI
  exact tL ⟨rfl,rfl,O0,O1,cl,cl,cl,cl,cl,cl⟩ iI
 |L2 E0 E1 v7=>
  obtain⟨al0,al1,O0,O1,cv7,i0,i1,i2,i3,i4⟩:=hs;subst al0;subst al1;show Tot (Z2b E0 E1 v7).den _;dsimp only[Z2b,LT.den];have q1:=O0.2.2.2.2.1.1;refine tD (λh2=>?_) (λh2=>?_)
  .refine tB (tI O O) (λx3 h4=>?_);have oh4:cH x3:=O0.2.2.2.2.1.2 x3 h4.1;have mh4:=h4.2;refine tB (tI O O) (λx5 h6=>?_);have oh6:cH x5:=O1.2.2.2.2.1.2 x5 h6.1;have mh6:=h6.2;refine tB (Ov oh4 oh6) (λx7 h8=>?_);have eh8_0:=h8;refine tO (λh9=>?_) (λh9=>?_)
   .exact tR aT
   refine qw (v7+1) λq10 q11=>?_;exact tL ⟨rfl,rfl,O0,O1,cl,cl,cl,cl,cl,cl⟩ iI
  exact tL ⟨rfl,rfl,O0,O1,cl,cl,cl,cl,cl,cl⟩ iI
 |L3 E0 E1 v8=>
  obtain⟨al0,al1,O0,O1,cv8,i0,i1,i2,i3,i4⟩:=hs;subst al0;subst al1;show Tot (Z2c E0 E1 v8).den _;dsimp only[Z2c,LT.den];have q1:=O0.2.2.2.2.2.1.1;refine tD (λh2=>?_) (λh2=>?_)
  .refine tB (tI O O) (λx3 h4=>?_);have oh4:gW x3:=O0.2.2.2.2.2.1.2 x3 h4.1;have mh4:=h4.2;refine tB (tI O O) (λx5 h6=>?_);have oh6:gW x5:=O1.2.2.2.2.2.1.2 x5 h6.1;have mh6:=h6.2;refine tB (Ow oh4 oh6) (λx7 h8=>?_);have eh8_0:=h8;refine tO (λh9=>?_) (λh9=>?_)
   .exact tR aT
   refine qw (v8+1) λq10 q11=>?_;exact tL ⟨rfl,rfl,O0,O1,cl,cl,cl,cl,cl,cl⟩ iI
  exact tL ⟨rfl,rfl,O0,O1,cl,cl,cl,cl,cl,cl⟩ iI
 |L4 E0 E1 v9=>
  obtain⟨al0,al1,O0,O1,cv9,i0,i1,i2,i3,i4⟩:=hs;subst al0;subst al1;show Tot (Z2d E0 E1 v9).den _;dsimp only[Z2d,LT.den];have q1:=O0.2.2.2.2.2.2.1.1;refine tD (λh2=>?_) (λh2=>?_)
  .refine tB (tI O O) (λx3 h4=>?_);have oh4:fI x3:=O0.2.2.2.2.2.2.1.2 x3 h4.1;have mh4:=h4.2;refine tB (tI O O) (λx5 h6=>?_);have oh6:fI x5:=O1.2.2.2.2.2.2.1.2 x5 h6.1;have mh6:=h6.2;refine tB (Oz oh4 oh6) (λx7 h8=>?_);have eh8_0:=h8;refine tO (λh9=>?_) (λh9=>?_)
   .exact tR aT
   refine qw (v9+1) λq10 q11=>?_;exact tL ⟨rfl,rfl,O0,O1,cl,cl,cl,cl,cl,cl⟩ iI
  exact tR aT
def Du{a0:ae}{a1:ae}(oa0:bc a0)(oa1:bc a1):Tot (vP a0 a1) (λr=>(a0=a1->r=true)):=by
 unfold vP;refine tZ ?_;dsimp only[Dv,LT.den];refine tN (λh1=>?_) (λh1=>?_)
 .exact tR aT
 refine tN (λh2=>?_) (λh2=>?_)
 .exact tR aT
 refine tN (λh3=>?_) (λh3=>?_)
 .exact tR aT
 refine tO (λh4=>?_) (λh4=>?_)
 .exact tR aT
 refine tN (λh5=>?_) (λh5=>?_)
 .exact tR aT
 refine tN (λh6=>?_) (λh6=>?_)
 .exact tR aT
 refine tN (λh7=>?_) (λh7=>?_)
 .exact tR aT
 refine tN (λh8=>?_) (λh8=>?_)
 .exact tR aT
 refine tN (λh9=>?_) (λh9=>?_)
 .exact tR aT
 refine tN (λh10=>?_) (λh10=>?_)
 .exact tR aT
 refine tN (λh11=>?_) (λh11=>?_)
 .exact tR aT
 refine tB (OB oa0 oa1) (λx12 h13=>?_);have eh13_0:=h13;refine tF (λh14=>?_) (λh14=>?_)
 .refine tB (kU oa0.2.2.1 oa1.2.2.1) (λx15 h16=>?_);have eh16_0:=h16;refine tF (λh17=>?_) (λh17=>?_)
  .refine tB (kU oa0.2.2.2.1 oa1.2.2.2.1) (λx18 h19=>?_);have eh19_0:=h19;refine tF (λh20=>?_) (λh20=>?_)
   .refine tB (kU oa0.2.2.2.2.2.2.2 oa1.2.2.2.2.2.2.2) (λx21 h22=>?_);have eh22_0:=h22;exact tR aT
   exact tR aT
  exact tR aT
 exact tR aT
def OC(a0:ae)(a1:Int):oa->Prop
 |.L0 v1 E0 E1 v6=>(E0=a0)/\(v1=a1)/\(bc E0)/\(cH E1)/\(v6<(E0.Stack.length:Int))/\(∀(k:Nat) y,v6<(k:Int)->E0.Stack[k]?=some y->y.Id≠v1)
def Z6m:oa->M6
 |.L0 v1 E0 E1 v6=>(1,(v6+1).toNat,1000000,0,0,0)
def OE{a0:ae}{a1:Int}(oa0:bc a0):Tot (vQ a0 a1) (λr=>(cH r.1)/\(r=dN a0.Stack a1)):=by
 unfold vQ;refine tX (Inv:=(OC a0 a1)) (μ:=Z6m) (m:=(1000000,0,0,0,0,0)) ?_ ?_
 .dsimp only[Dw,LT.den];have q1:=oa0.2.2.2.2.1.1;refine qw ((a0.Stack.length:Int)-1) λq2 q3=>?_;exact tL ⟨rfl,rfl,oa0,⟨⟨SzS.nil,SzL.nil,SzS.nil,SzL.nil,SzL.nil,SzS.nil⟩,SzL.nil⟩,cl,Dx⟩ Dy
 intro s hs;cases s with
 |L0 v1 E0 E1 v6=>
  obtain⟨al0,al1,O0,O1,i0,i1⟩:=hs;subst al0;subst al1;show Tot (Z56 v1 E0 E1 v6).den _;dsimp only[Z56,LT.den];have lr:=O0.2.2.2.2.1.1;refine tD (λh1=>?_) (λh1=>?_)
  .refine tB (tI O O) (λx2 h3=>?_);have oh3:cH x2:=O0.2.2.2.2.1.2 x2 h3.1;have mh3:=h3.2;refine tE (λh4=>?_) (λh4=>?_)
   .exact tR ⟨oh3,Dz⟩
   refine qw (v6-1) λq5 q6=>?_;exact tL ⟨rfl,rfl,O0,O1,cl,Dx⟩ Dy
  exact tR ⟨⟨⟨SzS.nil,SzL.nil,SzS.nil,SzL.nil,SzL.nil,SzS.nil⟩,SzL.nil⟩,Dz⟩
def Z8b(a0:ae)(a1:Int)(oa0:bc a0):Tot (rZ a0 a1) (λr=>(cH r.1)/\(r=dN a0.Stack a1)):=by
 obtain⟨x,h1,h2,h3⟩ := @rX _ oa0;subst h3;refine⟨dN x.Stack a1,by unfold rZ;rw[h1];rfl,?_,rfl⟩;unfold dN;split
 .rename_i y hy;exact oa0.2.2.2.2.1.2 y (List.mem_reverse.1 (List.mem_of_find?_eq_some hy))
 exact⟨⟨SzS.nil,SzL.nil,SzS.nil,SzL.nil,SzL.nil,SzS.nil⟩,SzL.nil⟩
def OF{a0:List Z1}{a1:ae}{a2:az}(oa0:(SzL 176 cR) a0)(oa1:bc a1)(oa2:cH a2):Tot (vR a0 a1 a2) (λr=>(r=true)):=by
 unfold vR;refine tZ ?_;have lb_a0:=oa0.1;dsimp only[Z4a,LT.den];refine tB (CS oa0 oa1) (λx1 h2=>?_);have eh2_0:=h2.1;have eh2_1:=h2.2;refine tO (λh3=>?_) (λh3=>?_)
 .refine tB (gu) (λx4 h5=>?_);have eh5_0:=h5;exact tR dY
 have h3_0:=eh2_0 h3;have h3_1:=eh2_1 h3;have q6:=oa2.2.1;refine tD (λh7=>?_) (λh7=>?_)
 .refine tB (gu) (λx8 h9=>?_);have eh9_0:=h9;exact tR dY
 have q10:=oa2.1.2.2.2.2.1.1;refine tD (λh11=>?_) (λh11=>?_)
 .refine tB (gu) (λx12 h13=>?_);have eh13_0:=h13;exact tR dY
 have q14:=oa2.1.2.2.2.1.1;refine tD (λh15=>?_) (λh15=>?_)
 .refine tB (gu) (λx16 h17=>?_);have eh17_0:=h17;exact tR dY
 have q18:=oa2.1.2.1.1;refine tD (λh19=>?_) (λh19=>?_)
 .refine tB (gu) (λx20 h21=>?_);have eh21_0:=h21;exact tR dY
 refine tB (Z8a oa1 oa2) (λx22 h23=>?_);have eh23_1:=h23.2;have lh23:=OG (by assumption:x22=puS _ _) O;refine tB (Oo oa1 oa2) (λx24 h25=>?_);have eh25_1:=h25.2;refine tB (Du h23.1 h25.1) (λx26 h27=>?_);have eh27_0:=h27;have wh27:x26=true:=eh27_0 ((by assumption:x22=_).trans (by assumption:x24=_).symm);refine tO (λh28=>?_) (λh28=>?_)
 .exact tR dY
 have q29:=oa1.2.2.2.2.1.1;refine qw ((a1.Stack.length:Int)+1) λq30 q31=>?_;refine tN (λh32=>?_) (λh32=>?_)
 .exact tR dY
 refine tB (tI O O) (λx49 h50=>?_);have oh50:cH x49:=h23.1.2.2.2.2.1.2 x49 h50.1;have mh50:=h50.2;refine tB (Z8b x22 x49.Id h23.1) (λx51 h52=>?_);have eh52_1:=h52.2;try have wh52:=DA ((by assumption:x51=dN _ _).trans (DB (i:=(a1.Stack.length:Int)) V O rfl V))
 refine tB (Z8b x22 a2.Id h23.1) (λx53 h54=>?_);have eh54_1:=h54.2;try have wh54:=DA ((by assumption:x53=dN _ _).trans (DB (i:=(a1.Stack.length:Int)) V O rfl V))
 refine tB (OE h25.1) (λx55 h56=>?_);have eh56_1:=h56.2;have wh56:x53=x55:=OH (by assumption:x53=dN x22.Stack _) (by assumption:x55=dN x24.Stack _) V V;refine tF (λh57=>?_) (λh57=>?_)
 .refine tE (λh58=>?_) (λh58=>?_)
  .refine tE (λh59=>?_) (λh59=>?_)
   .refine tF (λh60=>?_) (λh60=>?_)
    .refine tE (λh61=>?_) (λh61=>?_)
     .refine tE (λh62=>?_) (λh62=>?_)
      .refine tB (gu) (λx63 h64=>?_);have eh64_0:=h64;exact tR dY
      exact tR dY
     exact tR dY
    exact tR dY
   exact tR dY
  exact tR dY
 exact tR dY
def OI:mw->Prop
 |.L0 E0 E1 v34 v35=>(bc E0)/\(cH E1)/\(0<=v35)/\(v34=(E0.Objects.length:Int))
 |.L1 E0 E1 v8=>(bc E0)/\(cH E1)/\(0<=v8)/\((E0.Stack.length:Int)=v8)/\(v8<=64)
def DC:mw->M6
 |.L0 E0 E1 v34 v35=>(3,(v34-v35).toNat,1000000,0,0,0)
 |.L1 E0 E1 v8=>(1,(64-v8).toNat,1000000,0,0,0)
def OJ{a0:List Z1}{a1:ae}{a2:az}(oa0:(SzL 176 cR) a0)(oa1:bc a1)(oa2:cH a2):Tot (vS a0 a1 a2) (λr=>(r=true)):=by
 unfold vS;refine tX (Inv:=OI) (μ:=DC) (m:=(1000000,0,0,0,0,0)) ?_ ?_
 .have lb_a0:=oa0.1;dsimp only[Z4c,LT.den];refine tB (CS oa0 oa1) (λx1 h2=>?_);have eh2_0:=h2.1;have eh2_1:=h2.2;refine tO (λh3=>?_) (λh3=>?_)
  .refine tB (gu) (λx4 h5=>?_);have eh5_0:=h5;exact tR dY
  have h3_0:=eh2_0 h3;have h3_1:=eh2_1 h3;refine tD (λh6=>?_) (λh6=>?_)
  .refine tB (gu) (λx7 h8=>?_);have eh8_0:=h8;exact tR dY
  have q9:=oa2.2.1;refine tD (λh10=>?_) (λh10=>?_)
  .refine tB (gu) (λx11 h12=>?_);have eh12_0:=h12;exact tR dY
  have q13:=oa2.1.2.2.2.2.1.1;refine tD (λh14=>?_) (λh14=>?_)
  .refine tB (gu) (λx15 h16=>?_);have eh16_0:=h16;exact tR dY
  have q17:=oa1.2.1.1;exact tL ⟨oa1,oa2,cl,cl⟩ r3
 intro s hs;cases s with
 |L0 E0 E1 v34 v35=>
  obtain⟨O0,O1,cv35,i0⟩:=hs;show Tot (vT E0 E1 v34 v35).den _;dsimp only[vT,LT.den];have lr:=O0.2.1.1;refine tD (λh1=>?_) (λh1=>?_)
  .refine tB (tI O O) (λx2 h3=>?_);have mh3:=h3.2;refine tE (λh4=>?_) (λh4=>?_)
   .refine tB (gu) (λx5 h6=>?_);have eh6_0:=h6;exact tR dY
   refine qw (v35+1) λq7 q8=>?_;exact tL ⟨O0,O1,cl,cl⟩ r3
  exact tL ⟨⟨O0.1,O0.2.1,O0.2.2.1,O0.2.2.2.1,SzL.nil,O0.2.2.2.2.2.1,O0.2.2.2.2.2.2.1,O0.2.2.2.2.2.2.2⟩,O1,cl,cl,cl⟩ r3
 |L1 E0 E1 v8=>
  obtain⟨O0,O1,cv8,i0,i1⟩:=hs;show Tot (vU E0 E1 v8).den _;dsimp only[vU,LT.den];refine tD (λh1=>?_) (λh1=>?_)
  .refine qw (E0.NextId+v8) λq2 q3=>?_;have q6:=O0.2.2.2.2.1.1;refine tB (tA eW aH) (λx4 h5=>?_);have lh5:x4.length=E0.Stack.length+1:=by rw[h5,bn];rfl
   refine qw (v8+1) λq7 q8=>?_;exact tL ⟨⟨O0.1,O0.2.1,O0.2.2.1,O0.2.2.2.1,SzL.app (k:=824) h5 lo O0.2.2.2.2.1.2 (me1 ⟨⟨SzS.nil,SzL.nil,SzS.nil,SzL.nil,SzL.one ⟨SzS.nil,SzS.nil,SzS.nil,SzS.nil,SzL.nil⟩,SzS.nil⟩,SzL.nil⟩),O0.2.2.2.2.2.1,O0.2.2.2.2.2.2.1,O0.2.2.2.2.2.2.2⟩,O1,cl,cl,cl⟩ r3
  refine qw (E0.NextId+64) λq9 q10=>?_;refine tB (Z8a ⟨O0.1,O0.2.1,O0.2.2.1,O0.2.2.2.1,O0.2.2.2.2.1,O0.2.2.2.2.2.1,O0.2.2.2.2.2.2.1,O0.2.2.2.2.2.2.2⟩ O1) (λx11 h12=>?_);have eh12_1:=h12.2;refine tB (Du h12.1 ⟨O0.1,O0.2.1,O0.2.2.1,O0.2.2.2.1,O0.2.2.2.2.1,O0.2.2.2.2.2.1,O0.2.2.2.2.2.2.1,O0.2.2.2.2.2.2.2⟩) (λx13 h14=>?_);have eh14_0:=h14;have wh14:x13=true:=eh14_0 (OL V (by dsimp only;omega));refine tF (λh15=>?_) (λh15=>?_)
  .refine tB (gu) (λx16 h17=>?_);have eh17_0:=h17;exact tR dY
  exact tR dY
end Go.PW
