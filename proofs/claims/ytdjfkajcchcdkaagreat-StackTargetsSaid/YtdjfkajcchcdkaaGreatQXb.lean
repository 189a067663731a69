import Derived.Test.YtdjfkajcchcdkaaGreatQX
set_option linter.all false
set_option maxRecDepth 100000
namespace Go.PW
def XN{a0:List ck}(oa0:(SzL 80 iu) a0):Tot (tv a0) (λr=>((SzL 80 iu) r)/\(r=a0)):=by
 unfold tv;split
 .apply tZ;have lb_a0:=oa0.1;dsimp only[yi,LT.den];have q1:=oa0.1;refine Tot.ap λx1 h1=>?_;have lh1:x1.length=([]:List ck).length+a0.length:=by rw[h1,bF]
  try simp only[bT,cg,aM]at lh1
  exact tR ⟨SzL.app (k:=80) h1 lo (λ_ h=>by cases h) oa0.2,tk72⟩
 apply tZ;dsimp only[tw,LT.den];exact Z4v
def XO(a0:ab):j8->Prop
 |.L0 E0 E1 v13 v14=>(aR E0)/\(aR E1)/\(0<=v14)/\(E0=a0)/\(v13=(a0.Players.length:Int))
 |.L1 E0 E1 v46 v47=>(aR E0)/\(aR E1)/\(0<=v47)/\(E0=a0)/\(v46=(a0.Stack.length:Int))
 |.L2 E0 E1 v81 v82=>(aR E0)/\(aR E1)/\(0<=v82)/\(E0=a0)/\(v81=(a0.Waiting.length:Int))
 |.L3 E0 E1 v104 v105=>(aR E0)/\(aR E1)/\(0<=v105)/\(E0=a0)/\(v104=(a0.Conts.length:Int))
def El:j8->M6
 |.L0 E0 E1 v13 v14=>(7,(v13-v14).toNat,1000000,0,0,0)
 |.L1 E0 E1 v46 v47=>(5,(v46-v47).toNat,1000000,0,0,0)
 |.L2 E0 E1 v81 v82=>(3,(v81-v82).toNat,1000000,0,0,0)
 |.L3 E0 E1 v104 v105=>(1,(v104-v105).toNat,1000000,0,0,0)
def tz{a0:ab}(oa0:aR a0):Tot (tC a0) (λr=>(aR r)/\(r=a0)):=by
 apply Tot.rn (XO a0) El
 .dsimp only[En,LT.den];refine tB (XP oa0.1) λx1 h1=>?_;have eh1_1:=h1.2;exact tL ⟨⟨h1.1,oa0.2.1,oa0.2.2.1,oa0.2.2.2.1,oa0.2.2.2.2.1,oa0.2.2.2.2.2.1,oa0.2.2.2.2.2.2.1,oa0.2.2.2.2.2.2.2⟩,⟨SzL.nil,SzL.nil,SzL.nil,SzL.nil,SzL.nil,SzL.nil,SzL.nil,SzL.nil⟩,cl,tk36,j9⟩ ka
 intro s hs;cases s with
 |L0 E0 E1 v13 v14=>
  obtain⟨O0,O1,cv14,i0,i1⟩:=hs;dsimp only[m6,Eo,LT.den];have lq:E0.Players.length=a0.Players.length:=by rw[i0]
  have lr:=O0.1.1;apply tD<;>intro h1
  .refine Tot.ix λx1 h2=>?_;have oh2:fK x1:=O0.1.2 x1 h2.1;have mh2:=h2.2;refine tB (XQ oh2) λx2 h3=>?_;have eh3_1:=h3.2;refine tB (Tot.set O O) λx3 h4=>?_;have lh4:=h4.1;have vh4:=h4.2.2;have q1:=wr (v14+1);exact tL ⟨⟨⟨lo,λe he=>(h4.2.1 e he).elim (λw=>by rw[w];exact h3.1) (O0.1.2 e)⟩,O0.2.1,O0.2.2.1,O0.2.2.2.1,O0.2.2.2.2.1,O0.2.2.2.2.2.1,O0.2.2.2.2.2.2.1,O0.2.2.2.2.2.2.2⟩,O1,cl,tk36,j9⟩ ka
  refine tB (XR O0.2.1) λx1 h2=>?_;have eh2_1:=h2.2;refine tB (ke O0.2.2.1) λx2 h3=>?_;have eh3_1:=h3.2;refine tB (ke O0.2.2.2.1) λx3 h4=>?_;have eh4_1:=h4.2;refine tB (XS O0.2.2.2.2.1) λx4 h5=>?_;have eh5_1:=h5.2;exact tL ⟨⟨O0.1,h2.1,h3.1,h4.1,h5.1,O0.2.2.2.2.2.1,O0.2.2.2.2.2.2.1,O0.2.2.2.2.2.2.2⟩,O1,cl,tk22,j9⟩ ka
 |L1 E0 E1 v46 v47=>
  obtain⟨O0,O1,cv47,i0,i1⟩:=hs;dsimp only[m6,Ep,LT.den];have lq:E0.Stack.length=a0.Stack.length:=by rw[i0]
  have lr:=O0.2.2.2.2.1.1;apply tD<;>intro h1
  .refine Tot.ix λx1 h2=>?_;have oh2:eX x1:=O0.2.2.2.2.1.2 x1 h2.1;have mh2:=h2.2;refine tB (Et oh2.1) λx2 h3=>?_;have eh3_1:=h3.2;refine tB (Tot.set O O) λx3 h4=>?_;have lh4:=h4.1;have vh4:=h4.2.2;refine Tot.ix λx4 h5=>?_;have oh5:eX x4:=(show SzL 1 eX _ from⟨lo,λe he=>(h4.2.1 e he).elim (λw=>by rw[w];exact⟨h3.1,oh2.2⟩) (O0.2.2.2.2.1.2 e)⟩).2 x4 h5.1;have mh5:=h5.2;refine tB (XT oh5.2) λx5 h6=>?_;have eh6_1:=h6.2;refine tB (Tot.set O O) λx6 h7=>?_;have lh7:=h7.1;have vh7:=h7.2.2;have q1:=wr (v47+1);exact tL ⟨⟨O0.1,O0.2.1,O0.2.2.1,O0.2.2.2.1,⟨lo,λe he=>(h7.2.1 e he).elim (λw=>by rw[w];exact⟨oh5.1,h6.1⟩) ((show SzL 1 eX _ from⟨lo,λe he=>(h4.2.1 e he).elim (λw=>by rw[w];exact⟨h3.1,oh2.2⟩) (O0.2.2.2.2.1.2 e)⟩).2 e)⟩,O0.2.2.2.2.2.1,O0.2.2.2.2.2.2.1,O0.2.2.2.2.2.2.2⟩,O1,cl,tk22,j9⟩ ka
  refine tB (XU O0.2.2.2.2.2.1) λx1 h2=>?_;have eh2_1:=h2.2;exact tL ⟨⟨O0.1,O0.2.1,O0.2.2.1,O0.2.2.2.1,O0.2.2.2.2.1,h2.1,O0.2.2.2.2.2.2.1,O0.2.2.2.2.2.2.2⟩,O1,cl,tk37,j9⟩ ka
 |L2 E0 E1 v81 v82=>
  obtain⟨O0,O1,cv82,i0,i1⟩:=hs;dsimp only[m6,Eu,LT.den];have lq:E0.Waiting.length=a0.Waiting.length:=by rw[i0]
  have lr:=O0.2.2.2.2.2.1.1;apply tD<;>intro h1
  .refine Tot.ix λx1 h2=>?_;have oh2:iv x1:=O0.2.2.2.2.2.1.2 x1 h2.1;have mh2:=h2.2;refine tB (Et oh2) λx2 h3=>?_;have eh3_1:=h3.2;refine tB (Tot.set O O) λx3 h4=>?_;have lh4:=h4.1;have vh4:=h4.2.2;have q1:=wr (v82+1);exact tL ⟨⟨O0.1,O0.2.1,O0.2.2.1,O0.2.2.2.1,O0.2.2.2.2.1,⟨lo,λe he=>(h4.2.1 e he).elim (λw=>by rw[w];exact h3.1) (O0.2.2.2.2.2.1.2 e)⟩,O0.2.2.2.2.2.2.1,O0.2.2.2.2.2.2.2⟩,O1,cl,tk37,j9⟩ ka
  refine tB (XN O0.2.2.2.2.2.2.1) λx1 h2=>?_;have eh2_1:=h2.2;exact tL ⟨⟨O0.1,O0.2.1,O0.2.2.1,O0.2.2.2.1,O0.2.2.2.2.1,O0.2.2.2.2.2.1,h2.1,O0.2.2.2.2.2.2.2⟩,O1,cl,tk23,j9⟩ ka
 |L3 E0 E1 v104 v105=>
  obtain⟨O0,O1,cv105,i0,i1⟩:=hs;dsimp only[m6,Ew,LT.den];have lq:E0.Conts.length=a0.Conts.length:=by rw[i0]
  have lr:=O0.2.2.2.2.2.2.1.1;apply tD<;>intro h1
  .refine Tot.ix λx1 h2=>?_;have oh2:iu x1:=O0.2.2.2.2.2.2.1.2 x1 h2.1;have mh2:=h2.2;refine tB (ke oh2.1) λx2 h3=>?_;have eh3_1:=h3.2;refine tB (Tot.set O O) λx3 h4=>?_;have lh4:=h4.1;have vh4:=h4.2.2;refine Tot.ix λx4 h5=>?_;have oh5:iu x4:=(show SzL 1 iu _ from⟨lo,λe he=>(h4.2.1 e he).elim (λw=>by rw[w];exact⟨h3.1,oh2.2⟩) (O0.2.2.2.2.2.2.1.2 e)⟩).2 x4 h5.1;have mh5:=h5.2;refine tB (jB oh5.2) λx5 h6=>?_;have eh6_1:=h6.2;refine tB (Tot.set O O) λx6 h7=>?_;have lh7:=h7.1;have vh7:=h7.2.2;have q1:=wr (v105+1);exact tL ⟨⟨O0.1,O0.2.1,O0.2.2.1,O0.2.2.2.1,O0.2.2.2.2.1,O0.2.2.2.2.2.1,⟨lo,λe he=>(h7.2.1 e he).elim (λw=>by rw[w];exact⟨oh5.1,h6.1⟩) ((show SzL 1 iu _ from⟨lo,λe he=>(h4.2.1 e he).elim (λw=>by rw[w];exact⟨h3.1,oh2.2⟩) (O0.2.2.2.2.2.2.1.2 e)⟩).2 e)⟩,O0.2.2.2.2.2.2.2⟩,O1,cl,tk23,j9⟩ ka
  refine tB (ke O0.2.2.2.2.2.2.2) λx1 h2=>?_;have eh2_1:=h2.2;exact tR ⟨⟨O0.1,O0.2.1,O0.2.2.1,O0.2.2.2.1,O0.2.2.2.2.1,O0.2.2.2.2.2.1,O0.2.2.2.2.2.2.1,h2.1⟩,tG⟩
abbrev XV(a0:ab)(r:List Int):Prop:=((SzL 8 (λ_=>True)) r)/\(r.length<=a0.Players.length)/\(r=dp a0.Players)
def XW(a0:ab):pb->Prop
 |.L0 v3 v7 v8 v9=>((SzL 8 (λ_=>True)) v3)/\((SzL 152 fK) v7)/\(0<=v9)/\(v8=(v7.length:Int))/\(v8=(a0.Players.length:Int))/\(v7=a0.Players)/\(v3=Z4t v7 v9)/\(v3.length<=v9.toNat)/\(v9<=v8)
def Ex:pb->M6
 |.L0 v3 v7 v8 v9=>(1,(v8-v9).toNat,1000000,0,0,0)
def yj{a0:ab}(oa0:aR a0):Tot (Z7r a0) (XV a0):=by
 apply Tot.rn (XW a0) Ex
 .dsimp only[Ey,LT.den];have q1:=oa0.1.1;exact tL ⟨SzL.nil,oa0.1,cl,cl,cl,dz,tk11,cs⟩ yk
 rintro⟨v3,v7,v8,v9⟩ ⟨ov3,ov7,cv9,i0,i1,i2,i3,i4,i5⟩;have lb_v3:=ov3.1;have lb_v7:=ov7.1;dsimp only[Z1b,Ez,LT.den];apply tD<;>intro h1
 .refine Tot.ix λx1 h2=>?_;have oh2:fK x1:=ov7.2 x1 h2.1;have mh2:=h2.2;apply tO<;>intro h3
  .have q1:=ov3.1;refine Tot.ap λx2 h4=>?_;have lh4:=db h4;have q2:=wr (v9+1);exact tL ⟨SzL.tr,ov7,cl,cl,cl,dz,tk11,cs⟩ yk
  have q1:=wr (v9+1);exact tL ⟨ov3,ov7,cl,cl,cl,dz,tk11,cs⟩ yk
 exact tR ⟨ov3,cl,(by rw[<- ‹v7=a0.Players›];exact XX V O O)⟩
def Z3u{a0:Int}:Tot (EA a0) (λr=>(r=false)):=by apply tZ;dsimp only[Z7s,LT.den];exact tR al
def EB{a0:Int}{a1:Int}:Tot (Z7u a0 a1) (λr=>((r = -1/\a0<a1)\/(r=1/\a1<a0)\/(r=0/\a0=a1))):=by
 apply tZ;dsimp only[Z3d,LT.den];refine tB (Z3u) λx1 h1=>tB (Z3u) λx2 h2=>?_;apply tF<;>intro h3
 .apply tF<;>intro h4
  .exact m7
  exact m7
 apply tF<;>intro h4
 .exact m7
 apply tD<;>intro h5
 .exact m7
 apply tD<;>intro h6
 .exact m7
 exact m7
abbrev Z58(a0:ab)(a1:Int)(r:List Int):Prop:=((SzL 8 (λ_=>True)) r)/\(r.length<=2*a0.Players.length)/\(r=Z8n a0.Players a1)
def yl(a0:ab)(a1:Int):m8->Prop
 |.L0 v1 E0=>(E0=a0)/\(aR E0)/\((v1 = -1/\(a1<0\/a1>=(E0.Players.length:Int)))\/(v1=a1/\0<=a1/\a1<(E0.Players.length:Int)))
 |.L1 v1 v5 v6 v19 v20 v21=>((SzL 8 (λ_=>True)) v5)/\((SzL 8 (λ_=>True)) v6)/\((SzL 8 (λ_=>True)) v19)/\(0<=v21)/\((v1 = -1/\(a1<0\/a1>=(a0.Players.length:Int)))\/(v1=a1/\0<=a1/\a1<(a0.Players.length:Int)))/\(a0.Players.length*152<=140737488351232)/\(v20<=(a0.Players.length:Int))/\(v19=dp a0.Players)/\(v20=(v19.length:Int))/\(v5=((dp a0.Players).take v21.toNat).filter λx=>decide (x<v1))/\(v6=((dp a0.Players).take v21.toNat).filter λx=>decide (v1<x))/\(v5.length<=v21.toNat)/\(v6.length<=v21.toNat)/\(v21<=v20)
def tH:m8->M6
 |.L0 v1 E0=>(2,0,0,0,0,0)
 |.L1 v1 v5 v6 v19 v20 v21=>(1,(v20-v21).toNat,1000000,0,0,0)
def Z0n{a0:ab}{a1:Int}{v1:Int}{E0:ab}(h:(yl a0 a1) (.L0 v1 E0)):Tot (m9 v1 E0).den (Nx (yl a0 a1) tH (2,0,0,0,0,0) (Z58 a0 a1)):=by obtain⟨al0,O0,i0⟩:=h;subst al0;dsimp only[m9,LT.den];have lq:=O0.1.1;refine tB (yj O0) λx1 h1=>?_;have eh1_1:=h1.2.1;have eh1_2:=h1.2.2;have q1:=h1.1.1;exact tL ⟨SzL.nil,SzL.nil,h1.1,cl,cl,cl,cl,V,cl,tk9,tk9,cs⟩ tM
def XY{a0:ab}{a1:Int}(oa0:aR a0):Tot (EC a0 a1) (Z58 a0 a1):=by
 apply Tot.rn (yl a0 a1) tH
 .dsimp only[ED,LT.den];apply tD<;>intro h1
  .exact ym
  have q1:=oa0.1.1;apply tD<;>intro h2
  .exact ym
  exact ym
 intro s hs;cases s with
 |L0 _ _=>exact Z0n hs
 |L1 v1 v5 v6 v19 v20 v21=>
  obtain⟨ov5,ov6,ov19,cv21,i0,i1,i2,i3,i4,i5,i6,i7,i8,i9⟩:=hs;have lb_v5:=ov5.1;have lb_v6:=ov6.1;have lb_v19:=ov19.1;dsimp only[Z1c,EE,LT.den,tH];apply tD<;>intro h1
  .refine Tot.ix λx1 h2=>?_;have mh2:=h2.2;refine tB (EB) λx2 h3=>?_;apply tE<;>intro h4
   .have q1:=ov5.1;refine Tot.ap λx3 h5=>?_;have lh5:=db h5;have q2:=wr (v21+1);exact tL ⟨SzL.tr,ov6,ov19,cl,cl,cl,cl,V,cl,tk9,tk9,cs⟩ tM
   apply tE<;>intro h5
   .have q1:=ov6.1;refine Tot.ap λx3 h6=>?_;have lh6:=db h6;have q2:=wr (v21+1);exact tL ⟨ov5,SzL.tr,ov19,cl,cl,cl,cl,V,cl,tk9,tk9,cs⟩ tM
   have q1:=wr (v21+1);exact tL ⟨ov5,ov6,ov19,cl,cl,cl,cl,V,cl,tk9,tk9,cs⟩ tM
  have q1:=ov6.1;have q2:=ov5.1;refine Tot.ap λx1 h2=>?_;have lh2:x1.length=v6.length+v5.length:=by rw[h2,bF]
  try simp only[bT,cg,aM]at lh2
  exact tR ⟨SzL.tr,cl,(by exact XZ V V V V dq)⟩
abbrev Z1u(a0:List Int)(a1:Int)(r:Int):Prop:=((r = -1/\¬a1∈a0)\/(0<=r/\r<(a0.length:Int)))/\(∀(k:Nat) y,(k:Int)<r->a0[k]?=some y->y≠a1)/\(0<=r->a1∈a0)
def Z3v(a0:List Int)(a1:Int):pc->Prop
 |.L0 v0 v1 v7 v8=>(v0=a0)/\(v1=a1)/\((SzL 8 (λ_=>True)) v0)/\(0<=v8)/\(v7=(v0.length:Int))/\(∀(k:Nat) y,(k:Int)<v8->v0[k]?=some y->y≠v1)
def EF:pc->M6
 |.L0 v0 v1 v7 v8=>(1,(v7-v8).toNat,1000000,0,0,0)
def tP{a0:List Int}{a1:Int}(oa0:(SzL 8 (λ_=>True)) a0):Tot (EG a0 a1) (Z1u a0 a1):=by
 apply Tot.rn (Z3v a0 a1) EF
 .have lb_a0:=oa0.1;dsimp only[EH,LT.den];have q1:=oa0.1;exact tL ⟨rfl,rfl,oa0,cl,cl,tk38⟩ tk92
 rintro⟨v0,v1,v7,v8⟩ ⟨al0,al1,ov0,cv8,i0,i1⟩;have lb_v0:=ov0.1;subst al0;subst al1;dsimp only[yn,EI,LT.den];apply tD<;>intro h1
 .refine Tot.ix λx1 h2=>?_;have mh2:=h2.2;apply tE<;>intro h3
  .exact yo
  have q1:=wr (v8+1);exact tL ⟨rfl,rfl,ov0,cl,cl,tk38⟩ tk92
 exact yo
def tQ{a0:List Int}{a1:Int}(oa0:(SzL 8 (λ_=>True)) a0):Tot (EJ a0 a1) (λr=>(r=true↔a1∈a0)):=by apply tZ;have lb_a0:=oa0.1;dsimp only[EK,LT.den];refine tB (tP oa0) λx1 h1=>?_;have eh1_0:=h1.1;have eh1_1:=h1.2.1;have eh1_2:=h1.2.2;exact tR (by exact X0 V V)
def pd(a0:Z3):na->Prop
 |.L0 E0 v3 v8 v9=>(E0=a0)/\(fp E0)/\(v8=E0.Kind)/\(v3=(E0.Options.length:Int))/\(E0.Kind=2->v9=true)
 |.L1 E0 v3 v8 v19=>(E0=a0)/\(fp E0)/\(v8=E0.Kind)/\(¬E0.Kind=2)
def Z5n:na->M6
 |.L0 E0 v3 v8 v9=>(0,0,0,0,0,0)
 |.L1 E0 v3 v8 v19=>(0,0,0,0,0,0)
def Z59{a0:Z3}{E0:Z3}{v3:Int}{v8:Int}{v19:Bool}(h:(pd a0) (.L1 E0 v3 v8 v19)):Tot (pe E0 v3 v8 v19).den (Nx (pd a0) Z5n (0,0,0,0,0,0) (λr=>(a0.Kind=2->(r=true↔a0.Options.length<=1)))):=by
 obtain⟨al0,O0,i0,i1⟩:=h;subst al0;dsimp only[pe,LT.den];apply tF<;>intro h1
 .exact tR dq
 apply tE<;>intro h2
 .apply tE<;>intro h3
  .apply tE<;>intro h4
   .exact tR dq
   exact tR dq
  exact tR dq
 apply tE<;>intro h3
 .exact tR dq
 exact tR dq
def Z6a{a0:Z3}{E0:Z3}{v3:Int}{v8:Int}{v9:Bool}(h:(pd a0) (.L0 E0 v3 v8 v9)):Tot (iW E0 v3 v8 v9).den (Nx (pd a0) Z5n (0,0,0,0,0,0) (λr=>(a0.Kind=2->(r=true↔a0.Options.length<=1)))):=by
 obtain⟨al0,O0,i0,i1,i2⟩:=h;subst al0;dsimp only[iW,LT.den];apply tF<;>intro h1
 .exact tR dq
 apply tE<;>intro h2
 .exact EL
 exact EL
def X1{a0:Z3}(oa0:fp a0):Tot (EM a0) (λr=>(a0.Kind=2->(r=true↔a0.Options.length<=1))):=by
 apply Tot.rn (pd a0) Z5n
 .dsimp only[EN,LT.den];have q1:=oa0.1;apply tE<;>intro h1
  .exact ll
  apply tE<;>intro h2
  .exact ll
  apply tE<;>intro h3
  .exact ll
  apply tE<;>intro h4
  .exact ll
  apply tE<;>intro h5
  .exact ll
  apply tE<;>intro h6
  .exact ll
  exact ll
 intro s hs;cases s with
 |L0 _ _ _ _=>exact Z6a hs
 |L1 _ _ _ _=>exact Z59 hs
def X2(a0:Int):pf->Prop
 |.L0 v3 v5 v6=>(v5=a0)/\((SzL 8 (λ_=>True)) v3)/\(0<=v6)/\(v5<=10000000000000)/\(v3.length<=v6.toNat)/\(0<=v5->v6<=v5)/\(FstN v3 v6)
def Z84:pf->M6
 |.L0 v3 v5 v6=>(1,(v5-v6).toNat,1000000,0,0,0)
def EO{a0:Int}(h0:a0<=10000000000000):Tot (EP a0) (λr=>((SzL 8 (λ_=>True)) r)/\(0<=a0->fZ a0 r)):=by
 apply Tot.rn (X2 a0) Z84
 .dsimp only[ER,LT.den];exact tL ⟨rfl,SzL.nil,cl,cl,cl,cl,tk74⟩ ES
 rintro⟨v3,v5,v6⟩ ⟨al0,ov3,cv6,i0,i1,i2,i3⟩;have lb_v3:=ov3.1;subst al0;dsimp only[yp,ET,LT.den];apply tD<;>intro h1
 .have q1:=ov3.1;refine Tot.ap λx1 h2=>?_;have lh2:=db h2;have q2:=wr (v6+1);exact tL ⟨rfl,SzL.tr,cl,cl,cl,cl,tk74⟩ ES
 exact tR ⟨ov3,(by exact X3 V V V)⟩
abbrev Z85(a0:Z3)(r:List Int):Prop:=((SzL 8 (λ_=>True)) r)/\(a0.Kind=2->r=[0])/\(a0.Kind=4->fZ (a0.Options.length:Int) r)
def yq(a0:Z3):pg->Prop
 |.L0 E0 v3 v9 v10=>(E0=a0)/\(fp E0)/\(v9=E0.Kind)/\(v3=(E0.Options.length:Int))/\(E0.Kind=2->v10=true)/\(v10=true->¬E0.Kind=4)
def EU:pg->M6
 |.L0 E0 v3 v9 v10=>(0,0,0,0,0,0)
def Z3w{a0:Z3}{E0:Z3}{v3:Int}{v9:Int}{v10:Bool}(h:(yq a0) (.L0 E0 v3 v9 v10)):Tot (kf E0 v3 v9 v10).den (Nx (yq a0) EU (0,0,0,0,0,0) (Z85 a0)):=by
 obtain⟨al0,O0,i0,i1,i2,i3⟩:=h;subst al0;dsimp only[kf,LT.den];have lq:=O0.1;apply tF<;>intro h1
 .exact yr
 apply tE<;>intro h2
 .refine tB (EO EV) λx1 h3=>?_;have eh3_1:=h3.2;exact tR ⟨h3.1,tk98,tk20⟩
 apply tE<;>intro h3
 .refine tB (EO EV) λx1 h4=>?_;have eh4_1:=h4.2;exact tR ⟨h4.1,tk98,tk20⟩
 apply tE<;>intro h4
 .exact yr
 apply tE<;>intro h5
 .apply tD<;>intro h6
  .refine tB (Tot.mk) λx1 h7=>?_;have lh7:=h7.1;refine Tot.ix λx2 h8=>tB (Tot.set O O) λx3 h9=>?_;have lh9:=h9.1;exact yr
  exact EW
 exact EW
def ph{a0:Z3}(oa0:fp a0):Tot (EX a0) (Z85 a0):=by
 apply Tot.rn (yq a0) EU
 .have lq:=oa0.1;dsimp only[EY,LT.den];have q1:=oa0.1;apply tE<;>intro h1
  .exact pj
  apply tE<;>intro h2
  .exact pj
  apply tE<;>intro h3
  .exact pj
  apply tE<;>intro h4
  .exact pj
  exact pj
 intro s hs;cases s with
 |L0 _ _ _ _=>exact Z3w hs
def EZ{a0:List bc}(oa0:(SzL 24 (λ_=>True)) a0):Tot (E4 a0) (λr=>((SzL 24 (λ_=>True)) r)/\(r=a0)):=by
 apply tZ;have lb_a0:=oa0.1;dsimp only[E5,LT.den];have q1:=oa0.1;refine Tot.ap λx1 h1=>?_;have lh1:x1.length=([]:List bc).length+a0.length:=by rw[h1,bF]
 exact E6
def X4{a0:List Int}{a1:Int}(oa0:(SzL 8 (λ_=>True)) a0):Tot (E7 a0 a1) (λr=>((r = -1/\¬a1∈a0)\/(0<=r/\r<(a0.length:Int)))/\(∀(k:Nat) y,(k:Int)<r->a0[k]?=some y->y≠a1)/\(0<=r->a1∈a0)):=by apply tZ;have lb_a0:=oa0.1;dsimp only[E8,LT.den];refine tB (tP oa0) λx1 h1=>?_;have eh1_0:=h1.1;have eh1_1:=h1.2.1;have eh1_2:=h1.2.2;exact yo
abbrev X5(a0:Z3)(a1:List Int)(r:Bool):Prop:=(a1.length=1->(r=true↔∀x,x∈a1->0<=x/\x<(a0.Options.length:Int)))/\(r=true->∀x,x∈a1->0<=x/\x<(a0.Options.length:Int))/\(r=true->a1.Nodup)
def X6(a0:Z3)(a1:List Int):pk->Prop
 |.L0 v1 E0 v7 v8 v9=>(E0=a0)/\(v1=a1)/\((SzL 8 (λ_=>True)) v1)/\(fp E0)/\((SzL 8 (λ_=>True)) v7)/\(0<=v9)/\(v8=(v7.length:Int))/\(v7=v1)/\(∀(k:Nat) y,(k:Int)<v9->v7[k]?=some y->0<=y/\y<(E0.Options.length:Int))/\(DisT v7 v9)
def Z1v:pk->M6
 |.L0 v1 E0 v7 v8 v9=>(1,(v8-v9).toNat,1000000,0,0,0)
def yt{a0:Z3}{a1:List Int}(oa0:fp a0)(oa1:(SzL 8 (λ_=>True)) a1):Tot (E9 a0 a1) (X5 a0 a1):=by
 apply Tot.rn (X6 a0 a1) Z1v
 .have lb_a1:=oa1.1;dsimp only[Fa,LT.den];have q1:=oa1.1;exact tL ⟨rfl,rfl,oa1,oa0,oa1,cl,cl,dz,tk28,tk29⟩ Fb
 rintro⟨v1,E0,v7,v8,v9⟩ ⟨al0,al1,ov1,O0,ov7,cv9,i0,i1,i2,i3⟩;have lb_v1:=ov1.1;have lb_v7:=ov7.1;subst al0;subst al1;dsimp only[Z4i,Fc,LT.den];apply tD<;>intro h1
 .refine Tot.ix λx1 h2=>?_;have mh2:=h2.2;have nh2:=h2.1;apply tD<;>intro h3
  .exact tT
  have q1:=O0.1;apply tD<;>intro h4
  .exact tT
  refine tB (X4 ov1) λx2 h5=>?_;have eh5_0:=h5.1;have eh5_1:=h5.2.1;have eh5_2:=h5.2.2;apply tN<;>intro h6
  .exact tT
  have q2:=wr (v9+1);exact tL ⟨rfl,rfl,ov1,O0,ov7,cl,cl,dz,tk28,tk29⟩ Fb
 exact tT
def X7{a0:List Int}{a1:Int}(oa0:(SzL 8 (λ_=>True)) a0):Tot (Fe a0 a1) (λr=>True):=by apply tZ;have lb_a0:=oa0.1;dsimp only[Ff,LT.den];exact tB (tQ oa0) λx1 h1=>tR trivial
def X8(a0:Z3)(a1:List Int):pn->Prop
 |.L0 E0 v5 v8 v9 v10=>(E0=a0)/\(fp E0)/\((SzL 8 (λ_=>True)) v5)/\((SzL 8 (λ_=>True)) v8)/\(0<=v10)/\(∀x,x∈v8->0<=x/\x<(E0.Options.length:Int))/\(v9=(v8.length:Int))/\(v5.length<=v10.toNat)/\(v10<=v9)
def Fg:pn->M6
 |.L0 E0 v5 v8 v9 v10=>(1,(v9-v10).toNat,1000000,0,0,0)
def X9{a0:Z3}{a1:List Int}(oa0:fp a0)(oa1:(SzL 8 (λ_=>True)) a1)(h0:∀x,x∈a1->0<=x/\x<(a0.Options.length:Int)):Tot (Fh a0 a1) (λr=>True):=by
 apply Tot.rn (X8 a0 a1) Fg
 .have lb_a1:=oa1.1;dsimp only[Fi,LT.den];have q1:=oa1.1;exact tL ⟨rfl,oa0,SzL.nil,oa1,cl,ct,cs⟩ Fj
 rintro⟨E0,v5,v8,v9,v10⟩ ⟨al0,O0,ov5,ov8,cv10,i0,i1,i2,i3⟩;have lb_v5:=ov5.1;have lb_v8:=ov8.1;subst al0;dsimp only[Z1d,Fk,LT.den];apply tD<;>intro h1
 .refine Tot.ix λx1 h2=>?_;have nh2:=i0 _ h2.1;refine Tot.ix λx2 h3=>tB (X7 ov5) λx3 h4=>?_;apply tF<;>intro h5
  .exact tR aa
  have q1:=ov5.1;refine Tot.ap λx4 h6=>?_;have lh6:=db h6;have q2:=wr (v10+1);exact tL ⟨rfl,O0,SzL.tr,ov8,cl,ct,cs⟩ Fj
 exact tR aa
def Ya:po->Prop
 |.L0 v1 E0 v5 v8 v9 v10=>((SzL 8 (λ_=>True)) v1)/\(fp E0)/\((SzL 8 (λ_=>True)) v8)/\(0<=v10)/\(v9=(v8.length:Int))
def Fl:po->M6
 |.L0 v1 E0 v5 v8 v9 v10=>(1,(v9-v10).toNat,1000000,0,0,0)
def Yb{a0:Z3}{a1:List Int}(oa0:fp a0)(oa1:(SzL 8 (λ_=>True)) a1):Tot (Fm a0 a1) (λr=>True):=by
 apply Tot.rn Ya Fl
 .have lb_a1:=oa1.1;dsimp only[Fo,LT.den];have q1:=oa1.1;exact tL ⟨oa1,oa0,oa1,cs⟩ Fp
 rintro⟨v1,E0,v5,v8,v9,v10⟩ ⟨ov1,O0,ov8,cv10,i0⟩;have lb_v1:=ov1.1;have lb_v8:=ov8.1;dsimp only[Z1e,Fq,LT.den];apply tD<;>intro h1
 .refine Tot.ix λx1 h2=>?_;apply tD<;>intro h3
  .exact tR aa
  apply tD<;>intro h4
  .exact tR aa
  have q1:=wr (v5+x1);have q2:=wr (v10+1);exact tL ⟨ov1,O0,ov8,cs⟩ Fp
 have q1:=ov1.1;have q2:=O0.1;apply tE<;>intro h2
 .exact tR aa
 exact tR aa
abbrev Z1w(a0:Z3)(a1:List Int)(r:Bool):Prop:=(a0.Kind=2->(r=true↔a1.length=1/\∀x,x∈a1->0<=x/\x<(a0.Options.length:Int)))/\(a0.Kind=4->r=true->fZ (a0.Options.length:Int) a1)
def pq(a0:Z3)(a1:List Int):nb->Prop
 |.L0 v1 E0 v9 v10=>(E0=a0)/\(v1=a1)/\((SzL 8 (λ_=>True)) v1)/\(fp E0)/\(v9=E0.Kind)/\(E0.Kind=2->v10=true)/\(v10=true->¬E0.Kind=4)
 |.L1 v1 E0 v9 v77=>(E0=a0)/\(v1=a1)/\((SzL 8 (λ_=>True)) v1)/\(fp E0)/\(¬E0.Kind=2)/\(v9=E0.Kind)/\(¬E0.Kind=4)
def Z86:nb->M6
 |.L0 v1 E0 v9 v10=>(0,0,0,0,0,0)
 |.L1 v1 E0 v9 v77=>(0,0,0,0,0,0)
def Z87{a0:Z3}{a1:List Int}{v1:List Int}{E0:Z3}{v9:Int}{v77:Bool}(h:(pq a0 a1) (.L1 v1 E0 v9 v77)):Tot (pr v1 E0 v9 v77).den (Nx (pq a0 a1) Z86 (0,0,0,0,0,0) (Z1w a0 a1)):=by
 obtain⟨al0,al1,ov1,O0,i0,i1,i2⟩:=h;have lb_v1:=ov1.1;subst al0;subst al1;dsimp only[pr,LT.den];apply tF<;>intro h1
 .refine tB (yt O0 ov1) λx1 h2=>?_;have eh2_0:=h2.1;have eh2_1:=h2.2.1;have eh2_2:=h2.2.2;apply tF<;>intro h3
  .have h3_0:=eh2_1 h3;have h3_1:=eh2_2 h3;exact tB (X9 O0 ov1 ct) λx2 h4=>tR ⟨dq,tk14⟩
  exact gV
 apply tE<;>intro h2
 .exact tB (Yb O0 ov1) λx1 h3=>tR ⟨dq,tk14⟩
 exact gV
def Z88{a0:Z3}{a1:List Int}{v1:List Int}{E0:Z3}{v9:Int}{v10:Bool}(h:(pq a0 a1) (.L0 v1 E0 v9 v10)):Tot (kh v1 E0 v9 v10).den (Nx (pq a0 a1) Z86 (0,0,0,0,0,0) (Z1w a0 a1)):=by
 obtain⟨al0,al1,ov1,O0,i0,i1,i2⟩:=h;have lb_v1:=ov1.1;subst al0;subst al1;dsimp only[kh,LT.den];apply tF<;>intro h1
 .have q1:=ov1.1;apply tE<;>intro h2
  .refine tB (yt O0 ov1) λx1 h3=>?_;have eh3_0:=h3.1;have eh3_1:=h3.2.1;have eh3_2:=h3.2.2;exact gV
  exact gV
 apply tE<;>intro h2
 .have q1:=ov1.1;apply tD<;>intro h3
  .apply tD<;>intro h4
   .exact Ft
   exact gV
  exact gV
 apply tE<;>intro h3
 .have q1:=ov1.1;have q2:=O0.1;apply tE<;>intro h4
  .exact Ft
  exact gV
 apply tE<;>intro h4
 .have q1:=ov1.1;apply tE<;>intro h5
  .refine Tot.ix λx1 h6=>?_;apply tD<;>intro h7
   .exact gV
   exact gV
  exact gV
 apply tE<;>intro h5
 .exact Fu
 exact Fu
def Yc{a0:Z3}{a1:List Int}(oa0:fp a0)(oa1:(SzL 8 (λ_=>True)) a1):Tot (Fv a0 a1) (Z1w a0 a1):=by
 apply Tot.rn (pq a0 a1) Z86
 .have lb_a1:=oa1.1;dsimp only[Fw,LT.den];have q1:=oa1.1;apply tD<;>intro h1
  .exact gV
  apply tE<;>intro h2
  .exact pt
  apply tE<;>intro h3
  .exact pt
  apply tE<;>intro h4
  .exact pt
  apply tE<;>intro h5
  .exact pt
  exact pt
 intro s hs;cases s with
 |L0 _ _ _ _=>exact Z88 hs
 |L1 _ _ _ _=>exact Z87 hs
def Yd(a0:Z4):ln->Prop
 |.L0 E0 v6 v7=>(E0=a0)/\(0<=v7)/\(v6=E0.Color)/\(∀(k:Nat) x,(k:Int)<v7->(A5.list E0.Color)[k]?=some x->0<=x/\x<=9)
def Fx:ln->M6
 |.L0 E0 v6 v7=>(1,(5-v7).toNat,1000000,0,0,0)
def Fy{a0:Z4}:Tot (tU a0) (λr=>(r=Z8o a0)):=by
 apply Tot.rn (Yd a0) Fx
 .dsimp only[yu,LT.den];exact Fz
 rintro⟨E0,v6,v7⟩ ⟨al0,cv7,i0,i1⟩;subst al0;dsimp only[nc,nf,LT.den];apply tD<;>intro h1
 .refine tB (tI O (by have e:(A5.list v6).length=5:=rfl;omega)) λx1 h2=>?_;have mh2:=h2.2;rw[i0]at mh2;apply tD<;>intro h3
  .exact ng
  apply tD<;>intro h4
  .exact ng
  have q1:=wr (v7+1);exact Fz
 apply tD<;>intro h2
 .apply tD<;>intro h3
  .apply tD<;>intro h4
   .exact ng
   exact ng
  exact ng
 exact ng
def Ye(a0:Z4):pv->Prop
 |.L0 v3 v16 v17=>(0<=v17)/\(v17<=5)/\(v16=a0.Color)/\(Z8o a0=true)/\(v3=coP v16 v17)
def FA:pv->M6
 |.L0 v3 v16 v17=>(1,(5-v17).toNat,1000000,0,0,0)
def Yf{a0:Z4}:Tot (FB a0) (λr=>(r=coV a0)):=by
 apply Tot.rn (Ye a0) FA
 .dsimp only[FC,LT.den];refine tB (Fy) λx1 h1=>?_;apply tO<;>intro h2
  .exact yv
  apply tF<;>intro h3
  .exact yv
  exact FE
 rintro⟨v3,v16,v17⟩ ⟨cv17,i0,i1,i2,i3⟩;dsimp only[Z4j,FF,LT.den];apply tD<;>intro h1
 .refine tB (tI O (by have e:(A5.list v16).length=5:=rfl;omega)) λx1 h2=>?_;have mh2:=h2.2;apply tD<;>intro h3
  .refine tB (tK tk84) λx2 h4=>?_;exact FG
  exact FG
 exact yv
def yw{a0:List (List UInt8)}(oa0:(SzL 16 SzT) a0):Tot (tV a0) (λr=>((SzL 16 SzT) r)/\(r=a0)):=by
 unfold tV;split
 .apply tZ;have lb_a0:=oa0.1;dsimp only[yx,LT.den];have q1:=oa0.1;refine Tot.ap λx1 h1=>?_;have lh1:x1.length=([]:List (List UInt8)).length+a0.length:=by rw[h1,bF]
  try simp only[bT,cg,aM]at lh1
  exact tR ⟨SzL.app (k:=16) h1 lo (λ_ h=>by cases h) oa0.2,tk72⟩
 apply tZ;dsimp only[tW,LT.den];exact Z4v
def Yg(a0:an):pz->Prop
 |.L0 E0 E1 v18 v19=>(cV E0)/\(cV E1)/\(0<=v19)/\(v18=(a0.Effects.length:Int))/\(v18=(E0.Effects.length:Int))/\(E0=a0)
def FH:pz->M6
 |.L0 E0 E1 v18 v19=>(1,(v18-v19).toNat,1000000,0,0,0)
def Yh{a0:an}(oa0:cV a0):Tot (yy a0) (λr=>(cV r)/\(r=a0)):=by
 apply Tot.rn (Yg a0) FH
 .dsimp only[Z3f,LT.den];refine tB (jB oa0.2.1) λx1 h1=>?_;have eh1_1:=h1.2;refine tB (yz oa0.2.2.2.1) λx2 h2=>?_;have eh2_1:=h2.2;refine tB (yA oa0.2.2.2.2.1) λx3 h3=>?_;have eh3_1:=h3.2;exact tL ⟨⟨oa0.1,h1.1,oa0.2.2.1,h2.1,h3.1,oa0.2.2.2.2.2⟩,⟨SzS.nil,SzL.nil,SzS.nil,SzL.nil,SzL.nil,SzS.nil⟩,cl,ct,ct,tk35⟩ FI
 rintro⟨E0,E1,v18,v19⟩ ⟨O0,O1,cv19,i0,i1,i2⟩;dsimp only[yB,Z0g,LT.den];have lq:=O0.2.2.2.2.1.1;apply tD<;>intro h1
 .refine Tot.ix λx1 h2=>?_;have oh2:cY x1:=O0.2.2.2.2.1.2 x1 h2.1;have mh2:=h2.2;refine tB (jB oh2.2.2.2.2) λx2 h3=>?_;have eh3_1:=h3.2;refine tB (Tot.set O O) λx3 h4=>?_;have lh4:=h4.1;have vh4:=h4.2.2;have q1:=wr (v19+1);exact tL ⟨⟨O0.1,O0.2.1,O0.2.2.1,O0.2.2.2.1,⟨lo,λe he=>(h4.2.1 e he).elim (λw=>by rw[w];exact⟨oh2.1,oh2.2.1,oh2.2.2.1,oh2.2.2.2.1,h3.1⟩) (O0.2.2.2.2.1.2 e)⟩,O0.2.2.2.2.2⟩,O1,cl,ct,ct,tk35⟩ FI
 exact tR ⟨O0,V⟩
def Yi(a0:aw):pA->Prop
 |.L0 E0 E1 v32 v33 v34=>(Z0 E0)/\(Z0 E1)/\((SzL 640 cV) v32)/\(0<=v34)/\(v33=(v32.length:Int))/\(E1.Abilities.length<=v34.toNat)/\(v34<=v33)/\(v32=a0.Abilities)/\(E1={ prV a0 with Abilities:=a0.Abilities.take v34.toNat })
def FJ:pA->M6
 |.L0 E0 E1 v32 v33 v34=>(1,(v33-v34).toNat,1000000,0,0,0)
def Yj{a0:aw}(oa0:ca a0):Tot (FK a0) (λr=>(Z0 r)/\(r=prV a0)):=by
 apply Tot.rn (Yi a0) FJ
 .dsimp only[FL,LT.den];refine tB (Yf) λx1 h1=>tB (yw oa0.2.1) λx2 h2=>?_;have eh2_1:=h2.2;have q1:=oa0.2.2.1;exact tL ⟨⟨SzS.nil,SzL.nil,SzL.nil⟩,⟨oa0.1,h2.1,SzL.nil⟩,oa0.2.2,cl,cl,cl,cl,dz,tk13⟩ FM
 rintro⟨E0,E1,v32,v33,v34⟩ ⟨O0,O1,ov32,cv34,i0,i1,i2,i3,i4⟩;have lb_v32:=ov32.1;dsimp only[Z1f,FN,LT.den];apply tD<;>intro h1
 .refine Tot.ix λx1 h2=>?_;have oh2:cV x1:=ov32.2 x1 h2.1;have mh2:=h2.2;refine tB (Yh oh2) λx2 h3=>?_;have eh3_1:=h3.2;have q1:=O1.2.2.1;refine Tot.ap λx3 h4=>?_;have lh4:=db h4;have q2:=wr (v34+1);exact tL ⟨O0,⟨O1.1,O1.2.1,SzL.app (k:=640) h4 lo O1.2.2.2 (me1 h3.1)⟩,ov32,cl,cl,cl,cl,dz,tk13⟩ FM
 exact tR ⟨O1,(by exact Yk V eN)⟩
def pB(a0:List aw)(a1:ak):nh->Prop
 |.L0 v0 E0 E1 v5=>(v0=a0)/\(E0=a1)/\((SzL 176 ca) v0)/\(Z0 E1)/\(v5=if E0.Copy<0 then E0.Card else E0.Copy)
 |.L1 E0 E1 E2=>(E0=a1)/\(Z0 E1)/\(Z0 E2)/\(E2=cdAt a0 (if E0.Copy<0 then E0.Card else E0.Copy))
def yC:nh->M6
 |.L0 v0 E0 E1 v5=>(0,0,0,0,0,0)
 |.L1 E0 E1 E2=>(0,0,0,0,0,0)
def Z1x{a0:List aw}{a1:ak}{E0:ak}{E1:ah}{E2:ah}(h:(pB a0 a1) (.L1 E0 E1 E2)):Tot (ni E0 E1 E2).den (Nx (pB a0 a1) yC (0,0,0,0,0,0) (λr=>(Z0 r)/\(r=baV a0 a1))):=by
 obtain⟨al0,O1,O2,i0⟩:=h;subst al0;dsimp only[ni,LT.den];apply tE<;>intro h1
 .exact yD
 apply tE<;>intro h2
 .exact yD
 exact yD
def FO{a0:List aw}{a1:ak}{v0:List aw}{E0:ak}{E1:ah}{v5:Int}(h:(pB a0 a1) (.L0 v0 E0 E1 v5)):Tot (pC v0 E0 E1 v5).den (Nx (pB a0 a1) yC (0,0,0,0,0,0) (λr=>(Z0 r)/\(r=baV a0 a1))):=by
 obtain⟨al0,al1,ov0,O1,i0⟩:=h;have lb_v0:=ov0.1;subst al0;subst al1;dsimp only[pC,LT.den];apply tD<;>intro h1
 .have q1:=ov0.1;apply tD<;>intro h2
  .refine Tot.ix λx1 h3=>?_;have oh3:ca x1:=ov0.2 x1 h3.1;have mh3:=h3.2;refine tB (Yj oh3) λx2 h4=>?_;have eh4_1:=h4.2;exact tJ (Z1x ⟨rfl,O1,h4.1,tk18⟩)
  exact FP
 exact FP
def FQ{a0:List aw}{a1:ak}(oa0:(SzL 176 ca) a0):Tot (yE a0 a1) (λr=>(Z0 r)/\(r=baV a0 a1)):=by
 apply Tot.rn (pB a0 a1) yC
 .have lb_a0:=oa0.1;dsimp only[FR,LT.den];apply tD<;>intro h1
  .exact FT
  exact FT
 intro s hs;cases s with
 |L0 _ _ _ _=>exact FO hs
 |L1 _ _ _=>exact Z1x hs
def Yl(a0:List aw)(a1:ab):lp->Prop
 |.L0 v0 E0 v5 v13 v14 v15=>(v0=a0)/\(E0=a1)/\((SzL 176 ca) v0)/\(aR E0)/\((SzL 224 fq) v5)/\((SzL 128 (λ_=>True)) v13)/\(0<=v15)/\(E0.Objects.length<=2048)/\(E0.Conts.length<=64)/\(∀c,c∈v0->c.Abilities.length<=8)/\(v5=obF fL v0 v13 v15)/\(v13=E0.Objects)/\(v14=(v13.length:Int))/\(v15<=v14)
 |.L1 v0 E0 v5 E1 v13 v14 v15 v25 v26 v27=>(v0=a0)/\(E0=a1)/\((SzL 176 ca) v0)/\(aR E0)/\((SzL 224 fq) v5)/\((SzL 128 (λ_=>True)) v13)/\((SzL 640 cV) v25)/\(0<=v27)/\(0<=v15)/\(v15<v14)/\(E0.Objects.length<=2048)/\(E0.Conts.length<=64)/\(∀c,c∈v0->c.Abilities.length<=8)/\(v5=obF fL v0 v13 v15++abF (fL E1) v25 v27)/\(E1.Zone=0)/\(v13[v15.toNat]?=some E1)/\(v25=(baV v0 E1).Abilities)/\(v13=E0.Objects)/\(v14=(v13.length:Int))/\(v15<v14)/\(v26=(v25.length:Int))/\(v27<=v26)
 |.L2 v5 v54 v55 v56=>((SzL 224 fq) v5)/\((SzL 80 iu) v54)/\(0<=v56)/\(∀c,c∈a0->c.Abilities.length<=8)/\(a1.Objects.length<=2048)/\(a1.Conts.length<=64)/\(v5=obF fL a0 a1.Objects a1.Objects.length++coF gL v54 v56)/\(v54=a1.Conts)/\(v55=(v54.length:Int))/\(v56<=v55)
def FU:lp->M6
 |.L0 v0 E0 v5 v13 v14 v15=>(3,(v14-v15).toNat,1000000,0,0,0)
 |.L1 v0 E0 v5 E1 v13 v14 v15 v25 v26 v27=>(3,(v14-v15).toNat,1,(v26-v27).toNat,1000000,0)
 |.L2 v5 v54 v55 v56=>(1,(v55-v56).toNat,1000000,0,0,0)
def Ym{a0:List aw}{a1:ab}(oa0:(SzL 176 ca) a0)(oa1:aR a1)(h0:a1.Objects.length<=2048)(h1:a1.Conts.length<=64)(h2:∀c,c∈a0->c.Abilities.length<=8):Tot (Z7v a0 a1) (λr=>((SzL 224 fq) r)/\(r=FS fL gL a0 a1)):=by
 apply Tot.rn (Yl a0 a1) FU
 .have lb_a0:=oa0.1;dsimp only[FV,LT.den];have q1:=oa1.2.1.1;exact tL ⟨rfl,rfl,oa0,oa1,SzL.nil,oa1.2.1,cl,cl,cl,ct,tk15,dz,cs⟩ lu
 intro s hs;cases s with
 |L0 v0 E0 v5 v13 v14 v15=>
  obtain⟨al0,al1,ov0,O0,ov5,ov13,cv15,i0,i1,i2,i3,i4,i5,i6⟩:=hs;have lb_v0:=ov0.1;have lb_v5:=ov5.1;have lb_v13:=ov13.1;subst al0;subst al1;dsimp only[pD,FW,LT.den];have lq:v5.length<=8*2048:=by rw[(by assumption:v5=obF _ _ _ _)];have:=td (f:=fL) (l:=v13) (v:=v15) (by assumption:∀c,c∈v0->_);have:v13.length<=2048:=tk95;omega
  apply tD<;>intro h1
  .refine Tot.ix λx1 h2=>?_;have mh2:=h2.2;apply tN<;>intro h3
   .exact FX
   refine tB (FQ ov0) λx2 h4=>?_;have eh4_1:=h4.2;have q1:=h4.1.2.2.1;exact tL ⟨rfl,rfl,ov0,O0,ov5,ov13,h4.1.2.2,cl,cl,cl,cl,cl,ct,tk2,cl,V,ct,V,cs⟩ lu
  have q1:=O0.2.2.2.2.2.2.1.1;exact tL ⟨ov5,O0.2.2.2.2.2.2.1,cl,ct,cl,cl,tk12,yF,cs⟩ lu
 |L1 v0 E0 v5 E1 v13 v14 v15 v25 v26 v27=>
  obtain⟨al0,al1,ov0,O0,ov5,ov13,ov25,cv27,cv15,bd9,i0,i1,i2,i3,i4,i5,i6,i7,i8,i9,i10,i11⟩:=hs;have lb_v0:=ov0.1;have lb_v5:=ov5.1;have lb_v13:=ov13.1;have lb_v25:=ov25.1;subst al0;subst al1;dsimp only[pD,FY,LT.den];have lq:v5.length<=8*2048+8:=by rw[(by assumption:v5=obF _ _ _ _++_),bF];have:=td (f:=fL) (l:=v13) (v:=v15) (by assumption:∀c,c∈v0->_);have:v13.length<=2048:=tk95;have:=D3 (f:=fL E1) (l:=v25) (v:=v27);have:=D4 (by assumption:∀c,c∈v0->_) E1;rw[<- (by assumption:v25=(baV v0 E1).Abilities)]at this;omega
  apply tD<;>intro h1
  .refine Tot.ix λx1 h2=>?_;have oh2:cV x1:=ov25.2 x1 h2.1;have mh2:=h2.2;apply tE<;>intro h3
   .refine tB (jB oh2.2.1) λx2 h4=>?_;have eh4_1:=h4.2;have q1:=ov5.1;refine Tot.ap λx3 h5=>?_;have lh5:=db h5;have q2:=wr (v27+1);exact tL ⟨rfl,rfl,ov0,O0,SzL.app (k:=224) h5 lo ov5.2 (me1 ⟨SzL.nil,oh2.1,h4.1⟩),ov13,ov25,cl,cl,cl,cl,cl,ct,tk2,cl,V,ct,V,cs⟩ lu
   have q1:=wr (v27+1);exact tL ⟨rfl,rfl,ov0,O0,ov5,ov13,ov25,cl,cl,cl,cl,cl,ct,tk2,cl,V,ct,V,cs⟩ lu
  exact FX
 |L2 v5 v54 v55 v56=>
  obtain⟨ov5,ov54,cv56,i0,i1,i2,i3,i4,i5,i6⟩:=hs;have lb_v5:=ov5.1;have lb_v54:=ov54.1;dsimp only[pD,FZ,LT.den];have lq:v5.length<=8*2048+64:=by rw[(by assumption:v5=obF _ _ _ _++_),bF];have:=td (f:=fL) (l:=a1.Objects) (v:=a1.Objects.length) (by assumption:∀c,c∈a0->_);have:(coF gL v54 v56).length<=64:=(by unfold coF;rw[da,fH];have:v54.length<=64:=(by first|omega|(rw[(by assumption:v54=_)];omega));omega);omega
  apply tD<;>intro h1
  .refine Tot.ix λx1 h2=>?_;have oh2:iu x1:=ov54.2 x1 h2.1;have mh2:=h2.2;refine tB (ke oh2.1) λx2 h3=>?_;have eh3_1:=h3.2;refine tB (jB oh2.2) λx3 h4=>?_;have eh4_1:=h4.2;have q1:=ov5.1;refine Tot.ap λx4 h5=>?_;have lh5:=db h5;have q2:=wr (v56+1);exact tL ⟨SzL.app (k:=224) h5 lo ov5.2 (me1 ⟨h3.1,SzS.nil,h4.1⟩),ov54,cl,ct,cl,cl,tk12,yF,cs⟩ lu
  exact tR ⟨ov5,(by exact WR V dz O)⟩
abbrev Yn(a0:List aw)(a1:ab)(r:aB):Prop:=(cu r)/\(r.s=a1)/\(r.traits.length=r.s.Objects.length)/\(r.dropped.length=r.s.Objects.length)/\(r.done.length=r.forces.length)/\(r.hits.length=r.forces.length)/\(r.s.Objects.length<=2048)/\(r.forces.length<=16448)/\(HI r.s.Objects.length r.hits)
def Yo(a0:List aw)(a1:ab):pE->Prop
 |.L0 v0 E0 v19 v20 v21=>(v0=a0)/\((SzL 176 ca) v0)/\(cu E0)/\((SzL 128 (λ_=>True)) v19)/\(0<=v21)/\(∀c,c∈v0->c.Abilities.length<=8)/\(E0.s=a1)/\(v20=(v19.length:Int))/\(v20=(E0.s.Objects.length:Int))/\(v20<=2048)/\(E0.forces.length<=16448)/\(E0.dropped.length=v20.toNat)/\(E0.traits.length=v21.toNat)/\(v21<=v20)
def Z1y:pE->M6
 |.L0 v0 E0 v19 v20 v21=>(1,(v20-v21).toNat,1000000,0,0,0)
def Yp{a0:List aw}{a1:ab}(oa0:(SzL 176 ca) a0)(oa1:aR a1)(h0:a1.Objects.length<=2048)(h1:a1.Conts.length<=64)(h2:∀c,c∈a0->c.Abilities.length<=8):Tot (F0 a0 a1) (Yn a0 a1):=by
 apply Tot.rn (Yo a0 a1) Z1y
 .have lb_a0:=oa0.1;dsimp only[F1,LT.den];refine tB (Ym oa0 oa1 cl cl ct) λx1 h1=>?_;have eh1_1:=h1.2;have lh1:=WS (f:=fL) (g:=gL) (s:=a1) (by assumption:∀c,c∈a0->_);rw[<- (by assumption:x1=FS _ _ _ _)]at lh1;have q1:=oa1.2.1.1;refine tB (Tot.mk) λx2 h2=>?_;have lh2:=h2.1;exact tL ⟨rfl,oa0,⟨oa1,h1.1,SzL.nil,SzL.tr,SzL.nil,SzL.nil⟩,oa1.2.1,cl,ct,dz,cs⟩ F2
 rintro⟨v0,E0,v19,v20,v21⟩ ⟨al0,ov0,O0,ov19,cv21,i0,i1,i2,i3,i4,i5,i6,i7,i8⟩;have lb_v0:=ov0.1;have lb_v19:=ov19.1;subst al0;dsimp only[Z4k,F3,LT.den];apply tD<;>intro h1
 .refine Tot.ix λx1 h2=>?_;have mh2:=h2.2;refine tB (FQ ov0) λx2 h3=>?_;have eh3_1:=h3.2;have q1:=O0.2.2.1.1;refine Tot.ap λx3 h4=>?_;have lh4:=db h4;have q2:=wr (v21+1);exact tL ⟨rfl,ov0,⟨O0.1,O0.2.1,SzL.app (k:=176) h4 lo O0.2.2.1.2 (me1 h3.1),O0.2.2.2.1,O0.2.2.2.2.1,O0.2.2.2.2.2⟩,ov19,cl,ct,dz,cs⟩ F2
 have q1:=O0.2.1.1;refine tB (Tot.mk) λx1 h2=>?_;have lh2:=h2.1;refine tB (Tot.mk) λx2 h3=>?_;have lh3:=h3.1;exact tR ⟨⟨O0.1,O0.2.1,O0.2.2.1,O0.2.2.2.1,SzL.tr,⟨lo,λe he=>by rw[h3.2 e he];exact SzL.nil⟩⟩,dz,cl,cl,cl,cl,cl,cl,bK⟩
def iX{a0:Int}:Tot (tY a0) (λr=>(r=clV a0)):=by apply tZ;dsimp only[yG,LT.den];exact tR (by rfl)
def Yq{a0:Int}{a1:Int}:Tot (F4 a0 a1) (λr=>True):=by apply tZ;dsimp only[F5,LT.den];refine tB (iX) λx1 h1=>tB (iX) λx2 h2=>?_;have q1:=wr (x1-x2);exact F6
def Yr{a0:A3 Int}:Tot (F7 a0) (λr=>True):=by apply tZ;dsimp only[F8,LT.den];exact tB (tI O (by have e:(A3.list a0).length=3:=rfl;omega)) λx1 h1=>tB (tI O (by have e:(A3.list a0).length=3:=rfl;omega)) λx2 h2=>tB (Yq) λx3 h3=>tR trivial
def pF{a0:Int}{a1:Int}:Tot (ua a0 a1) (λr=>True):=by apply tZ;dsimp only[yH,LT.den];refine tB (iX) λx1 h1=>tB (iX) λx2 h2=>?_;have q1:=wr (x1+x2);exact F6
def ub:lx->Prop
 |.L0 v0 v3 v6=>True
 |.L1 v0 v3 v11=>True
 |.L2 v0 v3 v14=>True
def uc:lx->M6
 |.L0 v0 v3 v6=>(0,0,0,0,0,0)
 |.L1 v0 v3 v11=>(0,0,0,0,0,0)
 |.L2 v0 v3 v14=>(0,0,0,0,0,0)
def Z89{v0:Int}{v3:Int}{v14:Bool}(h:True):Tot (nj v0 v3 v14).den (Nx ub uc (0,0,0,0,0,0) (λr=>True)):=by
 dsimp only[nj,LT.den];apply tF<;>intro h1
 .exact tR aa
 apply tE<;>intro h2
 .exact ud
 apply tE<;>intro h3
 .exact ud
 apply tE<;>intro h4
 .exact ud
 apply tE<;>intro h5
 .exact ud
 exact tR aa
def yI{v0:Int}{v3:Int}{v11:Bool}(h:True):Tot (pG v0 v3 v11).den (Nx ub uc (0,0,0,0,0,0) (λr=>True)):=by
 dsimp only[pG,LT.den];apply tF<;>intro h1
 .exact tR aa
 apply tE<;>intro h2
 .exact yJ
 apply tE<;>intro h3
 .exact yJ
 exact yJ
def Z9a{v0:Int}{v3:Int}{v6:Bool}(h:True):Tot (ly v0 v3 v6).den (Nx ub uc (0,0,0,0,0,0) (λr=>True)):=by
 dsimp only[ly,LT.den];apply tF<;>intro h1
 .exact tR aa
 apply tE<;>intro h2
 .exact tJ (yI trivial)
 exact tJ (yI trivial)
def ue{a0:Int}:Tot (F9 a0) (λr=>True):=by
 apply Tot.rn ub uc
 .dsimp only[Ga,LT.den];apply tE<;>intro h1
  .exact tR aa
  apply tE<;>intro h2
  .exact uf
  apply tE<;>intro h3
  .exact uf
  apply tE<;>intro h4
  .exact uf
  exact uf
 intro s hs;cases s with
 |L0 _ _ _=>exact Z9a hs
 |L1 _ _ _=>exact yI hs
 |L2 _ _ _=>exact Z89 hs
def Z9b{a0:ai}{b0:Int}(oa0:Z5 a0):Tot (Gb a0 b0) (λr=>True):=by apply tZ;dsimp only[Gc,LT.den];exact tB (ue) λx1 h1=>tR trivial
def Ys(a0:List ai)(b0:Int):pH->Prop
 |.L0 v0 c0 v7 v8=>(v0=a0)/\(c0=b0)/\((SzL 176 Z5) v0)/\(0<=v8)/\(v7=(v0.length:Int))
def Gd:pH->M6
 |.L0 v0 c0 v7 v8=>(1,(v7-v8).toNat,1000000,0,0,0)
def Yt{a0:List ai}{b0:Int}(oa0:(SzL 176 Z5) a0):Tot (Ge a0 b0) (λr=>True):=by
 apply Tot.rn (Ys a0 b0) Gd
 .have lb_a0:=oa0.1;dsimp only[Gf,LT.den];have q1:=oa0.1;exact tL ⟨rfl,rfl,oa0,cs⟩ tk63
 rintro⟨v0,c0,v7,v8⟩ ⟨al0,al1,ov0,cv8,i0⟩;have lb_v0:=ov0.1;subst al0;subst al1;dsimp only[yK,Gg,LT.den];apply tD<;>intro h1
 .refine Tot.ix λx1 h2=>?_;have oh2:Z5 x1:=ov0.2 x1 h2.1;refine tB (Z9b oh2) λx2 h3=>?_;apply tF<;>intro h4
  .exact tR aa
  have q1:=wr (v8+1);exact tL ⟨rfl,rfl,ov0,cs⟩ tk63
 exact tR aa
def Yu{a0:List ai}{b0:Int}(oa0:(SzL 176 Z5) a0):Tot (Gh a0 b0) (λr=>True):=by apply tZ;have lb_a0:=oa0.1;dsimp only[Gi,LT.den];exact tB (Yt oa0) λx1 h1=>tR trivial
def Yv{a0:cU}{a1:Int}(oa0:fq a0):Tot (Gj a0 a1) (λr=>True):=by apply tZ;dsimp only[Gk,LT.den];exact tB (Yu oa0.2.2) λx1 h1=>tR trivial
def Z0o:pI->Prop
 |.L0 v1 E0 v5=>(cG E0)/\True
def Z3x:pI->M6
 |.L0 v1 E0 v5=>(0,0,0,0,0,0)
def yL{v1:Int}{E0:aj}{v5:Bool}(h:(cG E0)/\True):Tot (pJ v1 E0 v5).den (Nx Z0o Z3x (0,0,0,0,0,0) (λr=>True)):=by
 obtain⟨O0,_⟩:=h;dsimp only[pJ,LT.den];apply tE<;>intro h1
 .exact tR aa
 apply tE<;>intro h2
 .apply tN<;>intro h3
  .exact tR aa
  exact Gl
 exact Gm
def Z0p{a0:aj}{a1:Int}(oa0:cG a0):Tot (Gn a0 a1) (λr=>True):=by
 apply Tot.rn Z0o Z3x
 .dsimp only[Z5y,LT.den];apply tN<;>intro h1
  .exact tJ (yL ⟨oa0,aa⟩)
  exact tJ (yL ⟨oa0,aa⟩)
 intro s hs;cases s with
 |L0 _ _ _=>exact yL hs
def Z6b{a0:ak}{a1:Int}:Tot (Gp a0 a1) (λr=>((r = -1/\a0.Id<a1)\/(r=1/\a1<a0.Id)\/(r=0/\a0.Id=a1))):=by apply tZ;dsimp only[Gq,LT.den];exact tB (EB) λx1 h1=>tR V
abbrev Yw(a0:List ak)(a1:Int)(r:Int×Bool):Prop:=(BSP a0 a1 r)/\(0<=r.1)/\(r.1<=(a0.length:Int))/\(r.2=true->r.1<(a0.length:Int))
def Yx(a0:List ak)(a1:Int):pK->Prop
 |.L0 v0 v1 v8 v9 v10=>(v0=a0)/\(v1=a1)/\((SzL 128 (λ_=>True)) v0)/\(0<=v9)/\(v8=(v0.length:Int))/\(v9<=v10)/\(v10<=v8)/\(BSI v0 v1 v9 v10)
def Gr:pK->M6
 |.L0 v0 v1 v8 v9 v10=>(1,(v10-v9).toNat,1000000,0,0,0)
def Yy{a0:List ak}{a1:Int}(oa0:(SzL 128 (λ_=>True)) a0):Tot (Gt a0 a1) (Yw a0 a1):=by
 apply Tot.rn (Yx a0 a1) Gr
 .have lb_a0:=oa0.1;dsimp only[Gu,LT.den];have q1:=oa0.1;exact tL ⟨rfl,rfl,oa0,cl,cl,cl,cl,tk16⟩ tk51
 rintro⟨v0,v1,v8,v9,v10⟩ ⟨al0,al1,ov0,cv9,i0,i1,i2,i3⟩;have lb_v0:=ov0.1;subst al0;subst al1;dsimp only[yM,Gv,LT.den];have lm:=Yz (i:=v9) (j:=v10) (n:=v8) O O O O;apply tD<;>intro h1
 .have q1:=wr (v9+v10);have q2:0<=IntKind.wrap .u64 (IntKind.wrap .i64 (v9+v10))/\IntKind.wrap .u64 (IntKind.wrap .i64 (v9+v10))<18446744073709551616:=ug _;have q3:=wr (shrI .u64 (IntKind.wrap .u64 (IntKind.wrap .i64 (v9+v10))) 1);refine Tot.ix λx1 h2=>?_;have mh2:=h2.2;refine tB (Z6b) λx2 h3=>?_;apply tD<;>intro h4
  .have q4:=wr ((IntKind.wrap .i64 (shrI .u64 (IntKind.wrap .u64 (IntKind.wrap .i64 (v9+v10))) 1))+1);exact Gw
  exact Gw
 apply tD<;>intro h2
 .refine Tot.ix λx1 h3=>?_;have mh3:=h3.2;exact tB (Z6b) λx2 h4=>tR ⟨tk31,cl,cl,tk79⟩
 exact tR ⟨tk31,cl,cl,tk79⟩
def Gx{a0:ab}{a1:Int}(oa0:aR a0):Tot (Gy a0 a1) (λr=>(SrtO a0.Objects->r=ixO a0.Objects a1)/\(-1<=r)/\(r<(a0.Objects.length:Int))):=by
 apply tZ;dsimp only[Gz,LT.den];refine tB (Yy oa0.2.1) λx1 h1=>?_;have eh1_0:=h1.1;have eh1_1:=h1.2.1;have eh1_2:=h1.2.2.1;have eh1_3:=h1.2.2.2;apply tO<;>intro h2
 .exact GA
 exact GA
def YA(a0 a1:List UInt8)(h:a0.length<4294967281):Tot (strings_Contains a0 a1) (λ_=>True):=by unfold strings_Contains;first|exact⟨_,aP h,aa⟩|(rw[aP h];exact⟨_,rfl,aa⟩)|exact⟨_,rfl,aa⟩
def YB:mR->Prop
 |.L0 v36 v37 v38=>((SzL 1 (λ_=>True)) v36)/\(0<=v38)/\(v37=(v36.length:Int))
def GB:mR->M6
 |.L0 v36 v37 v38=>(1,(v37-v38).toNat,1000000,0,0,0)
def YC{a0:List UInt8}(oa0:SzT a0):Tot (sU a0) (λr=>True):=by
 apply Tot.rn YB GB
 .have lb_a0:a0.length<=562949953421312:=oa0;dsimp only[xw,LT.den];have q1:a0.length<=562949953421312:=oa0;apply tE<;>intro h1
  .exact tR aa
  apply tD<;>intro h2
  .exact tR aa
  refine Tot.ix λx1 h3=>?_;apply tD<;>intro h4
  .exact tR aa
  refine Tot.ix λx2 h5=>?_;apply tD<;>intro h6
  .exact tR aa
  have q2:=wr ((a0.length:Int)-1);refine Tot.ix λx3 h7=>?_;apply tE<;>intro h8
  .exact tR aa
  refine tB (YA a0 ([45,45]:List UInt8) cl) λx4 h9=>?_;apply tF<;>intro h10
  .exact tR aa
  refine tB (Tot.bytes (by first|omega|(have:=oa0;unfold SzT at this;omega))) λx5 h11=>?_;have q3:x5.length*1<=140737488351232:=(show SzL 1 (λ_=>True) x5 from SzL.tr).1;exact tL ⟨SzL.tr,cs⟩ GC
 rintro⟨v36,v37,v38⟩ ⟨ov36,cv38,i0⟩;have lb_v36:=ov36.1;dsimp only[mQ,mS,LT.den];apply tD<;>intro h1
 .refine Tot.ix λx1 h2=>?_;apply tD<;>intro h3
  .apply tD<;>intro h4
   .apply tN<;>intro h5
    .exact tR aa
    exact nk
   apply tD<;>intro h5
   .exact GD
   exact nk
  apply tD<;>intro h4
  .apply tD<;>intro h5
   .exact GD
   apply tD<;>intro h6
   .apply tN<;>intro h7
    .exact tR aa
    exact nk
   exact nk
  exact nk
 exact tR aa
def YD(a0:Int)(h0:0<=a0)(h1:a0<2):Tot (s0 a0) (λr=>(SzT r)):=by
 obtain h|h:a0=0\/a0=1:=bg
 all_goals subst h
 .exact⟨[98,97,115,105,99],by kernel_rfl,by unfold SzT;decide⟩
 exact⟨[117,110,105,113,117,101],by kernel_rfl,by unfold SzT;decide⟩
def YE(a0:Int)(h0:0<=a0)(h1:a0<6):Tot (s5 a0) (λr=>(SzT r)):=by
 obtain h|h|h|h|h|h:a0=0\/a0=1\/a0=2\/a0=3\/a0=4\/a0=5:=bg
 all_goals subst h
 .exact⟨[99,114,101,97,116,117,114,101],by kernel_rfl,by unfold SzT;decide⟩
 .exact⟨[105,110,115,116,97,110,116],by kernel_rfl,by unfold SzT;decide⟩
 .exact⟨[114,105,116,117,97,108],by kernel_rfl,by unfold SzT;decide⟩
 .exact⟨[114,101,108,105,99],by kernel_rfl,by unfold SzT;decide⟩
 .exact⟨[99,104,97,114,109],by kernel_rfl,by unfold SzT;decide⟩
 exact⟨[108,97,110,100],by kernel_rfl,by unfold SzT;decide⟩
def Z1z:pL->Prop
 |.L0 v0 v8 v9=>(SzT v0)/\(0<=v9)/\(v8<=2)
def GE:pL->M6
 |.L0 v0 v8 v9=>(1,(v8-v9).toNat,1000000,0,0,0)
def Z10{a0:List UInt8}{a1:Int}(oa0:SzT a0)(h0:a1<=2):Tot (sY a0 a1) (λr=>True):=by
 apply Tot.rn Z1z GE
 .have lb_a0:a0.length<=562949953421312:=oa0;dsimp only[xA,LT.den];exact tL ⟨oa0,cs⟩ tk91
 rintro⟨v0,v8,v9⟩ ⟨ov0,cv9,i0⟩;have lb_v0:v0.length<=562949953421312:=ov0;dsimp only[sZ,oG,LT.den];apply tD<;>intro h1
 .refine tB (YD v9 cl cl) λx1 h2=>?_;apply tO<;>intro h3
  .have q1:=wr (v9+1);exact tL ⟨ov0,cs⟩ tk91
  exact GF
 exact tR aa
def Z3y:pM->Prop
 |.L0 v0 v8 v9=>(SzT v0)/\(0<=v9)/\(v8<=6)
def GG:pM->M6
 |.L0 v0 v8 v9=>(1,(v8-v9).toNat,1000000,0,0,0)
def Z3z{a0:List UInt8}{a1:Int}(oa0:SzT a0)(h0:a1<=6):Tot (s3 a0 a1) (λr=>True):=by
 apply Tot.rn Z3y GG
 .have lb_a0:a0.length<=562949953421312:=oa0;dsimp only[xC,LT.den];exact tL ⟨oa0,cs⟩ tk93
 rintro⟨v0,v8,v9⟩ ⟨ov0,cv9,i0⟩;have lb_v0:v0.length<=562949953421312:=ov0;dsimp only[s4,oH,LT.den];apply tD<;>intro h1
 .refine tB (YE v9 cl cl) λx1 h2=>?_;apply tO<;>intro h3
  .have q1:=wr (v9+1);exact tL ⟨ov0,cs⟩ tk93
  exact GF
 exact tR aa
def GH{a0:List UInt8}(oa0:SzT a0):Tot (Z6k a0) (λr=>True):=by
 apply tZ;have lb_a0:a0.length<=562949953421312:=oa0;dsimp only[Z71,LT.den];refine tB (YC oa0) λx1 h1=>?_;apply tF<;>intro h2
 .refine tB (Z10 oa0 cl) λx2 h3=>?_;apply tE<;>intro h4
  .exact tB (Z3z oa0 cl) λx3 h5=>tR trivial
  exact tR aa
 exact tR aa
def GI(a0:aj)(oa0:cG a0):Tot (s8 a0) (λr=>r=filV a0):=⟨_,DT a0,rfl⟩
def Z30{a0:Int}{a1:Int}{a2:Int}:Tot (uh a0 a1 a2) (λr=>True):=by
 apply tZ;dsimp only[yN,LT.den];apply tE<;>intro h1
 .exact tR aa
 apply tN<;>intro h2
 .exact tR aa
 exact tR aa
def GJ{a0:ae}{a1:Int}:Tot (ui a0 a1) (λr=>True):=by
 apply tZ;dsimp only[yO,LT.den];apply tE<;>intro h1
 .exact tR aa
 apply tE<;>intro h2
 .exact tR aa
 exact Gm
def YF:k7->Prop
 |.L0 v0 v1 v7 v8=>((SzL 16 SzT) v0)/\(SzT v1)/\(0<=v8)/\(v7=(v0.length:Int))
def GL:k7->M6
 |.L0 v0 v1 v7 v8=>(1,(v7-v8).toNat,1000000,0,0,0)
def YG{a0:List (List UInt8)}{a1:List UInt8}(oa0:(SzL 16 SzT) a0)(oa1:SzT a1):Tot (xK a0 a1) (λr=>True):=by
 apply Tot.rn YF GL
 .have lb_a0:=oa0.1;have lb_a1:a1.length<=562949953421312:=oa1;dsimp only[xL,LT.den];have q1:=oa0.1;exact tL ⟨oa0,oa1,cs⟩ tk82
 rintro⟨v0,v1,v7,v8⟩ ⟨ov0,ov1,cv8,i0⟩;have lb_v0:=ov0.1;have lb_v1:v1.length<=562949953421312:=ov1;dsimp only[oI,mW,LT.den];apply tD<;>intro h1
 .refine Tot.ix λx1 h2=>?_;have oh2:SzT x1:=ov0.2 x1 h2.1;apply tF<;>intro h3
  .exact tR aa
  have q1:=wr (v8+1);exact tL ⟨ov0,ov1,cs⟩ tk82
 exact tR aa
def YH{a0:List (List UInt8)}{a1:List UInt8}(oa0:(SzL 16 SzT) a0)(oa1:SzT a1):Tot (xI a0 a1) (λr=>True):=by apply tZ;have lb_a0:=oa0.1;have lb_a1:a1.length<=562949953421312:=oa1;dsimp only[xJ,LT.den];exact tB (YG oa0 oa1) λx1 h1=>tR trivial
def GM{a0:cf}{a1:List UInt8}(oa0:kj a0)(oa1:SzT a1):Tot (Z2d a0 a1) (λr=>True):=by apply tZ;have lb_a1:a1.length<=562949953421312:=oa1;dsimp only[Z4n,LT.den];exact tB (YH oa0 oa1) λx1 h1=>tR trivial
def yP{a0:Int}{a1:Int}:Tot (yQ a0 a1) (λr=>(r=kwB a0 a1)):=by apply tZ;dsimp only[GN,LT.den];exact tR (by rfl)
def YI{a0:Int}{a1:Int}:Tot (uj a0 a1) (λr=>(r=muV a0 a1)):=by apply tZ;dsimp only[yR,LT.den];refine tB (iX) λx1 h1=>tB (iX) λx2 h2=>?_;have q1:=wr (x1*x2);exact tB (iX) λx3 h3=>tR (by unfold muV;grind)
def YJ:pN->Prop
 |.L0 v1 E0 v5 v14 v15=>(0<=v15)/\True
def GO:pN->M6
 |.L0 v1 E0 v5 v14 v15=>(1,(5-v15).toNat,1000000,0,0,0)
def YK{a0:Z4}{a1:Int}:Tot (Z6l a0 a1) (λr=>True):=by
 apply Tot.rn YJ GO
 .dsimp only[Z75,LT.den];refine tB (Fy) λx1 h1=>?_;apply tO<;>intro h2
  .exact tR aa
  exact GP
 rintro⟨v1,E0,v5,v14,v15⟩ ⟨cv15,_⟩;dsimp only[pO,nm,LT.den];apply tD<;>intro h1
 .refine tB (tI O (by have e:(A5.list v14).length=5:=rfl;omega)) λx1 h2=>?_;have q1:=wr (v5+x1);have q2:=wr (v15+1);exact GP
 exact tB (YI) λx1 h2=>tB (pF) λx2 h3=>tR trivial
def GQ{a0:ae}{a1:Int}{b0:Bool}:Tot (uk a0 a1 b0) (λr=>True):=by
 apply tZ;dsimp only[yS,LT.den];apply tE<;>intro h1
 .exact tR aa
 apply tF<;>intro h2
 .exact tB (GJ) λx1 h3=>tR trivial
 exact tR aa
def lz:jC->Prop
 |.L0 v3 E0 E1 E2 E3 v30=>(Z0 E1)/\(cG E2)
 |.L1 E0 E1 E2 E3 v49=>(Z0 E1)/\(cG E2)
 |.L2 E0 E1 E2 E3 v68=>(Z0 E1)/\(cG E2)
 |.L3 E0 E1 E2 E3 v88=>(Z0 E1)/\(cG E2)
 |.L4 E0 E1 E2=>(Z0 E0)/\(cG E1)
def nn:jC->M6
 |.L0 v3 E0 E1 E2 E3 v30=>(0,0,0,0,0,0)
 |.L1 E0 E1 E2 E3 v49=>(0,0,0,0,0,0)
 |.L2 E0 E1 E2 E3 v68=>(0,0,0,0,0,0)
 |.L3 E0 E1 E2 E3 v88=>(0,0,0,0,0,0)
 |.L4 E0 E1 E2=>(0,0,0,0,0,0)
def Z0q{E0:ah}{E1:aj}{E2:Bool}(h:lz (.L4 E0 E1 E2)):Tot (jD E0 E1 E2).den (Nx lz nn (0,0,0,0,0,0) (λr=>True)):=by
 obtain⟨O0,O1⟩:=h;dsimp only[jD,LT.den];refine tB (GQ) λx1 h1=>?_;apply tF<;>intro h2
 .refine tB (GQ) λx2 h3=>?_;apply tF<;>intro h4
  .exact tB (YK) λx3 h5=>tB (GJ) λx4 h6=>tR trivial
  exact tR aa
 exact tR aa
def um{E0:ak}{E1:ah}{E2:aj}{E3:Bool}{v88:Bool}(h:(Z0 E1)/\(cG E2)):Tot (km E0 E1 E2 E3 v88).den (Nx lz nn (0,0,0,0,0,0) (λr=>True)):=by
 obtain⟨O1,O2⟩:=h;dsimp only[km,LT.den];apply tF<;>intro h1
 .exact tR aa
 apply tE<;>intro h2
 .apply tO<;>intro h3
  .exact tR aa
  apply tE<;>intro h4
  .apply tF<;>intro h5
   .exact tR aa
   exact uo
  exact uo
 apply tE<;>intro h3
 .apply tF<;>intro h4
  .exact tR aa
  exact uo
 exact uo
def yU{E0:ak}{E1:ah}{E2:aj}{E3:Bool}{v68:Bool}(h:(Z0 E1)/\(cG E2)):Tot (lA E0 E1 E2 E3 v68).den (Nx lz nn (0,0,0,0,0,0) (λr=>True)):=by
 obtain⟨O1,O2⟩:=h;dsimp only[lA,LT.den];apply tF<;>intro h1
 .exact tR aa
 apply tO<;>intro h2
 .refine tB (GM O1.2.1 (SzS.t O2)) λx1 h3=>?_;apply tO<;>intro h4
  .exact tJ (um ⟨O1,O2⟩)
  exact tB (yP) λx2 h5=>tJ (um ⟨O1,O2⟩)
 exact tB (yP) λx1 h3=>tJ (um ⟨O1,O2⟩)
def Z0r{E0:ak}{E1:ah}{E2:aj}{E3:Bool}{v49:Bool}(h:(Z0 E1)/\(cG E2)):Tot (iY E0 E1 E2 E3 v49).den (Nx lz nn (0,0,0,0,0,0) (λr=>True)):=by
 obtain⟨O1,O2⟩:=h;dsimp only[iY,LT.den];apply tF<;>intro h1
 .exact tR aa
 refine tB (Z30) λx1 h2=>?_;apply tO<;>intro h3
 .exact tJ (yU ⟨O1,O2⟩)
 exact tB (Z30) λx2 h4=>tJ (yU ⟨O1,O2⟩)
def Z0s{v3:Int}{E0:ak}{E1:ah}{E2:aj}{E3:Bool}{v30:Bool}(h:(Z0 E1)/\(cG E2)):Tot (ga v3 E0 E1 E2 E3 v30).den (Nx lz nn (0,0,0,0,0,0) (λr=>True)):=by
 obtain⟨O1,O2⟩:=h;dsimp only[ga,LT.den];apply tF<;>intro h1
 .exact tR aa
 apply tE<;>intro h2
 .apply tN<;>intro h3
  .exact pP
  apply tE<;>intro h4
  .exact pP
  exact pP
 apply tE<;>intro h3
 .exact pP
 exact pP
def Z9c{a0:ak}{a1:ah}{a2:Int}{a3:Int}{a4:aj}(oa1:Z0 a1)(oa4:cG a4):Tot (uq a0 a1 a2 a3 a4) (λr=>True):=by
 apply Tot.rn lz nn
 .dsimp only[Z1j,LT.den];refine tB (GI a4 oa4) λx1 h1=>?_;apply tO<;>intro h2
  .exact tR aa
  apply tN<;>intro h3
  .exact tR aa
  apply tE<;>intro h4
  .apply tN<;>intro h5
   .exact pQ
   apply tE<;>intro h6
   .exact pQ
   exact pQ
  apply tE<;>intro h5
  .exact pQ
  exact pQ
 intro s hs;cases s with
 |L0 _ _ _ _ _ _=>exact Z0s hs
 |L1 _ _ _ _ _=>exact Z0r hs
 |L2 _ _ _ _ _=>exact yU hs
 |L3 _ _ _ _ _=>exact um hs
 |L4 _ _ _=>exact Z0q hs
def YL{x:ah}(h:Z0 x):x.Line.Subs.length<=4611686018427387904:=by have:x.Line.Subs.length*16<=140737488351232:=h.2.1.1;omega
def YM{s:ab}{all:List ah}{you src:Int}{f:aj}(h:aR s):SzL 8 (λ_=>True) (nq s all you src f):=by have h1:s.Objects.length*128<=140737488351232:=h.2.1.1;have h2:(nq s all you src f).length<=s.Objects.length:=yV ..;exact⟨by omega,λ_ _=>trivial⟩
def GR(a0:ab)(a1:List ah)(a2 a3:Int)(a4:aj)(oa0:aR a0)(oa1:(SzL 176 Z0) a1)(oa4:cG a4):Tot (Z6m a0 a1 a2 a3 a4) (λr=>((SzL 8 (λ_=>True)) r)/\(r=nq a0 a1 a2 a3 a4)):=⟨_,YN a0 a1 a2 a3 a4 oa0.2.1.1 λt ht=>YL (oa1.2 t ht),YM oa0,rfl⟩
def Z31:pR->Prop
 |.L0 v0 v1 v12 v13=>((SzL 8 (λ_=>True)) v0)/\((SzL 8 (λ_=>True)) v1)/\(0<=v13)/\(v12=(v0.length:Int))/\(v0.length=v1.length)
def GS:pR->M6
 |.L0 v0 v1 v12 v13=>(1,(v12-v13).toNat,1000000,0,0,0)
def GT{a0:List Int}{a1:List Int}(oa0:(SzL 8 (λ_=>True)) a0)(oa1:(SzL 8 (λ_=>True)) a1):Tot (GU a0 a1) (λr=>True):=by
 apply Tot.rn Z31 GS
 .have lb_a0:=oa0.1;have lb_a1:=oa1.1;dsimp only[GV,LT.den];have q1:=oa0.1;have q2:=oa1.1;apply tN<;>intro h1
  .exact tR aa
  exact tL ⟨oa0,oa1,cs⟩ tk94
 rintro⟨v0,v1,v12,v13⟩ ⟨ov0,ov1,cv13,i0,i1⟩;have lb_v0:=ov0.1;have lb_v1:=ov1.1;dsimp only[yW,GW,LT.den];apply tD<;>intro h1
 .refine Tot.ix λx1 h2=>Tot.ix λx2 h3=>?_;apply tN<;>intro h4
  .exact tR aa
  have q1:=wr (v13+1);exact tL ⟨ov0,ov1,cs⟩ tk94
 exact tR aa
def Z5o{a0:dA}{a1:dA}(oa0:Z4y a0)(oa1:Z4y a1):Tot (GX a0 a1) (λr=>True):=by
 apply tZ;dsimp only[GY,LT.den];apply tO<;>intro h1
 .exact tR aa
 refine tB (GT oa0.1 oa1.1) λx1 h2=>?_;apply tO<;>intro h3
 .exact tR aa
 exact tB (GT oa0.2 oa1.2) λx2 h4=>tR trivial
def GZ{a0:List Bool}(oa0:(SzL 1 (λ_=>True)) a0):Tot (ur a0) (λr=>((SzL 1 (λ_=>True)) r)/\(r=a0)):=by
 unfold ur;split
 .apply tZ;have lb_a0:=oa0.1;dsimp only[yX,LT.den];have q1:=oa0.1;refine Tot.ap λx1 h1=>?_;have lh1:x1.length=([]:List Bool).length+a0.length:=by rw[h1,bF]
  exact uu
 apply tZ;dsimp only[uv,LT.den];exact Z4v
def YO{a0:List an}(oa0:(SzL 640 cV) a0):Tot (uw a0) (λr=>((SzL 640 cV) r)):=by
 unfold uw;split
 .apply tZ;have lb_a0:=oa0.1;dsimp only[yY,LT.den];have q1:=oa0.1;refine Tot.ap λx1 h1=>?_;have lh1:x1.length=([]:List an).length+a0.length:=by rw[h1,bF]
  try simp only[bT,cg,aM]at lh1
  exact tR (SzL.app (k:=640) h1 lo (λ_ h=>by cases h) oa0.2)
 apply tZ;dsimp only[ux,LT.den];exact tR SzL.nil
def YP:nr->Prop
 |.L0 E0 E1 v18 v19=>(Z0 E0)/\(Z0 E1)/\(0<=v19)/\(v18=(E0.Abilities.length:Int))
 |.L1 y45000015 E0 E1 v18 v19 v54 v55 v4=>(cV y45000015)/\(Z0 E0)/\(Z0 E1)/\(0<=v55)/\(0<=v19)/\(v19<v18)/\(v18=(E0.Abilities.length:Int))/\(0<=v4)/\(v4<v18)/\(v19<v18)/\(v54=(y45000015.Effects.length:Int))
def G0:nr->M6
 |.L0 E0 E1 v18 v19=>(1,(v18-v19).toNat,1000000,0,0,0)
 |.L1 y45000015 E0 E1 v18 v19 v54 v55 v4=>(1,(v18-v19).toNat,1,(v54-v55).toNat,1000000,0)
def YQ{a0:ah}(oa0:Z0 a0):Tot (G1 a0) (λr=>(Z0 r)):=by
 apply Tot.rn YP G0
 .dsimp only[G2,LT.den];refine tB (yw oa0.2.1) λx1 h1=>?_;have eh1_1:=h1.2;exact tB (YO oa0.2.2) λx2 h2=>tL ⟨⟨oa0.1,h1.1,h2⟩,⟨SzS.nil,SzL.nil,SzL.nil⟩,cs⟩ uy
 intro s hs;cases s with
 |L0 E0 E1 v18 v19=>
  obtain⟨O0,O1,cv19,i0⟩:=hs;dsimp only[uz,G3,LT.den];apply tD<;>intro h1
  .refine Tot.ix λx1 h2=>?_;have oh2:cV x1:=O0.2.2.2 x1 h2.1;refine tB (jB oh2.2.1) λx2 h3=>?_;have eh3_1:=h3.2;refine tB (yz oh2.2.2.2.1) λx3 h4=>?_;have eh4_1:=h4.2;refine tB (yA oh2.2.2.2.2.1) λx4 h5=>?_;have eh5_1:=h5.2;exact tL ⟨⟨oh2.1,h3.1,oh2.2.2.1,h4.1,h5.1,oh2.2.2.2.2.2⟩,O0,O1,cs⟩ uy
  exact tR O0
 |L1 y45000015 E0 E1 v18 v19 v54 v55 v4=>
  obtain⟨oy45000015,O0,O1,cv55,cv19,bd5,i0,i1,i2,i3,i4⟩:=hs;dsimp only[uz,G4,LT.den];have lq:=oy45000015.2.2.2.2.1.1;have lr:=O0.2.2.1;apply tD<;>intro h1
  .refine Tot.ix λx1 h2=>?_;have oh2:cY x1:=oy45000015.2.2.2.2.1.2 x1 h2.1;refine tB (jB oh2.2.2.2.2) λx2 h3=>?_;have eh3_1:=h3.2;refine tB (Tot.set O O) λx3 h4=>?_;have lh4:=h4.1;have q1:=wr (v55+1);exact tL ⟨⟨oy45000015.1,oy45000015.2.1,oy45000015.2.2.1,oy45000015.2.2.2.1,⟨lo,λe he=>(h4.2.1 e he).elim (λw=>by rw[w];exact⟨oh2.1,oh2.2.1,oh2.2.2.1,oh2.2.2.2.1,h3.1⟩) (oy45000015.2.2.2.2.1.2 e)⟩,oy45000015.2.2.2.2.2⟩,O0,O1,cs⟩ uy
  refine tB (Tot.set O O) λx1 h2=>?_;have lh2:=h2.1;have q1:=wr (v19+1);exact tL ⟨⟨O0.1,O0.2.1,⟨lo,λe he=>(h2.2.1 e he).elim (λw=>by rw[w];exact oy45000015) (O0.2.2.2 e)⟩⟩,O1,cs⟩ uy
def jE{a0:Int}{a1:Int}{a2:Int}:Tot (G5 a0 a1 a2) (λr=>True):=by apply tZ;dsimp only[G6,LT.den];exact uA
def pS:nu->Prop
 |.L0 E0 E1 E2 v8 v9=>(Z5 E0)/\(Z5 E1)/\(Z5 E2)
 |.L1 E0 E1 E2 v8 v19=>(Z5 E0)/\(Z5 E1)/\(Z5 E2)
def yZ:nu->M6
 |.L0 E0 E1 E2 v8 v9=>(0,0,0,0,0,0)
 |.L1 E0 E1 E2 v8 v19=>(0,0,0,0,0,0)
def G7{E0:ai}{E1:ai}{E2:ai}{v8:Int}{v19:Bool}(h:pS (.L1 E0 E1 E2 v8 v19)):Tot (pT E0 E1 E2 v8 v19).den (Nx pS yZ (0,0,0,0,0,0) (λr=>(Z5 r))):=by
 obtain⟨O0,O1,O2⟩:=h;dsimp only[pT,LT.den];apply tF<;>intro h1
 .exact tR ⟨O0.1,O2.2⟩
 apply tE<;>intro h2
 .exact tR ⟨O2.1,O0.2⟩
 apply tE<;>intro h3
 .exact za
 apply tE<;>intro h4
 .exact za
 exact tR O2
def G8{E0:ai}{E1:ai}{E2:ai}{v8:Int}{v9:Bool}(h:pS (.L0 E0 E1 E2 v8 v9)):Tot (jF E0 E1 E2 v8 v9).den (Nx pS yZ (0,0,0,0,0,0) (λr=>(Z5 r))):=by
 obtain⟨O0,O1,O2⟩:=h;dsimp only[jF,LT.den];apply tF<;>intro h1
 .exact za
 apply tE<;>intro h2
 .exact G9
 exact G9
def YR{a0:ai}(oa0:Z5 a0):Tot (Ha a0) (λr=>(Z5 r)):=by
 apply Tot.rn pS yZ
 .dsimp only[Hb,LT.den];apply tE<;>intro h1
  .exact nv
  apply tE<;>intro h2
  .exact nv
  apply tE<;>intro h3
  .exact nv
  apply tE<;>intro h4
  .exact nv
  apply tE<;>intro h5
  .exact nv
  exact nv
 intro s hs;cases s with
 |L0 _ _ _ _ _=>exact G8 hs
 |L1 _ _ _ _ _=>exact G7 hs
def Z6s:lB->Prop
 |.L0 E0 v14 v15=>(Z5 E0)/\True
 |.L1 E0 v14 v27=>(Z5 E0)/\True
 |.L2 E0 v14 v43=>(Z5 E0)/\True
def uB:lB->M6
 |.L0 E0 v14 v15=>(0,0,0,0,0,0)
 |.L1 E0 v14 v27=>(0,0,0,0,0,0)
 |.L2 E0 v14 v43=>(0,0,0,0,0,0)
def Z5p{E0:ai}{v14:Int}{v43:Bool}(h:(Z5 E0)/\True):Tot (Z3i E0 v14 v43).den (Nx Z6s uB (0,0,0,0,0,0) (λr=>True)):=by
 obtain⟨O0,_⟩:=h;dsimp only[Z3i,LT.den];apply tF<;>intro h1
 .exact tB (jE) λx1 h2=>tR trivial
 apply tE<;>intro h2
 .exact tB (GI E0.Filter O0.2) λx1 h3=>tR trivial
 apply tE<;>intro h3
 .refine tB (jE) λx1 h4=>?_;apply tF<;>intro h5
  .exact tB (jE) λx2 h6=>tR trivial
  exact tR aa
 apply tE<;>intro h4
 .refine tB (jE) λx1 h5=>?_;apply tF<;>intro h6
  .exact tB (jE) λx2 h7=>tR trivial
  exact tR aa
 exact tR aa
def Z5q{E0:ai}{v14:Int}{v27:Bool}(h:(Z5 E0)/\True):Tot (Z3j E0 v14 v27).den (Nx Z6s uB (0,0,0,0,0,0) (λr=>True)):=by
 obtain⟨O0,_⟩:=h;dsimp only[Z3j,LT.den];apply tF<;>intro h1
 .exact tB (GH (SzS.t O0.1)) λx1 h2=>tR trivial
 apply tE<;>intro h2
 .exact tB (jE) λx1 h3=>tR trivial
 apply tE<;>intro h3
 .exact tB (jE) λx1 h4=>tR trivial
 apply tE<;>intro h4
 .exact tJ (Z5p ⟨O0,aa⟩)
 exact tJ (Z5p ⟨O0,aa⟩)
def Z5r{E0:ai}{v14:Int}{v15:Bool}(h:(Z5 E0)/\True):Tot (Z3k E0 v14 v15).den (Nx Z6s uB (0,0,0,0,0,0) (λr=>True)):=by
 obtain⟨O0,_⟩:=h;dsimp only[Z3k,LT.den];apply tF<;>intro h1
 .refine tB (jE) λx1 h2=>?_;apply tF<;>intro h3
  .exact tR aa
  exact tR aa
 apply tE<;>intro h2
 .exact tJ (Z5q ⟨O0,aa⟩)
 exact tJ (Z5q ⟨O0,aa⟩)
def YS{a0:ai}(oa0:Z5 a0):Tot (Hc a0) (λr=>True):=by
 apply Tot.rn Z6s uB
 .dsimp only[Hd,LT.den];refine tB (jE) λx1 h1=>?_;apply tO<;>intro h2
  .exact tR aa
  refine tB (YR oa0) λx2 h3=>?_;apply tO<;>intro h4
  .exact tR aa
  apply tE<;>intro h5
  .exact tJ (Z5r ⟨oa0,aa⟩)
  exact tJ (Z5r ⟨oa0,aa⟩)
 intro s hs;cases s with
 |L0 _ _ _=>exact Z5r hs
 |L1 _ _ _=>exact Z5q hs
 |L2 _ _ _=>exact Z5p hs
def YT{a0:List UInt8}{a1:List UInt8}(oa0:SzT a0)(oa1:SzT a1):Tot (Z51 a0 a1) (λr=>True):=by apply tZ;have lb_a0:a0.length<=562949953421312:=oa0;have lb_a1:a1.length<=562949953421312:=oa1;dsimp only[Z0h,LT.den];exact tR aa
def YU(a0:List (List UInt8))(a1:List UInt8):pU->Prop
 |.L0 v0 w1_0 v7 v8=>(v0=a0)/\(w1_0=a1)/\((SzL 16 SzT) v0)/\(SzT w1_0)/\(0<=v8)/\(v7=(v0.length:Int))
def He:pU->M6
 |.L0 v0 w1_0 v7 v8=>(1,(v7-v8).toNat,1000000,0,0,0)
def YV{a0:List (List UInt8)}{a1:List UInt8}(oa0:(SzL 16 SzT) a0)(oa1:SzT a1):Tot (Hf a0 a1) (λr=>(-1<=r)/\(r<(a0.length:Int))):=by
 apply Tot.rn (YU a0 a1) He
 .have lb_a0:=oa0.1;have lb_a1:a1.length<=562949953421312:=oa1;dsimp only[Hg,LT.den];have q1:=oa0.1;exact tL ⟨rfl,rfl,oa0,oa1,cs⟩ tk69
 rintro⟨v0,w1_0,v7,v8⟩ ⟨al0,al1,ov0,ow1_0,cv8,i0⟩;have lb_v0:=ov0.1;have lb_w1_0:w1_0.length<=562949953421312:=ow1_0;subst al0;subst al1;dsimp only[zd,Hh,LT.den];apply tD<;>intro h1
 .refine Tot.ix λx1 h2=>?_;have oh2:SzT x1:=ov0.2 x1 h2.1;refine tB (YT oh2 ow1_0) λx2 h3=>?_;apply tF<;>intro h4
  .exact tR ⟨cl,cl⟩
  have q1:=wr (v8+1);exact tL ⟨rfl,rfl,ov0,ow1_0,cs⟩ tk69
 exact tR ⟨cl,cl⟩
def Hi(b0:List (List UInt8))(a1:Int)(b1:List (List UInt8))(ob0:SzL 16 SzT b0)(ob1:SzL 16 SzT b1)(h0:b0.length<=4096)(h1:0<=a1)(h2:a1<=(b0.length:Int))(h3:b1.length=1) :
 Tot (Hj b0 a1 b1) (λr=>(SzL 16 SzT r)/\(r.length=b0.length+1)):=by
 match b1,h3 with
 |[y],_=>
  refine⟨_,Hk h1 h2 O,⟨?_,λe he=>?_⟩,?_⟩
  .exact ze
  .rcases cD.1 he with h|h
   .exact ob0.2 e (iw h)
   rcases cn.1 h with h|h
   .rw [h];exact ob1.2 y al
   exact ob0.2 e (ko h)
  exact ze
def YW{a0:cf}{a1:List UInt8}(oa0:kj a0)(oa1:SzT a1):Tot (Hl a0 a1) (λr=>(kj r)):=by
 apply tZ;have lb_a1:a1.length<=562949953421312:=oa1;dsimp only[Hm,LT.den];refine tB (yw oa0) λx1 h1=>?_;have eh1_1:=h1.2;refine tB (GH oa1) λx2 h2=>?_;apply tO<;>intro h3
 .exact tR h1.1
 refine tB (GM h1.1 oa1) λx3 h4=>?_;apply tF<;>intro h5
 .exact tR h1.1
 apply tD<;>intro h6
 .exact tR h1.1
 refine tB (YV h1.1 oa1) λx4 h7=>?_;have eh7_0:=h7.1;have eh7_1:=h7.2;apply tD<;>intro h8
 .refine tB (Hi x1 (x1.length:Int) [a1] h1.1 (SzL.one oa1) cl cl cl cl) λx5 h9=>?_;exact zf
 refine tB (Hi x1 x4 [a1] h1.1 (SzL.one oa1) cl cl cl cl) λx5 h9=>?_;exact zf
def YX{a0:ah}{a1:ai}{a2:Int}{a3:Int}(oa0:Z0 a0)(oa1:Z5 a1):Tot (zg a0 a1 a2 a3) (λr=>(Z0 r)):=by
 apply tZ;dsimp only[Hn,LT.den];refine tB (YQ oa0) λx1 h1=>tB (YS oa1) λx2 h2=>?_;apply tO<;>intro h3
 .exact tR h1
 apply tE<;>intro h4
 .exact jG
 apply tE<;>intro h5
 .exact jG
 apply tE<;>intro h6
 .exact jG
 apply tE<;>intro h7
 .exact tR ⟨h1.1,SzL.one (SzS.t oa1.1),h1.2.2⟩
 apply tE<;>intro h8
 .exact tB (YW h1.2.1 (SzS.t oa1.1)) λx3 h9=>tR ⟨h1.1,h9,h1.2.2⟩
 apply tE<;>intro h9
 .exact jG
 apply tE<;>intro h10
 .exact jG
 apply tE<;>intro h11
 .exact jG
 apply tE<;>intro h12
 .exact jG
 apply tE<;>intro h13
 .exact tR ⟨h1.1,h1.2.1,SzL.nil⟩
 apply tE<;>intro h14
 .exact tB (iX) λx3 h15=>tB (iX) λx4 h16=>tR ⟨h1.1,h1.2.1,h1.2.2⟩
 apply tE<;>intro h15
 .exact jG
 apply tE<;>intro h16
 .exact tB (pF) λx3 h17=>tB (pF) λx4 h18=>tR ⟨h1.1,h1.2.1,h1.2.2⟩
 apply tE<;>intro h17
 .exact jG
 exact tR h1
abbrev YY(a0:List Int)(r:List Int):Prop:=((SzL 8 (λ_=>True)) r)/\(r.length<=a0.length)/\(SUB r a0)
def YZ(a0:List Int):pV->Prop
 |.L0 v3 v6 v7 v8=>(v6=a0)/\((SzL 8 (λ_=>True)) v3)/\((SzL 8 (λ_=>True)) v6)/\(0<=v8)/\(v7=(v6.length:Int))/\(v3.length<=v8.toNat)/\(v8<=v7)/\(SUB v3 v6)
def Z32:pV->M6
 |.L0 v3 v6 v7 v8=>(1,(v7-v8).toNat,1000000,0,0,0)
def Y0{a0:List Int}(oa0:(SzL 8 (λ_=>True)) a0):Tot (zh a0) (YY a0):=by
 apply Tot.rn (YZ a0) Z32
 .have lb_a0:=oa0.1;dsimp only[Z52,LT.den];have q1:=oa0.1;exact tL ⟨rfl,SzL.nil,oa0,cl,cl,cl,cl,tk54⟩ zj
 rintro⟨v3,v6,v7,v8⟩ ⟨al0,ov3,ov6,cv8,i0,i1,i2,i3⟩;have lb_v3:=ov3.1;have lb_v6:=ov6.1;subst al0;dsimp only[zk,Z3l,LT.den];apply tD<;>intro h1
 .refine Tot.ix λx1 h2=>?_;have mh2:=h2.2;apply tD<;>intro h3
  .refine tB (tQ ov3) λx2 h4=>?_;apply tO<;>intro h5
   .have q1:=ov3.1;refine Tot.ap λx3 h6=>?_;have lh6:=db h6;have q2:=wr (v8+1);exact tL ⟨rfl,SzL.tr,ov6,cl,cl,cl,cl,tk54⟩ zj
   exact Ho
  exact Ho
 exact tR ⟨ov3,cl,V⟩
def Z6c{a0:List (List Bool)}{a1:Int}{a2:Int}(oa0:(SzL 24 (SzL 1 (λ_=>True))) a0):Tot (Hp a0 a1 a2) (λr=>True):=by
 apply tZ;have lb_a0:=oa0.1;dsimp only[Hq,LT.den];apply tD<;>intro h1
 .apply tD<;>intro h2
  .have q1:=oa0.1;apply tD<;>intro h3
   .refine Tot.ix λx1 h4=>?_;have oh4:(SzL 1 (λ_=>True)) x1:=oa0.2 x1 h4.1;have q2:=oh4.1;apply tD<;>intro h5
    .exact Tot.ix λx2 h6=>tR trivial
    exact tR aa
   exact tR aa
  exact tR aa
 exact tR aa
abbrev Y1(a0:List Int)(a1:List (List Bool))(r:(List Int)×(List (List Bool))):Prop:=(r.1.length=a0.length)/\(r.2.length=a0.length)/\(RWS a0.length r.2)
def Y2(a0:List Int)(a1:List (List Bool)):jH->Prop
 |.L0 v1 E0 v5 E1 v17 v18=>(E0=a0)/\(v1=a1)/\((SzL 24 (SzL 1 (λ_=>True))) v1)/\((SzL 8 (λ_=>True)) E0)/\((SzL 24 (SzL 1 (λ_=>True))) E1)/\(0<=v18)/\(v5=(E0.length:Int))/\((E1.length:Int)=v5)/\(E0.length<=16448)/\(RWV E0.length E1 v18)/\(v17=v5)
 |.L1 v1 E0 v5 E1 v7 v17 v18 v26 v27=>(E0=a0)/\(v1=a1)/\((SzL 24 (SzL 1 (λ_=>True))) v1)/\((SzL 8 (λ_=>True)) E0)/\((SzL 24 (SzL 1 (λ_=>True))) E1)/\(0<=v27)/\(0<=v18)/\(v18<v17)/\(v5=(E0.length:Int))/\((E1.length:Int)=v5)/\(E0.length<=16448)/\(RWV E0.length E1 (v18+1))/\(v17=v5)/\(v18<v17)/\(v7=v18)/\(v26=v5)
 |.L2 E0 v5 E1 v48 v49=>(E0=a0)/\((SzL 8 (λ_=>True)) E0)/\((SzL 24 (SzL 1 (λ_=>True))) E1)/\(0<=v49)/\(v5=(E0.length:Int))/\((E1.length:Int)=v5)/\(E0.length<=16448)/\(RWS E0.length E1)/\(v48=v5)
 |.L3 E0 v5 E1 v9 v48 v49 v52 v53=>(E0=a0)/\((SzL 8 (λ_=>True)) E0)/\((SzL 24 (SzL 1 (λ_=>True))) E1)/\(0<=v53)/\(0<=v49)/\(v49<v48)/\(v5=(E0.length:Int))/\((E1.length:Int)=v5)/\(E0.length<=16448)/\(RWS E0.length E1)/\(v48=v5)/\(v52=v5)/\(v9=v49)/\(v49<v48)
 |.L4 E0 v5 E1 v9 v10 v48 v49 v52 v53 v56 v57=>(E0=a0)/\((SzL 8 (λ_=>True)) E0)/\((SzL 24 (SzL 1 (λ_=>True))) E1)/\(0<=v57)/\(0<=v49)/\(0<=v53)/\(v49<v48)/\(v53<v52)/\(v5=(E0.length:Int))/\((E1.length:Int)=v5)/\(E0.length<=16448)/\(RWS E0.length E1)/\(v48=v5)/\(v52=v5)/\(v9=v49)/\(v49<v48)/\(v56=v5)/\(v10=v53)/\(v53<v52)
def Hr:jH->M6
 |.L0 v1 E0 v5 E1 v17 v18=>(3,(v17-v18).toNat,1000000,0,0,0)
 |.L1 v1 E0 v5 E1 v7 v17 v18 v26 v27=>(3,(v17-v18).toNat,1,(v26-v27).toNat,1000000,0)
 |.L2 E0 v5 E1 v48 v49=>(1,(v48-v49).toNat,1000000,0,0,0)
 |.L3 E0 v5 E1 v9 v48 v49 v52 v53=>(1,(v48-v49).toNat,1,(v52-v53).toNat,1000000,0)
 |.L4 E0 v5 E1 v9 v10 v48 v49 v52 v53 v56 v57=>(1,(v48-v49).toNat,1,(v52-v53).toNat,1,(v56-v57).toNat)
def Y3{a0:List Int}{a1:List (List Bool)}(oa0:(SzL 8 (λ_=>True)) a0)(oa1:(SzL 24 (SzL 1 (λ_=>True))) a1)(h0:a0.length<=16448):Tot (Hs a0 a1) (Y1 a0 a1):=by
 apply Tot.rn (Y2 a0 a1) Hr
 .have lb_a0:=oa0.1;have lb_a1:=oa1.1;dsimp only[Ht,LT.den];have q1:=oa0.1;refine tB (Tot.mk) λx1 h1=>?_;have lh1:=h1.1;exact tL ⟨rfl,rfl,oa1,oa0,⟨lo,λe he=>by rw[h1.2 e he];exact SzL.nil⟩,cl,cl,cl,cl,tk6,cl⟩ kp
 intro s hs;cases s with
 |L0 v1 E0 v5 E1 v17 v18=>
  obtain⟨al0,al1,ov1,O0,O1,cv18,i0,i1,i2,i3,i4⟩:=hs;have lb_v1:=ov1.1;have lb_b30000000:=O0.1;have lb_b30000001:=O1.1;subst al0;subst al1;dsimp only[lC,Hu,LT.den];apply tD<;>intro h1
  .refine tB (Tot.mk) λx1 h2=>?_;have lh2:=h2.1;refine Tot.ix λx2 h3=>?_;have oh3:(SzL 1 (λ_=>True)) x2:=O1.2 x2 h3.1;have mh3:=h3.2;(first|have wh3:=Z3r (by assumption:RWS _ E1) mh3|have wh3:=pW (by assumption:RWV _ E1 _) O mh3|skip);have mh3:=h3.2;refine tB (Tot.set O O) λx3 h4=>?_;have lh4:=h4.1;exact tL ⟨rfl,rfl,ov1,O0,⟨lo,λe he=>(h4.2.1 e he).elim (λw=>by rw[w];exact SzL.tr) (O1.2 e)⟩,cl,cl,cl,cl,cl,cl,tk6,cs⟩ kp
  exact Hv
 |L1 v1 E0 v5 E1 v7 v17 v18 v26 v27=>
  obtain⟨al0,al1,ov1,O0,O1,cv27,cv18,bd7,i0,i1,i2,i3,i4,i5,i6,i7⟩:=hs;have lb_v1:=ov1.1;have lb_b30000000:=O0.1;have lb_b30000001:=O1.1;subst al0;subst al1;dsimp only[lC,Hw,LT.den];apply tD<;>intro h1
  .refine Tot.ix λx1 h2=>?_;have oh2:(SzL 1 (λ_=>True)) x1:=O1.2 x1 h2.1;have mh2:=h2.2;(first|have wh2:=Z3r (by assumption:RWS _ E1) mh2|have wh2:=pW (by assumption:RWV _ E1 _) O mh2|skip);have mh2:=h2.2;refine Tot.ix λx2 h3=>?_;have mh3:=h3.2;refine Tot.ix λx3 h4=>?_;have mh4:=h4.2;refine tB (Z6c ov1) λx4 h5=>Tot.ix λx5 h6=>?_;have mh6:=h6.2;refine tB (Tot.setM) λx6 h7=>?_;have lh7:x6.length=E1.length:=by rw[h7,gq]
   have q1:=wr (v27+1);exact tL ⟨rfl,rfl,ov1,O0,SzL.setM h7 O1 oh2,cl,cl,cl,cl,cl,cl,tk6,cs⟩ kp
  have q1:=wr (v18+1);exact tL ⟨rfl,rfl,ov1,O0,O1,cl,cl,cl,cl,tk6,cl⟩ kp
 |L2 E0 v5 E1 v48 v49=>
  obtain⟨al0,O0,O1,cv49,i0,i1,i2,i3,i4⟩:=hs;have lb_b30000000:=O0.1;have lb_b30000001:=O1.1;subst al0;dsimp only[lC,Hx,LT.den];apply tD<;>intro h1
  .exact Hy
  exact tR ⟨cl,cl,V⟩
 |L3 E0 v5 E1 v9 v48 v49 v52 v53=>
  obtain⟨al0,O0,O1,cv53,cv49,bd5,i0,i1,i2,i3,i4,i5,i6,i7⟩:=hs;have lb_b30000000:=O0.1;have lb_b30000001:=O1.1;subst al0;dsimp only[lC,Hz,LT.den];apply tD<;>intro h1
  .exact HA
  have q1:=wr (v49+1);exact Hv
 |L4 E0 v5 E1 v9 v10 v48 v49 v52 v53 v56 v57=>
  obtain⟨al0,O0,O1,cv57,cv49,cv53,bd6,bd7,i0,i1,i2,i3,i4,i5,i6,i7,i8,i9,i10⟩:=hs;have lb_b30000000:=O0.1;have lb_b30000001:=O1.1;subst al0;dsimp only[lC,HB,LT.den];apply tD<;>intro h1
  .refine Tot.ix λx1 h2=>?_;have oh2:(SzL 1 (λ_=>True)) x1:=O1.2 x1 h2.1;have mh2:=h2.2;(first|have wh2:=Z3r (by assumption:RWS _ E1) mh2|have wh2:=pW (by assumption:RWV _ E1 _) O mh2|skip);have mh2:=h2.2;refine Tot.ix λx2 h3=>?_;have mh3:=h3.2;apply tF<;>intro h4
   .refine Tot.ix λx3 h5=>?_;have oh5:(SzL 1 (λ_=>True)) x3:=O1.2 x3 h5.1;have mh5:=h5.2;(first|have wh5:=Z3r (by assumption:RWS _ E1) mh5|have wh5:=pW (by assumption:RWV _ E1 _) O mh5|skip);have mh5:=h5.2;refine Tot.ix λx4 h6=>?_;have mh6:=h6.2;apply tF<;>intro h7
    .refine Tot.ix λx5 h8=>?_;have oh8:(SzL 1 (λ_=>True)) x5:=O1.2 x5 h8.1;have mh8:=h8.2;(first|have wh8:=Z3r (by assumption:RWS _ E1) mh8|have wh8:=pW (by assumption:RWV _ E1 _) O mh8|skip);have mh8:=h8.2;refine Tot.ix λx6 h9=>?_;have mh9:=h9.2;refine tB (Tot.setM) λx7 h10=>?_;have lh10:x7.length=E1.length:=by rw[h10,gq]
     have q1:=wr (v57+1);exact tL ⟨rfl,O0,SzL.setM h10 O1 oh8,cl,cl,cl,cl,cl,cl,cl,cl,tk34,cs⟩ kp
    exact HC
   exact HC
  have q1:=wr (v53+1);exact Hy
def Z5s{a0:Int}{a1:Int}{a2:List Int}{a3:List (List Bool)}(oa2:(SzL 8 (λ_=>True)) a2)(oa3:(SzL 24 (SzL 1 (λ_=>True))) a3)(h0:a3.length=a2.length)(h1:RWS a2.length a3):Tot (HD a0 a1 a2 a3) (λr=>True):=by
 apply tZ;have lb_a2:=oa2.1;have lb_a3:=oa3.1;dsimp only[HE,LT.den];refine tB (tP oa2) λx1 h1=>?_;have eh1_0:=h1.1;have eh1_1:=h1.2.1;have eh1_2:=h1.2.2;refine tB (tP oa2) λx2 h2=>?_;have eh2_0:=h2.1;have eh2_1:=h2.2.1;have eh2_2:=h2.2.2;apply tD<;>intro h3
 .apply tD<;>intro h4
  .refine Tot.ix λx3 h5=>?_;have oh5:(SzL 1 (λ_=>True)) x3:=oa3.2 x3 h5.1;have mh5:=h5.2;have wh5:=Z3r (by assumption:RWS _ a3) mh5;have mh5:=h5.2;refine Tot.ix λx4 h6=>?_;have mh6:=h6.2;exact tR aa
  exact tR aa
 exact tR aa
def Y4{a0:Int}{b0:Int}{b1:List (List Bool)}{b2:(List Int)×(List (List Bool))}(ob1:(SzL 24 (SzL 1 (λ_=>True))) b1)(h0:b2.1.length<=16448)(h1:b2.2.length=b2.1.length)(h2:RWS b2.1.length b2.2):Tot (HF a0 b0 b1 b2) (λr=>True):=by
 apply tZ;have lb_b1:=ob1.1;dsimp only[HG,LT.den];apply tN<;>intro h1
 .refine tB (Z6c ob1) λx1 h2=>?_;apply tF<;>intro h3
  .exact tB (Z5s szx szx cl V) λx2 h4=>tR trivial
  exact tR aa
 exact tR aa
abbrev Y5(a0:List Int)(b0:Int)(b1:List (List Bool))(b2:(List Int)×(List (List Bool)))(r:Int×Int×(List (List Bool))×((List Int)×(List (List Bool)))):Prop:=((SzL 24 (SzL 1 (λ_=>True))) r.2.2.1)/\(r.2=(b0,b1,b2))
def Y6(a0:List Int)(b0:Int)(b1:List (List Bool))(b2:(List Int)×(List (List Bool))):pX->Prop
 |.L0 v0 c0 c1 c2 v7 v8=>(v0=a0)/\(c0=b0)/\(c1=b1)/\(c2=b2)/\((SzL 8 (λ_=>True)) v0)/\((SzL 24 (SzL 1 (λ_=>True))) c1)/\(0<=v8)/\(v7=(v0.length:Int))/\(c2.1.length<=16448)/\(c2.2.length=c2.1.length)/\(RWS c2.1.length c2.2)
def HH:pX->M6
 |.L0 v0 c0 c1 c2 v7 v8=>(1,(v7-v8).toNat,1000000,0,0,0)
def Y7{a0:List Int}{b0:Int}{b1:List (List Bool)}{b2:(List Int)×(List (List Bool))}(oa0:(SzL 8 (λ_=>True)) a0)(ob1:(SzL 24 (SzL 1 (λ_=>True))) b1)(h0:b2.1.length<=16448)(h1:b2.2.length=b2.1.length)(h2:RWS b2.1.length b2.2):Tot (HJ a0 b0 b1 b2) (Y5 a0 b0 b1 b2):=by
 apply Tot.rn (Y6 a0 b0 b1 b2) HH
 .have lb_a0:=oa0.1;have lb_b1:=ob1.1;dsimp only[HK,LT.den];have q1:=oa0.1;exact tL ⟨rfl,rfl,rfl,rfl,oa0,ob1,cl,cl,cl,cl,dX⟩ tk76
 rintro⟨v0,c0,c1,c2,v7,v8⟩ ⟨al0,al1,al2,al3,ov0,oc1,cv8,i0,i1,i2,i3⟩;have lb_v0:=ov0.1;have lb_c1:=oc1.1;subst al0;subst al1;subst al2;subst al3;dsimp only[zl,HL,LT.den];apply tD<;>intro h1
 .refine Tot.ix λx1 h2=>tB (Y4 oc1 cl cl dX) λx2 h3=>?_;apply tF<;>intro h4
  .exact tR ⟨oc1,dz⟩
  have q1:=wr (v8+1);exact tL ⟨rfl,rfl,rfl,rfl,ov0,oc1,cl,cl,cl,cl,dX⟩ tk76
 exact tR ⟨oc1,dz⟩
def Y8{a0:List Int}{b0:Int}{b1:List (List Bool)}{b2:(List Int)×(List (List Bool))}(oa0:(SzL 8 (λ_=>True)) a0)(ob1:(SzL 24 (SzL 1 (λ_=>True))) b1)(h0:b2.1.length<=16448)(h1:b2.2.length=b2.1.length)(h2:RWS b2.1.length b2.2):Tot (HM a0 b0 b1 b2) (λr=>((SzL 24 (SzL 1 (λ_=>True))) r.2.2.1)/\(r.2=(b0,b1,b2))):=by apply tZ;have lb_a0:=oa0.1;have lb_b1:=ob1.1;dsimp only[HN,LT.den];refine tB (Y7 oa0 ob1 cl cl dX) λx1 h1=>?_;have eh1_1:=h1.2;exact tR ⟨h1.1,dz⟩
abbrev Y9(a0:List Int)(a1:List (List Bool))(r:List Int):Prop:=((SzL 8 (λ_=>True)) r)/\(r.length<=16448)/\(SUB r a0)
def Za(a0:List Int)(a1:List (List Bool)):pY->Prop
 |.L0 E0 v5 E1 v7 v16 v17 v18=>((SzL 24 (SzL 1 (λ_=>True))) E0)/\((SzL 8 (λ_=>True)) v5)/\((SzL 8 (λ_=>True)) v7)/\((SzL 8 (λ_=>True)) v16)/\(0<=v18)/\(v5.length<=16448)/\(v17=(v16.length:Int))/\(v16.length<=16448)/\(v7.length<=v18.toNat)/\(v18<=v17)/\(SUB v16 a0)/\(SUB v7 a0)/\(E1.1.length<=16448)/\(E1.2.length=E1.1.length)/\(RWS E1.1.length E1.2)
def HO:pY->M6
 |.L0 E0 v5 E1 v7 v16 v17 v18=>(1,(v17-v18).toNat,1000000,0,0,0)
def Zb{a0:List Int}{a1:List (List Bool)}(oa0:(SzL 8 (λ_=>True)) a0)(oa1:(SzL 24 (SzL 1 (λ_=>True))) a1)(h0:a0.length<=16448):Tot (Z78 a0 a1) (Y9 a0 a1):=by
 apply Tot.rn (Za a0 a1) HO
 .have lb_a0:=oa0.1;have lb_a1:=oa1.1;dsimp only[HP,LT.den];refine tB (Y0 oa0) λx1 h1=>?_;have eh1_1:=h1.2.1;have eh1_2:=h1.2.2;refine tB (Y3 h1.1 oa1 cl) λx2 h2=>?_;have eh2_0:=h2.1;have eh2_1:=h2.2.1;have eh2_2:=h2.2.2;have q1:=h1.1.1;exact tL ⟨oa1,h1.1,SzL.nil,h1.1,cl,cl,cl,cl,cl,cl,V,tk33,cl,cl,tk85⟩ zm
 rintro⟨E0,v5,E1,v7,v16,v17,v18⟩ ⟨O0,ov5,ov7,ov16,cv18,i0,i1,i2,i3,i4,i5,i6,i7,i8,i9⟩;have lb_b30000000:=O0.1;have lb_v5:=ov5.1;have lb_v7:=ov7.1;have lb_v16:=ov16.1;dsimp only[Z1l,HQ,LT.den];apply tD<;>intro h1
 .refine Tot.ix λx1 h2=>?_;have mh2:=h2.2;refine tB (Y8 ov5 O0 cl cl dX) λx2 h3=>?_;have eh3_1:=h3.2;have mh3:v16[v18.toNat]?=some x2.2.1:=by rw[eh3_1];assumption
  have uh3:x2.2.2.2.1.length<=16448:=jI
  have wh3:x2.2.2.2.2.length=x2.2.2.2.1.length:=jI
  have zh3:RWS x2.2.2.2.1.length x2.2.2.2.2:=jI
  apply tO<;>intro h4
  .have q1:=ov7.1;refine Tot.ap λx3 h5=>?_;have lh5:=db h5;have q2:=wr (v18+1);exact tL ⟨h3.1,ov5,SzL.tr,ov16,cl,cl,cl,cl,cl,cl,V,tk33,cl,cl,tk85⟩ zm
  have q1:=wr (v18+1);exact tL ⟨h3.1,ov5,ov7,ov16,cl,cl,cl,cl,cl,cl,V,tk33,cl,cl,tk85⟩ zm
 exact tR ⟨ov7,cl,V⟩
def Z9d{a0:List Int}{a1:Int}(oa0:(SzL 8 (λ_=>True)) a0)(h0:0<=a1):Tot (HR a0 a1) (λr=>True):=by
 apply tZ;have lb_a0:=oa0.1;dsimp only[HS,LT.den];have q1:=oa0.1;apply tD<;>intro h1
 .exact Tot.ix λx1 h2=>tR trivial
 exact tR aa
def Zc(a0:List Int)(a1:List Int)(a2:List (List Bool)):pZ->Prop
 |.L0 v1 v7 v14 v15 v16=>(v1=a1)/\((SzL 8 (λ_=>True)) v1)/\((SzL 8 (λ_=>True)) v14)/\(0<=v16)/\(POS a0)/\(v15=(v14.length:Int))/\(v14.length<=16448)/\(SUB v14 a0)/\(v7<0\/v7∈a0)
def Z11:pZ->M6
 |.L0 v1 v7 v14 v15 v16=>(1,(v15-v16).toNat,1000000,0,0,0)
def Zd{a0:List Int}{a1:List Int}{a2:List (List Bool)}(oa0:(SzL 8 (λ_=>True)) a0)(oa1:(SzL 8 (λ_=>True)) a1)(oa2:(SzL 24 (SzL 1 (λ_=>True))) a2)(h0:a0.length<=16448)(h1:POS a0):Tot (HT a0 a1 a2) (λr=>(r<0\/r∈a0)):=by
 apply Tot.rn (Zc a0 a1 a2) Z11
 .have lb_a0:=oa0.1;have lb_a1:=oa1.1;have lb_a2:=oa2.1;dsimp only[HU,LT.den];refine tB (Zb oa0 oa2 cl) λx1 h1=>?_;have eh1_1:=h1.2.1;have eh1_2:=h1.2.2;have q1:=h1.1.1;exact tL ⟨rfl,oa1,h1.1,cl,V,cl,cl,V,tk71⟩ HV
 rintro⟨v1,v7,v14,v15,v16⟩ ⟨al0,ov1,ov14,cv16,i0,i1,i2,i3,i4⟩;have lb_v1:=ov1.1;have lb_v14:=ov14.1;subst al0;dsimp only[Z4o,HW,LT.den];apply tD<;>intro h1
 .refine Tot.ix λx1 h2=>?_;have mh2:=h2.2;have zh2:=Ze (by assumption:POS a0) (by assumption:SUB v14 a0) mh2;have mh2:=h2.2;apply tD<;>intro h3
  .exact p9
  refine tB (Z9d ov1 cl) λx2 h4=>tB (Z9d ov1 cl) λx3 h5=>?_;apply tD<;>intro h6
  .exact p9
  apply tE<;>intro h7
  .apply tD<;>intro h8
   .exact p9
   exact p9
  exact p9
 exact tR V
abbrev Zf(b0:aB)(r:aB):Prop:=(cu r)/\(r.traits.length=r.s.Objects.length)/\(r.dropped.length=r.s.Objects.length)/\(r.done.length=r.forces.length)/\(r.hits.length=r.forces.length)/\(r.s.Objects.length<=2048)/\(r.forces.length<=16448)/\(HI r.s.Objects.length r.hits)/\(r.s=b0.s)/\(r.forces=b0.forces)
def Zg(b0:aB):qa->Prop
 |.L0 c0 v10 v11 v12=>(cu c0)/\((SzL 128 (λ_=>True)) v10)/\(0<=v12)/\(c0.traits.length=c0.s.Objects.length)/\(c0.dropped.length=c0.s.Objects.length)/\(c0.done.length=c0.forces.length)/\(c0.hits.length=c0.forces.length)/\(c0.s.Objects.length<=2048)/\(c0.forces.length<=16448)/\(HI c0.s.Objects.length c0.hits)/\(c0.s=b0.s)/\(c0.forces=b0.forces)/\(v11=(v10.length:Int))/\(v11=(c0.s.Objects.length:Int))
def HX:qa->M6
 |.L0 c0 v10 v11 v12=>(1,(v11-v12).toNat,1000000,0,0,0)
def Zh{b0:aB}(ob0:cu b0)(h0:b0.traits.length=b0.s.Objects.length)(h1:b0.dropped.length=b0.s.Objects.length)(h2:b0.done.length=b0.forces.length)(h3:b0.hits.length=b0.forces.length)(h4:b0.s.Objects.length<=2048)(h5:b0.forces.length<=16448)(h6:HI b0.s.Objects.length b0.hits):Tot (zn b0) (Zf b0):=by
 unfold zn;refine tX (Inv:=(Zg b0)) (μ:=HX) (m:=(1000000,0,0,0,0,0)) ?_ ?_
 .dsimp only[HY,LT.den];have q1:=ob0.1.2.1.1;exact tL ⟨ob0,ob0.1.2.1,cl,cl,cl,cl,cl,cl,cl,bK,cP,cP,cl,cl⟩ tk88
 intro s hs;cases s with
 |L0 c0 v10 v11 v12=>
  obtain⟨oc0,ov10,cv12,i0,i1,i2,i3,i4,i5,i6,i7,i8,i9,i10⟩:=hs;have lb_v10:=ov10.1;show Tot (zo c0 v10 v11 v12).den _;dsimp only[zo,LT.den];refine tD (λh1=>?_) (λh1=>?_)
  .refine tB (tI O O) (λx2 h3=>?_);have mh3:=h3.2;refine tB (tI O O) (λx4 h5=>?_);have oh5:Z0 x4:=oc0.2.2.1.2 x4 h5.1;have mh5:=h5.2;have nh5:=oh5.1;have ah5:=oh5.2.1;have bh5:=oh5.2.2;unfold SzS at nh5;have mh5:=h5.2;refine tE (λh6=>?_) (λh6=>?_)
   .refine tN (λh7=>?_) (λh7=>?_)
    .refine tB (Yr) (λx8 h9=>?_);refine tB (pF) (λx10 h11=>?_);refine tB (pF) (λx12 h13=>?_);refine tB (Tot.set O O) (λx14 h15=>?_);have lh15:=h15.1;refine tB (Tot.set2 O O O) (λx16 h17=>?_);have lh17:=h17.1;refine qw (v12+1) λq18 q19=>?_;exact tL ⟨⟨oc0.1,oc0.2.1,⟨lo,λe he=>(h17.2.1 e he).elim (λw=>by rw[w];exact⟨(by unfold SzS;first|omega|(simp only[bF,bT,cg];omega)),szx,szx⟩) ((show SzL 1 Z0 _ from⟨lo,λe he=>(h15.2.1 e he).elim (λw=>by rw[w];exact⟨oh5.1,oh5.2.1,oh5.2.2⟩) (oc0.2.2.1.2 e)⟩).2 e)⟩,oc0.2.2.2.1,oc0.2.2.2.2.1,oc0.2.2.2.2.2⟩,ov10,cl,cl,cl,cl,cl,cl,cl,bK,cP,cP,cl,cl⟩ tk88
    refine qw (v12+1) λq20 q21=>?_;exact H0
   refine qw (v12+1) λq22 q23=>?_;exact H0
  exact tR ⟨oc0,cl,cl,cl,cl,cl,cl,bK,cP,cP⟩
def Zi(b0:aB)(a1:Int)(a2:Int):qb->Prop
 |.L0 v1 v2 E1 v18 v19 v20=>(v1=a1)/\(v2=a2)/\(fq E1)/\((SzL 176 Z5) v18)/\(0<=v20)/\(b0.traits.length=b0.s.Objects.length)/\(b0.dropped.length=b0.s.Objects.length)/\(b0.done.length=b0.forces.length)/\(b0.hits.length=b0.forces.length)/\(b0.s.Objects.length<=2048)/\(b0.forces.length<=16448)/\(HI b0.s.Objects.length b0.hits)/\(cu b0)/\(0<=v1)/\(v1<(b0.forces.length:Int))/\(v19=(v18.length:Int))
def H1:qb->M6
 |.L0 v1 v2 E1 v18 v19 v20=>(1,(v19-v20).toNat,1000000,0,0,0)
def Zj{b0:aB}{a1:Int}{a2:Int}(ob0:cu b0)(h0:b0.traits.length=b0.s.Objects.length)(h1:b0.dropped.length=b0.s.Objects.length)(h2:b0.done.length=b0.forces.length)(h3:b0.hits.length=b0.forces.length)(h4:b0.s.Objects.length<=2048)(h5:b0.forces.length<=16448)(h6:HI b0.s.Objects.length b0.hits)(h7:0<=a1)(h8:a1<(b0.forces.length:Int)):Tot (H2 b0 a1 a2) (λr=>True):=by
 apply Tot.rn (Zi b0 a1 a2) H1
 .dsimp only[H3,LT.den];refine Tot.ix λx1 h1=>?_;have oh1:fq x1:=ob0.2.1.2 x1 h1.1;have mh1:=h1.2;have q1:=oh1.2.2.1;exact tL ⟨rfl,rfl,oh1,oh1.2.2,cl,cl,cl,cl,cl,cl,cl,bK,V,cs⟩ tk86
 rintro⟨v1,v2,E1,v18,v19,v20⟩ ⟨al0,al1,O1,ov18,cv20,i0,i1,i2,i3,i4,i5,i6,i7,i8,i9,i10⟩;have lb_v18:=ov18.1;subst al0;subst al1;dsimp only[zp,H4,LT.den];apply tD<;>intro h1
 .refine Tot.ix λx1 h2=>?_;have oh2:Z5 x1:=ov18.2 x1 h2.1;have mh2:=h2.2;apply tE<;>intro h3
  .refine tB (ue) λx2 h4=>?_;apply tE<;>intro h5
   .refine tB (Z0p oh2.2) λx3 h6=>?_;apply tF<;>intro h7
    .exact tR aa
    exact zq
   exact zq
  exact zq
 apply tO<;>intro h2
 .refine Tot.ix λx1 h3=>?_;have mh3:=h3.2;apply tO<;>intro h4
  .apply tE<;>intro h5
   .exact tR aa
   exact tB (Z0p O1.2.1) λx2 h6=>tR trivial
  exact tR aa
 exact tR aa
def H5{b0:aB}{a1:Int}(ob0:cu b0)(h0:b0.traits.length=b0.s.Objects.length)(h1:b0.dropped.length=b0.s.Objects.length)(h2:b0.done.length=b0.forces.length)(h3:b0.hits.length=b0.forces.length)(h4:b0.s.Objects.length<=2048)(h5:b0.forces.length<=16448)(h6:HI b0.s.Objects.length b0.hits)(h7:0<=a1)(h8:a1<(b0.forces.length:Int)):Tot (H6 b0 a1) (λr=>True):=by
 apply tZ;dsimp only[H7,LT.den];refine Tot.ix λx1 h1=>?_;have oh1:fq x1:=ob0.2.1.2 x1 h1.1;apply tF<;>intro h2
 .exact tR aa
 refine Tot.ix λx2 h3=>?_;apply tF<;>intro h4
 .exact tR aa
 refine tB (Gx ob0.1) λx3 h5=>?_;have eh5_0:=h5.1;have eh5_1:=h5.2.1;have eh5_2:=h5.2.2;apply tD<;>intro h6
 .exact tR aa
 exact Tot.ix λx4 h7=>tR trivial
def zr{b0:aB}{a1:Int}(ob0:cu b0)(h0:b0.traits.length=b0.s.Objects.length)(h1:b0.dropped.length=b0.s.Objects.length)(h2:b0.done.length=b0.forces.length)(h3:b0.hits.length=b0.forces.length)(h4:b0.s.Objects.length<=2048)(h5:b0.forces.length<=16448)(h6:HI b0.s.Objects.length b0.hits)(h7:0<=a1)(h8:a1<(b0.forces.length:Int)):Tot (H8 b0 a1) (λr=>True):=by
 apply tZ;dsimp only[H9,LT.den];refine Tot.ix λx1 h1=>?_;have oh1:fq x1:=ob0.2.1.2 x1 h1.1;refine tB (Gx ob0.1) λx2 h2=>?_;have eh2_0:=h2.1;have eh2_1:=h2.2.1;have eh2_2:=h2.2.2;apply tO<;>intro h3
 .apply tD<;>intro h4
  .refine Tot.ix λx3 h5=>?_;have oh5:Z0 x3:=ob0.2.2.1.2 x3 h5.1;exact tR aa
  exact tR aa
 exact tR aa
abbrev Zk(b0:aB)(a1:Int)(r:List Int):Prop:=((SzL 8 (λ_=>True)) r)/\(r.length<=b0.s.Objects.length)/\(INR b0.s.Objects.length r)
def Zl(b0:aB)(a1:Int):qc->Prop
 |.L0 E1 v6 v7 v42 v43 v44=>(fq E1)/\((SzL 8 (λ_=>True)) v7)/\((SzL 128 (λ_=>True)) v42)/\(0<=v44)/\(b0.traits.length=b0.s.Objects.length)/\(b0.dropped.length=b0.s.Objects.length)/\(b0.done.length=b0.forces.length)/\(b0.hits.length=b0.forces.length)/\(b0.s.Objects.length<=2048)/\(b0.forces.length<=16448)/\(HI b0.s.Objects.length b0.hits)/\(cu b0)/\(v43=(v42.length:Int))/\(v43=(b0.s.Objects.length:Int))/\(v7.length<=v44.toNat)/\(v44<=v43)/\(INR b0.s.Objects.length v7)
def Ia:qc->M6
 |.L0 E1 v6 v7 v42 v43 v44=>(1,(v43-v44).toNat,1000000,0,0,0)
def Ib{b0:aB}{a1:Int}(ob0:cu b0)(h0:b0.traits.length=b0.s.Objects.length)(h1:b0.dropped.length=b0.s.Objects.length)(h2:b0.done.length=b0.forces.length)(h3:b0.hits.length=b0.forces.length)(h4:b0.s.Objects.length<=2048)(h5:b0.forces.length<=16448)(h6:HI b0.s.Objects.length b0.hits)(h7:0<=a1)(h8:a1<(b0.forces.length:Int)):Tot (Ic b0 a1) (Zk b0 a1):=by
 apply Tot.rn (Zl b0 a1) Ia
 .dsimp only[Ie,LT.den];refine Tot.ix λx1 h1=>?_;have mh1:=h1.2;apply tF<;>intro h2
  .refine Tot.ix λx2 h3=>?_;have oh3:(SzL 8 (λ_=>True)) x2:=ob0.2.2.2.2.2.2 x2 h3.1;have mh3:=h3.2;exact tR ⟨oh3,tk73,tk64⟩
  refine tB (H5 ob0 cl cl cl cl cl cl bK cl cl) λx2 h3=>?_;apply tO<;>intro h4
  .exact tR ⟨SzL.nil,tk73,tk64⟩
  refine Tot.ix λx3 h5=>?_;have oh5:fq x3:=ob0.2.1.2 x3 h5.1;have mh5:=h5.2;refine tB (zr ob0 cl cl cl cl cl cl bK cl cl) λx4 h6=>?_;have q1:=ob0.1.2.1.1;exact tL ⟨oh5,SzL.nil,ob0.1.2.1,cl,cl,cl,cl,cl,cl,cl,bK,V,cl,cl,cl,cl,tk48⟩ tk83
 rintro⟨E1,v6,v7,v42,v43,v44⟩ ⟨O1,ov7,ov42,cv44,i0,i1,i2,i3,i4,i5,i6,i7,i8,i9,i10,i11,i12⟩;have lb_v7:=ov7.1;have lb_v42:=ov42.1;dsimp only[zt,If,LT.den];apply tD<;>intro h1
 .refine Tot.ix λx1 h2=>?_;have mh2:=h2.2;apply tE<;>intro h3
  .apply tF<;>intro h4
   .refine tB (tQ O1.1) λx2 h5=>?_;apply tF<;>intro h6
    .have q1:=ov7.1;refine Tot.ap λx3 h7=>?_;have lh7:=db h7;exact zu
    apply tO<;>intro h7
    .refine Tot.ix λx3 h8=>?_;have oh8:Z0 x3:=(asz:cu b0).2.2.1.2 x3 h8.1;have mh8:=h8.2;refine tB (Z9c oh8 O1.2.1) λx4 h9=>?_;apply tF<;>intro h10
     .have q1:=ov7.1;refine Tot.ap λx5 h11=>?_;have lh11:=db h11;exact zu
     exact qd
    exact qd
   apply tO<;>intro h5
   .refine Tot.ix λx2 h6=>?_;have oh6:Z0 x2:=(asz:cu b0).2.2.1.2 x2 h6.1;have mh6:=h6.2;refine tB (Z9c oh6 O1.2.1) λx3 h7=>?_;apply tF<;>intro h8
    .have q1:=ov7.1;refine Tot.ap λx4 h9=>?_;have lh9:=db h9;exact zu
    exact qd
   exact qd
  exact qd
 exact tR ⟨ov7,tk73,tk64⟩
def Zm(b0:aB)(a1:Int)(a2:Int):qe->Prop
 |.L0 v1 v2 E1 v8 v23 v24 v25=>(v1=a1)/\(v2=a2)/\(fq E1)/\((SzL 8 (λ_=>True)) v8)/\((SzL 176 Z5) v23)/\(0<=v25)/\(b0.traits.length=b0.s.Objects.length)/\(b0.dropped.length=b0.s.Objects.length)/\(b0.done.length=b0.forces.length)/\(b0.hits.length=b0.forces.length)/\(b0.s.Objects.length<=2048)/\(b0.forces.length<=16448)/\(HI b0.s.Objects.length b0.hits)/\(cu b0)/\(0<=v1)/\(v1<(b0.forces.length:Int))/\(v24=(v23.length:Int))/\(v24=(v8.length:Int))/\(v24=(E1.Mods.length:Int))/\(b0.forces[v1.toNat]?=some E1)
def Ig:qe->M6
 |.L0 v1 v2 E1 v8 v23 v24 v25=>(1,(v24-v25).toNat,1000000,0,0,0)
def Ih{b0:aB}{a1:Int}{a2:Int}(ob0:cu b0)(h0:b0.traits.length=b0.s.Objects.length)(h1:b0.dropped.length=b0.s.Objects.length)(h2:b0.done.length=b0.forces.length)(h3:b0.hits.length=b0.forces.length)(h4:b0.s.Objects.length<=2048)(h5:b0.forces.length<=16448)(h6:HI b0.s.Objects.length b0.hits)(h7:0<=a1)(h8:a1<(b0.forces.length:Int)):Tot (Ii b0 a1 a2) (λr=>((SzL 8 (λ_=>True)) r)/\(ML b0.forces a1 r)):=by
 apply Tot.rn (Zm b0 a1 a2) Ig
 .dsimp only[Ij,LT.den];refine Tot.ix λx1 h1=>?_;have oh1:fq x1:=ob0.2.1.2 x1 h1.1;have mh1:=h1.2;have q1:=oh1.2.2.1;refine tB (Tot.mk) λx2 h2=>?_;have lh2:=h2.1;exact tL ⟨rfl,rfl,oh1,SzL.tr,oh1.2.2,cl,cl,cl,cl,cl,cl,cl,bK,V,cl,cl,cl,cl,cl,V⟩ tk87
 rintro⟨v1,v2,E1,v8,v23,v24,v25⟩ ⟨al0,al1,O1,ov8,ov23,cv25,i0,i1,i2,i3,i4,i5,i6,i7,i8,i9,i10,i11,i12,i13⟩;have lb_v8:=ov8.1;have lb_v23:=ov23.1;subst al0;subst al1;dsimp only[zv,Ik,LT.den];apply tD<;>intro h1
 .refine Tot.ix λx1 h2=>?_;have oh2:Z5 x1:=ov23.2 x1 h2.1;have mh2:=h2.2;apply tE<;>intro h3
  .refine tB (ue) λx2 h4=>?_;apply tE<;>intro h5
   .refine tB (zr (asz:cu b0) cl cl cl cl cl cl bK cl cl) λx3 h6=>tB (GR b0.s b0.traits x3 E1.Source x1.Filter (asz:cu b0).1 (asz:cu b0).2.2.1 oh2.2) λx4 h7=>?_;have eh7_1:=h7.2;refine Tot.ix λx5 h8=>?_;have mh8:=h8.2;refine tB (Tot.set O O) λx6 h9=>?_;have lh9:=h9.1;have q1:=wr (v25+1);exact tL ⟨rfl,rfl,O1,SzL.tr,ov23,cl,cl,cl,cl,cl,cl,cl,bK,V,cl,cl,cl,cl,cl,V⟩ tk87
   exact Il
  exact Il
 exact tR ⟨ov8,(by exact ml_i V O)⟩
def Im{b0:aB}{a1:Int}{a2:Int}(ob0:cu b0)(h0:b0.traits.length=b0.s.Objects.length)(h1:b0.dropped.length=b0.s.Objects.length)(h2:b0.done.length=b0.forces.length)(h3:b0.hits.length=b0.forces.length)(h4:b0.s.Objects.length<=2048)(h5:b0.forces.length<=16448)(h6:HI b0.s.Objects.length b0.hits)(h7:0<=a1)(h8:a1<(b0.forces.length:Int)):Tot (Io b0 a1 a2) (λr=>(Z4y r)):=by apply tZ;dsimp only[Ip,LT.den];refine tB (H5 ob0 cl cl cl cl cl cl bK cl cl) λx1 h1=>tB (Ib ob0 cl cl cl cl cl cl bK cl cl) λx2 h2=>?_;have eh2_1:=h2.2.1;have eh2_2:=h2.2.2;refine tB (Ih ob0 cl cl cl cl cl cl bK cl cl) λx3 h3=>?_;have eh3_1:=h3.2;exact tR ⟨h2.1,h3.1⟩
def Zn{b0:aB}(ob0:cu b0):Tot (Iq b0) (λr=>(cu r)/\(r=b0)):=by apply tZ;dsimp only[Ir,LT.den];have q1:=ob0.2.2.1.1;refine tB (tA Is aS) λx1 h1=>tB (GZ ob0.2.2.2.1) λx2 h2=>?_;have eh2_1:=h2.2;refine tB (GZ ob0.2.2.2.2.1) λx3 h3=>?_;have eh3_1:=h3.2;have q2:=ob0.2.2.2.2.2.1;exact tB (tA Is aS) λx4 h4=>tR ⟨⟨ob0.1,ob0.2.1,ob0.2.2.1,h2.1,h3.1,ob0.2.2.2.2.2⟩,yF⟩
abbrev Zo(b0:aB)(a1:Int)(a2:Int)(r:aB):Prop:=(cu r)/\(r.traits.length=r.s.Objects.length)/\(r.dropped.length=r.s.Objects.length)/\(r.done.length=r.forces.length)/\(r.hits.length=r.forces.length)/\(r.s.Objects.length<=2048)/\(r.forces.length<=16448)/\(HI r.s.Objects.length r.hits)/\(r.s=b0.s)/\(r.forces=b0.forces)
def Zp(b0:aB)(a1:Int)(a2:Int):nw->Prop
 |.L0 c0 v1 v2 v6 v7 v8 v23 v24 v25=>(v1=a1)/\(v2=a2)/\(cu c0)/\((SzL 8 (λ_=>True)) v6)/\((SzL 8 (λ_=>True)) v7)/\((SzL 8 (λ_=>True)) v23)/\(0<=v25)/\(c0.traits.length=c0.s.Objects.length)/\(c0.dropped.length=c0.s.Objects.length)/\(c0.done.length=c0.forces.length)/\(c0.hits.length=c0.forces.length)/\(c0.s.Objects.length<=2048)/\(c0.forces.length<=16448)/\(HI c0.s.Objects.length c0.hits)/\(c0.s=b0.s)/\(c0.forces=b0.forces)/\(0<=v1)/\(v1<(c0.forces.length:Int))/\(v6.length<=c0.s.Objects.length)/\(INR c0.s.Objects.length v6)/\(ML c0.forces v1 v7)/\(v24=(v23.length:Int))/\(INR c0.s.Objects.length v23)
 |.L1 c0 v1 v2 v6 v7 v8 v10 v23 v24 v25 v36 v37 v38=>(v1=a1)/\(v2=a2)/\(cu c0)/\((SzL 8 (λ_=>True)) v6)/\((SzL 8 (λ_=>True)) v7)/\((SzL 8 (λ_=>True)) v23)/\((SzL 176 Z5) v36)/\(0<=v38)/\(0<=v25)/\(v25<v24)/\(c0.traits.length=c0.s.Objects.length)/\(c0.dropped.length=c0.s.Objects.length)/\(c0.done.length=c0.forces.length)/\(c0.hits.length=c0.forces.length)/\(c0.s.Objects.length<=2048)/\(c0.forces.length<=16448)/\(HI c0.s.Objects.length c0.hits)/\(c0.s=b0.s)/\(c0.forces=b0.forces)/\(0<=v1)/\(v1<(c0.forces.length:Int))/\(v6.length<=c0.s.Objects.length)/\(INR c0.s.Objects.length v6)/\(ML c0.forces v1 v7)/\(v24=(v23.length:Int))/\(INR c0.s.Objects.length v23)/\(0<=v10)/\(v10<(c0.s.Objects.length:Int))/\(v37=(v36.length:Int))/\(v37=(v7.length:Int))
def It:nw->M6
 |.L0 c0 v1 v2 v6 v7 v8 v23 v24 v25=>(1,(v24-v25).toNat,1000000,0,0,0)
 |.L1 c0 v1 v2 v6 v7 v8 v10 v23 v24 v25 v36 v37 v38=>(1,(v24-v25).toNat,1,(v37-v38).toNat,1000000,0)
def Iu{b0:aB}{a1:Int}{a2:Int}(ob0:cu b0)(h0:b0.traits.length=b0.s.Objects.length)(h1:b0.dropped.length=b0.s.Objects.length)(h2:b0.done.length=b0.forces.length)(h3:b0.hits.length=b0.forces.length)(h4:b0.s.Objects.length<=2048)(h5:b0.forces.length<=16448)(h6:HI b0.s.Objects.length b0.hits)(h7:0<=a1)(h8:a1<(b0.forces.length:Int)):Tot (Iv b0 a1 a2) (Zo b0 a1 a2):=by
 apply Tot.rn (Zp b0 a1 a2) It
 .dsimp only[Iw,LT.den];refine tB (Ib ob0 cl cl cl cl cl cl bK cl cl) λx1 h1=>?_;have eh1_1:=h1.2.1;have eh1_2:=h1.2.2;refine tB (Ih ob0 cl cl cl cl cl cl bK cl cl) λx2 h2=>?_;have eh2_1:=h2.2;refine tB (zr ob0 cl cl cl cl cl cl bK cl cl) λx3 h3=>?_;have q1:=h1.1.1;exact tL ⟨rfl,rfl,ob0,h1.1,h2.1,h1.1,cl,cl,cl,cl,cl,cl,cl,bK,cP,cP,cl,cl,cl,dX,dX,cl,dX⟩ tk89
 intro s hs;cases s with
 |L0 c0 v1 v2 v6 v7 v8 v23 v24 v25=>
  obtain⟨al0,al1,oc0,ov6,ov7,ov23,cv25,i0,i1,i2,i3,i4,i5,i6,i7,i8,i9,i10,i11,i12,i13,i14,i15⟩:=hs;have lb_v6:=ov6.1;have lb_v7:=ov7.1;have lb_v23:=ov23.1;subst al0;subst al1;dsimp only[uC,Ix,LT.den];apply tD<;>intro h1
  .refine Tot.ix λx1 h2=>?_;have mh2:=h2.2;have zh2:=uD (by assumption:INR _ v23) mh2;have mh2:=h2.2;refine Tot.ix λx2 h3=>?_;have oh3:fq x2:=oc0.2.1.2 x2 h3.1;have mh3:=h3.2;have q1:=oh3.2.2.1;exact tL ⟨rfl,rfl,oc0,ov6,ov7,ov23,oh3.2.2,cl,cl,cl,cl,cl,cl,cl,cl,cl,bK,cP,cP,cl,cl,cl,dX,dX,cl,dX,cl,cl,cl,tk75⟩ tk89
  refine Tot.ix λx1 h2=>?_;have mh2:=h2.2;refine tB (Tot.set O O) λx2 h3=>?_;have lh3:=h3.1;refine Tot.ix λx3 h4=>?_;have oh4:(SzL 8 (λ_=>True)) x3:=oc0.2.2.2.2.2.2 x3 h4.1;have mh4:=h4.2;refine tB (Tot.set O O) λx4 h5=>?_;have lh5:=h5.1;exact tR ⟨⟨oc0.1,oc0.2.1,oc0.2.2.1,oc0.2.2.2.1,SzL.tr,⟨lo,λe he=>(h5.2.1 e he).elim (λw=>by rw[w];exact ov6) (oc0.2.2.2.2.2.2 e)⟩⟩,cl,cl,cl,cl,cl,cl,(by first|assumption|exact Iy|exact Iz (by assumption:(_:Int)=_/\∀y:List Int,y∈_->y=[]).2|exact Zq V V V (by assumption:_/\(∀e:List Int,e∈_->e=_\/e∈_)/\_).2.1),cP,cP⟩
 |L1 c0 v1 v2 v6 v7 v8 v10 v23 v24 v25 v36 v37 v38=>
  obtain⟨al0,al1,oc0,ov6,ov7,ov23,ov36,cv38,cv25,bd9,i0,i1,i2,i3,i4,i5,i6,i7,i8,i9,i10,i11,i12,i13,i14,i15,i16,i17,i18,i19⟩:=hs;have lb_v6:=ov6.1;have lb_v7:=ov7.1;have lb_v23:=ov23.1;have lb_v36:=ov36.1;subst al0;subst al1;dsimp only[uC,IA,LT.den];apply tD<;>intro h1
  .refine Tot.ix λx1 h2=>?_;have oh2:Z5 x1:=ov36.2 x1 h2.1;have mh2:=h2.2;refine tB (ue) λx2 h3=>?_;apply tN<;>intro h4
   .have q1:=wr (v38+1);exact tL ⟨rfl,rfl,oc0,ov6,ov7,ov23,ov36,cl,cl,cl,cl,cl,cl,cl,cl,cl,bK,cP,cP,cl,cl,cl,dX,dX,cl,dX,cl,cl,cl,tk75⟩ tk89
   refine Tot.ix λx3 h5=>?_;have oh5:Z0 x3:=oc0.2.2.1.2 x3 h5.1;have mh5:=h5.2;refine Tot.ix λx4 h6=>?_;have mh6:=h6.2;refine tB (YX oh5 oh2) λx5 h7=>tB (Tot.set O O) λx6 h8=>?_;have lh8:=h8.1;apply tE<;>intro h9
   .refine Tot.ix λx7 h10=>?_;have mh10:=h10.2;refine tB (Tot.set O O) λx8 h11=>?_;have lh11:=h11.1;have q1:=wr (v38+1);exact tL ⟨rfl,rfl,⟨oc0.1,oc0.2.1,⟨lo,λe he=>(h8.2.1 e he).elim (λw=>by rw[w];exact h7) (oc0.2.2.1.2 e)⟩,SzL.tr,oc0.2.2.2.2.1,oc0.2.2.2.2.2⟩,ov6,ov7,ov23,ov36,cl,cl,cl,cl,cl,cl,cl,cl,cl,bK,cP,cP,cl,cl,cl,dX,dX,cl,dX,cl,cl,cl,tk75⟩ tk89
   have q1:=wr (v38+1);exact tL ⟨rfl,rfl,⟨oc0.1,oc0.2.1,⟨lo,λe he=>(h8.2.1 e he).elim (λw=>by rw[w];exact h7) (oc0.2.2.1.2 e)⟩,oc0.2.2.2.1,oc0.2.2.2.2.1,oc0.2.2.2.2.2⟩,ov6,ov7,ov23,ov36,cl,cl,cl,cl,cl,cl,cl,cl,cl,bK,cP,cP,cl,cl,cl,dX,dX,cl,dX,cl,cl,cl,tk75⟩ tk89
  have q1:=wr (v25+1);exact tL ⟨rfl,rfl,oc0,ov6,ov7,ov23,cl,cl,cl,cl,cl,cl,cl,bK,cP,cP,cl,cl,cl,dX,dX,cl,dX⟩ tk89
def Zr(b0:aB)(a1:List Int)(a2:Int):kq->Prop
 |.L0 v2 v7 v27 v28=>(v2=a2)/\((SzL 24 (SzL 1 (λ_=>True))) v7)/\(0<=v28)/\(b0.traits.length=b0.s.Objects.length)/\(b0.dropped.length=b0.s.Objects.length)/\(b0.done.length=b0.forces.length)/\(b0.hits.length=b0.forces.length)/\(b0.s.Objects.length<=2048)/\(b0.forces.length<=16448)/\(HI b0.s.Objects.length b0.hits)/\(cu b0)/\(v27=(v7.length:Int))/\(RWV b0.forces.length v7 v28)/\(INR b0.forces.length a1)/\(a1.length<=16448)/\(v7.length=b0.forces.length)
 |.L1 v2 v7 v9 v43 v44=>(v2=a2)/\((SzL 24 (SzL 1 (λ_=>True))) v7)/\(0<=v44)/\(b0.traits.length=b0.s.Objects.length)/\(b0.dropped.length=b0.s.Objects.length)/\(b0.done.length=b0.forces.length)/\(b0.hits.length=b0.forces.length)/\(b0.s.Objects.length<=2048)/\(b0.forces.length<=16448)/\(HI b0.s.Objects.length b0.hits)/\(cu b0)/\(v7.length=b0.forces.length)/\(MSZ v9)/\(RWS b0.forces.length v7)/\(v43=(a1.length:Int))/\(INR b0.forces.length a1)
 |.L2 v2 v7 v9 v69 v70=>(v2=a2)/\((SzL 24 (SzL 1 (λ_=>True))) v7)/\(0<=v70)/\(b0.traits.length=b0.s.Objects.length)/\(b0.dropped.length=b0.s.Objects.length)/\(b0.done.length=b0.forces.length)/\(b0.hits.length=b0.forces.length)/\(b0.s.Objects.length<=2048)/\(b0.forces.length<=16448)/\(HI b0.s.Objects.length b0.hits)/\(cu b0)/\(v7.length=b0.forces.length)/\(MSZ v9)/\(RWS b0.forces.length v7)/\(v69=(a1.length:Int))/\(INR b0.forces.length a1)
 |.L3 v2 v7 v9 v14 E1 v69 v70 v81 v82=>(v2=a2)/\((SzL 24 (SzL 1 (λ_=>True))) v7)/\(cu E1)/\(0<=v82)/\(0<=v70)/\(v70<v69)/\(b0.traits.length=b0.s.Objects.length)/\(b0.dropped.length=b0.s.Objects.length)/\(b0.done.length=b0.forces.length)/\(b0.hits.length=b0.forces.length)/\(b0.s.Objects.length<=2048)/\(b0.forces.length<=16448)/\(HI b0.s.Objects.length b0.hits)/\(cu b0)/\(v7.length=b0.forces.length)/\(MSZ v9)/\(RWS b0.forces.length v7)/\(v69=(a1.length:Int))/\(v81=(a1.length:Int))/\(INR b0.forces.length a1)/\(0<=v14)/\(v14<(b0.forces.length:Int))/\(E1.forces.length=b0.forces.length)/\(E1.traits.length=E1.s.Objects.length)/\(E1.dropped.length=E1.s.Objects.length)/\(E1.done.length=E1.forces.length)/\(E1.hits.length=E1.forces.length)/\(E1.s.Objects.length<=2048)/\(E1.forces.length<=16448)/\(HI E1.s.Objects.length E1.hits)
def IB:kq->M6
 |.L0 v2 v7 v27 v28=>(5,(v27-v28).toNat,1000000,0,0,0)
 |.L1 v2 v7 v9 v43 v44=>(3,(v43-v44).toNat,1000000,0,0,0)
 |.L2 v2 v7 v9 v69 v70=>(1,(v69-v70).toNat,1000000,0,0,0)
 |.L3 v2 v7 v9 v14 E1 v69 v70 v81 v82=>(1,(v69-v70).toNat,1,(v81-v82).toNat,1000000,0)
def Zs{b0:aB}{a1:List Int}{a2:Int}(ob0:cu b0)(oa1:(SzL 8 (λ_=>True)) a1)(h0:b0.traits.length=b0.s.Objects.length)(h1:b0.dropped.length=b0.s.Objects.length)(h2:b0.done.length=b0.forces.length)(h3:b0.hits.length=b0.forces.length)(h4:b0.s.Objects.length<=2048)(h5:b0.forces.length<=16448)(h6:HI b0.s.Objects.length b0.hits)(h7:a1.length<=16448)(h8:INR b0.forces.length a1):Tot (IC b0 a1 a2) (λr=>((SzL 24 (SzL 1 (λ_=>True))) r)):=by
 apply Tot.rn (Zr b0 a1 a2) IB
 .have lb_a1:=oa1.1;dsimp only[ID,LT.den];have q1:=ob0.2.1.1;refine tB (Tot.mk) λx1 h1=>?_;have lh1:=h1.1;exact tL ⟨rfl,⟨lo,λe he=>by rw[h1.2 e he];exact SzL.nil⟩,cl,cl,cl,cl,cl,cl,cl,bK,V,cl,tk42,V,cs⟩ tk81
 intro s hs;cases s with
 |L0 v2 v7 v27 v28=>
  obtain⟨al0,ov7,cv28,i0,i1,i2,i3,i4,i5,i6,i7,i8,i9,i10,i11,i12⟩:=hs;have lb_v7:=ov7.1;subst al0;dsimp only[nx,IE,LT.den];apply tD<;>intro h1
  .have q1:=(asz:cu b0).2.1.1;refine tB (Tot.mk) λx1 h2=>?_;have lh2:=h2.1;refine Tot.ix λx2 h3=>?_;have oh3:(SzL 1 (λ_=>True)) x2:=ov7.2 x2 h3.1;have mh3:=h3.2;(first|have wh3:=Z3r (by assumption:RWS _ v7) mh3|skip);have mh3:=h3.2;refine tB (Tot.set O O) λx3 h4=>?_;have lh4:=h4.1;have q2:=wr (v28+1);exact tL ⟨rfl,⟨lo,λe he=>(h4.2.1 e he).elim (λw=>by rw[w];exact SzL.tr) (ov7.2 e)⟩,cl,cl,cl,cl,cl,cl,cl,bK,V,cl,tk42,V,cs⟩ tk81
  exact uE
 |L1 v2 v7 v9 v43 v44=>
  obtain⟨al0,ov7,cv44,i0,i1,i2,i3,i4,i5,i6,i7,i8,i9,i10,i11,i12⟩:=hs;have lb_v7:=ov7.1;subst al0;dsimp only[nx,IF,LT.den];apply tD<;>intro h1
  .refine Tot.ix λx1 h2=>?_;have mh2:=h2.2;have zh2:=uD (by assumption:INR b0.forces.length a1) mh2;have mh2:=h2.2;refine tB (Zj (asz:cu b0) cl cl cl cl cl cl bK cl cl) λx2 h3=>?_;apply tF<;>intro h4
   .refine tB (Im (asz:cu b0) cl cl cl cl cl cl bK cl cl) λx3 h5=>tB (Tot.lk) λx4 h6=>?_;exact IG
   exact IG
  apply tE<;>intro h2
  .exact tR ov7
  apply tD<;>intro h3
  .exact tR ov7
  exact uE
 |L2 v2 v7 v9 v69 v70=>
  obtain⟨al0,ov7,cv70,i0,i1,i2,i3,i4,i5,i6,i7,i8,i9,i10,i11,i12⟩:=hs;have lb_v7:=ov7.1;subst al0;dsimp only[nx,II,LT.den];apply tD<;>intro h1
  .refine Tot.ix λx1 h2=>?_;have mh2:=h2.2;have zh2:=uD (by assumption:INR b0.forces.length a1) mh2;have mh2:=h2.2;refine tB (Zn (asz:cu b0)) λx2 h3=>?_;have eh3_1:=h3.2;have uh3_0:x2.traits.length=x2.s.Objects.length:=by rw[eh3_1];assumption
   have uh3_1:x2.dropped.length=x2.s.Objects.length:=jI
   have uh3_2:x2.done.length=x2.forces.length:=jI
   have uh3_3:x2.hits.length=x2.forces.length:=jI
   have uh3_4:x2.s.Objects.length<=2048:=jI
   have uh3_5:x2.forces.length<=16448:=jI
   have uh3_6:HI x2.s.Objects.length x2.hits:=jI
   have uh5_f:x2.forces.length=b0.forces.length:=by rw[eh3_1]
   have uh5_g:x2.forces=b0.forces:=by rw[eh3_1]
   refine tB (Iu h3.1 cl cl cl cl cl cl bK cl cl) λx3 h4=>?_;have eh4_1:=h4.2.1;have eh4_2:=h4.2.2.1;have eh4_3:=h4.2.2.2.1;have eh4_4:=h4.2.2.2.2.1;have eh4_5:=h4.2.2.2.2.2.1;have eh4_6:=h4.2.2.2.2.2.2.1;have eh4_7:=h4.2.2.2.2.2.2.2.1;have eh4_8:=h4.2.2.2.2.2.2.2.2.1;have eh4_9:=h4.2.2.2.2.2.2.2.2.2;exact tL ⟨rfl,ov7,h4.1,cl,cl,cl,cl,cl,cl,cl,cl,cl,bK,V,cl,tk55,tk34,cl,cl,V,cl,cl,eN,cl,cl,cl,cl,cl,cl,bK⟩ tk81
  exact tR ov7
 |L3 v2 v7 v9 v14 E1 v69 v70 v81 v82=>
  obtain⟨al0,ov7,O1,cv82,cv70,bd5,i0,i1,i2,i3,i4,i5,i6,i7,i8,i9,i10,i11,i12,i13,i14,i15,i16,i17,i18,i19,i20,i21,i22,i23⟩:=hs;have lb_v7:=ov7.1;subst al0;dsimp only[nx,IJ,LT.den];apply tD<;>intro h1
  .refine Tot.ix λx1 h2=>?_;have mh2:=h2.2;have zh2:=uD (by assumption:INR b0.forces.length a1) mh2;have mh2:=h2.2;refine tB (Tot.lk) λx2 h3=>?_;apply tF<;>intro h4
   .apply tN<;>intro h5
    .refine Tot.ix λx3 h6=>?_;have oh6:(SzL 1 (λ_=>True)) x3:=ov7.2 x3 h6.1;have mh6:=h6.2;(first|have wh6:=Z3r (by assumption:RWS _ v7) mh6|skip);have mh6:=h6.2;refine tB (Im O1 cl cl cl cl cl cl bK cl cl) λx4 h7=>tB (Z5o szx h7) λx5 h8=>Tot.ix λx6 h9=>?_;have mh9:=h9.2;refine tB (Tot.setM) λx7 h10=>?_;have lh10:x7.length=v7.length:=by rw[h10,gq]
     have q1:=wr (v82+1);exact tL ⟨rfl,SzL.setM h10 ov7 oh6,O1,cl,cl,cl,cl,cl,cl,cl,cl,cl,bK,V,cl,tk55,tk34,cl,cl,V,cl,cl,eN,cl,cl,cl,cl,cl,cl,bK⟩ tk81
    exact IK
   exact IK
  have q1:=wr (v70+1);exact uE
def IL{a0:Int}{a1:Int}:Tot (IM a0 a1) (λr=>(r = !neI a1 a0)):=by apply tZ;dsimp only[IN,LT.den];exact tR (by simp[neI])
def Zt(a0:List Int)(a1:Int):qf->Prop
 |.L0 v0 w1_0 v7 v8=>(v0=a0)/\(w1_0=a1)/\((SzL 8 (λ_=>True)) v0)/\(0<=v8)/\(v7=(v0.length:Int))/\(∀(k:Nat) x,(k:Int)<v8->v0[k]?=some x->neI w1_0 x=true)
def IP:qf->M6
 |.L0 v0 w1_0 v7 v8=>(1,(v7-v8).toNat,1000000,0,0,0)
def Zu{a0:List Int}{a1:Int}(oa0:(SzL 8 (λ_=>True)) a0):Tot (IQ a0 a1) (λr=>(FD a0 (neI a1) r)):=by
 apply Tot.rn (Zt a0 a1) IP
 .have lb_a0:=oa0.1;dsimp only[IR,LT.den];have q1:=oa0.1;exact tL ⟨rfl,rfl,oa0,cl,cl,tk39⟩ tk65
 rintro⟨v0,w1_0,v7,v8⟩ ⟨al0,al1,ov0,cv8,i0,i1⟩;have lb_v0:=ov0.1;subst al0;subst al1;dsimp only[zw,IS,LT.den];apply tD<;>intro h1
 .refine Tot.ix λx1 h2=>?_;have mh2:=h2.2;refine tB (IL) λx2 h3=>?_;apply tF<;>intro h4
  .exact uF
  have q1:=wr (v8+1);exact tL ⟨rfl,rfl,ov0,cl,cl,tk39⟩ tk65
 exact uF
end Go.PW
