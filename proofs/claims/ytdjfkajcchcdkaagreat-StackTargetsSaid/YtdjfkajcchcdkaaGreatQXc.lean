import Derived.Test.YtdjfkajcchcdkaaGreatQXb
set_option linter.all false
set_option maxRecDepth 100000
namespace Go.PW
def Zaz(b0:List Int)(a1:Int):qq->Prop
 |.L0 v0 w1_0 v5 v6=>(w1_0=a1)/\((SzL 8 (λ_=>True)) v0)/\(0<=v6)/\(DI b0 v0 (neI w1_0) v5 v6)/\(v6<=(v0.length:Int))
def Jy:qq->M6
 |.L0 v0 w1_0 v5 v6=>(1,((v0.length:Int)-v6).toNat,1000000,0,0,0)
def ZaA{b0:List Int}{a1:Int}(ob0:(SzL 8 (λ_=>True)) b0):Tot (Jz b0 a1) (λr=>((SzL 8 (λ_=>True)) r)/\(r=b0.filter (neI a1))):=by
 apply Tot.rn (Zaz b0 a1) Jy
 .have lb_b0:=ob0.1;dsimp only[JA,LT.den];refine tB (Zu ob0) λx1 h1=>?_;have eh1_0:=h1;have ph1:=JB eh1_0;apply tE<;>intro h2
  .exact tR ⟨ob0,tk21⟩
  have q1:=wr (x1+1);exact tL ⟨rfl,ob0,cl,tk8,cl⟩ tk58
 rintro⟨v0,w1_0,v5,v6⟩ ⟨al0,ov0,cv6,i0,i1⟩;have lb_v0:=ov0.1;subst al0;dsimp only[zX,JC,LT.den];have l0:=i0.1;have l1:=i0.2.1;have l2:=i0.2.2.1;apply tD<;>intro h1
 .refine Tot.ix λx1 h2=>?_;have mh2:=h2.2;refine tB (IL) λx2 h3=>?_;apply tO<;>intro h4
  .refine Tot.ix λx3 h5=>?_;have mh5:=h5.2;refine tB (Tot.set O O) λx4 h6=>?_;have lh6:=h6.1;have vh6:=h6.2.2;have q1:=wr (v5+1);have q2:=wr (v6+1);exact tL ⟨rfl,SzL.tr,cl,tk8,cl⟩ tk58
  have q1:=wr (v6+1);exact tL ⟨rfl,ov0,cl,tk8,cl⟩ tk58
 have q1:=ov0.1;refine tB (Tot.clr O O) λx1 h2=>?_;have lh2:=h2.1;have vh2:=h2.2.2;have q2:x1.length*8<=140737488351232:=(show SzL 8 (λ_=>True) x1 from SzL.tr).1;refine tB (Tot.slice O O O) λx2 h3=>?_;have lh3:=h3.1;have vh3:=h3.2.2;exact tR ⟨SzL.tr,tk21⟩
abbrev ZaB(b0:aB)(a1:Int)(r:(List Int)×aB):Prop:=((SzL 8 (λ_=>True)) r.1)/\(cu r.2)/\(r.2.traits.length=r.2.s.Objects.length)/\(r.2.dropped.length=r.2.s.Objects.length)/\(r.2.done.length=r.2.forces.length)/\(r.2.hits.length=r.2.forces.length)/\(r.2.s.Objects.length<=2048)/\(r.2.forces.length<=16448)/\(HI r.2.s.Objects.length r.2.hits)/\(r.2.s=b0.s)/\(r.2.forces=b0.forces)
def ZaC(b0:aB)(a1:Int):nE->Prop
 |.L0 c0 v1 v5 v6 v7 v18 v19 v20=>(v1=a1)/\(cu c0)/\((SzL 8 (λ_=>True)) v5)/\((SzL 8 (λ_=>True)) v6)/\((SzL 8 (λ_=>True)) v7)/\((SzL 224 fq) v18)/\(0<=v20)/\(c0.traits.length=c0.s.Objects.length)/\(c0.dropped.length=c0.s.Objects.length)/\(c0.done.length=c0.forces.length)/\(c0.hits.length=c0.forces.length)/\(c0.s.Objects.length<=2048)/\(c0.forces.length<=16448)/\(HI c0.s.Objects.length c0.hits)/\(c0.s.Objects.length=b0.s.Objects.length)/\(c0.forces.length=b0.forces.length)/\(c0.s=b0.s)/\(c0.forces=b0.forces)/\(v19=(v18.length:Int))/\(v19=(c0.forces.length:Int))/\(v5.length<=v20.toNat)/\(v7.length<=v20.toNat)/\(v20<=v19)/\(v6.length=0)/\(INR b0.forces.length v5)
 |.L1 c0 v1 v5 v6 v7=>(v1=a1)/\(cu c0)/\((SzL 8 (λ_=>True)) v5)/\((SzL 8 (λ_=>True)) v6)/\((SzL 8 (λ_=>True)) v7)/\(c0.traits.length=c0.s.Objects.length)/\(c0.dropped.length=c0.s.Objects.length)/\(c0.done.length=c0.forces.length)/\(c0.hits.length=c0.forces.length)/\(c0.s.Objects.length<=2048)/\(c0.forces.length<=16448)/\(HI c0.s.Objects.length c0.hits)/\(c0.s.Objects.length=b0.s.Objects.length)/\(c0.forces.length=b0.forces.length)/\(c0.s=b0.s)/\(c0.forces=b0.forces)/\(v6.length+v5.length<=b0.forces.length)/\(v7.length<=16448)/\(INR b0.forces.length v5)
def JD:nE->M6
 |.L0 c0 v1 v5 v6 v7 v18 v19 v20=>(1,(v19-v20).toNat,0,0,0,0)
 |.L1 c0 v1 v5 v6 v7=>(0,v5.length,0,0,0,0)
def ZaD{b0:aB}{a1:Int}(ob0:cu b0)(h0:b0.traits.length=b0.s.Objects.length)(h1:b0.dropped.length=b0.s.Objects.length)(h2:b0.done.length=b0.forces.length)(h3:b0.hits.length=b0.forces.length)(h4:b0.s.Objects.length<=2048)(h5:b0.forces.length<=16448)(h6:HI b0.s.Objects.length b0.hits):Tot (JE b0 a1) (ZaB b0 a1):=by
 apply Tot.rn (ZaC b0 a1) JD
 .dsimp only[JF,LT.den];apply tE<;>intro h1
  .refine tB (Zh ob0 cl cl cl cl cl cl bK) λx1 h2=>?_;have eh2_1:=h2.2.1;have eh2_2:=h2.2.2.1;have eh2_3:=h2.2.2.2.1;have eh2_4:=h2.2.2.2.2.1;have eh2_5:=h2.2.2.2.2.2.1;have eh2_6:=h2.2.2.2.2.2.2.1;have eh2_7:=h2.2.2.2.2.2.2.2.1;have eh2_8:=h2.2.2.2.2.2.2.2.2.1;have eh2_9:=h2.2.2.2.2.2.2.2.2.2;have q1:=h2.1.2.1.1;exact tL ⟨rfl,h2.1,SzL.nil,SzL.nil,SzL.nil,h2.1.2.1,cl,cl,cl,cl,cl,cl,cl,bK,eN,eN,cP,cP,cl,cl,cl,cl,cl,cl,tk26⟩ tk90
  have q1:=ob0.2.1.1;exact tL ⟨rfl,ob0,SzL.nil,SzL.nil,SzL.nil,ob0.2.1,cl,cl,cl,cl,cl,cl,cl,bK,eN,eN,cP,cP,cl,cl,cl,cl,cl,cl,tk26⟩ tk90
 intro s hs;cases s with
 |L0 c0 v1 v5 v6 v7 v18 v19 v20=>
  obtain⟨al0,oc0,ov5,ov6,ov7,ov18,cv20,i0,i1,i2,i3,i4,i5,i6,i7,i8,i9,i10,i11,i12,i13,i14,i15,i16,i17⟩:=hs;have lb_v5:=ov5.1;have lb_v6:=ov6.1;have lb_v7:=ov7.1;have lb_v18:=ov18.1;subst al0;dsimp only[uU,JG,LT.den];apply tD<;>intro h1
  .refine Tot.ix λx1 h2=>?_;have oh2:fq x1:=ov18.2 x1 h2.1;have mh2:=h2.2;have q1:=ov7.1;refine Tot.ap λx2 h3=>?_;have lh3:=db h3;refine tB (Yv oh2) λx3 h4=>?_;apply tF<;>intro h5
   .have q2:=ov5.1;refine Tot.ap λx4 h6=>?_;have lh6:=db h6;have q3:=wr (v20+1);exact tL ⟨rfl,oc0,SzL.tr,ov6,SzL.tr,ov18,cl,cl,cl,cl,cl,cl,cl,bK,eN,eN,cP,cP,cl,cl,cl,cl,cl,cl,tk26⟩ tk90
   have q2:=wr (v20+1);exact tL ⟨rfl,oc0,ov5,ov6,SzL.tr,ov18,cl,cl,cl,cl,cl,cl,cl,bK,eN,eN,cP,cP,cl,cl,cl,cl,cl,cl,tk26⟩ tk90
  exact tL ⟨rfl,oc0,ov5,ov6,ov7,cl,cl,cl,cl,cl,cl,bK,eN,eN,cP,cP,cl,cl,tk26⟩ tk90
 |L1 c0 v1 v5 v6 v7=>
  obtain⟨al0,oc0,ov5,ov6,ov7,i0,i1,i2,i3,i4,i5,i6,i7,i8,i9,i10,i11,i12,i13⟩:=hs;have lb_v5:=ov5.1;have lb_v6:=ov6.1;have lb_v7:=ov7.1;subst al0;dsimp only[uU,JH,LT.den];apply tD<;>intro h1
  .refine tB (Zs oc0 ov5 cl cl cl cl cl cl bK cl (by first|assumption|exact ZaE V O)) λx1 h2=>tB (Zd ov5 ov7 h2 cl (by first|assumption|exact ZaF V)) λx2 h3=>?_;have wh3:=ZaG (by assumption:INR b0.forces.length v5) (by assumption:x2<0\/x2∈v5);apply tD<;>intro h4
   .exact JI
   refine tB (Iu oc0 cl cl cl cl cl cl bK cl cl) λx3 h5=>?_;have eh5_1:=h5.2.1;have eh5_2:=h5.2.2.1;have eh5_3:=h5.2.2.2.1;have eh5_4:=h5.2.2.2.2.1;have eh5_5:=h5.2.2.2.2.2.1;have eh5_6:=h5.2.2.2.2.2.2.1;have eh5_7:=h5.2.2.2.2.2.2.2.1;have eh5_8:=h5.2.2.2.2.2.2.2.2.1;have eh5_9:=h5.2.2.2.2.2.2.2.2.2;have q1:=ov6.1;refine Tot.ap λx4 h6=>?_;have lh6:=db h6;refine tB (ZaA ov5) λx5 h7=>?_;have eh7_1:=h7.2;have sh7:=flt_sub' (by assumption:x5=_);have lh7:=flt_lt' (by assumption:x5=_) V V;exact tL ⟨rfl,h5.1,h7.1,SzL.tr,ov7,cl,cl,cl,cl,cl,cl,bK,eN,eN,cP,cP,cl,cl,tk26⟩ tk90
  exact JI
def ZaH(a0:List aw)(a1:ab):qt->Prop
 |.L0 E0 v6=>(cu E0)/\(0<=v6)/\(E0.traits.length=E0.s.Objects.length)/\(E0.dropped.length=E0.s.Objects.length)/\(E0.done.length=E0.forces.length)/\(E0.hits.length=E0.forces.length)/\(E0.s.Objects.length<=2048)/\(E0.forces.length<=16448)/\(HI E0.s.Objects.length E0.hits)/\(E0.s=a1)
def Z9e:qt->M6
 |.L0 E0 v6=>(1,(8+1-v6).toNat,1000000,0,0,0)
def ZaI{a0:List aw}{a1:ab}(oa0:(SzL 176 ca) a0)(oa1:aR a1)(h0:a1.Objects.length<=2048)(h1:a1.Conts.length<=64)(h2:∀c,c∈a0->c.Abilities.length<=8):Tot (Z3m a0 a1) (λr=>((SzL 176 Z0) r)/\(r.length=a1.Objects.length)):=by
 apply Tot.rn (ZaH a0 a1) Z9e
 .have lb_a0:=oa0.1;dsimp only[JJ,LT.den];refine tB (Yp oa0 oa1 cl cl ct) λx1 h1=>?_;have eh1_1:=h1.2.1;have eh1_2:=h1.2.2.1;have eh1_3:=h1.2.2.2.1;have eh1_4:=h1.2.2.2.2.1;have eh1_5:=h1.2.2.2.2.2.1;have eh1_6:=h1.2.2.2.2.2.2.1;have eh1_7:=h1.2.2.2.2.2.2.2.1;have eh1_8:=h1.2.2.2.2.2.2.2.2;exact tL ⟨h1.1,cl,cl,cl,cl,cl,cl,cl,bK,ct⟩ JK
 rintro⟨E0,v6⟩ ⟨O0,cv6,i0,i1,i2,i3,i4,i5,i6,i7⟩;dsimp only[zY,JL,LT.den];apply tD<;>intro h1
 .refine tB (ZaD O0 cl cl cl cl cl cl bK) λx1 h2=>?_;have eh2_2:=h2.2.2.1;have eh2_3:=h2.2.2.2.1;have eh2_4:=h2.2.2.2.2.1;have eh2_5:=h2.2.2.2.2.2.1;have eh2_6:=h2.2.2.2.2.2.2.1;have eh2_7:=h2.2.2.2.2.2.2.2.1;have eh2_8:=h2.2.2.2.2.2.2.2.2.1;have eh2_9:=h2.2.2.2.2.2.2.2.2.2.1;have eh2_10:=h2.2.2.2.2.2.2.2.2.2.2;have q1:=wr (v6+1);exact tL ⟨h2.2.1,cl,cl,cl,cl,cl,cl,cl,bK,ct⟩ JK
 exact tR ⟨O0.2.2.1,eN⟩
def ZaJ{a0:List aw}{a1:ab}(oa0:(SzL 176 ca) a0)(oa1:aR a1)(h0:a1.Objects.length<=2048)(h1:a1.Conts.length<=64)(h2:∀c,c∈a0->c.Abilities.length<=8):Tot (Z3m a0 a1) (λr=>((SzL 176 Z0) r)/\(r.length=a1.Objects.length)/\(r=allV a0 a1)):=(Tot.we (ZaI oa0 oa1 h0 h1 h2)).mono λr h=>⟨h.1.1,h.1.2,c9 (h.2.symm.trans (by unfold allV;rw[h.2];rfl))⟩
abbrev ZaK(a0:Int)(a1:List Int)(r:List bc):Prop:=((SzL 24 (λ_=>True)) r)/\(r.length<=a1.length)/\(r=a1.map λx=>(⟨a0,x,0⟩:bc))
def ZaL(a0:Int)(a1:List Int):qu->Prop
 |.L0 v0 v5 v8 v9 v10=>(v0=a0)/\((SzL 24 (λ_=>True)) v5)/\((SzL 8 (λ_=>True)) v8)/\(0<=v10)/\(v9=(v8.length:Int))/\(v8.length=a1.length)/\(v8=a1)/\(v5=(v8.take v10.toNat).map λx=>(⟨v0,x,0⟩:bc))/\(v5.length<=v10.toNat)/\(v10<=v9)
def JM:qu->M6
 |.L0 v0 v5 v8 v9 v10=>(1,(v9-v10).toNat,1000000,0,0,0)
def Z33{a0:Int}{a1:List Int}(oa1:(SzL 8 (λ_=>True)) a1)(h0:a1.length<=1000000):Tot (Z1m a0 a1) (ZaK a0 a1):=by
 apply Tot.rn (ZaL a0 a1) JM
 .have lb_a1:=oa1.1;dsimp only[Z79,LT.den];have q1:=oa1.1;exact tL ⟨rfl,SzL.nil,oa1,cl,cl,cl,dz,tk46,cs⟩ JN
 rintro⟨v0,v5,v8,v9,v10⟩ ⟨al0,ov5,ov8,cv10,i0,i1,i2,i3,i4,i5⟩;have lb_v5:=ov5.1;have lb_v8:=ov8.1;subst al0;dsimp only[zZ,Z53,LT.den];apply tD<;>intro h1
 .refine Tot.ix λx1 h2=>?_;have mh2:=h2.2;have q1:=ov5.1;refine Tot.ap λx2 h3=>?_;have lh3:=db h3;have q2:=wr (v10+1);exact tL ⟨rfl,SzL.tr,ov8,cl,cl,cl,dz,tk46,cs⟩ JN
 exact tR ⟨ov5,cl,(by rw[<- ‹v8=a1›];exact ZaM V O)⟩
def Z9f{a0:ak}{b0:Int}:Tot (JO a0 b0) (λr=>(r=(a0.Id==b0))):=by apply tZ;dsimp only[JP,LT.den];exact tR (by rfl)
def ZaN(a0:List ak)(b0:Int):qv->Prop
 |.L0 v0 c0 v7 v8=>(v0=a0)/\(c0=b0)/\((SzL 128 (λ_=>True)) v0)/\(0<=v8)/\(v7=(v0.length:Int))/\(NoId v0 c0 v8)
def JQ:qv->M6
 |.L0 v0 c0 v7 v8=>(1,(v7-v8).toNat,1000000,0,0,0)
def ZaO{a0:List ak}{b0:Int}(oa0:(SzL 128 (λ_=>True)) a0):Tot (JR a0 b0) (λr=>(r.1=ixO a0 b0)/\(r.2=b0)):=by
 apply Tot.rn (ZaN a0 b0) JQ
 .have lb_a0:=oa0.1;dsimp only[JS,LT.den];have q1:=oa0.1;exact tL ⟨rfl,rfl,oa0,cl,cl,tk32⟩ tk59
 rintro⟨v0,c0,v7,v8⟩ ⟨al0,al1,ov0,cv8,i0,i1⟩;have lb_v0:=ov0.1;subst al0;subst al1;dsimp only[z6,JT,LT.den];apply tD<;>intro h1
 .refine Tot.ix λx1 h2=>?_;have mh2:=h2.2;refine tB (Z9f) λx2 h3=>?_;apply tF<;>intro h4
  .exact JU
  have q1:=wr (v8+1);exact tL ⟨rfl,rfl,ov0,cl,cl,tk32⟩ tk59
 exact JU
def z7(a0:ab)(a1:List ah)(a2:bV)(a3:Int):qx->Prop
 |.L0 E0 E1 E2 v9 E3=>(E0=a0)/\(E1=a2)/\(aR E0)/\(gY E1)/\(Z0 E3)/\(0<=v9)/\(v9<(E0.Objects.length:Int))/\(E2=a3)/\(v9=ixO E0.Objects a3)/\(E3=trV a1 v9)
def Z9g:qx->M6
 |.L0 E0 E1 E2 v9 E3=>(0,0,0,0,0,0)
def z8{a0:ab}{a1:List ah}{a2:bV}{a3:Int}{E0:ab}{E1:bV}{E2:Int}{v9:Int}{E3:ah}(h:(z7 a0 a1 a2 a3) (.L0 E0 E1 E2 v9 E3)):Tot (qy E0 E1 E2 v9 E3).den (Nx (z7 a0 a1 a2 a3) Z9g (0,0,0,0,0,0) (λr=>(r=hidB a0 a1 a2.You a2.Source a3))):=by
 obtain⟨al0,al1,O0,O1,O3,i0,i1,i2,i3,i4⟩:=h;subst al0;subst al1;dsimp only[qy,LT.den];refine Tot.ix λx1 h1=>?_;have mh1:=h1.2;apply tE<;>intro h2
 .refine tB (yP) λx2 h3=>?_;apply tF<;>intro h4
  .exact qz
  exact qz
 apply tE<;>intro h3
 .exact qz
 exact qz
def ZaP{a0:ab}{a1:List ah}{a2:bV}{a3:Int}(oa0:aR a0)(oa1:(SzL 176 Z0) a1)(oa2:gY a2):Tot (JV a0 a1 a2 a3) (λr=>(r=hidB a0 a1 a2.You a2.Source a3)):=by
 apply Tot.rn (z7 a0 a1 a2 a3) Z9g
 .have lb_a1:=oa1.1;dsimp only[JW,LT.den];refine tB (ZaO oa0.2.1) λx1 h1=>?_;have eh1_0:=h1.1;have eh1_1:=h1.2;have lh1:=JX a0.Objects a3;apply tD<;>intro h2
  .exact qz
  have q1:=oa1.1;apply tD<;>intro h3
  .refine Tot.ix λx2 h4=>?_;have oh4:Z0 x2:=oa1.2 x2 h4.1;have mh4:=h4.2;exact tJ (z8 ⟨rfl,rfl,oa0,oa2,oh4,cl,cl,dz,ct,tk78⟩)
  exact tJ (z8 ⟨rfl,rfl,oa0,oa2,⟨SzS.nil,SzL.nil,SzL.nil⟩,cl,cl,dz,ct,tk78⟩)
 intro s hs;cases s with
 |L0 _ _ _ _ _=>exact z8 hs
def JY{a0:Int}{a1:ab}{a2:List ah}{a3:bV}(oa1:aR a1)(oa2:(SzL 176 Z0) a2)(oa3:gY a3):Tot (JZ a0 a1 a2 a3) (λr=>(r=hidB a1 a2 a3.You a3.Source a0)):=by apply tZ;have lb_a2:=oa2.1;dsimp only[J0,LT.den];exact tB (ZaP oa1 oa2 oa3) λx1 h1=>tR V
def ZaQ(a0:List Int)(a1:ab)(a1_1:List ah)(a1_2:bV):qA->Prop
 |.L0 v0 w1_0 w1_1 w1_2 v7 v8=>(v0=a0)/\(w1_0=a1)/\(w1_1=a1_1)/\(w1_2=a1_2)/\((SzL 8 (λ_=>True)) v0)/\(aR w1_0)/\((SzL 176 Z0) w1_1)/\(gY w1_2)/\(0<=v8)/\(v7=(v0.length:Int))/\(∀(k:Nat) x,(k:Int)<v8->v0[k]?=some x->(λid => !hidB w1_0 w1_1 w1_2.You w1_2.Source id) x=true)
def J1:qA->M6
 |.L0 v0 w1_0 w1_1 w1_2 v7 v8=>(1,(v7-v8).toNat,1000000,0,0,0)
def ZaR{a0:List Int}{a1:ab}{a1_1:List ah}{a1_2:bV}(oa0:(SzL 8 (λ_=>True)) a0)(oa1:aR a1)(oa1_1:(SzL 176 Z0) a1_1)(oa1_2:gY a1_2):Tot (J2 a0 a1 a1_1 a1_2) (λr=>(FD a0 (λid => !hidB a1 a1_1 a1_2.You a1_2.Source id) r)):=by
 apply Tot.rn (ZaQ a0 a1 a1_1 a1_2) J1
 .have lb_a0:=oa0.1;have lb_a1_1:=oa1_1.1;dsimp only[J3,LT.den];have q1:=oa0.1;exact tL ⟨rfl,rfl,rfl,rfl,oa0,oa1,oa1_1,oa1_2,cl,cl,tk39⟩ tk77
 rintro⟨v0,w1_0,w1_1,w1_2,v7,v8⟩ ⟨al0,al1,al2,al3,ov0,ow1_0,ow1_1,ow1_2,cv8,i0,i1⟩;have lb_v0:=ov0.1;have lb_w1_1:=ow1_1.1;subst al0;subst al1;subst al2;subst al3;dsimp only[Aa,J4,LT.den];apply tD<;>intro h1
 .refine Tot.ix λx1 h2=>?_;have mh2:=h2.2;refine tB (JY ow1_0 ow1_1 ow1_2) λx2 h3=>?_;apply tF<;>intro h4
  .exact uF
  have q1:=wr (v8+1);exact tL ⟨rfl,rfl,rfl,rfl,ov0,ow1_0,ow1_1,ow1_2,cl,cl,tk39⟩ tk77
 exact uF
abbrev ZaS(b0:List Int)(a1:ab)(a1_1:List ah)(a1_2:bV)(r:List Int):Prop:=((SzL 8 (λ_=>True)) r)/\(r.length<=b0.length)/\(r=b0.filter (λid => !hidB a1 a1_1 a1_2.You a1_2.Source id))
def ZaT(b0:List Int)(a1:ab)(a1_1:List ah)(a1_2:bV):qB->Prop
 |.L0 v0 w1_0 w1_1 w1_2 v5 v6=>(w1_0=a1)/\(w1_1=a1_1)/\(w1_2=a1_2)/\((SzL 8 (λ_=>True)) v0)/\(aR w1_0)/\((SzL 176 Z0) w1_1)/\(gY w1_2)/\(0<=v6)/\(DI b0 v0 (λid => !hidB w1_0 w1_1 w1_2.You w1_2.Source id) v5 v6)/\(v6<=(v0.length:Int))
def J5:qB->M6
 |.L0 v0 w1_0 w1_1 w1_2 v5 v6=>(1,((v0.length:Int)-v6).toNat,1000000,0,0,0)
def ZaU{b0:List Int}{a1:ab}{a1_1:List ah}{a1_2:bV}(ob0:(SzL 8 (λ_=>True)) b0)(oa1:aR a1)(oa1_1:(SzL 176 Z0) a1_1)(oa1_2:gY a1_2):Tot (J6 b0 a1 a1_1 a1_2) (ZaS b0 a1 a1_1 a1_2):=by
 apply Tot.rn (ZaT b0 a1 a1_1 a1_2) J5
 .have lb_b0:=ob0.1;have lb_a1_1:=oa1_1.1;dsimp only[J7,LT.den];refine tB (ZaR ob0 oa1 oa1_1 oa1_2) λx1 h1=>?_;have eh1_0:=h1;have ph1:=JB eh1_0;apply tE<;>intro h2
  .exact tR ⟨ob0,cl,tk21⟩
  have q1:=wr (x1+1);exact tL ⟨rfl,rfl,rfl,ob0,oa1,oa1_1,oa1_2,cl,tk8,cl⟩ tk70
 rintro⟨v0,w1_0,w1_1,w1_2,v5,v6⟩ ⟨al0,al1,al2,ov0,ow1_0,ow1_1,ow1_2,cv6,i0,i1⟩;have lb_v0:=ov0.1;have lb_w1_1:=ow1_1.1;subst al0;subst al1;subst al2;dsimp only[Ab,J8,LT.den];have l0:=i0.1;have l1:=i0.2.1;have l2:=i0.2.2.1;apply tD<;>intro h1
 .refine Tot.ix λx1 h2=>?_;have mh2:=h2.2;refine tB (JY ow1_0 ow1_1 ow1_2) λx2 h3=>?_;apply tO<;>intro h4
  .refine Tot.ix λx3 h5=>?_;have mh5:=h5.2;refine tB (Tot.set O O) λx4 h6=>?_;have lh6:=h6.1;have vh6:=h6.2.2;have q1:=wr (v5+1);have q2:=wr (v6+1);exact tL ⟨rfl,rfl,rfl,SzL.tr,ow1_0,ow1_1,ow1_2,cl,tk8,cl⟩ tk70
  have q1:=wr (v6+1);exact tL ⟨rfl,rfl,rfl,ov0,ow1_0,ow1_1,ow1_2,cl,tk8,cl⟩ tk70
 have q1:=ov0.1;refine tB (Tot.clr O O) λx1 h2=>?_;have lh2:=h2.1;have vh2:=h2.2.2;have q2:x1.length*8<=140737488351232:=(show SzL 8 (λ_=>True) x1 from SzL.tr).1;refine tB (Tot.slice O O O) λx2 h3=>?_;have lh3:=h3.1;have vh3:=h3.2.2;exact tR ⟨SzL.tr,cl,tk21⟩
abbrev Z9h(a0:ab)(a1:List ah)(a2:bV)(a3:bo)(r:List bc):Prop:=((SzL 24 (λ_=>True)) r)/\(r.length<=64)/\(r=lgV a0 a1 a2 a3)
def Ac(a0:ab)(a1:List ah)(a2:bV)(a3:bo):qC->Prop
 |.L0 E0 E1 E2 E3 v9=>(E0=a0)/\(E1=a1)/\(E2=a2)/\(E3=a3)/\(aR E0)/\((SzL 176 Z0) E1)/\(gY E2)/\(fP E3)/\((SzL 24 (λ_=>True)) v9)/\(E0.Objects.length<=60)/\(v9.length<=4)/\(v9=lgP E0 E3)
def J9:qC->M6
 |.L0 E0 E1 E2 E3 v9=>(0,0,0,0,0,0)
def Ad{a0:ab}{a1:List ah}{a2:bV}{a3:bo}{E0:ab}{E1:List ah}{E2:bV}{E3:bo}{v9:List bc}(h:(Ac a0 a1 a2 a3) (.L0 E0 E1 E2 E3 v9)):Tot (qD E0 E1 E2 E3 v9).den (Nx (Ac a0 a1 a2 a3) J9 (0,0,0,0,0,0) (Z9h a0 a1 a2 a3)):=by
 obtain⟨al0,al1,al2,al3,O0,O1,O2,O3,ov9,i0,i1,i2⟩:=h;have lb_b30000001:=O1.1;have lb_v9:=ov9.1;subst al0;subst al1;subst al2;subst al3;dsimp only[qD,LT.den];apply tF<;>intro h1
 .refine tB (GR E0 E1 E2.You E2.Source E3.Filter O0 O1 O3) λx1 h2=>?_;have eh2_1:=h2.2;have lh2:x1.length<=E0.Objects.length:=by rw[eh2_1];exact ZaV ..
  refine tB (ZaU h2.1 O0 O1 O2) λx2 h3=>?_;have eh3_1:=h3.2.1;have eh3_2:=h3.2.2;refine tB (Z33 h3.1 cl) λx3 h4=>?_;have eh4_1:=h4.2.1;have eh4_2:=h4.2.2;have q1:=ov9.1;have q2:=h4.1.1;refine Tot.ap λx4 h5=>?_;have lh5:x4.length=v9.length+x3.length:=by rw[h5,bF]
  try simp only[bT,cg,aM]at lh5
  exact tR ⟨SzL.tr,cl,tk47⟩
 exact tR ⟨ov9,cl,tk47⟩
def ZaW{a0:ab}{a1:List ah}{a2:bV}{a3:bo}(oa0:aR a0)(oa1:(SzL 176 Z0) a1)(oa2:gY a2)(oa3:fP a3)(h0:a0.Objects.length<=60)(h1:a0.Players.length<=4):Tot (Ae a0 a1 a2 a3) (Z9h a0 a1 a2 a3):=by
 apply Tot.rn (Ac a0 a1 a2 a3) J9
 .have lb_a1:=oa1.1;dsimp only[Ka,LT.den];apply tF<;>intro h1
  .refine tB (yj oa0) λx1 h2=>?_;have eh2_1:=h2.2.1;have eh2_2:=h2.2.2;refine tB (Z33 h2.1 cl) λx2 h3=>?_;have eh3_1:=h3.2.1;have eh3_2:=h3.2.2;have q1:=h3.1.1;refine Tot.ap λx3 h4=>?_;have lh4:x3.length=([]:List bc).length+x2.length:=by rw[h4,bF]
   try simp only[bT,cg,aM]at lh4
   exact tJ (Ad ⟨rfl,rfl,rfl,rfl,oa0,oa1,oa2,oa3,SzL.tr,cl,cl,tk60⟩)
  exact tJ (Ad ⟨rfl,rfl,rfl,rfl,oa0,oa1,oa2,oa3,SzL.nil,cl,cl,tk60⟩)
 intro s hs;cases s with
 |L0 _ _ _ _ _=>exact Ad hs
def ZaX{a0:ab}{a1:Z1}(oa0:aR a0)(oa1:eX a1):Tot (Kb a0 a1) (λr=>(aR r)/\(r=puS a0 a1)):=by
 apply tZ;dsimp only[Kc,LT.den];refine tB (tz oa0) λx1 h1=>?_;have eh1_1:=h1.2;apply tD<;>intro h2
 .exact tR ⟨h1.1,tk1⟩
 apply tE<;>intro h3
 .have q1:=wr (x1.NextId+1);have q2:=h1.1.2.2.2.2.1.1;refine Tot.ap λx2 h4=>?_;have lh4:=db h4;refine tB (tz ⟨h1.1.1,h1.1.2.1,h1.1.2.2.1,h1.1.2.2.2.1,SzL.app (k:=824) h4 lo h1.1.2.2.2.2.1.2 (me1 ⟨oa1.1,oa1.2⟩),h1.1.2.2.2.2.2.1,h1.1.2.2.2.2.2.2.1,h1.1.2.2.2.2.2.2.2⟩) λx3 h5=>?_;exact Kd
 have q1:=h1.1.2.2.2.2.1.1;refine Tot.ap λx2 h4=>?_;have lh4:=db h4;refine tB (tz ⟨h1.1.1,h1.1.2.1,h1.1.2.2.1,h1.1.2.2.2.1,SzL.app (k:=824) h4 lo h1.1.2.2.2.2.1.2 (me1 oa1),h1.1.2.2.2.2.2.1,h1.1.2.2.2.2.2.2.1,h1.1.2.2.2.2.2.2.2⟩) λx3 h5=>?_;exact Kd
def Ke{b0:bm}{a1:Z3}(ob0:fv b0)(oa1:fp a1)(h0:0<=b0.used)(h1:b0.used<=(b0.answers.length:Int)):Tot (Kg b0 a1) (λr=>((SzL 8 (λ_=>True)) r.1)/\(fv r.2)/\(0<=r.2.used)/\(r.2.used<=(r.2.answers.length:Int))/\(a1.Kind=4->fZ (a1.Options.length:Int) r.1)):=by
 apply tZ;dsimp only[Kh,LT.den];apply tF<;>intro h1
 .refine tB (ph oa1) λx1 h2=>?_;have eh2_1:=h2.2.1;have eh2_2:=h2.2.2;exact tR ⟨h2.1,ob0,tk52,tk53,tk5⟩
 apply tF<;>intro h2
 .refine tB (ph oa1) λx1 h3=>?_;have eh3_1:=h3.2.1;have eh3_2:=h3.2.2;exact tR ⟨h3.1,ob0,tk52,tk53,tk5⟩
 refine tB (X1 oa1) λx1 h3=>?_;apply tF<;>intro h4
 .refine tB (ph oa1) λx2 h5=>?_;have eh5_1:=h5.2.1;have eh5_2:=h5.2.2;exact tR ⟨h5.1,ob0,tk52,tk53,tk5⟩
 have q1:=ob0.1.1;apply tE<;>intro h5
 .refine tB (EZ oa1) λx2 h6=>?_;have eh6_1:=h6.2;refine tB (ph h6.1) λx3 h7=>?_;have eh7_1:=h7.2.1;have eh7_2:=h7.2.2;exact tR ⟨h7.1,⟨ob0.1,h6.1⟩,tk52,tk53,tk5⟩
 refine Tot.ix λx2 h6=>?_;have oh6:(SzL 8 (λ_=>True)) x2:=ob0.1.2 x2 h6.1;have mh6:=h6.2;have nh6:=h6.1;have q2:=wr (b0.used+1);refine tB (Yc oa1 oh6) λx3 h7=>?_;have eh7_0:=h7.1;have eh7_1:=h7.2;apply tO<;>intro h8
 .refine tB (ph oa1) λx4 h9=>?_;have eh9_1:=h9.2.1;have eh9_2:=h9.2.2;exact Ki
 refine tB (Z0m oh6) λx4 h9=>?_;have eh9_1:=h9.2;exact Ki
abbrev Kj(b0:bm)(a1:ab)(a2:List ah)(a3:bV)(a4:List bo)(r:(List bW)×Bool×bm):Prop:=((SzL 16 (λ_=>True)) r.1)/\(fv r.2.2)/\(r.1.length<=a4.length)/\(r.2.1=true->r.1.length=a4.length)/\(r.2.1=false->1<=a4.length)/\(0<=r.2.2.used)/\(r.2.2.used<=(r.2.2.answers.length:Int))
def Af(b0:bm)(a1:ab)(a2:List ah)(a3:bV)(a4:List bo):nF->Prop
 |.L0 c0 v2 E1 E2 v12 v18 v19 v20=>(v2=a2)/\(E1=a1)/\(E2=a3)/\(fv c0)/\((SzL 176 Z0) v2)/\(aR E1)/\(gY E2)/\((SzL 16 (λ_=>True)) v12)/\((SzL 144 fP) v18)/\(0<=v20)/\(E1.Objects.length<=60)/\(E1.Players.length<=4)/\(0<=c0.used)/\(c0.used<=(c0.answers.length:Int))/\(v19=(v18.length:Int))/\(v18.length=a4.length)/\((v12.length:Int)=v20)/\(v20<=v19)
 |.L1 c0 v2 E1 E2 v12 E3 v18 v19 v20=>(v2=a2)/\(E1=a1)/\(E2=a3)/\(fv c0)/\((SzL 176 Z0) v2)/\(aR E1)/\(gY E2)/\((SzL 16 (λ_=>True)) v12)/\((SzL 144 fP) v18)/\(0<=v20)/\(v20<v19)/\(E1.Objects.length<=60)/\(E1.Players.length<=4)/\(0<=c0.used)/\(c0.used<=(c0.answers.length:Int))/\(v19=(v18.length:Int))/\(v18.length=a4.length)/\((v12.length:Int)=v20)/\(0<=v20)/\(v20<v19)
def uV:nF->M6
 |.L0 c0 v2 E1 E2 v12 v18 v19 v20=>(1,(v19-v20).toNat,1000000,0,0,0)
 |.L1 c0 v2 E1 E2 v12 E3 v18 v19 v20=>(1,(v19-v20).toNat,0,0,0,0)
def Kk{b0:bm}{a1:ab}{a2:List ah}{a3:bV}{a4:List bo}{c0:bm}{v2:List ah}{E1:ab}{E2:bV}{v12:List bW}{E3:bc}{v18:List bo}{v19:Int}{v20:Int}(h:(Af b0 a1 a2 a3 a4) (.L1 c0 v2 E1 E2 v12 E3 v18 v19 v20)):Tot (lK c0 v2 E1 E2 v12 E3 v18 v19 v20).den (Nx (Af b0 a1 a2 a3 a4) uV (1,(v19-v20).toNat,0,0,0,0) (Kj b0 a1 a2 a3 a4)):=by
 obtain⟨al0,al1,al2,oc0,ov2,O1,O2,ov12,ov18,cv20,bd10,i0,i1,i2,i3,i4,i5,i6,i7,i8⟩:=h;have lb_v2:=ov2.1;have lb_v12:=ov12.1;have lb_v18:=ov18.1;subst al0;subst al1;subst al2;dsimp only[lK,LT.den];apply tE<;>intro h1
 .exact Kl
 exact Kl
def ZaY{b0:bm}{a1:ab}{a2:List ah}{a3:bV}{a4:List bo}(ob0:fv b0)(oa1:aR a1)(oa2:(SzL 176 Z0) a2)(oa3:gY a3)(oa4:(SzL 144 fP) a4)(h0:a1.Objects.length<=60)(h1:a1.Players.length<=4)(h2:0<=b0.used)(h3:b0.used<=(b0.answers.length:Int)):Tot (Z3o b0 a1 a2 a3 a4) (Kj b0 a1 a2 a3 a4):=by
 apply Tot.rn (Af b0 a1 a2 a3 a4) uV
 .have lb_a2:=oa2.1;have lb_a4:=oa4.1;dsimp only[Km,LT.den];have q1:=oa4.1;exact tL ⟨rfl,rfl,rfl,ob0,oa2,oa1,oa3,SzL.nil,oa4,cs⟩ Ko
 intro s hs;cases s with
 |L0 c0 v2 E1 E2 v12 v18 v19 v20=>
  obtain⟨al0,al1,al2,oc0,ov2,O1,O2,ov12,ov18,cv20,i0,i1,i2,i3,i4,i5,i6,i7⟩:=hs;have lb_v2:=ov2.1;have lb_v12:=ov12.1;have lb_v18:=ov18.1;subst al0;subst al1;subst al2;dsimp only[Ag,Kp,LT.den,uV];apply tD<;>intro h1
  .refine Tot.ix λx1 h2=>?_;have oh2:fP x1:=ov18.2 x1 h2.1;have mh2:=h2.2;refine tB (ZaW O1 ov2 O2 oh2 cl cl) λx2 h3=>?_;have eh3_1:=h3.2.1;have eh3_2:=h3.2.2;have q1:=h3.1.1;apply tE<;>intro h4
   .exact tR ⟨SzL.nil,oc0,cl,tk67,tk67,cs⟩
   refine tB (Ke oc0 h3.1 cl cl) λx3 h5=>?_;have eh5_2:=h5.2.2.1;have eh5_3:=h5.2.2.2.1;have eh5_4:=h5.2.2.2.2;refine Tot.ix λx4 h6=>?_;have mh6:=h6.2;apply tD<;>intro h7
   .refine Tot.ix λx5 h8=>?_;have mh8:=h8.2;apply tD<;>intro h9
    .apply tD<;>intro h10
     .refine Tot.ix λx6 h11=>?_;have mh11:=h11.2;exact uW
     exact uW
    exact uW
   exact uW
  exact tR ⟨ov12,oc0,cl,tk67,tk67,cs⟩
 |L1 _ _ _ _ _ _ _ _ _=>exact Kk hs
def ZaZ{b0:bm}{a1:List aw}{a2:ab}{a3:Z2}(ob0:fv b0)(oa1:(SzL 176 ca) a1)(oa2:aR a2)(oa3:iv a3)(h0:SBd a2)(h1:∀c,c∈a1->c.Abilities.length<=8)(h2:0<=b0.used)(h3:b0.used<=(b0.answers.length:Int)):Tot (Kq b0 a1 a2 a3) (λr=>(aR r.1)/\(fv r.2)/\(0<=r.2.used)/\(r.2.used<=(r.2.answers.length:Int))/\(PutR a2 a3 r.1)):=by
 apply tZ;have lb_a1:=oa1.1;obtain⟨sb1,sb2,sb3⟩:=(by assumption:SBd a2);dsimp only[Z8b,LT.den];refine tB (ZaJ oa1 oa2 cl cl ct) λx1 h1=>?_;have eh1_1:=h1.2.1;have eh1_2:=h1.2.2;refine tB (ZaY ob0 oa2 h1.1 SzL.nil oa3.2.2.2.1 cl cl cl cl) λx2 h2=>?_;have eh2_2:=h2.2.2.1;have eh2_3:=h2.2.2.2.1;have eh2_4:=h2.2.2.2.2.1;have eh2_5:=h2.2.2.2.2.2.1;have eh2_6:=h2.2.2.2.2.2.2;apply tO<;>intro h3
 .exact tR ⟨oa2,h2.2.1,cl,cl,tk40⟩
 refine tB (ZaX oa2 ⟨oa3,h2.1⟩) λx3 h4=>?_;have eh4_1:=h4.2;exact tR ⟨h4.1,h2.2.1,cl,cl,tk40⟩
def Za0(b0:List Int)(a1:Int)(b1:List Int)(ob0:SzL 8 (λ_=>True) b0)(ob1:SzL 8 (λ_=>True) b1)(h0:b0.length<=4096)(h1:0<=a1)(h2:a1<=(b0.length:Int))(h3:b1.length=1) :
 Tot (Kr b0 a1 b1) (λr=>(SzL 8 (λ_=>True) r)/\(a1=0->r=b1++b0)):=by
 match b1,h3 with
 |[y],_=>
  refine⟨_,Hk h1 h2 O,⟨?_,λ_ _=>trivial⟩,λe=>?_⟩
  .exact ze
  subst e;simp
def Z9j(b0:bm)(a1:List aw)(a2:ab):lL->Prop
 |.L0 c0 v1 E1 E2 E3 v8 v22 v23 v24=>(v1=a1)/\(E1=a2)/\(fv c0)/\((SzL 176 ca) v1)/\(aR E1)/\(aR E2)/\(aR E3)/\((SzL 768 iv) v22)/\(0<=v24)/\(SmT E1)/\(∀c,c∈v1->c.Abilities.length<=8)/\(0<=c0.used)/\(c0.used<=(c0.answers.length:Int))/\(SBd E3)/\(v22=E1.Waiting)/\(v23=(v22.length:Int))/\(v24<=v23)/\(E3={ E1 with Waiting:=[] })/\(Z4u E1.Waiting v8 v24)
 |.L1 c0 v1 E1 E2 E3 v8 v55 v56 v57=>(v1=a1)/\(E1=a2)/\(fv c0)/\((SzL 176 ca) v1)/\(aR E1)/\(aR E2)/\(aR E3)/\((SzL 8 (λ_=>True)) v55)/\(0<=v57)/\(SmT E1)/\(∀c,c∈v1->c.Abilities.length<=8)/\(0<=c0.used)/\(c0.used<=(c0.answers.length:Int))/\(SBd E3)/\(Z4u E1.Waiting v8 (E1.Waiting.length:Int))/\(v55=cR E1)/\(v56=(v55.length:Int))/\(T1 E1 E3 v57)
 |.L2 c0 v1 E1 E2 E3 v8 v14 v55 v56 v57 v71 v72 v73=>(v1=a1)/\(E1=a2)/\(fv c0)/\((SzL 176 ca) v1)/\(aR E1)/\(aR E2)/\(aR E3)/\((SzL 24 (λ_=>True)) v14)/\((SzL 8 (λ_=>True)) v55)/\((SzL 8 (λ_=>True)) v71)/\(0<=v73)/\(0<=v57)/\(v57<v56)/\(SmT E1)/\(∀c,c∈v1->c.Abilities.length<=8)/\(0<=c0.used)/\(c0.used<=(c0.answers.length:Int))/\(SBd E3)/\(Z4u E1.Waiting v8 (E1.Waiting.length:Int))/\(v55=cR E1)/\(v56=(v55.length:Int))/\(v72=(v71.length:Int))/\(v73<=v72)/\(T2 E1 E3 v57 v14 v71 v73)
def Ks:lL->M6
 |.L0 c0 v1 E1 E2 E3 v8 v22 v23 v24=>(3,(v23-v24).toNat,1000000,0,0,0)
 |.L1 c0 v1 E1 E2 E3 v8 v55 v56 v57=>(1,(v56-v57).toNat,1000000,0,0,0)
 |.L2 c0 v1 E1 E2 E3 v8 v14 v55 v56 v57 v71 v72 v73=>(1,(v56-v57).toNat,1,(v72-v73).toNat,1000000,0)
def Kt{b0:bm}{a1:List aw}{a2:ab}(ob0:fv b0)(oa1:(SzL 176 ca) a1)(oa2:aR a2)(h0:SmT a2)(h1:SBd a2)(h2:∀c,c∈a1->c.Abilities.length<=8)(h3:0<=b0.used)(h4:b0.used<=(b0.answers.length:Int)):Tot (Z0j b0 a1 a2) (λr=>(aR r.1)/\(fv r.2)/\(TrF a2 r.1)):=by
 apply Tot.rn (Z9j b0 a1 a2) Ks
 .have lb_a1:=oa1.1;dsimp only[Ku,LT.den];refine tB (tz oa2) λx1 h1=>?_;have eh1_1:=h1.2;have q1:=oa2.2.2.2.2.2.1.1;exact tL ⟨rfl,rfl,ob0,oa1,oa2,⟨SzL.nil,SzL.nil,SzL.nil,SzL.nil,SzL.nil,SzL.nil,SzL.nil,SzL.nil⟩,⟨h1.1.1,h1.1.2.1,h1.1.2.2.1,h1.1.2.2.2.1,h1.1.2.2.2.2.1,SzL.nil,h1.1.2.2.2.2.2.2.1,h1.1.2.2.2.2.2.2.2⟩,oa2.2.2.2.2.2.1,cl,V,V,cl,cl,tk43,dz,cl,cl,Kv,tk25⟩ tk97
 intro s hs;cases s with
 |L0 c0 v1 E1 E2 E3 v8 v22 v23 v24=>
  obtain⟨al0,al1,oc0,ov1,O1,O2,O3,ov22,cv24,i0,i1,i2,i3,i4,i5,i6,i7,i8,i9⟩:=hs;have lb_v1:=ov1.1;have lb_v22:=ov22.1;subst al0;subst al1;dsimp only[qE,Kw,LT.den];have lw:=O1.2.2.2.2.2.1.1;obtain⟨sb1,sb2,sb3⟩:=(by assumption:SBd E1);have lv:v22.length=E1.Waiting.length:=dw List.length (by assumption:v22=E1.Waiting);apply tD<;>intro h1
  .refine Tot.ix λx1 h2=>?_;have oh2:iv x1:=ov22.2 x1 h2.1;have mh2:=h2.2;refine tB (Tot.lk) λx2 h3=>?_;have dh3:(mlk v8 x1.Control []).1=x2:=by first|exact h3|exact h3.symm
   have nh3:x2.length<=8:=Kx
   have q1:x2.length*24<=140737488351232:=(show SzL 24 (λ_=>True) x2 from SzL.tr).1;refine Tot.ap λx3 h4=>?_;have lh4:=db h4;refine tB (Tot.lk) λx4 h5=>?_;have q2:=wr (v24+1);exact tL ⟨rfl,rfl,oc0,ov1,O1,O2,O3,ov22,cl,V,V,cl,cl,tk43,dz,cl,cl,Kv,tk25⟩ tk97
  refine tB (XY O1) λx1 h2=>?_;have eh2_1:=h2.2.1;have eh2_2:=h2.2.2;refine tB (yj O1) λx2 h3=>?_;have eh3_1:=h3.2.1;have eh3_2:=h3.2.2;refine tB (tQ h3.1) λx3 h4=>?_;apply tF<;>intro h5
  .refine tB (Za0 x1 0 [E1.Active] h2.1 SzL.tr cl cl cl cl) λx4 h6=>?_;have eh6_1:=h6.2;have wh6:=eh6_1 rfl;exact tL ⟨rfl,rfl,oc0,ov1,O1,O2,O3,h6.1,cl,V,V,cl,cl,tk43,tk57,tk17,cl,tk10⟩ tk97
  exact tL ⟨rfl,rfl,oc0,ov1,O1,O2,O3,h2.1,cl,V,V,cl,cl,tk43,tk57,tk17,cl,tk10⟩ tk97
 |L1 c0 v1 E1 E2 E3 v8 v55 v56 v57=>
  obtain⟨al0,al1,oc0,ov1,O1,O2,O3,ov55,cv57,i0,i1,i2,i3,i4,i5,i6,i7,i8⟩:=hs;have lb_v1:=ov1.1;have lb_v55:=ov55.1;subst al0;subst al1;dsimp only[qE,Ky,LT.den];have lw:=O1.2.2.2.2.2.1.1;obtain⟨sb1,sb2,sb3⟩:=(by assumption:SBd E1);apply tD<;>intro h1
  .refine Tot.ix λx1 h2=>?_;have mh2:=h2.2;refine tB (Tot.lk) λx2 h3=>?_;have dh3:(mlk v8 x1 []).1=x2:=by first|exact h3|exact h3.symm
   have nh3:x2.length<=8:=Kx
   have q1:x2.length*24<=140737488351232:=(show SzL 24 (λ_=>True) x2 from SzL.tr).1;apply tE<;>intro h4
   .have q2:=wr (v57+1);exact Kz
   refine tB (Ke oc0 SzL.tr cl cl) λx3 h5=>?_;have eh5_2:=h5.2.2.1;have eh5_3:=h5.2.2.2.1;have eh5_4:=h5.2.2.2.2;have wh5:=eh5_4 rfl;exact tL ⟨rfl,rfl,h5.2.1,ov1,O1,O2,O3,SzL.tr,ov55,h5.1,cl,cl,cl,V,V,cl,cl,tk43,V,V,cl,cl,cl,tk3⟩ tk97
  exact tR ⟨O3,oc0,(by exact Za1 V V O)⟩
 |L2 c0 v1 E1 E2 E3 v8 v14 v55 v56 v57 v71 v72 v73=>
  obtain⟨al0,al1,oc0,ov1,O1,O2,O3,ov14,ov55,ov71,cv73,cv57,bd12,i0,i1,i2,i3,i4,i5,i6,i7,i8,i9,i10⟩:=hs;have lb_v1:=ov1.1;have lb_v14:=ov14.1;have lb_v55:=ov55.1;have lb_v71:=ov71.1;subst al0;subst al1;dsimp only[qE,KA,LT.den];have lw:=O1.2.2.2.2.2.1.1;obtain⟨sb1,sb2,sb3⟩:=(by assumption:SBd E1);apply tD<;>intro h1
  .refine Tot.ix λx1 h2=>?_;have mh2:=h2.2;apply tD<;>intro h3
   .have q1:=ov14.1;apply tD<;>intro h4
    .refine Tot.ix λx2 h5=>?_;have mh5:=h5.2;have rh5:=Za2 V h5.2;refine Tot.ix λx3 h6=>?_;have oh6:iv x3:=O1.2.2.2.2.2.1.2 x3 h6.1;have mh6:=h6.2;refine tB (ZaZ oc0 ov1 O3 oh6 V V cl cl) λx4 h7=>?_;have eh7_2:=h7.2.2.1;have eh7_3:=h7.2.2.2.1;have eh7_4:=h7.2.2.2.2;have q2:=wr (v73+1);exact tL ⟨rfl,rfl,h7.2.1,ov1,O1,O2,h7.1,ov14,ov55,ov71,cl,cl,cl,V,V,cl,cl,tk43,V,V,cl,cl,cl,tk3⟩ tk97
    have q2:=wr (v73+1);exact KB
   have q1:=wr (v73+1);exact KB
  have q1:=wr (v57+1);exact Kz
def uX:Tot KC (λr=>r=true):=⟨true,by kernel_rfl,rfl⟩
def Za3:qF->Prop
 |.L0 v0 v3=>((SzL 24 (SzL 8 (λ_=>True))) v0)/\(0<=v3)
def KD:qF->M6
 |.L0 v0 v3=>(1,((v0.length:Int)-v3).toNat,1000000,0,0,0)
def Z34{a0:List (List Int)}(oa0:(SzL 24 (SzL 8 (λ_=>True))) a0):Tot (KE a0) (λr=>True):=by
 apply Tot.rn Za3 KD
 .have lb_a0:=oa0.1;dsimp only[Z8d,LT.den];exact tL ⟨oa0,cl⟩ KF
 rintro⟨v0,v3⟩ ⟨ov0,cv3⟩;have lb_v0:=ov0.1;dsimp only[Ah,Z54,LT.den];have q1:=ov0.1;apply tD<;>intro h1
 .refine Tot.ix λx1 h2=>?_;have oh2:(SzL 8 (λ_=>True)) x1:=ov0.2 x1 h2.1;have q2:=oh2.1;apply tD<;>intro h3
  .exact tR aa
  have q3:=wr (v3+1);exact tL ⟨ov0,cl⟩ KF
 exact tR aa
def KG{a0:ab}{a1:Int}(oa0:aR a0)(h0:gZ a0):Tot (KH a0 a1) (λr=>(0<=a1->a1<(a0.Players.length:Int)->r=plF a0 a1)):=by apply tZ;obtain⟨pa1,pa2⟩:=(by assumption:gZ a0);dsimp only[KI,LT.den];have q1:=wr (a1-a0.Active);have q2:=oa0.1.1;have q3:=wr ((IntKind.wrap .i64 (a1-a0.Active))+(a0.Players.length:Int));exact tB (tK tk84) λx1 h1=>tR (by(intro p0 p1;exact Za4 p0 p1 pa1 pa2 (by rw[nG (a1-a0.Active) O O,nG _ O O])))
def Z0a{b0:bm}(ob0:fv b0):Tot (KJ b0) (λr=>(fp r.1)/\(r=(if b0.waits=true then(b0.pending,true)else(mK,false)))):=by
 apply tZ;dsimp only[KK,LT.den];apply tO<;>intro h1
 .exact tR ⟨SzL.nil,tk80⟩
 refine tB (EZ ob0.2) λx1 h2=>?_;have eh2_1:=h2.2;exact tR ⟨h2.1,tk80⟩
def Z35{b0:bm}(ob0:fv b0):Tot (KL b0) (λr=>True):=by apply tZ;dsimp only[Z8e,LT.den];refine tB (Z0a ob0) λx1 h1=>?_;have eh1_1:=h1.2;exact tR aa
def Za5:qG->Prop
 |.L0 E0 E1 v9=>(aR E0)/\(aR E1)/\(0<=v9)/\(SmT E0)/\(TrF E0 E1)
def KM:qG->M6
 |.L0 E0 E1 v9=>(1,((E1.Stack.length:Int)-v9).toNat,1000000,0,0,0)
def Za6{a0:List aw}{a1:ab}{a2:List (List Int)}(oa0:(SzL 176 ca) a0)(oa1:aR a1)(oa2:(SzL 24 (SzL 8 (λ_=>True))) a2):Tot (KN a0 a1 a2) (λr=>(r=true)):=by
 apply Tot.rn Za5 KM
 .have lb_a0:=oa0.1;have lb_a2:=oa2.1;dsimp only[Z8g,LT.den];refine tB (KO oa0 oa1) λx1 h1=>?_;have eh1_0:=h1.1;have eh1_1:=h1.2.1;have eh1_2:=h1.2.2.1;have eh1_3:=h1.2.2.2.1;have eh1_4:=h1.2.2.2.2;apply tO<;>intro h2
  .exact KP
  have h2_0:=eh1_0 h2;have h2_1:=eh1_1 h2;have h2_2:=eh1_2 h2;have h2_3:=eh1_3 h2;have h2_4:=eh1_4 h2;refine tB (Z34 oa2) λx2 h3=>?_;apply tO<;>intro h4
  .exact KQ
  refine tB (KR oa2) λx3 h5=>?_;have eh5_1:=h5.2.1;have eh5_2:=h5.2.2;refine tB (Kt h5.1 oa0 oa1 V V V cl cl) λx4 h6=>?_;have eh6_2:=h6.2.2;have wh6:=qH (by assumption:TrF _ _) V;refine tB (Z35 h6.2.1) λx5 h7=>?_;apply tF<;>intro h8
  .exact KS
  have q1:=h6.1.2.2.2.2.2.1.1;apply tN<;>intro h9
  .exact hH
  have q2:=h6.1.2.2.2.2.1.1;have q3:=oa1.2.2.2.2.1.1;apply tD<;>intro h10
  .exact hH
  have q4:=oa1.2.2.2.2.2.1.1;have q5:=wr ((a1.Stack.length:Int)+(a1.Waiting.length:Int));apply tD<;>intro h11
  .exact hH
  exact tL ⟨oa1,h6.1,cl,V,V⟩ KT
 rintro⟨E0,E1,v9⟩ ⟨O0,O1,cv9,i0,i1⟩;dsimp only[Ai,Z56,LT.den];have wl:=qH (by assumption:TrF _ _) V;have wn:=(by assumption:SmT E0).2;have q1:=O1.2.2.2.2.1.1;apply tD<;>intro h1
 .refine Tot.ix λx1 h2=>?_;have oh2:eX x1:=O1.2.2.2.2.1.2 x1 h2.1;have mh2:=h2.2;have q2:=O0.2.2.2.2.1.1;apply tD<;>intro h3
  .refine Tot.ix λx2 h4=>?_;have oh4:eX x2:=O0.2.2.2.2.1.2 x2 h4.1;have mh4:=h4.2;apply tN<;>intro h5
   .exact hH
   have q3:=wr (v9+1);exact Aj
  apply tD<;>intro h4
  .exact hH
  have q3:=O0.1.1;apply tD<;>intro h5
  .exact hH
  refine Tot.ix λx2 h6=>?_;have oh6:fK x2:=O0.1.2 x2 h6.1;have mh6:=h6.2;apply tF<;>intro h7
  .exact hH
  apply tN<;>intro h8
  .exact hH
  apply tD<;>intro h9
  .have q4:=wr (v9-1);refine Tot.ix λx3 h10=>?_;have oh10:eX x3:=O1.2.2.2.2.1.2 x3 h10.1;have mh10:=h10.2;refine tB (KG O0 KU) λx4 h11=>tB (KG O0 KU) λx5 h12=>?_;apply tD<;>intro h13
   .exact hH
   have q5:=wr (v9+1);exact Aj
  have q4:=wr (v9+1);exact Aj
 have q2:=wr (E0.NextId+(E1.Stack.length:Int));have q3:=O0.2.2.2.2.1.1;have q4:=wr ((IntKind.wrap .i64 (E0.NextId+(E1.Stack.length:Int)))-(E0.Stack.length:Int));apply tE<;>intro h2
 .exact KV
 exact hH
def Za7:nH->Prop
 |.L0 E0 E1 v9 v10=>(aR E0)/\(aR E1)/\(0<=v10)/\(SmT E0)/\(TrF E0 E1)/\(0<=v9)/\(v9<=v10)/\(v10<=(E0.Waiting.length:Int))/\(v9<=(SE E0.Waiting (cR E0) v10.toNat:Int))
 |.L1 E0 E1 v9 v12=>(aR E0)/\(aR E1)/\(0<=v12)/\(SmT E0)/\(TrF E0 E1)/\(0<=v9)/\((E0.Stack.length:Int)<=v12)/\(v9<=(SE E0.Waiting (cR E0) E0.Waiting.length:Int))
def Z0t:nH->M6
 |.L0 E0 E1 v9 v10=>(3,((E0.Waiting.length:Int)-v10).toNat,1000000,0,0,0)
 |.L1 E0 E1 v9 v12=>(1,((E1.Stack.length:Int)-v12).toNat,1000000,0,0,0)
def Zaf{a0:List aw}{a1:ab}{a2:List (List Int)}(oa0:(SzL 176 ca) a0)(oa1:aR a1)(oa2:(SzL 24 (SzL 8 (λ_=>True))) a2):Tot (Z8h a0 a1 a2) (λr=>(r=true)):=by
 apply Tot.rn Za7 Z0t
 .have lb_a0:=oa0.1;have lb_a2:=oa2.1;dsimp only[Z3q,LT.den];refine tB (KO oa0 oa1) λx1 h1=>?_;have eh1_0:=h1.1;have eh1_1:=h1.2.1;have eh1_2:=h1.2.2.1;have eh1_3:=h1.2.2.2.1;have eh1_4:=h1.2.2.2.2;apply tO<;>intro h2
  .exact KP
  have h2_0:=eh1_0 h2;have h2_1:=eh1_1 h2;have h2_2:=eh1_2 h2;have h2_3:=eh1_3 h2;have h2_4:=eh1_4 h2;refine tB (Z34 oa2) λx2 h3=>?_;apply tO<;>intro h4
  .exact KQ
  refine tB (KR oa2) λx3 h5=>?_;have eh5_1:=h5.2.1;have eh5_2:=h5.2.2;refine tB (Kt h5.1 oa0 oa1 V V V cl cl) λx4 h6=>?_;have eh6_2:=h6.2.2;have wh6:=qH (by assumption:TrF _ _) V;refine tB (Z35 h6.2.1) λx5 h7=>?_;apply tF<;>intro h8
  .exact KS
  exact tL ⟨oa1,h6.1,cl,V,V,cl,cl,cl,tk7⟩ tk99
 intro s hs;cases s with
 |L0 E0 E1 v9 v10=>
  obtain⟨O0,O1,cv10,i0,i1,i2,i3,i4,i5⟩:=hs;dsimp only[uY,Z0k,LT.den];have wl:=qH (by assumption:TrF _ _) V;have wn:=(by assumption:SmT E0).2;have q1:=O0.2.2.2.2.2.1.1;apply tD<;>intro h1
  .refine Tot.ix λx1 h2=>?_;have oh2:iv x1:=O0.2.2.2.2.2.1.2 x1 h2.1;have mh2:=h2.2;have q2:=oh2.2.2.2.1.1;apply tE<;>intro h3
   .apply tD<;>intro h4
    .have q3:=O0.1.1;apply tD<;>intro h5
     .refine Tot.ix λx2 h6=>?_;have oh6:fK x2:=O0.1.2 x2 h6.1;have mh6:=h6.2;apply tO<;>intro h7
      .have q4:=wr (v9+1);have q5:=wr (v10+1);exact Ak
      exact KW
     exact KW
    exact KX
   exact KX
  have q2:=O0.2.2.2.2.1.1;exact KY
 |L1 E0 E1 v9 v12=>
  obtain⟨O0,O1,cv12,i0,i1,i2,i3,i4⟩:=hs;dsimp only[uY,Z0l,LT.den];have wl:=qH (by assumption:TrF _ _) V;have wn:=(by assumption:SmT E0).2;have q1:=O1.2.2.2.2.1.1;apply tD<;>intro h1
  .refine Tot.ix λx1 h2=>?_;have oh2:eX x1:=O1.2.2.2.2.1.2 x1 h2.1;have mh2:=h2.2;have q2:=oh2.2.1;have q3:=oh2.1.2.2.2.1.1;apply tN<;>intro h3
   .exact hH
   have q4:=wr (v12+1);exact KY
  have q2:=O0.2.2.2.2.1.1;have q3:=wr ((E0.Stack.length:Int)+v9);apply tD<;>intro h2
  .exact KV
  exact hH
end Go.PW
