import Derived.Test.YtchddhcajpagjaaGreatQXb
set_option linter.all false
set_option maxRecDepth 100000
namespace Go.PW
abbrev ZfK(b0:ak)(a1:Int)(r:(List Int)×ak):Prop:=((SzL 8 (λ_=>True)) r.1)/\(ct r.2)/\(r.2.traits.length=r.2.s.Objects.length)/\(r.2.dropped.length=r.2.s.Objects.length)/\(r.2.done.length=r.2.forces.length)/\(r.2.hits.length=r.2.forces.length)/\(r.2.s.Objects.length<=2048)/\(r.2.forces.length<=16448)/\(HI r.2.s.Objects.length r.2.hits)/\(r.2.s=b0.s)/\(r.2.forces=b0.forces)/\(r=stgV b0 a1)
def ZfL(b0:ak)(a1:Int):n4->Prop
 |.L0 c0 v1 v5 v6 v7 v18 v19 v20=>(v1=a1)/\(ct c0)/\((SzL 8 (λ_=>True)) v5)/\((SzL 8 (λ_=>True)) v6)/\((SzL 8 (λ_=>True)) v7)/\((SzL 224 gq) v18)/\(0<=v20)/\(c0.traits.length=c0.s.Objects.length)/\(c0.dropped.length=c0.s.Objects.length)/\(c0.done.length=c0.forces.length)/\(c0.hits.length=c0.forces.length)/\(c0.s.Objects.length<=2048)/\(c0.forces.length<=16448)/\(HI c0.s.Objects.length c0.hits)/\(c0.s.Objects.length=b0.s.Objects.length)/\(c0.forces.length=b0.forces.length)/\(c0.s=b0.s)/\(c0.forces=b0.forces)/\(v19=(v18.length:Int))/\(v19=(c0.forces.length:Int))/\(v5.length<=v20.toNat)/\(v7.length<=v20.toNat)/\(v20<=v19)/\(v6.length=0)/\(INR b0.forces.length v5)/\(bU c0.s.Objects)/\(c0=(if v1=7 then Z8u b0 else b0))/\(v18=b0.forces)/\(v5=zfm (λ_ f=>belB f v1) (λk _=>k) v18 v20)/\(v7=(v18.take v20.toNat).map λf=>f.Stamp)
 |.L1 c0 v1 v5 v6 v7=>(v1=a1)/\(ct c0)/\((SzL 8 (λ_=>True)) v5)/\((SzL 8 (λ_=>True)) v6)/\((SzL 8 (λ_=>True)) v7)/\(c0.traits.length=c0.s.Objects.length)/\(c0.dropped.length=c0.s.Objects.length)/\(c0.done.length=c0.forces.length)/\(c0.hits.length=c0.forces.length)/\(c0.s.Objects.length<=2048)/\(c0.forces.length<=16448)/\(HI c0.s.Objects.length c0.hits)/\(c0.s.Objects.length=b0.s.Objects.length)/\(c0.forces.length=b0.forces.length)/\(c0.s=b0.s)/\(c0.forces=b0.forces)/\(v6.length+v5.length<=b0.forces.length)/\(v7.length<=16448)/\(INR b0.forces.length v5)/\(bU c0.s.Objects)/\(v5.Nodup)/\(v7=b0.forces.map λf=>f.Stamp)/\(STG b0 v1 c0 v5 v6)/\(v6.length+v5.length=(Z4f b0.forces v1).length)
def KB:n4->M6
 |.L0 c0 v1 v5 v6 v7 v18 v19 v20=>(1,(v19-v20).toNat,0,0,0,0)
 |.L1 c0 v1 v5 v6 v7=>(0,v5.length,0,0,0,0)
def ZfM{b0:ak}{a1:Int}(ob0:ct b0)(h0:b0.traits.length=b0.s.Objects.length)(h1:b0.dropped.length=b0.s.Objects.length)(h2:b0.done.length=b0.forces.length)(h3:b0.hits.length=b0.forces.length)(h4:b0.s.Objects.length<=2048)(h5:b0.forces.length<=16448)(h6:HI b0.s.Objects.length b0.hits)(h7:bU b0.s.Objects):Tot (KC b0 a1) (ZfK b0 a1):=by
 apply Tot.rn (ZfL b0 a1) KB
 .dsimp only[KD,LT.den];apply tE<;>intro h1
  .refine tB (ZfN ob0 cl cl cl cl cl cl bB) λx1 h2=>?_;have eh2_1:=h2.2.1;have eh2_2:=h2.2.2.1;have eh2_3:=h2.2.2.2.1;have eh2_4:=h2.2.2.2.2.1;have eh2_5:=h2.2.2.2.2.2.1;have eh2_6:=h2.2.2.2.2.2.2.1;have eh2_7:=h2.2.2.2.2.2.2.2.1;have eh2_8:=h2.2.2.2.2.2.2.2.2.1;have eh2_9:=h2.2.2.2.2.2.2.2.2.2.1;have eh2_10:=h2.2.2.2.2.2.2.2.2.2.2;have q1:=h2.1.2.1.1;exact tL ⟨rfl,h2.1,SzL.nil,SzL.nil,SzL.nil,h2.1.2.1,cl,cl,cl,cl,cl,cl,cl,bB,dI,dI,cz,cz,cl,cl,cl,cl,cl,cl,tk55,cP,tk90,aF,tk38,tk81⟩ n5
  have q1:=ob0.2.1.1;exact tL ⟨rfl,ob0,SzL.nil,SzL.nil,SzL.nil,ob0.2.1,cl,cl,cl,cl,cl,cl,cl,bB,dI,dI,cz,cz,cl,cl,cl,cl,cl,cl,tk55,cP,tk90,aF,tk38,tk81⟩ n5
 intro s hs;cases s with
 |L0 c0 v1 v5 v6 v7 v18 v19 v20=>
  obtain⟨al0,oc0,ov5,ov6,ov7,ov18,cv20,i0,i1,i2,i3,i4,i5,i6,i7,i8,i9,i10,i11,i12,i13,i14,i15,i16,i17,i18,i19,i20,i21,i22⟩:=hs;have lb_v5:=ov5.1;have lb_v6:=ov6.1;have lb_v7:=ov7.1;subst al0;dsimp only[vi,KE,LT.den];apply tD<;>intro h1
  .refine Tot.ix λx1 h2=>?_;have oh2:gq x1:=ov18.2 x1 h2.1;have mh2:=h2.2;have q1:=ov7.1;refine Tot.ap λx2 h3=>?_;have lh3:=ca h3;refine tB (ZfO oh2) λx3 h4=>?_;apply tF<;>intro h5
   .have q2:=ov5.1;refine Tot.ap λx4 h6=>?_;have lh6:=ca h6;have q3:=wr (v20+1);exact tL ⟨rfl,oc0,SzL.tr,ov6,SzL.tr,ov18,cl,cl,cl,cl,cl,cl,cl,bB,dI,dI,cz,cz,cl,cl,cl,cl,cl,cl,tk55,cP,tk90,aF,tk38,tk81⟩ n5
   have q2:=wr (v20+1);exact tL ⟨rfl,oc0,ov5,ov6,SzL.tr,ov18,cl,cl,cl,cl,cl,cl,cl,bB,dI,dI,cz,cz,cl,cl,cl,cl,cl,cl,tk55,cP,tk90,aF,tk38,tk81⟩ n5
  exact tL ⟨rfl,oc0,ov5,ov6,ov7,cl,cl,cl,cl,cl,cl,bB,dI,dI,cz,cz,cl,cl,tk55,cP,tk93,KF,tk30,tk44⟩ n5
 |L1 c0 v1 v5 v6 v7=>
  obtain⟨al0,oc0,ov5,ov6,ov7,i0,i1,i2,i3,i4,i5,i6,i7,i8,i9,i10,i11,i12,i13,i14,i15,i16,i17,i18⟩:=hs;have lb_v5:=ov5.1;have lb_v6:=ov6.1;have lb_v7:=ov7.1;subst al0;dsimp only[vi,KG,LT.den];apply tD<;>intro h1
  .refine tB (ZfP oc0 ov5 cl cl cl cl cl cl bB cl KH cP) λx1 h2=>?_;have eh2_1:=h2.2;refine tB (ZfQ ov5 ov7 h2.1 cl jf) λx2 h3=>?_;have eh3_0:=h3.1;have eh3_1:=h3.2;have wh3:=ZfR (by assumption:INR b0.forces.length v5) (by assumption:x2<0\/x2∈v5);apply tD<;>intro h4
   .exact KI
   refine tB (KJ oc0 cl cl cl cl cl cl bB cl cl cP) λx3 h5=>?_;have eh5_1:=h5.2.1;have eh5_2:=h5.2.2.1;have eh5_3:=h5.2.2.2.1;have eh5_4:=h5.2.2.2.2.1;have eh5_5:=h5.2.2.2.2.2.1;have eh5_6:=h5.2.2.2.2.2.2.1;have eh5_7:=h5.2.2.2.2.2.2.2.1;have eh5_8:=h5.2.2.2.2.2.2.2.2.1;have eh5_10:=h5.2.2.2.2.2.2.2.2.2.2;have q1:=ov6.1;refine Tot.ap λx4 h6=>?_;have lh6:=ca h6;refine tB (ZfS ov5) λx5 h7=>?_;have eh7_1:=h7.2;have sh7:=flt_sub' (by assumption:x5=_);have lh7:=flt_lt' (by assumption:x5=_) V V;exact tL ⟨rfl,h5.1,h7.1,SzL.tr,ov7,cl,cl,cl,cl,cl,cl,bB,dI,dI,cz,cz,cl,cl,tk55,cP,tk93,KF,tk30,tk44⟩ n5
  exact KI
abbrev ZfT(a0:List aq)(a1:av)(r:List ab):Prop:=((SzL 176 bl) r)/\(r.length=a1.Objects.length)/\(r=(Z03 a0 a1 8).traits)
def ZfU(a0:List aq)(a1:av):rj->Prop
 |.L0 E0 v6=>(ct E0)/\(0<=v6)/\(E0.traits.length=E0.s.Objects.length)/\(E0.dropped.length=E0.s.Objects.length)/\(E0.done.length=E0.forces.length)/\(E0.hits.length=E0.forces.length)/\(E0.s.Objects.length<=2048)/\(E0.forces.length<=16448)/\(HI E0.s.Objects.length E0.hits)/\(E0.s=a1)/\(bU E0.s.Objects)/\(E0=Z03 a0 a1 (v6-1).toNat)/\(v6<=9)/\(1<=v6)
def Z4z:rj->M6
 |.L0 E0 v6=>(1,(8+1-v6).toNat,1000000,0,0,0)
def ZfV{a0:List aq}{a1:av}(oa0:(SzL 176 bQ) a0)(oa1:Z8 a1)(h0:a1.Objects.length<=2048)(h1:a1.Conts.length<=64)(h2:∀c,c∈a0->c.Abilities.length<=8)(h3:bU a1.Objects):Tot (rk a0 a1) (ZfT a0 a1):=by
 apply Tot.rn (ZfU a0 a1) Z4z
 .dsimp only[KK,LT.den];refine tB (ZfW oa0 oa1 cl cl bR) λx1 h1=>?_;have eh1_1:=h1.2.1;have eh1_2:=h1.2.2.1;have eh1_3:=h1.2.2.2.1;have eh1_4:=h1.2.2.2.2.1;have eh1_5:=h1.2.2.2.2.2.1;have eh1_6:=h1.2.2.2.2.2.2.1;have eh1_7:=h1.2.2.2.2.2.2.2.1;have eh1_8:=h1.2.2.2.2.2.2.2.2.1;have eh1_9:=h1.2.2.2.2.2.2.2.2.2;exact tL ⟨h1.1,cl,cl,cl,cl,cl,cl,cl,bB,bR,cP,KL,cs⟩ KM
 rintro⟨E0,v6⟩ ⟨O0,cv6,i0,i1,i2,i3,i4,i5,i6,i7,i8,i9,i10,i11⟩;dsimp only[Z8a,KN,LT.den];apply tD<;>intro h1
 .refine tB (ZfM O0 cl cl cl cl cl cl bB cP) λx1 h2=>?_;have eh2_2:=h2.2.2.1;have eh2_3:=h2.2.2.2.1;have eh2_4:=h2.2.2.2.2.1;have eh2_5:=h2.2.2.2.2.2.1;have eh2_6:=h2.2.2.2.2.2.2.1;have eh2_7:=h2.2.2.2.2.2.2.2.1;have eh2_8:=h2.2.2.2.2.2.2.2.2.1;have eh2_9:=h2.2.2.2.2.2.2.2.2.2.1;have eh2_11:=h2.2.2.2.2.2.2.2.2.2.2.2;have q1:=wr (v6+1);exact tL ⟨h2.2.1,cl,cl,cl,cl,cl,cl,cl,bB,bR,cP,KL,cs⟩ KM
 exact tR ⟨O0.2.2.1,dI,(by exact wr_e V O O)⟩
def ZfX{a0:List aq}{a1:av}(oa0:(SzL 176 bQ) a0)(oa1:Z8 a1)(h0:a1.Objects.length<=2048)(h1:a1.Conts.length<=64)(h2:∀c,c∈a0->c.Abilities.length<=8)(h3:bU a1.Objects):Tot (rk a0 a1) (λr=>((SzL 176 bl) r)/\(r.length=a1.Objects.length)/\(r=(Z03 a0 a1 8).traits)/\(r=allV a0 a1)):=(Tot.we (ZfV oa0 oa1 h0 h1 h2 h3)).mono λr h=>⟨h.1.1,h.1.2.1,h.1.2.2,cA (h.2.symm.trans (by unfold allV;rw[h.2];rfl))⟩
def KO:Tot KP (λr=>r=true):=⟨true,by kernel_rfl,rfl⟩
def ZfY(a0:aJ):rp->Prop
 |.L0 E0 v3 v4 v5=>(E0=a0)/\(0<=v5)/\(v5<=5)/\(v3=coP E0.Color v5)/\(v4=2 ^ v5.toNat)/\(Z01 E0=true)
def KQ:rp->M6
 |.L0 E0 v3 v4 v5=>(1,(5-v5).toNat,1000000,0,0,0)
def ZfZ{a0:aJ}:Tot (KR a0) (λr=>(r=coV a0)):=by
 apply Tot.rn (ZfY a0) KQ
 .dsimp only[KS,LT.den];refine tB (Z2n a0) λx1 h1=>?_;have eh1_0:=h1.1;have eh1_1:=h1.2.1;apply tO<;>intro h2
  .exact KT
  exact z6
 rintro⟨E0,v3,v4,v5⟩ ⟨al0,cv5,i0,i1,i2,i3⟩;subst al0;dsimp only[Z34,KU,LT.den];have lb:0<=v3/\v3<=31:=by rw[i1];exact co_b
 have lp:v4<=32/\1<=v4:=by rw[i2];exact pw_b O
 apply tD<;>intro h1
 .refine tB (tI O KV) λx1 h2=>?_;have mh2:=h2.2;apply tD<;>intro h3
  .have q1:=wr (v3+v4);have q2:=wr (2*v4);have q3:=wr (v5+1);exact z6
  have q1:=wr (2*v4);have q2:=wr (v5+1);exact z6
 exact KT
def ZgA(a0:an):rq->Prop
 |.L0 E0 E1 E2 v4=>(E0=a0)/\(Z1 E0)/\(Z1 E1)/\(Z1 E2)/\(0<=v4)/\(E2.Effects.length<=v4.toNat)/\(v4.toNat<=E0.Effects.length)/\(E2={ E0 with Effects:=E0.Effects.take v4.toNat })
def KW:rq->M6
 |.L0 E0 E1 E2 v4=>(1,((E0.Effects.length:Int)-v4).toNat,1000000,0,0,0)
def ZgB{a0:an}(oa0:Z1 a0):Tot (Z8b a0) (λr=>(Z1 r)/\(r=a0)):=by
 apply Tot.rn (ZgA a0) KW
 .dsimp only[KX,LT.den];have q1:=oa0.2.1.1;refine Tot.ap λx1 h1=>?_;have lh1:x1.length=([]:List af).length+a0.Mods.length:=by rw[h1,bm]
  try simp only[bw,bW,aN]at lh1
  have q2:=oa0.2.2.2.1.1;refine Tot.ap λx2 h2=>?_;have lh2:x2.length=([]:List cj).length+a0.Specs.length:=by rw[h2,bm]
  try simp only[bw,bW,aN]at lh2
  exact tL ⟨rfl,oa0,⟨SzS.nil,SzL.nil,SzS.nil,SzL.nil,SzL.nil,SzS.nil⟩,⟨oa0.1,SzL.app (k:=176) h1 lo (λ_ h=>by cases h) oa0.2.1.2,oa0.2.2.1,SzL.app (k:=144) h2 lo (λ_ h=>by cases h) oa0.2.2.2.1.2,SzL.nil,oa0.2.2.2.2.2⟩,cl,cl,cl,tk45⟩ KY
 rintro⟨E0,E1,E2,v4⟩ ⟨al0,O0,O1,O2,cv4,i0,i1,i2⟩;subst al0;dsimp only[Z0o,KZ,LT.den];have q1:=O0.2.2.2.2.1.1;apply tD<;>intro h1
 .refine Tot.ix λx1 h2=>?_;have oh2:cD x1:=O0.2.2.2.2.1.2 x1 h2.1;have mh2:=h2.2;have q2:=oh2.2.2.2.2.1;refine Tot.ap λx2 h3=>?_;have lh3:x2.length=([]:List af).length+x1.Mods.length:=by rw[h3,bm]
  try simp only[bw,bW,aN]at lh3
  have q3:=O2.2.2.2.2.1.1;refine Tot.ap λx3 h4=>?_;have lh4:=ca h4;have q4:=wr (v4+1);exact tL ⟨rfl,O0,O1,⟨O2.1,O2.2.1,O2.2.2.1,O2.2.2.2.1,SzL.app (k:=560) h4 lo O2.2.2.2.2.1.2 (me1 ⟨oh2.1,oh2.2.1,oh2.2.2.1,oh2.2.2.2.1,SzL.app (k:=176) h3 lo (λ_ h=>by cases h) oh2.2.2.2.2.2⟩),O2.2.2.2.2.2⟩,cl,cl,cl,tk45⟩ KY
 exact tR ⟨O2,(by exact ZgC V O)⟩
abbrev ZgD(a0:aq)(r:ab):Prop:=(bl r)/\(r.Abilities.length<=a0.Abilities.length)/\(r=prV a0)
def ZgE(a0:aq):rr->Prop
 |.L0 E0 E1 E2 v4=>(E0=a0)/\(bQ E0)/\(bl E1)/\(bl E2)/\(0<=v4)/\(E2.Abilities.length<=v4.toNat)/\(v4.toNat<=E0.Abilities.length)/\(E2={ prV E0 with Abilities:=E0.Abilities.take v4.toNat })
def K0:rr->M6
 |.L0 E0 E1 E2 v4=>(1,((E0.Abilities.length:Int)-v4).toNat,1000000,0,0,0)
def ZgF{a0:aq}(oa0:bQ a0):Tot (K1 a0) (ZgD a0):=by
 apply Tot.rn (ZgE a0) K0
 .dsimp only[K2,LT.den];refine tB (ZfZ) λx1 h1=>?_;have q1:=oa0.2.1.1;refine Tot.ap λx2 h2=>?_;have lh2:x2.length=([]:List (List UInt8)).length+a0.Line.Subs.length:=by rw[h2,bm]
  try simp only[bw,bW,aN]at lh2
  exact tL ⟨rfl,oa0,⟨SzS.nil,SzL.nil,SzL.nil⟩,⟨oa0.1,SzL.app (k:=16) h2 lo (λ_ h=>by cases h) oa0.2.1.2,SzL.nil⟩,cl,cl,cl,tk25⟩ K3
 rintro⟨E0,E1,E2,v4⟩ ⟨al0,O0,O1,O2,cv4,i0,i1,i2⟩;subst al0;dsimp only[Z0p,K4,LT.den];have q1:=O0.2.2.1;apply tD<;>intro h1
 .refine Tot.ix λx1 h2=>?_;have oh2:Z1 x1:=O0.2.2.2 x1 h2.1;have mh2:=h2.2;refine tB (ZgB oh2) λx2 h3=>?_;have eh3_1:=h3.2;have q2:=O2.2.2.1;refine Tot.ap λx3 h4=>?_;have lh4:=ca h4;have q3:=wr (v4+1);exact tL ⟨rfl,O0,O1,⟨O2.1,O2.2.1,SzL.app (k:=640) h4 lo O2.2.2.2 (me1 h3.1)⟩,cl,cl,cl,tk25⟩ K3
 exact tR ⟨O2,cl,K5⟩
abbrev Z87(a0:List aq)(a1:aj)(r:ab):Prop:=(bl r)/\(r.Abilities.length<=8)/\(r=baV a0 a1)
def ru(a0:List aq)(a1:aj):n6->Prop
 |.L0 v0 E0 E1 v5=>(v0=a0)/\(E0=a1)/\((SzL 176 bQ) v0)/\(bl E1)/\(∀c,c∈v0->c.Abilities.length<=8)/\(v5=if E0.Copy<0 then E0.Card else E0.Copy)
 |.L1 E0 E1 E2=>(E0=a1)/\(bl E1)/\(bl E2)/\(E2.Abilities.length<=8)/\(E2=fY a0 (if E0.Copy<0 then E0.Card else E0.Copy))
def z7:n6->M6
 |.L0 v0 E0 E1 v5=>(0,0,0,0,0,0)
 |.L1 E0 E1 E2=>(0,0,0,0,0,0)
def Z1w{a0:List aq}{a1:aj}{E0:aj}{E1:ab}{E2:ab}(h:(ru a0 a1) (.L1 E0 E1 E2)):Tot (n7 E0 E1 E2).den (Nx (ru a0 a1) z7 (0,0,0,0,0,0) (Z87 a0 a1)):=by
 obtain⟨al0,O1,O2,i0,i1⟩:=h;subst al0;dsimp only[n7,LT.den];apply tE<;>intro h1
 .exact z8
 apply tE<;>intro h2
 .exact z8
 exact z8
def K6{a0:List aq}{a1:aj}{v0:List aq}{E0:aj}{E1:ab}{v5:Int}(h:(ru a0 a1) (.L0 v0 E0 E1 v5)):Tot (rv v0 E0 E1 v5).den (Nx (ru a0 a1) z7 (0,0,0,0,0,0) (Z87 a0 a1)):=by
 obtain⟨al0,al1,ov0,O1,i0,i1⟩:=h;subst al0;subst al1;dsimp only[rv,LT.den];apply tD<;>intro h1
 .apply tD<;>intro h2
  .refine Tot.ix λx1 h3=>?_;have oh3:bQ x1:=ov0.2 x1 h3.1;have mh3:=h3.2;have nh3:=i0 x1 h3.1;refine tB (ZgF oh3) λx2 h4=>?_;have eh4_2:=h4.2.2;exact tJ (Z1w ⟨rfl,O1,h4.1,cl,tk42⟩)
  exact K7
 exact K7
def K8{a0:List aq}{a1:aj}(oa0:(SzL 176 bQ) a0)(h0:∀c,c∈a0->c.Abilities.length<=8):Tot (Aa a0 a1) (Z87 a0 a1):=by
 apply Tot.rn (ru a0 a1) z7
 .dsimp only[K9,LT.den];apply tD<;>intro h1
  .exact La
  exact La
 intro s hs;cases s with
 |L0 _ _ _ _=>exact K6 hs
 |L1 _ _ _=>exact Z1w hs
def ZgG(a0:List aq)(a1:av):l9->Prop
 |.L0 v0 E0 v5 v6=>(v0=a0)/\(E0=a1)/\((SzL 176 bQ) v0)/\(Z8 E0)/\((SzL 224 fI) v5)/\(0<=v6)/\(E0.Objects.length<=2048)/\(E0.Conts.length<=64)/\(∀c,c∈v0->c.Abilities.length<=8)/\(v5=obF fR v0 E0.Objects v6)/\(v6<=(E0.Objects.length:Int))
 |.L1 v0 E0 v5 v6 E1 E2 v9=>(v0=a0)/\(E0=a1)/\((SzL 176 bQ) v0)/\(Z8 E0)/\((SzL 224 fI) v5)/\(bl E2)/\(0<=v9)/\(0<=v6)/\(v6<(E0.Objects.length:Int))/\(E0.Objects.length<=2048)/\(E0.Conts.length<=64)/\(∀c,c∈v0->c.Abilities.length<=8)/\(v5=obF fR v0 E0.Objects v6++abF (fR E1) E2.Abilities v9)/\(E1.Zone=0)/\(E0.Objects[v6.toNat]?=some E1)/\(E2.Abilities=(baV v0 E1).Abilities)/\(v6<(E0.Objects.length:Int))/\(v9<=(E2.Abilities.length:Int))
 |.L2 E0 v5 v11=>(E0=a1)/\(Z8 E0)/\((SzL 224 fI) v5)/\(0<=v11)/\(∀c,c∈a0->c.Abilities.length<=8)/\(E0.Objects.length<=2048)/\(E0.Conts.length<=64)/\(v5=obF fR a0 a1.Objects a1.Objects.length++coF gR E0.Conts v11)/\(v11<=(E0.Conts.length:Int))
def Lb:l9->M6
 |.L0 v0 E0 v5 v6=>(3,((E0.Objects.length:Int)-v6).toNat,1000000,0,0,0)
 |.L1 v0 E0 v5 v6 E1 E2 v9=>(3,((E0.Objects.length:Int)-v6).toNat,1,((E2.Abilities.length:Int)-v9).toNat,1000000,0)
 |.L2 E0 v5 v11=>(1,((E0.Conts.length:Int)-v11).toNat,1000000,0,0,0)
def ZgH{a0:List aq}{a1:av}(oa0:(SzL 176 bQ) a0)(oa1:Z8 a1)(h0:a1.Objects.length<=2048)(h1:a1.Conts.length<=64)(h2:∀c,c∈a0->c.Abilities.length<=8):Tot (Ab a0 a1) (λr=>((SzL 224 fI) r)/\(r=FS fR gR a0 a1)):=by
 apply Tot.rn (ZgG a0 a1) Lb
 .dsimp only[Lc,LT.den];exact tL ⟨rfl,rfl,oa0,oa1,SzL.nil,cl,cl,cl,bR,tk35,cl⟩ ma
 intro s hs;cases s with
 |L0 v0 E0 v5 v6=>
  obtain⟨al0,al1,ov0,O0,ov5,cv6,i0,i1,i2,i3,i4⟩:=hs;have lb_v5:=ov5.1;subst al0;subst al1;dsimp only[ry,Ld,LT.den];have lq:v5.length<=8*2048:=by rw[(by assumption:v5=obF _ _ _ _)];have:=mb (f:=fR) (l:=E0.Objects) (v:=v6) (by assumption:∀c,c∈v0->_);have:E0.Objects.length<=2048:=Le;omega
  have q1:=O0.2.1.1;apply tD<;>intro h1
  .refine Tot.ix λx1 h2=>?_;have mh2:=h2.2;apply tN<;>intro h3
   .exact Lf
   exact tB (K8 ov0 bR) λx2 h4=>tL ⟨rfl,rfl,ov0,O0,ov5,h4.1,cl,cl,cl,cl,cl,bR,tk14,cl,V,bR,cs⟩ ma
  exact tL ⟨rfl,O0,ov5,cl,bR,cl,cl,tk28,cl⟩ ma
 |L1 v0 E0 v5 v6 E1 E2 v9=>
  obtain⟨al0,al1,ov0,O0,ov5,O2,cv9,cv6,bd8,i0,i1,i2,i3,i4,i5,i6,i7,i8⟩:=hs;have lb_v5:=ov5.1;subst al0;subst al1;dsimp only[ry,Lg,LT.den];have lx_0:E0.Objects.length*128<=140737488351232:=O0.2.1.1;have lq:v5.length<=8*2048+8:=by rw[(by assumption:v5=obF _ _ _ _++_),bm];have:=mb (f:=fR) (l:=E0.Objects) (v:=v6) (by assumption:∀c,c∈v0->_);have:E0.Objects.length<=2048:=Le;have:=Ac (f:=fR E1) (l:=E2.Abilities) (v:=v9);have:=Ad (by assumption:∀c,c∈v0->_) E1;rw[<- (by assumption:E2.Abilities=(baV v0 E1).Abilities)]at this;omega
  have q1:=O2.2.2.1;apply tD<;>intro h1
  .refine Tot.ix λx1 h2=>?_;have oh2:Z1 x1:=O2.2.2.2 x1 h2.1;have mh2:=h2.2;apply tE<;>intro h3
   .have q2:=ov5.1;refine Tot.ap λx2 h4=>?_;have lh4:=ca h4;have q3:=wr (v9+1);exact tL ⟨rfl,rfl,ov0,O0,SzL.app (k:=224) h4 lo ov5.2 (me1 ⟨SzL.nil,oh2.1,oh2.2.1⟩),O2,cl,cl,cl,cl,cl,bR,tk14,cl,V,bR,cs⟩ ma
   have q2:=wr (v9+1);exact tL ⟨rfl,rfl,ov0,O0,ov5,O2,cl,cl,cl,cl,cl,bR,tk14,cl,V,bR,cs⟩ ma
  exact Lf
 |L2 E0 v5 v11=>
  obtain⟨al0,O0,ov5,cv11,i0,i1,i2,i3,i4⟩:=hs;have lb_v5:=ov5.1;subst al0;dsimp only[ry,Lh,LT.den];have lq:v5.length<=8*2048+64:=by rw[(by assumption:v5=obF _ _ _ _++_),bm];have:=mb (f:=fR) (l:=E0.Objects) (v:=E0.Objects.length) (by assumption:∀c,c∈a0->_);have:(coF gR E0.Conts v11).length<=64:=(by unfold coF;rw[cN,eU];have:E0.Conts.length<=64:=(by first|omega|(rw[(by assumption:E0.Conts=_)];omega));omega);omega
  have q1:=O0.2.2.2.2.2.2.1.1;apply tD<;>intro h1
  .refine Tot.ix λx1 h2=>?_;have oh2:n8 x1:=O0.2.2.2.2.2.2.1.2 x1 h2.1;have mh2:=h2.2;have q2:=ov5.1;refine Tot.ap λx2 h3=>?_;have lh3:=ca h3;have q3:=wr (v11+1);exact tL ⟨rfl,O0,SzL.app (k:=224) h3 lo ov5.2 (me1 ⟨oh2.1,SzS.nil,oh2.2⟩),cl,bR,cl,cl,tk28,cl⟩ ma
  exact Li
def ZgI(a0:List Int)(a1:List Int):rz->Prop
 |.L0 v0 v1 v5=>(v0=a0)/\(v1=a1)/\((SzL 8 (λ_=>True)) v0)/\((SzL 8 (λ_=>True)) v1)/\(0<=v5)/\(v0.length=v1.length)/\(∀(k:Nat) x,(k:Int)<v5->v0[k]?=some x->v1[k]?=some x)
def Z88:rz->M6
 |.L0 v0 v1 v5=>(1,((v0.length:Int)-v5).toNat,1000000,0,0,0)
def Lj{a0:List Int}{a1:List Int}(oa0:(SzL 8 (λ_=>True)) a0)(oa1:(SzL 8 (λ_=>True)) a1):Tot (Lk a0 a1) (λr=>(r=true↔a0=a1)):=by
 apply Tot.rn (ZgI a0 a1) Z88
 .have lb_a1:=oa1.1;dsimp only[Ll,LT.den];have q1:=oa1.1;apply tN<;>intro h1
  .exact n9
  exact tL ⟨rfl,rfl,oa0,oa1,cl,cl,tk61⟩ Lm
 rintro⟨v0,v1,v5⟩ ⟨al0,al1,ov0,ov1,cv5,i0,i1⟩;have lb_v0:=ov0.1;subst al0;subst al1;dsimp only[Ae,Ln,LT.den];apply tD<;>intro h1
 .refine Tot.ix λx1 h2=>?_;have mh2:=h2.2;refine Tot.ix λx2 h3=>?_;have mh3:=h3.2;apply tN<;>intro h4
  .exact n9
  have q1:=wr (v5+1);exact tL ⟨rfl,rfl,ov0,ov1,cl,cl,tk61⟩ Lm
 exact n9
abbrev ZgJ(a0:List aq)(a1:av)(r:au):Prop:=(cX r)/\(r.All.length=r.S.Objects.length)/\(r.Blank.length=r.S.Objects.length)/\(r.Begun.length=r.L.length)/\(r.Sets.length=r.L.length)/\(r.S.Objects.length<=2048)/\(r.L.length<=16448)/\(r.S.Objects.length=a1.Objects.length)/\(r=begR a0 a1)
def ZgK(a0:List aq)(a1:av):rA->Prop
 |.L0 v0 E0 E1 E2 v6=>(v0=a0)/\(E0=a1)/\((SzL 176 bQ) v0)/\(Z8 E0)/\(cX E1)/\(cX E2)/\(0<=v6)/\(∀c,c∈v0->c.Abilities.length<=8)/\(E0.Objects.length<=2048)/\(E2.S=E0)/\(E2.S.Objects.length=E0.Objects.length)/\(E2.L=FS fR gR v0 E0)/\(E2.L.length<=16448)/\(E2.All.length=v6.toNat)/\(v6<=(E0.Objects.length:Int))/\(E2.All=(E0.Objects.take v6.toNat).map (baV v0))
def Z40:rA->M6
 |.L0 v0 E0 E1 E2 v6=>(1,((E0.Objects.length:Int)-v6).toNat,1000000,0,0,0)
def ZgL{a0:List aq}{a1:av}(oa0:(SzL 176 bQ) a0)(oa1:Z8 a1)(h0:a1.Objects.length<=2048)(h1:a1.Conts.length<=64)(h2:∀c,c∈a0->c.Abilities.length<=8):Tot (Lo a0 a1) (ZgJ a0 a1):=by
 apply Tot.rn (ZgK a0 a1) Z40
 .dsimp only[Lp,LT.den];refine tB (ZgH oa0 oa1 cl cl bR) λx1 h1=>?_;have eh1_1:=h1.2;have lh1:=Lq (f:=fR) (g:=gR) (s:=a1) (by assumption:∀c,c∈a0->_);rw[<- (by assumption:x1=FS _ _ _ _)]at lh1;exact tL ⟨rfl,rfl,oa0,oa1,⟨⟨SzL.nil,SzL.nil,SzL.nil,SzL.nil,SzL.nil,SzL.nil,SzL.nil,SzL.nil⟩,SzL.nil,SzL.nil,SzL.nil,SzL.nil,SzL.nil⟩,⟨oa1,SzL.nil,h1.1,SzL.nil,SzL.nil,SzL.nil⟩,cl,bR,cl,aF,cl,V,cl,cl,cl,tk68⟩ Lr
 rintro⟨v0,E0,E1,E2,v6⟩ ⟨al0,al1,ov0,O0,O1,O2,cv6,i0,i1,i2,i3,i4,i5,i6,i7,i8⟩;subst al0;subst al1;dsimp only[Z8c,Ls,LT.den];apply tD<;>intro h1
 .refine Tot.ix λx1 h2=>?_;have mh2:=h2.2;refine tB (K8 ov0 bR) λx2 h3=>?_;have eh3_2:=h3.2.2;have q1:=O2.2.1.1;refine Tot.ap λx3 h4=>?_;have lh4:=ca h4;have q2:=wr (v6+1);exact tL ⟨rfl,rfl,ov0,O0,O1,⟨O2.1,SzL.app (k:=176) h4 lo O2.2.1.2 (me1 h3.1),O2.2.2.1,O2.2.2.2.1,O2.2.2.2.2.1,O2.2.2.2.2.2⟩,cl,bR,cl,aF,cl,V,cl,cl,cl,tk68⟩ Lr
 exact tB (Tot.mk) λx1 h2=>tB (Tot.mk) λx2 h3=>tB (Tot.mk) λx3 h4=>tR ⟨⟨O2.1,O2.2.1,O2.2.2.1,SzL.tr,⟨lo,λe he=>by rw[h3.2 e he];exact SzL.nil⟩,SzL.tr⟩,cl,cl,cl,cl,cl,cl,cl,(by exact br_e V O V V V V V)⟩
def kU{a0:Int}:Tot (Z6y a0) (λr=>(r=clV a0)):=by
 apply tZ;dsimp only[Z8d,LT.den];apply tD<;>intro h1
 .exact Af
 apply tD<;>intro h2
 .exact Af
 exact Af
def ZgM{a0:Int}{a1:Int}:Tot (Lt a0 a1) (λr=>(r=suV a0 a1)):=by apply tZ;dsimp only[Lu,LT.den];refine tB (kU) λx1 h1=>tB (kU) λx2 h2=>?_;have q1:=wr (x1-x2);exact tB (kU) λx3 h3=>tR (by unfold suV;grind)
def ZgN{a0:A3 Int}:Tot (Lv a0) (λr=>(r=pwV a0)):=by apply tZ;dsimp only[Lw,LT.den];refine tB (tI O vj) λx1 h1=>?_;have mh1:=h1.2;refine tB (tI O vj) λx2 h2=>?_;have mh2:=h2.2;exact tB (ZgM) λx3 h3=>tR Lx
def vk{a0:Int}{a1:Int}:Tot (vl a0 a1) (λr=>(r=adV a0 a1)):=by apply tZ;dsimp only[Ag,LT.den];refine tB (kU) λx1 h1=>tB (kU) λx2 h2=>?_;have q1:=wr (x1+x2);exact tB (kU) λx3 h3=>tR (by unfold adV;grind)
def ZgO(a0:au):rB->Prop
 |.L0 E0 E1 E2 v4=>(E0=a0)/\(cX E0)/\(cX E1)/\(cX E2)/\(0<=v4)/\(E0.All.length=E0.S.Objects.length)/\(E0.Blank.length=E0.S.Objects.length)/\(E0.Begun.length=E0.L.length)/\(E0.Sets.length=E0.L.length)/\(E0.S.Objects.length<=2048)/\(E0.L.length<=16448)/\(E2.S=E0.S)/\(E2.L=E0.L)/\(E2.Begun=E0.Begun)/\(E2.Sets=E0.Sets)/\(E2.Blank=E0.Blank)/\(E2.All.length=v4.toNat)/\(v4<=(E0.All.length:Int))/\(E2.All=(E0.All.take v4.toNat).mapIdx (Z8v E0.S.Objects))
def Ly:rB->M6
 |.L0 E0 E1 E2 v4=>(1,((E0.All.length:Int)-v4).toNat,1000000,0,0,0)
def ZgP{a0:au}(oa0:cX a0)(h0:a0.All.length=a0.S.Objects.length)(h1:a0.Blank.length=a0.S.Objects.length)(h2:a0.Begun.length=a0.L.length)(h3:a0.Sets.length=a0.L.length)(h4:a0.S.Objects.length<=2048)(h5:a0.L.length<=16448):Tot (Lz a0) (λr=>(cX r)/\(r=Z04 a0)):=by
 apply Tot.rn (ZgO a0) Ly
 .dsimp only[LA,LT.den];exact tL ⟨rfl,oa0,⟨⟨SzL.nil,SzL.nil,SzL.nil,SzL.nil,SzL.nil,SzL.nil,SzL.nil,SzL.nil⟩,SzL.nil,SzL.nil,SzL.nil,SzL.nil,SzL.nil⟩,⟨oa0.1,SzL.nil,oa0.2.2.1,oa0.2.2.2.1,oa0.2.2.2.2.1,oa0.2.2.2.2.2⟩,cl,cl,cl,cl,cl,cl,cl,aF,aF,aF,aF,aF,cl,cl,tk6⟩ vm
 rintro⟨E0,E1,E2,v4⟩ ⟨al0,O0,O1,O2,cv4,i0,i1,i2,i3,i4,i5,i6,i7,i8,i9,i10,i11,i12,i13⟩;subst al0;dsimp only[Z0q,LB,LT.den];apply tD<;>intro h1
 .refine Tot.ix λx1 h2=>?_;have oh2:bl x1:=O0.2.1.2 x1 h2.1;have mh2:=h2.2;refine Tot.ix λx2 h3=>?_;have mh3:=h3.2;apply tE<;>intro h4
  .apply tE<;>intro h5
   .refine tB (ZgN) λx3 h6=>tB (vk) λx4 h7=>tB (vk) λx5 h8=>?_;have q1:=O2.2.1.1;refine Tot.ap λx6 h9=>?_;have lh9:=ca h9;have q2:=wr (v4+1);exact tL ⟨rfl,O0,O1,⟨O2.1,SzL.app (k:=176) h9 lo O2.2.1.2 (me1 ⟨oh2.1,oh2.2.1,oh2.2.2⟩),O2.2.2.1,O2.2.2.2.1,O2.2.2.2.2.1,O2.2.2.2.2.2⟩,cl,cl,cl,cl,cl,cl,cl,aF,aF,aF,aF,aF,cl,cl,tk6⟩ vm
   have q1:=O2.2.1.1;refine Tot.ap λx3 h6=>?_;have lh6:=ca h6;have q2:=wr (v4+1);exact tL ⟨rfl,O0,O1,⟨O2.1,SzL.app (k:=176) h6 lo O2.2.1.2 (me1 oh2),O2.2.2.1,O2.2.2.2.1,O2.2.2.2.2.1,O2.2.2.2.2.2⟩,cl,cl,cl,cl,cl,cl,cl,aF,aF,aF,aF,aF,cl,cl,tk6⟩ vm
  have q1:=O2.2.1.1;refine Tot.ap λx3 h5=>?_;have lh5:=ca h5;have q2:=wr (v4+1);exact tL ⟨rfl,O0,O1,⟨O2.1,SzL.app (k:=176) h5 lo O2.2.1.2 (me1 oh2),O2.2.2.1,O2.2.2.2.1,O2.2.2.2.2.1,O2.2.2.2.2.2⟩,cl,cl,cl,cl,cl,cl,cl,aF,aF,aF,aF,aF,cl,cl,tk6⟩ vm
 exact tR ⟨O2,(by exact cu_e V O V V V V V)⟩
def mc(a0:Int):me->Prop
 |.L0 v3 v6=>(v3=a0)/\(v6=true↔2<=v3/\v3<=5)/\(v3≠1)
 |.L1 v3 v11=>(v3=a0)/\(v11=true↔v3=6\/v3=7)/\(v3<1\/5<v3)
 |.L2 v3 v14=>(v3=a0)/\(v14=true↔8<=v3/\v3<=10)/\(v3<1\/7<v3)
def vn:me->M6
 |.L0 v3 v6=>(0,0,0,0,0,0)
 |.L1 v3 v11=>(0,0,0,0,0,0)
 |.L2 v3 v14=>(0,0,0,0,0,0)
def Z41{a0:Int}{v3:Int}{v14:Bool}(h:(mc a0) (.L2 v3 v14)):Tot (oa v3 v14).den (Nx (mc a0) vn (0,0,0,0,0,0) (λr=>(r=stV a0))):=by
 obtain⟨al0,i0,i1⟩:=h;subst al0;dsimp only[oa,LT.den];apply tF<;>intro h1
 .exact gr
 apply tE<;>intro h2
 .exact gr
 apply tE<;>intro h3
 .exact gr
 apply tE<;>intro h4
 .exact gr
 apply tE<;>intro h5
 .exact gr
 exact gr
def Z42{a0:Int}{v3:Int}{v11:Bool}(h:(mc a0) (.L1 v3 v11)):Tot (rC v3 v11).den (Nx (mc a0) vn (0,0,0,0,0,0) (λr=>(r=stV a0))):=by
 obtain⟨al0,i0,i1⟩:=h;subst al0;dsimp only[rC,LT.den];apply tF<;>intro h1
 .exact gr
 apply tE<;>intro h2
 .exact Ah
 apply tE<;>intro h3
 .exact Ah
 exact Ah
def Z43{a0:Int}{v3:Int}{v6:Bool}(h:(mc a0) (.L0 v3 v6)):Tot (mf v3 v6).den (Nx (mc a0) vn (0,0,0,0,0,0) (λr=>(r=stV a0))):=by
 obtain⟨al0,i0,i1⟩:=h;subst al0;dsimp only[mf,LT.den];apply tF<;>intro h1
 .exact gr
 apply tE<;>intro h2
 .exact LC
 exact LC
def vo{a0:Int}:Tot (LD a0) (λr=>(r=stV a0)):=by
 apply Tot.rn (mc a0) vn
 .dsimp only[LG,LT.den];apply tE<;>intro h1
  .exact gr
  apply tE<;>intro h2
  .exact vp
  apply tE<;>intro h3
  .exact vp
  apply tE<;>intro h4
  .exact vp
  exact vp
 intro s hs;cases s with
 |L0 _ _=>exact Z43 hs
 |L1 _ _=>exact Z42 hs
 |L2 _ _=>exact Z41 hs
def ZgQ(a0:bd)(a1:Int):rD->Prop
 |.L0 v1 E0 v5=>(E0=a0)/\(v1=a1)/\(fI E0)/\(0<=v5)/\((E0.Mods.take v5.toNat).any (blP v1)=false)
def LH:rD->M6
 |.L0 v1 E0 v5=>(1,((E0.Mods.length:Int)-v5).toNat,1000000,0,0,0)
def ZgR{a0:bd}{a1:Int}(oa0:fI a0):Tot (LI a0 a1) (λr=>(r=belR a0 a1)):=by
 apply Tot.rn (ZgQ a0 a1) LH
 .dsimp only[LJ,LT.den];exact tL ⟨rfl,rfl,oa0,cl,tk69⟩ LL
 rintro⟨v1,E0,v5⟩ ⟨al0,al1,O0,cv5,i0⟩;subst al0;subst al1;dsimp only[Z0r,LN,LT.den];have q1:=O0.2.2.1;apply tD<;>intro h1
 .refine Tot.ix λx1 h2=>?_;have mh2:=h2.2;refine tB (vo) λx2 h3=>?_;apply tE<;>intro h4
  .exact LO
  have q2:=wr (v5+1);exact tL ⟨rfl,rfl,O0,cl,tk69⟩ LL
 exact LO
abbrev ZgS(a0:av)(a1:Int)(r:Int):Prop:=(-1<=r)/\(r<(a0.Objects.length:Int))/\(r=ixO a0.Objects a1)
def ZgT(a0:av)(a1:Int):rE->Prop
 |.L0 v1 E0 v5=>(E0=a0)/\(v1=a1)/\(Z8 E0)/\(0<=v5)/\(NoId E0.Objects v1 v5)
def Z44:rE->M6
 |.L0 v1 E0 v5=>(1,((E0.Objects.length:Int)-v5).toNat,1000000,0,0,0)
def LP{a0:av}{a1:Int}(oa0:Z8 a0):Tot (LQ a0 a1) (ZgS a0 a1):=by
 apply Tot.rn (ZgT a0 a1) Z44
 .dsimp only[LR,LT.den];exact tL ⟨rfl,rfl,oa0,cl,tk65⟩ LS
 rintro⟨v1,E0,v5⟩ ⟨al0,al1,O0,cv5,i0⟩;subst al0;subst al1;dsimp only[Z8e,LU,LT.den];have q1:=O0.2.1.1;apply tD<;>intro h1
 .refine Tot.ix λx1 h2=>?_;have mh2:=h2.2;apply tE<;>intro h3
  .exact LV
  have q2:=wr (v5+1);exact tL ⟨rfl,rfl,O0,cl,tk65⟩ LS
 exact LV
def vq{a0:au}{a1:Int}(oa0:cX a0)(h0:a0.All.length=a0.S.Objects.length)(h1:a0.Blank.length=a0.S.Objects.length)(h2:a0.Begun.length=a0.L.length)(h3:a0.Sets.length=a0.L.length)(h4:a0.S.Objects.length<=2048)(h5:a0.L.length<=16448)(h6:0<=a1)(h7:a1<(a0.L.length:Int)):Tot (LW a0 a1) (λr=>(r=cx a0 a1)):=by
 apply tZ;dsimp only[LX,LT.den];refine Tot.ix λx1 h1=>?_;have mh1:=h1.2;apply tF<;>intro h2
 .exact vr
 refine Tot.ix λx2 h3=>?_;have mh3:=h3.2;apply tF<;>intro h4
 .exact vr
 refine tB (LP oa0.1) λx3 h5=>?_;have eh5_2:=h5.2.2;apply tD<;>intro h6
 .exact vr
 refine Tot.ix λx4 h7=>?_;have mh7:=h7.2;exact vr
def ZgU(a0:List Int)(a1:Int):rF->Prop
 |.L0 v0 v1 v5=>(v0=a0)/\(v1=a1)/\((SzL 8 (λ_=>True)) v0)/\(0<=v5)/\(∀(k:Nat) y,(k:Int)<v5->v0[k]?=some y->y≠v1)
def Z45:rF->M6
 |.L0 v0 v1 v5=>(1,((v0.length:Int)-v5).toNat,1000000,0,0,0)
def ZgV{a0:List Int}{a1:Int}(oa0:(SzL 8 (λ_=>True)) a0):Tot (LY a0 a1) (λr=>(r=ixI a0 a1)):=by
 apply Tot.rn (ZgU a0 a1) Z45
 .dsimp only[LZ,LT.den];exact tL ⟨rfl,rfl,oa0,cl,tk37⟩ L8
 rintro⟨v0,v1,v5⟩ ⟨al0,al1,ov0,cv5,i0⟩;have lb_v0:=ov0.1;subst al0;subst al1;dsimp only[Z8f,L9,LT.den];apply tD<;>intro h1
 .refine Tot.ix λx1 h2=>?_;have mh2:=h2.2;apply tE<;>intro h3
  .exact Ma
  have q1:=wr (v5+1);exact tL ⟨rfl,rfl,ov0,cl,tk37⟩ L8
 exact Ma
def Mb{a0:List Int}{a1:Int}(oa0:(SzL 8 (λ_=>True)) a0):Tot (Mc a0 a1) (λr=>(r=true↔a1∈a0)):=by apply tZ;dsimp only[Md,LT.den];exact tB (ZgV oa0) λx1 h1=>tR (by exact ixc V)
def vt{a0:au}{a1:Int}(oa0:cX a0)(h0:a0.All.length=a0.S.Objects.length)(h1:a0.Blank.length=a0.S.Objects.length)(h2:a0.Begun.length=a0.L.length)(h3:a0.Sets.length=a0.L.length)(h4:a0.S.Objects.length<=2048)(h5:a0.L.length<=16448)(h6:0<=a1)(h7:a1<(a0.L.length:Int)):Tot (Me a0 a1) (λr=>(r=eJ a0 a1)):=by
 apply tZ;dsimp only[Mf,LT.den];refine Tot.ix λx1 h1=>?_;have mh1:=h1.2;refine tB (LP oa0.1) λx2 h2=>?_;have eh2_2:=h2.2.2;apply tF<;>intro h3
 .exact Ai
 apply tD<;>intro h4
 .exact Ai
 refine Tot.ix λx3 h5=>?_;have mh5:=h5.2;exact Ai
def ZgW(a0:aK)(a1:List UInt8)(oa0:fJ a0)(oa1:SzT a1):Tot (Z2j a0 a1) (λr=>r=dm a0.Subs a1):=⟨_,Mg a0 a1 (Mh oa0),rfl⟩
def Mi(a0:aj)(a1:ab)(a2 a3:Int)(a4:al)(oa1:bl a1)(oa4:db a4):Tot (Z2k a0 a1 a2 a3 a4) (λr=>r=gN a0 a1 a2 a3 a4):=⟨_,Mj a0 a1 a2 a3 a4 (Mk oa1),rfl⟩
def ZgX(a0:au)(a1:Int):rG->Prop
 |.L0 v1 E0 v5 E1 v7=>(E0=a0)/\(v1=a1)/\(cX E0)/\((SzL 8 (λ_=>True)) v5)/\(fI E1)/\(0<=v7)/\(E0.All.length=E0.S.Objects.length)/\(E0.Blank.length=E0.S.Objects.length)/\(E0.Begun.length=E0.L.length)/\(E0.Sets.length=E0.L.length)/\(E0.S.Objects.length<=2048)/\(E0.L.length<=16448)/\(0<=v1)/\(v1<(E0.L.length:Int))/\(v5.length<=v7.toNat)/\(v7<=(E0.S.Objects.length:Int))/\(v5=zfm (ig E0 E1 (eJ E0 v1)) (λ_ o=>o.Id) E0.S.Objects v7)/\(E0.L[v1.toNat]?=some E1)/\(cx E0 v1=true)/\(bA E0.Begun v1=false)
def Ml:rG->M6
 |.L0 v1 E0 v5 E1 v7=>(1,((E0.S.Objects.length:Int)-v7).toNat,1000000,0,0,0)
def Aj{a0:au}{a1:Int}(oa0:cX a0)(h0:a0.All.length=a0.S.Objects.length)(h1:a0.Blank.length=a0.S.Objects.length)(h2:a0.Begun.length=a0.L.length)(h3:a0.Sets.length=a0.L.length)(h4:a0.S.Objects.length<=2048)(h5:a0.L.length<=16448)(h6:0<=a1)(h7:a1<(a0.L.length:Int)):Tot (Mm a0 a1) (λr=>((SzL 8 (λ_=>True)) r)/\(r=cR a0 a1)):=by
 apply Tot.rn (ZgX a0 a1) Ml
 .dsimp only[Mn,LT.den];refine Tot.ix λx1 h1=>?_;have mh1:=h1.2;apply tF<;>intro h2
  .refine Tot.ix λx2 h3=>?_;have oh3:(SzL 8 (λ_=>True)) x2:=oa0.2.2.2.2.1.2 x2 h3.1;have mh3:=h3.2;exact tR ⟨oh3,tk26⟩
  refine tB (vq oa0 cl cl cl cl cl cl cl cl) λx2 h3=>?_;apply tO<;>intro h4
  .exact tR ⟨SzL.nil,tk26⟩
  refine Tot.ix λx3 h5=>?_;have oh5:fI x3:=oa0.2.2.1.2 x3 h5.1;have mh5:=h5.2;exact tL ⟨rfl,rfl,oa0,SzL.nil,oh5,cl,cl,cl,cl,cl,cl,cl,cl,cl,cl,cl,tk1,V,aQ,od⟩ Ak
 rintro⟨v1,E0,v5,E1,v7⟩ ⟨al0,al1,O0,ov5,O1,cv7,i0,i1,i2,i3,i4,i5,i6,i7,i8,i9,i10,i11,i12,i13⟩;have lb_v5:=ov5.1;subst al0;subst al1;dsimp only[Z0t,Mo,LT.den];apply tD<;>intro h1
 .refine Tot.ix λx1 h2=>?_;have mh2:=h2.2;apply tN<;>intro h3
  .exact rH
  apply tF<;>intro h4
  .refine tB (Mb O1.1) λx2 h5=>?_;apply tF<;>intro h6
   .refine Tot.ap λx3 h7=>?_;have lh7:=ca h7;exact Al
   apply tO<;>intro h7
   .refine Tot.ix λx3 h8=>?_;have oh8:bl x3:=O0.2.1.2 x3 h8.1;have mh8:=h8.2;refine tB (vt O0 cl cl cl cl cl cl cl cl) λx4 h9=>tB (Mi x1 x3 x4 E1.Source E1.Filter oh8 O1.2.1) λx5 h10=>?_;apply tF<;>intro h11
    .refine Tot.ap λx6 h12=>?_;have lh12:=ca h12;exact Al
    exact rH
   exact rH
  apply tO<;>intro h5
  .refine Tot.ix λx2 h6=>?_;have oh6:bl x2:=O0.2.1.2 x2 h6.1;have mh6:=h6.2;refine tB (vt O0 cl cl cl cl cl cl cl cl) λx3 h7=>tB (Mi x1 x2 x3 E1.Source E1.Filter oh6 O1.2.1) λx4 h8=>?_;apply tF<;>intro h9
   .refine Tot.ap λx5 h10=>?_;have lh10:=ca h10;exact Al
   exact rH
  exact rH
 exact tR ⟨ov5,tk26⟩
def ZgY(a0:av)(a1:List ab)(a2 a3:Int)(a4:al)(oa0:Z8 a0)(oa1:(SzL 176 bl) a1)(oa4:db a4):Tot (Z38 a0 a1 a2 a3 a4) (λr=>((SzL 8 (λ_=>True)) r)/\(r=Z2m a0 a1 a2 a3 a4)):=⟨_,ZgZ a0 a1 a2 a3 a4 oa0.2.1.1 λt ht=>Mp (oa1.2 t ht),Mq oa0,rfl⟩
def ZhA(a0:au)(a1:Int)(a2:Int):rI->Prop
 |.L0 v1 v2 E0 v7 E1 v9=>(E0=a0)/\(v1=a1)/\(v2=a2)/\(cX E0)/\((SzL 8 (λ_=>True)) v7)/\(fI E1)/\(0<=v9)/\(E0.All.length=E0.S.Objects.length)/\(E0.Blank.length=E0.S.Objects.length)/\(E0.Begun.length=E0.L.length)/\(E0.Sets.length=E0.L.length)/\(E0.S.Objects.length<=2048)/\(E0.L.length<=16448)/\(0<=v1)/\(v1<(E0.L.length:Int))/\(v7.length<=v9.toNat)/\(v9<=(E1.Mods.length:Int))/\(E0.L[v1.toNat]?=some E1)/\(v7=nrP E0 v1 E1 v2 v9)
def Mr:rI->M6
 |.L0 v1 v2 E0 v7 E1 v9=>(1,((E1.Mods.length:Int)-v9).toNat,1000000,0,0,0)
def Am{a0:au}{a1:Int}{a2:Int}(oa0:cX a0)(h0:a0.All.length=a0.S.Objects.length)(h1:a0.Blank.length=a0.S.Objects.length)(h2:a0.Begun.length=a0.L.length)(h3:a0.Sets.length=a0.L.length)(h4:a0.S.Objects.length<=2048)(h5:a0.L.length<=16448)(h6:0<=a1)(h7:a1<(a0.L.length:Int)):Tot (Z8i a0 a1 a2) (λr=>((SzL 8 (λ_=>True)) r)/\(r=fy a0 a1 a2)):=by
 apply Tot.rn (ZhA a0 a1 a2) Mr
 .dsimp only[Ms,LT.den];refine Tot.ix λx1 h1=>?_;have oh1:fI x1:=oa0.2.2.1.2 x1 h1.1;have mh1:=h1.2;exact tL ⟨rfl,rfl,rfl,oa0,SzL.nil,oh1,cl,cl,cl,cl,cl,cl,cl,cl,cl,cl,cl,V,tk7⟩ An
 rintro⟨v1,v2,E0,v7,E1,v9⟩ ⟨al0,al1,al2,O0,ov7,O1,cv9,i0,i1,i2,i3,i4,i5,i6,i7,i8,i9,i10,i11⟩;have lb_v7:=ov7.1;subst al0;subst al1;subst al2;dsimp only[Z0u,Mt,LT.den];have q1:=O1.2.2.1;apply tD<;>intro h1
 .refine Tot.ix λx1 h2=>?_;have oh2:Z7 x1:=O1.2.2.2 x1 h2.1;have mh2:=h2.2;refine tB (vo) λx2 h3=>?_;apply tN<;>intro h4
  .have q2:=wr (v9+1);exact tL ⟨rfl,rfl,rfl,O0,ov7,O1,cl,cl,cl,cl,cl,cl,cl,cl,cl,cl,cl,V,tk7⟩ An
  apply tE<;>intro h5
  .refine tB (vt O0 cl cl cl cl cl cl cl cl) λx3 h6=>tB (ZgY E0.S E0.All x3 E1.Source x1.Filter O0.1 O0.2.1 oh2.2) λx4 h7=>?_;have eh7_1:=h7.2;refine Tot.ap λx5 h8=>?_;have lh8:=ca h8;exact Mu
  refine Tot.ap λx3 h6=>?_;have lh6:=ca h6;exact Mu
 exact tR ⟨ov7,(by exact nr_e V O V)⟩
def Ao(a0:aK)(a1:List UInt8):oe->Prop
 |.L0 v1 E0 E1 v5 v6=>(E0=a0)/\(v1=a1)/\(SzT v1)/\(fJ E0)/\(fJ E1)/\((SzL 16 SzT) v5)/\(0<=v6)/\(v6.toNat<=v5.length)/\(v5.length<=4)/\(v5=E0.Subs)/\(ga v1=true)/\(dm E0.Subs v1=false)/\(¬(E0.Subs.length:Int)>=4)/\(LsS v5 v1 v6)
 |.L1 v1 E0 E1 v5 v6=>(E0=a0)/\(v1=a1)/\(SzT v1)/\(fJ E0)/\(fJ E1)/\((SzL 16 SzT) v5)/\(0<=v6)/\(v6.toNat<=v5.length)/\(v5.length<=4)/\(v5=E0.Subs)/\(ga v1=true)/\(dm E0.Subs v1=false)/\(¬(E0.Subs.length:Int)>=4)/\(v6=ixL v5 v1)
def vu:oe->M6
 |.L0 v1 E0 E1 v5 v6=>(1,((v5.length:Int)-v6).toNat,1000000,0,0,0)
 |.L1 v1 E0 E1 v5 v6=>(0,0,0,0,0,0)
def Z18{a0:aK}{a1:List UInt8}{v1:List UInt8}{E0:aK}{E1:aK}{v5:List (List UInt8)}{v6:Int}(h:(Ao a0 a1) (.L1 v1 E0 E1 v5 v6)):Tot (rJ v1 E0 E1 v5 v6).den (Nx (Ao a0 a1) vu (0,0,0,0,0,0) (λr=>(fJ r)/\(r=lnV a0 a1))):=by
 obtain⟨al0,al1,ov1,O0,O1,ov5,i0,i1,i2,i3,i4,i5,i6,i7⟩:=h;subst al0;subst al1;dsimp only[rJ,LT.den];refine tB (Tot.slice O O O) λx1 h1=>?_;have q1:x1.length*16<=140737488351232:=(show SzL 16 SzT x1 from⟨lo,λe he=>ov5.2 e (h1.2.1 e he)⟩).1;refine Tot.ap λx2 h2=>?_;have lh2:x2.length=([]:List (List UInt8)).length+x1.length:=by rw[h2,bm]
 try simp only[bw,bW,aN]at lh2
 have q2:=(SzL.app (k:=16) h2 lo (λ_ h=>by cases h) (show SzL 1 SzT _ from⟨lo,λe he=>ov5.2 e (h1.2.1 e he)⟩).2).1;refine Tot.ap λx3 h3=>?_;have lh3:=ca h3;refine tB (Tot.slice O O O) λx4 h4=>?_;have q3:=(SzL.app (k:=16) h3 lo (SzL.app (k:=16) h2 lo (λ_ h=>by cases h) (show SzL 1 SzT _ from⟨lo,λe he=>ov5.2 e (h1.2.1 e he)⟩).2).2 (me1 ov1)).1;have q4:x4.length*16<=140737488351232:=(show SzL 16 SzT x4 from⟨lo,λe he=>ov5.2 e (h4.2.1 e he)⟩).1;refine Tot.ap λx5 h5=>?_;have lh5:x5.length=x3.length+x4.length:=by rw[h5,bm]
 try simp only[bw,bW,aN]at lh5
 exact tR ⟨SzL.app (k:=16) h5 lo (SzL.app (k:=16) h3 lo (SzL.app (k:=16) h2 lo (λ_ h=>by cases h) (show SzL 1 SzT _ from⟨lo,λe he=>ov5.2 e (h1.2.1 e he)⟩).2).2 (me1 ov1)).2 (show SzL 1 SzT _ from⟨lo,λe he=>ov5.2 e (h4.2.1 e he)⟩).2,tk32⟩
def ZhB{a0:aK}{a1:List UInt8}(oa0:fJ a0)(oa1:SzT a1):Tot (Mv a0 a1) (λr=>(fJ r)/\(r=lnV a0 a1)):=by
 apply Tot.rn (Ao a0 a1) vu
 .dsimp only[Mw,LT.den];have q1:=oa0.1;refine Tot.ap λx1 h1=>?_;have lh1:x1.length=([]:List (List UInt8)).length+a0.Subs.length:=by rw[h1,bm]
  try simp only[bw,bW,aN]at lh1
  refine tB (vv a1 oa1) λx2 h2=>?_;apply tO<;>intro h3
  .exact Ap
  refine tB (ZgW a0 a1 oa0 oa1) λx3 h4=>?_;apply tF<;>intro h5
  .exact Ap
  apply tD<;>intro h6
  .exact Ap
  exact tL ⟨rfl,rfl,oa1,oa0,SzL.nil,SzL.app (k:=16) h1 lo (λ_ h=>by cases h) oa0.2,cl,cl,cl,bR,aQ,aQ,bR,tk79⟩ Mx
 intro s hs;cases s with
 |L0 v1 E0 E1 v5 v6=>
  obtain⟨al0,al1,ov1,O0,O1,ov5,i0,i1,i2,i3,i4,i5,i6,i7⟩:=hs;subst al0;subst al1;dsimp only[Z39,My,LT.den,vu];apply tD<;>intro h1
  .refine Tot.ix λx1 h2=>?_;have mh2:=h2.2;apply tF<;>intro h3
   .have q1:=wr (v6+1);exact tL ⟨rfl,rfl,ov1,O0,O1,ov5,cl,cl,cl,bR,aQ,aQ,bR,tk79⟩ Mx
   exact Mz
  exact Mz
 |L1 _ _ _ _ _=>exact Z18 hs
def ZhC{a0:ab}{a1:af}{a2:Int}{a3:Int}(oa0:bl a0)(oa1:Z7 a1):Tot (MA a0 a1 a2 a3) (λr=>(bl r)/\(r=apV a0 a1 a2 a3)):=by
 apply tZ;dsimp only[MB,LT.den];refine tB (Aq oa1) λx1 h1=>?_;apply tO<;>intro h2
 .exact MC
 apply tE<;>intro h3
 .exact j8
 apply tE<;>intro h4
 .exact j8
 apply tE<;>intro h5
 .exact j8
 apply tE<;>intro h6
 .exact tR ⟨⟨oa0.1,SzL.one (SzS.t oa1.1),oa0.2.2⟩,gO⟩
 apply tE<;>intro h7
 .refine tB (ZhB oa0.2.1 (SzS.t oa1.1)) λx2 h8=>?_;have eh8_1:=h8.2;exact tR ⟨⟨oa0.1,h8.1,oa0.2.2⟩,gO⟩
 apply tE<;>intro h8
 .exact j8
 apply tE<;>intro h9
 .exact j8
 apply tE<;>intro h10
 .exact j8
 apply tE<;>intro h11
 .exact j8
 apply tE<;>intro h12
 .exact tR ⟨⟨oa0.1,oa0.2.1,SzL.nil⟩,gO⟩
 apply tE<;>intro h13
 .exact tB (kU) λx2 h14=>tB (kU) λx3 h15=>tR ⟨⟨oa0.1,oa0.2.1,oa0.2.2⟩,gO⟩
 apply tE<;>intro h14
 .exact j8
 apply tE<;>intro h15
 .exact tB (vk) λx2 h16=>tB (vk) λx3 h17=>tR ⟨⟨oa0.1,oa0.2.1,oa0.2.2⟩,gO⟩
 apply tE<;>intro h16
 .exact j8
 exact MC
def ZhD(a0:ab)(a1:bd)(a2:Int)(a3:Int)(a4:List Int):rK->Prop
 |.L0 v2 v3 v4 E0 E1 E2 v11 v12=>(E1=a1)/\(v2=a2)/\(v3=a3)/\(v4=a4)/\((SzL 8 (λ_=>True)) v4)/\(bl E0)/\(fI E1)/\(bl E2)/\(0<=v12)/\(0<=v11)/\(v4.length=(E1.Mods.filter λm=>stV m.Kind==v2).length)/\(v11=(cnS E1 v2 v12:Int))/\(MFR E1 v4 v3 v2 a0 v12 E0 v11)
def Z7l:rK->M6
 |.L0 v2 v3 v4 E0 E1 E2 v11 v12=>(1,((E1.Mods.length:Int)-v12).toNat,1000000,0,0,0)
def ZhE{a0:ab}{a1:bd}{a2:Int}{a3:Int}{a4:List Int}(oa0:bl a0)(oa1:fI a1)(oa4:(SzL 8 (λ_=>True)) a4)(h0:a4.length=(a1.Mods.filter λm=>stV m.Kind==a2).length):Tot (MD a0 a1 a2 a3 a4) (λr=>(bl r)/\(r=mfR a1.Mods a4 a3 a2 a0)):=by
 apply Tot.rn (ZhD a0 a1 a2 a3 a4) Z7l
 .dsimp only[ME,LT.den];exact tL ⟨rfl,rfl,rfl,rfl,oa4,oa0,oa1,⟨SzS.nil,SzL.nil,SzL.nil⟩,cl,cl,V,tk27,tk21⟩ Ar
 rintro⟨v2,v3,v4,E0,E1,E2,v11,v12⟩ ⟨al0,al1,al2,al3,ov4,O0,O1,O2,cv12,i0,i1,i2,i3⟩;have lb_v4:=ov4.1;subst al0;subst al1;subst al2;subst al3;dsimp only[As,Z6z,LT.den];have q1:=O1.2.2.1;apply tD<;>intro h1
 .refine Tot.ix λx1 h2=>?_;have oh2:Z7 x1:=O1.2.2.2 x1 h2.1;have mh2:=h2.2;have mh2:=h2.2;refine tB (vo) λx2 h3=>?_;apply tE<;>intro h4
  .have lc:=ZhF (by assumption:v11=(cnS _ _ _:Int)) V mh2 V V V;refine Tot.ix λx3 h5=>?_;have mh5:=h5.2;refine tB (ZhC O0 oh2) λx4 h6=>?_;have eh6_1:=h6.2;have q2:=wr (v11+1);have q3:=wr (v12+1);exact tL ⟨rfl,rfl,rfl,rfl,ov4,h6.1,O1,O2,cl,cl,V,tk27,tk21⟩ Ar
  have q2:=wr (v12+1);exact tL ⟨rfl,rfl,rfl,rfl,ov4,O0,O1,O2,cl,cl,V,tk27,tk21⟩ Ar
 exact tR ⟨O0,(by exact mr_e V O)⟩
def ZhG(a0:bd)(a1:Int):rL->Prop
 |.L0 v1 E0 v5=>(E0=a0)/\(v1=a1)/\(fI E0)/\(0<=v5)/\((E0.Mods.take v5.toNat).any (drP v1)=false)
def Z46:rL->M6
 |.L0 v1 E0 v5=>(1,((E0.Mods.length:Int)-v5).toNat,1000000,0,0,0)
def ZhH{a0:bd}{a1:Int}(oa0:fI a0):Tot (MF a0 a1) (λr=>(r=drR a0.Mods a1)):=by
 apply Tot.rn (ZhG a0 a1) Z46
 .dsimp only[MG,LT.den];exact tL ⟨rfl,rfl,oa0,cl,tk31⟩ MH
 rintro⟨v1,E0,v5⟩ ⟨al0,al1,O0,cv5,i0⟩;subst al0;subst al1;dsimp only[Z8j,MI,LT.den];have q1:=O0.2.2.1;apply tD<;>intro h1
 .refine Tot.ix λx1 h2=>?_;have mh2:=h2.2;apply tE<;>intro h3
  .refine tB (vo) λx2 h4=>?_;apply tE<;>intro h5
   .exact MJ
   exact MM
  exact MM
 exact MJ
abbrev ZhI(a0:au)(a1:Int)(a2:Int)(r:au):Prop:=(cX r)/\(r.All.length=r.S.Objects.length)/\(r.Blank.length=r.S.Objects.length)/\(r.Begun.length=r.L.length)/\(r.Sets.length=r.L.length)/\(r.S.Objects.length<=2048)/\(r.L.length<=16448)/\(r.S.Objects.length=a0.S.Objects.length)/\(r.L.length=a0.L.length)/\(r.S=a0.S)/\(r.L=a0.L)/\(r=cQ a0 a1 a2)
def ZhJ(a0:au)(a1:Int)(a2:Int):rM->Prop
 |.L0 v1 v2 E0 E1 v7 v8 v9 E2 v11=>(E0=a0)/\(v1=a1)/\(v2=a2)/\(cX E0)/\(cX E1)/\((SzL 8 (λ_=>True)) v7)/\((SzL 8 (λ_=>True)) v8)/\(cX E2)/\(0<=v11)/\(E0.All.length=E0.S.Objects.length)/\(E0.Blank.length=E0.S.Objects.length)/\(E0.Begun.length=E0.L.length)/\(E0.Sets.length=E0.L.length)/\(E0.S.Objects.length<=2048)/\(E0.L.length<=16448)/\(0<=v1)/\(v1<(E0.L.length:Int))/\(E2.S=E0.S)/\(E2.L=E0.L)/\(E2.S.Objects.length=E0.S.Objects.length)/\(E2.L.length=E0.L.length)/\(E2.All.length=E2.S.Objects.length)/\(E2.Blank.length=E2.S.Objects.length)/\(E2.Begun.length=E2.L.length)/\(E2.Sets.length=E2.L.length)/\(E2.S.Objects.length<=2048)/\(E2.L.length<=16448)/\(E2.Begun=E0.Begun.set v1.toNat true)/\(E2.Sets=E0.Sets.set v1.toNat v7)/\(v7=cR E0 v1)/\(v8=fy E0 v1 v2)/\(v9=eJ E0 v1)/\(cx E0 v1=true)/\(E2.All=E0.All.mapIdx (b9 (aG E0.S.Objects v7 (gAt E0 v1) v8 v9 v2) (λ_ t=>t) v11))/\(E2.Blank=E0.Blank.mapIdx (b9 (bG E0.S.Objects v7 (gAt E0 v1) v2) (λ_ t=>t) v11))
def MN:rM->M6
 |.L0 v1 v2 E0 E1 v7 v8 v9 E2 v11=>(1,((E0.S.Objects.length:Int)-v11).toNat,1000000,0,0,0)
def Z7m{a0:au}{a1:Int}{a2:Int}(oa0:cX a0)(h0:a0.All.length=a0.S.Objects.length)(h1:a0.Blank.length=a0.S.Objects.length)(h2:a0.Begun.length=a0.L.length)(h3:a0.Sets.length=a0.L.length)(h4:a0.S.Objects.length<=2048)(h5:a0.L.length<=16448)(h6:0<=a1)(h7:a1<(a0.L.length:Int)):Tot (MO a0 a1 a2) (ZhI a0 a1 a2):=by
 apply Tot.rn (ZhJ a0 a1 a2) MN
 .dsimp only[MP,LT.den];refine tB (vq oa0 cl cl cl cl cl cl cl cl) λx1 h1=>?_;apply tO<;>intro h2
  .exact tR ⟨oa0,cl,cl,cl,cl,cl,cl,cl,cl,aF,aF,tk24⟩
  refine tB (Aj oa0 cl cl cl cl cl cl cl cl) λx2 h3=>?_;have eh3_1:=h3.2;refine tB (Am oa0 cl cl cl cl cl cl cl cl) λx3 h4=>?_;have eh4_1:=h4.2;refine tB (vt oa0 cl cl cl cl cl cl cl cl) λx4 h5=>Tot.ap λx5 h6=>?_;have lh6:x5.length=([]:List ab).length+a0.All.length:=by rw[h6,bm]
  try simp only[bw,bW,aN]at lh6
  refine Tot.ap λx6 h7=>?_;have lh7:x6.length=([]:List Bool).length+a0.Begun.length:=by rw[h7,bm]
  try simp only[bw,bW,aN]at lh7
  refine Tot.ap λx7 h8=>?_;have lh8:x7.length=([]:List (List Int)).length+a0.Sets.length:=by rw[h8,bm]
  try simp only[bw,bW,aN]at lh8
  refine Tot.ap λx8 h9=>?_;have lh9:x8.length=([]:List Bool).length+a0.Blank.length:=by rw[h9,bm]
  try simp only[bw,bW,aN]at lh9
  exact Tot.ix λx9 h10=>tB (Tot.set O O) λx10 h11=>Tot.ix λx11 h12=>tB (Tot.set O O) λx12 h13=>tL ⟨rfl,rfl,rfl,oa0,⟨⟨SzL.nil,SzL.nil,SzL.nil,SzL.nil,SzL.nil,SzL.nil,SzL.nil,SzL.nil⟩,SzL.nil,SzL.nil,SzL.nil,SzL.nil,SzL.nil⟩,h3.1,h4.1,⟨oa0.1,SzL.app (k:=176) h6 lo (λ_ h=>by cases h) oa0.2.1.2,oa0.2.2.1,SzL.tr,⟨lo,λe he=>(h13.2.1 e he).elim (λw=>by rw[w];exact h3.1) ((SzL.app (k:=24) h8 lo (λ_ h=>by cases h) oa0.2.2.2.2.1.2).2 e)⟩,SzL.tr⟩,cl,cl,cl,cl,cl,cl,cl,cl,cl,aF,aF,cl,cl,cl,cl,cl,cl,cl,cl,Z64,Z64,V,V,V,aQ,tk15,tk4⟩ vx
 rintro⟨v1,v2,E0,E1,v7,v8,v9,E2,v11⟩ ⟨al0,al1,al2,O0,O1,ov7,ov8,O2,cv11,i0,i1,i2,i3,i4,i5,i6,i7,i8,i9,i10,i11,i12,i13,i14,i15,i16,i17,i18,i19,i20,i21,i22,i23,i24,i25⟩;subst al0;subst al1;subst al2;dsimp only[Z0v,MQ,LT.den];apply tD<;>intro h1
 .refine Tot.ix λx1 h2=>?_;have mh2:=h2.2;refine tB (Mb ov7) λx2 h3=>?_;apply tO<;>intro h4
  .have q1:=wr (v11+1);exact tL ⟨rfl,rfl,rfl,O0,O1,ov7,ov8,O2,cl,cl,cl,cl,cl,cl,cl,cl,cl,aF,aF,cl,cl,cl,cl,cl,cl,cl,cl,Z64,Z64,V,V,V,aQ,tk15,tk4⟩ vx
  refine Tot.ix λx3 h5=>?_;have oh5:bl x3:=O0.2.1.2 x3 h5.1;have mh5:=h5.2;refine Tot.ix λx4 h6=>?_;have oh6:fI x4:=O0.2.2.1.2 x4 h6.1;have mh6:=h6.2;refine tB (ZhE oh5 oh6 ov8 (by first|assumption|exact ZhK V V)) λx5 h7=>?_;have eh7_1:=h7.2;refine Tot.ix λx6 h8=>tB (Tot.set O O) λx7 h9=>tB (ZhH oh6) λx8 h10=>?_;apply tF<;>intro h11
  .refine Tot.ix λx9 h12=>tB (Tot.set O O) λx10 h13=>?_;have q1:=wr (v11+1);exact tL ⟨rfl,rfl,rfl,O0,O1,ov7,ov8,⟨O2.1,⟨lo,λe he=>(h9.2.1 e he).elim (λw=>by rw[w];exact h7.1) (O2.2.1.2 e)⟩,O2.2.2.1,O2.2.2.2.1,O2.2.2.2.2.1,SzL.tr⟩,cl,cl,cl,cl,cl,cl,cl,cl,cl,aF,aF,cl,cl,cl,cl,cl,cl,cl,cl,Z64,Z64,V,V,V,aQ,tk15,tk4⟩ vx
  have q1:=wr (v11+1);exact tL ⟨rfl,rfl,rfl,O0,O1,ov7,ov8,⟨O2.1,⟨lo,λe he=>(h9.2.1 e he).elim (λw=>by rw[w];exact h7.1) (O2.2.1.2 e)⟩,O2.2.2.1,O2.2.2.2.1,O2.2.2.2.2.1,O2.2.2.2.2.2⟩,cl,cl,cl,cl,cl,cl,cl,cl,cl,aF,aF,cl,cl,cl,cl,cl,cl,cl,cl,Z64,Z64,V,V,V,aQ,tk15,tk4⟩ vx
 exact tR ⟨O2,cl,cl,cl,cl,cl,cl,cl,cl,aF,aF,tk24⟩
def ZhL{a0:au}{a1:Int}{a2:Int}{a3:Int}(oa0:cX a0)(h0:a0.All.length=a0.S.Objects.length)(h1:a0.Blank.length=a0.S.Objects.length)(h2:a0.Begun.length=a0.L.length)(h3:a0.Sets.length=a0.L.length)(h4:a0.S.Objects.length<=2048)(h5:a0.L.length<=16448)(h6:0<=a1)(h7:a1<(a0.L.length:Int))(h8:0<=a2)(h9:a2<(a0.L.length:Int)):Tot (MR a0 a1 a2 a3) (λr=>(r=ndR a0 a3 a1 a2)):=by
 apply tZ;dsimp only[MS,LT.den];apply tE<;>intro h1
 .exact At
 refine tB (Z7m oa0 cl cl cl cl cl cl cl cl) λx1 h2=>?_;have eh2_1:=h2.2.1;have eh2_2:=h2.2.2.1;have eh2_3:=h2.2.2.2.1;have eh2_4:=h2.2.2.2.2.1;have eh2_5:=h2.2.2.2.2.2.1;have eh2_6:=h2.2.2.2.2.2.2.1;have eh2_11:=h2.2.2.2.2.2.2.2.2.2.2.2;refine tB (vq oa0 cl cl cl cl cl cl cl cl) λx2 h3=>tB (vq h2.1 cl cl cl cl cl cl cl cl) λx3 h4=>?_;apply tO<;>intro h5
 .exact At
 refine tB (Aj oa0 cl cl cl cl cl cl cl cl) λx4 h6=>?_;have eh6_1:=h6.2;refine tB (Aj h2.1 cl cl cl cl cl cl cl cl) λx5 h7=>?_;have eh7_1:=h7.2;refine tB (Lj h6.1 h7.1) λx6 h8=>?_;apply tO<;>intro h9
 .exact At
 refine tB (Am oa0 cl cl cl cl cl cl cl cl) λx7 h10=>?_;have eh10_1:=h10.2;refine tB (Am h2.1 cl cl cl cl cl cl cl cl) λx8 h11=>?_;have eh11_1:=h11.2;exact tB (Lj h10.1 h11.1) λx9 h12=>tR tk8
def ZhM(a0:List Int)(a1:Int):rN->Prop
 |.L0 v0 v1 v5=>(v0=a0)/\(v1=a1)/\((SzL 8 (λ_=>True)) v0)/\(0<=v5)/\(∀(k:Nat) x,(k:Int)<v5->v0[k]?=some x->x≠v1)
def MT:rN->M6
 |.L0 v0 v1 v5=>(1,((v0.length:Int)-v5).toNat,1000000,0,0,0)
def Z89{a0:List Int}{a1:Int}(oa0:(SzL 8 (λ_=>True)) a0):Tot (MU a0 a1) (λr=>(r=true↔a1∈a0)):=by
 apply Tot.rn (ZhM a0 a1) MT
 .dsimp only[MV,LT.den];exact tL ⟨rfl,rfl,oa0,cl,tk57⟩ MW
 rintro⟨v0,v1,v5⟩ ⟨al0,al1,ov0,cv5,i0⟩;have lb_v0:=ov0.1;subst al0;subst al1;dsimp only[Au,MX,LT.den];apply tD<;>intro h1
 .refine Tot.ix λx1 h2=>?_;have mh2:=h2.2;apply tE<;>intro h3
  .exact tR MY
  have q1:=wr (v5+1);exact tL ⟨rfl,rfl,ov0,cl,tk57⟩ MW
 exact tR MY
abbrev ZhN(a0:List Int)(r:List Int):Prop:=((SzL 8 (λ_=>True)) r)/\(r.length<=a0.length)/\(r=elV a0)
def ZhO(a0:List Int):rO->Prop
 |.L0 v0 v3 v4=>(v0=a0)/\((SzL 8 (λ_=>True)) v0)/\((SzL 8 (λ_=>True)) v3)/\(0<=v4)/\(v3.length<=v4.toNat)/\(v4<=(v0.length:Int))/\(v3=(v0.take v4.toNat).foldl elF [])
def Z7n:rO->M6
 |.L0 v0 v3 v4=>(1,((v0.length:Int)-v4).toNat,1000000,0,0,0)
def ZhP{a0:List Int}(oa0:(SzL 8 (λ_=>True)) a0):Tot (Z4a a0) (ZhN a0):=by
 apply Tot.rn (ZhO a0) Z7n
 .have lb_a0:=oa0.1;dsimp only[MZ,LT.den];exact tL ⟨rfl,oa0,SzL.nil,cl,cl,cl,tk13⟩ Av
 rintro⟨v0,v3,v4⟩ ⟨al0,ov0,ov3,cv4,i0,i1,i2⟩;have lb_v0:=ov0.1;have lb_v3:=ov3.1;subst al0;dsimp only[Aw,Z60,LT.den];apply tD<;>intro h1
 .refine Tot.ix λx1 h2=>?_;have mh2:=h2.2;apply tD<;>intro h3
  .refine tB (Z89 ov3) λx2 h4=>?_;apply tO<;>intro h5
   .refine Tot.ap λx3 h6=>?_;have lh6:=ca h6;have q1:=wr (v4+1);exact tL ⟨rfl,ov0,SzL.tr,cl,cl,cl,tk13⟩ Av
   exact M0
  exact M0
 exact tR ⟨ov3,cl,(by exact Ax V O)⟩
def Z47{a0:List (List Bool)}{a1:Int}{a2:Int}(oa0:(SzL 24 (SzL 1 (λ_=>True))) a0)(h0:0<=a1)(h1:0<=a2):Tot (M1 a0 a1 a2) (λr=>(r=nB a0 a1 a2)):=by
 apply tZ;dsimp only[M3,LT.den];apply tD<;>intro h1
 .refine Tot.ix λx1 h2=>?_;have oh2:(SzL 1 (λ_=>True)) x1:=oa0.2 x1 h2.1;apply tD<;>intro h3
  .exact Tot.ix λx2 h4=>tR Ay
  exact oh
 exact oh
abbrev ZhQ(a0:List Int)(a1:List (List Bool))(a2:Int)(r:List Int):Prop:=((SzL 8 (λ_=>True)) r)/\(Rch a0 (λx y=>nB a1 x y=true) a2 r)
def ZhR(a0:List Int)(a1:List (List Bool))(a2:Int):mg->Prop
 |.L0 v0 v1 v2 v7 v8=>(v0=a0)/\(v1=a1)/\(v2=a2)/\((SzL 8 (λ_=>True)) v0)/\((SzL 24 (SzL 1 (λ_=>True))) v1)/\((SzL 8 (λ_=>True)) v7)/\(0<=v8)/\(∀x,x∈v0->0<=x)/\(v0.Nodup)/\(v0.length<=16448)/\(0<=v2)/\(RA v0 v1 v2 v7 v8)
 |.L1 v0 v1 v7 v9=>(v0=a0)/\(v1=a1)/\((SzL 8 (λ_=>True)) v0)/\((SzL 24 (SzL 1 (λ_=>True))) v1)/\((SzL 8 (λ_=>True)) v7)/\(0<=v9)/\(∀x,x∈v0->0<=x)/\(v0.Nodup)/\(v0.length<=16448)/\(RB v0 v1 a2 v7 v9)
 |.L2 v0 v1 v7 v9 v10=>(v0=a0)/\(v1=a1)/\((SzL 8 (λ_=>True)) v0)/\((SzL 24 (SzL 1 (λ_=>True))) v1)/\((SzL 8 (λ_=>True)) v7)/\(0<=v10)/\(0<=v9)/\(v9<(v7.length:Int))/\(∀x,x∈v0->0<=x)/\(v0.Nodup)/\(v0.length<=16448)/\(RC v0 v1 a2 v7 v9 v10)
def M4:mg->M6
 |.L0 v0 v1 v2 v7 v8=>(3,((v0.length:Int)-v8).toNat,1000000,0,0,0)
 |.L1 v0 v1 v7 v9=>(1,((v0.length:Int)-v9).toNat,1000000,0,0,0)
 |.L2 v0 v1 v7 v9 v10=>(1,((v0.length:Int)-v9).toNat,1,((v0.length:Int)-v10).toNat,1000000,0)
def ZhS{a0:List Int}{a1:List (List Bool)}{a2:Int}(oa0:(SzL 8 (λ_=>True)) a0)(oa1:(SzL 24 (SzL 1 (λ_=>True))) a1)(h0:0<=a2)(h1:∀x,x∈a0->0<=x)(h2:a0.Nodup)(h3:a0.length<=16448):Tot (Z8l a0 a1 a2) (ZhQ a0 a1 a2):=by
 apply Tot.rn (ZhR a0 a1 a2) M4
 .dsimp only[M5,LT.den];exact tL ⟨rfl,rfl,rfl,oa0,oa1,SzL.nil,cl,V,V,cl,V,Az⟩ om
 intro s hs;cases s with
 |L0 v0 v1 v2 v7 v8=>
  obtain⟨al0,al1,al2,ov0,ov1,ov7,cv8,i0,i1,i2,i3,i4⟩:=hs;have lb_v7:=ov7.1;subst al0;subst al1;subst al2;dsimp only[rP,M7,LT.den];have li:=i4.1.len;apply tD<;>intro h1
  .refine Tot.ix λx1 h2=>?_;have mh2:=h2.2;refine tB (Z47 ov1 dI dI) λx2 h3=>?_;apply tF<;>intro h4
   .refine Tot.ap λx3 h5=>?_;have lh5:=ca h5;have q1:=wr (v8+1);exact tL ⟨rfl,rfl,rfl,ov0,ov1,SzL.tr,cl,V,V,cl,V,Az⟩ om
   have q1:=wr (v8+1);exact tL ⟨rfl,rfl,rfl,ov0,ov1,ov7,cl,V,V,cl,V,Az⟩ om
  exact M8
 |L1 v0 v1 v7 v9=>
  obtain⟨al0,al1,ov0,ov1,ov7,cv9,i0,i1,i2,i3⟩:=hs;have lb_v7:=ov7.1;subst al0;subst al1;dsimp only[rP,M9,LT.den];have li:=i3.1.len;apply tD<;>intro h1
  .exact Na
  exact tR ⟨ov7,(by exact ZhT V O)⟩
 |L2 v0 v1 v7 v9 v10=>
  obtain⟨al0,al1,ov0,ov1,ov7,cv10,cv9,bd7,i0,i1,i2,i3⟩:=hs;have lb_v7:=ov7.1;subst al0;subst al1;dsimp only[rP,Nb,LT.den];have lx_0:v7.length*8<=140737488351232:=ov7.1;have li:=i3.1.1.len;apply tD<;>intro h1
  .refine Tot.ix λx1 h2=>?_;have mh2:=h2.2;have ch2:x1∈v0:=i3.1.1.2.1 _ h2.1;refine Tot.ix λx2 h3=>?_;have mh3:=h3.2;refine tB (Z47 ov1 dI dI) λx3 h4=>?_;apply tF<;>intro h5
   .refine tB (Z89 ov7) λx4 h6=>?_;apply tO<;>intro h7
    .refine Tot.ap λx5 h8=>?_;have lh8:=ca h8;have q1:=wr (v10+1);exact tL ⟨rfl,rfl,ov0,ov1,SzL.tr,cl,cl,cl,V,V,cl,Nc⟩ om
    exact Nd
   exact Nd
  have q1:=wr (v9+1);exact M8
abbrev ZhU(a0:List Int)(a1:List (List Bool))(r:List Int):Prop:=((SzL 8 (λ_=>True)) r)/\(r.length<=16448)/\(r=rdV (elV a0) (nB a1))
def ZhV(a0:List Int)(a1:List (List Bool)):oo->Prop
 |.L0 v1 v5 v6 v7=>(v1=a1)/\((SzL 24 (SzL 1 (λ_=>True))) v1)/\((SzL 8 (λ_=>True)) v5)/\((SzL 8 (λ_=>True)) v6)/\(0<=v7)/\(v5=elV a0)/\(v5.Nodup)/\(POS v5)/\(v5.length<=16448)/\(v6.length<=v7.toNat)/\(v7<=(v5.length:Int))/\(v6=(v5.take v7.toNat).filter (rdB v5 (nB v1)))
 |.L1 v1 v5 v6 v7 v8 v9=>(v1=a1)/\((SzL 24 (SzL 1 (λ_=>True))) v1)/\((SzL 8 (λ_=>True)) v5)/\((SzL 8 (λ_=>True)) v6)/\(0<=v9)/\(0<=v7)/\(v7<(v5.length:Int))/\(v5=elV a0)/\(v5.Nodup)/\(POS v5)/\(v5.length<=16448)/\(v6.length<=v7.toNat)/\(v7<(v5.length:Int))/\(v6=(v5.take v7.toNat).filter (rdB v5 (nB v1)))/\(RWI v5 v1 v7 v9 v8)
def Nf:oo->M6
 |.L0 v1 v5 v6 v7=>(1,((v5.length:Int)-v7).toNat,1000000,0,0,0)
 |.L1 v1 v5 v6 v7 v8 v9=>(1,((v5.length:Int)-v7).toNat,1,((v5.length:Int)-v9).toNat,1000000,0)
def ZhW{a0:List Int}{a1:List (List Bool)}(oa0:(SzL 8 (λ_=>True)) a0)(oa1:(SzL 24 (SzL 1 (λ_=>True))) a1)(h0:a0.length<=16448):Tot (AA a0 a1) (ZhU a0 a1):=by
 apply Tot.rn (ZhV a0 a1) Nf
 .dsimp only[Ng,LT.den];refine tB (ZhP oa0) λx1 h1=>?_;have eh1_2:=h1.2.2;exact tL ⟨rfl,oa1,h1.1,SzL.nil,cl,V,vy,jJ,cl,cl,cl,tk19⟩ vz
 intro s hs;cases s with
 |L0 v1 v5 v6 v7=>
  obtain⟨al0,ov1,ov5,ov6,cv7,i0,i1,i2,i3,i4,i5,i6⟩:=hs;have lb_v6:=ov6.1;subst al0;dsimp only[vA,Nh,LT.den];apply tD<;>intro h1
  .exact Ni
  exact tR ⟨ov6,cl,(by rw[<- (by assumption:v5=elV a0)];exact AB V O)⟩
 |L1 v1 v5 v6 v7 v8 v9=>
  obtain⟨al0,ov1,ov5,ov6,cv9,cv7,bd6,i0,i1,i2,i3,i4,i5,i6,i7⟩:=hs;have lb_v6:=ov6.1;subst al0;dsimp only[vA,Nj,LT.den];have lx_0:v5.length*8<=140737488351232:=ov5.1;apply tD<;>intro h1
  .apply tN<;>intro h2
   .refine Tot.ix λx1 h3=>?_;have mh3:=h3.2;have ch3:=(by assumption:POS v5) _ h3.1;have mh3:=h3.2;refine Tot.ix λx2 h4=>?_;have mh4:=h4.2;have ch4:=(by assumption:POS v5) _ h4.1;have mh4:=h4.2;refine tB (Z47 ov1 dI dI) λx3 h5=>?_;apply tF<;>intro h6
    .refine tB (ZhS ov5 ov1 dI V V cl) λx4 h7=>?_;have eh7_1:=h7.2;refine tB (Z89 h7.1) λx5 h8=>?_;apply tO<;>intro h9
     .exact vB
     exact vB
    exact vB
   exact vB
  apply tF<;>intro h2
  .refine Tot.ix λx1 h3=>?_;have mh3:=h3.2;have ch3:=(by assumption:POS v5) _ h3.1;have mh3:=h3.2;refine Tot.ap λx2 h4=>?_;have lh4:=ca h4;have q1:=wr (v7+1);exact tL ⟨rfl,ov1,ov5,SzL.tr,cl,V,vy,jJ,cl,cl,cl,tk19⟩ vz
  have q1:=wr (v7+1);exact tL ⟨rfl,ov1,ov5,ov6,cl,V,vy,jJ,cl,cl,cl,tk19⟩ vz
def Z1x{a0:List Int}{a1:Int}(oa0:(SzL 8 (λ_=>True)) a0)(h0:0<=a1):Tot (Nk a0 a1) (λr=>(r=stp a0 a1)):=by apply tZ;dsimp only[Nl,LT.den];exact Nm
def ZhX(a0:List Int)(a1:List Int)(a2:List (List Bool)):rQ->Prop
 |.L0 v1 v7 v8 v9=>(v1=a1)/\((SzL 8 (λ_=>True)) v1)/\((SzL 8 (λ_=>True)) v7)/\(0<=v9)/\(v7.length<=16448)/\(v7=rdV (elV a0) (nB a2))/\(v8=(v7.take v9.toNat).foldl (nxF v1) (-1))
def Z9a:rQ->M6
 |.L0 v1 v7 v8 v9=>(1,((v7.length:Int)-v9).toNat,1000000,0,0,0)
def ZhY{a0:List Int}{a1:List Int}{a2:List (List Bool)}(oa0:(SzL 8 (λ_=>True)) a0)(oa1:(SzL 8 (λ_=>True)) a1)(oa2:(SzL 24 (SzL 1 (λ_=>True))) a2)(h0:a0.length<=16448):Tot (Nn a0 a1 a2) (λr=>(r=nxV a0 a1 (nB a2))):=by
 apply Tot.rn (ZhX a0 a1 a2) Z9a
 .dsimp only[No,LT.den];refine tB (ZhW oa0 oa2 cl) λx1 h1=>?_;have eh1_1:=h1.2.1;have eh1_2:=h1.2.2;exact tL ⟨rfl,oa1,h1.1,cl,cl,V,tk48⟩ Np
 rintro⟨v1,v7,v8,v9⟩ ⟨al0,ov1,ov7,cv9,i0,i1,i2⟩;subst al0;dsimp only[AC,Nq,LT.den];apply tD<;>intro h1
 .refine Tot.ix λx1 h2=>?_;have mh2:=h2.2;have ch2:=ZhZ (by assumption:v7=rdV (elV a0) _) _ h2.1;have mh2:=h2.2;refine tB (Z1x ov1 cl) λx2 h3=>?_;apply tD<;>intro h4
  .exact rR
  refine tB (Z1x ov1 cl) λx3 h5=>?_;apply tD<;>intro h6
  .exact rR
  refine tB (Z1x ov1 cl) λx4 h7=>?_;apply tE<;>intro h8
  .apply tD<;>intro h9
   .exact rR
   exact rR
  exact rR
 exact tR (by exact nx_e V V O)
def ZiA(a0:au)(a1:List Int)(a2:Int):mh->Prop
 |.L0 v1 v2 E0 v7 v8 v9=>(E0=a0)/\(v1=a1)/\(v2=a2)/\((SzL 8 (λ_=>True)) v1)/\(cX E0)/\((SzL 8 (λ_=>True)) v7)/\((SzL 24 (SzL 1 (λ_=>True))) v8)/\(0<=v9)/\(E0.All.length=E0.S.Objects.length)/\(E0.Blank.length=E0.S.Objects.length)/\(E0.Begun.length=E0.L.length)/\(E0.Sets.length=E0.L.length)/\(E0.S.Objects.length<=2048)/\(E0.L.length<=16448)/\(POS v1)/\(INR E0.L.length v1)/\(v1.length<=16448)/\(v7.length<=v9.toNat)/\(v8.length=v9.toNat)/\(∀y,y∈v8->y.length=E0.L.length)/\(v9<=(E0.L.length:Int))/\(FLS v8)/\(v7=(E0.L.take v9.toNat).map λf=>f.Stamp)
 |.L1 v1 v2 E0 v7 v8 v10=>(E0=a0)/\(v1=a1)/\(v2=a2)/\((SzL 8 (λ_=>True)) v1)/\(cX E0)/\((SzL 8 (λ_=>True)) v7)/\((SzL 24 (SzL 1 (λ_=>True))) v8)/\(0<=v10)/\(E0.All.length=E0.S.Objects.length)/\(E0.Blank.length=E0.S.Objects.length)/\(E0.Begun.length=E0.L.length)/\(E0.Sets.length=E0.L.length)/\(E0.S.Objects.length<=2048)/\(E0.L.length<=16448)/\(POS v1)/\(INR E0.L.length v1)/\(v1.length<=16448)/\(v8.length=E0.L.length)/\(∀y,y∈v8->y.length=E0.L.length)/\(v7=E0.L.map λf=>f.Stamp)/\(NR2 E0 v2 v1 v10 0 v8)
 |.L2 v1 v2 E0 v7 v8 v10 v11=>(E0=a0)/\(v1=a1)/\(v2=a2)/\((SzL 8 (λ_=>True)) v1)/\(cX E0)/\((SzL 8 (λ_=>True)) v7)/\((SzL 24 (SzL 1 (λ_=>True))) v8)/\(0<=v11)/\(0<=v10)/\(v10<(v1.length:Int))/\(E0.All.length=E0.S.Objects.length)/\(E0.Blank.length=E0.S.Objects.length)/\(E0.Begun.length=E0.L.length)/\(E0.Sets.length=E0.L.length)/\(E0.S.Objects.length<=2048)/\(E0.L.length<=16448)/\(POS v1)/\(INR E0.L.length v1)/\(v1.length<=16448)/\(v8.length=E0.L.length)/\(∀y,y∈v8->y.length=E0.L.length)/\(v7=E0.L.map λf=>f.Stamp)/\(v10<(v1.length:Int))/\(NR2 E0 v2 v1 v10 v11 v8)
def Nr:mh->M6
 |.L0 v1 v2 E0 v7 v8 v9=>(3,((E0.L.length:Int)-v9).toNat,1000000,0,0,0)
 |.L1 v1 v2 E0 v7 v8 v10=>(1,((v1.length:Int)-v10).toNat,1000000,0,0,0)
 |.L2 v1 v2 E0 v7 v8 v10 v11=>(1,((v1.length:Int)-v10).toNat,1,((v1.length:Int)-v11).toNat,1000000,0)
def ZiB{a0:au}{a1:List Int}{a2:Int}(oa0:cX a0)(oa1:(SzL 8 (λ_=>True)) a1)(h0:a0.All.length=a0.S.Objects.length)(h1:a0.Blank.length=a0.S.Objects.length)(h2:a0.Begun.length=a0.L.length)(h3:a0.Sets.length=a0.L.length)(h4:a0.S.Objects.length<=2048)(h5:a0.L.length<=16448)(h6:INR a0.L.length a1)(h7:a1.length<=16448):Tot (Ns a0 a1 a2) (λr=>(r=nxV a1 (a0.L.map λf=>f.Stamp) (ndR a0 a2))):=by
 apply Tot.rn (ZiA a0 a1 a2) Nr
 .dsimp only[Nt,LT.den];exact tL ⟨rfl,rfl,rfl,oa1,oa0,SzL.nil,SzL.nil,cl,cl,cl,cl,cl,cl,cl,jf,V,cl,cl,cl,tk58,cl,Nu,tk77⟩ rS
 intro s hs;cases s with
 |L0 v1 v2 E0 v7 v8 v9=>
  obtain⟨al0,al1,al2,ov1,O0,ov7,ov8,cv9,i0,i1,i2,i3,i4,i5,i6,i7,i8,i9,i10,i11,i12,i13,i14⟩:=hs;have lb_v7:=ov7.1;have lb_v8:=ov8.1;subst al0;subst al1;subst al2;dsimp only[rT,Nv,LT.den];apply tD<;>intro h1
  .refine Tot.ix λx1 h2=>?_;have mh2:=h2.2;refine Tot.ap λx2 h3=>?_;have lh3:=ca h3;refine tB (Tot.mk) λx3 h4=>Tot.ap λx4 h5=>?_;have lh5:=ca h5;have q1:=wr (v9+1);exact tL ⟨rfl,rfl,rfl,ov1,O0,SzL.tr,SzL.app (k:=24) h5 lo ov8.2 (me1 SzL.tr),cl,cl,cl,cl,cl,cl,cl,jf,V,cl,cl,cl,tk58,cl,Nu,tk77⟩ rS
  exact Nw
 |L1 v1 v2 E0 v7 v8 v10=>
  obtain⟨al0,al1,al2,ov1,O0,ov7,ov8,cv10,i0,i1,i2,i3,i4,i5,i6,i7,i8,i9,i10,i11,i12⟩:=hs;have lb_v7:=ov7.1;have lb_v8:=ov8.1;subst al0;subst al1;subst al2;dsimp only[rT,Ny,LT.den];apply tD<;>intro h1
  .exact tL ⟨rfl,rfl,rfl,ov1,O0,ov7,ov8,cl,cl,cl,cl,cl,cl,cl,cl,cl,jf,V,cl,cl,tk58,AD,cl,tk47⟩ rS
  exact tB (ZhY ov1 ov7 ov8 cl) λx1 h2=>tR (by exact ZiC V O V V)
 |L2 v1 v2 E0 v7 v8 v10 v11=>
  obtain⟨al0,al1,al2,ov1,O0,ov7,ov8,cv11,cv10,bd9,i0,i1,i2,i3,i4,i5,i6,i7,i8,i9,i10,i11,i12,i13⟩:=hs;have lb_v7:=ov7.1;have lb_v8:=ov8.1;subst al0;subst al1;subst al2;dsimp only[rT,Nz,LT.den];have lx_0:v1.length*8<=140737488351232:=ov1.1;apply tD<;>intro h1
  .refine Tot.ix λx1 h2=>?_;have mh2:=h2.2;have zh2:=oq (by assumption:INR _ v1) mh2;have mh2:=h2.2;refine Tot.ix λx2 h3=>?_;have oh3:(SzL 1 (λ_=>True)) x2:=ov8.2 x2 h3.1;have mh3:=h3.2;have nh3:=(by assumption:∀y,y∈v8->_) _ h3.1;have mh3:=h3.2;refine Tot.ix λx3 h4=>?_;have mh4:=h4.2;have zh4:=oq (by assumption:INR _ v1) mh4;have mh4:=h4.2;refine tB (ZhL O0 cl cl cl cl cl cl cl cl cl cl) λx4 h5=>Tot.ix λx5 h6=>?_;have mh6:=h6.2;refine tB (Tot.setM) λx6 h7=>?_;have lh7:x6.length=v8.length:=by rw[h7,ez]
   have q1:=wr (v11+1);exact tL ⟨rfl,rfl,rfl,ov1,O0,ov7,SzL.setM h7 ov8 oh3,cl,cl,cl,cl,cl,cl,cl,cl,cl,jf,V,cl,cl,tk58,AD,cl,tk47⟩ rS
  have q1:=wr (v10+1);exact Nw
abbrev ZiD(a0:List Int)(a1:Int)(r:List Int):Prop:=((SzL 8 (λ_=>True)) r)/\(r=a0.filter λy=>y != a1)
def ZiE(a0:List Int)(a1:Int):rU->Prop
 |.L0 v0 v1 v5 v6=>(v0=a0)/\(v1=a1)/\((SzL 8 (λ_=>True)) v0)/\((SzL 8 (λ_=>True)) v5)/\(0<=v6)/\(v5.length<=v6.toNat)/\(v6.toNat<=v0.length)/\(v5=(v0.take v6.toNat).filter λy=>y != v1)
def NA:rU->M6
 |.L0 v0 v1 v5 v6=>(1,((v0.length:Int)-v6).toNat,1000000,0,0,0)
def ZiF{a0:List Int}{a1:Int}(oa0:(SzL 8 (λ_=>True)) a0):Tot (NB a0 a1) (ZiD a0 a1):=by
 apply Tot.rn (ZiE a0 a1) NA
 .have lb_a0:=oa0.1;dsimp only[NC,LT.den];exact tL ⟨rfl,rfl,oa0,SzL.nil,cl,cl,cl,tk39⟩ AE
 rintro⟨v0,v1,v5,v6⟩ ⟨al0,al1,ov0,ov5,cv6,i0,i1,i2⟩;have lb_v0:=ov0.1;have lb_v5:=ov5.1;subst al0;subst al1;dsimp only[Z0w,ND,LT.den];apply tD<;>intro h1
 .refine Tot.ix λx1 h2=>?_;have mh2:=h2.2;apply tN<;>intro h3
  .refine Tot.ap λx2 h4=>?_;have lh4:=ca h4;have q1:=wr (v6+1);exact tL ⟨rfl,rfl,ov0,SzL.tr,cl,cl,cl,tk39⟩ AE
  have q1:=wr (v6+1);exact tL ⟨rfl,rfl,ov0,ov5,cl,cl,cl,tk39⟩ AE
 exact tR ⟨ov5,(by exact AB V O)⟩
abbrev ZiG(a0:au)(a1:Int)(r:au×(List Int)):Prop:=(cX r.1)/\((SzL 8 (λ_=>True)) r.2)/\(r.1.All.length=r.1.S.Objects.length)/\(r.1.Blank.length=r.1.S.Objects.length)/\(r.1.Begun.length=r.1.L.length)/\(r.1.Sets.length=r.1.L.length)/\(r.1.S.Objects.length<=2048)/\(r.1.L.length<=16448)/\(r.1.S.Objects.length=a0.S.Objects.length)/\(r.1.L.length=a0.L.length)/\(r=stgR a0 a1)
def ZiH(a0:au)(a1:Int):ot->Prop
 |.L0 v1 E0 E1 v6 v7=>(v1=a1)/\(cX E0)/\(cX E1)/\((SzL 8 (λ_=>True)) v6)/\(0<=v7)/\(E0.All.length=E0.S.Objects.length)/\(E0.Blank.length=E0.S.Objects.length)/\(E0.Begun.length=E0.L.length)/\(E0.Sets.length=E0.L.length)/\(E0.S.Objects.length<=2048)/\(E0.L.length<=16448)/\(E0.S.Objects.length=a0.S.Objects.length)/\(E0.L.length=a0.L.length)/\(E0.L=a0.L)/\(E0=(if v1=7 then Z04 a0 else a0))/\(v6=zfm (λ_ f=>belR f v1) (λk _=>k) E0.L v7)/\(v6.length<=v7.toNat)/\(v7<=(E0.L.length:Int))
 |.L1 v1 E0 E1 v6 v8 v9 v10=>(v1=a1)/\(cX E0)/\(cX E1)/\((SzL 8 (λ_=>True)) v6)/\((SzL 8 (λ_=>True)) v8)/\(0<=v10)/\(E0.All.length=E0.S.Objects.length)/\(E0.Blank.length=E0.S.Objects.length)/\(E0.Begun.length=E0.L.length)/\(E0.Sets.length=E0.L.length)/\(E0.S.Objects.length<=2048)/\(E0.L.length<=16448)/\(E0.S.Objects.length=a0.S.Objects.length)/\(E0.L.length=a0.L.length)/\(E0.L=a0.L)/\(v6.Nodup)/\(INR E0.L.length v6)/\((v6.length:Int)=v9-v10)/\(v10<=v9)/\(v9<=16448)/\(v8.length=v10.toNat)/\(v9=((belS a0.L v1).length:Int))/\(STR a0 v1 E0 v6 v8)
def NF:ot->M6
 |.L0 v1 E0 E1 v6 v7=>(3,((E0.L.length:Int)-v7).toNat,1000000,0,0,0)
 |.L1 v1 E0 E1 v6 v8 v9 v10=>(1,(v9-v10).toNat,1000000,0,0,0)
def ZiI{a0:au}{a1:Int}(oa0:cX a0)(h0:a0.All.length=a0.S.Objects.length)(h1:a0.Blank.length=a0.S.Objects.length)(h2:a0.Begun.length=a0.L.length)(h3:a0.Sets.length=a0.L.length)(h4:a0.S.Objects.length<=2048)(h5:a0.L.length<=16448):Tot (NG a0 a1) (ZiG a0 a1):=by
 apply Tot.rn (ZiH a0 a1) NF
 .dsimp only[NH,LT.den];apply tE<;>intro h1
  .refine tB (ZgP oa0 cl cl cl cl cl cl) λx1 h2=>?_;have eh2_1:=h2.2;have kh2:=ZiJ (by assumption:x1=Z04 a0);have lh31:=kh2.1;have lh32:=kh2.2.1;have lh33:=kh2.2.2.1;have lh34:=kh2.2.2.2.1;have lh35:=kh2.2.2.2.2.1;have lh36:=kh2.2.2.2.2.2;exact tL ⟨rfl,h2.1,⟨⟨SzL.nil,SzL.nil,SzL.nil,SzL.nil,SzL.nil,SzL.nil,SzL.nil,SzL.nil⟩,SzL.nil,SzL.nil,SzL.nil,SzL.nil,SzL.nil⟩,SzL.nil,cl,cl,cl,cl,cl,cl,cl,cl,cl,vC,tk90,tk38,cs⟩ ou
  exact tL ⟨rfl,oa0,⟨⟨SzL.nil,SzL.nil,SzL.nil,SzL.nil,SzL.nil,SzL.nil,SzL.nil,SzL.nil⟩,SzL.nil,SzL.nil,SzL.nil,SzL.nil,SzL.nil⟩,SzL.nil,cl,cl,cl,cl,cl,cl,cl,cl,cl,vC,tk90,tk38,cs⟩ ou
 intro s hs;cases s with
 |L0 v1 E0 E1 v6 v7=>
  obtain⟨al0,O0,O1,ov6,cv7,i0,i1,i2,i3,i4,i5,i6,i7,i8,i9,i10,i11,i12⟩:=hs;have lb_v6:=ov6.1;subst al0;dsimp only[vD,NI,LT.den];apply tD<;>intro h1
  .refine Tot.ix λx1 h2=>?_;have oh2:fI x1:=O0.2.2.1.2 x1 h2.1;have mh2:=h2.2;refine tB (ZgR oh2) λx2 h3=>?_;apply tF<;>intro h4
   .refine Tot.ap λx3 h5=>?_;have lh5:=ca h5;have q1:=wr (v7+1);exact tL ⟨rfl,O0,O1,SzL.tr,cl,cl,cl,cl,cl,cl,cl,cl,cl,vC,tk90,tk38,cs⟩ ou
   have q1:=wr (v7+1);exact tL ⟨rfl,O0,O1,ov6,cl,cl,cl,cl,cl,cl,cl,cl,cl,vC,tk90,tk38,cs⟩ ou
  exact tL ⟨rfl,O0,O1,ov6,SzL.nil,cl,cl,cl,cl,cl,cl,cl,cl,cl,NJ,tk91,tk73,cl,cl,cl,cl,NK,tk41⟩ ou
 |L1 v1 E0 E1 v6 v8 v9 v10=>
  obtain⟨al0,O0,O1,ov6,ov8,cv10,i0,i1,i2,i3,i4,i5,i6,i7,i8,i9,i10,i11,i12,i13,i14,i15,i16⟩:=hs;have lb_v6:=ov6.1;have lb_v8:=ov8.1;subst al0;dsimp only[vD,NL,LT.den];apply tD<;>intro h1
  .refine tB (ZiB O0 ov6 cl cl cl cl cl cl KH cl) λx1 h2=>?_;have dh2:=NM (by assumption:x1=nxV v6 _ _) (AF V) O;have gh2:=(by assumption:INR _ v6) _ dh2;refine Tot.ap λx2 h3=>?_;have lh3:=ca h3;refine tB (Z7m O0 cl cl cl cl cl cl cl cl) λx3 h4=>?_;have eh4_1:=h4.2.1;have eh4_2:=h4.2.2.1;have eh4_3:=h4.2.2.2.1;have eh4_4:=h4.2.2.2.2.1;have eh4_5:=h4.2.2.2.2.2.1;have eh4_6:=h4.2.2.2.2.2.2.1;have eh4_8:=h4.2.2.2.2.2.2.2.2.1;have eh4_10:=h4.2.2.2.2.2.2.2.2.2.2.1;have eh4_11:=h4.2.2.2.2.2.2.2.2.2.2.2;refine tB (ZiF ov6) λx4 h5=>?_;have eh5_1:=h5.2;have wh5:x4.length+1=v6.length:=by rw[(by assumption:x4=List.filter _ v6)];exact NN V V
   have q1:=wr (v10+1);exact tL ⟨rfl,h4.1,O1,h5.1,SzL.tr,cl,cl,cl,cl,cl,cl,cl,cl,cl,NJ,tk91,tk73,cl,cl,cl,cl,NK,tk41⟩ ou
  exact tR ⟨O0,ov8,cl,cl,cl,cl,cl,cl,cl,cl,(by exact sr_e V O)⟩
abbrev ZiK(a0:List aq)(a1:av)(r:List ab):Prop:=((SzL 176 bl) r)/\(r.length=a1.Objects.length)/\(r=(Z4g a0 a1 8).All)
def ZiL(a0:List aq)(a1:av):rV->Prop
 |.L0 E0 v6=>(cX E0)/\(0<=v6)/\(E0.All.length=E0.S.Objects.length)/\(E0.Blank.length=E0.S.Objects.length)/\(E0.Begun.length=E0.L.length)/\(E0.Sets.length=E0.L.length)/\(E0.S.Objects.length<=2048)/\(E0.L.length<=16448)/\(E0.S.Objects.length=a1.Objects.length)/\(E0=Z4g a0 a1 (v6-1).toNat)/\(1<=v6)/\(v6<=9)
def NO:rV->M6
 |.L0 E0 v6=>(1,(8+1-v6).toNat,1000000,0,0,0)
def ZiM{a0:List aq}{a1:av}(oa0:(SzL 176 bQ) a0)(oa1:Z8 a1)(h0:a1.Objects.length<=2048)(h1:a1.Conts.length<=64)(h2:∀c,c∈a0->c.Abilities.length<=8):Tot (NP a0 a1) (ZiK a0 a1):=by
 apply Tot.rn (ZiL a0 a1) NO
 .dsimp only[NQ,LT.den];refine tB (ZgL oa0 oa1 cl cl bR) λx1 h1=>?_;have eh1_1:=h1.2.1;have eh1_2:=h1.2.2.1;have eh1_3:=h1.2.2.2.1;have eh1_4:=h1.2.2.2.2.1;have eh1_5:=h1.2.2.2.2.2.1;have eh1_6:=h1.2.2.2.2.2.2.1;have eh1_7:=h1.2.2.2.2.2.2.2.1;have eh1_8:=h1.2.2.2.2.2.2.2.2;exact tL ⟨h1.1,cl,cl,cl,cl,cl,cl,cl,cl,NR,cs⟩ NS
 rintro⟨E0,v6⟩ ⟨O0,cv6,i0,i1,i2,i3,i4,i5,i6,i7,i8,i9⟩;dsimp only[AG,NT,LT.den];apply tD<;>intro h1
 .refine tB (ZiI O0 cl cl cl cl cl cl) λx1 h2=>?_;have eh2_2:=h2.2.2.1;have eh2_3:=h2.2.2.2.1;have eh2_4:=h2.2.2.2.2.1;have eh2_5:=h2.2.2.2.2.2.1;have eh2_6:=h2.2.2.2.2.2.2.1;have eh2_7:=h2.2.2.2.2.2.2.2.1;have eh2_10:=h2.2.2.2.2.2.2.2.2.2.2;have q1:=wr (v6+1);exact tL ⟨h2.1,cl,cl,cl,cl,cl,cl,cl,cl,NR,cs⟩ NS
 exact tR ⟨O0.2.1,cl,(by exact rr_e V O O)⟩
def ZiN(a0:List af)(a1:List af):rW->Prop
 |.L0 v0 v1 v5=>(v0=a0)/\(v1=a1)/\((SzL 176 Z7) v0)/\((SzL 176 Z7) v1)/\(0<=v5)/\(v0.length=v1.length)
def Z9b:rW->M6
 |.L0 v0 v1 v5=>(1,((v0.length:Int)-v5).toNat,1000000,0,0,0)
def NU{a0:List af}{a1:List af}(oa0:(SzL 176 Z7) a0)(oa1:(SzL 176 Z7) a1):Tot (NV a0 a1) (λr=>(a0=a1->r=true)):=by
 apply Tot.rn (ZiN a0 a1) Z9b
 .have lb_a1:=oa1.1;dsimp only[NW,LT.den];have q1:=oa1.1;apply tN<;>intro h1
  .exact tR cu
  exact tL ⟨rfl,rfl,oa0,oa1,cs⟩ NX
 rintro⟨v0,v1,v5⟩ ⟨al0,al1,ov0,ov1,cv5,i0⟩;have lb_v0:=ov0.1;have lb_v1:=ov1.1;subst al0;subst al1;dsimp only[AH,NY,LT.den];apply tD<;>intro h1
 .refine Tot.ix λx1 h2=>Tot.ix λx2 h3=>?_;have mh3:=h3.2;apply tO<;>intro h4
  .exact tR cu
  have q1:=wr (v5+1);exact tL ⟨rfl,rfl,ov0,ov1,cs⟩ NX
 exact tR cu
def ZiO{a0:aX}{a1:aX}(oa0:cD a0)(oa1:cD a1):Tot (NZ a0 a1) (λr=>(a0=a1->r=true)):=by
 apply tZ;dsimp only[N0,LT.den];apply tE<;>intro h1
 .apply tF<;>intro h2
  .apply tF<;>intro h3
   .apply tE<;>intro h4
    .apply tE<;>intro h5
     .apply tF<;>intro h6
      .apply tF<;>intro h7
       .apply tF<;>intro h8
        .exact tB (NU oa0.2.2.2.2 oa1.2.2.2.2) λx1 h9=>tR cu
        exact tR cu
       exact tR cu
      exact tR cu
     exact tR cu
    exact tR cu
   exact tR cu
  exact tR cu
 exact tR cu
def ZiP(a0:an)(a1:an):ov->Prop
 |.L0 E0 E1 v5=>(E0=a0)/\(E1=a1)/\(Z1 E0)/\(Z1 E1)/\(0<=v5)/\(E0.Specs.length=E1.Specs.length)/\(E0.Effects.length=E1.Effects.length)
 |.L1 E0 E1 v6=>(E0=a0)/\(E1=a1)/\(Z1 E0)/\(Z1 E1)/\(0<=v6)/\(E0.Specs.length=E1.Specs.length)/\(E0.Effects.length=E1.Effects.length)
def N1:ov->M6
 |.L0 E0 E1 v5=>(3,((E0.Specs.length:Int)-v5).toNat,1000000,0,0,0)
 |.L1 E0 E1 v6=>(1,((E0.Effects.length:Int)-v6).toNat,1000000,0,0,0)
def ZiQ{a0:an}{a1:an}(oa0:Z1 a0)(oa1:Z1 a1):Tot (Z61 a0 a1) (λr=>(a0=a1->r=true)):=by
 apply Tot.rn (ZiP a0 a1) N1
 .dsimp only[Z14,LT.den];apply tN<;>intro h1
  .exact tR cu
  apply tO<;>intro h2
  .exact tR cu
  refine tB (NU oa0.2.1 oa1.2.1) λx1 h3=>?_;apply tO<;>intro h4
  .exact tR cu
  apply tO<;>intro h5
  .exact tR cu
  apply tO<;>intro h6
  .exact tR cu
  apply tO<;>intro h7
  .exact tR cu
  apply tO<;>intro h8
  .exact tR cu
  apply tO<;>intro h9
  .exact tR cu
  have q1:=oa1.2.2.2.1.1;apply tN<;>intro h10
  .exact tR cu
  have q2:=oa1.2.2.2.2.1.1;apply tN<;>intro h11
  .exact tR cu
  exact tL ⟨rfl,rfl,oa0,oa1,cs⟩ N2
 intro s hs;cases s with
 |L0 E0 E1 v5=>
  obtain⟨al0,al1,O0,O1,cv5,i0,i1⟩:=hs;subst al0;subst al1;dsimp only[vE,N3,LT.den];have q1:=O0.2.2.2.1.1;apply tD<;>intro h1
  .refine Tot.ix λx1 h2=>?_;have oh2:jK x1:=O0.2.2.2.1.2 x1 h2.1;refine Tot.ix λx2 h3=>?_;have oh3:jK x2:=O1.2.2.2.1.2 x2 h3.1;have mh3:=h3.2;apply tO<;>intro h4
   .exact tR cu
   have q2:=wr (v5+1);exact AI
  exact AI
 |L1 E0 E1 v6=>
  obtain⟨al0,al1,O0,O1,cv6,i0,i1⟩:=hs;subst al0;subst al1;dsimp only[vE,N4,LT.den];have q1:=O0.2.2.2.2.1.1;apply tD<;>intro h1
  .refine Tot.ix λx1 h2=>?_;have oh2:cD x1:=O0.2.2.2.2.1.2 x1 h2.1;refine Tot.ix λx2 h3=>?_;have oh3:cD x2:=O1.2.2.2.2.1.2 x2 h3.1;have mh3:=h3.2;refine tB (ZiO oh2 oh3) λx3 h4=>?_;apply tO<;>intro h5
   .exact tR cu
   have q2:=wr (v6+1);exact AI
  exact tR cu
def ZiR(a0:ab)(a1:ab):ow->Prop
 |.L0 E0 E1 v5=>(E0=a0)/\(E1=a1)/\(bl E0)/\(bl E1)/\(0<=v5)/\(E0.Line.Subs.length=E1.Line.Subs.length)/\(E0.Abilities.length=E1.Abilities.length)
 |.L1 E0 E1 v6=>(E0=a0)/\(E1=a1)/\(bl E0)/\(bl E1)/\(0<=v6)/\(E0.Line.Subs.length=E1.Line.Subs.length)/\(E0.Abilities.length=E1.Abilities.length)
def Z9c:ow->M6
 |.L0 E0 E1 v5=>(3,((E0.Line.Subs.length:Int)-v5).toNat,1000000,0,0,0)
 |.L1 E0 E1 v6=>(1,((E0.Abilities.length:Int)-v6).toNat,1000000,0,0,0)
def ZiS{a0:ab}{a1:ab}(oa0:bl a0)(oa1:bl a1):Tot (N5 a0 a1) (λr=>(a0=a1->r=true)):=by
 apply Tot.rn (ZiR a0 a1) Z9c
 .dsimp only[N6,LT.den];apply tO<;>intro h1
  .exact tR cu
  apply tO<;>intro h2
  .exact tR cu
  apply tN<;>intro h3
  .exact tR cu
  apply tN<;>intro h4
  .exact tR cu
  apply tN<;>intro h5
  .exact tR cu
  apply tN<;>intro h6
  .exact tR cu
  apply tN<;>intro h7
  .exact tR cu
  apply tN<;>intro h8
  .exact tR cu
  apply tN<;>intro h9
  .exact tR cu
  have q1:=oa0.2.1.1;have q2:=oa1.2.1.1;apply tN<;>intro h10
  .exact tR cu
  have q3:=oa0.2.2.1;have q4:=oa1.2.2.1;apply tN<;>intro h11
  .exact tR cu
  exact tL ⟨rfl,rfl,oa0,oa1,cs⟩ N7
 intro s hs;cases s with
 |L0 E0 E1 v5=>
  obtain⟨al0,al1,O0,O1,cv5,i0,i1⟩:=hs;subst al0;subst al1;dsimp only[Z2l,N8,LT.den];have q1:=O0.2.1.1;apply tD<;>intro h1
  .refine Tot.ix λx1 h2=>?_;have oh2:SzT x1:=O0.2.1.2 x1 h2.1;refine Tot.ix λx2 h3=>?_;have oh3:SzT x2:=O1.2.1.2 x2 h3.1;have mh3:=h3.2;apply tO<;>intro h4
   .exact tR cu
   have q2:=wr (v5+1);exact AJ
  exact AJ
 |L1 E0 E1 v6=>
  obtain⟨al0,al1,O0,O1,cv6,i0,i1⟩:=hs;subst al0;subst al1;dsimp only[Z2l,N9,LT.den];have q1:=O0.2.2.1;apply tD<;>intro h1
  .refine Tot.ix λx1 h2=>?_;have oh2:Z1 x1:=O0.2.2.2 x1 h2.1;refine Tot.ix λx2 h3=>?_;have oh3:Z1 x2:=O1.2.2.2 x2 h3.1;have mh3:=h3.2;refine tB (ZiQ oh2 oh3) λx3 h4=>?_;apply tO<;>intro h5
   .exact tR cu
   have q2:=wr (v6+1);exact AJ
  exact tR cu
def ZiT(a0:List ab)(a1:List ab):rX->Prop
 |.L0 v0 v1 v5=>(v0=a0)/\(v1=a1)/\((SzL 176 bl) v0)/\((SzL 176 bl) v1)/\(0<=v5)/\(v0.length=v1.length)
def Z9d:rX->M6
 |.L0 v0 v1 v5=>(1,((v0.length:Int)-v5).toNat,1000000,0,0,0)
def ZiU{a0:List ab}{a1:List ab}(oa0:(SzL 176 bl) a0)(oa1:(SzL 176 bl) a1):Tot (Oa a0 a1) (λr=>(a0=a1->r=true)):=by
 apply Tot.rn (ZiT a0 a1) Z9d
 .dsimp only[Ob,LT.den];apply tN<;>intro h1
  .exact AK
  exact tL ⟨rfl,rfl,oa0,oa1,cs⟩ Oc
 rintro⟨v0,v1,v5⟩ ⟨al0,al1,ov0,ov1,cv5,i0⟩;have lb_v0:=ov0.1;subst al0;subst al1;dsimp only[AL,Od,LT.den];apply tD<;>intro h1
 .refine Tot.ix λx1 h2=>?_;have oh2:bl x1:=ov0.2 x1 h2.1;have mh2:=h2.2;refine Tot.ix λx2 h3=>?_;have oh3:bl x2:=ov1.2 x2 h3.1;have mh3:=h3.2;refine tB (ZiS oh2 oh3) λx3 h4=>?_;apply tO<;>intro h5
  .exact AK
  have q1:=wr (v5+1);exact tL ⟨rfl,rfl,ov0,ov1,cs⟩ Oc
 exact AK
def ZiV{a0:List aq}{a1:av}(oa0:(SzL 176 bQ) a0)(oa1:Z8 a1):Tot (Z15 a0 a1) (λr=>(r=true)):=by
 apply tZ;dsimp only[Oe,LT.den];refine tB (ZiW oa0 oa1) λx1 h1=>?_;have eh1_0:=h1.1;have eh1_1:=h1.2.1;have eh1_2:=h1.2.2;apply tO<;>intro h2
 .exact tB (KO) λx2 h3=>tR tk53
 have h2_0:=eh1_0 h2;have h2_1:=eh1_1 h2;refine tB (KO) λx2 h3=>?_;apply tF<;>intro h4
 .refine tB (ZfX oa0 oa1 cl cl bR V) λx3 h5=>?_;have eh5_2:=h5.2.2.1;refine tB (ZiM oa0 oa1 cl cl bR) λx4 h6=>?_;have eh6_2:=h6.2.2;exact tB (ZiU h5.1 h6.1) λx5 h7=>tR tk53
 exact tR tk53
end Go.PW
