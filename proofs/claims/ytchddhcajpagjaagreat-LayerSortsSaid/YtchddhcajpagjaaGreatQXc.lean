import Derived.Test.YtchddhcajpagjaaGreatQXb
set_option linter.all false
set_option maxRecDepth 100000
namespace Go.PW
abbrev Zan(b0:ak)(a1:Int)(r:(List Int)×ak):Prop:=((SzL 8 (λ_=>True)) r.1)/\(cj r.2)/\(r.2.traits.length=r.2.s.Objects.length)/\(r.2.dropped.length=r.2.s.Objects.length)/\(r.2.done.length=r.2.forces.length)/\(r.2.hits.length=r.2.forces.length)/\(r.2.s.Objects.length<=2048)/\(r.2.forces.length<=16448)/\(HI r.2.s.Objects.length r.2.hits)/\(r.2.s=b0.s)/\(r.2.forces=b0.forces)/\(r=Z34 b0 a1)
def Zao(b0:ak)(a1:Int):nZ->Prop
 |.L0 c0 v1 v5 v6 v7 v18 v19 v20=>(v1=a1)/\(cj c0)/\((SzL 8 (λ_=>True)) v5)/\((SzL 8 (λ_=>True)) v6)/\((SzL 8 (λ_=>True)) v7)/\((SzL 224 gk) v18)/\(0<=v20)/\(c0.traits.length=c0.s.Objects.length)/\(c0.dropped.length=c0.s.Objects.length)/\(c0.done.length=c0.forces.length)/\(c0.hits.length=c0.forces.length)/\(c0.s.Objects.length<=2048)/\(c0.forces.length<=16448)/\(HI c0.s.Objects.length c0.hits)/\(c0.s.Objects.length=b0.s.Objects.length)/\(c0.forces.length=b0.forces.length)/\(c0.s=b0.s)/\(c0.forces=b0.forces)/\(v19=(v18.length:Int))/\(v19=(c0.forces.length:Int))/\(v5.length<=v20.toNat)/\(v7.length<=v20.toNat)/\(v20<=v19)/\(v6.length=0)/\(INR b0.forces.length v5)/\(bU c0.s.Objects)/\(c0=(if v1=7 then Z8n b0 else b0))/\(v18=b0.forces)/\(v5=zfm (λ_ f=>belB f v1) (λk _=>k) v18 v20)/\(v7=(v18.take v20.toNat).map λf=>f.Stamp)
 |.L1 c0 v1 v5 v6 v7=>(v1=a1)/\(cj c0)/\((SzL 8 (λ_=>True)) v5)/\((SzL 8 (λ_=>True)) v6)/\((SzL 8 (λ_=>True)) v7)/\(c0.traits.length=c0.s.Objects.length)/\(c0.dropped.length=c0.s.Objects.length)/\(c0.done.length=c0.forces.length)/\(c0.hits.length=c0.forces.length)/\(c0.s.Objects.length<=2048)/\(c0.forces.length<=16448)/\(HI c0.s.Objects.length c0.hits)/\(c0.s.Objects.length=b0.s.Objects.length)/\(c0.forces.length=b0.forces.length)/\(c0.s=b0.s)/\(c0.forces=b0.forces)/\(v6.length+v5.length<=b0.forces.length)/\(v7.length<=16448)/\(INR b0.forces.length v5)/\(bU c0.s.Objects)/\(v5.Nodup)/\(v7=b0.forces.map λf=>f.Stamp)/\(STG b0 v1 c0 v5 v6)/\(v6.length+v5.length=(Z33 b0.forces v1).length)
def JP:nZ->M6
 |.L0 c0 v1 v5 v6 v7 v18 v19 v20=>(1,(v19-v20).toNat,0,0,0,0)
 |.L1 c0 v1 v5 v6 v7=>(0,v5.length,0,0,0,0)
def JQ{b0:ak}{a1:Int}(ob0:cj b0)(h0:b0.traits.length=b0.s.Objects.length)(h1:b0.dropped.length=b0.s.Objects.length)(h2:b0.done.length=b0.forces.length)(h3:b0.hits.length=b0.forces.length)(h4:b0.s.Objects.length<=2048)(h5:b0.forces.length<=16448)(h6:HI b0.s.Objects.length b0.hits)(h7:bU b0.s.Objects):Tot (JR b0 a1) (Zan b0 a1):=by
 apply Tot.rn (Zao b0 a1) JP
 .dsimp only[JS,LT.den];apply tE<;>intro h1
  .refine tB (Zap ob0 cl cl cl cl cl cl bu) λx1 h2=>?_;have eh2_1:=h2.2.1;have eh2_2:=h2.2.2.1;have eh2_3:=h2.2.2.2.1;have eh2_4:=h2.2.2.2.2.1;have eh2_5:=h2.2.2.2.2.2.1;have eh2_6:=h2.2.2.2.2.2.2.1;have eh2_7:=h2.2.2.2.2.2.2.2.1;have eh2_8:=h2.2.2.2.2.2.2.2.2.1;have eh2_9:=h2.2.2.2.2.2.2.2.2.2.1;have eh2_10:=h2.2.2.2.2.2.2.2.2.2.2;have q1:=h2.1.2.1.1;exact tL ⟨rfl,h2.1,SzL.nil,SzL.nil,SzL.nil,h2.1.2.1,cl,cl,cl,cl,cl,cl,cl,bu,dO,dO,cx,cx,cl,cl,cl,cl,cl,cl,tk55,cJ,tk92,Z6,tk38,tk83⟩ n3
  have q1:=ob0.2.1.1;exact tL ⟨rfl,ob0,SzL.nil,SzL.nil,SzL.nil,ob0.2.1,cl,cl,cl,cl,cl,cl,cl,bu,dO,dO,cx,cx,cl,cl,cl,cl,cl,cl,tk55,cJ,tk92,Z6,tk38,tk83⟩ n3
 intro s hs;cases s with
 |L0 c0 v1 v5 v6 v7 v18 v19 v20=>
  obtain⟨al0,oc0,ov5,ov6,ov7,ov18,cv20,i0,i1,i2,i3,i4,i5,i6,i7,i8,i9,i10,i11,i12,i13,i14,i15,i16,i17,i18,i19,i20,i21,i22⟩:=hs;have lb_v5:=ov5.1;have lb_v6:=ov6.1;have lb_v7:=ov7.1;subst al0;dsimp only[u6,JT,LT.den];apply tD<;>intro h1
  .refine Tot.ix λx1 h2=>?_;have oh2:gk x1:=ov18.2 x1 h2.1;have mh2:=h2.2;have q1:=ov7.1;refine Tot.ap λx2 h3=>?_;have lh3:=b7 h3;refine tB (Zaq oh2) λx3 h4=>?_;apply tF<;>intro h5
   .have q2:=ov5.1;refine Tot.ap λx4 h6=>?_;have lh6:=b7 h6;have q3:=wr (v20+1);exact tL ⟨rfl,oc0,SzL.tr,ov6,SzL.tr,ov18,cl,cl,cl,cl,cl,cl,cl,bu,dO,dO,cx,cx,cl,cl,cl,cl,cl,cl,tk55,cJ,tk92,Z6,tk38,tk83⟩ n3
   have q2:=wr (v20+1);exact tL ⟨rfl,oc0,ov5,ov6,SzL.tr,ov18,cl,cl,cl,cl,cl,cl,cl,bu,dO,dO,cx,cx,cl,cl,cl,cl,cl,cl,tk55,cJ,tk92,Z6,tk38,tk83⟩ n3
  exact tL ⟨rfl,oc0,ov5,ov6,ov7,cl,cl,cl,cl,cl,cl,bu,dO,dO,cx,cx,cl,cl,tk55,cJ,tk95,JU,tk30,tk44⟩ n3
 |L1 c0 v1 v5 v6 v7=>
  obtain⟨al0,oc0,ov5,ov6,ov7,i0,i1,i2,i3,i4,i5,i6,i7,i8,i9,i10,i11,i12,i13,i14,i15,i16,i17,i18⟩:=hs;have lb_v5:=ov5.1;have lb_v6:=ov6.1;have lb_v7:=ov7.1;subst al0;dsimp only[u6,JV,LT.den];apply tD<;>intro h1
  .refine tB (Zar oc0 ov5 cl cl cl cl cl cl bu cl JW cJ) λx1 h2=>?_;have eh2_1:=h2.2;refine tB (Zas ov5 ov7 h2.1 cl jc) λx2 h3=>?_;have eh3_0:=h3.1;have eh3_1:=h3.2;have wh3:=Zat (by assumption:INR b0.forces.length v5) (by assumption:x2<0\/x2∈v5);apply tD<;>intro h4
   .exact JX
   refine tB (JY oc0 cl cl cl cl cl cl bu cl cl cJ) λx3 h5=>?_;have eh5_1:=h5.2.1;have eh5_2:=h5.2.2.1;have eh5_3:=h5.2.2.2.1;have eh5_4:=h5.2.2.2.2.1;have eh5_5:=h5.2.2.2.2.2.1;have eh5_6:=h5.2.2.2.2.2.2.1;have eh5_7:=h5.2.2.2.2.2.2.2.1;have eh5_8:=h5.2.2.2.2.2.2.2.2.1;have eh5_10:=h5.2.2.2.2.2.2.2.2.2.2;have q1:=ov6.1;refine Tot.ap λx4 h6=>?_;have lh6:=b7 h6;refine tB (Zau ov5) λx5 h7=>?_;have eh7_1:=h7.2;have sh7:=flt_sub' (by assumption:x5=_);have lh7:=flt_lt' (by assumption:x5=_) V V;exact tL ⟨rfl,h5.1,h7.1,SzL.tr,ov7,cl,cl,cl,cl,cl,cl,bu,dO,dO,cx,cx,cl,cl,tk55,cJ,tk95,JU,tk30,tk44⟩ n3
  exact JX
def JZ:Tot J0 (λr=>r=true):=⟨true,by kernel_rfl,rfl⟩
def Zav(a0:aK):rb->Prop
 |.L0 E0 v3 v4 v5=>(E0=a0)/\(0<=v5)/\(v5<=5)/\(v3=coP E0.Color v5)/\(v4=2 ^ v5.toNat)/\(Z0p E0=true)
def J1:rb->M6
 |.L0 E0 v3 v4 v5=>(1,(5-v5).toNat,1000000,0,0,0)
def Zaw{a0:aK}:Tot (J2 a0) (λr=>(r=coV a0)):=by
 apply Tot.rn (Zav a0) J1
 .dsimp only[J3,LT.den];refine tB (Z19 a0) λx1 h1=>?_;have eh1_0:=h1.1;have eh1_1:=h1.2.1;apply tO<;>intro h2
  .exact J4
  exact zK
 rintro⟨E0,v3,v4,v5⟩ ⟨al0,cv5,i0,i1,i2,i3⟩;subst al0;dsimp only[Z3q,J5,LT.den];have lb:0<=v3/\v3<=31:=by rw[i1];exact co_b
 have lp:v4<=32/\1<=v4:=by rw[i2];exact pw_b O
 apply tD<;>intro h1
 .refine tB (tI O J6) λx1 h2=>?_;have mh2:=h2.2;apply tD<;>intro h3
  .have q1:=wr (v3+v4);have q2:=wr (2*v4);have q3:=wr (v5+1);exact zK
  have q1:=wr (2*v4);have q2:=wr (v5+1);exact zK
 exact J4
def Zax(a0:ar):re->Prop
 |.L0 E0 E1 E2 v4=>(E0=a0)/\(cz E0)/\(cz E1)/\(cz E2)/\(0<=v4)/\(E2.Effects.length<=v4.toNat)/\(v4.toNat<=E0.Effects.length)/\(E2={ E0 with Effects:=E0.Effects.take v4.toNat })
def J7:re->M6
 |.L0 E0 E1 E2 v4=>(1,((E0.Effects.length:Int)-v4).toNat,1000000,0,0,0)
def Zay{a0:ar}(oa0:cz a0):Tot (Z71 a0) (λr=>(cz r)/\(r=a0)):=by
 apply Tot.rn (Zax a0) J7
 .dsimp only[J8,LT.den];have q1:=oa0.2.1.1;refine Tot.ap λx1 h1=>?_;have lh1:x1.length=([]:List af).length+a0.Mods.length:=by rw[h1,bk]
  try simp only[bw,bT,aM]at lh1
  have q2:=oa0.2.2.2.1.1;refine Tot.ap λx2 h2=>?_;have lh2:x2.length=([]:List ck).length+a0.Specs.length:=by rw[h2,bk]
  try simp only[bw,bT,aM]at lh2
  exact tL ⟨rfl,oa0,⟨SzS.nil,SzL.nil,SzS.nil,SzL.nil,SzL.nil,SzS.nil⟩,⟨oa0.1,SzL.app (k:=176) h1 lo (λ_ h=>by cases h) oa0.2.1.2,oa0.2.2.1,SzL.app (k:=144) h2 lo (λ_ h=>by cases h) oa0.2.2.2.1.2,SzL.nil,oa0.2.2.2.2.2⟩,cl,cl,cl,tk45⟩ J9
 rintro⟨E0,E1,E2,v4⟩ ⟨al0,O0,O1,O2,cv4,i0,i1,i2⟩;subst al0;dsimp only[Z0b,Ka,LT.den];have q1:=O0.2.2.2.2.1.1;apply tD<;>intro h1
 .refine Tot.ix λx1 h2=>?_;have oh2:cP x1:=O0.2.2.2.2.1.2 x1 h2.1;have mh2:=h2.2;have q2:=oh2.2.2.2.2.1;refine Tot.ap λx2 h3=>?_;have lh3:x2.length=([]:List af).length+x1.Mods.length:=by rw[h3,bk]
  try simp only[bw,bT,aM]at lh3
  have q3:=O2.2.2.2.2.1.1;refine Tot.ap λx3 h4=>?_;have lh4:=b7 h4;have q4:=wr (v4+1);exact tL ⟨rfl,O0,O1,⟨O2.1,O2.2.1,O2.2.2.1,O2.2.2.2.1,SzL.app (k:=560) h4 lo O2.2.2.2.2.1.2 (me1 ⟨oh2.1,oh2.2.1,oh2.2.2.1,oh2.2.2.2.1,SzL.app (k:=176) h3 lo (λ_ h=>by cases h) oh2.2.2.2.2.2⟩),O2.2.2.2.2.2⟩,cl,cl,cl,tk45⟩ J9
 exact tR ⟨O2,(by exact Zaz V O)⟩
abbrev ZaA(a0:an)(r:ae):Prop:=(Z0 r)/\(r.Abilities.length<=a0.Abilities.length)/\(r=prV a0)
def ZaB(a0:an):rf->Prop
 |.L0 E0 E1 E2 v4=>(E0=a0)/\(bR E0)/\(Z0 E1)/\(Z0 E2)/\(0<=v4)/\(E2.Abilities.length<=v4.toNat)/\(v4.toNat<=E0.Abilities.length)/\(E2={ prV E0 with Abilities:=E0.Abilities.take v4.toNat })
def Kb:rf->M6
 |.L0 E0 E1 E2 v4=>(1,((E0.Abilities.length:Int)-v4).toNat,1000000,0,0,0)
def ZaC{a0:an}(oa0:bR a0):Tot (Kc a0) (ZaA a0):=by
 apply Tot.rn (ZaB a0) Kb
 .dsimp only[Kd,LT.den];refine tB (Zaw) λx1 h1=>?_;have q1:=oa0.2.1.1;refine Tot.ap λx2 h2=>?_;have lh2:x2.length=([]:List (List UInt8)).length+a0.Line.Subs.length:=by rw[h2,bk]
  try simp only[bw,bT,aM]at lh2
  exact tL ⟨rfl,oa0,⟨SzS.nil,SzL.nil,SzL.nil⟩,⟨oa0.1,SzL.app (k:=16) h2 lo (λ_ h=>by cases h) oa0.2.1.2,SzL.nil⟩,cl,cl,cl,tk25⟩ Ke
 rintro⟨E0,E1,E2,v4⟩ ⟨al0,O0,O1,O2,cv4,i0,i1,i2⟩;subst al0;dsimp only[Z0c,Kg,LT.den];have q1:=O0.2.2.1;apply tD<;>intro h1
 .refine Tot.ix λx1 h2=>?_;have oh2:cz x1:=O0.2.2.2 x1 h2.1;have mh2:=h2.2;refine tB (Zay oh2) λx2 h3=>?_;have eh3_1:=h3.2;have q2:=O2.2.2.1;refine Tot.ap λx3 h4=>?_;have lh4:=b7 h4;have q3:=wr (v4+1);exact tL ⟨rfl,O0,O1,⟨O2.1,O2.2.1,SzL.app (k:=640) h4 lo O2.2.2.2 (me1 h3.1)⟩,cl,cl,cl,tk25⟩ Ke
 exact tR ⟨O2,cl,Kh⟩
abbrev Z80(a0:List an)(a1:aj)(r:ae):Prop:=(Z0 r)/\(r.Abilities.length<=8)/\(r=baV a0 a1)
def rh(a0:List an)(a1:aj):n4->Prop
 |.L0 v0 E0 E1 v5=>(v0=a0)/\(E0=a1)/\((SzL 176 bR) v0)/\(Z0 E1)/\(∀c,c∈v0->c.Abilities.length<=8)/\(v5=if E0.Copy<0 then E0.Card else E0.Copy)
 |.L1 E0 E1 E2=>(E0=a1)/\(Z0 E1)/\(Z0 E2)/\(E2.Abilities.length<=8)/\(E2=fS a0 (if E0.Copy<0 then E0.Card else E0.Copy))
def zL:n4->M6
 |.L0 v0 E0 E1 v5=>(0,0,0,0,0,0)
 |.L1 E0 E1 E2=>(0,0,0,0,0,0)
def Z1k{a0:List an}{a1:aj}{E0:aj}{E1:ae}{E2:ae}(h:(rh a0 a1) (.L1 E0 E1 E2)):Tot (n5 E0 E1 E2).den (Nx (rh a0 a1) zL (0,0,0,0,0,0) (Z80 a0 a1)):=by
 obtain⟨al0,O1,O2,i0,i1⟩:=h;subst al0;dsimp only[n5,LT.den];apply tE<;>intro h1
 .exact zM
 apply tE<;>intro h2
 .exact zM
 exact zM
def Ki{a0:List an}{a1:aj}{v0:List an}{E0:aj}{E1:ae}{v5:Int}(h:(rh a0 a1) (.L0 v0 E0 E1 v5)):Tot (ri v0 E0 E1 v5).den (Nx (rh a0 a1) zL (0,0,0,0,0,0) (Z80 a0 a1)):=by
 obtain⟨al0,al1,ov0,O1,i0,i1⟩:=h;subst al0;subst al1;dsimp only[ri,LT.den];apply tD<;>intro h1
 .apply tD<;>intro h2
  .refine Tot.ix λx1 h3=>?_;have oh3:bR x1:=ov0.2 x1 h3.1;have mh3:=h3.2;have nh3:=i0 x1 h3.1;refine tB (ZaC oh3) λx2 h4=>?_;have eh4_2:=h4.2.2;exact tJ (Z1k ⟨rfl,O1,h4.1,cl,tk42⟩)
  exact Kj
 exact Kj
def Kk{a0:List an}{a1:aj}(oa0:(SzL 176 bR) a0)(h0:∀c,c∈a0->c.Abilities.length<=8):Tot (zN a0 a1) (Z80 a0 a1):=by
 apply Tot.rn (rh a0 a1) zL
 .dsimp only[Kl,LT.den];apply tD<;>intro h1
  .exact Km
  exact Km
 intro s hs;cases s with
 |L0 _ _ _ _=>exact Ki hs
 |L1 _ _ _=>exact Z1k hs
def ZaD(a0:List an)(a1:ao):l8->Prop
 |.L0 v0 E0 v5 v6=>(v0=a0)/\(E0=a1)/\((SzL 176 bR) v0)/\(Z8 E0)/\((SzL 224 fD) v5)/\(0<=v6)/\(E0.Objects.length<=2048)/\(E0.Conts.length<=64)/\(∀c,c∈v0->c.Abilities.length<=8)/\(v5=obF fR v0 E0.Objects v6)/\(v6<=(E0.Objects.length:Int))
 |.L1 v0 E0 v5 v6 E1 E2 v9=>(v0=a0)/\(E0=a1)/\((SzL 176 bR) v0)/\(Z8 E0)/\((SzL 224 fD) v5)/\(Z0 E2)/\(0<=v9)/\(0<=v6)/\(v6<(E0.Objects.length:Int))/\(E0.Objects.length<=2048)/\(E0.Conts.length<=64)/\(∀c,c∈v0->c.Abilities.length<=8)/\(v5=obF fR v0 E0.Objects v6++abF (fR E1) E2.Abilities v9)/\(E1.Zone=0)/\(E0.Objects[v6.toNat]?=some E1)/\(E2.Abilities=(baV v0 E1).Abilities)/\(v6<(E0.Objects.length:Int))/\(v9<=(E2.Abilities.length:Int))
 |.L2 E0 v5 v11=>(E0=a1)/\(Z8 E0)/\((SzL 224 fD) v5)/\(0<=v11)/\(∀c,c∈a0->c.Abilities.length<=8)/\(E0.Objects.length<=2048)/\(E0.Conts.length<=64)/\(v5=obF fR a0 a1.Objects a1.Objects.length++coF gR E0.Conts v11)/\(v11<=(E0.Conts.length:Int))
def Ko:l8->M6
 |.L0 v0 E0 v5 v6=>(3,((E0.Objects.length:Int)-v6).toNat,1000000,0,0,0)
 |.L1 v0 E0 v5 v6 E1 E2 v9=>(3,((E0.Objects.length:Int)-v6).toNat,1,((E2.Abilities.length:Int)-v9).toNat,1000000,0)
 |.L2 E0 v5 v11=>(1,((E0.Conts.length:Int)-v11).toNat,1000000,0,0,0)
def ZaE{a0:List an}{a1:ao}(oa0:(SzL 176 bR) a0)(oa1:Z8 a1)(h0:a1.Objects.length<=2048)(h1:a1.Conts.length<=64)(h2:∀c,c∈a0->c.Abilities.length<=8):Tot (zO a0 a1) (λr=>((SzL 224 fD) r)/\(r=FS fR gR a0 a1)):=by
 apply Tot.rn (ZaD a0 a1) Ko
 .dsimp only[Kp,LT.den];exact tL ⟨rfl,rfl,oa0,oa1,SzL.nil,cl,cl,cl,bO,tk35,cl⟩ l9
 intro s hs;cases s with
 |L0 v0 E0 v5 v6=>
  obtain⟨al0,al1,ov0,O0,ov5,cv6,i0,i1,i2,i3,i4⟩:=hs;have lb_v5:=ov5.1;subst al0;subst al1;dsimp only[rj,Kq,LT.den];have lq:v5.length<=8*2048:=by rw[(by assumption:v5=obF _ _ _ _)];have:=ma (f:=fR) (l:=E0.Objects) (v:=v6) (by assumption:∀c,c∈v0->_);have:E0.Objects.length<=2048:=Kr;omega
  have q1:=O0.2.1.1;apply tD<;>intro h1
  .refine Tot.ix λx1 h2=>?_;have mh2:=h2.2;apply tN<;>intro h3
   .exact Ks
   exact tB (Kk ov0 bO) λx2 h4=>tL ⟨rfl,rfl,ov0,O0,ov5,h4.1,cl,cl,cl,cl,cl,bO,tk14,cl,V,bO,cs⟩ l9
  exact tL ⟨rfl,O0,ov5,cl,bO,cl,cl,tk28,cl⟩ l9
 |L1 v0 E0 v5 v6 E1 E2 v9=>
  obtain⟨al0,al1,ov0,O0,ov5,O2,cv9,cv6,bd8,i0,i1,i2,i3,i4,i5,i6,i7,i8⟩:=hs;have lb_v5:=ov5.1;subst al0;subst al1;dsimp only[rj,Kt,LT.den];have lx_0:E0.Objects.length*128<=140737488351232:=O0.2.1.1;have lq:v5.length<=8*2048+8:=by rw[(by assumption:v5=obF _ _ _ _++_),bk];have:=ma (f:=fR) (l:=E0.Objects) (v:=v6) (by assumption:∀c,c∈v0->_);have:E0.Objects.length<=2048:=Kr;have:=zP (f:=fR E1) (l:=E2.Abilities) (v:=v9);have:=zQ (by assumption:∀c,c∈v0->_) E1;rw[<- (by assumption:E2.Abilities=(baV v0 E1).Abilities)]at this;omega
  have q1:=O2.2.2.1;apply tD<;>intro h1
  .refine Tot.ix λx1 h2=>?_;have oh2:cz x1:=O2.2.2.2 x1 h2.1;have mh2:=h2.2;apply tE<;>intro h3
   .have q2:=ov5.1;refine Tot.ap λx2 h4=>?_;have lh4:=b7 h4;have q3:=wr (v9+1);exact tL ⟨rfl,rfl,ov0,O0,SzL.app (k:=224) h4 lo ov5.2 (me1 ⟨SzL.nil,oh2.1,oh2.2.1⟩),O2,cl,cl,cl,cl,cl,bO,tk14,cl,V,bO,cs⟩ l9
   have q2:=wr (v9+1);exact tL ⟨rfl,rfl,ov0,O0,ov5,O2,cl,cl,cl,cl,cl,bO,tk14,cl,V,bO,cs⟩ l9
  exact Ks
 |L2 E0 v5 v11=>
  obtain⟨al0,O0,ov5,cv11,i0,i1,i2,i3,i4⟩:=hs;have lb_v5:=ov5.1;subst al0;dsimp only[rj,Ku,LT.den];have lq:v5.length<=8*2048+64:=by rw[(by assumption:v5=obF _ _ _ _++_),bk];have:=ma (f:=fR) (l:=E0.Objects) (v:=E0.Objects.length) (by assumption:∀c,c∈a0->_);have:(coF gR E0.Conts v11).length<=64:=(by unfold coF;rw[cK,eT];have:E0.Conts.length<=64:=(by first|omega|(rw[(by assumption:E0.Conts=_)];omega));omega);omega
  have q1:=O0.2.2.2.2.2.2.1.1;apply tD<;>intro h1
  .refine Tot.ix λx1 h2=>?_;have oh2:n6 x1:=O0.2.2.2.2.2.2.1.2 x1 h2.1;have mh2:=h2.2;have q2:=ov5.1;refine Tot.ap λx2 h3=>?_;have lh3:=b7 h3;have q3:=wr (v11+1);exact tL ⟨rfl,O0,SzL.app (k:=224) h3 lo ov5.2 (me1 ⟨oh2.1,SzS.nil,oh2.2⟩),cl,bO,cl,cl,tk28,cl⟩ l9
  exact Kv
def ZaF(a0:List Int)(a1:List Int):rk->Prop
 |.L0 v0 v1 v5=>(v0=a0)/\(v1=a1)/\((SzL 8 (λ_=>True)) v0)/\((SzL 8 (λ_=>True)) v1)/\(0<=v5)/\(v0.length=v1.length)/\(∀(k:Nat) x,(k:Int)<v5->v0[k]?=some x->v1[k]?=some x)
def Z81:rk->M6
 |.L0 v0 v1 v5=>(1,((v0.length:Int)-v5).toNat,1000000,0,0,0)
def Z4n{a0:List Int}{a1:List Int}(oa0:(SzL 8 (λ_=>True)) a0)(oa1:(SzL 8 (λ_=>True)) a1):Tot (Kw a0 a1) (λr=>(r=true↔a0=a1)):=by
 apply Tot.rn (ZaF a0 a1) Z81
 .have lb_a1:=oa1.1;dsimp only[Kx,LT.den];have q1:=oa1.1;apply tN<;>intro h1
  .exact n7
  exact tL ⟨rfl,rfl,oa0,oa1,cl,cl,tk61⟩ Ky
 rintro⟨v0,v1,v5⟩ ⟨al0,al1,ov0,ov1,cv5,i0,i1⟩;have lb_v0:=ov0.1;subst al0;subst al1;dsimp only[zR,Kz,LT.den];apply tD<;>intro h1
 .refine Tot.ix λx1 h2=>?_;have mh2:=h2.2;refine Tot.ix λx2 h3=>?_;have mh3:=h3.2;apply tN<;>intro h4
  .exact n7
  have q1:=wr (v5+1);exact tL ⟨rfl,rfl,ov0,ov1,cl,cl,tk61⟩ Ky
 exact n7
abbrev ZaG(a0:List an)(a1:ao)(r:au):Prop:=(cW r)/\(r.All.length=r.S.Objects.length)/\(r.Blank.length=r.S.Objects.length)/\(r.Begun.length=r.L.length)/\(r.Sets.length=r.L.length)/\(r.S.Objects.length<=2048)/\(r.L.length<=16448)/\(r.S.Objects.length=a1.Objects.length)/\(r=begR a0 a1)
def ZaH(a0:List an)(a1:ao):rp->Prop
 |.L0 v0 E0 E1 E2 v6=>(v0=a0)/\(E0=a1)/\((SzL 176 bR) v0)/\(Z8 E0)/\(cW E1)/\(cW E2)/\(0<=v6)/\(∀c,c∈v0->c.Abilities.length<=8)/\(E0.Objects.length<=2048)/\(E2.S=E0)/\(E2.S.Objects.length=E0.Objects.length)/\(E2.L=FS fR gR v0 E0)/\(E2.L.length<=16448)/\(E2.All.length=v6.toNat)/\(v6<=(E0.Objects.length:Int))/\(E2.All=(E0.Objects.take v6.toNat).map (baV v0))
def Z4o:rp->M6
 |.L0 v0 E0 E1 E2 v6=>(1,((E0.Objects.length:Int)-v6).toNat,1000000,0,0,0)
def ZaI{a0:List an}{a1:ao}(oa0:(SzL 176 bR) a0)(oa1:Z8 a1)(h0:a1.Objects.length<=2048)(h1:a1.Conts.length<=64)(h2:∀c,c∈a0->c.Abilities.length<=8):Tot (KA a0 a1) (ZaG a0 a1):=by
 apply Tot.rn (ZaH a0 a1) Z4o
 .dsimp only[KB,LT.den];refine tB (ZaE oa0 oa1 cl cl bO) λx1 h1=>?_;have eh1_1:=h1.2;have lh1:=KC (f:=fR) (g:=gR) (s:=a1) (by assumption:∀c,c∈a0->_);rw[<- (by assumption:x1=FS _ _ _ _)]at lh1;exact tL ⟨rfl,rfl,oa0,oa1,⟨⟨SzL.nil,SzL.nil,SzL.nil,SzL.nil,SzL.nil,SzL.nil,SzL.nil,SzL.nil⟩,SzL.nil,SzL.nil,SzL.nil,SzL.nil,SzL.nil⟩,⟨oa1,SzL.nil,h1.1,SzL.nil,SzL.nil,SzL.nil⟩,cl,bO,cl,Z6,cl,V,cl,cl,cl,tk68⟩ KD
 rintro⟨v0,E0,E1,E2,v6⟩ ⟨al0,al1,ov0,O0,O1,O2,cv6,i0,i1,i2,i3,i4,i5,i6,i7,i8⟩;subst al0;subst al1;dsimp only[Z73,KE,LT.den];apply tD<;>intro h1
 .refine Tot.ix λx1 h2=>?_;have mh2:=h2.2;refine tB (Kk ov0 bO) λx2 h3=>?_;have eh3_2:=h3.2.2;have q1:=O2.2.1.1;refine Tot.ap λx3 h4=>?_;have lh4:=b7 h4;have q2:=wr (v6+1);exact tL ⟨rfl,rfl,ov0,O0,O1,⟨O2.1,SzL.app (k:=176) h4 lo O2.2.1.2 (me1 h3.1),O2.2.2.1,O2.2.2.2.1,O2.2.2.2.2.1,O2.2.2.2.2.2⟩,cl,bO,cl,Z6,cl,V,cl,cl,cl,tk68⟩ KD
 exact tB (Tot.mk) λx1 h2=>tB (Tot.mk) λx2 h3=>tB (Tot.mk) λx3 h4=>tR ⟨⟨O2.1,O2.2.1,O2.2.2.1,SzL.tr,⟨lo,λe he=>by rw[h3.2 e he];exact SzL.nil⟩,SzL.tr⟩,cl,cl,cl,cl,cl,cl,cl,(by exact br_e V O V V V V V)⟩
def kS{a0:Int}:Tot (Z6o a0) (λr=>(r=clV a0)):=by
 apply tZ;dsimp only[Z74,LT.den];apply tD<;>intro h1
 .exact zS
 apply tD<;>intro h2
 .exact zS
 exact zS
def ZaJ{a0:Int}{a1:Int}:Tot (KF a0 a1) (λr=>(r=suV a0 a1)):=by apply tZ;dsimp only[KG,LT.den];refine tB (kS) λx1 h1=>tB (kS) λx2 h2=>?_;have q1:=wr (x1-x2);exact tB (kS) λx3 h3=>tR (by unfold suV;grind)
def ZaK{a0:A3 Int}:Tot (KH a0) (λr=>(r=pwV a0)):=by apply tZ;dsimp only[KI,LT.den];refine tB (tI O u7) λx1 h1=>?_;have mh1:=h1.2;refine tB (tI O u7) λx2 h2=>?_;have mh2:=h2.2;exact tB (ZaJ) λx3 h3=>tR KJ
def u9{a0:Int}{a1:Int}:Tot (va a0 a1) (λr=>(r=adV a0 a1)):=by apply tZ;dsimp only[zT,LT.den];refine tB (kS) λx1 h1=>tB (kS) λx2 h2=>?_;have q1:=wr (x1+x2);exact tB (kS) λx3 h3=>tR (by unfold adV;grind)
def ZaL(a0:au):rq->Prop
 |.L0 E0 E1 E2 v4=>(E0=a0)/\(cW E0)/\(cW E1)/\(cW E2)/\(0<=v4)/\(E0.All.length=E0.S.Objects.length)/\(E0.Blank.length=E0.S.Objects.length)/\(E0.Begun.length=E0.L.length)/\(E0.Sets.length=E0.L.length)/\(E0.S.Objects.length<=2048)/\(E0.L.length<=16448)/\(E2.S=E0.S)/\(E2.L=E0.L)/\(E2.Begun=E0.Begun)/\(E2.Sets=E0.Sets)/\(E2.Blank=E0.Blank)/\(E2.All.length=v4.toNat)/\(v4<=(E0.All.length:Int))/\(E2.All=(E0.All.take v4.toNat).mapIdx (Z8o E0.S.Objects))
def KK:rq->M6
 |.L0 E0 E1 E2 v4=>(1,((E0.All.length:Int)-v4).toNat,1000000,0,0,0)
def ZaM{a0:au}(oa0:cW a0)(h0:a0.All.length=a0.S.Objects.length)(h1:a0.Blank.length=a0.S.Objects.length)(h2:a0.Begun.length=a0.L.length)(h3:a0.Sets.length=a0.L.length)(h4:a0.S.Objects.length<=2048)(h5:a0.L.length<=16448):Tot (KL a0) (λr=>(cW r)/\(r=Z0r a0)):=by
 apply Tot.rn (ZaL a0) KK
 .dsimp only[KM,LT.den];exact tL ⟨rfl,oa0,⟨⟨SzL.nil,SzL.nil,SzL.nil,SzL.nil,SzL.nil,SzL.nil,SzL.nil,SzL.nil⟩,SzL.nil,SzL.nil,SzL.nil,SzL.nil,SzL.nil⟩,⟨oa0.1,SzL.nil,oa0.2.2.1,oa0.2.2.2.1,oa0.2.2.2.2.1,oa0.2.2.2.2.2⟩,cl,cl,cl,cl,cl,cl,cl,Z6,Z6,Z6,Z6,Z6,cl,cl,tk6⟩ vd
 rintro⟨E0,E1,E2,v4⟩ ⟨al0,O0,O1,O2,cv4,i0,i1,i2,i3,i4,i5,i6,i7,i8,i9,i10,i11,i12,i13⟩;subst al0;dsimp only[Z0d,KN,LT.den];apply tD<;>intro h1
 .refine Tot.ix λx1 h2=>?_;have oh2:Z0 x1:=O0.2.1.2 x1 h2.1;have mh2:=h2.2;refine Tot.ix λx2 h3=>?_;have mh3:=h3.2;apply tE<;>intro h4
  .apply tE<;>intro h5
   .refine tB (ZaK) λx3 h6=>tB (u9) λx4 h7=>tB (u9) λx5 h8=>?_;have q1:=O2.2.1.1;refine Tot.ap λx6 h9=>?_;have lh9:=b7 h9;have q2:=wr (v4+1);exact tL ⟨rfl,O0,O1,⟨O2.1,SzL.app (k:=176) h9 lo O2.2.1.2 (me1 ⟨oh2.1,oh2.2.1,oh2.2.2⟩),O2.2.2.1,O2.2.2.2.1,O2.2.2.2.2.1,O2.2.2.2.2.2⟩,cl,cl,cl,cl,cl,cl,cl,Z6,Z6,Z6,Z6,Z6,cl,cl,tk6⟩ vd
   have q1:=O2.2.1.1;refine Tot.ap λx3 h6=>?_;have lh6:=b7 h6;have q2:=wr (v4+1);exact tL ⟨rfl,O0,O1,⟨O2.1,SzL.app (k:=176) h6 lo O2.2.1.2 (me1 oh2),O2.2.2.1,O2.2.2.2.1,O2.2.2.2.2.1,O2.2.2.2.2.2⟩,cl,cl,cl,cl,cl,cl,cl,Z6,Z6,Z6,Z6,Z6,cl,cl,tk6⟩ vd
  have q1:=O2.2.1.1;refine Tot.ap λx3 h5=>?_;have lh5:=b7 h5;have q2:=wr (v4+1);exact tL ⟨rfl,O0,O1,⟨O2.1,SzL.app (k:=176) h5 lo O2.2.1.2 (me1 oh2),O2.2.2.1,O2.2.2.2.1,O2.2.2.2.2.1,O2.2.2.2.2.2⟩,cl,cl,cl,cl,cl,cl,cl,Z6,Z6,Z6,Z6,Z6,cl,cl,tk6⟩ vd
 exact tR ⟨O2,(by exact cu_e V O V V V V V)⟩
def mb(a0:Int):mc->Prop
 |.L0 v3 v6=>(v3=a0)/\(v6=true↔2<=v3/\v3<=5)/\(v3≠1)
 |.L1 v3 v11=>(v3=a0)/\(v11=true↔v3=6\/v3=7)/\(v3<1\/5<v3)
 |.L2 v3 v14=>(v3=a0)/\(v14=true↔8<=v3/\v3<=10)/\(v3<1\/7<v3)
def ve:mc->M6
 |.L0 v3 v6=>(0,0,0,0,0,0)
 |.L1 v3 v11=>(0,0,0,0,0,0)
 |.L2 v3 v14=>(0,0,0,0,0,0)
def Z4p{a0:Int}{v3:Int}{v14:Bool}(h:(mb a0) (.L2 v3 v14)):Tot (n8 v3 v14).den (Nx (mb a0) ve (0,0,0,0,0,0) (λr=>(r=stV a0))):=by
 obtain⟨al0,i0,i1⟩:=h;subst al0;dsimp only[n8,LT.den];apply tF<;>intro h1
 .exact gm
 apply tE<;>intro h2
 .exact gm
 apply tE<;>intro h3
 .exact gm
 apply tE<;>intro h4
 .exact gm
 apply tE<;>intro h5
 .exact gm
 exact gm
def Z4q{a0:Int}{v3:Int}{v11:Bool}(h:(mb a0) (.L1 v3 v11)):Tot (rr v3 v11).den (Nx (mb a0) ve (0,0,0,0,0,0) (λr=>(r=stV a0))):=by
 obtain⟨al0,i0,i1⟩:=h;subst al0;dsimp only[rr,LT.den];apply tF<;>intro h1
 .exact gm
 apply tE<;>intro h2
 .exact zU
 apply tE<;>intro h3
 .exact zU
 exact zU
def Z4r{a0:Int}{v3:Int}{v6:Bool}(h:(mb a0) (.L0 v3 v6)):Tot (me v3 v6).den (Nx (mb a0) ve (0,0,0,0,0,0) (λr=>(r=stV a0))):=by
 obtain⟨al0,i0,i1⟩:=h;subst al0;dsimp only[me,LT.den];apply tF<;>intro h1
 .exact gm
 apply tE<;>intro h2
 .exact KO
 exact KO
def vf{a0:Int}:Tot (KP a0) (λr=>(r=stV a0)):=by
 apply Tot.rn (mb a0) ve
 .dsimp only[KQ,LT.den];apply tE<;>intro h1
  .exact gm
  apply tE<;>intro h2
  .exact vg
  apply tE<;>intro h3
  .exact vg
  apply tE<;>intro h4
  .exact vg
  exact vg
 intro s hs;cases s with
 |L0 _ _=>exact Z4r hs
 |L1 _ _=>exact Z4q hs
 |L2 _ _=>exact Z4p hs
def ZaN(a0:ba)(a1:Int):ru->Prop
 |.L0 v1 E0 v5=>(E0=a0)/\(v1=a1)/\(fD E0)/\(0<=v5)/\((E0.Mods.take v5.toNat).any (blP v1)=false)
def KR:ru->M6
 |.L0 v1 E0 v5=>(1,((E0.Mods.length:Int)-v5).toNat,1000000,0,0,0)
def ZaO{a0:ba}{a1:Int}(oa0:fD a0):Tot (KS a0 a1) (λr=>(r=belR a0 a1)):=by
 apply Tot.rn (ZaN a0 a1) KR
 .dsimp only[KT,LT.den];exact tL ⟨rfl,rfl,oa0,cl,tk69⟩ KU
 rintro⟨v1,E0,v5⟩ ⟨al0,al1,O0,cv5,i0⟩;subst al0;subst al1;dsimp only[Z0e,KV,LT.den];have q1:=O0.2.2.1;apply tD<;>intro h1
 .refine Tot.ix λx1 h2=>?_;have mh2:=h2.2;refine tB (vf) λx2 h3=>?_;apply tE<;>intro h4
  .exact KW
  have q2:=wr (v5+1);exact tL ⟨rfl,rfl,O0,cl,tk69⟩ KU
 exact KW
abbrev ZaP(a0:ao)(a1:Int)(r:Int):Prop:=(-1<=r)/\(r<(a0.Objects.length:Int))/\(r=ixO a0.Objects a1)
def ZaQ(a0:ao)(a1:Int):rv->Prop
 |.L0 v1 E0 v5=>(E0=a0)/\(v1=a1)/\(Z8 E0)/\(0<=v5)/\(NoId E0.Objects v1 v5)
def Z4s:rv->M6
 |.L0 v1 E0 v5=>(1,((E0.Objects.length:Int)-v5).toNat,1000000,0,0,0)
def KX{a0:ao}{a1:Int}(oa0:Z8 a0):Tot (KY a0 a1) (ZaP a0 a1):=by
 apply Tot.rn (ZaQ a0 a1) Z4s
 .dsimp only[KZ,LT.den];exact tL ⟨rfl,rfl,oa0,cl,tk65⟩ K0
 rintro⟨v1,E0,v5⟩ ⟨al0,al1,O0,cv5,i0⟩;subst al0;subst al1;dsimp only[Z75,K1,LT.den];have q1:=O0.2.1.1;apply tD<;>intro h1
 .refine Tot.ix λx1 h2=>?_;have mh2:=h2.2;apply tE<;>intro h3
  .exact K2
  have q2:=wr (v5+1);exact tL ⟨rfl,rfl,O0,cl,tk65⟩ K0
 exact K2
def vh{a0:au}{a1:Int}(oa0:cW a0)(h0:a0.All.length=a0.S.Objects.length)(h1:a0.Blank.length=a0.S.Objects.length)(h2:a0.Begun.length=a0.L.length)(h3:a0.Sets.length=a0.L.length)(h4:a0.S.Objects.length<=2048)(h5:a0.L.length<=16448)(h6:0<=a1)(h7:a1<(a0.L.length:Int)):Tot (K3 a0 a1) (λr=>(r=ct a0 a1)):=by
 apply tZ;dsimp only[K4,LT.den];refine Tot.ix λx1 h1=>?_;have mh1:=h1.2;apply tF<;>intro h2
 .exact vi
 refine Tot.ix λx2 h3=>?_;have mh3:=h3.2;apply tF<;>intro h4
 .exact vi
 refine tB (KX oa0.1) λx3 h5=>?_;have eh5_2:=h5.2.2;apply tD<;>intro h6
 .exact vi
 refine Tot.ix λx4 h7=>?_;have mh7:=h7.2;exact vi
def ZaR(a0:List Int)(a1:Int):ry->Prop
 |.L0 v0 v1 v5=>(v0=a0)/\(v1=a1)/\((SzL 8 (λ_=>True)) v0)/\(0<=v5)/\(∀(k:Nat) y,(k:Int)<v5->v0[k]?=some y->y≠v1)
def Z4t:ry->M6
 |.L0 v0 v1 v5=>(1,((v0.length:Int)-v5).toNat,1000000,0,0,0)
def ZaS{a0:List Int}{a1:Int}(oa0:(SzL 8 (λ_=>True)) a0):Tot (K5 a0 a1) (λr=>(r=ixI a0 a1)):=by
 apply Tot.rn (ZaR a0 a1) Z4t
 .dsimp only[K6,LT.den];exact tL ⟨rfl,rfl,oa0,cl,tk37⟩ K7
 rintro⟨v0,v1,v5⟩ ⟨al0,al1,ov0,cv5,i0⟩;have lb_v0:=ov0.1;subst al0;subst al1;dsimp only[Z76,K8,LT.den];apply tD<;>intro h1
 .refine Tot.ix λx1 h2=>?_;have mh2:=h2.2;apply tE<;>intro h3
  .exact K9
  have q1:=wr (v5+1);exact tL ⟨rfl,rfl,ov0,cl,tk37⟩ K7
 exact K9
def La{a0:List Int}{a1:Int}(oa0:(SzL 8 (λ_=>True)) a0):Tot (Lb a0 a1) (λr=>(r=true↔a1∈a0)):=by apply tZ;dsimp only[Lc,LT.den];exact tB (ZaS oa0) λx1 h1=>tR (by exact ixc V)
def vj{a0:au}{a1:Int}(oa0:cW a0)(h0:a0.All.length=a0.S.Objects.length)(h1:a0.Blank.length=a0.S.Objects.length)(h2:a0.Begun.length=a0.L.length)(h3:a0.Sets.length=a0.L.length)(h4:a0.S.Objects.length<=2048)(h5:a0.L.length<=16448)(h6:0<=a1)(h7:a1<(a0.L.length:Int)):Tot (Ld a0 a1) (λr=>(r=eI a0 a1)):=by
 apply tZ;dsimp only[Le,LT.den];refine Tot.ix λx1 h1=>?_;have mh1:=h1.2;refine tB (KX oa0.1) λx2 h2=>?_;have eh2_2:=h2.2.2;apply tF<;>intro h3
 .exact zV
 apply tD<;>intro h4
 .exact zV
 refine Tot.ix λx3 h5=>?_;have mh5:=h5.2;exact zV
def ZaT(a0:aI)(a1:List UInt8)(oa0:fE a0)(oa1:SzT a1):Tot (Z16 a0 a1) (λr=>r=di a0.Subs a1):=⟨_,Lf a0 a1 (Lg oa0),rfl⟩
def Lh(a0:aj)(a1:ae)(a2 a3:Int)(a4:al)(oa1:Z0 a1)(oa4:da a4):Tot (Z17 a0 a1 a2 a3 a4) (λr=>r=gI a0 a1 a2 a3 a4):=⟨_,Li a0 a1 a2 a3 a4 (Lj oa1),rfl⟩
def ZaU(a0:au)(a1:Int):rz->Prop
 |.L0 v1 E0 v5 E1 v7=>(E0=a0)/\(v1=a1)/\(cW E0)/\((SzL 8 (λ_=>True)) v5)/\(fD E1)/\(0<=v7)/\(E0.All.length=E0.S.Objects.length)/\(E0.Blank.length=E0.S.Objects.length)/\(E0.Begun.length=E0.L.length)/\(E0.Sets.length=E0.L.length)/\(E0.S.Objects.length<=2048)/\(E0.L.length<=16448)/\(0<=v1)/\(v1<(E0.L.length:Int))/\(v5.length<=v7.toNat)/\(v7<=(E0.S.Objects.length:Int))/\(v5=zfm (ia E0 E1 (eI E0 v1)) (λ_ o=>o.Id) E0.S.Objects v7)/\(E0.L[v1.toNat]?=some E1)/\(ct E0 v1=true)/\(bA E0.Begun v1=false)
def Lk:rz->M6
 |.L0 v1 E0 v5 E1 v7=>(1,((E0.S.Objects.length:Int)-v7).toNat,1000000,0,0,0)
def zW{a0:au}{a1:Int}(oa0:cW a0)(h0:a0.All.length=a0.S.Objects.length)(h1:a0.Blank.length=a0.S.Objects.length)(h2:a0.Begun.length=a0.L.length)(h3:a0.Sets.length=a0.L.length)(h4:a0.S.Objects.length<=2048)(h5:a0.L.length<=16448)(h6:0<=a1)(h7:a1<(a0.L.length:Int)):Tot (Ll a0 a1) (λr=>((SzL 8 (λ_=>True)) r)/\(r=cQ a0 a1)):=by
 apply Tot.rn (ZaU a0 a1) Lk
 .dsimp only[Lm,LT.den];refine Tot.ix λx1 h1=>?_;have mh1:=h1.2;apply tF<;>intro h2
  .refine Tot.ix λx2 h3=>?_;have oh3:(SzL 8 (λ_=>True)) x2:=oa0.2.2.2.2.1.2 x2 h3.1;have mh3:=h3.2;exact tR ⟨oh3,tk26⟩
  refine tB (vh oa0 cl cl cl cl cl cl cl cl) λx2 h3=>?_;apply tO<;>intro h4
  .exact tR ⟨SzL.nil,tk26⟩
  refine Tot.ix λx3 h5=>?_;have oh5:fD x3:=oa0.2.2.1.2 x3 h5.1;have mh5:=h5.2;exact tL ⟨rfl,rfl,oa0,SzL.nil,oh5,cl,cl,cl,cl,cl,cl,cl,cl,cl,cl,cl,tk1,V,aP,n9⟩ zX
 rintro⟨v1,E0,v5,E1,v7⟩ ⟨al0,al1,O0,ov5,O1,cv7,i0,i1,i2,i3,i4,i5,i6,i7,i8,i9,i10,i11,i12,i13⟩;have lb_v5:=ov5.1;subst al0;subst al1;dsimp only[Z0g,Ln,LT.den];apply tD<;>intro h1
 .refine Tot.ix λx1 h2=>?_;have mh2:=h2.2;apply tN<;>intro h3
  .exact rA
  apply tF<;>intro h4
  .refine tB (La O1.1) λx2 h5=>?_;apply tF<;>intro h6
   .refine Tot.ap λx3 h7=>?_;have lh7:=b7 h7;exact zY
   apply tO<;>intro h7
   .refine Tot.ix λx3 h8=>?_;have oh8:Z0 x3:=O0.2.1.2 x3 h8.1;have mh8:=h8.2;refine tB (vj O0 cl cl cl cl cl cl cl cl) λx4 h9=>tB (Lh x1 x3 x4 E1.Source E1.Filter oh8 O1.2.1) λx5 h10=>?_;apply tF<;>intro h11
    .refine Tot.ap λx6 h12=>?_;have lh12:=b7 h12;exact zY
    exact rA
   exact rA
  apply tO<;>intro h5
  .refine Tot.ix λx2 h6=>?_;have oh6:Z0 x2:=O0.2.1.2 x2 h6.1;have mh6:=h6.2;refine tB (vj O0 cl cl cl cl cl cl cl cl) λx3 h7=>tB (Lh x1 x2 x3 E1.Source E1.Filter oh6 O1.2.1) λx4 h8=>?_;apply tF<;>intro h9
   .refine Tot.ap λx5 h10=>?_;have lh10:=b7 h10;exact zY
   exact rA
  exact rA
 exact tR ⟨ov5,tk26⟩
def ZaV(a0:ao)(a1:List ae)(a2 a3:Int)(a4:al)(oa0:Z8 a0)(oa1:(SzL 176 Z0) a1)(oa4:da a4):Tot (Z3u a0 a1 a2 a3 a4) (λr=>((SzL 8 (λ_=>True)) r)/\(r=Z18 a0 a1 a2 a3 a4)):=⟨_,ZaW a0 a1 a2 a3 a4 oa0.2.1.1 λt ht=>Lo (oa1.2 t ht),Lp oa0,rfl⟩
def ZaX(a0:au)(a1:Int)(a2:Int):rB->Prop
 |.L0 v1 v2 E0 v7 E1 v9=>(E0=a0)/\(v1=a1)/\(v2=a2)/\(cW E0)/\((SzL 8 (λ_=>True)) v7)/\(fD E1)/\(0<=v9)/\(E0.All.length=E0.S.Objects.length)/\(E0.Blank.length=E0.S.Objects.length)/\(E0.Begun.length=E0.L.length)/\(E0.Sets.length=E0.L.length)/\(E0.S.Objects.length<=2048)/\(E0.L.length<=16448)/\(0<=v1)/\(v1<(E0.L.length:Int))/\(v7.length<=v9.toNat)/\(v9<=(E1.Mods.length:Int))/\(E0.L[v1.toNat]?=some E1)/\(v7=nrP E0 v1 E1 v2 v9)
def Lq:rB->M6
 |.L0 v1 v2 E0 v7 E1 v9=>(1,((E1.Mods.length:Int)-v9).toNat,1000000,0,0,0)
def zZ{a0:au}{a1:Int}{a2:Int}(oa0:cW a0)(h0:a0.All.length=a0.S.Objects.length)(h1:a0.Blank.length=a0.S.Objects.length)(h2:a0.Begun.length=a0.L.length)(h3:a0.Sets.length=a0.L.length)(h4:a0.S.Objects.length<=2048)(h5:a0.L.length<=16448)(h6:0<=a1)(h7:a1<(a0.L.length:Int)):Tot (Z79 a0 a1 a2) (λr=>((SzL 8 (λ_=>True)) r)/\(r=fu a0 a1 a2)):=by
 apply Tot.rn (ZaX a0 a1 a2) Lq
 .dsimp only[Lr,LT.den];refine Tot.ix λx1 h1=>?_;have oh1:fD x1:=oa0.2.2.1.2 x1 h1.1;have mh1:=h1.2;exact tL ⟨rfl,rfl,rfl,oa0,SzL.nil,oh1,cl,cl,cl,cl,cl,cl,cl,cl,cl,cl,cl,V,tk7⟩ z6
 rintro⟨v1,v2,E0,v7,E1,v9⟩ ⟨al0,al1,al2,O0,ov7,O1,cv9,i0,i1,i2,i3,i4,i5,i6,i7,i8,i9,i10,i11⟩;have lb_v7:=ov7.1;subst al0;subst al1;subst al2;dsimp only[Z0h,Ls,LT.den];have q1:=O1.2.2.1;apply tD<;>intro h1
 .refine Tot.ix λx1 h2=>?_;have oh2:bC x1:=O1.2.2.2 x1 h2.1;have mh2:=h2.2;refine tB (vf) λx2 h3=>?_;apply tN<;>intro h4
  .have q2:=wr (v9+1);exact tL ⟨rfl,rfl,rfl,O0,ov7,O1,cl,cl,cl,cl,cl,cl,cl,cl,cl,cl,cl,V,tk7⟩ z6
  apply tE<;>intro h5
  .refine tB (vj O0 cl cl cl cl cl cl cl cl) λx3 h6=>tB (ZaV E0.S E0.All x3 E1.Source x1.Filter O0.1 O0.2.1 oh2.2) λx4 h7=>?_;have eh7_1:=h7.2;refine Tot.ap λx5 h8=>?_;have lh8:=b7 h8;exact Lt
  refine Tot.ap λx3 h6=>?_;have lh6:=b7 h6;exact Lt
 exact tR ⟨ov7,(by exact nr_e V O V)⟩
def z7(a0:aI)(a1:List UInt8):oa->Prop
 |.L0 v1 E0 E1 v5 v6=>(E0=a0)/\(v1=a1)/\(SzT v1)/\(fE E0)/\(fE E1)/\((SzL 16 SzT) v5)/\(0<=v6)/\(v6.toNat<=v5.length)/\(v5.length<=4)/\(v5=E0.Subs)/\(fU v1=true)/\(di E0.Subs v1=false)/\(¬(E0.Subs.length:Int)>=4)/\(LsS v5 v1 v6)
 |.L1 v1 E0 E1 v5 v6=>(E0=a0)/\(v1=a1)/\(SzT v1)/\(fE E0)/\(fE E1)/\((SzL 16 SzT) v5)/\(0<=v6)/\(v6.toNat<=v5.length)/\(v5.length<=4)/\(v5=E0.Subs)/\(fU v1=true)/\(di E0.Subs v1=false)/\(¬(E0.Subs.length:Int)>=4)/\(v6=ixL v5 v1)
def vk:oa->M6
 |.L0 v1 E0 E1 v5 v6=>(1,((v5.length:Int)-v6).toNat,1000000,0,0,0)
 |.L1 v1 E0 E1 v5 v6=>(0,0,0,0,0,0)
def Z1u{a0:aI}{a1:List UInt8}{v1:List UInt8}{E0:aI}{E1:aI}{v5:List (List UInt8)}{v6:Int}(h:(z7 a0 a1) (.L1 v1 E0 E1 v5 v6)):Tot (rC v1 E0 E1 v5 v6).den (Nx (z7 a0 a1) vk (0,0,0,0,0,0) (λr=>(fE r)/\(r=lnV a0 a1))):=by
 obtain⟨al0,al1,ov1,O0,O1,ov5,i0,i1,i2,i3,i4,i5,i6,i7⟩:=h;subst al0;subst al1;dsimp only[rC,LT.den];refine tB (Tot.slice O O O) λx1 h1=>?_;have q1:x1.length*16<=140737488351232:=(show SzL 16 SzT x1 from⟨lo,λe he=>ov5.2 e (h1.2.1 e he)⟩).1;refine Tot.ap λx2 h2=>?_;have lh2:x2.length=([]:List (List UInt8)).length+x1.length:=by rw[h2,bk]
 try simp only[bw,bT,aM]at lh2
 have q2:=(SzL.app (k:=16) h2 lo (λ_ h=>by cases h) (show SzL 1 SzT _ from⟨lo,λe he=>ov5.2 e (h1.2.1 e he)⟩).2).1;refine Tot.ap λx3 h3=>?_;have lh3:=b7 h3;refine tB (Tot.slice O O O) λx4 h4=>?_;have q3:=(SzL.app (k:=16) h3 lo (SzL.app (k:=16) h2 lo (λ_ h=>by cases h) (show SzL 1 SzT _ from⟨lo,λe he=>ov5.2 e (h1.2.1 e he)⟩).2).2 (me1 ov1)).1;have q4:x4.length*16<=140737488351232:=(show SzL 16 SzT x4 from⟨lo,λe he=>ov5.2 e (h4.2.1 e he)⟩).1;refine Tot.ap λx5 h5=>?_;have lh5:x5.length=x3.length+x4.length:=by rw[h5,bk]
 try simp only[bw,bT,aM]at lh5
 exact tR ⟨SzL.app (k:=16) h5 lo (SzL.app (k:=16) h3 lo (SzL.app (k:=16) h2 lo (λ_ h=>by cases h) (show SzL 1 SzT _ from⟨lo,λe he=>ov5.2 e (h1.2.1 e he)⟩).2).2 (me1 ov1)).2 (show SzL 1 SzT _ from⟨lo,λe he=>ov5.2 e (h4.2.1 e he)⟩).2,tk32⟩
def ZaY{a0:aI}{a1:List UInt8}(oa0:fE a0)(oa1:SzT a1):Tot (Lu a0 a1) (λr=>(fE r)/\(r=lnV a0 a1)):=by
 apply Tot.rn (z7 a0 a1) vk
 .dsimp only[Lv,LT.den];have q1:=oa0.1;refine Tot.ap λx1 h1=>?_;have lh1:x1.length=([]:List (List UInt8)).length+a0.Subs.length:=by rw[h1,bk]
  try simp only[bw,bT,aM]at lh1
  refine tB (vl a1 oa1) λx2 h2=>?_;apply tO<;>intro h3
  .exact z8
  refine tB (ZaT a0 a1 oa0 oa1) λx3 h4=>?_;apply tF<;>intro h5
  .exact z8
  apply tD<;>intro h6
  .exact z8
  exact tL ⟨rfl,rfl,oa1,oa0,SzL.nil,SzL.app (k:=16) h1 lo (λ_ h=>by cases h) oa0.2,cl,cl,cl,bO,aP,aP,bO,tk80⟩ Lw
 intro s hs;cases s with
 |L0 v1 E0 E1 v5 v6=>
  obtain⟨al0,al1,ov1,O0,O1,ov5,i0,i1,i2,i3,i4,i5,i6,i7⟩:=hs;subst al0;subst al1;dsimp only[Z3v,Lx,LT.den,vk];apply tD<;>intro h1
  .refine Tot.ix λx1 h2=>?_;have mh2:=h2.2;apply tF<;>intro h3
   .have q1:=wr (v6+1);exact tL ⟨rfl,rfl,ov1,O0,O1,ov5,cl,cl,cl,bO,aP,aP,bO,tk80⟩ Lw
   exact Ly
  exact Ly
 |L1 _ _ _ _ _=>exact Z1u hs
def ZaZ{a0:ae}{a1:af}{a2:Int}{a3:Int}(oa0:Z0 a0)(oa1:bC a1):Tot (Lz a0 a1 a2 a3) (λr=>(Z0 r)/\(r=apV a0 a1 a2 a3)):=by
 apply tZ;dsimp only[LA,LT.den];refine tB (Aa oa1) λx1 h1=>?_;apply tO<;>intro h2
 .exact LB
 apply tE<;>intro h3
 .exact j6
 apply tE<;>intro h4
 .exact j6
 apply tE<;>intro h5
 .exact j6
 apply tE<;>intro h6
 .exact tR ⟨⟨oa0.1,SzL.one (SzS.t oa1.1),oa0.2.2⟩,gJ⟩
 apply tE<;>intro h7
 .refine tB (ZaY oa0.2.1 (SzS.t oa1.1)) λx2 h8=>?_;have eh8_1:=h8.2;exact tR ⟨⟨oa0.1,h8.1,oa0.2.2⟩,gJ⟩
 apply tE<;>intro h8
 .exact j6
 apply tE<;>intro h9
 .exact j6
 apply tE<;>intro h10
 .exact j6
 apply tE<;>intro h11
 .exact j6
 apply tE<;>intro h12
 .exact tR ⟨⟨oa0.1,oa0.2.1,SzL.nil⟩,gJ⟩
 apply tE<;>intro h13
 .exact tB (kS) λx2 h14=>tB (kS) λx3 h15=>tR ⟨⟨oa0.1,oa0.2.1,oa0.2.2⟩,gJ⟩
 apply tE<;>intro h14
 .exact j6
 apply tE<;>intro h15
 .exact tB (u9) λx2 h16=>tB (u9) λx3 h17=>tR ⟨⟨oa0.1,oa0.2.1,oa0.2.2⟩,gJ⟩
 apply tE<;>intro h16
 .exact j6
 exact LB
def Za0(a0:ae)(a1:ba)(a2:Int)(a3:Int)(a4:List Int):rD->Prop
 |.L0 v2 v3 v4 E0 E1 E2 v11 v12=>(E1=a1)/\(v2=a2)/\(v3=a3)/\(v4=a4)/\((SzL 8 (λ_=>True)) v4)/\(Z0 E0)/\(fD E1)/\(Z0 E2)/\(0<=v12)/\(0<=v11)/\(v4.length=(E1.Mods.filter λm=>stV m.Kind==v2).length)/\(v11=(cnS E1 v2 v12:Int))/\(MFR E1 v4 v3 v2 a0 v12 E0 v11)
def Z7a:rD->M6
 |.L0 v2 v3 v4 E0 E1 E2 v11 v12=>(1,((E1.Mods.length:Int)-v12).toNat,1000000,0,0,0)
def Za1{a0:ae}{a1:ba}{a2:Int}{a3:Int}{a4:List Int}(oa0:Z0 a0)(oa1:fD a1)(oa4:(SzL 8 (λ_=>True)) a4)(h0:a4.length=(a1.Mods.filter λm=>stV m.Kind==a2).length):Tot (LC a0 a1 a2 a3 a4) (λr=>(Z0 r)/\(r=mfR a1.Mods a4 a3 a2 a0)):=by
 apply Tot.rn (Za0 a0 a1 a2 a3 a4) Z7a
 .dsimp only[LD,LT.den];exact tL ⟨rfl,rfl,rfl,rfl,oa4,oa0,oa1,⟨SzS.nil,SzL.nil,SzL.nil⟩,cl,cl,V,tk27,tk21⟩ Ab
 rintro⟨v2,v3,v4,E0,E1,E2,v11,v12⟩ ⟨al0,al1,al2,al3,ov4,O0,O1,O2,cv12,i0,i1,i2,i3⟩;have lb_v4:=ov4.1;subst al0;subst al1;subst al2;subst al3;dsimp only[Ac,Z6p,LT.den];have q1:=O1.2.2.1;apply tD<;>intro h1
 .refine Tot.ix λx1 h2=>?_;have oh2:bC x1:=O1.2.2.2 x1 h2.1;have mh2:=h2.2;have mh2:=h2.2;refine tB (vf) λx2 h3=>?_;apply tE<;>intro h4
  .have lc:=Za2 (by assumption:v11=(cnS _ _ _:Int)) V mh2 V V V;refine Tot.ix λx3 h5=>?_;have mh5:=h5.2;refine tB (ZaZ O0 oh2) λx4 h6=>?_;have eh6_1:=h6.2;have q2:=wr (v11+1);have q3:=wr (v12+1);exact tL ⟨rfl,rfl,rfl,rfl,ov4,h6.1,O1,O2,cl,cl,V,tk27,tk21⟩ Ab
  have q2:=wr (v12+1);exact tL ⟨rfl,rfl,rfl,rfl,ov4,O0,O1,O2,cl,cl,V,tk27,tk21⟩ Ab
 exact tR ⟨O0,(by exact mr_e V O)⟩
def Za3(a0:ba)(a1:Int):rE->Prop
 |.L0 v1 E0 v5=>(E0=a0)/\(v1=a1)/\(fD E0)/\(0<=v5)/\((E0.Mods.take v5.toNat).any (drP v1)=false)
def Z4u:rE->M6
 |.L0 v1 E0 v5=>(1,((E0.Mods.length:Int)-v5).toNat,1000000,0,0,0)
def Za4{a0:ba}{a1:Int}(oa0:fD a0):Tot (LG a0 a1) (λr=>(r=drR a0.Mods a1)):=by
 apply Tot.rn (Za3 a0 a1) Z4u
 .dsimp only[LH,LT.den];exact tL ⟨rfl,rfl,oa0,cl,tk31⟩ LI
 rintro⟨v1,E0,v5⟩ ⟨al0,al1,O0,cv5,i0⟩;subst al0;subst al1;dsimp only[Z8a,LJ,LT.den];have q1:=O0.2.2.1;apply tD<;>intro h1
 .refine Tot.ix λx1 h2=>?_;have mh2:=h2.2;apply tE<;>intro h3
  .refine tB (vf) λx2 h4=>?_;apply tE<;>intro h5
   .exact LL
   exact LN
  exact LN
 exact LL
abbrev Za5(a0:au)(a1:Int)(a2:Int)(r:au):Prop:=(cW r)/\(r.All.length=r.S.Objects.length)/\(r.Blank.length=r.S.Objects.length)/\(r.Begun.length=r.L.length)/\(r.Sets.length=r.L.length)/\(r.S.Objects.length<=2048)/\(r.L.length<=16448)/\(r.S.Objects.length=a0.S.Objects.length)/\(r.L.length=a0.L.length)/\(r.S=a0.S)/\(r.L=a0.L)/\(r=cO a0 a1 a2)
def Za6(a0:au)(a1:Int)(a2:Int):rF->Prop
 |.L0 v1 v2 E0 E1 v7 v8 v9 E2 v11=>(E0=a0)/\(v1=a1)/\(v2=a2)/\(cW E0)/\(cW E1)/\((SzL 8 (λ_=>True)) v7)/\((SzL 8 (λ_=>True)) v8)/\(cW E2)/\(0<=v11)/\(E0.All.length=E0.S.Objects.length)/\(E0.Blank.length=E0.S.Objects.length)/\(E0.Begun.length=E0.L.length)/\(E0.Sets.length=E0.L.length)/\(E0.S.Objects.length<=2048)/\(E0.L.length<=16448)/\(0<=v1)/\(v1<(E0.L.length:Int))/\(E2.S=E0.S)/\(E2.L=E0.L)/\(E2.S.Objects.length=E0.S.Objects.length)/\(E2.L.length=E0.L.length)/\(E2.All.length=E2.S.Objects.length)/\(E2.Blank.length=E2.S.Objects.length)/\(E2.Begun.length=E2.L.length)/\(E2.Sets.length=E2.L.length)/\(E2.S.Objects.length<=2048)/\(E2.L.length<=16448)/\(E2.Begun=E0.Begun.set v1.toNat true)/\(E2.Sets=E0.Sets.set v1.toNat v7)/\(v7=cQ E0 v1)/\(v8=fu E0 v1 v2)/\(v9=eI E0 v1)/\(ct E0 v1=true)/\(E2.All=E0.All.mapIdx (bZ (aG E0.S.Objects v7 (gAt E0 v1) v8 v9 v2) (λ_ t=>t) v11))/\(E2.Blank=E0.Blank.mapIdx (bZ (bG E0.S.Objects v7 (gAt E0 v1) v2) (λ_ t=>t) v11))
def LO:rF->M6
 |.L0 v1 v2 E0 E1 v7 v8 v9 E2 v11=>(1,((E0.S.Objects.length:Int)-v11).toNat,1000000,0,0,0)
def Z7b{a0:au}{a1:Int}{a2:Int}(oa0:cW a0)(h0:a0.All.length=a0.S.Objects.length)(h1:a0.Blank.length=a0.S.Objects.length)(h2:a0.Begun.length=a0.L.length)(h3:a0.Sets.length=a0.L.length)(h4:a0.S.Objects.length<=2048)(h5:a0.L.length<=16448)(h6:0<=a1)(h7:a1<(a0.L.length:Int)):Tot (LP a0 a1 a2) (Za5 a0 a1 a2):=by
 apply Tot.rn (Za6 a0 a1 a2) LO
 .dsimp only[LQ,LT.den];refine tB (vh oa0 cl cl cl cl cl cl cl cl) λx1 h1=>?_;apply tO<;>intro h2
  .exact tR ⟨oa0,cl,cl,cl,cl,cl,cl,cl,cl,Z6,Z6,tk24⟩
  refine tB (zW oa0 cl cl cl cl cl cl cl cl) λx2 h3=>?_;have eh3_1:=h3.2;refine tB (zZ oa0 cl cl cl cl cl cl cl cl) λx3 h4=>?_;have eh4_1:=h4.2;refine tB (vj oa0 cl cl cl cl cl cl cl cl) λx4 h5=>Tot.ap λx5 h6=>?_;have lh6:x5.length=([]:List ae).length+a0.All.length:=by rw[h6,bk]
  try simp only[bw,bT,aM]at lh6
  refine Tot.ap λx6 h7=>?_;have lh7:x6.length=([]:List Bool).length+a0.Begun.length:=by rw[h7,bk]
  try simp only[bw,bT,aM]at lh7
  refine Tot.ap λx7 h8=>?_;have lh8:x7.length=([]:List (List Int)).length+a0.Sets.length:=by rw[h8,bk]
  try simp only[bw,bT,aM]at lh8
  refine Tot.ap λx8 h9=>?_;have lh9:x8.length=([]:List Bool).length+a0.Blank.length:=by rw[h9,bk]
  try simp only[bw,bT,aM]at lh9
  exact Tot.ix λx9 h10=>tB (Tot.set O O) λx10 h11=>Tot.ix λx11 h12=>tB (Tot.set O O) λx12 h13=>tL ⟨rfl,rfl,rfl,oa0,⟨⟨SzL.nil,SzL.nil,SzL.nil,SzL.nil,SzL.nil,SzL.nil,SzL.nil,SzL.nil⟩,SzL.nil,SzL.nil,SzL.nil,SzL.nil,SzL.nil⟩,h3.1,h4.1,⟨oa0.1,SzL.app (k:=176) h6 lo (λ_ h=>by cases h) oa0.2.1.2,oa0.2.2.1,SzL.tr,⟨lo,λe he=>(h13.2.1 e he).elim (λw=>by rw[w];exact h3.1) ((SzL.app (k:=24) h8 lo (λ_ h=>by cases h) oa0.2.2.2.2.1.2).2 e)⟩,SzL.tr⟩,cl,cl,cl,cl,cl,cl,cl,cl,cl,Z6,Z6,cl,cl,cl,cl,cl,cl,cl,cl,Z6t,Z6t,V,V,V,aP,tk15,tk4⟩ vm
 rintro⟨v1,v2,E0,E1,v7,v8,v9,E2,v11⟩ ⟨al0,al1,al2,O0,O1,ov7,ov8,O2,cv11,i0,i1,i2,i3,i4,i5,i6,i7,i8,i9,i10,i11,i12,i13,i14,i15,i16,i17,i18,i19,i20,i21,i22,i23,i24,i25⟩;subst al0;subst al1;subst al2;dsimp only[Z0i,LR,LT.den];apply tD<;>intro h1
 .refine Tot.ix λx1 h2=>?_;have mh2:=h2.2;refine tB (La ov7) λx2 h3=>?_;apply tO<;>intro h4
  .have q1:=wr (v11+1);exact tL ⟨rfl,rfl,rfl,O0,O1,ov7,ov8,O2,cl,cl,cl,cl,cl,cl,cl,cl,cl,Z6,Z6,cl,cl,cl,cl,cl,cl,cl,cl,Z6t,Z6t,V,V,V,aP,tk15,tk4⟩ vm
  refine Tot.ix λx3 h5=>?_;have oh5:Z0 x3:=O0.2.1.2 x3 h5.1;have mh5:=h5.2;refine Tot.ix λx4 h6=>?_;have oh6:fD x4:=O0.2.2.1.2 x4 h6.1;have mh6:=h6.2;refine tB (Za1 oh5 oh6 ov8 (by first|assumption|exact Za7 V V)) λx5 h7=>?_;have eh7_1:=h7.2;refine Tot.ix λx6 h8=>tB (Tot.set O O) λx7 h9=>tB (Za4 oh6) λx8 h10=>?_;apply tF<;>intro h11
  .refine Tot.ix λx9 h12=>tB (Tot.set O O) λx10 h13=>?_;have q1:=wr (v11+1);exact tL ⟨rfl,rfl,rfl,O0,O1,ov7,ov8,⟨O2.1,⟨lo,λe he=>(h9.2.1 e he).elim (λw=>by rw[w];exact h7.1) (O2.2.1.2 e)⟩,O2.2.2.1,O2.2.2.2.1,O2.2.2.2.2.1,SzL.tr⟩,cl,cl,cl,cl,cl,cl,cl,cl,cl,Z6,Z6,cl,cl,cl,cl,cl,cl,cl,cl,Z6t,Z6t,V,V,V,aP,tk15,tk4⟩ vm
  have q1:=wr (v11+1);exact tL ⟨rfl,rfl,rfl,O0,O1,ov7,ov8,⟨O2.1,⟨lo,λe he=>(h9.2.1 e he).elim (λw=>by rw[w];exact h7.1) (O2.2.1.2 e)⟩,O2.2.2.1,O2.2.2.2.1,O2.2.2.2.2.1,O2.2.2.2.2.2⟩,cl,cl,cl,cl,cl,cl,cl,cl,cl,Z6,Z6,cl,cl,cl,cl,cl,cl,cl,cl,Z6t,Z6t,V,V,V,aP,tk15,tk4⟩ vm
 exact tR ⟨O2,cl,cl,cl,cl,cl,cl,cl,cl,Z6,Z6,tk24⟩
def Za8{a0:au}{a1:Int}{a2:Int}{a3:Int}(oa0:cW a0)(h0:a0.All.length=a0.S.Objects.length)(h1:a0.Blank.length=a0.S.Objects.length)(h2:a0.Begun.length=a0.L.length)(h3:a0.Sets.length=a0.L.length)(h4:a0.S.Objects.length<=2048)(h5:a0.L.length<=16448)(h6:0<=a1)(h7:a1<(a0.L.length:Int))(h8:0<=a2)(h9:a2<(a0.L.length:Int)):Tot (LS a0 a1 a2 a3) (λr=>(r=ndR a0 a3 a1 a2)):=by
 apply tZ;dsimp only[LU,LT.den];apply tE<;>intro h1
 .exact Ad
 refine tB (Z7b oa0 cl cl cl cl cl cl cl cl) λx1 h2=>?_;have eh2_1:=h2.2.1;have eh2_2:=h2.2.2.1;have eh2_3:=h2.2.2.2.1;have eh2_4:=h2.2.2.2.2.1;have eh2_5:=h2.2.2.2.2.2.1;have eh2_6:=h2.2.2.2.2.2.2.1;have eh2_11:=h2.2.2.2.2.2.2.2.2.2.2.2;refine tB (vh oa0 cl cl cl cl cl cl cl cl) λx2 h3=>tB (vh h2.1 cl cl cl cl cl cl cl cl) λx3 h4=>?_;apply tO<;>intro h5
 .exact Ad
 refine tB (zW oa0 cl cl cl cl cl cl cl cl) λx4 h6=>?_;have eh6_1:=h6.2;refine tB (zW h2.1 cl cl cl cl cl cl cl cl) λx5 h7=>?_;have eh7_1:=h7.2;refine tB (Z4n h6.1 h7.1) λx6 h8=>?_;apply tO<;>intro h9
 .exact Ad
 refine tB (zZ oa0 cl cl cl cl cl cl cl cl) λx7 h10=>?_;have eh10_1:=h10.2;refine tB (zZ h2.1 cl cl cl cl cl cl cl cl) λx8 h11=>?_;have eh11_1:=h11.2;exact tB (Z4n h10.1 h11.1) λx9 h12=>tR tk8
def Za9(a0:List Int)(a1:Int):rG->Prop
 |.L0 v0 v1 v5=>(v0=a0)/\(v1=a1)/\((SzL 8 (λ_=>True)) v0)/\(0<=v5)/\(∀(k:Nat) x,(k:Int)<v5->v0[k]?=some x->x≠v1)
def LV:rG->M6
 |.L0 v0 v1 v5=>(1,((v0.length:Int)-v5).toNat,1000000,0,0,0)
def Z82{a0:List Int}{a1:Int}(oa0:(SzL 8 (λ_=>True)) a0):Tot (LW a0 a1) (λr=>(r=true↔a1∈a0)):=by
 apply Tot.rn (Za9 a0 a1) LV
 .dsimp only[LX,LT.den];exact tL ⟨rfl,rfl,oa0,cl,tk57⟩ LY
 rintro⟨v0,v1,v5⟩ ⟨al0,al1,ov0,cv5,i0⟩;have lb_v0:=ov0.1;subst al0;subst al1;dsimp only[Ae,LZ,LT.den];apply tD<;>intro h1
 .refine Tot.ix λx1 h2=>?_;have mh2:=h2.2;apply tE<;>intro h3
  .exact tR L8
  have q1:=wr (v5+1);exact tL ⟨rfl,rfl,ov0,cl,tk57⟩ LY
 exact tR L8
abbrev Zba(a0:List Int)(r:List Int):Prop:=((SzL 8 (λ_=>True)) r)/\(r.length<=a0.length)/\(r=elV a0)
def Zbb(a0:List Int):rH->Prop
 |.L0 v0 v3 v4=>(v0=a0)/\((SzL 8 (λ_=>True)) v0)/\((SzL 8 (λ_=>True)) v3)/\(0<=v4)/\(v3.length<=v4.toNat)/\(v4<=(v0.length:Int))/\(v3=(v0.take v4.toNat).foldl elF [])
def Z7c:rH->M6
 |.L0 v0 v3 v4=>(1,((v0.length:Int)-v4).toNat,1000000,0,0,0)
def Zbc{a0:List Int}(oa0:(SzL 8 (λ_=>True)) a0):Tot (Z3w a0) (Zba a0):=by
 apply Tot.rn (Zbb a0) Z7c
 .have lb_a0:=oa0.1;dsimp only[L9,LT.den];exact tL ⟨rfl,oa0,SzL.nil,cl,cl,cl,tk13⟩ Af
 rintro⟨v0,v3,v4⟩ ⟨al0,ov0,ov3,cv4,i0,i1,i2⟩;have lb_v0:=ov0.1;have lb_v3:=ov3.1;subst al0;dsimp only[Ag,Z6q,LT.den];apply tD<;>intro h1
 .refine Tot.ix λx1 h2=>?_;have mh2:=h2.2;apply tD<;>intro h3
  .refine tB (Z82 ov3) λx2 h4=>?_;apply tO<;>intro h5
   .refine Tot.ap λx3 h6=>?_;have lh6:=b7 h6;have q1:=wr (v4+1);exact tL ⟨rfl,ov0,SzL.tr,cl,cl,cl,tk13⟩ Af
   exact Ma
  exact Ma
 exact tR ⟨ov3,cl,(by exact Ah V O)⟩
def Z4v{a0:List (List Bool)}{a1:Int}{a2:Int}(oa0:(SzL 24 (SzL 1 (λ_=>True))) a0)(h0:0<=a1)(h1:0<=a2):Tot (Mb a0 a1 a2) (λr=>(r=nB a0 a1 a2)):=by
 apply tZ;dsimp only[Mc,LT.den];apply tD<;>intro h1
 .refine Tot.ix λx1 h2=>?_;have oh2:(SzL 1 (λ_=>True)) x1:=oa0.2 x1 h2.1;apply tD<;>intro h3
  .exact Tot.ix λx2 h4=>tR Ai
  exact od
 exact od
abbrev Zbd(a0:List Int)(a1:List (List Bool))(a2:Int)(r:List Int):Prop:=((SzL 8 (λ_=>True)) r)/\(Rch a0 (λx y=>nB a1 x y=true) a2 r)
def Zbe(a0:List Int)(a1:List (List Bool))(a2:Int):mf->Prop
 |.L0 v0 v1 v2 v7 v8=>(v0=a0)/\(v1=a1)/\(v2=a2)/\((SzL 8 (λ_=>True)) v0)/\((SzL 24 (SzL 1 (λ_=>True))) v1)/\((SzL 8 (λ_=>True)) v7)/\(0<=v8)/\(∀x,x∈v0->0<=x)/\(v0.Nodup)/\(v0.length<=16448)/\(0<=v2)/\(RA v0 v1 v2 v7 v8)
 |.L1 v0 v1 v7 v9=>(v0=a0)/\(v1=a1)/\((SzL 8 (λ_=>True)) v0)/\((SzL 24 (SzL 1 (λ_=>True))) v1)/\((SzL 8 (λ_=>True)) v7)/\(0<=v9)/\(∀x,x∈v0->0<=x)/\(v0.Nodup)/\(v0.length<=16448)/\(RB v0 v1 a2 v7 v9)
 |.L2 v0 v1 v7 v9 v10=>(v0=a0)/\(v1=a1)/\((SzL 8 (λ_=>True)) v0)/\((SzL 24 (SzL 1 (λ_=>True))) v1)/\((SzL 8 (λ_=>True)) v7)/\(0<=v10)/\(0<=v9)/\(v9<(v7.length:Int))/\(∀x,x∈v0->0<=x)/\(v0.Nodup)/\(v0.length<=16448)/\(RC v0 v1 a2 v7 v9 v10)
def Md:mf->M6
 |.L0 v0 v1 v2 v7 v8=>(3,((v0.length:Int)-v8).toNat,1000000,0,0,0)
 |.L1 v0 v1 v7 v9=>(1,((v0.length:Int)-v9).toNat,1000000,0,0,0)
 |.L2 v0 v1 v7 v9 v10=>(1,((v0.length:Int)-v9).toNat,1,((v0.length:Int)-v10).toNat,1000000,0)
def Zbf{a0:List Int}{a1:List (List Bool)}{a2:Int}(oa0:(SzL 8 (λ_=>True)) a0)(oa1:(SzL 24 (SzL 1 (λ_=>True))) a1)(h0:0<=a2)(h1:∀x,x∈a0->0<=x)(h2:a0.Nodup)(h3:a0.length<=16448):Tot (Z8c a0 a1 a2) (Zbd a0 a1 a2):=by
 apply Tot.rn (Zbe a0 a1 a2) Md
 .dsimp only[Me,LT.den];exact tL ⟨rfl,rfl,rfl,oa0,oa1,SzL.nil,cl,V,V,cl,V,Aj⟩ oe
 intro s hs;cases s with
 |L0 v0 v1 v2 v7 v8=>
  obtain⟨al0,al1,al2,ov0,ov1,ov7,cv8,i0,i1,i2,i3,i4⟩:=hs;have lb_v7:=ov7.1;subst al0;subst al1;subst al2;dsimp only[rI,Mf,LT.den];have li:=i4.1.len;apply tD<;>intro h1
  .refine Tot.ix λx1 h2=>?_;have mh2:=h2.2;refine tB (Z4v ov1 dO dO) λx2 h3=>?_;apply tF<;>intro h4
   .refine Tot.ap λx3 h5=>?_;have lh5:=b7 h5;have q1:=wr (v8+1);exact tL ⟨rfl,rfl,rfl,ov0,ov1,SzL.tr,cl,V,V,cl,V,Aj⟩ oe
   have q1:=wr (v8+1);exact tL ⟨rfl,rfl,rfl,ov0,ov1,ov7,cl,V,V,cl,V,Aj⟩ oe
  exact Mg
 |L1 v0 v1 v7 v9=>
  obtain⟨al0,al1,ov0,ov1,ov7,cv9,i0,i1,i2,i3⟩:=hs;have lb_v7:=ov7.1;subst al0;subst al1;dsimp only[rI,Mh,LT.den];have li:=i3.1.len;apply tD<;>intro h1
  .exact Mi
  exact tR ⟨ov7,(by exact Zbg V O)⟩
 |L2 v0 v1 v7 v9 v10=>
  obtain⟨al0,al1,ov0,ov1,ov7,cv10,cv9,bd7,i0,i1,i2,i3⟩:=hs;have lb_v7:=ov7.1;subst al0;subst al1;dsimp only[rI,Mj,LT.den];have lx_0:v7.length*8<=140737488351232:=ov7.1;have li:=i3.1.1.len;apply tD<;>intro h1
  .refine Tot.ix λx1 h2=>?_;have mh2:=h2.2;have ch2:x1∈v0:=i3.1.1.2.1 _ h2.1;refine Tot.ix λx2 h3=>?_;have mh3:=h3.2;refine tB (Z4v ov1 dO dO) λx3 h4=>?_;apply tF<;>intro h5
   .refine tB (Z82 ov7) λx4 h6=>?_;apply tO<;>intro h7
    .refine Tot.ap λx5 h8=>?_;have lh8:=b7 h8;have q1:=wr (v10+1);exact tL ⟨rfl,rfl,ov0,ov1,SzL.tr,cl,cl,cl,V,V,cl,Mk⟩ oe
    exact Ml
   exact Ml
  have q1:=wr (v9+1);exact Mg
abbrev Zbh(a0:List Int)(a1:List (List Bool))(r:List Int):Prop:=((SzL 8 (λ_=>True)) r)/\(r.length<=16448)/\(r=rdV (elV a0) (nB a1))
def Zbi(a0:List Int)(a1:List (List Bool)):oh->Prop
 |.L0 v1 v5 v6 v7=>(v1=a1)/\((SzL 24 (SzL 1 (λ_=>True))) v1)/\((SzL 8 (λ_=>True)) v5)/\((SzL 8 (λ_=>True)) v6)/\(0<=v7)/\(v5=elV a0)/\(v5.Nodup)/\(POS v5)/\(v5.length<=16448)/\(v6.length<=v7.toNat)/\(v7<=(v5.length:Int))/\(v6=(v5.take v7.toNat).filter (rdB v5 (nB v1)))
 |.L1 v1 v5 v6 v7 v8 v9=>(v1=a1)/\((SzL 24 (SzL 1 (λ_=>True))) v1)/\((SzL 8 (λ_=>True)) v5)/\((SzL 8 (λ_=>True)) v6)/\(0<=v9)/\(0<=v7)/\(v7<(v5.length:Int))/\(v5=elV a0)/\(v5.Nodup)/\(POS v5)/\(v5.length<=16448)/\(v6.length<=v7.toNat)/\(v7<(v5.length:Int))/\(v6=(v5.take v7.toNat).filter (rdB v5 (nB v1)))/\(RWI v5 v1 v7 v9 v8)
def Mm:oh->M6
 |.L0 v1 v5 v6 v7=>(1,((v5.length:Int)-v7).toNat,1000000,0,0,0)
 |.L1 v1 v5 v6 v7 v8 v9=>(1,((v5.length:Int)-v7).toNat,1,((v5.length:Int)-v9).toNat,1000000,0)
def Zbj{a0:List Int}{a1:List (List Bool)}(oa0:(SzL 8 (λ_=>True)) a0)(oa1:(SzL 24 (SzL 1 (λ_=>True))) a1)(h0:a0.length<=16448):Tot (Ak a0 a1) (Zbh a0 a1):=by
 apply Tot.rn (Zbi a0 a1) Mm
 .dsimp only[Mn,LT.den];refine tB (Zbc oa0) λx1 h1=>?_;have eh1_2:=h1.2.2;exact tL ⟨rfl,oa1,h1.1,SzL.nil,cl,V,vn,jH,cl,cl,cl,tk19⟩ vo
 intro s hs;cases s with
 |L0 v1 v5 v6 v7=>
  obtain⟨al0,ov1,ov5,ov6,cv7,i0,i1,i2,i3,i4,i5,i6⟩:=hs;have lb_v6:=ov6.1;subst al0;dsimp only[vp,Mo,LT.den];apply tD<;>intro h1
  .exact Mp
  exact tR ⟨ov6,cl,(by rw[<- (by assumption:v5=elV a0)];exact Al V O)⟩
 |L1 v1 v5 v6 v7 v8 v9=>
  obtain⟨al0,ov1,ov5,ov6,cv9,cv7,bd6,i0,i1,i2,i3,i4,i5,i6,i7⟩:=hs;have lb_v6:=ov6.1;subst al0;dsimp only[vp,Mq,LT.den];have lx_0:v5.length*8<=140737488351232:=ov5.1;apply tD<;>intro h1
  .apply tN<;>intro h2
   .refine Tot.ix λx1 h3=>?_;have mh3:=h3.2;have ch3:=(by assumption:POS v5) _ h3.1;have mh3:=h3.2;refine Tot.ix λx2 h4=>?_;have mh4:=h4.2;have ch4:=(by assumption:POS v5) _ h4.1;have mh4:=h4.2;refine tB (Z4v ov1 dO dO) λx3 h5=>?_;apply tF<;>intro h6
    .refine tB (Zbf ov5 ov1 dO V V cl) λx4 h7=>?_;have eh7_1:=h7.2;refine tB (Z82 h7.1) λx5 h8=>?_;apply tO<;>intro h9
     .exact vq
     exact vq
    exact vq
   exact vq
  apply tF<;>intro h2
  .refine Tot.ix λx1 h3=>?_;have mh3:=h3.2;have ch3:=(by assumption:POS v5) _ h3.1;have mh3:=h3.2;refine Tot.ap λx2 h4=>?_;have lh4:=b7 h4;have q1:=wr (v7+1);exact tL ⟨rfl,ov1,ov5,SzL.tr,cl,V,vn,jH,cl,cl,cl,tk19⟩ vo
  have q1:=wr (v7+1);exact tL ⟨rfl,ov1,ov5,ov6,cl,V,vn,jH,cl,cl,cl,tk19⟩ vo
def Z1l{a0:List Int}{a1:Int}(oa0:(SzL 8 (λ_=>True)) a0)(h0:0<=a1):Tot (Mr a0 a1) (λr=>(r=stp a0 a1)):=by apply tZ;dsimp only[Ms,LT.den];exact Mt
def Zbk(a0:List Int)(a1:List Int)(a2:List (List Bool)):rJ->Prop
 |.L0 v1 v7 v8 v9=>(v1=a1)/\((SzL 8 (λ_=>True)) v1)/\((SzL 8 (λ_=>True)) v7)/\(0<=v9)/\(v7.length<=16448)/\(v7=rdV (elV a0) (nB a2))/\(v8=(v7.take v9.toNat).foldl (nxF v1) (-1))
def Z83:rJ->M6
 |.L0 v1 v7 v8 v9=>(1,((v7.length:Int)-v9).toNat,1000000,0,0,0)
def Zbl{a0:List Int}{a1:List Int}{a2:List (List Bool)}(oa0:(SzL 8 (λ_=>True)) a0)(oa1:(SzL 8 (λ_=>True)) a1)(oa2:(SzL 24 (SzL 1 (λ_=>True))) a2)(h0:a0.length<=16448):Tot (Mu a0 a1 a2) (λr=>(r=nxV a0 a1 (nB a2))):=by
 apply Tot.rn (Zbk a0 a1 a2) Z83
 .dsimp only[Mv,LT.den];refine tB (Zbj oa0 oa2 cl) λx1 h1=>?_;have eh1_1:=h1.2.1;have eh1_2:=h1.2.2;exact tL ⟨rfl,oa1,h1.1,cl,cl,V,tk48⟩ Mw
 rintro⟨v1,v7,v8,v9⟩ ⟨al0,ov1,ov7,cv9,i0,i1,i2⟩;subst al0;dsimp only[Am,Mx,LT.den];apply tD<;>intro h1
 .refine Tot.ix λx1 h2=>?_;have mh2:=h2.2;have ch2:=Zbm (by assumption:v7=rdV (elV a0) _) _ h2.1;have mh2:=h2.2;refine tB (Z1l ov1 cl) λx2 h3=>?_;apply tD<;>intro h4
  .exact rK
  refine tB (Z1l ov1 cl) λx3 h5=>?_;apply tD<;>intro h6
  .exact rK
  refine tB (Z1l ov1 cl) λx4 h7=>?_;apply tE<;>intro h8
  .apply tD<;>intro h9
   .exact rK
   exact rK
  exact rK
 exact tR (by exact nx_e V V O)
def Zbn(a0:au)(a1:List Int)(a2:Int):mg->Prop
 |.L0 v1 v2 E0 v7 v8 v9=>(E0=a0)/\(v1=a1)/\(v2=a2)/\((SzL 8 (λ_=>True)) v1)/\(cW E0)/\((SzL 8 (λ_=>True)) v7)/\((SzL 24 (SzL 1 (λ_=>True))) v8)/\(0<=v9)/\(E0.All.length=E0.S.Objects.length)/\(E0.Blank.length=E0.S.Objects.length)/\(E0.Begun.length=E0.L.length)/\(E0.Sets.length=E0.L.length)/\(E0.S.Objects.length<=2048)/\(E0.L.length<=16448)/\(POS v1)/\(INR E0.L.length v1)/\(v1.length<=16448)/\(v7.length<=v9.toNat)/\(v8.length=v9.toNat)/\(∀y,y∈v8->y.length=E0.L.length)/\(v9<=(E0.L.length:Int))/\(FLS v8)/\(v7=(E0.L.take v9.toNat).map λf=>f.Stamp)
 |.L1 v1 v2 E0 v7 v8 v10=>(E0=a0)/\(v1=a1)/\(v2=a2)/\((SzL 8 (λ_=>True)) v1)/\(cW E0)/\((SzL 8 (λ_=>True)) v7)/\((SzL 24 (SzL 1 (λ_=>True))) v8)/\(0<=v10)/\(E0.All.length=E0.S.Objects.length)/\(E0.Blank.length=E0.S.Objects.length)/\(E0.Begun.length=E0.L.length)/\(E0.Sets.length=E0.L.length)/\(E0.S.Objects.length<=2048)/\(E0.L.length<=16448)/\(POS v1)/\(INR E0.L.length v1)/\(v1.length<=16448)/\(v8.length=E0.L.length)/\(∀y,y∈v8->y.length=E0.L.length)/\(v7=E0.L.map λf=>f.Stamp)/\(NR2 E0 v2 v1 v10 0 v8)
 |.L2 v1 v2 E0 v7 v8 v10 v11=>(E0=a0)/\(v1=a1)/\(v2=a2)/\((SzL 8 (λ_=>True)) v1)/\(cW E0)/\((SzL 8 (λ_=>True)) v7)/\((SzL 24 (SzL 1 (λ_=>True))) v8)/\(0<=v11)/\(0<=v10)/\(v10<(v1.length:Int))/\(E0.All.length=E0.S.Objects.length)/\(E0.Blank.length=E0.S.Objects.length)/\(E0.Begun.length=E0.L.length)/\(E0.Sets.length=E0.L.length)/\(E0.S.Objects.length<=2048)/\(E0.L.length<=16448)/\(POS v1)/\(INR E0.L.length v1)/\(v1.length<=16448)/\(v8.length=E0.L.length)/\(∀y,y∈v8->y.length=E0.L.length)/\(v7=E0.L.map λf=>f.Stamp)/\(v10<(v1.length:Int))/\(NR2 E0 v2 v1 v10 v11 v8)
def My:mg->M6
 |.L0 v1 v2 E0 v7 v8 v9=>(3,((E0.L.length:Int)-v9).toNat,1000000,0,0,0)
 |.L1 v1 v2 E0 v7 v8 v10=>(1,((v1.length:Int)-v10).toNat,1000000,0,0,0)
 |.L2 v1 v2 E0 v7 v8 v10 v11=>(1,((v1.length:Int)-v10).toNat,1,((v1.length:Int)-v11).toNat,1000000,0)
def Zbo{a0:au}{a1:List Int}{a2:Int}(oa0:cW a0)(oa1:(SzL 8 (λ_=>True)) a1)(h0:a0.All.length=a0.S.Objects.length)(h1:a0.Blank.length=a0.S.Objects.length)(h2:a0.Begun.length=a0.L.length)(h3:a0.Sets.length=a0.L.length)(h4:a0.S.Objects.length<=2048)(h5:a0.L.length<=16448)(h6:INR a0.L.length a1)(h7:a1.length<=16448):Tot (Mz a0 a1 a2) (λr=>(r=nxV a1 (a0.L.map λf=>f.Stamp) (ndR a0 a2))):=by
 apply Tot.rn (Zbn a0 a1 a2) My
 .dsimp only[MA,LT.den];exact tL ⟨rfl,rfl,rfl,oa1,oa0,SzL.nil,SzL.nil,cl,cl,cl,cl,cl,cl,cl,jc,V,cl,cl,cl,tk58,cl,MB,tk78⟩ rL
 intro s hs;cases s with
 |L0 v1 v2 E0 v7 v8 v9=>
  obtain⟨al0,al1,al2,ov1,O0,ov7,ov8,cv9,i0,i1,i2,i3,i4,i5,i6,i7,i8,i9,i10,i11,i12,i13,i14⟩:=hs;have lb_v7:=ov7.1;have lb_v8:=ov8.1;subst al0;subst al1;subst al2;dsimp only[rM,MC,LT.den];apply tD<;>intro h1
  .refine Tot.ix λx1 h2=>?_;have mh2:=h2.2;refine Tot.ap λx2 h3=>?_;have lh3:=b7 h3;refine tB (Tot.mk) λx3 h4=>Tot.ap λx4 h5=>?_;have lh5:=b7 h5;have q1:=wr (v9+1);exact tL ⟨rfl,rfl,rfl,ov1,O0,SzL.tr,SzL.app (k:=24) h5 lo ov8.2 (me1 SzL.tr),cl,cl,cl,cl,cl,cl,cl,jc,V,cl,cl,cl,tk58,cl,MB,tk78⟩ rL
  exact MD
 |L1 v1 v2 E0 v7 v8 v10=>
  obtain⟨al0,al1,al2,ov1,O0,ov7,ov8,cv10,i0,i1,i2,i3,i4,i5,i6,i7,i8,i9,i10,i11,i12⟩:=hs;have lb_v7:=ov7.1;have lb_v8:=ov8.1;subst al0;subst al1;subst al2;dsimp only[rM,ME,LT.den];apply tD<;>intro h1
  .exact tL ⟨rfl,rfl,rfl,ov1,O0,ov7,ov8,cl,cl,cl,cl,cl,cl,cl,cl,cl,jc,V,cl,cl,tk58,An,cl,tk47⟩ rL
  exact tB (Zbl ov1 ov7 ov8 cl) λx1 h2=>tR (by exact Zbp V O V V)
 |L2 v1 v2 E0 v7 v8 v10 v11=>
  obtain⟨al0,al1,al2,ov1,O0,ov7,ov8,cv11,cv10,bd9,i0,i1,i2,i3,i4,i5,i6,i7,i8,i9,i10,i11,i12,i13⟩:=hs;have lb_v7:=ov7.1;have lb_v8:=ov8.1;subst al0;subst al1;subst al2;dsimp only[rM,MF,LT.den];have lx_0:v1.length*8<=140737488351232:=ov1.1;apply tD<;>intro h1
  .refine Tot.ix λx1 h2=>?_;have mh2:=h2.2;have zh2:=om (by assumption:INR _ v1) mh2;have mh2:=h2.2;refine Tot.ix λx2 h3=>?_;have oh3:(SzL 1 (λ_=>True)) x2:=ov8.2 x2 h3.1;have mh3:=h3.2;have nh3:=(by assumption:∀y,y∈v8->_) _ h3.1;have mh3:=h3.2;refine Tot.ix λx3 h4=>?_;have mh4:=h4.2;have zh4:=om (by assumption:INR _ v1) mh4;have mh4:=h4.2;refine tB (Za8 O0 cl cl cl cl cl cl cl cl cl cl) λx4 h5=>Tot.ix λx5 h6=>?_;have mh6:=h6.2;refine tB (Tot.setM) λx6 h7=>?_;have lh7:x6.length=v8.length:=by rw[h7,ew]
   have q1:=wr (v11+1);exact tL ⟨rfl,rfl,rfl,ov1,O0,ov7,SzL.setM h7 ov8 oh3,cl,cl,cl,cl,cl,cl,cl,cl,cl,jc,V,cl,cl,tk58,An,cl,tk47⟩ rL
  have q1:=wr (v10+1);exact MD
abbrev Zbq(a0:List Int)(a1:Int)(r:List Int):Prop:=((SzL 8 (λ_=>True)) r)/\(r=a0.filter λy=>y != a1)
def Zbr(a0:List Int)(a1:Int):rN->Prop
 |.L0 v0 v1 v5 v6=>(v0=a0)/\(v1=a1)/\((SzL 8 (λ_=>True)) v0)/\((SzL 8 (λ_=>True)) v5)/\(0<=v6)/\(v5.length<=v6.toNat)/\(v6.toNat<=v0.length)/\(v5=(v0.take v6.toNat).filter λy=>y != v1)
def MG:rN->M6
 |.L0 v0 v1 v5 v6=>(1,((v0.length:Int)-v6).toNat,1000000,0,0,0)
def Zbs{a0:List Int}{a1:Int}(oa0:(SzL 8 (λ_=>True)) a0):Tot (MH a0 a1) (Zbq a0 a1):=by
 apply Tot.rn (Zbr a0 a1) MG
 .have lb_a0:=oa0.1;dsimp only[MI,LT.den];exact tL ⟨rfl,rfl,oa0,SzL.nil,cl,cl,cl,tk39⟩ Ao
 rintro⟨v0,v1,v5,v6⟩ ⟨al0,al1,ov0,ov5,cv6,i0,i1,i2⟩;have lb_v0:=ov0.1;have lb_v5:=ov5.1;subst al0;subst al1;dsimp only[Z0j,MJ,LT.den];apply tD<;>intro h1
 .refine Tot.ix λx1 h2=>?_;have mh2:=h2.2;apply tN<;>intro h3
  .refine Tot.ap λx2 h4=>?_;have lh4:=b7 h4;have q1:=wr (v6+1);exact tL ⟨rfl,rfl,ov0,SzL.tr,cl,cl,cl,tk39⟩ Ao
  have q1:=wr (v6+1);exact tL ⟨rfl,rfl,ov0,ov5,cl,cl,cl,tk39⟩ Ao
 exact tR ⟨ov5,(by exact Al V O)⟩
abbrev Zbt(a0:au)(a1:Int)(r:au×(List Int)):Prop:=(cW r.1)/\((SzL 8 (λ_=>True)) r.2)/\(r.1.All.length=r.1.S.Objects.length)/\(r.1.Blank.length=r.1.S.Objects.length)/\(r.1.Begun.length=r.1.L.length)/\(r.1.Sets.length=r.1.L.length)/\(r.1.S.Objects.length<=2048)/\(r.1.L.length<=16448)/\(r.1.S.Objects.length=a0.S.Objects.length)/\(r.1.L.length=a0.L.length)/\(r=Z0s a0 a1)
def Zbu(a0:au)(a1:Int):oo->Prop
 |.L0 v1 E0 E1 v6 v7=>(v1=a1)/\(cW E0)/\(cW E1)/\((SzL 8 (λ_=>True)) v6)/\(0<=v7)/\(E0.All.length=E0.S.Objects.length)/\(E0.Blank.length=E0.S.Objects.length)/\(E0.Begun.length=E0.L.length)/\(E0.Sets.length=E0.L.length)/\(E0.S.Objects.length<=2048)/\(E0.L.length<=16448)/\(E0.S.Objects.length=a0.S.Objects.length)/\(E0.L.length=a0.L.length)/\(E0.L=a0.L)/\(E0=(if v1=7 then Z0r a0 else a0))/\(v6=zfm (λ_ f=>belR f v1) (λk _=>k) E0.L v7)/\(v6.length<=v7.toNat)/\(v7<=(E0.L.length:Int))
 |.L1 v1 E0 E1 v6 v8 v9 v10=>(v1=a1)/\(cW E0)/\(cW E1)/\((SzL 8 (λ_=>True)) v6)/\((SzL 8 (λ_=>True)) v8)/\(0<=v10)/\(E0.All.length=E0.S.Objects.length)/\(E0.Blank.length=E0.S.Objects.length)/\(E0.Begun.length=E0.L.length)/\(E0.Sets.length=E0.L.length)/\(E0.S.Objects.length<=2048)/\(E0.L.length<=16448)/\(E0.S.Objects.length=a0.S.Objects.length)/\(E0.L.length=a0.L.length)/\(E0.L=a0.L)/\(v6.Nodup)/\(INR E0.L.length v6)/\((v6.length:Int)=v9-v10)/\(v10<=v9)/\(v9<=16448)/\(v8.length=v10.toNat)/\(v9=((belS a0.L v1).length:Int))/\(STR a0 v1 E0 v6 v8)
def MM:oo->M6
 |.L0 v1 E0 E1 v6 v7=>(3,((E0.L.length:Int)-v7).toNat,1000000,0,0,0)
 |.L1 v1 E0 E1 v6 v8 v9 v10=>(1,(v9-v10).toNat,1000000,0,0,0)
def Zbv{a0:au}{a1:Int}(oa0:cW a0)(h0:a0.All.length=a0.S.Objects.length)(h1:a0.Blank.length=a0.S.Objects.length)(h2:a0.Begun.length=a0.L.length)(h3:a0.Sets.length=a0.L.length)(h4:a0.S.Objects.length<=2048)(h5:a0.L.length<=16448):Tot (MN a0 a1) (Zbt a0 a1):=by
 apply Tot.rn (Zbu a0 a1) MM
 .dsimp only[MO,LT.den];apply tE<;>intro h1
  .refine tB (ZaM oa0 cl cl cl cl cl cl) λx1 h2=>?_;have eh2_1:=h2.2;have kh2:=Zbw (by assumption:x1=Z0r a0);have lh31:=kh2.1;have lh32:=kh2.2.1;have lh33:=kh2.2.2.1;have lh34:=kh2.2.2.2.1;have lh35:=kh2.2.2.2.2.1;have lh36:=kh2.2.2.2.2.2;exact tL ⟨rfl,h2.1,⟨⟨SzL.nil,SzL.nil,SzL.nil,SzL.nil,SzL.nil,SzL.nil,SzL.nil,SzL.nil⟩,SzL.nil,SzL.nil,SzL.nil,SzL.nil,SzL.nil⟩,SzL.nil,cl,cl,cl,cl,cl,cl,cl,cl,cl,vr,tk92,tk38,cs⟩ oq
  exact tL ⟨rfl,oa0,⟨⟨SzL.nil,SzL.nil,SzL.nil,SzL.nil,SzL.nil,SzL.nil,SzL.nil,SzL.nil⟩,SzL.nil,SzL.nil,SzL.nil,SzL.nil,SzL.nil⟩,SzL.nil,cl,cl,cl,cl,cl,cl,cl,cl,cl,vr,tk92,tk38,cs⟩ oq
 intro s hs;cases s with
 |L0 v1 E0 E1 v6 v7=>
  obtain⟨al0,O0,O1,ov6,cv7,i0,i1,i2,i3,i4,i5,i6,i7,i8,i9,i10,i11,i12⟩:=hs;have lb_v6:=ov6.1;subst al0;dsimp only[vt,MP,LT.den];apply tD<;>intro h1
  .refine Tot.ix λx1 h2=>?_;have oh2:fD x1:=O0.2.2.1.2 x1 h2.1;have mh2:=h2.2;refine tB (ZaO oh2) λx2 h3=>?_;apply tF<;>intro h4
   .refine Tot.ap λx3 h5=>?_;have lh5:=b7 h5;have q1:=wr (v7+1);exact tL ⟨rfl,O0,O1,SzL.tr,cl,cl,cl,cl,cl,cl,cl,cl,cl,vr,tk92,tk38,cs⟩ oq
   have q1:=wr (v7+1);exact tL ⟨rfl,O0,O1,ov6,cl,cl,cl,cl,cl,cl,cl,cl,cl,vr,tk92,tk38,cs⟩ oq
  exact tL ⟨rfl,O0,O1,ov6,SzL.nil,cl,cl,cl,cl,cl,cl,cl,cl,cl,MQ,tk93,tk74,cl,cl,cl,cl,MR,tk41⟩ oq
 |L1 v1 E0 E1 v6 v8 v9 v10=>
  obtain⟨al0,O0,O1,ov6,ov8,cv10,i0,i1,i2,i3,i4,i5,i6,i7,i8,i9,i10,i11,i12,i13,i14,i15,i16⟩:=hs;have lb_v6:=ov6.1;have lb_v8:=ov8.1;subst al0;dsimp only[vt,MS,LT.den];apply tD<;>intro h1
  .refine tB (Zbo O0 ov6 cl cl cl cl cl cl JW cl) λx1 h2=>?_;have dh2:=MT (by assumption:x1=nxV v6 _ _) (Ap V) O;have gh2:=(by assumption:INR _ v6) _ dh2;refine Tot.ap λx2 h3=>?_;have lh3:=b7 h3;refine tB (Z7b O0 cl cl cl cl cl cl cl cl) λx3 h4=>?_;have eh4_1:=h4.2.1;have eh4_2:=h4.2.2.1;have eh4_3:=h4.2.2.2.1;have eh4_4:=h4.2.2.2.2.1;have eh4_5:=h4.2.2.2.2.2.1;have eh4_6:=h4.2.2.2.2.2.2.1;have eh4_8:=h4.2.2.2.2.2.2.2.2.1;have eh4_10:=h4.2.2.2.2.2.2.2.2.2.2.1;have eh4_11:=h4.2.2.2.2.2.2.2.2.2.2.2;refine tB (Zbs ov6) λx4 h5=>?_;have eh5_1:=h5.2;have wh5:x4.length+1=v6.length:=by rw[(by assumption:x4=List.filter _ v6)];exact MU V V
   have q1:=wr (v10+1);exact tL ⟨rfl,h4.1,O1,h5.1,SzL.tr,cl,cl,cl,cl,cl,cl,cl,cl,cl,MQ,tk93,tk74,cl,cl,cl,cl,MR,tk41⟩ oq
  exact tR ⟨O0,ov8,cl,cl,cl,cl,cl,cl,cl,cl,(by exact sr_e V O)⟩
def Zbx(a0:List an)(a1:ao)(a2:Int):rO->Prop
 |.L0 v2 E0 v8=>(v2=a2)/\(cj E0)/\(0<=v8)/\(E0.traits.length=E0.s.Objects.length)/\(E0.dropped.length=E0.s.Objects.length)/\(E0.done.length=E0.forces.length)/\(E0.hits.length=E0.forces.length)/\(E0.s.Objects.length<=2048)/\(E0.forces.length<=16448)/\(HI E0.s.Objects.length E0.hits)/\(bU E0.s.Objects)/\(E0.s=a1)/\(E0=wrlV a0 a1 (v8-1).toNat)/\(1<=v8)/\(1<=v2)/\(v2<=8)/\(v8<=v2)
def MV:rO->M6
 |.L0 v2 E0 v8=>(1,(v2-v8).toNat,1000000,0,0,0)
def Zby{a0:List an}{a1:ao}{a2:Int}(oa0:(SzL 176 bR) a0)(oa1:Z8 a1)(h0:a1.Objects.length<=2048)(h1:a1.Conts.length<=64)(h2:∀c,c∈a0->c.Abilities.length<=8)(h3:bU a1.Objects):Tot (Z8d a0 a1 a2) (λr=>((SzL 8 (λ_=>True)) r)/\(r=ordV a0 a1 a2)):=by
 apply Tot.rn (Zbx a0 a1 a2) MV
 .dsimp only[MW,LT.den];refine tB (Zbz oa0 oa1 cl cl bO) λx1 h1=>?_;have eh1_1:=h1.2.1;have eh1_2:=h1.2.2.1;have eh1_3:=h1.2.2.2.1;have eh1_4:=h1.2.2.2.2.1;have eh1_5:=h1.2.2.2.2.2.1;have eh1_6:=h1.2.2.2.2.2.2.1;have eh1_7:=h1.2.2.2.2.2.2.2.1;have eh1_8:=h1.2.2.2.2.2.2.2.2.1;have eh1_9:=h1.2.2.2.2.2.2.2.2.2;apply tD<;>intro h2
  .exact MX
  apply tD<;>intro h3
  .exact MX
  exact tL ⟨rfl,h1.1,cl,cl,cl,cl,cl,cl,cl,bu,cJ,bO,MY,cs⟩ MZ
 rintro⟨v2,E0,v8⟩ ⟨al0,O0,cv8,i0,i1,i2,i3,i4,i5,i6,i7,i8,i9,i10,i11,i12,i13⟩;subst al0;dsimp only[Z0k,M0,LT.den];apply tD<;>intro h1
 .refine tB (JQ O0 cl cl cl cl cl cl bu cJ) λx1 h2=>?_;have eh2_2:=h2.2.2.1;have eh2_3:=h2.2.2.2.1;have eh2_4:=h2.2.2.2.2.1;have eh2_5:=h2.2.2.2.2.2.1;have eh2_6:=h2.2.2.2.2.2.2.1;have eh2_7:=h2.2.2.2.2.2.2.2.1;have eh2_8:=h2.2.2.2.2.2.2.2.2.1;have eh2_9:=h2.2.2.2.2.2.2.2.2.2.1;have eh2_11:=h2.2.2.2.2.2.2.2.2.2.2.2;have q1:=wr (v8+1);exact tL ⟨rfl,h2.2.1,cl,cl,cl,cl,cl,cl,cl,bu,cJ,bO,MY,cs⟩ MZ
 refine tB (JQ O0 cl cl cl cl cl cl bu cJ) λx1 h2=>?_;have eh2_11:=h2.2.2.2.2.2.2.2.2.2.2.2;exact tR ⟨h2.1,tk70⟩
def ZbA(a0:List an)(a1:ao)(a2:Int):rP->Prop
 |.L0 v2 E0 v8 v9=>(v2=a2)/\(cW E0)/\((SzL 8 (λ_=>True)) v8)/\(0<=v9)/\(E0.All.length=E0.S.Objects.length)/\(E0.Blank.length=E0.S.Objects.length)/\(E0.Begun.length=E0.L.length)/\(E0.Sets.length=E0.L.length)/\(E0.S.Objects.length<=2048)/\(E0.L.length<=16448)/\(E0.S.Objects.length=a1.Objects.length)/\(E0=wrlR a0 a1 (v9-1).toNat)/\(1<=v9)/\(v9<=v2+1)/\(1<=v2)/\(v2<=8)/\(ORD a0 a1 v9 v8)
def Z4w:rP->M6
 |.L0 v2 E0 v8 v9=>(1,(v2+1-v9).toNat,1000000,0,0,0)
def ZbB{a0:List an}{a1:ao}{a2:Int}(oa0:(SzL 176 bR) a0)(oa1:Z8 a1)(h0:a1.Objects.length<=2048)(h1:a1.Conts.length<=64)(h2:∀c,c∈a0->c.Abilities.length<=8):Tot (Aq a0 a1 a2) (λr=>((SzL 8 (λ_=>True)) r)/\(r=ordR a0 a1 a2)):=by
 apply Tot.rn (ZbA a0 a1 a2) Z4w
 .dsimp only[M1,LT.den];apply tD<;>intro h1
  .exact M3
  apply tD<;>intro h2
  .exact M3
  refine tB (ZaI oa0 oa1 cl cl bO) λx1 h3=>?_;have eh3_1:=h3.2.1;have eh3_2:=h3.2.2.1;have eh3_3:=h3.2.2.2.1;have eh3_4:=h3.2.2.2.2.1;have eh3_5:=h3.2.2.2.2.2.1;have eh3_6:=h3.2.2.2.2.2.2.1;have eh3_7:=h3.2.2.2.2.2.2.2.1;have eh3_8:=h3.2.2.2.2.2.2.2.2;exact tL ⟨rfl,h3.1,SzL.nil,cl,cl,cl,cl,cl,cl,cl,cl,M4,cl,cl,cl,cl,tk98⟩ M5
 rintro⟨v2,E0,v8,v9⟩ ⟨al0,O0,ov8,cv9,i0,i1,i2,i3,i4,i5,i6,i7,i8,i9,i10,i11,i12⟩;subst al0;dsimp only[Z8e,M7,LT.den];apply tD<;>intro h1
 .refine tB (Zbv O0 cl cl cl cl cl cl) λx1 h2=>?_;have eh2_2:=h2.2.2.1;have eh2_3:=h2.2.2.2.1;have eh2_4:=h2.2.2.2.2.1;have eh2_5:=h2.2.2.2.2.2.1;have eh2_6:=h2.2.2.2.2.2.2.1;have eh2_7:=h2.2.2.2.2.2.2.2.1;have eh2_10:=h2.2.2.2.2.2.2.2.2.2.2;have q1:=wr (v9+1);exact tL ⟨rfl,h2.1,h2.2.1,cl,cl,cl,cl,cl,cl,cl,cl,M4,cl,cl,cl,cl,tk98⟩ M5
 exact tR ⟨ov8,tk81⟩
def ZbC{a0:List an}{a1:ao}{a2:Int}(oa0:(SzL 176 bR) a0)(oa1:Z8 a1):Tot (M8 a0 a1 a2) (λr=>(r=true)):=by
 apply tZ;dsimp only[Z3y,LT.den];refine tB (ZbD oa0 oa1) λx1 h1=>?_;have eh1_0:=h1.1;have eh1_1:=h1.2.1;have eh1_2:=h1.2.2;apply tO<;>intro h2
 .exact tB (JZ) λx2 h3=>tR tk53
 have h2_0:=eh1_0 h2;have h2_1:=eh1_1 h2;refine tB (JZ) λx2 h3=>?_;apply tF<;>intro h4
 .refine tB (Zby oa0 oa1 cl cl bO V) λx3 h5=>?_;have eh5_1:=h5.2;refine tB (ZbB oa0 oa1 cl cl bO) λx4 h6=>?_;have eh6_1:=h6.2;exact tB (Z4n h5.1 h6.1) λx5 h7=>tR tk53
 exact tR tk53
end Go.PW
