import Derived.Test.YtchddhcajpagjaaGreatQX
set_option linter.all false
set_option maxRecDepth 100000
namespace Go.PW
def ZzE(a0:List aq)(a1:av):lY->Prop
 |.L0 v0 E0 v5 v13 v14 v15=>(v0=a0)/\(E0=a1)/\((SzL 176 bQ) v0)/\(Z8 E0)/\((SzL 224 gq) v5)/\((SzL 128 (λ_=>True)) v13)/\(0<=v15)/\(E0.Objects.length<=2048)/\(E0.Conts.length<=64)/\(∀c,c∈v0->c.Abilities.length<=8)/\(v5=obF fL v0 v13 v15)/\(v13=E0.Objects)/\(v14=(v13.length:Int))/\(v15<=v14)
 |.L1 v0 E0 v5 E1 v13 v14 v15 v25 v26 v27=>(v0=a0)/\(E0=a1)/\((SzL 176 bQ) v0)/\(Z8 E0)/\((SzL 224 gq) v5)/\((SzL 128 (λ_=>True)) v13)/\((SzL 640 Z1) v25)/\(0<=v27)/\(0<=v15)/\(v15<v14)/\(E0.Objects.length<=2048)/\(E0.Conts.length<=64)/\(∀c,c∈v0->c.Abilities.length<=8)/\(v5=obF fL v0 v13 v15++abF (fL E1) v25 v27)/\(E1.Zone=0)/\(v13[v15.toNat]?=some E1)/\(v25=(baV v0 E1).Abilities)/\(v13=E0.Objects)/\(v14=(v13.length:Int))/\(v15<v14)/\(v26=(v25.length:Int))/\(v27<=v26)
 |.L2 v5 v54 v55 v56=>((SzL 224 gq) v5)/\((SzL 80 n8) v54)/\(0<=v56)/\(∀c,c∈a0->c.Abilities.length<=8)/\(a1.Objects.length<=2048)/\(a1.Conts.length<=64)/\(v5=obF fL a0 a1.Objects a1.Objects.length++coF gL v54 v56)/\(v54=a1.Conts)/\(v55=(v54.length:Int))/\(v56<=v55)
def Z7e:lY->M6
 |.L0 v0 E0 v5 v13 v14 v15=>(3,(v14-v15).toNat,1000000,0,0,0)
 |.L1 v0 E0 v5 E1 v13 v14 v15 v25 v26 v27=>(3,(v14-v15).toNat,1,(v26-v27).toNat,1000000,0)
 |.L2 v5 v54 v55 v56=>(1,(v55-v56).toNat,1000000,0,0,0)
def ZzF{a0:List aq}{a1:av}(oa0:(SzL 176 bQ) a0)(oa1:Z8 a1)(h0:a1.Objects.length<=2048)(h1:a1.Conts.length<=64)(h2:∀c,c∈a0->c.Abilities.length<=8):Tot (Z3n a0 a1) (λr=>((SzL 224 gq) r)/\(r=FS fL gL a0 a1)):=by
 apply Tot.rn (ZzE a0 a1) Z7e
 .dsimp only[Z99,LT.den];exact tL ⟨rfl,rfl,oa0,oa1,SzL.nil,oa1.2.1,cl,cl,cl,bR,tk35,aF,cs⟩ mK
 intro s hs;cases s with
 |L0 v0 E0 v5 v13 v14 v15=>
  obtain⟨al0,al1,ov0,O0,ov5,ov13,cv15,i0,i1,i2,i3,i4,i5,i6⟩:=hs;have lb_v5:=ov5.1;have lb_v13:=ov13.1;subst al0;subst al1;dsimp only[qM,Z6a,LT.den];have lq:v5.length<=8*2048:=by rw[(by assumption:v5=obF _ _ _ _)];have:=mb (f:=fL) (l:=v13) (v:=v15) (by assumption:∀c,c∈v0->_);have:v13.length<=2048:=TD;omega
  apply tD<;>intro h1
  .refine Tot.ix λx1 h2=>?_;have mh2:=h2.2;apply tN<;>intro h3
   .exact SW
   refine tB (Uy ov0) λx2 h4=>?_;have q1:=h4.1.2.2.1;exact tL ⟨rfl,rfl,ov0,O0,ov5,ov13,h4.1.2.2,cl,cl,cl,cl,cl,bR,tk14,cl,V,bR,V,cs⟩ mK
  have q1:=O0.2.2.2.2.2.2.1.1;exact tL ⟨ov5,O0.2.2.2.2.2.2.1,cl,bR,cl,cl,tk28,C5,cs⟩ mK
 |L1 v0 E0 v5 E1 v13 v14 v15 v25 v26 v27=>
  obtain⟨al0,al1,ov0,O0,ov5,ov13,ov25,cv27,cv15,bd9,i0,i1,i2,i3,i4,i5,i6,i7,i8,i9,i10,i11⟩:=hs;have lb_v5:=ov5.1;have lb_v13:=ov13.1;have lb_v25:=ov25.1;subst al0;subst al1;dsimp only[qM,Z6b,LT.den];have lq:v5.length<=8*2048+8:=by rw[(by assumption:v5=obF _ _ _ _++_),bm];have:=mb (f:=fL) (l:=v13) (v:=v15) (by assumption:∀c,c∈v0->_);have:v13.length<=2048:=TD;have:=Ac (f:=fL E1) (l:=v25) (v:=v27);have:=Ad (by assumption:∀c,c∈v0->_) E1;rw[<- (by assumption:v25=(baV v0 E1).Abilities)]at this;omega
  apply tD<;>intro h1
  .refine Tot.ix λx1 h2=>?_;have oh2:Z1 x1:=ov25.2 x1 h2.1;have mh2:=h2.2;apply tE<;>intro h3
   .refine tB (oZ oh2.2.1) λx2 h4=>?_;have eh4_1:=h4.2;have q1:=ov5.1;refine Tot.ap λx3 h5=>?_;have lh5:=ca h5;have q2:=wr (v27+1);exact tL ⟨rfl,rfl,ov0,O0,SzL.app (k:=224) h5 lo ov5.2 (me1 ⟨SzL.nil,oh2.1,h4.1⟩),ov13,ov25,cl,cl,cl,cl,cl,bR,tk14,cl,V,bR,V,cs⟩ mK
   have q1:=wr (v27+1);exact tL ⟨rfl,rfl,ov0,O0,ov5,ov13,ov25,cl,cl,cl,cl,cl,bR,tk14,cl,V,bR,V,cs⟩ mK
  exact SW
 |L2 v5 v54 v55 v56=>
  obtain⟨ov5,ov54,cv56,i0,i1,i2,i3,i4,i5,i6⟩:=hs;have lb_v5:=ov5.1;have lb_v54:=ov54.1;dsimp only[qM,Z6c,LT.den];have lq:v5.length<=8*2048+64:=by rw[(by assumption:v5=obF _ _ _ _++_),bm];have:=mb (f:=fL) (l:=a1.Objects) (v:=a1.Objects.length) (by assumption:∀c,c∈a0->_);have:(coF gL v54 v56).length<=64:=(by unfold coF;rw[cN,eU];have:v54.length<=64:=(by first|omega|(rw[(by assumption:v54=_)];omega));omega);omega
  apply tD<;>intro h1
  .refine Tot.ix λx1 h2=>?_;have oh2:n8 x1:=ov54.2 x1 h2.1;have mh2:=h2.2;refine tB (ZxF oh2.1) λx2 h3=>?_;have eh3_1:=h3.2;refine tB (oZ oh2.2) λx3 h4=>?_;have eh4_1:=h4.2;have q1:=ov5.1;refine Tot.ap λx4 h5=>?_;have lh5:=ca h5;have q2:=wr (v56+1);exact tL ⟨SzL.app (k:=224) h5 lo ov5.2 (me1 ⟨h3.1,SzS.nil,h4.1⟩),ov54,cl,bR,cl,cl,tk28,C5,cs⟩ mK
  exact Li
abbrev ZzG(a0:List aq)(a1:av)(r:ak):Prop:=(ct r)/\(r.s=a1)/\(r.traits.length=r.s.Objects.length)/\(r.dropped.length=r.s.Objects.length)/\(r.done.length=r.forces.length)/\(r.hits.length=r.forces.length)/\(r.s.Objects.length<=2048)/\(r.forces.length<=16448)/\(HI r.s.Objects.length r.hits)/\(r=begV a0 a1)
def ZzH(a0:List aq)(a1:av):tf->Prop
 |.L0 v0 E0 v19 v20 v21=>(v0=a0)/\((SzL 176 bQ) v0)/\(ct E0)/\((SzL 128 (λ_=>True)) v19)/\(0<=v21)/\(∀c,c∈v0->c.Abilities.length<=8)/\(E0.s=a1)/\(v20=(v19.length:Int))/\(v20=(E0.s.Objects.length:Int))/\(v20<=2048)/\(E0.forces.length<=16448)/\(E0.dropped.length=v20.toNat)/\(E0.traits.length=v21.toNat)/\(v21<=v20)/\(v19=a1.Objects)/\(E0.traits=(v19.take v21.toNat).map (baV v0))/\(E0.forces=FS fL gL v0 a1)/\(E0.dropped=List.replicate a1.Objects.length false)
def Vb:tf->M6
 |.L0 v0 E0 v19 v20 v21=>(1,(v20-v21).toNat,1000000,0,0,0)
def ZfW{a0:List aq}{a1:av}(oa0:(SzL 176 bQ) a0)(oa1:Z8 a1)(h0:a1.Objects.length<=2048)(h1:a1.Conts.length<=64)(h2:∀c,c∈a0->c.Abilities.length<=8):Tot (VA a0 a1) (ZzG a0 a1):=by
 apply Tot.rn (ZzH a0 a1) Vb
 .dsimp only[VB,LT.den];refine tB (ZzF oa0 oa1 cl cl bR) λx1 h1=>?_;have eh1_1:=h1.2;have lh1:=Lq (f:=fL) (g:=gL) (s:=a1) (by assumption:∀c,c∈a0->_);rw[<- (by assumption:x1=FS _ _ _ _)]at lh1;exact tB (Tot.mk) λx2 h2=>tL ⟨rfl,oa0,⟨oa1,h1.1,SzL.nil,SzL.tr,SzL.nil,SzL.nil⟩,oa1.2.1,cl,bR,aF,cl,cl,cl,cl,cl,cl,cl,aF,tk68,V,U8⟩ Va
 rintro⟨v0,E0,v19,v20,v21⟩ ⟨al0,ov0,O0,ov19,cv21,i0,i1,i2,i3,i4,i5,i6,i7,i8,i9,i10,i11,i12⟩;subst al0;dsimp only[Z0j,VC,LT.den];apply tD<;>intro h1
 .refine Tot.ix λx1 h2=>?_;have mh2:=h2.2;refine tB (Uy ov0) λx2 h3=>?_;have eh3_1:=h3.2;have q1:=O0.2.2.1.1;refine Tot.ap λx3 h4=>?_;have lh4:=ca h4;have q2:=wr (v21+1);exact tL ⟨rfl,ov0,⟨O0.1,O0.2.1,SzL.app (k:=176) h4 lo O0.2.2.1.2 (me1 h3.1),O0.2.2.2.1,O0.2.2.2.2.1,O0.2.2.2.2.2⟩,ov19,cl,bR,aF,cl,cl,cl,cl,cl,cl,cl,aF,tk68,V,U8⟩ Va
 exact tB (Tot.mk) λx1 h2=>tB (Tot.mk) λx2 h3=>tR ⟨⟨O0.1,O0.2.1,O0.2.2.1,O0.2.2.2.1,SzL.tr,⟨lo,λe he=>by rw[h3.2 e he];exact SzL.nil⟩⟩,aF,cl,cl,cl,cl,cl,cl,bB,(by exact bg_e V O V V V V V V)⟩
def lu{a0:Int}:Tot (Z6e a0) (λr=>(r=clV a0)):=by apply tZ;dsimp only[Z79,LT.den];exact tR (by rfl)
def ZzI{a0:Int}{a1:Int}:Tot (VD a0 a1) (λr=>(r=suV a0 a1)):=by apply tZ;dsimp only[VE,LT.den];refine tB (lu) λx1 h1=>tB (lu) λx2 h2=>?_;have q1:=wr (x1-x2);exact tB (lu) λx3 h3=>tR (by unfold suV;grind)
def ZzJ{a0:A3 Int}:Tot (VF a0) (λr=>(r=pwV a0)):=by apply tZ;dsimp only[Z6f,LT.den];refine tB (tI O vj) λx1 h1=>?_;have mh1:=h1.2;refine tB (tI O vj) λx2 h2=>?_;have mh2:=h2.2;exact tB (ZzI) λx3 h3=>tR Lx
def xO{a0:Int}{a1:Int}:Tot (wN a0 a1) (λr=>(r=adV a0 a1)):=by apply tZ;dsimp only[Ce,LT.den];refine tB (lu) λx1 h1=>tB (lu) λx2 h2=>?_;have q1:=wr (x1+x2);exact tB (lu) λx3 h3=>tR (by unfold adV;grind)
def mX(a0:Int):mY->Prop
 |.L0 v0 v3 v6=>(v3=a0)/\(v3=v0)/\(v6=true↔2<=v3/\v3<=5)/\(v3≠1)
 |.L1 v0 v3 v11=>(v3=a0)/\(v3=v0)/\(v11=true↔v3=6\/v3=7)/\(v3<1\/5<v3)
 |.L2 v0 v3 v14=>(v3=a0)/\(v3=v0)/\(v14=true↔8<=v3/\v3<=10)/\(v3<1\/7<v3)
def xP:mY->M6
 |.L0 v0 v3 v6=>(0,0,0,0,0,0)
 |.L1 v0 v3 v11=>(0,0,0,0,0,0)
 |.L2 v0 v3 v14=>(0,0,0,0,0,0)
def Z4t{a0:Int}{v0:Int}{v3:Int}{v14:Bool}(h:(mX a0) (.L2 v0 v3 v14)):Tot (pe v0 v3 v14).den (Nx (mX a0) xP (0,0,0,0,0,0) (λr=>(r=stV a0))):=by
 obtain⟨al0,i0,i1,i2⟩:=h;subst al0;dsimp only[pe,LT.den];apply tF<;>intro h1
 .exact gr
 apply tE<;>intro h2
 .exact w8
 apply tE<;>intro h3
 .exact w8
 apply tE<;>intro h4
 .exact w8
 apply tE<;>intro h5
 .exact w8
 exact gr
def Z4u{a0:Int}{v0:Int}{v3:Int}{v11:Bool}(h:(mX a0) (.L1 v0 v3 v11)):Tot (tg v0 v3 v11).den (Nx (mX a0) xP (0,0,0,0,0,0) (λr=>(r=stV a0))):=by
 obtain⟨al0,i0,i1,i2⟩:=h;subst al0;dsimp only[tg,LT.den];apply tF<;>intro h1
 .exact gr
 apply tE<;>intro h2
 .exact CA
 apply tE<;>intro h3
 .exact CA
 exact CA
def Z4v{a0:Int}{v0:Int}{v3:Int}{v6:Bool}(h:(mX a0) (.L0 v0 v3 v6)):Tot (mZ v0 v3 v6).den (Nx (mX a0) xP (0,0,0,0,0,0) (λr=>(r=stV a0))):=by
 obtain⟨al0,i0,i1,i2⟩:=h;subst al0;dsimp only[mZ,LT.den];apply tF<;>intro h1
 .exact gr
 apply tE<;>intro h2
 .exact Rz
 exact Rz
def xQ{a0:Int}:Tot (VG a0) (λr=>(r=stV a0)):=by
 apply Tot.rn (mX a0) xP
 .dsimp only[VH,LT.den];apply tE<;>intro h1
  .exact gr
  apply tE<;>intro h2
  .exact w6
  apply tE<;>intro h3
  .exact w6
  apply tE<;>intro h4
  .exact w6
  exact w6
 intro s hs;cases s with
 |L0 _ _ _=>exact Z4v hs
 |L1 _ _ _=>exact Z4u hs
 |L2 _ _ _=>exact Z4t hs
def Z4w{a0:af}{b0:Int}(oa0:Z7 a0):Tot (VI a0 b0) (λr=>(r=(stV a0.Kind==b0))):=by apply tZ;dsimp only[VJ,LT.den];exact tB (xQ) λx1 h1=>tR cz
def ZzK(a0:List af)(b0:Int):th->Prop
 |.L0 v0 c0 v7 v8=>(v0=a0)/\(c0=b0)/\((SzL 176 Z7) v0)/\(0<=v8)/\(v7=(v0.length:Int))/\((v0.take v8.toNat).any (λm=>stV m.Kind==c0)=false)
def Tk:th->M6
 |.L0 v0 c0 v7 v8=>(1,(v7-v8).toNat,1000000,0,0,0)
def ZzL{a0:List af}{b0:Int}(oa0:(SzL 176 Z7) a0):Tot (VK a0 b0) (λr=>(decide (r.1>=0)=a0.any (λm=>stV m.Kind==b0))):=by
 apply Tot.rn (ZzK a0 b0) Tk
 .dsimp only[VL,LT.den];exact tL ⟨rfl,rfl,oa0,cl,cl,tk78⟩ tk97
 rintro⟨v0,c0,v7,v8⟩ ⟨al0,al1,ov0,cv8,i0,i1⟩;have lb_v0:=ov0.1;subst al0;subst al1;dsimp only[D9,VM,LT.den];apply tD<;>intro h1
 .refine Tot.ix λx1 h2=>?_;have oh2:Z7 x1:=ov0.2 x1 h2.1;have mh2:=h2.2;refine tB (Z4w oh2) λx2 h3=>?_;apply tF<;>intro h4
  .exact Sj
  have q1:=wr (v8+1);exact tL ⟨rfl,rfl,ov0,cl,cl,tk78⟩ tk97
 exact Sj
def ZzM{a0:List af}{b0:Int}(oa0:(SzL 176 Z7) a0):Tot (VN a0 b0) (λr=>(r.1=a0.any (λm=>stV m.Kind==b0))):=by apply tZ;dsimp only[VO,LT.den];exact tB (ZzL oa0) λx1 h1=>tR V
def ZfO{a0:Z2}{a1:Int}(oa0:gq a0):Tot (VP a0 a1) (λr=>(r=belB a0 a1)):=by apply tZ;dsimp only[Z6h,LT.den];exact tB (ZzM oa0.2.2) λx1 h1=>tR V
def Ea(a0:al)(a1:Int):ti->Prop
 |.L0 v1 E0 v5=>(E0=a0)/\(v1=a1)/\(db E0)/\(v5=true↔E0.Power.Kind≠0\/E0.Tough.Kind≠0)
def VQ:ti->M6
 |.L0 v1 E0 v5=>(0,0,0,0,0,0)
def Q4{a0:al}{a1:Int}{v1:Int}{E0:al}{v5:Bool}(h:(Ea a0 a1) (.L0 v1 E0 v5)):Tot (tj v1 E0 v5).den (Nx (Ea a0 a1) VQ (0,0,0,0,0,0) (λr=>(r=fe a0 a1))):=by
 obtain⟨al0,al1,O0,i0⟩:=h;subst al0;subst al1;dsimp only[tj,LT.den];apply tE<;>intro h1
 .exact mF
 apply tE<;>intro h2
 .apply tN<;>intro h3
  .exact mF
  apply tO<;>intro h4
  .exact mF
  exact mF
 apply tE<;>intro h3
 .exact mF
 apply tE<;>intro h4
 .exact mF
 exact mF
def VS{a0:al}{a1:Int}(oa0:db a0):Tot (Z6j a0 a1) (λr=>(r=fe a0 a1)):=by
 apply Tot.rn (Ea a0 a1) VQ
 .dsimp only[Z1y,LT.den];apply tN<;>intro h1
  .exact Q3
  exact Q3
 intro s hs;cases s with
 |L0 _ _ _=>exact Q4 hs
def VT{a0:Int}:Tot (VU a0) (λr=>(r=false)):=by apply tZ;dsimp only[Z3p,LT.den];exact tR ay
def ZzN{a0:Int}{a1:Int}:Tot (Z3r a0 a1) (λr=>((r = -1/\a0<a1)\/(r=1/\a1<a0)\/(r=0/\a0=a1))):=by
 apply tZ;dsimp only[VV,LT.den];refine tB (VT) λx1 h1=>tB (VT) λx2 h2=>?_;apply tF<;>intro h3
 .apply tF<;>intro h4
  .exact oO
  exact oO
 apply tF<;>intro h4
 .exact oO
 apply tD<;>intro h5
 .exact oO
 apply tD<;>intro h6
 .exact oO
 exact oO
def Z16{a0:aj}{a1:Int}:Tot (VW a0 a1) (λr=>((r = -1/\a0.Id<a1)\/(r=1/\a1<a0.Id)\/(r=0/\a0.Id=a1))):=by apply tZ;dsimp only[Z6k,LT.den];exact tB (ZzN) λx1 h1=>tR V
abbrev ZzO(a0:List aj)(a1:Int)(r:Int×Bool):Prop:=(BSP a0 a1 r)/\(0<=r.1)/\(r.1<=(a0.length:Int))/\(r.2=true->r.1<(a0.length:Int))
def ZzP(a0:List aj)(a1:Int):tk->Prop
 |.L0 v0 v1 v8 v9 v10=>(v0=a0)/\(v1=a1)/\((SzL 128 (λ_=>True)) v0)/\(0<=v9)/\(v8=(v0.length:Int))/\(v9<=v10)/\(v10<=v8)/\(BSI v0 v1 v9 v10)
def Ti:tk->M6
 |.L0 v0 v1 v8 v9 v10=>(1,(v10-v9).toNat,1000000,0,0,0)
def ZzQ{a0:List aj}{a1:Int}(oa0:(SzL 128 (λ_=>True)) a0):Tot (VX a0 a1) (ZzO a0 a1):=by
 apply Tot.rn (ZzP a0 a1) Ti
 .have lb_a0:=oa0.1;dsimp only[VY,LT.den];exact tL ⟨rfl,rfl,oa0,cl,cl,cl,cl,tk40⟩ tk86
 rintro⟨v0,v1,v8,v9,v10⟩ ⟨al0,al1,ov0,cv9,i0,i1,i2,i3⟩;have lb_v0:=ov0.1;subst al0;subst al1;dsimp only[Eb,V0,LT.den];have lm:=ZqE (i:=v9) (j:=v10) (n:=v8) O O O O;apply tD<;>intro h1
 .have q1:=wr (v9+v10);have q2:=wr (shrI .u64 (IntKind.wrap .u64 (IntKind.wrap .i64 (v9+v10))) 1);refine Tot.ix λx1 h2=>?_;have mh2:=h2.2;refine tB (Z16) λx2 h3=>?_;apply tD<;>intro h4
  .have q3:=wr ((IntKind.wrap .i64 (shrI .u64 (IntKind.wrap .u64 (IntKind.wrap .i64 (v9+v10))) 1))+1);exact SI
  exact SI
 apply tD<;>intro h2
 .refine Tot.ix λx1 h3=>?_;have mh3:=h3.2;exact tB (Z16) λx2 h4=>tR ⟨tk60,cl,cl,Ts⟩
 exact tR ⟨tk60,cl,cl,Ts⟩
def Z7f{a0:av}{a1:Int}(oa0:Z8 a0):Tot (V1 a0 a1) (λr=>(bU a0.Objects->r=ixO a0.Objects a1)/\(-1<=r)/\(r<(a0.Objects.length:Int))):=by
 apply tZ;dsimp only[V2,LT.den];refine tB (ZzQ oa0.2.1) λx1 h1=>?_;have eh1_0:=h1.1;apply tO<;>intro h2
 .exact Sp
 exact Sp
def ZzR(a0:List Int)(a1:Int):tl->Prop
 |.L0 v0 v1 v7 v8=>(v0=a0)/\(v1=a1)/\((SzL 8 (λ_=>True)) v0)/\(0<=v8)/\(v7=(v0.length:Int))/\(∀(k:Nat) y,(k:Int)<v8->v0[k]?=some y->y≠v1)
def TA:tl->M6
 |.L0 v0 v1 v7 v8=>(1,(v7-v8).toNat,1000000,0,0,0)
def Ec{a0:List Int}{a1:Int}(oa0:(SzL 8 (λ_=>True)) a0):Tot (V3 a0 a1) (λr=>(-1<=r)/\(r<(a0.length:Int))/\(r=ixI a0 a1)):=by
 apply Tot.rn (ZzR a0 a1) TA
 .dsimp only[V4,LT.den];exact tL ⟨rfl,rfl,oa0,cl,cl,tk37⟩ Tz
 rintro⟨v0,v1,v7,v8⟩ ⟨al0,al1,ov0,cv8,i0,i1⟩;have lb_v0:=ov0.1;subst al0;subst al1;dsimp only[Ed,V5,LT.den];apply tD<;>intro h1
 .refine Tot.ix λx1 h2=>?_;have mh2:=h2.2;apply tE<;>intro h3
  .exact Sy
  have q1:=wr (v8+1);exact tL ⟨rfl,rfl,ov0,cl,cl,tk37⟩ Tz
 exact Sy
def V6{a0:List Int}{a1:Int}(oa0:(SzL 8 (λ_=>True)) a0):Tot (V7 a0 a1) (λr=>(r=true↔a1∈a0)):=by apply tZ;dsimp only[V8,LT.den];refine tB (Ec oa0) λx1 h1=>?_;have eh1_2:=h1.2.2;exact tR (by exact ixc V)
def V9(a0:List UInt8)(oa0:SzT a0):Tot (Z2e a0) (λr=>r=ga a0):=⟨_,Wa a0,rfl⟩
def ZzS(a0:al)(oa0:db a0):Tot (Z6o a0) (λr=>r=Z00 a0):=⟨_,Qz a0,rfl⟩
def Mh{x:aK}(h:fJ x):x.Subs.length<=4611686018427387904:=xC
def ZzT(a0:aK)(a1:List UInt8)(oa0:fJ a0)(oa1:SzT a1):Tot (xR a0 a1) (λr=>r=dm a0.Subs a1):=⟨_,Qw a0 a1 (Mh oa0),rfl⟩
def Mk{x:ab}(h:bl x):x.Line.Subs.length<=4611686018427387904:=U3
def Z4x(a0:aj)(a1:ab)(a2 a3:Int)(a4:al)(oa1:bl a1)(oa4:db a4):Tot (wV a0 a1 a2 a3 a4) (λr=>r=gN a0 a1 a2 a3 a4):=⟨_,Qx a0 a1 a2 a3 a4 (Mk oa1),rfl⟩
def Mp{x:ab}(h:bl x):x.Line.Subs.length<=4611686018427387904:=U3
def Mq{s:av}{all:List ab}{you src:Int}{f:al}(h:Z8 s):SzL 8 (λ_=>True) (Z2m s all you src f):=by have h1:s.Objects.length*128<=140737488351232:=h.2.1.1;have h2:(Z2m s all you src f).length<=s.Objects.length:=Wb ..;exact⟨by omega,λ_ _=>trivial⟩
def ZzU(a0:av)(a1:List ab)(a2 a3:Int)(a4:al)(oa0:Z8 a0)(oa1:(SzL 176 bl) a1)(oa4:db a4):Tot (Z2f a0 a1 a2 a3 a4) (λr=>((SzL 8 (λ_=>True)) r)/\(r=Z2m a0 a1 a2 a3 a4)):=⟨_,ZpW a0 a1 a2 a3 a4 oa0.2.1.1 λt ht=>Mp (oa1.2 t ht),Mq oa0,rfl⟩
def ZzV(a0:List Int)(a1:List Int):tn->Prop
 |.L0 v0 v1 v12 v13=>(v0=a0)/\(v1=a1)/\((SzL 8 (λ_=>True)) v0)/\((SzL 8 (λ_=>True)) v1)/\(0<=v13)/\(v12=(v0.length:Int))/\(v0.length=v1.length)/\(∀(k:Nat) x,(k:Int)<v13->v0[k]?=some x->v1[k]?=some x)
def TC:tn->M6
 |.L0 v0 v1 v12 v13=>(1,(v12-v13).toNat,1000000,0,0,0)
def Wc{a0:List Int}{a1:List Int}(oa0:(SzL 8 (λ_=>True)) a0)(oa1:(SzL 8 (λ_=>True)) a1):Tot (Wd a0 a1) (λr=>(r=true↔a0=a1)):=by
 apply Tot.rn (ZzV a0 a1) TC
 .have lb_a1:=oa1.1;dsimp only[We,LT.den];have q1:=oa1.1;apply tN<;>intro h1
  .exact n9
  exact tL ⟨rfl,rfl,oa0,oa1,cl,cl,cl,tk61⟩ TB
 rintro⟨v0,v1,v12,v13⟩ ⟨al0,al1,ov0,ov1,cv13,i0,i1,i2⟩;have lb_v0:=ov0.1;subst al0;subst al1;dsimp only[Ee,Wf,LT.den];apply tD<;>intro h1
 .refine Tot.ix λx1 h2=>?_;have mh2:=h2.2;refine Tot.ix λx2 h3=>?_;have mh3:=h3.2;apply tN<;>intro h4
  .exact n9
  have q1:=wr (v13+1);exact tL ⟨rfl,rfl,ov0,ov1,cl,cl,cl,tk61⟩ TB
 exact n9
def Z1t{a0:bP}{a1:bP}(oa0:Z08 a0)(oa1:Z08 a1):Tot (Wg a0 a1) (λr=>(r=Z8t a0 a1)):=by
 apply tZ;dsimp only[Wh,LT.den];apply tO<;>intro h1
 .exact Ss
 refine tB (Wc oa0.1 oa1.1) λx1 h2=>?_;apply tO<;>intro h3
 .exact Ss
 exact tB (Wc oa0.2 oa1.2) λx2 h4=>tR tk54
def Wi{a0:List Bool}(oa0:(SzL 1 (λ_=>True)) a0):Tot (xS a0) (λr=>((SzL 1 (λ_=>True)) r)/\(r=a0)):=by
 unfold xS;split
 .apply tZ;have lb_a0:=oa0.1;dsimp only[Ef,LT.den];refine Tot.ap λx1 h1=>?_;have lh1:x1.length=([]:List Bool).length+a0.length:=by rw[h1,bm]
  exact Su
 apply tZ;dsimp only[xU,LT.den];exact mI
def ZzW{a0:List an}(oa0:(SzL 640 Z1) a0):Tot (xV a0) (λr=>((SzL 640 Z1) r)/\(r=a0)):=by
 unfold xV;split
 .apply tZ;have lb_a0:=oa0.1;dsimp only[Eg,LT.den];refine Tot.ap λx1 h1=>?_;have lh1:x1.length=([]:List an).length+a0.length:=by rw[h1,bm]
  try simp only[bw,bW,aN]at lh1
  exact tR ⟨SzL.app (k:=640) h1 lo (λ_ h=>by cases h) oa0.2,mJ⟩
 apply tZ;dsimp only[xW,LT.den];exact mI
def ZzX(a0:ab):pf->Prop
 |.L0 E0 E1 v18 v19=>(bl E0)/\(bl E1)/\(0<=v19)/\(v18=(E0.Abilities.length:Int))/\(E0=a0)
 |.L1 y45000015 E0 E1 v18 v19 v54 v55 v4=>(Z1 y45000015)/\(bl E0)/\(bl E1)/\(0<=v55)/\(0<=v19)/\(v19<v18)/\(v18=(E0.Abilities.length:Int))/\(0<=v4)/\(v4<v18)/\(v19<v18)/\(v54=(y45000015.Effects.length:Int))/\(E0=a0)/\(E0.Abilities[v4.toNat]?=some y45000015)
def TH:pf->M6
 |.L0 E0 E1 v18 v19=>(1,(v18-v19).toNat,1000000,0,0,0)
 |.L1 y45000015 E0 E1 v18 v19 v54 v55 v4=>(1,(v18-v19).toNat,1,(v54-v55).toNat,1000000,0)
def ZzY{a0:ab}(oa0:bl a0):Tot (Wj a0) (λr=>(bl r)/\(r=a0)):=by
 apply Tot.rn (ZzX a0) TH
 .dsimp only[Wl,LT.den];refine tB (Dk oa0.2.1) λx1 h1=>?_;have eh1_1:=h1.2;refine tB (ZzW oa0.2.2) λx2 h2=>?_;have eh2_1:=h2.2;exact tL ⟨⟨oa0.1,h1.1,h2.1⟩,⟨SzS.nil,SzL.nil,SzL.nil⟩,cl,cl,tk64⟩ xe
 intro s hs;cases s with
 |L0 E0 E1 v18 v19=>
  obtain⟨O0,O1,cv19,i0,i1⟩:=hs;dsimp only[xX,Wm,LT.den];apply tD<;>intro h1
  .refine Tot.ix λx1 h2=>?_;have oh2:Z1 x1:=O0.2.2.2 x1 h2.1;have mh2:=h2.2;refine tB (oZ oh2.2.1) λx2 h3=>?_;have eh3_1:=h3.2;refine tB (Us oh2.2.2.2.1) λx3 h4=>?_;have eh4_1:=h4.2;refine tB (Ut oh2.2.2.2.2.1) λx4 h5=>?_;have eh5_1:=h5.2;exact tL ⟨⟨oh2.1,h3.1,oh2.2.2.1,h4.1,h5.1,oh2.2.2.2.2.2⟩,O0,O1,cl,cl,cl,cl,cl,cl,cl,cl,aF,tk50⟩ xe
  exact tR ⟨O0,dS⟩
 |L1 y45000015 E0 E1 v18 v19 v54 v55 v4=>
  obtain⟨oy45000015,O0,O1,cv55,cv19,bd5,i0,i1,i2,i3,i4,i5,i6⟩:=hs;dsimp only[xX,Wn,LT.den];have lq:=oy45000015.2.2.2.2.1.1;have lr:=O0.2.2.1;apply tD<;>intro h1
  .refine Tot.ix λx1 h2=>?_;have oh2:cD x1:=oy45000015.2.2.2.2.1.2 x1 h2.1;have mh2:=h2.2;refine tB (oZ oh2.2.2.2.2) λx2 h3=>?_;have eh3_1:=h3.2;refine tB (Tot.set O O) λx3 h4=>?_;have q1:=wr (v55+1);exact tL ⟨⟨oy45000015.1,oy45000015.2.1,oy45000015.2.2.1,oy45000015.2.2.2.1,⟨lo,λe he=>(h4.2.1 e he).elim (λw=>by rw[w];exact⟨oh2.1,oh2.2.1,oh2.2.2.1,oh2.2.2.2.1,h3.1⟩) (oy45000015.2.2.2.2.1.2 e)⟩,oy45000015.2.2.2.2.2⟩,O0,O1,cl,cl,cl,cl,cl,cl,cl,cl,aF,tk50⟩ xe
  refine tB (Tot.set O O) λx1 h2=>?_;have q1:=wr (v19+1);exact tL ⟨⟨O0.1,O0.2.1,⟨lo,λe he=>(h2.2.1 e he).elim (λw=>by rw[w];exact oy45000015) (O0.2.2.2 e)⟩⟩,O1,cl,cl,tk64⟩ xe
def kt{a0:Int}{a1:Int}{a2:Int}:Tot (Wo a0 a1 a2) (λr=>(r=inB a0 a1 a2)):=by
 apply tZ;dsimp only[Wp,LT.den];apply tD<;>intro h1
 .exact sJ
 exact sJ
abbrev Z1u(a0:af)(r:af):Prop:=(Z7 r)/\(Z9 (ax a0) (ax r)=dD a0)
def tp(a0:af):pg->Prop
 |.L0 E0 E1 E2 v8 v9=>(E0=a0)/\(Z7 E0)/\(Z7 E1)/\(Z7 E2)/\(v8=E0.Kind)/\(E2=⟨E0.Kind,0,0,[],fQ⟩)/\(v9=true↔v8=2\/v8=3\/v8=6\/v8=7\/v8=8\/v8=9)
 |.L1 E0 E1 E2 v8 v19=>(E0=a0)/\(Z7 E0)/\(Z7 E1)/\(Z7 E2)/\(v8=E0.Kind)/\(E2=⟨E0.Kind,0,0,[],fQ⟩)/\(¬(v8=2\/v8=3\/v8=6\/v8=7\/v8=8\/v8=9))/\(v19=true↔v8=4\/v8=5)
def Z86:pg->M6
 |.L0 E0 E1 E2 v8 v9=>(0,0,0,0,0,0)
 |.L1 E0 E1 E2 v8 v19=>(0,0,0,0,0,0)
def Z7g{a0:af}{E0:af}{E1:af}{E2:af}{v8:Int}{v19:Bool}(h:(tp a0) (.L1 E0 E1 E2 v8 v19)):Tot (tq E0 E1 E2 v8 v19).den (Nx (tp a0) Z86 (0,0,0,0,0,0) (Z1u a0)):=by
 obtain⟨al0,O0,O1,O2,i0,i1,i2,i3⟩:=h;subst al0;dsimp only[tq,LT.den];apply tF<;>intro h1
 .exact tR ⟨⟨O0.1,O2.2⟩,tk59⟩
 apply tE<;>intro h2
 .exact tR ⟨⟨O2.1,O0.2⟩,tk59⟩
 apply tE<;>intro h3
 .exact CG
 apply tE<;>intro h4
 .exact CG
 exact tR ⟨O2,tk59⟩
def Z7h{a0:af}{E0:af}{E1:af}{E2:af}{v8:Int}{v9:Bool}(h:(tp a0) (.L0 E0 E1 E2 v8 v9)):Tot (ku E0 E1 E2 v8 v9).den (Nx (tp a0) Z86 (0,0,0,0,0,0) (Z1u a0)):=by
 obtain⟨al0,O0,O1,O2,i0,i1,i2⟩:=h;subst al0;dsimp only[ku,LT.den];apply tF<;>intro h1
 .exact CG
 apply tE<;>intro h2
 .exact Sl
 exact Sl
def ZzZ{a0:af}(oa0:Z7 a0):Tot (Wq a0) (Z1u a0):=by
 apply Tot.rn (tp a0) Z86
 .dsimp only[Ws,LT.den];apply tE<;>intro h1
  .exact oS
  apply tE<;>intro h2
  .exact oS
  apply tE<;>intro h3
  .exact oS
  apply tE<;>intro h4
  .exact oS
  apply tE<;>intro h5
  .exact oS
  exact oS
 intro s hs;cases s with
 |L0 _ _ _ _ _=>exact Z7h hs
 |L1 _ _ _ _ _=>exact Z7g hs
def m6(a0:af):m7->Prop
 |.L0 E0 v14 v15=>(E0=a0)/\(Z7 E0)/\(v14=E0.Kind)/\(inB E0.Kind 1 14=true)/\(dD E0=true)/\(v15=true↔E0.Kind=2\/E0.Kind=3)
 |.L1 E0 v14 v27=>(E0=a0)/\(Z7 E0)/\(v14=E0.Kind)/\(inB E0.Kind 1 14=true)/\(dD E0=true)/\(v27=true↔E0.Kind=4\/E0.Kind=5)/\(¬(E0.Kind=2\/E0.Kind=3))
 |.L2 E0 v14 v43=>(E0=a0)/\(Z7 E0)/\(v14=E0.Kind)/\(inB E0.Kind 1 14=true)/\(dD E0=true)/\(v43=true↔E0.Kind=8\/E0.Kind=9)/\(¬(2<=E0.Kind/\E0.Kind<=7))
def Z7i:m7->M6
 |.L0 E0 v14 v15=>(0,0,0,0,0,0)
 |.L1 E0 v14 v27=>(0,0,0,0,0,0)
 |.L2 E0 v14 v43=>(0,0,0,0,0,0)
def R7{a0:af}{E0:af}{v14:Int}{v43:Bool}(h:(m6 a0) (.L2 E0 v14 v43)):Tot (tt E0 v14 v43).den (Nx (m6 a0) Z7i (0,0,0,0,0,0) (λr=>(r=mdV a0))):=by
 obtain⟨al0,O0,i0,i1,i2,i3,i4⟩:=h;subst al0;dsimp only[tt,LT.den];apply tF<;>intro h1
 .exact tB (kt) λx1 h2=>tR Z4h
 apply tE<;>intro h2
 .exact tB (ZzS E0.Filter O0.2) λx1 h3=>tR Z4h
 apply tE<;>intro h3
 .refine tB (kt) λx1 h4=>?_;apply tF<;>intro h5
  .exact tB (kt) λx2 h6=>tR Z4h
  exact dM
 apply tE<;>intro h4
 .refine tB (kt) λx1 h5=>?_;apply tF<;>intro h6
  .exact tB (kt) λx2 h7=>tR Z4h
  exact dM
 exact dM
def R9{a0:af}{E0:af}{v14:Int}{v27:Bool}(h:(m6 a0) (.L1 E0 v14 v27)):Tot (tu E0 v14 v27).den (Nx (m6 a0) Z7i (0,0,0,0,0,0) (λr=>(r=mdV a0))):=by
 obtain⟨al0,O0,i0,i1,i2,i3,i4⟩:=h;subst al0;dsimp only[tu,LT.den];apply tF<;>intro h1
 .exact tB (V9 E0.Sub (SzS.t O0.1)) λx1 h2=>tR Z4h
 apply tE<;>intro h2
 .exact tB (kt) λx1 h3=>tR Z4h
 apply tE<;>intro h3
 .exact tB (kt) λx1 h4=>tR Z4h
 apply tE<;>intro h4
 .exact R6
 exact R6
def Se{a0:af}{E0:af}{v14:Int}{v15:Bool}(h:(m6 a0) (.L0 E0 v14 v15)):Tot (tv E0 v14 v15).den (Nx (m6 a0) Z7i (0,0,0,0,0,0) (λr=>(r=mdV a0))):=by
 obtain⟨al0,O0,i0,i1,i2,i3⟩:=h;subst al0;dsimp only[tv,LT.den];apply tF<;>intro h1
 .refine tB (kt) λx1 h2=>?_;apply tF<;>intro h3
  .exact dM
  exact dM
 apply tE<;>intro h2
 .exact R8
 exact R8
def ZAa{a0:af}(oa0:Z7 a0):Tot (Wt a0) (λr=>(r=mdV a0)):=by
 apply Tot.rn (m6 a0) Z7i
 .dsimp only[Wu,LT.den];refine tB (kt) λx1 h1=>?_;apply tO<;>intro h2
  .exact dM
  refine tB (ZzZ oa0) λx2 h3=>?_;apply tO<;>intro h4
  .exact dM
  apply tE<;>intro h5
  .exact Sc
  exact Sc
 intro s hs;cases s with
 |L0 _ _ _=>exact Se hs
 |L1 _ _ _=>exact R9 hs
 |L2 _ _ _=>exact R7 hs
def ZAb{a0:List UInt8}{a1:List UInt8}(oa0:SzT a0)(oa1:SzT a1):Tot (Z12 a0 a1) (λr=>(r = !Op.bytesLess a0 a1)):=by apply tZ;dsimp only[Wv,LT.den];exact tR (by rfl)
abbrev ZAc(a0:List (List UInt8))(a1:List UInt8)(r:Int):Prop:=(-1<=r)/\(r<(a0.length:Int))/\((if r<0 then(a0.length:Int)else r)=ixL a0 a1)
def ZAd(a0:List (List UInt8))(a1:List UInt8):tw->Prop
 |.L0 v0 w1_0 v7 v8=>(v0=a0)/\(w1_0=a1)/\((SzL 16 SzT) v0)/\(SzT w1_0)/\(0<=v8)/\(v7=(v0.length:Int))/\(LsS v0 w1_0 v8)
def Tp:tw->M6
 |.L0 v0 w1_0 v7 v8=>(1,(v7-v8).toNat,1000000,0,0,0)
def ZAe{a0:List (List UInt8)}{a1:List UInt8}(oa0:(SzL 16 SzT) a0)(oa1:SzT a1):Tot (Ww a0 a1) (ZAc a0 a1):=by
 apply Tot.rn (ZAd a0 a1) Tp
 .dsimp only[Wx,LT.den];exact tL ⟨rfl,rfl,oa0,oa1,cl,cl,tk84⟩ Tm
 rintro⟨v0,w1_0,v7,v8⟩ ⟨al0,al1,ov0,ow1_0,cv8,i0,i1⟩;have lb_v0:=ov0.1;subst al0;subst al1;dsimp only[Eh,Wy,LT.den];apply tD<;>intro h1
 .refine Tot.ix λx1 h2=>?_;have oh2:SzT x1:=ov0.2 x1 h2.1;have mh2:=h2.2;refine tB (ZAb oh2 ow1_0) λx2 h3=>?_;apply tF<;>intro h4
  .exact Sv
  have q1:=wr (v8+1);exact tL ⟨rfl,rfl,ov0,ow1_0,cl,cl,tk84⟩ Tm
 exact Sv
def Wz(b0:List (List UInt8))(a1:Int)(b1:List (List UInt8))(ob0:SzL 16 SzT b0)(ob1:SzL 16 SzT b1)(h0:b0.length<=4096)(h1:0<=a1)(h2:a1<=(b0.length:Int))(h3:b1.length=1) :
 Tot (WA b0 a1 b1) (λr=>(SzL 16 SzT r)/\(r.length=b0.length+1)/\(r=b0.take a1.toNat++b1++b0.drop a1.toNat)):=by
 match b1,h3 with
 |[y],_=>
  refine⟨_,ZAf h1 h2 O,⟨?_,λe he=>?_⟩,?_,by simp⟩
  .exact Rw
  .rcases cb.1 he with h|h
   .exact ob0.2 e (iZ h)
   rcases cm.1 h with h|h
   .rw [h];exact ob1.2 y ay
   exact ob0.2 e (kH h)
  exact Rw
def ZAg{a0:aK}{a1:List UInt8}(oa0:fJ a0)(oa1:SzT a1):Tot (WB a0 a1) (λr=>(fJ r)/\(r=lnV a0 a1)):=by
 apply tZ;dsimp only[WC,LT.den];refine tB (Dk oa0) λx1 h1=>?_;have eh1_1:=h1.2;refine tB (V9 a1 oa1) λx2 h2=>?_;apply tO<;>intro h3
 .exact CL
 refine tB (ZzT (⟨a0.Super,a0.Types,x1⟩:aK) a1 h1.1 oa1) λx3 h4=>?_;apply tF<;>intro h5
 .exact CL
 apply tD<;>intro h6
 .exact CL
 refine tB (ZAe h1.1 oa1) λx4 h7=>?_;have eh7_2:=h7.2.2;apply tD<;>intro h8
 .refine tB (Wz x1 (x1.length:Int) [a1] h1.1 (SzL.one oa1) cl cl cl cl) λx5 h9=>?_;exact SE
 refine tB (Wz x1 x4 [a1] h1.1 (SzL.one oa1) cl cl cl cl) λx5 h9=>?_;exact SE
def ZAh{a0:ab}{a1:af}{a2:Int}{a3:Int}(oa0:bl a0)(oa1:Z7 a1):Tot (Ei a0 a1 a2 a3) (λr=>(bl r)/\(r=apV a0 a1 a2 a3)):=by
 apply tZ;dsimp only[WD,LT.den];refine tB (ZzY oa0) λx1 h1=>?_;have eh1_1:=h1.2;refine tB (ZAa oa1) λx2 h2=>?_;apply tO<;>intro h3
 .exact Q2
 apply tE<;>intro h4
 .exact kj
 apply tE<;>intro h5
 .exact kj
 apply tE<;>intro h6
 .exact kj
 apply tE<;>intro h7
 .exact tR ⟨⟨h1.1.1,SzL.one (SzS.t oa1.1),h1.1.2.2⟩,gO⟩
 apply tE<;>intro h8
 .refine tB (ZAg h1.1.2.1 (SzS.t oa1.1)) λx3 h9=>?_;have eh9_1:=h9.2;exact tR ⟨⟨h1.1.1,h9.1,h1.1.2.2⟩,gO⟩
 apply tE<;>intro h9
 .exact kj
 apply tE<;>intro h10
 .exact kj
 apply tE<;>intro h11
 .exact kj
 apply tE<;>intro h12
 .exact kj
 apply tE<;>intro h13
 .exact tR ⟨⟨h1.1.1,h1.1.2.1,SzL.nil⟩,gO⟩
 apply tE<;>intro h14
 .exact tB (lu) λx3 h15=>tB (lu) λx4 h16=>tR ⟨⟨h1.1.1,h1.1.2.1,h1.1.2.2⟩,gO⟩
 apply tE<;>intro h15
 .exact kj
 apply tE<;>intro h16
 .exact tB (xO) λx3 h17=>tB (xO) λx4 h18=>tR ⟨⟨h1.1.1,h1.1.2.1,h1.1.2.2⟩,gO⟩
 apply tE<;>intro h17
 .exact kj
 exact Q2
abbrev ZAi(a0:List Int)(r:List Int):Prop:=((SzL 8 (λ_=>True)) r)/\(r.length<=a0.length)/\(SUB r a0)/\(r=elV a0)
def ZAj(a0:List Int):tz->Prop
 |.L0 v3 v6 v7 v8=>(v6=a0)/\((SzL 8 (λ_=>True)) v3)/\((SzL 8 (λ_=>True)) v6)/\(0<=v8)/\(v7=(v6.length:Int))/\(v3.length<=v8.toNat)/\(v8<=v7)/\(SUB v3 v6)/\(v3=(v6.take v8.toNat).foldl elF [])
def TF:tz->M6
 |.L0 v3 v6 v7 v8=>(1,(v7-v8).toNat,1000000,0,0,0)
def ZAk{a0:List Int}(oa0:(SzL 8 (λ_=>True)) a0):Tot (Ej a0) (ZAi a0):=by
 apply Tot.rn (ZAj a0) TF
 .have lb_a0:=oa0.1;dsimp only[Z13,LT.den];exact tL ⟨rfl,SzL.nil,oa0,cl,cl,cl,cl,tk87,tk13⟩ CP
 rintro⟨v3,v6,v7,v8⟩ ⟨al0,ov3,ov6,cv8,i0,i1,i2,i3,i4⟩;have lb_v3:=ov3.1;have lb_v6:=ov6.1;subst al0;dsimp only[Ek,WE,LT.den];apply tD<;>intro h1
 .refine Tot.ix λx1 h2=>?_;have mh2:=h2.2;apply tD<;>intro h3
  .refine tB (V6 ov3) λx2 h4=>?_;apply tO<;>intro h5
   .refine Tot.ap λx3 h6=>?_;have lh6:=ca h6;have q1:=wr (v8+1);exact tL ⟨rfl,SzL.tr,ov6,cl,cl,cl,cl,tk87,tk13⟩ CP
   exact SZ
  exact SZ
 exact tR ⟨ov3,cl,V,(by exact Ax V O)⟩
def Z17{a0:List (List Bool)}{a1:Int}{a2:Int}(oa0:(SzL 24 (SzL 1 (λ_=>True))) a0):Tot (WG a0 a1 a2) (λr=>(0<=a1->0<=a2->r=nB a0 a1 a2)):=by
 apply tZ;dsimp only[Z6p,LT.den];apply tD<;>intro h1
 .apply tD<;>intro h2
  .apply tD<;>intro h3
   .refine Tot.ix λx1 h4=>?_;have oh4:(SzL 1 (λ_=>True)) x1:=oa0.2 x1 h4.1;apply tD<;>intro h5
    .exact Tot.ix λx2 h6=>tR Ay
    exact oh
   exact oh
  exact oh
 exact oh
abbrev ZAl(a0:List Int)(a1:List (List Bool))(r:(List Int)×(List (List Bool))):Prop:=(r.1.length=a0.length)/\(r.2.length=a0.length)/\(RWS a0.length r.2)/\(MK a0.length r.2 (kB (eB a0 a1) a0.length))/\(r.1=a0)
def ZAm(a0:List Int)(a1:List (List Bool)):kv->Prop
 |.L0 v1 E0 v5 E1 v17 v18=>(E0=a0)/\(v1=a1)/\((SzL 24 (SzL 1 (λ_=>True))) v1)/\((SzL 8 (λ_=>True)) E0)/\((SzL 24 (SzL 1 (λ_=>True))) E1)/\(0<=v18)/\(v5=(E0.length:Int))/\((E1.length:Int)=v5)/\(E0.length<=16448)/\(RWV E0.length E1 v18)/\(v17=v5)/\(POS E0)/\(MK v5.toNat E1 (sel (eB E0 v1) (λ_ _=>false) v18.toNat (0:Int).toNat))
 |.L1 v1 E0 v5 E1 v7 v17 v18 v26 v27=>(E0=a0)/\(v1=a1)/\((SzL 24 (SzL 1 (λ_=>True))) v1)/\((SzL 8 (λ_=>True)) E0)/\((SzL 24 (SzL 1 (λ_=>True))) E1)/\(0<=v27)/\(0<=v18)/\(v18<v17)/\(v5=(E0.length:Int))/\((E1.length:Int)=v5)/\(E0.length<=16448)/\(RWV E0.length E1 (v18+1))/\(v17=v5)/\(v18<v17)/\(v7=v18)/\(v26=v5)/\(POS E0)/\(MK v5.toNat E1 (sel (eB E0 v1) (λ_ _=>false) v18.toNat v27.toNat))
 |.L2 E0 v5 E1 v48 v49=>(E0=a0)/\((SzL 8 (λ_=>True)) E0)/\((SzL 24 (SzL 1 (λ_=>True))) E1)/\(0<=v49)/\(v5=(E0.length:Int))/\((E1.length:Int)=v5)/\(E0.length<=16448)/\(RWS E0.length E1)/\(v48=v5)/\(v49<=v48)/\(MK v5.toNat E1 (kB (eB E0 a1) v49.toNat))
 |.L3 E0 v5 E1 v9 v48 v49 v52 v53=>(E0=a0)/\((SzL 8 (λ_=>True)) E0)/\((SzL 24 (SzL 1 (λ_=>True))) E1)/\(0<=v53)/\(0<=v49)/\(v49<v48)/\(v5=(E0.length:Int))/\((E1.length:Int)=v5)/\(E0.length<=16448)/\(RWS E0.length E1)/\(v48=v5)/\(v52=v5)/\(v9=v49)/\(v49<v48)/\(v53<=v52)/\(MK v5.toNat E1 (sel (kB (eB E0 a1) (v49.toNat+1)) (kB (eB E0 a1) v49.toNat) v53.toNat  (0:Int).toNat))
 |.L4 E0 v5 E1 v9 v10 v48 v49 v52 v53 v56 v57=>(E0=a0)/\((SzL 8 (λ_=>True)) E0)/\((SzL 24 (SzL 1 (λ_=>True))) E1)/\(0<=v57)/\(0<=v49)/\(0<=v53)/\(v49<v48)/\(v53<v52)/\(v5=(E0.length:Int))/\((E1.length:Int)=v5)/\(E0.length<=16448)/\(RWS E0.length E1)/\(v48=v5)/\(v52=v5)/\(v9=v49)/\(v49<v48)/\(v56=v5)/\(v10=v53)/\(v53<v52)/\(MK v5.toNat E1 (sel (kB (eB E0 a1) (v49.toNat+1)) (kB (eB E0 a1) v49.toNat) v53.toNat  v57.toNat))
def Z7j:kv->M6
 |.L0 v1 E0 v5 E1 v17 v18=>(3,(v17-v18).toNat,1000000,0,0,0)
 |.L1 v1 E0 v5 E1 v7 v17 v18 v26 v27=>(3,(v17-v18).toNat,1,(v26-v27).toNat,1000000,0)
 |.L2 E0 v5 E1 v48 v49=>(1,(v48-v49).toNat,1000000,0,0,0)
 |.L3 E0 v5 E1 v9 v48 v49 v52 v53=>(1,(v48-v49).toNat,1,(v52-v53).toNat,1000000,0)
 |.L4 E0 v5 E1 v9 v10 v48 v49 v52 v53 v56 v57=>(1,(v48-v49).toNat,1,(v52-v53).toNat,1,(v56-v57).toNat)
def ZAn{a0:List Int}{a1:List (List Bool)}(oa0:(SzL 8 (λ_=>True)) a0)(oa1:(SzL 24 (SzL 1 (λ_=>True))) a1)(h0:a0.length<=16448)(h1:POS a0):Tot (WH a0 a1) (ZAl a0 a1):=by
 apply Tot.rn (ZAm a0 a1) Z7j
 .dsimp only[WI,LT.den];refine tB (Tot.mk) λx1 h1=>?_;have lh1:=h1.1;exact tL ⟨rfl,rfl,oa1,oa0,⟨lo,λe he=>by rw[h1.2 e he];exact SzL.nil⟩,cl,cl,cl,cl,tk20,cl,V,tk12⟩ Z65
 intro s hs;cases s with
 |L0 v1 E0 v5 E1 v17 v18=>
  obtain⟨al0,al1,ov1,O0,O1,cv18,i0,i1,i2,i3,i4,i5,i6⟩:=hs;subst al0;subst al1;dsimp only[m8,Z6r,LT.den];apply tD<;>intro h1
  .refine tB (Tot.mk) λx1 h2=>?_;have lh2:=h2.1;refine Tot.ix λx2 h3=>?_;have mh3:=h3.2;(first|have wh3:=Z4e (by assumption:RWS _ E1) mh3|have wh3:=sI (by assumption:RWV _ E1 _) O mh3|skip);have mh3:=h3.2;exact tB (Tot.set O O) λx3 h4=>tL ⟨rfl,rfl,ov1,O0,⟨lo,λe he=>(h4.2.1 e he).elim (λw=>by rw[w];exact SzL.tr) (O1.2 e)⟩,cl,cl,cl,cl,cl,cl,tk20,cl,cl,cl,cl,V,tk12⟩ Z65
  exact SK
 |L1 v1 E0 v5 E1 v7 v17 v18 v26 v27=>
  obtain⟨al0,al1,ov1,O0,O1,cv27,cv18,bd7,i0,i1,i2,i3,i4,i5,i6,i7,i8,i9⟩:=hs;subst al0;subst al1;dsimp only[m8,Z6s,LT.den];apply tD<;>intro h1
  .refine Tot.ix λx1 h2=>?_;have oh2:(SzL 1 (λ_=>True)) x1:=O1.2 x1 h2.1;have mh2:=h2.2;(first|have wh2:=Z4e (by assumption:RWS _ E1) mh2|have wh2:=sI (by assumption:RWV _ E1 _) O mh2|skip);have mh2:=h2.2;refine Tot.ix λx2 h3=>?_;have mh3:=h3.2;refine Tot.ix λx3 h4=>?_;have mh4:=h4.2;refine tB (Z17 ov1) λx4 h5=>Tot.ix λx5 h6=>?_;have mh6:=h6.2;refine tB (Tot.setM) λx6 h7=>?_;have lh7:x6.length=E1.length:=by rw[h7,ez]
   have q1:=wr (v27+1);exact tL ⟨rfl,rfl,ov1,O0,SzL.setM h7 O1 oh2,cl,cl,cl,cl,cl,cl,tk20,cl,cl,cl,cl,V,tk12⟩ Z65
  have q1:=wr (v18+1);exact tL ⟨rfl,rfl,ov1,O0,O1,cl,cl,cl,cl,tk20,cl,V,tk12⟩ Z65
 |L2 E0 v5 E1 v48 v49=>
  obtain⟨al0,O0,O1,cv49,i0,i1,i2,i3,i4,i5,i6⟩:=hs;subst al0;dsimp only[m8,Z6t,LT.den];apply tD<;>intro h1
  .exact SM
  exact tR ⟨cl,cl,V,(by exact ZAo V V O O),(by rfl)⟩
 |L3 E0 v5 E1 v9 v48 v49 v52 v53=>
  obtain⟨al0,O0,O1,cv53,cv49,bd5,i0,i1,i2,i3,i4,i5,i6,i7,i8,i9⟩:=hs;subst al0;dsimp only[m8,Z6u,LT.den];apply tD<;>intro h1
  .exact S6
  have q1:=wr (v49+1);exact SK
 |L4 E0 v5 E1 v9 v10 v48 v49 v52 v53 v56 v57=>
  obtain⟨al0,O0,O1,cv57,cv49,cv53,bd6,bd7,i0,i1,i2,i3,i4,i5,i6,i7,i8,i9,i10,i11⟩:=hs;subst al0;dsimp only[m8,Z6v,LT.den];apply tD<;>intro h1
  .refine Tot.ix λx1 h2=>?_;have oh2:(SzL 1 (λ_=>True)) x1:=O1.2 x1 h2.1;have mh2:=h2.2;(first|have wh2:=Z4e (by assumption:RWS _ E1) mh2|have wh2:=sI (by assumption:RWV _ E1 _) O mh2|skip);have mh2:=h2.2;refine Tot.ix λx2 h3=>?_;have mh3:=h3.2;apply tF<;>intro h4
   .refine Tot.ix λx3 h5=>?_;have mh5:=h5.2;(first|have wh5:=Z4e (by assumption:RWS _ E1) mh5|have wh5:=sI (by assumption:RWV _ E1 _) O mh5|skip);have mh5:=h5.2;refine Tot.ix λx4 h6=>?_;have mh6:=h6.2;apply tF<;>intro h7
    .refine Tot.ix λx5 h8=>?_;have oh8:(SzL 1 (λ_=>True)) x5:=O1.2 x5 h8.1;have mh8:=h8.2;(first|have wh8:=Z4e (by assumption:RWS _ E1) mh8|have wh8:=sI (by assumption:RWV _ E1 _) O mh8|skip);have mh8:=h8.2;refine Tot.ix λx6 h9=>?_;have mh9:=h9.2;refine tB (Tot.setM) λx7 h10=>?_;have lh10:x7.length=E1.length:=by rw[h10,ez]
     have q1:=wr (v57+1);exact tL ⟨rfl,O0,SzL.setM h10 O1 oh8,cl,cl,cl,cl,cl,cl,cl,cl,tk67,cl,cl,cl,cl,cl,cl,cl,tk0⟩ Z65
    exact S7
   exact S7
  have q1:=wr (v53+1);exact SM
def Z1v{a0:Int}{a1:Int}{a2:List Int}{a3:List (List Bool)}(oa2:(SzL 8 (λ_=>True)) a2)(oa3:(SzL 24 (SzL 1 (λ_=>True))) a3)(h0:a3.length=a2.length)(h1:RWS a2.length a3):Tot (WJ a0 a1 a2 a3) (λr=>(r=ldV a2 a3 a0 a1)):=by
 apply tZ;dsimp only[WK,LT.den];refine tB (Ec oa2) λx1 h1=>?_;have eh1_2:=h1.2.2;refine tB (Ec oa2) λx2 h2=>?_;have eh2_2:=h2.2.2;apply tD<;>intro h3
 .apply tD<;>intro h4
  .refine Tot.ix λx3 h5=>?_;have mh5:=h5.2;have wh5:=Z4e (by assumption:RWS _ a3) mh5;have mh5:=h5.2;refine Tot.ix λx4 h6=>?_;have mh6:=h6.2;exact CI
  exact CI
 exact CI
def ZAp{a0:Int}{b0:Int}{b1:List (List Bool)}{b2:(List Int)×(List (List Bool))}(ob1:(SzL 24 (SzL 1 (λ_=>True))) b1)(h0:b2.1.length<=16448)(h1:b2.2.length=b2.1.length)(h2:RWS b2.1.length b2.2):Tot (WL a0 b0 b1 b2) (λr=>(0<=a0->0<=b0->r=wtP b1 b2 b0 a0)):=by
 apply tZ;dsimp only[WM,LT.den];apply tN<;>intro h1
 .refine tB (Z17 ob1) λx1 h2=>?_;apply tF<;>intro h3
  .exact tB (Z1v szx szx cl V) λx2 h4=>tR C6
  exact tR C6
 exact tR C6
abbrev ZAq(a0:List Int)(b0:Int)(b1:List (List Bool))(b2:(List Int)×(List (List Bool)))(r:Int×Int×(List (List Bool))×((List Int)×(List (List Bool)))):Prop:=((SzL 24 (SzL 1 (λ_=>True))) r.2.2.1)/\(r.2=(b0,b1,b2))/\(FX a0 (wtP b1 b2 b0) r.1)
def ZAr(a0:List Int)(b0:Int)(b1:List (List Bool))(b2:(List Int)×(List (List Bool))):tC->Prop
 |.L0 v0 c0 c1 c2 v7 v8=>(v0=a0)/\(c0=b0)/\(c1=b1)/\(c2=b2)/\((SzL 8 (λ_=>True)) v0)/\((SzL 24 (SzL 1 (λ_=>True))) c1)/\(0<=v8)/\(v7=(v0.length:Int))/\(c2.1.length<=16448)/\(c2.2.length=c2.1.length)/\(RWS c2.1.length c2.2)/\(POS v0)/\(0<=c0)/\(∀(k:Nat) y,(k:Int)<v8->v0[k]?=some y->wtP c1 c2 c0 y=false)
def Tr:tC->M6
 |.L0 v0 c0 c1 c2 v7 v8=>(1,(v7-v8).toNat,1000000,0,0,0)
def ZAs{a0:List Int}{b0:Int}{b1:List (List Bool)}{b2:(List Int)×(List (List Bool))}(oa0:(SzL 8 (λ_=>True)) a0)(ob1:(SzL 24 (SzL 1 (λ_=>True))) b1)(h0:b2.1.length<=16448)(h1:b2.2.length=b2.1.length)(h2:RWS b2.1.length b2.2)(h3:POS a0)(h4:0<=b0):Tot (WN a0 b0 b1 b2) (ZAq a0 b0 b1 b2):=by
 apply Tot.rn (ZAr a0 b0 b1 b2) Tr
 .dsimp only[WO,LT.den];exact tL ⟨rfl,rfl,rfl,rfl,oa0,ob1,cl,cl,cl,cl,dS,V,cl,tk71⟩ Tq
 rintro⟨v0,c0,c1,c2,v7,v8⟩ ⟨al0,al1,al2,al3,ov0,oc1,cv8,i0,i1,i2,i3,i4,i5,i6⟩;have lb_v0:=ov0.1;subst al0;subst al1;subst al2;subst al3;dsimp only[El,WQ,LT.den];apply tD<;>intro h1
 .refine Tot.ix λx1 h2=>?_;have mh2:=h2.2;have zh2:0<=x1:=(by assumption:POS v0) _ h2.1;refine tB (ZAp oc1 cl cl dS) λx2 h3=>?_;apply tF<;>intro h4
  .exact Sq
  have q1:=wr (v8+1);exact tL ⟨rfl,rfl,rfl,rfl,ov0,oc1,cl,cl,cl,cl,dS,V,cl,tk71⟩ Tq
 exact Sq
def ZAt{a0:List Int}{b0:Int}{b1:List (List Bool)}{b2:(List Int)×(List (List Bool))}(oa0:(SzL 8 (λ_=>True)) a0)(ob1:(SzL 24 (SzL 1 (λ_=>True))) b1)(h0:b2.1.length<=16448)(h1:b2.2.length=b2.1.length)(h2:RWS b2.1.length b2.2)(h3:POS a0)(h4:0<=b0):Tot (WR a0 b0 b1 b2) (λr=>((SzL 24 (SzL 1 (λ_=>True))) r.2.2.1)/\(r.2=(b0,b1,b2))/\(r.1=true↔∃j,j∈a0/\wtP b1 b2 b0 j=true)):=by apply tZ;dsimp only[WS,LT.den];refine tB (ZAs oa0 ob1 cl cl dS jJ cl) λx1 h1=>?_;have eh1_1:=h1.2.1;have eh1_2:=h1.2.2;exact tR ⟨h1.1,aF,V⟩
abbrev ZAu(a0:List Int)(a1:List (List Bool))(r:List Int):Prop:=((SzL 8 (λ_=>True)) r)/\(r.length<=16448)/\(SUB r a0)/\(r=rdV (elV a0) (nB a1))
def ZAv(a0:List Int)(a1:List (List Bool)):tG->Prop
 |.L0 E0 v5 E1 v7 v16 v17 v18=>((SzL 24 (SzL 1 (λ_=>True))) E0)/\((SzL 8 (λ_=>True)) v5)/\((SzL 8 (λ_=>True)) v7)/\((SzL 8 (λ_=>True)) v16)/\(0<=v18)/\(v5.length<=16448)/\(v17=(v16.length:Int))/\(v16.length<=16448)/\(v7.length<=v18.toNat)/\(v18<=v17)/\(SUB v16 a0)/\(SUB v7 a0)/\(E1.1.length<=16448)/\(E1.2.length=E1.1.length)/\(RWS E1.1.length E1.2)/\(POS v5)/\(v5=v16)/\(v16=elV a0)/\(E1.1=v16)/\(E0=a1)/\(MK v16.length E1.2 (kB (eB v16 a1) v16.length))/\(v7=(v16.take v18.toNat).filter (rdB v16 (nB a1)))
def Z7k:tG->M6
 |.L0 E0 v5 E1 v7 v16 v17 v18=>(1,(v17-v18).toNat,1000000,0,0,0)
def ZAw{a0:List Int}{a1:List (List Bool)}(oa0:(SzL 8 (λ_=>True)) a0)(oa1:(SzL 24 (SzL 1 (λ_=>True))) a1)(h0:a0.length<=16448):Tot (Z33 a0 a1) (ZAu a0 a1):=by
 apply Tot.rn (ZAv a0 a1) Z7k
 .dsimp only[WU,LT.den];refine tB (ZAk oa0) λx1 h1=>?_;have eh1_2:=h1.2.2.1;have eh1_3:=h1.2.2.2;refine tB (ZAn h1.1 oa1 cl jJ) λx2 h2=>?_;have eh2_0:=h2.1;have eh2_2:=h2.2.2.1;have eh2_3:=h2.2.2.2.1;have eh2_4:=h2.2.2.2.2;have q1:=h1.1.1;exact tL ⟨oa1,h1.1,SzL.nil,h1.1,cl,cl,cl,cl,cl,cl,V,tk66,cl,cl,C2,jJ,aF,V,V,aF,V,tk18⟩ C4
 rintro⟨E0,v5,E1,v7,v16,v17,v18⟩ ⟨O0,ov5,ov7,ov16,cv18,i0,i1,i2,i3,i4,i5,i6,i7,i8,i9,i10,i11,i12,i13,i14,i15,i16⟩;have lb_v7:=ov7.1;dsimp only[En,Z6w,LT.den];apply tD<;>intro h1
 .refine Tot.ix λx1 h2=>?_;have mh2:=h2.2;have zh2:0<=x1:=TE (by assumption:v16=elV a0) _ h2.1;refine tB (ZAt ov5 O0 cl cl dS jJ cl) λx2 h3=>?_;have eh3_1:=h3.2.1;have eh3_2:=h3.2.2;have mh3:v16[v18.toNat]?=some x2.2.1:=by rw[eh3_1];assumption
  have uh3:x2.2.2.2.1.length<=16448:=iw
  have wh3:x2.2.2.2.2.length=x2.2.2.2.1.length:=iw
  have zh3:RWS x2.2.2.2.1.length x2.2.2.2.2:=iw
  have rh3:=rd_c (y:=x2) V V V V V V V V;have f1h5:x2.2.2.1=a1:=iw
  have f2h5:x2.2.2.2.1=v16:=iw
  have f3h5:MK v16.length x2.2.2.2.2 (kB (eB v16 a1) v16.length):=iw
  apply tO<;>intro h4
  .refine Tot.ap λx3 h5=>?_;have lh5:=ca h5;have q1:=wr (v18+1);exact tL ⟨h3.1,ov5,SzL.tr,ov16,cl,cl,cl,cl,cl,cl,V,tk66,cl,cl,C2,jJ,aF,V,V,aF,V,tk18⟩ C4
  have q1:=wr (v18+1);exact tL ⟨h3.1,ov5,ov7,ov16,cl,cl,cl,cl,cl,cl,V,tk66,cl,cl,C2,jJ,aF,V,V,aF,V,tk18⟩ C4
 exact tR ⟨ov7,cl,V,(by rw[<- (by assumption:v16=elV a0)];exact AB V O)⟩
def Z4y{a0:List Int}{a1:Int}(oa0:(SzL 8 (λ_=>True)) a0)(h0:0<=a1):Tot (WV a0 a1) (λr=>(r=stp a0 a1)):=by apply tZ;dsimp only[WW,LT.den];exact Nm
def ZAx(a0:List Int)(a1:List Int)(a2:List (List Bool)):tH->Prop
 |.L0 v1 v7 v14 v15 v16=>(v1=a1)/\((SzL 8 (λ_=>True)) v1)/\((SzL 8 (λ_=>True)) v14)/\(0<=v16)/\(POS a0)/\(v15=(v14.length:Int))/\(v14.length<=16448)/\(SUB v14 a0)/\(v7<0\/v7∈a0)/\(v14=rdV (elV a0) (nB a2))/\(v7=(v14.take v16.toNat).foldl (nxF v1) (-1))
def U9:tH->M6
 |.L0 v1 v7 v14 v15 v16=>(1,(v15-v16).toNat,1000000,0,0,0)
def ZfQ{a0:List Int}{a1:List Int}{a2:List (List Bool)}(oa0:(SzL 8 (λ_=>True)) a0)(oa1:(SzL 8 (λ_=>True)) a1)(oa2:(SzL 24 (SzL 1 (λ_=>True))) a2)(h0:a0.length<=16448)(h1:POS a0):Tot (WX a0 a1 a2) (λr=>(r<0\/r∈a0)/\(r=nxV a0 a1 (nB a2))):=by
 apply Tot.rn (ZAx a0 a1 a2) U9
 .dsimp only[WY,LT.den];refine tB (ZAw oa0 oa2 cl) λx1 h1=>?_;have eh1_1:=h1.2.1;have eh1_2:=h1.2.2.1;have eh1_3:=h1.2.2.2;exact tL ⟨rfl,oa1,h1.1,cl,V,cl,cl,V,SX,V,tk48⟩ SY
 rintro⟨v1,v7,v14,v15,v16⟩ ⟨al0,ov1,ov14,cv16,i0,i1,i2,i3,i4,i5,i6⟩;subst al0;dsimp only[Z0n,WZ,LT.den];apply tD<;>intro h1
 .refine Tot.ix λx1 h2=>?_;have mh2:=h2.2;have zh2:=ZqP (by assumption:POS a0) (by assumption:SUB v14 a0) mh2;have mh2:=h2.2;apply tD<;>intro h3
  .exact sN
  refine tB (Z4y ov1 cl) λx2 h4=>tB (Z4y ov1 cl) λx3 h5=>?_;apply tD<;>intro h6
  .exact sN
  apply tE<;>intro h7
  .apply tD<;>intro h8
   .exact sN
   exact sN
  exact sN
 exact tR ⟨V,(by exact nx_e V V O)⟩
abbrev ZAy(b0:ak)(r:ak):Prop:=(ct r)/\(r.traits.length=r.s.Objects.length)/\(r.dropped.length=r.s.Objects.length)/\(r.done.length=r.forces.length)/\(r.hits.length=r.forces.length)/\(r.s.Objects.length<=2048)/\(r.forces.length<=16448)/\(HI r.s.Objects.length r.hits)/\(r.s=b0.s)/\(r.forces=b0.forces)/\(r=Z8u b0)
def ZAz(b0:ak):tM->Prop
 |.L0 c0 v10 v11 v12=>(ct c0)/\((SzL 128 (λ_=>True)) v10)/\(0<=v12)/\(c0.traits.length=c0.s.Objects.length)/\(c0.dropped.length=c0.s.Objects.length)/\(c0.done.length=c0.forces.length)/\(c0.hits.length=c0.forces.length)/\(c0.s.Objects.length<=2048)/\(c0.forces.length<=16448)/\(HI c0.s.Objects.length c0.hits)/\(c0.s=b0.s)/\(c0.forces=b0.forces)/\(v11=(v10.length:Int))/\(v11=(c0.s.Objects.length:Int))/\(v10=b0.s.Objects)/\(c0.traits=b0.traits.mapIdx (b9 (im v10) (λ_ t=>t) v12))/\(c0.dropped=b0.dropped)/\(c0.done=b0.done)/\(c0.hits=b0.hits)
def Tx:tM->M6
 |.L0 c0 v10 v11 v12=>(1,(v11-v12).toNat,1000000,0,0,0)
def ZfN{b0:ak}(ob0:ct b0)(h0:b0.traits.length=b0.s.Objects.length)(h1:b0.dropped.length=b0.s.Objects.length)(h2:b0.done.length=b0.forces.length)(h3:b0.hits.length=b0.forces.length)(h4:b0.s.Objects.length<=2048)(h5:b0.forces.length<=16448)(h6:HI b0.s.Objects.length b0.hits):Tot (Eo b0) (ZAy b0):=by
 unfold Eo;refine tX (Inv:=(ZAz b0)) (μ:=Tx) (m:=(1000000,0,0,0,0,0)) ?_ ?_
 .dsimp only[W0,LT.den];have q1:=ob0.1.2.1.1;exact tL ⟨ob0,ob0.1.2.1,cl,cl,cl,cl,cl,cl,cl,bB,cz,cz,cl,cl,aF,tk10,aF,aF,aF⟩ CS
 intro s hs;cases s with
 |L0 c0 v10 v11 v12=>
  obtain⟨oc0,ov10,cv12,i0,i1,i2,i3,i4,i5,i6,i7,i8,i9,i10,i11,i12,i13,i14,i15⟩:=hs;have lb_v10:=ov10.1;show Tot (Ep c0 v10 v11 v12).den _;dsimp only[Ep,LT.den];refine tD (λh1=>?_) (λh1=>?_)
  .refine tB (tI O O) (λx2 h3=>?_);have mh3:=h3.2;refine tB (tI O O) (λx4 h5=>?_);have oh5:bl x4:=oc0.2.2.1.2 x4 h5.1;have mh5:=h5.2;have nh5:=oh5.1;have ah5:=oh5.2.1;have bh5:=oh5.2.2;unfold SzS at nh5;have mh5:=h5.2;refine tE (λh6=>?_) (λh6=>?_)
   .refine tN (λh7=>?_) (λh7=>?_)
    .refine tB (ZzJ) (λx8 h9=>?_);have eh9_0:=h9;refine tB (xO) (λx10 h11=>?_);have eh11_0:=h11;refine tB (xO) (λx12 h13=>?_);have eh13_0:=h13;refine tB (Tot.set O O) (λx14 h15=>?_);have lh15:=h15.1;refine tB (Tot.set2 O O O) (λx16 h17=>?_);have lh17:=h17.1;refine qw (v12+1) λq18 q19=>?_;exact tL ⟨⟨oc0.1,oc0.2.1,⟨lo,λe he=>(h17.2.1 e he).elim (λw=>by rw[w];exact⟨(by unfold SzS;first|omega|(simp only[bm,bw,bW];omega)),szx,szx⟩) ((show SzL 1 bl _ from⟨lo,λe he=>(h15.2.1 e he).elim (λw=>by rw[w];exact⟨oh5.1,oh5.2.1,oh5.2.2⟩) (oc0.2.2.1.2 e)⟩).2 e)⟩,oc0.2.2.2.1,oc0.2.2.2.2.1,oc0.2.2.2.2.2⟩,ov10,cl,cl,cl,cl,cl,cl,cl,bB,cz,cz,cl,cl,aF,tk10,aF,aF,aF⟩ CS
    refine qw (v12+1) λq20 q21=>?_;exact S3
   refine qw (v12+1) λq22 q23=>?_;exact S3
  exact tR ⟨oc0,cl,cl,cl,cl,cl,cl,bB,cz,cz,(by exact cn_e V O V V V V V V V)⟩
def ZAA(b0:ak)(a1:Int)(a2:Int):tP->Prop
 |.L0 v1 v2 E1 v18 v19 v20=>(v1=a1)/\(v2=a2)/\(gq E1)/\((SzL 176 Z7) v18)/\(0<=v20)/\(b0.traits.length=b0.s.Objects.length)/\(b0.dropped.length=b0.s.Objects.length)/\(b0.done.length=b0.forces.length)/\(b0.hits.length=b0.forces.length)/\(b0.s.Objects.length<=2048)/\(b0.forces.length<=16448)/\(HI b0.s.Objects.length b0.hits)/\(ct b0)/\(0<=v1)/\(v1<(b0.forces.length:Int))/\(v19=(v18.length:Int))/\(v18=E1.Mods)/\(b0.forces[v1.toNat]?=some E1)/\((v18.take v20.toNat).any (Z05 v2)=false)
def Tv:tP->M6
 |.L0 v1 v2 E1 v18 v19 v20=>(1,(v19-v20).toNat,1000000,0,0,0)
def ZAB{b0:ak}{a1:Int}{a2:Int}(ob0:ct b0)(h0:b0.traits.length=b0.s.Objects.length)(h1:b0.dropped.length=b0.s.Objects.length)(h2:b0.done.length=b0.forces.length)(h3:b0.hits.length=b0.forces.length)(h4:b0.s.Objects.length<=2048)(h5:b0.forces.length<=16448)(h6:HI b0.s.Objects.length b0.hits)(h7:0<=a1)(h8:a1<(b0.forces.length:Int)):Tot (W3 b0 a1 a2) (λr=>(r=eX b0 a1 a2)):=by
 apply Tot.rn (ZAA b0 a1 a2) Tv
 .dsimp only[W4,LT.den];refine Tot.ix λx1 h1=>?_;have oh1:gq x1:=ob0.2.1.2 x1 h1.1;have mh1:=h1.2;exact tL ⟨rfl,rfl,oh1,oh1.2.2,cl,cl,cl,cl,cl,cl,cl,bB,V,cl,cl,cl,aF,V,tk33⟩ S0
 rintro⟨v1,v2,E1,v18,v19,v20⟩ ⟨al0,al1,O1,ov18,cv20,i0,i1,i2,i3,i4,i5,i6,i7,i8,i9,i10,i11,i12,i13⟩;have lb_v18:=ov18.1;subst al0;subst al1;dsimp only[Et,W5,LT.den];apply tD<;>intro h1
 .refine Tot.ix λx1 h2=>?_;have oh2:Z7 x1:=ov18.2 x1 h2.1;have mh2:=h2.2;apply tE<;>intro h3
  .refine tB (xQ) λx2 h4=>?_;apply tE<;>intro h5
   .refine tB (VS oh2.2) λx3 h6=>?_;apply tF<;>intro h7
    .exact xa
    exact CQ
   exact CQ
  exact CQ
 apply tO<;>intro h2
 .refine Tot.ix λx1 h3=>?_;have mh3:=h3.2;apply tO<;>intro h4
  .apply tE<;>intro h5
   .exact xa
   exact tB (VS O1.2.1) λx2 h6=>tR tk5
  exact xa
 exact xa
def W6{b0:ak}{a1:Int}(ob0:ct b0)(h0:b0.traits.length=b0.s.Objects.length)(h1:b0.dropped.length=b0.s.Objects.length)(h2:b0.done.length=b0.forces.length)(h3:b0.hits.length=b0.forces.length)(h4:b0.s.Objects.length<=2048)(h5:b0.forces.length<=16448)(h6:HI b0.s.Objects.length b0.hits)(h7:0<=a1)(h8:a1<(b0.forces.length:Int))(h9:bU b0.s.Objects):Tot (W7 b0 a1) (λr=>(r=dB b0 a1)):=by
 apply tZ;dsimp only[W8,LT.den];refine Tot.ix λx1 h1=>?_;have mh1:=h1.2;apply tF<;>intro h2
 .exact w9
 refine Tot.ix λx2 h3=>?_;have mh3:=h3.2;apply tF<;>intro h4
 .exact w9
 refine tB (Z7f ob0.1) λx3 h5=>?_;have eh5_0:=h5.1;apply tD<;>intro h6
 .exact w9
 refine Tot.ix λx4 h7=>?_;have mh7:=h7.2;exact w9
def Eu{b0:ak}{a1:Int}(ob0:ct b0)(h0:b0.traits.length=b0.s.Objects.length)(h1:b0.dropped.length=b0.s.Objects.length)(h2:b0.done.length=b0.forces.length)(h3:b0.hits.length=b0.forces.length)(h4:b0.s.Objects.length<=2048)(h5:b0.forces.length<=16448)(h6:HI b0.s.Objects.length b0.hits)(h7:0<=a1)(h8:a1<(b0.forces.length:Int))(h9:bU b0.s.Objects):Tot (W9 b0 a1) (λr=>(r=dv b0 a1)):=by
 apply tZ;dsimp only[Xa,LT.den];refine Tot.ix λx1 h1=>?_;have mh1:=h1.2;refine tB (Z7f ob0.1) λx2 h2=>?_;have eh2_0:=h2.1;apply tO<;>intro h3
 .apply tD<;>intro h4
  .refine Tot.ix λx3 h5=>?_;have mh5:=h5.2;exact CM
  exact CM
 exact CM
abbrev ZAC(b0:ak)(a1:Int)(r:List Int):Prop:=((SzL 8 (λ_=>True)) r)/\(r.length<=b0.s.Objects.length)/\(INR b0.s.Objects.length r)/\(r=cg b0 a1)
def ZAD(b0:ak)(a1:Int):tQ->Prop
 |.L0 E1 v6 v7 v42 v43 v44=>(gq E1)/\((SzL 8 (λ_=>True)) v7)/\((SzL 128 (λ_=>True)) v42)/\(0<=v44)/\(b0.traits.length=b0.s.Objects.length)/\(b0.dropped.length=b0.s.Objects.length)/\(b0.done.length=b0.forces.length)/\(b0.hits.length=b0.forces.length)/\(b0.s.Objects.length<=2048)/\(b0.forces.length<=16448)/\(HI b0.s.Objects.length b0.hits)/\(ct b0)/\(v43=(v42.length:Int))/\(v43=(b0.s.Objects.length:Int))/\(v7.length<=v44.toNat)/\(v44<=v43)/\(INR b0.s.Objects.length v7)/\(v7=zfm (gU b0 E1 v6) (λk _=>k) v42 v44)/\(b0.forces[a1.toNat]?=some E1)/\(v6=dv b0 a1)/\(v42=b0.s.Objects)/\(dB b0 a1=true)/\(bA b0.done a1=false)
def Tu:tQ->M6
 |.L0 E1 v6 v7 v42 v43 v44=>(1,(v43-v44).toNat,1000000,0,0,0)
def Xb{b0:ak}{a1:Int}(ob0:ct b0)(h0:b0.traits.length=b0.s.Objects.length)(h1:b0.dropped.length=b0.s.Objects.length)(h2:b0.done.length=b0.forces.length)(h3:b0.hits.length=b0.forces.length)(h4:b0.s.Objects.length<=2048)(h5:b0.forces.length<=16448)(h6:HI b0.s.Objects.length b0.hits)(h7:0<=a1)(h8:a1<(b0.forces.length:Int))(h9:bU b0.s.Objects):Tot (Xc b0 a1) (ZAC b0 a1):=by
 apply Tot.rn (ZAD b0 a1) Tu
 .dsimp only[Xd,LT.den];refine Tot.ix λx1 h1=>?_;have mh1:=h1.2;apply tF<;>intro h2
  .refine Tot.ix λx2 h3=>?_;have oh3:(SzL 8 (λ_=>True)) x2:=ob0.2.2.2.2.2.2 x2 h3.1;have mh3:=h3.2;exact tR ⟨oh3,C0,tk98,tk23⟩
  refine tB (W6 ob0 cl cl cl cl cl cl bB cl cl cP) λx2 h3=>?_;have eh3_0:=h3;apply tO<;>intro h4
  .exact tR ⟨SzL.nil,C0,tk98,tk23⟩
  refine Tot.ix λx3 h5=>?_;have oh5:gq x3:=ob0.2.1.2 x3 h5.1;have mh5:=h5.2;exact tB (Eu ob0 cl cl cl cl cl cl bB cl cl cP) λx4 h6=>tL ⟨oh5,SzL.nil,ob0.1.2.1,cl,cl,cl,cl,cl,cl,cl,bB,V,cl,cl,cl,cl,tk80,tk3,V,V,aF,aQ,od⟩ CT
 rintro⟨E1,v6,v7,v42,v43,v44⟩ ⟨O1,ov7,ov42,cv44,i0,i1,i2,i3,i4,i5,i6,i7,i8,i9,i10,i11,i12,i13,i14,i15,i16,i17,i18⟩;have lb_v7:=ov7.1;dsimp only[Ew,Xe,LT.den];apply tD<;>intro h1
 .refine Tot.ix λx1 h2=>?_;have mh2:=h2.2;apply tE<;>intro h3
  .apply tF<;>intro h4
   .refine tB (V6 O1.1) λx2 h5=>?_;have eh5_0:=h5;apply tF<;>intro h6
    .refine Tot.ap λx3 h7=>?_;have lh7:=ca h7;exact CU
    apply tO<;>intro h7
    .refine Tot.ix λx3 h8=>?_;have oh8:bl x3:=(asz:ct b0).2.2.1.2 x3 h8.1;have mh8:=h8.2;refine tB (Z4x x1 x3 v6 E1.Source E1.Filter oh8 O1.2.1) λx4 h9=>?_;apply tF<;>intro h10
     .refine Tot.ap λx5 h11=>?_;have lh11:=ca h11;exact CU
     exact sO
    exact sO
   apply tO<;>intro h5
   .refine Tot.ix λx2 h6=>?_;have oh6:bl x2:=(asz:ct b0).2.2.1.2 x2 h6.1;have mh6:=h6.2;refine tB (Z4x x1 x2 v6 E1.Source E1.Filter oh6 O1.2.1) λx3 h7=>?_;apply tF<;>intro h8
    .refine Tot.ap λx4 h9=>?_;have lh9:=ca h9;exact CU
    exact sO
   exact sO
  exact sO
 exact tR ⟨ov7,C0,tk98,tk23⟩
abbrev ZAE(b0:ak)(a1:Int)(a2:Int)(r:List Int):Prop:=((SzL 8 (λ_=>True)) r)/\(ML b0.forces a1 r)/\(r=gd b0 a1 a2)
def ZAF(b0:ak)(a1:Int)(a2:Int):tS->Prop
 |.L0 v1 v2 E1 v8 v23 v24 v25=>(v1=a1)/\(v2=a2)/\(gq E1)/\((SzL 8 (λ_=>True)) v8)/\((SzL 176 Z7) v23)/\(0<=v25)/\(b0.traits.length=b0.s.Objects.length)/\(b0.dropped.length=b0.s.Objects.length)/\(b0.done.length=b0.forces.length)/\(b0.hits.length=b0.forces.length)/\(b0.s.Objects.length<=2048)/\(b0.forces.length<=16448)/\(HI b0.s.Objects.length b0.hits)/\(ct b0)/\(0<=v1)/\(v1<(b0.forces.length:Int))/\(v24=(v23.length:Int))/\(v24=(v8.length:Int))/\(v24=(E1.Mods.length:Int))/\(b0.forces[v1.toNat]?=some E1)/\(v23=E1.Mods)/\(v8=v23.mapIdx (b9 (λ_ m=>gb b0.s b0.traits (dv b0 v1) E1.Source v2 m) (λ_ _=>0) v25))
def Tw:tS->M6
 |.L0 v1 v2 E1 v8 v23 v24 v25=>(1,(v24-v25).toNat,1000000,0,0,0)
def Xf{b0:ak}{a1:Int}{a2:Int}(ob0:ct b0)(h0:b0.traits.length=b0.s.Objects.length)(h1:b0.dropped.length=b0.s.Objects.length)(h2:b0.done.length=b0.forces.length)(h3:b0.hits.length=b0.forces.length)(h4:b0.s.Objects.length<=2048)(h5:b0.forces.length<=16448)(h6:HI b0.s.Objects.length b0.hits)(h7:0<=a1)(h8:a1<(b0.forces.length:Int))(h9:bU b0.s.Objects):Tot (Xg b0 a1 a2) (ZAE b0 a1 a2):=by
 apply Tot.rn (ZAF b0 a1 a2) Tw
 .dsimp only[Xh,LT.den];refine Tot.ix λx1 h1=>?_;have oh1:gq x1:=ob0.2.1.2 x1 h1.1;have mh1:=h1.2;have q1:=oh1.2.2.1;exact tB (Tot.mk) λx2 h2=>tL ⟨rfl,rfl,oh1,SzL.tr,oh1.2.2,cl,cl,cl,cl,cl,cl,cl,bB,V,cl,cl,cl,cl,cl,V,aF,tk9⟩ CR
 rintro⟨v1,v2,E1,v8,v23,v24,v25⟩ ⟨al0,al1,O1,ov8,ov23,cv25,i0,i1,i2,i3,i4,i5,i6,i7,i8,i9,i10,i11,i12,i13,i14,i15⟩;have lb_v8:=ov8.1;have lb_v23:=ov23.1;subst al0;subst al1;dsimp only[Ex,Xi,LT.den];apply tD<;>intro h1
 .refine Tot.ix λx1 h2=>?_;have oh2:Z7 x1:=ov23.2 x1 h2.1;have mh2:=h2.2;apply tE<;>intro h3
  .refine tB (xQ) λx2 h4=>?_;apply tE<;>intro h5
   .refine tB (Eu (asz:ct b0) cl cl cl cl cl cl bB cl cl cP) λx3 h6=>tB (ZzU b0.s b0.traits x3 E1.Source x1.Filter (asz:ct b0).1 (asz:ct b0).2.2.1 oh2.2) λx4 h7=>?_;have eh7_1:=h7.2;refine Tot.ix λx5 h8=>tB (Tot.set O O) λx6 h9=>?_;have q1:=wr (v25+1);exact tL ⟨rfl,rfl,O1,SzL.tr,ov23,cl,cl,cl,cl,cl,cl,cl,bB,V,cl,cl,cl,cl,cl,V,aF,tk9⟩ CR
   exact S1
  exact S1
 exact tR ⟨ov8,(by exact ml_i V O),(by exact nu_e V O V V rfl)⟩
def Xj{b0:ak}{a1:Int}{a2:Int}(ob0:ct b0)(h0:b0.traits.length=b0.s.Objects.length)(h1:b0.dropped.length=b0.s.Objects.length)(h2:b0.done.length=b0.forces.length)(h3:b0.hits.length=b0.forces.length)(h4:b0.s.Objects.length<=2048)(h5:b0.forces.length<=16448)(h6:HI b0.s.Objects.length b0.hits)(h7:0<=a1)(h8:a1<(b0.forces.length:Int))(h9:bU b0.s.Objects):Tot (Xk b0 a1 a2) (λr=>(Z08 r)/\(r=fN b0 a1 a2)):=by apply tZ;dsimp only[Xl,LT.den];refine tB (W6 ob0 cl cl cl cl cl cl bB cl cl cP) λx1 h1=>tB (Xb ob0 cl cl cl cl cl cl bB cl cl cP) λx2 h2=>?_;have eh2_3:=h2.2.2.2;refine tB (Xf ob0 cl cl cl cl cl cl bB cl cl cP) λx3 h3=>?_;have eh3_2:=h3.2.2;exact tR ⟨⟨h2.1,h3.1⟩,(by exact lk_e V V V)⟩
def ZAG{b0:ak}(ob0:ct b0):Tot (Xm b0) (λr=>(ct r)/\(r=b0)):=by apply tZ;dsimp only[Xn,LT.den];have q1:=ob0.2.2.1.1;refine tB (tA U6 bF) λx1 h1=>tB (Wi ob0.2.2.2.1) λx2 h2=>?_;have eh2_1:=h2.2;refine tB (Wi ob0.2.2.2.2.1) λx3 h3=>?_;have eh3_1:=h3.2;have q2:=ob0.2.2.2.2.2.1;exact tB (tA U6 bF) λx4 h4=>tR ⟨⟨ob0.1,ob0.2.1,ob0.2.2.1,h2.1,h3.1,ob0.2.2.2.2.2⟩,C5⟩
abbrev ZAH(b0:ak)(a1:Int)(a2:Int)(r:ak):Prop:=(ct r)/\(r.traits.length=r.s.Objects.length)/\(r.dropped.length=r.s.Objects.length)/\(r.done.length=r.forces.length)/\(r.hits.length=r.forces.length)/\(r.s.Objects.length<=2048)/\(r.forces.length<=16448)/\(HI r.s.Objects.length r.hits)/\(r.s=b0.s)/\(r.forces=b0.forces)/\(r=b7 b0 a1 a2)
def ZAI(b0:ak)(a1:Int)(a2:Int):ph->Prop
 |.L0 c0 v1 v2 v6 v7 v8 v23 v24 v25=>(v1=a1)/\(v2=a2)/\(ct c0)/\((SzL 8 (λ_=>True)) v6)/\((SzL 8 (λ_=>True)) v7)/\((SzL 8 (λ_=>True)) v23)/\(0<=v25)/\(c0.traits.length=c0.s.Objects.length)/\(c0.dropped.length=c0.s.Objects.length)/\(c0.done.length=c0.forces.length)/\(c0.hits.length=c0.forces.length)/\(c0.s.Objects.length<=2048)/\(c0.forces.length<=16448)/\(HI c0.s.Objects.length c0.hits)/\(c0.s=b0.s)/\(c0.forces=b0.forces)/\(0<=v1)/\(v1<(c0.forces.length:Int))/\(v6.length<=c0.s.Objects.length)/\(INR c0.s.Objects.length v6)/\(ML c0.forces v1 v7)/\(v24=(v23.length:Int))/\(INR c0.s.Objects.length v23)/\(c0.traits=TRS b0 v1 v2 v7 v8 v23 v25)/\(c0.dropped=DRS b0 v1 v2 v23 v25)/\(c0.done=b0.done)/\(c0.hits=b0.hits)/\(v6=cg b0 v1)/\(v7=gd b0 v1 v2)/\(v8=dv b0 v1)/\(v23=v6)
 |.L1 c0 v1 v2 v6 v7 v8 v10 v23 v24 v25 v36 v37 v38=>(v1=a1)/\(v2=a2)/\(ct c0)/\((SzL 8 (λ_=>True)) v6)/\((SzL 8 (λ_=>True)) v7)/\((SzL 8 (λ_=>True)) v23)/\((SzL 176 Z7) v36)/\(0<=v38)/\(0<=v25)/\(v25<v24)/\(c0.traits.length=c0.s.Objects.length)/\(c0.dropped.length=c0.s.Objects.length)/\(c0.done.length=c0.forces.length)/\(c0.hits.length=c0.forces.length)/\(c0.s.Objects.length<=2048)/\(c0.forces.length<=16448)/\(HI c0.s.Objects.length c0.hits)/\(c0.s=b0.s)/\(c0.forces=b0.forces)/\(0<=v1)/\(v1<(c0.forces.length:Int))/\(v6.length<=c0.s.Objects.length)/\(INR c0.s.Objects.length v6)/\(ML c0.forces v1 v7)/\(v24=(v23.length:Int))/\(INR c0.s.Objects.length v23)/\(0<=v10)/\(v10<(c0.s.Objects.length:Int))/\(v37=(v36.length:Int))/\(v37=(v7.length:Int))/\(c0.traits=dp (mfS v36 v7 v8 v2 v38) (TRS b0 v1 v2 v7 v8 v23 v25) v10)/\(c0.dropped=dp (drS v36 v2 v38) (DRS b0 v1 v2 v23 v25) v10)/\(c0.done=b0.done)/\(c0.hits=b0.hits)/\(v6=cg b0 v1)/\(v7=gd b0 v1 v2)/\(v8=dv b0 v1)/\(v23=v6)/\(v36=(fAt b0 v1).Mods)/\(v23[v25.toNat]?=some v10)/\(v38<=v37)
def Ty:ph->M6
 |.L0 c0 v1 v2 v6 v7 v8 v23 v24 v25=>(1,(v24-v25).toNat,1000000,0,0,0)
 |.L1 c0 v1 v2 v6 v7 v8 v10 v23 v24 v25 v36 v37 v38=>(1,(v24-v25).toNat,1,(v37-v38).toNat,1000000,0)
def KJ{b0:ak}{a1:Int}{a2:Int}(ob0:ct b0)(h0:b0.traits.length=b0.s.Objects.length)(h1:b0.dropped.length=b0.s.Objects.length)(h2:b0.done.length=b0.forces.length)(h3:b0.hits.length=b0.forces.length)(h4:b0.s.Objects.length<=2048)(h5:b0.forces.length<=16448)(h6:HI b0.s.Objects.length b0.hits)(h7:0<=a1)(h8:a1<(b0.forces.length:Int))(h9:bU b0.s.Objects):Tot (Xo b0 a1 a2) (ZAH b0 a1 a2):=by
 apply Tot.rn (ZAI b0 a1 a2) Ty
 .dsimp only[Xp,LT.den];refine tB (Xb ob0 cl cl cl cl cl cl bB cl cl cP) λx1 h1=>?_;have eh1_1:=h1.2.1;have eh1_2:=h1.2.2.1;have eh1_3:=h1.2.2.2;refine tB (Xf ob0 cl cl cl cl cl cl bB cl cl cP) λx2 h2=>?_;have eh2_1:=h2.2.1;have eh2_2:=h2.2.2;refine tB (Eu ob0 cl cl cl cl cl cl bB cl cl cP) λx3 h3=>?_;have q1:=h1.1.1;exact tL ⟨rfl,rfl,ob0,h1.1,h2.1,h1.1,cl,cl,cl,cl,cl,cl,cl,bB,cz,cz,cl,cl,cl,dS,dS,cl,dS,tk62,tk63,aF,aF,V,V,V,aF⟩ oT
 intro s hs;cases s with
 |L0 c0 v1 v2 v6 v7 v8 v23 v24 v25=>
  obtain⟨al0,al1,oc0,ov6,ov7,ov23,cv25,i0,i1,i2,i3,i4,i5,i6,i7,i8,i9,i10,i11,i12,i13,i14,i15,i16,i17,i18,i19,i20,i21,i22,i23⟩:=hs;have lb_v7:=ov7.1;have lb_v23:=ov23.1;subst al0;subst al1;dsimp only[xY,Xq,LT.den];apply tD<;>intro h1
  .refine Tot.ix λx1 h2=>?_;have mh2:=h2.2;have zh2:=oq (by assumption:INR _ v23) mh2;have mh2:=h2.2;refine Tot.ix λx2 h3=>?_;have oh3:gq x2:=oc0.2.1.2 x2 h3.1;have mh3:=h3.2;have q1:=oh3.2.2.1;exact tL ⟨rfl,rfl,oc0,ov6,ov7,ov23,oh3.2.2,cl,cl,cl,cl,cl,cl,cl,cl,cl,bB,cz,cz,cl,cl,cl,dS,dS,cl,dS,cl,cl,cl,xc,tk17,tk11,aF,aF,V,V,V,aF,xd,V,O⟩ oT
  refine Tot.ix λx1 h2=>tB (Tot.set O O) λx2 h3=>Tot.ix λx3 h4=>?_;have mh4:=h4.2;exact tB (Tot.set O O) λx4 h5=>tR ⟨⟨oc0.1,oc0.2.1,oc0.2.2.1,oc0.2.2.2.1,SzL.tr,⟨lo,λe he=>(h5.2.1 e he).elim (λw=>by rw[w];exact ov6) (oc0.2.2.2.2.2.2 e)⟩⟩,cl,cl,cl,cl,cl,cl,(by first|assumption|exact QM|exact QN (by assumption:(_:Int)=_/\∀y:List Int,y∈_->y=[]).2|exact ZqF V V V (by assumption:_/\(∀e:List Int,e∈_->e=_\/e∈_)/\_).2.1),cz,cz,(by exact ZAJ V V V V V V V V V V V V O)⟩
 |L1 c0 v1 v2 v6 v7 v8 v10 v23 v24 v25 v36 v37 v38=>
  obtain⟨al0,al1,oc0,ov6,ov7,ov23,ov36,cv38,cv25,bd9,i0,i1,i2,i3,i4,i5,i6,i7,i8,i9,i10,i11,i12,i13,i14,i15,i16,i17,i18,i19,i20,i21,i22,i23,i24,i25,i26,i27,i28,i29,i30⟩:=hs;have lb_v7:=ov7.1;have lb_v23:=ov23.1;have lb_v36:=ov36.1;subst al0;subst al1;dsimp only[xY,Xr,LT.den];apply tD<;>intro h1
  .refine Tot.ix λx1 h2=>?_;have oh2:Z7 x1:=ov36.2 x1 h2.1;have mh2:=h2.2;refine tB (xQ) λx2 h3=>?_;apply tN<;>intro h4
   .have q1:=wr (v38+1);exact tL ⟨rfl,rfl,oc0,ov6,ov7,ov23,ov36,cl,cl,cl,cl,cl,cl,cl,cl,cl,bB,cz,cz,cl,cl,cl,dS,dS,cl,dS,cl,cl,cl,xc,tk17,tk11,aF,aF,V,V,V,aF,xd,V,O⟩ oT
   refine Tot.ix λx3 h5=>?_;have oh5:bl x3:=oc0.2.2.1.2 x3 h5.1;have mh5:=h5.2;refine Tot.ix λx4 h6=>?_;have mh6:=h6.2;refine tB (ZAh oh5 oh2) λx5 h7=>?_;have eh7_1:=h7.2;refine tB (Tot.set O O) λx6 h8=>?_;apply tE<;>intro h9
   .refine Tot.ix λx7 h10=>?_;have mh10:=h10.2;refine tB (Tot.set O O) λx8 h11=>?_;have q1:=wr (v38+1);exact tL ⟨rfl,rfl,⟨oc0.1,oc0.2.1,⟨lo,λe he=>(h8.2.1 e he).elim (λw=>by rw[w];exact h7.1) (oc0.2.2.1.2 e)⟩,SzL.tr,oc0.2.2.2.2.1,oc0.2.2.2.2.2⟩,ov6,ov7,ov23,ov36,cl,cl,cl,cl,cl,cl,cl,cl,cl,bB,cz,cz,cl,cl,cl,dS,dS,cl,dS,cl,cl,cl,xc,tk17,tk11,aF,aF,V,V,V,aF,xd,V,O⟩ oT
   have q1:=wr (v38+1);exact tL ⟨rfl,rfl,⟨oc0.1,oc0.2.1,⟨lo,λe he=>(h8.2.1 e he).elim (λw=>by rw[w];exact h7.1) (oc0.2.2.1.2 e)⟩,oc0.2.2.2.1,oc0.2.2.2.2.1,oc0.2.2.2.2.2⟩,ov6,ov7,ov23,ov36,cl,cl,cl,cl,cl,cl,cl,cl,cl,bB,cz,cz,cl,cl,cl,dS,dS,cl,dS,cl,cl,cl,xc,tk17,tk11,aF,aF,V,V,V,aF,xd,V,O⟩ oT
  have q1:=wr (v25+1);exact tL ⟨rfl,rfl,oc0,ov6,ov7,ov23,cl,cl,cl,cl,cl,cl,cl,bB,cz,cz,cl,cl,cl,dS,dS,cl,dS,tk62,tk63,aF,aF,V,V,V,aF⟩ oT
def ZAK(b0:ak)(a1:List Int)(a2:Int):lv->Prop
 |.L0 v2 v7 v27 v28=>(v2=a2)/\((SzL 24 (SzL 1 (λ_=>True))) v7)/\(0<=v28)/\(bU b0.s.Objects)/\(b0.traits.length=b0.s.Objects.length)/\(b0.dropped.length=b0.s.Objects.length)/\(b0.done.length=b0.forces.length)/\(b0.hits.length=b0.forces.length)/\(b0.s.Objects.length<=2048)/\(b0.forces.length<=16448)/\(HI b0.s.Objects.length b0.hits)/\(ct b0)/\(v27=(v7.length:Int))/\(RWV b0.forces.length v7 v28)/\(INR b0.forces.length a1)/\(a1.length<=16448)/\(v7.length=b0.forces.length)/\(FLS v7)
 |.L1 v2 v7 v9 v43 v44=>(v2=a2)/\((SzL 24 (SzL 1 (λ_=>True))) v7)/\(0<=v44)/\(bU b0.s.Objects)/\(b0.traits.length=b0.s.Objects.length)/\(b0.dropped.length=b0.s.Objects.length)/\(b0.done.length=b0.forces.length)/\(b0.hits.length=b0.forces.length)/\(b0.s.Objects.length<=2048)/\(b0.forces.length<=16448)/\(HI b0.s.Objects.length b0.hits)/\(ct b0)/\(v7.length=b0.forces.length)/\(MSZ v9)/\(RWS b0.forces.length v7)/\(v43=(a1.length:Int))/\(INR b0.forces.length a1)/\(FLS v7)/\(MPV b0 v2 a1 v44 v9)/\(POS a1)
 |.L2 v2 v7 v9 v69 v70=>(v2=a2)/\((SzL 24 (SzL 1 (λ_=>True))) v7)/\(0<=v70)/\(bU b0.s.Objects)/\(b0.traits.length=b0.s.Objects.length)/\(b0.dropped.length=b0.s.Objects.length)/\(b0.done.length=b0.forces.length)/\(b0.hits.length=b0.forces.length)/\(b0.s.Objects.length<=2048)/\(b0.forces.length<=16448)/\(HI b0.s.Objects.length b0.hits)/\(ct b0)/\(v7.length=b0.forces.length)/\(MSZ v9)/\(RWS b0.forces.length v7)/\(v69=(a1.length:Int))/\(INR b0.forces.length a1)/\(MPE b0 v2 a1 v9)/\(POS a1)/\(ND2 b0 v2 a1 v70 0 v7)
 |.L3 v2 v7 v9 v14 E1 v69 v70 v81 v82=>(v2=a2)/\((SzL 24 (SzL 1 (λ_=>True))) v7)/\(ct E1)/\(0<=v82)/\(0<=v70)/\(v70<v69)/\(bU b0.s.Objects)/\(b0.traits.length=b0.s.Objects.length)/\(b0.dropped.length=b0.s.Objects.length)/\(b0.done.length=b0.forces.length)/\(b0.hits.length=b0.forces.length)/\(b0.s.Objects.length<=2048)/\(b0.forces.length<=16448)/\(HI b0.s.Objects.length b0.hits)/\(ct b0)/\(v7.length=b0.forces.length)/\(MSZ v9)/\(RWS b0.forces.length v7)/\(v69=(a1.length:Int))/\(v81=(a1.length:Int))/\(INR b0.forces.length a1)/\(0<=v14)/\(v14<(b0.forces.length:Int))/\(E1.forces.length=b0.forces.length)/\(E1.traits.length=E1.s.Objects.length)/\(E1.dropped.length=E1.s.Objects.length)/\(E1.done.length=E1.forces.length)/\(E1.hits.length=E1.forces.length)/\(E1.s.Objects.length<=2048)/\(E1.forces.length<=16448)/\(HI E1.s.Objects.length E1.hits)/\(MPE b0 v2 a1 v9)/\(POS a1)/\(E1=b7 b0 v14 v2)/\(a1[v70.toNat]?=some v14)/\(bU E1.s.Objects)/\(ND2 b0 v2 a1 v70 v82 v7)
def Tt:lv->M6
 |.L0 v2 v7 v27 v28=>(5,(v27-v28).toNat,1000000,0,0,0)
 |.L1 v2 v7 v9 v43 v44=>(3,(v43-v44).toNat,1000000,0,0,0)
 |.L2 v2 v7 v9 v69 v70=>(1,(v69-v70).toNat,1000000,0,0,0)
 |.L3 v2 v7 v9 v14 E1 v69 v70 v81 v82=>(1,(v69-v70).toNat,1,(v81-v82).toNat,1000000,0)
def ZfP{b0:ak}{a1:List Int}{a2:Int}(ob0:ct b0)(oa1:(SzL 8 (λ_=>True)) a1)(h0:b0.traits.length=b0.s.Objects.length)(h1:b0.dropped.length=b0.s.Objects.length)(h2:b0.done.length=b0.forces.length)(h3:b0.hits.length=b0.forces.length)(h4:b0.s.Objects.length<=2048)(h5:b0.forces.length<=16448)(h6:HI b0.s.Objects.length b0.hits)(h7:a1.length<=16448)(h8:INR b0.forces.length a1)(h9:bU b0.s.Objects):Tot (Xs b0 a1 a2) (λr=>((SzL 24 (SzL 1 (λ_=>True))) r)/\(NDM b0 a2 a1 r)):=by
 apply Tot.rn (ZAK b0 a1 a2) Tt
 .dsimp only[Xt,LT.den];exact tB (Tot.mk) λx1 h1=>tL ⟨rfl,⟨lo,λe he=>by rw[h1.2 e he];exact SzL.nil⟩,cl,cP,cl,cl,cl,cl,cl,cl,bB,V,cl,tk75,V,cl,cl,tk85⟩ mL
 intro s hs;cases s with
 |L0 v2 v7 v27 v28=>
  obtain⟨al0,ov7,cv28,i0,i1,i2,i3,i4,i5,i6,i7,i8,i9,i10,i11,i12,i13,i14⟩:=hs;subst al0;dsimp only[pj,Xu,LT.den];apply tD<;>intro h1
  .refine tB (Tot.mk) λx1 h2=>Tot.ix λx2 h3=>tB (Tot.set O O) λx3 h4=>?_;have q1:=wr (v28+1);exact tL ⟨rfl,⟨lo,λe he=>(h4.2.1 e he).elim (λw=>by rw[w];exact SzL.tr) (ov7.2 e)⟩,cl,cP,cl,cl,cl,cl,cl,cl,bB,V,cl,tk75,V,cl,cl,tk85⟩ mL
  exact S4
 |L1 v2 v7 v9 v43 v44=>
  obtain⟨al0,ov7,cv44,i0,i1,i2,i3,i4,i5,i6,i7,i8,i9,i10,i11,i12,i13,i14,i15,i16⟩:=hs;subst al0;dsimp only[pj,Xv,LT.den];apply tD<;>intro h1
  .refine Tot.ix λx1 h2=>?_;have mh2:=h2.2;have zh2:=oq (by assumption:INR b0.forces.length a1) mh2;have yh2:=h2.1;have mh2:=h2.2;refine tB (ZAB (asz:ct b0) cl cl cl cl cl cl bB cl cl) λx2 h3=>?_;apply tF<;>intro h4
   .refine tB (Xj (asz:ct b0) cl cl cl cl cl cl bB cl cl cP) λx3 h5=>?_;have eh5_1:=h5.2;have sh5:SZV x3:=h5.1;refine tB (Tot.lk) λx4 h6=>?_;exact S5
   exact S5
  apply tE<;>intro h2
  .exact CF
  apply tD<;>intro h3
  .exact CF
  exact S2
 |L2 v2 v7 v9 v69 v70=>
  obtain⟨al0,ov7,cv70,i0,i1,i2,i3,i4,i5,i6,i7,i8,i9,i10,i11,i12,i13,i14,i15,i16⟩:=hs;subst al0;dsimp only[pj,Xw,LT.den];apply tD<;>intro h1
  .refine Tot.ix λx1 h2=>?_;have mh2:=h2.2;have zh2:=oq (by assumption:INR b0.forces.length a1) mh2;have yh2:=h2.1;have mh2:=h2.2;refine tB (ZAG (asz:ct b0)) λx2 h3=>?_;have eh3_1:=h3.2;have uh3_0:x2.traits.length=x2.s.Objects.length:=by rw[eh3_1];assumption
   have uh3_1:x2.dropped.length=x2.s.Objects.length:=iw
   have uh3_2:x2.done.length=x2.forces.length:=iw
   have uh3_3:x2.hits.length=x2.forces.length:=iw
   have uh3_4:x2.s.Objects.length<=2048:=iw
   have uh3_5:x2.forces.length<=16448:=iw
   have uh3_6:HI x2.s.Objects.length x2.hits:=iw
   have uh5_f:x2.forces.length=b0.forces.length:=by rw[eh3_1]
   have uh5_o:bU x2.s.Objects:=iw
   refine tB (KJ h3.1 cl cl cl cl cl cl bB cl cl cP) λx3 h4=>?_;have eh4_1:=h4.2.1;have eh4_2:=h4.2.2.1;have eh4_3:=h4.2.2.2.1;have eh4_4:=h4.2.2.2.2.1;have eh4_5:=h4.2.2.2.2.2.1;have eh4_6:=h4.2.2.2.2.2.2.1;have eh4_7:=h4.2.2.2.2.2.2.2.1;have eh4_8:=h4.2.2.2.2.2.2.2.2.1;have eh4_10:=h4.2.2.2.2.2.2.2.2.2.2;exact tL ⟨rfl,ov7,h4.1,cl,cl,cl,cP,cl,cl,cl,cl,cl,cl,bB,V,cl,tk88,tk67,cl,cl,V,cl,cl,dI,cl,cl,cl,cl,cl,cl,bB,V,jf,CV,V,cP,tk2⟩ mL
  exact CF
 |L3 v2 v7 v9 v14 E1 v69 v70 v81 v82=>
  obtain⟨al0,ov7,O1,cv82,cv70,bd5,i0,i1,i2,i3,i4,i5,i6,i7,i8,i9,i10,i11,i12,i13,i14,i15,i16,i17,i18,i19,i20,i21,i22,i23,i24,i25,i26,i27,i28,i29,i30⟩:=hs;subst al0;dsimp only[pj,Xx,LT.den];apply tD<;>intro h1
  .refine Tot.ix λx1 h2=>?_;have mh2:=h2.2;have zh2:=oq (by assumption:INR b0.forces.length a1) mh2;have yh2:=h2.1;have mh2:=h2.2;refine tB (Tot.lk) λx2 h3=>?_;apply tF<;>intro h4
   .apply tN<;>intro h5
    .refine Tot.ix λx3 h6=>?_;have oh6:(SzL 1 (λ_=>True)) x3:=ov7.2 x3 h6.1;have mh6:=h6.2;(first|have wh6:=Z4e (by assumption:RWS _ v7) mh6|skip);have mh6:=h6.2;refine tB (Xj O1 cl cl cl cl cl cl bB cl cl cP) λx4 h7=>?_;have eh7_1:=h7.2;refine tB (Z1t szx h7.1) λx5 h8=>Tot.ix λx6 h9=>?_;have mh9:=h9.2;refine tB (Tot.setM) λx7 h10=>?_;have lh10:x7.length=v7.length:=by rw[h10,ez]
     have q1:=wr (v82+1);exact tL ⟨rfl,SzL.setM h10 ov7 oh6,O1,cl,cl,cl,cP,cl,cl,cl,cl,cl,cl,bB,V,cl,tk88,tk67,cl,cl,V,cl,cl,dI,cl,cl,cl,cl,cl,cl,bB,V,jf,CV,V,cP,tk2⟩ mL
    exact S8
   exact S8
  have q1:=wr (v70+1);exact S2
def Xy{a0:Int}{a1:Int}:Tot (Xz a0 a1) (λr=>(r = !neI a1 a0)):=by apply tZ;dsimp only[XA,LT.den];exact tR (by simp[neI])
def ZAL(a0:List Int)(a1:Int):tT->Prop
 |.L0 v0 w1_0 v7 v8=>(v0=a0)/\(w1_0=a1)/\((SzL 8 (λ_=>True)) v0)/\(0<=v8)/\(v7=(v0.length:Int))/\(∀(k:Nat) x,(k:Int)<v8->v0[k]?=some x->neI w1_0 x=true)
def Tl:tT->M6
 |.L0 v0 w1_0 v7 v8=>(1,(v7-v8).toNat,1000000,0,0,0)
def ZAM{a0:List Int}{a1:Int}(oa0:(SzL 8 (λ_=>True)) a0):Tot (XB a0 a1) (λr=>(FD a0 (neI a1) r)):=by
 apply Tot.rn (ZAL a0 a1) Tl
 .dsimp only[XC,LT.den];exact tL ⟨rfl,rfl,oa0,cl,cl,tk72⟩ tk99
 rintro⟨v0,w1_0,v7,v8⟩ ⟨al0,al1,ov0,cv8,i0,i1⟩;have lb_v0:=ov0.1;subst al0;subst al1;dsimp only[Ey,XD,LT.den];apply tD<;>intro h1
 .refine Tot.ix λx1 h2=>?_;have mh2:=h2.2;refine tB (Xy) λx2 h3=>?_;apply tF<;>intro h4
  .exact Si
  have q1:=wr (v8+1);exact tL ⟨rfl,rfl,ov0,cl,cl,tk72⟩ tk99
 exact Si
def ZAN(b0:List Int)(a1:Int):tU->Prop
 |.L0 v0 w1_0 v5 v6=>(w1_0=a1)/\((SzL 8 (λ_=>True)) v0)/\(0<=v6)/\(DI b0 v0 (neI w1_0) v5 v6)/\(v6<=(v0.length:Int))
def Tj:tU->M6
 |.L0 v0 w1_0 v5 v6=>(1,((v0.length:Int)-v6).toNat,1000000,0,0,0)
def ZfS{b0:List Int}{a1:Int}(ob0:(SzL 8 (λ_=>True)) b0):Tot (XF b0 a1) (λr=>((SzL 8 (λ_=>True)) r)/\(r=b0.filter (neI a1))):=by
 apply Tot.rn (ZAN b0 a1) Tj
 .have lb_b0:=ob0.1;dsimp only[XG,LT.den];refine tB (ZAM ob0) λx1 h1=>?_;have eh1_0:=h1;have ph1:=ZjR eh1_0;apply tE<;>intro h2
  .exact tR ⟨ob0,tk51⟩
  have q1:=wr (x1+1);exact tL ⟨rfl,ob0,cl,tk22,cl⟩ tk94
 rintro⟨v0,w1_0,v5,v6⟩ ⟨al0,ov0,cv6,i0,i1⟩;have lb_v0:=ov0.1;subst al0;dsimp only[Ez,XH,LT.den];have l0:=i0.1;have l1:=i0.2.1;have l2:=i0.2.2.1;apply tD<;>intro h1
 .refine Tot.ix λx1 h2=>?_;have mh2:=h2.2;refine tB (Xy) λx2 h3=>?_;apply tO<;>intro h4
  .refine Tot.ix λx3 h5=>tB (Tot.set O O) λx4 h6=>?_;have q1:=wr (v5+1);have q2:=wr (v6+1);exact tL ⟨rfl,SzL.tr,cl,tk22,cl⟩ tk94
  have q1:=wr (v6+1);exact tL ⟨rfl,ov0,cl,tk22,cl⟩ tk94
 refine tB (Tot.clr O O) λx1 h2=>?_;have vh2:=h2.2.2;refine tB (Tot.slice O O O) λx2 h3=>?_;have vh3:=h3.2.2;exact tR ⟨SzL.tr,tk51⟩
end Go.PW
