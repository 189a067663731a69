import Derived.Test.YtchddhcajpagjaaGreatQX
set_option linter.all false
set_option maxRecDepth 100000
namespace Go.PW
def Zij(a0:List an)(a1:ao):lX->Prop
 |.L0 v0 E0 v5 v13 v14 v15=>(v0=a0)/\(E0=a1)/\((SzL 176 bR) v0)/\(Z8 E0)/\((SzL 224 gk) v5)/\((SzL 128 (λ_=>True)) v13)/\(0<=v15)/\(E0.Objects.length<=2048)/\(E0.Conts.length<=64)/\(∀c,c∈v0->c.Abilities.length<=8)/\(v5=obF fL v0 v13 v15)/\(v13=E0.Objects)/\(v14=(v13.length:Int))/\(v15<=v14)
 |.L1 v0 E0 v5 E1 v13 v14 v15 v25 v26 v27=>(v0=a0)/\(E0=a1)/\((SzL 176 bR) v0)/\(Z8 E0)/\((SzL 224 gk) v5)/\((SzL 128 (λ_=>True)) v13)/\((SzL 640 cz) v25)/\(0<=v27)/\(0<=v15)/\(v15<v14)/\(E0.Objects.length<=2048)/\(E0.Conts.length<=64)/\(∀c,c∈v0->c.Abilities.length<=8)/\(v5=obF fL v0 v13 v15++abF (fL E1) v25 v27)/\(E1.Zone=0)/\(v13[v15.toNat]?=some E1)/\(v25=(baV v0 E1).Abilities)/\(v13=E0.Objects)/\(v14=(v13.length:Int))/\(v15<v14)/\(v26=(v25.length:Int))/\(v27<=v26)
 |.L2 v5 v54 v55 v56=>((SzL 224 gk) v5)/\((SzL 80 n6) v54)/\(0<=v56)/\(∀c,c∈a0->c.Abilities.length<=8)/\(a1.Objects.length<=2048)/\(a1.Conts.length<=64)/\(v5=obF fL a0 a1.Objects a1.Objects.length++coF gL v54 v56)/\(v54=a1.Conts)/\(v55=(v54.length:Int))/\(v56<=v55)
def Z63:lX->M6
 |.L0 v0 E0 v5 v13 v14 v15=>(3,(v14-v15).toNat,1000000,0,0,0)
 |.L1 v0 E0 v5 E1 v13 v14 v15 v25 v26 v27=>(3,(v14-v15).toNat,1,(v26-v27).toNat,1000000,0)
 |.L2 v5 v54 v55 v56=>(1,(v55-v56).toNat,1000000,0,0,0)
def Zik{a0:List an}{a1:ao}(oa0:(SzL 176 bR) a0)(oa1:Z8 a1)(h0:a1.Objects.length<=2048)(h1:a1.Conts.length<=64)(h2:∀c,c∈a0->c.Abilities.length<=8):Tot (Z29 a0 a1) (λr=>((SzL 224 gk) r)/\(r=FS fL gL a0 a1)):=by
 apply Tot.rn (Zij a0 a1) Z63
 .dsimp only[Z90,LT.den];exact tL ⟨rfl,rfl,oa0,oa1,SzL.nil,oa1.2.1,cl,cl,cl,bO,tk35,Z6,cs⟩ mI
 intro s hs;cases s with
 |L0 v0 E0 v5 v13 v14 v15=>
  obtain⟨al0,al1,ov0,O0,ov5,ov13,cv15,i0,i1,i2,i3,i4,i5,i6⟩:=hs;have lb_v5:=ov5.1;have lb_v13:=ov13.1;subst al0;subst al1;dsimp only[qH,Z5z,LT.den];have lq:v5.length<=8*2048:=by rw[(by assumption:v5=obF _ _ _ _)];have:=ma (f:=fL) (l:=v13) (v:=v15) (by assumption:∀c,c∈v0->_);have:v13.length<=2048:=R3;omega
  apply tD<;>intro h1
  .refine Tot.ix λx1 h2=>?_;have mh2:=h2.2;apply tN<;>intro h3
   .exact Rc
   refine tB (SY ov0) λx2 h4=>?_;have q1:=h4.1.2.2.1;exact tL ⟨rfl,rfl,ov0,O0,ov5,ov13,h4.1.2.2,cl,cl,cl,cl,cl,bO,tk14,cl,V,bO,V,cs⟩ mI
  have q1:=O0.2.2.2.2.2.2.1.1;exact tL ⟨ov5,O0.2.2.2.2.2.2.1,cl,bO,cl,cl,tk28,Cy,cs⟩ mI
 |L1 v0 E0 v5 E1 v13 v14 v15 v25 v26 v27=>
  obtain⟨al0,al1,ov0,O0,ov5,ov13,ov25,cv27,cv15,bd9,i0,i1,i2,i3,i4,i5,i6,i7,i8,i9,i10,i11⟩:=hs;have lb_v5:=ov5.1;have lb_v13:=ov13.1;have lb_v25:=ov25.1;subst al0;subst al1;dsimp only[qH,Z50,LT.den];have lq:v5.length<=8*2048+8:=by rw[(by assumption:v5=obF _ _ _ _++_),bk];have:=ma (f:=fL) (l:=v13) (v:=v15) (by assumption:∀c,c∈v0->_);have:v13.length<=2048:=R3;have:=zP (f:=fL E1) (l:=v25) (v:=v27);have:=zQ (by assumption:∀c,c∈v0->_) E1;rw[<- (by assumption:v25=(baV v0 E1).Abilities)]at this;omega
  apply tD<;>intro h1
  .refine Tot.ix λx1 h2=>?_;have oh2:cz x1:=ov25.2 x1 h2.1;have mh2:=h2.2;apply tE<;>intro h3
   .refine tB (oT oh2.2.1) λx2 h4=>?_;have eh4_1:=h4.2;have q1:=ov5.1;refine Tot.ap λx3 h5=>?_;have lh5:=b7 h5;have q2:=wr (v27+1);exact tL ⟨rfl,rfl,ov0,O0,SzL.app (k:=224) h5 lo ov5.2 (me1 ⟨SzL.nil,oh2.1,h4.1⟩),ov13,ov25,cl,cl,cl,cl,cl,bO,tk14,cl,V,bO,V,cs⟩ mI
   have q1:=wr (v27+1);exact tL ⟨rfl,rfl,ov0,O0,ov5,ov13,ov25,cl,cl,cl,cl,cl,bO,tk14,cl,V,bO,V,cs⟩ mI
  exact Rc
 |L2 v5 v54 v55 v56=>
  obtain⟨ov5,ov54,cv56,i0,i1,i2,i3,i4,i5,i6⟩:=hs;have lb_v5:=ov5.1;have lb_v54:=ov54.1;dsimp only[qH,Z51,LT.den];have lq:v5.length<=8*2048+64:=by rw[(by assumption:v5=obF _ _ _ _++_),bk];have:=ma (f:=fL) (l:=a1.Objects) (v:=a1.Objects.length) (by assumption:∀c,c∈a0->_);have:(coF gL v54 v56).length<=64:=(by unfold coF;rw[cK,eT];have:v54.length<=64:=(by first|omega|(rw[(by assumption:v54=_)];omega));omega);omega
  apply tD<;>intro h1
  .refine Tot.ix λx1 h2=>?_;have oh2:n6 x1:=ov54.2 x1 h2.1;have mh2:=h2.2;refine tB (Zhu oh2.1) λx2 h3=>?_;have eh3_1:=h3.2;refine tB (oT oh2.2) λx3 h4=>?_;have eh4_1:=h4.2;have q1:=ov5.1;refine Tot.ap λx4 h5=>?_;have lh5:=b7 h5;have q2:=wr (v56+1);exact tL ⟨SzL.app (k:=224) h5 lo ov5.2 (me1 ⟨h3.1,SzS.nil,h4.1⟩),ov54,cl,bO,cl,cl,tk28,Cy,cs⟩ mI
  exact Kv
abbrev Zil(a0:List an)(a1:ao)(r:ak):Prop:=(cj r)/\(r.s=a1)/\(r.traits.length=r.s.Objects.length)/\(r.dropped.length=r.s.Objects.length)/\(r.done.length=r.forces.length)/\(r.hits.length=r.forces.length)/\(r.s.Objects.length<=2048)/\(r.forces.length<=16448)/\(HI r.s.Objects.length r.hits)/\(r=begV a0 a1)
def Zim(a0:List an)(a1:ao):s5->Prop
 |.L0 v0 E0 v19 v20 v21=>(v0=a0)/\((SzL 176 bR) v0)/\(cj E0)/\((SzL 128 (λ_=>True)) v19)/\(0<=v21)/\(∀c,c∈v0->c.Abilities.length<=8)/\(E0.s=a1)/\(v20=(v19.length:Int))/\(v20=(E0.s.Objects.length:Int))/\(v20<=2048)/\(E0.forces.length<=16448)/\(E0.dropped.length=v20.toNat)/\(E0.traits.length=v21.toNat)/\(v21<=v20)/\(v19=a1.Objects)/\(E0.traits=(v19.take v21.toNat).map (baV v0))/\(E0.forces=FS fL gL v0 a1)/\(E0.dropped=List.replicate a1.Objects.length false)
def TA:s5->M6
 |.L0 v0 E0 v19 v20 v21=>(1,(v20-v21).toNat,1000000,0,0,0)
def Zbz{a0:List an}{a1:ao}(oa0:(SzL 176 bR) a0)(oa1:Z8 a1)(h0:a1.Objects.length<=2048)(h1:a1.Conts.length<=64)(h2:∀c,c∈a0->c.Abilities.length<=8):Tot (TT a0 a1) (Zil a0 a1):=by
 apply Tot.rn (Zim a0 a1) TA
 .dsimp only[TU,LT.den];refine tB (Zik oa0 oa1 cl cl bO) λx1 h1=>?_;have eh1_1:=h1.2;have lh1:=KC (f:=fL) (g:=gL) (s:=a1) (by assumption:∀c,c∈a0->_);rw[<- (by assumption:x1=FS _ _ _ _)]at lh1;exact tB (Tot.mk) λx2 h2=>tL ⟨rfl,oa0,⟨oa1,h1.1,SzL.nil,SzL.tr,SzL.nil,SzL.nil⟩,oa1.2.1,cl,bO,Z6,cl,cl,cl,cl,cl,cl,cl,Z6,tk68,V,Tx⟩ Tz
 rintro⟨v0,E0,v19,v20,v21⟩ ⟨al0,ov0,O0,ov19,cv21,i0,i1,i2,i3,i4,i5,i6,i7,i8,i9,i10,i11,i12⟩;subst al0;dsimp only[Dn,Z91,LT.den];apply tD<;>intro h1
 .refine Tot.ix λx1 h2=>?_;have mh2:=h2.2;refine tB (SY ov0) λx2 h3=>?_;have eh3_1:=h3.2;have q1:=O0.2.2.1.1;refine Tot.ap λx3 h4=>?_;have lh4:=b7 h4;have q2:=wr (v21+1);exact tL ⟨rfl,ov0,⟨O0.1,O0.2.1,SzL.app (k:=176) h4 lo O0.2.2.1.2 (me1 h3.1),O0.2.2.2.1,O0.2.2.2.2.1,O0.2.2.2.2.2⟩,ov19,cl,bO,Z6,cl,cl,cl,cl,cl,cl,cl,Z6,tk68,V,Tx⟩ Tz
 exact tB (Tot.mk) λx1 h2=>tB (Tot.mk) λx2 h3=>tR ⟨⟨O0.1,O0.2.1,O0.2.2.1,O0.2.2.2.1,SzL.tr,⟨lo,λe he=>by rw[h3.2 e he];exact SzL.nil⟩⟩,Z6,cl,cl,cl,cl,cl,cl,bu,(by exact bg_e V O V V V V V V)⟩
def ln{a0:Int}:Tot (Z54 a0) (λr=>(r=clV a0)):=by apply tZ;dsimp only[Z7z,LT.den];exact tR (by rfl)
def Zin{a0:Int}{a1:Int}:Tot (TV a0 a1) (λr=>(r=suV a0 a1)):=by apply tZ;dsimp only[TW,LT.den];refine tB (ln) λx1 h1=>tB (ln) λx2 h2=>?_;have q1:=wr (x1-x2);exact tB (ln) λx3 h3=>tR (by unfold suV;grind)
def Zio{a0:A3 Int}:Tot (TX a0) (λr=>(r=pwV a0)):=by apply tZ;dsimp only[Z55,LT.den];refine tB (tI O u7) λx1 h1=>?_;have mh1:=h1.2;refine tB (tI O u7) λx2 h2=>?_;have mh2:=h2.2;exact tB (Zin) λx3 h3=>tR KJ
def xz{a0:Int}{a1:Int}:Tot (wk a0 a1) (λr=>(r=adV a0 a1)):=by apply tZ;dsimp only[BG,LT.den];refine tB (ln) λx1 h1=>tB (ln) λx2 h2=>?_;have q1:=wr (x1+x2);exact tB (ln) λx3 h3=>tR (by unfold adV;grind)
def mV(a0:Int):mW->Prop
 |.L0 v0 v3 v6=>(v3=a0)/\(v3=v0)/\(v6=true↔2<=v3/\v3<=5)/\(v3≠1)
 |.L1 v0 v3 v11=>(v3=a0)/\(v3=v0)/\(v11=true↔v3=6\/v3=7)/\(v3<1\/5<v3)
 |.L2 v0 v3 v14=>(v3=a0)/\(v3=v0)/\(v14=true↔8<=v3/\v3<=10)/\(v3<1\/7<v3)
def xA:mW->M6
 |.L0 v0 v3 v6=>(0,0,0,0,0,0)
 |.L1 v0 v3 v11=>(0,0,0,0,0,0)
 |.L2 v0 v3 v14=>(0,0,0,0,0,0)
def Z4h{a0:Int}{v0:Int}{v3:Int}{v14:Bool}(h:(mV a0) (.L2 v0 v3 v14)):Tot (oZ v0 v3 v14).den (Nx (mV a0) xA (0,0,0,0,0,0) (λr=>(r=stV a0))):=by
 obtain⟨al0,i0,i1,i2⟩:=h;subst al0;dsimp only[oZ,LT.den];apply tF<;>intro h1
 .exact gm
 apply tE<;>intro h2
 .exact wH
 apply tE<;>intro h3
 .exact wH
 apply tE<;>intro h4
 .exact wH
 apply tE<;>intro h5
 .exact wH
 exact gm
def Z4i{a0:Int}{v0:Int}{v3:Int}{v11:Bool}(h:(mV a0) (.L1 v0 v3 v11)):Tot (s6 v0 v3 v11).den (Nx (mV a0) xA (0,0,0,0,0,0) (λr=>(r=stV a0))):=by
 obtain⟨al0,i0,i1,i2⟩:=h;subst al0;dsimp only[s6,LT.den];apply tF<;>intro h1
 .exact gm
 apply tE<;>intro h2
 .exact BY
 apply tE<;>intro h3
 .exact BY
 exact BY
def Z4j{a0:Int}{v0:Int}{v3:Int}{v6:Bool}(h:(mV a0) (.L0 v0 v3 v6)):Tot (mX v0 v3 v6).den (Nx (mV a0) xA (0,0,0,0,0,0) (λr=>(r=stV a0))):=by
 obtain⟨al0,i0,i1,i2⟩:=h;subst al0;dsimp only[mX,LT.den];apply tF<;>intro h1
 .exact gm
 apply tE<;>intro h2
 .exact P6
 exact P6
def xB{a0:Int}:Tot (TY a0) (λr=>(r=stV a0)):=by
 apply Tot.rn (mV a0) xA
 .dsimp only[TZ,LT.den];apply tE<;>intro h1
  .exact gm
  apply tE<;>intro h2
  .exact wE
  apply tE<;>intro h3
  .exact wE
  apply tE<;>intro h4
  .exact wE
  exact wE
 intro s hs;cases s with
 |L0 _ _ _=>exact Z4j hs
 |L1 _ _ _=>exact Z4i hs
 |L2 _ _ _=>exact Z4h hs
def Z4k{a0:af}{b0:Int}(oa0:bC a0):Tot (T0 a0 b0) (λr=>(r=(stV a0.Kind==b0))):=by apply tZ;dsimp only[T4,LT.den];exact tB (xB) λx1 h1=>tR cx
def Ziq(a0:List af)(b0:Int):s7->Prop
 |.L0 v0 c0 v7 v8=>(v0=a0)/\(c0=b0)/\((SzL 176 bC) v0)/\(0<=v8)/\(v7=(v0.length:Int))/\((v0.take v8.toNat).any (λm=>stV m.Kind==c0)=false)
def RH:s7->M6
 |.L0 v0 c0 v7 v8=>(1,(v7-v8).toNat,1000000,0,0,0)
def Zir{a0:List af}{b0:Int}(oa0:(SzL 176 bC) a0):Tot (T5 a0 b0) (λr=>(decide (r.1>=0)=a0.any (λm=>stV m.Kind==b0))):=by
 apply Tot.rn (Ziq a0 b0) RH
 .dsimp only[T6,LT.den];exact tL ⟨rfl,rfl,oa0,cl,cl,tk79⟩ RG
 rintro⟨v0,c0,v7,v8⟩ ⟨al0,al1,ov0,cv8,i0,i1⟩;have lb_v0:=ov0.1;subst al0;subst al1;dsimp only[Dp,T7,LT.den];apply tD<;>intro h1
 .refine Tot.ix λx1 h2=>?_;have oh2:bC x1:=ov0.2 x1 h2.1;have mh2:=h2.2;refine tB (Z4k oh2) λx2 h3=>?_;apply tF<;>intro h4
  .exact QC
  have q1:=wr (v8+1);exact tL ⟨rfl,rfl,ov0,cl,cl,tk79⟩ RG
 exact QC
def Zis{a0:List af}{b0:Int}(oa0:(SzL 176 bC) a0):Tot (T8 a0 b0) (λr=>(r.1=a0.any (λm=>stV m.Kind==b0))):=by apply tZ;dsimp only[T9,LT.den];exact tB (Zir oa0) λx1 h1=>tR V
def Zaq{a0:Z2}{a1:Int}(oa0:gk a0):Tot (Ua a0 a1) (λr=>(r=belB a0 a1)):=by apply tZ;dsimp only[Z57,LT.den];exact tB (Zis oa0.2.2) λx1 h1=>tR V
def Dq(a0:al)(a1:Int):s8->Prop
 |.L0 v1 E0 v5=>(E0=a0)/\(v1=a1)/\(da E0)/\(v5=true↔E0.Power.Kind≠0\/E0.Tough.Kind≠0)
def Ub:s8->M6
 |.L0 v1 E0 v5=>(0,0,0,0,0,0)
def Pv{a0:al}{a1:Int}{v1:Int}{E0:al}{v5:Bool}(h:(Dq a0 a1) (.L0 v1 E0 v5)):Tot (s9 v1 E0 v5).den (Nx (Dq a0 a1) Ub (0,0,0,0,0,0) (λr=>(r=fb a0 a1))):=by
 obtain⟨al0,al1,O0,i0⟩:=h;subst al0;subst al1;dsimp only[s9,LT.den];apply tE<;>intro h1
 .exact mC
 apply tE<;>intro h2
 .apply tN<;>intro h3
  .exact mC
  apply tO<;>intro h4
  .exact mC
  exact mC
 apply tE<;>intro h3
 .exact mC
 apply tE<;>intro h4
 .exact mC
 exact mC
def Uc{a0:al}{a1:Int}(oa0:da a0):Tot (Z59 a0 a1) (λr=>(r=fb a0 a1)):=by
 apply Tot.rn (Dq a0 a1) Ub
 .dsimp only[Z1m,LT.den];apply tN<;>intro h1
  .exact Pu
  exact Pu
 intro s hs;cases s with
 |L0 _ _ _=>exact Pv hs
def Ud{a0:Int}:Tot (Z92 a0) (λr=>(r=false)):=by apply tZ;dsimp only[Z3b,LT.den];exact tR ax
def Zit{a0:Int}{a1:Int}:Tot (Z3d a0 a1) (λr=>((r = -1/\a0<a1)\/(r=1/\a1<a0)\/(r=0/\a0=a1))):=by
 apply tZ;dsimp only[Ue,LT.den];refine tB (Ud) λx1 h1=>tB (Ud) λx2 h2=>?_;apply tF<;>intro h3
 .apply tF<;>intro h4
  .exact oI
  exact oI
 apply tF<;>intro h4
 .exact oI
 apply tD<;>intro h5
 .exact oI
 apply tD<;>intro h6
 .exact oI
 exact oI
def Z1s{a0:aj}{a1:Int}:Tot (Uf a0 a1) (λr=>((r = -1/\a0.Id<a1)\/(r=1/\a1<a0.Id)\/(r=0/\a0.Id=a1))):=by apply tZ;dsimp only[Z6a,LT.den];exact tB (Zit) λx1 h1=>tR V
abbrev Ziu(a0:List aj)(a1:Int)(r:Int×Bool):Prop:=(BSP a0 a1 r)/\(0<=r.1)/\(r.1<=(a0.length:Int))/\(r.2=true->r.1<(a0.length:Int))
def Ziv(a0:List aj)(a1:Int):ta->Prop
 |.L0 v0 v1 v8 v9 v10=>(v0=a0)/\(v1=a1)/\((SzL 128 (λ_=>True)) v0)/\(0<=v9)/\(v8=(v0.length:Int))/\(v9<=v10)/\(v10<=v8)/\(BSI v0 v1 v9 v10)
def RE:ta->M6
 |.L0 v0 v1 v8 v9 v10=>(1,(v10-v9).toNat,1000000,0,0,0)
def Ziw{a0:List aj}{a1:Int}(oa0:(SzL 128 (λ_=>True)) a0):Tot (Ug a0 a1) (Ziu a0 a1):=by
 apply Tot.rn (Ziv a0 a1) RE
 .have lb_a0:=oa0.1;dsimp only[Uh,LT.den];exact tL ⟨rfl,rfl,oa0,cl,cl,cl,cl,tk40⟩ tk88
 rintro⟨v0,v1,v8,v9,v10⟩ ⟨al0,al1,ov0,cv9,i0,i1,i2,i3⟩;have lb_v0:=ov0.1;subst al0;subst al1;dsimp only[Dr,Ui,LT.den];have lm:=Zep (i:=v9) (j:=v10) (n:=v8) O O O O;apply tD<;>intro h1
 .have q1:=wr (v9+v10);have q2:=wr (shrI .u64 (IntKind.wrap .u64 (IntKind.wrap .i64 (v9+v10))) 1);refine Tot.ix λx1 h2=>?_;have mh2:=h2.2;refine tB (Z1s) λx2 h3=>?_;apply tD<;>intro h4
  .have q3:=wr ((IntKind.wrap .i64 (shrI .u64 (IntKind.wrap .u64 (IntKind.wrap .i64 (v9+v10))) 1))+1);exact QZ
  exact QZ
 apply tD<;>intro h2
 .refine Tot.ix λx1 h3=>?_;have mh3:=h3.2;exact tB (Z1s) λx2 h4=>tR ⟨tk60,cl,cl,RQ⟩
 exact tR ⟨tk60,cl,cl,RQ⟩
def Z64{a0:ao}{a1:Int}(oa0:Z8 a0):Tot (Uj a0 a1) (λr=>(bU a0.Objects->r=ixO a0.Objects a1)/\(-1<=r)/\(r<(a0.Objects.length:Int))):=by
 apply tZ;dsimp only[Uk,LT.den];refine tB (Ziw oa0.2.1) λx1 h1=>?_;have eh1_0:=h1.1;apply tO<;>intro h2
 .exact QI
 exact QI
def Zix(a0:List Int)(a1:Int):tb->Prop
 |.L0 v0 v1 v7 v8=>(v0=a0)/\(v1=a1)/\((SzL 8 (λ_=>True)) v0)/\(0<=v8)/\(v7=(v0.length:Int))/\(∀(k:Nat) y,(k:Int)<v8->v0[k]?=some y->y≠v1)
def RZ:tb->M6
 |.L0 v0 v1 v7 v8=>(1,(v7-v8).toNat,1000000,0,0,0)
def Ds{a0:List Int}{a1:Int}(oa0:(SzL 8 (λ_=>True)) a0):Tot (Ul a0 a1) (λr=>(-1<=r)/\(r<(a0.length:Int))/\(r=ixI a0 a1)):=by
 apply Tot.rn (Zix a0 a1) RZ
 .dsimp only[Um,LT.den];exact tL ⟨rfl,rfl,oa0,cl,cl,tk37⟩ RY
 rintro⟨v0,v1,v7,v8⟩ ⟨al0,al1,ov0,cv8,i0,i1⟩;have lb_v0:=ov0.1;subst al0;subst al1;dsimp only[Dt,Un,LT.den];apply tD<;>intro h1
 .refine Tot.ix λx1 h2=>?_;have mh2:=h2.2;apply tE<;>intro h3
  .exact QQ
  have q1:=wr (v8+1);exact tL ⟨rfl,rfl,ov0,cl,cl,tk37⟩ RY
 exact QQ
def Uo{a0:List Int}{a1:Int}(oa0:(SzL 8 (λ_=>True)) a0):Tot (Up a0 a1) (λr=>(r=true↔a1∈a0)):=by apply tZ;dsimp only[Uq,LT.den];refine tB (Ds oa0) λx1 h1=>?_;have eh1_2:=h1.2.2;exact tR (by exact ixc V)
def Ur(a0:List UInt8)(oa0:SzT a0):Tot (Z11 a0) (λr=>r=fU a0):=⟨_,Us a0,rfl⟩
def Ziy(a0:al)(oa0:da a0):Tot (Z6e a0) (λr=>r=Z0o a0):=⟨_,O3 a0,rfl⟩
def Lg{x:aI}(h:fE x):x.Subs.length<=4611686018427387904:=xl
def Ziz(a0:aI)(a1:List UInt8)(oa0:fE a0)(oa1:SzT a1):Tot (xC a0 a1) (λr=>r=di a0.Subs a1):=⟨_,OY a0 a1 (Lg oa0),rfl⟩
def Lj{x:ae}(h:Z0 x):x.Line.Subs.length<=4611686018427387904:=Ts
def Z4l(a0:aj)(a1:ae)(a2 a3:Int)(a4:al)(oa1:Z0 a1)(oa4:da a4):Tot (wt a0 a1 a2 a3 a4) (λr=>r=gI a0 a1 a2 a3 a4):=⟨_,OZ a0 a1 a2 a3 a4 (Lj oa1),rfl⟩
def Lo{x:ae}(h:Z0 x):x.Line.Subs.length<=4611686018427387904:=Ts
def Lp{s:ao}{all:List ae}{you src:Int}{f:al}(h:Z8 s):SzL 8 (λ_=>True) (Z18 s all you src f):=by have h1:s.Objects.length*128<=140737488351232:=h.2.1.1;have h2:(Z18 s all you src f).length<=s.Objects.length:=Ut ..;exact⟨by omega,λ_ _=>trivial⟩
def ZiA(a0:ao)(a1:List ae)(a2 a3:Int)(a4:al)(oa0:Z8 a0)(oa1:(SzL 176 Z0) a1)(oa4:da a4):Tot (Z12 a0 a1 a2 a3 a4) (λr=>((SzL 8 (λ_=>True)) r)/\(r=Z18 a0 a1 a2 a3 a4)):=⟨_,Zeh a0 a1 a2 a3 a4 oa0.2.1.1 λt ht=>Lo (oa1.2 t ht),Lp oa0,rfl⟩
def ZiB(a0:List Int)(a1:List Int):tc->Prop
 |.L0 v0 v1 v12 v13=>(v0=a0)/\(v1=a1)/\((SzL 8 (λ_=>True)) v0)/\((SzL 8 (λ_=>True)) v1)/\(0<=v13)/\(v12=(v0.length:Int))/\(v0.length=v1.length)/\(∀(k:Nat) x,(k:Int)<v13->v0[k]?=some x->v1[k]?=some x)
def R2:tc->M6
 |.L0 v0 v1 v12 v13=>(1,(v12-v13).toNat,1000000,0,0,0)
def Uu{a0:List Int}{a1:List Int}(oa0:(SzL 8 (λ_=>True)) a0)(oa1:(SzL 8 (λ_=>True)) a1):Tot (Uv a0 a1) (λr=>(r=true↔a0=a1)):=by
 apply Tot.rn (ZiB a0 a1) R2
 .have lb_a1:=oa1.1;dsimp only[Uw,LT.den];have q1:=oa1.1;apply tN<;>intro h1
  .exact n7
  exact tL ⟨rfl,rfl,oa0,oa1,cl,cl,cl,tk61⟩ R1
 rintro⟨v0,v1,v12,v13⟩ ⟨al0,al1,ov0,ov1,cv13,i0,i1,i2⟩;have lb_v0:=ov0.1;subst al0;subst al1;dsimp only[Du,Ux,LT.den];apply tD<;>intro h1
 .refine Tot.ix λx1 h2=>?_;have mh2:=h2.2;refine Tot.ix λx2 h3=>?_;have mh3:=h3.2;apply tN<;>intro h4
  .exact n7
  have q1:=wr (v13+1);exact tL ⟨rfl,rfl,ov0,ov1,cl,cl,cl,tk61⟩ R1
 exact n7
def Z1h{a0:bM}{a1:bM}(oa0:Z0w a0)(oa1:Z0w a1):Tot (Uy a0 a1) (λr=>(r=Z8m a0 a1)):=by
 apply tZ;dsimp only[Uz,LT.den];apply tO<;>intro h1
 .exact QL
 refine tB (Uu oa0.1 oa1.1) λx1 h2=>?_;apply tO<;>intro h3
 .exact QL
 exact tB (Uu oa0.2 oa1.2) λx2 h4=>tR tk54
def UA{a0:List Bool}(oa0:(SzL 1 (λ_=>True)) a0):Tot (xD a0) (λr=>((SzL 1 (λ_=>True)) r)/\(r=a0)):=by
 unfold xD;split
 .apply tZ;have lb_a0:=oa0.1;dsimp only[Dv,LT.den];refine Tot.ap λx1 h1=>?_;have lh1:x1.length=([]:List Bool).length+a0.length:=by rw[h1,bk]
  exact QM
 apply tZ;dsimp only[xE,LT.den];exact mG
def ZiC{a0:List ar}(oa0:(SzL 640 cz) a0):Tot (xF a0) (λr=>((SzL 640 cz) r)/\(r=a0)):=by
 unfold xF;split
 .apply tZ;have lb_a0:=oa0.1;dsimp only[Dw,LT.den];refine Tot.ap λx1 h1=>?_;have lh1:x1.length=([]:List ar).length+a0.length:=by rw[h1,bk]
  try simp only[bw,bT,aM]at lh1
  exact tR ⟨SzL.app (k:=640) h1 lo (λ_ h=>by cases h) oa0.2,mH⟩
 apply tZ;dsimp only[xG,LT.den];exact mG
def ZiD(a0:ae):pa->Prop
 |.L0 E0 E1 v18 v19=>(Z0 E0)/\(Z0 E1)/\(0<=v19)/\(v18=(E0.Abilities.length:Int))/\(E0=a0)
 |.L1 y45000015 E0 E1 v18 v19 v54 v55 v4=>(cz y45000015)/\(Z0 E0)/\(Z0 E1)/\(0<=v55)/\(0<=v19)/\(v19<v18)/\(v18=(E0.Abilities.length:Int))/\(0<=v4)/\(v4<v18)/\(v19<v18)/\(v54=(y45000015.Effects.length:Int))/\(E0=a0)/\(E0.Abilities[v4.toNat]?=some y45000015)
def R7:pa->M6
 |.L0 E0 E1 v18 v19=>(1,(v18-v19).toNat,1000000,0,0,0)
 |.L1 y45000015 E0 E1 v18 v19 v54 v55 v4=>(1,(v18-v19).toNat,1,(v54-v55).toNat,1000000,0)
def ZiE{a0:ae}(oa0:Z0 a0):Tot (UB a0) (λr=>(Z0 r)/\(r=a0)):=by
 apply Tot.rn (ZiD a0) R7
 .dsimp only[UC,LT.den];refine tB (CM oa0.2.1) λx1 h1=>?_;have eh1_1:=h1.2;refine tB (ZiC oa0.2.2) λx2 h2=>?_;have eh2_1:=h2.2;exact tL ⟨⟨oa0.1,h1.1,h2.1⟩,⟨SzS.nil,SzL.nil,SzL.nil⟩,cl,cl,tk64⟩ wV
 intro s hs;cases s with
 |L0 E0 E1 v18 v19=>
  obtain⟨O0,O1,cv19,i0,i1⟩:=hs;dsimp only[xH,UD,LT.den];apply tD<;>intro h1
  .refine Tot.ix λx1 h2=>?_;have oh2:cz x1:=O0.2.2.2 x1 h2.1;have mh2:=h2.2;refine tB (oT oh2.2.1) λx2 h3=>?_;have eh3_1:=h3.2;refine tB (SR oh2.2.2.2.1) λx3 h4=>?_;have eh4_1:=h4.2;refine tB (SS oh2.2.2.2.2.1) λx4 h5=>?_;have eh5_1:=h5.2;exact tL ⟨⟨oh2.1,h3.1,oh2.2.2.1,h4.1,h5.1,oh2.2.2.2.2.2⟩,O0,O1,cl,cl,cl,cl,cl,cl,cl,cl,Z6,tk50⟩ wV
  exact tR ⟨O0,dR⟩
 |L1 y45000015 E0 E1 v18 v19 v54 v55 v4=>
  obtain⟨oy45000015,O0,O1,cv55,cv19,bd5,i0,i1,i2,i3,i4,i5,i6⟩:=hs;dsimp only[xH,UE,LT.den];have lq:=oy45000015.2.2.2.2.1.1;have lr:=O0.2.2.1;apply tD<;>intro h1
  .refine Tot.ix λx1 h2=>?_;have oh2:cP x1:=oy45000015.2.2.2.2.1.2 x1 h2.1;have mh2:=h2.2;refine tB (oT oh2.2.2.2.2) λx2 h3=>?_;have eh3_1:=h3.2;refine tB (Tot.set O O) λx3 h4=>?_;have q1:=wr (v55+1);exact tL ⟨⟨oy45000015.1,oy45000015.2.1,oy45000015.2.2.1,oy45000015.2.2.2.1,⟨lo,λe he=>(h4.2.1 e he).elim (λw=>by rw[w];exact⟨oh2.1,oh2.2.1,oh2.2.2.1,oh2.2.2.2.1,h3.1⟩) (oy45000015.2.2.2.2.1.2 e)⟩,oy45000015.2.2.2.2.2⟩,O0,O1,cl,cl,cl,cl,cl,cl,cl,cl,Z6,tk50⟩ wV
  refine tB (Tot.set O O) λx1 h2=>?_;have q1:=wr (v19+1);exact tL ⟨⟨O0.1,O0.2.1,⟨lo,λe he=>(h2.2.1 e he).elim (λw=>by rw[w];exact oy45000015) (O0.2.2.2 e)⟩⟩,O1,cl,cl,tk64⟩ wV
def kq{a0:Int}{a1:Int}{a2:Int}:Tot (UF a0 a1 a2) (λr=>(r=inB a0 a1 a2)):=by
 apply tZ;dsimp only[UG,LT.den];apply tD<;>intro h1
 .exact ss
 exact ss
abbrev Z1i(a0:af)(r:af):Prop:=(bC r)/\(aF (ay a0) (ay r)=dB a0)
def td(a0:af):pb->Prop
 |.L0 E0 E1 E2 v8 v9=>(E0=a0)/\(bC E0)/\(bC E1)/\(bC E2)/\(v8=E0.Kind)/\(E2=⟨E0.Kind,0,0,[],fK⟩)/\(v9=true↔v8=2\/v8=3\/v8=6\/v8=7\/v8=8\/v8=9)
 |.L1 E0 E1 E2 v8 v19=>(E0=a0)/\(bC E0)/\(bC E1)/\(bC E2)/\(v8=E0.Kind)/\(E2=⟨E0.Kind,0,0,[],fK⟩)/\(¬(v8=2\/v8=3\/v8=6\/v8=7\/v8=8\/v8=9))/\(v19=true↔v8=4\/v8=5)
def Z8z:pb->M6
 |.L0 E0 E1 E2 v8 v9=>(0,0,0,0,0,0)
 |.L1 E0 E1 E2 v8 v19=>(0,0,0,0,0,0)
def Z65{a0:af}{E0:af}{E1:af}{E2:af}{v8:Int}{v19:Bool}(h:(td a0) (.L1 E0 E1 E2 v8 v19)):Tot (te E0 E1 E2 v8 v19).den (Nx (td a0) Z8z (0,0,0,0,0,0) (Z1i a0)):=by
 obtain⟨al0,O0,O1,O2,i0,i1,i2,i3⟩:=h;subst al0;dsimp only[te,LT.den];apply tF<;>intro h1
 .exact tR ⟨⟨O0.1,O2.2⟩,tk59⟩
 apply tE<;>intro h2
 .exact tR ⟨⟨O2.1,O0.2⟩,tk59⟩
 apply tE<;>intro h3
 .exact B4
 apply tE<;>intro h4
 .exact B4
 exact tR ⟨O2,tk59⟩
def Z66{a0:af}{E0:af}{E1:af}{E2:af}{v8:Int}{v9:Bool}(h:(td a0) (.L0 E0 E1 E2 v8 v9)):Tot (kr E0 E1 E2 v8 v9).den (Nx (td a0) Z8z (0,0,0,0,0,0) (Z1i a0)):=by
 obtain⟨al0,O0,O1,O2,i0,i1,i2⟩:=h;subst al0;dsimp only[kr,LT.den];apply tF<;>intro h1
 .exact B4
 apply tE<;>intro h2
 .exact QF
 exact QF
def ZiF{a0:af}(oa0:bC a0):Tot (UH a0) (Z1i a0):=by
 apply Tot.rn (td a0) Z8z
 .dsimp only[UI,LT.den];apply tE<;>intro h1
  .exact oM
  apply tE<;>intro h2
  .exact oM
  apply tE<;>intro h3
  .exact oM
  apply tE<;>intro h4
  .exact oM
  apply tE<;>intro h5
  .exact oM
  exact oM
 intro s hs;cases s with
 |L0 _ _ _ _ _=>exact Z66 hs
 |L1 _ _ _ _ _=>exact Z65 hs
def mY(a0:af):mZ->Prop
 |.L0 E0 v14 v15=>(E0=a0)/\(bC E0)/\(v14=E0.Kind)/\(inB E0.Kind 1 14=true)/\(dB E0=true)/\(v15=true↔E0.Kind=2\/E0.Kind=3)
 |.L1 E0 v14 v27=>(E0=a0)/\(bC E0)/\(v14=E0.Kind)/\(inB E0.Kind 1 14=true)/\(dB E0=true)/\(v27=true↔E0.Kind=4\/E0.Kind=5)/\(¬(E0.Kind=2\/E0.Kind=3))
 |.L2 E0 v14 v43=>(E0=a0)/\(bC E0)/\(v14=E0.Kind)/\(inB E0.Kind 1 14=true)/\(dB E0=true)/\(v43=true↔E0.Kind=8\/E0.Kind=9)/\(¬(2<=E0.Kind/\E0.Kind<=7))
def Z67:mZ->M6
 |.L0 E0 v14 v15=>(0,0,0,0,0,0)
 |.L1 E0 v14 v27=>(0,0,0,0,0,0)
 |.L2 E0 v14 v43=>(0,0,0,0,0,0)
def Qs{a0:af}{E0:af}{v14:Int}{v43:Bool}(h:(mY a0) (.L2 E0 v14 v43)):Tot (tf E0 v14 v43).den (Nx (mY a0) Z67 (0,0,0,0,0,0) (λr=>(r=mdV a0))):=by
 obtain⟨al0,O0,i0,i1,i2,i3,i4⟩:=h;subst al0;dsimp only[tf,LT.den];apply tF<;>intro h1
 .exact tB (kq) λx1 h2=>tR Z35
 apply tE<;>intro h2
 .exact tB (Ziy E0.Filter O0.2) λx1 h3=>tR Z35
 apply tE<;>intro h3
 .refine tB (kq) λx1 h4=>?_;apply tF<;>intro h5
  .exact tB (kq) λx2 h6=>tR Z35
  exact dJ
 apply tE<;>intro h4
 .refine tB (kq) λx1 h5=>?_;apply tF<;>intro h6
  .exact tB (kq) λx2 h7=>tR Z35
  exact dJ
 exact dJ
def Qw{a0:af}{E0:af}{v14:Int}{v27:Bool}(h:(mY a0) (.L1 E0 v14 v27)):Tot (tg E0 v14 v27).den (Nx (mY a0) Z67 (0,0,0,0,0,0) (λr=>(r=mdV a0))):=by
 obtain⟨al0,O0,i0,i1,i2,i3,i4⟩:=h;subst al0;dsimp only[tg,LT.den];apply tF<;>intro h1
 .exact tB (Ur E0.Sub (SzS.t O0.1)) λx1 h2=>tR Z35
 apply tE<;>intro h2
 .exact tB (kq) λx1 h3=>tR Z35
 apply tE<;>intro h3
 .exact tB (kq) λx1 h4=>tR Z35
 apply tE<;>intro h4
 .exact Qr
 exact Qr
def QA{a0:af}{E0:af}{v14:Int}{v15:Bool}(h:(mY a0) (.L0 E0 v14 v15)):Tot (th E0 v14 v15).den (Nx (mY a0) Z67 (0,0,0,0,0,0) (λr=>(r=mdV a0))):=by
 obtain⟨al0,O0,i0,i1,i2,i3⟩:=h;subst al0;dsimp only[th,LT.den];apply tF<;>intro h1
 .refine tB (kq) λx1 h2=>?_;apply tF<;>intro h3
  .exact dJ
  exact dJ
 apply tE<;>intro h2
 .exact Qv
 exact Qv
def ZiG{a0:af}(oa0:bC a0):Tot (UJ a0) (λr=>(r=mdV a0)):=by
 apply Tot.rn (mY a0) Z67
 .dsimp only[UK,LT.den];refine tB (kq) λx1 h1=>?_;apply tO<;>intro h2
  .exact dJ
  refine tB (ZiF oa0) λx2 h3=>?_;apply tO<;>intro h4
  .exact dJ
  apply tE<;>intro h5
  .exact Qz
  exact Qz
 intro s hs;cases s with
 |L0 _ _ _=>exact QA hs
 |L1 _ _ _=>exact Qw hs
 |L2 _ _ _=>exact Qs hs
def ZiH{a0:List UInt8}{a1:List UInt8}(oa0:SzT a0)(oa1:SzT a1):Tot (Z1q a0 a1) (λr=>(r = !Op.bytesLess a0 a1)):=by apply tZ;dsimp only[UL,LT.den];exact tR (by rfl)
abbrev ZiI(a0:List (List UInt8))(a1:List UInt8)(r:Int):Prop:=(-1<=r)/\(r<(a0.length:Int))/\((if r<0 then(a0.length:Int)else r)=ixL a0 a1)
def ZiJ(a0:List (List UInt8))(a1:List UInt8):ti->Prop
 |.L0 v0 w1_0 v7 v8=>(v0=a0)/\(w1_0=a1)/\((SzL 16 SzT) v0)/\(SzT w1_0)/\(0<=v8)/\(v7=(v0.length:Int))/\(LsS v0 w1_0 v8)
def RN:ti->M6
 |.L0 v0 w1_0 v7 v8=>(1,(v7-v8).toNat,1000000,0,0,0)
def ZiK{a0:List (List UInt8)}{a1:List UInt8}(oa0:(SzL 16 SzT) a0)(oa1:SzT a1):Tot (UM a0 a1) (ZiI a0 a1):=by
 apply Tot.rn (ZiJ a0 a1) RN
 .dsimp only[UN,LT.den];exact tL ⟨rfl,rfl,oa0,oa1,cl,cl,tk86⟩ RM
 rintro⟨v0,w1_0,v7,v8⟩ ⟨al0,al1,ov0,ow1_0,cv8,i0,i1⟩;have lb_v0:=ov0.1;subst al0;subst al1;dsimp only[Dx,UO,LT.den];apply tD<;>intro h1
 .refine Tot.ix λx1 h2=>?_;have oh2:SzT x1:=ov0.2 x1 h2.1;have mh2:=h2.2;refine tB (ZiH oh2 ow1_0) λx2 h3=>?_;apply tF<;>intro h4
  .exact QN
  have q1:=wr (v8+1);exact tL ⟨rfl,rfl,ov0,ow1_0,cl,cl,tk86⟩ RM
 exact QN
def UP(b0:List (List UInt8))(a1:Int)(b1:List (List UInt8))(ob0:SzL 16 SzT b0)(ob1:SzL 16 SzT b1)(h0:b0.length<=4096)(h1:0<=a1)(h2:a1<=(b0.length:Int))(h3:b1.length=1) :
 Tot (UQ b0 a1 b1) (λr=>(SzL 16 SzT r)/\(r.length=b0.length+1)/\(r=b0.take a1.toNat++b1++b0.drop a1.toNat)):=by
 match b1,h3 with
 |[y],_=>
  refine⟨_,ZiL h1 h2 O,⟨?_,λe he=>?_⟩,?_,by simp⟩
  .exact PZ
  .rcases b9.1 he with h|h
   .exact ob0.2 e (iV h)
   rcases cf.1 h with h|h
   .rw [h];exact ob1.2 y ax
   exact ob0.2 e (kF h)
  exact PZ
def ZiM{a0:aI}{a1:List UInt8}(oa0:fE a0)(oa1:SzT a1):Tot (UR a0 a1) (λr=>(fE r)/\(r=lnV a0 a1)):=by
 apply tZ;dsimp only[US,LT.den];refine tB (CM oa0) λx1 h1=>?_;have eh1_1:=h1.2;refine tB (Ur a1 oa1) λx2 h2=>?_;apply tO<;>intro h3
 .exact B9
 refine tB (Ziz (⟨a0.Super,a0.Types,x1⟩:aI) a1 h1.1 oa1) λx3 h4=>?_;apply tF<;>intro h5
 .exact B9
 apply tD<;>intro h6
 .exact B9
 refine tB (ZiK h1.1 oa1) λx4 h7=>?_;have eh7_2:=h7.2.2;apply tD<;>intro h8
 .refine tB (UP x1 (x1.length:Int) [a1] h1.1 (SzL.one oa1) cl cl cl cl) λx5 h9=>?_;exact QV
 refine tB (UP x1 x4 [a1] h1.1 (SzL.one oa1) cl cl cl cl) λx5 h9=>?_;exact QV
def ZiN{a0:ae}{a1:af}{a2:Int}{a3:Int}(oa0:Z0 a0)(oa1:bC a1):Tot (Dy a0 a1 a2 a3) (λr=>(Z0 r)/\(r=apV a0 a1 a2 a3)):=by
 apply tZ;dsimp only[UT,LT.den];refine tB (ZiE oa0) λx1 h1=>?_;have eh1_1:=h1.2;refine tB (ZiG oa1) λx2 h2=>?_;apply tO<;>intro h3
 .exact Pt
 apply tE<;>intro h4
 .exact kf
 apply tE<;>intro h5
 .exact kf
 apply tE<;>intro h6
 .exact kf
 apply tE<;>intro h7
 .exact tR ⟨⟨h1.1.1,SzL.one (SzS.t oa1.1),h1.1.2.2⟩,gJ⟩
 apply tE<;>intro h8
 .refine tB (ZiM h1.1.2.1 (SzS.t oa1.1)) λx3 h9=>?_;have eh9_1:=h9.2;exact tR ⟨⟨h1.1.1,h9.1,h1.1.2.2⟩,gJ⟩
 apply tE<;>intro h9
 .exact kf
 apply tE<;>intro h10
 .exact kf
 apply tE<;>intro h11
 .exact kf
 apply tE<;>intro h12
 .exact kf
 apply tE<;>intro h13
 .exact tR ⟨⟨h1.1.1,h1.1.2.1,SzL.nil⟩,gJ⟩
 apply tE<;>intro h14
 .exact tB (ln) λx3 h15=>tB (ln) λx4 h16=>tR ⟨⟨h1.1.1,h1.1.2.1,h1.1.2.2⟩,gJ⟩
 apply tE<;>intro h15
 .exact kf
 apply tE<;>intro h16
 .exact tB (xz) λx3 h17=>tB (xz) λx4 h18=>tR ⟨⟨h1.1.1,h1.1.2.1,h1.1.2.2⟩,gJ⟩
 apply tE<;>intro h17
 .exact kf
 exact Pt
abbrev ZiO(a0:List Int)(r:List Int):Prop:=((SzL 8 (λ_=>True)) r)/\(r.length<=a0.length)/\(SUB r a0)/\(r=elV a0)
def ZiP(a0:List Int):tj->Prop
 |.L0 v3 v6 v7 v8=>(v6=a0)/\((SzL 8 (λ_=>True)) v3)/\((SzL 8 (λ_=>True)) v6)/\(0<=v8)/\(v7=(v6.length:Int))/\(v3.length<=v8.toNat)/\(v8<=v7)/\(SUB v3 v6)/\(v3=(v6.take v8.toNat).foldl elF [])
def R5:tj->M6
 |.L0 v3 v6 v7 v8=>(1,(v7-v8).toNat,1000000,0,0,0)
def ZiQ{a0:List Int}(oa0:(SzL 8 (λ_=>True)) a0):Tot (Dz a0) (ZiO a0):=by
 apply Tot.rn (ZiP a0) R5
 .have lb_a0:=oa0.1;dsimp only[Z1r,LT.den];exact tL ⟨rfl,SzL.nil,oa0,cl,cl,cl,cl,tk89,tk13⟩ Cd
 rintro⟨v3,v6,v7,v8⟩ ⟨al0,ov3,ov6,cv8,i0,i1,i2,i3,i4⟩;have lb_v3:=ov3.1;have lb_v6:=ov6.1;subst al0;dsimp only[DA,UU,LT.den];apply tD<;>intro h1
 .refine Tot.ix λx1 h2=>?_;have mh2:=h2.2;apply tD<;>intro h3
  .refine tB (Uo ov3) λx2 h4=>?_;apply tO<;>intro h5
   .refine Tot.ap λx3 h6=>?_;have lh6:=b7 h6;have q1:=wr (v8+1);exact tL ⟨rfl,SzL.tr,ov6,cl,cl,cl,cl,tk89,tk13⟩ Cd
   exact Rg
  exact Rg
 exact tR ⟨ov3,cl,V,(by exact Ah V O)⟩
def Z1t{a0:List (List Bool)}{a1:Int}{a2:Int}(oa0:(SzL 24 (SzL 1 (λ_=>True))) a0):Tot (UV a0 a1 a2) (λr=>(0<=a1->0<=a2->r=nB a0 a1 a2)):=by
 apply tZ;dsimp only[Z6f,LT.den];apply tD<;>intro h1
 .apply tD<;>intro h2
  .apply tD<;>intro h3
   .refine Tot.ix λx1 h4=>?_;have oh4:(SzL 1 (λ_=>True)) x1:=oa0.2 x1 h4.1;apply tD<;>intro h5
    .exact Tot.ix λx2 h6=>tR Ai
    exact od
   exact od
  exact od
 exact od
abbrev ZiR(a0:List Int)(a1:List (List Bool))(r:(List Int)×(List (List Bool))):Prop:=(r.1.length=a0.length)/\(r.2.length=a0.length)/\(RWS a0.length r.2)/\(MK a0.length r.2 (kB (eB a0 a1) a0.length))/\(r.1=a0)
def ZiS(a0:List Int)(a1:List (List Bool)):kt->Prop
 |.L0 v1 E0 v5 E1 v17 v18=>(E0=a0)/\(v1=a1)/\((SzL 24 (SzL 1 (λ_=>True))) v1)/\((SzL 8 (λ_=>True)) E0)/\((SzL 24 (SzL 1 (λ_=>True))) E1)/\(0<=v18)/\(v5=(E0.length:Int))/\((E1.length:Int)=v5)/\(E0.length<=16448)/\(RWV E0.length E1 v18)/\(v17=v5)/\(POS E0)/\(MK v5.toNat E1 (sel (eB E0 v1) (λ_ _=>false) v18.toNat (0:Int).toNat))
 |.L1 v1 E0 v5 E1 v7 v17 v18 v26 v27=>(E0=a0)/\(v1=a1)/\((SzL 24 (SzL 1 (λ_=>True))) v1)/\((SzL 8 (λ_=>True)) E0)/\((SzL 24 (SzL 1 (λ_=>True))) E1)/\(0<=v27)/\(0<=v18)/\(v18<v17)/\(v5=(E0.length:Int))/\((E1.length:Int)=v5)/\(E0.length<=16448)/\(RWV E0.length E1 (v18+1))/\(v17=v5)/\(v18<v17)/\(v7=v18)/\(v26=v5)/\(POS E0)/\(MK v5.toNat E1 (sel (eB E0 v1) (λ_ _=>false) v18.toNat v27.toNat))
 |.L2 E0 v5 E1 v48 v49=>(E0=a0)/\((SzL 8 (λ_=>True)) E0)/\((SzL 24 (SzL 1 (λ_=>True))) E1)/\(0<=v49)/\(v5=(E0.length:Int))/\((E1.length:Int)=v5)/\(E0.length<=16448)/\(RWS E0.length E1)/\(v48=v5)/\(v49<=v48)/\(MK v5.toNat E1 (kB (eB E0 a1) v49.toNat))
 |.L3 E0 v5 E1 v9 v48 v49 v52 v53=>(E0=a0)/\((SzL 8 (λ_=>True)) E0)/\((SzL 24 (SzL 1 (λ_=>True))) E1)/\(0<=v53)/\(0<=v49)/\(v49<v48)/\(v5=(E0.length:Int))/\((E1.length:Int)=v5)/\(E0.length<=16448)/\(RWS E0.length E1)/\(v48=v5)/\(v52=v5)/\(v9=v49)/\(v49<v48)/\(v53<=v52)/\(MK v5.toNat E1 (sel (kB (eB E0 a1) (v49.toNat+1)) (kB (eB E0 a1) v49.toNat) v53.toNat  (0:Int).toNat))
 |.L4 E0 v5 E1 v9 v10 v48 v49 v52 v53 v56 v57=>(E0=a0)/\((SzL 8 (λ_=>True)) E0)/\((SzL 24 (SzL 1 (λ_=>True))) E1)/\(0<=v57)/\(0<=v49)/\(0<=v53)/\(v49<v48)/\(v53<v52)/\(v5=(E0.length:Int))/\((E1.length:Int)=v5)/\(E0.length<=16448)/\(RWS E0.length E1)/\(v48=v5)/\(v52=v5)/\(v9=v49)/\(v49<v48)/\(v56=v5)/\(v10=v53)/\(v53<v52)/\(MK v5.toNat E1 (sel (kB (eB E0 a1) (v49.toNat+1)) (kB (eB E0 a1) v49.toNat) v53.toNat  v57.toNat))
def Z68:kt->M6
 |.L0 v1 E0 v5 E1 v17 v18=>(3,(v17-v18).toNat,1000000,0,0,0)
 |.L1 v1 E0 v5 E1 v7 v17 v18 v26 v27=>(3,(v17-v18).toNat,1,(v26-v27).toNat,1000000,0)
 |.L2 E0 v5 E1 v48 v49=>(1,(v48-v49).toNat,1000000,0,0,0)
 |.L3 E0 v5 E1 v9 v48 v49 v52 v53=>(1,(v48-v49).toNat,1,(v52-v53).toNat,1000000,0)
 |.L4 E0 v5 E1 v9 v10 v48 v49 v52 v53 v56 v57=>(1,(v48-v49).toNat,1,(v52-v53).toNat,1,(v56-v57).toNat)
def ZiT{a0:List Int}{a1:List (List Bool)}(oa0:(SzL 8 (λ_=>True)) a0)(oa1:(SzL 24 (SzL 1 (λ_=>True))) a1)(h0:a0.length<=16448)(h1:POS a0):Tot (UW a0 a1) (ZiR a0 a1):=by
 apply Tot.rn (ZiS a0 a1) Z68
 .dsimp only[Z97,LT.den];refine tB (Tot.mk) λx1 h1=>?_;have lh1:=h1.1;exact tL ⟨rfl,rfl,oa1,oa0,⟨lo,λe he=>by rw[h1.2 e he];exact SzL.nil⟩,cl,cl,cl,cl,tk20,cl,V,tk12⟩ Z6u
 intro s hs;cases s with
 |L0 v1 E0 v5 E1 v17 v18=>
  obtain⟨al0,al1,ov1,O0,O1,cv18,i0,i1,i2,i3,i4,i5,i6⟩:=hs;subst al0;subst al1;dsimp only[m6,Z6h,LT.den];apply tD<;>intro h1
  .refine tB (Tot.mk) λx1 h2=>?_;have lh2:=h2.1;refine Tot.ix λx2 h3=>?_;have mh3:=h3.2;(first|have wh3:=Z32 (by assumption:RWS _ E1) mh3|have wh3:=sq (by assumption:RWV _ E1 _) O mh3|skip);have mh3:=h3.2;exact tB (Tot.set O O) λx3 h4=>tL ⟨rfl,rfl,ov1,O0,⟨lo,λe he=>(h4.2.1 e he).elim (λw=>by rw[w];exact SzL.tr) (O1.2 e)⟩,cl,cl,cl,cl,cl,cl,tk20,cl,cl,cl,cl,V,tk12⟩ Z6u
  exact Q3
 |L1 v1 E0 v5 E1 v7 v17 v18 v26 v27=>
  obtain⟨al0,al1,ov1,O0,O1,cv27,cv18,bd7,i0,i1,i2,i3,i4,i5,i6,i7,i8,i9⟩:=hs;subst al0;subst al1;dsimp only[m6,Z6i,LT.den];apply tD<;>intro h1
  .refine Tot.ix λx1 h2=>?_;have oh2:(SzL 1 (λ_=>True)) x1:=O1.2 x1 h2.1;have mh2:=h2.2;(first|have wh2:=Z32 (by assumption:RWS _ E1) mh2|have wh2:=sq (by assumption:RWV _ E1 _) O mh2|skip);have mh2:=h2.2;refine Tot.ix λx2 h3=>?_;have mh3:=h3.2;refine Tot.ix λx3 h4=>?_;have mh4:=h4.2;refine tB (Z1t ov1) λx4 h5=>Tot.ix λx5 h6=>?_;have mh6:=h6.2;refine tB (Tot.setM) λx6 h7=>?_;have lh7:x6.length=E1.length:=by rw[h7,ew]
   have q1:=wr (v27+1);exact tL ⟨rfl,rfl,ov1,O0,SzL.setM h7 O1 oh2,cl,cl,cl,cl,cl,cl,tk20,cl,cl,cl,cl,V,tk12⟩ Z6u
  have q1:=wr (v18+1);exact tL ⟨rfl,rfl,ov1,O0,O1,cl,cl,cl,cl,tk20,cl,V,tk12⟩ Z6u
 |L2 E0 v5 E1 v48 v49=>
  obtain⟨al0,O0,O1,cv49,i0,i1,i2,i3,i4,i5,i6⟩:=hs;subst al0;dsimp only[m6,Z6j,LT.den];apply tD<;>intro h1
  .exact Q1
  exact tR ⟨cl,cl,V,(by exact ZiU V V O O),(by rfl)⟩
 |L3 E0 v5 E1 v9 v48 v49 v52 v53=>
  obtain⟨al0,O0,O1,cv53,cv49,bd5,i0,i1,i2,i3,i4,i5,i6,i7,i8,i9⟩:=hs;subst al0;dsimp only[m6,Z6k,LT.den];apply tD<;>intro h1
  .exact Rn
  have q1:=wr (v49+1);exact Q3
 |L4 E0 v5 E1 v9 v10 v48 v49 v52 v53 v56 v57=>
  obtain⟨al0,O0,O1,cv57,cv49,cv53,bd6,bd7,i0,i1,i2,i3,i4,i5,i6,i7,i8,i9,i10,i11⟩:=hs;subst al0;dsimp only[m6,Z6l,LT.den];apply tD<;>intro h1
  .refine Tot.ix λx1 h2=>?_;have oh2:(SzL 1 (λ_=>True)) x1:=O1.2 x1 h2.1;have mh2:=h2.2;(first|have wh2:=Z32 (by assumption:RWS _ E1) mh2|have wh2:=sq (by assumption:RWV _ E1 _) O mh2|skip);have mh2:=h2.2;refine Tot.ix λx2 h3=>?_;have mh3:=h3.2;apply tF<;>intro h4
   .refine Tot.ix λx3 h5=>?_;have mh5:=h5.2;(first|have wh5:=Z32 (by assumption:RWS _ E1) mh5|have wh5:=sq (by assumption:RWV _ E1 _) O mh5|skip);have mh5:=h5.2;refine Tot.ix λx4 h6=>?_;have mh6:=h6.2;apply tF<;>intro h7
    .refine Tot.ix λx5 h8=>?_;have oh8:(SzL 1 (λ_=>True)) x5:=O1.2 x5 h8.1;have mh8:=h8.2;(first|have wh8:=Z32 (by assumption:RWS _ E1) mh8|have wh8:=sq (by assumption:RWV _ E1 _) O mh8|skip);have mh8:=h8.2;refine Tot.ix λx6 h9=>?_;have mh9:=h9.2;refine tB (Tot.setM) λx7 h10=>?_;have lh10:x7.length=E1.length:=by rw[h10,ew]
     have q1:=wr (v57+1);exact tL ⟨rfl,O0,SzL.setM h10 O1 oh8,cl,cl,cl,cl,cl,cl,cl,cl,tk67,cl,cl,cl,cl,cl,cl,cl,tk0⟩ Z6u
    exact Ro
   exact Ro
  have q1:=wr (v53+1);exact Q1
def Z1j{a0:Int}{a1:Int}{a2:List Int}{a3:List (List Bool)}(oa2:(SzL 8 (λ_=>True)) a2)(oa3:(SzL 24 (SzL 1 (λ_=>True))) a3)(h0:a3.length=a2.length)(h1:RWS a2.length a3):Tot (UX a0 a1 a2 a3) (λr=>(r=ldV a2 a3 a0 a1)):=by
 apply tZ;dsimp only[UY,LT.den];refine tB (Ds oa2) λx1 h1=>?_;have eh1_2:=h1.2.2;refine tB (Ds oa2) λx2 h2=>?_;have eh2_2:=h2.2.2;apply tD<;>intro h3
 .apply tD<;>intro h4
  .refine Tot.ix λx3 h5=>?_;have mh5:=h5.2;have wh5:=Z32 (by assumption:RWS _ a3) mh5;have mh5:=h5.2;refine Tot.ix λx4 h6=>?_;have mh6:=h6.2;exact B6
  exact B6
 exact B6
def ZiV{a0:Int}{b0:Int}{b1:List (List Bool)}{b2:(List Int)×(List (List Bool))}(ob1:(SzL 24 (SzL 1 (λ_=>True))) b1)(h0:b2.1.length<=16448)(h1:b2.2.length=b2.1.length)(h2:RWS b2.1.length b2.2):Tot (UZ a0 b0 b1 b2) (λr=>(0<=a0->0<=b0->r=wtP b1 b2 b0 a0)):=by
 apply tZ;dsimp only[U0,LT.den];apply tN<;>intro h1
 .refine tB (Z1t ob1) λx1 h2=>?_;apply tF<;>intro h3
  .exact tB (Z1j szx szx cl V) λx2 h4=>tR Cz
  exact tR Cz
 exact tR Cz
abbrev ZiW(a0:List Int)(b0:Int)(b1:List (List Bool))(b2:(List Int)×(List (List Bool)))(r:Int×Int×(List (List Bool))×((List Int)×(List (List Bool)))):Prop:=((SzL 24 (SzL 1 (λ_=>True))) r.2.2.1)/\(r.2=(b0,b1,b2))/\(FX a0 (wtP b1 b2 b0) r.1)
def ZiX(a0:List Int)(b0:Int)(b1:List (List Bool))(b2:(List Int)×(List (List Bool))):tk->Prop
 |.L0 v0 c0 c1 c2 v7 v8=>(v0=a0)/\(c0=b0)/\(c1=b1)/\(c2=b2)/\((SzL 8 (λ_=>True)) v0)/\((SzL 24 (SzL 1 (λ_=>True))) c1)/\(0<=v8)/\(v7=(v0.length:Int))/\(c2.1.length<=16448)/\(c2.2.length=c2.1.length)/\(RWS c2.1.length c2.2)/\(POS v0)/\(0<=c0)/\(∀(k:Nat) y,(k:Int)<v8->v0[k]?=some y->wtP c1 c2 c0 y=false)
def RP:tk->M6
 |.L0 v0 c0 c1 c2 v7 v8=>(1,(v7-v8).toNat,1000000,0,0,0)
def ZiY{a0:List Int}{b0:Int}{b1:List (List Bool)}{b2:(List Int)×(List (List Bool))}(oa0:(SzL 8 (λ_=>True)) a0)(ob1:(SzL 24 (SzL 1 (λ_=>True))) b1)(h0:b2.1.length<=16448)(h1:b2.2.length=b2.1.length)(h2:RWS b2.1.length b2.2)(h3:POS a0)(h4:0<=b0):Tot (U1 a0 b0 b1 b2) (ZiW a0 b0 b1 b2):=by
 apply Tot.rn (ZiX a0 b0 b1 b2) RP
 .dsimp only[U2,LT.den];exact tL ⟨rfl,rfl,rfl,rfl,oa0,ob1,cl,cl,cl,cl,dR,V,cl,tk72⟩ RO
 rintro⟨v0,c0,c1,c2,v7,v8⟩ ⟨al0,al1,al2,al3,ov0,oc1,cv8,i0,i1,i2,i3,i4,i5,i6⟩;have lb_v0:=ov0.1;subst al0;subst al1;subst al2;subst al3;dsimp only[DB,U3,LT.den];apply tD<;>intro h1
 .refine Tot.ix λx1 h2=>?_;have mh2:=h2.2;have zh2:0<=x1:=(by assumption:POS v0) _ h2.1;refine tB (ZiV oc1 cl cl dR) λx2 h3=>?_;apply tF<;>intro h4
  .exact QJ
  have q1:=wr (v8+1);exact tL ⟨rfl,rfl,rfl,rfl,ov0,oc1,cl,cl,cl,cl,dR,V,cl,tk72⟩ RO
 exact QJ
def ZiZ{a0:List Int}{b0:Int}{b1:List (List Bool)}{b2:(List Int)×(List (List Bool))}(oa0:(SzL 8 (λ_=>True)) a0)(ob1:(SzL 24 (SzL 1 (λ_=>True))) b1)(h0:b2.1.length<=16448)(h1:b2.2.length=b2.1.length)(h2:RWS b2.1.length b2.2)(h3:POS a0)(h4:0<=b0):Tot (U4 a0 b0 b1 b2) (λr=>((SzL 24 (SzL 1 (λ_=>True))) r.2.2.1)/\(r.2=(b0,b1,b2))/\(r.1=true↔∃j,j∈a0/\wtP b1 b2 b0 j=true)):=by apply tZ;dsimp only[U5,LT.den];refine tB (ZiY oa0 ob1 cl cl dR jH cl) λx1 h1=>?_;have eh1_1:=h1.2.1;have eh1_2:=h1.2.2;exact tR ⟨h1.1,Z6,V⟩
abbrev Zi0(a0:List Int)(a1:List (List Bool))(r:List Int):Prop:=((SzL 8 (λ_=>True)) r)/\(r.length<=16448)/\(SUB r a0)/\(r=rdV (elV a0) (nB a1))
def Zi1(a0:List Int)(a1:List (List Bool)):tl->Prop
 |.L0 E0 v5 E1 v7 v16 v17 v18=>((SzL 24 (SzL 1 (λ_=>True))) E0)/\((SzL 8 (λ_=>True)) v5)/\((SzL 8 (λ_=>True)) v7)/\((SzL 8 (λ_=>True)) v16)/\(0<=v18)/\(v5.length<=16448)/\(v17=(v16.length:Int))/\(v16.length<=16448)/\(v7.length<=v18.toNat)/\(v18<=v17)/\(SUB v16 a0)/\(SUB v7 a0)/\(E1.1.length<=16448)/\(E1.2.length=E1.1.length)/\(RWS E1.1.length E1.2)/\(POS v5)/\(v5=v16)/\(v16=elV a0)/\(E1.1=v16)/\(E0=a1)/\(MK v16.length E1.2 (kB (eB v16 a1) v16.length))/\(v7=(v16.take v18.toNat).filter (rdB v16 (nB a1)))
def Z69:tl->M6
 |.L0 E0 v5 E1 v7 v16 v17 v18=>(1,(v17-v18).toNat,1000000,0,0,0)
def Zi2{a0:List Int}{a1:List (List Bool)}(oa0:(SzL 8 (λ_=>True)) a0)(oa1:(SzL 24 (SzL 1 (λ_=>True))) a1)(h0:a0.length<=16448):Tot (Z3p a0 a1) (Zi0 a0 a1):=by
 apply Tot.rn (Zi1 a0 a1) Z69
 .dsimp only[Z98,LT.den];refine tB (ZiQ oa0) λx1 h1=>?_;have eh1_2:=h1.2.2.1;have eh1_3:=h1.2.2.2;refine tB (ZiT h1.1 oa1 cl jH) λx2 h2=>?_;have eh2_0:=h2.1;have eh2_2:=h2.2.2.1;have eh2_3:=h2.2.2.2.1;have eh2_4:=h2.2.2.2.2;have q1:=h1.1.1;exact tL ⟨oa1,h1.1,SzL.nil,h1.1,cl,cl,cl,cl,cl,cl,V,tk66,cl,cl,Cv,jH,Z6,V,V,Z6,V,tk18⟩ Cx
 rintro⟨E0,v5,E1,v7,v16,v17,v18⟩ ⟨O0,ov5,ov7,ov16,cv18,i0,i1,i2,i3,i4,i5,i6,i7,i8,i9,i10,i11,i12,i13,i14,i15,i16⟩;have lb_v7:=ov7.1;dsimp only[DC,Z6m,LT.den];apply tD<;>intro h1
 .refine Tot.ix λx1 h2=>?_;have mh2:=h2.2;have zh2:0<=x1:=R4 (by assumption:v16=elV a0) _ h2.1;refine tB (ZiZ ov5 O0 cl cl dR jH cl) λx2 h3=>?_;have eh3_1:=h3.2.1;have eh3_2:=h3.2.2;have mh3:v16[v18.toNat]?=some x2.2.1:=by rw[eh3_1];assumption
  have uh3:x2.2.2.2.1.length<=16448:=ir
  have wh3:x2.2.2.2.2.length=x2.2.2.2.1.length:=ir
  have zh3:RWS x2.2.2.2.1.length x2.2.2.2.2:=ir
  have rh3:=rd_c (y:=x2) V V V V V V V V;have f1h5:x2.2.2.1=a1:=ir
  have f2h5:x2.2.2.2.1=v16:=ir
  have f3h5:MK v16.length x2.2.2.2.2 (kB (eB v16 a1) v16.length):=ir
  apply tO<;>intro h4
  .refine Tot.ap λx3 h5=>?_;have lh5:=b7 h5;have q1:=wr (v18+1);exact tL ⟨h3.1,ov5,SzL.tr,ov16,cl,cl,cl,cl,cl,cl,V,tk66,cl,cl,Cv,jH,Z6,V,V,Z6,V,tk18⟩ Cx
  have q1:=wr (v18+1);exact tL ⟨h3.1,ov5,ov7,ov16,cl,cl,cl,cl,cl,cl,V,tk66,cl,cl,Cv,jH,Z6,V,V,Z6,V,tk18⟩ Cx
 exact tR ⟨ov7,cl,V,(by rw[<- (by assumption:v16=elV a0)];exact Al V O)⟩
def Z4m{a0:List Int}{a1:Int}(oa0:(SzL 8 (λ_=>True)) a0)(h0:0<=a1):Tot (U6 a0 a1) (λr=>(r=stp a0 a1)):=by apply tZ;dsimp only[Z99,LT.den];exact Mt
def Zi3(a0:List Int)(a1:List Int)(a2:List (List Bool)):tn->Prop
 |.L0 v1 v7 v14 v15 v16=>(v1=a1)/\((SzL 8 (λ_=>True)) v1)/\((SzL 8 (λ_=>True)) v14)/\(0<=v16)/\(POS a0)/\(v15=(v14.length:Int))/\(v14.length<=16448)/\(SUB v14 a0)/\(v7<0\/v7∈a0)/\(v14=rdV (elV a0) (nB a2))/\(v7=(v14.take v16.toNat).foldl (nxF v1) (-1))
def Ty:tn->M6
 |.L0 v1 v7 v14 v15 v16=>(1,(v15-v16).toNat,1000000,0,0,0)
def Zas{a0:List Int}{a1:List Int}{a2:List (List Bool)}(oa0:(SzL 8 (λ_=>True)) a0)(oa1:(SzL 8 (λ_=>True)) a1)(oa2:(SzL 24 (SzL 1 (λ_=>True))) a2)(h0:a0.length<=16448)(h1:POS a0):Tot (U7 a0 a1 a2) (λr=>(r<0\/r∈a0)/\(r=nxV a0 a1 (nB a2))):=by
 apply Tot.rn (Zi3 a0 a1 a2) Ty
 .dsimp only[U8,LT.den];refine tB (Zi2 oa0 oa2 cl) λx1 h1=>?_;have eh1_1:=h1.2.1;have eh1_2:=h1.2.2.1;have eh1_3:=h1.2.2.2;exact tL ⟨rfl,oa1,h1.1,cl,V,cl,cl,V,Re,V,tk48⟩ Rf
 rintro⟨v1,v7,v14,v15,v16⟩ ⟨al0,ov1,ov14,cv16,i0,i1,i2,i3,i4,i5,i6⟩;subst al0;dsimp only[Z0a,U9,LT.den];apply tD<;>intro h1
 .refine Tot.ix λx1 h2=>?_;have mh2:=h2.2;have zh2:=ZeA (by assumption:POS a0) (by assumption:SUB v14 a0) mh2;have mh2:=h2.2;apply tD<;>intro h3
  .exact sA
  refine tB (Z4m ov1 cl) λx2 h4=>tB (Z4m ov1 cl) λx3 h5=>?_;apply tD<;>intro h6
  .exact sA
  apply tE<;>intro h7
  .apply tD<;>intro h8
   .exact sA
   exact sA
  exact sA
 exact tR ⟨V,(by exact nx_e V V O)⟩
abbrev Zi4(b0:ak)(r:ak):Prop:=(cj r)/\(r.traits.length=r.s.Objects.length)/\(r.dropped.length=r.s.Objects.length)/\(r.done.length=r.forces.length)/\(r.hits.length=r.forces.length)/\(r.s.Objects.length<=2048)/\(r.forces.length<=16448)/\(HI r.s.Objects.length r.hits)/\(r.s=b0.s)/\(r.forces=b0.forces)/\(r=Z8n b0)
def Zi5(b0:ak):tp->Prop
 |.L0 c0 v10 v11 v12=>(cj c0)/\((SzL 128 (λ_=>True)) v10)/\(0<=v12)/\(c0.traits.length=c0.s.Objects.length)/\(c0.dropped.length=c0.s.Objects.length)/\(c0.done.length=c0.forces.length)/\(c0.hits.length=c0.forces.length)/\(c0.s.Objects.length<=2048)/\(c0.forces.length<=16448)/\(HI c0.s.Objects.length c0.hits)/\(c0.s=b0.s)/\(c0.forces=b0.forces)/\(v11=(v10.length:Int))/\(v11=(c0.s.Objects.length:Int))/\(v10=b0.s.Objects)/\(c0.traits=b0.traits.mapIdx (bZ (ig v10) (λ_ t=>t) v12))/\(c0.dropped=b0.dropped)/\(c0.done=b0.done)/\(c0.hits=b0.hits)
def RW:tp->M6
 |.L0 c0 v10 v11 v12=>(1,(v11-v12).toNat,1000000,0,0,0)
def Zap{b0:ak}(ob0:cj b0)(h0:b0.traits.length=b0.s.Objects.length)(h1:b0.dropped.length=b0.s.Objects.length)(h2:b0.done.length=b0.forces.length)(h3:b0.hits.length=b0.forces.length)(h4:b0.s.Objects.length<=2048)(h5:b0.forces.length<=16448)(h6:HI b0.s.Objects.length b0.hits):Tot (DD b0) (Zi4 b0):=by
 unfold DD;refine tX (Inv:=(Zi5 b0)) (μ:=RW) (m:=(1000000,0,0,0,0,0)) ?_ ?_
 .dsimp only[Va,LT.den];have q1:=ob0.1.2.1.1;exact tL ⟨ob0,ob0.1.2.1,cl,cl,cl,cl,cl,cl,cl,bu,cx,cx,cl,cl,Z6,tk10,Z6,Z6,Z6⟩ Cg
 intro s hs;cases s with
 |L0 c0 v10 v11 v12=>
  obtain⟨oc0,ov10,cv12,i0,i1,i2,i3,i4,i5,i6,i7,i8,i9,i10,i11,i12,i13,i14,i15⟩:=hs;have lb_v10:=ov10.1;show Tot (DE c0 v10 v11 v12).den _;dsimp only[DE,LT.den];refine tD (λh1=>?_) (λh1=>?_)
  .refine tB (tI O O) (λx2 h3=>?_);have mh3:=h3.2;refine tB (tI O O) (λx4 h5=>?_);have oh5:Z0 x4:=oc0.2.2.1.2 x4 h5.1;have mh5:=h5.2;have nh5:=oh5.1;have ah5:=oh5.2.1;have bh5:=oh5.2.2;unfold SzS at nh5;have mh5:=h5.2;refine tE (λh6=>?_) (λh6=>?_)
   .refine tN (λh7=>?_) (λh7=>?_)
    .refine tB (Zio) (λx8 h9=>?_);have eh9_0:=h9;refine tB (xz) (λx10 h11=>?_);have eh11_0:=h11;refine tB (xz) (λx12 h13=>?_);have eh13_0:=h13;refine tB (Tot.set O O) (λx14 h15=>?_);have lh15:=h15.1;refine tB (Tot.set2 O O O) (λx16 h17=>?_);have lh17:=h17.1;refine qw (v12+1) λq18 q19=>?_;exact tL ⟨⟨oc0.1,oc0.2.1,⟨lo,λe he=>(h17.2.1 e he).elim (λw=>by rw[w];exact⟨(by unfold SzS;first|omega|(simp only[bk,bw,bT];omega)),szx,szx⟩) ((show SzL 1 Z0 _ from⟨lo,λe he=>(h15.2.1 e he).elim (λw=>by rw[w];exact⟨oh5.1,oh5.2.1,oh5.2.2⟩) (oc0.2.2.1.2 e)⟩).2 e)⟩,oc0.2.2.2.1,oc0.2.2.2.2.1,oc0.2.2.2.2.2⟩,ov10,cl,cl,cl,cl,cl,cl,cl,bu,cx,cx,cl,cl,Z6,tk10,Z6,Z6,Z6⟩ Cg
    refine qw (v12+1) λq20 q21=>?_;exact Rk
   refine qw (v12+1) λq22 q23=>?_;exact Rk
  exact tR ⟨oc0,cl,cl,cl,cl,cl,cl,bu,cx,cx,(by exact cn_e V O V V V V V V V)⟩
def Zi6(b0:ak)(a1:Int)(a2:Int):tq->Prop
 |.L0 v1 v2 E1 v18 v19 v20=>(v1=a1)/\(v2=a2)/\(gk E1)/\((SzL 176 bC) v18)/\(0<=v20)/\(b0.traits.length=b0.s.Objects.length)/\(b0.dropped.length=b0.s.Objects.length)/\(b0.done.length=b0.forces.length)/\(b0.hits.length=b0.forces.length)/\(b0.s.Objects.length<=2048)/\(b0.forces.length<=16448)/\(HI b0.s.Objects.length b0.hits)/\(cj b0)/\(0<=v1)/\(v1<(b0.forces.length:Int))/\(v19=(v18.length:Int))/\(v18=E1.Mods)/\(b0.forces[v1.toNat]?=some E1)/\((v18.take v20.toNat).any (Z0t v2)=false)
def RT:tq->M6
 |.L0 v1 v2 E1 v18 v19 v20=>(1,(v19-v20).toNat,1000000,0,0,0)
def Zi7{b0:ak}{a1:Int}{a2:Int}(ob0:cj b0)(h0:b0.traits.length=b0.s.Objects.length)(h1:b0.dropped.length=b0.s.Objects.length)(h2:b0.done.length=b0.forces.length)(h3:b0.hits.length=b0.forces.length)(h4:b0.s.Objects.length<=2048)(h5:b0.forces.length<=16448)(h6:HI b0.s.Objects.length b0.hits)(h7:0<=a1)(h8:a1<(b0.forces.length:Int)):Tot (Vb b0 a1 a2) (λr=>(r=eW b0 a1 a2)):=by
 apply Tot.rn (Zi6 b0 a1 a2) RT
 .dsimp only[Vc,LT.den];refine Tot.ix λx1 h1=>?_;have oh1:gk x1:=ob0.2.1.2 x1 h1.1;have mh1:=h1.2;exact tL ⟨rfl,rfl,oh1,oh1.2.2,cl,cl,cl,cl,cl,cl,cl,bu,V,cl,cl,cl,Z6,V,tk33⟩ Rh
 rintro⟨v1,v2,E1,v18,v19,v20⟩ ⟨al0,al1,O1,ov18,cv20,i0,i1,i2,i3,i4,i5,i6,i7,i8,i9,i10,i11,i12,i13⟩;have lb_v18:=ov18.1;subst al0;subst al1;dsimp only[DF,Vd,LT.den];apply tD<;>intro h1
 .refine Tot.ix λx1 h2=>?_;have oh2:bC x1:=ov18.2 x1 h2.1;have mh2:=h2.2;apply tE<;>intro h3
  .refine tB (xB) λx2 h4=>?_;apply tE<;>intro h5
   .refine tB (Uc oh2.2) λx3 h6=>?_;apply tF<;>intro h7
    .exact wK
    exact Ce
   exact Ce
  exact Ce
 apply tO<;>intro h2
 .refine Tot.ix λx1 h3=>?_;have mh3:=h3.2;apply tO<;>intro h4
  .apply tE<;>intro h5
   .exact wK
   exact tB (Uc O1.2.1) λx2 h6=>tR tk5
  exact wK
 exact wK
def Ve{b0:ak}{a1:Int}(ob0:cj b0)(h0:b0.traits.length=b0.s.Objects.length)(h1:b0.dropped.length=b0.s.Objects.length)(h2:b0.done.length=b0.forces.length)(h3:b0.hits.length=b0.forces.length)(h4:b0.s.Objects.length<=2048)(h5:b0.forces.length<=16448)(h6:HI b0.s.Objects.length b0.hits)(h7:0<=a1)(h8:a1<(b0.forces.length:Int))(h9:bU b0.s.Objects):Tot (Vf b0 a1) (λr=>(r=dz b0 a1)):=by
 apply tZ;dsimp only[Vg,LT.den];refine Tot.ix λx1 h1=>?_;have mh1:=h1.2;apply tF<;>intro h2
 .exact wJ
 refine Tot.ix λx2 h3=>?_;have mh3:=h3.2;apply tF<;>intro h4
 .exact wJ
 refine tB (Z64 ob0.1) λx3 h5=>?_;have eh5_0:=h5.1;apply tD<;>intro h6
 .exact wJ
 refine Tot.ix λx4 h7=>?_;have mh7:=h7.2;exact wJ
def DG{b0:ak}{a1:Int}(ob0:cj b0)(h0:b0.traits.length=b0.s.Objects.length)(h1:b0.dropped.length=b0.s.Objects.length)(h2:b0.done.length=b0.forces.length)(h3:b0.hits.length=b0.forces.length)(h4:b0.s.Objects.length<=2048)(h5:b0.forces.length<=16448)(h6:HI b0.s.Objects.length b0.hits)(h7:0<=a1)(h8:a1<(b0.forces.length:Int))(h9:bU b0.s.Objects):Tot (Vh b0 a1) (λr=>(r=dp b0 a1)):=by
 apply tZ;dsimp only[Vi,LT.den];refine Tot.ix λx1 h1=>?_;have mh1:=h1.2;refine tB (Z64 ob0.1) λx2 h2=>?_;have eh2_0:=h2.1;apply tO<;>intro h3
 .apply tD<;>intro h4
  .refine Tot.ix λx3 h5=>?_;have mh5:=h5.2;exact Ca
  exact Ca
 exact Ca
abbrev Zi8(b0:ak)(a1:Int)(r:List Int):Prop:=((SzL 8 (λ_=>True)) r)/\(r.length<=b0.s.Objects.length)/\(INR b0.s.Objects.length r)/\(r=cc b0 a1)
def Zi9(b0:ak)(a1:Int):tt->Prop
 |.L0 E1 v6 v7 v42 v43 v44=>(gk E1)/\((SzL 8 (λ_=>True)) v7)/\((SzL 128 (λ_=>True)) v42)/\(0<=v44)/\(b0.traits.length=b0.s.Objects.length)/\(b0.dropped.length=b0.s.Objects.length)/\(b0.done.length=b0.forces.length)/\(b0.hits.length=b0.forces.length)/\(b0.s.Objects.length<=2048)/\(b0.forces.length<=16448)/\(HI b0.s.Objects.length b0.hits)/\(cj b0)/\(v43=(v42.length:Int))/\(v43=(b0.s.Objects.length:Int))/\(v7.length<=v44.toNat)/\(v44<=v43)/\(INR b0.s.Objects.length v7)/\(v7=zfm (gN b0 E1 v6) (λk _=>k) v42 v44)/\(b0.forces[a1.toNat]?=some E1)/\(v6=dp b0 a1)/\(v42=b0.s.Objects)/\(dz b0 a1=true)/\(bA b0.done a1=false)
def RS:tt->M6
 |.L0 E1 v6 v7 v42 v43 v44=>(1,(v43-v44).toNat,1000000,0,0,0)
def Vj{b0:ak}{a1:Int}(ob0:cj b0)(h0:b0.traits.length=b0.s.Objects.length)(h1:b0.dropped.length=b0.s.Objects.length)(h2:b0.done.length=b0.forces.length)(h3:b0.hits.length=b0.forces.length)(h4:b0.s.Objects.length<=2048)(h5:b0.forces.length<=16448)(h6:HI b0.s.Objects.length b0.hits)(h7:0<=a1)(h8:a1<(b0.forces.length:Int))(h9:bU b0.s.Objects):Tot (Vk b0 a1) (Zi8 b0 a1):=by
 apply Tot.rn (Zi9 b0 a1) RS
 .dsimp only[Vl,LT.den];refine Tot.ix λx1 h1=>?_;have mh1:=h1.2;apply tF<;>intro h2
  .refine Tot.ix λx2 h3=>?_;have oh3:(SzL 8 (λ_=>True)) x2:=ob0.2.2.2.2.2.2 x2 h3.1;have mh3:=h3.2;exact tR ⟨oh3,Ct,Cr,tk23⟩
  refine tB (Ve ob0 cl cl cl cl cl cl bu cl cl cJ) λx2 h3=>?_;have eh3_0:=h3;apply tO<;>intro h4
  .exact tR ⟨SzL.nil,Ct,Cr,tk23⟩
  refine Tot.ix λx3 h5=>?_;have oh5:gk x3:=ob0.2.1.2 x3 h5.1;have mh5:=h5.2;exact tB (DG ob0 cl cl cl cl cl cl bu cl cl cJ) λx4 h6=>tL ⟨oh5,SzL.nil,ob0.1.2.1,cl,cl,cl,cl,cl,cl,cl,bu,V,cl,cl,cl,cl,tk82,tk3,V,V,Z6,aP,n9⟩ Ch
 rintro⟨E1,v6,v7,v42,v43,v44⟩ ⟨O1,ov7,ov42,cv44,i0,i1,i2,i3,i4,i5,i6,i7,i8,i9,i10,i11,i12,i13,i14,i15,i16,i17,i18⟩;have lb_v7:=ov7.1;dsimp only[DH,Vm,LT.den];apply tD<;>intro h1
 .refine Tot.ix λx1 h2=>?_;have mh2:=h2.2;apply tE<;>intro h3
  .apply tF<;>intro h4
   .refine tB (Uo O1.1) λx2 h5=>?_;have eh5_0:=h5;apply tF<;>intro h6
    .refine Tot.ap λx3 h7=>?_;have lh7:=b7 h7;exact Ci
    apply tO<;>intro h7
    .refine Tot.ix λx3 h8=>?_;have oh8:Z0 x3:=(asz:cj b0).2.2.1.2 x3 h8.1;have mh8:=h8.2;refine tB (Z4l x1 x3 v6 E1.Source E1.Filter oh8 O1.2.1) λx4 h9=>?_;apply tF<;>intro h10
     .refine Tot.ap λx5 h11=>?_;have lh11:=b7 h11;exact Ci
     exact sB
    exact sB
   apply tO<;>intro h5
   .refine Tot.ix λx2 h6=>?_;have oh6:Z0 x2:=(asz:cj b0).2.2.1.2 x2 h6.1;have mh6:=h6.2;refine tB (Z4l x1 x2 v6 E1.Source E1.Filter oh6 O1.2.1) λx3 h7=>?_;apply tF<;>intro h8
    .refine Tot.ap λx4 h9=>?_;have lh9:=b7 h9;exact Ci
    exact sB
   exact sB
  exact sB
 exact tR ⟨ov7,Ct,Cr,tk23⟩
abbrev Zja(b0:ak)(a1:Int)(a2:Int)(r:List Int):Prop:=((SzL 8 (λ_=>True)) r)/\(ML b0.forces a1 r)/\(r=fW b0 a1 a2)
def Zjb(b0:ak)(a1:Int)(a2:Int):tu->Prop
 |.L0 v1 v2 E1 v8 v23 v24 v25=>(v1=a1)/\(v2=a2)/\(gk E1)/\((SzL 8 (λ_=>True)) v8)/\((SzL 176 bC) v23)/\(0<=v25)/\(b0.traits.length=b0.s.Objects.length)/\(b0.dropped.length=b0.s.Objects.length)/\(b0.done.length=b0.forces.length)/\(b0.hits.length=b0.forces.length)/\(b0.s.Objects.length<=2048)/\(b0.forces.length<=16448)/\(HI b0.s.Objects.length b0.hits)/\(cj b0)/\(0<=v1)/\(v1<(b0.forces.length:Int))/\(v24=(v23.length:Int))/\(v24=(v8.length:Int))/\(v24=(E1.Mods.length:Int))/\(b0.forces[v1.toNat]?=some E1)/\(v23=E1.Mods)/\(v8=v23.mapIdx (bZ (λ_ m=>fV b0.s b0.traits (dp b0 v1) E1.Source v2 m) (λ_ _=>0) v25))
def RU:tu->M6
 |.L0 v1 v2 E1 v8 v23 v24 v25=>(1,(v24-v25).toNat,1000000,0,0,0)
def Vn{b0:ak}{a1:Int}{a2:Int}(ob0:cj b0)(h0:b0.traits.length=b0.s.Objects.length)(h1:b0.dropped.length=b0.s.Objects.length)(h2:b0.done.length=b0.forces.length)(h3:b0.hits.length=b0.forces.length)(h4:b0.s.Objects.length<=2048)(h5:b0.forces.length<=16448)(h6:HI b0.s.Objects.length b0.hits)(h7:0<=a1)(h8:a1<(b0.forces.length:Int))(h9:bU b0.s.Objects):Tot (Vo b0 a1 a2) (Zja b0 a1 a2):=by
 apply Tot.rn (Zjb b0 a1 a2) RU
 .dsimp only[Vp,LT.den];refine Tot.ix λx1 h1=>?_;have oh1:gk x1:=ob0.2.1.2 x1 h1.1;have mh1:=h1.2;have q1:=oh1.2.2.1;exact tB (Tot.mk) λx2 h2=>tL ⟨rfl,rfl,oh1,SzL.tr,oh1.2.2,cl,cl,cl,cl,cl,cl,cl,bu,V,cl,cl,cl,cl,cl,V,Z6,tk9⟩ Cf
 rintro⟨v1,v2,E1,v8,v23,v24,v25⟩ ⟨al0,al1,O1,ov8,ov23,cv25,i0,i1,i2,i3,i4,i5,i6,i7,i8,i9,i10,i11,i12,i13,i14,i15⟩;have lb_v8:=ov8.1;have lb_v23:=ov23.1;subst al0;subst al1;dsimp only[DJ,Vq,LT.den];apply tD<;>intro h1
 .refine Tot.ix λx1 h2=>?_;have oh2:bC x1:=ov23.2 x1 h2.1;have mh2:=h2.2;apply tE<;>intro h3
  .refine tB (xB) λx2 h4=>?_;apply tE<;>intro h5
   .refine tB (DG (asz:cj b0) cl cl cl cl cl cl bu cl cl cJ) λx3 h6=>tB (ZiA b0.s b0.traits x3 E1.Source x1.Filter (asz:cj b0).1 (asz:cj b0).2.2.1 oh2.2) λx4 h7=>?_;have eh7_1:=h7.2;refine Tot.ix λx5 h8=>tB (Tot.set O O) λx6 h9=>?_;have q1:=wr (v25+1);exact tL ⟨rfl,rfl,O1,SzL.tr,ov23,cl,cl,cl,cl,cl,cl,cl,bu,V,cl,cl,cl,cl,cl,V,Z6,tk9⟩ Cf
   exact Ri
  exact Ri
 exact tR ⟨ov8,(by exact ml_i V O),(by exact nu_e V O V V rfl)⟩
def Vr{b0:ak}{a1:Int}{a2:Int}(ob0:cj b0)(h0:b0.traits.length=b0.s.Objects.length)(h1:b0.dropped.length=b0.s.Objects.length)(h2:b0.done.length=b0.forces.length)(h3:b0.hits.length=b0.forces.length)(h4:b0.s.Objects.length<=2048)(h5:b0.forces.length<=16448)(h6:HI b0.s.Objects.length b0.hits)(h7:0<=a1)(h8:a1<(b0.forces.length:Int))(h9:bU b0.s.Objects):Tot (Vs b0 a1 a2) (λr=>(Z0w r)/\(r=fH b0 a1 a2)):=by apply tZ;dsimp only[Vt,LT.den];refine tB (Ve ob0 cl cl cl cl cl cl bu cl cl cJ) λx1 h1=>tB (Vj ob0 cl cl cl cl cl cl bu cl cl cJ) λx2 h2=>?_;have eh2_3:=h2.2.2.2;refine tB (Vn ob0 cl cl cl cl cl cl bu cl cl cJ) λx3 h3=>?_;have eh3_2:=h3.2.2;exact tR ⟨⟨h2.1,h3.1⟩,(by exact lk_e V V V)⟩
def Zjc{b0:ak}(ob0:cj b0):Tot (Vu b0) (λr=>(cj r)/\(r=b0)):=by apply tZ;dsimp only[Vv,LT.den];have q1:=ob0.2.2.1.1;refine tB (tA Tv bE) λx1 h1=>tB (UA ob0.2.2.2.1) λx2 h2=>?_;have eh2_1:=h2.2;refine tB (UA ob0.2.2.2.2.1) λx3 h3=>?_;have eh3_1:=h3.2;have q2:=ob0.2.2.2.2.2.1;exact tB (tA Tv bE) λx4 h4=>tR ⟨⟨ob0.1,ob0.2.1,ob0.2.2.1,h2.1,h3.1,ob0.2.2.2.2.2⟩,Cy⟩
abbrev Zjd(b0:ak)(a1:Int)(a2:Int)(r:ak):Prop:=(cj r)/\(r.traits.length=r.s.Objects.length)/\(r.dropped.length=r.s.Objects.length)/\(r.done.length=r.forces.length)/\(r.hits.length=r.forces.length)/\(r.s.Objects.length<=2048)/\(r.forces.length<=16448)/\(HI r.s.Objects.length r.hits)/\(r.s=b0.s)/\(r.forces=b0.forces)/\(r=bY b0 a1 a2)
def Zje(b0:ak)(a1:Int)(a2:Int):pc->Prop
 |.L0 c0 v1 v2 v6 v7 v8 v23 v24 v25=>(v1=a1)/\(v2=a2)/\(cj c0)/\((SzL 8 (λ_=>True)) v6)/\((SzL 8 (λ_=>True)) v7)/\((SzL 8 (λ_=>True)) v23)/\(0<=v25)/\(c0.traits.length=c0.s.Objects.length)/\(c0.dropped.length=c0.s.Objects.length)/\(c0.done.length=c0.forces.length)/\(c0.hits.length=c0.forces.length)/\(c0.s.Objects.length<=2048)/\(c0.forces.length<=16448)/\(HI c0.s.Objects.length c0.hits)/\(c0.s=b0.s)/\(c0.forces=b0.forces)/\(0<=v1)/\(v1<(c0.forces.length:Int))/\(v6.length<=c0.s.Objects.length)/\(INR c0.s.Objects.length v6)/\(ML c0.forces v1 v7)/\(v24=(v23.length:Int))/\(INR c0.s.Objects.length v23)/\(c0.traits=TRS b0 v1 v2 v7 v8 v23 v25)/\(c0.dropped=DRS b0 v1 v2 v23 v25)/\(c0.done=b0.done)/\(c0.hits=b0.hits)/\(v6=cc b0 v1)/\(v7=fW b0 v1 v2)/\(v8=dp b0 v1)/\(v23=v6)
 |.L1 c0 v1 v2 v6 v7 v8 v10 v23 v24 v25 v36 v37 v38=>(v1=a1)/\(v2=a2)/\(cj c0)/\((SzL 8 (λ_=>True)) v6)/\((SzL 8 (λ_=>True)) v7)/\((SzL 8 (λ_=>True)) v23)/\((SzL 176 bC) v36)/\(0<=v38)/\(0<=v25)/\(v25<v24)/\(c0.traits.length=c0.s.Objects.length)/\(c0.dropped.length=c0.s.Objects.length)/\(c0.done.length=c0.forces.length)/\(c0.hits.length=c0.forces.length)/\(c0.s.Objects.length<=2048)/\(c0.forces.length<=16448)/\(HI c0.s.Objects.length c0.hits)/\(c0.s=b0.s)/\(c0.forces=b0.forces)/\(0<=v1)/\(v1<(c0.forces.length:Int))/\(v6.length<=c0.s.Objects.length)/\(INR c0.s.Objects.length v6)/\(ML c0.forces v1 v7)/\(v24=(v23.length:Int))/\(INR c0.s.Objects.length v23)/\(0<=v10)/\(v10<(c0.s.Objects.length:Int))/\(v37=(v36.length:Int))/\(v37=(v7.length:Int))/\(c0.traits=dm (mfS v36 v7 v8 v2 v38) (TRS b0 v1 v2 v7 v8 v23 v25) v10)/\(c0.dropped=dm (drS v36 v2 v38) (DRS b0 v1 v2 v23 v25) v10)/\(c0.done=b0.done)/\(c0.hits=b0.hits)/\(v6=cc b0 v1)/\(v7=fW b0 v1 v2)/\(v8=dp b0 v1)/\(v23=v6)/\(v36=(fAt b0 v1).Mods)/\(v23[v25.toNat]?=some v10)/\(v38<=v37)
def RX:pc->M6
 |.L0 c0 v1 v2 v6 v7 v8 v23 v24 v25=>(1,(v24-v25).toNat,1000000,0,0,0)
 |.L1 c0 v1 v2 v6 v7 v8 v10 v23 v24 v25 v36 v37 v38=>(1,(v24-v25).toNat,1,(v37-v38).toNat,1000000,0)
def JY{b0:ak}{a1:Int}{a2:Int}(ob0:cj b0)(h0:b0.traits.length=b0.s.Objects.length)(h1:b0.dropped.length=b0.s.Objects.length)(h2:b0.done.length=b0.forces.length)(h3:b0.hits.length=b0.forces.length)(h4:b0.s.Objects.length<=2048)(h5:b0.forces.length<=16448)(h6:HI b0.s.Objects.length b0.hits)(h7:0<=a1)(h8:a1<(b0.forces.length:Int))(h9:bU b0.s.Objects):Tot (Vw b0 a1 a2) (Zjd b0 a1 a2):=by
 apply Tot.rn (Zje b0 a1 a2) RX
 .dsimp only[Vx,LT.den];refine tB (Vj ob0 cl cl cl cl cl cl bu cl cl cJ) λx1 h1=>?_;have eh1_1:=h1.2.1;have eh1_2:=h1.2.2.1;have eh1_3:=h1.2.2.2;refine tB (Vn ob0 cl cl cl cl cl cl bu cl cl cJ) λx2 h2=>?_;have eh2_1:=h2.2.1;have eh2_2:=h2.2.2;refine tB (DG ob0 cl cl cl cl cl cl bu cl cl cJ) λx3 h3=>?_;have q1:=h1.1.1;exact tL ⟨rfl,rfl,ob0,h1.1,h2.1,h1.1,cl,cl,cl,cl,cl,cl,cl,bu,cx,cx,cl,cl,cl,dR,dR,cl,dR,tk62,tk63,Z6,Z6,V,V,V,Z6⟩ oN
 intro s hs;cases s with
 |L0 c0 v1 v2 v6 v7 v8 v23 v24 v25=>
  obtain⟨al0,al1,oc0,ov6,ov7,ov23,cv25,i0,i1,i2,i3,i4,i5,i6,i7,i8,i9,i10,i11,i12,i13,i14,i15,i16,i17,i18,i19,i20,i21,i22,i23⟩:=hs;have lb_v7:=ov7.1;have lb_v23:=ov23.1;subst al0;subst al1;dsimp only[xI,Vy,LT.den];apply tD<;>intro h1
  .refine Tot.ix λx1 h2=>?_;have mh2:=h2.2;have zh2:=om (by assumption:INR _ v23) mh2;have mh2:=h2.2;refine Tot.ix λx2 h3=>?_;have oh3:gk x2:=oc0.2.1.2 x2 h3.1;have mh3:=h3.2;have q1:=oh3.2.2.1;exact tL ⟨rfl,rfl,oc0,ov6,ov7,ov23,oh3.2.2,cl,cl,cl,cl,cl,cl,cl,cl,cl,bu,cx,cx,cl,cl,cl,dR,dR,cl,dR,cl,cl,cl,wQ,tk17,tk11,Z6,Z6,V,V,V,Z6,wU,V,O⟩ oN
  refine Tot.ix λx1 h2=>tB (Tot.set O O) λx2 h3=>Tot.ix λx3 h4=>?_;have mh4:=h4.2;exact tB (Tot.set O O) λx4 h5=>tR ⟨⟨oc0.1,oc0.2.1,oc0.2.2.1,oc0.2.2.2.1,SzL.tr,⟨lo,λe he=>(h5.2.1 e he).elim (λw=>by rw[w];exact ov6) (oc0.2.2.2.2.2.2 e)⟩⟩,cl,cl,cl,cl,cl,cl,(by first|assumption|exact Pf|exact Pg (by assumption:(_:Int)=_/\∀y:List Int,y∈_->y=[]).2|exact Zeq V V V (by assumption:_/\(∀e:List Int,e∈_->e=_\/e∈_)/\_).2.1),cx,cx,(by exact Zjf V V V V V V V V V V V V O)⟩
 |L1 c0 v1 v2 v6 v7 v8 v10 v23 v24 v25 v36 v37 v38=>
  obtain⟨al0,al1,oc0,ov6,ov7,ov23,ov36,cv38,cv25,bd9,i0,i1,i2,i3,i4,i5,i6,i7,i8,i9,i10,i11,i12,i13,i14,i15,i16,i17,i18,i19,i20,i21,i22,i23,i24,i25,i26,i27,i28,i29,i30⟩:=hs;have lb_v7:=ov7.1;have lb_v23:=ov23.1;have lb_v36:=ov36.1;subst al0;subst al1;dsimp only[xI,Vz,LT.den];apply tD<;>intro h1
  .refine Tot.ix λx1 h2=>?_;have oh2:bC x1:=ov36.2 x1 h2.1;have mh2:=h2.2;refine tB (xB) λx2 h3=>?_;apply tN<;>intro h4
   .have q1:=wr (v38+1);exact tL ⟨rfl,rfl,oc0,ov6,ov7,ov23,ov36,cl,cl,cl,cl,cl,cl,cl,cl,cl,bu,cx,cx,cl,cl,cl,dR,dR,cl,dR,cl,cl,cl,wQ,tk17,tk11,Z6,Z6,V,V,V,Z6,wU,V,O⟩ oN
   refine Tot.ix λx3 h5=>?_;have oh5:Z0 x3:=oc0.2.2.1.2 x3 h5.1;have mh5:=h5.2;refine Tot.ix λx4 h6=>?_;have mh6:=h6.2;refine tB (ZiN oh5 oh2) λx5 h7=>?_;have eh7_1:=h7.2;refine tB (Tot.set O O) λx6 h8=>?_;apply tE<;>intro h9
   .refine Tot.ix λx7 h10=>?_;have mh10:=h10.2;refine tB (Tot.set O O) λx8 h11=>?_;have q1:=wr (v38+1);exact tL ⟨rfl,rfl,⟨oc0.1,oc0.2.1,⟨lo,λe he=>(h8.2.1 e he).elim (λw=>by rw[w];exact h7.1) (oc0.2.2.1.2 e)⟩,SzL.tr,oc0.2.2.2.2.1,oc0.2.2.2.2.2⟩,ov6,ov7,ov23,ov36,cl,cl,cl,cl,cl,cl,cl,cl,cl,bu,cx,cx,cl,cl,cl,dR,dR,cl,dR,cl,cl,cl,wQ,tk17,tk11,Z6,Z6,V,V,V,Z6,wU,V,O⟩ oN
   have q1:=wr (v38+1);exact tL ⟨rfl,rfl,⟨oc0.1,oc0.2.1,⟨lo,λe he=>(h8.2.1 e he).elim (λw=>by rw[w];exact h7.1) (oc0.2.2.1.2 e)⟩,oc0.2.2.2.1,oc0.2.2.2.2.1,oc0.2.2.2.2.2⟩,ov6,ov7,ov23,ov36,cl,cl,cl,cl,cl,cl,cl,cl,cl,bu,cx,cx,cl,cl,cl,dR,dR,cl,dR,cl,cl,cl,wQ,tk17,tk11,Z6,Z6,V,V,V,Z6,wU,V,O⟩ oN
  have q1:=wr (v25+1);exact tL ⟨rfl,rfl,oc0,ov6,ov7,ov23,cl,cl,cl,cl,cl,cl,cl,bu,cx,cx,cl,cl,cl,dR,dR,cl,dR,tk62,tk63,Z6,Z6,V,V,V,Z6⟩ oN
def Zjg(b0:ak)(a1:List Int)(a2:Int):lu->Prop
 |.L0 v2 v7 v27 v28=>(v2=a2)/\((SzL 24 (SzL 1 (λ_=>True))) v7)/\(0<=v28)/\(bU b0.s.Objects)/\(b0.traits.length=b0.s.Objects.length)/\(b0.dropped.length=b0.s.Objects.length)/\(b0.done.length=b0.forces.length)/\(b0.hits.length=b0.forces.length)/\(b0.s.Objects.length<=2048)/\(b0.forces.length<=16448)/\(HI b0.s.Objects.length b0.hits)/\(cj b0)/\(v27=(v7.length:Int))/\(RWV b0.forces.length v7 v28)/\(INR b0.forces.length a1)/\(a1.length<=16448)/\(v7.length=b0.forces.length)/\(FLS v7)
 |.L1 v2 v7 v9 v43 v44=>(v2=a2)/\((SzL 24 (SzL 1 (λ_=>True))) v7)/\(0<=v44)/\(bU b0.s.Objects)/\(b0.traits.length=b0.s.Objects.length)/\(b0.dropped.length=b0.s.Objects.length)/\(b0.done.length=b0.forces.length)/\(b0.hits.length=b0.forces.length)/\(b0.s.Objects.length<=2048)/\(b0.forces.length<=16448)/\(HI b0.s.Objects.length b0.hits)/\(cj b0)/\(v7.length=b0.forces.length)/\(MSZ v9)/\(RWS b0.forces.length v7)/\(v43=(a1.length:Int))/\(INR b0.forces.length a1)/\(FLS v7)/\(MPV b0 v2 a1 v44 v9)/\(POS a1)
 |.L2 v2 v7 v9 v69 v70=>(v2=a2)/\((SzL 24 (SzL 1 (λ_=>True))) v7)/\(0<=v70)/\(bU b0.s.Objects)/\(b0.traits.length=b0.s.Objects.length)/\(b0.dropped.length=b0.s.Objects.length)/\(b0.done.length=b0.forces.length)/\(b0.hits.length=b0.forces.length)/\(b0.s.Objects.length<=2048)/\(b0.forces.length<=16448)/\(HI b0.s.Objects.length b0.hits)/\(cj b0)/\(v7.length=b0.forces.length)/\(MSZ v9)/\(RWS b0.forces.length v7)/\(v69=(a1.length:Int))/\(INR b0.forces.length a1)/\(MPE b0 v2 a1 v9)/\(POS a1)/\(ND2 b0 v2 a1 v70 0 v7)
 |.L3 v2 v7 v9 v14 E1 v69 v70 v81 v82=>(v2=a2)/\((SzL 24 (SzL 1 (λ_=>True))) v7)/\(cj E1)/\(0<=v82)/\(0<=v70)/\(v70<v69)/\(bU b0.s.Objects)/\(b0.traits.length=b0.s.Objects.length)/\(b0.dropped.length=b0.s.Objects.length)/\(b0.done.length=b0.forces.length)/\(b0.hits.length=b0.forces.length)/\(b0.s.Objects.length<=2048)/\(b0.forces.length<=16448)/\(HI b0.s.Objects.length b0.hits)/\(cj b0)/\(v7.length=b0.forces.length)/\(MSZ v9)/\(RWS b0.forces.length v7)/\(v69=(a1.length:Int))/\(v81=(a1.length:Int))/\(INR b0.forces.length a1)/\(0<=v14)/\(v14<(b0.forces.length:Int))/\(E1.forces.length=b0.forces.length)/\(E1.traits.length=E1.s.Objects.length)/\(E1.dropped.length=E1.s.Objects.length)/\(E1.done.length=E1.forces.length)/\(E1.hits.length=E1.forces.length)/\(E1.s.Objects.length<=2048)/\(E1.forces.length<=16448)/\(HI E1.s.Objects.length E1.hits)/\(MPE b0 v2 a1 v9)/\(POS a1)/\(E1=bY b0 v14 v2)/\(a1[v70.toNat]?=some v14)/\(bU E1.s.Objects)/\(ND2 b0 v2 a1 v70 v82 v7)
def RR:lu->M6
 |.L0 v2 v7 v27 v28=>(5,(v27-v28).toNat,1000000,0,0,0)
 |.L1 v2 v7 v9 v43 v44=>(3,(v43-v44).toNat,1000000,0,0,0)
 |.L2 v2 v7 v9 v69 v70=>(1,(v69-v70).toNat,1000000,0,0,0)
 |.L3 v2 v7 v9 v14 E1 v69 v70 v81 v82=>(1,(v69-v70).toNat,1,(v81-v82).toNat,1000000,0)
def Zar{b0:ak}{a1:List Int}{a2:Int}(ob0:cj b0)(oa1:(SzL 8 (λ_=>True)) a1)(h0:b0.traits.length=b0.s.Objects.length)(h1:b0.dropped.length=b0.s.Objects.length)(h2:b0.done.length=b0.forces.length)(h3:b0.hits.length=b0.forces.length)(h4:b0.s.Objects.length<=2048)(h5:b0.forces.length<=16448)(h6:HI b0.s.Objects.length b0.hits)(h7:a1.length<=16448)(h8:INR b0.forces.length a1)(h9:bU b0.s.Objects):Tot (VA b0 a1 a2) (λr=>((SzL 24 (SzL 1 (λ_=>True))) r)/\(NDM b0 a2 a1 r)):=by
 apply Tot.rn (Zjg b0 a1 a2) RR
 .dsimp only[VB,LT.den];exact tB (Tot.mk) λx1 h1=>tL ⟨rfl,⟨lo,λe he=>by rw[h1.2 e he];exact SzL.nil⟩,cl,cJ,cl,cl,cl,cl,cl,cl,bu,V,cl,tk76,V,cl,cl,tk87⟩ mJ
 intro s hs;cases s with
 |L0 v2 v7 v27 v28=>
  obtain⟨al0,ov7,cv28,i0,i1,i2,i3,i4,i5,i6,i7,i8,i9,i10,i11,i12,i13,i14⟩:=hs;subst al0;dsimp only[pd,VC,LT.den];apply tD<;>intro h1
  .refine tB (Tot.mk) λx1 h2=>Tot.ix λx2 h3=>tB (Tot.set O O) λx3 h4=>?_;have q1:=wr (v28+1);exact tL ⟨rfl,⟨lo,λe he=>(h4.2.1 e he).elim (λw=>by rw[w];exact SzL.tr) (ov7.2 e)⟩,cl,cJ,cl,cl,cl,cl,cl,cl,bu,V,cl,tk76,V,cl,cl,tk87⟩ mJ
  exact Rl
 |L1 v2 v7 v9 v43 v44=>
  obtain⟨al0,ov7,cv44,i0,i1,i2,i3,i4,i5,i6,i7,i8,i9,i10,i11,i12,i13,i14,i15,i16⟩:=hs;subst al0;dsimp only[pd,VD,LT.den];apply tD<;>intro h1
  .refine Tot.ix λx1 h2=>?_;have mh2:=h2.2;have zh2:=om (by assumption:INR b0.forces.length a1) mh2;have yh2:=h2.1;have mh2:=h2.2;refine tB (Zi7 (asz:cj b0) cl cl cl cl cl cl bu cl cl) λx2 h3=>?_;apply tF<;>intro h4
   .refine tB (Vr (asz:cj b0) cl cl cl cl cl cl bu cl cl cJ) λx3 h5=>?_;have eh5_1:=h5.2;have sh5:SZV x3:=h5.1;refine tB (Tot.lk) λx4 h6=>?_;exact Rm
   exact Rm
  apply tE<;>intro h2
  .exact B3
  apply tD<;>intro h3
  .exact B3
  exact Rj
 |L2 v2 v7 v9 v69 v70=>
  obtain⟨al0,ov7,cv70,i0,i1,i2,i3,i4,i5,i6,i7,i8,i9,i10,i11,i12,i13,i14,i15,i16⟩:=hs;subst al0;dsimp only[pd,VE,LT.den];apply tD<;>intro h1
  .refine Tot.ix λx1 h2=>?_;have mh2:=h2.2;have zh2:=om (by assumption:INR b0.forces.length a1) mh2;have yh2:=h2.1;have mh2:=h2.2;refine tB (Zjc (asz:cj b0)) λx2 h3=>?_;have eh3_1:=h3.2;have uh3_0:x2.traits.length=x2.s.Objects.length:=by rw[eh3_1];assumption
   have uh3_1:x2.dropped.length=x2.s.Objects.length:=ir
   have uh3_2:x2.done.length=x2.forces.length:=ir
   have uh3_3:x2.hits.length=x2.forces.length:=ir
   have uh3_4:x2.s.Objects.length<=2048:=ir
   have uh3_5:x2.forces.length<=16448:=ir
   have uh3_6:HI x2.s.Objects.length x2.hits:=ir
   have uh5_f:x2.forces.length=b0.forces.length:=by rw[eh3_1]
   have uh5_o:bU x2.s.Objects:=ir
   refine tB (JY h3.1 cl cl cl cl cl cl bu cl cl cJ) λx3 h4=>?_;have eh4_1:=h4.2.1;have eh4_2:=h4.2.2.1;have eh4_3:=h4.2.2.2.1;have eh4_4:=h4.2.2.2.2.1;have eh4_5:=h4.2.2.2.2.2.1;have eh4_6:=h4.2.2.2.2.2.2.1;have eh4_7:=h4.2.2.2.2.2.2.2.1;have eh4_8:=h4.2.2.2.2.2.2.2.2.1;have eh4_10:=h4.2.2.2.2.2.2.2.2.2.2;exact tL ⟨rfl,ov7,h4.1,cl,cl,cl,cJ,cl,cl,cl,cl,cl,cl,bu,V,cl,tk90,tk67,cl,cl,V,cl,cl,dO,cl,cl,cl,cl,cl,cl,bu,V,jc,Cj,V,cJ,tk2⟩ mJ
  exact B3
 |L3 v2 v7 v9 v14 E1 v69 v70 v81 v82=>
  obtain⟨al0,ov7,O1,cv82,cv70,bd5,i0,i1,i2,i3,i4,i5,i6,i7,i8,i9,i10,i11,i12,i13,i14,i15,i16,i17,i18,i19,i20,i21,i22,i23,i24,i25,i26,i27,i28,i29,i30⟩:=hs;subst al0;dsimp only[pd,VF,LT.den];apply tD<;>intro h1
  .refine Tot.ix λx1 h2=>?_;have mh2:=h2.2;have zh2:=om (by assumption:INR b0.forces.length a1) mh2;have yh2:=h2.1;have mh2:=h2.2;refine tB (Tot.lk) λx2 h3=>?_;apply tF<;>intro h4
   .apply tN<;>intro h5
    .refine Tot.ix λx3 h6=>?_;have oh6:(SzL 1 (λ_=>True)) x3:=ov7.2 x3 h6.1;have mh6:=h6.2;(first|have wh6:=Z32 (by assumption:RWS _ v7) mh6|skip);have mh6:=h6.2;refine tB (Vr O1 cl cl cl cl cl cl bu cl cl cJ) λx4 h7=>?_;have eh7_1:=h7.2;refine tB (Z1h szx h7.1) λx5 h8=>Tot.ix λx6 h9=>?_;have mh9:=h9.2;refine tB (Tot.setM) λx7 h10=>?_;have lh10:x7.length=v7.length:=by rw[h10,ew]
     have q1:=wr (v82+1);exact tL ⟨rfl,SzL.setM h10 ov7 oh6,O1,cl,cl,cl,cJ,cl,cl,cl,cl,cl,cl,bu,V,cl,tk90,tk67,cl,cl,V,cl,cl,dO,cl,cl,cl,cl,cl,cl,bu,V,jc,Cj,V,cJ,tk2⟩ mJ
    exact Rp
   exact Rp
  have q1:=wr (v70+1);exact Rj
def VG{a0:Int}{a1:Int}:Tot (VH a0 a1) (λr=>(r = !neI a1 a0)):=by apply tZ;dsimp only[VI,LT.den];exact tR (by simp[neI])
def Zjh(a0:List Int)(a1:Int):tv->Prop
 |.L0 v0 w1_0 v7 v8=>(v0=a0)/\(w1_0=a1)/\((SzL 8 (λ_=>True)) v0)/\(0<=v8)/\(v7=(v0.length:Int))/\(∀(k:Nat) x,(k:Int)<v8->v0[k]?=some x->neI w1_0 x=true)
def RK:tv->M6
 |.L0 v0 w1_0 v7 v8=>(1,(v7-v8).toNat,1000000,0,0,0)
def Zji{a0:List Int}{a1:Int}(oa0:(SzL 8 (λ_=>True)) a0):Tot (VJ a0 a1) (λr=>(FD a0 (neI a1) r)):=by
 apply Tot.rn (Zjh a0 a1) RK
 .dsimp only[VK,LT.den];exact tL ⟨rfl,rfl,oa0,cl,cl,tk73⟩ RJ
 rintro⟨v0,w1_0,v7,v8⟩ ⟨al0,al1,ov0,cv8,i0,i1⟩;have lb_v0:=ov0.1;subst al0;subst al1;dsimp only[DK,VL,LT.den];apply tD<;>intro h1
 .refine Tot.ix λx1 h2=>?_;have mh2:=h2.2;refine tB (VG) λx2 h3=>?_;apply tF<;>intro h4
  .exact QD
  have q1:=wr (v8+1);exact tL ⟨rfl,rfl,ov0,cl,cl,tk73⟩ RJ
 exact QD
def Zjj(b0:List Int)(a1:Int):tw->Prop
 |.L0 v0 w1_0 v5 v6=>(w1_0=a1)/\((SzL 8 (λ_=>True)) v0)/\(0<=v6)/\(DI b0 v0 (neI w1_0) v5 v6)/\(v6<=(v0.length:Int))
def RF:tw->M6
 |.L0 v0 w1_0 v5 v6=>(1,((v0.length:Int)-v6).toNat,1000000,0,0,0)
def Zau{b0:List Int}{a1:Int}(ob0:(SzL 8 (λ_=>True)) b0):Tot (VM b0 a1) (λr=>((SzL 8 (λ_=>True)) r)/\(r=b0.filter (neI a1))):=by
 apply Tot.rn (Zjj b0 a1) RF
 .have lb_b0:=ob0.1;dsimp only[VN,LT.den];refine tB (Zji ob0) λx1 h1=>?_;have eh1_0:=h1;have ph1:=ZbY eh1_0;apply tE<;>intro h2
  .exact tR ⟨ob0,tk51⟩
  have q1:=wr (x1+1);exact tL ⟨rfl,ob0,cl,tk22,cl⟩ tk96
 rintro⟨v0,w1_0,v5,v6⟩ ⟨al0,ov0,cv6,i0,i1⟩;have lb_v0:=ov0.1;subst al0;dsimp only[DL,VO,LT.den];have l0:=i0.1;have l1:=i0.2.1;have l2:=i0.2.2.1;apply tD<;>intro h1
 .refine Tot.ix λx1 h2=>?_;have mh2:=h2.2;refine tB (VG) λx2 h3=>?_;apply tO<;>intro h4
  .refine Tot.ix λx3 h5=>tB (Tot.set O O) λx4 h6=>?_;have q1:=wr (v5+1);have q2:=wr (v6+1);exact tL ⟨rfl,SzL.tr,cl,tk22,cl⟩ tk96
  have q1:=wr (v6+1);exact tL ⟨rfl,ov0,cl,tk22,cl⟩ tk96
 refine tB (Tot.clr O O) λx1 h2=>?_;have vh2:=h2.2.2;refine tB (Tot.slice O O O) λx2 h3=>?_;have vh3:=h3.2.2;exact tR ⟨SzL.tr,tk51⟩
end Go.PW
