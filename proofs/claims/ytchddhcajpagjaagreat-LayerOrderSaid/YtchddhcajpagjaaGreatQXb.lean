import Derived.Test.YtchddhcajpagjaaGreatQX
set_option linter.all false
set_option maxRecDepth 100000
namespace Go.PW
def Zaju(a0:List Zm)(a1:Zk):Zgx->Prop
 | .L0 v0 E0 v5 v13 v14 v15=>(v0=a0)/\(E0=a1)/\((SzL 176 Zag) v0)/\(Z8 E0)/\((SzL 224 Zbt) v5)/\((SzL 128 (fun _=>True)) v13)/\(0<=v15)/\(E0.Objects.length<=2048)/\(E0.Conts.length<=64)/\(∀ c,c∈v0->c.Abilities.length<=8)/\(v5=obF fL v0 v13 v15)/\(v13=E0.Objects)/\(v14=(v13.length:Int))/\(v15<=v14)
 | .L1 v0 E0 v5 E1 v13 v14 v15 v25 v26 v27=>(v0=a0)/\(E0=a1)/\((SzL 176 Zag) v0)/\(Z8 E0)/\((SzL 224 Zbt) v5)/\((SzL 128 (fun _=>True)) v13)/\((SzL 640 Z5) v25)/\(0<=v27)/\(0<=v15)/\(v15 < v14)/\(E0.Objects.length<=2048)/\(E0.Conts.length<=64)/\(∀ c,c∈v0->c.Abilities.length<=8)/\(v5=obF fL v0 v13 v15++abF (fL E1) v25 v27)/\(E1.Zone=0)/\(v13[v15.toNat]?=some E1)/\(v25=(baV v0 E1).Abilities)/\(v13=E0.Objects)/\(v14=(v13.length:Int))/\(v15 < v14)/\(v26=(v25.length:Int))/\(v27<=v26)
 | .L2 v5 v54 v55 v56=>((SzL 224 Zbt) v5)/\((SzL 80 Zfp) v54)/\(0<=v56)/\(∀ c,c∈a0->c.Abilities.length<=8)/\(a1.Objects.length<=2048)/\(a1.Conts.length<=64)/\(v5=obF fL a0 a1.Objects a1.Objects.length++coF gL v54 v56)/\(v54=a1.Conts)/\(v55=(v54.length:Int))/\(v56<=v55)
def Z4d:Zgx->M6
 | .L0 v0 E0 v5 v13 v14 v15=>(3,(v14 - v15).toNat,1000000,0,0,0)
 | .L1 v0 E0 v5 E1 v13 v14 v15 v25 v26 v27=>(3,(v14 - v15).toNat,1,(v26 - v27).toNat,1000000,0)
 | .L2 v5 v54 v55 v56=>(1,(v55 - v56).toNat,1000000,0,0,0)
theorem Zajv{a0:List Zm}{a1:Zk}(oa0:(SzL 176 Zag) a0)(oa1:Z8 a1)(h0:a1.Objects.length<=2048)(h1:a1.Conts.length<=64)(h2:∀ c,c∈a0->c.Abilities.length<=8):Tot (Z0v a0 a1) (fun r=>((SzL 224 Zbt) r)/\(r=FS fL gL a0 a1)):=by
 apply Tot.rn (Zaju a0 a1) Z4d
 .dsimp only [Z6q,LT.den];exact tL ⟨rfl,rfl,oa0,oa1,SzL.nil,oa1.2.1,cl,cl,cl,Zf5,tk21,Zai,cs⟩ Z8w
 intro s hs;cases s with
 | L0 v0 E0 v5 v13 v14 v15=>
  obtain⟨al0,al1,ov0,O0,ov5,ov13,cv15,i0,i1,i2,i3,i4,i5,i6⟩:=hs;have lb_v5:=ov5.1;have lb_v13:=ov13.1;subst al0;subst al1;dsimp only [Zlp,Z3d,LT.den];have lq:v5.length<=8*2048:=by rw [(by assumption:v5=obF _ _ _ _)];have:=Zaen (f:=fL) (l:=v13) (v:=v15) (by assumption:∀ c,c∈v0->_);have:v13.length<=2048:=Zbdv;omega
  apply tD<;>intro h1
  .refine Tot.ix fun x1 h2=>?_;have mh2:=h2.2;apply tN<;>intro h3
   .exact Zbdg
   refine tB (Zah1 ov0) fun x2 h4=>?_;have q1:=h4.1.2.2.1;exact tL ⟨rfl,rfl,ov0,O0,ov5,ov13,h4.1.2.2,cl,cl,cl,cl,cl,Zf5,tk9,cl,V,Zf5,V,cs⟩ Z8w
  have q1:=O0.2.2.2.2.2.2.1.1;exact tL ⟨ov5,O0.2.2.2.2.2.2.1,cl,Zf5,cl,cl,tk16,Za48,cs⟩ Z8w
 | L1 v0 E0 v5 E1 v13 v14 v15 v25 v26 v27=>
  obtain⟨al0,al1,ov0,O0,ov5,ov13,ov25,cv27,cv15,bd9,i0,i1,i2,i3,i4,i5,i6,i7,i8,i9,i10,i11⟩:=hs;have lb_v5:=ov5.1;have lb_v13:=ov13.1;have lb_v25:=ov25.1;subst al0;subst al1;dsimp only [Zlp,Z3e,LT.den];have lq:v5.length<=8*2048+8:=by rw [(by assumption:v5=obF _ _ _ _++_),List.length_append];have:=Zaen (f:=fL) (l:=v13) (v:=v15) (by assumption:∀ c,c∈v0->_);have:v13.length<=2048:=Zbdv;have:=Za16 (f:=fL E1) (l:=v25) (v:=v27);have:=Za14 (by assumption:∀ c,c∈v0->_) E1;rw [<- (by assumption:v25=(baV v0 E1).Abilities)] at this;omega
  apply tD<;>intro h1
  .refine Tot.ix fun x1 h2=>?_;have oh2:Z5 x1:=ov25.2 x1 h2.1;have mh2:=h2.2;apply tE<;>intro h3
   .refine tB (Zbj oh2.2.1) fun x2 h4=>?_;have eh4_1:=h4.2;have q1:=ov5.1;refine Tot.ap fun x3 h5=>?_;have lh5:=Zb7 h5;have q2:=wr (v27+1);exact tL ⟨rfl,rfl,ov0,O0,SzL.app (k:=224) h5 lo ov5.2 (me1 ⟨SzL.nil,oh2.1,h4.1⟩),ov13,ov25,cl,cl,cl,cl,cl,Zf5,tk9,cl,V,Zf5,V,cs⟩ Z8w
   have q1:=wr (v27+1);exact tL ⟨rfl,rfl,ov0,O0,ov5,ov13,ov25,cl,cl,cl,cl,cl,Zf5,tk9,cl,V,Zf5,V,cs⟩ Z8w
  exact Zbdg
 | L2 v5 v54 v55 v56=>
  obtain⟨ov5,ov54,cv56,i0,i1,i2,i3,i4,i5,i6⟩:=hs;have lb_v5:=ov5.1;have lb_v54:=ov54.1;dsimp only [Zlp,Z3f,LT.den];have lq:v5.length<=8*2048+64:=by rw [(by assumption:v5=obF _ _ _ _++_),List.length_append];have:=Zaen (f:=fL) (l:=a1.Objects) (v:=a1.Objects.length) (by assumption:∀ c,c∈a0->_);have:(coF gL v54 v56).length<=64:=(by unfold coF;rw [List.length_map,List.length_take];have:v54.length<=64:=(by first | omega | (rw [(by assumption:v54=_)];omega));omega);omega
  apply tD<;>intro h1
  .refine Tot.ix fun x1 h2=>?_;have oh2:Zfp x1:=ov54.2 x1 h2.1;have mh2:=h2.2;refine tB (Zxl oh2.1) fun x2 h3=>?_;have eh3_1:=h3.2;refine tB (Zbj oh2.2) fun x3 h4=>?_;have eh4_1:=h4.2;have q1:=ov5.1;refine Tot.ap fun x4 h5=>?_;have lh5:=Zb7 h5;have q2:=wr (v56+1);exact tL ⟨SzL.app (k:=224) h5 lo ov5.2 (me1 ⟨h3.1,SzS.nil,h4.1⟩),ov54,cl,Zf5,cl,cl,tk16,Za48,cs⟩ Z8w
  exact tR ⟨ov5,(by exact Zbg3 V Zai O)⟩
abbrev Zajw(a0:List Zm)(a1:Zk)(r:Zc):Prop:=(Z2 r)/\(r.s=a1)/\(r.traits.length=r.s.Objects.length)/\(r.dropped.length=r.s.Objects.length)/\(r.done.length=r.forces.length)/\(r.hits.length=r.forces.length)/\(r.s.Objects.length<=2048)/\(r.forces.length<=16448)/\(HI r.s.Objects.length r.hits)/\(r=begV a0 a1)
def Zan0(a0:List Zm)(a1:Zk):Zne->Prop
 | .L0 v0 E0 v19 v20 v21=>(v0=a0)/\((SzL 176 Zag) v0)/\(Z2 E0)/\((SzL 128 (fun _=>True)) v19)/\(0<=v21)/\(∀ c,c∈v0->c.Abilities.length<=8)/\(E0.s=a1)/\(v20=(v19.length:Int))/\(v20=(E0.s.Objects.length:Int))/\(v20<=2048)/\(E0.forces.length<=16448)/\(E0.dropped.length=v20.toNat)/\(E0.traits.length=v21.toNat)/\(v21<=v20)/\(v19=a1.Objects)/\(E0.traits=(v19.take v21.toNat).map (baV v0))/\(E0.forces=FS fL gL v0 a1)/\(E0.dropped=List.replicate a1.Objects.length false)
def Zvs:Zne->M6
 | .L0 v0 E0 v19 v20 v21=>(1,(v20 - v21).toNat,1000000,0,0,0)
theorem Zan1{a0:List Zm}{a1:Zk}(oa0:(SzL 176 Zag) a0)(oa1:Z8 a1)(h0:a1.Objects.length<=2048)(h1:a1.Conts.length<=64)(h2:∀ c,c∈a0->c.Abilities.length<=8):Tot (Zag4 a0 a1) (Zajw a0 a1):=by
 apply Tot.rn (Zan0 a0 a1) Zvs
 .dsimp only [Z9p,LT.den];refine tB (Zajv oa0 oa1 cl cl Zf5) fun x1 h1=>?_;have eh1_1:=h1.2;have lh1:=Zbg4 (f:=fL) (g:=gL) (s:=a1) (by assumption:∀ c,c∈a0->_);rw [<- (by assumption:x1=FS _ _ _ _)] at lh1;exact tB (Tot.mk) fun x2 h2=>tL ⟨rfl,oa0,⟨oa1,h1.1,SzL.nil,SzL.tr,SzL.nil,SzL.nil⟩,oa1.2.1,cl,Zf5,Zai,cl,cl,cl,cl,cl,cl,cl,Zai,tk50,V,(by first | assumption | exact Zat9 V rfl)⟩ (by unfold Zvs lt6;dsimp only;omega)
 rintro ⟨v0,E0,v19,v20,v21⟩ ⟨al0,ov0,O0,ov19,cv21,i0,i1,i2,i3,i4,i5,i6,i7,i8,i9,i10,i11,i12⟩;subst al0;dsimp only [Zx4,Z6r,LT.den];apply tD<;>intro h1
 .refine Tot.ix fun x1 h2=>?_;have mh2:=h2.2;refine tB (Zah1 ov0) fun x2 h3=>?_;have eh3_1:=h3.2;have q1:=O0.2.2.1.1;refine Tot.ap fun x3 h4=>?_;have lh4:=Zb7 h4;have q2:=wr (v21+1);exact tL ⟨rfl,ov0,⟨O0.1,O0.2.1,SzL.app (k:=176) h4 lo O0.2.2.1.2 (me1 h3.1),O0.2.2.2.1,O0.2.2.2.2.1,O0.2.2.2.2.2⟩,ov19,cl,Zf5,Zai,cl,cl,cl,cl,cl,cl,cl,Zai,tk50,V,(by first | assumption | exact Zat9 V rfl)⟩ (by unfold Zvs lt6;dsimp only;omega)
 exact tB (Tot.mk) fun x1 h2=>tB (Tot.mk) fun x2 h3=>tR ⟨⟨O0.1,O0.2.1,O0.2.2.1,O0.2.2.2.1,SzL.tr,⟨lo,fun e he=>by rw [h3.2 e he];exact SzL.nil⟩⟩,Zai,cl,cl,cl,cl,cl,cl,Zbs,(by exact bg_e V O V V V V V V)⟩
theorem Zgr{a0:Int}:Tot (Z3h a0) (fun r=>(r=clV a0)):=by
 apply tZ;dsimp only [Z46,LT.den];exact tR (by rfl)
theorem Za06{a0:Int}{a1:Int}:Tot (Za1y a0 a1) (fun r=>(r=suV a0 a1)):=by
 apply tZ;dsimp only [Zar1,LT.den];refine tB (Zgr) fun x1 h1=>tB (Zgr) fun x2 h2=>?_;have q1:=wr (x1 - x2);exact tB (Zgr) fun x3 h3=>tR (by unfold suV;grind)
theorem Zae8{a0:A3 Int}:Tot (Z9q a0) (fun r=>(r=pwV a0)):=by
 apply tZ;dsimp only [Z3i,LT.den];refine tB (tI O (by have e:(A3.list a0).length=3:=rfl;omega)) fun x1 h1=>?_;have mh1:=h1.2;refine tB (tI O (by have e:(A3.list a0).length=3:=rfl;omega)) fun x2 h2=>?_;have mh2:=h2.2;exact tB (Za06) fun x3 h3=>tR (by exact Zblo V V V)
theorem Zv8{a0:Int}{a1:Int}:Tot (Zaem a0 a1) (fun r=>(r=adV a0 a1)):=by
 apply tZ;dsimp only [Zacu,LT.den];refine tB (Zgr) fun x1 h1=>tB (Zgr) fun x2 h2=>?_;have q1:=wr (x1+x2);exact tB (Zgr) fun x3 h3=>tR (by unfold adV;grind)
def Zid(a0:Int):Zky->Prop
 | .L0 v0 v3 v6=>(v3=a0)/\(v3=v0)/\(v6=true↔2<=v3/\v3<=5)/\(v3≠1)
 | .L1 v0 v3 v11=>(v3=a0)/\(v3=v0)/\(v11=true↔v3=6\/v3=7)/\(v3 < 1\/5 < v3)
 | .L2 v0 v3 v14=>(v3=a0)/\(v3=v0)/\(v14=true↔8<=v3/\v3<=10)/\(v3 < 1\/7 < v3)
def Zuf:Zky->M6
 | .L0 v0 v3 v6=>(0,0,0,0,0,0)
 | .L1 v0 v3 v11=>(0,0,0,0,0,0)
 | .L2 v0 v3 v14=>(0,0,0,0,0,0)
theorem Z12{a0:Int}{v0:Int}{v3:Int}{v14:Bool}(h:(Zid a0) (.L2 v0 v3 v14)):Tot (Zlq v0 v3 v14).den (Nx (Zid a0) Zuf (0,0,0,0,0,0) (fun r=>(r=stV a0))):=by
 obtain⟨al0,i0,i1,i2⟩:=h;subst al0;dsimp only [Zlq,LT.den];apply tF<;>intro h1
 .exact tl9
 apply tE<;>intro h2
 .exact tl66
 apply tE<;>intro h3
 .exact tl66
 apply tE<;>intro h4
 .exact tl66
 apply tE<;>intro h5
 .exact tl66
 exact tl9
theorem Z13{a0:Int}{v0:Int}{v3:Int}{v11:Bool}(h:(Zid a0) (.L1 v0 v3 v11)):Tot (Zo5 v0 v3 v11).den (Nx (Zid a0) Zuf (0,0,0,0,0,0) (fun r=>(r=stV a0))):=by
 obtain⟨al0,i0,i1,i2⟩:=h;subst al0;dsimp only [Zo5,LT.den];apply tF<;>intro h1
 .exact tl9
 apply tE<;>intro h2
 .exact tl45
 apply tE<;>intro h3
 .exact tl45
 exact tl45
theorem Z14{a0:Int}{v0:Int}{v3:Int}{v6:Bool}(h:(Zid a0) (.L0 v0 v3 v6)):Tot (Zjb v0 v3 v6).den (Nx (Zid a0) Zuf (0,0,0,0,0,0) (fun r=>(r=stV a0))):=by
 obtain⟨al0,i0,i1,i2⟩:=h;subst al0;dsimp only [Zjb,LT.den];apply tF<;>intro h1
 .exact tl9
 apply tE<;>intro h2
 .exact tl44
 exact tl44
theorem Zrq{a0:Int}:Tot (Zar4 a0) (fun r=>(r=stV a0)):=by
 apply Tot.rn (Zid a0) Zuf
 .dsimp only [Zag6,LT.den];apply tE<;>intro h1
  .exact tl9
  apply tE<;>intro h2
  .exact tl48
  apply tE<;>intro h3
  .exact tl48
  apply tE<;>intro h4
  .exact tl48
  exact tl48
 intro s hs;cases s with
 | L0 _ _ _=>exact Z14 hs
 | L1 _ _ _=>exact Z13 hs
 | L2 _ _ _=>exact Z12 hs
theorem Z15{a0:Zd}{b0:Int}(oa0:Z3 a0):Tot (Ztp a0 b0) (fun r=>(r=(stV a0.Kind==b0))):=by
 apply tZ;dsimp only [Zq4,LT.den];exact tB (Zrq) fun x1 h1=>tR Zco
def Zg5(a0:List Zd)(b0:Int):Zaz->Prop
 | .L0 v0 c0 v7 v8=>(v0=a0)/\(c0=b0)/\((SzL 176 Z3) v0)/\(0<=v8)/\(v7=(v0.length:Int))/\((v0.take v8.toNat).any (fun m=>stV m.Kind==c0)=false)
def Zdo:Zaz->M6
 | .L0 v0 c0 v7 v8=>(1,(v7 - v8).toNat,1000000,0,0,0)
theorem Zg6{a0:List Zd}{b0:Int}(oa0:(SzL 176 Z3) a0):Tot (Zd1 a0 b0) (fun r=>(decide (r.1>=0)=a0.any (fun m=>stV m.Kind==b0))):=by
 apply Tot.rn (Zg5 a0 b0) Zdo
 .dsimp only [Zdr,LT.den];exact tL ⟨rfl,rfl,oa0,cl,cl,tk57⟩ tk77
 rintro ⟨v0,c0,v7,v8⟩ ⟨al0,al1,ov0,cv8,i0,i1⟩;have lb_v0:=ov0.1;subst al0;subst al1;dsimp only [Zbw,Zdl,LT.den];apply tD<;>intro h1
 .refine Tot.ix fun x1 h2=>?_;have oh2:Z3 x1:=ov0.2 x1 h2.1;have mh2:=h2.2;refine tB (Z15 oh2) fun x2 h3=>?_;apply tF<;>intro h4
  .exact tl79
  have q1:=wr (v8+1);exact tL ⟨rfl,rfl,ov0,cl,cl,tk57⟩ tk77
 exact tl79
theorem Zgq{a0:List Zd}{b0:Int}(oa0:(SzL 176 Z3) a0):Tot (Zdm a0 b0) (fun r=>(r.1=a0.any (fun m=>stV m.Kind==b0))):=by
 apply tZ;dsimp only [Zdg,LT.den];exact tB (Zg6 oa0) fun x1 h1=>tR V
theorem Zae9{a0:Zv}{a1:Int}(oa0:Zbt a0):Tot (Z9r a0 a1) (fun r=>(r=belB a0 a1)):=by
 apply tZ;dsimp only [Z3k,LT.den];exact tB (Zgq oa0.2.2) fun x1 h1=>tR V
def Zn5(a0:Ze)(a1:Int):Zie->Prop
 | .L0 v1 E0 v5=>(E0=a0)/\(v1=a1)/\(Zao E0)/\(v5=true↔E0.Power.Kind≠0\/E0.Tough.Kind≠0)
def Zxm:Zie->M6
 | .L0 v1 E0 v5=>(0,0,0,0,0,0)
theorem Zrf{a0:Ze}{a1:Int}{v1:Int}{E0:Ze}{v5:Bool}(h:(Zn5 a0 a1) (.L0 v1 E0 v5)):Tot (Zhq v1 E0 v5).den (Nx (Zn5 a0 a1) Zxm (0,0,0,0,0,0) (fun r=>(r=Zr6 a0 a1))):=by
 obtain⟨al0,al1,O0,i0⟩:=h;subst al0;subst al1;dsimp only [Zhq,LT.den];apply tE<;>intro h1
 .exact tl3
 apply tE<;>intro h2
 .apply tN<;>intro h3
  .exact tl3
  apply tO<;>intro h4
  .exact tl3
  exact tl3
 apply tE<;>intro h3
 .exact tl3
 apply tE<;>intro h4
 .exact tl3
 exact tl3
theorem Zuu{a0:Ze}{a1:Int}(oa0:Zao a0):Tot (Z3m a0 a1) (fun r=>(r=Zr6 a0 a1)):=by
 apply Tot.rn (Zn5 a0 a1) Zxm
 .dsimp only [Zy8,LT.den];apply tN<;>intro h1
  .exact tl15
  exact tl15
 intro s hs;cases s with
 | L0 _ _ _=>exact Zrf hs
theorem Zxn{a0:Int}:Tot (Z6s a0) (fun r=>(r=false)):=by
 apply tZ;dsimp only [Z0x,LT.den];exact tR (by simp)
theorem Z86{a0:Int}{a1:Int}:Tot (Z0z a0 a1) (fun r=>((r = -1/\a0 < a1)\/(r=1/\a1 < a0)\/(r=0/\a0=a1))):=by
 apply tZ;dsimp only [Zw9,LT.den];refine tB (Zxn) fun x1 h1=>tB (Zxn) fun x2 h2=>?_;apply tF<;>intro h3
 .apply tF<;>intro h4
  .exact tl5
  exact tl5
 apply tF<;>intro h4
 .exact tl5
 apply tD<;>intro h5
 .exact tl5
 apply tD<;>intro h6
 .exact tl5
 exact tl5
theorem Zzf{a0:Zg}{a1:Int}:Tot (Z9s a0 a1) (fun r=>((r = -1/\a0.Id < a1)\/(r=1/\a1 < a0.Id)\/(r=0/\a0.Id=a1))):=by
 apply tZ;dsimp only [Z3n,LT.den];exact tB (Z86) fun x1 h1=>tR V
abbrev Zeo(a0:List Zg)(a1:Int)(r:Int×Bool):Prop:=(BSP a0 a1 r)/\(0<=r.1)/\(r.1<=(a0.length:Int))/\(r.2=true->r.1 < (a0.length:Int))
def Zeq(a0:List Zg)(a1:Int):Zaf->Prop
 | .L0 v0 v1 v8 v9 v10=>(v0=a0)/\(v1=a1)/\((SzL 128 (fun _=>True)) v0)/\(0<=v9)/\(v8=(v0.length:Int))/\(v9<=v10)/\(v10<=v8)/\(BSI v0 v1 v9 v10)
def Zb3:Zaf->M6
 | .L0 v0 v1 v8 v9 v10=>(1,(v10 - v9).toNat,1000000,0,0,0)
theorem Zer{a0:List Zg}{a1:Int}(oa0:(SzL 128 (fun _=>True)) a0):Tot (Zcf a0 a1) (Zeo a0 a1):=by
 apply Tot.rn (Zeq a0 a1) Zb3
 .have lb_a0:=oa0.1;dsimp only [Zb9,LT.den];exact tL ⟨rfl,rfl,oa0,cl,cl,cl,cl,tk25⟩ tk67
 rintro ⟨v0,v1,v8,v9,v10⟩ ⟨al0,al1,ov0,cv9,i0,i1,i2,i3⟩;have lb_v0:=ov0.1;subst al0;subst al1;dsimp only [Zbd,Zbz,LT.den];have lm:=Zbg5 (i:=v9) (j:=v10) (n:=v8) O O O O;apply tD<;>intro h1
 .have q1:=wr (v9+v10);have q2:=wr (shrI .u64 (IntKind.wrap .u64 (IntKind.wrap .i64 (v9+v10))) 1);refine Tot.ix fun x1 h2=>?_;have mh2:=h2.2;refine tB (Zzf) fun x2 h3=>?_;apply tD<;>intro h4
  .have q3:=wr ((IntKind.wrap .i64 (shrI .u64 (IntKind.wrap .u64 (IntKind.wrap .i64 (v9+v10))) 1))+1);exact Zbc9
  exact Zbc9
 apply tD<;>intro h2
 .refine Tot.ix fun x1 h3=>?_;have mh3:=h3.2;exact tB (Zzf) fun x2 h4=>tR ⟨tk41,cl,cl,tk90⟩
 exact tR ⟨tk41,cl,cl,tk90⟩
theorem Z4e{a0:Zk}{a1:Int}(oa0:Z8 a0):Tot (Zag8 a0 a1) (fun r=>(Zd4 a0.Objects->r=ixO a0.Objects a1)/\(-1<=r)/\(r < (a0.Objects.length:Int))):=by
 apply tZ;dsimp only [Z9t,LT.den];refine tB (Zer oa0.2.1) fun x1 h1=>?_;have eh1_0:=h1.1;apply tO<;>intro h2
 .exact tl84
 exact tl84
def Zxo(a0:List Int)(a1:Int):Zed->Prop
 | .L0 v0 v1 v7 v8=>(v0=a0)/\(v1=a1)/\((SzL 8 (fun _=>True)) v0)/\(0<=v8)/\(v7=(v0.length:Int))/\(∀ (k:Nat) y,(k:Int) < v8->v0[k]?=some y->y≠v1)
def Znv:Zed->M6
 | .L0 v0 v1 v7 v8=>(1,(v7 - v8).toNat,1000000,0,0,0)
theorem Zhu{a0:List Int}{a1:Int}(oa0:(SzL 8 (fun _=>True)) a0):Tot (Zp9 a0 a1) (fun r=>(-1<=r)/\(r < (a0.length:Int))/\(r=ixI a0 a1)):=by
 apply Tot.rn (Zxo a0 a1) Znv
 .dsimp only [Zn8,LT.den];exact tL ⟨rfl,rfl,oa0,cl,cl,tk23⟩ Zbdt
 rintro ⟨v0,v1,v7,v8⟩ ⟨al0,al1,ov0,cv8,i0,i1⟩;have lb_v0:=ov0.1;subst al0;subst al1;dsimp only [Zip,Znf,LT.den];apply tD<;>intro h1
 .refine Tot.ix fun x1 h2=>?_;have mh2:=h2.2;apply tE<;>intro h3
  .exact Zbc2
  have q1:=wr (v8+1);exact tL ⟨rfl,rfl,ov0,cl,cl,tk23⟩ Zbdt
 exact Zbc2
theorem Zkp{a0:List Int}{a1:Int}(oa0:(SzL 8 (fun _=>True)) a0):Tot (Zng a0 a1) (fun r=>(r=true↔a1∈a0)):=by
 apply tZ;dsimp only [Zlr,LT.den];refine tB (Zhu oa0) fun x1 h1=>?_;have eh1_2:=h1.2.2;exact tR (by exact ixc V)
theorem Z7e(a0:List UInt8)(oa0:SzT a0):Tot (Zzn a0) (fun r=>r=Zvk a0):=⟨_,Zax7 a0,rfl⟩
theorem Zatq(a0:Ze)(oa0:Zao a0):Tot (Z3r a0) (fun r=>r=Z8k a0):=⟨_,Zadj a0,rfl⟩
theorem Zbl5{x:Zac}(h:Zhj x):x.Subs.length<=4611686018427387904:=by
 have:=h.1;omega
theorem Zan2(a0:Zac)(a1:List UInt8)(oa0:Zhj a0)(oa1:SzT a1):Tot (Zv5 a0 a1) (fun r=>r=Zf4 a0.Subs a1):=⟨_,Zasf a0 a1 (Zbl5 oa0),rfl⟩
theorem Zbfw{x:Zb}(h:Zz x):x.Line.Subs.length<=4611686018427387904:=by
 have:x.Line.Subs.length*16<=140737488351232:=h.2.1.1;omega
theorem Z16(a0:Zg)(a1:Zb)(a2 a3:Int)(a4:Ze)(oa1:Zz a1)(oa4:Zao a4):Tot (Ztt a0 a1 a2 a3 a4) (fun r=>r=matV a0 a1 a2 a3 a4):=⟨_,Zayc a0 a1 a2 a3 a4 (Zbfw oa1),rfl⟩
theorem Zbfx{x:Zb}(h:Zz x):x.Line.Subs.length<=4611686018427387904:=by
 have:x.Line.Subs.length*16<=140737488351232:=h.2.1.1;omega
theorem Zbce{s:Zk}{all:List Zb}{you src:Int}{f:Ze}(h:Z8 s):SzL 8 (fun _=>True) (Zzt s all you src f):=by
 have h1:s.Objects.length*128<=140737488351232:=h.2.1.1;have h2:(Zzt s all you src f).length<=s.Objects.length:=Zavs ..;exact⟨by omega,fun _ _=>trivial⟩
theorem Zap9(a0:Zk)(a1:List Zb)(a2 a3:Int)(a4:Ze)(oa0:Z8 a0)(oa1:(SzL 176 Zz) a1)(oa4:Zao a4):Tot (Zzo a0 a1 a2 a3 a4) (fun r=>((SzL 8 (fun _=>True)) r)/\(r=Zzt a0 a1 a2 a3 a4)):=
 ⟨_,Zbe1 a0 a1 a2 a3 a4 oa0.2.1.1 fun t ht=>Zbfx (oa1.2 t ht),Zbce oa0,rfl⟩
def Zxp(a0:List Int)(a1:List Int):Zee->Prop
 | .L0 v0 v1 v12 v13=>(v0=a0)/\(v1=a1)/\((SzL 8 (fun _=>True)) v0)/\((SzL 8 (fun _=>True)) v1)/\(0<=v13)/\(v12=(v0.length:Int))/\(v0.length=v1.length)/\(∀ (k:Nat) x,(k:Int) < v13->v0[k]?=some x->v1[k]?=some x)
def Znw:Zee->M6
 | .L0 v0 v1 v12 v13=>(1,(v12 - v13).toNat,1000000,0,0,0)
theorem Zmp{a0:List Int}{a1:List Int}(oa0:(SzL 8 (fun _=>True)) a0)(oa1:(SzL 8 (fun _=>True)) a1):Tot (Zqb a0 a1) (fun r=>(r=true↔a0=a1)):=by
 apply Tot.rn (Zxp a0 a1) Znw
 .have lb_a1:=oa1.1;dsimp only [Zoa,LT.den];have q1:=oa1.1;apply tN<;>intro h1
  .exact tl92
  exact tL ⟨rfl,rfl,oa0,oa1,cl,cl,cl,tk42⟩ Zbdu
 rintro ⟨v0,v1,v12,v13⟩ ⟨al0,al1,ov0,ov1,cv13,i0,i1,i2⟩;have lb_v0:=ov0.1;subst al0;subst al1;dsimp only [Zis,Znl,LT.den];apply tD<;>intro h1
 .refine Tot.ix fun x1 h2=>?_;have mh2:=h2.2;refine Tot.ix fun x2 h3=>?_;have mh3:=h3.2;apply tN<;>intro h4
  .exact tl92
  have q1:=wr (v13+1);exact tL ⟨rfl,rfl,ov0,ov1,cl,cl,cl,tk42⟩ Zbdu
 exact tl92
theorem Zy4{a0:Zaa}{a1:Zaa}(oa0:Zyi a0)(oa1:Zyi a1):Tot (Zq7 a0 a1) (fun r=>(r=Z8q a0 a1)):=by
 apply tZ;dsimp only [Zo7,LT.den];apply tO<;>intro h1
 .exact tl93
 refine tB (Zmp oa0.1 oa1.1) fun x1 h2=>?_;apply tO<;>intro h3
 .exact tl93
 exact tB (Zmp oa0.2 oa1.2) fun x2 h4=>tR tk38
theorem Zk8{a0:List Bool}(oa0:(SzL 1 (fun _=>True)) a0):Tot (Zf3 a0) (fun r=>((SzL 1 (fun _=>True)) r)/\(r=a0)):=by
 unfold Zf3;split
 .apply tZ;have lb_a0:=oa0.1;dsimp only [Zhr,LT.den];refine Tot.ap fun x1 h1=>?_;have lh1:x1.length=([]:List Bool).length+a0.length:=by rw [h1,List.length_append]
  exact tl94
 apply tZ;dsimp only [Zeu,LT.den];exact tl60
theorem Zlb{a0:List Zh}(oa0:(SzL 640 Z5) a0):Tot (Zcl a0) (fun r=>((SzL 640 Z5) r)/\(r=a0)):=by
 unfold Zcl;split
 .apply tZ;have lb_a0:=oa0.1;dsimp only [Zdq,LT.den];refine Tot.ap fun x1 h1=>?_;have lh1:x1.length=([]:List Zh).length+a0.length:=by rw [h1,List.length_append]
  try simp only [List.length_cons,List.length_nil,Nat.zero_add] at lh1
  exact tR ⟨SzL.app (k:=640) h1 lo (fun _ h=>by cases h) oa0.2,tk84⟩
 apply tZ;dsimp only [Zb1,LT.den];exact tl60
def Zaqa(a0:Zb):Zlu->Prop
 | .L0 E0 E1 v18 v19=>(Zz E0)/\(Zz E1)/\(0<=v19)/\(v18=(E0.Abilities.length:Int))/\(E0=a0)
 | .L1 y45000015 E0 E1 v18 v19 v54 v55 v4=>(Z5 y45000015)/\(Zz E0)/\(Zz E1)/\(0<=v55)/\(0<=v19)/\(v19 < v18)/\(v18=(E0.Abilities.length:Int))/\(0<=v4)/\(v4 < v18)/\(v19 < v18)/\(v54=(y45000015.Effects.length:Int))/\(E0=a0)/\(E0.Abilities[v4.toNat]?=some y45000015)
def Zaao:Zlu->M6
 | .L0 E0 E1 v18 v19=>(1,(v18 - v19).toNat,1000000,0,0,0)
 | .L1 y45000015 E0 E1 v18 v19 v54 v55 v4=>(1,(v18 - v19).toNat,1,(v54 - v55).toNat,1000000,0)
theorem Zaqb{a0:Zb}(oa0:Zz a0):Tot (Zamt a0) (fun r=>(Zz r)/\(r=a0)):=by
 apply Tot.rn (Zaqa a0) Zaao
 .dsimp only [Zac2,LT.den];refine tB (Zfq oa0.2.1) fun x1 h1=>?_;have eh1_1:=h1.2;refine tB (Zlb oa0.2.2) fun x2 h2=>?_;have eh2_1:=h2.2;exact tL ⟨⟨oa0.1,h1.1,h2.1⟩,⟨SzS.nil,SzL.nil,SzL.nil⟩,cl,cl,tk45⟩ Zauc
 intro s hs;cases s with
 | L0 E0 E1 v18 v19=>
  obtain⟨O0,O1,cv19,i0,i1⟩:=hs;dsimp only [Ztw,Z9y,LT.den];apply tD<;>intro h1
  .refine Tot.ix fun x1 h2=>?_;have oh2:Z5 x1:=O0.2.2.2 x1 h2.1;have mh2:=h2.2;refine tB (Zbj oh2.2.1) fun x2 h3=>?_;have eh3_1:=h3.2;refine tB (Zha oh2.2.2.2.1) fun x3 h4=>?_;have eh4_1:=h4.2;refine tB (Zgc oh2.2.2.2.2.1) fun x4 h5=>?_;have eh5_1:=h5.2;exact tL ⟨⟨oh2.1,h3.1,oh2.2.2.1,h4.1,h5.1,oh2.2.2.2.2.2⟩,O0,O1,cl,cl,cl,cl,cl,cl,cl,cl,Zai,tk32⟩ Zauc
  exact tR ⟨O0,Zf6⟩
 | L1 y45000015 E0 E1 v18 v19 v54 v55 v4=>
  obtain⟨oy45000015,O0,O1,cv55,cv19,bd5,i0,i1,i2,i3,i4,i5,i6⟩:=hs;dsimp only [Ztw,Z9z,LT.den];have lq:=oy45000015.2.2.2.2.1.1;have lr:=O0.2.2.1;apply tD<;>intro h1
  .refine Tot.ix fun x1 h2=>?_;have oh2:Zab x1:=oy45000015.2.2.2.2.1.2 x1 h2.1;have mh2:=h2.2;refine tB (Zbj oh2.2.2.2.2) fun x2 h3=>?_;have eh3_1:=h3.2;refine tB (Tot.set O O) fun x3 h4=>?_;have q1:=wr (v55+1);exact tL ⟨⟨oy45000015.1,oy45000015.2.1,oy45000015.2.2.1,oy45000015.2.2.2.1,⟨lo,fun e he=>(h4.2.1 e he).elim (fun w=>by rw [w];exact⟨oh2.1,oh2.2.1,oh2.2.2.1,oh2.2.2.2.1,h3.1⟩) (oy45000015.2.2.2.2.1.2 e)⟩,oy45000015.2.2.2.2.2⟩,O0,O1,cl,cl,cl,cl,cl,cl,cl,cl,Zai,tk32⟩ Zauc
  refine tB (Tot.set O O) fun x1 h2=>?_;have q1:=wr (v19+1);exact tL ⟨⟨O0.1,O0.2.1,⟨lo,fun e he=>(h2.2.1 e he).elim (fun w=>by rw [w];exact oy45000015) (O0.2.2.2 e)⟩⟩,O1,cl,cl,tk45⟩ Zauc
theorem Ziy{a0:Int}{a1:Int}{a2:Int}:Tot (Za7x a0 a1 a2) (fun r=>(r=inB a0 a1 a2)):=by
 apply tZ;dsimp only [Zaxw,LT.den];apply tD<;>intro h1
 .exact tl1
 exact tl1
abbrev Zy5(a0:Zd)(r:Zd):Prop:=(Z3 r)/\(Zy (Zl a0) (Zl r)=Zfy a0)
def Zpl(a0:Zd):Zp0->Prop
 | .L0 E0 E1 E2 v8 v9=>(E0=a0)/\(Z3 E0)/\(Z3 E1)/\(Z3 E2)/\(v8=E0.Kind)/\(E2=⟨E0.Kind,0,0,[],Zle⟩)/\(v9=true↔v8=2\/v8=3\/v8=6\/v8=7\/v8=8\/v8=9)
 | .L1 E0 E1 E2 v8 v19=>(E0=a0)/\(Z3 E0)/\(Z3 E1)/\(Z3 E2)/\(v8=E0.Kind)/\(E2=⟨E0.Kind,0,0,[],Zle⟩)/\(¬ (v8=2\/v8=3\/v8=6\/v8=7\/v8=8\/v8=9))/\(v19=true↔v8=4\/v8=5)
def Z5r:Zp0->M6
 | .L0 E0 E1 E2 v8 v9=>(0,0,0,0,0,0)
 | .L1 E0 E1 E2 v8 v19=>(0,0,0,0,0,0)
theorem Z4f{a0:Zd}{E0:Zd}{E1:Zd}{E2:Zd}{v8:Int}{v19:Bool}(h:(Zpl a0) (.L1 E0 E1 E2 v8 v19)):Tot (Zq8 E0 E1 E2 v8 v19).den (Nx (Zpl a0) Z5r (0,0,0,0,0,0) (Zy5 a0)):=by
 obtain⟨al0,O0,O1,O2,i0,i1,i2,i3⟩:=h;subst al0;dsimp only [Zq8,LT.den];apply tF<;>intro h1
 .exact tR ⟨⟨O0.1,O2.2⟩,tk40⟩
 apply tE<;>intro h2
 .exact tR ⟨⟨O2.1,O0.2⟩,tk40⟩
 apply tE<;>intro h3
 .exact tl96
 apply tE<;>intro h4
 .exact tl96
 exact tR ⟨O2,tk40⟩
theorem Z4g{a0:Zd}{E0:Zd}{E1:Zd}{E2:Zd}{v8:Int}{v9:Bool}(h:(Zpl a0) (.L0 E0 E1 E2 v8 v9)):Tot (Zhg E0 E1 E2 v8 v9).den (Nx (Zpl a0) Z5r (0,0,0,0,0,0) (Zy5 a0)):=by
 obtain⟨al0,O0,O1,O2,i0,i1,i2⟩:=h;subst al0;dsimp only [Zhg,LT.den];apply tF<;>intro h1
 .exact tl96
 apply tE<;>intro h2
 .exact tl81
 exact tl81
theorem Zazi{a0:Zd}(oa0:Z3 a0):Tot (Zaxy a0) (Zy5 a0):=by
 apply Tot.rn (Zpl a0) Z5r
 .dsimp only [Zamu,LT.den];apply tE<;>intro h1
  .exact tl91
  apply tE<;>intro h2
  .exact tl91
  apply tE<;>intro h3
  .exact tl91
  apply tE<;>intro h4
  .exact tl91
  apply tE<;>intro h5
  .exact tl91
  exact tl91
 intro s hs;cases s with
 | L0 _ _ _ _ _=>exact Z4g hs
 | L1 _ _ _ _ _=>exact Z4f hs
def Zm6(a0:Zd):Zr5->Prop
 | .L0 E0 v14 v15=>(E0=a0)/\(Z3 E0)/\(v14=E0.Kind)/\(inB E0.Kind 1 14=true)/\(Zfy E0=true)/\(v15=true↔E0.Kind=2\/E0.Kind=3)
 | .L1 E0 v14 v27=>(E0=a0)/\(Z3 E0)/\(v14=E0.Kind)/\(inB E0.Kind 1 14=true)/\(Zfy E0=true)/\(v27=true↔E0.Kind=4\/E0.Kind=5)/\(¬ (E0.Kind=2\/E0.Kind=3))
 | .L2 E0 v14 v43=>(E0=a0)/\(Z3 E0)/\(v14=E0.Kind)/\(inB E0.Kind 1 14=true)/\(Zfy E0=true)/\(v43=true↔E0.Kind=8\/E0.Kind=9)/\(¬ (2<=E0.Kind/\E0.Kind<=7))
def Z4h:Zr5->M6
 | .L0 E0 v14 v15=>(0,0,0,0,0,0)
 | .L1 E0 v14 v27=>(0,0,0,0,0,0)
 | .L2 E0 v14 v43=>(0,0,0,0,0,0)
theorem Zaap{a0:Zd}{E0:Zd}{v14:Int}{v43:Bool}(h:(Zm6 a0) (.L2 E0 v14 v43)):Tot (Zxd E0 v14 v43).den (Nx (Zm6 a0) Z4h (0,0,0,0,0,0) (fun r=>(r=mdV a0))):=by
 obtain⟨al0,O0,i0,i1,i2,i3,i4⟩:=h;subst al0;dsimp only [Zxd,LT.den];apply tF<;>intro h1
 .exact tB (Ziy) fun x1 h2=>tR Z1q
 apply tE<;>intro h2
 .exact tB (Zatq E0.Filter O0.2) fun x1 h3=>tR Z1q
 apply tE<;>intro h3
 .refine tB (Ziy) fun x1 h4=>?_;apply tF<;>intro h5
  .exact tB (Ziy) fun x2 h6=>tR Z1q
  exact Zfu
 apply tE<;>intro h4
 .refine tB (Ziy) fun x1 h5=>?_;apply tF<;>intro h6
  .exact tB (Ziy) fun x2 h7=>tR Z1q
  exact Zfu
 exact Zfu
theorem Zaaq{a0:Zd}{E0:Zd}{v14:Int}{v27:Bool}(h:(Zm6 a0) (.L1 E0 v14 v27)):Tot (Zxe E0 v14 v27).den (Nx (Zm6 a0) Z4h (0,0,0,0,0,0) (fun r=>(r=mdV a0))):=by
 obtain⟨al0,O0,i0,i1,i2,i3,i4⟩:=h;subst al0;dsimp only [Zxe,LT.den];apply tF<;>intro h1
 .exact tB (Z7e E0.Sub (SzS.t O0.1)) fun x1 h2=>tR Z1q
 apply tE<;>intro h2
 .exact tB (Ziy) fun x1 h3=>tR Z1q
 apply tE<;>intro h3
 .exact tB (Ziy) fun x1 h4=>tR Z1q
 apply tE<;>intro h4
 .exact tl71
 exact tl71
theorem Zaar{a0:Zd}{E0:Zd}{v14:Int}{v15:Bool}(h:(Zm6 a0) (.L0 E0 v14 v15)):Tot (Zxf E0 v14 v15).den (Nx (Zm6 a0) Z4h (0,0,0,0,0,0) (fun r=>(r=mdV a0))):=by
 obtain⟨al0,O0,i0,i1,i2,i3⟩:=h;subst al0;dsimp only [Zxf,LT.den];apply tF<;>intro h1
 .refine tB (Ziy) fun x1 h2=>?_;apply tF<;>intro h3
  .exact Zfu
  exact Zfu
 apply tE<;>intro h2
 .exact tl73
 exact tl73
theorem Za5r{a0:Zd}(oa0:Z3 a0):Tot (Za7y a0) (fun r=>(r=mdV a0)):=by
 apply Tot.rn (Zm6 a0) Z4h
 .dsimp only [Zaxz,LT.den];refine tB (Ziy) fun x1 h1=>?_;apply tO<;>intro h2
  .exact Zfu
  refine tB (Zazi oa0) fun x2 h3=>?_;apply tO<;>intro h4
  .exact Zfu
  apply tE<;>intro h5
  .exact tl76
  exact tl76
 intro s hs;cases s with
 | L0 _ _ _=>exact Zaar hs
 | L1 _ _ _=>exact Zaaq hs
 | L2 _ _ _=>exact Zaap hs
theorem Z7f{a0:List UInt8}{a1:List UInt8}(oa0:SzT a0)(oa1:SzT a1):Tot (Zzc a0 a1) (fun r=>(r = !Op.bytesLess a0 a1)):=by
 apply tZ;dsimp only [Zus,LT.den];exact tR (by rfl)
abbrev Zhv(a0:List (List UInt8))(a1:List UInt8)(r:Int):Prop:=(-1<=r)/\(r < (a0.length:Int))/\((if r < 0 then (a0.length:Int) else r)=ixL a0 a1)
def Zhx(a0:List (List UInt8))(a1:List UInt8):Za2->Prop
 | .L0 v0 w1_0 v7 v8=>(v0=a0)/\(w1_0=a1)/\((SzL 16 SzT) v0)/\(SzT w1_0)/\(0<=v8)/\(v7=(v0.length:Int))/\(LsS v0 w1_0 v8)
def Zd5:Za2->M6
 | .L0 v0 w1_0 v7 v8=>(1,(v7 - v8).toNat,1000000,0,0,0)
theorem Zhy{a0:List (List UInt8)}{a1:List UInt8}(oa0:(SzL 16 SzT) a0)(oa1:SzT a1):Tot (Zei a0 a1) (Zhv a0 a1):=by
 apply Tot.rn (Zhx a0 a1) Zd5
 .dsimp only [Zea,LT.den];exact tL ⟨rfl,rfl,oa0,oa1,cl,cl,tk63⟩ tk82
 rintro ⟨v0,w1_0,v7,v8⟩ ⟨al0,al1,ov0,ow1_0,cv8,i0,i1⟩;have lb_v0:=ov0.1;subst al0;subst al1;dsimp only [Zcd,Zd2,LT.den];apply tD<;>intro h1
 .refine Tot.ix fun x1 h2=>?_;have oh2:SzT x1:=ov0.2 x1 h2.1;have mh2:=h2.2;refine tB (Z7f oh2 ow1_0) fun x2 h3=>?_;apply tF<;>intro h4
  .exact tl97
  have q1:=wr (v8+1);exact tL ⟨rfl,rfl,ov0,ow1_0,cl,cl,tk63⟩ tk82
 exact tl97
theorem Zfr(b0:List (List UInt8))(a1:Int)(b1:List (List UInt8))(ob0:SzL 16 SzT b0)(ob1:SzL 16 SzT b1)(h0:b0.length<=4096)(h1:0<=a1)(h2:a1<=(b0.length:Int))(h3:b1.length=1) :
 Tot (Zgi b0 a1 b1) (fun r=>(SzL 16 SzT r)/\(r.length=b0.length+1)/\(r=b0.take a1.toNat++b1++b0.drop a1.toNat)):=by
 match b1,h3 with
 | [y],_=>
  refine⟨_,Zbgq h1 h2 O,⟨?_,fun e he=>?_⟩,?_,by simp⟩
  .exact tl39
  .rcases List.mem_append.1 he with h | h
   .exact ob0.2 e (List.mem_of_mem_take h)
   .rcases List.mem_cons.1 h with h | h
    .rw [h];exact ob1.2 y (by simp)
    .exact ob0.2 e (List.mem_of_mem_drop h)
  .exact tl39
theorem Zan3{a0:Zac}{a1:List UInt8}(oa0:Zhj a0)(oa1:SzT a1):Tot (Zahd a0 a1) (fun r=>(Zhj r)/\(r=lnV a0 a1)):=by
 apply tZ;dsimp only [Z90,LT.den];refine tB (Zfq oa0) fun x1 h1=>?_;have eh1_1:=h1.2;refine tB (Z7e a1 oa1) fun x2 h2=>?_;apply tO<;>intro h3
 .exact Za4k
 refine tB (Zan2 (⟨a0.Super,a0.Types,x1⟩:Zac) a1 h1.1 oa1) fun x3 h4=>?_;apply tF<;>intro h5
 .exact Za4k
 apply tD<;>intro h6
 .exact Za4k
 refine tB (Zhy h1.1 oa1) fun x4 h7=>?_;have eh7_2:=h7.2.2;apply tD<;>intro h8
 .refine tB (Zfr x1 (x1.length:Int) [a1] h1.1 (SzL.one oa1) cl cl cl cl) fun x5 h9=>?_;exact Zbc5
 refine tB (Zfr x1 x4 [a1] h1.1 (SzL.one oa1) cl cl cl cl) fun x5 h9=>?_;exact Zbc5
theorem Zatr{a0:Zb}{a1:Zd}{a2:Int}{a3:Int}(oa0:Zz a0)(oa1:Z3 a1):Tot (Zac3 a0 a1 a2 a3) (fun r=>(Zz r)/\(r=apV a0 a1 a2 a3)):=by
 apply tZ;dsimp only [Zahe,LT.den];refine tB (Zaqb oa0) fun x1 h1=>?_;have eh1_1:=h1.2;refine tB (Za5r oa1) fun x2 h2=>?_;apply tO<;>intro h3
 .exact tl13
 apply tE<;>intro h4
 .exact Z8t
 apply tE<;>intro h5
 .exact Z8t
 apply tE<;>intro h6
 .exact Z8t
 apply tE<;>intro h7
 .exact tR ⟨⟨h1.1.1,SzL.one (SzS.t oa1.1),h1.1.2.2⟩,Z8x⟩
 apply tE<;>intro h8
 .refine tB (Zan3 h1.1.2.1 (SzS.t oa1.1)) fun x3 h9=>?_;have eh9_1:=h9.2;exact tR ⟨⟨h1.1.1,h9.1,h1.1.2.2⟩,Z8x⟩
 apply tE<;>intro h9
 .exact Z8t
 apply tE<;>intro h10
 .exact Z8t
 apply tE<;>intro h11
 .exact Z8t
 apply tE<;>intro h12
 .exact Z8t
 apply tE<;>intro h13
 .exact tR ⟨⟨h1.1.1,h1.1.2.1,SzL.nil⟩,Z8x⟩
 apply tE<;>intro h14
 .exact tB (Zgr) fun x3 h15=>tB (Zgr) fun x4 h16=>tR ⟨⟨h1.1.1,h1.1.2.1,h1.1.2.2⟩,Z8x⟩
 apply tE<;>intro h15
 .exact Z8t
 apply tE<;>intro h16
 .exact tB (Zv8) fun x3 h17=>tB (Zv8) fun x4 h18=>tR ⟨⟨h1.1.1,h1.1.2.1,h1.1.2.2⟩,Z8x⟩
 apply tE<;>intro h17
 .exact Z8t
 exact tl13
abbrev Z87(a0:List Int)(r:List Int):Prop:=((SzL 8 (fun _=>True)) r)/\(r.length<=a0.length)/\(SUB r a0)/\(r=elV a0)
def Zaay(a0:List Int):Zih->Prop
 | .L0 v3 v6 v7 v8=>(v6=a0)/\((SzL 8 (fun _=>True)) v3)/\((SzL 8 (fun _=>True)) v6)/\(0<=v8)/\(v7=(v6.length:Int))/\(v3.length<=v8.toNat)/\(v8<=v7)/\(SUB v3 v6)/\(v3=(v6.take v8.toNat).foldl elF [])
def Zxq:Zih->M6
 | .L0 v3 v6 v7 v8=>(1,(v7 - v8).toNat,1000000,0,0,0)
theorem Zaaz{a0:List Int}(oa0:(SzL 8 (fun _=>True)) a0):Tot (Ztx a0) (Z87 a0):=by
 apply Tot.rn (Zaay a0) Zxq
 .have lb_a0:=oa0.1;dsimp only [Zzd,LT.den];exact tL ⟨rfl,SzL.nil,oa0,cl,cl,cl,cl,tk68,tk8⟩ Za44
 rintro ⟨v3,v6,v7,v8⟩ ⟨al0,ov3,ov6,cv8,i0,i1,i2,i3,i4⟩;have lb_v3:=ov3.1;have lb_v6:=ov6.1;subst al0;dsimp only [Zqj,Zxg,LT.den];apply tD<;>intro h1
 .refine Tot.ix fun x1 h2=>?_;have mh2:=h2.2;apply tD<;>intro h3
  .refine tB (Zkp ov3) fun x2 h4=>?_;apply tO<;>intro h5
   .refine Tot.ap fun x3 h6=>?_;have lh6:=Zb7 h6;have q1:=wr (v8+1);exact tL ⟨rfl,SzL.tr,ov6,cl,cl,cl,cl,tk68,tk8⟩ Za44
   exact Zbdj
  exact Zbdj
 exact tR ⟨ov3,cl,V,(by exact Za8n V O)⟩
theorem Zzg{a0:List (List Bool)}{a1:Int}{a2:Int}(oa0:(SzL 24 (SzL 1 (fun _=>True))) a0):Tot (Z92 a0 a1 a2) (fun r=>(0<=a1->0<=a2->r=nB a0 a1 a2)):=by
 apply tZ;dsimp only [Z3s,LT.den];apply tD<;>intro h1
 .apply tD<;>intro h2
  .apply tD<;>intro h3
   .refine Tot.ix fun x1 h4=>?_;have oh4:(SzL 1 (fun _=>True)) x1:=oa0.2 x1 h4.1;apply tD<;>intro h5
    .exact Tot.ix fun x2 h6=>tR (by unfold nB;grind)
    exact tl0
   exact tl0
  exact tl0
 exact tl0
abbrev Zafa(a0:List Int)(a1:List (List Bool))(r:(List Int)×(List (List Bool))):Prop:=(r.1.length=a0.length)/\(r.2.length=a0.length)/\(RWS a0.length r.2)/\(MK a0.length r.2 (kB (eB a0 a1) a0.length))/\(r.1=a0)
def Zajx(a0:List Int)(a1:List (List Bool)):Zev->Prop
 | .L0 v1 E0 v5 E1 v17 v18=>(E0=a0)/\(v1=a1)/\((SzL 24 (SzL 1 (fun _=>True))) v1)/\((SzL 8 (fun _=>True)) E0)/\((SzL 24 (SzL 1 (fun _=>True))) E1)/\(0<=v18)/\(v5=(E0.length:Int))/\((E1.length:Int)=v5)/\(E0.length<=16448)/\(RWV E0.length E1 v18)/\(v17=v5)/\(POS E0)/\(MK v5.toNat E1 (sel (eB E0 v1) (fun _ _=>false) v18.toNat (0:Int).toNat))
 | .L1 v1 E0 v5 E1 v7 v17 v18 v26 v27=>(E0=a0)/\(v1=a1)/\((SzL 24 (SzL 1 (fun _=>True))) v1)/\((SzL 8 (fun _=>True)) E0)/\((SzL 24 (SzL 1 (fun _=>True))) E1)/\(0<=v27)/\(0<=v18)/\(v18 < v17)/\(v5=(E0.length:Int))/\((E1.length:Int)=v5)/\(E0.length<=16448)/\(RWV E0.length E1 (v18+1))/\(v17=v5)/\(v18 < v17)/\(v7=v18)/\(v26=v5)/\(POS E0)/\(MK v5.toNat E1 (sel (eB E0 v1) (fun _ _=>false) v18.toNat v27.toNat))
 | .L2 E0 v5 E1 v48 v49=>(E0=a0)/\((SzL 8 (fun _=>True)) E0)/\((SzL 24 (SzL 1 (fun _=>True))) E1)/\(0<=v49)/\(v5=(E0.length:Int))/\((E1.length:Int)=v5)/\(E0.length<=16448)/\(RWS E0.length E1)/\(v48=v5)/\(v49<=v48)/\(MK v5.toNat E1 (kB (eB E0 a1) v49.toNat))
 | .L3 E0 v5 E1 v9 v48 v49 v52 v53=>(E0=a0)/\((SzL 8 (fun _=>True)) E0)/\((SzL 24 (SzL 1 (fun _=>True))) E1)/\(0<=v53)/\(0<=v49)/\(v49 < v48)/\(v5=(E0.length:Int))/\((E1.length:Int)=v5)/\(E0.length<=16448)/\(RWS E0.length E1)/\(v48=v5)/\(v52=v5)/\(v9=v49)/\(v49 < v48)/\(v53<=v52)/\(MK v5.toNat E1 (sel (kB (eB E0 a1) (v49.toNat+1)) (kB (eB E0 a1) v49.toNat) v53.toNat  (0:Int).toNat))
 | .L4 E0 v5 E1 v9 v10 v48 v49 v52 v53 v56 v57=>(E0=a0)/\((SzL 8 (fun _=>True)) E0)/\((SzL 24 (SzL 1 (fun _=>True))) E1)/\(0<=v57)/\(0<=v49)/\(0<=v53)/\(v49 < v48)/\(v53 < v52)/\(v5=(E0.length:Int))/\((E1.length:Int)=v5)/\(E0.length<=16448)/\(RWS E0.length E1)/\(v48=v5)/\(v52=v5)/\(v9=v49)/\(v49 < v48)/\(v56=v5)/\(v10=v53)/\(v53 < v52)/\(MK v5.toNat E1 (sel (kB (eB E0 a1) (v49.toNat+1)) (kB (eB E0 a1) v49.toNat) v53.toNat  v57.toNat))
def Z4i:Zev->M6
 | .L0 v1 E0 v5 E1 v17 v18=>(3,(v17 - v18).toNat,1000000,0,0,0)
 | .L1 v1 E0 v5 E1 v7 v17 v18 v26 v27=>(3,(v17 - v18).toNat,1,(v26 - v27).toNat,1000000,0)
 | .L2 E0 v5 E1 v48 v49=>(1,(v48 - v49).toNat,1000000,0,0,0)
 | .L3 E0 v5 E1 v9 v48 v49 v52 v53=>(1,(v48 - v49).toNat,1,(v52 - v53).toNat,1000000,0)
 | .L4 E0 v5 E1 v9 v10 v48 v49 v52 v53 v56 v57=>(1,(v48 - v49).toNat,1,(v52 - v53).toNat,1,(v56 - v57).toNat)
theorem Zajy{a0:List Int}{a1:List (List Bool)}(oa0:(SzL 8 (fun _=>True)) a0)(oa1:(SzL 24 (SzL 1 (fun _=>True))) a1)(h0:a0.length<=16448)(h1:POS a0):Tot (Zac5 a0 a1) (Zafa a0 a1):=by
 apply Tot.rn (Zajx a0 a1) Z4i
 .dsimp only [Z6x,LT.den];refine tB (Tot.mk) fun x1 h1=>?_;have lh1:=h1.1;exact tL ⟨rfl,rfl,oa1,oa0,⟨lo,fun e he=>by rw [h1.2 e he];exact SzL.nil⟩,cl,cl,cl,cl,tk13,cl,V,tk7⟩ Z34
 intro s hs;cases s with
 | L0 v1 E0 v5 E1 v17 v18=>
  obtain⟨al0,al1,ov1,O0,O1,cv18,i0,i1,i2,i3,i4,i5,i6⟩:=hs;subst al0;subst al1;dsimp only [Zg1,Z3u,LT.den];apply tD<;>intro h1
  .refine tB (Tot.mk) fun x1 h2=>?_;have lh2:=h2.1;refine Tot.ix fun x2 h3=>?_;have mh3:=h3.2;(first | have wh3:=Z1o (by assumption:RWS _ E1) mh3 | have wh3:=Zadn (by assumption:RWV _ E1 _) O mh3 | skip);have mh3:=h3.2;exact tB (Tot.set O O) fun x3 h4=>tL ⟨rfl,rfl,ov1,O0,⟨lo,fun e he=>(h4.2.1 e he).elim (fun w=>by rw [w];exact SzL.tr) (O1.2 e)⟩,cl,cl,cl,cl,cl,cl,tk13,cl,cl,cl,cl,V,tk7⟩ Z34
  exact Zbdb
 | L1 v1 E0 v5 E1 v7 v17 v18 v26 v27=>
  obtain⟨al0,al1,ov1,O0,O1,cv27,cv18,bd7,i0,i1,i2,i3,i4,i5,i6,i7,i8,i9⟩:=hs;subst al0;subst al1;dsimp only [Zg1,Z3v,LT.den];apply tD<;>intro h1
  .refine Tot.ix fun x1 h2=>?_;have oh2:(SzL 1 (fun _=>True)) x1:=O1.2 x1 h2.1;have mh2:=h2.2;(first | have wh2:=Z1o (by assumption:RWS _ E1) mh2 | have wh2:=Zadn (by assumption:RWV _ E1 _) O mh2 | skip);have mh2:=h2.2;refine Tot.ix fun x2 h3=>?_;have mh3:=h3.2;refine Tot.ix fun x3 h4=>?_;have mh4:=h4.2;refine tB (Zzg ov1) fun x4 h5=>Tot.ix fun x5 h6=>?_;have mh6:=h6.2;refine tB (Tot.setM) fun x6 h7=>?_;have lh7:x6.length=E1.length:=by rw [h7,List.length_set]
   have q1:=wr (v27+1);exact tL ⟨rfl,rfl,ov1,O0,SzL.setM h7 O1 oh2,cl,cl,cl,cl,cl,cl,tk13,cl,cl,cl,cl,V,tk7⟩ Z34
  have q1:=wr (v18+1);exact tL ⟨rfl,rfl,ov1,O0,O1,cl,cl,cl,cl,tk13,cl,V,tk7⟩ Z34
 | L2 E0 v5 E1 v48 v49=>
  obtain⟨al0,O0,O1,cv49,i0,i1,i2,i3,i4,i5,i6⟩:=hs;subst al0;dsimp only [Zg1,Z3w,LT.den];apply tD<;>intro h1
  .exact Zbdc
  exact tR ⟨cl,cl,V,(by exact Zbhn V V O O),(by rfl)⟩
 | L3 E0 v5 E1 v9 v48 v49 v52 v53=>
  obtain⟨al0,O0,O1,cv53,cv49,bd5,i0,i1,i2,i3,i4,i5,i6,i7,i8,i9⟩:=hs;subst al0;dsimp only [Zg1,Z3x,LT.den];apply tD<;>intro h1
  .exact Zbdp
  have q1:=wr (v49+1);exact Zbdb
 | L4 E0 v5 E1 v9 v10 v48 v49 v52 v53 v56 v57=>
  obtain⟨al0,O0,O1,cv57,cv49,cv53,bd6,bd7,i0,i1,i2,i3,i4,i5,i6,i7,i8,i9,i10,i11⟩:=hs;subst al0;dsimp only [Zg1,Z3y,LT.den];apply tD<;>intro h1
  .refine Tot.ix fun x1 h2=>?_;have oh2:(SzL 1 (fun _=>True)) x1:=O1.2 x1 h2.1;have mh2:=h2.2;(first | have wh2:=Z1o (by assumption:RWS _ E1) mh2 | have wh2:=Zadn (by assumption:RWV _ E1 _) O mh2 | skip);have mh2:=h2.2;refine Tot.ix fun x2 h3=>?_;have mh3:=h3.2;apply tF<;>intro h4
   .refine Tot.ix fun x3 h5=>?_;have mh5:=h5.2;(first | have wh5:=Z1o (by assumption:RWS _ E1) mh5 | have wh5:=Zadn (by assumption:RWV _ E1 _) O mh5 | skip);have mh5:=h5.2;refine Tot.ix fun x4 h6=>?_;have mh6:=h6.2;apply tF<;>intro h7
    .refine Tot.ix fun x5 h8=>?_;have oh8:(SzL 1 (fun _=>True)) x5:=O1.2 x5 h8.1;have mh8:=h8.2;(first | have wh8:=Z1o (by assumption:RWS _ E1) mh8 | have wh8:=Zadn (by assumption:RWV _ E1 _) O mh8 | skip);have mh8:=h8.2;refine Tot.ix fun x6 h9=>?_;have mh9:=h9.2;refine tB (Tot.setM) fun x7 h10=>?_;have lh10:x7.length=E1.length:=by rw [h10,List.length_set]
     have q1:=wr (v57+1);exact tL ⟨rfl,O0,SzL.setM h10 O1 oh8,cl,cl,cl,cl,cl,cl,cl,cl,Z8v,cl,cl,cl,cl,cl,cl,cl,tk0⟩ Z34
    exact Zbdq
   exact Zbdq
  have q1:=wr (v53+1);exact Zbdc
theorem Zy6{a0:Int}{a1:Int}{a2:List Int}{a3:List (List Bool)}(oa2:(SzL 8 (fun _=>True)) a2)(oa3:(SzL 24 (SzL 1 (fun _=>True))) a3)(h0:a3.length=a2.length)(h1:RWS a2.length a3):Tot (Zq9 a0 a1 a2 a3) (fun r=>(r=ldV a2 a3 a0 a1)):=by
 apply tZ;dsimp only [Zo9,LT.den];refine tB (Zhu oa2) fun x1 h1=>?_;have eh1_2:=h1.2.2;refine tB (Zhu oa2) fun x2 h2=>?_;have eh2_2:=h2.2.2;apply tD<;>intro h3
 .apply tD<;>intro h4
  .refine Tot.ix fun x3 h5=>?_;have mh5:=h5.2;have wh5:=Z1o (by assumption:RWS _ a3) mh5;have mh5:=h5.2;refine Tot.ix fun x4 h6=>?_;have mh6:=h6.2;exact Za4h
  exact Za4h
 exact Za4h
theorem Zrg{a0:Int}{b0:Int}{b1:List (List Bool)}{b2:(List Int)×(List (List Bool))}(ob1:(SzL 24 (SzL 1 (fun _=>True))) b1)(h0:b2.1.length<=16448)(h1:b2.2.length=b2.1.length)(h2:RWS b2.1.length b2.2):Tot (Zk3 a0 b0 b1 b2) (fun r=>(0<=a0->0<=b0->r=wtP b1 b2 b0 a0)):=by
 apply tZ;dsimp only [Zjo,LT.den];apply tN<;>intro h1
 .refine tB (Zzg ob1) fun x1 h2=>?_;apply tF<;>intro h3
  .exact tB (Zy6 szx szx cl V) fun x2 h4=>tR Za49
  exact tR Za49
 exact tR Za49
abbrev Zjf(a0:List Int)(b0:Int)(b1:List (List Bool))(b2:(List Int)×(List (List Bool)))(r:Int×Int×(List (List Bool))×((List Int)×(List (List Bool)))):Prop:=((SzL 24 (SzL 1 (fun _=>True))) r.2.2.1)/\(r.2=(b0,b1,b2))/\(FX a0 (wtP b1 b2 b0) r.1)
def Zjl(a0:List Int)(b0:Int)(b1:List (List Bool))(b2:(List Int)×(List (List Bool))):Zbf->Prop
 | .L0 v0 c0 c1 c2 v7 v8=>(v0=a0)/\(c0=b0)/\(c1=b1)/\(c2=b2)/\((SzL 8 (fun _=>True)) v0)/\((SzL 24 (SzL 1 (fun _=>True))) c1)/\(0<=v8)/\(v7=(v0.length:Int))/\(c2.1.length<=16448)/\(c2.2.length=c2.1.length)/\(RWS c2.1.length c2.2)/\(POS v0)/\(0<=c0)/\(∀ (k:Nat) y,(k:Int) < v8->v0[k]?=some y->wtP c1 c2 c0 y=false)
def Ze2:Zbf->M6
 | .L0 v0 c0 c1 c2 v7 v8=>(1,(v7 - v8).toNat,1000000,0,0,0)
theorem Zjm{a0:List Int}{b0:Int}{b1:List (List Bool)}{b2:(List Int)×(List (List Bool))}(oa0:(SzL 8 (fun _=>True)) a0)(ob1:(SzL 24 (SzL 1 (fun _=>True))) b1)(h0:b2.1.length<=16448)(h1:b2.2.length=b2.1.length)(h2:RWS b2.1.length b2.2)(h3:POS a0)(h4:0<=b0):Tot (Zfv a0 b0 b1 b2) (Zjf a0 b0 b1 b2):=by
 apply Tot.rn (Zjl a0 b0 b1 b2) Ze2
 .dsimp only [Zfb,LT.den];exact tL ⟨rfl,rfl,rfl,rfl,oa0,ob1,cl,cl,cl,cl,Zf6,V,cl,tk52⟩ tk89
 rintro ⟨v0,c0,c1,c2,v7,v8⟩ ⟨al0,al1,al2,al3,ov0,oc1,cv8,i0,i1,i2,i3,i4,i5,i6⟩;have lb_v0:=ov0.1;subst al0;subst al1;subst al2;subst al3;dsimp only [Zc5,Ze0,LT.den];apply tD<;>intro h1
 .refine Tot.ix fun x1 h2=>?_;have mh2:=h2.2;have zh2:0<=x1:=(by assumption:POS v0) _ h2.1;refine tB (Zrg oc1 cl cl Zf6) fun x2 h3=>?_;apply tF<;>intro h4
  .exact tl86
  have q1:=wr (v8+1);exact tL ⟨rfl,rfl,rfl,rfl,ov0,oc1,cl,cl,cl,cl,Zf6,V,cl,tk52⟩ tk89
 exact tl86
theorem Ziz{a0:List Int}{b0:Int}{b1:List (List Bool)}{b2:(List Int)×(List (List Bool))}(oa0:(SzL 8 (fun _=>True)) a0)(ob1:(SzL 24 (SzL 1 (fun _=>True))) b1)(h0:b2.1.length<=16448)(h1:b2.2.length=b2.1.length)(h2:RWS b2.1.length b2.2)(h3:POS a0)(h4:0<=b0):Tot (Ze1 a0 b0 b1 b2) (fun r=>((SzL 24 (SzL 1 (fun _=>True))) r.2.2.1)/\(r.2=(b0,b1,b2))/\(r.1=true↔∃ j,j∈a0/\wtP b1 b2 b0 j=true)):=by
 apply tZ;dsimp only [Zel,LT.den];refine tB (Zjm oa0 ob1 cl cl Zf6 Zaeu cl) fun x1 h1=>?_;have eh1_1:=h1.2.1;have eh1_2:=h1.2.2;exact tR ⟨h1.1,Zai,V⟩
abbrev Zafb(a0:List Int)(a1:List (List Bool))(r:List Int):Prop:=((SzL 8 (fun _=>True)) r)/\(r.length<=16448)/\(SUB r a0)/\(r=rdV (elV a0) (nB a1))
def Zajz(a0:List Int)(a1:List (List Bool)):Zlv->Prop
 | .L0 E0 v5 E1 v7 v16 v17 v18=>((SzL 24 (SzL 1 (fun _=>True))) E0)/\((SzL 8 (fun _=>True)) v5)/\((SzL 8 (fun _=>True)) v7)/\((SzL 8 (fun _=>True)) v16)/\(0<=v18)/\(v5.length<=16448)/\(v17=(v16.length:Int))/\(v16.length<=16448)/\(v7.length<=v18.toNat)/\(v18<=v17)/\(SUB v16 a0)/\(SUB v7 a0)/\(E1.1.length<=16448)/\(E1.2.length=E1.1.length)/\(RWS E1.1.length E1.2)/\(POS v5)/\(v5=v16)/\(v16=elV a0)/\(E1.1=v16)/\(E0=a1)/\(MK v16.length E1.2 (kB (eB v16 a1) v16.length))/\(v7=(v16.take v18.toNat).filter (rdB v16 (nB a1)))
def Z4j:Zlv->M6
 | .L0 E0 v5 E1 v7 v16 v17 v18=>(1,(v17 - v18).toNat,1000000,0,0,0)
theorem Zaj0{a0:List Int}{a1:List (List Bool)}(oa0:(SzL 8 (fun _=>True)) a0)(oa1:(SzL 24 (SzL 1 (fun _=>True))) a1)(h0:a0.length<=16448):Tot (Z1b a0 a1) (Zafb a0 a1):=by
 apply Tot.rn (Zajz a0 a1) Z4j
 .dsimp only [Z6y,LT.den];refine tB (Zaaz oa0) fun x1 h1=>?_;have eh1_2:=h1.2.2.1;have eh1_3:=h1.2.2.2;refine tB (Zajy h1.1 oa1 cl Zaeu) fun x2 h2=>?_;have eh2_0:=h2.1;have eh2_2:=h2.2.2.1;have eh2_3:=h2.2.2.2.1;have eh2_4:=h2.2.2.2.2;have q1:=h1.1.1;exact tL ⟨oa1,h1.1,SzL.nil,h1.1,cl,cl,cl,cl,cl,cl,V,tk48,cl,cl,Za40,Zaeu,Zai,V,V,Zai,V,tk12⟩ Za45
 rintro ⟨E0,v5,E1,v7,v16,v17,v18⟩ ⟨O0,ov5,ov7,ov16,cv18,i0,i1,i2,i3,i4,i5,i6,i7,i8,i9,i10,i11,i12,i13,i14,i15,i16⟩;have lb_v7:=ov7.1;dsimp only [Zvg,Z3z,LT.den];apply tD<;>intro h1
 .refine Tot.ix fun x1 h2=>?_;have mh2:=h2.2;have zh2:0<=x1:=Za8r (by assumption:v16=elV a0) _ h2.1;refine tB (Ziz ov5 O0 cl cl Zf6 Zaeu cl) fun x2 h3=>?_;have eh3_1:=h3.2.1;have eh3_2:=h3.2.2;have mh3:v16[v18.toNat]?=some x2.2.1:=by rw [eh3_1];assumption
  have uh3:x2.2.2.2.1.length<=16448:=by rw [eh3_1];assumption
  have wh3:x2.2.2.2.2.length=x2.2.2.2.1.length:=by rw [eh3_1];assumption
  have zh3:RWS x2.2.2.2.1.length x2.2.2.2.2:=by rw [eh3_1];assumption
  have rh3:=rd_c (y:=x2) V V V V V V V V;have f1h5:x2.2.2.1=a1:=by rw [eh3_1];assumption
  have f2h5:x2.2.2.2.1=v16:=by rw [eh3_1];assumption
  have f3h5:MK v16.length x2.2.2.2.2 (kB (eB v16 a1) v16.length):=by rw [eh3_1];assumption
  apply tO<;>intro h4
  .refine Tot.ap fun x3 h5=>?_;have lh5:=Zb7 h5;have q1:=wr (v18+1);exact tL ⟨h3.1,ov5,SzL.tr,ov16,cl,cl,cl,cl,cl,cl,V,tk48,cl,cl,Za40,Zaeu,Zai,V,V,Zai,V,tk12⟩ Za45
  have q1:=wr (v18+1);exact tL ⟨h3.1,ov5,ov7,ov16,cl,cl,cl,cl,cl,cl,V,tk48,cl,cl,Za40,Zaeu,Zai,V,V,Zai,V,tk12⟩ Za45
 exact tR ⟨ov7,cl,V,(by rw [<- (by assumption:v16=elV a0)];exact Zbeq V O)⟩
theorem Z17{a0:List Int}{a1:Int}(oa0:(SzL 8 (fun _=>True)) a0)(h0:0<=a1):Tot (Zac6 a0 a1) (fun r=>(r=stp a0 a1)):=by
 apply tZ;dsimp only [Z6z,LT.den];apply tD<;>intro h1
 .exact Tot.ix fun x1 h2=>tR (by unfold stp;grind)
 exact tR (by unfold stp;grind)
def Zan4(a0:List Int)(a1:List Int)(a2:List (List Bool)):Znn->Prop
 | .L0 v1 v7 v14 v15 v16=>(v1=a1)/\((SzL 8 (fun _=>True)) v1)/\((SzL 8 (fun _=>True)) v14)/\(0<=v16)/\(POS a0)/\(v15=(v14.length:Int))/\(v14.length<=16448)/\(SUB v14 a0)/\(v7 < 0\/v7∈a0)/\(v14=rdV (elV a0) (nB a2))/\(v7=(v14.take v16.toNat).foldl (nxF v1) (-1))
def Zvt:Znn->M6
 | .L0 v1 v7 v14 v15 v16=>(1,(v15 - v16).toNat,1000000,0,0,0)
theorem Zan5{a0:List Int}{a1:List Int}{a2:List (List Bool)}(oa0:(SzL 8 (fun _=>True)) a0)(oa1:(SzL 8 (fun _=>True)) a1)(oa2:(SzL 24 (SzL 1 (fun _=>True))) a2)(h0:a0.length<=16448)(h1:POS a0):Tot (Zahg a0 a1 a2) (fun r=>(r < 0\/r∈a0)/\(r=nxV a0 a1 (nB a2))):=by
 apply Tot.rn (Zan4 a0 a1 a2) Zvt
 .dsimp only [Z93,LT.den];refine tB (Zaj0 oa0 oa2 cl) fun x1 h1=>?_;have eh1_1:=h1.2.1;have eh1_2:=h1.2.2.1;have eh1_3:=h1.2.2.2;exact tL ⟨rfl,oa1,h1.1,cl,V,cl,cl,V,tk83,V,tk30⟩ (by unfold Zvt lt6;dsimp only;omega)
 rintro ⟨v1,v7,v14,v15,v16⟩ ⟨al0,ov1,ov14,cv16,i0,i1,i2,i3,i4,i5,i6⟩;subst al0;dsimp only [Zx8,Z61,LT.den];apply tD<;>intro h1
 .refine Tot.ix fun x1 h2=>?_;have mh2:=h2.2;have zh2:=Zbg9 (by assumption:POS a0) (by assumption:SUB v14 a0) mh2;have mh2:=h2.2;apply tD<;>intro h3
  .exact Zanf
  refine tB (Z17 ov1 cl) fun x2 h4=>tB (Z17 ov1 cl) fun x3 h5=>?_;apply tD<;>intro h6
  .exact Zanf
  apply tE<;>intro h7
  .apply tD<;>intro h8
   .exact Zanf
   exact Zanf
  exact Zanf
 exact tR ⟨V,(by exact nx_e V V O)⟩
abbrev Zug(b0:Zc)(r:Zc):Prop:=(Z2 r)/\(r.traits.length=r.s.Objects.length)/\(r.dropped.length=r.s.Objects.length)/\(r.done.length=r.forces.length)/\(r.hits.length=r.forces.length)/\(r.s.Objects.length<=2048)/\(r.forces.length<=16448)/\(HI r.s.Objects.length r.hits)/\(r.s=b0.s)/\(r.forces=b0.forces)/\(r=Zt5 b0)
def Zum(b0:Zc):Zds->Prop
 | .L0 c0 v10 v11 v12=>(Z2 c0)/\((SzL 128 (fun _=>True)) v10)/\(0<=v12)/\(c0.traits.length=c0.s.Objects.length)/\(c0.dropped.length=c0.s.Objects.length)/\(c0.done.length=c0.forces.length)/\(c0.hits.length=c0.forces.length)/\(c0.s.Objects.length<=2048)/\(c0.forces.length<=16448)/\(HI c0.s.Objects.length c0.hits)/\(c0.s=b0.s)/\(c0.forces=b0.forces)/\(v11=(v10.length:Int))/\(v11=(c0.s.Objects.length:Int))/\(v10=b0.s.Objects)/\(c0.traits=b0.traits.mapIdx (Zg3 (Z8r v10) (fun _ t=>t) v12))/\(c0.dropped=b0.dropped)/\(c0.done=b0.done)/\(c0.hits=b0.hits)
def Zme:Zds->M6
 | .L0 c0 v10 v11 v12=>(1,(v11 - v12).toNat,1000000,0,0,0)
theorem Zun{b0:Zc}(ob0:Z2 b0)(h0:b0.traits.length=b0.s.Objects.length)(h1:b0.dropped.length=b0.s.Objects.length)(h2:b0.done.length=b0.forces.length)(h3:b0.hits.length=b0.forces.length)(h4:b0.s.Objects.length<=2048)(h5:b0.forces.length<=16448)(h6:HI b0.s.Objects.length b0.hits):Tot (Ziu b0) (Zug b0):=by
 unfold Ziu;refine tX (Inv:=(Zum b0)) (μ:=Zme) (m:=(1000000,0,0,0,0,0)) ?_ ?_
 .dsimp only [Zmj,LT.den];have q1:=ob0.1.2.1.1;exact tL ⟨ob0,ob0.1.2.1,cl,cl,cl,cl,cl,cl,cl,Zbs,Zco,Zco,cl,cl,Zai,tk5,Zai,Zai,Zai⟩ Za42
 .intro s hs;cases s with
  | L0 c0 v10 v11 v12=>
   obtain⟨oc0,ov10,cv12,i0,i1,i2,i3,i4,i5,i6,i7,i8,i9,i10,i11,i12,i13,i14,i15⟩:=hs;have lb_v10:=ov10.1;show Tot (Zg2 c0 v10 v11 v12).den _;dsimp only [Zg2,LT.den];refine tD (fun h1=>?_) (fun h1=>?_)
   .refine tB (tI O O) (fun x2 h3=>?_);have mh3:=h3.2;refine tB (tI O O) (fun x4 h5=>?_);have oh5:Zz x4:=oc0.2.2.1.2 x4 h5.1;have mh5:=h5.2;have nh5:=oh5.1;have ah5:=oh5.2.1;have bh5:=oh5.2.2;unfold SzS at nh5;have mh5:=h5.2;refine tE (fun h6=>?_) (fun h6=>?_)
    .refine tN (fun h7=>?_) (fun h7=>?_)
     .refine tB (Zae8) (fun x8 h9=>?_);have eh9_0:=h9;refine tB (Zv8) (fun x10 h11=>?_);have eh11_0:=h11;refine tB (Zv8) (fun x12 h13=>?_);have eh13_0:=h13;refine tB (Tot.set O O) (fun x14 h15=>?_);have lh15:=h15.1;refine tB (Tot.set2 O O O) (fun x16 h17=>?_);have lh17:=h17.1;refine qw (v12+1) fun q18 q19=>?_;exact tL ⟨⟨oc0.1,oc0.2.1,⟨lo,fun e he=>(h17.2.1 e he).elim (fun w=>by rw [w];exact⟨(by unfold SzS;first | omega | (simp only [List.length_append,List.length_cons,List.length_nil];omega)),szx,szx⟩) ((show SzL 1 Zz _ from ⟨lo,fun e he=>(h15.2.1 e he).elim (fun w=>by rw [w];exact⟨oh5.1,oh5.2.1,oh5.2.2⟩) (oc0.2.2.1.2 e)⟩).2 e)⟩,oc0.2.2.2.1,oc0.2.2.2.2.1,oc0.2.2.2.2.2⟩,ov10,cl,cl,cl,cl,cl,cl,cl,Zbs,Zco,Zco,cl,cl,Zai,tk5,Zai,Zai,Zai⟩ Za42
     .refine qw (v12+1) fun q20 q21=>?_;exact Zbdm
    .refine qw (v12+1) fun q22 q23=>?_;exact Zbdm
   .exact tR ⟨oc0,cl,cl,cl,cl,cl,cl,Zbs,Zco,Zco,(by exact cn_e V O V V V V V V V)⟩
def Zst(b0:Zc)(a1:Int)(a2:Int):Zdb->Prop
 | .L0 v1 v2 E1 v18 v19 v20=>(v1=a1)/\(v2=a2)/\(Zbt E1)/\((SzL 176 Z3) v18)/\(0<=v20)/\(b0.traits.length=b0.s.Objects.length)/\(b0.dropped.length=b0.s.Objects.length)/\(b0.done.length=b0.forces.length)/\(b0.hits.length=b0.forces.length)/\(b0.s.Objects.length<=2048)/\(b0.forces.length<=16448)/\(HI b0.s.Objects.length b0.hits)/\(Z2 b0)/\(0<=v1)/\(v1 < (b0.forces.length:Int))/\(v19=(v18.length:Int))/\(v18=E1.Mods)/\(b0.forces[v1.toNat]?=some E1)/\((v18.take v20.toNat).any (Zyf v2)=false)
def Zkq:Zdb->M6
 | .L0 v1 v2 E1 v18 v19 v20=>(1,(v19 - v20).toNat,1000000,0,0,0)
theorem Zsu{b0:Zc}{a1:Int}{a2:Int}(ob0:Z2 b0)(h0:b0.traits.length=b0.s.Objects.length)(h1:b0.dropped.length=b0.s.Objects.length)(h2:b0.done.length=b0.forces.length)(h3:b0.hits.length=b0.forces.length)(h4:b0.s.Objects.length<=2048)(h5:b0.forces.length<=16448)(h6:HI b0.s.Objects.length b0.hits)(h7:0<=a1)(h8:a1 < (b0.forces.length:Int)):Tot (Zml b0 a1 a2) (fun r=>(r=Zmc b0 a1 a2)):=by
 apply Tot.rn (Zst b0 a1 a2) Zkq
 .dsimp only [Zk4,LT.den];refine Tot.ix fun x1 h1=>?_;have oh1:Zbt x1:=ob0.2.1.2 x1 h1.1;have mh1:=h1.2;exact tL ⟨rfl,rfl,oh1,oh1.2.2,cl,cl,cl,cl,cl,cl,cl,Zbs,V,cl,cl,cl,Zai,V,tk19⟩ Zbds
 rintro ⟨v1,v2,E1,v18,v19,v20⟩ ⟨al0,al1,O1,ov18,cv20,i0,i1,i2,i3,i4,i5,i6,i7,i8,i9,i10,i11,i12,i13⟩;have lb_v18:=ov18.1;subst al0;subst al1;dsimp only [Zgs,Zkj,LT.den];apply tD<;>intro h1
 .refine Tot.ix fun x1 h2=>?_;have oh2:Z3 x1:=ov18.2 x1 h2.1;have mh2:=h2.2;apply tE<;>intro h3
  .refine tB (Zrq) fun x2 h4=>?_;apply tE<;>intro h5
   .refine tB (Zuu oh2.2) fun x3 h6=>?_;apply tF<;>intro h7
    .exact Zaub
    exact Za4n
   exact Za4n
  exact Za4n
 apply tO<;>intro h2
 .refine Tot.ix fun x1 h3=>?_;have mh3:=h3.2;apply tO<;>intro h4
  .apply tE<;>intro h5
   .exact Zaub
   exact tB (Zuu O1.2.1) fun x2 h6=>tR tk3
  exact Zaub
 exact Zaub
theorem Zkr{b0:Zc}{a1:Int}(ob0:Z2 b0)(h0:b0.traits.length=b0.s.Objects.length)(h1:b0.dropped.length=b0.s.Objects.length)(h2:b0.done.length=b0.forces.length)(h3:b0.hits.length=b0.forces.length)(h4:b0.s.Objects.length<=2048)(h5:b0.forces.length<=16448)(h6:HI b0.s.Objects.length b0.hits)(h7:0<=a1)(h8:a1 < (b0.forces.length:Int))(h9:Zd4 b0.s.Objects):Tot (Zno b0 a1) (fun r=>(r=Zn3 b0 a1)):=by
 apply tZ;dsimp only [Zlw,LT.den];refine Tot.ix fun x1 h1=>?_;have mh1:=h1.2;apply tF<;>intro h2
 .exact Zaua
 refine Tot.ix fun x2 h3=>?_;have mh3:=h3.2;apply tF<;>intro h4
 .exact Zaua
 refine tB (Z4e ob0.1) fun x3 h5=>?_;have eh5_0:=h5.1;apply tD<;>intro h6
 .exact Zaua
 refine Tot.ix fun x4 h7=>?_;have mh7:=h7.2;exact Zaua
theorem Zhw{b0:Zc}{a1:Int}(ob0:Z2 b0)(h0:b0.traits.length=b0.s.Objects.length)(h1:b0.dropped.length=b0.s.Objects.length)(h2:b0.done.length=b0.forces.length)(h3:b0.hits.length=b0.forces.length)(h4:b0.s.Objects.length<=2048)(h5:b0.forces.length<=16448)(h6:HI b0.s.Objects.length b0.hits)(h7:0<=a1)(h8:a1 < (b0.forces.length:Int))(h9:Zd4 b0.s.Objects):Tot (Zqc b0 a1) (fun r=>(r=Zjy b0 a1)):=by
 apply tZ;dsimp only [Zob,LT.den];refine Tot.ix fun x1 h1=>?_;have mh1:=h1.2;refine tB (Z4e ob0.1) fun x2 h2=>?_;have eh2_0:=h2.1;apply tO<;>intro h3
 .apply tD<;>intro h4
  .refine Tot.ix fun x3 h5=>?_;have mh5:=h5.2;exact Za4l
  exact Za4l
 exact Za4l
abbrev Zrh(b0:Zc)(a1:Int)(r:List Int):Prop:=((SzL 8 (fun _=>True)) r)/\(r.length<=b0.s.Objects.length)/\(INR b0.s.Objects.length r)/\(r=Zmb b0 a1)
def Zsa(b0:Zc)(a1:Int):Zc6->Prop
 | .L0 E1 v6 v7 v42 v43 v44=>(Zbt E1)/\((SzL 8 (fun _=>True)) v7)/\((SzL 128 (fun _=>True)) v42)/\(0<=v44)/\(b0.traits.length=b0.s.Objects.length)/\(b0.dropped.length=b0.s.Objects.length)/\(b0.done.length=b0.forces.length)/\(b0.hits.length=b0.forces.length)/\(b0.s.Objects.length<=2048)/\(b0.forces.length<=16448)/\(HI b0.s.Objects.length b0.hits)/\(Z2 b0)/\(v43=(v42.length:Int))/\(v43=(b0.s.Objects.length:Int))/\(v7.length<=v44.toNat)/\(v44<=v43)/\(INR b0.s.Objects.length v7)/\(v7=zfm (Zt4 b0 E1 v6) (fun k _=>k) v42 v44)/\(b0.forces[a1.toNat]?=some E1)/\(v6=Zjy b0 a1)/\(v42=b0.s.Objects)/\(Zn3 b0 a1=true)/\(bA b0.done a1=false)
def Zjt:Zc6->M6
 | .L0 E1 v6 v7 v42 v43 v44=>(1,(v43 - v44).toNat,1000000,0,0,0)
theorem Zjg{b0:Zc}{a1:Int}(ob0:Z2 b0)(h0:b0.traits.length=b0.s.Objects.length)(h1:b0.dropped.length=b0.s.Objects.length)(h2:b0.done.length=b0.forces.length)(h3:b0.hits.length=b0.forces.length)(h4:b0.s.Objects.length<=2048)(h5:b0.forces.length<=16448)(h6:HI b0.s.Objects.length b0.hits)(h7:0<=a1)(h8:a1 < (b0.forces.length:Int))(h9:Zd4 b0.s.Objects):Tot (Zly b0 a1) (Zrh b0 a1):=by
 apply Tot.rn (Zsa b0 a1) Zjt
 .dsimp only [Zkl,LT.den];refine Tot.ix fun x1 h1=>?_;have mh1:=h1.2;apply tF<;>intro h2
  .refine Tot.ix fun x2 h3=>?_;have oh3:(SzL 8 (fun _=>True)) x2:=ob0.2.2.2.2.2.2 x2 h3.1;have mh3:=h3.2;exact tR ⟨oh3,tk85,tk78,tk15⟩
  refine tB (Zkr ob0 cl cl cl cl cl cl Zbs cl cl Ze6) fun x2 h3=>?_;have eh3_0:=h3;apply tO<;>intro h4
  .exact tR ⟨SzL.nil,tk85,tk78,tk15⟩
  refine Tot.ix fun x3 h5=>?_;have oh5:Zbt x3:=ob0.2.1.2 x3 h5.1;have mh5:=h5.2;exact tB (Zhw ob0 cl cl cl cl cl cl Zbs cl cl Ze6) fun x4 h6=>tL ⟨oh5,SzL.nil,ob0.1.2.1,cl,cl,cl,cl,cl,cl,cl,Zbs,V,cl,cl,cl,cl,tk58,tk2,V,V,Zai,(by grind),tk91⟩ tk99
 rintro ⟨E1,v6,v7,v42,v43,v44⟩ ⟨O1,ov7,ov42,cv44,i0,i1,i2,i3,i4,i5,i6,i7,i8,i9,i10,i11,i12,i13,i14,i15,i16,i17,i18⟩;have lb_v7:=ov7.1;dsimp only [Zgj,Zjq,LT.den];apply tD<;>intro h1
 .refine Tot.ix fun x1 h2=>?_;have mh2:=h2.2;apply tE<;>intro h3
  .apply tF<;>intro h4
   .refine tB (Zkp O1.1) fun x2 h5=>?_;have eh5_0:=h5;apply tF<;>intro h6
    .refine Tot.ap fun x3 h7=>?_;have lh7:=Zb7 h7;exact Za4o
    apply tO<;>intro h7
    .refine Tot.ix fun x3 h8=>?_;have oh8:Zz x3:=(asz:Z2 b0).2.2.1.2 x3 h8.1;have mh8:=h8.2;refine tB (Z16 x1 x3 v6 E1.Source E1.Filter oh8 O1.2.1) fun x4 h9=>?_;apply tF<;>intro h10
     .refine Tot.ap fun x5 h11=>?_;have lh11:=Zb7 h11;exact Za4o
     exact Zang
    exact Zang
   apply tO<;>intro h5
   .refine Tot.ix fun x2 h6=>?_;have oh6:Zz x2:=(asz:Z2 b0).2.2.1.2 x2 h6.1;have mh6:=h6.2;refine tB (Z16 x1 x2 v6 E1.Source E1.Filter oh6 O1.2.1) fun x3 h7=>?_;apply tF<;>intro h8
    .refine Tot.ap fun x4 h9=>?_;have lh9:=Zb7 h9;exact Za4o
    exact Zang
   exact Zang
  exact Zang
 exact tR ⟨ov7,tk85,tk78,tk15⟩
abbrev Zsb(b0:Zc)(a1:Int)(a2:Int)(r:List Int):Prop:=((SzL 8 (fun _=>True)) r)/\(ML b0.forces a1 r)/\(r=Zye b0 a1 a2)
def Zsv(b0:Zc)(a1:Int)(a2:Int):Zdc->Prop
 | .L0 v1 v2 E1 v8 v23 v24 v25=>(v1=a1)/\(v2=a2)/\(Zbt E1)/\((SzL 8 (fun _=>True)) v8)/\((SzL 176 Z3) v23)/\(0<=v25)/\(b0.traits.length=b0.s.Objects.length)/\(b0.dropped.length=b0.s.Objects.length)/\(b0.done.length=b0.forces.length)/\(b0.hits.length=b0.forces.length)/\(b0.s.Objects.length<=2048)/\(b0.forces.length<=16448)/\(HI b0.s.Objects.length b0.hits)/\(Z2 b0)/\(0<=v1)/\(v1 < (b0.forces.length:Int))/\(v24=(v23.length:Int))/\(v24=(v8.length:Int))/\(v24=(E1.Mods.length:Int))/\(b0.forces[v1.toNat]?=some E1)/\(v23=E1.Mods)/\(v8=v23.mapIdx (Zg3 (fun _ m=>Zyd b0.s b0.traits (Zjy b0 v1) E1.Source v2 m) (fun _ _=>0) v25))
def Zks:Zdc->M6
 | .L0 v1 v2 E1 v8 v23 v24 v25=>(1,(v24 - v25).toNat,1000000,0,0,0)
theorem Zju{b0:Zc}{a1:Int}{a2:Int}(ob0:Z2 b0)(h0:b0.traits.length=b0.s.Objects.length)(h1:b0.dropped.length=b0.s.Objects.length)(h2:b0.done.length=b0.forces.length)(h3:b0.hits.length=b0.forces.length)(h4:b0.s.Objects.length<=2048)(h5:b0.forces.length<=16448)(h6:HI b0.s.Objects.length b0.hits)(h7:0<=a1)(h8:a1 < (b0.forces.length:Int))(h9:Zd4 b0.s.Objects):Tot (Zmm b0 a1 a2) (Zsb b0 a1 a2):=by
 apply Tot.rn (Zsv b0 a1 a2) Zks
 .dsimp only [Zk5,LT.den];refine Tot.ix fun x1 h1=>?_;have oh1:Zbt x1:=ob0.2.1.2 x1 h1.1;have mh1:=h1.2;have q1:=oh1.2.2.1;exact tB (Tot.mk) fun x2 h2=>tL ⟨rfl,rfl,oh1,SzL.tr,oh1.2.2,cl,cl,cl,cl,cl,cl,cl,Zbs,V,cl,cl,cl,cl,cl,V,Zai,tk4⟩ Za41
 rintro ⟨v1,v2,E1,v8,v23,v24,v25⟩ ⟨al0,al1,O1,ov8,ov23,cv25,i0,i1,i2,i3,i4,i5,i6,i7,i8,i9,i10,i11,i12,i13,i14,i15⟩;have lb_v8:=ov8.1;have lb_v23:=ov23.1;subst al0;subst al1;dsimp only [Zgt,Zkm,LT.den];apply tD<;>intro h1
 .refine Tot.ix fun x1 h2=>?_;have oh2:Z3 x1:=ov23.2 x1 h2.1;have mh2:=h2.2;apply tE<;>intro h3
  .refine tB (Zrq) fun x2 h4=>?_;apply tE<;>intro h5
   .refine tB (Zhw (asz:Z2 b0) cl cl cl cl cl cl Zbs cl cl Ze6) fun x3 h6=>tB (Zap9 b0.s b0.traits x3 E1.Source x1.Filter (asz:Z2 b0).1 (asz:Z2 b0).2.2.1 oh2.2) fun x4 h7=>?_;have eh7_1:=h7.2;refine Tot.ix fun x5 h8=>tB (Tot.set O O) fun x6 h9=>?_;have q1:=wr (v25+1);exact tL ⟨rfl,rfl,O1,SzL.tr,ov23,cl,cl,cl,cl,cl,cl,cl,Zbs,V,cl,cl,cl,cl,cl,V,Zai,tk4⟩ Za41
   exact Zbdk
  exact Zbdk
 exact tR ⟨ov8,(by exact ml_i V O),(by exact nu_e V O V V rfl)⟩
theorem Zmf{b0:Zc}{a1:Int}{a2:Int}(ob0:Z2 b0)(h0:b0.traits.length=b0.s.Objects.length)(h1:b0.dropped.length=b0.s.Objects.length)(h2:b0.done.length=b0.forces.length)(h3:b0.hits.length=b0.forces.length)(h4:b0.s.Objects.length<=2048)(h5:b0.forces.length<=16448)(h6:HI b0.s.Objects.length b0.hits)(h7:0<=a1)(h8:a1 < (b0.forces.length:Int))(h9:Zd4 b0.s.Objects):Tot (Zpb b0 a1 a2) (fun r=>(Zyi r)/\(r=Zjj b0 a1 a2)):=by
 apply tZ;dsimp only [Znp,LT.den];refine tB (Zkr ob0 cl cl cl cl cl cl Zbs cl cl Ze6) fun x1 h1=>tB (Zjg ob0 cl cl cl cl cl cl Zbs cl cl Ze6) fun x2 h2=>?_;have eh2_3:=h2.2.2.2;refine tB (Zju ob0 cl cl cl cl cl cl Zbs cl cl Ze6) fun x3 h3=>?_;have eh3_2:=h3.2.2;exact tR ⟨⟨h2.1,h3.1⟩,(by exact lk_e V V V)⟩
theorem Zuh{b0:Zc}(ob0:Z2 b0):Tot (Znr b0) (fun r=>(Z2 r)/\(r=b0)):=by
 apply tZ;dsimp only [Zl0,LT.den];have q1:=ob0.2.2.1.1;refine tB (tA (by first | omega | (simp only [List.length_nil];omega)) (by decide)) fun x1 h1=>tB (Zk8 ob0.2.2.2.1) fun x2 h2=>?_;have eh2_1:=h2.2;refine tB (Zk8 ob0.2.2.2.2.1) fun x3 h3=>?_;have eh3_1:=h3.2;have q2:=ob0.2.2.2.2.2.1;exact tB (tA (by first | omega | (simp only [List.length_nil];omega)) (by decide)) fun x4 h4=>tR ⟨⟨ob0.1,ob0.2.1,ob0.2.2.1,h2.1,h3.1,ob0.2.2.2.2.2⟩,Za48⟩
abbrev Zui(b0:Zc)(a1:Int)(a2:Int)(r:Zc):Prop:=(Z2 r)/\(r.traits.length=r.s.Objects.length)/\(r.dropped.length=r.s.Objects.length)/\(r.done.length=r.forces.length)/\(r.hits.length=r.forces.length)/\(r.s.Objects.length<=2048)/\(r.forces.length<=16448)/\(HI r.s.Objects.length r.hits)/\(r.s=b0.s)/\(r.forces=b0.forces)/\(r=Zvm b0 a1 a2)
def Zuo(b0:Zc)(a1:Int)(a2:Int):Zcp->Prop
 | .L0 c0 v1 v2 v6 v7 v8 v23 v24 v25=>(v1=a1)/\(v2=a2)/\(Z2 c0)/\((SzL 8 (fun _=>True)) v6)/\((SzL 8 (fun _=>True)) v7)/\((SzL 8 (fun _=>True)) v23)/\(0<=v25)/\(c0.traits.length=c0.s.Objects.length)/\(c0.dropped.length=c0.s.Objects.length)/\(c0.done.length=c0.forces.length)/\(c0.hits.length=c0.forces.length)/\(c0.s.Objects.length<=2048)/\(c0.forces.length<=16448)/\(HI c0.s.Objects.length c0.hits)/\(c0.s=b0.s)/\(c0.forces=b0.forces)/\(0<=v1)/\(v1 < (c0.forces.length:Int))/\(v6.length<=c0.s.Objects.length)/\(INR c0.s.Objects.length v6)/\(ML c0.forces v1 v7)/\(v24=(v23.length:Int))/\(INR c0.s.Objects.length v23)/\(c0.traits=TRS b0 v1 v2 v7 v8 v23 v25)/\(c0.dropped=DRS b0 v1 v2 v23 v25)/\(c0.done=b0.done)/\(c0.hits=b0.hits)/\(v6=Zmb b0 v1)/\(v7=Zye b0 v1 v2)/\(v8=Zjy b0 v1)/\(v23=v6)
 | .L1 c0 v1 v2 v6 v7 v8 v10 v23 v24 v25 v36 v37 v38=>(v1=a1)/\(v2=a2)/\(Z2 c0)/\((SzL 8 (fun _=>True)) v6)/\((SzL 8 (fun _=>True)) v7)/\((SzL 8 (fun _=>True)) v23)/\((SzL 176 Z3) v36)/\(0<=v38)/\(0<=v25)/\(v25 < v24)/\(c0.traits.length=c0.s.Objects.length)/\(c0.dropped.length=c0.s.Objects.length)/\(c0.done.length=c0.forces.length)/\(c0.hits.length=c0.forces.length)/\(c0.s.Objects.length<=2048)/\(c0.forces.length<=16448)/\(HI c0.s.Objects.length c0.hits)/\(c0.s=b0.s)/\(c0.forces=b0.forces)/\(0<=v1)/\(v1 < (c0.forces.length:Int))/\(v6.length<=c0.s.Objects.length)/\(INR c0.s.Objects.length v6)/\(ML c0.forces v1 v7)/\(v24=(v23.length:Int))/\(INR c0.s.Objects.length v23)/\(0<=v10)/\(v10 < (c0.s.Objects.length:Int))/\(v37=(v36.length:Int))/\(v37=(v7.length:Int))/\(c0.traits=Zic (mfS v36 v7 v8 v2 v38) (TRS b0 v1 v2 v7 v8 v23 v25) v10)/\(c0.dropped=Zic (drS v36 v2 v38) (DRS b0 v1 v2 v23 v25) v10)/\(c0.done=b0.done)/\(c0.hits=b0.hits)/\(v6=Zmb b0 v1)/\(v7=Zye b0 v1 v2)/\(v8=Zjy b0 v1)/\(v23=v6)/\(v36=(fAt b0 v1).Mods)/\(v23[v25.toNat]?=some v10)/\(v38<=v37)
def Zmg:Zcp->M6
 | .L0 c0 v1 v2 v6 v7 v8 v23 v24 v25=>(1,(v24 - v25).toNat,1000000,0,0,0)
 | .L1 c0 v1 v2 v6 v7 v8 v10 v23 v24 v25 v36 v37 v38=>(1,(v24 - v25).toNat,1,(v37 - v38).toNat,1000000,0)
theorem Zk9{b0:Zc}{a1:Int}{a2:Int}(ob0:Z2 b0)(h0:b0.traits.length=b0.s.Objects.length)(h1:b0.dropped.length=b0.s.Objects.length)(h2:b0.done.length=b0.forces.length)(h3:b0.hits.length=b0.forces.length)(h4:b0.s.Objects.length<=2048)(h5:b0.forces.length<=16448)(h6:HI b0.s.Objects.length b0.hits)(h7:0<=a1)(h8:a1 < (b0.forces.length:Int))(h9:Zd4 b0.s.Objects):Tot (Zod b0 a1 a2) (Zui b0 a1 a2):=by
 apply Tot.rn (Zuo b0 a1 a2) Zmg
 .dsimp only [Zmn,LT.den];refine tB (Zjg ob0 cl cl cl cl cl cl Zbs cl cl Ze6) fun x1 h1=>?_;have eh1_1:=h1.2.1;have eh1_2:=h1.2.2.1;have eh1_3:=h1.2.2.2;refine tB (Zju ob0 cl cl cl cl cl cl Zbs cl cl Ze6) fun x2 h2=>?_;have eh2_1:=h2.2.1;have eh2_2:=h2.2.2;refine tB (Zhw ob0 cl cl cl cl cl cl Zbs cl cl Ze6) fun x3 h3=>?_;have q1:=h1.1.1;exact tL ⟨rfl,rfl,ob0,h1.1,h2.1,h1.1,cl,cl,cl,cl,cl,cl,cl,Zbs,Zco,Zco,cl,cl,cl,Zf6,Zf6,cl,Zf6,tk43,tk44,Zai,Zai,V,V,V,Zai⟩ Zaer
 intro s hs;cases s with
 | L0 c0 v1 v2 v6 v7 v8 v23 v24 v25=>
  obtain⟨al0,al1,oc0,ov6,ov7,ov23,cv25,i0,i1,i2,i3,i4,i5,i6,i7,i8,i9,i10,i11,i12,i13,i14,i15,i16,i17,i18,i19,i20,i21,i22,i23⟩:=hs;have lb_v7:=ov7.1;have lb_v23:=ov23.1;subst al0;subst al1;dsimp only [Zfc,Zl2,LT.den];apply tD<;>intro h1
  .refine Tot.ix fun x1 h2=>?_;have mh2:=h2.2;have zh2:=Zana (by assumption:INR _ v23) mh2;have mh2:=h2.2;refine Tot.ix fun x2 h3=>?_;have oh3:Zbt x2:=oc0.2.1.2 x2 h3.1;have mh3:=h3.2;have q1:=oh3.2.2.1;exact tL ⟨rfl,rfl,oc0,ov6,ov7,ov23,oh3.2.2,cl,cl,cl,cl,cl,cl,cl,cl,cl,Zbs,Zco,Zco,cl,cl,cl,Zf6,Zf6,cl,Zf6,cl,cl,cl,tk87,tk11,tk6,Zai,Zai,V,V,V,Zai,tk97,V,O⟩ Zaer
  refine Tot.ix fun x1 h2=>tB (Tot.set O O) fun x2 h3=>Tot.ix fun x3 h4=>?_;have mh4:=h4.2;exact tB (Tot.set O O) fun x4 h5=>tR ⟨⟨oc0.1,oc0.2.1,oc0.2.2.1,oc0.2.2.2.1,SzL.tr,⟨lo,fun e he=>(h5.2.1 e he).elim (fun w=>by rw [w];exact ov6) (oc0.2.2.2.2.2.2 e)⟩⟩,cl,cl,cl,cl,cl,cl,(by first | assumption | exact Za8c | exact Zbcr (by assumption:(_:Int)=_/\∀ y:List Int,y∈_->y=[]).2 | exact Zbg6 V V V (by assumption:_/\(∀ e:List Int,e∈_->e=_\/e∈_)/\_).2.1),Zco,Zco,(by exact Zbhs V V V V V V V V V V V V O)⟩
 | L1 c0 v1 v2 v6 v7 v8 v10 v23 v24 v25 v36 v37 v38=>
  obtain⟨al0,al1,oc0,ov6,ov7,ov23,ov36,cv38,cv25,bd9,i0,i1,i2,i3,i4,i5,i6,i7,i8,i9,i10,i11,i12,i13,i14,i15,i16,i17,i18,i19,i20,i21,i22,i23,i24,i25,i26,i27,i28,i29,i30⟩:=hs;have lb_v7:=ov7.1;have lb_v23:=ov23.1;have lb_v36:=ov36.1;subst al0;subst al1;dsimp only [Zfc,Zl3,LT.den];apply tD<;>intro h1
  .refine Tot.ix fun x1 h2=>?_;have oh2:Z3 x1:=ov36.2 x1 h2.1;have mh2:=h2.2;refine tB (Zrq) fun x2 h3=>?_;apply tN<;>intro h4
   .have q1:=wr (v38+1);exact tL ⟨rfl,rfl,oc0,ov6,ov7,ov23,ov36,cl,cl,cl,cl,cl,cl,cl,cl,cl,Zbs,Zco,Zco,cl,cl,cl,Zf6,Zf6,cl,Zf6,cl,cl,cl,tk87,tk11,tk6,Zai,Zai,V,V,V,Zai,tk97,V,O⟩ Zaer
   refine Tot.ix fun x3 h5=>?_;have oh5:Zz x3:=oc0.2.2.1.2 x3 h5.1;have mh5:=h5.2;refine Tot.ix fun x4 h6=>?_;have mh6:=h6.2;refine tB (Zatr oh5 oh2) fun x5 h7=>?_;have eh7_1:=h7.2;refine tB (Tot.set O O) fun x6 h8=>?_;apply tE<;>intro h9
   .refine Tot.ix fun x7 h10=>?_;have mh10:=h10.2;refine tB (Tot.set O O) fun x8 h11=>?_;have q1:=wr (v38+1);exact tL ⟨rfl,rfl,⟨oc0.1,oc0.2.1,⟨lo,fun e he=>(h8.2.1 e he).elim (fun w=>by rw [w];exact h7.1) (oc0.2.2.1.2 e)⟩,SzL.tr,oc0.2.2.2.2.1,oc0.2.2.2.2.2⟩,ov6,ov7,ov23,ov36,cl,cl,cl,cl,cl,cl,cl,cl,cl,Zbs,Zco,Zco,cl,cl,cl,Zf6,Zf6,cl,Zf6,cl,cl,cl,tk87,tk11,tk6,Zai,Zai,V,V,V,Zai,tk97,V,O⟩ Zaer
   have q1:=wr (v38+1);exact tL ⟨rfl,rfl,⟨oc0.1,oc0.2.1,⟨lo,fun e he=>(h8.2.1 e he).elim (fun w=>by rw [w];exact h7.1) (oc0.2.2.1.2 e)⟩,oc0.2.2.2.1,oc0.2.2.2.2.1,oc0.2.2.2.2.2⟩,ov6,ov7,ov23,ov36,cl,cl,cl,cl,cl,cl,cl,cl,cl,Zbs,Zco,Zco,cl,cl,cl,Zf6,Zf6,cl,Zf6,cl,cl,cl,tk87,tk11,tk6,Zai,Zai,V,V,V,Zai,tk97,V,O⟩ Zaer
  have q1:=wr (v25+1);exact tL ⟨rfl,rfl,oc0,ov6,ov7,ov23,cl,cl,cl,cl,cl,cl,cl,Zbs,Zco,Zco,cl,cl,cl,Zf6,Zf6,cl,Zf6,tk43,tk44,Zai,Zai,V,V,V,Zai⟩ Zaer
def Zp7(b0:Zc)(a1:List Int)(a2:Int):Za7->Prop
 | .L0 v2 v7 v27 v28=>(v2=a2)/\((SzL 24 (SzL 1 (fun _=>True))) v7)/\(0<=v28)/\(Zd4 b0.s.Objects)/\(b0.traits.length=b0.s.Objects.length)/\(b0.dropped.length=b0.s.Objects.length)/\(b0.done.length=b0.forces.length)/\(b0.hits.length=b0.forces.length)/\(b0.s.Objects.length<=2048)/\(b0.forces.length<=16448)/\(HI b0.s.Objects.length b0.hits)/\(Z2 b0)/\(v27=(v7.length:Int))/\(RWV b0.forces.length v7 v28)/\(INR b0.forces.length a1)/\(a1.length<=16448)/\(v7.length=b0.forces.length)/\(FLS v7)
 | .L1 v2 v7 v9 v43 v44=>(v2=a2)/\((SzL 24 (SzL 1 (fun _=>True))) v7)/\(0<=v44)/\(Zd4 b0.s.Objects)/\(b0.traits.length=b0.s.Objects.length)/\(b0.dropped.length=b0.s.Objects.length)/\(b0.done.length=b0.forces.length)/\(b0.hits.length=b0.forces.length)/\(b0.s.Objects.length<=2048)/\(b0.forces.length<=16448)/\(HI b0.s.Objects.length b0.hits)/\(Z2 b0)/\(v7.length=b0.forces.length)/\(MSZ v9)/\(RWS b0.forces.length v7)/\(v43=(a1.length:Int))/\(INR b0.forces.length a1)/\(FLS v7)/\(MPV b0 v2 a1 v44 v9)/\(POS a1)
 | .L2 v2 v7 v9 v69 v70=>(v2=a2)/\((SzL 24 (SzL 1 (fun _=>True))) v7)/\(0<=v70)/\(Zd4 b0.s.Objects)/\(b0.traits.length=b0.s.Objects.length)/\(b0.dropped.length=b0.s.Objects.length)/\(b0.done.length=b0.forces.length)/\(b0.hits.length=b0.forces.length)/\(b0.s.Objects.length<=2048)/\(b0.forces.length<=16448)/\(HI b0.s.Objects.length b0.hits)/\(Z2 b0)/\(v7.length=b0.forces.length)/\(MSZ v9)/\(RWS b0.forces.length v7)/\(v69=(a1.length:Int))/\(INR b0.forces.length a1)/\(MPE b0 v2 a1 v9)/\(POS a1)/\(ND2 b0 v2 a1 v70 0 v7)
 | .L3 v2 v7 v9 v14 E1 v69 v70 v81 v82=>(v2=a2)/\((SzL 24 (SzL 1 (fun _=>True))) v7)/\(Z2 E1)/\(0<=v82)/\(0<=v70)/\(v70 < v69)/\(Zd4 b0.s.Objects)/\(b0.traits.length=b0.s.Objects.length)/\(b0.dropped.length=b0.s.Objects.length)/\(b0.done.length=b0.forces.length)/\(b0.hits.length=b0.forces.length)/\(b0.s.Objects.length<=2048)/\(b0.forces.length<=16448)/\(HI b0.s.Objects.length b0.hits)/\(Z2 b0)/\(v7.length=b0.forces.length)/\(MSZ v9)/\(RWS b0.forces.length v7)/\(v69=(a1.length:Int))/\(v81=(a1.length:Int))/\(INR b0.forces.length a1)/\(0<=v14)/\(v14 < (b0.forces.length:Int))/\(E1.forces.length=b0.forces.length)/\(E1.traits.length=E1.s.Objects.length)/\(E1.dropped.length=E1.s.Objects.length)/\(E1.done.length=E1.forces.length)/\(E1.hits.length=E1.forces.length)/\(E1.s.Objects.length<=2048)/\(E1.forces.length<=16448)/\(HI E1.s.Objects.length E1.hits)/\(MPE b0 v2 a1 v9)/\(POS a1)/\(E1=Zvm b0 v14 v2)/\(a1[v70.toNat]?=some v14)/\(Zd4 E1.s.Objects)/\(ND2 b0 v2 a1 v70 v82 v7)
def Zim:Za7->M6
 | .L0 v2 v7 v27 v28=>(5,(v27 - v28).toNat,1000000,0,0,0)
 | .L1 v2 v7 v9 v43 v44=>(3,(v43 - v44).toNat,1000000,0,0,0)
 | .L2 v2 v7 v9 v69 v70=>(1,(v69 - v70).toNat,1000000,0,0,0)
 | .L3 v2 v7 v9 v14 E1 v69 v70 v81 v82=>(1,(v69 - v70).toNat,1,(v81 - v82).toNat,1000000,0)
theorem Zp8{b0:Zc}{a1:List Int}{a2:Int}(ob0:Z2 b0)(oa1:(SzL 8 (fun _=>True)) a1)(h0:b0.traits.length=b0.s.Objects.length)(h1:b0.dropped.length=b0.s.Objects.length)(h2:b0.done.length=b0.forces.length)(h3:b0.hits.length=b0.forces.length)(h4:b0.s.Objects.length<=2048)(h5:b0.forces.length<=16448)(h6:HI b0.s.Objects.length b0.hits)(h7:a1.length<=16448)(h8:INR b0.forces.length a1)(h9:Zd4 b0.s.Objects):Tot (Zjs b0 a1 a2) (fun r=>((SzL 24 (SzL 1 (fun _=>True))) r)/\(NDM b0 a2 a1 r)):=by
 apply Tot.rn (Zp7 b0 a1 a2) Zim
 .dsimp only [Zi4,LT.den];exact tB (Tot.mk) fun x1 h1=>tL ⟨rfl,⟨lo,fun e he=>by rw [h1.2 e he];exact SzL.nil⟩,cl,Ze6,cl,cl,cl,cl,cl,cl,Zbs,V,cl,tk55,V,cl,cl,tk64⟩ tk96
 intro s hs;cases s with
 | L0 v2 v7 v27 v28=>
  obtain⟨al0,ov7,cv28,i0,i1,i2,i3,i4,i5,i6,i7,i8,i9,i10,i11,i12,i13,i14⟩:=hs;subst al0;dsimp only [Zbq,Zii,LT.den];apply tD<;>intro h1
  .refine tB (Tot.mk) fun x1 h2=>Tot.ix fun x2 h3=>tB (Tot.set O O) fun x3 h4=>?_;have q1:=wr (v28+1);exact tL ⟨rfl,⟨lo,fun e he=>(h4.2.1 e he).elim (fun w=>by rw [w];exact SzL.tr) (ov7.2 e)⟩,cl,Ze6,cl,cl,cl,cl,cl,cl,Zbs,V,cl,tk55,V,cl,cl,tk64⟩ tk96
  exact Zbdn
 | L1 v2 v7 v9 v43 v44=>
  obtain⟨al0,ov7,cv44,i0,i1,i2,i3,i4,i5,i6,i7,i8,i9,i10,i11,i12,i13,i14,i15,i16⟩:=hs;subst al0;dsimp only [Zbq,Zij,LT.den];apply tD<;>intro h1
  .refine Tot.ix fun x1 h2=>?_;have mh2:=h2.2;have zh2:=Zana (by assumption:INR b0.forces.length a1) mh2;have yh2:=h2.1;have mh2:=h2.2;refine tB (Zsu (asz:Z2 b0) cl cl cl cl cl cl Zbs cl cl) fun x2 h3=>?_;apply tF<;>intro h4
   .refine tB (Zmf (asz:Z2 b0) cl cl cl cl cl cl Zbs cl cl Ze6) fun x3 h5=>?_;have eh5_1:=h5.2;have sh5:SZV x3:=h5.1;refine tB (Tot.lk) fun x4 h6=>?_;exact Zbdo
   exact Zbdo
  apply tE<;>intro h2
  .exact tl95
  apply tD<;>intro h3
  .exact tl95
  exact Zbdl
 | L2 v2 v7 v9 v69 v70=>
  obtain⟨al0,ov7,cv70,i0,i1,i2,i3,i4,i5,i6,i7,i8,i9,i10,i11,i12,i13,i14,i15,i16⟩:=hs;subst al0;dsimp only [Zbq,Zik,LT.den];apply tD<;>intro h1
  .refine Tot.ix fun x1 h2=>?_;have mh2:=h2.2;have zh2:=Zana (by assumption:INR b0.forces.length a1) mh2;have yh2:=h2.1;have mh2:=h2.2;refine tB (Zuh (asz:Z2 b0)) fun x2 h3=>?_;have eh3_1:=h3.2;have uh3_0:x2.traits.length=x2.s.Objects.length:=by rw [eh3_1];assumption
   have uh3_1:x2.dropped.length=x2.s.Objects.length:=by rw [eh3_1];assumption
   have uh3_2:x2.done.length=x2.forces.length:=by rw [eh3_1];assumption
   have uh3_3:x2.hits.length=x2.forces.length:=by rw [eh3_1];assumption
   have uh3_4:x2.s.Objects.length<=2048:=by rw [eh3_1];assumption
   have uh3_5:x2.forces.length<=16448:=by rw [eh3_1];assumption
   have uh3_6:HI x2.s.Objects.length x2.hits:=by rw [eh3_1];assumption
   have uh5_f:x2.forces.length=b0.forces.length:=by rw [eh3_1]
   have uh5_o:Zd4 x2.s.Objects:=by rw [eh3_1];assumption
   refine tB (Zk9 h3.1 cl cl cl cl cl cl Zbs cl cl Ze6) fun x3 h4=>?_;have eh4_1:=h4.2.1;have eh4_2:=h4.2.2.1;have eh4_3:=h4.2.2.2.1;have eh4_4:=h4.2.2.2.2.1;have eh4_5:=h4.2.2.2.2.2.1;have eh4_6:=h4.2.2.2.2.2.2.1;have eh4_7:=h4.2.2.2.2.2.2.2.1;have eh4_8:=h4.2.2.2.2.2.2.2.2.1;have eh4_10:=h4.2.2.2.2.2.2.2.2.2.2;exact tL ⟨rfl,ov7,h4.1,cl,cl,cl,Ze6,cl,cl,cl,cl,cl,cl,Zbs,V,cl,tk69,Z8v,cl,cl,V,cl,cl,Ziw,cl,cl,cl,cl,cl,cl,Zbs,V,Zaet,tk94,V,Ze6,tk1⟩ tk96
  exact tl95
 | L3 v2 v7 v9 v14 E1 v69 v70 v81 v82=>
  obtain⟨al0,ov7,O1,cv82,cv70,bd5,i0,i1,i2,i3,i4,i5,i6,i7,i8,i9,i10,i11,i12,i13,i14,i15,i16,i17,i18,i19,i20,i21,i22,i23,i24,i25,i26,i27,i28,i29,i30⟩:=hs;subst al0;dsimp only [Zbq,Zil,LT.den];apply tD<;>intro h1
  .refine Tot.ix fun x1 h2=>?_;have mh2:=h2.2;have zh2:=Zana (by assumption:INR b0.forces.length a1) mh2;have yh2:=h2.1;have mh2:=h2.2;refine tB (Tot.lk) fun x2 h3=>?_;apply tF<;>intro h4
   .apply tN<;>intro h5
    .refine Tot.ix fun x3 h6=>?_;have oh6:(SzL 1 (fun _=>True)) x3:=ov7.2 x3 h6.1;have mh6:=h6.2;(first | have wh6:=Z1o (by assumption:RWS _ v7) mh6 | skip);have mh6:=h6.2;refine tB (Zmf O1 cl cl cl cl cl cl Zbs cl cl Ze6) fun x4 h7=>?_;have eh7_1:=h7.2;refine tB (Zy4 szx h7.1) fun x5 h8=>Tot.ix fun x6 h9=>?_;have mh9:=h9.2;refine tB (Tot.setM) fun x7 h10=>?_;have lh10:x7.length=v7.length:=by rw [h10,List.length_set]
     have q1:=wr (v82+1);exact tL ⟨rfl,SzL.setM h10 ov7 oh6,O1,cl,cl,cl,Ze6,cl,cl,cl,cl,cl,cl,Zbs,V,cl,tk69,Z8v,cl,cl,V,cl,cl,Ziw,cl,cl,cl,cl,cl,cl,Zbs,V,Zaet,tk94,V,Ze6,tk1⟩ tk96
    exact Zbdr
   exact Zbdr
  have q1:=wr (v70+1);exact Zbdl
theorem Zkt{a0:Int}{a1:Int}:Tot (Zns a0 a1) (fun r=>(r = !neI a1 a0)):=by
 apply tZ;dsimp only [Zl4,LT.den];exact tR (by simp [neI])
def Zg7(a0:List Int)(a1:Int):Za0->Prop
 | .L0 v0 w1_0 v7 v8=>(v0=a0)/\(w1_0=a1)/\((SzL 8 (fun _=>True)) v0)/\(0<=v8)/\(v7=(v0.length:Int))/\(∀ (k:Nat) x,(k:Int) < v8->v0[k]?=some x->neI w1_0 x=true)
def Zdp:Za0->M6
 | .L0 v0 w1_0 v7 v8=>(1,(v7 - v8).toNat,1000000,0,0,0)
theorem Zg8{a0:List Int}{a1:Int}(oa0:(SzL 8 (fun _=>True)) a0):Tot (Zd3 a0 a1) (fun r=>(FD a0 (neI a1) r)):=by
 apply Tot.rn (Zg7 a0 a1) Zdp
 .dsimp only [Zdt,LT.den];exact tL ⟨rfl,rfl,oa0,cl,cl,tk53⟩ tk79
 rintro ⟨v0,w1_0,v7,v8⟩ ⟨al0,al1,ov0,cv8,i0,i1⟩;have lb_v0:=ov0.1;subst al0;subst al1;dsimp only [Zby,Zdn,LT.den];apply tD<;>intro h1
 .refine Tot.ix fun x1 h2=>?_;have mh2:=h2.2;refine tB (Zkt) fun x2 h3=>?_;apply tF<;>intro h4
  .exact tl78
  have q1:=wr (v8+1);exact tL ⟨rfl,rfl,ov0,cl,cl,tk53⟩ tk79
 exact tl78
def Zf9(b0:List Int)(a1:Int):Zar->Prop
 | .L0 v0 w1_0 v5 v6=>(w1_0=a1)/\((SzL 8 (fun _=>True)) v0)/\(0<=v6)/\(DI b0 v0 (neI w1_0) v5 v6)/\(v6<=(v0.length:Int))
def Zcy:Zar->M6
 | .L0 v0 w1_0 v5 v6=>(1,((v0.length:Int) - v6).toNat,1000000,0,0,0)
theorem Zga{b0:List Int}{a1:Int}(ob0:(SzL 8 (fun _=>True)) b0):Tot (Zdd b0 a1) (fun r=>((SzL 8 (fun _=>True)) r)/\(r=b0.filter (neI a1))):=by
 apply Tot.rn (Zf9 b0 a1) Zcy
 .have lb_b0:=ob0.1;dsimp only [Zc8,LT.den];refine tB (Zg8 ob0) fun x1 h1=>?_;have eh1_0:=h1;have ph1:=Zbgp eh1_0;apply tE<;>intro h2
  .exact tR ⟨ob0,tk34⟩
  have q1:=wr (x1+1);exact tL ⟨rfl,ob0,cl,tk14,cl⟩ tk73
 rintro ⟨v0,w1_0,v5,v6⟩ ⟨al0,ov0,cv6,i0,i1⟩;have lb_v0:=ov0.1;subst al0;dsimp only [Zbm,Zcx,LT.den];have l0:=i0.1;have l1:=i0.2.1;have l2:=i0.2.2.1;apply tD<;>intro h1
 .refine Tot.ix fun x1 h2=>?_;have mh2:=h2.2;refine tB (Zkt) fun x2 h3=>?_;apply tO<;>intro h4
  .refine Tot.ix fun x3 h5=>tB (Tot.set O O) fun x4 h6=>?_;have q1:=wr (v5+1);have q2:=wr (v6+1);exact tL ⟨rfl,SzL.tr,cl,tk14,cl⟩ tk73
  have q1:=wr (v6+1);exact tL ⟨rfl,ov0,cl,tk14,cl⟩ tk73
 refine tB (Tot.clr O O) fun x1 h2=>?_;have vh2:=h2.2.2;refine tB (Tot.slice O O O) fun x2 h3=>?_;have vh3:=h3.2.2;exact tR ⟨SzL.tr,tk34⟩
end Go.PW
