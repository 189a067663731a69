import Derived.Test.YtchddhcajpagjaaGreatQX
set_option linter.all false
set_option maxRecDepth 100000
namespace Go.PW
def Zaj1(a0:List Zl)(a1:Zm):Zgz->Prop
 | .L0 v0 E0 v5 v13 v14 v15=>(v0=a0)/\(E0=a1)/\((SzL 176 Zaa) v0)/\(Zad E0)/\((SzL 224 Zbr) v5)/\((SzL 128 (fun _=>True)) v13)/\(0<=v15)/\(E0.Objects.length<=2048)/\(E0.Conts.length<=64)/\(∀ c,c∈v0->c.Abilities.length<=8)/\(v5=obF fL v0 v13 v15)/\(v13=E0.Objects)/\(v14=(v13.length:Int))/\(v15<=v14)
 | .L1 v0 E0 v5 E1 v13 v14 v15 v25 v26 v27=>(v0=a0)/\(E0=a1)/\((SzL 176 Zaa) v0)/\(Zad E0)/\((SzL 224 Zbr) v5)/\((SzL 128 (fun _=>True)) v13)/\((SzL 640 Zv) v25)/\(0<=v27)/\(0<=v15)/\(v15 < v14)/\(E0.Objects.length<=2048)/\(E0.Conts.length<=64)/\(∀ c,c∈v0->c.Abilities.length<=8)/\(v5=obF fL v0 v13 v15++abF (fL E1) v25 v27)/\(E1.Zone=0)/\(v13[v15.toNat]?=some E1)/\(v25=(baV v0 E1).Abilities)/\(v13=E0.Objects)/\(v14=(v13.length:Int))/\(v15 < v14)/\(v26=(v25.length:Int))/\(v27<=v26)
 | .L2 v5 v54 v55 v56=>((SzL 224 Zbr) v5)/\((SzL 80 Zre) v54)/\(0<=v56)/\(∀ c,c∈a0->c.Abilities.length<=8)/\(a1.Objects.length<=2048)/\(a1.Conts.length<=64)/\(v5=obF fL a0 a1.Objects a1.Objects.length++coF gL v54 v56)/\(v54=a1.Conts)/\(v55=(v54.length:Int))/\(v56<=v55)
def Z4g:Zgz->M6
 | .L0 v0 E0 v5 v13 v14 v15=>(3,(v14 - v15).toNat,1000000,0,0,0)
 | .L1 v0 E0 v5 E1 v13 v14 v15 v25 v26 v27=>(3,(v14 - v15).toNat,1,(v26 - v27).toNat,1000000,0)
 | .L2 v5 v54 v55 v56=>(1,(v55 - v56).toNat,1000000,0,0,0)
theorem Z15{a0:List Zl}{a1:Zm}(oa0:(SzL 176 Zaa) a0)(oa1:Zad a1)(h0:a1.Objects.length<=2048)(h1:a1.Conts.length<=64)(h2:∀ c,c∈a0->c.Abilities.length<=8):Tot (Z02 a0 a1) (fun r=>((SzL 224 Zbr) r)/\(r=FS fL gL a0 a1)):=by
 apply Tot.rn (Zaj1 a0 a1) Z4g
 .dsimp only [Z6v,LT.den];exact tL ⟨rfl,rfl,oa0,oa1,SzL.nil,oa1.2.1,cl,cl,cl,Zex,tk24,Zai,cs⟩ Z81
 intro s hs;cases s with
 | L0 v0 E0 v5 v13 v14 v15=>
  obtain⟨al0,al1,ov0,O0,ov5,ov13,cv15,i0,i1,i2,i3,i4,i5,i6⟩:=hs;have lb_v5:=ov5.1;have lb_v13:=ov13.1;subst al0;subst al1;dsimp only [Zlr,Z3g,LT.den];have lq:v5.length<=8*2048:=by rw [(by assumption:v5=obF _ _ _ _)];have:=Zaev (f:=fL) (l:=v13) (v:=v15) (by assumption:∀ c,c∈v0->_);have:v13.length<=2048:=Zbd9;omega
  apply tD<;>intro h1
  .refine Tot.ix fun x1 h2=>?_;have mh2:=h2.2;apply tN<;>intro h3
   .exact Zbdr
   refine tB (Zah9 ov0) fun x2 h4=>?_;have q1:=h4.1.2.2.1;exact tL ⟨rfl,rfl,ov0,O0,ov5,ov13,h4.1.2.2,cl,cl,cl,cl,cl,Zex,tk10,cl,‹_›,Zex,‹_›,cs⟩ Z81
  have q1:=O0.2.2.2.2.2.2.1.1;exact tL ⟨ov5,O0.2.2.2.2.2.2.1,cl,Zex,cl,cl,tk19,Za5m,cs⟩ Z81
 | L1 v0 E0 v5 E1 v13 v14 v15 v25 v26 v27=>
  obtain⟨al0,al1,ov0,O0,ov5,ov13,ov25,cv27,cv15,bd9,i0,i1,i2,i3,i4,i5,i6,i7,i8,i9,i10,i11⟩:=hs;have lb_v5:=ov5.1;have lb_v13:=ov13.1;have lb_v25:=ov25.1;subst al0;subst al1;dsimp only [Zlr,Z3h,LT.den];have lq:v5.length<=8*2048+8:=by rw [(by assumption:v5=obF _ _ _ _++_),List.length_append];have:=Zaev (f:=fL) (l:=v13) (v:=v15) (by assumption:∀ c,c∈v0->_);have:v13.length<=2048:=Zbd9;have:=Za2i (f:=fL E1) (l:=v25) (v:=v27);have:=Za2f (by assumption:∀ c,c∈v0->_) E1;rw [<- (by assumption:v25=(baV v0 E1).Abilities)] at this;omega
  apply tD<;>intro h1
  .refine Tot.ix fun x1 h2=>?_;have oh2:Zv x1:=ov25.2 x1 h2.1;have mh2:=h2.2;apply tE<;>intro h3
   .refine tB (Zbh oh2.2.1) fun x2 h4=>?_;have eh4_1:=h4.2;have q1:=ov5.1;refine Tot.ap fun x3 h5=>?_;have lh5:=Zc6 h5;have q2:=wr (v27+1);exact tL ⟨rfl,rfl,ov0,O0,SzL.app (k:=224) h5 lo ov5.2 (me1 ⟨SzL.nil,oh2.1,h4.1⟩),ov13,ov25,cl,cl,cl,cl,cl,Zex,tk10,cl,‹_›,Zex,‹_›,cs⟩ Z81
   have q1:=wr (v27+1);exact tL ⟨rfl,rfl,ov0,O0,ov5,ov13,ov25,cl,cl,cl,cl,cl,Zex,tk10,cl,‹_›,Zex,‹_›,cs⟩ Z81
  exact Zbdr
 | L2 v5 v54 v55 v56=>
  obtain⟨ov5,ov54,cv56,i0,i1,i2,i3,i4,i5,i6⟩:=hs;have lb_v5:=ov5.1;have lb_v54:=ov54.1;dsimp only [Zlr,Z3i,LT.den];have lq:v5.length<=8*2048+64:=by rw [(by assumption:v5=obF _ _ _ _++_),List.length_append];have:=Zaev (f:=fL) (l:=a1.Objects) (v:=a1.Objects.length) (by assumption:∀ c,c∈a0->_);have:(coF gL v54 v56).length<=64:=(by unfold coF;rw [List.length_map,List.length_take];have:v54.length<=64:=(by first | omega | (rw [(by assumption:v54=_)];omega));omega);omega
  apply tD<;>intro h1
  .refine Tot.ix fun x1 h2=>?_;have oh2:Zre x1:=ov54.2 x1 h2.1;have mh2:=h2.2;refine tB (Zxq oh2.1) fun x2 h3=>?_;have eh3_1:=h3.2;refine tB (Zbh oh2.2) fun x3 h4=>?_;have eh4_1:=h4.2;have q1:=ov5.1;refine Tot.ap fun x4 h5=>?_;have lh5:=Zc6 h5;have q2:=wr (v56+1);exact tL ⟨SzL.app (k:=224) h5 lo ov5.2 (me1 ⟨h3.1,SzS.nil,h4.1⟩),ov54,cl,Zex,cl,cl,tk19,Za5m,cs⟩ Z81
  exact tR ⟨ov5,(by exact Zbhc ‹_› Zai (by omega))⟩
abbrev Zaj2(a0:List Zl)(a1:Zm)(r:Ze):Prop:=(Z4 r)/\(r.s=a1)/\(r.traits.length=r.s.Objects.length)/\(r.dropped.length=r.s.Objects.length)/\(r.done.length=r.forces.length)/\(r.hits.length=r.forces.length)/\(r.s.Objects.length<=2048)/\(r.forces.length<=16448)/\(HI r.s.Objects.length r.hits)/\(r=begV a0 a1)
def Zan5(a0:List Zl)(a1:Zm):Znc->Prop
 | .L0 v0 E0 v19 v20 v21=>(v0=a0)/\((SzL 176 Zaa) v0)/\(Z4 E0)/\((SzL 128 (fun _=>True)) v19)/\(0<=v21)/\(∀ c,c∈v0->c.Abilities.length<=8)/\(E0.s=a1)/\(v20=(v19.length:Int))/\(v20=(E0.s.Objects.length:Int))/\(v20<=2048)/\(E0.forces.length<=16448)/\(E0.dropped.length=v20.toNat)/\(E0.traits.length=v21.toNat)/\(v21<=v20)/\(v19=a1.Objects)/\(E0.traits=(v19.take v21.toNat).map (baV v0))/\(E0.forces=FS fL gL v0 a1)/\(E0.dropped=List.replicate a1.Objects.length false)
def Zvw:Znc->M6
 | .L0 v0 E0 v19 v20 v21=>(1,(v20 - v21).toNat,1000000,0,0,0)
theorem Zan6{a0:List Zl}{a1:Zm}(oa0:(SzL 176 Zaa) a0)(oa1:Zad a1)(h0:a1.Objects.length<=2048)(h1:a1.Conts.length<=64)(h2:∀ c,c∈a0->c.Abilities.length<=8):Tot (Zahb a0 a1) (Zaj2 a0 a1):=by
 apply Tot.rn (Zan5 a0 a1) Zvw
 .dsimp only [Z9t,LT.den];refine tB (Z15 oa0 oa1 cl cl Zex) fun x1 h1=>?_;have eh1_1:=h1.2;have lh1:=Zbhd (f:=fL) (g:=gL) (s:=a1) (by assumption:∀ c,c∈a0->_);rw [<- (by assumption:x1=FS _ _ _ _)] at lh1;exact tB (Tot.mk) fun x2 h2=>tL ⟨rfl,oa0,⟨oa1,h1.1,SzL.nil,SzL.tr,SzL.nil,SzL.nil⟩,oa1.2.1,cl,Zex,Zai,cl,cl,cl,cl,cl,cl,cl,Zai,tk49,‹_›,(by first | assumption | exact Zauk ‹_› rfl)⟩ (by unfold Zvw lt6;dsimp only;omega)
 rintro ⟨v0,E0,v19,v20,v21⟩ ⟨al0,ov0,O0,ov19,cv21,i0,i1,i2,i3,i4,i5,i6,i7,i8,i9,i10,i11,i12⟩;subst al0;dsimp only [Zx9,Z6w,LT.den];apply tD<;>intro h1
 .refine Tot.ix fun x1 h2=>?_;have mh2:=h2.2;refine tB (Zah9 ov0) fun x2 h3=>?_;have eh3_1:=h3.2;have q1:=O0.2.2.1.1;refine Tot.ap fun x3 h4=>?_;have lh4:=Zc6 h4;have q2:=wr (v21+1);exact tL ⟨rfl,ov0,⟨O0.1,O0.2.1,SzL.app (k:=176) h4 lo O0.2.2.1.2 (me1 h3.1),O0.2.2.2.1,O0.2.2.2.2.1,O0.2.2.2.2.2⟩,ov19,cl,Zex,Zai,cl,cl,cl,cl,cl,cl,cl,Zai,tk49,‹_›,(by first | assumption | exact Zauk ‹_› rfl)⟩ (by unfold Zvw lt6;dsimp only;omega)
 exact tB (Tot.mk) fun x1 h2=>tB (Tot.mk) fun x2 h3=>tR ⟨⟨O0.1,O0.2.1,O0.2.2.1,O0.2.2.2.1,SzL.tr,⟨lo,fun e he=>by rw [h3.2 e he];exact SzL.nil⟩⟩,Zai,cl,cl,cl,cl,cl,cl,Zbq,(by exact bg_e ‹_› (by omega) ‹_› ‹_› ‹_› ‹_› ‹_› ‹_›)⟩
theorem Zgt{a0:Int}:Tot (Z3j a0) (fun r=>(r=clV a0)):=by
 apply tZ;dsimp only [Z5a,LT.den];exact tR (by rfl)
theorem Za1h{a0:Int}{a1:Int}:Tot (Za19 a0 a1) (fun r=>(r=suV a0 a1)):=by
 apply tZ;dsimp only [Zar6,LT.den];refine tB (Zgt) fun x1 h1=>tB (Zgt) fun x2 h2=>?_;have q1:=wr (x1 - x2);exact tB (Zgt) fun x3 h3=>tR (by unfold suV;grind)
theorem Zaff{a0:A3 Int}:Tot (Z9u a0) (fun r=>(r=pwV a0)):=by
 apply tZ;dsimp only [Z3k,LT.den];refine tB (tI (by omega) Zauo) fun x1 h1=>?_;have mh1:=h1.2;refine tB (tI (by omega) Zauo) fun x2 h2=>?_;have mh2:=h2.2;exact tB (Za1h) fun x3 h3=>tR Zbd5
theorem Zwc{a0:Int}{a1:Int}:Tot (Zaet a0 a1) (fun r=>(r=adV a0 a1)):=by
 apply tZ;dsimp only [Zac0,LT.den];refine tB (Zgt) fun x1 h1=>tB (Zgt) fun x2 h2=>?_;have q1:=wr (x1+x2);exact tB (Zgt) fun x3 h3=>tR (by unfold adV;grind)
def Zif(a0:Int):Zkz->Prop
 | .L0 v0 v3 v6=>(v3=a0)/\(v3=v0)/\(v6=true↔2<=v3/\v3<=5)/\(v3≠1)
 | .L1 v0 v3 v11=>(v3=a0)/\(v3=v0)/\(v11=true↔v3=6\/v3=7)/\(v3 < 1\/5 < v3)
 | .L2 v0 v3 v14=>(v3=a0)/\(v3=v0)/\(v14=true↔8<=v3/\v3<=10)/\(v3 < 1\/7 < v3)
def Zuh:Zkz->M6
 | .L0 v0 v3 v6=>(0,0,0,0,0,0)
 | .L1 v0 v3 v11=>(0,0,0,0,0,0)
 | .L2 v0 v3 v14=>(0,0,0,0,0,0)
theorem Z16{a0:Int}{v0:Int}{v3:Int}{v14:Bool}(h:(Zif a0) (.L2 v0 v3 v14)):Tot (Zls v0 v3 v14).den (Nx (Zif a0) Zuh (0,0,0,0,0,0) (fun r=>(r=stV a0))):=by
 obtain⟨al0,i0,i1,i2⟩:=h;subst al0;dsimp only [Zls,LT.den];apply tF<;>intro h1
 .exact tl10
 apply tE<;>intro h2
 .exact tl67
 apply tE<;>intro h3
 .exact tl67
 apply tE<;>intro h4
 .exact tl67
 apply tE<;>intro h5
 .exact tl67
 exact tl10
theorem Z17{a0:Int}{v0:Int}{v3:Int}{v11:Bool}(h:(Zif a0) (.L1 v0 v3 v11)):Tot (Zo4 v0 v3 v11).den (Nx (Zif a0) Zuh (0,0,0,0,0,0) (fun r=>(r=stV a0))):=by
 obtain⟨al0,i0,i1,i2⟩:=h;subst al0;dsimp only [Zo4,LT.den];apply tF<;>intro h1
 .exact tl10
 apply tE<;>intro h2
 .exact tl44
 apply tE<;>intro h3
 .exact tl44
 exact tl44
theorem Z18{a0:Int}{v0:Int}{v3:Int}{v6:Bool}(h:(Zif a0) (.L0 v0 v3 v6)):Tot (Zje v0 v3 v6).den (Nx (Zif a0) Zuh (0,0,0,0,0,0) (fun r=>(r=stV a0))):=by
 obtain⟨al0,i0,i1,i2⟩:=h;subst al0;dsimp only [Zje,LT.den];apply tF<;>intro h1
 .exact tl10
 apply tE<;>intro h2
 .exact tl45
 exact tl45
theorem Zrs{a0:Int}:Tot (Zar9 a0) (fun r=>(r=stV a0)):=by
 apply Tot.rn (Zif a0) Zuh
 .dsimp only [Zahd,LT.den];apply tE<;>intro h1
  .exact tl10
  apply tE<;>intro h2
  .exact tl48
  apply tE<;>intro h3
  .exact tl48
  apply tE<;>intro h4
  .exact tl48
  exact tl48
 intro s hs;cases s with
 | L0 _ _ _=>exact Z18 hs
 | L1 _ _ _=>exact Z17 hs
 | L2 _ _ _=>exact Z16 hs
theorem Z19{a0:Zc}{b0:Int}(oa0:Z5 a0):Tot (Ztu a0 b0) (fun r=>(r=(stV a0.Kind==b0))):=by
 apply tZ;dsimp only [Zq5,LT.den];exact tB (Zrs) fun x1 h1=>tR Zcm
def Zg8(a0:List Zc)(b0:Int):Zax->Prop
 | .L0 v0 c0 v7 v8=>(v0=a0)/\(c0=b0)/\((SzL 176 Z5) v0)/\(0<=v8)/\(v7=(v0.length:Int))/\((v0.take v8.toNat).any (fun m=>stV m.Kind==c0)=false)
def Zdo:Zax->M6
 | .L0 v0 c0 v7 v8=>(1,(v7 - v8).toNat,1000000,0,0,0)
theorem Zg9{a0:List Zc}{b0:Int}(oa0:(SzL 176 Z5) a0):Tot (Zd1 a0 b0) (fun r=>(decide (r.1>=0)=a0.any (fun m=>stV m.Kind==b0))):=by
 apply Tot.rn (Zg8 a0 b0) Zdo
 .dsimp only [Zdr,LT.den];exact tL ⟨rfl,rfl,oa0,cl,cl,tk56⟩ tk76
 rintro ⟨v0,c0,v7,v8⟩ ⟨al0,al1,ov0,cv8,i0,i1⟩;have lb_v0:=ov0.1;subst al0;subst al1;dsimp only [Zbu,Zdl,LT.den];apply tD<;>intro h1
 .refine Tot.ix fun x1 h2=>?_;have oh2:Z5 x1:=ov0.2 x1 h2.1;have mh2:=h2.2;refine tB (Z19 oh2) fun x2 h3=>?_;apply tF<;>intro h4
  .exact tl80
  have q1:=wr (v8+1);exact tL ⟨rfl,rfl,ov0,cl,cl,tk56⟩ tk76
 exact tl80
theorem Zgr{a0:List Zc}{b0:Int}(oa0:(SzL 176 Z5) a0):Tot (Zdm a0 b0) (fun r=>(r.1=a0.any (fun m=>stV m.Kind==b0))):=by
 apply tZ;dsimp only [Zdg,LT.den];exact tB (Zg9 oa0) fun x1 h1=>tR ‹_›
theorem Zafg{a0:Z0}{a1:Int}(oa0:Zbr a0):Tot (Z9v a0 a1) (fun r=>(r=belB a0 a1)):=by
 apply tZ;dsimp only [Z3m,LT.den];exact tB (Zgr oa0.2.2) fun x1 h1=>tR ‹_›
def Zn4(a0:Zg)(a1:Int):Zig->Prop
 | .L0 v1 E0 v5=>(E0=a0)/\(v1=a1)/\(Zan E0)/\(v5=true↔E0.Power.Kind≠0\/E0.Tough.Kind≠0)
def Zxr:Zig->M6
 | .L0 v1 E0 v5=>(0,0,0,0,0,0)
theorem Zrh{a0:Zg}{a1:Int}{v1:Int}{E0:Zg}{v5:Bool}(h:(Zn4 a0 a1) (.L0 v1 E0 v5)):Tot (Zhs v1 E0 v5).den (Nx (Zn4 a0 a1) Zxr (0,0,0,0,0,0) (fun r=>(r=Zr9 a0 a1))):=by
 obtain⟨al0,al1,O0,i0⟩:=h;subst al0;subst al1;dsimp only [Zhs,LT.den];apply tE<;>intro h1
 .exact tl2
 apply tE<;>intro h2
 .apply tN<;>intro h3
  .exact tl2
  apply tO<;>intro h4
  .exact tl2
  exact tl2
 apply tE<;>intro h3
 .exact tl2
 apply tE<;>intro h4
 .exact tl2
 exact tl2
theorem Zux{a0:Zg}{a1:Int}(oa0:Zan a0):Tot (Z3o a0 a1) (fun r=>(r=Zr9 a0 a1)):=by
 apply Tot.rn (Zn4 a0 a1) Zxr
 .dsimp only [Zzf,LT.den];apply tN<;>intro h1
  .exact tl16
  exact tl16
 intro s hs;cases s with
 | L0 _ _ _=>exact Zrh hs
theorem Zxs{a0:Int}:Tot (Z6x a0) (fun r=>(r=false)):=by
 apply tZ;dsimp only [Z04,LT.den];exact tR (by simp)
theorem Z9a{a0:Int}{a1:Int}:Tot (Z06 a0 a1) (fun r=>((r = -1/\a0 < a1)\/(r=1/\a1 < a0)\/(r=0/\a0=a1))):=by
 apply tZ;dsimp only [Zxd,LT.den];refine tB (Zxs) fun x1 h1=>tB (Zxs) fun x2 h2=>?_;apply tF<;>intro h3
 .apply tF<;>intro h4
  .exact tl5
  exact tl5
 apply tF<;>intro h4
 .exact tl5
 apply tD<;>intro h5
 .exact tl5
 apply tD<;>intro h6
 .exact tl5
 exact tl5
theorem Zzn{a0:Zf}{a1:Int}:Tot (Z9w a0 a1) (fun r=>((r = -1/\a0.Id < a1)\/(r=1/\a1 < a0.Id)\/(r=0/\a0.Id=a1))):=by
 apply tZ;dsimp only [Z3p,LT.den];exact tB (Z9a) fun x1 h1=>tR ‹_›
abbrev Zeo(a0:List Zf)(a1:Int)(r:Int×Bool):Prop:=(BSP a0 a1 r)/\(0<=r.1)/\(r.1<=(a0.length:Int))/\(r.2=true->r.1 < (a0.length:Int))
def Zeq(a0:List Zf)(a1:Int):Zah->Prop
 | .L0 v0 v1 v8 v9 v10=>(v0=a0)/\(v1=a1)/\((SzL 128 (fun _=>True)) v0)/\(0<=v9)/\(v8=(v0.length:Int))/\(v9<=v10)/\(v10<=v8)/\(BSI v0 v1 v9 v10)
def Zb2:Zah->M6
 | .L0 v0 v1 v8 v9 v10=>(1,(v10 - v9).toNat,1000000,0,0,0)
theorem Zer{a0:List Zf}{a1:Int}(oa0:(SzL 128 (fun _=>True)) a0):Tot (Zcd a0 a1) (Zeo a0 a1):=by
 apply Tot.rn (Zeq a0 a1) Zb2
 .have lb_a0:=oa0.1;dsimp only [Zb7,LT.den];exact tL ⟨rfl,rfl,oa0,cl,cl,cl,cl,tk28⟩ tk64
 rintro ⟨v0,v1,v8,v9,v10⟩ ⟨al0,al1,ov0,cv9,i0,i1,i2,i3⟩;have lb_v0:=ov0.1;subst al0;subst al1;dsimp only [Zbb,Zby,LT.den];have lm:=Zbhe (i:=v9) (j:=v10) (n:=v8) (by omega) (by omega) (by omega) (by omega);apply tD<;>intro h1
 .have q1:=wr (v9+v10);have q2:=wr (shrI .u64 (IntKind.wrap .u64 (IntKind.wrap .i64 (v9+v10))) 1);refine Tot.ix fun x1 h2=>?_;have mh2:=h2.2;refine tB (Zzn) fun x2 h3=>?_;apply tD<;>intro h4
  .have q3:=wr ((IntKind.wrap .i64 (shrI .u64 (IntKind.wrap .u64 (IntKind.wrap .i64 (v9+v10))) 1))+1);exact Zbdk
  exact Zbdk
 apply tD<;>intro h2
 .refine Tot.ix fun x1 h3=>?_;have mh3:=h3.2;exact tB (Zzn) fun x2 h4=>tR ⟨tk41,cl,cl,tk88⟩
 exact tR ⟨tk41,cl,cl,tk88⟩
theorem Z4h{a0:Zm}{a1:Int}(oa0:Zad a0):Tot (Zahf a0 a1) (fun r=>(Zd4 a0.Objects->r=ixO a0.Objects a1)/\(-1<=r)/\(r < (a0.Objects.length:Int))):=by
 apply tZ;dsimp only [Z9x,LT.den];refine tB (Zer oa0.2.1) fun x1 h1=>?_;have eh1_0:=h1.1;apply tO<;>intro h2
 .exact tl85
 exact tl85
def Zxt(a0:List Int)(a1:Int):Zed->Prop
 | .L0 v0 v1 v7 v8=>(v0=a0)/\(v1=a1)/\((SzL 8 (fun _=>True)) v0)/\(0<=v8)/\(v7=(v0.length:Int))/\(∀ (k:Nat) y,(k:Int) < v8->v0[k]?=some y->y≠v1)
def Znu:Zed->M6
 | .L0 v0 v1 v7 v8=>(1,(v7 - v8).toNat,1000000,0,0,0)
theorem Zhw{a0:List Int}{a1:Int}(oa0:(SzL 8 (fun _=>True)) a0):Tot (Zqb a0 a1) (fun r=>(-1<=r)/\(r < (a0.length:Int))/\(r=ixI a0 a1)):=by
 apply Tot.rn (Zxt a0 a1) Znu
 .dsimp only [Zn7,LT.den];exact tL ⟨rfl,rfl,oa0,cl,cl,tk26⟩ Zbd6
 rintro ⟨v0,v1,v7,v8⟩ ⟨al0,al1,ov0,cv8,i0,i1⟩;have lb_v0:=ov0.1;subst al0;subst al1;dsimp only [Zis,Znd,LT.den];apply tD<;>intro h1
 .refine Tot.ix fun x1 h2=>?_;have mh2:=h2.2;apply tE<;>intro h3
  .exact Zbdc
  have q1:=wr (v8+1);exact tL ⟨rfl,rfl,ov0,cl,cl,tk26⟩ Zbd6
 exact Zbdc
theorem Zkq{a0:List Int}{a1:Int}(oa0:(SzL 8 (fun _=>True)) a0):Tot (Zne a0 a1) (fun r=>(r=true↔a1∈a0)):=by
 apply tZ;dsimp only [Zlt,LT.den];refine tB (Zhw oa0) fun x1 h1=>?_;have eh1_2:=h1.2.2;exact tR (by exact ixc ‹_›)
theorem Z7k(a0:List UInt8)(oa0:SzT a0):Tot (Zzt a0) (fun r=>r=Zvo a0):=⟨_,Zaym a0,rfl⟩
theorem Zaty(a0:Zg)(oa0:Zan a0):Tot (Z3t a0) (fun r=>r=Z8p a0):=⟨_,Zadp a0,rfl⟩
theorem Zbl8{x:Z7}(h:Zhm x):x.Subs.length<=4611686018427387904:=by
 have:=h.1;omega
theorem Zan7(a0:Z7)(a1:List UInt8)(oa0:Zhm a0)(oa1:SzT a1):Tot (Zv9 a0 a1) (fun r=>r=Zf3 a0.Subs a1):=⟨_,Zasm a0 a1 (Zbl8 oa0),rfl⟩
theorem Zbf7{x:Za}(h:Zu x):x.Line.Subs.length<=4611686018427387904:=by
 have:x.Line.Subs.length*16<=140737488351232:=h.2.1.1;omega
theorem Z2a(a0:Zf)(a1:Za)(a2 a3:Int)(a4:Zg)(oa1:Zu a1)(oa4:Zan a4):Tot (Zty a0 a1 a2 a3 a4) (fun r=>r=matV a0 a1 a2 a3 a4):=⟨_,Zayr a0 a1 a2 a3 a4 (Zbf7 oa1),rfl⟩
theorem Zbf8{x:Za}(h:Zu x):x.Line.Subs.length<=4611686018427387904:=by
 have:x.Line.Subs.length*16<=140737488351232:=h.2.1.1;omega
theorem Zbco{s:Zm}{all:List Za}{you src:Int}{f:Zg}(h:Zad s):SzL 8 (fun _=>True) (Zaeu s all you src f):=by
 have h1:s.Objects.length*128<=140737488351232:=h.2.1.1;have h2:(Zaeu s all you src f).length<=s.Objects.length:=Zav5 ..;exact⟨by omega,fun _ _=>trivial⟩
theorem Zaqc(a0:Zm)(a1:List Za)(a2 a3:Int)(a4:Zg)(oa0:Zad a0)(oa1:(SzL 176 Zu) a1)(oa4:Zan a4):Tot (Zzu a0 a1 a2 a3 a4) (fun r=>((SzL 8 (fun _=>True)) r)/\(r=Zaeu a0 a1 a2 a3 a4)):=
 ⟨_,Zbff a0 a1 a2 a3 a4 oa0.2.1.1 fun t ht=>Zbf8 (oa1.2 t ht),Zbco oa0,rfl⟩
def Zxu(a0:List Int)(a1:List Int):Zee->Prop
 | .L0 v0 v1 v12 v13=>(v0=a0)/\(v1=a1)/\((SzL 8 (fun _=>True)) v0)/\((SzL 8 (fun _=>True)) v1)/\(0<=v13)/\(v12=(v0.length:Int))/\(v0.length=v1.length)/\(∀ (k:Nat) x,(k:Int) < v13->v0[k]?=some x->v1[k]?=some x)
def Znv:Zee->M6
 | .L0 v0 v1 v12 v13=>(1,(v12 - v13).toNat,1000000,0,0,0)
theorem Zmo{a0:List Int}{a1:List Int}(oa0:(SzL 8 (fun _=>True)) a0)(oa1:(SzL 8 (fun _=>True)) a1):Tot (Zqd a0 a1) (fun r=>(r=true↔a0=a1)):=by
 apply Tot.rn (Zxu a0 a1) Znv
 .have lb_a1:=oa1.1;dsimp only [Zn9,LT.den];have q1:=oa1.1;apply tN<;>intro h1
  .exact tl94
  exact tL ⟨rfl,rfl,oa0,oa1,cl,cl,cl,tk42⟩ Zbd7
 rintro ⟨v0,v1,v12,v13⟩ ⟨al0,al1,ov0,ov1,cv13,i0,i1,i2⟩;have lb_v0:=ov0.1;subst al0;subst al1;dsimp only [Ziv,Znj,LT.den];apply tD<;>intro h1
 .refine Tot.ix fun x1 h2=>?_;have mh2:=h2.2;refine Tot.ix fun x2 h3=>?_;have mh3:=h3.2;apply tN<;>intro h4
  .exact tl94
  have q1:=wr (v13+1);exact tL ⟨rfl,rfl,ov0,ov1,cl,cl,cl,tk42⟩ Zbd7
 exact tl94
theorem Zy9{a0:Zac}{a1:Zac}(oa0:Zyn a0)(oa1:Zyn a1):Tot (Zq8 a0 a1) (fun r=>(r=Z8w a0 a1)):=by
 apply tZ;dsimp only [Zo6,LT.den];apply tO<;>intro h1
 .exact tl95
 refine tB (Zmo oa0.1 oa1.1) fun x1 h2=>?_;apply tO<;>intro h3
 .exact tl95
 exact tB (Zmo oa0.2 oa1.2) fun x2 h4=>tR tk38
theorem Zk9{a0:List Bool}(oa0:(SzL 1 (fun _=>True)) a0):Tot (Zf2 a0) (fun r=>((SzL 1 (fun _=>True)) r)/\(r=a0)):=by
 unfold Zf2;split
 .apply tZ;have lb_a0:=oa0.1;dsimp only [Zht,LT.den];refine Tot.ap fun x1 h1=>?_;have lh1:x1.length=([]:List Bool).length+a0.length:=by rw [h1,List.length_append]
  exact tl96
 apply tZ;dsimp only [Zeu,LT.den];exact tl61
theorem Zlc{a0:List Zd}(oa0:(SzL 640 Zv) a0):Tot (Zcj a0) (fun r=>((SzL 640 Zv) r)/\(r=a0)):=by
 unfold Zcj;split
 .apply tZ;have lb_a0:=oa0.1;dsimp only [Zdq,LT.den];refine Tot.ap fun x1 h1=>?_;have lh1:x1.length=([]:List Zd).length+a0.length:=by rw [h1,List.length_append]
  try simp only [List.length_cons,List.length_nil,Nat.zero_add] at lh1
  exact tR ⟨SzL.app (k:=640) h1 lo (fun _ h=>by cases h) oa0.2,tk83⟩
 apply tZ;dsimp only [Zb0,LT.den];exact tl61
def Zaqd(a0:Za):Zlw->Prop
 | .L0 E0 E1 v18 v19=>(Zu E0)/\(Zu E1)/\(0<=v19)/\(v18=(E0.Abilities.length:Int))/\(E0=a0)
 | .L1 y45000015 E0 E1 v18 v19 v54 v55 v4=>(Zv y45000015)/\(Zu E0)/\(Zu E1)/\(0<=v55)/\(0<=v19)/\(v19 < v18)/\(v18=(E0.Abilities.length:Int))/\(0<=v4)/\(v4 < v18)/\(v19 < v18)/\(v54=(y45000015.Effects.length:Int))/\(E0=a0)/\(E0.Abilities[v4.toNat]?=some y45000015)
def Zaau:Zlw->M6
 | .L0 E0 E1 v18 v19=>(1,(v18 - v19).toNat,1000000,0,0,0)
 | .L1 y45000015 E0 E1 v18 v19 v54 v55 v4=>(1,(v18 - v19).toNat,1,(v54 - v55).toNat,1000000,0)
theorem Zaqe{a0:Za}(oa0:Zu a0):Tot (Zam1 a0) (fun r=>(Zu r)/\(r=a0)):=by
 apply Tot.rn (Zaqd a0) Zaau
 .dsimp only [Zac8,LT.den];refine tB (Zfp oa0.2.1) fun x1 h1=>?_;have eh1_1:=h1.2;refine tB (Zlc oa0.2.2) fun x2 h2=>?_;have eh2_1:=h2.2;exact tL ⟨⟨oa0.1,h1.1,h2.1⟩,⟨SzS.nil,SzL.nil,SzL.nil⟩,cl,cl,tk45⟩ Zaup
 intro s hs;cases s with
 | L0 E0 E1 v18 v19=>
  obtain⟨O0,O1,cv19,i0,i1⟩:=hs;dsimp only [Zt1,Z92,LT.den];apply tD<;>intro h1
  .refine Tot.ix fun x1 h2=>?_;have oh2:Zv x1:=O0.2.2.2 x1 h2.1;have mh2:=h2.2;refine tB (Zbh oh2.2.1) fun x2 h3=>?_;have eh3_1:=h3.2;refine tB (Zhd oh2.2.2.2.1) fun x3 h4=>?_;have eh4_1:=h4.2;refine tB (Zga oh2.2.2.2.2.1) fun x4 h5=>?_;have eh5_1:=h5.2;exact tL ⟨⟨oh2.1,h3.1,oh2.2.2.1,h4.1,h5.1,oh2.2.2.2.2.2⟩,O0,O1,cl,cl,cl,cl,cl,cl,cl,cl,Zai,tk35⟩ Zaup
  exact tR ⟨O0,Zf4⟩
 | L1 y45000015 E0 E1 v18 v19 v54 v55 v4=>
  obtain⟨oy45000015,O0,O1,cv55,cv19,bd5,i0,i1,i2,i3,i4,i5,i6⟩:=hs;dsimp only [Zt1,Z93,LT.den];have lq:=oy45000015.2.2.2.2.1.1;have lr:=O0.2.2.1;apply tD<;>intro h1
  .refine Tot.ix fun x1 h2=>?_;have oh2:Zab x1:=oy45000015.2.2.2.2.1.2 x1 h2.1;have mh2:=h2.2;refine tB (Zbh oh2.2.2.2.2) fun x2 h3=>?_;have eh3_1:=h3.2;refine tB (Tot.set (by omega) (by omega)) fun x3 h4=>?_;have q1:=wr (v55+1);exact tL ⟨⟨oy45000015.1,oy45000015.2.1,oy45000015.2.2.1,oy45000015.2.2.2.1,⟨lo,fun e he=>(h4.2.1 e he).elim (fun w=>by rw [w];exact⟨oh2.1,oh2.2.1,oh2.2.2.1,oh2.2.2.2.1,h3.1⟩) (oy45000015.2.2.2.2.1.2 e)⟩,oy45000015.2.2.2.2.2⟩,O0,O1,cl,cl,cl,cl,cl,cl,cl,cl,Zai,tk35⟩ Zaup
  refine tB (Tot.set (by omega) (by omega)) fun x1 h2=>?_;have q1:=wr (v19+1);exact tL ⟨⟨O0.1,O0.2.1,⟨lo,fun e he=>(h2.2.1 e he).elim (fun w=>by rw [w];exact oy45000015) (O0.2.2.2 e)⟩⟩,O1,cl,cl,tk45⟩ Zaup
theorem Zi1{a0:Int}{a1:Int}{a2:Int}:Tot (Za8b a0 a1 a2) (fun r=>(r=inB a0 a1 a2)):=by
 apply tZ;dsimp only [Zax9,LT.den];apply tD<;>intro h1
 .exact tl1
 exact tl1
abbrev Zza(a0:Zc)(r:Zc):Prop:=(Z5 r)/\(Z1 (Zk a0) (Zk r)=Zfx a0)
def Zpm(a0:Zc):Zp2->Prop
 | .L0 E0 E1 E2 v8 v9=>(E0=a0)/\(Z5 E0)/\(Z5 E1)/\(Z5 E2)/\(v8=E0.Kind)/\(E2=⟨E0.Kind,0,0,[],Zlf⟩)/\(v9=true↔v8=2\/v8=3\/v8=6\/v8=7\/v8=8\/v8=9)
 | .L1 E0 E1 E2 v8 v19=>(E0=a0)/\(Z5 E0)/\(Z5 E1)/\(Z5 E2)/\(v8=E0.Kind)/\(E2=⟨E0.Kind,0,0,[],Zlf⟩)/\(¬ (v8=2\/v8=3\/v8=6\/v8=7\/v8=8\/v8=9))/\(v19=true↔v8=4\/v8=5)
def Z5w:Zp2->M6
 | .L0 E0 E1 E2 v8 v9=>(0,0,0,0,0,0)
 | .L1 E0 E1 E2 v8 v19=>(0,0,0,0,0,0)
theorem Z4i{a0:Zc}{E0:Zc}{E1:Zc}{E2:Zc}{v8:Int}{v19:Bool}(h:(Zpm a0) (.L1 E0 E1 E2 v8 v19)):Tot (Zq9 E0 E1 E2 v8 v19).den (Nx (Zpm a0) Z5w (0,0,0,0,0,0) (Zza a0)):=by
 obtain⟨al0,O0,O1,O2,i0,i1,i2,i3⟩:=h;subst al0;dsimp only [Zq9,LT.den];apply tF<;>intro h1
 .exact tR ⟨⟨O0.1,O2.2⟩,tk40⟩
 apply tE<;>intro h2
 .exact tR ⟨⟨O2.1,O0.2⟩,tk40⟩
 apply tE<;>intro h3
 .exact tl98
 apply tE<;>intro h4
 .exact tl98
 exact tR ⟨O2,tk40⟩
theorem Z4j{a0:Zc}{E0:Zc}{E1:Zc}{E2:Zc}{v8:Int}{v9:Bool}(h:(Zpm a0) (.L0 E0 E1 E2 v8 v9)):Tot (Zhj E0 E1 E2 v8 v9).den (Nx (Zpm a0) Z5w (0,0,0,0,0,0) (Zza a0)):=by
 obtain⟨al0,O0,O1,O2,i0,i1,i2⟩:=h;subst al0;dsimp only [Zhj,LT.den];apply tF<;>intro h1
 .exact tl98
 apply tE<;>intro h2
 .exact tl82
 exact tl82
theorem Zazw{a0:Zc}(oa0:Z5 a0):Tot (Zayb a0) (Zza a0):=by
 apply Tot.rn (Zpm a0) Z5w
 .dsimp only [Zam2,LT.den];apply tE<;>intro h1
  .exact tl93
  apply tE<;>intro h2
  .exact tl93
  apply tE<;>intro h3
  .exact tl93
  apply tE<;>intro h4
  .exact tl93
  apply tE<;>intro h5
  .exact tl93
  exact tl93
 intro s hs;cases s with
 | L0 _ _ _ _ _=>exact Z4j hs
 | L1 _ _ _ _ _=>exact Z4i hs
def Zm4(a0:Zc):Zr5->Prop
 | .L0 E0 v14 v15=>(E0=a0)/\(Z5 E0)/\(v14=E0.Kind)/\(inB E0.Kind 1 14=true)/\(Zfx E0=true)/\(v15=true↔E0.Kind=2\/E0.Kind=3)
 | .L1 E0 v14 v27=>(E0=a0)/\(Z5 E0)/\(v14=E0.Kind)/\(inB E0.Kind 1 14=true)/\(Zfx E0=true)/\(v27=true↔E0.Kind=4\/E0.Kind=5)/\(¬ (E0.Kind=2\/E0.Kind=3))
 | .L2 E0 v14 v43=>(E0=a0)/\(Z5 E0)/\(v14=E0.Kind)/\(inB E0.Kind 1 14=true)/\(Zfx E0=true)/\(v43=true↔E0.Kind=8\/E0.Kind=9)/\(¬ (2<=E0.Kind/\E0.Kind<=7))
def Z4k:Zr5->M6
 | .L0 E0 v14 v15=>(0,0,0,0,0,0)
 | .L1 E0 v14 v27=>(0,0,0,0,0,0)
 | .L2 E0 v14 v43=>(0,0,0,0,0,0)
theorem Zaav{a0:Zc}{E0:Zc}{v14:Int}{v43:Bool}(h:(Zm4 a0) (.L2 E0 v14 v43)):Tot (Zxh E0 v14 v43).den (Nx (Zm4 a0) Z4k (0,0,0,0,0,0) (fun r=>(r=mdV a0))):=by
 obtain⟨al0,O0,i0,i1,i2,i3,i4⟩:=h;subst al0;dsimp only [Zxh,LT.den];apply tF<;>intro h1
 .exact tB (Zi1) fun x1 h2=>tR Z1t
 apply tE<;>intro h2
 .exact tB (Zaty E0.Filter O0.2) fun x1 h3=>tR Z1t
 apply tE<;>intro h3
 .refine tB (Zi1) fun x1 h4=>?_;apply tF<;>intro h5
  .exact tB (Zi1) fun x2 h6=>tR Z1t
  exact Zft
 apply tE<;>intro h4
 .refine tB (Zi1) fun x1 h5=>?_;apply tF<;>intro h6
  .exact tB (Zi1) fun x2 h7=>tR Z1t
  exact Zft
 exact Zft
theorem Zaaw{a0:Zc}{E0:Zc}{v14:Int}{v27:Bool}(h:(Zm4 a0) (.L1 E0 v14 v27)):Tot (Zxi E0 v14 v27).den (Nx (Zm4 a0) Z4k (0,0,0,0,0,0) (fun r=>(r=mdV a0))):=by
 obtain⟨al0,O0,i0,i1,i2,i3,i4⟩:=h;subst al0;dsimp only [Zxi,LT.den];apply tF<;>intro h1
 .exact tB (Z7k E0.Sub (SzS.t O0.1)) fun x1 h2=>tR Z1t
 apply tE<;>intro h2
 .exact tB (Zi1) fun x1 h3=>tR Z1t
 apply tE<;>intro h3
 .exact tB (Zi1) fun x1 h4=>tR Z1t
 apply tE<;>intro h4
 .exact tl76
 exact tl76
theorem Zaax{a0:Zc}{E0:Zc}{v14:Int}{v15:Bool}(h:(Zm4 a0) (.L0 E0 v14 v15)):Tot (Zxj E0 v14 v15).den (Nx (Zm4 a0) Z4k (0,0,0,0,0,0) (fun r=>(r=mdV a0))):=by
 obtain⟨al0,O0,i0,i1,i2,i3⟩:=h;subst al0;dsimp only [Zxj,LT.den];apply tF<;>intro h1
 .refine tB (Zi1) fun x1 h2=>?_;apply tF<;>intro h3
  .exact Zft
  exact Zft
 apply tE<;>intro h2
 .exact tl73
 exact tl73
theorem Za55{a0:Zc}(oa0:Z5 a0):Tot (Za8c a0) (fun r=>(r=mdV a0)):=by
 apply Tot.rn (Zm4 a0) Z4k
 .dsimp only [Zayc,LT.den];refine tB (Zi1) fun x1 h1=>?_;apply tO<;>intro h2
  .exact Zft
  refine tB (Zazw oa0) fun x2 h3=>?_;apply tO<;>intro h4
  .exact Zft
  apply tE<;>intro h5
  .exact tl78
  exact tl78
 intro s hs;cases s with
 | L0 _ _ _=>exact Zaax hs
 | L1 _ _ _=>exact Zaaw hs
 | L2 _ _ _=>exact Zaav hs
theorem Z7l{a0:List UInt8}{a1:List UInt8}(oa0:SzT a0)(oa1:SzT a1):Tot (Zzj a0 a1) (fun r=>(r = !Op.bytesLess a0 a1)):=by
 apply tZ;dsimp only [Zuv,LT.den];exact tR (by rfl)
abbrev Zhx(a0:List (List UInt8))(a1:List UInt8)(r:Int):Prop:=(-1<=r)/\(r < (a0.length:Int))/\((if r < 0 then (a0.length:Int) else r)=ixL a0 a1)
def Zhz(a0:List (List UInt8))(a1:List UInt8):Za2->Prop
 | .L0 v0 w1_0 v7 v8=>(v0=a0)/\(w1_0=a1)/\((SzL 16 SzT) v0)/\(SzT w1_0)/\(0<=v8)/\(v7=(v0.length:Int))/\(LsS v0 w1_0 v8)
def Zd5:Za2->M6
 | .L0 v0 w1_0 v7 v8=>(1,(v7 - v8).toNat,1000000,0,0,0)
theorem Zh0{a0:List (List UInt8)}{a1:List UInt8}(oa0:(SzL 16 SzT) a0)(oa1:SzT a1):Tot (Zei a0 a1) (Zhx a0 a1):=by
 apply Tot.rn (Zhz a0 a1) Zd5
 .dsimp only [Zea,LT.den];exact tL ⟨rfl,rfl,oa0,oa1,cl,cl,tk62⟩ tk81
 rintro ⟨v0,w1_0,v7,v8⟩ ⟨al0,al1,ov0,ow1_0,cv8,i0,i1⟩;have lb_v0:=ov0.1;subst al0;subst al1;dsimp only [Zcb,Zd2,LT.den];apply tD<;>intro h1
 .refine Tot.ix fun x1 h2=>?_;have oh2:SzT x1:=ov0.2 x1 h2.1;have mh2:=h2.2;refine tB (Z7l oh2 ow1_0) fun x2 h3=>?_;apply tF<;>intro h4
  .exact tl99
  have q1:=wr (v8+1);exact tL ⟨rfl,rfl,ov0,ow1_0,cl,cl,tk62⟩ tk81
 exact tl99
theorem Zfq(b0:List (List UInt8))(a1:Int)(b1:List (List UInt8))(ob0:SzL 16 SzT b0)(ob1:SzL 16 SzT b1)(h0:b0.length<=4096)(h1:0<=a1)(h2:a1<=(b0.length:Int))(h3:b1.length=1) :
 Tot (Zgh b0 a1 b1) (fun r=>(SzL 16 SzT r)/\(r.length=b0.length+1)/\(r=b0.take a1.toNat++b1++b0.drop a1.toNat)):=by
 match b1,h3 with
 | [y],_=>
  refine⟨_,Zbg0 h1 h2 (by omega),⟨?_,fun e he=>?_⟩,?_,by simp⟩
  .exact tl41
  .rcases List.mem_append.1 he with h | h
   .exact ob0.2 e (List.mem_of_mem_take h)
   .rcases List.mem_cons.1 h with h | h
    .rw [h];exact ob1.2 y (by simp)
    .exact ob0.2 e (List.mem_of_mem_drop h)
  .exact tl41
theorem Zan8{a0:Z7}{a1:List UInt8}(oa0:Zhm a0)(oa1:SzT a1):Tot (Zahk a0 a1) (fun r=>(Zhm r)/\(r=lnV a0 a1)):=by
 apply tZ;dsimp only [Z94,LT.den];refine tB (Zfp oa0) fun x1 h1=>?_;have eh1_1:=h1.2;refine tB (Z7k a1 oa1) fun x2 h2=>?_;apply tO<;>intro h3
 .exact Za4x
 refine tB (Zan7 (⟨a0.Super,a0.Types,x1⟩:Z7) a1 h1.1 oa1) fun x3 h4=>?_;apply tF<;>intro h5
 .exact Za4x
 apply tD<;>intro h6
 .exact Za4x
 refine tB (Zh0 h1.1 oa1) fun x4 h7=>?_;have eh7_2:=h7.2.2;apply tD<;>intro h8
 .refine tB (Zfq x1 (x1.length:Int) [a1] h1.1 (SzL.one oa1) cl cl cl cl) fun x5 h9=>?_;exact Zbdf
 refine tB (Zfq x1 x4 [a1] h1.1 (SzL.one oa1) cl cl cl cl) fun x5 h9=>?_;exact Zbdf
theorem Zatz{a0:Za}{a1:Zc}{a2:Int}{a3:Int}(oa0:Zu a0)(oa1:Z5 a1):Tot (Zac9 a0 a1 a2 a3) (fun r=>(Zu r)/\(r=apV a0 a1 a2 a3)):=by
 apply tZ;dsimp only [Zahl,LT.den];refine tB (Zaqe oa0) fun x1 h1=>?_;have eh1_1:=h1.2;refine tB (Za55 oa1) fun x2 h2=>?_;apply tO<;>intro h3
 .exact tl14
 apply tE<;>intro h4
 .exact Z8y
 apply tE<;>intro h5
 .exact Z8y
 apply tE<;>intro h6
 .exact Z8y
 apply tE<;>intro h7
 .exact tR ⟨⟨h1.1.1,SzL.one (SzS.t oa1.1),h1.1.2.2⟩,Z82⟩
 apply tE<;>intro h8
 .refine tB (Zan8 h1.1.2.1 (SzS.t oa1.1)) fun x3 h9=>?_;have eh9_1:=h9.2;exact tR ⟨⟨h1.1.1,h9.1,h1.1.2.2⟩,Z82⟩
 apply tE<;>intro h9
 .exact Z8y
 apply tE<;>intro h10
 .exact Z8y
 apply tE<;>intro h11
 .exact Z8y
 apply tE<;>intro h12
 .exact Z8y
 apply tE<;>intro h13
 .exact tR ⟨⟨h1.1.1,h1.1.2.1,SzL.nil⟩,Z82⟩
 apply tE<;>intro h14
 .exact tB (Zgt) fun x3 h15=>tB (Zgt) fun x4 h16=>tR ⟨⟨h1.1.1,h1.1.2.1,h1.1.2.2⟩,Z82⟩
 apply tE<;>intro h15
 .exact Z8y
 apply tE<;>intro h16
 .exact tB (Zwc) fun x3 h17=>tB (Zwc) fun x4 h18=>tR ⟨⟨h1.1.1,h1.1.2.1,h1.1.2.2⟩,Z82⟩
 apply tE<;>intro h17
 .exact Z8y
 exact tl14
abbrev Z9b(a0:List Int)(r:List Int):Prop:=((SzL 8 (fun _=>True)) r)/\(r.length<=a0.length)/\(SUB r a0)/\(r=elV a0)
def Zaa5(a0:List Int):Zij->Prop
 | .L0 v3 v6 v7 v8=>(v6=a0)/\((SzL 8 (fun _=>True)) v3)/\((SzL 8 (fun _=>True)) v6)/\(0<=v8)/\(v7=(v6.length:Int))/\(v3.length<=v8.toNat)/\(v8<=v7)/\(SUB v3 v6)/\(v3=(v6.take v8.toNat).foldl elF [])
def Zxv:Zij->M6
 | .L0 v3 v6 v7 v8=>(1,(v7 - v8).toNat,1000000,0,0,0)
theorem Zaa6{a0:List Int}(oa0:(SzL 8 (fun _=>True)) a0):Tot (Zt2 a0) (Z9b a0):=by
 apply Tot.rn (Zaa5 a0) Zxv
 .have lb_a0:=oa0.1;dsimp only [Zzk,LT.den];exact tL ⟨rfl,SzL.nil,oa0,cl,cl,cl,cl,tk65,tk9⟩ Za5j
 rintro ⟨v3,v6,v7,v8⟩ ⟨al0,ov3,ov6,cv8,i0,i1,i2,i3,i4⟩;have lb_v3:=ov3.1;have lb_v6:=ov6.1;subst al0;dsimp only [Zqk,Zxk,LT.den];apply tD<;>intro h1
 .refine Tot.ix fun x1 h2=>?_;have mh2:=h2.2;apply tD<;>intro h3
  .refine tB (Zkq ov3) fun x2 h4=>?_;apply tO<;>intro h5
   .refine Tot.ap fun x3 h6=>?_;have lh6:=Zc6 h6;have q1:=wr (v8+1);exact tL ⟨rfl,SzL.tr,ov6,cl,cl,cl,cl,tk65,tk9⟩ Za5j
   exact Zbdt
  exact Zbdt
 exact tR ⟨ov3,cl,‹_›,(by exact Za83 ‹_› (by omega))⟩
theorem Zzo{a0:List (List Bool)}{a1:Int}{a2:Int}(oa0:(SzL 24 (SzL 1 (fun _=>True))) a0):Tot (Z96 a0 a1 a2) (fun r=>(0<=a1->0<=a2->r=nB a0 a1 a2)):=by
 apply tZ;dsimp only [Z3u,LT.den];apply tD<;>intro h1
 .apply tD<;>intro h2
  .apply tD<;>intro h3
   .refine Tot.ix fun x1 h4=>?_;have oh4:(SzL 1 (fun _=>True)) x1:=oa0.2 x1 h4.1;apply tD<;>intro h5
    .exact Tot.ix fun x2 h6=>tR (by unfold nB;grind)
    exact tl0
   exact tl0
  exact tl0
 exact tl0
abbrev Zafh(a0:List Int)(a1:List (List Bool))(r:(List Int)×(List (List Bool))):Prop:=(r.1.length=a0.length)/\(r.2.length=a0.length)/\(RWS a0.length r.2)/\(MK a0.length r.2 (kB (eB a0 a1) a0.length))/\(r.1=a0)
def Zaj3(a0:List Int)(a1:List (List Bool)):Zev->Prop
 | .L0 v1 E0 v5 E1 v17 v18=>(E0=a0)/\(v1=a1)/\((SzL 24 (SzL 1 (fun _=>True))) v1)/\((SzL 8 (fun _=>True)) E0)/\((SzL 24 (SzL 1 (fun _=>True))) E1)/\(0<=v18)/\(v5=(E0.length:Int))/\((E1.length:Int)=v5)/\(E0.length<=16448)/\(RWV E0.length E1 v18)/\(v17=v5)/\(POS E0)/\(MK v5.toNat E1 (sel (eB E0 v1) (fun _ _=>false) v18.toNat (0:Int).toNat))
 | .L1 v1 E0 v5 E1 v7 v17 v18 v26 v27=>(E0=a0)/\(v1=a1)/\((SzL 24 (SzL 1 (fun _=>True))) v1)/\((SzL 8 (fun _=>True)) E0)/\((SzL 24 (SzL 1 (fun _=>True))) E1)/\(0<=v27)/\(0<=v18)/\(v18 < v17)/\(v5=(E0.length:Int))/\((E1.length:Int)=v5)/\(E0.length<=16448)/\(RWV E0.length E1 (v18+1))/\(v17=v5)/\(v18 < v17)/\(v7=v18)/\(v26=v5)/\(POS E0)/\(MK v5.toNat E1 (sel (eB E0 v1) (fun _ _=>false) v18.toNat v27.toNat))
 | .L2 E0 v5 E1 v48 v49=>(E0=a0)/\((SzL 8 (fun _=>True)) E0)/\((SzL 24 (SzL 1 (fun _=>True))) E1)/\(0<=v49)/\(v5=(E0.length:Int))/\((E1.length:Int)=v5)/\(E0.length<=16448)/\(RWS E0.length E1)/\(v48=v5)/\(v49<=v48)/\(MK v5.toNat E1 (kB (eB E0 a1) v49.toNat))
 | .L3 E0 v5 E1 v9 v48 v49 v52 v53=>(E0=a0)/\((SzL 8 (fun _=>True)) E0)/\((SzL 24 (SzL 1 (fun _=>True))) E1)/\(0<=v53)/\(0<=v49)/\(v49 < v48)/\(v5=(E0.length:Int))/\((E1.length:Int)=v5)/\(E0.length<=16448)/\(RWS E0.length E1)/\(v48=v5)/\(v52=v5)/\(v9=v49)/\(v49 < v48)/\(v53<=v52)/\(MK v5.toNat E1 (sel (kB (eB E0 a1) (v49.toNat+1)) (kB (eB E0 a1) v49.toNat) v53.toNat  (0:Int).toNat))
 | .L4 E0 v5 E1 v9 v10 v48 v49 v52 v53 v56 v57=>(E0=a0)/\((SzL 8 (fun _=>True)) E0)/\((SzL 24 (SzL 1 (fun _=>True))) E1)/\(0<=v57)/\(0<=v49)/\(0<=v53)/\(v49 < v48)/\(v53 < v52)/\(v5=(E0.length:Int))/\((E1.length:Int)=v5)/\(E0.length<=16448)/\(RWS E0.length E1)/\(v48=v5)/\(v52=v5)/\(v9=v49)/\(v49 < v48)/\(v56=v5)/\(v10=v53)/\(v53 < v52)/\(MK v5.toNat E1 (sel (kB (eB E0 a1) (v49.toNat+1)) (kB (eB E0 a1) v49.toNat) v53.toNat  v57.toNat))
def Z4l:Zev->M6
 | .L0 v1 E0 v5 E1 v17 v18=>(3,(v17 - v18).toNat,1000000,0,0,0)
 | .L1 v1 E0 v5 E1 v7 v17 v18 v26 v27=>(3,(v17 - v18).toNat,1,(v26 - v27).toNat,1000000,0)
 | .L2 E0 v5 E1 v48 v49=>(1,(v48 - v49).toNat,1000000,0,0,0)
 | .L3 E0 v5 E1 v9 v48 v49 v52 v53=>(1,(v48 - v49).toNat,1,(v52 - v53).toNat,1000000,0)
 | .L4 E0 v5 E1 v9 v10 v48 v49 v52 v53 v56 v57=>(1,(v48 - v49).toNat,1,(v52 - v53).toNat,1,(v56 - v57).toNat)
theorem Zaj4{a0:List Int}{a1:List (List Bool)}(oa0:(SzL 8 (fun _=>True)) a0)(oa1:(SzL 24 (SzL 1 (fun _=>True))) a1)(h0:a0.length<=16448)(h1:POS a0):Tot (Zadb a0 a1) (Zafh a0 a1):=by
 apply Tot.rn (Zaj3 a0 a1) Z4l
 .dsimp only [Z62,LT.den];refine tB (Tot.mk) fun x1 h1=>?_;have lh1:=h1.1;exact tL ⟨rfl,rfl,oa1,oa0,⟨lo,fun e he=>by rw [h1.2 e he];exact SzL.nil⟩,cl,cl,cl,cl,tk15,cl,‹_›,tk8⟩ Z37
 intro s hs;cases s with
 | L0 v1 E0 v5 E1 v17 v18=>
  obtain⟨al0,al1,ov1,O0,O1,cv18,i0,i1,i2,i3,i4,i5,i6⟩:=hs;subst al0;subst al1;dsimp only [Zg3,Z3w,LT.den];apply tD<;>intro h1
  .refine tB (Tot.mk) fun x1 h2=>?_;have lh2:=h2.1;refine Tot.ix fun x2 h3=>?_;have mh3:=h3.2;(first | have wh3:=Z1r (by assumption:RWS _ E1) mh3 | have wh3:=Zads (by assumption:RWV _ E1 _) (by omega) mh3 | skip);have mh3:=h3.2;exact tB (Tot.set (by omega) (by omega)) fun x3 h4=>tL ⟨rfl,rfl,ov1,O0,⟨lo,fun e he=>(h4.2.1 e he).elim (fun w=>by rw [w];exact SzL.tr) (O1.2 e)⟩,cl,cl,cl,cl,cl,cl,tk15,cl,cl,cl,cl,‹_›,tk8⟩ Z37
  exact Zbdn
 | L1 v1 E0 v5 E1 v7 v17 v18 v26 v27=>
  obtain⟨al0,al1,ov1,O0,O1,cv27,cv18,bd7,i0,i1,i2,i3,i4,i5,i6,i7,i8,i9⟩:=hs;subst al0;subst al1;dsimp only [Zg3,Z3x,LT.den];apply tD<;>intro h1
  .refine Tot.ix fun x1 h2=>?_;have oh2:(SzL 1 (fun _=>True)) x1:=O1.2 x1 h2.1;have mh2:=h2.2;(first | have wh2:=Z1r (by assumption:RWS _ E1) mh2 | have wh2:=Zads (by assumption:RWV _ E1 _) (by omega) mh2 | skip);have mh2:=h2.2;refine Tot.ix fun x2 h3=>?_;have mh3:=h3.2;refine Tot.ix fun x3 h4=>?_;have mh4:=h4.2;refine tB (Zzo ov1) fun x4 h5=>Tot.ix fun x5 h6=>?_;have mh6:=h6.2;refine tB (Tot.setM) fun x6 h7=>?_;have lh7:x6.length=E1.length:=by rw [h7,List.length_set]
   have q1:=wr (v27+1);exact tL ⟨rfl,rfl,ov1,O0,SzL.setM h7 O1 oh2,cl,cl,cl,cl,cl,cl,tk15,cl,cl,cl,cl,‹_›,tk8⟩ Z37
  have q1:=wr (v18+1);exact tL ⟨rfl,rfl,ov1,O0,O1,cl,cl,cl,cl,tk15,cl,‹_›,tk8⟩ Z37
 | L2 E0 v5 E1 v48 v49=>
  obtain⟨al0,O0,O1,cv49,i0,i1,i2,i3,i4,i5,i6⟩:=hs;subst al0;dsimp only [Zg3,Z3y,LT.den];apply tD<;>intro h1
  .exact Zbdm
  exact tR ⟨cl,cl,‹_›,(by exact Zbhw ‹_› ‹_› (by omega) (by omega)),(by rfl)⟩
 | L3 E0 v5 E1 v9 v48 v49 v52 v53=>
  obtain⟨al0,O0,O1,cv53,cv49,bd5,i0,i1,i2,i3,i4,i5,i6,i7,i8,i9⟩:=hs;subst al0;dsimp only [Zg3,Z3z,LT.den];apply tD<;>intro h1
  .exact Zbd0
  have q1:=wr (v49+1);exact Zbdn
 | L4 E0 v5 E1 v9 v10 v48 v49 v52 v53 v56 v57=>
  obtain⟨al0,O0,O1,cv57,cv49,cv53,bd6,bd7,i0,i1,i2,i3,i4,i5,i6,i7,i8,i9,i10,i11⟩:=hs;subst al0;dsimp only [Zg3,Z30,LT.den];apply tD<;>intro h1
  .refine Tot.ix fun x1 h2=>?_;have oh2:(SzL 1 (fun _=>True)) x1:=O1.2 x1 h2.1;have mh2:=h2.2;(first | have wh2:=Z1r (by assumption:RWS _ E1) mh2 | have wh2:=Zads (by assumption:RWV _ E1 _) (by omega) mh2 | skip);have mh2:=h2.2;refine Tot.ix fun x2 h3=>?_;have mh3:=h3.2;apply tF<;>intro h4
   .refine Tot.ix fun x3 h5=>?_;have mh5:=h5.2;(first | have wh5:=Z1r (by assumption:RWS _ E1) mh5 | have wh5:=Zads (by assumption:RWV _ E1 _) (by omega) mh5 | skip);have mh5:=h5.2;refine Tot.ix fun x4 h6=>?_;have mh6:=h6.2;apply tF<;>intro h7
    .refine Tot.ix fun x5 h8=>?_;have oh8:(SzL 1 (fun _=>True)) x5:=O1.2 x5 h8.1;have mh8:=h8.2;(first | have wh8:=Z1r (by assumption:RWS _ E1) mh8 | have wh8:=Zads (by assumption:RWV _ E1 _) (by omega) mh8 | skip);have mh8:=h8.2;refine Tot.ix fun x6 h9=>?_;have mh9:=h9.2;refine tB (Tot.setM) fun x7 h10=>?_;have lh10:x7.length=E1.length:=by rw [h10,List.length_set]
     have q1:=wr (v57+1);exact tL ⟨rfl,O0,SzL.setM h10 O1 oh8,cl,cl,cl,cl,cl,cl,cl,cl,Z80,cl,cl,cl,cl,cl,cl,cl,tk0⟩ Z37
    exact Zbd1
   exact Zbd1
  have q1:=wr (v53+1);exact Zbdm
theorem Zzb{a0:Int}{a1:Int}{a2:List Int}{a3:List (List Bool)}(oa2:(SzL 8 (fun _=>True)) a2)(oa3:(SzL 24 (SzL 1 (fun _=>True))) a3)(h0:a3.length=a2.length)(h1:RWS a2.length a3):Tot (Zra a0 a1 a2 a3) (fun r=>(r=ldV a2 a3 a0 a1)):=by
 apply tZ;dsimp only [Zo8,LT.den];refine tB (Zhw oa2) fun x1 h1=>?_;have eh1_2:=h1.2.2;refine tB (Zhw oa2) fun x2 h2=>?_;have eh2_2:=h2.2.2;apply tD<;>intro h3
 .apply tD<;>intro h4
  .refine Tot.ix fun x3 h5=>?_;have mh5:=h5.2;have wh5:=Z1r (by assumption:RWS _ a3) mh5;have mh5:=h5.2;refine Tot.ix fun x4 h6=>?_;have mh6:=h6.2;exact Za4u
  exact Za4u
 exact Za4u
theorem Zri{a0:Int}{b0:Int}{b1:List (List Bool)}{b2:(List Int)×(List (List Bool))}(ob1:(SzL 24 (SzL 1 (fun _=>True))) b1)(h0:b2.1.length<=16448)(h1:b2.2.length=b2.1.length)(h2:RWS b2.1.length b2.2):Tot (Zk4 a0 b0 b1 b2) (fun r=>(0<=a0->0<=b0->r=wtP b1 b2 b0 a0)):=by
 apply tZ;dsimp only [Zjr,LT.den];apply tN<;>intro h1
 .refine tB (Zzo ob1) fun x1 h2=>?_;apply tF<;>intro h3
  .exact tB (Zzb szx szx cl ‹_›) fun x2 h4=>tR Za5n
  exact tR Za5n
 exact tR Za5n
abbrev Zji(a0:List Int)(b0:Int)(b1:List (List Bool))(b2:(List Int)×(List (List Bool)))(r:Int×Int×(List (List Bool))×((List Int)×(List (List Bool)))):Prop:=((SzL 24 (SzL 1 (fun _=>True))) r.2.2.1)/\(r.2=(b0,b1,b2))/\(FX a0 (wtP b1 b2 b0) r.1)
def Zjo(a0:List Int)(b0:Int)(b1:List (List Bool))(b2:(List Int)×(List (List Bool))):Zbd->Prop
 | .L0 v0 c0 c1 c2 v7 v8=>(v0=a0)/\(c0=b0)/\(c1=b1)/\(c2=b2)/\((SzL 8 (fun _=>True)) v0)/\((SzL 24 (SzL 1 (fun _=>True))) c1)/\(0<=v8)/\(v7=(v0.length:Int))/\(c2.1.length<=16448)/\(c2.2.length=c2.1.length)/\(RWS c2.1.length c2.2)/\(POS v0)/\(0<=c0)/\(∀ (k:Nat) y,(k:Int) < v8->v0[k]?=some y->wtP c1 c2 c0 y=false)
def Ze3:Zbd->M6
 | .L0 v0 c0 c1 c2 v7 v8=>(1,(v7 - v8).toNat,1000000,0,0,0)
theorem Zjp{a0:List Int}{b0:Int}{b1:List (List Bool)}{b2:(List Int)×(List (List Bool))}(oa0:(SzL 8 (fun _=>True)) a0)(ob1:(SzL 24 (SzL 1 (fun _=>True))) b1)(h0:b2.1.length<=16448)(h1:b2.2.length=b2.1.length)(h2:RWS b2.1.length b2.2)(h3:POS a0)(h4:0<=b0):Tot (Zfu a0 b0 b1 b2) (Zji a0 b0 b1 b2):=by
 apply Tot.rn (Zjo a0 b0 b1 b2) Ze3
 .dsimp only [Zfc,LT.den];exact tL ⟨rfl,rfl,rfl,rfl,oa0,ob1,cl,cl,cl,cl,Zf4,‹_›,cl,tk51⟩ tk87
 rintro ⟨v0,c0,c1,c2,v7,v8⟩ ⟨al0,al1,al2,al3,ov0,oc1,cv8,i0,i1,i2,i3,i4,i5,i6⟩;have lb_v0:=ov0.1;subst al0;subst al1;subst al2;subst al3;dsimp only [Zc2,Ze1,LT.den];apply tD<;>intro h1
 .refine Tot.ix fun x1 h2=>?_;have mh2:=h2.2;have zh2:0<=x1:=(by assumption:POS v0) _ h2.1;refine tB (Zri oc1 cl cl Zf4) fun x2 h3=>?_;apply tF<;>intro h4
  .exact tl88
  have q1:=wr (v8+1);exact tL ⟨rfl,rfl,rfl,rfl,ov0,oc1,cl,cl,cl,cl,Zf4,‹_›,cl,tk51⟩ tk87
 exact tl88
theorem Zi2{a0:List Int}{b0:Int}{b1:List (List Bool)}{b2:(List Int)×(List (List Bool))}(oa0:(SzL 8 (fun _=>True)) a0)(ob1:(SzL 24 (SzL 1 (fun _=>True))) b1)(h0:b2.1.length<=16448)(h1:b2.2.length=b2.1.length)(h2:RWS b2.1.length b2.2)(h3:POS a0)(h4:0<=b0):Tot (Ze2 a0 b0 b1 b2) (fun r=>((SzL 24 (SzL 1 (fun _=>True))) r.2.2.1)/\(r.2=(b0,b1,b2))/\(r.1=true↔∃ j,j∈a0/\wtP b1 b2 b0 j=true)):=by
 apply tZ;dsimp only [Zel,LT.den];refine tB (Zjp oa0 ob1 cl cl Zf4 Zae1 cl) fun x1 h1=>?_;have eh1_1:=h1.2.1;have eh1_2:=h1.2.2;exact tR ⟨h1.1,Zai,‹_›⟩
abbrev Zafi(a0:List Int)(a1:List (List Bool))(r:List Int):Prop:=((SzL 8 (fun _=>True)) r)/\(r.length<=16448)/\(SUB r a0)/\(r=rdV (elV a0) (nB a1))
def Zaj5(a0:List Int)(a1:List (List Bool)):Zlx->Prop
 | .L0 E0 v5 E1 v7 v16 v17 v18=>((SzL 24 (SzL 1 (fun _=>True))) E0)/\((SzL 8 (fun _=>True)) v5)/\((SzL 8 (fun _=>True)) v7)/\((SzL 8 (fun _=>True)) v16)/\(0<=v18)/\(v5.length<=16448)/\(v17=(v16.length:Int))/\(v16.length<=16448)/\(v7.length<=v18.toNat)/\(v18<=v17)/\(SUB v16 a0)/\(SUB v7 a0)/\(E1.1.length<=16448)/\(E1.2.length=E1.1.length)/\(RWS E1.1.length E1.2)/\(POS v5)/\(v5=v16)/\(v16=elV a0)/\(E1.1=v16)/\(E0=a1)/\(MK v16.length E1.2 (kB (eB v16 a1) v16.length))/\(v7=(v16.take v18.toNat).filter (rdB v16 (nB a1)))
def Z4m:Zlx->M6
 | .L0 E0 v5 E1 v7 v16 v17 v18=>(1,(v17 - v18).toNat,1000000,0,0,0)
theorem Zaj6{a0:List Int}{a1:List (List Bool)}(oa0:(SzL 8 (fun _=>True)) a0)(oa1:(SzL 24 (SzL 1 (fun _=>True))) a1)(h0:a0.length<=16448):Tot (Z1i a0 a1) (Zafi a0 a1):=by
 apply Tot.rn (Zaj5 a0 a1) Z4m
 .dsimp only [Z63,LT.den];refine tB (Zaa6 oa0) fun x1 h1=>?_;have eh1_2:=h1.2.2.1;have eh1_3:=h1.2.2.2;refine tB (Zaj4 h1.1 oa1 cl Zae1) fun x2 h2=>?_;have eh2_0:=h2.1;have eh2_2:=h2.2.2.1;have eh2_3:=h2.2.2.2.1;have eh2_4:=h2.2.2.2.2;have q1:=h1.1.1;exact tL ⟨oa1,h1.1,SzL.nil,h1.1,cl,cl,cl,cl,cl,cl,‹_›,tk47,cl,cl,tk99,Zae1,Zai,‹_›,‹_›,Zai,‹_›,tk13⟩ Za5k
 rintro ⟨E0,v5,E1,v7,v16,v17,v18⟩ ⟨O0,ov5,ov7,ov16,cv18,i0,i1,i2,i3,i4,i5,i6,i7,i8,i9,i10,i11,i12,i13,i14,i15,i16⟩;have lb_v7:=ov7.1;dsimp only [Zvj,Z31,LT.den];apply tD<;>intro h1
 .refine Tot.ix fun x1 h2=>?_;have mh2:=h2.2;have zh2:0<=x1:=Za86 (by assumption:v16=elV a0) _ h2.1;refine tB (Zi2 ov5 O0 cl cl Zf4 Zae1 cl) fun x2 h3=>?_;have eh3_1:=h3.2.1;have eh3_2:=h3.2.2;have mh3:v16[v18.toNat]?=some x2.2.1:=by rw [eh3_1];assumption
  have uh3:x2.2.2.2.1.length<=16448:=by rw [eh3_1];assumption
  have wh3:x2.2.2.2.2.length=x2.2.2.2.1.length:=by rw [eh3_1];assumption
  have zh3:RWS x2.2.2.2.1.length x2.2.2.2.2:=by rw [eh3_1];assumption
  have rh3:=rd_c (y:=x2) ‹_› ‹_› ‹_› ‹_› ‹_› ‹_› ‹_› ‹_›;have f1h5:x2.2.2.1=a1:=by rw [eh3_1];assumption
  have f2h5:x2.2.2.2.1=v16:=by rw [eh3_1];assumption
  have f3h5:MK v16.length x2.2.2.2.2 (kB (eB v16 a1) v16.length):=by rw [eh3_1];assumption
  apply tO<;>intro h4
  .refine Tot.ap fun x3 h5=>?_;have lh5:=Zc6 h5;have q1:=wr (v18+1);exact tL ⟨h3.1,ov5,SzL.tr,ov16,cl,cl,cl,cl,cl,cl,‹_›,tk47,cl,cl,tk99,Zae1,Zai,‹_›,‹_›,Zai,‹_›,tk13⟩ Za5k
  have q1:=wr (v18+1);exact tL ⟨h3.1,ov5,ov7,ov16,cl,cl,cl,cl,cl,cl,‹_›,tk47,cl,cl,tk99,Zae1,Zai,‹_›,‹_›,Zai,‹_›,tk13⟩ Za5k
 exact tR ⟨ov7,cl,‹_›,(by rw [<- (by assumption:v16=elV a0)];exact Zbe4 ‹_› (by omega))⟩
theorem Z2b{a0:List Int}{a1:Int}(oa0:(SzL 8 (fun _=>True)) a0)(h0:0<=a1):Tot (Zadc a0 a1) (fun r=>(r=stp a0 a1)):=by
 apply tZ;dsimp only [Z64,LT.den];apply tD<;>intro h1
 .exact Tot.ix fun x1 h2=>tR (by unfold stp;grind)
 exact tR (by unfold stp;grind)
def Zan9(a0:List Int)(a1:List Int)(a2:List (List Bool)):Znl->Prop
 | .L0 v1 v7 v14 v15 v16=>(v1=a1)/\((SzL 8 (fun _=>True)) v1)/\((SzL 8 (fun _=>True)) v14)/\(0<=v16)/\(POS a0)/\(v15=(v14.length:Int))/\(v14.length<=16448)/\(SUB v14 a0)/\(v7 < 0\/v7∈a0)/\(v14=rdV (elV a0) (nB a2))/\(v7=(v14.take v16.toNat).foldl (nxF v1) (-1))
def Zvx:Znl->M6
 | .L0 v1 v7 v14 v15 v16=>(1,(v15 - v16).toNat,1000000,0,0,0)
theorem Zaoa{a0:List Int}{a1:List Int}{a2:List (List Bool)}(oa0:(SzL 8 (fun _=>True)) a0)(oa1:(SzL 8 (fun _=>True)) a1)(oa2:(SzL 24 (SzL 1 (fun _=>True))) a2)(h0:a0.length<=16448)(h1:POS a0):Tot (Zahn a0 a1 a2) (fun r=>(r < 0\/r∈a0)/\(r=nxV a0 a1 (nB a2))):=by
 apply Tot.rn (Zan9 a0 a1 a2) Zvx
 .dsimp only [Z97,LT.den];refine tB (Zaj6 oa0 oa2 cl) fun x1 h1=>?_;have eh1_1:=h1.2.1;have eh1_2:=h1.2.2.1;have eh1_3:=h1.2.2.2;exact tL ⟨rfl,oa1,h1.1,cl,‹_›,cl,cl,‹_›,tk82,‹_›,tk33⟩ (by unfold Zvx lt6;dsimp only;omega)
 rintro ⟨v1,v7,v14,v15,v16⟩ ⟨al0,ov1,ov14,cv16,i0,i1,i2,i3,i4,i5,i6⟩;subst al0;dsimp only [Zyd,Z66,LT.den];apply tD<;>intro h1
 .refine Tot.ix fun x1 h2=>?_;have mh2:=h2.2;have zh2:=Zbhi (by assumption:POS a0) (by assumption:SUB v14 a0) mh2;have mh2:=h2.2;apply tD<;>intro h3
  .exact Zanm
  refine tB (Z2b ov1 cl) fun x2 h4=>tB (Z2b ov1 cl) fun x3 h5=>?_;apply tD<;>intro h6
  .exact Zanm
  apply tE<;>intro h7
  .apply tD<;>intro h8
   .exact Zanm
   exact Zanm
  exact Zanm
 exact tR ⟨‹_›,(by exact nx_e ‹_› ‹_› (by omega))⟩
abbrev Zui(b0:Ze)(r:Ze):Prop:=(Z4 r)/\(r.traits.length=r.s.Objects.length)/\(r.dropped.length=r.s.Objects.length)/\(r.done.length=r.forces.length)/\(r.hits.length=r.forces.length)/\(r.s.Objects.length<=2048)/\(r.forces.length<=16448)/\(HI r.s.Objects.length r.hits)/\(r.s=b0.s)/\(r.forces=b0.forces)/\(r=Z8x b0)
def Zup(b0:Ze):Zds->Prop
 | .L0 c0 v10 v11 v12=>(Z4 c0)/\((SzL 128 (fun _=>True)) v10)/\(0<=v12)/\(c0.traits.length=c0.s.Objects.length)/\(c0.dropped.length=c0.s.Objects.length)/\(c0.done.length=c0.forces.length)/\(c0.hits.length=c0.forces.length)/\(c0.s.Objects.length<=2048)/\(c0.forces.length<=16448)/\(HI c0.s.Objects.length c0.hits)/\(c0.s=b0.s)/\(c0.forces=b0.forces)/\(v11=(v10.length:Int))/\(v11=(c0.s.Objects.length:Int))/\(v10=b0.s.Objects)/\(c0.traits=b0.traits.mapIdx (Zg6 (Zn2 v10) (fun _ t=>t) v12))/\(c0.dropped=b0.dropped)/\(c0.done=b0.done)/\(c0.hits=b0.hits)
def Zmc:Zds->M6
 | .L0 c0 v10 v11 v12=>(1,(v11 - v12).toNat,1000000,0,0,0)
theorem Zuq{b0:Ze}(ob0:Z4 b0)(h0:b0.traits.length=b0.s.Objects.length)(h1:b0.dropped.length=b0.s.Objects.length)(h2:b0.done.length=b0.forces.length)(h3:b0.hits.length=b0.forces.length)(h4:b0.s.Objects.length<=2048)(h5:b0.forces.length<=16448)(h6:HI b0.s.Objects.length b0.hits):Tot (Zix b0) (Zui b0):=by
 unfold Zix;refine tX (Inv:=(Zup b0)) (μ:=Zmc) (m:=(1000000,0,0,0,0,0)) ?_ ?_
 .dsimp only [Zmi,LT.den];have q1:=ob0.1.2.1.1;exact tL ⟨ob0,ob0.1.2.1,cl,cl,cl,cl,cl,cl,cl,Zbq,Zcm,Zcm,cl,cl,Zai,tk6,Zai,Zai,Zai⟩ Za5h
 .intro s hs;cases s with
  | L0 c0 v10 v11 v12=>
   obtain⟨oc0,ov10,cv12,i0,i1,i2,i3,i4,i5,i6,i7,i8,i9,i10,i11,i12,i13,i14,i15⟩:=hs;have lb_v10:=ov10.1;show Tot (Zg4 c0 v10 v11 v12).den _;dsimp only [Zg4,LT.den];refine tD (fun h1=>?_) (fun h1=>?_)
   .refine tB (tI (by omega) (by omega)) (fun x2 h3=>?_);have mh3:=h3.2;refine tB (tI (by omega) (by omega)) (fun x4 h5=>?_);have oh5:Zu x4:=oc0.2.2.1.2 x4 h5.1;have mh5:=h5.2;have nh5:=oh5.1;have ah5:=oh5.2.1;have bh5:=oh5.2.2;unfold SzS at nh5;have mh5:=h5.2;refine tE (fun h6=>?_) (fun h6=>?_)
    .refine tN (fun h7=>?_) (fun h7=>?_)
     .refine tB (Zaff) (fun x8 h9=>?_);have eh9_0:=h9;refine tB (Zwc) (fun x10 h11=>?_);have eh11_0:=h11;refine tB (Zwc) (fun x12 h13=>?_);have eh13_0:=h13;refine tB (Tot.set (by omega) (by omega)) (fun x14 h15=>?_);have lh15:=h15.1;refine tB (Tot.set2 (by omega) (by omega) (by omega)) (fun x16 h17=>?_);have lh17:=h17.1;refine qw (v12+1) fun q18 q19=>?_;exact tL ⟨⟨oc0.1,oc0.2.1,⟨lo,fun e he=>(h17.2.1 e he).elim (fun w=>by rw [w];exact⟨(by unfold SzS;first | omega | (simp only [List.length_append,List.length_cons,List.length_nil];omega)),szx,szx⟩) ((show SzL 1 Zu _ from ⟨lo,fun e he=>(h15.2.1 e he).elim (fun w=>by rw [w];exact⟨oh5.1,oh5.2.1,oh5.2.2⟩) (oc0.2.2.1.2 e)⟩).2 e)⟩,oc0.2.2.2.1,oc0.2.2.2.2.1,oc0.2.2.2.2.2⟩,ov10,cl,cl,cl,cl,cl,cl,cl,Zbq,Zcm,Zcm,cl,cl,Zai,tk6,Zai,Zai,Zai⟩ Za5h
     .refine qw (v12+1) fun q20 q21=>?_;exact Zbdx
    .refine qw (v12+1) fun q22 q23=>?_;exact Zbdx
   .exact tR ⟨oc0,cl,cl,cl,cl,cl,cl,Zbq,Zcm,Zcm,(by exact cn_e ‹_› (by omega) ‹_› ‹_› ‹_› ‹_› ‹_› ‹_› ‹_›)⟩
def Zsx(b0:Ze)(a1:Int)(a2:Int):Zda->Prop
 | .L0 v1 v2 E1 v18 v19 v20=>(v1=a1)/\(v2=a2)/\(Zbr E1)/\((SzL 176 Z5) v18)/\(0<=v20)/\(b0.traits.length=b0.s.Objects.length)/\(b0.dropped.length=b0.s.Objects.length)/\(b0.done.length=b0.forces.length)/\(b0.hits.length=b0.forces.length)/\(b0.s.Objects.length<=2048)/\(b0.forces.length<=16448)/\(HI b0.s.Objects.length b0.hits)/\(Z4 b0)/\(0<=v1)/\(v1 < (b0.forces.length:Int))/\(v19=(v18.length:Int))/\(v18=E1.Mods)/\(b0.forces[v1.toNat]?=some E1)/\((v18.take v20.toNat).any (Zyk v2)=false)
def Zkr:Zda->M6
 | .L0 v1 v2 E1 v18 v19 v20=>(1,(v19 - v20).toNat,1000000,0,0,0)
theorem Zsy{b0:Ze}{a1:Int}{a2:Int}(ob0:Z4 b0)(h0:b0.traits.length=b0.s.Objects.length)(h1:b0.dropped.length=b0.s.Objects.length)(h2:b0.done.length=b0.forces.length)(h3:b0.hits.length=b0.forces.length)(h4:b0.s.Objects.length<=2048)(h5:b0.forces.length<=16448)(h6:HI b0.s.Objects.length b0.hits)(h7:0<=a1)(h8:a1 < (b0.forces.length:Int)):Tot (Zmk b0 a1 a2) (fun r=>(r=Zph b0 a1 a2)):=by
 apply Tot.rn (Zsx b0 a1 a2) Zkr
 .dsimp only [Zk5,LT.den];refine Tot.ix fun x1 h1=>?_;have oh1:Zbr x1:=ob0.2.1.2 x1 h1.1;have mh1:=h1.2;exact tL ⟨rfl,rfl,oh1,oh1.2.2,cl,cl,cl,cl,cl,cl,cl,Zbq,‹_›,cl,cl,cl,Zai,‹_›,tk22⟩ Zbd3
 rintro ⟨v1,v2,E1,v18,v19,v20⟩ ⟨al0,al1,O1,ov18,cv20,i0,i1,i2,i3,i4,i5,i6,i7,i8,i9,i10,i11,i12,i13⟩;have lb_v18:=ov18.1;subst al0;subst al1;dsimp only [Zgu,Zkk,LT.den];apply tD<;>intro h1
 .refine Tot.ix fun x1 h2=>?_;have oh2:Z5 x1:=ov18.2 x1 h2.1;have mh2:=h2.2;apply tE<;>intro h3
  .refine tB (Zrs) fun x2 h4=>?_;apply tE<;>intro h5
   .refine tB (Zux oh2.2) fun x3 h6=>?_;apply tF<;>intro h7
    .exact Zaum
    exact Za41
   exact Za41
  exact Za41
 apply tO<;>intro h2
 .refine Tot.ix fun x1 h3=>?_;have mh3:=h3.2;apply tO<;>intro h4
  .apply tE<;>intro h5
   .exact Zaum
   exact tB (Zux O1.2.1) fun x2 h6=>tR tk4
  exact Zaum
 exact Zaum
theorem Zks{b0:Ze}{a1:Int}(ob0:Z4 b0)(h0:b0.traits.length=b0.s.Objects.length)(h1:b0.dropped.length=b0.s.Objects.length)(h2:b0.done.length=b0.forces.length)(h3:b0.hits.length=b0.forces.length)(h4:b0.s.Objects.length<=2048)(h5:b0.forces.length<=16448)(h6:HI b0.s.Objects.length b0.hits)(h7:0<=a1)(h8:a1 < (b0.forces.length:Int))(h9:Zd4 b0.s.Objects):Tot (Znm b0 a1) (fun r=>(r=Zr7 b0 a1)):=by
 apply tZ;dsimp only [Zly,LT.den];refine Tot.ix fun x1 h1=>?_;have mh1:=h1.2;apply tF<;>intro h2
 .exact Zaul
 refine Tot.ix fun x2 h3=>?_;have mh3:=h3.2;apply tF<;>intro h4
 .exact Zaul
 refine tB (Z4h ob0.1) fun x3 h5=>?_;have eh5_0:=h5.1;apply tD<;>intro h6
 .exact Zaul
 refine Tot.ix fun x4 h7=>?_;have mh7:=h7.2;exact Zaul
theorem Zhy{b0:Ze}{a1:Int}(ob0:Z4 b0)(h0:b0.traits.length=b0.s.Objects.length)(h1:b0.dropped.length=b0.s.Objects.length)(h2:b0.done.length=b0.forces.length)(h3:b0.hits.length=b0.forces.length)(h4:b0.s.Objects.length<=2048)(h5:b0.forces.length<=16448)(h6:HI b0.s.Objects.length b0.hits)(h7:0<=a1)(h8:a1 < (b0.forces.length:Int))(h9:Zd4 b0.s.Objects):Tot (Zqe b0 a1) (fun r=>(r=Zpg b0 a1)):=by
 apply tZ;dsimp only [Zoa,LT.den];refine Tot.ix fun x1 h1=>?_;have mh1:=h1.2;refine tB (Z4h ob0.1) fun x2 h2=>?_;have eh2_0:=h2.1;apply tO<;>intro h3
 .apply tD<;>intro h4
  .refine Tot.ix fun x3 h5=>?_;have mh5:=h5.2;exact Za4y
  exact Za4y
 exact Za4y
abbrev Zrj(b0:Ze)(a1:Int)(r:List Int):Prop:=((SzL 8 (fun _=>True)) r)/\(r.length<=b0.s.Objects.length)/\(INR b0.s.Objects.length r)/\(r=Zr8 b0 a1)
def Zsd(b0:Ze)(a1:Int):Zc3->Prop
 | .L0 E1 v6 v7 v42 v43 v44=>(Zbr E1)/\((SzL 8 (fun _=>True)) v7)/\((SzL 128 (fun _=>True)) v42)/\(0<=v44)/\(b0.traits.length=b0.s.Objects.length)/\(b0.dropped.length=b0.s.Objects.length)/\(b0.done.length=b0.forces.length)/\(b0.hits.length=b0.forces.length)/\(b0.s.Objects.length<=2048)/\(b0.forces.length<=16448)/\(HI b0.s.Objects.length b0.hits)/\(Z4 b0)/\(v43=(v42.length:Int))/\(v43=(b0.s.Objects.length:Int))/\(v7.length<=v44.toNat)/\(v44<=v43)/\(INR b0.s.Objects.length v7)/\(v7=zfm (Z1s b0 E1 v6) (fun k _=>k) v42 v44)/\(b0.forces[a1.toNat]?=some E1)/\(v6=Zpg b0 a1)/\(v42=b0.s.Objects)/\(Zr7 b0 a1=true)/\(bA b0.done a1=false)
def Zjw:Zc3->M6
 | .L0 E1 v6 v7 v42 v43 v44=>(1,(v43 - v44).toNat,1000000,0,0,0)
theorem Zjj{b0:Ze}{a1:Int}(ob0:Z4 b0)(h0:b0.traits.length=b0.s.Objects.length)(h1:b0.dropped.length=b0.s.Objects.length)(h2:b0.done.length=b0.forces.length)(h3:b0.hits.length=b0.forces.length)(h4:b0.s.Objects.length<=2048)(h5:b0.forces.length<=16448)(h6:HI b0.s.Objects.length b0.hits)(h7:0<=a1)(h8:a1 < (b0.forces.length:Int))(h9:Zd4 b0.s.Objects):Tot (Zl0 b0 a1) (Zrj b0 a1):=by
 apply Tot.rn (Zsd b0 a1) Zjw
 .dsimp only [Zkm,LT.den];refine Tot.ix fun x1 h1=>?_;have mh1:=h1.2;apply tF<;>intro h2
  .refine Tot.ix fun x2 h3=>?_;have oh3:(SzL 8 (fun _=>True)) x2:=ob0.2.2.2.2.2.2 x2 h3.1;have mh3:=h3.2;exact tR ⟨oh3,tk84,tk77,tk17⟩
  refine tB (Zks ob0 cl cl cl cl cl cl Zbq cl cl Ze7) fun x2 h3=>?_;have eh3_0:=h3;apply tO<;>intro h4
  .exact tR ⟨SzL.nil,tk84,tk77,tk17⟩
  refine Tot.ix fun x3 h5=>?_;have oh5:Zbr x3:=ob0.2.1.2 x3 h5.1;have mh5:=h5.2;exact tB (Zhy ob0 cl cl cl cl cl cl Zbq cl cl Ze7) fun x4 h6=>tL ⟨oh5,SzL.nil,ob0.1.2.1,cl,cl,cl,cl,cl,cl,cl,Zbq,‹_›,cl,cl,cl,cl,tk58,tk2,‹_›,‹_›,Zai,(by grind),tk89⟩ tk97
 rintro ⟨E1,v6,v7,v42,v43,v44⟩ ⟨O1,ov7,ov42,cv44,i0,i1,i2,i3,i4,i5,i6,i7,i8,i9,i10,i11,i12,i13,i14,i15,i16,i17,i18⟩;have lb_v7:=ov7.1;dsimp only [Zgi,Zjt,LT.den];apply tD<;>intro h1
 .refine Tot.ix fun x1 h2=>?_;have mh2:=h2.2;apply tE<;>intro h3
  .apply tF<;>intro h4
   .refine tB (Zkq O1.1) fun x2 h5=>?_;have eh5_0:=h5;apply tF<;>intro h6
    .refine Tot.ap fun x3 h7=>?_;have lh7:=Zc6 h7;exact Za42
    apply tO<;>intro h7
    .refine Tot.ix fun x3 h8=>?_;have oh8:Zu x3:=(asz:Z4 b0).2.2.1.2 x3 h8.1;have mh8:=h8.2;refine tB (Z2a x1 x3 v6 E1.Source E1.Filter oh8 O1.2.1) fun x4 h9=>?_;apply tF<;>intro h10
     .refine Tot.ap fun x5 h11=>?_;have lh11:=Zc6 h11;exact Za42
     exact Zann
    exact Zann
   apply tO<;>intro h5
   .refine Tot.ix fun x2 h6=>?_;have oh6:Zu x2:=(asz:Z4 b0).2.2.1.2 x2 h6.1;have mh6:=h6.2;refine tB (Z2a x1 x2 v6 E1.Source E1.Filter oh6 O1.2.1) fun x3 h7=>?_;apply tF<;>intro h8
    .refine Tot.ap fun x4 h9=>?_;have lh9:=Zc6 h9;exact Za42
    exact Zann
   exact Zann
  exact Zann
 exact tR ⟨ov7,tk84,tk77,tk17⟩
abbrev Zse(b0:Ze)(a1:Int)(a2:Int)(r:List Int):Prop:=((SzL 8 (fun _=>True)) r)/\(ML b0.forces a1 r)/\(r=Z8v b0 a1 a2)
def Zsz(b0:Ze)(a1:Int)(a2:Int):Zdb->Prop
 | .L0 v1 v2 E1 v8 v23 v24 v25=>(v1=a1)/\(v2=a2)/\(Zbr E1)/\((SzL 8 (fun _=>True)) v8)/\((SzL 176 Z5) v23)/\(0<=v25)/\(b0.traits.length=b0.s.Objects.length)/\(b0.dropped.length=b0.s.Objects.length)/\(b0.done.length=b0.forces.length)/\(b0.hits.length=b0.forces.length)/\(b0.s.Objects.length<=2048)/\(b0.forces.length<=16448)/\(HI b0.s.Objects.length b0.hits)/\(Z4 b0)/\(0<=v1)/\(v1 < (b0.forces.length:Int))/\(v24=(v23.length:Int))/\(v24=(v8.length:Int))/\(v24=(E1.Mods.length:Int))/\(b0.forces[v1.toNat]?=some E1)/\(v23=E1.Mods)/\(v8=v23.mapIdx (Zg6 (fun _ m=>Z8u b0.s b0.traits (Zpg b0 v1) E1.Source v2 m) (fun _ _=>0) v25))
def Zkt:Zdb->M6
 | .L0 v1 v2 E1 v8 v23 v24 v25=>(1,(v24 - v25).toNat,1000000,0,0,0)
theorem Zjx{b0:Ze}{a1:Int}{a2:Int}(ob0:Z4 b0)(h0:b0.traits.length=b0.s.Objects.length)(h1:b0.dropped.length=b0.s.Objects.length)(h2:b0.done.length=b0.forces.length)(h3:b0.hits.length=b0.forces.length)(h4:b0.s.Objects.length<=2048)(h5:b0.forces.length<=16448)(h6:HI b0.s.Objects.length b0.hits)(h7:0<=a1)(h8:a1 < (b0.forces.length:Int))(h9:Zd4 b0.s.Objects):Tot (Zml b0 a1 a2) (Zse b0 a1 a2):=by
 apply Tot.rn (Zsz b0 a1 a2) Zkt
 .dsimp only [Zk6,LT.den];refine Tot.ix fun x1 h1=>?_;have oh1:Zbr x1:=ob0.2.1.2 x1 h1.1;have mh1:=h1.2;have q1:=oh1.2.2.1;exact tB (Tot.mk) fun x2 h2=>tL ⟨rfl,rfl,oh1,SzL.tr,oh1.2.2,cl,cl,cl,cl,cl,cl,cl,Zbq,‹_›,cl,cl,cl,cl,cl,‹_›,Zai,tk5⟩ Za5g
 rintro ⟨v1,v2,E1,v8,v23,v24,v25⟩ ⟨al0,al1,O1,ov8,ov23,cv25,i0,i1,i2,i3,i4,i5,i6,i7,i8,i9,i10,i11,i12,i13,i14,i15⟩;have lb_v8:=ov8.1;have lb_v23:=ov23.1;subst al0;subst al1;dsimp only [Zgv,Zkn,LT.den];apply tD<;>intro h1
 .refine Tot.ix fun x1 h2=>?_;have oh2:Z5 x1:=ov23.2 x1 h2.1;have mh2:=h2.2;apply tE<;>intro h3
  .refine tB (Zrs) fun x2 h4=>?_;apply tE<;>intro h5
   .refine tB (Zhy (asz:Z4 b0) cl cl cl cl cl cl Zbq cl cl Ze7) fun x3 h6=>tB (Zaqc b0.s b0.traits x3 E1.Source x1.Filter (asz:Z4 b0).1 (asz:Z4 b0).2.2.1 oh2.2) fun x4 h7=>?_;have eh7_1:=h7.2;refine Tot.ix fun x5 h8=>tB (Tot.set (by omega) (by omega)) fun x6 h9=>?_;have q1:=wr (v25+1);exact tL ⟨rfl,rfl,O1,SzL.tr,ov23,cl,cl,cl,cl,cl,cl,cl,Zbq,‹_›,cl,cl,cl,cl,cl,‹_›,Zai,tk5⟩ Za5g
   exact Zbdv
  exact Zbdv
 exact tR ⟨ov8,(by exact ml_i ‹_› (by omega)),(by exact nu_e ‹_› (by omega) ‹_› ‹_› rfl)⟩
theorem Zmd{b0:Ze}{a1:Int}{a2:Int}(ob0:Z4 b0)(h0:b0.traits.length=b0.s.Objects.length)(h1:b0.dropped.length=b0.s.Objects.length)(h2:b0.done.length=b0.forces.length)(h3:b0.hits.length=b0.forces.length)(h4:b0.s.Objects.length<=2048)(h5:b0.forces.length<=16448)(h6:HI b0.s.Objects.length b0.hits)(h7:0<=a1)(h8:a1 < (b0.forces.length:Int))(h9:Zd4 b0.s.Objects):Tot (Zpa b0 a1 a2) (fun r=>(Zyn r)/\(r=Zro b0 a1 a2)):=by
 apply tZ;dsimp only [Znn,LT.den];refine tB (Zks ob0 cl cl cl cl cl cl Zbq cl cl Ze7) fun x1 h1=>tB (Zjj ob0 cl cl cl cl cl cl Zbq cl cl Ze7) fun x2 h2=>?_;have eh2_3:=h2.2.2.2;refine tB (Zjx ob0 cl cl cl cl cl cl Zbq cl cl Ze7) fun x3 h3=>?_;have eh3_2:=h3.2.2;exact tR ⟨⟨h2.1,h3.1⟩,(by exact lk_e ‹_› ‹_› ‹_›)⟩
theorem Zuj{b0:Ze}(ob0:Z4 b0):Tot (Znp b0) (fun r=>(Z4 r)/\(r=b0)):=by
 apply tZ;dsimp only [Zl2,LT.den];have q1:=ob0.2.2.1.1;refine tB (tA (by first | omega | (simp only [List.length_nil];omega)) (by decide)) fun x1 h1=>tB (Zk9 ob0.2.2.2.1) fun x2 h2=>?_;have eh2_1:=h2.2;refine tB (Zk9 ob0.2.2.2.2.1) fun x3 h3=>?_;have eh3_1:=h3.2;have q2:=ob0.2.2.2.2.2.1;exact tB (tA (by first | omega | (simp only [List.length_nil];omega)) (by decide)) fun x4 h4=>tR ⟨⟨ob0.1,ob0.2.1,ob0.2.2.1,h2.1,h3.1,ob0.2.2.2.2.2⟩,Za5m⟩
abbrev Zuk(b0:Ze)(a1:Int)(a2:Int)(r:Ze):Prop:=(Z4 r)/\(r.traits.length=r.s.Objects.length)/\(r.dropped.length=r.s.Objects.length)/\(r.done.length=r.forces.length)/\(r.hits.length=r.forces.length)/\(r.s.Objects.length<=2048)/\(r.forces.length<=16448)/\(HI r.s.Objects.length r.hits)/\(r.s=b0.s)/\(r.forces=b0.forces)/\(r=appV b0 a1 a2)
def Zur(b0:Ze)(a1:Int)(a2:Int):Zcn->Prop
 | .L0 c0 v1 v2 v6 v7 v8 v23 v24 v25=>(v1=a1)/\(v2=a2)/\(Z4 c0)/\((SzL 8 (fun _=>True)) v6)/\((SzL 8 (fun _=>True)) v7)/\((SzL 8 (fun _=>True)) v23)/\(0<=v25)/\(c0.traits.length=c0.s.Objects.length)/\(c0.dropped.length=c0.s.Objects.length)/\(c0.done.length=c0.forces.length)/\(c0.hits.length=c0.forces.length)/\(c0.s.Objects.length<=2048)/\(c0.forces.length<=16448)/\(HI c0.s.Objects.length c0.hits)/\(c0.s=b0.s)/\(c0.forces=b0.forces)/\(0<=v1)/\(v1 < (c0.forces.length:Int))/\(v6.length<=c0.s.Objects.length)/\(INR c0.s.Objects.length v6)/\(ML c0.forces v1 v7)/\(v24=(v23.length:Int))/\(INR c0.s.Objects.length v23)/\(c0.traits=TRS b0 v1 v2 v7 v8 v23 v25)/\(c0.dropped=DRS b0 v1 v2 v23 v25)/\(c0.done=b0.done)/\(c0.hits=b0.hits)/\(v6=Zr8 b0 v1)/\(v7=Z8v b0 v1 v2)/\(v8=Zpg b0 v1)/\(v23=v6)
 | .L1 c0 v1 v2 v6 v7 v8 v10 v23 v24 v25 v36 v37 v38=>(v1=a1)/\(v2=a2)/\(Z4 c0)/\((SzL 8 (fun _=>True)) v6)/\((SzL 8 (fun _=>True)) v7)/\((SzL 8 (fun _=>True)) v23)/\((SzL 176 Z5) v36)/\(0<=v38)/\(0<=v25)/\(v25 < v24)/\(c0.traits.length=c0.s.Objects.length)/\(c0.dropped.length=c0.s.Objects.length)/\(c0.done.length=c0.forces.length)/\(c0.hits.length=c0.forces.length)/\(c0.s.Objects.length<=2048)/\(c0.forces.length<=16448)/\(HI c0.s.Objects.length c0.hits)/\(c0.s=b0.s)/\(c0.forces=b0.forces)/\(0<=v1)/\(v1 < (c0.forces.length:Int))/\(v6.length<=c0.s.Objects.length)/\(INR c0.s.Objects.length v6)/\(ML c0.forces v1 v7)/\(v24=(v23.length:Int))/\(INR c0.s.Objects.length v23)/\(0<=v10)/\(v10 < (c0.s.Objects.length:Int))/\(v37=(v36.length:Int))/\(v37=(v7.length:Int))/\(c0.traits=Zie (mfS v36 v7 v8 v2 v38) (TRS b0 v1 v2 v7 v8 v23 v25) v10)/\(c0.dropped=Zie (drS v36 v2 v38) (DRS b0 v1 v2 v23 v25) v10)/\(c0.done=b0.done)/\(c0.hits=b0.hits)/\(v6=Zr8 b0 v1)/\(v7=Z8v b0 v1 v2)/\(v8=Zpg b0 v1)/\(v23=v6)/\(v36=(fAt b0 v1).Mods)/\(v23[v25.toNat]?=some v10)/\(v38<=v37)
def Zme:Zcn->M6
 | .L0 c0 v1 v2 v6 v7 v8 v23 v24 v25=>(1,(v24 - v25).toNat,1000000,0,0,0)
 | .L1 c0 v1 v2 v6 v7 v8 v10 v23 v24 v25 v36 v37 v38=>(1,(v24 - v25).toNat,1,(v37 - v38).toNat,1000000,0)
theorem Zla{b0:Ze}{a1:Int}{a2:Int}(ob0:Z4 b0)(h0:b0.traits.length=b0.s.Objects.length)(h1:b0.dropped.length=b0.s.Objects.length)(h2:b0.done.length=b0.forces.length)(h3:b0.hits.length=b0.forces.length)(h4:b0.s.Objects.length<=2048)(h5:b0.forces.length<=16448)(h6:HI b0.s.Objects.length b0.hits)(h7:0<=a1)(h8:a1 < (b0.forces.length:Int))(h9:Zd4 b0.s.Objects):Tot (Zoc b0 a1 a2) (Zuk b0 a1 a2):=by
 apply Tot.rn (Zur b0 a1 a2) Zme
 .dsimp only [Zmm,LT.den];refine tB (Zjj ob0 cl cl cl cl cl cl Zbq cl cl Ze7) fun x1 h1=>?_;have eh1_1:=h1.2.1;have eh1_2:=h1.2.2.1;have eh1_3:=h1.2.2.2;refine tB (Zjx ob0 cl cl cl cl cl cl Zbq cl cl Ze7) fun x2 h2=>?_;have eh2_1:=h2.2.1;have eh2_2:=h2.2.2;refine tB (Zhy ob0 cl cl cl cl cl cl Zbq cl cl Ze7) fun x3 h3=>?_;have q1:=h1.1.1;exact tL ⟨rfl,rfl,ob0,h1.1,h2.1,h1.1,cl,cl,cl,cl,cl,cl,cl,Zbq,Zcm,Zcm,cl,cl,cl,Zf4,Zf4,cl,Zf4,tk43,tk44,Zai,Zai,‹_›,‹_›,‹_›,Zai⟩ Zaey
 intro s hs;cases s with
 | L0 c0 v1 v2 v6 v7 v8 v23 v24 v25=>
  obtain⟨al0,al1,oc0,ov6,ov7,ov23,cv25,i0,i1,i2,i3,i4,i5,i6,i7,i8,i9,i10,i11,i12,i13,i14,i15,i16,i17,i18,i19,i20,i21,i22,i23⟩:=hs;have lb_v7:=ov7.1;have lb_v23:=ov23.1;subst al0;subst al1;dsimp only [Zfd,Zl4,LT.den];apply tD<;>intro h1
  .refine Tot.ix fun x1 h2=>?_;have mh2:=h2.2;have zh2:=Zani (by assumption:INR _ v23) mh2;have mh2:=h2.2;refine Tot.ix fun x2 h3=>?_;have oh3:Zbr x2:=oc0.2.1.2 x2 h3.1;have mh3:=h3.2;have q1:=oh3.2.2.1;exact tL ⟨rfl,rfl,oc0,ov6,ov7,ov23,oh3.2.2,cl,cl,cl,cl,cl,cl,cl,cl,cl,Zbq,Zcm,Zcm,cl,cl,cl,Zf4,Zf4,cl,Zf4,cl,cl,cl,tk85,tk12,tk7,Zai,Zai,‹_›,‹_›,‹_›,Zai,tk95,‹_›,(by omega)⟩ Zaey
  refine Tot.ix fun x1 h2=>tB (Tot.set (by omega) (by omega)) fun x2 h3=>Tot.ix fun x3 h4=>?_;have mh4:=h4.2;exact tB (Tot.set (by omega) (by omega)) fun x4 h5=>tR ⟨⟨oc0.1,oc0.2.1,oc0.2.2.1,oc0.2.2.2.1,SzL.tr,⟨lo,fun e he=>(h5.2.1 e he).elim (fun w=>by rw [w];exact ov6) (oc0.2.2.2.2.2.2 e)⟩⟩,cl,cl,cl,cl,cl,cl,(by first | assumption | exact Za8s | exact Zbc4 (by assumption:(_:Int)=_/\∀ y:List Int,y∈_->y=[]).2 | exact Zbhf ‹_› ‹_› ‹_› (by assumption:_/\(∀ e:List Int,e∈_->e=_\/e∈_)/\_).2.1),Zcm,Zcm,(by exact Zbh2 ‹_› ‹_› ‹_› ‹_› ‹_› ‹_› ‹_› ‹_› ‹_› ‹_› ‹_› ‹_› (by omega))⟩
 | L1 c0 v1 v2 v6 v7 v8 v10 v23 v24 v25 v36 v37 v38=>
  obtain⟨al0,al1,oc0,ov6,ov7,ov23,ov36,cv38,cv25,bd9,i0,i1,i2,i3,i4,i5,i6,i7,i8,i9,i10,i11,i12,i13,i14,i15,i16,i17,i18,i19,i20,i21,i22,i23,i24,i25,i26,i27,i28,i29,i30⟩:=hs;have lb_v7:=ov7.1;have lb_v23:=ov23.1;have lb_v36:=ov36.1;subst al0;subst al1;dsimp only [Zfd,Zl5,LT.den];apply tD<;>intro h1
  .refine Tot.ix fun x1 h2=>?_;have oh2:Z5 x1:=ov36.2 x1 h2.1;have mh2:=h2.2;refine tB (Zrs) fun x2 h3=>?_;apply tN<;>intro h4
   .have q1:=wr (v38+1);exact tL ⟨rfl,rfl,oc0,ov6,ov7,ov23,ov36,cl,cl,cl,cl,cl,cl,cl,cl,cl,Zbq,Zcm,Zcm,cl,cl,cl,Zf4,Zf4,cl,Zf4,cl,cl,cl,tk85,tk12,tk7,Zai,Zai,‹_›,‹_›,‹_›,Zai,tk95,‹_›,(by omega)⟩ Zaey
   refine Tot.ix fun x3 h5=>?_;have oh5:Zu x3:=oc0.2.2.1.2 x3 h5.1;have mh5:=h5.2;refine Tot.ix fun x4 h6=>?_;have mh6:=h6.2;refine tB (Zatz oh5 oh2) fun x5 h7=>?_;have eh7_1:=h7.2;refine tB (Tot.set (by omega) (by omega)) fun x6 h8=>?_;apply tE<;>intro h9
   .refine Tot.ix fun x7 h10=>?_;have mh10:=h10.2;refine tB (Tot.set (by omega) (by omega)) fun x8 h11=>?_;have q1:=wr (v38+1);exact tL ⟨rfl,rfl,⟨oc0.1,oc0.2.1,⟨lo,fun e he=>(h8.2.1 e he).elim (fun w=>by rw [w];exact h7.1) (oc0.2.2.1.2 e)⟩,SzL.tr,oc0.2.2.2.2.1,oc0.2.2.2.2.2⟩,ov6,ov7,ov23,ov36,cl,cl,cl,cl,cl,cl,cl,cl,cl,Zbq,Zcm,Zcm,cl,cl,cl,Zf4,Zf4,cl,Zf4,cl,cl,cl,tk85,tk12,tk7,Zai,Zai,‹_›,‹_›,‹_›,Zai,tk95,‹_›,(by omega)⟩ Zaey
   have q1:=wr (v38+1);exact tL ⟨rfl,rfl,⟨oc0.1,oc0.2.1,⟨lo,fun e he=>(h8.2.1 e he).elim (fun w=>by rw [w];exact h7.1) (oc0.2.2.1.2 e)⟩,oc0.2.2.2.1,oc0.2.2.2.2.1,oc0.2.2.2.2.2⟩,ov6,ov7,ov23,ov36,cl,cl,cl,cl,cl,cl,cl,cl,cl,Zbq,Zcm,Zcm,cl,cl,cl,Zf4,Zf4,cl,Zf4,cl,cl,cl,tk85,tk12,tk7,Zai,Zai,‹_›,‹_›,‹_›,Zai,tk95,‹_›,(by omega)⟩ Zaey
  have q1:=wr (v25+1);exact tL ⟨rfl,rfl,oc0,ov6,ov7,ov23,cl,cl,cl,cl,cl,cl,cl,Zbq,Zcm,Zcm,cl,cl,cl,Zf4,Zf4,cl,Zf4,tk43,tk44,Zai,Zai,‹_›,‹_›,‹_›,Zai⟩ Zaey
def Zp9(b0:Ze)(a1:List Int)(a2:Int):Za6->Prop
 | .L0 v2 v7 v27 v28=>(v2=a2)/\((SzL 24 (SzL 1 (fun _=>True))) v7)/\(0<=v28)/\(Zd4 b0.s.Objects)/\(b0.traits.length=b0.s.Objects.length)/\(b0.dropped.length=b0.s.Objects.length)/\(b0.done.length=b0.forces.length)/\(b0.hits.length=b0.forces.length)/\(b0.s.Objects.length<=2048)/\(b0.forces.length<=16448)/\(HI b0.s.Objects.length b0.hits)/\(Z4 b0)/\(v27=(v7.length:Int))/\(RWV b0.forces.length v7 v28)/\(INR b0.forces.length a1)/\(a1.length<=16448)/\(v7.length=b0.forces.length)/\(FLS v7)
 | .L1 v2 v7 v9 v43 v44=>(v2=a2)/\((SzL 24 (SzL 1 (fun _=>True))) v7)/\(0<=v44)/\(Zd4 b0.s.Objects)/\(b0.traits.length=b0.s.Objects.length)/\(b0.dropped.length=b0.s.Objects.length)/\(b0.done.length=b0.forces.length)/\(b0.hits.length=b0.forces.length)/\(b0.s.Objects.length<=2048)/\(b0.forces.length<=16448)/\(HI b0.s.Objects.length b0.hits)/\(Z4 b0)/\(v7.length=b0.forces.length)/\(MSZ v9)/\(RWS b0.forces.length v7)/\(v43=(a1.length:Int))/\(INR b0.forces.length a1)/\(FLS v7)/\(MPV b0 v2 a1 v44 v9)/\(POS a1)
 | .L2 v2 v7 v9 v69 v70=>(v2=a2)/\((SzL 24 (SzL 1 (fun _=>True))) v7)/\(0<=v70)/\(Zd4 b0.s.Objects)/\(b0.traits.length=b0.s.Objects.length)/\(b0.dropped.length=b0.s.Objects.length)/\(b0.done.length=b0.forces.length)/\(b0.hits.length=b0.forces.length)/\(b0.s.Objects.length<=2048)/\(b0.forces.length<=16448)/\(HI b0.s.Objects.length b0.hits)/\(Z4 b0)/\(v7.length=b0.forces.length)/\(MSZ v9)/\(RWS b0.forces.length v7)/\(v69=(a1.length:Int))/\(INR b0.forces.length a1)/\(MPE b0 v2 a1 v9)/\(POS a1)/\(ND2 b0 v2 a1 v70 0 v7)
 | .L3 v2 v7 v9 v14 E1 v69 v70 v81 v82=>(v2=a2)/\((SzL 24 (SzL 1 (fun _=>True))) v7)/\(Z4 E1)/\(0<=v82)/\(0<=v70)/\(v70 < v69)/\(Zd4 b0.s.Objects)/\(b0.traits.length=b0.s.Objects.length)/\(b0.dropped.length=b0.s.Objects.length)/\(b0.done.length=b0.forces.length)/\(b0.hits.length=b0.forces.length)/\(b0.s.Objects.length<=2048)/\(b0.forces.length<=16448)/\(HI b0.s.Objects.length b0.hits)/\(Z4 b0)/\(v7.length=b0.forces.length)/\(MSZ v9)/\(RWS b0.forces.length v7)/\(v69=(a1.length:Int))/\(v81=(a1.length:Int))/\(INR b0.forces.length a1)/\(0<=v14)/\(v14 < (b0.forces.length:Int))/\(E1.forces.length=b0.forces.length)/\(E1.traits.length=E1.s.Objects.length)/\(E1.dropped.length=E1.s.Objects.length)/\(E1.done.length=E1.forces.length)/\(E1.hits.length=E1.forces.length)/\(E1.s.Objects.length<=2048)/\(E1.forces.length<=16448)/\(HI E1.s.Objects.length E1.hits)/\(MPE b0 v2 a1 v9)/\(POS a1)/\(E1=appV b0 v14 v2)/\(a1[v70.toNat]?=some v14)/\(Zd4 E1.s.Objects)/\(ND2 b0 v2 a1 v70 v82 v7)
def Zio:Za6->M6
 | .L0 v2 v7 v27 v28=>(5,(v27 - v28).toNat,1000000,0,0,0)
 | .L1 v2 v7 v9 v43 v44=>(3,(v43 - v44).toNat,1000000,0,0,0)
 | .L2 v2 v7 v9 v69 v70=>(1,(v69 - v70).toNat,1000000,0,0,0)
 | .L3 v2 v7 v9 v14 E1 v69 v70 v81 v82=>(1,(v69 - v70).toNat,1,(v81 - v82).toNat,1000000,0)
theorem Zqa{b0:Ze}{a1:List Int}{a2:Int}(ob0:Z4 b0)(oa1:(SzL 8 (fun _=>True)) a1)(h0:b0.traits.length=b0.s.Objects.length)(h1:b0.dropped.length=b0.s.Objects.length)(h2:b0.done.length=b0.forces.length)(h3:b0.hits.length=b0.forces.length)(h4:b0.s.Objects.length<=2048)(h5:b0.forces.length<=16448)(h6:HI b0.s.Objects.length b0.hits)(h7:a1.length<=16448)(h8:INR b0.forces.length a1)(h9:Zd4 b0.s.Objects):Tot (Zjv b0 a1 a2) (fun r=>((SzL 24 (SzL 1 (fun _=>True))) r)/\(NDM b0 a2 a1 r)):=by
 apply Tot.rn (Zp9 b0 a1 a2) Zio
 .dsimp only [Zi7,LT.den];exact tB (Tot.mk) fun x1 h1=>tL ⟨rfl,⟨lo,fun e he=>by rw [h1.2 e he];exact SzL.nil⟩,cl,Ze7,cl,cl,cl,cl,cl,cl,Zbq,‹_›,cl,tk54,‹_›,cl,cl,tk63⟩ tk94
 intro s hs;cases s with
 | L0 v2 v7 v27 v28=>
  obtain⟨al0,ov7,cv28,i0,i1,i2,i3,i4,i5,i6,i7,i8,i9,i10,i11,i12,i13,i14⟩:=hs;subst al0;dsimp only [Zbo,Zik,LT.den];apply tD<;>intro h1
  .refine tB (Tot.mk) fun x1 h2=>Tot.ix fun x2 h3=>tB (Tot.set (by omega) (by omega)) fun x3 h4=>?_;have q1:=wr (v28+1);exact tL ⟨rfl,⟨lo,fun e he=>(h4.2.1 e he).elim (fun w=>by rw [w];exact SzL.tr) (ov7.2 e)⟩,cl,Ze7,cl,cl,cl,cl,cl,cl,Zbq,‹_›,cl,tk54,‹_›,cl,cl,tk63⟩ tk94
  exact Zbdy
 | L1 v2 v7 v9 v43 v44=>
  obtain⟨al0,ov7,cv44,i0,i1,i2,i3,i4,i5,i6,i7,i8,i9,i10,i11,i12,i13,i14,i15,i16⟩:=hs;subst al0;dsimp only [Zbo,Zil,LT.den];apply tD<;>intro h1
  .refine Tot.ix fun x1 h2=>?_;have mh2:=h2.2;have zh2:=Zani (by assumption:INR b0.forces.length a1) mh2;have yh2:=h2.1;have mh2:=h2.2;refine tB (Zsy (asz:Z4 b0) cl cl cl cl cl cl Zbq cl cl) fun x2 h3=>?_;apply tF<;>intro h4
   .refine tB (Zmd (asz:Z4 b0) cl cl cl cl cl cl Zbq cl cl Ze7) fun x3 h5=>?_;have eh5_1:=h5.2;have sh5:SZV x3:=h5.1;refine tB (Tot.lk) fun x4 h6=>?_;exact Zbdz
   exact Zbdz
  apply tE<;>intro h2
  .exact tl97
  apply tD<;>intro h3
  .exact tl97
  exact Zbdw
 | L2 v2 v7 v9 v69 v70=>
  obtain⟨al0,ov7,cv70,i0,i1,i2,i3,i4,i5,i6,i7,i8,i9,i10,i11,i12,i13,i14,i15,i16⟩:=hs;subst al0;dsimp only [Zbo,Zim,LT.den];apply tD<;>intro h1
  .refine Tot.ix fun x1 h2=>?_;have mh2:=h2.2;have zh2:=Zani (by assumption:INR b0.forces.length a1) mh2;have yh2:=h2.1;have mh2:=h2.2;refine tB (Zuj (asz:Z4 b0)) fun x2 h3=>?_;have eh3_1:=h3.2;have uh3_0:x2.traits.length=x2.s.Objects.length:=by rw [eh3_1];assumption
   have uh3_1:x2.dropped.length=x2.s.Objects.length:=by rw [eh3_1];assumption
   have uh3_2:x2.done.length=x2.forces.length:=by rw [eh3_1];assumption
   have uh3_3:x2.hits.length=x2.forces.length:=by rw [eh3_1];assumption
   have uh3_4:x2.s.Objects.length<=2048:=by rw [eh3_1];assumption
   have uh3_5:x2.forces.length<=16448:=by rw [eh3_1];assumption
   have uh3_6:HI x2.s.Objects.length x2.hits:=by rw [eh3_1];assumption
   have uh5_f:x2.forces.length=b0.forces.length:=by rw [eh3_1]
   have uh5_o:Zd4 x2.s.Objects:=by rw [eh3_1];assumption
   refine tB (Zla h3.1 cl cl cl cl cl cl Zbq cl cl Ze7) fun x3 h4=>?_;have eh4_1:=h4.2.1;have eh4_2:=h4.2.2.1;have eh4_3:=h4.2.2.2.1;have eh4_4:=h4.2.2.2.2.1;have eh4_5:=h4.2.2.2.2.2.1;have eh4_6:=h4.2.2.2.2.2.2.1;have eh4_7:=h4.2.2.2.2.2.2.2.1;have eh4_8:=h4.2.2.2.2.2.2.2.2.1;have eh4_10:=h4.2.2.2.2.2.2.2.2.2.2;exact tL ⟨rfl,ov7,h4.1,cl,cl,cl,Ze7,cl,cl,cl,cl,cl,cl,Zbq,‹_›,cl,tk66,Z80,cl,cl,‹_›,cl,cl,Zjm,cl,cl,cl,cl,cl,cl,Zbq,‹_›,Zae0,tk92,‹_›,Ze7,tk1⟩ tk94
  exact tl97
 | L3 v2 v7 v9 v14 E1 v69 v70 v81 v82=>
  obtain⟨al0,ov7,O1,cv82,cv70,bd5,i0,i1,i2,i3,i4,i5,i6,i7,i8,i9,i10,i11,i12,i13,i14,i15,i16,i17,i18,i19,i20,i21,i22,i23,i24,i25,i26,i27,i28,i29,i30⟩:=hs;subst al0;dsimp only [Zbo,Zin,LT.den];apply tD<;>intro h1
  .refine Tot.ix fun x1 h2=>?_;have mh2:=h2.2;have zh2:=Zani (by assumption:INR b0.forces.length a1) mh2;have yh2:=h2.1;have mh2:=h2.2;refine tB (Tot.lk) fun x2 h3=>?_;apply tF<;>intro h4
   .apply tN<;>intro h5
    .refine Tot.ix fun x3 h6=>?_;have oh6:(SzL 1 (fun _=>True)) x3:=ov7.2 x3 h6.1;have mh6:=h6.2;(first | have wh6:=Z1r (by assumption:RWS _ v7) mh6 | skip);have mh6:=h6.2;refine tB (Zmd O1 cl cl cl cl cl cl Zbq cl cl Ze7) fun x4 h7=>?_;have eh7_1:=h7.2;refine tB (Zy9 szx h7.1) fun x5 h8=>Tot.ix fun x6 h9=>?_;have mh9:=h9.2;refine tB (Tot.setM) fun x7 h10=>?_;have lh10:x7.length=v7.length:=by rw [h10,List.length_set]
     have q1:=wr (v82+1);exact tL ⟨rfl,SzL.setM h10 ov7 oh6,O1,cl,cl,cl,Ze7,cl,cl,cl,cl,cl,cl,Zbq,‹_›,cl,tk66,Z80,cl,cl,‹_›,cl,cl,Zjm,cl,cl,cl,cl,cl,cl,Zbq,‹_›,Zae0,tk92,‹_›,Ze7,tk1⟩ tk94
    exact Zbd2
   exact Zbd2
  have q1:=wr (v70+1);exact Zbdw
theorem Zku{a0:Int}{a1:Int}:Tot (Znq a0 a1) (fun r=>(r = !neI a1 a0)):=by
 apply tZ;dsimp only [Zl6,LT.den];exact tR (by simp [neI])
def Zha(a0:List Int)(a1:Int):Zay->Prop
 | .L0 v0 w1_0 v7 v8=>(v0=a0)/\(w1_0=a1)/\((SzL 8 (fun _=>True)) v0)/\(0<=v8)/\(v7=(v0.length:Int))/\(∀ (k:Nat) x,(k:Int) < v8->v0[k]?=some x->neI w1_0 x=true)
def Zdp:Zay->M6
 | .L0 v0 w1_0 v7 v8=>(1,(v7 - v8).toNat,1000000,0,0,0)
theorem Zhb{a0:List Int}{a1:Int}(oa0:(SzL 8 (fun _=>True)) a0):Tot (Zd3 a0 a1) (fun r=>(FD a0 (neI a1) r)):=by
 apply Tot.rn (Zha a0 a1) Zdp
 .dsimp only [Zdt,LT.den];exact tL ⟨rfl,rfl,oa0,cl,cl,tk52⟩ tk78
 rintro ⟨v0,w1_0,v7,v8⟩ ⟨al0,al1,ov0,cv8,i0,i1⟩;have lb_v0:=ov0.1;subst al0;subst al1;dsimp only [Zbw,Zdn,LT.den];apply tD<;>intro h1
 .refine Tot.ix fun x1 h2=>?_;have mh2:=h2.2;refine tB (Zku) fun x2 h3=>?_;apply tF<;>intro h4
  .exact tl79
  have q1:=wr (v8+1);exact tL ⟨rfl,rfl,ov0,cl,cl,tk52⟩ tk78
 exact tl79
def Zf7(b0:List Int)(a1:Int):Zaq->Prop
 | .L0 v0 w1_0 v5 v6=>(w1_0=a1)/\((SzL 8 (fun _=>True)) v0)/\(0<=v6)/\(DI b0 v0 (neI w1_0) v5 v6)/\(v6<=(v0.length:Int))
def Zcv:Zaq->M6
 | .L0 v0 w1_0 v5 v6=>(1,((v0.length:Int) - v6).toNat,1000000,0,0,0)
theorem Zf8{b0:List Int}{a1:Int}(ob0:(SzL 8 (fun _=>True)) b0):Tot (Zdc b0 a1) (fun r=>((SzL 8 (fun _=>True)) r)/\(r=b0.filter (neI a1))):=by
 apply Tot.rn (Zf7 b0 a1) Zcv
 .have lb_b0:=ob0.1;dsimp only [Zc5,LT.den];refine tB (Zhb ob0) fun x1 h1=>?_;have eh1_0:=h1;have ph1:=Zbgz eh1_0;apply tE<;>intro h2
  .exact tR ⟨ob0,tk36⟩
  have q1:=wr (x1+1);exact tL ⟨rfl,ob0,cl,tk16,cl⟩ tk72
 rintro ⟨v0,w1_0,v5,v6⟩ ⟨al0,ov0,cv6,i0,i1⟩;have lb_v0:=ov0.1;subst al0;dsimp only [Zbk,Zcu,LT.den];have l0:=i0.1;have l1:=i0.2.1;have l2:=i0.2.2.1;apply tD<;>intro h1
 .refine Tot.ix fun x1 h2=>?_;have mh2:=h2.2;refine tB (Zku) fun x2 h3=>?_;apply tO<;>intro h4
  .refine Tot.ix fun x3 h5=>tB (Tot.set (by omega) (by omega)) fun x4 h6=>?_;have q1:=wr (v5+1);have q2:=wr (v6+1);exact tL ⟨rfl,SzL.tr,cl,tk16,cl⟩ tk72
  have q1:=wr (v6+1);exact tL ⟨rfl,ov0,cl,tk16,cl⟩ tk72
 refine tB (Tot.clr (by omega) (by omega)) fun x1 h2=>?_;have vh2:=h2.2.2;refine tB (Tot.slice (by omega) (by omega) (by omega)) fun x2 h3=>?_;have vh3:=h3.2.2;exact tR ⟨SzL.tr,tk36⟩
end Go.PW
