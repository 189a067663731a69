import Derived.Test.YtncgejlelfefdaaGreatQXb
set_option linter.all false
set_option maxRecDepth 100000
namespace Go.PW
abbrev Zaw2(a0:Zk)(a1:Int)(r:Zk×(List Int)):Prop:=(Zab r.1)/\((SzL 8 (fun _=>True)) r.2)/\(r.1.S.Objects.length=a0.S.Objects.length)/\(r.1.L.length=a0.L.length)/\(r.1.All.length=r.1.S.Objects.length)/\(r.1.Blank.length=r.1.S.Objects.length)/\(r.1.Begun.length=r.1.L.length)/\(r.1.Sets.length=r.1.L.length)/\(Zbc r.1.All)
def Zazw(a0:Zk)(a1:Int):Zkz->Prop
 | .L0 v1 E0 E1 v6 v7=>(v1=a1)/\(Zab E0)/\(Zab E1)/\((SzL 8 (fun _=>True)) v6)/\(0<=v7)/\(E0.S.Objects.length=a0.S.Objects.length)/\(E0.L.length=a0.L.length)/\(E0.All.length=E0.S.Objects.length)/\(E0.Blank.length=E0.S.Objects.length)/\(E0.Begun.length=E0.L.length)/\(E0.Sets.length=E0.L.length)/\(a0.S.Objects.length<=60)/\(a0.L.length<=10000)/\(v6.Nodup)/\(∀ x,x∈v6->0<=x/\x < v7)/\(v6.length<=v7.toNat)/\(v7.toNat<=E0.L.length)/\(Zbc E0.All)
 | .L1 v1 E0 E1 v6 v8 v9 v10=>(v1=a1)/\(Zab E0)/\(Zab E1)/\((SzL 8 (fun _=>True)) v6)/\((SzL 8 (fun _=>True)) v8)/\(0<=v10)/\(E0.S.Objects.length=a0.S.Objects.length)/\(E0.L.length=a0.L.length)/\(E0.All.length=E0.S.Objects.length)/\(E0.Blank.length=E0.S.Objects.length)/\(E0.Begun.length=E0.L.length)/\(E0.Sets.length=E0.L.length)/\(a0.S.Objects.length<=60)/\(a0.L.length<=10000)/\(v6.Nodup)/\(∀ x,x∈v6->0<=x/\x < (E0.L.length:Int))/\((v6.length:Int)=v9 - v10)/\(v10<=v9)/\(v9<=10000)/\(v8.length<=v10.toNat)/\(Zbc E0.All)
def Zaee:Zkz->M6
 | .L0 v1 E0 E1 v6 v7=>(3,((E0.L.length:Int) - v7).toNat,1000000,0,0,0)
 | .L1 v1 E0 E1 v6 v8 v9 v10=>(1,(v9 - v10).toNat,1000000,0,0,0)
theorem Zazx{a0:Zk}{a1:Int}(oa0:Zab a0)(h0:a0.All.length=a0.S.Objects.length)(h1:a0.Blank.length=a0.S.Objects.length)(h2:a0.Begun.length=a0.L.length)(h3:a0.Sets.length=a0.L.length)(h4:a0.S.Objects.length<=60)(h5:a0.L.length<=10000)(h6:Zbc a0.All):Tot (Zavb a0 a1) (Zaw2 a0 a1):=by
 apply Tot.rn (Zazw a0 a1) Zaee
 .dsimp only [Zah3,LT.den];apply tE<;>intro h1
  .refine tB (Zawt oa0 cl cl cl cl cl cl Zec) fun x1 h2=>?_;have eh2_1:=h2.2.1;have eh2_2:=h2.2.2.1;have eh2_3:=h2.2.2.2.1;have eh2_4:=h2.2.2.2.2.1;have eh2_5:=h2.2.2.2.2.2.1;have eh2_6:=h2.2.2.2.2.2.2.1;have eh2_7:=h2.2.2.2.2.2.2.2;exact tL ⟨rfl,h2.1,⟨⟨SzL.nil,SzL.nil,SzL.nil,SzL.nil,SzL.nil,SzL.nil,SzL.nil,SzL.nil⟩,SzL.nil,SzL.nil,SzL.nil,SzL.nil,SzL.nil⟩,SzL.nil,cl,cl,cl,cl,cl,cl,cl,cl,cl,tk26,tk78,cl,cl,Zec⟩ Zak0
  exact tL ⟨rfl,oa0,⟨⟨SzL.nil,SzL.nil,SzL.nil,SzL.nil,SzL.nil,SzL.nil,SzL.nil,SzL.nil⟩,SzL.nil,SzL.nil,SzL.nil,SzL.nil,SzL.nil⟩,SzL.nil,cl,cl,cl,cl,cl,cl,cl,cl,cl,tk26,tk78,cl,cl,Zec⟩ Zak0
 intro s hs;cases s with
 | L0 v1 E0 E1 v6 v7=>
  obtain⟨al0,O0,O1,ov6,cv7,i0,i1,i2,i3,i4,i5,i6,i7,i8,i9,i10,i11,i12⟩:=hs;have lb_v6:=ov6.1;subst al0;dsimp only [Zt1,Zado,LT.den];apply tD<;>intro h1
  .refine Tot.ix fun x1 h2=>?_;have oh2:Zau x1:=O0.2.2.1.2 x1 h2.1;refine tB (Zawv oh2) fun x2 h3=>?_;apply tF<;>intro h4
   .refine Tot.ap fun x3 h5=>?_;have lh5:=Zaz h5;have q1:=wr (v7+1);exact tL ⟨rfl,O0,O1,SzL.tr,cl,cl,cl,cl,cl,cl,cl,cl,cl,tk26,tk78,cl,cl,Zec⟩ Zak0
   have q1:=wr (v7+1);exact tL ⟨rfl,O0,O1,ov6,cl,cl,cl,cl,cl,cl,cl,cl,cl,tk26,tk78,cl,cl,Zec⟩ Zak0
  exact tL ⟨rfl,O0,O1,ov6,SzL.nil,cl,cl,cl,cl,cl,cl,cl,cl,cl,tk26,(by intro x hx;have:=i9 x;grind),cl,cl,cl,cl,Zec⟩ Zak0
 | L1 v1 E0 E1 v6 v8 v9 v10=>
  obtain⟨al0,O0,O1,ov6,ov8,cv10,i0,i1,i2,i3,i4,i5,i6,i7,i8,i9,i10,i11,i12,i13,i14⟩:=hs;have lb_v6:=ov6.1;have lb_v8:=ov8.1;subst al0;dsimp only [Zt1,Zadp,LT.den];apply tD<;>intro h1
  .refine tB (Zbaj O0 ov6 cl cl cl cl cl cl Zaj cl Zec) fun x1 h2=>?_;have eh2_0:=h2;have dh2:x1∈v6:=(List.exists_mem_of_length_pos (l:=v6) (by omega)).elim fun y hy=>eh2_0 y hy;have gh2:=i9 _ dh2;refine Tot.ap fun x2 h3=>?_;have lh3:=Zaz h3;refine tB (Z5p O0 cl cl cl cl cl cl cl cl Zec) fun x3 h4=>?_;have eh4_3:=h4.2.2.2.1;have eh4_4:=h4.2.2.2.2.1;have eh4_5:=h4.2.2.2.2.2.1;have eh4_6:=h4.2.2.2.2.2.2.1;have eh4_7:=h4.2.2.2.2.2.2.2;refine tB (Zaw1 ov6) fun x4 h5=>?_;have eh5_1:=h5.2;have wh5:x4.length+1=v6.length:=by rw [eh5_1];exact Zba4 ‹_› ‹_›
   have q1:=wr (v10+1);exact tL ⟨rfl,h4.1,O1,h5.1,SzL.tr,cl,cl,cl,cl,cl,cl,cl,cl,cl,tk26,(by intro x hx;have:=i9 x;grind),cl,cl,cl,cl,Zec⟩ Zak0
  exact tR ⟨O0,ov8,cl,cl,cl,cl,cl,cl,Zec⟩
abbrev Zbak(a0:List Zg)(a1:Za)(r:List Zb):Prop:=((SzL 176 Zw) r)/\(r.length=a1.Objects.length)/\(Zbc r)
def Zbb7(a0:List Zg)(a1:Za):Zx5->Prop
 | .L0 E0 v6=>(Zab E0)/\(0<=v6)/\(E0.All.length=E0.S.Objects.length)/\(E0.Blank.length=E0.S.Objects.length)/\(E0.Begun.length=E0.L.length)/\(E0.Sets.length=E0.L.length)/\(E0.S.Objects.length<=60)/\(E0.L.length<=10000)/\(E0.S.Objects.length=a1.Objects.length)/\(Zbc E0.All)
def Zab5:Zx5->M6
 | .L0 E0 v6=>(1,(8+1 - v6).toNat,1000000,0,0,0)
theorem Zq1{a0:List Zg}{a1:Za}(oa0:(SzL 176 Z1) a0)(oa1:Zl a1)(h0:∀ c,c∈a0->c.Abilities.length<=8)(h1:a1.Objects.length<=60)(h2:a1.Conts.length<=8)(h3:Zdq a0):Tot (Zbc6 a0 a1) (Zbak a0 a1):=by
 apply Tot.rn (Zbb7 a0 a1) Zab5
 .dsimp only [Za10,LT.den];refine tB (Za3r oa0 oa1 Zaj cl cl ‹_›) fun x1 h1=>?_;have eh1_1:=h1.2.1;have eh1_2:=h1.2.2.1;have eh1_3:=h1.2.2.2.1;have eh1_4:=h1.2.2.2.2.1;have eh1_5:=h1.2.2.2.2.2.1;have eh1_6:=h1.2.2.2.2.2.2.1;have eh1_7:=h1.2.2.2.2.2.2.2;exact tL ⟨h1.1,cl,cl,cl,cl,cl,cl,cl,cl,Zec⟩ (by unfold Zab5 lt6;dsimp only;omega)
 rintro ⟨E0,v6⟩ ⟨O0,cv6,i0,i1,i2,i3,i4,i5,i6,i7⟩;dsimp only [Zah4,Zavc,LT.den];apply tD<;>intro h1
 .refine tB (Zazx O0 cl cl cl cl cl cl Zec) fun x1 h2=>?_;have eh2_4:=h2.2.2.2.2.1;have eh2_5:=h2.2.2.2.2.2.1;have eh2_6:=h2.2.2.2.2.2.2.1;have eh2_7:=h2.2.2.2.2.2.2.2.1;have eh2_8:=h2.2.2.2.2.2.2.2.2;have q1:=wr (v6+1);exact tL ⟨h2.1,cl,cl,cl,cl,cl,cl,cl,cl,Zec⟩ (by unfold Zab5 lt6;dsimp only;omega)
 exact tR ⟨O0.2.1,cl,‹_›⟩
theorem Zazy{a0:Za}{a1:Int}(oa0:Zl a0):Tot (Zavd a0 a1) (fun r=>(r=Znh a0.Players a1)):=by
 apply tZ;dsimp only [Zah5,LT.den];exact Zbot
theorem Zpo{a0:Int}:Tot (Zave a0) (fun r=>(r=amB a0)):=by
 apply tZ;dsimp only [Zah7,LT.den];exact tl62
theorem Zbg2{a0:Za}{a1:Int}{a2:Int}(oa0:Zl a0):Tot (Zbi4 a0 a1 a2) (fun r=>(a2=0->r=heB a0 a1)):=by
 apply tZ;dsimp only [Za8s,LT.den];refine tB (Zk6 oa0) fun x1 h1=>?_;exact tl60
def Ziw(a0:List Zg)(a1:Za)(a2:Ze):Zov->Prop
 | .L0 v0 E0 E1 E2 v8 v9=>(v0=a0)/\(E0=a1)/\(E1=a2)/\((SzL 176 Z1) v0)/\(Zl E0)/\(v8=(fdV E0.Objects E1.Object).2)/\(v9=heB E0 E1.Object)/\(E2=(fdV E0.Objects E1.Object).1)
 | .L1 v0 E0 E1 E2 v8 v9 v10 v29 v86=>(v0=a0)/\(E0=a1)/\(E1=a2)/\((SzL 176 Z1) v0)/\(Zl E0)/\(v8=(fdV E0.Objects E1.Object).2)/\(v9=heB E0 E1.Object)/\(E2=(fdV E0.Objects E1.Object).1)/\(v10=Znh E0.Players E1.Player)/\(v29=E1.Kind)/\(v86=true↔(E1.Kind=3\/E1.Kind=14\/E1.Kind=15\/E1.Kind=17))/\(¬ (E1.Kind=1\/E1.Kind=2))
 | .L2 v0 E0 E1 E2 v8 v9 v10 v29 v92=>(v0=a0)/\(E0=a1)/\(E1=a2)/\((SzL 176 Z1) v0)/\(Zl E0)/\(v8=(fdV E0.Objects E1.Object).2)/\(v9=heB E0 E1.Object)/\(E2=(fdV E0.Objects E1.Object).1)/\(v10=Znh E0.Players E1.Player)/\(v29=E1.Kind)/\(v92=true↔(E1.Kind=4\/E1.Kind=5\/E1.Kind=16))/\(¬ (E1.Kind=1\/E1.Kind=2\/E1.Kind=3\/E1.Kind=14\/E1.Kind=15\/E1.Kind=17))
 | .L3 v0 E0 E1 E2 v8 v9 v10 v29 v117=>(v0=a0)/\(E0=a1)/\(E1=a2)/\((SzL 176 Z1) v0)/\(Zl E0)/\(v8=(fdV E0.Objects E1.Object).2)/\(v9=heB E0 E1.Object)/\(E2=(fdV E0.Objects E1.Object).1)/\(v10=Znh E0.Players E1.Player)/\(v29=E1.Kind)/\(v117=true↔(E1.Kind=8\/E1.Kind=9))/\(¬ (E1.Kind=1\/E1.Kind=2\/E1.Kind=3\/E1.Kind=14\/E1.Kind=15\/E1.Kind=17\/E1.Kind=4\/E1.Kind=5\/E1.Kind=16\/E1.Kind=6\/E1.Kind=7))
def Zyf:Zov->M6
 | .L0 v0 E0 E1 E2 v8 v9=>(0,0,0,0,0,0)
 | .L1 v0 E0 E1 E2 v8 v9 v10 v29 v86=>(0,0,0,0,0,0)
 | .L2 v0 E0 E1 E2 v8 v9 v10 v29 v92=>(0,0,0,0,0,0)
 | .L3 v0 E0 E1 E2 v8 v9 v10 v29 v117=>(0,0,0,0,0,0)
theorem Zaef{a0:List Zg}{a1:Za}{a2:Ze}{v0:List Zg}{E0:Za}{E1:Ze}{E2:Zc}{v8:Bool}{v9:Bool}{v10:Bool}{v29:Int}{v117:Bool}(h:(Ziw a0 a1 a2) (.L3 v0 E0 E1 E2 v8 v9 v10 v29 v117)):Tot (Zx6 v0 E0 E1 E2 v8 v9 v10 v29 v117).den (Nx (Ziw a0 a1 a2) Zyf (0,0,0,0,0,0) (fun r=>(r=evB a0 a1 a2))):=by
 obtain⟨al0,al1,al2,ov0,O0,i0,i1,i2,i3,i4,i5,i6⟩:=h;subst al0;subst al1;subst al2;dsimp only [Zx6,LT.den];apply tF<;>intro h1
 .apply tF<;>intro h2
  .apply tD<;>intro h3
   .apply tD<;>intro h4
    .exact tB (Zpo) fun x1 h5=>tR tk68
    exact Zf3
   exact Zf3
  exact Zf3
 apply tE<;>intro h2
 .apply tF<;>intro h3
  .apply tD<;>intro h4
   .apply tD<;>intro h5
    .refine Tot.ix fun x1 h6=>?_;have mh6:=h6.2;apply tF<;>intro h7
     .exact tB (Zpo) fun x2 h8=>tR tk68
     exact Zf3
    exact Zf3
   exact Zf3
  exact Zf3
 apply tE<;>intro h3
 .apply tF<;>intro h4
  .apply tE<;>intro h5
   .exact Zf3
   exact Zf3
  exact Zf3
 apply tE<;>intro h4
 .apply tF<;>intro h5
  .exact Zf3
  exact Zf3
 apply tE<;>intro h5
 .apply tF<;>intro h6
  .exact tB (Zbg2 O0) fun x1 h7=>tR tk68
  exact Zf3
 exact Zf3
theorem Zaeg{a0:List Zg}{a1:Za}{a2:Ze}{v0:List Zg}{E0:Za}{E1:Ze}{E2:Zc}{v8:Bool}{v9:Bool}{v10:Bool}{v29:Int}{v92:Bool}(h:(Ziw a0 a1 a2) (.L2 v0 E0 E1 E2 v8 v9 v10 v29 v92)):Tot (Zsm v0 E0 E1 E2 v8 v9 v10 v29 v92).den (Nx (Ziw a0 a1 a2) Zyf (0,0,0,0,0,0) (fun r=>(r=evB a0 a1 a2))):=by
 obtain⟨al0,al1,al2,ov0,O0,i0,i1,i2,i3,i4,i5,i6⟩:=h;subst al0;subst al1;subst al2;dsimp only [Zsm,LT.den];apply tF<;>intro h1
 .apply tF<;>intro h2
  .exact tB (Zpo) fun x1 h3=>tR tk68
  exact Zf3
 apply tE<;>intro h2
 .apply tF<;>intro h3
  .exact Zf3
  exact Zf3
 apply tE<;>intro h3
 .apply tF<;>intro h4
  .exact Zf3
  exact Zf3
 apply tE<;>intro h4
 .exact Zbn3
 exact Zbn3
theorem Zaeh{a0:List Zg}{a1:Za}{a2:Ze}{v0:List Zg}{E0:Za}{E1:Ze}{E2:Zc}{v8:Bool}{v9:Bool}{v10:Bool}{v29:Int}{v86:Bool}(h:(Ziw a0 a1 a2) (.L1 v0 E0 E1 E2 v8 v9 v10 v29 v86)):Tot (Zow v0 E0 E1 E2 v8 v9 v10 v29 v86).den (Nx (Ziw a0 a1 a2) Zyf (0,0,0,0,0,0) (fun r=>(r=evB a0 a1 a2))):=by
 obtain⟨al0,al1,al2,ov0,O0,i0,i1,i2,i3,i4,i5,i6⟩:=h;subst al0;subst al1;subst al2;dsimp only [Zow,LT.den];apply tF<;>intro h1
 .exact Zf3
 apply tE<;>intro h2
 .exact Zbfu
 apply tE<;>intro h3
 .exact Zbfu
 exact Zbfu
theorem Zaei{a0:List Zg}{a1:Za}{a2:Ze}{v0:List Zg}{E0:Za}{E1:Ze}{E2:Zc}{v8:Bool}{v9:Bool}(h:(Ziw a0 a1 a2) (.L0 v0 E0 E1 E2 v8 v9)):Tot (Zx7 v0 E0 E1 E2 v8 v9).den (Nx (Ziw a0 a1 a2) Zyf (0,0,0,0,0,0) (fun r=>(r=evB a0 a1 a2))):=by
 obtain⟨al0,al1,al2,ov0,O0,i0,i1,i2⟩:=h;subst al0;subst al1;subst al2;dsimp only [Zx7,LT.den];refine tB (Zazy O0) fun x1 h1=>?_;apply tE<;>intro h2
 .refine tB (Zpo) fun x2 h3=>?_;apply tF<;>intro h4
  .apply tF<;>intro h5
   .exact Zf3
   apply tE<;>intro h6
   .exact Zf3
   exact Zf3
  exact Zf3
 apply tE<;>intro h3
 .apply tF<;>intro h4
  .apply tE<;>intro h5
   .apply tN<;>intro h6
    .apply tD<;>intro h7
     .apply tD<;>intro h8
      .apply tD<;>intro h9
       .exact Zf3
       exact Zf3
      exact Zf3
     exact Zf3
    exact Zf3
   exact Zf3
  exact Zf3
 apply tE<;>intro h4
 .exact Za4s
 apply tE<;>intro h5
 .exact Za4s
 apply tE<;>intro h6
 .exact Za4s
 exact Za4s
theorem Zab6{a0:List Zg}{a1:Za}{a2:Ze}(oa0:(SzL 176 Z1) a0)(oa1:Zl a1):Tot (Zbi6 a0 a1 a2) (fun r=>(r=evB a0 a1 a2)):=by
 apply Tot.rn (Ziw a0 a1 a2) Zyf
 .dsimp only [Za8u,LT.den];refine tB (Zk6 oa1) fun x1 h1=>?_;apply tF<;>intro h2
  .exact tl82
  exact tl82
 intro s hs;cases s with
 | L0 _ _ _ _ _ _=>exact Zaei hs
 | L1 _ _ _ _ _ _ _ _ _=>exact Zaeh hs
 | L2 _ _ _ _ _ _ _ _ _=>exact Zaeg hs
 | L3 _ _ _ _ _ _ _ _ _=>exact Zaef hs
def Za32(a0:Za)(a1:Int):Zqs->Prop
 | .L0 v1 E0 v5=>(E0=a0)/\(v1=a1)/\(Zl E0)/\(0<=v5)/\(NoId E0.Objects v1 v5)
def Z3f:Zqs->M6
 | .L0 v1 E0 v5=>(1,((E0.Objects.length:Int) - v5).toNat,1000000,0,0,0)
theorem Zrg{a0:Za}{a1:Int}(oa0:Zl a0):Tot (Za11 a0 a1) (fun r=>(r < (a0.Objects.length:Int))/\(r=ixO a0.Objects a1)):=by
 apply Tot.rn (Za32 a0 a1) Z3f
 .dsimp only [Zaod,LT.den];exact tL ⟨rfl,rfl,oa0,cl,tk51⟩ (by unfold Z3f lt6;dsimp only;omega)
 rintro ⟨v1,E0,v5⟩ ⟨al0,al1,O0,cv5,i0⟩;subst al0;subst al1;dsimp only [Z6p,Zaia,LT.den];have q1:=O0.2.1.1;apply tD<;>intro h1
 .refine Tot.ix fun x1 h2=>?_;have mh2:=h2.2;apply tE<;>intro h3
  .exact Za4r
  have q2:=wr (v5+1);exact tL ⟨rfl,rfl,O0,cl,tk51⟩ (by unfold Z3f lt6;dsimp only;omega)
 exact Za4r
theorem Zz5{a0:List Zb}{a1:Int}(oa0:(SzL 176 Zw) a0):Tot (Za12 a0 a1) (fun r=>(Zw r)/\(r=trV a0 a1)):=by
 apply tZ;dsimp only [Zaoe,LT.den];apply tD<;>intro h1
 .exact tl99
 apply tD<;>intro h2
 .exact tl99
 refine Tot.ix fun x1 h3=>?_;have oh3:Zw x1:=oa0.2 x1 h3.1;have mh3:=h3.2;exact tR ⟨oh3,tk66⟩
theorem Zajq{a0:Za}{a1:List Zb}{a2:Ze}{a3:Int}{a4:Int}{a5:Zm}(oa0:Zl a0)(oa1:(SzL 176 Zw) a1)(oa5:Za1 a5):Tot (Za8w a0 a1 a2 a3 a4 a5) (fun r=>(r=mtB a0 a1 a2 a3 a4 a5)):=by
 apply tZ;dsimp only [Zavf,LT.den];refine tB (Zrg oa0) fun x1 h1=>?_;have eh1_0:=h1.1;have eh1_1:=h1.2;apply tD<;>intro h2
 .refine Tot.ix fun x2 h3=>?_;have mh3:=h3.2;exact tB (Zz5 oa1) fun x3 h4=>tB (Zpn x2 x3 a3 a4 a5 h4.1 oa5) fun x4 h5=>tR tk62
 exact tR tk62
theorem Z9v{a0:Za}{a1:Int}{a2:Int}{a3:Int}(oa0:Zl a0):Tot (Zavh a0 a1 a2 a3) (fun r=>(r=whB a0 a1 a2 a3)):=by
 apply tZ;dsimp only [Zaib,LT.den];apply tD<;>intro h1
 .exact Zuc
 apply tD<;>intro h2
 .exact Zuc
 refine Tot.ix fun x1 h3=>?_;have mh3:=h3.2;apply tF<;>intro h4
 .exact Zuc
 apply tE<;>intro h5
 .exact Zuc
 apply tE<;>intro h6
 .apply tE<;>intro h7
  .exact Zuc
  apply tE<;>intro h8
  .exact Zuc
  exact Zuc
 exact Zboe
theorem Z9w{a0:List Zg}{a1:Za}{a2:Ze}{a3:Int}{a4:Int}{a5:Zm}(oa0:(SzL 176 Z1) a0)(oa1:Zl a1)(oa5:Za1 a5)(h0:∀ c,c∈a0->c.Abilities.length<=8):Tot (Zavi a0 a1 a2 a3 a4 a5) (fun r=>(r=enB a0 a1 a2 a3 a4 a5)):=by
 apply tZ;dsimp only [Zaid,LT.den];refine tB (Zrg oa1) fun x1 h1=>?_;have eh1_0:=h1.1;have eh1_1:=h1.2;apply tD<;>intro h2
 .exact tR tk54
 refine Tot.ix fun x2 h3=>?_;have mh3:=h3.2;exact tB (Zuq oa0 Zaj) fun x3 h4=>tB (Zpn (⟨x2.Id,x2.Card,x2.Owner,x2.Control,0,x2.Token,x2.Tapped,x2.Sick,x2.Deadly,x2.Damage,x2.Counters,x2.Stamp,x2.Copy,x2.Attack,x2.Blocked,x2.Blocks,x2.Shield⟩:Zc) (⟨x3.Name,x3.Cost,x3.Colors,x3.Line,x3.Power,x3.Tough,x3.Keys,x3.Abilities,a2.Player⟩:Zb) a3 a4 a5 ⟨h4.1.1,h4.1.2.1,h4.1.2.2⟩ oa5) fun x4 h5=>tR tk54
def Zuv(a0:List Zg)(a1:Za)(a2:List Zb)(a3:Ze)(a4:Z4)(a5:Int)(a6:Int):Zmx->Prop
 | .L0 v5 E0 E1 E2 v108=>(E0=a1)/\(E1=a3)/\(E2=a4)/\(v5=a5)/\(Zl E0)/\(Zbq E2)/\(E2.On=E1.Kind)/\(v108=true↔(E1.Kind=3\/E1.Kind=4\/E1.Kind=5\/E1.Kind=10))/\(¬ (E1.Kind=1\/E1.Kind=2\/E1.Kind=8))
def Z9x:Zmx->M6
 | .L0 v5 E0 E1 E2 v108=>(0,0,0,0,0,0)
theorem Zyg{a0:List Zg}{a1:Za}{a2:List Zb}{a3:Ze}{a4:Z4}{a5:Int}{a6:Int}{v5:Int}{E0:Za}{E1:Ze}{E2:Z4}{v108:Bool}(h:(Zuv a0 a1 a2 a3 a4 a5 a6) (.L0 v5 E0 E1 E2 v108)):Tot (Zhg v5 E0 E1 E2 v108).den (Nx (Zuv a0 a1 a2 a3 a4 a5 a6) Z9x (0,0,0,0,0,0) (fun r=>(r=maB a0 a1 a2 a3 a4 a5 a6))):=by
 obtain⟨al0,al1,al2,al3,O0,O2,i0,i1,i2⟩:=h;subst al0;subst al1;subst al2;subst al3;dsimp only [Zhg,LT.den];apply tF<;>intro h1
 .exact tB (Z9v O0) fun x1 h2=>tR Zabt
 exact tl1
theorem Zuw{a0:List Zg}{a1:Za}{a2:List Zb}{a3:Ze}{a4:Z4}{a5:Int}{a6:Int}(oa0:(SzL 176 Z1) a0)(oa1:Zl a1)(oa2:(SzL 176 Zw) a2)(oa4:Zbq a4)(h0:∀ c,c∈a0->c.Abilities.length<=8):Tot (Zaog a0 a1 a2 a3 a4 a5 a6) (fun r=>(r=maB a0 a1 a2 a3 a4 a5 a6)):=by
 apply Tot.rn (Zuv a0 a1 a2 a3 a4 a5 a6) Z9x
 .dsimp only [Zads,LT.den];apply tN<;>intro h1
  .exact tl1
  apply tE<;>intro h2
  .apply tE<;>intro h3
   .apply tN<;>intro h4
    .exact tl42
    exact tl1
   apply tE<;>intro h4
   .exact tB (Z9v oa1) fun x1 h5=>tR Zabt
   exact tl1
  apply tE<;>intro h3
  .apply tE<;>intro h4
   .apply tE<;>intro h5
    .apply tE<;>intro h6
     .exact tB (Zajq oa1 oa2 oa4) fun x1 h7=>tR Zabt
     exact tl1
    exact tl1
   apply tE<;>intro h5
   .apply tE<;>intro h6
    .exact tB (Z9w oa0 oa1 oa4 Zaj) fun x1 h7=>tR Zabt
    exact tl1
   apply tE<;>intro h6
   .apply tE<;>intro h7
    .exact tB (Z9w oa0 oa1 oa4 Zaj) fun x1 h8=>tR Zabt
    exact tl1
   exact tl1
  apply tE<;>intro h4
  .exact tl42
  apply tE<;>intro h5
  .exact tl65
  apply tE<;>intro h6
  .exact tl65
  apply tE<;>intro h7
  .exact tl65
  exact tl65
 intro s hs;cases s with
 | L0 _ _ _ _ _=>exact Zyg hs
abbrev Z9y(a0:List Zg)(a1:Za)(a2:List Zb)(a3:Ze)(r:List Zd):Prop:=((SzL 24 (fun _=>True)) r)/\(r.length<=489)/\(r=opO a0 a1 a2 a3)
def Zz6(a0:List Zg)(a1:Za)(a2:List Zb)(a3:Ze):Zi3->Prop
 | .L0 v0 v2 E0 E1 v9 v10=>(v0=a0)/\(E0=a1)/\(v2=a2)/\(E1=a3)/\((SzL 176 Z1) v0)/\((SzL 176 Zw) v2)/\(Zl E0)/\((SzL 24 (fun _=>True)) v9)/\(Ids E0.Objects)/\(Zbc v2)/\(Zdq v0)/\(∀ c,c∈v0->c.Abilities.length<=8)/\(E0.Objects.length<=60)/\(evB v0 E0 E1=true)/\(v9.length<=1)/\(v10=ixO E0.Objects E1.Object)/\(v9=shO E0 E1)
 | .L1 v0 v2 E0 E1 v9 v10 v11=>(v0=a0)/\(E0=a1)/\(v2=a2)/\(E1=a3)/\((SzL 176 Z1) v0)/\((SzL 176 Zw) v2)/\(Zl E0)/\((SzL 24 (fun _=>True)) v9)/\(0<=v11)/\(Ids E0.Objects)/\(Zbc v2)/\(Zdq v0)/\(∀ c,c∈v0->c.Abilities.length<=8)/\(E0.Objects.length<=60)/\(evB v0 E0 E1=true)/\(v9.length<=1+8*v11.toNat)/\(v11.toNat<=E0.Objects.length)/\(v10=ixO E0.Objects E1.Object)/\(v9=shO E0 E1++ixf (obG v0 E0 v2 E1) E0.Objects v11)
 | .L2 v0 v2 E0 E1 v9 v10 v11 E2 v13=>(v0=a0)/\(E0=a1)/\(v2=a2)/\(E1=a3)/\((SzL 176 Z1) v0)/\((SzL 176 Zw) v2)/\(Zl E0)/\((SzL 24 (fun _=>True)) v9)/\(Zw E2)/\(0<=v13)/\(0<=v11)/\(v11 < (E0.Objects.length:Int))/\(Ids E0.Objects)/\(Zbc v2)/\(Zdq v0)/\(∀ c,c∈v0->c.Abilities.length<=8)/\(E0.Objects.length<=60)/\(evB v0 E0 E1=true)/\(v9.length<=1+8*v11.toNat+v13.toNat)/\(v11.toNat < E0.Objects.length)/\(v13.toNat<=E2.Abilities.length)/\(E2.Abilities.length<=8)/\(v10=ixO E0.Objects E1.Object)/\(E0.Objects[v11.toNat]?=some (obA E0.Objects v11))/\((obA E0.Objects v11).Zone=0)/\(E2=trV v2 v11)/\(v9=(shO E0 E1++ixf (obG v0 E0 v2 E1) E0.Objects v11)++(if (obA E0.Objects v11).Zone=0 then ixf (abG v0 E0 v2 E1 E2.Control (obA E0.Objects v11).Id) E2.Abilities v13 else []))
 | .L3 v0 v2 E0 E1 v9 E2 v15=>(v0=a0)/\(E0=a1)/\(v2=a2)/\(E1=a3)/\((SzL 176 Z1) v0)/\((SzL 176 Zw) v2)/\(Zl E0)/\((SzL 24 (fun _=>True)) v9)/\(Zw E2)/\(0<=v15)/\(Ids E0.Objects)/\(Zbc v2)/\(Zdq v0)/\(∀ c,c∈v0->c.Abilities.length<=8)/\(E0.Objects.length<=60)/\(evB v0 E0 E1=true)/\(v9.length<=481+v15.toNat)/\(v15.toNat<=E2.Abilities.length)/\(E2.Abilities.length<=8)/\(E1.Kind=2)/\(E1.To=0)/\(E2.Abilities=(baV v0 (fdV E0.Objects E1.Object).1).Abilities)/\(v9=shO E0 E1++(ixF (obG v0 E0 v2 E1) E0.Objects++ixf (arG v0 E0 v2 E1) E2.Abilities v15))
def Zk7:Zi3->M6
 | .L0 v0 v2 E0 E1 v9 v10=>(4,0,0,0,0,0)
 | .L1 v0 v2 E0 E1 v9 v10 v11=>(3,((E0.Objects.length:Int) - v11).toNat,1000000,0,0,0)
 | .L2 v0 v2 E0 E1 v9 v10 v11 E2 v13=>(3,((E0.Objects.length:Int) - v11).toNat,1,((E2.Abilities.length:Int) - v13).toNat,1000000,0)
 | .L3 v0 v2 E0 E1 v9 E2 v15=>(1,((E2.Abilities.length:Int) - v15).toNat,1000000,0,0,0)
theorem Zr0{a0:List Zg}{a1:Za}{a2:List Zb}{a3:Ze}{v0:List Zg}{v2:List Zb}{E0:Za}{E1:Ze}{v9:List Zd}{v10:Int}(h:(Zz6 a0 a1 a2 a3) (.L0 v0 v2 E0 E1 v9 v10)):Tot (Zhy v0 v2 E0 E1 v9 v10).den (Nx (Zz6 a0 a1 a2 a3) Zk7 (4,0,0,0,0,0) (Z9y a0 a1 a2 a3)):=by
 obtain⟨al0,al1,al2,al3,ov0,ov2,O0,ov9,i0,i1,i2,i3,i4,i5,i6,i7,i8⟩:=h;subst al0;subst al1;subst al2;subst al3;dsimp only [Zhy,LT.den];exact Zbop
theorem Zaej{a0:List Zg}{a1:Za}{a2:List Zb}{a3:Ze}(oa0:(SzL 176 Z1) a0)(oa1:Zl a1)(oa2:(SzL 176 Zw) a2)(h0:Ids a1.Objects)(h1:Zbc a2)(h2:Zdq a0)(h3:∀ c,c∈a0->c.Abilities.length<=8)(h4:a1.Objects.length<=60):Tot (Zaii a0 a1 a2 a3) (Z9y a0 a1 a2 a3):=by
 apply Tot.rn (Zz6 a0 a1 a2 a3) Zk7
 .have lb_a0:=oa0.1;have lb_a2:=oa2.1;dsimp only [Zaoh,LT.den];refine tB (Zab6 oa0 oa1) fun x1 h1=>?_;apply tO<;>intro h2
  .exact tR ⟨SzL.nil,cl,tk12⟩
  refine tB (Zrg oa1) fun x2 h3=>?_;have eh3_0:=h3.1;have eh3_1:=h3.2;apply tE<;>intro h4
  .apply tN<;>intro h5
   .apply tD<;>intro h6
    .refine Tot.ix fun x3 h7=>?_;have mh7:=h7.2;have nh7:=h7.1;apply tD<;>intro h8
     .refine Tot.ap fun x4 h9=>?_;have lh9:=Zaz h9;simp only [List.length_nil,Nat.zero_add] at lh9;exact tJ (Zr0 ⟨rfl,rfl,rfl,rfl,oa0,oa2,oa1,SzL.tr,‹_›,‹_›,‹_›,Zaj,cl,Zl8,cl,‹_›,tk19⟩)
     exact Za4w
    exact Za4w
   exact Za4w
  exact Za4w
 intro s hs;cases s with
 | L0 _ _ _ _ _ _=>exact Zr0 hs
 | L1 v0 v2 E0 E1 v9 v10 v11=>
  obtain⟨al0,al1,al2,al3,ov0,ov2,O0,ov9,cv11,i0,i1,i2,i3,i4,i5,i6,i7,i8,i9⟩:=hs;have lb_v0:=ov0.1;have lb_v2:=ov2.1;have lb_v9:=ov9.1;subst al0;subst al1;subst al2;subst al3;dsimp only [Zqt,Zaif,LT.den,Zk7];have lt:=Z9c E0.Objects E1.Object;have q1:=O0.2.1.1;apply tD<;>intro h1
  .refine Tot.ix fun x1 h2=>?_;have mh2:=h2.2;have nh2:=h2.1;have mh2:=h2.2;have oh2:=Za9e h2.2;apply tN<;>intro h3
   .exact Zbor
   refine tB (Zz5 ov2) fun x2 h4=>?_;have eh4_1:=h4.2;have uh4:=Za9b (by assumption:Zbc v2) v11;rw [<- (by assumption:x2=trV v2 v11)] at uh4;exact tL ⟨rfl,rfl,rfl,rfl,ov0,ov2,O0,ov9,h4.1,cl,cl,cl,‹_›,‹_›,‹_›,Zaj,cl,Zl8,cl,cl,cl,cl,‹_›,tk79,tk83,‹_›,tk5⟩ Zabs
  apply tE<;>intro h2
  .apply tE<;>intro h3
   .apply tD<;>intro h4
    .refine Tot.ix fun x1 h5=>?_;have mh5:=h5.2;have nh5:=h5.1;have mh5:=h5.2;have oh5:=Za9e h5.2;refine tB (Zuq ov0 Zaj) fun x2 h6=>?_;have eh6_1:=h6.2.1;have eh6_2:=h6.2.2;have bh6:x2.Abilities=(baV v0 (fdV E0.Objects E1.Object).1).Abilities:=(by rw [(by assumption:x2=baV _ _),<- Zo1 ‹_› ‹_› (by omega)]);have ch6:=Za9c (by assumption:∀ c,c∈v0->c.Abilities.length<=8) (fdV E0.Objects E1.Object).1;rw [<- bh6] at ch6;exact tL ⟨rfl,rfl,rfl,rfl,ov0,ov2,O0,ov9,h6.1,cl,‹_›,‹_›,‹_›,Zaj,cl,Zl8,cl,cl,cl,cl,cl,‹_›,tk7⟩ Zabs
    exact Za4u
   exact Za4u
  exact Za4u
 | L2 v0 v2 E0 E1 v9 v10 v11 E2 v13=>
  obtain⟨al0,al1,al2,al3,ov0,ov2,O0,ov9,O2,cv13,cv11,bd11,i0,i1,i2,i3,i4,i5,i6,i7,i8,i9,i10,i11,i12,i13,i14⟩:=hs;have lb_v0:=ov0.1;have lb_v2:=ov2.1;have lb_v9:=ov9.1;subst al0;subst al1;subst al2;subst al3;dsimp only [Zqt,Zaig,LT.den,Zk7];have lx_0:E0.Objects.length*128<=140737488351232:=O0.2.1.1;have q1:=O2.2.2.1;apply tD<;>intro h1
  .refine Tot.ix fun x1 h2=>?_;have oh2:Zac x1:=O2.2.2.2 x1 h2.1;have mh2:=h2.2;have nh2:=h2.1;apply tE<;>intro h3
   .refine Tot.ix fun x2 h4=>?_;have mh4:=h4.2;have nh4:=h4.1;have mh4:=h4.2;have oh4:=Za9e h4.2;refine tB (Zuw ov0 O0 ov2 oh2.2.2.2.2.2 Zaj) fun x3 h5=>?_;have eh5_0:=h5;apply tF<;>intro h6
    .have q2:=ov9.1;refine Tot.ap fun x4 h7=>?_;have lh7:=Zaz h7;have q3:=wr (v13+1);exact tL ⟨rfl,rfl,rfl,rfl,ov0,ov2,O0,SzL.tr,O2,cl,cl,cl,‹_›,‹_›,‹_›,Zaj,cl,Zl8,cl,cl,cl,cl,‹_›,tk79,tk83,‹_›,tk5⟩ Zabs
    exact Zbox
   exact Zbox
  exact Zbor
 | L3 v0 v2 E0 E1 v9 E2 v15=>
  obtain⟨al0,al1,al2,al3,ov0,ov2,O0,ov9,O2,cv15,i0,i1,i2,i3,i4,i5,i6,i7,i8,i9,i10,i11,i12⟩:=hs;have lb_v0:=ov0.1;have lb_v2:=ov2.1;have lb_v9:=ov9.1;subst al0;subst al1;subst al2;subst al3;dsimp only [Zqt,Zaih,LT.den,Zk7];have q1:=O2.2.2.1;apply tD<;>intro h1
  .refine Tot.ix fun x1 h2=>?_;have oh2:Zac x1:=O2.2.2.2 x1 h2.1;have mh2:=h2.2;have nh2:=h2.1;apply tE<;>intro h3
   .apply tE<;>intro h4
    .apply tE<;>intro h5
     .refine tB (Zuw ov0 O0 ov2 oh2.2.2.2.2.2 Zaj) fun x2 h6=>?_;have eh6_0:=h6;apply tF<;>intro h7
      .have q2:=ov9.1;refine Tot.ap fun x3 h8=>?_;have lh8:=Zaz h8;exact Zbov
      exact Zakw
     exact Zakw
    apply tE<;>intro h5
    .apply tE<;>intro h6
     .refine tB (Zuw ov0 O0 ov2 oh2.2.2.2.2.2 Zaj) fun x2 h7=>?_;apply tF<;>intro h8
      .have q2:=ov9.1;refine Tot.ap fun x3 h9=>?_;have lh9:=Zaz h9;exact Zbov
      exact Zakw
     exact Zakw
    exact Zakw
   exact Zakw
  exact Za4u
def Zbb8(a0:List Zd)(a1:Zd):Zx8->Prop
 | .L0 v0 E0 v5=>(v0=a0)/\(E0=a1)/\((SzL 24 (fun _=>True)) v0)/\(0<=v5)/\(∀ (k:Nat) x,(k:Int) < v5->v0[k]?=some x->x≠E0)
def Zab7:Zx8->M6
 | .L0 v0 E0 v5=>(1,((v0.length:Int) - v5).toNat,1000000,0,0,0)
theorem Zao3{a0:List Zd}{a1:Zd}(oa0:(SzL 24 (fun _=>True)) a0):Tot (Zbc7 a0 a1) (fun r=>(r=true↔a1∈a0)):=by
 apply Tot.rn (Zbb8 a0 a1) Zab7
 .dsimp only [Za13,LT.den];exact tL ⟨rfl,rfl,oa0,cl,tk50⟩ (by unfold Zab7 lt6;dsimp only;omega)
 rintro ⟨v0,E0,v5⟩ ⟨al0,al1,ov0,cv5,i0⟩;have lb_v0:=ov0.1;subst al0;subst al1;dsimp only [Zaik,Zavj,LT.den];apply tD<;>intro h1
 .refine Tot.ix fun x1 h2=>?_;have mh2:=h2.2;apply tF<;>intro h3
  .exact tl73
  have q1:=wr (v5+1);exact tL ⟨rfl,rfl,ov0,cl,tk50⟩ (by unfold Zab7 lt6;dsimp only;omega)
 exact tl73
abbrev Za33(a0:List Zg)(a1:Za)(a2:List Zb)(a3:Ze)(a4:List Zd)(r:List Zd):Prop:=((SzL 24 (fun _=>True)) r)/\(r.length<=489)/\(r=(opO a0 a1 a2 a3).filter (nI a4))
def Zbal(a0:List Zg)(a1:Za)(a2:List Zb)(a3:Ze)(a4:List Zd):Zt4->Prop
 | .L0 v4 v11 v12 v13=>(v4=a4)/\((SzL 24 (fun _=>True)) v4)/\((SzL 24 (fun _=>True)) v11)/\((SzL 24 (fun _=>True)) v12)/\(0<=v13)/\(v11.length<=v13.toNat)/\(v13.toNat<=v12.length)/\(v12.length<=489)/\(v12=opO a0 a1 a2 a3)/\(v11=(v12.take v13.toNat).filter (nI a4))
def Zao4:Zt4->M6
 | .L0 v4 v11 v12 v13=>(1,((v12.length:Int) - v13).toNat,1000000,0,0,0)
theorem Zajr{a0:List Zg}{a1:Za}{a2:List Zb}{a3:Ze}{a4:List Zd}(oa0:(SzL 176 Z1) a0)(oa1:Zl a1)(oa2:(SzL 176 Zw) a2)(oa4:(SzL 24 (fun _=>True)) a4)(h0:Ids a1.Objects)(h1:Zbc a2)(h2:Zdq a0)(h3:∀ c,c∈a0->c.Abilities.length<=8)(h4:a1.Objects.length<=60):Tot (Zap2 a0 a1 a2 a3 a4) (Za33 a0 a1 a2 a3 a4):=by
 apply Tot.rn (Zbal a0 a1 a2 a3 a4) Zao4
 .dsimp only [Zavl,LT.den];refine tB (Zaej oa0 oa1 oa2 ‹_› ‹_› ‹_› Zaj cl) fun x1 h1=>?_;have eh1_1:=h1.2.1;have eh1_2:=h1.2.2;exact tL ⟨rfl,oa4,SzL.nil,h1.1,cl,cl,cl,cl,‹_›,tk16⟩ Zbgk
 rintro ⟨v4,v11,v12,v13⟩ ⟨al0,ov4,ov11,ov12,cv13,i0,i1,i2,i3,i4⟩;have lb_v11:=ov11.1;subst al0;dsimp only [Zabe,Zaoi,LT.den];apply tD<;>intro h1
 .refine Tot.ix fun x1 h2=>?_;have mh2:=h2.2;refine tB (Zao3 ov4) fun x2 h3=>?_;apply tO<;>intro h4
  .refine Tot.ap fun x3 h5=>?_;have lh5:=Zaz h5;have q1:=wr (v13+1);exact tL ⟨rfl,ov4,SzL.tr,ov12,cl,cl,cl,cl,‹_›,tk16⟩ Zbgk
  have q1:=wr (v13+1);exact tL ⟨rfl,ov4,ov11,ov12,cl,cl,cl,cl,‹_›,tk16⟩ Zbgk
 exact tR ⟨ov11,cl,(by (rw [<- (by assumption:v12=opO a0 a1 a2 a3)];exact Zbcu ‹_› (by omega)))⟩
def Zaw3(a0:List Zd)(a1:List Zd):Zmy->Prop
 | .L0 v0 v1 v5=>(v0=a0)/\(v1=a1)/\((SzL 24 (fun _=>True)) v0)/\((SzL 24 (fun _=>True)) v1)/\(0<=v5)/\(v0.length=v1.length)/\(∀ k:Nat,(k:Int) < v5->v0[k]?=v1[k]?)
def Zwd:Zmy->M6
 | .L0 v0 v1 v5=>(1,((v0.length:Int) - v5).toNat,1000000,0,0,0)
theorem Zux{a0:List Zd}{a1:List Zd}(oa0:(SzL 24 (fun _=>True)) a0)(oa1:(SzL 24 (fun _=>True)) a1):Tot (Zaok a0 a1) (fun r=>(r=true↔a0=a1)):=by
 apply Tot.rn (Zaw3 a0 a1) Zwd
 .dsimp only [Zadu,LT.den];apply tN<;>intro h1
  .exact Zbfx
  exact tL ⟨rfl,rfl,oa0,oa1,cl,cl,tk39⟩ (by unfold Zwd lt6;dsimp only;omega)
 rintro ⟨v0,v1,v5⟩ ⟨al0,al1,ov0,ov1,cv5,i0,i1⟩;have lb_v0:=ov0.1;subst al0;subst al1;dsimp only [Zy7,Z83,LT.den];apply tD<;>intro h1
 .refine Tot.ix fun x1 h2=>?_;have mh2:=h2.2;refine Tot.ix fun x2 h3=>?_;have mh3:=h3.2;apply tO<;>intro h4
  .exact Zbfx
  have q1:=wr (v5+1);exact tL ⟨rfl,rfl,ov0,ov1,cl,cl,tk39⟩ (by unfold Zwd lt6;dsimp only;omega)
 exact Zbfx
def Zaet:Zin->Prop
 | .L0 v0 E0 E1 v7 v8 v9=>((SzL 176 Z1) v0)/\(Zl E0)/\((SzL 176 Zw) v7)/\((SzL 24 (fun _=>True)) v8)/\(0<=v9)/\(Ids E0.Objects)/\(Zbc v7)/\(Zdq v0)/\(∀ c,c∈v0->c.Abilities.length<=8)/\(E0.Objects.length<=60)/\(v8=opO v0 E0 v7 E1)
def Zo6:Zin->M6
 | .L0 v0 E0 E1 v7 v8 v9=>(1,((v8.length:Int) - v9).toNat,1000000,0,0,0)
theorem Zaeu{a0:List Zg}{a1:Za}{a2:Ze}(oa0:(SzL 176 Z1) a0)(oa1:Zl a1):Tot (Z42 a0 a1 a2) (fun r=>(r=true)):=by
 apply Tot.rn Zaet Zo6
 .dsimp only [Z0g,LT.den];refine tB (Zm0 oa0 oa1) fun x1 h1=>?_;have eh1_0:=h1.1;have eh1_1:=h1.2.1;have eh1_2:=h1.2.2.1;have eh1_3:=h1.2.2.2;apply tO<;>intro h2
  .exact tl94
  have h2_0:=eh1_0 h2;have h2_1:=eh1_1 h2;have h2_2:=eh1_2 h2;refine tB (Zq1 oa0 oa1 Zaj cl cl ‹_›) fun x2 h3=>?_;have eh3_2:=h3.2.2;refine tB (Zajr oa0 oa1 h3.1 SzL.nil ‹_› ‹_› ‹_› Zaj cl) fun x3 h4=>?_;try simp only [List.length_nil,List.length_cons,Nat.zero_add] at eh4_1
  have eh4_2:=h4.2.2;refine tB (Zed oa0 oa1 h3.1 SzL.nil ‹_› ‹_› ‹_› Zaj cl) fun x4 h5=>tB (Zux h5.1 h4.1) fun x5 h6=>?_;apply tO<;>intro h7
  .exact Zh0
  exact tL ⟨oa0,oa1,h3.1,h4.1,cl,‹_›,‹_›,‹_›,Zaj,cl,(by first | assumption | exact op_l ‹_›)⟩ (by unfold Zo6 lt6;dsimp only;omega)
 rintro ⟨v0,E0,E1,v7,v8,v9⟩ ⟨ov0,O0,ov7,ov8,cv9,i0,i1,i2,i3,i4,i5⟩;have lb_v8:=ov8.1;dsimp only [Zpy,Zx9,LT.den];apply tD<;>intro h1
 .refine tB (Tot.slice (by omega) (by omega) (by omega)) fun x1 h2=>tB (Zed ov0 O0 ov7 SzL.tr ‹_› ‹_› ‹_› Zaj cl) fun x2 h3=>?_;have eh3_2:=h3.2.2;refine tB (Tot.slice (by omega) (by omega) (by omega)) fun x3 h4=>tB (Zux h3.1 SzL.tr) fun x4 h5=>?_;have wh5:x4=true:=(by assumption:x4=true↔_=_).2 tk22;apply tO<;>intro h6
  .exact Zh0
  refine tB (Tot.slice (by omega) (by omega) (by omega)) fun x5 h7=>tB (Zed ov0 O0 ov7 SzL.tr ‹_› ‹_› ‹_› Zaj cl) fun x6 h8=>?_;have eh8_2:=h8.2.2;refine tB (Tot.slice (by omega) (by omega) (by omega)) fun x7 h9=>tB (Zux h8.1 SzL.tr) fun x8 h10=>?_;have wh10:x8=true:=(by assumption:x8=true↔_=_).2 tk22;apply tO<;>intro h11
  .exact Zh0
  have q1:=wr (v9+1);exact tL ⟨ov0,O0,ov7,ov8,cl,‹_›,‹_›,‹_›,Zaj,cl,(by first | assumption | exact op_l ‹_›)⟩ (by unfold Zo6 lt6;dsimp only;omega)
 exact tl95
def Zaw4(a0:Zh):Zmz->Prop
 | .L0 E0 E1 E2 v4=>(E0=a0)/\(Zac E0)/\(Zac E1)/\(Zac E2)/\(0<=v4)/\(E2.Effects.length<=v4.toNat)/\(v4.toNat<=E0.Effects.length)/\(E2={ E0 with Effects:=E0.Effects.take v4.toNat })
def Zwe:Zmz->M6
 | .L0 E0 E1 E2 v4=>(1,((E0.Effects.length:Int) - v4).toNat,1000000,0,0,0)
theorem Z5s{a0:Zh}(oa0:Zac a0):Tot (Zaol a0) (fun r=>(Zac r)/\(r=a0)):=by
 apply Tot.rn (Zaw4 a0) Zwe
 .dsimp only [Zadv,LT.den];have q1:=oa0.2.1.1;refine Tot.ap fun x1 h1=>?_;have lh1:x1.length=([]:List Zv).length+a0.Mods.length:=by rw [h1,List.length_append]
  try simp only [List.length_cons,List.length_nil,Nat.zero_add] at lh1
  have q2:=oa0.2.2.2.1.1;refine Tot.ap fun x2 h2=>?_;have lh2:x2.length=([]:List Za9).length+a0.Specs.length:=by rw [h2,List.length_append]
  try simp only [List.length_cons,List.length_nil,Nat.zero_add] at lh2
  exact tL ⟨rfl,oa0,⟨SzS.nil,SzL.nil,SzS.nil,SzL.nil,SzL.nil,SzS.nil⟩,⟨oa0.1,SzL.app (k:=176) h1 lo (fun _ h=>by cases h) oa0.2.1.2,oa0.2.2.1,SzL.app (k:=144) h2 lo (fun _ h=>by cases h) oa0.2.2.2.1.2,SzL.nil,oa0.2.2.2.2.2⟩,cl,cl,cl,tk29⟩ (by unfold Zwe lt6;dsimp only;omega)
 rintro ⟨E0,E1,E2,v4⟩ ⟨al0,O0,O1,O2,cv4,i0,i1,i2⟩;subst al0;dsimp only [Zy8,Z84,LT.den];have q1:=O0.2.2.2.2.1.1;apply tD<;>intro h1
 .refine Tot.ix fun x1 h2=>?_;have oh2:Zas x1:=O0.2.2.2.2.1.2 x1 h2.1;have mh2:=h2.2;have q2:=oh2.2.2.2.2.1;refine Tot.ap fun x2 h3=>?_;have lh3:x2.length=([]:List Zv).length+x1.Mods.length:=by rw [h3,List.length_append]
  try simp only [List.length_cons,List.length_nil,Nat.zero_add] at lh3
  have q3:=O2.2.2.2.2.1.1;refine Tot.ap fun x3 h4=>?_;have lh4:=Zaz h4;have q4:=wr (v4+1);exact tL ⟨rfl,O0,O1,⟨O2.1,O2.2.1,O2.2.2.1,O2.2.2.2.1,SzL.app (k:=560) h4 lo O2.2.2.2.2.1.2 (me1 ⟨oh2.1,oh2.2.1,oh2.2.2.1,oh2.2.2.2.1,SzL.app (k:=176) h3 lo (fun _ h=>by cases h) oh2.2.2.2.2.2⟩),O2.2.2.2.2.2⟩,cl,cl,cl,tk29⟩ (by unfold Zwe lt6;dsimp only;omega)
 exact tl32
def Zbam(a0:Za):Zj4->Prop
 | .L0 E0 E1 E2 v4=>(E0=a0)/\(Zl E0)/\(Zl E1)/\(Zl E2)/\(0<=v4)/\(E2.Players.length<=v4.toNat)/\(v4.toNat<=E0.Players.length)/\(E2={ E0 with Players:=E0.Players.take v4.toNat })
 | .L1 E0 E1 E2 v6=>(E0=a0)/\(Zl E0)/\(Zl E1)/\(Zl E2)/\(0<=v6)/\(E2.Stack.length<=v6.toNat)/\(v6.toNat<=E0.Stack.length)/\(E2={ E0 with Stack:=E0.Stack.take v6.toNat })
 | .L2 E0 E1 E2 v8=>(E0=a0)/\(Zl E0)/\(Zl E1)/\(Zl E2)/\(0<=v8)/\(E2.Waiting.length<=v8.toNat)/\(v8.toNat<=E0.Waiting.length)/\(E2={ E0 with Waiting:=E0.Waiting.take v8.toNat })
 | .L3 E0 E1 E2 v10=>(E0=a0)/\(Zl E0)/\(Zl E1)/\(Zl E2)/\(0<=v10)/\(E2.Conts.length<=v10.toNat)/\(v10.toNat<=E0.Conts.length)/\(E2={ E0 with Conts:=E0.Conts.take v10.toNat })
def Zao5:Zj4->M6
 | .L0 E0 E1 E2 v4=>(7,((E0.Players.length:Int) - v4).toNat,1000000,0,0,0)
 | .L1 E0 E1 E2 v6=>(5,((E0.Stack.length:Int) - v6).toNat,1000000,0,0,0)
 | .L2 E0 E1 E2 v8=>(3,((E0.Waiting.length:Int) - v8).toNat,1000000,0,0,0)
 | .L3 E0 E1 E2 v10=>(1,((E0.Conts.length:Int) - v10).toNat,1000000,0,0,0)
theorem Zban{a0:Za}(oa0:Zl a0):Tot (Za8y a0) (fun r=>(Zl r)/\(r=a0)):=by
 apply Tot.rn (Zbam a0) Zao5
 .dsimp only [Zavm,LT.den];exact tL ⟨rfl,oa0,⟨SzL.nil,SzL.nil,SzL.nil,SzL.nil,SzL.nil,SzL.nil,SzL.nil,SzL.nil⟩,⟨SzL.nil,oa0.2.1,oa0.2.2.1,oa0.2.2.2.1,oa0.2.2.2.2.1,oa0.2.2.2.2.2.1,oa0.2.2.2.2.2.2.1,oa0.2.2.2.2.2.2.2⟩,cl,cl,cl,tk1⟩ Z5d
 intro s hs;cases s with
 | L0 E0 E1 E2 v4=>
  obtain⟨al0,O0,O1,O2,cv4,i0,i1,i2⟩:=hs;subst al0;dsimp only [Zpk,Zaom,LT.den];have q1:=O0.1.1;apply tD<;>intro h1
  .refine Tot.ix fun x1 h2=>?_;have oh2:Zbt x1:=O0.1.2 x1 h2.1;have mh2:=h2.2;refine tB (Zem oh2.1) fun x2 h3=>?_;have eh3_1:=h3.2;refine tB (Zem oh2.2.1) fun x3 h4=>?_;have eh4_1:=h4.2;refine tB (Zem oh2.2.2) fun x4 h5=>?_;have eh5_1:=h5.2;have q2:=O2.1.1;refine Tot.ap fun x5 h6=>?_;have lh6:=Zaz h6;have q3:=wr (v4+1);exact tL ⟨rfl,O0,O1,⟨SzL.app (k:=152) h6 lo O2.1.2 (me1 ⟨h3.1,h4.1,h5.1⟩),O2.2.1,O2.2.2.1,O2.2.2.2.1,O2.2.2.2.2.1,O2.2.2.2.2.2.1,O2.2.2.2.2.2.2.1,O2.2.2.2.2.2.2.2⟩,cl,cl,cl,tk1⟩ Z5d
  have q2:=O0.2.1.1;refine Tot.ap fun x1 h2=>?_;have lh2:x1.length=([]:List Zc).length+E0.Objects.length:=by rw [h2,List.length_append]
  try simp only [List.length_cons,List.length_nil,Nat.zero_add] at lh2
  refine tB (Zem O0.2.2.1) fun x2 h3=>?_;have eh3_1:=h3.2;refine tB (Zem O0.2.2.2.1) fun x3 h4=>?_;have eh4_1:=h4.2;exact tL ⟨rfl,O0,O1,⟨O2.1,SzL.tr,h3.1,h4.1,SzL.nil,O2.2.2.2.2.2.1,O2.2.2.2.2.2.2.1,O2.2.2.2.2.2.2.2⟩,cl,cl,cl,tk2⟩ Z5d
 | L1 E0 E1 E2 v6=>
  obtain⟨al0,O0,O1,O2,cv6,i0,i1,i2⟩:=hs;subst al0;dsimp only [Zpk,Zaon,LT.den];have q1:=O0.2.2.2.2.1.1;apply tD<;>intro h1
  .refine Tot.ix fun x1 h2=>?_;have oh2:Zcr x1:=O0.2.2.2.2.1.2 x1 h2.1;have mh2:=h2.2;refine tB (Z5s oh2.1) fun x2 h3=>?_;have eh3_1:=h3.2;have q2:=oh2.2.1;refine Tot.ap fun x3 h4=>?_;have lh4:x3.length=([]:List Zbb).length+x1.Targets.length:=by rw [h4,List.length_append]
   try simp only [List.length_cons,List.length_nil,Nat.zero_add] at lh4
   have q3:=O2.2.2.2.2.1.1;refine Tot.ap fun x4 h5=>?_;have lh5:=Zaz h5;have q4:=wr (v6+1);exact tL ⟨rfl,O0,O1,⟨O2.1,O2.2.1,O2.2.2.1,O2.2.2.2.1,SzL.app (k:=824) h5 lo O2.2.2.2.2.1.2 (me1 ⟨h3.1,SzL.tr⟩),O2.2.2.2.2.2.1,O2.2.2.2.2.2.2.1,O2.2.2.2.2.2.2.2⟩,cl,cl,cl,tk2⟩ Z5d
  exact tL ⟨rfl,O0,O1,⟨O2.1,O2.2.1,O2.2.2.1,O2.2.2.2.1,O2.2.2.2.2.1,SzL.nil,O2.2.2.2.2.2.2.1,O2.2.2.2.2.2.2.2⟩,cl,cl,cl,tk3⟩ Z5d
 | L2 E0 E1 E2 v8=>
  obtain⟨al0,O0,O1,O2,cv8,i0,i1,i2⟩:=hs;subst al0;dsimp only [Zpk,Zaoo,LT.den];have q1:=O0.2.2.2.2.2.1.1;apply tD<;>intro h1
  .refine Tot.ix fun x1 h2=>?_;have oh2:Zd1 x1:=O0.2.2.2.2.2.1.2 x1 h2.1;have mh2:=h2.2;refine tB (Z5s oh2) fun x2 h3=>?_;have eh3_1:=h3.2;have q2:=O2.2.2.2.2.2.1.1;refine Tot.ap fun x3 h4=>?_;have lh4:=Zaz h4;have q3:=wr (v8+1);exact tL ⟨rfl,O0,O1,⟨O2.1,O2.2.1,O2.2.2.1,O2.2.2.2.1,O2.2.2.2.2.1,SzL.app (k:=768) h4 lo O2.2.2.2.2.2.1.2 (me1 h3.1),O2.2.2.2.2.2.2.1,O2.2.2.2.2.2.2.2⟩,cl,cl,cl,tk3⟩ Z5d
  exact tL ⟨rfl,O0,O1,⟨O2.1,O2.2.1,O2.2.2.1,O2.2.2.2.1,O2.2.2.2.2.1,O2.2.2.2.2.2.1,SzL.nil,O2.2.2.2.2.2.2.2⟩,cl,cl,cl,tk4⟩ Z5d
 | L3 E0 E1 E2 v10=>
  obtain⟨al0,O0,O1,O2,cv10,i0,i1,i2⟩:=hs;subst al0;dsimp only [Zpk,Zaop,LT.den];have q1:=O0.2.2.2.2.2.2.1.1;apply tD<;>intro h1
  .refine Tot.ix fun x1 h2=>?_;have oh2:Zdp x1:=O0.2.2.2.2.2.2.1.2 x1 h2.1;have mh2:=h2.2;refine tB (Zem oh2.1) fun x2 h3=>?_;have eh3_1:=h3.2;have q2:=oh2.2.1;refine Tot.ap fun x3 h4=>?_;have lh4:x3.length=([]:List Zv).length+x1.Mods.length:=by rw [h4,List.length_append]
   try simp only [List.length_cons,List.length_nil,Nat.zero_add] at lh4
   have q3:=O2.2.2.2.2.2.2.1.1;refine Tot.ap fun x4 h5=>?_;have lh5:=Zaz h5;have q4:=wr (v10+1);exact tL ⟨rfl,O0,O1,⟨O2.1,O2.2.1,O2.2.2.1,O2.2.2.2.1,O2.2.2.2.2.1,O2.2.2.2.2.2.1,SzL.app (k:=80) h5 lo O2.2.2.2.2.2.2.1.2 (me1 ⟨h3.1,SzL.app (k:=176) h4 lo (fun _ h=>by cases h) oh2.2.2⟩),O2.2.2.2.2.2.2.2⟩,cl,cl,cl,tk4⟩ Z5d
  refine tB (Zem O0.2.2.2.2.2.2.2) fun x1 h2=>?_;have eh2_1:=h2.2;exact tR ⟨⟨O2.1,O2.2.1,O2.2.2.1,O2.2.2.2.1,O2.2.2.2.2.1,O2.2.2.2.2.2.1,O2.2.2.2.2.2.2.1,h2.1⟩,(by exact Zbrz ‹_› (by omega) ‹_›)⟩
theorem Zbb9{a0:Za}{a1:Zc}(oa0:Zl a0)(h0:0<=ixO a0.Objects a1.Id):Tot (Zbc8 a0 a1) (fun r=>(Zl r)/\(r={ a0 with Objects:=a0.Objects.set (ixO a0.Objects a1.Id).toNat a1 })):=by
 refine tX (Inv:=fun _=>False) (μ:=fun _=>(0,0,0,0,0,0)) (m:=(1,0,0,0,0,0)) ?_ (fun _ hs=>hs.elim);have lr:=oa0.2.1.1;dsimp only [Za14,LT.den];refine tB (Zban oa0) fun x1 h1=>?_;have eh1_1:=h1.2;have lzh1:=h1.1.2.1.1;refine tB (Zad8 h1.1) fun x2 h2=>?_;have eh2_0:=h2.1;have eh2_1:=h2.2;have lh2:=Z9c x1.Objects a1.Id;apply tD<;>intro h3
 .refine Tot.ix fun x3 h4=>tB (Tot.set (by omega) (by omega)) fun x4 h5=>?_;have vh5:=h5.2.2;exact tR ⟨⟨h1.1.1,SzL.tr,h1.1.2.2.1,h1.1.2.2.2.1,h1.1.2.2.2.2.1,h1.1.2.2.2.2.2.1,h1.1.2.2.2.2.2.2.1,h1.1.2.2.2.2.2.2.2⟩,(by exact Zbr0 ‹_› ‹_› ‹_›)⟩
 exfalso;grind
theorem Zazz{a0:List Zg}{a1:Za}{a2:List Zb}{a3:Zd}(oa0:(SzL 176 Z1) a0)(oa1:Zl a1)(oa2:(SzL 176 Zw) a2)(h0:∀ c,c∈a0->c.Abilities.length<=8)(h1:0<=ixO a1.Objects a3.A)(h2:0<=a3.B)(h3:a3.B < ((abL a0 a1 a2 a3.A).length:Int)):Tot (Zavn a0 a1 a2 a3) (fun r=>(Zbq r)/\(r=efV a0 a1 a2 a3)):=by
 apply tZ;have lz:a3.B < ((abL a0 a1 a2 a3.A).length:Int):=by assumption
 dsimp only [Zaim,LT.den];refine tB (Zrg oa1) fun x1 h1=>?_;have eh1_0:=h1.1;have eh1_1:=h1.2;refine tB (Zz5 oa2) fun x2 h2=>?_;have eh2_1:=h2.2;refine Tot.ix fun x3 h3=>?_;have mh3:=h3.2;have mh3:=h3.2;have zh3:x3.Zone=0->x2.Abilities=abL a0 a1 a2 a3.A:=abR2 ‹_› mh3 (by omega) ‹_›;have yh3:x3.Zone=0->a3.B < (x2.Abilities.length:Int):=fun hz=>by rw [zh3 hz];assumption
 apply tN<;>intro h4
 .refine tB (Zuq oa0 Zaj) fun x4 h5=>?_;have eh5_2:=h5.2.2;have zh5:x4.Abilities=abL a0 a1 a2 a3.A:=abR1 ‹_› ‹_› (by omega) (by omega) ‹_›;have yh5:a3.B < (x4.Abilities.length:Int):=(by rw [zh5];assumption);refine Tot.ix fun x5 h6=>?_;have oh6:Zac x5:=h5.1.2.2.2 x5 h6.1;have mh6:=h6.2;exact tR ⟨oh6.2.2.2.2.2,tk28⟩
 refine Tot.ix fun x4 h5=>?_;have oh5:Zac x4:=h2.1.2.2.2 x4 h5.1;have mh5:=h5.2;exact tR ⟨oh5.2.2.2.2.2,tk28⟩
theorem Zbca{a0:A3 Int}{a1:Int}{a2:Int}:Tot (Zbc9 a0 a1 a2) (fun r=>(r=ctV a0 a1 a2)):=by
 apply tZ;dsimp only [Za16,LT.den];apply tD<;>intro h1
 .apply tD<;>intro h2
  .refine tB (tI (by omega) Zaky) fun x1 h3=>?_;have mh3:=h3.2;exact tB (Znd) fun x2 h4=>tB (tI (by omega) Zaky) fun x3 h5=>tB (Tot.setA3 (by omega) (by omega)) fun x4 h6=>tR tk59
  exact tl87
 exact tl87
def Zm3(a0:List Zg)(a1:Za)(a2:List Zb)(a3:Ze)(a4:Zd):Znc->Prop
 | .L0 E0 E1 E2 E3 E4 v68 v69=>(Zl E0)/\(Zl E2)/\(Zbq E4)/\(apV a0 a1 a2 a3 a4=apR E0 E1 E4)/\(v68=E4.Do)/\(v69=true↔(E4.Do=1\/E4.Do=8))
 | .L1 E0 E1 E2 E3=>(Zl E0)/\(Zl E2)/\(apV a0 a1 a2 a3 a4=amE E0 E1 true)
def Z3g:Znc->M6
 | .L0 E0 E1 E2 E3 E4 v68 v69=>(0,0,0,0,0,0)
 | .L1 E0 E1 E2 E3=>(0,0,0,0,0,0)
theorem Zjh{a0:List Zg}{a1:Za}{a2:List Zb}{a3:Ze}{a4:Zd}{E0:Za}{E1:Ze}{E2:Za}{E3:Ze}(h:(Zm3 a0 a1 a2 a3 a4) (.L1 E0 E1 E2 E3)):Tot (Zjd E0 E1 E2 E3).den (Nx (Zm3 a0 a1 a2 a3 a4) Z3g (0,0,0,0,0,0) (fun r=>(Zl r.1)/\(r=apV a0 a1 a2 a3 a4))):=by
 obtain⟨O0,O2,i0⟩:=h;dsimp only [Zjd,LT.den];apply tD<;>intro h1
 .exact Zav4
 exact Zav4
theorem Z3h{a0:List Zg}{a1:Za}{a2:List Zb}{a3:Ze}{a4:Zd}{E0:Za}{E1:Ze}{E2:Za}{E3:Ze}{E4:Z4}{v68:Int}{v69:Bool}(h:(Zm3 a0 a1 a2 a3 a4) (.L0 E0 E1 E2 E3 E4 v68 v69)):Tot (Zox E0 E1 E2 E3 E4 v68 v69).den (Nx (Zm3 a0 a1 a2 a3 a4) Z3g (0,0,0,0,0,0) (fun r=>(Zl r.1)/\(r=apV a0 a1 a2 a3 a4))):=by
 obtain⟨O0,O2,O4,i0,i1,i2⟩:=h;dsimp only [Zox,LT.den];apply tF<;>intro h1
 .exact Zav4
 apply tE<;>intro h2
 .exact tB (Zao0) fun x1 h3=>tJ (Zjh ⟨O0,O2,tk10⟩)
 apply tE<;>intro h3
 .exact tB (Zbb5) fun x1 h4=>tJ (Zjh ⟨O0,O2,tk10⟩)
 apply tE<;>intro h4
 .exact tB (Znd) fun x1 h5=>tJ (Zjh ⟨O0,O2,tk10⟩)
 apply tE<;>intro h5
 .exact Zav4
 apply tE<;>intro h6
 .exact Zav4
 apply tE<;>intro h7
 .exact tB (Zbca) fun x1 h8=>tR ⟨O0,tk0⟩
 exact tJ (Zjh ⟨O0,O2,tk10⟩)
theorem Za34{a0:List Zg}{a1:Za}{a2:List Zb}{a3:Ze}{a4:Zd}(oa0:(SzL 176 Z1) a0)(oa1:Zl a1)(oa2:(SzL 176 Zw) a2)(h0:Ids a1.Objects)(h1:Zbc a2)(h2:Zdq a0)(h3:∀ c,c∈a0->c.Abilities.length<=8)(h4:a1.Objects.length<=60):Tot (Za18 a0 a1 a2 a3 a4) (fun r=>(Zl r.1)/\(r=apV a0 a1 a2 a3 a4)):=by
 apply Tot.rn (Zm3 a0 a1 a2 a3 a4) Z3g
 .dsimp only [Zaoq,LT.den];refine tB (Zaej oa0 oa1 oa2 ‹_› ‹_› ‹_› Zaj cl) fun x1 h1=>?_;have eh1_1:=h1.2.1;have eh1_2:=h1.2.2;refine tB (Zao3 h1.1) fun x2 h2=>?_;have ah2:=fun hb=>mm (by assumption:x2=true↔a4∈x1) ‹_› hb;apply tO<;>intro h3
  .exact tR ⟨oa1,tk0⟩
  apply tE<;>intro h4
  .refine tB (Zk6 oa1) fun x3 h5=>?_;have ah5:=Zbnm (t:=a1) rfl (by assumption:x3=_) ‹_› ‹_› ‹_› (mm ‹_› ‹_› ‹_›);have q1:=wr (x3.1.Shield - (Zia x3.1.Shield a3.Amount));have q2:=wr (a3.Amount - (Zia x3.1.Shield a3.Amount));refine tB (Zbb9 oa1 Zaj) fun x4 h6=>?_;have eh6_1:=h6.2;apply tD<;>intro h7
   .exact Zbou
   exact Zbou
  refine tB (Zazz oa0 oa1 oa2 Zaj (by exact (Zbfc (e:=a3) ‹_› ‹_› ‹_› ((by assumption:_=true->a4∈opO a0 a1 a2 a3) ‹_›) (by omega)).1) (by exact (Zbfc (e:=a3) ‹_› ‹_› ‹_› ((by assumption:_=true->a4∈opO a0 a1 a2 a3) ‹_›) (by omega)).2.1) (by exact (Zbfc (e:=a3) ‹_› ‹_› ‹_› ((by assumption:_=true->a4∈opO a0 a1 a2 a3) ‹_›) (by omega)).2.2)) fun x3 h5=>?_;have eh5_1:=h5.2;apply tE<;>intro h6
  .exact Zboa
  exact Zboa
 intro s hs;cases s with
 | L0 _ _ _ _ _ _ _=>exact Z3h hs
 | L1 _ _ _ _=>exact Zjh hs
theorem Zajs{a0:Z9}{a1:Z9}(oa0:Zbt a0)(oa1:Zbt a1):Tot (Z85 a0 a1) (fun r=>(a0=a1->r=true)):=by
 apply tZ;dsimp only [Z2k,LT.den];apply tN<;>intro h1
 .exact tR (by exact sm)
 apply tN<;>intro h2
 .exact tR (by exact sm)
 apply tN<;>intro h3
 .exact tR (by exact sm)
 apply tO<;>intro h4
 .exact tR (by exact sm)
 apply tO<;>intro h5
 .exact tR (by exact sm)
 apply tO<;>intro h6
 .exact tR (by exact sm)
 refine tB (Zgx oa0.1 oa1.1) fun x1 h7=>?_;apply tF<;>intro h8
 .refine tB (Zgx oa0.2.1 oa1.2.1) fun x2 h9=>?_;apply tF<;>intro h10
  .exact tB (Zgx oa0.2.2 oa1.2.2) fun x3 h11=>tR (by exact sm)
  exact tR (by exact sm)
 exact tR (by exact sm)
def Zaq2(a0:Zai)(a1:Zai):Zk0->Prop
 | .L0 E0 E1 v5=>(E0=a0)/\(E1=a1)/\(Zcr E0)/\(Zcr E1)/\(0<=v5)/\(E0.Targets.length=E1.Targets.length)
def Zuy:Zk0->M6
 | .L0 E0 E1 v5=>(1,((E0.Targets.length:Int) - v5).toNat,1000000,0,0,0)
theorem Zaq3{a0:Zai}{a1:Zai}(oa0:Zcr a0)(oa1:Zcr a1):Tot (Zaio a0 a1) (fun r=>(a0=a1->r=true)):=by
 apply Tot.rn (Zaq2 a0 a1) Zuy
 .dsimp only [Z86,LT.den];have q1:=oa0.2.1;have q2:=oa1.2.1;apply tN<;>intro h1
  .exact tR (by exact sm)
  exact tL ⟨rfl,rfl,oa0,oa1,cs⟩ (by unfold Zuy lt6;dsimp only;omega)
 rintro ⟨E0,E1,v5⟩ ⟨al0,al1,O0,O1,cv5,i0⟩;subst al0;subst al1;dsimp only [Zvy,Z44,LT.den];have q1:=O0.2.1;apply tD<;>intro h1
 .refine Tot.ix fun x1 h2=>Tot.ix fun x2 h3=>?_;have mh3:=h3.2;apply tO<;>intro h4
  .exact tR (by exact sm)
  have q2:=wr (v5+1);exact tL ⟨rfl,rfl,O0,O1,cs⟩ (by unfold Zuy lt6;dsimp only;omega)
 apply tE<;>intro h2
 .apply tE<;>intro h3
  .apply tE<;>intro h4
   .apply tE<;>intro h5
    .apply tE<;>intro h6
     .apply tF<;>intro h7
      .refine tB (Z24 O0.1 O1.1) fun x1 h8=>?_;apply tF<;>intro h9
       .exact tR (by exact sm)
       exact tR (by exact sm)
      exact tR (by exact sm)
     exact tR (by exact sm)
    exact tR (by exact sm)
   exact tR (by exact sm)
  exact tR (by exact sm)
 exact tR (by exact sm)
theorem Zaev{a0:Zad}{a1:Zad}(oa0:Zd1 a0)(oa1:Zd1 a1):Tot (Z45 a0 a1) (fun r=>(a0=a1->r=true)):=by
 apply tZ;dsimp only [Z0h,LT.den];apply tE<;>intro h1
 .apply tE<;>intro h2
  .refine tB (Z24 oa0 oa1) fun x1 h3=>?_;apply tF<;>intro h4
   .exact tR (by exact sm)
   exact tR (by exact sm)
  exact tR (by exact sm)
 exact tR (by exact sm)
def Zaq4(a0:List Zv)(a1:List Zv):Zk1->Prop
 | .L0 v0 v1 v5=>(v0=a0)/\(v1=a1)/\((SzL 176 Zax) v0)/\((SzL 176 Zax) v1)/\(0<=v5)/\(v0.length=v1.length)
def Zuz:Zk1->M6
 | .L0 v0 v1 v5=>(1,((v0.length:Int) - v5).toNat,1000000,0,0,0)
theorem Zaq5{a0:List Zv}{a1:List Zv}(oa0:(SzL 176 Zax) a0)(oa1:(SzL 176 Zax) a1):Tot (Zaiq a0 a1) (fun r=>(a0=a1->r=true)):=by
 apply Tot.rn (Zaq4 a0 a1) Zuz
 .have lb_a1:=oa1.1;dsimp only [Z87,LT.den];have q1:=oa1.1;apply tN<;>intro h1
  .exact tR (by exact sm)
  exact tL ⟨rfl,rfl,oa0,oa1,cs⟩ (by unfold Zuz lt6;dsimp only;omega)
 rintro ⟨v0,v1,v5⟩ ⟨al0,al1,ov0,ov1,cv5,i0⟩;have lb_v0:=ov0.1;have lb_v1:=ov1.1;subst al0;subst al1;dsimp only [Zvz,Z46,LT.den];apply tD<;>intro h1
 .refine Tot.ix fun x1 h2=>Tot.ix fun x2 h3=>?_;have mh3:=h3.2;apply tO<;>intro h4
  .exact tR (by exact sm)
  have q1:=wr (v5+1);exact tL ⟨rfl,rfl,ov0,ov1,cs⟩ (by unfold Zuz lt6;dsimp only;omega)
 exact tR (by exact sm)
theorem Zaq6{a0:Zap}{a1:Zap}(oa0:Zdp a0)(oa1:Zdp a1):Tot (Zair a0 a1) (fun r=>(a0=a1->r=true)):=by
 apply tZ;dsimp only [Z88,LT.den];apply tE<;>intro h1
 .apply tE<;>intro h2
  .apply tE<;>intro h3
   .apply tE<;>intro h4
    .refine tB (Zgx oa0.1 oa1.1) fun x1 h5=>?_;apply tF<;>intro h6
     .exact tB (Zaq5 oa0.2 oa1.2) fun x2 h7=>tR (by exact sm)
     exact tR (by exact sm)
    exact tR (by exact sm)
   exact tR (by exact sm)
  exact tR (by exact sm)
 exact tR (by exact sm)
def Za35(a0:Za)(a1:Za):Zhs->Prop
 | .L0 E0 E1 v5=>(E0=a0)/\(E1=a1)/\(Zl E0)/\(Zl E1)/\(0<=v5)/\(E0.Players.length=E1.Players.length)/\(E0.Objects.length=E1.Objects.length)/\(E0.Stack.length=E1.Stack.length)/\(E0.Waiting.length=E1.Waiting.length)/\(E0.Conts.length=E1.Conts.length)
 | .L1 E0 E1 v6=>(E0=a0)/\(E1=a1)/\(Zl E0)/\(Zl E1)/\(0<=v6)/\(E0.Players.length=E1.Players.length)/\(E0.Objects.length=E1.Objects.length)/\(E0.Stack.length=E1.Stack.length)/\(E0.Waiting.length=E1.Waiting.length)/\(E0.Conts.length=E1.Conts.length)
 | .L2 E0 E1 v7=>(E0=a0)/\(E1=a1)/\(Zl E0)/\(Zl E1)/\(0<=v7)/\(E0.Players.length=E1.Players.length)/\(E0.Objects.length=E1.Objects.length)/\(E0.Stack.length=E1.Stack.length)/\(E0.Waiting.length=E1.Waiting.length)/\(E0.Conts.length=E1.Conts.length)
 | .L3 E0 E1 v8=>(E0=a0)/\(E1=a1)/\(Zl E0)/\(Zl E1)/\(0<=v8)/\(E0.Players.length=E1.Players.length)/\(E0.Objects.length=E1.Objects.length)/\(E0.Stack.length=E1.Stack.length)/\(E0.Waiting.length=E1.Waiting.length)/\(E0.Conts.length=E1.Conts.length)
 | .L4 E0 E1 v9=>(E0=a0)/\(E1=a1)/\(Zl E0)/\(Zl E1)/\(0<=v9)/\(E0.Players.length=E1.Players.length)/\(E0.Objects.length=E1.Objects.length)/\(E0.Stack.length=E1.Stack.length)/\(E0.Waiting.length=E1.Waiting.length)/\(E0.Conts.length=E1.Conts.length)
def Z3i:Zhs->M6
 | .L0 E0 E1 v5=>(9,((E0.Players.length:Int) - v5).toNat,1000000,0,0,0)
 | .L1 E0 E1 v6=>(7,((E0.Objects.length:Int) - v6).toNat,1000000,0,0,0)
 | .L2 E0 E1 v7=>(5,((E0.Stack.length:Int) - v7).toNat,1000000,0,0,0)
 | .L3 E0 E1 v8=>(3,((E0.Waiting.length:Int) - v8).toNat,1000000,0,0,0)
 | .L4 E0 E1 v9=>(1,((E0.Conts.length:Int) - v9).toNat,1000000,0,0,0)
theorem Za36{a0:Za}{a1:Za}(oa0:Zl a0)(oa1:Zl a1):Tot (Za19 a0 a1) (fun r=>(a0=a1->r=true)):=by
 apply Tot.rn (Za35 a0 a1) Z3i
 .dsimp only [Zaos,LT.den];have q1:=oa0.1.1;have q2:=oa1.1.1;apply tN<;>intro h1
  .exact tR (by exact sm)
  have q3:=oa1.2.1.1;apply tN<;>intro h2
  .exact tR (by exact sm)
  have q4:=oa1.2.2.2.2.1.1;apply tN<;>intro h3
  .exact tR (by exact sm)
  have q5:=oa0.2.2.2.2.2.1.1;have q6:=oa1.2.2.2.2.2.1.1;apply tN<;>intro h4
  .exact tR (by exact sm)
  have q7:=oa1.2.2.2.2.2.2.1.1;apply tN<;>intro h5
  .exact tR (by exact sm)
  exact tL ⟨rfl,rfl,oa0,oa1,cs⟩ (by unfold Z3i lt6;dsimp only;omega)
 intro s hs;cases s with
 | L0 E0 E1 v5=>
  obtain⟨al0,al1,O0,O1,cv5,i0,i1,i2,i3,i4⟩:=hs;subst al0;subst al1;dsimp only [Zkc,Zais,LT.den];have q1:=O0.1.1;apply tD<;>intro h1
  .refine Tot.ix fun x1 h2=>?_;have oh2:Zbt x1:=O0.1.2 x1 h2.1;refine Tot.ix fun x2 h3=>?_;have oh3:Zbt x2:=O1.1.2 x2 h3.1;have mh3:=h3.2;refine tB (Zajs oh2 oh3) fun x3 h4=>?_;apply tO<;>intro h5
   .exact tR (by exact sm)
   have q2:=wr (v5+1);exact tl63
  exact tl63
 | L1 E0 E1 v6=>
  obtain⟨al0,al1,O0,O1,cv6,i0,i1,i2,i3,i4⟩:=hs;subst al0;subst al1;dsimp only [Zkc,Zait,LT.den];have q1:=O0.2.1.1;apply tD<;>intro h1
  .refine Tot.ix fun x1 h2=>Tot.ix fun x2 h3=>?_;have mh3:=h3.2;apply tO<;>intro h4
   .exact tR (by exact sm)
   have q2:=wr (v6+1);exact tl63
  exact tl63
 | L2 E0 E1 v7=>
  obtain⟨al0,al1,O0,O1,cv7,i0,i1,i2,i3,i4⟩:=hs;subst al0;subst al1;dsimp only [Zkc,Zaiu,LT.den];have q1:=O0.2.2.2.2.1.1;apply tD<;>intro h1
  .refine Tot.ix fun x1 h2=>?_;have oh2:Zcr x1:=O0.2.2.2.2.1.2 x1 h2.1;refine Tot.ix fun x2 h3=>?_;have oh3:Zcr x2:=O1.2.2.2.2.1.2 x2 h3.1;have mh3:=h3.2;refine tB (Zaq3 oh2 oh3) fun x3 h4=>?_;apply tO<;>intro h5
   .exact tR (by exact sm)
   have q2:=wr (v7+1);exact tl63
  exact tl63
 | L3 E0 E1 v8=>
  obtain⟨al0,al1,O0,O1,cv8,i0,i1,i2,i3,i4⟩:=hs;subst al0;subst al1;dsimp only [Zkc,Zaiv,LT.den];have q1:=O0.2.2.2.2.2.1.1;apply tD<;>intro h1
  .refine Tot.ix fun x1 h2=>?_;have oh2:Zd1 x1:=O0.2.2.2.2.2.1.2 x1 h2.1;refine Tot.ix fun x2 h3=>?_;have oh3:Zd1 x2:=O1.2.2.2.2.2.1.2 x2 h3.1;have mh3:=h3.2;refine tB (Zaev oh2 oh3) fun x3 h4=>?_;apply tO<;>intro h5
   .exact tR (by exact sm)
   have q2:=wr (v8+1);exact tl63
  exact tl63
 | L4 E0 E1 v9=>
  obtain⟨al0,al1,O0,O1,cv9,i0,i1,i2,i3,i4⟩:=hs;subst al0;subst al1;dsimp only [Zkc,Zaiw,LT.den];have q1:=O0.2.2.2.2.2.2.1.1;apply tD<;>intro h1
  .refine Tot.ix fun x1 h2=>?_;have oh2:Zdp x1:=O0.2.2.2.2.2.2.1.2 x1 h2.1;refine Tot.ix fun x2 h3=>?_;have oh3:Zdp x2:=O1.2.2.2.2.2.2.1.2 x2 h3.1;have mh3:=h3.2;refine tB (Zaq6 oh2 oh3) fun x3 h4=>?_;apply tO<;>intro h5
   .exact tR (by exact sm)
   have q2:=wr (v9+1);exact tl63
  exact tR (by exact sm)
theorem Z3j{a0:Za}{a1:Za}(oa0:Zl a0)(oa1:Zl a1):Tot (Za82 a0 a1) (fun r=>(a0=a1->r=true)):=by
 apply tZ;dsimp only [Zavr,LT.den];apply tN<;>intro h1
 .exact tR (by exact sm)
 apply tN<;>intro h2
 .exact tR (by exact sm)
 apply tN<;>intro h3
 .exact tR (by exact sm)
 apply tO<;>intro h4
 .exact tR (by exact sm)
 apply tN<;>intro h5
 .exact tR (by exact sm)
 apply tN<;>intro h6
 .exact tR (by exact sm)
 apply tN<;>intro h7
 .exact tR (by exact sm)
 apply tN<;>intro h8
 .exact tR (by exact sm)
 apply tN<;>intro h9
 .exact tR (by exact sm)
 apply tN<;>intro h10
 .exact tR (by exact sm)
 apply tN<;>intro h11
 .exact tR (by exact sm)
 refine tB (Za36 oa0 oa1) fun x1 h12=>?_;apply tF<;>intro h13
 .refine tB (Zgx oa0.2.2.1 oa1.2.2.1) fun x2 h14=>?_;apply tF<;>intro h15
  .refine tB (Zgx oa0.2.2.2.1 oa1.2.2.2.1) fun x3 h16=>?_;apply tF<;>intro h17
   .exact tB (Zgx oa0.2.2.2.2.2.2.2 oa1.2.2.2.2.2.2.2) fun x4 h18=>tR (by exact sm)
   exact tR (by exact sm)
  exact tR (by exact sm)
 exact tR (by exact sm)
def Zab8:Zhz->Prop
 | .L0 v0 E0 E1 v7 v8 v9=>((SzL 176 Z1) v0)/\(Zl E0)/\((SzL 176 Zw) v7)/\((SzL 24 (fun _=>True)) v8)/\(0<=v9)/\(Ids E0.Objects)/\(Zbc v7)/\(Zdq v0)/\(∀ c,c∈v0->c.Abilities.length<=8)/\(E0.Objects.length<=60)
def Znp:Zhz->M6
 | .L0 v0 E0 E1 v7 v8 v9=>(1,((v8.length:Int) - v9).toNat,1000000,0,0,0)
theorem Zab9{a0:List Zg}{a1:Za}{a2:Zbm}(oa0:(SzL 176 Z1) a0)(oa1:Zl a1):Tot (Z2m a0 a1 a2) (fun r=>(r=true)):=by
 apply Tot.rn Zab8 Znp
 .dsimp only [Zya,LT.den];refine tB (Zm0 oa0 oa1) fun x1 h1=>?_;have eh1_0:=h1.1;have eh1_1:=h1.2.1;have eh1_2:=h1.2.2.1;have eh1_3:=h1.2.2.2;apply tO<;>intro h2
  .exact tl94
  have h2_0:=eh1_0 h2;have h2_1:=eh1_1 h2;have h2_2:=eh1_2 h2;refine tB (Zq1 oa0 oa1 Zaj cl cl ‹_›) fun x2 h3=>?_;have eh3_2:=h3.2.2;refine tB (Zajr oa0 oa1 h3.1 SzL.nil ‹_› ‹_› ‹_› Zaj cl) fun x3 h4=>?_;try simp only [List.length_nil,List.length_cons,Nat.zero_add] at eh4_1
  refine Tot.ap fun x4 h5=>?_;have lh5:x4.length=([]:List Zd).length+x3.length:=by rw [h5,List.length_append]
  try simp only [List.length_cons,List.length_nil,Nat.zero_add] at lh5
  refine Tot.ap fun x5 h6=>?_;have lh6:=Zaz h6;exact tL ⟨oa0,oa1,h3.1,SzL.tr,cl,‹_›,‹_›,‹_›,Zaj,cl⟩ (by unfold Znp lt6;dsimp only;omega)
 rintro ⟨v0,E0,E1,v7,v8,v9⟩ ⟨ov0,O0,ov7,ov8,cv9,i0,i1,i2,i3,i4⟩;have lb_v8:=ov8.1;dsimp only [Zoy,Zu7,LT.den];apply tD<;>intro h1
 .refine Tot.ix fun x1 h2=>tB (Zgz ov0 O0 ov7 ‹_› ‹_› ‹_› Zaj cl) fun x2 h3=>tB (Za34 ov0 O0 ov7 ‹_› ‹_› ‹_› Zaj cl) fun x3 h4=>tB (Z3j h3.1 h4.1) fun x4 h5=>?_;apply tO<;>intro h6
  .exact Zh0
  apply tO<;>intro h7
  .exact Zh0
  apply tO<;>intro h8
  .exact Zh0
  have q1:=wr (v9+1);exact tL ⟨ov0,O0,ov7,ov8,cl,‹_›,‹_›,‹_›,Zaj,cl⟩ (by unfold Znp lt6;dsimp only;omega)
 exact tl95
theorem Z7e{a0:List Zg}{a1:Za}{a2:Ze}(oa0:(SzL 176 Z1) a0)(oa1:Zl a1):Tot (Zyb a0 a1 a2) (fun r=>(r=true)):=by
 apply tZ;dsimp only [Zt5,LT.den];refine tB (Zm0 oa0 oa1) fun x1 h1=>?_;have eh1_0:=h1.1;have eh1_1:=h1.2.1;have eh1_2:=h1.2.2.1;have eh1_3:=h1.2.2.2;apply tO<;>intro h2
 .exact tl94
 have h2_0:=eh1_0 h2;have h2_1:=eh1_1 h2;have h2_2:=eh1_2 h2;have h2_3:=eh1_3 h2;apply tN<;>intro h3
 .exact tB (Zen) fun x2 h4=>tR Zzd
 apply tE<;>intro h4
 .exact tB (Zen) fun x2 h5=>tR Zzd
 refine tB (Zab6 oa0 oa1) fun x2 h5=>?_;apply tO<;>intro h6
 .exact tB (Zen) fun x3 h7=>tR Zzd
 refine tB (Zq1 oa0 oa1 Zaj cl cl ‹_›) fun x3 h7=>?_;have eh7_2:=h7.2.2;refine tB (Zk6 oa1) fun x4 h8=>?_;first | (have sh8:=sh_2 (by assumption:_=(⟨12,a2.Object,-1⟩:Zd)) ‹_› ‹_› (by assumption:_=evB a0 a1 a2) ‹_› (by omega) (by assumption:x4=_) ‹_› ‹_› ‹_› ‹_› (by assumption:x4=_);have sah8:=sh8.a;have sbh8:=sh8.b;have sch8:=sh8.c;have sdh8:=sh8.d;have seh8:=sh8.f;have sfh8:=sh8.g) | skip
 apply tO<;>intro h9
 .exact tB (Zen) fun x5 h10=>tR Zzd
 apply tE<;>intro h10
 .exact tB (Zen) fun x5 h11=>tR Zzd
 refine tB (Zed oa0 oa1 h7.1 SzL.nil ‹_› ‹_› ‹_› Zaj cl) fun x5 h11=>?_;have eh11_2:=h11.2.2;obtain⟨th11,wh11⟩:=sh_0 (by assumption:x5=_) ((by assumption:_=evB a0 a1 a2).symm.trans ‹_›) (by omega) (by omega) (by assumption:_=fdV a1.Objects a2.Object) ‹_› (by omega) ‹_›;have lh11:0 < x5.length:=(by rw [wh11];exact Nat.succ_pos _);apply tE<;>intro h12
 .exact Zh0
 refine Tot.ix fun x6 h13=>?_;have mh13:=h13.2;have mh13:=h13.2;have yh13:x6=_:=sh_i ‹_› mh13;apply tO<;>intro h14
 .exact Zh0
 refine tB (Zgz oa0 oa1 h7.1 ‹_› ‹_› ‹_› Zaj cl) fun x7 h15=>?_;have eh15_1:=h15.2;refine tB (Zk6 h15.1) fun x8 h16=>?_;first | (have sh16:=sh_2 (by assumption:_=(⟨12,a2.Object,-1⟩:Zd)) ‹_› ‹_› (by assumption:_=evB a0 a1 a2) ‹_› (by omega) (by assumption:x4=_) ‹_› ‹_› ‹_› ‹_› (by assumption:x8=_);have sah16:=sh16.a;have sbh16:=sh16.b;have sch16:=sh16.c;have sdh16:=sh16.d;have seh16:=sh16.f;have sfh16:=sh16.g) | skip
 apply tF<;>intro h17
 .apply tD<;>intro h18
  .apply tD<;>intro h19
   .have q1:=wr (x4.1.Shield - x8.1.Shield);have q2:=wr (a2.Amount - x7.2.1.Amount);apply tE<;>intro h20
    .apply tE<;>intro h21
     .apply tF<;>intro h22
      .exact tB (Zen) fun x9 h23=>tR Zzd
      exact Zh0
     apply tE<;>intro h22
     .apply tF<;>intro h23
      .exact tB (Zen) fun x9 h24=>tR Zzd
      exact Zh0
     exact Zh0
    exact Zh0
   exact Zh0
  exact Zh0
 exact Zh0
def Zmc:Zf8->Prop
 | .L0 v0 E0 E1 v7 v8 v9=>((SzL 176 Z1) v0)/\(Zl E0)/\((SzL 176 Zw) v7)/\((SzL 24 (fun _=>True)) v8)/\(0<=v9)/\(Ids E0.Objects)/\(Zbc v7)/\(Zdq v0)/\(∀ c,c∈v0->c.Abilities.length<=8)/\(E0.Objects.length<=60)
 | .L1 v0 E0 E1 v7 v8 v9 E2 v12=>((SzL 176 Z1) v0)/\(Zl E0)/\((SzL 176 Zw) v7)/\((SzL 24 (fun _=>True)) v8)/\(0<=v9)/\(v9 < (v8.length:Int))/\(Ids E0.Objects)/\(Zbc v7)/\(Zdq v0)/\(∀ c,c∈v0->c.Abilities.length<=8)/\(E0.Objects.length<=60)/\(KdT E1.Event E2 v12)
def Zhb:Zf8->M6
 | .L0 v0 E0 E1 v7 v8 v9=>(1,((v8.length:Int) - v9).toNat,1000000,0,0,0)
 | .L1 v0 E0 E1 v7 v8 v9 E2 v12=>(1,((v8.length:Int) - v9).toNat,0,0,0,0)
theorem Zps{v0:List Zg}{E0:Za}{E1:Zbm}{v7:List Zb}{v8:List Zd}{v9:Int}{E2:Ze}{v12:Bool}(h:Zmc (.L1 v0 E0 E1 v7 v8 v9 E2 v12)):Tot (Zha v0 E0 E1 v7 v8 v9 E2 v12).den (Nx Zmc Zhb (1,((v8.length:Int) - v9).toNat,0,0,0,0) (fun r=>(r=true))):=by
 obtain⟨ov0,O0,ov7,ov8,cv9,bd5,i0,i1,i2,i3,i4,i5⟩:=h;have lb_v8:=ov8.1;dsimp only [Zha,LT.den];have lx_0:v8.length*24<=140737488351232:=ov8.1;apply tF<;>intro h1
 .apply tN<;>intro h2
  .exact Zh0
  apply tN<;>intro h3
  .exact Zh0
  apply tN<;>intro h4
  .exact Zh0
  apply tN<;>intro h5
  .exact Zh0
  apply tO<;>intro h6
  .apply tO<;>intro h7
   .exact Zh0
   exact Za4t
  exact Za4t
 apply tO<;>intro h2
 .apply tO<;>intro h3
  .exact Zh0
  exact Za4t
 exact Za4t
theorem Zaca{a0:List Zg}{a1:Za}{a2:Zbm}(oa0:(SzL 176 Z1) a0)(oa1:Zl a1):Tot (Z2n a0 a1 a2) (fun r=>(r=true)):=by
 apply Tot.rn Zmc Zhb
 .dsimp only [Zyc,LT.den];refine tB (Zm0 oa0 oa1) fun x1 h1=>?_;have eh1_0:=h1.1;have eh1_1:=h1.2.1;have eh1_2:=h1.2.2.1;have eh1_3:=h1.2.2.2;apply tO<;>intro h2
  .exact tl94
  have h2_0:=eh1_0 h2;have h2_1:=eh1_1 h2;have h2_2:=eh1_2 h2;refine tB (Zq1 oa0 oa1 Zaj cl cl ‹_›) fun x2 h3=>?_;have eh3_2:=h3.2.2;refine tB (Zed oa0 oa1 h3.1 SzL.nil ‹_› ‹_› ‹_› Zaj cl) fun x3 h4=>Tot.ap fun x4 h5=>?_;have lh5:x4.length=([]:List Zd).length+x3.length:=by rw [h5,List.length_append]
  try simp only [List.length_cons,List.length_nil,Nat.zero_add] at lh5
  refine Tot.ap fun x5 h6=>?_;have lh6:=Zaz h6;exact tL ⟨oa0,oa1,h3.1,SzL.tr,cl,‹_›,‹_›,‹_›,Zaj,cl⟩ (by unfold Zhb lt6;dsimp only;omega)
 intro s hs;cases s with
 | L0 v0 E0 E1 v7 v8 v9=>
  obtain⟨ov0,O0,ov7,ov8,cv9,i0,i1,i2,i3,i4⟩:=hs;dsimp only [Zoz,Zu8,LT.den,Zhb];apply tD<;>intro h1
  .refine Tot.ix fun x1 h2=>tB (Zgz ov0 O0 ov7 ‹_› ‹_› ‹_› Zaj cl) fun x2 h3=>?_;have eh3_1:=h3.2;have wh3:=fun hB=>Zbv3 (by assumption:x2=_) hB;apply tN<;>intro h4
   .refine tB (Z3j h3.1 O0) fun x3 h5=>?_;apply tO<;>intro h6
    .exact Zh0
    exact Zbn2
   exact Zbn2
  exact tl95
 | L1 _ _ _ _ _ _ _ _=>exact Zps hs
theorem Z0y{a0:List Zg}{a1:Za}{a2:Zbm}(oa0:(SzL 176 Z1) a0)(oa1:Zl a1):Tot (Zsn a0 a1 a2) (fun r=>(r=true)):=by
 apply tZ;dsimp only [Zpq,LT.den];refine tB (Zm0 oa0 oa1) fun x1 h1=>?_;have eh1_0:=h1.1;have eh1_1:=h1.2.1;have eh1_2:=h1.2.2.1;have eh1_3:=h1.2.2.2;apply tO<;>intro h2
 .exact tl94
 have h2_0:=eh1_0 h2;have h2_1:=eh1_1 h2;have h2_2:=eh1_2 h2;refine tB (Zab6 oa0 oa1) fun x2 h3=>?_;apply tF<;>intro h4
 .exact tB (Zen) fun x3 h5=>tR Zzd
 refine tB (Zq1 oa0 oa1 Zaj cl cl ‹_›) fun x3 h5=>?_;have eh5_2:=h5.2.2;refine tB (Zgz oa0 oa1 h5.1 ‹_› ‹_› ‹_› Zaj cl) fun x4 h6=>?_;have eh6_1:=h6.2;have wh6:=im_1 (by assumption:_=evB _ _ _) ‹_› (by assumption:x4=_);refine tB (Zed oa0 oa1 h5.1 SzL.nil ‹_› ‹_› ‹_› Zaj cl) fun x5 h7=>?_;have eh7_2:=h7.2.2;have wh7:=im_2 (by assumption:_=evB _ _ _) ‹_› (by assumption:x5=_);apply tE<;>intro h8
 .refine tB (Z3j h6.1 oa1) fun x6 h9=>?_;apply tF<;>intro h10
  .apply tF<;>intro h11
   .apply tF<;>intro h12
    .exact tB (Zen) fun x7 h13=>tR Zzd
    exact Zh0
   exact Zh0
  exact Zh0
 exact Zh0
end Go.PW
