import Derived.Test.YtchddhcajpagjaaGreatQXb
set_option linter.all false
set_option maxRecDepth 100000
namespace Go.PW
abbrev Zuj(b0:Zc)(a1:Int)(r:(List Int)×Zc):Prop:=((SzL 8 (fun _=>True)) r.1)/\(Z2 r.2)/\(r.2.traits.length=r.2.s.Objects.length)/\(r.2.dropped.length=r.2.s.Objects.length)/\(r.2.done.length=r.2.forces.length)/\(r.2.hits.length=r.2.forces.length)/\(r.2.s.Objects.length<=2048)/\(r.2.forces.length<=16448)/\(HI r.2.s.Objects.length r.2.hits)/\(r.2.s=b0.s)/\(r.2.forces=b0.forces)/\(r=Z1p b0 a1)
def Zup(b0:Zc)(a1:Int):Zcq->Prop
 | .L0 c0 v1 v5 v6 v7 v18 v19 v20=>(v1=a1)/\(Z2 c0)/\((SzL 8 (fun _=>True)) v5)/\((SzL 8 (fun _=>True)) v6)/\((SzL 8 (fun _=>True)) v7)/\((SzL 224 Zbt) v18)/\(0<=v20)/\(c0.traits.length=c0.s.Objects.length)/\(c0.dropped.length=c0.s.Objects.length)/\(c0.done.length=c0.forces.length)/\(c0.hits.length=c0.forces.length)/\(c0.s.Objects.length<=2048)/\(c0.forces.length<=16448)/\(HI c0.s.Objects.length c0.hits)/\(c0.s.Objects.length=b0.s.Objects.length)/\(c0.forces.length=b0.forces.length)/\(c0.s=b0.s)/\(c0.forces=b0.forces)/\(v19=(v18.length:Int))/\(v19=(c0.forces.length:Int))/\(v5.length<=v20.toNat)/\(v7.length<=v20.toNat)/\(v20<=v19)/\(v6.length=0)/\(INR b0.forces.length v5)/\(Zd4 c0.s.Objects)/\(c0=(if v1=7 then Zt5 b0 else b0))/\(v18=b0.forces)/\(v5=zfm (fun _ f=>belB f v1) (fun k _=>k) v18 v20)/\(v7=(v18.take v20.toNat).map fun f=>f.Stamp)
 | .L1 c0 v1 v5 v6 v7=>(v1=a1)/\(Z2 c0)/\((SzL 8 (fun _=>True)) v5)/\((SzL 8 (fun _=>True)) v6)/\((SzL 8 (fun _=>True)) v7)/\(c0.traits.length=c0.s.Objects.length)/\(c0.dropped.length=c0.s.Objects.length)/\(c0.done.length=c0.forces.length)/\(c0.hits.length=c0.forces.length)/\(c0.s.Objects.length<=2048)/\(c0.forces.length<=16448)/\(HI c0.s.Objects.length c0.hits)/\(c0.s.Objects.length=b0.s.Objects.length)/\(c0.forces.length=b0.forces.length)/\(c0.s=b0.s)/\(c0.forces=b0.forces)/\(v6.length+v5.length<=b0.forces.length)/\(v7.length<=16448)/\(INR b0.forces.length v5)/\(Zd4 c0.s.Objects)/\(v5.Nodup)/\(v7=b0.forces.map fun f=>f.Stamp)/\(STG b0 v1 c0 v5 v6)/\(v6.length+v5.length=(Zr7 b0.forces v1).length)
def Zmh:Zcq->M6
 | .L0 c0 v1 v5 v6 v7 v18 v19 v20=>(1,(v19 - v20).toNat,0,0,0,0)
 | .L1 c0 v1 v5 v6 v7=>(0,v5.length,0,0,0,0)
theorem Zuq{b0:Zc}{a1:Int}(ob0:Z2 b0)(h0:b0.traits.length=b0.s.Objects.length)(h1:b0.dropped.length=b0.s.Objects.length)(h2:b0.done.length=b0.forces.length)(h3:b0.hits.length=b0.forces.length)(h4:b0.s.Objects.length<=2048)(h5:b0.forces.length<=16448)(h6:HI b0.s.Objects.length b0.hits)(h7:Zd4 b0.s.Objects):Tot (Zoe b0 a1) (Zuj b0 a1):=by
 apply Tot.rn (Zup b0 a1) Zmh
 .dsimp only [Zmo,LT.den];apply tE<;>intro h1
  .refine tB (Zun ob0 cl cl cl cl cl cl Zbs) fun x1 h2=>?_;have eh2_1:=h2.2.1;have eh2_2:=h2.2.2.1;have eh2_3:=h2.2.2.2.1;have eh2_4:=h2.2.2.2.2.1;have eh2_5:=h2.2.2.2.2.2.1;have eh2_6:=h2.2.2.2.2.2.2.1;have eh2_7:=h2.2.2.2.2.2.2.2.1;have eh2_8:=h2.2.2.2.2.2.2.2.2.1;have eh2_9:=h2.2.2.2.2.2.2.2.2.2.1;have eh2_10:=h2.2.2.2.2.2.2.2.2.2.2;have q1:=h2.1.2.1.1;exact tL ⟨rfl,h2.1,SzL.nil,SzL.nil,SzL.nil,h2.1.2.1,cl,cl,cl,cl,cl,cl,cl,Zbs,Ziw,Ziw,Zco,Zco,cl,cl,cl,cl,cl,cl,tk39,Ze6,tk71,Zai,tk24,tk59⟩ Zaes
  have q1:=ob0.2.1.1;exact tL ⟨rfl,ob0,SzL.nil,SzL.nil,SzL.nil,ob0.2.1,cl,cl,cl,cl,cl,cl,cl,Zbs,Ziw,Ziw,Zco,Zco,cl,cl,cl,cl,cl,cl,tk39,Ze6,tk71,Zai,tk24,tk59⟩ Zaes
 intro s hs;cases s with
 | L0 c0 v1 v5 v6 v7 v18 v19 v20=>
  obtain⟨al0,oc0,ov5,ov6,ov7,ov18,cv20,i0,i1,i2,i3,i4,i5,i6,i7,i8,i9,i10,i11,i12,i13,i14,i15,i16,i17,i18,i19,i20,i21,i22⟩:=hs;have lb_v5:=ov5.1;have lb_v6:=ov6.1;have lb_v7:=ov7.1;subst al0;dsimp only [Zfd,Zl6,LT.den];apply tD<;>intro h1
  .refine Tot.ix fun x1 h2=>?_;have oh2:Zbt x1:=ov18.2 x1 h2.1;have mh2:=h2.2;have q1:=ov7.1;refine Tot.ap fun x2 h3=>?_;have lh3:=Zb7 h3;refine tB (Zae9 oh2) fun x3 h4=>?_;apply tF<;>intro h5
   .have q2:=ov5.1;refine Tot.ap fun x4 h6=>?_;have lh6:=Zb7 h6;have q3:=wr (v20+1);exact tL ⟨rfl,oc0,SzL.tr,ov6,SzL.tr,ov18,cl,cl,cl,cl,cl,cl,cl,Zbs,Ziw,Ziw,Zco,Zco,cl,cl,cl,cl,cl,cl,tk39,Ze6,tk71,Zai,tk24,tk59⟩ Zaes
   have q2:=wr (v20+1);exact tL ⟨rfl,oc0,ov5,ov6,SzL.tr,ov18,cl,cl,cl,cl,cl,cl,cl,Zbs,Ziw,Ziw,Zco,Zco,cl,cl,cl,cl,cl,cl,tk39,Ze6,tk71,Zai,tk24,tk59⟩ Zaes
  exact tL ⟨rfl,oc0,ov5,ov6,ov7,cl,cl,cl,cl,cl,cl,Zbs,Ziw,Ziw,Zco,Zco,cl,cl,tk39,Ze6,tk72,tk88,tk18,tk29⟩ Zaes
 | L1 c0 v1 v5 v6 v7=>
  obtain⟨al0,oc0,ov5,ov6,ov7,i0,i1,i2,i3,i4,i5,i6,i7,i8,i9,i10,i11,i12,i13,i14,i15,i16,i17,i18⟩:=hs;have lb_v5:=ov5.1;have lb_v6:=ov6.1;have lb_v7:=ov7.1;subst al0;dsimp only [Zfd,Zl7,LT.den];apply tD<;>intro h1
  .refine tB (Zp8 oc0 ov5 cl cl cl cl cl cl Zbs cl (by first | assumption | exact Zbhb V O) Ze6) fun x1 h2=>?_;have eh2_1:=h2.2;refine tB (Zan5 ov5 ov7 h2.1 cl Zaet) fun x2 h3=>?_;have eh3_0:=h3.1;have eh3_1:=h3.2;have wh3:=Zbhc (by assumption:INR b0.forces.length v5) (by assumption:x2 < 0\/x2∈v5);apply tD<;>intro h4
   .exact Zbdh
   refine tB (Zk9 oc0 cl cl cl cl cl cl Zbs cl cl Ze6) fun x3 h5=>?_;have eh5_1:=h5.2.1;have eh5_2:=h5.2.2.1;have eh5_3:=h5.2.2.2.1;have eh5_4:=h5.2.2.2.2.1;have eh5_5:=h5.2.2.2.2.2.1;have eh5_6:=h5.2.2.2.2.2.2.1;have eh5_7:=h5.2.2.2.2.2.2.2.1;have eh5_8:=h5.2.2.2.2.2.2.2.2.1;have eh5_10:=h5.2.2.2.2.2.2.2.2.2.2;have q1:=ov6.1;refine Tot.ap fun x4 h6=>?_;have lh6:=Zb7 h6;refine tB (Zga ov5) fun x5 h7=>?_;have eh7_1:=h7.2;have sh7:=flt_sub' (by assumption:x5=_);have lh7:=flt_lt' (by assumption:x5=_) V V;exact tL ⟨rfl,h5.1,h7.1,SzL.tr,ov7,cl,cl,cl,cl,cl,cl,Zbs,Ziw,Ziw,Zco,Zco,cl,cl,tk39,Ze6,tk72,tk88,tk18,tk29⟩ Zaes
  exact Zbdh
abbrev Zaqc(a0:List Zm)(a1:Zk)(r:List Zb):Prop:=((SzL 176 Zz) r)/\(r.length=a1.Objects.length)/\(r=(Zpg a0 a1 8).traits)
def Zats(a0:List Zm)(a1:Zk):Zrb->Prop
 | .L0 E0 v6=>(Z2 E0)/\(0<=v6)/\(E0.traits.length=E0.s.Objects.length)/\(E0.dropped.length=E0.s.Objects.length)/\(E0.done.length=E0.forces.length)/\(E0.hits.length=E0.forces.length)/\(E0.s.Objects.length<=2048)/\(E0.forces.length<=16448)/\(HI E0.s.Objects.length E0.hits)/\(E0.s=a1)/\(Zd4 E0.s.Objects)/\(E0=Zpg a0 a1 (v6 - 1).toNat)/\(v6<=9)/\(1<=v6)
def Z18:Zrb->M6
 | .L0 E0 v6=>(1,(8+1 - v6).toNat,1000000,0,0,0)
theorem Zaqd{a0:List Zm}{a1:Zk}(oa0:(SzL 176 Zag) a0)(oa1:Z8 a1)(h0:a1.Objects.length<=2048)(h1:a1.Conts.length<=64)(h2:∀ c,c∈a0->c.Abilities.length<=8)(h3:Zd4 a1.Objects):Tot (Zxh a0 a1) (Zaqc a0 a1):=by
 apply Tot.rn (Zats a0 a1) Z18
 .dsimp only [Zahh,LT.den];refine tB (Zan1 oa0 oa1 cl cl Zf5) fun x1 h1=>?_;have eh1_1:=h1.2.1;have eh1_2:=h1.2.2.1;have eh1_3:=h1.2.2.2.1;have eh1_4:=h1.2.2.2.2.1;have eh1_5:=h1.2.2.2.2.2.1;have eh1_6:=h1.2.2.2.2.2.2.1;have eh1_7:=h1.2.2.2.2.2.2.2.1;have eh1_8:=h1.2.2.2.2.2.2.2.2.1;have eh1_9:=h1.2.2.2.2.2.2.2.2.2;exact tL ⟨h1.1,cl,cl,cl,cl,cl,cl,cl,Zbs,Zf5,Ze6,tk80,cs⟩ (by unfold Z18 lt6;dsimp only;omega)
 rintro ⟨E0,v6⟩ ⟨O0,cv6,i0,i1,i2,i3,i4,i5,i6,i7,i8,i9,i10,i11⟩;dsimp only [Z47,Zac7,LT.den];apply tD<;>intro h1
 .refine tB (Zuq O0 cl cl cl cl cl cl Zbs Ze6) fun x1 h2=>?_;have eh2_2:=h2.2.2.1;have eh2_3:=h2.2.2.2.1;have eh2_4:=h2.2.2.2.2.1;have eh2_5:=h2.2.2.2.2.2.1;have eh2_6:=h2.2.2.2.2.2.2.1;have eh2_7:=h2.2.2.2.2.2.2.2.1;have eh2_8:=h2.2.2.2.2.2.2.2.2.1;have eh2_9:=h2.2.2.2.2.2.2.2.2.2.1;have eh2_11:=h2.2.2.2.2.2.2.2.2.2.2.2;have q1:=wr (v6+1);exact tL ⟨h2.2.1,cl,cl,cl,cl,cl,cl,cl,Zbs,Zf5,Ze6,tk80,cs⟩ (by unfold Z18 lt6;dsimp only;omega)
 exact tR ⟨O0.2.2.1,Ziw,(by exact wr_e V O O)⟩
theorem Zaas{a0:List Zm}{a1:Zk}(oa0:(SzL 176 Zag) a0)(oa1:Z8 a1)(h0:a1.Objects.length<=2048)(h1:a1.Conts.length<=64)(h2:∀ c,c∈a0->c.Abilities.length<=8)(h3:Zd4 a1.Objects):Tot (Zxh a0 a1) (fun r=>((SzL 176 Zz) r)/\(r.length=a1.Objects.length)/\(r=(Zpg a0 a1 8).traits)/\(r=allV a0 a1)):=(Tot.we (Zaqd oa0 oa1 h0 h1 h2 h3)).mono fun r h=>⟨h.1.1,h.1.2.1,h.1.2.2,Option.some.inj (h.2.symm.trans (by unfold allV;rw [h.2];rfl))⟩
theorem Zy7:Tot Zar8 (fun r=>r=true):=⟨true,by kernel_rfl,rfl⟩
def Zazj(a0:List Zd)(a1:List Zd):Zt0->Prop
 | .L0 v0 v1 v5=>(v0=a0)/\(v1=a1)/\((SzL 176 Z3) v0)/\((SzL 176 Z3) v1)/\(0<=v5)/\(v0.length=v1.length)
def Z5s:Zt0->M6
 | .L0 v0 v1 v5=>(1,((v0.length:Int) - v5).toNat,1000000,0,0,0)
theorem Zad0{a0:List Zd}{a1:List Zd}(oa0:(SzL 176 Z3) a0)(oa1:(SzL 176 Z3) a1):Tot (Zax3 a0 a1) (fun r=>(a0=a1->r=true)):=by
 apply Tot.rn (Zazj a0 a1) Z5s
 .have lb_a1:=oa1.1;dsimp only [Zam1,LT.den];have q1:=oa1.1;apply tN<;>intro h1
  .exact tR (by exact sm)
  exact tL ⟨rfl,rfl,oa0,oa1,cs⟩ (by unfold Z5s lt6;dsimp only;omega)
 rintro ⟨v0,v1,v5⟩ ⟨al0,al1,ov0,ov1,cv5,i0⟩;have lb_v0:=ov0.1;have lb_v1:=ov1.1;subst al0;subst al1;dsimp only [Z8h,Zahp,LT.den];apply tD<;>intro h1
 .refine Tot.ix fun x1 h2=>Tot.ix fun x2 h3=>?_;have mh3:=h3.2;apply tO<;>intro h4
  .exact tR (by exact sm)
  have q1:=wr (v5+1);exact tL ⟨rfl,rfl,ov0,ov1,cs⟩ (by unfold Z5s lt6;dsimp only;omega)
 exact tR (by exact sm)
theorem Zan6{a0:Zs}{a1:Zs}(oa0:Zab a0)(oa1:Zab a1):Tot (Zahr a0 a1) (fun r=>(a0=a1->r=true)):=by
 apply tZ;dsimp only [Z96,LT.den];apply tE<;>intro h1
 .apply tF<;>intro h2
  .apply tF<;>intro h3
   .apply tE<;>intro h4
    .apply tE<;>intro h5
     .apply tF<;>intro h6
      .apply tF<;>intro h7
       .apply tF<;>intro h8
        .exact tB (Zad0 oa0.2.2.2.2 oa1.2.2.2.2) fun x1 h9=>tR (by exact sm)
        exact tR (by exact sm)
       exact tR (by exact sm)
      exact tR (by exact sm)
     exact tR (by exact sm)
    exact tR (by exact sm)
   exact tR (by exact sm)
  exact tR (by exact sm)
 exact tR (by exact sm)
def Zaa0(a0:Zh)(a1:Zh):Zgo->Prop
 | .L0 E0 E1 v5=>(E0=a0)/\(E1=a1)/\(Z5 E0)/\(Z5 E1)/\(0<=v5)/\(E0.Specs.length=E1.Specs.length)/\(E0.Effects.length=E1.Effects.length)
 | .L1 E0 E1 v6=>(E0=a0)/\(E1=a1)/\(Z5 E0)/\(Z5 E1)/\(0<=v6)/\(E0.Specs.length=E1.Specs.length)/\(E0.Effects.length=E1.Effects.length)
def Zpm:Zgo->M6
 | .L0 E0 E1 v5=>(3,((E0.Specs.length:Int) - v5).toNat,1000000,0,0,0)
 | .L1 E0 E1 v6=>(1,((E0.Effects.length:Int) - v6).toNat,1000000,0,0,0)
theorem Zaa1{a0:Zh}{a1:Zh}(oa0:Z5 a0)(oa1:Z5 a1):Tot (Z31 a0 a1) (fun r=>(a0=a1->r=true)):=by
 apply Tot.rn (Zaa0 a0 a1) Zpm
 .dsimp only [Zze,LT.den];apply tN<;>intro h1
  .exact tR (by exact sm)
  apply tO<;>intro h2
  .exact tR (by exact sm)
  refine tB (Zad0 oa0.2.1 oa1.2.1) fun x1 h3=>?_;apply tO<;>intro h4
  .exact tR (by exact sm)
  apply tO<;>intro h5
  .exact tR (by exact sm)
  apply tO<;>intro h6
  .exact tR (by exact sm)
  apply tO<;>intro h7
  .exact tR (by exact sm)
  apply tO<;>intro h8
  .exact tR (by exact sm)
  apply tO<;>intro h9
  .exact tR (by exact sm)
  have q1:=oa1.2.2.2.1.1;apply tN<;>intro h10
  .exact tR (by exact sm)
  have q2:=oa1.2.2.2.2.1.1;apply tN<;>intro h11
  .exact tR (by exact sm)
  exact tL ⟨rfl,rfl,oa0,oa1,cs⟩ (by unfold Zpm lt6;dsimp only;omega)
 intro s hs;cases s with
 | L0 E0 E1 v5=>
  obtain⟨al0,al1,O0,O1,cv5,i0,i1⟩:=hs;subst al0;subst al1;dsimp only [Zld,Zxi,LT.den];have q1:=O0.2.2.2.1.1;apply tD<;>intro h1
  .refine Tot.ix fun x1 h2=>?_;have oh2:Zge x1:=O0.2.2.2.1.2 x1 h2.1;refine Tot.ix fun x2 h3=>?_;have oh3:Zge x2:=O1.2.2.2.1.2 x2 h3.1;have mh3:=h3.2;apply tO<;>intro h4
   .exact tR (by exact sm)
   have q2:=wr (v5+1);exact tl58
  exact tl58
 | L1 E0 E1 v6=>
  obtain⟨al0,al1,O0,O1,cv6,i0,i1⟩:=hs;subst al0;subst al1;dsimp only [Zld,Zxj,LT.den];have q1:=O0.2.2.2.2.1.1;apply tD<;>intro h1
  .refine Tot.ix fun x1 h2=>?_;have oh2:Zab x1:=O0.2.2.2.2.1.2 x1 h2.1;refine Tot.ix fun x2 h3=>?_;have oh3:Zab x2:=O1.2.2.2.2.1.2 x2 h3.1;have mh3:=h3.2;refine tB (Zan6 oh2 oh3) fun x3 h4=>?_;apply tO<;>intro h5
   .exact tR (by exact sm)
   have q2:=wr (v6+1);exact tl58
  exact tR (by exact sm)
def Zazk(a0:Zb)(a1:Zb):Zp4->Prop
 | .L0 E0 E1 v5=>(E0=a0)/\(E1=a1)/\(Zz E0)/\(Zz E1)/\(0<=v5)/\(E0.Line.Subs.length=E1.Line.Subs.length)/\(E0.Abilities.length=E1.Abilities.length)
 | .L1 E0 E1 v6=>(E0=a0)/\(E1=a1)/\(Zz E0)/\(Zz E1)/\(0<=v6)/\(E0.Line.Subs.length=E1.Line.Subs.length)/\(E0.Abilities.length=E1.Abilities.length)
def Z5t:Zp4->M6
 | .L0 E0 E1 v5=>(3,((E0.Line.Subs.length:Int) - v5).toNat,1000000,0,0,0)
 | .L1 E0 E1 v6=>(1,((E0.Abilities.length:Int) - v6).toNat,1000000,0,0,0)
theorem Zazl{a0:Zb}{a1:Zb}(oa0:Zz a0)(oa1:Zz a1):Tot (Zax4 a0 a1) (fun r=>(a0=a1->r=true)):=by
 apply Tot.rn (Zazk a0 a1) Z5t
 .dsimp only [Zam2,LT.den];apply tO<;>intro h1
  .exact tR (by exact sm)
  apply tO<;>intro h2
  .exact tR (by exact sm)
  apply tN<;>intro h3
  .exact tR (by exact sm)
  apply tN<;>intro h4
  .exact tR (by exact sm)
  apply tN<;>intro h5
  .exact tR (by exact sm)
  apply tN<;>intro h6
  .exact tR (by exact sm)
  apply tN<;>intro h7
  .exact tR (by exact sm)
  apply tN<;>intro h8
  .exact tR (by exact sm)
  apply tN<;>intro h9
  .exact tR (by exact sm)
  have q1:=oa0.2.1.1;have q2:=oa1.2.1.1;apply tN<;>intro h10
  .exact tR (by exact sm)
  have q3:=oa0.2.2.1;have q4:=oa1.2.2.1;apply tN<;>intro h11
  .exact tR (by exact sm)
  exact tL ⟨rfl,rfl,oa0,oa1,cs⟩ (by unfold Z5t lt6;dsimp only;omega)
 intro s hs;cases s with
 | L0 E0 E1 v5=>
  obtain⟨al0,al1,O0,O1,cv5,i0,i1⟩:=hs;subst al0;subst al1;dsimp only [Zzr,Zahs,LT.den];have q1:=O0.2.1.1;apply tD<;>intro h1
  .refine Tot.ix fun x1 h2=>?_;have oh2:SzT x1:=O0.2.1.2 x1 h2.1;refine Tot.ix fun x2 h3=>?_;have oh3:SzT x2:=O1.2.1.2 x2 h3.1;have mh3:=h3.2;apply tO<;>intro h4
   .exact tR (by exact sm)
   have q2:=wr (v5+1);exact tl53
  exact tl53
 | L1 E0 E1 v6=>
  obtain⟨al0,al1,O0,O1,cv6,i0,i1⟩:=hs;subst al0;subst al1;dsimp only [Zzr,Zaht,LT.den];have q1:=O0.2.2.1;apply tD<;>intro h1
  .refine Tot.ix fun x1 h2=>?_;have oh2:Z5 x1:=O0.2.2.2 x1 h2.1;refine Tot.ix fun x2 h3=>?_;have oh3:Z5 x2:=O1.2.2.2 x2 h3.1;have mh3:=h3.2;refine tB (Zaa1 oh2 oh3) fun x3 h4=>?_;apply tO<;>intro h5
   .exact tR (by exact sm)
   have q2:=wr (v6+1);exact tl53
  exact tR (by exact sm)
def Zazm(a0:List Zb)(a1:List Zb):Zt1->Prop
 | .L0 v0 v1 v5=>(v0=a0)/\(v1=a1)/\((SzL 176 Zz) v0)/\((SzL 176 Zz) v1)/\(0<=v5)/\(v0.length=v1.length)
def Z5u:Zt1->M6
 | .L0 v0 v1 v5=>(1,((v0.length:Int) - v5).toNat,1000000,0,0,0)
theorem Zazn{a0:List Zb}{a1:List Zb}(oa0:(SzL 176 Zz) a0)(oa1:(SzL 176 Zz) a1):Tot (Zax5 a0 a1) (fun r=>(a0=a1->r=true)):=by
 apply Tot.rn (Zazm a0 a1) Z5u
 .have lb_a0:=oa0.1;have lb_a1:=oa1.1;dsimp only [Zam3,LT.den];have q1:=oa0.1;have q2:=oa1.1;apply tN<;>intro h1
  .exact tl80
  exact tL ⟨rfl,rfl,oa0,oa1,cs⟩ (by unfold Z5u lt6;dsimp only;omega)
 rintro ⟨v0,v1,v5⟩ ⟨al0,al1,ov0,ov1,cv5,i0⟩;have lb_v0:=ov0.1;have lb_v1:=ov1.1;subst al0;subst al1;dsimp only [Z8i,Zahu,LT.den];have q1:=ov0.1;apply tD<;>intro h1
 .refine Tot.ix fun x1 h2=>?_;have oh2:Zz x1:=ov0.2 x1 h2.1;have mh2:=h2.2;refine Tot.ix fun x2 h3=>?_;have oh3:Zz x2:=ov1.2 x2 h3.1;have mh3:=h3.2;refine tB (Zazl oh2 oh3) fun x3 h4=>?_;apply tO<;>intro h5
  .exact tl80
  have q2:=wr (v5+1);exact tL ⟨rfl,rfl,ov0,ov1,cs⟩ (by unfold Z5u lt6;dsimp only;omega)
 exact tl80
def Zvu(a0:List Int)(a1:Int):Zl9->Prop
 | .L0 v0 v1 v5 v6 v7=>(v0=a0)/\(v1=a1)/\((SzL 8 (fun _=>True)) v0)/\((SzL 8 (fun _=>True)) v5)/\(0<=v7)/\(v0.length<=10000)/\(v5.length<=2*v7.toNat)/\(v7<=(v0.length:Int))/\(INS v0 v1 v7 v5 v6)
 | .L1 v0 v1 v5 v6 v7=>(v0=a0)/\(v1=a1)/\((SzL 8 (fun _=>True)) v0)/\((SzL 8 (fun _=>True)) v5)/\(0<=v7)/\(v7 < (v0.length:Int))/\(v0.length<=10000)/\(v5.length<=2*v7.toNat+1)/\(v7 < (v0.length:Int))/\(INS v0 v1 v7 v5 v6)
def Zrr:Zl9->M6
 | .L0 v0 v1 v5 v6 v7=>(1,((v0.length:Int) - v7).toNat,1000000,0,0,0)
 | .L1 v0 v1 v5 v6 v7=>(1,((v0.length:Int) - v7).toNat,0,0,0,0)
theorem Zqo{a0:List Int}{a1:Int}{v0:List Int}{v1:Int}{v5:List Int}{v6:Bool}{v7:Int}(h:(Zvu a0 a1) (.L1 v0 v1 v5 v6 v7)):Tot (Zj2 v0 v1 v5 v6 v7).den (Nx (Zvu a0 a1) Zrr (1,((v0.length:Int) - v7).toNat,0,0,0,0) (fun r=>((SzL 8 (fun _=>True)) r)/\(INR_ a0 a1 r))):=by
 obtain⟨al0,al1,ov0,ov5,cv7,bd5,i0,i1,i2,i3⟩:=h;have lb_v0:=ov0.1;have lb_v5:=ov5.1;subst al0;subst al1;dsimp only [Zj2,LT.den];have lx_0:v0.length*8<=140737488351232:=ov0.1;refine Tot.ix fun x1 h1=>?_;have mh1:=h1.2;apply tN<;>intro h2
 .have q1:=ov5.1;refine Tot.ap fun x2 h3=>?_;have lh3:=Zb7 h3;have q2:=wr (v7+1);exact tL ⟨rfl,rfl,ov0,SzL.tr,cl,cl,cl,cl,tk37⟩ Za47
 have q1:=wr (v7+1);exact tL ⟨rfl,rfl,ov0,ov5,cl,cl,cl,cl,tk37⟩ Za47
theorem Zaqe{a0:List Int}{a1:Int}(oa0:(SzL 8 (fun _=>True)) a0)(h0:a0.length<=10000):Tot (Zam4 a0 a1) (fun r=>((SzL 8 (fun _=>True)) r)/\(INR_ a0 a1 r)):=by
 apply Tot.rn (Zvu a0 a1) Zrr
 .have lb_a0:=oa0.1;dsimp only [Zadf,LT.den];exact tL ⟨rfl,rfl,oa0,SzL.nil,cl,cl,cl,cl,tk37⟩ Za47
 intro s hs;cases s with
 | L0 v0 v1 v5 v6 v7=>
  obtain⟨al0,al1,ov0,ov5,cv7,i0,i1,i2,i3⟩:=hs;have lb_v0:=ov0.1;have lb_v5:=ov5.1;subst al0;subst al1;dsimp only [Z1i,Z98,LT.den,Zrr];have q1:=ov0.1;apply tD<;>intro h1
  .apply tO<;>intro h2
   .refine Tot.ix fun x1 h3=>?_;have mh3:=h3.2;apply tD<;>intro h4
    .have q2:=ov5.1;refine Tot.ap fun x2 h5=>?_;have lh5:=Zb7 h5;exact tJ (Zqo ⟨rfl,rfl,ov0,SzL.tr,cl,cl,cl,cl,cl,tk86⟩)
    exact tl87
   exact tl87
  apply tO<;>intro h2
  .have q2:=ov5.1;refine Tot.ap fun x1 h3=>?_;have lh3:=Zb7 h3;exact tR ⟨SzL.tr,tk62⟩
  exact tR ⟨ov5,tk62⟩
 | L1 _ _ _ _ _=>exact Zqo hs
abbrev Za07(a0:List Int)(r:List Int):Prop:=((SzL 8 (fun _=>True)) r)/\(r.length<=a0.length)/\(r.Nodup/\∀ x,x∈r->x∈a0)
def Za5s(a0:List Int):Z1j->Prop
 | .L0 v0 v3 v4=>(v0=a0)/\((SzL 8 (fun _=>True)) v0)/\((SzL 8 (fun _=>True)) v3)/\(0<=v4)/\(v0.length<=10000)/\(SOF v0 v4 v3)
def Zad1:Z1j->M6
 | .L0 v0 v3 v4=>(1,((v0.length:Int) - v4).toNat,1000000,0,0,0)
theorem Za5t{a0:List Int}(oa0:(SzL 8 (fun _=>True)) a0)(h0:a0.length<=10000):Tot (Za71 a0) (Za07 a0):=by
 apply Tot.rn (Za5s a0) Zad1
 .have lb_a0:=oa0.1;dsimp only [Zax6,LT.den];exact tL ⟨rfl,oa0,SzL.nil,cl,cl,tk65⟩ (by unfold Zad1 lt6;dsimp only;omega)
 rintro ⟨v0,v3,v4⟩ ⟨al0,ov0,ov3,cv4,i0,i1⟩;have lb_v0:=ov0.1;have lb_v3:=ov3.1;subst al0;dsimp only [Zai3,Zase,LT.den];have ls:=Zbh1 (by assumption:SOF v0 v4 v3);have q1:=ov0.1;apply tD<;>intro h1
 .refine Tot.ix fun x1 h2=>?_;have mh2:=h2.2;refine tB (Zaqe ov3 cl) fun x2 h3=>?_;have eh3_1:=h3.2;have q2:=wr (v4+1);exact tL ⟨rfl,ov0,h3.1,cl,cl,tk65⟩ (by unfold Zad1 lt6;dsimp only;omega)
 exact tR ⟨ov3,cl,(by exact so_e V)⟩
def Zan7(a0:Zk):Zj3->Prop
 | .L0 E0 v3 v4=>(E0=a0)/\(Z8 E0)/\((SzL 8 (fun _=>True)) v3)/\(0<=v4)/\(E0.Objects.length<=2048)/\(E0.Conts.length<=64)/\(v3.length<=v4.toNat)/\(v4<=(E0.Objects.length:Int))/\(v3=stL E0.Objects v4)
 | .L1 E0 v3 v5=>(E0=a0)/\(Z8 E0)/\((SzL 8 (fun _=>True)) v3)/\(0<=v5)/\(E0.Objects.length<=2048)/\(E0.Conts.length<=64)/\(v3.length<=2048+v5.toNat)/\(v5<=(E0.Conts.length:Int))/\(v3=stC E0 v5)
def Z7g:Zj3->M6
 | .L0 E0 v3 v4=>(3,((E0.Objects.length:Int) - v4).toNat,1000000,0,0,0)
 | .L1 E0 v3 v5=>(1,((E0.Conts.length:Int) - v5).toNat,1000000,0,0,0)
theorem Zan8{a0:Zk}(oa0:Z8 a0)(h0:a0.Objects.length<=2048)(h1:a0.Conts.length<=64):Tot (Zahv a0) (fun r=>(r=true->STD a0)):=by
 apply Tot.rn (Zan7 a0) Z7g
 .dsimp only [Z99,LT.den];exact tL ⟨rfl,oa0,SzL.nil,cl,cl,cl,cl,cl,tk26⟩ Zani
 intro s hs;cases s with
 | L0 E0 v3 v4=>
  obtain⟨al0,O0,ov3,cv4,i0,i1,i2,i3,i4⟩:=hs;have lb_v3:=ov3.1;subst al0;dsimp only [Zrm,Z62,LT.den];have q1:=O0.2.1.1;apply tD<;>intro h1
  .refine Tot.ix fun x1 h2=>?_;have mh2:=h2.2;apply tE<;>intro h3
   .have q2:=ov3.1;refine Tot.ap fun x2 h4=>?_;have lh4:=Zb7 h4;have q3:=wr (v4+1);exact tL ⟨rfl,O0,SzL.tr,cl,cl,cl,cl,cl,tk26⟩ Zani
   have q2:=wr (v4+1);exact tL ⟨rfl,O0,ov3,cl,cl,cl,cl,cl,tk26⟩ Zani
  exact tL ⟨rfl,O0,ov3,cl,cl,cl,cl,cl,tk47⟩ Zani
 | L1 E0 v3 v5=>
  obtain⟨al0,O0,ov3,cv5,i0,i1,i2,i3,i4⟩:=hs;have lb_v3:=ov3.1;subst al0;dsimp only [Zrm,Z63,LT.den];have q1:=O0.2.2.2.2.2.2.1.1;apply tD<;>intro h1
  .refine Tot.ix fun x1 h2=>?_;have oh2:Zfp x1:=O0.2.2.2.2.2.2.1.2 x1 h2.1;have mh2:=h2.2;have q2:=ov3.1;refine Tot.ap fun x2 h3=>?_;have lh3:=Zb7 h3;have q3:=wr (v5+1);exact tL ⟨rfl,O0,SzL.tr,cl,cl,cl,cl,cl,tk47⟩ Zani
  refine tB (Za5t ov3 cl) fun x1 h2=>?_;have eh2_1:=h2.2.1;have eh2_2:=h2.2.2;exact tR (by exact sc_e V O V)
def Zan9(a0:List Zav)(a1:Int):Znu->Prop
 | .L0 v0 v5 v6 v7 v8=>(v0=a0)/\((SzL 80 Zfp) v0)/\((SzL 80 Zfp) v7)/\(0<=v8)/\(v0.length<=64)/\(v5=(v0.length:Int))/\(0<=v6)/\(v6 < v5)/\(v7.length<=v8.toNat)/\(v8<=v5)/\(RTL v0 v6 v8 v7)
def Zvv:Znu->M6
 | .L0 v0 v5 v6 v7 v8=>(1,(v5 - v8).toNat,1000000,0,0,0)
theorem Zaoa{a0:List Zav}{a1:Int}(oa0:(SzL 80 Zfp) a0)(h0:a0.length<=64):Tot (Z49 a0 a1) (fun r=>((SzL 80 Zfp) r)/\(ROT a0 r)):=by
 apply Tot.rn (Zan9 a0 a1) Zvv
 .have lb_a0:=oa0.1;dsimp only [Zaaa,LT.den];have q1:=oa0.1;apply tE<;>intro h1
  .exact tR ⟨SzL.nil,tk66⟩
  refine tB (tK Zanh) fun x1 h2=>?_;apply tD<;>intro h3
  .have q2:=wr ((Int.tmod a1 (a0.length:Int))+(a0.length:Int));exact Zbdi
  exact Zbdi
 rintro ⟨v0,v5,v6,v7,v8⟩ ⟨al0,ov0,ov7,cv8,i0,i1,i2,i3,i4,i5,i6⟩;have lb_v0:=ov0.1;have lb_v7:=ov7.1;subst al0;dsimp only [Zx9,Z64,LT.den];have lm:=rt_m (k:=v6) (v:=v8) (n:=v5) O O O O;apply tD<;>intro h1
 .have q1:=wr (v6+v8);refine tB (tK Zanh) fun x1 h2=>Tot.ix fun x2 h3=>?_;have oh3:Zfp x2:=ov0.2 x2 h3.1;have mh3:=h3.2;have q2:=ov7.1;refine Tot.ap fun x3 h4=>?_;have lh4:=Zb7 h4;have q3:=wr (v8+1);exact tL ⟨rfl,ov0,SzL.app (k:=80) h4 lo ov7.2 (me1 oh3),cl,cl,cl,tk76,tk76,cl,cl,tk33⟩ (by unfold Zvv lt6;dsimp only;omega)
 exact tR ⟨ov7,tk66⟩
theorem Zad2{a0:List Zm}{a1:Zk}{a2:Int}(oa0:(SzL 176 Zag) a0)(oa1:Z8 a1):Tot (Z65 a0 a1 a2) (fun r=>(r=true)):=by
 apply tZ;have lb_a0:=oa0.1;dsimp only [Z1k,LT.den];refine tB (Zatp oa0 oa1) fun x1 h1=>?_;have eh1_0:=h1.1;have eh1_1:=h1.2.1;have eh1_2:=h1.2.2;apply tO<;>intro h2
 .exact tB (Zy7) fun x2 h3=>tR tk36
 have h2_0:=eh1_0 h2;have h2_1:=eh1_1 h2;have h2_2:=eh1_2 h2;refine tB (Zan8 oa1 cl cl) fun x2 h3=>?_;have eh3_0:=h3;apply tO<;>intro h4
 .exact tB (Zy7) fun x3 h5=>tR tk36
 have h4_0:=eh3_0 h4;refine tB (Zaoa oa1.2.2.2.2.2.2.1 cl) fun x3 h5=>?_;have eh5_1:=h5.2;have rh5:=Zbfv (by assumption:ROT a1.Conts x3);refine tB (Zy7) fun x4 h6=>?_;apply tF<;>intro h7
 .refine tB (Zaas oa0 oa1 cl cl Zf5 V) fun x5 h8=>?_;have eh8_1:=h8.2.1;have eh8_2:=h8.2.2.1;have eh8_3:=h8.2.2.2;refine tB (Zaas oa0 ⟨oa1.1,oa1.2.1,oa1.2.2.1,oa1.2.2.2.1,oa1.2.2.2.2.1,oa1.2.2.2.2.2.1,h5.1,oa1.2.2.2.2.2.2.2⟩ cl cl Zf5 V) fun x6 h9=>?_;have eh9_1:=h9.2.1;have eh9_2:=h9.2.2.1;have eh9_3:=h9.2.2.2;exact tB (Zazn h8.1 h9.1) fun x7 h10=>tR tk36
 exact tR tk36
end Go.PW
