import Derived.Test.YtchddhcajpagjaaGreatQXb
set_option linter.all false
set_option maxRecDepth 100000
namespace Go.PW
abbrev Zul(b0:Ze)(a1:Int)(r:(List Int)×Ze):Prop:=((SzL 8 (fun _=>True)) r.1)/\(Z4 r.2)/\(r.2.traits.length=r.2.s.Objects.length)/\(r.2.dropped.length=r.2.s.Objects.length)/\(r.2.done.length=r.2.forces.length)/\(r.2.hits.length=r.2.forces.length)/\(r.2.s.Objects.length<=2048)/\(r.2.forces.length<=16448)/\(HI r.2.s.Objects.length r.2.hits)/\(r.2.s=b0.s)/\(r.2.forces=b0.forces)/\(r=stgV b0 a1)
def Zus(b0:Ze)(a1:Int):Zco->Prop
 | .L0 c0 v1 v5 v6 v7 v18 v19 v20=>(v1=a1)/\(Z4 c0)/\((SzL 8 (fun _=>True)) v5)/\((SzL 8 (fun _=>True)) v6)/\((SzL 8 (fun _=>True)) v7)/\((SzL 224 Zbr) v18)/\(0<=v20)/\(c0.traits.length=c0.s.Objects.length)/\(c0.dropped.length=c0.s.Objects.length)/\(c0.done.length=c0.forces.length)/\(c0.hits.length=c0.forces.length)/\(c0.s.Objects.length<=2048)/\(c0.forces.length<=16448)/\(HI c0.s.Objects.length c0.hits)/\(c0.s.Objects.length=b0.s.Objects.length)/\(c0.forces.length=b0.forces.length)/\(c0.s=b0.s)/\(c0.forces=b0.forces)/\(v19=(v18.length:Int))/\(v19=(c0.forces.length:Int))/\(v5.length<=v20.toNat)/\(v7.length<=v20.toNat)/\(v20<=v19)/\(v6.length=0)/\(INR b0.forces.length v5)/\(Zd4 c0.s.Objects)/\(c0=(if v1=7 then Z8x b0 else b0))/\(v18=b0.forces)/\(v5=zfm (fun _ f=>belB f v1) (fun k _=>k) v18 v20)/\(v7=(v18.take v20.toNat).map fun f=>f.Stamp)
 | .L1 c0 v1 v5 v6 v7=>(v1=a1)/\(Z4 c0)/\((SzL 8 (fun _=>True)) v5)/\((SzL 8 (fun _=>True)) v6)/\((SzL 8 (fun _=>True)) v7)/\(c0.traits.length=c0.s.Objects.length)/\(c0.dropped.length=c0.s.Objects.length)/\(c0.done.length=c0.forces.length)/\(c0.hits.length=c0.forces.length)/\(c0.s.Objects.length<=2048)/\(c0.forces.length<=16448)/\(HI c0.s.Objects.length c0.hits)/\(c0.s.Objects.length=b0.s.Objects.length)/\(c0.forces.length=b0.forces.length)/\(c0.s=b0.s)/\(c0.forces=b0.forces)/\(v6.length+v5.length<=b0.forces.length)/\(v7.length<=16448)/\(INR b0.forces.length v5)/\(Zd4 c0.s.Objects)/\(v5.Nodup)/\(v7=b0.forces.map fun f=>f.Stamp)/\(STG b0 v1 c0 v5 v6)/\(v6.length+v5.length=(belV b0.forces v1).length)
def Zmf:Zco->M6
 | .L0 c0 v1 v5 v6 v7 v18 v19 v20=>(1,(v19 - v20).toNat,0,0,0,0)
 | .L1 c0 v1 v5 v6 v7=>(0,v5.length,0,0,0,0)
theorem Zut{b0:Ze}{a1:Int}(ob0:Z4 b0)(h0:b0.traits.length=b0.s.Objects.length)(h1:b0.dropped.length=b0.s.Objects.length)(h2:b0.done.length=b0.forces.length)(h3:b0.hits.length=b0.forces.length)(h4:b0.s.Objects.length<=2048)(h5:b0.forces.length<=16448)(h6:HI b0.s.Objects.length b0.hits)(h7:Zd4 b0.s.Objects):Tot (Zod b0 a1) (Zul b0 a1):=by
 apply Tot.rn (Zus b0 a1) Zmf
 .dsimp only [Zmn,LT.den];apply tE<;>intro h1
  .refine tB (Zuq ob0 cl cl cl cl cl cl Zbq) fun x1 h2=>?_;have eh2_1:=h2.2.1;have eh2_2:=h2.2.2.1;have eh2_3:=h2.2.2.2.1;have eh2_4:=h2.2.2.2.2.1;have eh2_5:=h2.2.2.2.2.2.1;have eh2_6:=h2.2.2.2.2.2.2.1;have eh2_7:=h2.2.2.2.2.2.2.2.1;have eh2_8:=h2.2.2.2.2.2.2.2.2.1;have eh2_9:=h2.2.2.2.2.2.2.2.2.2.1;have eh2_10:=h2.2.2.2.2.2.2.2.2.2.2;have q1:=h2.1.2.1.1;exact tL ⟨rfl,h2.1,SzL.nil,SzL.nil,SzL.nil,h2.1.2.1,cl,cl,cl,cl,cl,cl,cl,Zbq,Zjm,Zjm,Zcm,Zcm,cl,cl,cl,cl,cl,cl,tk39,Ze7,tk68,Zai,tk27,tk59⟩ Zaez
  have q1:=ob0.2.1.1;exact tL ⟨rfl,ob0,SzL.nil,SzL.nil,SzL.nil,ob0.2.1,cl,cl,cl,cl,cl,cl,cl,Zbq,Zjm,Zjm,Zcm,Zcm,cl,cl,cl,cl,cl,cl,tk39,Ze7,tk68,Zai,tk27,tk59⟩ Zaez
 intro s hs;cases s with
 | L0 c0 v1 v5 v6 v7 v18 v19 v20=>
  obtain⟨al0,oc0,ov5,ov6,ov7,ov18,cv20,i0,i1,i2,i3,i4,i5,i6,i7,i8,i9,i10,i11,i12,i13,i14,i15,i16,i17,i18,i19,i20,i21,i22⟩:=hs;have lb_v5:=ov5.1;have lb_v6:=ov6.1;have lb_v7:=ov7.1;subst al0;dsimp only [Zfe,Zl8,LT.den];apply tD<;>intro h1
  .refine Tot.ix fun x1 h2=>?_;have oh2:Zbr x1:=ov18.2 x1 h2.1;have mh2:=h2.2;have q1:=ov7.1;refine Tot.ap fun x2 h3=>?_;have lh3:=Zc6 h3;refine tB (Zafg oh2) fun x3 h4=>?_;apply tF<;>intro h5
   .have q2:=ov5.1;refine Tot.ap fun x4 h6=>?_;have lh6:=Zc6 h6;have q3:=wr (v20+1);exact tL ⟨rfl,oc0,SzL.tr,ov6,SzL.tr,ov18,cl,cl,cl,cl,cl,cl,cl,Zbq,Zjm,Zjm,Zcm,Zcm,cl,cl,cl,cl,cl,cl,tk39,Ze7,tk68,Zai,tk27,tk59⟩ Zaez
   have q2:=wr (v20+1);exact tL ⟨rfl,oc0,ov5,ov6,SzL.tr,ov18,cl,cl,cl,cl,cl,cl,cl,Zbq,Zjm,Zjm,Zcm,Zcm,cl,cl,cl,cl,cl,cl,tk39,Ze7,tk68,Zai,tk27,tk59⟩ Zaez
  exact tL ⟨rfl,oc0,ov5,ov6,ov7,cl,cl,cl,cl,cl,cl,Zbq,Zjm,Zjm,Zcm,Zcm,cl,cl,tk39,Ze7,tk71,tk86,tk21,tk31⟩ Zaez
 | L1 c0 v1 v5 v6 v7=>
  obtain⟨al0,oc0,ov5,ov6,ov7,i0,i1,i2,i3,i4,i5,i6,i7,i8,i9,i10,i11,i12,i13,i14,i15,i16,i17,i18⟩:=hs;have lb_v5:=ov5.1;have lb_v6:=ov6.1;have lb_v7:=ov7.1;subst al0;dsimp only [Zfe,Zl9,LT.den];apply tD<;>intro h1
  .refine tB (Zqa oc0 ov5 cl cl cl cl cl cl Zbq cl (by first | assumption | exact Zbhk ‹_› (by omega)) Ze7) fun x1 h2=>?_;have eh2_1:=h2.2;refine tB (Zaoa ov5 ov7 h2.1 cl Zae0) fun x2 h3=>?_;have eh3_0:=h3.1;have eh3_1:=h3.2;have wh3:=Zbhl (by assumption:INR b0.forces.length v5) (by assumption:x2 < 0\/x2∈v5);apply tD<;>intro h4
   .exact Zbds
   refine tB (Zla oc0 cl cl cl cl cl cl Zbq cl cl Ze7) fun x3 h5=>?_;have eh5_1:=h5.2.1;have eh5_2:=h5.2.2.1;have eh5_3:=h5.2.2.2.1;have eh5_4:=h5.2.2.2.2.1;have eh5_5:=h5.2.2.2.2.2.1;have eh5_6:=h5.2.2.2.2.2.2.1;have eh5_7:=h5.2.2.2.2.2.2.2.1;have eh5_8:=h5.2.2.2.2.2.2.2.2.1;have eh5_10:=h5.2.2.2.2.2.2.2.2.2.2;have q1:=ov6.1;refine Tot.ap fun x4 h6=>?_;have lh6:=Zc6 h6;refine tB (Zf8 ov5) fun x5 h7=>?_;have eh7_1:=h7.2;have sh7:=flt_sub' (by assumption:x5=_);have lh7:=flt_lt' (by assumption:x5=_) ‹_› ‹_›;exact tL ⟨rfl,h5.1,h7.1,SzL.tr,ov7,cl,cl,cl,cl,cl,cl,Zbq,Zjm,Zjm,Zcm,Zcm,cl,cl,tk39,Ze7,tk71,tk86,tk21,tk31⟩ Zaez
  exact Zbds
abbrev Zaqf(a0:List Zl)(a1:Zm)(r:List Za):Prop:=((SzL 176 Zu) r)/\(r.length=a1.Objects.length)/\(r=(Zsa a0 a1 8).traits)
def Zat0(a0:List Zl)(a1:Zm):Zrc->Prop
 | .L0 E0 v6=>(Z4 E0)/\(0<=v6)/\(E0.traits.length=E0.s.Objects.length)/\(E0.dropped.length=E0.s.Objects.length)/\(E0.done.length=E0.forces.length)/\(E0.hits.length=E0.forces.length)/\(E0.s.Objects.length<=2048)/\(E0.forces.length<=16448)/\(HI E0.s.Objects.length E0.hits)/\(E0.s=a1)/\(Zd4 E0.s.Objects)/\(E0=Zsa a0 a1 (v6 - 1).toNat)/\(v6<=9)/\(1<=v6)
def Z2c:Zrc->M6
 | .L0 E0 v6=>(1,(8+1 - v6).toNat,1000000,0,0,0)
theorem Zaqg{a0:List Zl}{a1:Zm}(oa0:(SzL 176 Zaa) a0)(oa1:Zad a1)(h0:a1.Objects.length<=2048)(h1:a1.Conts.length<=64)(h2:∀ c,c∈a0->c.Abilities.length<=8)(h3:Zd4 a1.Objects):Tot (Zxl a0 a1) (Zaqf a0 a1):=by
 apply Tot.rn (Zat0 a0 a1) Z2c
 .dsimp only [Zaho,LT.den];refine tB (Zan6 oa0 oa1 cl cl Zex) fun x1 h1=>?_;have eh1_1:=h1.2.1;have eh1_2:=h1.2.2.1;have eh1_3:=h1.2.2.2.1;have eh1_4:=h1.2.2.2.2.1;have eh1_5:=h1.2.2.2.2.2.1;have eh1_6:=h1.2.2.2.2.2.2.1;have eh1_7:=h1.2.2.2.2.2.2.2.1;have eh1_8:=h1.2.2.2.2.2.2.2.2.1;have eh1_9:=h1.2.2.2.2.2.2.2.2.2;exact tL ⟨h1.1,cl,cl,cl,cl,cl,cl,cl,Zbq,Zex,Ze7,tk79,cs⟩ (by unfold Z2c lt6;dsimp only;omega)
 rintro ⟨E0,v6⟩ ⟨O0,cv6,i0,i1,i2,i3,i4,i5,i6,i7,i8,i9,i10,i11⟩;dsimp only [Z5b,Zadd,LT.den];apply tD<;>intro h1
 .refine tB (Zut O0 cl cl cl cl cl cl Zbq Ze7) fun x1 h2=>?_;have eh2_2:=h2.2.2.1;have eh2_3:=h2.2.2.2.1;have eh2_4:=h2.2.2.2.2.1;have eh2_5:=h2.2.2.2.2.2.1;have eh2_6:=h2.2.2.2.2.2.2.1;have eh2_7:=h2.2.2.2.2.2.2.2.1;have eh2_8:=h2.2.2.2.2.2.2.2.2.1;have eh2_9:=h2.2.2.2.2.2.2.2.2.2.1;have eh2_11:=h2.2.2.2.2.2.2.2.2.2.2.2;have q1:=wr (v6+1);exact tL ⟨h2.2.1,cl,cl,cl,cl,cl,cl,cl,Zbq,Zex,Ze7,tk79,cs⟩ (by unfold Z2c lt6;dsimp only;omega)
 exact tR ⟨O0.2.2.1,Zjm,(by exact wr_e ‹_› (by omega) (by omega))⟩
theorem Zat1{a0:List Zl}{a1:Zm}(oa0:(SzL 176 Zaa) a0)(oa1:Zad a1)(h0:a1.Objects.length<=2048)(h1:a1.Conts.length<=64)(h2:∀ c,c∈a0->c.Abilities.length<=8)(h3:Zd4 a1.Objects):Tot (Zxl a0 a1) (fun r=>((SzL 176 Zu) r)/\(r.length=a1.Objects.length)/\(r=(Zsa a0 a1 8).traits)/\(r=allV a0 a1)):=(Tot.we (Zaqg oa0 oa1 h0 h1 h2 h3)).mono fun r h=>⟨h.1.1,h.1.2.1,h.1.2.2,Option.some.inj (h.2.symm.trans (by unfold allV;rw [h.2];rfl))⟩
theorem Zzc:Tot Zasd (fun r=>r=true):=⟨true,by kernel_rfl,rfl⟩
def Zaqh(a0:Zt):Zpc->Prop
 | .L0 E0 v3 v4 v5=>(E0=a0)/\(0<=v5)/\(v5<=5)/\(v3=coP E0.Color v5)/\(v4=2 ^ v5.toNat)/\(Zyj E0=true)
def Zaay:Zpc->M6
 | .L0 E0 v3 v4 v5=>(1,(5 - v5).toNat,1000000,0,0,0)
theorem Zaqi{a0:Zt}:Tot (Zam7 a0) (fun r=>(r=coV a0)):=by
 apply Tot.rn (Zaqh a0) Zaay
 .dsimp only [Zadf,LT.den];refine tB (Zz0 a0) fun x1 h1=>?_;have eh1_0:=h1.1;have eh1_1:=h1.2.1;apply tO<;>intro h2
  .exact tl86
  exact Za40
 rintro ⟨E0,v3,v4,v5⟩ ⟨al0,cv5,i0,i1,i2,i3⟩;subst al0;dsimp only [Z1k,Z98,LT.den];have lb:0<=v3/\v3<=31:=by rw [i1];exact co_b
 have lp:v4<=32/\1<=v4:=by rw [i2];exact pw_b (by omega)
 apply tD<;>intro h1
 .refine tB (tI (by omega) Zbd4) fun x1 h2=>?_;have mh2:=h2.2;apply tD<;>intro h3
  .have q1:=wr (v3+v4);have q2:=wr (2*v4);have q3:=wr (v5+1);exact Za40
  have q1:=wr (2*v4);have q2:=wr (v5+1);exact Za40
 exact tl86
def Zaob(a0:Zd):Znr->Prop
 | .L0 E0 E1 E2 v4=>(E0=a0)/\(Zv E0)/\(Zv E1)/\(Zv E2)/\(0<=v4)/\(E2.Effects.length<=v4.toNat)/\(v4.toNat<=E0.Effects.length)/\(E2={ E0 with Effects:=E0.Effects.take v4.toNat })
def Zvy:Znr->M6
 | .L0 E0 E1 E2 v4=>(1,((E0.Effects.length:Int) - v4).toNat,1000000,0,0,0)
theorem Zaoc{a0:Zd}(oa0:Zv a0):Tot (Z5c a0) (fun r=>(Zv r)/\(r=a0)):=by
 apply Tot.rn (Zaob a0) Zvy
 .dsimp only [Z99,LT.den];have q1:=oa0.2.1.1;refine Tot.ap fun x1 h1=>?_;have lh1:x1.length=([]:List Zc).length+a0.Mods.length:=by rw [h1,List.length_append]
  try simp only [List.length_cons,List.length_nil,Nat.zero_add] at lh1
  have q2:=oa0.2.2.2.1.1;refine Tot.ap fun x2 h2=>?_;have lh2:x2.length=([]:List Zaz).length+a0.Specs.length:=by rw [h2,List.length_append]
  try simp only [List.length_cons,List.length_nil,Nat.zero_add] at lh2
  exact tL ⟨rfl,oa0,⟨SzS.nil,SzL.nil,SzS.nil,SzL.nil,SzL.nil,SzS.nil⟩,⟨oa0.1,SzL.app (k:=176) h1 lo (fun _ h=>by cases h) oa0.2.1.2,oa0.2.2.1,SzL.app (k:=144) h2 lo (fun _ h=>by cases h) oa0.2.2.2.1.2,SzL.nil,oa0.2.2.2.2.2⟩,cl,cl,cl,tk32⟩ (by unfold Zvy lt6;dsimp only;omega)
 rintro ⟨E0,E1,E2,v4⟩ ⟨al0,O0,O1,O2,cv4,i0,i1,i2⟩;subst al0;dsimp only [Zye,Z67,LT.den];have q1:=O0.2.2.2.2.1.1;apply tD<;>intro h1
 .refine Tot.ix fun x1 h2=>?_;have oh2:Zab x1:=O0.2.2.2.2.1.2 x1 h2.1;have mh2:=h2.2;have q2:=oh2.2.2.2.2.1;refine Tot.ap fun x2 h3=>?_;have lh3:x2.length=([]:List Zc).length+x1.Mods.length:=by rw [h3,List.length_append]
  try simp only [List.length_cons,List.length_nil,Nat.zero_add] at lh3
  have q3:=O2.2.2.2.2.1.1;refine Tot.ap fun x3 h4=>?_;have lh4:=Zc6 h4;have q4:=wr (v4+1);exact tL ⟨rfl,O0,O1,⟨O2.1,O2.2.1,O2.2.2.1,O2.2.2.2.1,SzL.app (k:=560) h4 lo O2.2.2.2.2.1.2 (me1 ⟨oh2.1,oh2.2.1,oh2.2.2.1,oh2.2.2.2.1,SzL.app (k:=176) h3 lo (fun _ h=>by cases h) oh2.2.2.2.2.2⟩),O2.2.2.2.2.2⟩,cl,cl,cl,tk32⟩ (by unfold Zvy lt6;dsimp only;omega)
 exact tR ⟨O2,(by exact Zbfl ‹_› (by omega))⟩
abbrev Zaj7(a0:Zl)(r:Za):Prop:=(Zu r)/\(r.Abilities.length<=a0.Abilities.length)/\(r=prV a0)
def Zaod(a0:Zl):Zns->Prop
 | .L0 E0 E1 E2 v4=>(E0=a0)/\(Zaa E0)/\(Zu E1)/\(Zu E2)/\(0<=v4)/\(E2.Abilities.length<=v4.toNat)/\(v4.toNat<=E0.Abilities.length)/\(E2={ prV E0 with Abilities:=E0.Abilities.take v4.toNat })
def Zvz:Zns->M6
 | .L0 E0 E1 E2 v4=>(1,((E0.Abilities.length:Int) - v4).toNat,1000000,0,0,0)
theorem Zaoe{a0:Zl}(oa0:Zaa a0):Tot (Zahq a0) (Zaj7 a0):=by
 apply Tot.rn (Zaod a0) Zvz
 .dsimp only [Zaaa,LT.den];refine tB (Zaqi) fun x1 h1=>?_;have q1:=oa0.2.1.1;refine Tot.ap fun x2 h2=>?_;have lh2:x2.length=([]:List (List UInt8)).length+a0.Line.Subs.length:=by rw [h2,List.length_append]
  try simp only [List.length_cons,List.length_nil,Nat.zero_add] at lh2
  exact tL ⟨rfl,oa0,⟨SzS.nil,SzL.nil,SzL.nil⟩,⟨oa0.1,SzL.app (k:=16) h2 lo (fun _ h=>by cases h) oa0.2.1.2,SzL.nil⟩,cl,cl,cl,tk18⟩ (by unfold Zvz lt6;dsimp only;omega)
 rintro ⟨E0,E1,E2,v4⟩ ⟨al0,O0,O1,O2,cv4,i0,i1,i2⟩;subst al0;dsimp only [Zyf,Z68,LT.den];have q1:=O0.2.2.1;apply tD<;>intro h1
 .refine Tot.ix fun x1 h2=>?_;have oh2:Zv x1:=O0.2.2.2 x1 h2.1;have mh2:=h2.2;refine tB (Zaoc oh2) fun x2 h3=>?_;have eh3_1:=h3.2;have q2:=O2.2.2.1;refine Tot.ap fun x3 h4=>?_;have lh4:=Zc6 h4;have q3:=wr (v4+1);exact tL ⟨rfl,O0,O1,⟨O2.1,O2.2.1,SzL.app (k:=640) h4 lo O2.2.2.2 (me1 h3.1)⟩,cl,cl,cl,tk18⟩ (by unfold Zvz lt6;dsimp only;omega)
 exact tR ⟨O2,cl,Zbd8⟩
abbrev Z5x(a0:List Zl)(a1:Zf)(r:Za):Prop:=(Zu r)/\(r.Abilities.length<=8)/\(r=baV a0 a1)
def Zum(a0:List Zl)(a1:Zf):Zvk->Prop
 | .L0 v0 E0 E1 v5=>(v0=a0)/\(E0=a1)/\((SzL 176 Zaa) v0)/\(Zu E1)/\(∀ c,c∈v0->c.Abilities.length<=8)/\(v5=if E0.Copy < 0 then E0.Card else E0.Copy)
 | .L1 E0 E1 E2=>(E0=a1)/\(Zu E1)/\(Zu E2)/\(E2.Abilities.length<=8)/\(E2=Zqm a0 (if E0.Copy < 0 then E0.Card else E0.Copy))
def Zad7:Zvk->M6
 | .L0 v0 E0 E1 v5=>(0,0,0,0,0,0)
 | .L1 E0 E1 E2=>(0,0,0,0,0,0)
theorem Zzd{a0:List Zl}{a1:Zf}{E0:Zf}{E1:Za}{E2:Za}(h:(Zum a0 a1) (.L1 E0 E1 E2)):Tot (Zst E0 E1 E2).den (Nx (Zum a0 a1) Zad7 (0,0,0,0,0,0) (Z5x a0 a1)):=by
 obtain⟨al0,O1,O2,i0,i1⟩:=h;subst al0;dsimp only [Zst,LT.den];apply tE<;>intro h1
 .exact tl92
 apply tE<;>intro h2
 .exact tl92
 exact tl92
theorem Zaaz{a0:List Zl}{a1:Zf}{v0:List Zl}{E0:Zf}{E1:Za}{v5:Int}(h:(Zum a0 a1) (.L0 v0 E0 E1 v5)):Tot (Zxm v0 E0 E1 v5).den (Nx (Zum a0 a1) Zad7 (0,0,0,0,0,0) (Z5x a0 a1)):=by
 obtain⟨al0,al1,ov0,O1,i0,i1⟩:=h;subst al0;subst al1;dsimp only [Zxm,LT.den];apply tD<;>intro h1
 .apply tD<;>intro h2
  .refine Tot.ix fun x1 h3=>?_;have oh3:Zaa x1:=ov0.2 x1 h3.1;have mh3:=h3.2;have nh3:=i0 x1 h3.1;refine tB (Zaoe oh3) fun x2 h4=>?_;have eh4_2:=h4.2.2;exact tJ (Zzd ⟨rfl,O1,h4.1,cl,tk29⟩)
  exact Zbdi
 exact Zbdi
theorem Za56{a0:List Zl}{a1:Zf}(oa0:(SzL 176 Zaa) a0)(h0:∀ c,c∈a0->c.Abilities.length<=8):Tot (Zayh a0 a1) (Z5x a0 a1):=by
 apply Tot.rn (Zum a0 a1) Zad7
 .dsimp only [Zayf,LT.den];apply tD<;>intro h1
  .exact tl69
  exact tl69
 intro s hs;cases s with
 | L0 _ _ _ _=>exact Zaaz hs
 | L1 _ _ _=>exact Zzd hs
theorem Zze{a0:Int}:Tot (Z33 a0) (fun r=>(r=clV a0)):=by
 apply tZ;dsimp only [Z5d,LT.den];apply tD<;>intro h1
 .exact tl7
 apply tD<;>intro h2
 .exact tl7
 exact tl7
theorem Za1i{a0:Int}{a1:Int}:Tot (Za2a a0 a1) (fun r=>(r=suV a0 a1)):=by
 apply tZ;dsimp only [Zase,LT.den];refine tB (Zze) fun x1 h1=>tB (Zze) fun x2 h2=>?_;have q1:=wr (x1 - x2);exact tB (Zze) fun x3 h3=>tR (by unfold suV;grind)
theorem Zat2{a0:A3 Int}:Tot (Zasg a0) (fun r=>(r=pwV a0)):=by
 apply tZ;dsimp only [Zahs,LT.den];refine tB (tI (by omega) Zauo) fun x1 h1=>?_;have mh1:=h1.2;refine tB (tI (by omega) Zauo) fun x2 h2=>?_;have mh2:=h2.2;exact tB (Za1i) fun x3 h3=>tR Zbd5
def Zazx(a0:List Zc)(a1:List Zc):Zt5->Prop
 | .L0 v0 v1 v5=>(v0=a0)/\(v1=a1)/\((SzL 176 Z5) v0)/\((SzL 176 Z5) v1)/\(0<=v5)/\(v0.length=v1.length)
def Z5y:Zt5->M6
 | .L0 v0 v1 v5=>(1,((v0.length:Int) - v5).toNat,1000000,0,0,0)
theorem Zad8{a0:List Zc}{a1:List Zc}(oa0:(SzL 176 Z5) a0)(oa1:(SzL 176 Z5) a1):Tot (Zayk a0 a1) (fun r=>(a0=a1->r=true)):=by
 apply Tot.rn (Zazx a0 a1) Z5y
 .have lb_a1:=oa1.1;dsimp only [Zanc,LT.den];have q1:=oa1.1;apply tN<;>intro h1
  .exact tR (by exact sm)
  exact tL ⟨rfl,rfl,oa0,oa1,cs⟩ (by unfold Z5y lt6;dsimp only;omega)
 rintro ⟨v0,v1,v5⟩ ⟨al0,al1,ov0,ov1,cv5,i0⟩;have lb_v0:=ov0.1;have lb_v1:=ov1.1;subst al0;subst al1;dsimp only [Z8n,Zahy,LT.den];apply tD<;>intro h1
 .refine Tot.ix fun x1 h2=>Tot.ix fun x2 h3=>?_;have mh3:=h3.2;apply tO<;>intro h4
  .exact tR (by exact sm)
  have q1:=wr (v5+1);exact tL ⟨rfl,rfl,ov0,ov1,cs⟩ (by unfold Z5y lt6;dsimp only;omega)
 exact tR (by exact sm)
theorem Zaof{a0:Zs}{a1:Zs}(oa0:Zab a0)(oa1:Zab a1):Tot (Zah0 a0 a1) (fun r=>(a0=a1->r=true)):=by
 apply tZ;dsimp only [Zaad,LT.den];apply tE<;>intro h1
 .apply tF<;>intro h2
  .apply tF<;>intro h3
   .apply tE<;>intro h4
    .apply tE<;>intro h5
     .apply tF<;>intro h6
      .apply tF<;>intro h7
       .apply tF<;>intro h8
        .exact tB (Zad8 oa0.2.2.2.2 oa1.2.2.2.2) fun x1 h9=>tR (by exact sm)
        exact tR (by exact sm)
       exact tR (by exact sm)
      exact tR (by exact sm)
     exact tR (by exact sm)
    exact tR (by exact sm)
   exact tR (by exact sm)
  exact tR (by exact sm)
 exact tR (by exact sm)
def Zaa7(a0:Zd)(a1:Zd):Zgo->Prop
 | .L0 E0 E1 v5=>(E0=a0)/\(E1=a1)/\(Zv E0)/\(Zv E1)/\(0<=v5)/\(E0.Specs.length=E1.Specs.length)/\(E0.Effects.length=E1.Effects.length)
 | .L1 E0 E1 v6=>(E0=a0)/\(E1=a1)/\(Zv E0)/\(Zv E1)/\(0<=v6)/\(E0.Specs.length=E1.Specs.length)/\(E0.Effects.length=E1.Effects.length)
def Zpn:Zgo->M6
 | .L0 E0 E1 v5=>(3,((E0.Specs.length:Int) - v5).toNat,1000000,0,0,0)
 | .L1 E0 E1 v6=>(1,((E0.Effects.length:Int) - v6).toNat,1000000,0,0,0)
theorem Zaa8{a0:Zd}{a1:Zd}(oa0:Zv a0)(oa1:Zv a1):Tot (Z34 a0 a1) (fun r=>(a0=a1->r=true)):=by
 apply Tot.rn (Zaa7 a0 a1) Zpn
 .dsimp only [Zzl,LT.den];apply tN<;>intro h1
  .exact tR (by exact sm)
  apply tO<;>intro h2
  .exact tR (by exact sm)
  refine tB (Zad8 oa0.2.1 oa1.2.1) fun x1 h3=>?_;apply tO<;>intro h4
  .exact tR (by exact sm)
  apply tO<;>intro h5
  .exact tR (by exact sm)
  apply tO<;>intro h6
  .exact tR (by exact sm)
  apply tO<;>intro h7
  .exact tR (by exact sm)
  apply tO<;>intro h8
  .exact tR (by exact sm)
  apply tO<;>intro h9
  .exact tR (by exact sm)
  have q1:=oa1.2.2.2.1.1;apply tN<;>intro h10
  .exact tR (by exact sm)
  have q2:=oa1.2.2.2.2.1.1;apply tN<;>intro h11
  .exact tR (by exact sm)
  exact tL ⟨rfl,rfl,oa0,oa1,cs⟩ (by unfold Zpn lt6;dsimp only;omega)
 intro s hs;cases s with
 | L0 E0 E1 v5=>
  obtain⟨al0,al1,O0,O1,cv5,i0,i1⟩:=hs;subst al0;subst al1;dsimp only [Zle,Zxn,LT.den];have q1:=O0.2.2.2.1.1;apply tD<;>intro h1
  .refine Tot.ix fun x1 h2=>?_;have oh2:Zgc x1:=O0.2.2.2.1.2 x1 h2.1;refine Tot.ix fun x2 h3=>?_;have oh3:Zgc x2:=O1.2.2.2.1.2 x2 h3.1;have mh3:=h3.2;apply tO<;>intro h4
   .exact tR (by exact sm)
   have q2:=wr (v5+1);exact tl59
  exact tl59
 | L1 E0 E1 v6=>
  obtain⟨al0,al1,O0,O1,cv6,i0,i1⟩:=hs;subst al0;subst al1;dsimp only [Zle,Zxo,LT.den];have q1:=O0.2.2.2.2.1.1;apply tD<;>intro h1
  .refine Tot.ix fun x1 h2=>?_;have oh2:Zab x1:=O0.2.2.2.2.1.2 x1 h2.1;refine Tot.ix fun x2 h3=>?_;have oh3:Zab x2:=O1.2.2.2.2.1.2 x2 h3.1;have mh3:=h3.2;refine tB (Zaof oh2 oh3) fun x3 h4=>?_;apply tO<;>intro h5
   .exact tR (by exact sm)
   have q2:=wr (v6+1);exact tl59
  exact tR (by exact sm)
def Zazy(a0:Za)(a1:Za):Zp6->Prop
 | .L0 E0 E1 v5=>(E0=a0)/\(E1=a1)/\(Zu E0)/\(Zu E1)/\(0<=v5)/\(E0.Line.Subs.length=E1.Line.Subs.length)/\(E0.Abilities.length=E1.Abilities.length)
 | .L1 E0 E1 v6=>(E0=a0)/\(E1=a1)/\(Zu E0)/\(Zu E1)/\(0<=v6)/\(E0.Line.Subs.length=E1.Line.Subs.length)/\(E0.Abilities.length=E1.Abilities.length)
def Z5z:Zp6->M6
 | .L0 E0 E1 v5=>(3,((E0.Line.Subs.length:Int) - v5).toNat,1000000,0,0,0)
 | .L1 E0 E1 v6=>(1,((E0.Abilities.length:Int) - v6).toNat,1000000,0,0,0)
theorem Zazz{a0:Za}{a1:Za}(oa0:Zu a0)(oa1:Zu a1):Tot (Zayl a0 a1) (fun r=>(a0=a1->r=true)):=by
 apply Tot.rn (Zazy a0 a1) Z5z
 .dsimp only [Zand,LT.den];apply tO<;>intro h1
  .exact tR (by exact sm)
  apply tO<;>intro h2
  .exact tR (by exact sm)
  apply tN<;>intro h3
  .exact tR (by exact sm)
  apply tN<;>intro h4
  .exact tR (by exact sm)
  apply tN<;>intro h5
  .exact tR (by exact sm)
  apply tN<;>intro h6
  .exact tR (by exact sm)
  apply tN<;>intro h7
  .exact tR (by exact sm)
  apply tN<;>intro h8
  .exact tR (by exact sm)
  apply tN<;>intro h9
  .exact tR (by exact sm)
  have q1:=oa0.2.1.1;have q2:=oa1.2.1.1;apply tN<;>intro h10
  .exact tR (by exact sm)
  have q3:=oa0.2.2.1;have q4:=oa1.2.2.1;apply tN<;>intro h11
  .exact tR (by exact sm)
  exact tL ⟨rfl,rfl,oa0,oa1,cs⟩ (by unfold Z5z lt6;dsimp only;omega)
 intro s hs;cases s with
 | L0 E0 E1 v5=>
  obtain⟨al0,al1,O0,O1,cv5,i0,i1⟩:=hs;subst al0;subst al1;dsimp only [Zzx,Zah1,LT.den];have q1:=O0.2.1.1;apply tD<;>intro h1
  .refine Tot.ix fun x1 h2=>?_;have oh2:SzT x1:=O0.2.1.2 x1 h2.1;refine Tot.ix fun x2 h3=>?_;have oh3:SzT x2:=O1.2.1.2 x2 h3.1;have mh3:=h3.2;apply tO<;>intro h4
   .exact tR (by exact sm)
   have q2:=wr (v5+1);exact tl54
  exact tl54
 | L1 E0 E1 v6=>
  obtain⟨al0,al1,O0,O1,cv6,i0,i1⟩:=hs;subst al0;subst al1;dsimp only [Zzx,Zah2,LT.den];have q1:=O0.2.2.1;apply tD<;>intro h1
  .refine Tot.ix fun x1 h2=>?_;have oh2:Zv x1:=O0.2.2.2 x1 h2.1;refine Tot.ix fun x2 h3=>?_;have oh3:Zv x2:=O1.2.2.2 x2 h3.1;have mh3:=h3.2;refine tB (Zaa8 oh2 oh3) fun x3 h4=>?_;apply tO<;>intro h5
   .exact tR (by exact sm)
   have q2:=wr (v6+1);exact tl54
  exact tR (by exact sm)
theorem Z4n{a0:Int}:Tot (Zah3 a0) (fun r=>(r=clV a0)):=by
 apply tZ;dsimp only [Zaaf,LT.den];exact tR (by rfl)
def Zpo(a0:List Zl)(a1:Zm):Zg5->Prop
 | .L0 v0 E0 v5 v6=>(v0=a0)/\(E0=a1)/\((SzL 176 Zaa) v0)/\(Zad E0)/\((SzL 176 Zu) v5)/\(0<=v6)/\(∀ c,c∈v0->c.Abilities.length<=8)/\(∀ c,c∈v0->Zlg c)/\(v5.length=E0.Objects.length)/\(v5=(E0.Objects.map (baV v0)).mapIdx (Zn2 E0.Objects))
 | .L1 v0 E0 v5 v6 E1=>(v0=a0)/\(E0=a1)/\((SzL 176 Zaa) v0)/\(Zad E0)/\((SzL 176 Zu) v5)/\(Zu E1)/\(0<=v6)/\(v6 < (v5.length:Int))/\(∀ c,c∈v0->c.Abilities.length<=8)/\(∀ c,c∈v0->Zlg c)/\(v5.length=E0.Objects.length)/\(v5=(E0.Objects.map (baV v0)).mapIdx (Zn2 E0.Objects))/\(v6 < (v5.length:Int))/\(v5[v6.toNat]?=some E1)
def Zip:Zg5->M6
 | .L0 v0 E0 v5 v6=>(1,((v5.length:Int) - v6).toNat,1000000,0,0,0)
 | .L1 v0 E0 v5 v6 E1=>(1,((v5.length:Int) - v6).toNat,0,0,0,0)
theorem Zmg{a0:List Zl}{a1:Zm}{v0:List Zl}{E0:Zm}{v5:List Za}{v6:Int}{E1:Za}(h:(Zpo a0 a1) (.L1 v0 E0 v5 v6 E1)):Tot (Zgp v0 E0 v5 v6 E1).den (Nx (Zpo a0 a1) Zip (1,((v5.length:Int) - v6).toNat,0,0,0,0) (fun r=>(r=true))):=by
 obtain⟨al0,al1,ov0,O0,ov5,O1,cv6,bd7,i0,i1,i2,i3,i4,i5⟩:=h;have lb_v5:=ov5.1;subst al0;subst al1;dsimp only [Zgp,LT.den];have lx_0:v5.length*176<=140737488351232:=ov5.1;refine Tot.ix fun x1 h1=>?_;have oh1:Zu x1:=ov5.2 x1 h1.1;have mh1:=h1.2;refine tB (Zazz oh1 O1) fun x2 h2=>?_;apply tO<;>intro h3
 .exact Zaun
 have q1:=wr (v6+1);exact tL ⟨rfl,rfl,ov0,O0,ov5,cl,tk75,tk69,cl,tk57⟩ (by unfold Zip lt6;dsimp only;omega)
theorem Zad9{a0:List Zl}{a1:Zm}(oa0:(SzL 176 Zaa) a0)(oa1:Zad a1):Tot (Z7a a0 a1) (fun r=>(r=true)):=by
 apply Tot.rn (Zpo a0 a1) Zip
 .dsimp only [Z1p,LT.den];refine tB (Zatx oa0 oa1) fun x1 h1=>?_;have eh1_0:=h1.1;have eh1_1:=h1.2.1;have eh1_2:=h1.2.2;apply tO<;>intro h2
  .exact tB (Zzc) fun x2 h3=>tR tk3
  have h2_0:=eh1_0 h2;have h2_1:=eh1_1 h2;have h2_2:=eh1_2 h2;refine tB (Z15 oa0 oa1 cl cl Zex) fun x2 h3=>?_;have eh3_1:=h3.2;apply tD<;>intro h4
  .exact tB (Zzc) fun x3 h5=>tR tk3
  refine tB (Zat1 oa0 oa1 cl cl Zex ‹_›) fun x3 h5=>?_;have eh5_1:=h5.2.1;have eh5_2:=h5.2.2.1;apply tN<;>intro h6
  .exact Zaun
  exact tL ⟨rfl,rfl,oa0,oa1,h5.1,cl,tk75,tk69,cl,tk57⟩ (by unfold Zip lt6;dsimp only;omega)
 intro s hs;cases s with
 | L0 v0 E0 v5 v6=>
  obtain⟨al0,al1,ov0,O0,ov5,cv6,i0,i1,i2,i3⟩:=hs;subst al0;subst al1;dsimp only [Zr6,Zzm,LT.den,Zip];apply tD<;>intro h1
  .refine Tot.ix fun x1 h2=>?_;have mh2:=h2.2;refine tB (Za56 ov0 Zex) fun x2 h3=>?_;have eh3_2:=h3.2.2;refine tB (Zat2) fun x3 h4=>?_;apply tE<;>intro h5
   .apply tE<;>intro h6
    .refine Tot.ix fun x4 h7=>?_;have mh7:=h7.2;have q1:=wr (x2.Power+x3);refine tB (Z4n) fun x5 h8=>?_;apply tN<;>intro h9
     .exact Zaun
     have q2:=wr (x2.Tough+x3);refine tB (Z4n) fun x6 h10=>?_;apply tN<;>intro h11
     .exact Zaun
     exact tJ (Zmg ⟨rfl,rfl,ov0,O0,ov5,⟨h3.1.1,h3.1.2.1,h3.1.2.2⟩,cl,cl,tk75,tk69,cl,tk57,cl,tk14⟩)
    exact Zbdu
   exact Zbdu
  exact tB (Zzc) fun x1 h2=>tR tk3
 | L1 _ _ _ _ _=>exact Zmg hs
end Go.PW
