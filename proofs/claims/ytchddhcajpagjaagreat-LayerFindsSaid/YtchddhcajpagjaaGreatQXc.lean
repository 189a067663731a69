import Derived.Test.YtchddhcajpagjaaGreatQXb
set_option linter.all false
set_option maxRecDepth 100000
namespace Go.PW
abbrev Zv1(b0:Zj)(a1:Int)(r:(List Int)×Zj):Prop:=((SzL 8 (fun _=>True)) r.1)/\(Zz r.2)/\(r.2.traits.length=r.2.s.Objects.length)/\(r.2.dropped.length=r.2.s.Objects.length)/\(r.2.done.length=r.2.forces.length)/\(r.2.hits.length=r.2.forces.length)/\(r.2.s.Objects.length<=2048)/\(r.2.forces.length<=16448)/\(HI r.2.s.Objects.length r.2.hits)/\(r.2.s=b0.s)/\(r.2.forces=b0.forces)
def Zv7(b0:Zj)(a1:Int):Zc1->Prop
 | .L0 c0 v1 v5 v6 v7 v18 v19 v20=>(v1=a1)/\(Zz c0)/\((SzL 8 (fun _=>True)) v5)/\((SzL 8 (fun _=>True)) v6)/\((SzL 8 (fun _=>True)) v7)/\((SzL 224 Zbn) v18)/\(0<=v20)/\(c0.traits.length=c0.s.Objects.length)/\(c0.dropped.length=c0.s.Objects.length)/\(c0.done.length=c0.forces.length)/\(c0.hits.length=c0.forces.length)/\(c0.s.Objects.length<=2048)/\(c0.forces.length<=16448)/\(HI c0.s.Objects.length c0.hits)/\(c0.s.Objects.length=b0.s.Objects.length)/\(c0.forces.length=b0.forces.length)/\(c0.s=b0.s)/\(c0.forces=b0.forces)/\(v19=(v18.length:Int))/\(v19=(c0.forces.length:Int))/\(v5.length<=v20.toNat)/\(v7.length<=v20.toNat)/\(v20<=v19)/\(v6.length=0)/\(INR b0.forces.length v5)
 | .L1 c0 v1 v5 v6 v7=>(v1=a1)/\(Zz c0)/\((SzL 8 (fun _=>True)) v5)/\((SzL 8 (fun _=>True)) v6)/\((SzL 8 (fun _=>True)) v7)/\(c0.traits.length=c0.s.Objects.length)/\(c0.dropped.length=c0.s.Objects.length)/\(c0.done.length=c0.forces.length)/\(c0.hits.length=c0.forces.length)/\(c0.s.Objects.length<=2048)/\(c0.forces.length<=16448)/\(HI c0.s.Objects.length c0.hits)/\(c0.s.Objects.length=b0.s.Objects.length)/\(c0.forces.length=b0.forces.length)/\(c0.s=b0.s)/\(c0.forces=b0.forces)/\(v6.length+v5.length<=b0.forces.length)/\(v7.length<=16448)/\(INR b0.forces.length v5)
def Zb1:Zc1->M6
 | .L0 c0 v1 v5 v6 v7 v18 v19 v20=>(1,(v19 - v20).toNat,0,0,0,0)
 | .L1 c0 v1 v5 v6 v7=>(0,v5.length,0,0,0,0)
theorem Zv8{b0:Zj}{a1:Int}(ob0:Zz b0)(h0:b0.traits.length=b0.s.Objects.length)(h1:b0.dropped.length=b0.s.Objects.length)(h2:b0.done.length=b0.forces.length)(h3:b0.hits.length=b0.forces.length)(h4:b0.s.Objects.length<=2048)(h5:b0.forces.length<=16448)(h6:HI b0.s.Objects.length b0.hits):Tot (Zjp b0 a1) (Zv1 b0 a1):=by
 unfold Zjp
 refine tX (Inv:=(Zv7 b0 a1)) (μ:=Zb1) (m:=(1000000,0,0,0,0,0)) ?_ ?_
 .dsimp only [Zm8,LT.den]
  refine tE (fun h1=>?_) (fun h1=>?_)
  .refine tB (Zv5 ob0 cl cl cl cl cl cl (by first | assumption | exact Zae | exact Zao (by assumption:(_:Int)=_/\∀ y:List Int,y∈_->y=[]).2)) (fun x2 h3=>?_)
   have eh3_1:=h3.2.1
   have eh3_2:=h3.2.2.1
   have eh3_3:=h3.2.2.2.1
   have eh3_4:=h3.2.2.2.2.1
   have eh3_5:=h3.2.2.2.2.2.1
   have eh3_6:=h3.2.2.2.2.2.2.1
   have eh3_7:=h3.2.2.2.2.2.2.2.1
   have eh3_8:=h3.2.2.2.2.2.2.2.2.1
   have eh3_9:=h3.2.2.2.2.2.2.2.2.2
   have q4:=h3.1.2.1.1
   exact tL ⟨rfl,h3.1,SzL.nil,SzL.nil,SzL.nil,h3.1.2.1,cl,cl,cl,cl,cl,cl,cl,(by first | assumption | exact Zae | exact Zao (by assumption:(_:Int)=_/\∀ y:List Int,y∈_->y=[]).2),(by first | omega | grind),(by first | omega | grind),(by first | rfl | assumption | grind),(by first | rfl | assumption | grind),cl,cl,cl,cl,cl,cl,(by first | assumption | exact Zf0 | exact Zhu ‹_› ‹_› (by omega) (by omega) | exact Z1o ‹_› ‹_›)⟩ (by unfold Zb1 lt6;dsimp only;omega)
  .have q5:=ob0.2.1.1
   exact tL ⟨rfl,ob0,SzL.nil,SzL.nil,SzL.nil,ob0.2.1,cl,cl,cl,cl,cl,cl,cl,(by first | assumption | exact Zae | exact Zao (by assumption:(_:Int)=_/\∀ y:List Int,y∈_->y=[]).2),(by first | omega | grind),(by first | omega | grind),(by first | rfl | assumption | grind),(by first | rfl | assumption | grind),cl,cl,cl,cl,cl,cl,(by first | assumption | exact Zf0 | exact Zhu ‹_› ‹_› (by omega) (by omega) | exact Z1o ‹_› ‹_›)⟩ (by unfold Zb1 lt6;dsimp only;omega)
 .intro s hs
  cases s with
  | L0 c0 v1 v5 v6 v7 v18 v19 v20=>
   obtain⟨al0,oc0,ov5,ov6,ov7,ov18,cv20,i0,i1,i2,i3,i4,i5,i6,i7,i8,i9,i10,i11,i12,i13,i14,i15,i16,i17⟩:=hs
   have lb_v5:=ov5.1
   have lb_v6:=ov6.1
   have lb_v7:=ov7.1
   have lb_v18:=ov18.1
   subst al0
   show Tot (Zhs c0 v1 v5 v6 v7 v18 v19 v20).den _
   dsimp only [Zhs,LT.den]
   refine tD (fun h1=>?_) (fun h1=>?_)
   .refine tB (tI (by omega) (by omega)) (fun x2 h3=>?_)
    have oh3:Zbn x2:=ov18.2 x2 h3.1
    have mh3:=h3.2
    have q6:=ov7.1
    refine tB (tA (by simp only [List.length_cons,List.length_nil];omega) (by decide)) (fun x4 h5=>?_)
    have lh5:x4.length=v7.length+1:=by rw [h5,List.length_append];rfl
    refine tB (Zaf3 oh3) (fun x7 h8=>?_)
    refine tF (fun h9=>?_) (fun h9=>?_)
    .have q12:=ov5.1
     refine tB (tA (by simp only [List.length_cons,List.length_nil];omega) (by decide)) (fun x10 h11=>?_)
     have lh11:x10.length=v5.length+1:=by rw [h11,List.length_append];rfl
     refine qw (v20+1) fun q13 q14=>?_
     exact tL ⟨rfl,oc0,SzL.tr,ov6,SzL.tr,ov18,cl,cl,cl,cl,cl,cl,cl,(by first | assumption | exact Zae | exact Zao (by assumption:(_:Int)=_/\∀ y:List Int,y∈_->y=[]).2),(by first | omega | grind),(by first | omega | grind),(by first | rfl | assumption | grind),(by first | rfl | assumption | grind),cl,cl,cl,cl,cl,cl,(by first | assumption | exact Zf0 | exact Zhu ‹_› ‹_› (by omega) (by omega) | exact Z1o ‹_› ‹_›)⟩ (by unfold Zb1 lt6;dsimp only;omega)
    .refine qw (v20+1) fun q15 q16=>?_
     exact tL ⟨rfl,oc0,ov5,ov6,SzL.tr,ov18,cl,cl,cl,cl,cl,cl,cl,(by first | assumption | exact Zae | exact Zao (by assumption:(_:Int)=_/\∀ y:List Int,y∈_->y=[]).2),(by first | omega | grind),(by first | omega | grind),(by first | rfl | assumption | grind),(by first | rfl | assumption | grind),cl,cl,cl,cl,cl,cl,(by first | assumption | exact Zf0 | exact Zhu ‹_› ‹_› (by omega) (by omega) | exact Z1o ‹_› ‹_›)⟩ (by unfold Zb1 lt6;dsimp only;omega)
   .exact tL ⟨rfl,oc0,ov5,ov6,ov7,cl,cl,cl,cl,cl,cl,(by first | assumption | exact Zae | exact Zao (by assumption:(_:Int)=_/\∀ y:List Int,y∈_->y=[]).2),(by first | omega | grind),(by first | omega | grind),(by first | rfl | assumption | grind),(by first | rfl | assumption | grind),cl,cl,(by first | assumption | exact Zf0 | exact Zhu ‹_› ‹_› (by omega) (by omega) | exact Z1o ‹_› ‹_›)⟩ (by unfold Zb1 lt6;dsimp only;omega)
  | L1 c0 v1 v5 v6 v7=>
   obtain⟨al0,oc0,ov5,ov6,ov7,i0,i1,i2,i3,i4,i5,i6,i7,i8,i9,i10,i11,i12,i13⟩:=hs
   have lb_v5:=ov5.1
   have lb_v6:=ov6.1
   have lb_v7:=ov7.1
   subst al0
   show Tot (Zht c0 v1 v5 v6 v7).den _
   dsimp only [Zht,LT.den]
   refine tD (fun h1=>?_) (fun h1=>?_)
   .refine tB (Zqx oc0 ov5 cl cl cl cl cl cl (by first | assumption | exact Zae | exact Zao (by assumption:(_:Int)=_/\∀ y:List Int,y∈_->y=[]).2) cl (by first | assumption | exact Za91 ‹_› (by omega))) (fun x2 h3=>?_)
    refine tB (Zaog ov5 ov7 h3 cl (by first | assumption | exact Za8s ‹_›)) (fun x4 h5=>?_)
    have eh5_0:=h5
    have wh5:=Za92 (by assumption:INR b0.forces.length v5) (by assumption:x4 < 0\/x4∈v5)
    refine tD (fun h6=>?_) (fun h6=>?_)
    .exact tR ⟨ov6,oc0,cl,cl,cl,cl,cl,cl,(by first | assumption | exact Zae | exact Zao (by assumption:(_:Int)=_/\∀ y:List Int,y∈_->y=[]).2),(by first | rfl | assumption | grind),(by first | rfl | assumption | grind)⟩
    .refine tB (Zl4 oc0 cl cl cl cl cl cl (by first | assumption | exact Zae | exact Zao (by assumption:(_:Int)=_/\∀ y:List Int,y∈_->y=[]).2) cl cl) (fun x7 h8=>?_)
     have eh8_1:=h8.2.1
     have eh8_2:=h8.2.2.1
     have eh8_3:=h8.2.2.2.1
     have eh8_4:=h8.2.2.2.2.1
     have eh8_5:=h8.2.2.2.2.2.1
     have eh8_6:=h8.2.2.2.2.2.2.1
     have eh8_7:=h8.2.2.2.2.2.2.2.1
     have eh8_8:=h8.2.2.2.2.2.2.2.2.1
     have eh8_9:=h8.2.2.2.2.2.2.2.2.2
     have q11:=ov6.1
     refine tB (tA (by simp only [List.length_cons,List.length_nil];omega) (by decide)) (fun x9 h10=>?_)
     have lh10:x9.length=v6.length+1:=by rw [h10,List.length_append];rfl
     refine tB (Zgu ov5) (fun x12 h13=>?_)
     have eh13_1:=h13.2
     have sh13:=flt_sub' (by assumption:x12=_);have lh13:=flt_lt' (by assumption:x12=_) ‹_› ‹_›
     exact tL ⟨rfl,h8.1,h13.1,SzL.tr,ov7,cl,cl,cl,cl,cl,cl,(by first | assumption | exact Zae | exact Zao (by assumption:(_:Int)=_/\∀ y:List Int,y∈_->y=[]).2),(by first | omega | grind),(by first | omega | grind),(by first | rfl | assumption | grind),(by first | rfl | assumption | grind),cl,cl,(by first | assumption | exact Zf0 | exact Zhu ‹_› ‹_› (by omega) (by omega) | exact Z1o ‹_› ‹_›)⟩ (by unfold Zb1 lt6;dsimp only;omega)
   .exact tR ⟨ov6,oc0,cl,cl,cl,cl,cl,cl,(by first | assumption | exact Zae | exact Zao (by assumption:(_:Int)=_/\∀ y:List Int,y∈_->y=[]).2),(by first | rfl | assumption | grind),(by first | rfl | assumption | grind)⟩
def Zasw(a0:List Zn)(a1:Zl):Zr1->Prop
 | .L0 E0 v6=>(Zz E0)/\(0<=v6)/\(E0.traits.length=E0.s.Objects.length)/\(E0.dropped.length=E0.s.Objects.length)/\(E0.done.length=E0.forces.length)/\(E0.hits.length=E0.forces.length)/\(E0.s.Objects.length<=2048)/\(E0.forces.length<=16448)/\(HI E0.s.Objects.length E0.hits)/\(E0.s=a1)
def Z36:Zr1->M6
 | .L0 E0 v6=>(1,(8+1 - v6).toNat,1000000,0,0,0)
theorem Zap8{a0:List Zn}{a1:Zl}(oa0:(SzL 176 Zad) a0)(oa1:Z9 a1)(h0:a1.Objects.length<=2048)(h1:a1.Conts.length<=64)(h2:∀ c,c∈a0->c.Abilities.length<=8):Tot (Ztk a0 a1) (fun r=>((SzL 176 Zv) r)/\(r.length=a1.Objects.length)):=by
 unfold Ztk
 refine tX (Inv:=(Zasw a0 a1)) (μ:=Z36) (m:=(1000000,0,0,0,0,0)) ?_ ?_
 .have lb_a0:=oa0.1
  dsimp only [Zahq,LT.den]
  refine tB (Zaod oa0 oa1 cl cl (by first | assumption | grind)) (fun x1 h2=>?_)
  have eh2_1:=h2.2.1
  have eh2_2:=h2.2.2.1
  have eh2_3:=h2.2.2.2.1
  have eh2_4:=h2.2.2.2.2.1
  have eh2_5:=h2.2.2.2.2.2.1
  have eh2_6:=h2.2.2.2.2.2.2.1
  have eh2_7:=h2.2.2.2.2.2.2.2.1
  have eh2_8:=h2.2.2.2.2.2.2.2.2
  exact tL ⟨h2.1,cl,cl,cl,cl,cl,cl,cl,(by first | assumption | exact Zae | exact Zao (by assumption:(_:Int)=_/\∀ y:List Int,y∈_->y=[]).2),(by first | assumption | grind)⟩ (by unfold Z36 lt6;dsimp only;omega)
 .intro s hs
  cases s with
  | L0 E0 v6=>
   obtain⟨O0,cv6,i0,i1,i2,i3,i4,i5,i6,i7⟩:=hs
   show Tot (Z3i E0 v6).den _
   dsimp only [Z3i,LT.den]
   refine tD (fun h1=>?_) (fun h1=>?_)
   .refine tB (Zv8 O0 cl cl cl cl cl cl (by first | assumption | exact Zae | exact Zao (by assumption:(_:Int)=_/\∀ y:List Int,y∈_->y=[]).2)) (fun x2 h3=>?_)
    have eh3_2:=h3.2.2.1
    have eh3_3:=h3.2.2.2.1
    have eh3_4:=h3.2.2.2.2.1
    have eh3_5:=h3.2.2.2.2.2.1
    have eh3_6:=h3.2.2.2.2.2.2.1
    have eh3_7:=h3.2.2.2.2.2.2.2.1
    have eh3_8:=h3.2.2.2.2.2.2.2.2.1
    have eh3_9:=h3.2.2.2.2.2.2.2.2.2.1
    have eh3_10:=h3.2.2.2.2.2.2.2.2.2.2
    refine qw (v6+1) fun q4 q5=>?_
    exact tL ⟨h3.2.1,cl,cl,cl,cl,cl,cl,cl,(by first | assumption | exact Zae | exact Zao (by assumption:(_:Int)=_/\∀ y:List Int,y∈_->y=[]).2),(by first | assumption | grind)⟩ (by unfold Z36 lt6;dsimp only;omega)
   .exact tR ⟨O0.2.2.1,(by first | omega | grind)⟩
theorem Zab3{a0:List Zn}{a1:Zl}(oa0:(SzL 176 Zad) a0)(oa1:Z9 a1)(h0:a1.Objects.length<=2048)(h1:a1.Conts.length<=64)(h2:∀ c,c∈a0->c.Abilities.length<=8):Tot (Ztk a0 a1) (fun r=>((SzL 176 Zv) r)/\(r.length=a1.Objects.length)/\(r=allV a0 a1)):=(Tot.we (Zap8 oa0 oa1 h0 h1 h2)).mono fun r h=>⟨h.1.1,h.1.2,Option.some.inj (h.2.symm.trans (by unfold allV;rw [h.2];rfl))⟩
theorem Zsr:Tot Zarj (fun r=>r=true):=⟨true,by kernel_rfl,rfl⟩
def Zax6(a0:List Zi)(a1:List Zi):Zve->Prop
 | .L0 v0 v1 v5=>(v0=a0)/\(v1=a1)/\((SzL 176 Zu) v0)/\((SzL 176 Zu) v1)/\(0<=v5)/\(v0.length=v1.length)
def Z7o:Zve->M6
 | .L0 v0 v1 v5=>(1,((v0.length:Int) - v5).toNat,1000000,0,0,0)
theorem Zaez{a0:List Zi}{a1:List Zi}(oa0:(SzL 176 Zu) a0)(oa1:(SzL 176 Zu) a1):Tot (Zajs a0 a1) (fun r=>(a0=a1->r=true)):=by
 unfold Zajs
 refine tX (Inv:=(Zax6 a0 a1)) (μ:=Z7o) (m:=(1000000,0,0,0,0,0)) ?_ ?_
 .have lb_a0:=oa0.1
  have lb_a1:=oa1.1
  dsimp only [Zano,LT.den]
  have q1:=oa0.1
  have q2:=oa1.1
  refine tN (fun h3=>?_) (fun h3=>?_)
  .exact tR (by exact sm)
  .exact tL ⟨rfl,rfl,oa0,oa1,cl,cl⟩ (by unfold Z7o lt6;dsimp only;omega)
 .intro s hs
  cases s with
  | L0 v0 v1 v5=>
   obtain⟨al0,al1,ov0,ov1,cv5,i0⟩:=hs
   have lb_v0:=ov0.1
   have lb_v1:=ov1.1
   subst al0
   subst al1
   show Tot (Z62 v0 v1 v5).den _
   dsimp only [Z62,LT.den]
   have q1:=ov0.1
   refine tD (fun h2=>?_) (fun h2=>?_)
   .refine tB (tI (by omega) (by omega)) (fun x3 h4=>?_)
    have oh4:Zu x3:=ov0.2 x3 h4.1
    have mh4:=h4.2
    refine tB (tI (by omega) (by omega)) (fun x5 h6=>?_)
    have oh6:Zu x5:=ov1.2 x5 h6.1
    have mh6:=h6.2
    refine tO (fun h7=>?_) (fun h7=>?_)
    .exact tR (by exact sm)
    .refine qw (v5+1) fun q8 q9=>?_
     exact tL ⟨rfl,rfl,ov0,ov1,cl,cl⟩ (by unfold Z7o lt6;dsimp only;omega)
   .exact tR (by exact sm)
theorem Zaoh{a0:Zs}{a1:Zs}(oa0:Z8 a0)(oa1:Z8 a1):Tot (Z63 a0 a1) (fun r=>(a0=a1->r=true)):=by
 unfold Z63
 refine tZ ?_
 dsimp only [Zabv,LT.den]
 refine tE (fun h1=>?_) (fun h1=>?_)
 .refine tF (fun h2=>?_) (fun h2=>?_)
  .refine tF (fun h3=>?_) (fun h3=>?_)
   .refine tE (fun h4=>?_) (fun h4=>?_)
    .refine tE (fun h5=>?_) (fun h5=>?_)
     .refine tF (fun h6=>?_) (fun h6=>?_)
      .refine tF (fun h7=>?_) (fun h7=>?_)
       .refine tF (fun h8=>?_) (fun h8=>?_)
        .refine tB (Zaez oa0.2.2.2.2 oa1.2.2.2.2) (fun x9 h10=>?_)
         have eh10_0:=h10
         exact tR (by exact sm)
        .exact tR (by exact sm)
       .exact tR (by exact sm)
      .exact tR (by exact sm)
     .exact tR (by exact sm)
    .exact tR (by exact sm)
   .exact tR (by exact sm)
  .exact tR (by exact sm)
 .exact tR (by exact sm)
def Zacb(a0:Zg)(a1:Zg):Zhc->Prop
 | .L0 E0 E1 v5=>(E0=a0)/\(E1=a1)/\(Z3 E0)/\(Z3 E1)/\(0<=v5)/\(E0.Specs.length=E1.Specs.length)/\(E0.Effects.length=E1.Effects.length)
 | .L1 E0 E1 v6=>(E0=a0)/\(E1=a1)/\(Z3 E0)/\(Z3 E1)/\(0<=v6)/\(E0.Specs.length=E1.Specs.length)/\(E0.Effects.length=E1.Effects.length)
def Zip:Zhc->M6
 | .L0 E0 E1 v5=>(3,((E0.Specs.length:Int) - v5).toNat,1000000,0,0,0)
 | .L1 E0 E1 v6=>(1,((E0.Effects.length:Int) - v6).toNat,1000000,0,0,0)
theorem Zacc{a0:Zg}{a1:Zg}(oa0:Z3 a0)(oa1:Z3 a1):Tot (Zvf a0 a1) (fun r=>(a0=a1->r=true)):=by
 unfold Zvf
 refine tX (Inv:=(Zacb a0 a1)) (μ:=Zip) (m:=(1000000,0,0,0,0,0)) ?_ ?_
 .dsimp only [Z02,LT.den]
  refine tN (fun h1=>?_) (fun h1=>?_)
  .exact tR (by exact sm)
  .refine tO (fun h2=>?_) (fun h2=>?_)
   .exact tR (by exact sm)
   .refine tB (Zaez oa0.2.1 oa1.2.1) (fun x3 h4=>?_)
    have eh4_0:=h4
    refine tO (fun h5=>?_) (fun h5=>?_)
    .exact tR (by exact sm)
    .refine tO (fun h6=>?_) (fun h6=>?_)
     .exact tR (by exact sm)
     .refine tO (fun h7=>?_) (fun h7=>?_)
      .exact tR (by exact sm)
      .refine tO (fun h8=>?_) (fun h8=>?_)
       .exact tR (by exact sm)
       .refine tO (fun h9=>?_) (fun h9=>?_)
        .exact tR (by exact sm)
        .refine tO (fun h10=>?_) (fun h10=>?_)
         .exact tR (by exact sm)
         .have q11:=oa0.2.2.2.1.1
          have q12:=oa1.2.2.2.1.1
          refine tN (fun h13=>?_) (fun h13=>?_)
          .exact tR (by exact sm)
          .have q14:=oa0.2.2.2.2.1.1
           have q15:=oa1.2.2.2.2.1.1
           refine tN (fun h16=>?_) (fun h16=>?_)
           .exact tR (by exact sm)
           .exact tL ⟨rfl,rfl,oa0,oa1,cl,cl,cl⟩ (by unfold Zip lt6;dsimp only;omega)
 .intro s hs
  cases s with
  | L0 E0 E1 v5=>
   obtain⟨al0,al1,O0,O1,cv5,i0,i1⟩:=hs
   subst al0
   subst al1
   show Tot (Zpx E0 E1 v5).den _
   dsimp only [Zpx,LT.den]
   have q1:=O0.2.2.2.1.1
   refine tD (fun h2=>?_) (fun h2=>?_)
   .refine tB (tI (by omega) (by omega)) (fun x3 h4=>?_)
    have oh4:Ze6 x3:=O0.2.2.2.1.2 x3 h4.1
    have mh4:=h4.2
    refine tB (tI (by omega) (by omega)) (fun x5 h6=>?_)
    have oh6:Ze6 x5:=O1.2.2.2.1.2 x5 h6.1
    have mh6:=h6.2
    refine tO (fun h7=>?_) (fun h7=>?_)
    .exact tR (by exact sm)
    .refine qw (v5+1) fun q8 q9=>?_
     exact tL ⟨rfl,rfl,O0,O1,cl,cl,cl⟩ (by unfold Zip lt6;dsimp only;omega)
   .exact tL ⟨rfl,rfl,O0,O1,cl,cl,cl⟩ (by unfold Zip lt6;dsimp only;omega)
  | L1 E0 E1 v6=>
   obtain⟨al0,al1,O0,O1,cv6,i0,i1⟩:=hs
   subst al0
   subst al1
   show Tot (Zpy E0 E1 v6).den _
   dsimp only [Zpy,LT.den]
   have q1:=O0.2.2.2.2.1.1
   refine tD (fun h2=>?_) (fun h2=>?_)
   .refine tB (tI (by omega) (by omega)) (fun x3 h4=>?_)
    have oh4:Z8 x3:=O0.2.2.2.2.1.2 x3 h4.1
    have mh4:=h4.2
    refine tB (tI (by omega) (by omega)) (fun x5 h6=>?_)
    have oh6:Z8 x5:=O1.2.2.2.2.1.2 x5 h6.1
    have mh6:=h6.2
    refine tB (Zaoh oh4 oh6) (fun x7 h8=>?_)
    have eh8_0:=h8
    refine tO (fun h9=>?_) (fun h9=>?_)
    .exact tR (by exact sm)
    .refine qw (v6+1) fun q10 q11=>?_
     exact tL ⟨rfl,rfl,O0,O1,cl,cl,cl⟩ (by unfold Zip lt6;dsimp only;omega)
   .exact tR (by exact sm)
def Zax7(a0:Zb)(a1:Zb):Zqo->Prop
 | .L0 E0 E1 v5=>(E0=a0)/\(E1=a1)/\(Zv E0)/\(Zv E1)/\(0<=v5)/\(E0.Line.Subs.length=E1.Line.Subs.length)/\(E0.Abilities.length=E1.Abilities.length)
 | .L1 E0 E1 v6=>(E0=a0)/\(E1=a1)/\(Zv E0)/\(Zv E1)/\(0<=v6)/\(E0.Line.Subs.length=E1.Line.Subs.length)/\(E0.Abilities.length=E1.Abilities.length)
def Zsd:Zqo->M6
 | .L0 E0 E1 v5=>(3,((E0.Line.Subs.length:Int) - v5).toNat,1000000,0,0,0)
 | .L1 E0 E1 v6=>(1,((E0.Abilities.length:Int) - v6).toNat,1000000,0,0,0)
theorem Z37{a0:Zb}{a1:Zb}(oa0:Zv a0)(oa1:Zv a1):Tot (Zajt a0 a1) (fun r=>(a0=a1->r=true)):=by
 unfold Zajt
 refine tX (Inv:=(Zax7 a0 a1)) (μ:=Zsd) (m:=(1000000,0,0,0,0,0)) ?_ ?_
 .dsimp only [Zanq,LT.den]
  refine tO (fun h1=>?_) (fun h1=>?_)
  .exact tR (by exact sm)
  .refine tO (fun h2=>?_) (fun h2=>?_)
   .exact tR (by exact sm)
   .refine tN (fun h3=>?_) (fun h3=>?_)
    .exact tR (by exact sm)
    .refine tN (fun h4=>?_) (fun h4=>?_)
     .exact tR (by exact sm)
     .refine tN (fun h5=>?_) (fun h5=>?_)
      .exact tR (by exact sm)
      .refine tN (fun h6=>?_) (fun h6=>?_)
       .exact tR (by exact sm)
       .refine tN (fun h7=>?_) (fun h7=>?_)
        .exact tR (by exact sm)
        .refine tN (fun h8=>?_) (fun h8=>?_)
         .exact tR (by exact sm)
         .refine tN (fun h9=>?_) (fun h9=>?_)
          .exact tR (by exact sm)
          .have q10:=oa0.2.1.1
           have q11:=oa1.2.1.1
           refine tN (fun h12=>?_) (fun h12=>?_)
           .exact tR (by exact sm)
           .have q13:=oa0.2.2.1
            have q14:=oa1.2.2.1
            refine tN (fun h15=>?_) (fun h15=>?_)
            .exact tR (by exact sm)
            .exact tL ⟨rfl,rfl,oa0,oa1,cl,cl,cl⟩ (by unfold Zsd lt6;dsimp only;omega)
 .intro s hs
  cases s with
  | L0 E0 E1 v5=>
   obtain⟨al0,al1,O0,O1,cv5,i0,i1⟩:=hs
   subst al0
   subst al1
   show Tot (Z64 E0 E1 v5).den _
   dsimp only [Z64,LT.den]
   have q1:=O0.2.1.1
   refine tD (fun h2=>?_) (fun h2=>?_)
   .refine tB (tI (by omega) (by omega)) (fun x3 h4=>?_)
    have oh4:SzT x3:=O0.2.1.2 x3 h4.1
    have mh4:=h4.2
    refine tB (tI (by omega) (by omega)) (fun x5 h6=>?_)
    have oh6:SzT x5:=O1.2.1.2 x5 h6.1
    have mh6:=h6.2
    refine tO (fun h7=>?_) (fun h7=>?_)
    .exact tR (by exact sm)
    .refine qw (v5+1) fun q8 q9=>?_
     exact tL ⟨rfl,rfl,O0,O1,cl,cl,cl⟩ (by unfold Zsd lt6;dsimp only;omega)
   .exact tL ⟨rfl,rfl,O0,O1,cl,cl,cl⟩ (by unfold Zsd lt6;dsimp only;omega)
  | L1 E0 E1 v6=>
   obtain⟨al0,al1,O0,O1,cv6,i0,i1⟩:=hs
   subst al0
   subst al1
   show Tot (Z65 E0 E1 v6).den _
   dsimp only [Z65,LT.den]
   have q1:=O0.2.2.1
   refine tD (fun h2=>?_) (fun h2=>?_)
   .refine tB (tI (by omega) (by omega)) (fun x3 h4=>?_)
    have oh4:Z3 x3:=O0.2.2.2 x3 h4.1
    have mh4:=h4.2
    refine tB (tI (by omega) (by omega)) (fun x5 h6=>?_)
    have oh6:Z3 x5:=O1.2.2.2 x5 h6.1
    have mh6:=h6.2
    refine tB (Zacc oh4 oh6) (fun x7 h8=>?_)
    have eh8_0:=h8
    refine tO (fun h9=>?_) (fun h9=>?_)
    .exact tR (by exact sm)
    .refine qw (v6+1) fun q10 q11=>?_
     exact tL ⟨rfl,rfl,O0,O1,cl,cl,cl⟩ (by unfold Zsd lt6;dsimp only;omega)
   .exact tR (by exact sm)
theorem Zax8{a0:List Zn}{a1:Zl}{a2:Int}(oa0:(SzL 176 Zad) a0)(oa1:Z9 a1)(h0:a1.Objects.length<=2048)(h1:a1.Conts.length<=64)(h2:∀ c,c∈a0->c.Abilities.length<=8):Tot (Zaju a0 a1 a2) (fun r=>(Zv r.1)/\(Zq9 a1.Objects->ofP (allV a0 a1) (ixO a1.Objects a2) r)):=by
 unfold Zaju
 refine tZ ?_
 have lb_a0:=oa0.1
 dsimp only [Zans,LT.den]
 refine tB (Zvw oa1) (fun x1 h2=>?_)
 have eh2_0:=h2.1
 have eh2_1:=h2.2.1
 have eh2_2:=h2.2.2
 refine tD (fun h3=>?_) (fun h3=>?_)
 .refine tB (Zab3 oa0 oa1 cl cl (by first | assumption | grind)) (fun x4 h5=>?_)
  have eh5_1:=h5.2.1
  have eh5_2:=h5.2.2
  refine tB (tI (by omega) (by omega)) (fun x6 h7=>?_)
  have oh7:Zv x6:=h5.1.2 x6 h7.1
  have mh7:=h7.2
  exact tR ⟨oh7,(by first | exact of_y ‹_› ‹_› ‹_› (by omega) | exact of_n ‹_› (by omega))⟩
 .exact tR ⟨⟨SzS.nil,SzL.nil,SzL.nil⟩,(by first | exact of_y ‹_› ‹_› ‹_› (by omega) | exact of_n ‹_› (by omega))⟩
def Zae0(a0:List Zn)(a1:Zl)(a2:Int):Zkc->Prop
 | .L0 v2 E0 E1 v8 v9 v10=>(E0=a1)/\(v2=a2)/\(Z9 E0)/\(Zv E1)/\((SzL 176 Zv) v9)/\(0<=v10)/\(v9.length=E0.Objects.length)/\(NoId E0.Objects v2 v10)/\(ofP v9 (ixO E0.Objects v2) (E1,v8))
def Zrd:Zkc->M6
 | .L0 v2 E0 E1 v8 v9 v10=>((E0.Objects.length:Int).toNat - v10.toNat,0,0,0,0,0)
theorem Zae1{a0:List Zn}{a1:Zl}{a2:Int}(oa0:(SzL 176 Zad) a0)(oa1:Z9 a1):Tot (Zw1 a0 a1 a2) (fun r=>(r=true)):=by
 unfold Zw1
 refine tX (Inv:=(Zae0 a0 a1 a2)) (μ:=Zrd) (m:=(1000000,0,0,0,0,0)) ?_ ?_
 .have lb_a0:=oa0.1
  dsimp only [Z3o,LT.den]
  refine tB (Zasu oa0 oa1) (fun x1 h2=>?_)
  have eh2_0:=h2.1
  have eh2_1:=h2.2
  refine tO (fun h3=>?_) (fun h3=>?_)
  .refine tB (Zsr) (fun x4 h5=>?_)
   have eh5_0:=h5
   exact tR (by first | rfl | assumption | exact Z7e ‹_› (Zmz ‹_› ‹_› ‹_› (by omega) ‹_›) ‹_› | exact Z7f ‹_› (Zm0 ‹_› ‹_› (by omega)) | (exfalso;omega) | (exfalso;have k:=(Zmz ‹_› ‹_› ‹_› (by omega) ‹_›).1;grind) | (exfalso;have k:=(Zm0 ‹_› ‹_› (by omega)).1;grind) | (exfalso;grind))
  .have h3_0:=eh2_0 h3
   have h3_1:=eh2_1 h3
   refine tB (Zax8 oa0 oa1 cl cl (by first | assumption | grind)) (fun x6 h7=>?_)
   have eh7_1:=h7.2
   refine tB (Zab3 oa0 oa1 cl cl (by first | assumption | grind)) (fun x8 h9=>?_)
   have eh9_1:=h9.2.1
   have eh9_2:=h9.2.2
   exact tL ⟨rfl,rfl,oa1,h7.1,h9.1,cl,cl,(by first | exact Zany | exact Z5l ‹_› ‹_› (by omega) (by first | assumption | omega) (by omega)),(by first | assumption | exact lf_0 ‹_› ‹_› ‹_›)⟩ (by unfold Zrd lt6;dsimp only;omega)
 .intro s hs
  cases s with
  | L0 v2 E0 E1 v8 v9 v10=>
   obtain⟨al0,al1,O0,O1,ov9,i0,i1,i2,i3⟩:=hs
   have lb_v9:=ov9.1
   subst al0
   subst al1
   show Tot (Zq7 v2 E0 E1 v8 v9 v10).den _
   dsimp only [Zq7,LT.den]
   have q1:=O0.2.1.1
   refine tD (fun h2=>?_) (fun h2=>?_)
   .have q3:=ov9.1
    refine tD (fun h4=>?_) (fun h4=>?_)
    .refine tB (tI (by omega) (by omega)) (fun x5 h6=>?_)
     have mh6:=h6.2
     refine tE (fun h7=>?_) (fun h7=>?_)
     .refine tB (Zsr) (fun x8 h9=>?_)
      have eh9_0:=h9
      refine tF (fun h10=>?_) (fun h10=>?_)
      .refine tF (fun h11=>?_) (fun h11=>?_)
       .refine tB (tI (by omega) (by omega)) (fun x12 h13=>?_)
        have oh13:Zv x12:=ov9.2 x12 h13.1
        have mh13:=h13.2
        refine tB (Z37 O1 oh13) (fun x14 h15=>?_)
        have eh15_0:=h15
        exact tR (by first | rfl | assumption | exact Z7e ‹_› (Zmz ‹_› ‹_› ‹_› (by omega) ‹_›) ‹_› | exact Z7f ‹_› (Zm0 ‹_› ‹_› (by omega)) | (exfalso;omega) | (exfalso;have k:=(Zmz ‹_› ‹_› ‹_› (by omega) ‹_›).1;grind) | (exfalso;have k:=(Zm0 ‹_› ‹_› (by omega)).1;grind) | (exfalso;grind))
       .exact tR (by first | rfl | assumption | exact Z7e ‹_› (Zmz ‹_› ‹_› ‹_› (by omega) ‹_›) ‹_› | exact Z7f ‹_› (Zm0 ‹_› ‹_› (by omega)) | (exfalso;omega) | (exfalso;have k:=(Zmz ‹_› ‹_› ‹_› (by omega) ‹_›).1;grind) | (exfalso;have k:=(Zm0 ‹_› ‹_› (by omega)).1;grind) | (exfalso;grind))
      .exact tR (by first | rfl | assumption | exact Z7e ‹_› (Zmz ‹_› ‹_› ‹_› (by omega) ‹_›) ‹_› | exact Z7f ‹_› (Zm0 ‹_› ‹_› (by omega)) | (exfalso;omega) | (exfalso;have k:=(Zmz ‹_› ‹_› ‹_› (by omega) ‹_›).1;grind) | (exfalso;have k:=(Zm0 ‹_› ‹_› (by omega)).1;grind) | (exfalso;grind))
     .refine qw (v10+1) fun q16 q17=>?_
      exact tL ⟨rfl,rfl,O0,O1,ov9,cl,cl,(by first | exact Zany | exact Z5l ‹_› ‹_› (by omega) (by first | assumption | omega) (by omega)),(by first | assumption | exact lf_0 ‹_› ‹_› ‹_›)⟩ (by unfold Zrd lt6;dsimp only;omega)
    .refine tB (Zsr) (fun x18 h19=>?_)
     have eh19_0:=h19
     refine tF (fun h20=>?_) (fun h20=>?_)
     .refine tO (fun h21=>?_) (fun h21=>?_)
      .refine tB (Z37 O1 ⟨SzS.nil,SzL.nil,SzL.nil⟩) (fun x22 h23=>?_)
       have eh23_0:=h23
       exact tR (by first | rfl | assumption | exact Z7e ‹_› (Zmz ‹_› ‹_› ‹_› (by omega) ‹_›) ‹_› | exact Z7f ‹_› (Zm0 ‹_› ‹_› (by omega)) | (exfalso;omega) | (exfalso;have k:=(Zmz ‹_› ‹_› ‹_› (by omega) ‹_›).1;grind) | (exfalso;have k:=(Zm0 ‹_› ‹_› (by omega)).1;grind) | (exfalso;grind))
      .exact tR (by first | rfl | assumption | exact Z7e ‹_› (Zmz ‹_› ‹_› ‹_› (by omega) ‹_›) ‹_› | exact Z7f ‹_› (Zm0 ‹_› ‹_› (by omega)) | (exfalso;omega) | (exfalso;have k:=(Zmz ‹_› ‹_› ‹_› (by omega) ‹_›).1;grind) | (exfalso;have k:=(Zm0 ‹_› ‹_› (by omega)).1;grind) | (exfalso;grind))
     .exact tR (by first | rfl | assumption | exact Z7e ‹_› (Zmz ‹_› ‹_› ‹_› (by omega) ‹_›) ‹_› | exact Z7f ‹_› (Zm0 ‹_› ‹_› (by omega)) | (exfalso;omega) | (exfalso;have k:=(Zmz ‹_› ‹_› ‹_› (by omega) ‹_›).1;grind) | (exfalso;have k:=(Zm0 ‹_› ‹_› (by omega)).1;grind) | (exfalso;grind))
   .refine tB (Zsr) (fun x24 h25=>?_)
    have eh25_0:=h25
    refine tF (fun h26=>?_) (fun h26=>?_)
    .refine tO (fun h27=>?_) (fun h27=>?_)
     .refine tB (Z37 O1 ⟨SzS.nil,SzL.nil,SzL.nil⟩) (fun x28 h29=>?_)
      have eh29_0:=h29
      exact tR (by first | rfl | assumption | exact Z7e ‹_› (Zmz ‹_› ‹_› ‹_› (by omega) ‹_›) ‹_› | exact Z7f ‹_› (Zm0 ‹_› ‹_› (by omega)) | (exfalso;omega) | (exfalso;have k:=(Zmz ‹_› ‹_› ‹_› (by omega) ‹_›).1;grind) | (exfalso;have k:=(Zm0 ‹_› ‹_› (by omega)).1;grind) | (exfalso;grind))
     .exact tR (by first | rfl | assumption | exact Z7e ‹_› (Zmz ‹_› ‹_› ‹_› (by omega) ‹_›) ‹_› | exact Z7f ‹_› (Zm0 ‹_› ‹_› (by omega)) | (exfalso;omega) | (exfalso;have k:=(Zmz ‹_› ‹_› ‹_› (by omega) ‹_›).1;grind) | (exfalso;have k:=(Zm0 ‹_› ‹_› (by omega)).1;grind) | (exfalso;grind))
    .exact tR (by first | rfl | assumption | exact Z7e ‹_› (Zmz ‹_› ‹_› ‹_› (by omega) ‹_›) ‹_› | exact Z7f ‹_› (Zm0 ‹_› ‹_› (by omega)) | (exfalso;omega) | (exfalso;have k:=(Zmz ‹_› ‹_› ‹_› (by omega) ‹_›).1;grind) | (exfalso;have k:=(Zm0 ‹_› ‹_› (by omega)).1;grind) | (exfalso;grind))
end Go.PW
