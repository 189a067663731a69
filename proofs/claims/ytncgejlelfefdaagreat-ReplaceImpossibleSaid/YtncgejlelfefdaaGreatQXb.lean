import Derived.Test.YtncgejlelfefdaaGreatQX
set_option linter.all false
set_option maxRecDepth 100000
namespace Go.PW
def Zgh(a0:List Zc)(b0:Int):Za3->Prop
 | .L0 v0 c0 v7 v8=>(v0=a0)/\(c0=b0)/\((SzL 128 (fun _=>True)) v0)/\(0<=v8)/\(v7=(v0.length:Int))/\(NoId v0 c0 v8)
def Zdn:Za3->M6
 | .L0 v0 c0 v7 v8=>(1,(v7 - v8).toNat,1000000,0,0,0)
theorem Zgi{a0:List Zc}{b0:Int}(oa0:(SzL 128 (fun _=>True)) a0):Tot (Zdw a0 b0) (fun r=>(r.1=ixO a0 b0)):=by
 apply Tot.rn (Zgh a0 b0) Zdn
 .dsimp only [Zdo,LT.den];exact tL ⟨rfl,rfl,oa0,cl,cl,tk51⟩ tk77
 rintro ⟨v0,c0,v7,v8⟩ ⟨al0,al1,ov0,cv8,i0,i1⟩;have lb_v0:=ov0.1;subst al0;subst al1;dsimp only [Zb2,Zdg,LT.den];apply tD<;>intro h1
 .refine Tot.ix fun x1 h2=>?_;have mh2:=h2.2;refine tB (Z3o) fun x2 h3=>?_;apply tF<;>intro h4
  .exact Za4q
  have q1:=wr (v8+1);exact tL ⟨rfl,rfl,ov0,cl,cl,tk51⟩ tk77
 exact Za4q
theorem Zjg{a0:Za}{a1:List Zb}{a2:Int}(oa0:Zl a0)(oa1:(SzL 176 Zw) a1):Tot (Zagx a0 a1 a2) (fun r=>(Zw r.2.1)/\(r=seV a0 a1 a2)):=by
 apply tZ;dsimp only [Z8d,LT.den];refine tB (Zgi oa0.2.1) fun x1 h1=>?_;have lh1:=Z9c a0.Objects a2;apply tD<;>intro h2
 .exact Zbn8
 apply tD<;>intro h3
 .refine Tot.ix fun x2 h4=>?_;have mh4:=h4.2;exact Zbn8
 refine Tot.ix fun x2 h4=>?_;have mh4:=h4.2;refine Tot.ix fun x3 h5=>?_;have oh5:Zw x3:=oa1.2 x3 h5.1;have mh5:=h5.2;exact tR ⟨oh5,tk25⟩
def Zbb0(a0:Z2):Zoj->Prop
 | .L0 E0 v6 v7=>(E0=a0)/\(0<=v7)/\(v6=E0.Color)/\(∀ (k:Nat) x,(k:Int) < v7->(A5.list E0.Color)[k]?=some x->0<=x/\x<=9)
def Zawk:Zoj->M6
 | .L0 E0 v6 v7=>(1,(5 - v7).toNat,1000000,0,0,0)
theorem Zbb1{a0:Z2}:Tot (Zakq a0) (fun r=>(r=Zzc a0)):=by
 apply Tot.rn (Zbb0 a0) Zawk
 .dsimp only [Zag3,LT.den];exact Zbn7
 rintro ⟨E0,v6,v7⟩ ⟨al0,cv7,i0,i1⟩;subst al0;dsimp only [Zsg,Zpi,LT.den];apply tD<;>intro h1
 .refine tB (tI (by omega) (by have e:(A5.list v6).length=5:=rfl;omega)) fun x1 h2=>?_;have mh2:=h2.2;rw [i0] at mh2;apply tD<;>intro h3
  .exact tl84
  apply tD<;>intro h4
  .exact tl84
  have q1:=wr (v7+1);exact Zbn7
 apply tD<;>intro h2
 .apply tD<;>intro h3
  .apply tD<;>intro h4
   .exact tl84
   exact tl84
  exact tl84
 exact tl84
theorem Zfy{a0:Int}:Tot (Z4u a0) (fun r=>(r=clV a0)):=by
 apply tZ;dsimp only [Z6d,LT.den];exact tR (by rfl)
theorem Zbb2{a0:Int}{a1:Int}:Tot (Zakr a0 a1) (fun r=>(r=muV a0 a1)):=by
 apply tZ;dsimp only [Zag4,LT.den];exact tB (Zfy) fun x1 h1=>tB (Zfy) fun x2 h2=>tB (Zfy) fun x3 h3=>tR (by unfold muV;grind)
theorem Zaoz{a0:Int}{a1:Int}:Tot (Zaks a0 a1) (fun r=>(r=adV a0 a1)):=by
 apply tZ;dsimp only [Zag5,LT.den];exact tB (Zfy) fun x1 h1=>tB (Zfy) fun x2 h2=>tB (Zfy) fun x3 h3=>tR (by unfold adV;grind)
theorem Zbdj{x:Zb}(h:Zw x):x.Line.Subs.length<=4611686018427387904:=by
 have:x.Line.Subs.length*16<=140737488351232:=h.2.1.1;omega
theorem Zaqp(a0:Zc)(a1:Zb)(a2 a3:Int)(a4:Zm)(oa1:Zw a1)(oa4:Za1 a4):Tot (Zto a0 a1 a2 a3 a4) (fun r=>r=Zrw a0 a1 a2 a3 a4):=⟨_,Zblp a0 a1 a2 a3 a4 (Zbdj oa1),rfl⟩
theorem Zaqq{a0:Za}{a1:Int}{a2:Int}{a3:Int}(oa0:Zl a0):Tot (Zag7 a0 a1 a2 a3) (fun r=>(r=whB a0 a1 a2 a3)):=by
 apply tZ;dsimp only [Z8h,LT.den];apply tD<;>intro h1
 .exact Zuc
 apply tD<;>intro h2
 .exact Zuc
 refine Tot.ix fun x1 h3=>?_;have mh3:=h3.2;apply tF<;>intro h4
 .exact Zuc
 apply tE<;>intro h5
 .exact Zuc
 apply tE<;>intro h6
 .exact Zuc
 exact Zboe
def Zawl(a0:Z2):Zmj->Prop
 | .L0 v3 v16 v17=>(0<=v17)/\(v17<=5)/\(v16=a0.Color)/\(Zzc a0=true)/\(v3=coP v16 v17)
def Z9n:Zmj->M6
 | .L0 v3 v16 v17=>(1,(5 - v17).toNat,1000000,0,0,0)
theorem Zawm{a0:Z2}:Tot (Zane a0) (fun r=>(r=coV a0)):=by
 apply Tot.rn (Zawl a0) Z9n
 .dsimp only [Zac3,LT.den];refine tB (Zbb1) fun x1 h1=>?_;apply tO<;>intro h2
  .exact Zbfv
  apply tF<;>intro h3
  .exact Zbfv
  exact Zboi
 rintro ⟨v3,v16,v17⟩ ⟨cv17,i0,i1,i2,i3⟩;dsimp only [Zyv,Z8j,LT.den];apply tD<;>intro h1
 .refine tB (tI (by omega) (by have e:(A5.list v16).length=5:=rfl;omega)) fun x1 h2=>?_;have mh2:=h2.2;apply tD<;>intro h3
  .refine tB (tK tk90) fun x2 h4=>?_;exact Zbom
  exact Zbom
 exact Zbfv
theorem Zqy{a0:List (List UInt8)}(oa0:(SzL 16 SzT) a0):Tot (Zez a0) (fun r=>((SzL 16 SzT) r)/\(r=a0)):=by
 unfold Zez;split
 .apply tZ;have lb_a0:=oa0.1;dsimp only [Zga,LT.den];refine Tot.ap fun x1 h1=>?_;have lh1:x1.length=([]:List (List UInt8)).length+a0.length:=by rw [h1,List.length_append]
  try simp only [List.length_cons,List.length_nil,Nat.zero_add] at lh1
  exact tR ⟨SzL.app (k:=16) h1 lo (fun _ h=>by cases h) oa0.2,Z6z⟩
 apply tZ;dsimp only [Zeb,LT.den];exact Z2s
theorem Zce{a0:List Zv}(oa0:(SzL 176 Zax) a0):Tot (Zc2 a0) (fun r=>((SzL 176 Zax) r)/\(r=a0)):=by
 unfold Zc2;split
 .apply tZ;have lb_a0:=oa0.1;dsimp only [Zfs,LT.den];refine Tot.ap fun x1 h1=>?_;have lh1:x1.length=([]:List Zv).length+a0.length:=by rw [h1,List.length_append]
  try simp only [List.length_cons,List.length_nil,Nat.zero_add] at lh1
  exact tR ⟨SzL.app (k:=176) h1 lo (fun _ h=>by cases h) oa0.2,Z6z⟩
 apply tZ;dsimp only [Zdx,LT.den];exact Z2s
theorem Zhm{a0:List Za9}(oa0:(SzL 144 Zi4) a0):Tot (Zd3 a0) (fun r=>((SzL 144 Zi4) r)/\(r=a0)):=by
 unfold Zd3;split
 .apply tZ;have lb_a0:=oa0.1;dsimp only [Ze8,LT.den];refine Tot.ap fun x1 h1=>?_;have lh1:x1.length=([]:List Za9).length+a0.length:=by rw [h1,List.length_append]
  try simp only [List.length_cons,List.length_nil,Nat.zero_add] at lh1
  exact tR ⟨SzL.app (k:=144) h1 lo (fun _ h=>by cases h) oa0.2,Z6z⟩
 apply tZ;dsimp only [Zdh,LT.den];exact Z2s
theorem Zge{a0:List Z6}(oa0:(SzL 560 Zas) a0):Tot (Zc3 a0) (fun r=>((SzL 560 Zas) r)/\(r=a0)):=by
 unfold Zc3;split
 .apply tZ;have lb_a0:=oa0.1;dsimp only [Zeh,LT.den];refine Tot.ap fun x1 h1=>?_;have lh1:x1.length=([]:List Z6).length+a0.length:=by rw [h1,List.length_append]
  try simp only [List.length_cons,List.length_nil,Nat.zero_add] at lh1
  exact tR ⟨SzL.app (k:=560) h1 lo (fun _ h=>by cases h) oa0.2,Z6z⟩
 apply tZ;dsimp only [Zcl,LT.den];exact Z2s
def Zab0(a0:Zh):Zhv->Prop
 | .L0 E0 E1 v18 v19=>(Zac E0)/\(Zac E1)/\(0<=v19)/\(v18=(a0.Effects.length:Int))/\(v18=(E0.Effects.length:Int))/\(E0=a0)
def Znk:Zhv->M6
 | .L0 E0 E1 v18 v19=>(1,(v18 - v19).toNat,1000000,0,0,0)
theorem Zab1{a0:Zh}(oa0:Zac a0):Tot (Zrt a0) (fun r=>(Zac r)/\(r=a0)):=by
 apply Tot.rn (Zab0 a0) Znk
 .dsimp only [Zxu,LT.den];refine tB (Zce oa0.2.1) fun x1 h1=>?_;have eh1_1:=h1.2;refine tB (Zhm oa0.2.2.2.1) fun x2 h2=>?_;have eh2_1:=h2.2;refine tB (Zge oa0.2.2.2.2.1) fun x3 h3=>?_;have eh3_1:=h3.2;have q1:=h3.1.1;exact tL ⟨⟨oa0.1,h1.1,oa0.2.2.1,h2.1,h3.1,oa0.2.2.2.2.2⟩,⟨SzS.nil,SzL.nil,SzS.nil,SzL.nil,SzL.nil,SzS.nil⟩,cl,Zaj,Zaj,tk52⟩ (by unfold Znk lt6;dsimp only;omega)
 rintro ⟨E0,E1,v18,v19⟩ ⟨O0,O1,cv19,i0,i1,i2⟩;dsimp only [Zol,Zu3,LT.den];have lq:=O0.2.2.2.2.1.1;apply tD<;>intro h1
 .refine Tot.ix fun x1 h2=>?_;have oh2:Zas x1:=O0.2.2.2.2.1.2 x1 h2.1;have mh2:=h2.2;refine tB (Zce oh2.2.2.2.2) fun x2 h3=>?_;have eh3_1:=h3.2;refine tB (Tot.set (by omega) (by omega)) fun x3 h4=>?_;have vh4:=h4.2.2;have q1:=wr (v19+1);exact tL ⟨⟨O0.1,O0.2.1,O0.2.2.1,O0.2.2.2.1,⟨lo,fun e he=>(h4.2.1 e he).elim (fun w=>by rw [w];exact⟨oh2.1,oh2.2.1,oh2.2.2.1,oh2.2.2.2.1,h3.1⟩) (O0.2.2.2.2.1.2 e)⟩,O0.2.2.2.2.2⟩,O1,cl,Zaj,Zaj,tk52⟩ (by unfold Znk lt6;dsimp only;omega)
 exact tR ⟨O0,‹_›⟩
def Zaqr(a0:Zg):Zkt->Prop
 | .L0 E0 E1 v32 v33 v34=>(Zw E0)/\(Zw E1)/\((SzL 640 Zac) v32)/\(0<=v34)/\(v33=(v32.length:Int))/\(E1.Abilities.length<=v34.toNat)/\(v34<=v33)/\(v32=a0.Abilities)/\(E1={ prV a0 with Abilities:=a0.Abilities.take v34.toNat })
def Zum:Zkt->M6
 | .L0 E0 E1 v32 v33 v34=>(1,(v33 - v34).toNat,1000000,0,0,0)
theorem Zaqs{a0:Zg}(oa0:Z1 a0):Tot (Zag8 a0) (fun r=>(Zw r)/\(r=prV a0)):=by
 apply Tot.rn (Zaqr a0) Zum
 .dsimp only [Z8k,LT.den];refine tB (Zawm) fun x1 h1=>tB (Zqy oa0.2.1) fun x2 h2=>?_;have eh2_1:=h2.2;have q1:=oa0.2.2.1;exact tL ⟨⟨SzS.nil,SzL.nil,SzL.nil⟩,⟨oa0.1,h2.1,SzL.nil⟩,oa0.2.2,cl,cl,cl,cl,Za42,tk20⟩ (by unfold Zum lt6;dsimp only;omega)
 rintro ⟨E0,E1,v32,v33,v34⟩ ⟨O0,O1,ov32,cv34,i0,i1,i2,i3,i4⟩;have lb_v32:=ov32.1;dsimp only [Zvr,Z4v,LT.den];apply tD<;>intro h1
 .refine Tot.ix fun x1 h2=>?_;have oh2:Zac x1:=ov32.2 x1 h2.1;have mh2:=h2.2;refine tB (Zab1 oh2) fun x2 h3=>?_;have eh3_1:=h3.2;have q1:=O1.2.2.1;refine Tot.ap fun x3 h4=>?_;have lh4:=Zaz h4;have q2:=wr (v34+1);exact tL ⟨O0,⟨O1.1,O1.2.1,SzL.app (k:=640) h4 lo O1.2.2.2 (me1 h3.1)⟩,ov32,cl,cl,cl,cl,Za42,tk20⟩ (by unfold Zum lt6;dsimp only;omega)
 exact tR ⟨O1,tk95⟩
def Zqz(a0:List Zg)(a1:Zc):Zsj->Prop
 | .L0 v0 E0 E1 v5=>(v0=a0)/\(E0=a1)/\((SzL 176 Z1) v0)/\(Zw E1)/\(v5=if E0.Copy < 0 then E0.Card else E0.Copy)
 | .L1 E0 E1 E2=>(E0=a1)/\(Zw E1)/\(Zw E2)/\(E2=Z2q a0 (if E0.Copy < 0 then E0.Card else E0.Copy))
def Zab2:Zsj->M6
 | .L0 v0 E0 E1 v5=>(0,0,0,0,0,0)
 | .L1 E0 E1 E2=>(0,0,0,0,0,0)
theorem Zv8{a0:List Zg}{a1:Zc}{E0:Zc}{E1:Zb}{E2:Zb}(h:(Zqz a0 a1) (.L1 E0 E1 E2)):Tot (Zpj E0 E1 E2).den (Nx (Zqz a0 a1) Zab2 (0,0,0,0,0,0) (fun r=>(Zw r)/\(r=baV a0 a1))):=by
 obtain⟨al0,O1,O2,i0⟩:=h;subst al0;dsimp only [Zpj,LT.den];apply tE<;>intro h1
 .exact Zbfp
 apply tE<;>intro h2
 .exact Zbfp
 exact Zbfp
theorem Z9o{a0:List Zg}{a1:Zc}{v0:List Zg}{E0:Zc}{E1:Zb}{v5:Int}(h:(Zqz a0 a1) (.L0 v0 E0 E1 v5)):Tot (Ztp v0 E0 E1 v5).den (Nx (Zqz a0 a1) Zab2 (0,0,0,0,0,0) (fun r=>(Zw r)/\(r=baV a0 a1))):=by
 obtain⟨al0,al1,ov0,O1,i0⟩:=h;subst al0;subst al1;dsimp only [Ztp,LT.den];apply tD<;>intro h1
 .apply tD<;>intro h2
  .refine Tot.ix fun x1 h3=>?_;have oh3:Z1 x1:=ov0.2 x1 h3.1;have mh3:=h3.2;refine tB (Zaqs oh3) fun x2 h4=>?_;have eh4_1:=h4.2;exact tJ (Zv8 ⟨rfl,O1,h4.1,tk27⟩)
  exact Zboc
 exact Zboc
theorem Zbb3{a0:List Zg}{a1:Zc}(oa0:(SzL 176 Z1) a0):Tot (Zbcz a0 a1) (fun r=>(Zw r)/\(r=baV a0 a1)):=by
 apply Tot.rn (Zqz a0 a1) Zab2
 .dsimp only [Za09,LT.den];apply tD<;>intro h1
  .exact tl52
  exact tl52
 intro s hs;cases s with
 | L0 _ _ _ _=>exact Z9o hs
 | L1 _ _ _=>exact Zv8 hs
theorem Zmb{a0:List Zg}{a1:Za}{a2:Ze}(oa0:(SzL 176 Z1) a0)(oa1:Zl a1):Tot (Zru a0 a1 a2) (fun r=>(Zw r.2.1)/\(r=(arE (fdV a1.Objects a2.Object).1 a2.Player,enT a0 (fdV a1.Objects a2.Object).1 a2.Player,(fdV a1.Objects a2.Object).2))):=by
 apply tZ;dsimp only [Zxv,LT.den];refine tB (Zm1 oa1) fun x1 h1=>tB (Zbb3 oa0) fun x2 h2=>?_;have eh2_1:=h2.2;exact tR ⟨⟨h2.1.1,h2.1.2.1,h2.1.2.2⟩,(by exact Zbvs ‹_› ‹_›)⟩
theorem Ze3{a0:Zc}{a1:Zb}{a2:Bool}{b0:Int}{b1:Int}{b2:Z4}(oa1:Zw a1)(ob2:Zbq b2):Tot (Zja a0 a1 a2 b0 b1 b2) (fun r=>(r=(a2&&Zrw a0 a1 b0 b1 b2.Filter))):=by
 apply tZ;dsimp only [Zij,LT.den];apply tF<;>intro h1
 .exact tB (Zaqp a0 a1 b0 b1 b2.Filter oa1 ob2) fun x1 h2=>tR (by grind)
 exact tR (by grind)
theorem Zbw{b0:Za}{b1:Ze}{b2:Int}{b3:Z4}(ob0:Zl b0)(ob3:Zbq b3):Tot (Zhk b0 b1 b2 b3) (fun r=>(r=whB b0 b1.Player b2 b3.Who)):=by
 apply tZ;dsimp only [Zg4,LT.den];exact tB (Zaqq ob0) fun x1 h1=>tR ‹_›
theorem Znl{a0:List Zg}{a1:Za}{a2:List Zb}{a3:Ze}{a4:Z4}{a5:Int}{a6:Int}(oa0:(SzL 176 Z1) a0)(oa1:Zl a1)(oa2:(SzL 176 Zw) a2)(oa4:Zbq a4)(h0:rOK a4):Tot (Z4w a0 a1 a2 a3 a4 a5 a6) (fun r=>(r=maB a0 a1 a2 a3 a4 a5 a6)):=by
 apply tZ;dsimp only [Zz9,LT.den];apply tN<;>intro h1
 .exact tl19
 apply tE<;>intro h2
 .apply tE<;>intro h3
  .apply tN<;>intro h4
   .exact Zbn1
   exact tl19
  apply tE<;>intro h4
  .exact tB (Zbw oa1 oa4) fun x1 h5=>tR tk97
  exact tl19
 apply tE<;>intro h3
 .apply tE<;>intro h4
  .apply tE<;>intro h5
   .apply tE<;>intro h6
    .exact tB (Zjg oa1 oa2) fun x1 h7=>tB (Ze3 h7.1 oa4) fun x2 h8=>tR tk97
    exact tl19
   exact tl19
  apply tE<;>intro h5
  .exact tB (Zmb oa0 oa1) fun x1 h6=>tB (Ze3 h6.1 oa4) fun x2 h7=>tR tk97
  exact tl19
 apply tE<;>intro h4
 .exact Zbn1
 apply tE<;>intro h5
 .exact tB (Zbw oa1 oa4) fun x1 h6=>tR tk97
 apply tE<;>intro h6
 .exact tB (Zbw oa1 oa4) fun x1 h7=>tR tk97
 apply tE<;>intro h7
 .exact tB (Zbw oa1 oa4) fun x1 h8=>tR tk97
 apply tE<;>intro h8
 .exact tB (Zbw oa1 oa4) fun x1 h9=>tR tk97
 exact tl19
abbrev Zun(a0:List Zg)(a1:Za)(a2:List Zb)(a3:Ze)(r:List Zd):Prop:=((SzL 24 (fun _=>True)) r)/\(r.length<=489)/\(r=opO a0 a1 a2 a3)
def Znm(a0:List Zg)(a1:Za)(a2:List Zb)(a3:Ze):Zeu->Prop
 | .L0 v0 v2 E0 E1 v9=>(v0=a0)/\(E0=a1)/\(v2=a2)/\(E1=a3)/\((SzL 176 Z1) v0)/\((SzL 176 Zw) v2)/\(Zl E0)/\((SzL 24 (fun _=>True)) v9)/\(Ids E0.Objects)/\(Zbc v2)/\(Zdq v0)/\(∀ c,c∈v0->c.Abilities.length<=8)/\(E0.Objects.length<=60)/\(evB v0 E0 E1=true)/\(v9.length<=1)/\(v9=shO E0 E1)
 | .L1 v0 v2 E0 E1 v9 v63 v64 v65=>(v0=a0)/\(E0=a1)/\(v2=a2)/\(E1=a3)/\((SzL 176 Z1) v0)/\((SzL 176 Zw) v2)/\(Zl E0)/\((SzL 24 (fun _=>True)) v9)/\((SzL 128 (fun _=>True)) v63)/\(0<=v65)/\(Ids E0.Objects)/\(Zbc v2)/\(Zdq v0)/\(∀ c,c∈v0->c.Abilities.length<=8)/\(E0.Objects.length<=60)/\(evB v0 E0 E1=true)/\(v9.length<=1+8*v65.toNat)/\(v65.toNat<=v63.length)/\(v63.length<=60)/\(v63=E0.Objects)/\(v64=(v63.length:Int))/\(v9=shO E0 E1++ixf (obG v0 E0 v2 E1) v63 v65)
 | .L2 v0 v2 E0 E1 v9 E2 E3 v63 v64 v65 v79 v80 v81=>(v0=a0)/\(E0=a1)/\(v2=a2)/\(E1=a3)/\((SzL 176 Z1) v0)/\((SzL 176 Zw) v2)/\(Zl E0)/\((SzL 24 (fun _=>True)) v9)/\(Zw E3)/\((SzL 128 (fun _=>True)) v63)/\((SzL 640 Zac) v79)/\(0<=v81)/\(0<=v65)/\(v65 < v64)/\(Ids E0.Objects)/\(Zbc v2)/\(Zdq v0)/\(∀ c,c∈v0->c.Abilities.length<=8)/\(E0.Objects.length<=60)/\(evB v0 E0 E1=true)/\(v9.length<=1+8*v65.toNat+v81.toNat)/\(v65.toNat < v63.length)/\(v63.length<=60)/\(v81.toNat<=v79.length)/\(v79.length<=8)/\(v63=E0.Objects)/\(v64=(v63.length:Int))/\(v80=(v79.length:Int))/\(v63[v65.toNat]?=some E2)/\(E3=trV v2 v65)/\(v79=E3.Abilities)/\(Zq8 v79)/\(v9=(shO E0 E1++ixf (obG v0 E0 v2 E1) v63 v65)++(if E2.Zone=0 then ixf (abG v0 E0 v2 E1 E3.Control E2.Id) v79 v81 else []))
 | .L3 v0 v2 E0 E1 v9 E2 v134 v135 v136=>(v0=a0)/\(E0=a1)/\(v2=a2)/\(E1=a3)/\((SzL 176 Z1) v0)/\((SzL 176 Zw) v2)/\(Zl E0)/\((SzL 24 (fun _=>True)) v9)/\((SzL 640 Zac) v134)/\(0<=v136)/\(Ids E0.Objects)/\(Zbc v2)/\(Zdq v0)/\(∀ c,c∈v0->c.Abilities.length<=8)/\(E0.Objects.length<=60)/\(evB v0 E0 E1=true)/\(v9.length<=481+v136.toNat)/\(v136.toNat<=v134.length)/\(v134.length<=8)/\(v135=(v134.length:Int))/\(E1.Kind=2)/\(E1.To=0)/\(E2.Id=E1.Object)/\(v134=(baV v0 (fdV E0.Objects E1.Object).1).Abilities)/\(Zq8 v134)/\(v9=shO E0 E1++(ixF (obG v0 E0 v2 E1) E0.Objects++ixf (arG v0 E0 v2 E1) v134 v136))
def Zf9:Zeu->M6
 | .L0 v0 v2 E0 E1 v9=>(4,0,0,0,0,0)
 | .L1 v0 v2 E0 E1 v9 v63 v64 v65=>(3,(v64 - v65).toNat,1000000,0,0,0)
 | .L2 v0 v2 E0 E1 v9 E2 E3 v63 v64 v65 v79 v80 v81=>(3,(v64 - v65).toNat,1,(v80 - v81).toNat,1000000,0)
 | .L3 v0 v2 E0 E1 v9 E2 v134 v135 v136=>(1,(v135 - v136).toNat,1000000,0,0,0)
theorem Zkd{a0:List Zg}{a1:Za}{a2:List Zb}{a3:Ze}{v0:List Zg}{v2:List Zb}{E0:Za}{E1:Ze}{v9:List Zd}(h:(Znm a0 a1 a2 a3) (.L0 v0 v2 E0 E1 v9)):Tot (Zd8 v0 v2 E0 E1 v9).den (Nx (Znm a0 a1 a2 a3) Zf9 (4,0,0,0,0,0) (Zun a0 a1 a2 a3)):=by
 obtain⟨al0,al1,al2,al3,ov0,ov2,O0,ov9,i0,i1,i2,i3,i4,i5,i6,i7⟩:=h;subst al0;subst al1;subst al2;subst al3;dsimp only [Zd8,LT.den];exact tL ⟨rfl,rfl,rfl,rfl,ov0,ov2,O0,ov9,O0.2.1,cl,‹_›,‹_›,‹_›,Zaj,cl,Zl8,cl,cl,cl,Zud,cl,tk38⟩ tk98
theorem Zu9{a0:List Zg}{a1:Za}{a2:List Zb}{a3:Ze}(oa0:(SzL 176 Z1) a0)(oa1:Zl a1)(oa2:(SzL 176 Zw) a2)(h0:Ids a1.Objects)(h1:Zbc a2)(h2:Zdq a0)(h3:∀ c,c∈a0->c.Abilities.length<=8)(h4:a1.Objects.length<=60):Tot (Ztq a0 a1 a2 a3) (Zun a0 a1 a2 a3):=by
 apply Tot.rn (Znm a0 a1 a2 a3) Zf9
 .dsimp only [Z0b,LT.den];refine tB (Zbac oa0 oa1 ‹_›) fun x1 h1=>?_;apply tO<;>intro h2
  .exact tR ⟨SzL.nil,cl,tk15⟩
  refine tB (Zjg oa1 oa2) fun x2 h3=>?_;have eh3_1:=h3.2;first | (have th3:=seT (by assumption:_=seV _ _ _) ‹_› tk91 ‹_› rfl;have uh3:=Za9b (by assumption:Zbc v2) v65;rw [<- th3] at uh3;have wh3:=Za9a (by assumption:Zbc v2) v65;rw [<- th3] at wh3) | skip
  apply tF<;>intro h4
  .apply tE<;>intro h5
   .apply tN<;>intro h6
    .apply tD<;>intro h7
     .refine Tot.ap fun x3 h8=>?_;have lh8:=Zaz h8;simp only [List.length_nil,Nat.zero_add] at lh8;exact tJ (Zkd ⟨rfl,rfl,rfl,rfl,oa0,oa2,oa1,SzL.tr,‹_›,‹_›,‹_›,Zaj,cl,Zl8,cl,tk37⟩)
     exact Za4v
    exact Za4v
   exact Za4v
  exact Za4v
 intro s hs;cases s with
 | L0 _ _ _ _ _=>exact Zkd hs
 | L1 v0 v2 E0 E1 v9 v63 v64 v65=>
  obtain⟨al0,al1,al2,al3,ov0,ov2,O0,ov9,ov63,cv65,i0,i1,i2,i3,i4,i5,i6,i7,i8,i9,i10,i11⟩:=hs;have lb_v9:=ov9.1;subst al0;subst al1;subst al2;subst al3;dsimp only [Zil,Zxx,LT.den,Zf9];apply tD<;>intro h1
  .refine Tot.ix fun x1 h2=>?_;have mh2:=h2.2;have nh2:=h2.1;refine tB (Zjg O0 ov2) fun x2 h3=>?_;have eh3_1:=h3.2;first | (have th3:=seT (by assumption:_=seV _ _ _) ‹_› tk91 ‹_› rfl;have uh3:=Za9b (by assumption:Zbc v2) v65;rw [<- th3] at uh3;have wh3:=Za9a (by assumption:Zbc v2) v65;rw [<- th3] at wh3) | skip
   exact tL ⟨rfl,rfl,rfl,rfl,ov0,ov2,O0,ov9,h3.1,ov63,h3.1.2.2,cl,cl,cl,‹_›,‹_›,‹_›,Zaj,cl,Zl8,cl,cl,cl,cl,cl,Zud,cl,cl,‹_›,Zud,Zud,‹_›,tk8⟩ tk98
  apply tN<;>intro h2
  .exact Zbfy
  apply tN<;>intro h3
  .exact Zbfy
  refine tB (Zmb ov0 O0) fun x1 h4=>?_;have eh4_1:=h4.2;have ah4:x1.1.Id=E1.Object:=(by rw [(by assumption:x1=_)];exact Za9f (Zbnf ‹_› (by omega)));have bh4:x1.2.1.Abilities=(baV v0 (fdV E0.Objects E1.Object).1).Abilities:=(by rw [(by assumption:x1=_)]<;>rfl);have ch4:=Za9c (by assumption:∀ c,c∈v0->c.Abilities.length<=8) (fdV E0.Objects E1.Object).1;rw [<- bh4] at ch4;have dh4:=Za9d (by assumption:Zdq v0) (fdV E0.Objects E1.Object).1;rw [<- bh4] at dh4;exact tL ⟨rfl,rfl,rfl,rfl,ov0,ov2,O0,ov9,h4.1.2.2,cl,‹_›,‹_›,‹_›,Zaj,cl,Zl8,cl,cl,cl,cl,cl,cl,‹_›,‹_›,‹_›,tk6⟩ tk98
 | L2 v0 v2 E0 E1 v9 E2 E3 v63 v64 v65 v79 v80 v81=>
  obtain⟨al0,al1,al2,al3,ov0,ov2,O0,ov9,O3,ov63,ov79,cv81,cv65,bd13,i0,i1,i2,i3,i4,i5,i6,i7,i8,i9,i10,i11,i12,i13,i14,i15,i16,i17,i18⟩:=hs;have lb_v9:=ov9.1;subst al0;subst al1;subst al2;subst al3;dsimp only [Zil,Zxy,LT.den,Zf9];apply tD<;>intro h1
  .refine Tot.ix fun x1 h2=>?_;have oh2:Zac x1:=ov79.2 x1 h2.1;have mh2:=h2.2;have nh2:=h2.1;apply tE<;>intro h3
   .apply tE<;>intro h4
    .refine tB (Znl ov0 O0 ov2 oh2.2.2.2.2.2 tk81) fun x2 h5=>?_;apply tF<;>intro h6
     .refine Tot.ap fun x3 h7=>?_;have lh7:=Zaz h7;have q1:=wr (v81+1);exact tL ⟨rfl,rfl,rfl,rfl,ov0,ov2,O0,SzL.tr,O3,ov63,ov79,cl,cl,cl,‹_›,‹_›,‹_›,Zaj,cl,Zl8,cl,cl,cl,cl,cl,Zud,cl,cl,‹_›,Zud,Zud,‹_›,tk8⟩ tk98
     exact Zbf4
    exact Zbf4
   exact Zbf4
  have q1:=wr (v65+1);exact tL ⟨rfl,rfl,rfl,rfl,ov0,ov2,O0,ov9,ov63,cl,‹_›,‹_›,‹_›,Zaj,cl,Zl8,cl,cl,cl,Zud,cl,tk38⟩ tk98
 | L3 v0 v2 E0 E1 v9 E2 v134 v135 v136=>
  obtain⟨al0,al1,al2,al3,ov0,ov2,O0,ov9,ov134,cv136,i0,i1,i2,i3,i4,i5,i6,i7,i8,i9,i10,i11,i12,i13,i14,i15⟩:=hs;have lb_v9:=ov9.1;subst al0;subst al1;subst al2;subst al3;dsimp only [Zil,Zxz,LT.den,Zf9];apply tD<;>intro h1
  .refine Tot.ix fun x1 h2=>?_;have oh2:Zac x1:=ov134.2 x1 h2.1;have mh2:=h2.2;have nh2:=h2.1;apply tE<;>intro h3
   .apply tE<;>intro h4
    .apply tE<;>intro h5
     .refine tB (Znl ov0 O0 ov2 oh2.2.2.2.2.2 tk81) fun x2 h6=>?_;apply tF<;>intro h7
      .have q1:=ov9.1;refine Tot.ap fun x3 h8=>?_;have lh8:=Zaz h8;have q2:=wr (v136+1);exact Zbow
      exact Zakx
     exact Zakx
    apply tE<;>intro h5
    .apply tE<;>intro h6
     .refine tB (Znl ov0 O0 ov2 oh2.2.2.2.2.2 tk81) fun x2 h7=>?_;apply tF<;>intro h8
      .refine Tot.ap fun x3 h9=>?_;have lh9:=Zaz h9;have q1:=wr (v136+1);exact Zbow
      exact Zakx
     exact Zakx
    exact Zakx
   exact Zakx
  exact Zbfy
def Zld(a0:List Zd)(a1:Zd):Zb3->Prop
 | .L0 v0 E0 v7 v8=>(v0=a0)/\(E0=a1)/\((SzL 24 (fun _=>True)) v0)/\(0<=v8)/\(v7=(v0.length:Int))/\(∀ (k:Nat) y,(k:Int) < v8->v0[k]?=some y->y≠E0)
def Zgw:Zb3->M6
 | .L0 v0 E0 v7 v8=>(1,(v7 - v8).toNat,1000000,0,0,0)
theorem Zle{a0:List Zd}{a1:Zd}(oa0:(SzL 24 (fun _=>True)) a0):Tot (Zhl a0 a1) (fun r=>(0<=r↔a1∈a0)):=by
 apply Tot.rn (Zld a0 a1) Zgw
 .dsimp only [Zg6,LT.den];exact tL ⟨rfl,rfl,oa0,cl,cl,tk47⟩ tk87
 rintro ⟨v0,E0,v7,v8⟩ ⟨al0,al1,ov0,cv8,i0,i1⟩;have lb_v0:=ov0.1;subst al0;subst al1;dsimp only [Zei,Zgr,LT.den];apply tD<;>intro h1
 .refine Tot.ix fun x1 h2=>?_;have mh2:=h2.2;apply tF<;>intro h3
  .exact tl83
  have q1:=wr (v8+1);exact tL ⟨rfl,rfl,ov0,cl,cl,tk47⟩ tk87
 exact tl83
theorem Zft{a0:List Zd}{a1:Zd}(oa0:(SzL 24 (fun _=>True)) a0):Tot (Zgs a0 a1) (fun r=>(r=true↔a1∈a0)):=by
 apply tZ;dsimp only [Zf6,LT.den];exact tB (Zle oa0) fun x1 h1=>tR (by exact decide_eq_true_iff.trans ‹_›)
theorem Zq0{a0:Zd}{a1:List Zd}(oa1:(SzL 24 (fun _=>True)) a1):Tot (Zx0 a0 a1) (fun r=>(r=true↔a0∈a1)):=by
 apply tZ;dsimp only [Ztr,LT.den];exact tB (Zft oa1) fun x1 h1=>tR ‹_›
def Zgb(a0:List Zd)(a1:List Zd):Za2->Prop
 | .L0 v0 w1_0 v7 v8=>(v0=a0)/\(w1_0=a1)/\((SzL 24 (fun _=>True)) v0)/\((SzL 24 (fun _=>True)) w1_0)/\(0<=v8)/\(v7=(v0.length:Int))/\(∀ (k:Nat) x,(k:Int) < v8->v0[k]?=some x->nI w1_0 x=true)
def Zc8:Za2->M6
 | .L0 v0 w1_0 v7 v8=>(1,(v7 - v8).toNat,1000000,0,0,0)
theorem Zgc{a0:List Zd}{a1:List Zd}(oa0:(SzL 24 (fun _=>True)) a0)(oa1:(SzL 24 (fun _=>True)) a1):Tot (Zds a0 a1) (fun r=>(FD a0 (nI a1) r)):=by
 apply Tot.rn (Zgb a0 a1) Zc8
 .dsimp only [Zdj,LT.den];exact tL ⟨rfl,rfl,oa0,oa1,cl,cl,tk41⟩ tk75
 rintro ⟨v0,w1_0,v7,v8⟩ ⟨al0,al1,ov0,ow1_0,cv8,i0,i1⟩;have lb_v0:=ov0.1;subst al0;subst al1;dsimp only [Zb1,Zc7,LT.den];apply tD<;>intro h1
 .refine Tot.ix fun x1 h2=>?_;have mh2:=h2.2;refine tB (Zq0 ow1_0) fun x2 h3=>?_;apply tF<;>intro h4
  .exact Zbnz
  have q1:=wr (v8+1);exact tL ⟨rfl,rfl,ov0,ow1_0,cl,cl,tk41⟩ tk75
 exact Zbnz
def Zfi(b0:List Zd)(a1:List Zd):Zaw->Prop
 | .L0 v0 w1_0 v5 v6=>(w1_0=a1)/\((SzL 24 (fun _=>True)) v0)/\((SzL 24 (fun _=>True)) w1_0)/\(0<=v6)/\(DI b0 v0 (nI w1_0) v5 v6)/\(v6<=(v0.length:Int))
def Zcj:Zaw->M6
 | .L0 v0 w1_0 v5 v6=>(1,((v0.length:Int) - v6).toNat,1000000,0,0,0)
theorem Zfj{b0:List Zd}{a1:List Zd}(ob0:(SzL 24 (fun _=>True)) b0)(oa1:(SzL 24 (fun _=>True)) a1):Tot (Zcx b0 a1) (fun r=>((SzL 24 (fun _=>True)) r)/\(r=b0.filter (nI a1))):=by
 apply Tot.rn (Zfi b0 a1) Zcj
 .have lb_b0:=ob0.1;dsimp only [Zcq,LT.den];refine tB (Zgc ob0 oa1) fun x1 h1=>?_;have eh1_0:=h1;have ph1:=Zbra eh1_0;apply tE<;>intro h2
  .exact tR ⟨ob0,tk31⟩
  have q1:=wr (x1+1);exact tL ⟨rfl,ob0,oa1,cl,tk11,cl⟩ tk71
 rintro ⟨v0,w1_0,v5,v6⟩ ⟨al0,ov0,ow1_0,cv6,i0,i1⟩;have lb_v0:=ov0.1;subst al0;dsimp only [Zbs,Zci,LT.den];have l0:=i0.1;have l1:=i0.2.1;have l2:=i0.2.2.1;apply tD<;>intro h1
 .refine Tot.ix fun x1 h2=>?_;have mh2:=h2.2;refine tB (Zq0 ow1_0) fun x2 h3=>?_;apply tO<;>intro h4
  .refine Tot.ix fun x3 h5=>tB (Tot.set (by omega) (by omega)) fun x4 h6=>?_;have vh6:=h6.2.2;have q1:=wr (v5+1);have q2:=wr (v6+1);exact tL ⟨rfl,SzL.tr,ow1_0,cl,tk11,cl⟩ tk71
  have q1:=wr (v6+1);exact tL ⟨rfl,ov0,ow1_0,cl,tk11,cl⟩ tk71
 refine tB (Tot.clr (by omega) (by omega)) fun x1 h2=>?_;have vh2:=h2.2.2;refine tB (Tot.slice (by omega) (by omega) (by omega)) fun x2 h3=>?_;have vh3:=h3.2.2;exact tR ⟨SzL.tr,tk31⟩
theorem Zed{a0:List Zg}{a1:Za}{a2:List Zb}{a3:Ze}{a4:List Zd}(oa0:(SzL 176 Z1) a0)(oa1:Zl a1)(oa2:(SzL 176 Zw) a2)(oa4:(SzL 24 (fun _=>True)) a4)(h0:Ids a1.Objects)(h1:Zbc a2)(h2:Zdq a0)(h3:∀ c,c∈a0->c.Abilities.length<=8)(h4:a1.Objects.length<=60):Tot (Z16 a0 a1 a2 a3 a4) (fun r=>((SzL 24 (fun _=>True)) r)/\(r.length<=489)/\(r=(opO a0 a1 a2 a3).filter (nI a4))):=by
 apply tZ;dsimp only [Z8l,LT.den];refine tB (Zu9 oa0 oa1 oa2 ‹_› ‹_› ‹_› Zaj cl) fun x1 h1=>?_;have eh1_1:=h1.2.1;refine tB (Zfj h1.1 oa4) fun x2 h2=>?_;have eh2_1:=h2.2;exact tR ⟨h2.1,(by exact Zbv8 ‹_› ‹_›),(by grind)⟩
theorem Zlf{a0:List Z9}(oa0:(SzL 152 Zbt) a0):Tot (Zc4 a0) (fun r=>((SzL 152 Zbt) r)/\(r=a0)):=by
 unfold Zc4;split
 .apply tZ;have lb_a0:=oa0.1;dsimp only [Zej,LT.den];refine Tot.ap fun x1 h1=>?_;have lh1:x1.length=([]:List Z9).length+a0.length:=by rw [h1,List.length_append]
  try simp only [List.length_cons,List.length_nil,Nat.zero_add] at lh1
  exact tR ⟨SzL.app (k:=152) h1 lo (fun _ h=>by cases h) oa0.2,Z6z⟩
 apply tZ;dsimp only [Zcm,LT.den];exact Z2s
theorem Zca{a0:List Int}(oa0:(SzL 8 (fun _=>True)) a0):Tot (Zfc a0) (fun r=>((SzL 8 (fun _=>True)) r)/\(r=a0)):=by
 unfold Zfc;split
 .apply tZ;have lb_a0:=oa0.1;dsimp only [Zir,LT.den];refine Tot.ap fun x1 h1=>?_;have lh1:x1.length=([]:List Int).length+a0.length:=by rw [h1,List.length_append]
  exact Zbfs
 apply tZ;dsimp only [Zfx,LT.den];exact Z2s
theorem Zaeq{a0:Z9}(oa0:Zbt a0):Tot (Ztt a0) (fun r=>(Zbt r)/\(r=a0)):=by
 apply tZ;dsimp only [Z0c,LT.den];refine tB (Zca oa0.1) fun x1 h1=>?_;have eh1_1:=h1.2;refine tB (Zca oa0.2.1) fun x2 h2=>?_;have eh2_1:=h2.2;refine tB (Zca oa0.2.2) fun x3 h3=>?_;have eh3_1:=h3.2;exact tR ⟨⟨h1.1,h2.1,h3.1⟩,(by subst_vars;rfl)⟩
theorem Zlg{a0:List Zc}(oa0:(SzL 128 (fun _=>True)) a0):Tot (Zc5 a0) (fun r=>((SzL 128 (fun _=>True)) r)/\(r=a0)):=by
 unfold Zc5;split
 .apply tZ;have lb_a0:=oa0.1;dsimp only [Zek,LT.den];refine Tot.ap fun x1 h1=>?_;have lh1:x1.length=([]:List Zc).length+a0.length:=by rw [h1,List.length_append]
  exact Zbfs
 apply tZ;dsimp only [Zco,LT.den];exact Z2s
theorem Znx{a0:List Zai}(oa0:(SzL 824 Zcr) a0):Tot (Zd4 a0) (fun r=>((SzL 824 Zcr) r)/\(r=a0)):=by
 unfold Zd4;split
 .apply tZ;have lb_a0:=oa0.1;dsimp only [Ze9,LT.den];refine Tot.ap fun x1 h1=>?_;have lh1:x1.length=([]:List Zai).length+a0.length:=by rw [h1,List.length_append]
  try simp only [List.length_cons,List.length_nil,Nat.zero_add] at lh1
  exact tR ⟨SzL.app (k:=824) h1 lo (fun _ h=>by cases h) oa0.2,Z6z⟩
 apply tZ;dsimp only [Zdk,LT.den];exact Z2s
def Zab3(a0:Zh):Zhw->Prop
 | .L0 E0 E1 v18 v19=>(Zac E0)/\(Zac E1)/\(0<=v19)/\(v18=(a0.Effects.length:Int))/\(v18=(E0.Effects.length:Int))/\(E0=a0)
def Znn:Zhw->M6
 | .L0 E0 E1 v18 v19=>(1,(v18 - v19).toNat,1000000,0,0,0)
theorem Zuo{a0:Zh}(oa0:Zac a0):Tot (Zrv a0) (fun r=>(Zac r)/\(r=a0)):=by
 apply Tot.rn (Zab3 a0) Znn
 .dsimp only [Zx1,LT.den];refine tB (Zce oa0.2.1) fun x1 h1=>?_;have eh1_1:=h1.2;refine tB (Zhm oa0.2.2.2.1) fun x2 h2=>?_;have eh2_1:=h2.2;refine tB (Zge oa0.2.2.2.2.1) fun x3 h3=>?_;have eh3_1:=h3.2;have q1:=h3.1.1;exact tL ⟨⟨oa0.1,h1.1,oa0.2.2.1,h2.1,h3.1,oa0.2.2.2.2.2⟩,⟨SzS.nil,SzL.nil,SzS.nil,SzL.nil,SzL.nil,SzS.nil⟩,cl,Zaj,Zaj,tk52⟩ (by unfold Znn lt6;dsimp only;omega)
 rintro ⟨E0,E1,v18,v19⟩ ⟨O0,O1,cv19,i0,i1,i2⟩;dsimp only [Zoo,Zu5,LT.den];have lq:=O0.2.2.2.2.1.1;apply tD<;>intro h1
 .refine Tot.ix fun x1 h2=>?_;have oh2:Zas x1:=O0.2.2.2.2.1.2 x1 h2.1;have mh2:=h2.2;refine tB (Zce oh2.2.2.2.2) fun x2 h3=>?_;have eh3_1:=h3.2;refine tB (Tot.set (by omega) (by omega)) fun x3 h4=>?_;have vh4:=h4.2.2;have q1:=wr (v19+1);exact tL ⟨⟨O0.1,O0.2.1,O0.2.2.1,O0.2.2.2.1,⟨lo,fun e he=>(h4.2.1 e he).elim (fun w=>by rw [w];exact⟨oh2.1,oh2.2.1,oh2.2.2.1,oh2.2.2.2.1,h3.1⟩) (O0.2.2.2.2.1.2 e)⟩,O0.2.2.2.2.2⟩,O1,cl,Zaj,Zaj,tk52⟩ (by unfold Znn lt6;dsimp only;omega)
 exact tR ⟨O0,‹_›⟩
theorem Zlh{a0:List Zbb}(oa0:(SzL 16 (fun _=>True)) a0):Tot (Zb7 a0) (fun r=>((SzL 16 (fun _=>True)) r)/\(r=a0)):=by
 unfold Zb7;split
 .apply tZ;have lb_a0:=oa0.1;dsimp only [Zel,LT.den];refine Tot.ap fun x1 h1=>?_;have lh1:x1.length=([]:List Zbb).length+a0.length:=by rw [h1,List.length_append]
  exact Zbfs
 apply tZ;dsimp only [Zcp,LT.den];exact Z2s
theorem Zkh{a0:List Zad}(oa0:(SzL 768 Zd1) a0):Tot (Zct a0) (fun r=>((SzL 768 Zd1) r)/\(r=a0)):=by
 unfold Zct;split
 .apply tZ;have lb_a0:=oa0.1;dsimp only [Zd6,LT.den];refine Tot.ap fun x1 h1=>?_;have lh1:x1.length=([]:List Zad).length+a0.length:=by rw [h1,List.length_append]
  try simp only [List.length_cons,List.length_nil,Nat.zero_add] at lh1
  exact tR ⟨SzL.app (k:=768) h1 lo (fun _ h=>by cases h) oa0.2,Z6z⟩
 apply tZ;dsimp only [Zcd,LT.den];exact Z2s
theorem Zny{a0:List Zap}(oa0:(SzL 80 Zdp) a0):Tot (Zd5 a0) (fun r=>((SzL 80 Zdp) r)/\(r=a0)):=by
 unfold Zd5;split
 .apply tZ;have lb_a0:=oa0.1;dsimp only [Zfa,LT.den];refine Tot.ap fun x1 h1=>?_;have lh1:x1.length=([]:List Zap).length+a0.length:=by rw [h1,List.length_append]
  try simp only [List.length_cons,List.length_nil,Nat.zero_add] at lh1
  exact tR ⟨SzL.app (k:=80) h1 lo (fun _ h=>by cases h) oa0.2,Z6z⟩
 apply tZ;dsimp only [Zdl,LT.den];exact Z2s
def Za3p(a0:Za):Zi2->Prop
 | .L0 E0 E1 v13 v14=>(Zl E0)/\(Zl E1)/\(0<=v14)/\(E0=a0)/\(v13=(a0.Players.length:Int))
 | .L1 E0 E1 v46 v47=>(Zl E0)/\(Zl E1)/\(0<=v47)/\(E0=a0)/\(v46=(a0.Stack.length:Int))
 | .L2 E0 E1 v81 v82=>(Zl E0)/\(Zl E1)/\(0<=v82)/\(E0=a0)/\(v81=(a0.Waiting.length:Int))
 | .L3 E0 E1 v104 v105=>(Zl E0)/\(Zl E1)/\(0<=v105)/\(E0=a0)/\(v104=(a0.Conts.length:Int))
def Zajm:Zi2->M6
 | .L0 E0 E1 v13 v14=>(7,(v13 - v14).toNat,1000000,0,0,0)
 | .L1 E0 E1 v46 v47=>(5,(v46 - v47).toNat,1000000,0,0,0)
 | .L2 E0 E1 v81 v82=>(3,(v81 - v82).toNat,1000000,0,0,0)
 | .L3 E0 E1 v104 v105=>(1,(v104 - v105).toNat,1000000,0,0,0)
theorem Zad9{a0:Za}(oa0:Zl a0):Tot (Za1b a0) (fun r=>(Zl r)/\(r=a0)):=by
 apply Tot.rn (Za3p a0) Zajm
 .dsimp only [Zanf,LT.den];refine tB (Zlf oa0.1) fun x1 h1=>?_;have eh1_1:=h1.2;have q1:=h1.1.1;exact tL ⟨⟨h1.1,oa0.2.1,oa0.2.2.1,oa0.2.2.2.1,oa0.2.2.2.2.1,oa0.2.2.2.2.2.1,oa0.2.2.2.2.2.2.1,oa0.2.2.2.2.2.2.2⟩,⟨SzL.nil,SzL.nil,SzL.nil,SzL.nil,SzL.nil,SzL.nil,SzL.nil,SzL.nil⟩,cl,tk55,tk99⟩ Z5c
 intro s hs;cases s with
 | L0 E0 E1 v13 v14=>
  obtain⟨O0,O1,cv14,i0,i1⟩:=hs;dsimp only [Zna,Zahb,LT.den];have lq:E0.Players.length=a0.Players.length:=by rw [i0]
  have lr:=O0.1.1;apply tD<;>intro h1
  .refine Tot.ix fun x1 h2=>?_;have oh2:Zbt x1:=O0.1.2 x1 h2.1;have mh2:=h2.2;refine tB (Zaeq oh2) fun x2 h3=>?_;have eh3_1:=h3.2;refine tB (Tot.set (by omega) (by omega)) fun x3 h4=>?_;have vh4:=h4.2.2;have q1:=wr (v14+1);exact tL ⟨⟨⟨lo,fun e he=>(h4.2.1 e he).elim (fun w=>by rw [w];exact h3.1) (O0.1.2 e)⟩,O0.2.1,O0.2.2.1,O0.2.2.2.1,O0.2.2.2.2.1,O0.2.2.2.2.2.1,O0.2.2.2.2.2.2.1,O0.2.2.2.2.2.2.2⟩,O1,cl,tk55,tk99⟩ Z5c
  refine tB (Zlg O0.2.1) fun x1 h2=>?_;have eh2_1:=h2.2;refine tB (Zca O0.2.2.1) fun x2 h3=>?_;have eh3_1:=h3.2;refine tB (Zca O0.2.2.2.1) fun x3 h4=>?_;have eh4_1:=h4.2;refine tB (Znx O0.2.2.2.2.1) fun x4 h5=>?_;have eh5_1:=h5.2;have q1:=h5.1.1;exact tL ⟨⟨O0.1,h2.1,h3.1,h4.1,h5.1,O0.2.2.2.2.2.1,O0.2.2.2.2.2.2.1,O0.2.2.2.2.2.2.2⟩,O1,cl,tk32,tk99⟩ Z5c
 | L1 E0 E1 v46 v47=>
  obtain⟨O0,O1,cv47,i0,i1⟩:=hs;dsimp only [Zna,Zahc,LT.den];have lq:E0.Stack.length=a0.Stack.length:=by rw [i0]
  have lr:=O0.2.2.2.2.1.1;apply tD<;>intro h1
  .refine Tot.ix fun x1 h2=>?_;have oh2:Zcr x1:=O0.2.2.2.2.1.2 x1 h2.1;have mh2:=h2.2;refine tB (Zuo oh2.1) fun x2 h3=>?_;have eh3_1:=h3.2;refine tB (Tot.set (by omega) (by omega)) fun x3 h4=>?_;have vh4:=h4.2.2;refine Tot.ix fun x4 h5=>?_;have oh5:Zcr x4:=(show SzL 1 Zcr _ from ⟨lo,fun e he=>(h4.2.1 e he).elim (fun w=>by rw [w];exact⟨h3.1,oh2.2⟩) (O0.2.2.2.2.1.2 e)⟩).2 x4 h5.1;have mh5:=h5.2;refine tB (Zlh oh5.2) fun x5 h6=>?_;have eh6_1:=h6.2;refine tB (Tot.set (by omega) (by omega)) fun x6 h7=>?_;have vh7:=h7.2.2;have q1:=wr (v47+1);exact tL ⟨⟨O0.1,O0.2.1,O0.2.2.1,O0.2.2.2.1,⟨lo,fun e he=>(h7.2.1 e he).elim (fun w=>by rw [w];exact⟨oh5.1,h6.1⟩) ((show SzL 1 Zcr _ from ⟨lo,fun e he=>(h4.2.1 e he).elim (fun w=>by rw [w];exact⟨h3.1,oh2.2⟩) (O0.2.2.2.2.1.2 e)⟩).2 e)⟩,O0.2.2.2.2.2.1,O0.2.2.2.2.2.2.1,O0.2.2.2.2.2.2.2⟩,O1,cl,tk32,tk99⟩ Z5c
  refine tB (Zkh O0.2.2.2.2.2.1) fun x1 h2=>?_;have eh2_1:=h2.2;have q1:=h2.1.1;exact tL ⟨⟨O0.1,O0.2.1,O0.2.2.1,O0.2.2.2.1,O0.2.2.2.2.1,h2.1,O0.2.2.2.2.2.2.1,O0.2.2.2.2.2.2.2⟩,O1,cl,tk56,tk99⟩ Z5c
 | L2 E0 E1 v81 v82=>
  obtain⟨O0,O1,cv82,i0,i1⟩:=hs;dsimp only [Zna,Zahd,LT.den];have lq:E0.Waiting.length=a0.Waiting.length:=by rw [i0]
  have lr:=O0.2.2.2.2.2.1.1;apply tD<;>intro h1
  .refine Tot.ix fun x1 h2=>?_;have oh2:Zd1 x1:=O0.2.2.2.2.2.1.2 x1 h2.1;have mh2:=h2.2;refine tB (Zuo oh2) fun x2 h3=>?_;have eh3_1:=h3.2;refine tB (Tot.set (by omega) (by omega)) fun x3 h4=>?_;have vh4:=h4.2.2;have q1:=wr (v82+1);exact tL ⟨⟨O0.1,O0.2.1,O0.2.2.1,O0.2.2.2.1,O0.2.2.2.2.1,⟨lo,fun e he=>(h4.2.1 e he).elim (fun w=>by rw [w];exact h3.1) (O0.2.2.2.2.2.1.2 e)⟩,O0.2.2.2.2.2.2.1,O0.2.2.2.2.2.2.2⟩,O1,cl,tk56,tk99⟩ Z5c
  refine tB (Zny O0.2.2.2.2.2.2.1) fun x1 h2=>?_;have eh2_1:=h2.2;have q1:=h2.1.1;exact tL ⟨⟨O0.1,O0.2.1,O0.2.2.1,O0.2.2.2.1,O0.2.2.2.2.1,O0.2.2.2.2.2.1,h2.1,O0.2.2.2.2.2.2.2⟩,O1,cl,tk33,tk99⟩ Z5c
 | L3 E0 E1 v104 v105=>
  obtain⟨O0,O1,cv105,i0,i1⟩:=hs;dsimp only [Zna,Zahe,LT.den];have lq:E0.Conts.length=a0.Conts.length:=by rw [i0]
  have lr:=O0.2.2.2.2.2.2.1.1;apply tD<;>intro h1
  .refine Tot.ix fun x1 h2=>?_;have oh2:Zdp x1:=O0.2.2.2.2.2.2.1.2 x1 h2.1;have mh2:=h2.2;refine tB (Zca oh2.1) fun x2 h3=>?_;have eh3_1:=h3.2;refine tB (Tot.set (by omega) (by omega)) fun x3 h4=>?_;have vh4:=h4.2.2;refine Tot.ix fun x4 h5=>?_;have oh5:Zdp x4:=(show SzL 1 Zdp _ from ⟨lo,fun e he=>(h4.2.1 e he).elim (fun w=>by rw [w];exact⟨h3.1,oh2.2⟩) (O0.2.2.2.2.2.2.1.2 e)⟩).2 x4 h5.1;have mh5:=h5.2;refine tB (Zce oh5.2) fun x5 h6=>?_;have eh6_1:=h6.2;refine tB (Tot.set (by omega) (by omega)) fun x6 h7=>?_;have vh7:=h7.2.2;have q1:=wr (v105+1);exact tL ⟨⟨O0.1,O0.2.1,O0.2.2.1,O0.2.2.2.1,O0.2.2.2.2.1,O0.2.2.2.2.2.1,⟨lo,fun e he=>(h7.2.1 e he).elim (fun w=>by rw [w];exact⟨oh5.1,h6.1⟩) ((show SzL 1 Zdp _ from ⟨lo,fun e he=>(h4.2.1 e he).elim (fun w=>by rw [w];exact⟨h3.1,oh2.2⟩) (O0.2.2.2.2.2.2.1.2 e)⟩).2 e)⟩,O0.2.2.2.2.2.2.2⟩,O1,cl,tk33,tk99⟩ Z5c
  refine tB (Zca O0.2.2.2.2.2.2.2) fun x1 h2=>?_;have eh2_1:=h2.2;exact tR ⟨⟨O0.1,O0.2.1,O0.2.2.1,O0.2.2.2.1,O0.2.2.2.2.1,O0.2.2.2.2.2.1,O0.2.2.2.2.2.2.1,h2.1⟩,(by subst_vars;rfl)⟩
def Zno(a0:List Zg)(a1:Za)(a2:List Zb)(a3:Ze)(a4:Zd):Zim->Prop
 | .L0 E0 E1 E2=>(E0=a4)/\(Zbq E1)/\(Zw E2)/\(0<=a4.B->E2.Abilities=abL a0 a1 a2 a4.A)
def Zye:Zim->M6
 | .L0 E0 E1 E2=>(0,0,0,0,0,0)
theorem Zke{a0:List Zg}{a1:Za}{a2:List Zb}{a3:Ze}{a4:Zd}{E0:Zd}{E1:Z4}{E2:Zb}(h:(Zno a0 a1 a2 a3 a4) (.L0 E0 E1 E2)):Tot (Zhx E0 E1 E2).den (Nx (Zno a0 a1 a2 a3 a4) Zye (0,0,0,0,0,0) (fun r=>(Zbq r)/\(r=efV a0 a1 a2 a4))):=by
 obtain⟨al0,O1,O2,i0⟩:=h;subst al0;dsimp only [Zhx,LT.den];apply tD<;>intro h1
 .exact Zbn0
 apply tD<;>intro h2
 .exact Zbn0
 refine Tot.ix fun x1 h3=>?_;have oh3:Zac x1:=O2.2.2.2 x1 h3.1;have mh3:=h3.2;exact tR ⟨oh3.2.2.2.2.2,tk48⟩
theorem Zaer{a0:List Zg}{a1:Za}{a2:List Zb}{a3:Ze}{a4:Zd}(oa0:(SzL 176 Z1) a0)(oa1:Zl a1)(oa2:(SzL 176 Zw) a2)(h0:Ids a1.Objects)(h1:Zbc a2)(h2:Zdq a0)(h3:∀ c,c∈a0->c.Abilities.length<=8)(h4:a1.Objects.length<=60)(h5:a4∈opO a0 a1 a2 a3):Tot (Z4x a0 a1 a2 a3 a4) (fun r=>(Zbq r)/\(r=efV a0 a1 a2 a4)):=by
 apply Tot.rn (Zno a0 a1 a2 a3 a4) Zye
 .dsimp only [Z0e,LT.den];refine tB (Zjg oa1 oa2) fun x1 h1=>?_;have eh1_1:=h1.2;apply tN<;>intro h2
  .refine tB (Zmb oa0 oa1) fun x2 h3=>?_;have eh3_1:=h3.2;exact tJ (Zke ⟨rfl,SzS.nil,h3.1,tk34⟩)
  exact tJ (Zke ⟨rfl,SzS.nil,h1.1,tk34⟩)
 intro s hs;cases s with
 | L0 _ _ _=>exact Zke hs
theorem Zajn{a0:Za}{a1:Zc}(oa0:Zl a0)(h0:0<=ixO a0.Objects a1.Id):Tot (Z8n a0 a1) (fun r=>(Zl r)/\(r={ a0 with Objects:=a0.Objects.set (ixO a0.Objects a1.Id).toNat a1 })):=by
 apply tZ;have lr:=oa0.2.1.1;dsimp only [Z17,LT.den];refine tB (Z9m oa0) fun x1 h1=>?_;have lh1:=Z9c a0.Objects a1.Id;apply tD<;>intro h2
 .refine Tot.ix fun x2 h3=>tB (Tot.set (by omega) (by omega)) fun x3 h4=>?_;have vh4:=h4.2.2;exact tR ⟨⟨oa0.1,SzL.tr,oa0.2.2.1,oa0.2.2.2.1,oa0.2.2.2.2.1,oa0.2.2.2.2.2.1,oa0.2.2.2.2.2.2.1,oa0.2.2.2.2.2.2.2⟩,(by exact Zbvq ‹_› ‹_›)⟩
 exfalso;omega
theorem Zbad{a0:Za}{a1:Zc}(oa0:Zl a0)(h0:0<=ixO a0.Objects a1.Id):Tot (Za79 a0 a1) (fun r=>(Zl r)/\(r={ a0 with Objects:=a0.Objects.set (ixO a0.Objects a1.Id).toNat a1 })):=by
 apply tZ;dsimp only [Zaum,LT.den];exact tB (Zad9 oa0) fun x1 h1=>tB (Zajn h1.1 Zaj) fun x2 h2=>tR ⟨h2.1,(by grind)⟩
theorem Zbb4{a0:Int}{a1:Int}:Tot (Zbc0 a0 a1) (fun r=>(r=suV a0 a1)):=by
 apply tZ;dsimp only [Za1c,LT.den];exact tB (Zfy) fun x1 h1=>tB (Zfy) fun x2 h2=>tB (Zfy) fun x3 h3=>tR (by unfold suV;grind)
theorem Zawn{a0:A3 Int}{a1:Int}{a2:Int}:Tot (Zang a0 a1 a2) (fun r=>(r=ctV a0 a1 a2)):=by
 apply tZ;dsimp only [Zac5,LT.den];apply tD<;>intro h1
 .apply tD<;>intro h2
  .refine tB (tI (by omega) Zaky) fun x1 h3=>?_;have mh3:=h3.2;exact tB (Zaoz) fun x2 h4=>tB (tI (by omega) Zaky) fun x3 h5=>tB (Tot.setA3 (by omega) (by omega)) fun x4 h6=>tR tk60
  exact tl85
 exact tl85
def Zp4(a0:List Zg)(a1:Za)(a2:List Zb)(a3:Ze)(a4:Zd):Zj3->Prop
 | .L0 E0 E1 E2 E3 v14=>(Zl E1)/\(Zl E3)/\(apV a0 a1 a2 a3 a4=amE E3 E0 v14)
def Z26:Zj3->M6
 | .L0 E0 E1 E2 E3 v14=>(0,0,0,0,0,0)
theorem Zee{a0:List Zg}{a1:Za}{a2:List Zb}{a3:Ze}{a4:Zd}{E0:Ze}{E1:Za}{E2:Ze}{E3:Za}{v14:Bool}(h:(Zp4 a0 a1 a2 a3 a4) (.L0 E0 E1 E2 E3 v14)):Tot (Zcy E0 E1 E2 E3 v14).den (Nx (Zp4 a0 a1 a2 a3 a4) Z26 (0,0,0,0,0,0) (fun r=>(Zl r.1)/\(r=apV a0 a1 a2 a3 a4))):=by
 obtain⟨O1,O3,i0⟩:=h;dsimp only [Zcy,LT.den];apply tF<;>intro h1
 .apply tD<;>intro h2
  .exact Zbf1
  exact Zbf1
 exact Zbf1
theorem Zgz{a0:List Zg}{a1:Za}{a2:List Zb}{a3:Ze}{a4:Zd}(oa0:(SzL 176 Z1) a0)(oa1:Zl a1)(oa2:(SzL 176 Zw) a2)(h0:Ids a1.Objects)(h1:Zbc a2)(h2:Zdq a0)(h3:∀ c,c∈a0->c.Abilities.length<=8)(h4:a1.Objects.length<=60):Tot (Zyy a0 a1 a2 a3 a4) (fun r=>(Zl r.1)/\(r=apV a0 a1 a2 a3 a4)):=by
 apply Tot.rn (Zp4 a0 a1 a2 a3 a4) Z26
 .dsimp only [Z4y,LT.den];refine tB (Zad9 oa1) fun x1 h1=>?_;have eh1_1:=h1.2;refine tB (Zu9 oa0 oa1 oa2 ‹_› ‹_› ‹_› Zaj cl) fun x2 h2=>?_;have eh2_1:=h2.2.1;have eh2_2:=h2.2.2;refine tB (Zft h2.1) fun x3 h3=>?_;apply tO<;>intro h4
  .exact Zbf0
  refine tB (Zaer oa0 oa1 oa2 ‹_› ‹_› ‹_› Zaj cl (by first | assumption | exact mm ‹_› ‹_› ‹_›)) fun x4 h5=>?_;have eh5_1:=h5.2;have ah5:=mm (by assumption:_↔a4∈x2) ‹_› ‹_›;have bh5:¬ a4.B = -1->1<=x4.Do/\x4.Do<=8:=fun hB=>(by rw [(by assumption:x4=_)];exact Zbsd (Zbv0 ‹_› ‹_› ‹_› ah5 hB));apply tE<;>intro h6
  .refine tB (Zm1 h1.1) fun x5 h7=>?_;have ah7:=Zbnm (by assumption:x1=a1) (by assumption:x5=_) ‹_› ‹_› ‹_› (mm ‹_› ‹_› ‹_›);have q1:=wr (x5.1.Shield - (Zia x5.1.Shield a3.Amount));have q2:=wr (a3.Amount - (Zia x5.1.Shield a3.Amount));refine tB (Zbad h1.1 Zaj) fun x6 h8=>?_;have eh8_1:=h8.2;exact tJ (Zee ⟨⟨SzL.nil,SzL.nil,SzL.nil,SzL.nil,SzL.nil,SzL.nil,SzL.nil,SzL.nil⟩,h8.1,tk9⟩)
  apply tE<;>intro h7
  .exact Zbf0
  apply tE<;>intro h8
  .exact Zbf0
  apply tE<;>intro h9
  .exact tB (Zbb4) fun x5 h10=>tJ (Zee ⟨⟨SzL.nil,SzL.nil,SzL.nil,SzL.nil,SzL.nil,SzL.nil,SzL.nil,SzL.nil⟩,h1.1,tk9⟩)
  apply tE<;>intro h10
  .exact tB (Zbb2) fun x5 h11=>tJ (Zee ⟨⟨SzL.nil,SzL.nil,SzL.nil,SzL.nil,SzL.nil,SzL.nil,SzL.nil,SzL.nil⟩,h1.1,tk9⟩)
  apply tE<;>intro h11
  .exact tB (Zaoz) fun x5 h12=>tJ (Zee ⟨⟨SzL.nil,SzL.nil,SzL.nil,SzL.nil,SzL.nil,SzL.nil,SzL.nil,SzL.nil⟩,h1.1,tk9⟩)
  apply tE<;>intro h12
  .exact Zbf3
  apply tE<;>intro h13
  .exact Zbf3
  apply tE<;>intro h14
  .exact tB (Zawn) fun x5 h15=>tJ (Zee ⟨⟨SzL.nil,SzL.nil,SzL.nil,SzL.nil,SzL.nil,SzL.nil,SzL.nil,SzL.nil⟩,h1.1,tk9⟩)
  exact Zbf3
 intro s hs;cases s with
 | L0 _ _ _ _ _=>exact Zee hs
theorem Tot.dry{α:Type}{σ1:α->List (Nat×Blk)}{p:α->PV}{o:Option α}{P:α->Prop}(h:Tot o P)(hd:∀ x,P x->((p x).sc&&Zym (σ1 x))=true):Tot (dry? σ1 p o) P:=by
 obtain⟨x,hx,hp⟩:=h;exact⟨x,by unfold dry?;rw [hx];show (bif _ then _ else _)=_;rw [hd x hp];rfl,hp⟩
theorem Zen:Tot Zahh (fun r=>r=true):=by
 unfold Zahh;refine tZ ?_;dsimp only [Zanh,LT.den];have szP:Zbt al4P:=⟨SzL.nil,SzL.nil,SzL.nil⟩;have szS:Zl (Zni 2):=⟨⟨by decide,mem_cons' szP (mem_cons' szP fun _ h=>by cases h)⟩,⟨by decide,fun _ _=>trivial⟩,⟨by decide,fun _ _=>trivial⟩,SzL.nil,SzL.nil,SzL.nil,SzL.nil,SzL.nil⟩;have szC:SzL 176 Z1 Zl7:=⟨by decide,mem_cons' ⟨by unfold SzS;decide,SzL.nil,SzL.nil⟩ fun _ h=>by cases h⟩;have szT:SzL 176 Zw (Zo3 []):=⟨by decide,mem_cons' ⟨SzS.nil,SzL.nil,SzL.nil⟩ fun _ h=>by cases h⟩;have szA:Zac Z6y:=⟨SzS.nil,SzL.nil,SzS.nil,SzL.nil,SzL.nil,SzS.nil⟩;have szU:SzL 176 Zw (Zo3 [Z6y]):=⟨by decide,mem_cons' ⟨SzS.nil,SzL.nil,⟨by decide,mem_cons' szA fun _ h=>by cases h⟩⟩ fun _ h=>by cases h⟩;have sz1:SzL 24 (fun _=>True) [(⟨12,1,-1⟩:Zd)]:=⟨by decide,fun _ _=>trivial⟩;refine tB @Zawh (fun x1 h1=>?_);obtain rfl:x1=(Zni 2,Zub 1 3):=h1.2;refine tB @Zqx (fun x4 h4=>?_);obtain rfl:x4=Zl7:=h4.2;refine tB (@Zed Zl7 (Zni 2) (Zo3 []) (Zub 1 3) [] szC szS szT SzL.nil Z9f Zbny Zav0 Zav1 (by decide)) (fun x6 h6=>?_);obtain rfl:x6=[⟨12,1,-1⟩]:=h6.2.2.trans (by rw [Zbv5];kernel_rfl);refine tB @Zqx (fun x8 h8=>?_);obtain rfl:x8=Zl7:=h8.2;refine tB (Tot.dry (@Zgz Zl7 (Zni 2) (Zo3 []) (Zub 1 3) ⟨12,1,-1⟩ szC szS szT Z9f Zbny Zav0 Zav1 (by decide)) (fun x hx=>by rw [hx.2,Zbnw];kernel_rfl)) (fun x10 h10=>?_);obtain rfl:x10=(Zni 0,Zub 1 1,true):=h10.2.trans Zbnw;refine tB (tI (xs:=Zo3 []) (i:=0) (by decide) (by decide)) (fun x13 h13=>?_);obtain rfl:x13=⟨[],(⟨0,0,(⟨0,0,0,0,0⟩:A5 Int)⟩:Z2),0,(⟨0,0,[]⟩:Zaf),0,0,0,[],0⟩:=(Option.some.inj h13.2).symm;refine tB (Tot.set (z:=Zo3 []) (i:=0) (by decide) (by decide)) (fun x15 h15=>?_);obtain rfl:x15=Zo3 [Z6y]:=h15.2.2;refine tB @Zqx (fun x17 h17=>?_);obtain rfl:x17=Zl7:=h17.2;refine tB (@Zed Zl7 (Zni 2) (Zo3 [Z6y]) (Zub 0 3) [] szC szS szU SzL.nil Z9f Zbfg Zav0 Zav1 (by decide)) (fun x19 h19=>?_);obtain rfl:x19=[⟨12,1,0⟩]:=h19.2.2.trans (by rw [Zbv6];kernel_rfl);refine tB @Zqx (fun x21 h21=>?_);obtain rfl:x21=Zl7:=h21.2;refine tB (Tot.dry (@Zgz Zl7 (Zni 2) (Zo3 [Z6y]) (Zub 0 3) ⟨12,1,0⟩ szC szS szU Z9f Zbfg Zav0 Zav1 (by decide)) (fun x hx=>by rw [hx.2,Zbnx];kernel_rfl)) (fun x23 h23=>?_);obtain rfl:x23=(Zni 2,Zqv,false):=h23.2.trans Zbnx;refine Tot.bt (by kernel_rfl) ?_;refine tB (tI (xs:=[(⟨12,1,-1⟩:Zd)]) (i:=0) (by decide) (by decide)) (fun x27 h27=>?_);obtain rfl:x27=⟨12,1,-1⟩:=(Option.some.inj h27.2).symm;refine Tot.bt (by kernel_rfl) ?_;refine Tot.bt rfl ?_;refine Tot.bt (by kernel_rfl) ?_;refine Tot.bt (by kernel_rfl) ?_;refine tB (tI (xs:=[al4O 0]) (i:=0) (by decide) (by decide)) (fun x34 h34=>?_);obtain rfl:x34=al4O 0:=(Option.some.inj h34.2).symm;refine Tot.bt (by kernel_rfl) ?_;refine tB @Zqx (fun x37 h37=>?_);obtain rfl:x37=Zl7:=h37.2;refine tB (@Zed Zl7 (Zni 2) (Zo3 [Z6y]) (Zub 1 3) [⟨12,1,-1⟩] szC szS szU sz1 Z9f Zbfg Zav0 Zav1 (by decide)) (fun x40 h40=>?_);obtain rfl:x40=[]:=h40.2.2.trans (by rw [Zbv7];kernel_rfl);refine Tot.bt (by kernel_rfl) ?_;refine Tot.bt (by kernel_rfl) ?_;refine tB (tI (xs:=[(⟨12,1,0⟩:Zd)]) (i:=0) (by decide) (by decide)) (fun x46 h46=>?_);obtain rfl:x46=⟨12,1,0⟩:=(Option.some.inj h46.2).symm;refine Tot.bt (by kernel_rfl) ?_;refine Tot.bt rfl ?_;exact tR (by kernel_rfl)
def Zazn(a0:Z2):Zoq->Prop
 | .L0 E0 v3 v4 v5=>(E0=a0)/\(0<=v5)/\(v5<=5)/\(v3=coP E0.Color v5)/\(v4=2 ^ v5.toNat)/\(Zzc E0=true)
def Zaea:Zoq->M6
 | .L0 E0 v3 v4 v5=>(1,(5 - v5).toNat,1000000,0,0,0)
theorem Zazo{a0:Z2}:Tot (Zauo a0) (fun r=>(r=coV a0)):=by
 apply Tot.rn (Zazn a0) Zaea
 .dsimp only [Zahi,LT.den];refine tB (Z0v a0) fun x1 h1=>?_;have eh1_0:=h1.1;have eh1_1:=h1.2.1;apply tO<;>intro h2
  .exact tl96
  exact Zbf2
 rintro ⟨E0,v3,v4,v5⟩ ⟨al0,cv5,i0,i1,i2,i3⟩;subst al0;dsimp only [Z19,Zac7,LT.den];have lb:0<=v3/\v3<=31:=by rw [i1];exact co_b
 have lp:v4<=32/\1<=v4:=by rw [i2];exact pw_b (by omega)
 apply tD<;>intro h1
 .refine tB (tI (by omega) tk93) fun x1 h2=>?_;have mh2:=h2.2;apply tD<;>intro h3
  .have q1:=wr (v3+v4);have q2:=wr (2*v4);have q3:=wr (v5+1);exact Zbf2
  have q1:=wr (2*v4);have q2:=wr (v5+1);exact Zbf2
 exact tl96
def Zawo(a0:Zh):Zmk->Prop
 | .L0 E0 E1 E2 v4=>(E0=a0)/\(Zac E0)/\(Zac E1)/\(Zac E2)/\(0<=v4)/\(E2.Effects.length<=v4.toNat)/\(v4.toNat<=E0.Effects.length)/\(E2={ E0 with Effects:=E0.Effects.take v4.toNat })
def Zv9:Zmk->M6
 | .L0 E0 E1 E2 v4=>(1,((E0.Effects.length:Int) - v4).toNat,1000000,0,0,0)
theorem Zawp{a0:Zh}(oa0:Zac a0):Tot (Z6e a0) (fun r=>(Zac r)/\(r=a0)):=by
 apply Tot.rn (Zawo a0) Zv9
 .dsimp only [Zac8,LT.den];have q1:=oa0.2.1.1;refine Tot.ap fun x1 h1=>?_;have lh1:x1.length=([]:List Zv).length+a0.Mods.length:=by rw [h1,List.length_append]
  try simp only [List.length_cons,List.length_nil,Nat.zero_add] at lh1
  have q2:=oa0.2.2.2.1.1;refine Tot.ap fun x2 h2=>?_;have lh2:x2.length=([]:List Za9).length+a0.Specs.length:=by rw [h2,List.length_append]
  try simp only [List.length_cons,List.length_nil,Nat.zero_add] at lh2
  exact tL ⟨rfl,oa0,⟨SzS.nil,SzL.nil,SzS.nil,SzL.nil,SzL.nil,SzS.nil⟩,⟨oa0.1,SzL.app (k:=176) h1 lo (fun _ h=>by cases h) oa0.2.1.2,oa0.2.2.1,SzL.app (k:=144) h2 lo (fun _ h=>by cases h) oa0.2.2.2.1.2,SzL.nil,oa0.2.2.2.2.2⟩,cl,cl,cl,tk29⟩ (by unfold Zv9 lt6;dsimp only;omega)
 rintro ⟨E0,E1,E2,v4⟩ ⟨al0,O0,O1,O2,cv4,i0,i1,i2⟩;subst al0;dsimp only [Zyz,Z8o,LT.den];have q1:=O0.2.2.2.2.1.1;apply tD<;>intro h1
 .refine Tot.ix fun x1 h2=>?_;have oh2:Zas x1:=O0.2.2.2.2.1.2 x1 h2.1;have mh2:=h2.2;have q2:=oh2.2.2.2.2.1;refine Tot.ap fun x2 h3=>?_;have lh3:x2.length=([]:List Zv).length+x1.Mods.length:=by rw [h3,List.length_append]
  try simp only [List.length_cons,List.length_nil,Nat.zero_add] at lh3
  have q3:=O2.2.2.2.2.1.1;refine Tot.ap fun x3 h4=>?_;have lh4:=Zaz h4;have q4:=wr (v4+1);exact tL ⟨rfl,O0,O1,⟨O2.1,O2.2.1,O2.2.2.1,O2.2.2.2.1,SzL.app (k:=560) h4 lo O2.2.2.2.2.1.2 (me1 ⟨oh2.1,oh2.2.1,oh2.2.2.1,oh2.2.2.2.1,SzL.app (k:=176) h3 lo (fun _ h=>by cases h) oh2.2.2.2.2.2⟩),O2.2.2.2.2.2⟩,cl,cl,cl,tk29⟩ (by unfold Zv9 lt6;dsimp only;omega)
 exact tl32
abbrev Zaqt(a0:Zg)(r:Zb):Prop:=(Zw r)/\(r.Abilities.length<=a0.Abilities.length)/\(r=prV a0)
def Zawq(a0:Zg):Zml->Prop
 | .L0 E0 E1 E2 v4=>(E0=a0)/\(Z1 E0)/\(Zw E1)/\(Zw E2)/\(0<=v4)/\(E2.Abilities.length<=v4.toNat)/\(v4.toNat<=E0.Abilities.length)/\(E2={ prV E0 with Abilities:=E0.Abilities.take v4.toNat })
def Zwa:Zml->M6
 | .L0 E0 E1 E2 v4=>(1,((E0.Abilities.length:Int) - v4).toNat,1000000,0,0,0)
theorem Zawr{a0:Zg}(oa0:Z1 a0):Tot (Zanj a0) (Zaqt a0):=by
 apply Tot.rn (Zawq a0) Zwa
 .dsimp only [Zac9,LT.den];refine tB (Zazo) fun x1 h1=>?_;have q1:=oa0.2.1.1;refine Tot.ap fun x2 h2=>?_;have lh2:x2.length=([]:List (List UInt8)).length+a0.Line.Subs.length:=by rw [h2,List.length_append]
  try simp only [List.length_cons,List.length_nil,Nat.zero_add] at lh2
  exact tL ⟨rfl,oa0,⟨SzS.nil,SzL.nil,SzL.nil⟩,⟨oa0.1,SzL.app (k:=16) h2 lo (fun _ h=>by cases h) oa0.2.1.2,SzL.nil⟩,cl,cl,cl,tk17⟩ (by unfold Zwa lt6;dsimp only;omega)
 rintro ⟨E0,E1,E2,v4⟩ ⟨al0,O0,O1,O2,cv4,i0,i1,i2⟩;subst al0;dsimp only [Zy0,Z8p,LT.den];have q1:=O0.2.2.1;apply tD<;>intro h1
 .refine Tot.ix fun x1 h2=>?_;have oh2:Zac x1:=O0.2.2.2 x1 h2.1;have mh2:=h2.2;refine tB (Zawp oh2) fun x2 h3=>?_;have eh3_1:=h3.2;have q2:=O2.2.2.1;refine Tot.ap fun x3 h4=>?_;have lh4:=Zaz h4;have q3:=wr (v4+1);exact tL ⟨rfl,O0,O1,⟨O2.1,O2.2.1,SzL.app (k:=640) h4 lo O2.2.2.2 (me1 h3.1)⟩,cl,cl,cl,tk17⟩ (by unfold Zwa lt6;dsimp only;omega)
 exact tR ⟨O2,cl,tk95⟩
abbrev Z7a(a0:List Zg)(a1:Zc)(r:Zb):Prop:=(Zw r)/\(r.Abilities.length<=8)/\(r=baV a0 a1)
def Zup(a0:List Zg)(a1:Zc):Zvs->Prop
 | .L0 v0 E0 E1 v5=>(v0=a0)/\(E0=a1)/\((SzL 176 Z1) v0)/\(Zw E1)/\(∀ c,c∈v0->c.Abilities.length<=8)/\(v5=if E0.Copy < 0 then E0.Card else E0.Copy)
 | .L1 E0 E1 E2=>(E0=a1)/\(Zw E1)/\(Zw E2)/\(E2.Abilities.length<=8)/\(E2=Z2q a0 (if E0.Copy < 0 then E0.Card else E0.Copy))
def Zajo:Zvs->M6
 | .L0 v0 E0 E1 v5=>(0,0,0,0,0,0)
 | .L1 E0 E1 E2=>(0,0,0,0,0,0)
theorem Zz3{a0:List Zg}{a1:Zc}{E0:Zc}{E1:Zb}{E2:Zb}(h:(Zup a0 a1) (.L1 E0 E1 E2)):Tot (Zsl E0 E1 E2).den (Nx (Zup a0 a1) Zajo (0,0,0,0,0,0) (Z7a a0 a1)):=by
 obtain⟨al0,O1,O2,i0,i1⟩:=h;subst al0;dsimp only [Zsl,LT.den];apply tE<;>intro h1
 .exact Zbfr
 apply tE<;>intro h2
 .exact Zbfr
 exact Zbfr
theorem Zaeb{a0:List Zg}{a1:Zc}{v0:List Zg}{E0:Zc}{E1:Zb}{v5:Int}(h:(Zup a0 a1) (.L0 v0 E0 E1 v5)):Tot (Zx2 v0 E0 E1 v5).den (Nx (Zup a0 a1) Zajo (0,0,0,0,0,0) (Z7a a0 a1)):=by
 obtain⟨al0,al1,ov0,O1,i0,i1⟩:=h;subst al0;subst al1;dsimp only [Zx2,LT.den];apply tD<;>intro h1
 .apply tD<;>intro h2
  .refine Tot.ix fun x1 h3=>?_;have oh3:Z1 x1:=ov0.2 x1 h3.1;have mh3:=h3.2;have nh3:=i0 x1 h3.1;refine tB (Zawr oh3) fun x2 h4=>?_;have eh4_2:=h4.2.2;exact tJ (Zz3 ⟨rfl,O1,h4.1,cl,tk27⟩)
  exact Zbod
 exact Zbod
theorem Zuq{a0:List Zg}{a1:Zc}(oa0:(SzL 176 Z1) a0)(h0:∀ c,c∈a0->c.Abilities.length<=8):Tot (Za8d a0 a1) (Z7a a0 a1):=by
 apply Tot.rn (Zup a0 a1) Zajo
 .dsimp only [Za8b,LT.den];apply tD<;>intro h1
  .exact tl81
  exact tl81
 intro s hs;cases s with
 | L0 _ _ _ _=>exact Zaeb hs
 | L1 _ _ _=>exact Zz3 hs
def Zazp(a0:List Zg)(a1:Za):Zjb->Prop
 | .L0 v0 E0 v5 v6=>(E0=a1)/\((SzL 176 Z1) v0)/\(Zl E0)/\((SzL 224 Zau) v5)/\(0<=v6)/\(∀ c,c∈v0->c.Abilities.length<=8)/\(E0.Objects.length<=60)/\(E0.Conts.length<=8)/\(v5.length<=8*v6.toNat)/\(v6.toNat<=E0.Objects.length)
 | .L1 v0 E0 v5 v6 E1 E2 v9=>(E0=a1)/\((SzL 176 Z1) v0)/\(Zl E0)/\((SzL 224 Zau) v5)/\(Zw E2)/\(0<=v9)/\(0<=v6)/\(v6 < (E0.Objects.length:Int))/\(∀ c,c∈v0->c.Abilities.length<=8)/\(E0.Objects.length<=60)/\(E0.Conts.length<=8)/\(E2.Abilities.length<=8)/\(v5.length<=8*v6.toNat+v9.toNat)/\(v9.toNat<=E2.Abilities.length)
 | .L2 E0 v5 v11=>(E0=a1)/\(Zl E0)/\((SzL 224 Zau) v5)/\(0<=v11)/\(E0.Conts.length<=8)/\(v5.length<=480+v11.toNat)/\(v11.toNat<=E0.Conts.length)
def Zaec:Zjb->M6
 | .L0 v0 E0 v5 v6=>(3,((E0.Objects.length:Int) - v6).toNat,1000000,0,0,0)
 | .L1 v0 E0 v5 v6 E1 E2 v9=>(3,((E0.Objects.length:Int) - v6).toNat,1,((E2.Abilities.length:Int) - v9).toNat,1000000,0)
 | .L2 E0 v5 v11=>(1,((E0.Conts.length:Int) - v11).toNat,1000000,0,0,0)
theorem Zazq{a0:List Zg}{a1:Za}(oa0:(SzL 176 Z1) a0)(oa1:Zl a1)(h0:∀ c,c∈a0->c.Abilities.length<=8)(h1:a1.Objects.length<=60)(h2:a1.Conts.length<=8):Tot (Zaa6 a0 a1) (fun r=>((SzL 224 Zau) r)/\(r.length<=10000)):=by
 apply Tot.rn (Zazp a0 a1) Zaec
 .dsimp only [Zahj,LT.den];exact tL ⟨rfl,oa0,oa1,SzL.nil,cl,Zaj,cs⟩ Zabq
 intro s hs;cases s with
 | L0 v0 E0 v5 v6=>
  obtain⟨al0,ov0,O0,ov5,cv6,i0,i1,i2,i3,i4⟩:=hs;have lb_v5:=ov5.1;subst al0;dsimp only [Zor,Zada,LT.den];apply tD<;>intro h1
  .refine Tot.ix fun x1 h2=>?_;apply tN<;>intro h3
   .exact tl97
   refine tB (Zuq ov0 Zaj) fun x2 h4=>?_;have eh4_1:=h4.2.1;exact tL ⟨rfl,ov0,O0,ov5,h4.1,cl,cl,cl,Zaj,cs⟩ Zabq
  exact tL ⟨rfl,O0,ov5,cs⟩ Zabq
 | L1 v0 E0 v5 v6 E1 E2 v9=>
  obtain⟨al0,ov0,O0,ov5,O2,cv9,cv6,bd7,i0,i1,i2,i3,i4,i5⟩:=hs;have lb_v5:=ov5.1;subst al0;dsimp only [Zor,Zadb,LT.den];have lx_0:E0.Objects.length*128<=140737488351232:=O0.2.1.1;apply tD<;>intro h1
  .refine Tot.ix fun x1 h2=>?_;have oh2:Zac x1:=O2.2.2.2 x1 h2.1;apply tE<;>intro h3
   .have q1:=ov5.1;refine Tot.ap fun x2 h4=>?_;have lh4:=Zaz h4;have q2:=wr (v9+1);exact tL ⟨rfl,ov0,O0,SzL.app (k:=224) h4 lo ov5.2 (me1 ⟨SzL.nil,oh2.1,oh2.2.1⟩),O2,cl,cl,cl,Zaj,cs⟩ Zabq
   have q1:=wr (v9+1);exact tL ⟨rfl,ov0,O0,ov5,O2,cl,cl,cl,Zaj,cs⟩ Zabq
  exact tl97
 | L2 E0 v5 v11=>
  obtain⟨al0,O0,ov5,cv11,i0,i1,i2⟩:=hs;have lb_v5:=ov5.1;subst al0;dsimp only [Zor,Zadc,LT.den];apply tD<;>intro h1
  .refine Tot.ix fun x1 h2=>?_;have oh2:Zdp x1:=O0.2.2.2.2.2.2.1.2 x1 h2.1;refine Tot.ap fun x2 h3=>?_;have lh3:=Zaz h3;have q1:=wr (v11+1);exact tL ⟨rfl,O0,SzL.app (k:=224) h3 lo ov5.2 (me1 ⟨oh2.1,SzS.nil,oh2.2⟩),cs⟩ Zabq
  exact tR ⟨ov5,cl⟩
abbrev Zazr(a0:List Zg)(a1:Za)(r:Zk):Prop:=(Zab r)/\(r.S.Objects.length=a1.Objects.length)/\(r.L.length<=10000)/\(r.All.length=r.S.Objects.length)/\(r.Blank.length=r.S.Objects.length)/\(r.Begun.length=r.L.length)/\(r.Sets.length=r.L.length)/\(Zbc r.All)
def Za3q(a0:List Zg)(a1:Za):Zqn->Prop
 | .L0 v0 E0 E1 E2 v6=>(E0=a1)/\((SzL 176 Z1) v0)/\(Zl E0)/\(Zab E1)/\(Zab E2)/\(0<=v6)/\(∀ c,c∈v0->c.Abilities.length<=8)/\(E2.S.Objects.length=E0.Objects.length)/\(E2.L.length<=10000)/\(E2.All.length=v6.toNat)/\(v6.toNat<=E0.Objects.length)/\(E0.Objects.length<=60)/\(Zdq v0)/\(Zbc E2.All)
def Z27:Zqn->M6
 | .L0 v0 E0 E1 E2 v6=>(1,((E0.Objects.length:Int) - v6).toNat,1000000,0,0,0)
theorem Za3r{a0:List Zg}{a1:Za}(oa0:(SzL 176 Z1) a0)(oa1:Zl a1)(h0:∀ c,c∈a0->c.Abilities.length<=8)(h1:a1.Objects.length<=60)(h2:a1.Conts.length<=8)(h3:Zdq a0):Tot (Za1e a0 a1) (Zazr a0 a1):=by
 apply Tot.rn (Za3q a0 a1) Z27
 .dsimp only [Zank,LT.den];refine tB (Zazq oa0 oa1 Zaj cl cl) fun x1 h1=>?_;have eh1_1:=h1.2;exact tL ⟨rfl,oa0,oa1,⟨⟨SzL.nil,SzL.nil,SzL.nil,SzL.nil,SzL.nil,SzL.nil,SzL.nil,SzL.nil⟩,SzL.nil,SzL.nil,SzL.nil,SzL.nil,SzL.nil⟩,⟨oa1,SzL.nil,h1.1,SzL.nil,SzL.nil,SzL.nil⟩,cl,Zaj,cl,cl,cl,cl,cl,‹_›,tk42⟩ (by unfold Z27 lt6;dsimp only;omega)
 rintro ⟨v0,E0,E1,E2,v6⟩ ⟨al0,ov0,O0,O1,O2,cv6,i0,i1,i2,i3,i4,i5,i6,i7⟩;subst al0;dsimp only [Z6f,Zahk,LT.den];apply tD<;>intro h1
 .refine Tot.ix fun x1 h2=>tB (Zuq ov0 Zaj) fun x2 h3=>?_;have eh3_2:=h3.2.2;have q1:=O2.2.1.1;refine Tot.ap fun x3 h4=>?_;have lh4:=Zaz h4;have q2:=wr (v6+1);exact tL ⟨rfl,ov0,O0,O1,⟨O2.1,SzL.app (k:=176) h4 lo O2.2.1.2 (me1 h3.1),O2.2.2.1,O2.2.2.2.1,O2.2.2.2.2.1,O2.2.2.2.2.2⟩,cl,Zaj,cl,cl,cl,cl,cl,‹_›,tk42⟩ (by unfold Z27 lt6;dsimp only;omega)
 exact tB (Tot.mk) fun x1 h2=>tB (Tot.mk) fun x2 h3=>tB (Tot.mk) fun x3 h4=>tR ⟨⟨O2.1,O2.2.1,O2.2.2.1,SzL.tr,⟨lo,fun e he=>by rw [h3.2 e he];exact SzL.nil⟩,SzL.tr⟩,cl,cl,cl,cl,cl,cl,Zec⟩
theorem Zeo{a0:Int}:Tot (Z40 a0) (fun r=>(r=clV a0)):=by
 apply tZ;dsimp only [Z6g,LT.den];apply tD<;>intro h1
 .exact tl8
 apply tD<;>intro h2
 .exact tl8
 exact tl8
theorem Zao0{a0:Int}{a1:Int}:Tot (Zbc1 a0 a1) (fun r=>(r=suV a0 a1)):=by
 apply tZ;dsimp only [Za1f,LT.den];exact tB (Zeo) fun x1 h1=>tB (Zeo) fun x2 h2=>tB (Zeo) fun x3 h3=>tR (by unfold suV;grind)
theorem Za3s{a0:A3 Int}:Tot (Za1h a0) (fun r=>True):=by
 apply tZ;dsimp only [Zanm,LT.den];exact tB (tI (by omega) Zaky) fun x1 h1=>tB (tI (by omega) Zaky) fun x2 h2=>tB (Zao0) fun x3 h3=>tR trivial
theorem Znd{a0:Int}{a1:Int}:Tot (Zakt a0 a1) (fun r=>(r=adV a0 a1)):=by
 apply tZ;dsimp only [Zahl,LT.den];exact tB (Zeo) fun x1 h1=>tB (Zeo) fun x2 h2=>tB (Zeo) fun x3 h3=>tR (by unfold adV;grind)
abbrev Zaqu(a0:Zk)(r:Zk):Prop:=(Zab r)/\(r.S.Objects.length=a0.S.Objects.length)/\(r.L.length=a0.L.length)/\(r.All.length=r.S.Objects.length)/\(r.Blank.length=r.S.Objects.length)/\(r.Begun.length=r.L.length)/\(r.Sets.length=r.L.length)/\(Zbc r.All)
def Zaws(a0:Zk):Zmm->Prop
 | .L0 E0 E1 E2 v4=>(E0=a0)/\(Zab E0)/\(Zab E1)/\(Zab E2)/\(0<=v4)/\(E2.S.Objects.length=E0.S.Objects.length)/\(E2.L.length=E0.L.length)/\(E2.Begun.length=E0.Begun.length)/\(E2.Sets.length=E0.Sets.length)/\(E2.Blank.length=E0.Blank.length)/\(E2.All.length=v4.toNat)/\(v4.toNat<=E0.All.length)/\(E0.All.length=E0.S.Objects.length)/\(E0.Blank.length=E0.S.Objects.length)/\(E0.Begun.length=E0.L.length)/\(E0.Sets.length=E0.L.length)/\(E0.S.Objects.length<=60)/\(E0.L.length<=10000)/\(Zbc E0.All)/\(Zbc E2.All)
def Z9p:Zmm->M6
 | .L0 E0 E1 E2 v4=>(1,((E0.All.length:Int) - v4).toNat,1000000,0,0,0)
theorem Zawt{a0:Zk}(oa0:Zab a0)(h0:a0.All.length=a0.S.Objects.length)(h1:a0.Blank.length=a0.S.Objects.length)(h2:a0.Begun.length=a0.L.length)(h3:a0.Sets.length=a0.L.length)(h4:a0.S.Objects.length<=60)(h5:a0.L.length<=10000)(h6:Zbc a0.All):Tot (Zano a0) (Zaqu a0):=by
 apply Tot.rn (Zaws a0) Z9p
 .dsimp only [Zadd,LT.den];exact tL ⟨rfl,oa0,⟨⟨SzL.nil,SzL.nil,SzL.nil,SzL.nil,SzL.nil,SzL.nil,SzL.nil,SzL.nil⟩,SzL.nil,SzL.nil,SzL.nil,SzL.nil,SzL.nil⟩,⟨oa0.1,SzL.nil,oa0.2.2.1,oa0.2.2.2.1,oa0.2.2.2.2.1,oa0.2.2.2.2.2⟩,cl,cl,cl,cl,cl,cl,cl,cl,cl,cl,cl,cl,cl,cl,Zec,tk63⟩ Za4y
 rintro ⟨E0,E1,E2,v4⟩ ⟨al0,O0,O1,O2,cv4,i0,i1,i2,i3,i4,i5,i6,i7,i8,i9,i10,i11,i12,i13,i14⟩;subst al0;dsimp only [Zy1,Z8q,LT.den];apply tD<;>intro h1
 .refine Tot.ix fun x1 h2=>?_;have oh2:Zw x1:=O0.2.1.2 x1 h2.1;have kh2:Zk3 x1:=(by assumption:Zbc E0.All) _ h2.1;refine Tot.ix fun x2 h3=>?_;apply tE<;>intro h4
  .apply tE<;>intro h5
   .refine tB (Za3s) fun x3 h6=>tB (Znd) fun x4 h7=>tB (Znd) fun x5 h8=>?_;have q1:=O2.2.1.1;refine Tot.ap fun x6 h9=>?_;have lh9:=Zaz h9;have q2:=wr (v4+1);exact tL ⟨rfl,O0,O1,⟨O2.1,SzL.app (k:=176) h9 lo O2.2.1.2 (me1 ⟨oh2.1,oh2.2.1,oh2.2.2⟩),O2.2.2.1,O2.2.2.2.1,O2.2.2.2.2.1,O2.2.2.2.2.2⟩,cl,cl,cl,cl,cl,cl,cl,cl,cl,cl,cl,cl,cl,cl,Zec,tk63⟩ Za4y
   have q1:=O2.2.1.1;refine Tot.ap fun x3 h6=>?_;have lh6:=Zaz h6;have q2:=wr (v4+1);exact tL ⟨rfl,O0,O1,⟨O2.1,SzL.app (k:=176) h6 lo O2.2.1.2 (me1 oh2),O2.2.2.1,O2.2.2.2.1,O2.2.2.2.2.1,O2.2.2.2.2.2⟩,cl,cl,cl,cl,cl,cl,cl,cl,cl,cl,cl,cl,cl,cl,Zec,tk63⟩ Za4y
  have q1:=O2.2.1.1;refine Tot.ap fun x3 h5=>?_;have lh5:=Zaz h5;have q2:=wr (v4+1);exact tL ⟨rfl,O0,O1,⟨O2.1,SzL.app (k:=176) h5 lo O2.2.1.2 (me1 oh2),O2.2.2.1,O2.2.2.2.1,O2.2.2.2.2.1,O2.2.2.2.2.2⟩,cl,cl,cl,cl,cl,cl,cl,cl,cl,cl,cl,cl,cl,cl,Zec,tk63⟩ Za4y
 exact tl53
def Zre:Zkb->Prop
 | .L0 v3 v6=>True
 | .L1 v3 v11=>True
 | .L2 v3 v14=>True
def Zur:Zkb->M6
 | .L0 v3 v6=>(0,0,0,0,0,0)
 | .L1 v3 v11=>(0,0,0,0,0,0)
 | .L2 v3 v14=>(0,0,0,0,0,0)
theorem Z28{v3:Int}{v14:Bool}(h:True):Tot (Zkv v3 v14).den (Nx Zre Zur (0,0,0,0,0,0) (fun r=>True)):=by
 dsimp only [Zkv,LT.den];apply tF<;>intro h1
 .exact tR trivial
 exact Zbn6
theorem Zrz{v3:Int}{v11:Bool}(h:True):Tot (Zos v3 v11).den (Nx Zre Zur (0,0,0,0,0,0) (fun r=>True)):=by
 dsimp only [Zos,LT.den];apply tF<;>intro h1
 .exact tR trivial
 apply tE<;>intro h2
 .exact tl5
 apply tE<;>intro h3
 .exact tl5
 exact tl5
theorem Z29{v3:Int}{v6:Bool}(h:True):Tot (Zjc v3 v6).den (Nx Zre Zur (0,0,0,0,0,0) (fun r=>True)):=by
 dsimp only [Zjc,LT.den];apply tF<;>intro h1
 .exact tR trivial
 apply tE<;>intro h2
 .exact tJ (Zrz trivial)
 exact tJ (Zrz trivial)
theorem Zazs{a0:Int}:Tot (Zdm a0) (fun r=>True):=by
 apply Tot.rn Zre Zur
 .dsimp only [Zanp,LT.den];apply tE<;>intro h1
  .exact tR trivial
  apply tE<;>intro h2
  .exact tl4
  apply tE<;>intro h3
  .exact tl4
  apply tE<;>intro h4
  .exact tl4
  exact tl4
 intro s hs;cases s with
 | L0 _ _=>exact Z29 hs
 | L1 _ _=>exact Zrz hs
 | L2 _ _=>exact Z28 hs
theorem Zrf{a0:Int}:Tot (Zdm a0) (fun r=>r=(Zdm a0).getD 0):=(Tot.we (Zazs)).mono fun r h=>by rw [h.2];rfl
def Zawu:Zmn->Prop
 | .L0 v1 E0 v5=>(Zau E0)/\(0<=v5)
def Zwb:Zmn->M6
 | .L0 v1 E0 v5=>(1,((E0.Mods.length:Int) - v5).toNat,1000000,0,0,0)
theorem Zawv{a0:Z8}{a1:Int}(oa0:Zau a0):Tot (Zanr a0 a1) (fun r=>True):=by
 apply Tot.rn Zawu Zwb
 .dsimp only [Zade,LT.den];exact tL ⟨oa0,cl⟩ (by unfold Zwb lt6;dsimp only;omega)
 rintro ⟨v1,E0,v5⟩ ⟨O0,cv5⟩;dsimp only [Zy2,Z8r,LT.den];have q1:=O0.2.2.1;apply tD<;>intro h1
 .refine Tot.ix fun x1 h2=>tB (Zrf) fun x2 h3=>?_;apply tE<;>intro h4
  .exact tR trivial
  have q2:=wr (v5+1);exact tL ⟨O0,cl⟩ (by unfold Zwb lt6;dsimp only;omega)
 exact tR trivial
def Za3t(a0:Za)(a1:Int):Zqo->Prop
 | .L0 v1 E0 v5=>(E0=a0)/\(Zl E0)/\(0<=v5)
def Z3a:Zqo->M6
 | .L0 v1 E0 v5=>(1,((E0.Objects.length:Int) - v5).toNat,1000000,0,0,0)
theorem Zaed{a0:Za}{a1:Int}(oa0:Zl a0):Tot (Za1j a0 a1) (fun r=>(-1<=r)/\(r < a0.Objects.length)):=by
 apply Tot.rn (Za3t a0 a1) Z3a
 .dsimp only [Zans,LT.den];exact tL ⟨rfl,oa0,cl⟩ (by unfold Z3a lt6;dsimp only;omega)
 rintro ⟨v1,E0,v5⟩ ⟨al0,O0,cv5⟩;subst al0;dsimp only [Z6h,Zahm,LT.den];have q1:=O0.2.1.1;apply tD<;>intro h1
 .refine Tot.ix fun x1 h2=>?_;apply tE<;>intro h3
  .exact tR ⟨cl,cl⟩
  have q2:=wr (v5+1);exact tL ⟨rfl,O0,cl⟩ (by unfold Z3a lt6;dsimp only;omega)
 exact tR ⟨cl,cl⟩
theorem Zpm{a0:Zk}{a1:Int}(oa0:Zab a0)(h0:a0.All.length=a0.S.Objects.length)(h1:a0.Blank.length=a0.S.Objects.length)(h2:a0.Begun.length=a0.L.length)(h3:a0.Sets.length=a0.L.length)(h4:a0.S.Objects.length<=60)(h5:a0.L.length<=10000)(h6:0<=a1)(h7:a1 < a0.L.length):Tot (Zaut a0 a1) (fun r=>True):=by
 apply tZ;dsimp only [Zaho,LT.den];refine Tot.ix fun x1 h1=>?_;apply tF<;>intro h2
 .exact tR trivial
 refine Tot.ix fun x2 h3=>?_;apply tF<;>intro h4
 .exact tR trivial
 refine tB (Zaed oa0.1) fun x3 h5=>?_;apply tD<;>intro h6
 .exact tR trivial
 exact Tot.ix fun x4 h7=>tR trivial
def Za3u(a0:List Int)(a1:Int):Zqp->Prop
 | .L0 v0 v1 v5=>(v0=a0)/\(v1=a1)/\((SzL 8 (fun _=>True)) v0)/\(0<=v5)/\(∀ (k:Nat) x,(k:Int) < v5->v0[k]?=some x->x≠v1)
def Z3b:Zqp->M6
 | .L0 v0 v1 v5=>(1,((v0.length:Int) - v5).toNat,1000000,0,0,0)
theorem Za3v{a0:List Int}{a1:Int}(oa0:(SzL 8 (fun _=>True)) a0):Tot (Za1k a0 a1) (fun r=>(0<=r↔a1∈a0)):=by
 apply Tot.rn (Za3u a0 a1) Z3b
 .dsimp only [Zant,LT.den];exact tL ⟨rfl,rfl,oa0,cl,tk53⟩ (by unfold Z3b lt6;dsimp only;omega)
 rintro ⟨v0,v1,v5⟩ ⟨al0,al1,ov0,cv5,i0⟩;have lb_v0:=ov0.1;subst al0;subst al1;dsimp only [Z6i,Zahq,LT.den];apply tD<;>intro h1
 .refine Tot.ix fun x1 h2=>?_;have mh2:=h2.2;apply tE<;>intro h3
  .exact tl11
  have q1:=wr (v5+1);exact tL ⟨rfl,rfl,ov0,cl,tk53⟩ (by unfold Z3b lt6;dsimp only;omega)
 exact tl11
theorem Zao1{a0:List Int}{a1:Int}(oa0:(SzL 8 (fun _=>True)) a0):Tot (Zbc2 a0 a1) (fun r=>(r=true↔a1∈a0)):=by
 apply tZ;dsimp only [Za1l,LT.den];exact tB (Za3v oa0) fun x1 h1=>tR (by grind)
theorem Zwv{a0:Zk}{a1:Int}(oa0:Zab a0)(h0:a0.All.length=a0.S.Objects.length)(h1:a0.Blank.length=a0.S.Objects.length)(h2:a0.Begun.length=a0.L.length)(h3:a0.Sets.length=a0.L.length)(h4:a0.S.Objects.length<=60)(h5:a0.L.length<=10000)(h6:0<=a1)(h7:a1 < a0.L.length):Tot (Zbc3 a0 a1) (fun r=>True):=by
 apply tZ;dsimp only [Za1n,LT.den];refine Tot.ix fun x1 h1=>tB (Zaed oa0.1) fun x2 h2=>?_;apply tF<;>intro h3
 .exact tR trivial
 apply tD<;>intro h4
 .exact tR trivial
 exact Tot.ix fun x3 h5=>tR trivial
theorem Zazt{a0:Zaf}{a1:List UInt8}(oa0:Zer a0)(oa1:SzT a1):Tot (Z0r a0 a1) (fun r=>True):=by
 apply tZ;dsimp only [Z2a,LT.den];exact tB (Zzh oa0 oa1) fun x1 h1=>tR trivial
theorem Zbb5{a0:Int}{a1:Int}:Tot (Zaku a0 a1) (fun r=>(r=muV a0 a1)):=by
 apply tZ;dsimp only [Zaht,LT.den];exact tB (Zeo) fun x1 h1=>tB (Zeo) fun x2 h2=>tB (Zeo) fun x3 h3=>tR (by unfold muV;grind)
theorem Zpn(a0:Zc)(a1:Zb)(a2 a3:Int)(a4:Zm)(oa1:Zw a1)(oa4:Za1 a4):Tot (Z0s a0 a1 a2 a3 a4) (fun r=>r=Zrw a0 a1 a2 a3 a4):=⟨_,Zai1 a0 a1 a2 a3 a4 (Zbdj oa1),rfl⟩
def Zaww:Zmr->Prop
 | .L0 v1 E0 v5 E1 v7=>(Zab E0)/\((SzL 8 (fun _=>True)) v5)/\(Zau E1)/\(0<=v7)/\(E0.All.length=E0.S.Objects.length)/\(E0.Blank.length=E0.S.Objects.length)/\(E0.Begun.length=E0.L.length)/\(E0.Sets.length=E0.L.length)/\(E0.S.Objects.length<=60)/\(E0.L.length<=10000)/\(0<=v1)/\(v1 < E0.L.length)/\(v5.length<=v7.toNat)/\(v7.toNat<=E0.S.Objects.length)
def Z9q:Zmr->M6
 | .L0 v1 E0 v5 E1 v7=>(1,((E0.S.Objects.length:Int) - v7).toNat,1000000,0,0,0)
theorem Zus{a0:Zk}{a1:Int}(oa0:Zab a0)(h0:a0.All.length=a0.S.Objects.length)(h1:a0.Blank.length=a0.S.Objects.length)(h2:a0.Begun.length=a0.L.length)(h3:a0.Sets.length=a0.L.length)(h4:a0.S.Objects.length<=60)(h5:a0.L.length<=10000)(h6:0<=a1)(h7:a1 < a0.L.length):Tot (Zanx a0 a1) (fun r=>((SzL 8 (fun _=>True)) r)):=by
 apply Tot.rn Zaww Z9q
 .dsimp only [Zadi,LT.den];refine Tot.ix fun x1 h1=>?_;apply tF<;>intro h2
  .refine Tot.ix fun x2 h3=>?_;have oh3:(SzL 8 (fun _=>True)) x2:=oa0.2.2.2.2.1.2 x2 h3.1;exact tR oh3
  refine tB (Zpm oa0 cl cl cl cl cl cl cl cl) fun x2 h3=>?_;apply tO<;>intro h4
  .exact tR SzL.nil
  refine Tot.ix fun x3 h5=>?_;have oh5:Zau x3:=oa0.2.2.1.2 x3 h5.1;exact tL ⟨oa0,SzL.nil,oh5,cs⟩ Zbgg
 rintro ⟨v1,E0,v5,E1,v7⟩ ⟨O0,ov5,O1,cv7,i0,i1,i2,i3,i4,i5,i6,i7,i8,i9⟩;have lb_v5:=ov5.1;dsimp only [Zy3,Z8s,LT.den];apply tD<;>intro h1
 .refine Tot.ix fun x1 h2=>?_;apply tN<;>intro h3
  .exact tl78
  apply tF<;>intro h4
  .refine tB (Zao1 O1.1) fun x2 h5=>?_;apply tF<;>intro h6
   .refine Tot.ap fun x3 h7=>?_;have lh7:=Zaz h7;exact tl80
   apply tO<;>intro h7
   .refine Tot.ix fun x3 h8=>?_;have oh8:Zw x3:=O0.2.1.2 x3 h8.1;refine tB (Zwv O0 cl cl cl cl cl cl cl cl) fun x4 h9=>tB (Zpn x1 x3 x4 E1.Source E1.Filter oh8 O1.2.1) fun x5 h10=>?_;apply tF<;>intro h11
    .refine Tot.ap fun x6 h12=>?_;have lh12:=Zaz h12;exact tl80
    exact tl78
   exact tl78
  apply tO<;>intro h5
  .refine Tot.ix fun x2 h6=>?_;have oh6:Zw x2:=O0.2.1.2 x2 h6.1;refine tB (Zwv O0 cl cl cl cl cl cl cl cl) fun x3 h7=>tB (Zpn x1 x2 x3 E1.Source E1.Filter oh6 O1.2.1) fun x4 h8=>?_;apply tF<;>intro h9
   .refine Tot.ap fun x5 h10=>?_;have lh10:=Zaz h10;exact tl80
   exact tl78
  exact tl78
 exact tR ov5
theorem Zbqd{x:Zb}(h:Zw x):x.Line.Subs.length<=4611686018427387904:=by
 have:x.Line.Subs.length*16<=140737488351232:=h.2.1.1;omega
theorem Zbmz{s:Za}{all:List Zb}{you src:Int}{f:Zm}(h:Zl s):SzL 8 (fun _=>True) (Za4n s all you src f):=by
 have h1:s.Objects.length*128<=140737488351232:=h.2.1.1;have h2:(Za4n s all you src f).length<=s.Objects.length:=Za54 ..;exact⟨by omega,fun _ _=>trivial⟩
theorem Zbae(a0:Za)(a1:List Zb)(a2 a3:Int)(a4:Zm)(oa0:Zl a0)(oa1:(SzL 176 Zw) a1)(oa4:Za1 a4):Tot (Z2e a0 a1 a2 a3 a4) (fun r=>((SzL 8 (fun _=>True)) r)/\(r=Za4n a0 a1 a2 a3 a4)):=
 ⟨_,Zbbw a0 a1 a2 a3 a4 oa0.2.1.1 fun t ht=>Zbqd (oa1.2 t ht),Zbmz oa0,rfl⟩
abbrev Zaqv(a0:Zk)(a1:Int)(a2:Int)(r:List Int):Prop:=((SzL 8 (fun _=>True)) r)/\(∀ f,a0.L[a1.toNat]?=some f->r.length=(f.Mods.filter fun m=>(Zdm m.Kind).getD 0==a2).length)
def Zawx(a0:Zk)(a1:Int)(a2:Int):Zms->Prop
 | .L0 v1 v2 E0 v7 E1 v9=>(E0=a0)/\(v1=a1)/\(v2=a2)/\(Zab E0)/\((SzL 8 (fun _=>True)) v7)/\(Zau E1)/\(0<=v9)/\(E0.All.length=E0.S.Objects.length)/\(E0.Blank.length=E0.S.Objects.length)/\(E0.Begun.length=E0.L.length)/\(E0.Sets.length=E0.L.length)/\(E0.S.Objects.length<=60)/\(E0.L.length<=10000)/\(0<=v1)/\(v1 < E0.L.length)/\(v7.length<=v9.toNat)/\(v9.toNat<=E1.Mods.length)/\(E0.L[v1.toNat]?=some E1)/\(v7.length=cnt (fun m=>(Zdm m.Kind).getD 0==v2) E1.Mods v9)
def Z9r:Zms->M6
 | .L0 v1 v2 E0 v7 E1 v9=>(1,((E1.Mods.length:Int) - v9).toNat,1000000,0,0,0)
theorem Zut{a0:Zk}{a1:Int}{a2:Int}(oa0:Zab a0)(h0:a0.All.length=a0.S.Objects.length)(h1:a0.Blank.length=a0.S.Objects.length)(h2:a0.Begun.length=a0.L.length)(h3:a0.Sets.length=a0.L.length)(h4:a0.S.Objects.length<=60)(h5:a0.L.length<=10000)(h6:0<=a1)(h7:a1 < a0.L.length):Tot (Z6l a0 a1 a2) (Zaqv a0 a1 a2):=by
 apply Tot.rn (Zawx a0 a1 a2) Z9r
 .dsimp only [Zadj,LT.den];refine Tot.ix fun x1 h1=>?_;have oh1:Zau x1:=oa0.2.2.1.2 x1 h1.1;have mh1:=h1.2;exact tL ⟨rfl,rfl,rfl,oa0,SzL.nil,oh1,cl,cl,cl,cl,cl,cl,cl,cl,cl,cl,cl,‹_›,tk24⟩ Zbgh
 rintro ⟨v1,v2,E0,v7,E1,v9⟩ ⟨al0,al1,al2,O0,ov7,O1,cv9,i0,i1,i2,i3,i4,i5,i6,i7,i8,i9,i10,i11⟩;have lb_v7:=ov7.1;subst al0;subst al1;subst al2;dsimp only [Zy4,Z8t,LT.den];have q1:=O1.2.2.1;apply tD<;>intro h1
 .refine Tot.ix fun x1 h2=>?_;have oh2:Zax x1:=O1.2.2.2 x1 h2.1;have mh2:=h2.2;refine tB (Zrf) fun x2 h3=>?_;apply tN<;>intro h4
  .have q2:=wr (v9+1);exact tL ⟨rfl,rfl,rfl,O0,ov7,O1,cl,cl,cl,cl,cl,cl,cl,cl,cl,cl,cl,‹_›,tk24⟩ Zbgh
  apply tE<;>intro h5
  .refine tB (Zwv O0 cl cl cl cl cl cl cl cl) fun x3 h6=>tB (Zbae E0.S E0.All x3 E1.Source x1.Filter O0.1 O0.2.1 oh2.2) fun x4 h7=>Tot.ap fun x5 h8=>?_;have lh8:=Zaz h8;exact Zboj
  refine Tot.ap fun x3 h6=>?_;have lh6:=Zaz h6;exact Zboj
 exact tR ⟨ov7,(by intro f hf;cases hf.symm.trans (by assumption:_=some E1);rw [<- Zbpn (v:=v9) (by omega)];assumption)⟩
def Zwc:Zkw->Prop
 | .L0 v1 E0 E1 v5 v6=>(SzT v1)/\(Zer E0)/\(Zer E1)/\((SzL 16 SzT) v5)/\(0<=v6)/\(v6.toNat<=v5.length)/\(v5.length<=4)
 | .L1 v1 E0 E1 v5 v6=>(SzT v1)/\(Zer E0)/\(Zer E1)/\((SzL 16 SzT) v5)/\(0<=v6)/\(v6.toNat<=v5.length)/\(v5.length<=4)
def Zm2:Zkw->M6
 | .L0 v1 E0 E1 v5 v6=>(1,((v5.length:Int) - v6).toNat,1000000,0,0,0)
 | .L1 v1 E0 E1 v5 v6=>(0,0,0,0,0,0)
theorem Z0k{v1:List UInt8}{E0:Zaf}{E1:Zaf}{v5:List (List UInt8)}{v6:Int}(h:Zwc (.L1 v1 E0 E1 v5 v6)):Tot (Zmt v1 E0 E1 v5 v6).den (Nx Zwc Zm2 (0,0,0,0,0,0) (fun r=>(Zer r))):=by
 obtain⟨ov1,O0,O1,ov5,i0,i1,i2⟩:=h;dsimp only [Zmt,LT.den];refine tB (Tot.slice (by omega) (by omega) (by omega)) fun x1 h1=>?_;have q1:x1.length*16<=140737488351232:=(show SzL 16 SzT x1 from ⟨lo,fun e he=>ov5.2 e (h1.2.1 e he)⟩).1;refine Tot.ap fun x2 h2=>?_;have lh2:x2.length=([]:List (List UInt8)).length+x1.length:=by rw [h2,List.length_append]
 try simp only [List.length_cons,List.length_nil,Nat.zero_add] at lh2
 have q2:=(SzL.app (k:=16) h2 lo (fun _ h=>by cases h) (show SzL 1 SzT _ from ⟨lo,fun e he=>ov5.2 e (h1.2.1 e he)⟩).2).1;refine Tot.ap fun x3 h3=>?_;have lh3:=Zaz h3;refine tB (Tot.slice (by omega) (by omega) (by omega)) fun x4 h4=>?_;have q3:=(SzL.app (k:=16) h3 lo (SzL.app (k:=16) h2 lo (fun _ h=>by cases h) (show SzL 1 SzT _ from ⟨lo,fun e he=>ov5.2 e (h1.2.1 e he)⟩).2).2 (me1 ov1)).1;have q4:x4.length*16<=140737488351232:=(show SzL 16 SzT x4 from ⟨lo,fun e he=>ov5.2 e (h4.2.1 e he)⟩).1;refine Tot.ap fun x5 h5=>?_;have lh5:x5.length=x3.length+x4.length:=by rw [h5,List.length_append]
 try simp only [List.length_cons,List.length_nil,Nat.zero_add] at lh5
 exact tR (SzL.app (k:=16) h5 lo (SzL.app (k:=16) h3 lo (SzL.app (k:=16) h2 lo (fun _ h=>by cases h) (show SzL 1 SzT _ from ⟨lo,fun e he=>ov5.2 e (h1.2.1 e he)⟩).2).2 (me1 ov1)).2 (show SzL 1 SzT _ from ⟨lo,fun e he=>ov5.2 e (h4.2.1 e he)⟩).2)
theorem Zazu{a0:Zaf}{a1:List UInt8}(oa0:Zer a0)(oa1:SzT a1):Tot (Zau0 a0 a1) (fun r=>(Zer r)):=by
 apply Tot.rn Zwc Zm2
 .dsimp only [Zahx,LT.den];have q1:=oa0.1;refine Tot.ap fun x1 h1=>?_;have lh1:x1.length=([]:List (List UInt8)).length+a0.Subs.length:=by rw [h1,List.length_append]
  try simp only [List.length_cons,List.length_nil,Nat.zero_add] at lh1
  refine tB (Zra oa1) fun x2 h2=>?_;apply tO<;>intro h3
  .exact tl15
  refine tB (Zazt oa0 oa1) fun x3 h4=>?_;apply tF<;>intro h5
  .exact tl15
  have q2:=(SzL.app (k:=16) h1 lo (fun _ h=>by cases h) oa0.2).1;apply tD<;>intro h6
  .exact tl15
  exact tL ⟨oa1,oa0,SzL.nil,SzL.app (k:=16) h1 lo (fun _ h=>by cases h) oa0.2,cs⟩ (by unfold Zm2 lt6;dsimp only;omega)
 intro s hs;cases s with
 | L0 v1 E0 E1 v5 v6=>
  obtain⟨ov1,O0,O1,ov5,i0,i1,i2⟩:=hs;dsimp only [Z2f,Zadk,LT.den,Zm2];apply tD<;>intro h1
  .refine Tot.ix fun x1 h2=>?_;apply tF<;>intro h3
   .have q1:=wr (v6+1);exact tL ⟨ov1,O0,O1,ov5,cs⟩ (by unfold Zm2 lt6;dsimp only;omega)
   exact tl29
  exact tl29
 | L1 _ _ _ _ _=>exact Z0k hs
theorem Za3w{a0:Zb}{a1:Zv}{a2:Int}{a3:Int}(oa0:Zw a0)(oa1:Zax a1):Tot (Za1v a0 a1 a2 a3) (fun r=>(Zw r)/\(Zk3 a0->Zk3 r)):=by
 apply tZ;dsimp only [Zany,LT.den];refine tB (Zabx oa1) fun x1 h1=>?_;apply tO<;>intro h2
 .exact tl24
 apply tE<;>intro h3
 .exact tl55
 apply tE<;>intro h4
 .exact tl55
 apply tE<;>intro h5
 .exact tl55
 apply tE<;>intro h6
 .exact tR ⟨⟨oa0.1,SzL.one (SzS.t oa1.1),oa0.2.2⟩,Zabr⟩
 apply tE<;>intro h7
 .exact tB (Zazu oa0.2.1 (SzS.t oa1.1)) fun x2 h8=>tR ⟨⟨oa0.1,h8,oa0.2.2⟩,Zabr⟩
 apply tE<;>intro h8
 .exact tl55
 apply tE<;>intro h9
 .exact tl55
 apply tE<;>intro h10
 .exact tl55
 apply tE<;>intro h11
 .exact tl55
 apply tE<;>intro h12
 .exact tR ⟨⟨oa0.1,oa0.2.1,SzL.nil⟩,Zabr⟩
 apply tE<;>intro h13
 .exact tB (Zeo) fun x2 h14=>tB (Zeo) fun x3 h15=>tR ⟨⟨oa0.1,oa0.2.1,oa0.2.2⟩,Zabr⟩
 apply tE<;>intro h14
 .exact tl55
 apply tE<;>intro h15
 .exact tB (Znd) fun x2 h16=>tB (Znd) fun x3 h17=>tR ⟨⟨oa0.1,oa0.2.1,oa0.2.2⟩,Zabr⟩
 apply tE<;>intro h16
 .exact tl55
 exact tl24
def Z3c(a0:Zb):Zkx->Prop
 | .L0 v2 v3 v4 E0 E1 E2 v11 v12=>((SzL 8 (fun _=>True)) v4)/\(Zw E0)/\(Zau E1)/\(Zw E2)/\(0<=v12)/\(0<=v11)/\(v11=cnt (fun m=>(Zdm m.Kind).getD 0==v2) E1.Mods v12)/\(v4.length=(E1.Mods.filter fun m=>(Zdm m.Kind).getD 0==v2).length)/\(v11<=17592186043904)/\(Zk3 a0->Zk3 E0)
def Zuu:Zkx->M6
 | .L0 v2 v3 v4 E0 E1 E2 v11 v12=>(1,((E1.Mods.length:Int) - v12).toNat,1000000,0,0,0)
theorem Zaes(a0:Zb)(v2:Int)(v3:Int)(v4:List Int)(E0:Zb)(E1:Z8)(E2:Zb)(v11:Int)(v12:Int)(h:((SzL 8 (fun _=>True)) v4)/\(Zw E0)/\(Zau E1)/\(Zw E2)/\(0<=v12)/\(0<=v11)/\(v11=cnt (fun m=>(Zdm m.Kind).getD 0==v2) E1.Mods v12)/\(v4.length=(E1.Mods.filter fun m=>(Zdm m.Kind).getD 0==v2).length)/\(v11<=17592186043904)/\(Zk3 a0->Zk3 E0)):Tot (Ztx v2 v3 v4 E0 E1 E2 v11 v12).den (Nx (Z3c a0) Zuu (1,((E1.Mods.length:Int) - v12).toNat,1000000,0,0,0) (fun r=>(Zw r)/\(Zk3 a0->Zk3 r))):=by
 obtain⟨ov4,O0,O1,O2,cv12,cv11,i0,i1,i2,i3⟩:=h;have lb_v4:v4.length*8<=140737488351232:=ov4.1;dsimp only [Ztx,LT.den];have q1:E1.Mods.length*176<=140737488351232:=O1.2.2.1;refine tD (fun h2=>?_) (fun h2=>?_)
 .refine tB (tI (by omega) (by omega)) (fun x3 h4=>?_);have oh4:Zax x3:=O1.2.2.2 x3 h4.1;refine tB (@Zrf x3.Kind) (fun x5 h6=>?_);refine tE (fun h7=>?_) (fun h7=>?_)
  .have hp:(fun m:Zv=>(Zdm m.Kind).getD 0==v2) x3=true:=by
    show ((Zdm x3.Kind).getD 0==v2)=true
    rw [<- h6,h7];exact beq_self_eq_true _
   have hlt:=Zbq6 (p:=fun m:Zv=>(Zdm m.Kind).getD 0==v2) h4.2 cv12 hp;have hnx:=fun w=>Zax7 (p:=fun m:Zv=>(Zdm m.Kind).getD 0==v2) (w:=w) h4.2 cv12 hp;refine tB (tI (by omega) (by omega)) (fun x8 h9=>?_);refine tB (@Za3w E0 x3 v3 x8 O0 oh4) (fun x10 h12=>?_);have h11:(Zw x10):=h12.1;refine qw (v11+1) fun q12 q13=>?_;refine qw (v12+1) fun q14 q15=>?_;have hw:IntKind.wrap .i64 (v12+1)=v12+1:=by omega
   exact tL ⟨ov4,h11,O1,O2,cl,cl,by rw [hw,hnx _ rfl];omega,i1,cl,fun hk=>h12.2 (i3 hk)⟩ Zbgd
  .have hp:(fun m:Zv=>(Zdm m.Kind).getD 0==v2) x3=false:=by
    show ((Zdm x3.Kind).getD 0==v2)=false
    rw [<- h6];exact beq_false_of_ne h7
   have hnx:=fun w=>Za56 (p:=fun m:Zv=>(Zdm m.Kind).getD 0==v2) (w:=w) h4.2 cv12 hp;refine qw (v12+1) fun q16 q17=>?_;have hw:IntKind.wrap .i64 (v12+1)=v12+1:=by omega
   exact tL ⟨ov4,O0,O1,O2,cl,cv11,by rw [hw,hnx _ rfl];exact i0,i1,i2,i3⟩ Zbgd
 .exact tR ⟨O0,i3⟩
theorem Zaqw(a0:Zb)(a1:Z8)(a2:Int)(a3:Int)(a4:List Int)(oa0:Zw a0)(oa1:Zau a1)(oa4:(SzL 8 (fun _=>True)) a4)(h0:a4.length=(a1.Mods.filter fun m=>(Zdm m.Kind).getD 0==a2).length):Tot (Z2g a0 a1 a2 a3 a4) (fun r=>(Zw r)/\(Zk3 a0->Zk3 r)):=by
 unfold Z2g;refine tX (Inv:=Z3c a0) (μ:=Zuu) (m:=(1000000,0,0,0,0,0)) ?_ ?_
 .have lb_a4:a4.length*8<=140737488351232:=oa4.1;dsimp only [Z8u,LT.den];exact tL ⟨oa4,oa0,oa1,⟨SzS.nil,SzL.nil,SzL.nil⟩,cl,cl,rfl,h0,cl,id⟩ Zbgd
 .intro s hs;cases s with
  | L0 v2 v3 v4 E0 E1 E2 v11 v12=>exact Zaes a0 v2 v3 v4 E0 E1 E2 v11 v12 hs
def Za3x:Zqr->Prop
 | .L0 v1 E0 v5=>(Zau E0)/\(0<=v5)
def Z3d:Zqr->M6
 | .L0 v1 E0 v5=>(1,((E0.Mods.length:Int) - v5).toNat,1000000,0,0,0)
theorem Za3y{a0:Z8}{a1:Int}(oa0:Zau a0):Tot (Za1w a0 a1) (fun r=>True):=by
 apply Tot.rn Za3x Z3d
 .dsimp only [Zan0,LT.den];exact tL ⟨oa0,cl⟩ (by unfold Z3d lt6;dsimp only;omega)
 rintro ⟨v1,E0,v5⟩ ⟨O0,cv5⟩;dsimp only [Z6m,Zahy,LT.den];have q1:=O0.2.2.1;apply tD<;>intro h1
 .refine Tot.ix fun x1 h2=>?_;apply tE<;>intro h3
  .refine tB (Zrf) fun x2 h4=>?_;apply tE<;>intro h5
   .exact tR trivial
   exact tl66
  exact tl66
 exact tR trivial
abbrev Zaqx(a0:Zk)(a1:Int)(a2:Int)(r:Zk):Prop:=(Zab r)/\(r.S.Objects.length=a0.S.Objects.length)/\(r.L.length=a0.L.length)/\(r.All.length=r.S.Objects.length)/\(r.Blank.length=r.S.Objects.length)/\(r.Begun.length=r.L.length)/\(r.Sets.length=r.L.length)/\(Zbc r.All)
def Zawy(a0:Zk)(a1:Int)(a2:Int):Zmu->Prop
 | .L0 v1 v2 E0 E1 v7 v8 v9 E2 v11=>(E0=a0)/\(Zab E0)/\(Zab E1)/\((SzL 8 (fun _=>True)) v7)/\((SzL 8 (fun _=>True)) v8)/\(Zab E2)/\(0<=v11)/\(E0.All.length=E0.S.Objects.length)/\(E0.Blank.length=E0.S.Objects.length)/\(E0.Begun.length=E0.L.length)/\(E0.Sets.length=E0.L.length)/\(E0.S.Objects.length<=60)/\(E0.L.length<=10000)/\(0<=v1)/\(v1 < E0.L.length)/\(E2.S.Objects.length=E0.S.Objects.length)/\(E2.L.length=E0.L.length)/\(E2.All.length=E2.S.Objects.length)/\(E2.Blank.length=E2.S.Objects.length)/\(E2.Begun.length=E2.L.length)/\(E2.Sets.length=E2.L.length)/\(∀ f,E0.L[v1.toNat]?=some f->v8.length=(f.Mods.filter fun m=>(Zdm m.Kind).getD 0==v2).length)/\(Zbc E0.All)/\(Zbc E2.All)
def Z9s:Zmu->M6
 | .L0 v1 v2 E0 E1 v7 v8 v9 E2 v11=>(1,((E0.S.Objects.length:Int) - v11).toNat,1000000,0,0,0)
theorem Z5p{a0:Zk}{a1:Int}{a2:Int}(oa0:Zab a0)(h0:a0.All.length=a0.S.Objects.length)(h1:a0.Blank.length=a0.S.Objects.length)(h2:a0.Begun.length=a0.L.length)(h3:a0.Sets.length=a0.L.length)(h4:a0.S.Objects.length<=60)(h5:a0.L.length<=10000)(h6:0<=a1)(h7:a1 < a0.L.length)(h8:Zbc a0.All):Tot (Zan1 a0 a1 a2) (Zaqx a0 a1 a2):=by
 apply Tot.rn (Zawy a0 a1 a2) Z9s
 .dsimp only [Zadl,LT.den];refine tB (Zpm oa0 cl cl cl cl cl cl cl cl) fun x1 h1=>?_;apply tO<;>intro h2
  .exact tR ⟨oa0,cl,cl,cl,cl,cl,cl,Zec⟩
  refine tB (Zus oa0 cl cl cl cl cl cl cl cl) fun x2 h3=>tB (Zut oa0 cl cl cl cl cl cl cl cl) fun x3 h4=>?_;have eh4_1:=h4.2;refine tB (Zwv oa0 cl cl cl cl cl cl cl cl) fun x4 h5=>Tot.ap fun x5 h6=>?_;have lh6:x5.length=([]:List Zb).length+a0.All.length:=by rw [h6,List.length_append]
  try simp only [List.length_cons,List.length_nil,Nat.zero_add] at lh6
  refine Tot.ap fun x6 h7=>?_;have lh7:x6.length=([]:List Bool).length+a0.Begun.length:=by rw [h7,List.length_append]
  try simp only [List.length_cons,List.length_nil,Nat.zero_add] at lh7
  refine Tot.ap fun x7 h8=>?_;have lh8:x7.length=([]:List (List Int)).length+a0.Sets.length:=by rw [h8,List.length_append]
  try simp only [List.length_cons,List.length_nil,Nat.zero_add] at lh8
  refine Tot.ap fun x8 h9=>?_;have lh9:x8.length=([]:List Bool).length+a0.Blank.length:=by rw [h9,List.length_append]
  try simp only [List.length_cons,List.length_nil,Nat.zero_add] at lh9
  exact Tot.ix fun x9 h10=>tB (Tot.set (by omega) (by omega)) fun x10 h11=>Tot.ix fun x11 h12=>tB (Tot.set (by omega) (by omega)) fun x12 h13=>tL ⟨rfl,oa0,⟨⟨SzL.nil,SzL.nil,SzL.nil,SzL.nil,SzL.nil,SzL.nil,SzL.nil,SzL.nil⟩,SzL.nil,SzL.nil,SzL.nil,SzL.nil,SzL.nil⟩,h3,h4.1,⟨oa0.1,SzL.app (k:=176) h6 lo (fun _ h=>by cases h) oa0.2.1.2,oa0.2.2.1,SzL.tr,⟨lo,fun e he=>(h13.2.1 e he).elim (fun w=>by rw [w];exact h3) ((SzL.app (k:=24) h8 lo (fun _ h=>by cases h) oa0.2.2.2.2.1.2).2 e)⟩,SzL.tr⟩,cl,cl,cl,cl,cl,cl,cl,cl,cl,cl,cl,cl,cl,cl,cl,‹_›,Zec,tk18⟩ Za4z
 rintro ⟨v1,v2,E0,E1,v7,v8,v9,E2,v11⟩ ⟨al0,O0,O1,ov7,ov8,O2,cv11,i0,i1,i2,i3,i4,i5,i6,i7,i8,i9,i10,i11,i12,i13,i14,i15,i16⟩;subst al0;dsimp only [Zy5,Z8w,LT.den];apply tD<;>intro h1
 .refine Tot.ix fun x1 h2=>tB (Zao1 ov7) fun x2 h3=>?_;apply tO<;>intro h4
  .have q1:=wr (v11+1);exact tL ⟨rfl,O0,O1,ov7,ov8,O2,cl,cl,cl,cl,cl,cl,cl,cl,cl,cl,cl,cl,cl,cl,cl,‹_›,Zec,tk18⟩ Za4z
  refine Tot.ix fun x3 h5=>?_;have oh5:Zw x3:=O0.2.1.2 x3 h5.1;have kh5:Zk3 x3:=(by assumption:Zbc E0.All) _ h5.1;refine Tot.ix fun x4 h6=>?_;have oh6:Zau x4:=O0.2.2.1.2 x4 h6.1;refine tB (Zaqw x3 x4 v2 v9 v8 oh5 oh6 ov8 (by grind)) fun x5 h7=>?_;have eh7_1:=h7.2;refine Tot.ix fun x6 h8=>tB (Tot.set (by omega) (by omega)) fun x7 h9=>tB (Za3y oh6) fun x8 h10=>?_;apply tF<;>intro h11
  .refine Tot.ix fun x9 h12=>tB (Tot.set (by omega) (by omega)) fun x10 h13=>?_;have q1:=wr (v11+1);exact tL ⟨rfl,O0,O1,ov7,ov8,⟨O2.1,⟨lo,fun e he=>(h9.2.1 e he).elim (fun w=>by rw [w];exact h7.1) (O2.2.1.2 e)⟩,O2.2.2.1,O2.2.2.2.1,O2.2.2.2.2.1,SzL.tr⟩,cl,cl,cl,cl,cl,cl,cl,cl,cl,cl,cl,cl,cl,cl,cl,‹_›,Zec,tk18⟩ Za4z
  have q1:=wr (v11+1);exact tL ⟨rfl,O0,O1,ov7,ov8,⟨O2.1,⟨lo,fun e he=>(h9.2.1 e he).elim (fun w=>by rw [w];exact h7.1) (O2.2.1.2 e)⟩,O2.2.2.1,O2.2.2.2.1,O2.2.2.2.2.1,O2.2.2.2.2.2⟩,cl,cl,cl,cl,cl,cl,cl,cl,cl,cl,cl,cl,cl,cl,cl,‹_›,Zec,tk18⟩ Za4z
 exact tl53
def Zbaf(a0:List Int)(a1:List Int):Zty->Prop
 | .L0 v0 v1 v5=>(v0=a0)/\(v1=a1)/\((SzL 8 (fun _=>True)) v0)/\((SzL 8 (fun _=>True)) v1)/\(0<=v5)/\(v0.length=v1.length)/\(∀ k:Nat,(k:Int) < v5->v0[k]?=v1[k]?)
def Z7b:Zty->M6
 | .L0 v0 v1 v5=>(1,((v0.length:Int) - v5).toNat,1000000,0,0,0)
theorem Zgx{a0:List Int}{a1:List Int}(oa0:(SzL 8 (fun _=>True)) a0)(oa1:(SzL 8 (fun _=>True)) a1):Tot (Za8m a0 a1) (fun r=>(r=true↔a0=a1)):=by
 apply Tot.rn (Zbaf a0 a1) Z7b
 .dsimp only [Zau2,LT.den];apply tN<;>intro h1
  .exact Zbft
  exact tL ⟨rfl,rfl,oa0,oa1,cl,cl,tk49⟩ (by unfold Z7b lt6;dsimp only;omega)
 rintro ⟨v0,v1,v5⟩ ⟨al0,al1,ov0,ov1,cv5,i0,i1⟩;have lb_v0:=ov0.1;subst al0;subst al1;dsimp only [Zabb,Zan2,LT.den];apply tD<;>intro h1
 .refine Tot.ix fun x1 h2=>?_;have mh2:=h2.2;refine Tot.ix fun x2 h3=>?_;have mh3:=h3.2;apply tN<;>intro h4
  .exact Zbft
  have q1:=wr (v5+1);exact tL ⟨rfl,rfl,ov0,ov1,cl,cl,tk49⟩ (by unfold Z7b lt6;dsimp only;omega)
 exact Zbft
theorem Za3z{a0:Zk}{a1:Int}{a2:Int}{a3:Int}(oa0:Zab a0)(h0:a0.All.length=a0.S.Objects.length)(h1:a0.Blank.length=a0.S.Objects.length)(h2:a0.Begun.length=a0.L.length)(h3:a0.Sets.length=a0.L.length)(h4:a0.S.Objects.length<=60)(h5:a0.L.length<=10000)(h6:0<=a1)(h7:a1 < a0.L.length)(h8:0<=a2)(h9:a2 < a0.L.length)(h10:Zbc a0.All):Tot (Za1x a0 a1 a2 a3) (fun r=>True):=by
 apply tZ;dsimp only [Zan3,LT.den];apply tE<;>intro h1
 .exact tR trivial
 refine tB (Z5p oa0 cl cl cl cl cl cl cl cl Zec) fun x1 h2=>?_;have eh2_3:=h2.2.2.2.1;have eh2_4:=h2.2.2.2.2.1;have eh2_5:=h2.2.2.2.2.2.1;have eh2_6:=h2.2.2.2.2.2.2.1;refine tB (Zpm oa0 cl cl cl cl cl cl cl cl) fun x2 h3=>tB (Zpm h2.1 cl cl cl cl cl cl cl cl) fun x3 h4=>?_;apply tO<;>intro h5
 .exact tR trivial
 refine tB (Zus oa0 cl cl cl cl cl cl cl cl) fun x4 h6=>tB (Zus h2.1 cl cl cl cl cl cl cl cl) fun x5 h7=>tB (Zgx h6 h7) fun x6 h8=>?_;apply tO<;>intro h9
 .exact tR trivial
 exact tB (Zut oa0 cl cl cl cl cl cl cl cl) fun x7 h10=>tB (Zut h2.1 cl cl cl cl cl cl cl cl) fun x8 h11=>tB (Zgx h10.1 h11.1) fun x9 h12=>tR trivial
def Zbb6(a0:List Int)(a1:Int):Zx4->Prop
 | .L0 v0 v1 v5=>(v0=a0)/\(v1=a1)/\((SzL 8 (fun _=>True)) v0)/\(0<=v5)/\(∀ (k:Nat) x,(k:Int) < v5->v0[k]?=some x->x≠v1)
def Zab4:Zx4->M6
 | .L0 v0 v1 v5=>(1,((v0.length:Int) - v5).toNat,1000000,0,0,0)
theorem Z7c{a0:List Int}{a1:Int}(oa0:(SzL 8 (fun _=>True)) a0):Tot (Zbc5 a0 a1) (fun r=>(r=true↔a1∈a0)):=by
 apply Tot.rn (Zbb6 a0 a1) Zab4
 .dsimp only [Za1y,LT.den];exact tL ⟨rfl,rfl,oa0,cl,tk43⟩ (by unfold Zab4 lt6;dsimp only;omega)
 rintro ⟨v0,v1,v5⟩ ⟨al0,al1,ov0,cv5,i0⟩;have lb_v0:=ov0.1;subst al0;subst al1;dsimp only [Zahz,Zau3,LT.den];apply tD<;>intro h1
 .refine Tot.ix fun x1 h2=>?_;have mh2:=h2.2;apply tE<;>intro h3
  .exact tl11
  have q1:=wr (v5+1);exact tL ⟨rfl,rfl,ov0,cl,tk43⟩ (by unfold Zab4 lt6;dsimp only;omega)
 exact tl11
abbrev Zalf(a0:List Int)(r:List Int):Prop:=((SzL 8 (fun _=>True)) r)/\(r.length<=a0.length)/\(r.Nodup/\∀ x,x∈r->x∈a0/\0<=x)/\(∀ x,x∈a0->0<=x->x∈r)
def Zaqy(a0:List Int):Zky->Prop
 | .L0 v0 v3 v4=>(v0=a0)/\((SzL 8 (fun _=>True)) v0)/\((SzL 8 (fun _=>True)) v3)/\(0<=v4)/\(v3.length<=v4.toNat)/\(v4.toNat<=v0.length)/\(v3.Nodup/\∀ x,x∈v3->x∈v0/\0<=x)/\(∀ (k:Nat) x,(k:Int) < v4->v0[k]?=some x->0<=x->x∈v3)
def Z5q:Zky->M6
 | .L0 v0 v3 v4=>(1,((v0.length:Int) - v4).toNat,1000000,0,0,0)
theorem Zaqz{a0:List Int}(oa0:(SzL 8 (fun _=>True)) a0):Tot (Z2h a0) (Zalf a0):=by
 apply Tot.rn (Zaqy a0) Z5q
 .have lb_a0:=oa0.1;dsimp only [Z8y,LT.den];exact tL ⟨rfl,oa0,SzL.nil,cl,cl,cl,(by first | exact⟨List.nodup_nil,fun x hx=>nomatch hx⟩ | assumption | (refine⟨?_,fun x hx=>?_⟩<;>grind [Zs5])),tk44⟩ Zbge
 rintro ⟨v0,v3,v4⟩ ⟨al0,ov0,ov3,cv4,i0,i1,i2,i3⟩;have lb_v0:=ov0.1;have lb_v3:=ov3.1;subst al0;dsimp only [Zvv,Z41,LT.den];apply tD<;>intro h1
 .refine Tot.ix fun x1 h2=>?_;have mh2:=h2.2;apply tD<;>intro h3
  .refine tB (Z7c ov3) fun x2 h4=>?_;apply tO<;>intro h5
   .refine Tot.ap fun x3 h6=>?_;have lh6:=Zaz h6;have q1:=wr (v4+1);exact tL ⟨rfl,ov0,SzL.tr,cl,cl,cl,(by first | exact⟨List.nodup_nil,fun x hx=>nomatch hx⟩ | assumption | (refine⟨?_,fun x hx=>?_⟩<;>grind [Zs5])),tk44⟩ Zbge
   exact Zbok
  exact Zbok
 exact tR ⟨ov3,cl,‹_›,(by intro x hx h0;obtain⟨k,hk⟩:=List.mem_iff_getElem?.1 hx;grind)⟩
theorem Z3e{a0:List (List Bool)}{a1:Int}{a2:Int}(oa0:(SzL 24 (SzL 1 (fun _=>True))) a0)(h0:0<=a1)(h1:0<=a2):Tot (Za8o a0 a1 a2) (fun r=>(r=nB a0 a1 a2)):=by
 apply tZ;dsimp only [Zau5,LT.den];apply tD<;>intro h1
 .refine Tot.ix fun x1 h2=>?_;have oh2:(SzL 1 (fun _=>True)) x1:=oa0.2 x1 h2.1;apply tD<;>intro h3
  .exact Tot.ix fun x2 h4=>tR (by unfold nB;grind)
  exact tR (by unfold nB;grind)
 exact tR (by unfold nB;grind)
abbrev Zaq0(a0:List Int)(a1:List (List Bool))(a2:Int)(r:List Int):Prop:=((SzL 8 (fun _=>True)) r)/\(Rch a0 (fun x y=>nB a1 x y=true) a2 r)
def Zawz(a0:List Int)(a1:List (List Bool))(a2:Int):Zig->Prop
 | .L0 v0 v1 v2 v7 v8=>(v0=a0)/\(v1=a1)/\(v2=a2)/\((SzL 8 (fun _=>True)) v0)/\((SzL 24 (SzL 1 (fun _=>True))) v1)/\((SzL 8 (fun _=>True)) v7)/\(0<=v8)/\(∀ x,x∈v0->0<=x)/\(v0.Nodup)/\(v0.length<=10000)/\(0<=v2)/\(RA v0 v1 v2 v7 v8)
 | .L1 v0 v1 v7 v9=>(v0=a0)/\(v1=a1)/\((SzL 8 (fun _=>True)) v0)/\((SzL 24 (SzL 1 (fun _=>True))) v1)/\((SzL 8 (fun _=>True)) v7)/\(0<=v9)/\(∀ x,x∈v0->0<=x)/\(v0.Nodup)/\(v0.length<=10000)/\(RB v0 v1 a2 v7 v9)
 | .L2 v0 v1 v7 v9 v10=>(v0=a0)/\(v1=a1)/\((SzL 8 (fun _=>True)) v0)/\((SzL 24 (SzL 1 (fun _=>True))) v1)/\((SzL 8 (fun _=>True)) v7)/\(0<=v10)/\(0<=v9)/\(v9 < (v7.length:Int))/\(∀ x,x∈v0->0<=x)/\(v0.Nodup)/\(v0.length<=10000)/\(RC v0 v1 a2 v7 v9 v10)
def Z9t:Zig->M6
 | .L0 v0 v1 v2 v7 v8=>(3,((v0.length:Int) - v8).toNat,1000000,0,0,0)
 | .L1 v0 v1 v7 v9=>(1,((v0.length:Int) - v9).toNat,1000000,0,0,0)
 | .L2 v0 v1 v7 v9 v10=>(1,((v0.length:Int) - v9).toNat,1,((v0.length:Int) - v10).toNat,1000000,0)
theorem Z5r{a0:List Int}{a1:List (List Bool)}{a2:Int}(oa0:(SzL 8 (fun _=>True)) a0)(oa1:(SzL 24 (SzL 1 (fun _=>True))) a1)(h0:0<=a2)(h1:∀ x,x∈a0->0<=x)(h2:a0.Nodup)(h3:a0.length<=10000):Tot (Z6o a0 a1 a2) (Zaq0 a0 a1 a2):=by
 apply Tot.rn (Zawz a0 a1 a2) Z9t
 .dsimp only [Zadm,LT.den];exact tL ⟨rfl,rfl,rfl,oa0,oa1,SzL.nil,cl,‹_›,‹_›,cl,‹_›,(by first | exact RA_0 | (refine Za55 ‹_› ‹_› ‹_› ‹_› ‹_› ?_ ?_<;>grind) | (refine Zax6 ‹_› ‹_› ‹_› ?_ ?_<;>grind))⟩ Zakz
 intro s hs;cases s with
 | L0 v0 v1 v2 v7 v8=>
  obtain⟨al0,al1,al2,ov0,ov1,ov7,cv8,i0,i1,i2,i3,i4⟩:=hs;have lb_v7:=ov7.1;subst al0;subst al1;subst al2;dsimp only [Zmv,Z8z,LT.den];have li:=i4.1.len;apply tD<;>intro h1
  .refine Tot.ix fun x1 h2=>?_;have mh2:=h2.2;refine tB (Z3e ov1 Z0t Z0t) fun x2 h3=>?_;apply tF<;>intro h4
   .refine Tot.ap fun x3 h5=>?_;have lh5:=Zaz h5;have q1:=wr (v8+1);exact tL ⟨rfl,rfl,rfl,ov0,ov1,SzL.tr,cl,‹_›,‹_›,cl,‹_›,(by first | exact RA_0 | (refine Za55 ‹_› ‹_› ‹_› ‹_› ‹_› ?_ ?_<;>grind) | (refine Zax6 ‹_› ‹_› ‹_› ?_ ?_<;>grind))⟩ Zakz
   have q1:=wr (v8+1);exact tL ⟨rfl,rfl,rfl,ov0,ov1,ov7,cl,‹_›,‹_›,cl,‹_›,(by first | exact RA_0 | (refine Za55 ‹_› ‹_› ‹_› ‹_› ‹_› ?_ ?_<;>grind) | (refine Zax6 ‹_› ‹_› ‹_› ?_ ?_<;>grind))⟩ Zakz
  exact Zbn9
 | L1 v0 v1 v7 v9=>
  obtain⟨al0,al1,ov0,ov1,ov7,cv9,i0,i1,i2,i3⟩:=hs;have lb_v7:=ov7.1;subst al0;subst al1;dsimp only [Zmv,Z80,LT.den];have li:=i3.1.len;apply tD<;>intro h1
  .exact Zbol
  exact tR ⟨ov7,(by exact Zbq5 ‹_› (by omega))⟩
 | L2 v0 v1 v7 v9 v10=>
  obtain⟨al0,al1,ov0,ov1,ov7,cv10,cv9,bd7,i0,i1,i2,i3⟩:=hs;have lb_v7:=ov7.1;subst al0;subst al1;dsimp only [Zmv,Z81,LT.den];have lx_0:v7.length*8<=140737488351232:=ov7.1;have li:=i3.1.1.len;apply tD<;>intro h1
  .refine Tot.ix fun x1 h2=>?_;have mh2:=h2.2;have ch2:x1∈v0:=i3.1.1.2.1 _ h2.1;refine Tot.ix fun x2 h3=>?_;have mh3:=h3.2;refine tB (Z3e ov1 Z0t Z0t) fun x3 h4=>?_;apply tF<;>intro h5
   .refine tB (Z7c ov7) fun x4 h6=>?_;apply tO<;>intro h7
    .refine Tot.ap fun x5 h8=>?_;have lh8:=Zaz h8;have q1:=wr (v10+1);exact tL ⟨rfl,rfl,ov0,ov1,SzL.tr,cl,cl,cl,‹_›,‹_›,cl,(by first | exact RC_0 ‹_› | (refine Zbh6 ‹_› ‹_› ‹_› ‹_› ‹_› ‹_› ?_ ?_ ?_<;>grind) | (refine Zbcs ‹_› ‹_› ‹_› ‹_› ?_ ?_<;>grind))⟩ Zakz
    exact Zboo
   exact Zboo
  have q1:=wr (v9+1);exact Zbn9
abbrev Zazv(a0:List Int)(a1:List (List Bool))(r:List Int):Prop:=((SzL 8 (fun _=>True)) r)/\(∀ x,x∈r->x∈a0/\0<=x)/\(∀ x,x∈a0->0<=x->r≠[])
def Za30(a0:List Int)(a1:List (List Bool)):Znb->Prop
 | .L0 v1 v5 v6 v7=>(v1=a1)/\((SzL 24 (SzL 1 (fun _=>True))) v1)/\((SzL 8 (fun _=>True)) v5)/\((SzL 8 (fun _=>True)) v6)/\(0<=v7)/\(∀ x,x∈v5->x∈a0/\0<=x)/\(∀ x,x∈a0->0<=x->x∈v5)/\(v5.Nodup)/\(v5.length<=10000)/\(v6.length<=v7.toNat)/\(∀ x,x∈v6->x∈v5)/\(∀ (k:Nat) x,(k:Int) < v7->v5[k]?=some x->RD v5 v1 x->x∈v6)
 | .L1 v1 v5 v6 v7 v8 v9=>(v1=a1)/\((SzL 24 (SzL 1 (fun _=>True))) v1)/\((SzL 8 (fun _=>True)) v5)/\((SzL 8 (fun _=>True)) v6)/\(0<=v9)/\(0<=v7)/\(v7 < (v5.length:Int))/\(∀ x,x∈v5->x∈a0/\0<=x)/\(∀ x,x∈a0->0<=x->x∈v5)/\(v5.Nodup)/\(v5.length<=10000)/\(v6.length<=v7.toNat)/\(∀ x,x∈v6->x∈v5)/\(∀ (k:Nat) x,(k:Int) < v7->v5[k]?=some x->RD v5 v1 x->x∈v6)/\(∀ x,v5[v7.toNat]?=some x->RD v5 v1 x->v8=true)
def Zajp:Znb->M6
 | .L0 v1 v5 v6 v7=>(1,((v5.length:Int) - v7).toNat,1000000,0,0,0)
 | .L1 v1 v5 v6 v7 v8 v9=>(1,((v5.length:Int) - v7).toNat,1,((v5.length:Int) - v9).toNat,1000000,0)
theorem Za31{a0:List Int}{a1:List (List Bool)}(oa0:(SzL 8 (fun _=>True)) a0)(oa1:(SzL 24 (SzL 1 (fun _=>True))) a1)(h0:a0.length<=10000):Tot (Zah2 a0 a1) (Zazv a0 a1):=by
 apply Tot.rn (Za30 a0 a1) Zajp
 .dsimp only [Zan5,LT.den];refine tB (Zaqz oa0) fun x1 h1=>?_;have eh1_3:=h1.2.2.2;exact tL ⟨rfl,oa1,h1.1,SzL.nil,cl,Zaj,Zaj,Zaj,cl,cl,tk89,tk23⟩ Za40
 intro s hs;cases s with
 | L0 v1 v5 v6 v7=>
  obtain⟨al0,ov1,ov5,ov6,cv7,i0,i1,i2,i3,i4,i5,i6⟩:=hs;have lb_v6:=ov6.1;subst al0;dsimp only [Zwt,Zah0,LT.den];apply tD<;>intro h1
  .exact Zboq
  exact tR ⟨ov6,(by grind),(by exact Zbla ‹_› ‹_› ‹_› (by omega) (by omega) (fun y hy=>(@Z5r v5 v1 y ov5 ov1 (i0 y hy).2 (fun x hx=>(i0 x hx).2) ‹_› ‹_›).imp fun r h=>h.2.2))⟩
 | L1 v1 v5 v6 v7 v8 v9=>
  obtain⟨al0,ov1,ov5,ov6,cv9,cv7,bd6,i0,i1,i2,i3,i4,i5,i6,i7⟩:=hs;have lb_v6:=ov6.1;subst al0;dsimp only [Zwt,Zah1,LT.den];have lx_0:v5.length*8<=140737488351232:=ov5.1;apply tD<;>intro h1
  .apply tN<;>intro h2
   .refine Tot.ix fun x1 h3=>?_;have mh3:=h3.2;have ch3:=i0 _ h3.1;refine Tot.ix fun x2 h4=>?_;have mh4:=h4.2;have ch4:=i0 _ h4.1;refine tB (Z3e ov1 Z0t Z0t) fun x3 h5=>?_;apply tF<;>intro h6
    .refine tB (Z5r ov5 ov1 cl Zaj Zaj cl) fun x4 h7=>?_;have eh7_1:=h7.2;refine tB (Z7c h7.1) fun x5 h8=>?_;apply tO<;>intro h9
     .exact Za4x
     exact Za4x
    exact Za4x
   exact Za4x
  apply tF<;>intro h2
  .refine Tot.ix fun x1 h3=>Tot.ap fun x2 h4=>?_;have lh4:=Zaz h4;have q1:=wr (v7+1);exact tL ⟨rfl,ov1,ov5,SzL.tr,cl,Zaj,Zaj,Zaj,cl,cl,tk89,tk23⟩ Za40
  have q1:=wr (v7+1);exact tL ⟨rfl,ov1,ov5,ov6,cl,Zaj,Zaj,Zaj,cl,cl,tk89,tk23⟩ Za40
theorem Zz4{a0:List Int}{a1:Int}(oa0:(SzL 8 (fun _=>True)) a0)(h0:0<=a1):Tot (Za1z a0 a1) (fun r=>True):=by
 apply tZ;dsimp only [Zan6,LT.den];apply tD<;>intro h1
 .exact Tot.ix fun x1 h2=>tR trivial
 exact tR trivial
def Zbag(a0:List Int)(a1:List Int)(a2:List (List Bool)):Ztz->Prop
 | .L0 v1 v7 v8 v9=>(v1=a1)/\((SzL 8 (fun _=>True)) v1)/\((SzL 8 (fun _=>True)) v7)/\(0<=v9)/\(∀ x,x∈v7->x∈a0/\0<=x)/\(∀ x,x∈a0->0<=x->v7≠[])/\((v9=0/\v8 = -1)\/v8∈v7)
def Z7d:Ztz->M6
 | .L0 v1 v7 v8 v9=>(1,((v7.length:Int) - v9).toNat,1000000,0,0,0)
theorem Zbah{a0:List Int}{a1:List Int}{a2:List (List Bool)}(oa0:(SzL 8 (fun _=>True)) a0)(oa1:(SzL 8 (fun _=>True)) a1)(oa2:(SzL 24 (SzL 1 (fun _=>True))) a2)(h0:a0.length<=10000):Tot (Za8q a0 a1 a2) (fun r=>(∀ x,x∈a0->0<=x->r∈a0/\0<=r)):=by
 apply Tot.rn (Zbag a0 a1 a2) Z7d
 .dsimp only [Zau8,LT.den];refine tB (Za31 oa0 oa2 cl) fun x1 h1=>?_;have eh1_1:=h1.2.1;have eh1_2:=h1.2.2;exact tL ⟨rfl,oa1,h1.1,cl,Zaj,Zaj,tk94⟩ (by unfold Z7d lt6;dsimp only;omega)
 rintro ⟨v1,v7,v8,v9⟩ ⟨al0,ov1,ov7,cv9,i0,i1,i2⟩;have lb_v7:=ov7.1;subst al0;dsimp only [Zabd,Zan8,LT.den];apply tD<;>intro h1
 .refine Tot.ix fun x1 h2=>tB (Zz4 ov1 Z0t) fun x2 h3=>?_;apply tD<;>intro h4
  .exact Zav2
  refine tB (Zz4 ov1 Z0t) fun x3 h5=>?_;apply tD<;>intro h6
  .exact Zav2
  refine tB (Zz4 ov1 Z0t) fun x4 h7=>?_;apply tE<;>intro h8
  .apply tD<;>intro h9
   .exact Zav2
   exact Zav2
  exact Zav2
 exact tR (by intro x hx h0;have:=List.length_pos_iff.2 (i1 x hx h0);grind)
def Zbai(a0:Zk)(a1:List Int)(a2:Int):Zl6->Prop
 | .L0 v1 v2 E0 v7 v8 v9=>(E0=a0)/\(v1=a1)/\((SzL 8 (fun _=>True)) v1)/\(Zab E0)/\((SzL 8 (fun _=>True)) v7)/\((SzL 24 (SzL 1 (fun _=>True))) v8)/\(0<=v9)/\(∀ x,x∈v1->0<=x/\x < (E0.L.length:Int))/\(E0.All.length=E0.S.Objects.length)/\(E0.Blank.length=E0.S.Objects.length)/\(E0.Begun.length=E0.L.length)/\(E0.Sets.length=E0.L.length)/\(E0.S.Objects.length<=60)/\(E0.L.length<=10000)/\(v1.length<=10000)/\(v8.length=v9.toNat)/\(∀ y,y∈v8->y.length=E0.L.length)/\(v9.toNat<=E0.L.length)/\(v7.length<=v9.toNat)/\(Zbc E0.All)
 | .L1 v1 v2 E0 v7 v8 v10=>(E0=a0)/\(v1=a1)/\((SzL 8 (fun _=>True)) v1)/\(Zab E0)/\((SzL 8 (fun _=>True)) v7)/\((SzL 24 (SzL 1 (fun _=>True))) v8)/\(0<=v10)/\(∀ x,x∈v1->0<=x/\x < (E0.L.length:Int))/\(E0.All.length=E0.S.Objects.length)/\(E0.Blank.length=E0.S.Objects.length)/\(E0.Begun.length=E0.L.length)/\(E0.Sets.length=E0.L.length)/\(E0.S.Objects.length<=60)/\(E0.L.length<=10000)/\(v1.length<=10000)/\(v8.length=E0.L.length)/\(∀ y,y∈v8->y.length=E0.L.length)/\(Zbc E0.All)
 | .L2 v1 v2 E0 v7 v8 v10 v11=>(E0=a0)/\(v1=a1)/\((SzL 8 (fun _=>True)) v1)/\(Zab E0)/\((SzL 8 (fun _=>True)) v7)/\((SzL 24 (SzL 1 (fun _=>True))) v8)/\(0<=v11)/\(0<=v10)/\(v10 < (v1.length:Int))/\(∀ x,x∈v1->0<=x/\x < (E0.L.length:Int))/\(E0.All.length=E0.S.Objects.length)/\(E0.Blank.length=E0.S.Objects.length)/\(E0.Begun.length=E0.L.length)/\(E0.Sets.length=E0.L.length)/\(E0.S.Objects.length<=60)/\(E0.L.length<=10000)/\(v1.length<=10000)/\(v8.length=E0.L.length)/\(∀ y,y∈v8->y.length=E0.L.length)/\(Zbc E0.All)
def Zao2:Zl6->M6
 | .L0 v1 v2 E0 v7 v8 v9=>(3,((E0.L.length:Int) - v9).toNat,1000000,0,0,0)
 | .L1 v1 v2 E0 v7 v8 v10=>(1,((v1.length:Int) - v10).toNat,1000000,0,0,0)
 | .L2 v1 v2 E0 v7 v8 v10 v11=>(1,((v1.length:Int) - v10).toNat,1,((v1.length:Int) - v11).toNat,1000000,0)
theorem Zbaj{a0:Zk}{a1:List Int}{a2:Int}(oa0:Zab a0)(oa1:(SzL 8 (fun _=>True)) a1)(h0:a0.All.length=a0.S.Objects.length)(h1:a0.Blank.length=a0.S.Objects.length)(h2:a0.Begun.length=a0.L.length)(h3:a0.Sets.length=a0.L.length)(h4:a0.S.Objects.length<=60)(h5:a0.L.length<=10000)(h6:∀ x,x∈a1->0<=x/\x < (a0.L.length:Int))(h7:a1.length<=10000)(h8:Zbc a0.All):Tot (Za8r a0 a1 a2) (fun r=>(∀ x,x∈a1->r∈a1)):=by
 apply Tot.rn (Zbai a0 a1 a2) Zao2
 .dsimp only [Zau9,LT.den];exact tL ⟨rfl,rfl,oa1,oa0,SzL.nil,SzL.nil,cl,Zaj,cl,cl,cl,cl,cl,cl,cl,cl,tk46,cl,cl,Zec⟩ Zav6
 intro s hs;cases s with
 | L0 v1 v2 E0 v7 v8 v9=>
  obtain⟨al0,al1,ov1,O0,ov7,ov8,cv9,i0,i1,i2,i3,i4,i5,i6,i7,i8,i9,i10,i11,i12⟩:=hs;have lb_v7:=ov7.1;have lb_v8:=ov8.1;subst al0;subst al1;dsimp only [Zt0,Zan9,LT.den];apply tD<;>intro h1
  .refine Tot.ix fun x1 h2=>Tot.ap fun x2 h3=>?_;have lh3:=Zaz h3;refine tB (Tot.mk) fun x3 h4=>Tot.ap fun x4 h5=>?_;have lh5:=Zaz h5;have q1:=wr (v9+1);exact tL ⟨rfl,rfl,ov1,O0,SzL.tr,SzL.app (k:=24) h5 lo ov8.2 (me1 SzL.tr),cl,Zaj,cl,cl,cl,cl,cl,cl,cl,cl,tk46,cl,cl,Zec⟩ Zav6
  exact Zboh
 | L1 v1 v2 E0 v7 v8 v10=>
  obtain⟨al0,al1,ov1,O0,ov7,ov8,cv10,i0,i1,i2,i3,i4,i5,i6,i7,i8,i9,i10⟩:=hs;have lb_v7:=ov7.1;have lb_v8:=ov8.1;subst al0;subst al1;dsimp only [Zt0,Zaoa,LT.den];apply tD<;>intro h1
  .exact tL ⟨rfl,rfl,ov1,O0,ov7,ov8,cl,cl,cl,Zaj,cl,cl,cl,cl,cl,cl,cl,cl,tk46,Zec⟩ Zav6
  exact tB (Zbah ov1 ov7 ov8 cl) fun x1 h2=>tR (by grind)
 | L2 v1 v2 E0 v7 v8 v10 v11=>
  obtain⟨al0,al1,ov1,O0,ov7,ov8,cv11,cv10,bd8,i0,i1,i2,i3,i4,i5,i6,i7,i8,i9,i10⟩:=hs;have lb_v7:=ov7.1;have lb_v8:=ov8.1;subst al0;subst al1;dsimp only [Zt0,Zaob,LT.den];have lx_0:v1.length*8<=140737488351232:=ov1.1;apply tD<;>intro h1
  .refine Tot.ix fun x1 h2=>?_;have ch2:=i0 _ h2.1;refine Tot.ix fun x2 h3=>?_;have oh3:(SzL 1 (fun _=>True)) x2:=ov8.2 x2 h3.1;have mh3:=h3.1;have nh3:=i9 _ h3.1;refine Tot.ix fun x3 h4=>?_;have ch4:=i0 _ h4.1;refine tB (Za3z O0 cl cl cl cl cl cl cl cl cl cl Zec) fun x4 h5=>Tot.ix fun x5 h6=>tB (Tot.setM) fun x6 h7=>?_;have lh7:x6.length=v8.length:=by rw [h7,List.length_set]
   have q1:=wr (v11+1);exact tL ⟨rfl,rfl,ov1,O0,ov7,SzL.setM h7 ov8 oh3,cl,cl,cl,Zaj,cl,cl,cl,cl,cl,cl,cl,cl,tk46,Zec⟩ Zav6
  have q1:=wr (v10+1);exact Zboh
abbrev Zaq1(a0:List Int)(a1:Int)(r:List Int):Prop:=((SzL 8 (fun _=>True)) r)/\(r=a0.filter fun y=>y != a1)
def Zaw0(a0:List Int)(a1:Int):Zmw->Prop
 | .L0 v0 v1 v5 v6=>(v0=a0)/\(v1=a1)/\((SzL 8 (fun _=>True)) v0)/\((SzL 8 (fun _=>True)) v5)/\(0<=v6)/\(v5.length<=v6.toNat)/\(v6.toNat<=v0.length)/\(v5=(v0.take v6.toNat).filter fun y=>y != v1)
def Z9u:Zmw->M6
 | .L0 v0 v1 v5 v6=>(1,((v0.length:Int) - v6).toNat,1000000,0,0,0)
theorem Zaw1{a0:List Int}{a1:Int}(oa0:(SzL 8 (fun _=>True)) a0):Tot (Zaoc a0 a1) (Zaq1 a0 a1):=by
 apply Tot.rn (Zaw0 a0 a1) Z9u
 .have lb_a0:=oa0.1;dsimp only [Zadn,LT.den];exact tL ⟨rfl,rfl,oa0,SzL.nil,cl,cl,cl,tk21⟩ Zbgi
 rintro ⟨v0,v1,v5,v6⟩ ⟨al0,al1,ov0,ov5,cv6,i0,i1,i2⟩;have lb_v0:=ov0.1;have lb_v5:=ov5.1;subst al0;subst al1;dsimp only [Zy6,Z82,LT.den];apply tD<;>intro h1
 .refine Tot.ix fun x1 h2=>?_;have mh2:=h2.2;apply tN<;>intro h3
  .refine Tot.ap fun x2 h4=>?_;have lh4:=Zaz h4;have q1:=wr (v6+1);exact tL ⟨rfl,rfl,ov0,SzL.tr,cl,cl,cl,tk21⟩ Zbgi
  have q1:=wr (v6+1);exact tL ⟨rfl,rfl,ov0,ov5,cl,cl,cl,tk21⟩ Zbgi
 exact tR ⟨ov5,(by exact Zbcu ‹_› (by omega))⟩
end Go.PW
