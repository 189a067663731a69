import Derived.Test.YtiglnkgoicjjfaaGreatQE
import Derived.Test.YtiglnkgoicjjfaaGreatQX
import Derived.Test.YtiglnkgoicjjfaaGreatPwYi
import Derived.Test.YtiglnkgoicjjfaaGreatQDc
import Derived.Test.YtiglnkgoicjjfaaGreatQPg
set_option linter.all false
set_option maxRecDepth 100000
namespace Go.PW
theorem Zk8{a0:(List Z5)}(oa0:(SzL 152 Zde) a0):Tot (Zco a0) (fun r=>((SzL 152 Zde) r)):=by
 unfold Zco
 split
 .refine tZ ?_
  have lb_a0:=oa0.1
  dsimp only [Zd5,LT.den]
  have q3:=oa0.1
  refine tB (tA (by first | omega | (simp only [List.length_cons,List.length_nil];omega)) (by decide)) (fun x1 h2=>?_)
  have lh2:x1.length=([]:(List Z5)).length+a0.length:=by rw [h2,List.length_append]
  try simp only [List.length_cons,List.length_nil,Nat.zero_add] at lh2
  exact tR (SzL.app (k:=152) h2 lo (fun _ h=>by cases h) oa0.2)
 .refine tZ ?_
  dsimp only [Zdu,LT.den]
  exact tR SzL.nil
theorem Zdh{a0:(List Int)}(oa0:(SzL 8 (fun _=>True)) a0):Tot (Zel a0) (fun r=>((SzL 8 (fun _=>True)) r)):=by
 unfold Zel
 split
 .refine tZ ?_
  have lb_a0:=oa0.1
  dsimp only [Zhd,LT.den]
  have q3:=oa0.1
  refine tB (tA (by first | omega | (simp only [List.length_cons,List.length_nil];omega)) (by decide)) (fun x1 h2=>?_)
  have lh2:x1.length=([]:(List Int)).length+a0.length:=by rw [h2,List.length_append]
  try simp only [List.length_cons,List.length_nil,Nat.zero_add] at lh2
  exact tR SzL.tr
 .refine tZ ?_
  dsimp only [Zg1,LT.den]
  exact tR SzL.nil
theorem Zk9{a0:(List Zp)}(oa0:(SzL 128 (fun _=>True)) a0):Tot (Zcp a0) (fun r=>((SzL 128 (fun _=>True)) r)):=by
 unfold Zcp
 split
 .refine tZ ?_
  have lb_a0:=oa0.1
  dsimp only [Zd6,LT.den]
  have q3:=oa0.1
  refine tB (tA (by first | omega | (simp only [List.length_cons,List.length_nil];omega)) (by decide)) (fun x1 h2=>?_)
  have lh2:x1.length=([]:(List Zp)).length+a0.length:=by rw [h2,List.length_append]
  try simp only [List.length_cons,List.length_nil,Nat.zero_add] at lh2
  exact tR SzL.tr
 .refine tZ ?_
  dsimp only [Zdw,LT.den]
  exact tR SzL.nil
theorem Zm4{a0:(List Zal)}(oa0:(SzL 824 Zd3) a0):Tot (Zc4 a0) (fun r=>((SzL 824 Zd3) r)):=by
 unfold Zc4
 split
 .refine tZ ?_
  have lb_a0:=oa0.1
  dsimp only [Zez,LT.den]
  have q3:=oa0.1
  refine tB (tA (by first | omega | (simp only [List.length_cons,List.length_nil];omega)) (by decide)) (fun x1 h2=>?_)
  have lh2:x1.length=([]:(List Zal)).length+a0.length:=by rw [h2,List.length_append]
  try simp only [List.length_cons,List.length_nil,Nat.zero_add] at lh2
  exact tR (SzL.app (k:=824) h2 lo (fun _ h=>by cases h) oa0.2)
 .refine tZ ?_
  dsimp only [Zes,LT.den]
  exact tR SzL.nil
theorem Zox{a0:(List Zq)}(oa0:(SzL 176 Zbk) a0):Tot (Zcu a0) (fun r=>((SzL 176 Zbk) r)):=by
 unfold Zcu
 split
 .refine tZ ?_
  have lb_a0:=oa0.1
  dsimp only [Ze7,LT.den]
  have q3:=oa0.1
  refine tB (tA (by first | omega | (simp only [List.length_cons,List.length_nil];omega)) (by decide)) (fun x1 h2=>?_)
  have lh2:x1.length=([]:(List Zq)).length+a0.length:=by rw [h2,List.length_append]
  try simp only [List.length_cons,List.length_nil,Nat.zero_add] at lh2
  exact tR (SzL.app (k:=176) h2 lo (fun _ h=>by cases h) oa0.2)
 .refine tZ ?_
  dsimp only [Ze3,LT.den]
  exact tR SzL.nil
theorem Zla{a0:(List Zbj)}(oa0:(SzL 16 (fun _=>True)) a0):Tot (Zb1 a0) (fun r=>((SzL 16 (fun _=>True)) r)):=by
 unfold Zb1
 split
 .refine tZ ?_
  have lb_a0:=oa0.1
  dsimp only [Zd7,LT.den]
  have q3:=oa0.1
  refine tB (tA (by first | omega | (simp only [List.length_cons,List.length_nil];omega)) (by decide)) (fun x1 h2=>?_)
  have lh2:x1.length=([]:(List Zbj)).length+a0.length:=by rw [h2,List.length_append]
  try simp only [List.length_cons,List.length_nil,Nat.zero_add] at lh2
  exact tR SzL.tr
 .refine tZ ?_
  dsimp only [Zdx,LT.den]
  exact tR SzL.nil
theorem Zkm{a0:(List Zab)}(oa0:(SzL 768 Zfm) a0):Tot (Zcg a0) (fun r=>((SzL 768 Zfm) r)):=by
 unfold Zcg
 split
 .refine tZ ?_
  have lb_a0:=oa0.1
  dsimp only [Zdo,LT.den]
  have q3:=oa0.1
  refine tB (tA (by first | omega | (simp only [List.length_cons,List.length_nil];omega)) (by decide)) (fun x1 h2=>?_)
  have lh2:x1.length=([]:(List Zab)).length+a0.length:=by rw [h2,List.length_append]
  try simp only [List.length_cons,List.length_nil,Nat.zero_add] at lh2
  exact tR (SzL.app (k:=768) h2 lo (fun _ h=>by cases h) oa0.2)
 .refine tZ ?_
  dsimp only [Zdk,LT.den]
  exact tR SzL.nil
theorem Zm5{a0:(List Za1)}(oa0:(SzL 80 Zfn) a0):Tot (Zc5 a0) (fun r=>((SzL 80 Zfn) r)):=by
 unfold Zc5
 split
 .refine tZ ?_
  have lb_a0:=oa0.1
  dsimp only [Ze0,LT.den]
  have q3:=oa0.1
  refine tB (tA (by first | omega | (simp only [List.length_cons,List.length_nil];omega)) (by decide)) (fun x1 h2=>?_)
  have lh2:x1.length=([]:(List Za1)).length+a0.length:=by rw [h2,List.length_append]
  try simp only [List.length_cons,List.length_nil,Nat.zero_add] at lh2
  exact tR (SzL.app (k:=80) h2 lo (fun _ h=>by cases h) oa0.2)
 .refine tZ ?_
  dsimp only [Zet,LT.den]
  exact tR SzL.nil
theorem Zlb{a0:(List Zaf)}(oa0:(SzL 24 (fun _=>True)) a0):Tot (Zcq a0) (fun r=>((SzL 24 (fun _=>True)) r)):=by
 unfold Zcq
 split
 .refine tZ ?_
  have lb_a0:=oa0.1
  dsimp only [Zd8,LT.den]
  have q3:=oa0.1
  refine tB (tA (by first | omega | (simp only [List.length_cons,List.length_nil];omega)) (by decide)) (fun x1 h2=>?_)
  have lh2:x1.length=([]:(List Zaf)).length+a0.length:=by rw [h2,List.length_append]
  try simp only [List.length_cons,List.length_nil,Nat.zero_add] at lh2
  exact tR SzL.tr
 .refine tZ ?_
  dsimp only [Zdz,LT.den]
  exact tR SzL.nil
theorem Zsu(a0:Zs)(oa0:Zbo a0):Tot (Zjs a0) (fun r=>Zbo r):=⟨_,Zmu a0 oa0,oa0⟩
theorem Zaix(a0:Za)(a1 a2:Int)(oa0:Zt a0):Tot (Zxj a0 a1 a2) (fun _=>True):=⟨_,Zmm a0 a1 a2 oa0,trivial⟩
theorem Zzr(a0:Int)(b0:Z6)(b1:Int)(ob0:Zcn b0):Tot (Zj0 a0 b0 b1) (fun _=>True):=⟨_,Zabq b0 b1 a0 ob0,trivial⟩
theorem Zap7(a0:Za)(oa0:Zt a0):Tot (Zy5 a0) (fun r=>(Zt r)/\(r=a0)):=⟨_,Zabp a0 oa0,oa0,rfl⟩
theorem Zauf(a0:Z6)(a1:Int)(oa0:Zcn a0):Tot (Z8g a0 a1) (fun r=>(Zce r)/\(r=vOf rK a0 a1)):=⟨_,Zawb a0 a1 oa0,Zag5 _ _ _ oa0,rfl⟩
theorem Zarh(a0:Z6)(a1:Int)(oa0:Zcn a0):Tot (Z3i a0 a1) (fun r=>(Zce r)/\(r=vOf vK a0 a1)):=⟨_,Z5g a0 a1 oa0,Zag5 _ _ _ oa0,rfl⟩
theorem Zap8(a0 a1:Za)(oa0:Zt a0)(oa1:Zt a1):Tot (Z42 a0 a1) (fun r=>(r=decide (a0=a1))):=⟨_,Zabs a0 a1 oa0,rfl⟩
theorem Zap9(a0 a1:Zj)(oa0:Zce a0)(oa1:Zce a1):Tot (Z44 a0 a1) (fun r=>(r=decide (a0=a1))):=⟨_,Zarg a0 a1 oa0,rfl⟩
theorem Zayg(a0:Z6)(oa0:Zcn a0):Tot (Zxt a0) (fun r=>(r=true->VS a0.State)):=(Tot.we (Zare oa0)).mono fun r h hr=>Za0z a0 oa0 (by rw [h.2,hr])
theorem Z6a:Tot Z0w (fun r=>r=true):=⟨_,Zazv,rfl⟩
theorem Zzs{a0:Z5}(oa0:Zde a0):Tot (Zmt a0) (fun r=>(Zde r)):=by
 unfold Zmt
 refine tZ ?_
 dsimp only [Zq9,LT.den]
 refine tB (Zdh oa0.1) (fun x1 h2=>?_)
 refine tB (Zdh oa0.2.1) (fun x3 h4=>?_)
 refine tB (Zdh oa0.2.2) (fun x5 h6=>?_)
 exact tR ⟨h2,h4,h6⟩
theorem Tot.dry{α:Type}{σ1:α->List (Nat×Blk)}{p:α->PV}{o:Option α}{Q:α->Prop}(hs:∀ x,((p x).sc&&Zs8 (σ1 x))=true)(h:Tot o Q):Tot (dry? σ1 p o) Q:=by
 obtain⟨r,h1,h2⟩:=h
 exact⟨r,by rw [dry?,h1,Option.bind_some,hs r];rfl,h2⟩
def Z9w:Zgr->Prop
 | .L0 E0 E1 v13 v14=>(Zt E0)/\(Zt E1)/\(0<=v14)/\(v13=(E0.Players.length:Int))
 | .L1 E0 E1 v46 v47=>(Zt E0)/\(Zt E1)/\(0<=v47)/\(v46=(E0.Stack.length:Int))
 | .L2 E0 E1 v81 v82=>(Zt E0)/\(Zt E1)/\(0<=v82)/\(v81=(E0.Waiting.length:Int))
 | .L3 E0 E1 v104 v105=>(Zt E0)/\(Zt E1)/\(0<=v105)/\(v104=(E0.Conts.length:Int))
def Zff:Zgr->M6
 | .L0 E0 E1 v13 v14=>(7,(v13 - v14).toNat,1000000,0,0,0)
 | .L1 E0 E1 v46 v47=>(5,(v46 - v47).toNat,1000000,0,0,0)
 | .L2 E0 E1 v81 v82=>(3,(v81 - v82).toNat,1000000,0,0,0)
 | .L3 E0 E1 v104 v105=>(1,(v104 - v105).toNat,1000000,0,0,0)
theorem Z9x{a0:Za}(oa0:Zt a0):Tot (Zwc a0) (fun r=>(Zt r)):=by
 unfold Zwc
 refine tX (Inv:=Z9w) (μ:=Zff) (m:=(1000000,0,0,0,0,0)) ?_ ?_
 .dsimp only [Z0y,LT.den]
  refine tB (Zk8 oa0.1) (fun x1 h2=>?_)
  exact tL ⟨⟨h2,oa0.2.1,oa0.2.2.1,oa0.2.2.2.1,oa0.2.2.2.2.1,oa0.2.2.2.2.2.1,oa0.2.2.2.2.2.2.1,oa0.2.2.2.2.2.2.2⟩,⟨SzL.nil,SzL.nil,SzL.nil,SzL.nil,SzL.nil,SzL.nil,SzL.nil,SzL.nil⟩,cl,cl⟩ (by unfold Zff lt6;dsimp only;omega)
 .intro s hs
  cases s with
  | L0 E0 E1 v13 v14=>
   obtain⟨O0,O1,cv14,i0⟩:=hs
   show Tot (Zqp E0 E1 v13 v14).den _
   dsimp only [Zqp,LT.den]
   have lr:=O0.1.1
   refine tD (fun h1=>?_) (fun h1=>?_)
   .refine tB (tI (by omega) (by omega)) (fun x2 h3=>?_)
    have oh3:Zde x2:=O0.1.2 x2 h3.1
    refine tB (Zzs oh3) (fun x4 h5=>?_)
    refine tB (Tot.set (by omega) (by omega)) (fun x6 h7=>?_)
    have lh7:=h7.1
    refine qw (v14+1) fun q8 q9=>?_
    refine tB (tK (by first | omega | exact shl_ne' (by omega) (by omega) | decide)) (fun x10 h11=>?_)
    exact tL ⟨⟨⟨lo,fun e he=>(h7.2.1 e he).elim (fun w=>by rw [w];exact h5) (O0.1.2 e)⟩,O0.2.1,O0.2.2.1,O0.2.2.2.1,O0.2.2.2.2.1,O0.2.2.2.2.2.1,O0.2.2.2.2.2.2.1,O0.2.2.2.2.2.2.2⟩,O1,cl,cl⟩ (by unfold Zff lt6;dsimp only;omega)
   .refine tB (tK (by first | omega | (simp only [List.length_map];omega))) (fun _ _=>?_)
    refine tB (Zk9 O0.2.1) (fun x12 h13=>?_)
    refine tB (Zdh O0.2.2.1) (fun x14 h15=>?_)
    refine tB (Zdh O0.2.2.2.1) (fun x16 h17=>?_)
    refine tB (Zm4 O0.2.2.2.2.1) (fun x18 h19=>?_)
    exact tL ⟨⟨O0.1,h13,h15,h17,h19,O0.2.2.2.2.2.1,O0.2.2.2.2.2.2.1,O0.2.2.2.2.2.2.2⟩,O1,cl,cl⟩ (by unfold Zff lt6;dsimp only;omega)
  | L1 E0 E1 v46 v47=>
   obtain⟨O0,O1,cv47,i0⟩:=hs
   show Tot (Zqq E0 E1 v46 v47).den _
   dsimp only [Zqq,LT.den]
   have lr:=O0.2.2.2.2.1.1
   refine tD (fun h1=>?_) (fun h1=>?_)
   .refine tB (tI (by omega) (by omega)) (fun x2 h3=>?_)
    have oh3:Zd3 x2:=O0.2.2.2.2.1.2 x2 h3.1
    refine tB (Zsu x2.Ability oh3.1) (fun x4 h5=>?_)
    refine tB (Tot.set (by omega) (by omega)) (fun x6 h7=>?_)
    have lh7:=h7.1
    refine tB (tI (by omega) (by omega)) (fun x8 h9=>?_)
    have oh9:Zd3 x8:=(show SzL 1 Zd3 _ from ⟨lo,fun e he=>(h7.2.1 e he).elim (fun w=>by rw [w];exact⟨h5,oh3.2⟩) (O0.2.2.2.2.1.2 e)⟩).2 x8 h9.1
    refine tB (Zla oh9.2) (fun x10 h11=>?_)
    refine tB (Tot.set (by omega) (by omega)) (fun x12 h13=>?_)
    have lh13:=h13.1
    refine qw (v47+1) fun q14 q15=>?_
    exact tL ⟨⟨O0.1,O0.2.1,O0.2.2.1,O0.2.2.2.1,⟨lo,fun e he=>(h13.2.1 e he).elim (fun w=>by rw [w];exact⟨oh9.1,h11⟩) ((show SzL 1 Zd3 _ from ⟨lo,fun e he=>(h7.2.1 e he).elim (fun w=>by rw [w];exact⟨h5,oh3.2⟩) (O0.2.2.2.2.1.2 e)⟩).2 e)⟩,O0.2.2.2.2.2.1,O0.2.2.2.2.2.2.1,O0.2.2.2.2.2.2.2⟩,O1,cl,cl⟩ (by unfold Zff lt6;dsimp only;omega)
   .refine tB (Zkm O0.2.2.2.2.2.1) (fun x16 h17=>?_)
    exact tL ⟨⟨O0.1,O0.2.1,O0.2.2.1,O0.2.2.2.1,O0.2.2.2.2.1,h17,O0.2.2.2.2.2.2.1,O0.2.2.2.2.2.2.2⟩,O1,cl,cl⟩ (by unfold Zff lt6;dsimp only;omega)
  | L2 E0 E1 v81 v82=>
   obtain⟨O0,O1,cv82,i0⟩:=hs
   show Tot (Zqr E0 E1 v81 v82).den _
   dsimp only [Zqr,LT.den]
   have lr:=O0.2.2.2.2.2.1.1
   refine tD (fun h1=>?_) (fun h1=>?_)
   .refine tB (tI (by omega) (by omega)) (fun x2 h3=>?_)
    have oh3:Zfm x2:=O0.2.2.2.2.2.1.2 x2 h3.1
    refine tB (Zsu x2.Ability oh3) (fun x4 h5=>?_)
    refine tB (Tot.set (by omega) (by omega)) (fun x6 h7=>?_)
    have lh7:=h7.1
    refine qw (v82+1) fun q8 q9=>?_
    exact tL ⟨⟨O0.1,O0.2.1,O0.2.2.1,O0.2.2.2.1,O0.2.2.2.2.1,⟨lo,fun e he=>(h7.2.1 e he).elim (fun w=>by rw [w];exact h5) (O0.2.2.2.2.2.1.2 e)⟩,O0.2.2.2.2.2.2.1,O0.2.2.2.2.2.2.2⟩,O1,cl,cl⟩ (by unfold Zff lt6;dsimp only;omega)
   .refine tB (Zm5 O0.2.2.2.2.2.2.1) (fun x10 h11=>?_)
    exact tL ⟨⟨O0.1,O0.2.1,O0.2.2.1,O0.2.2.2.1,O0.2.2.2.2.1,O0.2.2.2.2.2.1,h11,O0.2.2.2.2.2.2.2⟩,O1,cl,cl⟩ (by unfold Zff lt6;dsimp only;omega)
  | L3 E0 E1 v104 v105=>
   obtain⟨O0,O1,cv105,i0⟩:=hs
   show Tot (Zqs E0 E1 v104 v105).den _
   dsimp only [Zqs,LT.den]
   have lr:=O0.2.2.2.2.2.2.1.1
   refine tD (fun h1=>?_) (fun h1=>?_)
   .refine tB (tI (by omega) (by omega)) (fun x2 h3=>?_)
    have oh3:Zfn x2:=O0.2.2.2.2.2.2.1.2 x2 h3.1
    refine tB (Zdh oh3.1) (fun x4 h5=>?_)
    refine tB (Tot.set (by omega) (by omega)) (fun x6 h7=>?_)
    have lh7:=h7.1
    refine tB (tI (by omega) (by omega)) (fun x8 h9=>?_)
    have oh9:Zfn x8:=(show SzL 1 Zfn _ from ⟨lo,fun e he=>(h7.2.1 e he).elim (fun w=>by rw [w];exact⟨h5,oh3.2⟩) (O0.2.2.2.2.2.2.1.2 e)⟩).2 x8 h9.1
    refine tB (Zox oh9.2) (fun x10 h11=>?_)
    refine tB (Tot.set (by omega) (by omega)) (fun x12 h13=>?_)
    have lh13:=h13.1
    refine qw (v105+1) fun q14 q15=>?_
    exact tL ⟨⟨O0.1,O0.2.1,O0.2.2.1,O0.2.2.2.1,O0.2.2.2.2.1,O0.2.2.2.2.2.1,⟨lo,fun e he=>(h13.2.1 e he).elim (fun w=>by rw [w];exact⟨oh9.1,h11⟩) ((show SzL 1 Zfn _ from ⟨lo,fun e he=>(h7.2.1 e he).elim (fun w=>by rw [w];exact⟨h5,oh3.2⟩) (O0.2.2.2.2.2.2.1.2 e)⟩).2 e)⟩,O0.2.2.2.2.2.2.2⟩,O1,cl,cl⟩ (by unfold Zff lt6;dsimp only;omega)
   .refine tB (Zdh O0.2.2.2.2.2.2.2) (fun x16 h17=>?_)
    exact tR ⟨O0.1,O0.2.1,O0.2.2.1,O0.2.2.2.1,O0.2.2.2.2.1,O0.2.2.2.2.2.1,O0.2.2.2.2.2.2.1,h17⟩
def Zag6:Zj7->Prop
 | .L0 E0 E1 E2 E3 E4 v47 v48 v49=>(Zcn E0)/\(Zce E2)/\(Zt E3)/\(Zce E4)/\((SzL 152 Zde) v47)/\(0<=v49)/\(E4.Objects.length=0)/\(v48=(v47.length:Int))/\(E4.Players.length<=v49.toNat)/\(v49<=v48)
 | .L1 E0 E1 E2 E3 E4 v86 v87 v88=>(Zcn E0)/\(Zce E2)/\(Zt E3)/\(Zce E4)/\((SzL 128 (fun _=>True)) v86)/\(0<=v88)/\(v87=(v86.length:Int))/\(E4.Objects.length<=v88.toNat)/\(v88<=v87)
def Zhb:Zj7->M6
 | .L0 E0 E1 E2 E3 E4 v47 v48 v49=>(3,(v48 - v49).toNat,1000000,0,0,0)
 | .L1 E0 E1 E2 E3 E4 v86 v87 v88=>(1,(v87 - v88).toNat,1000000,0,0,0)
theorem Zag7{a0:Z6}{a1:Int}(oa0:Zcn a0):Tot (Z2c a0 a1) (fun r=>(Zce r)):=by
 unfold Z2c
 refine tX (Inv:=Zag6) (μ:=Zhb) (m:=(1000000,0,0,0,0,0)) ?_ ?_
 .dsimp only [Z5x,LT.den]
  refine tB (Z9x oa0.2.1) (fun x1 h2=>?_)
  have q3:=h2.1.1
  exact tL ⟨oa0,⟨SzL.nil,SzL.nil,SzL.nil,SzL.nil,SzL.nil,SzL.nil,SzL.nil,SzL.nil,SzL.nil,SzL.nil⟩,h2,⟨SzL.nil,SzL.nil,SzL.nil,h2.2.2.1,h2.2.2.2.1,h2.2.2.2.2.1,h2.2.2.2.2.2.1,h2.2.2.2.2.2.2.1,h2.2.2.2.2.2.2.2,SzL.nil⟩,h2.1,cl,cl,cl,cl,cl⟩ (by unfold Zhb lt6;dsimp only;omega)
 .intro s hs
  cases s with
  | L0 E0 E1 E2 E3 E4 v47 v48 v49=>
   obtain⟨O0,O2,O3,O4,ov47,cv49,i0,i1,i2,i3⟩:=hs
   have lb_v47:=ov47.1
   show Tot (Ztn E0 E1 E2 E3 E4 v47 v48 v49).den _
   dsimp only [Ztn,LT.den]
   refine tD (fun h1=>?_) (fun h1=>?_)
   .refine tB (tI (by omega) (by omega)) (fun x2 h3=>?_)
    have oh3:Zde x2:=ov47.2 x2 h3.1
    have q4:=oh3.1.1
    have q5:=oh3.2.1.1
    have q8:=O4.1.1
    refine tB (tA (by simp only [List.length_cons,List.length_nil];omega) (by decide)) (fun x6 h7=>?_)
    have lh7:x6.length=E4.Players.length+1:=by rw [h7,List.length_append];rfl
    refine tE (fun h9=>?_) (fun h9=>?_)
    .refine qw (v49+1) fun q10 q11=>?_
     exact tL ⟨O0,O2,O3,⟨(SzL.app (k:=120) h7 lo O4.1.2 (me1 oh3.2.2)),oh3.2.1,O4.2.2.1,O4.2.2.2.1,O4.2.2.2.2.1,O4.2.2.2.2.2.1,O4.2.2.2.2.2.2.1,O4.2.2.2.2.2.2.2.1,O4.2.2.2.2.2.2.2.2.1,O4.2.2.2.2.2.2.2.2.2⟩,ov47,cl,cl,cl,cl,cl⟩ (by unfold Zhb lt6;dsimp only;omega)
    .refine qw (v49+1) fun q12 q13=>?_
     exact tL ⟨O0,O2,O3,⟨(SzL.app (k:=120) h7 lo O4.1.2 (me1 oh3.2.2)),O4.2.1,O4.2.2.1,O4.2.2.2.1,O4.2.2.2.2.1,O4.2.2.2.2.2.1,O4.2.2.2.2.2.2.1,O4.2.2.2.2.2.2.2.1,O4.2.2.2.2.2.2.2.2.1,O4.2.2.2.2.2.2.2.2.2⟩,ov47,cl,cl,cl,cl,cl⟩ (by unfold Zhb lt6;dsimp only;omega)
   .have q14:=O3.2.1.1
    exact tL ⟨O0,O2,O3,O4,O3.2.1,cl,cl,cl,cl⟩ (by unfold Zhb lt6;dsimp only;omega)
  | L1 E0 E1 E2 E3 E4 v86 v87 v88=>
   obtain⟨O0,O2,O3,O4,ov86,cv88,i0,i1,i2⟩:=hs
   have lb_v86:=ov86.1
   show Tot (Zto E0 E1 E2 E3 E4 v86 v87 v88).den _
   dsimp only [Zto,LT.den]
   refine tD (fun h1=>?_) (fun h1=>?_)
   .refine tB (tI (by omega) (by omega)) (fun x2 h3=>?_)
    refine tB (Tot.dry (fun _=>rfl) (Zaix E3 E1 x2.Id O3)) (fun x4 h5=>?_)
    refine tF (fun h6=>?_) (fun h6=>?_)
    .have q9:=O4.2.2.1.1
     refine tB (tA (by simp only [List.length_cons,List.length_nil];omega) (by decide)) (fun x7 h8=>?_)
     have lh8:x7.length=E4.Objects.length+1:=by rw [h8,List.length_append];rfl
     refine qw (v88+1) fun q10 q11=>?_
     exact tL ⟨O0,O2,O3,⟨O4.1,O4.2.1,SzL.tr,O4.2.2.2.1,O4.2.2.2.2.1,O4.2.2.2.2.2.1,O4.2.2.2.2.2.2.1,O4.2.2.2.2.2.2.2.1,O4.2.2.2.2.2.2.2.2.1,O4.2.2.2.2.2.2.2.2.2⟩,ov86,cl,cl,cl,cl⟩ (by unfold Zhb lt6;dsimp only;omega)
    .refine tB (Zzr x2.Id E0 E1 O0) (fun x12 h13=>?_)
     refine tF (fun h14=>?_) (fun h14=>?_)
     .have q17:=O4.2.2.1.1
      refine tB (tA (by simp only [List.length_cons,List.length_nil];omega) (by decide)) (fun x15 h16=>?_)
      have lh16:x15.length=E4.Objects.length+1:=by rw [h16,List.length_append];rfl
      refine qw (v88+1) fun q18 q19=>?_
      exact tL ⟨O0,O2,O3,⟨O4.1,O4.2.1,SzL.tr,O4.2.2.2.1,O4.2.2.2.2.1,O4.2.2.2.2.2.1,O4.2.2.2.2.2.2.1,O4.2.2.2.2.2.2.2.1,O4.2.2.2.2.2.2.2.2.1,O4.2.2.2.2.2.2.2.2.2⟩,ov86,cl,cl,cl,cl⟩ (by unfold Zhb lt6;dsimp only;omega)
     .refine qw (v88+1) fun q20 q21=>?_
      exact tL ⟨O0,O2,O3,O4,ov86,cl,cl,cl,cl⟩ (by unfold Zhb lt6;dsimp only;omega)
   .refine tE (fun h22=>?_) (fun h22=>?_)
    .refine tB (Zlb O0.2.2.2.1) (fun x23 h24=>?_)
     refine tB (tK (by first | omega | (simp only [List.length_map];omega))) (fun _ _=>?_)
     exact tR ⟨O4.1,O4.2.1,O4.2.2.1,O4.2.2.2.1,O4.2.2.2.2.1,O4.2.2.2.2.2.1,O4.2.2.2.2.2.2.1,O4.2.2.2.2.2.2.2.1,O4.2.2.2.2.2.2.2.2.1,h24⟩
    .refine tB (tK (by first | omega | (simp only [List.length_map];omega))) (fun _ _=>?_)
     exact tR ⟨O4.1,O4.2.1,O4.2.2.1,O4.2.2.2.1,O4.2.2.2.2.1,O4.2.2.2.2.2.1,O4.2.2.2.2.2.2.1,O4.2.2.2.2.2.2.2.1,O4.2.2.2.2.2.2.2.2.1,SzL.nil⟩
def Zag8:Zgc->Prop
 | .L0 v1 E0 E1 E2 E3 v8=>(Zcn E0)/\(Zt E1)/\(Zce E2)/\(Zce E3)/\(0<=v8)/\(E1=E0.State)/\(E2=vOf rK E0 v1)/\(VS E0.State)
 | .L1 v1 E0 E1 E2 E3 v9=>(Zcn E0)/\(Zt E1)/\(Zce E2)/\(Zce E3)/\(0<=v9)/\(E1=E0.State)/\(E2=vOf rK E0 v1)/\(VS E0.State)
 | .L2 v1 E0 E1 E2 E3 v10=>(Zcn E0)/\(Zt E1)/\(Zce E2)/\(Zce E3)/\(0<=v10)/\(E1=E0.State)/\(E2=vOf rK E0 v1)/\(VS E0.State)
 | .L3 v1 E0 E1 E2 E3 v11=>(Zcn E0)/\(Zt E1)/\(Zce E2)/\(Zce E3)/\(0<=v11)/\(E1=E0.State)/\(E2=vOf rK E0 v1)/\(VS E0.State)
 | .L4 v1 E0 E1 E2 E3 v12=>(Zcn E0)/\(Zt E1)/\(Zce E2)/\(Zce E3)/\(0<=v12)/\(E1=E0.State)/\(E2=vOf rK E0 v1)/\(VS E0.State)
 | .L5 v1 E0 E1 E2 E3 v12 v13=>(Zcn E0)/\(Zt E1)/\(Zce E2)/\(Zce E3)/\(0<=v12)/\(0<=v13)/\(v12 < (E3.Players.length:Int))/\(E1=E0.State)/\(E2=vOf rK E0 v1)/\(VS E0.State)/\(v12 < (E3.Players.length:Int))
def Zd4:Zgc->M6
 | .L0 v1 E0 E1 E2 E3 v8=>(9,((E3.Objects.length:Int) - v8).toNat,1000000,0,0,0)
 | .L1 v1 E0 E1 E2 E3 v9=>(7,((E3.Hand.length:Int) - v9).toNat,1000000,0,0,0)
 | .L2 v1 E0 E1 E2 E3 v10=>(5,((E3.Battlefield.length:Int) - v10).toNat,1000000,0,0,0)
 | .L3 v1 E0 E1 E2 E3 v11=>(3,((E3.Pending.Options.length:Int) - v11).toNat,1000000,0,0,0)
 | .L4 v1 E0 E1 E2 E3 v12=>(1,((E3.Players.length:Int) - v12).toNat,1000000,0,0,0)
 | .L5 v1 E0 E1 E2 E3 v12 v13=>(1,((E3.Players.length:Int) - v12).toNat,1,((((E3.Players[v12.toNat]?).map fun x=>x.Graveyard.length).getD 0:Nat) - v13).toNat,1000000,0)
theorem Zag9{a0:Z6}{a1:Int}(oa0:Zcn a0):Tot (Z2d a0 a1) (fun r=>(r=true)):=by
 unfold Z2d
 refine tX (Inv:=Zag8) (μ:=Zd4) (m:=(1000000,0,0,0,0,0)) ?_ ?_
 .dsimp only [Z5z,LT.den]
  refine tB (Zayg a0 oa0) (fun x1 h2=>?_)
  have eh2_0:=h2
  refine tO (fun h3=>?_) (fun h3=>?_)
  .refine tB (Z6a) (fun x4 h5=>?_)
   have eh5_0:=h5
   exact tR (by first | assumption | grind)
  .have h3_0:=eh2_0 h3
   refine tB (Zap7 a0.State oa0.2.1) (fun x6 h7=>?_)
   have eh7_1:=h7.2
   refine tB (Zauf a0 a1 oa0) (fun x8 h9=>?_)
   have eh9_1:=h9.2
   refine tB (Zag7 oa0) (fun x10 h11=>?_)
   exact tL ⟨oa0,h7.1,h9.1,h11,cl,(by first | assumption | grind),(by first | assumption | grind),(by first | assumption | grind)⟩ (by unfold Zd4 lt6;dsimp only;omega)
 .intro s hs
  cases s with
  | L0 v1 E0 E1 E2 E3 v8=>
   obtain⟨O0,O1,O2,O3,cv8,i0,i1,i2⟩:=hs
   show Tot (Ztp v1 E0 E1 E2 E3 v8).den _
   dsimp only [Ztp,LT.den]
   have q1:=O3.2.2.1.1
   refine tD (fun h2=>?_) (fun h2=>?_)
   .refine tB (tI (by omega) (by omega)) (fun x3 h4=>?_)
    refine qw (v8+1) fun q5 q6=>?_
    exact tL ⟨O0,O1,O2,O3,cl,(by first | assumption | grind),(by first | assumption | grind),(by first | assumption | grind)⟩ (by unfold Zd4 lt6;dsimp only;omega)
   .exact tL ⟨O0,O1,O2,O3,cl,(by first | assumption | grind),(by first | assumption | grind),(by first | assumption | grind)⟩ (by unfold Zd4 lt6;dsimp only;omega)
  | L1 v1 E0 E1 E2 E3 v9=>
   obtain⟨O0,O1,O2,O3,cv9,i0,i1,i2⟩:=hs
   show Tot (Ztq v1 E0 E1 E2 E3 v9).den _
   dsimp only [Ztq,LT.den]
   have q1:=O3.2.1.1
   refine tD (fun h2=>?_) (fun h2=>?_)
   .refine tB (tI (by omega) (by omega)) (fun x3 h4=>?_)
    refine qw (v9+1) fun q5 q6=>?_
    exact tL ⟨O0,O1,O2,O3,cl,(by first | assumption | grind),(by first | assumption | grind),(by first | assumption | grind)⟩ (by unfold Zd4 lt6;dsimp only;omega)
   .exact tL ⟨O0,O1,O2,O3,cl,(by first | assumption | grind),(by first | assumption | grind),(by first | assumption | grind)⟩ (by unfold Zd4 lt6;dsimp only;omega)
  | L2 v1 E0 E1 E2 E3 v10=>
   obtain⟨O0,O1,O2,O3,cv10,i0,i1,i2⟩:=hs
   show Tot (Ztr v1 E0 E1 E2 E3 v10).den _
   dsimp only [Ztr,LT.den]
   have q1:=O3.2.2.2.1.1
   refine tD (fun h2=>?_) (fun h2=>?_)
   .refine tB (tI (by omega) (by omega)) (fun x3 h4=>?_)
    refine qw (v10+1) fun q5 q6=>?_
    exact tL ⟨O0,O1,O2,O3,cl,(by first | assumption | grind),(by first | assumption | grind),(by first | assumption | grind)⟩ (by unfold Zd4 lt6;dsimp only;omega)
   .exact tL ⟨O0,O1,O2,O3,cl,(by first | assumption | grind),(by first | assumption | grind),(by first | assumption | grind)⟩ (by unfold Zd4 lt6;dsimp only;omega)
  | L3 v1 E0 E1 E2 E3 v11=>
   obtain⟨O0,O1,O2,O3,cv11,i0,i1,i2⟩:=hs
   show Tot (Zts v1 E0 E1 E2 E3 v11).den _
   dsimp only [Zts,LT.den]
   have q1:=O3.2.2.2.2.2.2.2.2.2.1
   refine tD (fun h2=>?_) (fun h2=>?_)
   .refine tB (tI (by omega) (by omega)) (fun x3 h4=>?_)
    refine qw (v11+1) fun q5 q6=>?_
    exact tL ⟨O0,O1,O2,O3,cl,(by first | assumption | grind),(by first | assumption | grind),(by first | assumption | grind)⟩ (by unfold Zd4 lt6;dsimp only;omega)
   .exact tL ⟨O0,O1,O2,O3,cl,(by first | assumption | grind),(by first | assumption | grind),(by first | assumption | grind)⟩ (by unfold Zd4 lt6;dsimp only;omega)
  | L4 v1 E0 E1 E2 E3 v12=>
   obtain⟨O0,O1,O2,O3,cv12,i0,i1,i2⟩:=hs
   show Tot (Ztt v1 E0 E1 E2 E3 v12).den _
   dsimp only [Ztt,LT.den]
   have q1:=O3.1.1
   refine tD (fun h2=>?_) (fun h2=>?_)
   .exact tL ⟨O0,O1,O2,O3,cl,cl,cl,(by first | assumption | grind),(by first | assumption | grind),(by first | assumption | grind),cl⟩ (by unfold Zd4 lt6;dsimp only;omega)
   .refine tB (Zap8 E0.State E1 O0.2.1 O1) (fun x3 h4=>?_)
    have eh4_0:=h4
    refine tF (fun h5=>?_) (fun h5=>?_)
    .refine tB (Zarh E0 v1 O0) (fun x6 h7=>?_)
     have eh7_1:=h7.2
     have wh7:=Za00 (by assumption:VS E0.State) v1
     refine tB (Zap9 x6 E2 h7.1 O2) (fun x8 h9=>?_)
     have eh9_0:=h9
     refine tF (fun h10=>?_) (fun h10=>?_)
     .refine tB (Z6a) (fun x11 h12=>?_)
      have eh12_0:=h12
      exact tR (by first | assumption | grind)
     .exact tR (by first | assumption | grind)
    .exact tR (by first | assumption | grind)
  | L5 v1 E0 E1 E2 E3 v12 v13=>
   obtain⟨O0,O1,O2,O3,cv12,cv13,bd6,i0,i1,i2,i3⟩:=hs
   show Tot (Ztu v1 E0 E1 E2 E3 v12 v13).den _
   dsimp only [Ztu,LT.den]
   have lx_0:E3.Players.length*120<=140737488351232:=O3.1.1
   refine tB (tI (by omega) (by omega)) (fun x1 h2=>?_)
   have oh2:Zud x1:=O3.1.2 x1 h2.1
   have mh2:((E3.Players[v12.toNat]?).map fun x=>x.Graveyard.length).getD 0=x1.Graveyard.length:=by rw [h2.2];rfl
   have q3:=oh2.1
   refine tD (fun h4=>?_) (fun h4=>?_)
   .refine tB (tI (by omega) (by omega)) (fun x5 h6=>?_)
    refine qw (v13+1) fun q7 q8=>?_
    exact tL ⟨O0,O1,O2,O3,cl,cl,cl,(by first | assumption | grind),(by first | assumption | grind),(by first | assumption | grind),cl⟩ (by unfold Zd4 lt6;dsimp only;omega)
   .refine qw (v12+1) fun q9 q10=>?_
    exact tL ⟨O0,O1,O2,O3,cl,(by first | assumption | grind),(by first | assumption | grind),(by first | assumption | grind)⟩ (by unfold Zd4 lt6;dsimp only;omega)
end Go.PW
