import Derived.Test.YtiglnkgoicjjfaaQE
import Derived.Test.YtiglnkgoicjjfaaPwYi
import Derived.Test.YtiglnkgoicjjfaaQDa
import Derived.Test.YtiglnkgoicjjfaaQS
set_option linter.all false
set_option maxRecDepth 100000
namespace Go.PW
abbrev Zl1(x:Z6):Prop:=(SzL 16 SzT) x.Subs
theorem Zte{x:Z6}(h:Zlz x):Zl1 x:=(Zk2 h.2.2 (fun _ h=>Z5i h))
abbrev Zc0(x:Z8):Prop:=SzS x.Sub
theorem Zcd{x:Z8}(h:Zch x):Zc0 x:=(Zrv h.2.2.2.2.2.2.2.1)
abbrev Zcl(x:Z4):Prop:=SzS x.Sub/\Zc0 x.Filter
theorem Znq{x:Z4}(h:Zki x):Zcl x:=⟨Zrv h.2.2.2.1,Zcd h.2.2.2.2⟩
abbrev Zmf(x:Zb5):Prop:=Zc0 x.Filter
theorem Zpj{x:Zb5}(h:Ziz x):Zmf x:=(Zcd h.2.2)
abbrev Zex(x:Zai):Prop:=Zc0 x.Filter
theorem Ztf{x:Zai}(h:Zl0 x):Zex x:=(Zcd h.2.2)
abbrev Zsa(x:Zkn):Prop:=Zc0 x.Filter
theorem Zue{x:Zkn}(h:Zm5 x):Zsa x:=(Zcd h.2.2)
abbrev Znr(x:Zgg):Prop:=Zc0 x.Filter
theorem Zqn{x:Zgg}(h:Zj5 x):Znr x:=(Zcd h.2.2.2)
abbrev Zbg(x:Zy):Prop:=Zsa x.Ref/\Znr x.Amount/\SzS x.Card/\Zc0 x.Filter/\(SzL 176 Zcl) x.Mods
theorem Zqo{x:Zy}(h:Zj6 x):Zbg x:=⟨Zue h.2.1,Zqn h.2.2.1,Zrv h.2.2.2.2.2.1,Zcd h.2.2.2.2.2.2.1,Zk2 h.2.2.2.2.2.2.2.2 (fun _ h=>(Znq h))⟩
abbrev Zmg(x:Zb6):Prop:=Zc0 x.Filter
theorem Zpk{x:Zb6}(h:Zi0 x):Zmg x:=(Zcd h.2.2.1)
abbrev Zx(x:Zd):Prop:=Zc0 x.Filter/\(SzL 176 Zcl) x.Mods/\Zmf x.Trigger/\(SzL 144 Zex) x.Specs/\(SzL 560 Zbg) x.Effects/\Zmg x.Replace
theorem Zpl{x:Zd}(h:Zi1 x):Zx x:=⟨Zcd h.2.1,Zk2 h.2.2.1 (fun _ h=>(Znq h)),Zpj h.2.2.2.2.2.1,Zk2 h.2.2.2.2.2.2.2.1 (fun _ h=>(Ztf h)),Zk2 h.2.2.2.2.2.2.2.2.1 (fun _ h=>(Zqo h)),Zpk h.2.2.2.2.2.2.2.2.2⟩
abbrev Za0(x:Zt):Prop:=SzS x.Name/\Zl1 x.Line/\(SzL 640 Zx) x.Abilities
theorem Ztg{x:Zt}(h:Zpz x):Za0 x:=⟨Zrv h.1,Zte h.2.2.2.2.1,Zk2 h.2.2.2.2.2.2.2.2 (fun _ h=>(Zpl h))⟩
abbrev Zl(x:Zb):Prop:=SzS x.Name/\Zl1 x.Line/\(SzL 640 Zx) x.Abilities
def Zxh(a0:Zr):Zjr->Prop
 | .L0 E0 v6 v7=>(E0=a0)/\(0<=v7)/\(v6=E0.Color)/\(∀ (k:Nat) x,(k:Int) < v7->(A5.list E0.Color)[k]?=some x->0<=x/\x<=9)
def Zm7:Zjr->M6
 | .L0 E0 v6 v7=>(1,(5 - v7).toNat,1000000,0,0,0)
theorem Zxi{a0:Zr}:Tot (Zs8 a0) (fun r=>(r=Zj7 a0)):=by
 unfold Zs8
 refine tX (Inv:=(Zxh a0)) (μ:=Zm7) (m:=(1000000,0,0,0,0,0)) ?_ ?_
 .dsimp only [Zt4,LT.den]
  exact tL ⟨rfl,cl,(by first | rfl | assumption),(by first | (intro k x hk;omega) | exact Zwi ‹_› ‹_› (by omega) ⟨by omega,by omega⟩ (by omega))⟩ (by unfold Zm7 lt6;dsimp only;omega)
 .intro s hs
  cases s with
  | L0 E0 v6 v7=>
   obtain⟨al0,cv7,i0,i1⟩:=hs
   subst al0
   show Tot (Zm1 E0 v6 v7).den _
   dsimp only [Zm1,LT.den]
   refine tD (fun h1=>?_) (fun h1=>?_)
   .refine tB (tI (by omega) (by have e:(A5.list v6).length=5:=rfl;omega)) (fun x2 h3=>?_)
    have mh3:=h3.2
    rw [i0] at mh3
    refine tD (fun h4=>?_) (fun h4=>?_)
    .exact tR (by first | with_reducible exact Zme ‹_› (by omega) | (rw [Zko ‹_› (by omega)];grind))
    .refine tD (fun h5=>?_) (fun h5=>?_)
     .exact tR (by first | with_reducible exact Zme ‹_› (by omega) | (rw [Zko ‹_› (by omega)];grind))
     .refine qw (v7+1) fun q6 q7=>?_
      exact tL ⟨rfl,cl,(by first | rfl | assumption),(by first | (intro k x hk;omega) | exact Zwi ‹_› ‹_› (by omega) ⟨by omega,by omega⟩ (by omega))⟩ (by unfold Zm7 lt6;dsimp only;omega)
   .refine tD (fun h8=>?_) (fun h8=>?_)
    .refine tD (fun h9=>?_) (fun h9=>?_)
     .refine tD (fun h10=>?_) (fun h10=>?_)
      .exact tR (by first | with_reducible exact Zme ‹_› (by omega) | (rw [Zko ‹_› (by omega)];grind))
      .exact tR (by first | with_reducible exact Zme ‹_› (by omega) | (rw [Zko ‹_› (by omega)];grind))
     .exact tR (by first | with_reducible exact Zme ‹_› (by omega) | (rw [Zko ‹_› (by omega)];grind))
    .exact tR (by first | with_reducible exact Zme ‹_› (by omega) | (rw [Zko ‹_› (by omega)];grind))
def Zsb(a0:Zr):Zfj->Prop
 | .L0 v3 v16 v17=>(0<=v17)/\(v17<=5)/\(v16=a0.Color)/\(Zj7 a0=true)/\(v3=coP v16 v17)
def Zgk:Zfj->M6
 | .L0 v3 v16 v17=>(1,(5 - v17).toNat,1000000,0,0,0)
theorem Zlj{a0:Zr}:Tot (Zlr a0) (fun r=>(r=coV a0)):=by
 unfold Zlr
 refine tX (Inv:=(Zsb a0)) (μ:=Zgk) (m:=(1000000,0,0,0,0,0)) ?_ ?_
 .dsimp only [Zng,LT.den]
  refine tB (Zxi) (fun x1 h2=>?_)
  have eh2_0:=h2
  refine tO (fun h3=>?_) (fun h3=>?_)
  .exact tR (by first | with_reducible exact Zr9 ‹_› ‹_› ‹_› (by omega) (by omega) | with_reducible exact Zzi ‹_› | with_reducible exact Zor (by grind))
  .refine tF (fun h4=>?_) (fun h4=>?_)
   .exact tR (by first | with_reducible exact Zr9 ‹_› ‹_› ‹_› (by omega) (by omega) | with_reducible exact Zzi ‹_› | with_reducible exact Zor (by grind))
   .exact tL ⟨cl,cl,(by first | rfl | assumption),(by first | assumption | grind),(by first | with_reducible exact Zpf _ | with_reducible exact Zzh ‹_› ‹_› (by omega) (by omega) ‹_› (by omega) | with_reducible exact Zpg ‹_› ‹_› (by omega) (by omega) (by omega) (by omega))⟩ (by unfold Zgk lt6;dsimp only;omega)
 .intro s hs
  cases s with
  | L0 v3 v16 v17=>
   obtain⟨cv17,i0,i1,i2,i3⟩:=hs
   show Tot (Zit v3 v16 v17).den _
   dsimp only [Zit,LT.den]
   refine tD (fun h1=>?_) (fun h1=>?_)
   .refine tB (tI (by omega) (by have e:(A5.list v16).length=5:=rfl;omega)) (fun x2 h3=>?_)
    have mh3:=h3.2
    refine tD (fun h4=>?_) (fun h4=>?_)
    .refine tB (tK (by first | omega | exact shl_ne' (by omega) (by omega) | decide)) (fun x5 h6=>?_)
     refine qw (v17+1) fun q7 q8=>?_
     exact tL ⟨cl,cl,(by first | rfl | assumption),(by first | assumption | grind),(by first | with_reducible exact Zpf _ | with_reducible exact Zzh ‹_› ‹_› (by omega) (by omega) ‹_› (by omega) | with_reducible exact Zpg ‹_› ‹_› (by omega) (by omega) (by omega) (by omega))⟩ (by unfold Zgk lt6;dsimp only;omega)
    .refine qw (v17+1) fun q9 q10=>?_
     exact tL ⟨cl,cl,(by first | rfl | assumption),(by first | assumption | grind),(by first | with_reducible exact Zpf _ | with_reducible exact Zzh ‹_› ‹_› (by omega) (by omega) ‹_› (by omega) | with_reducible exact Zpg ‹_› ‹_› (by omega) (by omega) (by omega) (by omega))⟩ (by unfold Zgk lt6;dsimp only;omega)
   .exact tR (by first | with_reducible exact Zr9 ‹_› ‹_› ‹_› (by omega) (by omega) | with_reducible exact Zzi ‹_› | with_reducible exact Zor (by grind))
theorem Zea{a0:List (List UInt8)}(oa0:(SzL 16 SzT) a0):Tot (Zca a0) (fun r=>((SzL 16 SzT) r)/\(r=a0)):=by
 unfold Zca
 split
 .refine tZ ?_
  have lb_a0:=oa0.1
  dsimp only [Zc6,LT.den]
  have q3:=oa0.1
  refine tB (tA (by first | omega | (simp only [List.length_cons,List.length_nil];omega)) (by decide)) (fun x1 h2=>?_)
  have lh2:x1.length=([]:List (List UInt8)).length+a0.length:=by rw [h2,List.length_append]
  try simp only [List.length_cons,List.length_nil,Nat.zero_add] at lh2
  exact tR ⟨SzL.app (k:=16) h2 lo (fun _ h=>by cases h) oa0.2,(by first | rfl | assumption | (simpa using (by assumption:_=[]++a0)) | grind)⟩
 .refine tZ ?_
  dsimp only [Zbz,LT.den]
  exact tR ⟨SzL.nil,(by first | rfl | assumption | (simpa using (by assumption:_=[]++a0)) | grind)⟩
theorem Zbp{a0:List Z4}(oa0:(SzL 176 Zcl) a0):Tot (Zbd a0) (fun r=>((SzL 176 Zcl) r)/\(r=a0)):=by
 unfold Zbd
 split
 .refine tZ ?_
  have lb_a0:=oa0.1
  dsimp only [Zcw,LT.den]
  have q3:=oa0.1
  refine tB (tA (by first | omega | (simp only [List.length_cons,List.length_nil];omega)) (by decide)) (fun x1 h2=>?_)
  have lh2:x1.length=([]:List Z4).length+a0.length:=by rw [h2,List.length_append]
  try simp only [List.length_cons,List.length_nil,Nat.zero_add] at lh2
  exact tR ⟨SzL.app (k:=176) h2 lo (fun _ h=>by cases h) oa0.2,(by first | rfl | assumption | (simpa using (by assumption:_=[]++a0)) | grind)⟩
 .refine tZ ?_
  dsimp only [Zbr,LT.den]
  exact tR ⟨SzL.nil,(by first | rfl | assumption | (simpa using (by assumption:_=[]++a0)) | grind)⟩
theorem Zdl{a0:List Zai}(oa0:(SzL 144 Zex) a0):Tot (Zbv a0) (fun r=>((SzL 144 Zex) r)/\(r=a0)):=by
 unfold Zbv
 split
 .refine tZ ?_
  have lb_a0:=oa0.1
  dsimp only [Zcj,LT.den]
  have q3:=oa0.1
  refine tB (tA (by first | omega | (simp only [List.length_cons,List.length_nil];omega)) (by decide)) (fun x1 h2=>?_)
  have lh2:x1.length=([]:List Zai).length+a0.length:=by rw [h2,List.length_append]
  try simp only [List.length_cons,List.length_nil,Nat.zero_add] at lh2
  exact tR ⟨SzL.app (k:=144) h2 lo (fun _ h=>by cases h) oa0.2,(by first | rfl | assumption | (simpa using (by assumption:_=[]++a0)) | grind)⟩
 .refine tZ ?_
  dsimp only [Zbj,LT.den]
  exact tR ⟨SzL.nil,(by first | rfl | assumption | (simpa using (by assumption:_=[]++a0)) | grind)⟩
theorem Zc9{a0:List Zy}(oa0:(SzL 560 Zbg) a0):Tot (Zbe a0) (fun r=>((SzL 560 Zbg) r)/\(r=a0)):=by
 unfold Zbe
 split
 .refine tZ ?_
  have lb_a0:=oa0.1
  dsimp only [Zb3,LT.den]
  have q3:=oa0.1
  refine tB (tA (by first | omega | (simp only [List.length_cons,List.length_nil];omega)) (by decide)) (fun x1 h2=>?_)
  have lh2:x1.length=([]:List Zy).length+a0.length:=by rw [h2,List.length_append]
  try simp only [List.length_cons,List.length_nil,Nat.zero_add] at lh2
  exact tR ⟨SzL.app (k:=560) h2 lo (fun _ h=>by cases h) oa0.2,(by first | rfl | assumption | (simpa using (by assumption:_=[]++a0)) | grind)⟩
 .refine tZ ?_
  dsimp only [Za8,LT.den]
  exact tR ⟨SzL.nil,(by first | rfl | assumption | (simpa using (by assumption:_=[]++a0)) | grind)⟩
def Zm8(a0:Zd):Zdu->Prop
 | .L0 E0 E1 v18 v19=>(Zx E0)/\(Zx E1)/\(0<=v19)/\(v18=(a0.Effects.length:Int))/\(v18=(E0.Effects.length:Int))/\(E0=a0)
def Zfr:Zdu->M6
 | .L0 E0 E1 v18 v19=>(1,(v18 - v19).toNat,1000000,0,0,0)
theorem Zm9{a0:Zd}(oa0:Zx a0):Tot (Zff a0) (fun r=>(Zx r)/\(r=a0)):=by
 unfold Zff
 refine tX (Inv:=(Zm8 a0)) (μ:=Zfr) (m:=(1000000,0,0,0,0,0)) ?_ ?_
 .dsimp only [Zjs,LT.den]
  refine tB (Zbp oa0.2.1) (fun x1 h2=>?_)
  have eh2_1:=h2.2
  refine tB (Zdl oa0.2.2.2.1) (fun x3 h4=>?_)
  have eh4_1:=h4.2
  refine tB (Zc9 oa0.2.2.2.2.1) (fun x5 h6=>?_)
  have eh6_1:=h6.2
  exact tL ⟨⟨oa0.1,h2.1,oa0.2.2.1,h4.1,h6.1,oa0.2.2.2.2.2⟩,⟨SzS.nil,SzL.nil,SzS.nil,SzL.nil,SzL.nil,SzS.nil⟩,cl,(by first | assumption | grind),(by first | assumption | grind),(by first | with_reducible exact Zws ‹_› ‹_› ‹_› ‹_› | (subst_vars;rfl))⟩ (by unfold Zfr lt6;dsimp only;omega)
 .intro s hs
  cases s with
  | L0 E0 E1 v18 v19=>
   obtain⟨O0,O1,cv19,i0,i1,i2⟩:=hs
   show Tot (Zfp E0 E1 v18 v19).den _
   dsimp only [Zfp,LT.den]
   have lq:=O0.2.2.2.2.1.1
   refine tD (fun h1=>?_) (fun h1=>?_)
   .refine tB (tI (by omega) (by omega)) (fun x2 h3=>?_)
    have oh3:Zbg x2:=O0.2.2.2.2.1.2 x2 h3.1
    have mh3:=h3.2
    refine tB (Zbp oh3.2.2.2.2) (fun x4 h5=>?_)
    have eh5_1:=h5.2
    refine tB (Tot.set (by omega) (by omega)) (fun x6 h7=>?_)
    have lh7:=h7.1
    have vh7:=h7.2.2
    refine qw (v19+1) fun q8 q9=>?_
    exact tL ⟨⟨O0.1,O0.2.1,O0.2.2.1,O0.2.2.2.1,⟨lo,fun e he=>(h7.2.1 e he).elim (fun w=>by rw [w];exact⟨oh3.1,oh3.2.1,oh3.2.2.1,oh3.2.2.2.1,h5.1⟩) (O0.2.2.2.2.1.2 e)⟩,O0.2.2.2.2.2⟩,O1,cl,(by first | assumption | grind),(by first | assumption | grind),(by first | with_reducible exact Zws ‹_› ‹_› ‹_› ‹_› | (subst_vars;rfl))⟩ (by unfold Zfr lt6;dsimp only;omega)
   .exact tR ⟨O0,‹_›⟩
def Zqp(a0:Zt):Ze3->Prop
 | .L0 E0 E1 v32 v33 v34=>(Zl E0)/\(Zl E1)/\((SzL 640 Zx) v32)/\(0<=v34)/\(v33=(v32.length:Int))/\(E1.Abilities.length<=v34.toNat)/\(v34<=v33)/\(v32=a0.Abilities)/\(E1={ prV a0 with Abilities:=a0.Abilities.take v34.toNat })
def Zig:Ze3->M6
 | .L0 E0 E1 v32 v33 v34=>(1,(v33 - v34).toNat,1000000,0,0,0)
theorem Zqq{a0:Zt}(oa0:Za0 a0):Tot (Zia a0) (fun r=>(Zl r)/\(r=prV a0)):=by
 unfold Zia
 refine tX (Inv:=(Zqp a0)) (μ:=Zig) (m:=(1000000,0,0,0,0,0)) ?_ ?_
 .dsimp only [Zmc,LT.den]
  refine tB (Zlj) (fun x1 h2=>?_)
  have eh2_0:=h2
  refine tB (Zea oa0.2.1) (fun x3 h4=>?_)
  have eh4_1:=h4.2
  have q5:=oa0.2.2.1
  exact tL ⟨⟨SzS.nil,SzL.nil,SzL.nil⟩,⟨oa0.1,h4.1,SzL.nil⟩,oa0.2.2,cl,cl,cl,cl,(by first | rfl | assumption),(by first | with_reducible exact Zzj ‹_› ‹_› | with_reducible exact Zph ‹_› (by rw [<- (by assumption:v32=a0.Abilities)];assumption) (by omega) (by omega) ‹_› ‹_›)⟩ (by unfold Zig lt6;dsimp only;omega)
 .intro s hs
  cases s with
  | L0 E0 E1 v32 v33 v34=>
   obtain⟨O0,O1,ov32,cv34,i0,i1,i2,i3,i4⟩:=hs
   have lb_v32:=ov32.1
   show Tot (Zh9 E0 E1 v32 v33 v34).den _
   dsimp only [Zh9,LT.den]
   refine tD (fun h1=>?_) (fun h1=>?_)
   .refine tB (tI (by omega) (by omega)) (fun x2 h3=>?_)
    have oh3:Zx x2:=ov32.2 x2 h3.1
    have mh3:=h3.2
    refine tB (Zm9 oh3) (fun x4 h5=>?_)
    have eh5_1:=h5.2
    have q8:=O1.2.2.1
    refine tB (tA (by simp only [List.length_cons,List.length_nil];omega) (by decide)) (fun x6 h7=>?_)
    have lh7:x6.length=E1.Abilities.length+1:=by rw [h7,List.length_append];rfl
    refine qw (v34+1) fun q9 q10=>?_
    exact tL ⟨O0,⟨O1.1,O1.2.1,SzL.app (k:=640) h7 lo O1.2.2.2 (me1 h5.1)⟩,ov32,cl,cl,cl,cl,(by first | rfl | assumption),(by first | with_reducible exact Zzj ‹_› ‹_› | with_reducible exact Zph ‹_› (by rw [<- (by assumption:v32=a0.Abilities)];assumption) (by omega) (by omega) ‹_› ‹_›)⟩ (by unfold Zig lt6;dsimp only;omega)
   .exact tR ⟨O1,(by exact Z1a ‹_› (by first | omega | grind))⟩
def Zgx(a0:List Zt)(a1:Zu):Zho->Prop
 | .L0 v0 E0 E1 v5=>(v0=a0)/\(E0=a1)/\((SzL 176 Za0) v0)/\(Zl E1)/\(v5=if E0.Copy < 0 then E0.Card else E0.Copy)
 | .L1 E0 E1 E2=>(E0=a1)/\(Zl E1)/\(Zl E2)/\(E2=Zm6 a0 (if E0.Copy < 0 then E0.Card else E0.Copy))
def Zna:Zho->M6
 | .L0 v0 E0 E1 v5=>(0,0,0,0,0,0)
 | .L1 E0 E1 E2=>(0,0,0,0,0,0)
theorem Zgl{a0:List Zt}{a1:Zu}{E0:Zu}{E1:Zb}{E2:Zb}(h:(Zgx a0 a1) (.L1 E0 E1 E2)):Tot (Zgh E0 E1 E2).den (Nx (Zgx a0 a1) Zna (0,0,0,0,0,0) (fun r=>(Zl r)/\(r=baV a0 a1))):=by
 obtain⟨al0,O1,O2,i0⟩:=h
 subst al0
 dsimp only [Zgh,LT.den]
 refine tE (fun h1=>?_) (fun h1=>?_)
 .exact tR ⟨⟨O2.1,O2.2.1,O2.2.2⟩,(by first | exact Ztc ‹_› rfl (by omega) | exact Ztd ‹_› rfl (by omega))⟩
 .refine tE (fun h2=>?_) (fun h2=>?_)
  .exact tR ⟨⟨O2.1,O2.2.1,O2.2.2⟩,(by first | exact Ztc ‹_› rfl (by omega) | exact Ztd ‹_› rfl (by omega))⟩
  .exact tR ⟨⟨O2.1,O2.2.1,O2.2.2⟩,(by first | exact Ztc ‹_› rfl (by omega) | exact Ztd ‹_› rfl (by omega))⟩
theorem Zi2{a0:List Zt}{a1:Zu}{v0:List Zt}{E0:Zu}{E1:Zb}{v5:Int}(h:(Zgx a0 a1) (.L0 v0 E0 E1 v5)):Tot (Zib v0 E0 E1 v5).den (Nx (Zgx a0 a1) Zna (0,0,0,0,0,0) (fun r=>(Zl r)/\(r=baV a0 a1))):=by
 obtain⟨al0,al1,ov0,O1,i0⟩:=h
 have lb_v0:=ov0.1
 subst al0
 subst al1
 dsimp only [Zib,LT.den]
 refine tD (fun h1=>?_) (fun h1=>?_)
 .have q2:=ov0.1
  refine tD (fun h3=>?_) (fun h3=>?_)
  .refine tB (tI (by omega) (by omega)) (fun x4 h5=>?_)
   have oh5:Za0 x4:=ov0.2 x4 h5.1
   have mh5:=h5.2
   refine tB (Zqq oh5) (fun x6 h7=>?_)
   have eh7_1:=h7.2
   exact tJ (Zgl ⟨rfl,O1,h7.1,(by rw [<- (by assumption:v5=if E0.Copy < 0 then E0.Card else E0.Copy)];first | exact (Zkq (by omega)).symm | (rw [Zkp ‹_› (by omega)];assumption))⟩)
  .exact tJ (Zgl ⟨rfl,O1,⟨SzS.nil,SzL.nil,SzL.nil⟩,(by rw [<- (by assumption:v5=if E0.Copy < 0 then E0.Card else E0.Copy)];first | exact (Zkq (by omega)).symm | (rw [Zkp ‹_› (by omega)];assumption))⟩)
 .exact tJ (Zgl ⟨rfl,O1,⟨SzS.nil,SzL.nil,SzL.nil⟩,(by rw [<- (by assumption:v5=if E0.Copy < 0 then E0.Card else E0.Copy)];first | exact (Zkq (by omega)).symm | (rw [Zkp ‹_› (by omega)];assumption))⟩)
theorem Zp0{a0:List Zt}{a1:Zu}(oa0:(SzL 176 Za0) a0):Tot (Zpe a0 a1) (fun r=>(Zl r)/\(r=baV a0 a1)):=by
 unfold Zpe
 refine tX (Inv:=(Zgx a0 a1)) (μ:=Zna) (m:=(1000000,0,0,0,0,0)) ?_ ?_
 .have lb_a0:=oa0.1
  dsimp only [Zt6,LT.den]
  refine tD (fun h1=>?_) (fun h1=>?_)
  .exact tJ (Zi2 ⟨rfl,rfl,oa0,⟨SzS.nil,SzL.nil,SzL.nil⟩,(by grind)⟩)
  .exact tJ (Zi2 ⟨rfl,rfl,oa0,⟨SzS.nil,SzL.nil,SzL.nil⟩,(by grind)⟩)
 .intro s hs
  cases s with
  | L0 _ _ _ _=>exact Zi2 hs
  | L1 _ _ _=>exact Zgl hs
theorem Zns:Tot Zt8 (fun r=>r=true):=⟨true,by kernel_rfl,rfl⟩
def Zj8(n m:Int):Bool:=decide (n>=0)&&decide (n<=m)
def Zos(c:Zr):Bool:=Zj8 c.Generic 99&&(Zj8 c.X 2&&c.Color.list.all fun n=>Zj8 n 9)
theorem Zzm(c:Zr):Zr0 c=some (Zos c):=by
 unfold Zr0 LF.run;dsimp only [Zwo,LT.den]
 have hl:Zfn Ziv.step (.L0 c 0)=some (c.Color.list.all fun n=>Zj8 n 9):=by
  have:=Zwh (st:=fun i=>Ziu.L0 c (i:Int)) (step:=Ziv.step) (bad:=false) c.Color.list (fun n=>Zj8 n 9) (fun i x hx=>by
   have hi:=(List.getElem?_eq_some_iff.1 hx).1
   have hi:i < 5:=hi
   show (Zlg _ _).den=_
   dsimp only [Zlg,LT.den]
   rw [decide_eq_true (by omega),Z5a hx,Z01 (by omega) (by omega)]
   simp only [cond_true,Option.bind_some]
   unfold Zj8
   by_cases h1:x < 0
   .rw [decide_eq_true h1,decide_eq_false (show ¬ x>=0 by omega)];rfl
   .rw [decide_eq_false h1,decide_eq_true (show x>=0 by omega)]
    by_cases h2:x > 9
    .rw [decide_eq_true h2,decide_eq_false (show ¬ x<=9 by omega)];rfl
    .rw [decide_eq_false h2,decide_eq_true (show x<=9 by omega)];rfl)
  rw [show (Ziu.L0 c 0) = .L0 c ((0:Nat):Int) from rfl,this]
  have he:Zfn Ziv.step (.L0 c ((c.Color.list.length:Nat):Int))=some true:=by
   refine Zk1 ?_
   show (Zlg c 5).den=_
   rfl
  rw [he]
  cases c.Color.list.all fun n=>Zj8 n 9<;>rfl
 refine (Zru fun _=>Zru fun _=>Zru fun _=>Zru fun _=>(show Option.bind (some (Sum.inl (Ziu.L0 c 0))) (Zs4 Ziv.step)=some (c.Color.list.all fun n=>Zj8 n 9) from hl)).trans ?_
 congr 1
 unfold Zos Zj8
 rw [Bool.eq_iff_iff]
 simp only [Bool.and_eq_true,Bool.not_eq_true',decide_eq_false_iff_not,decide_eq_true_eq,ge_iff_le,gt_iff_lt,Int.not_lt]
 constructor
 .rintro ⟨h1,h2,h3,h4,h5⟩;exact⟨⟨h1,h2⟩,⟨h3,h4⟩,h5⟩
 .rintro ⟨⟨h1,h2⟩,⟨h3,h4⟩,h5⟩;exact⟨h1,h2,h3,h4,h5⟩
theorem Zzn(a0:Zr):Tot (Zr0 a0) (fun r=>(r=true->a0.X<=2)/\(r=true->∀ n,n∈A5.list a0.Color->n<=9)/\(r=Zj7 a0)):=by
 refine⟨_,Zzm a0,fun h=>?_,fun h n hn=>?_,?_⟩
 .simp only [Zos,Zj8,Bool.and_eq_true,decide_eq_true_eq] at h
  exact h.2.1.2
 .simp only [Zos,Zj8,Bool.and_eq_true,decide_eq_true_eq,List.all_eq_true] at h
  exact (h.2.2 n hn).2
 .unfold Zos Zj8 Zj7
  rw [Bool.eq_iff_iff]
  simp only [Bool.and_eq_true,decide_eq_true_eq,List.all_eq_true,ge_iff_le]
  exact⟨fun⟨⟨h1,h2⟩,⟨h3,h4⟩,h5⟩=>⟨h1,h2,h3,h4,h5⟩,fun⟨h1,h2,h3,h4,h5⟩=>⟨⟨h1,h2⟩,⟨h3,h4⟩,h5⟩⟩
def Zth(a0:Zr):Zf4->Prop
 | .L0 E0 v3 v4 v5=>(E0=a0)/\(0<=v5)/\(v5<=5)/\(v3=coP E0.Color v5)/\(v4=2 ^ v5.toNat)/\(Zj7 E0=true)
def Zg3:Zf4->M6
 | .L0 E0 v3 v4 v5=>(1,(5 - v5).toNat,1000000,0,0,0)
theorem Zti{a0:Zr}:Tot (Zm3 a0) (fun r=>(r=coV a0)):=by
 unfold Zm3
 refine tX (Inv:=(Zth a0)) (μ:=Zg3) (m:=(1000000,0,0,0,0,0)) ?_ ?_
 .dsimp only [Zon,LT.den]
  refine tB (Zzn a0) (fun x1 h2=>?_)
  have eh2_0:=h2.1
  have eh2_1:=h2.2.1
  have eh2_2:=h2.2.2
  refine tO (fun h3=>?_) (fun h3=>?_)
  .exact tR (by first | with_reducible exact Zr9 ‹_› rfl ‹_› (by omega) (by omega) | with_reducible exact Zor (by grind))
  .have h3_0:=eh2_0 h3
   have h3_1:=eh2_1 h3
   exact tL ⟨rfl,cl,cl,(by first | with_reducible exact Zpf _ | with_reducible exact Zwr ‹_› ‹_› (by omega) (by omega) ‹_› ‹_› (by omega) (by omega) | with_reducible exact Zpg ‹_› ‹_› (by omega) (by omega) (by omega) (by omega)),(by first | with_reducible exact Ztb (by omega) ‹_› (by omega) (by omega) | rfl),(by first | assumption | grind)⟩ (by unfold Zg3 lt6;dsimp only;omega)
 .intro s hs
  cases s with
  | L0 E0 v3 v4 v5=>
   obtain⟨al0,cv5,i0,i1,i2,i3⟩:=hs
   subst al0
   show Tot (Zj3 E0 v3 v4 v5).den _
   dsimp only [Zj3,LT.den]
   have lb:0<=v3/\v3<=31:=by rw [i1];exact Z5y
   have lp:v4<=32/\1<=v4:=by rw [i2];exact Z5x (by omega)
   refine tD (fun h1=>?_) (fun h1=>?_)
   .refine tB (tI (by omega) (by have e:(A5.list E0.Color).length=5:=rfl;omega)) (fun x2 h3=>?_)
    have mh3:=h3.2
    refine tD (fun h4=>?_) (fun h4=>?_)
    .refine qw (v3+v4) fun q5 q6=>?_
     refine qw (2*v4) fun q7 q8=>?_
     refine qw (v5+1) fun q9 q10=>?_
     exact tL ⟨rfl,cl,cl,(by first | with_reducible exact Zpf _ | with_reducible exact Zwr ‹_› ‹_› (by omega) (by omega) ‹_› ‹_› (by omega) (by omega) | with_reducible exact Zpg ‹_› ‹_› (by omega) (by omega) (by omega) (by omega)),(by first | with_reducible exact Ztb (by omega) ‹_› (by omega) (by omega) | rfl),(by first | assumption | grind)⟩ (by unfold Zg3 lt6;dsimp only;omega)
    .refine qw (2*v4) fun q11 q12=>?_
     refine qw (v5+1) fun q13 q14=>?_
     exact tL ⟨rfl,cl,cl,(by first | with_reducible exact Zpf _ | with_reducible exact Zwr ‹_› ‹_› (by omega) (by omega) ‹_› ‹_› (by omega) (by omega) | with_reducible exact Zpg ‹_› ‹_› (by omega) (by omega) (by omega) (by omega)),(by first | with_reducible exact Ztb (by omega) ‹_› (by omega) (by omega) | rfl),(by first | assumption | grind)⟩ (by unfold Zg3 lt6;dsimp only;omega)
   .exact tR (by first | with_reducible exact Zr9 ‹_› rfl ‹_› (by omega) (by omega) | with_reducible exact Zor (by grind))
def Zsc(a0:Zd):Zfk->Prop
 | .L0 E0 E1 E2 v4=>(E0=a0)/\(Zx E0)/\(Zx E1)/\(Zx E2)/\(0<=v4)/\(E2.Effects.length<=v4.toNat)/\(v4.toNat<=E0.Effects.length)/\(E2={ E0 with Effects:=E0.Effects.take v4.toNat })
def Zi3:Zfk->M6
 | .L0 E0 E1 E2 v4=>(1,((E0.Effects.length:Int) - v4).toNat,1000000,0,0,0)
theorem Zsd{a0:Zd}(oa0:Zx a0):Tot (Zje a0) (fun r=>(Zx r)/\(r=a0)):=by
 unfold Zje
 refine tX (Inv:=(Zsc a0)) (μ:=Zi3) (m:=(1000000,0,0,0,0,0)) ?_ ?_
 .dsimp only [Zni,LT.den]
  have q3:=oa0.2.1.1
  refine tB (tA (by first | omega | (simp only [List.length_cons,List.length_nil];omega)) (by decide)) (fun x1 h2=>?_)
  have lh2:x1.length=([]:List Z4).length+a0.Mods.length:=by rw [h2,List.length_append]
  try simp only [List.length_cons,List.length_nil,Nat.zero_add] at lh2
  have q6:=oa0.2.2.2.1.1
  refine tB (tA (by first | omega | (simp only [List.length_cons,List.length_nil];omega)) (by decide)) (fun x4 h5=>?_)
  have lh5:x4.length=([]:List Zai).length+a0.Specs.length:=by rw [h5,List.length_append]
  try simp only [List.length_cons,List.length_nil,Nat.zero_add] at lh5
  exact tL ⟨rfl,oa0,⟨SzS.nil,SzL.nil,SzS.nil,SzL.nil,SzL.nil,SzS.nil⟩,⟨oa0.1,SzL.app (k:=176) h2 lo (fun _ h=>by cases h) oa0.2.1.2,oa0.2.2.1,SzL.app (k:=144) h5 lo (fun _ h=>by cases h) oa0.2.2.2.1.2,SzL.nil,oa0.2.2.2.2.2⟩,cl,cl,cl,(by first | with_reducible exact Z3j ‹_› ‹_› | with_reducible exact Zwt ‹_› ‹_› (by omega) (by omega) ‹_› ‹_›)⟩ (by unfold Zi3 lt6;dsimp only;omega)
 .intro s hs
  cases s with
  | L0 E0 E1 E2 v4=>
   obtain⟨al0,O0,O1,O2,cv4,i0,i1,i2⟩:=hs
   subst al0
   show Tot (Ziw E0 E1 E2 v4).den _
   dsimp only [Ziw,LT.den]
   have q1:=O0.2.2.2.2.1.1
   refine tD (fun h2=>?_) (fun h2=>?_)
   .refine tB (tI (by omega) (by omega)) (fun x3 h4=>?_)
    have oh4:Zbg x3:=O0.2.2.2.2.1.2 x3 h4.1
    have mh4:=h4.2
    have q7:=oh4.2.2.2.2.1
    refine tB (tA (by first | omega | (simp only [List.length_cons,List.length_nil];omega)) (by decide)) (fun x5 h6=>?_)
    have lh6:x5.length=([]:List Z4).length+x3.Mods.length:=by rw [h6,List.length_append]
    try simp only [List.length_cons,List.length_nil,Nat.zero_add] at lh6
    have q10:=O2.2.2.2.2.1.1
    refine tB (tA (by simp only [List.length_cons,List.length_nil];omega) (by decide)) (fun x8 h9=>?_)
    have lh9:x8.length=E2.Effects.length+1:=by rw [h9,List.length_append];rfl
    refine qw (v4+1) fun q11 q12=>?_
    exact tL ⟨rfl,O0,O1,⟨O2.1,O2.2.1,O2.2.2.1,O2.2.2.2.1,SzL.app (k:=560) h9 lo O2.2.2.2.2.1.2 (me1 ⟨oh4.1,oh4.2.1,oh4.2.2.1,oh4.2.2.2.1,SzL.app (k:=176) h6 lo (fun _ h=>by cases h) oh4.2.2.2.2.2⟩),O2.2.2.2.2.2⟩,cl,cl,cl,(by first | with_reducible exact Z3j ‹_› ‹_› | with_reducible exact Zwt ‹_› ‹_› (by omega) (by omega) ‹_› ‹_›)⟩ (by unfold Zi3 lt6;dsimp only;omega)
   .exact tR ⟨O2,(by exact Z4m ‹_› (by omega))⟩
abbrev Zqr(a0:Zt)(r:Zb):Prop:=(Zl r)/\(r.Abilities.length<=a0.Abilities.length)/\(r=prV a0)
def Zse(a0:Zt):Zfl->Prop
 | .L0 E0 E1 E2 v4=>(E0=a0)/\(Za0 E0)/\(Zl E1)/\(Zl E2)/\(0<=v4)/\(E2.Abilities.length<=v4.toNat)/\(v4.toNat<=E0.Abilities.length)/\(E2={ prV E0 with Abilities:=E0.Abilities.take v4.toNat })
def Zi4:Zfl->M6
 | .L0 E0 E1 E2 v4=>(1,((E0.Abilities.length:Int) - v4).toNat,1000000,0,0,0)
theorem Zsf{a0:Zt}(oa0:Za0 a0):Tot (Zls a0) (Zqr a0):=by
 unfold Zls
 refine tX (Inv:=(Zse a0)) (μ:=Zi4) (m:=(1000000,0,0,0,0,0)) ?_ ?_
 .dsimp only [Znk,LT.den]
  refine tB (Zti) (fun x1 h2=>?_)
  have eh2_0:=h2
  have q5:=oa0.2.1.1
  refine tB (tA (by first | omega | (simp only [List.length_cons,List.length_nil];omega)) (by decide)) (fun x3 h4=>?_)
  have lh4:x3.length=([]:List (List UInt8)).length+a0.Line.Subs.length:=by rw [h4,List.length_append]
  try simp only [List.length_cons,List.length_nil,Nat.zero_add] at lh4
  exact tL ⟨rfl,oa0,⟨SzS.nil,SzL.nil,SzL.nil⟩,⟨oa0.1,SzL.app (k:=16) h4 lo (fun _ h=>by cases h) oa0.2.1.2,SzL.nil⟩,cl,cl,cl,(by first | with_reducible exact Zzj ‹_› ‹_› | with_reducible exact pr_0' ‹_› ‹_› | with_reducible exact Zph ‹_› ‹_› (by omega) (by omega) ‹_› ‹_›)⟩ (by unfold Zi4 lt6;dsimp only;omega)
 .intro s hs
  cases s with
  | L0 E0 E1 E2 v4=>
   obtain⟨al0,O0,O1,O2,cv4,i0,i1,i2⟩:=hs
   subst al0
   show Tot (Zix E0 E1 E2 v4).den _
   dsimp only [Zix,LT.den]
   have q1:=O0.2.2.1
   refine tD (fun h2=>?_) (fun h2=>?_)
   .refine tB (tI (by omega) (by omega)) (fun x3 h4=>?_)
    have oh4:Zx x3:=O0.2.2.2 x3 h4.1
    have mh4:=h4.2
    refine tB (Zsd oh4) (fun x5 h6=>?_)
    have eh6_1:=h6.2
    have q9:=O2.2.2.1
    refine tB (tA (by simp only [List.length_cons,List.length_nil];omega) (by decide)) (fun x7 h8=>?_)
    have lh8:x7.length=E2.Abilities.length+1:=by rw [h8,List.length_append];rfl
    refine qw (v4+1) fun q10 q11=>?_
    exact tL ⟨rfl,O0,O1,⟨O2.1,O2.2.1,SzL.app (k:=640) h8 lo O2.2.2.2 (me1 h6.1)⟩,cl,cl,cl,(by first | with_reducible exact Zzj ‹_› ‹_› | with_reducible exact pr_0' ‹_› ‹_› | with_reducible exact Zph ‹_› ‹_› (by omega) (by omega) ‹_› ‹_›)⟩ (by unfold Zi4 lt6;dsimp only;omega)
   .exact tR ⟨O2,cl,(by exact Z1a ‹_› (by first | omega | grind))⟩
def Zih(a0:List Zt)(a1:Zu):Ziy->Prop
 | .L0 v0 E0 E1 v5=>(v0=a0)/\(E0=a1)/\((SzL 176 Za0) v0)/\(Zl E1)/\(v5=if E0.Copy < 0 then E0.Card else E0.Copy)
 | .L1 E0 E1 E2=>(E0=a1)/\(Zl E1)/\(Zl E2)/\(E2=Zm6 a0 (if E0.Copy < 0 then E0.Card else E0.Copy))
def Zot:Ziy->M6
 | .L0 v0 E0 E1 v5=>(0,0,0,0,0,0)
 | .L1 E0 E1 E2=>(0,0,0,0,0,0)
theorem Zg4{a0:List Zt}{a1:Zu}{E0:Zu}{E1:Zb}{E2:Zb}(h:(Zih a0 a1) (.L1 E0 E1 E2)):Tot (Zhp E0 E1 E2).den (Nx (Zih a0 a1) Zot (0,0,0,0,0,0) (fun r=>(Zl r)/\(r=baV a0 a1))):=by
 obtain⟨al0,O1,O2,i0⟩:=h
 subst al0
 dsimp only [Zhp,LT.den]
 refine tE (fun h1=>?_) (fun h1=>?_)
 .exact tR ⟨⟨O2.1,O2.2.1,O2.2.2⟩,(by first | exact Ztc ‹_› rfl (by omega) | exact Ztd ‹_› rfl (by omega))⟩
 .refine tE (fun h2=>?_) (fun h2=>?_)
  .exact tR ⟨⟨O2.1,O2.2.1,O2.2.2⟩,(by first | exact Ztc ‹_› rfl (by omega) | exact Ztd ‹_› rfl (by omega))⟩
  .exact tR ⟨⟨O2.1,O2.2.1,O2.2.2⟩,(by first | exact Ztc ‹_› rfl (by omega) | exact Ztd ‹_› rfl (by omega))⟩
theorem Zj9{a0:List Zt}{a1:Zu}{v0:List Zt}{E0:Zu}{E1:Zb}{v5:Int}(h:(Zih a0 a1) (.L0 v0 E0 E1 v5)):Tot (Zjv v0 E0 E1 v5).den (Nx (Zih a0 a1) Zot (0,0,0,0,0,0) (fun r=>(Zl r)/\(r=baV a0 a1))):=by
 obtain⟨al0,al1,ov0,O1,i0⟩:=h
 have lb_v0:=ov0.1
 subst al0
 subst al1
 dsimp only [Zjv,LT.den]
 refine tD (fun h1=>?_) (fun h1=>?_)
 .have q2:=ov0.1
  refine tD (fun h3=>?_) (fun h3=>?_)
  .refine tB (tI (by omega) (by omega)) (fun x4 h5=>?_)
   have oh5:Za0 x4:=ov0.2 x4 h5.1
   have mh5:=h5.2
   refine tB (Zsf oh5) (fun x6 h7=>?_)
   have eh7_1:=h7.2.1
   have eh7_2:=h7.2.2
   exact tJ (Zg4 ⟨rfl,O1,h7.1,(by rw [<- (by assumption:v5=if E0.Copy < 0 then E0.Card else E0.Copy)];first | exact (Zkq (by omega)).symm | (rw [Zkp ‹_› (by omega)];assumption))⟩)
  .exact tJ (Zg4 ⟨rfl,O1,⟨SzS.nil,SzL.nil,SzL.nil⟩,(by rw [<- (by assumption:v5=if E0.Copy < 0 then E0.Card else E0.Copy)];first | exact (Zkq (by omega)).symm | (rw [Zkp ‹_› (by omega)];assumption))⟩)
 .exact tJ (Zg4 ⟨rfl,O1,⟨SzS.nil,SzL.nil,SzL.nil⟩,(by rw [<- (by assumption:v5=if E0.Copy < 0 then E0.Card else E0.Copy)];first | exact (Zkq (by omega)).symm | (rw [Zkp ‹_› (by omega)];assumption))⟩)
theorem Zzo{a0:List Zt}{a1:Zu}(oa0:(SzL 176 Za0) a0):Tot (Zr3 a0 a1) (fun r=>(Zl r)/\(r=baV a0 a1)):=by
 unfold Zr3
 refine tX (Inv:=(Zih a0 a1)) (μ:=Zot) (m:=(1000000,0,0,0,0,0)) ?_ ?_
 .have lb_a0:=oa0.1
  dsimp only [Zwp,LT.den]
  refine tD (fun h1=>?_) (fun h1=>?_)
  .exact tJ (Zj9 ⟨rfl,rfl,oa0,⟨SzS.nil,SzL.nil,SzL.nil⟩,(by grind)⟩)
  .exact tJ (Zj9 ⟨rfl,rfl,oa0,⟨SzS.nil,SzL.nil,SzL.nil⟩,(by grind)⟩)
 .intro s hs
  cases s with
  | L0 _ _ _ _=>exact Zj9 hs
  | L1 _ _ _=>exact Zg4 hs
def Zwu(a0:List Z4)(a1:List Z4):Zid->Prop
 | .L0 v0 v1 v5=>(v0=a0)/\(v1=a1)/\((SzL 176 Zcl) v0)/\((SzL 176 Zcl) v1)/\(0<=v5)/\(v0.length=v1.length)
def Zl2:Zid->M6
 | .L0 v0 v1 v5=>(1,((v0.length:Int) - v5).toNat,1000000,0,0,0)
theorem Zou{a0:List Z4}{a1:List Z4}(oa0:(SzL 176 Zcl) a0)(oa1:(SzL 176 Zcl) a1):Tot (Zqj a0 a1) (fun r=>(a0=a1->r=true)):=by
 unfold Zqj
 refine tX (Inv:=(Zwu a0 a1)) (μ:=Zl2) (m:=(1000000,0,0,0,0,0)) ?_ ?_
 .have lb_a0:=oa0.1
  have lb_a1:=oa1.1
  dsimp only [Zr4,LT.den]
  have q1:=oa0.1
  have q2:=oa1.1
  refine tN (fun h3=>?_) (fun h3=>?_)
  .exact tR (by exact sm)
  .exact tL ⟨rfl,rfl,oa0,oa1,cl,cl⟩ (by unfold Zl2 lt6;dsimp only;omega)
 .intro s hs
  cases s with
  | L0 v0 v1 v5=>
   obtain⟨al0,al1,ov0,ov1,cv5,i0⟩:=hs
   have lb_v0:=ov0.1
   have lb_v1:=ov1.1
   subst al0
   subst al1
   show Tot (Zlt v0 v1 v5).den _
   dsimp only [Zlt,LT.den]
   have q1:=ov0.1
   refine tD (fun h2=>?_) (fun h2=>?_)
   .refine tB (tI (by omega) (by omega)) (fun x3 h4=>?_)
    have oh4:Zcl x3:=ov0.2 x3 h4.1
    have mh4:=h4.2
    refine tB (tI (by omega) (by omega)) (fun x5 h6=>?_)
    have oh6:Zcl x5:=ov1.2 x5 h6.1
    have mh6:=h6.2
    refine tO (fun h7=>?_) (fun h7=>?_)
    .exact tR (by exact sm)
    .refine qw (v5+1) fun q8 q9=>?_
     exact tL ⟨rfl,rfl,ov0,ov1,cl,cl⟩ (by unfold Zl2 lt6;dsimp only;omega)
   .exact tR (by exact sm)
theorem Zsg{a0:Zy}{a1:Zy}(oa0:Zbg a0)(oa1:Zbg a1):Tot (Zlu a0 a1) (fun r=>(a0=a1->r=true)):=by
 unfold Zlu
 refine tZ ?_
 dsimp only [Znm,LT.den]
 refine tE (fun h1=>?_) (fun h1=>?_)
 .refine tF (fun h2=>?_) (fun h2=>?_)
  .refine tF (fun h3=>?_) (fun h3=>?_)
   .refine tE (fun h4=>?_) (fun h4=>?_)
    .refine tE (fun h5=>?_) (fun h5=>?_)
     .refine tF (fun h6=>?_) (fun h6=>?_)
      .refine tF (fun h7=>?_) (fun h7=>?_)
       .refine tF (fun h8=>?_) (fun h8=>?_)
        .refine tB (Zou oa0.2.2.2.2 oa1.2.2.2.2) (fun x9 h10=>?_)
         have eh10_0:=h10
         exact tR (by exact sm)
        .exact tR (by exact sm)
       .exact tR (by exact sm)
      .exact tR (by exact sm)
     .exact tR (by exact sm)
    .exact tR (by exact sm)
   .exact tR (by exact sm)
  .exact tR (by exact sm)
 .exact tR (by exact sm)
def Znw(a0:Zd)(a1:Zd):Zde->Prop
 | .L0 E0 E1 v5=>(E0=a0)/\(E1=a1)/\(Zx E0)/\(Zx E1)/\(0<=v5)/\(E0.Specs.length=E1.Specs.length)/\(E0.Effects.length=E1.Effects.length)
 | .L1 E0 E1 v6=>(E0=a0)/\(E1=a1)/\(Zx E0)/\(Zx E1)/\(0<=v6)/\(E0.Specs.length=E1.Specs.length)/\(E0.Effects.length=E1.Effects.length)
def Zdw:Zde->M6
 | .L0 E0 E1 v5=>(3,((E0.Specs.length:Int) - v5).toNat,1000000,0,0,0)
 | .L1 E0 E1 v6=>(1,((E0.Effects.length:Int) - v6).toNat,1000000,0,0,0)
theorem Znx{a0:Zd}{a1:Zd}(oa0:Zx a0)(oa1:Zx a1):Tot (Zie a0 a1) (fun r=>(a0=a1->r=true)):=by
 unfold Zie
 refine tX (Inv:=(Znw a0 a1)) (μ:=Zdw) (m:=(1000000,0,0,0,0,0)) ?_ ?_
 .dsimp only [Zkb,LT.den]
  refine tN (fun h1=>?_) (fun h1=>?_)
  .exact tR (by exact sm)
  .refine tO (fun h2=>?_) (fun h2=>?_)
   .exact tR (by exact sm)
   .refine tB (Zou oa0.2.1 oa1.2.1) (fun x3 h4=>?_)
    have eh4_0:=h4
    refine tO (fun h5=>?_) (fun h5=>?_)
    .exact tR (by exact sm)
    .refine tO (fun h6=>?_) (fun h6=>?_)
     .exact tR (by exact sm)
     .refine tO (fun h7=>?_) (fun h7=>?_)
      .exact tR (by exact sm)
      .refine tO (fun h8=>?_) (fun h8=>?_)
       .exact tR (by exact sm)
       .refine tO (fun h9=>?_) (fun h9=>?_)
        .exact tR (by exact sm)
        .refine tO (fun h10=>?_) (fun h10=>?_)
         .exact tR (by exact sm)
         .have q11:=oa0.2.2.2.1.1
          have q12:=oa1.2.2.2.1.1
          refine tN (fun h13=>?_) (fun h13=>?_)
          .exact tR (by exact sm)
          .have q14:=oa0.2.2.2.2.1.1
           have q15:=oa1.2.2.2.2.1.1
           refine tN (fun h16=>?_) (fun h16=>?_)
           .exact tR (by exact sm)
           .exact tL ⟨rfl,rfl,oa0,oa1,cl,cl,cl⟩ (by unfold Zdw lt6;dsimp only;omega)
 .intro s hs
  cases s with
  | L0 E0 E1 v5=>
   obtain⟨al0,al1,O0,O1,cv5,i0,i1⟩:=hs
   subst al0
   subst al1
   show Tot (Zf5 E0 E1 v5).den _
   dsimp only [Zf5,LT.den]
   have q1:=O0.2.2.2.1.1
   refine tD (fun h2=>?_) (fun h2=>?_)
   .refine tB (tI (by omega) (by omega)) (fun x3 h4=>?_)
    have oh4:Zex x3:=O0.2.2.2.1.2 x3 h4.1
    have mh4:=h4.2
    refine tB (tI (by omega) (by omega)) (fun x5 h6=>?_)
    have oh6:Zex x5:=O1.2.2.2.1.2 x5 h6.1
    have mh6:=h6.2
    refine tO (fun h7=>?_) (fun h7=>?_)
    .exact tR (by exact sm)
    .refine qw (v5+1) fun q8 q9=>?_
     exact tL ⟨rfl,rfl,O0,O1,cl,cl,cl⟩ (by unfold Zdw lt6;dsimp only;omega)
   .exact tL ⟨rfl,rfl,O0,O1,cl,cl,cl⟩ (by unfold Zdw lt6;dsimp only;omega)
  | L1 E0 E1 v6=>
   obtain⟨al0,al1,O0,O1,cv6,i0,i1⟩:=hs
   subst al0
   subst al1
   show Tot (Zf6 E0 E1 v6).den _
   dsimp only [Zf6,LT.den]
   have q1:=O0.2.2.2.2.1.1
   refine tD (fun h2=>?_) (fun h2=>?_)
   .refine tB (tI (by omega) (by omega)) (fun x3 h4=>?_)
    have oh4:Zbg x3:=O0.2.2.2.2.1.2 x3 h4.1
    have mh4:=h4.2
    refine tB (tI (by omega) (by omega)) (fun x5 h6=>?_)
    have oh6:Zbg x5:=O1.2.2.2.2.1.2 x5 h6.1
    have mh6:=h6.2
    refine tB (Zsg oh4 oh6) (fun x7 h8=>?_)
    have eh8_0:=h8
    refine tO (fun h9=>?_) (fun h9=>?_)
    .exact tR (by exact sm)
    .refine qw (v6+1) fun q10 q11=>?_
     exact tL ⟨rfl,rfl,O0,O1,cl,cl,cl⟩ (by unfold Zdw lt6;dsimp only;omega)
   .exact tR (by exact sm)
def Zwv(a0:Zb)(a1:Zb):Zgj->Prop
 | .L0 E0 E1 v5=>(E0=a0)/\(E1=a1)/\(Zl E0)/\(Zl E1)/\(0<=v5)/\(E0.Line.Subs.length=E1.Line.Subs.length)/\(E0.Abilities.length=E1.Abilities.length)
 | .L1 E0 E1 v6=>(E0=a0)/\(E1=a1)/\(Zl E0)/\(Zl E1)/\(0<=v6)/\(E0.Line.Subs.length=E1.Line.Subs.length)/\(E0.Abilities.length=E1.Abilities.length)
def Zgy:Zgj->M6
 | .L0 E0 E1 v5=>(3,((E0.Line.Subs.length:Int) - v5).toNat,1000000,0,0,0)
 | .L1 E0 E1 v6=>(1,((E0.Abilities.length:Int) - v6).toNat,1000000,0,0,0)
theorem Zov{a0:Zb}{a1:Zb}(oa0:Zl a0)(oa1:Zl a1):Tot (Zqk a0 a1) (fun r=>(a0=a1->r=true)):=by
 unfold Zqk
 refine tX (Inv:=(Zwv a0 a1)) (μ:=Zgy) (m:=(1000000,0,0,0,0,0)) ?_ ?_
 .dsimp only [Zr6,LT.den]
  refine tO (fun h1=>?_) (fun h1=>?_)
  .exact tR (by exact sm)
  .refine tO (fun h2=>?_) (fun h2=>?_)
   .exact tR (by exact sm)
   .refine tN (fun h3=>?_) (fun h3=>?_)
    .exact tR (by exact sm)
    .refine tN (fun h4=>?_) (fun h4=>?_)
     .exact tR (by exact sm)
     .refine tN (fun h5=>?_) (fun h5=>?_)
      .exact tR (by exact sm)
      .refine tN (fun h6=>?_) (fun h6=>?_)
       .exact tR (by exact sm)
       .refine tN (fun h7=>?_) (fun h7=>?_)
        .exact tR (by exact sm)
        .refine tN (fun h8=>?_) (fun h8=>?_)
         .exact tR (by exact sm)
         .refine tN (fun h9=>?_) (fun h9=>?_)
          .exact tR (by exact sm)
          .have q10:=oa0.2.1.1
           have q11:=oa1.2.1.1
           refine tN (fun h12=>?_) (fun h12=>?_)
           .exact tR (by exact sm)
           .have q13:=oa0.2.2.1
            have q14:=oa1.2.2.1
            refine tN (fun h15=>?_) (fun h15=>?_)
            .exact tR (by exact sm)
            .exact tL ⟨rfl,rfl,oa0,oa1,cl,cl,cl⟩ (by unfold Zgy lt6;dsimp only;omega)
 .intro s hs
  cases s with
  | L0 E0 E1 v5=>
   obtain⟨al0,al1,O0,O1,cv5,i0,i1⟩:=hs
   subst al0
   subst al1
   show Tot (Zlv E0 E1 v5).den _
   dsimp only [Zlv,LT.den]
   have q1:=O0.2.1.1
   refine tD (fun h2=>?_) (fun h2=>?_)
   .refine tB (tI (by omega) (by omega)) (fun x3 h4=>?_)
    have oh4:SzT x3:=O0.2.1.2 x3 h4.1
    have mh4:=h4.2
    refine tB (tI (by omega) (by omega)) (fun x5 h6=>?_)
    have oh6:SzT x5:=O1.2.1.2 x5 h6.1
    have mh6:=h6.2
    refine tO (fun h7=>?_) (fun h7=>?_)
    .exact tR (by exact sm)
    .refine qw (v5+1) fun q8 q9=>?_
     exact tL ⟨rfl,rfl,O0,O1,cl,cl,cl⟩ (by unfold Zgy lt6;dsimp only;omega)
   .exact tL ⟨rfl,rfl,O0,O1,cl,cl,cl⟩ (by unfold Zgy lt6;dsimp only;omega)
  | L1 E0 E1 v6=>
   obtain⟨al0,al1,O0,O1,cv6,i0,i1⟩:=hs
   subst al0
   subst al1
   show Tot (Zlw E0 E1 v6).den _
   dsimp only [Zlw,LT.den]
   have q1:=O0.2.2.1
   refine tD (fun h2=>?_) (fun h2=>?_)
   .refine tB (tI (by omega) (by omega)) (fun x3 h4=>?_)
    have oh4:Zx x3:=O0.2.2.2 x3 h4.1
    have mh4:=h4.2
    refine tB (tI (by omega) (by omega)) (fun x5 h6=>?_)
    have oh6:Zx x5:=O1.2.2.2 x5 h6.1
    have mh6:=h6.2
    refine tB (Znx oh4 oh6) (fun x7 h8=>?_)
    have eh8_0:=h8
    refine tO (fun h9=>?_) (fun h9=>?_)
    .exact tR (by exact sm)
    .refine qw (v6+1) fun q10 q11=>?_
     exact tL ⟨rfl,rfl,O0,O1,cl,cl,cl⟩ (by unfold Zgy lt6;dsimp only;omega)
   .exact tR (by exact sm)
def Zk5:Zcy->Prop
 | .L0 E0 E1 v18 v19=>(Zx E0)/\(Zx E1)/\(0<=v19)/\(v18=(E0.Effects.length:Int))
def Zek:Zcy->M6
 | .L0 E0 E1 v18 v19=>(1,(v18 - v19).toNat,1000000,0,0,0)
theorem Zk6{a0:Zd}(oa0:Zx a0):Tot (Zfg a0) (fun r=>(Zx r)):=by
 unfold Zfg
 refine tX (Inv:=Zk5) (μ:=Zek) (m:=(1000000,0,0,0,0,0)) ?_ ?_
 .dsimp only [Zgv,LT.den]
  refine tB (Zbp oa0.2.1) (fun x1 h2=>?_)
  have eh2_1:=h2.2
  refine tB (Zdl oa0.2.2.2.1) (fun x3 h4=>?_)
  have eh4_1:=h4.2
  refine tB (Zc9 oa0.2.2.2.2.1) (fun x5 h6=>?_)
  have eh6_1:=h6.2
  exact tL ⟨⟨oa0.1,h2.1,oa0.2.2.1,h4.1,h6.1,oa0.2.2.2.2.2⟩,⟨SzS.nil,SzL.nil,SzS.nil,SzL.nil,SzL.nil,SzS.nil⟩,cl,cl⟩ (by unfold Zek lt6;dsimp only;omega)
 .intro s hs
  cases s with
  | L0 E0 E1 v18 v19=>
   obtain⟨O0,O1,cv19,i0⟩:=hs
   show Tot (Zej E0 E1 v18 v19).den _
   dsimp only [Zej,LT.den]
   have lq:=O0.2.2.2.2.1.1
   refine tD (fun h1=>?_) (fun h1=>?_)
   .refine tB (tI (by omega) (by omega)) (fun x2 h3=>?_)
    have oh3:Zbg x2:=O0.2.2.2.2.1.2 x2 h3.1
    refine tB (Zbp oh3.2.2.2.2) (fun x4 h5=>?_)
    have eh5_1:=h5.2
    refine tB (Tot.set (by omega) (by omega)) (fun x6 h7=>?_)
    have lh7:=h7.1
    refine qw (v19+1) fun q8 q9=>?_
    refine tB (tK (by first | omega | exact shl_ne' (by omega) (by omega) | decide)) (fun x10 h11=>?_)
    exact tL ⟨⟨O0.1,O0.2.1,O0.2.2.1,O0.2.2.2.1,⟨lo,fun e he=>(h7.2.1 e he).elim (fun w=>by rw [w];exact⟨oh3.1,oh3.2.1,oh3.2.2.1,oh3.2.2.2.1,h5.1⟩) (O0.2.2.2.2.1.2 e)⟩,O0.2.2.2.2.2⟩,O1,cl,cl⟩ (by unfold Zek lt6;dsimp only;omega)
   .refine tB (tK (by first | omega | (simp only [List.length_map];omega))) (fun _ _=>?_)
    exact tR O0
def Znb:Zdv->Prop
 | .L0 E0 E1 v32 v33 v34=>(Zl E0)/\(Zl E1)/\((SzL 640 Zx) v32)/\(0<=v34)/\(v33=(v32.length:Int))/\(E1.Abilities.length<=v34.toNat)/\(v34<=v33)
def Zfs:Zdv->M6
 | .L0 E0 E1 v32 v33 v34=>(1,(v33 - v34).toNat,1000000,0,0,0)
theorem Znc{a0:Zt}(oa0:Za0 a0):Tot (Zhd a0) (fun r=>(Zl r)):=by
 unfold Zhd
 refine tX (Inv:=Znb) (μ:=Zfs) (m:=(1000000,0,0,0,0,0)) ?_ ?_
 .dsimp only [Zjw,LT.den]
  refine tB (Zlj) (fun x1 h2=>?_)
  have eh2_0:=h2
  refine tB (Zea oa0.2.1) (fun x3 h4=>?_)
  have eh4_1:=h4.2
  have q5:=oa0.2.2.1
  exact tL ⟨⟨SzS.nil,SzL.nil,SzL.nil⟩,⟨oa0.1,h4.1,SzL.nil⟩,oa0.2.2,cl,cl,cl,cl⟩ (by unfold Zfs lt6;dsimp only;omega)
 .intro s hs
  cases s with
  | L0 E0 E1 v32 v33 v34=>
   obtain⟨O0,O1,ov32,cv34,i0,i1,i2⟩:=hs
   have lb_v32:=ov32.1
   show Tot (Zfq E0 E1 v32 v33 v34).den _
   dsimp only [Zfq,LT.den]
   refine tD (fun h1=>?_) (fun h1=>?_)
   .refine tB (tI (by omega) (by omega)) (fun x2 h3=>?_)
    have oh3:Zx x2:=ov32.2 x2 h3.1
    refine tB (Zk6 oh3) (fun x4 h5=>?_)
    have q8:=O1.2.2.1
    refine tB (tA (by simp only [List.length_cons,List.length_nil];omega) (by decide)) (fun x6 h7=>?_)
    have lh7:x6.length=E1.Abilities.length+1:=by rw [h7,List.length_append];rfl
    refine qw (v34+1) fun q9 q10=>?_
    exact tL ⟨O0,⟨O1.1,O1.2.1,SzL.app (k:=640) h7 lo O1.2.2.2 (me1 h5)⟩,ov32,cl,cl,cl,cl⟩ (by unfold Zfs lt6;dsimp only;omega)
   .refine tB (tK (by first | omega | (simp only [List.length_map];omega))) (fun _ _=>?_)
    exact tR O1
def Zer:Zen->Prop
 | .L0 v0 E0 E1 v5=>((SzL 176 Za0) v0)/\(Zl E1)
 | .L1 E0 E1 E2=>(Zl E1)/\(Zl E2)
def Zi5:Zen->M6
 | .L0 v0 E0 E1 v5=>(0,0,0,0,0,0)
 | .L1 E0 E1 E2=>(0,0,0,0,0,0)
theorem Zes{E0:Zu}{E1:Zb}{E2:Zb}(h:Zer (.L1 E0 E1 E2)):Tot (Zeb E0 E1 E2).den (Nx Zer Zi5 (0,0,0,0,0,0) (fun r=>(Zl r))):=by
 obtain⟨O1,O2⟩:=h
 dsimp only [Zeb,LT.den]
 refine tE (fun h1=>?_) (fun h1=>?_)
 .exact tR ⟨O2.1,O2.2.1,O2.2.2⟩
 .refine tE (fun h2=>?_) (fun h2=>?_)
  .exact tR ⟨O2.1,O2.2.1,O2.2.2⟩
  .exact tR ⟨O2.1,O2.2.1,O2.2.2⟩
theorem Zf7{v0:List Zt}{E0:Zu}{E1:Zb}{v5:Int}(h:Zer (.L0 v0 E0 E1 v5)):Tot (Ze4 v0 E0 E1 v5).den (Nx Zer Zi5 (0,0,0,0,0,0) (fun r=>(Zl r))):=by
 obtain⟨ov0,O1⟩:=h
 have lb_v0:=ov0.1
 dsimp only [Ze4,LT.den]
 refine tD (fun h1=>?_) (fun h1=>?_)
 .have q2:=ov0.1
  refine tD (fun h3=>?_) (fun h3=>?_)
  .refine tB (tI (by omega) (by omega)) (fun x4 h5=>?_)
   have oh5:Za0 x4:=ov0.2 x4 h5.1
   refine tB (Znc oh5) (fun x6 h7=>?_)
   exact tJ (Zes ⟨O1,h7⟩)
  .exact tJ (Zes ⟨O1,⟨SzS.nil,SzL.nil,SzL.nil⟩⟩)
 .exact tJ (Zes ⟨O1,⟨SzS.nil,SzL.nil,SzL.nil⟩⟩)
theorem Zsh{a0:List Zt}{a1:Zu}(oa0:(SzL 176 Za0) a0):Tot (Zlx a0 a1) (fun r=>(Zl r)):=by
 unfold Zlx
 refine tX (Inv:=Zer) (μ:=Zi5) (m:=(1000000,0,0,0,0,0)) ?_ ?_
 .have lb_a0:=oa0.1
  dsimp only [Zno,LT.den]
  refine tD (fun h1=>?_) (fun h1=>?_)
  .exact tJ (Zf7 ⟨oa0,⟨SzS.nil,SzL.nil,SzL.nil⟩⟩)
  .exact tJ (Zf7 ⟨oa0,⟨SzS.nil,SzL.nil,SzL.nil⟩⟩)
 .intro s hs
  cases s with
  | L0 _ _ _ _=>exact Zf7 hs
  | L1 _ _ _=>exact Zes hs
def Zpm:Zbw->Prop
 | .L0 v0 E0 E1 E2 E3 v31 v32=>((SzL 176 Za0) v0)/\(Zl E1)/\(Zl E2)/\(Zl E3)/\(0<=v32)/\(E1=baV v0 E0)/\(E3=baV v0 E0)/\(v31=(E2.Line.Subs.length:Int))
 | .L1 v0 E0 E1 E2 E3 v43 v44=>((SzL 176 Za0) v0)/\(Zl E1)/\(Zl E2)/\(Zl E3)/\(0<=v44)/\(E1=baV v0 E0)/\(E3=baV v0 E0)/\(v43=(E2.Abilities.length:Int))
 | .L2 v0 E0 E1 E2 E3 v10 v43 v44 v58 v59=>((SzL 176 Za0) v0)/\(Zl E1)/\(Zl E2)/\(Zl E3)/\(Zx v10)/\(0<=v59)/\(0<=v44)/\(v44 < v43)/\(E1=baV v0 E0)/\(E3=baV v0 E0)/\(v43=(E2.Abilities.length:Int))/\(v58=(v10.Mods.length:Int))
 | .L3 v0 E0 E1 E2 E3 v10 v43 v44 v74 v75=>((SzL 176 Za0) v0)/\(Zl E1)/\(Zl E2)/\(Zl E3)/\(Zx v10)/\(0<=v75)/\(0<=v44)/\(v44 < v43)/\(E1=baV v0 E0)/\(E3=baV v0 E0)/\(v43=(E2.Abilities.length:Int))/\(v74=(v10.Specs.length:Int))
 | .L4 v0 E0 E1 E2 E3 v10 v43 v44 v99 v100=>((SzL 176 Za0) v0)/\(Zl E1)/\(Zl E2)/\(Zl E3)/\(Zx v10)/\(0<=v100)/\(0<=v44)/\(v44 < v43)/\(E1=baV v0 E0)/\(E3=baV v0 E0)/\(v43=(E2.Abilities.length:Int))/\(v99=(v10.Effects.length:Int))
 | .L5 v0 E0 E1 E2 E3 v10 v13 v43 v44 v99 v100 v118 v119=>((SzL 176 Za0) v0)/\(Zl E1)/\(Zl E2)/\(Zl E3)/\(Zx v10)/\(0<=v119)/\(0<=v44)/\(0<=v100)/\(v44 < v43)/\(v100 < v99)/\(E1=baV v0 E0)/\(E3=baV v0 E0)/\(v43=(E2.Abilities.length:Int))/\(v118<=140737488351232)/\(v99=(v10.Effects.length:Int))/\(v13=v100)/\(∀ x,v10.Effects[v13.toNat]?=some x->v118=(x.Mods.length:Int))
def Za4:Zbw->M6
 | .L0 v0 E0 E1 E2 E3 v31 v32=>(3,(v31 - v32).toNat,1000000,0,0,0)
 | .L1 v0 E0 E1 E2 E3 v43 v44=>(1,(v43 - v44).toNat,1000000,0,0,0)
 | .L2 v0 E0 E1 E2 E3 v10 v43 v44 v58 v59=>(1,(v43 - v44).toNat,5,(v58 - v59).toNat,1000000,0)
 | .L3 v0 E0 E1 E2 E3 v10 v43 v44 v74 v75=>(1,(v43 - v44).toNat,3,(v74 - v75).toNat,1000000,0)
 | .L4 v0 E0 E1 E2 E3 v10 v43 v44 v99 v100=>(1,(v43 - v44).toNat,1,(v99 - v100).toNat,1000000,0)
 | .L5 v0 E0 E1 E2 E3 v10 v13 v43 v44 v99 v100 v118 v119=>(1,(v43 - v44).toNat,1,(v99 - v100).toNat,1,(v118 - v119).toNat)
theorem Zpn{a0:List Zt}{a1:Zu}(oa0:(SzL 176 Za0) a0):Tot (Zj4 a0 a1) (fun r=>(r=true)):=by
 unfold Zj4
 refine tX (Inv:=Zpm) (μ:=Za4) (m:=(1000000,0,0,0,0,0)) ?_ ?_
 .have lb_a0:=oa0.1
  dsimp only [Zlh,LT.den]
  have q1:=oa0.1
  refine tD (fun h2=>?_) (fun h2=>?_)
  .refine tB (Zns) (fun x3 h4=>?_)
   have eh4_0:=h4
   exact tR (by first | assumption | grind)
  .refine tB (Zzo oa0) (fun x5 h6=>?_)
   have eh6_1:=h6.2
   refine tB (Zsh oa0) (fun x7 h8=>?_)
   refine tB (Zp0 oa0) (fun x9 h10=>?_)
   have eh10_1:=h10.2
   have q11:=h8.2.1.1
   exact tL ⟨oa0,h6.1,h8,h10.1,cl,(by first | assumption | grind),(by first | assumption | grind),cl⟩ (by unfold Za4 lt6;dsimp only;omega)
 .intro s hs
  cases s with
  | L0 v0 E0 E1 E2 E3 v31 v32=>
   obtain⟨ov0,O1,O2,O3,cv32,i0,i1,i2⟩:=hs
   have lb_v0:=ov0.1
   show Tot (Zhe v0 E0 E1 E2 E3 v31 v32).den _
   dsimp only [Zhe,LT.den]
   have lq:=O2.2.1.1
   refine tD (fun h1=>?_) (fun h1=>?_)
   .refine tB (tI (by omega) (by omega)) (fun x2 h3=>?_)
    have oh3:SzT x2:=O2.2.1.2 x2 h3.1
    have mh3:=h3.2
    refine qw (v32+1) fun q4 q5=>?_
    exact tL ⟨ov0,O1,O2,O3,cl,(by first | assumption | grind),(by first | assumption | grind),cl⟩ (by unfold Za4 lt6;dsimp only;omega)
   .have q6:=O2.2.2.1
    exact tL ⟨ov0,O1,O2,O3,cl,(by first | assumption | grind),(by first | assumption | grind),cl⟩ (by unfold Za4 lt6;dsimp only;omega)
  | L1 v0 E0 E1 E2 E3 v43 v44=>
   obtain⟨ov0,O1,O2,O3,cv44,i0,i1,i2⟩:=hs
   have lb_v0:=ov0.1
   show Tot (Zhf v0 E0 E1 E2 E3 v43 v44).den _
   dsimp only [Zhf,LT.den]
   have lq:=O2.2.2.1
   refine tD (fun h1=>?_) (fun h1=>?_)
   .refine tB (tI (by omega) (by omega)) (fun x2 h3=>?_)
    have oh3:Zx x2:=O2.2.2.2 x2 h3.1
    have mh3:=h3.2
    have q4:=oh3.2.1.1
    exact tL ⟨ov0,O1,O2,O3,oh3,cl,cl,cl,(by first | assumption | grind),(by first | assumption | grind),cl,cl⟩ (by unfold Za4 lt6;dsimp only;omega)
   .refine tB (Zns) (fun x5 h6=>?_)
    have eh6_0:=h6
    refine tF (fun h7=>?_) (fun h7=>?_)
    .refine tB (Zp0 ov0) (fun x8 h9=>?_)
     have eh9_1:=h9.2
     refine tB (Zov h9.1 O1) (fun x10 h11=>?_)
     have eh11_0:=h11
     refine tF (fun h12=>?_) (fun h12=>?_)
     .refine tB (Zov O3 O1) (fun x13 h14=>?_)
      have eh14_0:=h14
      exact tR (by first | assumption | grind)
     .exact tR (by first | assumption | grind)
    .exact tR (by first | assumption | grind)
  | L2 v0 E0 E1 E2 E3 v10 v43 v44 v58 v59=>
   obtain⟨ov0,O1,O2,O3,ov10,cv59,cv44,bd7,i0,i1,i2,i3⟩:=hs
   have lb_v0:=ov0.1
   show Tot (Zhg v0 E0 E1 E2 E3 v10 v43 v44 v58 v59).den _
   dsimp only [Zhg,LT.den]
   have lq:=ov10.2.1.1
   refine tD (fun h1=>?_) (fun h1=>?_)
   .refine tB (tI (by omega) (by omega)) (fun x2 h3=>?_)
    have oh3:Zcl x2:=ov10.2.1.2 x2 h3.1
    have mh3:=h3.2
    refine qw (v59+1) fun q4 q5=>?_
    exact tL ⟨ov0,O1,O2,O3,ov10,cl,cl,cl,(by first | assumption | grind),(by first | assumption | grind),cl,cl⟩ (by unfold Za4 lt6;dsimp only;omega)
   .have q6:=ov10.2.2.2.1.1
    exact tL ⟨ov0,O1,O2,O3,ov10,cl,cl,cl,(by first | assumption | grind),(by first | assumption | grind),cl,cl⟩ (by unfold Za4 lt6;dsimp only;omega)
  | L3 v0 E0 E1 E2 E3 v10 v43 v44 v74 v75=>
   obtain⟨ov0,O1,O2,O3,ov10,cv75,cv44,bd7,i0,i1,i2,i3⟩:=hs
   have lb_v0:=ov0.1
   show Tot (Zhh v0 E0 E1 E2 E3 v10 v43 v44 v74 v75).den _
   dsimp only [Zhh,LT.den]
   have lq:=ov10.2.2.2.1.1
   refine tD (fun h1=>?_) (fun h1=>?_)
   .refine tB (tI (by omega) (by omega)) (fun x2 h3=>?_)
    have oh3:Zex x2:=ov10.2.2.2.1.2 x2 h3.1
    have mh3:=h3.2
    refine qw (v75+1) fun q4 q5=>?_
    exact tL ⟨ov0,O1,O2,O3,ov10,cl,cl,cl,(by first | assumption | grind),(by first | assumption | grind),cl,cl⟩ (by unfold Za4 lt6;dsimp only;omega)
   .have q6:=ov10.2.2.2.2.1.1
    exact tL ⟨ov0,O1,O2,O3,ov10,cl,cl,cl,(by first | assumption | grind),(by first | assumption | grind),cl,cl⟩ (by unfold Za4 lt6;dsimp only;omega)
  | L4 v0 E0 E1 E2 E3 v10 v43 v44 v99 v100=>
   obtain⟨ov0,O1,O2,O3,ov10,cv100,cv44,bd7,i0,i1,i2,i3⟩:=hs
   have lb_v0:=ov0.1
   show Tot (Zhi v0 E0 E1 E2 E3 v10 v43 v44 v99 v100).den _
   dsimp only [Zhi,LT.den]
   have lq:=ov10.2.2.2.2.1.1
   have lr:=O2.2.2.1
   refine tD (fun h1=>?_) (fun h1=>?_)
   .refine tB (tI (by omega) (by omega)) (fun x2 h3=>?_)
    have oh3:Zbg x2:=ov10.2.2.2.2.1.2 x2 h3.1
    have mh3:=h3.2
    first | have nh3:=i6 _ h3.2 | skip
    have q4:=oh3.2.2.2.2.1
    exact tL ⟨ov0,O1,O2,O3,ov10,cl,cl,cl,cl,cl,(by first | assumption | grind),(by first | assumption | grind),cl,cl,cl,cl,(by first | assumption | (intro x hx;grind))⟩ (by unfold Za4 lt6;dsimp only;omega)
   .refine qw (v44+1) fun q5 q6=>?_
    exact tL ⟨ov0,O1,O2,O3,cl,(by first | assumption | grind),(by first | assumption | grind),cl⟩ (by unfold Za4 lt6;dsimp only;omega)
  | L5 v0 E0 E1 E2 E3 v10 v13 v43 v44 v99 v100 v118 v119=>
   obtain⟨ov0,O1,O2,O3,ov10,cv119,cv44,cv100,bd8,bd9,i0,i1,i2,i3,i4,i5,i6⟩:=hs
   have lb_v0:=ov0.1
   show Tot (Zhj v0 E0 E1 E2 E3 v10 v13 v43 v44 v99 v100 v118 v119).den _
   dsimp only [Zhj,LT.den]
   have lq:=ov10.2.2.2.2.1.1
   refine tD (fun h1=>?_) (fun h1=>?_)
   .refine tB (tI (by omega) (by omega)) (fun x2 h3=>?_)
    have oh3:Zbg x2:=ov10.2.2.2.2.1.2 x2 h3.1
    have mh3:=h3.2
    first | have nh3:=i6 _ h3.2 | skip
    refine tB (tI (by omega) (by omega)) (fun x4 h5=>?_)
    have oh5:Zcl x4:=oh3.2.2.2.2.2 x4 h5.1
    have mh5:=h5.2
    refine qw (v119+1) fun q6 q7=>?_
    exact tL ⟨ov0,O1,O2,O3,ov10,cl,cl,cl,cl,cl,(by first | assumption | grind),(by first | assumption | grind),cl,cl,cl,cl,(by first | assumption | (intro x hx;grind))⟩ (by unfold Za4 lt6;dsimp only;omega)
   .refine qw (v100+1) fun q8 q9=>?_
    exact tL ⟨ov0,O1,O2,O3,ov10,cl,cl,cl,(by first | assumption | grind),(by first | assumption | grind),cl,cl⟩ (by unfold Za4 lt6;dsimp only;omega)
end Go.PW
