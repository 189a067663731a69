import Derived.Test.YtiglnkgoicjjfaaQE
import Derived.Test.YtiglnkgoicjjfaaPwYi
import Derived.Test.YtiglnkgoicjjfaaQDa
import Derived.Test.YtiglnkgoicjjfaaQS
set_option linter.all false
set_option maxRecDepth 100000
namespace Go.PW
abbrev Zu(x:Zd):Prop:=(SzL 24 (fun _=>True)) x.Options
theorem Znk{x:Zd}(h:Zk0 x):Zu x:=(Zsk h.2.2.2.2.2.2 (fun _ _=>trivial))
abbrev Za3(x:Zt):Prop:=(SzL 24 (SzL 8 (fun _=>True))) x.answers/\Zu x.pending
def Zqn:Zdx->Prop
 | .L0 v0 v1 v5 v10 v11 v12=>((SzL 72 Zu) v0)/\((SzL 24 (SzL 8 (fun _=>True))) v1)/\((SzL 72 Zu) v10)/\(0<=v12)/\(v11=(v10.length:Int))
 | .L1 v0 v1 v5 v22 v23 v24=>((SzL 72 Zu) v0)/\((SzL 24 (SzL 8 (fun _=>True))) v1)/\((SzL 24 (SzL 8 (fun _=>True))) v22)/\(0<=v24)/\(v23=(v22.length:Int))
def Zei:Zdx->M6
 | .L0 v0 v1 v5 v10 v11 v12=>(3,(v11 - v12).toNat,1000000,0,0,0)
 | .L1 v0 v1 v5 v22 v23 v24=>(1,(v23 - v24).toNat,1000000,0,0,0)
theorem Zqo{a0:List Zd}{a1:List (List Int)}(oa0:(SzL 72 Zu) a0)(oa1:(SzL 24 (SzL 8 (fun _=>True))) a1):Tot (Zlp a0 a1) (fun r=>True):=by
 unfold Zlp
 refine tX (Inv:=Zqn) (μ:=Zei) (m:=(1000000,0,0,0,0,0)) ?_ ?_
 .have lb_a0:=oa0.1
  have lb_a1:=oa1.1
  dsimp only [Zmq,LT.den]
  have q1:=oa0.1
  exact tL ⟨oa0,oa1,oa0,cl,cl⟩ (by unfold Zei lt6;dsimp only;omega)
 .intro s hs
  cases s with
  | L0 v0 v1 v5 v10 v11 v12=>
   obtain⟨ov0,ov1,ov10,cv12,i0⟩:=hs
   have lb_v0:=ov0.1
   have lb_v1:=ov1.1
   have lb_v10:=ov10.1
   show Tot (Zil v0 v1 v5 v10 v11 v12).den _
   dsimp only [Zil,LT.den]
   refine tD (fun h1=>?_) (fun h1=>?_)
   .refine tB (tI (by omega) (by omega)) (fun x2 h3=>?_)
    have oh3:Zu x2:=ov10.2 x2 h3.1
    have q4:=oh3.1
    refine qw (v5+(x2.Options.length:Int)) fun q5 q6=>?_
    refine qw (v12+1) fun q7 q8=>?_
    exact tL ⟨ov0,ov1,ov10,cl,cl⟩ (by unfold Zei lt6;dsimp only;omega)
   .have q9:=ov1.1
    exact tL ⟨ov0,ov1,ov1,cl,cl⟩ (by unfold Zei lt6;dsimp only;omega)
  | L1 v0 v1 v5 v22 v23 v24=>
   obtain⟨ov0,ov1,ov22,cv24,i0⟩:=hs
   have lb_v0:=ov0.1
   have lb_v1:=ov1.1
   have lb_v22:=ov22.1
   show Tot (Zim v0 v1 v5 v22 v23 v24).den _
   dsimp only [Zim,LT.den]
   refine tD (fun h1=>?_) (fun h1=>?_)
   .refine tB (tI (by omega) (by omega)) (fun x2 h3=>?_)
    have oh3:(SzL 8 (fun _=>True)) x2:=ov22.2 x2 h3.1
    have q4:=oh3.1
    refine qw (v5+(x2.length:Int)) fun q5 q6=>?_
    refine qw (v24+1) fun q7 q8=>?_
    exact tL ⟨ov0,ov1,ov22,cl,cl⟩ (by unfold Zei lt6;dsimp only;omega)
   .have q9:=ov0.1
    refine tD (fun h10=>?_) (fun h10=>?_)
    .have q11:=ov1.1
     refine tD (fun h12=>?_) (fun h12=>?_)
     .exact tR trivial
     .exact tR trivial
    .exact tR trivial
theorem Zk3{a0:List Int}(oa0:(SzL 8 (fun _=>True)) a0):Tot (Zd2 a0) (fun r=>((SzL 8 (fun _=>True)) r)/\(r=a0)):=by
 unfold Zd2
 refine tZ ?_
 have lb_a0:=oa0.1
 dsimp only [Zhu,LT.den]
 have q3:=oa0.1
 refine tB (tA (by first | omega | (simp only [List.length_cons,List.length_nil];omega)) (by decide)) (fun x1 h2=>?_)
 have lh2:x1.length=([]:List Int).length+a0.length:=by rw [h2,List.length_append]
 try simp only [List.length_cons,List.length_nil,Nat.zero_add] at lh2
 exact tR ⟨SzL.tr,(by first | assumption | grind)⟩
def Zgu:Zc5->Prop
 | .L0 E0 v3 v8 v9=>(Zu E0)/\True
 | .L1 E0 v3 v8 v19=>(Zu E0)/\True
def Zhs:Zc5->M6
 | .L0 E0 v3 v8 v9=>(0,0,0,0,0,0)
 | .L1 E0 v3 v8 v19=>(0,0,0,0,0,0)
theorem Zev{E0:Zd}{v3:Int}{v8:Int}{v19:Bool}(h:(Zu E0)/\True):Tot (Zdn E0 v3 v8 v19).den (Nx Zgu Zhs (0,0,0,0,0,0) (fun r=>True)):=by
 obtain⟨O0,_⟩:=h
 dsimp only [Zdn,LT.den]
 refine tF (fun h1=>?_) (fun h1=>?_)
 .exact tR trivial
 .refine tE (fun h2=>?_) (fun h2=>?_)
  .refine tE (fun h3=>?_) (fun h3=>?_)
   .refine tE (fun h4=>?_) (fun h4=>?_)
    .exact tR trivial
    .exact tR trivial
   .exact tR trivial
  .refine tE (fun h5=>?_) (fun h5=>?_)
   .exact tR trivial
   .exact tR trivial
theorem Zav{E0:Zd}{v3:Int}{v8:Int}{v9:Bool}(h:(Zu E0)/\True):Tot (Za7 E0 v3 v8 v9).den (Nx Zgu Zhs (0,0,0,0,0,0) (fun r=>True)):=by
 obtain⟨O0,_⟩:=h
 dsimp only [Za7,LT.den]
 refine tF (fun h1=>?_) (fun h1=>?_)
 .exact tR trivial
 .refine tE (fun h2=>?_) (fun h2=>?_)
  .exact tJ (Zev ⟨O0,trivial⟩)
  .exact tJ (Zev ⟨O0,trivial⟩)
theorem Zpv{a0:Zd}(oa0:Zu a0):Tot (Zkm a0) (fun r=>True):=by
 unfold Zkm
 refine tX (Inv:=Zgu) (μ:=Zhs) (m:=(1000000,0,0,0,0,0)) ?_ ?_
 .dsimp only [Zls,LT.den]
  have q1:=oa0.1
  refine tE (fun h2=>?_) (fun h2=>?_)
  .exact tJ (Zav ⟨oa0,trivial⟩)
  .refine tE (fun h3=>?_) (fun h3=>?_)
   .exact tJ (Zav ⟨oa0,trivial⟩)
   .refine tE (fun h4=>?_) (fun h4=>?_)
    .exact tJ (Zav ⟨oa0,trivial⟩)
    .refine tE (fun h5=>?_) (fun h5=>?_)
     .exact tJ (Zav ⟨oa0,trivial⟩)
     .refine tE (fun h6=>?_) (fun h6=>?_)
      .exact tJ (Zav ⟨oa0,trivial⟩)
      .refine tE (fun h7=>?_) (fun h7=>?_)
       .exact tJ (Zav ⟨oa0,trivial⟩)
       .exact tJ (Zav ⟨oa0,trivial⟩)
 .intro s hs
  cases s with
  | L0 _ _ _ _=>exact Zav hs
  | L1 _ _ _ _=>exact Zev hs
def Zqp:Ze0->Prop
 | .L0 v3 v5 v6=>((SzL 8 (fun _=>True)) v3)/\(0<=v6)/\(v3.length<=v6.toNat)/\(v6=0\/v6<=v5)/\(v5<=5864062014634)
def Zit:Ze0->M6
 | .L0 v3 v5 v6=>(1,(v5 - v6).toNat,1000000,0,0,0)
theorem Zk1{a0:Int}(h0:a0<=5864062014634):Tot (Zlu a0) (fun r=>((SzL 8 (fun _=>True)) r)):=by
 unfold Zlu
 refine tX (Inv:=Zqp) (μ:=Zit) (m:=(1000000,0,0,0,0,0)) ?_ ?_
 .dsimp only [Zmt,LT.den]
  exact tL ⟨SzL.nil,cl,cl,cl,cl⟩ (by unfold Zit lt6;dsimp only;omega)
 .intro s hs
  cases s with
  | L0 v3 v5 v6=>
   obtain⟨ov3,cv6,i0,i1,i2⟩:=hs
   have lb_v3:=ov3.1
   show Tot (Zin v3 v5 v6).den _
   dsimp only [Zin,LT.den]
   refine tD (fun h1=>?_) (fun h1=>?_)
   .have q4:=ov3.1
    refine tB (tA (by simp only [List.length_cons,List.length_nil];omega) (by decide)) (fun x2 h3=>?_)
    have lh3:x2.length=v3.length+1:=by rw [h3,List.length_append];rfl
    refine qw (v6+1) fun q5 q6=>?_
    exact tL ⟨SzL.tr,cl,cl,cl,cl⟩ (by unfold Zit lt6;dsimp only;omega)
   .exact tR ov3
def Zgb:Zdo->Prop
 | .L0 E0 v3 v9 v10=>(Zu E0)/\(v3=(E0.Options.length:Int))
def Zj0:Zdo->M6
 | .L0 E0 v3 v9 v10=>(0,0,0,0,0,0)
theorem Zbm{E0:Zd}{v3:Int}{v9:Int}{v10:Bool}(h:Zgb (.L0 E0 v3 v9 v10)):Tot (Zbk E0 v3 v9 v10).den (Nx Zgb Zj0 (0,0,0,0,0,0) (fun r=>((SzL 8 (fun _=>True)) r))):=by
 obtain⟨O0,i0⟩:=h
 dsimp only [Zbk,LT.den]
 have lq:=O0.1
 refine tF (fun h1=>?_) (fun h1=>?_)
 .exact tR SzL.tr
 .refine tE (fun h2=>?_) (fun h2=>?_)
  .refine tB (Zk1 (by first | omega | (simp only [Zrr,Zrq];(repeat' split)<;>omega))) (fun x3 h4=>?_)
   exact tR h4
  .refine tE (fun h5=>?_) (fun h5=>?_)
   .refine tB (Zk1 (by first | omega | (simp only [Zrr,Zrq];(repeat' split)<;>omega))) (fun x6 h7=>?_)
    exact tR h7
   .refine tE (fun h8=>?_) (fun h8=>?_)
    .exact tR SzL.tr
    .refine tE (fun h9=>?_) (fun h9=>?_)
     .refine tD (fun h10=>?_) (fun h10=>?_)
      .refine tB (Tot.mk) (fun x11 h12=>?_)
       have lh12:=h12.1
       refine tB (tI (by omega) (by omega)) (fun x13 h14=>?_)
       refine tB (Tot.set (by omega) (by omega)) (fun x15 h16=>?_)
       have lh16:=h16.1
       exact tR SzL.tr
      .exact tR SzL.nil
     .exact tR SzL.nil
theorem Zcu{a0:Zd}(oa0:Zu a0):Tot (Zjg a0) (fun r=>((SzL 8 (fun _=>True)) r)):=by
 unfold Zjg
 refine tX (Inv:=Zgb) (μ:=Zj0) (m:=(1000000,0,0,0,0,0)) ?_ ?_
 .dsimp only [Zkr,LT.den]
  have q1:=oa0.1
  refine tE (fun h2=>?_) (fun h2=>?_)
  .exact tJ (Zbm ⟨oa0,cl⟩)
  .refine tE (fun h3=>?_) (fun h3=>?_)
   .exact tJ (Zbm ⟨oa0,cl⟩)
   .refine tE (fun h4=>?_) (fun h4=>?_)
    .exact tJ (Zbm ⟨oa0,cl⟩)
    .refine tE (fun h5=>?_) (fun h5=>?_)
     .exact tJ (Zbm ⟨oa0,cl⟩)
     .exact tJ (Zbm ⟨oa0,cl⟩)
 .intro s hs
  cases s with
  | L0 _ _ _ _=>exact Zbm hs
theorem Zht{a0:List Zaz}(oa0:(SzL 24 (fun _=>True)) a0):Tot (Zcz a0) (fun r=>((SzL 24 (fun _=>True)) r)/\(r=a0)):=by
 unfold Zcz
 refine tZ ?_
 have lb_a0:=oa0.1
 dsimp only [Zec,LT.den]
 have q3:=oa0.1
 refine tB (tA (by first | omega | (simp only [List.length_cons,List.length_nil];omega)) (by decide)) (fun x1 h2=>?_)
 have lh2:x1.length=([]:List Zaz).length+a0.length:=by rw [h2,List.length_append]
 try simp only [List.length_cons,List.length_nil,Nat.zero_add] at lh2
 exact tR ⟨SzL.tr,(by first | assumption | grind)⟩
def Zhi:Za0->Prop
 | .L0 v0 v1 v7 v8=>((SzL 8 (fun _=>True)) v0)/\(0<=v8)/\(v7=(v0.length:Int))
def Zcb:Za0->M6
 | .L0 v0 v1 v7 v8=>(1,(v7 - v8).toNat,1000000,0,0,0)
theorem Zdd{a0:List Int}{a1:Int}(oa0:(SzL 8 (fun _=>True)) a0):Tot (Zco a0 a1) (fun r=>True):=by
 unfold Zco
 refine tX (Inv:=Zhi) (μ:=Zcb) (m:=(1000000,0,0,0,0,0)) ?_ ?_
 .have lb_a0:=oa0.1
  dsimp only [Zd3,LT.den]
  have q1:=oa0.1
  exact tL ⟨oa0,cl,cl⟩ (by unfold Zcb lt6;dsimp only;omega)
 .intro s hs
  cases s with
  | L0 v0 v1 v7 v8=>
   obtain⟨ov0,cv8,i0⟩:=hs
   have lb_v0:=ov0.1
   show Tot (Zb9 v0 v1 v7 v8).den _
   dsimp only [Zb9,LT.den]
   refine tD (fun h1=>?_) (fun h1=>?_)
   .refine tB (tI (by omega) (by omega)) (fun x2 h3=>?_)
    refine tE (fun h4=>?_) (fun h4=>?_)
    .exact tR trivial
    .refine qw (v8+1) fun q5 q6=>?_
     exact tL ⟨ov0,cl,cl⟩ (by unfold Zcb lt6;dsimp only;omega)
   .exact tR trivial
theorem Zoy{a0:List Int}{a1:Int}(oa0:(SzL 8 (fun _=>True)) a0):Tot (Zjh a0 a1) (fun r=>True):=by
 unfold Zjh
 refine tZ ?_
 have lb_a0:=oa0.1
 dsimp only [Zkt,LT.den]
 refine tB (Zdd oa0) (fun x1 h2=>?_)
 exact tR trivial
abbrev Znl(a0:Zd)(a1:List Int)(r:Bool):Prop:=(r=true->∀ n,n∈a1->0<=n/\n < (a0.Options.length:Int))
def Zoz(a0:Zd)(a1:List Int):Zdr->Prop
 | .L0 v1 E0 v7 v8 v9=>(v1=a1)/\(E0=a0)/\((SzL 8 (fun _=>True)) v1)/\(Zu E0)/\((SzL 8 (fun _=>True)) v7)/\(0<=v9)/\(v8=(v7.length:Int))/\(v7=v1)/\(∀ (k:Nat) x,(k:Int) < v9->v7[k]?=some x->0<=x/\x < (E0.Options.length:Int))
def Zgv:Zdr->M6
 | .L0 v1 E0 v7 v8 v9=>(1,(v8 - v9).toNat,1000000,0,0,0)
theorem Zd5{a0:Zd}{a1:List Int}(oa0:Zu a0)(oa1:(SzL 8 (fun _=>True)) a1):Tot (Zji a0 a1) (Znl a0 a1):=by
 unfold Zji
 refine tX (Inv:=(Zoz a0 a1)) (μ:=Zgv) (m:=(1000000,0,0,0,0,0)) ?_ ?_
 .have lb_a1:=oa1.1
  dsimp only [Zkv,LT.den]
  have q1:=oa1.1
  exact tL ⟨rfl,rfl,oa1,oa0,oa1,cl,cl,(by first | rfl | assumption),(by first | (intro k x hk;omega) | exact Zsl ‹_› ‹_› (by omega) ⟨by omega,by omega⟩ (by omega))⟩ (by unfold Zgv lt6;dsimp only;omega)
 .intro s hs
  cases s with
  | L0 v1 E0 v7 v8 v9=>
   obtain⟨al0,al1,ov1,O0,ov7,cv9,i0,i1,i2⟩:=hs
   have lb_v1:=ov1.1
   have lb_v7:=ov7.1
   subst al0
   subst al1
   show Tot (Zgs v1 E0 v7 v8 v9).den _
   dsimp only [Zgs,LT.den]
   refine tD (fun h1=>?_) (fun h1=>?_)
   .refine tB (tI (by omega) (by omega)) (fun x2 h3=>?_)
    have mh3:=h3.2
    refine tD (fun h4=>?_) (fun h4=>?_)
    .exact tR (by first | (intro hr;cases hr;done) | (intro _;rw [<- (by assumption:_=_)];exact Zfm ‹_› (by omega)) | (intro _;subst_vars;exact Zfm ‹_› (by omega)))
    .have q5:=O0.1
     refine tD (fun h6=>?_) (fun h6=>?_)
     .exact tR (by first | (intro hr;cases hr;done) | (intro _;rw [<- (by assumption:_=_)];exact Zfm ‹_› (by omega)) | (intro _;subst_vars;exact Zfm ‹_› (by omega)))
     .refine tB (Zoy ov1) (fun x7 h8=>?_)
      refine tN (fun h9=>?_) (fun h9=>?_)
      .exact tR (by first | (intro hr;cases hr;done) | (intro _;rw [<- (by assumption:_=_)];exact Zfm ‹_› (by omega)) | (intro _;subst_vars;exact Zfm ‹_› (by omega)))
      .refine qw (v9+1) fun q10 q11=>?_
       exact tL ⟨rfl,rfl,ov1,O0,ov7,cl,cl,(by first | rfl | assumption),(by first | (intro k x hk;omega) | exact Zsl ‹_› ‹_› (by omega) ⟨by omega,by omega⟩ (by omega))⟩ (by unfold Zgv lt6;dsimp only;omega)
   .exact tR (by first | (intro hr;cases hr;done) | (intro _;rw [<- (by assumption:_=_)];exact Zfm ‹_› (by omega)) | (intro _;subst_vars;exact Zfm ‹_› (by omega)))
theorem Zgc{a0:List Int}{a1:Int}(oa0:(SzL 8 (fun _=>True)) a0):Tot (Zca a0 a1) (fun r=>True):=by
 unfold Zca
 refine tZ ?_
 have lb_a0:=oa0.1
 dsimp only [Zc6,LT.den]
 refine tB (Zdd oa0) (fun x1 h2=>?_)
 exact tR trivial
theorem Zqq{a0:List Int}{a1:Int}(oa0:(SzL 8 (fun _=>True)) a0):Tot (Zlv a0 a1) (fun r=>True):=by
 unfold Zlv
 refine tZ ?_
 have lb_a0:=oa0.1
 dsimp only [Zmv,LT.den]
 refine tB (Zgc oa0) (fun x1 h2=>?_)
 exact tR trivial
def Znm:Zc8->Prop
 | .L0 E0 v5 v8 v9 v10=>(Zu E0)/\((SzL 8 (fun _=>True)) v5)/\((SzL 8 (fun _=>True)) v8)/\(0<=v10)/\(v5.length<=v10.toNat)/\(v9=(v8.length:Int))/\(v10<=v9)/\(∀ n,n∈v8->0<=n/\n < (E0.Options.length:Int))
def Zgd:Zc8->M6
 | .L0 E0 v5 v8 v9 v10=>(1,(v9 - v10).toNat,1000000,0,0,0)
theorem Znn{a0:Zd}{a1:List Int}(oa0:Zu a0)(oa1:(SzL 8 (fun _=>True)) a1)(h0:∀ n,n∈a1->0<=n/\n < (a0.Options.length:Int)):Tot (Zio a0 a1) (fun r=>True):=by
 unfold Zio
 refine tX (Inv:=Znm) (μ:=Zgd) (m:=(1000000,0,0,0,0,0)) ?_ ?_
 .have lb_a1:=oa1.1
  dsimp only [Zjt,LT.den]
  have q1:=oa1.1
  exact tL ⟨oa0,SzL.nil,oa1,cl,cl,cl,cl,‹_›⟩ (by unfold Zgd lt6;dsimp only;omega)
 .intro s hs
  cases s with
  | L0 E0 v5 v8 v9 v10=>
   obtain⟨O0,ov5,ov8,cv10,i0,i1,i2,i3⟩:=hs
   have lb_v5:=ov5.1
   have lb_v8:=ov8.1
   show Tot (Zf3 E0 v5 v8 v9 v10).den _
   dsimp only [Zf3,LT.den]
   refine tD (fun h1=>?_) (fun h1=>?_)
   .refine tB (tI (by omega) (by omega)) (fun x2 h3=>?_)
    have mh3:=h3.2
    have nh3:=i3 x2 h3.1
    refine tB (tI (by omega) (by omega)) (fun x4 h5=>?_)
    have mh5:=h5.2
    refine tB (Zqq ov5) (fun x6 h7=>?_)
    refine tF (fun h8=>?_) (fun h8=>?_)
    .exact tR trivial
    .have q11:=ov5.1
     refine tB (tA (by simp only [List.length_cons,List.length_nil];omega) (by decide)) (fun x9 h10=>?_)
     have lh10:x9.length=v5.length+1:=by rw [h10,List.length_append];rfl
     refine qw (v10+1) fun q12 q13=>?_
     exact tL ⟨O0,SzL.tr,ov8,cl,cl,cl,cl,‹_›⟩ (by unfold Zgd lt6;dsimp only;omega)
   .exact tR trivial
def Zno:Zc9->Prop
 | .L0 v1 E0 v5 v8 v9 v10=>((SzL 8 (fun _=>True)) v1)/\(Zu E0)/\((SzL 8 (fun _=>True)) v8)/\(0<=v10)/\(v9=(v8.length:Int))
def Zge:Zc9->M6
 | .L0 v1 E0 v5 v8 v9 v10=>(1,(v9 - v10).toNat,1000000,0,0,0)
theorem Znp{a0:Zd}{a1:List Int}(oa0:Zu a0)(oa1:(SzL 8 (fun _=>True)) a1):Tot (Zip a0 a1) (fun r=>True):=by
 unfold Zip
 refine tX (Inv:=Zno) (μ:=Zge) (m:=(1000000,0,0,0,0,0)) ?_ ?_
 .have lb_a1:=oa1.1
  dsimp only [Zjv,LT.den]
  have q1:=oa1.1
  exact tL ⟨oa1,oa0,oa1,cl,cl⟩ (by unfold Zge lt6;dsimp only;omega)
 .intro s hs
  cases s with
  | L0 v1 E0 v5 v8 v9 v10=>
   obtain⟨ov1,O0,ov8,cv10,i0⟩:=hs
   have lb_v1:=ov1.1
   have lb_v8:=ov8.1
   show Tot (Zf4 v1 E0 v5 v8 v9 v10).den _
   dsimp only [Zf4,LT.den]
   refine tD (fun h1=>?_) (fun h1=>?_)
   .refine tB (tI (by omega) (by omega)) (fun x2 h3=>?_)
    refine tD (fun h4=>?_) (fun h4=>?_)
    .exact tR trivial
    .refine tD (fun h5=>?_) (fun h5=>?_)
     .exact tR trivial
     .refine qw (v5+x2) fun q6 q7=>?_
      refine qw (v10+1) fun q8 q9=>?_
      exact tL ⟨ov1,O0,ov8,cl,cl⟩ (by unfold Zge lt6;dsimp only;omega)
   .have q10:=ov1.1
    have q11:=O0.1
    refine tE (fun h12=>?_) (fun h12=>?_)
    .exact tR trivial
    .exact tR trivial
def Zdu:Zdy->Prop
 | .L0 v1 E0 v9 v10=>((SzL 8 (fun _=>True)) v1)/\(Zu E0)
 | .L1 v1 E0 v9 v77=>((SzL 8 (fun _=>True)) v1)/\(Zu E0)
def Ziu:Zdy->M6
 | .L0 v1 E0 v9 v10=>(0,0,0,0,0,0)
 | .L1 v1 E0 v9 v77=>(0,0,0,0,0,0)
theorem Zfd{v1:List Int}{E0:Zd}{v9:Int}{v77:Bool}(h:Zdu (.L1 v1 E0 v9 v77)):Tot (Zee v1 E0 v9 v77).den (Nx Zdu Ziu (0,0,0,0,0,0) (fun r=>True)):=by
 obtain⟨ov1,O0⟩:=h
 have lb_v1:=ov1.1
 dsimp only [Zee,LT.den]
 refine tF (fun h1=>?_) (fun h1=>?_)
 .refine tB (Zd5 O0 ov1) (fun x2 h3=>?_)
  have eh3_0:=h3
  refine tF (fun h4=>?_) (fun h4=>?_)
  .have h4_0:=eh3_0 h4
   refine tB (Znn O0 ov1 (by first | assumption | grind)) (fun x5 h6=>?_)
   exact tR trivial
  .exact tR trivial
 .refine tE (fun h7=>?_) (fun h7=>?_)
  .refine tB (Znp O0 ov1) (fun x8 h9=>?_)
   exact tR trivial
  .exact tR trivial
theorem Zbz{v1:List Int}{E0:Zd}{v9:Int}{v10:Bool}(h:Zdu (.L0 v1 E0 v9 v10)):Tot (Zb5 v1 E0 v9 v10).den (Nx Zdu Ziu (0,0,0,0,0,0) (fun r=>True)):=by
 obtain⟨ov1,O0⟩:=h
 have lb_v1:=ov1.1
 dsimp only [Zb5,LT.den]
 refine tF (fun h1=>?_) (fun h1=>?_)
 .have q2:=ov1.1
  refine tE (fun h3=>?_) (fun h3=>?_)
  .refine tB (Zd5 O0 ov1) (fun x4 h5=>?_)
   have eh5_0:=h5
   exact tR trivial
  .exact tR trivial
 .refine tE (fun h6=>?_) (fun h6=>?_)
  .have q7:=ov1.1
   refine tD (fun h8=>?_) (fun h8=>?_)
   .refine tD (fun h9=>?_) (fun h9=>?_)
    .refine tB (Zd5 O0 ov1) (fun x10 h11=>?_)
     have eh11_0:=h11
     exact tR trivial
    .exact tR trivial
   .exact tR trivial
  .refine tE (fun h12=>?_) (fun h12=>?_)
   .have q13:=ov1.1
    have q14:=O0.1
    refine tE (fun h15=>?_) (fun h15=>?_)
    .refine tB (Zd5 O0 ov1) (fun x16 h17=>?_)
     have eh17_0:=h17
     exact tR trivial
    .exact tR trivial
   .refine tE (fun h18=>?_) (fun h18=>?_)
    .have q19:=ov1.1
     refine tE (fun h20=>?_) (fun h20=>?_)
     .refine tB (tI (by omega) (by omega)) (fun x21 h22=>?_)
      refine tD (fun h23=>?_) (fun h23=>?_)
      .exact tR trivial
      .exact tR trivial
     .exact tR trivial
    .refine tE (fun h24=>?_) (fun h24=>?_)
     .exact tJ (Zfd ⟨ov1,O0⟩)
     .exact tJ (Zfd ⟨ov1,O0⟩)
theorem Zqr{a0:Zd}{a1:List Int}(oa0:Zu a0)(oa1:(SzL 8 (fun _=>True)) a1):Tot (Zlw a0 a1) (fun r=>True):=by
 unfold Zlw
 refine tX (Inv:=Zdu) (μ:=Ziu) (m:=(1000000,0,0,0,0,0)) ?_ ?_
 .have lb_a1:=oa1.1
  dsimp only [Zmx,LT.den]
  have q1:=oa1.1
  refine tD (fun h2=>?_) (fun h2=>?_)
  .exact tR trivial
  .refine tE (fun h3=>?_) (fun h3=>?_)
   .exact tJ (Zbz ⟨oa1,oa0⟩)
   .refine tE (fun h4=>?_) (fun h4=>?_)
    .exact tJ (Zbz ⟨oa1,oa0⟩)
    .refine tE (fun h5=>?_) (fun h5=>?_)
     .exact tJ (Zbz ⟨oa1,oa0⟩)
     .refine tE (fun h6=>?_) (fun h6=>?_)
      .exact tJ (Zbz ⟨oa1,oa0⟩)
      .exact tJ (Zbz ⟨oa1,oa0⟩)
 .intro s hs
  cases s with
  | L0 _ _ _ _=>exact Zbz hs
  | L1 _ _ _ _=>exact Zfd hs
def Zsu(a0:List Int)(a1:List Int):Zf5->Prop
 | .L0 v0 v1 v5=>(v0=a0)/\(v1=a1)/\((SzL 8 (fun _=>True)) v0)/\((SzL 8 (fun _=>True)) v1)/\(0<=v5)/\(v0.length=v1.length)
def Zjl:Zf5->M6
 | .L0 v0 v1 v5=>(1,((v0.length:Int) - v5).toNat,1000000,0,0,0)
theorem Zly{a0:List Int}{a1:List Int}(oa0:(SzL 8 (fun _=>True)) a0)(oa1:(SzL 8 (fun _=>True)) a1):Tot (Zni a0 a1) (fun r=>(a0=a1->r=true)):=by
 unfold Zni
 refine tX (Inv:=(Zsu a0 a1)) (μ:=Zjl) (m:=(1000000,0,0,0,0,0)) ?_ ?_
 .have lb_a0:=oa0.1
  have lb_a1:=oa1.1
  dsimp only [Zov,LT.den]
  have q1:=oa0.1
  have q2:=oa1.1
  refine tN (fun h3=>?_) (fun h3=>?_)
  .exact tR (by exact sm)
  .exact tL ⟨rfl,rfl,oa0,oa1,cl,cl⟩ (by unfold Zjl lt6;dsimp only;omega)
 .intro s hs
  cases s with
  | L0 v0 v1 v5=>
   obtain⟨al0,al1,ov0,ov1,cv5,i0⟩:=hs
   have lb_v0:=ov0.1
   have lb_v1:=ov1.1
   subst al0
   subst al1
   show Tot (Zjj v0 v1 v5).den _
   dsimp only [Zjj,LT.den]
   have q1:=ov0.1
   refine tD (fun h2=>?_) (fun h2=>?_)
   .refine tB (tI (by omega) (by omega)) (fun x3 h4=>?_)
    have mh4:=h4.2
    refine tB (tI (by omega) (by omega)) (fun x5 h6=>?_)
    have mh6:=h6.2
    refine tN (fun h7=>?_) (fun h7=>?_)
    .exact tR (by exact sm)
    .refine qw (v5+1) fun q8 q9=>?_
     exact tL ⟨rfl,rfl,ov0,ov1,cl,cl⟩ (by unfold Zjl lt6;dsimp only;omega)
   .exact tR (by exact sm)
theorem Zhj{b0:Zt}{a1:Zd}(ob0:Za3 b0)(oa1:Zu a1)(h0:0<=b0.used)(h1:b0.used<=b0.answers.length):Tot (Zah b0 a1) (fun r=>((SzL 8 (fun _=>True)) r.1)/\(Za3 r.2)):=by
 unfold Zah
 refine tZ ?_
 dsimp only [Zef,LT.den]
 refine tF (fun h1=>?_) (fun h1=>?_)
 .refine tB (Zcu oa1) (fun x2 h3=>?_)
  exact tR ⟨h3,ob0⟩
 .refine tF (fun h4=>?_) (fun h4=>?_)
  .refine tB (Zcu oa1) (fun x5 h6=>?_)
   exact tR ⟨h6,ob0⟩
  .refine tB (Zpv oa1) (fun x7 h8=>?_)
   refine tF (fun h9=>?_) (fun h9=>?_)
   .refine tB (Zcu oa1) (fun x10 h11=>?_)
    exact tR ⟨h11,ob0⟩
   .have q12:=ob0.1.1
    refine tE (fun h13=>?_) (fun h13=>?_)
    .refine tB (Zht oa1) (fun x14 h15=>?_)
     have eh15_1:=h15.2
     refine tB (Zcu h15.1) (fun x16 h17=>?_)
     exact tR ⟨h17,⟨ob0.1,h15.1⟩⟩
    .refine tB (tI (by omega) (by omega)) (fun x18 h19=>?_)
     have oh19:(SzL 8 (fun _=>True)) x18:=ob0.1.2 x18 h19.1
     refine qw (b0.used+1) fun q20 q21=>?_
     refine tB (Zqr oa1 oh19) (fun x22 h23=>?_)
     refine tO (fun h24=>?_) (fun h24=>?_)
     .refine tB (Zcu oa1) (fun x25 h26=>?_)
      exact tR ⟨h26,⟨ob0.1,ob0.2⟩⟩
     .refine tB (Zk3 oh19) (fun x27 h28=>?_)
      have eh28_1:=h28.2
      exact tR ⟨h28.1,⟨ob0.1,ob0.2⟩⟩
theorem Zcc{b0:Zt}{a1:Zd}(ob0:Za3 b0)(oa1:Zu a1)(h0:0<=b0.used)(h1:b0.used<=b0.answers.length):Tot (Zah b0 a1) (fun r=>((SzL 8 (fun _=>True)) r.1)/\(Za3 r.2)/\(r=(Zah b0 a1).getD default)):=(Tot.we (Zhj ob0 oa1 h0 h1)).mono fun r h=>⟨h.1.1,h.1.2,Option.some.inj (h.2.symm.trans (by rw [h.2];rfl))⟩
theorem Zk2:Tot Zqi (fun r=>r=true):=⟨true,by kernel_rfl,rfl⟩
theorem Zix{a0:List Int}(oa0:(SzL 8 (fun _=>True)) a0):Tot (Zd0 a0) (fun r=>((SzL 8 (fun _=>True)) r)):=by
 unfold Zd0
 refine tZ ?_
 have lb_a0:=oa0.1
 dsimp only [Zfj,LT.den]
 have q3:=oa0.1
 refine tB (tA (by first | omega | (simp only [List.length_cons,List.length_nil];omega)) (by decide)) (fun x1 h2=>?_)
 have lh2:x1.length=([]:List Int).length+a0.length:=by rw [h2,List.length_append]
 try simp only [List.length_cons,List.length_nil,Nat.zero_add] at lh2
 exact tR SzL.tr
def Zo0:Zdt->Prop
 | .L0 E0 v8 v9 v10=>(Za3 E0)/\((SzL 24 (SzL 8 (fun _=>True))) v8)/\(0<=v10)/\(v9=(v8.length:Int))/\(E0.answers.length<=v10.toNat)/\(v10<=v9)/\(E0.used=0)
def Zgw:Zdt->M6
 | .L0 E0 v8 v9 v10=>(1,(v9 - v10).toNat,1000000,0,0,0)
theorem Znq{a0:List (List Int)}(oa0:(SzL 24 (SzL 8 (fun _=>True))) a0):Tot (Ze2 a0) (fun r=>(Za3 r)/\(r.used=0)):=by
 unfold Ze2
 refine tX (Inv:=Zo0) (μ:=Zgw) (m:=(1000000,0,0,0,0,0)) ?_ ?_
 .have lb_a0:=oa0.1
  dsimp only [Zkx,LT.den]
  have q1:=oa0.1
  exact tL ⟨⟨SzL.nil,SzL.nil⟩,oa0,cl,cl,cl,cl,cl⟩ (by unfold Zgw lt6;dsimp only;omega)
 .intro s hs
  cases s with
  | L0 E0 v8 v9 v10=>
   obtain⟨O0,ov8,cv10,i0,i1,i2,i3⟩:=hs
   have lb_v8:=ov8.1
   show Tot (Zgt E0 v8 v9 v10).den _
   dsimp only [Zgt,LT.den]
   refine tD (fun h1=>?_) (fun h1=>?_)
   .refine tB (tI (by omega) (by omega)) (fun x2 h3=>?_)
    have oh3:(SzL 8 (fun _=>True)) x2:=ov8.2 x2 h3.1
    refine tB (Zix oh3) (fun x4 h5=>?_)
    have q8:=O0.1.1
    refine tB (tA (by simp only [List.length_cons,List.length_nil];omega) (by decide)) (fun x6 h7=>?_)
    have lh7:x6.length=E0.answers.length+1:=by rw [h7,List.length_append];rfl
    refine qw (v10+1) fun q9 q10=>?_
    exact tL ⟨⟨SzL.app (k:=24) h7 lo O0.1.2 (me1 h5),O0.2⟩,ov8,cl,cl,cl,cl,cl⟩ (by unfold Zgw lt6;dsimp only;omega)
   .refine tB (tK (by first | omega | (simp only [List.length_map];omega))) (fun _ _=>?_)
    exact tR ⟨O0,cl⟩
theorem Zgf{a0:List (List Int)}(oa0:(SzL 24 (SzL 8 (fun _=>True))) a0):Tot (Ze2 a0) (fun r=>(Za3 r)/\(r.used=0)/\(r=(Ze2 a0).getD default)):=(Tot.we (Znq oa0)).mono fun r h=>⟨h.1.1,h.1.2,Option.some.inj (h.2.symm.trans (by rw [h.2];rfl))⟩
def Znr:Zbl->Prop
 | .L0 E0 v5 v23 v24 v25=>(Zu E0)/\((SzL 24 (SzL 8 (fun _=>True))) v5)/\((SzL 24 (SzL 8 (fun _=>True))) v23)/\(0<=v25)/\(v24=(v23.length:Int))/\(v5.length<=v25.toNat)/\(v25<=v24)
 | .L1 E0 v5 E1 E2 v11 v12 v49 v50=>(Zu E0)/\((SzL 24 (SzL 8 (fun _=>True))) v5)/\(Za3 E1)/\(Za3 E2)/\((SzL 8 (fun _=>True)) v11)/\((SzL 8 (fun _=>True)) v12)/\(0<=v50)/\(E2=E1)/\(E1.used=0)/\(E2.used=0)/\(v12=((Zah E1 E0).getD default).1)/\(v49=(v11.length:Int))
 | .L2 E0 E1 v12 v63 v64 v65=>(Zu E0)/\(Za3 E1)/\((SzL 8 (fun _=>True)) v12)/\((SzL 24 (SzL 8 (fun _=>True))) v63)/\(0<=v65)/\(v12=((Zah E1 E0).getD default).1)/\(E1.used=0)/\(v64=(v63.length:Int))
 | .L3 E0 E1 v12 v15 v63 v64 v65 v70 v71=>(Zu E0)/\(Za3 E1)/\((SzL 8 (fun _=>True)) v12)/\((SzL 8 (fun _=>True)) v15)/\((SzL 24 (SzL 8 (fun _=>True))) v63)/\(0<=v71)/\(0<=v65)/\(v65 < v64)/\(v12=((Zah E1 E0).getD default).1)/\(E1.used=0)/\(v64=(v63.length:Int))/\(v70=(v15.length:Int))
def Za1:Zbl->M6
 | .L0 E0 v5 v23 v24 v25=>(5,(v24 - v25).toNat,1000000,0,0,0)
 | .L1 E0 v5 E1 E2 v11 v12 v49 v50=>(3,(v49 - v50).toNat,1000000,0,0,0)
 | .L2 E0 E1 v12 v63 v64 v65=>(1,(v64 - v65).toNat,1000000,0,0,0)
 | .L3 E0 E1 v12 v15 v63 v64 v65 v70 v71=>(1,(v64 - v65).toNat,1,(v70 - v71).toNat,1000000,0)
theorem Zns{a0:List (List Int)}{a1:Zd}(oa0:(SzL 24 (SzL 8 (fun _=>True))) a0)(oa1:Zu a1):Tot (Zis a0 a1) (fun r=>(r=true)):=by
 unfold Zis
 refine tX (Inv:=Znr) (μ:=Za1) (m:=(1000000,0,0,0,0,0)) ?_ ?_
 .have lb_a0:=oa0.1
  dsimp only [Zjy,LT.den]
  refine tB (Zqo (SzL.one oa1) oa0) (fun x1 h2=>?_)
  refine tO (fun h3=>?_) (fun h3=>?_)
  .refine tB (Zk2) (fun x4 h5=>?_)
   have eh5_0:=h5
   exact tR (by first | assumption | grind)
  .have q6:=oa0.1
   exact tL ⟨oa1,SzL.nil,oa0,cl,cl,cl,cl⟩ (by unfold Za1 lt6;dsimp only;omega)
 .intro s hs
  cases s with
  | L0 E0 v5 v23 v24 v25=>
   obtain⟨O0,ov5,ov23,cv25,i0,i1,i2⟩:=hs
   have lb_v5:=ov5.1
   have lb_v23:=ov23.1
   show Tot (Zf7 E0 v5 v23 v24 v25).den _
   dsimp only [Zf7,LT.den]
   refine tD (fun h1=>?_) (fun h1=>?_)
   .refine tB (tI (by omega) (by omega)) (fun x2 h3=>?_)
    have oh3:(SzL 8 (fun _=>True)) x2:=ov23.2 x2 h3.1
    have mh3:=h3.2
    have q6:=oh3.1
    refine tB (tA (by first | omega | (simp only [List.length_cons,List.length_nil];omega)) (by decide)) (fun x4 h5=>?_)
    have lh5:x4.length=([]:List Int).length+x2.length:=by rw [h5,List.length_append]
    try simp only [List.length_cons,List.length_nil,Nat.zero_add] at lh5
    have q9:=ov5.1
    refine tB (tA (by simp only [List.length_cons,List.length_nil];omega) (by decide)) (fun x7 h8=>?_)
    have lh8:x7.length=v5.length+1:=by rw [h8,List.length_append];rfl
    refine qw (v25+1) fun q10 q11=>?_
    exact tL ⟨O0,SzL.app (k:=24) h8 lo ov5.2 (me1 SzL.tr),ov23,cl,cl,cl,cl⟩ (by unfold Za1 lt6;dsimp only;omega)
   .refine tB (tK (by first | omega | (simp only [List.length_map];omega))) (fun _ _=>?_)
    refine tB (Zgf ov5) (fun x12 h13=>?_)
    have eh13_1:=h13.2.1
    have eh13_2:=h13.2.2
    refine tB (Zgf ov5) (fun x14 h15=>?_)
    have eh15_1:=h15.2.1
    have eh15_2:=h15.2.2
    refine tB (Zgf ov5) (fun x16 h17=>?_)
    have eh17_1:=h17.2.1
    have eh17_2:=h17.2.2
    refine tB (Zcc h13.1 O0 cl cl) (fun x18 h19=>?_)
    have eh19_2:=h19.2.2
    have q22:=h19.1.1
    refine tB (tA (by first | omega | (simp only [List.length_cons,List.length_nil];omega)) (by decide)) (fun x20 h21=>?_)
    have lh21:x20.length=([]:List Int).length+x18.1.length:=by rw [h21,List.length_append]
    try simp only [List.length_cons,List.length_nil,Nat.zero_add] at lh21
    exact tL ⟨O0,ov5,h15.1,h17.1,h19.1,SzL.tr,cl,(by first | assumption | grind),cl,cl,(by first | assumption | grind),cl⟩ (by unfold Za1 lt6;dsimp only;omega)
  | L1 E0 v5 E1 E2 v11 v12 v49 v50=>
   obtain⟨O0,ov5,O1,O2,ov11,ov12,cv50,i0,i1,i2,i3,i4⟩:=hs
   have lb_v5:=ov5.1
   have lb_v11:=ov11.1
   have lb_v12:=ov12.1
   show Tot (Zf8 E0 v5 E1 E2 v11 v12 v49 v50).den _
   dsimp only [Zf8,LT.den]
   refine tD (fun h1=>?_) (fun h1=>?_)
   .refine tB (tI (by omega) (by omega)) (fun x2 h3=>?_)
    have mh3:=h3.2
    refine tB (Tot.set (by omega) (by omega)) (fun x4 h5=>?_)
    have lh5:=h5.1
    refine qw (v50+1) fun q6 q7=>?_
    exact tL ⟨O0,ov5,O1,O2,SzL.tr,ov12,cl,(by first | assumption | grind),cl,cl,(by first | assumption | grind),cl⟩ (by unfold Za1 lt6;dsimp only;omega)
   .refine tB (Zcc O1 O0 cl cl) (fun x8 h9=>?_)
    have eh9_2:=h9.2.2
    refine tB (Zly h9.1 ov12) (fun x10 h11=>?_)
    have eh11_0:=h11
    refine tO (fun h12=>?_) (fun h12=>?_)
    .exact tR (by first | assumption | grind)
    .have q13:=ov5.1
     exact tL ⟨O0,O2,ov12,ov5,cl,(by first | assumption | grind),cl,cl⟩ (by unfold Za1 lt6;dsimp only;omega)
  | L2 E0 E1 v12 v63 v64 v65=>
   obtain⟨O0,O1,ov12,ov63,cv65,i0,i1,i2⟩:=hs
   have lb_v12:=ov12.1
   have lb_v63:=ov63.1
   show Tot (Zf9 E0 E1 v12 v63 v64 v65).den _
   dsimp only [Zf9,LT.den]
   refine tD (fun h1=>?_) (fun h1=>?_)
   .refine tB (tI (by omega) (by omega)) (fun x2 h3=>?_)
    have oh3:(SzL 8 (fun _=>True)) x2:=ov63.2 x2 h3.1
    have mh3:=h3.2
    have q4:=oh3.1
    exact tL ⟨O0,O1,ov12,oh3,ov63,cl,cl,cl,(by first | assumption | grind),cl,cl,cl⟩ (by unfold Za1 lt6;dsimp only;omega)
   .refine tB (Zcc O1 O0 cl cl) (fun x5 h6=>?_)
    have eh6_2:=h6.2.2
    refine tB (Zly h6.1 ov12) (fun x7 h8=>?_)
    have eh8_0:=h8
    refine tF (fun h9=>?_) (fun h9=>?_)
    .refine tB (Zk2) (fun x10 h11=>?_)
     have eh11_0:=h11
     exact tR (by first | assumption | grind)
    .exact tR (by first | assumption | grind)
  | L3 E0 E1 v12 v15 v63 v64 v65 v70 v71=>
   obtain⟨O0,O1,ov12,ov15,ov63,cv71,cv65,bd7,i0,i1,i2,i3⟩:=hs
   have lb_v12:=ov12.1
   have lb_v15:=ov15.1
   have lb_v63:=ov63.1
   show Tot (Zga E0 E1 v12 v15 v63 v64 v65 v70 v71).den _
   dsimp only [Zga,LT.den]
   refine tD (fun h1=>?_) (fun h1=>?_)
   .refine tB (tI (by omega) (by omega)) (fun x2 h3=>?_)
    have mh3:=h3.2
    refine qw (v71+1) fun q4 q5=>?_
    exact tL ⟨O0,O1,ov12,ov15,ov63,cl,cl,cl,(by first | assumption | grind),cl,cl,cl⟩ (by unfold Za1 lt6;dsimp only;omega)
   .refine qw (v65+1) fun q6 q7=>?_
    exact tL ⟨O0,O1,ov12,ov63,cl,(by first | assumption | grind),cl,cl⟩ (by unfold Za1 lt6;dsimp only;omega)
end Go.PW
