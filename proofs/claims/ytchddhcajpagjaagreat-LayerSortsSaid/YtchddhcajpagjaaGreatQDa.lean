import Derived.Test.YtchddhcajpagjaaGreatQDt
set_option linter.all false
set_option maxRecDepth 100000
namespace Go.PW
open Go.RowKit
noncomputable section
def yq(a0:Int):LT Empty Bool:=
.cs (decide (a0>=97)) (.k3 0<|.rt (decide (a0<=122)))<|.k3 0<|.rt false
def EO:LF Empty Bool :=.z0 120 [.t 2] wB
def uo:=λa0=>EO.run (yq a0)
def EP(a0){r}(h:uo a0=some r):Fn PR 120 [.t (.int .u8 a0)] (wB r):=EO.fn h
inductive jS where
 |L0 (v0:By) (v3:Int)
 |L1 (v0:By) (v3:Int)
def jT(v0:By)(v3:Int):LT jS Bool:=
.cs (decide (v3>0)) (.k3 0<|.idxS v0 v3 λx2=>.k2 0<|.cs ((UInt8.toNat x2:Int)==45) (.k4 1<|.idxS v0 (IntKind.wrap .i64 (v3-1)) λx7=>.k2 1<|.br ((UInt8.toNat x7:Int)==45) (.rt false)<|.g0 (.L0 v0 (IntKind.wrap .i64 (v3+1))))<|.k5 1<|.kg 1<|.kn [0]<|.g0 (.L0 v0 (IntKind.wrap .i64 (v3+1))))<|.k5 0<|.b5 false<|.kb false<|.kn [0]<|.g0 (.L0 v0 (IntKind.wrap .i64 (v3+1)))
def nq(v0:By)(v3:Int):LT jS Bool:=
.lenS v0<|.br (decide (v3<(v0.length:Int))) (.idxS v0 v3 λx3=>.call (EP (UInt8.toNat x3:Int)) λx5=>.cs (!x5) (.k3 1<|.idxS v0 v3 λx8=>.k2 1<|.cs (decide ((UInt8.toNat x8:Int)<48)) (.k4 2<|.kg 1<|.kg 2<|.kg 1<|.b3 true<|.idxS v0 v3 λx11=>.b2 true<|.br ((UInt8.toNat x11:Int) != 45) (.rt false)<|.j0 (.L1 v0 v3) (jT v0 v3))<|.k3 2<|.idxS v0 v3 λx14=>.kg 2<|.kg 1<|.kg 2<|.kg 1<|.cs (decide ((UInt8.toNat x14:Int)>57)) (.k3 3<|.idxS v0 v3 λx17=>.k2 3<|.br ((UInt8.toNat x17:Int) != 45) (.rt false)<|.j0 (.L1 v0 v3) (jT v0 v3))<|.k5 3<|.kn [0]<|.j0 (.L1 v0 v3) (jT v0 v3))<|.k5 1<|.k2 1<|.b5 false<|.kn [0]<|.j0 (.L1 v0 v3) (jT v0 v3))<|.rt true
def yr(a0:By):LT jS Bool:=
.lenS a0<|.cs (decide ((a0.length:Int)<1)) (.k4 0<|.b8 true<|.b4 true<|.kn [0]<|.rt false)<|.k2 0<|.lenS a0<|.k2 0<|.cs (decide ((a0.length:Int)>32)) (.k5 1<|.b5 true<|.b2 true<|.kn [0]<|.rt false)<|.k2 1<|.idxS a0 0 λx4=>.kg 1<|.call (EP (UInt8.toNat x4:Int)) λx6=>.k2 1<|.cs (!x6) (.k5 2<|.k2 2<|.kn [0]<|.rt false)<|.k3 2<|.lenS a0<|.k2 2<|.idxS a0 (IntKind.wrap .i64 ((a0.length:Int)-1)) λx11=>.k2 2<|.br ((UInt8.toNat x11:Int)==45) (.rt false)<|.g0 (.L0 a0 0)
def nr:LF jS Bool :=.m0 73 [.t 2] wB λ|.L0 v0 v3=>([1,1,0,1,4],⟨70,[(0,wS v0),(3,wI v3)],[]⟩,nq v0 v3)|.L1 v0 v3=>([1,1,0,1,4,5,1,0,4,1],⟨70,[(0,wS v0),(3,wI v3)],[]⟩,jT v0 v3)
def uq:=λa0=>nr.run (yr a0)
def yt(a0){r}(h:uq a0=some r):Fn PR 73 [wS a0] (wB r):=nr.fn h
inductive jU where
 |L0 (E0:aK) (v3:Int)
def nu(E0:aK)(v3:Int):LT jU Bool:=
.br (decide (v3<5)) (.idA (aa.int .i64) (A5.list E0.Color) v3 (bx (cu E0)) 2 7 λx2=>.ldC (aa.int .i64) 29 x2 0<|.cs (decide (x2<0)) (.k5 1<|.kg 1<|.kn [0]<|.rt false)<|.k3 1<|.idA (aa.int .i64) (A5.list E0.Color) v3 (bx (cu E0)) 2 7 λx5=>.kg 1<|.ldC (aa.int .i64) 35 x5 1<|.k2 1<|.br (decide (x5>9)) (.rt false)<|.g0 (.L0 E0 (IntKind.wrap .i64 (v3+1))))<|.rt true
def yu(a0:aK):LT jU Bool:=
.lb 1001<|.cs (decide (a0.Generic<0)) (.k4 0<|.b8 true<|.kn [0]<|.rt false)<|.k4 0<|.cs (decide (a0.Generic>99)) (.k4 1<|.b4 true<|.kn [0]<|.rt false)<|.k4 1<|.cs (decide (a0.X<0)) (.k4 2<|.kn [0]<|.rt false)<|.k4 2<|.br (decide (a0.X>2)) (.rt false)<|.go (.L0 a0 0) [.relab 1001 3000]
def jx:LF jU Bool :=.m0 74 [.t 2] wB λ|.L0 E0 v3=>([1,1,0,1,4],⟨38,[(1,.bptr 3000 0),(3,wI v3)],[(3000,.box (bx (cu E0)))]⟩,nu E0 v3)
def Z9c:=λa0=>jx.run (yu a0)
def pC(a0){r}(h:Z9c a0=some r):Fn PR 74 [wA (cu a0)] (wB r):=jx.fn h
def Yp:LT Empty (Bys):=
.lb 1001<|.ret [([98,97,115,105,99]:By),([117,110,105,113,117,101]:By)] [.relab 1001 5000]
def Z2s:LF Empty (Bys) :=.z 169 [.t 0] true (λr=>[(5000,wR cS 1 r)]) (λr=>(wO cS 5000 r))
def yv:=Z2s.run (Yp)
def Yq{r}(h:yv=some r):FnG PR 169 [] [] [(5000,wR cS 1 r)] (wO cS 5000 r):=Z2s.fn h
def Yr{r:Bys}(h:yv=some r):Fn PR 169 [] (wL cS r):=FnG.frozen (C:=LT.RL cS r/\True) (Yq h) ⟨rfl,ab⟩ bp
inductive Z7n where
 |L0 (v0:Bys) (v1:By) (v5:Int)
def pD(v0:Bys)(v1:By)(v5:Int):LT Z7n Int:=
.len cS v0<|.br (decide (v5<(v0.length:Int))) (.idx cS v0 v5 λx3=>.br (x3==v1) (.rt v5)<|.g0 (.L0 v0 v1 (IntKind.wrap .i64 (v5+1))))<|.rt (-1)
def ER(a0:Bys)(a1:By):LT Z7n Int:=
.g0 (.L0 a0 a1 0)
def Z7o:LF Z7n Int :=.m0 168 [.t 4] wI λ|.L0 v0 v1 v5=>([1,0,1,4],⟨19,[(0,wL cS v0),(1,wS v1),(5,wI v5)],[]⟩,pD v0 v1 v5)
def yw:=λa0 a1=>Z7o.run (ER a0 a1)
def Z2t(a0)(a1){r}(h:yw a0 a1=some r):Fn PR 168 [wL cS a0,wS a1] (wI r):=Z7o.fn h
def Z5c:LT Empty (Bys):=
.lb 1001<|.ret [([99,114,101,97,116,117,114,101]:By),([105,110,115,116,97,110,116]:By),([114,105,116,117,97,108]:By),([114,101,108,105,99]:By),([99,104,97,114,109]:By),([108,97,110,100]:By)] [.relab 1001 5000]
def Z5d:LF Empty (Bys) :=.z 170 [.t 0] true (λr=>[(5000,wR cS 1 r)]) (λr=>(wO cS 5000 r))
def ur:=Z5d.run (Z5c)
def Ys{r}(h:ur=some r):FnG PR 170 [] [] [(5000,wR cS 1 r)] (wO cS 5000 r):=Z5d.fn h
def Z2u{r:Bys}(h:ur=some r):Fn PR 170 [] (wL cS r):=FnG.frozen (C:=LT.RL cS r/\True) (Ys h) ⟨rfl,ab⟩ bp
def ES(a0:By):LT Empty Bool:=
.call (yt a0) λx1=>.cs x1 (.kg 0<|.call (Yr) λx4=>.k2 0<|.call (Z2t x4 a0) λx6=>.k2 0<|.cs (decide (x6<0)) (.kg 1<|.call (Z2u) λx9=>.k2 1<|.call (Z2t x9 a0) λx11=>.k2 1<|.rt (decide (x11<0)))<|.k5 1<|.rt false)<|.k5 0<|.b5 false<|.rt false
def ET:LF Empty Bool :=.z0 121 [.t 2] wB
def Z5e:=λa0=>ET.run (ES a0)
def uu(a0){r}(h:Z5e a0=some r):Fn PR 121 [wS a0] (wB r):=ET.fn h
inductive pE where
 |L0 (v0:Int) (v1:Int) (v5:Int)
def EU(v0:Int)(v1:Int)(v5:Int):LT pE Bool:=
.br (decide (v5<v1)) (.dc ((2:Int)≠0) rfl<|.g0 (.L0 (er .i64 v0 2) v1 (IntKind.wrap .i64 (v5+1))))<|.dc ((2:Int)≠0) rfl<|.rt ((Int.tmod v0 2)==1)
def EV(a0:Int)(a1:Int):LT pE Bool:=
.g0 (.L0 a0 a1 0)
def yx:LF pE Bool :=.m0 122 [.t 4] wB λ|.L0 v0 v1 v5=>([1,0,1,4],⟨16,[(0,wI v0),(1,wI v1),(5,wI v5)],[]⟩,EU v0 v1 v5)
def EW:=λa0 a1=>yx.run (EV a0 a1)
def yy(a0)(a1){r}(h:EW a0 a1=some r):Fn PR 122 [wI a0,wI a1] (wB r):=yx.fn h
inductive Z2v where
 |L0 (E0:aI) (v3:Int)
def EX(E0:aI)(v3:Int):LT Z2v Bool:=
.len cS E0.Subs<|.br (decide (v3<(E0.Subs.length:Int))) (.idx cS E0.Subs v3 λx3=>.call (uu x3) λx5=>.cs (!x5) (.k5 1<|.kn [0]<|.rt false)<|.k3 1<|.cs (decide (v3>0)) (.k5 2<|.idx cS E0.Subs (IntKind.wrap .i64 (v3-1)) λx11=>.k5 2<|.ag cS x3 0<|.k2 2<|.kg 1<|.kg 2<|.kg 1<|.br (!(Op.bytesLess x11 x3)) (.rt false)<|.g0 (.L0 E0 (IntKind.wrap .i64 (v3+1))))<|.k8 2<|.k4 2<|.kg 1<|.kg 2<|.kg 1<|.kn [0]<|.g0 (.L0 E0 (IntKind.wrap .i64 (v3+1))))<|.cs (E0.Types==2) (.k4 1<|.b5 true<|.b2 true<|.rt true)<|.k4 1<|.cs (E0.Types==4) (.k5 2<|.k2 2<|.rt true)<|.k3 2<|.call (yy E0.Types 1) λx20=>.k2 2<|.cs (!x20) (.k3 3<|.call (yy E0.Types 2) λx23=>.kg 3<|.kg 2<|.kg 3<|.kg 2<|.rt (!x23))<|.k4 3<|.kg 2<|.kg 3<|.kg 2<|.rt false
def EY(a0:aI):LT Z2v Bool:=
.lb 1001<|.cs (decide (a0.Super<0)) (.k4 0<|.b8 true<|.b5 true<|.kn [0]<|.rt false)<|.k4 0<|.cs (decide (a0.Super>3)) (.k4 1<|.b8 true<|.kb true<|.kn [0]<|.rt false)<|.k4 1<|.cs (decide (a0.Types<1)) (.k4 2<|.b5 true<|.kn [0]<|.rt false)<|.k4 2<|.cs (decide (a0.Types>63)) (.k5 3<|.kn [0]<|.rt false)<|.k3 3<|.len cS a0.Subs<|.k2 3<|.br (decide ((a0.Subs.length:Int)>4)) (.rt false)<|.go (.L0 a0 0) [.relab 1001 3000]
def yz:LF Z2v Bool :=.m0 75 [.t 2] wB λ|.L0 E0 v3=>([1,1,0,1,4],⟨80,[(1,.bptr 3000 0),(3,wI v3)],[(3000,.box (bx (hH E0)))]⟩,EX E0 v3)
def EZ:=λa0=>yz.run (EY a0)
def Yt(a0){r}(h:EZ a0=some r):Fn PR 75 [wA (hH a0)] (wB r):=yz.fn h
def E4(a0:Int):LT Empty Bool:=
.cs (decide (a0>=0)) (.k3 0<|.rt (decide (a0<=131071)))<|.k3 0<|.rt false
def E5:LF Empty Bool :=.z0 76 [.t 2] wB
def E6:=λa0=>E5.run (E4 a0)
def E7(a0){r}(h:E6 a0=some r):Fn PR 76 [wI a0] (wB r):=E5.fn h
def Z9d(a0:an):LT Empty Bool:=
.lb 1001<|.rt ((aQ .and .i64 a0.Line.Types 1) != 0)
def Z9e:LF Empty Bool :=.z0 77 [.t 2] wB
def E8:=λa0=>Z9e.run (Z9d a0)
def Yu(a0){r}(h:E8 a0=some r):Fn PR 77 [wA (bf a0)] (wB r):=Z9e.fn h
inductive pF where
 |L0 (v0:Int) (v1:Int) (v7:Int)
def nv(v0:Int)(v1:Int)(v7:Int):LT pF Bool:=
.br (decide (v7<6)) (.dc ((2:Int)≠0) rfl<|.cs ((Int.tmod v0 2)==1) (.k2 1<|.dc ((2:Int)≠0) rfl<|.k2 1<|.br ((Int.tmod v1 2)==1) (.rt false)<|.dc ((2:Int)≠0) rfl<|.dc ((2:Int)≠0) rfl<|.g0 (.L0 (er .i64 v0 2) (er .i64 v1 2) (IntKind.wrap .i64 (v7+1))))<|.k4 1<|.kn [0]<|.dc ((2:Int)≠0) rfl<|.dc ((2:Int)≠0) rfl<|.g0 (.L0 (er .i64 v0 2) (er .i64 v1 2) (IntKind.wrap .i64 (v7+1))))<|.rt true
def Z7p(a0:Int)(a1:Int)(a2:Int):LT pF Bool:=
.cs (decide (a0<0)) (.k4 0<|.b5 true<|.b2 true<|.kn [0]<|.rt false)<|.k4 0<|.cs (decide (a0>a2)) (.k3 1<|.b4 true<|.kn [0]<|.rt false)<|.k3 1<|.cs (decide (a1<0)) (.k4 2<|.kn [0]<|.rt false)<|.k4 2<|.br (decide (a1>a2)) (.rt false)<|.g0 (.L0 a0 a1 0)
def nw:LF pF Bool :=.m0 171 [.t 6] wB λ|.L0 v0 v1 v7=>([1,1,0,1,4],⟨40,[(0,wI v0),(1,wI v1),(7,wI v7)],[]⟩,nv v0 v1 v7)
def Z5f:=λa0 a1 a2=>nw.run (Z7p a0 a1 a2)
def E9(a0)(a1)(a2){r}(h:Z5f a0 a1 a2=some r):Fn PR 171 [wI a0,wI a1,wI a2] (wB r):=nw.fn h
def Z7q(a0:ah):LT Empty Bool:=
.lb 1001<|.cs (decide (a0.Kind<0)) (.k4 0<|.b8 true<|.kn [0]<|.rt false)<|.k4 0<|.cs (decide (a0.Kind>3)) (.k4 1<|.b4 true<|.kn [0]<|.rt false)<|.k4 1<|.cs (decide (a0.N<0)) (.k4 2<|.kn [0]<|.rt false)<|.k4 2<|.br (decide (a0.N>1000000)) (.rt false)<|.cs (a0.Kind != 0) (.k4 4<|.rt true)<|.k4 4<|.rt (a0.N==0)
def Fa:LF Empty Bool :=.z0 172 [.t 2] wB
def Z5g:=λa0=>Fa.run (Z7q a0)
def Z2w(a0){r}(h:Z5g a0=some r):Fn PR 172 [wA (gd a0)] (wB r):=Fa.fn h
inductive Z2x where
 |L0 (E0:al)
def lH(E0:al):LT Z2x Bool:=
.call (Z2w E0.Power) λx1=>.cs x1 (.k3 0<|.call (Z2w E0.Tough) λx4=>.kg 0<|.cs x4 (.k3 1<|.call (Z2w E0.Value) λx7=>.kg 1<|.rt x7)<|.k4 1<|.rt false)<|.k4 0<|.b4 false<|.rt false
def yA(a0:al):LT Z2x Bool:=
.lb 1001<|.cs (decide (a0.Zone<0)) (.k4 0<|.b16 true<|.b8 true<|.kn [0]<|.rt false)<|.k4 0<|.cs (decide (a0.Zone>5)) (.k4 1<|.b16 true<|.b4 true<|.kn [0]<|.rt false)<|.k4 1<|.cs (decide (a0.Who<0)) (.k4 2<|.b16 true<|.kn [0]<|.rt false)<|.k4 2<|.cs (decide (a0.Who>2)) (.k4 3<|.b8 true<|.b4 true<|.kn [0]<|.rt false)<|.k4 3<|.cs (decide (a0.Self<0)) (.k4 4<|.b8 true<|.kn [0]<|.rt false)<|.k4 4<|.cs (decide (a0.Self>2)) (.k4 5<|.b4 true<|.kn [0]<|.rt false)<|.k4 5<|.cs (decide (a0.Tap<0)) (.k4 6<|.kn [0]<|.rt false)<|.k4 6<|.br (decide (a0.Tap>2)) (.rt false)<|.call (E9 a0.Types a0.NotTypes 63) λx9=>.cs (!x9) (.k5 8<|.k2 8<|.kn [0]<|.rt false)<|.k5 8<|.call (E9 a0.Colors a0.NotColors 31) λx12=>.k2 8<|.br (!x12) (.rt false)<|.cs (!(a0.Sub==([]:By))) (.k3 10<|.call (uu a0.Sub) λx16=>.k2 10<|.cs (!x16) (.k4 11<|.b4 true<|.kn [0]<|.rt false)<|.k4 11<|.cs (decide (a0.Keys<0)) (.k4 12<|.kn [0]<|.rt false)<|.k4 12<|.br (decide (a0.Keys>131071)) (.rt false)<|.jn 0 (.L0 a0) [.relab 1001 3000] (lH a0))<|.k5 10<|.b4 false<|.cs (decide (a0.Keys<0)) (.k4 11<|.kn [0]<|.rt false)<|.k4 11<|.br (decide (a0.Keys>131071)) (.rt false)<|.jn 0 (.L0 a0) [.relab 1001 3000] (lH a0)
def yB:LF Z2x Bool :=.m0 123 [.t 2] wB λ|.L0 E0=>([1,1,1,1],⟨87,[(1,.bptr 3000 0)],[(3000,.box (bx (aX E0)))]⟩,lH E0)
def pG:=λa0=>yB.run (yA a0)
def iA(a0){r}(h:pG a0=some r):Fn PR 123 [wA (aX a0)] (wB r):=yB.fn h
inductive nx where
 |L0 (E0:af) (E1:af) (v7:Int) (v8:Bool)
 |L1 (E0:af) (E1:af) (v7:Int) (v16:Bool)
def pH(E0:af)(E1:af)(v7:Int)(v16:Bool):LT nx af:=
.br v16 (.rt (⟨E0.Kind,E0.N,E0.M,([]:By),E0.Filter⟩:af))<|.br (v7==11) (.rt (⟨E0.Kind,E0.N,E0.M,E0.Sub,(⟨0,0,0,0,0,0,0,([]:By),0,0,(⟨0,0⟩:ah),(⟨0,0⟩:ah),(⟨0,0⟩:ah)⟩:al)⟩:af))<|.br (v7==12) (.kn [3]<|.rt (⟨E0.Kind,0,0,E0.Sub,E0.Filter⟩:af))<|.br (v7==13) (.rt (⟨E0.Kind,0,0,E0.Sub,E0.Filter⟩:af))<|.rt E0
def jV(E0:af)(E1:af)(v7:Int)(v8:Bool):LT nx af:=
.br v8 (.rt (⟨E0.Kind,0,E0.M,E0.Sub,E0.Filter⟩:af))<|.br (v7==4) (.j0 (.L1 E0 E1 v7 (v7==4)) (pH E0 E1 v7 (v7==4)))<|.j0 (.L1 E0 E1 v7 (v7==5)) (pH E0 E1 v7 (v7==5))
def Fb(a0:af):LT nx af:=
.lb 1001<|.lb 1002<|.br (a0.Kind==2) (.jn 0 (.L0 (⟨0,a0.N,a0.M,a0.Sub,a0.Filter⟩:af) (⟨0,0,0,([]:By),(⟨0,0,0,0,0,0,0,([]:By),0,0,(⟨0,0⟩:ah),(⟨0,0⟩:ah),(⟨0,0⟩:ah)⟩:al)⟩:af) a0.Kind (a0.Kind==2)) [.relab 1001 3000,.relab 1002 3001] (jV (⟨0,a0.N,a0.M,a0.Sub,a0.Filter⟩:af) (⟨0,0,0,([]:By),(⟨0,0,0,0,0,0,0,([]:By),0,0,(⟨0,0⟩:ah),(⟨0,0⟩:ah),(⟨0,0⟩:ah)⟩:al)⟩:af) a0.Kind (a0.Kind==2)))<|.br (a0.Kind==3) (.jn 0 (.L0 (⟨0,a0.N,a0.M,a0.Sub,a0.Filter⟩:af) (⟨0,0,0,([]:By),(⟨0,0,0,0,0,0,0,([]:By),0,0,(⟨0,0⟩:ah),(⟨0,0⟩:ah),(⟨0,0⟩:ah)⟩:al)⟩:af) a0.Kind (a0.Kind==3)) [.relab 1001 3000,.relab 1002 3001] (jV (⟨0,a0.N,a0.M,a0.Sub,a0.Filter⟩:af) (⟨0,0,0,([]:By),(⟨0,0,0,0,0,0,0,([]:By),0,0,(⟨0,0⟩:ah),(⟨0,0⟩:ah),(⟨0,0⟩:ah)⟩:al)⟩:af) a0.Kind (a0.Kind==3)))<|.br (a0.Kind==6) (.jn 0 (.L0 (⟨0,a0.N,a0.M,a0.Sub,a0.Filter⟩:af) (⟨0,0,0,([]:By),(⟨0,0,0,0,0,0,0,([]:By),0,0,(⟨0,0⟩:ah),(⟨0,0⟩:ah),(⟨0,0⟩:ah)⟩:al)⟩:af) a0.Kind (a0.Kind==6)) [.relab 1001 3000,.relab 1002 3001] (jV (⟨0,a0.N,a0.M,a0.Sub,a0.Filter⟩:af) (⟨0,0,0,([]:By),(⟨0,0,0,0,0,0,0,([]:By),0,0,(⟨0,0⟩:ah),(⟨0,0⟩:ah),(⟨0,0⟩:ah)⟩:al)⟩:af) a0.Kind (a0.Kind==6)))<|.br (a0.Kind==7) (.jn 0 (.L0 (⟨0,a0.N,a0.M,a0.Sub,a0.Filter⟩:af) (⟨0,0,0,([]:By),(⟨0,0,0,0,0,0,0,([]:By),0,0,(⟨0,0⟩:ah),(⟨0,0⟩:ah),(⟨0,0⟩:ah)⟩:al)⟩:af) a0.Kind (a0.Kind==7)) [.relab 1001 3000,.relab 1002 3001] (jV (⟨0,a0.N,a0.M,a0.Sub,a0.Filter⟩:af) (⟨0,0,0,([]:By),(⟨0,0,0,0,0,0,0,([]:By),0,0,(⟨0,0⟩:ah),(⟨0,0⟩:ah),(⟨0,0⟩:ah)⟩:al)⟩:af) a0.Kind (a0.Kind==7)))<|.br (a0.Kind==8) (.jn 0 (.L0 (⟨0,a0.N,a0.M,a0.Sub,a0.Filter⟩:af) (⟨0,0,0,([]:By),(⟨0,0,0,0,0,0,0,([]:By),0,0,(⟨0,0⟩:ah),(⟨0,0⟩:ah),(⟨0,0⟩:ah)⟩:al)⟩:af) a0.Kind (a0.Kind==8)) [.relab 1001 3000,.relab 1002 3001] (jV (⟨0,a0.N,a0.M,a0.Sub,a0.Filter⟩:af) (⟨0,0,0,([]:By),(⟨0,0,0,0,0,0,0,([]:By),0,0,(⟨0,0⟩:ah),(⟨0,0⟩:ah),(⟨0,0⟩:ah)⟩:al)⟩:af) a0.Kind (a0.Kind==8)))<|.jn 0 (.L0 (⟨0,a0.N,a0.M,a0.Sub,a0.Filter⟩:af) (⟨0,0,0,([]:By),(⟨0,0,0,0,0,0,0,([]:By),0,0,(⟨0,0⟩:ah),(⟨0,0⟩:ah),(⟨0,0⟩:ah)⟩:al)⟩:af) a0.Kind (a0.Kind==9)) [.relab 1001 3000,.relab 1002 3001] (jV (⟨0,a0.N,a0.M,a0.Sub,a0.Filter⟩:af) (⟨0,0,0,([]:By),(⟨0,0,0,0,0,0,0,([]:By),0,0,(⟨0,0⟩:ah),(⟨0,0⟩:ah),(⟨0,0⟩:ah)⟩:al)⟩:af) a0.Kind (a0.Kind==9))
def Fc:LF nx af :=.m0 185 [.c 2 79 true 20] (λr=>(wA (ay r))) λ|.L0 E0 E1 v7 v8=>([1,1,1,0,1,4,1],⟨30,[(1,.bptr 3000 0),(2,.bptr 3001 0),(7,wI v7),(8,wB v8)],[(3000,.box (bx (ay E0))),(3001,.box (bx (ay E1)))]⟩,jV E0 E1 v7 v8)|.L1 E0 E1 v7 v16=>([1,1,1,0,1,4,1,3,1],⟨30,[(1,.bptr 3000 0),(2,.bptr 3001 0),(7,wI v7),(16,wB v16)],[(3000,.box (bx (ay E0))),(3001,.box (bx (ay E1)))]⟩,pH E0 E1 v7 v16)
def Fe:=λa0=>Fc.run (Fb a0)
def Yv(a0){r}(h:Fe a0=some r):Fn PR 185 [wA (ay a0)] (wA (ay r)):=Fc.fn h
def Ff(a0:Int):LT Empty Bool:=
.cs (decide (a0>=1)) (.k3 0<|.cs (decide (a0<=63)) (.k4 1<|.rt ((aQ .and .i64 a0 6)==0))<|.k4 1<|.rt false)<|.k3 0<|.b4 false<|.rt false
def Fg:LF Empty Bool :=.z0 186 [.t 2] wB
def Fh:=λa0=>Fg.run (Ff a0)
def Yw(a0){r}(h:Fh a0=some r):Fn PR 186 [wI a0] (wB r):=Fg.fn h
inductive lI where
 |L0 (E0:af) (v18:Int) (v19:Bool)
 |L1 (E0:af) (v18:Int) (v25:Bool)
 |L2 (E0:af) (v18:Int) (v51:Bool)
def pI(E0:af)(v18:Int)(v51:Bool):LT lI Bool:=
.br v51 (.cs (decide (E0.N>=1)) (.k4 1<|.rt (decide (E0.N<=131071)))<|.k4 1<|.rt false)<|.br (v18==11) (.call (iA E0.Filter) λx4=>.rt x4)<|.br (v18==12) (.cs (decide (E0.N>=0)) (.k4 3<|.cs (decide (E0.N<=99)) (.k4 4<|.cs (decide (E0.M>=0)) (.k4 5<|.rt (decide (E0.M<=99)))<|.k4 5<|.rt false)<|.k4 4<|.b4 false<|.rt false)<|.k4 3<|.b8 false<|.rt false)<|.br (v18==13) (.cs (decide (E0.N>=(-99))) (.k4 4<|.cs (decide (E0.N<=99)) (.k4 5<|.cs (decide (E0.M>=(-99))) (.k4 6<|.rt (decide (E0.M<=99)))<|.k4 6<|.rt false)<|.k4 5<|.b4 false<|.rt false)<|.k4 4<|.b8 false<|.rt false)<|.rt true
def pJ(E0:af)(v18:Int)(v25:Bool):LT lI Bool:=
.br v25 (.call (uu E0.Sub) λx2=>.rt x2)<|.br (v18==6) (.cs (decide (E0.N>=0)) (.k4 2<|.rt (decide (E0.N<=31)))<|.k4 2<|.rt false)<|.br (v18==7) (.cs (decide (E0.N>=1)) (.k4 3<|.rt (decide (E0.N<=31)))<|.k4 3<|.rt false)<|.br (v18==8) (.j0 (.L2 E0 v18 (v18==8)) (pI E0 v18 (v18==8)))<|.j0 (.L2 E0 v18 (v18==9)) (pI E0 v18 (v18==9))
def pK(E0:af)(v18:Int)(v19:Bool):LT lI Bool:=
.br v19 (.call (Yw E0.N) λx2=>.rt x2)<|.br (v18==4) (.j0 (.L1 E0 v18 (v18==4)) (pJ E0 v18 (v18==4)))<|.j0 (.L1 E0 v18 (v18==5)) (pJ E0 v18 (v18==5))
def Fi(a0:af):LT lI Bool:=
.lb 1001<|.cs (decide (a0.Kind<1)) (.k4 0<|.b5 true<|.kn [0]<|.rt false)<|.k4 0<|.cs (decide (a0.Kind>14)) (.k5 1<|.kn [0]<|.rt false)<|.k2 1<|.call (Yv a0) λx3=>.k3 1<|.br (!(aF (ay x3) (ay (⟨0,0,0,([]:By),(⟨0,0,0,0,0,0,0,([]:By),0,0,(⟨0,0⟩:ah),(⟨0,0⟩:ah),(⟨0,0⟩:ah)⟩:al)⟩:af)))) (.rt false)<|.br (a0.Kind==2) (.jn 0 (.L0 a0 a0.Kind (a0.Kind==2)) [.relab 1001 3000] (pK a0 a0.Kind (a0.Kind==2)))<|.jn 0 (.L0 a0 a0.Kind (a0.Kind==3)) [.relab 1001 3000] (pK a0 a0.Kind (a0.Kind==3))
def Fj:LF lI Bool :=.m0 137 [.t 2] wB λ|.L0 E0 v18 v19=>([1,1,0,1,4,1],⟨107,[(1,.bptr 3000 0),(18,wI v18),(19,wB v19)],[(3000,.box (bx (ay E0)))]⟩,pK E0 v18 v19)|.L1 E0 v18 v25=>([1,1,0,1,4,1,3,1],⟨107,[(1,.bptr 3000 0),(18,wI v18),(25,wB v25)],[(3000,.box (bx (ay E0)))]⟩,pJ E0 v18 v25)|.L2 E0 v18 v51=>([1,1,0,1,4,1,3,1,3,1,3,1,3,1],⟨107,[(1,.bptr 3000 0),(18,wI v18),(51,wB v51)],[(3000,.box (bx (ay E0)))]⟩,pI E0 v18 v51)
def Fk:=λa0=>Fj.run (Fi a0)
def yC(a0){r}(h:Fk a0=some r):Fn PR 137 [wA (ay a0)] (wB r):=Fj.fn h
inductive pL where
 |L0 (v0:Bys) (v1:Int) (v2:By) (v7:By) (v8:Int)
def Fl(v0:Bys)(v1:Int)(v2:By)(v7:By)(v8:Int):LT pL (By):=
.len cS v0<|.br (decide (v8<(v0.length:Int))) (.call (yy v1 v8) λx3=>.br x3 (.br (!(v7==([]:By))) (.ok (v7.length+v2.length<=9223372036854775807)<|.idx cS v0 v8 λx10=>.ok ((v7++v2).length+x10.length<=9223372036854775807)<|.g0 (.L0 v0 v1 v2 ((v7++v2)++x10) (IntKind.wrap .i64 (v8+1))))<|.idx cS v0 v8 λx17=>.ok (v7.length+x17.length<=9223372036854775807)<|.g0 (.L0 v0 v1 v2 (v7++x17) (IntKind.wrap .i64 (v8+1))))<|.g0 (.L0 v0 v1 v2 v7 (IntKind.wrap .i64 (v8+1))))<|.rt v7
def Fm(a0:Bys)(a1:Int)(a2:By):LT pL (By):=
.g0 (.L0 a0 a1 a2 ([]:By) 0)
def Z2y:LF pL (By) :=.m0 231 [.t 6] wS λ|.L0 v0 v1 v2 v7 v8=>([1,1,0,1,4],⟨30,[(0,wL cS v0),(1,wI v1),(2,wS v2),(7,wS v7),(8,wI v8)],[]⟩,Fl v0 v1 v2 v7 v8)
def Fo:=λa0 a1 a2=>Z2y.run (Fm a0 a1 a2)
def Yx(a0)(a1)(a2){r}(h:Fo a0 a1 a2=some r):Fn PR 231 [wL cS a0,wI a1,wS a2] (wS r):=Z2y.fn h
def Z5h(a0:Int):LT Empty (By):=
.cs (decide (a0<1)) (.k3 0<|.kn [0]<|.rt ([]:By))<|.k3 0<|.br (decide (a0>63)) (.rt ([]:By))<|.call (Z2u) λx3=>.call (Yx x3 a0 ([43]:By)) λx5=>.rt x5
def Z5i:LF Empty (By) :=.z0 187 [.t 2] wS
def Fp:=λa0=>Z5i.run (Z5h a0)
def yD(a0){r}(h:Fp a0=some r):Fn PR 187 [wI a0] (wS r):=Z5i.fn h
def Fq(a0:Int):LT Empty Bool:=
.cs (decide (a0>=0)) (.k3 0<|.rt (decide (a0<=31)))<|.k3 0<|.rt false
def Ft:LF Empty Bool :=.z0 232 [.t 2] wB
def Fu:=λa0=>Ft.run (Fq a0)
def Yy(a0){r}(h:Fu a0=some r):Fn PR 232 [wI a0] (wB r):=Ft.fn h
def Fv(a0:Int):LT Empty (By):=
.br (a0==0) (.rt ([97,109,98,101,114]:By))<|.br (a0==1) (.rt ([99,111,98,97,108,116]:By))<|.br (a0==2) (.rt ([106,101,116]:By))<|.br (a0==3) (.rt ([114,117,98,121]:By))<|.br (a0==4) (.rt ([101,109,101,114,97,108,100]:By))<|.rt ([]:By)
def Fw:LF Empty (By) :=.z0 233 [.t 2] wS
def Fx:=λa0=>Fw.run (Fv a0)
def uv(a0){r}(h:Fx a0=some r):Fn PR 233 [wI a0] (wS r):=Fw.fn h
inductive pM where
 |L0 (v0:Int) (v3:By) (v4:Int)
def Fy(v0:Int)(v3:By)(v4:Int):LT pM (By):=
.br (decide (v4<5)) (.ok (¬v4<0)<|.ok ((Z2p .i64 1 v4)≠0)<|.dc ((2:Int)≠0) rfl<|.br ((Int.tmod (er .i64 v0 (Z2p .i64 1 v4)) 2)==1) (.br (!(v3==([]:By))) (.ok (v3.length+([43]:By).length<=9223372036854775807)<|.call (uv v4) λx10=>.ok ((v3++([43]:By)).length+x10.length<=9223372036854775807)<|.g0 (.L0 v0 ((v3++([43]:By))++x10) (IntKind.wrap .i64 (v4+1))))<|.call (uv v4) λx17=>.ok (v3.length+x17.length<=9223372036854775807)<|.g0 (.L0 v0 (v3++x17) (IntKind.wrap .i64 (v4+1))))<|.g0 (.L0 v0 v3 (IntKind.wrap .i64 (v4+1))))<|.rt v3
def Fz(a0:Int):LT pM (By):=
.call (Yy a0) λx1=>.br (!x1) (.rt ([]:By))<|.br (a0==0) (.rt ([110,111,110,101]:By))<|.g0 (.L0 a0 ([]:By) 0)
def yE:LF pM (By) :=.m0 188 [.t 2] wS λ|.L0 v0 v3 v4=>([1,1,1,1,0,1,4],⟨29,[(0,wI v0),(3,wS v3),(4,wI v4)],[]⟩,Fy v0 v3 v4)
def FA:=λa0=>yE.run (Fz a0)
def FB(a0){r}(h:FA a0=some r):Fn PR 188 [wI a0] (wS r):=yE.fn h
def FC:LT Empty (Bys):=
.lb 1001<|.ret [([102,108,121,105,110,103]:By),([114,101,97,99,104]:By),([104,97,115,116,101]:By),([118,105,103,105,108,97,110,116]:By),([116,114,97,109,112,108,101]:By),([102,105,114,115,116,45,115,116,114,105,107,101]:By),([100,111,117,98,108,101,45,115,116,114,105,107,101]:By),([100,101,97,100,108,121]:By),([108,105,102,101,108,105,110,107]:By),([109,101,110,97,99,101]:By),([100,101,102,101,110,100,101,114]:By),([119,97,114,100,101,100]:By),([115,116,117,114,100,121]:By),([101,108,117,115,105,118,101]:By),([110,111,45,97,116,116,97,99,107]:By),([110,111,45,98,108,111,99,107]:By),([109,117,115,116,45,97,116,116,97,99,107]:By)] [.relab 1001 5000]
def FE:LF Empty (Bys) :=.z 261 [.t 0] true (λr=>[(5000,wR cS 1 r)]) (λr=>(wO cS 5000 r))
def yF:=FE.run (FC)
def Yz{r}(h:yF=some r):FnG PR 261 [] [] [(5000,wR cS 1 r)] (wO cS 5000 r):=FE.fn h
def YA{r:Bys}(h:yF=some r):Fn PR 261 [] (wL cS r):=FnG.frozen (C:=LT.RL cS r/\True) (Yz h) ⟨rfl,ab⟩ bp
def FF(a0:Int):LT Empty (By):=
.cs (decide (a0<0)) (.k3 0<|.kn [0]<|.rt ([]:By))<|.k3 0<|.br (decide (a0>16)) (.rt ([]:By))<|.call (YA) λx3=>.idx cS x3 a0 λx5=>.rt x5
def FG:LF Empty (By) :=.z0 234 [.t 2] wS
def FH:=λa0=>FG.run (FF a0)
def Z7r(a0){r}(h:FH a0=some r):Fn PR 234 [wI a0] (wS r):=FG.fn h
inductive pN where
 |L0 (v0:Int) (v3:By) (v4:Int)
def FI(v0:Int)(v3:By)(v4:Int):LT pN (By):=
.br (decide (v4<17)) (.dc ((2:Int)≠0) rfl<|.br ((Int.tmod v0 2)==1) (.br (!(v3==([]:By))) (.ok (v3.length+([43]:By).length<=9223372036854775807)<|.call (Z7r v4) λx6=>.ok ((v3++([43]:By)).length+x6.length<=9223372036854775807)<|.dc ((2:Int)≠0) rfl<|.g0 (.L0 (er .i64 v0 2) ((v3++([43]:By))++x6) (IntKind.wrap .i64 (v4+1))))<|.call (Z7r v4) λx13=>.ok (v3.length+x13.length<=9223372036854775807)<|.dc ((2:Int)≠0) rfl<|.g0 (.L0 (er .i64 v0 2) (v3++x13) (IntKind.wrap .i64 (v4+1))))<|.dc ((2:Int)≠0) rfl<|.g0 (.L0 (er .i64 v0 2) v3 (IntKind.wrap .i64 (v4+1))))<|.br (v3==([]:By)) (.rt ([110,111,110,101]:By))<|.rt v3
def FJ(a0:Int):LT pN (By):=
.call (E7 a0) λx1=>.br (!x1) (.rt ([]:By))<|.g0 (.L0 a0 ([]:By) 0)
def yG:LF pN (By) :=.m0 189 [.t 2] wS λ|.L0 v0 v3 v4=>([1,1,1,0,1,4],⟨28,[(0,wI v0),(3,wS v3),(4,wI v4)],[]⟩,FI v0 v3 v4)
def FK:=λa0=>yG.run (FJ a0)
def FL(a0){r}(h:FK a0=some r):Fn PR 189 [wI a0] (wS r):=yG.fn h
def Z5j:LT Empty (Bys):=
.lb 1001<|.ret [([]:By),([105,110,45,104,97,110,100]:By),([105,110,45,108,105,98,114,97,114,121]:By),([105,110,45,103,114,97,118,101,121,97,114,100]:By),([105,110,45,101,120,105,108,101]:By),([111,110,45,115,116,97,99,107]:By)] [.relab 1001 5000]
def Z5k:LF Empty (Bys) :=.z 235 [.t 0] true (λr=>[(5000,wR cS 1 r)]) (λr=>(wO cS 5000 r))
def yH:=Z5k.run (Z5j)
def YB{r}(h:yH=some r):FnG PR 235 [] [] [(5000,wR cS 1 r)] (wO cS 5000 r):=Z5k.fn h
def YC{r:Bys}(h:yH=some r):Fn PR 235 [] (wL cS r):=FnG.frozen (C:=LT.RL cS r/\True) (YB h) ⟨rfl,ab⟩ bp
def Z9f:LT Empty (Bys):=
.lb 1001<|.ret [([]:By),([121,111,117,114,115]:By),([116,104,101,105,114,115]:By)] [.relab 1001 5000]
def Z9g:LF Empty (Bys) :=.z 236 [.t 0] true (λr=>[(5000,wR cS 1 r)]) (λr=>(wO cS 5000 r))
def Z2z:=Z9g.run (Z9f)
def YD{r}(h:Z2z=some r):FnG PR 236 [] [] [(5000,wR cS 1 r)] (wO cS 5000 r):=Z9g.fn h
def YE{r:Bys}(h:Z2z=some r):Fn PR 236 [] (wL cS r):=FnG.frozen (C:=LT.RL cS r/\True) (YD h) ⟨rfl,ab⟩ bp
def Z5l:LT Empty (Bys):=
.lb 1001<|.ret [([]:By),([115,101,108,102]:By),([111,116,104,101,114]:By)] [.relab 1001 5000]
def Z5m:LF Empty (Bys) :=.z 237 [.t 0] true (λr=>[(5000,wR cS 1 r)]) (λr=>(wO cS 5000 r))
def yI:=Z5m.run (Z5l)
def YF{r}(h:yI=some r):FnG PR 237 [] [] [(5000,wR cS 1 r)] (wO cS 5000 r):=Z5m.fn h
def YG{r:Bys}(h:yI=some r):Fn PR 237 [] (wL cS r):=FnG.frozen (C:=LT.RL cS r/\True) (YF h) ⟨rfl,ab⟩ bp
def Z9h:LT Empty (Bys):=
.lb 1001<|.ret [([]:By),([116,97,112,112,101,100]:By),([117,110,116,97,112,112,101,100]:By)] [.relab 1001 5000]
def Z9i:LF Empty (Bys) :=.z 238 [.t 0] true (λr=>[(5000,wR cS 1 r)]) (λr=>(wO cS 5000 r))
def Z20:=Z9i.run (Z9h)
def YH{r}(h:Z20=some r):FnG PR 238 [] [] [(5000,wR cS 1 r)] (wO cS 5000 r):=Z9i.fn h
def YI{r:Bys}(h:Z20=some r):Fn PR 238 [] (wL cS r):=FnG.frozen (C:=LT.RL cS r/\True) (YH h) ⟨rfl,ab⟩ bp
inductive pO where
 |L0 (v0:Int) (v1:Int) (v5:Int)
def FM(v0:Int)(v1:Int)(v5:Int):LT pO Bool:=
.br (decide (v5<v1)) (.dc ((2:Int)≠0) rfl<|.g0 (.L0 (er .i64 v0 2) v1 (IntKind.wrap .i64 (v5+1))))<|.dc ((2:Int)≠0) rfl<|.rt ((Int.tmod v0 2)==1)
def FN(a0:Int)(a1:Int):LT pO Bool:=
.g0 (.L0 a0 a1 0)
def yJ:LF pO Bool :=.m0 240 [.t 4] wB λ|.L0 v0 v1 v5=>([1,0,1,4],⟨16,[(0,wI v0),(1,wI v1),(5,wI v5)],[]⟩,FM v0 v1 v5)
def FO:=λa0 a1=>yJ.run (FN a0 a1)
def pP(a0)(a1){r}(h:FO a0 a1=some r):Fn PR 240 [wI a0,wI a1] (wB r):=yJ.fn h
inductive pQ where
 |L0 (v0:Int) (v3:Int) (v4:Int)
def Z5n(v0:Int)(v3:Int)(v4:Int):LT pQ (By):=
.br (decide (v4<v0)) (.g0 (.L0 v0 (IntKind.wrap .i64 (v3*2)) (IntKind.wrap .i64 (v4+1))))<|.call (yD v3) λx6=>.rt x6
def Z9j(a0:Int):LT pQ (By):=
.g0 (.L0 a0 1 0)
def yK:LF pQ (By) :=.m0 241 [.t 2] wS λ|.L0 v0 v3 v4=>([1,1,0,1,4],⟨14,[(0,wI v0),(3,wI v3),(4,wI v4)],[]⟩,Z5n v0 v3 v4)
def FP:=λa0=>yK.run (Z9j a0)
def Z5o(a0){r}(h:FP a0=some r):Fn PR 241 [wI a0] (wS r):=yK.fn h
def FQ:LT Empty (Bys):=
.lb 1001<|.ret [([]:By),([62,61]:By),([60,61]:By),([61]:By)] [.relab 1001 5000]
def FR:LF Empty (Bys) :=.z 262 [.t 0] true (λr=>[(5000,wR cS 1 r)]) (λr=>(wO cS 5000 r))
def yL:=FR.run (FQ)
def YJ{r}(h:yL=some r):FnG PR 262 [] [] [(5000,wR cS 1 r)] (wO cS 5000 r):=FR.fn h
def YK{r:Bys}(h:yL=some r):Fn PR 262 [] (wL cS r):=FnG.frozen (C:=LT.RL cS r/\True) (YJ h) ⟨rfl,ab⟩ bp
inductive Z21 where
 |L0 (v0:Int) (v3:By)
def lJ(v0:Int)(v3:By):LT Z21 (By):=
.br (decide (v0>0)) (.dc ((10:Int)≠0) rfl<|.dr [.lit]<|.str [IntKind.wrap .u8 (IntKind.wrap .u64 (48+(Int.tmod v0 10)))] λx4=>.ok (x4.length+v3.length<=9223372036854775807)<|.dc ((10:Int)≠0) rfl<|.g0 (.L0 (er .u64 v0 10) (x4++v3)))<|.rt v3
def FT(a0:Int):LT Z21 (By):=
.dc ((10:Int)≠0) rfl<|.dr [.lit]<|.str [IntKind.wrap .u8 (IntKind.wrap .u64 (48+(Int.tmod a0 10)))] λx3=>.dc ((10:Int)≠0) rfl<|.g0 (.L0 (er .u64 a0 10) x3)
def uw:LF Z21 (By) :=.m0 244 [.t 2] wS λ|.L0 v0 v3=>([1,1,0,1,4],⟨25,[(0,.t (.int .u64 v0)),(3,wS v3)],[]⟩,lJ v0 v3)
def yM:=λa0=>uw.run (FT a0)
def FU(a0){r}(h:yM a0=some r):Fn PR 244 [.t (.int .u64 a0)] (wS r):=uw.fn h
def FV(a0:Int):LT Empty (By):=
.br (decide (a0<0)) (.call (FU (IntKind.wrap .u64 (0-(IntKind.wrap .u64 a0)))) λx4=>.ok (([45]:By).length+x4.length<=9223372036854775807)<|.rt (([45]:By)++x4))<|.call (FU (IntKind.wrap .u64 a0)) λx10=>.rt x10
def FW:LF Empty (By) :=.z0 191 [.t 2] wS
def FY:=λa0=>FW.run (FV a0)
def ny(a0){r}(h:FY a0=some r):Fn PR 191 [wI a0] (wS r):=FW.fn h
def Z5p(a0:By)(a1:ah):LT Empty (By):=
.lb 1003<|.br (a1.Kind==0) (.rt ([]:By))<|.call (YK) λx2=>.idx cS x2 a1.Kind λx4=>.ok (a0.length+x4.length<=9223372036854775807)<|.call (ny a1.N) λx10=>.ok ((a0++x4).length+x10.length<=9223372036854775807)<|.rt ((a0++x4)++x10)
def Z5q:LF Empty (By) :=.z0 242 [.t 4] wS
def FZ:=λa0 a1=>Z5q.run (Z5p a0 a1)
def yN(a0)(a1){r}(h:FZ a0 a1=some r):Fn PR 242 [wS a0,wA (gd a1)] (wS r):=Z5q.fn h
inductive pR where
 |L0 (v0:Bys) (v1:By) (v5:By) (v6:Int)
def F0(v0:Bys)(v1:By)(v5:By)(v6:Int):LT pR (By):=
.len cS v0<|.br (decide (v6<(v0.length:Int))) (.br (decide (v6>0)) (.ok (v5.length+v1.length<=9223372036854775807)<|.idx cS v0 v6 λx7=>.ok ((v5++v1).length+x7.length<=9223372036854775807)<|.g0 (.L0 v0 v1 ((v5++v1)++x7) (IntKind.wrap .i64 (v6+1))))<|.idx cS v0 v6 λx14=>.ok (v5.length+x14.length<=9223372036854775807)<|.g0 (.L0 v0 v1 (v5++x14) (IntKind.wrap .i64 (v6+1))))<|.rt v5
def F1(a0:Bys)(a1:By):LT pR (By):=
.g0 (.L0 a0 a1 ([]:By) 0)
def yO:LF pR (By) :=.m0 243 [.t 4] wS λ|.L0 v0 v1 v5 v6=>([1,1,0,1,4],⟨25,[(0,wL cS v0),(1,wS v1),(5,wS v5),(6,wI v6)],[]⟩,F0 v0 v1 v5 v6)
def F2:=λa0 a1=>yO.run (F1 a0 a1)
def YL(a0)(a1){r}(h:F2 a0 a1=some r):Fn PR 243 [wL cS a0,wS a1] (wS r):=yO.fn h
def Z9k(b0:Bys)(a1:By):LT Empty (Bys):=
.br (a1==([]:By)) (.ret b0 [.relab 0 5000])<|.dr [.lit]<|.apR cS 16 b0 [a1] λx2=>.ret x2 [.relab 0 5000]
def Z9l:LF Empty (Bys) :=.z 239 [.t 4] true (λr=>[(5000,wR cS 1 r)]) (λr=>(wO cS 5000 r))
def F3:=λb0 a1=>Z9l.run (Z9k b0 a1)
def lK(b0)(a1){r}(h:F3 b0 a1=some r):FnG PR 239 [(0,wR cS 1 b0)] [wO cS 0 b0,wS a1] [(5000,wR cS 1 r)] (wO cS 5000 r):=Z9l.fn h
inductive jy where
 |L0 (E0:al) (v6:Bys) (v7:Bys) (v8:Int)
 |L1 (E0:al) (v6:Bys) (v7:Bys) (v9:Int)
 |L2 (E0:al) (v6:Bys) (v7:Bys) (v10:Int)
 |L3 (E0:al) (v6:Bys) (v7:Bys) (v11:Int)
 |L4 (E0:al) (v6:Bys) (v7:Bys)
 |L5 (E0:al) (v6:Bys) (v7:Bys) (v12:Int)
def pS(E0:al)(v6:Bys)(v7:Bys):LT jy (By):=
.g0 (.L5 E0 v6 v7 0)
def F4(E0:al)(v6:Bys)(v7:Bys)(v8:Int):LT jy (By):=
.br (decide (v8<6)) (.call (pP E0.Types v8) λx2=>.br x2 (.call (Z5o v8) λx5=>.dr [.lit]<|.apR cS 16 v7 [x5] λx7=>.g0 (.L0 E0 v6 x7 (IntKind.wrap .i64 (v8+1))))<|.g0 (.L0 E0 v6 v7 (IntKind.wrap .i64 (v8+1))))<|.g0 (.L1 E0 v6 v7 0)
def F5(E0:al)(v6:Bys)(v7:Bys)(v9:Int):LT jy (By):=
.br (decide (v9<6)) (.call (pP E0.NotTypes v9) λx2=>.br x2 (.call (Z5o v9) λx5=>.ok (([110,111,110,45]:By).length+x5.length<=9223372036854775807)<|.dr [.lit]<|.apR cS 16 v7 [([110,111,110,45]:By)++x5] λx10=>.g0 (.L1 E0 v6 x10 (IntKind.wrap .i64 (v9+1))))<|.g0 (.L1 E0 v6 v7 (IntKind.wrap .i64 (v9+1))))<|.g0 (.L2 E0 v6 v7 0)
def F6(E0:al)(v6:Bys)(v7:Bys)(v10:Int):LT jy (By):=
.br (decide (v10<5)) (.call (pP E0.Colors v10) λx2=>.br x2 (.call (uv v10) λx5=>.dr [.lit]<|.apR cS 16 v7 [x5] λx7=>.g0 (.L2 E0 v6 x7 (IntKind.wrap .i64 (v10+1))))<|.g0 (.L2 E0 v6 v7 (IntKind.wrap .i64 (v10+1))))<|.g0 (.L3 E0 v6 v7 0)
def F7(E0:al)(v6:Bys)(v7:Bys)(v11:Int):LT jy (By):=
.br (decide (v11<5)) (.call (pP E0.NotColors v11) λx2=>.br x2 (.call (uv v11) λx5=>.ok (([110,111,110,45]:By).length+x5.length<=9223372036854775807)<|.dr [.lit]<|.apR cS 16 v7 [([110,111,110,45]:By)++x5] λx10=>.g0 (.L3 E0 v6 x10 (IntKind.wrap .i64 (v11+1))))<|.g0 (.L3 E0 v6 v7 (IntKind.wrap .i64 (v11+1))))<|.br (!(E0.Sub==([]:By))) (.ok (([115,117,98,58]:By).length+E0.Sub.length<=9223372036854775807)<|.dr [.lit]<|.apR cS 16 v7 [([115,117,98,58]:By)++E0.Sub] λx21=>.j0 (.L4 E0 v6 x21) (pS E0 v6 x21))<|.j0 (.L4 E0 v6 v7) (pS E0 v6 v7)
def F8(E0:al)(v6:Bys)(v7:Bys)(v12:Int):LT jy (By):=
.br (decide (v12<17)) (.call (pP E0.Keys v12) λx2=>.br x2 (.call (Z7r v12) λx5=>.ok (([119,105,116,104,58]:By).length+x5.length<=9223372036854775807)<|.dr [.lit]<|.apR cS 16 v7 [([119,105,116,104,58]:By)++x5] λx10=>.g0 (.L5 E0 v6 x10 (IntKind.wrap .i64 (v12+1))))<|.g0 (.L5 E0 v6 v7 (IntKind.wrap .i64 (v12+1))))<|.idx cS v6 E0.Tap λx17=>.callU (lK v7 x17) [20007] 1250000 λx19=>.call (yN ([112,111,119,101,114]:By) E0.Power) λx21=>.callU (lK x19 x21) [1255000] 1300000 λx23=>.call (yN ([116,111,117,103,104]:By) E0.Tough) λx25=>.callU (lK x23 x25) [1305000] 1350000 λx27=>.call (yN ([118,97,108,117,101]:By) E0.Value) λx29=>.callU (lK x27 x29) [1355000] 1400000 λx31=>.lenO cS x31<|.br ((x31.length:Int)==0) (.rt ([97,110,121]:By))<|.rl cS x31<|.call (YL x31 ([32]:By)) λx34=>.rt x34
def F9(a0:al):LT jy (By):=
.lb 1001<|.call (iA a0) λx1=>.br (!x1) (.rt ([]:By))<|.call (YC) λx4=>.call (YE) λx6=>.call (YG) λx8=>.call (YI) λx10=>.idx cS x4 a0.Zone λx12=>.dr [.ahead 26,.own 20 70260 1,.stop]<|.callU (lK ([]:Bys) x12) [70260] 270000 λx14=>.idx cS x6 a0.Who λx16=>.callU (lK x14 x16) [275000] 340000 λx18=>.idx cS x8 a0.Self λx20=>.callU (lK x18 x20) [345000] 410000 λx22=>.go (.L0 a0 x10 x22 0) [.relab 1001 3000,.relab 415000 20007]
def lL:LF jy (By) :=.m0 190 [.t 2] wS λ|.L0 E0 v6 v7 v8=>([1,1,1,1,1,1,1,1,1,1,0,1,4],⟨145,[(1,.bptr 3000 0),(6,wL cS v6),(7,wO cS 20007 v7),(8,wI v8)],[(3000,.box (bx (aX E0))),(20007,wR cS 1 v7)]⟩,F4 E0 v6 v7 v8)|.L1 E0 v6 v7 v9=>([1,1,1,1,1,1,1,1,1,1,1,0,1,4],⟨145,[(1,.bptr 3000 0),(6,wL cS v6),(7,wO cS 20007 v7),(9,wI v9)],[(3000,.box (bx (aX E0))),(20007,wR cS 1 v7)]⟩,F5 E0 v6 v7 v9)|.L2 E0 v6 v7 v10=>([1,1,1,1,1,1,1,1,1,1,1,1,0,1,4],⟨145,[(1,.bptr 3000 0),(6,wL cS v6),(7,wO cS 20007 v7),(10,wI v10)],[(3000,.box (bx (aX E0))),(20007,wR cS 1 v7)]⟩,F6 E0 v6 v7 v10)|.L3 E0 v6 v7 v11=>([1,1,1,1,1,1,1,1,1,1,1,1,1,0,1,4],⟨145,[(1,.bptr 3000 0),(6,wL cS v6),(7,wO cS 20007 v7),(11,wI v11)],[(3000,.box (bx (aX E0))),(20007,wR cS 1 v7)]⟩,F7 E0 v6 v7 v11)|.L4 E0 v6 v7=>([1,1,1,1,1,1,1,1,1,1,1,1,1,1,1],⟨145,[(1,.bptr 3000 0),(6,wL cS v6),(7,wO cS 20007 v7)],[(3000,.box (bx (aX E0))),(20007,wR cS 1 v7)]⟩,pS E0 v6 v7)|.L5 E0 v6 v7 v12=>([1,1,1,1,1,1,1,1,1,1,1,1,1,1,1,0,1,4],⟨145,[(1,.bptr 3000 0),(6,wL cS v6),(7,wO cS 20007 v7),(12,wI v12)],[(3000,.box (bx (aX E0))),(20007,wR cS 1 v7)]⟩,F8 E0 v6 v7 v12)
def Ga:=λa0=>lL.run (F9 a0)
def YM(a0){r}(h:Ga a0=some r):Fn PR 190 [wA (aX a0)] (wS r):=lL.fn h
def Gb(a0:af):LT Empty (By):=
.lb 1001<|.call (yC a0) λx1=>.br (!x1) (.rt ([]:By))<|.br (a0.Kind==1) (.rt ([99,111,110,116,114,111,108]:By))<|.br (a0.Kind==2) (.call (yD a0.N) λx6=>.ok (([116,121,112,101,115,61]:By).length+x6.length<=9223372036854775807)<|.rt (([116,121,112,101,115,61]:By)++x6))<|.br (a0.Kind==3) (.call (yD a0.N) λx12=>.ok (([116,121,112,101,115,43,61]:By).length+x12.length<=9223372036854775807)<|.rt (([116,121,112,101,115,43,61]:By)++x12))<|.br (a0.Kind==4) (.ok (([115,117,98,61]:By).length+a0.Sub.length<=9223372036854775807)<|.rt (([115,117,98,61]:By)++a0.Sub))<|.br (a0.Kind==5) (.ok (([115,117,98,43,61]:By).length+a0.Sub.length<=9223372036854775807)<|.rt (([115,117,98,43,61]:By)++a0.Sub))<|.br (a0.Kind==6) (.call (FB a0.N) λx26=>.ok (([99,111,108,111,114,115,61]:By).length+x26.length<=9223372036854775807)<|.rt (([99,111,108,111,114,115,61]:By)++x26))<|.br (a0.Kind==7) (.call (FB a0.N) λx32=>.ok (([99,111,108,111,114,115,43,61]:By).length+x32.length<=9223372036854775807)<|.rt (([99,111,108,111,114,115,43,61]:By)++x32))<|.br (a0.Kind==8) (.call (FL a0.N) λx38=>.ok (([107,101,121,115,43,61]:By).length+x38.length<=9223372036854775807)<|.rt (([107,101,121,115,43,61]:By)++x38))<|.br (a0.Kind==9) (.call (FL a0.N) λx44=>.ok (([107,101,121,115,45,61]:By).length+x44.length<=9223372036854775807)<|.rt (([107,101,121,115,45,61]:By)++x44))<|.br (a0.Kind==10) (.rt ([98,108,97,110,107]:By))<|.br (a0.Kind==11) (.call (YM a0.Filter) λx51=>.ok (([112,116,61,99,111,117,110,116,40]:By).length+x51.length<=9223372036854775807)<|.ok ((([112,116,61,99,111,117,110,116,40]:By)++x51).length+([41]:By).length<=9223372036854775807)<|.rt ((([112,116,61,99,111,117,110,116,40]:By)++x51)++([41]:By)))<|.br (a0.Kind==12) (.call (ny a0.N) λx58=>.ok (([112,116,61]:By).length+x58.length<=9223372036854775807)<|.ok ((([112,116,61]:By)++x58).length+([47]:By).length<=9223372036854775807)<|.call (ny a0.M) λx65=>.ok (((([112,116,61]:By)++x58)++([47]:By)).length+x65.length<=9223372036854775807)<|.rt (((([112,116,61]:By)++x58)++([47]:By))++x65))<|.br (a0.Kind==13) (.call (ny a0.N) λx71=>.ok (([112,116,43,61]:By).length+x71.length<=9223372036854775807)<|.ok ((([112,116,43,61]:By)++x71).length+([47]:By).length<=9223372036854775807)<|.call (ny a0.M) λx78=>.ok (((([112,116,43,61]:By)++x71)++([47]:By)).length+x78.length<=9223372036854775807)<|.rt (((([112,116,43,61]:By)++x71)++([47]:By))++x78))<|.rt ([112,116,45,115,119,105,116,99,104]:By)
def Gc:LF Empty (By) :=.z0 138 [.t 2] wS
def Gd:=λa0=>Gc.run (Gb a0)
def Ge(a0){r}(h:Gd a0=some r):Fn PR 138 [wA (ay a0)] (wS r):=Gc.fn h
inductive pT where
 |L0 (v0:List af) (v3:By) (v4:Int)
def Z5r(v0:List af)(v3:By)(v4:Int):LT pT (By):=
.len ay v0<|.br (decide (v4<(v0.length:Int))) (.idx ay v0 v4 λx3=>.call (yC x3) λx5=>.br (!x5) (.rt ([]:By))<|.br (decide (v4>0)) (.ok (v3.length+([44,32]:By).length<=9223372036854775807)<|.ag ay x3 0<|.call (Ge x3) λx11=>.ok ((v3++([44,32]:By)).length+x11.length<=9223372036854775807)<|.g0 (.L0 v0 ((v3++([44,32]:By))++x11) (IntKind.wrap .i64 (v4+1))))<|.ag ay x3 0<|.call (Ge x3) λx17=>.ok (v3.length+x17.length<=9223372036854775807)<|.g0 (.L0 v0 (v3++x17) (IntKind.wrap .i64 (v4+1))))<|.rt v3
def Z9m(a0:List af):LT pT (By):=
.len ay a0<|.cs ((a0.length:Int)==0) (.k4 0<|.kn [0]<|.rt ([]:By))<|.k2 0<|.len ay a0<|.k2 0<|.br (decide ((a0.length:Int)>6)) (.rt ([]:By))<|.g0 (.L0 a0 ([]:By) 0)
def yP:LF pT (By) :=.m0 87 [.t 2] wS λ|.L0 v0 v3 v4=>([1,1,1,0,1,4],⟨37,[(0,wL ay v0),(3,wS v3),(4,wI v4)],[]⟩,Z5r v0 v3 v4)
def Gf:=λa0=>yP.run (Z9m a0)
def yQ(a0){r}(h:Gf a0=some r):Fn PR 87 [wL ay a0] (wS r):=yP.fn h
def Gg(a0:iY):LT Empty Bool:=
.lb 1001<|.call (pC a0.Mana) λx1=>.cs x1 (.k5 0<|.cs (a0.Mana.X==0) (.k4 1<|.cs (decide (a0.Life>=0)) (.k4 2<|.rt (decide (a0.Life<=99)))<|.k4 2<|.rt false)<|.k4 1<|.b4 false<|.rt false)<|.k5 0<|.b8 false<|.rt false
def Gh:LF Empty Bool :=.z0 124 [.t 2] wB
def Gi:=λa0=>Gh.run (Gg a0)
def YN(a0){r}(h:Gi a0=some r):Fn PR 124 [wA (jW a0)] (wB r):=Gh.fn h
def Gj(a0:Int):LT Empty (By):=
.br (a0==1) (.rt ([101,110,116,101,114,115]:By))<|.br (a0==2) (.rt ([108,101,97,118,101,115]:By))<|.br (a0==3) (.rt ([100,105,101,115]:By))<|.br (a0==4) (.rt ([97,116,116,97,99,107,115]:By))<|.br (a0==5) (.rt ([98,108,111,99,107,115]:By))<|.br (a0==6) (.rt ([100,101,97,108,115]:By))<|.br (a0==7) (.rt ([100,101,97,108,116]:By))<|.br (a0==8) (.rt ([100,114,97,119,115]:By))<|.br (a0==9) (.rt ([99,97,115,116,115]:By))<|.br (a0==10) (.rt ([117,112,107,101,101,112]:By))<|.br (a0==11) (.rt ([101,110,100]:By))<|.br (a0==12) (.rt ([103,97,105,110,115]:By))<|.br (a0==13) (.rt ([108,111,115,101,115]:By))<|.br (a0==14) (.rt ([112,108,97,99,101,100]:By))<|.rt ([]:By)
def Gk:LF Empty (By) :=.z0 173 [.t 2] wS
def Gl:=λa0=>Gk.run (Gj a0)
def Gm(a0){r}(h:Gl a0=some r):Fn PR 173 [wI a0] (wS r):=Gk.fn h
def Gn(a0:Int):LT Empty Bool:=
.cs (a0==8) (.k3 0<|.b8 true<|.b4 true<|.rt true)<|.k3 0<|.cs (a0==9) (.k3 1<|.b8 true<|.kb true<|.rt true)<|.k3 1<|.cs (a0==10) (.k3 2<|.b5 true<|.kb true<|.rt true)<|.k3 2<|.cs (a0==11) (.k3 3<|.b3 true<|.rt true)<|.k3 3<|.cs (a0==12) (.k3 4<|.rt true)<|.k3 4<|.rt (a0==13)
def Gp:LF Empty Bool :=.z0 174 [.t 2] wB
def Gq:=λa0=>Gp.run (Gn a0)
def Gr(a0){r}(h:Gq a0=some r):Fn PR 174 [wI a0] (wB r):=Gp.fn h
def Z5s(a0:Int):LT Empty Bool:=
.call (Gm a0) λx1=>.cs (!(x1==([]:By))) (.k2 0<|.call (Gr a0) λx4=>.k2 0<|.cs (!x4) (.k2 1<|.kg 0<|.kg 1<|.kg 0<|.rt true)<|.k2 1<|.kg 0<|.kg 1<|.kg 0<|.rt (a0==9))<|.k5 0<|.kg 0<|.rt false
def Z5t:LF Empty Bool :=.z0 175 [.t 2] wB
def Gt:=λa0=>Z5t.run (Z5s a0)
def YO(a0){r}(h:Gt a0=some r):Fn PR 175 [wI a0] (wB r):=Z5t.fn h
inductive Z22 where
 |L0 (E0:fN)
def pU(E0:fN):LT Z22 Bool:=
.call (YO E0.When) λx1=>.br (!x1) (.rt (aF (aX E0.Filter) (aX (⟨0,0,0,0,0,0,0,([]:By),0,0,(⟨0,0⟩:ah),(⟨0,0⟩:ah),(⟨0,0⟩:ah)⟩:al))))<|.br (E0.When==9) (.call (iA E0.Filter) λx5=>.cs x5 (.k5 2<|.kg 2<|.rt (E0.Filter.Zone==5))<|.k5 2<|.kg 2<|.rt false)<|.call (iA E0.Filter) λx8=>.cs x8 (.k5 2<|.kg 2<|.rt (E0.Filter.Zone==0))<|.k5 2<|.kg 2<|.rt false
def Gu(a0:fN):LT Z22 Bool:=
.lb 1001<|.call (Gm a0.When) λx1=>.cs (x1==([]:By)) (.k4 0<|.b8 true<|.b3 true<|.kn [0]<|.rt false)<|.k4 0<|.cs (decide (a0.Who<0)) (.k4 1<|.b5 true<|.b2 true<|.kn [0]<|.rt false)<|.k4 1<|.cs (decide (a0.Who>2)) (.k5 2<|.k2 2<|.kn [0]<|.rt false)<|.k3 2<|.call (Gr a0.When) λx6=>.k2 2<|.cs (!x6) (.k3 3<|.kg 2<|.kg 3<|.kg 2<|.br (a0.Who != 0) (.rt false)<|.jn 0 (.L0 a0) [.relab 1001 3000] (pU a0))<|.k3 3<|.kg 2<|.kg 3<|.kg 2<|.kn [0]<|.jn 0 (.L0 a0) [.relab 1001 3000] (pU a0)
def Gv:LF Z22 Bool :=.m0 125 [.t 2] wB λ|.L0 E0=>([1,1],⟨50,[(1,.bptr 3000 0)],[(3000,.box (bx (jz E0)))]⟩,pU E0)
def Gw:=λa0=>Gv.run (Gu a0)
def YP(a0){r}(h:Gw a0=some r):Fn PR 125 [wA (jz a0)] (wB r):=Gv.fn h
def Gx(a0:al):LT Empty Bool:=
.lb 1001<|.call (iA a0) λx1=>.cs x1 (.k4 0<|.rt (a0.Zone==0))<|.k4 0<|.rt false
def Gy:LF Empty Bool :=.z0 178 [.t 2] wB
def Gz:=λa0=>Gy.run (Gx a0)
def Z23(a0){r}(h:Gz a0=some r):Fn PR 178 [wA (aX a0)] (wB r):=Gy.fn h
def GA(a0:dx):LT Empty Bool:=
.lb 1001<|.cs (a0.Who != 0) (.k5 0<|.kn [0]<|.rt false)<|.k3 0<|.call (Z23 a0.Filter) λx2=>.k2 0<|.br (!x2) (.rt false)<|.br (a0.Do==5) (.cs (a0.N==0) (.k4 3<|.cs (a0.Counter==0) (.k4 4<|.cs (a0.Zone==1) (.k3 5<|.kg 4<|.kg 5<|.kg 4<|.b3 true<|.kg 4<|.kb true<|.kg 4<|.rt true)<|.k3 5<|.kg 4<|.kg 5<|.kg 4<|.cs (a0.Zone==2) (.k3 6<|.kg 4<|.kg 6<|.kg 4<|.rt true)<|.k3 6<|.kg 4<|.kg 6<|.kg 4<|.rt (a0.Zone==4))<|.k8 4<|.rt false)<|.k4 3<|.b8 false<|.rt false)<|.br (a0.Do==6) (.cs (a0.N==0) (.k4 4<|.cs (a0.Counter==0) (.k4 5<|.rt (a0.Zone==0))<|.k4 5<|.rt false)<|.k4 4<|.b4 false<|.rt false)<|.br (a0.Do==7) (.cs (a0.Zone==0) (.k4 5<|.cs (decide (a0.N>=1)) (.k4 6<|.cs (decide (a0.N<=99)) (.k4 7<|.cs (decide (a0.Counter>=0)) (.k4 8<|.rt (decide (a0.Counter<3)))<|.k4 8<|.rt false)<|.k4 7<|.b4 false<|.rt false)<|.k4 6<|.b8 false<|.rt false)<|.k4 5<|.b8 false<|.b4 false<|.rt false)<|.rt false
def GB:LF Empty Bool :=.z0 176 [.t 2] wB
def GC:=λa0=>GB.run (GA a0)
def YQ(a0){r}(h:GC a0=some r):Fn PR 176 [wA (gB a0)] (wB r):=GB.fn h
def GD(a0:dx):LT Empty Bool:=
.lb 1001<|.cs (a0.Zone != 0) (.k4 0<|.kn [0]<|.rt false)<|.k4 0<|.br (a0.Counter != 0) (.rt false)<|.cs (a0.Do==2) (.k4 2<|.kn [0]<|.cs (decide (a0.N>=1)) (.k4 3<|.rt (decide (a0.N<=99)))<|.k4 3<|.rt false)<|.k4 2<|.br (a0.Do==4) (.cs (decide (a0.N>=1)) (.k4 4<|.rt (decide (a0.N<=99)))<|.k4 4<|.rt false)<|.rt (a0.N==0)
def GE:LF Empty Bool :=.z0 177 [.t 2] wB
def GF:=λa0=>GE.run (GD a0)
def YR(a0){r}(h:GF a0=some r):Fn PR 177 [wA (gB a0)] (wB r):=GE.fn h
inductive lM where
 |L0 (E0:dx) (v3:Bool) (v4:Bool)
 |L1 (E0:dx) (v3:Bool)
 |L2 (E0:dx) (v3:Bool) (v4:Bool) (v109:Bool)
def nz(E0:dx)(v3:Bool)(v4:Bool)(v109:Bool):LT lM Bool:=
.br v109 (.cs v4 (.k4 1<|.cs (decide (E0.Who>=0)) (.k4 2<|.cs (decide (E0.Who<=2)) (.k2 3<|.rt v3)<|.k2 3<|.rt false)<|.k4 2<|.b2 false<|.rt false)<|.k4 1<|.b5 false<|.kb false<|.rt false)<|.rt false
def lN(E0:dx)(v3:Bool):LT lM Bool:=
.cs (E0.Who==0) (.k3 0<|.call (Z23 E0.Filter) λx2=>.kg 0<|.cs x2 (.k8 1<|.rt true)<|.k4 1<|.cs (E0.Who==1) (.k3 2<|.kg 1<|.kg 2<|.kg 1<|.kb true<|.kg 1<|.kb true<|.kg 1<|.rt v3)<|.k3 2<|.kg 1<|.kg 2<|.kg 1<|.cs (E0.Who==2) (.kg 3<|.kg 1<|.kg 3<|.kg 1<|.rt v3)<|.kg 3<|.kg 1<|.kg 3<|.kg 1<|.rt false)<|.k4 0<|.b4 false<|.cs (E0.Who==1) (.k3 1<|.kb false<|.kg 1<|.kb false<|.kb true<|.kb false<|.kb true<|.kb false<|.rt v3)<|.k3 1<|.kb false<|.kg 1<|.kb false<|.cs (E0.Who==2) (.kg 2<|.kb false<|.kg 2<|.kb false<|.rt v3)<|.kg 2<|.kb false<|.kg 2<|.kb false<|.rt false
def nA(E0:dx)(v3:Bool)(v4:Bool):LT lM Bool:=
.br (E0.On==1) (.cs (E0.Do != 1) (.k4 1<|.cs (E0.Do != 2) (.k4 2<|.cs (E0.Do != 3) (.k4 3<|.br (E0.Do != 4) (.rt false)<|.j0 (.L1 E0 v3) (lN E0 v3))<|.k4 3<|.kn [0]<|.j0 (.L1 E0 v3) (lN E0 v3))<|.k4 2<|.b4 false<|.kn [0]<|.j0 (.L1 E0 v3) (lN E0 v3))<|.k4 1<|.b8 false<|.kn [0]<|.j0 (.L1 E0 v3) (lN E0 v3))<|.br (E0.On==8) (.cs v4 (.k4 2<|.cs (E0.Who==0) (.k3 3<|.call (Z23 E0.Filter) λx9=>.kg 3<|.rt x9)<|.k4 3<|.rt false)<|.k4 2<|.b4 false<|.rt false)<|.br (E0.On==3) (.cs (E0.Do==4) (.k4 3<|.b4 true<|.cs (decide (E0.Who>=0)) (.k4 4<|.cs (decide (E0.Who<=2)) (.k2 5<|.rt v3)<|.k2 5<|.rt false)<|.k4 4<|.b2 false<|.rt false)<|.k4 3<|.cs (E0.Do==8) (.k4 4<|.cs (decide (E0.Who>=0)) (.k4 5<|.cs (decide (E0.Who<=2)) (.k2 6<|.rt v3)<|.k2 6<|.rt false)<|.k4 5<|.b2 false<|.rt false)<|.k4 4<|.b5 false<|.kb false<|.rt false)<|.br (E0.On==4) (.j0 (.L2 E0 v3 v4 (E0.On==4)) (nz E0 v3 v4 (E0.On==4)))<|.br (E0.On==5) (.j0 (.L2 E0 v3 v4 (E0.On==5)) (nz E0 v3 v4 (E0.On==5)))<|.j0 (.L2 E0 v3 v4 (E0.On==10)) (nz E0 v3 v4 (E0.On==10))
def GG(a0:dx):LT lM Bool:=
.lb 1001<|.br (a0.On==2) (.call (YQ a0) λx2=>.rt x2)<|.call (YR a0) λx4=>.br (!x4) (.rt false)<|.cs (a0.Do==3) (.k4 2<|.b4 true<|.jn 0 (.L0 a0 (aF (aX a0.Filter) (aX (⟨0,0,0,0,0,0,0,([]:By),0,0,(⟨0,0⟩:ah),(⟨0,0⟩:ah),(⟨0,0⟩:ah)⟩:al))) true) [.relab 1001 3000] (nA a0 (aF (aX a0.Filter) (aX (⟨0,0,0,0,0,0,0,([]:By),0,0,(⟨0,0⟩:ah),(⟨0,0⟩:ah),(⟨0,0⟩:ah)⟩:al))) true))<|.k4 2<|.cs (a0.Do==4) (.k4 3<|.jn 0 (.L0 a0 (aF (aX a0.Filter) (aX (⟨0,0,0,0,0,0,0,([]:By),0,0,(⟨0,0⟩:ah),(⟨0,0⟩:ah),(⟨0,0⟩:ah)⟩:al))) true) [.relab 1001 3000] (nA a0 (aF (aX a0.Filter) (aX (⟨0,0,0,0,0,0,0,([]:By),0,0,(⟨0,0⟩:ah),(⟨0,0⟩:ah),(⟨0,0⟩:ah)⟩:al))) true))<|.k4 3<|.jn 0 (.L0 a0 (aF (aX a0.Filter) (aX (⟨0,0,0,0,0,0,0,([]:By),0,0,(⟨0,0⟩:ah),(⟨0,0⟩:ah),(⟨0,0⟩:ah)⟩:al))) (a0.Do==8)) [.relab 1001 3000] (nA a0 (aF (aX a0.Filter) (aX (⟨0,0,0,0,0,0,0,([]:By),0,0,(⟨0,0⟩:ah),(⟨0,0⟩:ah),(⟨0,0⟩:ah)⟩:al))) (a0.Do==8))
def GH:LF lM Bool :=.m0 126 [.t 2] wB λ|.L0 E0 v3 v4=>([1,1,1,1,1],⟨127,[(1,.bptr 3000 0),(3,wB v3),(4,wB v4)],[(3000,.box (bx (gB E0)))]⟩,nA E0 v3 v4)|.L1 E0 v3=>([1,1,1,1,1,0,1,4,1,2,1],⟨127,[(1,.bptr 3000 0),(3,wB v3)],[(3000,.box (bx (gB E0)))]⟩,lN E0 v3)|.L2 E0 v3 v4 v109=>([1,1,1,1,1,0,1,4,1,3,1,3,1,3,1],⟨127,[(1,.bptr 3000 0),(3,wB v3),(4,wB v4),(109,wB v109)],[(3000,.box (bx (gB E0)))]⟩,nz E0 v3 v4 v109)
def GI:=λa0=>GH.run (GG a0)
def YS(a0){r}(h:GI a0=some r):Fn PR 126 [wA (gB a0)] (wB r):=GH.fn h
def GJ(a0:ck):LT Empty Bool:=
.lb 1001<|.br (!a0.Object) (.cs a0.Player (.k5 1<|.rt (aF (aX a0.Filter) (aX (⟨0,0,0,0,0,0,0,([]:By),0,0,(⟨0,0⟩:ah),(⟨0,0⟩:ah),(⟨0,0⟩:ah)⟩:al))))<|.k5 1<|.rt false)<|.call (iA a0.Filter) λx3=>.cs x3 (.k3 1<|.cs (a0.Filter.Zone==0) (.k2 2<|.kg 1<|.kg 2<|.kg 1<|.b2 true<|.kg 1<|.kb true<|.kg 1<|.rt true)<|.k2 2<|.kg 1<|.kg 2<|.kg 1<|.cs (a0.Filter.Zone==3) (.k2 3<|.kg 1<|.kg 3<|.kg 1<|.rt true)<|.k2 3<|.kg 1<|.kg 3<|.kg 1<|.rt (a0.Filter.Zone==5))<|.k5 1<|.k2 1<|.rt false
def GL:LF Empty Bool :=.z0 179 [.t 2] wB
def GM:=λa0=>GL.run (GJ a0)
def YT(a0){r}(h:GM a0=some r):Fn PR 179 [wA (cn a0)] (wB r):=GL.fn h
inductive pV where
 |L0 (v0:List ck) (v3:Int)
def GN(v0:List ck)(v3:Int):LT pV Bool:=
.len cn v0<|.br (decide (v3<(v0.length:Int))) (.idx cn v0 v3 λx3=>.call (YT x3) λx5=>.br (!x5) (.rt false)<|.g0 (.L0 v0 (IntKind.wrap .i64 (v3+1))))<|.len cn v0<|.rt (decide ((v0.length:Int)<=4))
def GO(a0:List ck):LT pV Bool:=
.g0 (.L0 a0 0)
def Z7s:LF pV Bool :=.m0 127 [.t 2] wB λ|.L0 v0 v3=>([1,0,1,4],⟨19,[(0,wL cn v0),(3,wI v3)],[]⟩,GN v0 v3)
def GP:=λa0=>Z7s.run (GO a0)
def YU(a0){r}(h:GP a0=some r):Fn PR 127 [wL cn a0] (wB r):=Z7s.fn h
def GQ(a0:Int):LT Empty (By):=
.cs (decide (a0<1)) (.k3 0<|.kn [0]<|.rt ([]:By))<|.k3 0<|.br (decide (a0>26)) (.rt ([]:By))<|.dr [.lit]<|.idx cS [([100,97,109,97,103,101]:By),([100,101,115,116,114,111,121]:By),([109,111,118,101]:By),([100,114,97,119]:By),([100,105,115,99,97,114,100]:By),([103,97,105,110]:By),([108,111,115,101]:By),([116,97,112]:By),([117,110,116,97,112]:By),([112,117,116]:By),([116,97,107,101]:By),([99,114,101,97,116,101]:By),([109,111,100]:By),([109,97,110,97]:By),([99,111,117,110,116,101,114]:By),([99,111,112,121]:By),([98,101,99,111,109,101]:By),([115,97,99,114,105,102,105,99,101]:By),([109,105,108,108]:By),([115,99,114,121]:By),([115,101,97,114,99,104]:By),([115,104,105,101,108,100]:By),([116,117,114,110]:By),([119,105,110]:By),([100,101,102,101,97,116]:By),([118,101,110,111,109]:By)] (IntKind.wrap .i64 (a0-1)) λx6=>.rt x6
def GR:LF Empty (By) :=.z0 221 [.t 2] wS
def GS:=λa0=>GR.run (GQ a0)
def YV(a0){r}(h:GS a0=some r):Fn PR 221 [wI a0] (wS r):=GR.fn h
inductive nC where
 |L0 (v3:Int) (v4:Bool)
 |L1 (v3:Int) (v14:Bool)
def pW(v3:Int)(v14:Bool):LT nC (By):=
.br v14 (.rt ([114,107,97]:By))<|.br (v3==12) (.rt ([114,99,97]:By))<|.br (v3==13) (.rt ([114,109]:By))<|.br (v3==14) (.rt ([112]:By))<|.br (v3==18) (.rt ([114,97,102]:By))<|.br (v3==20) (.rt ([97]:By))<|.br (v3==21) (.rt ([102]:By))<|.br (v3==23) (.kn [8]<|.rt ([]:By))<|.br (v3==24) (.rt ([]:By))<|.rt ([114,97]:By)
def jA(v3:Int)(v4:Bool):LT nC (By):=
.br v4 (.rt ([114]:By))<|.br (v3==3) (.rt ([114,122]:By))<|.br (v3==10) (.j0 (.L1 v3 (v3==10)) (pW v3 (v3==10)))<|.j0 (.L1 v3 (v3==11)) (pW v3 (v3==11))
def GT(a0:Int):LT nC (By):=
.br (a0==2) (.j0 (.L0 a0 (a0==2)) (jA a0 (a0==2)))<|.br (a0==8) (.j0 (.L0 a0 (a0==8)) (jA a0 (a0==8)))<|.br (a0==9) (.j0 (.L0 a0 (a0==9)) (jA a0 (a0==9)))<|.br (a0==15) (.j0 (.L0 a0 (a0==15)) (jA a0 (a0==15)))<|.br (a0==16) (.j0 (.L0 a0 (a0==16)) (jA a0 (a0==16)))<|.br (a0==17) (.j0 (.L0 a0 (a0==17)) (jA a0 (a0==17)))<|.j0 (.L0 a0 (a0==25)) (jA a0 (a0==25))
def GU:LF nC (By) :=.m0 257 [.t 2] wS λ|.L0 v3 v4=>([1,0,1,4,1],⟨32,[(3,wI v3),(4,wB v4)],[]⟩,jA v3 v4)|.L1 v3 v14=>([1,0,1,4,1,3,1,3,1],⟨32,[(3,wI v3),(14,wB v14)],[]⟩,pW v3 v14)
def GV:=λa0=>GU.run (GT a0)
def YW(a0){r}(h:GV a0=some r):Fn PR 257 [wI a0] (wS r):=GU.fn h
inductive pX where
 |L0 (v1:Int) (v5:By) (v6:Int)
def GW(v1:Int)(v5:By)(v6:Int):LT pX Bool:=
.lenS v5<|.br (decide (v6<(v5.length:Int))) (.idxS v5 v6 λx3=>.br ((UInt8.toNat x3:Int)==v1) (.rt true)<|.g0 (.L0 v1 v5 (IntKind.wrap .i64 (v6+1))))<|.rt false
def GX(a0:Int)(a1:Int):LT pX Bool:=
.call (YW a0) λx1=>.g0 (.L0 a1 x1 0)
def yR:LF pX Bool :=.m0 222 [.t 4] wB λ|.L0 v1 v5 v6=>([1,1,0,1,4],⟨20,[(1,.t (.int .u8 v1)),(5,wS v5),(6,wI v6)],[]⟩,GW v1 v5 v6)
def GY:=λa0 a1=>yR.run (GX a0 a1)
def kI(a0)(a1){r}(h:GY a0 a1=some r):Fn PR 222 [wI a0,.t (.int .u8 a1)] (wB r):=yR.fn h
def Z9n(a0:Int):LT Empty Bool:=
.cs (a0==3) (.k3 0<|.rt true)<|.k3 0<|.rt (a0==8)
def Z9o:LF Empty Bool :=.z0 258 [.t 2] wB
def GZ:=λa0=>Z9o.run (Z9n a0)
def YX(a0){r}(h:GZ a0=some r):Fn PR 258 [wI a0] (wB r):=Z9o.fn h
inductive nD where
 |L0 (v1:Int) (E0:gf)
 |L1 (E0:gf)
def pY(E0:gf):LT nD Bool:=
.br (E0.Kind==4) (.call (iA E0.Filter) λx2=>.rt x2)<|.rt (aF (aX E0.Filter) (aX (⟨0,0,0,0,0,0,0,([]:By),0,0,(⟨0,0⟩:ah),(⟨0,0⟩:ah),(⟨0,0⟩:ah)⟩:al)))
def pZ(v1:Int)(E0:gf):LT nD Bool:=
.cs (decide (E0.Kind<1)) (.k4 0<|.kn [0]<|.rt false)<|.k4 0<|.br (decide (E0.Kind>8)) (.rt false)<|.call (YX E0.Kind) λx3=>.br x3 (.cs (decide (E0.N<1)) (.k5 3<|.kn [0]<|.rt false)<|.k5 3<|.br (decide (E0.N>v1)) (.rt false)<|.j0 (.L1 E0) (pY E0))<|.br (E0.N != 0) (.rt false)<|.j0 (.L1 E0) (pY E0)
def G0(a0:gf)(a1:Int):LT nD Bool:=
.lb 1002<|.br (decide (a1>4)) (.jn 0 (.L0 4 a0) [.relab 1002 3000] (pZ 4 a0))<|.jn 0 (.L0 a1 a0) [.relab 1002 3000] (pZ a1 a0)
def G1:LF nD Bool :=.m0 223 [.t 4] wB λ|.L0 v1 E0=>([1,1],⟨40,[(1,wI v1),(2,.bptr 3000 0)],[(3000,.box (bx (hJ E0)))]⟩,pZ v1 E0)|.L1 E0=>([1,1,1,1],⟨40,[(2,.bptr 3000 0)],[(3000,.box (bx (hJ E0)))]⟩,pY E0)
def G2:=λa0 a1=>G1.run (G0 a0 a1)
def YY(a0)(a1){r}(h:G2 a0 a1=some r):Fn PR 223 [wA (hJ a0),wI a1] (wB r):=G1.fn h
def G3(a0:Int):LT Empty (By):=
.br (a0==0) (.rt ([112,108,117,115]:By))<|.br (a0==1) (.rt ([109,105,110,117,115]:By))<|.br (a0==2) (.rt ([99,104,97,114,103,101]:By))<|.rt ([]:By)
def G4:LF Empty (By) :=.z0 224 [.t 2] wS
def G5:=λa0=>G4.run (G3 a0)
def G6(a0){r}(h:G5 a0=some r):Fn PR 224 [wI a0] (wS r):=G4.fn h
def G7(a0:ec):LT Empty Bool:=
.lb 1001<|.lb 1003<|.br (a0.Kind==0) (.cs (decide (a0.N<0)) (.k4 1<|.kn [0]<|.rt false)<|.k4 1<|.br (decide (a0.N>1000000)) (.rt false)<|.cs (decide (a0.Kind>=0)) (.k4 3<|.cs (decide (a0.Kind<=7)) (.k5 4<|.kg 4<|.rt (aF (dL (⟨a0.Kind,0,a0.Counter,a0.Filter⟩:ec)) (dL (⟨a0.Kind,0,0,(⟨0,0,0,0,0,0,0,([]:By),0,0,(⟨0,0⟩:ah),(⟨0,0⟩:ah),(⟨0,0⟩:ah)⟩:al)⟩:ec))))<|.k5 4<|.kg 4<|.rt false)<|.k4 3<|.b5 false<|.kb false<|.rt false)<|.br (a0.Kind==2) (.cs (decide (a0.N<1)) (.k4 2<|.b5 true<|.kn [0]<|.rt false)<|.k4 2<|.cs (decide (a0.N>99)) (.k5 3<|.kn [0]<|.rt false)<|.k3 3<|.call (iA a0.Filter) λx9=>.k2 3<|.br (!x9) (.rt false)<|.cs (decide (a0.Kind>=0)) (.k4 5<|.cs (decide (a0.Kind<=7)) (.k5 6<|.kg 6<|.rt (aF (dL (⟨a0.Kind,0,a0.Counter,(⟨0,0,0,0,0,0,0,([]:By),0,0,(⟨0,0⟩:ah),(⟨0,0⟩:ah),(⟨0,0⟩:ah)⟩:al)⟩:ec)) (dL (⟨a0.Kind,0,0,(⟨0,0,0,0,0,0,0,([]:By),0,0,(⟨0,0⟩:ah),(⟨0,0⟩:ah),(⟨0,0⟩:ah)⟩:al)⟩:ec))))<|.k5 6<|.kg 6<|.rt false)<|.k4 5<|.b5 false<|.kb false<|.rt false)<|.br (a0.Kind==4) (.call (G6 a0.Counter) λx15=>.br (x15==([]:By)) (.rt false)<|.cs (decide (a0.Kind>=0)) (.k4 4<|.cs (decide (a0.Kind<=7)) (.k5 5<|.kg 5<|.rt (aF (dL (⟨a0.Kind,a0.N,0,a0.Filter⟩:ec)) (dL (⟨a0.Kind,0,0,(⟨0,0,0,0,0,0,0,([]:By),0,0,(⟨0,0⟩:ah),(⟨0,0⟩:ah),(⟨0,0⟩:ah)⟩:al)⟩:ec))))<|.k5 5<|.kg 5<|.rt false)<|.k4 4<|.b5 false<|.kb false<|.rt false)<|.cs (decide (a0.Kind>=0)) (.k4 3<|.cs (decide (a0.Kind<=7)) (.k5 4<|.kg 4<|.rt (aF (dL a0) (dL (⟨a0.Kind,0,0,(⟨0,0,0,0,0,0,0,([]:By),0,0,(⟨0,0⟩:ah),(⟨0,0⟩:ah),(⟨0,0⟩:ah)⟩:al)⟩:ec))))<|.k5 4<|.kg 4<|.rt false)<|.k4 3<|.b5 false<|.kb false<|.rt false
def G8:LF Empty Bool :=.z0 225 [.t 2] wB
def G9:=λa0=>G8.run (G7 a0)
def YZ(a0){r}(h:G9 a0=some r):Fn PR 225 [wA (dL a0)] (wB r):=G8.fn h
def Ha(a0:List af):LT Empty Bool:=
.call (yQ a0) λx1=>.rt (!(x1==([]:By)))
def Hb:LF Empty Bool :=.z0 226 [.t 2] wB
def Hc:=λa0=>Hb.run (Ha a0)
def Y0(a0){r}(h:Hc a0=some r):Fn PR 226 [wL ay a0] (wB r):=Hb.fn h
inductive p3 where
 |L0 (E0:A6 Int) (E1:aK) (E2:aK) (v4:Int)
def Hd(E0:A6 Int)(E1:aK)(E2:aK)(v4:Int):LT p3 aK:=
.br (decide (v4<5)) (.idA (aa.int .i64) (A6.list E0) (IntKind.wrap .i64 (v4+1)) (bx ((cA6 (cI .i64)) E0)) 0 6 λx4=>.ldC (aa.int .i64) 16 x4 0<|.idA (aa.int .i64) (A5.list E2.Color) v4 (bx (cu E2)) 2 7 λx6=>.stA (A5.set? E2.Color v4 x4) (λh=>Y1 (aa.int .i64) ((bx (cu E2)).take 2) ((bx (cu E2)).drop 7) h) λx8=>.g0 (.L0 E0 E1 (⟨E2.Generic,E2.X,x8⟩:aK) (IntKind.wrap .i64 (v4+1))))<|.rt E2
def He(a0:A6 Int):LT p3 aK:=
.lb 1001<|.lb 1002<|.idA (aa.int .i64) (A6.list a0) 0 (bx ((cA6 (cI .i64)) a0)) 0 6 λx1=>.ldC (aa.int .i64) 6 x1 0<|.lb 1003<|.go (.L0 a0 (⟨0,0,(⟨0,0,0,0,0⟩:A5 Int)⟩:aK) (⟨x1,0,(⟨0,0,0,0,0⟩:A5 Int)⟩:aK) 0) (tm13 1000 3000)
def yS:LF p3 aK :=.m0 260 [.c 2 60 true 7] (λr=>(wA (cu r))) λ|.L0 E0 E1 E2 v4=>([1,1,0,1,4],⟨20,[(1,.bptr 3000 0),(2,.bptr 3001 0),(3,.bptr 3002 0),(4,wI v4)],[(3000,.box (bx ((cA6 (cI .i64)) E0))),(3001,.box (bx (cu E1))),(3002,.box (bx (cu E2)))]⟩,Hd E0 E1 E2 v4)
def Hf:=λa0=>yS.run (He a0)
def Y2(a0){r}(h:Hf a0=some r):Fn PR 260 [wA ((cA6 (cI .i64)) a0)] (wA (cu r)):=yS.fn h
inductive lO where
 |L0 (E0:aK) (v3:By) (v4:Int)
 |L1 (E0:aK) (v3:By) (v5:Int)
 |L2 (E0:aK) (v3:By) (v5:Int) (v6:Int)
def Hg(E0:aK)(v3:By)(v4:Int):LT lO (By):=
.br (decide (v4<E0.X)) (.ok (v3.length+([88]:By).length<=9223372036854775807)<|.g0 (.L0 E0 (v3++([88]:By)) (IntKind.wrap .i64 (v4+1))))<|.br (E0.Generic != 0) (.call (ny E0.Generic) λx7=>.ok (v3.length+x7.length<=9223372036854775807)<|.g0 (.L1 E0 (v3++x7) 0))<|.g0 (.L1 E0 v3 0)
def Hh(E0:aK)(v3:By)(v5:Int):LT lO (By):=
.br (decide (v5<5)) (.g0 (.L2 E0 v3 v5 0))<|.br (v3==([]:By)) (.rt ([48]:By))<|.rt v3
def Hi(E0:aK)(v3:By)(v5:Int)(v6:Int):LT lO (By):=
.idA (aa.int .i64) (A5.list E0.Color) v5 (bx (cu E0)) 2 7 λx1=>.ldC (aa.int .i64) 34 x1 0<|.br (decide (v6<x1)) (.slS ([65,67,74,82,69]:By) v5 (IntKind.wrap .i64 (v5+1)) λx6=>.ok (v3.length+x6.length<=9223372036854775807)<|.g0 (.L2 E0 (v3++x6) v5 (IntKind.wrap .i64 (v6+1))))<|.g0 (.L1 E0 v3 (IntKind.wrap .i64 (v5+1)))
def Hj(a0:aK):LT lO (By):=
.lb 1001<|.call (pC a0) λx1=>.br (!x1) (.rt ([]:By))<|.go (.L0 a0 ([]:By) 0) [.relab 1001 3000]
def p4:LF lO (By) :=.m0 259 [.t 2] wS λ|.L0 E0 v3 v4=>([1,1,1,0,1,4],⟨47,[(1,.bptr 3000 0),(3,wS v3),(4,wI v4)],[(3000,.box (bx (cu E0)))]⟩,Hg E0 v3 v4)|.L1 E0 v3 v5=>([1,1,1,1,1,0,1,4],⟨47,[(1,.bptr 3000 0),(3,wS v3),(5,wI v5)],[(3000,.box (bx (cu E0)))]⟩,Hh E0 v3 v5)|.L2 E0 v3 v5 v6=>([1,1,1,1,1,0,1,4,5,1,0,4,1,4],⟨47,[(1,.bptr 3000 0),(3,wS v3),(5,wI v5),(6,wI v6)],[(3000,.box (bx (cu E0)))]⟩,Hi E0 v3 v5 v6)
def Hk:=λa0=>p4.run (Hj a0)
def Y3(a0){r}(h:Hk a0=some r):Fn PR 259 [wA (cu a0)] (wS r):=p4.fn h
def Z9p(a0:A6 Int):LT Empty (By):=
.lb 1001<|.call (Y2 a0) λx1=>.call (Y3 x1) λx3=>.rt x3
def Z9q:LF Empty (By) :=.z0 227 [.t 2] wS
def Hl:=λa0=>Z9q.run (Z9p a0)
def Y4(a0){r}(h:Hl a0=some r):Fn PR 227 [wA ((cA6 (cI .i64)) a0)] (wS r):=Z9q.fn h
def Hm(a0:Int)(a1:al):LT Empty Bool:=
.lb 1003<|.br (a0==21) (.call (iA a1) λx2=>.cs x2 (.k5 1<|.rt (a1.Zone==2))<|.k5 1<|.rt false)<|.call (iA a1) λx5=>.cs x5 (.k5 1<|.rt (a1.Zone==0))<|.k5 1<|.rt false
def Hn:LF Empty Bool :=.z0 228 [.t 4] wB
def Ho:=λa0 a1=>Hn.run (Hm a0 a1)
def Y5(a0)(a1){r}(h:Ho a0 a1=some r):Fn PR 228 [wI a0,wA (aX a1)] (wB r):=Hn.fn h
inductive iB where
 |L0 (E0:aZ) (v5:Bool)
 |L1 (E0:aZ) (v5:Bool) (v6:Bool)
 |L2 (E0:aZ) (v5:Bool) (v6:Bool) (v7:Bool)
 |L3 (E0:aZ) (v5:Bool) (v6:Bool) (v7:Bool) (v8:Bool)
 |L4 (E0:aZ) (v5:Bool) (v6:Bool) (v7:Bool) (v8:Bool) (v9:Bool)
 |L5 (E0:aZ) (v5:Bool) (v6:Bool) (v7:Bool) (v8:Bool) (v9:Bool) (v10:Bool)
 |L6 (E0:aZ) (v5:Bool) (v6:Bool) (v7:Bool) (v8:Bool) (v9:Bool) (v10:Bool) (v11:Bool)
 |L7 (v5:Bool) (v6:Bool) (v7:Bool) (v8:Bool) (v9:Bool) (v10:Bool) (v11:Bool) (v12:Bool)
def p5(v5:Bool)(v6:Bool)(v7:Bool)(v8:Bool)(v9:Bool)(v10:Bool)(v11:Bool)(v12:Bool):LT iB Bool:=
.cs v5 (.k2 0<|.cs v6 (.k2 1<|.cs v7 (.k2 2<|.cs v8 (.k2 3<|.cs v9 (.k2 4<|.cs v10 (.k2 5<|.cs v11 (.k2 6<|.rt v12)<|.k2 6<|.rt false)<|.k2 5<|.b2 false<|.rt false)<|.k2 4<|.b4 false<|.rt false)<|.k2 3<|.b5 false<|.kb false<|.rt false)<|.k2 2<|.b8 false<|.rt false)<|.k2 1<|.b8 false<|.b2 false<|.rt false)<|.k2 0<|.b8 false<|.b4 false<|.rt false
def nE(E0:aZ)(v5:Bool)(v6:Bool)(v7:Bool)(v8:Bool)(v9:Bool)(v10:Bool)(v11:Bool):LT iB Bool:=
.call (kI E0.Op 102) λx1=>.br x1 (.call (Y5 E0.Op E0.Filter) λx4=>.j0 (.L7 v5 v6 v7 v8 v9 v10 v11 x4) (p5 v5 v6 v7 v8 v9 v10 v11 x4))<|.j0 (.L7 v5 v6 v7 v8 v9 v10 v11 (aF (aX E0.Filter) (aX (⟨0,0,0,0,0,0,0,([]:By),0,0,(⟨0,0⟩:ah),(⟨0,0⟩:ah),(⟨0,0⟩:ah)⟩:al)))) (p5 v5 v6 v7 v8 v9 v10 v11 (aF (aX E0.Filter) (aX (⟨0,0,0,0,0,0,0,([]:By),0,0,(⟨0,0⟩:ah),(⟨0,0⟩:ah),(⟨0,0⟩:ah)⟩:al))))
def p6(E0:aZ)(v5:Bool)(v6:Bool)(v7:Bool)(v8:Bool)(v9:Bool)(v10:Bool):LT iB Bool:=
.call (kI E0.Op 112) λx1=>.br x1 (.cs (!(aF ((cA6 (cI .i64)) E0.Pool) ((cA6 (cI .i64)) (⟨0,0,0,0,0,0⟩:A6 Int)))) (.k3 1<|.call (Y4 E0.Pool) λx5=>.k2 1<|.j0 (.L6 E0 v5 v6 v7 v8 v9 v10 (!(x5==([]:By)))) (nE E0 v5 v6 v7 v8 v9 v10 (!(x5==([]:By)))))<|.k5 1<|.j0 (.L6 E0 v5 v6 v7 v8 v9 v10 false) (nE E0 v5 v6 v7 v8 v9 v10 false))<|.j0 (.L6 E0 v5 v6 v7 v8 v9 v10 (aF ((cA6 (cI .i64)) E0.Pool) ((cA6 (cI .i64)) (⟨0,0,0,0,0,0⟩:A6 Int)))) (nE E0 v5 v6 v7 v8 v9 v10 (aF ((cA6 (cI .i64)) E0.Pool) ((cA6 (cI .i64)) (⟨0,0,0,0,0,0⟩:A6 Int))))
def p7(E0:aZ)(v5:Bool)(v6:Bool)(v7:Bool)(v8:Bool)(v9:Bool):LT iB Bool:=
.len ay E0.Mods<|.call (kI E0.Op 109) λx2=>.br x2 (.call (Y0 E0.Mods) λx5=>.j0 (.L5 E0 v5 v6 v7 v8 v9 x5) (p6 E0 v5 v6 v7 v8 v9 x5))<|.j0 (.L5 E0 v5 v6 v7 v8 v9 ((E0.Mods.length:Int)==0)) (p6 E0 v5 v6 v7 v8 v9 ((E0.Mods.length:Int)==0))
def p8(E0:aZ)(v5:Bool)(v6:Bool)(v7:Bool)(v8:Bool):LT iB Bool:=
.call (kI E0.Op 97) λx1=>.br x1 (.call (YZ E0.Amount) λx4=>.j0 (.L4 E0 v5 v6 v7 v8 x4) (p7 E0 v5 v6 v7 v8 x4))<|.j0 (.L4 E0 v5 v6 v7 v8 (aF (dL E0.Amount) (dL (⟨0,0,0,(⟨0,0,0,0,0,0,0,([]:By),0,0,(⟨0,0⟩:ah),(⟨0,0⟩:ah),(⟨0,0⟩:ah)⟩:al)⟩:ec)))) (p7 E0 v5 v6 v7 v8 (aF (dL E0.Amount) (dL (⟨0,0,0,(⟨0,0,0,0,0,0,0,([]:By),0,0,(⟨0,0⟩:ah),(⟨0,0⟩:ah),(⟨0,0⟩:ah)⟩:al)⟩:ec))))
def nF(E0:aZ)(v5:Bool)(v6:Bool)(v7:Bool):LT iB Bool:=
.call (kI E0.Op 99) λx1=>.br x1 (.call (yt E0.Card) λx4=>.j0 (.L3 E0 v5 v6 v7 x4) (p8 E0 v5 v6 v7 x4))<|.j0 (.L3 E0 v5 v6 v7 (E0.Card==([]:By))) (p8 E0 v5 v6 v7 (E0.Card==([]:By)))
def lP(E0:aZ)(v5:Bool)(v6:Bool):LT iB Bool:=
.cs (E0.Counter==0) (.k5 0<|.kg 0<|.j0 (.L2 E0 v5 v6 true) (nF E0 v5 v6 true))<|.k3 0<|.call (kI E0.Op 107) λx2=>.kg 0<|.cs x2 (.k3 1<|.call (G6 E0.Counter) λx5=>.kg 1<|.kg 0<|.kg 1<|.kg 0<|.j0 (.L2 E0 v5 v6 (!(x5==([]:By)))) (nF E0 v5 v6 (!(x5==([]:By)))))<|.k4 1<|.kg 0<|.kg 1<|.kg 0<|.j0 (.L2 E0 v5 v6 false) (nF E0 v5 v6 false)
def p9(E0:aZ)(v5:Bool):LT iB Bool:=
.cs (E0.Zone==0) (.k8 0<|.j0 (.L1 E0 v5 true) (lP E0 v5 true))<|.k3 0<|.call (kI E0.Op 122) λx2=>.kg 0<|.cs x2 (.k3 1<|.kg 0<|.kg 1<|.kg 0<|.cs (decide (E0.Zone>0)) (.k3 2<|.kg 0<|.kg 2<|.kg 0<|.j0 (.L1 E0 v5 (decide (E0.Zone<=4))) (lP E0 v5 (decide (E0.Zone<=4))))<|.k3 2<|.kg 0<|.kg 2<|.kg 0<|.j0 (.L1 E0 v5 false) (lP E0 v5 false))<|.k3 1<|.kg 0<|.kg 1<|.kg 0<|.b3 false<|.kg 0<|.kb false<|.kg 0<|.j0 (.L1 E0 v5 false) (lP E0 v5 false)
def Hp(a0:aZ)(a1:Int):LT iB Bool:=
.lb 1002<|.call (YV a0.Op) λx1=>.br (x1==([]:By)) (.rt false)<|.call (kI a0.Op 114) λx4=>.br x4 (.call (YY a0.Ref a1) λx7=>.jn 0 (.L0 a0 x7) [.relab 1002 3000] (p9 a0 x7))<|.jn 0 (.L0 a0 (aF (hJ a0.Ref) (hJ (⟨0,0,(⟨0,0,0,0,0,0,0,([]:By),0,0,(⟨0,0⟩:ah),(⟨0,0⟩:ah),(⟨0,0⟩:ah)⟩:al)⟩:gf)))) [.relab 1002 3000] (p9 a0 (aF (hJ a0.Ref) (hJ (⟨0,0,(⟨0,0,0,0,0,0,0,([]:By),0,0,(⟨0,0⟩:ah),(⟨0,0⟩:ah),(⟨0,0⟩:ah)⟩:al)⟩:gf))))
def Hq:LF iB Bool :=.m0 180 [.t 4] wB λ|.L0 E0 v5=>([1,1,1,1],⟨138,[(2,.bptr 3000 0),(5,wB v5)],[(3000,.box (bx (bj E0)))]⟩,p9 E0 v5)|.L1 E0 v5 v6=>([1,1,1,1,1],⟨138,[(2,.bptr 3000 0),(5,wB v5),(6,wB v6)],[(3000,.box (bx (bj E0)))]⟩,lP E0 v5 v6)|.L2 E0 v5 v6 v7=>([1,1,1,1,1,1],⟨138,[(2,.bptr 3000 0),(5,wB v5),(6,wB v6),(7,wB v7)],[(3000,.box (bx (bj E0)))]⟩,nF E0 v5 v6 v7)|.L3 E0 v5 v6 v7 v8=>([1,1,1,1,1,1,1,1],⟨138,[(2,.bptr 3000 0),(5,wB v5),(6,wB v6),(7,wB v7),(8,wB v8)],[(3000,.box (bx (bj E0)))]⟩,p8 E0 v5 v6 v7 v8)|.L4 E0 v5 v6 v7 v8 v9=>([1,1,1,1,1,1,1,1,1,1],⟨138,[(2,.bptr 3000 0),(5,wB v5),(6,wB v6),(7,wB v7),(8,wB v8),(9,wB v9)],[(3000,.box (bx (bj E0)))]⟩,p7 E0 v5 v6 v7 v8 v9)|.L5 E0 v5 v6 v7 v8 v9 v10=>([1,1,1,1,1,1,1,1,1,1,1,1],⟨138,[(2,.bptr 3000 0),(5,wB v5),(6,wB v6),(7,wB v7),(8,wB v8),(9,wB v9),(10,wB v10)],[(3000,.box (bx (bj E0)))]⟩,p6 E0 v5 v6 v7 v8 v9 v10)|.L6 E0 v5 v6 v7 v8 v9 v10 v11=>([1,1,1,1,1,1,1,1,1,1,1,1,1,1],⟨138,[(2,.bptr 3000 0),(5,wB v5),(6,wB v6),(7,wB v7),(8,wB v8),(9,wB v9),(10,wB v10),(11,wB v11)],[(3000,.box (bx (bj E0)))]⟩,nE E0 v5 v6 v7 v8 v9 v10 v11)|.L7 v5 v6 v7 v8 v9 v10 v11 v12=>([1,1,1,1,1,1,1,1,1,1,1,1,1,1,1,1],⟨138,[(5,wB v5),(6,wB v6),(7,wB v7),(8,wB v8),(9,wB v9),(10,wB v10),(11,wB v11),(12,wB v12)],[]⟩,p5 v5 v6 v7 v8 v9 v10 v11 v12)
def Hr:=λa0 a1=>Hq.run (Hp a0 a1)
def Y6(a0)(a1){r}(h:Hr a0 a1=some r):Fn PR 180 [wA (bj a0),wI a1] (wB r):=Hq.fn h
inductive qa where
 |L0 (v0:List aZ) (v1:Int) (v5:Int)
def Z9r(v0:List aZ)(v1:Int)(v5:Int):LT qa Bool:=
.len bj v0<|.br (decide (v5<(v0.length:Int))) (.idx bj v0 v5 λx3=>.call (Y6 x3 v1) λx5=>.br (!x5) (.rt false)<|.g0 (.L0 v0 v1 (IntKind.wrap .i64 (v5+1))))<|.len bj v0<|.cs (decide ((v0.length:Int)>=1)) (.k2 1<|.len bj v0<|.k2 1<|.rt (decide ((v0.length:Int)<=8)))<|.k4 1<|.rt false
def Hs(a0:List aZ)(a1:Int):LT qa Bool:=
.g0 (.L0 a0 a1 0)
def yU:LF qa Bool :=.m0 128 [.t 4] wB λ|.L0 v0 v1 v5=>([1,0,1,4],⟨27,[(0,wL bj v0),(1,wI v1),(5,wI v5)],[]⟩,Z9r v0 v1 v5)
def Ht:=λa0 a1=>yU.run (Hs a0 a1)
def Y7(a0)(a1){r}(h:Ht a0 a1=some r):Fn PR 128 [wL bj a0,wI a1] (wB r):=yU.fn h
inductive jX where
 |L0 (E0:ar) (v3:Bool)
 |L1 (E0:ar) (v3:Bool)
 |L2 (E0:ar) (v3:Bool)
 |L3 (E0:ar) (v3:Bool)
 |L4 (E0:ar) (v3:Bool)
def qb(E0:ar)(v3:Bool):LT jX Bool:=
.br v3 (.call (YU E0.Specs) λx2=>.cs x2 (.k5 1<|.len cn E0.Specs<|.kg 1<|.call (Y7 E0.Effects (E0.Specs.length:Int)) λx6=>.kg 1<|.rt x6)<|.k5 1<|.k2 1<|.rt false)<|.len cn E0.Specs<|.cs ((E0.Specs.length:Int)==0) (.k3 1<|.len bj E0.Effects<|.k2 1<|.rt ((E0.Effects.length:Int)==0))<|.k5 1<|.rt false
def qc(E0:ar)(v3:Bool):LT jX Bool:=
.br (E0.Kind==5) (.call (YS E0.Replace) λx2=>.br (!x2) (.rt false)<|.j0 (.L4 E0 v3) (qb E0 v3))<|.br (!(aF (gB E0.Replace) (gB (⟨0,0,(⟨0,0,0,0,0,0,0,([]:By),0,0,(⟨0,0⟩:ah),(⟨0,0⟩:ah),(⟨0,0⟩:ah)⟩:al),0,0,0,0⟩:dx)))) (.rt false)<|.j0 (.L4 E0 v3) (qb E0 v3)
def qd(E0:ar)(v3:Bool):LT jX Bool:=
.br (E0.Kind==4) (.call (YP E0.Trigger) λx2=>.br (!x2) (.rt false)<|.j0 (.L3 E0 v3) (qc E0 v3))<|.cs (!(aF (jz E0.Trigger) (jz (⟨0,0,(⟨0,0,0,0,0,0,0,([]:By),0,0,(⟨0,0⟩:ah),(⟨0,0⟩:ah),(⟨0,0⟩:ah)⟩:al)⟩:fN)))) (.k3 1<|.kn [0]<|.rt false)<|.k3 1<|.br E0.May (.rt false)<|.j0 (.L3 E0 v3) (qc E0 v3)
def qe(E0:ar)(v3:Bool):LT jX Bool:=
.br (E0.Kind==3) (.call (YN E0.Price) λx2=>.br (!x2) (.rt false)<|.j0 (.L2 E0 v3) (qd E0 v3))<|.cs (!(aF (jW E0.Price) (jW (⟨(⟨0,0,(⟨0,0,0,0,0⟩:A5 Int)⟩:aK),false,false,0⟩:iY)))) (.k3 1<|.kn [0]<|.rt false)<|.k3 1<|.br E0.Slow (.rt false)<|.j0 (.L2 E0 v3) (qd E0 v3)
def nG(E0:ar)(v3:Bool):LT jX Bool:=
.br (E0.Kind==1) (.call (iA E0.Filter) λx2=>.cs (!x2) (.k5 1<|.b5 true<|.kn [0]<|.rt false)<|.k5 1<|.cs (E0.Filter.Zone != 0) (.k5 2<|.kn [0]<|.rt false)<|.k3 2<|.call (yQ E0.Mods) λx6=>.k2 2<|.br (x6==([]:By)) (.rt false)<|.j0 (.L1 E0 v3) (qe E0 v3))<|.cs (!(aF (aX E0.Filter) (aX (⟨0,0,0,0,0,0,0,([]:By),0,0,(⟨0,0⟩:ah),(⟨0,0⟩:ah),(⟨0,0⟩:ah)⟩:al)))) (.k5 1<|.kn [0]<|.rt false)<|.k3 1<|.len ay E0.Mods<|.k2 1<|.br (decide ((E0.Mods.length:Int)>0)) (.rt false)<|.j0 (.L1 E0 v3) (qe E0 v3)
def Hu(a0:ar):LT jX Bool:=
.lb 1001<|.cs (decide (a0.Kind<1)) (.k4 0<|.kn [0]<|.rt false)<|.k4 0<|.br (decide (a0.Kind>5)) (.rt false)<|.cs (a0.Kind==2) (.k4 2<|.b4 true<|.jn 0 (.L0 a0 true) [.relab 1001 3000] (nG a0 true))<|.k4 2<|.cs (a0.Kind==3) (.k4 3<|.jn 0 (.L0 a0 true) [.relab 1001 3000] (nG a0 true))<|.k4 3<|.jn 0 (.L0 a0 (a0.Kind==4)) [.relab 1001 3000] (nG a0 (a0.Kind==4))
def Hv:LF jX Bool :=.m0 78 [.t 2] wB λ|.L0 E0 v3=>([1,1,1],⟨117,[(1,.bptr 3000 0),(3,wB v3)],[(3000,.box (bx (aC E0)))]⟩,nG E0 v3)|.L1 E0 v3=>([1,1,1,1],⟨117,[(1,.bptr 3000 0),(3,wB v3)],[(3000,.box (bx (aC E0)))]⟩,qe E0 v3)|.L2 E0 v3=>([1,1,1,1,1],⟨117,[(1,.bptr 3000 0),(3,wB v3)],[(3000,.box (bx (aC E0)))]⟩,qd E0 v3)|.L3 E0 v3=>([1,1,1,1,1,1],⟨117,[(1,.bptr 3000 0),(3,wB v3)],[(3000,.box (bx (aC E0)))]⟩,qc E0 v3)|.L4 E0 v3=>([1,1,1,1,1,1,1],⟨117,[(1,.bptr 3000 0),(3,wB v3)],[(3000,.box (bx (aC E0)))]⟩,qb E0 v3)
def Hw:=λa0=>Hv.run (Hu a0)
def Z5u(a0){r}(h:Hw a0=some r):Fn PR 78 [wA (aC a0)] (wB r):=Hv.fn h
def Hx(a0:an):LT Empty Bool:=
.lb 1001<|.cs (a0.Line.Types==2) (.k5 0<|.rt true)<|.k5 0<|.rt (a0.Line.Types==4)
def Hy:LF Empty Bool :=.z0 79 [.t 2] wB
def Hz:=λa0=>Hy.run (Hx a0)
def Y8(a0){r}(h:Hz a0=some r):Fn PR 79 [wA (bf a0)] (wB r):=Hy.fn h
inductive nH where
 |L0 (E0:an)
 |L1 (E0:an) (v3:Int) (v4:Int)
def qf(E0:an):LT nH Bool:=
.g0 (.L1 E0 0 0)
def HA(E0:an)(v3:Int)(v4:Int):LT nH Bool:=
.len aC E0.Abilities<|.br (decide (v4<(E0.Abilities.length:Int))) (.idx aC E0.Abilities v4 λx3=>.call (Z5u x3) λx5=>.br (!x5) (.rt false)<|.ag aC x3 0<|.br (x3.Kind==2) (.g0 (.L1 E0 (IntKind.wrap .i64 (v3+1)) (IntKind.wrap .i64 (v4+1))))<|.g0 (.L1 E0 v3 (IntKind.wrap .i64 (v4+1))))<|.call (Y8 E0) λx15=>.br x15 (.cs (!E0.Token) (.k4 2<|.cs (E0.Keys==0) (.k3 3<|.len aC E0.Abilities<|.k2 3<|.cs ((E0.Abilities.length:Int)==1) (.k3 4<|.rt (v3==1))<|.k3 4<|.rt false)<|.k5 3<|.b3 false<|.rt false)<|.k4 2<|.b8 false<|.rt false)<|.cs (v3==0) (.k4 2<|.cs (!E0.Token) (.k5 3<|.kg 2<|.kg 3<|.kg 2<|.cs ((aQ .and .i64 E0.Line.Types 32)==0) (.k4 4<|.kg 2<|.kg 4<|.kg 2<|.rt true)<|.k4 4<|.kg 2<|.kg 4<|.kg 2<|.rt (aF (cu E0.Cost) (cu (⟨0,0,(⟨0,0,0,0,0⟩:A5 Int)⟩:aK))))<|.k5 3<|.kg 2<|.kg 3<|.kg 2<|.b4 false<|.kg 2<|.kb false<|.kg 2<|.rt (aF (cu E0.Cost) (cu (⟨0,0,(⟨0,0,0,0,0⟩:A5 Int)⟩:aK))))<|.k8 2<|.rt false
def HB(a0:an):LT nH Bool:=
.lb 1001<|.call (yt a0.Name) λx1=>.cs (!x1) (.k5 0<|.b16 true<|.b2 true<|.kn [0]<|.rt false)<|.k3 0<|.call (pC a0.Cost) λx4=>.k2 0<|.cs (!x4) (.k5 1<|.b8 true<|.b5 true<|.kn [0]<|.rt false)<|.k3 1<|.call (Yt a0.Line) λx7=>.k2 1<|.cs (!x7) (.k5 2<|.b8 true<|.kn [0]<|.rt false)<|.k3 2<|.call (E7 a0.Keys) λx10=>.k2 2<|.cs (!x10) (.k4 3<|.b4 true<|.kn [0]<|.rt false)<|.k4 3<|.cs (decide (a0.Color<0)) (.k4 4<|.kn [0]<|.rt false)<|.k4 4<|.br (decide (a0.Color>31)) (.rt false)<|.cs (decide (a0.Power<0)) (.k4 6<|.b16 true<|.b3 true<|.kn [0]<|.rt false)<|.k4 6<|.cs (decide (a0.Power>99)) (.k4 7<|.b8 true<|.b5 true<|.b2 true<|.kn [0]<|.rt false)<|.k4 7<|.cs (decide (a0.Tough<0)) (.k4 8<|.b8 true<|.b3 true<|.kn [0]<|.rt false)<|.k4 8<|.cs (decide (a0.Tough>99)) (.k5 9<|.kg 9<|.b5 true<|.kn [0]<|.rt false)<|.k2 9<|.call (Yu a0) λx19=>.k2 9<|.cs (!x19) (.k4 10<|.cs (a0.Power != 0) (.k3 11<|.kg 10<|.kg 11<|.kg 9<|.kg 10<|.kg 9<|.b5 true<|.kn [0]<|.rt false)<|.k3 11<|.kg 10<|.kg 11<|.kg 9<|.kg 10<|.kg 9<|.cs (a0.Tough != 0) (.k5 12<|.kn [0]<|.rt false)<|.k3 12<|.len aC a0.Abilities<|.k2 12<|.br (decide ((a0.Abilities.length:Int)>8)) (.rt false)<|.jn 0 (.L0 a0) [.relab 1001 3000] (qf a0))<|.k5 10<|.kg 9<|.kg 10<|.kg 9<|.b3 false<|.len aC a0.Abilities<|.b2 false<|.br (decide ((a0.Abilities.length:Int)>8)) (.rt false)<|.jn 0 (.L0 a0) [.relab 1001 3000] (qf a0)
def yV:LF nH Bool :=.m0 43 [.t 2] wB λ|.L0 E0=>([1,1,1],⟨139,[(1,.bptr 3000 0)],[(3000,.box (bx (bf E0)))]⟩,qf E0)|.L1 E0 v3 v4=>([1,1,1,1,0,1,4],⟨139,[(1,.bptr 3000 0),(3,wI v3),(4,wI v4)],[(3000,.box (bx (bf E0)))]⟩,HA E0 v3 v4)
def HC:=λa0=>yV.run (HB a0)
def Y9(a0){r}(h:HC a0=some r):Fn PR 43 [wA (bf a0)] (wB r):=yV.fn h
inductive qg where
 |L0 (v0:List an) (v1:By) (v5:Int)
def HD(v0:List an)(v1:By)(v5:Int):LT qg Int:=
.len bf v0<|.br (decide (v5<(v0.length:Int))) (.idx bf v0 v5 λx3=>.br (x3.Name==v1) (.rt v5)<|.g0 (.L0 v0 v1 (IntKind.wrap .i64 (v5+1))))<|.rt (-1)
def HE(a0:List an)(a1:By):LT qg Int:=
.g0 (.L0 a0 a1 0)
def yW:LF qg Int :=.m0 44 [.t 4] wI λ|.L0 v0 v1 v5=>([1,0,1,4],⟨20,[(0,wL bf v0),(1,wS v1),(5,wI v5)],[]⟩,HD v0 v1 v5)
def HF:=λa0 a1=>yW.run (HE a0 a1)
def Za(a0)(a1){r}(h:HF a0 a1=some r):Fn PR 44 [wL bf a0,wS a1] (wI r):=yW.fn h
inductive qh where
 |L0 (v0:List an) (v1:By) (v5:Int)
def HG(v0:List an)(v1:By)(v5:Int):LT qh Bool:=
.len bf v0<|.br (decide (v5<(v0.length:Int))) (.idx bf v0 v5 λx3=>.cs (x3.Name==v1) (.k3 1<|.ag bf x3 0<|.k3 1<|.br x3.Token (.rt true)<|.g0 (.L0 v0 v1 (IntKind.wrap .i64 (v5+1))))<|.k5 1<|.kg 1<|.kn [0]<|.g0 (.L0 v0 v1 (IntKind.wrap .i64 (v5+1))))<|.rt false
def HH(a0:List an)(a1:By):LT qh Bool:=
.g0 (.L0 a0 a1 0)
def Z7t:LF qh Bool :=.m0 80 [.t 4] wB λ|.L0 v0 v1 v5=>([1,0,1,4],⟨26,[(0,wL bf v0),(1,wS v1),(5,wI v5)],[]⟩,HG v0 v1 v5)
def HJ:=λa0 a1=>Z7t.run (HH a0 a1)
def Zb(a0)(a1){r}(h:HJ a0 a1=some r):Fn PR 80 [wL bf a0,wS a1] (wB r):=Z7t.fn h
inductive nI where
 |L0 (v0:List an) (E0:an) (v5:Int)
 |L1 (v0:List an) (E0:an) (v5:Int) (v6:Int)
def Z9s(v0:List an)(E0:an)(v5:Int):LT nI Bool:=
.len aC E0.Abilities<|.br (decide (v5<(E0.Abilities.length:Int))) (.g0 (.L1 v0 E0 v5 0))<|.rt true
def Z9t(v0:List an)(E0:an)(v5:Int)(v6:Int):LT nI Bool:=
.idx aC E0.Abilities v5 λx1=>.len bj x1.Effects<|.br (decide (v6<(x1.Effects.length:Int))) (.ag aC x1 0<|.idx bj x1.Effects v6 λx5=>.lb 1007<|.cs (x5.Op==12) (.k4 1<|.call (Zb v0 x5.Card) λx8=>.k2 1<|.br (!x8) (.rt false)<|.g0 (.L1 v0 E0 v5 (IntKind.wrap .i64 (v6+1))))<|.k5 1<|.kg 1<|.kn [0]<|.g0 (.L1 v0 E0 v5 (IntKind.wrap .i64 (v6+1))))<|.g0 (.L0 v0 E0 (IntKind.wrap .i64 (v5+1)))
def HK(a0:List an)(a1:an):LT nI Bool:=
.lb 1003<|.go (.L0 a0 a1 0) [.relab 1003 3000]
def ux:LF nI Bool :=.m0 45 [.t 4] wB λ|.L0 v0 E0 v5=>([1,0,1,4],⟨45,[(0,wL bf v0),(3,.bptr 3000 0),(5,wI v5)],[(3000,.box (bx (bf E0)))]⟩,Z9s v0 E0 v5)|.L1 v0 E0 v5 v6=>([1,0,1,4,5,1,0,4,1,4],⟨45,[(0,wL bf v0),(3,.bptr 3000 0),(5,wI v5),(6,wI v6)],[(3000,.box (bx (bf E0)))]⟩,Z9t v0 E0 v5 v6)
def HL:=λa0 a1=>ux.run (HK a0 a1)
def Zc(a0)(a1){r}(h:HL a0 a1=some r):Fn PR 45 [wL bf a0,wA (bf a1)] (wB r):=ux.fn h
inductive qi where
 |L0 (v0:List an) (v4:Int)
def HM(v0:List an)(v4:Int):LT qi (Int×Int):=
.len bf v0<|.br (decide (v4<(v0.length:Int))) (.idx bf v0 v4 λx3=>.call (Y9 x3) λx5=>.br (!x5) (.rt (v4,9))<|.ag bf x3 0<|.call (Za v0 x3.Name) λx8=>.br (decide (x8<v4)) (.rt (v4,6))<|.ag bf x3 0<|.call (Zc v0 x3) λx11=>.br (!x11) (.rt (v4,7))<|.g0 (.L0 v0 (IntKind.wrap .i64 (v4+1))))<|.rt ((-1),0)
def HN(a0:List an):LT qi (Int×Int):=
.len bf a0<|.br (decide ((a0.length:Int)>256)) (.rt ((-1),5))<|.g0 (.L0 a0 0)
def Z7u:LF qi (Int×Int) :=.m0 28 [.t 2,.t 3] (λr=>(.tup [wI r.1,wI r.2])) λ|.L0 v0 v4=>([1,1,0,1,4],⟨39,[(0,wL bf v0),(4,wI v4)],[]⟩,HM v0 v4)
def HO:=λa0=>Z7u.run (HN a0)
def Zd(a0){r}(h:HO a0=some r):Fn PR 28 [wL bf a0] (.tup [wI r.1,wI r.2]):=Z7u.fn h
def HP(a0:Int)(a1:Int)(a2:Int):LT Empty Bool:=
.cs (decide (a0>=a1)) (.k4 0<|.rt (decide (a0<=a2)))<|.k4 0<|.rt false
def HQ:LF Empty Bool :=.z0 46 [.t 6] wB
def HR:=λa0 a1 a2=>HQ.run (HP a0 a1 a2)
def gC(a0)(a1)(a2){r}(h:HR a0 a1 a2=some r):Fn PR 46 [wI a0,wI a1,wI a2] (wB r):=HQ.fn h
inductive qj where
 |L0 (E0:A6 Int) (v3:Int)
def HS(E0:A6 Int)(v3:Int):LT qj Bool:=
.br (decide (v3<6)) (.idA (aa.int .i64) (A6.list E0) v3 (bx ((cA6 (cI .i64)) E0)) 0 6 λx2=>.ldC (aa.int .i64) 10 x2 0<|.cs (decide (x2<0)) (.k5 1<|.kn [0]<|.rt false)<|.k2 1<|.idA (aa.int .i64) (A6.list E0) v3 (bx ((cA6 (cI .i64)) E0)) 0 6 λx5=>.kg 1<|.ldC (aa.int .i64) 15 x5 1<|.k2 1<|.br (decide (x5>1000000)) (.rt false)<|.g0 (.L0 E0 (IntKind.wrap .i64 (v3+1))))<|.rt true
def HT(a0:A6 Int):LT qj Bool:=
.lb 1001<|.go (.L0 a0 0) [.relab 1001 3000]
def Z7v:LF qj Bool :=.m0 81 [.t 2] wB λ|.L0 E0 v3=>([1,0,1,4],⟨18,[(1,.bptr 3000 0),(3,wI v3)],[(3000,.box (bx ((cA6 (cI .i64)) E0)))]⟩,HS E0 v3)
def HU:=λa0=>Z7v.run (HT a0)
def Ze(a0){r}(h:HU a0=some r):Fn PR 81 [wA ((cA6 (cI .i64)) a0)] (wB r):=Z7v.fn h
inductive qk where
 |L0 (v1:Int) (E0:ao) (v5:Int)
def HV(v1:Int)(E0:ao)(v5:Int):LT qk Int:=
.len aE E0.Objects<|.br (decide (v5<(E0.Objects.length:Int))) (.idx aE E0.Objects v5 λx3=>.br (x3.Id==v1) (.rt v5)<|.g0 (.L0 v1 E0 (IntKind.wrap .i64 (v5+1))))<|.rt (-1)
def HW(a0:ao)(a1:Int):LT qk Int:=
.lb 1002<|.go (.L0 a1 a0 0) [.relab 1002 3000]
def Z7w:LF qk Int :=.m0 229 [.t 4] wI λ|.L0 v1 E0 v5=>([1,0,1,4],⟨22,[(1,wI v1),(2,.bptr 3000 0),(5,wI v5)],[(3000,.box (bx (Z1 E0)))]⟩,HV v1 E0 v5)
def HX:=λa0 a1=>Z7w.run (HW a0 a1)
def Zf(a0)(a1){r}(h:HX a0 a1=some r):Fn PR 229 [wA (Z1 a0),wI a1] (wI r):=Z7w.fn h
def HY(a0:ao)(a1:Int):LT Empty (aj×Bool):=
.lb 1002<|.lb 1004<|.call (Zf a0 a1) λx1=>.br (decide (x1<0)) (.rt ((⟨0,0,0,0,0,false,false,false,false,0,(⟨0,0,0⟩:A3 Int),0,0,0,false,0,0⟩:aj),false))<|.idx aE a0.Objects x1 λx4=>.rt (x4,true)
def H0:LF Empty (aj×Bool) :=.z0 181 [.c 4 56 true 19,.t 5] (λr=>(.tup [wA (aE r.1),wB r.2]))
def H1:=λa0 a1=>H0.run (HY a0 a1)
def Zg(a0)(a1){r}(h:H1 a0 a1=some r):Fn PR 181 [wA (Z1 a0),wI a1] (.tup [wA (aE r.1),wB r.2]):=H0.fn h
def H2(a0:ao)(a1:Int):LT Empty (aj×Bool):=
.lb 1002<|.lb 1004<|.call (Zg a0 a1) λx1=>.rt (x1.1,x1.2)
def H3:LF Empty (aj×Bool) :=.z0 129 [.c 4 56 true 19,.t 5] (λr=>(.tup [wA (aE r.1),wB r.2]))
def H4:=λa0 a1=>H3.run (H2 a0 a1)
def H5(a0)(a1){r}(h:H4 a0 a1=some r):Fn PR 129 [wA (Z1 a0),wI a1] (.tup [wA (aE r.1),wB r.2]):=H3.fn h
inductive ql where
 |L0 (v0:List Int) (v1:Int) (v5:Int) (v6:Int)
def H6(v0:List Int)(v1:Int)(v5:Int)(v6:Int):LT ql Int:=
.len (cI .i64) v0<|.br (decide (v6<(v0.length:Int))) (.idx (cI .i64) v0 v6 λx3=>.br (x3==v1) (.g0 (.L0 v0 v1 (IntKind.wrap .i64 (v5+1)) (IntKind.wrap .i64 (v6+1))))<|.g0 (.L0 v0 v1 v5 (IntKind.wrap .i64 (v6+1))))<|.rt v5
def H7(a0:List Int)(a1:Int):LT ql Int:=
.g0 (.L0 a0 a1 0 0)
def Z7x:LF ql Int :=.m0 130 [.t 4] wI λ|.L0 v0 v1 v5 v6=>([1,1,0,1,4],⟨22,[(0,wL (cI .i64) v0),(1,wI v1),(5,wI v5),(6,wI v6)],[]⟩,H6 v0 v1 v5 v6)
def H8:=λa0 a1=>Z7x.run (H7 a0 a1)
def Z24(a0)(a1){r}(h:H8 a0 a1=some r):Fn PR 130 [wL (cI .i64) a0,wI a1] (wI r):=Z7x.fn h
inductive qm where
 |L0 (v1:List Int) (v2:Int) (v3:Int) (E0:ao) (v9:Int)
def H9(v1:List Int)(v2:Int)(v3:Int)(E0:ao)(v9:Int):LT qm Bool:=
.len (cI .i64) v1<|.br (decide (v9<(v1.length:Int))) (.idx (cI .i64) v1 v9 λx3=>.call (H5 E0 x3) λx5=>.lb 1010<|.cs (!x5.2) (.k5 1<|.b8 true<|.b5 true<|.kn [0]<|.rt false)<|.k5 1<|.cs (x5.1.Zone != v2) (.k5 2<|.b8 true<|.kn [0]<|.rt false)<|.k3 2<|.cs (decide (v3>=0)) (.k4 3<|.kg 2<|.kg 3<|.kg 2<|.cs (x5.1.Owner != v3) (.k8 4<|.kn [0]<|.rt false)<|.k4 4<|.ag (cI .i64) x3 0<|.k2 4<|.call (Z24 v1 x3) λx11=>.k2 4<|.br (x11 != 1) (.rt false)<|.g0 (.L0 v1 v2 v3 E0 (IntKind.wrap .i64 (v9+1))))<|.k4 3<|.kg 2<|.kg 3<|.kg 2<|.b4 false<|.ag (cI .i64) x3 0<|.b2 false<|.call (Z24 v1 x3) λx16=>.b2 false<|.br (x16 != 1) (.rt false)<|.g0 (.L0 v1 v2 v3 E0 (IntKind.wrap .i64 (v9+1))))<|.rt true
def Ia(a0:ao)(a1:List Int)(a2:Int)(a3:Int):LT qm Bool:=
.lb 1004<|.go (.L0 a1 a2 a3 a0 0) [.relab 1004 3000]
def yX:LF qm Bool :=.m0 82 [.t 8] wB λ|.L0 v1 v2 v3 E0 v9=>([1,0,1,4],⟨54,[(1,wL (cI .i64) v1),(2,wI v2),(3,wI v3),(4,.bptr 3000 0),(9,wI v9)],[(3000,.box (bx (Z1 E0)))]⟩,H9 v1 v2 v3 E0 v9)
def Ib:=λa0 a1 a2 a3=>yX.run (Ia a0 a1 a2 a3)
def qn(a0)(a1)(a2)(a3){r}(h:Ib a0 a1 a2 a3=some r):Fn PR 82 [wA (Z1 a0),wL (cI .i64) a1,wI a2,wI a3] (wB r):=yX.fn h
inductive qo where
 |L0 (E0:ao) (v3:Int)
def Z9u(E0:ao)(v3:Int):LT qo Bool:=
.len cY E0.Players<|.br (decide (v3<(E0.Players.length:Int))) (.idx cY E0.Players v3 λx3=>.lb 1004<|.call (gC x3.Life (-1000000) 1000000) λx5=>.cs (!x5) (.k5 1<|.b8 true<|.b2 true<|.kn [0]<|.rt false)<|.k3 1<|.call (gC x3.Venom 0 1000000) λx8=>.k2 1<|.cs (!x8) (.k5 2<|.b5 true<|.kn [0]<|.rt false)<|.k3 2<|.call (gC x3.Lands 0 1000000) λx11=>.k2 2<|.cs (!x11) (.k5 3<|.kn [0]<|.rt false)<|.k3 3<|.call (Ze x3.Pool) λx14=>.k2 3<|.br (!x14) (.rt false)<|.call (qn E0 x3.Library 2 v3) λx17=>.cs (!x17) (.k5 5<|.k2 5<|.b5 true<|.b2 true<|.kn [0]<|.rt false)<|.k5 5<|.call (qn E0 x3.Hand 1 v3) λx20=>.k2 5<|.cs (!x20) (.k5 6<|.k2 6<|.kn [0]<|.rt false)<|.k5 6<|.call (qn E0 x3.Graveyard 3 v3) λx23=>.k2 6<|.br (!x23) (.rt false)<|.g0 (.L0 E0 (IntKind.wrap .i64 (v3+1))))<|.call (qn E0 E0.Battlefield 0 (-1)) λx28=>.cs x28 (.k4 1<|.call (qn E0 E0.Exile 4 (-1)) λx31=>.kg 1<|.rt x31)<|.k5 1<|.rt false
def Ic(a0:ao):LT qo Bool:=
.lb 1001<|.len cY a0.Players<|.call (gC (a0.Players.length:Int) 2 4) λx2=>.br (!x2) (.rt false)<|.go (.L0 a0 0) [.relab 1001 3000]
def yY:LF qo Bool :=.m0 47 [.t 2] wB λ|.L0 E0 v3=>([1,1,0,1,4],⟨76,[(1,.bptr 3000 0),(3,wI v3)],[(3000,.box (bx (Z1 E0)))]⟩,Z9u E0 v3)
def Ie:=λa0=>yY.run (Ic a0)
def Zh(a0){r}(h:Ie a0=some r):Fn PR 47 [wA (Z1 a0)] (wB r):=yY.fn h
def If(a0:ao)(a1:Int):LT Empty Bool:=
.lb 1002<|.len cY a0.Players<|.call (gC a1 0 (IntKind.wrap .i64 ((a0.Players.length:Int)-1))) λx4=>.rt x4
def Ig:LF Empty Bool :=.z0 48 [.t 4] wB
def Ih:=λa0 a1=>Ig.run (If a0 a1)
def lQ(a0)(a1){r}(h:Ih a0 a1=some r):Fn PR 48 [wA (Z1 a0),wI a1] (wB r):=Ig.fn h
inductive Z25 where
 |L0 (E0:A3 Int) (v3:Int)
def Ii(E0:A3 Int)(v3:Int):LT Z25 Bool:=
.br (decide (v3<3)) (.idA (aa.int .i64) (A3.list E0) v3 (bx ((cA3 (cI .i64)) E0)) 0 3 λx2=>.ldC (aa.int .i64) 10 x2 0<|.cs (decide (x2<0)) (.k5 1<|.kn [0]<|.rt false)<|.k2 1<|.idA (aa.int .i64) (A3.list E0) v3 (bx ((cA3 (cI .i64)) E0)) 0 3 λx5=>.kg 1<|.ldC (aa.int .i64) 15 x5 1<|.k2 1<|.br (decide (x5>1000000)) (.rt false)<|.g0 (.L0 E0 (IntKind.wrap .i64 (v3+1))))<|.rt true
def Ij(a0:A3 Int):LT Z25 Bool:=
.lb 1001<|.go (.L0 a0 0) [.relab 1001 3000]
def yZ:LF Z25 Bool :=.m0 131 [.t 2] wB λ|.L0 E0 v3=>([1,0,1,4],⟨18,[(1,.bptr 3000 0),(3,wI v3)],[(3000,.box (bx ((cA3 (cI .i64)) E0)))]⟩,Ii E0 v3)
def Ik:=λa0=>yZ.run (Ij a0)
def Zi(a0){r}(h:Ik a0=some r):Fn PR 131 [wA ((cA3 (cI .i64)) a0)] (wB r):=yZ.fn h
def Il(a0:aj):LT Empty aj:=
.lb 1001<|.lb 1002<|.rt (⟨a0.Id,a0.Card,a0.Owner,a0.Control,a0.Zone,a0.Token,a0.Tapped,a0.Sick,a0.Deadly,a0.Damage,a0.Counters,a0.Stamp,a0.Copy,-1,false,0,a0.Shield⟩:aj)
def Im:LF Empty aj :=.z0 132 [.c 2 56 true 19] (λr=>(wA (aE r)))
def Io:=λa0=>Im.run (Il a0)
def Zj(a0){r}(h:Io a0=some r):Fn PR 132 [wA (aE a0)] (wA (aE r)):=Im.fn h
def Ip(a0:aj):LT Empty aj:=
.lb 1001<|.lb 1002<|.rt (⟨a0.Id,a0.Card,a0.Owner,a0.Control,a0.Zone,a0.Token,a0.Tapped,a0.Sick,false,0,a0.Counters,a0.Stamp,a0.Copy,a0.Attack,a0.Blocked,a0.Blocks,0⟩:aj)
def Iq:LF Empty aj :=.z0 133 [.c 2 56 true 19] (λr=>(wA (aE r)))
def Ir:=λa0=>Iq.run (Ip a0)
def Zk(a0){r}(h:Ir a0=some r):Fn PR 133 [wA (aE a0)] (wA (aE r)):=Iq.fn h
def Is(a0:aj)(a1:Int)(a2:Int):LT Empty Bool:=
.lb 1003<|.cs (decide (a0.Id<1)) (.k4 0<|.b16 true<|.b8 true<|.b5 true<|.b2 true<|.kn [0]<|.rt false)<|.k4 0<|.cs (decide (a0.Card<0)) (.k5 1<|.b16 true<|.b8 true<|.b2 true<|.kn [0]<|.rt false)<|.k5 1<|.cs (decide (a0.Card>=a1)) (.k4 2<|.b16 true<|.b5 true<|.kb true<|.kn [0]<|.rt false)<|.k4 2<|.cs (decide (a0.Owner<0)) (.k5 3<|.b16 true<|.kb true<|.kn [0]<|.rt false)<|.k5 3<|.cs (decide (a0.Owner>=a2)) (.k4 4<|.b8 true<|.b5 true<|.kn [0]<|.rt false)<|.k4 4<|.cs (decide (a0.Control<0)) (.k5 5<|.b8 true<|.kn [0]<|.rt false)<|.k5 5<|.cs (decide (a0.Control>=a2)) (.k4 6<|.b4 true<|.kn [0]<|.rt false)<|.k4 6<|.cs (decide (a0.Zone<0)) (.k4 7<|.kn [0]<|.rt false)<|.k4 7<|.br (decide (a0.Zone>5)) (.rt false)<|.cs (decide (a0.Damage<0)) (.k4 9<|.b16 true<|.b8 true<|.kn [0]<|.rt false)<|.k4 9<|.cs (decide (a0.Damage>1000000)) (.k4 10<|.b16 true<|.b4 true<|.kn [0]<|.rt false)<|.k4 10<|.cs (decide (a0.Stamp<0)) (.k4 11<|.b16 true<|.kn [0]<|.rt false)<|.k4 11<|.cs (decide (a0.Stamp>1000000)) (.k4 12<|.b8 true<|.b4 true<|.kn [0]<|.rt false)<|.k4 12<|.cs (decide (a0.Blocks<0)) (.k4 13<|.b8 true<|.kn [0]<|.rt false)<|.k4 13<|.cs (decide (a0.Blocks>1000000)) (.k4 14<|.b4 true<|.kn [0]<|.rt false)<|.k4 14<|.cs (decide (a0.Shield<0)) (.k4 15<|.kn [0]<|.rt false)<|.k4 15<|.br (decide (a0.Shield>1000000)) (.rt false)<|.call (Zi a0.Counters) λx18=>.cs (!x18) (.k4 17<|.b8 true<|.b5 true<|.kb true<|.kn [0]<|.rt false)<|.k4 17<|.cs (decide (a0.Copy<(-1))) (.k5 18<|.b8 true<|.kb true<|.kn [0]<|.rt false)<|.k5 18<|.cs (decide (a0.Copy>=a1)) (.k4 19<|.b5 true<|.kn [0]<|.rt false)<|.k4 19<|.cs (decide (a0.Attack<(-1))) (.k5 20<|.kn [0]<|.rt false)<|.k5 20<|.br (decide (a0.Attack>=a2)) (.rt false)<|.cs (a0.Zone==0) (.k8 22<|.k5 22<|.rt true)<|.k3 22<|.call (Zj a0) λx26=>.k2 22<|.cs (aF (aE a0) (aE x26)) (.k3 23<|.call (Zk a0) λx29=>.kg 23<|.kg 22<|.kg 23<|.kg 22<|.cs (aF (aE a0) (aE x29)) (.k3 24<|.kg 22<|.kg 24<|.kg 22<|.cs (!a0.Tapped) (.k3 25<|.kg 22<|.kg 25<|.kg 22<|.cs (!a0.Sick) (.k4 26<|.kg 22<|.kg 26<|.kg 22<|.rt (aF ((cA3 (cI .i64)) a0.Counters) ((cA3 (cI .i64)) (⟨0,0,0⟩:A3 Int))))<|.k4 26<|.kg 22<|.kg 26<|.kg 22<|.rt false)<|.k3 25<|.kg 22<|.kg 25<|.kg 22<|.b4 false<|.kg 22<|.kb false<|.kg 22<|.rt false)<|.k3 24<|.kg 22<|.kg 24<|.kg 22<|.b3 false<|.kg 22<|.kb false<|.kg 22<|.b4 false<|.kg 22<|.kb false<|.kg 22<|.rt false)<|.k4 23<|.kg 22<|.kg 23<|.kg 22<|.b3 false<|.kg 22<|.kb false<|.kg 22<|.b3 false<|.kg 22<|.kb false<|.kg 22<|.b4 false<|.kg 22<|.kb false<|.kg 22<|.rt false
def It:LF Empty Bool :=.z0 83 [.t 6] wB
def Iu:=λa0 a1 a2=>It.run (Is a0 a1 a2)
def Zl(a0)(a1)(a2){r}(h:Iu a0 a1 a2=some r):Fn PR 83 [wA (aE a0),wI a1,wI a2] (wB r):=It.fn h
inductive qp where
 |L0 (v1:Int) (E0:ao) (v5:Int) (v6:Int)
def Iv(v1:Int)(E0:ao)(v5:Int)(v6:Int):LT qp Int:=
.len cU E0.Stack<|.br (decide (v6<(E0.Stack.length:Int))) (.idx cU E0.Stack v6 λx3=>.cs (x3.Kind==1) (.k4 1<|.ag cU x3 0<|.k5 1<|.br (x3.Id==v1) (.g0 (.L0 v1 E0 (IntKind.wrap .i64 (v5+1)) (IntKind.wrap .i64 (v6+1))))<|.g0 (.L0 v1 E0 v5 (IntKind.wrap .i64 (v6+1))))<|.k8 1<|.kg 1<|.kn [0]<|.g0 (.L0 v1 E0 v5 (IntKind.wrap .i64 (v6+1))))<|.rt v5
def Iw(a0:ao)(a1:Int):LT qp Int:=
.lb 1002<|.go (.L0 a1 a0 0 0) [.relab 1002 3000]
def Z26:LF qp Int :=.m0 134 [.t 4] wI λ|.L0 v1 E0 v5 v6=>([1,1,0,1,4],⟨34,[(1,wI v1),(2,.bptr 3000 0),(5,wI v5),(6,wI v6)],[(3000,.box (bx (Z1 E0)))]⟩,Iv v1 E0 v5 v6)
def Ix:=λa0 a1=>Z26.run (Iw a0 a1)
def Zm(a0)(a1){r}(h:Ix a0 a1=some r):Fn PR 134 [wA (Z1 a0),wI a1] (wI r):=Z26.fn h
def Iy(a0:List Int):LT Empty (List Int):=
.lb 1003<|.apR (cI .i64) 8 ([]:List Int) a0 λx1=>.ret x1 [.relab 1003 5000]
def Iz:LF Empty (List Int) :=.z 182 [.t 2] true (λr=>[(5000,wR (cI .i64) 1 r)]) (λr=>(wO (cI .i64) 5000 r))
def IA:=λa0=>Iz.run (Iy a0)
def qq(a0){r}(h:IA a0=some r):FnG PR 182 [] [wL (cI .i64) a0] [(5000,wR (cI .i64) 1 r)] (wO (cI .i64) 5000 r):=Iz.fn h
def IB(a0:ao)(a1:Int)(a2:Int):LT Empty (List Int):=
.lb 1003<|.br (a1==0) (.callF (qq a0.Battlefield) 130000 λx2=>.ret x2 [.relab 135000 5000])<|.br (a1==4) (.callF (qq a0.Exile) 180000 λx5=>.ret x5 [.relab 185000 5000])<|.cs (decide (a2<0)) (.k5 2<|.kg 2<|.kn [0]<|.ret ([]:List Int) [.own 6 5000 1])<|.k4 2<|.len cY a0.Players<|.k2 2<|.br (decide (a2>=(a0.Players.length:Int))) (.ret ([]:List Int) [.own 6 5000 1])<|.br (a1==1) (.idx cY a0.Players a2 λx11=>.callF (qq x11.Hand) 370000 λx13=>.ret x13 [.relab 375000 5000])<|.br (a1==2) (.idx cY a0.Players a2 λx16=>.callF (qq x16.Library) 460000 λx18=>.ret x18 [.relab 465000 5000])<|.br (a1==3) (.idx cY a0.Players a2 λx21=>.callF (qq x21.Graveyard) 550000 λx23=>.ret x23 [.relab 555000 5000])<|.ret ([]:List Int) [.own 6 5000 1]
def IC:LF Empty (List Int) :=.z 135 [.t 6] true (λr=>[(5000,wR (cI .i64) 1 r)]) (λr=>(wO (cI .i64) 5000 r))
def za:=λa0 a1 a2=>IC.run (IB a0 a1 a2)
def Zn(a0)(a1)(a2){r}(h:za a0 a1 a2=some r):FnG PR 135 [] [wA (Z1 a0),wI a1,wI a2] [(5000,wR (cI .i64) 1 r)] (wO (cI .i64) 5000 r):=IC.fn h
def Zo(a0:ao)(a1:Int)(a2:Int){r:List Int}(h:za a0 a1 a2=some r):Fn PR 135 [wA (Z1 a0),wI a1,wI a2] (wL (cI .i64) r):=FnG.frozen (C:=LT.RL (cI .i64) r/\True) (Zn a0 a1 a2 h) ⟨rfl,ab⟩ bp
def ID(a0:ao)(a1:aj):LT Empty Bool:=
.lb 1002<|.lb 1003<|.br (a1.Zone==5) (.call (Zm a0 a1.Id) λx2=>.rt (x2==1))<|.call (Zo a0 a1.Zone a1.Owner) λx4=>.call (Z24 x4 a1.Id) λx6=>.rt (x6==1)
def IE:LF Empty Bool :=.z0 84 [.t 4] wB
def IF:=λa0 a1=>IE.run (ID a0 a1)
def IG(a0)(a1){r}(h:IF a0 a1=some r):Fn PR 84 [wA (Z1 a0),wA (aE a1)] (wB r):=IE.fn h
inductive qt where
 |L0 (v0:List an) (E0:ao) (v5:Int)
def Z9v(v0:List an)(E0:ao)(v5:Int):LT qt Bool:=
.len aE E0.Objects<|.br (decide (v5<(E0.Objects.length:Int))) (.idx aE E0.Objects v5 λx3=>.lb 1006<|.len bf v0<|.len cY E0.Players<|.call (Zl x3 (v0.length:Int) (E0.Players.length:Int)) λx7=>.cs (!x7) (.k5 1<|.kg 1<|.b8 true<|.b3 true<|.kn [0]<|.rt false)<|.k5 1<|.kg 1<|.cs (decide (x3.Id>=E0.NextId)) (.k5 2<|.kg 2<|.b5 true<|.kn [0]<|.rt false)<|.k5 2<|.kg 2<|.cs (decide (x3.Stamp>=E0.NextStamp)) (.k5 3<|.kn [0]<|.rt false)<|.k3 3<|.cs (decide (v5>0)) (.k5 4<|.idx aE E0.Objects (IntKind.wrap .i64 (v5-1)) λx15=>.k5 4<|.kg 3<|.kg 4<|.kg 3<|.br (decide (x15.Id>=x3.Id)) (.rt false)<|.call (IG E0 x3) λx18=>.br (!x18) (.rt false)<|.g0 (.L0 v0 E0 (IntKind.wrap .i64 (v5+1))))<|.k8 4<|.k2 4<|.kg 3<|.kg 4<|.kg 3<|.kn [0]<|.call (IG E0 x3) λx23=>.br (!x23) (.rt false)<|.g0 (.L0 v0 E0 (IntKind.wrap .i64 (v5+1))))<|.rt true
def II(a0:List an)(a1:ao):LT qt Bool:=
.lb 1003<|.len aE a1.Objects<|.br (decide ((a1.Objects.length:Int)>2048)) (.rt false)<|.go (.L0 a0 a1 0) [.relab 1003 3000]
def zd:LF qt Bool :=.m0 49 [.t 4] wB λ|.L0 v0 E0 v5=>([1,1,0,1,4],⟨65,[(0,wL bf v0),(3,.bptr 3000 0),(5,wI v5)],[(3000,.box (bx (Z1 E0)))]⟩,Z9v v0 E0 v5)
def IJ:=λa0 a1=>zd.run (II a0 a1)
def uy(a0)(a1){r}(h:IJ a0 a1=some r):Fn PR 49 [wL bf a0,wA (Z1 a1)] (wB r):=zd.fn h
inductive qu where
 |L0 (v0:List af) (v1:List af) (v5:Int)
def Z5v(v0:List af)(v1:List af)(v5:Int):LT qu Bool:=
.len ay v0<|.br (decide (v5<(v0.length:Int))) (.idx ay v0 v5 λx3=>.idx ay v1 v5 λx5=>.br (!(aF (ay x3) (ay x5))) (.rt false)<|.g0 (.L0 v0 v1 (IntKind.wrap .i64 (v5+1))))<|.rt true
def Z9w(a0:List af)(a1:List af):LT qu Bool:=
.len ay a0<|.len ay a1<|.br ((a0.length:Int) != (a1.length:Int)) (.rt false)<|.g0 (.L0 a0 a1 0)
def ze:LF qu Bool :=.m0 183 [.t 4] wB λ|.L0 v0 v1 v5=>([1,1,0,1,4],⟨26,[(0,wL ay v0),(1,wL ay v1),(5,wI v5)],[]⟩,Z5v v0 v1 v5)
def IK:=λa0 a1=>ze.run (Z9w a0 a1)
def Z5w(a0)(a1){r}(h:IK a0 a1=some r):Fn PR 183 [wL ay a0,wL ay a1] (wB r):=ze.fn h
def IL(a0:aZ)(a1:aZ):LT Empty Bool:=
.lb 1002<|.lb 1003<|.cs (a0.Op==a1.Op) (.k5 0<|.kg 0<|.cs (aF (hJ a0.Ref) (hJ a1.Ref)) (.k5 1<|.kg 1<|.cs (aF (dL a0.Amount) (dL a1.Amount)) (.k5 2<|.kg 2<|.cs (a0.Counter==a1.Counter) (.k5 3<|.kg 3<|.cs (a0.Zone==a1.Zone) (.k5 4<|.kg 4<|.cs (a0.Card==a1.Card) (.k5 5<|.kg 5<|.cs (aF (aX a0.Filter) (aX a1.Filter)) (.k5 6<|.kg 6<|.cs (aF ((cA6 (cI .i64)) a0.Pool) ((cA6 (cI .i64)) a1.Pool)) (.k5 7<|.call (Z5w a0.Mods a1.Mods) λx9=>.kg 7<|.rt x9)<|.k5 7<|.kg 7<|.rt false)<|.k5 6<|.kg 6<|.b5 false<|.kb false<|.rt false)<|.k5 5<|.kg 5<|.b8 false<|.b4 false<|.rt false)<|.k5 4<|.kg 4<|.b16 false<|.b2 false<|.rt false)<|.k5 3<|.kg 3<|.b16 false<|.b8 false<|.rt false)<|.k5 2<|.kg 2<|.b16 false<|.b8 false<|.b5 false<|.kb false<|.rt false)<|.k5 1<|.kg 1<|.b16 false<|.b16 false<|.b4 false<|.rt false)<|.k5 0<|.kg 0<|.b16 false<|.b16 false<|.b8 false<|.b2 false<|.rt false
def IM:LF Empty Bool :=.z0 230 [.t 4] wB
def IN:=λa0 a1=>IM.run (IL a0 a1)
def Zp(a0)(a1){r}(h:IN a0 a1=some r):Fn PR 230 [wA (bj a0),wA (bj a1)] (wB r):=IM.fn h
inductive qv where
 |L0 (v0:List aZ) (v1:List aZ) (v5:Int)
def Z5x(v0:List aZ)(v1:List aZ)(v5:Int):LT qv Bool:=
.len bj v0<|.br (decide (v5<(v0.length:Int))) (.idx bj v0 v5 λx3=>.idx bj v1 v5 λx5=>.call (Zp x3 x5) λx7=>.br (!x7) (.rt false)<|.g0 (.L0 v0 v1 (IntKind.wrap .i64 (v5+1))))<|.rt true
def Z9x(a0:List aZ)(a1:List aZ):LT qv Bool:=
.len bj a0<|.len bj a1<|.br ((a0.length:Int) != (a1.length:Int)) (.rt false)<|.g0 (.L0 a0 a1 0)
def zf:LF qv Bool :=.m0 184 [.t 4] wB λ|.L0 v0 v1 v5=>([1,1,0,1,4],⟨27,[(0,wL bj v0),(1,wL bj v1),(5,wI v5)],[]⟩,Z5x v0 v1 v5)
def IP:=λa0 a1=>zf.run (Z9x a0 a1)
def Zq(a0)(a1){r}(h:IP a0 a1=some r):Fn PR 184 [wL bj a0,wL bj a1] (wB r):=zf.fn h
inductive qx where
 |L0 (E0:ar) (E1:ar) (v5:Int)
def IQ(E0:ar)(E1:ar)(v5:Int):LT qx Bool:=
.len cn E0.Specs<|.br (decide (v5<(E0.Specs.length:Int))) (.idx cn E0.Specs v5 λx3=>.idx cn E1.Specs v5 λx5=>.br (!(aF (cn x3) (cn x5))) (.rt false)<|.g0 (.L0 E0 E1 (IntKind.wrap .i64 (v5+1))))<|.cs (E0.Kind==E1.Kind) (.k5 1<|.kg 1<|.cs (aF (aX E0.Filter) (aX E1.Filter)) (.k5 2<|.call (Z5w E0.Mods E1.Mods) λx12=>.kg 2<|.cs x12 (.k5 3<|.kg 3<|.cs (aF (jW E0.Price) (jW E1.Price)) (.k5 4<|.kg 4<|.cs (E0.Slow==E1.Slow) (.k5 5<|.kg 5<|.cs (aF (jz E0.Trigger) (jz E1.Trigger)) (.k5 6<|.kg 6<|.cs (E0.May==E1.May) (.k5 7<|.call (Zq E0.Effects E1.Effects) λx19=>.kg 7<|.cs x19 (.k5 8<|.kg 8<|.rt (aF (gB E0.Replace) (gB E1.Replace)))<|.k5 8<|.kg 8<|.rt false)<|.k5 7<|.kg 7<|.b5 false<|.kb false<|.rt false)<|.k5 6<|.kg 6<|.b8 false<|.b4 false<|.rt false)<|.k5 5<|.kg 5<|.b16 false<|.b2 false<|.rt false)<|.k5 4<|.kg 4<|.b16 false<|.b8 false<|.rt false)<|.k5 3<|.kg 3<|.b16 false<|.b8 false<|.b5 false<|.kb false<|.rt false)<|.k5 2<|.kg 2<|.b16 false<|.b16 false<|.b4 false<|.rt false)<|.k5 1<|.kg 1<|.b16 false<|.b16 false<|.b8 false<|.b2 false<|.rt false
def IR(a0:ar)(a1:ar):LT qx Bool:=
.lb 1002<|.lb 1003<|.len cn a0.Specs<|.len cn a1.Specs<|.br ((a0.Specs.length:Int) != (a1.Specs.length:Int)) (.rt false)<|.go (.L0 a0 a1 0) [.relab 1002 3000,.relab 1003 3001]
def zg:LF qx Bool :=.m0 136 [.t 4] wB λ|.L0 E0 E1 v5=>([1,1,0,1,4],⟨92,[(2,.bptr 3000 0),(3,.bptr 3001 0),(5,wI v5)],[(3000,.box (bx (aC E0))),(3001,.box (bx (aC E1)))]⟩,IQ E0 E1 v5)
def IS:=λa0 a1=>zg.run (IR a0 a1)
def Zr(a0)(a1){r}(h:IS a0 a1=some r):Fn PR 136 [wA (aC a0),wA (aC a1)] (wB r):=zg.fn h
def IT(a0:ao)(a1:gE):LT Empty Bool:=
.lb 1002<|.lb 1003<|.call (gC a1.Id 1 (IntKind.wrap .i64 (a0.NextId-1))) λx3=>.cs (!x3) (.k5 0<|.b8 true<|.b3 true<|.kn [0]<|.rt false)<|.k3 0<|.call (gC a1.X 0 1000000) λx6=>.k2 0<|.cs (!x6) (.k5 1<|.b5 true<|.kb true<|.kn [0]<|.rt false)<|.k3 1<|.len qy a1.Targets<|.k2 1<|.cs (decide ((a1.Targets.length:Int)>4)) (.k5 2<|.kg 2<|.kn [0]<|.rt false)<|.k4 2<|.call (lQ a0 a1.Control) λx11=>.k2 2<|.br (!x11) (.rt false)<|.call (H5 a0 a1.Id) λx14=>.lb 1005<|.br (a1.Kind==1) (.call (Zr a1.Ability (⟨0,(⟨0,0,0,0,0,0,0,([]:By),0,0,(⟨0,0⟩:ah),(⟨0,0⟩:ah),(⟨0,0⟩:ah)⟩:al),([]:List af),(⟨(⟨0,0,(⟨0,0,0,0,0⟩:A5 Int)⟩:aK),false,false,0⟩:iY),false,(⟨0,0,(⟨0,0,0,0,0,0,0,([]:By),0,0,(⟨0,0⟩:ah),(⟨0,0⟩:ah),(⟨0,0⟩:ah)⟩:al)⟩:fN),false,([]:List ck),([]:List aZ),(⟨0,0,(⟨0,0,0,0,0,0,0,([]:By),0,0,(⟨0,0⟩:ah),(⟨0,0⟩:ah),(⟨0,0⟩:ah)⟩:al),0,0,0,0⟩:dx)⟩:ar)) λx17=>.cs (a1.Source==a1.Id) (.k2 5<|.cs x14.2 (.k4 6<|.cs (x14.1.Zone==5) (.k2 7<|.cs x17 (.k3 8<|.kg 7<|.kg 8<|.kg 7<|.rt true)<|.k3 8<|.call (Z5u a1.Ability) λx23=>.kg 7<|.kg 8<|.kg 7<|.rt x23)<|.k4 7<|.rt false)<|.k4 6<|.b4 false<|.rt false)<|.k2 5<|.b8 false<|.rt false)<|.cs (a1.Kind==2) (.k3 5<|.cs (!x14.2) (.k3 6<|.call (Z5u a1.Ability) λx27=>.kg 6<|.rt x27)<|.k4 6<|.rt false)<|.k3 5<|.b4 false<|.rt false
def IU:LF Empty Bool :=.z0 85 [.t 4] wB
def IV:=λa0 a1=>IU.run (IT a0 a1)
def Zs(a0)(a1){r}(h:IV a0 a1=some r):Fn PR 85 [wA (Z1 a0),wA (cU a1)] (wB r):=IU.fn h
inductive Z27 where
 |L0 (v0:List Int) (v3:Int)
def IW(v0:List Int)(v3:Int):LT Z27 Bool:=
.len (cI .i64) v0<|.br (decide (v3<(v0.length:Int))) (.idx (cI .i64) v0 (IntKind.wrap .i64 (v3-1)) λx5=>.idx (cI .i64) v0 v3 λx7=>.br (decide (x5>=x7)) (.rt false)<|.g0 (.L0 v0 (IntKind.wrap .i64 (v3+1))))<|.rt true
def IX(a0:List Int):LT Z27 Bool:=
.g0 (.L0 a0 1)
def zh:LF Z27 Bool :=.m0 86 [.t 2] wB λ|.L0 v0 v3=>([1,0,1,4],⟨20,[(0,wL (cI .i64) v0),(3,wI v3)],[]⟩,IW v0 v3)
def IY:=λa0=>zh.run (IX a0)
def Zt(a0){r}(h:IY a0=some r):Fn PR 86 [wL (cI .i64) a0] (wB r):=zh.fn h
inductive kJ where
 |L0 (E0:ao) (v3:Int)
 |L1 (E0:ao) (v3:Int) (v4:Int)
 |L2 (E0:ao) (v5:Int)
 |L3 (E0:ao) (v7:Int)
def IZ(E0:ao)(v3:Int):LT kJ Bool:=
.len cU E0.Stack<|.br (decide (v3<(E0.Stack.length:Int))) (.idx cU E0.Stack v3 λx3=>.call (Zs E0 x3) λx5=>.br (!x5) (.rt false)<|.g0 (.L1 E0 v3 0))<|.g0 (.L2 E0 0)
def I0(E0:ao)(v3:Int)(v4:Int):LT kJ Bool:=
.br (decide (v4<v3)) (.idx cU E0.Stack v4 λx2=>.idx cU E0.Stack v3 λx4=>.br (x2.Id==x4.Id) (.rt false)<|.g0 (.L1 E0 v3 (IntKind.wrap .i64 (v4+1))))<|.g0 (.L0 E0 (IntKind.wrap .i64 (v3+1)))
def I1(E0:ao)(v5:Int):LT kJ Bool:=
.len dC E0.Waiting<|.br (decide (v5<(E0.Waiting.length:Int))) (.idx dC E0.Waiting v5 λx3=>.lb 1006<|.call (lQ E0 x3.Control) λx5=>.cs (!x5) (.k5 1<|.b5 true<|.kn [0]<|.rt false)<|.k5 1<|.cs (x3.Ability.Kind != 4) (.k5 2<|.kn [0]<|.rt false)<|.k3 2<|.call (Z5u x3.Ability) λx9=>.k2 2<|.br (!x9) (.rt false)<|.g0 (.L2 E0 (IntKind.wrap .i64 (v5+1))))<|.g0 (.L3 E0 0)
def I2(E0:ao)(v7:Int):LT kJ Bool:=
.len cZ E0.Conts<|.br (decide (v7<(E0.Conts.length:Int))) (.idx cZ E0.Conts v7 λx3=>.lb 1008<|.call (lQ E0 x3.Control) λx5=>.cs (!x5) (.k5 1<|.kg 1<|.b8 true<|.b5 true<|.b2 true<|.kn [0]<|.rt false)<|.k5 1<|.kg 1<|.cs (decide (x3.Stamp>=E0.NextStamp)) (.k5 2<|.b8 true<|.b2 true<|.kn [0]<|.rt false)<|.k3 2<|.call (gC x3.Until 1 2) λx9=>.k2 2<|.cs (!x9) (.k5 3<|.b5 true<|.kn [0]<|.rt false)<|.k3 3<|.call (Zt x3.Objects) λx12=>.k2 3<|.cs (!x12) (.k5 4<|.kn [0]<|.rt false)<|.k3 4<|.call (yQ x3.Mods) λx15=>.k2 4<|.br (x15==([]:By)) (.rt false)<|.g0 (.L3 E0 (IntKind.wrap .i64 (v7+1))))<|.rt true
def I3(a0:ao):LT kJ Bool:=
.lb 1001<|.len cU a0.Stack<|.cs (decide ((a0.Stack.length:Int)>64)) (.k5 0<|.b5 true<|.kn [0]<|.rt false)<|.k3 0<|.len dC a0.Waiting<|.k2 0<|.cs (decide ((a0.Waiting.length:Int)>64)) (.k5 1<|.kn [0]<|.rt false)<|.k3 1<|.len cZ a0.Conts<|.k2 1<|.br (decide ((a0.Conts.length:Int)>64)) (.rt false)<|.go (.L0 a0 0) [.relab 1001 3000]
def nJ:LF kJ Bool :=.m0 50 [.t 2] wB λ|.L0 E0 v3=>([1,1,0,1,4],⟨129,[(1,.bptr 3000 0),(3,wI v3)],[(3000,.box (bx (Z1 E0)))]⟩,IZ E0 v3)|.L1 E0 v3 v4=>([1,1,0,1,4,5,1,0,4,1,1,4],⟨129,[(1,.bptr 3000 0),(3,wI v3),(4,wI v4)],[(3000,.box (bx (Z1 E0)))]⟩,I0 E0 v3 v4)|.L2 E0 v5=>([1,1,1,0,1,4],⟨129,[(1,.bptr 3000 0),(5,wI v5)],[(3000,.box (bx (Z1 E0)))]⟩,I1 E0 v5)|.L3 E0 v7=>([1,1,1,1,0,1,4],⟨129,[(1,.bptr 3000 0),(7,wI v7)],[(3000,.box (bx (Z1 E0)))]⟩,I2 E0 v7)
def I4:=λa0=>nJ.run (I3 a0)
def uz(a0){r}(h:I4 a0=some r):Fn PR 50 [wA (Z1 a0)] (wB r):=nJ.fn h
inductive Z28 where
 |L0 (v0:List an) (E0:ao) (v5:Int)
def I5(v0:List an)(E0:ao)(v5:Int):LT Z28 Bool:=
.len (cI .i64) E0.Extra<|.br (decide (v5<(E0.Extra.length:Int))) (.idx (cI .i64) E0.Extra v5 λx3=>.call (lQ E0 x3) λx5=>.br (!x5) (.rt false)<|.g0 (.L0 v0 E0 (IntKind.wrap .i64 (v5+1))))<|.cs (E0.Over==1) (.k4 1<|.call (lQ E0 E0.Winner) λx11=>.k2 1<|.cs (!x11) (.k5 2<|.kg 2<|.kn [0]<|.rt false)<|.k4 2<|.cs (E0.Over != 1) (.k3 3<|.kg 2<|.kg 3<|.kg 2<|.br (E0.Winner != (-1)) (.rt false)<|.call (uy v0 E0) λx16=>.cs x16 (.k2 5<|.call (uz E0) λx19=>.kg 5<|.rt x19)<|.k3 5<|.rt false)<|.k3 3<|.kg 2<|.kg 3<|.kg 2<|.kn [0]<|.call (uy v0 E0) λx21=>.cs x21 (.k2 4<|.call (uz E0) λx24=>.kg 4<|.rt x24)<|.k3 4<|.rt false)<|.k5 1<|.kg 1<|.b4 false<|.cs (E0.Over != 1) (.k3 2<|.kb false<|.kg 2<|.kb false<|.br (E0.Winner != (-1)) (.rt false)<|.call (uy v0 E0) λx28=>.cs x28 (.k2 4<|.call (uz E0) λx31=>.kg 4<|.rt x31)<|.k3 4<|.rt false)<|.k3 2<|.kb false<|.kg 2<|.kb false<|.kn [0]<|.call (uy v0 E0) λx33=>.cs x33 (.k2 3<|.call (uz E0) λx36=>.kg 3<|.rt x36)<|.k3 3<|.rt false
def I6(a0:List an)(a1:ao):LT Z28 Bool:=
.lb 1003<|.call (gC a1.NextId 1 1000000) λx1=>.cs (!x1) (.k5 0<|.b8 true<|.b5 true<|.b2 true<|.kn [0]<|.rt false)<|.k3 0<|.call (gC a1.NextStamp 1 1000000) λx4=>.k2 0<|.cs (!x4) (.k5 1<|.b8 true<|.b2 true<|.kn [0]<|.rt false)<|.k3 1<|.call (gC a1.Turn 0 500) λx7=>.k2 1<|.cs (!x7) (.k5 2<|.b5 true<|.kn [0]<|.rt false)<|.k3 2<|.call (gC a1.Step 0 10) λx10=>.k2 2<|.cs (!x10) (.k5 3<|.kn [0]<|.rt false)<|.k3 3<|.len aE a1.Objects<|.k2 3<|.br (decide ((a1.Objects.length:Int)>2048)) (.rt false)<|.call (Zh a1) λx15=>.cs (!x15) (.k5 5<|.kg 5<|.b16 true<|.b8 true<|.kn [0]<|.rt false)<|.k4 5<|.call (lQ a1 a1.Active) λx18=>.k2 5<|.cs (!x18) (.k5 6<|.kg 6<|.b16 true<|.b2 true<|.kn [0]<|.rt false)<|.k4 6<|.call (lQ a1 a1.Priority) λx21=>.k2 6<|.cs (!x21) (.k8 7<|.b8 true<|.b2 true<|.kn [0]<|.rt false)<|.k5 7<|.len cY a1.Players<|.kg 7<|.call (gC a1.Passes 0 (a1.Players.length:Int)) λx25=>.k2 7<|.cs (!x25) (.k5 8<|.b5 true<|.kn [0]<|.rt false)<|.k3 8<|.len (cI .i64) a1.Extra<|.k2 8<|.cs (decide ((a1.Extra.length:Int)>500)) (.k5 9<|.kn [0]<|.rt false)<|.k3 9<|.call (gC a1.Over 0 2) λx30=>.k2 9<|.br (!x30) (.rt false)<|.go (.L0 a0 a1 0) [.relab 1003 3000]
def zj:LF Z28 Bool :=.m0 29 [.t 4] wB λ|.L0 v0 E0 v5=>([1,1,1,0,1,4],⟨114,[(0,wL bf v0),(3,.bptr 3000 0),(5,wI v5)],[(3000,.box (bx (Z1 E0)))]⟩,I5 v0 E0 v5)
def I7:=λa0 a1=>zj.run (I6 a0 a1)
def Zu(a0)(a1){r}(h:I7 a0 a1=some r):Fn PR 29 [wL bf a0,wA (Z1 a1)] (wB r):=zj.fn h
def I8(a0:List an)(a1:ao):LT Empty Bool:=
.lb 1003<|.call (Zd a0) λx1=>.cs (x1.2==0) (.k3 0<|.call (Zu a0 a1) λx4=>.kg 0<|.rt x4)<|.k4 0<|.rt false
def I9:LF Empty Bool :=.z0 10 [.t 4] wB
def Ja:=λa0 a1=>I9.run (I8 a0 a1)
def Zv(a0)(a1){r}(h:Ja a0 a1=some r):Fn PR 10 [wL bf a0,wA (Z1 a1)] (wB r):=I9.fn h
inductive Z7y where
 |L0 (v0:List aj) (E0:ao) (E1:ao) (v4:Int)
def Zw(v0:List aj)(E0:ao)(E1:ao)(v4:Int):LT Z7y ao:=
.len aE v0<|.br (decide (v4<(v0.length:Int))) (.idx aE v0 v4 λx3=>.lb 1005<|.dr [.lit]<|.apR aE 128 E1.Objects [(⟨IntKind.wrap .i64 (v4+1),x3.Card,x3.Owner,x3.Control,x3.Zone,x3.Token,x3.Tapped,x3.Sick,x3.Deadly,x3.Damage,x3.Counters,IntKind.wrap .i64 (v4+1),-1,-1,x3.Blocked,x3.Blocks,x3.Shield⟩:aj)] λx7=>.dr [.lit]<|.apR (cI .i64) 8 E1.Battlefield [IntKind.wrap .i64 (v4+1)] λx10=>.g0 (.L0 v0 E0 (⟨E1.Players,x7,x10,E1.Exile,E1.Stack,E1.Waiting,E1.Conts,E1.Turn,E1.Active,E1.Step,E1.Begun,E1.Priority,E1.Passes,E1.NextId,E1.NextStamp,E1.Seed,E1.Extra,E1.Over,E1.Winner⟩:ao) (IntKind.wrap .i64 (v4+1))))<|.ret E1 [.relab 40101 5001,.relab 40102 5002,.relab 40103 5003,.relab 40104 5004,.relab 40105 5005,.relab 40106 5006,.relab 40116 5016]
def Zx(a0:List aj):LT Z7y ao:=
.lb 1002<|.dr [.lit]<|.len aE a0<|.len aE a0<|.lb 1003<|.go (.L0 a0 (⟨([]:List hP),([]:List aj),([]:List Int),([]:List Int),([]:List gE),([]:List iC),([]:List dn),0,0,0,false,0,0,0,0,0,([]:List Int),0,0⟩:ao) (⟨[(⟨20,0,0,(⟨0,0,0,0,0,0⟩:A6 Int),false,false,([]:List Int),([]:List Int),([]:List Int)⟩:hP),(⟨20,0,0,(⟨0,0,0,0,0,0⟩:A6 Int),false,false,([]:List Int),([]:List Int),([]:List Int)⟩:hP)],([]:List aj),([]:List Int),([]:List Int),([]:List gE),([]:List iC),([]:List dn),1,0,3,true,0,0,IntKind.wrap .i64 ((a0.length:Int)+1),IntKind.wrap .i64 ((a0.length:Int)+1),0,([]:List Int),0,-1⟩:ao) 0) [.relab 1002 3000,.relab 1003 3001,.ownb 3000 0 40000 14,.ownb 3000 1 40001 19,.ownb 3000 2 40002 1,.ownb 3000 3 40003 1,.ownb 3000 4 40004 94,.ownb 3000 5 40005 89,.ownb 3000 6 40006 6,.ownb 3000 16 40016 1,.ownb 3001 1 40101 19,.ownb 3001 2 40102 1,.ownb 3001 3 40103 1,.ownb 3001 4 40104 94,.ownb 3001 5 40105 89,.ownb 3001 6 40106 6,.ownb 3001 16 40116 1]
def Jb:LF Z7y ao :=.m 30 [.c 2 31 true 19] true (λr=>(tm16 r 5000)) (λr=>(.agg (tm9 r 5000))) λ|.L0 v0 E0 E1 v4=>([1,1,0,1,4],⟨48,[(0,wL aE v0),(2,.bptr 3000 0),(3,.bptr 3001 0),(4,wI v4)],((3000,.box [wO cY 40000 E0.Players,wO aE 40001 E0.Objects,wO (cI .i64) 40002 E0.Battlefield,wO (cI .i64) 40003 E0.Exile,wO cU 40004 E0.Stack,wO dC 40005 E0.Waiting,wO cZ 40006 E0.Conts,wI E0.Turn,wI E0.Active,wI E0.Step,wB E0.Begun,wI E0.Priority,wI E0.Passes,wI E0.NextId,wI E0.NextStamp,.t (.int .u64 E0.Seed),wO (cI .i64) 40016 E0.Extra,wI E0.Over,wI E0.Winner])::(40000,wR cY 14 E0.Players)::(40001,wR aE 19 E0.Objects)::(40002,wR (cI .i64) 1 E0.Battlefield)::(40003,wR (cI .i64) 1 E0.Exile)::(40004,wR cU 94 E0.Stack)::(40005,wR dC 89 E0.Waiting)::(40006,wR cZ 6 E0.Conts)::(40016,wR (cI .i64) 1 E0.Extra)::(3001,.box (tm9 E1 40100))::(tm16 E1 40100))⟩,Zw v0 E0 E1 v4)
def Jc:=λa0=>Jb.run (Zx a0)
def Zy(a0){r}(h:Jc a0=some r):FnG PR 30 [] [wL aE a0] (tm16 r 5000) (.agg (tm9 r 5000)):=Jb.fn h
def Zz(a0:List aj){r:ao}(h:Jc a0=some r):Fn PR 30 [wL aE a0] (wA (Z1 r)):=FnG.frozen (C:=LT.RL aE r.Objects/\LT.RL (cI .i64) r.Battlefield/\LT.RL (cI .i64) r.Exile/\LT.RL cU r.Stack/\LT.RL dC r.Waiting/\LT.RL cZ r.Conts/\LT.RL (cI .i64) r.Extra/\True) (Zy a0 h) ⟨rfl,rfl,rfl,rfl,rfl,rfl,rfl,ab⟩ bp
inductive lR where
 |L0 (E0:aK) (v6:A5 Int) (v7:Int)
def nK(E0:aK)(v6:A5 Int)(v7:Int):LT lR Bool:=
.br (decide (v7<5)) (.idX (aa.int .i64) (A5.list v6) v7 λx2=>.cs (decide (x2<0)) (.k3 1<|.kn [0]<|.rt false)<|.k3 1<|.br (decide (x2>9)) (.rt false)<|.g0 (.L0 E0 v6 (IntKind.wrap .i64 (v7+1))))<|.cs (decide (E0.Generic>=0)) (.k4 1<|.cs (decide (E0.Generic<=99)) (.k4 2<|.cs (decide (E0.X>=0)) (.k4 3<|.rt (decide (E0.X<=2)))<|.k4 3<|.rt false)<|.k4 2<|.b4 false<|.rt false)<|.k4 1<|.b8 false<|.rt false
def zk(a0:aK):LT lR Bool:=
.lb 1001<|.go (.L0 a0 a0.Color 0) [.relab 1001 3000]
def nL:LF lR Bool :=.m0 139 [.t 2] wB λ|.L0 E0 v6 v7=>([1,0,1,4],⟨35,[(1,.bptr 3000 0),(6,wA ((cA5 (cI .i64)) v6)),(7,wI v7)],[(3000,.box (bx (cu E0)))]⟩,nK E0 v6 v7)
def uA:=λa0=>nL.run (zk a0)
def Jd(a0){r}(h:uA a0=some r):Fn PR 139 [wA (cu a0)] (wB r):=nL.fn h
inductive qz where
 |L0 (v3:Int) (v16:A5 Int) (v17:Int)
def Z9y(v3:Int)(v16:A5 Int)(v17:Int):LT qz Int:=
.br (decide (v17<5)) (.idX (aa.int .i64) (A5.list v16) v17 λx2=>.br (decide (x2>0)) (.ok (¬v17<0)<|.g0 (.L0 (aQ .or .i64 v3 (Z2p .i64 1 v17)) v16 (IntKind.wrap .i64 (v17+1))))<|.g0 (.L0 v3 v16 (IntKind.wrap .i64 (v17+1))))<|.rt v3
def Je(a0:aK):LT qz Int:=
.lb 1001<|.call (Jd a0) λx1=>.cs (!x1) (.k5 0<|.kn [0]<|.rt 0)<|.k5 0<|.br (aF ((cA5 (cI .i64)) a0.Color) ((cA5 (cI .i64)) (⟨0,0,0,0,0⟩:A5 Int))) (.rt 0)<|.g0 (.L0 0 a0.Color 0)
def zl:LF qz Int :=.m0 88 [.t 2] wI λ|.L0 v3 v16 v17=>([1,1,1,0,1,4],⟨29,[(3,wI v3),(16,wA ((cA5 (cI .i64)) v16)),(17,wI v17)],[]⟩,Z9y v3 v16 v17)
def Jf:=λa0=>zl.run (Je a0)
def ZA(a0){r}(h:Jf a0=some r):Fn PR 88 [wA (cu a0)] (wI r):=zl.fn h
def zm(a0:Bys)(hne:a0≠[]):LT Empty (Bys):=
.ne cS hne<|.kn [0]<|.lb 1005<|.apR cS 16 ([]:Bys) a0 λx1=>.ret x1 [.relab 1005 5000]
def lS:LF Empty (Bys) :=.z 89 [.t 2] true (λr=>[(5000,wR cS 1 r)]) (λr=>(wO cS 5000 r))
def uB(c:Nat):LT Empty (Bys):=
.kn [0]<|.ret ([]:Bys) [.own 2 5000 1]
def ZC(c:Nat)(ad:Addr):LT Empty (Bys):=
.kn [0]<|.lb 1005<|.apR cS 16 ([]:Bys) ([]:Bys) λx1=>.ret x1 [.relab 1005 5000]
open Classical in
def uC(a0:Bys):Option (Bys):=if h:a0≠[]then lS.run (zm a0 h)else lS.run (uB 0)
def zn(a0:Bys){r:Bys}(h:uC a0=some r):FnG PR 89 [] [wL cS a0] [(5000,wR cS 1 r)] (wO cS 5000 r):=by
 by_cases hne:a0=[]
 .subst hne;have h0:lS.run (uB 0)=some r:=h;exact FnG.split0 (λe=>absurd rfl e) (λ_ a c=>by
   cases a with
   |none=>exact lS.fn (t:=uB c) h0
   |some ad=>exact lS.fn (t:=ZC c ad) h0)
 have h0:lS.run (zm a0 hne)=some r:=by unfold uC at h;rwa[iD hne]at h
 exact FnG.split0 (λ_=>lS.fn h0) (λe=>absurd (jY.1 e) hne)
def zo(a0:List af)(hne:a0≠[]):LT Empty (List af):=
.ne ay hne<|.kn [0]<|.lb 1005<|.apR ay 176 ([]:List af) a0 λx1=>.ret x1 [.relab 1005 5000]
def lT:LF Empty (List af) :=.z 32 [.t 2] true (λr=>[(5000,wR ay 20 r)]) (λr=>(wO ay 5000 r))
def uD(c:Nat):LT Empty (List af):=
.kn [0]<|.ret ([]:List af) [.own 2 5000 20]
def ZD(c:Nat)(ad:Addr):LT Empty (List af):=
.kn [0]<|.lb 1005<|.apR ay 176 ([]:List af) ([]:List af) λx1=>.ret x1 [.relab 1005 5000]
open Classical in
def qA(a0:List af):Option (List af):=if h:a0≠[]then lT.run (zo a0 h)else lT.run (uD 0)
def Jg(a0:List af){r:List af}(h:qA a0=some r):FnG PR 32 [] [wL ay a0] [(5000,wR ay 20 r)] (wO ay 5000 r):=by
 by_cases hne:a0=[]
 .subst hne;have h0:lT.run (uD 0)=some r:=h;exact FnG.split0 (λe=>absurd rfl e) (λ_ a c=>by
   cases a with
   |none=>exact lT.fn (t:=uD c) h0
   |some ad=>exact lT.fn (t:=ZD c ad) h0)
 have h0:lT.run (zo a0 hne)=some r:=by unfold qA at h;rwa[iD hne]at h
 exact FnG.split0 (λ_=>lT.fn h0) (λe=>absurd (jY.1 e) hne)
def qB(a0:List af){r:List af}(h:qA a0=some r):Fn PR 32 [wL ay a0] (wL ay r):=FnG.frozen (C:=LT.RL ay r/\True) (Jg a0 h) ⟨rfl,ab⟩ bp
def zp(a0:List ck)(hne:a0≠[]):LT Empty (List ck):=
.ne cn hne<|.kn [0]<|.lb 1005<|.apR cn 144 ([]:List ck) a0 λx1=>.ret x1 [.relab 1005 5000]
def lU:LF Empty (List ck) :=.z 140 [.t 2] true (λr=>[(5000,wR cn 18 r)]) (λr=>(wO cn 5000 r))
def uE(c:Nat):LT Empty (List ck):=
.kn [0]<|.ret ([]:List ck) [.own 2 5000 18]
def ZE(c:Nat)(ad:Addr):LT Empty (List ck):=
.kn [0]<|.lb 1005<|.apR cn 144 ([]:List ck) ([]:List ck) λx1=>.ret x1 [.relab 1005 5000]
open Classical in
def qC(a0:List ck):Option (List ck):=if h:a0≠[]then lU.run (zp a0 h)else lU.run (uE 0)
def Jh(a0:List ck){r:List ck}(h:qC a0=some r):FnG PR 140 [] [wL cn a0] [(5000,wR cn 18 r)] (wO cn 5000 r):=by
 by_cases hne:a0=[]
 .subst hne;have h0:lU.run (uE 0)=some r:=h;exact FnG.split0 (λe=>absurd rfl e) (λ_ a c=>by
   cases a with
   |none=>exact lU.fn (t:=uE c) h0
   |some ad=>exact lU.fn (t:=ZE c ad) h0)
 have h0:lU.run (zp a0 hne)=some r:=by unfold qC at h;rwa[iD hne]at h
 exact FnG.split0 (λ_=>lU.fn h0) (λe=>absurd (jY.1 e) hne)
def ZF(a0:List ck){r:List ck}(h:qC a0=some r):Fn PR 140 [wL cn a0] (wL cn r):=FnG.frozen (C:=LT.RL cn r/\True) (Jh a0 h) ⟨rfl,ab⟩ bp
def zq(a0:List aZ)(hne:a0≠[]):LT Empty (List aZ):=
.ne bj hne<|.kn [0]<|.lb 1005<|.apR bj 560 ([]:List aZ) a0 λx1=>.ret x1 [.relab 1005 5000]
def lV:LF Empty (List aZ) :=.z 141 [.t 2] true (λr=>[(5000,wR bj 64 r)]) (λr=>(wO bj 5000 r))
def uF(c:Nat):LT Empty (List aZ):=
.kn [0]<|.ret ([]:List aZ) [.own 2 5000 64]
def ZG(c:Nat)(ad:Addr):LT Empty (List aZ):=
.kn [0]<|.lb 1005<|.apR bj 560 ([]:List aZ) ([]:List aZ) λx1=>.ret x1 [.relab 1005 5000]
open Classical in
def uG(a0:List aZ):Option (List aZ):=if h:a0≠[]then lV.run (zq a0 h)else lV.run (uF 0)
def Ji(a0:List aZ){r:List aZ}(h:uG a0=some r):FnG PR 141 [] [wL bj a0] [(5000,wR bj 64 r)] (wO bj 5000 r):=by
 by_cases hne:a0=[]
 .subst hne;have h0:lV.run (uF 0)=some r:=h;exact FnG.split0 (λe=>absurd rfl e) (λ_ a c=>by
   cases a with
   |none=>exact lV.fn (t:=uF c) h0
   |some ad=>exact lV.fn (t:=ZG c ad) h0)
 have h0:lV.run (zq a0 hne)=some r:=by unfold uG at h;rwa[iD hne]at h
 exact FnG.split0 (λ_=>lV.fn h0) (λe=>absurd (jY.1 e) hne)
inductive qD where
 |L0 (E0:ar) (E1:ar) (v18:Int) (v19:Int)
def Jj(E0:ar)(E1:ar)(v18:Int)(v19:Int):LT qD ar:=
.br (decide (v19<v18)) (.idxR bj E0.Effects v19 λx2=>.rl bj E0.Effects<|.ldR bj E0.Effects x2 2<|.call (qB x2.Mods) λx4=>.plR bj E0.Effects v19 0<|.rl bj E0.Effects<|.setD bj E0.Effects v19 x2 (⟨x2.Op,x2.Ref,x2.Amount,x2.Counter,x2.Zone,x2.Card,x2.Filter,x2.Pool,x4⟩:aZ) 2 63 [.sl (List.map ay x4)] rfl λx6=>.dr [.ahead 34,.relen 40049,.stop]<|.us [3]<|.us [3]<|.us [3]<|.us [3]<|.us [3]<|.us [3]<|.us [3]<|.g0 (.L0 (⟨E0.Kind,E0.Filter,E0.Mods,E0.Price,E0.Slow,E0.Trigger,E0.May,E0.Specs,x6,E0.Replace⟩:ar) E1 v18 (IntKind.wrap .i64 (v19+1))))<|.ret E0 [.relab 40017 5017,.relab 40048 5048,.relab 40049 5049]
def Jk(a0:ar):LT qD ar:=
.lb 1001<|.lb 1002<|.callF (Jg a0.Mods) 70000 λx1=>.callF (Jh a0.Specs) 110000 λx3=>.callF (Ji a0.Effects) 150000 λx5=>.lenO bj x5<|.go (.L0 (⟨a0.Kind,a0.Filter,x1,a0.Price,a0.Slow,a0.Trigger,a0.May,x3,x5,a0.Replace⟩:ar) (⟨0,(⟨0,0,0,0,0,0,0,([]:By),0,0,(⟨0,0⟩:ah),(⟨0,0⟩:ah),(⟨0,0⟩:ah)⟩:al),([]:List af),(⟨(⟨0,0,(⟨0,0,0,0,0⟩:A5 Int)⟩:aK),false,false,0⟩:iY),false,(⟨0,0,(⟨0,0,0,0,0,0,0,([]:By),0,0,(⟨0,0⟩:ah),(⟨0,0⟩:ah),(⟨0,0⟩:ah)⟩:al)⟩:fN),false,([]:List ck),([]:List aZ),(⟨0,0,(⟨0,0,0,0,0,0,0,([]:By),0,0,(⟨0,0⟩:ah),(⟨0,0⟩:ah),(⟨0,0⟩:ah)⟩:al),0,0,0,0⟩:dx)⟩:ar) (x5.length:Int) 0) [.relab 1001 3000,.relab 1002 3001,.relab 75000 40017,.relab 115000 40048,.relab 155000 40049,.ownb 3001 17 40117 20,.ownb 3001 48 40148 18,.ownb 3001 49 40149 64]
def zr:LF qD ar :=.m 90 [.c 2 89 true 72] true (λr=>(tm17 r 5000)) (λr=>(.agg (tm1 r 5000))) λ|.L0 E0 E1 v18 v19=>([1,1,1,1,0,1,4],⟨36,[(1,.bptr 3000 0),(2,.bptr 3001 0),(18,wI v18),(19,wI v19)],((3000,.box (tm1 E0 40000))::(40017,wR ay 20 E0.Mods)::(40048,wR cn 18 E0.Specs)::(40049,wR bj 64 E0.Effects)::(3001,.box (tm1 E1 40100))::(tm17 E1 40100))⟩,Jj E0 E1 v18 v19)
def zt:=λa0=>zr.run (Jk a0)
def ZH(a0){r}(h:zt a0=some r):FnG PR 90 [] [wA (aC a0)] (tm17 r 5000) (.agg (tm1 r 5000)):=zr.fn h
def ZI(a0:ar){r:ar}(h:zt a0=some r):Fn PR 90 [wA (aC a0)] (wA (aC r)):=FnG.frozen (C:=LT.RL ay r.Mods/\LT.RL cn r.Specs/\LT.RL bj r.Effects/\True) (ZH a0 h) ⟨rfl,rfl,rfl,ab⟩ bp
inductive qE where
 |L0 (E0:ae) (E1:ae) (v32:List ar) (v33:Int) (v34:Int)
def Z5y(E0:ae)(E1:ae)(v32:List ar)(v33:Int)(v34:Int):LT qE ae:=
.br (decide (v34<v33)) (.idx aC v32 v34 λx2=>.lb 1005<|.call (ZI x2) λx4=>.dr [.lit]<|.apR aC 640 E1.Abilities [x4] λx6=>.g0 (.L0 E0 (⟨E1.Name,E1.Cost,E1.Colors,E1.Line,E1.Power,E1.Tough,E1.Keys,x6,E1.Control⟩:ae) v32 v33 (IntKind.wrap .i64 (v34+1))))<|.ret E1 [.relab 40111 5011,.relab 40115 5015]
def Z9z(a0:an):LT qE ae:=
.lb 1001<|.lb 1002<|.call (ZA a0.Cost) λx1=>.lb 1003<|.callF (zn a0.Line.Subs) 290000 λx3=>.len aC a0.Abilities<|.go (.L0 (⟨([]:By),(⟨0,0,(⟨0,0,0,0,0⟩:A5 Int)⟩:aK),0,(⟨0,0,([]:Bys)⟩:aI),0,0,0,([]:List ar),0⟩:ae) (⟨a0.Name,a0.Cost,aQ .or .i64 x1 a0.Color,(⟨a0.Line.Super,a0.Line.Types,x3⟩:aI),a0.Power,a0.Tough,a0.Keys,([]:List ar),0⟩:ae) a0.Abilities (a0.Abilities.length:Int) 0) [.relab 1002 3000,.relab 1003 3001,.ownb 3000 11 40011 1,.ownb 3000 15 40015 72,.relab 295000 40111,.ownb 3001 15 40115 72]
def zu:LF qE ae :=.m 51 [.c 2 66 true 17] true (λr=>[(5011,wR cS 1 r.Line.Subs),(5015,wR aC 72 r.Abilities)]) (λr=>(.agg (tm2 r 5000))) λ|.L0 E0 E1 v32 v33 v34=>([1,1,1,0,1,4],⟨47,[(2,.bptr 3000 0),(3,.bptr 3001 0),(32,wL aC v32),(33,wI v33),(34,wI v34)],[(3000,.box (tm2 E0 40000)),(40011,wR cS 1 E0.Line.Subs),(40015,wR aC 72 E0.Abilities),(3001,.box (tm2 E1 40100)),(40111,wR cS 1 E1.Line.Subs),(40115,wR aC 72 E1.Abilities)]⟩,Z5y E0 E1 v32 v33 v34)
def Jl:=λa0=>zu.run (Z9z a0)
def ZJ(a0){r}(h:Jl a0=some r):FnG PR 51 [] [wA (bf a0)] [(5011,wR cS 1 r.Line.Subs),(5015,wR aC 72 r.Abilities)] (.agg (tm2 r 5000)):=zu.fn h
inductive nM where
 |L0 (v0:List an) (E0:aj) (E1:ae) (v5:Int)
 |L1 (E0:aj) (E1:ae) (E2:ae)
def nN(E0:aj)(E1:ae)(E2:ae):LT nM ae:=
.cs (E0.Zone==0) (.k4 0<|.kn [0]<|.ret (⟨E2.Name,E2.Cost,E2.Colors,E2.Line,E2.Power,E2.Tough,E2.Keys,E2.Abilities,E0.Control⟩:ae) [.relab 40211 5011,.relab 40215 5015])<|.k4 0<|.br (E0.Zone==5) (.ret (⟨E2.Name,E2.Cost,E2.Colors,E2.Line,E2.Power,E2.Tough,E2.Keys,E2.Abilities,E0.Control⟩:ae) [.relab 40211 5011,.relab 40215 5015])<|.ret (⟨E2.Name,E2.Cost,E2.Colors,E2.Line,E2.Power,E2.Tough,E2.Keys,E2.Abilities,E0.Owner⟩:ae) [.relab 40211 5011,.relab 40215 5015]
def qF(v0:List an)(E0:aj)(E1:ae)(v5:Int):LT nM ae:=
.lb 1006<|.cs (decide (v5>=0)) (.k3 0<|.len bf v0<|.k2 0<|.br (decide (v5<(v0.length:Int))) (.idx bf v0 v5 λx4=>.callF (ZJ x4) 270000 λx6=>.jn 0 (.L1 E0 E1 x6) [.relab 1006 3002,.relab 275011 40211,.relab 275015 40215] (nN E0 E1 x6))<|.jn 0 (.L1 E0 E1 (⟨([]:By),(⟨0,0,(⟨0,0,0,0,0⟩:A5 Int)⟩:aK),0,(⟨0,0,([]:Bys)⟩:aI),0,0,0,([]:List ar),0⟩:ae)) (tm15 1000 3000 40200) (nN E0 E1 (⟨([]:By),(⟨0,0,(⟨0,0,0,0,0⟩:A5 Int)⟩:aK),0,(⟨0,0,([]:Bys)⟩:aI),0,0,0,([]:List ar),0⟩:ae)))<|.k5 0<|.kn [0]<|.jn 0 (.L1 E0 E1 (⟨([]:By),(⟨0,0,(⟨0,0,0,0,0⟩:A5 Int)⟩:aK),0,(⟨0,0,([]:Bys)⟩:aI),0,0,0,([]:List ar),0⟩:ae)) (tm15 1000 3000 40200) (nN E0 E1 (⟨([]:By),(⟨0,0,(⟨0,0,0,0,0⟩:A5 Int)⟩:aK),0,(⟨0,0,([]:Bys)⟩:aI),0,0,0,([]:List ar),0⟩:ae))
def Jm(a0:List an)(a1:aj):LT nM ae:=
.lb 1003<|.lb 1004<|.br (decide (a1.Copy<0)) (.jn 0 (.L0 a0 a1 (⟨([]:By),(⟨0,0,(⟨0,0,0,0,0⟩:A5 Int)⟩:aK),0,(⟨0,0,([]:Bys)⟩:aI),0,0,0,([]:List ar),0⟩:ae) a1.Card) (tm14 1000 3000 40100) (qF a0 a1 (⟨([]:By),(⟨0,0,(⟨0,0,0,0,0⟩:A5 Int)⟩:aK),0,(⟨0,0,([]:Bys)⟩:aI),0,0,0,([]:List ar),0⟩:ae) a1.Card))<|.jn 0 (.L0 a0 a1 (⟨([]:By),(⟨0,0,(⟨0,0,0,0,0⟩:A5 Int)⟩:aK),0,(⟨0,0,([]:Bys)⟩:aI),0,0,0,([]:List ar),0⟩:ae) a1.Copy) (tm14 1000 3000 40100) (qF a0 a1 (⟨([]:By),(⟨0,0,(⟨0,0,0,0,0⟩:A5 Int)⟩:aK),0,(⟨0,0,([]:Bys)⟩:aI),0,0,0,([]:List ar),0⟩:ae) a1.Copy)
def Jn:LF nM ae :=.m 31 [.c 4 66 true 17] true (λr=>[(5011,wR cS 1 r.Line.Subs),(5015,wR aC 72 r.Abilities)]) (λr=>(.agg (tm2 r 5000))) λ|.L0 v0 E0 E1 v5=>([1,1,1],⟨42,[(0,wL bf v0),(3,.bptr 3000 0),(4,.bptr 3001 0),(5,wI v5)],[(3000,.box (bx (aE E0))),(3001,.box (tm2 E1 40100)),(40111,wR cS 1 E1.Line.Subs),(40115,wR aC 72 E1.Abilities)]⟩,qF v0 E0 E1 v5)|.L1 E0 E1 E2=>([1,1,1,1,1],⟨42,[(3,.bptr 3000 0),(4,.bptr 3001 0),(6,.bptr 3002 0)],[(3000,.box (bx (aE E0))),(3001,.box (tm2 E1 40100)),(40111,wR cS 1 E1.Line.Subs),(40115,wR aC 72 E1.Abilities),(3002,.box (tm2 E2 40200)),(40211,wR cS 1 E2.Line.Subs),(40215,wR aC 72 E2.Abilities)]⟩,nN E0 E1 E2)
def zv:=λa0 a1=>Jn.run (Jm a0 a1)
def ZK(a0)(a1){r}(h:zv a0 a1=some r):FnG PR 31 [] [wL bf a0,wA (aE a1)] [(5011,wR cS 1 r.Line.Subs),(5015,wR aC 72 r.Abilities)] (.agg (tm2 r 5000)):=Jn.fn h
def Jo(a0:List an)(a1:aj){r:ae}(h:zv a0 a1=some r):Fn PR 31 [wL bf a0,wA (aE a1)] (wA (av r)):=FnG.frozen (C:=LT.RL cS r.Line.Subs/\LT.RL aC r.Abilities/\True) (ZK a0 a1 h) ⟨rfl,rfl,ab⟩ bp
def zw(a0:List Int)(hne:a0≠[]):LT Empty (List Int):=
.ne (cI .i64) hne<|.kn [0]<|.lb 1005<|.apR (cI .i64) 8 ([]:List Int) a0 λx1=>.ret x1 [.relab 1005 5000]
def lW:LF Empty (List Int) :=.z 33 [.t 2] true (λr=>[(5000,wR (cI .i64) 1 r)]) (λr=>(wO (cI .i64) 5000 r))
def uH(c:Nat):LT Empty (List Int):=
.kn [0]<|.ret ([]:List Int) [.own 2 5000 1]
def ZL(c:Nat)(ad:Addr):LT Empty (List Int):=
.kn [0]<|.lb 1005<|.apR (cI .i64) 8 ([]:List Int) ([]:List Int) λx1=>.ret x1 [.relab 1005 5000]
open Classical in
def qG(a0:List Int):Option (List Int):=if h:a0≠[]then lW.run (zw a0 h)else lW.run (uH 0)
def ZM(a0:List Int){r:List Int}(h:qG a0=some r):FnG PR 33 [] [wL (cI .i64) a0] [(5000,wR (cI .i64) 1 r)] (wO (cI .i64) 5000 r):=by
 by_cases hne:a0=[]
 .subst hne;have h0:lW.run (uH 0)=some r:=h;exact FnG.split0 (λe=>absurd rfl e) (λ_ a c=>by
   cases a with
   |none=>exact lW.fn (t:=uH c) h0
   |some ad=>exact lW.fn (t:=ZL c ad) h0)
 have h0:lW.run (zw a0 hne)=some r:=by unfold qG at h;rwa[iD hne]at h
 exact FnG.split0 (λ_=>lW.fn h0) (λe=>absurd (jY.1 e) hne)
def ZN(a0:List Int){r:List Int}(h:qG a0=some r):Fn PR 33 [wL (cI .i64) a0] (wL (cI .i64) r):=FnG.frozen (C:=LT.RL (cI .i64) r/\True) (ZM a0 h) ⟨rfl,ab⟩ bp
inductive lX where
 |L0 (v0:List an) (E0:ao) (v5:List Z2) (v13:List aj) (v14:Int) (v15:Int)
 |L1 (v0:List an) (E0:ao) (v5:List Z2) (E1:aj) (v13:List aj) (v14:Int) (v15:Int) (v25:List ar) (v26:Int) (v27:Int)
 |L2 (v5:List Z2) (v54:List dn) (v55:Int) (v56:Int)
def Z5z(v0:List an)(E0:ao)(v5:List Z2)(v13:List aj)(v14:Int)(v15:Int):LT lX (List Z2):=
.br (decide (v15<v14)) (.idx aE v13 v15 λx2=>.lb 1007<|.br (x2.Zone != 0) (.g0 (.L0 v0 E0 v5 v13 v14 (IntKind.wrap .i64 (v15+1))))<|.call (Jo v0 x2) λx7=>.len aC x7.Abilities<|.go (.L1 v0 E0 v5 x2 v13 v14 v15 x7.Abilities (x7.Abilities.length:Int) 0) [.relab 1007 3001])<|.len cZ E0.Conts<|.g0 (.L2 v5 E0.Conts (E0.Conts.length:Int) 0)
def Z50(v0:List an)(E0:ao)(v5:List Z2)(E1:aj)(v13:List aj)(v14:Int)(v15:Int)(v25:List ar)(v26:Int)(v27:Int):LT lX (List Z2):=
.br (decide (v27<v26)) (.idx aC v25 v27 λx2=>.lb 1009<|.br (x2.Kind==1) (.call (qB x2.Mods) λx5=>.dr [.lit]<|.apR cb 224 v5 [(⟨E1.Id,v27,E1.Control,E1.Stamp,false,([]:List Int),x2.Filter,x5⟩:Z2)] λx7=>.g0 (.L1 v0 E0 x7 E1 v13 v14 v15 v25 v26 (IntKind.wrap .i64 (v27+1))))<|.g0 (.L1 v0 E0 v5 E1 v13 v14 v15 v25 v26 (IntKind.wrap .i64 (v27+1))))<|.g0 (.L0 v0 E0 v5 v13 v14 (IntKind.wrap .i64 (v15+1)))
def Z51(v5:List Z2)(v54:List dn)(v55:Int)(v56:Int):LT lX (List Z2):=
.br (decide (v56<v55)) (.idx cZ v54 v56 λx2=>.lb 1011<|.call (ZN x2.Objects) λx4=>.call (qB x2.Mods) λx6=>.dr [.lit]<|.apR cb 224 v5 [(⟨x2.Source,-1,x2.Control,x2.Stamp,true,x4,(⟨0,0,0,0,0,0,0,([]:By),0,0,(⟨0,0⟩:ah),(⟨0,0⟩:ah),(⟨0,0⟩:ah)⟩:al),x6⟩:Z2)] λx8=>.g0 (.L2 x8 v54 v55 (IntKind.wrap .i64 (v56+1))))<|.ret v5 [.relab 20005 5000]
def Z90(a0:List an)(a1:ao):LT lX (List Z2):=
.lb 1003<|.len aE a1.Objects<|.go (.L0 a0 a1 ([]:List Z2) a1.Objects (a1.Objects.length:Int) 0) [.relab 1003 3000,.own 5 20005 23]
def qH:LF lX (List Z2) :=.m 12 [.t 4] true (λr=>[(5000,wR cb 23 r)]) (λr=>(wO cb 5000 r)) λ|.L0 v0 E0 v5 v13 v14 v15=>([1,1,0,1,4],⟨78,[(0,wL bf v0),(3,.bptr 3000 0),(5,wO cb 20005 v5),(13,wL aE v13),(14,wI v14),(15,wI v15)],[(3000,.box (bx (Z1 E0))),(20005,wR cb 23 v5)]⟩,Z5z v0 E0 v5 v13 v14 v15)|.L1 v0 E0 v5 E1 v13 v14 v15 v25 v26 v27=>([1,1,0,1,4,5,1,1,0,4,1,1,1,4],⟨78,[(0,wL bf v0),(3,.bptr 3000 0),(5,wO cb 20005 v5),(7,.bptr 3001 0),(13,wL aE v13),(14,wI v14),(15,wI v15),(25,wL aC v25),(26,wI v26),(27,wI v27)],[(3000,.box (bx (Z1 E0))),(20005,wR cb 23 v5),(3001,.box (bx (aE E1)))]⟩,Z50 v0 E0 v5 E1 v13 v14 v15 v25 v26 v27)|.L2 v5 v54 v55 v56=>([1,1,1,0,1,4],⟨78,[(5,wO cb 20005 v5),(54,wL cZ v54),(55,wI v55),(56,wI v56)],[(20005,wR cb 23 v5)]⟩,Z51 v5 v54 v55 v56)
def Z29:=λa0 a1=>qH.run (Z90 a0 a1)
def ZO(a0)(a1){r}(h:Z29 a0 a1=some r):FnG PR 12 [] [wL bf a0,wA (Z1 a1)] [(5000,wR cb 23 r)] (wO cb 5000 r):=qH.fn h
def Z52(a0:List an)(a1:ao){r:List Z2}(h:Z29 a0 a1=some r):Fn PR 12 [wL bf a0,wA (Z1 a1)] (wL cb r):=FnG.frozen (C:=LT.RL cb r/\True) (ZO a0 a1 h) ⟨rfl,ab⟩ bp
end
end Go.PW
