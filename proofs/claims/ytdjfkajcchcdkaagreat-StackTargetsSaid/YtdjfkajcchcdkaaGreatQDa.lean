import Derived.Test.YtdjfkajcchcdkaaGreatQDt
set_option linter.all false
set_option maxRecDepth 100000
namespace Go.PW
open Go.RowKit
noncomputable section
def xy(a0:Int):LT Empty Bool:=
.cs (decide (a0>=97)) (.k3 0<|.rt (decide (a0<=122)))<|.k3 0<|.rt false
def M9:LF Empty Bool :=.z0 125 [.t 2] wB
def sV:=λa0=>M9.run (xy a0)
def Na(a0){r}(h:sV a0=some r):Fn PR 125 [.t (.int .u8 a0)] (wB r):=M9.fn h
inductive jv where
 |L0 (v0:By) (v3:Int)
 |L1 (v0:By) (v3:Int)
def ju(v0:By)(v3:Int):LT jv Bool:=
.cs (decide (v3>0)) (.k3 0<|.idxS v0 v3 λx2=>.k2 0<|.cs ((UInt8.toNat x2:Int)==45) (.k4 1<|.idxS v0 (IntKind.wrap .i64 (v3-1)) λx7=>.k2 1<|.br ((UInt8.toNat x7:Int)==45) (.rt false)<|.g0 (.L0 v0 (IntKind.wrap .i64 (v3+1))))<|.k5 1<|.kg 1<|.kn [0]<|.g0 (.L0 v0 (IntKind.wrap .i64 (v3+1))))<|.k5 0<|.b5 false<|.kb false<|.kn [0]<|.g0 (.L0 v0 (IntKind.wrap .i64 (v3+1)))
def mU(v0:By)(v3:Int):LT jv Bool:=
.lenS v0<|.br (decide (v3<(v0.length:Int))) (.idxS v0 v3 λx3=>.call (Na (UInt8.toNat x3:Int)) λx5=>.cs (!x5) (.k3 1<|.idxS v0 v3 λx8=>.k2 1<|.cs (decide ((UInt8.toNat x8:Int)<48)) (.k4 2<|.kg 1<|.kg 2<|.kg 1<|.b3 true<|.idxS v0 v3 λx11=>.b2 true<|.br ((UInt8.toNat x11:Int) != 45) (.rt false)<|.j0 (.L1 v0 v3) (ju v0 v3))<|.k3 2<|.idxS v0 v3 λx14=>.kg 2<|.kg 1<|.kg 2<|.kg 1<|.cs (decide ((UInt8.toNat x14:Int)>57)) (.k3 3<|.idxS v0 v3 λx17=>.k2 3<|.br ((UInt8.toNat x17:Int) != 45) (.rt false)<|.j0 (.L1 v0 v3) (ju v0 v3))<|.k5 3<|.kn [0]<|.j0 (.L1 v0 v3) (ju v0 v3))<|.k5 1<|.k2 1<|.b5 false<|.kn [0]<|.j0 (.L1 v0 v3) (ju v0 v3))<|.rt true
def xz(a0:By):LT jv Bool:=
.lenS a0<|.cs (decide ((a0.length:Int)<1)) (.k4 0<|.b8 true<|.b4 true<|.kn [0]<|.rt false)<|.k2 0<|.lenS a0<|.k2 0<|.cs (decide ((a0.length:Int)>32)) (.k5 1<|.b5 true<|.b2 true<|.kn [0]<|.rt false)<|.k2 1<|.idxS a0 0 λx4=>.kg 1<|.call (Na (UInt8.toNat x4:Int)) λx6=>.k2 1<|.cs (!x6) (.k5 2<|.k2 2<|.kn [0]<|.rt false)<|.k3 2<|.lenS a0<|.k2 2<|.idxS a0 (IntKind.wrap .i64 ((a0.length:Int)-1)) λx11=>.k2 2<|.br ((UInt8.toNat x11:Int)==45) (.rt false)<|.g0 (.L0 a0 0)
def Z04:LF jv Bool :=.m0 89 [.t 2] wB λ|.L0 v0 v3=>([1,1,0,1,4],⟨70,[(0,wS v0),(3,wI v3)],[]⟩,mU v0 v3)|.L1 v0 v3=>([1,1,0,1,4,5,1,0,4,1],⟨70,[(0,wS v0),(3,wI v3)],[]⟩,ju v0 v3)
def sX:=λa0=>Z04.run (xz a0)
def Ba(a0){r}(h:sX a0=some r):Fn PR 89 [wS a0] (wB r):=Z04.fn h
inductive jR where
 |L0 (E0:Z4) (v3:Int)
def nU(E0:Z4)(v3:Int):LT jR Bool:=
.br (decide (v3<5)) (.idA (U.int .i64) (A5.list E0.Color) v3 (bx (cJ E0)) 2 7 λx2=>.ldC (U.int .i64) 29 x2 0<|.cs (decide (x2<0)) (.k5 1<|.kg 1<|.kn [0]<|.rt false)<|.k3 1<|.idA (U.int .i64) (A5.list E0.Color) v3 (bx (cJ E0)) 2 7 λx5=>.kg 1<|.ldC (U.int .i64) 35 x5 1<|.k2 1<|.br (decide (x5>9)) (.rt false)<|.g0 (.L0 E0 (IntKind.wrap .i64 (v3+1))))<|.rt true
def Bb(a0:Z4):LT jR Bool:=
.lb 1001<|.cs (decide (a0.Generic<0)) (.k4 0<|.b8 true<|.kn [0]<|.rt false)<|.k4 0<|.cs (decide (a0.Generic>99)) (.k4 1<|.b4 true<|.kn [0]<|.rt false)<|.k4 1<|.cs (decide (a0.X<0)) (.k4 2<|.kn [0]<|.rt false)<|.k4 2<|.br (decide (a0.X>2)) (.rt false)<|.go (.L0 a0 0) [.relab 1001 3000]
def jm:LF jR Bool :=.m0 90 [.t 2] wB λ|.L0 E0 v3=>([1,1,0,1,4],⟨38,[(1,.bptr 3000 0),(3,wI v3)],[(3000,.box (bx (cJ E0)))]⟩,nU E0 v3)
def nV:=λa0=>jm.run (Bb a0)
def Z9z(a0){r}(h:nV a0=some r):Fn PR 90 [wA (cJ a0)] (wB r):=jm.fn h
def Z68:LT Empty (Bys):=
.lb 1001<|.ret [([98,97,115,105,99]:By),([117,110,105,113,117,101]:By)] [.relab 1001 5000]
def Z69:LF Empty (Bys) :=.z 172 [.t 0] true (λr=>[(5000,wR cS 1 r)]) (λr=>(wO cS 5000 r))
def s6:=Z69.run (Z68)
def ZdO{r}(h:s6=some r):FnG PR 172 [] [] [(5000,wR cS 1 r)] (wO cS 5000 r):=Z69.fn h
def ZdP{r:Bys}(h:s6=some r):Fn PR 172 [] (wL cS r):=FnG.frozen (C:=LT.RL cS r/\True) (ZdO h) ⟨rfl,aa⟩ ar
inductive ru where
 |L0 (v0:Bys) (v1:By) (v5:Int)
def mV(v0:Bys)(v1:By)(v5:Int):LT ru Int:=
.len cS v0<|.br (decide (v5<(v0.length:Int))) (.idx cS v0 v5 λx3=>.br (x3==v1) (.rt v5)<|.g0 (.L0 v0 v1 (IntKind.wrap .i64 (v5+1))))<|.rt (-1)
def xF(a0:Bys)(a1:By):LT ru Int:=
.g0 (.L0 a0 a1 0)
def Z2a:LF ru Int :=.m0 171 [.t 4] wI λ|.L0 v0 v1 v5=>([1,0,1,4],⟨19,[(0,wL cS v0),(1,wS v1),(5,wI v5)],[]⟩,mV v0 v1 v5)
def Z90:=λa0 a1=>Z2a.run (xF a0 a1)
def Z7a(a0)(a1){r}(h:Z90 a0 a1=some r):Fn PR 171 [wL cS a0,wS a1] (wI r):=Z2a.fn h
def Z91:LT Empty (Bys):=
.lb 1001<|.ret [([99,114,101,97,116,117,114,101]:By),([105,110,115,116,97,110,116]:By),([114,105,116,117,97,108]:By),([114,101,108,105,99]:By),([99,104,97,114,109]:By),([108,97,110,100]:By)] [.relab 1001 5000]
def Z92:LF Empty (Bys) :=.z 173 [.t 0] true (λr=>[(5000,wR cS 1 r)]) (λr=>(wO cS 5000 r))
def s7:=Z92.run (Z91)
def ZdQ{r}(h:s7=some r):FnG PR 173 [] [] [(5000,wR cS 1 r)] (wO cS 5000 r):=Z92.fn h
def Z7b{r:Bys}(h:s7=some r):Fn PR 173 [] (wL cS r):=FnG.frozen (C:=LT.RL cS r/\True) (ZdQ h) ⟨rfl,aa⟩ ar
def xG(a0:By):LT Empty Bool:=
.call (Ba a0) λx1=>.cs x1 (.kg 0<|.call (ZdP) λx4=>.k2 0<|.call (Z7a x4 a0) λx6=>.k2 0<|.cs (decide (x6<0)) (.kg 1<|.call (Z7b) λx9=>.k2 1<|.call (Z7a x9 a0) λx11=>.k2 1<|.rt (decide (x11<0)))<|.k5 1<|.rt false)<|.k5 0<|.b5 false<|.rt false
def Nb:LF Empty Bool :=.z0 126 [.t 2] wB
def Z93:=λa0=>Nb.run (xG a0)
def Z7c(a0){r}(h:Z93 a0=some r):Fn PR 126 [wS a0] (wB r):=Nb.fn h
inductive Z2t where
 |L0 (v0:Int) (v1:Int) (v5:Int)
def Nc(v0:Int)(v1:Int)(v5:Int):LT Z2t Bool:=
.br (decide (v5<v1)) (.dc ((2:Int)≠0) rfl<|.g0 (.L0 (fM .i64 v0 2) v1 (IntKind.wrap .i64 (v5+1))))<|.dc ((2:Int)≠0) rfl<|.rt ((Int.tmod v0 2)==1)
def Nd(a0:Int)(a1:Int):LT Z2t Bool:=
.g0 (.L0 a0 a1 0)
def Bc:LF Z2t Bool :=.m0 127 [.t 4] wB λ|.L0 v0 v1 v5=>([1,0,1,4],⟨16,[(0,wI v0),(1,wI v1),(5,wI v5)],[]⟩,Nc v0 v1 v5)
def Nf:=λa0 a1=>Bc.run (Nd a0 a1)
def Bd(a0)(a1){r}(h:Nf a0 a1=some r):Fn PR 127 [wI a0,wI a1] (wB r):=Bc.fn h
inductive Z7d where
 |L0 (E0:cf) (v3:Int)
def Ng(E0:cf)(v3:Int):LT Z7d Bool:=
.len cS E0.Subs<|.br (decide (v3<(E0.Subs.length:Int))) (.idx cS E0.Subs v3 λx3=>.call (Z7c x3) λx5=>.cs (!x5) (.k5 1<|.kn [0]<|.rt false)<|.k3 1<|.cs (decide (v3>0)) (.k5 2<|.idx cS E0.Subs (IntKind.wrap .i64 (v3-1)) λx11=>.k5 2<|.ag cS x3 0<|.k2 2<|.kg 1<|.kg 2<|.kg 1<|.br (!(Op.bytesLess x11 x3)) (.rt false)<|.g0 (.L0 E0 (IntKind.wrap .i64 (v3+1))))<|.k8 2<|.k4 2<|.kg 1<|.kg 2<|.kg 1<|.kn [0]<|.g0 (.L0 E0 (IntKind.wrap .i64 (v3+1))))<|.cs (E0.Types==2) (.k4 1<|.b5 true<|.b2 true<|.rt true)<|.k4 1<|.cs (E0.Types==4) (.k5 2<|.k2 2<|.rt true)<|.k3 2<|.call (Bd E0.Types 1) λx20=>.k2 2<|.cs (!x20) (.k3 3<|.call (Bd E0.Types 2) λx23=>.kg 3<|.kg 2<|.kg 3<|.kg 2<|.rt (!x23))<|.k4 3<|.kg 2<|.kg 3<|.kg 2<|.rt false
def Nh(a0:cf):LT Z7d Bool:=
.lb 1001<|.cs (decide (a0.Super<0)) (.k4 0<|.b8 true<|.b5 true<|.kn [0]<|.rt false)<|.k4 0<|.cs (decide (a0.Super>3)) (.k4 1<|.b8 true<|.kb true<|.kn [0]<|.rt false)<|.k4 1<|.cs (decide (a0.Types<1)) (.k4 2<|.b5 true<|.kn [0]<|.rt false)<|.k4 2<|.cs (decide (a0.Types>63)) (.k5 3<|.kn [0]<|.rt false)<|.k3 3<|.len cS a0.Subs<|.k2 3<|.br (decide ((a0.Subs.length:Int)>4)) (.rt false)<|.go (.L0 a0 0) [.relab 1001 3000]
def Be:LF Z7d Bool :=.m0 91 [.t 2] wB λ|.L0 E0 v3=>([1,1,0,1,4],⟨80,[(1,.bptr 3000 0),(3,wI v3)],[(3000,.box (bx (jd E0)))]⟩,Ng E0 v3)
def Ni:=λa0=>Be.run (Nh a0)
def ZdR(a0){r}(h:Ni a0=some r):Fn PR 91 [wA (jd a0)] (wB r):=Be.fn h
def Nj(a0:Int):LT Empty Bool:=
.cs (decide (a0>=0)) (.k3 0<|.rt (decide (a0<=131071)))<|.k3 0<|.rt false
def Nk:LF Empty Bool :=.z0 92 [.t 2] wB
def Nl:=λa0=>Nk.run (Nj a0)
def Nm(a0){r}(h:Nl a0=some r):Fn PR 92 [wI a0] (wB r):=Nk.fn h
def Nn(a0:aw):LT Empty Bool:=
.lb 1001<|.rt ((bJ .and .i64 a0.Line.Types 1) != 0)
def No:LF Empty Bool :=.z0 93 [.t 2] wB
def Np:=λa0=>No.run (Nn a0)
def ZdS(a0){r}(h:Np a0=some r):Fn PR 93 [wA (bA a0)] (wB r):=No.fn h
inductive rv where
 |L0 (v0:Int) (v1:Int) (v7:Int)
def mY(v0:Int)(v1:Int)(v7:Int):LT rv Bool:=
.br (decide (v7<6)) (.dc ((2:Int)≠0) rfl<|.cs ((Int.tmod v0 2)==1) (.k2 1<|.dc ((2:Int)≠0) rfl<|.k2 1<|.br ((Int.tmod v1 2)==1) (.rt false)<|.dc ((2:Int)≠0) rfl<|.dc ((2:Int)≠0) rfl<|.g0 (.L0 (fM .i64 v0 2) (fM .i64 v1 2) (IntKind.wrap .i64 (v7+1))))<|.k4 1<|.kn [0]<|.dc ((2:Int)≠0) rfl<|.dc ((2:Int)≠0) rfl<|.g0 (.L0 (fM .i64 v0 2) (fM .i64 v1 2) (IntKind.wrap .i64 (v7+1))))<|.rt true
def xN(a0:Int)(a1:Int)(a2:Int):LT rv Bool:=
.cs (decide (a0<0)) (.k4 0<|.b5 true<|.b2 true<|.kn [0]<|.rt false)<|.k4 0<|.cs (decide (a0>a2)) (.k3 1<|.b4 true<|.kn [0]<|.rt false)<|.k3 1<|.cs (decide (a1<0)) (.k4 2<|.kn [0]<|.rt false)<|.k4 2<|.br (decide (a1>a2)) (.rt false)<|.g0 (.L0 a0 a1 0)
def mX:LF rv Bool :=.m0 174 [.t 6] wB λ|.L0 v0 v1 v7=>([1,1,0,1,4],⟨40,[(0,wI v0),(1,wI v1),(7,wI v7)],[]⟩,mY v0 v1 v7)
def Z94:=λa0 a1 a2=>mX.run (xN a0 a1 a2)
def Nq(a0)(a1)(a2){r}(h:Z94 a0 a1 a2=some r):Fn PR 174 [wI a0,wI a1,wI a2] (wB r):=mX.fn h
def xM(a0:ae):LT Empty Bool:=
.lb 1001<|.cs (decide (a0.Kind<0)) (.k4 0<|.b8 true<|.kn [0]<|.rt false)<|.k4 0<|.cs (decide (a0.Kind>3)) (.k4 1<|.b4 true<|.kn [0]<|.rt false)<|.k4 1<|.cs (decide (a0.N<0)) (.k4 2<|.kn [0]<|.rt false)<|.k4 2<|.br (decide (a0.N>1000000)) (.rt false)<|.cs (a0.Kind != 0) (.k4 4<|.rt true)<|.k4 4<|.rt (a0.N==0)
def Nr:LF Empty Bool :=.z0 175 [.t 2] wB
def Z95:=λa0=>Nr.run (xM a0)
def Z7e(a0){r}(h:Z95 a0=some r):Fn PR 175 [wA (e9 a0)] (wB r):=Nr.fn h
inductive Z7f where
 |L0 (E0:aj)
def ld(E0:aj):LT Z7f Bool:=
.call (Z7e E0.Power) λx1=>.cs x1 (.k3 0<|.call (Z7e E0.Tough) λx4=>.kg 0<|.cs x4 (.k3 1<|.call (Z7e E0.Value) λx7=>.kg 1<|.rt x7)<|.k4 1<|.rt false)<|.k4 0<|.b4 false<|.rt false
def xP(a0:aj):LT Z7f Bool:=
.lb 1001<|.cs (decide (a0.Zone<0)) (.k4 0<|.b16 true<|.b8 true<|.kn [0]<|.rt false)<|.k4 0<|.cs (decide (a0.Zone>5)) (.k4 1<|.b16 true<|.b4 true<|.kn [0]<|.rt false)<|.k4 1<|.cs (decide (a0.Who<0)) (.k4 2<|.b16 true<|.kn [0]<|.rt false)<|.k4 2<|.cs (decide (a0.Who>2)) (.k4 3<|.b8 true<|.b4 true<|.kn [0]<|.rt false)<|.k4 3<|.cs (decide (a0.Self<0)) (.k4 4<|.b8 true<|.kn [0]<|.rt false)<|.k4 4<|.cs (decide (a0.Self>2)) (.k4 5<|.b4 true<|.kn [0]<|.rt false)<|.k4 5<|.cs (decide (a0.Tap<0)) (.k4 6<|.kn [0]<|.rt false)<|.k4 6<|.br (decide (a0.Tap>2)) (.rt false)<|.call (Nq a0.Types a0.NotTypes 63) λx9=>.cs (!x9) (.k5 8<|.k2 8<|.kn [0]<|.rt false)<|.k5 8<|.call (Nq a0.Colors a0.NotColors 31) λx12=>.k2 8<|.br (!x12) (.rt false)<|.cs (!(a0.Sub==([]:By))) (.k3 10<|.call (Z7c a0.Sub) λx16=>.k2 10<|.cs (!x16) (.k4 11<|.b4 true<|.kn [0]<|.rt false)<|.k4 11<|.cs (decide (a0.Keys<0)) (.k4 12<|.kn [0]<|.rt false)<|.k4 12<|.br (decide (a0.Keys>131071)) (.rt false)<|.jn 0 (.L0 a0) [.relab 1001 3000] (ld a0))<|.k5 10<|.b4 false<|.cs (decide (a0.Keys<0)) (.k4 11<|.kn [0]<|.rt false)<|.k4 11<|.br (decide (a0.Keys>131071)) (.rt false)<|.jn 0 (.L0 a0) [.relab 1001 3000] (ld a0)
def xO:LF Z7f Bool :=.m0 128 [.t 2] wB λ|.L0 E0=>([1,1,1,1],⟨87,[(1,.bptr 3000 0)],[(3000,.box (bx (bf E0)))]⟩,ld E0)
def oN:=λa0=>xO.run (xP a0)
def iJ(a0){r}(h:oN a0=some r):Fn PR 128 [wA (bf a0)] (wB r):=xO.fn h
inductive nW where
 |L0 (E0:ai) (E1:ai) (v7:Int) (v8:Bool)
 |L1 (E0:ai) (E1:ai) (v7:Int) (v16:Bool)
def ry(E0:ai)(E1:ai)(v7:Int)(v16:Bool):LT nW ai:=
.br v16 (.rt (⟨E0.Kind,E0.N,E0.M,([]:By),E0.Filter⟩:ai))<|.br (v7==11) (.rt (⟨E0.Kind,E0.N,E0.M,E0.Sub,(⟨0,0,0,0,0,0,0,([]:By),0,0,(⟨0,0⟩:ae),(⟨0,0⟩:ae),(⟨0,0⟩:ae)⟩:aj)⟩:ai))<|.br (v7==12) (.kn [3]<|.rt (⟨E0.Kind,0,0,E0.Sub,E0.Filter⟩:ai))<|.br (v7==13) (.rt (⟨E0.Kind,0,0,E0.Sub,E0.Filter⟩:ai))<|.rt E0
def jS(E0:ai)(E1:ai)(v7:Int)(v8:Bool):LT nW ai:=
.br v8 (.rt (⟨E0.Kind,0,E0.M,E0.Sub,E0.Filter⟩:ai))<|.br (v7==4) (.j0 (.L1 E0 E1 v7 (v7==4)) (ry E0 E1 v7 (v7==4)))<|.j0 (.L1 E0 E1 v7 (v7==5)) (ry E0 E1 v7 (v7==5))
def Ns(a0:ai):LT nW ai:=
.lb 1001<|.lb 1002<|.br (a0.Kind==2) (.jn 0 (.L0 (⟨0,a0.N,a0.M,a0.Sub,a0.Filter⟩:ai) (⟨0,0,0,([]:By),(⟨0,0,0,0,0,0,0,([]:By),0,0,(⟨0,0⟩:ae),(⟨0,0⟩:ae),(⟨0,0⟩:ae)⟩:aj)⟩:ai) a0.Kind (a0.Kind==2)) [.relab 1001 3000,.relab 1002 3001] (jS (⟨0,a0.N,a0.M,a0.Sub,a0.Filter⟩:ai) (⟨0,0,0,([]:By),(⟨0,0,0,0,0,0,0,([]:By),0,0,(⟨0,0⟩:ae),(⟨0,0⟩:ae),(⟨0,0⟩:ae)⟩:aj)⟩:ai) a0.Kind (a0.Kind==2)))<|.br (a0.Kind==3) (.jn 0 (.L0 (⟨0,a0.N,a0.M,a0.Sub,a0.Filter⟩:ai) (⟨0,0,0,([]:By),(⟨0,0,0,0,0,0,0,([]:By),0,0,(⟨0,0⟩:ae),(⟨0,0⟩:ae),(⟨0,0⟩:ae)⟩:aj)⟩:ai) a0.Kind (a0.Kind==3)) [.relab 1001 3000,.relab 1002 3001] (jS (⟨0,a0.N,a0.M,a0.Sub,a0.Filter⟩:ai) (⟨0,0,0,([]:By),(⟨0,0,0,0,0,0,0,([]:By),0,0,(⟨0,0⟩:ae),(⟨0,0⟩:ae),(⟨0,0⟩:ae)⟩:aj)⟩:ai) a0.Kind (a0.Kind==3)))<|.br (a0.Kind==6) (.jn 0 (.L0 (⟨0,a0.N,a0.M,a0.Sub,a0.Filter⟩:ai) (⟨0,0,0,([]:By),(⟨0,0,0,0,0,0,0,([]:By),0,0,(⟨0,0⟩:ae),(⟨0,0⟩:ae),(⟨0,0⟩:ae)⟩:aj)⟩:ai) a0.Kind (a0.Kind==6)) [.relab 1001 3000,.relab 1002 3001] (jS (⟨0,a0.N,a0.M,a0.Sub,a0.Filter⟩:ai) (⟨0,0,0,([]:By),(⟨0,0,0,0,0,0,0,([]:By),0,0,(⟨0,0⟩:ae),(⟨0,0⟩:ae),(⟨0,0⟩:ae)⟩:aj)⟩:ai) a0.Kind (a0.Kind==6)))<|.br (a0.Kind==7) (.jn 0 (.L0 (⟨0,a0.N,a0.M,a0.Sub,a0.Filter⟩:ai) (⟨0,0,0,([]:By),(⟨0,0,0,0,0,0,0,([]:By),0,0,(⟨0,0⟩:ae),(⟨0,0⟩:ae),(⟨0,0⟩:ae)⟩:aj)⟩:ai) a0.Kind (a0.Kind==7)) [.relab 1001 3000,.relab 1002 3001] (jS (⟨0,a0.N,a0.M,a0.Sub,a0.Filter⟩:ai) (⟨0,0,0,([]:By),(⟨0,0,0,0,0,0,0,([]:By),0,0,(⟨0,0⟩:ae),(⟨0,0⟩:ae),(⟨0,0⟩:ae)⟩:aj)⟩:ai) a0.Kind (a0.Kind==7)))<|.br (a0.Kind==8) (.jn 0 (.L0 (⟨0,a0.N,a0.M,a0.Sub,a0.Filter⟩:ai) (⟨0,0,0,([]:By),(⟨0,0,0,0,0,0,0,([]:By),0,0,(⟨0,0⟩:ae),(⟨0,0⟩:ae),(⟨0,0⟩:ae)⟩:aj)⟩:ai) a0.Kind (a0.Kind==8)) [.relab 1001 3000,.relab 1002 3001] (jS (⟨0,a0.N,a0.M,a0.Sub,a0.Filter⟩:ai) (⟨0,0,0,([]:By),(⟨0,0,0,0,0,0,0,([]:By),0,0,(⟨0,0⟩:ae),(⟨0,0⟩:ae),(⟨0,0⟩:ae)⟩:aj)⟩:ai) a0.Kind (a0.Kind==8)))<|.jn 0 (.L0 (⟨0,a0.N,a0.M,a0.Sub,a0.Filter⟩:ai) (⟨0,0,0,([]:By),(⟨0,0,0,0,0,0,0,([]:By),0,0,(⟨0,0⟩:ae),(⟨0,0⟩:ae),(⟨0,0⟩:ae)⟩:aj)⟩:ai) a0.Kind (a0.Kind==9)) [.relab 1001 3000,.relab 1002 3001] (jS (⟨0,a0.N,a0.M,a0.Sub,a0.Filter⟩:ai) (⟨0,0,0,([]:By),(⟨0,0,0,0,0,0,0,([]:By),0,0,(⟨0,0⟩:ae),(⟨0,0⟩:ae),(⟨0,0⟩:ae)⟩:aj)⟩:ai) a0.Kind (a0.Kind==9))
def Nt:LF nW ai :=.m0 185 [.c 2 144 true 20] (λr=>(wA (aF r))) λ|.L0 E0 E1 v7 v8=>([1,1,1,0,1,4,1],⟨30,[(1,.bptr 3000 0),(2,.bptr 3001 0),(7,wI v7),(8,wB v8)],[(3000,.box (bx (aF E0))),(3001,.box (bx (aF E1)))]⟩,jS E0 E1 v7 v8)|.L1 E0 E1 v7 v16=>([1,1,1,0,1,4,1,3,1],⟨30,[(1,.bptr 3000 0),(2,.bptr 3001 0),(7,wI v7),(16,wB v16)],[(3000,.box (bx (aF E0))),(3001,.box (bx (aF E1)))]⟩,ry E0 E1 v7 v16)
def Nu:=λa0=>Nt.run (Ns a0)
def ZdT(a0){r}(h:Nu a0=some r):Fn PR 185 [wA (aF a0)] (wA (aF r)):=Nt.fn h
def Nv(a0:Int):LT Empty Bool:=
.cs (decide (a0>=1)) (.k3 0<|.cs (decide (a0<=63)) (.k4 1<|.rt ((bJ .and .i64 a0 6)==0))<|.k4 1<|.rt false)<|.k3 0<|.b4 false<|.rt false
def Nw:LF Empty Bool :=.z0 186 [.t 2] wB
def Ny:=λa0=>Nw.run (Nv a0)
def ZdU(a0){r}(h:Ny a0=some r):Fn PR 186 [wI a0] (wB r):=Nw.fn h
inductive ma where
 |L0 (E0:ai) (v18:Int) (v19:Bool)
 |L1 (E0:ai) (v18:Int) (v25:Bool)
 |L2 (E0:ai) (v18:Int) (v51:Bool)
def Z2u(E0:ai)(v18:Int)(v51:Bool):LT ma Bool:=
.br v51 (.cs (decide (E0.N>=1)) (.k4 1<|.rt (decide (E0.N<=131071)))<|.k4 1<|.rt false)<|.br (v18==11) (.call (iJ E0.Filter) λx4=>.rt x4)<|.br (v18==12) (.cs (decide (E0.N>=0)) (.k4 3<|.cs (decide (E0.N<=99)) (.k4 4<|.cs (decide (E0.M>=0)) (.k4 5<|.rt (decide (E0.M<=99)))<|.k4 5<|.rt false)<|.k4 4<|.b4 false<|.rt false)<|.k4 3<|.b8 false<|.rt false)<|.br (v18==13) (.cs (decide (E0.N>=(-99))) (.k4 4<|.cs (decide (E0.N<=99)) (.k4 5<|.cs (decide (E0.M>=(-99))) (.k4 6<|.rt (decide (E0.M<=99)))<|.k4 6<|.rt false)<|.k4 5<|.b4 false<|.rt false)<|.k4 4<|.b8 false<|.rt false)<|.rt true
def Z2v(E0:ai)(v18:Int)(v25:Bool):LT ma Bool:=
.br v25 (.call (Z7c E0.Sub) λx2=>.rt x2)<|.br (v18==6) (.cs (decide (E0.N>=0)) (.k4 2<|.rt (decide (E0.N<=31)))<|.k4 2<|.rt false)<|.br (v18==7) (.cs (decide (E0.N>=1)) (.k4 3<|.rt (decide (E0.N<=31)))<|.k4 3<|.rt false)<|.br (v18==8) (.j0 (.L2 E0 v18 (v18==8)) (Z2u E0 v18 (v18==8)))<|.j0 (.L2 E0 v18 (v18==9)) (Z2u E0 v18 (v18==9))
def Z2w(E0:ai)(v18:Int)(v19:Bool):LT ma Bool:=
.br v19 (.call (ZdU E0.N) λx2=>.rt x2)<|.br (v18==4) (.j0 (.L1 E0 v18 (v18==4)) (Z2v E0 v18 (v18==4)))<|.j0 (.L1 E0 v18 (v18==5)) (Z2v E0 v18 (v18==5))
def Nz(a0:ai):LT ma Bool:=
.lb 1001<|.cs (decide (a0.Kind<1)) (.k4 0<|.b5 true<|.kn [0]<|.rt false)<|.k4 0<|.cs (decide (a0.Kind>14)) (.k5 1<|.kn [0]<|.rt false)<|.k2 1<|.call (ZdT a0) λx3=>.k3 1<|.br (!(az (aF x3) (aF (⟨0,0,0,([]:By),(⟨0,0,0,0,0,0,0,([]:By),0,0,(⟨0,0⟩:ae),(⟨0,0⟩:ae),(⟨0,0⟩:ae)⟩:aj)⟩:ai)))) (.rt false)<|.br (a0.Kind==2) (.jn 0 (.L0 a0 a0.Kind (a0.Kind==2)) [.relab 1001 3000] (Z2w a0 a0.Kind (a0.Kind==2)))<|.jn 0 (.L0 a0 a0.Kind (a0.Kind==3)) [.relab 1001 3000] (Z2w a0 a0.Kind (a0.Kind==3))
def NA:LF ma Bool :=.m0 141 [.t 2] wB λ|.L0 E0 v18 v19=>([1,1,0,1,4,1],⟨107,[(1,.bptr 3000 0),(18,wI v18),(19,wB v19)],[(3000,.box (bx (aF E0)))]⟩,Z2w E0 v18 v19)|.L1 E0 v18 v25=>([1,1,0,1,4,1,3,1],⟨107,[(1,.bptr 3000 0),(18,wI v18),(25,wB v25)],[(3000,.box (bx (aF E0)))]⟩,Z2v E0 v18 v25)|.L2 E0 v18 v51=>([1,1,0,1,4,1,3,1,3,1,3,1,3,1],⟨107,[(1,.bptr 3000 0),(18,wI v18),(51,wB v51)],[(3000,.box (bx (aF E0)))]⟩,Z2u E0 v18 v51)
def NB:=λa0=>NA.run (Nz a0)
def NC(a0){r}(h:NB a0=some r):Fn PR 141 [wA (aF a0)] (wB r):=NA.fn h
inductive rz where
 |L0 (v0:Bys) (v1:Int) (v2:By) (v7:By) (v8:Int)
def ND(v0:Bys)(v1:Int)(v2:By)(v7:By)(v8:Int):LT rz (By):=
.len cS v0<|.br (decide (v8<(v0.length:Int))) (.call (Bd v1 v8) λx3=>.br x3 (.br (!(v7==([]:By))) (.ok (v7.length+v2.length<=9223372036854775807)<|.idx cS v0 v8 λx10=>.ok ((v7++v2).length+x10.length<=9223372036854775807)<|.g0 (.L0 v0 v1 v2 ((v7++v2)++x10) (IntKind.wrap .i64 (v8+1))))<|.idx cS v0 v8 λx17=>.ok (v7.length+x17.length<=9223372036854775807)<|.g0 (.L0 v0 v1 v2 (v7++x17) (IntKind.wrap .i64 (v8+1))))<|.g0 (.L0 v0 v1 v2 v7 (IntKind.wrap .i64 (v8+1))))<|.rt v7
def NF(a0:Bys)(a1:Int)(a2:By):LT rz (By):=
.g0 (.L0 a0 a1 a2 ([]:By) 0)
def Z7g:LF rz (By) :=.m0 240 [.t 6] wS λ|.L0 v0 v1 v2 v7 v8=>([1,1,0,1,4],⟨30,[(0,wL cS v0),(1,wI v1),(2,wS v2),(7,wS v7),(8,wI v8)],[]⟩,ND v0 v1 v2 v7 v8)
def NG:=λa0 a1 a2=>Z7g.run (NF a0 a1 a2)
def ZdV(a0)(a1)(a2){r}(h:NG a0 a1 a2=some r):Fn PR 240 [wL cS a0,wI a1,wS a2] (wS r):=Z7g.fn h
def Z96(a0:Int):LT Empty (By):=
.cs (decide (a0<1)) (.k3 0<|.kn [0]<|.rt ([]:By))<|.k3 0<|.br (decide (a0>63)) (.rt ([]:By))<|.call (Z7b) λx3=>.call (ZdV x3 a0 ([43]:By)) λx5=>.rt x5
def Z97:LF Empty (By) :=.z0 187 [.t 2] wS
def NH:=λa0=>Z97.run (Z96 a0)
def Bf(a0){r}(h:NH a0=some r):Fn PR 187 [wI a0] (wS r):=Z97.fn h
def NI(a0:Int):LT Empty Bool:=
.cs (decide (a0>=0)) (.k3 0<|.rt (decide (a0<=31)))<|.k3 0<|.rt false
def NJ:LF Empty Bool :=.z0 241 [.t 2] wB
def NK:=λa0=>NJ.run (NI a0)
def ZdW(a0){r}(h:NK a0=some r):Fn PR 241 [wI a0] (wB r):=NJ.fn h
def NL(a0:Int):LT Empty (By):=
.br (a0==0) (.rt ([97,109,98,101,114]:By))<|.br (a0==1) (.rt ([99,111,98,97,108,116]:By))<|.br (a0==2) (.rt ([106,101,116]:By))<|.br (a0==3) (.rt ([114,117,98,121]:By))<|.br (a0==4) (.rt ([101,109,101,114,97,108,100]:By))<|.rt ([]:By)
def NM:LF Empty (By) :=.z0 242 [.t 2] wS
def NN:=λa0=>NM.run (NL a0)
def Z2b(a0){r}(h:NN a0=some r):Fn PR 242 [wI a0] (wS r):=NM.fn h
inductive rA where
 |L0 (v0:Int) (v3:By) (v4:Int)
def NO(v0:Int)(v3:By)(v4:Int):LT rA (By):=
.br (decide (v4<5)) (.ok (¬v4<0)<|.ok ((Z65 .i64 1 v4)≠0)<|.dc ((2:Int)≠0) rfl<|.br ((Int.tmod (fM .i64 v0 (Z65 .i64 1 v4)) 2)==1) (.br (!(v3==([]:By))) (.ok (v3.length+([43]:By).length<=9223372036854775807)<|.call (Z2b v4) λx10=>.ok ((v3++([43]:By)).length+x10.length<=9223372036854775807)<|.g0 (.L0 v0 ((v3++([43]:By))++x10) (IntKind.wrap .i64 (v4+1))))<|.call (Z2b v4) λx17=>.ok (v3.length+x17.length<=9223372036854775807)<|.g0 (.L0 v0 (v3++x17) (IntKind.wrap .i64 (v4+1))))<|.g0 (.L0 v0 v3 (IntKind.wrap .i64 (v4+1))))<|.rt v3
def NP(a0:Int):LT rA (By):=
.call (ZdW a0) λx1=>.br (!x1) (.rt ([]:By))<|.br (a0==0) (.rt ([110,111,110,101]:By))<|.g0 (.L0 a0 ([]:By) 0)
def Bg:LF rA (By) :=.m0 188 [.t 2] wS λ|.L0 v0 v3 v4=>([1,1,1,1,0,1,4],⟨29,[(0,wI v0),(3,wS v3),(4,wI v4)],[]⟩,NO v0 v3 v4)
def NQ:=λa0=>Bg.run (NP a0)
def NR(a0){r}(h:NQ a0=some r):Fn PR 188 [wI a0] (wS r):=Bg.fn h
def NS:LT Empty (Bys):=
.lb 1001<|.ret [([102,108,121,105,110,103]:By),([114,101,97,99,104]:By),([104,97,115,116,101]:By),([118,105,103,105,108,97,110,116]:By),([116,114,97,109,112,108,101]:By),([102,105,114,115,116,45,115,116,114,105,107,101]:By),([100,111,117,98,108,101,45,115,116,114,105,107,101]:By),([100,101,97,100,108,121]:By),([108,105,102,101,108,105,110,107]:By),([109,101,110,97,99,101]:By),([100,101,102,101,110,100,101,114]:By),([119,97,114,100,101,100]:By),([115,116,117,114,100,121]:By),([101,108,117,115,105,118,101]:By),([110,111,45,97,116,116,97,99,107]:By),([110,111,45,98,108,111,99,107]:By),([109,117,115,116,45,97,116,116,97,99,107]:By)] [.relab 1001 5000]
def NT:LF Empty (Bys) :=.z 299 [.t 0] true (λr=>[(5000,wR cS 1 r)]) (λr=>(wO cS 5000 r))
def Bh:=NT.run (NS)
def ZdX{r}(h:Bh=some r):FnG PR 299 [] [] [(5000,wR cS 1 r)] (wO cS 5000 r):=NT.fn h
def ZdY{r:Bys}(h:Bh=some r):Fn PR 299 [] (wL cS r):=FnG.frozen (C:=LT.RL cS r/\True) (ZdX h) ⟨rfl,aa⟩ ar
def NU(a0:Int):LT Empty (By):=
.cs (decide (a0<0)) (.k3 0<|.kn [0]<|.rt ([]:By))<|.k3 0<|.br (decide (a0>16)) (.rt ([]:By))<|.call (ZdY) λx3=>.idx cS x3 a0 λx5=>.rt x5
def NV:LF Empty (By) :=.z0 243 [.t 2] wS
def NW:=λa0=>NV.run (NU a0)
def Bi(a0){r}(h:NW a0=some r):Fn PR 243 [wI a0] (wS r):=NV.fn h
inductive rB where
 |L0 (v0:Int) (v3:By) (v4:Int)
def NX(v0:Int)(v3:By)(v4:Int):LT rB (By):=
.br (decide (v4<17)) (.dc ((2:Int)≠0) rfl<|.br ((Int.tmod v0 2)==1) (.br (!(v3==([]:By))) (.ok (v3.length+([43]:By).length<=9223372036854775807)<|.call (Bi v4) λx6=>.ok ((v3++([43]:By)).length+x6.length<=9223372036854775807)<|.dc ((2:Int)≠0) rfl<|.g0 (.L0 (fM .i64 v0 2) ((v3++([43]:By))++x6) (IntKind.wrap .i64 (v4+1))))<|.call (Bi v4) λx13=>.ok (v3.length+x13.length<=9223372036854775807)<|.dc ((2:Int)≠0) rfl<|.g0 (.L0 (fM .i64 v0 2) (v3++x13) (IntKind.wrap .i64 (v4+1))))<|.dc ((2:Int)≠0) rfl<|.g0 (.L0 (fM .i64 v0 2) v3 (IntKind.wrap .i64 (v4+1))))<|.br (v3==([]:By)) (.rt ([110,111,110,101]:By))<|.rt v3
def NY(a0:Int):LT rB (By):=
.call (Nm a0) λx1=>.br (!x1) (.rt ([]:By))<|.g0 (.L0 a0 ([]:By) 0)
def Bj:LF rB (By) :=.m0 189 [.t 2] wS λ|.L0 v0 v3 v4=>([1,1,1,0,1,4],⟨28,[(0,wI v0),(3,wS v3),(4,wI v4)],[]⟩,NX v0 v3 v4)
def NZ:=λa0=>Bj.run (NY a0)
def N0(a0){r}(h:NZ a0=some r):Fn PR 189 [wI a0] (wS r):=Bj.fn h
def Z98:LT Empty (Bys):=
.lb 1001<|.ret [([]:By),([105,110,45,104,97,110,100]:By),([105,110,45,108,105,98,114,97,114,121]:By),([105,110,45,103,114,97,118,101,121,97,114,100]:By),([105,110,45,101,120,105,108,101]:By),([111,110,45,115,116,97,99,107]:By)] [.relab 1001 5000]
def Z99:LF Empty (Bys) :=.z 244 [.t 0] true (λr=>[(5000,wR cS 1 r)]) (λr=>(wO cS 5000 r))
def Z4c:=Z99.run (Z98)
def ZdZ{r}(h:Z4c=some r):FnG PR 244 [] [] [(5000,wR cS 1 r)] (wO cS 5000 r):=Z99.fn h
def Zd0{r:Bys}(h:Z4c=some r):Fn PR 244 [] (wL cS r):=FnG.frozen (C:=LT.RL cS r/\True) (ZdZ h) ⟨rfl,aa⟩ ar
def N1:LT Empty (Bys):=
.lb 1001<|.ret [([]:By),([121,111,117,114,115]:By),([116,104,101,105,114,115]:By)] [.relab 1001 5000]
def N2:LF Empty (Bys) :=.z 245 [.t 0] true (λr=>[(5000,wR cS 1 r)]) (λr=>(wO cS 5000 r))
def Z7h:=N2.run (N1)
def Zd1{r}(h:Z7h=some r):FnG PR 245 [] [] [(5000,wR cS 1 r)] (wO cS 5000 r):=N2.fn h
def Zd2{r:Bys}(h:Z7h=some r):Fn PR 245 [] (wL cS r):=FnG.frozen (C:=LT.RL cS r/\True) (Zd1 h) ⟨rfl,aa⟩ ar
def N3:LT Empty (Bys):=
.lb 1001<|.ret [([]:By),([115,101,108,102]:By),([111,116,104,101,114]:By)] [.relab 1001 5000]
def N4:LF Empty (Bys) :=.z 246 [.t 0] true (λr=>[(5000,wR cS 1 r)]) (λr=>(wO cS 5000 r))
def Z4d:=N4.run (N3)
def Zd3{r}(h:Z4d=some r):FnG PR 246 [] [] [(5000,wR cS 1 r)] (wO cS 5000 r):=N4.fn h
def Zd4{r:Bys}(h:Z4d=some r):Fn PR 246 [] (wL cS r):=FnG.frozen (C:=LT.RL cS r/\True) (Zd3 h) ⟨rfl,aa⟩ ar
def N5:LT Empty (Bys):=
.lb 1001<|.ret [([]:By),([116,97,112,112,101,100]:By),([117,110,116,97,112,112,101,100]:By)] [.relab 1001 5000]
def N6:LF Empty (Bys) :=.z 247 [.t 0] true (λr=>[(5000,wR cS 1 r)]) (λr=>(wO cS 5000 r))
def Z7i:=N6.run (N5)
def Zd5{r}(h:Z7i=some r):FnG PR 247 [] [] [(5000,wR cS 1 r)] (wO cS 5000 r):=N6.fn h
def Zd6{r:Bys}(h:Z7i=some r):Fn PR 247 [] (wL cS r):=FnG.frozen (C:=LT.RL cS r/\True) (Zd5 h) ⟨rfl,aa⟩ ar
inductive Z2x where
 |L0 (v0:Int) (v1:Int) (v5:Int)
def N7(v0:Int)(v1:Int)(v5:Int):LT Z2x Bool:=
.br (decide (v5<v1)) (.dc ((2:Int)≠0) rfl<|.g0 (.L0 (fM .i64 v0 2) v1 (IntKind.wrap .i64 (v5+1))))<|.dc ((2:Int)≠0) rfl<|.rt ((Int.tmod v0 2)==1)
def N8(a0:Int)(a1:Int):LT Z2x Bool:=
.g0 (.L0 a0 a1 0)
def Bk:LF Z2x Bool :=.m0 249 [.t 4] wB λ|.L0 v0 v1 v5=>([1,0,1,4],⟨16,[(0,wI v0),(1,wI v1),(5,wI v5)],[]⟩,N7 v0 v1 v5)
def N9:=λa0 a1=>Bk.run (N8 a0 a1)
def rC(a0)(a1){r}(h:N9 a0 a1=some r):Fn PR 249 [wI a0,wI a1] (wB r):=Bk.fn h
inductive rD where
 |L0 (v0:Int) (v3:Int) (v4:Int)
def Oa(v0:Int)(v3:Int)(v4:Int):LT rD (By):=
.br (decide (v4<v0)) (.g0 (.L0 v0 (IntKind.wrap .i64 (v3*2)) (IntKind.wrap .i64 (v4+1))))<|.call (Bf v3) λx6=>.rt x6
def Ob(a0:Int):LT rD (By):=
.g0 (.L0 a0 1 0)
def Z05:LF rD (By) :=.m0 250 [.t 2] wS λ|.L0 v0 v3 v4=>([1,1,0,1,4],⟨14,[(0,wI v0),(3,wI v3),(4,wI v4)],[]⟩,Oa v0 v3 v4)
def Oc:=λa0=>Z05.run (Ob a0)
def Od(a0){r}(h:Oc a0=some r):Fn PR 250 [wI a0] (wS r):=Z05.fn h
def Oe:LT Empty (Bys):=
.lb 1001<|.ret [([]:By),([62,61]:By),([60,61]:By),([61]:By)] [.relab 1001 5000]
def Of:LF Empty (Bys) :=.z 300 [.t 0] true (λr=>[(5000,wR cS 1 r)]) (λr=>(wO cS 5000 r))
def Bl:=Of.run (Oe)
def Zd7{r}(h:Bl=some r):FnG PR 300 [] [] [(5000,wR cS 1 r)] (wO cS 5000 r):=Of.fn h
def Zd8{r:Bys}(h:Bl=some r):Fn PR 300 [] (wL cS r):=FnG.frozen (C:=LT.RL cS r/\True) (Zd7 h) ⟨rfl,aa⟩ ar
inductive Z7j where
 |L0 (v0:Int) (v3:By)
def mb(v0:Int)(v3:By):LT Z7j (By):=
.br (decide (v0>0)) (.dc ((10:Int)≠0) rfl<|.dr [.lit]<|.str [IntKind.wrap .u8 (IntKind.wrap .u64 (48+(Int.tmod v0 10)))] λx4=>.ok (x4.length+v3.length<=9223372036854775807)<|.dc ((10:Int)≠0) rfl<|.g0 (.L0 (fM .u64 v0 10) (x4++v3)))<|.rt v3
def Og(a0:Int):LT Z7j (By):=
.dc ((10:Int)≠0) rfl<|.dr [.lit]<|.str [IntKind.wrap .u8 (IntKind.wrap .u64 (48+(Int.tmod a0 10)))] λx3=>.dc ((10:Int)≠0) rfl<|.g0 (.L0 (fM .u64 a0 10) x3)
def vH:LF Z7j (By) :=.m0 253 [.t 2] wS λ|.L0 v0 v3=>([1,1,0,1,4],⟨25,[(0,.t (.int .u64 v0)),(3,wS v3)],[]⟩,mb v0 v3)
def Bm:=λa0=>vH.run (Og a0)
def Oh(a0){r}(h:Bm a0=some r):Fn PR 253 [.t (.int .u64 a0)] (wS r):=vH.fn h
def Oi(a0:Int):LT Empty (By):=
.br (decide (a0<0)) (.call (Oh (IntKind.wrap .u64 (0-(IntKind.wrap .u64 a0)))) λx4=>.ok (([45]:By).length+x4.length<=9223372036854775807)<|.rt (([45]:By)++x4))<|.call (Oh (IntKind.wrap .u64 a0)) λx10=>.rt x10
def Oj:LF Empty (By) :=.z0 191 [.t 2] wS
def Ol:=λa0=>Oj.run (Oi a0)
def nX(a0){r}(h:Ol a0=some r):Fn PR 191 [wI a0] (wS r):=Oj.fn h
def Om(a0:By)(a1:ae):LT Empty (By):=
.lb 1003<|.br (a1.Kind==0) (.rt ([]:By))<|.call (Zd8) λx2=>.idx cS x2 a1.Kind λx4=>.ok (a0.length+x4.length<=9223372036854775807)<|.call (nX a1.N) λx10=>.ok ((a0++x4).length+x10.length<=9223372036854775807)<|.rt ((a0++x4)++x10)
def Oo:LF Empty (By) :=.z0 251 [.t 4] wS
def Oq:=λa0 a1=>Oo.run (Om a0 a1)
def Bn(a0)(a1){r}(h:Oq a0 a1=some r):Fn PR 251 [wS a0,wA (e9 a1)] (wS r):=Oo.fn h
inductive rE where
 |L0 (v0:Bys) (v1:By) (v5:By) (v6:Int)
def Ot(v0:Bys)(v1:By)(v5:By)(v6:Int):LT rE (By):=
.len cS v0<|.br (decide (v6<(v0.length:Int))) (.br (decide (v6>0)) (.ok (v5.length+v1.length<=9223372036854775807)<|.idx cS v0 v6 λx7=>.ok ((v5++v1).length+x7.length<=9223372036854775807)<|.g0 (.L0 v0 v1 ((v5++v1)++x7) (IntKind.wrap .i64 (v6+1))))<|.idx cS v0 v6 λx14=>.ok (v5.length+x14.length<=9223372036854775807)<|.g0 (.L0 v0 v1 (v5++x14) (IntKind.wrap .i64 (v6+1))))<|.rt v5
def Ou(a0:Bys)(a1:By):LT rE (By):=
.g0 (.L0 a0 a1 ([]:By) 0)
def Bo:LF rE (By) :=.m0 252 [.t 4] wS λ|.L0 v0 v1 v5 v6=>([1,1,0,1,4],⟨25,[(0,wL cS v0),(1,wS v1),(5,wS v5),(6,wI v6)],[]⟩,Ot v0 v1 v5 v6)
def Ov:=λa0 a1=>Bo.run (Ou a0 a1)
def Zd9(a0)(a1){r}(h:Ov a0 a1=some r):Fn PR 252 [wL cS a0,wS a1] (wS r):=Bo.fn h
def Ow(b0:Bys)(a1:By):LT Empty (Bys):=
.br (a1==([]:By)) (.ret b0 [.relab 0 5000])<|.dr [.lit]<|.apR cS 16 b0 [a1] λx2=>.ret x2 [.relab 0 5000]
def Ox:LF Empty (Bys) :=.z 248 [.t 4] true (λr=>[(5000,wR cS 1 r)]) (λr=>(wO cS 5000 r))
def Oy:=λb0 a1=>Ox.run (Ow b0 a1)
def mc(b0)(a1){r}(h:Oy b0 a1=some r):FnG PR 248 [(0,wR cS 1 b0)] [wO cS 0 b0,wS a1] [(5000,wR cS 1 r)] (wO cS 5000 r):=Ox.fn h
inductive jo where
 |L0 (E0:aj) (v6:Bys) (v7:Bys) (v8:Int)
 |L1 (E0:aj) (v6:Bys) (v7:Bys) (v9:Int)
 |L2 (E0:aj) (v6:Bys) (v7:Bys) (v10:Int)
 |L3 (E0:aj) (v6:Bys) (v7:Bys) (v11:Int)
 |L4 (E0:aj) (v6:Bys) (v7:Bys)
 |L5 (E0:aj) (v6:Bys) (v7:Bys) (v12:Int)
def rF(E0:aj)(v6:Bys)(v7:Bys):LT jo (By):=
.g0 (.L5 E0 v6 v7 0)
def Oz(E0:aj)(v6:Bys)(v7:Bys)(v8:Int):LT jo (By):=
.br (decide (v8<6)) (.call (rC E0.Types v8) λx2=>.br x2 (.call (Od v8) λx5=>.dr [.lit]<|.apR cS 16 v7 [x5] λx7=>.g0 (.L0 E0 v6 x7 (IntKind.wrap .i64 (v8+1))))<|.g0 (.L0 E0 v6 v7 (IntKind.wrap .i64 (v8+1))))<|.g0 (.L1 E0 v6 v7 0)
def OA(E0:aj)(v6:Bys)(v7:Bys)(v9:Int):LT jo (By):=
.br (decide (v9<6)) (.call (rC E0.NotTypes v9) λx2=>.br x2 (.call (Od v9) λx5=>.ok (([110,111,110,45]:By).length+x5.length<=9223372036854775807)<|.dr [.lit]<|.apR cS 16 v7 [([110,111,110,45]:By)++x5] λx10=>.g0 (.L1 E0 v6 x10 (IntKind.wrap .i64 (v9+1))))<|.g0 (.L1 E0 v6 v7 (IntKind.wrap .i64 (v9+1))))<|.g0 (.L2 E0 v6 v7 0)
def OB(E0:aj)(v6:Bys)(v7:Bys)(v10:Int):LT jo (By):=
.br (decide (v10<5)) (.call (rC E0.Colors v10) λx2=>.br x2 (.call (Z2b v10) λx5=>.dr [.lit]<|.apR cS 16 v7 [x5] λx7=>.g0 (.L2 E0 v6 x7 (IntKind.wrap .i64 (v10+1))))<|.g0 (.L2 E0 v6 v7 (IntKind.wrap .i64 (v10+1))))<|.g0 (.L3 E0 v6 v7 0)
def OC(E0:aj)(v6:Bys)(v7:Bys)(v11:Int):LT jo (By):=
.br (decide (v11<5)) (.call (rC E0.NotColors v11) λx2=>.br x2 (.call (Z2b v11) λx5=>.ok (([110,111,110,45]:By).length+x5.length<=9223372036854775807)<|.dr [.lit]<|.apR cS 16 v7 [([110,111,110,45]:By)++x5] λx10=>.g0 (.L3 E0 v6 x10 (IntKind.wrap .i64 (v11+1))))<|.g0 (.L3 E0 v6 v7 (IntKind.wrap .i64 (v11+1))))<|.br (!(E0.Sub==([]:By))) (.ok (([115,117,98,58]:By).length+E0.Sub.length<=9223372036854775807)<|.dr [.lit]<|.apR cS 16 v7 [([115,117,98,58]:By)++E0.Sub] λx21=>.j0 (.L4 E0 v6 x21) (rF E0 v6 x21))<|.j0 (.L4 E0 v6 v7) (rF E0 v6 v7)
def OE(E0:aj)(v6:Bys)(v7:Bys)(v12:Int):LT jo (By):=
.br (decide (v12<17)) (.call (rC E0.Keys v12) λx2=>.br x2 (.call (Bi v12) λx5=>.ok (([119,105,116,104,58]:By).length+x5.length<=9223372036854775807)<|.dr [.lit]<|.apR cS 16 v7 [([119,105,116,104,58]:By)++x5] λx10=>.g0 (.L5 E0 v6 x10 (IntKind.wrap .i64 (v12+1))))<|.g0 (.L5 E0 v6 v7 (IntKind.wrap .i64 (v12+1))))<|.idx cS v6 E0.Tap λx17=>.callU (mc v7 x17) [20007] 1250000 λx19=>.call (Bn ([112,111,119,101,114]:By) E0.Power) λx21=>.callU (mc x19 x21) [1255000] 1300000 λx23=>.call (Bn ([116,111,117,103,104]:By) E0.Tough) λx25=>.callU (mc x23 x25) [1305000] 1350000 λx27=>.call (Bn ([118,97,108,117,101]:By) E0.Value) λx29=>.callU (mc x27 x29) [1355000] 1400000 λx31=>.lenO cS x31<|.br ((x31.length:Int)==0) (.rt ([97,110,121]:By))<|.rl cS x31<|.call (Zd9 x31 ([32]:By)) λx34=>.rt x34
def OF(a0:aj):LT jo (By):=
.lb 1001<|.call (iJ a0) λx1=>.br (!x1) (.rt ([]:By))<|.call (Zd0) λx4=>.call (Zd2) λx6=>.call (Zd4) λx8=>.call (Zd6) λx10=>.idx cS x4 a0.Zone λx12=>.dr [.ahead 26,.own 20 70260 1,.stop]<|.callU (mc ([]:Bys) x12) [70260] 270000 λx14=>.idx cS x6 a0.Who λx16=>.callU (mc x14 x16) [275000] 340000 λx18=>.idx cS x8 a0.Self λx20=>.callU (mc x18 x20) [345000] 410000 λx22=>.go (.L0 a0 x10 x22 0) [.relab 1001 3000,.relab 415000 20007]
def me:LF jo (By) :=.m0 190 [.t 2] wS λ|.L0 E0 v6 v7 v8=>([1,1,1,1,1,1,1,1,1,1,0,1,4],⟨145,[(1,.bptr 3000 0),(6,wL cS v6),(7,wO cS 20007 v7),(8,wI v8)],[(3000,.box (bx (bf E0))),(20007,wR cS 1 v7)]⟩,Oz E0 v6 v7 v8)|.L1 E0 v6 v7 v9=>([1,1,1,1,1,1,1,1,1,1,1,0,1,4],⟨145,[(1,.bptr 3000 0),(6,wL cS v6),(7,wO cS 20007 v7),(9,wI v9)],[(3000,.box (bx (bf E0))),(20007,wR cS 1 v7)]⟩,OA E0 v6 v7 v9)|.L2 E0 v6 v7 v10=>([1,1,1,1,1,1,1,1,1,1,1,1,0,1,4],⟨145,[(1,.bptr 3000 0),(6,wL cS v6),(7,wO cS 20007 v7),(10,wI v10)],[(3000,.box (bx (bf E0))),(20007,wR cS 1 v7)]⟩,OB E0 v6 v7 v10)|.L3 E0 v6 v7 v11=>([1,1,1,1,1,1,1,1,1,1,1,1,1,0,1,4],⟨145,[(1,.bptr 3000 0),(6,wL cS v6),(7,wO cS 20007 v7),(11,wI v11)],[(3000,.box (bx (bf E0))),(20007,wR cS 1 v7)]⟩,OC E0 v6 v7 v11)|.L4 E0 v6 v7=>([1,1,1,1,1,1,1,1,1,1,1,1,1,1,1],⟨145,[(1,.bptr 3000 0),(6,wL cS v6),(7,wO cS 20007 v7)],[(3000,.box (bx (bf E0))),(20007,wR cS 1 v7)]⟩,rF E0 v6 v7)|.L5 E0 v6 v7 v12=>([1,1,1,1,1,1,1,1,1,1,1,1,1,1,1,0,1,4],⟨145,[(1,.bptr 3000 0),(6,wL cS v6),(7,wO cS 20007 v7),(12,wI v12)],[(3000,.box (bx (bf E0))),(20007,wR cS 1 v7)]⟩,OE E0 v6 v7 v12)
def OG:=λa0=>me.run (OF a0)
def Zea(a0){r}(h:OG a0=some r):Fn PR 190 [wA (bf a0)] (wS r):=me.fn h
def OH(a0:ai):LT Empty (By):=
.lb 1001<|.call (NC a0) λx1=>.br (!x1) (.rt ([]:By))<|.br (a0.Kind==1) (.rt ([99,111,110,116,114,111,108]:By))<|.br (a0.Kind==2) (.call (Bf a0.N) λx6=>.ok (([116,121,112,101,115,61]:By).length+x6.length<=9223372036854775807)<|.rt (([116,121,112,101,115,61]:By)++x6))<|.br (a0.Kind==3) (.call (Bf a0.N) λx12=>.ok (([116,121,112,101,115,43,61]:By).length+x12.length<=9223372036854775807)<|.rt (([116,121,112,101,115,43,61]:By)++x12))<|.br (a0.Kind==4) (.ok (([115,117,98,61]:By).length+a0.Sub.length<=9223372036854775807)<|.rt (([115,117,98,61]:By)++a0.Sub))<|.br (a0.Kind==5) (.ok (([115,117,98,43,61]:By).length+a0.Sub.length<=9223372036854775807)<|.rt (([115,117,98,43,61]:By)++a0.Sub))<|.br (a0.Kind==6) (.call (NR a0.N) λx26=>.ok (([99,111,108,111,114,115,61]:By).length+x26.length<=9223372036854775807)<|.rt (([99,111,108,111,114,115,61]:By)++x26))<|.br (a0.Kind==7) (.call (NR a0.N) λx32=>.ok (([99,111,108,111,114,115,43,61]:By).length+x32.length<=9223372036854775807)<|.rt (([99,111,108,111,114,115,43,61]:By)++x32))<|.br (a0.Kind==8) (.call (N0 a0.N) λx38=>.ok (([107,101,121,115,43,61]:By).length+x38.length<=9223372036854775807)<|.rt (([107,101,121,115,43,61]:By)++x38))<|.br (a0.Kind==9) (.call (N0 a0.N) λx44=>.ok (([107,101,121,115,45,61]:By).length+x44.length<=9223372036854775807)<|.rt (([107,101,121,115,45,61]:By)++x44))<|.br (a0.Kind==10) (.rt ([98,108,97,110,107]:By))<|.br (a0.Kind==11) (.call (Zea a0.Filter) λx51=>.ok (([112,116,61,99,111,117,110,116,40]:By).length+x51.length<=9223372036854775807)<|.ok ((([112,116,61,99,111,117,110,116,40]:By)++x51).length+([41]:By).length<=9223372036854775807)<|.rt ((([112,116,61,99,111,117,110,116,40]:By)++x51)++([41]:By)))<|.br (a0.Kind==12) (.call (nX a0.N) λx58=>.ok (([112,116,61]:By).length+x58.length<=9223372036854775807)<|.ok ((([112,116,61]:By)++x58).length+([47]:By).length<=9223372036854775807)<|.call (nX a0.M) λx65=>.ok (((([112,116,61]:By)++x58)++([47]:By)).length+x65.length<=9223372036854775807)<|.rt (((([112,116,61]:By)++x58)++([47]:By))++x65))<|.br (a0.Kind==13) (.call (nX a0.N) λx71=>.ok (([112,116,43,61]:By).length+x71.length<=9223372036854775807)<|.ok ((([112,116,43,61]:By)++x71).length+([47]:By).length<=9223372036854775807)<|.call (nX a0.M) λx78=>.ok (((([112,116,43,61]:By)++x71)++([47]:By)).length+x78.length<=9223372036854775807)<|.rt (((([112,116,43,61]:By)++x71)++([47]:By))++x78))<|.rt ([112,116,45,115,119,105,116,99,104]:By)
def OI:LF Empty (By) :=.z0 142 [.t 2] wS
def OJ:=λa0=>OI.run (OH a0)
def OL(a0){r}(h:OJ a0=some r):Fn PR 142 [wA (aF a0)] (wS r):=OI.fn h
inductive rG where
 |L0 (v0:List ai) (v3:By) (v4:Int)
def OM(v0:List ai)(v3:By)(v4:Int):LT rG (By):=
.len aF v0<|.br (decide (v4<(v0.length:Int))) (.idx aF v0 v4 λx3=>.call (NC x3) λx5=>.br (!x5) (.rt ([]:By))<|.br (decide (v4>0)) (.ok (v3.length+([44,32]:By).length<=9223372036854775807)<|.ag aF x3 0<|.call (OL x3) λx11=>.ok ((v3++([44,32]:By)).length+x11.length<=9223372036854775807)<|.g0 (.L0 v0 ((v3++([44,32]:By))++x11) (IntKind.wrap .i64 (v4+1))))<|.ag aF x3 0<|.call (OL x3) λx17=>.ok (v3.length+x17.length<=9223372036854775807)<|.g0 (.L0 v0 (v3++x17) (IntKind.wrap .i64 (v4+1))))<|.rt v3
def ON(a0:List ai):LT rG (By):=
.len aF a0<|.cs ((a0.length:Int)==0) (.k4 0<|.kn [0]<|.rt ([]:By))<|.k2 0<|.len aF a0<|.k2 0<|.br (decide ((a0.length:Int)>6)) (.rt ([]:By))<|.g0 (.L0 a0 ([]:By) 0)
def Z06:LF rG (By) :=.m0 103 [.t 2] wS λ|.L0 v0 v3 v4=>([1,1,1,0,1,4],⟨37,[(0,wL aF v0),(3,wS v3),(4,wI v4)],[]⟩,OM v0 v3 v4)
def OO:=λa0=>Z06.run (ON a0)
def Bp(a0){r}(h:OO a0=some r):Fn PR 103 [wL aF a0] (wS r):=Z06.fn h
def OP(a0:gM):LT Empty Bool:=
.lb 1001<|.call (Z9z a0.Mana) λx1=>.cs x1 (.k5 0<|.cs (a0.Mana.X==0) (.k4 1<|.cs (decide (a0.Life>=0)) (.k4 2<|.rt (decide (a0.Life<=99)))<|.k4 2<|.rt false)<|.k4 1<|.b4 false<|.rt false)<|.k5 0<|.b8 false<|.rt false
def OQ:LF Empty Bool :=.z0 129 [.t 2] wB
def OR:=λa0=>OQ.run (OP a0)
def Zeb(a0){r}(h:OR a0=some r):Fn PR 129 [wA (hN a0)] (wB r):=OQ.fn h
def OS(a0:Int):LT Empty (By):=
.br (a0==1) (.rt ([101,110,116,101,114,115]:By))<|.br (a0==2) (.rt ([108,101,97,118,101,115]:By))<|.br (a0==3) (.rt ([100,105,101,115]:By))<|.br (a0==4) (.rt ([97,116,116,97,99,107,115]:By))<|.br (a0==5) (.rt ([98,108,111,99,107,115]:By))<|.br (a0==6) (.rt ([100,101,97,108,115]:By))<|.br (a0==7) (.rt ([100,101,97,108,116]:By))<|.br (a0==8) (.rt ([100,114,97,119,115]:By))<|.br (a0==9) (.rt ([99,97,115,116,115]:By))<|.br (a0==10) (.rt ([117,112,107,101,101,112]:By))<|.br (a0==11) (.rt ([101,110,100]:By))<|.br (a0==12) (.rt ([103,97,105,110,115]:By))<|.br (a0==13) (.rt ([108,111,115,101,115]:By))<|.br (a0==14) (.rt ([112,108,97,99,101,100]:By))<|.rt ([]:By)
def OT:LF Empty (By) :=.z0 176 [.t 2] wS
def OU:=λa0=>OT.run (OS a0)
def OV(a0){r}(h:OU a0=some r):Fn PR 176 [wI a0] (wS r):=OT.fn h
def OW(a0:Int):LT Empty Bool:=
.cs (a0==8) (.k3 0<|.b8 true<|.b4 true<|.rt true)<|.k3 0<|.cs (a0==9) (.k3 1<|.b8 true<|.kb true<|.rt true)<|.k3 1<|.cs (a0==10) (.k3 2<|.b5 true<|.kb true<|.rt true)<|.k3 2<|.cs (a0==11) (.k3 3<|.b3 true<|.rt true)<|.k3 3<|.cs (a0==12) (.k3 4<|.rt true)<|.k3 4<|.rt (a0==13)
def OX:LF Empty Bool :=.z0 177 [.t 2] wB
def OY:=λa0=>OX.run (OW a0)
def OZ(a0){r}(h:OY a0=some r):Fn PR 177 [wI a0] (wB r):=OX.fn h
def O4(a0:Int):LT Empty Bool:=
.call (OV a0) λx1=>.cs (!(x1==([]:By))) (.k2 0<|.call (OZ a0) λx4=>.k2 0<|.cs (!x4) (.k2 1<|.kg 0<|.kg 1<|.kg 0<|.rt true)<|.k2 1<|.kg 0<|.kg 1<|.kg 0<|.rt (a0==9))<|.k5 0<|.kg 0<|.rt false
def O5:LF Empty Bool :=.z0 178 [.t 2] wB
def O6:=λa0=>O5.run (O4 a0)
def Zec(a0){r}(h:O6 a0=some r):Fn PR 178 [wI a0] (wB r):=O5.fn h
inductive Z7k where
 |L0 (E0:eW)
def Z2y(E0:eW):LT Z7k Bool:=
.call (Zec E0.When) λx1=>.br (!x1) (.rt (az (bf E0.Filter) (bf (⟨0,0,0,0,0,0,0,([]:By),0,0,(⟨0,0⟩:ae),(⟨0,0⟩:ae),(⟨0,0⟩:ae)⟩:aj))))<|.br (E0.When==9) (.call (iJ E0.Filter) λx5=>.cs x5 (.k5 2<|.kg 2<|.rt (E0.Filter.Zone==5))<|.k5 2<|.kg 2<|.rt false)<|.call (iJ E0.Filter) λx8=>.cs x8 (.k5 2<|.kg 2<|.rt (E0.Filter.Zone==0))<|.k5 2<|.kg 2<|.rt false
def O7(a0:eW):LT Z7k Bool:=
.lb 1001<|.call (OV a0.When) λx1=>.cs (x1==([]:By)) (.k4 0<|.b8 true<|.b3 true<|.kn [0]<|.rt false)<|.k4 0<|.cs (decide (a0.Who<0)) (.k4 1<|.b5 true<|.b2 true<|.kn [0]<|.rt false)<|.k4 1<|.cs (decide (a0.Who>2)) (.k5 2<|.k2 2<|.kn [0]<|.rt false)<|.k3 2<|.call (OZ a0.When) λx6=>.k2 2<|.cs (!x6) (.k3 3<|.kg 2<|.kg 3<|.kg 2<|.br (a0.Who != 0) (.rt false)<|.jn 0 (.L0 a0) [.relab 1001 3000] (Z2y a0))<|.k3 3<|.kg 2<|.kg 3<|.kg 2<|.kn [0]<|.jn 0 (.L0 a0) [.relab 1001 3000] (Z2y a0)
def O8:LF Z7k Bool :=.m0 130 [.t 2] wB λ|.L0 E0=>([1,1],⟨50,[(1,.bptr 3000 0)],[(3000,.box (bx (gP E0)))]⟩,Z2y E0)
def O9:=λa0=>O8.run (O7 a0)
def Zed(a0){r}(h:O9 a0=some r):Fn PR 130 [wA (gP a0)] (wB r):=O8.fn h
def Pa(a0:aj):LT Empty Bool:=
.lb 1001<|.call (iJ a0) λx1=>.cs x1 (.k4 0<|.rt (a0.Zone==0))<|.k4 0<|.rt false
def Pb:LF Empty Bool :=.z0 181 [.t 2] wB
def Pc:=λa0=>Pb.run (Pa a0)
def Z7l(a0){r}(h:Pc a0=some r):Fn PR 181 [wA (bf a0)] (wB r):=Pb.fn h
def Pd(a0:dn):LT Empty Bool:=
.lb 1001<|.cs (a0.Who != 0) (.k5 0<|.kn [0]<|.rt false)<|.k3 0<|.call (Z7l a0.Filter) λx2=>.k2 0<|.br (!x2) (.rt false)<|.br (a0.Do==5) (.cs (a0.N==0) (.k4 3<|.cs (a0.Counter==0) (.k4 4<|.cs (a0.Zone==1) (.k3 5<|.kg 4<|.kg 5<|.kg 4<|.b3 true<|.kg 4<|.kb true<|.kg 4<|.rt true)<|.k3 5<|.kg 4<|.kg 5<|.kg 4<|.cs (a0.Zone==2) (.k3 6<|.kg 4<|.kg 6<|.kg 4<|.rt true)<|.k3 6<|.kg 4<|.kg 6<|.kg 4<|.rt (a0.Zone==4))<|.k8 4<|.rt false)<|.k4 3<|.b8 false<|.rt false)<|.br (a0.Do==6) (.cs (a0.N==0) (.k4 4<|.cs (a0.Counter==0) (.k4 5<|.rt (a0.Zone==0))<|.k4 5<|.rt false)<|.k4 4<|.b4 false<|.rt false)<|.br (a0.Do==7) (.cs (a0.Zone==0) (.k4 5<|.cs (decide (a0.N>=1)) (.k4 6<|.cs (decide (a0.N<=99)) (.k4 7<|.cs (decide (a0.Counter>=0)) (.k4 8<|.rt (decide (a0.Counter<3)))<|.k4 8<|.rt false)<|.k4 7<|.b4 false<|.rt false)<|.k4 6<|.b8 false<|.rt false)<|.k4 5<|.b8 false<|.b4 false<|.rt false)<|.rt false
def Pe:LF Empty Bool :=.z0 179 [.t 2] wB
def Pf:=λa0=>Pe.run (Pd a0)
def Zee(a0){r}(h:Pf a0=some r):Fn PR 179 [wA (fw a0)] (wB r):=Pe.fn h
def Pg(a0:dn):LT Empty Bool:=
.lb 1001<|.cs (a0.Zone != 0) (.k4 0<|.kn [0]<|.rt false)<|.k4 0<|.br (a0.Counter != 0) (.rt false)<|.cs (a0.Do==2) (.k4 2<|.kn [0]<|.cs (decide (a0.N>=1)) (.k4 3<|.rt (decide (a0.N<=99)))<|.k4 3<|.rt false)<|.k4 2<|.br (a0.Do==4) (.cs (decide (a0.N>=1)) (.k4 4<|.rt (decide (a0.N<=99)))<|.k4 4<|.rt false)<|.rt (a0.N==0)
def Ph:LF Empty Bool :=.z0 180 [.t 2] wB
def Pi:=λa0=>Ph.run (Pg a0)
def Zef(a0){r}(h:Pi a0=some r):Fn PR 180 [wA (fw a0)] (wB r):=Ph.fn h
inductive mf where
 |L0 (E0:dn) (v3:Bool) (v4:Bool)
 |L1 (E0:dn) (v3:Bool)
 |L2 (E0:dn) (v3:Bool) (v4:Bool) (v109:Bool)
def nY(E0:dn)(v3:Bool)(v4:Bool)(v109:Bool):LT mf Bool:=
.br v109 (.cs v4 (.k4 1<|.cs (decide (E0.Who>=0)) (.k4 2<|.cs (decide (E0.Who<=2)) (.k2 3<|.rt v3)<|.k2 3<|.rt false)<|.k4 2<|.b2 false<|.rt false)<|.k4 1<|.b5 false<|.kb false<|.rt false)<|.rt false
def mg(E0:dn)(v3:Bool):LT mf Bool:=
.cs (E0.Who==0) (.k3 0<|.call (Z7l E0.Filter) λx2=>.kg 0<|.cs x2 (.k8 1<|.rt true)<|.k4 1<|.cs (E0.Who==1) (.k3 2<|.kg 1<|.kg 2<|.kg 1<|.kb true<|.kg 1<|.kb true<|.kg 1<|.rt v3)<|.k3 2<|.kg 1<|.kg 2<|.kg 1<|.cs (E0.Who==2) (.kg 3<|.kg 1<|.kg 3<|.kg 1<|.rt v3)<|.kg 3<|.kg 1<|.kg 3<|.kg 1<|.rt false)<|.k4 0<|.b4 false<|.cs (E0.Who==1) (.k3 1<|.kb false<|.kg 1<|.kb false<|.kb true<|.kb false<|.kb true<|.kb false<|.rt v3)<|.k3 1<|.kb false<|.kg 1<|.kb false<|.cs (E0.Who==2) (.kg 2<|.kb false<|.kg 2<|.kb false<|.rt v3)<|.kg 2<|.kb false<|.kg 2<|.kb false<|.rt false
def nZ(E0:dn)(v3:Bool)(v4:Bool):LT mf Bool:=
.br (E0.On==1) (.cs (E0.Do != 1) (.k4 1<|.cs (E0.Do != 2) (.k4 2<|.cs (E0.Do != 3) (.k4 3<|.br (E0.Do != 4) (.rt false)<|.j0 (.L1 E0 v3) (mg E0 v3))<|.k4 3<|.kn [0]<|.j0 (.L1 E0 v3) (mg E0 v3))<|.k4 2<|.b4 false<|.kn [0]<|.j0 (.L1 E0 v3) (mg E0 v3))<|.k4 1<|.b8 false<|.kn [0]<|.j0 (.L1 E0 v3) (mg E0 v3))<|.br (E0.On==8) (.cs v4 (.k4 2<|.cs (E0.Who==0) (.k3 3<|.call (Z7l E0.Filter) λx9=>.kg 3<|.rt x9)<|.k4 3<|.rt false)<|.k4 2<|.b4 false<|.rt false)<|.br (E0.On==3) (.cs (E0.Do==4) (.k4 3<|.b4 true<|.cs (decide (E0.Who>=0)) (.k4 4<|.cs (decide (E0.Who<=2)) (.k2 5<|.rt v3)<|.k2 5<|.rt false)<|.k4 4<|.b2 false<|.rt false)<|.k4 3<|.cs (E0.Do==8) (.k4 4<|.cs (decide (E0.Who>=0)) (.k4 5<|.cs (decide (E0.Who<=2)) (.k2 6<|.rt v3)<|.k2 6<|.rt false)<|.k4 5<|.b2 false<|.rt false)<|.k4 4<|.b5 false<|.kb false<|.rt false)<|.br (E0.On==4) (.j0 (.L2 E0 v3 v4 (E0.On==4)) (nY E0 v3 v4 (E0.On==4)))<|.br (E0.On==5) (.j0 (.L2 E0 v3 v4 (E0.On==5)) (nY E0 v3 v4 (E0.On==5)))<|.j0 (.L2 E0 v3 v4 (E0.On==10)) (nY E0 v3 v4 (E0.On==10))
def Pj(a0:dn):LT mf Bool:=
.lb 1001<|.br (a0.On==2) (.call (Zee a0) λx2=>.rt x2)<|.call (Zef a0) λx4=>.br (!x4) (.rt false)<|.cs (a0.Do==3) (.k4 2<|.b4 true<|.jn 0 (.L0 a0 (az (bf a0.Filter) (bf (⟨0,0,0,0,0,0,0,([]:By),0,0,(⟨0,0⟩:ae),(⟨0,0⟩:ae),(⟨0,0⟩:ae)⟩:aj))) true) [.relab 1001 3000] (nZ a0 (az (bf a0.Filter) (bf (⟨0,0,0,0,0,0,0,([]:By),0,0,(⟨0,0⟩:ae),(⟨0,0⟩:ae),(⟨0,0⟩:ae)⟩:aj))) true))<|.k4 2<|.cs (a0.Do==4) (.k4 3<|.jn 0 (.L0 a0 (az (bf a0.Filter) (bf (⟨0,0,0,0,0,0,0,([]:By),0,0,(⟨0,0⟩:ae),(⟨0,0⟩:ae),(⟨0,0⟩:ae)⟩:aj))) true) [.relab 1001 3000] (nZ a0 (az (bf a0.Filter) (bf (⟨0,0,0,0,0,0,0,([]:By),0,0,(⟨0,0⟩:ae),(⟨0,0⟩:ae),(⟨0,0⟩:ae)⟩:aj))) true))<|.k4 3<|.jn 0 (.L0 a0 (az (bf a0.Filter) (bf (⟨0,0,0,0,0,0,0,([]:By),0,0,(⟨0,0⟩:ae),(⟨0,0⟩:ae),(⟨0,0⟩:ae)⟩:aj))) (a0.Do==8)) [.relab 1001 3000] (nZ a0 (az (bf a0.Filter) (bf (⟨0,0,0,0,0,0,0,([]:By),0,0,(⟨0,0⟩:ae),(⟨0,0⟩:ae),(⟨0,0⟩:ae)⟩:aj))) (a0.Do==8))
def Pk:LF mf Bool :=.m0 131 [.t 2] wB λ|.L0 E0 v3 v4=>([1,1,1,1,1],⟨127,[(1,.bptr 3000 0),(3,wB v3),(4,wB v4)],[(3000,.box (bx (fw E0)))]⟩,nZ E0 v3 v4)|.L1 E0 v3=>([1,1,1,1,1,0,1,4,1,2,1],⟨127,[(1,.bptr 3000 0),(3,wB v3)],[(3000,.box (bx (fw E0)))]⟩,mg E0 v3)|.L2 E0 v3 v4 v109=>([1,1,1,1,1,0,1,4,1,3,1,3,1,3,1],⟨127,[(1,.bptr 3000 0),(3,wB v3),(4,wB v4),(109,wB v109)],[(3000,.box (bx (fw E0)))]⟩,nY E0 v3 v4 v109)
def Pl:=λa0=>Pk.run (Pj a0)
def Zeg(a0){r}(h:Pl a0=some r):Fn PR 131 [wA (fw a0)] (wB r):=Pk.fn h
def Pm(a0:bo):LT Empty Bool:=
.lb 1001<|.br (!a0.Object) (.cs a0.Player (.k5 1<|.rt (az (bf a0.Filter) (bf (⟨0,0,0,0,0,0,0,([]:By),0,0,(⟨0,0⟩:ae),(⟨0,0⟩:ae),(⟨0,0⟩:ae)⟩:aj))))<|.k5 1<|.rt false)<|.call (iJ a0.Filter) λx3=>.cs x3 (.k3 1<|.cs (a0.Filter.Zone==0) (.k2 2<|.kg 1<|.kg 2<|.kg 1<|.b2 true<|.kg 1<|.kb true<|.kg 1<|.rt true)<|.k2 2<|.kg 1<|.kg 2<|.kg 1<|.cs (a0.Filter.Zone==3) (.k2 3<|.kg 1<|.kg 3<|.kg 1<|.rt true)<|.k2 3<|.kg 1<|.kg 3<|.kg 1<|.rt (a0.Filter.Zone==5))<|.k5 1<|.k2 1<|.rt false
def Pn:LF Empty Bool :=.z0 182 [.t 2] wB
def Po:=λa0=>Pn.run (Pm a0)
def Zeh(a0){r}(h:Po a0=some r):Fn PR 182 [wA (bS a0)] (wB r):=Pn.fn h
inductive rH where
 |L0 (v0:List bo) (v3:Int)
def Pp(v0:List bo)(v3:Int):LT rH Bool:=
.len bS v0<|.br (decide (v3<(v0.length:Int))) (.idx bS v0 v3 λx3=>.call (Zeh x3) λx5=>.br (!x5) (.rt false)<|.g0 (.L0 v0 (IntKind.wrap .i64 (v3+1))))<|.len bS v0<|.rt (decide ((v0.length:Int)<=4))
def Pq(a0:List bo):LT rH Bool:=
.g0 (.L0 a0 0)
def Bq:LF rH Bool :=.m0 132 [.t 2] wB λ|.L0 v0 v3=>([1,0,1,4],⟨19,[(0,wL bS v0),(3,wI v3)],[]⟩,Pp v0 v3)
def Pr:=λa0=>Bq.run (Pq a0)
def Zei(a0){r}(h:Pr a0=some r):Fn PR 132 [wL bS a0] (wB r):=Bq.fn h
def Ps(a0:Int):LT Empty (By):=
.cs (decide (a0<1)) (.k3 0<|.kn [0]<|.rt ([]:By))<|.k3 0<|.br (decide (a0>26)) (.rt ([]:By))<|.dr [.lit]<|.idx cS [([100,97,109,97,103,101]:By),([100,101,115,116,114,111,121]:By),([109,111,118,101]:By),([100,114,97,119]:By),([100,105,115,99,97,114,100]:By),([103,97,105,110]:By),([108,111,115,101]:By),([116,97,112]:By),([117,110,116,97,112]:By),([112,117,116]:By),([116,97,107,101]:By),([99,114,101,97,116,101]:By),([109,111,100]:By),([109,97,110,97]:By),([99,111,117,110,116,101,114]:By),([99,111,112,121]:By),([98,101,99,111,109,101]:By),([115,97,99,114,105,102,105,99,101]:By),([109,105,108,108]:By),([115,99,114,121]:By),([115,101,97,114,99,104]:By),([115,104,105,101,108,100]:By),([116,117,114,110]:By),([119,105,110]:By),([100,101,102,101,97,116]:By),([118,101,110,111,109]:By)] (IntKind.wrap .i64 (a0-1)) λx6=>.rt x6
def Pt:LF Empty (By) :=.z0 231 [.t 2] wS
def Pu:=λa0=>Pt.run (Ps a0)
def Zej(a0){r}(h:Pu a0=some r):Fn PR 231 [wI a0] (wS r):=Pt.fn h
inductive n3 where
 |L0 (v3:Int) (v4:Bool)
 |L1 (v3:Int) (v14:Bool)
def rI(v3:Int)(v14:Bool):LT n3 (By):=
.br v14 (.rt ([114,107,97]:By))<|.br (v3==12) (.rt ([114,99,97]:By))<|.br (v3==13) (.rt ([114,109]:By))<|.br (v3==14) (.rt ([112]:By))<|.br (v3==18) (.rt ([114,97,102]:By))<|.br (v3==20) (.rt ([97]:By))<|.br (v3==21) (.rt ([102]:By))<|.br (v3==23) (.kn [8]<|.rt ([]:By))<|.br (v3==24) (.rt ([]:By))<|.rt ([114,97]:By)
def jq(v3:Int)(v4:Bool):LT n3 (By):=
.br v4 (.rt ([114]:By))<|.br (v3==3) (.rt ([114,122]:By))<|.br (v3==10) (.j0 (.L1 v3 (v3==10)) (rI v3 (v3==10)))<|.j0 (.L1 v3 (v3==11)) (rI v3 (v3==11))
def Pv(a0:Int):LT n3 (By):=
.br (a0==2) (.j0 (.L0 a0 (a0==2)) (jq a0 (a0==2)))<|.br (a0==8) (.j0 (.L0 a0 (a0==8)) (jq a0 (a0==8)))<|.br (a0==9) (.j0 (.L0 a0 (a0==9)) (jq a0 (a0==9)))<|.br (a0==15) (.j0 (.L0 a0 (a0==15)) (jq a0 (a0==15)))<|.br (a0==16) (.j0 (.L0 a0 (a0==16)) (jq a0 (a0==16)))<|.br (a0==17) (.j0 (.L0 a0 (a0==17)) (jq a0 (a0==17)))<|.j0 (.L0 a0 (a0==25)) (jq a0 (a0==25))
def Pw:LF n3 (By) :=.m0 295 [.t 2] wS λ|.L0 v3 v4=>([1,0,1,4,1],⟨32,[(3,wI v3),(4,wB v4)],[]⟩,jq v3 v4)|.L1 v3 v14=>([1,0,1,4,1,3,1,3,1],⟨32,[(3,wI v3),(14,wB v14)],[]⟩,rI v3 v14)
def Px:=λa0=>Pw.run (Pv a0)
def Zek(a0){r}(h:Px a0=some r):Fn PR 295 [wI a0] (wS r):=Pw.fn h
inductive rJ where
 |L0 (v1:Int) (v5:By) (v6:Int)
def Py(v1:Int)(v5:By)(v6:Int):LT rJ Bool:=
.lenS v5<|.br (decide (v6<(v5.length:Int))) (.idxS v5 v6 λx3=>.br ((UInt8.toNat x3:Int)==v1) (.rt true)<|.g0 (.L0 v1 v5 (IntKind.wrap .i64 (v6+1))))<|.rt false
def Pz(a0:Int)(a1:Int):LT rJ Bool:=
.call (Zek a0) λx1=>.g0 (.L0 a1 x1 0)
def Br:LF rJ Bool :=.m0 232 [.t 4] wB λ|.L0 v1 v5 v6=>([1,1,0,1,4],⟨20,[(1,.t (.int .u8 v1)),(5,wS v5),(6,wI v6)],[]⟩,Py v1 v5 v6)
def PA:=λa0 a1=>Br.run (Pz a0 a1)
def kJ(a0)(a1){r}(h:PA a0 a1=some r):Fn PR 232 [wI a0,.t (.int .u8 a1)] (wB r):=Br.fn h
def PB(a0:Int):LT Empty Bool:=
.cs (a0==3) (.k3 0<|.rt true)<|.k3 0<|.rt (a0==8)
def PC:LF Empty Bool :=.z0 296 [.t 2] wB
def PD:=λa0=>PC.run (PB a0)
def Zel(a0){r}(h:PD a0=some r):Fn PR 296 [wI a0] (wB r):=PC.fn h
inductive Z07 where
 |L0 (v1:Int) (E0:fa)
 |L1 (E0:fa)
def Z2z(E0:fa):LT Z07 Bool:=
.br (E0.Kind==4) (.call (iJ E0.Filter) λx2=>.rt x2)<|.rt (az (bf E0.Filter) (bf (⟨0,0,0,0,0,0,0,([]:By),0,0,(⟨0,0⟩:ae),(⟨0,0⟩:ae),(⟨0,0⟩:ae)⟩:aj)))
def Z20(v1:Int)(E0:fa):LT Z07 Bool:=
.cs (decide (E0.Kind<1)) (.k4 0<|.kn [0]<|.rt false)<|.k4 0<|.br (decide (E0.Kind>8)) (.rt false)<|.call (Zel E0.Kind) λx3=>.br x3 (.cs (decide (E0.N<1)) (.k5 3<|.kn [0]<|.rt false)<|.k5 3<|.br (decide (E0.N>v1)) (.rt false)<|.j0 (.L1 E0) (Z2z E0))<|.br (E0.N != 0) (.rt false)<|.j0 (.L1 E0) (Z2z E0)
def PE(a0:fa)(a1:Int):LT Z07 Bool:=
.lb 1002<|.br (decide (a1>4)) (.jn 0 (.L0 4 a0) [.relab 1002 3000] (Z20 4 a0))<|.jn 0 (.L0 a1 a0) [.relab 1002 3000] (Z20 a1 a0)
def PF:LF Z07 Bool :=.m0 233 [.t 4] wB λ|.L0 v1 E0=>([1,1],⟨40,[(1,wI v1),(2,.bptr 3000 0)],[(3000,.box (bx (fQ E0)))]⟩,Z20 v1 E0)|.L1 E0=>([1,1,1,1],⟨40,[(2,.bptr 3000 0)],[(3000,.box (bx (fQ E0)))]⟩,Z2z E0)
def PG:=λa0 a1=>PF.run (PE a0 a1)
def Zem(a0)(a1){r}(h:PG a0 a1=some r):Fn PR 233 [wA (fQ a0),wI a1] (wB r):=PF.fn h
def PH(a0:Int):LT Empty (By):=
.br (a0==0) (.rt ([112,108,117,115]:By))<|.br (a0==1) (.rt ([109,105,110,117,115]:By))<|.br (a0==2) (.rt ([99,104,97,114,103,101]:By))<|.rt ([]:By)
def PI:LF Empty (By) :=.z0 234 [.t 2] wS
def PJ:=λa0=>PI.run (PH a0)
def PK(a0){r}(h:PJ a0=some r):Fn PR 234 [wI a0] (wS r):=PI.fn h
def PL(a0:dO):LT Empty Bool:=
.lb 1001<|.lb 1003<|.br (a0.Kind==0) (.cs (decide (a0.N<0)) (.k4 1<|.kn [0]<|.rt false)<|.k4 1<|.br (decide (a0.N>1000000)) (.rt false)<|.cs (decide (a0.Kind>=0)) (.k4 3<|.cs (decide (a0.Kind<=7)) (.k5 4<|.kg 4<|.rt (az (dB (⟨a0.Kind,0,a0.Counter,a0.Filter⟩:dO)) (dB (⟨a0.Kind,0,0,(⟨0,0,0,0,0,0,0,([]:By),0,0,(⟨0,0⟩:ae),(⟨0,0⟩:ae),(⟨0,0⟩:ae)⟩:aj)⟩:dO))))<|.k5 4<|.kg 4<|.rt false)<|.k4 3<|.b5 false<|.kb false<|.rt false)<|.br (a0.Kind==2) (.cs (decide (a0.N<1)) (.k4 2<|.b5 true<|.kn [0]<|.rt false)<|.k4 2<|.cs (decide (a0.N>99)) (.k5 3<|.kn [0]<|.rt false)<|.k3 3<|.call (iJ a0.Filter) λx9=>.k2 3<|.br (!x9) (.rt false)<|.cs (decide (a0.Kind>=0)) (.k4 5<|.cs (decide (a0.Kind<=7)) (.k5 6<|.kg 6<|.rt (az (dB (⟨a0.Kind,0,a0.Counter,(⟨0,0,0,0,0,0,0,([]:By),0,0,(⟨0,0⟩:ae),(⟨0,0⟩:ae),(⟨0,0⟩:ae)⟩:aj)⟩:dO)) (dB (⟨a0.Kind,0,0,(⟨0,0,0,0,0,0,0,([]:By),0,0,(⟨0,0⟩:ae),(⟨0,0⟩:ae),(⟨0,0⟩:ae)⟩:aj)⟩:dO))))<|.k5 6<|.kg 6<|.rt false)<|.k4 5<|.b5 false<|.kb false<|.rt false)<|.br (a0.Kind==4) (.call (PK a0.Counter) λx15=>.br (x15==([]:By)) (.rt false)<|.cs (decide (a0.Kind>=0)) (.k4 4<|.cs (decide (a0.Kind<=7)) (.k5 5<|.kg 5<|.rt (az (dB (⟨a0.Kind,a0.N,0,a0.Filter⟩:dO)) (dB (⟨a0.Kind,0,0,(⟨0,0,0,0,0,0,0,([]:By),0,0,(⟨0,0⟩:ae),(⟨0,0⟩:ae),(⟨0,0⟩:ae)⟩:aj)⟩:dO))))<|.k5 5<|.kg 5<|.rt false)<|.k4 4<|.b5 false<|.kb false<|.rt false)<|.cs (decide (a0.Kind>=0)) (.k4 3<|.cs (decide (a0.Kind<=7)) (.k5 4<|.kg 4<|.rt (az (dB a0) (dB (⟨a0.Kind,0,0,(⟨0,0,0,0,0,0,0,([]:By),0,0,(⟨0,0⟩:ae),(⟨0,0⟩:ae),(⟨0,0⟩:ae)⟩:aj)⟩:dO))))<|.k5 4<|.kg 4<|.rt false)<|.k4 3<|.b5 false<|.kb false<|.rt false
def PM:LF Empty Bool :=.z0 235 [.t 2] wB
def PN:=λa0=>PM.run (PL a0)
def Zen(a0){r}(h:PN a0=some r):Fn PR 235 [wA (dB a0)] (wB r):=PM.fn h
def PO(a0:List ai):LT Empty Bool:=
.call (Bp a0) λx1=>.rt (!(x1==([]:By)))
def PP:LF Empty Bool :=.z0 236 [.t 2] wB
def PQ:=λa0=>PP.run (PO a0)
def Zeo(a0){r}(h:PQ a0=some r):Fn PR 236 [wL aF a0] (wB r):=PP.fn h
inductive rK where
 |L0 (E0:A6 Int) (E1:Z4) (E2:Z4) (v4:Int)
def PS(E0:A6 Int)(E1:Z4)(E2:Z4)(v4:Int):LT rK Z4:=
.br (decide (v4<5)) (.idA (U.int .i64) (A6.list E0) (IntKind.wrap .i64 (v4+1)) (bx ((cA6 (cI .i64)) E0)) 0 6 λx4=>.ldC (U.int .i64) 16 x4 0<|.idA (U.int .i64) (A5.list E2.Color) v4 (bx (cJ E2)) 2 7 λx6=>.stA (A5.set? E2.Color v4 x4) (λh=>ZH (U.int .i64) ((bx (cJ E2)).take 2) ((bx (cJ E2)).drop 7) h) λx8=>.g0 (.L0 E0 E1 (⟨E2.Generic,E2.X,x8⟩:Z4) (IntKind.wrap .i64 (v4+1))))<|.rt E2
def PT(a0:A6 Int):LT rK Z4:=
.lb 1001<|.lb 1002<|.idA (U.int .i64) (A6.list a0) 0 (bx ((cA6 (cI .i64)) a0)) 0 6 λx1=>.ldC (U.int .i64) 6 x1 0<|.lb 1003<|.go (.L0 a0 (⟨0,0,(⟨0,0,0,0,0⟩:A5 Int)⟩:Z4) (⟨x1,0,(⟨0,0,0,0,0⟩:A5 Int)⟩:Z4) 0) (tm22 1000 3000)
def Bs:LF rK Z4 :=.m0 298 [.c 2 39 true 7] (λr=>(wA (cJ r))) λ|.L0 E0 E1 E2 v4=>([1,1,0,1,4],⟨20,[(1,.bptr 3000 0),(2,.bptr 3001 0),(3,.bptr 3002 0),(4,wI v4)],[(3000,.box (bx ((cA6 (cI .i64)) E0))),(3001,.box (bx (cJ E1))),(3002,.box (bx (cJ E2)))]⟩,PS E0 E1 E2 v4)
def PU:=λa0=>Bs.run (PT a0)
def Zep(a0){r}(h:PU a0=some r):Fn PR 298 [wA ((cA6 (cI .i64)) a0)] (wA (cJ r)):=Bs.fn h
inductive mh where
 |L0 (E0:Z4) (v3:By) (v4:Int)
 |L1 (E0:Z4) (v3:By) (v5:Int)
 |L2 (E0:Z4) (v3:By) (v5:Int) (v6:Int)
def PX(E0:Z4)(v3:By)(v4:Int):LT mh (By):=
.br (decide (v4<E0.X)) (.ok (v3.length+([88]:By).length<=9223372036854775807)<|.g0 (.L0 E0 (v3++([88]:By)) (IntKind.wrap .i64 (v4+1))))<|.br (E0.Generic != 0) (.call (nX E0.Generic) λx7=>.ok (v3.length+x7.length<=9223372036854775807)<|.g0 (.L1 E0 (v3++x7) 0))<|.g0 (.L1 E0 v3 0)
def PY(E0:Z4)(v3:By)(v5:Int):LT mh (By):=
.br (decide (v5<5)) (.g0 (.L2 E0 v3 v5 0))<|.br (v3==([]:By)) (.rt ([48]:By))<|.rt v3
def PZ(E0:Z4)(v3:By)(v5:Int)(v6:Int):LT mh (By):=
.idA (U.int .i64) (A5.list E0.Color) v5 (bx (cJ E0)) 2 7 λx1=>.ldC (U.int .i64) 34 x1 0<|.br (decide (v6<x1)) (.slS ([65,67,74,82,69]:By) v5 (IntKind.wrap .i64 (v5+1)) λx6=>.ok (v3.length+x6.length<=9223372036854775807)<|.g0 (.L2 E0 (v3++x6) v5 (IntKind.wrap .i64 (v6+1))))<|.g0 (.L1 E0 v3 (IntKind.wrap .i64 (v5+1)))
def P0(a0:Z4):LT mh (By):=
.lb 1001<|.call (Z9z a0) λx1=>.br (!x1) (.rt ([]:By))<|.go (.L0 a0 ([]:By) 0) [.relab 1001 3000]
def rL:LF mh (By) :=.m0 297 [.t 2] wS λ|.L0 E0 v3 v4=>([1,1,1,0,1,4],⟨47,[(1,.bptr 3000 0),(3,wS v3),(4,wI v4)],[(3000,.box (bx (cJ E0)))]⟩,PX E0 v3 v4)|.L1 E0 v3 v5=>([1,1,1,1,1,0,1,4],⟨47,[(1,.bptr 3000 0),(3,wS v3),(5,wI v5)],[(3000,.box (bx (cJ E0)))]⟩,PY E0 v3 v5)|.L2 E0 v3 v5 v6=>([1,1,1,1,1,0,1,4,5,1,0,4,1,4],⟨47,[(1,.bptr 3000 0),(3,wS v3),(5,wI v5),(6,wI v6)],[(3000,.box (bx (cJ E0)))]⟩,PZ E0 v3 v5 v6)
def P1:=λa0=>rL.run (P0 a0)
def Zeq(a0){r}(h:P1 a0=some r):Fn PR 297 [wA (cJ a0)] (wS r):=rL.fn h
def P2(a0:A6 Int):LT Empty (By):=
.lb 1001<|.call (Zep a0) λx1=>.call (Zeq x1) λx3=>.rt x3
def P3:LF Empty (By) :=.z0 237 [.t 2] wS
def P4:=λa0=>P3.run (P2 a0)
def Zer(a0){r}(h:P4 a0=some r):Fn PR 237 [wA ((cA6 (cI .i64)) a0)] (wS r):=P3.fn h
def P5(a0:Int)(a1:aj):LT Empty Bool:=
.lb 1003<|.br (a0==21) (.call (iJ a1) λx2=>.cs x2 (.k5 1<|.rt (a1.Zone==2))<|.k5 1<|.rt false)<|.call (iJ a1) λx5=>.cs x5 (.k5 1<|.rt (a1.Zone==0))<|.k5 1<|.rt false
def P6:LF Empty Bool :=.z0 238 [.t 4] wB
def P7:=λa0 a1=>P6.run (P5 a0 a1)
def Zes(a0)(a1){r}(h:P7 a0 a1=some r):Fn PR 238 [wI a0,wA (bf a1)] (wB r):=P6.fn h
inductive hX where
 |L0 (E0:bh) (v5:Bool)
 |L1 (E0:bh) (v5:Bool) (v6:Bool)
 |L2 (E0:bh) (v5:Bool) (v6:Bool) (v7:Bool)
 |L3 (E0:bh) (v5:Bool) (v6:Bool) (v7:Bool) (v8:Bool)
 |L4 (E0:bh) (v5:Bool) (v6:Bool) (v7:Bool) (v8:Bool) (v9:Bool)
 |L5 (E0:bh) (v5:Bool) (v6:Bool) (v7:Bool) (v8:Bool) (v9:Bool) (v10:Bool)
 |L6 (E0:bh) (v5:Bool) (v6:Bool) (v7:Bool) (v8:Bool) (v9:Bool) (v10:Bool) (v11:Bool)
 |L7 (v5:Bool) (v6:Bool) (v7:Bool) (v8:Bool) (v9:Bool) (v10:Bool) (v11:Bool) (v12:Bool)
def Z21(v5:Bool)(v6:Bool)(v7:Bool)(v8:Bool)(v9:Bool)(v10:Bool)(v11:Bool)(v12:Bool):LT hX Bool:=
.cs v5 (.k2 0<|.cs v6 (.k2 1<|.cs v7 (.k2 2<|.cs v8 (.k2 3<|.cs v9 (.k2 4<|.cs v10 (.k2 5<|.cs v11 (.k2 6<|.rt v12)<|.k2 6<|.rt false)<|.k2 5<|.b2 false<|.rt false)<|.k2 4<|.b4 false<|.rt false)<|.k2 3<|.b5 false<|.kb false<|.rt false)<|.k2 2<|.b8 false<|.rt false)<|.k2 1<|.b8 false<|.b2 false<|.rt false)<|.k2 0<|.b8 false<|.b4 false<|.rt false
def n4(E0:bh)(v5:Bool)(v6:Bool)(v7:Bool)(v8:Bool)(v9:Bool)(v10:Bool)(v11:Bool):LT hX Bool:=
.call (kJ E0.Op 102) λx1=>.br x1 (.call (Zes E0.Op E0.Filter) λx4=>.j0 (.L7 v5 v6 v7 v8 v9 v10 v11 x4) (Z21 v5 v6 v7 v8 v9 v10 v11 x4))<|.j0 (.L7 v5 v6 v7 v8 v9 v10 v11 (az (bf E0.Filter) (bf (⟨0,0,0,0,0,0,0,([]:By),0,0,(⟨0,0⟩:ae),(⟨0,0⟩:ae),(⟨0,0⟩:ae)⟩:aj)))) (Z21 v5 v6 v7 v8 v9 v10 v11 (az (bf E0.Filter) (bf (⟨0,0,0,0,0,0,0,([]:By),0,0,(⟨0,0⟩:ae),(⟨0,0⟩:ae),(⟨0,0⟩:ae)⟩:aj))))
def Z22(E0:bh)(v5:Bool)(v6:Bool)(v7:Bool)(v8:Bool)(v9:Bool)(v10:Bool):LT hX Bool:=
.call (kJ E0.Op 112) λx1=>.br x1 (.cs (!(az ((cA6 (cI .i64)) E0.Pool) ((cA6 (cI .i64)) (⟨0,0,0,0,0,0⟩:A6 Int)))) (.k3 1<|.call (Zer E0.Pool) λx5=>.k2 1<|.j0 (.L6 E0 v5 v6 v7 v8 v9 v10 (!(x5==([]:By)))) (n4 E0 v5 v6 v7 v8 v9 v10 (!(x5==([]:By)))))<|.k5 1<|.j0 (.L6 E0 v5 v6 v7 v8 v9 v10 false) (n4 E0 v5 v6 v7 v8 v9 v10 false))<|.j0 (.L6 E0 v5 v6 v7 v8 v9 v10 (az ((cA6 (cI .i64)) E0.Pool) ((cA6 (cI .i64)) (⟨0,0,0,0,0,0⟩:A6 Int)))) (n4 E0 v5 v6 v7 v8 v9 v10 (az ((cA6 (cI .i64)) E0.Pool) ((cA6 (cI .i64)) (⟨0,0,0,0,0,0⟩:A6 Int))))
def Z23(E0:bh)(v5:Bool)(v6:Bool)(v7:Bool)(v8:Bool)(v9:Bool):LT hX Bool:=
.len aF E0.Mods<|.call (kJ E0.Op 109) λx2=>.br x2 (.call (Zeo E0.Mods) λx5=>.j0 (.L5 E0 v5 v6 v7 v8 v9 x5) (Z22 E0 v5 v6 v7 v8 v9 x5))<|.j0 (.L5 E0 v5 v6 v7 v8 v9 ((E0.Mods.length:Int)==0)) (Z22 E0 v5 v6 v7 v8 v9 ((E0.Mods.length:Int)==0))
def Z24(E0:bh)(v5:Bool)(v6:Bool)(v7:Bool)(v8:Bool):LT hX Bool:=
.call (kJ E0.Op 97) λx1=>.br x1 (.call (Zen E0.Amount) λx4=>.j0 (.L4 E0 v5 v6 v7 v8 x4) (Z23 E0 v5 v6 v7 v8 x4))<|.j0 (.L4 E0 v5 v6 v7 v8 (az (dB E0.Amount) (dB (⟨0,0,0,(⟨0,0,0,0,0,0,0,([]:By),0,0,(⟨0,0⟩:ae),(⟨0,0⟩:ae),(⟨0,0⟩:ae)⟩:aj)⟩:dO)))) (Z23 E0 v5 v6 v7 v8 (az (dB E0.Amount) (dB (⟨0,0,0,(⟨0,0,0,0,0,0,0,([]:By),0,0,(⟨0,0⟩:ae),(⟨0,0⟩:ae),(⟨0,0⟩:ae)⟩:aj)⟩:dO))))
def n5(E0:bh)(v5:Bool)(v6:Bool)(v7:Bool):LT hX Bool:=
.call (kJ E0.Op 99) λx1=>.br x1 (.call (Ba E0.Card) λx4=>.j0 (.L3 E0 v5 v6 v7 x4) (Z24 E0 v5 v6 v7 x4))<|.j0 (.L3 E0 v5 v6 v7 (E0.Card==([]:By))) (Z24 E0 v5 v6 v7 (E0.Card==([]:By)))
def mi(E0:bh)(v5:Bool)(v6:Bool):LT hX Bool:=
.cs (E0.Counter==0) (.k5 0<|.kg 0<|.j0 (.L2 E0 v5 v6 true) (n5 E0 v5 v6 true))<|.k3 0<|.call (kJ E0.Op 107) λx2=>.kg 0<|.cs x2 (.k3 1<|.call (PK E0.Counter) λx5=>.kg 1<|.kg 0<|.kg 1<|.kg 0<|.j0 (.L2 E0 v5 v6 (!(x5==([]:By)))) (n5 E0 v5 v6 (!(x5==([]:By)))))<|.k4 1<|.kg 0<|.kg 1<|.kg 0<|.j0 (.L2 E0 v5 v6 false) (n5 E0 v5 v6 false)
def Z25(E0:bh)(v5:Bool):LT hX Bool:=
.cs (E0.Zone==0) (.k8 0<|.j0 (.L1 E0 v5 true) (mi E0 v5 true))<|.k3 0<|.call (kJ E0.Op 122) λx2=>.kg 0<|.cs x2 (.k3 1<|.kg 0<|.kg 1<|.kg 0<|.cs (decide (E0.Zone>0)) (.k3 2<|.kg 0<|.kg 2<|.kg 0<|.j0 (.L1 E0 v5 (decide (E0.Zone<=4))) (mi E0 v5 (decide (E0.Zone<=4))))<|.k3 2<|.kg 0<|.kg 2<|.kg 0<|.j0 (.L1 E0 v5 false) (mi E0 v5 false))<|.k3 1<|.kg 0<|.kg 1<|.kg 0<|.b3 false<|.kg 0<|.kb false<|.kg 0<|.j0 (.L1 E0 v5 false) (mi E0 v5 false)
def P8(a0:bh)(a1:Int):LT hX Bool:=
.lb 1002<|.call (Zej a0.Op) λx1=>.br (x1==([]:By)) (.rt false)<|.call (kJ a0.Op 114) λx4=>.br x4 (.call (Zem a0.Ref a1) λx7=>.jn 0 (.L0 a0 x7) [.relab 1002 3000] (Z25 a0 x7))<|.jn 0 (.L0 a0 (az (fQ a0.Ref) (fQ (⟨0,0,(⟨0,0,0,0,0,0,0,([]:By),0,0,(⟨0,0⟩:ae),(⟨0,0⟩:ae),(⟨0,0⟩:ae)⟩:aj)⟩:fa)))) [.relab 1002 3000] (Z25 a0 (az (fQ a0.Ref) (fQ (⟨0,0,(⟨0,0,0,0,0,0,0,([]:By),0,0,(⟨0,0⟩:ae),(⟨0,0⟩:ae),(⟨0,0⟩:ae)⟩:aj)⟩:fa))))
def P9:LF hX Bool :=.m0 183 [.t 4] wB λ|.L0 E0 v5=>([1,1,1,1],⟨138,[(2,.bptr 3000 0),(5,wB v5)],[(3000,.box (bx (bl E0)))]⟩,Z25 E0 v5)|.L1 E0 v5 v6=>([1,1,1,1,1],⟨138,[(2,.bptr 3000 0),(5,wB v5),(6,wB v6)],[(3000,.box (bx (bl E0)))]⟩,mi E0 v5 v6)|.L2 E0 v5 v6 v7=>([1,1,1,1,1,1],⟨138,[(2,.bptr 3000 0),(5,wB v5),(6,wB v6),(7,wB v7)],[(3000,.box (bx (bl E0)))]⟩,n5 E0 v5 v6 v7)|.L3 E0 v5 v6 v7 v8=>([1,1,1,1,1,1,1,1],⟨138,[(2,.bptr 3000 0),(5,wB v5),(6,wB v6),(7,wB v7),(8,wB v8)],[(3000,.box (bx (bl E0)))]⟩,Z24 E0 v5 v6 v7 v8)|.L4 E0 v5 v6 v7 v8 v9=>([1,1,1,1,1,1,1,1,1,1],⟨138,[(2,.bptr 3000 0),(5,wB v5),(6,wB v6),(7,wB v7),(8,wB v8),(9,wB v9)],[(3000,.box (bx (bl E0)))]⟩,Z23 E0 v5 v6 v7 v8 v9)|.L5 E0 v5 v6 v7 v8 v9 v10=>([1,1,1,1,1,1,1,1,1,1,1,1],⟨138,[(2,.bptr 3000 0),(5,wB v5),(6,wB v6),(7,wB v7),(8,wB v8),(9,wB v9),(10,wB v10)],[(3000,.box (bx (bl E0)))]⟩,Z22 E0 v5 v6 v7 v8 v9 v10)|.L6 E0 v5 v6 v7 v8 v9 v10 v11=>([1,1,1,1,1,1,1,1,1,1,1,1,1,1],⟨138,[(2,.bptr 3000 0),(5,wB v5),(6,wB v6),(7,wB v7),(8,wB v8),(9,wB v9),(10,wB v10),(11,wB v11)],[(3000,.box (bx (bl E0)))]⟩,n4 E0 v5 v6 v7 v8 v9 v10 v11)|.L7 v5 v6 v7 v8 v9 v10 v11 v12=>([1,1,1,1,1,1,1,1,1,1,1,1,1,1,1,1],⟨138,[(5,wB v5),(6,wB v6),(7,wB v7),(8,wB v8),(9,wB v9),(10,wB v10),(11,wB v11),(12,wB v12)],[]⟩,Z21 v5 v6 v7 v8 v9 v10 v11 v12)
def Qa:=λa0 a1=>P9.run (P8 a0 a1)
def Zet(a0)(a1){r}(h:Qa a0 a1=some r):Fn PR 183 [wA (bl a0),wI a1] (wB r):=P9.fn h
inductive rM where
 |L0 (v0:List bh) (v1:Int) (v5:Int)
def Qb(v0:List bh)(v1:Int)(v5:Int):LT rM Bool:=
.len bl v0<|.br (decide (v5<(v0.length:Int))) (.idx bl v0 v5 λx3=>.call (Zet x3 v1) λx5=>.br (!x5) (.rt false)<|.g0 (.L0 v0 v1 (IntKind.wrap .i64 (v5+1))))<|.len bl v0<|.cs (decide ((v0.length:Int)>=1)) (.k2 1<|.len bl v0<|.k2 1<|.rt (decide ((v0.length:Int)<=8)))<|.k4 1<|.rt false
def Qc(a0:List bh)(a1:Int):LT rM Bool:=
.g0 (.L0 a0 a1 0)
def Z4e:LF rM Bool :=.m0 133 [.t 4] wB λ|.L0 v0 v1 v5=>([1,0,1,4],⟨27,[(0,wL bl v0),(1,wI v1),(5,wI v5)],[]⟩,Qb v0 v1 v5)
def Qd:=λa0 a1=>Z4e.run (Qc a0 a1)
def Zeu(a0)(a1){r}(h:Qd a0 a1=some r):Fn PR 133 [wL bl a0,wI a1] (wB r):=Z4e.fn h
inductive jT where
 |L0 (E0:an) (v3:Bool)
 |L1 (E0:an) (v3:Bool)
 |L2 (E0:an) (v3:Bool)
 |L3 (E0:an) (v3:Bool)
 |L4 (E0:an) (v3:Bool)
def Z26(E0:an)(v3:Bool):LT jT Bool:=
.br v3 (.call (Zei E0.Specs) λx2=>.cs x2 (.k5 1<|.len bS E0.Specs<|.kg 1<|.call (Zeu E0.Effects (E0.Specs.length:Int)) λx6=>.kg 1<|.rt x6)<|.k5 1<|.k2 1<|.rt false)<|.len bS E0.Specs<|.cs ((E0.Specs.length:Int)==0) (.k3 1<|.len bl E0.Effects<|.k2 1<|.rt ((E0.Effects.length:Int)==0))<|.k5 1<|.rt false
def Z27(E0:an)(v3:Bool):LT jT Bool:=
.br (E0.Kind==5) (.call (Zeg E0.Replace) λx2=>.br (!x2) (.rt false)<|.j0 (.L4 E0 v3) (Z26 E0 v3))<|.br (!(az (fw E0.Replace) (fw (⟨0,0,(⟨0,0,0,0,0,0,0,([]:By),0,0,(⟨0,0⟩:ae),(⟨0,0⟩:ae),(⟨0,0⟩:ae)⟩:aj),0,0,0,0⟩:dn)))) (.rt false)<|.j0 (.L4 E0 v3) (Z26 E0 v3)
def Z28(E0:an)(v3:Bool):LT jT Bool:=
.br (E0.Kind==4) (.call (Zed E0.Trigger) λx2=>.br (!x2) (.rt false)<|.j0 (.L3 E0 v3) (Z27 E0 v3))<|.cs (!(az (gP E0.Trigger) (gP (⟨0,0,(⟨0,0,0,0,0,0,0,([]:By),0,0,(⟨0,0⟩:ae),(⟨0,0⟩:ae),(⟨0,0⟩:ae)⟩:aj)⟩:eW)))) (.k3 1<|.kn [0]<|.rt false)<|.k3 1<|.br E0.May (.rt false)<|.j0 (.L3 E0 v3) (Z27 E0 v3)
def Z29(E0:an)(v3:Bool):LT jT Bool:=
.br (E0.Kind==3) (.call (Zeb E0.Price) λx2=>.br (!x2) (.rt false)<|.j0 (.L2 E0 v3) (Z28 E0 v3))<|.cs (!(az (hN E0.Price) (hN (⟨(⟨0,0,(⟨0,0,0,0,0⟩:A5 Int)⟩:Z4),false,false,0⟩:gM)))) (.k3 1<|.kn [0]<|.rt false)<|.k3 1<|.br E0.Slow (.rt false)<|.j0 (.L2 E0 v3) (Z28 E0 v3)
def n6(E0:an)(v3:Bool):LT jT Bool:=
.br (E0.Kind==1) (.call (iJ E0.Filter) λx2=>.cs (!x2) (.k5 1<|.b5 true<|.kn [0]<|.rt false)<|.k5 1<|.cs (E0.Filter.Zone != 0) (.k5 2<|.kn [0]<|.rt false)<|.k3 2<|.call (Bp E0.Mods) λx6=>.k2 2<|.br (x6==([]:By)) (.rt false)<|.j0 (.L1 E0 v3) (Z29 E0 v3))<|.cs (!(az (bf E0.Filter) (bf (⟨0,0,0,0,0,0,0,([]:By),0,0,(⟨0,0⟩:ae),(⟨0,0⟩:ae),(⟨0,0⟩:ae)⟩:aj)))) (.k5 1<|.kn [0]<|.rt false)<|.k3 1<|.len aF E0.Mods<|.k2 1<|.br (decide ((E0.Mods.length:Int)>0)) (.rt false)<|.j0 (.L1 E0 v3) (Z29 E0 v3)
def Qe(a0:an):LT jT Bool:=
.lb 1001<|.cs (decide (a0.Kind<1)) (.k4 0<|.kn [0]<|.rt false)<|.k4 0<|.br (decide (a0.Kind>5)) (.rt false)<|.cs (a0.Kind==2) (.k4 2<|.b4 true<|.jn 0 (.L0 a0 true) [.relab 1001 3000] (n6 a0 true))<|.k4 2<|.cs (a0.Kind==3) (.k4 3<|.jn 0 (.L0 a0 true) [.relab 1001 3000] (n6 a0 true))<|.k4 3<|.jn 0 (.L0 a0 (a0.Kind==4)) [.relab 1001 3000] (n6 a0 (a0.Kind==4))
def Qf:LF jT Bool :=.m0 94 [.t 2] wB λ|.L0 E0 v3=>([1,1,1],⟨117,[(1,.bptr 3000 0),(3,wB v3)],[(3000,.box (bx (aD E0)))]⟩,n6 E0 v3)|.L1 E0 v3=>([1,1,1,1],⟨117,[(1,.bptr 3000 0),(3,wB v3)],[(3000,.box (bx (aD E0)))]⟩,Z29 E0 v3)|.L2 E0 v3=>([1,1,1,1,1],⟨117,[(1,.bptr 3000 0),(3,wB v3)],[(3000,.box (bx (aD E0)))]⟩,Z28 E0 v3)|.L3 E0 v3=>([1,1,1,1,1,1],⟨117,[(1,.bptr 3000 0),(3,wB v3)],[(3000,.box (bx (aD E0)))]⟩,Z27 E0 v3)|.L4 E0 v3=>([1,1,1,1,1,1,1],⟨117,[(1,.bptr 3000 0),(3,wB v3)],[(3000,.box (bx (aD E0)))]⟩,Z26 E0 v3)
def Qg:=λa0=>Qf.run (Qe a0)
def vI(a0){r}(h:Qg a0=some r):Fn PR 94 [wA (aD a0)] (wB r):=Qf.fn h
def Qh(a0:aw):LT Empty Bool:=
.lb 1001<|.cs (a0.Line.Types==2) (.k5 0<|.rt true)<|.k5 0<|.rt (a0.Line.Types==4)
def Qi:LF Empty Bool :=.z0 95 [.t 2] wB
def Qj:=λa0=>Qi.run (Qh a0)
def Zev(a0){r}(h:Qj a0=some r):Fn PR 95 [wA (bA a0)] (wB r):=Qi.fn h
inductive Z08 where
 |L0 (E0:aw)
 |L1 (E0:aw) (v3:Int) (v4:Int)
def Z3a(E0:aw):LT Z08 Bool:=
.g0 (.L1 E0 0 0)
def Qk(E0:aw)(v3:Int)(v4:Int):LT Z08 Bool:=
.len aD E0.Abilities<|.br (decide (v4<(E0.Abilities.length:Int))) (.idx aD E0.Abilities v4 λx3=>.call (vI x3) λx5=>.br (!x5) (.rt false)<|.ag aD x3 0<|.br (x3.Kind==2) (.g0 (.L1 E0 (IntKind.wrap .i64 (v3+1)) (IntKind.wrap .i64 (v4+1))))<|.g0 (.L1 E0 v3 (IntKind.wrap .i64 (v4+1))))<|.call (Zev E0) λx15=>.br x15 (.cs (!E0.Token) (.k4 2<|.cs (E0.Keys==0) (.k3 3<|.len aD E0.Abilities<|.k2 3<|.cs ((E0.Abilities.length:Int)==1) (.k3 4<|.rt (v3==1))<|.k3 4<|.rt false)<|.k5 3<|.b3 false<|.rt false)<|.k4 2<|.b8 false<|.rt false)<|.cs (v3==0) (.k4 2<|.cs (!E0.Token) (.k5 3<|.kg 2<|.kg 3<|.kg 2<|.cs ((bJ .and .i64 E0.Line.Types 32)==0) (.k4 4<|.kg 2<|.kg 4<|.kg 2<|.rt true)<|.k4 4<|.kg 2<|.kg 4<|.kg 2<|.rt (az (cJ E0.Cost) (cJ (⟨0,0,(⟨0,0,0,0,0⟩:A5 Int)⟩:Z4))))<|.k5 3<|.kg 2<|.kg 3<|.kg 2<|.b4 false<|.kg 2<|.kb false<|.kg 2<|.rt (az (cJ E0.Cost) (cJ (⟨0,0,(⟨0,0,0,0,0⟩:A5 Int)⟩:Z4))))<|.k8 2<|.rt false
def Ql(a0:aw):LT Z08 Bool:=
.lb 1001<|.call (Ba a0.Name) λx1=>.cs (!x1) (.k5 0<|.b16 true<|.b2 true<|.kn [0]<|.rt false)<|.k3 0<|.call (Z9z a0.Cost) λx4=>.k2 0<|.cs (!x4) (.k5 1<|.b8 true<|.b5 true<|.kn [0]<|.rt false)<|.k3 1<|.call (ZdR a0.Line) λx7=>.k2 1<|.cs (!x7) (.k5 2<|.b8 true<|.kn [0]<|.rt false)<|.k3 2<|.call (Nm a0.Keys) λx10=>.k2 2<|.cs (!x10) (.k4 3<|.b4 true<|.kn [0]<|.rt false)<|.k4 3<|.cs (decide (a0.Color<0)) (.k4 4<|.kn [0]<|.rt false)<|.k4 4<|.br (decide (a0.Color>31)) (.rt false)<|.cs (decide (a0.Power<0)) (.k4 6<|.b16 true<|.b3 true<|.kn [0]<|.rt false)<|.k4 6<|.cs (decide (a0.Power>99)) (.k4 7<|.b8 true<|.b5 true<|.b2 true<|.kn [0]<|.rt false)<|.k4 7<|.cs (decide (a0.Tough<0)) (.k4 8<|.b8 true<|.b3 true<|.kn [0]<|.rt false)<|.k4 8<|.cs (decide (a0.Tough>99)) (.k5 9<|.kg 9<|.b5 true<|.kn [0]<|.rt false)<|.k2 9<|.call (ZdS a0) λx19=>.k2 9<|.cs (!x19) (.k4 10<|.cs (a0.Power != 0) (.k3 11<|.kg 10<|.kg 11<|.kg 9<|.kg 10<|.kg 9<|.b5 true<|.kn [0]<|.rt false)<|.k3 11<|.kg 10<|.kg 11<|.kg 9<|.kg 10<|.kg 9<|.cs (a0.Tough != 0) (.k5 12<|.kn [0]<|.rt false)<|.k3 12<|.len aD a0.Abilities<|.k2 12<|.br (decide ((a0.Abilities.length:Int)>8)) (.rt false)<|.jn 0 (.L0 a0) [.relab 1001 3000] (Z3a a0))<|.k5 10<|.kg 9<|.kg 10<|.kg 9<|.b3 false<|.len aD a0.Abilities<|.b2 false<|.br (decide ((a0.Abilities.length:Int)>8)) (.rt false)<|.jn 0 (.L0 a0) [.relab 1001 3000] (Z3a a0)
def Bt:LF Z08 Bool :=.m0 47 [.t 2] wB λ|.L0 E0=>([1,1,1],⟨139,[(1,.bptr 3000 0)],[(3000,.box (bx (bA E0)))]⟩,Z3a E0)|.L1 E0 v3 v4=>([1,1,1,1,0,1,4],⟨139,[(1,.bptr 3000 0),(3,wI v3),(4,wI v4)],[(3000,.box (bx (bA E0)))]⟩,Qk E0 v3 v4)
def Qm:=λa0=>Bt.run (Ql a0)
def Zew(a0){r}(h:Qm a0=some r):Fn PR 47 [wA (bA a0)] (wB r):=Bt.fn h
inductive rN where
 |L0 (v0:List aw) (v1:By) (v5:Int)
def Qn(v0:List aw)(v1:By)(v5:Int):LT rN Int:=
.len bA v0<|.br (decide (v5<(v0.length:Int))) (.idx bA v0 v5 λx3=>.br (x3.Name==v1) (.rt v5)<|.g0 (.L0 v0 v1 (IntKind.wrap .i64 (v5+1))))<|.rt (-1)
def Qo(a0:List aw)(a1:By):LT rN Int:=
.g0 (.L0 a0 a1 0)
def Bu:LF rN Int :=.m0 48 [.t 4] wI λ|.L0 v0 v1 v5=>([1,0,1,4],⟨20,[(0,wL bA v0),(1,wS v1),(5,wI v5)],[]⟩,Qn v0 v1 v5)
def Qp:=λa0 a1=>Bu.run (Qo a0 a1)
def Zex(a0)(a1){r}(h:Qp a0 a1=some r):Fn PR 48 [wL bA a0,wS a1] (wI r):=Bu.fn h
inductive rO where
 |L0 (v0:List aw) (v1:By) (v5:Int)
def Qq(v0:List aw)(v1:By)(v5:Int):LT rO Bool:=
.len bA v0<|.br (decide (v5<(v0.length:Int))) (.idx bA v0 v5 λx3=>.cs (x3.Name==v1) (.k3 1<|.ag bA x3 0<|.k3 1<|.br x3.Token (.rt true)<|.g0 (.L0 v0 v1 (IntKind.wrap .i64 (v5+1))))<|.k5 1<|.kg 1<|.kn [0]<|.g0 (.L0 v0 v1 (IntKind.wrap .i64 (v5+1))))<|.rt false
def Qr(a0:List aw)(a1:By):LT rO Bool:=
.g0 (.L0 a0 a1 0)
def Bv:LF rO Bool :=.m0 96 [.t 4] wB λ|.L0 v0 v1 v5=>([1,0,1,4],⟨26,[(0,wL bA v0),(1,wS v1),(5,wI v5)],[]⟩,Qq v0 v1 v5)
def Qs:=λa0 a1=>Bv.run (Qr a0 a1)
def Zey(a0)(a1){r}(h:Qs a0 a1=some r):Fn PR 96 [wL bA a0,wS a1] (wB r):=Bv.fn h
inductive n7 where
 |L0 (v0:List aw) (E0:aw) (v5:Int)
 |L1 (v0:List aw) (E0:aw) (v5:Int) (v6:Int)
def Qt(v0:List aw)(E0:aw)(v5:Int):LT n7 Bool:=
.len aD E0.Abilities<|.br (decide (v5<(E0.Abilities.length:Int))) (.g0 (.L1 v0 E0 v5 0))<|.rt true
def Qu(v0:List aw)(E0:aw)(v5:Int)(v6:Int):LT n7 Bool:=
.idx aD E0.Abilities v5 λx1=>.len bl x1.Effects<|.br (decide (v6<(x1.Effects.length:Int))) (.ag aD x1 0<|.idx bl x1.Effects v6 λx5=>.lb 1007<|.cs (x5.Op==12) (.k4 1<|.call (Zey v0 x5.Card) λx8=>.k2 1<|.br (!x8) (.rt false)<|.g0 (.L1 v0 E0 v5 (IntKind.wrap .i64 (v6+1))))<|.k5 1<|.kg 1<|.kn [0]<|.g0 (.L1 v0 E0 v5 (IntKind.wrap .i64 (v6+1))))<|.g0 (.L0 v0 E0 (IntKind.wrap .i64 (v5+1)))
def Qv(a0:List aw)(a1:aw):LT n7 Bool:=
.lb 1003<|.go (.L0 a0 a1 0) [.relab 1003 3000]
def vJ:LF n7 Bool :=.m0 49 [.t 4] wB λ|.L0 v0 E0 v5=>([1,0,1,4],⟨45,[(0,wL bA v0),(3,.bptr 3000 0),(5,wI v5)],[(3000,.box (bx (bA E0)))]⟩,Qt v0 E0 v5)|.L1 v0 E0 v5 v6=>([1,0,1,4,5,1,0,4,1,4],⟨45,[(0,wL bA v0),(3,.bptr 3000 0),(5,wI v5),(6,wI v6)],[(3000,.box (bx (bA E0)))]⟩,Qu v0 E0 v5 v6)
def Qw:=λa0 a1=>vJ.run (Qv a0 a1)
def Zez(a0)(a1){r}(h:Qw a0 a1=some r):Fn PR 49 [wL bA a0,wA (bA a1)] (wB r):=vJ.fn h
inductive rP where
 |L0 (v0:List aw) (v4:Int)
def Qx(v0:List aw)(v4:Int):LT rP (Int×Int):=
.len bA v0<|.br (decide (v4<(v0.length:Int))) (.idx bA v0 v4 λx3=>.call (Zew x3) λx5=>.br (!x5) (.rt (v4,9))<|.ag bA x3 0<|.call (Zex v0 x3.Name) λx8=>.br (decide (x8<v4)) (.rt (v4,6))<|.ag bA x3 0<|.call (Zez v0 x3) λx11=>.br (!x11) (.rt (v4,7))<|.g0 (.L0 v0 (IntKind.wrap .i64 (v4+1))))<|.rt ((-1),0)
def Qy(a0:List aw):LT rP (Int×Int):=
.len bA a0<|.br (decide ((a0.length:Int)>256)) (.rt ((-1),5))<|.g0 (.L0 a0 0)
def Bw:LF rP (Int×Int) :=.m0 23 [.t 2,.t 3] (λr=>(.tup [wI r.1,wI r.2])) λ|.L0 v0 v4=>([1,1,0,1,4],⟨39,[(0,wL bA v0),(4,wI v4)],[]⟩,Qx v0 v4)
def Qz:=λa0=>Bw.run (Qy a0)
def ZeA(a0){r}(h:Qz a0=some r):Fn PR 23 [wL bA a0] (.tup [wI r.1,wI r.2]):=Bw.fn h
def QA(a0:Int)(a1:Int)(a2:Int):LT Empty Bool:=
.cs (decide (a0>=a1)) (.k4 0<|.rt (decide (a0<=a2)))<|.k4 0<|.rt false
def QB:LF Empty Bool :=.z0 50 [.t 6] wB
def QC:=λa0 a1 a2=>QB.run (QA a0 a1 a2)
def gx(a0)(a1)(a2){r}(h:QC a0 a1 a2=some r):Fn PR 50 [wI a0,wI a1,wI a2] (wB r):=QB.fn h
inductive rQ where
 |L0 (E0:A6 Int) (v3:Int)
def QD(E0:A6 Int)(v3:Int):LT rQ Bool:=
.br (decide (v3<6)) (.idA (U.int .i64) (A6.list E0) v3 (bx ((cA6 (cI .i64)) E0)) 0 6 λx2=>.ldC (U.int .i64) 10 x2 0<|.cs (decide (x2<0)) (.k5 1<|.kn [0]<|.rt false)<|.k2 1<|.idA (U.int .i64) (A6.list E0) v3 (bx ((cA6 (cI .i64)) E0)) 0 6 λx5=>.kg 1<|.ldC (U.int .i64) 15 x5 1<|.k2 1<|.br (decide (x5>1000000)) (.rt false)<|.g0 (.L0 E0 (IntKind.wrap .i64 (v3+1))))<|.rt true
def QE(a0:A6 Int):LT rQ Bool:=
.lb 1001<|.go (.L0 a0 0) [.relab 1001 3000]
def Bx:LF rQ Bool :=.m0 97 [.t 2] wB λ|.L0 E0 v3=>([1,0,1,4],⟨18,[(1,.bptr 3000 0),(3,wI v3)],[(3000,.box (bx ((cA6 (cI .i64)) E0)))]⟩,QD E0 v3)
def QF:=λa0=>Bx.run (QE a0)
def ZeB(a0){r}(h:QF a0=some r):Fn PR 97 [wA ((cA6 (cI .i64)) a0)] (wB r):=Bx.fn h
inductive rR where
 |L0 (v1:Int) (E0:ab) (v5:Int)
def QG(v1:Int)(E0:ab)(v5:Int):LT rR Int:=
.len aC E0.Objects<|.br (decide (v5<(E0.Objects.length:Int))) (.idx aC E0.Objects v5 λx3=>.br (x3.Id==v1) (.rt v5)<|.g0 (.L0 v1 E0 (IntKind.wrap .i64 (v5+1))))<|.rt (-1)
def QH(a0:ab)(a1:Int):LT rR Int:=
.lb 1002<|.go (.L0 a1 a0 0) [.relab 1002 3000]
def Bz:LF rR Int :=.m0 239 [.t 4] wI λ|.L0 v1 E0 v5=>([1,0,1,4],⟨22,[(1,wI v1),(2,.bptr 3000 0),(5,wI v5)],[(3000,.box (bx (aH E0)))]⟩,QG v1 E0 v5)
def QI:=λa0 a1=>Bz.run (QH a0 a1)
def ZeC(a0)(a1){r}(h:QI a0 a1=some r):Fn PR 239 [wA (aH a0),wI a1] (wI r):=Bz.fn h
def QJ(a0:ab)(a1:Int):LT Empty (ak×Bool):=
.lb 1002<|.lb 1004<|.call (ZeC a0 a1) λx1=>.br (decide (x1<0)) (.rt ((⟨0,0,0,0,0,false,false,false,false,0,(⟨0,0,0⟩:A3 Int),0,0,0,false,0,0⟩:ak),false))<|.idx aC a0.Objects x1 λx4=>.rt (x4,true)
def QK:LF Empty (ak×Bool) :=.z0 184 [.c 4 64 true 19,.t 5] (λr=>(.tup [wA (aC r.1),wB r.2]))
def QL:=λa0 a1=>QK.run (QJ a0 a1)
def ZeD(a0)(a1){r}(h:QL a0 a1=some r):Fn PR 184 [wA (aH a0),wI a1] (.tup [wA (aC r.1),wB r.2]):=QK.fn h
def QM(a0:ab)(a1:Int):LT Empty (ak×Bool):=
.lb 1002<|.lb 1004<|.call (ZeD a0 a1) λx1=>.rt (x1.1,x1.2)
def QN:LF Empty (ak×Bool) :=.z0 134 [.c 4 64 true 19,.t 5] (λr=>(.tup [wA (aC r.1),wB r.2]))
def QO:=λa0 a1=>QN.run (QM a0 a1)
def QP(a0)(a1){r}(h:QO a0 a1=some r):Fn PR 134 [wA (aH a0),wI a1] (.tup [wA (aC r.1),wB r.2]):=QN.fn h
inductive rS where
 |L0 (v0:List Int) (v1:Int) (v5:Int) (v6:Int)
def QQ(v0:List Int)(v1:Int)(v5:Int)(v6:Int):LT rS Int:=
.len (cI .i64) v0<|.br (decide (v6<(v0.length:Int))) (.idx (cI .i64) v0 v6 λx3=>.br (x3==v1) (.g0 (.L0 v0 v1 (IntKind.wrap .i64 (v5+1)) (IntKind.wrap .i64 (v6+1))))<|.g0 (.L0 v0 v1 v5 (IntKind.wrap .i64 (v6+1))))<|.rt v5
def QR(a0:List Int)(a1:Int):LT rS Int:=
.g0 (.L0 a0 a1 0 0)
def BA:LF rS Int :=.m0 135 [.t 4] wI λ|.L0 v0 v1 v5 v6=>([1,1,0,1,4],⟨22,[(0,wL (cI .i64) v0),(1,wI v1),(5,wI v5),(6,wI v6)],[]⟩,QQ v0 v1 v5 v6)
def QS:=λa0 a1=>BA.run (QR a0 a1)
def Z7m(a0)(a1){r}(h:QS a0 a1=some r):Fn PR 135 [wL (cI .i64) a0,wI a1] (wI r):=BA.fn h
inductive rT where
 |L0 (v1:List Int) (v2:Int) (v3:Int) (E0:ab) (v9:Int)
def QT(v1:List Int)(v2:Int)(v3:Int)(E0:ab)(v9:Int):LT rT Bool:=
.len (cI .i64) v1<|.br (decide (v9<(v1.length:Int))) (.idx (cI .i64) v1 v9 λx3=>.call (QP E0 x3) λx5=>.lb 1010<|.cs (!x5.2) (.k5 1<|.b8 true<|.b5 true<|.kn [0]<|.rt false)<|.k5 1<|.cs (x5.1.Zone != v2) (.k5 2<|.b8 true<|.kn [0]<|.rt false)<|.k3 2<|.cs (decide (v3>=0)) (.k4 3<|.kg 2<|.kg 3<|.kg 2<|.cs (x5.1.Owner != v3) (.k8 4<|.kn [0]<|.rt false)<|.k4 4<|.ag (cI .i64) x3 0<|.k2 4<|.call (Z7m v1 x3) λx11=>.k2 4<|.br (x11 != 1) (.rt false)<|.g0 (.L0 v1 v2 v3 E0 (IntKind.wrap .i64 (v9+1))))<|.k4 3<|.kg 2<|.kg 3<|.kg 2<|.b4 false<|.ag (cI .i64) x3 0<|.b2 false<|.call (Z7m v1 x3) λx16=>.b2 false<|.br (x16 != 1) (.rt false)<|.g0 (.L0 v1 v2 v3 E0 (IntKind.wrap .i64 (v9+1))))<|.rt true
def QU(a0:ab)(a1:List Int)(a2:Int)(a3:Int):LT rT Bool:=
.lb 1004<|.go (.L0 a1 a2 a3 a0 0) [.relab 1004 3000]
def BB:LF rT Bool :=.m0 98 [.t 8] wB λ|.L0 v1 v2 v3 E0 v9=>([1,0,1,4],⟨54,[(1,wL (cI .i64) v1),(2,wI v2),(3,wI v3),(4,.bptr 3000 0),(9,wI v9)],[(3000,.box (bx (aH E0)))]⟩,QT v1 v2 v3 E0 v9)
def QV:=λa0 a1 a2 a3=>BB.run (QU a0 a1 a2 a3)
def rU(a0)(a1)(a2)(a3){r}(h:QV a0 a1 a2 a3=some r):Fn PR 98 [wA (aH a0),wL (cI .i64) a1,wI a2,wI a3] (wB r):=BB.fn h
inductive rV where
 |L0 (E0:ab) (v3:Int)
def QW(E0:ab)(v3:Int):LT rV Bool:=
.len ba E0.Players<|.br (decide (v3<(E0.Players.length:Int))) (.idx ba E0.Players v3 λx3=>.lb 1004<|.call (gx x3.Life (-1000000) 1000000) λx5=>.cs (!x5) (.k5 1<|.b8 true<|.b2 true<|.kn [0]<|.rt false)<|.k3 1<|.call (gx x3.Venom 0 1000000) λx8=>.k2 1<|.cs (!x8) (.k5 2<|.b5 true<|.kn [0]<|.rt false)<|.k3 2<|.call (gx x3.Lands 0 1000000) λx11=>.k2 2<|.cs (!x11) (.k5 3<|.kn [0]<|.rt false)<|.k3 3<|.call (ZeB x3.Pool) λx14=>.k2 3<|.br (!x14) (.rt false)<|.call (rU E0 x3.Library 2 v3) λx17=>.cs (!x17) (.k5 5<|.k2 5<|.b5 true<|.b2 true<|.kn [0]<|.rt false)<|.k5 5<|.call (rU E0 x3.Hand 1 v3) λx20=>.k2 5<|.cs (!x20) (.k5 6<|.k2 6<|.kn [0]<|.rt false)<|.k5 6<|.call (rU E0 x3.Graveyard 3 v3) λx23=>.k2 6<|.br (!x23) (.rt false)<|.g0 (.L0 E0 (IntKind.wrap .i64 (v3+1))))<|.call (rU E0 E0.Battlefield 0 (-1)) λx28=>.cs x28 (.k4 1<|.call (rU E0 E0.Exile 4 (-1)) λx31=>.kg 1<|.rt x31)<|.k5 1<|.rt false
def QX(a0:ab):LT rV Bool:=
.lb 1001<|.len ba a0.Players<|.call (gx (a0.Players.length:Int) 2 4) λx2=>.br (!x2) (.rt false)<|.go (.L0 a0 0) [.relab 1001 3000]
def Z4f:LF rV Bool :=.m0 51 [.t 2] wB λ|.L0 E0 v3=>([1,1,0,1,4],⟨76,[(1,.bptr 3000 0),(3,wI v3)],[(3000,.box (bx (aH E0)))]⟩,QW E0 v3)
def QY:=λa0=>Z4f.run (QX a0)
def ZeE(a0){r}(h:QY a0=some r):Fn PR 51 [wA (aH a0)] (wB r):=Z4f.fn h
def QZ(a0:ab)(a1:Int):LT Empty Bool:=
.lb 1002<|.len ba a0.Players<|.call (gx a1 0 (IntKind.wrap .i64 ((a0.Players.length:Int)-1))) λx4=>.rt x4
def Q0:LF Empty Bool :=.z0 52 [.t 4] wB
def Q1:=λa0 a1=>Q0.run (QZ a0 a1)
def mj(a0)(a1){r}(h:Q1 a0 a1=some r):Fn PR 52 [wA (aH a0),wI a1] (wB r):=Q0.fn h
inductive Z7n where
 |L0 (E0:A3 Int) (v3:Int)
def Q2(E0:A3 Int)(v3:Int):LT Z7n Bool:=
.br (decide (v3<3)) (.idA (U.int .i64) (A3.list E0) v3 (bx ((cA3 (cI .i64)) E0)) 0 3 λx2=>.ldC (U.int .i64) 10 x2 0<|.cs (decide (x2<0)) (.k5 1<|.kn [0]<|.rt false)<|.k2 1<|.idA (U.int .i64) (A3.list E0) v3 (bx ((cA3 (cI .i64)) E0)) 0 3 λx5=>.kg 1<|.ldC (U.int .i64) 15 x5 1<|.k2 1<|.br (decide (x5>1000000)) (.rt false)<|.g0 (.L0 E0 (IntKind.wrap .i64 (v3+1))))<|.rt true
def Q3(a0:A3 Int):LT Z7n Bool:=
.lb 1001<|.go (.L0 a0 0) [.relab 1001 3000]
def BC:LF Z7n Bool :=.m0 136 [.t 2] wB λ|.L0 E0 v3=>([1,0,1,4],⟨18,[(1,.bptr 3000 0),(3,wI v3)],[(3000,.box (bx ((cA3 (cI .i64)) E0)))]⟩,Q2 E0 v3)
def Q4:=λa0=>BC.run (Q3 a0)
def ZeF(a0){r}(h:Q4 a0=some r):Fn PR 136 [wA ((cA3 (cI .i64)) a0)] (wB r):=BC.fn h
def Q5(a0:ak):LT Empty ak:=
.lb 1001<|.lb 1002<|.rt (⟨a0.Id,a0.Card,a0.Owner,a0.Control,a0.Zone,a0.Token,a0.Tapped,a0.Sick,a0.Deadly,a0.Damage,a0.Counters,a0.Stamp,a0.Copy,-1,false,0,a0.Shield⟩:ak)
def Q6:LF Empty ak :=.z0 137 [.c 2 64 true 19] (λr=>(wA (aC r)))
def Q7:=λa0=>Q6.run (Q5 a0)
def ZeG(a0){r}(h:Q7 a0=some r):Fn PR 137 [wA (aC a0)] (wA (aC r)):=Q6.fn h
def Q8(a0:ak):LT Empty ak:=
.lb 1001<|.lb 1002<|.rt (⟨a0.Id,a0.Card,a0.Owner,a0.Control,a0.Zone,a0.Token,a0.Tapped,a0.Sick,false,0,a0.Counters,a0.Stamp,a0.Copy,a0.Attack,a0.Blocked,a0.Blocks,0⟩:ak)
def Q9:LF Empty ak :=.z0 138 [.c 2 64 true 19] (λr=>(wA (aC r)))
def Ra:=λa0=>Q9.run (Q8 a0)
def ZeH(a0){r}(h:Ra a0=some r):Fn PR 138 [wA (aC a0)] (wA (aC r)):=Q9.fn h
def Rb(a0:ak)(a1:Int)(a2:Int):LT Empty Bool:=
.lb 1003<|.cs (decide (a0.Id<1)) (.k4 0<|.b16 true<|.b8 true<|.b5 true<|.b2 true<|.kn [0]<|.rt false)<|.k4 0<|.cs (decide (a0.Card<0)) (.k5 1<|.b16 true<|.b8 true<|.b2 true<|.kn [0]<|.rt false)<|.k5 1<|.cs (decide (a0.Card>=a1)) (.k4 2<|.b16 true<|.b5 true<|.kb true<|.kn [0]<|.rt false)<|.k4 2<|.cs (decide (a0.Owner<0)) (.k5 3<|.b16 true<|.kb true<|.kn [0]<|.rt false)<|.k5 3<|.cs (decide (a0.Owner>=a2)) (.k4 4<|.b8 true<|.b5 true<|.kn [0]<|.rt false)<|.k4 4<|.cs (decide (a0.Control<0)) (.k5 5<|.b8 true<|.kn [0]<|.rt false)<|.k5 5<|.cs (decide (a0.Control>=a2)) (.k4 6<|.b4 true<|.kn [0]<|.rt false)<|.k4 6<|.cs (decide (a0.Zone<0)) (.k4 7<|.kn [0]<|.rt false)<|.k4 7<|.br (decide (a0.Zone>5)) (.rt false)<|.cs (decide (a0.Damage<0)) (.k4 9<|.b16 true<|.b8 true<|.kn [0]<|.rt false)<|.k4 9<|.cs (decide (a0.Damage>1000000)) (.k4 10<|.b16 true<|.b4 true<|.kn [0]<|.rt false)<|.k4 10<|.cs (decide (a0.Stamp<0)) (.k4 11<|.b16 true<|.kn [0]<|.rt false)<|.k4 11<|.cs (decide (a0.Stamp>1000000)) (.k4 12<|.b8 true<|.b4 true<|.kn [0]<|.rt false)<|.k4 12<|.cs (decide (a0.Blocks<0)) (.k4 13<|.b8 true<|.kn [0]<|.rt false)<|.k4 13<|.cs (decide (a0.Blocks>1000000)) (.k4 14<|.b4 true<|.kn [0]<|.rt false)<|.k4 14<|.cs (decide (a0.Shield<0)) (.k4 15<|.kn [0]<|.rt false)<|.k4 15<|.br (decide (a0.Shield>1000000)) (.rt false)<|.call (ZeF a0.Counters) λx18=>.cs (!x18) (.k4 17<|.b8 true<|.b5 true<|.kb true<|.kn [0]<|.rt false)<|.k4 17<|.cs (decide (a0.Copy<(-1))) (.k5 18<|.b8 true<|.kb true<|.kn [0]<|.rt false)<|.k5 18<|.cs (decide (a0.Copy>=a1)) (.k4 19<|.b5 true<|.kn [0]<|.rt false)<|.k4 19<|.cs (decide (a0.Attack<(-1))) (.k5 20<|.kn [0]<|.rt false)<|.k5 20<|.br (decide (a0.Attack>=a2)) (.rt false)<|.cs (a0.Zone==0) (.k8 22<|.k5 22<|.rt true)<|.k3 22<|.call (ZeG a0) λx26=>.k2 22<|.cs (az (aC a0) (aC x26)) (.k3 23<|.call (ZeH a0) λx29=>.kg 23<|.kg 22<|.kg 23<|.kg 22<|.cs (az (aC a0) (aC x29)) (.k3 24<|.kg 22<|.kg 24<|.kg 22<|.cs (!a0.Tapped) (.k3 25<|.kg 22<|.kg 25<|.kg 22<|.cs (!a0.Sick) (.k4 26<|.kg 22<|.kg 26<|.kg 22<|.rt (az ((cA3 (cI .i64)) a0.Counters) ((cA3 (cI .i64)) (⟨0,0,0⟩:A3 Int))))<|.k4 26<|.kg 22<|.kg 26<|.kg 22<|.rt false)<|.k3 25<|.kg 22<|.kg 25<|.kg 22<|.b4 false<|.kg 22<|.kb false<|.kg 22<|.rt false)<|.k3 24<|.kg 22<|.kg 24<|.kg 22<|.b3 false<|.kg 22<|.kb false<|.kg 22<|.b4 false<|.kg 22<|.kb false<|.kg 22<|.rt false)<|.k4 23<|.kg 22<|.kg 23<|.kg 22<|.b3 false<|.kg 22<|.kb false<|.kg 22<|.b3 false<|.kg 22<|.kb false<|.kg 22<|.b4 false<|.kg 22<|.kb false<|.kg 22<|.rt false
def Rc:LF Empty Bool :=.z0 99 [.t 6] wB
def Re:=λa0 a1 a2=>Rc.run (Rb a0 a1 a2)
def ZeI(a0)(a1)(a2){r}(h:Re a0 a1 a2=some r):Fn PR 99 [wA (aC a0),wI a1,wI a2] (wB r):=Rc.fn h
inductive rW where
 |L0 (v1:Int) (E0:ab) (v5:Int) (v6:Int)
def Rf(v1:Int)(E0:ab)(v5:Int)(v6:Int):LT rW Int:=
.len ax E0.Stack<|.br (decide (v6<(E0.Stack.length:Int))) (.idx ax E0.Stack v6 λx3=>.cs (x3.Kind==1) (.k4 1<|.ag ax x3 0<|.k5 1<|.br (x3.Id==v1) (.g0 (.L0 v1 E0 (IntKind.wrap .i64 (v5+1)) (IntKind.wrap .i64 (v6+1))))<|.g0 (.L0 v1 E0 v5 (IntKind.wrap .i64 (v6+1))))<|.k8 1<|.kg 1<|.kn [0]<|.g0 (.L0 v1 E0 v5 (IntKind.wrap .i64 (v6+1))))<|.rt v5
def Rg(a0:ab)(a1:Int):LT rW Int:=
.lb 1002<|.go (.L0 a1 a0 0 0) [.relab 1002 3000]
def Z7o:LF rW Int :=.m0 139 [.t 4] wI λ|.L0 v1 E0 v5 v6=>([1,1,0,1,4],⟨34,[(1,wI v1),(2,.bptr 3000 0),(5,wI v5),(6,wI v6)],[(3000,.box (bx (aH E0)))]⟩,Rf v1 E0 v5 v6)
def Rh:=λa0 a1=>Z7o.run (Rg a0 a1)
def ZeJ(a0)(a1){r}(h:Rh a0 a1=some r):Fn PR 139 [wA (aH a0),wI a1] (wI r):=Z7o.fn h
def Ri(a0:List Int):LT Empty (List Int):=
.lb 1003<|.apR (cI .i64) 8 ([]:List Int) a0 λx1=>.ret x1 [.relab 1003 5000]
def Rj:LF Empty (List Int) :=.z 65 [.t 2] true (λr=>[(5000,wR (cI .i64) 1 r)]) (λr=>(wO (cI .i64) 5000 r))
def Rk:=λa0=>Rj.run (Ri a0)
def rX(a0){r}(h:Rk a0=some r):FnG PR 65 [] [wL (cI .i64) a0] [(5000,wR (cI .i64) 1 r)] (wO (cI .i64) 5000 r):=Rj.fn h
def Rl(a0:ab)(a1:Int)(a2:Int):LT Empty (List Int):=
.lb 1003<|.br (a1==0) (.callF (rX a0.Battlefield) 130000 λx2=>.ret x2 [.relab 135000 5000])<|.br (a1==4) (.callF (rX a0.Exile) 180000 λx5=>.ret x5 [.relab 185000 5000])<|.cs (decide (a2<0)) (.k5 2<|.kg 2<|.kn [0]<|.ret ([]:List Int) [.own 6 5000 1])<|.k4 2<|.len ba a0.Players<|.k2 2<|.br (decide (a2>=(a0.Players.length:Int))) (.ret ([]:List Int) [.own 6 5000 1])<|.br (a1==1) (.idx ba a0.Players a2 λx11=>.callF (rX x11.Hand) 370000 λx13=>.ret x13 [.relab 375000 5000])<|.br (a1==2) (.idx ba a0.Players a2 λx16=>.callF (rX x16.Library) 460000 λx18=>.ret x18 [.relab 465000 5000])<|.br (a1==3) (.idx ba a0.Players a2 λx21=>.callF (rX x21.Graveyard) 550000 λx23=>.ret x23 [.relab 555000 5000])<|.ret ([]:List Int) [.own 6 5000 1]
def Rm:LF Empty (List Int) :=.z 140 [.t 6] true (λr=>[(5000,wR (cI .i64) 1 r)]) (λr=>(wO (cI .i64) 5000 r))
def BD:=λa0 a1 a2=>Rm.run (Rl a0 a1 a2)
def ZeK(a0)(a1)(a2){r}(h:BD a0 a1 a2=some r):FnG PR 140 [] [wA (aH a0),wI a1,wI a2] [(5000,wR (cI .i64) 1 r)] (wO (cI .i64) 5000 r):=Rm.fn h
def ZeL(a0:ab)(a1:Int)(a2:Int){r:List Int}(h:BD a0 a1 a2=some r):Fn PR 140 [wA (aH a0),wI a1,wI a2] (wL (cI .i64) r):=FnG.frozen (C:=LT.RL (cI .i64) r/\True) (ZeK a0 a1 a2 h) ⟨rfl,aa⟩ ar
def Rn(a0:ab)(a1:ak):LT Empty Bool:=
.lb 1002<|.lb 1003<|.br (a1.Zone==5) (.call (ZeJ a0 a1.Id) λx2=>.rt (x2==1))<|.call (ZeL a0 a1.Zone a1.Owner) λx4=>.call (Z7m x4 a1.Id) λx6=>.rt (x6==1)
def Ro:LF Empty Bool :=.z0 100 [.t 4] wB
def Rp:=λa0 a1=>Ro.run (Rn a0 a1)
def Rq(a0)(a1){r}(h:Rp a0 a1=some r):Fn PR 100 [wA (aH a0),wA (aC a1)] (wB r):=Ro.fn h
inductive rY where
 |L0 (v0:List aw) (E0:ab) (v5:Int)
def Rr(v0:List aw)(E0:ab)(v5:Int):LT rY Bool:=
.len aC E0.Objects<|.br (decide (v5<(E0.Objects.length:Int))) (.idx aC E0.Objects v5 λx3=>.lb 1006<|.len bA v0<|.len ba E0.Players<|.call (ZeI x3 (v0.length:Int) (E0.Players.length:Int)) λx7=>.cs (!x7) (.k5 1<|.kg 1<|.b8 true<|.b3 true<|.kn [0]<|.rt false)<|.k5 1<|.kg 1<|.cs (decide (x3.Id>=E0.NextId)) (.k5 2<|.kg 2<|.b5 true<|.kn [0]<|.rt false)<|.k5 2<|.kg 2<|.cs (decide (x3.Stamp>=E0.NextStamp)) (.k5 3<|.kn [0]<|.rt false)<|.k3 3<|.cs (decide (v5>0)) (.k5 4<|.idx aC E0.Objects (IntKind.wrap .i64 (v5-1)) λx15=>.k5 4<|.kg 3<|.kg 4<|.kg 3<|.br (decide (x15.Id>=x3.Id)) (.rt false)<|.call (Rq E0 x3) λx18=>.br (!x18) (.rt false)<|.g0 (.L0 v0 E0 (IntKind.wrap .i64 (v5+1))))<|.k8 4<|.k2 4<|.kg 3<|.kg 4<|.kg 3<|.kn [0]<|.call (Rq E0 x3) λx23=>.br (!x23) (.rt false)<|.g0 (.L0 v0 E0 (IntKind.wrap .i64 (v5+1))))<|.rt true
def Rs(a0:List aw)(a1:ab):LT rY Bool:=
.lb 1003<|.len aC a1.Objects<|.br (decide ((a1.Objects.length:Int)>2048)) (.rt false)<|.go (.L0 a0 a1 0) [.relab 1003 3000]
def Z4g:LF rY Bool :=.m0 53 [.t 4] wB λ|.L0 v0 E0 v5=>([1,1,0,1,4],⟨65,[(0,wL bA v0),(3,.bptr 3000 0),(5,wI v5)],[(3000,.box (bx (aH E0)))]⟩,Rr v0 E0 v5)
def Rt:=λa0 a1=>Z4g.run (Rs a0 a1)
def vK(a0)(a1){r}(h:Rt a0 a1=some r):Fn PR 53 [wL bA a0,wA (aH a1)] (wB r):=Z4g.fn h
inductive rZ where
 |L0 (v0:List ai) (v1:List ai) (v5:Int)
def Ru(v0:List ai)(v1:List ai)(v5:Int):LT rZ Bool:=
.len aF v0<|.br (decide (v5<(v0.length:Int))) (.idx aF v0 v5 λx3=>.idx aF v1 v5 λx5=>.br (!(az (aF x3) (aF x5))) (.rt false)<|.g0 (.L0 v0 v1 (IntKind.wrap .i64 (v5+1))))<|.rt true
def Rv(a0:List ai)(a1:List ai):LT rZ Bool:=
.len aF a0<|.len aF a1<|.br ((a0.length:Int) != (a1.length:Int)) (.rt false)<|.g0 (.L0 a0 a1 0)
def Z09:LF rZ Bool :=.m0 143 [.t 4] wB λ|.L0 v0 v1 v5=>([1,1,0,1,4],⟨26,[(0,wL aF v0),(1,wL aF v1),(5,wI v5)],[]⟩,Ru v0 v1 v5)
def Rw:=λa0 a1=>Z09.run (Rv a0 a1)
def Rx(a0)(a1){r}(h:Rw a0 a1=some r):Fn PR 143 [wL aF a0,wL aF a1] (wB r):=Z09.fn h
def Ry(a0:bh)(a1:bh):LT Empty Bool:=
.lb 1002<|.lb 1003<|.cs (a0.Op==a1.Op) (.k5 0<|.kg 0<|.cs (az (fQ a0.Ref) (fQ a1.Ref)) (.k5 1<|.kg 1<|.cs (az (dB a0.Amount) (dB a1.Amount)) (.k5 2<|.kg 2<|.cs (a0.Counter==a1.Counter) (.k5 3<|.kg 3<|.cs (a0.Zone==a1.Zone) (.k5 4<|.kg 4<|.cs (a0.Card==a1.Card) (.k5 5<|.kg 5<|.cs (az (bf a0.Filter) (bf a1.Filter)) (.k5 6<|.kg 6<|.cs (az ((cA6 (cI .i64)) a0.Pool) ((cA6 (cI .i64)) a1.Pool)) (.k5 7<|.call (Rx a0.Mods a1.Mods) λx9=>.kg 7<|.rt x9)<|.k5 7<|.kg 7<|.rt false)<|.k5 6<|.kg 6<|.b5 false<|.kb false<|.rt false)<|.k5 5<|.kg 5<|.b8 false<|.b4 false<|.rt false)<|.k5 4<|.kg 4<|.b16 false<|.b2 false<|.rt false)<|.k5 3<|.kg 3<|.b16 false<|.b8 false<|.rt false)<|.k5 2<|.kg 2<|.b16 false<|.b8 false<|.b5 false<|.kb false<|.rt false)<|.k5 1<|.kg 1<|.b16 false<|.b16 false<|.b4 false<|.rt false)<|.k5 0<|.kg 0<|.b16 false<|.b16 false<|.b8 false<|.b2 false<|.rt false
def Rz:LF Empty Bool :=.z0 192 [.t 4] wB
def RE:=λa0 a1=>Rz.run (Ry a0 a1)
def ZeM(a0)(a1){r}(h:RE a0 a1=some r):Fn PR 192 [wA (bl a0),wA (bl a1)] (wB r):=Rz.fn h
inductive r3 where
 |L0 (v0:List bh) (v1:List bh) (v5:Int)
def RF(v0:List bh)(v1:List bh)(v5:Int):LT r3 Bool:=
.len bl v0<|.br (decide (v5<(v0.length:Int))) (.idx bl v0 v5 λx3=>.idx bl v1 v5 λx5=>.call (ZeM x3 x5) λx7=>.br (!x7) (.rt false)<|.g0 (.L0 v0 v1 (IntKind.wrap .i64 (v5+1))))<|.rt true
def RG(a0:List bh)(a1:List bh):LT r3 Bool:=
.len bl a0<|.len bl a1<|.br ((a0.length:Int) != (a1.length:Int)) (.rt false)<|.g0 (.L0 a0 a1 0)
def Z1a:LF r3 Bool :=.m0 144 [.t 4] wB λ|.L0 v0 v1 v5=>([1,1,0,1,4],⟨27,[(0,wL bl v0),(1,wL bl v1),(5,wI v5)],[]⟩,RF v0 v1 v5)
def RH:=λa0 a1=>Z1a.run (RG a0 a1)
def ZeN(a0)(a1){r}(h:RH a0 a1=some r):Fn PR 144 [wL bl a0,wL bl a1] (wB r):=Z1a.fn h
inductive r4 where
 |L0 (E0:an) (E1:an) (v5:Int)
def RJ(E0:an)(E1:an)(v5:Int):LT r4 Bool:=
.len bS E0.Specs<|.br (decide (v5<(E0.Specs.length:Int))) (.idx bS E0.Specs v5 λx3=>.idx bS E1.Specs v5 λx5=>.br (!(az (bS x3) (bS x5))) (.rt false)<|.g0 (.L0 E0 E1 (IntKind.wrap .i64 (v5+1))))<|.cs (E0.Kind==E1.Kind) (.k5 1<|.kg 1<|.cs (az (bf E0.Filter) (bf E1.Filter)) (.k5 2<|.call (Rx E0.Mods E1.Mods) λx12=>.kg 2<|.cs x12 (.k5 3<|.kg 3<|.cs (az (hN E0.Price) (hN E1.Price)) (.k5 4<|.kg 4<|.cs (E0.Slow==E1.Slow) (.k5 5<|.kg 5<|.cs (az (gP E0.Trigger) (gP E1.Trigger)) (.k5 6<|.kg 6<|.cs (E0.May==E1.May) (.k5 7<|.call (ZeN E0.Effects E1.Effects) λx19=>.kg 7<|.cs x19 (.k5 8<|.kg 8<|.rt (az (fw E0.Replace) (fw E1.Replace)))<|.k5 8<|.kg 8<|.rt false)<|.k5 7<|.kg 7<|.b5 false<|.kb false<|.rt false)<|.k5 6<|.kg 6<|.b8 false<|.b4 false<|.rt false)<|.k5 5<|.kg 5<|.b16 false<|.b2 false<|.rt false)<|.k5 4<|.kg 4<|.b16 false<|.b8 false<|.rt false)<|.k5 3<|.kg 3<|.b16 false<|.b8 false<|.b5 false<|.kb false<|.rt false)<|.k5 2<|.kg 2<|.b16 false<|.b16 false<|.b4 false<|.rt false)<|.k5 1<|.kg 1<|.b16 false<|.b16 false<|.b8 false<|.b2 false<|.rt false
def RK(a0:an)(a1:an):LT r4 Bool:=
.lb 1002<|.lb 1003<|.len bS a0.Specs<|.len bS a1.Specs<|.br ((a0.Specs.length:Int) != (a1.Specs.length:Int)) (.rt false)<|.go (.L0 a0 a1 0) [.relab 1002 3000,.relab 1003 3001]
def BE:LF r4 Bool :=.m0 106 [.t 4] wB λ|.L0 E0 E1 v5=>([1,1,0,1,4],⟨92,[(2,.bptr 3000 0),(3,.bptr 3001 0),(5,wI v5)],[(3000,.box (bx (aD E0))),(3001,.box (bx (aD E1)))]⟩,RJ E0 E1 v5)
def RM:=λa0 a1=>BE.run (RK a0 a1)
def ZeO(a0)(a1){r}(h:RM a0 a1=some r):Fn PR 106 [wA (aD a0),wA (aD a1)] (wB r):=BE.fn h
def RN(a0:ab)(a1:Z1):LT Empty Bool:=
.lb 1002<|.lb 1003<|.call (gx a1.Id 1 (IntKind.wrap .i64 (a0.NextId-1))) λx3=>.cs (!x3) (.k5 0<|.b8 true<|.b3 true<|.kn [0]<|.rt false)<|.k3 0<|.call (gx a1.X 0 1000000) λx6=>.k2 0<|.cs (!x6) (.k5 1<|.b5 true<|.kb true<|.kn [0]<|.rt false)<|.k3 1<|.len cc a1.Targets<|.k2 1<|.cs (decide ((a1.Targets.length:Int)>4)) (.k5 2<|.kg 2<|.kn [0]<|.rt false)<|.k4 2<|.call (mj a0 a1.Control) λx11=>.k2 2<|.br (!x11) (.rt false)<|.call (QP a0 a1.Id) λx14=>.lb 1005<|.br (a1.Kind==1) (.call (ZeO a1.Ability (⟨0,(⟨0,0,0,0,0,0,0,([]:By),0,0,(⟨0,0⟩:ae),(⟨0,0⟩:ae),(⟨0,0⟩:ae)⟩:aj),([]:List ai),(⟨(⟨0,0,(⟨0,0,0,0,0⟩:A5 Int)⟩:Z4),false,false,0⟩:gM),false,(⟨0,0,(⟨0,0,0,0,0,0,0,([]:By),0,0,(⟨0,0⟩:ae),(⟨0,0⟩:ae),(⟨0,0⟩:ae)⟩:aj)⟩:eW),false,([]:List bo),([]:List bh),(⟨0,0,(⟨0,0,0,0,0,0,0,([]:By),0,0,(⟨0,0⟩:ae),(⟨0,0⟩:ae),(⟨0,0⟩:ae)⟩:aj),0,0,0,0⟩:dn)⟩:an)) λx17=>.cs (a1.Source==a1.Id) (.k2 5<|.cs x14.2 (.k4 6<|.cs (x14.1.Zone==5) (.k2 7<|.cs x17 (.k3 8<|.kg 7<|.kg 8<|.kg 7<|.rt true)<|.k3 8<|.call (vI a1.Ability) λx23=>.kg 7<|.kg 8<|.kg 7<|.rt x23)<|.k4 7<|.rt false)<|.k4 6<|.b4 false<|.rt false)<|.k2 5<|.b8 false<|.rt false)<|.cs (a1.Kind==2) (.k3 5<|.cs (!x14.2) (.k3 6<|.call (vI a1.Ability) λx27=>.kg 6<|.rt x27)<|.k4 6<|.rt false)<|.k3 5<|.b4 false<|.rt false
def RO:LF Empty Bool :=.z0 101 [.t 4] wB
def RP:=λa0 a1=>RO.run (RN a0 a1)
def ZeP(a0)(a1){r}(h:RP a0 a1=some r):Fn PR 101 [wA (aH a0),wA (ax a1)] (wB r):=RO.fn h
inductive Z7p where
 |L0 (v0:List Int) (v3:Int)
def RQ(v0:List Int)(v3:Int):LT Z7p Bool:=
.len (cI .i64) v0<|.br (decide (v3<(v0.length:Int))) (.idx (cI .i64) v0 (IntKind.wrap .i64 (v3-1)) λx5=>.idx (cI .i64) v0 v3 λx7=>.br (decide (x5>=x7)) (.rt false)<|.g0 (.L0 v0 (IntKind.wrap .i64 (v3+1))))<|.rt true
def RR(a0:List Int):LT Z7p Bool:=
.g0 (.L0 a0 1)
def BF:LF Z7p Bool :=.m0 102 [.t 2] wB λ|.L0 v0 v3=>([1,0,1,4],⟨20,[(0,wL (cI .i64) v0),(3,wI v3)],[]⟩,RQ v0 v3)
def RS:=λa0=>BF.run (RR a0)
def ZeQ(a0){r}(h:RS a0=some r):Fn PR 102 [wL (cI .i64) a0] (wB r):=BF.fn h
inductive kK where
 |L0 (E0:ab) (v3:Int)
 |L1 (E0:ab) (v3:Int) (v4:Int)
 |L2 (E0:ab) (v5:Int)
 |L3 (E0:ab) (v7:Int)
def RT(E0:ab)(v3:Int):LT kK Bool:=
.len ax E0.Stack<|.br (decide (v3<(E0.Stack.length:Int))) (.idx ax E0.Stack v3 λx3=>.call (ZeP E0 x3) λx5=>.br (!x5) (.rt false)<|.g0 (.L1 E0 v3 0))<|.g0 (.L2 E0 0)
def RU(E0:ab)(v3:Int)(v4:Int):LT kK Bool:=
.br (decide (v4<v3)) (.idx ax E0.Stack v4 λx2=>.idx ax E0.Stack v3 λx4=>.br (x2.Id==x4.Id) (.rt false)<|.g0 (.L1 E0 v3 (IntKind.wrap .i64 (v4+1))))<|.g0 (.L0 E0 (IntKind.wrap .i64 (v3+1)))
def RW(E0:ab)(v5:Int):LT kK Bool:=
.len bz E0.Waiting<|.br (decide (v5<(E0.Waiting.length:Int))) (.idx bz E0.Waiting v5 λx3=>.lb 1006<|.call (mj E0 x3.Control) λx5=>.cs (!x5) (.k5 1<|.b5 true<|.kn [0]<|.rt false)<|.k5 1<|.cs (x3.Ability.Kind != 4) (.k5 2<|.kn [0]<|.rt false)<|.k3 2<|.call (vI x3.Ability) λx9=>.k2 2<|.br (!x9) (.rt false)<|.g0 (.L2 E0 (IntKind.wrap .i64 (v5+1))))<|.g0 (.L3 E0 0)
def RX(E0:ab)(v7:Int):LT kK Bool:=
.len bD E0.Conts<|.br (decide (v7<(E0.Conts.length:Int))) (.idx bD E0.Conts v7 λx3=>.lb 1008<|.call (mj E0 x3.Control) λx5=>.cs (!x5) (.k5 1<|.kg 1<|.b8 true<|.b5 true<|.b2 true<|.kn [0]<|.rt false)<|.k5 1<|.kg 1<|.cs (decide (x3.Stamp>=E0.NextStamp)) (.k5 2<|.b8 true<|.b2 true<|.kn [0]<|.rt false)<|.k3 2<|.call (gx x3.Until 1 2) λx9=>.k2 2<|.cs (!x9) (.k5 3<|.b5 true<|.kn [0]<|.rt false)<|.k3 3<|.call (ZeQ x3.Objects) λx12=>.k2 3<|.cs (!x12) (.k5 4<|.kn [0]<|.rt false)<|.k3 4<|.call (Bp x3.Mods) λx15=>.k2 4<|.br (x15==([]:By)) (.rt false)<|.g0 (.L3 E0 (IntKind.wrap .i64 (v7+1))))<|.rt true
def RY(a0:ab):LT kK Bool:=
.lb 1001<|.len ax a0.Stack<|.cs (decide ((a0.Stack.length:Int)>64)) (.k5 0<|.b5 true<|.kn [0]<|.rt false)<|.k3 0<|.len bz a0.Waiting<|.k2 0<|.cs (decide ((a0.Waiting.length:Int)>64)) (.k5 1<|.kn [0]<|.rt false)<|.k3 1<|.len bD a0.Conts<|.k2 1<|.br (decide ((a0.Conts.length:Int)>64)) (.rt false)<|.go (.L0 a0 0) [.relab 1001 3000]
def n8:LF kK Bool :=.m0 54 [.t 2] wB λ|.L0 E0 v3=>([1,1,0,1,4],⟨129,[(1,.bptr 3000 0),(3,wI v3)],[(3000,.box (bx (aH E0)))]⟩,RT E0 v3)|.L1 E0 v3 v4=>([1,1,0,1,4,5,1,0,4,1,1,4],⟨129,[(1,.bptr 3000 0),(3,wI v3),(4,wI v4)],[(3000,.box (bx (aH E0)))]⟩,RU E0 v3 v4)|.L2 E0 v5=>([1,1,1,0,1,4],⟨129,[(1,.bptr 3000 0),(5,wI v5)],[(3000,.box (bx (aH E0)))]⟩,RW E0 v5)|.L3 E0 v7=>([1,1,1,1,0,1,4],⟨129,[(1,.bptr 3000 0),(7,wI v7)],[(3000,.box (bx (aH E0)))]⟩,RX E0 v7)
def RZ:=λa0=>n8.run (RY a0)
def vL(a0){r}(h:RZ a0=some r):Fn PR 54 [wA (aH a0)] (wB r):=n8.fn h
inductive Z7q where
 |L0 (v0:List aw) (E0:ab) (v5:Int)
def R1(v0:List aw)(E0:ab)(v5:Int):LT Z7q Bool:=
.len (cI .i64) E0.Extra<|.br (decide (v5<(E0.Extra.length:Int))) (.idx (cI .i64) E0.Extra v5 λx3=>.call (mj E0 x3) λx5=>.br (!x5) (.rt false)<|.g0 (.L0 v0 E0 (IntKind.wrap .i64 (v5+1))))<|.cs (E0.Over==1) (.k4 1<|.call (mj E0 E0.Winner) λx11=>.k2 1<|.cs (!x11) (.k5 2<|.kg 2<|.kn [0]<|.rt false)<|.k4 2<|.cs (E0.Over != 1) (.k3 3<|.kg 2<|.kg 3<|.kg 2<|.br (E0.Winner != (-1)) (.rt false)<|.call (vK v0 E0) λx16=>.cs x16 (.k2 5<|.call (vL E0) λx19=>.kg 5<|.rt x19)<|.k3 5<|.rt false)<|.k3 3<|.kg 2<|.kg 3<|.kg 2<|.kn [0]<|.call (vK v0 E0) λx21=>.cs x21 (.k2 4<|.call (vL E0) λx24=>.kg 4<|.rt x24)<|.k3 4<|.rt false)<|.k5 1<|.kg 1<|.b4 false<|.cs (E0.Over != 1) (.k3 2<|.kb false<|.kg 2<|.kb false<|.br (E0.Winner != (-1)) (.rt false)<|.call (vK v0 E0) λx28=>.cs x28 (.k2 4<|.call (vL E0) λx31=>.kg 4<|.rt x31)<|.k3 4<|.rt false)<|.k3 2<|.kb false<|.kg 2<|.kb false<|.kn [0]<|.call (vK v0 E0) λx33=>.cs x33 (.k2 3<|.call (vL E0) λx36=>.kg 3<|.rt x36)<|.k3 3<|.rt false
def R2(a0:List aw)(a1:ab):LT Z7q Bool:=
.lb 1003<|.call (gx a1.NextId 1 1000000) λx1=>.cs (!x1) (.k5 0<|.b8 true<|.b5 true<|.b2 true<|.kn [0]<|.rt false)<|.k3 0<|.call (gx a1.NextStamp 1 1000000) λx4=>.k2 0<|.cs (!x4) (.k5 1<|.b8 true<|.b2 true<|.kn [0]<|.rt false)<|.k3 1<|.call (gx a1.Turn 0 500) λx7=>.k2 1<|.cs (!x7) (.k5 2<|.b5 true<|.kn [0]<|.rt false)<|.k3 2<|.call (gx a1.Step 0 10) λx10=>.k2 2<|.cs (!x10) (.k5 3<|.kn [0]<|.rt false)<|.k3 3<|.len aC a1.Objects<|.k2 3<|.br (decide ((a1.Objects.length:Int)>2048)) (.rt false)<|.call (ZeE a1) λx15=>.cs (!x15) (.k5 5<|.kg 5<|.b16 true<|.b8 true<|.kn [0]<|.rt false)<|.k4 5<|.call (mj a1 a1.Active) λx18=>.k2 5<|.cs (!x18) (.k5 6<|.kg 6<|.b16 true<|.b2 true<|.kn [0]<|.rt false)<|.k4 6<|.call (mj a1 a1.Priority) λx21=>.k2 6<|.cs (!x21) (.k8 7<|.b8 true<|.b2 true<|.kn [0]<|.rt false)<|.k5 7<|.len ba a1.Players<|.kg 7<|.call (gx a1.Passes 0 (a1.Players.length:Int)) λx25=>.k2 7<|.cs (!x25) (.k5 8<|.b5 true<|.kn [0]<|.rt false)<|.k3 8<|.len (cI .i64) a1.Extra<|.k2 8<|.cs (decide ((a1.Extra.length:Int)>500)) (.k5 9<|.kn [0]<|.rt false)<|.k3 9<|.call (gx a1.Over 0 2) λx30=>.k2 9<|.br (!x30) (.rt false)<|.go (.L0 a0 a1 0) [.relab 1003 3000]
def BG:LF Z7q Bool :=.m0 24 [.t 4] wB λ|.L0 v0 E0 v5=>([1,1,1,0,1,4],⟨114,[(0,wL bA v0),(3,.bptr 3000 0),(5,wI v5)],[(3000,.box (bx (aH E0)))]⟩,R1 v0 E0 v5)
def R3:=λa0 a1=>BG.run (R2 a0 a1)
def ZeR(a0)(a1){r}(h:R3 a0 a1=some r):Fn PR 24 [wL bA a0,wA (aH a1)] (wB r):=BG.fn h
inductive r5 where
 |L0 (v0:List aw) (E0:ab) (v5:Int)
def R4(v0:List aw)(E0:ab)(v5:Int):LT r5 Bool:=
.len ba E0.Players<|.br (decide (v5<(E0.Players.length:Int))) (.idx ba E0.Players v5 λx3=>.len (cI .i64) x3.Library<|.ag ba x3 0<|.len (cI .i64) x3.Hand<|.ag ba x3 0<|.len (cI .i64) x3.Graveyard<|.br (decide ((IntKind.wrap .i64 ((IntKind.wrap .i64 ((x3.Library.length:Int)+(x3.Hand.length:Int)))+(x3.Graveyard.length:Int)))>60)) (.rt false)<|.g0 (.L0 v0 E0 (IntKind.wrap .i64 (v5+1))))<|.call (ZeA v0) λx15=>.cs (x15.2==0) (.k3 1<|.call (ZeR v0 E0) λx18=>.kg 1<|.rt x18)<|.k4 1<|.rt false
def R5(a0:List aw)(a1:ab):LT r5 Bool:=
.lb 1003<|.len bA a0<|.cs (decide ((a0.length:Int)>12)) (.k5 0<|.b16 true<|.b16 true<|.b3 true<|.kn [0]<|.rt false)<|.k3 0<|.len ba a1.Players<|.k2 0<|.cs (decide ((a1.Players.length:Int)>4)) (.k5 1<|.b16 true<|.b8 true<|.b5 true<|.kb true<|.kn [0]<|.rt false)<|.k3 1<|.len aC a1.Objects<|.k2 1<|.cs (decide ((a1.Objects.length:Int)>60)) (.k5 2<|.b16 true<|.b8 true<|.kb true<|.kn [0]<|.rt false)<|.k3 2<|.len (cI .i64) a1.Battlefield<|.k2 2<|.cs (decide ((a1.Battlefield.length:Int)>60)) (.k5 3<|.b16 true<|.b4 true<|.kn [0]<|.rt false)<|.k3 3<|.len (cI .i64) a1.Exile<|.k2 3<|.cs (decide ((a1.Exile.length:Int)>60)) (.k5 4<|.b8 true<|.b5 true<|.b2 true<|.kn [0]<|.rt false)<|.k3 4<|.len ax a1.Stack<|.k2 4<|.cs (decide ((a1.Stack.length:Int)>8)) (.k5 5<|.b8 true<|.b2 true<|.kn [0]<|.rt false)<|.k3 5<|.len bz a1.Waiting<|.k2 5<|.cs (decide ((a1.Waiting.length:Int)>8)) (.k5 6<|.b5 true<|.kn [0]<|.rt false)<|.k3 6<|.len bD a1.Conts<|.k2 6<|.cs (decide ((a1.Conts.length:Int)>8)) (.k5 7<|.kn [0]<|.rt false)<|.k3 7<|.len (cI .i64) a1.Extra<|.k2 7<|.br (decide ((a1.Extra.length:Int)>20)) (.rt false)<|.go (.L0 a0 a1 0) [.relab 1003 3000]
def BH:LF r5 Bool :=.m0 8 [.t 4] wB λ|.L0 v0 E0 v5=>([1,1,0,1,4],⟨102,[(0,wL bA v0),(3,.bptr 3000 0),(5,wI v5)],[(3000,.box (bx (aH E0)))]⟩,R4 v0 E0 v5)
def R6:=λa0 a1=>BH.run (R5 a0 a1)
def R7(a0)(a1){r}(h:R6 a0 a1=some r):Fn PR 8 [wL bA a0,wA (aH a1)] (wB r):=BH.fn h
def Z5t(a0:List Int):LT Empty (List Int):=
.apN (cI .i64) 1006 8 a0 λx1=>.ret x1 [.relab 1006 5000]
def Z5u:LF Empty (List Int) :=.z 30 [.t 2] true (λr=>[(5000,wR (cI .i64) 1 r)]) (λr=>(wO (cI .i64) 5000 r))
def BI:=λa0=>Z5u.run (Z5t a0)
def Z0c(a0){r}(h:BI a0=some r):FnG PR 30 [] [wL (cI .i64) a0] [(5000,wR (cI .i64) 1 r)] (wO (cI .i64) 5000 r):=Z5u.fn h
def ZeS(a0:List Int){r:List Int}(h:BI a0=some r):Fn PR 30 [wL (cI .i64) a0] (wL (cI .i64) r):=FnG.frozen (C:=LT.RL (cI .i64) r/\True) (Z0c a0 h) ⟨rfl,aa⟩ ar
inductive Z3b where
 |L0 (E0:bm) (v8:List (List Int)) (v9:Int) (v10:Int)
def R8(E0:bm)(v8:List (List Int))(v9:Int)(v10:Int):LT Z3b bm:=
.br (decide (v10<v9)) (.idx (cL (cI .i64)) v8 v10 λx2=>.call (ZeS x2) λx4=>.dr [.lit]<|.apR (cL (cI .i64)) 24 E0.answers [x4] λx6=>.g0 (.L0 (⟨x6,E0.used,E0.pending,E0.waits,E0.bad⟩:bm) v8 v9 (IntKind.wrap .i64 (v10+1))))<|.rl (cL (cI .i64)) E0.answers<|.rl bj E0.pending.Options<|.ret E0 [.frz 40000,.frz 40008,.relab 3000 5000]
def R9(a0:List (List Int)):LT Z3b bm:=
.lb 1007<|.len (cL (cI .i64)) a0<|.go (.L0 (⟨([]:List (List Int)),0,(⟨0,0,0,0,0,0,([]:List bc)⟩:Z3),false,false⟩:bm) a0 (a0.length:Int) 0) [.relab 1007 3000,.ownb 3000 0 40000 1,.ownb 3000 8 40008 3]
def BJ:LF Z3b bm :=.m 16 [.t 2] true (λr=>[(5000,.box (bx (dG r)))]) (λr=>(.bptr 5000 0)) λ|.L0 E0 v8 v9 v10=>([1,1,0,1,4],⟨27,[(3,.bptr 3000 0),(8,wL (cL (cI .i64)) v8),(9,wI v9),(10,wI v10)],[(3000,.box [wO (cL (cI .i64)) 40000 E0.answers,wI E0.used,wI E0.pending.Kind,wI E0.pending.Player,wI E0.pending.Source,wI E0.pending.Least,wI E0.pending.Most,wI E0.pending.N,wO bj 40008 E0.pending.Options,wB E0.waits,wB E0.bad]),(40000,wR (cL (cI .i64)) 1 E0.answers),(40008,wR bj 3 E0.pending.Options)]⟩,R8 E0 v8 v9 v10)
def Sa:=λa0=>BJ.run (R9 a0)
def BK(a0){r}(h:Sa a0=some r):FnG PR 16 [] [wL (cL (cI .i64)) a0] [(5000,.box (bx (dG r)))] (.bptr 5000 0):=BJ.fn h
def BL(a0:List bC)(hne:a0≠[]):LT Empty (List bC):=
.ne ba hne<|.kn [0]<|.lb 1005<|.apR ba 152 ([]:List bC) a0 λx1=>.ret x1 [.relab 1005 5000]
def ml:LF Empty (List bC) :=.z 55 [.t 2] true (λr=>[(5000,wR ba 14 r)]) (λr=>(wO ba 5000 r))
def vM(c:Nat):LT Empty (List bC):=
.kn [0]<|.ret ([]:List bC) [.own 2 5000 14]
def ZeT(c:Nat)(ad:Addr):LT Empty (List bC):=
.kn [0]<|.lb 1005<|.apR ba 152 ([]:List bC) ([]:List bC) λx1=>.ret x1 [.relab 1005 5000]
open Classical in
def vN(a0:List bC):Option (List bC):=if h:a0≠[]then ml.run (BL a0 h)else ml.run (vM 0)
def ZbM(a0:List bC){r:List bC}(h:vN a0=some r):FnG PR 55 [] [wL ba a0] [(5000,wR ba 14 r)] (wO ba 5000 r):=by
 by_cases hne:a0=[]
 .subst hne;have h0:ml.run (vM 0)=some r:=h;exact FnG.split0 (λe=>absurd rfl e) (λ_ a c=>by
   cases a with
   |none=>exact ml.fn (t:=vM c) h0
   |some ad=>exact ml.fn (t:=ZeT c ad) h0)
 have h0:ml.run (BL a0 hne)=some r:=by unfold vN at h;rwa[eY hne]at h
 exact FnG.split0 (λ_=>ml.fn h0) (λe=>absurd (fm.1 e) hne)
def BM(a0:List Int)(hne:a0≠[]):LT Empty (List Int):=
.ne (cI .i64) hne<|.kn [0]<|.lb 1005<|.apR (cI .i64) 8 ([]:List Int) a0 λx1=>.ret x1 [.relab 1005 5000]
def mq:LF Empty (List Int) :=.z 58 [.t 2] true (λr=>[(5000,wR (cI .i64) 1 r)]) (λr=>(wO (cI .i64) 5000 r))
def vO(c:Nat):LT Empty (List Int):=
.kn [0]<|.ret ([]:List Int) [.own 2 5000 1]
def Z4h(c:Nat)(ad:Addr):LT Empty (List Int):=
.kn [0]<|.lb 1005<|.apR (cI .i64) 8 ([]:List Int) ([]:List Int) λx1=>.ret x1 [.relab 1005 5000]
open Classical in
def r6(a0:List Int):Option (List Int):=if h:a0≠[]then mq.run (BM a0 h)else mq.run (vO 0)
def lN(a0:List Int){r:List Int}(h:r6 a0=some r):FnG PR 58 [] [wL (cI .i64) a0] [(5000,wR (cI .i64) 1 r)] (wO (cI .i64) 5000 r):=by
 by_cases hne:a0=[]
 .subst hne;have h0:mq.run (vO 0)=some r:=h;exact FnG.split0 (λe=>absurd rfl e) (λ_ a c=>by
   cases a with
   |none=>exact mq.fn (t:=vO c) h0
   |some ad=>exact mq.fn (t:=Z4h c ad) h0)
 have h0:mq.run (BM a0 hne)=some r:=by unfold r6 at h;rwa[eY hne]at h
 exact FnG.split0 (λ_=>mq.fn h0) (λe=>absurd (fm.1 e) hne)
def K8(a0:List Int){r:List Int}(h:r6 a0=some r):Fn PR 58 [wL (cI .i64) a0] (wL (cI .i64) r):=FnG.frozen (C:=LT.RL (cI .i64) r/\True) (lN a0 h) ⟨rfl,aa⟩ ar
def Z5v(a0:bC):LT Empty bC:=
.lb 1001<|.lb 1002<|.callF (lN a0.Library) 60000 λx1=>.callF (lN a0.Hand) 100000 λx3=>.callF (lN a0.Graveyard) 140000 λx5=>.ret (⟨a0.Life,a0.Venom,a0.Lands,a0.Pool,a0.Failed,a0.Lost,x1,x3,x5⟩:bC) [.relab 65000 5011,.relab 105000 5012,.relab 145000 5013]
def Z5w:LF Empty bC :=.z 56 [.c 2 80 true 14] true (λr=>[(5011,wR (cI .i64) 1 r.Library),(5012,wR (cI .i64) 1 r.Hand),(5013,wR (cI .i64) 1 r.Graveyard)]) (λr=>(.agg (tm20 r 5000)))
def BN:=λa0=>Z5w.run (Z5v a0)
def ZeU(a0){r}(h:BN a0=some r):FnG PR 56 [] [wA (ba a0)] [(5011,wR (cI .i64) 1 r.Library),(5012,wR (cI .i64) 1 r.Hand),(5013,wR (cI .i64) 1 r.Graveyard)] (.agg (tm20 r 5000)):=Z5w.fn h
def ZbG(a0:bC){r:bC}(h:BN a0=some r):Fn PR 56 [wA (ba a0)] (wA (ba r)):=FnG.frozen (C:=LT.RL (cI .i64) r.Library/\LT.RL (cI .i64) r.Hand/\LT.RL (cI .i64) r.Graveyard/\True) (ZeU a0 h) ⟨rfl,rfl,rfl,aa⟩ ar
def BO(a0:List ak)(hne:a0≠[]):LT Empty (List ak):=
.ne aC hne<|.kn [0]<|.lb 1005<|.apR aC 128 ([]:List ak) a0 λx1=>.ret x1 [.relab 1005 5000]
def mr:LF Empty (List ak) :=.z 57 [.t 2] true (λr=>[(5000,wR aC 19 r)]) (λr=>(wO aC 5000 r))
def vP(c:Nat):LT Empty (List ak):=
.kn [0]<|.ret ([]:List ak) [.own 2 5000 19]
def ZeV(c:Nat)(ad:Addr):LT Empty (List ak):=
.kn [0]<|.lb 1005<|.apR aC 128 ([]:List ak) ([]:List ak) λx1=>.ret x1 [.relab 1005 5000]
open Classical in
def vQ(a0:List ak):Option (List ak):=if h:a0≠[]then mr.run (BO a0 h)else mr.run (vP 0)
def ZbH(a0:List ak){r:List ak}(h:vQ a0=some r):FnG PR 57 [] [wL aC a0] [(5000,wR aC 19 r)] (wO aC 5000 r):=by
 by_cases hne:a0=[]
 .subst hne;have h0:mr.run (vP 0)=some r:=h;exact FnG.split0 (λe=>absurd rfl e) (λ_ a c=>by
   cases a with
   |none=>exact mr.fn (t:=vP c) h0
   |some ad=>exact mr.fn (t:=ZeV c ad) h0)
 have h0:mr.run (BO a0 hne)=some r:=by unfold vQ at h;rwa[eY hne]at h
 exact FnG.split0 (λ_=>mr.fn h0) (λe=>absurd (fm.1 e) hne)
def BP(a0:List Z1)(hne:a0≠[]):LT Empty (List Z1):=
.ne ax hne<|.kn [0]<|.lb 1005<|.apR ax 824 ([]:List Z1) a0 λx1=>.ret x1 [.relab 1005 5000]
def mu:LF Empty (List Z1) :=.z 59 [.t 2] true (λr=>[(5000,wR ax 94 r)]) (λr=>(wO ax 5000 r))
def vR(c:Nat):LT Empty (List Z1):=
.kn [0]<|.ret ([]:List Z1) [.own 2 5000 94]
def ZeW(c:Nat)(ad:Addr):LT Empty (List Z1):=
.kn [0]<|.lb 1005<|.apR ax 824 ([]:List Z1) ([]:List Z1) λx1=>.ret x1 [.relab 1005 5000]
open Classical in
def vS(a0:List Z1):Option (List Z1):=if h:a0≠[]then mu.run (BP a0 h)else mu.run (vR 0)
def ZbI(a0:List Z1){r:List Z1}(h:vS a0=some r):FnG PR 59 [] [wL ax a0] [(5000,wR ax 94 r)] (wO ax 5000 r):=by
 by_cases hne:a0=[]
 .subst hne;have h0:mu.run (vR 0)=some r:=h;exact FnG.split0 (λe=>absurd rfl e) (λ_ a c=>by
   cases a with
   |none=>exact mu.fn (t:=vR c) h0
   |some ad=>exact mu.fn (t:=ZeW c ad) h0)
 have h0:mu.run (BP a0 hne)=some r:=by unfold vS at h;rwa[eY hne]at h
 exact FnG.split0 (λ_=>mu.fn h0) (λe=>absurd (fm.1 e) hne)
def BQ(a0:List ai)(hne:a0≠[]):LT Empty (List ai):=
.ne aF hne<|.kn [0]<|.lb 1005<|.apR aF 176 ([]:List ai) a0 λx1=>.ret x1 [.relab 1005 5000]
def mv:LF Empty (List ai) :=.z 64 [.t 2] true (λr=>[(5000,wR aF 20 r)]) (λr=>(wO aF 5000 r))
def vT(c:Nat):LT Empty (List ai):=
.kn [0]<|.ret ([]:List ai) [.own 2 5000 20]
def ZeX(c:Nat)(ad:Addr):LT Empty (List ai):=
.kn [0]<|.lb 1005<|.apR aF 176 ([]:List ai) ([]:List ai) λx1=>.ret x1 [.relab 1005 5000]
open Classical in
def r7(a0:List ai):Option (List ai):=if h:a0≠[]then mv.run (BQ a0 h)else mv.run (vT 0)
def As(a0:List ai){r:List ai}(h:r7 a0=some r):FnG PR 64 [] [wL aF a0] [(5000,wR aF 20 r)] (wO aF 5000 r):=by
 by_cases hne:a0=[]
 .subst hne;have h0:mv.run (vT 0)=some r:=h;exact FnG.split0 (λe=>absurd rfl e) (λ_ a c=>by
   cases a with
   |none=>exact mv.fn (t:=vT c) h0
   |some ad=>exact mv.fn (t:=ZeX c ad) h0)
 have h0:mv.run (BQ a0 hne)=some r:=by unfold r7 at h;rwa[eY hne]at h
 exact FnG.split0 (λ_=>mv.fn h0) (λe=>absurd (fm.1 e) hne)
def lO(a0:List ai){r:List ai}(h:r7 a0=some r):Fn PR 64 [wL aF a0] (wL aF r):=FnG.frozen (C:=LT.RL aF r/\True) (As a0 h) ⟨rfl,aa⟩ ar
def BS(a0:List bo)(hne:a0≠[]):LT Empty (List bo):=
.ne bS hne<|.kn [0]<|.lb 1005<|.apR bS 144 ([]:List bo) a0 λx1=>.ret x1 [.relab 1005 5000]
def mw:LF Empty (List bo) :=.z 104 [.t 2] true (λr=>[(5000,wR bS 18 r)]) (λr=>(wO bS 5000 r))
def vU(c:Nat):LT Empty (List bo):=
.kn [0]<|.ret ([]:List bo) [.own 2 5000 18]
def ZeY(c:Nat)(ad:Addr):LT Empty (List bo):=
.kn [0]<|.lb 1005<|.apR bS 144 ([]:List bo) ([]:List bo) λx1=>.ret x1 [.relab 1005 5000]
open Classical in
def r8(a0:List bo):Option (List bo):=if h:a0≠[]then mw.run (BS a0 h)else mw.run (vU 0)
def At(a0:List bo){r:List bo}(h:r8 a0=some r):FnG PR 104 [] [wL bS a0] [(5000,wR bS 18 r)] (wO bS 5000 r):=by
 by_cases hne:a0=[]
 .subst hne;have h0:mw.run (vU 0)=some r:=h;exact FnG.split0 (λe=>absurd rfl e) (λ_ a c=>by
   cases a with
   |none=>exact mw.fn (t:=vU c) h0
   |some ad=>exact mw.fn (t:=ZeY c ad) h0)
 have h0:mw.run (BS a0 hne)=some r:=by unfold r8 at h;rwa[eY hne]at h
 exact FnG.split0 (λ_=>mw.fn h0) (λe=>absurd (fm.1 e) hne)
def Zcl(a0:List bo){r:List bo}(h:r8 a0=some r):Fn PR 104 [wL bS a0] (wL bS r):=FnG.frozen (C:=LT.RL bS r/\True) (At a0 h) ⟨rfl,aa⟩ ar
def BT(a0:List bh)(hne:a0≠[]):LT Empty (List bh):=
.ne bl hne<|.kn [0]<|.lb 1005<|.apR bl 560 ([]:List bh) a0 λx1=>.ret x1 [.relab 1005 5000]
def mx:LF Empty (List bh) :=.z 105 [.t 2] true (λr=>[(5000,wR bl 64 r)]) (λr=>(wO bl 5000 r))
def vV(c:Nat):LT Empty (List bh):=
.kn [0]<|.ret ([]:List bh) [.own 2 5000 64]
def ZeZ(c:Nat)(ad:Addr):LT Empty (List bh):=
.kn [0]<|.lb 1005<|.apR bl 560 ([]:List bh) ([]:List bh) λx1=>.ret x1 [.relab 1005 5000]
open Classical in
def vW(a0:List bh):Option (List bh):=if h:a0≠[]then mx.run (BT a0 h)else mx.run (vV 0)
def Au(a0:List bh){r:List bh}(h:vW a0=some r):FnG PR 105 [] [wL bl a0] [(5000,wR bl 64 r)] (wO bl 5000 r):=by
 by_cases hne:a0=[]
 .subst hne;have h0:mx.run (vV 0)=some r:=h;exact FnG.split0 (λe=>absurd rfl e) (λ_ a c=>by
   cases a with
   |none=>exact mx.fn (t:=vV c) h0
   |some ad=>exact mx.fn (t:=ZeZ c ad) h0)
 have h0:mx.run (BT a0 hne)=some r:=by unfold vW at h;rwa[eY hne]at h
 exact FnG.split0 (λ_=>mx.fn h0) (λe=>absurd (fm.1 e) hne)
inductive r9 where
 |L0 (E0:an) (E1:an) (v18:Int) (v19:Int)
def Z0d(E0:an)(E1:an)(v18:Int)(v19:Int):LT r9 an:=
.br (decide (v19<v18)) (.idxR bl E0.Effects v19 λx2=>.rl bl E0.Effects<|.ldR bl E0.Effects x2 2<|.call (lO x2.Mods) λx4=>.plR bl E0.Effects v19 0<|.rl bl E0.Effects<|.setD bl E0.Effects v19 x2 (⟨x2.Op,x2.Ref,x2.Amount,x2.Counter,x2.Zone,x2.Card,x2.Filter,x2.Pool,x4⟩:bh) 2 63 [.sl (List.map aF x4)] rfl λx6=>.dr [.ahead 34,.relen 40049,.stop]<|.us [3]<|.us [3]<|.us [3]<|.us [3]<|.us [3]<|.us [3]<|.us [3]<|.g0 (.L0 (⟨E0.Kind,E0.Filter,E0.Mods,E0.Price,E0.Slow,E0.Trigger,E0.May,E0.Specs,x6,E0.Replace⟩:an) E1 v18 (IntKind.wrap .i64 (v19+1))))<|.ret E0 (tm26 40000 5000)
def Z3c(a0:an):LT r9 an:=
.lb 1001<|.lb 1002<|.callF (As a0.Mods) 70000 λx1=>.callF (At a0.Specs) 110000 λx3=>.callF (Au a0.Effects) 150000 λx5=>.lenO bl x5<|.go (.L0 (⟨a0.Kind,a0.Filter,x1,a0.Price,a0.Slow,a0.Trigger,a0.May,x3,x5,a0.Replace⟩:an) (⟨0,(⟨0,0,0,0,0,0,0,([]:By),0,0,(⟨0,0⟩:ae),(⟨0,0⟩:ae),(⟨0,0⟩:ae)⟩:aj),([]:List ai),(⟨(⟨0,0,(⟨0,0,0,0,0⟩:A5 Int)⟩:Z4),false,false,0⟩:gM),false,(⟨0,0,(⟨0,0,0,0,0,0,0,([]:By),0,0,(⟨0,0⟩:ae),(⟨0,0⟩:ae),(⟨0,0⟩:ae)⟩:aj)⟩:eW),false,([]:List bo),([]:List bh),(⟨0,0,(⟨0,0,0,0,0,0,0,([]:By),0,0,(⟨0,0⟩:ae),(⟨0,0⟩:ae),(⟨0,0⟩:ae)⟩:aj),0,0,0,0⟩:dn)⟩:an) (x5.length:Int) 0) [.relab 1001 3000,.relab 1002 3001,.relab 75000 40017,.relab 115000 40048,.relab 155000 40049,.ownb 3001 17 40117 20,.ownb 3001 48 40148 18,.ownb 3001 49 40149 64]
def BU:LF r9 an :=.m 60 [.c 2 49 true 72] true (λr=>(tm30 r 5000)) (λr=>(.agg (tm0 r 5000))) λ|.L0 E0 E1 v18 v19=>([1,1,1,1,0,1,4],⟨36,[(1,.bptr 3000 0),(2,.bptr 3001 0),(18,wI v18),(19,wI v19)],((3000,.box (tm0 E0 40000))::(40017,wR aF 20 E0.Mods)::(40048,wR bS 18 E0.Specs)::(40049,wR bl 64 E0.Effects)::(3001,.box (tm0 E1 40100))::(tm30 E1 40100))⟩,Z0d E0 E1 v18 v19)
def BV:=λa0=>BU.run (Z3c a0)
def Ze0(a0){r}(h:BV a0=some r):FnG PR 60 [] [wA (aD a0)] (tm30 r 5000) (.agg (tm0 r 5000)):=BU.fn h
def Z0e(a0:an){r:an}(h:BV a0=some r):Fn PR 60 [wA (aD a0)] (wA (aD r)):=FnG.frozen (C:=LT.RL aF r.Mods/\LT.RL bS r.Specs/\LT.RL bl r.Effects/\True) (Ze0 a0 h) ⟨rfl,rfl,rfl,aa⟩ ar
def BW(a0:List bW)(hne:a0≠[]):LT Empty (List bW):=
.ne cc hne<|.kn [0]<|.lb 1005<|.apR cc 16 ([]:List bW) a0 λx1=>.ret x1 [.relab 1005 5000]
def my:LF Empty (List bW) :=.z 61 [.t 2] true (λr=>[(5000,wR cc 2 r)]) (λr=>(wO cc 5000 r))
def vX(c:Nat):LT Empty (List bW):=
.kn [0]<|.ret ([]:List bW) [.own 2 5000 2]
def Ze1(c:Nat)(ad:Addr):LT Empty (List bW):=
.kn [0]<|.lb 1005<|.apR cc 16 ([]:List bW) ([]:List bW) λx1=>.ret x1 [.relab 1005 5000]
open Classical in
def sb(a0:List bW):Option (List bW):=if h:a0≠[]then my.run (BW a0 h)else my.run (vX 0)
def Ze2(a0:List bW){r:List bW}(h:sb a0=some r):FnG PR 61 [] [wL cc a0] [(5000,wR cc 2 r)] (wO cc 5000 r):=by
 by_cases hne:a0=[]
 .subst hne;have h0:my.run (vX 0)=some r:=h;exact FnG.split0 (λe=>absurd rfl e) (λ_ a c=>by
   cases a with
   |none=>exact my.fn (t:=vX c) h0
   |some ad=>exact my.fn (t:=Ze1 c ad) h0)
 have h0:my.run (BW a0 hne)=some r:=by unfold sb at h;rwa[eY hne]at h
 exact FnG.split0 (λ_=>my.fn h0) (λe=>absurd (fm.1 e) hne)
def ZbJ(a0:List bW){r:List bW}(h:sb a0=some r):Fn PR 61 [wL cc a0] (wL cc r):=FnG.frozen (C:=LT.RL cc r/\True) (Ze2 a0 h) ⟨rfl,aa⟩ ar
def BX(a0:List Z2)(hne:a0≠[]):LT Empty (List Z2):=
.ne bz hne<|.kn [0]<|.lb 1005<|.apR bz 768 ([]:List Z2) a0 λx1=>.ret x1 [.relab 1005 5000]
def mz:LF Empty (List Z2) :=.z 62 [.t 2] true (λr=>[(5000,wR bz 89 r)]) (λr=>(wO bz 5000 r))
def vY(c:Nat):LT Empty (List Z2):=
.kn [0]<|.ret ([]:List Z2) [.own 2 5000 89]
def Ze3(c:Nat)(ad:Addr):LT Empty (List Z2):=
.kn [0]<|.lb 1005<|.apR bz 768 ([]:List Z2) ([]:List Z2) λx1=>.ret x1 [.relab 1005 5000]
open Classical in
def vZ(a0:List Z2):Option (List Z2):=if h:a0≠[]then mz.run (BX a0 h)else mz.run (vY 0)
def ZbK(a0:List Z2){r:List Z2}(h:vZ a0=some r):FnG PR 62 [] [wL bz a0] [(5000,wR bz 89 r)] (wO bz 5000 r):=by
 by_cases hne:a0=[]
 .subst hne;have h0:mz.run (vY 0)=some r:=h;exact FnG.split0 (λe=>absurd rfl e) (λ_ a c=>by
   cases a with
   |none=>exact mz.fn (t:=vY c) h0
   |some ad=>exact mz.fn (t:=Ze3 c ad) h0)
 have h0:mz.run (BX a0 hne)=some r:=by unfold vZ at h;rwa[eY hne]at h
 exact FnG.split0 (λ_=>mz.fn h0) (λe=>absurd (fm.1 e) hne)
def yi(a0:List ck)(hne:a0≠[]):LT Empty (List ck):=
.ne bD hne<|.kn [0]<|.lb 1005<|.apR bD 80 ([]:List ck) a0 λx1=>.ret x1 [.relab 1005 5000]
def mA:LF Empty (List ck) :=.z 63 [.t 2] true (λr=>[(5000,wR bD 6 r)]) (λr=>(wO bD 5000 r))
def tw(c:Nat):LT Empty (List ck):=
.kn [0]<|.ret ([]:List ck) [.own 2 5000 6]
def Ze4(c:Nat)(ad:Addr):LT Empty (List ck):=
.kn [0]<|.lb 1005<|.apR bD 80 ([]:List ck) ([]:List ck) λx1=>.ret x1 [.relab 1005 5000]
open Classical in
def tv(a0:List ck):Option (List ck):=if h:a0≠[]then mA.run (yi a0 h)else mA.run (tw 0)
def ZbL(a0:List ck){r:List ck}(h:tv a0=some r):FnG PR 63 [] [wL bD a0] [(5000,wR bD 6 r)] (wO bD 5000 r):=by
 by_cases hne:a0=[]
 .subst hne;have h0:mA.run (tw 0)=some r:=h;exact FnG.split0 (λe=>absurd rfl e) (λ_ a c=>by
   cases a with
   |none=>exact mA.fn (t:=tw c) h0
   |some ad=>exact mA.fn (t:=Ze4 c ad) h0)
 have h0:mA.run (yi a0 hne)=some r:=by unfold tv at h;rwa[eY hne]at h
 exact FnG.split0 (λ_=>mA.fn h0) (λe=>absurd (fm.1 e) hne)
end
end Go.PW
