import Derived.Test.YtchddhcajpagjaaGreatQDt
set_option linter.all false
set_option maxRecDepth 100000
namespace Go.PW
open Go.RowKit
noncomputable section
def yG(a0:Int):LT Empty Bool:=
.cs (decide (a0>=97)) (.k3 0<|.rt (decide (a0<=122)))<|.k3 0<|.rt false
def FF:LF Empty Bool :=.z0 120 [.t 2] wB
def uA:=λa0=>FF.run (yG a0)
def FG(a0){r}(h:uA a0=some r):Fn PR 120 [.t (.int .u8 a0)] (wB r):=FF.fn h
inductive jV where
 |L0 (v0:By) (v3:Int)
 |L1 (v0:By) (v3:Int)
def jW(v0:By)(v3:Int):LT jV Bool:=
.cs (decide (v3>0)) (.k3 0<|.idxS v0 v3 λx2=>.k2 0<|.cs ((UInt8.toNat x2:Int)==45) (.k4 1<|.idxS v0 (IntKind.wrap .i64 (v3-1)) λx7=>.k2 1<|.br ((UInt8.toNat x7:Int)==45) (.rt false)<|.g0 (.L0 v0 (IntKind.wrap .i64 (v3+1))))<|.k5 1<|.kg 1<|.kn [0]<|.g0 (.L0 v0 (IntKind.wrap .i64 (v3+1))))<|.k5 0<|.b5 false<|.kb false<|.kn [0]<|.g0 (.L0 v0 (IntKind.wrap .i64 (v3+1)))
def nu(v0:By)(v3:Int):LT jV Bool:=
.lenS v0<|.br (decide (v3<(v0.length:Int))) (.idxS v0 v3 λx3=>.call (FG (UInt8.toNat x3:Int)) λx5=>.cs (!x5) (.k3 1<|.idxS v0 v3 λx8=>.k2 1<|.cs (decide ((UInt8.toNat x8:Int)<48)) (.k4 2<|.kg 1<|.kg 2<|.kg 1<|.b3 true<|.idxS v0 v3 λx11=>.b2 true<|.br ((UInt8.toNat x11:Int) != 45) (.rt false)<|.j0 (.L1 v0 v3) (jW v0 v3))<|.k3 2<|.idxS v0 v3 λx14=>.kg 2<|.kg 1<|.kg 2<|.kg 1<|.cs (decide ((UInt8.toNat x14:Int)>57)) (.k3 3<|.idxS v0 v3 λx17=>.k2 3<|.br ((UInt8.toNat x17:Int) != 45) (.rt false)<|.j0 (.L1 v0 v3) (jW v0 v3))<|.k5 3<|.kn [0]<|.j0 (.L1 v0 v3) (jW v0 v3))<|.k5 1<|.k2 1<|.b5 false<|.kn [0]<|.j0 (.L1 v0 v3) (jW v0 v3))<|.rt true
def yH(a0:By):LT jV Bool:=
.lenS a0<|.cs (decide ((a0.length:Int)<1)) (.k4 0<|.b8 true<|.b4 true<|.kn [0]<|.rt false)<|.k2 0<|.lenS a0<|.k2 0<|.cs (decide ((a0.length:Int)>32)) (.k5 1<|.b5 true<|.b2 true<|.kn [0]<|.rt false)<|.k2 1<|.idxS a0 0 λx4=>.kg 1<|.call (FG (UInt8.toNat x4:Int)) λx6=>.k2 1<|.cs (!x6) (.k5 2<|.k2 2<|.kn [0]<|.rt false)<|.k3 2<|.lenS a0<|.k2 2<|.idxS a0 (IntKind.wrap .i64 ((a0.length:Int)-1)) λx11=>.k2 2<|.br ((UInt8.toNat x11:Int)==45) (.rt false)<|.g0 (.L0 a0 0)
def nv:LF jV Bool :=.m0 73 [.t 2] wB λ|.L0 v0 v3=>([1,1,0,1,4],⟨70,[(0,wS v0),(3,wI v3)],[]⟩,nu v0 v3)|.L1 v0 v3=>([1,1,0,1,4,5,1,0,4,1],⟨70,[(0,wS v0),(3,wI v3)],[]⟩,jW v0 v3)
def uB:=λa0=>nv.run (yH a0)
def yI(a0){r}(h:uB a0=some r):Fn PR 73 [wS a0] (wB r):=nv.fn h
inductive jX where
 |L0 (E0:aJ) (v3:Int)
def nw(E0:aJ)(v3:Int):LT jX Bool:=
.br (decide (v3<5)) (.idA (aa.int .i64) (A5.list E0.Color) v3 (bx (cc E0)) 2 7 λx2=>.ldC (aa.int .i64) 29 x2 0<|.cs (decide (x2<0)) (.k5 1<|.kg 1<|.kn [0]<|.rt false)<|.k3 1<|.idA (aa.int .i64) (A5.list E0.Color) v3 (bx (cc E0)) 2 7 λx5=>.kg 1<|.ldC (aa.int .i64) 35 x5 1<|.k2 1<|.br (decide (x5>9)) (.rt false)<|.g0 (.L0 E0 (IntKind.wrap .i64 (v3+1))))<|.rt true
def yJ(a0:aJ):LT jX Bool:=
.lb 1001<|.cs (decide (a0.Generic<0)) (.k4 0<|.b8 true<|.kn [0]<|.rt false)<|.k4 0<|.cs (decide (a0.Generic>99)) (.k4 1<|.b4 true<|.kn [0]<|.rt false)<|.k4 1<|.cs (decide (a0.X<0)) (.k4 2<|.kn [0]<|.rt false)<|.k4 2<|.br (decide (a0.X>2)) (.rt false)<|.go (.L0 a0 0) [.relab 1001 3000]
def jA:LF jX Bool :=.m0 74 [.t 2] wB λ|.L0 E0 v3=>([1,1,0,1,4],⟨38,[(1,.bptr 3000 0),(3,wI v3)],[(3000,.box (bx (cc E0)))]⟩,nw E0 v3)
def Z9l:=λa0=>jA.run (yJ a0)
def pH(a0){r}(h:Z9l a0=some r):Fn PR 74 [wA (cc a0)] (wB r):=jA.fn h
def ZbF:LT Empty (Bys):=
.lb 1001<|.ret [([98,97,115,105,99]:By),([117,110,105,113,117,101]:By)] [.relab 1001 5000]
def Z26:LF Empty (Bys) :=.z 169 [.t 0] true (λr=>[(5000,wR cS 1 r)]) (λr=>(wO cS 5000 r))
def yK:=Z26.run (ZbF)
def ZbG{r}(h:yK=some r):FnG PR 169 [] [] [(5000,wR cS 1 r)] (wO cS 5000 r):=Z26.fn h
def ZbH{r:Bys}(h:yK=some r):Fn PR 169 [] (wL cS r):=FnG.frozen (C:=LT.RL cS r/\True) (ZbG h) ⟨rfl,ae⟩ bD
inductive Z7x where
 |L0 (v0:Bys) (v1:By) (v5:Int)
def pI(v0:Bys)(v1:By)(v5:Int):LT Z7x Int:=
.len cS v0<|.br (decide (v5<(v0.length:Int))) (.idx cS v0 v5 λx3=>.br (x3==v1) (.rt v5)<|.g0 (.L0 v0 v1 (IntKind.wrap .i64 (v5+1))))<|.rt (-1)
def FH(a0:Bys)(a1:By):LT Z7x Int:=
.g0 (.L0 a0 a1 0)
def Z7y:LF Z7x Int :=.m0 168 [.t 4] wI λ|.L0 v0 v1 v5=>([1,0,1,4],⟨19,[(0,wL cS v0),(1,wS v1),(5,wI v5)],[]⟩,pI v0 v1 v5)
def yL:=λa0 a1=>Z7y.run (FH a0 a1)
def Z27(a0)(a1){r}(h:yL a0 a1=some r):Fn PR 168 [wL cS a0,wS a1] (wI r):=Z7y.fn h
def Z5n:LT Empty (Bys):=
.lb 1001<|.ret [([99,114,101,97,116,117,114,101]:By),([105,110,115,116,97,110,116]:By),([114,105,116,117,97,108]:By),([114,101,108,105,99]:By),([99,104,97,114,109]:By),([108,97,110,100]:By)] [.relab 1001 5000]
def Z5o:LF Empty (Bys) :=.z 170 [.t 0] true (λr=>[(5000,wR cS 1 r)]) (λr=>(wO cS 5000 r))
def uC:=Z5o.run (Z5n)
def ZbI{r}(h:uC=some r):FnG PR 170 [] [] [(5000,wR cS 1 r)] (wO cS 5000 r):=Z5o.fn h
def Z28{r:Bys}(h:uC=some r):Fn PR 170 [] (wL cS r):=FnG.frozen (C:=LT.RL cS r/\True) (ZbI h) ⟨rfl,ae⟩ bD
def FI(a0:By):LT Empty Bool:=
.call (yI a0) λx1=>.cs x1 (.kg 0<|.call (ZbH) λx4=>.k2 0<|.call (Z27 x4 a0) λx6=>.k2 0<|.cs (decide (x6<0)) (.kg 1<|.call (Z28) λx9=>.k2 1<|.call (Z27 x9 a0) λx11=>.k2 1<|.rt (decide (x11<0)))<|.k5 1<|.rt false)<|.k5 0<|.b5 false<|.rt false
def FJ:LF Empty Bool :=.z0 121 [.t 2] wB
def Z5p:=λa0=>FJ.run (FI a0)
def uD(a0){r}(h:Z5p a0=some r):Fn PR 121 [wS a0] (wB r):=FJ.fn h
inductive pJ where
 |L0 (v0:Int) (v1:Int) (v5:Int)
def FK(v0:Int)(v1:Int)(v5:Int):LT pJ Bool:=
.br (decide (v5<v1)) (.dc ((2:Int)≠0) rfl<|.g0 (.L0 (eu .i64 v0 2) v1 (IntKind.wrap .i64 (v5+1))))<|.dc ((2:Int)≠0) rfl<|.rt ((Int.tmod v0 2)==1)
def FL(a0:Int)(a1:Int):LT pJ Bool:=
.g0 (.L0 a0 a1 0)
def yM:LF pJ Bool :=.m0 122 [.t 4] wB λ|.L0 v0 v1 v5=>([1,0,1,4],⟨16,[(0,wI v0),(1,wI v1),(5,wI v5)],[]⟩,FK v0 v1 v5)
def FM:=λa0 a1=>yM.run (FL a0 a1)
def yN(a0)(a1){r}(h:FM a0 a1=some r):Fn PR 122 [wI a0,wI a1] (wB r):=yM.fn h
inductive Z29 where
 |L0 (E0:aK) (v3:Int)
def FN(E0:aK)(v3:Int):LT Z29 Bool:=
.len cS E0.Subs<|.br (decide (v3<(E0.Subs.length:Int))) (.idx cS E0.Subs v3 λx3=>.call (uD x3) λx5=>.cs (!x5) (.k5 1<|.kn [0]<|.rt false)<|.k3 1<|.cs (decide (v3>0)) (.k5 2<|.idx cS E0.Subs (IntKind.wrap .i64 (v3-1)) λx11=>.k5 2<|.ag cS x3 0<|.k2 2<|.kg 1<|.kg 2<|.kg 1<|.br (!(Op.bytesLess x11 x3)) (.rt false)<|.g0 (.L0 E0 (IntKind.wrap .i64 (v3+1))))<|.k8 2<|.k4 2<|.kg 1<|.kg 2<|.kg 1<|.kn [0]<|.g0 (.L0 E0 (IntKind.wrap .i64 (v3+1))))<|.cs (E0.Types==2) (.k4 1<|.b5 true<|.b2 true<|.rt true)<|.k4 1<|.cs (E0.Types==4) (.k5 2<|.k2 2<|.rt true)<|.k3 2<|.call (yN E0.Types 1) λx20=>.k2 2<|.cs (!x20) (.k3 3<|.call (yN E0.Types 2) λx23=>.kg 3<|.kg 2<|.kg 3<|.kg 2<|.rt (!x23))<|.k4 3<|.kg 2<|.kg 3<|.kg 2<|.rt false
def FO(a0:aK):LT Z29 Bool:=
.lb 1001<|.cs (decide (a0.Super<0)) (.k4 0<|.b8 true<|.b5 true<|.kn [0]<|.rt false)<|.k4 0<|.cs (decide (a0.Super>3)) (.k4 1<|.b8 true<|.kb true<|.kn [0]<|.rt false)<|.k4 1<|.cs (decide (a0.Types<1)) (.k4 2<|.b5 true<|.kn [0]<|.rt false)<|.k4 2<|.cs (decide (a0.Types>63)) (.k5 3<|.kn [0]<|.rt false)<|.k3 3<|.len cS a0.Subs<|.k2 3<|.br (decide ((a0.Subs.length:Int)>4)) (.rt false)<|.go (.L0 a0 0) [.relab 1001 3000]
def yO:LF Z29 Bool :=.m0 75 [.t 2] wB λ|.L0 E0 v3=>([1,1,0,1,4],⟨80,[(1,.bptr 3000 0),(3,wI v3)],[(3000,.box (bx (hX E0)))]⟩,FN E0 v3)
def FP:=λa0=>yO.run (FO a0)
def ZbJ(a0){r}(h:FP a0=some r):Fn PR 75 [wA (hX a0)] (wB r):=yO.fn h
def FQ(a0:Int):LT Empty Bool:=
.cs (decide (a0>=0)) (.k3 0<|.rt (decide (a0<=131071)))<|.k3 0<|.rt false
def FR:LF Empty Bool :=.z0 76 [.t 2] wB
def FT:=λa0=>FR.run (FQ a0)
def FU(a0){r}(h:FT a0=some r):Fn PR 76 [wI a0] (wB r):=FR.fn h
def Z9m(a0:aq):LT Empty Bool:=
.lb 1001<|.rt ((aR .and .i64 a0.Line.Types 1) != 0)
def Z9n:LF Empty Bool :=.z0 77 [.t 2] wB
def FV:=λa0=>Z9n.run (Z9m a0)
def ZbK(a0){r}(h:FV a0=some r):Fn PR 77 [wA (Z0 a0)] (wB r):=Z9n.fn h
inductive pK where
 |L0 (v0:Int) (v1:Int) (v7:Int)
def nx(v0:Int)(v1:Int)(v7:Int):LT pK Bool:=
.br (decide (v7<6)) (.dc ((2:Int)≠0) rfl<|.cs ((Int.tmod v0 2)==1) (.k2 1<|.dc ((2:Int)≠0) rfl<|.k2 1<|.br ((Int.tmod v1 2)==1) (.rt false)<|.dc ((2:Int)≠0) rfl<|.dc ((2:Int)≠0) rfl<|.g0 (.L0 (eu .i64 v0 2) (eu .i64 v1 2) (IntKind.wrap .i64 (v7+1))))<|.k4 1<|.kn [0]<|.dc ((2:Int)≠0) rfl<|.dc ((2:Int)≠0) rfl<|.g0 (.L0 (eu .i64 v0 2) (eu .i64 v1 2) (IntKind.wrap .i64 (v7+1))))<|.rt true
def Z7z(a0:Int)(a1:Int)(a2:Int):LT pK Bool:=
.cs (decide (a0<0)) (.k4 0<|.b5 true<|.b2 true<|.kn [0]<|.rt false)<|.k4 0<|.cs (decide (a0>a2)) (.k3 1<|.b4 true<|.kn [0]<|.rt false)<|.k3 1<|.cs (decide (a1<0)) (.k4 2<|.kn [0]<|.rt false)<|.k4 2<|.br (decide (a1>a2)) (.rt false)<|.g0 (.L0 a0 a1 0)
def ny:LF pK Bool :=.m0 171 [.t 6] wB λ|.L0 v0 v1 v7=>([1,1,0,1,4],⟨40,[(0,wI v0),(1,wI v1),(7,wI v7)],[]⟩,nx v0 v1 v7)
def Z5q:=λa0 a1 a2=>ny.run (Z7z a0 a1 a2)
def FW(a0)(a1)(a2){r}(h:Z5q a0 a1 a2=some r):Fn PR 171 [wI a0,wI a1,wI a2] (wB r):=ny.fn h
def Z70(a0:ah):LT Empty Bool:=
.lb 1001<|.cs (decide (a0.Kind<0)) (.k4 0<|.b8 true<|.kn [0]<|.rt false)<|.k4 0<|.cs (decide (a0.Kind>3)) (.k4 1<|.b4 true<|.kn [0]<|.rt false)<|.k4 1<|.cs (decide (a0.N<0)) (.k4 2<|.kn [0]<|.rt false)<|.k4 2<|.br (decide (a0.N>1000000)) (.rt false)<|.cs (a0.Kind != 0) (.k4 4<|.rt true)<|.k4 4<|.rt (a0.N==0)
def FY:LF Empty Bool :=.z0 172 [.t 2] wB
def Z5r:=λa0=>FY.run (Z70 a0)
def Z3a(a0){r}(h:Z5r a0=some r):Fn PR 172 [wA (fm a0)] (wB r):=FY.fn h
inductive Z3b where
 |L0 (E0:al)
def lI(E0:al):LT Z3b Bool:=
.call (Z3a E0.Power) λx1=>.cs x1 (.k3 0<|.call (Z3a E0.Tough) λx4=>.kg 0<|.cs x4 (.k3 1<|.call (Z3a E0.Value) λx7=>.kg 1<|.rt x7)<|.k4 1<|.rt false)<|.k4 0<|.b4 false<|.rt false
def yP(a0:al):LT Z3b Bool:=
.lb 1001<|.cs (decide (a0.Zone<0)) (.k4 0<|.b16 true<|.b8 true<|.kn [0]<|.rt false)<|.k4 0<|.cs (decide (a0.Zone>5)) (.k4 1<|.b16 true<|.b4 true<|.kn [0]<|.rt false)<|.k4 1<|.cs (decide (a0.Who<0)) (.k4 2<|.b16 true<|.kn [0]<|.rt false)<|.k4 2<|.cs (decide (a0.Who>2)) (.k4 3<|.b8 true<|.b4 true<|.kn [0]<|.rt false)<|.k4 3<|.cs (decide (a0.Self<0)) (.k4 4<|.b8 true<|.kn [0]<|.rt false)<|.k4 4<|.cs (decide (a0.Self>2)) (.k4 5<|.b4 true<|.kn [0]<|.rt false)<|.k4 5<|.cs (decide (a0.Tap<0)) (.k4 6<|.kn [0]<|.rt false)<|.k4 6<|.br (decide (a0.Tap>2)) (.rt false)<|.call (FW a0.Types a0.NotTypes 63) λx9=>.cs (!x9) (.k5 8<|.k2 8<|.kn [0]<|.rt false)<|.k5 8<|.call (FW a0.Colors a0.NotColors 31) λx12=>.k2 8<|.br (!x12) (.rt false)<|.cs (!(a0.Sub==([]:By))) (.k3 10<|.call (uD a0.Sub) λx16=>.k2 10<|.cs (!x16) (.k4 11<|.b4 true<|.kn [0]<|.rt false)<|.k4 11<|.cs (decide (a0.Keys<0)) (.k4 12<|.kn [0]<|.rt false)<|.k4 12<|.br (decide (a0.Keys>131071)) (.rt false)<|.jn 0 (.L0 a0) [.relab 1001 3000] (lI a0))<|.k5 10<|.b4 false<|.cs (decide (a0.Keys<0)) (.k4 11<|.kn [0]<|.rt false)<|.k4 11<|.br (decide (a0.Keys>131071)) (.rt false)<|.jn 0 (.L0 a0) [.relab 1001 3000] (lI a0)
def yQ:LF Z3b Bool :=.m0 123 [.t 2] wB λ|.L0 E0=>([1,1,1,1],⟨87,[(1,.bptr 3000 0)],[(3000,.box (bx (aU E0)))]⟩,lI E0)
def pL:=λa0=>yQ.run (yP a0)
def iD(a0){r}(h:pL a0=some r):Fn PR 123 [wA (aU a0)] (wB r):=yQ.fn h
inductive nz where
 |L0 (E0:af) (E1:af) (v7:Int) (v8:Bool)
 |L1 (E0:af) (E1:af) (v7:Int) (v16:Bool)
def pM(E0:af)(E1:af)(v7:Int)(v16:Bool):LT nz af:=
.br v16 (.rt (⟨E0.Kind,E0.N,E0.M,([]:By),E0.Filter⟩:af))<|.br (v7==11) (.rt (⟨E0.Kind,E0.N,E0.M,E0.Sub,(⟨0,0,0,0,0,0,0,([]:By),0,0,(⟨0,0⟩:ah),(⟨0,0⟩:ah),(⟨0,0⟩:ah)⟩:al)⟩:af))<|.br (v7==12) (.kn [3]<|.rt (⟨E0.Kind,0,0,E0.Sub,E0.Filter⟩:af))<|.br (v7==13) (.rt (⟨E0.Kind,0,0,E0.Sub,E0.Filter⟩:af))<|.rt E0
def jY(E0:af)(E1:af)(v7:Int)(v8:Bool):LT nz af:=
.br v8 (.rt (⟨E0.Kind,0,E0.M,E0.Sub,E0.Filter⟩:af))<|.br (v7==4) (.j0 (.L1 E0 E1 v7 (v7==4)) (pM E0 E1 v7 (v7==4)))<|.j0 (.L1 E0 E1 v7 (v7==5)) (pM E0 E1 v7 (v7==5))
def FZ(a0:af):LT nz af:=
.lb 1001<|.lb 1002<|.br (a0.Kind==2) (.jn 0 (.L0 (⟨0,a0.N,a0.M,a0.Sub,a0.Filter⟩:af) (⟨0,0,0,([]:By),(⟨0,0,0,0,0,0,0,([]:By),0,0,(⟨0,0⟩:ah),(⟨0,0⟩:ah),(⟨0,0⟩:ah)⟩:al)⟩:af) a0.Kind (a0.Kind==2)) [.relab 1001 3000,.relab 1002 3001] (jY (⟨0,a0.N,a0.M,a0.Sub,a0.Filter⟩:af) (⟨0,0,0,([]:By),(⟨0,0,0,0,0,0,0,([]:By),0,0,(⟨0,0⟩:ah),(⟨0,0⟩:ah),(⟨0,0⟩:ah)⟩:al)⟩:af) a0.Kind (a0.Kind==2)))<|.br (a0.Kind==3) (.jn 0 (.L0 (⟨0,a0.N,a0.M,a0.Sub,a0.Filter⟩:af) (⟨0,0,0,([]:By),(⟨0,0,0,0,0,0,0,([]:By),0,0,(⟨0,0⟩:ah),(⟨0,0⟩:ah),(⟨0,0⟩:ah)⟩:al)⟩:af) a0.Kind (a0.Kind==3)) [.relab 1001 3000,.relab 1002 3001] (jY (⟨0,a0.N,a0.M,a0.Sub,a0.Filter⟩:af) (⟨0,0,0,([]:By),(⟨0,0,0,0,0,0,0,([]:By),0,0,(⟨0,0⟩:ah),(⟨0,0⟩:ah),(⟨0,0⟩:ah)⟩:al)⟩:af) a0.Kind (a0.Kind==3)))<|.br (a0.Kind==6) (.jn 0 (.L0 (⟨0,a0.N,a0.M,a0.Sub,a0.Filter⟩:af) (⟨0,0,0,([]:By),(⟨0,0,0,0,0,0,0,([]:By),0,0,(⟨0,0⟩:ah),(⟨0,0⟩:ah),(⟨0,0⟩:ah)⟩:al)⟩:af) a0.Kind (a0.Kind==6)) [.relab 1001 3000,.relab 1002 3001] (jY (⟨0,a0.N,a0.M,a0.Sub,a0.Filter⟩:af) (⟨0,0,0,([]:By),(⟨0,0,0,0,0,0,0,([]:By),0,0,(⟨0,0⟩:ah),(⟨0,0⟩:ah),(⟨0,0⟩:ah)⟩:al)⟩:af) a0.Kind (a0.Kind==6)))<|.br (a0.Kind==7) (.jn 0 (.L0 (⟨0,a0.N,a0.M,a0.Sub,a0.Filter⟩:af) (⟨0,0,0,([]:By),(⟨0,0,0,0,0,0,0,([]:By),0,0,(⟨0,0⟩:ah),(⟨0,0⟩:ah),(⟨0,0⟩:ah)⟩:al)⟩:af) a0.Kind (a0.Kind==7)) [.relab 1001 3000,.relab 1002 3001] (jY (⟨0,a0.N,a0.M,a0.Sub,a0.Filter⟩:af) (⟨0,0,0,([]:By),(⟨0,0,0,0,0,0,0,([]:By),0,0,(⟨0,0⟩:ah),(⟨0,0⟩:ah),(⟨0,0⟩:ah)⟩:al)⟩:af) a0.Kind (a0.Kind==7)))<|.br (a0.Kind==8) (.jn 0 (.L0 (⟨0,a0.N,a0.M,a0.Sub,a0.Filter⟩:af) (⟨0,0,0,([]:By),(⟨0,0,0,0,0,0,0,([]:By),0,0,(⟨0,0⟩:ah),(⟨0,0⟩:ah),(⟨0,0⟩:ah)⟩:al)⟩:af) a0.Kind (a0.Kind==8)) [.relab 1001 3000,.relab 1002 3001] (jY (⟨0,a0.N,a0.M,a0.Sub,a0.Filter⟩:af) (⟨0,0,0,([]:By),(⟨0,0,0,0,0,0,0,([]:By),0,0,(⟨0,0⟩:ah),(⟨0,0⟩:ah),(⟨0,0⟩:ah)⟩:al)⟩:af) a0.Kind (a0.Kind==8)))<|.jn 0 (.L0 (⟨0,a0.N,a0.M,a0.Sub,a0.Filter⟩:af) (⟨0,0,0,([]:By),(⟨0,0,0,0,0,0,0,([]:By),0,0,(⟨0,0⟩:ah),(⟨0,0⟩:ah),(⟨0,0⟩:ah)⟩:al)⟩:af) a0.Kind (a0.Kind==9)) [.relab 1001 3000,.relab 1002 3001] (jY (⟨0,a0.N,a0.M,a0.Sub,a0.Filter⟩:af) (⟨0,0,0,([]:By),(⟨0,0,0,0,0,0,0,([]:By),0,0,(⟨0,0⟩:ah),(⟨0,0⟩:ah),(⟨0,0⟩:ah)⟩:al)⟩:af) a0.Kind (a0.Kind==9))
def F0:LF nz af :=.m0 185 [.c 2 79 true 20] (λr=>(wA (ax r))) λ|.L0 E0 E1 v7 v8=>([1,1,1,0,1,4,1],⟨30,[(1,.bptr 3000 0),(2,.bptr 3001 0),(7,wI v7),(8,wB v8)],[(3000,.box (bx (ax E0))),(3001,.box (bx (ax E1)))]⟩,jY E0 E1 v7 v8)|.L1 E0 E1 v7 v16=>([1,1,1,0,1,4,1,3,1],⟨30,[(1,.bptr 3000 0),(2,.bptr 3001 0),(7,wI v7),(16,wB v16)],[(3000,.box (bx (ax E0))),(3001,.box (bx (ax E1)))]⟩,pM E0 E1 v7 v16)
def F1:=λa0=>F0.run (FZ a0)
def ZbL(a0){r}(h:F1 a0=some r):Fn PR 185 [wA (ax a0)] (wA (ax r)):=F0.fn h
def F2(a0:Int):LT Empty Bool:=
.cs (decide (a0>=1)) (.k3 0<|.cs (decide (a0<=63)) (.k4 1<|.rt ((aR .and .i64 a0 6)==0))<|.k4 1<|.rt false)<|.k3 0<|.b4 false<|.rt false
def F3:LF Empty Bool :=.z0 186 [.t 2] wB
def F4:=λa0=>F3.run (F2 a0)
def ZbM(a0){r}(h:F4 a0=some r):Fn PR 186 [wI a0] (wB r):=F3.fn h
inductive lJ where
 |L0 (E0:af) (v18:Int) (v19:Bool)
 |L1 (E0:af) (v18:Int) (v25:Bool)
 |L2 (E0:af) (v18:Int) (v51:Bool)
def pN(E0:af)(v18:Int)(v51:Bool):LT lJ Bool:=
.br v51 (.cs (decide (E0.N>=1)) (.k4 1<|.rt (decide (E0.N<=131071)))<|.k4 1<|.rt false)<|.br (v18==11) (.call (iD E0.Filter) λx4=>.rt x4)<|.br (v18==12) (.cs (decide (E0.N>=0)) (.k4 3<|.cs (decide (E0.N<=99)) (.k4 4<|.cs (decide (E0.M>=0)) (.k4 5<|.rt (decide (E0.M<=99)))<|.k4 5<|.rt false)<|.k4 4<|.b4 false<|.rt false)<|.k4 3<|.b8 false<|.rt false)<|.br (v18==13) (.cs (decide (E0.N>=(-99))) (.k4 4<|.cs (decide (E0.N<=99)) (.k4 5<|.cs (decide (E0.M>=(-99))) (.k4 6<|.rt (decide (E0.M<=99)))<|.k4 6<|.rt false)<|.k4 5<|.b4 false<|.rt false)<|.k4 4<|.b8 false<|.rt false)<|.rt true
def pO(E0:af)(v18:Int)(v25:Bool):LT lJ Bool:=
.br v25 (.call (uD E0.Sub) λx2=>.rt x2)<|.br (v18==6) (.cs (decide (E0.N>=0)) (.k4 2<|.rt (decide (E0.N<=31)))<|.k4 2<|.rt false)<|.br (v18==7) (.cs (decide (E0.N>=1)) (.k4 3<|.rt (decide (E0.N<=31)))<|.k4 3<|.rt false)<|.br (v18==8) (.j0 (.L2 E0 v18 (v18==8)) (pN E0 v18 (v18==8)))<|.j0 (.L2 E0 v18 (v18==9)) (pN E0 v18 (v18==9))
def pP(E0:af)(v18:Int)(v19:Bool):LT lJ Bool:=
.br v19 (.call (ZbM E0.N) λx2=>.rt x2)<|.br (v18==4) (.j0 (.L1 E0 v18 (v18==4)) (pO E0 v18 (v18==4)))<|.j0 (.L1 E0 v18 (v18==5)) (pO E0 v18 (v18==5))
def F5(a0:af):LT lJ Bool:=
.lb 1001<|.cs (decide (a0.Kind<1)) (.k4 0<|.b5 true<|.kn [0]<|.rt false)<|.k4 0<|.cs (decide (a0.Kind>14)) (.k5 1<|.kn [0]<|.rt false)<|.k2 1<|.call (ZbL a0) λx3=>.k3 1<|.br (!(Z9 (ax x3) (ax (⟨0,0,0,([]:By),(⟨0,0,0,0,0,0,0,([]:By),0,0,(⟨0,0⟩:ah),(⟨0,0⟩:ah),(⟨0,0⟩:ah)⟩:al)⟩:af)))) (.rt false)<|.br (a0.Kind==2) (.jn 0 (.L0 a0 a0.Kind (a0.Kind==2)) [.relab 1001 3000] (pP a0 a0.Kind (a0.Kind==2)))<|.jn 0 (.L0 a0 a0.Kind (a0.Kind==3)) [.relab 1001 3000] (pP a0 a0.Kind (a0.Kind==3))
def F6:LF lJ Bool :=.m0 137 [.t 2] wB λ|.L0 E0 v18 v19=>([1,1,0,1,4,1],⟨107,[(1,.bptr 3000 0),(18,wI v18),(19,wB v19)],[(3000,.box (bx (ax E0)))]⟩,pP E0 v18 v19)|.L1 E0 v18 v25=>([1,1,0,1,4,1,3,1],⟨107,[(1,.bptr 3000 0),(18,wI v18),(25,wB v25)],[(3000,.box (bx (ax E0)))]⟩,pO E0 v18 v25)|.L2 E0 v18 v51=>([1,1,0,1,4,1,3,1,3,1,3,1,3,1],⟨107,[(1,.bptr 3000 0),(18,wI v18),(51,wB v51)],[(3000,.box (bx (ax E0)))]⟩,pN E0 v18 v51)
def F7:=λa0=>F6.run (F5 a0)
def yR(a0){r}(h:F7 a0=some r):Fn PR 137 [wA (ax a0)] (wB r):=F6.fn h
inductive pQ where
 |L0 (v0:Bys) (v1:Int) (v2:By) (v7:By) (v8:Int)
def F8(v0:Bys)(v1:Int)(v2:By)(v7:By)(v8:Int):LT pQ (By):=
.len cS v0<|.br (decide (v8<(v0.length:Int))) (.call (yN v1 v8) λx3=>.br x3 (.br (!(v7==([]:By))) (.ok (v7.length+v2.length<=9223372036854775807)<|.idx cS v0 v8 λx10=>.ok ((v7++v2).length+x10.length<=9223372036854775807)<|.g0 (.L0 v0 v1 v2 ((v7++v2)++x10) (IntKind.wrap .i64 (v8+1))))<|.idx cS v0 v8 λx17=>.ok (v7.length+x17.length<=9223372036854775807)<|.g0 (.L0 v0 v1 v2 (v7++x17) (IntKind.wrap .i64 (v8+1))))<|.g0 (.L0 v0 v1 v2 v7 (IntKind.wrap .i64 (v8+1))))<|.rt v7
def F9(a0:Bys)(a1:Int)(a2:By):LT pQ (By):=
.g0 (.L0 a0 a1 a2 ([]:By) 0)
def Z3c:LF pQ (By) :=.m0 231 [.t 6] wS λ|.L0 v0 v1 v2 v7 v8=>([1,1,0,1,4],⟨30,[(0,wL cS v0),(1,wI v1),(2,wS v2),(7,wS v7),(8,wI v8)],[]⟩,F8 v0 v1 v2 v7 v8)
def Ga:=λa0 a1 a2=>Z3c.run (F9 a0 a1 a2)
def ZbN(a0)(a1)(a2){r}(h:Ga a0 a1 a2=some r):Fn PR 231 [wL cS a0,wI a1,wS a2] (wS r):=Z3c.fn h
def Z5s(a0:Int):LT Empty (By):=
.cs (decide (a0<1)) (.k3 0<|.kn [0]<|.rt ([]:By))<|.k3 0<|.br (decide (a0>63)) (.rt ([]:By))<|.call (Z28) λx3=>.call (ZbN x3 a0 ([43]:By)) λx5=>.rt x5
def Z5t:LF Empty (By) :=.z0 187 [.t 2] wS
def Gb:=λa0=>Z5t.run (Z5s a0)
def yS(a0){r}(h:Gb a0=some r):Fn PR 187 [wI a0] (wS r):=Z5t.fn h
def Gc(a0:Int):LT Empty Bool:=
.cs (decide (a0>=0)) (.k3 0<|.rt (decide (a0<=31)))<|.k3 0<|.rt false
def Gd:LF Empty Bool :=.z0 232 [.t 2] wB
def Ge:=λa0=>Gd.run (Gc a0)
def ZbO(a0){r}(h:Ge a0=some r):Fn PR 232 [wI a0] (wB r):=Gd.fn h
def Gf(a0:Int):LT Empty (By):=
.br (a0==0) (.rt ([97,109,98,101,114]:By))<|.br (a0==1) (.rt ([99,111,98,97,108,116]:By))<|.br (a0==2) (.rt ([106,101,116]:By))<|.br (a0==3) (.rt ([114,117,98,121]:By))<|.br (a0==4) (.rt ([101,109,101,114,97,108,100]:By))<|.rt ([]:By)
def Gg:LF Empty (By) :=.z0 233 [.t 2] wS
def Gh:=λa0=>Gg.run (Gf a0)
def uE(a0){r}(h:Gh a0=some r):Fn PR 233 [wI a0] (wS r):=Gg.fn h
inductive pR where
 |L0 (v0:Int) (v3:By) (v4:Int)
def Gi(v0:Int)(v3:By)(v4:Int):LT pR (By):=
.br (decide (v4<5)) (.ok (¬v4<0)<|.ok ((Z23 .i64 1 v4)≠0)<|.dc ((2:Int)≠0) rfl<|.br ((Int.tmod (eu .i64 v0 (Z23 .i64 1 v4)) 2)==1) (.br (!(v3==([]:By))) (.ok (v3.length+([43]:By).length<=9223372036854775807)<|.call (uE v4) λx10=>.ok ((v3++([43]:By)).length+x10.length<=9223372036854775807)<|.g0 (.L0 v0 ((v3++([43]:By))++x10) (IntKind.wrap .i64 (v4+1))))<|.call (uE v4) λx17=>.ok (v3.length+x17.length<=9223372036854775807)<|.g0 (.L0 v0 (v3++x17) (IntKind.wrap .i64 (v4+1))))<|.g0 (.L0 v0 v3 (IntKind.wrap .i64 (v4+1))))<|.rt v3
def Gj(a0:Int):LT pR (By):=
.call (ZbO a0) λx1=>.br (!x1) (.rt ([]:By))<|.br (a0==0) (.rt ([110,111,110,101]:By))<|.g0 (.L0 a0 ([]:By) 0)
def yU:LF pR (By) :=.m0 188 [.t 2] wS λ|.L0 v0 v3 v4=>([1,1,1,1,0,1,4],⟨29,[(0,wI v0),(3,wS v3),(4,wI v4)],[]⟩,Gi v0 v3 v4)
def Gk:=λa0=>yU.run (Gj a0)
def Gl(a0){r}(h:Gk a0=some r):Fn PR 188 [wI a0] (wS r):=yU.fn h
def Gm:LT Empty (Bys):=
.lb 1001<|.ret [([102,108,121,105,110,103]:By),([114,101,97,99,104]:By),([104,97,115,116,101]:By),([118,105,103,105,108,97,110,116]:By),([116,114,97,109,112,108,101]:By),([102,105,114,115,116,45,115,116,114,105,107,101]:By),([100,111,117,98,108,101,45,115,116,114,105,107,101]:By),([100,101,97,100,108,121]:By),([108,105,102,101,108,105,110,107]:By),([109,101,110,97,99,101]:By),([100,101,102,101,110,100,101,114]:By),([119,97,114,100,101,100]:By),([115,116,117,114,100,121]:By),([101,108,117,115,105,118,101]:By),([110,111,45,97,116,116,97,99,107]:By),([110,111,45,98,108,111,99,107]:By),([109,117,115,116,45,97,116,116,97,99,107]:By)] [.relab 1001 5000]
def Gn:LF Empty (Bys) :=.z 261 [.t 0] true (λr=>[(5000,wR cS 1 r)]) (λr=>(wO cS 5000 r))
def yV:=Gn.run (Gm)
def ZbP{r}(h:yV=some r):FnG PR 261 [] [] [(5000,wR cS 1 r)] (wO cS 5000 r):=Gn.fn h
def ZbQ{r:Bys}(h:yV=some r):Fn PR 261 [] (wL cS r):=FnG.frozen (C:=LT.RL cS r/\True) (ZbP h) ⟨rfl,ae⟩ bD
def Gp(a0:Int):LT Empty (By):=
.cs (decide (a0<0)) (.k3 0<|.kn [0]<|.rt ([]:By))<|.k3 0<|.br (decide (a0>16)) (.rt ([]:By))<|.call (ZbQ) λx3=>.idx cS x3 a0 λx5=>.rt x5
def Gq:LF Empty (By) :=.z0 234 [.t 2] wS
def Gr:=λa0=>Gq.run (Gp a0)
def Z71(a0){r}(h:Gr a0=some r):Fn PR 234 [wI a0] (wS r):=Gq.fn h
inductive pS where
 |L0 (v0:Int) (v3:By) (v4:Int)
def Gt(v0:Int)(v3:By)(v4:Int):LT pS (By):=
.br (decide (v4<17)) (.dc ((2:Int)≠0) rfl<|.br ((Int.tmod v0 2)==1) (.br (!(v3==([]:By))) (.ok (v3.length+([43]:By).length<=9223372036854775807)<|.call (Z71 v4) λx6=>.ok ((v3++([43]:By)).length+x6.length<=9223372036854775807)<|.dc ((2:Int)≠0) rfl<|.g0 (.L0 (eu .i64 v0 2) ((v3++([43]:By))++x6) (IntKind.wrap .i64 (v4+1))))<|.call (Z71 v4) λx13=>.ok (v3.length+x13.length<=9223372036854775807)<|.dc ((2:Int)≠0) rfl<|.g0 (.L0 (eu .i64 v0 2) (v3++x13) (IntKind.wrap .i64 (v4+1))))<|.dc ((2:Int)≠0) rfl<|.g0 (.L0 (eu .i64 v0 2) v3 (IntKind.wrap .i64 (v4+1))))<|.br (v3==([]:By)) (.rt ([110,111,110,101]:By))<|.rt v3
def Gu(a0:Int):LT pS (By):=
.call (FU a0) λx1=>.br (!x1) (.rt ([]:By))<|.g0 (.L0 a0 ([]:By) 0)
def yW:LF pS (By) :=.m0 189 [.t 2] wS λ|.L0 v0 v3 v4=>([1,1,1,0,1,4],⟨28,[(0,wI v0),(3,wS v3),(4,wI v4)],[]⟩,Gt v0 v3 v4)
def Gv:=λa0=>yW.run (Gu a0)
def Gw(a0){r}(h:Gv a0=some r):Fn PR 189 [wI a0] (wS r):=yW.fn h
def Z5u:LT Empty (Bys):=
.lb 1001<|.ret [([]:By),([105,110,45,104,97,110,100]:By),([105,110,45,108,105,98,114,97,114,121]:By),([105,110,45,103,114,97,118,101,121,97,114,100]:By),([105,110,45,101,120,105,108,101]:By),([111,110,45,115,116,97,99,107]:By)] [.relab 1001 5000]
def Z5v:LF Empty (Bys) :=.z 235 [.t 0] true (λr=>[(5000,wR cS 1 r)]) (λr=>(wO cS 5000 r))
def Z0b:=Z5v.run (Z5u)
def ZbR{r}(h:Z0b=some r):FnG PR 235 [] [] [(5000,wR cS 1 r)] (wO cS 5000 r):=Z5v.fn h
def ZbS{r:Bys}(h:Z0b=some r):Fn PR 235 [] (wL cS r):=FnG.frozen (C:=LT.RL cS r/\True) (ZbR h) ⟨rfl,ae⟩ bD
def Z9o:LT Empty (Bys):=
.lb 1001<|.ret [([]:By),([121,111,117,114,115]:By),([116,104,101,105,114,115]:By)] [.relab 1001 5000]
def Z9p:LF Empty (Bys) :=.z 236 [.t 0] true (λr=>[(5000,wR cS 1 r)]) (λr=>(wO cS 5000 r))
def Z3d:=Z9p.run (Z9o)
def ZbT{r}(h:Z3d=some r):FnG PR 236 [] [] [(5000,wR cS 1 r)] (wO cS 5000 r):=Z9p.fn h
def ZbU{r:Bys}(h:Z3d=some r):Fn PR 236 [] (wL cS r):=FnG.frozen (C:=LT.RL cS r/\True) (ZbT h) ⟨rfl,ae⟩ bD
def Z5w:LT Empty (Bys):=
.lb 1001<|.ret [([]:By),([115,101,108,102]:By),([111,116,104,101,114]:By)] [.relab 1001 5000]
def Z5x:LF Empty (Bys) :=.z 237 [.t 0] true (λr=>[(5000,wR cS 1 r)]) (λr=>(wO cS 5000 r))
def Z0c:=Z5x.run (Z5w)
def ZbV{r}(h:Z0c=some r):FnG PR 237 [] [] [(5000,wR cS 1 r)] (wO cS 5000 r):=Z5x.fn h
def ZbW{r:Bys}(h:Z0c=some r):Fn PR 237 [] (wL cS r):=FnG.frozen (C:=LT.RL cS r/\True) (ZbV h) ⟨rfl,ae⟩ bD
def Z9q:LT Empty (Bys):=
.lb 1001<|.ret [([]:By),([116,97,112,112,101,100]:By),([117,110,116,97,112,112,101,100]:By)] [.relab 1001 5000]
def Z9r:LF Empty (Bys) :=.z 238 [.t 0] true (λr=>[(5000,wR cS 1 r)]) (λr=>(wO cS 5000 r))
def Z3e:=Z9r.run (Z9q)
def ZbX{r}(h:Z3e=some r):FnG PR 238 [] [] [(5000,wR cS 1 r)] (wO cS 5000 r):=Z9r.fn h
def ZbY{r:Bys}(h:Z3e=some r):Fn PR 238 [] (wL cS r):=FnG.frozen (C:=LT.RL cS r/\True) (ZbX h) ⟨rfl,ae⟩ bD
inductive pT where
 |L0 (v0:Int) (v1:Int) (v5:Int)
def Gx(v0:Int)(v1:Int)(v5:Int):LT pT Bool:=
.br (decide (v5<v1)) (.dc ((2:Int)≠0) rfl<|.g0 (.L0 (eu .i64 v0 2) v1 (IntKind.wrap .i64 (v5+1))))<|.dc ((2:Int)≠0) rfl<|.rt ((Int.tmod v0 2)==1)
def Gy(a0:Int)(a1:Int):LT pT Bool:=
.g0 (.L0 a0 a1 0)
def yX:LF pT Bool :=.m0 240 [.t 4] wB λ|.L0 v0 v1 v5=>([1,0,1,4],⟨16,[(0,wI v0),(1,wI v1),(5,wI v5)],[]⟩,Gx v0 v1 v5)
def Gz:=λa0 a1=>yX.run (Gy a0 a1)
def pU(a0)(a1){r}(h:Gz a0 a1=some r):Fn PR 240 [wI a0,wI a1] (wB r):=yX.fn h
inductive pV where
 |L0 (v0:Int) (v3:Int) (v4:Int)
def Z5y(v0:Int)(v3:Int)(v4:Int):LT pV (By):=
.br (decide (v4<v0)) (.g0 (.L0 v0 (IntKind.wrap .i64 (v3*2)) (IntKind.wrap .i64 (v4+1))))<|.call (yS v3) λx6=>.rt x6
def Z9s(a0:Int):LT pV (By):=
.g0 (.L0 a0 1 0)
def yY:LF pV (By) :=.m0 241 [.t 2] wS λ|.L0 v0 v3 v4=>([1,1,0,1,4],⟨14,[(0,wI v0),(3,wI v3),(4,wI v4)],[]⟩,Z5y v0 v3 v4)
def GA:=λa0=>yY.run (Z9s a0)
def Z5z(a0){r}(h:GA a0=some r):Fn PR 241 [wI a0] (wS r):=yY.fn h
def GB:LT Empty (Bys):=
.lb 1001<|.ret [([]:By),([62,61]:By),([60,61]:By),([61]:By)] [.relab 1001 5000]
def GC:LF Empty (Bys) :=.z 262 [.t 0] true (λr=>[(5000,wR cS 1 r)]) (λr=>(wO cS 5000 r))
def yZ:=GC.run (GB)
def ZbZ{r}(h:yZ=some r):FnG PR 262 [] [] [(5000,wR cS 1 r)] (wO cS 5000 r):=GC.fn h
def ZcA{r:Bys}(h:yZ=some r):Fn PR 262 [] (wL cS r):=FnG.frozen (C:=LT.RL cS r/\True) (ZbZ h) ⟨rfl,ae⟩ bD
inductive Z3f where
 |L0 (v0:Int) (v3:By)
def lK(v0:Int)(v3:By):LT Z3f (By):=
.br (decide (v0>0)) (.dc ((10:Int)≠0) rfl<|.dr [.lit]<|.str [IntKind.wrap .u8 (IntKind.wrap .u64 (48+(Int.tmod v0 10)))] λx4=>.ok (x4.length+v3.length<=9223372036854775807)<|.dc ((10:Int)≠0) rfl<|.g0 (.L0 (eu .u64 v0 10) (x4++v3)))<|.rt v3
def GD(a0:Int):LT Z3f (By):=
.dc ((10:Int)≠0) rfl<|.dr [.lit]<|.str [IntKind.wrap .u8 (IntKind.wrap .u64 (48+(Int.tmod a0 10)))] λx3=>.dc ((10:Int)≠0) rfl<|.g0 (.L0 (eu .u64 a0 10) x3)
def uF:LF Z3f (By) :=.m0 244 [.t 2] wS λ|.L0 v0 v3=>([1,1,0,1,4],⟨25,[(0,.t (.int .u64 v0)),(3,wS v3)],[]⟩,lK v0 v3)
def za:=λa0=>uF.run (GD a0)
def GE(a0){r}(h:za a0=some r):Fn PR 244 [.t (.int .u64 a0)] (wS r):=uF.fn h
def GF(a0:Int):LT Empty (By):=
.br (decide (a0<0)) (.call (GE (IntKind.wrap .u64 (0-(IntKind.wrap .u64 a0)))) λx4=>.ok (([45]:By).length+x4.length<=9223372036854775807)<|.rt (([45]:By)++x4))<|.call (GE (IntKind.wrap .u64 a0)) λx10=>.rt x10
def GG:LF Empty (By) :=.z0 191 [.t 2] wS
def GH:=λa0=>GG.run (GF a0)
def nA(a0){r}(h:GH a0=some r):Fn PR 191 [wI a0] (wS r):=GG.fn h
def Z50(a0:By)(a1:ah):LT Empty (By):=
.lb 1003<|.br (a1.Kind==0) (.rt ([]:By))<|.call (ZcA) λx2=>.idx cS x2 a1.Kind λx4=>.ok (a0.length+x4.length<=9223372036854775807)<|.call (nA a1.N) λx10=>.ok ((a0++x4).length+x10.length<=9223372036854775807)<|.rt ((a0++x4)++x10)
def Z51:LF Empty (By) :=.z0 242 [.t 4] wS
def GI:=λa0 a1=>Z51.run (Z50 a0 a1)
def zd(a0)(a1){r}(h:GI a0 a1=some r):Fn PR 242 [wS a0,wA (fm a1)] (wS r):=Z51.fn h
inductive pW where
 |L0 (v0:Bys) (v1:By) (v5:By) (v6:Int)
def GJ(v0:Bys)(v1:By)(v5:By)(v6:Int):LT pW (By):=
.len cS v0<|.br (decide (v6<(v0.length:Int))) (.br (decide (v6>0)) (.ok (v5.length+v1.length<=9223372036854775807)<|.idx cS v0 v6 λx7=>.ok ((v5++v1).length+x7.length<=9223372036854775807)<|.g0 (.L0 v0 v1 ((v5++v1)++x7) (IntKind.wrap .i64 (v6+1))))<|.idx cS v0 v6 λx14=>.ok (v5.length+x14.length<=9223372036854775807)<|.g0 (.L0 v0 v1 (v5++x14) (IntKind.wrap .i64 (v6+1))))<|.rt v5
def GL(a0:Bys)(a1:By):LT pW (By):=
.g0 (.L0 a0 a1 ([]:By) 0)
def ze:LF pW (By) :=.m0 243 [.t 4] wS λ|.L0 v0 v1 v5 v6=>([1,1,0,1,4],⟨25,[(0,wL cS v0),(1,wS v1),(5,wS v5),(6,wI v6)],[]⟩,GJ v0 v1 v5 v6)
def GM:=λa0 a1=>ze.run (GL a0 a1)
def ZcB(a0)(a1){r}(h:GM a0 a1=some r):Fn PR 243 [wL cS a0,wS a1] (wS r):=ze.fn h
def Z9t(b0:Bys)(a1:By):LT Empty (Bys):=
.br (a1==([]:By)) (.ret b0 [.relab 0 5000])<|.dr [.lit]<|.apR cS 16 b0 [a1] λx2=>.ret x2 [.relab 0 5000]
def Z9u:LF Empty (Bys) :=.z 239 [.t 4] true (λr=>[(5000,wR cS 1 r)]) (λr=>(wO cS 5000 r))
def GN:=λb0 a1=>Z9u.run (Z9t b0 a1)
def lL(b0)(a1){r}(h:GN b0 a1=some r):FnG PR 239 [(0,wR cS 1 b0)] [wO cS 0 b0,wS a1] [(5000,wR cS 1 r)] (wO cS 5000 r):=Z9u.fn h
inductive jB where
 |L0 (E0:al) (v6:Bys) (v7:Bys) (v8:Int)
 |L1 (E0:al) (v6:Bys) (v7:Bys) (v9:Int)
 |L2 (E0:al) (v6:Bys) (v7:Bys) (v10:Int)
 |L3 (E0:al) (v6:Bys) (v7:Bys) (v11:Int)
 |L4 (E0:al) (v6:Bys) (v7:Bys)
 |L5 (E0:al) (v6:Bys) (v7:Bys) (v12:Int)
def pX(E0:al)(v6:Bys)(v7:Bys):LT jB (By):=
.g0 (.L5 E0 v6 v7 0)
def GO(E0:al)(v6:Bys)(v7:Bys)(v8:Int):LT jB (By):=
.br (decide (v8<6)) (.call (pU E0.Types v8) λx2=>.br x2 (.call (Z5z v8) λx5=>.dr [.lit]<|.apR cS 16 v7 [x5] λx7=>.g0 (.L0 E0 v6 x7 (IntKind.wrap .i64 (v8+1))))<|.g0 (.L0 E0 v6 v7 (IntKind.wrap .i64 (v8+1))))<|.g0 (.L1 E0 v6 v7 0)
def GP(E0:al)(v6:Bys)(v7:Bys)(v9:Int):LT jB (By):=
.br (decide (v9<6)) (.call (pU E0.NotTypes v9) λx2=>.br x2 (.call (Z5z v9) λx5=>.ok (([110,111,110,45]:By).length+x5.length<=9223372036854775807)<|.dr [.lit]<|.apR cS 16 v7 [([110,111,110,45]:By)++x5] λx10=>.g0 (.L1 E0 v6 x10 (IntKind.wrap .i64 (v9+1))))<|.g0 (.L1 E0 v6 v7 (IntKind.wrap .i64 (v9+1))))<|.g0 (.L2 E0 v6 v7 0)
def GQ(E0:al)(v6:Bys)(v7:Bys)(v10:Int):LT jB (By):=
.br (decide (v10<5)) (.call (pU E0.Colors v10) λx2=>.br x2 (.call (uE v10) λx5=>.dr [.lit]<|.apR cS 16 v7 [x5] λx7=>.g0 (.L2 E0 v6 x7 (IntKind.wrap .i64 (v10+1))))<|.g0 (.L2 E0 v6 v7 (IntKind.wrap .i64 (v10+1))))<|.g0 (.L3 E0 v6 v7 0)
def GR(E0:al)(v6:Bys)(v7:Bys)(v11:Int):LT jB (By):=
.br (decide (v11<5)) (.call (pU E0.NotColors v11) λx2=>.br x2 (.call (uE v11) λx5=>.ok (([110,111,110,45]:By).length+x5.length<=9223372036854775807)<|.dr [.lit]<|.apR cS 16 v7 [([110,111,110,45]:By)++x5] λx10=>.g0 (.L3 E0 v6 x10 (IntKind.wrap .i64 (v11+1))))<|.g0 (.L3 E0 v6 v7 (IntKind.wrap .i64 (v11+1))))<|.br (!(E0.Sub==([]:By))) (.ok (([115,117,98,58]:By).length+E0.Sub.length<=9223372036854775807)<|.dr [.lit]<|.apR cS 16 v7 [([115,117,98,58]:By)++E0.Sub] λx21=>.j0 (.L4 E0 v6 x21) (pX E0 v6 x21))<|.j0 (.L4 E0 v6 v7) (pX E0 v6 v7)
def GS(E0:al)(v6:Bys)(v7:Bys)(v12:Int):LT jB (By):=
.br (decide (v12<17)) (.call (pU E0.Keys v12) λx2=>.br x2 (.call (Z71 v12) λx5=>.ok (([119,105,116,104,58]:By).length+x5.length<=9223372036854775807)<|.dr [.lit]<|.apR cS 16 v7 [([119,105,116,104,58]:By)++x5] λx10=>.g0 (.L5 E0 v6 x10 (IntKind.wrap .i64 (v12+1))))<|.g0 (.L5 E0 v6 v7 (IntKind.wrap .i64 (v12+1))))<|.idx cS v6 E0.Tap λx17=>.callU (lL v7 x17) [20007] 1250000 λx19=>.call (zd ([112,111,119,101,114]:By) E0.Power) λx21=>.callU (lL x19 x21) [1255000] 1300000 λx23=>.call (zd ([116,111,117,103,104]:By) E0.Tough) λx25=>.callU (lL x23 x25) [1305000] 1350000 λx27=>.call (zd ([118,97,108,117,101]:By) E0.Value) λx29=>.callU (lL x27 x29) [1355000] 1400000 λx31=>.lenO cS x31<|.br ((x31.length:Int)==0) (.rt ([97,110,121]:By))<|.rl cS x31<|.call (ZcB x31 ([32]:By)) λx34=>.rt x34
def GT(a0:al):LT jB (By):=
.lb 1001<|.call (iD a0) λx1=>.br (!x1) (.rt ([]:By))<|.call (ZbS) λx4=>.call (ZbU) λx6=>.call (ZbW) λx8=>.call (ZbY) λx10=>.idx cS x4 a0.Zone λx12=>.dr [.ahead 26,.own 20 70260 1,.stop]<|.callU (lL ([]:Bys) x12) [70260] 270000 λx14=>.idx cS x6 a0.Who λx16=>.callU (lL x14 x16) [275000] 340000 λx18=>.idx cS x8 a0.Self λx20=>.callU (lL x18 x20) [345000] 410000 λx22=>.go (.L0 a0 x10 x22 0) [.relab 1001 3000,.relab 415000 20007]
def lM:LF jB (By) :=.m0 190 [.t 2] wS λ|.L0 E0 v6 v7 v8=>([1,1,1,1,1,1,1,1,1,1,0,1,4],⟨145,[(1,.bptr 3000 0),(6,wL cS v6),(7,wO cS 20007 v7),(8,wI v8)],[(3000,.box (bx (aU E0))),(20007,wR cS 1 v7)]⟩,GO E0 v6 v7 v8)|.L1 E0 v6 v7 v9=>([1,1,1,1,1,1,1,1,1,1,1,0,1,4],⟨145,[(1,.bptr 3000 0),(6,wL cS v6),(7,wO cS 20007 v7),(9,wI v9)],[(3000,.box (bx (aU E0))),(20007,wR cS 1 v7)]⟩,GP E0 v6 v7 v9)|.L2 E0 v6 v7 v10=>([1,1,1,1,1,1,1,1,1,1,1,1,0,1,4],⟨145,[(1,.bptr 3000 0),(6,wL cS v6),(7,wO cS 20007 v7),(10,wI v10)],[(3000,.box (bx (aU E0))),(20007,wR cS 1 v7)]⟩,GQ E0 v6 v7 v10)|.L3 E0 v6 v7 v11=>([1,1,1,1,1,1,1,1,1,1,1,1,1,0,1,4],⟨145,[(1,.bptr 3000 0),(6,wL cS v6),(7,wO cS 20007 v7),(11,wI v11)],[(3000,.box (bx (aU E0))),(20007,wR cS 1 v7)]⟩,GR E0 v6 v7 v11)|.L4 E0 v6 v7=>([1,1,1,1,1,1,1,1,1,1,1,1,1,1,1],⟨145,[(1,.bptr 3000 0),(6,wL cS v6),(7,wO cS 20007 v7)],[(3000,.box (bx (aU E0))),(20007,wR cS 1 v7)]⟩,pX E0 v6 v7)|.L5 E0 v6 v7 v12=>([1,1,1,1,1,1,1,1,1,1,1,1,1,1,1,0,1,4],⟨145,[(1,.bptr 3000 0),(6,wL cS v6),(7,wO cS 20007 v7),(12,wI v12)],[(3000,.box (bx (aU E0))),(20007,wR cS 1 v7)]⟩,GS E0 v6 v7 v12)
def GU:=λa0=>lM.run (GT a0)
def ZcC(a0){r}(h:GU a0=some r):Fn PR 190 [wA (aU a0)] (wS r):=lM.fn h
def GV(a0:af):LT Empty (By):=
.lb 1001<|.call (yR a0) λx1=>.br (!x1) (.rt ([]:By))<|.br (a0.Kind==1) (.rt ([99,111,110,116,114,111,108]:By))<|.br (a0.Kind==2) (.call (yS a0.N) λx6=>.ok (([116,121,112,101,115,61]:By).length+x6.length<=9223372036854775807)<|.rt (([116,121,112,101,115,61]:By)++x6))<|.br (a0.Kind==3) (.call (yS a0.N) λx12=>.ok (([116,121,112,101,115,43,61]:By).length+x12.length<=9223372036854775807)<|.rt (([116,121,112,101,115,43,61]:By)++x12))<|.br (a0.Kind==4) (.ok (([115,117,98,61]:By).length+a0.Sub.length<=9223372036854775807)<|.rt (([115,117,98,61]:By)++a0.Sub))<|.br (a0.Kind==5) (.ok (([115,117,98,43,61]:By).length+a0.Sub.length<=9223372036854775807)<|.rt (([115,117,98,43,61]:By)++a0.Sub))<|.br (a0.Kind==6) (.call (Gl a0.N) λx26=>.ok (([99,111,108,111,114,115,61]:By).length+x26.length<=9223372036854775807)<|.rt (([99,111,108,111,114,115,61]:By)++x26))<|.br (a0.Kind==7) (.call (Gl a0.N) λx32=>.ok (([99,111,108,111,114,115,43,61]:By).length+x32.length<=9223372036854775807)<|.rt (([99,111,108,111,114,115,43,61]:By)++x32))<|.br (a0.Kind==8) (.call (Gw a0.N) λx38=>.ok (([107,101,121,115,43,61]:By).length+x38.length<=9223372036854775807)<|.rt (([107,101,121,115,43,61]:By)++x38))<|.br (a0.Kind==9) (.call (Gw a0.N) λx44=>.ok (([107,101,121,115,45,61]:By).length+x44.length<=9223372036854775807)<|.rt (([107,101,121,115,45,61]:By)++x44))<|.br (a0.Kind==10) (.rt ([98,108,97,110,107]:By))<|.br (a0.Kind==11) (.call (ZcC a0.Filter) λx51=>.ok (([112,116,61,99,111,117,110,116,40]:By).length+x51.length<=9223372036854775807)<|.ok ((([112,116,61,99,111,117,110,116,40]:By)++x51).length+([41]:By).length<=9223372036854775807)<|.rt ((([112,116,61,99,111,117,110,116,40]:By)++x51)++([41]:By)))<|.br (a0.Kind==12) (.call (nA a0.N) λx58=>.ok (([112,116,61]:By).length+x58.length<=9223372036854775807)<|.ok ((([112,116,61]:By)++x58).length+([47]:By).length<=9223372036854775807)<|.call (nA a0.M) λx65=>.ok (((([112,116,61]:By)++x58)++([47]:By)).length+x65.length<=9223372036854775807)<|.rt (((([112,116,61]:By)++x58)++([47]:By))++x65))<|.br (a0.Kind==13) (.call (nA a0.N) λx71=>.ok (([112,116,43,61]:By).length+x71.length<=9223372036854775807)<|.ok ((([112,116,43,61]:By)++x71).length+([47]:By).length<=9223372036854775807)<|.call (nA a0.M) λx78=>.ok (((([112,116,43,61]:By)++x71)++([47]:By)).length+x78.length<=9223372036854775807)<|.rt (((([112,116,43,61]:By)++x71)++([47]:By))++x78))<|.rt ([112,116,45,115,119,105,116,99,104]:By)
def GW:LF Empty (By) :=.z0 138 [.t 2] wS
def GX:=λa0=>GW.run (GV a0)
def GY(a0){r}(h:GX a0=some r):Fn PR 138 [wA (ax a0)] (wS r):=GW.fn h
inductive pY where
 |L0 (v0:List af) (v3:By) (v4:Int)
def Z52(v0:List af)(v3:By)(v4:Int):LT pY (By):=
.len ax v0<|.br (decide (v4<(v0.length:Int))) (.idx ax v0 v4 λx3=>.call (yR x3) λx5=>.br (!x5) (.rt ([]:By))<|.br (decide (v4>0)) (.ok (v3.length+([44,32]:By).length<=9223372036854775807)<|.ag ax x3 0<|.call (GY x3) λx11=>.ok ((v3++([44,32]:By)).length+x11.length<=9223372036854775807)<|.g0 (.L0 v0 ((v3++([44,32]:By))++x11) (IntKind.wrap .i64 (v4+1))))<|.ag ax x3 0<|.call (GY x3) λx17=>.ok (v3.length+x17.length<=9223372036854775807)<|.g0 (.L0 v0 (v3++x17) (IntKind.wrap .i64 (v4+1))))<|.rt v3
def Z9v(a0:List af):LT pY (By):=
.len ax a0<|.cs ((a0.length:Int)==0) (.k4 0<|.kn [0]<|.rt ([]:By))<|.k2 0<|.len ax a0<|.k2 0<|.br (decide ((a0.length:Int)>6)) (.rt ([]:By))<|.g0 (.L0 a0 ([]:By) 0)
def zf:LF pY (By) :=.m0 87 [.t 2] wS λ|.L0 v0 v3 v4=>([1,1,1,0,1,4],⟨37,[(0,wL ax v0),(3,wS v3),(4,wI v4)],[]⟩,Z52 v0 v3 v4)
def GZ:=λa0=>zf.run (Z9v a0)
def zg(a0){r}(h:GZ a0=some r):Fn PR 87 [wL ax a0] (wS r):=zf.fn h
def G0(a0:iE):LT Empty Bool:=
.lb 1001<|.call (pH a0.Mana) λx1=>.cs x1 (.k5 0<|.cs (a0.Mana.X==0) (.k4 1<|.cs (decide (a0.Life>=0)) (.k4 2<|.rt (decide (a0.Life<=99)))<|.k4 2<|.rt false)<|.k4 1<|.b4 false<|.rt false)<|.k5 0<|.b8 false<|.rt false
def G1:LF Empty Bool :=.z0 124 [.t 2] wB
def G2:=λa0=>G1.run (G0 a0)
def ZcD(a0){r}(h:G2 a0=some r):Fn PR 124 [wA (gG a0)] (wB r):=G1.fn h
def G3(a0:Int):LT Empty (By):=
.br (a0==1) (.rt ([101,110,116,101,114,115]:By))<|.br (a0==2) (.rt ([108,101,97,118,101,115]:By))<|.br (a0==3) (.rt ([100,105,101,115]:By))<|.br (a0==4) (.rt ([97,116,116,97,99,107,115]:By))<|.br (a0==5) (.rt ([98,108,111,99,107,115]:By))<|.br (a0==6) (.rt ([100,101,97,108,115]:By))<|.br (a0==7) (.rt ([100,101,97,108,116]:By))<|.br (a0==8) (.rt ([100,114,97,119,115]:By))<|.br (a0==9) (.rt ([99,97,115,116,115]:By))<|.br (a0==10) (.rt ([117,112,107,101,101,112]:By))<|.br (a0==11) (.rt ([101,110,100]:By))<|.br (a0==12) (.rt ([103,97,105,110,115]:By))<|.br (a0==13) (.rt ([108,111,115,101,115]:By))<|.br (a0==14) (.rt ([112,108,97,99,101,100]:By))<|.rt ([]:By)
def G4:LF Empty (By) :=.z0 173 [.t 2] wS
def G5:=λa0=>G4.run (G3 a0)
def G6(a0){r}(h:G5 a0=some r):Fn PR 173 [wI a0] (wS r):=G4.fn h
def G7(a0:Int):LT Empty Bool:=
.cs (a0==8) (.k3 0<|.b8 true<|.b4 true<|.rt true)<|.k3 0<|.cs (a0==9) (.k3 1<|.b8 true<|.kb true<|.rt true)<|.k3 1<|.cs (a0==10) (.k3 2<|.b5 true<|.kb true<|.rt true)<|.k3 2<|.cs (a0==11) (.k3 3<|.b3 true<|.rt true)<|.k3 3<|.cs (a0==12) (.k3 4<|.rt true)<|.k3 4<|.rt (a0==13)
def G8:LF Empty Bool :=.z0 174 [.t 2] wB
def G9:=λa0=>G8.run (G7 a0)
def Ha(a0){r}(h:G9 a0=some r):Fn PR 174 [wI a0] (wB r):=G8.fn h
def Z53(a0:Int):LT Empty Bool:=
.call (G6 a0) λx1=>.cs (!(x1==([]:By))) (.k2 0<|.call (Ha a0) λx4=>.k2 0<|.cs (!x4) (.k2 1<|.kg 0<|.kg 1<|.kg 0<|.rt true)<|.k2 1<|.kg 0<|.kg 1<|.kg 0<|.rt (a0==9))<|.k5 0<|.kg 0<|.rt false
def Z54:LF Empty Bool :=.z0 175 [.t 2] wB
def Hb:=λa0=>Z54.run (Z53 a0)
def ZcE(a0){r}(h:Hb a0=some r):Fn PR 175 [wI a0] (wB r):=Z54.fn h
inductive Z3g where
 |L0 (E0:fH)
def pZ(E0:fH):LT Z3g Bool:=
.call (ZcE E0.When) λx1=>.br (!x1) (.rt (Z9 (aU E0.Filter) (aU (⟨0,0,0,0,0,0,0,([]:By),0,0,(⟨0,0⟩:ah),(⟨0,0⟩:ah),(⟨0,0⟩:ah)⟩:al))))<|.br (E0.When==9) (.call (iD E0.Filter) λx5=>.cs x5 (.k5 2<|.kg 2<|.rt (E0.Filter.Zone==5))<|.k5 2<|.kg 2<|.rt false)<|.call (iD E0.Filter) λx8=>.cs x8 (.k5 2<|.kg 2<|.rt (E0.Filter.Zone==0))<|.k5 2<|.kg 2<|.rt false
def Hc(a0:fH):LT Z3g Bool:=
.lb 1001<|.call (G6 a0.When) λx1=>.cs (x1==([]:By)) (.k4 0<|.b8 true<|.b3 true<|.kn [0]<|.rt false)<|.k4 0<|.cs (decide (a0.Who<0)) (.k4 1<|.b5 true<|.b2 true<|.kn [0]<|.rt false)<|.k4 1<|.cs (decide (a0.Who>2)) (.k5 2<|.k2 2<|.kn [0]<|.rt false)<|.k3 2<|.call (Ha a0.When) λx6=>.k2 2<|.cs (!x6) (.k3 3<|.kg 2<|.kg 3<|.kg 2<|.br (a0.Who != 0) (.rt false)<|.jn 0 (.L0 a0) [.relab 1001 3000] (pZ a0))<|.k3 3<|.kg 2<|.kg 3<|.kg 2<|.kn [0]<|.jn 0 (.L0 a0) [.relab 1001 3000] (pZ a0)
def Hd:LF Z3g Bool :=.m0 125 [.t 2] wB λ|.L0 E0=>([1,1],⟨50,[(1,.bptr 3000 0)],[(3000,.box (bx (gj E0)))]⟩,pZ E0)
def He:=λa0=>Hd.run (Hc a0)
def ZcF(a0){r}(h:He a0=some r):Fn PR 125 [wA (gj a0)] (wB r):=Hd.fn h
def Hf(a0:al):LT Empty Bool:=
.lb 1001<|.call (iD a0) λx1=>.cs x1 (.k4 0<|.rt (a0.Zone==0))<|.k4 0<|.rt false
def Hg:LF Empty Bool :=.z0 178 [.t 2] wB
def Hh:=λa0=>Hg.run (Hf a0)
def Z3h(a0){r}(h:Hh a0=some r):Fn PR 178 [wA (aU a0)] (wB r):=Hg.fn h
def Hi(a0:dq):LT Empty Bool:=
.lb 1001<|.cs (a0.Who != 0) (.k5 0<|.kn [0]<|.rt false)<|.k3 0<|.call (Z3h a0.Filter) λx2=>.k2 0<|.br (!x2) (.rt false)<|.br (a0.Do==5) (.cs (a0.N==0) (.k4 3<|.cs (a0.Counter==0) (.k4 4<|.cs (a0.Zone==1) (.k3 5<|.kg 4<|.kg 5<|.kg 4<|.b3 true<|.kg 4<|.kb true<|.kg 4<|.rt true)<|.k3 5<|.kg 4<|.kg 5<|.kg 4<|.cs (a0.Zone==2) (.k3 6<|.kg 4<|.kg 6<|.kg 4<|.rt true)<|.k3 6<|.kg 4<|.kg 6<|.kg 4<|.rt (a0.Zone==4))<|.k8 4<|.rt false)<|.k4 3<|.b8 false<|.rt false)<|.br (a0.Do==6) (.cs (a0.N==0) (.k4 4<|.cs (a0.Counter==0) (.k4 5<|.rt (a0.Zone==0))<|.k4 5<|.rt false)<|.k4 4<|.b4 false<|.rt false)<|.br (a0.Do==7) (.cs (a0.Zone==0) (.k4 5<|.cs (decide (a0.N>=1)) (.k4 6<|.cs (decide (a0.N<=99)) (.k4 7<|.cs (decide (a0.Counter>=0)) (.k4 8<|.rt (decide (a0.Counter<3)))<|.k4 8<|.rt false)<|.k4 7<|.b4 false<|.rt false)<|.k4 6<|.b8 false<|.rt false)<|.k4 5<|.b8 false<|.b4 false<|.rt false)<|.rt false
def Hj:LF Empty Bool :=.z0 176 [.t 2] wB
def Hk:=λa0=>Hj.run (Hi a0)
def ZcG(a0){r}(h:Hk a0=some r):Fn PR 176 [wA (fa a0)] (wB r):=Hj.fn h
def Hl(a0:dq):LT Empty Bool:=
.lb 1001<|.cs (a0.Zone != 0) (.k4 0<|.kn [0]<|.rt false)<|.k4 0<|.br (a0.Counter != 0) (.rt false)<|.cs (a0.Do==2) (.k4 2<|.kn [0]<|.cs (decide (a0.N>=1)) (.k4 3<|.rt (decide (a0.N<=99)))<|.k4 3<|.rt false)<|.k4 2<|.br (a0.Do==4) (.cs (decide (a0.N>=1)) (.k4 4<|.rt (decide (a0.N<=99)))<|.k4 4<|.rt false)<|.rt (a0.N==0)
def Hm:LF Empty Bool :=.z0 177 [.t 2] wB
def Hn:=λa0=>Hm.run (Hl a0)
def ZcH(a0){r}(h:Hn a0=some r):Fn PR 177 [wA (fa a0)] (wB r):=Hm.fn h
inductive lN where
 |L0 (E0:dq) (v3:Bool) (v4:Bool)
 |L1 (E0:dq) (v3:Bool)
 |L2 (E0:dq) (v3:Bool) (v4:Bool) (v109:Bool)
def nC(E0:dq)(v3:Bool)(v4:Bool)(v109:Bool):LT lN Bool:=
.br v109 (.cs v4 (.k4 1<|.cs (decide (E0.Who>=0)) (.k4 2<|.cs (decide (E0.Who<=2)) (.k2 3<|.rt v3)<|.k2 3<|.rt false)<|.k4 2<|.b2 false<|.rt false)<|.k4 1<|.b5 false<|.kb false<|.rt false)<|.rt false
def lO(E0:dq)(v3:Bool):LT lN Bool:=
.cs (E0.Who==0) (.k3 0<|.call (Z3h E0.Filter) λx2=>.kg 0<|.cs x2 (.k8 1<|.rt true)<|.k4 1<|.cs (E0.Who==1) (.k3 2<|.kg 1<|.kg 2<|.kg 1<|.kb true<|.kg 1<|.kb true<|.kg 1<|.rt v3)<|.k3 2<|.kg 1<|.kg 2<|.kg 1<|.cs (E0.Who==2) (.kg 3<|.kg 1<|.kg 3<|.kg 1<|.rt v3)<|.kg 3<|.kg 1<|.kg 3<|.kg 1<|.rt false)<|.k4 0<|.b4 false<|.cs (E0.Who==1) (.k3 1<|.kb false<|.kg 1<|.kb false<|.kb true<|.kb false<|.kb true<|.kb false<|.rt v3)<|.k3 1<|.kb false<|.kg 1<|.kb false<|.cs (E0.Who==2) (.kg 2<|.kb false<|.kg 2<|.kb false<|.rt v3)<|.kg 2<|.kb false<|.kg 2<|.kb false<|.rt false
def nD(E0:dq)(v3:Bool)(v4:Bool):LT lN Bool:=
.br (E0.On==1) (.cs (E0.Do != 1) (.k4 1<|.cs (E0.Do != 2) (.k4 2<|.cs (E0.Do != 3) (.k4 3<|.br (E0.Do != 4) (.rt false)<|.j0 (.L1 E0 v3) (lO E0 v3))<|.k4 3<|.kn [0]<|.j0 (.L1 E0 v3) (lO E0 v3))<|.k4 2<|.b4 false<|.kn [0]<|.j0 (.L1 E0 v3) (lO E0 v3))<|.k4 1<|.b8 false<|.kn [0]<|.j0 (.L1 E0 v3) (lO E0 v3))<|.br (E0.On==8) (.cs v4 (.k4 2<|.cs (E0.Who==0) (.k3 3<|.call (Z3h E0.Filter) λx9=>.kg 3<|.rt x9)<|.k4 3<|.rt false)<|.k4 2<|.b4 false<|.rt false)<|.br (E0.On==3) (.cs (E0.Do==4) (.k4 3<|.b4 true<|.cs (decide (E0.Who>=0)) (.k4 4<|.cs (decide (E0.Who<=2)) (.k2 5<|.rt v3)<|.k2 5<|.rt false)<|.k4 4<|.b2 false<|.rt false)<|.k4 3<|.cs (E0.Do==8) (.k4 4<|.cs (decide (E0.Who>=0)) (.k4 5<|.cs (decide (E0.Who<=2)) (.k2 6<|.rt v3)<|.k2 6<|.rt false)<|.k4 5<|.b2 false<|.rt false)<|.k4 4<|.b5 false<|.kb false<|.rt false)<|.br (E0.On==4) (.j0 (.L2 E0 v3 v4 (E0.On==4)) (nC E0 v3 v4 (E0.On==4)))<|.br (E0.On==5) (.j0 (.L2 E0 v3 v4 (E0.On==5)) (nC E0 v3 v4 (E0.On==5)))<|.j0 (.L2 E0 v3 v4 (E0.On==10)) (nC E0 v3 v4 (E0.On==10))
def Ho(a0:dq):LT lN Bool:=
.lb 1001<|.br (a0.On==2) (.call (ZcG a0) λx2=>.rt x2)<|.call (ZcH a0) λx4=>.br (!x4) (.rt false)<|.cs (a0.Do==3) (.k4 2<|.b4 true<|.jn 0 (.L0 a0 (Z9 (aU a0.Filter) (aU (⟨0,0,0,0,0,0,0,([]:By),0,0,(⟨0,0⟩:ah),(⟨0,0⟩:ah),(⟨0,0⟩:ah)⟩:al))) true) [.relab 1001 3000] (nD a0 (Z9 (aU a0.Filter) (aU (⟨0,0,0,0,0,0,0,([]:By),0,0,(⟨0,0⟩:ah),(⟨0,0⟩:ah),(⟨0,0⟩:ah)⟩:al))) true))<|.k4 2<|.cs (a0.Do==4) (.k4 3<|.jn 0 (.L0 a0 (Z9 (aU a0.Filter) (aU (⟨0,0,0,0,0,0,0,([]:By),0,0,(⟨0,0⟩:ah),(⟨0,0⟩:ah),(⟨0,0⟩:ah)⟩:al))) true) [.relab 1001 3000] (nD a0 (Z9 (aU a0.Filter) (aU (⟨0,0,0,0,0,0,0,([]:By),0,0,(⟨0,0⟩:ah),(⟨0,0⟩:ah),(⟨0,0⟩:ah)⟩:al))) true))<|.k4 3<|.jn 0 (.L0 a0 (Z9 (aU a0.Filter) (aU (⟨0,0,0,0,0,0,0,([]:By),0,0,(⟨0,0⟩:ah),(⟨0,0⟩:ah),(⟨0,0⟩:ah)⟩:al))) (a0.Do==8)) [.relab 1001 3000] (nD a0 (Z9 (aU a0.Filter) (aU (⟨0,0,0,0,0,0,0,([]:By),0,0,(⟨0,0⟩:ah),(⟨0,0⟩:ah),(⟨0,0⟩:ah)⟩:al))) (a0.Do==8))
def Hp:LF lN Bool :=.m0 126 [.t 2] wB λ|.L0 E0 v3 v4=>([1,1,1,1,1],⟨127,[(1,.bptr 3000 0),(3,wB v3),(4,wB v4)],[(3000,.box (bx (fa E0)))]⟩,nD E0 v3 v4)|.L1 E0 v3=>([1,1,1,1,1,0,1,4,1,2,1],⟨127,[(1,.bptr 3000 0),(3,wB v3)],[(3000,.box (bx (fa E0)))]⟩,lO E0 v3)|.L2 E0 v3 v4 v109=>([1,1,1,1,1,0,1,4,1,3,1,3,1,3,1],⟨127,[(1,.bptr 3000 0),(3,wB v3),(4,wB v4),(109,wB v109)],[(3000,.box (bx (fa E0)))]⟩,nC E0 v3 v4 v109)
def Hq:=λa0=>Hp.run (Ho a0)
def ZcI(a0){r}(h:Hq a0=some r):Fn PR 126 [wA (fa a0)] (wB r):=Hp.fn h
def Hr(a0:cj):LT Empty Bool:=
.lb 1001<|.br (!a0.Object) (.cs a0.Player (.k5 1<|.rt (Z9 (aU a0.Filter) (aU (⟨0,0,0,0,0,0,0,([]:By),0,0,(⟨0,0⟩:ah),(⟨0,0⟩:ah),(⟨0,0⟩:ah)⟩:al))))<|.k5 1<|.rt false)<|.call (iD a0.Filter) λx3=>.cs x3 (.k3 1<|.cs (a0.Filter.Zone==0) (.k2 2<|.kg 1<|.kg 2<|.kg 1<|.b2 true<|.kg 1<|.kb true<|.kg 1<|.rt true)<|.k2 2<|.kg 1<|.kg 2<|.kg 1<|.cs (a0.Filter.Zone==3) (.k2 3<|.kg 1<|.kg 3<|.kg 1<|.rt true)<|.k2 3<|.kg 1<|.kg 3<|.kg 1<|.rt (a0.Filter.Zone==5))<|.k5 1<|.k2 1<|.rt false
def Hs:LF Empty Bool :=.z0 179 [.t 2] wB
def Ht:=λa0=>Hs.run (Hr a0)
def ZcJ(a0){r}(h:Ht a0=some r):Fn PR 179 [wA (bK a0)] (wB r):=Hs.fn h
inductive p3 where
 |L0 (v0:List cj) (v3:Int)
def Hu(v0:List cj)(v3:Int):LT p3 Bool:=
.len bK v0<|.br (decide (v3<(v0.length:Int))) (.idx bK v0 v3 λx3=>.call (ZcJ x3) λx5=>.br (!x5) (.rt false)<|.g0 (.L0 v0 (IntKind.wrap .i64 (v3+1))))<|.len bK v0<|.rt (decide ((v0.length:Int)<=4))
def Hv(a0:List cj):LT p3 Bool:=
.g0 (.L0 a0 0)
def Z72:LF p3 Bool :=.m0 127 [.t 2] wB λ|.L0 v0 v3=>([1,0,1,4],⟨19,[(0,wL bK v0),(3,wI v3)],[]⟩,Hu v0 v3)
def Hw:=λa0=>Z72.run (Hv a0)
def ZcK(a0){r}(h:Hw a0=some r):Fn PR 127 [wL bK a0] (wB r):=Z72.fn h
def Hx(a0:Int):LT Empty (By):=
.cs (decide (a0<1)) (.k3 0<|.kn [0]<|.rt ([]:By))<|.k3 0<|.br (decide (a0>26)) (.rt ([]:By))<|.dr [.lit]<|.idx cS [([100,97,109,97,103,101]:By),([100,101,115,116,114,111,121]:By),([109,111,118,101]:By),([100,114,97,119]:By),([100,105,115,99,97,114,100]:By),([103,97,105,110]:By),([108,111,115,101]:By),([116,97,112]:By),([117,110,116,97,112]:By),([112,117,116]:By),([116,97,107,101]:By),([99,114,101,97,116,101]:By),([109,111,100]:By),([109,97,110,97]:By),([99,111,117,110,116,101,114]:By),([99,111,112,121]:By),([98,101,99,111,109,101]:By),([115,97,99,114,105,102,105,99,101]:By),([109,105,108,108]:By),([115,99,114,121]:By),([115,101,97,114,99,104]:By),([115,104,105,101,108,100]:By),([116,117,114,110]:By),([119,105,110]:By),([100,101,102,101,97,116]:By),([118,101,110,111,109]:By)] (IntKind.wrap .i64 (a0-1)) λx6=>.rt x6
def Hy:LF Empty (By) :=.z0 221 [.t 2] wS
def Hz:=λa0=>Hy.run (Hx a0)
def ZcL(a0){r}(h:Hz a0=some r):Fn PR 221 [wI a0] (wS r):=Hy.fn h
inductive nE where
 |L0 (v3:Int) (v4:Bool)
 |L1 (v3:Int) (v14:Bool)
def p4(v3:Int)(v14:Bool):LT nE (By):=
.br v14 (.rt ([114,107,97]:By))<|.br (v3==12) (.rt ([114,99,97]:By))<|.br (v3==13) (.rt ([114,109]:By))<|.br (v3==14) (.rt ([112]:By))<|.br (v3==18) (.rt ([114,97,102]:By))<|.br (v3==20) (.rt ([97]:By))<|.br (v3==21) (.rt ([102]:By))<|.br (v3==23) (.kn [8]<|.rt ([]:By))<|.br (v3==24) (.rt ([]:By))<|.rt ([114,97]:By)
def jC(v3:Int)(v4:Bool):LT nE (By):=
.br v4 (.rt ([114]:By))<|.br (v3==3) (.rt ([114,122]:By))<|.br (v3==10) (.j0 (.L1 v3 (v3==10)) (p4 v3 (v3==10)))<|.j0 (.L1 v3 (v3==11)) (p4 v3 (v3==11))
def HA(a0:Int):LT nE (By):=
.br (a0==2) (.j0 (.L0 a0 (a0==2)) (jC a0 (a0==2)))<|.br (a0==8) (.j0 (.L0 a0 (a0==8)) (jC a0 (a0==8)))<|.br (a0==9) (.j0 (.L0 a0 (a0==9)) (jC a0 (a0==9)))<|.br (a0==15) (.j0 (.L0 a0 (a0==15)) (jC a0 (a0==15)))<|.br (a0==16) (.j0 (.L0 a0 (a0==16)) (jC a0 (a0==16)))<|.br (a0==17) (.j0 (.L0 a0 (a0==17)) (jC a0 (a0==17)))<|.j0 (.L0 a0 (a0==25)) (jC a0 (a0==25))
def HB:LF nE (By) :=.m0 257 [.t 2] wS λ|.L0 v3 v4=>([1,0,1,4,1],⟨32,[(3,wI v3),(4,wB v4)],[]⟩,jC v3 v4)|.L1 v3 v14=>([1,0,1,4,1,3,1,3,1],⟨32,[(3,wI v3),(14,wB v14)],[]⟩,p4 v3 v14)
def HC:=λa0=>HB.run (HA a0)
def ZcM(a0){r}(h:HC a0=some r):Fn PR 257 [wI a0] (wS r):=HB.fn h
inductive p5 where
 |L0 (v1:Int) (v5:By) (v6:Int)
def HD(v1:Int)(v5:By)(v6:Int):LT p5 Bool:=
.lenS v5<|.br (decide (v6<(v5.length:Int))) (.idxS v5 v6 λx3=>.br ((UInt8.toNat x3:Int)==v1) (.rt true)<|.g0 (.L0 v1 v5 (IntKind.wrap .i64 (v6+1))))<|.rt false
def HE(a0:Int)(a1:Int):LT p5 Bool:=
.call (ZcM a0) λx1=>.g0 (.L0 a1 x1 0)
def zh:LF p5 Bool :=.m0 222 [.t 4] wB λ|.L0 v1 v5 v6=>([1,1,0,1,4],⟨20,[(1,.t (.int .u8 v1)),(5,wS v5),(6,wI v6)],[]⟩,HD v1 v5 v6)
def HF:=λa0 a1=>zh.run (HE a0 a1)
def kK(a0)(a1){r}(h:HF a0 a1=some r):Fn PR 222 [wI a0,.t (.int .u8 a1)] (wB r):=zh.fn h
def Z9w(a0:Int):LT Empty Bool:=
.cs (a0==3) (.k3 0<|.rt true)<|.k3 0<|.rt (a0==8)
def Z9x:LF Empty Bool :=.z0 258 [.t 2] wB
def HG:=λa0=>Z9x.run (Z9w a0)
def ZcN(a0){r}(h:HG a0=some r):Fn PR 258 [wI a0] (wB r):=Z9x.fn h
inductive nF where
 |L0 (v1:Int) (E0:fU)
 |L1 (E0:fU)
def p6(E0:fU):LT nF Bool:=
.br (E0.Kind==4) (.call (iD E0.Filter) λx2=>.rt x2)<|.rt (Z9 (aU E0.Filter) (aU (⟨0,0,0,0,0,0,0,([]:By),0,0,(⟨0,0⟩:ah),(⟨0,0⟩:ah),(⟨0,0⟩:ah)⟩:al)))
def p7(v1:Int)(E0:fU):LT nF Bool:=
.cs (decide (E0.Kind<1)) (.k4 0<|.kn [0]<|.rt false)<|.k4 0<|.br (decide (E0.Kind>8)) (.rt false)<|.call (ZcN E0.Kind) λx3=>.br x3 (.cs (decide (E0.N<1)) (.k5 3<|.kn [0]<|.rt false)<|.k5 3<|.br (decide (E0.N>v1)) (.rt false)<|.j0 (.L1 E0) (p6 E0))<|.br (E0.N != 0) (.rt false)<|.j0 (.L1 E0) (p6 E0)
def HH(a0:fU)(a1:Int):LT nF Bool:=
.lb 1002<|.br (decide (a1>4)) (.jn 0 (.L0 4 a0) [.relab 1002 3000] (p7 4 a0))<|.jn 0 (.L0 a1 a0) [.relab 1002 3000] (p7 a1 a0)
def HJ:LF nF Bool :=.m0 223 [.t 4] wB λ|.L0 v1 E0=>([1,1],⟨40,[(1,wI v1),(2,.bptr 3000 0)],[(3000,.box (bx (fp E0)))]⟩,p7 v1 E0)|.L1 E0=>([1,1,1,1],⟨40,[(2,.bptr 3000 0)],[(3000,.box (bx (fp E0)))]⟩,p6 E0)
def HK:=λa0 a1=>HJ.run (HH a0 a1)
def ZcO(a0)(a1){r}(h:HK a0 a1=some r):Fn PR 223 [wA (fp a0),wI a1] (wB r):=HJ.fn h
def HL(a0:Int):LT Empty (By):=
.br (a0==0) (.rt ([112,108,117,115]:By))<|.br (a0==1) (.rt ([109,105,110,117,115]:By))<|.br (a0==2) (.rt ([99,104,97,114,103,101]:By))<|.rt ([]:By)
def HM:LF Empty (By) :=.z0 224 [.t 2] wS
def HN:=λa0=>HM.run (HL a0)
def HO(a0){r}(h:HN a0=some r):Fn PR 224 [wI a0] (wS r):=HM.fn h
def HP(a0:dU):LT Empty Bool:=
.lb 1001<|.lb 1003<|.br (a0.Kind==0) (.cs (decide (a0.N<0)) (.k4 1<|.kn [0]<|.rt false)<|.k4 1<|.br (decide (a0.N>1000000)) (.rt false)<|.cs (decide (a0.Kind>=0)) (.k4 3<|.cs (decide (a0.Kind<=7)) (.k5 4<|.kg 4<|.rt (Z9 (de (⟨a0.Kind,0,a0.Counter,a0.Filter⟩:dU)) (de (⟨a0.Kind,0,0,(⟨0,0,0,0,0,0,0,([]:By),0,0,(⟨0,0⟩:ah),(⟨0,0⟩:ah),(⟨0,0⟩:ah)⟩:al)⟩:dU))))<|.k5 4<|.kg 4<|.rt false)<|.k4 3<|.b5 false<|.kb false<|.rt false)<|.br (a0.Kind==2) (.cs (decide (a0.N<1)) (.k4 2<|.b5 true<|.kn [0]<|.rt false)<|.k4 2<|.cs (decide (a0.N>99)) (.k5 3<|.kn [0]<|.rt false)<|.k3 3<|.call (iD a0.Filter) λx9=>.k2 3<|.br (!x9) (.rt false)<|.cs (decide (a0.Kind>=0)) (.k4 5<|.cs (decide (a0.Kind<=7)) (.k5 6<|.kg 6<|.rt (Z9 (de (⟨a0.Kind,0,a0.Counter,(⟨0,0,0,0,0,0,0,([]:By),0,0,(⟨0,0⟩:ah),(⟨0,0⟩:ah),(⟨0,0⟩:ah)⟩:al)⟩:dU)) (de (⟨a0.Kind,0,0,(⟨0,0,0,0,0,0,0,([]:By),0,0,(⟨0,0⟩:ah),(⟨0,0⟩:ah),(⟨0,0⟩:ah)⟩:al)⟩:dU))))<|.k5 6<|.kg 6<|.rt false)<|.k4 5<|.b5 false<|.kb false<|.rt false)<|.br (a0.Kind==4) (.call (HO a0.Counter) λx15=>.br (x15==([]:By)) (.rt false)<|.cs (decide (a0.Kind>=0)) (.k4 4<|.cs (decide (a0.Kind<=7)) (.k5 5<|.kg 5<|.rt (Z9 (de (⟨a0.Kind,a0.N,0,a0.Filter⟩:dU)) (de (⟨a0.Kind,0,0,(⟨0,0,0,0,0,0,0,([]:By),0,0,(⟨0,0⟩:ah),(⟨0,0⟩:ah),(⟨0,0⟩:ah)⟩:al)⟩:dU))))<|.k5 5<|.kg 5<|.rt false)<|.k4 4<|.b5 false<|.kb false<|.rt false)<|.cs (decide (a0.Kind>=0)) (.k4 3<|.cs (decide (a0.Kind<=7)) (.k5 4<|.kg 4<|.rt (Z9 (de a0) (de (⟨a0.Kind,0,0,(⟨0,0,0,0,0,0,0,([]:By),0,0,(⟨0,0⟩:ah),(⟨0,0⟩:ah),(⟨0,0⟩:ah)⟩:al)⟩:dU))))<|.k5 4<|.kg 4<|.rt false)<|.k4 3<|.b5 false<|.kb false<|.rt false
def HQ:LF Empty Bool :=.z0 225 [.t 2] wB
def HR:=λa0=>HQ.run (HP a0)
def ZcP(a0){r}(h:HR a0=some r):Fn PR 225 [wA (de a0)] (wB r):=HQ.fn h
def HS(a0:List af):LT Empty Bool:=
.call (zg a0) λx1=>.rt (!(x1==([]:By)))
def HT:LF Empty Bool :=.z0 226 [.t 2] wB
def HU:=λa0=>HT.run (HS a0)
def ZcQ(a0){r}(h:HU a0=some r):Fn PR 226 [wL ax a0] (wB r):=HT.fn h
inductive p8 where
 |L0 (E0:A6 Int) (E1:aJ) (E2:aJ) (v4:Int)
def HV(E0:A6 Int)(E1:aJ)(E2:aJ)(v4:Int):LT p8 aJ:=
.br (decide (v4<5)) (.idA (aa.int .i64) (A6.list E0) (IntKind.wrap .i64 (v4+1)) (bx ((cA6 (cI .i64)) E0)) 0 6 λx4=>.ldC (aa.int .i64) 16 x4 0<|.idA (aa.int .i64) (A5.list E2.Color) v4 (bx (cc E2)) 2 7 λx6=>.stA (A5.set? E2.Color v4 x4) (λh=>ZcR (aa.int .i64) ((bx (cc E2)).take 2) ((bx (cc E2)).drop 7) h) λx8=>.g0 (.L0 E0 E1 (⟨E2.Generic,E2.X,x8⟩:aJ) (IntKind.wrap .i64 (v4+1))))<|.rt E2
def HW(a0:A6 Int):LT p8 aJ:=
.lb 1001<|.lb 1002<|.idA (aa.int .i64) (A6.list a0) 0 (bx ((cA6 (cI .i64)) a0)) 0 6 λx1=>.ldC (aa.int .i64) 6 x1 0<|.lb 1003<|.go (.L0 a0 (⟨0,0,(⟨0,0,0,0,0⟩:A5 Int)⟩:aJ) (⟨x1,0,(⟨0,0,0,0,0⟩:A5 Int)⟩:aJ) 0) (tm13 1000 3000)
def zj:LF p8 aJ :=.m0 260 [.c 2 60 true 7] (λr=>(wA (cc r))) λ|.L0 E0 E1 E2 v4=>([1,1,0,1,4],⟨20,[(1,.bptr 3000 0),(2,.bptr 3001 0),(3,.bptr 3002 0),(4,wI v4)],[(3000,.box (bx ((cA6 (cI .i64)) E0))),(3001,.box (bx (cc E1))),(3002,.box (bx (cc E2)))]⟩,HV E0 E1 E2 v4)
def HX:=λa0=>zj.run (HW a0)
def ZcS(a0){r}(h:HX a0=some r):Fn PR 260 [wA ((cA6 (cI .i64)) a0)] (wA (cc r)):=zj.fn h
inductive lP where
 |L0 (E0:aJ) (v3:By) (v4:Int)
 |L1 (E0:aJ) (v3:By) (v5:Int)
 |L2 (E0:aJ) (v3:By) (v5:Int) (v6:Int)
def HY(E0:aJ)(v3:By)(v4:Int):LT lP (By):=
.br (decide (v4<E0.X)) (.ok (v3.length+([88]:By).length<=9223372036854775807)<|.g0 (.L0 E0 (v3++([88]:By)) (IntKind.wrap .i64 (v4+1))))<|.br (E0.Generic != 0) (.call (nA E0.Generic) λx7=>.ok (v3.length+x7.length<=9223372036854775807)<|.g0 (.L1 E0 (v3++x7) 0))<|.g0 (.L1 E0 v3 0)
def H0(E0:aJ)(v3:By)(v5:Int):LT lP (By):=
.br (decide (v5<5)) (.g0 (.L2 E0 v3 v5 0))<|.br (v3==([]:By)) (.rt ([48]:By))<|.rt v3
def H1(E0:aJ)(v3:By)(v5:Int)(v6:Int):LT lP (By):=
.idA (aa.int .i64) (A5.list E0.Color) v5 (bx (cc E0)) 2 7 λx1=>.ldC (aa.int .i64) 34 x1 0<|.br (decide (v6<x1)) (.slS ([65,67,74,82,69]:By) v5 (IntKind.wrap .i64 (v5+1)) λx6=>.ok (v3.length+x6.length<=9223372036854775807)<|.g0 (.L2 E0 (v3++x6) v5 (IntKind.wrap .i64 (v6+1))))<|.g0 (.L1 E0 v3 (IntKind.wrap .i64 (v5+1)))
def H2(a0:aJ):LT lP (By):=
.lb 1001<|.call (pH a0) λx1=>.br (!x1) (.rt ([]:By))<|.go (.L0 a0 ([]:By) 0) [.relab 1001 3000]
def p9:LF lP (By) :=.m0 259 [.t 2] wS λ|.L0 E0 v3 v4=>([1,1,1,0,1,4],⟨47,[(1,.bptr 3000 0),(3,wS v3),(4,wI v4)],[(3000,.box (bx (cc E0)))]⟩,HY E0 v3 v4)|.L1 E0 v3 v5=>([1,1,1,1,1,0,1,4],⟨47,[(1,.bptr 3000 0),(3,wS v3),(5,wI v5)],[(3000,.box (bx (cc E0)))]⟩,H0 E0 v3 v5)|.L2 E0 v3 v5 v6=>([1,1,1,1,1,0,1,4,5,1,0,4,1,4],⟨47,[(1,.bptr 3000 0),(3,wS v3),(5,wI v5),(6,wI v6)],[(3000,.box (bx (cc E0)))]⟩,H1 E0 v3 v5 v6)
def H3:=λa0=>p9.run (H2 a0)
def ZcT(a0){r}(h:H3 a0=some r):Fn PR 259 [wA (cc a0)] (wS r):=p9.fn h
def Z9y(a0:A6 Int):LT Empty (By):=
.lb 1001<|.call (ZcS a0) λx1=>.call (ZcT x1) λx3=>.rt x3
def Z9z:LF Empty (By) :=.z0 227 [.t 2] wS
def H4:=λa0=>Z9z.run (Z9y a0)
def ZcU(a0){r}(h:H4 a0=some r):Fn PR 227 [wA ((cA6 (cI .i64)) a0)] (wS r):=Z9z.fn h
def H5(a0:Int)(a1:al):LT Empty Bool:=
.lb 1003<|.br (a0==21) (.call (iD a1) λx2=>.cs x2 (.k5 1<|.rt (a1.Zone==2))<|.k5 1<|.rt false)<|.call (iD a1) λx5=>.cs x5 (.k5 1<|.rt (a1.Zone==0))<|.k5 1<|.rt false
def H6:LF Empty Bool :=.z0 228 [.t 4] wB
def H7:=λa0 a1=>H6.run (H5 a0 a1)
def ZcV(a0)(a1){r}(h:H7 a0 a1=some r):Fn PR 228 [wI a0,wA (aU a1)] (wB r):=H6.fn h
inductive iF where
 |L0 (E0:aX) (v5:Bool)
 |L1 (E0:aX) (v5:Bool) (v6:Bool)
 |L2 (E0:aX) (v5:Bool) (v6:Bool) (v7:Bool)
 |L3 (E0:aX) (v5:Bool) (v6:Bool) (v7:Bool) (v8:Bool)
 |L4 (E0:aX) (v5:Bool) (v6:Bool) (v7:Bool) (v8:Bool) (v9:Bool)
 |L5 (E0:aX) (v5:Bool) (v6:Bool) (v7:Bool) (v8:Bool) (v9:Bool) (v10:Bool)
 |L6 (E0:aX) (v5:Bool) (v6:Bool) (v7:Bool) (v8:Bool) (v9:Bool) (v10:Bool) (v11:Bool)
 |L7 (v5:Bool) (v6:Bool) (v7:Bool) (v8:Bool) (v9:Bool) (v10:Bool) (v11:Bool) (v12:Bool)
def qa(v5:Bool)(v6:Bool)(v7:Bool)(v8:Bool)(v9:Bool)(v10:Bool)(v11:Bool)(v12:Bool):LT iF Bool:=
.cs v5 (.k2 0<|.cs v6 (.k2 1<|.cs v7 (.k2 2<|.cs v8 (.k2 3<|.cs v9 (.k2 4<|.cs v10 (.k2 5<|.cs v11 (.k2 6<|.rt v12)<|.k2 6<|.rt false)<|.k2 5<|.b2 false<|.rt false)<|.k2 4<|.b4 false<|.rt false)<|.k2 3<|.b5 false<|.kb false<|.rt false)<|.k2 2<|.b8 false<|.rt false)<|.k2 1<|.b8 false<|.b2 false<|.rt false)<|.k2 0<|.b8 false<|.b4 false<|.rt false
def nG(E0:aX)(v5:Bool)(v6:Bool)(v7:Bool)(v8:Bool)(v9:Bool)(v10:Bool)(v11:Bool):LT iF Bool:=
.call (kK E0.Op 102) λx1=>.br x1 (.call (ZcV E0.Op E0.Filter) λx4=>.j0 (.L7 v5 v6 v7 v8 v9 v10 v11 x4) (qa v5 v6 v7 v8 v9 v10 v11 x4))<|.j0 (.L7 v5 v6 v7 v8 v9 v10 v11 (Z9 (aU E0.Filter) (aU (⟨0,0,0,0,0,0,0,([]:By),0,0,(⟨0,0⟩:ah),(⟨0,0⟩:ah),(⟨0,0⟩:ah)⟩:al)))) (qa v5 v6 v7 v8 v9 v10 v11 (Z9 (aU E0.Filter) (aU (⟨0,0,0,0,0,0,0,([]:By),0,0,(⟨0,0⟩:ah),(⟨0,0⟩:ah),(⟨0,0⟩:ah)⟩:al))))
def qb(E0:aX)(v5:Bool)(v6:Bool)(v7:Bool)(v8:Bool)(v9:Bool)(v10:Bool):LT iF Bool:=
.call (kK E0.Op 112) λx1=>.br x1 (.cs (!(Z9 ((cA6 (cI .i64)) E0.Pool) ((cA6 (cI .i64)) (⟨0,0,0,0,0,0⟩:A6 Int)))) (.k3 1<|.call (ZcU E0.Pool) λx5=>.k2 1<|.j0 (.L6 E0 v5 v6 v7 v8 v9 v10 (!(x5==([]:By)))) (nG E0 v5 v6 v7 v8 v9 v10 (!(x5==([]:By)))))<|.k5 1<|.j0 (.L6 E0 v5 v6 v7 v8 v9 v10 false) (nG E0 v5 v6 v7 v8 v9 v10 false))<|.j0 (.L6 E0 v5 v6 v7 v8 v9 v10 (Z9 ((cA6 (cI .i64)) E0.Pool) ((cA6 (cI .i64)) (⟨0,0,0,0,0,0⟩:A6 Int)))) (nG E0 v5 v6 v7 v8 v9 v10 (Z9 ((cA6 (cI .i64)) E0.Pool) ((cA6 (cI .i64)) (⟨0,0,0,0,0,0⟩:A6 Int))))
def qc(E0:aX)(v5:Bool)(v6:Bool)(v7:Bool)(v8:Bool)(v9:Bool):LT iF Bool:=
.len ax E0.Mods<|.call (kK E0.Op 109) λx2=>.br x2 (.call (ZcQ E0.Mods) λx5=>.j0 (.L5 E0 v5 v6 v7 v8 v9 x5) (qb E0 v5 v6 v7 v8 v9 x5))<|.j0 (.L5 E0 v5 v6 v7 v8 v9 ((E0.Mods.length:Int)==0)) (qb E0 v5 v6 v7 v8 v9 ((E0.Mods.length:Int)==0))
def qd(E0:aX)(v5:Bool)(v6:Bool)(v7:Bool)(v8:Bool):LT iF Bool:=
.call (kK E0.Op 97) λx1=>.br x1 (.call (ZcP E0.Amount) λx4=>.j0 (.L4 E0 v5 v6 v7 v8 x4) (qc E0 v5 v6 v7 v8 x4))<|.j0 (.L4 E0 v5 v6 v7 v8 (Z9 (de E0.Amount) (de (⟨0,0,0,(⟨0,0,0,0,0,0,0,([]:By),0,0,(⟨0,0⟩:ah),(⟨0,0⟩:ah),(⟨0,0⟩:ah)⟩:al)⟩:dU)))) (qc E0 v5 v6 v7 v8 (Z9 (de E0.Amount) (de (⟨0,0,0,(⟨0,0,0,0,0,0,0,([]:By),0,0,(⟨0,0⟩:ah),(⟨0,0⟩:ah),(⟨0,0⟩:ah)⟩:al)⟩:dU))))
def nH(E0:aX)(v5:Bool)(v6:Bool)(v7:Bool):LT iF Bool:=
.call (kK E0.Op 99) λx1=>.br x1 (.call (yI E0.Card) λx4=>.j0 (.L3 E0 v5 v6 v7 x4) (qd E0 v5 v6 v7 x4))<|.j0 (.L3 E0 v5 v6 v7 (E0.Card==([]:By))) (qd E0 v5 v6 v7 (E0.Card==([]:By)))
def lQ(E0:aX)(v5:Bool)(v6:Bool):LT iF Bool:=
.cs (E0.Counter==0) (.k5 0<|.kg 0<|.j0 (.L2 E0 v5 v6 true) (nH E0 v5 v6 true))<|.k3 0<|.call (kK E0.Op 107) λx2=>.kg 0<|.cs x2 (.k3 1<|.call (HO E0.Counter) λx5=>.kg 1<|.kg 0<|.kg 1<|.kg 0<|.j0 (.L2 E0 v5 v6 (!(x5==([]:By)))) (nH E0 v5 v6 (!(x5==([]:By)))))<|.k4 1<|.kg 0<|.kg 1<|.kg 0<|.j0 (.L2 E0 v5 v6 false) (nH E0 v5 v6 false)
def qe(E0:aX)(v5:Bool):LT iF Bool:=
.cs (E0.Zone==0) (.k8 0<|.j0 (.L1 E0 v5 true) (lQ E0 v5 true))<|.k3 0<|.call (kK E0.Op 122) λx2=>.kg 0<|.cs x2 (.k3 1<|.kg 0<|.kg 1<|.kg 0<|.cs (decide (E0.Zone>0)) (.k3 2<|.kg 0<|.kg 2<|.kg 0<|.j0 (.L1 E0 v5 (decide (E0.Zone<=4))) (lQ E0 v5 (decide (E0.Zone<=4))))<|.k3 2<|.kg 0<|.kg 2<|.kg 0<|.j0 (.L1 E0 v5 false) (lQ E0 v5 false))<|.k3 1<|.kg 0<|.kg 1<|.kg 0<|.b3 false<|.kg 0<|.kb false<|.kg 0<|.j0 (.L1 E0 v5 false) (lQ E0 v5 false)
def H8(a0:aX)(a1:Int):LT iF Bool:=
.lb 1002<|.call (ZcL a0.Op) λx1=>.br (x1==([]:By)) (.rt false)<|.call (kK a0.Op 114) λx4=>.br x4 (.call (ZcO a0.Ref a1) λx7=>.jn 0 (.L0 a0 x7) [.relab 1002 3000] (qe a0 x7))<|.jn 0 (.L0 a0 (Z9 (fp a0.Ref) (fp (⟨0,0,(⟨0,0,0,0,0,0,0,([]:By),0,0,(⟨0,0⟩:ah),(⟨0,0⟩:ah),(⟨0,0⟩:ah)⟩:al)⟩:fU)))) [.relab 1002 3000] (qe a0 (Z9 (fp a0.Ref) (fp (⟨0,0,(⟨0,0,0,0,0,0,0,([]:By),0,0,(⟨0,0⟩:ah),(⟨0,0⟩:ah),(⟨0,0⟩:ah)⟩:al)⟩:fU))))
def H9:LF iF Bool :=.m0 180 [.t 4] wB λ|.L0 E0 v5=>([1,1,1,1],⟨138,[(2,.bptr 3000 0),(5,wB v5)],[(3000,.box (bx (bc E0)))]⟩,qe E0 v5)|.L1 E0 v5 v6=>([1,1,1,1,1],⟨138,[(2,.bptr 3000 0),(5,wB v5),(6,wB v6)],[(3000,.box (bx (bc E0)))]⟩,lQ E0 v5 v6)|.L2 E0 v5 v6 v7=>([1,1,1,1,1,1],⟨138,[(2,.bptr 3000 0),(5,wB v5),(6,wB v6),(7,wB v7)],[(3000,.box (bx (bc E0)))]⟩,nH E0 v5 v6 v7)|.L3 E0 v5 v6 v7 v8=>([1,1,1,1,1,1,1,1],⟨138,[(2,.bptr 3000 0),(5,wB v5),(6,wB v6),(7,wB v7),(8,wB v8)],[(3000,.box (bx (bc E0)))]⟩,qd E0 v5 v6 v7 v8)|.L4 E0 v5 v6 v7 v8 v9=>([1,1,1,1,1,1,1,1,1,1],⟨138,[(2,.bptr 3000 0),(5,wB v5),(6,wB v6),(7,wB v7),(8,wB v8),(9,wB v9)],[(3000,.box (bx (bc E0)))]⟩,qc E0 v5 v6 v7 v8 v9)|.L5 E0 v5 v6 v7 v8 v9 v10=>([1,1,1,1,1,1,1,1,1,1,1,1],⟨138,[(2,.bptr 3000 0),(5,wB v5),(6,wB v6),(7,wB v7),(8,wB v8),(9,wB v9),(10,wB v10)],[(3000,.box (bx (bc E0)))]⟩,qb E0 v5 v6 v7 v8 v9 v10)|.L6 E0 v5 v6 v7 v8 v9 v10 v11=>([1,1,1,1,1,1,1,1,1,1,1,1,1,1],⟨138,[(2,.bptr 3000 0),(5,wB v5),(6,wB v6),(7,wB v7),(8,wB v8),(9,wB v9),(10,wB v10),(11,wB v11)],[(3000,.box (bx (bc E0)))]⟩,nG E0 v5 v6 v7 v8 v9 v10 v11)|.L7 v5 v6 v7 v8 v9 v10 v11 v12=>([1,1,1,1,1,1,1,1,1,1,1,1,1,1,1,1],⟨138,[(5,wB v5),(6,wB v6),(7,wB v7),(8,wB v8),(9,wB v9),(10,wB v10),(11,wB v11),(12,wB v12)],[]⟩,qa v5 v6 v7 v8 v9 v10 v11 v12)
def Ia:=λa0 a1=>H9.run (H8 a0 a1)
def ZcW(a0)(a1){r}(h:Ia a0 a1=some r):Fn PR 180 [wA (bc a0),wI a1] (wB r):=H9.fn h
inductive qf where
 |L0 (v0:List aX) (v1:Int) (v5:Int)
def Z90(v0:List aX)(v1:Int)(v5:Int):LT qf Bool:=
.len bc v0<|.br (decide (v5<(v0.length:Int))) (.idx bc v0 v5 λx3=>.call (ZcW x3 v1) λx5=>.br (!x5) (.rt false)<|.g0 (.L0 v0 v1 (IntKind.wrap .i64 (v5+1))))<|.len bc v0<|.cs (decide ((v0.length:Int)>=1)) (.k2 1<|.len bc v0<|.k2 1<|.rt (decide ((v0.length:Int)<=8)))<|.k4 1<|.rt false
def Ib(a0:List aX)(a1:Int):LT qf Bool:=
.g0 (.L0 a0 a1 0)
def Z0d:LF qf Bool :=.m0 128 [.t 4] wB λ|.L0 v0 v1 v5=>([1,0,1,4],⟨27,[(0,wL bc v0),(1,wI v1),(5,wI v5)],[]⟩,Z90 v0 v1 v5)
def Ic:=λa0 a1=>Z0d.run (Ib a0 a1)
def ZcX(a0)(a1){r}(h:Ic a0 a1=some r):Fn PR 128 [wL bc a0,wI a1] (wB r):=Z0d.fn h
inductive jZ where
 |L0 (E0:an) (v3:Bool)
 |L1 (E0:an) (v3:Bool)
 |L2 (E0:an) (v3:Bool)
 |L3 (E0:an) (v3:Bool)
 |L4 (E0:an) (v3:Bool)
def qg(E0:an)(v3:Bool):LT jZ Bool:=
.br v3 (.call (ZcK E0.Specs) λx2=>.cs x2 (.k5 1<|.len bK E0.Specs<|.kg 1<|.call (ZcX E0.Effects (E0.Specs.length:Int)) λx6=>.kg 1<|.rt x6)<|.k5 1<|.k2 1<|.rt false)<|.len bK E0.Specs<|.cs ((E0.Specs.length:Int)==0) (.k3 1<|.len bc E0.Effects<|.k2 1<|.rt ((E0.Effects.length:Int)==0))<|.k5 1<|.rt false
def qh(E0:an)(v3:Bool):LT jZ Bool:=
.br (E0.Kind==5) (.call (ZcI E0.Replace) λx2=>.br (!x2) (.rt false)<|.j0 (.L4 E0 v3) (qg E0 v3))<|.br (!(Z9 (fa E0.Replace) (fa (⟨0,0,(⟨0,0,0,0,0,0,0,([]:By),0,0,(⟨0,0⟩:ah),(⟨0,0⟩:ah),(⟨0,0⟩:ah)⟩:al),0,0,0,0⟩:dq)))) (.rt false)<|.j0 (.L4 E0 v3) (qg E0 v3)
def qi(E0:an)(v3:Bool):LT jZ Bool:=
.br (E0.Kind==4) (.call (ZcF E0.Trigger) λx2=>.br (!x2) (.rt false)<|.j0 (.L3 E0 v3) (qh E0 v3))<|.cs (!(Z9 (gj E0.Trigger) (gj (⟨0,0,(⟨0,0,0,0,0,0,0,([]:By),0,0,(⟨0,0⟩:ah),(⟨0,0⟩:ah),(⟨0,0⟩:ah)⟩:al)⟩:fH)))) (.k3 1<|.kn [0]<|.rt false)<|.k3 1<|.br E0.May (.rt false)<|.j0 (.L3 E0 v3) (qh E0 v3)
def qj(E0:an)(v3:Bool):LT jZ Bool:=
.br (E0.Kind==3) (.call (ZcD E0.Price) λx2=>.br (!x2) (.rt false)<|.j0 (.L2 E0 v3) (qi E0 v3))<|.cs (!(Z9 (gG E0.Price) (gG (⟨(⟨0,0,(⟨0,0,0,0,0⟩:A5 Int)⟩:aJ),false,false,0⟩:iE)))) (.k3 1<|.kn [0]<|.rt false)<|.k3 1<|.br E0.Slow (.rt false)<|.j0 (.L2 E0 v3) (qi E0 v3)
def nI(E0:an)(v3:Bool):LT jZ Bool:=
.br (E0.Kind==1) (.call (iD E0.Filter) λx2=>.cs (!x2) (.k5 1<|.b5 true<|.kn [0]<|.rt false)<|.k5 1<|.cs (E0.Filter.Zone != 0) (.k5 2<|.kn [0]<|.rt false)<|.k3 2<|.call (zg E0.Mods) λx6=>.k2 2<|.br (x6==([]:By)) (.rt false)<|.j0 (.L1 E0 v3) (qj E0 v3))<|.cs (!(Z9 (aU E0.Filter) (aU (⟨0,0,0,0,0,0,0,([]:By),0,0,(⟨0,0⟩:ah),(⟨0,0⟩:ah),(⟨0,0⟩:ah)⟩:al)))) (.k5 1<|.kn [0]<|.rt false)<|.k3 1<|.len ax E0.Mods<|.k2 1<|.br (decide ((E0.Mods.length:Int)>0)) (.rt false)<|.j0 (.L1 E0 v3) (qj E0 v3)
def Ie(a0:an):LT jZ Bool:=
.lb 1001<|.cs (decide (a0.Kind<1)) (.k4 0<|.kn [0]<|.rt false)<|.k4 0<|.br (decide (a0.Kind>5)) (.rt false)<|.cs (a0.Kind==2) (.k4 2<|.b4 true<|.jn 0 (.L0 a0 true) [.relab 1001 3000] (nI a0 true))<|.k4 2<|.cs (a0.Kind==3) (.k4 3<|.jn 0 (.L0 a0 true) [.relab 1001 3000] (nI a0 true))<|.k4 3<|.jn 0 (.L0 a0 (a0.Kind==4)) [.relab 1001 3000] (nI a0 (a0.Kind==4))
def If:LF jZ Bool :=.m0 78 [.t 2] wB λ|.L0 E0 v3=>([1,1,1],⟨117,[(1,.bptr 3000 0),(3,wB v3)],[(3000,.box (bx (aC E0)))]⟩,nI E0 v3)|.L1 E0 v3=>([1,1,1,1],⟨117,[(1,.bptr 3000 0),(3,wB v3)],[(3000,.box (bx (aC E0)))]⟩,qj E0 v3)|.L2 E0 v3=>([1,1,1,1,1],⟨117,[(1,.bptr 3000 0),(3,wB v3)],[(3000,.box (bx (aC E0)))]⟩,qi E0 v3)|.L3 E0 v3=>([1,1,1,1,1,1],⟨117,[(1,.bptr 3000 0),(3,wB v3)],[(3000,.box (bx (aC E0)))]⟩,qh E0 v3)|.L4 E0 v3=>([1,1,1,1,1,1,1],⟨117,[(1,.bptr 3000 0),(3,wB v3)],[(3000,.box (bx (aC E0)))]⟩,qg E0 v3)
def Ig:=λa0=>If.run (Ie a0)
def Z55(a0){r}(h:Ig a0=some r):Fn PR 78 [wA (aC a0)] (wB r):=If.fn h
def Ih(a0:aq):LT Empty Bool:=
.lb 1001<|.cs (a0.Line.Types==2) (.k5 0<|.rt true)<|.k5 0<|.rt (a0.Line.Types==4)
def Ii:LF Empty Bool :=.z0 79 [.t 2] wB
def Ij:=λa0=>Ii.run (Ih a0)
def ZcY(a0){r}(h:Ij a0=some r):Fn PR 79 [wA (Z0 a0)] (wB r):=Ii.fn h
inductive nJ where
 |L0 (E0:aq)
 |L1 (E0:aq) (v3:Int) (v4:Int)
def qk(E0:aq):LT nJ Bool:=
.g0 (.L1 E0 0 0)
def Ik(E0:aq)(v3:Int)(v4:Int):LT nJ Bool:=
.len aC E0.Abilities<|.br (decide (v4<(E0.Abilities.length:Int))) (.idx aC E0.Abilities v4 λx3=>.call (Z55 x3) λx5=>.br (!x5) (.rt false)<|.ag aC x3 0<|.br (x3.Kind==2) (.g0 (.L1 E0 (IntKind.wrap .i64 (v3+1)) (IntKind.wrap .i64 (v4+1))))<|.g0 (.L1 E0 v3 (IntKind.wrap .i64 (v4+1))))<|.call (ZcY E0) λx15=>.br x15 (.cs (!E0.Token) (.k4 2<|.cs (E0.Keys==0) (.k3 3<|.len aC E0.Abilities<|.k2 3<|.cs ((E0.Abilities.length:Int)==1) (.k3 4<|.rt (v3==1))<|.k3 4<|.rt false)<|.k5 3<|.b3 false<|.rt false)<|.k4 2<|.b8 false<|.rt false)<|.cs (v3==0) (.k4 2<|.cs (!E0.Token) (.k5 3<|.kg 2<|.kg 3<|.kg 2<|.cs ((aR .and .i64 E0.Line.Types 32)==0) (.k4 4<|.kg 2<|.kg 4<|.kg 2<|.rt true)<|.k4 4<|.kg 2<|.kg 4<|.kg 2<|.rt (Z9 (cc E0.Cost) (cc (⟨0,0,(⟨0,0,0,0,0⟩:A5 Int)⟩:aJ))))<|.k5 3<|.kg 2<|.kg 3<|.kg 2<|.b4 false<|.kg 2<|.kb false<|.kg 2<|.rt (Z9 (cc E0.Cost) (cc (⟨0,0,(⟨0,0,0,0,0⟩:A5 Int)⟩:aJ))))<|.k8 2<|.rt false
def Il(a0:aq):LT nJ Bool:=
.lb 1001<|.call (yI a0.Name) λx1=>.cs (!x1) (.k5 0<|.b16 true<|.b2 true<|.kn [0]<|.rt false)<|.k3 0<|.call (pH a0.Cost) λx4=>.k2 0<|.cs (!x4) (.k5 1<|.b8 true<|.b5 true<|.kn [0]<|.rt false)<|.k3 1<|.call (ZbJ a0.Line) λx7=>.k2 1<|.cs (!x7) (.k5 2<|.b8 true<|.kn [0]<|.rt false)<|.k3 2<|.call (FU a0.Keys) λx10=>.k2 2<|.cs (!x10) (.k4 3<|.b4 true<|.kn [0]<|.rt false)<|.k4 3<|.cs (decide (a0.Color<0)) (.k4 4<|.kn [0]<|.rt false)<|.k4 4<|.br (decide (a0.Color>31)) (.rt false)<|.cs (decide (a0.Power<0)) (.k4 6<|.b16 true<|.b3 true<|.kn [0]<|.rt false)<|.k4 6<|.cs (decide (a0.Power>99)) (.k4 7<|.b8 true<|.b5 true<|.b2 true<|.kn [0]<|.rt false)<|.k4 7<|.cs (decide (a0.Tough<0)) (.k4 8<|.b8 true<|.b3 true<|.kn [0]<|.rt false)<|.k4 8<|.cs (decide (a0.Tough>99)) (.k5 9<|.kg 9<|.b5 true<|.kn [0]<|.rt false)<|.k2 9<|.call (ZbK a0) λx19=>.k2 9<|.cs (!x19) (.k4 10<|.cs (a0.Power != 0) (.k3 11<|.kg 10<|.kg 11<|.kg 9<|.kg 10<|.kg 9<|.b5 true<|.kn [0]<|.rt false)<|.k3 11<|.kg 10<|.kg 11<|.kg 9<|.kg 10<|.kg 9<|.cs (a0.Tough != 0) (.k5 12<|.kn [0]<|.rt false)<|.k3 12<|.len aC a0.Abilities<|.k2 12<|.br (decide ((a0.Abilities.length:Int)>8)) (.rt false)<|.jn 0 (.L0 a0) [.relab 1001 3000] (qk a0))<|.k5 10<|.kg 9<|.kg 10<|.kg 9<|.b3 false<|.len aC a0.Abilities<|.b2 false<|.br (decide ((a0.Abilities.length:Int)>8)) (.rt false)<|.jn 0 (.L0 a0) [.relab 1001 3000] (qk a0)
def zk:LF nJ Bool :=.m0 43 [.t 2] wB λ|.L0 E0=>([1,1,1],⟨139,[(1,.bptr 3000 0)],[(3000,.box (bx (Z0 E0)))]⟩,qk E0)|.L1 E0 v3 v4=>([1,1,1,1,0,1,4],⟨139,[(1,.bptr 3000 0),(3,wI v3),(4,wI v4)],[(3000,.box (bx (Z0 E0)))]⟩,Ik E0 v3 v4)
def Im:=λa0=>zk.run (Il a0)
def ZcZ(a0){r}(h:Im a0=some r):Fn PR 43 [wA (Z0 a0)] (wB r):=zk.fn h
inductive ql where
 |L0 (v0:List aq) (v1:By) (v5:Int)
def Io(v0:List aq)(v1:By)(v5:Int):LT ql Int:=
.len Z0 v0<|.br (decide (v5<(v0.length:Int))) (.idx Z0 v0 v5 λx3=>.br (x3.Name==v1) (.rt v5)<|.g0 (.L0 v0 v1 (IntKind.wrap .i64 (v5+1))))<|.rt (-1)
def Ip(a0:List aq)(a1:By):LT ql Int:=
.g0 (.L0 a0 a1 0)
def zl:LF ql Int :=.m0 44 [.t 4] wI λ|.L0 v0 v1 v5=>([1,0,1,4],⟨20,[(0,wL Z0 v0),(1,wS v1),(5,wI v5)],[]⟩,Io v0 v1 v5)
def Iq:=λa0 a1=>zl.run (Ip a0 a1)
def ZdA(a0)(a1){r}(h:Iq a0 a1=some r):Fn PR 44 [wL Z0 a0,wS a1] (wI r):=zl.fn h
inductive qm where
 |L0 (v0:List aq) (v1:By) (v5:Int)
def Ir(v0:List aq)(v1:By)(v5:Int):LT qm Bool:=
.len Z0 v0<|.br (decide (v5<(v0.length:Int))) (.idx Z0 v0 v5 λx3=>.cs (x3.Name==v1) (.k3 1<|.ag Z0 x3 0<|.k3 1<|.br x3.Token (.rt true)<|.g0 (.L0 v0 v1 (IntKind.wrap .i64 (v5+1))))<|.k5 1<|.kg 1<|.kn [0]<|.g0 (.L0 v0 v1 (IntKind.wrap .i64 (v5+1))))<|.rt false
def Is(a0:List aq)(a1:By):LT qm Bool:=
.g0 (.L0 a0 a1 0)
def Z73:LF qm Bool :=.m0 80 [.t 4] wB λ|.L0 v0 v1 v5=>([1,0,1,4],⟨26,[(0,wL Z0 v0),(1,wS v1),(5,wI v5)],[]⟩,Ir v0 v1 v5)
def It:=λa0 a1=>Z73.run (Is a0 a1)
def ZdB(a0)(a1){r}(h:It a0 a1=some r):Fn PR 80 [wL Z0 a0,wS a1] (wB r):=Z73.fn h
inductive nK where
 |L0 (v0:List aq) (E0:aq) (v5:Int)
 |L1 (v0:List aq) (E0:aq) (v5:Int) (v6:Int)
def Z91(v0:List aq)(E0:aq)(v5:Int):LT nK Bool:=
.len aC E0.Abilities<|.br (decide (v5<(E0.Abilities.length:Int))) (.g0 (.L1 v0 E0 v5 0))<|.rt true
def Z92(v0:List aq)(E0:aq)(v5:Int)(v6:Int):LT nK Bool:=
.idx aC E0.Abilities v5 λx1=>.len bc x1.Effects<|.br (decide (v6<(x1.Effects.length:Int))) (.ag aC x1 0<|.idx bc x1.Effects v6 λx5=>.lb 1007<|.cs (x5.Op==12) (.k4 1<|.call (ZdB v0 x5.Card) λx8=>.k2 1<|.br (!x8) (.rt false)<|.g0 (.L1 v0 E0 v5 (IntKind.wrap .i64 (v6+1))))<|.k5 1<|.kg 1<|.kn [0]<|.g0 (.L1 v0 E0 v5 (IntKind.wrap .i64 (v6+1))))<|.g0 (.L0 v0 E0 (IntKind.wrap .i64 (v5+1)))
def Iu(a0:List aq)(a1:aq):LT nK Bool:=
.lb 1003<|.go (.L0 a0 a1 0) [.relab 1003 3000]
def uG:LF nK Bool :=.m0 45 [.t 4] wB λ|.L0 v0 E0 v5=>([1,0,1,4],⟨45,[(0,wL Z0 v0),(3,.bptr 3000 0),(5,wI v5)],[(3000,.box (bx (Z0 E0)))]⟩,Z91 v0 E0 v5)|.L1 v0 E0 v5 v6=>([1,0,1,4,5,1,0,4,1,4],⟨45,[(0,wL Z0 v0),(3,.bptr 3000 0),(5,wI v5),(6,wI v6)],[(3000,.box (bx (Z0 E0)))]⟩,Z92 v0 E0 v5 v6)
def Iv:=λa0 a1=>uG.run (Iu a0 a1)
def ZdC(a0)(a1){r}(h:Iv a0 a1=some r):Fn PR 45 [wL Z0 a0,wA (Z0 a1)] (wB r):=uG.fn h
inductive qn where
 |L0 (v0:List aq) (v4:Int)
def Iw(v0:List aq)(v4:Int):LT qn (Int×Int):=
.len Z0 v0<|.br (decide (v4<(v0.length:Int))) (.idx Z0 v0 v4 λx3=>.call (ZcZ x3) λx5=>.br (!x5) (.rt (v4,9))<|.ag Z0 x3 0<|.call (ZdA v0 x3.Name) λx8=>.br (decide (x8<v4)) (.rt (v4,6))<|.ag Z0 x3 0<|.call (ZdC v0 x3) λx11=>.br (!x11) (.rt (v4,7))<|.g0 (.L0 v0 (IntKind.wrap .i64 (v4+1))))<|.rt ((-1),0)
def Ix(a0:List aq):LT qn (Int×Int):=
.len Z0 a0<|.br (decide ((a0.length:Int)>256)) (.rt ((-1),5))<|.g0 (.L0 a0 0)
def Z74:LF qn (Int×Int) :=.m0 28 [.t 2,.t 3] (λr=>(.tup [wI r.1,wI r.2])) λ|.L0 v0 v4=>([1,1,0,1,4],⟨39,[(0,wL Z0 v0),(4,wI v4)],[]⟩,Iw v0 v4)
def Iy:=λa0=>Z74.run (Ix a0)
def ZdD(a0){r}(h:Iy a0=some r):Fn PR 28 [wL Z0 a0] (.tup [wI r.1,wI r.2]):=Z74.fn h
def Iz(a0:Int)(a1:Int)(a2:Int):LT Empty Bool:=
.cs (decide (a0>=a1)) (.k4 0<|.rt (decide (a0<=a2)))<|.k4 0<|.rt false
def IA:LF Empty Bool :=.z0 46 [.t 6] wB
def IB:=λa0 a1 a2=>IA.run (Iz a0 a1 a2)
def gH(a0)(a1)(a2){r}(h:IB a0 a1 a2=some r):Fn PR 46 [wI a0,wI a1,wI a2] (wB r):=IA.fn h
inductive qo where
 |L0 (E0:A6 Int) (v3:Int)
def IC(E0:A6 Int)(v3:Int):LT qo Bool:=
.br (decide (v3<6)) (.idA (aa.int .i64) (A6.list E0) v3 (bx ((cA6 (cI .i64)) E0)) 0 6 λx2=>.ldC (aa.int .i64) 10 x2 0<|.cs (decide (x2<0)) (.k5 1<|.kn [0]<|.rt false)<|.k2 1<|.idA (aa.int .i64) (A6.list E0) v3 (bx ((cA6 (cI .i64)) E0)) 0 6 λx5=>.kg 1<|.ldC (aa.int .i64) 15 x5 1<|.k2 1<|.br (decide (x5>1000000)) (.rt false)<|.g0 (.L0 E0 (IntKind.wrap .i64 (v3+1))))<|.rt true
def ID(a0:A6 Int):LT qo Bool:=
.lb 1001<|.go (.L0 a0 0) [.relab 1001 3000]
def Z75:LF qo Bool :=.m0 81 [.t 2] wB λ|.L0 E0 v3=>([1,0,1,4],⟨18,[(1,.bptr 3000 0),(3,wI v3)],[(3000,.box (bx ((cA6 (cI .i64)) E0)))]⟩,IC E0 v3)
def IE:=λa0=>Z75.run (ID a0)
def ZdE(a0){r}(h:IE a0=some r):Fn PR 81 [wA ((cA6 (cI .i64)) a0)] (wB r):=Z75.fn h
inductive qp where
 |L0 (v1:Int) (E0:av) (v5:Int)
def IF(v1:Int)(E0:av)(v5:Int):LT qp Int:=
.len aH E0.Objects<|.br (decide (v5<(E0.Objects.length:Int))) (.idx aH E0.Objects v5 λx3=>.br (x3.Id==v1) (.rt v5)<|.g0 (.L0 v1 E0 (IntKind.wrap .i64 (v5+1))))<|.rt (-1)
def IG(a0:av)(a1:Int):LT qp Int:=
.lb 1002<|.go (.L0 a1 a0 0) [.relab 1002 3000]
def Z76:LF qp Int :=.m0 229 [.t 4] wI λ|.L0 v1 E0 v5=>([1,0,1,4],⟨22,[(1,wI v1),(2,.bptr 3000 0),(5,wI v5)],[(3000,.box (bx (Z6 E0)))]⟩,IF v1 E0 v5)
def II:=λa0 a1=>Z76.run (IG a0 a1)
def ZdF(a0)(a1){r}(h:II a0 a1=some r):Fn PR 229 [wA (Z6 a0),wI a1] (wI r):=Z76.fn h
def IJ(a0:av)(a1:Int):LT Empty (aj×Bool):=
.lb 1002<|.lb 1004<|.call (ZdF a0 a1) λx1=>.br (decide (x1<0)) (.rt ((⟨0,0,0,0,0,false,false,false,false,0,(⟨0,0,0⟩:A3 Int),0,0,0,false,0,0⟩:aj),false))<|.idx aH a0.Objects x1 λx4=>.rt (x4,true)
def IK:LF Empty (aj×Bool) :=.z0 181 [.c 4 56 true 19,.t 5] (λr=>(.tup [wA (aH r.1),wB r.2]))
def IL:=λa0 a1=>IK.run (IJ a0 a1)
def ZdG(a0)(a1){r}(h:IL a0 a1=some r):Fn PR 181 [wA (Z6 a0),wI a1] (.tup [wA (aH r.1),wB r.2]):=IK.fn h
def IM(a0:av)(a1:Int):LT Empty (aj×Bool):=
.lb 1002<|.lb 1004<|.call (ZdG a0 a1) λx1=>.rt (x1.1,x1.2)
def IN:LF Empty (aj×Bool) :=.z0 129 [.c 4 56 true 19,.t 5] (λr=>(.tup [wA (aH r.1),wB r.2]))
def IP:=λa0 a1=>IN.run (IM a0 a1)
def IQ(a0)(a1){r}(h:IP a0 a1=some r):Fn PR 129 [wA (Z6 a0),wI a1] (.tup [wA (aH r.1),wB r.2]):=IN.fn h
inductive qq where
 |L0 (v0:List Int) (v1:Int) (v5:Int) (v6:Int)
def IR(v0:List Int)(v1:Int)(v5:Int)(v6:Int):LT qq Int:=
.len (cI .i64) v0<|.br (decide (v6<(v0.length:Int))) (.idx (cI .i64) v0 v6 λx3=>.br (x3==v1) (.g0 (.L0 v0 v1 (IntKind.wrap .i64 (v5+1)) (IntKind.wrap .i64 (v6+1))))<|.g0 (.L0 v0 v1 v5 (IntKind.wrap .i64 (v6+1))))<|.rt v5
def IS(a0:List Int)(a1:Int):LT qq Int:=
.g0 (.L0 a0 a1 0 0)
def Z77:LF qq Int :=.m0 130 [.t 4] wI λ|.L0 v0 v1 v5 v6=>([1,1,0,1,4],⟨22,[(0,wL (cI .i64) v0),(1,wI v1),(5,wI v5),(6,wI v6)],[]⟩,IR v0 v1 v5 v6)
def IT:=λa0 a1=>Z77.run (IS a0 a1)
def Z3i(a0)(a1){r}(h:IT a0 a1=some r):Fn PR 130 [wL (cI .i64) a0,wI a1] (wI r):=Z77.fn h
inductive qt where
 |L0 (v1:List Int) (v2:Int) (v3:Int) (E0:av) (v9:Int)
def IU(v1:List Int)(v2:Int)(v3:Int)(E0:av)(v9:Int):LT qt Bool:=
.len (cI .i64) v1<|.br (decide (v9<(v1.length:Int))) (.idx (cI .i64) v1 v9 λx3=>.call (IQ E0 x3) λx5=>.lb 1010<|.cs (!x5.2) (.k5 1<|.b8 true<|.b5 true<|.kn [0]<|.rt false)<|.k5 1<|.cs (x5.1.Zone != v2) (.k5 2<|.b8 true<|.kn [0]<|.rt false)<|.k3 2<|.cs (decide (v3>=0)) (.k4 3<|.kg 2<|.kg 3<|.kg 2<|.cs (x5.1.Owner != v3) (.k8 4<|.kn [0]<|.rt false)<|.k4 4<|.ag (cI .i64) x3 0<|.k2 4<|.call (Z3i v1 x3) λx11=>.k2 4<|.br (x11 != 1) (.rt false)<|.g0 (.L0 v1 v2 v3 E0 (IntKind.wrap .i64 (v9+1))))<|.k4 3<|.kg 2<|.kg 3<|.kg 2<|.b4 false<|.ag (cI .i64) x3 0<|.b2 false<|.call (Z3i v1 x3) λx16=>.b2 false<|.br (x16 != 1) (.rt false)<|.g0 (.L0 v1 v2 v3 E0 (IntKind.wrap .i64 (v9+1))))<|.rt true
def IV(a0:av)(a1:List Int)(a2:Int)(a3:Int):LT qt Bool:=
.lb 1004<|.go (.L0 a1 a2 a3 a0 0) [.relab 1004 3000]
def zm:LF qt Bool :=.m0 82 [.t 8] wB λ|.L0 v1 v2 v3 E0 v9=>([1,0,1,4],⟨54,[(1,wL (cI .i64) v1),(2,wI v2),(3,wI v3),(4,.bptr 3000 0),(9,wI v9)],[(3000,.box (bx (Z6 E0)))]⟩,IU v1 v2 v3 E0 v9)
def IW:=λa0 a1 a2 a3=>zm.run (IV a0 a1 a2 a3)
def qu(a0)(a1)(a2)(a3){r}(h:IW a0 a1 a2 a3=some r):Fn PR 82 [wA (Z6 a0),wL (cI .i64) a1,wI a2,wI a3] (wB r):=zm.fn h
inductive qv where
 |L0 (E0:av) (v3:Int)
def Z93(E0:av)(v3:Int):LT qv Bool:=
.len cZ E0.Players<|.br (decide (v3<(E0.Players.length:Int))) (.idx cZ E0.Players v3 λx3=>.lb 1004<|.call (gH x3.Life (-1000000) 1000000) λx5=>.cs (!x5) (.k5 1<|.b8 true<|.b2 true<|.kn [0]<|.rt false)<|.k3 1<|.call (gH x3.Venom 0 1000000) λx8=>.k2 1<|.cs (!x8) (.k5 2<|.b5 true<|.kn [0]<|.rt false)<|.k3 2<|.call (gH x3.Lands 0 1000000) λx11=>.k2 2<|.cs (!x11) (.k5 3<|.kn [0]<|.rt false)<|.k3 3<|.call (ZdE x3.Pool) λx14=>.k2 3<|.br (!x14) (.rt false)<|.call (qu E0 x3.Library 2 v3) λx17=>.cs (!x17) (.k5 5<|.k2 5<|.b5 true<|.b2 true<|.kn [0]<|.rt false)<|.k5 5<|.call (qu E0 x3.Hand 1 v3) λx20=>.k2 5<|.cs (!x20) (.k5 6<|.k2 6<|.kn [0]<|.rt false)<|.k5 6<|.call (qu E0 x3.Graveyard 3 v3) λx23=>.k2 6<|.br (!x23) (.rt false)<|.g0 (.L0 E0 (IntKind.wrap .i64 (v3+1))))<|.call (qu E0 E0.Battlefield 0 (-1)) λx28=>.cs x28 (.k4 1<|.call (qu E0 E0.Exile 4 (-1)) λx31=>.kg 1<|.rt x31)<|.k5 1<|.rt false
def IX(a0:av):LT qv Bool:=
.lb 1001<|.len cZ a0.Players<|.call (gH (a0.Players.length:Int) 2 4) λx2=>.br (!x2) (.rt false)<|.go (.L0 a0 0) [.relab 1001 3000]
def Z0e:LF qv Bool :=.m0 47 [.t 2] wB λ|.L0 E0 v3=>([1,1,0,1,4],⟨76,[(1,.bptr 3000 0),(3,wI v3)],[(3000,.box (bx (Z6 E0)))]⟩,Z93 E0 v3)
def IY:=λa0=>Z0e.run (IX a0)
def ZdH(a0){r}(h:IY a0=some r):Fn PR 47 [wA (Z6 a0)] (wB r):=Z0e.fn h
def IZ(a0:av)(a1:Int):LT Empty Bool:=
.lb 1002<|.len cZ a0.Players<|.call (gH a1 0 (IntKind.wrap .i64 ((a0.Players.length:Int)-1))) λx4=>.rt x4
def I0:LF Empty Bool :=.z0 48 [.t 4] wB
def I1:=λa0 a1=>I0.run (IZ a0 a1)
def lR(a0)(a1){r}(h:I1 a0 a1=some r):Fn PR 48 [wA (Z6 a0),wI a1] (wB r):=I0.fn h
inductive Z3j where
 |L0 (E0:A3 Int) (v3:Int)
def I2(E0:A3 Int)(v3:Int):LT Z3j Bool:=
.br (decide (v3<3)) (.idA (aa.int .i64) (A3.list E0) v3 (bx ((cA3 (cI .i64)) E0)) 0 3 λx2=>.ldC (aa.int .i64) 10 x2 0<|.cs (decide (x2<0)) (.k5 1<|.kn [0]<|.rt false)<|.k2 1<|.idA (aa.int .i64) (A3.list E0) v3 (bx ((cA3 (cI .i64)) E0)) 0 3 λx5=>.kg 1<|.ldC (aa.int .i64) 15 x5 1<|.k2 1<|.br (decide (x5>1000000)) (.rt false)<|.g0 (.L0 E0 (IntKind.wrap .i64 (v3+1))))<|.rt true
def I3(a0:A3 Int):LT Z3j Bool:=
.lb 1001<|.go (.L0 a0 0) [.relab 1001 3000]
def zn:LF Z3j Bool :=.m0 131 [.t 2] wB λ|.L0 E0 v3=>([1,0,1,4],⟨18,[(1,.bptr 3000 0),(3,wI v3)],[(3000,.box (bx ((cA3 (cI .i64)) E0)))]⟩,I2 E0 v3)
def I4:=λa0=>zn.run (I3 a0)
def ZdI(a0){r}(h:I4 a0=some r):Fn PR 131 [wA ((cA3 (cI .i64)) a0)] (wB r):=zn.fn h
def I5(a0:aj):LT Empty aj:=
.lb 1001<|.lb 1002<|.rt (⟨a0.Id,a0.Card,a0.Owner,a0.Control,a0.Zone,a0.Token,a0.Tapped,a0.Sick,a0.Deadly,a0.Damage,a0.Counters,a0.Stamp,a0.Copy,-1,false,0,a0.Shield⟩:aj)
def I6:LF Empty aj :=.z0 132 [.c 2 56 true 19] (λr=>(wA (aH r)))
def I7:=λa0=>I6.run (I5 a0)
def ZdJ(a0){r}(h:I7 a0=some r):Fn PR 132 [wA (aH a0)] (wA (aH r)):=I6.fn h
def I8(a0:aj):LT Empty aj:=
.lb 1001<|.lb 1002<|.rt (⟨a0.Id,a0.Card,a0.Owner,a0.Control,a0.Zone,a0.Token,a0.Tapped,a0.Sick,false,0,a0.Counters,a0.Stamp,a0.Copy,a0.Attack,a0.Blocked,a0.Blocks,0⟩:aj)
def I9:LF Empty aj :=.z0 133 [.c 2 56 true 19] (λr=>(wA (aH r)))
def Ja:=λa0=>I9.run (I8 a0)
def ZdK(a0){r}(h:Ja a0=some r):Fn PR 133 [wA (aH a0)] (wA (aH r)):=I9.fn h
def Jb(a0:aj)(a1:Int)(a2:Int):LT Empty Bool:=
.lb 1003<|.cs (decide (a0.Id<1)) (.k4 0<|.b16 true<|.b8 true<|.b5 true<|.b2 true<|.kn [0]<|.rt false)<|.k4 0<|.cs (decide (a0.Card<0)) (.k5 1<|.b16 true<|.b8 true<|.b2 true<|.kn [0]<|.rt false)<|.k5 1<|.cs (decide (a0.Card>=a1)) (.k4 2<|.b16 true<|.b5 true<|.kb true<|.kn [0]<|.rt false)<|.k4 2<|.cs (decide (a0.Owner<0)) (.k5 3<|.b16 true<|.kb true<|.kn [0]<|.rt false)<|.k5 3<|.cs (decide (a0.Owner>=a2)) (.k4 4<|.b8 true<|.b5 true<|.kn [0]<|.rt false)<|.k4 4<|.cs (decide (a0.Control<0)) (.k5 5<|.b8 true<|.kn [0]<|.rt false)<|.k5 5<|.cs (decide (a0.Control>=a2)) (.k4 6<|.b4 true<|.kn [0]<|.rt false)<|.k4 6<|.cs (decide (a0.Zone<0)) (.k4 7<|.kn [0]<|.rt false)<|.k4 7<|.br (decide (a0.Zone>5)) (.rt false)<|.cs (decide (a0.Damage<0)) (.k4 9<|.b16 true<|.b8 true<|.kn [0]<|.rt false)<|.k4 9<|.cs (decide (a0.Damage>1000000)) (.k4 10<|.b16 true<|.b4 true<|.kn [0]<|.rt false)<|.k4 10<|.cs (decide (a0.Stamp<0)) (.k4 11<|.b16 true<|.kn [0]<|.rt false)<|.k4 11<|.cs (decide (a0.Stamp>1000000)) (.k4 12<|.b8 true<|.b4 true<|.kn [0]<|.rt false)<|.k4 12<|.cs (decide (a0.Blocks<0)) (.k4 13<|.b8 true<|.kn [0]<|.rt false)<|.k4 13<|.cs (decide (a0.Blocks>1000000)) (.k4 14<|.b4 true<|.kn [0]<|.rt false)<|.k4 14<|.cs (decide (a0.Shield<0)) (.k4 15<|.kn [0]<|.rt false)<|.k4 15<|.br (decide (a0.Shield>1000000)) (.rt false)<|.call (ZdI a0.Counters) λx18=>.cs (!x18) (.k4 17<|.b8 true<|.b5 true<|.kb true<|.kn [0]<|.rt false)<|.k4 17<|.cs (decide (a0.Copy<(-1))) (.k5 18<|.b8 true<|.kb true<|.kn [0]<|.rt false)<|.k5 18<|.cs (decide (a0.Copy>=a1)) (.k4 19<|.b5 true<|.kn [0]<|.rt false)<|.k4 19<|.cs (decide (a0.Attack<(-1))) (.k5 20<|.kn [0]<|.rt false)<|.k5 20<|.br (decide (a0.Attack>=a2)) (.rt false)<|.cs (a0.Zone==0) (.k8 22<|.k5 22<|.rt true)<|.k3 22<|.call (ZdJ a0) λx26=>.k2 22<|.cs (Z9 (aH a0) (aH x26)) (.k3 23<|.call (ZdK a0) λx29=>.kg 23<|.kg 22<|.kg 23<|.kg 22<|.cs (Z9 (aH a0) (aH x29)) (.k3 24<|.kg 22<|.kg 24<|.kg 22<|.cs (!a0.Tapped) (.k3 25<|.kg 22<|.kg 25<|.kg 22<|.cs (!a0.Sick) (.k4 26<|.kg 22<|.kg 26<|.kg 22<|.rt (Z9 ((cA3 (cI .i64)) a0.Counters) ((cA3 (cI .i64)) (⟨0,0,0⟩:A3 Int))))<|.k4 26<|.kg 22<|.kg 26<|.kg 22<|.rt false)<|.k3 25<|.kg 22<|.kg 25<|.kg 22<|.b4 false<|.kg 22<|.kb false<|.kg 22<|.rt false)<|.k3 24<|.kg 22<|.kg 24<|.kg 22<|.b3 false<|.kg 22<|.kb false<|.kg 22<|.b4 false<|.kg 22<|.kb false<|.kg 22<|.rt false)<|.k4 23<|.kg 22<|.kg 23<|.kg 22<|.b3 false<|.kg 22<|.kb false<|.kg 22<|.b3 false<|.kg 22<|.kb false<|.kg 22<|.b4 false<|.kg 22<|.kb false<|.kg 22<|.rt false
def Jc:LF Empty Bool :=.z0 83 [.t 6] wB
def Jd:=λa0 a1 a2=>Jc.run (Jb a0 a1 a2)
def ZdL(a0)(a1)(a2){r}(h:Jd a0 a1 a2=some r):Fn PR 83 [wA (aH a0),wI a1,wI a2] (wB r):=Jc.fn h
inductive qx where
 |L0 (v1:Int) (E0:av) (v5:Int) (v6:Int)
def Je(v1:Int)(E0:av)(v5:Int)(v6:Int):LT qx Int:=
.len cV E0.Stack<|.br (decide (v6<(E0.Stack.length:Int))) (.idx cV E0.Stack v6 λx3=>.cs (x3.Kind==1) (.k4 1<|.ag cV x3 0<|.k5 1<|.br (x3.Id==v1) (.g0 (.L0 v1 E0 (IntKind.wrap .i64 (v5+1)) (IntKind.wrap .i64 (v6+1))))<|.g0 (.L0 v1 E0 v5 (IntKind.wrap .i64 (v6+1))))<|.k8 1<|.kg 1<|.kn [0]<|.g0 (.L0 v1 E0 v5 (IntKind.wrap .i64 (v6+1))))<|.rt v5
def Jf(a0:av)(a1:Int):LT qx Int:=
.lb 1002<|.go (.L0 a1 a0 0 0) [.relab 1002 3000]
def Z3k:LF qx Int :=.m0 134 [.t 4] wI λ|.L0 v1 E0 v5 v6=>([1,1,0,1,4],⟨34,[(1,wI v1),(2,.bptr 3000 0),(5,wI v5),(6,wI v6)],[(3000,.box (bx (Z6 E0)))]⟩,Je v1 E0 v5 v6)
def Jg:=λa0 a1=>Z3k.run (Jf a0 a1)
def ZdM(a0)(a1){r}(h:Jg a0 a1=some r):Fn PR 134 [wA (Z6 a0),wI a1] (wI r):=Z3k.fn h
def Jh(a0:List Int):LT Empty (List Int):=
.lb 1003<|.apR (cI .i64) 8 ([]:List Int) a0 λx1=>.ret x1 [.relab 1003 5000]
def Ji:LF Empty (List Int) :=.z 182 [.t 2] true (λr=>[(5000,wR (cI .i64) 1 r)]) (λr=>(wO (cI .i64) 5000 r))
def Jj:=λa0=>Ji.run (Jh a0)
def qy(a0){r}(h:Jj a0=some r):FnG PR 182 [] [wL (cI .i64) a0] [(5000,wR (cI .i64) 1 r)] (wO (cI .i64) 5000 r):=Ji.fn h
def Jk(a0:av)(a1:Int)(a2:Int):LT Empty (List Int):=
.lb 1003<|.br (a1==0) (.callF (qy a0.Battlefield) 130000 λx2=>.ret x2 [.relab 135000 5000])<|.br (a1==4) (.callF (qy a0.Exile) 180000 λx5=>.ret x5 [.relab 185000 5000])<|.cs (decide (a2<0)) (.k5 2<|.kg 2<|.kn [0]<|.ret ([]:List Int) [.own 6 5000 1])<|.k4 2<|.len cZ a0.Players<|.k2 2<|.br (decide (a2>=(a0.Players.length:Int))) (.ret ([]:List Int) [.own 6 5000 1])<|.br (a1==1) (.idx cZ a0.Players a2 λx11=>.callF (qy x11.Hand) 370000 λx13=>.ret x13 [.relab 375000 5000])<|.br (a1==2) (.idx cZ a0.Players a2 λx16=>.callF (qy x16.Library) 460000 λx18=>.ret x18 [.relab 465000 5000])<|.br (a1==3) (.idx cZ a0.Players a2 λx21=>.callF (qy x21.Graveyard) 550000 λx23=>.ret x23 [.relab 555000 5000])<|.ret ([]:List Int) [.own 6 5000 1]
def Jl:LF Empty (List Int) :=.z 135 [.t 6] true (λr=>[(5000,wR (cI .i64) 1 r)]) (λr=>(wO (cI .i64) 5000 r))
def zo:=λa0 a1 a2=>Jl.run (Jk a0 a1 a2)
def ZdN(a0)(a1)(a2){r}(h:zo a0 a1 a2=some r):FnG PR 135 [] [wA (Z6 a0),wI a1,wI a2] [(5000,wR (cI .i64) 1 r)] (wO (cI .i64) 5000 r):=Jl.fn h
def ZdO(a0:av)(a1:Int)(a2:Int){r:List Int}(h:zo a0 a1 a2=some r):Fn PR 135 [wA (Z6 a0),wI a1,wI a2] (wL (cI .i64) r):=FnG.frozen (C:=LT.RL (cI .i64) r/\True) (ZdN a0 a1 a2 h) ⟨rfl,ae⟩ bD
def Jm(a0:av)(a1:aj):LT Empty Bool:=
.lb 1002<|.lb 1003<|.br (a1.Zone==5) (.call (ZdM a0 a1.Id) λx2=>.rt (x2==1))<|.call (ZdO a0 a1.Zone a1.Owner) λx4=>.call (Z3i x4 a1.Id) λx6=>.rt (x6==1)
def Jn:LF Empty Bool :=.z0 84 [.t 4] wB
def Jo:=λa0 a1=>Jn.run (Jm a0 a1)
def Jp(a0)(a1){r}(h:Jo a0 a1=some r):Fn PR 84 [wA (Z6 a0),wA (aH a1)] (wB r):=Jn.fn h
inductive qz where
 |L0 (v0:List aq) (E0:av) (v5:Int)
def Z94(v0:List aq)(E0:av)(v5:Int):LT qz Bool:=
.len aH E0.Objects<|.br (decide (v5<(E0.Objects.length:Int))) (.idx aH E0.Objects v5 λx3=>.lb 1006<|.len Z0 v0<|.len cZ E0.Players<|.call (ZdL x3 (v0.length:Int) (E0.Players.length:Int)) λx7=>.cs (!x7) (.k5 1<|.kg 1<|.b8 true<|.b3 true<|.kn [0]<|.rt false)<|.k5 1<|.kg 1<|.cs (decide (x3.Id>=E0.NextId)) (.k5 2<|.kg 2<|.b5 true<|.kn [0]<|.rt false)<|.k5 2<|.kg 2<|.cs (decide (x3.Stamp>=E0.NextStamp)) (.k5 3<|.kn [0]<|.rt false)<|.k3 3<|.cs (decide (v5>0)) (.k5 4<|.idx aH E0.Objects (IntKind.wrap .i64 (v5-1)) λx15=>.k5 4<|.kg 3<|.kg 4<|.kg 3<|.br (decide (x15.Id>=x3.Id)) (.rt false)<|.call (Jp E0 x3) λx18=>.br (!x18) (.rt false)<|.g0 (.L0 v0 E0 (IntKind.wrap .i64 (v5+1))))<|.k8 4<|.k2 4<|.kg 3<|.kg 4<|.kg 3<|.kn [0]<|.call (Jp E0 x3) λx23=>.br (!x23) (.rt false)<|.g0 (.L0 v0 E0 (IntKind.wrap .i64 (v5+1))))<|.rt true
def Jq(a0:List aq)(a1:av):LT qz Bool:=
.lb 1003<|.len aH a1.Objects<|.br (decide ((a1.Objects.length:Int)>2048)) (.rt false)<|.go (.L0 a0 a1 0) [.relab 1003 3000]
def Z0f:LF qz Bool :=.m0 49 [.t 4] wB λ|.L0 v0 E0 v5=>([1,1,0,1,4],⟨65,[(0,wL Z0 v0),(3,.bptr 3000 0),(5,wI v5)],[(3000,.box (bx (Z6 E0)))]⟩,Z94 v0 E0 v5)
def Jr:=λa0 a1=>Z0f.run (Jq a0 a1)
def uH(a0)(a1){r}(h:Jr a0 a1=some r):Fn PR 49 [wL Z0 a0,wA (Z6 a1)] (wB r):=Z0f.fn h
inductive qA where
 |L0 (v0:List af) (v1:List af) (v5:Int)
def Z56(v0:List af)(v1:List af)(v5:Int):LT qA Bool:=
.len ax v0<|.br (decide (v5<(v0.length:Int))) (.idx ax v0 v5 λx3=>.idx ax v1 v5 λx5=>.br (!(Z9 (ax x3) (ax x5))) (.rt false)<|.g0 (.L0 v0 v1 (IntKind.wrap .i64 (v5+1))))<|.rt true
def Z95(a0:List af)(a1:List af):LT qA Bool:=
.len ax a0<|.len ax a1<|.br ((a0.length:Int) != (a1.length:Int)) (.rt false)<|.g0 (.L0 a0 a1 0)
def zp:LF qA Bool :=.m0 183 [.t 4] wB λ|.L0 v0 v1 v5=>([1,1,0,1,4],⟨26,[(0,wL ax v0),(1,wL ax v1),(5,wI v5)],[]⟩,Z56 v0 v1 v5)
def Js:=λa0 a1=>zp.run (Z95 a0 a1)
def Z57(a0)(a1){r}(h:Js a0 a1=some r):Fn PR 183 [wL ax a0,wL ax a1] (wB r):=zp.fn h
def Jt(a0:aX)(a1:aX):LT Empty Bool:=
.lb 1002<|.lb 1003<|.cs (a0.Op==a1.Op) (.k5 0<|.kg 0<|.cs (Z9 (fp a0.Ref) (fp a1.Ref)) (.k5 1<|.kg 1<|.cs (Z9 (de a0.Amount) (de a1.Amount)) (.k5 2<|.kg 2<|.cs (a0.Counter==a1.Counter) (.k5 3<|.kg 3<|.cs (a0.Zone==a1.Zone) (.k5 4<|.kg 4<|.cs (a0.Card==a1.Card) (.k5 5<|.kg 5<|.cs (Z9 (aU a0.Filter) (aU a1.Filter)) (.k5 6<|.kg 6<|.cs (Z9 ((cA6 (cI .i64)) a0.Pool) ((cA6 (cI .i64)) a1.Pool)) (.k5 7<|.call (Z57 a0.Mods a1.Mods) λx9=>.kg 7<|.rt x9)<|.k5 7<|.kg 7<|.rt false)<|.k5 6<|.kg 6<|.b5 false<|.kb false<|.rt false)<|.k5 5<|.kg 5<|.b8 false<|.b4 false<|.rt false)<|.k5 4<|.kg 4<|.b16 false<|.b2 false<|.rt false)<|.k5 3<|.kg 3<|.b16 false<|.b8 false<|.rt false)<|.k5 2<|.kg 2<|.b16 false<|.b8 false<|.b5 false<|.kb false<|.rt false)<|.k5 1<|.kg 1<|.b16 false<|.b16 false<|.b4 false<|.rt false)<|.k5 0<|.kg 0<|.b16 false<|.b16 false<|.b8 false<|.b2 false<|.rt false
def Ju:LF Empty Bool :=.z0 230 [.t 4] wB
def Jv:=λa0 a1=>Ju.run (Jt a0 a1)
def ZdP(a0)(a1){r}(h:Jv a0 a1=some r):Fn PR 230 [wA (bc a0),wA (bc a1)] (wB r):=Ju.fn h
inductive qB where
 |L0 (v0:List aX) (v1:List aX) (v5:Int)
def Z58(v0:List aX)(v1:List aX)(v5:Int):LT qB Bool:=
.len bc v0<|.br (decide (v5<(v0.length:Int))) (.idx bc v0 v5 λx3=>.idx bc v1 v5 λx5=>.call (ZdP x3 x5) λx7=>.br (!x7) (.rt false)<|.g0 (.L0 v0 v1 (IntKind.wrap .i64 (v5+1))))<|.rt true
def Z96(a0:List aX)(a1:List aX):LT qB Bool:=
.len bc a0<|.len bc a1<|.br ((a0.length:Int) != (a1.length:Int)) (.rt false)<|.g0 (.L0 a0 a1 0)
def zq:LF qB Bool :=.m0 184 [.t 4] wB λ|.L0 v0 v1 v5=>([1,1,0,1,4],⟨27,[(0,wL bc v0),(1,wL bc v1),(5,wI v5)],[]⟩,Z58 v0 v1 v5)
def Jw:=λa0 a1=>zq.run (Z96 a0 a1)
def ZdQ(a0)(a1){r}(h:Jw a0 a1=some r):Fn PR 184 [wL bc a0,wL bc a1] (wB r):=zq.fn h
inductive qC where
 |L0 (E0:an) (E1:an) (v5:Int)
def Jx(E0:an)(E1:an)(v5:Int):LT qC Bool:=
.len bK E0.Specs<|.br (decide (v5<(E0.Specs.length:Int))) (.idx bK E0.Specs v5 λx3=>.idx bK E1.Specs v5 λx5=>.br (!(Z9 (bK x3) (bK x5))) (.rt false)<|.g0 (.L0 E0 E1 (IntKind.wrap .i64 (v5+1))))<|.cs (E0.Kind==E1.Kind) (.k5 1<|.kg 1<|.cs (Z9 (aU E0.Filter) (aU E1.Filter)) (.k5 2<|.call (Z57 E0.Mods E1.Mods) λx12=>.kg 2<|.cs x12 (.k5 3<|.kg 3<|.cs (Z9 (gG E0.Price) (gG E1.Price)) (.k5 4<|.kg 4<|.cs (E0.Slow==E1.Slow) (.k5 5<|.kg 5<|.cs (Z9 (gj E0.Trigger) (gj E1.Trigger)) (.k5 6<|.kg 6<|.cs (E0.May==E1.May) (.k5 7<|.call (ZdQ E0.Effects E1.Effects) λx19=>.kg 7<|.cs x19 (.k5 8<|.kg 8<|.rt (Z9 (fa E0.Replace) (fa E1.Replace)))<|.k5 8<|.kg 8<|.rt false)<|.k5 7<|.kg 7<|.b5 false<|.kb false<|.rt false)<|.k5 6<|.kg 6<|.b8 false<|.b4 false<|.rt false)<|.k5 5<|.kg 5<|.b16 false<|.b2 false<|.rt false)<|.k5 4<|.kg 4<|.b16 false<|.b8 false<|.rt false)<|.k5 3<|.kg 3<|.b16 false<|.b8 false<|.b5 false<|.kb false<|.rt false)<|.k5 2<|.kg 2<|.b16 false<|.b16 false<|.b4 false<|.rt false)<|.k5 1<|.kg 1<|.b16 false<|.b16 false<|.b8 false<|.b2 false<|.rt false
def Jy(a0:an)(a1:an):LT qC Bool:=
.lb 1002<|.lb 1003<|.len bK a0.Specs<|.len bK a1.Specs<|.br ((a0.Specs.length:Int) != (a1.Specs.length:Int)) (.rt false)<|.go (.L0 a0 a1 0) [.relab 1002 3000,.relab 1003 3001]
def zr:LF qC Bool :=.m0 136 [.t 4] wB λ|.L0 E0 E1 v5=>([1,1,0,1,4],⟨92,[(2,.bptr 3000 0),(3,.bptr 3001 0),(5,wI v5)],[(3000,.box (bx (aC E0))),(3001,.box (bx (aC E1)))]⟩,Jx E0 E1 v5)
def Jz:=λa0 a1=>zr.run (Jy a0 a1)
def ZdR(a0)(a1){r}(h:Jz a0 a1=some r):Fn PR 136 [wA (aC a0),wA (aC a1)] (wB r):=zr.fn h
def JA(a0:av)(a1:gI):LT Empty Bool:=
.lb 1002<|.lb 1003<|.call (gH a1.Id 1 (IntKind.wrap .i64 (a0.NextId-1))) λx3=>.cs (!x3) (.k5 0<|.b8 true<|.b3 true<|.kn [0]<|.rt false)<|.k3 0<|.call (gH a1.X 0 1000000) λx6=>.k2 0<|.cs (!x6) (.k5 1<|.b5 true<|.kb true<|.kn [0]<|.rt false)<|.k3 1<|.len qD a1.Targets<|.k2 1<|.cs (decide ((a1.Targets.length:Int)>4)) (.k5 2<|.kg 2<|.kn [0]<|.rt false)<|.k4 2<|.call (lR a0 a1.Control) λx11=>.k2 2<|.br (!x11) (.rt false)<|.call (IQ a0 a1.Id) λx14=>.lb 1005<|.br (a1.Kind==1) (.call (ZdR a1.Ability (⟨0,(⟨0,0,0,0,0,0,0,([]:By),0,0,(⟨0,0⟩:ah),(⟨0,0⟩:ah),(⟨0,0⟩:ah)⟩:al),([]:List af),(⟨(⟨0,0,(⟨0,0,0,0,0⟩:A5 Int)⟩:aJ),false,false,0⟩:iE),false,(⟨0,0,(⟨0,0,0,0,0,0,0,([]:By),0,0,(⟨0,0⟩:ah),(⟨0,0⟩:ah),(⟨0,0⟩:ah)⟩:al)⟩:fH),false,([]:List cj),([]:List aX),(⟨0,0,(⟨0,0,0,0,0,0,0,([]:By),0,0,(⟨0,0⟩:ah),(⟨0,0⟩:ah),(⟨0,0⟩:ah)⟩:al),0,0,0,0⟩:dq)⟩:an)) λx17=>.cs (a1.Source==a1.Id) (.k2 5<|.cs x14.2 (.k4 6<|.cs (x14.1.Zone==5) (.k2 7<|.cs x17 (.k3 8<|.kg 7<|.kg 8<|.kg 7<|.rt true)<|.k3 8<|.call (Z55 a1.Ability) λx23=>.kg 7<|.kg 8<|.kg 7<|.rt x23)<|.k4 7<|.rt false)<|.k4 6<|.b4 false<|.rt false)<|.k2 5<|.b8 false<|.rt false)<|.cs (a1.Kind==2) (.k3 5<|.cs (!x14.2) (.k3 6<|.call (Z55 a1.Ability) λx27=>.kg 6<|.rt x27)<|.k4 6<|.rt false)<|.k3 5<|.b4 false<|.rt false
def JB:LF Empty Bool :=.z0 85 [.t 4] wB
def JC:=λa0 a1=>JB.run (JA a0 a1)
def ZdS(a0)(a1){r}(h:JC a0 a1=some r):Fn PR 85 [wA (Z6 a0),wA (cV a1)] (wB r):=JB.fn h
inductive Z3l where
 |L0 (v0:List Int) (v3:Int)
def JD(v0:List Int)(v3:Int):LT Z3l Bool:=
.len (cI .i64) v0<|.br (decide (v3<(v0.length:Int))) (.idx (cI .i64) v0 (IntKind.wrap .i64 (v3-1)) λx5=>.idx (cI .i64) v0 v3 λx7=>.br (decide (x5>=x7)) (.rt false)<|.g0 (.L0 v0 (IntKind.wrap .i64 (v3+1))))<|.rt true
def JE(a0:List Int):LT Z3l Bool:=
.g0 (.L0 a0 1)
def zt:LF Z3l Bool :=.m0 86 [.t 2] wB λ|.L0 v0 v3=>([1,0,1,4],⟨20,[(0,wL (cI .i64) v0),(3,wI v3)],[]⟩,JD v0 v3)
def JF:=λa0=>zt.run (JE a0)
def ZdT(a0){r}(h:JF a0=some r):Fn PR 86 [wL (cI .i64) a0] (wB r):=zt.fn h
inductive kL where
 |L0 (E0:av) (v3:Int)
 |L1 (E0:av) (v3:Int) (v4:Int)
 |L2 (E0:av) (v5:Int)
 |L3 (E0:av) (v7:Int)
def JG(E0:av)(v3:Int):LT kL Bool:=
.len cV E0.Stack<|.br (decide (v3<(E0.Stack.length:Int))) (.idx cV E0.Stack v3 λx3=>.call (ZdS E0 x3) λx5=>.br (!x5) (.rt false)<|.g0 (.L1 E0 v3 0))<|.g0 (.L2 E0 0)
def JH(E0:av)(v3:Int)(v4:Int):LT kL Bool:=
.br (decide (v4<v3)) (.idx cV E0.Stack v4 λx2=>.idx cV E0.Stack v3 λx4=>.br (x2.Id==x4.Id) (.rt false)<|.g0 (.L1 E0 v3 (IntKind.wrap .i64 (v4+1))))<|.g0 (.L0 E0 (IntKind.wrap .i64 (v3+1)))
def JI(E0:av)(v5:Int):LT kL Bool:=
.len dE E0.Waiting<|.br (decide (v5<(E0.Waiting.length:Int))) (.idx dE E0.Waiting v5 λx3=>.lb 1006<|.call (lR E0 x3.Control) λx5=>.cs (!x5) (.k5 1<|.b5 true<|.kn [0]<|.rt false)<|.k5 1<|.cs (x3.Ability.Kind != 4) (.k5 2<|.kn [0]<|.rt false)<|.k3 2<|.call (Z55 x3.Ability) λx9=>.k2 2<|.br (!x9) (.rt false)<|.g0 (.L2 E0 (IntKind.wrap .i64 (v5+1))))<|.g0 (.L3 E0 0)
def JJ(E0:av)(v7:Int):LT kL Bool:=
.len c6 E0.Conts<|.br (decide (v7<(E0.Conts.length:Int))) (.idx c6 E0.Conts v7 λx3=>.lb 1008<|.call (lR E0 x3.Control) λx5=>.cs (!x5) (.k5 1<|.kg 1<|.b8 true<|.b5 true<|.b2 true<|.kn [0]<|.rt false)<|.k5 1<|.kg 1<|.cs (decide (x3.Stamp>=E0.NextStamp)) (.k5 2<|.b8 true<|.b2 true<|.kn [0]<|.rt false)<|.k3 2<|.call (gH x3.Until 1 2) λx9=>.k2 2<|.cs (!x9) (.k5 3<|.b5 true<|.kn [0]<|.rt false)<|.k3 3<|.call (ZdT x3.Objects) λx12=>.k2 3<|.cs (!x12) (.k5 4<|.kn [0]<|.rt false)<|.k3 4<|.call (zg x3.Mods) λx15=>.k2 4<|.br (x15==([]:By)) (.rt false)<|.g0 (.L3 E0 (IntKind.wrap .i64 (v7+1))))<|.rt true
def JK(a0:av):LT kL Bool:=
.lb 1001<|.len cV a0.Stack<|.cs (decide ((a0.Stack.length:Int)>64)) (.k5 0<|.b5 true<|.kn [0]<|.rt false)<|.k3 0<|.len dE a0.Waiting<|.k2 0<|.cs (decide ((a0.Waiting.length:Int)>64)) (.k5 1<|.kn [0]<|.rt false)<|.k3 1<|.len c6 a0.Conts<|.k2 1<|.br (decide ((a0.Conts.length:Int)>64)) (.rt false)<|.go (.L0 a0 0) [.relab 1001 3000]
def nL:LF kL Bool :=.m0 50 [.t 2] wB λ|.L0 E0 v3=>([1,1,0,1,4],⟨129,[(1,.bptr 3000 0),(3,wI v3)],[(3000,.box (bx (Z6 E0)))]⟩,JG E0 v3)|.L1 E0 v3 v4=>([1,1,0,1,4,5,1,0,4,1,1,4],⟨129,[(1,.bptr 3000 0),(3,wI v3),(4,wI v4)],[(3000,.box (bx (Z6 E0)))]⟩,JH E0 v3 v4)|.L2 E0 v5=>([1,1,1,0,1,4],⟨129,[(1,.bptr 3000 0),(5,wI v5)],[(3000,.box (bx (Z6 E0)))]⟩,JI E0 v5)|.L3 E0 v7=>([1,1,1,1,0,1,4],⟨129,[(1,.bptr 3000 0),(7,wI v7)],[(3000,.box (bx (Z6 E0)))]⟩,JJ E0 v7)
def JL:=λa0=>nL.run (JK a0)
def uI(a0){r}(h:JL a0=some r):Fn PR 50 [wA (Z6 a0)] (wB r):=nL.fn h
inductive Z3m where
 |L0 (v0:List aq) (E0:av) (v5:Int)
def JM(v0:List aq)(E0:av)(v5:Int):LT Z3m Bool:=
.len (cI .i64) E0.Extra<|.br (decide (v5<(E0.Extra.length:Int))) (.idx (cI .i64) E0.Extra v5 λx3=>.call (lR E0 x3) λx5=>.br (!x5) (.rt false)<|.g0 (.L0 v0 E0 (IntKind.wrap .i64 (v5+1))))<|.cs (E0.Over==1) (.k4 1<|.call (lR E0 E0.Winner) λx11=>.k2 1<|.cs (!x11) (.k5 2<|.kg 2<|.kn [0]<|.rt false)<|.k4 2<|.cs (E0.Over != 1) (.k3 3<|.kg 2<|.kg 3<|.kg 2<|.br (E0.Winner != (-1)) (.rt false)<|.call (uH v0 E0) λx16=>.cs x16 (.k2 5<|.call (uI E0) λx19=>.kg 5<|.rt x19)<|.k3 5<|.rt false)<|.k3 3<|.kg 2<|.kg 3<|.kg 2<|.kn [0]<|.call (uH v0 E0) λx21=>.cs x21 (.k2 4<|.call (uI E0) λx24=>.kg 4<|.rt x24)<|.k3 4<|.rt false)<|.k5 1<|.kg 1<|.b4 false<|.cs (E0.Over != 1) (.k3 2<|.kb false<|.kg 2<|.kb false<|.br (E0.Winner != (-1)) (.rt false)<|.call (uH v0 E0) λx28=>.cs x28 (.k2 4<|.call (uI E0) λx31=>.kg 4<|.rt x31)<|.k3 4<|.rt false)<|.k3 2<|.kb false<|.kg 2<|.kb false<|.kn [0]<|.call (uH v0 E0) λx33=>.cs x33 (.k2 3<|.call (uI E0) λx36=>.kg 3<|.rt x36)<|.k3 3<|.rt false
def JN(a0:List aq)(a1:av):LT Z3m Bool:=
.lb 1003<|.call (gH a1.NextId 1 1000000) λx1=>.cs (!x1) (.k5 0<|.b8 true<|.b5 true<|.b2 true<|.kn [0]<|.rt false)<|.k3 0<|.call (gH a1.NextStamp 1 1000000) λx4=>.k2 0<|.cs (!x4) (.k5 1<|.b8 true<|.b2 true<|.kn [0]<|.rt false)<|.k3 1<|.call (gH a1.Turn 0 500) λx7=>.k2 1<|.cs (!x7) (.k5 2<|.b5 true<|.kn [0]<|.rt false)<|.k3 2<|.call (gH a1.Step 0 10) λx10=>.k2 2<|.cs (!x10) (.k5 3<|.kn [0]<|.rt false)<|.k3 3<|.len aH a1.Objects<|.k2 3<|.br (decide ((a1.Objects.length:Int)>2048)) (.rt false)<|.call (ZdH a1) λx15=>.cs (!x15) (.k5 5<|.kg 5<|.b16 true<|.b8 true<|.kn [0]<|.rt false)<|.k4 5<|.call (lR a1 a1.Active) λx18=>.k2 5<|.cs (!x18) (.k5 6<|.kg 6<|.b16 true<|.b2 true<|.kn [0]<|.rt false)<|.k4 6<|.call (lR a1 a1.Priority) λx21=>.k2 6<|.cs (!x21) (.k8 7<|.b8 true<|.b2 true<|.kn [0]<|.rt false)<|.k5 7<|.len cZ a1.Players<|.kg 7<|.call (gH a1.Passes 0 (a1.Players.length:Int)) λx25=>.k2 7<|.cs (!x25) (.k5 8<|.b5 true<|.kn [0]<|.rt false)<|.k3 8<|.len (cI .i64) a1.Extra<|.k2 8<|.cs (decide ((a1.Extra.length:Int)>500)) (.k5 9<|.kn [0]<|.rt false)<|.k3 9<|.call (gH a1.Over 0 2) λx30=>.k2 9<|.br (!x30) (.rt false)<|.go (.L0 a0 a1 0) [.relab 1003 3000]
def zu:LF Z3m Bool :=.m0 29 [.t 4] wB λ|.L0 v0 E0 v5=>([1,1,1,0,1,4],⟨114,[(0,wL Z0 v0),(3,.bptr 3000 0),(5,wI v5)],[(3000,.box (bx (Z6 E0)))]⟩,JM v0 E0 v5)
def JO:=λa0 a1=>zu.run (JN a0 a1)
def ZdU(a0)(a1){r}(h:JO a0 a1=some r):Fn PR 29 [wL Z0 a0,wA (Z6 a1)] (wB r):=zu.fn h
def JP(a0:List aq)(a1:av):LT Empty Bool:=
.lb 1003<|.call (ZdD a0) λx1=>.cs (x1.2==0) (.k3 0<|.call (ZdU a0 a1) λx4=>.kg 0<|.rt x4)<|.k4 0<|.rt false
def JQ:LF Empty Bool :=.z0 10 [.t 4] wB
def JR:=λa0 a1=>JQ.run (JP a0 a1)
def ZdV(a0)(a1){r}(h:JR a0 a1=some r):Fn PR 10 [wL Z0 a0,wA (Z6 a1)] (wB r):=JQ.fn h
inductive Z78 where
 |L0 (v0:List aj) (E0:av) (E1:av) (v4:Int)
def ZdW(v0:List aj)(E0:av)(E1:av)(v4:Int):LT Z78 av:=
.len aH v0<|.br (decide (v4<(v0.length:Int))) (.idx aH v0 v4 λx3=>.lb 1005<|.dr [.lit]<|.apR aH 128 E1.Objects [(⟨IntKind.wrap .i64 (v4+1),x3.Card,x3.Owner,x3.Control,x3.Zone,x3.Token,x3.Tapped,x3.Sick,x3.Deadly,x3.Damage,x3.Counters,IntKind.wrap .i64 (v4+1),-1,-1,x3.Blocked,x3.Blocks,x3.Shield⟩:aj)] λx7=>.dr [.lit]<|.apR (cI .i64) 8 E1.Battlefield [IntKind.wrap .i64 (v4+1)] λx10=>.g0 (.L0 v0 E0 (⟨E1.Players,x7,x10,E1.Exile,E1.Stack,E1.Waiting,E1.Conts,E1.Turn,E1.Active,E1.Step,E1.Begun,E1.Priority,E1.Passes,E1.NextId,E1.NextStamp,E1.Seed,E1.Extra,E1.Over,E1.Winner⟩:av) (IntKind.wrap .i64 (v4+1))))<|.ret E1 [.relab 40101 5001,.relab 40102 5002,.relab 40103 5003,.relab 40104 5004,.relab 40105 5005,.relab 40106 5006,.relab 40116 5016]
def ZdX(a0:List aj):LT Z78 av:=
.lb 1002<|.dr [.lit]<|.len aH a0<|.len aH a0<|.lb 1003<|.go (.L0 a0 (⟨([]:List hY),([]:List aj),([]:List Int),([]:List Int),([]:List gI),([]:List iG),([]:List du),0,0,0,false,0,0,0,0,0,([]:List Int),0,0⟩:av) (⟨[(⟨20,0,0,(⟨0,0,0,0,0,0⟩:A6 Int),false,false,([]:List Int),([]:List Int),([]:List Int)⟩:hY),(⟨20,0,0,(⟨0,0,0,0,0,0⟩:A6 Int),false,false,([]:List Int),([]:List Int),([]:List Int)⟩:hY)],([]:List aj),([]:List Int),([]:List Int),([]:List gI),([]:List iG),([]:List du),1,0,3,true,0,0,IntKind.wrap .i64 ((a0.length:Int)+1),IntKind.wrap .i64 ((a0.length:Int)+1),0,([]:List Int),0,-1⟩:av) 0) [.relab 1002 3000,.relab 1003 3001,.ownb 3000 0 40000 14,.ownb 3000 1 40001 19,.ownb 3000 2 40002 1,.ownb 3000 3 40003 1,.ownb 3000 4 40004 94,.ownb 3000 5 40005 89,.ownb 3000 6 40006 6,.ownb 3000 16 40016 1,.ownb 3001 1 40101 19,.ownb 3001 2 40102 1,.ownb 3001 3 40103 1,.ownb 3001 4 40104 94,.ownb 3001 5 40105 89,.ownb 3001 6 40106 6,.ownb 3001 16 40116 1]
def JS:LF Z78 av :=.m 30 [.c 2 31 true 19] true (λr=>(tm16 r 5000)) (λr=>(.agg (tm9 r 5000))) λ|.L0 v0 E0 E1 v4=>([1,1,0,1,4],⟨48,[(0,wL aH v0),(2,.bptr 3000 0),(3,.bptr 3001 0),(4,wI v4)],((3000,.box [wO cZ 40000 E0.Players,wO aH 40001 E0.Objects,wO (cI .i64) 40002 E0.Battlefield,wO (cI .i64) 40003 E0.Exile,wO cV 40004 E0.Stack,wO dE 40005 E0.Waiting,wO c6 40006 E0.Conts,wI E0.Turn,wI E0.Active,wI E0.Step,wB E0.Begun,wI E0.Priority,wI E0.Passes,wI E0.NextId,wI E0.NextStamp,.t (.int .u64 E0.Seed),wO (cI .i64) 40016 E0.Extra,wI E0.Over,wI E0.Winner])::(40000,wR cZ 14 E0.Players)::(40001,wR aH 19 E0.Objects)::(40002,wR (cI .i64) 1 E0.Battlefield)::(40003,wR (cI .i64) 1 E0.Exile)::(40004,wR cV 94 E0.Stack)::(40005,wR dE 89 E0.Waiting)::(40006,wR c6 6 E0.Conts)::(40016,wR (cI .i64) 1 E0.Extra)::(3001,.box (tm9 E1 40100))::(tm16 E1 40100))⟩,ZdW v0 E0 E1 v4)
def JT:=λa0=>JS.run (ZdX a0)
def ZdY(a0){r}(h:JT a0=some r):FnG PR 30 [] [wL aH a0] (tm16 r 5000) (.agg (tm9 r 5000)):=JS.fn h
def ZdZ(a0:List aj){r:av}(h:JT a0=some r):Fn PR 30 [wL aH a0] (wA (Z6 r)):=FnG.frozen (C:=LT.RL aH r.Objects/\LT.RL (cI .i64) r.Battlefield/\LT.RL (cI .i64) r.Exile/\LT.RL cV r.Stack/\LT.RL dE r.Waiting/\LT.RL c6 r.Conts/\LT.RL (cI .i64) r.Extra/\True) (ZdY a0 h) ⟨rfl,rfl,rfl,rfl,rfl,rfl,rfl,ae⟩ bD
inductive lS where
 |L0 (E0:aJ) (v6:A5 Int) (v7:Int)
def nM(E0:aJ)(v6:A5 Int)(v7:Int):LT lS Bool:=
.br (decide (v7<5)) (.idX (aa.int .i64) (A5.list v6) v7 λx2=>.cs (decide (x2<0)) (.k3 1<|.kn [0]<|.rt false)<|.k3 1<|.br (decide (x2>9)) (.rt false)<|.g0 (.L0 E0 v6 (IntKind.wrap .i64 (v7+1))))<|.cs (decide (E0.Generic>=0)) (.k4 1<|.cs (decide (E0.Generic<=99)) (.k4 2<|.cs (decide (E0.X>=0)) (.k4 3<|.rt (decide (E0.X<=2)))<|.k4 3<|.rt false)<|.k4 2<|.b4 false<|.rt false)<|.k4 1<|.b8 false<|.rt false
def zv(a0:aJ):LT lS Bool:=
.lb 1001<|.go (.L0 a0 a0.Color 0) [.relab 1001 3000]
def nN:LF lS Bool :=.m0 139 [.t 2] wB λ|.L0 E0 v6 v7=>([1,0,1,4],⟨35,[(1,.bptr 3000 0),(6,wA ((cA5 (cI .i64)) v6)),(7,wI v7)],[(3000,.box (bx (cc E0)))]⟩,nM E0 v6 v7)
def uJ:=λa0=>nN.run (zv a0)
def JU(a0){r}(h:uJ a0=some r):Fn PR 139 [wA (cc a0)] (wB r):=nN.fn h
inductive qE where
 |L0 (v3:Int) (v16:A5 Int) (v17:Int)
def Z97(v3:Int)(v16:A5 Int)(v17:Int):LT qE Int:=
.br (decide (v17<5)) (.idX (aa.int .i64) (A5.list v16) v17 λx2=>.br (decide (x2>0)) (.ok (¬v17<0)<|.g0 (.L0 (aR .or .i64 v3 (Z23 .i64 1 v17)) v16 (IntKind.wrap .i64 (v17+1))))<|.g0 (.L0 v3 v16 (IntKind.wrap .i64 (v17+1))))<|.rt v3
def JV(a0:aJ):LT qE Int:=
.lb 1001<|.call (JU a0) λx1=>.cs (!x1) (.k5 0<|.kn [0]<|.rt 0)<|.k5 0<|.br (Z9 ((cA5 (cI .i64)) a0.Color) ((cA5 (cI .i64)) (⟨0,0,0,0,0⟩:A5 Int))) (.rt 0)<|.g0 (.L0 0 a0.Color 0)
def Z0g:LF qE Int :=.m0 88 [.t 2] wI λ|.L0 v3 v16 v17=>([1,1,1,0,1,4],⟨29,[(3,wI v3),(16,wA ((cA5 (cI .i64)) v16)),(17,wI v17)],[]⟩,Z97 v3 v16 v17)
def JW:=λa0=>Z0g.run (JV a0)
def ZeA(a0){r}(h:JW a0=some r):Fn PR 88 [wA (cc a0)] (wI r):=Z0g.fn h
def zw(a0:Bys)(hne:a0≠[]):LT Empty (Bys):=
.ne cS hne<|.kn [0]<|.lb 1005<|.apR cS 16 ([]:Bys) a0 λx1=>.ret x1 [.relab 1005 5000]
def lT:LF Empty (Bys) :=.z 89 [.t 2] true (λr=>[(5000,wR cS 1 r)]) (λr=>(wO cS 5000 r))
def uK(c:Nat):LT Empty (Bys):=
.kn [0]<|.ret ([]:Bys) [.own 2 5000 1]
def ZeB(c:Nat)(ad:Addr):LT Empty (Bys):=
.kn [0]<|.lb 1005<|.apR cS 16 ([]:Bys) ([]:Bys) λx1=>.ret x1 [.relab 1005 5000]
open Classical in
def uL(a0:Bys):Option (Bys):=if h:a0≠[]then lT.run (zw a0 h)else lT.run (uK 0)
def zx(a0:Bys){r:Bys}(h:uL a0=some r):FnG PR 89 [] [wL cS a0] [(5000,wR cS 1 r)] (wO cS 5000 r):=by
 by_cases hne:a0=[]
 .subst hne;have h0:lT.run (uK 0)=some r:=h;exact FnG.split0 (λe=>absurd rfl e) (λ_ a c=>by
   cases a with
   |none=>exact lT.fn (t:=uK c) h0
   |some ad=>exact lT.fn (t:=ZeB c ad) h0)
 have h0:lT.run (zw a0 hne)=some r:=by unfold uL at h;rwa[iH hne]at h
 exact FnG.split0 (λ_=>lT.fn h0) (λe=>absurd (j2.1 e) hne)
def zy(a0:List af)(hne:a0≠[]):LT Empty (List af):=
.ne ax hne<|.kn [0]<|.lb 1005<|.apR ax 176 ([]:List af) a0 λx1=>.ret x1 [.relab 1005 5000]
def lU:LF Empty (List af) :=.z 32 [.t 2] true (λr=>[(5000,wR ax 20 r)]) (λr=>(wO ax 5000 r))
def uM(c:Nat):LT Empty (List af):=
.kn [0]<|.ret ([]:List af) [.own 2 5000 20]
def ZeC(c:Nat)(ad:Addr):LT Empty (List af):=
.kn [0]<|.lb 1005<|.apR ax 176 ([]:List af) ([]:List af) λx1=>.ret x1 [.relab 1005 5000]
open Classical in
def qF(a0:List af):Option (List af):=if h:a0≠[]then lU.run (zy a0 h)else lU.run (uM 0)
def JX(a0:List af){r:List af}(h:qF a0=some r):FnG PR 32 [] [wL ax a0] [(5000,wR ax 20 r)] (wO ax 5000 r):=by
 by_cases hne:a0=[]
 .subst hne;have h0:lU.run (uM 0)=some r:=h;exact FnG.split0 (λe=>absurd rfl e) (λ_ a c=>by
   cases a with
   |none=>exact lU.fn (t:=uM c) h0
   |some ad=>exact lU.fn (t:=ZeC c ad) h0)
 have h0:lU.run (zy a0 hne)=some r:=by unfold qF at h;rwa[iH hne]at h
 exact FnG.split0 (λ_=>lU.fn h0) (λe=>absurd (j2.1 e) hne)
def qG(a0:List af){r:List af}(h:qF a0=some r):Fn PR 32 [wL ax a0] (wL ax r):=FnG.frozen (C:=LT.RL ax r/\True) (JX a0 h) ⟨rfl,ae⟩ bD
def zz(a0:List cj)(hne:a0≠[]):LT Empty (List cj):=
.ne bK hne<|.kn [0]<|.lb 1005<|.apR bK 144 ([]:List cj) a0 λx1=>.ret x1 [.relab 1005 5000]
def lV:LF Empty (List cj) :=.z 140 [.t 2] true (λr=>[(5000,wR bK 18 r)]) (λr=>(wO bK 5000 r))
def uN(c:Nat):LT Empty (List cj):=
.kn [0]<|.ret ([]:List cj) [.own 2 5000 18]
def ZeD(c:Nat)(ad:Addr):LT Empty (List cj):=
.kn [0]<|.lb 1005<|.apR bK 144 ([]:List cj) ([]:List cj) λx1=>.ret x1 [.relab 1005 5000]
open Classical in
def qH(a0:List cj):Option (List cj):=if h:a0≠[]then lV.run (zz a0 h)else lV.run (uN 0)
def JY(a0:List cj){r:List cj}(h:qH a0=some r):FnG PR 140 [] [wL bK a0] [(5000,wR bK 18 r)] (wO bK 5000 r):=by
 by_cases hne:a0=[]
 .subst hne;have h0:lV.run (uN 0)=some r:=h;exact FnG.split0 (λe=>absurd rfl e) (λ_ a c=>by
   cases a with
   |none=>exact lV.fn (t:=uN c) h0
   |some ad=>exact lV.fn (t:=ZeD c ad) h0)
 have h0:lV.run (zz a0 hne)=some r:=by unfold qH at h;rwa[iH hne]at h
 exact FnG.split0 (λ_=>lV.fn h0) (λe=>absurd (j2.1 e) hne)
def ZeE(a0:List cj){r:List cj}(h:qH a0=some r):Fn PR 140 [wL bK a0] (wL bK r):=FnG.frozen (C:=LT.RL bK r/\True) (JY a0 h) ⟨rfl,ae⟩ bD
def zA(a0:List aX)(hne:a0≠[]):LT Empty (List aX):=
.ne bc hne<|.kn [0]<|.lb 1005<|.apR bc 560 ([]:List aX) a0 λx1=>.ret x1 [.relab 1005 5000]
def lW:LF Empty (List aX) :=.z 141 [.t 2] true (λr=>[(5000,wR bc 64 r)]) (λr=>(wO bc 5000 r))
def uO(c:Nat):LT Empty (List aX):=
.kn [0]<|.ret ([]:List aX) [.own 2 5000 64]
def ZeF(c:Nat)(ad:Addr):LT Empty (List aX):=
.kn [0]<|.lb 1005<|.apR bc 560 ([]:List aX) ([]:List aX) λx1=>.ret x1 [.relab 1005 5000]
open Classical in
def uP(a0:List aX):Option (List aX):=if h:a0≠[]then lW.run (zA a0 h)else lW.run (uO 0)
def JZ(a0:List aX){r:List aX}(h:uP a0=some r):FnG PR 141 [] [wL bc a0] [(5000,wR bc 64 r)] (wO bc 5000 r):=by
 by_cases hne:a0=[]
 .subst hne;have h0:lW.run (uO 0)=some r:=h;exact FnG.split0 (λe=>absurd rfl e) (λ_ a c=>by
   cases a with
   |none=>exact lW.fn (t:=uO c) h0
   |some ad=>exact lW.fn (t:=ZeF c ad) h0)
 have h0:lW.run (zA a0 hne)=some r:=by unfold uP at h;rwa[iH hne]at h
 exact FnG.split0 (λ_=>lW.fn h0) (λe=>absurd (j2.1 e) hne)
inductive qI where
 |L0 (E0:an) (E1:an) (v18:Int) (v19:Int)
def J0(E0:an)(E1:an)(v18:Int)(v19:Int):LT qI an:=
.br (decide (v19<v18)) (.idxR bc E0.Effects v19 λx2=>.rl bc E0.Effects<|.ldR bc E0.Effects x2 2<|.call (qG x2.Mods) λx4=>.plR bc E0.Effects v19 0<|.rl bc E0.Effects<|.setD bc E0.Effects v19 x2 (⟨x2.Op,x2.Ref,x2.Amount,x2.Counter,x2.Zone,x2.Card,x2.Filter,x2.Pool,x4⟩:aX) 2 63 [.sl (List.map ax x4)] rfl λx6=>.dr [.ahead 34,.relen 40049,.stop]<|.us [3]<|.us [3]<|.us [3]<|.us [3]<|.us [3]<|.us [3]<|.us [3]<|.g0 (.L0 (⟨E0.Kind,E0.Filter,E0.Mods,E0.Price,E0.Slow,E0.Trigger,E0.May,E0.Specs,x6,E0.Replace⟩:an) E1 v18 (IntKind.wrap .i64 (v19+1))))<|.ret E0 [.relab 40017 5017,.relab 40048 5048,.relab 40049 5049]
def J1(a0:an):LT qI an:=
.lb 1001<|.lb 1002<|.callF (JX a0.Mods) 70000 λx1=>.callF (JY a0.Specs) 110000 λx3=>.callF (JZ a0.Effects) 150000 λx5=>.lenO bc x5<|.go (.L0 (⟨a0.Kind,a0.Filter,x1,a0.Price,a0.Slow,a0.Trigger,a0.May,x3,x5,a0.Replace⟩:an) (⟨0,(⟨0,0,0,0,0,0,0,([]:By),0,0,(⟨0,0⟩:ah),(⟨0,0⟩:ah),(⟨0,0⟩:ah)⟩:al),([]:List af),(⟨(⟨0,0,(⟨0,0,0,0,0⟩:A5 Int)⟩:aJ),false,false,0⟩:iE),false,(⟨0,0,(⟨0,0,0,0,0,0,0,([]:By),0,0,(⟨0,0⟩:ah),(⟨0,0⟩:ah),(⟨0,0⟩:ah)⟩:al)⟩:fH),false,([]:List cj),([]:List aX),(⟨0,0,(⟨0,0,0,0,0,0,0,([]:By),0,0,(⟨0,0⟩:ah),(⟨0,0⟩:ah),(⟨0,0⟩:ah)⟩:al),0,0,0,0⟩:dq)⟩:an) (x5.length:Int) 0) [.relab 1001 3000,.relab 1002 3001,.relab 75000 40017,.relab 115000 40048,.relab 155000 40049,.ownb 3001 17 40117 20,.ownb 3001 48 40148 18,.ownb 3001 49 40149 64]
def zB:LF qI an :=.m 90 [.c 2 89 true 72] true (λr=>(tm17 r 5000)) (λr=>(.agg (tm1 r 5000))) λ|.L0 E0 E1 v18 v19=>([1,1,1,1,0,1,4],⟨36,[(1,.bptr 3000 0),(2,.bptr 3001 0),(18,wI v18),(19,wI v19)],((3000,.box (tm1 E0 40000))::(40017,wR ax 20 E0.Mods)::(40048,wR bK 18 E0.Specs)::(40049,wR bc 64 E0.Effects)::(3001,.box (tm1 E1 40100))::(tm17 E1 40100))⟩,J0 E0 E1 v18 v19)
def zC:=λa0=>zB.run (J1 a0)
def ZeG(a0){r}(h:zC a0=some r):FnG PR 90 [] [wA (aC a0)] (tm17 r 5000) (.agg (tm1 r 5000)):=zB.fn h
def ZeH(a0:an){r:an}(h:zC a0=some r):Fn PR 90 [wA (aC a0)] (wA (aC r)):=FnG.frozen (C:=LT.RL ax r.Mods/\LT.RL bK r.Specs/\LT.RL bc r.Effects/\True) (ZeG a0 h) ⟨rfl,rfl,rfl,ae⟩ bD
inductive qJ where
 |L0 (E0:ab) (E1:ab) (v32:List an) (v33:Int) (v34:Int)
def Z59(E0:ab)(E1:ab)(v32:List an)(v33:Int)(v34:Int):LT qJ ab:=
.br (decide (v34<v33)) (.idx aC v32 v34 λx2=>.lb 1005<|.call (ZeH x2) λx4=>.dr [.lit]<|.apR aC 640 E1.Abilities [x4] λx6=>.g0 (.L0 E0 (⟨E1.Name,E1.Cost,E1.Colors,E1.Line,E1.Power,E1.Tough,E1.Keys,x6,E1.Control⟩:ab) v32 v33 (IntKind.wrap .i64 (v34+1))))<|.ret E1 [.relab 40111 5011,.relab 40115 5015]
def Z98(a0:aq):LT qJ ab:=
.lb 1001<|.lb 1002<|.call (ZeA a0.Cost) λx1=>.lb 1003<|.callF (zx a0.Line.Subs) 290000 λx3=>.len aC a0.Abilities<|.go (.L0 (⟨([]:By),(⟨0,0,(⟨0,0,0,0,0⟩:A5 Int)⟩:aJ),0,(⟨0,0,([]:Bys)⟩:aK),0,0,0,([]:List an),0⟩:ab) (⟨a0.Name,a0.Cost,aR .or .i64 x1 a0.Color,(⟨a0.Line.Super,a0.Line.Types,x3⟩:aK),a0.Power,a0.Tough,a0.Keys,([]:List an),0⟩:ab) a0.Abilities (a0.Abilities.length:Int) 0) [.relab 1002 3000,.relab 1003 3001,.ownb 3000 11 40011 1,.ownb 3000 15 40015 72,.relab 295000 40111,.ownb 3001 15 40115 72]
def zD:LF qJ ab :=.m 51 [.c 2 66 true 17] true (λr=>[(5011,wR cS 1 r.Line.Subs),(5015,wR aC 72 r.Abilities)]) (λr=>(.agg (tm2 r 5000))) λ|.L0 E0 E1 v32 v33 v34=>([1,1,1,0,1,4],⟨47,[(2,.bptr 3000 0),(3,.bptr 3001 0),(32,wL aC v32),(33,wI v33),(34,wI v34)],[(3000,.box (tm2 E0 40000)),(40011,wR cS 1 E0.Line.Subs),(40015,wR aC 72 E0.Abilities),(3001,.box (tm2 E1 40100)),(40111,wR cS 1 E1.Line.Subs),(40115,wR aC 72 E1.Abilities)]⟩,Z59 E0 E1 v32 v33 v34)
def J2:=λa0=>zD.run (Z98 a0)
def ZeI(a0){r}(h:J2 a0=some r):FnG PR 51 [] [wA (Z0 a0)] [(5011,wR cS 1 r.Line.Subs),(5015,wR aC 72 r.Abilities)] (.agg (tm2 r 5000)):=zD.fn h
inductive nO where
 |L0 (v0:List aq) (E0:aj) (E1:ab) (v5:Int)
 |L1 (E0:aj) (E1:ab) (E2:ab)
def nP(E0:aj)(E1:ab)(E2:ab):LT nO ab:=
.cs (E0.Zone==0) (.k4 0<|.kn [0]<|.ret (⟨E2.Name,E2.Cost,E2.Colors,E2.Line,E2.Power,E2.Tough,E2.Keys,E2.Abilities,E0.Control⟩:ab) [.relab 40211 5011,.relab 40215 5015])<|.k4 0<|.br (E0.Zone==5) (.ret (⟨E2.Name,E2.Cost,E2.Colors,E2.Line,E2.Power,E2.Tough,E2.Keys,E2.Abilities,E0.Control⟩:ab) [.relab 40211 5011,.relab 40215 5015])<|.ret (⟨E2.Name,E2.Cost,E2.Colors,E2.Line,E2.Power,E2.Tough,E2.Keys,E2.Abilities,E0.Owner⟩:ab) [.relab 40211 5011,.relab 40215 5015]
def qK(v0:List aq)(E0:aj)(E1:ab)(v5:Int):LT nO ab:=
.lb 1006<|.cs (decide (v5>=0)) (.k3 0<|.len Z0 v0<|.k2 0<|.br (decide (v5<(v0.length:Int))) (.idx Z0 v0 v5 λx4=>.callF (ZeI x4) 270000 λx6=>.jn 0 (.L1 E0 E1 x6) [.relab 1006 3002,.relab 275011 40211,.relab 275015 40215] (nP E0 E1 x6))<|.jn 0 (.L1 E0 E1 (⟨([]:By),(⟨0,0,(⟨0,0,0,0,0⟩:A5 Int)⟩:aJ),0,(⟨0,0,([]:Bys)⟩:aK),0,0,0,([]:List an),0⟩:ab)) (tm15 1000 3000 40200) (nP E0 E1 (⟨([]:By),(⟨0,0,(⟨0,0,0,0,0⟩:A5 Int)⟩:aJ),0,(⟨0,0,([]:Bys)⟩:aK),0,0,0,([]:List an),0⟩:ab)))<|.k5 0<|.kn [0]<|.jn 0 (.L1 E0 E1 (⟨([]:By),(⟨0,0,(⟨0,0,0,0,0⟩:A5 Int)⟩:aJ),0,(⟨0,0,([]:Bys)⟩:aK),0,0,0,([]:List an),0⟩:ab)) (tm15 1000 3000 40200) (nP E0 E1 (⟨([]:By),(⟨0,0,(⟨0,0,0,0,0⟩:A5 Int)⟩:aJ),0,(⟨0,0,([]:Bys)⟩:aK),0,0,0,([]:List an),0⟩:ab))
def J3(a0:List aq)(a1:aj):LT nO ab:=
.lb 1003<|.lb 1004<|.br (decide (a1.Copy<0)) (.jn 0 (.L0 a0 a1 (⟨([]:By),(⟨0,0,(⟨0,0,0,0,0⟩:A5 Int)⟩:aJ),0,(⟨0,0,([]:Bys)⟩:aK),0,0,0,([]:List an),0⟩:ab) a1.Card) (tm14 1000 3000 40100) (qK a0 a1 (⟨([]:By),(⟨0,0,(⟨0,0,0,0,0⟩:A5 Int)⟩:aJ),0,(⟨0,0,([]:Bys)⟩:aK),0,0,0,([]:List an),0⟩:ab) a1.Card))<|.jn 0 (.L0 a0 a1 (⟨([]:By),(⟨0,0,(⟨0,0,0,0,0⟩:A5 Int)⟩:aJ),0,(⟨0,0,([]:Bys)⟩:aK),0,0,0,([]:List an),0⟩:ab) a1.Copy) (tm14 1000 3000 40100) (qK a0 a1 (⟨([]:By),(⟨0,0,(⟨0,0,0,0,0⟩:A5 Int)⟩:aJ),0,(⟨0,0,([]:Bys)⟩:aK),0,0,0,([]:List an),0⟩:ab) a1.Copy)
def J4:LF nO ab :=.m 31 [.c 4 66 true 17] true (λr=>[(5011,wR cS 1 r.Line.Subs),(5015,wR aC 72 r.Abilities)]) (λr=>(.agg (tm2 r 5000))) λ|.L0 v0 E0 E1 v5=>([1,1,1],⟨42,[(0,wL Z0 v0),(3,.bptr 3000 0),(4,.bptr 3001 0),(5,wI v5)],[(3000,.box (bx (aH E0))),(3001,.box (tm2 E1 40100)),(40111,wR cS 1 E1.Line.Subs),(40115,wR aC 72 E1.Abilities)]⟩,qK v0 E0 E1 v5)|.L1 E0 E1 E2=>([1,1,1,1,1],⟨42,[(3,.bptr 3000 0),(4,.bptr 3001 0),(6,.bptr 3002 0)],[(3000,.box (bx (aH E0))),(3001,.box (tm2 E1 40100)),(40111,wR cS 1 E1.Line.Subs),(40115,wR aC 72 E1.Abilities),(3002,.box (tm2 E2 40200)),(40211,wR cS 1 E2.Line.Subs),(40215,wR aC 72 E2.Abilities)]⟩,nP E0 E1 E2)
def zE:=λa0 a1=>J4.run (J3 a0 a1)
def ZeJ(a0)(a1){r}(h:zE a0 a1=some r):FnG PR 31 [] [wL Z0 a0,wA (aH a1)] [(5011,wR cS 1 r.Line.Subs),(5015,wR aC 72 r.Abilities)] (.agg (tm2 r 5000)):=J4.fn h
def J5(a0:List aq)(a1:aj){r:ab}(h:zE a0 a1=some r):Fn PR 31 [wL Z0 a0,wA (aH a1)] (wA (ao r)):=FnG.frozen (C:=LT.RL cS r.Line.Subs/\LT.RL aC r.Abilities/\True) (ZeJ a0 a1 h) ⟨rfl,rfl,ae⟩ bD
def zF(a0:List Int)(hne:a0≠[]):LT Empty (List Int):=
.ne (cI .i64) hne<|.kn [0]<|.lb 1005<|.apR (cI .i64) 8 ([]:List Int) a0 λx1=>.ret x1 [.relab 1005 5000]
def lX:LF Empty (List Int) :=.z 33 [.t 2] true (λr=>[(5000,wR (cI .i64) 1 r)]) (λr=>(wO (cI .i64) 5000 r))
def uQ(c:Nat):LT Empty (List Int):=
.kn [0]<|.ret ([]:List Int) [.own 2 5000 1]
def Z0h(c:Nat)(ad:Addr):LT Empty (List Int):=
.kn [0]<|.lb 1005<|.apR (cI .i64) 8 ([]:List Int) ([]:List Int) λx1=>.ret x1 [.relab 1005 5000]
open Classical in
def qL(a0:List Int):Option (List Int):=if h:a0≠[]then lX.run (zF a0 h)else lX.run (uQ 0)
def ZeK(a0:List Int){r:List Int}(h:qL a0=some r):FnG PR 33 [] [wL (cI .i64) a0] [(5000,wR (cI .i64) 1 r)] (wO (cI .i64) 5000 r):=by
 by_cases hne:a0=[]
 .subst hne;have h0:lX.run (uQ 0)=some r:=h;exact FnG.split0 (λe=>absurd rfl e) (λ_ a c=>by
   cases a with
   |none=>exact lX.fn (t:=uQ c) h0
   |some ad=>exact lX.fn (t:=Z0h c ad) h0)
 have h0:lX.run (zF a0 hne)=some r:=by unfold qL at h;rwa[iH hne]at h
 exact FnG.split0 (λ_=>lX.fn h0) (λe=>absurd (j2.1 e) hne)
def Z0i(a0:List Int){r:List Int}(h:qL a0=some r):Fn PR 33 [wL (cI .i64) a0] (wL (cI .i64) r):=FnG.frozen (C:=LT.RL (cI .i64) r/\True) (ZeK a0 h) ⟨rfl,ae⟩ bD
inductive lY where
 |L0 (v0:List aq) (E0:av) (v5:List Z2) (v13:List aj) (v14:Int) (v15:Int)
 |L1 (v0:List aq) (E0:av) (v5:List Z2) (E1:aj) (v13:List aj) (v14:Int) (v15:Int) (v25:List an) (v26:Int) (v27:Int)
 |L2 (v5:List Z2) (v54:List du) (v55:Int) (v56:Int)
def Z6a(v0:List aq)(E0:av)(v5:List Z2)(v13:List aj)(v14:Int)(v15:Int):LT lY (List Z2):=
.br (decide (v15<v14)) (.idx aH v13 v15 λx2=>.lb 1007<|.br (x2.Zone != 0) (.g0 (.L0 v0 E0 v5 v13 v14 (IntKind.wrap .i64 (v15+1))))<|.call (J5 v0 x2) λx7=>.len aC x7.Abilities<|.go (.L1 v0 E0 v5 x2 v13 v14 v15 x7.Abilities (x7.Abilities.length:Int) 0) [.relab 1007 3001])<|.len c6 E0.Conts<|.g0 (.L2 v5 E0.Conts (E0.Conts.length:Int) 0)
def Z6b(v0:List aq)(E0:av)(v5:List Z2)(E1:aj)(v13:List aj)(v14:Int)(v15:Int)(v25:List an)(v26:Int)(v27:Int):LT lY (List Z2):=
.br (decide (v27<v26)) (.idx aC v25 v27 λx2=>.lb 1009<|.br (x2.Kind==1) (.call (qG x2.Mods) λx5=>.dr [.lit]<|.apR cf 224 v5 [(⟨E1.Id,v27,E1.Control,E1.Stamp,false,([]:List Int),x2.Filter,x5⟩:Z2)] λx7=>.g0 (.L1 v0 E0 x7 E1 v13 v14 v15 v25 v26 (IntKind.wrap .i64 (v27+1))))<|.g0 (.L1 v0 E0 v5 E1 v13 v14 v15 v25 v26 (IntKind.wrap .i64 (v27+1))))<|.g0 (.L0 v0 E0 v5 v13 v14 (IntKind.wrap .i64 (v15+1)))
def Z6c(v5:List Z2)(v54:List du)(v55:Int)(v56:Int):LT lY (List Z2):=
.br (decide (v56<v55)) (.idx c6 v54 v56 λx2=>.lb 1011<|.call (Z0i x2.Objects) λx4=>.call (qG x2.Mods) λx6=>.dr [.lit]<|.apR cf 224 v5 [(⟨x2.Source,-1,x2.Control,x2.Stamp,true,x4,(⟨0,0,0,0,0,0,0,([]:By),0,0,(⟨0,0⟩:ah),(⟨0,0⟩:ah),(⟨0,0⟩:ah)⟩:al),x6⟩:Z2)] λx8=>.g0 (.L2 x8 v54 v55 (IntKind.wrap .i64 (v56+1))))<|.ret v5 [.relab 20005 5000]
def Z99(a0:List aq)(a1:av):LT lY (List Z2):=
.lb 1003<|.len aH a1.Objects<|.go (.L0 a0 a1 ([]:List Z2) a1.Objects (a1.Objects.length:Int) 0) [.relab 1003 3000,.own 5 20005 23]
def qM:LF lY (List Z2) :=.m 12 [.t 4] true (λr=>[(5000,wR cf 23 r)]) (λr=>(wO cf 5000 r)) λ|.L0 v0 E0 v5 v13 v14 v15=>([1,1,0,1,4],⟨78,[(0,wL Z0 v0),(3,.bptr 3000 0),(5,wO cf 20005 v5),(13,wL aH v13),(14,wI v14),(15,wI v15)],[(3000,.box (bx (Z6 E0))),(20005,wR cf 23 v5)]⟩,Z6a v0 E0 v5 v13 v14 v15)|.L1 v0 E0 v5 E1 v13 v14 v15 v25 v26 v27=>([1,1,0,1,4,5,1,1,0,4,1,1,1,4],⟨78,[(0,wL Z0 v0),(3,.bptr 3000 0),(5,wO cf 20005 v5),(7,.bptr 3001 0),(13,wL aH v13),(14,wI v14),(15,wI v15),(25,wL aC v25),(26,wI v26),(27,wI v27)],[(3000,.box (bx (Z6 E0))),(20005,wR cf 23 v5),(3001,.box (bx (aH E1)))]⟩,Z6b v0 E0 v5 E1 v13 v14 v15 v25 v26 v27)|.L2 v5 v54 v55 v56=>([1,1,1,0,1,4],⟨78,[(5,wO cf 20005 v5),(54,wL c6 v54),(55,wI v55),(56,wI v56)],[(20005,wR cf 23 v5)]⟩,Z6c v5 v54 v55 v56)
def Z3n:=λa0 a1=>qM.run (Z99 a0 a1)
def ZeL(a0)(a1){r}(h:Z3n a0 a1=some r):FnG PR 12 [] [wL Z0 a0,wA (Z6 a1)] [(5000,wR cf 23 r)] (wO cf 5000 r):=qM.fn h
def Z6d(a0:List aq)(a1:av){r:List Z2}(h:Z3n a0 a1=some r):Fn PR 12 [wL Z0 a0,wA (Z6 a1)] (wL cf r):=FnG.frozen (C:=LT.RL cf r/\True) (ZeL a0 a1 h) ⟨rfl,ae⟩ bD
end
end Go.PW
