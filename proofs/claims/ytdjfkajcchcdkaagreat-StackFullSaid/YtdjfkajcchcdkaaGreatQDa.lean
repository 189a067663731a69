import Derived.Test.YtdjfkajcchcdkaaGreatQDt
set_option linter.all false
set_option maxRecDepth 100000
namespace Go.PW
open Go.RowKit
noncomputable section
def u0(a0:Int):LT Empty Bool:=
.cs (decide (a0>=97)) (.k3 0<|.rt (decide (a0<=122)))<|.k3 0<|.rt false
def GZ:LF Empty Bool :=.z0 125 [.t 2] wB
def Z6x:=λa0=>GZ.run (u0 a0)
def G0(a0){r}(h:Z6x a0=some r):Fn PR 125 [.t (.int .u8 a0)] (wB r):=GZ.fn h
inductive je where
 |L0 (v0:By) (v3:Int)
 |L1 (v0:By) (v3:Int)
def jd(v0:By)(v3:Int):LT je Bool:=
.cs (decide (v3>0)) (.k3 0<|.idxS v0 v3 λx2=>.k2 0<|.cs ((UInt8.toNat x2:Int)==45) (.k4 1<|.idxS v0 (IntKind.wrap .i64 (v3-1)) λx7=>.k2 1<|.br ((UInt8.toNat x7:Int)==45) (.rt false)<|.g0 (.L0 v0 (IntKind.wrap .i64 (v3+1))))<|.k5 1<|.kg 1<|.kn [0]<|.g0 (.L0 v0 (IntKind.wrap .i64 (v3+1))))<|.k5 0<|.b5 false<|.kb false<|.kn [0]<|.g0 (.L0 v0 (IntKind.wrap .i64 (v3+1)))
def kJ(v0:By)(v3:Int):LT je Bool:=
.lenS v0<|.br (decide (v3<(v0.length:Int))) (.idxS v0 v3 λx3=>.call (G0 (UInt8.toNat x3:Int)) λx5=>.cs (!x5) (.k3 1<|.idxS v0 v3 λx8=>.k2 1<|.cs (decide ((UInt8.toNat x8:Int)<48)) (.k4 2<|.kg 1<|.kg 2<|.kg 1<|.b3 true<|.idxS v0 v3 λx11=>.b2 true<|.br ((UInt8.toNat x11:Int) != 45) (.rt false)<|.j0 (.L1 v0 v3) (jd v0 v3))<|.k3 2<|.idxS v0 v3 λx14=>.kg 2<|.kg 1<|.kg 2<|.kg 1<|.cs (decide ((UInt8.toNat x14:Int)>57)) (.k3 3<|.idxS v0 v3 λx17=>.k2 3<|.br ((UInt8.toNat x17:Int) != 45) (.rt false)<|.j0 (.L1 v0 v3) (jd v0 v3))<|.k5 3<|.kn [0]<|.j0 (.L1 v0 v3) (jd v0 v3))<|.k5 1<|.k2 1<|.b5 false<|.kn [0]<|.j0 (.L1 v0 v3) (jd v0 v3))<|.rt true
def u1(a0:By):LT je Bool:=
.lenS a0<|.cs (decide ((a0.length:Int)<1)) (.k4 0<|.b8 true<|.b4 true<|.kn [0]<|.rt false)<|.k2 0<|.lenS a0<|.k2 0<|.cs (decide ((a0.length:Int)>32)) (.k5 1<|.b5 true<|.b2 true<|.kn [0]<|.rt false)<|.k2 1<|.idxS a0 0 λx4=>.kg 1<|.call (G0 (UInt8.toNat x4:Int)) λx6=>.k2 1<|.cs (!x6) (.k5 2<|.k2 2<|.kn [0]<|.rt false)<|.k3 2<|.lenS a0<|.k2 2<|.idxS a0 (IntKind.wrap .i64 ((a0.length:Int)-1)) λx11=>.k2 2<|.br ((UInt8.toNat x11:Int)==45) (.rt false)<|.g0 (.L0 a0 0)
def Z0d:LF je Bool :=.m0 89 [.t 2] wB λ|.L0 v0 v3=>([1,1,0,1,4],⟨70,[(0,wS v0),(3,wI v3)],[]⟩,kJ v0 v3)|.L1 v0 v3=>([1,1,0,1,4,5,1,0,4,1],⟨70,[(0,wS v0),(3,wI v3)],[]⟩,jd v0 v3)
def nv:=λa0=>Z0d.run (u1 a0)
def yv(a0){r}(h:nv a0=some r):Fn PR 89 [wS a0] (wB r):=Z0d.fn h
inductive jA where
 |L0 (E0:Z5) (v3:Int)
def mR(E0:Z5)(v3:Int):LT jA Bool:=
.br (decide (v3<5)) (.idA (U.int .i64) (A5.list E0.Color) v3 (bx (cn E0)) 2 7 λx2=>.ldC (U.int .i64) 29 x2 0<|.cs (decide (x2<0)) (.k5 1<|.kg 1<|.kn [0]<|.rt false)<|.k3 1<|.idA (U.int .i64) (A5.list E0.Color) v3 (bx (cn E0)) 2 7 λx5=>.kg 1<|.ldC (U.int .i64) 35 x5 1<|.k2 1<|.br (decide (x5>9)) (.rt false)<|.g0 (.L0 E0 (IntKind.wrap .i64 (v3+1))))<|.rt true
def yw(a0:Z5):LT jA Bool:=
.lb 1001<|.cs (decide (a0.Generic<0)) (.k4 0<|.b8 true<|.kn [0]<|.rt false)<|.k4 0<|.cs (decide (a0.Generic>99)) (.k4 1<|.b4 true<|.kn [0]<|.rt false)<|.k4 1<|.cs (decide (a0.X<0)) (.k4 2<|.kn [0]<|.rt false)<|.k4 2<|.br (decide (a0.X>2)) (.rt false)<|.go (.L0 a0 0) [.relab 1001 3000]
def iV:LF jA Bool :=.m0 90 [.t 2] wB λ|.L0 E0 v3=>([1,1,0,1,4],⟨38,[(1,.bptr 3000 0),(3,wI v3)],[(3000,.box (bx (cn E0)))]⟩,mR E0 v3)
def Z6y:=λa0=>iV.run (yw a0)
def Z3h(a0){r}(h:Z6y a0=some r):Fn PR 90 [wA (cn a0)] (wB r):=iV.fn h
def Z0e:LT Empty (Bys):=
.lb 1001<|.ret [([98,97,115,105,99]:By),([117,110,105,113,117,101]:By)] [.relab 1001 5000]
def Z0f:LF Empty (Bys) :=.z 172 [.t 0] true (λr=>[(5000,wR cS 1 r)]) (λr=>(wO cS 5000 r))
def ny:=Z0f.run (Z0e)
def Vi{r}(h:ny=some r):FnG PR 172 [] [] [(5000,wR cS 1 r)] (wO cS 5000 r):=Z0f.fn h
def Vj{r:Bys}(h:ny=some r):Fn PR 172 [] (wL cS r):=FnG.frozen (C:=LT.RL cS r/\True) (Vi h) ⟨rfl,aa⟩ aq
inductive pn where
 |L0 (v0:Bys) (v1:By) (v5:Int)
def kL(v0:Bys)(v1:By)(v5:Int):LT pn Int:=
.len cS v0<|.br (decide (v5<(v0.length:Int))) (.idx cS v0 v5 λx3=>.br (x3==v1) (.rt v5)<|.g0 (.L0 v0 v1 (IntKind.wrap .i64 (v5+1))))<|.rt (-1)
def Z4u(a0:Bys)(a1:By):LT pn Int:=
.g0 (.L0 a0 a1 0)
def Z4v:LF pn Int :=.m0 171 [.t 4] wI λ|.L0 v0 v1 v5=>([1,0,1,4],⟨19,[(0,wL cS v0),(1,wS v1),(5,wI v5)],[]⟩,kL v0 v1 v5)
def nw:=λa0 a1=>Z4v.run (Z4u a0 a1)
def Z0g(a0)(a1){r}(h:nw a0 a1=some r):Fn PR 171 [wL cS a0,wS a1] (wI r):=Z4v.fn h
def Z3i:LT Empty (Bys):=
.lb 1001<|.ret [([99,114,101,97,116,117,114,101]:By),([105,110,115,116,97,110,116]:By),([114,105,116,117,97,108]:By),([114,101,108,105,99]:By),([99,104,97,114,109]:By),([108,97,110,100]:By)] [.relab 1001 5000]
def Z3j:LF Empty (Bys) :=.z 173 [.t 0] true (λr=>[(5000,wR cS 1 r)]) (λr=>(wO cS 5000 r))
def nz:=Z3j.run (Z3i)
def Vk{r}(h:nz=some r):FnG PR 173 [] [] [(5000,wR cS 1 r)] (wO cS 5000 r):=Z3j.fn h
def Z0h{r:Bys}(h:nz=some r):Fn PR 173 [] (wL cS r):=FnG.frozen (C:=LT.RL cS r/\True) (Vk h) ⟨rfl,aa⟩ aq
def Z4w(a0:By):LT Empty Bool:=
.call (yv a0) λx1=>.cs x1 (.kg 0<|.call (Vj) λx4=>.k2 0<|.call (Z0g x4 a0) λx6=>.k2 0<|.cs (decide (x6<0)) (.kg 1<|.call (Z0h) λx9=>.k2 1<|.call (Z0g x9 a0) λx11=>.k2 1<|.rt (decide (x11<0)))<|.k5 1<|.rt false)<|.k5 0<|.b5 false<|.rt false
def G1:LF Empty Bool :=.z0 126 [.t 2] wB
def nx:=λa0=>G1.run (Z4w a0)
def Z0i(a0){r}(h:nx a0=some r):Fn PR 126 [wS a0] (wB r):=G1.fn h
inductive po where
 |L0 (v0:Int) (v1:Int) (v5:Int)
def Z83(v0:Int)(v1:Int)(v5:Int):LT po Bool:=
.br (decide (v5<v1)) (.dc ((2:Int)≠0) rfl<|.g0 (.L0 (ff .i64 v0 2) v1 (IntKind.wrap .i64 (v5+1))))<|.dc ((2:Int)≠0) rfl<|.rt ((Int.tmod v0 2)==1)
def G2(a0:Int)(a1:Int):LT po Bool:=
.g0 (.L0 a0 a1 0)
def G3:LF po Bool :=.m0 127 [.t 4] wB λ|.L0 v0 v1 v5=>([1,0,1,4],⟨16,[(0,wI v0),(1,wI v1),(5,wI v5)],[]⟩,Z83 v0 v1 v5)
def yx:=λa0 a1=>G3.run (G2 a0 a1)
def Z84(a0)(a1){r}(h:yx a0 a1=some r):Fn PR 127 [wI a0,wI a1] (wB r):=G3.fn h
inductive Z0j where
 |L0 (E0:bV) (v3:Int)
def yy(E0:bV)(v3:Int):LT Z0j Bool:=
.len cS E0.Subs<|.br (decide (v3<(E0.Subs.length:Int))) (.idx cS E0.Subs v3 λx3=>.call (Z0i x3) λx5=>.cs (!x5) (.k5 1<|.kn [0]<|.rt false)<|.k3 1<|.cs (decide (v3>0)) (.k5 2<|.idx cS E0.Subs (IntKind.wrap .i64 (v3-1)) λx11=>.k5 2<|.ag cS x3 0<|.k2 2<|.kg 1<|.kg 2<|.kg 1<|.br (!(Op.bytesLess x11 x3)) (.rt false)<|.g0 (.L0 E0 (IntKind.wrap .i64 (v3+1))))<|.k8 2<|.k4 2<|.kg 1<|.kg 2<|.kg 1<|.kn [0]<|.g0 (.L0 E0 (IntKind.wrap .i64 (v3+1))))<|.cs (E0.Types==2) (.k4 1<|.b5 true<|.b2 true<|.rt true)<|.k4 1<|.cs (E0.Types==4) (.k5 2<|.k2 2<|.rt true)<|.k3 2<|.call (Z84 E0.Types 1) λx20=>.k2 2<|.cs (!x20) (.k3 3<|.call (Z84 E0.Types 2) λx23=>.kg 3<|.kg 2<|.kg 3<|.kg 2<|.rt (!x23))<|.k4 3<|.kg 2<|.kg 3<|.kg 2<|.rt false
def G4(a0:bV):LT Z0j Bool:=
.lb 1001<|.cs (decide (a0.Super<0)) (.k4 0<|.b8 true<|.b5 true<|.kn [0]<|.rt false)<|.k4 0<|.cs (decide (a0.Super>3)) (.k4 1<|.b8 true<|.kb true<|.kn [0]<|.rt false)<|.k4 1<|.cs (decide (a0.Types<1)) (.k4 2<|.b5 true<|.kn [0]<|.rt false)<|.k4 2<|.cs (decide (a0.Types>63)) (.k5 3<|.kn [0]<|.rt false)<|.k3 3<|.len cS a0.Subs<|.k2 3<|.br (decide ((a0.Subs.length:Int)>4)) (.rt false)<|.go (.L0 a0 0) [.relab 1001 3000]
def G5:LF Z0j Bool :=.m0 91 [.t 2] wB λ|.L0 E0 v3=>([1,1,0,1,4],⟨80,[(1,.bptr 3000 0),(3,wI v3)],[(3000,.box (bx (iN E0)))]⟩,yy E0 v3)
def yz:=λa0=>G5.run (G4 a0)
def Vl(a0){r}(h:yz a0=some r):Fn PR 91 [wA (iN a0)] (wB r):=G5.fn h
def G6(a0:Int):LT Empty Bool:=
.cs (decide (a0>=0)) (.k3 0<|.rt (decide (a0<=131071)))<|.k3 0<|.rt false
def G7:LF Empty Bool :=.z0 92 [.t 2] wB
def yA:=λa0=>G7.run (G6 a0)
def G8(a0){r}(h:yA a0=some r):Fn PR 92 [wI a0] (wB r):=G7.fn h
def Z6z(a0:Z1):LT Empty Bool:=
.lb 1001<|.rt ((bI .and .i64 a0.Line.Types 1) != 0)
def Z60:LF Empty Bool :=.z0 93 [.t 2] wB
def Z0k:=λa0=>Z60.run (Z6z a0)
def Vm(a0){r}(h:Z0k a0=some r):Fn PR 93 [wA (Z8 a0)] (wB r):=Z60.fn h
inductive pq where
 |L0 (v0:Int) (v1:Int) (v7:Int)
def kN(v0:Int)(v1:Int)(v7:Int):LT pq Bool:=
.br (decide (v7<6)) (.dc ((2:Int)≠0) rfl<|.cs ((Int.tmod v0 2)==1) (.k2 1<|.dc ((2:Int)≠0) rfl<|.k2 1<|.br ((Int.tmod v1 2)==1) (.rt false)<|.dc ((2:Int)≠0) rfl<|.dc ((2:Int)≠0) rfl<|.g0 (.L0 (ff .i64 v0 2) (ff .i64 v1 2) (IntKind.wrap .i64 (v7+1))))<|.k4 1<|.kn [0]<|.dc ((2:Int)≠0) rfl<|.dc ((2:Int)≠0) rfl<|.g0 (.L0 (ff .i64 v0 2) (ff .i64 v1 2) (IntKind.wrap .i64 (v7+1))))<|.rt true
def Z4x(a0:Int)(a1:Int)(a2:Int):LT pq Bool:=
.cs (decide (a0<0)) (.k4 0<|.b5 true<|.b2 true<|.kn [0]<|.rt false)<|.k4 0<|.cs (decide (a0>a2)) (.k3 1<|.b4 true<|.kn [0]<|.rt false)<|.k3 1<|.cs (decide (a1<0)) (.k4 2<|.kn [0]<|.rt false)<|.k4 2<|.br (decide (a1>a2)) (.rt false)<|.g0 (.L0 a0 a1 0)
def nH:LF pq Bool :=.m0 174 [.t 6] wB λ|.L0 v0 v1 v7=>([1,1,0,1,4],⟨40,[(0,wI v0),(1,wI v1),(7,wI v7)],[]⟩,kN v0 v1 v7)
def nI:=λa0 a1 a2=>nH.run (Z4x a0 a1 a2)
def G9(a0)(a1)(a2){r}(h:nI a0 a1 a2=some r):Fn PR 174 [wI a0,wI a1,wI a2] (wB r):=nH.fn h
def Z4y(a0:ab):LT Empty Bool:=
.lb 1001<|.cs (decide (a0.Kind<0)) (.k4 0<|.b8 true<|.kn [0]<|.rt false)<|.k4 0<|.cs (decide (a0.Kind>3)) (.k4 1<|.b4 true<|.kn [0]<|.rt false)<|.k4 1<|.cs (decide (a0.N<0)) (.k4 2<|.kn [0]<|.rt false)<|.k4 2<|.br (decide (a0.N>1000000)) (.rt false)<|.cs (a0.Kind != 0) (.k4 4<|.rt true)<|.k4 4<|.rt (a0.N==0)
def Ha:LF Empty Bool :=.z0 175 [.t 2] wB
def nD:=λa0=>Ha.run (Z4y a0)
def Z0l(a0){r}(h:nD a0=some r):Fn PR 175 [wA (eG a0)] (wB r):=Ha.fn h
inductive Z0m where
 |L0 (E0:ai)
def kO(E0:ai):LT Z0m Bool:=
.call (Z0l E0.Power) λx1=>.cs x1 (.k3 0<|.call (Z0l E0.Tough) λx4=>.kg 0<|.cs x4 (.k3 1<|.call (Z0l E0.Value) λx7=>.kg 1<|.rt x7)<|.k4 1<|.rt false)<|.k4 0<|.b4 false<|.rt false
def u5(a0:ai):LT Z0m Bool:=
.lb 1001<|.cs (decide (a0.Zone<0)) (.k4 0<|.b16 true<|.b8 true<|.kn [0]<|.rt false)<|.k4 0<|.cs (decide (a0.Zone>5)) (.k4 1<|.b16 true<|.b4 true<|.kn [0]<|.rt false)<|.k4 1<|.cs (decide (a0.Who<0)) (.k4 2<|.b16 true<|.kn [0]<|.rt false)<|.k4 2<|.cs (decide (a0.Who>2)) (.k4 3<|.b8 true<|.b4 true<|.kn [0]<|.rt false)<|.k4 3<|.cs (decide (a0.Self<0)) (.k4 4<|.b8 true<|.kn [0]<|.rt false)<|.k4 4<|.cs (decide (a0.Self>2)) (.k4 5<|.b4 true<|.kn [0]<|.rt false)<|.k4 5<|.cs (decide (a0.Tap<0)) (.k4 6<|.kn [0]<|.rt false)<|.k4 6<|.br (decide (a0.Tap>2)) (.rt false)<|.call (G9 a0.Types a0.NotTypes 63) λx9=>.cs (!x9) (.k5 8<|.k2 8<|.kn [0]<|.rt false)<|.k5 8<|.call (G9 a0.Colors a0.NotColors 31) λx12=>.k2 8<|.br (!x12) (.rt false)<|.cs (!(a0.Sub==([]:By))) (.k3 10<|.call (Z0i a0.Sub) λx16=>.k2 10<|.cs (!x16) (.k4 11<|.b4 true<|.kn [0]<|.rt false)<|.k4 11<|.cs (decide (a0.Keys<0)) (.k4 12<|.kn [0]<|.rt false)<|.k4 12<|.br (decide (a0.Keys>131071)) (.rt false)<|.jn 0 (.L0 a0) [.relab 1001 3000] (kO a0))<|.k5 10<|.b4 false<|.cs (decide (a0.Keys<0)) (.k4 11<|.kn [0]<|.rt false)<|.k4 11<|.br (decide (a0.Keys>131071)) (.rt false)<|.jn 0 (.L0 a0) [.relab 1001 3000] (kO a0)
def u4:LF Z0m Bool :=.m0 128 [.t 2] wB λ|.L0 E0=>([1,1,1,1],⟨87,[(1,.bptr 3000 0)],[(3000,.box (bx (bg E0)))]⟩,kO E0)
def Z61:=λa0=>u4.run (u5 a0)
def ij(a0){r}(h:Z61 a0=some r):Fn PR 128 [wA (bg a0)] (wB r):=u4.fn h
inductive mS where
 |L0 (E0:ah) (E1:ah) (v7:Int) (v8:Bool)
 |L1 (E0:ah) (E1:ah) (v7:Int) (v16:Bool)
def pr(E0:ah)(E1:ah)(v7:Int)(v16:Bool):LT mS ah:=
.br v16 (.rt (⟨E0.Kind,E0.N,E0.M,([]:By),E0.Filter⟩:ah))<|.br (v7==11) (.rt (⟨E0.Kind,E0.N,E0.M,E0.Sub,(⟨0,0,0,0,0,0,0,([]:By),0,0,(⟨0,0⟩:ab),(⟨0,0⟩:ab),(⟨0,0⟩:ab)⟩:ai)⟩:ah))<|.br (v7==12) (.kn [3]<|.rt (⟨E0.Kind,0,0,E0.Sub,E0.Filter⟩:ah))<|.br (v7==13) (.rt (⟨E0.Kind,0,0,E0.Sub,E0.Filter⟩:ah))<|.rt E0
def jB(E0:ah)(E1:ah)(v7:Int)(v8:Bool):LT mS ah:=
.br v8 (.rt (⟨E0.Kind,0,E0.M,E0.Sub,E0.Filter⟩:ah))<|.br (v7==4) (.j0 (.L1 E0 E1 v7 (v7==4)) (pr E0 E1 v7 (v7==4)))<|.j0 (.L1 E0 E1 v7 (v7==5)) (pr E0 E1 v7 (v7==5))
def Hb(a0:ah):LT mS ah:=
.lb 1001<|.lb 1002<|.br (a0.Kind==2) (.jn 0 (.L0 (⟨0,a0.N,a0.M,a0.Sub,a0.Filter⟩:ah) (⟨0,0,0,([]:By),(⟨0,0,0,0,0,0,0,([]:By),0,0,(⟨0,0⟩:ab),(⟨0,0⟩:ab),(⟨0,0⟩:ab)⟩:ai)⟩:ah) a0.Kind (a0.Kind==2)) [.relab 1001 3000,.relab 1002 3001] (jB (⟨0,a0.N,a0.M,a0.Sub,a0.Filter⟩:ah) (⟨0,0,0,([]:By),(⟨0,0,0,0,0,0,0,([]:By),0,0,(⟨0,0⟩:ab),(⟨0,0⟩:ab),(⟨0,0⟩:ab)⟩:ai)⟩:ah) a0.Kind (a0.Kind==2)))<|.br (a0.Kind==3) (.jn 0 (.L0 (⟨0,a0.N,a0.M,a0.Sub,a0.Filter⟩:ah) (⟨0,0,0,([]:By),(⟨0,0,0,0,0,0,0,([]:By),0,0,(⟨0,0⟩:ab),(⟨0,0⟩:ab),(⟨0,0⟩:ab)⟩:ai)⟩:ah) a0.Kind (a0.Kind==3)) [.relab 1001 3000,.relab 1002 3001] (jB (⟨0,a0.N,a0.M,a0.Sub,a0.Filter⟩:ah) (⟨0,0,0,([]:By),(⟨0,0,0,0,0,0,0,([]:By),0,0,(⟨0,0⟩:ab),(⟨0,0⟩:ab),(⟨0,0⟩:ab)⟩:ai)⟩:ah) a0.Kind (a0.Kind==3)))<|.br (a0.Kind==6) (.jn 0 (.L0 (⟨0,a0.N,a0.M,a0.Sub,a0.Filter⟩:ah) (⟨0,0,0,([]:By),(⟨0,0,0,0,0,0,0,([]:By),0,0,(⟨0,0⟩:ab),(⟨0,0⟩:ab),(⟨0,0⟩:ab)⟩:ai)⟩:ah) a0.Kind (a0.Kind==6)) [.relab 1001 3000,.relab 1002 3001] (jB (⟨0,a0.N,a0.M,a0.Sub,a0.Filter⟩:ah) (⟨0,0,0,([]:By),(⟨0,0,0,0,0,0,0,([]:By),0,0,(⟨0,0⟩:ab),(⟨0,0⟩:ab),(⟨0,0⟩:ab)⟩:ai)⟩:ah) a0.Kind (a0.Kind==6)))<|.br (a0.Kind==7) (.jn 0 (.L0 (⟨0,a0.N,a0.M,a0.Sub,a0.Filter⟩:ah) (⟨0,0,0,([]:By),(⟨0,0,0,0,0,0,0,([]:By),0,0,(⟨0,0⟩:ab),(⟨0,0⟩:ab),(⟨0,0⟩:ab)⟩:ai)⟩:ah) a0.Kind (a0.Kind==7)) [.relab 1001 3000,.relab 1002 3001] (jB (⟨0,a0.N,a0.M,a0.Sub,a0.Filter⟩:ah) (⟨0,0,0,([]:By),(⟨0,0,0,0,0,0,0,([]:By),0,0,(⟨0,0⟩:ab),(⟨0,0⟩:ab),(⟨0,0⟩:ab)⟩:ai)⟩:ah) a0.Kind (a0.Kind==7)))<|.br (a0.Kind==8) (.jn 0 (.L0 (⟨0,a0.N,a0.M,a0.Sub,a0.Filter⟩:ah) (⟨0,0,0,([]:By),(⟨0,0,0,0,0,0,0,([]:By),0,0,(⟨0,0⟩:ab),(⟨0,0⟩:ab),(⟨0,0⟩:ab)⟩:ai)⟩:ah) a0.Kind (a0.Kind==8)) [.relab 1001 3000,.relab 1002 3001] (jB (⟨0,a0.N,a0.M,a0.Sub,a0.Filter⟩:ah) (⟨0,0,0,([]:By),(⟨0,0,0,0,0,0,0,([]:By),0,0,(⟨0,0⟩:ab),(⟨0,0⟩:ab),(⟨0,0⟩:ab)⟩:ai)⟩:ah) a0.Kind (a0.Kind==8)))<|.jn 0 (.L0 (⟨0,a0.N,a0.M,a0.Sub,a0.Filter⟩:ah) (⟨0,0,0,([]:By),(⟨0,0,0,0,0,0,0,([]:By),0,0,(⟨0,0⟩:ab),(⟨0,0⟩:ab),(⟨0,0⟩:ab)⟩:ai)⟩:ah) a0.Kind (a0.Kind==9)) [.relab 1001 3000,.relab 1002 3001] (jB (⟨0,a0.N,a0.M,a0.Sub,a0.Filter⟩:ah) (⟨0,0,0,([]:By),(⟨0,0,0,0,0,0,0,([]:By),0,0,(⟨0,0⟩:ab),(⟨0,0⟩:ab),(⟨0,0⟩:ab)⟩:ai)⟩:ah) a0.Kind (a0.Kind==9))
def Hc:LF mS ah :=.m0 185 [.c 2 144 true 20] (λr=>(wA (av r))) λ|.L0 E0 E1 v7 v8=>([1,1,1,0,1,4,1],⟨30,[(1,.bptr 3000 0),(2,.bptr 3001 0),(7,wI v7),(8,wB v8)],[(3000,.box (bx (av E0))),(3001,.box (bx (av E1)))]⟩,jB E0 E1 v7 v8)|.L1 E0 E1 v7 v16=>([1,1,1,0,1,4,1,3,1],⟨30,[(1,.bptr 3000 0),(2,.bptr 3001 0),(7,wI v7),(16,wB v16)],[(3000,.box (bx (av E0))),(3001,.box (bx (av E1)))]⟩,pr E0 E1 v7 v16)
def yB:=λa0=>Hc.run (Hb a0)
def Vn(a0){r}(h:yB a0=some r):Fn PR 185 [wA (av a0)] (wA (av r)):=Hc.fn h
def Hd(a0:Int):LT Empty Bool:=
.cs (decide (a0>=1)) (.k3 0<|.cs (decide (a0<=63)) (.k4 1<|.rt ((bI .and .i64 a0 6)==0))<|.k4 1<|.rt false)<|.k3 0<|.b4 false<|.rt false
def He:LF Empty Bool :=.z0 186 [.t 2] wB
def yC:=λa0=>He.run (Hd a0)
def Vo(a0){r}(h:yC a0=some r):Fn PR 186 [wI a0] (wB r):=He.fn h
inductive lD where
 |L0 (E0:ah) (v18:Int) (v19:Bool)
 |L1 (E0:ah) (v18:Int) (v25:Bool)
 |L2 (E0:ah) (v18:Int) (v51:Bool)
def pt(E0:ah)(v18:Int)(v51:Bool):LT lD Bool:=
.br v51 (.cs (decide (E0.N>=1)) (.k4 1<|.rt (decide (E0.N<=131071)))<|.k4 1<|.rt false)<|.br (v18==11) (.call (ij E0.Filter) λx4=>.rt x4)<|.br (v18==12) (.cs (decide (E0.N>=0)) (.k4 3<|.cs (decide (E0.N<=99)) (.k4 4<|.cs (decide (E0.M>=0)) (.k4 5<|.rt (decide (E0.M<=99)))<|.k4 5<|.rt false)<|.k4 4<|.b4 false<|.rt false)<|.k4 3<|.b8 false<|.rt false)<|.br (v18==13) (.cs (decide (E0.N>=(-99))) (.k4 4<|.cs (decide (E0.N<=99)) (.k4 5<|.cs (decide (E0.M>=(-99))) (.k4 6<|.rt (decide (E0.M<=99)))<|.k4 6<|.rt false)<|.k4 5<|.b4 false<|.rt false)<|.k4 4<|.b8 false<|.rt false)<|.rt true
def pv(E0:ah)(v18:Int)(v25:Bool):LT lD Bool:=
.br v25 (.call (Z0i E0.Sub) λx2=>.rt x2)<|.br (v18==6) (.cs (decide (E0.N>=0)) (.k4 2<|.rt (decide (E0.N<=31)))<|.k4 2<|.rt false)<|.br (v18==7) (.cs (decide (E0.N>=1)) (.k4 3<|.rt (decide (E0.N<=31)))<|.k4 3<|.rt false)<|.br (v18==8) (.j0 (.L2 E0 v18 (v18==8)) (pt E0 v18 (v18==8)))<|.j0 (.L2 E0 v18 (v18==9)) (pt E0 v18 (v18==9))
def pz(E0:ah)(v18:Int)(v19:Bool):LT lD Bool:=
.br v19 (.call (Vo E0.N) λx2=>.rt x2)<|.br (v18==4) (.j0 (.L1 E0 v18 (v18==4)) (pv E0 v18 (v18==4)))<|.j0 (.L1 E0 v18 (v18==5)) (pv E0 v18 (v18==5))
def Hf(a0:ah):LT lD Bool:=
.lb 1001<|.cs (decide (a0.Kind<1)) (.k4 0<|.b5 true<|.kn [0]<|.rt false)<|.k4 0<|.cs (decide (a0.Kind>14)) (.k5 1<|.kn [0]<|.rt false)<|.k2 1<|.call (Vn a0) λx3=>.k3 1<|.br (!(ax (av x3) (av (⟨0,0,0,([]:By),(⟨0,0,0,0,0,0,0,([]:By),0,0,(⟨0,0⟩:ab),(⟨0,0⟩:ab),(⟨0,0⟩:ab)⟩:ai)⟩:ah)))) (.rt false)<|.br (a0.Kind==2) (.jn 0 (.L0 a0 a0.Kind (a0.Kind==2)) [.relab 1001 3000] (pz a0 a0.Kind (a0.Kind==2)))<|.jn 0 (.L0 a0 a0.Kind (a0.Kind==3)) [.relab 1001 3000] (pz a0 a0.Kind (a0.Kind==3))
def Hg:LF lD Bool :=.m0 141 [.t 2] wB λ|.L0 E0 v18 v19=>([1,1,0,1,4,1],⟨107,[(1,.bptr 3000 0),(18,wI v18),(19,wB v19)],[(3000,.box (bx (av E0)))]⟩,pz E0 v18 v19)|.L1 E0 v18 v25=>([1,1,0,1,4,1,3,1],⟨107,[(1,.bptr 3000 0),(18,wI v18),(25,wB v25)],[(3000,.box (bx (av E0)))]⟩,pv E0 v18 v25)|.L2 E0 v18 v51=>([1,1,0,1,4,1,3,1,3,1,3,1,3,1],⟨107,[(1,.bptr 3000 0),(18,wI v18),(51,wB v51)],[(3000,.box (bx (av E0)))]⟩,pt E0 v18 v51)
def yD:=λa0=>Hg.run (Hf a0)
def Hh(a0){r}(h:yD a0=some r):Fn PR 141 [wA (av a0)] (wB r):=Hg.fn h
inductive pA where
 |L0 (v0:Bys) (v1:Int) (v2:By) (v7:By) (v8:Int)
def yE(v0:Bys)(v1:Int)(v2:By)(v7:By)(v8:Int):LT pA (By):=
.len cS v0<|.br (decide (v8<(v0.length:Int))) (.call (Z84 v1 v8) λx3=>.br x3 (.br (!(v7==([]:By))) (.ok (v7.length+v2.length<=9223372036854775807)<|.idx cS v0 v8 λx10=>.ok ((v7++v2).length+x10.length<=9223372036854775807)<|.g0 (.L0 v0 v1 v2 ((v7++v2)++x10) (IntKind.wrap .i64 (v8+1))))<|.idx cS v0 v8 λx17=>.ok (v7.length+x17.length<=9223372036854775807)<|.g0 (.L0 v0 v1 v2 (v7++x17) (IntKind.wrap .i64 (v8+1))))<|.g0 (.L0 v0 v1 v2 v7 (IntKind.wrap .i64 (v8+1))))<|.rt v7
def Hi(a0:Bys)(a1:Int)(a2:By):LT pA (By):=
.g0 (.L0 a0 a1 a2 ([]:By) 0)
def Hj:LF pA (By) :=.m0 240 [.t 6] wS λ|.L0 v0 v1 v2 v7 v8=>([1,1,0,1,4],⟨30,[(0,wL cS v0),(1,wI v1),(2,wS v2),(7,wS v7),(8,wI v8)],[]⟩,yE v0 v1 v2 v7 v8)
def Z85:=λa0 a1 a2=>Hj.run (Hi a0 a1 a2)
def Vp(a0)(a1)(a2){r}(h:Z85 a0 a1 a2=some r):Fn PR 240 [wL cS a0,wI a1,wS a2] (wS r):=Hj.fn h
def Z3k(a0:Int):LT Empty (By):=
.cs (decide (a0<1)) (.k3 0<|.kn [0]<|.rt ([]:By))<|.k3 0<|.br (decide (a0>63)) (.rt ([]:By))<|.call (Z0h) λx3=>.call (Vp x3 a0 ([43]:By)) λx5=>.rt x5
def Z3l:LF Empty (By) :=.z0 187 [.t 2] wS
def yF:=λa0=>Z3l.run (Z3k a0)
def yG(a0){r}(h:yF a0=some r):Fn PR 187 [wI a0] (wS r):=Z3l.fn h
def Hk(a0:Int):LT Empty Bool:=
.cs (decide (a0>=0)) (.k3 0<|.rt (decide (a0<=31)))<|.k3 0<|.rt false
def Hl:LF Empty Bool :=.z0 241 [.t 2] wB
def yH:=λa0=>Hl.run (Hk a0)
def Vq(a0){r}(h:yH a0=some r):Fn PR 241 [wI a0] (wB r):=Hl.fn h
def Hm(a0:Int):LT Empty (By):=
.br (a0==0) (.rt ([97,109,98,101,114]:By))<|.br (a0==1) (.rt ([99,111,98,97,108,116]:By))<|.br (a0==2) (.rt ([106,101,116]:By))<|.br (a0==3) (.rt ([114,117,98,121]:By))<|.br (a0==4) (.rt ([101,109,101,114,97,108,100]:By))<|.rt ([]:By)
def Hn:LF Empty (By) :=.z0 242 [.t 2] wS
def yI:=λa0=>Hn.run (Hm a0)
def th(a0){r}(h:yI a0=some r):Fn PR 242 [wI a0] (wS r):=Hn.fn h
inductive pB where
 |L0 (v0:Int) (v3:By) (v4:Int)
def Z4z(v0:Int)(v3:By)(v4:Int):LT pB (By):=
.br (decide (v4<5)) (.ok (¬v4<0)<|.ok ((shlI .i64 1 v4)≠0)<|.dc ((2:Int)≠0) rfl<|.br ((Int.tmod (ff .i64 v0 (shlI .i64 1 v4)) 2)==1) (.br (!(v3==([]:By))) (.ok (v3.length+([43]:By).length<=9223372036854775807)<|.call (th v4) λx10=>.ok ((v3++([43]:By)).length+x10.length<=9223372036854775807)<|.g0 (.L0 v0 ((v3++([43]:By))++x10) (IntKind.wrap .i64 (v4+1))))<|.call (th v4) λx17=>.ok (v3.length+x17.length<=9223372036854775807)<|.g0 (.L0 v0 (v3++x17) (IntKind.wrap .i64 (v4+1))))<|.g0 (.L0 v0 v3 (IntKind.wrap .i64 (v4+1))))<|.rt v3
def Ho(a0:Int):LT pB (By):=
.call (Vq a0) λx1=>.br (!x1) (.rt ([]:By))<|.br (a0==0) (.rt ([110,111,110,101]:By))<|.g0 (.L0 a0 ([]:By) 0)
def Hp:LF pB (By) :=.m0 188 [.t 2] wS λ|.L0 v0 v3 v4=>([1,1,1,1,0,1,4],⟨29,[(0,wI v0),(3,wS v3),(4,wI v4)],[]⟩,Z4z v0 v3 v4)
def yJ:=λa0=>Hp.run (Ho a0)
def Hq(a0){r}(h:yJ a0=some r):Fn PR 188 [wI a0] (wS r):=Hp.fn h
def Hr:LT Empty (Bys):=
.lb 1001<|.ret [([102,108,121,105,110,103]:By),([114,101,97,99,104]:By),([104,97,115,116,101]:By),([118,105,103,105,108,97,110,116]:By),([116,114,97,109,112,108,101]:By),([102,105,114,115,116,45,115,116,114,105,107,101]:By),([100,111,117,98,108,101,45,115,116,114,105,107,101]:By),([100,101,97,100,108,121]:By),([108,105,102,101,108,105,110,107]:By),([109,101,110,97,99,101]:By),([100,101,102,101,110,100,101,114]:By),([119,97,114,100,101,100]:By),([115,116,117,114,100,121]:By),([101,108,117,115,105,118,101]:By),([110,111,45,97,116,116,97,99,107]:By),([110,111,45,98,108,111,99,107]:By),([109,117,115,116,45,97,116,116,97,99,107]:By)] [.relab 1001 5000]
def Hs:LF Empty (Bys) :=.z 299 [.t 0] true (λr=>[(5000,wR cS 1 r)]) (λr=>(wO cS 5000 r))
def Z3m:=Hs.run (Hr)
def Vr{r}(h:Z3m=some r):FnG PR 299 [] [] [(5000,wR cS 1 r)] (wO cS 5000 r):=Hs.fn h
def Vs{r:Bys}(h:Z3m=some r):Fn PR 299 [] (wL cS r):=FnG.frozen (C:=LT.RL cS r/\True) (Vr h) ⟨rfl,aa⟩ aq
def Ht(a0:Int):LT Empty (By):=
.cs (decide (a0<0)) (.k3 0<|.kn [0]<|.rt ([]:By))<|.k3 0<|.br (decide (a0>16)) (.rt ([]:By))<|.call (Vs) λx3=>.idx cS x3 a0 λx5=>.rt x5
def Hu:LF Empty (By) :=.z0 243 [.t 2] wS
def yK:=λa0=>Hu.run (Ht a0)
def Z40(a0){r}(h:yK a0=some r):Fn PR 243 [wI a0] (wS r):=Hu.fn h
inductive pC where
 |L0 (v0:Int) (v3:By) (v4:Int)
def Z41(v0:Int)(v3:By)(v4:Int):LT pC (By):=
.br (decide (v4<17)) (.dc ((2:Int)≠0) rfl<|.br ((Int.tmod v0 2)==1) (.br (!(v3==([]:By))) (.ok (v3.length+([43]:By).length<=9223372036854775807)<|.call (Z40 v4) λx6=>.ok ((v3++([43]:By)).length+x6.length<=9223372036854775807)<|.dc ((2:Int)≠0) rfl<|.g0 (.L0 (ff .i64 v0 2) ((v3++([43]:By))++x6) (IntKind.wrap .i64 (v4+1))))<|.call (Z40 v4) λx13=>.ok (v3.length+x13.length<=9223372036854775807)<|.dc ((2:Int)≠0) rfl<|.g0 (.L0 (ff .i64 v0 2) (v3++x13) (IntKind.wrap .i64 (v4+1))))<|.dc ((2:Int)≠0) rfl<|.g0 (.L0 (ff .i64 v0 2) v3 (IntKind.wrap .i64 (v4+1))))<|.br (v3==([]:By)) (.rt ([110,111,110,101]:By))<|.rt v3
def Hv(a0:Int):LT pC (By):=
.call (G8 a0) λx1=>.br (!x1) (.rt ([]:By))<|.g0 (.L0 a0 ([]:By) 0)
def Hw:LF pC (By) :=.m0 189 [.t 2] wS λ|.L0 v0 v3 v4=>([1,1,1,0,1,4],⟨28,[(0,wI v0),(3,wS v3),(4,wI v4)],[]⟩,Z41 v0 v3 v4)
def yL:=λa0=>Hw.run (Hv a0)
def Hx(a0){r}(h:yL a0=some r):Fn PR 189 [wI a0] (wS r):=Hw.fn h
def Z3n:LT Empty (Bys):=
.lb 1001<|.ret [([]:By),([105,110,45,104,97,110,100]:By),([105,110,45,108,105,98,114,97,114,121]:By),([105,110,45,103,114,97,118,101,121,97,114,100]:By),([105,110,45,101,120,105,108,101]:By),([111,110,45,115,116,97,99,107]:By)] [.relab 1001 5000]
def Z3o:LF Empty (Bys) :=.z 244 [.t 0] true (λr=>[(5000,wR cS 1 r)]) (λr=>(wO cS 5000 r))
def ti:=Z3o.run (Z3n)
def Vt{r}(h:ti=some r):FnG PR 244 [] [] [(5000,wR cS 1 r)] (wO cS 5000 r):=Z3o.fn h
def Vu{r:Bys}(h:ti=some r):Fn PR 244 [] (wL cS r):=FnG.frozen (C:=LT.RL cS r/\True) (Vt h) ⟨rfl,aa⟩ aq
def Z62:LT Empty (Bys):=
.lb 1001<|.ret [([]:By),([121,111,117,114,115]:By),([116,104,101,105,114,115]:By)] [.relab 1001 5000]
def Z63:LF Empty (Bys) :=.z 245 [.t 0] true (λr=>[(5000,wR cS 1 r)]) (λr=>(wO cS 5000 r))
def tj:=Z63.run (Z62)
def Vv{r}(h:tj=some r):FnG PR 245 [] [] [(5000,wR cS 1 r)] (wO cS 5000 r):=Z63.fn h
def Vw{r:Bys}(h:tj=some r):Fn PR 245 [] (wL cS r):=FnG.frozen (C:=LT.RL cS r/\True) (Vv h) ⟨rfl,aa⟩ aq
def Z3p:LT Empty (Bys):=
.lb 1001<|.ret [([]:By),([115,101,108,102]:By),([111,116,104,101,114]:By)] [.relab 1001 5000]
def Z3q:LF Empty (Bys) :=.z 246 [.t 0] true (λr=>[(5000,wR cS 1 r)]) (λr=>(wO cS 5000 r))
def tk:=Z3q.run (Z3p)
def Vx{r}(h:tk=some r):FnG PR 246 [] [] [(5000,wR cS 1 r)] (wO cS 5000 r):=Z3q.fn h
def Vy{r:Bys}(h:tk=some r):Fn PR 246 [] (wL cS r):=FnG.frozen (C:=LT.RL cS r/\True) (Vx h) ⟨rfl,aa⟩ aq
def Z64:LT Empty (Bys):=
.lb 1001<|.ret [([]:By),([116,97,112,112,101,100]:By),([117,110,116,97,112,112,101,100]:By)] [.relab 1001 5000]
def Z65:LF Empty (Bys) :=.z 247 [.t 0] true (λr=>[(5000,wR cS 1 r)]) (λr=>(wO cS 5000 r))
def tl:=Z65.run (Z64)
def Vz{r}(h:tl=some r):FnG PR 247 [] [] [(5000,wR cS 1 r)] (wO cS 5000 r):=Z65.fn h
def VA{r:Bys}(h:tl=some r):Fn PR 247 [] (wL cS r):=FnG.frozen (C:=LT.RL cS r/\True) (Vz h) ⟨rfl,aa⟩ aq
inductive pD where
 |L0 (v0:Int) (v1:Int) (v5:Int)
def Z86(v0:Int)(v1:Int)(v5:Int):LT pD Bool:=
.br (decide (v5<v1)) (.dc ((2:Int)≠0) rfl<|.g0 (.L0 (ff .i64 v0 2) v1 (IntKind.wrap .i64 (v5+1))))<|.dc ((2:Int)≠0) rfl<|.rt ((Int.tmod v0 2)==1)
def Hy(a0:Int)(a1:Int):LT pD Bool:=
.g0 (.L0 a0 a1 0)
def Hz:LF pD Bool :=.m0 249 [.t 4] wB λ|.L0 v0 v1 v5=>([1,0,1,4],⟨16,[(0,wI v0),(1,wI v1),(5,wI v5)],[]⟩,Z86 v0 v1 v5)
def yM:=λa0 a1=>Hz.run (Hy a0 a1)
def pE(a0)(a1){r}(h:yM a0 a1=some r):Fn PR 249 [wI a0,wI a1] (wB r):=Hz.fn h
inductive pF where
 |L0 (v0:Int) (v3:Int) (v4:Int)
def yN(v0:Int)(v3:Int)(v4:Int):LT pF (By):=
.br (decide (v4<v0)) (.g0 (.L0 v0 (IntKind.wrap .i64 (v3*2)) (IntKind.wrap .i64 (v4+1))))<|.call (yG v3) λx6=>.rt x6
def Z66(a0:Int):LT pF (By):=
.g0 (.L0 a0 1 0)
def Z67:LF pF (By) :=.m0 250 [.t 2] wS λ|.L0 v0 v3 v4=>([1,1,0,1,4],⟨14,[(0,wI v0),(3,wI v3),(4,wI v4)],[]⟩,yN v0 v3 v4)
def Z0n:=λa0=>Z67.run (Z66 a0)
def Z3r(a0){r}(h:Z0n a0=some r):Fn PR 250 [wI a0] (wS r):=Z67.fn h
def HA:LT Empty (Bys):=
.lb 1001<|.ret [([]:By),([62,61]:By),([60,61]:By),([61]:By)] [.relab 1001 5000]
def HB:LF Empty (Bys) :=.z 300 [.t 0] true (λr=>[(5000,wR cS 1 r)]) (λr=>(wO cS 5000 r))
def Z3s:=HB.run (HA)
def VB{r}(h:Z3s=some r):FnG PR 300 [] [] [(5000,wR cS 1 r)] (wO cS 5000 r):=HB.fn h
def VC{r:Bys}(h:Z3s=some r):Fn PR 300 [] (wL cS r):=FnG.frozen (C:=LT.RL cS r/\True) (VB h) ⟨rfl,aa⟩ aq
inductive Z0o where
 |L0 (v0:Int) (v3:By)
def lE(v0:Int)(v3:By):LT Z0o (By):=
.br (decide (v0>0)) (.dc ((10:Int)≠0) rfl<|.dr [.lit]<|.str [IntKind.wrap .u8 (IntKind.wrap .u64 (48+(Int.tmod v0 10)))] λx4=>.ok (x4.length+v3.length<=9223372036854775807)<|.dc ((10:Int)≠0) rfl<|.g0 (.L0 (ff .u64 v0 10) (x4++v3)))<|.rt v3
def HC(a0:Int):LT Z0o (By):=
.dc ((10:Int)≠0) rfl<|.dr [.lit]<|.str [IntKind.wrap .u8 (IntKind.wrap .u64 (48+(Int.tmod a0 10)))] λx3=>.dc ((10:Int)≠0) rfl<|.g0 (.L0 (ff .u64 a0 10) x3)
def tn:LF Z0o (By) :=.m0 253 [.t 2] wS λ|.L0 v0 v3=>([1,1,0,1,4],⟨25,[(0,.t (.int .u64 v0)),(3,wS v3)],[]⟩,lE v0 v3)
def Z87:=λa0=>tn.run (HC a0)
def Z99(a0){r}(h:Z87 a0=some r):Fn PR 253 [.t (.int .u64 a0)] (wS r):=tn.fn h
def HD(a0:Int):LT Empty (By):=
.br (decide (a0<0)) (.call (Z99 (IntKind.wrap .u64 (0-(IntKind.wrap .u64 a0)))) λx4=>.ok (([45]:By).length+x4.length<=9223372036854775807)<|.rt (([45]:By)++x4))<|.call (Z99 (IntKind.wrap .u64 a0)) λx10=>.rt x10
def HE:LF Empty (By) :=.z0 191 [.t 2] wS
def yO:=λa0=>HE.run (HD a0)
def mT(a0){r}(h:yO a0=some r):Fn PR 191 [wI a0] (wS r):=HE.fn h
def Z3t(a0:By)(a1:ab):LT Empty (By):=
.lb 1003<|.br (a1.Kind==0) (.rt ([]:By))<|.call (VC) λx2=>.idx cS x2 a1.Kind λx4=>.ok (a0.length+x4.length<=9223372036854775807)<|.call (mT a1.N) λx10=>.ok ((a0++x4).length+x10.length<=9223372036854775807)<|.rt ((a0++x4)++x10)
def Z3u:LF Empty (By) :=.z0 251 [.t 4] wS
def yP:=λa0 a1=>Z3u.run (Z3t a0 a1)
def yQ(a0)(a1){r}(h:yP a0 a1=some r):Fn PR 251 [wS a0,wA (eG a1)] (wS r):=Z3u.fn h
inductive pG where
 |L0 (v0:Bys) (v1:By) (v5:By) (v6:Int)
def Z42(v0:Bys)(v1:By)(v5:By)(v6:Int):LT pG (By):=
.len cS v0<|.br (decide (v6<(v0.length:Int))) (.br (decide (v6>0)) (.ok (v5.length+v1.length<=9223372036854775807)<|.idx cS v0 v6 λx7=>.ok ((v5++v1).length+x7.length<=9223372036854775807)<|.g0 (.L0 v0 v1 ((v5++v1)++x7) (IntKind.wrap .i64 (v6+1))))<|.idx cS v0 v6 λx14=>.ok (v5.length+x14.length<=9223372036854775807)<|.g0 (.L0 v0 v1 (v5++x14) (IntKind.wrap .i64 (v6+1))))<|.rt v5
def HF(a0:Bys)(a1:By):LT pG (By):=
.g0 (.L0 a0 a1 ([]:By) 0)
def HG:LF pG (By) :=.m0 252 [.t 4] wS λ|.L0 v0 v1 v5 v6=>([1,1,0,1,4],⟨25,[(0,wL cS v0),(1,wS v1),(5,wS v5),(6,wI v6)],[]⟩,Z42 v0 v1 v5 v6)
def yR:=λa0 a1=>HG.run (HF a0 a1)
def VD(a0)(a1){r}(h:yR a0 a1=some r):Fn PR 252 [wL cS a0,wS a1] (wS r):=HG.fn h
def Z68(b0:Bys)(a1:By):LT Empty (Bys):=
.br (a1==([]:By)) (.ret b0 [.relab 0 5000])<|.dr [.lit]<|.apR cS 16 b0 [a1] λx2=>.ret x2 [.relab 0 5000]
def Z69:LF Empty (Bys) :=.z 248 [.t 4] true (λr=>[(5000,wR cS 1 r)]) (λr=>(wO cS 5000 r))
def Z0p:=λb0 a1=>Z69.run (Z68 b0 a1)
def lF(b0)(a1){r}(h:Z0p b0 a1=some r):FnG PR 248 [(0,wR cS 1 b0)] [wO cS 0 b0,wS a1] [(5000,wR cS 1 r)] (wO cS 5000 r):=Z69.fn h
inductive iW where
 |L0 (E0:ai) (v6:Bys) (v7:Bys) (v8:Int)
 |L1 (E0:ai) (v6:Bys) (v7:Bys) (v9:Int)
 |L2 (E0:ai) (v6:Bys) (v7:Bys) (v10:Int)
 |L3 (E0:ai) (v6:Bys) (v7:Bys) (v11:Int)
 |L4 (E0:ai) (v6:Bys) (v7:Bys)
 |L5 (E0:ai) (v6:Bys) (v7:Bys) (v12:Int)
def pH(E0:ai)(v6:Bys)(v7:Bys):LT iW (By):=
.g0 (.L5 E0 v6 v7 0)
def Z43(E0:ai)(v6:Bys)(v7:Bys)(v8:Int):LT iW (By):=
.br (decide (v8<6)) (.call (pE E0.Types v8) λx2=>.br x2 (.call (Z3r v8) λx5=>.dr [.lit]<|.apR cS 16 v7 [x5] λx7=>.g0 (.L0 E0 v6 x7 (IntKind.wrap .i64 (v8+1))))<|.g0 (.L0 E0 v6 v7 (IntKind.wrap .i64 (v8+1))))<|.g0 (.L1 E0 v6 v7 0)
def Z44(E0:ai)(v6:Bys)(v7:Bys)(v9:Int):LT iW (By):=
.br (decide (v9<6)) (.call (pE E0.NotTypes v9) λx2=>.br x2 (.call (Z3r v9) λx5=>.ok (([110,111,110,45]:By).length+x5.length<=9223372036854775807)<|.dr [.lit]<|.apR cS 16 v7 [([110,111,110,45]:By)++x5] λx10=>.g0 (.L1 E0 v6 x10 (IntKind.wrap .i64 (v9+1))))<|.g0 (.L1 E0 v6 v7 (IntKind.wrap .i64 (v9+1))))<|.g0 (.L2 E0 v6 v7 0)
def Z45(E0:ai)(v6:Bys)(v7:Bys)(v10:Int):LT iW (By):=
.br (decide (v10<5)) (.call (pE E0.Colors v10) λx2=>.br x2 (.call (th v10) λx5=>.dr [.lit]<|.apR cS 16 v7 [x5] λx7=>.g0 (.L2 E0 v6 x7 (IntKind.wrap .i64 (v10+1))))<|.g0 (.L2 E0 v6 v7 (IntKind.wrap .i64 (v10+1))))<|.g0 (.L3 E0 v6 v7 0)
def Z46(E0:ai)(v6:Bys)(v7:Bys)(v11:Int):LT iW (By):=
.br (decide (v11<5)) (.call (pE E0.NotColors v11) λx2=>.br x2 (.call (th v11) λx5=>.ok (([110,111,110,45]:By).length+x5.length<=9223372036854775807)<|.dr [.lit]<|.apR cS 16 v7 [([110,111,110,45]:By)++x5] λx10=>.g0 (.L3 E0 v6 x10 (IntKind.wrap .i64 (v11+1))))<|.g0 (.L3 E0 v6 v7 (IntKind.wrap .i64 (v11+1))))<|.br (!(E0.Sub==([]:By))) (.ok (([115,117,98,58]:By).length+E0.Sub.length<=9223372036854775807)<|.dr [.lit]<|.apR cS 16 v7 [([115,117,98,58]:By)++E0.Sub] λx21=>.j0 (.L4 E0 v6 x21) (pH E0 v6 x21))<|.j0 (.L4 E0 v6 v7) (pH E0 v6 v7)
def Z47(E0:ai)(v6:Bys)(v7:Bys)(v12:Int):LT iW (By):=
.br (decide (v12<17)) (.call (pE E0.Keys v12) λx2=>.br x2 (.call (Z40 v12) λx5=>.ok (([119,105,116,104,58]:By).length+x5.length<=9223372036854775807)<|.dr [.lit]<|.apR cS 16 v7 [([119,105,116,104,58]:By)++x5] λx10=>.g0 (.L5 E0 v6 x10 (IntKind.wrap .i64 (v12+1))))<|.g0 (.L5 E0 v6 v7 (IntKind.wrap .i64 (v12+1))))<|.idx cS v6 E0.Tap λx17=>.callU (lF v7 x17) [20007] 1250000 λx19=>.call (yQ ([112,111,119,101,114]:By) E0.Power) λx21=>.callU (lF x19 x21) [1255000] 1300000 λx23=>.call (yQ ([116,111,117,103,104]:By) E0.Tough) λx25=>.callU (lF x23 x25) [1305000] 1350000 λx27=>.call (yQ ([118,97,108,117,101]:By) E0.Value) λx29=>.callU (lF x27 x29) [1355000] 1400000 λx31=>.lenO cS x31<|.br ((x31.length:Int)==0) (.rt ([97,110,121]:By))<|.rl cS x31<|.call (VD x31 ([32]:By)) λx34=>.rt x34
def HH(a0:ai):LT iW (By):=
.lb 1001<|.call (ij a0) λx1=>.br (!x1) (.rt ([]:By))<|.call (Vu) λx4=>.call (Vw) λx6=>.call (Vy) λx8=>.call (VA) λx10=>.idx cS x4 a0.Zone λx12=>.dr [.ahead 26,.own 20 70260 1,.stop]<|.callU (lF ([]:Bys) x12) [70260] 270000 λx14=>.idx cS x6 a0.Who λx16=>.callU (lF x14 x16) [275000] 340000 λx18=>.idx cS x8 a0.Self λx20=>.callU (lF x18 x20) [345000] 410000 λx22=>.go (.L0 a0 x10 x22 0) [.relab 1001 3000,.relab 415000 20007]
def HJ:LF iW (By) :=.m0 190 [.t 2] wS λ|.L0 E0 v6 v7 v8=>([1,1,1,1,1,1,1,1,1,1,0,1,4],⟨145,[(1,.bptr 3000 0),(6,wL cS v6),(7,wO cS 20007 v7),(8,wI v8)],[(3000,.box (bx (bg E0))),(20007,wR cS 1 v7)]⟩,Z43 E0 v6 v7 v8)|.L1 E0 v6 v7 v9=>([1,1,1,1,1,1,1,1,1,1,1,0,1,4],⟨145,[(1,.bptr 3000 0),(6,wL cS v6),(7,wO cS 20007 v7),(9,wI v9)],[(3000,.box (bx (bg E0))),(20007,wR cS 1 v7)]⟩,Z44 E0 v6 v7 v9)|.L2 E0 v6 v7 v10=>([1,1,1,1,1,1,1,1,1,1,1,1,0,1,4],⟨145,[(1,.bptr 3000 0),(6,wL cS v6),(7,wO cS 20007 v7),(10,wI v10)],[(3000,.box (bx (bg E0))),(20007,wR cS 1 v7)]⟩,Z45 E0 v6 v7 v10)|.L3 E0 v6 v7 v11=>([1,1,1,1,1,1,1,1,1,1,1,1,1,0,1,4],⟨145,[(1,.bptr 3000 0),(6,wL cS v6),(7,wO cS 20007 v7),(11,wI v11)],[(3000,.box (bx (bg E0))),(20007,wR cS 1 v7)]⟩,Z46 E0 v6 v7 v11)|.L4 E0 v6 v7=>([1,1,1,1,1,1,1,1,1,1,1,1,1,1,1],⟨145,[(1,.bptr 3000 0),(6,wL cS v6),(7,wO cS 20007 v7)],[(3000,.box (bx (bg E0))),(20007,wR cS 1 v7)]⟩,pH E0 v6 v7)|.L5 E0 v6 v7 v12=>([1,1,1,1,1,1,1,1,1,1,1,1,1,1,1,0,1,4],⟨145,[(1,.bptr 3000 0),(6,wL cS v6),(7,wO cS 20007 v7),(12,wI v12)],[(3000,.box (bx (bg E0))),(20007,wR cS 1 v7)]⟩,Z47 E0 v6 v7 v12)
def yS:=λa0=>HJ.run (HH a0)
def VE(a0){r}(h:yS a0=some r):Fn PR 190 [wA (bg a0)] (wS r):=HJ.fn h
def HK(a0:ah):LT Empty (By):=
.lb 1001<|.call (Hh a0) λx1=>.br (!x1) (.rt ([]:By))<|.br (a0.Kind==1) (.rt ([99,111,110,116,114,111,108]:By))<|.br (a0.Kind==2) (.call (yG a0.N) λx6=>.ok (([116,121,112,101,115,61]:By).length+x6.length<=9223372036854775807)<|.rt (([116,121,112,101,115,61]:By)++x6))<|.br (a0.Kind==3) (.call (yG a0.N) λx12=>.ok (([116,121,112,101,115,43,61]:By).length+x12.length<=9223372036854775807)<|.rt (([116,121,112,101,115,43,61]:By)++x12))<|.br (a0.Kind==4) (.ok (([115,117,98,61]:By).length+a0.Sub.length<=9223372036854775807)<|.rt (([115,117,98,61]:By)++a0.Sub))<|.br (a0.Kind==5) (.ok (([115,117,98,43,61]:By).length+a0.Sub.length<=9223372036854775807)<|.rt (([115,117,98,43,61]:By)++a0.Sub))<|.br (a0.Kind==6) (.call (Hq a0.N) λx26=>.ok (([99,111,108,111,114,115,61]:By).length+x26.length<=9223372036854775807)<|.rt (([99,111,108,111,114,115,61]:By)++x26))<|.br (a0.Kind==7) (.call (Hq a0.N) λx32=>.ok (([99,111,108,111,114,115,43,61]:By).length+x32.length<=9223372036854775807)<|.rt (([99,111,108,111,114,115,43,61]:By)++x32))<|.br (a0.Kind==8) (.call (Hx a0.N) λx38=>.ok (([107,101,121,115,43,61]:By).length+x38.length<=9223372036854775807)<|.rt (([107,101,121,115,43,61]:By)++x38))<|.br (a0.Kind==9) (.call (Hx a0.N) λx44=>.ok (([107,101,121,115,45,61]:By).length+x44.length<=9223372036854775807)<|.rt (([107,101,121,115,45,61]:By)++x44))<|.br (a0.Kind==10) (.rt ([98,108,97,110,107]:By))<|.br (a0.Kind==11) (.call (VE a0.Filter) λx51=>.ok (([112,116,61,99,111,117,110,116,40]:By).length+x51.length<=9223372036854775807)<|.ok ((([112,116,61,99,111,117,110,116,40]:By)++x51).length+([41]:By).length<=9223372036854775807)<|.rt ((([112,116,61,99,111,117,110,116,40]:By)++x51)++([41]:By)))<|.br (a0.Kind==12) (.call (mT a0.N) λx58=>.ok (([112,116,61]:By).length+x58.length<=9223372036854775807)<|.ok ((([112,116,61]:By)++x58).length+([47]:By).length<=9223372036854775807)<|.call (mT a0.M) λx65=>.ok (((([112,116,61]:By)++x58)++([47]:By)).length+x65.length<=9223372036854775807)<|.rt (((([112,116,61]:By)++x58)++([47]:By))++x65))<|.br (a0.Kind==13) (.call (mT a0.N) λx71=>.ok (([112,116,43,61]:By).length+x71.length<=9223372036854775807)<|.ok ((([112,116,43,61]:By)++x71).length+([47]:By).length<=9223372036854775807)<|.call (mT a0.M) λx78=>.ok (((([112,116,43,61]:By)++x71)++([47]:By)).length+x78.length<=9223372036854775807)<|.rt (((([112,116,43,61]:By)++x71)++([47]:By))++x78))<|.rt ([112,116,45,115,119,105,116,99,104]:By)
def HL:LF Empty (By) :=.z0 142 [.t 2] wS
def yU:=λa0=>HL.run (HK a0)
def HM(a0){r}(h:yU a0=some r):Fn PR 142 [wA (av a0)] (wS r):=HL.fn h
inductive pI where
 |L0 (v0:List ah) (v3:By) (v4:Int)
def yV(v0:List ah)(v3:By)(v4:Int):LT pI (By):=
.len av v0<|.br (decide (v4<(v0.length:Int))) (.idx av v0 v4 λx3=>.call (Hh x3) λx5=>.br (!x5) (.rt ([]:By))<|.br (decide (v4>0)) (.ok (v3.length+([44,32]:By).length<=9223372036854775807)<|.ag av x3 0<|.call (HM x3) λx11=>.ok ((v3++([44,32]:By)).length+x11.length<=9223372036854775807)<|.g0 (.L0 v0 ((v3++([44,32]:By))++x11) (IntKind.wrap .i64 (v4+1))))<|.ag av x3 0<|.call (HM x3) λx17=>.ok (v3.length+x17.length<=9223372036854775807)<|.g0 (.L0 v0 (v3++x17) (IntKind.wrap .i64 (v4+1))))<|.rt v3
def Z7a(a0:List ah):LT pI (By):=
.len av a0<|.cs ((a0.length:Int)==0) (.k4 0<|.kn [0]<|.rt ([]:By))<|.k2 0<|.len av a0<|.k2 0<|.br (decide ((a0.length:Int)>6)) (.rt ([]:By))<|.g0 (.L0 a0 ([]:By) 0)
def Z7b:LF pI (By) :=.m0 103 [.t 2] wS λ|.L0 v0 v3 v4=>([1,1,1,0,1,4],⟨37,[(0,wL av v0),(3,wS v3),(4,wI v4)],[]⟩,yV v0 v3 v4)
def Z0q:=λa0=>Z7b.run (Z7a a0)
def yW(a0){r}(h:Z0q a0=some r):Fn PR 103 [wL av a0] (wS r):=Z7b.fn h
def HN(a0:eU):LT Empty Bool:=
.lb 1001<|.call (Z3h a0.Mana) λx1=>.cs x1 (.k5 0<|.cs (a0.Mana.X==0) (.k4 1<|.cs (decide (a0.Life>=0)) (.k4 2<|.rt (decide (a0.Life<=99)))<|.k4 2<|.rt false)<|.k4 1<|.b4 false<|.rt false)<|.k5 0<|.b8 false<|.rt false
def HO:LF Empty Bool :=.z0 129 [.t 2] wB
def yX:=λa0=>HO.run (HN a0)
def VF(a0){r}(h:yX a0=some r):Fn PR 129 [wA (gB a0)] (wB r):=HO.fn h
def HP(a0:Int):LT Empty (By):=
.br (a0==1) (.rt ([101,110,116,101,114,115]:By))<|.br (a0==2) (.rt ([108,101,97,118,101,115]:By))<|.br (a0==3) (.rt ([100,105,101,115]:By))<|.br (a0==4) (.rt ([97,116,116,97,99,107,115]:By))<|.br (a0==5) (.rt ([98,108,111,99,107,115]:By))<|.br (a0==6) (.rt ([100,101,97,108,115]:By))<|.br (a0==7) (.rt ([100,101,97,108,116]:By))<|.br (a0==8) (.rt ([100,114,97,119,115]:By))<|.br (a0==9) (.rt ([99,97,115,116,115]:By))<|.br (a0==10) (.rt ([117,112,107,101,101,112]:By))<|.br (a0==11) (.rt ([101,110,100]:By))<|.br (a0==12) (.rt ([103,97,105,110,115]:By))<|.br (a0==13) (.rt ([108,111,115,101,115]:By))<|.br (a0==14) (.rt ([112,108,97,99,101,100]:By))<|.rt ([]:By)
def HQ:LF Empty (By) :=.z0 176 [.t 2] wS
def yY:=λa0=>HQ.run (HP a0)
def HR(a0){r}(h:yY a0=some r):Fn PR 176 [wI a0] (wS r):=HQ.fn h
def HS(a0:Int):LT Empty Bool:=
.cs (a0==8) (.k3 0<|.b8 true<|.b4 true<|.rt true)<|.k3 0<|.cs (a0==9) (.k3 1<|.b8 true<|.kb true<|.rt true)<|.k3 1<|.cs (a0==10) (.k3 2<|.b5 true<|.kb true<|.rt true)<|.k3 2<|.cs (a0==11) (.k3 3<|.b3 true<|.rt true)<|.k3 3<|.cs (a0==12) (.k3 4<|.rt true)<|.k3 4<|.rt (a0==13)
def HT:LF Empty Bool :=.z0 177 [.t 2] wB
def Z88:=λa0=>HT.run (HS a0)
def HU(a0){r}(h:Z88 a0=some r):Fn PR 177 [wI a0] (wB r):=HT.fn h
def Z3v(a0:Int):LT Empty Bool:=
.call (HR a0) λx1=>.cs (!(x1==([]:By))) (.k2 0<|.call (HU a0) λx4=>.k2 0<|.cs (!x4) (.k2 1<|.kg 0<|.kg 1<|.kg 0<|.rt true)<|.k2 1<|.kg 0<|.kg 1<|.kg 0<|.rt (a0==9))<|.k5 0<|.kg 0<|.rt false
def Z3w:LF Empty Bool :=.z0 178 [.t 2] wB
def yZ:=λa0=>Z3w.run (Z3v a0)
def VG(a0){r}(h:yZ a0=some r):Fn PR 178 [wI a0] (wB r):=Z3w.fn h
inductive Z0r where
 |L0 (E0:dM)
def pJ(E0:dM):LT Z0r Bool:=
.call (VG E0.When) λx1=>.br (!x1) (.rt (ax (bg E0.Filter) (bg (⟨0,0,0,0,0,0,0,([]:By),0,0,(⟨0,0⟩:ab),(⟨0,0⟩:ab),(⟨0,0⟩:ab)⟩:ai))))<|.br (E0.When==9) (.call (ij E0.Filter) λx5=>.cs x5 (.k5 2<|.kg 2<|.rt (E0.Filter.Zone==5))<|.k5 2<|.kg 2<|.rt false)<|.call (ij E0.Filter) λx8=>.cs x8 (.k5 2<|.kg 2<|.rt (E0.Filter.Zone==0))<|.k5 2<|.kg 2<|.rt false
def HV(a0:dM):LT Z0r Bool:=
.lb 1001<|.call (HR a0.When) λx1=>.cs (x1==([]:By)) (.k4 0<|.b8 true<|.b3 true<|.kn [0]<|.rt false)<|.k4 0<|.cs (decide (a0.Who<0)) (.k4 1<|.b5 true<|.b2 true<|.kn [0]<|.rt false)<|.k4 1<|.cs (decide (a0.Who>2)) (.k5 2<|.k2 2<|.kn [0]<|.rt false)<|.k3 2<|.call (HU a0.When) λx6=>.k2 2<|.cs (!x6) (.k3 3<|.kg 2<|.kg 3<|.kg 2<|.br (a0.Who != 0) (.rt false)<|.jn 0 (.L0 a0) [.relab 1001 3000] (pJ a0))<|.k3 3<|.kg 2<|.kg 3<|.kg 2<|.kn [0]<|.jn 0 (.L0 a0) [.relab 1001 3000] (pJ a0)
def HW:LF Z0r Bool :=.m0 130 [.t 2] wB λ|.L0 E0=>([1,1],⟨50,[(1,.bptr 3000 0)],[(3000,.box (bx (fZ E0)))]⟩,pJ E0)
def za:=λa0=>HW.run (HV a0)
def VH(a0){r}(h:za a0=some r):Fn PR 130 [wA (fZ a0)] (wB r):=HW.fn h
def HX(a0:ai):LT Empty Bool:=
.lb 1001<|.call (ij a0) λx1=>.cs x1 (.k4 0<|.rt (a0.Zone==0))<|.k4 0<|.rt false
def HY:LF Empty Bool :=.z0 181 [.t 2] wB
def zd:=λa0=>HY.run (HX a0)
def Z0s(a0){r}(h:zd a0=some r):Fn PR 181 [wA (bg a0)] (wB r):=HY.fn h
def H0(a0:cE):LT Empty Bool:=
.lb 1001<|.cs (a0.Who != 0) (.k5 0<|.kn [0]<|.rt false)<|.k3 0<|.call (Z0s a0.Filter) λx2=>.k2 0<|.br (!x2) (.rt false)<|.br (a0.Do==5) (.cs (a0.N==0) (.k4 3<|.cs (a0.Counter==0) (.k4 4<|.cs (a0.Zone==1) (.k3 5<|.kg 4<|.kg 5<|.kg 4<|.b3 true<|.kg 4<|.kb true<|.kg 4<|.rt true)<|.k3 5<|.kg 4<|.kg 5<|.kg 4<|.cs (a0.Zone==2) (.k3 6<|.kg 4<|.kg 6<|.kg 4<|.rt true)<|.k3 6<|.kg 4<|.kg 6<|.kg 4<|.rt (a0.Zone==4))<|.k8 4<|.rt false)<|.k4 3<|.b8 false<|.rt false)<|.br (a0.Do==6) (.cs (a0.N==0) (.k4 4<|.cs (a0.Counter==0) (.k4 5<|.rt (a0.Zone==0))<|.k4 5<|.rt false)<|.k4 4<|.b4 false<|.rt false)<|.br (a0.Do==7) (.cs (a0.Zone==0) (.k4 5<|.cs (decide (a0.N>=1)) (.k4 6<|.cs (decide (a0.N<=99)) (.k4 7<|.cs (decide (a0.Counter>=0)) (.k4 8<|.rt (decide (a0.Counter<3)))<|.k4 8<|.rt false)<|.k4 7<|.b4 false<|.rt false)<|.k4 6<|.b8 false<|.rt false)<|.k4 5<|.b8 false<|.b4 false<|.rt false)<|.rt false
def H1:LF Empty Bool :=.z0 179 [.t 2] wB
def ze:=λa0=>H1.run (H0 a0)
def VI(a0){r}(h:ze a0=some r):Fn PR 179 [wA (eZ a0)] (wB r):=H1.fn h
def H2(a0:cE):LT Empty Bool:=
.lb 1001<|.cs (a0.Zone != 0) (.k4 0<|.kn [0]<|.rt false)<|.k4 0<|.br (a0.Counter != 0) (.rt false)<|.cs (a0.Do==2) (.k4 2<|.kn [0]<|.cs (decide (a0.N>=1)) (.k4 3<|.rt (decide (a0.N<=99)))<|.k4 3<|.rt false)<|.k4 2<|.br (a0.Do==4) (.cs (decide (a0.N>=1)) (.k4 4<|.rt (decide (a0.N<=99)))<|.k4 4<|.rt false)<|.rt (a0.N==0)
def H3:LF Empty Bool :=.z0 180 [.t 2] wB
def zf:=λa0=>H3.run (H2 a0)
def VJ(a0){r}(h:zf a0=some r):Fn PR 180 [wA (eZ a0)] (wB r):=H3.fn h
inductive lG where
 |L0 (E0:cE) (v3:Bool) (v4:Bool)
 |L1 (E0:cE) (v3:Bool)
 |L2 (E0:cE) (v3:Bool) (v4:Bool) (v109:Bool)
def mU(E0:cE)(v3:Bool)(v4:Bool)(v109:Bool):LT lG Bool:=
.br v109 (.cs v4 (.k4 1<|.cs (decide (E0.Who>=0)) (.k4 2<|.cs (decide (E0.Who<=2)) (.k2 3<|.rt v3)<|.k2 3<|.rt false)<|.k4 2<|.b2 false<|.rt false)<|.k4 1<|.b5 false<|.kb false<|.rt false)<|.rt false
def lH(E0:cE)(v3:Bool):LT lG Bool:=
.cs (E0.Who==0) (.k3 0<|.call (Z0s E0.Filter) λx2=>.kg 0<|.cs x2 (.k8 1<|.rt true)<|.k4 1<|.cs (E0.Who==1) (.k3 2<|.kg 1<|.kg 2<|.kg 1<|.kb true<|.kg 1<|.kb true<|.kg 1<|.rt v3)<|.k3 2<|.kg 1<|.kg 2<|.kg 1<|.cs (E0.Who==2) (.kg 3<|.kg 1<|.kg 3<|.kg 1<|.rt v3)<|.kg 3<|.kg 1<|.kg 3<|.kg 1<|.rt false)<|.k4 0<|.b4 false<|.cs (E0.Who==1) (.k3 1<|.kb false<|.kg 1<|.kb false<|.kb true<|.kb false<|.kb true<|.kb false<|.rt v3)<|.k3 1<|.kb false<|.kg 1<|.kb false<|.cs (E0.Who==2) (.kg 2<|.kb false<|.kg 2<|.kb false<|.rt v3)<|.kg 2<|.kb false<|.kg 2<|.kb false<|.rt false
def mV(E0:cE)(v3:Bool)(v4:Bool):LT lG Bool:=
.br (E0.On==1) (.cs (E0.Do != 1) (.k4 1<|.cs (E0.Do != 2) (.k4 2<|.cs (E0.Do != 3) (.k4 3<|.br (E0.Do != 4) (.rt false)<|.j0 (.L1 E0 v3) (lH E0 v3))<|.k4 3<|.kn [0]<|.j0 (.L1 E0 v3) (lH E0 v3))<|.k4 2<|.b4 false<|.kn [0]<|.j0 (.L1 E0 v3) (lH E0 v3))<|.k4 1<|.b8 false<|.kn [0]<|.j0 (.L1 E0 v3) (lH E0 v3))<|.br (E0.On==8) (.cs v4 (.k4 2<|.cs (E0.Who==0) (.k3 3<|.call (Z0s E0.Filter) λx9=>.kg 3<|.rt x9)<|.k4 3<|.rt false)<|.k4 2<|.b4 false<|.rt false)<|.br (E0.On==3) (.cs (E0.Do==4) (.k4 3<|.b4 true<|.cs (decide (E0.Who>=0)) (.k4 4<|.cs (decide (E0.Who<=2)) (.k2 5<|.rt v3)<|.k2 5<|.rt false)<|.k4 4<|.b2 false<|.rt false)<|.k4 3<|.cs (E0.Do==8) (.k4 4<|.cs (decide (E0.Who>=0)) (.k4 5<|.cs (decide (E0.Who<=2)) (.k2 6<|.rt v3)<|.k2 6<|.rt false)<|.k4 5<|.b2 false<|.rt false)<|.k4 4<|.b5 false<|.kb false<|.rt false)<|.br (E0.On==4) (.j0 (.L2 E0 v3 v4 (E0.On==4)) (mU E0 v3 v4 (E0.On==4)))<|.br (E0.On==5) (.j0 (.L2 E0 v3 v4 (E0.On==5)) (mU E0 v3 v4 (E0.On==5)))<|.j0 (.L2 E0 v3 v4 (E0.On==10)) (mU E0 v3 v4 (E0.On==10))
def H4(a0:cE):LT lG Bool:=
.lb 1001<|.br (a0.On==2) (.call (VI a0) λx2=>.rt x2)<|.call (VJ a0) λx4=>.br (!x4) (.rt false)<|.cs (a0.Do==3) (.k4 2<|.b4 true<|.jn 0 (.L0 a0 (ax (bg a0.Filter) (bg (⟨0,0,0,0,0,0,0,([]:By),0,0,(⟨0,0⟩:ab),(⟨0,0⟩:ab),(⟨0,0⟩:ab)⟩:ai))) true) [.relab 1001 3000] (mV a0 (ax (bg a0.Filter) (bg (⟨0,0,0,0,0,0,0,([]:By),0,0,(⟨0,0⟩:ab),(⟨0,0⟩:ab),(⟨0,0⟩:ab)⟩:ai))) true))<|.k4 2<|.cs (a0.Do==4) (.k4 3<|.jn 0 (.L0 a0 (ax (bg a0.Filter) (bg (⟨0,0,0,0,0,0,0,([]:By),0,0,(⟨0,0⟩:ab),(⟨0,0⟩:ab),(⟨0,0⟩:ab)⟩:ai))) true) [.relab 1001 3000] (mV a0 (ax (bg a0.Filter) (bg (⟨0,0,0,0,0,0,0,([]:By),0,0,(⟨0,0⟩:ab),(⟨0,0⟩:ab),(⟨0,0⟩:ab)⟩:ai))) true))<|.k4 3<|.jn 0 (.L0 a0 (ax (bg a0.Filter) (bg (⟨0,0,0,0,0,0,0,([]:By),0,0,(⟨0,0⟩:ab),(⟨0,0⟩:ab),(⟨0,0⟩:ab)⟩:ai))) (a0.Do==8)) [.relab 1001 3000] (mV a0 (ax (bg a0.Filter) (bg (⟨0,0,0,0,0,0,0,([]:By),0,0,(⟨0,0⟩:ab),(⟨0,0⟩:ab),(⟨0,0⟩:ab)⟩:ai))) (a0.Do==8))
def H5:LF lG Bool :=.m0 131 [.t 2] wB λ|.L0 E0 v3 v4=>([1,1,1,1,1],⟨127,[(1,.bptr 3000 0),(3,wB v3),(4,wB v4)],[(3000,.box (bx (eZ E0)))]⟩,mV E0 v3 v4)|.L1 E0 v3=>([1,1,1,1,1,0,1,4,1,2,1],⟨127,[(1,.bptr 3000 0),(3,wB v3)],[(3000,.box (bx (eZ E0)))]⟩,lH E0 v3)|.L2 E0 v3 v4 v109=>([1,1,1,1,1,0,1,4,1,3,1,3,1,3,1],⟨127,[(1,.bptr 3000 0),(3,wB v3),(4,wB v4),(109,wB v109)],[(3000,.box (bx (eZ E0)))]⟩,mU E0 v3 v4 v109)
def zg:=λa0=>H5.run (H4 a0)
def VK(a0){r}(h:zg a0=some r):Fn PR 131 [wA (eZ a0)] (wB r):=H5.fn h
def H6(a0:bz):LT Empty Bool:=
.lb 1001<|.br (!a0.Object) (.cs a0.Player (.k5 1<|.rt (ax (bg a0.Filter) (bg (⟨0,0,0,0,0,0,0,([]:By),0,0,(⟨0,0⟩:ab),(⟨0,0⟩:ab),(⟨0,0⟩:ab)⟩:ai))))<|.k5 1<|.rt false)<|.call (ij a0.Filter) λx3=>.cs x3 (.k3 1<|.cs (a0.Filter.Zone==0) (.k2 2<|.kg 1<|.kg 2<|.kg 1<|.b2 true<|.kg 1<|.kb true<|.kg 1<|.rt true)<|.k2 2<|.kg 1<|.kg 2<|.kg 1<|.cs (a0.Filter.Zone==3) (.k2 3<|.kg 1<|.kg 3<|.kg 1<|.rt true)<|.k2 3<|.kg 1<|.kg 3<|.kg 1<|.rt (a0.Filter.Zone==5))<|.k5 1<|.k2 1<|.rt false
def H7:LF Empty Bool :=.z0 182 [.t 2] wB
def zh:=λa0=>H7.run (H6 a0)
def VL(a0){r}(h:zh a0=some r):Fn PR 182 [wA (Z4 a0)] (wB r):=H7.fn h
inductive pK where
 |L0 (v0:List bz) (v3:Int)
def Z0t(v0:List bz)(v3:Int):LT pK Bool:=
.len Z4 v0<|.br (decide (v3<(v0.length:Int))) (.idx Z4 v0 v3 λx3=>.call (VL x3) λx5=>.br (!x5) (.rt false)<|.g0 (.L0 v0 (IntKind.wrap .i64 (v3+1))))<|.len Z4 v0<|.rt (decide ((v0.length:Int)<=4))
def H8(a0:List bz):LT pK Bool:=
.g0 (.L0 a0 0)
def H9:LF pK Bool :=.m0 132 [.t 2] wB λ|.L0 v0 v3=>([1,0,1,4],⟨19,[(0,wL Z4 v0),(3,wI v3)],[]⟩,Z0t v0 v3)
def zj:=λa0=>H9.run (H8 a0)
def VM(a0){r}(h:zj a0=some r):Fn PR 132 [wL Z4 a0] (wB r):=H9.fn h
def Ia(a0:Int):LT Empty (By):=
.cs (decide (a0<1)) (.k3 0<|.kn [0]<|.rt ([]:By))<|.k3 0<|.br (decide (a0>26)) (.rt ([]:By))<|.dr [.lit]<|.idx cS [([100,97,109,97,103,101]:By),([100,101,115,116,114,111,121]:By),([109,111,118,101]:By),([100,114,97,119]:By),([100,105,115,99,97,114,100]:By),([103,97,105,110]:By),([108,111,115,101]:By),([116,97,112]:By),([117,110,116,97,112]:By),([112,117,116]:By),([116,97,107,101]:By),([99,114,101,97,116,101]:By),([109,111,100]:By),([109,97,110,97]:By),([99,111,117,110,116,101,114]:By),([99,111,112,121]:By),([98,101,99,111,109,101]:By),([115,97,99,114,105,102,105,99,101]:By),([109,105,108,108]:By),([115,99,114,121]:By),([115,101,97,114,99,104]:By),([115,104,105,101,108,100]:By),([116,117,114,110]:By),([119,105,110]:By),([100,101,102,101,97,116]:By),([118,101,110,111,109]:By)] (IntKind.wrap .i64 (a0-1)) λx6=>.rt x6
def Ib:LF Empty (By) :=.z0 231 [.t 2] wS
def zk:=λa0=>Ib.run (Ia a0)
def VN(a0){r}(h:zk a0=some r):Fn PR 231 [wI a0] (wS r):=Ib.fn h
inductive mW where
 |L0 (v3:Int) (v4:Bool)
 |L1 (v3:Int) (v14:Bool)
def pL(v3:Int)(v14:Bool):LT mW (By):=
.br v14 (.rt ([114,107,97]:By))<|.br (v3==12) (.rt ([114,99,97]:By))<|.br (v3==13) (.rt ([114,109]:By))<|.br (v3==14) (.rt ([112]:By))<|.br (v3==18) (.rt ([114,97,102]:By))<|.br (v3==20) (.rt ([97]:By))<|.br (v3==21) (.rt ([102]:By))<|.br (v3==23) (.kn [8]<|.rt ([]:By))<|.br (v3==24) (.rt ([]:By))<|.rt ([114,97]:By)
def iX(v3:Int)(v4:Bool):LT mW (By):=
.br v4 (.rt ([114]:By))<|.br (v3==3) (.rt ([114,122]:By))<|.br (v3==10) (.j0 (.L1 v3 (v3==10)) (pL v3 (v3==10)))<|.j0 (.L1 v3 (v3==11)) (pL v3 (v3==11))
def Ic(a0:Int):LT mW (By):=
.br (a0==2) (.j0 (.L0 a0 (a0==2)) (iX a0 (a0==2)))<|.br (a0==8) (.j0 (.L0 a0 (a0==8)) (iX a0 (a0==8)))<|.br (a0==9) (.j0 (.L0 a0 (a0==9)) (iX a0 (a0==9)))<|.br (a0==15) (.j0 (.L0 a0 (a0==15)) (iX a0 (a0==15)))<|.br (a0==16) (.j0 (.L0 a0 (a0==16)) (iX a0 (a0==16)))<|.br (a0==17) (.j0 (.L0 a0 (a0==17)) (iX a0 (a0==17)))<|.j0 (.L0 a0 (a0==25)) (iX a0 (a0==25))
def Ie:LF mW (By) :=.m0 295 [.t 2] wS λ|.L0 v3 v4=>([1,0,1,4,1],⟨32,[(3,wI v3),(4,wB v4)],[]⟩,iX v3 v4)|.L1 v3 v14=>([1,0,1,4,1,3,1,3,1],⟨32,[(3,wI v3),(14,wB v14)],[]⟩,pL v3 v14)
def zl:=λa0=>Ie.run (Ic a0)
def VO(a0){r}(h:zl a0=some r):Fn PR 295 [wI a0] (wS r):=Ie.fn h
inductive pM where
 |L0 (v1:Int) (v5:By) (v6:Int)
def Z48(v1:Int)(v5:By)(v6:Int):LT pM Bool:=
.lenS v5<|.br (decide (v6<(v5.length:Int))) (.idxS v5 v6 λx3=>.br ((UInt8.toNat x3:Int)==v1) (.rt true)<|.g0 (.L0 v1 v5 (IntKind.wrap .i64 (v6+1))))<|.rt false
def If(a0:Int)(a1:Int):LT pM Bool:=
.call (VO a0) λx1=>.g0 (.L0 a1 x1 0)
def Ig:LF pM Bool :=.m0 232 [.t 4] wB λ|.L0 v1 v5 v6=>([1,1,0,1,4],⟨20,[(1,.t (.int .u8 v1)),(5,wS v5),(6,wI v6)],[]⟩,Z48 v1 v5 v6)
def zm:=λa0 a1=>Ig.run (If a0 a1)
def kh(a0)(a1){r}(h:zm a0 a1=some r):Fn PR 232 [wI a0,.t (.int .u8 a1)] (wB r):=Ig.fn h
def Z7c(a0:Int):LT Empty Bool:=
.cs (a0==3) (.k3 0<|.rt true)<|.k3 0<|.rt (a0==8)
def Z7d:LF Empty Bool :=.z0 296 [.t 2] wB
def Z0u:=λa0=>Z7d.run (Z7c a0)
def VP(a0){r}(h:Z0u a0=some r):Fn PR 296 [wI a0] (wB r):=Z7d.fn h
inductive mX where
 |L0 (v1:Int) (E0:eu)
 |L1 (E0:eu)
def pN(E0:eu):LT mX Bool:=
.br (E0.Kind==4) (.call (ij E0.Filter) λx2=>.rt x2)<|.rt (ax (bg E0.Filter) (bg (⟨0,0,0,0,0,0,0,([]:By),0,0,(⟨0,0⟩:ab),(⟨0,0⟩:ab),(⟨0,0⟩:ab)⟩:ai)))
def pO(v1:Int)(E0:eu):LT mX Bool:=
.cs (decide (E0.Kind<1)) (.k4 0<|.kn [0]<|.rt false)<|.k4 0<|.br (decide (E0.Kind>8)) (.rt false)<|.call (VP E0.Kind) λx3=>.br x3 (.cs (decide (E0.N<1)) (.k5 3<|.kn [0]<|.rt false)<|.k5 3<|.br (decide (E0.N>v1)) (.rt false)<|.j0 (.L1 E0) (pN E0))<|.br (E0.N != 0) (.rt false)<|.j0 (.L1 E0) (pN E0)
def Ih(a0:eu)(a1:Int):LT mX Bool:=
.lb 1002<|.br (decide (a1>4)) (.jn 0 (.L0 4 a0) [.relab 1002 3000] (pO 4 a0))<|.jn 0 (.L0 a1 a0) [.relab 1002 3000] (pO a1 a0)
def Ii:LF mX Bool :=.m0 233 [.t 4] wB λ|.L0 v1 E0=>([1,1],⟨40,[(1,wI v1),(2,.bptr 3000 0)],[(3000,.box (bx (fi E0)))]⟩,pO v1 E0)|.L1 E0=>([1,1,1,1],⟨40,[(2,.bptr 3000 0)],[(3000,.box (bx (fi E0)))]⟩,pN E0)
def zn:=λa0 a1=>Ii.run (Ih a0 a1)
def VQ(a0)(a1){r}(h:zn a0 a1=some r):Fn PR 233 [wA (fi a0),wI a1] (wB r):=Ii.fn h
def Ij(a0:Int):LT Empty (By):=
.br (a0==0) (.rt ([112,108,117,115]:By))<|.br (a0==1) (.rt ([109,105,110,117,115]:By))<|.br (a0==2) (.rt ([99,104,97,114,103,101]:By))<|.rt ([]:By)
def Ik:LF Empty (By) :=.z0 234 [.t 2] wS
def zo:=λa0=>Ik.run (Ij a0)
def Il(a0){r}(h:zo a0=some r):Fn PR 234 [wI a0] (wS r):=Ik.fn h
def Im(a0:de):LT Empty Bool:=
.lb 1001<|.lb 1003<|.br (a0.Kind==0) (.cs (decide (a0.N<0)) (.k4 1<|.kn [0]<|.rt false)<|.k4 1<|.br (decide (a0.N>1000000)) (.rt false)<|.cs (decide (a0.Kind>=0)) (.k4 3<|.cs (decide (a0.Kind<=7)) (.k5 4<|.kg 4<|.rt (ax (c6 (⟨a0.Kind,0,a0.Counter,a0.Filter⟩:de)) (c6 (⟨a0.Kind,0,0,(⟨0,0,0,0,0,0,0,([]:By),0,0,(⟨0,0⟩:ab),(⟨0,0⟩:ab),(⟨0,0⟩:ab)⟩:ai)⟩:de))))<|.k5 4<|.kg 4<|.rt false)<|.k4 3<|.b5 false<|.kb false<|.rt false)<|.br (a0.Kind==2) (.cs (decide (a0.N<1)) (.k4 2<|.b5 true<|.kn [0]<|.rt false)<|.k4 2<|.cs (decide (a0.N>99)) (.k5 3<|.kn [0]<|.rt false)<|.k3 3<|.call (ij a0.Filter) λx9=>.k2 3<|.br (!x9) (.rt false)<|.cs (decide (a0.Kind>=0)) (.k4 5<|.cs (decide (a0.Kind<=7)) (.k5 6<|.kg 6<|.rt (ax (c6 (⟨a0.Kind,0,a0.Counter,(⟨0,0,0,0,0,0,0,([]:By),0,0,(⟨0,0⟩:ab),(⟨0,0⟩:ab),(⟨0,0⟩:ab)⟩:ai)⟩:de)) (c6 (⟨a0.Kind,0,0,(⟨0,0,0,0,0,0,0,([]:By),0,0,(⟨0,0⟩:ab),(⟨0,0⟩:ab),(⟨0,0⟩:ab)⟩:ai)⟩:de))))<|.k5 6<|.kg 6<|.rt false)<|.k4 5<|.b5 false<|.kb false<|.rt false)<|.br (a0.Kind==4) (.call (Il a0.Counter) λx15=>.br (x15==([]:By)) (.rt false)<|.cs (decide (a0.Kind>=0)) (.k4 4<|.cs (decide (a0.Kind<=7)) (.k5 5<|.kg 5<|.rt (ax (c6 (⟨a0.Kind,a0.N,0,a0.Filter⟩:de)) (c6 (⟨a0.Kind,0,0,(⟨0,0,0,0,0,0,0,([]:By),0,0,(⟨0,0⟩:ab),(⟨0,0⟩:ab),(⟨0,0⟩:ab)⟩:ai)⟩:de))))<|.k5 5<|.kg 5<|.rt false)<|.k4 4<|.b5 false<|.kb false<|.rt false)<|.cs (decide (a0.Kind>=0)) (.k4 3<|.cs (decide (a0.Kind<=7)) (.k5 4<|.kg 4<|.rt (ax (c6 a0) (c6 (⟨a0.Kind,0,0,(⟨0,0,0,0,0,0,0,([]:By),0,0,(⟨0,0⟩:ab),(⟨0,0⟩:ab),(⟨0,0⟩:ab)⟩:ai)⟩:de))))<|.k5 4<|.kg 4<|.rt false)<|.k4 3<|.b5 false<|.kb false<|.rt false
def Io:LF Empty Bool :=.z0 235 [.t 2] wB
def zp:=λa0=>Io.run (Im a0)
def VS(a0){r}(h:zp a0=some r):Fn PR 235 [wA (c6 a0)] (wB r):=Io.fn h
def Ip(a0:List ah):LT Empty Bool:=
.call (yW a0) λx1=>.rt (!(x1==([]:By)))
def Iq:LF Empty Bool :=.z0 236 [.t 2] wB
def zq:=λa0=>Iq.run (Ip a0)
def VT(a0){r}(h:zq a0=some r):Fn PR 236 [wL av a0] (wB r):=Iq.fn h
inductive pP where
 |L0 (E0:A6 Int) (E1:Z5) (E2:Z5) (v4:Int)
def Z49(E0:A6 Int)(E1:Z5)(E2:Z5)(v4:Int):LT pP Z5:=
.br (decide (v4<5)) (.idA (U.int .i64) (A6.list E0) (IntKind.wrap .i64 (v4+1)) (bx ((cA6 (cI .i64)) E0)) 0 6 λx4=>.ldC (U.int .i64) 16 x4 0<|.idA (U.int .i64) (A5.list E2.Color) v4 (bx (cn E2)) 2 7 λx6=>.stA (A5.set? E2.Color v4 x4) (λh=>OX (U.int .i64) ((bx (cn E2)).take 2) ((bx (cn E2)).drop 7) h) λx8=>.g0 (.L0 E0 E1 (⟨E2.Generic,E2.X,x8⟩:Z5) (IntKind.wrap .i64 (v4+1))))<|.rt E2
def Ir(a0:A6 Int):LT pP Z5:=
.lb 1001<|.lb 1002<|.idA (U.int .i64) (A6.list a0) 0 (bx ((cA6 (cI .i64)) a0)) 0 6 λx1=>.ldC (U.int .i64) 6 x1 0<|.lb 1003<|.go (.L0 a0 (⟨0,0,(⟨0,0,0,0,0⟩:A5 Int)⟩:Z5) (⟨x1,0,(⟨0,0,0,0,0⟩:A5 Int)⟩:Z5) 0) (tm22 1000 3000)
def Is:LF pP Z5 :=.m0 298 [.c 2 39 true 7] (λr=>(wA (cn r))) λ|.L0 E0 E1 E2 v4=>([1,1,0,1,4],⟨20,[(1,.bptr 3000 0),(2,.bptr 3001 0),(3,.bptr 3002 0),(4,wI v4)],[(3000,.box (bx ((cA6 (cI .i64)) E0))),(3001,.box (bx (cn E1))),(3002,.box (bx (cn E2)))]⟩,Z49 E0 E1 E2 v4)
def zr:=λa0=>Is.run (Ir a0)
def VU(a0){r}(h:zr a0=some r):Fn PR 298 [wA ((cA6 (cI .i64)) a0)] (wA (cn r)):=Is.fn h
inductive lI where
 |L0 (E0:Z5) (v3:By) (v4:Int)
 |L1 (E0:Z5) (v3:By) (v5:Int)
 |L2 (E0:Z5) (v3:By) (v5:Int) (v6:Int)
def Z5a(E0:Z5)(v3:By)(v4:Int):LT lI (By):=
.br (decide (v4<E0.X)) (.ok (v3.length+([88]:By).length<=9223372036854775807)<|.g0 (.L0 E0 (v3++([88]:By)) (IntKind.wrap .i64 (v4+1))))<|.br (E0.Generic != 0) (.call (mT E0.Generic) λx7=>.ok (v3.length+x7.length<=9223372036854775807)<|.g0 (.L1 E0 (v3++x7) 0))<|.g0 (.L1 E0 v3 0)
def Z5b(E0:Z5)(v3:By)(v5:Int):LT lI (By):=
.br (decide (v5<5)) (.g0 (.L2 E0 v3 v5 0))<|.br (v3==([]:By)) (.rt ([48]:By))<|.rt v3
def Z5c(E0:Z5)(v3:By)(v5:Int)(v6:Int):LT lI (By):=
.idA (U.int .i64) (A5.list E0.Color) v5 (bx (cn E0)) 2 7 λx1=>.ldC (U.int .i64) 34 x1 0<|.br (decide (v6<x1)) (.slS ([65,67,74,82,69]:By) v5 (IntKind.wrap .i64 (v5+1)) λx6=>.ok (v3.length+x6.length<=9223372036854775807)<|.g0 (.L2 E0 (v3++x6) v5 (IntKind.wrap .i64 (v6+1))))<|.g0 (.L1 E0 v3 (IntKind.wrap .i64 (v5+1)))
def It(a0:Z5):LT lI (By):=
.lb 1001<|.call (Z3h a0) λx1=>.br (!x1) (.rt ([]:By))<|.go (.L0 a0 ([]:By) 0) [.relab 1001 3000]
def Iu:LF lI (By) :=.m0 297 [.t 2] wS λ|.L0 E0 v3 v4=>([1,1,1,0,1,4],⟨47,[(1,.bptr 3000 0),(3,wS v3),(4,wI v4)],[(3000,.box (bx (cn E0)))]⟩,Z5a E0 v3 v4)|.L1 E0 v3 v5=>([1,1,1,1,1,0,1,4],⟨47,[(1,.bptr 3000 0),(3,wS v3),(5,wI v5)],[(3000,.box (bx (cn E0)))]⟩,Z5b E0 v3 v5)|.L2 E0 v3 v5 v6=>([1,1,1,1,1,0,1,4,5,1,0,4,1,4],⟨47,[(1,.bptr 3000 0),(3,wS v3),(5,wI v5),(6,wI v6)],[(3000,.box (bx (cn E0)))]⟩,Z5c E0 v3 v5 v6)
def zt:=λa0=>Iu.run (It a0)
def VV(a0){r}(h:zt a0=some r):Fn PR 297 [wA (cn a0)] (wS r):=Iu.fn h
def Z7e(a0:A6 Int):LT Empty (By):=
.lb 1001<|.call (VU a0) λx1=>.call (VV x1) λx3=>.rt x3
def Z7f:LF Empty (By) :=.z0 237 [.t 2] wS
def Z0v:=λa0=>Z7f.run (Z7e a0)
def VW(a0){r}(h:Z0v a0=some r):Fn PR 237 [wA ((cA6 (cI .i64)) a0)] (wS r):=Z7f.fn h
def Iv(a0:Int)(a1:ai):LT Empty Bool:=
.lb 1003<|.br (a0==21) (.call (ij a1) λx2=>.cs x2 (.k5 1<|.rt (a1.Zone==2))<|.k5 1<|.rt false)<|.call (ij a1) λx5=>.cs x5 (.k5 1<|.rt (a1.Zone==0))<|.k5 1<|.rt false
def Iw:LF Empty Bool :=.z0 238 [.t 4] wB
def Z89:=λa0 a1=>Iw.run (Iv a0 a1)
def VX(a0)(a1){r}(h:Z89 a0 a1=some r):Fn PR 238 [wI a0,wA (bg a1)] (wB r):=Iw.fn h
inductive gG where
 |L0 (E0:aU) (v5:Bool)
 |L1 (E0:aU) (v5:Bool) (v6:Bool)
 |L2 (E0:aU) (v5:Bool) (v6:Bool) (v7:Bool)
 |L3 (E0:aU) (v5:Bool) (v6:Bool) (v7:Bool) (v8:Bool)
 |L4 (E0:aU) (v5:Bool) (v6:Bool) (v7:Bool) (v8:Bool) (v9:Bool)
 |L5 (E0:aU) (v5:Bool) (v6:Bool) (v7:Bool) (v8:Bool) (v9:Bool) (v10:Bool)
 |L6 (E0:aU) (v5:Bool) (v6:Bool) (v7:Bool) (v8:Bool) (v9:Bool) (v10:Bool) (v11:Bool)
 |L7 (v5:Bool) (v6:Bool) (v7:Bool) (v8:Bool) (v9:Bool) (v10:Bool) (v11:Bool) (v12:Bool)
def pQ(v5:Bool)(v6:Bool)(v7:Bool)(v8:Bool)(v9:Bool)(v10:Bool)(v11:Bool)(v12:Bool):LT gG Bool:=
.cs v5 (.k2 0<|.cs v6 (.k2 1<|.cs v7 (.k2 2<|.cs v8 (.k2 3<|.cs v9 (.k2 4<|.cs v10 (.k2 5<|.cs v11 (.k2 6<|.rt v12)<|.k2 6<|.rt false)<|.k2 5<|.b2 false<|.rt false)<|.k2 4<|.b4 false<|.rt false)<|.k2 3<|.b5 false<|.kb false<|.rt false)<|.k2 2<|.b8 false<|.rt false)<|.k2 1<|.b8 false<|.b2 false<|.rt false)<|.k2 0<|.b8 false<|.b4 false<|.rt false
def mY(E0:aU)(v5:Bool)(v6:Bool)(v7:Bool)(v8:Bool)(v9:Bool)(v10:Bool)(v11:Bool):LT gG Bool:=
.call (kh E0.Op 102) λx1=>.br x1 (.call (VX E0.Op E0.Filter) λx4=>.j0 (.L7 v5 v6 v7 v8 v9 v10 v11 x4) (pQ v5 v6 v7 v8 v9 v10 v11 x4))<|.j0 (.L7 v5 v6 v7 v8 v9 v10 v11 (ax (bg E0.Filter) (bg (⟨0,0,0,0,0,0,0,([]:By),0,0,(⟨0,0⟩:ab),(⟨0,0⟩:ab),(⟨0,0⟩:ab)⟩:ai)))) (pQ v5 v6 v7 v8 v9 v10 v11 (ax (bg E0.Filter) (bg (⟨0,0,0,0,0,0,0,([]:By),0,0,(⟨0,0⟩:ab),(⟨0,0⟩:ab),(⟨0,0⟩:ab)⟩:ai))))
def pR(E0:aU)(v5:Bool)(v6:Bool)(v7:Bool)(v8:Bool)(v9:Bool)(v10:Bool):LT gG Bool:=
.call (kh E0.Op 112) λx1=>.br x1 (.cs (!(ax ((cA6 (cI .i64)) E0.Pool) ((cA6 (cI .i64)) (⟨0,0,0,0,0,0⟩:A6 Int)))) (.k3 1<|.call (VW E0.Pool) λx5=>.k2 1<|.j0 (.L6 E0 v5 v6 v7 v8 v9 v10 (!(x5==([]:By)))) (mY E0 v5 v6 v7 v8 v9 v10 (!(x5==([]:By)))))<|.k5 1<|.j0 (.L6 E0 v5 v6 v7 v8 v9 v10 false) (mY E0 v5 v6 v7 v8 v9 v10 false))<|.j0 (.L6 E0 v5 v6 v7 v8 v9 v10 (ax ((cA6 (cI .i64)) E0.Pool) ((cA6 (cI .i64)) (⟨0,0,0,0,0,0⟩:A6 Int)))) (mY E0 v5 v6 v7 v8 v9 v10 (ax ((cA6 (cI .i64)) E0.Pool) ((cA6 (cI .i64)) (⟨0,0,0,0,0,0⟩:A6 Int))))
def pS(E0:aU)(v5:Bool)(v6:Bool)(v7:Bool)(v8:Bool)(v9:Bool):LT gG Bool:=
.len av E0.Mods<|.call (kh E0.Op 109) λx2=>.br x2 (.call (VT E0.Mods) λx5=>.j0 (.L5 E0 v5 v6 v7 v8 v9 x5) (pR E0 v5 v6 v7 v8 v9 x5))<|.j0 (.L5 E0 v5 v6 v7 v8 v9 ((E0.Mods.length:Int)==0)) (pR E0 v5 v6 v7 v8 v9 ((E0.Mods.length:Int)==0))
def pT(E0:aU)(v5:Bool)(v6:Bool)(v7:Bool)(v8:Bool):LT gG Bool:=
.call (kh E0.Op 97) λx1=>.br x1 (.call (VS E0.Amount) λx4=>.j0 (.L4 E0 v5 v6 v7 v8 x4) (pS E0 v5 v6 v7 v8 x4))<|.j0 (.L4 E0 v5 v6 v7 v8 (ax (c6 E0.Amount) (c6 (⟨0,0,0,(⟨0,0,0,0,0,0,0,([]:By),0,0,(⟨0,0⟩:ab),(⟨0,0⟩:ab),(⟨0,0⟩:ab)⟩:ai)⟩:de)))) (pS E0 v5 v6 v7 v8 (ax (c6 E0.Amount) (c6 (⟨0,0,0,(⟨0,0,0,0,0,0,0,([]:By),0,0,(⟨0,0⟩:ab),(⟨0,0⟩:ab),(⟨0,0⟩:ab)⟩:ai)⟩:de))))
def mZ(E0:aU)(v5:Bool)(v6:Bool)(v7:Bool):LT gG Bool:=
.call (kh E0.Op 99) λx1=>.br x1 (.call (yv E0.Card) λx4=>.j0 (.L3 E0 v5 v6 v7 x4) (pT E0 v5 v6 v7 x4))<|.j0 (.L3 E0 v5 v6 v7 (E0.Card==([]:By))) (pT E0 v5 v6 v7 (E0.Card==([]:By)))
def lJ(E0:aU)(v5:Bool)(v6:Bool):LT gG Bool:=
.cs (E0.Counter==0) (.k5 0<|.kg 0<|.j0 (.L2 E0 v5 v6 true) (mZ E0 v5 v6 true))<|.k3 0<|.call (kh E0.Op 107) λx2=>.kg 0<|.cs x2 (.k3 1<|.call (Il E0.Counter) λx5=>.kg 1<|.kg 0<|.kg 1<|.kg 0<|.j0 (.L2 E0 v5 v6 (!(x5==([]:By)))) (mZ E0 v5 v6 (!(x5==([]:By)))))<|.k4 1<|.kg 0<|.kg 1<|.kg 0<|.j0 (.L2 E0 v5 v6 false) (mZ E0 v5 v6 false)
def pU(E0:aU)(v5:Bool):LT gG Bool:=
.cs (E0.Zone==0) (.k8 0<|.j0 (.L1 E0 v5 true) (lJ E0 v5 true))<|.k3 0<|.call (kh E0.Op 122) λx2=>.kg 0<|.cs x2 (.k3 1<|.kg 0<|.kg 1<|.kg 0<|.cs (decide (E0.Zone>0)) (.k3 2<|.kg 0<|.kg 2<|.kg 0<|.j0 (.L1 E0 v5 (decide (E0.Zone<=4))) (lJ E0 v5 (decide (E0.Zone<=4))))<|.k3 2<|.kg 0<|.kg 2<|.kg 0<|.j0 (.L1 E0 v5 false) (lJ E0 v5 false))<|.k3 1<|.kg 0<|.kg 1<|.kg 0<|.b3 false<|.kg 0<|.kb false<|.kg 0<|.j0 (.L1 E0 v5 false) (lJ E0 v5 false)
def Ix(a0:aU)(a1:Int):LT gG Bool:=
.lb 1002<|.call (VN a0.Op) λx1=>.br (x1==([]:By)) (.rt false)<|.call (kh a0.Op 114) λx4=>.br x4 (.call (VQ a0.Ref a1) λx7=>.jn 0 (.L0 a0 x7) [.relab 1002 3000] (pU a0 x7))<|.jn 0 (.L0 a0 (ax (fi a0.Ref) (fi (⟨0,0,(⟨0,0,0,0,0,0,0,([]:By),0,0,(⟨0,0⟩:ab),(⟨0,0⟩:ab),(⟨0,0⟩:ab)⟩:ai)⟩:eu)))) [.relab 1002 3000] (pU a0 (ax (fi a0.Ref) (fi (⟨0,0,(⟨0,0,0,0,0,0,0,([]:By),0,0,(⟨0,0⟩:ab),(⟨0,0⟩:ab),(⟨0,0⟩:ab)⟩:ai)⟩:eu))))
def Iy:LF gG Bool :=.m0 183 [.t 4] wB λ|.L0 E0 v5=>([1,1,1,1],⟨138,[(2,.bptr 3000 0),(5,wB v5)],[(3000,.box (bx (aR E0)))]⟩,pU E0 v5)|.L1 E0 v5 v6=>([1,1,1,1,1],⟨138,[(2,.bptr 3000 0),(5,wB v5),(6,wB v6)],[(3000,.box (bx (aR E0)))]⟩,lJ E0 v5 v6)|.L2 E0 v5 v6 v7=>([1,1,1,1,1,1],⟨138,[(2,.bptr 3000 0),(5,wB v5),(6,wB v6),(7,wB v7)],[(3000,.box (bx (aR E0)))]⟩,mZ E0 v5 v6 v7)|.L3 E0 v5 v6 v7 v8=>([1,1,1,1,1,1,1,1],⟨138,[(2,.bptr 3000 0),(5,wB v5),(6,wB v6),(7,wB v7),(8,wB v8)],[(3000,.box (bx (aR E0)))]⟩,pT E0 v5 v6 v7 v8)|.L4 E0 v5 v6 v7 v8 v9=>([1,1,1,1,1,1,1,1,1,1],⟨138,[(2,.bptr 3000 0),(5,wB v5),(6,wB v6),(7,wB v7),(8,wB v8),(9,wB v9)],[(3000,.box (bx (aR E0)))]⟩,pS E0 v5 v6 v7 v8 v9)|.L5 E0 v5 v6 v7 v8 v9 v10=>([1,1,1,1,1,1,1,1,1,1,1,1],⟨138,[(2,.bptr 3000 0),(5,wB v5),(6,wB v6),(7,wB v7),(8,wB v8),(9,wB v9),(10,wB v10)],[(3000,.box (bx (aR E0)))]⟩,pR E0 v5 v6 v7 v8 v9 v10)|.L6 E0 v5 v6 v7 v8 v9 v10 v11=>([1,1,1,1,1,1,1,1,1,1,1,1,1,1],⟨138,[(2,.bptr 3000 0),(5,wB v5),(6,wB v6),(7,wB v7),(8,wB v8),(9,wB v9),(10,wB v10),(11,wB v11)],[(3000,.box (bx (aR E0)))]⟩,mY E0 v5 v6 v7 v8 v9 v10 v11)|.L7 v5 v6 v7 v8 v9 v10 v11 v12=>([1,1,1,1,1,1,1,1,1,1,1,1,1,1,1,1],⟨138,[(5,wB v5),(6,wB v6),(7,wB v7),(8,wB v8),(9,wB v9),(10,wB v10),(11,wB v11),(12,wB v12)],[]⟩,pQ v5 v6 v7 v8 v9 v10 v11 v12)
def zu:=λa0 a1=>Iy.run (Ix a0 a1)
def VY(a0)(a1){r}(h:zu a0 a1=some r):Fn PR 183 [wA (aR a0),wI a1] (wB r):=Iy.fn h
inductive pV where
 |L0 (v0:List aU) (v1:Int) (v5:Int)
def zv(v0:List aU)(v1:Int)(v5:Int):LT pV Bool:=
.len aR v0<|.br (decide (v5<(v0.length:Int))) (.idx aR v0 v5 λx3=>.call (VY x3 v1) λx5=>.br (!x5) (.rt false)<|.g0 (.L0 v0 v1 (IntKind.wrap .i64 (v5+1))))<|.len aR v0<|.cs (decide ((v0.length:Int)>=1)) (.k2 1<|.len aR v0<|.k2 1<|.rt (decide ((v0.length:Int)<=8)))<|.k4 1<|.rt false
def Iz(a0:List aU)(a1:Int):LT pV Bool:=
.g0 (.L0 a0 a1 0)
def IA:LF pV Bool :=.m0 133 [.t 4] wB λ|.L0 v0 v1 v5=>([1,0,1,4],⟨27,[(0,wL aR v0),(1,wI v1),(5,wI v5)],[]⟩,zv v0 v1 v5)
def Z5d:=λa0 a1=>IA.run (Iz a0 a1)
def VZ(a0)(a1){r}(h:Z5d a0 a1=some r):Fn PR 133 [wL aR a0,wI a1] (wB r):=IA.fn h
inductive jC where
 |L0 (E0:ar) (v3:Bool)
 |L1 (E0:ar) (v3:Bool)
 |L2 (E0:ar) (v3:Bool)
 |L3 (E0:ar) (v3:Bool)
 |L4 (E0:ar) (v3:Bool)
def pW(E0:ar)(v3:Bool):LT jC Bool:=
.br v3 (.call (VM E0.Specs) λx2=>.cs x2 (.k5 1<|.len Z4 E0.Specs<|.kg 1<|.call (VZ E0.Effects (E0.Specs.length:Int)) λx6=>.kg 1<|.rt x6)<|.k5 1<|.k2 1<|.rt false)<|.len Z4 E0.Specs<|.cs ((E0.Specs.length:Int)==0) (.k3 1<|.len aR E0.Effects<|.k2 1<|.rt ((E0.Effects.length:Int)==0))<|.k5 1<|.rt false
def pX(E0:ar)(v3:Bool):LT jC Bool:=
.br (E0.Kind==5) (.call (VK E0.Replace) λx2=>.br (!x2) (.rt false)<|.j0 (.L4 E0 v3) (pW E0 v3))<|.br (!(ax (eZ E0.Replace) (eZ (⟨0,0,(⟨0,0,0,0,0,0,0,([]:By),0,0,(⟨0,0⟩:ab),(⟨0,0⟩:ab),(⟨0,0⟩:ab)⟩:ai),0,0,0,0⟩:cE)))) (.rt false)<|.j0 (.L4 E0 v3) (pW E0 v3)
def pY(E0:ar)(v3:Bool):LT jC Bool:=
.br (E0.Kind==4) (.call (VH E0.Trigger) λx2=>.br (!x2) (.rt false)<|.j0 (.L3 E0 v3) (pX E0 v3))<|.cs (!(ax (fZ E0.Trigger) (fZ (⟨0,0,(⟨0,0,0,0,0,0,0,([]:By),0,0,(⟨0,0⟩:ab),(⟨0,0⟩:ab),(⟨0,0⟩:ab)⟩:ai)⟩:dM)))) (.k3 1<|.kn [0]<|.rt false)<|.k3 1<|.br E0.May (.rt false)<|.j0 (.L3 E0 v3) (pX E0 v3)
def pZ(E0:ar)(v3:Bool):LT jC Bool:=
.br (E0.Kind==3) (.call (VF E0.Price) λx2=>.br (!x2) (.rt false)<|.j0 (.L2 E0 v3) (pY E0 v3))<|.cs (!(ax (gB E0.Price) (gB (⟨(⟨0,0,(⟨0,0,0,0,0⟩:A5 Int)⟩:Z5),false,false,0⟩:eU)))) (.k3 1<|.kn [0]<|.rt false)<|.k3 1<|.br E0.Slow (.rt false)<|.j0 (.L2 E0 v3) (pY E0 v3)
def m6(E0:ar)(v3:Bool):LT jC Bool:=
.br (E0.Kind==1) (.call (ij E0.Filter) λx2=>.cs (!x2) (.k5 1<|.b5 true<|.kn [0]<|.rt false)<|.k5 1<|.cs (E0.Filter.Zone != 0) (.k5 2<|.kn [0]<|.rt false)<|.k3 2<|.call (yW E0.Mods) λx6=>.k2 2<|.br (x6==([]:By)) (.rt false)<|.j0 (.L1 E0 v3) (pZ E0 v3))<|.cs (!(ax (bg E0.Filter) (bg (⟨0,0,0,0,0,0,0,([]:By),0,0,(⟨0,0⟩:ab),(⟨0,0⟩:ab),(⟨0,0⟩:ab)⟩:ai)))) (.k5 1<|.kn [0]<|.rt false)<|.k3 1<|.len av E0.Mods<|.k2 1<|.br (decide ((E0.Mods.length:Int)>0)) (.rt false)<|.j0 (.L1 E0 v3) (pZ E0 v3)
def IB(a0:ar):LT jC Bool:=
.lb 1001<|.cs (decide (a0.Kind<1)) (.k4 0<|.kn [0]<|.rt false)<|.k4 0<|.br (decide (a0.Kind>5)) (.rt false)<|.cs (a0.Kind==2) (.k4 2<|.b4 true<|.jn 0 (.L0 a0 true) [.relab 1001 3000] (m6 a0 true))<|.k4 2<|.cs (a0.Kind==3) (.k4 3<|.jn 0 (.L0 a0 true) [.relab 1001 3000] (m6 a0 true))<|.k4 3<|.jn 0 (.L0 a0 (a0.Kind==4)) [.relab 1001 3000] (m6 a0 (a0.Kind==4))
def IC:LF jC Bool :=.m0 94 [.t 2] wB λ|.L0 E0 v3=>([1,1,1],⟨117,[(1,.bptr 3000 0),(3,wB v3)],[(3000,.box (bx (aE E0)))]⟩,m6 E0 v3)|.L1 E0 v3=>([1,1,1,1],⟨117,[(1,.bptr 3000 0),(3,wB v3)],[(3000,.box (bx (aE E0)))]⟩,pZ E0 v3)|.L2 E0 v3=>([1,1,1,1,1],⟨117,[(1,.bptr 3000 0),(3,wB v3)],[(3000,.box (bx (aE E0)))]⟩,pY E0 v3)|.L3 E0 v3=>([1,1,1,1,1,1],⟨117,[(1,.bptr 3000 0),(3,wB v3)],[(3000,.box (bx (aE E0)))]⟩,pX E0 v3)|.L4 E0 v3=>([1,1,1,1,1,1,1],⟨117,[(1,.bptr 3000 0),(3,wB v3)],[(3000,.box (bx (aE E0)))]⟩,pW E0 v3)
def zw:=λa0=>IC.run (IB a0)
def Z3x(a0){r}(h:zw a0=some r):Fn PR 94 [wA (aE a0)] (wB r):=IC.fn h
def ID(a0:Z1):LT Empty Bool:=
.lb 1001<|.cs (a0.Line.Types==2) (.k5 0<|.rt true)<|.k5 0<|.rt (a0.Line.Types==4)
def IE:LF Empty Bool :=.z0 95 [.t 2] wB
def zx:=λa0=>IE.run (ID a0)
def V0(a0){r}(h:zx a0=some r):Fn PR 95 [wA (Z8 a0)] (wB r):=IE.fn h
inductive m7 where
 |L0 (E0:Z1)
 |L1 (E0:Z1) (v3:Int) (v4:Int)
def p9(E0:Z1):LT m7 Bool:=
.g0 (.L1 E0 0 0)
def zy(E0:Z1)(v3:Int)(v4:Int):LT m7 Bool:=
.len aE E0.Abilities<|.br (decide (v4<(E0.Abilities.length:Int))) (.idx aE E0.Abilities v4 λx3=>.call (Z3x x3) λx5=>.br (!x5) (.rt false)<|.ag aE x3 0<|.br (x3.Kind==2) (.g0 (.L1 E0 (IntKind.wrap .i64 (v3+1)) (IntKind.wrap .i64 (v4+1))))<|.g0 (.L1 E0 v3 (IntKind.wrap .i64 (v4+1))))<|.call (V0 E0) λx15=>.br x15 (.cs (!E0.Token) (.k4 2<|.cs (E0.Keys==0) (.k3 3<|.len aE E0.Abilities<|.k2 3<|.cs ((E0.Abilities.length:Int)==1) (.k3 4<|.rt (v3==1))<|.k3 4<|.rt false)<|.k5 3<|.b3 false<|.rt false)<|.k4 2<|.b8 false<|.rt false)<|.cs (v3==0) (.k4 2<|.cs (!E0.Token) (.k5 3<|.kg 2<|.kg 3<|.kg 2<|.cs ((bI .and .i64 E0.Line.Types 32)==0) (.k4 4<|.kg 2<|.kg 4<|.kg 2<|.rt true)<|.k4 4<|.kg 2<|.kg 4<|.kg 2<|.rt (ax (cn E0.Cost) (cn (⟨0,0,(⟨0,0,0,0,0⟩:A5 Int)⟩:Z5))))<|.k5 3<|.kg 2<|.kg 3<|.kg 2<|.b4 false<|.kg 2<|.kb false<|.kg 2<|.rt (ax (cn E0.Cost) (cn (⟨0,0,(⟨0,0,0,0,0⟩:A5 Int)⟩:Z5))))<|.k8 2<|.rt false
def IF(a0:Z1):LT m7 Bool:=
.lb 1001<|.call (yv a0.Name) λx1=>.cs (!x1) (.k5 0<|.b16 true<|.b2 true<|.kn [0]<|.rt false)<|.k3 0<|.call (Z3h a0.Cost) λx4=>.k2 0<|.cs (!x4) (.k5 1<|.b8 true<|.b5 true<|.kn [0]<|.rt false)<|.k3 1<|.call (Vl a0.Line) λx7=>.k2 1<|.cs (!x7) (.k5 2<|.b8 true<|.kn [0]<|.rt false)<|.k3 2<|.call (G8 a0.Keys) λx10=>.k2 2<|.cs (!x10) (.k4 3<|.b4 true<|.kn [0]<|.rt false)<|.k4 3<|.cs (decide (a0.Color<0)) (.k4 4<|.kn [0]<|.rt false)<|.k4 4<|.br (decide (a0.Color>31)) (.rt false)<|.cs (decide (a0.Power<0)) (.k4 6<|.b16 true<|.b3 true<|.kn [0]<|.rt false)<|.k4 6<|.cs (decide (a0.Power>99)) (.k4 7<|.b8 true<|.b5 true<|.b2 true<|.kn [0]<|.rt false)<|.k4 7<|.cs (decide (a0.Tough<0)) (.k4 8<|.b8 true<|.b3 true<|.kn [0]<|.rt false)<|.k4 8<|.cs (decide (a0.Tough>99)) (.k5 9<|.kg 9<|.b5 true<|.kn [0]<|.rt false)<|.k2 9<|.call (Vm a0) λx19=>.k2 9<|.cs (!x19) (.k4 10<|.cs (a0.Power != 0) (.k3 11<|.kg 10<|.kg 11<|.kg 9<|.kg 10<|.kg 9<|.b5 true<|.kn [0]<|.rt false)<|.k3 11<|.kg 10<|.kg 11<|.kg 9<|.kg 10<|.kg 9<|.cs (a0.Tough != 0) (.k5 12<|.kn [0]<|.rt false)<|.k3 12<|.len aE a0.Abilities<|.k2 12<|.br (decide ((a0.Abilities.length:Int)>8)) (.rt false)<|.jn 0 (.L0 a0) [.relab 1001 3000] (p9 a0))<|.k5 10<|.kg 9<|.kg 10<|.kg 9<|.b3 false<|.len aE a0.Abilities<|.b2 false<|.br (decide ((a0.Abilities.length:Int)>8)) (.rt false)<|.jn 0 (.L0 a0) [.relab 1001 3000] (p9 a0)
def IG:LF m7 Bool :=.m0 47 [.t 2] wB λ|.L0 E0=>([1,1,1],⟨139,[(1,.bptr 3000 0)],[(3000,.box (bx (Z8 E0)))]⟩,p9 E0)|.L1 E0 v3 v4=>([1,1,1,1,0,1,4],⟨139,[(1,.bptr 3000 0),(3,wI v3),(4,wI v4)],[(3000,.box (bx (Z8 E0)))]⟩,zy E0 v3 v4)
def zz:=λa0=>IG.run (IF a0)
def V1(a0){r}(h:zz a0=some r):Fn PR 47 [wA (Z8 a0)] (wB r):=IG.fn h
inductive qa where
 |L0 (v0:List Z1) (v1:By) (v5:Int)
def Z5e(v0:List Z1)(v1:By)(v5:Int):LT qa Int:=
.len Z8 v0<|.br (decide (v5<(v0.length:Int))) (.idx Z8 v0 v5 λx3=>.br (x3.Name==v1) (.rt v5)<|.g0 (.L0 v0 v1 (IntKind.wrap .i64 (v5+1))))<|.rt (-1)
def II(a0:List Z1)(a1:By):LT qa Int:=
.g0 (.L0 a0 a1 0)
def IJ:LF qa Int :=.m0 48 [.t 4] wI λ|.L0 v0 v1 v5=>([1,0,1,4],⟨20,[(0,wL Z8 v0),(1,wS v1),(5,wI v5)],[]⟩,Z5e v0 v1 v5)
def zA:=λa0 a1=>IJ.run (II a0 a1)
def V2(a0)(a1){r}(h:zA a0 a1=some r):Fn PR 48 [wL Z8 a0,wS a1] (wI r):=IJ.fn h
inductive qb where
 |L0 (v0:List Z1) (v1:By) (v5:Int)
def Z0w(v0:List Z1)(v1:By)(v5:Int):LT qb Bool:=
.len Z8 v0<|.br (decide (v5<(v0.length:Int))) (.idx Z8 v0 v5 λx3=>.cs (x3.Name==v1) (.k3 1<|.ag Z8 x3 0<|.k3 1<|.br x3.Token (.rt true)<|.g0 (.L0 v0 v1 (IntKind.wrap .i64 (v5+1))))<|.k5 1<|.kg 1<|.kn [0]<|.g0 (.L0 v0 v1 (IntKind.wrap .i64 (v5+1))))<|.rt false
def IK(a0:List Z1)(a1:By):LT qb Bool:=
.g0 (.L0 a0 a1 0)
def IL:LF qb Bool :=.m0 96 [.t 4] wB λ|.L0 v0 v1 v5=>([1,0,1,4],⟨26,[(0,wL Z8 v0),(1,wS v1),(5,wI v5)],[]⟩,Z0w v0 v1 v5)
def zB:=λa0 a1=>IL.run (IK a0 a1)
def V3(a0)(a1){r}(h:zB a0 a1=some r):Fn PR 96 [wL Z8 a0,wS a1] (wB r):=IL.fn h
inductive m8 where
 |L0 (v0:List Z1) (E0:Z1) (v5:Int)
 |L1 (v0:List Z1) (E0:Z1) (v5:Int) (v6:Int)
def zC(v0:List Z1)(E0:Z1)(v5:Int):LT m8 Bool:=
.len aE E0.Abilities<|.br (decide (v5<(E0.Abilities.length:Int))) (.g0 (.L1 v0 E0 v5 0))<|.rt true
def zD(v0:List Z1)(E0:Z1)(v5:Int)(v6:Int):LT m8 Bool:=
.idx aE E0.Abilities v5 λx1=>.len aR x1.Effects<|.br (decide (v6<(x1.Effects.length:Int))) (.ag aE x1 0<|.idx aR x1.Effects v6 λx5=>.lb 1007<|.cs (x5.Op==12) (.k4 1<|.call (V3 v0 x5.Card) λx8=>.k2 1<|.br (!x8) (.rt false)<|.g0 (.L1 v0 E0 v5 (IntKind.wrap .i64 (v6+1))))<|.k5 1<|.kg 1<|.kn [0]<|.g0 (.L1 v0 E0 v5 (IntKind.wrap .i64 (v6+1))))<|.g0 (.L0 v0 E0 (IntKind.wrap .i64 (v5+1)))
def IM(a0:List Z1)(a1:Z1):LT m8 Bool:=
.lb 1003<|.go (.L0 a0 a1 0) [.relab 1003 3000]
def IN:LF m8 Bool :=.m0 49 [.t 4] wB λ|.L0 v0 E0 v5=>([1,0,1,4],⟨45,[(0,wL Z8 v0),(3,.bptr 3000 0),(5,wI v5)],[(3000,.box (bx (Z8 E0)))]⟩,zC v0 E0 v5)|.L1 v0 E0 v5 v6=>([1,0,1,4,5,1,0,4,1,4],⟨45,[(0,wL Z8 v0),(3,.bptr 3000 0),(5,wI v5),(6,wI v6)],[(3000,.box (bx (Z8 E0)))]⟩,zD v0 E0 v5 v6)
def Z5f:=λa0 a1=>IN.run (IM a0 a1)
def V4(a0)(a1){r}(h:Z5f a0 a1=some r):Fn PR 49 [wL Z8 a0,wA (Z8 a1)] (wB r):=IN.fn h
inductive qc where
 |L0 (v0:List Z1) (v4:Int)
def Z0x(v0:List Z1)(v4:Int):LT qc (Int×Int):=
.len Z8 v0<|.br (decide (v4<(v0.length:Int))) (.idx Z8 v0 v4 λx3=>.call (V1 x3) λx5=>.br (!x5) (.rt (v4,9))<|.ag Z8 x3 0<|.call (V2 v0 x3.Name) λx8=>.br (decide (x8<v4)) (.rt (v4,6))<|.ag Z8 x3 0<|.call (V4 v0 x3) λx11=>.br (!x11) (.rt (v4,7))<|.g0 (.L0 v0 (IntKind.wrap .i64 (v4+1))))<|.rt ((-1),0)
def IP(a0:List Z1):LT qc (Int×Int):=
.len Z8 a0<|.br (decide ((a0.length:Int)>256)) (.rt ((-1),5))<|.g0 (.L0 a0 0)
def IQ:LF qc (Int×Int) :=.m0 23 [.t 2,.t 3] (λr=>(.tup [wI r.1,wI r.2])) λ|.L0 v0 v4=>([1,1,0,1,4],⟨39,[(0,wL Z8 v0),(4,wI v4)],[]⟩,Z0x v0 v4)
def zE:=λa0=>IQ.run (IP a0)
def V5(a0){r}(h:zE a0=some r):Fn PR 23 [wL Z8 a0] (.tup [wI r.1,wI r.2]):=IQ.fn h
def IR(a0:Int)(a1:Int)(a2:Int):LT Empty Bool:=
.cs (decide (a0>=a1)) (.k4 0<|.rt (decide (a0<=a2)))<|.k4 0<|.rt false
def IS:LF Empty Bool :=.z0 50 [.t 6] wB
def zF:=λa0 a1 a2=>IS.run (IR a0 a1 a2)
def fN(a0)(a1)(a2){r}(h:zF a0 a1 a2=some r):Fn PR 50 [wI a0,wI a1,wI a2] (wB r):=IS.fn h
inductive qd where
 |L0 (E0:A6 Int) (v3:Int)
def Z0y(E0:A6 Int)(v3:Int):LT qd Bool:=
.br (decide (v3<6)) (.idA (U.int .i64) (A6.list E0) v3 (bx ((cA6 (cI .i64)) E0)) 0 6 λx2=>.ldC (U.int .i64) 10 x2 0<|.cs (decide (x2<0)) (.k5 1<|.kn [0]<|.rt false)<|.k2 1<|.idA (U.int .i64) (A6.list E0) v3 (bx ((cA6 (cI .i64)) E0)) 0 6 λx5=>.kg 1<|.ldC (U.int .i64) 15 x5 1<|.k2 1<|.br (decide (x5>1000000)) (.rt false)<|.g0 (.L0 E0 (IntKind.wrap .i64 (v3+1))))<|.rt true
def IT(a0:A6 Int):LT qd Bool:=
.lb 1001<|.go (.L0 a0 0) [.relab 1001 3000]
def IU:LF qd Bool :=.m0 97 [.t 2] wB λ|.L0 E0 v3=>([1,0,1,4],⟨18,[(1,.bptr 3000 0),(3,wI v3)],[(3000,.box (bx ((cA6 (cI .i64)) E0)))]⟩,Z0y E0 v3)
def zG:=λa0=>IU.run (IT a0)
def V6(a0){r}(h:zG a0=some r):Fn PR 97 [wA ((cA6 (cI .i64)) a0)] (wB r):=IU.fn h
inductive qe where
 |L0 (v1:Int) (E0:ae) (v5:Int)
def Z0z(v1:Int)(E0:ae)(v5:Int):LT qe Int:=
.len au E0.Objects<|.br (decide (v5<(E0.Objects.length:Int))) (.idx au E0.Objects v5 λx3=>.br (x3.Id==v1) (.rt v5)<|.g0 (.L0 v1 E0 (IntKind.wrap .i64 (v5+1))))<|.rt (-1)
def IV(a0:ae)(a1:Int):LT qe Int:=
.lb 1002<|.go (.L0 a1 a0 0) [.relab 1002 3000]
def IW:LF qe Int :=.m0 239 [.t 4] wI λ|.L0 v1 E0 v5=>([1,0,1,4],⟨22,[(1,wI v1),(2,.bptr 3000 0),(5,wI v5)],[(3000,.box (bx (aC E0)))]⟩,Z0z v1 E0 v5)
def zH:=λa0 a1=>IW.run (IV a0 a1)
def V7(a0)(a1){r}(h:zH a0 a1=some r):Fn PR 239 [wA (aC a0),wI a1] (wI r):=IW.fn h
def IX(a0:ae)(a1:Int):LT Empty (ay×Bool):=
.lb 1002<|.lb 1004<|.call (V7 a0 a1) λx1=>.br (decide (x1<0)) (.rt ((⟨0,0,0,0,0,false,false,false,false,0,(⟨0,0,0⟩:A3 Int),0,0,0,false,0,0⟩:ay),false))<|.idx au a0.Objects x1 λx4=>.rt (x4,true)
def IY:LF Empty (ay×Bool) :=.z0 184 [.c 4 64 true 19,.t 5] (λr=>(.tup [wA (au r.1),wB r.2]))
def zI:=λa0 a1=>IY.run (IX a0 a1)
def V8(a0)(a1){r}(h:zI a0 a1=some r):Fn PR 184 [wA (aC a0),wI a1] (.tup [wA (au r.1),wB r.2]):=IY.fn h
def IZ(a0:ae)(a1:Int):LT Empty (ay×Bool):=
.lb 1002<|.lb 1004<|.call (V8 a0 a1) λx1=>.rt (x1.1,x1.2)
def I0:LF Empty (ay×Bool) :=.z0 134 [.c 4 64 true 19,.t 5] (λr=>(.tup [wA (au r.1),wB r.2]))
def Z9a:=λa0 a1=>I0.run (IZ a0 a1)
def I1(a0)(a1){r}(h:Z9a a0 a1=some r):Fn PR 134 [wA (aC a0),wI a1] (.tup [wA (au r.1),wB r.2]):=I0.fn h
inductive qf where
 |L0 (v0:List Int) (v1:Int) (v5:Int) (v6:Int)
def Z00(v0:List Int)(v1:Int)(v5:Int)(v6:Int):LT qf Int:=
.len (cI .i64) v0<|.br (decide (v6<(v0.length:Int))) (.idx (cI .i64) v0 v6 λx3=>.br (x3==v1) (.g0 (.L0 v0 v1 (IntKind.wrap .i64 (v5+1)) (IntKind.wrap .i64 (v6+1))))<|.g0 (.L0 v0 v1 v5 (IntKind.wrap .i64 (v6+1))))<|.rt v5
def I2(a0:List Int)(a1:Int):LT qf Int:=
.g0 (.L0 a0 a1 0 0)
def I3:LF qf Int :=.m0 135 [.t 4] wI λ|.L0 v0 v1 v5 v6=>([1,1,0,1,4],⟨22,[(0,wL (cI .i64) v0),(1,wI v1),(5,wI v5),(6,wI v6)],[]⟩,Z00 v0 v1 v5 v6)
def zJ:=λa0 a1=>I3.run (I2 a0 a1)
def Z01(a0)(a1){r}(h:zJ a0 a1=some r):Fn PR 135 [wL (cI .i64) a0,wI a1] (wI r):=I3.fn h
inductive qg where
 |L0 (v1:List Int) (v2:Int) (v3:Int) (E0:ae) (v9:Int)
def Z5g(v1:List Int)(v2:Int)(v3:Int)(E0:ae)(v9:Int):LT qg Bool:=
.len (cI .i64) v1<|.br (decide (v9<(v1.length:Int))) (.idx (cI .i64) v1 v9 λx3=>.call (I1 E0 x3) λx5=>.lb 1010<|.cs (!x5.2) (.k5 1<|.b8 true<|.b5 true<|.kn [0]<|.rt false)<|.k5 1<|.cs (x5.1.Zone != v2) (.k5 2<|.b8 true<|.kn [0]<|.rt false)<|.k3 2<|.cs (decide (v3>=0)) (.k4 3<|.kg 2<|.kg 3<|.kg 2<|.cs (x5.1.Owner != v3) (.k8 4<|.kn [0]<|.rt false)<|.k4 4<|.ag (cI .i64) x3 0<|.k2 4<|.call (Z01 v1 x3) λx11=>.k2 4<|.br (x11 != 1) (.rt false)<|.g0 (.L0 v1 v2 v3 E0 (IntKind.wrap .i64 (v9+1))))<|.k4 3<|.kg 2<|.kg 3<|.kg 2<|.b4 false<|.ag (cI .i64) x3 0<|.b2 false<|.call (Z01 v1 x3) λx16=>.b2 false<|.br (x16 != 1) (.rt false)<|.g0 (.L0 v1 v2 v3 E0 (IntKind.wrap .i64 (v9+1))))<|.rt true
def I4(a0:ae)(a1:List Int)(a2:Int)(a3:Int):LT qg Bool:=
.lb 1004<|.go (.L0 a1 a2 a3 a0 0) [.relab 1004 3000]
def I5:LF qg Bool :=.m0 98 [.t 8] wB λ|.L0 v1 v2 v3 E0 v9=>([1,0,1,4],⟨54,[(1,wL (cI .i64) v1),(2,wI v2),(3,wI v3),(4,.bptr 3000 0),(9,wI v9)],[(3000,.box (bx (aC E0)))]⟩,Z5g v1 v2 v3 E0 v9)
def zK:=λa0 a1 a2 a3=>I5.run (I4 a0 a1 a2 a3)
def qh(a0)(a1)(a2)(a3){r}(h:zK a0 a1 a2 a3=some r):Fn PR 98 [wA (aC a0),wL (cI .i64) a1,wI a2,wI a3] (wB r):=I5.fn h
inductive qi where
 |L0 (E0:ae) (v3:Int)
def zL(E0:ae)(v3:Int):LT qi Bool:=
.len aJ E0.Players<|.br (decide (v3<(E0.Players.length:Int))) (.idx aJ E0.Players v3 λx3=>.lb 1004<|.call (fN x3.Life (-1000000) 1000000) λx5=>.cs (!x5) (.k5 1<|.b8 true<|.b2 true<|.kn [0]<|.rt false)<|.k3 1<|.call (fN x3.Venom 0 1000000) λx8=>.k2 1<|.cs (!x8) (.k5 2<|.b5 true<|.kn [0]<|.rt false)<|.k3 2<|.call (fN x3.Lands 0 1000000) λx11=>.k2 2<|.cs (!x11) (.k5 3<|.kn [0]<|.rt false)<|.k3 3<|.call (V6 x3.Pool) λx14=>.k2 3<|.br (!x14) (.rt false)<|.call (qh E0 x3.Library 2 v3) λx17=>.cs (!x17) (.k5 5<|.k2 5<|.b5 true<|.b2 true<|.kn [0]<|.rt false)<|.k5 5<|.call (qh E0 x3.Hand 1 v3) λx20=>.k2 5<|.cs (!x20) (.k5 6<|.k2 6<|.kn [0]<|.rt false)<|.k5 6<|.call (qh E0 x3.Graveyard 3 v3) λx23=>.k2 6<|.br (!x23) (.rt false)<|.g0 (.L0 E0 (IntKind.wrap .i64 (v3+1))))<|.call (qh E0 E0.Battlefield 0 (-1)) λx28=>.cs x28 (.k4 1<|.call (qh E0 E0.Exile 4 (-1)) λx31=>.kg 1<|.rt x31)<|.k5 1<|.rt false
def I6(a0:ae):LT qi Bool:=
.lb 1001<|.len aJ a0.Players<|.call (fN (a0.Players.length:Int) 2 4) λx2=>.br (!x2) (.rt false)<|.go (.L0 a0 0) [.relab 1001 3000]
def I7:LF qi Bool :=.m0 51 [.t 2] wB λ|.L0 E0 v3=>([1,1,0,1,4],⟨76,[(1,.bptr 3000 0),(3,wI v3)],[(3000,.box (bx (aC E0)))]⟩,zL E0 v3)
def Z5h:=λa0=>I7.run (I6 a0)
def V9(a0){r}(h:Z5h a0=some r):Fn PR 51 [wA (aC a0)] (wB r):=I7.fn h
def I8(a0:ae)(a1:Int):LT Empty Bool:=
.lb 1002<|.len aJ a0.Players<|.call (fN a1 0 (IntKind.wrap .i64 ((a0.Players.length:Int)-1))) λx4=>.rt x4
def I9:LF Empty Bool :=.z0 52 [.t 4] wB
def Z9b:=λa0 a1=>I9.run (I8 a0 a1)
def lK(a0)(a1){r}(h:Z9b a0 a1=some r):Fn PR 52 [wA (aC a0),wI a1] (wB r):=I9.fn h
inductive Z02 where
 |L0 (E0:A3 Int) (v3:Int)
def zM(E0:A3 Int)(v3:Int):LT Z02 Bool:=
.br (decide (v3<3)) (.idA (U.int .i64) (A3.list E0) v3 (bx ((cA3 (cI .i64)) E0)) 0 3 λx2=>.ldC (U.int .i64) 10 x2 0<|.cs (decide (x2<0)) (.k5 1<|.kn [0]<|.rt false)<|.k2 1<|.idA (U.int .i64) (A3.list E0) v3 (bx ((cA3 (cI .i64)) E0)) 0 3 λx5=>.kg 1<|.ldC (U.int .i64) 15 x5 1<|.k2 1<|.br (decide (x5>1000000)) (.rt false)<|.g0 (.L0 E0 (IntKind.wrap .i64 (v3+1))))<|.rt true
def Ja(a0:A3 Int):LT Z02 Bool:=
.lb 1001<|.go (.L0 a0 0) [.relab 1001 3000]
def Jb:LF Z02 Bool :=.m0 136 [.t 2] wB λ|.L0 E0 v3=>([1,0,1,4],⟨18,[(1,.bptr 3000 0),(3,wI v3)],[(3000,.box (bx ((cA3 (cI .i64)) E0)))]⟩,zM E0 v3)
def zN:=λa0=>Jb.run (Ja a0)
def Wa(a0){r}(h:zN a0=some r):Fn PR 136 [wA ((cA3 (cI .i64)) a0)] (wB r):=Jb.fn h
def Jc(a0:ay):LT Empty ay:=
.lb 1001<|.lb 1002<|.rt (⟨a0.Id,a0.Card,a0.Owner,a0.Control,a0.Zone,a0.Token,a0.Tapped,a0.Sick,a0.Deadly,a0.Damage,a0.Counters,a0.Stamp,a0.Copy,-1,false,0,a0.Shield⟩:ay)
def Jd:LF Empty ay :=.z0 137 [.c 2 64 true 19] (λr=>(wA (au r)))
def zO:=λa0=>Jd.run (Jc a0)
def Wb(a0){r}(h:zO a0=some r):Fn PR 137 [wA (au a0)] (wA (au r)):=Jd.fn h
def Je(a0:ay):LT Empty ay:=
.lb 1001<|.lb 1002<|.rt (⟨a0.Id,a0.Card,a0.Owner,a0.Control,a0.Zone,a0.Token,a0.Tapped,a0.Sick,false,0,a0.Counters,a0.Stamp,a0.Copy,a0.Attack,a0.Blocked,a0.Blocks,0⟩:ay)
def Jf:LF Empty ay :=.z0 138 [.c 2 64 true 19] (λr=>(wA (au r)))
def zP:=λa0=>Jf.run (Je a0)
def Wc(a0){r}(h:zP a0=some r):Fn PR 138 [wA (au a0)] (wA (au r)):=Jf.fn h
def Jg(a0:ay)(a1:Int)(a2:Int):LT Empty Bool:=
.lb 1003<|.cs (decide (a0.Id<1)) (.k4 0<|.b16 true<|.b8 true<|.b5 true<|.b2 true<|.kn [0]<|.rt false)<|.k4 0<|.cs (decide (a0.Card<0)) (.k5 1<|.b16 true<|.b8 true<|.b2 true<|.kn [0]<|.rt false)<|.k5 1<|.cs (decide (a0.Card>=a1)) (.k4 2<|.b16 true<|.b5 true<|.kb true<|.kn [0]<|.rt false)<|.k4 2<|.cs (decide (a0.Owner<0)) (.k5 3<|.b16 true<|.kb true<|.kn [0]<|.rt false)<|.k5 3<|.cs (decide (a0.Owner>=a2)) (.k4 4<|.b8 true<|.b5 true<|.kn [0]<|.rt false)<|.k4 4<|.cs (decide (a0.Control<0)) (.k5 5<|.b8 true<|.kn [0]<|.rt false)<|.k5 5<|.cs (decide (a0.Control>=a2)) (.k4 6<|.b4 true<|.kn [0]<|.rt false)<|.k4 6<|.cs (decide (a0.Zone<0)) (.k4 7<|.kn [0]<|.rt false)<|.k4 7<|.br (decide (a0.Zone>5)) (.rt false)<|.cs (decide (a0.Damage<0)) (.k4 9<|.b16 true<|.b8 true<|.kn [0]<|.rt false)<|.k4 9<|.cs (decide (a0.Damage>1000000)) (.k4 10<|.b16 true<|.b4 true<|.kn [0]<|.rt false)<|.k4 10<|.cs (decide (a0.Stamp<0)) (.k4 11<|.b16 true<|.kn [0]<|.rt false)<|.k4 11<|.cs (decide (a0.Stamp>1000000)) (.k4 12<|.b8 true<|.b4 true<|.kn [0]<|.rt false)<|.k4 12<|.cs (decide (a0.Blocks<0)) (.k4 13<|.b8 true<|.kn [0]<|.rt false)<|.k4 13<|.cs (decide (a0.Blocks>1000000)) (.k4 14<|.b4 true<|.kn [0]<|.rt false)<|.k4 14<|.cs (decide (a0.Shield<0)) (.k4 15<|.kn [0]<|.rt false)<|.k4 15<|.br (decide (a0.Shield>1000000)) (.rt false)<|.call (Wa a0.Counters) λx18=>.cs (!x18) (.k4 17<|.b8 true<|.b5 true<|.kb true<|.kn [0]<|.rt false)<|.k4 17<|.cs (decide (a0.Copy<(-1))) (.k5 18<|.b8 true<|.kb true<|.kn [0]<|.rt false)<|.k5 18<|.cs (decide (a0.Copy>=a1)) (.k4 19<|.b5 true<|.kn [0]<|.rt false)<|.k4 19<|.cs (decide (a0.Attack<(-1))) (.k5 20<|.kn [0]<|.rt false)<|.k5 20<|.br (decide (a0.Attack>=a2)) (.rt false)<|.cs (a0.Zone==0) (.k8 22<|.k5 22<|.rt true)<|.k3 22<|.call (Wb a0) λx26=>.k2 22<|.cs (ax (au a0) (au x26)) (.k3 23<|.call (Wc a0) λx29=>.kg 23<|.kg 22<|.kg 23<|.kg 22<|.cs (ax (au a0) (au x29)) (.k3 24<|.kg 22<|.kg 24<|.kg 22<|.cs (!a0.Tapped) (.k3 25<|.kg 22<|.kg 25<|.kg 22<|.cs (!a0.Sick) (.k4 26<|.kg 22<|.kg 26<|.kg 22<|.rt (ax ((cA3 (cI .i64)) a0.Counters) ((cA3 (cI .i64)) (⟨0,0,0⟩:A3 Int))))<|.k4 26<|.kg 22<|.kg 26<|.kg 22<|.rt false)<|.k3 25<|.kg 22<|.kg 25<|.kg 22<|.b4 false<|.kg 22<|.kb false<|.kg 22<|.rt false)<|.k3 24<|.kg 22<|.kg 24<|.kg 22<|.b3 false<|.kg 22<|.kb false<|.kg 22<|.b4 false<|.kg 22<|.kb false<|.kg 22<|.rt false)<|.k4 23<|.kg 22<|.kg 23<|.kg 22<|.b3 false<|.kg 22<|.kb false<|.kg 22<|.b3 false<|.kg 22<|.kb false<|.kg 22<|.b4 false<|.kg 22<|.kb false<|.kg 22<|.rt false
def Jh:LF Empty Bool :=.z0 99 [.t 6] wB
def zQ:=λa0 a1 a2=>Jh.run (Jg a0 a1 a2)
def Wd(a0)(a1)(a2){r}(h:zQ a0 a1 a2=some r):Fn PR 99 [wA (au a0),wI a1,wI a2] (wB r):=Jh.fn h
inductive qj where
 |L0 (v1:Int) (E0:ae) (v5:Int) (v6:Int)
def zR(v1:Int)(E0:ae)(v5:Int)(v6:Int):LT qj Int:=
.len ak E0.Stack<|.br (decide (v6<(E0.Stack.length:Int))) (.idx ak E0.Stack v6 λx3=>.cs (x3.Kind==1) (.k4 1<|.ag ak x3 0<|.k5 1<|.br (x3.Id==v1) (.g0 (.L0 v1 E0 (IntKind.wrap .i64 (v5+1)) (IntKind.wrap .i64 (v6+1))))<|.g0 (.L0 v1 E0 v5 (IntKind.wrap .i64 (v6+1))))<|.k8 1<|.kg 1<|.kn [0]<|.g0 (.L0 v1 E0 v5 (IntKind.wrap .i64 (v6+1))))<|.rt v5
def Ji(a0:ae)(a1:Int):LT qj Int:=
.lb 1002<|.go (.L0 a1 a0 0 0) [.relab 1002 3000]
def Jj:LF qj Int :=.m0 139 [.t 4] wI λ|.L0 v1 E0 v5 v6=>([1,1,0,1,4],⟨34,[(1,wI v1),(2,.bptr 3000 0),(5,wI v5),(6,wI v6)],[(3000,.box (bx (aC E0)))]⟩,zR v1 E0 v5 v6)
def Z9c:=λa0 a1=>Jj.run (Ji a0 a1)
def We(a0)(a1){r}(h:Z9c a0 a1=some r):Fn PR 139 [wA (aC a0),wI a1] (wI r):=Jj.fn h
def Jk(a0:List Int):LT Empty (List Int):=
.lb 1003<|.apR (cI .i64) 8 ([]:List Int) a0 λx1=>.ret x1 [.relab 1003 5000]
def Jl:LF Empty (List Int) :=.z 65 [.t 2] true (λr=>[(5000,wR (cI .i64) 1 r)]) (λr=>(wO (cI .i64) 5000 r))
def Z9d:=λa0=>Jl.run (Jk a0)
def jD(a0){r}(h:Z9d a0=some r):FnG PR 65 [] [wL (cI .i64) a0] [(5000,wR (cI .i64) 1 r)] (wO (cI .i64) 5000 r):=Jl.fn h
def tp(a0:List Int){r:List Int}(h:Z9d a0=some r):Fn PR 65 [wL (cI .i64) a0] (wL (cI .i64) r):=FnG.frozen (C:=LT.RL (cI .i64) r/\True) (jD a0 h) ⟨rfl,aa⟩ aq
def Jm(a0:ae)(a1:Int)(a2:Int):LT Empty (List Int):=
.lb 1003<|.br (a1==0) (.callF (jD a0.Battlefield) 130000 λx2=>.ret x2 [.relab 135000 5000])<|.br (a1==4) (.callF (jD a0.Exile) 180000 λx5=>.ret x5 [.relab 185000 5000])<|.cs (decide (a2<0)) (.k5 2<|.kg 2<|.kn [0]<|.ret ([]:List Int) [.own 6 5000 1])<|.k4 2<|.len aJ a0.Players<|.k2 2<|.br (decide (a2>=(a0.Players.length:Int))) (.ret ([]:List Int) [.own 6 5000 1])<|.br (a1==1) (.idx aJ a0.Players a2 λx11=>.callF (jD x11.Hand) 370000 λx13=>.ret x13 [.relab 375000 5000])<|.br (a1==2) (.idx aJ a0.Players a2 λx16=>.callF (jD x16.Library) 460000 λx18=>.ret x18 [.relab 465000 5000])<|.br (a1==3) (.idx aJ a0.Players a2 λx21=>.callF (jD x21.Graveyard) 550000 λx23=>.ret x23 [.relab 555000 5000])<|.ret ([]:List Int) [.own 6 5000 1]
def Jn:LF Empty (List Int) :=.z 140 [.t 6] true (λr=>[(5000,wR (cI .i64) 1 r)]) (λr=>(wO (cI .i64) 5000 r))
def Z9e:=λa0 a1 a2=>Jn.run (Jm a0 a1 a2)
def Wf(a0)(a1)(a2){r}(h:Z9e a0 a1 a2=some r):FnG PR 140 [] [wA (aC a0),wI a1,wI a2] [(5000,wR (cI .i64) 1 r)] (wO (cI .i64) 5000 r):=Jn.fn h
def Wg(a0:ae)(a1:Int)(a2:Int){r:List Int}(h:Z9e a0 a1 a2=some r):Fn PR 140 [wA (aC a0),wI a1,wI a2] (wL (cI .i64) r):=FnG.frozen (C:=LT.RL (cI .i64) r/\True) (Wf a0 a1 a2 h) ⟨rfl,aa⟩ aq
def Jo(a0:ae)(a1:ay):LT Empty Bool:=
.lb 1002<|.lb 1003<|.br (a1.Zone==5) (.call (We a0 a1.Id) λx2=>.rt (x2==1))<|.call (Wg a0 a1.Zone a1.Owner) λx4=>.call (Z01 x4 a1.Id) λx6=>.rt (x6==1)
def Jp:LF Empty Bool :=.z0 100 [.t 4] wB
def Z9f:=λa0 a1=>Jp.run (Jo a0 a1)
def Jq(a0)(a1){r}(h:Z9f a0 a1=some r):Fn PR 100 [wA (aC a0),wA (au a1)] (wB r):=Jp.fn h
inductive qk where
 |L0 (v0:List Z1) (E0:ae) (v5:Int)
def zS(v0:List Z1)(E0:ae)(v5:Int):LT qk Bool:=
.len au E0.Objects<|.br (decide (v5<(E0.Objects.length:Int))) (.idx au E0.Objects v5 λx3=>.lb 1006<|.len Z8 v0<|.len aJ E0.Players<|.call (Wd x3 (v0.length:Int) (E0.Players.length:Int)) λx7=>.cs (!x7) (.k5 1<|.kg 1<|.b8 true<|.b3 true<|.kn [0]<|.rt false)<|.k5 1<|.kg 1<|.cs (decide (x3.Id>=E0.NextId)) (.k5 2<|.kg 2<|.b5 true<|.kn [0]<|.rt false)<|.k5 2<|.kg 2<|.cs (decide (x3.Stamp>=E0.NextStamp)) (.k5 3<|.kn [0]<|.rt false)<|.k3 3<|.cs (decide (v5>0)) (.k5 4<|.idx au E0.Objects (IntKind.wrap .i64 (v5-1)) λx15=>.k5 4<|.kg 3<|.kg 4<|.kg 3<|.br (decide (x15.Id>=x3.Id)) (.rt false)<|.call (Jq E0 x3) λx18=>.br (!x18) (.rt false)<|.g0 (.L0 v0 E0 (IntKind.wrap .i64 (v5+1))))<|.k8 4<|.k2 4<|.kg 3<|.kg 4<|.kg 3<|.kn [0]<|.call (Jq E0 x3) λx23=>.br (!x23) (.rt false)<|.g0 (.L0 v0 E0 (IntKind.wrap .i64 (v5+1))))<|.rt true
def Jr(a0:List Z1)(a1:ae):LT qk Bool:=
.lb 1003<|.len au a1.Objects<|.br (decide ((a1.Objects.length:Int)>2048)) (.rt false)<|.go (.L0 a0 a1 0) [.relab 1003 3000]
def Js:LF qk Bool :=.m0 53 [.t 4] wB λ|.L0 v0 E0 v5=>([1,1,0,1,4],⟨65,[(0,wL Z8 v0),(3,.bptr 3000 0),(5,wI v5)],[(3000,.box (bx (aC E0)))]⟩,zS v0 E0 v5)
def Z5i:=λa0 a1=>Js.run (Jr a0 a1)
def tq(a0)(a1){r}(h:Z5i a0 a1=some r):Fn PR 53 [wL Z8 a0,wA (aC a1)] (wB r):=Js.fn h
inductive ql where
 |L0 (v0:List ah) (v1:List ah) (v5:Int)
def zT(v0:List ah)(v1:List ah)(v5:Int):LT ql Bool:=
.len av v0<|.br (decide (v5<(v0.length:Int))) (.idx av v0 v5 λx3=>.idx av v1 v5 λx5=>.br (!(ax (av x3) (av x5))) (.rt false)<|.g0 (.L0 v0 v1 (IntKind.wrap .i64 (v5+1))))<|.rt true
def Z7g(a0:List ah)(a1:List ah):LT ql Bool:=
.len av a0<|.len av a1<|.br ((a0.length:Int) != (a1.length:Int)) (.rt false)<|.g0 (.L0 a0 a1 0)
def Z7h:LF ql Bool :=.m0 143 [.t 4] wB λ|.L0 v0 v1 v5=>([1,1,0,1,4],⟨26,[(0,wL av v0),(1,wL av v1),(5,wI v5)],[]⟩,zT v0 v1 v5)
def Z03:=λa0 a1=>Z7h.run (Z7g a0 a1)
def Z3y(a0)(a1){r}(h:Z03 a0 a1=some r):Fn PR 143 [wL av a0,wL av a1] (wB r):=Z7h.fn h
def Jt(a0:aU)(a1:aU):LT Empty Bool:=
.lb 1002<|.lb 1003<|.cs (a0.Op==a1.Op) (.k5 0<|.kg 0<|.cs (ax (fi a0.Ref) (fi a1.Ref)) (.k5 1<|.kg 1<|.cs (ax (c6 a0.Amount) (c6 a1.Amount)) (.k5 2<|.kg 2<|.cs (a0.Counter==a1.Counter) (.k5 3<|.kg 3<|.cs (a0.Zone==a1.Zone) (.k5 4<|.kg 4<|.cs (a0.Card==a1.Card) (.k5 5<|.kg 5<|.cs (ax (bg a0.Filter) (bg a1.Filter)) (.k5 6<|.kg 6<|.cs (ax ((cA6 (cI .i64)) a0.Pool) ((cA6 (cI .i64)) a1.Pool)) (.k5 7<|.call (Z3y a0.Mods a1.Mods) λx9=>.kg 7<|.rt x9)<|.k5 7<|.kg 7<|.rt false)<|.k5 6<|.kg 6<|.b5 false<|.kb false<|.rt false)<|.k5 5<|.kg 5<|.b8 false<|.b4 false<|.rt false)<|.k5 4<|.kg 4<|.b16 false<|.b2 false<|.rt false)<|.k5 3<|.kg 3<|.b16 false<|.b8 false<|.rt false)<|.k5 2<|.kg 2<|.b16 false<|.b8 false<|.b5 false<|.kb false<|.rt false)<|.k5 1<|.kg 1<|.b16 false<|.b16 false<|.b4 false<|.rt false)<|.k5 0<|.kg 0<|.b16 false<|.b16 false<|.b8 false<|.b2 false<|.rt false
def Ju:LF Empty Bool :=.z0 192 [.t 4] wB
def zU:=λa0 a1=>Ju.run (Jt a0 a1)
def Wh(a0)(a1){r}(h:zU a0 a1=some r):Fn PR 192 [wA (aR a0),wA (aR a1)] (wB r):=Ju.fn h
inductive qm where
 |L0 (v0:List aU) (v1:List aU) (v5:Int)
def zV(v0:List aU)(v1:List aU)(v5:Int):LT qm Bool:=
.len aR v0<|.br (decide (v5<(v0.length:Int))) (.idx aR v0 v5 λx3=>.idx aR v1 v5 λx5=>.call (Wh x3 x5) λx7=>.br (!x7) (.rt false)<|.g0 (.L0 v0 v1 (IntKind.wrap .i64 (v5+1))))<|.rt true
def Z7i(a0:List aU)(a1:List aU):LT qm Bool:=
.len aR a0<|.len aR a1<|.br ((a0.length:Int) != (a1.length:Int)) (.rt false)<|.g0 (.L0 a0 a1 0)
def Z7j:LF qm Bool :=.m0 144 [.t 4] wB λ|.L0 v0 v1 v5=>([1,1,0,1,4],⟨27,[(0,wL aR v0),(1,wL aR v1),(5,wI v5)],[]⟩,zV v0 v1 v5)
def Z04:=λa0 a1=>Z7j.run (Z7i a0 a1)
def Wi(a0)(a1){r}(h:Z04 a0 a1=some r):Fn PR 144 [wL aR a0,wL aR a1] (wB r):=Z7j.fn h
inductive qn where
 |L0 (E0:ar) (E1:ar) (v5:Int)
def Z5j(E0:ar)(E1:ar)(v5:Int):LT qn Bool:=
.len Z4 E0.Specs<|.br (decide (v5<(E0.Specs.length:Int))) (.idx Z4 E0.Specs v5 λx3=>.idx Z4 E1.Specs v5 λx5=>.br (!(ax (Z4 x3) (Z4 x5))) (.rt false)<|.g0 (.L0 E0 E1 (IntKind.wrap .i64 (v5+1))))<|.cs (E0.Kind==E1.Kind) (.k5 1<|.kg 1<|.cs (ax (bg E0.Filter) (bg E1.Filter)) (.k5 2<|.call (Z3y E0.Mods E1.Mods) λx12=>.kg 2<|.cs x12 (.k5 3<|.kg 3<|.cs (ax (gB E0.Price) (gB E1.Price)) (.k5 4<|.kg 4<|.cs (E0.Slow==E1.Slow) (.k5 5<|.kg 5<|.cs (ax (fZ E0.Trigger) (fZ E1.Trigger)) (.k5 6<|.kg 6<|.cs (E0.May==E1.May) (.k5 7<|.call (Wi E0.Effects E1.Effects) λx19=>.kg 7<|.cs x19 (.k5 8<|.kg 8<|.rt (ax (eZ E0.Replace) (eZ E1.Replace)))<|.k5 8<|.kg 8<|.rt false)<|.k5 7<|.kg 7<|.b5 false<|.kb false<|.rt false)<|.k5 6<|.kg 6<|.b8 false<|.b4 false<|.rt false)<|.k5 5<|.kg 5<|.b16 false<|.b2 false<|.rt false)<|.k5 4<|.kg 4<|.b16 false<|.b8 false<|.rt false)<|.k5 3<|.kg 3<|.b16 false<|.b8 false<|.b5 false<|.kb false<|.rt false)<|.k5 2<|.kg 2<|.b16 false<|.b16 false<|.b4 false<|.rt false)<|.k5 1<|.kg 1<|.b16 false<|.b16 false<|.b8 false<|.b2 false<|.rt false
def Jv(a0:ar)(a1:ar):LT qn Bool:=
.lb 1002<|.lb 1003<|.len Z4 a0.Specs<|.len Z4 a1.Specs<|.br ((a0.Specs.length:Int) != (a1.Specs.length:Int)) (.rt false)<|.go (.L0 a0 a1 0) [.relab 1002 3000,.relab 1003 3001]
def Jw:LF qn Bool :=.m0 106 [.t 4] wB λ|.L0 E0 E1 v5=>([1,1,0,1,4],⟨92,[(2,.bptr 3000 0),(3,.bptr 3001 0),(5,wI v5)],[(3000,.box (bx (aE E0))),(3001,.box (bx (aE E1)))]⟩,Z5j E0 E1 v5)
def zW:=λa0 a1=>Jw.run (Jv a0 a1)
def Z5k(a0)(a1){r}(h:zW a0 a1=some r):Fn PR 106 [wA (aE a0),wA (aE a1)] (wB r):=Jw.fn h
def Jy(a0:ae)(a1:az):LT Empty Bool:=
.lb 1002<|.lb 1003<|.call (fN a1.Id 1 (IntKind.wrap .i64 (a0.NextId-1))) λx3=>.cs (!x3) (.k5 0<|.b8 true<|.b3 true<|.kn [0]<|.rt false)<|.k3 0<|.call (fN a1.X 0 1000000) λx6=>.k2 0<|.cs (!x6) (.k5 1<|.b5 true<|.kb true<|.kn [0]<|.rt false)<|.k3 1<|.len Z0 a1.Targets<|.k2 1<|.cs (decide ((a1.Targets.length:Int)>4)) (.k5 2<|.kg 2<|.kn [0]<|.rt false)<|.k4 2<|.call (lK a0 a1.Control) λx11=>.k2 2<|.br (!x11) (.rt false)<|.call (I1 a0 a1.Id) λx14=>.lb 1005<|.br (a1.Kind==1) (.call (Z5k a1.Ability (⟨0,(⟨0,0,0,0,0,0,0,([]:By),0,0,(⟨0,0⟩:ab),(⟨0,0⟩:ab),(⟨0,0⟩:ab)⟩:ai),([]:List ah),(⟨(⟨0,0,(⟨0,0,0,0,0⟩:A5 Int)⟩:Z5),false,false,0⟩:eU),false,(⟨0,0,(⟨0,0,0,0,0,0,0,([]:By),0,0,(⟨0,0⟩:ab),(⟨0,0⟩:ab),(⟨0,0⟩:ab)⟩:ai)⟩:dM),false,([]:List bz),([]:List aU),(⟨0,0,(⟨0,0,0,0,0,0,0,([]:By),0,0,(⟨0,0⟩:ab),(⟨0,0⟩:ab),(⟨0,0⟩:ab)⟩:ai),0,0,0,0⟩:cE)⟩:ar)) λx17=>.cs (a1.Source==a1.Id) (.k2 5<|.cs x14.2 (.k4 6<|.cs (x14.1.Zone==5) (.k2 7<|.cs x17 (.k3 8<|.kg 7<|.kg 8<|.kg 7<|.rt true)<|.k3 8<|.call (Z3x a1.Ability) λx23=>.kg 7<|.kg 8<|.kg 7<|.rt x23)<|.k4 7<|.rt false)<|.k4 6<|.b4 false<|.rt false)<|.k2 5<|.b8 false<|.rt false)<|.cs (a1.Kind==2) (.k3 5<|.cs (!x14.2) (.k3 6<|.call (Z3x a1.Ability) λx27=>.kg 6<|.rt x27)<|.k4 6<|.rt false)<|.k3 5<|.b4 false<|.rt false
def Jz:LF Empty Bool :=.z0 101 [.t 4] wB
def zX:=λa0 a1=>Jz.run (Jy a0 a1)
def Wj(a0)(a1){r}(h:zX a0 a1=some r):Fn PR 101 [wA (aC a0),wA (ak a1)] (wB r):=Jz.fn h
inductive Z05 where
 |L0 (v0:List Int) (v3:Int)
def zY(v0:List Int)(v3:Int):LT Z05 Bool:=
.len (cI .i64) v0<|.br (decide (v3<(v0.length:Int))) (.idx (cI .i64) v0 (IntKind.wrap .i64 (v3-1)) λx5=>.idx (cI .i64) v0 v3 λx7=>.br (decide (x5>=x7)) (.rt false)<|.g0 (.L0 v0 (IntKind.wrap .i64 (v3+1))))<|.rt true
def JA(a0:List Int):LT Z05 Bool:=
.g0 (.L0 a0 1)
def JB:LF Z05 Bool :=.m0 102 [.t 2] wB λ|.L0 v0 v3=>([1,0,1,4],⟨20,[(0,wL (cI .i64) v0),(3,wI v3)],[]⟩,zY v0 v3)
def zZ:=λa0=>JB.run (JA a0)
def Wl(a0){r}(h:zZ a0=some r):Fn PR 102 [wL (cI .i64) a0] (wB r):=JB.fn h
inductive kj where
 |L0 (E0:ae) (v3:Int)
 |L1 (E0:ae) (v3:Int) (v4:Int)
 |L2 (E0:ae) (v5:Int)
 |L3 (E0:ae) (v7:Int)
def Z06(E0:ae)(v3:Int):LT kj Bool:=
.len ak E0.Stack<|.br (decide (v3<(E0.Stack.length:Int))) (.idx ak E0.Stack v3 λx3=>.call (Wj E0 x3) λx5=>.br (!x5) (.rt false)<|.g0 (.L1 E0 v3 0))<|.g0 (.L2 E0 0)
def Z07(E0:ae)(v3:Int)(v4:Int):LT kj Bool:=
.br (decide (v4<v3)) (.idx ak E0.Stack v4 λx2=>.idx ak E0.Stack v3 λx4=>.br (x2.Id==x4.Id) (.rt false)<|.g0 (.L1 E0 v3 (IntKind.wrap .i64 (v4+1))))<|.g0 (.L0 E0 (IntKind.wrap .i64 (v3+1)))
def Z08(E0:ae)(v5:Int):LT kj Bool:=
.len aY E0.Waiting<|.br (decide (v5<(E0.Waiting.length:Int))) (.idx aY E0.Waiting v5 λx3=>.lb 1006<|.call (lK E0 x3.Control) λx5=>.cs (!x5) (.k5 1<|.b5 true<|.kn [0]<|.rt false)<|.k5 1<|.cs (x3.Ability.Kind != 4) (.k5 2<|.kn [0]<|.rt false)<|.k3 2<|.call (Z3x x3.Ability) λx9=>.k2 2<|.br (!x9) (.rt false)<|.g0 (.L2 E0 (IntKind.wrap .i64 (v5+1))))<|.g0 (.L3 E0 0)
def Z09(E0:ae)(v7:Int):LT kj Bool:=
.len aV E0.Conts<|.br (decide (v7<(E0.Conts.length:Int))) (.idx aV E0.Conts v7 λx3=>.lb 1008<|.call (lK E0 x3.Control) λx5=>.cs (!x5) (.k5 1<|.kg 1<|.b8 true<|.b5 true<|.b2 true<|.kn [0]<|.rt false)<|.k5 1<|.kg 1<|.cs (decide (x3.Stamp>=E0.NextStamp)) (.k5 2<|.b8 true<|.b2 true<|.kn [0]<|.rt false)<|.k3 2<|.call (fN x3.Until 1 2) λx9=>.k2 2<|.cs (!x9) (.k5 3<|.b5 true<|.kn [0]<|.rt false)<|.k3 3<|.call (Wl x3.Objects) λx12=>.k2 3<|.cs (!x12) (.k5 4<|.kn [0]<|.rt false)<|.k3 4<|.call (yW x3.Mods) λx15=>.k2 4<|.br (x15==([]:By)) (.rt false)<|.g0 (.L3 E0 (IntKind.wrap .i64 (v7+1))))<|.rt true
def JC(a0:ae):LT kj Bool:=
.lb 1001<|.len ak a0.Stack<|.cs (decide ((a0.Stack.length:Int)>64)) (.k5 0<|.b5 true<|.kn [0]<|.rt false)<|.k3 0<|.len aY a0.Waiting<|.k2 0<|.cs (decide ((a0.Waiting.length:Int)>64)) (.k5 1<|.kn [0]<|.rt false)<|.k3 1<|.len aV a0.Conts<|.k2 1<|.br (decide ((a0.Conts.length:Int)>64)) (.rt false)<|.go (.L0 a0 0) [.relab 1001 3000]
def JD:LF kj Bool :=.m0 54 [.t 2] wB λ|.L0 E0 v3=>([1,1,0,1,4],⟨129,[(1,.bptr 3000 0),(3,wI v3)],[(3000,.box (bx (aC E0)))]⟩,Z06 E0 v3)|.L1 E0 v3 v4=>([1,1,0,1,4,5,1,0,4,1,1,4],⟨129,[(1,.bptr 3000 0),(3,wI v3),(4,wI v4)],[(3000,.box (bx (aC E0)))]⟩,Z07 E0 v3 v4)|.L2 E0 v5=>([1,1,1,0,1,4],⟨129,[(1,.bptr 3000 0),(5,wI v5)],[(3000,.box (bx (aC E0)))]⟩,Z08 E0 v5)|.L3 E0 v7=>([1,1,1,1,0,1,4],⟨129,[(1,.bptr 3000 0),(7,wI v7)],[(3000,.box (bx (aC E0)))]⟩,Z09 E0 v7)
def z6:=λa0=>JD.run (JC a0)
def tt(a0){r}(h:z6 a0=some r):Fn PR 54 [wA (aC a0)] (wB r):=JD.fn h
inductive Z1a where
 |L0 (v0:List Z1) (E0:ae) (v5:Int)
def vq(v0:List Z1)(E0:ae)(v5:Int):LT Z1a Bool:=
.len (cI .i64) E0.Extra<|.br (decide (v5<(E0.Extra.length:Int))) (.idx (cI .i64) E0.Extra v5 λx3=>.call (lK E0 x3) λx5=>.br (!x5) (.rt false)<|.g0 (.L0 v0 E0 (IntKind.wrap .i64 (v5+1))))<|.cs (E0.Over==1) (.k4 1<|.call (lK E0 E0.Winner) λx11=>.k2 1<|.cs (!x11) (.k5 2<|.kg 2<|.kn [0]<|.rt false)<|.k4 2<|.cs (E0.Over != 1) (.k3 3<|.kg 2<|.kg 3<|.kg 2<|.br (E0.Winner != (-1)) (.rt false)<|.call (tq v0 E0) λx16=>.cs x16 (.k2 5<|.call (tt E0) λx19=>.kg 5<|.rt x19)<|.k3 5<|.rt false)<|.k3 3<|.kg 2<|.kg 3<|.kg 2<|.kn [0]<|.call (tq v0 E0) λx21=>.cs x21 (.k2 4<|.call (tt E0) λx24=>.kg 4<|.rt x24)<|.k3 4<|.rt false)<|.k5 1<|.kg 1<|.b4 false<|.cs (E0.Over != 1) (.k3 2<|.kb false<|.kg 2<|.kb false<|.br (E0.Winner != (-1)) (.rt false)<|.call (tq v0 E0) λx28=>.cs x28 (.k2 4<|.call (tt E0) λx31=>.kg 4<|.rt x31)<|.k3 4<|.rt false)<|.k3 2<|.kb false<|.kg 2<|.kb false<|.kn [0]<|.call (tq v0 E0) λx33=>.cs x33 (.k2 3<|.call (tt E0) λx36=>.kg 3<|.rt x36)<|.k3 3<|.rt false
def CQ(a0:List Z1)(a1:ae):LT Z1a Bool:=
.lb 1003<|.call (fN a1.NextId 1 1000000) λx1=>.cs (!x1) (.k5 0<|.b8 true<|.b5 true<|.b2 true<|.kn [0]<|.rt false)<|.k3 0<|.call (fN a1.NextStamp 1 1000000) λx4=>.k2 0<|.cs (!x4) (.k5 1<|.b8 true<|.b2 true<|.kn [0]<|.rt false)<|.k3 1<|.call (fN a1.Turn 0 500) λx7=>.k2 1<|.cs (!x7) (.k5 2<|.b5 true<|.kn [0]<|.rt false)<|.k3 2<|.call (fN a1.Step 0 10) λx10=>.k2 2<|.cs (!x10) (.k5 3<|.kn [0]<|.rt false)<|.k3 3<|.len au a1.Objects<|.k2 3<|.br (decide ((a1.Objects.length:Int)>2048)) (.rt false)<|.call (V9 a1) λx15=>.cs (!x15) (.k5 5<|.kg 5<|.b16 true<|.b8 true<|.kn [0]<|.rt false)<|.k4 5<|.call (lK a1 a1.Active) λx18=>.k2 5<|.cs (!x18) (.k5 6<|.kg 6<|.b16 true<|.b2 true<|.kn [0]<|.rt false)<|.k4 6<|.call (lK a1 a1.Priority) λx21=>.k2 6<|.cs (!x21) (.k8 7<|.b8 true<|.b2 true<|.kn [0]<|.rt false)<|.k5 7<|.len aJ a1.Players<|.kg 7<|.call (fN a1.Passes 0 (a1.Players.length:Int)) λx25=>.k2 7<|.cs (!x25) (.k5 8<|.b5 true<|.kn [0]<|.rt false)<|.k3 8<|.len (cI .i64) a1.Extra<|.k2 8<|.cs (decide ((a1.Extra.length:Int)>500)) (.k5 9<|.kn [0]<|.rt false)<|.k3 9<|.call (fN a1.Over 0 2) λx30=>.k2 9<|.br (!x30) (.rt false)<|.go (.L0 a0 a1 0) [.relab 1003 3000]
def JE:LF Z1a Bool :=.m0 24 [.t 4] wB λ|.L0 v0 E0 v5=>([1,1,1,0,1,4],⟨114,[(0,wL Z8 v0),(3,.bptr 3000 0),(5,wI v5)],[(3000,.box (bx (aC E0)))]⟩,vq v0 E0 v5)
def vp:=λa0 a1=>JE.run (CQ a0 a1)
def Wm(a0)(a1){r}(h:vp a0 a1=some r):Fn PR 24 [wL Z8 a0,wA (aC a1)] (wB r):=JE.fn h
inductive nV where
 |L0 (v0:List Z1) (E0:ae) (v5:Int)
def Z1b(v0:List Z1)(E0:ae)(v5:Int):LT nV Bool:=
.len aJ E0.Players<|.br (decide (v5<(E0.Players.length:Int))) (.idx aJ E0.Players v5 λx3=>.len (cI .i64) x3.Library<|.ag aJ x3 0<|.len (cI .i64) x3.Hand<|.ag aJ x3 0<|.len (cI .i64) x3.Graveyard<|.br (decide ((IntKind.wrap .i64 ((IntKind.wrap .i64 ((x3.Library.length:Int)+(x3.Hand.length:Int)))+(x3.Graveyard.length:Int)))>60)) (.rt false)<|.g0 (.L0 v0 E0 (IntKind.wrap .i64 (v5+1))))<|.call (V5 v0) λx15=>.cs (x15.2==0) (.k3 1<|.call (Wm v0 E0) λx18=>.kg 1<|.rt x18)<|.k4 1<|.rt false
def CT(a0:List Z1)(a1:ae):LT nV Bool:=
.lb 1003<|.len Z8 a0<|.cs (decide ((a0.length:Int)>12)) (.k5 0<|.b16 true<|.b16 true<|.b3 true<|.kn [0]<|.rt false)<|.k3 0<|.len aJ a1.Players<|.k2 0<|.cs (decide ((a1.Players.length:Int)>4)) (.k5 1<|.b16 true<|.b8 true<|.b5 true<|.kb true<|.kn [0]<|.rt false)<|.k3 1<|.len au a1.Objects<|.k2 1<|.cs (decide ((a1.Objects.length:Int)>60)) (.k5 2<|.b16 true<|.b8 true<|.kb true<|.kn [0]<|.rt false)<|.k3 2<|.len (cI .i64) a1.Battlefield<|.k2 2<|.cs (decide ((a1.Battlefield.length:Int)>60)) (.k5 3<|.b16 true<|.b4 true<|.kn [0]<|.rt false)<|.k3 3<|.len (cI .i64) a1.Exile<|.k2 3<|.cs (decide ((a1.Exile.length:Int)>60)) (.k5 4<|.b8 true<|.b5 true<|.b2 true<|.kn [0]<|.rt false)<|.k3 4<|.len ak a1.Stack<|.k2 4<|.cs (decide ((a1.Stack.length:Int)>8)) (.k5 5<|.b8 true<|.b2 true<|.kn [0]<|.rt false)<|.k3 5<|.len aY a1.Waiting<|.k2 5<|.cs (decide ((a1.Waiting.length:Int)>8)) (.k5 6<|.b5 true<|.kn [0]<|.rt false)<|.k3 6<|.len aV a1.Conts<|.k2 6<|.cs (decide ((a1.Conts.length:Int)>8)) (.k5 7<|.kn [0]<|.rt false)<|.k3 7<|.len (cI .i64) a1.Extra<|.k2 7<|.br (decide ((a1.Extra.length:Int)>20)) (.rt false)<|.go (.L0 a0 a1 0) [.relab 1003 3000]
def JF:LF nV Bool :=.m0 8 [.t 4] wB λ|.L0 v0 E0 v5=>([1,1,0,1,4],⟨102,[(0,wL Z8 v0),(3,.bptr 3000 0),(5,wI v5)],[(3000,.box (bx (aC E0)))]⟩,Z1b v0 E0 v5)
def vr:=λa0 a1=>JF.run (CT a0 a1)
def JG(a0)(a1){r}(h:vr a0 a1=some r):Fn PR 8 [wL Z8 a0,wA (aC a1)] (wB r):=JF.fn h
def Wn(a0:List Int):LT Empty (List Int):=
.apN (cI .i64) 1006 8 a0 λx1=>.ret x1 [.relab 1006 5000]
def JH:LF Empty (List Int) :=.z 30 [.t 2] true (λr=>[(5000,wR (cI .i64) 1 r)]) (λr=>(wO (cI .i64) 5000 r))
def Z3z:=λa0=>JH.run (Wn a0)
def JI(a0){r}(h:Z3z a0=some r):FnG PR 30 [] [wL (cI .i64) a0] [(5000,wR (cI .i64) 1 r)] (wO (cI .i64) 5000 r):=JH.fn h
def Wo(a0:List Int){r:List Int}(h:Z3z a0=some r):Fn PR 30 [wL (cI .i64) a0] (wL (cI .i64) r):=FnG.frozen (C:=LT.RL (cI .i64) r/\True) (JI a0 h) ⟨rfl,aa⟩ aq
inductive z7 where
 |L0 (E0:cg) (v8:List (List Int)) (v9:Int) (v10:Int)
def Wp(E0:cg)(v8:List (List Int))(v9:Int)(v10:Int):LT z7 cg:=
.br (decide (v10<v9)) (.idx (cL (cI .i64)) v8 v10 λx2=>.call (Wo x2) λx4=>.dr [.lit]<|.apR (cL (cI .i64)) 24 E0.answers [x4] λx6=>.g0 (.L0 (⟨x6,E0.used,E0.pending,E0.waits,E0.bad⟩:cg) v8 v9 (IntKind.wrap .i64 (v10+1))))<|.rl (cL (cI .i64)) E0.answers<|.rl bk E0.pending.Options<|.ret E0 [.frz 40000,.frz 40008,.relab 3000 5000]
def Wq(a0:List (List Int)):LT z7 cg:=
.lb 1007<|.len (cL (cI .i64)) a0<|.go (.L0 (⟨([]:List (List Int)),0,(⟨0,0,0,0,0,0,([]:List cf)⟩:cO),false,false⟩:cg) a0 (a0.length:Int) 0) [.relab 1007 3000,.ownb 3000 0 40000 1,.ownb 3000 8 40008 3]
def JJ:LF z7 cg :=.m 16 [.t 2] true (λr=>[(5000,.box (bx (er r)))]) (λr=>(.bptr 5000 0)) λ|.L0 E0 v8 v9 v10=>([1,1,0,1,4],⟨27,[(3,.bptr 3000 0),(8,wL (cL (cI .i64)) v8),(9,wI v9),(10,wI v10)],[(3000,.box [wO (cL (cI .i64)) 40000 E0.answers,wI E0.used,wI E0.pending.Kind,wI E0.pending.Player,wI E0.pending.Source,wI E0.pending.Least,wI E0.pending.Most,wI E0.pending.N,wO bk 40008 E0.pending.Options,wB E0.waits,wB E0.bad]),(40000,wR (cL (cI .i64)) 1 E0.answers),(40008,wR bk 3 E0.pending.Options)]⟩,Wp E0 v8 v9 v10)
def Ws:=λa0=>JJ.run (Wq a0)
def Wt(a0){r}(h:Ws a0=some r):FnG PR 16 [] [wL (cL (cI .i64)) a0] [(5000,.box (bx (er r)))] (.bptr 5000 0):=JJ.fn h
def vt(a0:List bS)(hne:a0≠[]):LT Empty (List bS):=
.ne aJ hne<|.kn [0]<|.lb 1005<|.apR aJ 152 ([]:List bS) a0 λx1=>.ret x1 [.relab 1005 5000]
def lL:LF Empty (List bS) :=.z 55 [.t 2] true (λr=>[(5000,wR aJ 14 r)]) (λr=>(wO aJ 5000 r))
def rG(c:Nat):LT Empty (List bS):=
.kn [0]<|.ret ([]:List bS) [.own 2 5000 14]
def Wu(c:Nat)(ad:Addr):LT Empty (List bS):=
.kn [0]<|.lb 1005<|.apR aJ 152 ([]:List bS) ([]:List bS) λx1=>.ret x1 [.relab 1005 5000]
open Classical in
def rF(a0:List bS):Option (List bS):=if h:a0≠[]then lL.run (vt a0 h)else lL.run (rG 0)
def Qr(a0:List bS){r:List bS}(h:rF a0=some r):FnG PR 55 [] [wL aJ a0] [(5000,wR aJ 14 r)] (wO aJ 5000 r):=by
 by_cases hne:a0=[]
 .subst hne;have h0:lL.run (rG 0)=some r:=h;exact FnG.split0 (λe=>absurd rfl e) (λ_ a c=>by
   cases a with
   |none=>exact lL.fn (t:=rG c) h0
   |some ad=>exact lL.fn (t:=Wu c ad) h0)
 have h0:lL.run (vt a0 hne)=some r:=by unfold rF at h;rwa[eE hne]at h
 exact FnG.split0 (λ_=>lL.fn h0) (λe=>absurd (eT.1 e) hne)
def vu(a0:List Int)(hne:a0≠[]):LT Empty (List Int):=
.ne (cI .i64) hne<|.kn [0]<|.lb 1005<|.apR (cI .i64) 8 ([]:List Int) a0 λx1=>.ret x1 [.relab 1005 5000]
def lM:LF Empty (List Int) :=.z 58 [.t 2] true (λr=>[(5000,wR (cI .i64) 1 r)]) (λr=>(wO (cI .i64) 5000 r))
def rH(c:Nat):LT Empty (List Int):=
.kn [0]<|.ret ([]:List Int) [.own 2 5000 1]
def Wv(c:Nat)(ad:Addr):LT Empty (List Int):=
.kn [0]<|.lb 1005<|.apR (cI .i64) 8 ([]:List Int) ([]:List Int) λx1=>.ret x1 [.relab 1005 5000]
open Classical in
def nW(a0:List Int):Option (List Int):=if h:a0≠[]then lM.run (vu a0 h)else lM.run (rH 0)
def ld(a0:List Int){r:List Int}(h:nW a0=some r):FnG PR 58 [] [wL (cI .i64) a0] [(5000,wR (cI .i64) 1 r)] (wO (cI .i64) 5000 r):=by
 by_cases hne:a0=[]
 .subst hne;have h0:lM.run (rH 0)=some r:=h;exact FnG.split0 (λe=>absurd rfl e) (λ_ a c=>by
   cases a with
   |none=>exact lM.fn (t:=rH c) h0
   |some ad=>exact lM.fn (t:=Wv c ad) h0)
 have h0:lM.run (vu a0 hne)=some r:=by unfold nW at h;rwa[eE hne]at h
 exact FnG.split0 (λ_=>lM.fn h0) (λe=>absurd (eT.1 e) hne)
def Ep(a0:List Int){r:List Int}(h:nW a0=some r):Fn PR 58 [wL (cI .i64) a0] (wL (cI .i64) r):=FnG.frozen (C:=LT.RL (cI .i64) r/\True) (ld a0 h) ⟨rfl,aa⟩ aq
def CV(a0:bS):LT Empty bS:=
.lb 1001<|.lb 1002<|.callF (ld a0.Library) 60000 λx1=>.callF (ld a0.Hand) 100000 λx3=>.callF (ld a0.Graveyard) 140000 λx5=>.ret (⟨a0.Life,a0.Venom,a0.Lands,a0.Pool,a0.Failed,a0.Lost,x1,x3,x5⟩:bS) [.relab 65000 5011,.relab 105000 5012,.relab 145000 5013]
def JK:LF Empty bS :=.z 56 [.c 2 80 true 14] true (λr=>[(5011,wR (cI .i64) 1 r.Library),(5012,wR (cI .i64) 1 r.Hand),(5013,wR (cI .i64) 1 r.Graveyard)]) (λr=>(.agg (tm20 r 5000)))
def rI:=λa0=>JK.run (CV a0)
def Ww(a0){r}(h:rI a0=some r):FnG PR 56 [] [wA (aJ a0)] [(5011,wR (cI .i64) 1 r.Library),(5012,wR (cI .i64) 1 r.Hand),(5013,wR (cI .i64) 1 r.Graveyard)] (.agg (tm20 r 5000)):=JK.fn h
def Ql(a0:bS){r:bS}(h:rI a0=some r):Fn PR 56 [wA (aJ a0)] (wA (aJ r)):=FnG.frozen (C:=LT.RL (cI .i64) r.Library/\LT.RL (cI .i64) r.Hand/\LT.RL (cI .i64) r.Graveyard/\True) (Ww a0 h) ⟨rfl,rfl,rfl,aa⟩ aq
def vv(a0:List ay)(hne:a0≠[]):LT Empty (List ay):=
.ne au hne<|.kn [0]<|.lb 1005<|.apR au 128 ([]:List ay) a0 λx1=>.ret x1 [.relab 1005 5000]
def lN:LF Empty (List ay) :=.z 57 [.t 2] true (λr=>[(5000,wR au 19 r)]) (λr=>(wO au 5000 r))
def rK(c:Nat):LT Empty (List ay):=
.kn [0]<|.ret ([]:List ay) [.own 2 5000 19]
def Wx(c:Nat)(ad:Addr):LT Empty (List ay):=
.kn [0]<|.lb 1005<|.apR au 128 ([]:List ay) ([]:List ay) λx1=>.ret x1 [.relab 1005 5000]
open Classical in
def rJ(a0:List ay):Option (List ay):=if h:a0≠[]then lN.run (vv a0 h)else lN.run (rK 0)
def Qm(a0:List ay){r:List ay}(h:rJ a0=some r):FnG PR 57 [] [wL au a0] [(5000,wR au 19 r)] (wO au 5000 r):=by
 by_cases hne:a0=[]
 .subst hne;have h0:lN.run (rK 0)=some r:=h;exact FnG.split0 (λe=>absurd rfl e) (λ_ a c=>by
   cases a with
   |none=>exact lN.fn (t:=rK c) h0
   |some ad=>exact lN.fn (t:=Wx c ad) h0)
 have h0:lN.run (vv a0 hne)=some r:=by unfold rJ at h;rwa[eE hne]at h
 exact FnG.split0 (λ_=>lN.fn h0) (λe=>absurd (eT.1 e) hne)
def vw(a0:List az)(hne:a0≠[]):LT Empty (List az):=
.ne ak hne<|.kn [0]<|.lb 1005<|.apR ak 824 ([]:List az) a0 λx1=>.ret x1 [.relab 1005 5000]
def lO:LF Empty (List az) :=.z 59 [.t 2] true (λr=>[(5000,wR ak 94 r)]) (λr=>(wO ak 5000 r))
def rM(c:Nat):LT Empty (List az):=
.kn [0]<|.ret ([]:List az) [.own 2 5000 94]
def Wy(c:Nat)(ad:Addr):LT Empty (List az):=
.kn [0]<|.lb 1005<|.apR ak 824 ([]:List az) ([]:List az) λx1=>.ret x1 [.relab 1005 5000]
open Classical in
def rL(a0:List az):Option (List az):=if h:a0≠[]then lO.run (vw a0 h)else lO.run (rM 0)
def Qn(a0:List az){r:List az}(h:rL a0=some r):FnG PR 59 [] [wL ak a0] [(5000,wR ak 94 r)] (wO ak 5000 r):=by
 by_cases hne:a0=[]
 .subst hne;have h0:lO.run (rM 0)=some r:=h;exact FnG.split0 (λe=>absurd rfl e) (λ_ a c=>by
   cases a with
   |none=>exact lO.fn (t:=rM c) h0
   |some ad=>exact lO.fn (t:=Wy c ad) h0)
 have h0:lO.run (vw a0 hne)=some r:=by unfold rL at h;rwa[eE hne]at h
 exact FnG.split0 (λ_=>lO.fn h0) (λe=>absurd (eT.1 e) hne)
def vy(a0:List ah)(hne:a0≠[]):LT Empty (List ah):=
.ne av hne<|.kn [0]<|.lb 1005<|.apR av 176 ([]:List ah) a0 λx1=>.ret x1 [.relab 1005 5000]
def lP:LF Empty (List ah) :=.z 64 [.t 2] true (λr=>[(5000,wR av 20 r)]) (λr=>(wO av 5000 r))
def rN(c:Nat):LT Empty (List ah):=
.kn [0]<|.ret ([]:List ah) [.own 2 5000 20]
def Wz(c:Nat)(ad:Addr):LT Empty (List ah):=
.kn [0]<|.lb 1005<|.apR av 176 ([]:List ah) ([]:List ah) λx1=>.ret x1 [.relab 1005 5000]
open Classical in
def nX(a0:List ah):Option (List ah):=if h:a0≠[]then lP.run (vy a0 h)else lP.run (rN 0)
def xa(a0:List ah){r:List ah}(h:nX a0=some r):FnG PR 64 [] [wL av a0] [(5000,wR av 20 r)] (wO av 5000 r):=by
 by_cases hne:a0=[]
 .subst hne;have h0:lP.run (rN 0)=some r:=h;exact FnG.split0 (λe=>absurd rfl e) (λ_ a c=>by
   cases a with
   |none=>exact lP.fn (t:=rN c) h0
   |some ad=>exact lP.fn (t:=Wz c ad) h0)
 have h0:lP.run (vy a0 hne)=some r:=by unfold nX at h;rwa[eE hne]at h
 exact FnG.split0 (λ_=>lP.fn h0) (λe=>absurd (eT.1 e) hne)
def lf(a0:List ah){r:List ah}(h:nX a0=some r):Fn PR 64 [wL av a0] (wL av r):=FnG.frozen (C:=LT.RL av r/\True) (xa a0 h) ⟨rfl,aa⟩ aq
def vz(a0:List bz)(hne:a0≠[]):LT Empty (List bz):=
.ne Z4 hne<|.kn [0]<|.lb 1005<|.apR Z4 144 ([]:List bz) a0 λx1=>.ret x1 [.relab 1005 5000]
def lQ:LF Empty (List bz) :=.z 104 [.t 2] true (λr=>[(5000,wR Z4 18 r)]) (λr=>(wO Z4 5000 r))
def rO(c:Nat):LT Empty (List bz):=
.kn [0]<|.ret ([]:List bz) [.own 2 5000 18]
def WA(c:Nat)(ad:Addr):LT Empty (List bz):=
.kn [0]<|.lb 1005<|.apR Z4 144 ([]:List bz) ([]:List bz) λx1=>.ret x1 [.relab 1005 5000]
open Classical in
def nY(a0:List bz):Option (List bz):=if h:a0≠[]then lQ.run (vz a0 h)else lQ.run (rO 0)
def xb(a0:List bz){r:List bz}(h:nY a0=some r):FnG PR 104 [] [wL Z4 a0] [(5000,wR Z4 18 r)] (wO Z4 5000 r):=by
 by_cases hne:a0=[]
 .subst hne;have h0:lQ.run (rO 0)=some r:=h;exact FnG.split0 (λe=>absurd rfl e) (λ_ a c=>by
   cases a with
   |none=>exact lQ.fn (t:=rO c) h0
   |some ad=>exact lQ.fn (t:=WA c ad) h0)
 have h0:lQ.run (vz a0 hne)=some r:=by unfold nY at h;rwa[eE hne]at h
 exact FnG.split0 (λ_=>lQ.fn h0) (λe=>absurd (eT.1 e) hne)
def SV(a0:List bz){r:List bz}(h:nY a0=some r):Fn PR 104 [wL Z4 a0] (wL Z4 r):=FnG.frozen (C:=LT.RL Z4 r/\True) (xb a0 h) ⟨rfl,aa⟩ aq
def vA(a0:List aU)(hne:a0≠[]):LT Empty (List aU):=
.ne aR hne<|.kn [0]<|.lb 1005<|.apR aR 560 ([]:List aU) a0 λx1=>.ret x1 [.relab 1005 5000]
def lR:LF Empty (List aU) :=.z 105 [.t 2] true (λr=>[(5000,wR aR 64 r)]) (λr=>(wO aR 5000 r))
def rQ(c:Nat):LT Empty (List aU):=
.kn [0]<|.ret ([]:List aU) [.own 2 5000 64]
def WB(c:Nat)(ad:Addr):LT Empty (List aU):=
.kn [0]<|.lb 1005<|.apR aR 560 ([]:List aU) ([]:List aU) λx1=>.ret x1 [.relab 1005 5000]
open Classical in
def rP(a0:List aU):Option (List aU):=if h:a0≠[]then lR.run (vA a0 h)else lR.run (rQ 0)
def xc(a0:List aU){r:List aU}(h:rP a0=some r):FnG PR 105 [] [wL aR a0] [(5000,wR aR 64 r)] (wO aR 5000 r):=by
 by_cases hne:a0=[]
 .subst hne;have h0:lR.run (rQ 0)=some r:=h;exact FnG.split0 (λe=>absurd rfl e) (λ_ a c=>by
   cases a with
   |none=>exact lR.fn (t:=rQ c) h0
   |some ad=>exact lR.fn (t:=WB c ad) h0)
 have h0:lR.run (vA a0 hne)=some r:=by unfold rP at h;rwa[eE hne]at h
 exact FnG.split0 (λ_=>lR.fn h0) (λe=>absurd (eT.1 e) hne)
inductive nZ where
 |L0 (E0:ar) (E1:ar) (v18:Int) (v19:Int)
def vB(E0:ar)(E1:ar)(v18:Int)(v19:Int):LT nZ ar:=
.br (decide (v19<v18)) (.idxR aR E0.Effects v19 λx2=>.rl aR E0.Effects<|.ldR aR E0.Effects x2 2<|.call (lf x2.Mods) λx4=>.plR aR E0.Effects v19 0<|.rl aR E0.Effects<|.setD aR E0.Effects v19 x2 (⟨x2.Op,x2.Ref,x2.Amount,x2.Counter,x2.Zone,x2.Card,x2.Filter,x2.Pool,x4⟩:aU) 2 63 [.sl (List.map av x4)] rfl λx6=>.dr [.ahead 34,.relen 40049,.stop]<|.us [3]<|.us [3]<|.us [3]<|.us [3]<|.us [3]<|.us [3]<|.us [3]<|.g0 (.L0 (⟨E0.Kind,E0.Filter,E0.Mods,E0.Price,E0.Slow,E0.Trigger,E0.May,E0.Specs,x6,E0.Replace⟩:ar) E1 v18 (IntKind.wrap .i64 (v19+1))))<|.ret E0 (tm26 40000 5000)
def CY(a0:ar):LT nZ ar:=
.lb 1001<|.lb 1002<|.callF (xa a0.Mods) 70000 λx1=>.callF (xb a0.Specs) 110000 λx3=>.callF (xc a0.Effects) 150000 λx5=>.lenO aR x5<|.go (.L0 (⟨a0.Kind,a0.Filter,x1,a0.Price,a0.Slow,a0.Trigger,a0.May,x3,x5,a0.Replace⟩:ar) (⟨0,(⟨0,0,0,0,0,0,0,([]:By),0,0,(⟨0,0⟩:ab),(⟨0,0⟩:ab),(⟨0,0⟩:ab)⟩:ai),([]:List ah),(⟨(⟨0,0,(⟨0,0,0,0,0⟩:A5 Int)⟩:Z5),false,false,0⟩:eU),false,(⟨0,0,(⟨0,0,0,0,0,0,0,([]:By),0,0,(⟨0,0⟩:ab),(⟨0,0⟩:ab),(⟨0,0⟩:ab)⟩:ai)⟩:dM),false,([]:List bz),([]:List aU),(⟨0,0,(⟨0,0,0,0,0,0,0,([]:By),0,0,(⟨0,0⟩:ab),(⟨0,0⟩:ab),(⟨0,0⟩:ab)⟩:ai),0,0,0,0⟩:cE)⟩:ar) (x5.length:Int) 0) [.relab 1001 3000,.relab 1002 3001,.relab 75000 40017,.relab 115000 40048,.relab 155000 40049,.ownb 3001 17 40117 20,.ownb 3001 48 40148 18,.ownb 3001 49 40149 64]
def JL:LF nZ ar :=.m 60 [.c 2 49 true 72] true (λr=>(Z82 r 5000)) (λr=>(.agg (tm0 r 5000))) λ|.L0 E0 E1 v18 v19=>([1,1,1,1,0,1,4],⟨36,[(1,.bptr 3000 0),(2,.bptr 3001 0),(18,wI v18),(19,wI v19)],((3000,.box (tm0 E0 40000))::(40017,wR av 20 E0.Mods)::(40048,wR Z4 18 E0.Specs)::(40049,wR aR 64 E0.Effects)::(3001,.box (tm0 E1 40100))::(Z82 E1 40100))⟩,vB E0 E1 v18 v19)
def rR:=λa0=>JL.run (CY a0)
def Z9g(a0){r}(h:rR a0=some r):FnG PR 60 [] [wA (aE a0)] (Z82 r 5000) (.agg (tm0 r 5000)):=JL.fn h
def Eo(a0:ar){r:ar}(h:rR a0=some r):Fn PR 60 [wA (aE a0)] (wA (aE r)):=FnG.frozen (C:=LT.RL av r.Mods/\LT.RL Z4 r.Specs/\LT.RL aR r.Effects/\True) (Z9g a0 h) ⟨rfl,rfl,rfl,aa⟩ aq
def vC(a0:List bG)(hne:a0≠[]):LT Empty (List bG):=
.ne Z0 hne<|.kn [0]<|.lb 1005<|.apR Z0 16 ([]:List bG) a0 λx1=>.ret x1 [.relab 1005 5000]
def lS:LF Empty (List bG) :=.z 61 [.t 2] true (λr=>[(5000,wR Z0 2 r)]) (λr=>(wO Z0 5000 r))
def rS(c:Nat):LT Empty (List bG):=
.kn [0]<|.ret ([]:List bG) [.own 2 5000 2]
def WC(c:Nat)(ad:Addr):LT Empty (List bG):=
.kn [0]<|.lb 1005<|.apR Z0 16 ([]:List bG) ([]:List bG) λx1=>.ret x1 [.relab 1005 5000]
open Classical in
def n4(a0:List bG):Option (List bG):=if h:a0≠[]then lS.run (vC a0 h)else lS.run (rS 0)
def WD(a0:List bG){r:List bG}(h:n4 a0=some r):FnG PR 61 [] [wL Z0 a0] [(5000,wR Z0 2 r)] (wO Z0 5000 r):=by
 by_cases hne:a0=[]
 .subst hne;have h0:lS.run (rS 0)=some r:=h;exact FnG.split0 (λe=>absurd rfl e) (λ_ a c=>by
   cases a with
   |none=>exact lS.fn (t:=rS c) h0
   |some ad=>exact lS.fn (t:=WC c ad) h0)
 have h0:lS.run (vC a0 hne)=some r:=by unfold n4 at h;rwa[eE hne]at h
 exact FnG.split0 (λ_=>lS.fn h0) (λe=>absurd (eT.1 e) hne)
def Qo(a0:List bG){r:List bG}(h:n4 a0=some r):Fn PR 61 [wL Z0 a0] (wL Z0 r):=FnG.frozen (C:=LT.RL Z0 r/\True) (WD a0 h) ⟨rfl,aa⟩ aq
def vD(a0:List bZ)(hne:a0≠[]):LT Empty (List bZ):=
.ne aY hne<|.kn [0]<|.lb 1005<|.apR aY 768 ([]:List bZ) a0 λx1=>.ret x1 [.relab 1005 5000]
def lT:LF Empty (List bZ) :=.z 62 [.t 2] true (λr=>[(5000,wR aY 89 r)]) (λr=>(wO aY 5000 r))
def rU(c:Nat):LT Empty (List bZ):=
.kn [0]<|.ret ([]:List bZ) [.own 2 5000 89]
def WE(c:Nat)(ad:Addr):LT Empty (List bZ):=
.kn [0]<|.lb 1005<|.apR aY 768 ([]:List bZ) ([]:List bZ) λx1=>.ret x1 [.relab 1005 5000]
open Classical in
def rT(a0:List bZ):Option (List bZ):=if h:a0≠[]then lT.run (vD a0 h)else lT.run (rU 0)
def Qp(a0:List bZ){r:List bZ}(h:rT a0=some r):FnG PR 62 [] [wL aY a0] [(5000,wR aY 89 r)] (wO aY 5000 r):=by
 by_cases hne:a0=[]
 .subst hne;have h0:lT.run (rU 0)=some r:=h;exact FnG.split0 (λe=>absurd rfl e) (λ_ a c=>by
   cases a with
   |none=>exact lT.fn (t:=rU c) h0
   |some ad=>exact lT.fn (t:=WE c ad) h0)
 have h0:lT.run (vD a0 hne)=some r:=by unfold rT at h;rwa[eE hne]at h
 exact FnG.split0 (λ_=>lT.fn h0) (λe=>absurd (eT.1 e) hne)
def vE(a0:List cd)(hne:a0≠[]):LT Empty (List cd):=
.ne aV hne<|.kn [0]<|.lb 1005<|.apR aV 80 ([]:List cd) a0 λx1=>.ret x1 [.relab 1005 5000]
def lU:LF Empty (List cd) :=.z 63 [.t 2] true (λr=>[(5000,wR aV 6 r)]) (λr=>(wO aV 5000 r))
def rW(c:Nat):LT Empty (List cd):=
.kn [0]<|.ret ([]:List cd) [.own 2 5000 6]
def WG(c:Nat)(ad:Addr):LT Empty (List cd):=
.kn [0]<|.lb 1005<|.apR aV 80 ([]:List cd) ([]:List cd) λx1=>.ret x1 [.relab 1005 5000]
open Classical in
def rV(a0:List cd):Option (List cd):=if h:a0≠[]then lU.run (vE a0 h)else lU.run (rW 0)
def Qq(a0:List cd){r:List cd}(h:rV a0=some r):FnG PR 63 [] [wL aV a0] [(5000,wR aV 6 r)] (wO aV 5000 r):=by
 by_cases hne:a0=[]
 .subst hne;have h0:lU.run (rW 0)=some r:=h;exact FnG.split0 (λe=>absurd rfl e) (λ_ a c=>by
   cases a with
   |none=>exact lU.fn (t:=rW c) h0
   |some ad=>exact lU.fn (t:=WG c ad) h0)
 have h0:lU.run (vE a0 hne)=some r:=by unfold rV at h;rwa[eE hne]at h
 exact FnG.split0 (λ_=>lU.fn h0) (λe=>absurd (eT.1 e) hne)
end
end Go.PW
