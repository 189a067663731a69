import Derived.Test.YtchddhcajpagjaaGreatQDa
set_option linter.all false
set_option maxRecDepth 100000
namespace Go.PW
open Go.RowKit
noncomputable section
inductive s5 where
 |L0 (v0:List an) (E0:ak) (v19:List aj) (v20:Int) (v21:Int)
def Z91(v0:List an)(E0:ak)(v19:List aj)(v20:Int)(v21:Int):LT s5 ak:=
.br (decide (v21<v20)) (.idx aE v19 v21 λx2=>.lb 1007<|.call (Jo v0 x2) λx4=>.dr [.lit]<|.apR av 176 E0.traits [x4] λx6=>.g0 (.L0 v0 (⟨E0.s,E0.forces,x6,E0.dropped,E0.done,E0.hits⟩:ak) v19 v20 (IntKind.wrap .i64 (v21+1))))<|.len cb E0.forces<|.mk cB 1045 1 false (E0.forces.length:Int) (E0.forces.length:Int) λx12=>.len cb E0.forces<|.mk (cL (cI .i64)) 1051 24 [] (E0.forces.length:Int) (E0.forces.length:Int) λx14=>.ret (⟨E0.s,E0.forces,E0.traits,E0.dropped,x12,x14⟩:ak) [.relab 3000 5000,.relab 40020 5021,.relab 40021 5022,.relab 1045 5023,.relab 1051 5024]
def TU(a0:List an)(a1:ao):LT s5 ak:=
.lb 1003<|.call (Z52 a0 a1) λx1=>.len aE a1.Objects<|.mk cB 1015 1 false (a1.Objects.length:Int) (a1.Objects.length:Int) λx4=>.lb 1017<|.len aE a1.Objects<|.go (.L0 a0 (⟨a1,x1,([]:List ae),x4,([]:List Bool),([]:List (List Int))⟩:ak) a1.Objects (a1.Objects.length:Int) 0) [.relab 1017 3000,.ownb 3000 20 40020 17,.relab 1015 40021,.ownb 3000 22 40022 1,.ownb 3000 23 40023 1]
def Dn:LF s5 ak :=.m 34 [.t 4] true (λr=>[(5000,.box (tm5 r 5000)),(5021,wR av 17 r.traits),(5022,wR cB 1 r.dropped),(5023,wR cB 1 r.done),(5024,wR (cL (cI .i64)) 1 r.hits)]) (λr=>(.bptr 5000 0)) λ|.L0 v0 E0 v19 v20 v21=>([1,1,0,1,4],⟨57,[(0,wL bf v0),(5,.bptr 3000 0),(19,wL aE v19),(20,wI v20),(21,wI v21)],((3000,.box (tm7 E0 40000))::(tm19 E0 40000))⟩,Z91 v0 E0 v19 v20 v21)
def TT:=λa0 a1=>Dn.run (TU a0 a1)
def Z53(a0)(a1){r}(h:TT a0 a1=some r):FnG PR 34 [] [wL bf a0,wA (Z1 a1)] [(5000,.box (tm5 r 5000)),(5021,wR av 17 r.traits),(5022,wR cB 1 r.dropped),(5023,wR cB 1 r.done),(5024,wR (cL (cI .i64)) 1 r.hits)] (.bptr 5000 0):=Dn.fn h
def Z7z(a0:Int):LT Empty Int:=
.rt (minI (maxI a0 (-1000000)) 1000000)
def WZ:LF Empty Int :=.z0 143 [.t 2] wI
def Z54:=λa0=>WZ.run (Z7z a0)
def jm(a0){r}(h:Z54 a0=some r):Fn PR 143 [wI a0] (wI r):=WZ.fn h
def TW(a0:Int)(a1:Int):LT Empty Int:=
.call (jm a0) λx1=>.call (jm a1) λx3=>.call (jm (IntKind.wrap .i64 (x1-x3))) λx7=>.rt x7
def W0:LF Empty Int :=.z0 142 [.t 4] wI
def TV:=λa0 a1=>W0.run (TW a0 a1)
def ZkC(a0)(a1){r}(h:TV a0 a1=some r):Fn PR 142 [wI a0,wI a1] (wI r):=W0.fn h
def Z55(a0:A3 Int):LT Empty Int:=
.lb 1001<|.idA (aa.int .i64) (A3.list a0) 0 (bx ((cA3 (cI .i64)) a0)) 0 3 λx1=>.ldC (aa.int .i64) 4 x1 0<|.idA (aa.int .i64) (A3.list a0) 1 (bx ((cA3 (cI .i64)) a0)) 0 3 λx3=>.ldC (aa.int .i64) 6 x3 1<|.call (ZkC x1 x3) λx5=>.rt x5
def Z56:LF Empty Int :=.z0 91 [.t 2] wI
def TX:=λa0=>Z56.run (Z55 a0)
def ZkD(a0){r}(h:TX a0=some r):Fn PR 91 [wA ((cA3 (cI .i64)) a0)] (wI r):=Z56.fn h
def BG(a0:Int)(a1:Int):LT Empty Int:=
.call (jm a0) λx1=>.call (jm a1) λx3=>.call (jm (IntKind.wrap .i64 (x1+x3))) λx7=>.rt x7
def W3:LF Empty Int :=.z0 92 [.t 4] wI
def wk:=λa0 a1=>W3.run (BG a0 a1)
def tV(a0)(a1){r}(h:wk a0 a1=some r):Fn PR 92 [wI a0,wI a1] (wI r):=W3.fn h
inductive mW where
 |L0 (v0:Int) (v3:Int) (v6:Bool)
 |L1 (v0:Int) (v3:Int) (v11:Bool)
 |L2 (v0:Int) (v3:Int) (v14:Bool)
def oZ(v0:Int)(v3:Int)(v14:Bool):LT mW Int:=
.br v14 (.rt 4)<|.br (v3==11) (.kn [2]<|.rt (IntKind.wrap .i64 ((IntKind.wrap .i64 (5+v0))-11)))<|.br (v3==12) (.kn [3]<|.rt (IntKind.wrap .i64 ((IntKind.wrap .i64 (5+v0))-11)))<|.br (v3==13) (.kn [4]<|.rt (IntKind.wrap .i64 ((IntKind.wrap .i64 (5+v0))-11)))<|.br (v3==14) (.rt (IntKind.wrap .i64 ((IntKind.wrap .i64 (5+v0))-11)))<|.rt 0
def s6(v0:Int)(v3:Int)(v11:Bool):LT mW Int:=
.br v11 (.rt 3)<|.br (v3==8) (.j0 (.L2 v0 v3 (v3==8)) (oZ v0 v3 (v3==8)))<|.br (v3==9) (.j0 (.L2 v0 v3 (v3==9)) (oZ v0 v3 (v3==9)))<|.j0 (.L2 v0 v3 (v3==10)) (oZ v0 v3 (v3==10))
def mX(v0:Int)(v3:Int)(v6:Bool):LT mW Int:=
.br v6 (.rt 2)<|.br (v3==6) (.j0 (.L1 v0 v3 (v3==6)) (s6 v0 v3 (v3==6)))<|.j0 (.L1 v0 v3 (v3==7)) (s6 v0 v3 (v3==7))
def TZ(a0:Int):LT mW Int:=
.br (a0==1) (.rt 1)<|.br (a0==2) (.j0 (.L0 a0 a0 (a0==2)) (mX a0 a0 (a0==2)))<|.br (a0==3) (.j0 (.L0 a0 a0 (a0==3)) (mX a0 a0 (a0==3)))<|.br (a0==4) (.j0 (.L0 a0 a0 (a0==4)) (mX a0 a0 (a0==4)))<|.j0 (.L0 a0 a0 (a0==5)) (mX a0 a0 (a0==5))
def W4:LF mW Int :=.m0 95 [.t 2] wI λ|.L0 v0 v3 v6=>([1,0,1,4,1,3,1],⟨26,[(0,wI v0),(3,wI v3),(6,wB v6)],[]⟩,mX v0 v3 v6)|.L1 v0 v3 v11=>([1,0,1,4,1,3,1,3,1],⟨26,[(0,wI v0),(3,wI v3),(11,wB v11)],[]⟩,s6 v0 v3 v11)|.L2 v0 v3 v14=>([1,0,1,4,1,3,1,3,1,3,1],⟨26,[(0,wI v0),(3,wI v3),(14,wB v14)],[]⟩,oZ v0 v3 v14)
def TY:=λa0=>W4.run (TZ a0)
def xX(a0){r}(h:TY a0=some r):Fn PR 95 [wI a0] (wI r):=W4.fn h
def T4(a0:af)(b0:Int):LT Empty Bool:=
.lb 1002<|.call (xX a0.Kind) λx1=>.rt (x1==b0)
def W5(b0:Int):LF Empty Bool :=.z 94 [.t 3] true (λr=>[(0,.box (bx ((cI .i64) b0)))]) (λr=>(wB r))
def T0(a0:af)(b0:Int):Option Bool:=(W5 b0).run (T4 a0 b0)
def Z3a(a0:af)(b0:Int){r:Bool}(h:T0 a0 b0=some r):FnG PR 94 [(0,.box (bx ((cI .i64) b0)))] [wA (ay a0),.bptr 0 0] [(0,.box (bx ((cI .i64) b0)))] (wB r):=(W5 b0).fn h
inductive s7 where
 |L0 (v0:List af) (c0:Int) (v7:Int) (v8:Int)
def T7(v0:List af)(c0:Int)(v7:Int)(v8:Int):LT s7 (Int×Int):=
.br (decide (v8<v7)) (.idx ay v0 v8 λx2=>.callO (Z3a x2 c0) [0] 170000 (λx=>[]) λx4=>.br x4 (.rt (v8,c0))<|.g0 (.L0 v0 c0 v7 (IntKind.wrap .i64 (v8+1))))<|.rt ((-1),c0)
def T6(a0:List af)(b0:Int):LT s7 (Int×Int):=
.len ay a0<|.g0 (.L0 a0 b0 (a0.length:Int) 0)
def Dp:LF s7 (Int×Int) :=.m 144 [.t 4] true (λr=>[(0,.box (bx ((cI .i64) r.2)))]) (λr=>(wI r.1)) λ|.L0 v0 c0 v7 v8=>([1,0,1,4],⟨19,[(0,wL ay v0),(1,.fn 94 [.bptr 0 0]),(7,wI v7),(8,wI v8)],[(0,.box (bx ((cI .i64) c0)))]⟩,T7 v0 c0 v7 v8)
def T5:=λa0 b0=>Dp.run (T6 a0 b0)
def ZkE(a0)(b0){r}(h:T5 a0 b0=some r):FnG PR 144 [(0,.box (bx ((cI .i64) b0)))] [wL ay a0,.fn 94 [.bptr 0 0]] [(0,.box (bx ((cI .i64) r.2)))] (wI r.1):=Dp.fn h
def T9(a0:List af)(b0:Int):LT Empty (Bool×Int):=
.callU (ZkE a0 b0) [0] 80000 λx1=>.rt (decide (x1.1>=0),x1.2)
def W6:LF Empty (Bool×Int) :=.z 93 [.t 4] true (λr=>[(0,.box (bx ((cI .i64) r.2)))]) (λr=>(wB r.1))
def T8:=λa0 b0=>W6.run (T9 a0 b0)
def ZkF(a0)(b0){r}(h:T8 a0 b0=some r):FnG PR 93 [(0,.box (bx ((cI .i64) b0)))] [wL ay a0,.fn 94 [.bptr 0 0]] [(0,.box (bx ((cI .i64) r.2)))] (wB r.1):=W6.fn h
def Z57(a0:Z2)(a1:Int):LT Empty Bool:=
.lb 1002<|.lb 1003<|.callU (ZkF a0.Mods a1) [1003] 90000 λx1=>.rt x1.1
def Z58:LF Empty Bool :=.z0 53 [.t 4] wB
def Ua:=λa0 a1=>Z58.run (Z57 a0 a1)
def ZkG(a0)(a1){r}(h:Ua a0 a1=some r):Fn PR 53 [wA (cb a0),wI a1] (wB r):=Z58.fn h
inductive s8 where
 |L0 (v1:Int) (E0:al) (v5:Bool)
def s9(v1:Int)(E0:al)(v5:Bool):LT s8 Bool:=
.br (v1==1) (.rt (E0.Who != 0))<|.br (v1==2) (.cs ((aQ .or .i64 E0.Types E0.NotTypes) != 0) (.k4 2<|.b2 true<|.rt true)<|.k4 2<|.cs (!(E0.Sub==([]:By))) (.k2 3<|.rt true)<|.k2 3<|.rt v5)<|.br (v1==3) (.rt ((aQ .or .i64 E0.Colors E0.NotColors) != 0))<|.br (v1==4) (.rt (E0.Keys != 0))<|.rt v5
def Z1m(a0:al)(a1:Int):LT s8 Bool:=
.lb 1002<|.cs (a0.Power.Kind != 0) (.k5 0<|.jn 0 (.L0 a1 a0 true) [.relab 1002 3000] (s9 a1 a0 true))<|.k5 0<|.jn 0 (.L0 a1 a0 (a0.Tough.Kind != 0)) [.relab 1002 3000] (s9 a1 a0 (a0.Tough.Kind != 0))
def Z1n:LF s8 Bool :=.m0 150 [.t 4] wB λ|.L0 v1 E0 v5=>([1,1],⟨52,[(1,wI v1),(2,.bptr 3000 0),(5,wB v5)],[(3000,.box (bx (aX E0)))]⟩,s9 v1 E0 v5)
def Z59:=λa0 a1=>Z1n.run (Z1m a0 a1)
def W7(a0)(a1){r}(h:Z59 a0 a1=some r):Fn PR 150 [wA (aX a0),wI a1] (wB r):=Z1n.fn h
def Z3b(a0:Int):LT Empty Bool:=
.rt (a0 != a0)
def Z3c:LF Empty Bool :=.z0 119 [.t 2] wB
def Z92:=λa0=>Z3c.run (Z3b a0)
def Z1o(a0){r}(h:Z92 a0=some r):Fn PR 119 [wI a0] (wB r):=Z3c.fn h
def Ue(a0:Int)(a1:Int):LT Empty Int:=
.call (Z1o a0) λx1=>.call (Z1o a1) λx3=>.br x1 (.br x3 (.rt 0)<|.rt (-1))<|.br x3 (.rt 1)<|.br (decide (a0<a1)) (.rt (-1))<|.br (decide (a0>a1)) (.rt 1)<|.rt 0
def W8:LF Empty Int :=.z0 72 [.t 4] wI
def Z3d:=λa0 a1=>W8.run (Ue a0 a1)
def ZkH(a0)(a1){r}(h:Z3d a0 a1=some r):Fn PR 72 [wI a0,wI a1] (wI r):=W8.fn h
def Z6a(a0:aj)(a1:Int):LT Empty Int:=
.lb 1002<|.call (ZkH a0.Id a1) λx1=>.rt x1
def Z6b:LF Empty Int :=.z0 71 [.t 4] wI
def Uf:=λa0 a1=>Z6b.run (Z6a a0 a1)
def Z3e(a0)(a1){r}(h:Uf a0 a1=some r):Fn PR 71 [wA (aE a0),wI a1] (wI r):=Z6b.fn h
inductive ta where
 |L0 (v0:List aj) (v1:Int) (v8:Int) (v9:Int) (v10:Int)
def Ui(v0:List aj)(v1:Int)(v8:Int)(v9:Int)(v10:Int):LT ta (Int×Bool):=
.br (decide (v9<v10)) (.dc (¬(1:Int)<0) rfl<|.idx aE v0 (IntKind.wrap .i64 (shrI .u64 (IntKind.wrap .u64 (IntKind.wrap .i64 (v9+v10))) 1)) λx7=>.call (Z3e x7 v1) λx9=>.br (decide (x9<0)) (.g0 (.L0 v0 v1 v8 (IntKind.wrap .i64 ((IntKind.wrap .i64 (shrI .u64 (IntKind.wrap .u64 (IntKind.wrap .i64 (v9+v10))) 1))+1)) v10))<|.g0 (.L0 v0 v1 v8 v9 (IntKind.wrap .i64 (shrI .u64 (IntKind.wrap .u64 (IntKind.wrap .i64 (v9+v10))) 1))))<|.cs (decide (v9<v8)) (.k4 1<|.idx aE v0 v9 λx15=>.k3 1<|.call (Z3e x15 v1) λx17=>.k2 1<|.rt (v9,x17==0))<|.k8 1<|.kg 1<|.rt (v9,false)
def Uh(a0:List aj)(a1:Int):LT ta (Int×Bool):=
.len aE a0<|.g0 (.L0 a0 a1 (a0.length:Int) 0 (a0.length:Int))
def Dr:LF ta (Int×Bool) :=.m0 70 [.t 6,.t 7] (λr=>(.tup [wI r.1,wB r.2])) λ|.L0 v0 v1 v8 v9 v10=>([1,1,1,0,4],⟨49,[(0,wL aE v0),(1,wI v1),(2,.fn 71 []),(8,wI v8),(9,wI v9),(10,wI v10)],[]⟩,Ui v0 v1 v8 v9 v10)
def Ug:=λa0 a1=>Dr.run (Uh a0 a1)
def ZkI(a0)(a1){r}(h:Ug a0 a1=some r):Fn PR 70 [wL aE a0,wI a1,.fn 71 []] (.tup [wI r.1,wB r.2]):=Dr.fn h
def Uk(a0:ao)(a1:Int):LT Empty Int:=
.lb 1002<|.call (ZkI a0.Objects a1) λx1=>.br (!x1.2) (.rt (-1))<|.rt x1.1
def W9:LF Empty Int :=.z0 42 [.t 4] wI
def Uj:=λa0 a1=>W9.run (Uk a0 a1)
def Z93(a0)(a1){r}(h:Uj a0 a1=some r):Fn PR 42 [wA (Z1 a0),wI a1] (wI r):=W9.fn h
inductive tb where
 |L0 (v0:List Int) (v1:Int) (v7:Int) (v8:Int)
def Un(v0:List Int)(v1:Int)(v7:Int)(v8:Int):LT tb Int:=
.br (decide (v8<v7)) (.idx (cI .i64) v0 v8 λx2=>.br (v1==x2) (.rt v8)<|.g0 (.L0 v0 v1 v7 (IntKind.wrap .i64 (v8+1))))<|.rt (-1)
def Um(a0:List Int)(a1:Int):LT tb Int:=
.len (cI .i64) a0<|.g0 (.L0 a0 a1 (a0.length:Int) 0)
def Dt:LF tb Int :=.m0 193 [.t 4] wI λ|.L0 v0 v1 v7 v8=>([1,0,1,4],⟨19,[(0,wL (cI .i64) v0),(1,wI v1),(7,wI v7),(8,wI v8)],[]⟩,Un v0 v1 v7 v8)
def Ul:=λa0 a1=>Dt.run (Um a0 a1)
def Eb(a0)(a1){r}(h:Ul a0 a1=some r):Fn PR 193 [wL (cI .i64) a0,wI a1] (wI r):=Dt.fn h
def Uq(a0:List Int)(a1:Int):LT Empty Bool:=
.call (Eb a0 a1) λx1=>.rt (decide (x1>=0))
def Xa:LF Empty Bool :=.z0 155 [.t 4] wB
def Up:=λa0 a1=>Xa.run (Uq a0 a1)
def Xb(a0)(a1){r}(h:Up a0 a1=some r):Fn PR 155 [wL (cI .i64) a0,wI a1] (wB r):=Xa.fn h
def Z3f(a0:Int)(a1:Int):LT Empty Bool:=
.cs (decide (a0>=0)) (.k4 0<|.rt (decide (a0<=a1)))<|.k4 0<|.rt false
def Z3g:LF Empty Bool :=.z0 245 [.t 4] wB
def D0:=λa0 a1=>Z3g.run (Z3f a0 a1)
def jo(a0)(a1){r}(h:D0 a0 a1=some r):Fn PR 245 [wI a0,wI a1] (wB r):=Z3g.fn h
inductive Z6c where
 |L0 (v36:List Int) (v37:Int) (v38:Int)
def tM(v36:List Int)(v37:Int)(v38:Int):LT Z6c Bool:=
.br (decide (v38<v37)) (.idx (cI .u8) v36 v38 λx2=>.cs (decide (x2<97)) (.k3 1<|.b3 true<|.cs (decide (x2<48)) (.k2 2<|.kb true<|.kg 2<|.b4 true<|.br (x2 != 45) (.rt false)<|.g0 (.L0 v36 v37 (IntKind.wrap .i64 (v38+1))))<|.k2 2<|.kb true<|.kg 2<|.kb true<|.cs (decide (x2>57)) (.k3 3<|.br (x2 != 45) (.rt false)<|.g0 (.L0 v36 v37 (IntKind.wrap .i64 (v38+1))))<|.k3 3<|.kn [0]<|.g0 (.L0 v36 v37 (IntKind.wrap .i64 (v38+1))))<|.k3 1<|.cs (decide (x2>122)) (.k3 2<|.cs (decide (x2<48)) (.k2 3<|.kg 2<|.kg 3<|.kg 2<|.b3 true<|.br (x2 != 45) (.rt false)<|.g0 (.L0 v36 v37 (IntKind.wrap .i64 (v38+1))))<|.k2 3<|.kg 2<|.kg 3<|.kg 2<|.cs (decide (x2>57)) (.k3 4<|.br (x2 != 45) (.rt false)<|.g0 (.L0 v36 v37 (IntKind.wrap .i64 (v38+1))))<|.k3 4<|.kn [0]<|.g0 (.L0 v36 v37 (IntKind.wrap .i64 (v38+1))))<|.k5 2<|.b3 false<|.kn [0]<|.g0 (.L0 v36 v37 (IntKind.wrap .i64 (v38+1))))<|.rt true
def V8(a0:By):LT Z6c Bool:=
.lenS a0<|.cs ((a0.length:Int)==0) (.k4 0<|.b16 true<|.b2 true<|.kn [0]<|.rt false)<|.k2 0<|.lenS a0<|.k2 0<|.cs (decide ((a0.length:Int)>32)) (.k4 1<|.b8 true<|.b5 true<|.kb true<|.kn [0]<|.rt false)<|.k2 1<|.idxS a0 0 λx4=>.k2 1<|.cs (decide ((UInt8.toNat x4:Int)<97)) (.k4 2<|.b8 true<|.b2 true<|.kn [0]<|.rt false)<|.k2 2<|.idxS a0 0 λx7=>.k2 2<|.cs (decide ((UInt8.toNat x7:Int)>122)) (.k5 3<|.k2 3<|.b3 true<|.kn [0]<|.rt false)<|.k3 3<|.lenS a0<|.k2 3<|.idxS a0 (IntKind.wrap .i64 ((a0.length:Int)-1)) λx12=>.k2 3<|.cs ((UInt8.toNat x12:Int)==45) (.k3 4<|.kn [0]<|.rt false)<|.k2 4<|.call (ZdI a0 ([45,45]:By)) λx15=>.kg 4<|.br x15 (.rt false)<|.bys a0 λx18=>.len (cI .u8) x18<|.g0 (.L0 x18 (x18.length:Int) 0)
def tH:LF Z6c Bool :=.m0 249 [.t 2] wB λ|.L0 v36 v37 v38=>([1,1,0,1,4],⟨61,[(36,wL (cI .u8) v36),(37,wI v37),(38,wI v38)],[]⟩,tM v36 v37 v38)
def DQ:=λa0=>tH.run (V8 a0)
def ZkJ(a0){r}(h:DQ a0=some r):Fn PR 249 [wS a0] (wB r):=tH.fn h
def Z3h(a0:Int):LT Empty (By):=
.idX aa.str (A2.list (⟨([98,97,115,105,99]:By),([117,110,105,113,117,101]:By)⟩:A2 (By))) a0 λx1=>.rt x1
def DU:LF Empty (By) :=.z0 251 [.t 2] wS
def DT:=λa0=>DU.run (Z3h a0)
def ZkK(a0){r}(h:DT a0=some r):Fn PR 251 [wI a0] (wS r):=DU.fn h
def Z6d(a0:Int):LT Empty (By):=
.idX aa.str (A6.list (⟨([99,114,101,97,116,117,114,101]:By),([105,110,115,116,97,110,116]:By),([114,105,116,117,97,108]:By),([114,101,108,105,99]:By),([99,104,97,114,109]:By),([108,97,110,100]:By)⟩:A6 (By))) a0 λx1=>.rt x1
def DY:LF Empty (By) :=.z0 252 [.t 2] wS
def DX:=λa0=>DY.run (Z6d a0)
def ZkL(a0){r}(h:DX a0=some r):Fn PR 252 [wI a0] (wS r):=DY.fn h
inductive Ec where
 |L0 (v0:By) (v8:Int) (v9:Int)
def xN(v0:By)(v8:Int)(v9:Int):LT Ec Int:=
.br (decide (v9<v8)) (.call (ZkK v9) λx2=>.br (!(x2==v0)) (.g0 (.L0 v0 v8 (IntKind.wrap .i64 (v9+1))))<|.ok (¬v9<0)<|.rt (Z2p .i64 1 v9))<|.rt 0
def Wb(a0:By)(a1:Int):LT Ec Int:=
.g0 (.L0 a0 a1 0)
def DS:LF Ec Int :=.m0 250 [.t 6] wI λ|.L0 v0 v8 v9=>([1,6,1,0,1,4],⟨20,[(0,wS v0),(2,.fn 251 []),(8,wI v8),(9,wI v9)],[]⟩,xN v0 v8 v9)
def DR:=λa0 a1=>DS.run (Wb a0 a1)
def ZkM(a0)(a1){r}(h:DR a0 a1=some r):Fn PR 250 [wS a0,wI a1,.fn 251 []] (wI r):=DS.fn h
inductive Ed where
 |L0 (v0:By) (v8:Int) (v9:Int)
def xO(v0:By)(v8:Int)(v9:Int):LT Ed Int:=
.br (decide (v9<v8)) (.call (ZkL v9) λx2=>.br (!(x2==v0)) (.g0 (.L0 v0 v8 (IntKind.wrap .i64 (v9+1))))<|.ok (¬v9<0)<|.rt (Z2p .i64 1 v9))<|.rt 0
def Wc(a0:By)(a1:Int):LT Ed Int:=
.g0 (.L0 a0 a1 0)
def DW:LF Ed Int :=.m0 250 [.t 6] wI λ|.L0 v0 v8 v9=>([1,6,1,0,1,4],⟨20,[(0,wS v0),(2,.fn 252 []),(8,wI v8),(9,wI v9)],[]⟩,xO v0 v8 v9)
def DV:=λa0 a1=>DW.run (Wc a0 a1)
def ZkN(a0)(a1){r}(h:DV a0 a1=some r):Fn PR 250 [wS a0,wI a1,.fn 252 []] (wI r):=DW.fn h
def Wd(a0:By):LT Empty Bool:=
.call (ZkJ a0) λx1=>.cs x1 (.k2 0<|.call (ZkM a0 2) λx4=>.k2 0<|.cs (x4==0) (.k2 1<|.call (ZkN a0 6) λx7=>.k2 1<|.rt (x7==0))<|.k4 1<|.rt false)<|.k4 0<|.b4 false<|.rt false
def Xc:LF Empty Bool :=.z0 204 [.t 2] wB
def Z11:=λa0=>Xc.run (Wd a0)
def Ee(a0){r}(h:Z11 a0=some r):Fn PR 204 [wS a0] (wB r):=Xc.fn h
def Z3i(a0:ah):LT Empty Bool:=
.lb 1001<|.call (jo a0.Kind 3) λx1=>.cs x1 (.k3 0<|.call (jo a0.N 1000000) λx4=>.kg 0<|.cs x4 (.k4 1<|.cs (a0.Kind != 0) (.k3 2<|.kg 1<|.kg 2<|.kg 1<|.rt true)<|.k3 2<|.kg 1<|.kg 2<|.kg 1<|.rt (a0.N==0))<|.k5 1<|.kg 1<|.rt false)<|.k4 0<|.b5 false<|.kb false<|.rt false
def Z3j:LF Empty Bool :=.z0 246 [.t 2] wB
def D1:=λa0=>Z3j.run (Z3i a0)
def Ef(a0){r}(h:D1 a0=some r):Fn PR 246 [wA (gd a0)] (wB r):=Z3j.fn h
inductive xQ where
 |L0 (E0:al)
def tS(E0:al):LT xQ Bool:=
.call (Ef E0.Power) λx1=>.cs x1 (.k3 0<|.call (Ef E0.Tough) λx4=>.kg 0<|.cs x4 (.k3 1<|.call (Ef E0.Value) λx7=>.kg 1<|.rt x7)<|.k4 1<|.rt false)<|.k4 0<|.b4 false<|.rt false
def Wm(a0:al):LT xQ Bool:=
.lb 1001<|.call (jo a0.Zone 5) λx1=>.cs (!x1) (.k5 0<|.b8 true<|.b5 true<|.b2 true<|.kn [0]<|.rt false)<|.k3 0<|.call (jo a0.Who 2) λx4=>.k2 0<|.cs (!x4) (.k5 1<|.b8 true<|.b2 true<|.kn [0]<|.rt false)<|.k3 1<|.call (jo a0.Self 2) λx7=>.k2 1<|.cs (!x7) (.k5 2<|.b5 true<|.kn [0]<|.rt false)<|.k3 2<|.call (jo a0.Tap 2) λx10=>.k2 2<|.cs (!x10) (.k5 3<|.kn [0]<|.rt false)<|.k3 3<|.call (jo a0.Keys 131071) λx13=>.k2 3<|.br (!x13) (.rt false)<|.call (jo a0.Types 63) λx16=>.cs (!x16) (.k5 5<|.b5 true<|.b2 true<|.kn [0]<|.rt false)<|.k3 5<|.call (jo a0.NotTypes 63) λx19=>.k2 5<|.cs (!x19) (.k5 6<|.k2 6<|.kn [0]<|.rt false)<|.k5 6<|.k2 6<|.br ((aQ .and .i64 a0.Types a0.NotTypes) != 0) (.rt false)<|.call (jo a0.Colors 31) λx23=>.cs (!x23) (.k5 8<|.b5 true<|.b2 true<|.kn [0]<|.rt false)<|.k3 8<|.call (jo a0.NotColors 31) λx26=>.k2 8<|.cs (!x26) (.k5 9<|.k2 9<|.kn [0]<|.rt false)<|.k5 9<|.k2 9<|.br ((aQ .and .i64 a0.Colors a0.NotColors) != 0) (.rt false)<|.cs (!(a0.Sub==([]:By))) (.k3 11<|.call (Ee a0.Sub) λx31=>.k2 11<|.br (!x31) (.rt false)<|.jn 0 (.L0 a0) [.relab 1001 3000] (tS a0))<|.k5 11<|.kn [0]<|.jn 0 (.L0 a0) [.relab 1001 3000] (tS a0)
def tT:LF xQ Bool :=.m0 194 [.t 2] wB λ|.L0 E0=>([1,1,1,1,1],⟨89,[(1,.bptr 3000 0)],[(3000,.box (bx (aX E0)))]⟩,tS E0)
def Z6e:=λa0=>tT.run (Wm a0)
def Xd(a0){r}(h:Z6e a0=some r):Fn PR 194 [wA (aX a0)] (wB r):=tT.fn h
def Z3k(a0:Int)(a1:Int)(a2:Int):LT Empty Bool:=
.cs (a1==0) (.k5 0<|.b5 true<|.rt ((aQ .and .i64 a0 a2)==0))<|.k5 0<|.cs ((aQ .and .i64 a0 a1) != 0) (.k5 1<|.rt ((aQ .and .i64 a0 a2)==0))<|.k5 1<|.rt false
def Z3l:LF Empty Bool :=.z0 195 [.t 6] wB
def BK:=λa0 a1 a2=>Z3l.run (Z3k a0 a1 a2)
def Z1p(a0)(a1)(a2){r}(h:BK a0 a1 a2=some r):Fn PR 195 [wI a0,wI a1,wI a2] (wB r):=Z3l.fn h
def OV(a0:ah)(a1:Int):LT Empty Bool:=
.lb 1002<|.br (a0.Kind==0) (.rt true)<|.br (a0.Kind==1) (.rt (decide (a1>=a0.N)))<|.br (a0.Kind==2) (.rt (decide (a1<=a0.N)))<|.br (a0.Kind==3) (.rt (a1==a0.N))<|.rt false
def Xe:LF Empty Bool :=.z0 197 [.t 4] wB
def BJ:=λa0 a1=>Xe.run (OV a0 a1)
def Xf(a0)(a1){r}(h:BJ a0 a1=some r):Fn PR 197 [wA (gd a0),wI a1] (wB r):=Xe.fn h
inductive tQ where
 |L0 (v0:Bys) (v1:By) (v7:Int) (v8:Int)
def tP(v0:Bys)(v1:By)(v7:Int)(v8:Int):LT tQ Int:=
.br (decide (v8<v7)) (.idx cS v0 v8 λx2=>.br (v1==x2) (.rt v8)<|.g0 (.L0 v0 v1 v7 (IntKind.wrap .i64 (v8+1))))<|.rt (-1)
def Wi(a0:Bys)(a1:By):LT tQ Int:=
.len cS a0<|.g0 (.L0 a0 a1 (a0.length:Int) 0)
def xP:LF tQ Int :=.m0 263 [.t 4] wI λ|.L0 v0 v1 v7 v8=>([1,0,1,4],⟨19,[(0,wL cS v0),(1,wS v1),(7,wI v7),(8,wI v8)],[]⟩,tP v0 v1 v7 v8)
def Wh:=λa0 a1=>xP.run (Wi a0 a1)
def ZkO(a0)(a1){r}(h:Wh a0 a1=some r):Fn PR 263 [wL cS a0,wS a1] (wI r):=xP.fn h
def Wg(a0:Bys)(a1:By):LT Empty Bool:=
.call (ZkO a0 a1) λx1=>.rt (decide (x1>=0))
def Xg:LF Empty Bool :=.z0 247 [.t 4] wB
def Wf:=λa0 a1=>Xg.run (Wg a0 a1)
def ZkP(a0)(a1){r}(h:Wf a0 a1=some r):Fn PR 247 [wL cS a0,wS a1] (wB r):=Xg.fn h
def We(a0:aI)(a1:By):LT Empty Bool:=
.lb 1002<|.call (ZkP a0.Subs a1) λx1=>.rt x1
def Xh:LF Empty Bool :=.z0 198 [.t 4] wB
def xC:=λa0 a1=>Xh.run (We a0 a1)
def Z94(a0)(a1){r}(h:xC a0 a1=some r):Fn PR 198 [wA (hH a0),wS a1] (wB r):=Xh.fn h
def ZkQ(a0:Int)(a1:Int):LT Empty Bool:=
.rt ((aQ .and .i64 a0 a1)==a1)
def Xi:LF Empty Bool :=.z0 199 [.t 4] wB
def OX:=λa0 a1=>Xi.run (ZkQ a0 a1)
def Z95(a0)(a1){r}(h:OX a0 a1=some r):Fn PR 199 [wI a0,wI a1] (wB r):=Xi.fn h
def OR(a0:Int)(a1:Int):LT Empty Int:=
.call (jm a0) λx1=>.call (jm a1) λx3=>.call (jm (IntKind.wrap .i64 (x1*x3))) λx7=>.rt x7
def Xj:LF Empty Int :=.z0 248 [.t 4] wI
def BH:=λa0 a1=>Xj.run (OR a0 a1)
def ZkR(a0)(a1){r}(h:BH a0 a1=some r):Fn PR 248 [wI a0,wI a1] (wI r):=Xj.fn h
inductive Z3m where
 |L0 (v1:Int) (E0:aK) (v5:Int) (v14:A5 Int) (v15:Int)
def sg(v1:Int)(E0:aK)(v5:Int)(v14:A5 Int)(v15:Int):LT Z3m Int:=
.br (decide (v15<5)) (.idX (aa.int .i64) (A5.list v14) v15 λx2=>.g0 (.L0 v1 E0 (IntKind.wrap .i64 (v5+x2)) v14 (IntKind.wrap .i64 (v15+1))))<|.call (ZkR E0.X (maxI 0 v1)) λx8=>.call (tV v5 x8) λx10=>.rt x10
def OU(a0:aK)(a1:Int):LT Z3m Int:=
.lb 1002<|.call (Jd a0) λx1=>.br (!x1) (.rt 0)<|.go (.L0 a1 a0 a0.Generic a0.Color 0) [.relab 1002 3000]
def wm:LF Z3m Int :=.m0 200 [.t 4] wI λ|.L0 v1 E0 v5 v14 v15=>([1,1,1,0,1,4],⟨29,[(1,wI v1),(2,.bptr 3000 0),(5,wI v5),(14,wA ((cA5 (cI .i64)) v14)),(15,wI v15)],[(3000,.box (bx (cu E0)))]⟩,sg v1 E0 v5 v14 v15)
def BI:=λa0 a1=>wm.run (OU a0 a1)
def ZkS(a0)(a1){r}(h:BI a0 a1=some r):Fn PR 200 [wA (cu a0),wI a1] (wI r):=wm.fn h
def OW(a0:ah)(a1:Int)(b0:Bool):LT Empty Bool:=
.lb 1003<|.cs (a0.Kind==0) (.k4 0<|.rt true)<|.k2 0<|.cs b0 (.k3 1<|.call (Xf a0 a1) λx3=>.kg 0<|.kg 1<|.kg 0<|.rt x3)<|.k3 1<|.kg 0<|.kg 1<|.kg 0<|.rt false
def Xk(b0:Bool):LF Empty Bool :=.z 196 [.t 5] true (λr=>[(0,.box (bx (cB b0)))]) (λr=>(wB r))
def BL(a0:ah)(a1:Int)(b0:Bool):Option Bool:=(Xk b0).run (OW a0 a1 b0)
def Xl(a0:ah)(a1:Int)(b0:Bool){r:Bool}(h:BL a0 a1 b0=some r):FnG PR 196 [(0,.box (bx (cB b0)))] [wA (gd a0),wI a1,.bptr 0 0] [(0,.box (bx (cB b0)))] (wB r):=(Xk b0).fn h
inductive m9 where
 |L0 (v3:Int) (E0:aj) (E1:ae) (E2:al) (E3:Bool) (v30:Bool)
 |L1 (E0:aj) (E1:ae) (E2:al) (E3:Bool) (v49:Bool)
 |L2 (E0:aj) (E1:ae) (E2:al) (E3:Bool) (v68:Bool)
 |L3 (E0:aj) (E1:ae) (E2:al) (E3:Bool) (v88:Bool)
 |L4 (E0:ae) (E1:al) (E2:Bool)
def mz(E0:ae)(E1:al)(E2:Bool):LT m9 Bool:=
.callO (Xl E1.Power E0.Power E2) [3002] 1280000 (λx=>[]) λx1=>.cs x1 (.k5 0<|.kg 0<|.callO (Xl E1.Tough E0.Tough E2) [3002] 1350000 (λx=>[]) λx4=>.kg 0<|.cs x4 (.k5 1<|.call (ZkS E0.Cost 0) λx7=>.kg 1<|.call (Xf E1.Value x7) λx9=>.kg 1<|.rt x9)<|.k5 1<|.k2 1<|.rt false)<|.k5 0<|.k2 0<|.b5 false<|.b2 false<|.rt false
def oH(E0:aj)(E1:ae)(E2:al)(E3:Bool)(v88:Bool):LT m9 Bool:=
.br v88 (.rt false)<|.cs (E2.Tap==1) (.k4 1<|.br (!E0.Tapped) (.kn [3]<|.rt false)<|.cs (E2.Tap==2) (.k3 3<|.br E0.Tapped (.rt false)<|.jn 0 (.L4 E1 E2 E3) (tm11 3000) (mz E1 E2 E3))<|.k3 3<|.kn [0]<|.jn 0 (.L4 E1 E2 E3) (tm11 3000) (mz E1 E2 E3))<|.k4 1<|.kn [0]<|.cs (E2.Tap==2) (.k3 2<|.br E0.Tapped (.rt false)<|.jn 0 (.L4 E1 E2 E3) (tm11 3000) (mz E1 E2 E3))<|.k3 2<|.kn [0]<|.jn 0 (.L4 E1 E2 E3) (tm11 3000) (mz E1 E2 E3)
def si(E0:aj)(E1:ae)(E2:al)(E3:Bool)(v68:Bool):LT m9 Bool:=
.br v68 (.rt false)<|.cs (!(E2.Sub==([]:By))) (.k5 1<|.call (Z94 E1.Line E2.Sub) λx3=>.k2 1<|.br (!x3) (.j0 (.L3 E0 E1 E2 E3 (!x3)) (oH E0 E1 E2 E3 (!x3)))<|.call (Z95 E1.Keys E2.Keys) λx6=>.j0 (.L3 E0 E1 E2 E3 (!x6)) (oH E0 E1 E2 E3 (!x6)))<|.k5 1<|.k2 1<|.kn [0]<|.call (Z95 E1.Keys E2.Keys) λx8=>.j0 (.L3 E0 E1 E2 E3 (!x8)) (oH E0 E1 E2 E3 (!x8))
def k7(E0:aj)(E1:ae)(E2:al)(E3:Bool)(v49:Bool):LT m9 Bool:=
.br v49 (.rt false)<|.call (Z1p E1.Line.Types E2.Types E2.NotTypes) λx2=>.br (!x2) (.j0 (.L2 E0 E1 E2 E3 (!x2)) (si E0 E1 E2 E3 (!x2)))<|.call (Z1p E1.Colors E2.Colors E2.NotColors) λx5=>.j0 (.L2 E0 E1 E2 E3 (!x5)) (si E0 E1 E2 E3 (!x5))
def im(v3:Int)(E0:aj)(E1:ae)(E2:al)(E3:Bool)(v30:Bool):LT m9 Bool:=
.br v30 (.rt false)<|.cs (E2.Self==1) (.k5 1<|.br (E0.Id != v3) (.j0 (.L1 E0 E1 E2 E3 (E0.Id != v3)) (k7 E0 E1 E2 E3 (E0.Id != v3)))<|.cs (E2.Self==2) (.k5 3<|.j0 (.L1 E0 E1 E2 E3 (E0.Id==v3)) (k7 E0 E1 E2 E3 (E0.Id==v3)))<|.k5 3<|.j0 (.L1 E0 E1 E2 E3 false) (k7 E0 E1 E2 E3 false))<|.k5 1<|.kn [0]<|.cs (E2.Self==2) (.k5 2<|.j0 (.L1 E0 E1 E2 E3 (E0.Id==v3)) (k7 E0 E1 E2 E3 (E0.Id==v3)))<|.k5 2<|.j0 (.L1 E0 E1 E2 E3 false) (k7 E0 E1 E2 E3 false)
def Z96(a0:aj)(a1:ae)(a2:Int)(a3:Int)(a4:al):LT m9 Bool:=
.lb 1005<|.lb 1006<|.lb 1009<|.call (Xd a4) λx1=>.cs (!x1) (.k5 0<|.kg 0<|.kn [0]<|.rt false)<|.k5 0<|.kg 0<|.br (a0.Zone != a4.Zone) (.rt false)<|.lb 1011<|.cs (a4.Who==1) (.k5 2<|.br (a1.Control != a2) (.jn 0 (.L0 a3 a0 a1 a4 ((aQ .and .i64 a1.Line.Types 1) != 0) (a1.Control != a2)) (tm12 1000 3000) (im a3 a0 a1 a4 ((aQ .and .i64 a1.Line.Types 1) != 0) (a1.Control != a2)))<|.cs (a4.Who==2) (.k5 4<|.jn 0 (.L0 a3 a0 a1 a4 ((aQ .and .i64 a1.Line.Types 1) != 0) (a1.Control==a2)) (tm12 1000 3000) (im a3 a0 a1 a4 ((aQ .and .i64 a1.Line.Types 1) != 0) (a1.Control==a2)))<|.k5 4<|.jn 0 (.L0 a3 a0 a1 a4 ((aQ .and .i64 a1.Line.Types 1) != 0) false) (tm12 1000 3000) (im a3 a0 a1 a4 ((aQ .and .i64 a1.Line.Types 1) != 0) false))<|.k5 2<|.kn [0]<|.cs (a4.Who==2) (.k5 3<|.jn 0 (.L0 a3 a0 a1 a4 ((aQ .and .i64 a1.Line.Types 1) != 0) (a1.Control==a2)) (tm12 1000 3000) (im a3 a0 a1 a4 ((aQ .and .i64 a1.Line.Types 1) != 0) (a1.Control==a2)))<|.k5 3<|.jn 0 (.L0 a3 a0 a1 a4 ((aQ .and .i64 a1.Line.Types 1) != 0) false) (tm12 1000 3000) (im a3 a0 a1 a4 ((aQ .and .i64 a1.Line.Types 1) != 0) false)
def mA:LF m9 Bool :=.m0 156 [.t 10] wB λ|.L0 v3 E0 E1 E2 E3 v30=>([1,1,1,1,1,0,4,1],⟨144,[(3,wI v3),(5,.bptr 3000 0),(6,.bptr 3001 0),(9,.bptr 3002 0),(12,.fn 195 []),(13,.fn 196 [.bptr 3003 0]),(30,wB v30)],[(3000,.box (bx (aE E0))),(3001,.box (bx (av E1))),(3002,.box (bx (aX E2))),(3003,.box (bx (cB E3)))]⟩,im v3 E0 E1 E2 E3 v30)|.L1 E0 E1 E2 E3 v49=>([1,1,1,1,1,0,4,1,3,1],⟨144,[(5,.bptr 3000 0),(6,.bptr 3001 0),(9,.bptr 3002 0),(12,.fn 195 []),(13,.fn 196 [.bptr 3003 0]),(49,wB v49)],[(3000,.box (bx (aE E0))),(3001,.box (bx (av E1))),(3002,.box (bx (aX E2))),(3003,.box (bx (cB E3)))]⟩,k7 E0 E1 E2 E3 v49)|.L2 E0 E1 E2 E3 v68=>([1,1,1,1,1,0,4,1,3,1,3,1],⟨144,[(5,.bptr 3000 0),(6,.bptr 3001 0),(9,.bptr 3002 0),(13,.fn 196 [.bptr 3003 0]),(68,wB v68)],[(3000,.box (bx (aE E0))),(3001,.box (bx (av E1))),(3002,.box (bx (aX E2))),(3003,.box (bx (cB E3)))]⟩,si E0 E1 E2 E3 v68)|.L3 E0 E1 E2 E3 v88=>([1,1,1,1,1,0,4,1,3,1,3,1,3,1],⟨144,[(5,.bptr 3000 0),(6,.bptr 3001 0),(9,.bptr 3002 0),(13,.fn 196 [.bptr 3003 0]),(88,wB v88)],[(3000,.box (bx (aE E0))),(3001,.box (bx (av E1))),(3002,.box (bx (aX E2))),(3003,.box (bx (cB E3)))]⟩,oH E0 E1 E2 E3 v88)|.L4 E0 E1 E2=>([1,1,1,1,1,1],⟨144,[(6,.bptr 3000 0),(9,.bptr 3001 0),(13,.fn 196 [.bptr 3002 0])],[(3000,.box (bx (av E0))),(3001,.box (bx (aX E1))),(3002,.box (bx (cB E2)))]⟩,mz E0 E1 E2)
def wt:=λa0 a1 a2 a3 a4=>mA.run (Z96 a0 a1 a2 a3 a4)
def Eg(a0)(a1)(a2)(a3)(a4){r}(h:wt a0 a1 a2 a3 a4=some r):Fn PR 156 [wA (aE a0),wA (av a1),wI a2,wI a3,wA (aX a4)] (wB r):=mA.fn h
inductive xY where
 |L0 (v1:List ae) (v2:Int) (v3:Int) (E0:al) (v11:List Int) (v16:List aj) (v17:Int) (v18:Int)
 |L1 (v1:List ae) (v2:Int) (v3:Int) (E0:al) (v11:List Int) (E1:aj) (E2:ae) (v16:List aj) (v17:Int) (v18:Int)
def sj(v1:List ae)(v2:Int)(v3:Int)(E0:al)(v11:List Int)(E1:aj)(E2:ae)(v16:List aj)(v17:Int)(v18:Int):LT xY (List Int):=
.call (Eg E1 E2 v2 v3 E0) λx1=>.br x1 (.dr [.lit]<|.apR (cI .i64) 8 v11 [E1.Id] λx4=>.g0 (.L0 v1 v2 v3 E0 x4 v16 v17 (IntKind.wrap .i64 (v18+1))))<|.g0 (.L0 v1 v2 v3 E0 v11 v16 v17 (IntKind.wrap .i64 (v18+1)))
def sn(v1:List ae)(v2:Int)(v3:Int)(E0:al)(v11:List Int)(v16:List aj)(v17:Int)(v18:Int):LT xY (List Int):=
.br (decide (v18<v17)) (.idx aE v16 v18 λx2=>.lb 1013<|.lb 1014<|.len av v1<|.br (decide (v18<(v1.length:Int))) (.idx av v1 v18 λx6=>.jn 0 (.L1 v1 v2 v3 E0 v11 x2 x6 v16 v17 v18) [.relab 1013 3001,.relab 1014 3002] (sj v1 v2 v3 E0 v11 x2 x6 v16 v17 v18))<|.jn 0 (.L1 v1 v2 v3 E0 v11 x2 (⟨([]:By),(⟨0,0,(⟨0,0,0,0,0⟩:A5 Int)⟩:aK),0,(⟨0,0,([]:Bys)⟩:aI),0,0,0,([]:List ar),0⟩:ae) v16 v17 v18) [.relab 1013 3001,.relab 1014 3002,.niltb 3002 11,.niltb 3002 15] (sj v1 v2 v3 E0 v11 x2 (⟨([]:By),(⟨0,0,(⟨0,0,0,0,0⟩:A5 Int)⟩:aK),0,(⟨0,0,([]:Bys)⟩:aI),0,0,0,([]:List ar),0⟩:ae) v16 v17 v18))<|.ret v11 [.relab 20011 5000]
def O9(a0:ao)(a1:List ae)(a2:Int)(a3:Int)(a4:al):LT xY (List Int):=
.lb 1005<|.lb 1009<|.len aE a0.Objects<|.go (.L0 a1 a2 a3 a4 ([]:List Int) a0.Objects (a0.Objects.length:Int) 0) [.relab 1009 3000,.own 11 20011 1]
def Z3n:LF xY (List Int) :=.m 157 [.t 10] true (λr=>[(5000,wR (cI .i64) 1 r)]) (λr=>(wO (cI .i64) 5000 r)) λ|.L0 v1 v2 v3 E0 v11 v16 v17 v18=>([1,1,0,1,4],⟨44,[(1,wL av v1),(2,wI v2),(3,wI v3),(9,.bptr 3000 0),(11,wO (cI .i64) 20011 v11),(16,wL aE v16),(17,wI v17),(18,wI v18)],[(3000,.box (bx (aX E0))),(20011,wR (cI .i64) 1 v11)]⟩,sn v1 v2 v3 E0 v11 v16 v17 v18)|.L1 v1 v2 v3 E0 v11 E1 E2 v16 v17 v18=>([1,1,0,1,4,5,1,1,0,4,1,1,1],⟨44,[(1,wL av v1),(2,wI v2),(3,wI v3),(9,.bptr 3000 0),(11,wO (cI .i64) 20011 v11),(13,.bptr 3001 0),(14,.bptr 3002 0),(16,wL aE v16),(17,wI v17),(18,wI v18)],[(3000,.box (bx (aX E0))),(20011,wR (cI .i64) 1 v11),(3001,.box (bx (aE E1))),(3002,.box (bx (av E2)))]⟩,sj v1 v2 v3 E0 v11 E1 E2 v16 v17 v18)
def Z12:=λa0 a1 a2 a3 a4=>Z3n.run (O9 a0 a1 a2 a3 a4)
def ZkT(a0)(a1)(a2)(a3)(a4){r}(h:Z12 a0 a1 a2 a3 a4=some r):FnG PR 157 [] [wA (Z1 a0),wL av a1,wI a2,wI a3,wA (aX a4)] [(5000,wR (cI .i64) 1 r)] (wO (cI .i64) 5000 r):=Z3n.fn h
inductive tc where
 |L0 (v0:List Int) (v1:List Int) (v12:Int) (v13:Int)
def Ux(v0:List Int)(v1:List Int)(v12:Int)(v13:Int):LT tc Bool:=
.br (decide (v13<v12)) (.idx (cI .i64) v0 v13 λx2=>.idx (cI .i64) v1 v13 λx4=>.br (x2 != x4) (.rt false)<|.g0 (.L0 v0 v1 v12 (IntKind.wrap .i64 (v13+1))))<|.rt true
def Uw(a0:List Int)(a1:List Int):LT tc Bool:=
.len (cI .i64) a0<|.len (cI .i64) a1<|.br ((a0.length:Int) != (a1.length:Int)) (.rt false)<|.len (cI .i64) a0<|.g0 (.L0 a0 a1 (a0.length:Int) 0)
def Du:LF tc Bool :=.m0 101 [.t 4] wB λ|.L0 v0 v1 v12 v13=>([1,1,0,1,4],⟨26,[(0,wL (cI .i64) v0),(1,wL (cI .i64) v1),(12,wI v12),(13,wI v13)],[]⟩,Ux v0 v1 v12 v13)
def Uv:=λa0 a1=>Du.run (Uw a0 a1)
def Xm(a0)(a1){r}(h:Uv a0 a1=some r):Fn PR 101 [wL (cI .i64) a0,wL (cI .i64) a1] (wB r):=Du.fn h
def Uz(a0:bM)(a1:bM):LT Empty Bool:=
.lb 1002<|.lb 1003<|.cs (!(a0.active==a1.active)) (.k5 0<|.k2 0<|.b5 true<|.b2 true<|.rt true)<|.k5 0<|.call (Xm a0.hits a1.hits) λx2=>.k2 0<|.cs (!x2) (.k5 1<|.k2 1<|.rt true)<|.k5 1<|.call (Xm a0.numbers a1.numbers) λx5=>.k2 1<|.rt (!x5)
def Xn:LF Empty Bool :=.z0 100 [.t 4] wB
def Uy:=λa0 a1=>Xn.run (Uz a0 a1)
def Z13(a0)(a1){r}(h:Uy a0 a1=some r):Fn PR 100 [wA (jB a0),wA (jB a1)] (wB r):=Xn.fn h
def Dv(a0:List Bool)(hne:a0≠[]):LT Empty (List Bool):=
.ne cB hne<|.kn [0]<|.lb 1005<|.apR cB 1 ([]:List Bool) a0 λx1=>.ret x1 [.relab 1005 5000]
def na:LF Empty (List Bool) :=.z 153 [.t 2] true (λr=>[(5000,wR cB 1 r)]) (λr=>(wO cB 5000 r))
def xE(c:Nat):LT Empty (List Bool):=
.kn [0]<|.ret ([]:List Bool) [.own 2 5000 1]
def ZkU(c:Nat)(ad:Addr):LT Empty (List Bool):=
.kn [0]<|.lb 1005<|.apR cB 1 ([]:List Bool) ([]:List Bool) λx1=>.ret x1 [.relab 1005 5000]
open Classical in
def xD(a0:List Bool):Option (List Bool):=if h:a0≠[]then na.run (Dv a0 h)else na.run (xE 0)
def Xo(a0:List Bool){r:List Bool}(h:xD a0=some r):FnG PR 153 [] [wL cB a0] [(5000,wR cB 1 r)] (wO cB 5000 r):=by
 by_cases hne:a0=[]
 .subst hne;have h0:na.run (xE 0)=some r:=h;exact FnG.split0 (λe=>absurd rfl e) (λ_ a c=>by
   cases a with
   |none=>exact na.fn (t:=xE c) h0
   |some ad=>exact na.fn (t:=ZkU c ad) h0)
 have h0:na.run (Dv a0 hne)=some r:=by unfold xD at h;rwa[iD hne]at h
 exact FnG.split0 (λ_=>na.fn h0) (λe=>absurd (jY.1 e) hne)
def Dw(a0:List ar)(hne:a0≠[]):LT Empty (List ar):=
.ne aC hne<|.kn [0]<|.lb 1005<|.apR aC 640 ([]:List ar) a0 λx1=>.ret x1 [.relab 1005 5000]
def nb:LF Empty (List ar) :=.z 201 [.t 2] true (λr=>[(5000,wR aC 72 r)]) (λr=>(wO aC 5000 r))
def xG(c:Nat):LT Empty (List ar):=
.kn [0]<|.ret ([]:List ar) [.own 2 5000 72]
def ZkV(c:Nat)(ad:Addr):LT Empty (List ar):=
.kn [0]<|.lb 1005<|.apR aC 640 ([]:List ar) ([]:List ar) λx1=>.ret x1 [.relab 1005 5000]
open Classical in
def xF(a0:List ar):Option (List ar):=if h:a0≠[]then nb.run (Dw a0 h)else nb.run (xG 0)
def ZkW(a0:List ar){r:List ar}(h:xF a0=some r):FnG PR 201 [] [wL aC a0] [(5000,wR aC 72 r)] (wO aC 5000 r):=by
 by_cases hne:a0=[]
 .subst hne;have h0:nb.run (xG 0)=some r:=h;exact FnG.split0 (λe=>absurd rfl e) (λ_ a c=>by
   cases a with
   |none=>exact nb.fn (t:=xG c) h0
   |some ad=>exact nb.fn (t:=ZkV c ad) h0)
 have h0:nb.run (Dw a0 hne)=some r:=by unfold xF at h;rwa[iD hne]at h
 exact FnG.split0 (λ_=>nb.fn h0) (λe=>absurd (jY.1 e) hne)
inductive pa where
 |L0 (E0:ae) (E1:ae) (v18:Int) (v19:Int)
 |L1 (y45000015:ar) (E0:ae) (E1:ae) (v18:Int) (v19:Int) (v54:Int) (v55:Int) (v4:Int)
def UD(E0:ae)(E1:ae)(v18:Int)(v19:Int):LT pa ae:=
.br (decide (v19<v18)) (.idxR aC E0.Abilities v19 λx2=>.dr [.ahead 7,.opn 40015 (Int.toNat v19) (aC x2),.stop]<|.us [2]<|.iq v19<|.iq v19<|.rl aC E0.Abilities<|.rl aC E0.Abilities<|.rl aC E0.Abilities<|.call (qB x2.Mods) λx4=>.rl aC E0.Abilities<|.rl aC E0.Abilities<|.rl aC E0.Abilities<|.call (ZF x2.Specs) λx6=>.rl aC E0.Abilities<|.rl aC E0.Abilities<|.rl aC E0.Abilities<|.callF (Ji x2.Effects) 440000 λx8=>.rl aC E0.Abilities<|.rl aC E0.Abilities<|.rl aC E0.Abilities<|.rl aC E0.Abilities<|.rl aC E0.Abilities<|.rl aC E0.Abilities<|.rl aC E0.Abilities<|.rl aC E0.Abilities<|.rl aC E0.Abilities<|.rl aC E0.Abilities<|.rl aC E0.Abilities<|.rl aC E0.Abilities<|.lenO bj x8<|.go (.L1 (⟨x2.Kind,x2.Filter,x4,x2.Price,x2.Slow,x2.Trigger,x2.May,x6,x8,x2.Replace⟩:ar) E0 E1 v18 v19 (x8.length:Int) 0 v19) [.relab 40015 45000015,.relab 445000 46000049])<|.ret E0 [.relab 40011 5011,.relab 40015 5015]
def UE(y45000015:ar)(E0:ae)(E1:ae)(v18:Int)(v19:Int)(v54:Int)(v55:Int)(v4:Int):LT pa ae:=
.br (decide (v55<v54)) (.rl aC E0.Abilities<|.rl aC E0.Abilities<|.rl aC E0.Abilities<|.rl aC E0.Abilities<|.rl aC E0.Abilities<|.rl aC E0.Abilities<|.idxR bj y45000015.Effects v55 λx2=>.rl bj y45000015.Effects<|.ldR bj y45000015.Effects x2 2<|.call (qB x2.Mods) λx4=>.plR bj y45000015.Effects v55 0<|.rl bj y45000015.Effects<|.setD bj y45000015.Effects v55 x2 (⟨x2.Op,x2.Ref,x2.Amount,x2.Counter,x2.Zone,x2.Card,x2.Filter,x2.Pool,x4⟩:aZ) 2 63 [.sl (List.map ay x4)] rfl λx6=>.dr [.ahead 74,.relen 46000049,.stop]<|.us [3]<|.us [3]<|.us [3]<|.us [3]<|.us [3]<|.us [3]<|.us [3]<|.g0 (.L1 (⟨y45000015.Kind,y45000015.Filter,y45000015.Mods,y45000015.Price,y45000015.Slow,y45000015.Trigger,y45000015.May,y45000015.Specs,x6,y45000015.Replace⟩:ar) E0 E1 v18 v19 v54 (IntKind.wrap .i64 (v55+1)) v4))<|.clsR aC E0.Abilities v4 y45000015 λx10=>.dr [.ahead 75,.frz 46000049,.cls 45000015 (List.map aC x10),.relen 45000015,.stop]<|.rl bj y45000015.Effects<|.us [0]<|.rl aC E0.Abilities<|.rl aC E0.Abilities<|.us [1]<|.us [1]<|.go (.L0 (⟨E0.Name,E0.Cost,E0.Colors,E0.Line,E0.Power,E0.Tough,E0.Keys,x10,E0.Control⟩:ae) E1 v18 (IntKind.wrap .i64 (v19+1))) [.relab 45000015 40015]
def UC(a0:ae):LT pa ae:=
.lb 1001<|.lb 1002<|.callF (zn a0.Line.Subs) 100000 λx1=>.callF (ZkW a0.Abilities) 150000 λx3=>.lenO aC x3<|.go (.L0 (⟨a0.Name,a0.Cost,a0.Colors,(⟨a0.Line.Super,a0.Line.Types,x1⟩:aI),a0.Power,a0.Tough,a0.Keys,x3,a0.Control⟩:ae) (⟨([]:By),(⟨0,0,(⟨0,0,0,0,0⟩:A5 Int)⟩:aK),0,(⟨0,0,([]:Bys)⟩:aI),0,0,0,([]:List ar),0⟩:ae) (x3.length:Int) 0) [.relab 1001 3000,.relab 1002 3001,.relab 105000 40011,.relab 155000 40015,.ownb 3001 11 40111 1,.ownb 3001 15 40115 72]
def xH:LF pa ae :=.m 158 [.c 2 66 true 17] true (λr=>[(5011,wR cS 1 r.Line.Subs),(5015,wR aC 72 r.Abilities)]) (λr=>(.agg (tm2 r 5000))) λ|.L0 E0 E1 v18 v19=>([1,1,1,0,1,4],⟨77,[(1,.bptr 3000 0),(2,.bptr 3001 0),(18,wI v18),(19,wI v19)],[(3000,.box (tm2 E0 40000)),(40011,wR cS 1 E0.Line.Subs),(40015,wR aC 72 E0.Abilities),(3001,.box (tm2 E1 40100)),(40111,wR cS 1 E1.Line.Subs),(40115,wR aC 72 E1.Abilities)]⟩,UD E0 E1 v18 v19)|.L1 y45000015 E0 E1 v18 v19 v54 v55 v4=>([1,1,1,0,1,4,5,1,1,0,4,1,1,1,1,4],⟨77,[(1,.bptr 3000 0),(2,.bptr 3001 0),(4,.own 45000015 (.pp (List.map aC E0.Abilities).length 0)),(18,wI v18),(19,wI v19),(54,wI v54),(55,wI v55)],[(3000,.box [wS E0.Name,wI E0.Cost.Generic,wI E0.Cost.X,wI E0.Cost.Color.a0,wI E0.Cost.Color.a1,wI E0.Cost.Color.a2,wI E0.Cost.Color.a3,wI E0.Cost.Color.a4,wI E0.Colors,wI E0.Line.Super,wI E0.Line.Types,wO cS 40011 E0.Line.Subs,wI E0.Power,wI E0.Tough,wI E0.Keys,.own 45000015 (.pw (List.map aC E0.Abilities).length),wI E0.Control]),(40011,wR cS 1 E0.Line.Subs),(46000049,wR bj 64 y45000015.Effects),(45000015,.prow 72 (Int.toNat v4) (List.map aC E0.Abilities) [wI y45000015.Kind,wI y45000015.Filter.Zone,wI y45000015.Filter.Who,wI y45000015.Filter.Self,wI y45000015.Filter.Types,wI y45000015.Filter.NotTypes,wI y45000015.Filter.Colors,wI y45000015.Filter.NotColors,wS y45000015.Filter.Sub,wI y45000015.Filter.Keys,wI y45000015.Filter.Tap,wI y45000015.Filter.Power.Kind,wI y45000015.Filter.Power.N,wI y45000015.Filter.Tough.Kind,wI y45000015.Filter.Tough.N,wI y45000015.Filter.Value.Kind,wI y45000015.Filter.Value.N,wL ay y45000015.Mods,wI y45000015.Price.Mana.Generic,wI y45000015.Price.Mana.X,wI y45000015.Price.Mana.Color.a0,wI y45000015.Price.Mana.Color.a1,wI y45000015.Price.Mana.Color.a2,wI y45000015.Price.Mana.Color.a3,wI y45000015.Price.Mana.Color.a4,wB y45000015.Price.Tap,wB y45000015.Price.Sacrifice,wI y45000015.Price.Life,wB y45000015.Slow,wI y45000015.Trigger.When,wI y45000015.Trigger.Who,wI y45000015.Trigger.Filter.Zone,wI y45000015.Trigger.Filter.Who,wI y45000015.Trigger.Filter.Self,wI y45000015.Trigger.Filter.Types,wI y45000015.Trigger.Filter.NotTypes,wI y45000015.Trigger.Filter.Colors,wI y45000015.Trigger.Filter.NotColors,wS y45000015.Trigger.Filter.Sub,wI y45000015.Trigger.Filter.Keys,wI y45000015.Trigger.Filter.Tap,wI y45000015.Trigger.Filter.Power.Kind,wI y45000015.Trigger.Filter.Power.N,wI y45000015.Trigger.Filter.Tough.Kind,wI y45000015.Trigger.Filter.Tough.N,wI y45000015.Trigger.Filter.Value.Kind,wI y45000015.Trigger.Filter.Value.N,wB y45000015.May,wL cn y45000015.Specs,wO bj 46000049 y45000015.Effects,wI y45000015.Replace.On,wI y45000015.Replace.Who,wI y45000015.Replace.Filter.Zone,wI y45000015.Replace.Filter.Who,wI y45000015.Replace.Filter.Self,wI y45000015.Replace.Filter.Types,wI y45000015.Replace.Filter.NotTypes,wI y45000015.Replace.Filter.Colors,wI y45000015.Replace.Filter.NotColors,wS y45000015.Replace.Filter.Sub,wI y45000015.Replace.Filter.Keys,wI y45000015.Replace.Filter.Tap,wI y45000015.Replace.Filter.Power.Kind,wI y45000015.Replace.Filter.Power.N,wI y45000015.Replace.Filter.Tough.Kind,wI y45000015.Replace.Filter.Tough.N,wI y45000015.Replace.Filter.Value.Kind,wI y45000015.Replace.Filter.Value.N,wI y45000015.Replace.Do,wI y45000015.Replace.N,wI y45000015.Replace.Zone,wI y45000015.Replace.Counter]),(3001,.box (tm2 E1 40100)),(40111,wR cS 1 E1.Line.Subs),(40115,wR aC 72 E1.Abilities)]⟩,UE y45000015 E0 E1 v18 v19 v54 v55 v4)
def UB:=λa0=>xH.run (UC a0)
def ZkX(a0){r}(h:UB a0=some r):FnG PR 158 [] [wA (av a0)] [(5011,wR cS 1 r.Line.Subs),(5015,wR aC 72 r.Abilities)] (.agg (tm2 r 5000)):=xH.fn h
def UG(a0:Int)(a1:Int)(a2:Int):LT Empty Bool:=
.cs (decide (a0>=a1)) (.k4 0<|.rt (decide (a0<=a2)))<|.k4 0<|.rt false
def Xp:LF Empty Bool :=.z0 202 [.t 6] wB
def UF:=λa0 a1 a2=>Xp.run (UG a0 a1 a2)
def ku(a0)(a1)(a2){r}(h:UF a0 a1 a2=some r):Fn PR 202 [wI a0,wI a1,wI a2] (wB r):=Xp.fn h
inductive pb where
 |L0 (E0:af) (E1:af) (E2:af) (v8:Int) (v9:Bool)
 |L1 (E0:af) (E1:af) (E2:af) (v8:Int) (v19:Bool)
def te(E0:af)(E1:af)(E2:af)(v8:Int)(v19:Bool):LT pb af:=
.br v19 (.rt (⟨E2.Kind,E2.N,E2.M,E0.Sub,E2.Filter⟩:af))<|.br (v8==11) (.rt (⟨E2.Kind,E2.N,E2.M,E2.Sub,E0.Filter⟩:af))<|.br (v8==12) (.kn [3]<|.rt (⟨E2.Kind,E0.N,E0.M,E2.Sub,E2.Filter⟩:af))<|.br (v8==13) (.rt (⟨E2.Kind,E0.N,E0.M,E2.Sub,E2.Filter⟩:af))<|.rt E2
def kr(E0:af)(E1:af)(E2:af)(v8:Int)(v9:Bool):LT pb af:=
.br v9 (.rt (⟨E2.Kind,E0.N,E2.M,E2.Sub,E2.Filter⟩:af))<|.br (v8==4) (.j0 (.L1 E0 E1 E2 v8 (v8==4)) (te E0 E1 E2 v8 (v8==4)))<|.j0 (.L1 E0 E1 E2 v8 (v8==5)) (te E0 E1 E2 v8 (v8==5))
def UI(a0:af):LT pb af:=
.lb 1001<|.lb 1002<|.lb 1003<|.br (a0.Kind==2) (.jn 0 (.L0 a0 (⟨0,0,0,([]:By),(⟨0,0,0,0,0,0,0,([]:By),0,0,(⟨0,0⟩:ah),(⟨0,0⟩:ah),(⟨0,0⟩:ah)⟩:al)⟩:af) (⟨a0.Kind,0,0,([]:By),(⟨0,0,0,0,0,0,0,([]:By),0,0,(⟨0,0⟩:ah),(⟨0,0⟩:ah),(⟨0,0⟩:ah)⟩:al)⟩:af) a0.Kind (a0.Kind==2)) (tm13 1000 3000) (kr a0 (⟨0,0,0,([]:By),(⟨0,0,0,0,0,0,0,([]:By),0,0,(⟨0,0⟩:ah),(⟨0,0⟩:ah),(⟨0,0⟩:ah)⟩:al)⟩:af) (⟨a0.Kind,0,0,([]:By),(⟨0,0,0,0,0,0,0,([]:By),0,0,(⟨0,0⟩:ah),(⟨0,0⟩:ah),(⟨0,0⟩:ah)⟩:al)⟩:af) a0.Kind (a0.Kind==2)))<|.br (a0.Kind==3) (.jn 0 (.L0 a0 (⟨0,0,0,([]:By),(⟨0,0,0,0,0,0,0,([]:By),0,0,(⟨0,0⟩:ah),(⟨0,0⟩:ah),(⟨0,0⟩:ah)⟩:al)⟩:af) (⟨a0.Kind,0,0,([]:By),(⟨0,0,0,0,0,0,0,([]:By),0,0,(⟨0,0⟩:ah),(⟨0,0⟩:ah),(⟨0,0⟩:ah)⟩:al)⟩:af) a0.Kind (a0.Kind==3)) (tm13 1000 3000) (kr a0 (⟨0,0,0,([]:By),(⟨0,0,0,0,0,0,0,([]:By),0,0,(⟨0,0⟩:ah),(⟨0,0⟩:ah),(⟨0,0⟩:ah)⟩:al)⟩:af) (⟨a0.Kind,0,0,([]:By),(⟨0,0,0,0,0,0,0,([]:By),0,0,(⟨0,0⟩:ah),(⟨0,0⟩:ah),(⟨0,0⟩:ah)⟩:al)⟩:af) a0.Kind (a0.Kind==3)))<|.br (a0.Kind==6) (.jn 0 (.L0 a0 (⟨0,0,0,([]:By),(⟨0,0,0,0,0,0,0,([]:By),0,0,(⟨0,0⟩:ah),(⟨0,0⟩:ah),(⟨0,0⟩:ah)⟩:al)⟩:af) (⟨a0.Kind,0,0,([]:By),(⟨0,0,0,0,0,0,0,([]:By),0,0,(⟨0,0⟩:ah),(⟨0,0⟩:ah),(⟨0,0⟩:ah)⟩:al)⟩:af) a0.Kind (a0.Kind==6)) (tm13 1000 3000) (kr a0 (⟨0,0,0,([]:By),(⟨0,0,0,0,0,0,0,([]:By),0,0,(⟨0,0⟩:ah),(⟨0,0⟩:ah),(⟨0,0⟩:ah)⟩:al)⟩:af) (⟨a0.Kind,0,0,([]:By),(⟨0,0,0,0,0,0,0,([]:By),0,0,(⟨0,0⟩:ah),(⟨0,0⟩:ah),(⟨0,0⟩:ah)⟩:al)⟩:af) a0.Kind (a0.Kind==6)))<|.br (a0.Kind==7) (.jn 0 (.L0 a0 (⟨0,0,0,([]:By),(⟨0,0,0,0,0,0,0,([]:By),0,0,(⟨0,0⟩:ah),(⟨0,0⟩:ah),(⟨0,0⟩:ah)⟩:al)⟩:af) (⟨a0.Kind,0,0,([]:By),(⟨0,0,0,0,0,0,0,([]:By),0,0,(⟨0,0⟩:ah),(⟨0,0⟩:ah),(⟨0,0⟩:ah)⟩:al)⟩:af) a0.Kind (a0.Kind==7)) (tm13 1000 3000) (kr a0 (⟨0,0,0,([]:By),(⟨0,0,0,0,0,0,0,([]:By),0,0,(⟨0,0⟩:ah),(⟨0,0⟩:ah),(⟨0,0⟩:ah)⟩:al)⟩:af) (⟨a0.Kind,0,0,([]:By),(⟨0,0,0,0,0,0,0,([]:By),0,0,(⟨0,0⟩:ah),(⟨0,0⟩:ah),(⟨0,0⟩:ah)⟩:al)⟩:af) a0.Kind (a0.Kind==7)))<|.br (a0.Kind==8) (.jn 0 (.L0 a0 (⟨0,0,0,([]:By),(⟨0,0,0,0,0,0,0,([]:By),0,0,(⟨0,0⟩:ah),(⟨0,0⟩:ah),(⟨0,0⟩:ah)⟩:al)⟩:af) (⟨a0.Kind,0,0,([]:By),(⟨0,0,0,0,0,0,0,([]:By),0,0,(⟨0,0⟩:ah),(⟨0,0⟩:ah),(⟨0,0⟩:ah)⟩:al)⟩:af) a0.Kind (a0.Kind==8)) (tm13 1000 3000) (kr a0 (⟨0,0,0,([]:By),(⟨0,0,0,0,0,0,0,([]:By),0,0,(⟨0,0⟩:ah),(⟨0,0⟩:ah),(⟨0,0⟩:ah)⟩:al)⟩:af) (⟨a0.Kind,0,0,([]:By),(⟨0,0,0,0,0,0,0,([]:By),0,0,(⟨0,0⟩:ah),(⟨0,0⟩:ah),(⟨0,0⟩:ah)⟩:al)⟩:af) a0.Kind (a0.Kind==8)))<|.jn 0 (.L0 a0 (⟨0,0,0,([]:By),(⟨0,0,0,0,0,0,0,([]:By),0,0,(⟨0,0⟩:ah),(⟨0,0⟩:ah),(⟨0,0⟩:ah)⟩:al)⟩:af) (⟨a0.Kind,0,0,([]:By),(⟨0,0,0,0,0,0,0,([]:By),0,0,(⟨0,0⟩:ah),(⟨0,0⟩:ah),(⟨0,0⟩:ah)⟩:al)⟩:af) a0.Kind (a0.Kind==9)) (tm13 1000 3000) (kr a0 (⟨0,0,0,([]:By),(⟨0,0,0,0,0,0,0,([]:By),0,0,(⟨0,0⟩:ah),(⟨0,0⟩:ah),(⟨0,0⟩:ah)⟩:al)⟩:af) (⟨a0.Kind,0,0,([]:By),(⟨0,0,0,0,0,0,0,([]:By),0,0,(⟨0,0⟩:ah),(⟨0,0⟩:ah),(⟨0,0⟩:ah)⟩:al)⟩:af) a0.Kind (a0.Kind==9))
def Xq:LF pb af :=.m0 203 [.c 2 79 true 20] (λr=>(wA (ay r))) λ|.L0 E0 E1 E2 v8 v9=>([1,1,0,1,4,1],⟨40,[(1,.bptr 3000 0),(2,.bptr 3001 0),(3,.bptr 3002 0),(8,wI v8),(9,wB v9)],[(3000,.box (bx (ay E0))),(3001,.box (bx (ay E1))),(3002,.box (bx (ay E2)))]⟩,kr E0 E1 E2 v8 v9)|.L1 E0 E1 E2 v8 v19=>([1,1,0,1,4,1,3,1],⟨40,[(1,.bptr 3000 0),(2,.bptr 3001 0),(3,.bptr 3002 0),(8,wI v8),(19,wB v19)],[(3000,.box (bx (ay E0))),(3001,.box (bx (ay E1))),(3002,.box (bx (ay E2)))]⟩,te E0 E1 E2 v8 v19)
def UH:=λa0=>Xq.run (UI a0)
def ZkY(a0){r}(h:UH a0=some r):Fn PR 203 [wA (ay a0)] (wA (ay r)):=Xq.fn h
inductive mZ where
 |L0 (E0:af) (v14:Int) (v15:Bool)
 |L1 (E0:af) (v14:Int) (v27:Bool)
 |L2 (E0:af) (v14:Int) (v43:Bool)
def tf(E0:af)(v14:Int)(v43:Bool):LT mZ Bool:=
.br v43 (.call (ku E0.N 1 131071) λx2=>.rt x2)<|.br (v14==11) (.call (Xd E0.Filter) λx5=>.rt x5)<|.br (v14==12) (.call (ku E0.N 0 99) λx8=>.cs x8 (.k3 3<|.call (ku E0.M 0 99) λx11=>.kg 3<|.rt x11)<|.k4 3<|.rt false)<|.br (v14==13) (.call (ku E0.N (-99) 99) λx14=>.cs x14 (.k3 4<|.call (ku E0.M (-99) 99) λx17=>.kg 4<|.rt x17)<|.k4 4<|.rt false)<|.rt true
def tg(E0:af)(v14:Int)(v27:Bool):LT mZ Bool:=
.br v27 (.call (Ee E0.Sub) λx2=>.rt x2)<|.br (v14==6) (.call (ku E0.N 0 31) λx5=>.rt x5)<|.br (v14==7) (.call (ku E0.N 1 31) λx8=>.rt x8)<|.br (v14==8) (.j0 (.L2 E0 v14 (v14==8)) (tf E0 v14 (v14==8)))<|.j0 (.L2 E0 v14 (v14==9)) (tf E0 v14 (v14==9))
def th(E0:af)(v14:Int)(v15:Bool):LT mZ Bool:=
.br v15 (.call (ku E0.N 1 63) λx2=>.cs x2 (.k5 1<|.rt ((aQ .and .i64 E0.N 6)==0))<|.k5 1<|.rt false)<|.br (v14==4) (.j0 (.L1 E0 v14 (v14==4)) (tg E0 v14 (v14==4)))<|.j0 (.L1 E0 v14 (v14==5)) (tg E0 v14 (v14==5))
def UK(a0:af):LT mZ Bool:=
.lb 1001<|.call (ku a0.Kind 1 14) λx1=>.cs (!x1) (.k5 0<|.kn [0]<|.rt false)<|.k3 0<|.call (ZkY a0) λx4=>.k2 0<|.br (!(aF (ay a0) (ay x4))) (.rt false)<|.br (a0.Kind==2) (.jn 0 (.L0 a0 a0.Kind (a0.Kind==2)) [.relab 1001 3000] (th a0 a0.Kind (a0.Kind==2)))<|.jn 0 (.L0 a0 a0.Kind (a0.Kind==3)) [.relab 1001 3000] (th a0 a0.Kind (a0.Kind==3))
def Xr:LF mZ Bool :=.m0 159 [.t 2] wB λ|.L0 E0 v14 v15=>([1,1,0,1,4,1],⟨74,[(1,.bptr 3000 0),(14,wI v14),(15,wB v15)],[(3000,.box (bx (ay E0)))]⟩,th E0 v14 v15)|.L1 E0 v14 v27=>([1,1,0,1,4,1,3,1],⟨74,[(1,.bptr 3000 0),(14,wI v14),(27,wB v27)],[(3000,.box (bx (ay E0)))]⟩,tg E0 v14 v27)|.L2 E0 v14 v43=>([1,1,0,1,4,1,3,1,3,1,3,1,3,1],⟨74,[(1,.bptr 3000 0),(14,wI v14),(43,wB v43)],[(3000,.box (bx (ay E0)))]⟩,tf E0 v14 v43)
def UJ:=λa0=>Xr.run (UK a0)
def ZkZ(a0){r}(h:UJ a0=some r):Fn PR 159 [wA (ay a0)] (wB r):=Xr.fn h
def UL(a0:By)(a1:By):LT Empty Bool:=
.rt (!(Op.bytesLess a0 a1))
def Xs:LF Empty Bool :=.z0 206 [.t 3] wB
def Z1q:=λa0 a1=>Xs.run (UL a0 a1)
def Zk0(a0)(a1){r}(h:Z1q a0 a1=some r):Fn PR 206 [wS a0,.vptr (cS a1)] (wB r):=Xs.fn h
inductive ti where
 |L0 (v0:Bys) (w1_0:By) (v7:Int) (v8:Int)
def UO(v0:Bys)(w1_0:By)(v7:Int)(v8:Int):LT ti Int:=
.br (decide (v8<v7)) (.idx cS v0 v8 λx2=>.call (Zk0 x2 w1_0) λx4=>.br x4 (.rt v8)<|.g0 (.L0 v0 w1_0 v7 (IntKind.wrap .i64 (v8+1))))<|.rt (-1)
def UN(a0:Bys)(a1:By):LT ti Int:=
.len cS a0<|.g0 (.L0 a0 a1 (a0.length:Int) 0)
def Dx:LF ti Int :=.m0 205 [.t 4] wI λ|.L0 v0 w1_0 v7 v8=>([1,0,1,4],⟨19,[(0,wL cS v0),(1,.fn 206 [.vptr (cS w1_0)]),(7,wI v7),(8,wI v8)],[]⟩,UO v0 w1_0 v7 v8)
def UM:=λa0 a1=>Dx.run (UN a0 a1)
def Zk1(a0)(a1){r}(h:UM a0 a1=some r):Fn PR 205 [wL cS a0,.fn 206 [.vptr (cS a1)]] (wI r):=Dx.fn h
def UQ(b0:Bys)(a1:Int)(b1:Bys):Option (Bys):=ins? 16 b0 a1 b1
def Xt(b0)(a1)(b1){r}(h:UQ b0 a1 b1=some r):FnG PR 207 [(0,wR cS 1 b0),(1,wR cS 1 b1)] [wO cS 0 b0,wI a1,wO cS 1 b1] [(5000,wR cS 1 r)] (wO cS 5000 r):=ZkB.okO (λx=>⟨_,rfl⟩) b0 a1 b1 h
def US(a0:aI)(a1:By):LT Empty aI:=
.lb 1002<|.lb 1003<|.lb 1004<|.callF (zn a0.Subs) 90000 λx1=>.call (Ee a1) λx3=>.cs (!x3) (.k4 0<|.b5 true<|.kn [0]<|.ret (⟨a0.Super,a0.Types,x1⟩:aI) [.relab 95000 5002])<|.k3 0<|.rl cS x1<|.call (Z94 (⟨a0.Super,a0.Types,x1⟩:aI) a1) λx6=>.kg 0<|.cs x6 (.k5 1<|.kn [0]<|.ret (⟨a0.Super,a0.Types,x1⟩:aI) [.relab 95000 5002])<|.k3 1<|.lenO cS x1<|.k2 1<|.br (decide ((x1.length:Int)>=4)) (.ret (⟨a0.Super,a0.Types,x1⟩:aI) [.relab 95000 5002])<|.rl cS x1<|.call (Zk1 x1 a1) λx10=>.br (decide (x10<0)) (.lenO cS x1<|.lb 1038<|.callU (Xt x1 (x1.length:Int) [a1]) [95000,1038] 400000 λx13=>.ret (⟨a0.Super,a0.Types,x13⟩:aI) [.relab 405000 5002])<|.lb 1038<|.callU (Xt x1 x10 [a1]) [95000,1038] 400000 λx15=>.ret (⟨a0.Super,a0.Types,x15⟩:aI) [.relab 405000 5002]
def Xu:LF Empty aI :=.z 160 [.c 4 63 true 3] true (λr=>[(5002,wR cS 1 r.Subs)]) (λr=>(.agg [wI r.Super,wI r.Types,wO cS 5002 r.Subs]))
def UR:=λa0 a1=>Xu.run (US a0 a1)
def Zk2(a0)(a1){r}(h:UR a0 a1=some r):FnG PR 160 [] [wA (hH a0),wS a1] [(5002,wR cS 1 r.Subs)] (.agg [wI r.Super,wI r.Types,wO cS 5002 r.Subs]):=Xu.fn h
def UT(a0:ae)(a1:af)(a2:Int)(a3:Int):LT Empty ae:=
.lb 1004<|.lb 1005<|.lb 1008<|.callF (ZkX a0) 110000 λx1=>.call (ZkZ a1) λx3=>.br (!x3) (.ret x1 [.relab 115011 5011,.relab 115015 5015])<|.br (a1.Kind==1) (.ret (⟨x1.Name,x1.Cost,x1.Colors,x1.Line,x1.Power,x1.Tough,x1.Keys,x1.Abilities,a2⟩:ae) [.relab 115011 5011,.relab 115015 5015])<|.br (a1.Kind==2) (.ret (⟨x1.Name,x1.Cost,x1.Colors,(⟨x1.Line.Super,a1.N,x1.Line.Subs⟩:aI),x1.Power,x1.Tough,x1.Keys,x1.Abilities,x1.Control⟩:ae) [.relab 115011 5011,.relab 115015 5015])<|.br (a1.Kind==3) (.ret (⟨x1.Name,x1.Cost,x1.Colors,(⟨x1.Line.Super,aQ .or .i64 x1.Line.Types a1.N,x1.Line.Subs⟩:aI),x1.Power,x1.Tough,x1.Keys,x1.Abilities,x1.Control⟩:ae) [.relab 115011 5011,.relab 115015 5015])<|.br (a1.Kind==4) (.lb 1041<|.ret (⟨x1.Name,x1.Cost,x1.Colors,(⟨x1.Line.Super,x1.Line.Types,[a1.Sub]⟩:aI),x1.Power,x1.Tough,x1.Keys,x1.Abilities,x1.Control⟩:ae) [.relab 1041 5011,.relab 115015 5015])<|.br (a1.Kind==5) (.rl cS x1.Line.Subs<|.callS (Zk2 x1.Line a1.Sub) 510000 (λ_=>⟨rfl,ou cS (λ_=>rfl) _,ab⟩) λx11=>.ret (⟨x1.Name,x1.Cost,x1.Colors,x11,x1.Power,x1.Tough,x1.Keys,x1.Abilities,x1.Control⟩:ae) [.relab 515002 5011,.relab 115015 5015])<|.br (a1.Kind==6) (.ret (⟨x1.Name,x1.Cost,a1.N,x1.Line,x1.Power,x1.Tough,x1.Keys,x1.Abilities,x1.Control⟩:ae) [.relab 115011 5011,.relab 115015 5015])<|.br (a1.Kind==7) (.ret (⟨x1.Name,x1.Cost,aQ .or .i64 x1.Colors a1.N,x1.Line,x1.Power,x1.Tough,x1.Keys,x1.Abilities,x1.Control⟩:ae) [.relab 115011 5011,.relab 115015 5015])<|.br (a1.Kind==8) (.ret (⟨x1.Name,x1.Cost,x1.Colors,x1.Line,x1.Power,x1.Tough,aQ .or .i64 x1.Keys a1.N,x1.Abilities,x1.Control⟩:ae) [.relab 115011 5011,.relab 115015 5015])<|.br (a1.Kind==9) (.ret (⟨x1.Name,x1.Cost,x1.Colors,x1.Line,x1.Power,x1.Tough,aQ .andNot .i64 x1.Keys a1.N,x1.Abilities,x1.Control⟩:ae) [.relab 115011 5011,.relab 115015 5015])<|.br (a1.Kind==10) (.ret (⟨x1.Name,x1.Cost,x1.Colors,x1.Line,x1.Power,x1.Tough,0,([]:List ar),x1.Control⟩:ae) [.relab 115011 5011,.ownb 1008 15 5015 72])<|.br (a1.Kind==11) (.call (jm a3) λx19=>.call (jm a3) λx21=>.ret (⟨x1.Name,x1.Cost,x1.Colors,x1.Line,x19,x21,x1.Keys,x1.Abilities,x1.Control⟩:ae) [.relab 115011 5011,.relab 115015 5015])<|.br (a1.Kind==12) (.ret (⟨x1.Name,x1.Cost,x1.Colors,x1.Line,a1.N,a1.M,x1.Keys,x1.Abilities,x1.Control⟩:ae) [.relab 115011 5011,.relab 115015 5015])<|.br (a1.Kind==13) (.call (tV x1.Power a1.N) λx25=>.call (tV x1.Tough a1.M) λx27=>.ret (⟨x1.Name,x1.Cost,x1.Colors,x1.Line,x25,x27,x1.Keys,x1.Abilities,x1.Control⟩:ae) [.relab 115011 5011,.relab 115015 5015])<|.br (a1.Kind==14) (.ret (⟨x1.Name,x1.Cost,x1.Colors,x1.Line,x1.Tough,x1.Power,x1.Keys,x1.Abilities,x1.Control⟩:ae) [.relab 115011 5011,.relab 115015 5015])<|.ret x1 [.relab 115011 5011,.relab 115015 5015]
def Xv:LF Empty ae :=.z 106 [.c 8 66 true 17] true (λr=>[(5011,wR cS 1 r.Line.Subs),(5015,wR aC 72 r.Abilities)]) (λr=>(.agg (tm2 r 5000)))
def Dy:=λa0 a1 a2 a3=>Xv.run (UT a0 a1 a2 a3)
def Zk3(a0)(a1)(a2)(a3){r}(h:Dy a0 a1 a2 a3=some r):FnG PR 106 [] [wA (av a0),wA (ay a1),wI a2,wI a3] [(5011,wR cS 1 r.Line.Subs),(5015,wR aC 72 r.Abilities)] (.agg (tm2 r 5000)):=Xv.fn h
def Zk4(a0:ae)(a1:af)(a2:Int)(a3:Int){r:ae}(h:Dy a0 a1 a2 a3=some r):Fn PR 106 [wA (av a0),wA (ay a1),wI a2,wI a3] (wA (av r)):=FnG.frozen (C:=LT.RL cS r.Line.Subs/\LT.RL aC r.Abilities/\True) (Zk3 a0 a1 a2 a3 h) ⟨rfl,rfl,ab⟩ bp
inductive tj where
 |L0 (v3:List Int) (v6:List Int) (v7:Int) (v8:Int)
def UU(v3:List Int)(v6:List Int)(v7:Int)(v8:Int):LT tj (List Int):=
.br (decide (v8<v7)) (.idx (cI .i64) v6 v8 λx2=>.cs (decide (x2>=0)) (.k3 1<|.rl (cI .i64) v3<|.call (Xb v3 x2) λx5=>.k2 1<|.br (!x5) (.dr [.lit]<|.apR (cI .i64) 8 v3 [x2] λx8=>.g0 (.L0 x8 v6 v7 (IntKind.wrap .i64 (v8+1))))<|.g0 (.L0 v3 v6 v7 (IntKind.wrap .i64 (v8+1))))<|.k5 1<|.kn [0]<|.g0 (.L0 v3 v6 v7 (IntKind.wrap .i64 (v8+1))))<|.ret v3 [.relab 20003 5000]
def Z1r(a0:List Int):LT tj (List Int):=
.len (cI .i64) a0<|.go (.L0 ([]:List Int) a0 (a0.length:Int) 0) [.own 3 20003 1]
def DA:LF tj (List Int) :=.m 145 [.t 2] true (λr=>[(5000,wR (cI .i64) 1 r)]) (λr=>(wO (cI .i64) 5000 r)) λ|.L0 v3 v6 v7 v8=>([1,1,0,1,4],⟨26,[(3,wO (cI .i64) 20003 v3),(6,wL (cI .i64) v6),(7,wI v7),(8,wI v8)],[(20003,wR (cI .i64) 1 v3)]⟩,UU v3 v6 v7 v8)
def Dz:=λa0=>DA.run (Z1r a0)
def Zk5(a0){r}(h:Dz a0=some r):FnG PR 145 [] [wL (cI .i64) a0] [(5000,wR (cI .i64) 1 r)] (wO (cI .i64) 5000 r):=DA.fn h
def Zk6(a0:List Int){r:List Int}(h:Dz a0=some r):Fn PR 145 [wL (cI .i64) a0] (wL (cI .i64) r):=FnG.frozen (C:=LT.RL (cI .i64) r/\True) (Zk5 a0 h) ⟨rfl,ab⟩ bp
def Z6f(a0:List (List Bool))(a1:Int)(a2:Int):LT Empty Bool:=
.cs (decide (a1>=0)) (.k3 0<|.cs (decide (a2>=0)) (.k3 1<|.len (cL cB) a0<|.k2 1<|.cs (decide (a1<(a0.length:Int))) (.k4 2<|.idx (cL cB) a0 a1 λx5=>.k2 2<|.len cB x5<|.k2 2<|.cs (decide (a2<(x5.length:Int))) (.k3 3<|.ag (cL cB) x5 0<|.k3 3<|.idx cB x5 a2 λx9=>.k2 3<|.rt x9)<|.k8 3<|.rt false)<|.k8 2<|.b8 false<|.rt false)<|.k5 1<|.b16 false<|.rt false)<|.k3 0<|.b16 false<|.b5 false<|.rt false
def Z6g:LF Empty Bool :=.z0 149 [.t 6] wB
def UV:=λa0 a1 a2=>Z6g.run (Z6f a0 a1 a2)
def Z3o(a0)(a1)(a2){r}(h:UV a0 a1 a2=some r):Fn PR 149 [wL (cL cB) a0,wI a1,wI a2] (wB r):=Z6g.fn h
inductive kt where
 |L0 (v1:List (List Bool)) (E0:List Int) (v5:Int) (E1:List (List Bool)) (v17:Int) (v18:Int)
 |L1 (v1:List (List Bool)) (E0:List Int) (v5:Int) (E1:List (List Bool)) (v7:Int) (v17:Int) (v18:Int) (v26:Int) (v27:Int)
 |L2 (E0:List Int) (v5:Int) (E1:List (List Bool)) (v48:Int) (v49:Int)
 |L3 (E0:List Int) (v5:Int) (E1:List (List Bool)) (v9:Int) (v48:Int) (v49:Int) (v52:Int) (v53:Int)
 |L4 (E0:List Int) (v5:Int) (E1:List (List Bool)) (v9:Int) (v10:Int) (v48:Int) (v49:Int) (v52:Int) (v53:Int) (v56:Int) (v57:Int)
def Z6h(v1:List (List Bool))(E0:List Int)(v5:Int)(E1:List (List Bool))(v17:Int)(v18:Int):LT kt ((List Int)×(List (List Bool))):=
.br (decide (v18<v17)) (.mk cB 1024 1 false v5 v5 λx2=>.idM cB E1 v18 λx4=>.stR cB E1 v18 x2 0 λx6=>.dr [.ahead 26,.relen 40100,.stop]<|.us [2]<|.us [2]<|.g0 (.L1 v1 E0 v5 x6 v18 v17 v18 v5 0))<|.g0 (.L2 E0 v5 E1 v5 0)
def Z6i(v1:List (List Bool))(E0:List Int)(v5:Int)(E1:List (List Bool))(v7:Int)(v17:Int)(v18:Int)(v26:Int)(v27:Int):LT kt ((List Int)×(List (List Bool))):=
.br (decide (v27<v26)) (.idM cB E1 v7 λx2=>.ldM cB E1 0<|.idx (cI .i64) E0 v7 λx4=>.idx (cI .i64) E0 v27 λx6=>.call (Z3o v1 x4 x6) λx8=>.idN cB E1 x2 v27 0 λx10=>.stM cB E1 v7 x2 v27 x8 0 8 λx12=>.dr [.ahead 46,.relen 40100,.stop]<|.us [10]<|.us [10]<|.g0 (.L1 v1 E0 v5 x12 v7 v17 v18 v26 (IntKind.wrap .i64 (v27+1))))<|.g0 (.L0 v1 E0 v5 E1 v17 (IntKind.wrap .i64 (v18+1)))
def Z6j(E0:List Int)(v5:Int)(E1:List (List Bool))(v48:Int)(v49:Int):LT kt ((List Int)×(List (List Bool))):=
.br (decide (v49<v48)) (.g0 (.L3 E0 v5 E1 v49 v48 v49 v5 0))<|.rl (cL cB) E1<|.ret (E0,E1) [.frz 3000,.frz 40100,.frz 3001]
def Z6k(E0:List Int)(v5:Int)(E1:List (List Bool))(v9:Int)(v48:Int)(v49:Int)(v52:Int)(v53:Int):LT kt ((List Int)×(List (List Bool))):=
.br (decide (v53<v52)) (.g0 (.L4 E0 v5 E1 v9 v53 v48 v49 v52 v53 v5 0))<|.g0 (.L2 E0 v5 E1 v48 (IntKind.wrap .i64 (v49+1)))
def Z6l(E0:List Int)(v5:Int)(E1:List (List Bool))(v9:Int)(v10:Int)(v48:Int)(v49:Int)(v52:Int)(v53:Int)(v56:Int)(v57:Int):LT kt ((List Int)×(List (List Bool))):=
.br (decide (v57<v56)) (.idM cB E1 v10 λx2=>.ldM cB E1 0<|.idN cB E1 x2 v9 0 λx4=>.ldN cB E1 x2 x4 1 3<|.cs x4 (.k3 1<|.idM cB E1 v9 λx7=>.kg 1<|.ldM cB E1 4<|.k2 1<|.idN cB E1 x7 v57 4 λx9=>.kg 1<|.ldN cB E1 x7 x9 5 7<|.kg 1<|.br x9 (.idM cB E1 v10 λx12=>.ldM cB E1 8<|.idN cB E1 x12 v57 8 λx14=>.stM cB E1 v10 x12 v57 true 8 10 λx16=>.dr [.ahead 82,.relen 40100,.stop]<|.us [12]<|.us [12]<|.us [12]<|.us [12]<|.g0 (.L4 E0 v5 x16 v9 v10 v48 v49 v52 v53 v56 (IntKind.wrap .i64 (v57+1))))<|.g0 (.L4 E0 v5 E1 v9 v10 v48 v49 v52 v53 v56 (IntKind.wrap .i64 (v57+1))))<|.k8 1<|.kn [0]<|.g0 (.L4 E0 v5 E1 v9 v10 v48 v49 v52 v53 v56 (IntKind.wrap .i64 (v57+1))))<|.g0 (.L3 E0 v5 E1 v9 v48 v49 v52 (IntKind.wrap .i64 (v53+1)))
def Z97(a0:List Int)(a1:List (List Bool)):LT kt ((List Int)×(List (List Bool))):=
.lb 1002<|.len (cI .i64) a0<|.mkE cB 1015 24 (a0.length:Int) (a0.length:Int) λx2=>.dr [.ahead 6,.tomat 1015,.stop]<|.us [0]<|.lb 1006<|.lenO (cL cB) x2<|.go (.L0 a1 a0 (a0.length:Int) x2 (x2.length:Int) 0) [.relab 1002 3000,.relab 1006 3001,.relab 1015 40100]
def m6:LF kt ((List Int)×(List (List Bool))) :=.m0 146 [.t 4] (λr=>(.fn 192 [.vptr ((cL (cI .i64)) r.1),.vptr ((cL (cL cB)) r.2)])) λ|.L0 v1 E0 v5 E1 v17 v18=>([1,1,1,0,1,4],⟨86,[(1,wL (cL cB) v1),(2,.bptr 3000 0),(5,wI v5),(6,.bptr 3001 0),(17,wI v17),(18,wI v18)],[(3000,.box (bx ((cL (cI .i64)) E0))),(3001,.box [wM (cL cB) 40100 E1]),(40100,wT (cL cB) E1)]⟩,Z6h v1 E0 v5 E1 v17 v18)|.L1 v1 E0 v5 E1 v7 v17 v18 v26 v27=>([1,1,1,0,1,4,5,1,1,0,4,1,1,1,4],⟨86,[(1,wL (cL cB) v1),(2,.bptr 3000 0),(5,wI v5),(6,.bptr 3001 0),(7,wI v7),(17,wI v17),(18,wI v18),(26,wI v26),(27,wI v27)],[(3000,.box (bx ((cL (cI .i64)) E0))),(3001,.box [wM (cL cB) 40100 E1]),(40100,wT (cL cB) E1)]⟩,Z6i v1 E0 v5 E1 v7 v17 v18 v26 v27)|.L2 E0 v5 E1 v48 v49=>([1,1,1,1,0,1,4],⟨86,[(2,.bptr 3000 0),(5,wI v5),(6,.bptr 3001 0),(48,wI v48),(49,wI v49)],[(3000,.box (bx ((cL (cI .i64)) E0))),(3001,.box [wM (cL cB) 40100 E1]),(40100,wT (cL cB) E1)]⟩,Z6j E0 v5 E1 v48 v49)|.L3 E0 v5 E1 v9 v48 v49 v52 v53=>([1,1,1,1,0,1,4,5,1,1,0,4,1,1,4],⟨86,[(2,.bptr 3000 0),(5,wI v5),(6,.bptr 3001 0),(9,wI v9),(48,wI v48),(49,wI v49),(52,wI v52),(53,wI v53)],[(3000,.box (bx ((cL (cI .i64)) E0))),(3001,.box [wM (cL cB) 40100 E1]),(40100,wT (cL cB) E1)]⟩,Z6k E0 v5 E1 v9 v48 v49 v52 v53)|.L4 E0 v5 E1 v9 v10 v48 v49 v52 v53 v56 v57=>([1,1,1,1,0,1,4,5,1,1,0,4,1,1,4,5,1,1,0,4,1,1,4],⟨86,[(2,.bptr 3000 0),(5,wI v5),(6,.bptr 3001 0),(9,wI v9),(10,wI v10),(48,wI v48),(49,wI v49),(52,wI v52),(53,wI v53),(56,wI v56),(57,wI v57)],[(3000,.box (bx ((cL (cI .i64)) E0))),(3001,.box [wM (cL cB) 40100 E1]),(40100,wT (cL cB) E1)]⟩,Z6l E0 v5 E1 v9 v10 v48 v49 v52 v53 v56 v57)
def UW:=λa0 a1=>m6.run (Z97 a0 a1)
def Zk7(a0)(a1){r}(h:UW a0 a1=some r):Fn PR 146 [wL (cI .i64) a0,wL (cL cB) a1] (.fn 192 [.vptr ((cL (cI .i64)) r.1),.vptr ((cL (cL cB)) r.2)]):=m6.fn h
def UY(a0:Int)(a1:Int)(a2:List Int)(a3:List (List Bool)):LT Empty Bool:=
.call (Eb a2 a0) λx1=>.call (Eb a2 a1) λx3=>.cs (decide (x1>=0)) (.k3 0<|.cs (decide (x3>=0)) (.k3 1<|.idx (cL cB) a3 x1 λx7=>.k3 1<|.idx cB x7 x3 λx9=>.k2 1<|.rt x9)<|.k8 1<|.rt false)<|.k3 0<|.b8 false<|.rt false
def Xw:LF Empty Bool :=.z0 192 [.t 6] wB
def UX:=λa0 a1 a2 a3=>Xw.run (UY a0 a1 a2 a3)
def Z14(a0)(a1)(a2)(a3){r}(h:UX a0 a1 a2 a3=some r):Fn PR 192 [wI a0,wI a1,.vptr ((cL (cI .i64)) a2),.vptr ((cL (cL cB)) a3)] (wB r):=Xw.fn h
def U0(a0:Int)(b0:Int)(b1:List (List Bool))(b2:(List Int)×(List (List Bool))):LT Empty Bool:=
.cs (a0 != b0) (.k4 0<|.call (Z3o b1 b0 a0) λx2=>.kg 0<|.cs x2 (.k4 1<|.call (Z14 a0 b0 b2.1 b2.2) λx5=>.k2 1<|.rt (!x5))<|.k5 1<|.kg 1<|.rt false)<|.k5 0<|.b5 false<|.kb false<|.rt false
def Xx(b0:Int)(b1:List (List Bool))(b2:(List Int)×(List (List Bool))):LF Empty Bool :=.z 148 [.t 5] true (λr=>[(0,.box (bx ((cI .i64) b0))),(1,.box (bx ((cL (cL cB)) b1))),(2,.box [.fn 192 [.vptr ((cL (cI .i64)) b2.1),.vptr ((cL (cL cB)) b2.2)]])]) (λr=>(wB r))
def UZ(a0:Int)(b0:Int)(b1:List (List Bool))(b2:(List Int)×(List (List Bool))):Option Bool:=(Xx b0 b1 b2).run (U0 a0 b0 b1 b2)
def Zk8(a0:Int)(b0:Int)(b1:List (List Bool))(b2:(List Int)×(List (List Bool))){r:Bool}(h:UZ a0 b0 b1 b2=some r):FnG PR 148 [(0,.box (bx ((cI .i64) b0))),(1,.box (bx ((cL (cL cB)) b1))),(2,.box [.fn 192 [.vptr ((cL (cI .i64)) b2.1),.vptr ((cL (cL cB)) b2.2)]])] [wI a0,.bptr 0 0,.bptr 1 0,.bptr 2 0] [(0,.box (bx ((cI .i64) b0))),(1,.box (bx ((cL (cL cB)) b1))),(2,.box [.fn 192 [.vptr ((cL (cI .i64)) b2.1),.vptr ((cL (cL cB)) b2.2)]])] (wB r):=(Xx b0 b1 b2).fn h
inductive tk where
 |L0 (v0:List Int) (c0:Int) (c1:List (List Bool)) (c2:(List Int)×(List (List Bool))) (v7:Int) (v8:Int)
def U3(v0:List Int)(c0:Int)(c1:List (List Bool))(c2:(List Int)×(List (List Bool)))(v7:Int)(v8:Int):LT tk (Int×Int×(List (List Bool))×((List Int)×(List (List Bool)))):=
.br (decide (v8<v7)) (.idx (cI .i64) v0 v8 λx2=>.callO (Zk8 x2 c0 c1 c2) [0,1,2] 170000 (λx=>[]) λx4=>.br x4 (.rt (v8,c0,c1,c2))<|.g0 (.L0 v0 c0 c1 c2 v7 (IntKind.wrap .i64 (v8+1))))<|.rt ((-1),c0,c1,c2)
def U2(a0:List Int)(b0:Int)(b1:List (List Bool))(b2:(List Int)×(List (List Bool))):LT tk (Int×Int×(List (List Bool))×((List Int)×(List (List Bool)))):=
.len (cI .i64) a0<|.g0 (.L0 a0 b0 b1 b2 (a0.length:Int) 0)
def DB:LF tk (Int×Int×(List (List Bool))×((List Int)×(List (List Bool)))) :=.m 107 [.t 4] true (λr=>[(0,.box (bx ((cI .i64) r.2.1))),(1,.box (bx ((cL (cL cB)) r.2.2.1))),(2,.box [.fn 192 [.vptr ((cL (cI .i64)) r.2.2.2.1),.vptr ((cL (cL cB)) r.2.2.2.2)]])]) (λr=>(wI r.1)) λ|.L0 v0 c0 c1 c2 v7 v8=>([1,0,1,4],⟨19,[(0,wL (cI .i64) v0),(1,.fn 148 [.bptr 0 0,.bptr 1 0,.bptr 2 0]),(7,wI v7),(8,wI v8)],[(0,.box (bx ((cI .i64) c0))),(1,.box (bx ((cL (cL cB)) c1))),(2,.box [.fn 192 [.vptr ((cL (cI .i64)) c2.1),.vptr ((cL (cL cB)) c2.2)]])]⟩,U3 v0 c0 c1 c2 v7 v8)
def U1:=λa0 b0 b1 b2=>DB.run (U2 a0 b0 b1 b2)
def Zk9(a0)(b0)(b1)(b2){r}(h:U1 a0 b0 b1 b2=some r):FnG PR 107 [(0,.box (bx ((cI .i64) b0))),(1,.box (bx ((cL (cL cB)) b1))),(2,.box [.fn 192 [.vptr ((cL (cI .i64)) b2.1),.vptr ((cL (cL cB)) b2.2)]])] [wL (cI .i64) a0,.fn 148 [.bptr 0 0,.bptr 1 0,.bptr 2 0]] [(0,.box (bx ((cI .i64) r.2.1))),(1,.box (bx ((cL (cL cB)) r.2.2.1))),(2,.box [.fn 192 [.vptr ((cL (cI .i64)) r.2.2.2.1),.vptr ((cL (cL cB)) r.2.2.2.2)]])] (wI r.1):=DB.fn h
def U5(a0:List Int)(b0:Int)(b1:List (List Bool))(b2:(List Int)×(List (List Bool))):LT Empty (Bool×Int×(List (List Bool))×((List Int)×(List (List Bool)))):=
.callU (Zk9 a0 b0 b1 b2) [0,1,2] 80000 λx1=>.rt (decide (x1.1>=0),x1.2.1,x1.2.2.1,x1.2.2.2)
def Xy:LF Empty (Bool×Int×(List (List Bool))×((List Int)×(List (List Bool)))) :=.z 147 [.t 4] true (λr=>[(0,.box (bx ((cI .i64) r.2.1))),(1,.box (bx ((cL (cL cB)) r.2.2.1))),(2,.box [.fn 192 [.vptr ((cL (cI .i64)) r.2.2.2.1),.vptr ((cL (cL cB)) r.2.2.2.2)]])]) (λr=>(wB r.1))
def U4:=λa0 b0 b1 b2=>Xy.run (U5 a0 b0 b1 b2)
def Zla(a0)(b0)(b1)(b2){r}(h:U4 a0 b0 b1 b2=some r):FnG PR 147 [(0,.box (bx ((cI .i64) b0))),(1,.box (bx ((cL (cL cB)) b1))),(2,.box [.fn 192 [.vptr ((cL (cI .i64)) b2.1),.vptr ((cL (cL cB)) b2.2)]])] [wL (cI .i64) a0,.fn 148 [.bptr 0 0,.bptr 1 0,.bptr 2 0]] [(0,.box (bx ((cI .i64) r.2.1))),(1,.box (bx ((cL (cL cB)) r.2.2.1))),(2,.box [.fn 192 [.vptr ((cL (cI .i64)) r.2.2.2.1),.vptr ((cL (cL cB)) r.2.2.2.2)]])] (wB r.1):=Xy.fn h
inductive tl where
 |L0 (E0:List (List Bool)) (v5:List Int) (E1:(List Int)×(List (List Bool))) (v7:List Int) (v16:List Int) (v17:Int) (v18:Int)
def Z6m(E0:List (List Bool))(v5:List Int)(E1:(List Int)×(List (List Bool)))(v7:List Int)(v16:List Int)(v17:Int)(v18:Int):LT tl (List Int):=
.br (decide (v18<v17)) (.idx (cI .i64) v16 v18 λx2=>.lb 1009<|.callU (Zla v5 x2 E0 E1) [1009,3000,3001] 250000 λx4=>.br (!x4.1) (.dr [.lit]<|.apR (cI .i64) 8 v7 [x4.2.1] λx7=>.g0 (.L0 x4.2.2.1 v5 x4.2.2.2 x7 v16 v17 (IntKind.wrap .i64 (v18+1))))<|.g0 (.L0 x4.2.2.1 v5 x4.2.2.2 v7 v16 v17 (IntKind.wrap .i64 (v18+1))))<|.ret v7 [.relab 20007 5000]
def Z98(a0:List Int)(a1:List (List Bool)):LT tl (List Int):=
.lb 1003<|.call (Zk6 a0) λx1=>.call (Zk7 x1 a1) λx3=>.lb 1006<|.len (cI .i64) x1<|.go (.L0 a1 x1 x3 ([]:List Int) x1 (x1.length:Int) 0) [.relab 1003 3000,.relab 1006 3001,.own 7 20007 1]
def DC:LF tl (List Int) :=.m 96 [.t 4] true (λr=>[(5000,wR (cI .i64) 1 r)]) (λr=>(wO (cI .i64) 5000 r)) λ|.L0 E0 v5 E1 v7 v16 v17 v18=>([1,1,1,1,0,1,4],⟨33,[(3,.bptr 3000 0),(5,wL (cI .i64) v5),(6,.bptr 3001 0),(7,wO (cI .i64) 20007 v7),(16,wL (cI .i64) v16),(17,wI v17),(18,wI v18)],[(3000,.box (bx ((cL (cL cB)) E0))),(3001,.box [.fn 192 [.vptr ((cL (cI .i64)) E1.1),.vptr ((cL (cL cB)) E1.2)]]),(20007,wR (cI .i64) 1 v7)]⟩,Z6m E0 v5 E1 v7 v16 v17 v18)
def Z3p:=λa0 a1=>DC.run (Z98 a0 a1)
def Zlb(a0)(a1){r}(h:Z3p a0 a1=some r):FnG PR 96 [] [wL (cI .i64) a0,wL (cL cB) a1] [(5000,wR (cI .i64) 1 r)] (wO (cI .i64) 5000 r):=DC.fn h
def Zlc(a0:List Int)(a1:List (List Bool)){r:List Int}(h:Z3p a0 a1=some r):Fn PR 96 [wL (cI .i64) a0,wL (cL cB) a1] (wL (cI .i64) r):=FnG.frozen (C:=LT.RL (cI .i64) r/\True) (Zlb a0 a1 h) ⟨rfl,ab⟩ bp
def Z99(a0:List Int)(a1:Int):LT Empty Int:=
.len (cI .i64) a0<|.br (decide (a1<(a0.length:Int))) (.idx (cI .i64) a0 a1 λx3=>.rt x3)<|.rt 0
def Xz:LF Empty Int :=.z0 97 [.t 4] wI
def U6:=λa0 a1=>Xz.run (Z99 a0 a1)
def Z6n(a0)(a1){r}(h:U6 a0 a1=some r):Fn PR 97 [wL (cI .i64) a0,wI a1] (wI r):=Xz.fn h
inductive tn where
 |L0 (v1:List Int) (v7:Int) (v14:List Int) (v15:Int) (v16:Int)
def U9(v1:List Int)(v7:Int)(v14:List Int)(v15:Int)(v16:Int):LT tn Int:=
.br (decide (v16<v15)) (.idx (cI .i64) v14 v16 λx2=>.br (decide (v7<0)) (.g0 (.L0 v1 x2 v14 v15 (IntKind.wrap .i64 (v16+1))))<|.call (Z6n v1 x2) λx7=>.call (Z6n v1 v7) λx9=>.cs (decide (x7<x9)) (.k5 2<|.kg 2<|.kn [0]<|.g0 (.L0 v1 x2 v14 v15 (IntKind.wrap .i64 (v16+1))))<|.k4 2<|.cs (x7==x9) (.k3 3<|.kg 2<|.kg 3<|.kg 2<|.br (decide (x2<v7)) (.g0 (.L0 v1 x2 v14 v15 (IntKind.wrap .i64 (v16+1))))<|.g0 (.L0 v1 v7 v14 v15 (IntKind.wrap .i64 (v16+1))))<|.k3 3<|.kg 2<|.kg 3<|.kg 2<|.kn [0]<|.g0 (.L0 v1 v7 v14 v15 (IntKind.wrap .i64 (v16+1))))<|.rt v7
def U8(a0:List Int)(a1:List Int)(a2:List (List Bool)):LT tn Int:=
.call (Zlc a0 a2) λx1=>.len (cI .i64) x1<|.g0 (.L0 a1 (-1) x1 (x1.length:Int) 0)
def Z0a:LF tn Int :=.m0 54 [.t 6] wI λ|.L0 v1 v7 v14 v15 v16=>([1,1,0,1,4],⟨45,[(1,wL (cI .i64) v1),(7,wI v7),(14,wL (cI .i64) v14),(15,wI v15),(16,wI v16)],[]⟩,U9 v1 v7 v14 v15 v16)
def U7:=λa0 a1 a2=>Z0a.run (U8 a0 a1 a2)
def Zld(a0)(a1)(a2){r}(h:U7 a0 a1 a2=some r):Fn PR 54 [wL (cI .i64) a0,wL (cI .i64) a1,wL (cL cB) a2] (wI r):=Z0a.fn h
inductive tp where
 |L0 (c0:ak) (v10:List aj) (v11:Int) (v12:Int)
def DE(c0:ak)(v10:List aj)(v11:Int)(v12:Int):LT tp ak:=
.br (decide (v12<v11)) (.idx aE v10 v12 λx2=>.lb 1003<|.idxR av c0.traits v12 λx4=>.cs (x2.Zone==0) (.k2 1<|.rl av c0.traits<|.kg 1<|.rl av c0.traits<|.kg 1<|.rl av c0.traits<|.kg 1<|.ldR av c0.traits x4 5<|.k3 1<|.br ((aQ .and .i64 x4.Line.Types 1) != 0) (.call (ZkD x2.Counters) λx8=>.rl av c0.traits<|.rl av c0.traits<|.ldR av c0.traits x4 5<|.call (tV x4.Power x8) λx10=>.rl av c0.traits<|.rl av c0.traits<|.ldR av c0.traits x4 5<|.call (tV x4.Tough x8) λx12=>.rl av c0.traits<|.rl av c0.traits<|.setD av c0.traits v12 x4 (⟨x4.Name,x4.Cost,x4.Colors,x4.Line,x10,x4.Tough,x4.Keys,x4.Abilities,x4.Control⟩:ae) 5 12 [.int .i64 x10] rfl λx14=>.us [8]<|.us [8]<|.setE av c0.traits x14 v12 (⟨x4.Name,x4.Cost,x4.Colors,x4.Line,x10,x4.Tough,x4.Keys,x4.Abilities,x4.Control⟩:ae) (⟨((⟨x4.Name,x4.Cost,x4.Colors,x4.Line,x10,x4.Tough,x4.Keys,x4.Abilities,x4.Control⟩:ae)).Name,(⟨(((⟨x4.Name,x4.Cost,x4.Colors,x4.Line,x10,x4.Tough,x4.Keys,x4.Abilities,x4.Control⟩:ae)).Cost).Generic,(((⟨x4.Name,x4.Cost,x4.Colors,x4.Line,x10,x4.Tough,x4.Keys,x4.Abilities,x4.Control⟩:ae)).Cost).X,(((⟨x4.Name,x4.Cost,x4.Colors,x4.Line,x10,x4.Tough,x4.Keys,x4.Abilities,x4.Control⟩:ae)).Cost).Color⟩:aK),((⟨x4.Name,x4.Cost,x4.Colors,x4.Line,x10,x4.Tough,x4.Keys,x4.Abilities,x4.Control⟩:ae)).Colors,((⟨x4.Name,x4.Cost,x4.Colors,x4.Line,x10,x4.Tough,x4.Keys,x4.Abilities,x4.Control⟩:ae)).Line,((⟨x4.Name,x4.Cost,x4.Colors,x4.Line,x10,x4.Tough,x4.Keys,x4.Abilities,x4.Control⟩:ae)).Power,x12,((⟨x4.Name,x4.Cost,x4.Colors,x4.Line,x10,x4.Tough,x4.Keys,x4.Abilities,x4.Control⟩:ae)).Keys,((⟨x4.Name,x4.Cost,x4.Colors,x4.Line,x10,x4.Tough,x4.Keys,x4.Abilities,x4.Control⟩:ae)).Abilities,((⟨x4.Name,x4.Cost,x4.Colors,x4.Line,x10,x4.Tough,x4.Keys,x4.Abilities,x4.Control⟩:ae)).Control⟩:ae) 7 12 13 [.int .i64 x12] rfl λx16=>.dr [.ahead 56,.relen 1,.stop]<|.us [9]<|.us [9]<|.us [9]<|.us [9]<|.us [9]<|.us [9]<|.us [9]<|.us [9]<|.us [9]<|.us [9]<|.us [9]<|.us [9]<|.us [9]<|.us [9]<|.us [9]<|.us [9]<|.us [9]<|.us [9]<|.us [9]<|.us [9]<|.g0 (.L0 (⟨c0.s,c0.forces,x16,c0.dropped,c0.done,c0.hits⟩:ak) v10 v11 (IntKind.wrap .i64 (v12+1))))<|.g0 (.L0 c0 v10 v11 (IntKind.wrap .i64 (v12+1))))<|.k8 1<|.kn [0]<|.g0 (.L0 c0 v10 v11 (IntKind.wrap .i64 (v12+1))))<|.rt c0
def Va(b0:ak):LT tp ak:=
.len aE b0.s.Objects<|.g0 (.L0 b0 b0.s.Objects (b0.s.Objects.length:Int) 0)
def XA:LF tp ak :=.m 52 [] true (λr=>[(0,.box (tm0 r)),(1,wR av 17 r.traits),(2,wR cB 1 r.dropped),(3,wR cB 1 r.done),(4,wR (cL (cI .i64)) 1 r.hits)]) (λr =>.tup []) λ|.L0 c0 v10 v11 v12=>([1,4],⟨57,[(0,.bptr 0 0),(10,wL aE v10),(11,wI v11),(12,wI v12)],[(0,.box (tm0 c0)),(1,wR av 17 c0.traits),(2,wR cB 1 c0.dropped),(3,wR cB 1 c0.done),(4,wR (cL (cI .i64)) 1 c0.hits)]⟩,DE c0 v10 v11 v12)
def DD:=λb0=>XA.run (Va b0)
def Zle(b0){r}(h:DD b0=some r):FnG PR 52 [(0,.box (tm0 b0)),(1,wR av 17 b0.traits),(2,wR cB 1 b0.dropped),(3,wR cB 1 b0.done),(4,wR (cL (cI .i64)) 1 b0.hits)] [.bptr 0 0] [(0,.box (tm0 r)),(1,wR av 17 r.traits),(2,wR cB 1 r.dropped),(3,wR cB 1 r.done),(4,wR (cL (cI .i64)) 1 r.hits)] (.tup []):=XA.fn h
inductive tq where
 |L0 (v1:Int) (v2:Int) (E1:Z2) (v18:List af) (v19:Int) (v20:Int)
def Vd(b0:ak)(v1:Int)(v2:Int)(E1:Z2)(v18:List af)(v19:Int)(v20:Int):LT tq Bool:=
.br (decide (v20<v19)) (.idx ay v18 v20 λx2=>.lb 1009<|.cs (x2.Kind==11) (.k3 1<|.call (xX x2.Kind) λx5=>.k3 1<|.cs (x5==v2) (.k4 2<|.call (W7 x2.Filter v2) λx8=>.kg 2<|.br x8 (.rt true)<|.g0 (.L0 v1 v2 E1 v18 v19 (IntKind.wrap .i64 (v20+1))))<|.k5 2<|.kn [0]<|.g0 (.L0 v1 v2 E1 v18 v19 (IntKind.wrap .i64 (v20+1))))<|.k5 1<|.kg 1<|.b5 false<|.kn [0]<|.g0 (.L0 v1 v2 E1 v18 v19 (IntKind.wrap .i64 (v20+1))))<|.cs (!E1.Fixed) (.k5 1<|.kg 1<|.idxR cB b0.done v1 λx18=>.kg 1<|.ldR cB b0.done x18 2<|.k2 1<|.cs (!x18) (.k3 2<|.cs (v2==4) (.k4 3<|.kg 2<|.kg 3<|.kg 2<|.rt true)<|.k4 3<|.call (W7 E1.Filter v2) λx22=>.kg 2<|.kg 3<|.kg 2<|.rt x22)<|.k5 2<|.rt false)<|.k8 1<|.kg 1<|.b5 false<|.rt false
def Vc(b0:ak)(a1:Int)(a2:Int):LT tq Bool:=
.idx cb b0.forces a1 λx1=>.lb 1007<|.len ay x1.Mods<|.go (.L0 a1 a2 x1 x1.Mods (x1.Mods.length:Int) 0) [.relab 1007 3001]
def DF(b0:ak):LF tq Bool :=.m 98 [.t 6] true (λr=>[(0,.box (tm0 b0)),(1,wR av 17 b0.traits),(2,wR cB 1 b0.dropped),(3,wR cB 1 b0.done),(4,wR (cL (cI .i64)) 1 b0.hits)]) wB λ|.L0 v1 v2 E1 v18 v19 v20=>([1,1,0,1,4],⟨64,[(0,.bptr 0 0),(1,wI v1),(2,wI v2),(7,.bptr 3001 0),(18,wL ay v18),(19,wI v19),(20,wI v20)],[(0,.box (tm0 b0)),(1,wR av 17 b0.traits),(2,wR cB 1 b0.dropped),(3,wR cB 1 b0.done),(4,wR (cL (cI .i64)) 1 b0.hits),(3001,.box (bx (cb E1)))]⟩,Vd b0 v1 v2 E1 v18 v19 v20)
def Vb(b0:ak)(a1:Int)(a2:Int):Option Bool:=(DF b0).run (Vc b0 a1 a2)
def Zlf(b0:ak)(a1:Int)(a2:Int){r:Bool}(h:Vb b0 a1 a2=some r):FnG PR 98 [(0,.box (tm0 b0)),(1,wR av 17 b0.traits),(2,wR cB 1 b0.dropped),(3,wR cB 1 b0.done),(4,wR (cL (cI .i64)) 1 b0.hits)] [.bptr 0 0,wI a1,wI a2] [(0,.box (tm0 b0)),(1,wR av 17 b0.traits),(2,wR cB 1 b0.dropped),(3,wR cB 1 b0.done),(4,wR (cL (cI .i64)) 1 b0.hits)] (wB r):=(DF b0).fn h
def Vg(b0:ak)(a1:Int):LT Empty Bool:=
.idx cb b0.forces a1 λx1=>.lb 1005<|.cs x1.Fixed (.k8 0<|.kn [0]<|.rt true)<|.k5 0<|.kg 0<|.idxR cB b0.done a1 λx4=>.kg 0<|.ldR cB b0.done x4 5<|.kg 0<|.br x4 (.rt true)<|.call (Z93 b0.s x1.Source) λx7=>.cs (decide (x7<0)) (.k8 2<|.kg 2<|.rt true)<|.k5 2<|.kg 2<|.idxR cB b0.dropped x7 λx10=>.kg 2<|.ldR cB b0.dropped x10 8<|.k2 2<|.rt (!x10)
def XB(b0:ak):LF Empty Bool :=.z 151 [.t 4] true (λr=>[(0,.box (tm0 b0)),(1,wR av 17 b0.traits),(2,wR cB 1 b0.dropped),(3,wR cB 1 b0.done),(4,wR (cL (cI .i64)) 1 b0.hits)]) (λr=>(wB r))
def Vf(b0:ak)(a1:Int):Option Bool:=(XB b0).run (Vg b0 a1)
def XC(b0:ak)(a1:Int){r:Bool}(h:Vf b0 a1=some r):FnG PR 151 [(0,.box (tm0 b0)),(1,wR av 17 b0.traits),(2,wR cB 1 b0.dropped),(3,wR cB 1 b0.done),(4,wR (cL (cI .i64)) 1 b0.hits)] [.bptr 0 0,wI a1] [(0,.box (tm0 b0)),(1,wR av 17 b0.traits),(2,wR cB 1 b0.dropped),(3,wR cB 1 b0.done),(4,wR (cL (cI .i64)) 1 b0.hits)] (wB r):=(XB b0).fn h
def Vi(b0:ak)(a1:Int):LT Empty Int:=
.idx cb b0.forces a1 λx1=>.lb 1005<|.call (Z93 b0.s x1.Source) λx3=>.cs (!x1.Fixed) (.k3 0<|.br (decide (x3>=0)) (.idxR av b0.traits x3 λx7=>.rl av b0.traits<|.ldR av b0.traits x7 5<|.rt x7.Control)<|.rt x1.Control)<|.k3 0<|.kn [0]<|.rt x1.Control
def XD(b0:ak):LF Empty Int :=.z 105 [.t 4] true (λr=>[(0,.box (tm0 b0)),(1,wR av 17 b0.traits),(2,wR cB 1 b0.dropped),(3,wR cB 1 b0.done),(4,wR (cL (cI .i64)) 1 b0.hits)]) (λr=>(wI r))
def Vh(b0:ak)(a1:Int):Option Int:=(XD b0).run (Vi b0 a1)
def Eh(b0:ak)(a1:Int){r:Int}(h:Vh b0 a1=some r):FnG PR 105 [(0,.box (tm0 b0)),(1,wR av 17 b0.traits),(2,wR cB 1 b0.dropped),(3,wR cB 1 b0.done),(4,wR (cL (cI .i64)) 1 b0.hits)] [.bptr 0 0,wI a1] [(0,.box (tm0 b0)),(1,wR av 17 b0.traits),(2,wR cB 1 b0.dropped),(3,wR cB 1 b0.done),(4,wR (cL (cI .i64)) 1 b0.hits)] (wI r):=(XD b0).fn h
inductive tt where
 |L0 (E1:Z2) (v6:Int) (v7:List Int) (v42:List aj) (v43:Int) (v44:Int)
def Vm(b0:ak)(E1:Z2)(v6:Int)(v7:List Int)(v42:List aj)(v43:Int)(v44:Int):LT tt (List Int):=
.br (decide (v44<v43)) (.idx aE v42 v44 λx2=>.lb 1009<|.cs (x2.Zone==0) (.k3 1<|.cs E1.Fixed (.k5 2<|.call (Xb E1.Objects x2.Id) λx6=>.kg 1<|.kg 2<|.kg 1<|.cs x6 (.k5 3<|.kg 1<|.kg 3<|.kg 1<|.kn [0]<|.dr [.lit]<|.apR (cI .i64) 8 v7 [v44] λx9=>.g0 (.L0 E1 v6 x9 v42 v43 (IntKind.wrap .i64 (v44+1))))<|.k4 3<|.cs (!E1.Fixed) (.k5 4<|.k2 4<|.idxR av b0.traits v44 λx15=>.kg 4<|.ldR av b0.traits x15 5<|.k5 4<|.kg 4<|.call (Eg x2 x15 v6 E1.Source E1.Filter) λx17=>.kg 3<|.kg 4<|.kg 1<|.kg 3<|.kg 1<|.br x17 (.dr [.lit]<|.apR (cI .i64) 8 v7 [v44] λx20=>.g0 (.L0 E1 v6 x20 v42 v43 (IntKind.wrap .i64 (v44+1))))<|.g0 (.L0 E1 v6 v7 v42 v43 (IntKind.wrap .i64 (v44+1))))<|.k8 4<|.k5 4<|.kg 4<|.kg 3<|.kg 4<|.kg 1<|.kg 3<|.kg 1<|.kn [0]<|.g0 (.L0 E1 v6 v7 v42 v43 (IntKind.wrap .i64 (v44+1))))<|.k5 2<|.kg 1<|.kg 2<|.kg 1<|.b4 false<|.cs (!E1.Fixed) (.k5 3<|.k2 3<|.idxR av b0.traits v44 λx30=>.kg 3<|.ldR av b0.traits x30 5<|.k5 3<|.kg 3<|.call (Eg x2 x30 v6 E1.Source E1.Filter) λx32=>.kb false<|.kg 3<|.kg 1<|.kb false<|.kg 1<|.br x32 (.dr [.lit]<|.apR (cI .i64) 8 v7 [v44] λx35=>.g0 (.L0 E1 v6 x35 v42 v43 (IntKind.wrap .i64 (v44+1))))<|.g0 (.L0 E1 v6 v7 v42 v43 (IntKind.wrap .i64 (v44+1))))<|.k8 3<|.k5 3<|.kg 3<|.kb false<|.kg 3<|.kg 1<|.kb false<|.kg 1<|.kn [0]<|.g0 (.L0 E1 v6 v7 v42 v43 (IntKind.wrap .i64 (v44+1))))<|.k5 1<|.k2 1<|.kn [0]<|.g0 (.L0 E1 v6 v7 v42 v43 (IntKind.wrap .i64 (v44+1))))<|.rl (cI .i64) v7<|.rl (cI .i64) v7<|.rl (cI .i64) v7<|.ret v7 [.frz 20007]
def Vl(b0:ak)(a1:Int):LT tt (List Int):=
.idxR cB b0.done a1 λx1=>.ldR cB b0.done x1 2<|.br x1 (.idxR (cL (cI .i64)) b0.hits a1 λx4=>.ldR (cL (cI .i64)) b0.hits x4 5<|.rt x4)<|.callO (XC b0 a1) [0,1,2,3,4] 270000 (λx=>[]) λx6=>.br (!x6) (.ret ([]:List Int) [.nilt 4])<|.idx cb b0.forces a1 λx9=>.callO (Eh b0 a1) [0,1,2,3,4] 380000 (λx=>[]) λx11=>.lb 1005<|.len aE b0.s.Objects<|.go (.L0 x9 x11 ([]:List Int) b0.s.Objects (b0.s.Objects.length:Int) 0) [.relab 1005 3001,.own 7 20007 1]
def DH(b0:ak):LF tt (List Int) :=.m 103 [.t 4] true (λr=>[(0,.box (tm0 b0)),(1,wR av 17 b0.traits),(2,wR cB 1 b0.dropped),(3,wR cB 1 b0.done),(4,wR (cL (cI .i64)) 1 b0.hits)]) (λr=>(wL (cI .i64) r)) λ|.L0 E1 v6 v7 v42 v43 v44=>([1,1,1,1,1,0,1,4],⟨90,[(0,.bptr 0 0),(5,.bptr 3001 0),(6,wI v6),(7,wO (cI .i64) 20007 v7),(42,wL aE v42),(43,wI v43),(44,wI v44)],[(0,.box (tm0 b0)),(1,wR av 17 b0.traits),(2,wR cB 1 b0.dropped),(3,wR cB 1 b0.done),(4,wR (cL (cI .i64)) 1 b0.hits),(3001,.box (bx (cb E1))),(20007,wR (cI .i64) 1 v7)]⟩,Vm b0 E1 v6 v7 v42 v43 v44)
def Vk(b0:ak)(a1:Int):Option (List Int):=(DH b0).run (Vl b0 a1)
def XF(b0:ak)(a1:Int){r:List Int}(h:Vk b0 a1=some r):FnG PR 103 [(0,.box (tm0 b0)),(1,wR av 17 b0.traits),(2,wR cB 1 b0.dropped),(3,wR cB 1 b0.done),(4,wR (cL (cI .i64)) 1 b0.hits)] [.bptr 0 0,wI a1] [(0,.box (tm0 b0)),(1,wR av 17 b0.traits),(2,wR cB 1 b0.dropped),(3,wR cB 1 b0.done),(4,wR (cL (cI .i64)) 1 b0.hits)] (wL (cI .i64) r):=(DH b0).fn h
inductive tu where
 |L0 (v1:Int) (v2:Int) (E1:Z2) (v8:List Int) (v23:List af) (v24:Int) (v25:Int)
def Vq(b0:ak)(v1:Int)(v2:Int)(E1:Z2)(v8:List Int)(v23:List af)(v24:Int)(v25:Int):LT tu (List Int):=
.br (decide (v25<v24)) (.idx ay v23 v25 λx2=>.lb 1010<|.cs (x2.Kind==11) (.k3 1<|.call (xX x2.Kind) λx5=>.k3 1<|.br (x5==v2) (.callO (Eh b0 v1) [0,1,2,3,4] 530000 (λx=>[]) λx8=>.rl av b0.traits<|.callS (ZkT b0.s b0.traits x8 E1.Source x2.Filter) 580000 (λ_=>⟨rfl,ou (cI .i64) (λ_=>rfl) _,ab⟩) λx10=>.lenO (cI .i64) x10<|.idxR (cI .i64) v8 v25 λx12=>.setD (cI .i64) v8 v25 x12 (x10.length:Int) 5 0 [.int .i64 (x10.length:Int)] rfl λx14=>.dr [.ahead 60,.relen 20008,.stop]<|.us [6]<|.us [6]<|.us [6]<|.g0 (.L0 v1 v2 E1 x14 v23 v24 (IntKind.wrap .i64 (v25+1))))<|.g0 (.L0 v1 v2 E1 v8 v23 v24 (IntKind.wrap .i64 (v25+1))))<|.k5 1<|.kg 1<|.kn [0]<|.g0 (.L0 v1 v2 E1 v8 v23 v24 (IntKind.wrap .i64 (v25+1))))<|.ret v8 [.relab 20008 5000]
def Vp(b0:ak)(a1:Int)(a2:Int):LT tu (List Int):=
.idx cb b0.forces a1 λx1=>.lb 1007<|.len ay x1.Mods<|.mk (cI .i64) 1021 8 0 (x1.Mods.length:Int) (x1.Mods.length:Int) λx4=>.len ay x1.Mods<|.go (.L0 a1 a2 x1 x4 x1.Mods (x1.Mods.length:Int) 0) [.relab 1007 3001,.relab 1021 20008]
def DJ(b0:ak):LF tu (List Int) :=.m 104 [.t 6] true (λr=>[(5000,wR (cI .i64) 1 r),(0,.box (tm0 b0)),(1,wR av 17 b0.traits),(2,wR cB 1 b0.dropped),(3,wR cB 1 b0.done),(4,wR (cL (cI .i64)) 1 b0.hits)]) (λr=>(wO (cI .i64) 5000 r)) λ|.L0 v1 v2 E1 v8 v23 v24 v25=>([1,1,1,0,1,4],⟨62,[(0,.bptr 0 0),(1,wI v1),(2,wI v2),(7,.bptr 3001 0),(8,wO (cI .i64) 20008 v8),(23,wL ay v23),(24,wI v24),(25,wI v25)],[(0,.box (tm0 b0)),(1,wR av 17 b0.traits),(2,wR cB 1 b0.dropped),(3,wR cB 1 b0.done),(4,wR (cL (cI .i64)) 1 b0.hits),(3001,.box (bx (cb E1))),(20008,wR (cI .i64) 1 v8)]⟩,Vq b0 v1 v2 E1 v8 v23 v24 v25)
def Vo(b0:ak)(a1:Int)(a2:Int):Option (List Int):=(DJ b0).run (Vp b0 a1 a2)
def XG(b0:ak)(a1:Int)(a2:Int){r:List Int}(h:Vo b0 a1 a2=some r):FnG PR 104 [(0,.box (tm0 b0)),(1,wR av 17 b0.traits),(2,wR cB 1 b0.dropped),(3,wR cB 1 b0.done),(4,wR (cL (cI .i64)) 1 b0.hits)] [.bptr 0 0,wI a1,wI a2] [(5000,wR (cI .i64) 1 r),(0,.box (tm0 b0)),(1,wR av 17 b0.traits),(2,wR cB 1 b0.dropped),(3,wR cB 1 b0.done),(4,wR (cL (cI .i64)) 1 b0.hits)] (wO (cI .i64) 5000 r):=(DJ b0).fn h
def Vt(b0:ak)(a1:Int)(a2:Int):LT Empty bM:=
.lb 1006<|.callO (XC b0 a1) [0,1,2,3,4] 100000 (λx=>[]) λx1=>.callO (XF b0 a1) [0,1,2,3,4] 130000 (λx=>[]) λx3=>.callO (XG b0 a1 a2) [0,1,2,3,4] 170000 (λx=>[(5000,wR (cI .i64) 1 x)]) λx5=>.ret (⟨x1,x3,x5⟩:bM) [.relab 175000 5002]
def XH(b0:ak):LF Empty bM :=.z 99 [.c 6 174 true 3] true (λr=>[(5002,wR (cI .i64) 1 r.numbers),(0,.box (tm0 b0)),(1,wR av 17 b0.traits),(2,wR cB 1 b0.dropped),(3,wR cB 1 b0.done),(4,wR (cL (cI .i64)) 1 b0.hits)]) (λr=>(.agg [wB r.active,wL (cI .i64) r.hits,wO (cI .i64) 5002 r.numbers]))
def Vs(b0:ak)(a1:Int)(a2:Int):Option bM:=(XH b0).run (Vt b0 a1 a2)
def XI(b0:ak)(a1:Int)(a2:Int){r:bM}(h:Vs b0 a1 a2=some r):FnG PR 99 [(0,.box (tm0 b0)),(1,wR av 17 b0.traits),(2,wR cB 1 b0.dropped),(3,wR cB 1 b0.done),(4,wR (cL (cI .i64)) 1 b0.hits)] [.bptr 0 0,wI a1,wI a2] [(5002,wR (cI .i64) 1 r.numbers),(0,.box (tm0 b0)),(1,wR av 17 b0.traits),(2,wR cB 1 b0.dropped),(3,wR cB 1 b0.done),(4,wR (cL (cI .i64)) 1 b0.hits)] (.agg [wB r.active,wL (cI .i64) r.hits,wO (cI .i64) 5002 r.numbers]):=(XH b0).fn h
def Ei(a0:List (Opq 17))(hne:a0≠[]):LT Empty (List (Opq 17)):=
.ne (eQ (k:=17)) hne<|.kn [0]<|.lb 1005<|.apR (eQ (k:=17)) 176 ([]:List (Opq 17)) a0 λx1=>.ret x1 [.relab 1005 5000]
def nc:LF Empty (List (Opq 17)) :=.z 152 [.t 2] true (λr=>[(5000,wR (eQ (k:=17)) 17 r)]) (λr=>(wO (eQ (k:=17)) 5000 r))
def Ej(c:Nat):LT Empty (List (Opq 17)):=
.kn [0]<|.ret ([]:List (Opq 17)) [.own 2 5000 17]
def Zlg(c:Nat)(ad:Addr):LT Empty (List (Opq 17)):=
.kn [0]<|.lb 1005<|.apR (eQ (k:=17)) 176 ([]:List (Opq 17)) ([]:List (Opq 17)) λx1=>.ret x1 [.relab 1005 5000]
open Classical in
def xZ(a0:List (Opq 17)):Option (List (Opq 17)):=if h:a0≠[]then nc.run (Ei a0 h)else nc.run (Ej 0)
def Zlh(a0:List (Opq 17)){r:List (Opq 17)}(h:xZ a0=some r):FnG PR 152 [] [wL (eQ (k:=17)) a0] [(5000,wR (eQ (k:=17)) 17 r)] (wO (eQ (k:=17)) 5000 r):=by
 by_cases hne:a0=[]
 .subst hne;have h0:nc.run (Ej 0)=some r:=h;exact FnG.split0 (λe=>absurd rfl e) (λ_ a c=>by
   cases a with
   |none=>exact nc.fn (t:=Ej c) h0
   |some ad=>exact nc.fn (t:=Zlg c ad) h0)
 have h0:nc.run (Ei a0 hne)=some r:=by unfold xZ at h;rwa[iD hne]at h
 exact FnG.split0 (λ_=>nc.fn h0) (λe=>absurd (jY.1 e) hne)
def Zli:jJ PR 152 17 176:=jJ.of (g:=xZ) (λa h=>by
 unfold xZ;by_cases e:a=[]
 .subst e;rfl
 rw[iD e];unfold LF.run;dsimp only[Ei,LT.den];rw[WV h bE];rfl) (λa _ h=>Zlh a h)
def Ek(a0:List (Opq 1))(hne:a0≠[]):LT Empty (List (Opq 1)):=
.ne (eQ (k:=1)) hne<|.kn [0]<|.lb 1005<|.apR (eQ (k:=1)) 24 ([]:List (Opq 1)) a0 λx1=>.ret x1 [.relab 1005 5000]
def nf:LF Empty (List (Opq 1)) :=.z 154 [.t 2] true (λr=>[(5000,wR (eQ (k:=1)) 1 r)]) (λr=>(wO (eQ (k:=1)) 5000 r))
def El(c:Nat):LT Empty (List (Opq 1)):=
.kn [0]<|.ret ([]:List (Opq 1)) [.own 2 5000 1]
def Zlj(c:Nat)(ad:Addr):LT Empty (List (Opq 1)):=
.kn [0]<|.lb 1005<|.apR (eQ (k:=1)) 24 ([]:List (Opq 1)) ([]:List (Opq 1)) λx1=>.ret x1 [.relab 1005 5000]
open Classical in
def ya(a0:List (Opq 1)):Option (List (Opq 1)):=if h:a0≠[]then nf.run (Ek a0 h)else nf.run (El 0)
def Zlk(a0:List (Opq 1)){r:List (Opq 1)}(h:ya a0=some r):FnG PR 154 [] [wL (eQ (k:=1)) a0] [(5000,wR (eQ (k:=1)) 1 r)] (wO (eQ (k:=1)) 5000 r):=by
 by_cases hne:a0=[]
 .subst hne;have h0:nf.run (El 0)=some r:=h;exact FnG.split0 (λe=>absurd rfl e) (λ_ a c=>by
   cases a with
   |none=>exact nf.fn (t:=El c) h0
   |some ad=>exact nf.fn (t:=Zlj c ad) h0)
 have h0:nf.run (Ek a0 hne)=some r:=by unfold ya at h;rwa[iD hne]at h
 exact FnG.split0 (λ_=>nf.fn h0) (λe=>absurd (jY.1 e) hne)
def Zll:jJ PR 154 1 24:=jJ.of (g:=ya) (λa h=>by
 unfold ya;by_cases e:a=[]
 .subst e;rfl
 rw[iD e];unfold LF.run;dsimp only[Ek,LT.den];rw[WV h bE];rfl) (λa _ h=>Zlk a h)
def Vv(b0:ak):LT Empty ak:=
.lb 1003<|.callC Zli av 1011 b0.traits<|.rl cB b0.dropped<|.callS (Xo b0.dropped) 170000 (λ_=>⟨rfl,ou cB (λ_=>rfl) _,ab⟩) λx4=>.rl cB b0.done<|.callS (Xo b0.done) 220000 (λ_=>⟨rfl,ou cB (λ_=>rfl) _,ab⟩) λx6=>.callC Zll (cL (cI .i64)) 1026 b0.hits<|.ret (⟨b0.s,b0.forces,b0.traits,x4,x6,b0.hits⟩:ak) [.relab 1003 5000,.relab 1011 5021,.relab 175000 5022,.relab 225000 5023,.relab 1026 5024]
def XJ(b0:ak):LF Empty ak :=.z 102 [.t 2] true (λr=>[(5000,.box (tm5 r 5000)),(5021,wR av 17 r.traits),(5022,wR cB 1 r.dropped),(5023,wR cB 1 r.done),(5024,wR (cL (cI .i64)) 1 r.hits),(0,.box (tm0 b0)),(1,wR av 17 b0.traits),(2,wR cB 1 b0.dropped),(3,wR cB 1 b0.done),(4,wR (cL (cI .i64)) 1 b0.hits)]) (λr=>(.bptr 5000 0))
def Vu(b0:ak):Option ak:=(XJ b0).run (Vv b0)
def Zlm(b0:ak){r:ak}(h:Vu b0=some r):FnG PR 102 [(0,.box (tm0 b0)),(1,wR av 17 b0.traits),(2,wR cB 1 b0.dropped),(3,wR cB 1 b0.done),(4,wR (cL (cI .i64)) 1 b0.hits)] [.bptr 0 0] [(5000,.box (tm5 r 5000)),(5021,wR av 17 r.traits),(5022,wR cB 1 r.dropped),(5023,wR cB 1 r.done),(5024,wR (cL (cI .i64)) 1 r.hits),(0,.box (tm0 b0)),(1,wR av 17 b0.traits),(2,wR cB 1 b0.dropped),(3,wR cB 1 b0.done),(4,wR (cL (cI .i64)) 1 b0.hits)] (.bptr 5000 0):=(XJ b0).fn h
inductive pc where
 |L0 (c0:ak) (v1:Int) (v2:Int) (v6:List Int) (v7:List Int) (v8:Int) (v23:List Int) (v24:Int) (v25:Int)
 |L1 (c0:ak) (v1:Int) (v2:Int) (v6:List Int) (v7:List Int) (v8:Int) (v10:Int) (v23:List Int) (v24:Int) (v25:Int) (v36:List af) (v37:Int) (v38:Int)
def Vy(c0:ak)(v1:Int)(v2:Int)(v6:List Int)(v7:List Int)(v8:Int)(v23:List Int)(v24:Int)(v25:Int):LT pc ak:=
.br (decide (v25<v24)) (.idx (cI .i64) v23 v25 λx2=>.idx cb c0.forces v1 λx4=>.len ay x4.Mods<|.g0 (.L1 c0 v1 v2 v6 v7 v8 x2 v23 v24 v25 x4.Mods (x4.Mods.length:Int) 0))<|.idxR cB c0.done v1 λx7=>.setD cB c0.done v1 x7 true 2 0 [.bool true] rfl λx9=>.idxR (cL (cI .i64)) c0.hits v1 λx11=>.setD (cL (cI .i64)) c0.hits v1 x11 v6 8 0 [.sl (List.map (cI .i64) v6)] rfl λx13=>.us [3]<|.us [3]<|.us [3]<|.us [9]<|.us [9]<|.us [9]<|.ret (⟨c0.s,c0.forces,c0.traits,c0.dropped,x9,x13⟩:ak) [.relen 3,.relen 4]
def Vz(c0:ak)(v1:Int)(v2:Int)(v6:List Int)(v7:List Int)(v8:Int)(v10:Int)(v23:List Int)(v24:Int)(v25:Int)(v36:List af)(v37:Int)(v38:Int):LT pc ak:=
.br (decide (v38<v37)) (.idx ay v36 v38 λx2=>.lb 1012<|.call (xX x2.Kind) λx4=>.br (x4 != v2) (.g0 (.L1 c0 v1 v2 v6 v7 v8 v10 v23 v24 v25 v36 v37 (IntKind.wrap .i64 (v38+1))))<|.idxR av c0.traits v10 λx9=>.ldR av c0.traits x9 5<|.idxR (cI .i64) v7 v38 λx11=>.ldR (cI .i64) v7 x11 8<|.call (Zk4 x9 x2 v8 x11) λx13=>.plR av c0.traits v10 3<|.setD av c0.traits v10 x9 x13 5 0 (tm10 x13) rfl λx15=>.dr [.ahead 68,.relen 1,.stop]<|.us [9]<|.us [9]<|.us [9]<|.us [9]<|.us [9]<|.br (x2.Kind==10) (.idxR cB c0.dropped v10 λx18=>.setR cB c0.dropped v10 x18 true 14 0 [.bool true] rfl λx20=>.dr [.ahead 77,.relen 2,.stop]<|.us [15]<|.us [15]<|.us [15]<|.g0 (.L1 (⟨c0.s,c0.forces,x15,x20,c0.done,c0.hits⟩:ak) v1 v2 v6 v7 v8 v10 v23 v24 v25 v36 v37 (IntKind.wrap .i64 (v38+1))))<|.g0 (.L1 (⟨c0.s,c0.forces,x15,c0.dropped,c0.done,c0.hits⟩:ak) v1 v2 v6 v7 v8 v10 v23 v24 v25 v36 v37 (IntKind.wrap .i64 (v38+1))))<|.g0 (.L0 c0 v1 v2 v6 v7 v8 v23 v24 (IntKind.wrap .i64 (v25+1)))
def Vx(b0:ak)(a1:Int)(a2:Int):LT pc ak:=
.callO (XF b0 a1) [0,1,2,3,4] 160000 (λx=>[]) λx1=>.callO (XG b0 a1 a2) [0,1,2,3,4] 200000 (λx=>[(5000,wR (cI .i64) 1 x)]) λx3=>.callO (Eh b0 a1) [0,1,2,3,4] 230000 (λx=>[]) λx5=>.len (cI .i64) x1<|.go (.L0 b0 a1 a2 x1 x3 x5 x1 (x1.length:Int) 0) [.relab 205000 20007]
def xI:LF pc ak :=.m 56 [] true (λr=>[(0,.box (tm0 r)),(1,wR av 17 r.traits),(2,wR cB 1 r.dropped),(3,wR cB 1 r.done),(4,wR (cL (cI .i64)) 1 r.hits)]) (λr =>.tup []) λ|.L0 c0 v1 v2 v6 v7 v8 v23 v24 v25=>([1,0,1,4],⟨92,[(0,.bptr 0 0),(1,wI v1),(2,wI v2),(6,wL (cI .i64) v6),(7,wO (cI .i64) 20007 v7),(8,wI v8),(23,wL (cI .i64) v23),(24,wI v24),(25,wI v25)],[(0,.box (tm0 c0)),(1,wR av 17 c0.traits),(2,wR cB 1 c0.dropped),(3,wR cB 1 c0.done),(4,wR (cL (cI .i64)) 1 c0.hits),(20007,wR (cI .i64) 1 v7)]⟩,Vy c0 v1 v2 v6 v7 v8 v23 v24 v25)|.L1 c0 v1 v2 v6 v7 v8 v10 v23 v24 v25 v36 v37 v38=>([1,0,1,4,5,1,1,0,4,1,1,4],⟨92,[(0,.bptr 0 0),(1,wI v1),(2,wI v2),(6,wL (cI .i64) v6),(7,wO (cI .i64) 20007 v7),(8,wI v8),(10,wI v10),(23,wL (cI .i64) v23),(24,wI v24),(25,wI v25),(36,wL ay v36),(37,wI v37),(38,wI v38)],[(0,.box (tm0 c0)),(1,wR av 17 c0.traits),(2,wR cB 1 c0.dropped),(3,wR cB 1 c0.done),(4,wR (cL (cI .i64)) 1 c0.hits),(20007,wR (cI .i64) 1 v7)]⟩,Vz c0 v1 v2 v6 v7 v8 v10 v23 v24 v25 v36 v37 v38)
def Vw:=λb0 a1 a2=>xI.run (Vx b0 a1 a2)
def XK(b0)(a1)(a2){r}(h:Vw b0 a1 a2=some r):FnG PR 56 [(0,.box (tm0 b0)),(1,wR av 17 b0.traits),(2,wR cB 1 b0.dropped),(3,wR cB 1 b0.done),(4,wR (cL (cI .i64)) 1 b0.hits)] [.bptr 0 0,wI a1,wI a2] [(0,.box (tm0 r)),(1,wR av 17 r.traits),(2,wR cB 1 r.dropped),(3,wR cB 1 r.done),(4,wR (cL (cI .i64)) 1 r.hits)] (.tup []):=xI.fn h
inductive lu where
 |L0 (v2:Int) (v7:List (List Bool)) (v27:Int) (v28:Int)
 |L1 (v2:Int) (v7:List (List Bool)) (v9:List (Int×bM)) (v43:Int) (v44:Int)
 |L2 (v2:Int) (v7:List (List Bool)) (v9:List (Int×bM)) (v69:Int) (v70:Int)
 |L3 (v2:Int) (v7:List (List Bool)) (v9:List (Int×bM)) (v14:Int) (E1:ak) (v69:Int) (v70:Int) (v81:Int) (v82:Int)
def VC(b0:ak)(a1:List Int)(v2:Int)(v7:List (List Bool))(v27:Int)(v28:Int):LT lu (List (List Bool)):=
.br (decide (v28<v27)) (.len cb b0.forces<|.mk cB 1038 1 false (b0.forces.length:Int) (b0.forces.length:Int) λx3=>.idM cB v7 v28 λx5=>.stR cB v7 v28 x3 0 λx7=>.dr [.ahead 40,.relen 20007,.stop]<|.us [2]<|.us [2]<|.g0 (.L0 v2 x7 v27 (IntKind.wrap .i64 (v28+1))))<|.lb 1041<|.lenO (cI .i64) a1<|.go (.L1 v2 v7 ([]:List (Int×bM)) (a1.length:Int) 0) [.relab 1041 20009]
def VD(b0:ak)(a1:List Int)(v2:Int)(v7:List (List Bool))(v9:List (Int×bM))(v43:Int)(v44:Int):LT lu (List (List Bool)):=
.br (decide (v44<v43)) (.idxR (cI .i64) a1 v44 λx2=>.ldR (cI .i64) a1 x2 2<|.callO (Zlf b0 x2 v2) [0,2,3,4,5] 520000 (λx=>[]) λx4=>.br x4 (.callO (XI b0 x2 v2) [0,2,3,4,5] 580000 (λx=>[(5002,wR (cI .i64) 1 x.numbers)]) λx7=>.dr [.ahead 1000000,.frz 585002,.stop]<|.rl (cI .i64) x7.numbers<|.stG jB v9 x2 x7 (.agg [wB x7.active,wL (cI .i64) x7.hits,wL (cI .i64) x7.numbers]) (wA (jB x7)) rfl λx9=>.g0 (.L1 v2 v7 x9 v43 (IntKind.wrap .i64 (v44+1))))<|.g0 (.L1 v2 v7 v9 v43 (IntKind.wrap .i64 (v44+1))))<|.lenG jB v9<|.cs ((v9.length:Int)==0) (.k4 1<|.kn [0]<|.rl (cL cB) v7<|.rl (cL cB) v7<|.rl (cL cB) v7<|.ret v7 [.frz 20007])<|.k2 1<|.lenO (cI .i64) a1<|.k2 1<|.br (decide ((a1.length:Int)<2)) (.rl (cL cB) v7<|.rl (cL cB) v7<|.rl (cL cB) v7<|.ret v7 [.frz 20007])<|.lenO (cI .i64) a1<|.g0 (.L2 v2 v7 v9 (a1.length:Int) 0)
def VE(b0:ak)(a1:List Int)(v2:Int)(v7:List (List Bool))(v9:List (Int×bM))(v69:Int)(v70:Int):LT lu (List (List Bool)):=
.br (decide (v70<v69)) (.idxR (cI .i64) a1 v70 λx2=>.ldR (cI .i64) a1 x2 2<|.callO (Zlm b0) [0,2,3,4,5] 760000 (λx=>[(5000,.box [wL cY x.s.Players,wL aE x.s.Objects,wL (cI .i64) x.s.Battlefield,wL (cI .i64) x.s.Exile,wL cU x.s.Stack,wL dC x.s.Waiting,wL cZ x.s.Conts,wI x.s.Turn,wI x.s.Active,wI x.s.Step,wB x.s.Begun,wI x.s.Priority,wI x.s.Passes,wI x.s.NextId,wI x.s.NextStamp,.t (.int .u64 x.s.Seed),wL (cI .i64) x.s.Extra,wI x.s.Over,wI x.s.Winner,wL cb x.forces,wO av 5021 x.traits,wO cB 5022 x.dropped,wO cB 5023 x.done,wO (cL (cI .i64)) 5024 x.hits]),(5021,wR av 17 x.traits),(5022,wR cB 1 x.dropped),(5023,wR cB 1 x.done),(5024,wR (cL (cI .i64)) 1 x.hits)]) λx4=>.callU (XK x4 x2 v2) [765000,765021,765022,765023,765024] 800000 λx6=>.lenO (cI .i64) a1<|.go (.L3 v2 v7 v9 x2 x6 v69 v70 (a1.length:Int) 0) [.relab 765000 3001,.relab 765021 40120,.relab 765022 40121,.relab 765023 40122,.relab 765024 40123])<|.rl (cL cB) v7<|.rl (cL cB) v7<|.rl (cL cB) v7<|.ret v7 [.frz 20007]
def VF(b0:ak)(a1:List Int)(v2:Int)(v7:List (List Bool))(v9:List (Int×bM))(v14:Int)(E1:ak)(v69:Int)(v70:Int)(v81:Int)(v82:Int):LT lu (List (List Bool)):=
.br (decide (v82<v81)) (.idxR (cI .i64) a1 v82 λx2=>.ldR (cI .i64) a1 x2 2<|.lkG jB v9 x2 (⟨false,[],[]⟩:bM) λx4=>.lb 1018<|.cs x4.2 (.k4 1<|.br (x2 != v14) (.idM cB v7 x2 λx8=>.ldM cB v7 3<|.callO (XI E1 x2 v2) [3001,40120,40121,40122,40123] 1090000 (λx=>[(5002,wR (cI .i64) 1 x.numbers)]) λx10=>.rl (cI .i64) x10.numbers<|.call (Z13 x4.1 x10) λx12=>.idN cB v7 x8 v14 3 λx14=>.stM cB v7 x2 x8 v14 x12 3 5 λx16=>.dr [.ahead 111,.relen 20007,.stop]<|.us [7]<|.us [7]<|.g0 (.L3 v2 x16 v9 v14 E1 v69 v70 v81 (IntKind.wrap .i64 (v82+1))))<|.g0 (.L3 v2 v7 v9 v14 E1 v69 v70 v81 (IntKind.wrap .i64 (v82+1))))<|.k4 1<|.kn [0]<|.g0 (.L3 v2 v7 v9 v14 E1 v69 v70 v81 (IntKind.wrap .i64 (v82+1))))<|.g0 (.L2 v2 v7 v9 v69 (IntKind.wrap .i64 (v70+1)))
def VB(b0:ak)(a1:List Int)(a2:Int):LT lu (List (List Bool)):=
.len cb b0.forces<|.mkE cB 1025 24 (b0.forces.length:Int) (b0.forces.length:Int) λx2=>.dr [.ahead 7,.tomat 1025,.stop]<|.us [0]<|.lenO (cL cB) x2<|.go (.L0 a2 x2 (x2.length:Int) 0) [.relab 1025 20007]
def pd(b0:ak)(a1:List Int):LF lu (List (List Bool)) :=.m 55 [.t 6] true (λr=>[(0,.box (tm3 b0)),(1,wR (cI .i64) 1 a1),(2,wR av 17 b0.traits),(3,wR cB 1 b0.dropped),(4,wR cB 1 b0.done),(5,wR (cL (cI .i64)) 1 b0.hits)]) (λr=>(wL (cL cB) r)) λ|.L0 v2 v7 v27 v28=>([1,1,0,1,4],⟨114,[(0,.bptr 0 0),(1,wO (cI .i64) 1 a1),(2,wI v2),(7,wM (cL cB) 20007 v7),(27,wI v27),(28,wI v28)],[(0,.box (tm3 b0)),(2,wR av 17 b0.traits),(3,wR cB 1 b0.dropped),(4,wR cB 1 b0.done),(5,wR (cL (cI .i64)) 1 b0.hits),(1,wR (cI .i64) 1 a1),(20007,wT (cL cB) v7)]⟩,VC b0 a1 v2 v7 v27 v28)|.L1 v2 v7 v9 v43 v44=>([1,1,1,1,0,1,4],⟨114,[(0,.bptr 0 0),(1,wO (cI .i64) 1 a1),(2,wI v2),(7,wM (cL cB) 20007 v7),(9,.own 20009 .map),(42,wO (cI .i64) 1 a1),(43,wI v43),(44,wI v44)],[(0,.box (tm3 b0)),(2,wR av 17 b0.traits),(3,wR cB 1 b0.dropped),(4,wR cB 1 b0.done),(5,wR (cL (cI .i64)) 1 b0.hits),(1,wR (cI .i64) 1 a1),(20007,wT (cL cB) v7),(20009,wG true jB v9)]⟩,VD b0 a1 v2 v7 v9 v43 v44)|.L2 v2 v7 v9 v69 v70=>([1,1,1,1,1,1,1,0,1,4],⟨114,[(0,.bptr 0 0),(1,wO (cI .i64) 1 a1),(2,wI v2),(7,wM (cL cB) 20007 v7),(9,.own 20009 .map),(12,.fn 100 []),(68,wO (cI .i64) 1 a1),(69,wI v69),(70,wI v70)],[(0,.box (tm3 b0)),(2,wR av 17 b0.traits),(3,wR cB 1 b0.dropped),(4,wR cB 1 b0.done),(5,wR (cL (cI .i64)) 1 b0.hits),(1,wR (cI .i64) 1 a1),(20007,wT (cL cB) v7),(20009,wG true jB v9)]⟩,VE b0 a1 v2 v7 v9 v69 v70)|.L3 v2 v7 v9 v14 E1 v69 v70 v81 v82=>([1,1,1,1,1,1,1,0,1,4,5,1,1,0,4,1,1,1,1,4],⟨114,[(0,.bptr 0 0),(1,wO (cI .i64) 1 a1),(2,wI v2),(7,wM (cL cB) 20007 v7),(9,.own 20009 .map),(12,.fn 100 []),(14,wI v14),(15,.bptr 3001 0),(68,wO (cI .i64) 1 a1),(69,wI v69),(70,wI v70),(80,wO (cI .i64) 1 a1),(81,wI v81),(82,wI v82)],((0,.box (tm3 b0))::(2,wR av 17 b0.traits)::(3,wR cB 1 b0.dropped)::(4,wR cB 1 b0.done)::(5,wR (cL (cI .i64)) 1 b0.hits)::(1,wR (cI .i64) 1 a1)::(20007,wT (cL cB) v7)::(20009,wG true jB v9)::(3001,.box (tm7 E1 40100))::(tm19 E1 40100))⟩,VF b0 a1 v2 v7 v9 v14 E1 v69 v70 v81 v82)
def VA(b0:ak)(a1:List Int)(a2:Int):Option (List (List Bool)):=(pd b0 a1).run (VB b0 a1 a2)
def Zln(b0:ak)(a1:List Int)(a2:Int){r:List (List Bool)}(h:VA b0 a1 a2=some r):FnG PR 55 [(0,.box (tm3 b0)),(1,wR (cI .i64) 1 a1),(2,wR av 17 b0.traits),(3,wR cB 1 b0.dropped),(4,wR cB 1 b0.done),(5,wR (cL (cI .i64)) 1 b0.hits)] [.bptr 0 0,wO (cI .i64) 1 a1,wI a2] [(0,.box (tm3 b0)),(1,wR (cI .i64) 1 a1),(2,wR av 17 b0.traits),(3,wR cB 1 b0.dropped),(4,wR cB 1 b0.done),(5,wR (cL (cI .i64)) 1 b0.hits)] (wL (cL cB) r):=(pd b0 a1).fn h
def VI(a0:Int)(a1:Int):LT Empty Bool:=
.rt (a0==a1)
def XL:LF Empty Bool :=.z0 58 [.t 3] wB
def VH:=λa0 a1=>XL.run (VI a0 a1)
def XM(a0)(a1){r}(h:VH a0 a1=some r):Fn PR 58 [wI a0,.vptr ((cI .i64) a1)] (wB r):=XL.fn h
inductive tv where
 |L0 (v0:List Int) (w1_0:Int) (v7:Int) (v8:Int)
def VL(v0:List Int)(w1_0:Int)(v7:Int)(v8:Int):LT tv Int:=
.br (decide (v8<v7)) (.idx (cI .i64) v0 v8 λx2=>.call (XM x2 w1_0) λx4=>.br x4 (.rt v8)<|.g0 (.L0 v0 w1_0 v7 (IntKind.wrap .i64 (v8+1))))<|.rt (-1)
def VK(a0:List Int)(a1:Int):LT tv Int:=
.len (cI .i64) a0<|.g0 (.L0 a0 a1 (a0.length:Int) 0)
def DK:LF tv Int :=.m0 107 [.t 4] wI λ|.L0 v0 w1_0 v7 v8=>([1,0,1,4],⟨19,[(0,wL (cI .i64) v0),(1,.fn 58 [.vptr ((cI .i64) w1_0)]),(7,wI v7),(8,wI v8)],[]⟩,VL v0 w1_0 v7 v8)
def VJ:=λa0 a1=>DK.run (VK a0 a1)
def Zlo(a0)(a1){r}(h:VJ a0 a1=some r):Fn PR 107 [wL (cI .i64) a0,.fn 58 [.vptr ((cI .i64) a1)]] (wI r):=DK.fn h
inductive tw where
 |L0 (v0:List Int) (w1_0:Int) (v5:Int) (v6:Int)
def VO(v0:List Int)(w1_0:Int)(v5:Int)(v6:Int):LT tw (List Int):=
.lenO (cI .i64) v0<|.br (decide (v6<(v0.length:Int))) (.idxR (cI .i64) v0 v6 λx2=>.ldR (cI .i64) v0 x2 2<|.call (XM x2 w1_0) λx4=>.br (!x4) (.idxR (cI .i64) v0 v5 λx7=>.setR (cI .i64) v0 v5 x7 x2 5 0 [.int .i64 x2] rfl λx9=>.dr [.ahead 34,.relen 20000,.stop]<|.us [6]<|.us [6]<|.us [6]<|.us [6]<|.us [6]<|.us [6]<|.g0 (.L0 x9 w1_0 (IntKind.wrap .i64 (v5+1)) (IntKind.wrap .i64 (v6+1))))<|.g0 (.L0 v0 w1_0 v5 (IntKind.wrap .i64 (v6+1))))<|.tlR (cI .i64) v0 v5 0 λx17=>.clR (cI .i64) v0 x17 0<|.dr [.ahead 39,.relen 20000,.stop]<|.us [2]<|.us [2]<|.us [2]<|.trR (cI .i64) x17 v5 λx20=>.ret x20 [.relab 20000 5000]
def VN(b0:List Int)(a1:Int):LT tw (List Int):=
.rl (cI .i64) b0<|.call (Zlo b0 a1) λx1=>.br (x1==(-1)) (.ret b0 [.relab 0 5000])<|.go (.L0 b0 a1 x1 (IntKind.wrap .i64 (x1+1))) [.relab 0 20000]
def DL:LF tw (List Int) :=.m 57 [.t 4] true (λr=>[(5000,wR (cI .i64) 1 r)]) (λr=>(wO (cI .i64) 5000 r)) λ|.L0 v0 w1_0 v5 v6=>([1,1,1,0,1,4],⟨42,[(0,wO (cI .i64) 20000 v0),(1,.fn 58 [.vptr ((cI .i64) w1_0)]),(5,wI v5),(6,wI v6)],[(20000,wR (cI .i64) 1 v0)]⟩,VO v0 w1_0 v5 v6)
def VM:=λb0 a1=>DL.run (VN b0 a1)
def Zlp(b0)(a1){r}(h:VM b0 a1=some r):FnG PR 57 [(0,wR (cI .i64) 1 b0)] [wO (cI .i64) 0 b0,.fn 58 [.vptr ((cI .i64) a1)]] [(5000,wR (cI .i64) 1 r)] (wO (cI .i64) 5000 r):=DL.fn h
inductive nZ where
 |L0 (c0:ak) (v1:Int) (v5:List Int) (v6:List Int) (v7:List Int) (v18:List Z2) (v19:Int) (v20:Int)
 |L1 (c0:ak) (v1:Int) (v5:List Int) (v6:List Int) (v7:List Int)
def JT(c0:ak)(v1:Int)(v5:List Int)(v6:List Int)(v7:List Int)(v18:List Z2)(v19:Int)(v20:Int):LT nZ ((List Int)×ak):=
.br (decide (v20<v19)) (.idx cb v18 v20 λx2=>.lb 1009<|.dr [.lit]<|.apR (cI .i64) 8 v7 [x2.Stamp] λx4=>.call (ZkG x2 v1) λx7=>.br x7 (.dr [.lit]<|.apR (cI .i64) 8 v5 [v20] λx10=>.g0 (.L0 c0 v1 x10 v6 x4 v18 v19 (IntKind.wrap .i64 (v20+1))))<|.g0 (.L0 c0 v1 v5 v6 x4 v18 v19 (IntKind.wrap .i64 (v20+1))))<|.g0 (.L1 c0 v1 v5 v6 v7)
def JV(c0:ak)(v1:Int)(v5:List Int)(v6:List Int)(v7:List Int):LT nZ ((List Int)×ak):=
.lenO (cI .i64) v5<|.br (decide ((v5.length:Int)>0)) (.callO (Zln c0 v5 v1) [0,20005,1,2,3,4] 470000 (λx=>[]) λx2=>.rl (cI .i64) v5<|.rl (cI .i64) v7<|.call (Zld v5 v7 x2) λx4=>.lb 1010<|.br (decide (x4<0)) (.ret (v6,c0) [.relab 20006 5000])<|.callU (XK c0 x4 v1) [0,1,2,3,4] 550000 λx7=>.dr [.lit]<|.apR (cI .i64) 8 v6 [x4] λx9=>.callW (Zlp v5 x4) [20005] 620000 (λ_=>⟨rfl,ou (cI .i64) (λ_=>rfl) _,ab⟩) λx12=>.go (.L1 x7 v1 x12 x9 v7) [.relab 625000 20005])<|.ret (v6,c0) [.relab 20006 5000]
def JS(b0:ak)(a1:Int):LT nZ ((List Int)×ak):=
.br (a1==7) (.callU (Zle b0) [0,1,2,3,4] 150000 λx2=>.len cb x2.forces<|.go (.L0 x2 a1 ([]:List Int) ([]:List Int) ([]:List Int) x2.forces (x2.forces.length:Int) 0) [.own 5 20005 1,.own 6 20006 1,.own 7 20007 1])<|.len cb b0.forces<|.go (.L0 b0 a1 ([]:List Int) ([]:List Int) ([]:List Int) b0.forces (b0.forces.length:Int) 0) [.own 5 20005 1,.own 6 20006 1,.own 7 20007 1]
def u6:LF nZ ((List Int)×ak) :=.m 35 [.t 4] true (λr=>[(5000,wR (cI .i64) 1 r.1),(0,.box (tm0 r.2)),(1,wR av 17 r.2.traits),(2,wR cB 1 r.2.dropped),(3,wR cB 1 r.2.done),(4,wR (cL (cI .i64)) 1 r.2.hits)]) (λr=>(wO (cI .i64) 5000 r.1)) λ|.L0 c0 v1 v5 v6 v7 v18 v19 v20=>([1,1,1,0,1,4],⟨63,[(0,.bptr 0 0),(1,wI v1),(5,wO (cI .i64) 20005 v5),(6,wO (cI .i64) 20006 v6),(7,wO (cI .i64) 20007 v7),(18,wL cb v18),(19,wI v19),(20,wI v20)],[(0,.box (tm0 c0)),(1,wR av 17 c0.traits),(2,wR cB 1 c0.dropped),(3,wR cB 1 c0.done),(4,wR (cL (cI .i64)) 1 c0.hits),(20005,wR (cI .i64) 1 v5),(20006,wR (cI .i64) 1 v6),(20007,wR (cI .i64) 1 v7)]⟩,JT c0 v1 v5 v6 v7 v18 v19 v20)|.L1 c0 v1 v5 v6 v7=>([1,1,1,1,0,4],⟨63,[(0,.bptr 0 0),(1,wI v1),(5,wO (cI .i64) 20005 v5),(6,wO (cI .i64) 20006 v6),(7,wO (cI .i64) 20007 v7)],[(0,.box (tm0 c0)),(1,wR av 17 c0.traits),(2,wR cB 1 c0.dropped),(3,wR cB 1 c0.done),(4,wR (cL (cI .i64)) 1 c0.hits),(20005,wR (cI .i64) 1 v5),(20006,wR (cI .i64) 1 v6),(20007,wR (cI .i64) 1 v7)]⟩,JV c0 v1 v5 v6 v7)
def JR:=λb0 a1=>u6.run (JS b0 a1)
def Bw(b0)(a1){r}(h:JR b0 a1=some r):FnG PR 35 [(0,.box (tm0 b0)),(1,wR av 17 b0.traits),(2,wR cB 1 b0.dropped),(3,wR cB 1 b0.done),(4,wR (cL (cI .i64)) 1 b0.hits)] [.bptr 0 0,wI a1] [(5000,wR (cI .i64) 1 r.1),(0,.box (tm0 r.2)),(1,wR av 17 r.2.traits),(2,wR cB 1 r.2.dropped),(3,wR cB 1 r.2.done),(4,wR (cL (cI .i64)) 1 r.2.hits)] (wO (cI .i64) 5000 r.1):=u6.fn h
inductive Z70 where
 |L0 (E0:ak) (v6:Int)
def Zlq(E0:ak)(v6:Int):LT Z70 (List ae):=
.br (decide (v6<=8)) (.callU (Bw E0 v6) [3000,40020,40021,40022,40023] 170000 λx2=>.g0 (.L0 x2.2 (IntKind.wrap .i64 (v6+1))))<|.ret E0.traits [.relab 40020 5000]
def Zlr(a0:List an)(a1:ao):LT Z70 (List ae):=
.lb 1003<|.callF (Z53 a0 a1) 100000 λx1=>.go (.L0 x1 1) [.relab 105000 3000,.relab 105021 40020,.relab 105022 40021,.relab 105023 40022,.relab 105024 40023]
def XN:LF Z70 (List ae) :=.m 17 [.t 4] true (λr=>[(5000,wR av 17 r)]) (λr=>(wO av 5000 r)) λ|.L0 E0 v6=>([1,1,0,1,4],⟨21,[(5,.bptr 3000 0),(6,wI v6)],((3000,.box (tm7 E0 40000))::(tm19 E0 40000))⟩,Zlq E0 v6)
def XO:=λa0 a1=>XN.run (Zlr a0 a1)
def Zls(a0)(a1){r}(h:XO a0 a1=some r):FnG PR 17 [] [wL bf a0,wA (Z1 a1)] [(5000,wR av 17 r)] (wO av 5000 r):=XN.fn h
def Zlt(a0:List an)(a1:ao){r:List ae}(h:XO a0 a1=some r):Fn PR 17 [wL bf a0,wA (Z1 a1)] (wL av r):=FnG.frozen (C:=LT.RL av r/\True) (Zls a0 a1 h) ⟨rfl,ab⟩ bp
def Zlu:LT Empty Bool:=
.dr [.lit]<|.dr [.lit]<|.dr [.lit]<|.dr [.lit]<|.call (Zz [(⟨0,0,0,0,0,false,false,false,false,0,(⟨1,0,0⟩:A3 Int),0,0,0,false,0,0⟩:aj),(⟨0,1,0,0,0,false,false,false,false,0,(⟨0,0,0⟩:A3 Int),0,0,0,false,0,0⟩:aj)]) λx3=>.lb 1002<|.call (Zlt [(⟨([97]:By),false,(⟨0,0,(⟨0,0,0,0,0⟩:A5 Int)⟩:aK),0,(⟨0,1,([]:Bys)⟩:aI),2,2,0,([]:List ar)⟩:an),(⟨([98]:By),false,(⟨0,0,(⟨0,0,0,0,0⟩:A5 Int)⟩:aK),0,(⟨0,16,([]:Bys)⟩:aI),0,0,0,[(⟨1,(⟨0,0,0,1,0,0,0,([]:By),0,0,(⟨0,0⟩:ah),(⟨0,0⟩:ah),(⟨0,0⟩:ah)⟩:al),[(⟨13,1,1,([]:By),(⟨0,0,0,0,0,0,0,([]:By),0,0,(⟨0,0⟩:ah),(⟨0,0⟩:ah),(⟨0,0⟩:ah)⟩:al)⟩:af)],(⟨(⟨0,0,(⟨0,0,0,0,0⟩:A5 Int)⟩:aK),false,false,0⟩:iY),false,(⟨0,0,(⟨0,0,0,0,0,0,0,([]:By),0,0,(⟨0,0⟩:ah),(⟨0,0⟩:ah),(⟨0,0⟩:ah)⟩:al)⟩:fN),false,([]:List ck),([]:List aZ),(⟨0,0,(⟨0,0,0,0,0,0,0,([]:By),0,0,(⟨0,0⟩:ah),(⟨0,0⟩:ah),(⟨0,0⟩:ah)⟩:al),0,0,0,0⟩:dx)⟩:ar)]⟩:an)] x3) λx5=>.call (Z52 [(⟨([97]:By),false,(⟨0,0,(⟨0,0,0,0,0⟩:A5 Int)⟩:aK),0,(⟨0,1,([]:Bys)⟩:aI),2,2,0,([]:List ar)⟩:an),(⟨([98]:By),false,(⟨0,0,(⟨0,0,0,0,0⟩:A5 Int)⟩:aK),0,(⟨0,16,([]:Bys)⟩:aI),0,0,0,[(⟨1,(⟨0,0,0,1,0,0,0,([]:By),0,0,(⟨0,0⟩:ah),(⟨0,0⟩:ah),(⟨0,0⟩:ah)⟩:al),[(⟨13,1,1,([]:By),(⟨0,0,0,0,0,0,0,([]:By),0,0,(⟨0,0⟩:ah),(⟨0,0⟩:ah),(⟨0,0⟩:ah)⟩:al)⟩:af)],(⟨(⟨0,0,(⟨0,0,0,0,0⟩:A5 Int)⟩:aK),false,false,0⟩:iY),false,(⟨0,0,(⟨0,0,0,0,0,0,0,([]:By),0,0,(⟨0,0⟩:ah),(⟨0,0⟩:ah),(⟨0,0⟩:ah)⟩:al)⟩:fN),false,([]:List ck),([]:List aZ),(⟨0,0,(⟨0,0,0,0,0,0,0,([]:By),0,0,(⟨0,0⟩:ah),(⟨0,0⟩:ah),(⟨0,0⟩:ah)⟩:al),0,0,0,0⟩:dx)⟩:ar)]⟩:an)] x3) λx7=>.len av x5<|.cs ((x5.length:Int)==2) (.k2 0<|.idx av x5 0 λx11=>.k4 0<|.cs (x11.Power==4) (.k2 1<|.ag av x11 0<|.k4 1<|.cs (x11.Tough==4) (.k2 2<|.idx av x5 1 λx15=>.k4 2<|.cs (x15.Name==([98]:By)) (.k2 3<|.len cb x7<|.k2 3<|.cs ((x7.length:Int)==1) (.k2 4<|.idx cb x7 0 λx20=>.k4 4<|.rt (x20.Source==2))<|.k5 4<|.kg 4<|.rt false)<|.k4 3<|.b5 false<|.kb false<|.rt false)<|.k5 2<|.kg 2<|.b8 false<|.b2 false<|.rt false)<|.k5 1<|.kg 1<|.b16 false<|.rt false)<|.k5 0<|.kg 0<|.b16 false<|.b5 false<|.kb false<|.rt false
def XP:LF Empty Bool :=.z0 11 [.t 0] wB
def J0:=XP.run (Zlu)
def OJ{r}(h:J0=some r):Fn PR 11 [] (wB r):=XP.fn h
inductive rb where
 |L0 (E0:aK) (v3:Int) (v4:Int) (v5:Int)
def J5(E0:aK)(v3:Int)(v4:Int)(v5:Int):LT rb Int:=
.br (decide (v5<5)) (.idA (aa.int .i64) (A5.list E0.Color) v5 (bx (cu E0)) 2 7 λx2=>.ldC (aa.int .i64) 16 x2 0<|.br (decide (x2>0)) (.g0 (.L0 E0 (IntKind.wrap .i64 (v3+v4)) (IntKind.wrap .i64 (2*v4)) (IntKind.wrap .i64 (v5+1))))<|.g0 (.L0 E0 v3 (IntKind.wrap .i64 (2*v4)) (IntKind.wrap .i64 (v5+1))))<|.rt v3
def J3(a0:aK):LT rb Int:=
.lb 1001<|.call (pC a0) λx1=>.br (!x1) (.rt 0)<|.go (.L0 a0 0 1 0) [.relab 1001 3000]
def Z3q:LF rb Int :=.m0 67 [.t 2] wI λ|.L0 E0 v3 v4 v5=>([1,1,1,1,0,1,4],⟨24,[(1,.bptr 3000 0),(3,wI v3),(4,wI v4),(5,wI v5)],[(3000,.box (bx (cu E0)))]⟩,J5 E0 v3 v4 v5)
def J2:=λa0=>Z3q.run (J3 a0)
def Zlv(a0){r}(h:J2 a0=some r):Fn PR 67 [wA (cu a0)] (wI r):=Z3q.fn h
inductive re where
 |L0 (E0:ar) (E1:ar) (E2:ar) (v4:Int)
def Ka(E0:ar)(E1:ar)(E2:ar)(v4:Int):LT re ar:=
.len bj E0.Effects<|.br (decide (v4<(E0.Effects.length:Int))) (.idx bj E0.Effects v4 λx3=>.lb 1005<|.lb 1030<|.apR ay 176 ([]:List af) x3.Mods λx5=>.dr [.ahead 38,.pick [37,36,35,34,33,32,31,5,29,28,27,26,25,22,21,20,19,18,1,2,3,4] [1005,1030,3000,3001,40117,40148,40149,3002,40217,40248,40249],.frz 1030,.stop]<|.rl ay x5<|.rl ay x5<|.rl ay x5<|.dr [.lit]<|.apR bj 560 E2.Effects [(⟨x3.Op,x3.Ref,x3.Amount,x3.Counter,x3.Zone,x3.Card,x3.Filter,x3.Pool,x5⟩:aZ)] λx8=>.g0 (.L0 E0 E1 (⟨E2.Kind,E2.Filter,E2.Mods,E2.Price,E2.Slow,E2.Trigger,E2.May,E2.Specs,x8,E2.Replace⟩:ar) (IntKind.wrap .i64 (v4+1))))<|.ret E2 [.relab 40217 5017,.relab 40248 5048,.relab 40249 5049]
def J8(a0:ar):LT re ar:=
.lb 1001<|.lb 1002<|.lb 1003<|.lb 1007<|.apR ay 176 ([]:List af) a0.Mods λx1=>.lb 1012<|.apR cn 144 ([]:List ck) a0.Specs λx4=>.go (.L0 a0 (⟨0,(⟨0,0,0,0,0,0,0,([]:By),0,0,(⟨0,0⟩:ah),(⟨0,0⟩:ah),(⟨0,0⟩:ah)⟩:al),([]:List af),(⟨(⟨0,0,(⟨0,0,0,0,0⟩:A5 Int)⟩:aK),false,false,0⟩:iY),false,(⟨0,0,(⟨0,0,0,0,0,0,0,([]:By),0,0,(⟨0,0⟩:ah),(⟨0,0⟩:ah),(⟨0,0⟩:ah)⟩:al)⟩:fN),false,([]:List ck),([]:List aZ),(⟨0,0,(⟨0,0,0,0,0,0,0,([]:By),0,0,(⟨0,0⟩:ah),(⟨0,0⟩:ah),(⟨0,0⟩:ah)⟩:al),0,0,0,0⟩:dx)⟩:ar) (⟨a0.Kind,a0.Filter,x1,a0.Price,a0.Slow,a0.Trigger,a0.May,x4,([]:List aZ),a0.Replace⟩:ar) 0) [.relab 1001 3000,.relab 1002 3001,.relab 1003 3002,.ownb 3001 17 40117 20,.ownb 3001 48 40148 18,.ownb 3001 49 40149 64,.relab 1007 40217,.relab 1012 40248,.ownb 3002 49 40249 64]
def Z0b:LF re ar :=.m 68 [.c 2 89 true 72] true (λr=>(tm17 r 5000)) (λr=>(.agg (tm1 r 5000))) λ|.L0 E0 E1 E2 v4=>([1,1,1,1,1,0,1,4],⟨42,[(1,.bptr 3000 0),(2,.bptr 3001 0),(3,.bptr 3002 0),(4,wI v4)],((3000,.box (bx (aC E0)))::(3001,.box (tm1 E1 40100))::(40117,wR ay 20 E1.Mods)::(40148,wR cn 18 E1.Specs)::(40149,wR bj 64 E1.Effects)::(3002,.box (tm1 E2 40200))::(tm17 E2 40200))⟩,Ka E0 E1 E2 v4)
def Z71:=λa0=>Z0b.run (J8 a0)
def Zlw(a0){r}(h:Z71 a0=some r):FnG PR 68 [] [wA (aC a0)] (tm17 r 5000) (.agg (tm1 r 5000)):=Z0b.fn h
def Zlx(a0:ar){r:ar}(h:Z71 a0=some r):Fn PR 68 [wA (aC a0)] (wA (aC r)):=FnG.frozen (C:=LT.RL ay r.Mods/\LT.RL cn r.Specs/\LT.RL bj r.Effects/\True) (Zlw a0 h) ⟨rfl,rfl,rfl,ab⟩ bp
inductive rf where
 |L0 (E0:an) (E1:ae) (E2:ae) (v4:Int)
def Kg(E0:an)(E1:ae)(E2:ae)(v4:Int):LT rf ae:=
.len aC E0.Abilities<|.br (decide (v4<(E0.Abilities.length:Int))) (.idx aC E0.Abilities v4 λx3=>.call (Zlx x3) λx5=>.dr [.lit]<|.apR aC 640 E2.Abilities [x5] λx7=>.g0 (.L0 E0 E1 (⟨E2.Name,E2.Cost,E2.Colors,E2.Line,E2.Power,E2.Tough,E2.Keys,x7,E2.Control⟩:ae) (IntKind.wrap .i64 (v4+1))))<|.ret E2 [.relab 40211 5011,.relab 40215 5015]
def Kd(a0:an):LT rf ae:=
.lb 1001<|.lb 1002<|.call (Zlv a0.Cost) λx1=>.lb 1003<|.lb 1024<|.apR cS 16 ([]:Bys) a0.Line.Subs λx3=>.go (.L0 a0 (⟨([]:By),(⟨0,0,(⟨0,0,0,0,0⟩:A5 Int)⟩:aK),0,(⟨0,0,([]:Bys)⟩:aI),0,0,0,([]:List ar),0⟩:ae) (⟨a0.Name,a0.Cost,aQ .or .i64 x1 a0.Color,(⟨a0.Line.Super,a0.Line.Types,x3⟩:aI),a0.Power,a0.Tough,a0.Keys,([]:List ar),0⟩:ae) 0) [.relab 1001 3000,.relab 1002 3001,.relab 1003 3002,.ownb 3001 11 40111 1,.ownb 3001 15 40115 72,.relab 1024 40211,.ownb 3002 15 40215 72]
def Z0c:LF rf ae :=.m 40 [.c 2 66 true 17] true (λr=>[(5011,wR cS 1 r.Line.Subs),(5015,wR aC 72 r.Abilities)]) (λr=>(.agg (tm2 r 5000))) λ|.L0 E0 E1 E2 v4=>([1,1,1,0,1,4],⟨50,[(1,.bptr 3000 0),(2,.bptr 3001 0),(3,.bptr 3002 0),(4,wI v4)],[(3000,.box (bx (bf E0))),(3001,.box (tm2 E1 40100)),(40111,wR cS 1 E1.Line.Subs),(40115,wR aC 72 E1.Abilities),(3002,.box (tm2 E2 40200)),(40211,wR cS 1 E2.Line.Subs),(40215,wR aC 72 E2.Abilities)]⟩,Kg E0 E1 E2 v4)
def Kc:=λa0=>Z0c.run (Kd a0)
def Zly(a0){r}(h:Kc a0=some r):FnG PR 40 [] [wA (bf a0)] [(5011,wR cS 1 r.Line.Subs),(5015,wR aC 72 r.Abilities)] (.agg (tm2 r 5000)):=Z0c.fn h
inductive n4 where
 |L0 (v0:List an) (E0:aj) (E1:ae) (v5:Int)
 |L1 (E0:aj) (E1:ae) (E2:ae)
def n5(E0:aj)(E1:ae)(E2:ae):LT n4 ae:=
.cs (E0.Zone==0) (.k4 0<|.kn [0]<|.ret (⟨E2.Name,E2.Cost,E2.Colors,E2.Line,E2.Power,E2.Tough,E2.Keys,E2.Abilities,E0.Control⟩:ae) [.relab 40211 5011,.relab 40215 5015])<|.k4 0<|.br (E0.Zone==5) (.ret (⟨E2.Name,E2.Cost,E2.Colors,E2.Line,E2.Power,E2.Tough,E2.Keys,E2.Abilities,E0.Control⟩:ae) [.relab 40211 5011,.relab 40215 5015])<|.ret (⟨E2.Name,E2.Cost,E2.Colors,E2.Line,E2.Power,E2.Tough,E2.Keys,E2.Abilities,E0.Owner⟩:ae) [.relab 40211 5011,.relab 40215 5015]
def ri(v0:List an)(E0:aj)(E1:ae)(v5:Int):LT n4 ae:=
.lb 1006<|.cs (decide (v5>=0)) (.k3 0<|.len bf v0<|.k2 0<|.br (decide (v5<(v0.length:Int))) (.idx bf v0 v5 λx4=>.callF (Zly x4) 260000 λx6=>.jn 0 (.L1 E0 E1 x6) [.relab 1006 3002,.relab 265011 40211,.relab 265015 40215] (n5 E0 E1 x6))<|.jn 0 (.L1 E0 E1 (⟨([]:By),(⟨0,0,(⟨0,0,0,0,0⟩:A5 Int)⟩:aK),0,(⟨0,0,([]:Bys)⟩:aI),0,0,0,([]:List ar),0⟩:ae)) (tm15 1000 3000 40200) (n5 E0 E1 (⟨([]:By),(⟨0,0,(⟨0,0,0,0,0⟩:A5 Int)⟩:aK),0,(⟨0,0,([]:Bys)⟩:aI),0,0,0,([]:List ar),0⟩:ae)))<|.k5 0<|.kn [0]<|.jn 0 (.L1 E0 E1 (⟨([]:By),(⟨0,0,(⟨0,0,0,0,0⟩:A5 Int)⟩:aK),0,(⟨0,0,([]:Bys)⟩:aI),0,0,0,([]:List ar),0⟩:ae)) (tm15 1000 3000 40200) (n5 E0 E1 (⟨([]:By),(⟨0,0,(⟨0,0,0,0,0⟩:A5 Int)⟩:aK),0,(⟨0,0,([]:Bys)⟩:aI),0,0,0,([]:List ar),0⟩:ae))
def Kl(a0:List an)(a1:aj):LT n4 ae:=
.lb 1003<|.lb 1004<|.br (decide (a1.Copy<0)) (.jn 0 (.L0 a0 a1 (⟨([]:By),(⟨0,0,(⟨0,0,0,0,0⟩:A5 Int)⟩:aK),0,(⟨0,0,([]:Bys)⟩:aI),0,0,0,([]:List ar),0⟩:ae) a1.Card) (tm14 1000 3000 40100) (ri a0 a1 (⟨([]:By),(⟨0,0,(⟨0,0,0,0,0⟩:A5 Int)⟩:aK),0,(⟨0,0,([]:Bys)⟩:aI),0,0,0,([]:List ar),0⟩:ae) a1.Card))<|.jn 0 (.L0 a0 a1 (⟨([]:By),(⟨0,0,(⟨0,0,0,0,0⟩:A5 Int)⟩:aK),0,(⟨0,0,([]:Bys)⟩:aI),0,0,0,([]:List ar),0⟩:ae) a1.Copy) (tm14 1000 3000 40100) (ri a0 a1 (⟨([]:By),(⟨0,0,(⟨0,0,0,0,0⟩:A5 Int)⟩:aK),0,(⟨0,0,([]:Bys)⟩:aI),0,0,0,([]:List ar),0⟩:ae) a1.Copy)
def XQ:LF n4 ae :=.m 22 [.c 4 66 true 17] true (λr=>[(5011,wR cS 1 r.Line.Subs),(5015,wR aC 72 r.Abilities)]) (λr=>(.agg (tm2 r 5000))) λ|.L0 v0 E0 E1 v5=>([1,1,1],⟨41,[(0,wL bf v0),(3,.bptr 3000 0),(4,.bptr 3001 0),(5,wI v5)],[(3000,.box (bx (aE E0))),(3001,.box (tm2 E1 40100)),(40111,wR cS 1 E1.Line.Subs),(40115,wR aC 72 E1.Abilities)]⟩,ri v0 E0 E1 v5)|.L1 E0 E1 E2=>([1,1,1,1,1],⟨41,[(3,.bptr 3000 0),(4,.bptr 3001 0),(6,.bptr 3002 0)],[(3000,.box (bx (aE E0))),(3001,.box (tm2 E1 40100)),(40111,wR cS 1 E1.Line.Subs),(40115,wR aC 72 E1.Abilities),(3002,.box (tm2 E2 40200)),(40211,wR cS 1 E2.Line.Subs),(40215,wR aC 72 E2.Abilities)]⟩,n5 E0 E1 E2)
def zN:=λa0 a1=>XQ.run (Kl a0 a1)
def Zlz(a0)(a1){r}(h:zN a0 a1=some r):FnG PR 22 [] [wL bf a0,wA (aE a1)] [(5011,wR cS 1 r.Line.Subs),(5015,wR aC 72 r.Abilities)] (.agg (tm2 r 5000)):=XQ.fn h
def NY(a0:List an)(a1:aj){r:ae}(h:zN a0 a1=some r):Fn PR 22 [wL bf a0,wA (aE a1)] (wA (av r)):=FnG.frozen (C:=LT.RL cS r.Line.Subs/\LT.RL aC r.Abilities/\True) (Zlz a0 a1 h) ⟨rfl,rfl,ab⟩ bp
inductive l8 where
 |L0 (v0:List an) (E0:ao) (v5:List ba) (v6:Int)
 |L1 (v0:List an) (E0:ao) (v5:List ba) (v6:Int) (E1:aj) (E2:ae) (v9:Int)
 |L2 (E0:ao) (v5:List ba) (v11:Int)
def Kq(v0:List an)(E0:ao)(v5:List ba)(v6:Int):LT l8 (List ba):=
.len aE E0.Objects<|.br (decide (v6<(E0.Objects.length:Int))) (.idx aE E0.Objects v6 λx3=>.lb 1007<|.br (x3.Zone != 0) (.g0 (.L0 v0 E0 v5 (IntKind.wrap .i64 (v6+1))))<|.call (NY v0 x3) λx8=>.lb 1008<|.go (.L1 v0 E0 v5 v6 x3 x8 0) [.relab 1007 3001,.relab 1008 3002])<|.g0 (.L2 E0 v5 0)
def Kt(v0:List an)(E0:ao)(v5:List ba)(v6:Int)(E1:aj)(E2:ae)(v9:Int):LT l8 (List ba):=
.len aC E2.Abilities<|.br (decide (v9<(E2.Abilities.length:Int))) (.idx aC E2.Abilities v9 λx3=>.lb 1010<|.br (x3.Kind==1) (.dr [.lit]<|.apR bH 224 v5 [(⟨E1.Id,v9,E1.Control,E1.Stamp,false,([]:List Int),x3.Filter,x3.Mods⟩:ba)] λx6=>.g0 (.L1 v0 E0 x6 v6 E1 E2 (IntKind.wrap .i64 (v9+1))))<|.g0 (.L1 v0 E0 v5 v6 E1 E2 (IntKind.wrap .i64 (v9+1))))<|.g0 (.L0 v0 E0 v5 (IntKind.wrap .i64 (v6+1)))
def Ku(E0:ao)(v5:List ba)(v11:Int):LT l8 (List ba):=
.len cZ E0.Conts<|.br (decide (v11<(E0.Conts.length:Int))) (.idx cZ E0.Conts v11 λx3=>.lb 1012<|.dr [.lit]<|.apR bH 224 v5 [(⟨x3.Source,-1,x3.Control,x3.Stamp,true,x3.Objects,(⟨0,0,0,0,0,0,0,([]:By),0,0,(⟨0,0⟩:ah),(⟨0,0⟩:ah),(⟨0,0⟩:ah)⟩:al),x3.Mods⟩:ba)] λx5=>.g0 (.L2 E0 x5 (IntKind.wrap .i64 (v11+1))))<|.ret v5 [.relab 20005 5000]
def Kp(a0:List an)(a1:ao):LT l8 (List ba):=
.lb 1003<|.lb 1013<|.go (.L0 a0 a1 ([]:List ba) 0) [.relab 1003 3000,.relab 1013 20005]
def rj:LF l8 (List ba) :=.m 13 [.t 4] true (λr=>[(5000,wR bH 23 r)]) (λr=>(wO bH 5000 r)) λ|.L0 v0 E0 v5 v6=>([1,1,0,1,4],⟨89,[(0,wL bf v0),(3,.bptr 3000 0),(5,wO bH 20005 v5),(6,wI v6)],[(3000,.box (bx (Z1 E0))),(20005,wR bH 23 v5)]⟩,Kq v0 E0 v5 v6)|.L1 v0 E0 v5 v6 E1 E2 v9=>([1,1,0,1,4,5,1,0,4,1,1,1,1,4],⟨89,[(0,wL bf v0),(3,.bptr 3000 0),(5,wO bH 20005 v5),(6,wI v6),(7,.bptr 3001 0),(8,.bptr 3002 0),(9,wI v9)],[(3000,.box (bx (Z1 E0))),(20005,wR bH 23 v5),(3001,.box (bx (aE E1))),(3002,.box (bx (av E2)))]⟩,Kt v0 E0 v5 v6 E1 E2 v9)|.L2 E0 v5 v11=>([1,1,1,0,1,4],⟨89,[(3,.bptr 3000 0),(5,wO bH 20005 v5),(11,wI v11)],[(3000,.box (bx (Z1 E0))),(20005,wR bH 23 v5)]⟩,Ku E0 v5 v11)
def zO:=λa0 a1=>rj.run (Kp a0 a1)
def ZlA(a0)(a1){r}(h:zO a0 a1=some r):FnG PR 13 [] [wL bf a0,wA (Z1 a1)] [(5000,wR bH 23 r)] (wO bH 5000 r):=rj.fn h
def Zc6(a0:List an)(a1:ao){r:List ba}(h:zO a0 a1=some r):Fn PR 13 [wL bf a0,wA (Z1 a1)] (wL bH r):=FnG.frozen (C:=LT.RL bH r/\True) (ZlA a0 a1 h) ⟨rfl,ab⟩ bp
inductive rk where
 |L0 (v0:List Int) (v1:List Int) (v5:Int)
def Kz(v0:List Int)(v1:List Int)(v5:Int):LT rk Bool:=
.len (cI .i64) v0<|.br (decide (v5<(v0.length:Int))) (.idx (cI .i64) v0 v5 λx3=>.idx (cI .i64) v1 v5 λx5=>.br (x3 != x5) (.rt false)<|.g0 (.L0 v0 v1 (IntKind.wrap .i64 (v5+1))))<|.rt true
def Kx(a0:List Int)(a1:List Int):LT rk Bool:=
.len (cI .i64) a0<|.len (cI .i64) a1<|.br ((a0.length:Int) != (a1.length:Int)) (.rt false)<|.g0 (.L0 a0 a1 0)
def zR:LF rk Bool :=.m0 14 [.t 4] wB λ|.L0 v0 v1 v5=>([1,1,0,1,4],⟨26,[(0,wL (cI .i64) v0),(1,wL (cI .i64) v1),(5,wI v5)],[]⟩,Kz v0 v1 v5)
def Kw:=λa0 a1=>zR.run (Kx a0 a1)
def Z72(a0)(a1){r}(h:Kw a0 a1=some r):Fn PR 14 [wL (cI .i64) a0,wL (cI .i64) a1] (wB r):=zR.fn h
end
end Go.PW
