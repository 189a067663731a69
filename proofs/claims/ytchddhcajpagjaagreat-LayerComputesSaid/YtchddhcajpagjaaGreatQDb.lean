import Derived.Test.YtchddhcajpagjaaGreatQDa
set_option linter.all false
set_option maxRecDepth 100000
namespace Go.PW
open Go.RowKit
noncomputable section
inductive tf where
 |L0 (v0:List aq) (E0:ak) (v19:List aj) (v20:Int) (v21:Int)
def VC(v0:List aq)(E0:ak)(v19:List aj)(v20:Int)(v21:Int):LT tf ak:=
.br (decide (v21<v20)) (.idx aH v19 v21 λx2=>.lb 1007<|.call (J5 v0 x2) λx4=>.dr [.lit]<|.apR ao 176 E0.traits [x4] λx6=>.g0 (.L0 v0 (⟨E0.s,E0.forces,x6,E0.dropped,E0.done,E0.hits⟩:ak) v19 v20 (IntKind.wrap .i64 (v21+1))))<|.len cf E0.forces<|.mk cB 1045 1 false (E0.forces.length:Int) (E0.forces.length:Int) λx12=>.len cf E0.forces<|.mk (cL (cI .i64)) 1051 24 [] (E0.forces.length:Int) (E0.forces.length:Int) λx14=>.ret (⟨E0.s,E0.forces,E0.traits,E0.dropped,x12,x14⟩:ak) [.relab 3000 5000,.relab 40020 5021,.relab 40021 5022,.relab 1045 5023,.relab 1051 5024]
def VB(a0:List aq)(a1:av):LT tf ak:=
.lb 1003<|.call (Z6d a0 a1) λx1=>.len aH a1.Objects<|.mk cB 1015 1 false (a1.Objects.length:Int) (a1.Objects.length:Int) λx4=>.lb 1017<|.len aH a1.Objects<|.go (.L0 a0 (⟨a1,x1,([]:List ab),x4,([]:List Bool),([]:List (List Int))⟩:ak) a1.Objects (a1.Objects.length:Int) 0) [.relab 1017 3000,.ownb 3000 20 40020 17,.relab 1015 40021,.ownb 3000 22 40022 1,.ownb 3000 23 40023 1]
def Z0j:LF tf ak :=.m 34 [.t 4] true (λr=>[(5000,.box (tm5 r 5000)),(5021,wR ao 17 r.traits),(5022,wR cB 1 r.dropped),(5023,wR cB 1 r.done),(5024,wR (cL (cI .i64)) 1 r.hits)]) (λr=>(.bptr 5000 0)) λ|.L0 v0 E0 v19 v20 v21=>([1,1,0,1,4],⟨57,[(0,wL Z0 v0),(5,.bptr 3000 0),(19,wL aH v19),(20,wI v20),(21,wI v21)],((3000,.box (tm7 E0 40000))::(tm19 E0 40000))⟩,VC v0 E0 v19 v20 v21)
def VA:=λa0 a1=>Z0j.run (VB a0 a1)
def ZB3(a0)(a1){r}(h:VA a0 a1=some r):FnG PR 34 [] [wL Z0 a0,wA (Z6 a1)] [(5000,.box (tm5 r 5000)),(5021,wR ao 17 r.traits),(5022,wR cB 1 r.dropped),(5023,wR cB 1 r.done),(5024,wR (cL (cI .i64)) 1 r.hits)] (.bptr 5000 0):=Z0j.fn h
def Z79(a0:Int):LT Empty Int:=
.rt (minI (maxI a0 (-1000000)) 1000000)
def YG:LF Empty Int :=.z0 143 [.t 2] wI
def Z6e:=λa0=>YG.run (Z79 a0)
def jr(a0){r}(h:Z6e a0=some r):Fn PR 143 [wI a0] (wI r):=YG.fn h
def VE(a0:Int)(a1:Int):LT Empty Int:=
.call (jr a0) λx1=>.call (jr a1) λx3=>.call (jr (IntKind.wrap .i64 (x1-x3))) λx7=>.rt x7
def YH:LF Empty Int :=.z0 142 [.t 4] wI
def VD:=λa0 a1=>YH.run (VE a0 a1)
def ZB4(a0)(a1){r}(h:VD a0 a1=some r):Fn PR 142 [wI a0,wI a1] (wI r):=YH.fn h
def Z6f(a0:A3 Int):LT Empty Int:=
.lb 1001<|.idA (aa.int .i64) (A3.list a0) 0 (bx ((cA3 (cI .i64)) a0)) 0 3 λx1=>.ldC (aa.int .i64) 4 x1 0<|.idA (aa.int .i64) (A3.list a0) 1 (bx ((cA3 (cI .i64)) a0)) 0 3 λx3=>.ldC (aa.int .i64) 6 x3 1<|.call (ZB4 x1 x3) λx5=>.rt x5
def Z6g:LF Empty Int :=.z0 91 [.t 2] wI
def VF:=λa0=>Z6g.run (Z6f a0)
def ZB5(a0){r}(h:VF a0=some r):Fn PR 91 [wA ((cA3 (cI .i64)) a0)] (wI r):=Z6g.fn h
def Ce(a0:Int)(a1:Int):LT Empty Int:=
.call (jr a0) λx1=>.call (jr a1) λx3=>.call (jr (IntKind.wrap .i64 (x1+x3))) λx7=>.rt x7
def YI:LF Empty Int :=.z0 92 [.t 4] wI
def wN:=λa0 a1=>YI.run (Ce a0 a1)
def ug(a0)(a1){r}(h:wN a0 a1=some r):Fn PR 92 [wI a0,wI a1] (wI r):=YI.fn h
inductive mY where
 |L0 (v0:Int) (v3:Int) (v6:Bool)
 |L1 (v0:Int) (v3:Int) (v11:Bool)
 |L2 (v0:Int) (v3:Int) (v14:Bool)
def pe(v0:Int)(v3:Int)(v14:Bool):LT mY Int:=
.br v14 (.rt 4)<|.br (v3==11) (.kn [2]<|.rt (IntKind.wrap .i64 ((IntKind.wrap .i64 (5+v0))-11)))<|.br (v3==12) (.kn [3]<|.rt (IntKind.wrap .i64 ((IntKind.wrap .i64 (5+v0))-11)))<|.br (v3==13) (.kn [4]<|.rt (IntKind.wrap .i64 ((IntKind.wrap .i64 (5+v0))-11)))<|.br (v3==14) (.rt (IntKind.wrap .i64 ((IntKind.wrap .i64 (5+v0))-11)))<|.rt 0
def tg(v0:Int)(v3:Int)(v11:Bool):LT mY Int:=
.br v11 (.rt 3)<|.br (v3==8) (.j0 (.L2 v0 v3 (v3==8)) (pe v0 v3 (v3==8)))<|.br (v3==9) (.j0 (.L2 v0 v3 (v3==9)) (pe v0 v3 (v3==9)))<|.j0 (.L2 v0 v3 (v3==10)) (pe v0 v3 (v3==10))
def mZ(v0:Int)(v3:Int)(v6:Bool):LT mY Int:=
.br v6 (.rt 2)<|.br (v3==6) (.j0 (.L1 v0 v3 (v3==6)) (tg v0 v3 (v3==6)))<|.j0 (.L1 v0 v3 (v3==7)) (tg v0 v3 (v3==7))
def VH(a0:Int):LT mY Int:=
.br (a0==1) (.rt 1)<|.br (a0==2) (.j0 (.L0 a0 a0 (a0==2)) (mZ a0 a0 (a0==2)))<|.br (a0==3) (.j0 (.L0 a0 a0 (a0==3)) (mZ a0 a0 (a0==3)))<|.br (a0==4) (.j0 (.L0 a0 a0 (a0==4)) (mZ a0 a0 (a0==4)))<|.j0 (.L0 a0 a0 (a0==5)) (mZ a0 a0 (a0==5))
def YJ:LF mY Int :=.m0 95 [.t 2] wI λ|.L0 v0 v3 v6=>([1,0,1,4,1,3,1],⟨26,[(0,wI v0),(3,wI v3),(6,wB v6)],[]⟩,mZ v0 v3 v6)|.L1 v0 v3 v11=>([1,0,1,4,1,3,1,3,1],⟨26,[(0,wI v0),(3,wI v3),(11,wB v11)],[]⟩,tg v0 v3 v11)|.L2 v0 v3 v14=>([1,0,1,4,1,3,1,3,1,3,1],⟨26,[(0,wI v0),(3,wI v3),(14,wB v14)],[]⟩,pe v0 v3 v14)
def VG:=λa0=>YJ.run (VH a0)
def yj(a0){r}(h:VG a0=some r):Fn PR 95 [wI a0] (wI r):=YJ.fn h
def VJ(a0:af)(b0:Int):LT Empty Bool:=
.lb 1002<|.call (yj a0.Kind) λx1=>.rt (x1==b0)
def YK(b0:Int):LF Empty Bool :=.z 94 [.t 3] true (λr=>[(0,.box (bx ((cI .i64) b0)))]) (λr=>(wB r))
def VI(a0:af)(b0:Int):Option Bool:=(YK b0).run (VJ a0 b0)
def Z3o(a0:af)(b0:Int){r:Bool}(h:VI a0 b0=some r):FnG PR 94 [(0,.box (bx ((cI .i64) b0)))] [wA (ax a0),.bptr 0 0] [(0,.box (bx ((cI .i64) b0)))] (wB r):=(YK b0).fn h
inductive th where
 |L0 (v0:List af) (c0:Int) (v7:Int) (v8:Int)
def VM(v0:List af)(c0:Int)(v7:Int)(v8:Int):LT th (Int×Int):=
.br (decide (v8<v7)) (.idx ax v0 v8 λx2=>.callO (Z3o x2 c0) [0] 170000 (λx=>[]) λx4=>.br x4 (.rt (v8,c0))<|.g0 (.L0 v0 c0 v7 (IntKind.wrap .i64 (v8+1))))<|.rt ((-1),c0)
def VL(a0:List af)(b0:Int):LT th (Int×Int):=
.len ax a0<|.g0 (.L0 a0 b0 (a0.length:Int) 0)
def D9:LF th (Int×Int) :=.m 144 [.t 4] true (λr=>[(0,.box (bx ((cI .i64) r.2)))]) (λr=>(wI r.1)) λ|.L0 v0 c0 v7 v8=>([1,0,1,4],⟨19,[(0,wL ax v0),(1,.fn 94 [.bptr 0 0]),(7,wI v7),(8,wI v8)],[(0,.box (bx ((cI .i64) c0)))]⟩,VM v0 c0 v7 v8)
def VK:=λa0 b0=>D9.run (VL a0 b0)
def ZB6(a0)(b0){r}(h:VK a0 b0=some r):FnG PR 144 [(0,.box (bx ((cI .i64) b0)))] [wL ax a0,.fn 94 [.bptr 0 0]] [(0,.box (bx ((cI .i64) r.2)))] (wI r.1):=D9.fn h
def VO(a0:List af)(b0:Int):LT Empty (Bool×Int):=
.callU (ZB6 a0 b0) [0] 80000 λx1=>.rt (decide (x1.1>=0),x1.2)
def YL:LF Empty (Bool×Int) :=.z 93 [.t 4] true (λr=>[(0,.box (bx ((cI .i64) r.2)))]) (λr=>(wB r.1))
def VN:=λa0 b0=>YL.run (VO a0 b0)
def ZB7(a0)(b0){r}(h:VN a0 b0=some r):FnG PR 93 [(0,.box (bx ((cI .i64) b0)))] [wL ax a0,.fn 94 [.bptr 0 0]] [(0,.box (bx ((cI .i64) r.2)))] (wB r.1):=YL.fn h
def Z6h(a0:Z2)(a1:Int):LT Empty Bool:=
.lb 1002<|.lb 1003<|.callU (ZB7 a0.Mods a1) [1003] 90000 λx1=>.rt x1.1
def Z6i:LF Empty Bool :=.z0 53 [.t 4] wB
def VP:=λa0 a1=>Z6i.run (Z6h a0 a1)
def ZB8(a0)(a1){r}(h:VP a0 a1=some r):Fn PR 53 [wA (cf a0),wI a1] (wB r):=Z6i.fn h
inductive ti where
 |L0 (v1:Int) (E0:al) (v5:Bool)
def tj(v1:Int)(E0:al)(v5:Bool):LT ti Bool:=
.br (v1==1) (.rt (E0.Who != 0))<|.br (v1==2) (.cs ((aR .or .i64 E0.Types E0.NotTypes) != 0) (.k4 2<|.b2 true<|.rt true)<|.k4 2<|.cs (!(E0.Sub==([]:By))) (.k2 3<|.rt true)<|.k2 3<|.rt v5)<|.br (v1==3) (.rt ((aR .or .i64 E0.Colors E0.NotColors) != 0))<|.br (v1==4) (.rt (E0.Keys != 0))<|.rt v5
def Z1y(a0:al)(a1:Int):LT ti Bool:=
.lb 1002<|.cs (a0.Power.Kind != 0) (.k5 0<|.jn 0 (.L0 a1 a0 true) [.relab 1002 3000] (tj a1 a0 true))<|.k5 0<|.jn 0 (.L0 a1 a0 (a0.Tough.Kind != 0)) [.relab 1002 3000] (tj a1 a0 (a0.Tough.Kind != 0))
def Z1z:LF ti Bool :=.m0 150 [.t 4] wB λ|.L0 v1 E0 v5=>([1,1],⟨52,[(1,wI v1),(2,.bptr 3000 0),(5,wB v5)],[(3000,.box (bx (aU E0)))]⟩,tj v1 E0 v5)
def Z6j:=λa0 a1=>Z1z.run (Z1y a0 a1)
def YM(a0)(a1){r}(h:Z6j a0 a1=some r):Fn PR 150 [wA (aU a0),wI a1] (wB r):=Z1z.fn h
def Z3p(a0:Int):LT Empty Bool:=
.rt (a0 != a0)
def Z3q:LF Empty Bool :=.z0 119 [.t 2] wB
def VU:=λa0=>Z3q.run (Z3p a0)
def Z10(a0){r}(h:VU a0=some r):Fn PR 119 [wI a0] (wB r):=Z3q.fn h
def VV(a0:Int)(a1:Int):LT Empty Int:=
.call (Z10 a0) λx1=>.call (Z10 a1) λx3=>.br x1 (.br x3 (.rt 0)<|.rt (-1))<|.br x3 (.rt 1)<|.br (decide (a0<a1)) (.rt (-1))<|.br (decide (a0>a1)) (.rt 1)<|.rt 0
def YN:LF Empty Int :=.z0 72 [.t 4] wI
def Z3r:=λa0 a1=>YN.run (VV a0 a1)
def ZB9(a0)(a1){r}(h:Z3r a0 a1=some r):Fn PR 72 [wI a0,wI a1] (wI r):=YN.fn h
def Z6k(a0:aj)(a1:Int):LT Empty Int:=
.lb 1002<|.call (ZB9 a0.Id a1) λx1=>.rt x1
def Z6l:LF Empty Int :=.z0 71 [.t 4] wI
def VW:=λa0 a1=>Z6l.run (Z6k a0 a1)
def Z3s(a0)(a1){r}(h:VW a0 a1=some r):Fn PR 71 [wA (aH a0),wI a1] (wI r):=Z6l.fn h
inductive tk where
 |L0 (v0:List aj) (v1:Int) (v8:Int) (v9:Int) (v10:Int)
def V0(v0:List aj)(v1:Int)(v8:Int)(v9:Int)(v10:Int):LT tk (Int×Bool):=
.br (decide (v9<v10)) (.dc (¬(1:Int)<0) rfl<|.idx aH v0 (IntKind.wrap .i64 (shrI .u64 (IntKind.wrap .u64 (IntKind.wrap .i64 (v9+v10))) 1)) λx7=>.call (Z3s x7 v1) λx9=>.br (decide (x9<0)) (.g0 (.L0 v0 v1 v8 (IntKind.wrap .i64 ((IntKind.wrap .i64 (shrI .u64 (IntKind.wrap .u64 (IntKind.wrap .i64 (v9+v10))) 1))+1)) v10))<|.g0 (.L0 v0 v1 v8 v9 (IntKind.wrap .i64 (shrI .u64 (IntKind.wrap .u64 (IntKind.wrap .i64 (v9+v10))) 1))))<|.cs (decide (v9<v8)) (.k4 1<|.idx aH v0 v9 λx15=>.k3 1<|.call (Z3s x15 v1) λx17=>.k2 1<|.rt (v9,x17==0))<|.k8 1<|.kg 1<|.rt (v9,false)
def VY(a0:List aj)(a1:Int):LT tk (Int×Bool):=
.len aH a0<|.g0 (.L0 a0 a1 (a0.length:Int) 0 (a0.length:Int))
def Eb:LF tk (Int×Bool) :=.m0 70 [.t 6,.t 7] (λr=>(.tup [wI r.1,wB r.2])) λ|.L0 v0 v1 v8 v9 v10=>([1,1,1,0,4],⟨49,[(0,wL aH v0),(1,wI v1),(2,.fn 71 []),(8,wI v8),(9,wI v9),(10,wI v10)],[]⟩,V0 v0 v1 v8 v9 v10)
def VX:=λa0 a1=>Eb.run (VY a0 a1)
def ZCa(a0)(a1){r}(h:VX a0 a1=some r):Fn PR 70 [wL aH a0,wI a1,.fn 71 []] (.tup [wI r.1,wB r.2]):=Eb.fn h
def V2(a0:av)(a1:Int):LT Empty Int:=
.lb 1002<|.call (ZCa a0.Objects a1) λx1=>.br (!x1.2) (.rt (-1))<|.rt x1.1
def YO:LF Empty Int :=.z0 42 [.t 4] wI
def V1:=λa0 a1=>YO.run (V2 a0 a1)
def YP(a0)(a1){r}(h:V1 a0 a1=some r):Fn PR 42 [wA (Z6 a0),wI a1] (wI r):=YO.fn h
inductive tl where
 |L0 (v0:List Int) (v1:Int) (v7:Int) (v8:Int)
def V5(v0:List Int)(v1:Int)(v7:Int)(v8:Int):LT tl Int:=
.br (decide (v8<v7)) (.idx (cI .i64) v0 v8 λx2=>.br (v1==x2) (.rt v8)<|.g0 (.L0 v0 v1 v7 (IntKind.wrap .i64 (v8+1))))<|.rt (-1)
def V4(a0:List Int)(a1:Int):LT tl Int:=
.len (cI .i64) a0<|.g0 (.L0 a0 a1 (a0.length:Int) 0)
def Ed:LF tl Int :=.m0 193 [.t 4] wI λ|.L0 v0 v1 v7 v8=>([1,0,1,4],⟨19,[(0,wL (cI .i64) v0),(1,wI v1),(7,wI v7),(8,wI v8)],[]⟩,V5 v0 v1 v7 v8)
def V3:=λa0 a1=>Ed.run (V4 a0 a1)
def EX(a0)(a1){r}(h:V3 a0 a1=some r):Fn PR 193 [wL (cI .i64) a0,wI a1] (wI r):=Ed.fn h
def V8(a0:List Int)(a1:Int):LT Empty Bool:=
.call (EX a0 a1) λx1=>.rt (decide (x1>=0))
def YQ:LF Empty Bool :=.z0 155 [.t 4] wB
def V7:=λa0 a1=>YQ.run (V8 a0 a1)
def YR(a0)(a1){r}(h:V7 a0 a1=some r):Fn PR 155 [wL (cI .i64) a0,wI a1] (wB r):=YQ.fn h
def Z3t(a0:Int)(a1:Int):LT Empty Bool:=
.cs (decide (a0>=0)) (.k4 0<|.rt (decide (a0<=a1)))<|.k4 0<|.rt false
def Z3u:LF Empty Bool :=.z0 245 [.t 4] wB
def EM:=λa0 a1=>Z3u.run (Z3t a0 a1)
def js(a0)(a1){r}(h:EM a0 a1=some r):Fn PR 245 [wI a0,wI a1] (wB r):=Z3u.fn h
inductive Z6m where
 |L0 (v36:List Int) (v37:Int) (v38:Int)
def ua(v36:List Int)(v37:Int)(v38:Int):LT Z6m Bool:=
.br (decide (v38<v37)) (.idx (cI .u8) v36 v38 λx2=>.cs (decide (x2<97)) (.k3 1<|.b3 true<|.cs (decide (x2<48)) (.k2 2<|.kb true<|.kg 2<|.b4 true<|.br (x2 != 45) (.rt false)<|.g0 (.L0 v36 v37 (IntKind.wrap .i64 (v38+1))))<|.k2 2<|.kb true<|.kg 2<|.kb true<|.cs (decide (x2>57)) (.k3 3<|.br (x2 != 45) (.rt false)<|.g0 (.L0 v36 v37 (IntKind.wrap .i64 (v38+1))))<|.k3 3<|.kn [0]<|.g0 (.L0 v36 v37 (IntKind.wrap .i64 (v38+1))))<|.k3 1<|.cs (decide (x2>122)) (.k3 2<|.cs (decide (x2<48)) (.k2 3<|.kg 2<|.kg 3<|.kg 2<|.b3 true<|.br (x2 != 45) (.rt false)<|.g0 (.L0 v36 v37 (IntKind.wrap .i64 (v38+1))))<|.k2 3<|.kg 2<|.kg 3<|.kg 2<|.cs (decide (x2>57)) (.k3 4<|.br (x2 != 45) (.rt false)<|.g0 (.L0 v36 v37 (IntKind.wrap .i64 (v38+1))))<|.k3 4<|.kn [0]<|.g0 (.L0 v36 v37 (IntKind.wrap .i64 (v38+1))))<|.k5 2<|.b3 false<|.kn [0]<|.g0 (.L0 v36 v37 (IntKind.wrap .i64 (v38+1))))<|.rt true
def XX(a0:By):LT Z6m Bool:=
.lenS a0<|.cs ((a0.length:Int)==0) (.k4 0<|.b16 true<|.b2 true<|.kn [0]<|.rt false)<|.k2 0<|.lenS a0<|.k2 0<|.cs (decide ((a0.length:Int)>32)) (.k4 1<|.b8 true<|.b5 true<|.kb true<|.kn [0]<|.rt false)<|.k2 1<|.idxS a0 0 λx4=>.k2 1<|.cs (decide ((UInt8.toNat x4:Int)<97)) (.k4 2<|.b8 true<|.b2 true<|.kn [0]<|.rt false)<|.k2 2<|.idxS a0 0 λx7=>.k2 2<|.cs (decide ((UInt8.toNat x7:Int)>122)) (.k5 3<|.k2 3<|.b3 true<|.kn [0]<|.rt false)<|.k3 3<|.lenS a0<|.k2 3<|.idxS a0 (IntKind.wrap .i64 ((a0.length:Int)-1)) λx12=>.k2 3<|.cs ((UInt8.toNat x12:Int)==45) (.k3 4<|.kn [0]<|.rt false)<|.k2 4<|.call (ZoO a0 ([45,45]:By)) λx15=>.kg 4<|.br x15 (.rt false)<|.bys a0 λx18=>.len (cI .u8) x18<|.g0 (.L0 x18 (x18.length:Int) 0)
def tY:LF Z6m Bool :=.m0 249 [.t 2] wB λ|.L0 v36 v37 v38=>([1,1,0,1,4],⟨61,[(36,wL (cI .u8) v36),(37,wI v37),(38,wI v38)],[]⟩,ua v36 v37 v38)
def ED:=λa0=>tY.run (XX a0)
def ZCb(a0){r}(h:ED a0=some r):Fn PR 249 [wS a0] (wB r):=tY.fn h
def Z3v(a0:Int):LT Empty (By):=
.idX aa.str (A2.list (⟨([98,97,115,105,99]:By),([117,110,105,113,117,101]:By)⟩:A2 (By))) a0 λx1=>.rt x1
def EH:LF Empty (By) :=.z0 251 [.t 2] wS
def EG:=λa0=>EH.run (Z3v a0)
def ZCc(a0){r}(h:EG a0=some r):Fn PR 251 [wI a0] (wS r):=EH.fn h
def Z6n(a0:Int):LT Empty (By):=
.idX aa.str (A6.list (⟨([99,114,101,97,116,117,114,101]:By),([105,110,115,116,97,110,116]:By),([114,105,116,117,97,108]:By),([114,101,108,105,99]:By),([99,104,97,114,109]:By),([108,97,110,100]:By)⟩:A6 (By))) a0 λx1=>.rt x1
def EK:LF Empty (By) :=.z0 252 [.t 2] wS
def Z0k:=λa0=>EK.run (Z6n a0)
def ZCd(a0){r}(h:Z0k a0=some r):Fn PR 252 [wI a0] (wS r):=EK.fn h
inductive EY where
 |L0 (v0:By) (v8:Int) (v9:Int)
def yb(v0:By)(v8:Int)(v9:Int):LT EY Int:=
.br (decide (v9<v8)) (.call (ZCc v9) λx2=>.br (!(x2==v0)) (.g0 (.L0 v0 v8 (IntKind.wrap .i64 (v9+1))))<|.ok (¬v9<0)<|.rt (Z23 .i64 1 v9))<|.rt 0
def X0(a0:By)(a1:Int):LT EY Int:=
.g0 (.L0 a0 a1 0)
def EF:LF EY Int :=.m0 250 [.t 6] wI λ|.L0 v0 v8 v9=>([1,6,1,0,1,4],⟨20,[(0,wS v0),(2,.fn 251 []),(8,wI v8),(9,wI v9)],[]⟩,yb v0 v8 v9)
def EE:=λa0 a1=>EF.run (X0 a0 a1)
def ZCe(a0)(a1){r}(h:EE a0 a1=some r):Fn PR 250 [wS a0,wI a1,.fn 251 []] (wI r):=EF.fn h
inductive EZ where
 |L0 (v0:By) (v8:Int) (v9:Int)
def yc(v0:By)(v8:Int)(v9:Int):LT EZ Int:=
.br (decide (v9<v8)) (.call (ZCd v9) λx2=>.br (!(x2==v0)) (.g0 (.L0 v0 v8 (IntKind.wrap .i64 (v9+1))))<|.ok (¬v9<0)<|.rt (Z23 .i64 1 v9))<|.rt 0
def X1(a0:By)(a1:Int):LT EZ Int:=
.g0 (.L0 a0 a1 0)
def EJ:LF EZ Int :=.m0 250 [.t 6] wI λ|.L0 v0 v8 v9=>([1,6,1,0,1,4],⟨20,[(0,wS v0),(2,.fn 252 []),(8,wI v8),(9,wI v9)],[]⟩,yc v0 v8 v9)
def EI:=λa0 a1=>EJ.run (X1 a0 a1)
def Z0l(a0)(a1){r}(h:EI a0 a1=some r):Fn PR 250 [wS a0,wI a1,.fn 252 []] (wI r):=EJ.fn h
def X2(a0:By):LT Empty Bool:=
.call (ZCb a0) λx1=>.cs x1 (.k2 0<|.call (ZCe a0 2) λx4=>.k2 0<|.cs (x4==0) (.k2 1<|.call (Z0l a0 6) λx7=>.k2 1<|.rt (x7==0))<|.k4 1<|.rt false)<|.k4 0<|.b4 false<|.rt false
def YS:LF Empty Bool :=.z0 204 [.t 2] wB
def Z2e:=λa0=>YS.run (X2 a0)
def Z0m(a0){r}(h:Z2e a0=some r):Fn PR 204 [wS a0] (wB r):=YS.fn h
def Z3w(a0:ah):LT Empty Bool:=
.lb 1001<|.call (js a0.Kind 3) λx1=>.cs x1 (.k3 0<|.call (js a0.N 1000000) λx4=>.kg 0<|.cs x4 (.k4 1<|.cs (a0.Kind != 0) (.k3 2<|.kg 1<|.kg 2<|.kg 1<|.rt true)<|.k3 2<|.kg 1<|.kg 2<|.kg 1<|.rt (a0.N==0))<|.k5 1<|.kg 1<|.rt false)<|.k4 0<|.b5 false<|.kb false<|.rt false
def Z3x:LF Empty Bool :=.z0 246 [.t 2] wB
def EN:=λa0=>Z3x.run (Z3w a0)
def E4(a0){r}(h:EN a0=some r):Fn PR 246 [wA (fm a0)] (wB r):=Z3x.fn h
inductive ye where
 |L0 (E0:al)
def ud(E0:al):LT ye Bool:=
.call (E4 E0.Power) λx1=>.cs x1 (.k3 0<|.call (E4 E0.Tough) λx4=>.kg 0<|.cs x4 (.k3 1<|.call (E4 E0.Value) λx7=>.kg 1<|.rt x7)<|.k4 1<|.rt false)<|.k4 0<|.b4 false<|.rt false
def Ya(a0:al):LT ye Bool:=
.lb 1001<|.call (js a0.Zone 5) λx1=>.cs (!x1) (.k5 0<|.b8 true<|.b5 true<|.b2 true<|.kn [0]<|.rt false)<|.k3 0<|.call (js a0.Who 2) λx4=>.k2 0<|.cs (!x4) (.k5 1<|.b8 true<|.b2 true<|.kn [0]<|.rt false)<|.k3 1<|.call (js a0.Self 2) λx7=>.k2 1<|.cs (!x7) (.k5 2<|.b5 true<|.kn [0]<|.rt false)<|.k3 2<|.call (js a0.Tap 2) λx10=>.k2 2<|.cs (!x10) (.k5 3<|.kn [0]<|.rt false)<|.k3 3<|.call (js a0.Keys 131071) λx13=>.k2 3<|.br (!x13) (.rt false)<|.call (js a0.Types 63) λx16=>.cs (!x16) (.k5 5<|.b5 true<|.b2 true<|.kn [0]<|.rt false)<|.k3 5<|.call (js a0.NotTypes 63) λx19=>.k2 5<|.cs (!x19) (.k5 6<|.k2 6<|.kn [0]<|.rt false)<|.k5 6<|.k2 6<|.br ((aR .and .i64 a0.Types a0.NotTypes) != 0) (.rt false)<|.call (js a0.Colors 31) λx23=>.cs (!x23) (.k5 8<|.b5 true<|.b2 true<|.kn [0]<|.rt false)<|.k3 8<|.call (js a0.NotColors 31) λx26=>.k2 8<|.cs (!x26) (.k5 9<|.k2 9<|.kn [0]<|.rt false)<|.k5 9<|.k2 9<|.br ((aR .and .i64 a0.Colors a0.NotColors) != 0) (.rt false)<|.cs (!(a0.Sub==([]:By))) (.k3 11<|.call (Z0m a0.Sub) λx31=>.k2 11<|.br (!x31) (.rt false)<|.jn 0 (.L0 a0) [.relab 1001 3000] (ud a0))<|.k5 11<|.kn [0]<|.jn 0 (.L0 a0) [.relab 1001 3000] (ud a0)
def ue:LF ye Bool :=.m0 194 [.t 2] wB λ|.L0 E0=>([1,1,1,1,1],⟨89,[(1,.bptr 3000 0)],[(3000,.box (bx (aU E0)))]⟩,ud E0)
def Z6o:=λa0=>ue.run (Ya a0)
def YT(a0){r}(h:Z6o a0=some r):Fn PR 194 [wA (aU a0)] (wB r):=ue.fn h
def Z3y(a0:Int)(a1:Int)(a2:Int):LT Empty Bool:=
.cs (a1==0) (.k5 0<|.b5 true<|.rt ((aR .and .i64 a0 a2)==0))<|.k5 0<|.cs ((aR .and .i64 a0 a1) != 0) (.k5 1<|.rt ((aR .and .i64 a0 a2)==0))<|.k5 1<|.rt false
def Z3z:LF Empty Bool :=.z0 195 [.t 6] wB
def Ci:=λa0 a1 a2=>Z3z.run (Z3y a0 a1 a2)
def Z11(a0)(a1)(a2){r}(h:Ci a0 a1 a2=some r):Fn PR 195 [wI a0,wI a1,wI a2] (wB r):=Z3z.fn h
def Qt(a0:ah)(a1:Int):LT Empty Bool:=
.lb 1002<|.br (a0.Kind==0) (.rt true)<|.br (a0.Kind==1) (.rt (decide (a1>=a0.N)))<|.br (a0.Kind==2) (.rt (decide (a1<=a0.N)))<|.br (a0.Kind==3) (.rt (a1==a0.N))<|.rt false
def YU:LF Empty Bool :=.z0 197 [.t 4] wB
def Ch:=λa0 a1=>YU.run (Qt a0 a1)
def YV(a0)(a1){r}(h:Ch a0 a1=some r):Fn PR 197 [wA (fm a0),wI a1] (wB r):=YU.fn h
inductive uc where
 |L0 (v0:Bys) (v1:By) (v7:Int) (v8:Int)
def ub(v0:Bys)(v1:By)(v7:Int)(v8:Int):LT uc Int:=
.br (decide (v8<v7)) (.idx cS v0 v8 λx2=>.br (v1==x2) (.rt v8)<|.g0 (.L0 v0 v1 v7 (IntKind.wrap .i64 (v8+1))))<|.rt (-1)
def X7(a0:Bys)(a1:By):LT uc Int:=
.len cS a0<|.g0 (.L0 a0 a1 (a0.length:Int) 0)
def yd:LF uc Int :=.m0 263 [.t 4] wI λ|.L0 v0 v1 v7 v8=>([1,0,1,4],⟨19,[(0,wL cS v0),(1,wS v1),(7,wI v7),(8,wI v8)],[]⟩,ub v0 v1 v7 v8)
def X6:=λa0 a1=>yd.run (X7 a0 a1)
def ZCf(a0)(a1){r}(h:X6 a0 a1=some r):Fn PR 263 [wL cS a0,wS a1] (wI r):=yd.fn h
def X5(a0:Bys)(a1:By):LT Empty Bool:=
.call (ZCf a0 a1) λx1=>.rt (decide (x1>=0))
def YW:LF Empty Bool :=.z0 247 [.t 4] wB
def X4:=λa0 a1=>YW.run (X5 a0 a1)
def ZCg(a0)(a1){r}(h:X4 a0 a1=some r):Fn PR 247 [wL cS a0,wS a1] (wB r):=YW.fn h
def X3(a0:aK)(a1:By):LT Empty Bool:=
.lb 1002<|.call (ZCg a0.Subs a1) λx1=>.rt x1
def YX:LF Empty Bool :=.z0 198 [.t 4] wB
def xR:=λa0 a1=>YX.run (X3 a0 a1)
def YY(a0)(a1){r}(h:xR a0 a1=some r):Fn PR 198 [wA (hX a0),wS a1] (wB r):=YX.fn h
def ZCh(a0:Int)(a1:Int):LT Empty Bool:=
.rt ((aR .and .i64 a0 a1)==a1)
def YZ:LF Empty Bool :=.z0 199 [.t 4] wB
def Qv:=λa0 a1=>YZ.run (ZCh a0 a1)
def Y0(a0)(a1){r}(h:Qv a0 a1=some r):Fn PR 199 [wI a0,wI a1] (wB r):=YZ.fn h
def Qp(a0:Int)(a1:Int):LT Empty Int:=
.call (jr a0) λx1=>.call (jr a1) λx3=>.call (jr (IntKind.wrap .i64 (x1*x3))) λx7=>.rt x7
def Y1:LF Empty Int :=.z0 248 [.t 4] wI
def Cf:=λa0 a1=>Y1.run (Qp a0 a1)
def ZCi(a0)(a1){r}(h:Cf a0 a1=some r):Fn PR 248 [wI a0,wI a1] (wI r):=Y1.fn h
inductive Z30 where
 |L0 (v1:Int) (E0:aJ) (v5:Int) (v14:A5 Int) (v15:Int)
def sC(v1:Int)(E0:aJ)(v5:Int)(v14:A5 Int)(v15:Int):LT Z30 Int:=
.br (decide (v15<5)) (.idX (aa.int .i64) (A5.list v14) v15 λx2=>.g0 (.L0 v1 E0 (IntKind.wrap .i64 (v5+x2)) v14 (IntKind.wrap .i64 (v15+1))))<|.call (ZCi E0.X (maxI 0 v1)) λx8=>.call (ug v5 x8) λx10=>.rt x10
def Qs(a0:aJ)(a1:Int):LT Z30 Int:=
.lb 1002<|.call (JU a0) λx1=>.br (!x1) (.rt 0)<|.go (.L0 a1 a0 a0.Generic a0.Color 0) [.relab 1002 3000]
def wP:LF Z30 Int :=.m0 200 [.t 4] wI λ|.L0 v1 E0 v5 v14 v15=>([1,1,1,0,1,4],⟨29,[(1,wI v1),(2,.bptr 3000 0),(5,wI v5),(14,wA ((cA5 (cI .i64)) v14)),(15,wI v15)],[(3000,.box (bx (cc E0)))]⟩,sC v1 E0 v5 v14 v15)
def Cg:=λa0 a1=>wP.run (Qs a0 a1)
def ZCj(a0)(a1){r}(h:Cg a0 a1=some r):Fn PR 200 [wA (cc a0),wI a1] (wI r):=wP.fn h
def Qu(a0:ah)(a1:Int)(b0:Bool):LT Empty Bool:=
.lb 1003<|.cs (a0.Kind==0) (.k4 0<|.rt true)<|.k2 0<|.cs b0 (.k3 1<|.call (YV a0 a1) λx3=>.kg 0<|.kg 1<|.kg 0<|.rt x3)<|.k3 1<|.kg 0<|.kg 1<|.kg 0<|.rt false
def Y2(b0:Bool):LF Empty Bool :=.z 196 [.t 5] true (λr=>[(0,.box (bx (cB b0)))]) (λr=>(wB r))
def Cj(a0:ah)(a1:Int)(b0:Bool):Option Bool:=(Y2 b0).run (Qu a0 a1 b0)
def Y3(a0:ah)(a1:Int)(b0:Bool){r:Bool}(h:Cj a0 a1 b0=some r):FnG PR 196 [(0,.box (bx (cB b0)))] [wA (fm a0),wI a1,.bptr 0 0] [(0,.box (bx (cB b0)))] (wB r):=(Y2 b0).fn h
inductive nb where
 |L0 (v3:Int) (E0:aj) (E1:ab) (E2:al) (E3:Bool) (v30:Bool)
 |L1 (E0:aj) (E1:ab) (E2:al) (E3:Bool) (v49:Bool)
 |L2 (E0:aj) (E1:ab) (E2:al) (E3:Bool) (v68:Bool)
 |L3 (E0:aj) (E1:ab) (E2:al) (E3:Bool) (v88:Bool)
 |L4 (E0:ab) (E1:al) (E2:Bool)
def mB(E0:ab)(E1:al)(E2:Bool):LT nb Bool:=
.callO (Y3 E1.Power E0.Power E2) [3002] 1280000 (λx=>[]) λx1=>.cs x1 (.k5 0<|.kg 0<|.callO (Y3 E1.Tough E0.Tough E2) [3002] 1350000 (λx=>[]) λx4=>.kg 0<|.cs x4 (.k5 1<|.call (ZCj E0.Cost 0) λx7=>.kg 1<|.call (YV E1.Value x7) λx9=>.kg 1<|.rt x9)<|.k5 1<|.k2 1<|.rt false)<|.k5 0<|.k2 0<|.b5 false<|.b2 false<|.rt false
def oM(E0:aj)(E1:ab)(E2:al)(E3:Bool)(v88:Bool):LT nb Bool:=
.br v88 (.rt false)<|.cs (E2.Tap==1) (.k4 1<|.br (!E0.Tapped) (.kn [3]<|.rt false)<|.cs (E2.Tap==2) (.k3 3<|.br E0.Tapped (.rt false)<|.jn 0 (.L4 E1 E2 E3) (tm11 3000) (mB E1 E2 E3))<|.k3 3<|.kn [0]<|.jn 0 (.L4 E1 E2 E3) (tm11 3000) (mB E1 E2 E3))<|.k4 1<|.kn [0]<|.cs (E2.Tap==2) (.k3 2<|.br E0.Tapped (.rt false)<|.jn 0 (.L4 E1 E2 E3) (tm11 3000) (mB E1 E2 E3))<|.k3 2<|.kn [0]<|.jn 0 (.L4 E1 E2 E3) (tm11 3000) (mB E1 E2 E3)
def sE(E0:aj)(E1:ab)(E2:al)(E3:Bool)(v68:Bool):LT nb Bool:=
.br v68 (.rt false)<|.cs (!(E2.Sub==([]:By))) (.k5 1<|.call (YY E1.Line E2.Sub) λx3=>.k2 1<|.br (!x3) (.j0 (.L3 E0 E1 E2 E3 (!x3)) (oM E0 E1 E2 E3 (!x3)))<|.call (Y0 E1.Keys E2.Keys) λx6=>.j0 (.L3 E0 E1 E2 E3 (!x6)) (oM E0 E1 E2 E3 (!x6)))<|.k5 1<|.k2 1<|.kn [0]<|.call (Y0 E1.Keys E2.Keys) λx8=>.j0 (.L3 E0 E1 E2 E3 (!x8)) (oM E0 E1 E2 E3 (!x8))
def la(E0:aj)(E1:ab)(E2:al)(E3:Bool)(v49:Bool):LT nb Bool:=
.br v49 (.rt false)<|.call (Z11 E1.Line.Types E2.Types E2.NotTypes) λx2=>.br (!x2) (.j0 (.L2 E0 E1 E2 E3 (!x2)) (sE E0 E1 E2 E3 (!x2)))<|.call (Z11 E1.Colors E2.Colors E2.NotColors) λx5=>.j0 (.L2 E0 E1 E2 E3 (!x5)) (sE E0 E1 E2 E3 (!x5))
def iv(v3:Int)(E0:aj)(E1:ab)(E2:al)(E3:Bool)(v30:Bool):LT nb Bool:=
.br v30 (.rt false)<|.cs (E2.Self==1) (.k5 1<|.br (E0.Id != v3) (.j0 (.L1 E0 E1 E2 E3 (E0.Id != v3)) (la E0 E1 E2 E3 (E0.Id != v3)))<|.cs (E2.Self==2) (.k5 3<|.j0 (.L1 E0 E1 E2 E3 (E0.Id==v3)) (la E0 E1 E2 E3 (E0.Id==v3)))<|.k5 3<|.j0 (.L1 E0 E1 E2 E3 false) (la E0 E1 E2 E3 false))<|.k5 1<|.kn [0]<|.cs (E2.Self==2) (.k5 2<|.j0 (.L1 E0 E1 E2 E3 (E0.Id==v3)) (la E0 E1 E2 E3 (E0.Id==v3)))<|.k5 2<|.j0 (.L1 E0 E1 E2 E3 false) (la E0 E1 E2 E3 false)
def Qy(a0:aj)(a1:ab)(a2:Int)(a3:Int)(a4:al):LT nb Bool:=
.lb 1005<|.lb 1006<|.lb 1009<|.call (YT a4) λx1=>.cs (!x1) (.k5 0<|.kg 0<|.kn [0]<|.rt false)<|.k5 0<|.kg 0<|.br (a0.Zone != a4.Zone) (.rt false)<|.lb 1011<|.cs (a4.Who==1) (.k5 2<|.br (a1.Control != a2) (.jn 0 (.L0 a3 a0 a1 a4 ((aR .and .i64 a1.Line.Types 1) != 0) (a1.Control != a2)) (tm12 1000 3000) (iv a3 a0 a1 a4 ((aR .and .i64 a1.Line.Types 1) != 0) (a1.Control != a2)))<|.cs (a4.Who==2) (.k5 4<|.jn 0 (.L0 a3 a0 a1 a4 ((aR .and .i64 a1.Line.Types 1) != 0) (a1.Control==a2)) (tm12 1000 3000) (iv a3 a0 a1 a4 ((aR .and .i64 a1.Line.Types 1) != 0) (a1.Control==a2)))<|.k5 4<|.jn 0 (.L0 a3 a0 a1 a4 ((aR .and .i64 a1.Line.Types 1) != 0) false) (tm12 1000 3000) (iv a3 a0 a1 a4 ((aR .and .i64 a1.Line.Types 1) != 0) false))<|.k5 2<|.kn [0]<|.cs (a4.Who==2) (.k5 3<|.jn 0 (.L0 a3 a0 a1 a4 ((aR .and .i64 a1.Line.Types 1) != 0) (a1.Control==a2)) (tm12 1000 3000) (iv a3 a0 a1 a4 ((aR .and .i64 a1.Line.Types 1) != 0) (a1.Control==a2)))<|.k5 3<|.jn 0 (.L0 a3 a0 a1 a4 ((aR .and .i64 a1.Line.Types 1) != 0) false) (tm12 1000 3000) (iv a3 a0 a1 a4 ((aR .and .i64 a1.Line.Types 1) != 0) false)
def mC:LF nb Bool :=.m0 156 [.t 10] wB λ|.L0 v3 E0 E1 E2 E3 v30=>([1,1,1,1,1,0,4,1],⟨144,[(3,wI v3),(5,.bptr 3000 0),(6,.bptr 3001 0),(9,.bptr 3002 0),(12,.fn 195 []),(13,.fn 196 [.bptr 3003 0]),(30,wB v30)],[(3000,.box (bx (aH E0))),(3001,.box (bx (ao E1))),(3002,.box (bx (aU E2))),(3003,.box (bx (cB E3)))]⟩,iv v3 E0 E1 E2 E3 v30)|.L1 E0 E1 E2 E3 v49=>([1,1,1,1,1,0,4,1,3,1],⟨144,[(5,.bptr 3000 0),(6,.bptr 3001 0),(9,.bptr 3002 0),(12,.fn 195 []),(13,.fn 196 [.bptr 3003 0]),(49,wB v49)],[(3000,.box (bx (aH E0))),(3001,.box (bx (ao E1))),(3002,.box (bx (aU E2))),(3003,.box (bx (cB E3)))]⟩,la E0 E1 E2 E3 v49)|.L2 E0 E1 E2 E3 v68=>([1,1,1,1,1,0,4,1,3,1,3,1],⟨144,[(5,.bptr 3000 0),(6,.bptr 3001 0),(9,.bptr 3002 0),(13,.fn 196 [.bptr 3003 0]),(68,wB v68)],[(3000,.box (bx (aH E0))),(3001,.box (bx (ao E1))),(3002,.box (bx (aU E2))),(3003,.box (bx (cB E3)))]⟩,sE E0 E1 E2 E3 v68)|.L3 E0 E1 E2 E3 v88=>([1,1,1,1,1,0,4,1,3,1,3,1,3,1],⟨144,[(5,.bptr 3000 0),(6,.bptr 3001 0),(9,.bptr 3002 0),(13,.fn 196 [.bptr 3003 0]),(88,wB v88)],[(3000,.box (bx (aH E0))),(3001,.box (bx (ao E1))),(3002,.box (bx (aU E2))),(3003,.box (bx (cB E3)))]⟩,oM E0 E1 E2 E3 v88)|.L4 E0 E1 E2=>([1,1,1,1,1,1],⟨144,[(6,.bptr 3000 0),(9,.bptr 3001 0),(13,.fn 196 [.bptr 3002 0])],[(3000,.box (bx (ao E0))),(3001,.box (bx (aU E1))),(3002,.box (bx (cB E2)))]⟩,mB E0 E1 E2)
def wV:=λa0 a1 a2 a3 a4=>mC.run (Qy a0 a1 a2 a3 a4)
def E5(a0)(a1)(a2)(a3)(a4){r}(h:wV a0 a1 a2 a3 a4=some r):Fn PR 156 [wA (aH a0),wA (ao a1),wI a2,wI a3,wA (aU a4)] (wB r):=mC.fn h
inductive yk where
 |L0 (v1:List ab) (v2:Int) (v3:Int) (E0:al) (v11:List Int) (v16:List aj) (v17:Int) (v18:Int)
 |L1 (v1:List ab) (v2:Int) (v3:Int) (E0:al) (v11:List Int) (E1:aj) (E2:ab) (v16:List aj) (v17:Int) (v18:Int)
def sF(v1:List ab)(v2:Int)(v3:Int)(E0:al)(v11:List Int)(E1:aj)(E2:ab)(v16:List aj)(v17:Int)(v18:Int):LT yk (List Int):=
.call (E5 E1 E2 v2 v3 E0) λx1=>.br x1 (.dr [.lit]<|.apR (cI .i64) 8 v11 [E1.Id] λx4=>.g0 (.L0 v1 v2 v3 E0 x4 v16 v17 (IntKind.wrap .i64 (v18+1))))<|.g0 (.L0 v1 v2 v3 E0 v11 v16 v17 (IntKind.wrap .i64 (v18+1)))
def sH(v1:List ab)(v2:Int)(v3:Int)(E0:al)(v11:List Int)(v16:List aj)(v17:Int)(v18:Int):LT yk (List Int):=
.br (decide (v18<v17)) (.idx aH v16 v18 λx2=>.lb 1013<|.lb 1014<|.len ao v1<|.br (decide (v18<(v1.length:Int))) (.idx ao v1 v18 λx6=>.jn 0 (.L1 v1 v2 v3 E0 v11 x2 x6 v16 v17 v18) [.relab 1013 3001,.relab 1014 3002] (sF v1 v2 v3 E0 v11 x2 x6 v16 v17 v18))<|.jn 0 (.L1 v1 v2 v3 E0 v11 x2 (⟨([]:By),(⟨0,0,(⟨0,0,0,0,0⟩:A5 Int)⟩:aJ),0,(⟨0,0,([]:Bys)⟩:aK),0,0,0,([]:List an),0⟩:ab) v16 v17 v18) [.relab 1013 3001,.relab 1014 3002,.niltb 3002 11,.niltb 3002 15] (sF v1 v2 v3 E0 v11 x2 (⟨([]:By),(⟨0,0,(⟨0,0,0,0,0⟩:A5 Int)⟩:aJ),0,(⟨0,0,([]:Bys)⟩:aK),0,0,0,([]:List an),0⟩:ab) v16 v17 v18))<|.ret v11 [.relab 20011 5000]
def QF(a0:av)(a1:List ab)(a2:Int)(a3:Int)(a4:al):LT yk (List Int):=
.lb 1005<|.lb 1009<|.len aH a0.Objects<|.go (.L0 a1 a2 a3 a4 ([]:List Int) a0.Objects (a0.Objects.length:Int) 0) [.relab 1009 3000,.own 11 20011 1]
def Z31:LF yk (List Int) :=.m 157 [.t 10] true (λr=>[(5000,wR (cI .i64) 1 r)]) (λr=>(wO (cI .i64) 5000 r)) λ|.L0 v1 v2 v3 E0 v11 v16 v17 v18=>([1,1,0,1,4],⟨44,[(1,wL ao v1),(2,wI v2),(3,wI v3),(9,.bptr 3000 0),(11,wO (cI .i64) 20011 v11),(16,wL aH v16),(17,wI v17),(18,wI v18)],[(3000,.box (bx (aU E0))),(20011,wR (cI .i64) 1 v11)]⟩,sH v1 v2 v3 E0 v11 v16 v17 v18)|.L1 v1 v2 v3 E0 v11 E1 E2 v16 v17 v18=>([1,1,0,1,4,5,1,1,0,4,1,1,1],⟨44,[(1,wL ao v1),(2,wI v2),(3,wI v3),(9,.bptr 3000 0),(11,wO (cI .i64) 20011 v11),(13,.bptr 3001 0),(14,.bptr 3002 0),(16,wL aH v16),(17,wI v17),(18,wI v18)],[(3000,.box (bx (aU E0))),(20011,wR (cI .i64) 1 v11),(3001,.box (bx (aH E1))),(3002,.box (bx (ao E2)))]⟩,sF v1 v2 v3 E0 v11 E1 E2 v16 v17 v18)
def Z2f:=λa0 a1 a2 a3 a4=>Z31.run (QF a0 a1 a2 a3 a4)
def ZCk(a0)(a1)(a2)(a3)(a4){r}(h:Z2f a0 a1 a2 a3 a4=some r):FnG PR 157 [] [wA (Z6 a0),wL ao a1,wI a2,wI a3,wA (aU a4)] [(5000,wR (cI .i64) 1 r)] (wO (cI .i64) 5000 r):=Z31.fn h
inductive tn where
 |L0 (v0:List Int) (v1:List Int) (v12:Int) (v13:Int)
def Wf(v0:List Int)(v1:List Int)(v12:Int)(v13:Int):LT tn Bool:=
.br (decide (v13<v12)) (.idx (cI .i64) v0 v13 λx2=>.idx (cI .i64) v1 v13 λx4=>.br (x2 != x4) (.rt false)<|.g0 (.L0 v0 v1 v12 (IntKind.wrap .i64 (v13+1))))<|.rt true
def We(a0:List Int)(a1:List Int):LT tn Bool:=
.len (cI .i64) a0<|.len (cI .i64) a1<|.br ((a0.length:Int) != (a1.length:Int)) (.rt false)<|.len (cI .i64) a0<|.g0 (.L0 a0 a1 (a0.length:Int) 0)
def Ee:LF tn Bool :=.m0 101 [.t 4] wB λ|.L0 v0 v1 v12 v13=>([1,1,0,1,4],⟨26,[(0,wL (cI .i64) v0),(1,wL (cI .i64) v1),(12,wI v12),(13,wI v13)],[]⟩,Wf v0 v1 v12 v13)
def Wd:=λa0 a1=>Ee.run (We a0 a1)
def Y4(a0)(a1){r}(h:Wd a0 a1=some r):Fn PR 101 [wL (cI .i64) a0,wL (cI .i64) a1] (wB r):=Ee.fn h
def Wh(a0:bP)(a1:bP):LT Empty Bool:=
.lb 1002<|.lb 1003<|.cs (!(a0.active==a1.active)) (.k5 0<|.k2 0<|.b5 true<|.b2 true<|.rt true)<|.k5 0<|.call (Y4 a0.hits a1.hits) λx2=>.k2 0<|.cs (!x2) (.k5 1<|.k2 1<|.rt true)<|.k5 1<|.call (Y4 a0.numbers a1.numbers) λx5=>.k2 1<|.rt (!x5)
def Y5:LF Empty Bool :=.z0 100 [.t 4] wB
def Wg:=λa0 a1=>Y5.run (Wh a0 a1)
def Z2g(a0)(a1){r}(h:Wg a0 a1=some r):Fn PR 100 [wA (jD a0),wA (jD a1)] (wB r):=Y5.fn h
def Ef(a0:List Bool)(hne:a0≠[]):LT Empty (List Bool):=
.ne cB hne<|.kn [0]<|.lb 1005<|.apR cB 1 ([]:List Bool) a0 λx1=>.ret x1 [.relab 1005 5000]
def nc:LF Empty (List Bool) :=.z 153 [.t 2] true (λr=>[(5000,wR cB 1 r)]) (λr=>(wO cB 5000 r))
def xU(c:Nat):LT Empty (List Bool):=
.kn [0]<|.ret ([]:List Bool) [.own 2 5000 1]
def ZCl(c:Nat)(ad:Addr):LT Empty (List Bool):=
.kn [0]<|.lb 1005<|.apR cB 1 ([]:List Bool) ([]:List Bool) λx1=>.ret x1 [.relab 1005 5000]
open Classical in
def xS(a0:List Bool):Option (List Bool):=if h:a0≠[]then nc.run (Ef a0 h)else nc.run (xU 0)
def Y6(a0:List Bool){r:List Bool}(h:xS a0=some r):FnG PR 153 [] [wL cB a0] [(5000,wR cB 1 r)] (wO cB 5000 r):=by
 by_cases hne:a0=[]
 .subst hne;have h0:nc.run (xU 0)=some r:=h;exact FnG.split0 (λe=>absurd rfl e) (λ_ a c=>by
   cases a with
   |none=>exact nc.fn (t:=xU c) h0
   |some ad=>exact nc.fn (t:=ZCl c ad) h0)
 have h0:nc.run (Ef a0 hne)=some r:=by unfold xS at h;rwa[iH hne]at h
 exact FnG.split0 (λ_=>nc.fn h0) (λe=>absurd (j2.1 e) hne)
def Eg(a0:List an)(hne:a0≠[]):LT Empty (List an):=
.ne aC hne<|.kn [0]<|.lb 1005<|.apR aC 640 ([]:List an) a0 λx1=>.ret x1 [.relab 1005 5000]
def nf:LF Empty (List an) :=.z 201 [.t 2] true (λr=>[(5000,wR aC 72 r)]) (λr=>(wO aC 5000 r))
def xW(c:Nat):LT Empty (List an):=
.kn [0]<|.ret ([]:List an) [.own 2 5000 72]
def ZCm(c:Nat)(ad:Addr):LT Empty (List an):=
.kn [0]<|.lb 1005<|.apR aC 640 ([]:List an) ([]:List an) λx1=>.ret x1 [.relab 1005 5000]
open Classical in
def xV(a0:List an):Option (List an):=if h:a0≠[]then nf.run (Eg a0 h)else nf.run (xW 0)
def ZCn(a0:List an){r:List an}(h:xV a0=some r):FnG PR 201 [] [wL aC a0] [(5000,wR aC 72 r)] (wO aC 5000 r):=by
 by_cases hne:a0=[]
 .subst hne;have h0:nf.run (xW 0)=some r:=h;exact FnG.split0 (λe=>absurd rfl e) (λ_ a c=>by
   cases a with
   |none=>exact nf.fn (t:=xW c) h0
   |some ad=>exact nf.fn (t:=ZCm c ad) h0)
 have h0:nf.run (Eg a0 hne)=some r:=by unfold xV at h;rwa[iH hne]at h
 exact FnG.split0 (λ_=>nf.fn h0) (λe=>absurd (j2.1 e) hne)
inductive pf where
 |L0 (E0:ab) (E1:ab) (v18:Int) (v19:Int)
 |L1 (y45000015:an) (E0:ab) (E1:ab) (v18:Int) (v19:Int) (v54:Int) (v55:Int) (v4:Int)
def Wm(E0:ab)(E1:ab)(v18:Int)(v19:Int):LT pf ab:=
.br (decide (v19<v18)) (.idxR aC E0.Abilities v19 λx2=>.dr [.ahead 7,.opn 40015 (Int.toNat v19) (aC x2),.stop]<|.us [2]<|.iq v19<|.iq v19<|.rl aC E0.Abilities<|.rl aC E0.Abilities<|.rl aC E0.Abilities<|.call (qG x2.Mods) λx4=>.rl aC E0.Abilities<|.rl aC E0.Abilities<|.rl aC E0.Abilities<|.call (ZeE x2.Specs) λx6=>.rl aC E0.Abilities<|.rl aC E0.Abilities<|.rl aC E0.Abilities<|.callF (JZ x2.Effects) 440000 λx8=>.rl aC E0.Abilities<|.rl aC E0.Abilities<|.rl aC E0.Abilities<|.rl aC E0.Abilities<|.rl aC E0.Abilities<|.rl aC E0.Abilities<|.rl aC E0.Abilities<|.rl aC E0.Abilities<|.rl aC E0.Abilities<|.rl aC E0.Abilities<|.rl aC E0.Abilities<|.rl aC E0.Abilities<|.lenO bc x8<|.go (.L1 (⟨x2.Kind,x2.Filter,x4,x2.Price,x2.Slow,x2.Trigger,x2.May,x6,x8,x2.Replace⟩:an) E0 E1 v18 v19 (x8.length:Int) 0 v19) [.relab 40015 45000015,.relab 445000 46000049])<|.ret E0 [.relab 40011 5011,.relab 40015 5015]
def Wn(y45000015:an)(E0:ab)(E1:ab)(v18:Int)(v19:Int)(v54:Int)(v55:Int)(v4:Int):LT pf ab:=
.br (decide (v55<v54)) (.rl aC E0.Abilities<|.rl aC E0.Abilities<|.rl aC E0.Abilities<|.rl aC E0.Abilities<|.rl aC E0.Abilities<|.rl aC E0.Abilities<|.idxR bc y45000015.Effects v55 λx2=>.rl bc y45000015.Effects<|.ldR bc y45000015.Effects x2 2<|.call (qG x2.Mods) λx4=>.plR bc y45000015.Effects v55 0<|.rl bc y45000015.Effects<|.setD bc y45000015.Effects v55 x2 (⟨x2.Op,x2.Ref,x2.Amount,x2.Counter,x2.Zone,x2.Card,x2.Filter,x2.Pool,x4⟩:aX) 2 63 [.sl (List.map ax x4)] rfl λx6=>.dr [.ahead 74,.relen 46000049,.stop]<|.us [3]<|.us [3]<|.us [3]<|.us [3]<|.us [3]<|.us [3]<|.us [3]<|.g0 (.L1 (⟨y45000015.Kind,y45000015.Filter,y45000015.Mods,y45000015.Price,y45000015.Slow,y45000015.Trigger,y45000015.May,y45000015.Specs,x6,y45000015.Replace⟩:an) E0 E1 v18 v19 v54 (IntKind.wrap .i64 (v55+1)) v4))<|.clsR aC E0.Abilities v4 y45000015 λx10=>.dr [.ahead 75,.frz 46000049,.cls 45000015 (List.map aC x10),.relen 45000015,.stop]<|.rl bc y45000015.Effects<|.us [0]<|.rl aC E0.Abilities<|.rl aC E0.Abilities<|.us [1]<|.us [1]<|.go (.L0 (⟨E0.Name,E0.Cost,E0.Colors,E0.Line,E0.Power,E0.Tough,E0.Keys,x10,E0.Control⟩:ab) E1 v18 (IntKind.wrap .i64 (v19+1))) [.relab 45000015 40015]
def Wl(a0:ab):LT pf ab:=
.lb 1001<|.lb 1002<|.callF (zx a0.Line.Subs) 100000 λx1=>.callF (ZCn a0.Abilities) 150000 λx3=>.lenO aC x3<|.go (.L0 (⟨a0.Name,a0.Cost,a0.Colors,(⟨a0.Line.Super,a0.Line.Types,x1⟩:aK),a0.Power,a0.Tough,a0.Keys,x3,a0.Control⟩:ab) (⟨([]:By),(⟨0,0,(⟨0,0,0,0,0⟩:A5 Int)⟩:aJ),0,(⟨0,0,([]:Bys)⟩:aK),0,0,0,([]:List an),0⟩:ab) (x3.length:Int) 0) [.relab 1001 3000,.relab 1002 3001,.relab 105000 40011,.relab 155000 40015,.ownb 3001 11 40111 1,.ownb 3001 15 40115 72]
def xX:LF pf ab :=.m 158 [.c 2 66 true 17] true (λr=>[(5011,wR cS 1 r.Line.Subs),(5015,wR aC 72 r.Abilities)]) (λr=>(.agg (tm2 r 5000))) λ|.L0 E0 E1 v18 v19=>([1,1,1,0,1,4],⟨77,[(1,.bptr 3000 0),(2,.bptr 3001 0),(18,wI v18),(19,wI v19)],[(3000,.box (tm2 E0 40000)),(40011,wR cS 1 E0.Line.Subs),(40015,wR aC 72 E0.Abilities),(3001,.box (tm2 E1 40100)),(40111,wR cS 1 E1.Line.Subs),(40115,wR aC 72 E1.Abilities)]⟩,Wm E0 E1 v18 v19)|.L1 y45000015 E0 E1 v18 v19 v54 v55 v4=>([1,1,1,0,1,4,5,1,1,0,4,1,1,1,1,4],⟨77,[(1,.bptr 3000 0),(2,.bptr 3001 0),(4,.own 45000015 (.pp (List.map aC E0.Abilities).length 0)),(18,wI v18),(19,wI v19),(54,wI v54),(55,wI v55)],[(3000,.box [wS E0.Name,wI E0.Cost.Generic,wI E0.Cost.X,wI E0.Cost.Color.a0,wI E0.Cost.Color.a1,wI E0.Cost.Color.a2,wI E0.Cost.Color.a3,wI E0.Cost.Color.a4,wI E0.Colors,wI E0.Line.Super,wI E0.Line.Types,wO cS 40011 E0.Line.Subs,wI E0.Power,wI E0.Tough,wI E0.Keys,.own 45000015 (.pw (List.map aC E0.Abilities).length),wI E0.Control]),(40011,wR cS 1 E0.Line.Subs),(46000049,wR bc 64 y45000015.Effects),(45000015,.prow 72 (Int.toNat v4) (List.map aC E0.Abilities) [wI y45000015.Kind,wI y45000015.Filter.Zone,wI y45000015.Filter.Who,wI y45000015.Filter.Self,wI y45000015.Filter.Types,wI y45000015.Filter.NotTypes,wI y45000015.Filter.Colors,wI y45000015.Filter.NotColors,wS y45000015.Filter.Sub,wI y45000015.Filter.Keys,wI y45000015.Filter.Tap,wI y45000015.Filter.Power.Kind,wI y45000015.Filter.Power.N,wI y45000015.Filter.Tough.Kind,wI y45000015.Filter.Tough.N,wI y45000015.Filter.Value.Kind,wI y45000015.Filter.Value.N,wL ax y45000015.Mods,wI y45000015.Price.Mana.Generic,wI y45000015.Price.Mana.X,wI y45000015.Price.Mana.Color.a0,wI y45000015.Price.Mana.Color.a1,wI y45000015.Price.Mana.Color.a2,wI y45000015.Price.Mana.Color.a3,wI y45000015.Price.Mana.Color.a4,wB y45000015.Price.Tap,wB y45000015.Price.Sacrifice,wI y45000015.Price.Life,wB y45000015.Slow,wI y45000015.Trigger.When,wI y45000015.Trigger.Who,wI y45000015.Trigger.Filter.Zone,wI y45000015.Trigger.Filter.Who,wI y45000015.Trigger.Filter.Self,wI y45000015.Trigger.Filter.Types,wI y45000015.Trigger.Filter.NotTypes,wI y45000015.Trigger.Filter.Colors,wI y45000015.Trigger.Filter.NotColors,wS y45000015.Trigger.Filter.Sub,wI y45000015.Trigger.Filter.Keys,wI y45000015.Trigger.Filter.Tap,wI y45000015.Trigger.Filter.Power.Kind,wI y45000015.Trigger.Filter.Power.N,wI y45000015.Trigger.Filter.Tough.Kind,wI y45000015.Trigger.Filter.Tough.N,wI y45000015.Trigger.Filter.Value.Kind,wI y45000015.Trigger.Filter.Value.N,wB y45000015.May,wL bK y45000015.Specs,wO bc 46000049 y45000015.Effects,wI y45000015.Replace.On,wI y45000015.Replace.Who,wI y45000015.Replace.Filter.Zone,wI y45000015.Replace.Filter.Who,wI y45000015.Replace.Filter.Self,wI y45000015.Replace.Filter.Types,wI y45000015.Replace.Filter.NotTypes,wI y45000015.Replace.Filter.Colors,wI y45000015.Replace.Filter.NotColors,wS y45000015.Replace.Filter.Sub,wI y45000015.Replace.Filter.Keys,wI y45000015.Replace.Filter.Tap,wI y45000015.Replace.Filter.Power.Kind,wI y45000015.Replace.Filter.Power.N,wI y45000015.Replace.Filter.Tough.Kind,wI y45000015.Replace.Filter.Tough.N,wI y45000015.Replace.Filter.Value.Kind,wI y45000015.Replace.Filter.Value.N,wI y45000015.Replace.Do,wI y45000015.Replace.N,wI y45000015.Replace.Zone,wI y45000015.Replace.Counter]),(3001,.box (tm2 E1 40100)),(40111,wR cS 1 E1.Line.Subs),(40115,wR aC 72 E1.Abilities)]⟩,Wn y45000015 E0 E1 v18 v19 v54 v55 v4)
def Wj:=λa0=>xX.run (Wl a0)
def ZCo(a0){r}(h:Wj a0=some r):FnG PR 158 [] [wA (ao a0)] [(5011,wR cS 1 r.Line.Subs),(5015,wR aC 72 r.Abilities)] (.agg (tm2 r 5000)):=xX.fn h
def Wp(a0:Int)(a1:Int)(a2:Int):LT Empty Bool:=
.cs (decide (a0>=a1)) (.k4 0<|.rt (decide (a0<=a2)))<|.k4 0<|.rt false
def Y7:LF Empty Bool :=.z0 202 [.t 6] wB
def Wo:=λa0 a1 a2=>Y7.run (Wp a0 a1 a2)
def kx(a0)(a1)(a2){r}(h:Wo a0 a1 a2=some r):Fn PR 202 [wI a0,wI a1,wI a2] (wB r):=Y7.fn h
inductive pg where
 |L0 (E0:af) (E1:af) (E2:af) (v8:Int) (v9:Bool)
 |L1 (E0:af) (E1:af) (E2:af) (v8:Int) (v19:Bool)
def tq(E0:af)(E1:af)(E2:af)(v8:Int)(v19:Bool):LT pg af:=
.br v19 (.rt (⟨E2.Kind,E2.N,E2.M,E0.Sub,E2.Filter⟩:af))<|.br (v8==11) (.rt (⟨E2.Kind,E2.N,E2.M,E2.Sub,E0.Filter⟩:af))<|.br (v8==12) (.kn [3]<|.rt (⟨E2.Kind,E0.N,E0.M,E2.Sub,E2.Filter⟩:af))<|.br (v8==13) (.rt (⟨E2.Kind,E0.N,E0.M,E2.Sub,E2.Filter⟩:af))<|.rt E2
def ku(E0:af)(E1:af)(E2:af)(v8:Int)(v9:Bool):LT pg af:=
.br v9 (.rt (⟨E2.Kind,E0.N,E2.M,E2.Sub,E2.Filter⟩:af))<|.br (v8==4) (.j0 (.L1 E0 E1 E2 v8 (v8==4)) (tq E0 E1 E2 v8 (v8==4)))<|.j0 (.L1 E0 E1 E2 v8 (v8==5)) (tq E0 E1 E2 v8 (v8==5))
def Ws(a0:af):LT pg af:=
.lb 1001<|.lb 1002<|.lb 1003<|.br (a0.Kind==2) (.jn 0 (.L0 a0 (⟨0,0,0,([]:By),(⟨0,0,0,0,0,0,0,([]:By),0,0,(⟨0,0⟩:ah),(⟨0,0⟩:ah),(⟨0,0⟩:ah)⟩:al)⟩:af) (⟨a0.Kind,0,0,([]:By),(⟨0,0,0,0,0,0,0,([]:By),0,0,(⟨0,0⟩:ah),(⟨0,0⟩:ah),(⟨0,0⟩:ah)⟩:al)⟩:af) a0.Kind (a0.Kind==2)) (tm13 1000 3000) (ku a0 (⟨0,0,0,([]:By),(⟨0,0,0,0,0,0,0,([]:By),0,0,(⟨0,0⟩:ah),(⟨0,0⟩:ah),(⟨0,0⟩:ah)⟩:al)⟩:af) (⟨a0.Kind,0,0,([]:By),(⟨0,0,0,0,0,0,0,([]:By),0,0,(⟨0,0⟩:ah),(⟨0,0⟩:ah),(⟨0,0⟩:ah)⟩:al)⟩:af) a0.Kind (a0.Kind==2)))<|.br (a0.Kind==3) (.jn 0 (.L0 a0 (⟨0,0,0,([]:By),(⟨0,0,0,0,0,0,0,([]:By),0,0,(⟨0,0⟩:ah),(⟨0,0⟩:ah),(⟨0,0⟩:ah)⟩:al)⟩:af) (⟨a0.Kind,0,0,([]:By),(⟨0,0,0,0,0,0,0,([]:By),0,0,(⟨0,0⟩:ah),(⟨0,0⟩:ah),(⟨0,0⟩:ah)⟩:al)⟩:af) a0.Kind (a0.Kind==3)) (tm13 1000 3000) (ku a0 (⟨0,0,0,([]:By),(⟨0,0,0,0,0,0,0,([]:By),0,0,(⟨0,0⟩:ah),(⟨0,0⟩:ah),(⟨0,0⟩:ah)⟩:al)⟩:af) (⟨a0.Kind,0,0,([]:By),(⟨0,0,0,0,0,0,0,([]:By),0,0,(⟨0,0⟩:ah),(⟨0,0⟩:ah),(⟨0,0⟩:ah)⟩:al)⟩:af) a0.Kind (a0.Kind==3)))<|.br (a0.Kind==6) (.jn 0 (.L0 a0 (⟨0,0,0,([]:By),(⟨0,0,0,0,0,0,0,([]:By),0,0,(⟨0,0⟩:ah),(⟨0,0⟩:ah),(⟨0,0⟩:ah)⟩:al)⟩:af) (⟨a0.Kind,0,0,([]:By),(⟨0,0,0,0,0,0,0,([]:By),0,0,(⟨0,0⟩:ah),(⟨0,0⟩:ah),(⟨0,0⟩:ah)⟩:al)⟩:af) a0.Kind (a0.Kind==6)) (tm13 1000 3000) (ku a0 (⟨0,0,0,([]:By),(⟨0,0,0,0,0,0,0,([]:By),0,0,(⟨0,0⟩:ah),(⟨0,0⟩:ah),(⟨0,0⟩:ah)⟩:al)⟩:af) (⟨a0.Kind,0,0,([]:By),(⟨0,0,0,0,0,0,0,([]:By),0,0,(⟨0,0⟩:ah),(⟨0,0⟩:ah),(⟨0,0⟩:ah)⟩:al)⟩:af) a0.Kind (a0.Kind==6)))<|.br (a0.Kind==7) (.jn 0 (.L0 a0 (⟨0,0,0,([]:By),(⟨0,0,0,0,0,0,0,([]:By),0,0,(⟨0,0⟩:ah),(⟨0,0⟩:ah),(⟨0,0⟩:ah)⟩:al)⟩:af) (⟨a0.Kind,0,0,([]:By),(⟨0,0,0,0,0,0,0,([]:By),0,0,(⟨0,0⟩:ah),(⟨0,0⟩:ah),(⟨0,0⟩:ah)⟩:al)⟩:af) a0.Kind (a0.Kind==7)) (tm13 1000 3000) (ku a0 (⟨0,0,0,([]:By),(⟨0,0,0,0,0,0,0,([]:By),0,0,(⟨0,0⟩:ah),(⟨0,0⟩:ah),(⟨0,0⟩:ah)⟩:al)⟩:af) (⟨a0.Kind,0,0,([]:By),(⟨0,0,0,0,0,0,0,([]:By),0,0,(⟨0,0⟩:ah),(⟨0,0⟩:ah),(⟨0,0⟩:ah)⟩:al)⟩:af) a0.Kind (a0.Kind==7)))<|.br (a0.Kind==8) (.jn 0 (.L0 a0 (⟨0,0,0,([]:By),(⟨0,0,0,0,0,0,0,([]:By),0,0,(⟨0,0⟩:ah),(⟨0,0⟩:ah),(⟨0,0⟩:ah)⟩:al)⟩:af) (⟨a0.Kind,0,0,([]:By),(⟨0,0,0,0,0,0,0,([]:By),0,0,(⟨0,0⟩:ah),(⟨0,0⟩:ah),(⟨0,0⟩:ah)⟩:al)⟩:af) a0.Kind (a0.Kind==8)) (tm13 1000 3000) (ku a0 (⟨0,0,0,([]:By),(⟨0,0,0,0,0,0,0,([]:By),0,0,(⟨0,0⟩:ah),(⟨0,0⟩:ah),(⟨0,0⟩:ah)⟩:al)⟩:af) (⟨a0.Kind,0,0,([]:By),(⟨0,0,0,0,0,0,0,([]:By),0,0,(⟨0,0⟩:ah),(⟨0,0⟩:ah),(⟨0,0⟩:ah)⟩:al)⟩:af) a0.Kind (a0.Kind==8)))<|.jn 0 (.L0 a0 (⟨0,0,0,([]:By),(⟨0,0,0,0,0,0,0,([]:By),0,0,(⟨0,0⟩:ah),(⟨0,0⟩:ah),(⟨0,0⟩:ah)⟩:al)⟩:af) (⟨a0.Kind,0,0,([]:By),(⟨0,0,0,0,0,0,0,([]:By),0,0,(⟨0,0⟩:ah),(⟨0,0⟩:ah),(⟨0,0⟩:ah)⟩:al)⟩:af) a0.Kind (a0.Kind==9)) (tm13 1000 3000) (ku a0 (⟨0,0,0,([]:By),(⟨0,0,0,0,0,0,0,([]:By),0,0,(⟨0,0⟩:ah),(⟨0,0⟩:ah),(⟨0,0⟩:ah)⟩:al)⟩:af) (⟨a0.Kind,0,0,([]:By),(⟨0,0,0,0,0,0,0,([]:By),0,0,(⟨0,0⟩:ah),(⟨0,0⟩:ah),(⟨0,0⟩:ah)⟩:al)⟩:af) a0.Kind (a0.Kind==9))
def Y8:LF pg af :=.m0 203 [.c 2 79 true 20] (λr=>(wA (ax r))) λ|.L0 E0 E1 E2 v8 v9=>([1,1,0,1,4,1],⟨40,[(1,.bptr 3000 0),(2,.bptr 3001 0),(3,.bptr 3002 0),(8,wI v8),(9,wB v9)],[(3000,.box (bx (ax E0))),(3001,.box (bx (ax E1))),(3002,.box (bx (ax E2)))]⟩,ku E0 E1 E2 v8 v9)|.L1 E0 E1 E2 v8 v19=>([1,1,0,1,4,1,3,1],⟨40,[(1,.bptr 3000 0),(2,.bptr 3001 0),(3,.bptr 3002 0),(8,wI v8),(19,wB v19)],[(3000,.box (bx (ax E0))),(3001,.box (bx (ax E1))),(3002,.box (bx (ax E2)))]⟩,tq E0 E1 E2 v8 v19)
def Wq:=λa0=>Y8.run (Ws a0)
def ZCp(a0){r}(h:Wq a0=some r):Fn PR 203 [wA (ax a0)] (wA (ax r)):=Y8.fn h
inductive m7 where
 |L0 (E0:af) (v14:Int) (v15:Bool)
 |L1 (E0:af) (v14:Int) (v27:Bool)
 |L2 (E0:af) (v14:Int) (v43:Bool)
def tt(E0:af)(v14:Int)(v43:Bool):LT m7 Bool:=
.br v43 (.call (kx E0.N 1 131071) λx2=>.rt x2)<|.br (v14==11) (.call (YT E0.Filter) λx5=>.rt x5)<|.br (v14==12) (.call (kx E0.N 0 99) λx8=>.cs x8 (.k3 3<|.call (kx E0.M 0 99) λx11=>.kg 3<|.rt x11)<|.k4 3<|.rt false)<|.br (v14==13) (.call (kx E0.N (-99) 99) λx14=>.cs x14 (.k3 4<|.call (kx E0.M (-99) 99) λx17=>.kg 4<|.rt x17)<|.k4 4<|.rt false)<|.rt true
def tu(E0:af)(v14:Int)(v27:Bool):LT m7 Bool:=
.br v27 (.call (Z0m E0.Sub) λx2=>.rt x2)<|.br (v14==6) (.call (kx E0.N 0 31) λx5=>.rt x5)<|.br (v14==7) (.call (kx E0.N 1 31) λx8=>.rt x8)<|.br (v14==8) (.j0 (.L2 E0 v14 (v14==8)) (tt E0 v14 (v14==8)))<|.j0 (.L2 E0 v14 (v14==9)) (tt E0 v14 (v14==9))
def tv(E0:af)(v14:Int)(v15:Bool):LT m7 Bool:=
.br v15 (.call (kx E0.N 1 63) λx2=>.cs x2 (.k5 1<|.rt ((aR .and .i64 E0.N 6)==0))<|.k5 1<|.rt false)<|.br (v14==4) (.j0 (.L1 E0 v14 (v14==4)) (tu E0 v14 (v14==4)))<|.j0 (.L1 E0 v14 (v14==5)) (tu E0 v14 (v14==5))
def Wu(a0:af):LT m7 Bool:=
.lb 1001<|.call (kx a0.Kind 1 14) λx1=>.cs (!x1) (.k5 0<|.kn [0]<|.rt false)<|.k3 0<|.call (ZCp a0) λx4=>.k2 0<|.br (!(Z9 (ax a0) (ax x4))) (.rt false)<|.br (a0.Kind==2) (.jn 0 (.L0 a0 a0.Kind (a0.Kind==2)) [.relab 1001 3000] (tv a0 a0.Kind (a0.Kind==2)))<|.jn 0 (.L0 a0 a0.Kind (a0.Kind==3)) [.relab 1001 3000] (tv a0 a0.Kind (a0.Kind==3))
def Y9:LF m7 Bool :=.m0 159 [.t 2] wB λ|.L0 E0 v14 v15=>([1,1,0,1,4,1],⟨74,[(1,.bptr 3000 0),(14,wI v14),(15,wB v15)],[(3000,.box (bx (ax E0)))]⟩,tv E0 v14 v15)|.L1 E0 v14 v27=>([1,1,0,1,4,1,3,1],⟨74,[(1,.bptr 3000 0),(14,wI v14),(27,wB v27)],[(3000,.box (bx (ax E0)))]⟩,tu E0 v14 v27)|.L2 E0 v14 v43=>([1,1,0,1,4,1,3,1,3,1,3,1,3,1],⟨74,[(1,.bptr 3000 0),(14,wI v14),(43,wB v43)],[(3000,.box (bx (ax E0)))]⟩,tt E0 v14 v43)
def Wt:=λa0=>Y9.run (Wu a0)
def ZCq(a0){r}(h:Wt a0=some r):Fn PR 159 [wA (ax a0)] (wB r):=Y9.fn h
def Wv(a0:By)(a1:By):LT Empty Bool:=
.rt (!(Op.bytesLess a0 a1))
def ZA:LF Empty Bool :=.z0 206 [.t 3] wB
def Z12:=λa0 a1=>ZA.run (Wv a0 a1)
def ZCr(a0)(a1){r}(h:Z12 a0 a1=some r):Fn PR 206 [wS a0,.vptr (cS a1)] (wB r):=ZA.fn h
inductive tw where
 |L0 (v0:Bys) (w1_0:By) (v7:Int) (v8:Int)
def Wy(v0:Bys)(w1_0:By)(v7:Int)(v8:Int):LT tw Int:=
.br (decide (v8<v7)) (.idx cS v0 v8 λx2=>.call (ZCr x2 w1_0) λx4=>.br x4 (.rt v8)<|.g0 (.L0 v0 w1_0 v7 (IntKind.wrap .i64 (v8+1))))<|.rt (-1)
def Wx(a0:Bys)(a1:By):LT tw Int:=
.len cS a0<|.g0 (.L0 a0 a1 (a0.length:Int) 0)
def Eh:LF tw Int :=.m0 205 [.t 4] wI λ|.L0 v0 w1_0 v7 v8=>([1,0,1,4],⟨19,[(0,wL cS v0),(1,.fn 206 [.vptr (cS w1_0)]),(7,wI v7),(8,wI v8)],[]⟩,Wy v0 w1_0 v7 v8)
def Ww:=λa0 a1=>Eh.run (Wx a0 a1)
def ZCs(a0)(a1){r}(h:Ww a0 a1=some r):Fn PR 205 [wL cS a0,.fn 206 [.vptr (cS a1)]] (wI r):=Eh.fn h
def WA(b0:Bys)(a1:Int)(b1:Bys):Option (Bys):=ins? 16 b0 a1 b1
def ZC(b0)(a1)(b1){r}(h:WA b0 a1 b1=some r):FnG PR 207 [(0,wR cS 1 b0),(1,wR cS 1 b1)] [wO cS 0 b0,wI a1,wO cS 1 b1] [(5000,wR cS 1 r)] (wO cS 5000 r):=ZB2.okO (λx=>⟨_,rfl⟩) b0 a1 b1 h
def WC(a0:aK)(a1:By):LT Empty aK:=
.lb 1002<|.lb 1003<|.lb 1004<|.callF (zx a0.Subs) 90000 λx1=>.call (Z0m a1) λx3=>.cs (!x3) (.k4 0<|.b5 true<|.kn [0]<|.ret (⟨a0.Super,a0.Types,x1⟩:aK) [.relab 95000 5002])<|.k3 0<|.rl cS x1<|.call (YY (⟨a0.Super,a0.Types,x1⟩:aK) a1) λx6=>.kg 0<|.cs x6 (.k5 1<|.kn [0]<|.ret (⟨a0.Super,a0.Types,x1⟩:aK) [.relab 95000 5002])<|.k3 1<|.lenO cS x1<|.k2 1<|.br (decide ((x1.length:Int)>=4)) (.ret (⟨a0.Super,a0.Types,x1⟩:aK) [.relab 95000 5002])<|.rl cS x1<|.call (ZCs x1 a1) λx10=>.br (decide (x10<0)) (.lenO cS x1<|.lb 1038<|.callU (ZC x1 (x1.length:Int) [a1]) [95000,1038] 400000 λx13=>.ret (⟨a0.Super,a0.Types,x13⟩:aK) [.relab 405000 5002])<|.lb 1038<|.callU (ZC x1 x10 [a1]) [95000,1038] 400000 λx15=>.ret (⟨a0.Super,a0.Types,x15⟩:aK) [.relab 405000 5002]
def ZD:LF Empty aK :=.z 160 [.c 4 63 true 3] true (λr=>[(5002,wR cS 1 r.Subs)]) (λr=>(.agg [wI r.Super,wI r.Types,wO cS 5002 r.Subs]))
def WB:=λa0 a1=>ZD.run (WC a0 a1)
def ZCt(a0)(a1){r}(h:WB a0 a1=some r):FnG PR 160 [] [wA (hX a0),wS a1] [(5002,wR cS 1 r.Subs)] (.agg [wI r.Super,wI r.Types,wO cS 5002 r.Subs]):=ZD.fn h
def WD(a0:ab)(a1:af)(a2:Int)(a3:Int):LT Empty ab:=
.lb 1004<|.lb 1005<|.lb 1008<|.callF (ZCo a0) 110000 λx1=>.call (ZCq a1) λx3=>.br (!x3) (.ret x1 [.relab 115011 5011,.relab 115015 5015])<|.br (a1.Kind==1) (.ret (⟨x1.Name,x1.Cost,x1.Colors,x1.Line,x1.Power,x1.Tough,x1.Keys,x1.Abilities,a2⟩:ab) [.relab 115011 5011,.relab 115015 5015])<|.br (a1.Kind==2) (.ret (⟨x1.Name,x1.Cost,x1.Colors,(⟨x1.Line.Super,a1.N,x1.Line.Subs⟩:aK),x1.Power,x1.Tough,x1.Keys,x1.Abilities,x1.Control⟩:ab) [.relab 115011 5011,.relab 115015 5015])<|.br (a1.Kind==3) (.ret (⟨x1.Name,x1.Cost,x1.Colors,(⟨x1.Line.Super,aR .or .i64 x1.Line.Types a1.N,x1.Line.Subs⟩:aK),x1.Power,x1.Tough,x1.Keys,x1.Abilities,x1.Control⟩:ab) [.relab 115011 5011,.relab 115015 5015])<|.br (a1.Kind==4) (.lb 1041<|.ret (⟨x1.Name,x1.Cost,x1.Colors,(⟨x1.Line.Super,x1.Line.Types,[a1.Sub]⟩:aK),x1.Power,x1.Tough,x1.Keys,x1.Abilities,x1.Control⟩:ab) [.relab 1041 5011,.relab 115015 5015])<|.br (a1.Kind==5) (.rl cS x1.Line.Subs<|.callS (ZCt x1.Line a1.Sub) 510000 (λ_=>⟨rfl,oy cS (λ_=>rfl) _,ae⟩) λx11=>.ret (⟨x1.Name,x1.Cost,x1.Colors,x11,x1.Power,x1.Tough,x1.Keys,x1.Abilities,x1.Control⟩:ab) [.relab 515002 5011,.relab 115015 5015])<|.br (a1.Kind==6) (.ret (⟨x1.Name,x1.Cost,a1.N,x1.Line,x1.Power,x1.Tough,x1.Keys,x1.Abilities,x1.Control⟩:ab) [.relab 115011 5011,.relab 115015 5015])<|.br (a1.Kind==7) (.ret (⟨x1.Name,x1.Cost,aR .or .i64 x1.Colors a1.N,x1.Line,x1.Power,x1.Tough,x1.Keys,x1.Abilities,x1.Control⟩:ab) [.relab 115011 5011,.relab 115015 5015])<|.br (a1.Kind==8) (.ret (⟨x1.Name,x1.Cost,x1.Colors,x1.Line,x1.Power,x1.Tough,aR .or .i64 x1.Keys a1.N,x1.Abilities,x1.Control⟩:ab) [.relab 115011 5011,.relab 115015 5015])<|.br (a1.Kind==9) (.ret (⟨x1.Name,x1.Cost,x1.Colors,x1.Line,x1.Power,x1.Tough,aR .andNot .i64 x1.Keys a1.N,x1.Abilities,x1.Control⟩:ab) [.relab 115011 5011,.relab 115015 5015])<|.br (a1.Kind==10) (.ret (⟨x1.Name,x1.Cost,x1.Colors,x1.Line,x1.Power,x1.Tough,0,([]:List an),x1.Control⟩:ab) [.relab 115011 5011,.ownb 1008 15 5015 72])<|.br (a1.Kind==11) (.call (jr a3) λx19=>.call (jr a3) λx21=>.ret (⟨x1.Name,x1.Cost,x1.Colors,x1.Line,x19,x21,x1.Keys,x1.Abilities,x1.Control⟩:ab) [.relab 115011 5011,.relab 115015 5015])<|.br (a1.Kind==12) (.ret (⟨x1.Name,x1.Cost,x1.Colors,x1.Line,a1.N,a1.M,x1.Keys,x1.Abilities,x1.Control⟩:ab) [.relab 115011 5011,.relab 115015 5015])<|.br (a1.Kind==13) (.call (ug x1.Power a1.N) λx25=>.call (ug x1.Tough a1.M) λx27=>.ret (⟨x1.Name,x1.Cost,x1.Colors,x1.Line,x25,x27,x1.Keys,x1.Abilities,x1.Control⟩:ab) [.relab 115011 5011,.relab 115015 5015])<|.br (a1.Kind==14) (.ret (⟨x1.Name,x1.Cost,x1.Colors,x1.Line,x1.Tough,x1.Power,x1.Keys,x1.Abilities,x1.Control⟩:ab) [.relab 115011 5011,.relab 115015 5015])<|.ret x1 [.relab 115011 5011,.relab 115015 5015]
def ZE:LF Empty ab :=.z 106 [.c 8 66 true 17] true (λr=>[(5011,wR cS 1 r.Line.Subs),(5015,wR aC 72 r.Abilities)]) (λr=>(.agg (tm2 r 5000)))
def Ei:=λa0 a1 a2 a3=>ZE.run (WD a0 a1 a2 a3)
def ZCu(a0)(a1)(a2)(a3){r}(h:Ei a0 a1 a2 a3=some r):FnG PR 106 [] [wA (ao a0),wA (ax a1),wI a2,wI a3] [(5011,wR cS 1 r.Line.Subs),(5015,wR aC 72 r.Abilities)] (.agg (tm2 r 5000)):=ZE.fn h
def ZCv(a0:ab)(a1:af)(a2:Int)(a3:Int){r:ab}(h:Ei a0 a1 a2 a3=some r):Fn PR 106 [wA (ao a0),wA (ax a1),wI a2,wI a3] (wA (ao r)):=FnG.frozen (C:=LT.RL cS r.Line.Subs/\LT.RL aC r.Abilities/\True) (ZCu a0 a1 a2 a3 h) ⟨rfl,rfl,ae⟩ bD
inductive tz where
 |L0 (v3:List Int) (v6:List Int) (v7:Int) (v8:Int)
def WE(v3:List Int)(v6:List Int)(v7:Int)(v8:Int):LT tz (List Int):=
.br (decide (v8<v7)) (.idx (cI .i64) v6 v8 λx2=>.cs (decide (x2>=0)) (.k3 1<|.rl (cI .i64) v3<|.call (YR v3 x2) λx5=>.k2 1<|.br (!x5) (.dr [.lit]<|.apR (cI .i64) 8 v3 [x2] λx8=>.g0 (.L0 x8 v6 v7 (IntKind.wrap .i64 (v8+1))))<|.g0 (.L0 v3 v6 v7 (IntKind.wrap .i64 (v8+1))))<|.k5 1<|.kn [0]<|.g0 (.L0 v3 v6 v7 (IntKind.wrap .i64 (v8+1))))<|.ret v3 [.relab 20003 5000]
def Z13(a0:List Int):LT tz (List Int):=
.len (cI .i64) a0<|.go (.L0 ([]:List Int) a0 (a0.length:Int) 0) [.own 3 20003 1]
def Ek:LF tz (List Int) :=.m 145 [.t 2] true (λr=>[(5000,wR (cI .i64) 1 r)]) (λr=>(wO (cI .i64) 5000 r)) λ|.L0 v3 v6 v7 v8=>([1,1,0,1,4],⟨26,[(3,wO (cI .i64) 20003 v3),(6,wL (cI .i64) v6),(7,wI v7),(8,wI v8)],[(20003,wR (cI .i64) 1 v3)]⟩,WE v3 v6 v7 v8)
def Ej:=λa0=>Ek.run (Z13 a0)
def ZCw(a0){r}(h:Ej a0=some r):FnG PR 145 [] [wL (cI .i64) a0] [(5000,wR (cI .i64) 1 r)] (wO (cI .i64) 5000 r):=Ek.fn h
def ZCx(a0:List Int){r:List Int}(h:Ej a0=some r):Fn PR 145 [wL (cI .i64) a0] (wL (cI .i64) r):=FnG.frozen (C:=LT.RL (cI .i64) r/\True) (ZCw a0 h) ⟨rfl,ae⟩ bD
def Z6p(a0:List (List Bool))(a1:Int)(a2:Int):LT Empty Bool:=
.cs (decide (a1>=0)) (.k3 0<|.cs (decide (a2>=0)) (.k3 1<|.len (cL cB) a0<|.k2 1<|.cs (decide (a1<(a0.length:Int))) (.k4 2<|.idx (cL cB) a0 a1 λx5=>.k2 2<|.len cB x5<|.k2 2<|.cs (decide (a2<(x5.length:Int))) (.k3 3<|.ag (cL cB) x5 0<|.k3 3<|.idx cB x5 a2 λx9=>.k2 3<|.rt x9)<|.k8 3<|.rt false)<|.k8 2<|.b8 false<|.rt false)<|.k5 1<|.b16 false<|.rt false)<|.k3 0<|.b16 false<|.b5 false<|.rt false
def Z6q:LF Empty Bool :=.z0 149 [.t 6] wB
def WG:=λa0 a1 a2=>Z6q.run (Z6p a0 a1 a2)
def Z32(a0)(a1)(a2){r}(h:WG a0 a1 a2=some r):Fn PR 149 [wL (cL cB) a0,wI a1,wI a2] (wB r):=Z6q.fn h
inductive kv where
 |L0 (v1:List (List Bool)) (E0:List Int) (v5:Int) (E1:List (List Bool)) (v17:Int) (v18:Int)
 |L1 (v1:List (List Bool)) (E0:List Int) (v5:Int) (E1:List (List Bool)) (v7:Int) (v17:Int) (v18:Int) (v26:Int) (v27:Int)
 |L2 (E0:List Int) (v5:Int) (E1:List (List Bool)) (v48:Int) (v49:Int)
 |L3 (E0:List Int) (v5:Int) (E1:List (List Bool)) (v9:Int) (v48:Int) (v49:Int) (v52:Int) (v53:Int)
 |L4 (E0:List Int) (v5:Int) (E1:List (List Bool)) (v9:Int) (v10:Int) (v48:Int) (v49:Int) (v52:Int) (v53:Int) (v56:Int) (v57:Int)
def Z6r(v1:List (List Bool))(E0:List Int)(v5:Int)(E1:List (List Bool))(v17:Int)(v18:Int):LT kv ((List Int)×(List (List Bool))):=
.br (decide (v18<v17)) (.mk cB 1024 1 false v5 v5 λx2=>.idM cB E1 v18 λx4=>.stR cB E1 v18 x2 0 λx6=>.dr [.ahead 26,.relen 40100,.stop]<|.us [2]<|.us [2]<|.g0 (.L1 v1 E0 v5 x6 v18 v17 v18 v5 0))<|.g0 (.L2 E0 v5 E1 v5 0)
def Z6s(v1:List (List Bool))(E0:List Int)(v5:Int)(E1:List (List Bool))(v7:Int)(v17:Int)(v18:Int)(v26:Int)(v27:Int):LT kv ((List Int)×(List (List Bool))):=
.br (decide (v27<v26)) (.idM cB E1 v7 λx2=>.ldM cB E1 0<|.idx (cI .i64) E0 v7 λx4=>.idx (cI .i64) E0 v27 λx6=>.call (Z32 v1 x4 x6) λx8=>.idN cB E1 x2 v27 0 λx10=>.stM cB E1 v7 x2 v27 x8 0 8 λx12=>.dr [.ahead 46,.relen 40100,.stop]<|.us [10]<|.us [10]<|.g0 (.L1 v1 E0 v5 x12 v7 v17 v18 v26 (IntKind.wrap .i64 (v27+1))))<|.g0 (.L0 v1 E0 v5 E1 v17 (IntKind.wrap .i64 (v18+1)))
def Z6t(E0:List Int)(v5:Int)(E1:List (List Bool))(v48:Int)(v49:Int):LT kv ((List Int)×(List (List Bool))):=
.br (decide (v49<v48)) (.g0 (.L3 E0 v5 E1 v49 v48 v49 v5 0))<|.rl (cL cB) E1<|.ret (E0,E1) [.frz 3000,.frz 40100,.frz 3001]
def Z6u(E0:List Int)(v5:Int)(E1:List (List Bool))(v9:Int)(v48:Int)(v49:Int)(v52:Int)(v53:Int):LT kv ((List Int)×(List (List Bool))):=
.br (decide (v53<v52)) (.g0 (.L4 E0 v5 E1 v9 v53 v48 v49 v52 v53 v5 0))<|.g0 (.L2 E0 v5 E1 v48 (IntKind.wrap .i64 (v49+1)))
def Z6v(E0:List Int)(v5:Int)(E1:List (List Bool))(v9:Int)(v10:Int)(v48:Int)(v49:Int)(v52:Int)(v53:Int)(v56:Int)(v57:Int):LT kv ((List Int)×(List (List Bool))):=
.br (decide (v57<v56)) (.idM cB E1 v10 λx2=>.ldM cB E1 0<|.idN cB E1 x2 v9 0 λx4=>.ldN cB E1 x2 x4 1 3<|.cs x4 (.k3 1<|.idM cB E1 v9 λx7=>.kg 1<|.ldM cB E1 4<|.k2 1<|.idN cB E1 x7 v57 4 λx9=>.kg 1<|.ldN cB E1 x7 x9 5 7<|.kg 1<|.br x9 (.idM cB E1 v10 λx12=>.ldM cB E1 8<|.idN cB E1 x12 v57 8 λx14=>.stM cB E1 v10 x12 v57 true 8 10 λx16=>.dr [.ahead 82,.relen 40100,.stop]<|.us [12]<|.us [12]<|.us [12]<|.us [12]<|.g0 (.L4 E0 v5 x16 v9 v10 v48 v49 v52 v53 v56 (IntKind.wrap .i64 (v57+1))))<|.g0 (.L4 E0 v5 E1 v9 v10 v48 v49 v52 v53 v56 (IntKind.wrap .i64 (v57+1))))<|.k8 1<|.kn [0]<|.g0 (.L4 E0 v5 E1 v9 v10 v48 v49 v52 v53 v56 (IntKind.wrap .i64 (v57+1))))<|.g0 (.L3 E0 v5 E1 v9 v48 v49 v52 (IntKind.wrap .i64 (v53+1)))
def WI(a0:List Int)(a1:List (List Bool)):LT kv ((List Int)×(List (List Bool))):=
.lb 1002<|.len (cI .i64) a0<|.mkE cB 1015 24 (a0.length:Int) (a0.length:Int) λx2=>.dr [.ahead 6,.tomat 1015,.stop]<|.us [0]<|.lb 1006<|.lenO (cL cB) x2<|.go (.L0 a1 a0 (a0.length:Int) x2 (x2.length:Int) 0) [.relab 1002 3000,.relab 1006 3001,.relab 1015 40100]
def m8:LF kv ((List Int)×(List (List Bool))) :=.m0 146 [.t 4] (λr=>(.fn 192 [.vptr ((cL (cI .i64)) r.1),.vptr ((cL (cL cB)) r.2)])) λ|.L0 v1 E0 v5 E1 v17 v18=>([1,1,1,0,1,4],⟨86,[(1,wL (cL cB) v1),(2,.bptr 3000 0),(5,wI v5),(6,.bptr 3001 0),(17,wI v17),(18,wI v18)],[(3000,.box (bx ((cL (cI .i64)) E0))),(3001,.box [wM (cL cB) 40100 E1]),(40100,wT (cL cB) E1)]⟩,Z6r v1 E0 v5 E1 v17 v18)|.L1 v1 E0 v5 E1 v7 v17 v18 v26 v27=>([1,1,1,0,1,4,5,1,1,0,4,1,1,1,4],⟨86,[(1,wL (cL cB) v1),(2,.bptr 3000 0),(5,wI v5),(6,.bptr 3001 0),(7,wI v7),(17,wI v17),(18,wI v18),(26,wI v26),(27,wI v27)],[(3000,.box (bx ((cL (cI .i64)) E0))),(3001,.box [wM (cL cB) 40100 E1]),(40100,wT (cL cB) E1)]⟩,Z6s v1 E0 v5 E1 v7 v17 v18 v26 v27)|.L2 E0 v5 E1 v48 v49=>([1,1,1,1,0,1,4],⟨86,[(2,.bptr 3000 0),(5,wI v5),(6,.bptr 3001 0),(48,wI v48),(49,wI v49)],[(3000,.box (bx ((cL (cI .i64)) E0))),(3001,.box [wM (cL cB) 40100 E1]),(40100,wT (cL cB) E1)]⟩,Z6t E0 v5 E1 v48 v49)|.L3 E0 v5 E1 v9 v48 v49 v52 v53=>([1,1,1,1,0,1,4,5,1,1,0,4,1,1,4],⟨86,[(2,.bptr 3000 0),(5,wI v5),(6,.bptr 3001 0),(9,wI v9),(48,wI v48),(49,wI v49),(52,wI v52),(53,wI v53)],[(3000,.box (bx ((cL (cI .i64)) E0))),(3001,.box [wM (cL cB) 40100 E1]),(40100,wT (cL cB) E1)]⟩,Z6u E0 v5 E1 v9 v48 v49 v52 v53)|.L4 E0 v5 E1 v9 v10 v48 v49 v52 v53 v56 v57=>([1,1,1,1,0,1,4,5,1,1,0,4,1,1,4,5,1,1,0,4,1,1,4],⟨86,[(2,.bptr 3000 0),(5,wI v5),(6,.bptr 3001 0),(9,wI v9),(10,wI v10),(48,wI v48),(49,wI v49),(52,wI v52),(53,wI v53),(56,wI v56),(57,wI v57)],[(3000,.box (bx ((cL (cI .i64)) E0))),(3001,.box [wM (cL cB) 40100 E1]),(40100,wT (cL cB) E1)]⟩,Z6v E0 v5 E1 v9 v10 v48 v49 v52 v53 v56 v57)
def WH:=λa0 a1=>m8.run (WI a0 a1)
def ZCy(a0)(a1){r}(h:WH a0 a1=some r):Fn PR 146 [wL (cI .i64) a0,wL (cL cB) a1] (.fn 192 [.vptr ((cL (cI .i64)) r.1),.vptr ((cL (cL cB)) r.2)]):=m8.fn h
def WK(a0:Int)(a1:Int)(a2:List Int)(a3:List (List Bool)):LT Empty Bool:=
.call (EX a2 a0) λx1=>.call (EX a2 a1) λx3=>.cs (decide (x1>=0)) (.k3 0<|.cs (decide (x3>=0)) (.k3 1<|.idx (cL cB) a3 x1 λx7=>.k3 1<|.idx cB x7 x3 λx9=>.k2 1<|.rt x9)<|.k8 1<|.rt false)<|.k3 0<|.b8 false<|.rt false
def ZF:LF Empty Bool :=.z0 192 [.t 6] wB
def WJ:=λa0 a1 a2 a3=>ZF.run (WK a0 a1 a2 a3)
def Z2h(a0)(a1)(a2)(a3){r}(h:WJ a0 a1 a2 a3=some r):Fn PR 192 [wI a0,wI a1,.vptr ((cL (cI .i64)) a2),.vptr ((cL (cL cB)) a3)] (wB r):=ZF.fn h
def WM(a0:Int)(b0:Int)(b1:List (List Bool))(b2:(List Int)×(List (List Bool))):LT Empty Bool:=
.cs (a0 != b0) (.k4 0<|.call (Z32 b1 b0 a0) λx2=>.kg 0<|.cs x2 (.k4 1<|.call (Z2h a0 b0 b2.1 b2.2) λx5=>.k2 1<|.rt (!x5))<|.k5 1<|.kg 1<|.rt false)<|.k5 0<|.b5 false<|.kb false<|.rt false
def ZG(b0:Int)(b1:List (List Bool))(b2:(List Int)×(List (List Bool))):LF Empty Bool :=.z 148 [.t 5] true (λr=>[(0,.box (bx ((cI .i64) b0))),(1,.box (bx ((cL (cL cB)) b1))),(2,.box [.fn 192 [.vptr ((cL (cI .i64)) b2.1),.vptr ((cL (cL cB)) b2.2)]])]) (λr=>(wB r))
def WL(a0:Int)(b0:Int)(b1:List (List Bool))(b2:(List Int)×(List (List Bool))):Option Bool:=(ZG b0 b1 b2).run (WM a0 b0 b1 b2)
def ZCz(a0:Int)(b0:Int)(b1:List (List Bool))(b2:(List Int)×(List (List Bool))){r:Bool}(h:WL a0 b0 b1 b2=some r):FnG PR 148 [(0,.box (bx ((cI .i64) b0))),(1,.box (bx ((cL (cL cB)) b1))),(2,.box [.fn 192 [.vptr ((cL (cI .i64)) b2.1),.vptr ((cL (cL cB)) b2.2)]])] [wI a0,.bptr 0 0,.bptr 1 0,.bptr 2 0] [(0,.box (bx ((cI .i64) b0))),(1,.box (bx ((cL (cL cB)) b1))),(2,.box [.fn 192 [.vptr ((cL (cI .i64)) b2.1),.vptr ((cL (cL cB)) b2.2)]])] (wB r):=(ZG b0 b1 b2).fn h
inductive tC where
 |L0 (v0:List Int) (c0:Int) (c1:List (List Bool)) (c2:(List Int)×(List (List Bool))) (v7:Int) (v8:Int)
def WQ(v0:List Int)(c0:Int)(c1:List (List Bool))(c2:(List Int)×(List (List Bool)))(v7:Int)(v8:Int):LT tC (Int×Int×(List (List Bool))×((List Int)×(List (List Bool)))):=
.br (decide (v8<v7)) (.idx (cI .i64) v0 v8 λx2=>.callO (ZCz x2 c0 c1 c2) [0,1,2] 170000 (λx=>[]) λx4=>.br x4 (.rt (v8,c0,c1,c2))<|.g0 (.L0 v0 c0 c1 c2 v7 (IntKind.wrap .i64 (v8+1))))<|.rt ((-1),c0,c1,c2)
def WO(a0:List Int)(b0:Int)(b1:List (List Bool))(b2:(List Int)×(List (List Bool))):LT tC (Int×Int×(List (List Bool))×((List Int)×(List (List Bool)))):=
.len (cI .i64) a0<|.g0 (.L0 a0 b0 b1 b2 (a0.length:Int) 0)
def El:LF tC (Int×Int×(List (List Bool))×((List Int)×(List (List Bool)))) :=.m 107 [.t 4] true (λr=>[(0,.box (bx ((cI .i64) r.2.1))),(1,.box (bx ((cL (cL cB)) r.2.2.1))),(2,.box [.fn 192 [.vptr ((cL (cI .i64)) r.2.2.2.1),.vptr ((cL (cL cB)) r.2.2.2.2)]])]) (λr=>(wI r.1)) λ|.L0 v0 c0 c1 c2 v7 v8=>([1,0,1,4],⟨19,[(0,wL (cI .i64) v0),(1,.fn 148 [.bptr 0 0,.bptr 1 0,.bptr 2 0]),(7,wI v7),(8,wI v8)],[(0,.box (bx ((cI .i64) c0))),(1,.box (bx ((cL (cL cB)) c1))),(2,.box [.fn 192 [.vptr ((cL (cI .i64)) c2.1),.vptr ((cL (cL cB)) c2.2)]])]⟩,WQ v0 c0 c1 c2 v7 v8)
def WN:=λa0 b0 b1 b2=>El.run (WO a0 b0 b1 b2)
def ZCA(a0)(b0)(b1)(b2){r}(h:WN a0 b0 b1 b2=some r):FnG PR 107 [(0,.box (bx ((cI .i64) b0))),(1,.box (bx ((cL (cL cB)) b1))),(2,.box [.fn 192 [.vptr ((cL (cI .i64)) b2.1),.vptr ((cL (cL cB)) b2.2)]])] [wL (cI .i64) a0,.fn 148 [.bptr 0 0,.bptr 1 0,.bptr 2 0]] [(0,.box (bx ((cI .i64) r.2.1))),(1,.box (bx ((cL (cL cB)) r.2.2.1))),(2,.box [.fn 192 [.vptr ((cL (cI .i64)) r.2.2.2.1),.vptr ((cL (cL cB)) r.2.2.2.2)]])] (wI r.1):=El.fn h
def WS(a0:List Int)(b0:Int)(b1:List (List Bool))(b2:(List Int)×(List (List Bool))):LT Empty (Bool×Int×(List (List Bool))×((List Int)×(List (List Bool)))):=
.callU (ZCA a0 b0 b1 b2) [0,1,2] 80000 λx1=>.rt (decide (x1.1>=0),x1.2.1,x1.2.2.1,x1.2.2.2)
def ZH:LF Empty (Bool×Int×(List (List Bool))×((List Int)×(List (List Bool)))) :=.z 147 [.t 4] true (λr=>[(0,.box (bx ((cI .i64) r.2.1))),(1,.box (bx ((cL (cL cB)) r.2.2.1))),(2,.box [.fn 192 [.vptr ((cL (cI .i64)) r.2.2.2.1),.vptr ((cL (cL cB)) r.2.2.2.2)]])]) (λr=>(wB r.1))
def WR:=λa0 b0 b1 b2=>ZH.run (WS a0 b0 b1 b2)
def ZCB(a0)(b0)(b1)(b2){r}(h:WR a0 b0 b1 b2=some r):FnG PR 147 [(0,.box (bx ((cI .i64) b0))),(1,.box (bx ((cL (cL cB)) b1))),(2,.box [.fn 192 [.vptr ((cL (cI .i64)) b2.1),.vptr ((cL (cL cB)) b2.2)]])] [wL (cI .i64) a0,.fn 148 [.bptr 0 0,.bptr 1 0,.bptr 2 0]] [(0,.box (bx ((cI .i64) r.2.1))),(1,.box (bx ((cL (cL cB)) r.2.2.1))),(2,.box [.fn 192 [.vptr ((cL (cI .i64)) r.2.2.2.1),.vptr ((cL (cL cB)) r.2.2.2.2)]])] (wB r.1):=ZH.fn h
inductive tG where
 |L0 (E0:List (List Bool)) (v5:List Int) (E1:(List Int)×(List (List Bool))) (v7:List Int) (v16:List Int) (v17:Int) (v18:Int)
def Z6w(E0:List (List Bool))(v5:List Int)(E1:(List Int)×(List (List Bool)))(v7:List Int)(v16:List Int)(v17:Int)(v18:Int):LT tG (List Int):=
.br (decide (v18<v17)) (.idx (cI .i64) v16 v18 λx2=>.lb 1009<|.callU (ZCB v5 x2 E0 E1) [1009,3000,3001] 250000 λx4=>.br (!x4.1) (.dr [.lit]<|.apR (cI .i64) 8 v7 [x4.2.1] λx7=>.g0 (.L0 x4.2.2.1 v5 x4.2.2.2 x7 v16 v17 (IntKind.wrap .i64 (v18+1))))<|.g0 (.L0 x4.2.2.1 v5 x4.2.2.2 v7 v16 v17 (IntKind.wrap .i64 (v18+1))))<|.ret v7 [.relab 20007 5000]
def WU(a0:List Int)(a1:List (List Bool)):LT tG (List Int):=
.lb 1003<|.call (ZCx a0) λx1=>.call (ZCy x1 a1) λx3=>.lb 1006<|.len (cI .i64) x1<|.go (.L0 a1 x1 x3 ([]:List Int) x1 (x1.length:Int) 0) [.relab 1003 3000,.relab 1006 3001,.own 7 20007 1]
def En:LF tG (List Int) :=.m 96 [.t 4] true (λr=>[(5000,wR (cI .i64) 1 r)]) (λr=>(wO (cI .i64) 5000 r)) λ|.L0 E0 v5 E1 v7 v16 v17 v18=>([1,1,1,1,0,1,4],⟨33,[(3,.bptr 3000 0),(5,wL (cI .i64) v5),(6,.bptr 3001 0),(7,wO (cI .i64) 20007 v7),(16,wL (cI .i64) v16),(17,wI v17),(18,wI v18)],[(3000,.box (bx ((cL (cL cB)) E0))),(3001,.box [.fn 192 [.vptr ((cL (cI .i64)) E1.1),.vptr ((cL (cL cB)) E1.2)]]),(20007,wR (cI .i64) 1 v7)]⟩,Z6w E0 v5 E1 v7 v16 v17 v18)
def Z33:=λa0 a1=>En.run (WU a0 a1)
def ZCC(a0)(a1){r}(h:Z33 a0 a1=some r):FnG PR 96 [] [wL (cI .i64) a0,wL (cL cB) a1] [(5000,wR (cI .i64) 1 r)] (wO (cI .i64) 5000 r):=En.fn h
def ZCD(a0:List Int)(a1:List (List Bool)){r:List Int}(h:Z33 a0 a1=some r):Fn PR 96 [wL (cI .i64) a0,wL (cL cB) a1] (wL (cI .i64) r):=FnG.frozen (C:=LT.RL (cI .i64) r/\True) (ZCC a0 a1 h) ⟨rfl,ae⟩ bD
def WW(a0:List Int)(a1:Int):LT Empty Int:=
.len (cI .i64) a0<|.br (decide (a1<(a0.length:Int))) (.idx (cI .i64) a0 a1 λx3=>.rt x3)<|.rt 0
def ZI:LF Empty Int :=.z0 97 [.t 4] wI
def WV:=λa0 a1=>ZI.run (WW a0 a1)
def Z6x(a0)(a1){r}(h:WV a0 a1=some r):Fn PR 97 [wL (cI .i64) a0,wI a1] (wI r):=ZI.fn h
inductive tH where
 |L0 (v1:List Int) (v7:Int) (v14:List Int) (v15:Int) (v16:Int)
def WZ(v1:List Int)(v7:Int)(v14:List Int)(v15:Int)(v16:Int):LT tH Int:=
.br (decide (v16<v15)) (.idx (cI .i64) v14 v16 λx2=>.br (decide (v7<0)) (.g0 (.L0 v1 x2 v14 v15 (IntKind.wrap .i64 (v16+1))))<|.call (Z6x v1 x2) λx7=>.call (Z6x v1 v7) λx9=>.cs (decide (x7<x9)) (.k5 2<|.kg 2<|.kn [0]<|.g0 (.L0 v1 x2 v14 v15 (IntKind.wrap .i64 (v16+1))))<|.k4 2<|.cs (x7==x9) (.k3 3<|.kg 2<|.kg 3<|.kg 2<|.br (decide (x2<v7)) (.g0 (.L0 v1 x2 v14 v15 (IntKind.wrap .i64 (v16+1))))<|.g0 (.L0 v1 v7 v14 v15 (IntKind.wrap .i64 (v16+1))))<|.k3 3<|.kg 2<|.kg 3<|.kg 2<|.kn [0]<|.g0 (.L0 v1 v7 v14 v15 (IntKind.wrap .i64 (v16+1))))<|.rt v7
def WY(a0:List Int)(a1:List Int)(a2:List (List Bool)):LT tH Int:=
.call (ZCD a0 a2) λx1=>.len (cI .i64) x1<|.g0 (.L0 a1 (-1) x1 (x1.length:Int) 0)
def Z0n:LF tH Int :=.m0 54 [.t 6] wI λ|.L0 v1 v7 v14 v15 v16=>([1,1,0,1,4],⟨45,[(1,wL (cI .i64) v1),(7,wI v7),(14,wL (cI .i64) v14),(15,wI v15),(16,wI v16)],[]⟩,WZ v1 v7 v14 v15 v16)
def WX:=λa0 a1 a2=>Z0n.run (WY a0 a1 a2)
def ZCE(a0)(a1)(a2){r}(h:WX a0 a1 a2=some r):Fn PR 54 [wL (cI .i64) a0,wL (cI .i64) a1,wL (cL cB) a2] (wI r):=Z0n.fn h
inductive tM where
 |L0 (c0:ak) (v10:List aj) (v11:Int) (v12:Int)
def Ep(c0:ak)(v10:List aj)(v11:Int)(v12:Int):LT tM ak:=
.br (decide (v12<v11)) (.idx aH v10 v12 λx2=>.lb 1003<|.idxR ao c0.traits v12 λx4=>.cs (x2.Zone==0) (.k2 1<|.rl ao c0.traits<|.kg 1<|.rl ao c0.traits<|.kg 1<|.rl ao c0.traits<|.kg 1<|.ldR ao c0.traits x4 5<|.k3 1<|.br ((aR .and .i64 x4.Line.Types 1) != 0) (.call (ZB5 x2.Counters) λx8=>.rl ao c0.traits<|.rl ao c0.traits<|.ldR ao c0.traits x4 5<|.call (ug x4.Power x8) λx10=>.rl ao c0.traits<|.rl ao c0.traits<|.ldR ao c0.traits x4 5<|.call (ug x4.Tough x8) λx12=>.rl ao c0.traits<|.rl ao c0.traits<|.setD ao c0.traits v12 x4 (⟨x4.Name,x4.Cost,x4.Colors,x4.Line,x10,x4.Tough,x4.Keys,x4.Abilities,x4.Control⟩:ab) 5 12 [.int .i64 x10] rfl λx14=>.us [8]<|.us [8]<|.setE ao c0.traits x14 v12 (⟨x4.Name,x4.Cost,x4.Colors,x4.Line,x10,x4.Tough,x4.Keys,x4.Abilities,x4.Control⟩:ab) (⟨((⟨x4.Name,x4.Cost,x4.Colors,x4.Line,x10,x4.Tough,x4.Keys,x4.Abilities,x4.Control⟩:ab)).Name,(⟨(((⟨x4.Name,x4.Cost,x4.Colors,x4.Line,x10,x4.Tough,x4.Keys,x4.Abilities,x4.Control⟩:ab)).Cost).Generic,(((⟨x4.Name,x4.Cost,x4.Colors,x4.Line,x10,x4.Tough,x4.Keys,x4.Abilities,x4.Control⟩:ab)).Cost).X,(((⟨x4.Name,x4.Cost,x4.Colors,x4.Line,x10,x4.Tough,x4.Keys,x4.Abilities,x4.Control⟩:ab)).Cost).Color⟩:aJ),((⟨x4.Name,x4.Cost,x4.Colors,x4.Line,x10,x4.Tough,x4.Keys,x4.Abilities,x4.Control⟩:ab)).Colors,((⟨x4.Name,x4.Cost,x4.Colors,x4.Line,x10,x4.Tough,x4.Keys,x4.Abilities,x4.Control⟩:ab)).Line,((⟨x4.Name,x4.Cost,x4.Colors,x4.Line,x10,x4.Tough,x4.Keys,x4.Abilities,x4.Control⟩:ab)).Power,x12,((⟨x4.Name,x4.Cost,x4.Colors,x4.Line,x10,x4.Tough,x4.Keys,x4.Abilities,x4.Control⟩:ab)).Keys,((⟨x4.Name,x4.Cost,x4.Colors,x4.Line,x10,x4.Tough,x4.Keys,x4.Abilities,x4.Control⟩:ab)).Abilities,((⟨x4.Name,x4.Cost,x4.Colors,x4.Line,x10,x4.Tough,x4.Keys,x4.Abilities,x4.Control⟩:ab)).Control⟩:ab) 7 12 13 [.int .i64 x12] rfl λx16=>.dr [.ahead 56,.relen 1,.stop]<|.us [9]<|.us [9]<|.us [9]<|.us [9]<|.us [9]<|.us [9]<|.us [9]<|.us [9]<|.us [9]<|.us [9]<|.us [9]<|.us [9]<|.us [9]<|.us [9]<|.us [9]<|.us [9]<|.us [9]<|.us [9]<|.us [9]<|.us [9]<|.g0 (.L0 (⟨c0.s,c0.forces,x16,c0.dropped,c0.done,c0.hits⟩:ak) v10 v11 (IntKind.wrap .i64 (v12+1))))<|.g0 (.L0 c0 v10 v11 (IntKind.wrap .i64 (v12+1))))<|.k8 1<|.kn [0]<|.g0 (.L0 c0 v10 v11 (IntKind.wrap .i64 (v12+1))))<|.rt c0
def W0(b0:ak):LT tM ak:=
.len aH b0.s.Objects<|.g0 (.L0 b0 b0.s.Objects (b0.s.Objects.length:Int) 0)
def ZJ:LF tM ak :=.m 52 [] true (λr=>[(0,.box (tm0 r)),(1,wR ao 17 r.traits),(2,wR cB 1 r.dropped),(3,wR cB 1 r.done),(4,wR (cL (cI .i64)) 1 r.hits)]) (λr =>.tup []) λ|.L0 c0 v10 v11 v12=>([1,4],⟨57,[(0,.bptr 0 0),(10,wL aH v10),(11,wI v11),(12,wI v12)],[(0,.box (tm0 c0)),(1,wR ao 17 c0.traits),(2,wR cB 1 c0.dropped),(3,wR cB 1 c0.done),(4,wR (cL (cI .i64)) 1 c0.hits)]⟩,Ep c0 v10 v11 v12)
def Eo:=λb0=>ZJ.run (W0 b0)
def ZCF(b0){r}(h:Eo b0=some r):FnG PR 52 [(0,.box (tm0 b0)),(1,wR ao 17 b0.traits),(2,wR cB 1 b0.dropped),(3,wR cB 1 b0.done),(4,wR (cL (cI .i64)) 1 b0.hits)] [.bptr 0 0] [(0,.box (tm0 r)),(1,wR ao 17 r.traits),(2,wR cB 1 r.dropped),(3,wR cB 1 r.done),(4,wR (cL (cI .i64)) 1 r.hits)] (.tup []):=ZJ.fn h
inductive tP where
 |L0 (v1:Int) (v2:Int) (E1:Z2) (v18:List af) (v19:Int) (v20:Int)
def W5(b0:ak)(v1:Int)(v2:Int)(E1:Z2)(v18:List af)(v19:Int)(v20:Int):LT tP Bool:=
.br (decide (v20<v19)) (.idx ax v18 v20 λx2=>.lb 1009<|.cs (x2.Kind==11) (.k3 1<|.call (yj x2.Kind) λx5=>.k3 1<|.cs (x5==v2) (.k4 2<|.call (YM x2.Filter v2) λx8=>.kg 2<|.br x8 (.rt true)<|.g0 (.L0 v1 v2 E1 v18 v19 (IntKind.wrap .i64 (v20+1))))<|.k5 2<|.kn [0]<|.g0 (.L0 v1 v2 E1 v18 v19 (IntKind.wrap .i64 (v20+1))))<|.k5 1<|.kg 1<|.b5 false<|.kn [0]<|.g0 (.L0 v1 v2 E1 v18 v19 (IntKind.wrap .i64 (v20+1))))<|.cs (!E1.Fixed) (.k5 1<|.kg 1<|.idxR cB b0.done v1 λx18=>.kg 1<|.ldR cB b0.done x18 2<|.k2 1<|.cs (!x18) (.k3 2<|.cs (v2==4) (.k4 3<|.kg 2<|.kg 3<|.kg 2<|.rt true)<|.k4 3<|.call (YM E1.Filter v2) λx22=>.kg 2<|.kg 3<|.kg 2<|.rt x22)<|.k5 2<|.rt false)<|.k8 1<|.kg 1<|.b5 false<|.rt false
def W4(b0:ak)(a1:Int)(a2:Int):LT tP Bool:=
.idx cf b0.forces a1 λx1=>.lb 1007<|.len ax x1.Mods<|.go (.L0 a1 a2 x1 x1.Mods (x1.Mods.length:Int) 0) [.relab 1007 3001]
def Et(b0:ak):LF tP Bool :=.m 98 [.t 6] true (λr=>[(0,.box (tm0 b0)),(1,wR ao 17 b0.traits),(2,wR cB 1 b0.dropped),(3,wR cB 1 b0.done),(4,wR (cL (cI .i64)) 1 b0.hits)]) wB λ|.L0 v1 v2 E1 v18 v19 v20=>([1,1,0,1,4],⟨64,[(0,.bptr 0 0),(1,wI v1),(2,wI v2),(7,.bptr 3001 0),(18,wL ax v18),(19,wI v19),(20,wI v20)],[(0,.box (tm0 b0)),(1,wR ao 17 b0.traits),(2,wR cB 1 b0.dropped),(3,wR cB 1 b0.done),(4,wR (cL (cI .i64)) 1 b0.hits),(3001,.box (bx (cf E1)))]⟩,W5 b0 v1 v2 E1 v18 v19 v20)
def W3(b0:ak)(a1:Int)(a2:Int):Option Bool:=(Et b0).run (W4 b0 a1 a2)
def ZCG(b0:ak)(a1:Int)(a2:Int){r:Bool}(h:W3 b0 a1 a2=some r):FnG PR 98 [(0,.box (tm0 b0)),(1,wR ao 17 b0.traits),(2,wR cB 1 b0.dropped),(3,wR cB 1 b0.done),(4,wR (cL (cI .i64)) 1 b0.hits)] [.bptr 0 0,wI a1,wI a2] [(0,.box (tm0 b0)),(1,wR ao 17 b0.traits),(2,wR cB 1 b0.dropped),(3,wR cB 1 b0.done),(4,wR (cL (cI .i64)) 1 b0.hits)] (wB r):=(Et b0).fn h
def W8(b0:ak)(a1:Int):LT Empty Bool:=
.idx cf b0.forces a1 λx1=>.lb 1005<|.cs x1.Fixed (.k8 0<|.kn [0]<|.rt true)<|.k5 0<|.kg 0<|.idxR cB b0.done a1 λx4=>.kg 0<|.ldR cB b0.done x4 5<|.kg 0<|.br x4 (.rt true)<|.call (YP b0.s x1.Source) λx7=>.cs (decide (x7<0)) (.k8 2<|.kg 2<|.rt true)<|.k5 2<|.kg 2<|.idxR cB b0.dropped x7 λx10=>.kg 2<|.ldR cB b0.dropped x10 8<|.k2 2<|.rt (!x10)
def ZK(b0:ak):LF Empty Bool :=.z 151 [.t 4] true (λr=>[(0,.box (tm0 b0)),(1,wR ao 17 b0.traits),(2,wR cB 1 b0.dropped),(3,wR cB 1 b0.done),(4,wR (cL (cI .i64)) 1 b0.hits)]) (λr=>(wB r))
def W7(b0:ak)(a1:Int):Option Bool:=(ZK b0).run (W8 b0 a1)
def ZL(b0:ak)(a1:Int){r:Bool}(h:W7 b0 a1=some r):FnG PR 151 [(0,.box (tm0 b0)),(1,wR ao 17 b0.traits),(2,wR cB 1 b0.dropped),(3,wR cB 1 b0.done),(4,wR (cL (cI .i64)) 1 b0.hits)] [.bptr 0 0,wI a1] [(0,.box (tm0 b0)),(1,wR ao 17 b0.traits),(2,wR cB 1 b0.dropped),(3,wR cB 1 b0.done),(4,wR (cL (cI .i64)) 1 b0.hits)] (wB r):=(ZK b0).fn h
def Xa(b0:ak)(a1:Int):LT Empty Int:=
.idx cf b0.forces a1 λx1=>.lb 1005<|.call (YP b0.s x1.Source) λx3=>.cs (!x1.Fixed) (.k3 0<|.br (decide (x3>=0)) (.idxR ao b0.traits x3 λx7=>.rl ao b0.traits<|.ldR ao b0.traits x7 5<|.rt x7.Control)<|.rt x1.Control)<|.k3 0<|.kn [0]<|.rt x1.Control
def ZM(b0:ak):LF Empty Int :=.z 105 [.t 4] true (λr=>[(0,.box (tm0 b0)),(1,wR ao 17 b0.traits),(2,wR cB 1 b0.dropped),(3,wR cB 1 b0.done),(4,wR (cL (cI .i64)) 1 b0.hits)]) (λr=>(wI r))
def W9(b0:ak)(a1:Int):Option Int:=(ZM b0).run (Xa b0 a1)
def E6(b0:ak)(a1:Int){r:Int}(h:W9 b0 a1=some r):FnG PR 105 [(0,.box (tm0 b0)),(1,wR ao 17 b0.traits),(2,wR cB 1 b0.dropped),(3,wR cB 1 b0.done),(4,wR (cL (cI .i64)) 1 b0.hits)] [.bptr 0 0,wI a1] [(0,.box (tm0 b0)),(1,wR ao 17 b0.traits),(2,wR cB 1 b0.dropped),(3,wR cB 1 b0.done),(4,wR (cL (cI .i64)) 1 b0.hits)] (wI r):=(ZM b0).fn h
inductive tQ where
 |L0 (E1:Z2) (v6:Int) (v7:List Int) (v42:List aj) (v43:Int) (v44:Int)
def Xe(b0:ak)(E1:Z2)(v6:Int)(v7:List Int)(v42:List aj)(v43:Int)(v44:Int):LT tQ (List Int):=
.br (decide (v44<v43)) (.idx aH v42 v44 λx2=>.lb 1009<|.cs (x2.Zone==0) (.k3 1<|.cs E1.Fixed (.k5 2<|.call (YR E1.Objects x2.Id) λx6=>.kg 1<|.kg 2<|.kg 1<|.cs x6 (.k5 3<|.kg 1<|.kg 3<|.kg 1<|.kn [0]<|.dr [.lit]<|.apR (cI .i64) 8 v7 [v44] λx9=>.g0 (.L0 E1 v6 x9 v42 v43 (IntKind.wrap .i64 (v44+1))))<|.k4 3<|.cs (!E1.Fixed) (.k5 4<|.k2 4<|.idxR ao b0.traits v44 λx15=>.kg 4<|.ldR ao b0.traits x15 5<|.k5 4<|.kg 4<|.call (E5 x2 x15 v6 E1.Source E1.Filter) λx17=>.kg 3<|.kg 4<|.kg 1<|.kg 3<|.kg 1<|.br x17 (.dr [.lit]<|.apR (cI .i64) 8 v7 [v44] λx20=>.g0 (.L0 E1 v6 x20 v42 v43 (IntKind.wrap .i64 (v44+1))))<|.g0 (.L0 E1 v6 v7 v42 v43 (IntKind.wrap .i64 (v44+1))))<|.k8 4<|.k5 4<|.kg 4<|.kg 3<|.kg 4<|.kg 1<|.kg 3<|.kg 1<|.kn [0]<|.g0 (.L0 E1 v6 v7 v42 v43 (IntKind.wrap .i64 (v44+1))))<|.k5 2<|.kg 1<|.kg 2<|.kg 1<|.b4 false<|.cs (!E1.Fixed) (.k5 3<|.k2 3<|.idxR ao b0.traits v44 λx30=>.kg 3<|.ldR ao b0.traits x30 5<|.k5 3<|.kg 3<|.call (E5 x2 x30 v6 E1.Source E1.Filter) λx32=>.kb false<|.kg 3<|.kg 1<|.kb false<|.kg 1<|.br x32 (.dr [.lit]<|.apR (cI .i64) 8 v7 [v44] λx35=>.g0 (.L0 E1 v6 x35 v42 v43 (IntKind.wrap .i64 (v44+1))))<|.g0 (.L0 E1 v6 v7 v42 v43 (IntKind.wrap .i64 (v44+1))))<|.k8 3<|.k5 3<|.kg 3<|.kb false<|.kg 3<|.kg 1<|.kb false<|.kg 1<|.kn [0]<|.g0 (.L0 E1 v6 v7 v42 v43 (IntKind.wrap .i64 (v44+1))))<|.k5 1<|.k2 1<|.kn [0]<|.g0 (.L0 E1 v6 v7 v42 v43 (IntKind.wrap .i64 (v44+1))))<|.rl (cI .i64) v7<|.rl (cI .i64) v7<|.rl (cI .i64) v7<|.ret v7 [.frz 20007]
def Xd(b0:ak)(a1:Int):LT tQ (List Int):=
.idxR cB b0.done a1 λx1=>.ldR cB b0.done x1 2<|.br x1 (.idxR (cL (cI .i64)) b0.hits a1 λx4=>.ldR (cL (cI .i64)) b0.hits x4 5<|.rt x4)<|.callO (ZL b0 a1) [0,1,2,3,4] 270000 (λx=>[]) λx6=>.br (!x6) (.ret ([]:List Int) [.nilt 4])<|.idx cf b0.forces a1 λx9=>.callO (E6 b0 a1) [0,1,2,3,4] 380000 (λx=>[]) λx11=>.lb 1005<|.len aH b0.s.Objects<|.go (.L0 x9 x11 ([]:List Int) b0.s.Objects (b0.s.Objects.length:Int) 0) [.relab 1005 3001,.own 7 20007 1]
def Ew(b0:ak):LF tQ (List Int) :=.m 103 [.t 4] true (λr=>[(0,.box (tm0 b0)),(1,wR ao 17 b0.traits),(2,wR cB 1 b0.dropped),(3,wR cB 1 b0.done),(4,wR (cL (cI .i64)) 1 b0.hits)]) (λr=>(wL (cI .i64) r)) λ|.L0 E1 v6 v7 v42 v43 v44=>([1,1,1,1,1,0,1,4],⟨90,[(0,.bptr 0 0),(5,.bptr 3001 0),(6,wI v6),(7,wO (cI .i64) 20007 v7),(42,wL aH v42),(43,wI v43),(44,wI v44)],[(0,.box (tm0 b0)),(1,wR ao 17 b0.traits),(2,wR cB 1 b0.dropped),(3,wR cB 1 b0.done),(4,wR (cL (cI .i64)) 1 b0.hits),(3001,.box (bx (cf E1))),(20007,wR (cI .i64) 1 v7)]⟩,Xe b0 E1 v6 v7 v42 v43 v44)
def Xc(b0:ak)(a1:Int):Option (List Int):=(Ew b0).run (Xd b0 a1)
def ZN(b0:ak)(a1:Int){r:List Int}(h:Xc b0 a1=some r):FnG PR 103 [(0,.box (tm0 b0)),(1,wR ao 17 b0.traits),(2,wR cB 1 b0.dropped),(3,wR cB 1 b0.done),(4,wR (cL (cI .i64)) 1 b0.hits)] [.bptr 0 0,wI a1] [(0,.box (tm0 b0)),(1,wR ao 17 b0.traits),(2,wR cB 1 b0.dropped),(3,wR cB 1 b0.done),(4,wR (cL (cI .i64)) 1 b0.hits)] (wL (cI .i64) r):=(Ew b0).fn h
inductive tS where
 |L0 (v1:Int) (v2:Int) (E1:Z2) (v8:List Int) (v23:List af) (v24:Int) (v25:Int)
def Xi(b0:ak)(v1:Int)(v2:Int)(E1:Z2)(v8:List Int)(v23:List af)(v24:Int)(v25:Int):LT tS (List Int):=
.br (decide (v25<v24)) (.idx ax v23 v25 λx2=>.lb 1010<|.cs (x2.Kind==11) (.k3 1<|.call (yj x2.Kind) λx5=>.k3 1<|.br (x5==v2) (.callO (E6 b0 v1) [0,1,2,3,4] 530000 (λx=>[]) λx8=>.rl ao b0.traits<|.callS (ZCk b0.s b0.traits x8 E1.Source x2.Filter) 580000 (λ_=>⟨rfl,oy (cI .i64) (λ_=>rfl) _,ae⟩) λx10=>.lenO (cI .i64) x10<|.idxR (cI .i64) v8 v25 λx12=>.setD (cI .i64) v8 v25 x12 (x10.length:Int) 5 0 [.int .i64 (x10.length:Int)] rfl λx14=>.dr [.ahead 60,.relen 20008,.stop]<|.us [6]<|.us [6]<|.us [6]<|.g0 (.L0 v1 v2 E1 x14 v23 v24 (IntKind.wrap .i64 (v25+1))))<|.g0 (.L0 v1 v2 E1 v8 v23 v24 (IntKind.wrap .i64 (v25+1))))<|.k5 1<|.kg 1<|.kn [0]<|.g0 (.L0 v1 v2 E1 v8 v23 v24 (IntKind.wrap .i64 (v25+1))))<|.ret v8 [.relab 20008 5000]
def Xh(b0:ak)(a1:Int)(a2:Int):LT tS (List Int):=
.idx cf b0.forces a1 λx1=>.lb 1007<|.len ax x1.Mods<|.mk (cI .i64) 1021 8 0 (x1.Mods.length:Int) (x1.Mods.length:Int) λx4=>.len ax x1.Mods<|.go (.L0 a1 a2 x1 x4 x1.Mods (x1.Mods.length:Int) 0) [.relab 1007 3001,.relab 1021 20008]
def Ex(b0:ak):LF tS (List Int) :=.m 104 [.t 6] true (λr=>[(5000,wR (cI .i64) 1 r),(0,.box (tm0 b0)),(1,wR ao 17 b0.traits),(2,wR cB 1 b0.dropped),(3,wR cB 1 b0.done),(4,wR (cL (cI .i64)) 1 b0.hits)]) (λr=>(wO (cI .i64) 5000 r)) λ|.L0 v1 v2 E1 v8 v23 v24 v25=>([1,1,1,0,1,4],⟨62,[(0,.bptr 0 0),(1,wI v1),(2,wI v2),(7,.bptr 3001 0),(8,wO (cI .i64) 20008 v8),(23,wL ax v23),(24,wI v24),(25,wI v25)],[(0,.box (tm0 b0)),(1,wR ao 17 b0.traits),(2,wR cB 1 b0.dropped),(3,wR cB 1 b0.done),(4,wR (cL (cI .i64)) 1 b0.hits),(3001,.box (bx (cf E1))),(20008,wR (cI .i64) 1 v8)]⟩,Xi b0 v1 v2 E1 v8 v23 v24 v25)
def Xg(b0:ak)(a1:Int)(a2:Int):Option (List Int):=(Ex b0).run (Xh b0 a1 a2)
def ZO(b0:ak)(a1:Int)(a2:Int){r:List Int}(h:Xg b0 a1 a2=some r):FnG PR 104 [(0,.box (tm0 b0)),(1,wR ao 17 b0.traits),(2,wR cB 1 b0.dropped),(3,wR cB 1 b0.done),(4,wR (cL (cI .i64)) 1 b0.hits)] [.bptr 0 0,wI a1,wI a2] [(5000,wR (cI .i64) 1 r),(0,.box (tm0 b0)),(1,wR ao 17 b0.traits),(2,wR cB 1 b0.dropped),(3,wR cB 1 b0.done),(4,wR (cL (cI .i64)) 1 b0.hits)] (wO (cI .i64) 5000 r):=(Ex b0).fn h
def Xl(b0:ak)(a1:Int)(a2:Int):LT Empty bP:=
.lb 1006<|.callO (ZL b0 a1) [0,1,2,3,4] 100000 (λx=>[]) λx1=>.callO (ZN b0 a1) [0,1,2,3,4] 130000 (λx=>[]) λx3=>.callO (ZO b0 a1 a2) [0,1,2,3,4] 170000 (λx=>[(5000,wR (cI .i64) 1 x)]) λx5=>.ret (⟨x1,x3,x5⟩:bP) [.relab 175000 5002]
def ZP(b0:ak):LF Empty bP :=.z 99 [.c 6 174 true 3] true (λr=>[(5002,wR (cI .i64) 1 r.numbers),(0,.box (tm0 b0)),(1,wR ao 17 b0.traits),(2,wR cB 1 b0.dropped),(3,wR cB 1 b0.done),(4,wR (cL (cI .i64)) 1 b0.hits)]) (λr=>(.agg [wB r.active,wL (cI .i64) r.hits,wO (cI .i64) 5002 r.numbers]))
def Xk(b0:ak)(a1:Int)(a2:Int):Option bP:=(ZP b0).run (Xl b0 a1 a2)
def ZQ(b0:ak)(a1:Int)(a2:Int){r:bP}(h:Xk b0 a1 a2=some r):FnG PR 99 [(0,.box (tm0 b0)),(1,wR ao 17 b0.traits),(2,wR cB 1 b0.dropped),(3,wR cB 1 b0.done),(4,wR (cL (cI .i64)) 1 b0.hits)] [.bptr 0 0,wI a1,wI a2] [(5002,wR (cI .i64) 1 r.numbers),(0,.box (tm0 b0)),(1,wR ao 17 b0.traits),(2,wR cB 1 b0.dropped),(3,wR cB 1 b0.done),(4,wR (cL (cI .i64)) 1 b0.hits)] (.agg [wB r.active,wL (cI .i64) r.hits,wO (cI .i64) 5002 r.numbers]):=(ZP b0).fn h
def E7(a0:List (Opq 17))(hne:a0≠[]):LT Empty (List (Opq 17)):=
.ne (eR (k:=17)) hne<|.kn [0]<|.lb 1005<|.apR (eR (k:=17)) 176 ([]:List (Opq 17)) a0 λx1=>.ret x1 [.relab 1005 5000]
def ng:LF Empty (List (Opq 17)) :=.z 152 [.t 2] true (λr=>[(5000,wR (eR (k:=17)) 17 r)]) (λr=>(wO (eR (k:=17)) 5000 r))
def E8(c:Nat):LT Empty (List (Opq 17)):=
.kn [0]<|.ret ([]:List (Opq 17)) [.own 2 5000 17]
def ZCH(c:Nat)(ad:Addr):LT Empty (List (Opq 17)):=
.kn [0]<|.lb 1005<|.apR (eR (k:=17)) 176 ([]:List (Opq 17)) ([]:List (Opq 17)) λx1=>.ret x1 [.relab 1005 5000]
open Classical in
def yl(a0:List (Opq 17)):Option (List (Opq 17)):=if h:a0≠[]then ng.run (E7 a0 h)else ng.run (E8 0)
def ZCI(a0:List (Opq 17)){r:List (Opq 17)}(h:yl a0=some r):FnG PR 152 [] [wL (eR (k:=17)) a0] [(5000,wR (eR (k:=17)) 17 r)] (wO (eR (k:=17)) 5000 r):=by
 by_cases hne:a0=[]
 .subst hne;have h0:ng.run (E8 0)=some r:=h;exact FnG.split0 (λe=>absurd rfl e) (λ_ a c=>by
   cases a with
   |none=>exact ng.fn (t:=E8 c) h0
   |some ad=>exact ng.fn (t:=ZCH c ad) h0)
 have h0:ng.run (E7 a0 hne)=some r:=by unfold yl at h;rwa[iH hne]at h
 exact FnG.split0 (λ_=>ng.fn h0) (λe=>absurd (j2.1 e) hne)
def ZCJ:jM PR 152 17 176:=jM.of (g:=yl) (λa h=>by
 unfold yl;by_cases e:a=[]
 .subst e;rfl
 rw[iH e];unfold LF.run;dsimp only[E7,LT.den];rw[YF h bF];rfl) (λa _ h=>ZCI a h)
def E9(a0:List (Opq 1))(hne:a0≠[]):LT Empty (List (Opq 1)):=
.ne (eR (k:=1)) hne<|.kn [0]<|.lb 1005<|.apR (eR (k:=1)) 24 ([]:List (Opq 1)) a0 λx1=>.ret x1 [.relab 1005 5000]
def nh:LF Empty (List (Opq 1)) :=.z 154 [.t 2] true (λr=>[(5000,wR (eR (k:=1)) 1 r)]) (λr=>(wO (eR (k:=1)) 5000 r))
def Fa(c:Nat):LT Empty (List (Opq 1)):=
.kn [0]<|.ret ([]:List (Opq 1)) [.own 2 5000 1]
def ZCK(c:Nat)(ad:Addr):LT Empty (List (Opq 1)):=
.kn [0]<|.lb 1005<|.apR (eR (k:=1)) 24 ([]:List (Opq 1)) ([]:List (Opq 1)) λx1=>.ret x1 [.relab 1005 5000]
open Classical in
def ym(a0:List (Opq 1)):Option (List (Opq 1)):=if h:a0≠[]then nh.run (E9 a0 h)else nh.run (Fa 0)
def ZCL(a0:List (Opq 1)){r:List (Opq 1)}(h:ym a0=some r):FnG PR 154 [] [wL (eR (k:=1)) a0] [(5000,wR (eR (k:=1)) 1 r)] (wO (eR (k:=1)) 5000 r):=by
 by_cases hne:a0=[]
 .subst hne;have h0:nh.run (Fa 0)=some r:=h;exact FnG.split0 (λe=>absurd rfl e) (λ_ a c=>by
   cases a with
   |none=>exact nh.fn (t:=Fa c) h0
   |some ad=>exact nh.fn (t:=ZCK c ad) h0)
 have h0:nh.run (E9 a0 hne)=some r:=by unfold ym at h;rwa[iH hne]at h
 exact FnG.split0 (λ_=>nh.fn h0) (λe=>absurd (j2.1 e) hne)
def ZCM:jM PR 154 1 24:=jM.of (g:=ym) (λa h=>by
 unfold ym;by_cases e:a=[]
 .subst e;rfl
 rw[iH e];unfold LF.run;dsimp only[E9,LT.den];rw[YF h bF];rfl) (λa _ h=>ZCL a h)
def Xn(b0:ak):LT Empty ak:=
.lb 1003<|.callC ZCJ ao 1011 b0.traits<|.rl cB b0.dropped<|.callS (Y6 b0.dropped) 170000 (λ_=>⟨rfl,oy cB (λ_=>rfl) _,ae⟩) λx4=>.rl cB b0.done<|.callS (Y6 b0.done) 220000 (λ_=>⟨rfl,oy cB (λ_=>rfl) _,ae⟩) λx6=>.callC ZCM (cL (cI .i64)) 1026 b0.hits<|.ret (⟨b0.s,b0.forces,b0.traits,x4,x6,b0.hits⟩:ak) [.relab 1003 5000,.relab 1011 5021,.relab 175000 5022,.relab 225000 5023,.relab 1026 5024]
def ZR(b0:ak):LF Empty ak :=.z 102 [.t 2] true (λr=>[(5000,.box (tm5 r 5000)),(5021,wR ao 17 r.traits),(5022,wR cB 1 r.dropped),(5023,wR cB 1 r.done),(5024,wR (cL (cI .i64)) 1 r.hits),(0,.box (tm0 b0)),(1,wR ao 17 b0.traits),(2,wR cB 1 b0.dropped),(3,wR cB 1 b0.done),(4,wR (cL (cI .i64)) 1 b0.hits)]) (λr=>(.bptr 5000 0))
def Xm(b0:ak):Option ak:=(ZR b0).run (Xn b0)
def ZCN(b0:ak){r:ak}(h:Xm b0=some r):FnG PR 102 [(0,.box (tm0 b0)),(1,wR ao 17 b0.traits),(2,wR cB 1 b0.dropped),(3,wR cB 1 b0.done),(4,wR (cL (cI .i64)) 1 b0.hits)] [.bptr 0 0] [(5000,.box (tm5 r 5000)),(5021,wR ao 17 r.traits),(5022,wR cB 1 r.dropped),(5023,wR cB 1 r.done),(5024,wR (cL (cI .i64)) 1 r.hits),(0,.box (tm0 b0)),(1,wR ao 17 b0.traits),(2,wR cB 1 b0.dropped),(3,wR cB 1 b0.done),(4,wR (cL (cI .i64)) 1 b0.hits)] (.bptr 5000 0):=(ZR b0).fn h
inductive ph where
 |L0 (c0:ak) (v1:Int) (v2:Int) (v6:List Int) (v7:List Int) (v8:Int) (v23:List Int) (v24:Int) (v25:Int)
 |L1 (c0:ak) (v1:Int) (v2:Int) (v6:List Int) (v7:List Int) (v8:Int) (v10:Int) (v23:List Int) (v24:Int) (v25:Int) (v36:List af) (v37:Int) (v38:Int)
def Xq(c0:ak)(v1:Int)(v2:Int)(v6:List Int)(v7:List Int)(v8:Int)(v23:List Int)(v24:Int)(v25:Int):LT ph ak:=
.br (decide (v25<v24)) (.idx (cI .i64) v23 v25 λx2=>.idx cf c0.forces v1 λx4=>.len ax x4.Mods<|.g0 (.L1 c0 v1 v2 v6 v7 v8 x2 v23 v24 v25 x4.Mods (x4.Mods.length:Int) 0))<|.idxR cB c0.done v1 λx7=>.setD cB c0.done v1 x7 true 2 0 [.bool true] rfl λx9=>.idxR (cL (cI .i64)) c0.hits v1 λx11=>.setD (cL (cI .i64)) c0.hits v1 x11 v6 8 0 [.sl (List.map (cI .i64) v6)] rfl λx13=>.us [3]<|.us [3]<|.us [3]<|.us [9]<|.us [9]<|.us [9]<|.ret (⟨c0.s,c0.forces,c0.traits,c0.dropped,x9,x13⟩:ak) [.relen 3,.relen 4]
def Xr(c0:ak)(v1:Int)(v2:Int)(v6:List Int)(v7:List Int)(v8:Int)(v10:Int)(v23:List Int)(v24:Int)(v25:Int)(v36:List af)(v37:Int)(v38:Int):LT ph ak:=
.br (decide (v38<v37)) (.idx ax v36 v38 λx2=>.lb 1012<|.call (yj x2.Kind) λx4=>.br (x4 != v2) (.g0 (.L1 c0 v1 v2 v6 v7 v8 v10 v23 v24 v25 v36 v37 (IntKind.wrap .i64 (v38+1))))<|.idxR ao c0.traits v10 λx9=>.ldR ao c0.traits x9 5<|.idxR (cI .i64) v7 v38 λx11=>.ldR (cI .i64) v7 x11 8<|.call (ZCv x9 x2 v8 x11) λx13=>.plR ao c0.traits v10 3<|.setD ao c0.traits v10 x9 x13 5 0 (tm10 x13) rfl λx15=>.dr [.ahead 68,.relen 1,.stop]<|.us [9]<|.us [9]<|.us [9]<|.us [9]<|.us [9]<|.br (x2.Kind==10) (.idxR cB c0.dropped v10 λx18=>.setR cB c0.dropped v10 x18 true 14 0 [.bool true] rfl λx20=>.dr [.ahead 77,.relen 2,.stop]<|.us [15]<|.us [15]<|.us [15]<|.g0 (.L1 (⟨c0.s,c0.forces,x15,x20,c0.done,c0.hits⟩:ak) v1 v2 v6 v7 v8 v10 v23 v24 v25 v36 v37 (IntKind.wrap .i64 (v38+1))))<|.g0 (.L1 (⟨c0.s,c0.forces,x15,c0.dropped,c0.done,c0.hits⟩:ak) v1 v2 v6 v7 v8 v10 v23 v24 v25 v36 v37 (IntKind.wrap .i64 (v38+1))))<|.g0 (.L0 c0 v1 v2 v6 v7 v8 v23 v24 (IntKind.wrap .i64 (v25+1)))
def Xp(b0:ak)(a1:Int)(a2:Int):LT ph ak:=
.callO (ZN b0 a1) [0,1,2,3,4] 160000 (λx=>[]) λx1=>.callO (ZO b0 a1 a2) [0,1,2,3,4] 200000 (λx=>[(5000,wR (cI .i64) 1 x)]) λx3=>.callO (E6 b0 a1) [0,1,2,3,4] 230000 (λx=>[]) λx5=>.len (cI .i64) x1<|.go (.L0 b0 a1 a2 x1 x3 x5 x1 (x1.length:Int) 0) [.relab 205000 20007]
def xY:LF ph ak :=.m 56 [] true (λr=>[(0,.box (tm0 r)),(1,wR ao 17 r.traits),(2,wR cB 1 r.dropped),(3,wR cB 1 r.done),(4,wR (cL (cI .i64)) 1 r.hits)]) (λr =>.tup []) λ|.L0 c0 v1 v2 v6 v7 v8 v23 v24 v25=>([1,0,1,4],⟨92,[(0,.bptr 0 0),(1,wI v1),(2,wI v2),(6,wL (cI .i64) v6),(7,wO (cI .i64) 20007 v7),(8,wI v8),(23,wL (cI .i64) v23),(24,wI v24),(25,wI v25)],[(0,.box (tm0 c0)),(1,wR ao 17 c0.traits),(2,wR cB 1 c0.dropped),(3,wR cB 1 c0.done),(4,wR (cL (cI .i64)) 1 c0.hits),(20007,wR (cI .i64) 1 v7)]⟩,Xq c0 v1 v2 v6 v7 v8 v23 v24 v25)|.L1 c0 v1 v2 v6 v7 v8 v10 v23 v24 v25 v36 v37 v38=>([1,0,1,4,5,1,1,0,4,1,1,4],⟨92,[(0,.bptr 0 0),(1,wI v1),(2,wI v2),(6,wL (cI .i64) v6),(7,wO (cI .i64) 20007 v7),(8,wI v8),(10,wI v10),(23,wL (cI .i64) v23),(24,wI v24),(25,wI v25),(36,wL ax v36),(37,wI v37),(38,wI v38)],[(0,.box (tm0 c0)),(1,wR ao 17 c0.traits),(2,wR cB 1 c0.dropped),(3,wR cB 1 c0.done),(4,wR (cL (cI .i64)) 1 c0.hits),(20007,wR (cI .i64) 1 v7)]⟩,Xr c0 v1 v2 v6 v7 v8 v10 v23 v24 v25 v36 v37 v38)
def Xo:=λb0 a1 a2=>xY.run (Xp b0 a1 a2)
def ZS(b0)(a1)(a2){r}(h:Xo b0 a1 a2=some r):FnG PR 56 [(0,.box (tm0 b0)),(1,wR ao 17 b0.traits),(2,wR cB 1 b0.dropped),(3,wR cB 1 b0.done),(4,wR (cL (cI .i64)) 1 b0.hits)] [.bptr 0 0,wI a1,wI a2] [(0,.box (tm0 r)),(1,wR ao 17 r.traits),(2,wR cB 1 r.dropped),(3,wR cB 1 r.done),(4,wR (cL (cI .i64)) 1 r.hits)] (.tup []):=xY.fn h
inductive lv where
 |L0 (v2:Int) (v7:List (List Bool)) (v27:Int) (v28:Int)
 |L1 (v2:Int) (v7:List (List Bool)) (v9:List (Int×bP)) (v43:Int) (v44:Int)
 |L2 (v2:Int) (v7:List (List Bool)) (v9:List (Int×bP)) (v69:Int) (v70:Int)
 |L3 (v2:Int) (v7:List (List Bool)) (v9:List (Int×bP)) (v14:Int) (E1:ak) (v69:Int) (v70:Int) (v81:Int) (v82:Int)
def Xu(b0:ak)(a1:List Int)(v2:Int)(v7:List (List Bool))(v27:Int)(v28:Int):LT lv (List (List Bool)):=
.br (decide (v28<v27)) (.len cf b0.forces<|.mk cB 1038 1 false (b0.forces.length:Int) (b0.forces.length:Int) λx3=>.idM cB v7 v28 λx5=>.stR cB v7 v28 x3 0 λx7=>.dr [.ahead 40,.relen 20007,.stop]<|.us [2]<|.us [2]<|.g0 (.L0 v2 x7 v27 (IntKind.wrap .i64 (v28+1))))<|.lb 1041<|.lenO (cI .i64) a1<|.go (.L1 v2 v7 ([]:List (Int×bP)) (a1.length:Int) 0) [.relab 1041 20009]
def Xv(b0:ak)(a1:List Int)(v2:Int)(v7:List (List Bool))(v9:List (Int×bP))(v43:Int)(v44:Int):LT lv (List (List Bool)):=
.br (decide (v44<v43)) (.idxR (cI .i64) a1 v44 λx2=>.ldR (cI .i64) a1 x2 2<|.callO (ZCG b0 x2 v2) [0,2,3,4,5] 520000 (λx=>[]) λx4=>.br x4 (.callO (ZQ b0 x2 v2) [0,2,3,4,5] 580000 (λx=>[(5002,wR (cI .i64) 1 x.numbers)]) λx7=>.dr [.ahead 1000000,.frz 585002,.stop]<|.rl (cI .i64) x7.numbers<|.stG jD v9 x2 x7 (.agg [wB x7.active,wL (cI .i64) x7.hits,wL (cI .i64) x7.numbers]) (wA (jD x7)) rfl λx9=>.g0 (.L1 v2 v7 x9 v43 (IntKind.wrap .i64 (v44+1))))<|.g0 (.L1 v2 v7 v9 v43 (IntKind.wrap .i64 (v44+1))))<|.lenG jD v9<|.cs ((v9.length:Int)==0) (.k4 1<|.kn [0]<|.rl (cL cB) v7<|.rl (cL cB) v7<|.rl (cL cB) v7<|.ret v7 [.frz 20007])<|.k2 1<|.lenO (cI .i64) a1<|.k2 1<|.br (decide ((a1.length:Int)<2)) (.rl (cL cB) v7<|.rl (cL cB) v7<|.rl (cL cB) v7<|.ret v7 [.frz 20007])<|.lenO (cI .i64) a1<|.g0 (.L2 v2 v7 v9 (a1.length:Int) 0)
def Xw(b0:ak)(a1:List Int)(v2:Int)(v7:List (List Bool))(v9:List (Int×bP))(v69:Int)(v70:Int):LT lv (List (List Bool)):=
.br (decide (v70<v69)) (.idxR (cI .i64) a1 v70 λx2=>.ldR (cI .i64) a1 x2 2<|.callO (ZCN b0) [0,2,3,4,5] 760000 (λx=>[(5000,.box [wL cZ x.s.Players,wL aH x.s.Objects,wL (cI .i64) x.s.Battlefield,wL (cI .i64) x.s.Exile,wL cV x.s.Stack,wL dE x.s.Waiting,wL c6 x.s.Conts,wI x.s.Turn,wI x.s.Active,wI x.s.Step,wB x.s.Begun,wI x.s.Priority,wI x.s.Passes,wI x.s.NextId,wI x.s.NextStamp,.t (.int .u64 x.s.Seed),wL (cI .i64) x.s.Extra,wI x.s.Over,wI x.s.Winner,wL cf x.forces,wO ao 5021 x.traits,wO cB 5022 x.dropped,wO cB 5023 x.done,wO (cL (cI .i64)) 5024 x.hits]),(5021,wR ao 17 x.traits),(5022,wR cB 1 x.dropped),(5023,wR cB 1 x.done),(5024,wR (cL (cI .i64)) 1 x.hits)]) λx4=>.callU (ZS x4 x2 v2) [765000,765021,765022,765023,765024] 800000 λx6=>.lenO (cI .i64) a1<|.go (.L3 v2 v7 v9 x2 x6 v69 v70 (a1.length:Int) 0) [.relab 765000 3001,.relab 765021 40120,.relab 765022 40121,.relab 765023 40122,.relab 765024 40123])<|.rl (cL cB) v7<|.rl (cL cB) v7<|.rl (cL cB) v7<|.ret v7 [.frz 20007]
def Xx(b0:ak)(a1:List Int)(v2:Int)(v7:List (List Bool))(v9:List (Int×bP))(v14:Int)(E1:ak)(v69:Int)(v70:Int)(v81:Int)(v82:Int):LT lv (List (List Bool)):=
.br (decide (v82<v81)) (.idxR (cI .i64) a1 v82 λx2=>.ldR (cI .i64) a1 x2 2<|.lkG jD v9 x2 (⟨false,[],[]⟩:bP) λx4=>.lb 1018<|.cs x4.2 (.k4 1<|.br (x2 != v14) (.idM cB v7 x2 λx8=>.ldM cB v7 3<|.callO (ZQ E1 x2 v2) [3001,40120,40121,40122,40123] 1090000 (λx=>[(5002,wR (cI .i64) 1 x.numbers)]) λx10=>.rl (cI .i64) x10.numbers<|.call (Z2g x4.1 x10) λx12=>.idN cB v7 x8 v14 3 λx14=>.stM cB v7 x2 x8 v14 x12 3 5 λx16=>.dr [.ahead 111,.relen 20007,.stop]<|.us [7]<|.us [7]<|.g0 (.L3 v2 x16 v9 v14 E1 v69 v70 v81 (IntKind.wrap .i64 (v82+1))))<|.g0 (.L3 v2 v7 v9 v14 E1 v69 v70 v81 (IntKind.wrap .i64 (v82+1))))<|.k4 1<|.kn [0]<|.g0 (.L3 v2 v7 v9 v14 E1 v69 v70 v81 (IntKind.wrap .i64 (v82+1))))<|.g0 (.L2 v2 v7 v9 v69 (IntKind.wrap .i64 (v70+1)))
def Xt(b0:ak)(a1:List Int)(a2:Int):LT lv (List (List Bool)):=
.len cf b0.forces<|.mkE cB 1025 24 (b0.forces.length:Int) (b0.forces.length:Int) λx2=>.dr [.ahead 7,.tomat 1025,.stop]<|.us [0]<|.lenO (cL cB) x2<|.go (.L0 a2 x2 (x2.length:Int) 0) [.relab 1025 20007]
def pj(b0:ak)(a1:List Int):LF lv (List (List Bool)) :=.m 55 [.t 6] true (λr=>[(0,.box (tm3 b0)),(1,wR (cI .i64) 1 a1),(2,wR ao 17 b0.traits),(3,wR cB 1 b0.dropped),(4,wR cB 1 b0.done),(5,wR (cL (cI .i64)) 1 b0.hits)]) (λr=>(wL (cL cB) r)) λ|.L0 v2 v7 v27 v28=>([1,1,0,1,4],⟨114,[(0,.bptr 0 0),(1,wO (cI .i64) 1 a1),(2,wI v2),(7,wM (cL cB) 20007 v7),(27,wI v27),(28,wI v28)],[(0,.box (tm3 b0)),(2,wR ao 17 b0.traits),(3,wR cB 1 b0.dropped),(4,wR cB 1 b0.done),(5,wR (cL (cI .i64)) 1 b0.hits),(1,wR (cI .i64) 1 a1),(20007,wT (cL cB) v7)]⟩,Xu b0 a1 v2 v7 v27 v28)|.L1 v2 v7 v9 v43 v44=>([1,1,1,1,0,1,4],⟨114,[(0,.bptr 0 0),(1,wO (cI .i64) 1 a1),(2,wI v2),(7,wM (cL cB) 20007 v7),(9,.own 20009 .map),(42,wO (cI .i64) 1 a1),(43,wI v43),(44,wI v44)],[(0,.box (tm3 b0)),(2,wR ao 17 b0.traits),(3,wR cB 1 b0.dropped),(4,wR cB 1 b0.done),(5,wR (cL (cI .i64)) 1 b0.hits),(1,wR (cI .i64) 1 a1),(20007,wT (cL cB) v7),(20009,wG true jD v9)]⟩,Xv b0 a1 v2 v7 v9 v43 v44)|.L2 v2 v7 v9 v69 v70=>([1,1,1,1,1,1,1,0,1,4],⟨114,[(0,.bptr 0 0),(1,wO (cI .i64) 1 a1),(2,wI v2),(7,wM (cL cB) 20007 v7),(9,.own 20009 .map),(12,.fn 100 []),(68,wO (cI .i64) 1 a1),(69,wI v69),(70,wI v70)],[(0,.box (tm3 b0)),(2,wR ao 17 b0.traits),(3,wR cB 1 b0.dropped),(4,wR cB 1 b0.done),(5,wR (cL (cI .i64)) 1 b0.hits),(1,wR (cI .i64) 1 a1),(20007,wT (cL cB) v7),(20009,wG true jD v9)]⟩,Xw b0 a1 v2 v7 v9 v69 v70)|.L3 v2 v7 v9 v14 E1 v69 v70 v81 v82=>([1,1,1,1,1,1,1,0,1,4,5,1,1,0,4,1,1,1,1,4],⟨114,[(0,.bptr 0 0),(1,wO (cI .i64) 1 a1),(2,wI v2),(7,wM (cL cB) 20007 v7),(9,.own 20009 .map),(12,.fn 100 []),(14,wI v14),(15,.bptr 3001 0),(68,wO (cI .i64) 1 a1),(69,wI v69),(70,wI v70),(80,wO (cI .i64) 1 a1),(81,wI v81),(82,wI v82)],((0,.box (tm3 b0))::(2,wR ao 17 b0.traits)::(3,wR cB 1 b0.dropped)::(4,wR cB 1 b0.done)::(5,wR (cL (cI .i64)) 1 b0.hits)::(1,wR (cI .i64) 1 a1)::(20007,wT (cL cB) v7)::(20009,wG true jD v9)::(3001,.box (tm7 E1 40100))::(tm19 E1 40100))⟩,Xx b0 a1 v2 v7 v9 v14 E1 v69 v70 v81 v82)
def Xs(b0:ak)(a1:List Int)(a2:Int):Option (List (List Bool)):=(pj b0 a1).run (Xt b0 a1 a2)
def ZCO(b0:ak)(a1:List Int)(a2:Int){r:List (List Bool)}(h:Xs b0 a1 a2=some r):FnG PR 55 [(0,.box (tm3 b0)),(1,wR (cI .i64) 1 a1),(2,wR ao 17 b0.traits),(3,wR cB 1 b0.dropped),(4,wR cB 1 b0.done),(5,wR (cL (cI .i64)) 1 b0.hits)] [.bptr 0 0,wO (cI .i64) 1 a1,wI a2] [(0,.box (tm3 b0)),(1,wR (cI .i64) 1 a1),(2,wR ao 17 b0.traits),(3,wR cB 1 b0.dropped),(4,wR cB 1 b0.done),(5,wR (cL (cI .i64)) 1 b0.hits)] (wL (cL cB) r):=(pj b0 a1).fn h
def XA(a0:Int)(a1:Int):LT Empty Bool:=
.rt (a0==a1)
def ZT:LF Empty Bool :=.z0 58 [.t 3] wB
def Xz:=λa0 a1=>ZT.run (XA a0 a1)
def ZU(a0)(a1){r}(h:Xz a0 a1=some r):Fn PR 58 [wI a0,.vptr ((cI .i64) a1)] (wB r):=ZT.fn h
inductive tT where
 |L0 (v0:List Int) (w1_0:Int) (v7:Int) (v8:Int)
def XD(v0:List Int)(w1_0:Int)(v7:Int)(v8:Int):LT tT Int:=
.br (decide (v8<v7)) (.idx (cI .i64) v0 v8 λx2=>.call (ZU x2 w1_0) λx4=>.br x4 (.rt v8)<|.g0 (.L0 v0 w1_0 v7 (IntKind.wrap .i64 (v8+1))))<|.rt (-1)
def XC(a0:List Int)(a1:Int):LT tT Int:=
.len (cI .i64) a0<|.g0 (.L0 a0 a1 (a0.length:Int) 0)
def Ey:LF tT Int :=.m0 107 [.t 4] wI λ|.L0 v0 w1_0 v7 v8=>([1,0,1,4],⟨19,[(0,wL (cI .i64) v0),(1,.fn 58 [.vptr ((cI .i64) w1_0)]),(7,wI v7),(8,wI v8)],[]⟩,XD v0 w1_0 v7 v8)
def XB:=λa0 a1=>Ey.run (XC a0 a1)
def ZCP(a0)(a1){r}(h:XB a0 a1=some r):Fn PR 107 [wL (cI .i64) a0,.fn 58 [.vptr ((cI .i64) a1)]] (wI r):=Ey.fn h
inductive tU where
 |L0 (v0:List Int) (w1_0:Int) (v5:Int) (v6:Int)
def XH(v0:List Int)(w1_0:Int)(v5:Int)(v6:Int):LT tU (List Int):=
.lenO (cI .i64) v0<|.br (decide (v6<(v0.length:Int))) (.idxR (cI .i64) v0 v6 λx2=>.ldR (cI .i64) v0 x2 2<|.call (ZU x2 w1_0) λx4=>.br (!x4) (.idxR (cI .i64) v0 v5 λx7=>.setR (cI .i64) v0 v5 x7 x2 5 0 [.int .i64 x2] rfl λx9=>.dr [.ahead 34,.relen 20000,.stop]<|.us [6]<|.us [6]<|.us [6]<|.us [6]<|.us [6]<|.us [6]<|.g0 (.L0 x9 w1_0 (IntKind.wrap .i64 (v5+1)) (IntKind.wrap .i64 (v6+1))))<|.g0 (.L0 v0 w1_0 v5 (IntKind.wrap .i64 (v6+1))))<|.tlR (cI .i64) v0 v5 0 λx17=>.clR (cI .i64) v0 x17 0<|.dr [.ahead 39,.relen 20000,.stop]<|.us [2]<|.us [2]<|.us [2]<|.trR (cI .i64) x17 v5 λx20=>.ret x20 [.relab 20000 5000]
def XG(b0:List Int)(a1:Int):LT tU (List Int):=
.rl (cI .i64) b0<|.call (ZCP b0 a1) λx1=>.br (x1==(-1)) (.ret b0 [.relab 0 5000])<|.go (.L0 b0 a1 x1 (IntKind.wrap .i64 (x1+1))) [.relab 0 20000]
def Ez:LF tU (List Int) :=.m 57 [.t 4] true (λr=>[(5000,wR (cI .i64) 1 r)]) (λr=>(wO (cI .i64) 5000 r)) λ|.L0 v0 w1_0 v5 v6=>([1,1,1,0,1,4],⟨42,[(0,wO (cI .i64) 20000 v0),(1,.fn 58 [.vptr ((cI .i64) w1_0)]),(5,wI v5),(6,wI v6)],[(20000,wR (cI .i64) 1 v0)]⟩,XH v0 w1_0 v5 v6)
def XF:=λb0 a1=>Ez.run (XG b0 a1)
def ZCQ(b0)(a1){r}(h:XF b0 a1=some r):FnG PR 57 [(0,wR (cI .i64) 1 b0)] [wO (cI .i64) 0 b0,.fn 58 [.vptr ((cI .i64) a1)]] [(5000,wR (cI .i64) 1 r)] (wO (cI .i64) 5000 r):=Ez.fn h
inductive n4 where
 |L0 (c0:ak) (v1:Int) (v5:List Int) (v6:List Int) (v7:List Int) (v18:List Z2) (v19:Int) (v20:Int)
 |L1 (c0:ak) (v1:Int) (v5:List Int) (v6:List Int) (v7:List Int)
def KE(c0:ak)(v1:Int)(v5:List Int)(v6:List Int)(v7:List Int)(v18:List Z2)(v19:Int)(v20:Int):LT n4 ((List Int)×ak):=
.br (decide (v20<v19)) (.idx cf v18 v20 λx2=>.lb 1009<|.dr [.lit]<|.apR (cI .i64) 8 v7 [x2.Stamp] λx4=>.call (ZB8 x2 v1) λx7=>.br x7 (.dr [.lit]<|.apR (cI .i64) 8 v5 [v20] λx10=>.g0 (.L0 c0 v1 x10 v6 x4 v18 v19 (IntKind.wrap .i64 (v20+1))))<|.g0 (.L0 c0 v1 v5 v6 x4 v18 v19 (IntKind.wrap .i64 (v20+1))))<|.g0 (.L1 c0 v1 v5 v6 v7)
def KG(c0:ak)(v1:Int)(v5:List Int)(v6:List Int)(v7:List Int):LT n4 ((List Int)×ak):=
.lenO (cI .i64) v5<|.br (decide ((v5.length:Int)>0)) (.callO (ZCO c0 v5 v1) [0,20005,1,2,3,4] 470000 (λx=>[]) λx2=>.rl (cI .i64) v5<|.rl (cI .i64) v7<|.call (ZCE v5 v7 x2) λx4=>.lb 1010<|.br (decide (x4<0)) (.ret (v6,c0) [.relab 20006 5000])<|.callU (ZS c0 x4 v1) [0,1,2,3,4] 550000 λx7=>.dr [.lit]<|.apR (cI .i64) 8 v6 [x4] λx9=>.callW (ZCQ v5 x4) [20005] 620000 (λ_=>⟨rfl,oy (cI .i64) (λ_=>rfl) _,ae⟩) λx12=>.go (.L1 x7 v1 x12 x9 v7) [.relab 625000 20005])<|.ret (v6,c0) [.relab 20006 5000]
def KD(b0:ak)(a1:Int):LT n4 ((List Int)×ak):=
.br (a1==7) (.callU (ZCF b0) [0,1,2,3,4] 150000 λx2=>.len cf x2.forces<|.go (.L0 x2 a1 ([]:List Int) ([]:List Int) ([]:List Int) x2.forces (x2.forces.length:Int) 0) [.own 5 20005 1,.own 6 20006 1,.own 7 20007 1])<|.len cf b0.forces<|.go (.L0 b0 a1 ([]:List Int) ([]:List Int) ([]:List Int) b0.forces (b0.forces.length:Int) 0) [.own 5 20005 1,.own 6 20006 1,.own 7 20007 1]
def vi:LF n4 ((List Int)×ak) :=.m 35 [.t 4] true (λr=>[(5000,wR (cI .i64) 1 r.1),(0,.box (tm0 r.2)),(1,wR ao 17 r.2.traits),(2,wR cB 1 r.2.dropped),(3,wR cB 1 r.2.done),(4,wR (cL (cI .i64)) 1 r.2.hits)]) (λr=>(wO (cI .i64) 5000 r.1)) λ|.L0 c0 v1 v5 v6 v7 v18 v19 v20=>([1,1,1,0,1,4],⟨63,[(0,.bptr 0 0),(1,wI v1),(5,wO (cI .i64) 20005 v5),(6,wO (cI .i64) 20006 v6),(7,wO (cI .i64) 20007 v7),(18,wL cf v18),(19,wI v19),(20,wI v20)],[(0,.box (tm0 c0)),(1,wR ao 17 c0.traits),(2,wR cB 1 c0.dropped),(3,wR cB 1 c0.done),(4,wR (cL (cI .i64)) 1 c0.hits),(20005,wR (cI .i64) 1 v5),(20006,wR (cI .i64) 1 v6),(20007,wR (cI .i64) 1 v7)]⟩,KE c0 v1 v5 v6 v7 v18 v19 v20)|.L1 c0 v1 v5 v6 v7=>([1,1,1,1,0,4],⟨63,[(0,.bptr 0 0),(1,wI v1),(5,wO (cI .i64) 20005 v5),(6,wO (cI .i64) 20006 v6),(7,wO (cI .i64) 20007 v7)],[(0,.box (tm0 c0)),(1,wR ao 17 c0.traits),(2,wR cB 1 c0.dropped),(3,wR cB 1 c0.done),(4,wR (cL (cI .i64)) 1 c0.hits),(20005,wR (cI .i64) 1 v5),(20006,wR (cI .i64) 1 v6),(20007,wR (cI .i64) 1 v7)]⟩,KG c0 v1 v5 v6 v7)
def KC:=λb0 a1=>vi.run (KD b0 a1)
def ZCR(b0)(a1){r}(h:KC b0 a1=some r):FnG PR 35 [(0,.box (tm0 b0)),(1,wR ao 17 b0.traits),(2,wR cB 1 b0.dropped),(3,wR cB 1 b0.done),(4,wR (cL (cI .i64)) 1 b0.hits)] [.bptr 0 0,wI a1] [(5000,wR (cI .i64) 1 r.1),(0,.box (tm0 r.2)),(1,wR ao 17 r.2.traits),(2,wR cB 1 r.2.dropped),(3,wR cB 1 r.2.done),(4,wR (cL (cI .i64)) 1 r.2.hits)] (wO (cI .i64) 5000 r.1):=vi.fn h
inductive rj where
 |L0 (E0:ak) (v6:Int)
def KN(E0:ak)(v6:Int):LT rj (List ab):=
.br (decide (v6<=8)) (.callU (ZCR E0 v6) [3000,40020,40021,40022,40023] 170000 λx2=>.g0 (.L0 x2.2 (IntKind.wrap .i64 (v6+1))))<|.ret E0.traits [.relab 40020 5000]
def KK(a0:List aq)(a1:av):LT rj (List ab):=
.lb 1003<|.callF (ZB3 a0 a1) 100000 λx1=>.go (.L0 x1 1) [.relab 105000 3000,.relab 105021 40020,.relab 105022 40021,.relab 105023 40022,.relab 105024 40023]
def Z8a:LF rj (List ab) :=.m 17 [.t 4] true (λr=>[(5000,wR ao 17 r)]) (λr=>(wO ao 5000 r)) λ|.L0 E0 v6=>([1,1,0,1,4],⟨21,[(5,.bptr 3000 0),(6,wI v6)],((3000,.box (tm7 E0 40000))::(tm19 E0 40000))⟩,KN E0 v6)
def rk:=λa0 a1=>Z8a.run (KK a0 a1)
def ZCS(a0)(a1){r}(h:rk a0 a1=some r):FnG PR 17 [] [wL Z0 a0,wA (Z6 a1)] [(5000,wR ao 17 r)] (wO ao 5000 r):=Z8a.fn h
def Qf(a0:List aq)(a1:av){r:List ab}(h:rk a0 a1=some r):Fn PR 17 [wL Z0 a0,wA (Z6 a1)] (wL ao r):=FnG.frozen (C:=LT.RL ao r/\True) (ZCS a0 a1 h) ⟨rfl,ae⟩ bD
def ZCT:LT Empty Bool:=
.dr [.lit]<|.dr [.lit]<|.dr [.lit]<|.dr [.lit]<|.call (ZdZ [(⟨0,0,0,0,0,false,false,false,false,0,(⟨1,0,0⟩:A3 Int),0,0,0,false,0,0⟩:aj),(⟨0,1,0,0,0,false,false,false,false,0,(⟨0,0,0⟩:A3 Int),0,0,0,false,0,0⟩:aj)]) λx3=>.lb 1002<|.call (Qf [(⟨([97]:By),false,(⟨0,0,(⟨0,0,0,0,0⟩:A5 Int)⟩:aJ),0,(⟨0,1,([]:Bys)⟩:aK),2,2,0,([]:List an)⟩:aq),(⟨([98]:By),false,(⟨0,0,(⟨0,0,0,0,0⟩:A5 Int)⟩:aJ),0,(⟨0,16,([]:Bys)⟩:aK),0,0,0,[(⟨1,(⟨0,0,0,1,0,0,0,([]:By),0,0,(⟨0,0⟩:ah),(⟨0,0⟩:ah),(⟨0,0⟩:ah)⟩:al),[(⟨13,1,1,([]:By),(⟨0,0,0,0,0,0,0,([]:By),0,0,(⟨0,0⟩:ah),(⟨0,0⟩:ah),(⟨0,0⟩:ah)⟩:al)⟩:af)],(⟨(⟨0,0,(⟨0,0,0,0,0⟩:A5 Int)⟩:aJ),false,false,0⟩:iE),false,(⟨0,0,(⟨0,0,0,0,0,0,0,([]:By),0,0,(⟨0,0⟩:ah),(⟨0,0⟩:ah),(⟨0,0⟩:ah)⟩:al)⟩:fH),false,([]:List cj),([]:List aX),(⟨0,0,(⟨0,0,0,0,0,0,0,([]:By),0,0,(⟨0,0⟩:ah),(⟨0,0⟩:ah),(⟨0,0⟩:ah)⟩:al),0,0,0,0⟩:dq)⟩:an)]⟩:aq)] x3) λx5=>.call (Z6d [(⟨([97]:By),false,(⟨0,0,(⟨0,0,0,0,0⟩:A5 Int)⟩:aJ),0,(⟨0,1,([]:Bys)⟩:aK),2,2,0,([]:List an)⟩:aq),(⟨([98]:By),false,(⟨0,0,(⟨0,0,0,0,0⟩:A5 Int)⟩:aJ),0,(⟨0,16,([]:Bys)⟩:aK),0,0,0,[(⟨1,(⟨0,0,0,1,0,0,0,([]:By),0,0,(⟨0,0⟩:ah),(⟨0,0⟩:ah),(⟨0,0⟩:ah)⟩:al),[(⟨13,1,1,([]:By),(⟨0,0,0,0,0,0,0,([]:By),0,0,(⟨0,0⟩:ah),(⟨0,0⟩:ah),(⟨0,0⟩:ah)⟩:al)⟩:af)],(⟨(⟨0,0,(⟨0,0,0,0,0⟩:A5 Int)⟩:aJ),false,false,0⟩:iE),false,(⟨0,0,(⟨0,0,0,0,0,0,0,([]:By),0,0,(⟨0,0⟩:ah),(⟨0,0⟩:ah),(⟨0,0⟩:ah)⟩:al)⟩:fH),false,([]:List cj),([]:List aX),(⟨0,0,(⟨0,0,0,0,0,0,0,([]:By),0,0,(⟨0,0⟩:ah),(⟨0,0⟩:ah),(⟨0,0⟩:ah)⟩:al),0,0,0,0⟩:dq)⟩:an)]⟩:aq)] x3) λx7=>.len ao x5<|.cs ((x5.length:Int)==2) (.k2 0<|.idx ao x5 0 λx11=>.k4 0<|.cs (x11.Power==4) (.k2 1<|.ag ao x11 0<|.k4 1<|.cs (x11.Tough==4) (.k2 2<|.idx ao x5 1 λx15=>.k4 2<|.cs (x15.Name==([98]:By)) (.k2 3<|.len cf x7<|.k2 3<|.cs ((x7.length:Int)==1) (.k2 4<|.idx cf x7 0 λx20=>.k4 4<|.rt (x20.Source==2))<|.k5 4<|.kg 4<|.rt false)<|.k4 3<|.b5 false<|.kb false<|.rt false)<|.k5 2<|.kg 2<|.b8 false<|.b2 false<|.rt false)<|.k5 1<|.kg 1<|.b16 false<|.rt false)<|.k5 0<|.kg 0<|.b16 false<|.b5 false<|.kb false<|.rt false
def ZV:LF Empty Bool :=.z0 11 [.t 0] wB
def KP:=ZV.run (ZCT)
def Qe{r}(h:KP=some r):Fn PR 11 [] (wB r):=ZV.fn h
inductive rp where
 |L0 (E0:aJ) (v3:Int) (v4:Int) (v5:Int)
def KU(E0:aJ)(v3:Int)(v4:Int)(v5:Int):LT rp Int:=
.br (decide (v5<5)) (.idA (aa.int .i64) (A5.list E0.Color) v5 (bx (cc E0)) 2 7 λx2=>.ldC (aa.int .i64) 16 x2 0<|.br (decide (x2>0)) (.g0 (.L0 E0 (IntKind.wrap .i64 (v3+v4)) (IntKind.wrap .i64 (2*v4)) (IntKind.wrap .i64 (v5+1))))<|.g0 (.L0 E0 v3 (IntKind.wrap .i64 (2*v4)) (IntKind.wrap .i64 (v5+1))))<|.rt v3
def KS(a0:aJ):LT rp Int:=
.lb 1001<|.call (pH a0) λx1=>.br (!x1) (.rt 0)<|.go (.L0 a0 0 1 0) [.relab 1001 3000]
def Z34:LF rp Int :=.m0 67 [.t 2] wI λ|.L0 E0 v3 v4 v5=>([1,1,1,1,0,1,4],⟨24,[(1,.bptr 3000 0),(3,wI v3),(4,wI v4),(5,wI v5)],[(3000,.box (bx (cc E0)))]⟩,KU E0 v3 v4 v5)
def KR:=λa0=>Z34.run (KS a0)
def ZCU(a0){r}(h:KR a0=some r):Fn PR 67 [wA (cc a0)] (wI r):=Z34.fn h
inductive rq where
 |L0 (E0:an) (E1:an) (E2:an) (v4:Int)
def KZ(E0:an)(E1:an)(E2:an)(v4:Int):LT rq an:=
.len bc E0.Effects<|.br (decide (v4<(E0.Effects.length:Int))) (.idx bc E0.Effects v4 λx3=>.lb 1005<|.lb 1030<|.apR ax 176 ([]:List af) x3.Mods λx5=>.dr [.ahead 38,.pick [37,36,35,34,33,32,31,5,29,28,27,26,25,22,21,20,19,18,1,2,3,4] [1005,1030,3000,3001,40117,40148,40149,3002,40217,40248,40249],.frz 1030,.stop]<|.rl ax x5<|.rl ax x5<|.rl ax x5<|.dr [.lit]<|.apR bc 560 E2.Effects [(⟨x3.Op,x3.Ref,x3.Amount,x3.Counter,x3.Zone,x3.Card,x3.Filter,x3.Pool,x5⟩:aX)] λx8=>.g0 (.L0 E0 E1 (⟨E2.Kind,E2.Filter,E2.Mods,E2.Price,E2.Slow,E2.Trigger,E2.May,E2.Specs,x8,E2.Replace⟩:an) (IntKind.wrap .i64 (v4+1))))<|.ret E2 [.relab 40217 5017,.relab 40248 5048,.relab 40249 5049]
def KX(a0:an):LT rq an:=
.lb 1001<|.lb 1002<|.lb 1003<|.lb 1007<|.apR ax 176 ([]:List af) a0.Mods λx1=>.lb 1012<|.apR bK 144 ([]:List cj) a0.Specs λx4=>.go (.L0 a0 (⟨0,(⟨0,0,0,0,0,0,0,([]:By),0,0,(⟨0,0⟩:ah),(⟨0,0⟩:ah),(⟨0,0⟩:ah)⟩:al),([]:List af),(⟨(⟨0,0,(⟨0,0,0,0,0⟩:A5 Int)⟩:aJ),false,false,0⟩:iE),false,(⟨0,0,(⟨0,0,0,0,0,0,0,([]:By),0,0,(⟨0,0⟩:ah),(⟨0,0⟩:ah),(⟨0,0⟩:ah)⟩:al)⟩:fH),false,([]:List cj),([]:List aX),(⟨0,0,(⟨0,0,0,0,0,0,0,([]:By),0,0,(⟨0,0⟩:ah),(⟨0,0⟩:ah),(⟨0,0⟩:ah)⟩:al),0,0,0,0⟩:dq)⟩:an) (⟨a0.Kind,a0.Filter,x1,a0.Price,a0.Slow,a0.Trigger,a0.May,x4,([]:List aX),a0.Replace⟩:an) 0) [.relab 1001 3000,.relab 1002 3001,.relab 1003 3002,.ownb 3001 17 40117 20,.ownb 3001 48 40148 18,.ownb 3001 49 40149 64,.relab 1007 40217,.relab 1012 40248,.ownb 3002 49 40249 64]
def Z0o:LF rq an :=.m 68 [.c 2 89 true 72] true (λr=>(tm17 r 5000)) (λr=>(.agg (tm1 r 5000))) λ|.L0 E0 E1 E2 v4=>([1,1,1,1,1,0,1,4],⟨42,[(1,.bptr 3000 0),(2,.bptr 3001 0),(3,.bptr 3002 0),(4,wI v4)],((3000,.box (bx (aC E0)))::(3001,.box (tm1 E1 40100))::(40117,wR ax 20 E1.Mods)::(40148,wR bK 18 E1.Specs)::(40149,wR bc 64 E1.Effects)::(3002,.box (tm1 E2 40200))::(tm17 E2 40200))⟩,KZ E0 E1 E2 v4)
def Z8b:=λa0=>Z0o.run (KX a0)
def ZCV(a0){r}(h:Z8b a0=some r):FnG PR 68 [] [wA (aC a0)] (tm17 r 5000) (.agg (tm1 r 5000)):=Z0o.fn h
def ZCW(a0:an){r:an}(h:Z8b a0=some r):Fn PR 68 [wA (aC a0)] (wA (aC r)):=FnG.frozen (C:=LT.RL ax r.Mods/\LT.RL bK r.Specs/\LT.RL bc r.Effects/\True) (ZCV a0 h) ⟨rfl,rfl,rfl,ae⟩ bD
inductive rr where
 |L0 (E0:aq) (E1:ab) (E2:ab) (v4:Int)
def K4(E0:aq)(E1:ab)(E2:ab)(v4:Int):LT rr ab:=
.len aC E0.Abilities<|.br (decide (v4<(E0.Abilities.length:Int))) (.idx aC E0.Abilities v4 λx3=>.call (ZCW x3) λx5=>.dr [.lit]<|.apR aC 640 E2.Abilities [x5] λx7=>.g0 (.L0 E0 E1 (⟨E2.Name,E2.Cost,E2.Colors,E2.Line,E2.Power,E2.Tough,E2.Keys,x7,E2.Control⟩:ab) (IntKind.wrap .i64 (v4+1))))<|.ret E2 [.relab 40211 5011,.relab 40215 5015]
def K2(a0:aq):LT rr ab:=
.lb 1001<|.lb 1002<|.call (ZCU a0.Cost) λx1=>.lb 1003<|.lb 1024<|.apR cS 16 ([]:Bys) a0.Line.Subs λx3=>.go (.L0 a0 (⟨([]:By),(⟨0,0,(⟨0,0,0,0,0⟩:A5 Int)⟩:aJ),0,(⟨0,0,([]:Bys)⟩:aK),0,0,0,([]:List an),0⟩:ab) (⟨a0.Name,a0.Cost,aR .or .i64 x1 a0.Color,(⟨a0.Line.Super,a0.Line.Types,x3⟩:aK),a0.Power,a0.Tough,a0.Keys,([]:List an),0⟩:ab) 0) [.relab 1001 3000,.relab 1002 3001,.relab 1003 3002,.ownb 3001 11 40111 1,.ownb 3001 15 40115 72,.relab 1024 40211,.ownb 3002 15 40215 72]
def Z0p:LF rr ab :=.m 40 [.c 2 66 true 17] true (λr=>[(5011,wR cS 1 r.Line.Subs),(5015,wR aC 72 r.Abilities)]) (λr=>(.agg (tm2 r 5000))) λ|.L0 E0 E1 E2 v4=>([1,1,1,0,1,4],⟨50,[(1,.bptr 3000 0),(2,.bptr 3001 0),(3,.bptr 3002 0),(4,wI v4)],[(3000,.box (bx (Z0 E0))),(3001,.box (tm2 E1 40100)),(40111,wR cS 1 E1.Line.Subs),(40115,wR aC 72 E1.Abilities),(3002,.box (tm2 E2 40200)),(40211,wR cS 1 E2.Line.Subs),(40215,wR aC 72 E2.Abilities)]⟩,K4 E0 E1 E2 v4)
def K1:=λa0=>Z0p.run (K2 a0)
def ZCX(a0){r}(h:K1 a0=some r):FnG PR 40 [] [wA (Z0 a0)] [(5011,wR cS 1 r.Line.Subs),(5015,wR aC 72 r.Abilities)] (.agg (tm2 r 5000)):=Z0p.fn h
inductive n6 where
 |L0 (v0:List aq) (E0:aj) (E1:ab) (v5:Int)
 |L1 (E0:aj) (E1:ab) (E2:ab)
def n7(E0:aj)(E1:ab)(E2:ab):LT n6 ab:=
.cs (E0.Zone==0) (.k4 0<|.kn [0]<|.ret (⟨E2.Name,E2.Cost,E2.Colors,E2.Line,E2.Power,E2.Tough,E2.Keys,E2.Abilities,E0.Control⟩:ab) [.relab 40211 5011,.relab 40215 5015])<|.k4 0<|.br (E0.Zone==5) (.ret (⟨E2.Name,E2.Cost,E2.Colors,E2.Line,E2.Power,E2.Tough,E2.Keys,E2.Abilities,E0.Control⟩:ab) [.relab 40211 5011,.relab 40215 5015])<|.ret (⟨E2.Name,E2.Cost,E2.Colors,E2.Line,E2.Power,E2.Tough,E2.Keys,E2.Abilities,E0.Owner⟩:ab) [.relab 40211 5011,.relab 40215 5015]
def rv(v0:List aq)(E0:aj)(E1:ab)(v5:Int):LT n6 ab:=
.lb 1006<|.cs (decide (v5>=0)) (.k3 0<|.len Z0 v0<|.k2 0<|.br (decide (v5<(v0.length:Int))) (.idx Z0 v0 v5 λx4=>.callF (ZCX x4) 260000 λx6=>.jn 0 (.L1 E0 E1 x6) [.relab 1006 3002,.relab 265011 40211,.relab 265015 40215] (n7 E0 E1 x6))<|.jn 0 (.L1 E0 E1 (⟨([]:By),(⟨0,0,(⟨0,0,0,0,0⟩:A5 Int)⟩:aJ),0,(⟨0,0,([]:Bys)⟩:aK),0,0,0,([]:List an),0⟩:ab)) (tm15 1000 3000 40200) (n7 E0 E1 (⟨([]:By),(⟨0,0,(⟨0,0,0,0,0⟩:A5 Int)⟩:aJ),0,(⟨0,0,([]:Bys)⟩:aK),0,0,0,([]:List an),0⟩:ab)))<|.k5 0<|.kn [0]<|.jn 0 (.L1 E0 E1 (⟨([]:By),(⟨0,0,(⟨0,0,0,0,0⟩:A5 Int)⟩:aJ),0,(⟨0,0,([]:Bys)⟩:aK),0,0,0,([]:List an),0⟩:ab)) (tm15 1000 3000 40200) (n7 E0 E1 (⟨([]:By),(⟨0,0,(⟨0,0,0,0,0⟩:A5 Int)⟩:aJ),0,(⟨0,0,([]:Bys)⟩:aK),0,0,0,([]:List an),0⟩:ab))
def K9(a0:List aq)(a1:aj):LT n6 ab:=
.lb 1003<|.lb 1004<|.br (decide (a1.Copy<0)) (.jn 0 (.L0 a0 a1 (⟨([]:By),(⟨0,0,(⟨0,0,0,0,0⟩:A5 Int)⟩:aJ),0,(⟨0,0,([]:Bys)⟩:aK),0,0,0,([]:List an),0⟩:ab) a1.Card) (tm14 1000 3000 40100) (rv a0 a1 (⟨([]:By),(⟨0,0,(⟨0,0,0,0,0⟩:A5 Int)⟩:aJ),0,(⟨0,0,([]:Bys)⟩:aK),0,0,0,([]:List an),0⟩:ab) a1.Card))<|.jn 0 (.L0 a0 a1 (⟨([]:By),(⟨0,0,(⟨0,0,0,0,0⟩:A5 Int)⟩:aJ),0,(⟨0,0,([]:Bys)⟩:aK),0,0,0,([]:List an),0⟩:ab) a1.Copy) (tm14 1000 3000 40100) (rv a0 a1 (⟨([]:By),(⟨0,0,(⟨0,0,0,0,0⟩:A5 Int)⟩:aJ),0,(⟨0,0,([]:Bys)⟩:aK),0,0,0,([]:List an),0⟩:ab) a1.Copy)
def ZW:LF n6 ab :=.m 22 [.c 4 66 true 17] true (λr=>[(5011,wR cS 1 r.Line.Subs),(5015,wR aC 72 r.Abilities)]) (λr=>(.agg (tm2 r 5000))) λ|.L0 v0 E0 E1 v5=>([1,1,1],⟨41,[(0,wL Z0 v0),(3,.bptr 3000 0),(4,.bptr 3001 0),(5,wI v5)],[(3000,.box (bx (aH E0))),(3001,.box (tm2 E1 40100)),(40111,wR cS 1 E1.Line.Subs),(40115,wR aC 72 E1.Abilities)]⟩,rv v0 E0 E1 v5)|.L1 E0 E1 E2=>([1,1,1,1,1],⟨41,[(3,.bptr 3000 0),(4,.bptr 3001 0),(6,.bptr 3002 0)],[(3000,.box (bx (aH E0))),(3001,.box (tm2 E1 40100)),(40111,wR cS 1 E1.Line.Subs),(40115,wR aC 72 E1.Abilities),(3002,.box (tm2 E2 40200)),(40211,wR cS 1 E2.Line.Subs),(40215,wR aC 72 E2.Abilities)]⟩,n7 E0 E1 E2)
def Aa:=λa0 a1=>ZW.run (K9 a0 a1)
def ZCY(a0)(a1){r}(h:Aa a0 a1=some r):FnG PR 22 [] [wL Z0 a0,wA (aH a1)] [(5011,wR cS 1 r.Line.Subs),(5015,wR aC 72 r.Abilities)] (.agg (tm2 r 5000)):=ZW.fn h
def Pt(a0:List aq)(a1:aj){r:ab}(h:Aa a0 a1=some r):Fn PR 22 [wL Z0 a0,wA (aH a1)] (wA (ao r)):=FnG.frozen (C:=LT.RL cS r.Line.Subs/\LT.RL aC r.Abilities/\True) (ZCY a0 a1 h) ⟨rfl,rfl,ae⟩ bD
inductive l9 where
 |L0 (v0:List aq) (E0:av) (v5:List bd) (v6:Int)
 |L1 (v0:List aq) (E0:av) (v5:List bd) (v6:Int) (E1:aj) (E2:ab) (v9:Int)
 |L2 (E0:av) (v5:List bd) (v11:Int)
def Ld(v0:List aq)(E0:av)(v5:List bd)(v6:Int):LT l9 (List bd):=
.len aH E0.Objects<|.br (decide (v6<(E0.Objects.length:Int))) (.idx aH E0.Objects v6 λx3=>.lb 1007<|.br (x3.Zone != 0) (.g0 (.L0 v0 E0 v5 (IntKind.wrap .i64 (v6+1))))<|.call (Pt v0 x3) λx8=>.lb 1008<|.go (.L1 v0 E0 v5 v6 x3 x8 0) [.relab 1007 3001,.relab 1008 3002])<|.g0 (.L2 E0 v5 0)
def Lg(v0:List aq)(E0:av)(v5:List bd)(v6:Int)(E1:aj)(E2:ab)(v9:Int):LT l9 (List bd):=
.len aC E2.Abilities<|.br (decide (v9<(E2.Abilities.length:Int))) (.idx aC E2.Abilities v9 λx3=>.lb 1010<|.br (x3.Kind==1) (.dr [.lit]<|.apR bI 224 v5 [(⟨E1.Id,v9,E1.Control,E1.Stamp,false,([]:List Int),x3.Filter,x3.Mods⟩:bd)] λx6=>.g0 (.L1 v0 E0 x6 v6 E1 E2 (IntKind.wrap .i64 (v9+1))))<|.g0 (.L1 v0 E0 v5 v6 E1 E2 (IntKind.wrap .i64 (v9+1))))<|.g0 (.L0 v0 E0 v5 (IntKind.wrap .i64 (v6+1)))
def Lh(E0:av)(v5:List bd)(v11:Int):LT l9 (List bd):=
.len c6 E0.Conts<|.br (decide (v11<(E0.Conts.length:Int))) (.idx c6 E0.Conts v11 λx3=>.lb 1012<|.dr [.lit]<|.apR bI 224 v5 [(⟨x3.Source,-1,x3.Control,x3.Stamp,true,x3.Objects,(⟨0,0,0,0,0,0,0,([]:By),0,0,(⟨0,0⟩:ah),(⟨0,0⟩:ah),(⟨0,0⟩:ah)⟩:al),x3.Mods⟩:bd)] λx5=>.g0 (.L2 E0 x5 (IntKind.wrap .i64 (v11+1))))<|.ret v5 [.relab 20005 5000]
def Lc(a0:List aq)(a1:av):LT l9 (List bd):=
.lb 1003<|.lb 1013<|.go (.L0 a0 a1 ([]:List bd) 0) [.relab 1003 3000,.relab 1013 20005]
def ry:LF l9 (List bd) :=.m 13 [.t 4] true (λr=>[(5000,wR bI 23 r)]) (λr=>(wO bI 5000 r)) λ|.L0 v0 E0 v5 v6=>([1,1,0,1,4],⟨89,[(0,wL Z0 v0),(3,.bptr 3000 0),(5,wO bI 20005 v5),(6,wI v6)],[(3000,.box (bx (Z6 E0))),(20005,wR bI 23 v5)]⟩,Ld v0 E0 v5 v6)|.L1 v0 E0 v5 v6 E1 E2 v9=>([1,1,0,1,4,5,1,0,4,1,1,1,1,4],⟨89,[(0,wL Z0 v0),(3,.bptr 3000 0),(5,wO bI 20005 v5),(6,wI v6),(7,.bptr 3001 0),(8,.bptr 3002 0),(9,wI v9)],[(3000,.box (bx (Z6 E0))),(20005,wR bI 23 v5),(3001,.box (bx (aH E1))),(3002,.box (bx (ao E2)))]⟩,Lg v0 E0 v5 v6 E1 E2 v9)|.L2 E0 v5 v11=>([1,1,1,0,1,4],⟨89,[(3,.bptr 3000 0),(5,wO bI 20005 v5),(11,wI v11)],[(3000,.box (bx (Z6 E0))),(20005,wR bI 23 v5)]⟩,Lh E0 v5 v11)
def Ab:=λa0 a1=>ry.run (Lc a0 a1)
def ZCZ(a0)(a1){r}(h:Ab a0 a1=some r):FnG PR 13 [] [wL Z0 a0,wA (Z6 a1)] [(5000,wR bI 23 r)] (wO bI 5000 r):=ry.fn h
def ZnB(a0:List aq)(a1:av){r:List bd}(h:Ab a0 a1=some r):Fn PR 13 [wL Z0 a0,wA (Z6 a1)] (wL bI r):=FnG.frozen (C:=LT.RL bI r/\True) (ZCZ a0 a1 h) ⟨rfl,ae⟩ bD
inductive rz where
 |L0 (v0:List Int) (v1:List Int) (v5:Int)
def Ln(v0:List Int)(v1:List Int)(v5:Int):LT rz Bool:=
.len (cI .i64) v0<|.br (decide (v5<(v0.length:Int))) (.idx (cI .i64) v0 v5 λx3=>.idx (cI .i64) v1 v5 λx5=>.br (x3 != x5) (.rt false)<|.g0 (.L0 v0 v1 (IntKind.wrap .i64 (v5+1))))<|.rt true
def Ll(a0:List Int)(a1:List Int):LT rz Bool:=
.len (cI .i64) a0<|.len (cI .i64) a1<|.br ((a0.length:Int) != (a1.length:Int)) (.rt false)<|.g0 (.L0 a0 a1 0)
def Ae:LF rz Bool :=.m0 14 [.t 4] wB λ|.L0 v0 v1 v5=>([1,1,0,1,4],⟨26,[(0,wL (cI .i64) v0),(1,wL (cI .i64) v1),(5,wI v5)],[]⟩,Ln v0 v1 v5)
def Lk:=λa0 a1=>Ae.run (Ll a0 a1)
def P8(a0)(a1){r}(h:Lk a0 a1=some r):Fn PR 14 [wL (cI .i64) a0,wL (cI .i64) a1] (wB r):=Ae.fn h
end
end Go.PW
