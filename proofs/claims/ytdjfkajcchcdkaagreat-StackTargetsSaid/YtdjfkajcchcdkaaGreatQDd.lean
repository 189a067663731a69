import Derived.Test.YtdjfkajcchcdkaaGreatQDc
set_option linter.all false
set_option maxRecDepth 100000
namespace Go.PW
open Go.RowKit
noncomputable section
def Mm(a0:ae)(a1:Int):LT Empty Bool:=
.lb 1002<|.br (a0.Kind==0) (.rt true)<|.br (a0.Kind==1) (.rt (decide (a1>=a0.N)))<|.br (a0.Kind==2) (.rt (decide (a1<=a0.N)))<|.br (a0.Kind==3) (.rt (a1==a0.N))<|.rt false
def Mn:LF Empty Bool :=.z0 316 [.t 4] wB
def AD:=λa0 a1=>Mn.run (Mm a0 a1)
def qW(a0)(a1){r}(h:AD a0 a1=some r):Fn PR 316 [wA (e9 a0),wI a1] (wB r):=Mn.fn h
def Mo(a0:Int)(a1:Int):LT Empty Int:=
.call (nM a0) λx1=>.call (nM a1) λx3=>.call (nM (IntKind.wrap .i64 (x1*x3))) λx7=>.rt x7
def Mp:LF Empty Int :=.z0 330 [.t 4] wI
def AE:=λa0 a1=>Mp.run (Mo a0 a1)
def Mq(a0)(a1){r}(h:AE a0 a1=some r):Fn PR 330 [wI a0,wI a1] (wI r):=Mp.fn h
inductive AF where
 |L0 (v1:Int) (E0:Z4) (v5:Int) (v6:Int)
def qX(v1:Int)(E0:Z4)(v5:Int)(v6:Int):LT AF Int:=
.br (decide (v6<5)) (.idA (U.int .i64) (A5.list E0.Color) v6 (bx (cJ E0)) 2 7 λx2=>.ldC (U.int .i64) 20 x2 0<|.call (AG v5 x2) λx4=>.g0 (.L0 v1 E0 x4 (IntKind.wrap .i64 (v6+1))))<|.br (decide (v1<0)) (.call (Mq E0.X 0) λx9=>.call (AG v5 x9) λx11=>.rt x11)<|.call (Mq E0.X v1) λx13=>.call (AG v5 x13) λx15=>.rt x15
def Mr(a0:Z4)(a1:Int):LT AF Int:=
.lb 1002<|.call (Z9z a0) λx1=>.br (!x1) (.rt 0)<|.go (.L0 a1 a0 a0.Generic 0) [.relab 1002 3000]
def Z2e:LF AF Int :=.m0 317 [.t 4] wI λ|.L0 v1 E0 v5 v6=>([1,1,1,0,1,4],⟨30,[(1,wI v1),(2,.bptr 3000 0),(5,wI v5),(6,wI v6)],[(3000,.box (bx (cJ E0)))]⟩,qX v1 E0 v5 v6)
def AH:=λa0 a1=>Z2e.run (Mr a0 a1)
def Z8i(a0)(a1){r}(h:AH a0 a1=some r):Fn PR 317 [wA (cJ a0),wI a1] (wI r):=Z2e.fn h
inductive Z8j where
 |L0 (E0:ah) (E1:aj) (v5:Bool)
def nN(E0:ah)(E1:aj)(v5:Bool):LT Z8j Bool:=
.cs (E1.Tough.Kind != 0) (.k2 0<|.cs v5 (.k5 1<|.call (qW E1.Tough E0.Tough) λx3=>.kg 0<|.kg 1<|.k2 0<|.br (!x3) (.rt false)<|.call (Z8i E0.Cost 0) λx6=>.call (qW E1.Value x6) λx8=>.rt x8)<|.k5 1<|.kg 0<|.kg 1<|.k2 0<|.br (!false) (.rt false)<|.call (Z8i E0.Cost 0) λx11=>.call (qW E1.Value x11) λx13=>.rt x13)<|.k5 0<|.kn [0]<|.call (Z8i E0.Cost 0) λx15=>.call (qW E1.Value x15) λx17=>.rt x17
def Ms(a0:ah)(a1:aj):LT Z8j Bool:=
.lb 1002<|.lb 1003<|.call (vi a0.Line.Types 1) λx1=>.cs (a1.Power.Kind != 0) (.k2 0<|.cs x1 (.k5 1<|.call (qW a1.Power a0.Power) λx5=>.kg 0<|.kg 1<|.k2 0<|.br (!x5) (.rt false)<|.jn 0 (.L0 a0 a1 x1) [.relab 1002 3000,.relab 1003 3001] (nN a0 a1 x1))<|.k5 1<|.kg 0<|.kg 1<|.k2 0<|.br (!false) (.rt false)<|.jn 0 (.L0 a0 a1 x1) [.relab 1002 3000,.relab 1003 3001] (nN a0 a1 x1))<|.k5 0<|.kn [0]<|.jn 0 (.L0 a0 a1 x1) [.relab 1002 3000,.relab 1003 3001] (nN a0 a1 x1)
def Z8k:LF Z8j Bool :=.m0 285 [.t 4] wB λ|.L0 E0 E1 v5=>([1,1,1],⟨46,[(2,.bptr 3000 0),(3,.bptr 3001 0),(5,wB v5)],[(3000,.box (bx (ay E0))),(3001,.box (bx (bf E1)))]⟩,nN E0 E1 v5)
def AI:=λa0 a1=>Z8k.run (Ms a0 a1)
def Mt(a0)(a1){r}(h:AI a0 a1=some r):Fn PR 285 [wA (ay a0),wA (bf a1)] (wB r):=Z8k.fn h
inductive Z8l where
 |L0 (E0:ah) (E1:aj)
 |L1 (E0:ah) (E1:aj)
def qY(E0:ah)(E1:aj):LT Z8l Bool:=
.cs (!(E1.Sub==([]:By))) (.k5 0<|.call (ZcX E0.Line E1.Sub) λx2=>.k2 0<|.cs (!x2) (.k5 1<|.k2 1<|.kn [0]<|.rt false)<|.k5 1<|.call (Mu E0.Keys E1.Keys) λx5=>.k2 1<|.br (!x5) (.rt false)<|.call (Mt E0 E1) λx8=>.rt x8)<|.k5 0<|.k2 0<|.b5 false<|.call (Mu E0.Keys E1.Keys) λx10=>.b2 false<|.br (!x10) (.rt false)<|.call (Mt E0 E1) λx13=>.rt x13
def ZcY(E0:ah)(E1:aj):LT Z8l Bool:=
.cs (E1.Colors != 0) (.k5 0<|.call (vi E0.Colors E1.Colors) λx2=>.k2 0<|.cs (!x2) (.k5 1<|.kg 1<|.kn [0]<|.rt false)<|.k5 1<|.call (vi E0.Colors E1.NotColors) λx5=>.kg 1<|.br x5 (.rt false)<|.j0 (.L1 E0 E1) (qY E0 E1))<|.k5 0<|.k2 0<|.b5 false<|.call (vi E0.Colors E1.NotColors) λx8=>.kb false<|.br x8 (.rt false)<|.j0 (.L1 E0 E1) (qY E0 E1)
def ZcZ:LF Z8l Bool :=.m0 215 [.t 10] wB λ|.L0 E0 E1=>([1,1,1],⟨107,[(6,.bptr 3000 0),(9,.bptr 3001 0)],[(3000,.box (bx (ay E0))),(3001,.box (bx (bf E1)))]⟩,ZcY E0 E1)|.L1 E0 E1=>([1,1,1,1],⟨107,[(6,.bptr 3000 0),(9,.bptr 3001 0)],[(3000,.box (bx (ay E0))),(3001,.box (bx (bf E1)))]⟩,qY E0 E1)
end
end Go.PW
