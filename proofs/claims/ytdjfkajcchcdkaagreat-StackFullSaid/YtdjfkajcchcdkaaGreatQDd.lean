import Derived.Test.YtdjfkajcchcdkaaGreatQDc
set_option linter.all false
set_option maxRecDepth 100000
namespace Go.PW
open Go.RowKit
noncomputable section
def Gg(a0:ab)(a1:Int):LT Empty Bool:=
.lb 1002<|.br (a0.Kind==0) (.rt true)<|.br (a0.Kind==1) (.rt (decide (a1>=a0.N)))<|.br (a0.Kind==2) (.rt (decide (a1<=a0.N)))<|.br (a0.Kind==3) (.rt (a1==a0.N))<|.rt false
def Gh:LF Empty Bool :=.z0 316 [.t 4] wB
def xY:=λa0 a1=>Gh.run (Gg a0 a1)
def oV(a0)(a1){r}(h:xY a0 a1=some r):Fn PR 316 [wA (eG a0),wI a1] (wB r):=Gh.fn h
def Gi(a0:Int)(a1:Int):LT Empty Int:=
.call (mJ a0) λx1=>.call (mJ a1) λx3=>.call (mJ (IntKind.wrap .i64 (x1*x3))) λx7=>.rt x7
def Gj:LF Empty Int :=.z0 330 [.t 4] wI
def xZ:=λa0 a1=>Gj.run (Gi a0 a1)
def Gk(a0)(a1){r}(h:xZ a0 a1=some r):Fn PR 330 [wI a0,wI a1] (wI r):=Gj.fn h
inductive Z57 where
 |L0 (v1:Int) (E0:Z5) (v5:Int) (v6:Int)
def oW(v1:Int)(E0:Z5)(v5:Int)(v6:Int):LT Z57 Int:=
.br (decide (v6<5)) (.idA (U.int .i64) (A5.list E0.Color) v6 (bx (cn E0)) 2 7 λx2=>.ldC (U.int .i64) 20 x2 0<|.call (Z9o v5 x2) λx4=>.g0 (.L0 v1 E0 x4 (IntKind.wrap .i64 (v6+1))))<|.br (decide (v1<0)) (.call (Gk E0.X 0) λx9=>.call (Z9o v5 x9) λx11=>.rt x11)<|.call (Gk E0.X v1) λx13=>.call (Z9o v5 x13) λx15=>.rt x15
def Gl(a0:Z5)(a1:Int):LT Z57 Int:=
.lb 1002<|.call (Z3h a0) λx1=>.br (!x1) (.rt 0)<|.go (.L0 a1 a0 a0.Generic 0) [.relab 1002 3000]
def sN:LF Z57 Int :=.m0 317 [.t 4] wI λ|.L0 v1 E0 v5 v6=>([1,1,1,0,1,4],⟨30,[(1,wI v1),(2,.bptr 3000 0),(5,wI v5),(6,wI v6)],[(3000,.box (bx (cn E0)))]⟩,oW v1 E0 v5 v6)
def ya:=λa0 a1=>sN.run (Gl a0 a1)
def Z2e(a0)(a1){r}(h:ya a0 a1=some r):Fn PR 317 [wA (cn a0),wI a1] (wI r):=sN.fn h
inductive Z2f where
 |L0 (E0:al) (E1:ai) (v5:Bool)
def mK(E0:al)(E1:ai)(v5:Bool):LT Z2f Bool:=
.cs (E1.Tough.Kind != 0) (.k2 0<|.cs v5 (.k5 1<|.call (oV E1.Tough E0.Tough) λx3=>.kg 0<|.kg 1<|.k2 0<|.br (!x3) (.rt false)<|.call (Z2e E0.Cost 0) λx6=>.call (oV E1.Value x6) λx8=>.rt x8)<|.k5 1<|.kg 0<|.kg 1<|.k2 0<|.br (!false) (.rt false)<|.call (Z2e E0.Cost 0) λx11=>.call (oV E1.Value x11) λx13=>.rt x13)<|.k5 0<|.kn [0]<|.call (Z2e E0.Cost 0) λx15=>.call (oV E1.Value x15) λx17=>.rt x17
def Gm(a0:al)(a1:ai):LT Z2f Bool:=
.lb 1002<|.lb 1003<|.call (sO a0.Line.Types 1) λx1=>.cs (a1.Power.Kind != 0) (.k2 0<|.cs x1 (.k5 1<|.call (oV a1.Power a0.Power) λx5=>.kg 0<|.kg 1<|.k2 0<|.br (!x5) (.rt false)<|.jn 0 (.L0 a0 a1 x1) [.relab 1002 3000,.relab 1003 3001] (mK a0 a1 x1))<|.k5 1<|.kg 0<|.kg 1<|.k2 0<|.br (!false) (.rt false)<|.jn 0 (.L0 a0 a1 x1) [.relab 1002 3000,.relab 1003 3001] (mK a0 a1 x1))<|.k5 0<|.kn [0]<|.jn 0 (.L0 a0 a1 x1) [.relab 1002 3000,.relab 1003 3001] (mK a0 a1 x1)
def Z2g:LF Z2f Bool :=.m0 285 [.t 4] wB λ|.L0 E0 E1 v5=>([1,1,1],⟨46,[(2,.bptr 3000 0),(3,.bptr 3001 0),(5,wB v5)],[(3000,.box (bx (aw E0))),(3001,.box (bx (bg E1)))]⟩,mK E0 E1 v5)
def Z9q:=λa0 a1=>Z2g.run (Gm a0 a1)
def Gn(a0)(a1){r}(h:Z9q a0 a1=some r):Fn PR 285 [wA (aw a0),wA (bg a1)] (wB r):=Z2g.fn h
inductive Z2h where
 |L0 (E0:al) (E1:ai)
 |L1 (E0:al) (E1:ai)
def oX(E0:al)(E1:ai):LT Z2h Bool:=
.cs (!(E1.Sub==([]:By))) (.k5 0<|.call (Ut E0.Line E1.Sub) λx2=>.k2 0<|.cs (!x2) (.k5 1<|.k2 1<|.kn [0]<|.rt false)<|.k5 1<|.call (Gp E0.Keys E1.Keys) λx5=>.k2 1<|.br (!x5) (.rt false)<|.call (Gn E0 E1) λx8=>.rt x8)<|.k5 0<|.k2 0<|.b5 false<|.call (Gp E0.Keys E1.Keys) λx10=>.b2 false<|.br (!x10) (.rt false)<|.call (Gn E0 E1) λx13=>.rt x13
def Uu(E0:al)(E1:ai):LT Z2h Bool:=
.cs (E1.Colors != 0) (.k5 0<|.call (sO E0.Colors E1.Colors) λx2=>.k2 0<|.cs (!x2) (.k5 1<|.kg 1<|.kn [0]<|.rt false)<|.k5 1<|.call (sO E0.Colors E1.NotColors) λx5=>.kg 1<|.br x5 (.rt false)<|.j0 (.L1 E0 E1) (oX E0 E1))<|.k5 0<|.k2 0<|.b5 false<|.call (sO E0.Colors E1.NotColors) λx8=>.kb false<|.br x8 (.rt false)<|.j0 (.L1 E0 E1) (oX E0 E1)
def Uv:LF Z2h Bool :=.m0 215 [.t 10] wB λ|.L0 E0 E1=>([1,1,1],⟨107,[(6,.bptr 3000 0),(9,.bptr 3001 0)],[(3000,.box (bx (aw E0))),(3001,.box (bx (bg E1)))]⟩,Uu E0 E1)|.L1 E0 E1=>([1,1,1,1],⟨107,[(6,.bptr 3000 0),(9,.bptr 3001 0)],[(3000,.box (bx (aw E0))),(3001,.box (bx (bg E1)))]⟩,oX E0 E1)
end
end Go.PW
