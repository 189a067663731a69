import Derived.Test.YtchddhcajpagjaaGreatQDb
set_option linter.all false
set_option maxRecDepth 100000
namespace Go.PW
open Go.RowKit
noncomputable section
def Zall(a0:Int)(a1:Int):LT Empty Int:=
.call (Ziw a0) fun x1=>.call (Ziw a1) fun x3=>.call (Ziw (IntKind.wrap .i64 (x1+x3))) fun x7=>.rt x7
def Zalm:LF Empty Int := .z0 108 [.t 4] wI
def Zaju:=fun a0 a1=>Zalm.run (Zall a0 a1)
theorem Z34(a0)(a1){r}(h:Zaju a0 a1=some r):Fn PR 108 [wI a0,wI a1] (wI r):=Zalm.fn h
def Zamj(a0:Int)(a1:Int):LT Empty Bool:=
.rt ((Zax .and .i64 a0 a1) != 0)
def Z5f:LF Empty Bool := .z0 215 [.t 4] wB
def Zabn:=fun a0 a1=>Z5f.run (Zamj a0 a1)
theorem Zl6(a0)(a1){r}(h:Zabn a0 a1=some r):Fn PR 215 [wI a0,wI a1] (wB r):=Z5f.fn h
def Z78(a0:Z6)(a1:By):LT Empty Bool:=
.lb 1002<|.call (Zwv a0.Subs a1) fun x1=>.rt (decide (x1>=0))
def Z79:LF Empty Bool := .z0 216 [.t 4] wB
def Z35:=fun a0 a1=>Z79.run (Z78 a0 a1)
theorem Zamk(a0)(a1){r}(h:Z35 a0 a1=some r):Fn PR 216 [wA (Zd8 a0),wS a1] (wB r):=Z79.fn h
def Zayt(a0:Int)(a1:Int):LT Empty Bool:=
.rt ((Zax .and .i64 a0 a1)==a1)
def Zaln:LF Empty Bool := .z0 217 [.t 4] wB
def Zaun:=fun a0 a1=>Zaln.run (Zayt a0 a1)
theorem Zahk(a0)(a1){r}(h:Zaun a0 a1=some r):Fn PR 217 [wI a0,wI a1] (wB r):=Zaln.fn h
def Zabo(a0:Za)(a1:Int):LT Empty Bool:=
.lb 1002<|.br (a0.Kind==0) (.rt true)<|.br (a0.Kind==1) (.rt (decide (a1>=a0.N)))<|.br (a0.Kind==2) (.rt (decide (a1<=a0.N)))<|.br (a0.Kind==3) (.rt (a1==a0.N))<|.rt false
def Zabp:LF Empty Bool := .z0 255 [.t 4] wB
def Z8a:=fun a0 a1=>Zabp.run (Zabo a0 a1)
theorem Zlj(a0)(a1){r}(h:Z8a a0 a1=some r):Fn PR 255 [wA (Zb8 a0),wI a1] (wB r):=Zabp.fn h
def Zalo(a0:Int)(a1:Int):LT Empty Int:=
.call (Ziw a0) fun x1=>.call (Ziw a1) fun x3=>.call (Ziw (IntKind.wrap .i64 (x1*x3))) fun x7=>.rt x7
def Zalp:LF Empty Int := .z0 266 [.t 4] wI
def Zajv:=fun a0 a1=>Zalp.run (Zalo a0 a1)
theorem Zahl(a0)(a1){r}(h:Zajv a0 a1=some r):Fn PR 266 [wI a0,wI a1] (wI r):=Zalp.fn h
inductive Z1a where
 | L0 (v1:Int) (E0:Zr) (v5:Int) (v6:Int)
def Zlk(v1:Int)(E0:Zr)(v5:Int)(v6:Int):LT Z1a Int:=
.br (decide (v6 < 5)) (.idA (Zd.int .i64) (A5.list E0.Color) v6 (bx (Zae E0)) 2 7 fun x2=>.ldC (Zd.int .i64) 20 x2 0<|.call (Z34 v5 x2) fun x4=>.g0 (.L0 v1 E0 x4 (IntKind.wrap .i64 (v6+1))))<|.br (decide (v1 < 0)) (.call (Zahl E0.X 0) fun x9=>.call (Z34 v5 x9) fun x11=>.rt x11)<|.call (Zahl E0.X v1) fun x13=>.call (Z34 v5 x13) fun x15=>.rt x15
def Zabq(a0:Zr)(a1:Int):LT Z1a Int:=
.lb 1002<|.call (Zsx a0) fun x1=>.br (!x1) (.rt 0)<|.go (.L0 a1 a0 a0.Generic 0) [.relab 1002 3000]
def Zsj:LF Z1a Int := .m0 256 [.t 4] wI fun | .L0 v1 E0 v5 v6=>([1,1,1,0,1,4],⟨30,[(1,wI v1),(2,.bptr 3000 0),(5,wI v5),(6,wI v6)],[(3000,.box (bx (Zae E0)))]⟩,Zlk v1 E0 v5 v6)
def Z8b:=fun a0 a1=>Zsj.run (Zabq a0 a1)
theorem Zya(a0)(a1){r}(h:Z8b a0 a1=some r):Fn PR 256 [wA (Zae a0),wI a1] (wI r):=Zsj.fn h
inductive Zyb where
 | L0 (E0:Zb) (E1:Zc) (v5:Bool)
def Zhg(E0:Zb)(E1:Zc)(v5:Bool):LT Zyb Bool:=
.cs (E1.Tough.Kind != 0) (.k2 0<|.cs v5 (.k5 1<|.call (Zlj E1.Tough E0.Tough) fun x3=>.kg 0<|.kg 1<|.k2 0<|.br (!x3) (.rt false)<|.call (Zya E0.Cost 0) fun x6=>.call (Zlj E1.Value x6) fun x8=>.rt x8)<|.k5 1<|.kg 0<|.kg 1<|.k2 0<|.br (!false) (.rt false)<|.call (Zya E0.Cost 0) fun x11=>.call (Zlj E1.Value x11) fun x13=>.rt x13)<|.k5 0<|.kn [0]<|.call (Zya E0.Cost 0) fun x15=>.call (Zlj E1.Value x15) fun x17=>.rt x17
def Z8c(a0:Zb)(a1:Zc):LT Zyb Bool:=
.lb 1002<|.lb 1003<|.call (Zl6 a0.Line.Types 1) fun x1=>.cs (a1.Power.Kind != 0) (.k2 0<|.cs x1 (.k5 1<|.call (Zlj a1.Power a0.Power) fun x5=>.kg 0<|.kg 1<|.k2 0<|.br (!x5) (.rt false)<|.jn 0 (.L0 a0 a1 x1) [.relab 1002 3000,.relab 1003 3001] (Zhg a0 a1 x1))<|.k5 1<|.kg 0<|.kg 1<|.k2 0<|.br (!false) (.rt false)<|.jn 0 (.L0 a0 a1 x1) [.relab 1002 3000,.relab 1003 3001] (Zhg a0 a1 x1))<|.k5 0<|.kn [0]<|.jn 0 (.L0 a0 a1 x1) [.relab 1002 3000,.relab 1003 3001] (Zhg a0 a1 x1)
def Zyc:LF Zyb Bool := .m0 218 [.t 4] wB fun | .L0 E0 E1 v5=>([1,1,1],⟨46,[(2,.bptr 3000 0),(3,.bptr 3001 0),(5,wB v5)],[(3000,.box (bx (Zg E0))),(3001,.box (bx (Zn E1)))]⟩,Zhg E0 E1 v5)
def Z36:=fun a0 a1=>Zyc.run (Z8c a0 a1)
theorem Z5g(a0)(a1){r}(h:Z36 a0 a1=some r):Fn PR 218 [wA (Zg a0),wA (Zn a1)] (wB r):=Zyc.fn h
inductive Zyd where
 | L0 (E0:Zb) (E1:Zc)
 | L1 (E0:Zb) (E1:Zc)
def Zj1(E0:Zb)(E1:Zc):LT Zyd Bool:=
.cs (!(E1.Sub==([]:By))) (.k5 0<|.call (Zamk E0.Line E1.Sub) fun x2=>.k2 0<|.cs (!x2) (.k5 1<|.k2 1<|.kn [0]<|.rt false)<|.k5 1<|.call (Zahk E0.Keys E1.Keys) fun x5=>.k2 1<|.br (!x5) (.rt false)<|.call (Z5g E0 E1) fun x8=>.rt x8)<|.k5 0<|.k2 0<|.b5 false<|.call (Zahk E0.Keys E1.Keys) fun x10=>.b2 false<|.br (!x10) (.rt false)<|.call (Z5g E0 E1) fun x13=>.rt x13
def Zaml(E0:Zb)(E1:Zc):LT Zyd Bool:=
.cs (E1.Colors != 0) (.k5 0<|.call (Zl6 E0.Colors E1.Colors) fun x2=>.k2 0<|.cs (!x2) (.k5 1<|.kg 1<|.kn [0]<|.rt false)<|.k5 1<|.call (Zl6 E0.Colors E1.NotColors) fun x5=>.kg 1<|.br x5 (.rt false)<|.j0 (.L1 E0 E1) (Zj1 E0 E1))<|.k5 0<|.k2 0<|.b5 false<|.call (Zl6 E0.Colors E1.NotColors) fun x8=>.kb false<|.br x8 (.rt false)<|.j0 (.L1 E0 E1) (Zj1 E0 E1)
def Zara:LF Zyd Bool := .m0 164 [.t 10] wB fun | .L0 E0 E1=>([1,1,1],⟨107,[(6,.bptr 3000 0),(9,.bptr 3001 0)],[(3000,.box (bx (Zg E0))),(3001,.box (bx (Zn E1)))]⟩,Zaml E0 E1) | .L1 E0 E1=>([1,1,1,1],⟨107,[(6,.bptr 3000 0),(9,.bptr 3001 0)],[(3000,.box (bx (Zg E0))),(3001,.box (bx (Zn E1)))]⟩,Zj1 E0 E1)
end
end Go.PW
