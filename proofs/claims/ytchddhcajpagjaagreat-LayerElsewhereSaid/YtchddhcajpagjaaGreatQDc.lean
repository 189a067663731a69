import Derived.Test.YtchddhcajpagjaaGreatQDb
set_option linter.all false
set_option maxRecDepth 100000
namespace Go.PW
open Go.RowKit
noncomputable section
def Zahd(a0:Int):LT Empty Int:=
.br (decide (a0 > 1000000)) (.rt 1000000)<|.br (decide (a0 < (-1000000))) (.rt (-1000000))<|.rt a0
def Zahe:LF Empty Int := .z0 69 [.t 2] wI
def Zac4:=fun a0=>Zahe.run (Zahd a0)
theorem Zl2(a0){r}(h:Zac4 a0=some r):Fn PR 69 [wI a0] (wI r):=Zahe.fn h
def Zark(a0:Int)(a1:Int):LT Empty Int:=
.call (Zl2 a0) fun x1=>.call (Zl2 a1) fun x3=>.call (Zl2 (IntKind.wrap .i64 (x1+x3))) fun x7=>.rt x7
def Zarl:LF Empty Int := .z0 108 [.t 4] wI
def Zaoq:=fun a0 a1=>Zarl.run (Zark a0 a1)
theorem Z8j(a0)(a1){r}(h:Zaoq a0 a1=some r):Fn PR 108 [wI a0,wI a1] (wI r):=Zarl.fn h
def Zar5(a0:Int)(a1:Int):LT Empty Bool:=
.rt ((Za6 .and .i64 a0 a1) != 0)
def Z96:LF Empty Bool := .z0 215 [.t 4] wB
def Zahf:=fun a0 a1=>Z96.run (Zar5 a0 a1)
theorem Zpy(a0)(a1){r}(h:Zahf a0 a1=some r):Fn PR 215 [wI a0,wI a1] (wB r):=Z96.fn h
def Zac5(a0:Zab)(a1:By):LT Empty Bool:=
.lb 1002<|.call (Z0o a0.Subs a1) fun x1=>.rt (decide (x1>=0))
def Zac6:LF Empty Bool := .z0 216 [.t 4] wB
def Z8k:=fun a0 a1=>Zac6.run (Zac5 a0 a1)
theorem Zar6(a0)(a1){r}(h:Z8k a0 a1=some r):Fn PR 216 [wA (Zhk a0),wS a1] (wB r):=Zac6.fn h
def Za50(a0:Int)(a1:Int):LT Empty Bool:=
.rt ((Za6 .and .i64 a0 a1)==a1)
def Zarm:LF Empty Bool := .z0 217 [.t 4] wB
def Za0y:=fun a0 a1=>Zarm.run (Za50 a0 a1)
theorem Zams(a0)(a1){r}(h:Za0y a0 a1=some r):Fn PR 217 [wI a0,wI a1] (wB r):=Zarm.fn h
def Zahg(a0:Zb)(a1:Int):LT Empty Bool:=
.lb 1002<|.br (a0.Kind==0) (.rt true)<|.br (a0.Kind==1) (.rt (decide (a1>=a0.N)))<|.br (a0.Kind==2) (.rt (decide (a1<=a0.N)))<|.br (a0.Kind==3) (.rt (a1==a0.N))<|.rt false
def Zahh:LF Empty Bool := .z0 255 [.t 4] wB
def Zac7:=fun a0 a1=>Zahh.run (Zahg a0 a1)
theorem Zo5(a0)(a1){r}(h:Zac7 a0 a1=some r):Fn PR 255 [wA (Zb4 a0),wI a1] (wB r):=Zahh.fn h
def Zarn(a0:Int)(a1:Int):LT Empty Int:=
.call (Zl2 a0) fun x1=>.call (Zl2 a1) fun x3=>.call (Zl2 (IntKind.wrap .i64 (x1*x3))) fun x7=>.rt x7
def Zaro:LF Empty Int := .z0 266 [.t 4] wI
def Zaor:=fun a0 a1=>Zaro.run (Zarn a0 a1)
theorem Zamt(a0)(a1){r}(h:Zaor a0 a1=some r):Fn PR 266 [wI a0,wI a1] (wI r):=Zaro.fn h
inductive Z5d where
 | L0 (v1:Int) (E0:Zs) (v5:Int) (v6:Int)
def Zo6(v1:Int)(E0:Zs)(v5:Int)(v6:Int):LT Z5d Int:=
.br (decide (v6 < 5)) (.idA (Zf.int .i64) (A5.list E0.Color) v6 (bx (Zae E0)) 2 7 fun x2=>.ldC (Zf.int .i64) 20 x2 0<|.call (Z8j v5 x2) fun x4=>.g0 (.L0 v1 E0 x4 (IntKind.wrap .i64 (v6+1))))<|.br (decide (v1 < 0)) (.call (Zamt E0.X 0) fun x9=>.call (Z8j v5 x9) fun x11=>.rt x11)<|.call (Zamt E0.X v1) fun x13=>.call (Z8j v5 x13) fun x15=>.rt x15
def Zahi(a0:Zs)(a1:Int):LT Z5d Int:=
.lb 1002<|.call (Zwn a0) fun x1=>.br (!x1) (.rt 0)<|.go (.L0 a1 a0 a0.Generic 0) [.relab 1002 3000]
def Zv6:LF Z5d Int := .m0 256 [.t 4] wI fun | .L0 v1 E0 v5 v6=>([1,1,1,0,1,4],⟨30,[(1,wI v1),(2,.bptr 3000 0),(5,wI v5),(6,wI v6)],[(3000,.box (bx (Zae E0)))]⟩,Zo6 v1 E0 v5 v6)
def Zac8:=fun a0 a1=>Zv6.run (Zahi a0 a1)
theorem Z1n(a0)(a1){r}(h:Zac8 a0 a1=some r):Fn PR 256 [wA (Zae a0),wI a1] (wI r):=Zv6.fn h
inductive Z1o where
 | L0 (E0:Za) (E1:Zd) (v5:Bool)
def Zjx(E0:Za)(E1:Zd)(v5:Bool):LT Z1o Bool:=
.cs (E1.Tough.Kind != 0) (.k2 0<|.cs v5 (.k5 1<|.call (Zo5 E1.Tough E0.Tough) fun x3=>.kg 0<|.kg 1<|.k2 0<|.br (!x3) (.rt false)<|.call (Z1n E0.Cost 0) fun x6=>.call (Zo5 E1.Value x6) fun x8=>.rt x8)<|.k5 1<|.kg 0<|.kg 1<|.k2 0<|.br (!false) (.rt false)<|.call (Z1n E0.Cost 0) fun x11=>.call (Zo5 E1.Value x11) fun x13=>.rt x13)<|.k5 0<|.kn [0]<|.call (Z1n E0.Cost 0) fun x15=>.call (Zo5 E1.Value x15) fun x17=>.rt x17
def Zac9(a0:Za)(a1:Zd):LT Z1o Bool:=
.lb 1002<|.lb 1003<|.call (Zpy a0.Line.Types 1) fun x1=>.cs (a1.Power.Kind != 0) (.k2 0<|.cs x1 (.k5 1<|.call (Zo5 a1.Power a0.Power) fun x5=>.kg 0<|.kg 1<|.k2 0<|.br (!x5) (.rt false)<|.jn 0 (.L0 a0 a1 x1) [.relab 1002 3000,.relab 1003 3001] (Zjx a0 a1 x1))<|.k5 1<|.kg 0<|.kg 1<|.k2 0<|.br (!false) (.rt false)<|.jn 0 (.L0 a0 a1 x1) [.relab 1002 3000,.relab 1003 3001] (Zjx a0 a1 x1))<|.k5 0<|.kn [0]<|.jn 0 (.L0 a0 a1 x1) [.relab 1002 3000,.relab 1003 3001] (Zjx a0 a1 x1)
def Z1p:LF Z1o Bool := .m0 218 [.t 4] wB fun | .L0 E0 E1 v5=>([1,1,1],⟨46,[(2,.bptr 3000 0),(3,.bptr 3001 0),(5,wB v5)],[(3000,.box (bx (Zh E0))),(3001,.box (bx (Zo E1)))]⟩,Zjx E0 E1 v5)
def Z8l:=fun a0 a1=>Z1p.run (Zac9 a0 a1)
theorem Z97(a0)(a1){r}(h:Z8l a0 a1=some r):Fn PR 218 [wA (Zh a0),wA (Zo a1)] (wB r):=Z1p.fn h
inductive Z1q where
 | L0 (E0:Za) (E1:Zd)
 | L1 (E0:Za) (E1:Zd)
def Znl(E0:Za)(E1:Zd):LT Z1q Bool:=
.cs (!(E1.Sub==([]:By))) (.k5 0<|.call (Zar6 E0.Line E1.Sub) fun x2=>.k2 0<|.cs (!x2) (.k5 1<|.k2 1<|.kn [0]<|.rt false)<|.k5 1<|.call (Zams E0.Keys E1.Keys) fun x5=>.k2 1<|.br (!x5) (.rt false)<|.call (Z97 E0 E1) fun x8=>.rt x8)<|.k5 0<|.k2 0<|.b5 false<|.call (Zams E0.Keys E1.Keys) fun x10=>.b2 false<|.br (!x10) (.rt false)<|.call (Z97 E0 E1) fun x13=>.rt x13
def Zar7(E0:Za)(E1:Zd):LT Z1q Bool:=
.cs (E1.Colors != 0) (.k5 0<|.call (Zpy E0.Colors E1.Colors) fun x2=>.k2 0<|.cs (!x2) (.k5 1<|.kg 1<|.kn [0]<|.rt false)<|.k5 1<|.call (Zpy E0.Colors E1.NotColors) fun x5=>.kg 1<|.br x5 (.rt false)<|.j0 (.L1 E0 E1) (Znl E0 E1))<|.k5 0<|.k2 0<|.b5 false<|.call (Zpy E0.Colors E1.NotColors) fun x8=>.kb false<|.br x8 (.rt false)<|.j0 (.L1 E0 E1) (Znl E0 E1)
def Zaxd:LF Z1q Bool := .m0 164 [.t 10] wB fun | .L0 E0 E1=>([1,1,1],⟨107,[(6,.bptr 3000 0),(9,.bptr 3001 0)],[(3000,.box (bx (Zh E0))),(3001,.box (bx (Zo E1)))]⟩,Zar7 E0 E1) | .L1 E0 E1=>([1,1,1,1],⟨107,[(6,.bptr 3000 0),(9,.bptr 3001 0)],[(3000,.box (bx (Zh E0))),(3001,.box (bx (Zo E1)))]⟩,Znl E0 E1)
inductive Ztx where
 | L0 (v0:List Zi) (v1:List Zi) (v5:Int)
def Zahj(v0:List Zi)(v1:List Zi)(v5:Int):LT Ztx Bool:=
.len Zm v0<|.br (decide (v5 < (v0.length:Int))) (.idx Zm v0 v5 fun x3=>.idx Zm v1 v5 fun x5=>.br (!(Z5 (Zm x3) (Zm x5))) (.rt false)<|.g0 (.L0 v0 v1 (IntKind.wrap .i64 (v5+1))))<|.rt true
def Zamu(a0:List Zi)(a1:List Zi):LT Ztx Bool:=
.len Zm a0<|.len Zm a1<|.br ((a0.length:Int) != (a1.length:Int)) (.rt false)<|.g0 (.L0 a0 a1 0)
def Z8m:LF Ztx Bool := .m0 65 [.t 4] wB fun | .L0 v0 v1 v5=>([1,1,0,1,4],⟨26,[(0,wL Zm v0),(1,wL Zm v1),(5,wI v5)],[]⟩,Zahj v0 v1 v5)
def Zaxe:=fun a0 a1=>Z8m.run (Zamu a0 a1)
theorem Zahk(a0)(a1){r}(h:Zaxe a0 a1=some r):Fn PR 65 [wL Zm a0,wL Zm a1] (wB r):=Z8m.fn h
def Z98(a0:Zt)(a1:Zt):LT Empty Bool:=
.lb 1002<|.lb 1003<|.cs (a0.Op==a1.Op) (.k5 0<|.kg 0<|.cs (Z5 (Zdd a0.Ref) (Zdd a1.Ref)) (.k5 1<|.kg 1<|.cs (Z5 (Zan a0.Amount) (Zan a1.Amount)) (.k5 2<|.kg 2<|.cs (a0.Counter==a1.Counter) (.k5 3<|.kg 3<|.cs (a0.Zone==a1.Zone) (.k5 4<|.kg 4<|.cs (a0.Card==a1.Card) (.k5 5<|.kg 5<|.cs (Z5 (Zo a0.Filter) (Zo a1.Filter)) (.k5 6<|.kg 6<|.cs (Z5 ((cA6 (cI .i64)) a0.Pool) ((cA6 (cI .i64)) a1.Pool)) (.k5 7<|.call (Zahk a0.Mods a1.Mods) fun x9=>.kg 7<|.rt x9)<|.k5 7<|.kg 7<|.rt false)<|.k5 6<|.kg 6<|.b5 false<|.kb false<|.rt false)<|.k5 5<|.kg 5<|.b8 false<|.b4 false<|.rt false)<|.k5 4<|.kg 4<|.b16 false<|.b2 false<|.rt false)<|.k5 3<|.kg 3<|.b16 false<|.b8 false<|.rt false)<|.k5 2<|.kg 2<|.b16 false<|.b8 false<|.b5 false<|.kb false<|.rt false)<|.k5 1<|.kg 1<|.b16 false<|.b16 false<|.b4 false<|.rt false)<|.k5 0<|.kg 0<|.b16 false<|.b16 false<|.b8 false<|.b2 false<|.rt false
def Z99:LF Empty Bool := .z0 66 [.t 4] wB
def Zahl:=fun a0 a1=>Z99.run (Z98 a0 a1)
theorem Zaos(a0)(a1){r}(h:Zahl a0 a1=some r):Fn PR 66 [wA (Zq a0),wA (Zq a1)] (wB r):=Z99.fn h
inductive Zgu where
 | L0 (E0:Ze) (E1:Ze) (v5:Int)
 | L1 (E0:Ze) (E1:Ze) (v6:Int)
def Zxi(E0:Ze)(E1:Ze)(v5:Int):LT Zgu Bool:=
.len Z8 E0.Specs<|.br (decide (v5 < (E0.Specs.length:Int))) (.idx Z8 E0.Specs v5 fun x3=>.idx Z8 E1.Specs v5 fun x5=>.br (!(Z5 (Z8 x3) (Z8 x5))) (.rt false)<|.g0 (.L0 E0 E1 (IntKind.wrap .i64 (v5+1))))<|.g0 (.L1 E0 E1 0)
def Zxj(E0:Ze)(E1:Ze)(v6:Int):LT Zgu Bool:=
.len Zq E0.Effects<|.br (decide (v6 < (E0.Effects.length:Int))) (.idx Zq E0.Effects v6 fun x3=>.idx Zq E1.Effects v6 fun x5=>.call (Zaos x3 x5) fun x7=>.br (!x7) (.rt false)<|.g0 (.L1 E0 E1 (IntKind.wrap .i64 (v6+1))))<|.rt true
def Zzm(a0:Ze)(a1:Ze):LT Zgu Bool:=
.lb 1002<|.lb 1003<|.cs (a0.Kind != a1.Kind) (.k5 0<|.kg 0<|.b16 true<|.b16 true<|.b5 true<|.kn [0]<|.rt false)<|.k5 0<|.kg 0<|.cs (!(Z5 (Zo a0.Filter) (Zo a1.Filter))) (.k5 1<|.k2 1<|.b16 true<|.b8 true<|.b5 true<|.kb true<|.kn [0]<|.rt false)<|.k5 1<|.call (Zahk a0.Mods a1.Mods) fun x3=>.k2 1<|.cs (!x3) (.k5 2<|.kg 2<|.b16 true<|.b8 true<|.kn [0]<|.rt false)<|.k5 2<|.kg 2<|.cs (!(Z5 (Zdj a0.Price) (Zdj a1.Price))) (.k5 3<|.kg 3<|.b16 true<|.b2 true<|.kn [0]<|.rt false)<|.k5 3<|.kg 3<|.cs (!(a0.Slow==a1.Slow)) (.k5 4<|.kg 4<|.b8 true<|.b4 true<|.kn [0]<|.rt false)<|.k5 4<|.kg 4<|.cs (!(Z5 (Zb7 a0.Trigger) (Zb7 a1.Trigger))) (.k5 5<|.kg 5<|.b5 true<|.kb true<|.kn [0]<|.rt false)<|.k5 5<|.kg 5<|.cs (!(a0.May==a1.May)) (.k5 6<|.kg 6<|.kn [0]<|.rt false)<|.k5 6<|.kg 6<|.br (!(Z5 (Zbe a0.Replace) (Zbe a1.Replace))) (.rt false)<|.len Z8 a0.Specs<|.len Z8 a1.Specs<|.cs ((a0.Specs.length:Int) != (a1.Specs.length:Int)) (.k8 8<|.kn [0]<|.rt false)<|.k3 8<|.len Zq a0.Effects<|.k3 8<|.len Zq a1.Effects<|.k2 8<|.br ((a0.Effects.length:Int) != (a1.Effects.length:Int)) (.rt false)<|.go (.L0 a0 a1 0) [.relab 1002 3000,.relab 1003 3001]
def Zk6:LF Zgu Bool := .m0 39 [.t 4] wB fun | .L0 E0 E1 v5=>([1,1,1,0,1,4],⟨115,[(2,.bptr 3000 0),(3,.bptr 3001 0),(5,wI v5)],[(3000,.box (bx (Zg E0))),(3001,.box (bx (Zg E1)))]⟩,Zxi E0 E1 v5) | .L1 E0 E1 v6=>([1,1,1,1,0,1,4],⟨115,[(2,.bptr 3000 0),(3,.bptr 3001 0),(6,wI v6)],[(3000,.box (bx (Zg E0))),(3001,.box (bx (Zg E1)))]⟩,Zxj E0 E1 v6)
def Z32:=fun a0 a1=>Zk6.run (Zzm a0 a1)
theorem Zada(a0)(a1){r}(h:Z32 a0 a1=some r):Fn PR 39 [wA (Zg a0),wA (Zg a1)] (wB r):=Zk6.fn h
inductive Zpz where
 | L0 (E0:Za) (E1:Za) (v5:Int)
 | L1 (E0:Za) (E1:Za) (v6:Int)
def Zahm(E0:Za)(E1:Za)(v5:Int):LT Zpz Bool:=
.len cS E0.Line.Subs<|.br (decide (v5 < (E0.Line.Subs.length:Int))) (.idx cS E0.Line.Subs v5 fun x3=>.idx cS E1.Line.Subs v5 fun x5=>.br (!(x3==x5)) (.rt false)<|.g0 (.L0 E0 E1 (IntKind.wrap .i64 (v5+1))))<|.g0 (.L1 E0 E1 0)
def Zahn(E0:Za)(E1:Za)(v6:Int):LT Zpz Bool:=
.len Zg E0.Abilities<|.br (decide (v6 < (E0.Abilities.length:Int))) (.idx Zg E0.Abilities v6 fun x3=>.idx Zg E1.Abilities v6 fun x5=>.call (Zada x3 x5) fun x7=>.br (!x7) (.rt false)<|.g0 (.L1 E0 E1 (IntKind.wrap .i64 (v6+1))))<|.rt true
def Zamv(a0:Za)(a1:Za):LT Zpz Bool:=
.lb 1002<|.lb 1003<|.cs (!(a0.Name==a1.Name)) (.k5 0<|.kg 0<|.b16 true<|.b8 true<|.b5 true<|.kb true<|.kn [0]<|.rt false)<|.k5 0<|.kg 0<|.cs (!(Z5 (Zae a0.Cost) (Zae a1.Cost))) (.k5 1<|.kg 1<|.b16 true<|.b8 true<|.kn [0]<|.rt false)<|.k5 1<|.kg 1<|.cs (a0.Colors != a1.Colors) (.k5 2<|.kg 2<|.b16 true<|.b2 true<|.kn [0]<|.rt false)<|.k5 2<|.kg 2<|.cs (a0.Power != a1.Power) (.k5 3<|.kg 3<|.b8 true<|.b4 true<|.kn [0]<|.rt false)<|.k5 3<|.kg 3<|.cs (a0.Tough != a1.Tough) (.k5 4<|.kg 4<|.b5 true<|.kb true<|.kn [0]<|.rt false)<|.k5 4<|.kg 4<|.cs (a0.Keys != a1.Keys) (.k5 5<|.kg 5<|.kn [0]<|.rt false)<|.k5 5<|.kg 5<|.br (a0.Control != a1.Control) (.rt false)<|.cs (a0.Line.Super != a1.Line.Super) (.k8 7<|.b16 true<|.b2 true<|.kn [0]<|.rt false)<|.k8 7<|.cs (a0.Line.Types != a1.Line.Types) (.k8 8<|.k2 8<|.b8 true<|.kn [0]<|.rt false)<|.k4 8<|.len cS a0.Line.Subs<|.k4 8<|.len cS a1.Line.Subs<|.k2 8<|.cs ((a0.Line.Subs.length:Int) != (a1.Line.Subs.length:Int)) (.k8 9<|.kn [0]<|.rt false)<|.k3 9<|.len Zg a0.Abilities<|.k3 9<|.len Zg a1.Abilities<|.k2 9<|.br ((a0.Abilities.length:Int) != (a1.Abilities.length:Int)) (.rt false)<|.go (.L0 a0 a1 0) [.relab 1002 3000,.relab 1003 3001]
def Zzz:LF Zpz Bool := .m0 21 [.t 4] wB fun | .L0 E0 E1 v5=>([1,1,1,0,1,4],⟨130,[(2,.bptr 3000 0),(3,.bptr 3001 0),(5,wI v5)],[(3000,.box (bx (Zh E0))),(3001,.box (bx (Zh E1)))]⟩,Zahm E0 E1 v5) | .L1 E0 E1 v6=>([1,1,1,1,0,1,4],⟨130,[(2,.bptr 3000 0),(3,.bptr 3001 0),(6,wI v6)],[(3000,.box (bx (Zh E0))),(3001,.box (bx (Zh E1)))]⟩,Zahn E0 E1 v6)
def Zaxf:=fun a0 a1=>Zzz.run (Zamv a0 a1)
theorem Zazt(a0)(a1){r}(h:Zaxf a0 a1=some r):Fn PR 21 [wA (Zh a0),wA (Zh a1)] (wB r):=Zzz.fn h
inductive Zgp where
 | L0 (v0:List Zk) (E0:Zn) (v5:List Za) (v6:Int)
def Zso(v0:List Zk)(E0:Zn)(v5:List Za)(v6:Int):LT Zgp Bool:=
.len Zh v5<|.br (decide (v6 < (v5.length:Int))) (.idx Zl E0.Objects v6 fun x3=>.cs (x3.Zone != 0) (.k3 1<|.idx Zh v5 v6 fun x6=>.k5 1<|.kg 1<|.ag Zl x3 0<|.k2 1<|.call (Za5z v0 x3) fun x8=>.kg 1<|.call (Zazt x6 x8) fun x10=>.k2 1<|.br (!x10) (.rt false)<|.g0 (.L0 v0 E0 v5 (IntKind.wrap .i64 (v6+1))))<|.k8 1<|.k5 1<|.kg 1<|.kn [0]<|.g0 (.L0 v0 E0 v5 (IntKind.wrap .i64 (v6+1))))<|.call (Zac2) fun x17=>.rt x17
def Zty(a0:List Zk)(a1:Zn):LT Zgp Bool:=
.lb 1003<|.call (Zaw1 a0 a1) fun x1=>.br (!x1) (.call (Zac2) fun x4=>.rt x4)<|.call (Zac1 a0 a1) fun x6=>.len Zh x6<|.len Zl a1.Objects<|.br ((x6.length:Int) != (a1.Objects.length:Int)) (.rt false)<|.go (.L0 a0 a1 x6 0) [.relab 1003 3000]
def Zmx:LF Zgp Bool := .m0 6 [.t 4] wB fun | .L0 v0 E0 v5 v6=>([1,1,1,1,0,1,4],⟨50,[(0,wL Zz v0),(3,.bptr 3000 0),(5,wL Zh v5),(6,wI v6)],[(3000,.box (bx (Zad E0)))]⟩,Zso v0 E0 v5 v6)
def Zxk:=fun a0 a1=>Zmx.run (Zty a0 a1)
theorem Z7a(a0)(a1){r}(h:Zxk a0 a1=some r):Fn PR 6 [wL Zz a0,wA (Zad a1)] (wB r):=Zmx.fn h
end
end Go.PW
