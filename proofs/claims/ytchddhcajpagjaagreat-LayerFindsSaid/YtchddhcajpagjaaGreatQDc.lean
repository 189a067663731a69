import Derived.Test.YtchddhcajpagjaaGreatQDb
set_option linter.all false
set_option maxRecDepth 100000
namespace Go.PW
open Go.RowKit
noncomputable section
def Zaht(a0:Int):LT Empty Int:=
.br (decide (a0 > 1000000)) (.rt 1000000)<|.br (decide (a0 < (-1000000))) (.rt (-1000000))<|.rt a0
def Zahu:LF Empty Int := .z0 69 [.t 2] wI
def Zaea:=fun a0=>Zahu.run (Zaht a0)
theorem Zmx(a0){r}(h:Zaea a0=some r):Fn PR 69 [wI a0] (wI r):=Zahu.fn h
def Zark(a0:Int)(a1:Int):LT Empty Int:=
.call (Zmx a0) fun x1=>.call (Zmx a1) fun x3=>.call (Zmx (IntKind.wrap .i64 (x1+x3))) fun x7=>.rt x7
def Zarl:LF Empty Int := .z0 108 [.t 4] wI
def Zapi:=fun a0 a1=>Zarl.run (Zark a0 a1)
theorem Zaaa(a0)(a1){r}(h:Zapi a0 a1=some r):Fn PR 108 [wI a0,wI a1] (wI r):=Zarl.fn h
def Zar3(a0:Int)(a1:Int):LT Empty Bool:=
.rt ((Zbf .and .i64 a0 a1) != 0)
def Zabt:LF Empty Bool := .z0 215 [.t 4] wB
def Zahv:=fun a0 a1=>Zabt.run (Zar3 a0 a1)
theorem Zqn(a0)(a1){r}(h:Zahv a0 a1=some r):Fn PR 215 [wI a0,wI a1] (wB r):=Zabt.fn h
def Zaeb(a0:Zah)(a1:By):LT Empty Bool:=
.lb 1002<|.call (Z16 a0.Subs a1) fun x1=>.rt (decide (x1>=0))
def Zaec:LF Empty Bool := .z0 216 [.t 4] wB
def Zaab:=fun a0 a1=>Zaec.run (Zaeb a0 a1)
theorem Zar4(a0)(a1){r}(h:Zaab a0 a1=some r):Fn PR 216 [wA (Zh5 a0),wS a1] (wB r):=Zaec.fn h
def Za4m(a0:Int)(a1:Int):LT Empty Bool:=
.rt ((Zbf .and .i64 a0 a1)==a1)
def Zarm:LF Empty Bool := .z0 217 [.t 4] wB
def Za0f:=fun a0 a1=>Zarm.run (Za4m a0 a1)
theorem Zanm(a0)(a1){r}(h:Za0f a0 a1=some r):Fn PR 217 [wI a0,wI a1] (wB r):=Zarm.fn h
def Zahw(a0:Za)(a1:Int):LT Empty Bool:=
.lb 1002<|.br (a0.Kind==0) (.rt true)<|.br (a0.Kind==1) (.rt (decide (a1>=a0.N)))<|.br (a0.Kind==2) (.rt (decide (a1<=a0.N)))<|.br (a0.Kind==3) (.rt (a1==a0.N))<|.rt false
def Zahx:LF Empty Bool := .z0 255 [.t 4] wB
def Zaed:=fun a0 a1=>Zahx.run (Zahw a0 a1)
theorem Zpv(a0)(a1){r}(h:Zaed a0 a1=some r):Fn PR 255 [wA (Zce a0),wI a1] (wB r):=Zahx.fn h
def Zarn(a0:Int)(a1:Int):LT Empty Int:=
.call (Zmx a0) fun x1=>.call (Zmx a1) fun x3=>.call (Zmx (IntKind.wrap .i64 (x1*x3))) fun x7=>.rt x7
def Zaro:LF Empty Int := .z0 266 [.t 4] wI
def Zapj:=fun a0 a1=>Zaro.run (Zarn a0 a1)
theorem Zann(a0)(a1){r}(h:Zapj a0 a1=some r):Fn PR 266 [wI a0,wI a1] (wI r):=Zaro.fn h
inductive Z61 where
 | L0 (v1:Int) (E0:Zt) (v5:Int) (v6:Int)
def Zpw(v1:Int)(E0:Zt)(v5:Int)(v6:Int):LT Z61 Int:=
.br (decide (v6 < 5)) (.idA (Zd.int .i64) (A5.list E0.Color) v6 (bx (Zai E0)) 2 7 fun x2=>.ldC (Zd.int .i64) 20 x2 0<|.call (Zaaa v5 x2) fun x4=>.g0 (.L0 v1 E0 x4 (IntKind.wrap .i64 (v6+1))))<|.br (decide (v1 < 0)) (.call (Zann E0.X 0) fun x9=>.call (Zaaa v5 x9) fun x11=>.rt x11)<|.call (Zann E0.X v1) fun x13=>.call (Zaaa v5 x13) fun x15=>.rt x15
def Zahy(a0:Zt)(a1:Int):LT Z61 Int:=
.lb 1002<|.call (Z4p a0) fun x1=>.br (!x1) (.rt 0)<|.go (.L0 a1 a0 a0.Generic 0) [.relab 1002 3000]
def Zxn:LF Z61 Int := .m0 256 [.t 4] wI fun | .L0 v1 E0 v5 v6=>([1,1,1,0,1,4],⟨30,[(1,wI v1),(2,.bptr 3000 0),(5,wI v5),(6,wI v6)],[(3000,.box (bx (Zai E0)))]⟩,Zpw v1 E0 v5 v6)
def Zaee:=fun a0 a1=>Zxn.run (Zahy a0 a1)
theorem Z3k(a0)(a1){r}(h:Zaee a0 a1=some r):Fn PR 256 [wA (Zai a0),wI a1] (wI r):=Zxn.fn h
inductive Z3l where
 | L0 (E0:Zb) (E1:Zc) (v5:Bool)
def Zkz(E0:Zb)(E1:Zc)(v5:Bool):LT Z3l Bool:=
.cs (E1.Tough.Kind != 0) (.k2 0<|.cs v5 (.k5 1<|.call (Zpv E1.Tough E0.Tough) fun x3=>.kg 0<|.kg 1<|.k2 0<|.br (!x3) (.rt false)<|.call (Z3k E0.Cost 0) fun x6=>.call (Zpv E1.Value x6) fun x8=>.rt x8)<|.k5 1<|.kg 0<|.kg 1<|.k2 0<|.br (!false) (.rt false)<|.call (Z3k E0.Cost 0) fun x11=>.call (Zpv E1.Value x11) fun x13=>.rt x13)<|.k5 0<|.kn [0]<|.call (Z3k E0.Cost 0) fun x15=>.call (Zpv E1.Value x15) fun x17=>.rt x17
def Zaef(a0:Zb)(a1:Zc):LT Z3l Bool:=
.lb 1002<|.lb 1003<|.call (Zqn a0.Line.Types 1) fun x1=>.cs (a1.Power.Kind != 0) (.k2 0<|.cs x1 (.k5 1<|.call (Zpv a1.Power a0.Power) fun x5=>.kg 0<|.kg 1<|.k2 0<|.br (!x5) (.rt false)<|.jn 0 (.L0 a0 a1 x1) [.relab 1002 3000,.relab 1003 3001] (Zkz a0 a1 x1))<|.k5 1<|.kg 0<|.kg 1<|.k2 0<|.br (!false) (.rt false)<|.jn 0 (.L0 a0 a1 x1) [.relab 1002 3000,.relab 1003 3001] (Zkz a0 a1 x1))<|.k5 0<|.kn [0]<|.jn 0 (.L0 a0 a1 x1) [.relab 1002 3000,.relab 1003 3001] (Zkz a0 a1 x1)
def Z3m:LF Z3l Bool := .m0 218 [.t 4] wB fun | .L0 E0 E1 v5=>([1,1,1],⟨46,[(2,.bptr 3000 0),(3,.bptr 3001 0),(5,wB v5)],[(3000,.box (bx (Zf E0))),(3001,.box (bx (Zo E1)))]⟩,Zkz E0 E1 v5)
def Zaac:=fun a0 a1=>Z3m.run (Zaef a0 a1)
theorem Zabu(a0)(a1){r}(h:Zaac a0 a1=some r):Fn PR 218 [wA (Zf a0),wA (Zo a1)] (wB r):=Z3m.fn h
inductive Z3n where
 | L0 (E0:Zb) (E1:Zc)
 | L1 (E0:Zb) (E1:Zc)
def Zn8(E0:Zb)(E1:Zc):LT Z3n Bool:=
.cs (!(E1.Sub==([]:By))) (.k5 0<|.call (Zar4 E0.Line E1.Sub) fun x2=>.k2 0<|.cs (!x2) (.k5 1<|.k2 1<|.kn [0]<|.rt false)<|.k5 1<|.call (Zanm E0.Keys E1.Keys) fun x5=>.k2 1<|.br (!x5) (.rt false)<|.call (Zabu E0 E1) fun x8=>.rt x8)<|.k5 0<|.k2 0<|.b5 false<|.call (Zanm E0.Keys E1.Keys) fun x10=>.b2 false<|.br (!x10) (.rt false)<|.call (Zabu E0 E1) fun x13=>.rt x13
def Zar5(E0:Zb)(E1:Zc):LT Z3n Bool:=
.cs (E1.Colors != 0) (.k5 0<|.call (Zqn E0.Colors E1.Colors) fun x2=>.k2 0<|.cs (!x2) (.k5 1<|.kg 1<|.kn [0]<|.rt false)<|.k5 1<|.call (Zqn E0.Colors E1.NotColors) fun x5=>.kg 1<|.br x5 (.rt false)<|.j0 (.L1 E0 E1) (Zn8 E0 E1))<|.k5 0<|.k2 0<|.b5 false<|.call (Zqn E0.Colors E1.NotColors) fun x8=>.kb false<|.br x8 (.rt false)<|.j0 (.L1 E0 E1) (Zn8 E0 E1)
def Zawy:LF Z3n Bool := .m0 164 [.t 10] wB fun | .L0 E0 E1=>([1,1,1],⟨107,[(6,.bptr 3000 0),(9,.bptr 3001 0)],[(3000,.box (bx (Zf E0))),(3001,.box (bx (Zo E1)))]⟩,Zar5 E0 E1) | .L1 E0 E1=>([1,1,1,1],⟨107,[(6,.bptr 3000 0),(9,.bptr 3001 0)],[(3000,.box (bx (Zf E0))),(3001,.box (bx (Zo E1)))]⟩,Zn8 E0 E1)
inductive Zve where
 | L0 (v0:List Zi) (v1:List Zi) (v5:Int)
def Z62(v0:List Zi)(v1:List Zi)(v5:Int):LT Zve Bool:=
.len Zm v0<|.br (decide (v5 < (v0.length:Int))) (.idx Zm v0 v5 fun x3=>.idx Zm v1 v5 fun x5=>.br (!(Z5 (Zm x3) (Zm x5))) (.rt false)<|.g0 (.L0 v0 v1 (IntKind.wrap .i64 (v5+1))))<|.rt true
def Zano(a0:List Zi)(a1:List Zi):LT Zve Bool:=
.len Zm a0<|.len Zm a1<|.br ((a0.length:Int) != (a1.length:Int)) (.rt false)<|.g0 (.L0 a0 a1 0)
def Zanp:LF Zve Bool := .m0 65 [.t 4] wB fun | .L0 v0 v1 v5=>([1,1,0,1,4],⟨26,[(0,wL Zm v0),(1,wL Zm v1),(5,wI v5)],[]⟩,Z62 v0 v1 v5)
def Zajs:=fun a0 a1=>Zanp.run (Zano a0 a1)
theorem Zahz(a0)(a1){r}(h:Zajs a0 a1=some r):Fn PR 65 [wL Zm a0,wL Zm a1] (wB r):=Zanp.fn h
def Zabv(a0:Zs)(a1:Zs):LT Empty Bool:=
.lb 1002<|.lb 1003<|.cs (a0.Op==a1.Op) (.k5 0<|.kg 0<|.cs (Z5 (Zdu a0.Ref) (Zdu a1.Ref)) (.k5 1<|.kg 1<|.cs (Z5 (Zaq a0.Amount) (Zaq a1.Amount)) (.k5 2<|.kg 2<|.cs (a0.Counter==a1.Counter) (.k5 3<|.kg 3<|.cs (a0.Zone==a1.Zone) (.k5 4<|.kg 4<|.cs (a0.Card==a1.Card) (.k5 5<|.kg 5<|.cs (Z5 (Zo a0.Filter) (Zo a1.Filter)) (.k5 6<|.kg 6<|.cs (Z5 ((cA6 (cI .i64)) a0.Pool) ((cA6 (cI .i64)) a1.Pool)) (.k5 7<|.call (Zahz a0.Mods a1.Mods) fun x9=>.kg 7<|.rt x9)<|.k5 7<|.kg 7<|.rt false)<|.k5 6<|.kg 6<|.b5 false<|.kb false<|.rt false)<|.k5 5<|.kg 5<|.b8 false<|.b4 false<|.rt false)<|.k5 4<|.kg 4<|.b16 false<|.b2 false<|.rt false)<|.k5 3<|.kg 3<|.b16 false<|.b8 false<|.rt false)<|.k5 2<|.kg 2<|.b16 false<|.b8 false<|.b5 false<|.kb false<|.rt false)<|.k5 1<|.kg 1<|.b16 false<|.b16 false<|.b4 false<|.rt false)<|.k5 0<|.kg 0<|.b16 false<|.b16 false<|.b8 false<|.b2 false<|.rt false
def Zabw:LF Empty Bool := .z0 66 [.t 4] wB
def Z63:=fun a0 a1=>Zabw.run (Zabv a0 a1)
theorem Zapk(a0)(a1){r}(h:Z63 a0 a1=some r):Fn PR 66 [wA (Zq a0),wA (Zq a1)] (wB r):=Zabw.fn h
inductive Zhc where
 | L0 (E0:Zg) (E1:Zg) (v5:Int)
 | L1 (E0:Zg) (E1:Zg) (v6:Int)
def Zpx(E0:Zg)(E1:Zg)(v5:Int):LT Zhc Bool:=
.len Zab E0.Specs<|.br (decide (v5 < (E0.Specs.length:Int))) (.idx Zab E0.Specs v5 fun x3=>.idx Zab E1.Specs v5 fun x5=>.br (!(Z5 (Zab x3) (Zab x5))) (.rt false)<|.g0 (.L0 E0 E1 (IntKind.wrap .i64 (v5+1))))<|.g0 (.L1 E0 E1 0)
def Zpy(E0:Zg)(E1:Zg)(v6:Int):LT Zhc Bool:=
.len Zq E0.Effects<|.br (decide (v6 < (E0.Effects.length:Int))) (.idx Zq E0.Effects v6 fun x3=>.idx Zq E1.Effects v6 fun x5=>.call (Zapk x3 x5) fun x7=>.br (!x7) (.rt false)<|.g0 (.L1 E0 E1 (IntKind.wrap .i64 (v6+1))))<|.rt true
def Z02(a0:Zg)(a1:Zg):LT Zhc Bool:=
.lb 1002<|.lb 1003<|.cs (a0.Kind != a1.Kind) (.k5 0<|.kg 0<|.b16 true<|.b16 true<|.b5 true<|.kn [0]<|.rt false)<|.k5 0<|.kg 0<|.cs (!(Z5 (Zo a0.Filter) (Zo a1.Filter))) (.k5 1<|.k2 1<|.b16 true<|.b8 true<|.b5 true<|.kb true<|.kn [0]<|.rt false)<|.k5 1<|.call (Zahz a0.Mods a1.Mods) fun x3=>.k2 1<|.cs (!x3) (.k5 2<|.kg 2<|.b16 true<|.b8 true<|.kn [0]<|.rt false)<|.k5 2<|.kg 2<|.cs (!(Z5 (Zdz a0.Price) (Zdz a1.Price))) (.k5 3<|.kg 3<|.b16 true<|.b2 true<|.kn [0]<|.rt false)<|.k5 3<|.kg 3<|.cs (!(a0.Slow==a1.Slow)) (.k5 4<|.kg 4<|.b8 true<|.b4 true<|.kn [0]<|.rt false)<|.k5 4<|.kg 4<|.cs (!(Z5 (Zch a0.Trigger) (Zch a1.Trigger))) (.k5 5<|.kg 5<|.b5 true<|.kb true<|.kn [0]<|.rt false)<|.k5 5<|.kg 5<|.cs (!(a0.May==a1.May)) (.k5 6<|.kg 6<|.kn [0]<|.rt false)<|.k5 6<|.kg 6<|.br (!(Z5 (Zbk a0.Replace) (Zbk a1.Replace))) (.rt false)<|.len Zab a0.Specs<|.len Zab a1.Specs<|.cs ((a0.Specs.length:Int) != (a1.Specs.length:Int)) (.k8 8<|.kn [0]<|.rt false)<|.k3 8<|.len Zq a0.Effects<|.k3 8<|.len Zq a1.Effects<|.k2 8<|.br ((a0.Effects.length:Int) != (a1.Effects.length:Int)) (.rt false)<|.go (.L0 a0 a1 0) [.relab 1002 3000,.relab 1003 3001]
def Z03:LF Zhc Bool := .m0 39 [.t 4] wB fun | .L0 E0 E1 v5=>([1,1,1,0,1,4],⟨115,[(2,.bptr 3000 0),(3,.bptr 3001 0),(5,wI v5)],[(3000,.box (bx (Zh E0))),(3001,.box (bx (Zh E1)))]⟩,Zpx E0 E1 v5) | .L1 E0 E1 v6=>([1,1,1,1,0,1,4],⟨115,[(2,.bptr 3000 0),(3,.bptr 3001 0),(6,wI v6)],[(3000,.box (bx (Zh E0))),(3001,.box (bx (Zh E1)))]⟩,Zpy E0 E1 v6)
def Zvf:=fun a0 a1=>Z03.run (Z02 a0 a1)
theorem Zaeg(a0)(a1){r}(h:Zvf a0 a1=some r):Fn PR 39 [wA (Zh a0),wA (Zh a1)] (wB r):=Z03.fn h
inductive Zqo where
 | L0 (E0:Zb) (E1:Zb) (v5:Int)
 | L1 (E0:Zb) (E1:Zb) (v6:Int)
def Z64(E0:Zb)(E1:Zb)(v5:Int):LT Zqo Bool:=
.len cS E0.Line.Subs<|.br (decide (v5 < (E0.Line.Subs.length:Int))) (.idx cS E0.Line.Subs v5 fun x3=>.idx cS E1.Line.Subs v5 fun x5=>.br (!(x3==x5)) (.rt false)<|.g0 (.L0 E0 E1 (IntKind.wrap .i64 (v5+1))))<|.g0 (.L1 E0 E1 0)
def Z65(E0:Zb)(E1:Zb)(v6:Int):LT Zqo Bool:=
.len Zh E0.Abilities<|.br (decide (v6 < (E0.Abilities.length:Int))) (.idx Zh E0.Abilities v6 fun x3=>.idx Zh E1.Abilities v6 fun x5=>.call (Zaeg x3 x5) fun x7=>.br (!x7) (.rt false)<|.g0 (.L1 E0 E1 (IntKind.wrap .i64 (v6+1))))<|.rt true
def Zanq(a0:Zb)(a1:Zb):LT Zqo Bool:=
.lb 1002<|.lb 1003<|.cs (!(a0.Name==a1.Name)) (.k5 0<|.kg 0<|.b16 true<|.b8 true<|.b5 true<|.kb true<|.kn [0]<|.rt false)<|.k5 0<|.kg 0<|.cs (!(Z5 (Zai a0.Cost) (Zai a1.Cost))) (.k5 1<|.kg 1<|.b16 true<|.b8 true<|.kn [0]<|.rt false)<|.k5 1<|.kg 1<|.cs (a0.Colors != a1.Colors) (.k5 2<|.kg 2<|.b16 true<|.b2 true<|.kn [0]<|.rt false)<|.k5 2<|.kg 2<|.cs (a0.Power != a1.Power) (.k5 3<|.kg 3<|.b8 true<|.b4 true<|.kn [0]<|.rt false)<|.k5 3<|.kg 3<|.cs (a0.Tough != a1.Tough) (.k5 4<|.kg 4<|.b5 true<|.kb true<|.kn [0]<|.rt false)<|.k5 4<|.kg 4<|.cs (a0.Keys != a1.Keys) (.k5 5<|.kg 5<|.kn [0]<|.rt false)<|.k5 5<|.kg 5<|.br (a0.Control != a1.Control) (.rt false)<|.cs (a0.Line.Super != a1.Line.Super) (.k8 7<|.b16 true<|.b2 true<|.kn [0]<|.rt false)<|.k8 7<|.cs (a0.Line.Types != a1.Line.Types) (.k8 8<|.k2 8<|.b8 true<|.kn [0]<|.rt false)<|.k4 8<|.len cS a0.Line.Subs<|.k4 8<|.len cS a1.Line.Subs<|.k2 8<|.cs ((a0.Line.Subs.length:Int) != (a1.Line.Subs.length:Int)) (.k8 9<|.kn [0]<|.rt false)<|.k3 9<|.len Zh a0.Abilities<|.k3 9<|.len Zh a1.Abilities<|.k2 9<|.br ((a0.Abilities.length:Int) != (a1.Abilities.length:Int)) (.rt false)<|.go (.L0 a0 a1 0) [.relab 1002 3000,.relab 1003 3001]
def Zanr:LF Zqo Bool := .m0 21 [.t 4] wB fun | .L0 E0 E1 v5=>([1,1,1,0,1,4],⟨130,[(2,.bptr 3000 0),(3,.bptr 3001 0),(5,wI v5)],[(3000,.box (bx (Zf E0))),(3001,.box (bx (Zf E1)))]⟩,Z64 E0 E1 v5) | .L1 E0 E1 v6=>([1,1,1,1,0,1,4],⟨130,[(2,.bptr 3000 0),(3,.bptr 3001 0),(6,wI v6)],[(3000,.box (bx (Zf E0))),(3001,.box (bx (Zf E1)))]⟩,Z65 E0 E1 v6)
def Zajt:=fun a0 a1=>Zanr.run (Zanq a0 a1)
theorem Z66(a0)(a1){r}(h:Zajt a0 a1=some r):Fn PR 21 [wA (Zf a0),wA (Zf a1)] (wB r):=Zanr.fn h
def Zans(a0:List Zn)(a1:Zl)(a2:Int):LT Empty (Zb×Bool):=
.lb 1004<|.lb 1006<|.call (Zwv a1 a2) fun x1=>.br (decide (x1>=0)) (.call (Z3j a0 a1) fun x4=>.idx Zf x4 x1 fun x6=>.rt (x6,true))<|.rt ((⟨([]:By),(⟨0,0,(⟨0,0,0,0,0⟩:A5 Int)⟩:Zt),0,(⟨0,0,([]:Bys)⟩:Zah),0,0,0,([]:List Zg),0⟩:Zb),false)
def Zant:LF Empty (Zb×Bool) := .z0 25 [.c 6 66 true 17,.t 7] (fun r=>(.tup [wA (Zf r.1),wB r.2]))
def Zaju:=fun a0 a1 a2=>Zant.run (Zans a0 a1 a2)
theorem Zazd(a0)(a1)(a2){r}(h:Zaju a0 a1 a2=some r):Fn PR 25 [wL Z4 a0,wA (Zaa a1),wI a2] (.tup [wA (Zf r.1),wB r.2]):=Zant.fn h
inductive Zkc where
 | L0 (v2:Int) (E0:Zl) (E1:Zb) (v8:Bool) (v9:List Zb) (v10:Int)
def Zq7(v2:Int)(E0:Zl)(E1:Zb)(v8:Bool)(v9:List Zb)(v10:Int):LT Zkc Bool:=
.len Zk E0.Objects<|.cs (decide (v10 < (E0.Objects.length:Int))) (.k3 0<|.len Zf v9<|.k2 0<|.br (decide (v10 < (v9.length:Int))) (.idx Zk E0.Objects v10 fun x5=>.br (x5.Id==v2) (.call (Zvd) fun x8=>.cs x8 (.k2 3<|.cs v8 (.k4 4<|.idx Zf v9 v10 fun x12=>.k2 4<|.call (Z66 E1 x12) fun x14=>.kg 4<|.rt x14)<|.k5 4<|.k2 4<|.rt false)<|.k2 3<|.b5 false<|.b2 false<|.rt false)<|.g0 (.L0 v2 E0 E1 v8 v9 (IntKind.wrap .i64 (v10+1))))<|.call (Zvd) fun x18=>.cs x18 (.k3 2<|.cs (!v8) (.k3 3<|.call (Z66 E1 (⟨([]:By),(⟨0,0,(⟨0,0,0,0,0⟩:A5 Int)⟩:Zt),0,(⟨0,0,([]:Bys)⟩:Zah),0,0,0,([]:List Zg),0⟩:Zb)) fun x22=>.kg 3<|.rt x22)<|.k4 3<|.rt false)<|.k3 2<|.b4 false<|.rt false)<|.k5 0<|.kn [0]<|.call (Zvd) fun x24=>.cs x24 (.k3 1<|.cs (!v8) (.k3 2<|.call (Z66 E1 (⟨([]:By),(⟨0,0,(⟨0,0,0,0,0⟩:A5 Int)⟩:Zt),0,(⟨0,0,([]:Bys)⟩:Zah),0,0,0,([]:List Zg),0⟩:Zb)) fun x28=>.kg 2<|.rt x28)<|.k4 2<|.rt false)<|.k3 1<|.b4 false<|.rt false
def Z3o(a0:List Zn)(a1:Zl)(a2:Int):LT Zkc Bool:=
.lb 1004<|.call (Zawo a0 a1) fun x1=>.br (!x1) (.call (Zvd) fun x4=>.rt x4)<|.call (Zazd a0 a1 a2) fun x6=>.lb 1007<|.call (Z3j a0 a1) fun x8=>.go (.L0 a2 a1 x6.1 x6.2 x8 0) [.relab 1004 3000,.relab 1007 3001]
def Z3p:LF Zkc Bool := .m0 8 [.t 6] wB fun | .L0 v2 E0 E1 v8 v9 v10=>([1,1,1,1,0,1,4],⟨69,[(2,wI v2),(4,.bptr 3000 0),(7,.bptr 3001 0),(8,wB v8),(9,wL Zf v9),(10,wI v10)],[(3000,.box (bx (Zaa E0))),(3001,.box (bx (Zf E1)))]⟩,Zq7 v2 E0 E1 v8 v9 v10)
def Zw1:=fun a0 a1 a2=>Z3p.run (Z3o a0 a1 a2)
theorem Zafv(a0)(a1)(a2){r}(h:Zw1 a0 a1 a2=some r):Fn PR 8 [wL Z4 a0,wA (Zaa a1),wI a2] (wB r):=Z3p.fn h
end
end Go.PW
