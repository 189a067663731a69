import Derived.Test.YtchddhcajpagjaaGreatQDb
set_option linter.all false
set_option maxRecDepth 100000
namespace Go.PW
open Go.RowKit
noncomputable section
def Z5d(a0:Int):LT Empty Int:=
.br (decide (a0 > 1000000)) (.rt 1000000)<|.br (decide (a0 < (-1000000))) (.rt (-1000000))<|.rt a0
def Zahr:LF Empty Int := .z0 69 [.t 2] wI
def Z33:=fun a0=>Zahr.run (Z5d a0)
theorem Zgj(a0){r}(h:Z33 a0=some r):Fn PR 69 [wI a0] (wI r):=Zahr.fn h
def Zase(a0:Int)(a1:Int):LT Empty Int:=
.call (Zgj a0) fun x1=>.call (Zgj a1) fun x3=>.call (Zgj (IntKind.wrap .i64 (x1 - x3))) fun x7=>.rt x7
def Zasf:LF Empty Int := .z0 41 [.t 4] wI
def Za2a:=fun a0 a1=>Zasf.run (Zase a0 a1)
theorem Za39(a0)(a1){r}(h:Za2a a0 a1=some r):Fn PR 41 [wI a0,wI a1] (wI r):=Zasf.fn h
def Zahs(a0:A3 Int):LT Empty Int:=
.lb 1001<|.idA (Zh.int .i64) (A3.list a0) 0 (bx ((cA3 (cI .i64)) a0)) 0 3 fun x1=>.ldC (Zh.int .i64) 4 x1 0<|.idA (Zh.int .i64) (A3.list a0) 1 (bx ((cA3 (cI .i64)) a0)) 0 3 fun x3=>.ldC (Zh.int .i64) 6 x3 1<|.call (Za39 x1 x3) fun x5=>.rt x5
def Zaht:LF Empty Int := .z0 23 [.t 2] wI
def Zasg:=fun a0=>Zaht.run (Zahs a0)
theorem Zayi(a0){r}(h:Zasg a0=some r):Fn PR 23 [wA ((cA3 (cI .i64)) a0)] (wI r):=Zaht.fn h
def Zash(a0:Int)(a1:Int):LT Empty Int:=
.call (Zgj a0) fun x1=>.call (Zgj a1) fun x3=>.call (Zgj (IntKind.wrap .i64 (x1+x3))) fun x7=>.rt x7
def Zasi:LF Empty Int := .z0 108 [.t 4] wI
def Zapg:=fun a0 a1=>Zasi.run (Zash a0 a1)
theorem Z8k(a0)(a1){r}(h:Zapg a0 a1=some r):Fn PR 108 [wI a0,wI a1] (wI r):=Zasi.fn h
def Zas7(a0:Int)(a1:Int):LT Empty Bool:=
.rt ((Zau .and .i64 a0 a1) != 0)
def Zaab:LF Empty Bool := .z0 215 [.t 4] wB
def Zahu:=fun a0 a1=>Zaab.run (Zas7 a0 a1)
theorem Zp5(a0)(a1){r}(h:Zahu a0 a1=some r):Fn PR 215 [wI a0,wI a1] (wB r):=Zaab.fn h
def Zadg(a0:Z7)(a1:By):LT Empty Bool:=
.lb 1002<|.call (Z0l a0.Subs a1) fun x1=>.rt (decide (x1>=0))
def Zadh:LF Empty Bool := .z0 216 [.t 4] wB
def Z8l:=fun a0 a1=>Zadh.run (Zadg a0 a1)
theorem Zas8(a0)(a1){r}(h:Z8l a0 a1=some r):Fn PR 216 [wA (Zhg a0),wS a1] (wB r):=Zadh.fn h
def Za8f(a0:Int)(a1:Int):LT Empty Bool:=
.rt ((Zau .and .i64 a0 a1)==a1)
def Zasj:LF Empty Bool := .z0 217 [.t 4] wB
def Za2b:=fun a0 a1=>Zasj.run (Za8f a0 a1)
theorem Zana(a0)(a1){r}(h:Za2b a0 a1=some r):Fn PR 217 [wI a0,wI a1] (wB r):=Zasj.fn h
def Zahv(a0:Zb)(a1:Int):LT Empty Bool:=
.lb 1002<|.br (a0.Kind==0) (.rt true)<|.br (a0.Kind==1) (.rt (decide (a1>=a0.N)))<|.br (a0.Kind==2) (.rt (decide (a1<=a0.N)))<|.br (a0.Kind==3) (.rt (a1==a0.N))<|.rt false
def Zahw:LF Empty Bool := .z0 255 [.t 4] wB
def Zadi:=fun a0 a1=>Zahw.run (Zahv a0 a1)
theorem Zpd(a0)(a1){r}(h:Zadi a0 a1=some r):Fn PR 255 [wA (Zb3 a0),wI a1] (wB r):=Zahw.fn h
def Zask(a0:Int)(a1:Int):LT Empty Int:=
.call (Zgj a0) fun x1=>.call (Zgj a1) fun x3=>.call (Zgj (IntKind.wrap .i64 (x1*x3))) fun x7=>.rt x7
def Zasl:LF Empty Int := .z0 266 [.t 4] wI
def Zaph:=fun a0 a1=>Zasl.run (Zask a0 a1)
theorem Zanb(a0)(a1){r}(h:Zaph a0 a1=some r):Fn PR 266 [wI a0,wI a1] (wI r):=Zasl.fn h
inductive Z5e where
 | L0 (v1:Int) (E0:Zt) (v5:Int) (v6:Int)
def Zpe(v1:Int)(E0:Zt)(v5:Int)(v6:Int):LT Z5e Int:=
.br (decide (v6 < 5)) (.idA (Zh.int .i64) (A5.list E0.Color) v6 (bx (Zaf E0)) 2 7 fun x2=>.ldC (Zh.int .i64) 20 x2 0<|.call (Z8k v5 x2) fun x4=>.g0 (.L0 v1 E0 x4 (IntKind.wrap .i64 (v6+1))))<|.br (decide (v1 < 0)) (.call (Zanb E0.X 0) fun x9=>.call (Z8k v5 x9) fun x11=>.rt x11)<|.call (Zanb E0.X v1) fun x13=>.call (Z8k v5 x13) fun x15=>.rt x15
def Zahx(a0:Zt)(a1:Int):LT Z5e Int:=
.lb 1002<|.call (Zwr a0) fun x1=>.br (!x1) (.rt 0)<|.go (.L0 a1 a0 a0.Generic 0) [.relab 1002 3000]
def Zwa:LF Z5e Int := .m0 256 [.t 4] wI fun | .L0 v1 E0 v5 v6=>([1,1,1,0,1,4],⟨30,[(1,wI v1),(2,.bptr 3000 0),(5,wI v5),(6,wI v6)],[(3000,.box (bx (Zaf E0)))]⟩,Zpe v1 E0 v5 v6)
def Zadj:=fun a0 a1=>Zwa.run (Zahx a0 a1)
theorem Z1l(a0)(a1){r}(h:Zadj a0 a1=some r):Fn PR 256 [wA (Zaf a0),wI a1] (wI r):=Zwa.fn h
inductive Z1m where
 | L0 (E0:Za) (E1:Zg) (v5:Bool)
def Zj4(E0:Za)(E1:Zg)(v5:Bool):LT Z1m Bool:=
.cs (E1.Tough.Kind != 0) (.k2 0<|.cs v5 (.k5 1<|.call (Zpd E1.Tough E0.Tough) fun x3=>.kg 0<|.kg 1<|.k2 0<|.br (!x3) (.rt false)<|.call (Z1l E0.Cost 0) fun x6=>.call (Zpd E1.Value x6) fun x8=>.rt x8)<|.k5 1<|.kg 0<|.kg 1<|.k2 0<|.br (!false) (.rt false)<|.call (Z1l E0.Cost 0) fun x11=>.call (Zpd E1.Value x11) fun x13=>.rt x13)<|.k5 0<|.kn [0]<|.call (Z1l E0.Cost 0) fun x15=>.call (Zpd E1.Value x15) fun x17=>.rt x17
def Zadk(a0:Za)(a1:Zg):LT Z1m Bool:=
.lb 1002<|.lb 1003<|.call (Zp5 a0.Line.Types 1) fun x1=>.cs (a1.Power.Kind != 0) (.k2 0<|.cs x1 (.k5 1<|.call (Zpd a1.Power a0.Power) fun x5=>.kg 0<|.kg 1<|.k2 0<|.br (!x5) (.rt false)<|.jn 0 (.L0 a0 a1 x1) [.relab 1002 3000,.relab 1003 3001] (Zj4 a0 a1 x1))<|.k5 1<|.kg 0<|.kg 1<|.k2 0<|.br (!false) (.rt false)<|.jn 0 (.L0 a0 a1 x1) [.relab 1002 3000,.relab 1003 3001] (Zj4 a0 a1 x1))<|.k5 0<|.kn [0]<|.jn 0 (.L0 a0 a1 x1) [.relab 1002 3000,.relab 1003 3001] (Zj4 a0 a1 x1)
def Z1n:LF Z1m Bool := .m0 218 [.t 4] wB fun | .L0 E0 E1 v5=>([1,1,1],⟨46,[(2,.bptr 3000 0),(3,.bptr 3001 0),(5,wB v5)],[(3000,.box (bx (Zj E0))),(3001,.box (bx (Zo E1)))]⟩,Zj4 E0 E1 v5)
def Z8m:=fun a0 a1=>Z1n.run (Zadk a0 a1)
theorem Zaac(a0)(a1){r}(h:Z8m a0 a1=some r):Fn PR 218 [wA (Zj a0),wA (Zo a1)] (wB r):=Z1n.fn h
inductive Z1o where
 | L0 (E0:Za) (E1:Zg)
 | L1 (E0:Za) (E1:Zg)
def Znt(E0:Za)(E1:Zg):LT Z1o Bool:=
.cs (!(E1.Sub==([]:By))) (.k5 0<|.call (Zas8 E0.Line E1.Sub) fun x2=>.k2 0<|.cs (!x2) (.k5 1<|.k2 1<|.kn [0]<|.rt false)<|.k5 1<|.call (Zana E0.Keys E1.Keys) fun x5=>.k2 1<|.br (!x5) (.rt false)<|.call (Zaac E0 E1) fun x8=>.rt x8)<|.k5 0<|.k2 0<|.b5 false<|.call (Zana E0.Keys E1.Keys) fun x10=>.b2 false<|.br (!x10) (.rt false)<|.call (Zaac E0 E1) fun x13=>.rt x13
def Zas9(E0:Za)(E1:Zg):LT Z1o Bool:=
.cs (E1.Colors != 0) (.k5 0<|.call (Zp5 E0.Colors E1.Colors) fun x2=>.k2 0<|.cs (!x2) (.k5 1<|.kg 1<|.kn [0]<|.rt false)<|.k5 1<|.call (Zp5 E0.Colors E1.NotColors) fun x5=>.kg 1<|.br x5 (.rt false)<|.j0 (.L1 E0 E1) (Znt E0 E1))<|.k5 0<|.k2 0<|.b5 false<|.call (Zp5 E0.Colors E1.NotColors) fun x8=>.kb false<|.br x8 (.rt false)<|.j0 (.L1 E0 E1) (Znt E0 E1)
def Zayj:LF Z1o Bool := .m0 164 [.t 10] wB fun | .L0 E0 E1=>([1,1,1],⟨107,[(6,.bptr 3000 0),(9,.bptr 3001 0)],[(3000,.box (bx (Zj E0))),(3001,.box (bx (Zo E1)))]⟩,Zas9 E0 E1) | .L1 E0 E1=>([1,1,1,1],⟨107,[(6,.bptr 3000 0),(9,.bptr 3001 0)],[(3000,.box (bx (Zj E0))),(3001,.box (bx (Zo E1)))]⟩,Znt E0 E1)
inductive Zt5 where
 | L0 (v0:List Zc) (v1:List Zc) (v5:Int)
def Zahy(v0:List Zc)(v1:List Zc)(v5:Int):LT Zt5 Bool:=
.len Zk v0<|.br (decide (v5 < (v0.length:Int))) (.idx Zk v0 v5 fun x3=>.idx Zk v1 v5 fun x5=>.br (!(Z1 (Zk x3) (Zk x5))) (.rt false)<|.g0 (.L0 v0 v1 (IntKind.wrap .i64 (v5+1))))<|.rt true
def Zanc(a0:List Zc)(a1:List Zc):LT Zt5 Bool:=
.len Zk a0<|.len Zk a1<|.br ((a0.length:Int) != (a1.length:Int)) (.rt false)<|.g0 (.L0 a0 a1 0)
def Z8n:LF Zt5 Bool := .m0 65 [.t 4] wB fun | .L0 v0 v1 v5=>([1,1,0,1,4],⟨26,[(0,wL Zk v0),(1,wL Zk v1),(5,wI v5)],[]⟩,Zahy v0 v1 v5)
def Zayk:=fun a0 a1=>Z8n.run (Zanc a0 a1)
theorem Zahz(a0)(a1){r}(h:Zayk a0 a1=some r):Fn PR 65 [wL Zk a0,wL Zk a1] (wB r):=Z8n.fn h
def Zaad(a0:Zs)(a1:Zs):LT Empty Bool:=
.lb 1002<|.lb 1003<|.cs (a0.Op==a1.Op) (.k5 0<|.kg 0<|.cs (Z1 (Zdf a0.Ref) (Zdf a1.Ref)) (.k5 1<|.kg 1<|.cs (Z1 (Zap a0.Amount) (Zap a1.Amount)) (.k5 2<|.kg 2<|.cs (a0.Counter==a1.Counter) (.k5 3<|.kg 3<|.cs (a0.Zone==a1.Zone) (.k5 4<|.kg 4<|.cs (a0.Card==a1.Card) (.k5 5<|.kg 5<|.cs (Z1 (Zo a0.Filter) (Zo a1.Filter)) (.k5 6<|.kg 6<|.cs (Z1 ((cA6 (cI .i64)) a0.Pool) ((cA6 (cI .i64)) a1.Pool)) (.k5 7<|.call (Zahz a0.Mods a1.Mods) fun x9=>.kg 7<|.rt x9)<|.k5 7<|.kg 7<|.rt false)<|.k5 6<|.kg 6<|.b5 false<|.kb false<|.rt false)<|.k5 5<|.kg 5<|.b8 false<|.b4 false<|.rt false)<|.k5 4<|.kg 4<|.b16 false<|.b2 false<|.rt false)<|.k5 3<|.kg 3<|.b16 false<|.b8 false<|.rt false)<|.k5 2<|.kg 2<|.b16 false<|.b8 false<|.b5 false<|.kb false<|.rt false)<|.k5 1<|.kg 1<|.b16 false<|.b16 false<|.b4 false<|.rt false)<|.k5 0<|.kg 0<|.b16 false<|.b16 false<|.b8 false<|.b2 false<|.rt false
def Zaae:LF Empty Bool := .z0 66 [.t 4] wB
def Zah0:=fun a0 a1=>Zaae.run (Zaad a0 a1)
theorem Zapi(a0)(a1){r}(h:Zah0 a0 a1=some r):Fn PR 66 [wA (Zq a0),wA (Zq a1)] (wB r):=Zaae.fn h
inductive Zgo where
 | L0 (E0:Zd) (E1:Zd) (v5:Int)
 | L1 (E0:Zd) (E1:Zd) (v6:Int)
def Zxn(E0:Zd)(E1:Zd)(v5:Int):LT Zgo Bool:=
.len Z9 E0.Specs<|.br (decide (v5 < (E0.Specs.length:Int))) (.idx Z9 E0.Specs v5 fun x3=>.idx Z9 E1.Specs v5 fun x5=>.br (!(Z1 (Z9 x3) (Z9 x5))) (.rt false)<|.g0 (.L0 E0 E1 (IntKind.wrap .i64 (v5+1))))<|.g0 (.L1 E0 E1 0)
def Zxo(E0:Zd)(E1:Zd)(v6:Int):LT Zgo Bool:=
.len Zq E0.Effects<|.br (decide (v6 < (E0.Effects.length:Int))) (.idx Zq E0.Effects v6 fun x3=>.idx Zq E1.Effects v6 fun x5=>.call (Zapi x3 x5) fun x7=>.br (!x7) (.rt false)<|.g0 (.L1 E0 E1 (IntKind.wrap .i64 (v6+1))))<|.rt true
def Zzl(a0:Zd)(a1:Zd):LT Zgo Bool:=
.lb 1002<|.lb 1003<|.cs (a0.Kind != a1.Kind) (.k5 0<|.kg 0<|.b16 true<|.b16 true<|.b5 true<|.kn [0]<|.rt false)<|.k5 0<|.kg 0<|.cs (!(Z1 (Zo a0.Filter) (Zo a1.Filter))) (.k5 1<|.k2 1<|.b16 true<|.b8 true<|.b5 true<|.kb true<|.kn [0]<|.rt false)<|.k5 1<|.call (Zahz a0.Mods a1.Mods) fun x3=>.k2 1<|.cs (!x3) (.k5 2<|.kg 2<|.b16 true<|.b8 true<|.kn [0]<|.rt false)<|.k5 2<|.kg 2<|.cs (!(Z1 (Zdk a0.Price) (Zdk a1.Price))) (.k5 3<|.kg 3<|.b16 true<|.b2 true<|.kn [0]<|.rt false)<|.k5 3<|.kg 3<|.cs (!(a0.Slow==a1.Slow)) (.k5 4<|.kg 4<|.b8 true<|.b4 true<|.kn [0]<|.rt false)<|.k5 4<|.kg 4<|.cs (!(Z1 (Zb6 a0.Trigger) (Zb6 a1.Trigger))) (.k5 5<|.kg 5<|.b5 true<|.kb true<|.kn [0]<|.rt false)<|.k5 5<|.kg 5<|.cs (!(a0.May==a1.May)) (.k5 6<|.kg 6<|.kn [0]<|.rt false)<|.k5 6<|.kg 6<|.br (!(Z1 (Zbf a0.Replace) (Zbf a1.Replace))) (.rt false)<|.len Z9 a0.Specs<|.len Z9 a1.Specs<|.cs ((a0.Specs.length:Int) != (a1.Specs.length:Int)) (.k8 8<|.kn [0]<|.rt false)<|.k3 8<|.len Zq a0.Effects<|.k3 8<|.len Zq a1.Effects<|.k2 8<|.br ((a0.Effects.length:Int) != (a1.Effects.length:Int)) (.rt false)<|.go (.L0 a0 a1 0) [.relab 1002 3000,.relab 1003 3001]
def Zle:LF Zgo Bool := .m0 39 [.t 4] wB fun | .L0 E0 E1 v5=>([1,1,1,0,1,4],⟨115,[(2,.bptr 3000 0),(3,.bptr 3001 0),(5,wI v5)],[(3000,.box (bx (Zi E0))),(3001,.box (bx (Zi E1)))]⟩,Zxn E0 E1 v5) | .L1 E0 E1 v6=>([1,1,1,1,0,1,4],⟨115,[(2,.bptr 3000 0),(3,.bptr 3001 0),(6,wI v6)],[(3000,.box (bx (Zi E0))),(3001,.box (bx (Zi E1)))]⟩,Zxo E0 E1 v6)
def Z34:=fun a0 a1=>Zle.run (Zzl a0 a1)
theorem Zadl(a0)(a1){r}(h:Z34 a0 a1=some r):Fn PR 39 [wA (Zi a0),wA (Zi a1)] (wB r):=Zle.fn h
inductive Zp6 where
 | L0 (E0:Za) (E1:Za) (v5:Int)
 | L1 (E0:Za) (E1:Za) (v6:Int)
def Zah1(E0:Za)(E1:Za)(v5:Int):LT Zp6 Bool:=
.len cS E0.Line.Subs<|.br (decide (v5 < (E0.Line.Subs.length:Int))) (.idx cS E0.Line.Subs v5 fun x3=>.idx cS E1.Line.Subs v5 fun x5=>.br (!(x3==x5)) (.rt false)<|.g0 (.L0 E0 E1 (IntKind.wrap .i64 (v5+1))))<|.g0 (.L1 E0 E1 0)
def Zah2(E0:Za)(E1:Za)(v6:Int):LT Zp6 Bool:=
.len Zi E0.Abilities<|.br (decide (v6 < (E0.Abilities.length:Int))) (.idx Zi E0.Abilities v6 fun x3=>.idx Zi E1.Abilities v6 fun x5=>.call (Zadl x3 x5) fun x7=>.br (!x7) (.rt false)<|.g0 (.L1 E0 E1 (IntKind.wrap .i64 (v6+1))))<|.rt true
def Zand(a0:Za)(a1:Za):LT Zp6 Bool:=
.lb 1002<|.lb 1003<|.cs (!(a0.Name==a1.Name)) (.k5 0<|.kg 0<|.b16 true<|.b8 true<|.b5 true<|.kb true<|.kn [0]<|.rt false)<|.k5 0<|.kg 0<|.cs (!(Z1 (Zaf a0.Cost) (Zaf a1.Cost))) (.k5 1<|.kg 1<|.b16 true<|.b8 true<|.kn [0]<|.rt false)<|.k5 1<|.kg 1<|.cs (a0.Colors != a1.Colors) (.k5 2<|.kg 2<|.b16 true<|.b2 true<|.kn [0]<|.rt false)<|.k5 2<|.kg 2<|.cs (a0.Power != a1.Power) (.k5 3<|.kg 3<|.b8 true<|.b4 true<|.kn [0]<|.rt false)<|.k5 3<|.kg 3<|.cs (a0.Tough != a1.Tough) (.k5 4<|.kg 4<|.b5 true<|.kb true<|.kn [0]<|.rt false)<|.k5 4<|.kg 4<|.cs (a0.Keys != a1.Keys) (.k5 5<|.kg 5<|.kn [0]<|.rt false)<|.k5 5<|.kg 5<|.br (a0.Control != a1.Control) (.rt false)<|.cs (a0.Line.Super != a1.Line.Super) (.k8 7<|.b16 true<|.b2 true<|.kn [0]<|.rt false)<|.k8 7<|.cs (a0.Line.Types != a1.Line.Types) (.k8 8<|.k2 8<|.b8 true<|.kn [0]<|.rt false)<|.k4 8<|.len cS a0.Line.Subs<|.k4 8<|.len cS a1.Line.Subs<|.k2 8<|.cs ((a0.Line.Subs.length:Int) != (a1.Line.Subs.length:Int)) (.k8 9<|.kn [0]<|.rt false)<|.k3 9<|.len Zi a0.Abilities<|.k3 9<|.len Zi a1.Abilities<|.k2 9<|.br ((a0.Abilities.length:Int) != (a1.Abilities.length:Int)) (.rt false)<|.go (.L0 a0 a1 0) [.relab 1002 3000,.relab 1003 3001]
def Zzx:LF Zp6 Bool := .m0 21 [.t 4] wB fun | .L0 E0 E1 v5=>([1,1,1,0,1,4],⟨130,[(2,.bptr 3000 0),(3,.bptr 3001 0),(5,wI v5)],[(3000,.box (bx (Zj E0))),(3001,.box (bx (Zj E1)))]⟩,Zah1 E0 E1 v5) | .L1 E0 E1 v6=>([1,1,1,1,0,1,4],⟨130,[(2,.bptr 3000 0),(3,.bptr 3001 0),(6,wI v6)],[(3000,.box (bx (Zj E0))),(3001,.box (bx (Zj E1)))]⟩,Zah2 E0 E1 v6)
def Zayl:=fun a0 a1=>Zzx.run (Zand a0 a1)
theorem Za05(a0)(a1){r}(h:Zayl a0 a1=some r):Fn PR 21 [wA (Zj a0),wA (Zj a1)] (wB r):=Zzx.fn h
def Zaaf(a0:Int):LT Empty Int:=
.rt (Z7t (Z0a a0 (-1000000)) 1000000)
def Zaag:LF Empty Int := .z0 24 [.t 2] wI
def Zah3:=fun a0=>Zaag.run (Zaaf a0)
theorem Z69(a0){r}(h:Zah3 a0=some r):Fn PR 24 [wI a0] (wI r):=Zaag.fn h
inductive Zg5 where
 | L0 (v0:List Zl) (E0:Zm) (v5:List Za) (v6:Int)
 | L1 (v0:List Zl) (E0:Zm) (v5:List Za) (v6:Int) (E1:Za)
def Zgp(v0:List Zl)(E0:Zm)(v5:List Za)(v6:Int)(E1:Za):LT Zg5 Bool:=
.idx Zj v5 v6 fun x1=>.call (Za05 x1 E1) fun x3=>.br (!x3) (.rt false)<|.g0 (.L0 v0 E0 v5 (IntKind.wrap .i64 (v6+1)))
def Zzm(v0:List Zl)(E0:Zm)(v5:List Za)(v6:Int):LT Zg5 Bool:=
.len Zj v5<|.br (decide (v6 < (v5.length:Int))) (.idx Zn E0.Objects v6 fun x3=>.lb 1007<|.call (Za8e v0 x3) fun x5=>.lb 1008<|.call (Zayi x3.Counters) fun x7=>.cs (x3.Zone==0) (.k4 1<|.dc ((1:Int)≠0) rfl<|.kg 1<|.dc ((2:Int)≠0) rfl<|.k2 1<|.br ((Int.tmod (Zjz .i64 x5.Line.Types 1) 2)==1) (.idx Zj v5 v6 fun x11=>.call (Z69 (IntKind.wrap .i64 (x5.Power+x7))) fun x15=>.cs (x11.Power != x15) (.k8 3<|.k4 3<|.kn [0]<|.rt false)<|.k3 3<|.ag Zj x11 3<|.k5 3<|.k2 3<|.call (Z69 (IntKind.wrap .i64 (x5.Tough+x7))) fun x20=>.k2 3<|.br (x11.Tough != x20) (.rt false)<|.ag Zj x11 3<|.ag Zj x11 3<|.jn 0 (.L1 v0 E0 v5 v6 (⟨x5.Name,x5.Cost,x5.Colors,x5.Line,x11.Power,x11.Tough,x5.Keys,x5.Abilities,x5.Control⟩:Za)) [.relab 1008 3001] (Zgp v0 E0 v5 v6 (⟨x5.Name,x5.Cost,x5.Colors,x5.Line,x11.Power,x11.Tough,x5.Keys,x5.Abilities,x5.Control⟩:Za)))<|.jn 0 (.L1 v0 E0 v5 v6 x5) [.relab 1008 3001] (Zgp v0 E0 v5 v6 x5))<|.k5 1<|.k2 1<|.kn [0]<|.jn 0 (.L1 v0 E0 v5 v6 x5) [.relab 1008 3001] (Zgp v0 E0 v5 v6 x5))<|.call (Z1j) fun x23=>.rt x23
def Z1p(a0:List Zl)(a1:Zm):LT Zg5 Bool:=
.lb 1003<|.call (Zax6 a0 a1) fun x1=>.cs (!x1) (.k5 0<|.kg 0<|.kn [0]<|.call (Z1j) fun x4=>.rt x4)<|.k3 0<|.call (Ztr a0 a1) fun x6=>.kg 0<|.len Z6 x6<|.k2 0<|.br (decide ((x6.length:Int) > 0)) (.call (Z1j) fun x10=>.rt x10)<|.call (Zade a0 a1) fun x12=>.len Zj x12<|.len Zn a1.Objects<|.br ((x12.length:Int) != (a1.Objects.length:Int)) (.rt false)<|.go (.L0 a0 a1 x12 0) [.relab 1003 3000]
def Zr6:LF Zg5 Bool := .m0 7 [.t 4] wB fun | .L0 v0 E0 v5 v6=>([1,1,1,1,0,1,4],⟨103,[(0,wL Zw v0),(3,.bptr 3000 0),(5,wL Zj v5),(6,wI v6)],[(3000,.box (bx (Zae E0)))]⟩,Zzm v0 E0 v5 v6) | .L1 v0 E0 v5 v6 E1=>([1,1,1,1,0,1,4,5,1,0,4,1,1,1,1],⟨103,[(0,wL Zw v0),(3,.bptr 3000 0),(5,wL Zj v5),(6,wI v6),(8,.bptr 3001 0)],[(3000,.box (bx (Zae E0))),(3001,.box (bx (Zj E1)))]⟩,Zgp v0 E0 v5 v6 E1)
def Z7a:=fun a0 a1=>Zr6.run (Z1p a0 a1)
theorem Zae7(a0)(a1){r}(h:Z7a a0 a1=some r):Fn PR 7 [wL Zw a0,wA (Zae a1)] (wB r):=Zr6.fn h
end
end Go.PW
