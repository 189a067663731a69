import Derived.Test.YtchddhcajpagjaaGreatQDb
set_option linter.all false
set_option maxRecDepth 100000
namespace Go.PW
open Go.RowKit
noncomputable section
def Zahj(a0:Int):LT Empty Int:=
.br (decide (a0 > 1000000)) (.rt 1000000)<|.br (decide (a0 < (-1000000))) (.rt (-1000000))<|.rt a0
def Zahk:LF Empty Int := .z0 69 [.t 2] wI
def Zac8:=fun a0=>Zahk.run (Zahj a0)
theorem Zl8(a0){r}(h:Zac8 a0=some r):Fn PR 69 [wI a0] (wI r):=Zahk.fn h
def Zar9(a0:Int)(a1:Int):LT Empty Int:=
.call (Zl8 a0) fun x1=>.call (Zl8 a1) fun x3=>.call (Zl8 (IntKind.wrap .i64 (x1+x3))) fun x7=>.rt x7
def Zasa:LF Empty Int := .z0 108 [.t 4] wI
def Zao9:=fun a0 a1=>Zasa.run (Zar9 a0 a1)
theorem Z8e(a0)(a1){r}(h:Zao9 a0 a1=some r):Fn PR 108 [wI a0,wI a1] (wI r):=Zasa.fn h
def Zasz(a0:Int)(a1:Int):LT Empty Bool:=
.rt ((Zay .and .i64 a0 a1) != 0)
def Z94:LF Empty Bool := .z0 215 [.t 4] wB
def Zahl:=fun a0 a1=>Z94.run (Zasz a0 a1)
theorem Zp3(a0)(a1){r}(h:Zahl a0 a1=some r):Fn PR 215 [wI a0,wI a1] (wB r):=Z94.fn h
def Zac9(a0:Zac)(a1:By):LT Empty Bool:=
.lb 1002<|.call (Z0e a0.Subs a1) fun x1=>.rt (decide (x1>=0))
def Zada:LF Empty Bool := .z0 216 [.t 4] wB
def Z8f:=fun a0 a1=>Zada.run (Zac9 a0 a1)
theorem Zas0(a0)(a1){r}(h:Z8f a0 a1=some r):Fn PR 216 [wA (Zhd a0),wS a1] (wB r):=Zada.fn h
def Za70(a0:Int)(a1:Int):LT Empty Bool:=
.rt ((Zay .and .i64 a0 a1)==a1)
def Zasb:LF Empty Bool := .z0 217 [.t 4] wB
def Za1z:=fun a0 a1=>Zasb.run (Za70 a0 a1)
theorem Zamz(a0)(a1){r}(h:Za1z a0 a1=some r):Fn PR 217 [wI a0,wI a1] (wB r):=Zasb.fn h
def Zahm(a0:Za)(a1:Int):LT Empty Bool:=
.lb 1002<|.br (a0.Kind==0) (.rt true)<|.br (a0.Kind==1) (.rt (decide (a1>=a0.N)))<|.br (a0.Kind==2) (.rt (decide (a1<=a0.N)))<|.br (a0.Kind==3) (.rt (a1==a0.N))<|.rt false
def Zahn:LF Empty Bool := .z0 255 [.t 4] wB
def Zadb:=fun a0 a1=>Zahn.run (Zahm a0 a1)
theorem Zpd(a0)(a1){r}(h:Zadb a0 a1=some r):Fn PR 255 [wA (Zb4 a0),wI a1] (wB r):=Zahn.fn h
def Zasc(a0:Int)(a1:Int):LT Empty Int:=
.call (Zl8 a0) fun x1=>.call (Zl8 a1) fun x3=>.call (Zl8 (IntKind.wrap .i64 (x1*x3))) fun x7=>.rt x7
def Zasd:LF Empty Int := .z0 266 [.t 4] wI
def Zapa:=fun a0 a1=>Zasd.run (Zasc a0 a1)
theorem Zam0(a0)(a1){r}(h:Zapa a0 a1=some r):Fn PR 266 [wI a0,wI a1] (wI r):=Zasd.fn h
inductive Z48 where
 | L0 (v1:Int) (E0:Zt) (v5:Int) (v6:Int)
def Zpe(v1:Int)(E0:Zt)(v5:Int)(v6:Int):LT Z48 Int:=
.br (decide (v6 < 5)) (.idA (Zf.int .i64) (A5.list E0.Color) v6 (bx (Zah E0)) 2 7 fun x2=>.ldC (Zf.int .i64) 20 x2 0<|.call (Z8e v5 x2) fun x4=>.g0 (.L0 v1 E0 x4 (IntKind.wrap .i64 (v6+1))))<|.br (decide (v1 < 0)) (.call (Zam0 E0.X 0) fun x9=>.call (Z8e v5 x9) fun x11=>.rt x11)<|.call (Zam0 E0.X v1) fun x13=>.call (Z8e v5 x13) fun x15=>.rt x15
def Zaho(a0:Zt)(a1:Int):LT Z48 Int:=
.lb 1002<|.call (Z2p a0) fun x1=>.br (!x1) (.rt 0)<|.go (.L0 a1 a0 a0.Generic 0) [.relab 1002 3000]
def Zv6:LF Z48 Int := .m0 256 [.t 4] wI fun | .L0 v1 E0 v5 v6=>([1,1,1,0,1,4],⟨30,[(1,wI v1),(2,.bptr 3000 0),(5,wI v5),(6,wI v6)],[(3000,.box (bx (Zah E0)))]⟩,Zpe v1 E0 v5 v6)
def Zadc:=fun a0 a1=>Zv6.run (Zaho a0 a1)
theorem Z1e(a0)(a1){r}(h:Zadc a0 a1=some r):Fn PR 256 [wA (Zah a0),wI a1] (wI r):=Zv6.fn h
inductive Z1f where
 | L0 (E0:Zb) (E1:Ze) (v5:Bool)
def Zj1(E0:Zb)(E1:Ze)(v5:Bool):LT Z1f Bool:=
.cs (E1.Tough.Kind != 0) (.k2 0<|.cs v5 (.k5 1<|.call (Zpd E1.Tough E0.Tough) fun x3=>.kg 0<|.kg 1<|.k2 0<|.br (!x3) (.rt false)<|.call (Z1e E0.Cost 0) fun x6=>.call (Zpd E1.Value x6) fun x8=>.rt x8)<|.k5 1<|.kg 0<|.kg 1<|.k2 0<|.br (!false) (.rt false)<|.call (Z1e E0.Cost 0) fun x11=>.call (Zpd E1.Value x11) fun x13=>.rt x13)<|.k5 0<|.kn [0]<|.call (Z1e E0.Cost 0) fun x15=>.call (Zpd E1.Value x15) fun x17=>.rt x17
def Zadd(a0:Zb)(a1:Ze):LT Z1f Bool:=
.lb 1002<|.lb 1003<|.call (Zp3 a0.Line.Types 1) fun x1=>.cs (a1.Power.Kind != 0) (.k2 0<|.cs x1 (.k5 1<|.call (Zpd a1.Power a0.Power) fun x5=>.kg 0<|.kg 1<|.k2 0<|.br (!x5) (.rt false)<|.jn 0 (.L0 a0 a1 x1) [.relab 1002 3000,.relab 1003 3001] (Zj1 a0 a1 x1))<|.k5 1<|.kg 0<|.kg 1<|.k2 0<|.br (!false) (.rt false)<|.jn 0 (.L0 a0 a1 x1) [.relab 1002 3000,.relab 1003 3001] (Zj1 a0 a1 x1))<|.k5 0<|.kn [0]<|.jn 0 (.L0 a0 a1 x1) [.relab 1002 3000,.relab 1003 3001] (Zj1 a0 a1 x1)
def Z1g:LF Z1f Bool := .m0 218 [.t 4] wB fun | .L0 E0 E1 v5=>([1,1,1],⟨46,[(2,.bptr 3000 0),(3,.bptr 3001 0),(5,wB v5)],[(3000,.box (bx (Zi E0))),(3001,.box (bx (Zo E1)))]⟩,Zj1 E0 E1 v5)
def Z8g:=fun a0 a1=>Z1g.run (Zadd a0 a1)
theorem Z95(a0)(a1){r}(h:Z8g a0 a1=some r):Fn PR 218 [wA (Zi a0),wA (Zo a1)] (wB r):=Z1g.fn h
inductive Z1h where
 | L0 (E0:Zb) (E1:Ze)
 | L1 (E0:Zb) (E1:Ze)
def Znt(E0:Zb)(E1:Ze):LT Z1h Bool:=
.cs (!(E1.Sub==([]:By))) (.k5 0<|.call (Zas0 E0.Line E1.Sub) fun x2=>.k2 0<|.cs (!x2) (.k5 1<|.k2 1<|.kn [0]<|.rt false)<|.k5 1<|.call (Zamz E0.Keys E1.Keys) fun x5=>.k2 1<|.br (!x5) (.rt false)<|.call (Z95 E0 E1) fun x8=>.rt x8)<|.k5 0<|.k2 0<|.b5 false<|.call (Zamz E0.Keys E1.Keys) fun x10=>.b2 false<|.br (!x10) (.rt false)<|.call (Z95 E0 E1) fun x13=>.rt x13
def Zas1(E0:Zb)(E1:Ze):LT Z1h Bool:=
.cs (E1.Colors != 0) (.k5 0<|.call (Zp3 E0.Colors E1.Colors) fun x2=>.k2 0<|.cs (!x2) (.k5 1<|.kg 1<|.kn [0]<|.rt false)<|.k5 1<|.call (Zp3 E0.Colors E1.NotColors) fun x5=>.kg 1<|.br x5 (.rt false)<|.j0 (.L1 E0 E1) (Znt E0 E1))<|.k5 0<|.k2 0<|.b5 false<|.call (Zp3 E0.Colors E1.NotColors) fun x8=>.kb false<|.br x8 (.rt false)<|.j0 (.L1 E0 E1) (Znt E0 E1)
def Zax2:LF Z1h Bool := .m0 164 [.t 10] wB fun | .L0 E0 E1=>([1,1,1],⟨107,[(6,.bptr 3000 0),(9,.bptr 3001 0)],[(3000,.box (bx (Zi E0))),(3001,.box (bx (Zo E1)))]⟩,Zas1 E0 E1) | .L1 E0 E1=>([1,1,1,1],⟨107,[(6,.bptr 3000 0),(9,.bptr 3001 0)],[(3000,.box (bx (Zi E0))),(3001,.box (bx (Zo E1)))]⟩,Znt E0 E1)
inductive Zt0 where
 | L0 (v0:List Zd) (v1:List Zd) (v5:Int)
def Zahp(v0:List Zd)(v1:List Zd)(v5:Int):LT Zt0 Bool:=
.len Zl v0<|.br (decide (v5 < (v0.length:Int))) (.idx Zl v0 v5 fun x3=>.idx Zl v1 v5 fun x5=>.br (!(Zy (Zl x3) (Zl x5))) (.rt false)<|.g0 (.L0 v0 v1 (IntKind.wrap .i64 (v5+1))))<|.rt true
def Zam1(a0:List Zd)(a1:List Zd):LT Zt0 Bool:=
.len Zl a0<|.len Zl a1<|.br ((a0.length:Int) != (a1.length:Int)) (.rt false)<|.g0 (.L0 a0 a1 0)
def Z8h:LF Zt0 Bool := .m0 65 [.t 4] wB fun | .L0 v0 v1 v5=>([1,1,0,1,4],⟨26,[(0,wL Zl v0),(1,wL Zl v1),(5,wI v5)],[]⟩,Zahp v0 v1 v5)
def Zax3:=fun a0 a1=>Z8h.run (Zam1 a0 a1)
theorem Zahq(a0)(a1){r}(h:Zax3 a0 a1=some r):Fn PR 65 [wL Zl a0,wL Zl a1] (wB r):=Z8h.fn h
def Z96(a0:Zs)(a1:Zs):LT Empty Bool:=
.lb 1002<|.lb 1003<|.cs (a0.Op==a1.Op) (.k5 0<|.kg 0<|.cs (Zy (Zdf a0.Ref) (Zdf a1.Ref)) (.k5 1<|.kg 1<|.cs (Zy (Zaq a0.Amount) (Zaq a1.Amount)) (.k5 2<|.kg 2<|.cs (a0.Counter==a1.Counter) (.k5 3<|.kg 3<|.cs (a0.Zone==a1.Zone) (.k5 4<|.kg 4<|.cs (a0.Card==a1.Card) (.k5 5<|.kg 5<|.cs (Zy (Zo a0.Filter) (Zo a1.Filter)) (.k5 6<|.kg 6<|.cs (Zy ((cA6 (cI .i64)) a0.Pool) ((cA6 (cI .i64)) a1.Pool)) (.k5 7<|.call (Zahq a0.Mods a1.Mods) fun x9=>.kg 7<|.rt x9)<|.k5 7<|.kg 7<|.rt false)<|.k5 6<|.kg 6<|.b5 false<|.kb false<|.rt false)<|.k5 5<|.kg 5<|.b8 false<|.b4 false<|.rt false)<|.k5 4<|.kg 4<|.b16 false<|.b2 false<|.rt false)<|.k5 3<|.kg 3<|.b16 false<|.b8 false<|.rt false)<|.k5 2<|.kg 2<|.b16 false<|.b8 false<|.b5 false<|.kb false<|.rt false)<|.k5 1<|.kg 1<|.b16 false<|.b16 false<|.b4 false<|.rt false)<|.k5 0<|.kg 0<|.b16 false<|.b16 false<|.b8 false<|.b2 false<|.rt false
def Z97:LF Empty Bool := .z0 66 [.t 4] wB
def Zahr:=fun a0 a1=>Z97.run (Z96 a0 a1)
theorem Zapb(a0)(a1){r}(h:Zahr a0 a1=some r):Fn PR 66 [wA (Zq a0),wA (Zq a1)] (wB r):=Z97.fn h
inductive Zgo where
 | L0 (E0:Zh) (E1:Zh) (v5:Int)
 | L1 (E0:Zh) (E1:Zh) (v6:Int)
def Zxi(E0:Zh)(E1:Zh)(v5:Int):LT Zgo Bool:=
.len Zad E0.Specs<|.br (decide (v5 < (E0.Specs.length:Int))) (.idx Zad E0.Specs v5 fun x3=>.idx Zad E1.Specs v5 fun x5=>.br (!(Zy (Zad x3) (Zad x5))) (.rt false)<|.g0 (.L0 E0 E1 (IntKind.wrap .i64 (v5+1))))<|.g0 (.L1 E0 E1 0)
def Zxj(E0:Zh)(E1:Zh)(v6:Int):LT Zgo Bool:=
.len Zq E0.Effects<|.br (decide (v6 < (E0.Effects.length:Int))) (.idx Zq E0.Effects v6 fun x3=>.idx Zq E1.Effects v6 fun x5=>.call (Zapb x3 x5) fun x7=>.br (!x7) (.rt false)<|.g0 (.L1 E0 E1 (IntKind.wrap .i64 (v6+1))))<|.rt true
def Zze(a0:Zh)(a1:Zh):LT Zgo Bool:=
.lb 1002<|.lb 1003<|.cs (a0.Kind != a1.Kind) (.k5 0<|.kg 0<|.b16 true<|.b16 true<|.b5 true<|.kn [0]<|.rt false)<|.k5 0<|.kg 0<|.cs (!(Zy (Zo a0.Filter) (Zo a1.Filter))) (.k5 1<|.k2 1<|.b16 true<|.b8 true<|.b5 true<|.kb true<|.kn [0]<|.rt false)<|.k5 1<|.call (Zahq a0.Mods a1.Mods) fun x3=>.k2 1<|.cs (!x3) (.k5 2<|.kg 2<|.b16 true<|.b8 true<|.kn [0]<|.rt false)<|.k5 2<|.kg 2<|.cs (!(Zy (Zdk a0.Price) (Zdk a1.Price))) (.k5 3<|.kg 3<|.b16 true<|.b2 true<|.kn [0]<|.rt false)<|.k5 3<|.kg 3<|.cs (!(a0.Slow==a1.Slow)) (.k5 4<|.kg 4<|.b8 true<|.b4 true<|.kn [0]<|.rt false)<|.k5 4<|.kg 4<|.cs (!(Zy (Zb8 a0.Trigger) (Zb8 a1.Trigger))) (.k5 5<|.kg 5<|.b5 true<|.kb true<|.kn [0]<|.rt false)<|.k5 5<|.kg 5<|.cs (!(a0.May==a1.May)) (.k5 6<|.kg 6<|.kn [0]<|.rt false)<|.k5 6<|.kg 6<|.br (!(Zy (Zbh a0.Replace) (Zbh a1.Replace))) (.rt false)<|.len Zad a0.Specs<|.len Zad a1.Specs<|.cs ((a0.Specs.length:Int) != (a1.Specs.length:Int)) (.k8 8<|.kn [0]<|.rt false)<|.k3 8<|.len Zq a0.Effects<|.k3 8<|.len Zq a1.Effects<|.k2 8<|.br ((a0.Effects.length:Int) != (a1.Effects.length:Int)) (.rt false)<|.go (.L0 a0 a1 0) [.relab 1002 3000,.relab 1003 3001]
def Zld:LF Zgo Bool := .m0 39 [.t 4] wB fun | .L0 E0 E1 v5=>([1,1,1,0,1,4],⟨115,[(2,.bptr 3000 0),(3,.bptr 3001 0),(5,wI v5)],[(3000,.box (bx (Zj E0))),(3001,.box (bx (Zj E1)))]⟩,Zxi E0 E1 v5) | .L1 E0 E1 v6=>([1,1,1,1,0,1,4],⟨115,[(2,.bptr 3000 0),(3,.bptr 3001 0),(6,wI v6)],[(3000,.box (bx (Zj E0))),(3001,.box (bx (Zj E1)))]⟩,Zxj E0 E1 v6)
def Z31:=fun a0 a1=>Zld.run (Zze a0 a1)
theorem Zade(a0)(a1){r}(h:Z31 a0 a1=some r):Fn PR 39 [wA (Zj a0),wA (Zj a1)] (wB r):=Zld.fn h
inductive Zp4 where
 | L0 (E0:Zb) (E1:Zb) (v5:Int)
 | L1 (E0:Zb) (E1:Zb) (v6:Int)
def Zahs(E0:Zb)(E1:Zb)(v5:Int):LT Zp4 Bool:=
.len cS E0.Line.Subs<|.br (decide (v5 < (E0.Line.Subs.length:Int))) (.idx cS E0.Line.Subs v5 fun x3=>.idx cS E1.Line.Subs v5 fun x5=>.br (!(x3==x5)) (.rt false)<|.g0 (.L0 E0 E1 (IntKind.wrap .i64 (v5+1))))<|.g0 (.L1 E0 E1 0)
def Zaht(E0:Zb)(E1:Zb)(v6:Int):LT Zp4 Bool:=
.len Zj E0.Abilities<|.br (decide (v6 < (E0.Abilities.length:Int))) (.idx Zj E0.Abilities v6 fun x3=>.idx Zj E1.Abilities v6 fun x5=>.call (Zade x3 x5) fun x7=>.br (!x7) (.rt false)<|.g0 (.L1 E0 E1 (IntKind.wrap .i64 (v6+1))))<|.rt true
def Zam2(a0:Zb)(a1:Zb):LT Zp4 Bool:=
.lb 1002<|.lb 1003<|.cs (!(a0.Name==a1.Name)) (.k5 0<|.kg 0<|.b16 true<|.b8 true<|.b5 true<|.kb true<|.kn [0]<|.rt false)<|.k5 0<|.kg 0<|.cs (!(Zy (Zah a0.Cost) (Zah a1.Cost))) (.k5 1<|.kg 1<|.b16 true<|.b8 true<|.kn [0]<|.rt false)<|.k5 1<|.kg 1<|.cs (a0.Colors != a1.Colors) (.k5 2<|.kg 2<|.b16 true<|.b2 true<|.kn [0]<|.rt false)<|.k5 2<|.kg 2<|.cs (a0.Power != a1.Power) (.k5 3<|.kg 3<|.b8 true<|.b4 true<|.kn [0]<|.rt false)<|.k5 3<|.kg 3<|.cs (a0.Tough != a1.Tough) (.k5 4<|.kg 4<|.b5 true<|.kb true<|.kn [0]<|.rt false)<|.k5 4<|.kg 4<|.cs (a0.Keys != a1.Keys) (.k5 5<|.kg 5<|.kn [0]<|.rt false)<|.k5 5<|.kg 5<|.br (a0.Control != a1.Control) (.rt false)<|.cs (a0.Line.Super != a1.Line.Super) (.k8 7<|.b16 true<|.b2 true<|.kn [0]<|.rt false)<|.k8 7<|.cs (a0.Line.Types != a1.Line.Types) (.k8 8<|.k2 8<|.b8 true<|.kn [0]<|.rt false)<|.k4 8<|.len cS a0.Line.Subs<|.k4 8<|.len cS a1.Line.Subs<|.k2 8<|.cs ((a0.Line.Subs.length:Int) != (a1.Line.Subs.length:Int)) (.k8 9<|.kn [0]<|.rt false)<|.k3 9<|.len Zj a0.Abilities<|.k3 9<|.len Zj a1.Abilities<|.k2 9<|.br ((a0.Abilities.length:Int) != (a1.Abilities.length:Int)) (.rt false)<|.go (.L0 a0 a1 0) [.relab 1002 3000,.relab 1003 3001]
def Zzr:LF Zp4 Bool := .m0 21 [.t 4] wB fun | .L0 E0 E1 v5=>([1,1,1,0,1,4],⟨130,[(2,.bptr 3000 0),(3,.bptr 3001 0),(5,wI v5)],[(3000,.box (bx (Zi E0))),(3001,.box (bx (Zi E1)))]⟩,Zahs E0 E1 v5) | .L1 E0 E1 v6=>([1,1,1,1,0,1,4],⟨130,[(2,.bptr 3000 0),(3,.bptr 3001 0),(6,wI v6)],[(3000,.box (bx (Zi E0))),(3001,.box (bx (Zi E1)))]⟩,Zaht E0 E1 v6)
def Zax4:=fun a0 a1=>Zzr.run (Zam2 a0 a1)
theorem Za0t(a0)(a1){r}(h:Zax4 a0 a1=some r):Fn PR 21 [wA (Zi a0),wA (Zi a1)] (wB r):=Zzr.fn h
inductive Zt1 where
 | L0 (v0:List Zb) (v1:List Zb) (v5:Int)
def Zahu(v0:List Zb)(v1:List Zb)(v5:Int):LT Zt1 Bool:=
.len Zi v0<|.br (decide (v5 < (v0.length:Int))) (.idx Zi v0 v5 fun x3=>.idx Zi v1 v5 fun x5=>.call (Za0t x3 x5) fun x7=>.br (!x7) (.rt false)<|.g0 (.L0 v0 v1 (IntKind.wrap .i64 (v5+1))))<|.rt true
def Zam3(a0:List Zb)(a1:List Zb):LT Zt1 Bool:=
.len Zi a0<|.len Zi a1<|.br ((a0.length:Int) != (a1.length:Int)) (.rt false)<|.g0 (.L0 a0 a1 0)
def Z8i:LF Zt1 Bool := .m0 16 [.t 4] wB fun | .L0 v0 v1 v5=>([1,1,0,1,4],⟨27,[(0,wL Zi v0),(1,wL Zi v1),(5,wI v5)],[]⟩,Zahu v0 v1 v5)
def Zax5:=fun a0 a1=>Z8i.run (Zam3 a0 a1)
theorem Za0u(a0)(a1){r}(h:Zax5 a0 a1=some r):Fn PR 16 [wL Zi a0,wL Zi a1] (wB r):=Z8i.fn h
inductive Zl9 where
 | L0 (v0:List Int) (v1:Int) (v5:List Int) (v6:Bool) (v7:Int)
 | L1 (v0:List Int) (v1:Int) (v5:List Int) (v6:Bool) (v7:Int)
def Zj2(v0:List Int)(v1:Int)(v5:List Int)(v6:Bool)(v7:Int):LT Zl9 (List Int):=
.idx (cI .i64) v0 v7 fun x1=>.br (x1 != v1) (.ag (cI .i64) x1 0<|.dr [.lit]<|.apR (cI .i64) 8 v5 [x1] fun x4=>.g0 (.L0 v0 v1 x4 v6 (IntKind.wrap .i64 (v7+1))))<|.g0 (.L0 v0 v1 v5 v6 (IntKind.wrap .i64 (v7+1)))
def Z98(v0:List Int)(v1:Int)(v5:List Int)(v6:Bool)(v7:Int):LT Zl9 (List Int):=
.len (cI .i64) v0<|.br (decide (v7 < (v0.length:Int))) (.cs (!v6) (.k4 1<|.idx (cI .i64) v0 v7 fun x4=>.k3 1<|.br (decide (v1<=x4)) (.dr [.lit]<|.apR (cI .i64) 8 v5 [v1] fun x7=>.jn 1 (.L1 v0 v1 x7 true v7) [] (Zj2 v0 v1 x7 true v7))<|.j0 (.L1 v0 v1 v5 v6 v7) (Zj2 v0 v1 v5 v6 v7))<|.k5 1<|.k2 1<|.kn [0]<|.j0 (.L1 v0 v1 v5 v6 v7) (Zj2 v0 v1 v5 v6 v7))<|.br (!v6) (.dr [.lit]<|.apR (cI .i64) 8 v5 [v1] fun x11=>.ret x11 [.relab 20005 5000])<|.ret v5 [.relab 20005 5000]
def Zadf(a0:List Int)(a1:Int):LT Zl9 (List Int):=
.go (.L0 a0 a1 ([]:List Int) false 0) [.own 5 20005 1]
def Z1i:LF Zl9 (List Int) := .m 64 [.t 4] true (fun r=>[(5000,wR (cI .i64) 1 r)]) (fun r=>(wO (cI .i64) 5000 r)) fun | .L0 v0 v1 v5 v6 v7=>([1,1,1,0,1,4],⟨48,[(0,wL (cI .i64) v0),(1,wI v1),(5,wO (cI .i64) 20005 v5),(6,wB v6),(7,wI v7)],[(20005,wR (cI .i64) 1 v5)]⟩,Z98 v0 v1 v5 v6 v7) | .L1 v0 v1 v5 v6 v7=>([1,1,1,0,1,4,5,1,0,4,1],⟨48,[(0,wL (cI .i64) v0),(1,wI v1),(5,wO (cI .i64) 20005 v5),(6,wB v6),(7,wI v7)],[(20005,wR (cI .i64) 1 v5)]⟩,Zj2 v0 v1 v5 v6 v7)
def Zam4:=fun a0 a1=>Z1i.run (Zadf a0 a1)
theorem Zapc(a0)(a1){r}(h:Zam4 a0 a1=some r):FnG PR 64 [] [wL (cI .i64) a0,wI a1] [(5000,wR (cI .i64) 1 r)] (wO (cI .i64) 5000 r):=Z1i.fn h
inductive Z1j where
 | L0 (v0:List Int) (v3:List Int) (v4:Int)
def Zase(v0:List Int)(v3:List Int)(v4:Int):LT Z1j (List Int):=
.len (cI .i64) v0<|.br (decide (v4 < (v0.length:Int))) (.idx (cI .i64) v0 v4 fun x3=>.rl (cI .i64) v3<|.callS (Zapc v3 x3) 170000 (fun _=>⟨rfl,Zrv (cI .i64) (fun _=>rfl) _,trivial⟩) fun x5=>.go (.L0 v0 x5 (IntKind.wrap .i64 (v4+1))) [.pick [0,3,4] [175000],.relab 175000 20003])<|.ret v3 [.relab 20003 5000]
def Zax6(a0:List Int):LT Z1j (List Int):=
.go (.L0 a0 ([]:List Int) 0) [.own 3 20003 1]
def Zai3:LF Z1j (List Int) := .m 38 [.t 2] true (fun r=>[(5000,wR (cI .i64) 1 r)]) (fun r=>(wO (cI .i64) 5000 r)) fun | .L0 v0 v3 v4=>([1,1,0,1,4],⟨18,[(0,wL (cI .i64) v0),(3,wO (cI .i64) 20003 v3),(4,wI v4)],[(20003,wR (cI .i64) 1 v3)]⟩,Zase v0 v3 v4)
def Za71:=fun a0=>Zai3.run (Zax6 a0)
theorem Za3z(a0){r}(h:Za71 a0=some r):FnG PR 38 [] [wL (cI .i64) a0] [(5000,wR (cI .i64) 1 r)] (wO (cI .i64) 5000 r):=Zai3.fn h
inductive Zj3 where
 | L0 (E0:Zk) (v3:List Int) (v4:Int)
 | L1 (E0:Zk) (v3:List Int) (v5:Int)
def Z62(E0:Zk)(v3:List Int)(v4:Int):LT Zj3 Bool:=
.len Zn E0.Objects<|.br (decide (v4 < (E0.Objects.length:Int))) (.idx Zn E0.Objects v4 fun x3=>.br (x3.Zone==0) (.ag Zn x3 0<|.dr [.lit]<|.apR (cI .i64) 8 v3 [x3.Stamp] fun x6=>.g0 (.L0 E0 x6 (IntKind.wrap .i64 (v4+1))))<|.g0 (.L0 E0 v3 (IntKind.wrap .i64 (v4+1))))<|.g0 (.L1 E0 v3 0)
def Z63(E0:Zk)(v3:List Int)(v5:Int):LT Zj3 Bool:=
.len Zam E0.Conts<|.br (decide (v5 < (E0.Conts.length:Int))) (.idx Zam E0.Conts v5 fun x3=>.dr [.lit]<|.apR (cI .i64) 8 v3 [x3.Stamp] fun x5=>.g0 (.L1 E0 x5 (IntKind.wrap .i64 (v5+1))))<|.rl (cI .i64) v3<|.callS (Za3z v3) 480000 (fun _=>⟨rfl,Zrv (cI .i64) (fun _=>rfl) _,trivial⟩) fun x10=>.lenO (cI .i64) x10<|.lenO (cI .i64) v3<|.rt ((x10.length:Int)==(v3.length:Int))
def Z99(a0:Zk):LT Zj3 Bool:=
.lb 1001<|.lb 1006<|.go (.L0 a0 ([]:List Int) 0) [.relab 1001 3000,.relab 1006 20003]
def Zrm:LF Zj3 Bool := .m0 19 [.t 2] wB fun | .L0 E0 v3 v4=>([1,1,0,1,4],⟨52,[(1,.bptr 3000 0),(3,wO (cI .i64) 20003 v3),(4,wI v4)],[(3000,.box (bx (Z9 E0))),(20003,wR (cI .i64) 1 v3)]⟩,Z62 E0 v3 v4) | .L1 E0 v3 v5=>([1,1,1,0,1,4],⟨52,[(1,.bptr 3000 0),(3,wO (cI .i64) 20003 v3),(5,wI v5)],[(3000,.box (bx (Z9 E0))),(20003,wR (cI .i64) 1 v3)]⟩,Z63 E0 v3 v5)
def Zahv:=fun a0=>Zrm.run (Z99 a0)
theorem Zapd(a0){r}(h:Zahv a0=some r):Fn PR 19 [wA (Z9 a0)] (wB r):=Zrm.fn h
inductive Znu where
 | L0 (v0:List Zav) (v5:Int) (v6:Int) (v7:List Zav) (v8:Int)
def Z64(v0:List Zav)(v5:Int)(v6:Int)(v7:List Zav)(v8:Int):LT Znu (List Zav):=
.br (decide (v8 < v5)) (.ok (v5≠0)<|.idx Zam v0 (Int.tmod (IntKind.wrap .i64 (v6+v8)) v5) fun x6=>.dr [.lit]<|.apR Zam 80 v7 [x6] fun x8=>.g0 (.L0 v0 v5 v6 x8 (IntKind.wrap .i64 (v8+1))))<|.ret v7 [.relab 20007 5000]
def Zaaa(a0:List Zav)(a1:Int):LT Znu (List Zav):=
.len Zam a0<|.br ((a0.length:Int)==0) (.ret ([]:List Zav) [.own 4 5000 6])<|.ok ((a0.length:Int)≠0)<|.br (decide ((Int.tmod a1 (a0.length:Int)) < 0)) (.lb 1021<|.go (.L0 a0 (a0.length:Int) (IntKind.wrap .i64 ((Int.tmod a1 (a0.length:Int))+(a0.length:Int))) ([]:List Zav) 0) [.relab 1021 20007])<|.lb 1021<|.go (.L0 a0 (a0.length:Int) (Int.tmod a1 (a0.length:Int)) ([]:List Zav) 0) [.relab 1021 20007]
def Zx9:LF Znu (List Zav) := .m 20 [.t 4] true (fun r=>[(5000,wR Zam 6 r)]) (fun r=>(wO Zam 5000 r)) fun | .L0 v0 v5 v6 v7 v8=>([1,1,1,1,1,1,0,1,4],⟨39,[(0,wL Zam v0),(5,wI v5),(6,wI v6),(7,wO Zam 20007 v7),(8,wI v8)],[(20007,wR Zam 6 v7)]⟩,Z64 v0 v5 v6 v7 v8)
def Z49:=fun a0 a1=>Zx9.run (Zaaa a0 a1)
theorem Zam5(a0)(a1){r}(h:Z49 a0 a1=some r):FnG PR 20 [] [wL Zam a0,wI a1] [(5000,wR Zam 6 r)] (wO Zam 5000 r):=Zx9.fn h
theorem Zape(a0:List Zav)(a1:Int){r:List Zav}(h:Z49 a0 a1=some r):Fn PR 20 [wL Zam a0,wI a1] (wL Zam r):=
 FnG.frozen (C:=LT.RL Zam r/\True) (Zam5 a0 a1 h) ⟨rfl,trivial⟩ (by kernel_rfl)
def Z1k(a0:List Zm)(a1:Zk)(a2:Int):LT Empty Bool:=
.lb 1004<|.call (Zaxt a0 a1) fun x1=>.cs (!x1) (.k4 0<|.kn [0]<|.call (Z1d) fun x4=>.rt x4)<|.k2 0<|.call (Zapd a1) fun x6=>.k2 0<|.br (!x6) (.call (Z1d) fun x9=>.rt x9)<|.lb 1007<|.call (Zape a1.Conts a2) fun x11=>.call (Z1d) fun x13=>.cs x13 (.k3 2<|.call (Z1c a0 a1) fun x16=>.k3 2<|.call (Z1c a0 (⟨a1.Players,a1.Objects,a1.Battlefield,a1.Exile,a1.Stack,a1.Waiting,x11,a1.Turn,a1.Active,a1.Step,a1.Begun,a1.Priority,a1.Passes,a1.NextId,a1.NextStamp,a1.Seed,a1.Extra,a1.Over,a1.Winner⟩:Zk)) fun x18=>.kg 2<|.call (Za0u x16 x18) fun x20=>.kg 2<|.rt x20)<|.k8 2<|.rt false
def Z1l:LF Empty Bool := .z0 5 [.t 6] wB
def Z65:=fun a0 a1 a2=>Z1l.run (Z1k a0 a1 a2)
theorem Zae0(a0)(a1)(a2){r}(h:Z65 a0 a1 a2=some r):Fn PR 5 [wL Z6 a0,wA (Z9 a1),wI a2] (wB r):=Z1l.fn h
end
end Go.PW
