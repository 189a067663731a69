import Derived.Test.YtlighhlnmglpfaaGreatQD
set_option linter.all false
set_option maxRecDepth 100000
namespace Go.PW
open Go.RowKit
noncomputable section
def Zaep(a0:Int):LT Empty Bool:=
.cs (decide (a0≥97)) (.k3 0<|.rt (decide (a0≤122)))<|.k3 0<|.rt false
def Zayi:LF Empty Bool := .z 132 [.t 2] false (fun r=>[]) (fun r=>(wB r))
def Z7w(a0:Int):Option Bool:=Zayi.run (Zaep a0)
theorem Zaqm(a0:Int){r:Bool}(h:Z7w a0=some r):Fn PR 132 [(.t (.int .u8 a0))] (wB r):=Zayi.fn h
inductive Zkd where
 | L0 (v0:(List UInt8)) (v3:Int)
 | L1 (v0:(List UInt8)) (v3:Int)
def Zh2(v0:(List UInt8))(v3:Int):LT Zkd Bool:=
.cs (decide (v3 > 0)) (.k3 0<|.idxS v0 v3 fun x2=>.k2 0<|.cs ((UInt8.toNat x2:Int)==45) (.k4 1<|.idxS v0 (IntKind.wrap .i64 (v3 - 1)) fun x7=>.k2 1<|.br ((UInt8.toNat x7:Int)==45) (.rt false)<|.g0 (.L0 v0 (IntKind.wrap .i64 (v3+1))))<|.k5 1<|.kg 1<|.kn [0]<|.g0 (.L0 v0 (IntKind.wrap .i64 (v3+1))))<|.k5 0<|.b5 false<|.kb false<|.kn [0]<|.g0 (.L0 v0 (IntKind.wrap .i64 (v3+1)))
def Zmt(v0:(List UInt8))(v3:Int):LT Zkd Bool:=
.lenS v0<|.br (decide (v3 < (v0.length:Int))) (.idxS v0 v3 fun x3=>.call (Zaqm (UInt8.toNat x3:Int)) fun x5=>.cs (!x5) (.k3 1<|.idxS v0 v3 fun x8=>.k2 1<|.cs (decide ((UInt8.toNat x8:Int) < 48)) (.k4 2<|.kg 1<|.kg 2<|.kg 1<|.b3 true<|.idxS v0 v3 fun x11=>.b2 true<|.br ((UInt8.toNat x11:Int) != 45) (.rt false)<|.j0 (.L1 v0 v3) (Zh2 v0 v3))<|.k3 2<|.idxS v0 v3 fun x14=>.kg 2<|.kg 1<|.kg 2<|.kg 1<|.cs (decide ((UInt8.toNat x14:Int) > 57)) (.k3 3<|.idxS v0 v3 fun x17=>.k2 3<|.br ((UInt8.toNat x17:Int) != 45) (.rt false)<|.j0 (.L1 v0 v3) (Zh2 v0 v3))<|.k5 3<|.kn [0]<|.j0 (.L1 v0 v3) (Zh2 v0 v3))<|.k5 1<|.k2 1<|.b5 false<|.kn [0]<|.j0 (.L1 v0 v3) (Zh2 v0 v3))<|.rt true
def Zamw(a0:(List UInt8)):LT Zkd Bool:=
.lenS a0<|.cs (decide ((a0.length:Int) < 1)) (.k4 0<|.b8 true<|.b4 true<|.kn [0]<|.rt false)<|.k2 0<|.lenS a0<|.k2 0<|.cs (decide ((a0.length:Int) > 32)) (.k5 1<|.b5 true<|.b2 true<|.kn [0]<|.rt false)<|.k2 1<|.idxS a0 0 fun x4=>.kg 1<|.call (Zaqm (UInt8.toNat x4:Int)) fun x6=>.k2 1<|.cs (!x6) (.k5 2<|.k2 2<|.kn [0]<|.rt false)<|.k3 2<|.lenS a0<|.k2 2<|.idxS a0 (IntKind.wrap .i64 ((a0.length:Int) - 1)) fun x11=>.k2 2<|.br ((UInt8.toNat x11:Int)==45) (.rt false)<|.g0 (.L0 a0 0)
def Z05:LF Zkd Bool:=⟨83,[.t 2],false,fun | .L0 .. => [1,1,0,1,4] | .L1 .. => [1,1,0,1,4,5,1,0,4,1],
 fun | .L0 v0 v3=>⟨70,[(0,(wS v0)),(3,(wI v3))],[]⟩ | .L1 v0 v3=>⟨70,[(0,(wS v0)),(3,(wI v3))],[]⟩,
 fun r=>[],fun r=>(wB r),fun | .L0 v0 v3=>Zmt v0 v3 | .L1 v0 v3=>Zh2 v0 v3⟩
def Zaeq(a0:(List UInt8)):Option Bool:=Z05.run (Zamw a0)
theorem Zaer(a0:(List UInt8)){r:Bool}(h:Zaeq a0=some r):Fn PR 83 [(wS a0)] (wB r):=Z05.fn h
inductive Zke where
 | L0 (E0:Z1) (v3:Int)
def Zmu(E0:Z1)(v3:Int):LT Zke Bool:=
.br (decide (v3 < 5)) (.idA (Zn.int .i64) (A5.list E0.Color) v3 (bx (Zaz E0)) 2 7 fun x2=>.ldC (Zn.int .i64) 29 x2 0<|.cs (decide (x2 < 0)) (.k5 1<|.kg 1<|.kn [0]<|.rt false)<|.k3 1<|.idA (Zn.int .i64) (A5.list E0.Color) v3 (bx (Zaz E0)) 2 7 fun x5=>.kg 1<|.ldC (Zn.int .i64) 35 x5 1<|.k2 1<|.br (decide (x5 > 9)) (.rt false)<|.g0 (.L0 E0 (IntKind.wrap .i64 (v3+1))))<|.rt true
def Zamx(a0:Z1):LT Zke Bool:=
.lb 1001<|.cs (decide (a0.Generic < 0)) (.k4 0<|.b8 true<|.kn [0]<|.rt false)<|.k4 0<|.cs (decide (a0.Generic > 99)) (.k4 1<|.b4 true<|.kn [0]<|.rt false)<|.k4 1<|.cs (decide (a0.X < 0)) (.k4 2<|.kn [0]<|.rt false)<|.k4 2<|.br (decide (a0.X > 2)) (.rt false)<|.go (.L0 a0 0) [.relab 1001 30000000]
def Zie:LF Zke Bool:=⟨84,[.t 2],false,fun | .L0 .. => [1,1,0,1,4],
 fun | .L0 E0 v3=>⟨38,[(1,(.bptr 30000000 0)),(3,(wI v3))],[(30000000,.box (bx (Zaz E0)))]⟩,
 fun r=>[],fun r=>(wB r),fun | .L0 E0 v3=>Zmu E0 v3⟩
def Z7x(a0:Z1):Option Bool:=Zie.run (Zamx a0)
theorem Zwv(a0:Z1){r:Bool}(h:Z7x a0=some r):Fn PR 84 [(wA (Zaz a0))] (wB r):=Zie.fn h
def Z06:LT Empty (List (List UInt8)):=
.lb 1001<|.ret [([98,97,115,105,99]:List UInt8),([117,110,105,113,117,101]:List UInt8)] [.relab 1001 5000]
def Z07:LF Empty (List (List UInt8)) := .z 174 [.t 0] true (fun r=>[(5000,wR cS 1 r)]) (fun r=>(wO cS 5000 r))
def Zi0:Option (List (List UInt8)):=Z07.run (Z06)
theorem Zaes{r:(List (List UInt8))}(h:Zi0=some r):FnG PR 174 [] [] [(5000,wR cS 1 r)] (wO cS 5000 r):=Z07.fn h
theorem Zai1{r:(List (List UInt8))}(h:Zi0=some r):Fn PR 174 [] (wL cS r):=
 FnG.frozen (C:=LT.RL cS r∧True) (Zaes h) ⟨rfl,trivial⟩ (by kernel_rfl)
inductive Zo8 where
 | L0 (v0:(List (List UInt8))) (v1:(List UInt8)) (v5:Int)
def Zg3(v0:(List (List UInt8)))(v1:(List UInt8))(v5:Int):LT Zo8 Int:=
.len cS v0<|.br (decide (v5 < (v0.length:Int))) (.idx cS v0 v5 fun x3=>.br (x3==v1) (.rt v5)<|.g0 (.L0 v0 v1 (IntKind.wrap .i64 (v5+1))))<|.rt (-1)
def Z5t(a0:(List (List UInt8)))(a1:(List UInt8)):LT Zo8 Int:=
.g0 (.L0 a0 a1 0)
def Z5u:LF Zo8 Int:=⟨169,[.t 4],false,fun | .L0 .. => [1,0,1,4],
 fun | .L0 v0 v1 v5=>⟨19,[(0,(wL cS v0)),(1,(wS v1)),(5,(wI v5))],[]⟩,
 fun r=>[],fun r=>(wI r),fun | .L0 v0 v1 v5=>Zg3 v0 v1 v5⟩
def Zww(a0:(List (List UInt8)))(a1:(List UInt8)):Option Int:=Z5u.run (Z5t a0 a1)
theorem Z08(a0:(List (List UInt8)))(a1:(List UInt8)){r:Int}(h:Zww a0 a1=some r):Fn PR 169 [(wL cS a0),(wS a1)] (wI r):=Z5u.fn h
def Z4h:LT Empty (List (List UInt8)):=
.lb 1001<|.ret [([99,114,101,97,116,117,114,101]:List UInt8),([105,110,115,116,97,110,116]:List UInt8),([114,105,116,117,97,108]:List UInt8),([114,101,108,105,99]:List UInt8),([99,104,97,114,109]:List UInt8),([108,97,110,100]:List UInt8)] [.relab 1001 5000]
def Z4i:LF Empty (List (List UInt8)) := .z 175 [.t 0] true (fun r=>[(5000,wR cS 1 r)]) (fun r=>(wO cS 5000 r))
def Zkq:Option (List (List UInt8)):=Z4i.run (Z4h)
theorem Zai2{r:(List (List UInt8))}(h:Zkq=some r):FnG PR 175 [] [] [(5000,wR cS 1 r)] (wO cS 5000 r):=Z4i.fn h
theorem Z09{r:(List (List UInt8))}(h:Zkq=some r):Fn PR 175 [] (wL cS r):=
 FnG.frozen (C:=LT.RL cS r∧True) (Zai2 h) ⟨rfl,trivial⟩ (by kernel_rfl)
def Z5v(a0:(List UInt8)):LT Empty Bool:=
.call (Zaer a0) fun x1=>.cs x1 (.kg 0<|.call (Zai1) fun x4=>.k2 0<|.call (Z08 x4 a0) fun x6=>.k2 0<|.cs (decide (x6 < 0)) (.kg 1<|.call (Z09) fun x9=>.k2 1<|.call (Z08 x9 a0) fun x11=>.k2 1<|.rt (decide (x11 < 0)))<|.k5 1<|.rt false)<|.k5 0<|.b5 false<|.rt false
def Zajv:LF Empty Bool := .z 133 [.t 2] false (fun r=>[]) (fun r=>(wB r))
def Zwx(a0:(List UInt8)):Option Bool:=Zajv.run (Z5v a0)
theorem Zru(a0:(List UInt8)){r:Bool}(h:Zwx a0=some r):Fn PR 133 [(wS a0)] (wB r):=Zajv.fn h
inductive Zwy where
 | L0 (v0:Int) (v1:Int) (v5:Int)
def Z92(v0:Int)(v1:Int)(v5:Int):LT Zwy Bool:=
.br (decide (v5 < v1)) (.dc ((2:Int)≠0) rfl<|.g0 (.L0 (Zms .i64 v0 2) v1 (IntKind.wrap .i64 (v5+1))))<|.dc ((2:Int)≠0) rfl<|.rt ((Int.tmod v0 2)==1)
def Zayj(a0:Int)(a1:Int):LT Zwy Bool:=
.g0 (.L0 a0 a1 0)
def Zayk:LF Zwy Bool:=⟨134,[.t 4],false,fun | .L0 .. => [1,0,1,4],
 fun | .L0 v0 v1 v5=>⟨16,[(0,(wI v0)),(1,(wI v1)),(5,(wI v5))],[]⟩,
 fun r=>[],fun r=>(wB r),fun | .L0 v0 v1 v5=>Z92 v0 v1 v5⟩
def Zavi(a0:Int)(a1:Int):Option Bool:=Zayk.run (Zayj a0 a1)
theorem Z93(a0:Int)(a1:Int){r:Bool}(h:Zavi a0 a1=some r):Fn PR 134 [(wI a0),(wI a1)] (wB r):=Zayk.fn h
inductive Z1a where
 | L0 (E0:Z8) (v3:Int)
def Zaet(E0:Z8)(v3:Int):LT Z1a Bool:=
.len cS E0.Subs<|.br (decide (v3 < (E0.Subs.length:Int))) (.idx cS E0.Subs v3 fun x3=>.call (Zru x3) fun x5=>.cs (!x5) (.k5 1<|.kn [0]<|.rt false)<|.k3 1<|.cs (decide (v3 > 0)) (.k5 2<|.idx cS E0.Subs (IntKind.wrap .i64 (v3 - 1)) fun x11=>.k5 2<|.ag cS x3 0<|.k2 2<|.kg 1<|.kg 2<|.kg 1<|.br (!(Op.bytesLess x11 x3)) (.rt false)<|.g0 (.L0 E0 (IntKind.wrap .i64 (v3+1))))<|.k8 2<|.k4 2<|.kg 1<|.kg 2<|.kg 1<|.kn [0]<|.g0 (.L0 E0 (IntKind.wrap .i64 (v3+1))))<|.cs (E0.Types==2) (.k4 1<|.b5 true<|.b2 true<|.rt true)<|.k4 1<|.cs (E0.Types==4) (.k5 2<|.k2 2<|.rt true)<|.k3 2<|.call (Z93 E0.Types 1) fun x20=>.k2 2<|.cs (!x20) (.k3 3<|.call (Z93 E0.Types 2) fun x23=>.kg 3<|.kg 2<|.kg 3<|.kg 2<|.rt (!x23))<|.k4 3<|.kg 2<|.kg 3<|.kg 2<|.rt false
def Za3g(a0:Z8):LT Z1a Bool:=
.lb 1001<|.cs (decide (a0.Super < 0)) (.k4 0<|.b8 true<|.b5 true<|.kn [0]<|.rt false)<|.k4 0<|.cs (decide (a0.Super > 3)) (.k4 1<|.b8 true<|.kb true<|.kn [0]<|.rt false)<|.k4 1<|.cs (decide (a0.Types < 1)) (.k4 2<|.b5 true<|.kn [0]<|.rt false)<|.k4 2<|.cs (decide (a0.Types > 63)) (.k5 3<|.kn [0]<|.rt false)<|.k3 3<|.len cS a0.Subs<|.k2 3<|.br (decide ((a0.Subs.length:Int) > 4)) (.rt false)<|.go (.L0 a0 0) [.relab 1001 30000000]
def Za3h:LF Z1a Bool:=⟨85,[.t 2],false,fun | .L0 .. => [1,1,0,1,4],
 fun | .L0 E0 v3=>⟨80,[(1,(.bptr 30000000 0)),(3,(wI v3))],[(30000000,.box (bx (Zei E0)))]⟩,
 fun r=>[],fun r=>(wB r),fun | .L0 E0 v3=>Zaet E0 v3⟩
def Za3i(a0:Z8):Option Bool:=Za3h.run (Za3g a0)
theorem Zbdb(a0:Z8){r:Bool}(h:Za3i a0=some r):Fn PR 85 [(wA (Zei a0))] (wB r):=Za3h.fn h
def Za3j(a0:Int):LT Empty Bool:=
.cs (decide (a0≥0)) (.k3 0<|.rt (decide (a0≤131071)))<|.k3 0<|.rt false
def Za3k:LF Empty Bool := .z 86 [.t 2] false (fun r=>[]) (fun r=>(wB r))
def Za3l(a0:Int):Option Bool:=Za3k.run (Za3j a0)
theorem Zayl(a0:Int){r:Bool}(h:Za3l a0=some r):Fn PR 86 [(wI a0)] (wB r):=Za3k.fn h
def Z7y(a0:Zq):LT Empty Bool:=
.lb 1001<|.rt ((Zbm .and .i64 a0.Line.Types 1) != 0)
def Z7z:LF Empty Bool := .z 87 [.t 2] false (fun r=>[]) (fun r=>(wB r))
def Z1b(a0:Zq):Option Bool:=Z7z.run (Z7y a0)
theorem Zaqn(a0:Zq){r:Bool}(h:Z1b a0=some r):Fn PR 87 [(wA (Zad a0))] (wB r):=Z7z.fn h
inductive Zo9 where
 | L0 (v0:Int) (v1:Int) (v7:Int)
def Zg4(v0:Int)(v1:Int)(v7:Int):LT Zo9 Bool:=
.br (decide (v7 < 6)) (.dc ((2:Int)≠0) rfl<|.cs ((Int.tmod v0 2)==1) (.k2 1<|.dc ((2:Int)≠0) rfl<|.k2 1<|.br ((Int.tmod v1 2)==1) (.rt false)<|.dc ((2:Int)≠0) rfl<|.dc ((2:Int)≠0) rfl<|.g0 (.L0 (Zms .i64 v0 2) (Zms .i64 v1 2) (IntKind.wrap .i64 (v7+1))))<|.k4 1<|.kn [0]<|.dc ((2:Int)≠0) rfl<|.dc ((2:Int)≠0) rfl<|.g0 (.L0 (Zms .i64 v0 2) (Zms .i64 v1 2) (IntKind.wrap .i64 (v7+1))))<|.rt true
def Z5w(a0:Int)(a1:Int)(a2:Int):LT Zo9 Bool:=
.cs (decide (a0 < 0)) (.k4 0<|.b5 true<|.b2 true<|.kn [0]<|.rt false)<|.k4 0<|.cs (decide (a0 > a2)) (.k3 1<|.b4 true<|.kn [0]<|.rt false)<|.k3 1<|.cs (decide (a1 < 0)) (.k4 2<|.kn [0]<|.rt false)<|.k4 2<|.br (decide (a1 > a2)) (.rt false)<|.g0 (.L0 a0 a1 0)
def Zpa:LF Zo9 Bool:=⟨167,[.t 6],false,fun | .L0 .. => [1,1,0,1,4],
 fun | .L0 v0 v1 v7=>⟨40,[(0,(wI v0)),(1,(wI v1)),(7,(wI v7))],[]⟩,
 fun r=>[],fun r=>(wB r),fun | .L0 v0 v1 v7=>Zg4 v0 v1 v7⟩
def Zwz(a0:Int)(a1:Int)(a2:Int):Option Bool:=Zpa.run (Z5w a0 a1 a2)
theorem Zaeu(a0:Int)(a1:Int)(a2:Int){r:Bool}(h:Zwz a0 a1 a2=some r):Fn PR 167 [(wI a0),(wI a1),(wI a2)] (wB r):=Zpa.fn h
def Z5x(a0:Zd):LT Empty Bool:=
.lb 1001<|.cs (decide (a0.Kind < 0)) (.k4 0<|.b8 true<|.kn [0]<|.rt false)<|.k4 0<|.cs (decide (a0.Kind > 3)) (.k4 1<|.b4 true<|.kn [0]<|.rt false)<|.k4 1<|.cs (decide (a0.N < 0)) (.k4 2<|.kn [0]<|.rt false)<|.k4 2<|.br (decide (a0.N > 1000000)) (.rt false)<|.cs (a0.Kind != 0) (.k4 4<|.rt true)<|.k4 4<|.rt (a0.N==0)
def Zajw:LF Empty Bool := .z 168 [.t 2] false (fun r=>[]) (fun r=>(wB r))
def Zw0(a0:Zd):Option Bool:=Zajw.run (Z5x a0)
theorem Z1c(a0:Zd){r:Bool}(h:Zw0 a0=some r):Fn PR 168 [(wA (Zcr a0))] (wB r):=Zajw.fn h
inductive Z1d where
 | L0 (E0:Ze)
def Zmv(E0:Ze):LT Z1d Bool:=
.call (Z1c E0.Power) fun x1=>.cs x1 (.k3 0<|.call (Z1c E0.Tough) fun x4=>.kg 0<|.cs x4 (.k3 1<|.call (Z1c E0.Value) fun x7=>.kg 1<|.rt x7)<|.k4 1<|.rt false)<|.k4 0<|.b4 false<|.rt false
def Zamy(a0:Ze):LT Z1d Bool:=
.lb 1001<|.cs (decide (a0.Zone < 0)) (.k4 0<|.b16 true<|.b8 true<|.kn [0]<|.rt false)<|.k4 0<|.cs (decide (a0.Zone > 5)) (.k4 1<|.b16 true<|.b4 true<|.kn [0]<|.rt false)<|.k4 1<|.cs (decide (a0.Who < 0)) (.k4 2<|.b16 true<|.kn [0]<|.rt false)<|.k4 2<|.cs (decide (a0.Who > 2)) (.k4 3<|.b8 true<|.b4 true<|.kn [0]<|.rt false)<|.k4 3<|.cs (decide (a0.Self < 0)) (.k4 4<|.b8 true<|.kn [0]<|.rt false)<|.k4 4<|.cs (decide (a0.Self > 2)) (.k4 5<|.b4 true<|.kn [0]<|.rt false)<|.k4 5<|.cs (decide (a0.Tap < 0)) (.k4 6<|.kn [0]<|.rt false)<|.k4 6<|.br (decide (a0.Tap > 2)) (.rt false)<|.call (Zaeu a0.Types a0.NotTypes 63) fun x9=>.cs (!x9) (.k5 8<|.k2 8<|.kn [0]<|.rt false)<|.k5 8<|.call (Zaeu a0.Colors a0.NotColors 31) fun x12=>.k2 8<|.br (!x12) (.rt false)<|.cs (!(a0.Sub==([]:List UInt8))) (.k3 10<|.call (Zru a0.Sub) fun x16=>.k2 10<|.cs (!x16) (.k4 11<|.b4 true<|.kn [0]<|.rt false)<|.k4 11<|.cs (decide (a0.Keys < 0)) (.k4 12<|.kn [0]<|.rt false)<|.k4 12<|.br (decide (a0.Keys > 131071)) (.rt false)<|.jn 0 (.L0 a0) [.relab 1001 30000000] (Zmv a0))<|.k5 10<|.b4 false<|.cs (decide (a0.Keys < 0)) (.k4 11<|.kn [0]<|.rt false)<|.k4 11<|.br (decide (a0.Keys > 131071)) (.rt false)<|.jn 0 (.L0 a0) [.relab 1001 30000000] (Zmv a0)
def Zamz:LF Z1d Bool:=⟨117,[.t 2],false,fun | .L0 .. => [1,1,1,1],
 fun | .L0 E0=>⟨87,[(1,(.bptr 30000000 0))],[(30000000,.box (bx (Zy E0)))]⟩,
 fun r=>[],fun r=>(wB r),fun | .L0 E0=>Zmv E0⟩
def Z70(a0:Ze):Option Bool:=Zamz.run (Zamy a0)
theorem Zfc(a0:Ze){r:Bool}(h:Z70 a0=some r):Fn PR 117 [(wA (Zy a0))] (wB r):=Zamz.fn h
inductive Zn5 where
 | L0 (E0:Zz) (E1:Zz) (v7:Int) (v8:Bool)
 | L1 (E0:Zz) (E1:Zz) (v7:Int) (v16:Bool)
def Zpb(E0:Zz)(E1:Zz)(v7:Int)(v16:Bool):LT Zn5 Zz:=
.br v16 (.rt (⟨E0.Kind,E0.N,E0.M,([]:List UInt8),E0.Filter⟩:Zz))<|.br (v7==11) (.rt (⟨E0.Kind,E0.N,E0.M,E0.Sub,(⟨0,0,0,0,0,0,0,([]:List UInt8),0,0,(⟨0,0⟩:Zd),(⟨0,0⟩:Zd),(⟨0,0⟩:Zd)⟩:Ze)⟩:Zz))<|.br (v7==12) (.kn [3]<|.rt (⟨E0.Kind,0,0,E0.Sub,E0.Filter⟩:Zz))<|.br (v7==13) (.rt (⟨E0.Kind,0,0,E0.Sub,E0.Filter⟩:Zz))<|.rt E0
def Zfq(E0:Zz)(E1:Zz)(v7:Int)(v8:Bool):LT Zn5 Zz:=
.br v8 (.rt (⟨E0.Kind,0,E0.M,E0.Sub,E0.Filter⟩:Zz))<|.br (v7==4) (.j0 (.L1 E0 E1 v7 (v7==4)) (Zpb E0 E1 v7 (v7==4)))<|.j0 (.L1 E0 E1 v7 (v7==5)) (Zpb E0 E1 v7 (v7==5))
def Zaqo(a0:Zz):LT Zn5 Zz:=
.lb 1001<|.lb 1002<|.br (a0.Kind==2) (.jn 0 (.L0 (⟨0,a0.N,a0.M,a0.Sub,a0.Filter⟩:Zz) (⟨0,0,0,([]:List UInt8),(⟨0,0,0,0,0,0,0,([]:List UInt8),0,0,(⟨0,0⟩:Zd),(⟨0,0⟩:Zd),(⟨0,0⟩:Zd)⟩:Ze)⟩:Zz) a0.Kind (a0.Kind==2)) [.relab 1001 30000000,.relab 1002 30000001] (Zfq (⟨0,a0.N,a0.M,a0.Sub,a0.Filter⟩:Zz) (⟨0,0,0,([]:List UInt8),(⟨0,0,0,0,0,0,0,([]:List UInt8),0,0,(⟨0,0⟩:Zd),(⟨0,0⟩:Zd),(⟨0,0⟩:Zd)⟩:Ze)⟩:Zz) a0.Kind (a0.Kind==2)))<|.br (a0.Kind==3) (.jn 0 (.L0 (⟨0,a0.N,a0.M,a0.Sub,a0.Filter⟩:Zz) (⟨0,0,0,([]:List UInt8),(⟨0,0,0,0,0,0,0,([]:List UInt8),0,0,(⟨0,0⟩:Zd),(⟨0,0⟩:Zd),(⟨0,0⟩:Zd)⟩:Ze)⟩:Zz) a0.Kind (a0.Kind==3)) [.relab 1001 30000000,.relab 1002 30000001] (Zfq (⟨0,a0.N,a0.M,a0.Sub,a0.Filter⟩:Zz) (⟨0,0,0,([]:List UInt8),(⟨0,0,0,0,0,0,0,([]:List UInt8),0,0,(⟨0,0⟩:Zd),(⟨0,0⟩:Zd),(⟨0,0⟩:Zd)⟩:Ze)⟩:Zz) a0.Kind (a0.Kind==3)))<|.br (a0.Kind==6) (.jn 0 (.L0 (⟨0,a0.N,a0.M,a0.Sub,a0.Filter⟩:Zz) (⟨0,0,0,([]:List UInt8),(⟨0,0,0,0,0,0,0,([]:List UInt8),0,0,(⟨0,0⟩:Zd),(⟨0,0⟩:Zd),(⟨0,0⟩:Zd)⟩:Ze)⟩:Zz) a0.Kind (a0.Kind==6)) [.relab 1001 30000000,.relab 1002 30000001] (Zfq (⟨0,a0.N,a0.M,a0.Sub,a0.Filter⟩:Zz) (⟨0,0,0,([]:List UInt8),(⟨0,0,0,0,0,0,0,([]:List UInt8),0,0,(⟨0,0⟩:Zd),(⟨0,0⟩:Zd),(⟨0,0⟩:Zd)⟩:Ze)⟩:Zz) a0.Kind (a0.Kind==6)))<|.br (a0.Kind==7) (.jn 0 (.L0 (⟨0,a0.N,a0.M,a0.Sub,a0.Filter⟩:Zz) (⟨0,0,0,([]:List UInt8),(⟨0,0,0,0,0,0,0,([]:List UInt8),0,0,(⟨0,0⟩:Zd),(⟨0,0⟩:Zd),(⟨0,0⟩:Zd)⟩:Ze)⟩:Zz) a0.Kind (a0.Kind==7)) [.relab 1001 30000000,.relab 1002 30000001] (Zfq (⟨0,a0.N,a0.M,a0.Sub,a0.Filter⟩:Zz) (⟨0,0,0,([]:List UInt8),(⟨0,0,0,0,0,0,0,([]:List UInt8),0,0,(⟨0,0⟩:Zd),(⟨0,0⟩:Zd),(⟨0,0⟩:Zd)⟩:Ze)⟩:Zz) a0.Kind (a0.Kind==7)))<|.br (a0.Kind==8) (.jn 0 (.L0 (⟨0,a0.N,a0.M,a0.Sub,a0.Filter⟩:Zz) (⟨0,0,0,([]:List UInt8),(⟨0,0,0,0,0,0,0,([]:List UInt8),0,0,(⟨0,0⟩:Zd),(⟨0,0⟩:Zd),(⟨0,0⟩:Zd)⟩:Ze)⟩:Zz) a0.Kind (a0.Kind==8)) [.relab 1001 30000000,.relab 1002 30000001] (Zfq (⟨0,a0.N,a0.M,a0.Sub,a0.Filter⟩:Zz) (⟨0,0,0,([]:List UInt8),(⟨0,0,0,0,0,0,0,([]:List UInt8),0,0,(⟨0,0⟩:Zd),(⟨0,0⟩:Zd),(⟨0,0⟩:Zd)⟩:Ze)⟩:Zz) a0.Kind (a0.Kind==8)))<|.jn 0 (.L0 (⟨0,a0.N,a0.M,a0.Sub,a0.Filter⟩:Zz) (⟨0,0,0,([]:List UInt8),(⟨0,0,0,0,0,0,0,([]:List UInt8),0,0,(⟨0,0⟩:Zd),(⟨0,0⟩:Zd),(⟨0,0⟩:Zd)⟩:Ze)⟩:Zz) a0.Kind (a0.Kind==9)) [.relab 1001 30000000,.relab 1002 30000001] (Zfq (⟨0,a0.N,a0.M,a0.Sub,a0.Filter⟩:Zz) (⟨0,0,0,([]:List UInt8),(⟨0,0,0,0,0,0,0,([]:List UInt8),0,0,(⟨0,0⟩:Zd),(⟨0,0⟩:Zd),(⟨0,0⟩:Zd)⟩:Ze)⟩:Zz) a0.Kind (a0.Kind==9))
def Zaqp:LF Zn5 Zz:=⟨188,[.c 2 185 true 20],false,fun | .L0 .. => [1,1,1,0,1,4,1] | .L1 .. => [1,1,1,0,1,4,1,3,1],
 fun | .L0 E0 E1 v7 v8=>⟨30,[(1,(.bptr 30000000 0)),(2,(.bptr 30000001 0)),(7,(wI v7)),(8,(wB v8))],[(30000000,.box (bx (Zab E0))),(30000001,.box (bx (Zab E1)))]⟩ | .L1 E0 E1 v7 v16=>⟨30,[(1,(.bptr 30000000 0)),(2,(.bptr 30000001 0)),(7,(wI v7)),(16,(wB v16))],[(30000000,.box (bx (Zab E0))),(30000001,.box (bx (Zab E1)))]⟩,
 fun r=>[],fun r=>(wA (Zab r)),fun | .L0 E0 E1 v7 v8=>Zfq E0 E1 v7 v8 | .L1 E0 E1 v7 v16=>Zpb E0 E1 v7 v16⟩
def Zam0(a0:Zz):Option Zz:=Zaqp.run (Zaqo a0)
theorem Za7o(a0:Zz){r:Zz}(h:Zam0 a0=some r):Fn PR 188 [(wA (Zab a0))] (wA (Zab r)):=Zaqp.fn h
def Zajx(a0:Int):LT Empty Bool:=
.cs (decide (a0≥1)) (.k3 0<|.cs (decide (a0≤63)) (.k4 1<|.rt ((Zbm .and .i64 a0 6)==0))<|.k4 1<|.rt false)<|.k3 0<|.b4 false<|.rt false
def Zajy:LF Empty Bool := .z 189 [.t 2] false (fun r=>[]) (fun r=>(wB r))
def Zaev(a0:Int):Option Bool:=Zajy.run (Zajx a0)
theorem Za3m(a0:Int){r:Bool}(h:Zaev a0=some r):Fn PR 189 [(wI a0)] (wB r):=Zajy.fn h
inductive Zqp where
 | L0 (E0:Zz) (v18:Int) (v19:Bool)
 | L1 (E0:Zz) (v18:Int) (v25:Bool)
 | L2 (E0:Zz) (v18:Int) (v51:Bool)
def Zw1(E0:Zz)(v18:Int)(v51:Bool):LT Zqp Bool:=
.br v51 (.cs (decide (E0.N≥1)) (.k4 1<|.rt (decide (E0.N≤131071)))<|.k4 1<|.rt false)<|.br (v18==11) (.call (Zfc E0.Filter) fun x4=>.rt x4)<|.br (v18==12) (.cs (decide (E0.N≥0)) (.k4 3<|.cs (decide (E0.N≤99)) (.k4 4<|.cs (decide (E0.M≥0)) (.k4 5<|.rt (decide (E0.M≤99)))<|.k4 5<|.rt false)<|.k4 4<|.b4 false<|.rt false)<|.k4 3<|.b8 false<|.rt false)<|.br (v18==13) (.cs (decide (E0.N≥(-99))) (.k4 4<|.cs (decide (E0.N≤99)) (.k4 5<|.cs (decide (E0.M≥(-99))) (.k4 6<|.rt (decide (E0.M≤99)))<|.k4 6<|.rt false)<|.k4 5<|.b4 false<|.rt false)<|.k4 4<|.b8 false<|.rt false)<|.rt true
def Zw2(E0:Zz)(v18:Int)(v25:Bool):LT Zqp Bool:=
.br v25 (.call (Zru E0.Sub) fun x2=>.rt x2)<|.br (v18==6) (.cs (decide (E0.N≥0)) (.k4 2<|.rt (decide (E0.N≤31)))<|.k4 2<|.rt false)<|.br (v18==7) (.cs (decide (E0.N≥1)) (.k4 3<|.rt (decide (E0.N≤31)))<|.k4 3<|.rt false)<|.br (v18==8) (.j0 (.L2 E0 v18 (v18==8)) (Zw1 E0 v18 (v18==8)))<|.j0 (.L2 E0 v18 (v18==9)) (Zw1 E0 v18 (v18==9))
def Zw3(E0:Zz)(v18:Int)(v19:Bool):LT Zqp Bool:=
.br v19 (.call (Za3m E0.N) fun x2=>.rt x2)<|.br (v18==4) (.j0 (.L1 E0 v18 (v18==4)) (Zw2 E0 v18 (v18==4)))<|.j0 (.L1 E0 v18 (v18==5)) (Zw2 E0 v18 (v18==5))
def Za3n(a0:Zz):LT Zqp Bool:=
.lb 1001<|.cs (decide (a0.Kind < 1)) (.k4 0<|.b5 true<|.kn [0]<|.rt false)<|.k4 0<|.cs (decide (a0.Kind > 14)) (.k5 1<|.kn [0]<|.rt false)<|.k2 1<|.call (Za7o a0) fun x3=>.k3 1<|.br (!(Zar (Zab x3) (Zab (⟨0,0,0,([]:List UInt8),(⟨0,0,0,0,0,0,0,([]:List UInt8),0,0,(⟨0,0⟩:Zd),(⟨0,0⟩:Zd),(⟨0,0⟩:Zd)⟩:Ze)⟩:Zz)))) (.rt false)<|.br (a0.Kind==2) (.jn 0 (.L0 a0 a0.Kind (a0.Kind==2)) [.relab 1001 30000000] (Zw3 a0 a0.Kind (a0.Kind==2)))<|.jn 0 (.L0 a0 a0.Kind (a0.Kind==3)) [.relab 1001 30000000] (Zw3 a0 a0.Kind (a0.Kind==3))
def Za3o:LF Zqp Bool:=⟨148,[.t 2],false,fun | .L0 .. => [1,1,0,1,4,1] | .L1 .. => [1,1,0,1,4,1,3,1] | .L2 .. => [1,1,0,1,4,1,3,1,3,1,3,1,3,1],
 fun | .L0 E0 v18 v19=>⟨107,[(1,(.bptr 30000000 0)),(18,(wI v18)),(19,(wB v19))],[(30000000,.box (bx (Zab E0)))]⟩ | .L1 E0 v18 v25=>⟨107,[(1,(.bptr 30000000 0)),(18,(wI v18)),(25,(wB v25))],[(30000000,.box (bx (Zab E0)))]⟩ | .L2 E0 v18 v51=>⟨107,[(1,(.bptr 30000000 0)),(18,(wI v18)),(51,(wB v51))],[(30000000,.box (bx (Zab E0)))]⟩,
 fun r=>[],fun r=>(wB r),fun | .L0 E0 v18 v19=>Zw3 E0 v18 v19 | .L1 E0 v18 v25=>Zw2 E0 v18 v25 | .L2 E0 v18 v51=>Zw1 E0 v18 v51⟩
def Za3p(a0:Zz):Option Bool:=Za3o.run (Za3n a0)
theorem Zaew(a0:Zz){r:Bool}(h:Za3p a0=some r):Fn PR 148 [(wA (Zab a0))] (wB r):=Za3o.fn h
inductive Zmw where
 | L0 (v0:(List (List UInt8))) (v1:Int) (v2:(List UInt8)) (v7:(List UInt8)) (v8:Int)
def Zx6(v0:(List (List UInt8)))(v1:Int)(v2:(List UInt8))(v7:(List UInt8))(v8:Int):LT Zmw (List UInt8):=
.len cS v0<|.br (decide (v8 < (v0.length:Int))) (.call (Z93 v1 v8) fun x3=>.br x3 (.br (!(v7==([]:List UInt8))) (.ok (v7.length+v2.length≤9223372036854775807)<|.idx cS v0 v8 fun x10=>.ok ((v7++v2).length+x10.length≤9223372036854775807)<|.g0 (.L0 v0 v1 v2 ((v7++v2)++x10) (IntKind.wrap .i64 (v8+1))))<|.idx cS v0 v8 fun x17=>.ok (v7.length+x17.length≤9223372036854775807)<|.g0 (.L0 v0 v1 v2 (v7++x17) (IntKind.wrap .i64 (v8+1))))<|.g0 (.L0 v0 v1 v2 v7 (IntKind.wrap .i64 (v8+1))))<|.rt v7
def Zaex(a0:(List (List UInt8)))(a1:Int)(a2:(List UInt8)):LT Zmw (List UInt8):=
.g0 (.L0 a0 a1 a2 ([]:List UInt8) 0)
def Zaey:LF Zmw (List UInt8):=⟨219,[.t 6],false,fun | .L0 .. => [1,1,0,1,4],
 fun | .L0 v0 v1 v2 v7 v8=>⟨30,[(0,(wL cS v0)),(1,(wI v1)),(2,(wS v2)),(7,(wS v7)),(8,(wI v8))],[]⟩,
 fun r=>[],fun r=>(wS r),fun | .L0 v0 v1 v2 v7 v8=>Zx6 v0 v1 v2 v7 v8⟩
def Z94(a0:(List (List UInt8)))(a1:Int)(a2:(List UInt8)):Option (List UInt8):=Zaey.run (Zaex a0 a1 a2)
theorem Zazu(a0:(List (List UInt8)))(a1:Int)(a2:(List UInt8)){r:(List UInt8)}(h:Z94 a0 a1 a2=some r):Fn PR 219 [(wL cS a0),(wI a1),(wS a2)] (wS r):=Zaey.fn h
def Z4j(a0:Int):LT Empty (List UInt8):=
.cs (decide (a0 < 1)) (.k3 0<|.kn [0]<|.rt ([]:List UInt8))<|.k3 0<|.br (decide (a0 > 63)) (.rt ([]:List UInt8))<|.call (Z09) fun x3=>.call (Zazu x3 a0 ([43]:List UInt8)) fun x5=>.rt x5
def Z4k:LF Empty (List UInt8) := .z 190 [.t 2] false (fun r=>[]) (fun r=>(wS r))
def Zx7(a0:Int):Option (List UInt8):=Z4k.run (Z4j a0)
theorem Zqq(a0:Int){r:(List UInt8)}(h:Zx7 a0=some r):Fn PR 190 [(wI a0)] (wS r):=Z4k.fn h
def Za3q(a0:Int):LT Empty Bool:=
.cs (decide (a0≥0)) (.k3 0<|.rt (decide (a0≤31)))<|.k3 0<|.rt false
def Za3r:LF Empty Bool := .z 220 [.t 2] false (fun r=>[]) (fun r=>(wB r))
def Za3s(a0:Int):Option Bool:=Za3r.run (Za3q a0)
theorem Zbdc(a0:Int){r:Bool}(h:Za3s a0=some r):Fn PR 220 [(wI a0)] (wB r):=Za3r.fn h
def Zaqq(a0:Int):LT Empty (List UInt8):=
.br (a0==0) (.rt ([97,109,98,101,114]:List UInt8))<|.br (a0==1) (.rt ([99,111,98,97,108,116]:List UInt8))<|.br (a0==2) (.rt ([106,101,116]:List UInt8))<|.br (a0==3) (.rt ([114,117,98,121]:List UInt8))<|.br (a0==4) (.rt ([101,109,101,114,97,108,100]:List UInt8))<|.rt ([]:List UInt8)
def Zaqr:LF Empty (List UInt8) := .z 221 [.t 2] false (fun r=>[]) (fun r=>(wS r))
def Zam1(a0:Int):Option (List UInt8):=Zaqr.run (Zaqq a0)
theorem Zv4(a0:Int){r:(List UInt8)}(h:Zam1 a0=some r):Fn PR 221 [(wI a0)] (wS r):=Zaqr.fn h
inductive Zrv where
 | L0 (v0:Int) (v3:(List UInt8)) (v4:Int)
def Z5y(v0:Int)(v3:(List UInt8))(v4:Int):LT Zrv (List UInt8):=
.br (decide (v4 < 5)) (.ok (¬ v4 < 0)<|.ok ((shlI .i64 1 v4)≠0)<|.dc ((2:Int)≠0) rfl<|.br ((Int.tmod (Zms .i64 v0 (shlI .i64 1 v4)) 2)==1) (.br (!(v3==([]:List UInt8))) (.ok (v3.length+([43]:List UInt8).length≤9223372036854775807)<|.call (Zv4 v4) fun x10=>.ok ((v3++([43]:List UInt8)).length+x10.length≤9223372036854775807)<|.g0 (.L0 v0 ((v3++([43]:List UInt8))++x10) (IntKind.wrap .i64 (v4+1))))<|.call (Zv4 v4) fun x17=>.ok (v3.length+x17.length≤9223372036854775807)<|.g0 (.L0 v0 (v3++x17) (IntKind.wrap .i64 (v4+1))))<|.g0 (.L0 v0 v3 (IntKind.wrap .i64 (v4+1))))<|.rt v3
def Zaqs(a0:Int):LT Zrv (List UInt8):=
.call (Zbdc a0) fun x1=>.br (!x1) (.rt ([]:List UInt8))<|.br (a0==0) (.rt ([110,111,110,101]:List UInt8))<|.g0 (.L0 a0 ([]:List UInt8) 0)
def Zaqt:LF Zrv (List UInt8):=⟨191,[.t 2],false,fun | .L0 .. => [1,1,1,1,0,1,4],
 fun | .L0 v0 v3 v4=>⟨29,[(0,(wI v0)),(3,(wS v3)),(4,(wI v4))],[]⟩,
 fun r=>[],fun r=>(wS r),fun | .L0 v0 v3 v4=>Z5y v0 v3 v4⟩
def Zam2(a0:Int):Option (List UInt8):=Zaqt.run (Zaqs a0)
theorem Zajz(a0:Int){r:(List UInt8)}(h:Zam2 a0=some r):Fn PR 191 [(wI a0)] (wS r):=Zaqt.fn h
def Zaj0:LT Empty (List (List UInt8)):=
.lb 1001<|.ret [([102,108,121,105,110,103]:List UInt8),([114,101,97,99,104]:List UInt8),([104,97,115,116,101]:List UInt8),([118,105,103,105,108,97,110,116]:List UInt8),([116,114,97,109,112,108,101]:List UInt8),([102,105,114,115,116,45,115,116,114,105,107,101]:List UInt8),([100,111,117,98,108,101,45,115,116,114,105,107,101]:List UInt8),([100,101,97,100,108,121]:List UInt8),([108,105,102,101,108,105,110,107]:List UInt8),([109,101,110,97,99,101]:List UInt8),([100,101,102,101,110,100,101,114]:List UInt8),([119,97,114,100,101,100]:List UInt8),([115,116,117,114,100,121]:List UInt8),([101,108,117,115,105,118,101]:List UInt8),([110,111,45,97,116,116,97,99,107]:List UInt8),([110,111,45,98,108,111,99,107]:List UInt8),([109,117,115,116,45,97,116,116,97,99,107]:List UInt8)] [.relab 1001 5000]
def Zaj1:LF Empty (List (List UInt8)) := .z 238 [.t 0] true (fun r=>[(5000,wR cS 1 r)]) (fun r=>(wO cS 5000 r))
def Z4l:Option (List (List UInt8)):=Zaj1.run (Zaj0)
theorem Zazv{r:(List (List UInt8))}(h:Z4l=some r):FnG PR 238 [] [] [(5000,wR cS 1 r)] (wO cS 5000 r):=Zaj1.fn h
theorem Za3t{r:(List (List UInt8))}(h:Z4l=some r):Fn PR 238 [] (wL cS r):=
 FnG.frozen (C:=LT.RL cS r∧True) (Zazv h) ⟨rfl,trivial⟩ (by kernel_rfl)
def Zaqu(a0:Int):LT Empty (List UInt8):=
.cs (decide (a0 < 0)) (.k3 0<|.kn [0]<|.rt ([]:List UInt8))<|.k3 0<|.br (decide (a0 > 16)) (.rt ([]:List UInt8))<|.call (Za3t) fun x3=>.idx cS x3 a0 fun x5=>.rt x5
def Zaqv:LF Empty (List UInt8) := .z 222 [.t 2] false (fun r=>[]) (fun r=>(wS r))
def Zam3(a0:Int):Option (List UInt8):=Zaqv.run (Zaqu a0)
theorem Z5z(a0:Int){r:(List UInt8)}(h:Zam3 a0=some r):Fn PR 222 [(wI a0)] (wS r):=Zaqv.fn h
inductive Zrw where
 | L0 (v0:Int) (v3:(List UInt8)) (v4:Int)
def Z50(v0:Int)(v3:(List UInt8))(v4:Int):LT Zrw (List UInt8):=
.br (decide (v4 < 17)) (.dc ((2:Int)≠0) rfl<|.br ((Int.tmod v0 2)==1) (.br (!(v3==([]:List UInt8))) (.ok (v3.length+([43]:List UInt8).length≤9223372036854775807)<|.call (Z5z v4) fun x6=>.ok ((v3++([43]:List UInt8)).length+x6.length≤9223372036854775807)<|.dc ((2:Int)≠0) rfl<|.g0 (.L0 (Zms .i64 v0 2) ((v3++([43]:List UInt8))++x6) (IntKind.wrap .i64 (v4+1))))<|.call (Z5z v4) fun x13=>.ok (v3.length+x13.length≤9223372036854775807)<|.dc ((2:Int)≠0) rfl<|.g0 (.L0 (Zms .i64 v0 2) (v3++x13) (IntKind.wrap .i64 (v4+1))))<|.dc ((2:Int)≠0) rfl<|.g0 (.L0 (Zms .i64 v0 2) v3 (IntKind.wrap .i64 (v4+1))))<|.br (v3==([]:List UInt8)) (.rt ([110,111,110,101]:List UInt8))<|.rt v3
def Zaqw(a0:Int):LT Zrw (List UInt8):=
.call (Zayl a0) fun x1=>.br (!x1) (.rt ([]:List UInt8))<|.g0 (.L0 a0 ([]:List UInt8) 0)
def Zaqx:LF Zrw (List UInt8):=⟨192,[.t 2],false,fun | .L0 .. => [1,1,1,0,1,4],
 fun | .L0 v0 v3 v4=>⟨28,[(0,(wI v0)),(3,(wS v3)),(4,(wI v4))],[]⟩,
 fun r=>[],fun r=>(wS r),fun | .L0 v0 v3 v4=>Z50 v0 v3 v4⟩
def Zam4(a0:Int):Option (List UInt8):=Zaqx.run (Zaqw a0)
theorem Zaj2(a0:Int){r:(List UInt8)}(h:Zam4 a0=some r):Fn PR 192 [(wI a0)] (wS r):=Zaqx.fn h
def Z4m:LT Empty (List (List UInt8)):=
.lb 1001<|.ret [([]:List UInt8),([105,110,45,104,97,110,100]:List UInt8),([105,110,45,108,105,98,114,97,114,121]:List UInt8),([105,110,45,103,114,97,118,101,121,97,114,100]:List UInt8),([105,110,45,101,120,105,108,101]:List UInt8),([111,110,45,115,116,97,99,107]:List UInt8)] [.relab 1001 5000]
def Z4n:LF Empty (List (List UInt8)) := .z 223 [.t 0] true (fun r=>[(5000,wR cS 1 r)]) (fun r=>(wO cS 5000 r))
def Zp7:Option (List (List UInt8)):=Z4n.run (Z4m)
theorem Zai3{r:(List (List UInt8))}(h:Zp7=some r):FnG PR 223 [] [] [(5000,wR cS 1 r)] (wO cS 5000 r):=Z4n.fn h
theorem Zam5{r:(List (List UInt8))}(h:Zp7=some r):Fn PR 223 [] (wL cS r):=
 FnG.frozen (C:=LT.RL cS r∧True) (Zai3 h) ⟨rfl,trivial⟩ (by kernel_rfl)
def Z71:LT Empty (List (List UInt8)):=
.lb 1001<|.ret [([]:List UInt8),([121,111,117,114,115]:List UInt8),([116,104,101,105,114,115]:List UInt8)] [.relab 1001 5000]
def Z72:LF Empty (List (List UInt8)) := .z 224 [.t 0] true (fun r=>[(5000,wR cS 1 r)]) (fun r=>(wO cS 5000 r))
def Zrx:Option (List (List UInt8)):=Z72.run (Z71)
theorem Zam6{r:(List (List UInt8))}(h:Zrx=some r):FnG PR 224 [] [] [(5000,wR cS 1 r)] (wO cS 5000 r):=Z72.fn h
theorem Zaqy{r:(List (List UInt8))}(h:Zrx=some r):Fn PR 224 [] (wL cS r):=
 FnG.frozen (C:=LT.RL cS r∧True) (Zam6 h) ⟨rfl,trivial⟩ (by kernel_rfl)
def Z4o:LT Empty (List (List UInt8)):=
.lb 1001<|.ret [([]:List UInt8),([115,101,108,102]:List UInt8),([111,116,104,101,114]:List UInt8)] [.relab 1001 5000]
def Z4p:LF Empty (List (List UInt8)) := .z 225 [.t 0] true (fun r=>[(5000,wR cS 1 r)]) (fun r=>(wO cS 5000 r))
def Zp8:Option (List (List UInt8)):=Z4p.run (Z4o)
theorem Zai4{r:(List (List UInt8))}(h:Zp8=some r):FnG PR 225 [] [] [(5000,wR cS 1 r)] (wO cS 5000 r):=Z4p.fn h
theorem Zam7{r:(List (List UInt8))}(h:Zp8=some r):Fn PR 225 [] (wL cS r):=
 FnG.frozen (C:=LT.RL cS r∧True) (Zai4 h) ⟨rfl,trivial⟩ (by kernel_rfl)
def Z73:LT Empty (List (List UInt8)):=
.lb 1001<|.ret [([]:List UInt8),([116,97,112,112,101,100]:List UInt8),([117,110,116,97,112,112,101,100]:List UInt8)] [.relab 1001 5000]
def Z74:LF Empty (List (List UInt8)) := .z 226 [.t 0] true (fun r=>[(5000,wR cS 1 r)]) (fun r=>(wO cS 5000 r))
def Zry:Option (List (List UInt8)):=Z74.run (Z73)
theorem Zam8{r:(List (List UInt8))}(h:Zry=some r):FnG PR 226 [] [] [(5000,wR cS 1 r)] (wO cS 5000 r):=Z74.fn h
theorem Zaqz{r:(List (List UInt8))}(h:Zry=some r):Fn PR 226 [] (wL cS r):=
 FnG.frozen (C:=LT.RL cS r∧True) (Zam8 h) ⟨rfl,trivial⟩ (by kernel_rfl)
inductive Zw4 where
 | L0 (v0:Int) (v1:Int) (v5:Int)
def Z95(v0:Int)(v1:Int)(v5:Int):LT Zw4 Bool:=
.br (decide (v5 < v1)) (.dc ((2:Int)≠0) rfl<|.g0 (.L0 (Zms .i64 v0 2) v1 (IntKind.wrap .i64 (v5+1))))<|.dc ((2:Int)≠0) rfl<|.rt ((Int.tmod v0 2)==1)
def Zaym(a0:Int)(a1:Int):LT Zw4 Bool:=
.g0 (.L0 a0 a1 0)
def Zayn:LF Zw4 Bool:=⟨228,[.t 4],false,fun | .L0 .. => [1,0,1,4],
 fun | .L0 v0 v1 v5=>⟨16,[(0,(wI v0)),(1,(wI v1)),(5,(wI v5))],[]⟩,
 fun r=>[],fun r=>(wB r),fun | .L0 v0 v1 v5=>Z95 v0 v1 v5⟩
def Zavj(a0:Int)(a1:Int):Option Bool:=Zayn.run (Zaym a0 a1)
theorem Zrz(a0:Int)(a1:Int){r:Bool}(h:Zavj a0 a1=some r):Fn PR 228 [(wI a0),(wI a1)] (wB r):=Zayn.fn h
inductive Zi1 where
 | L0 (v0:Int) (v3:Int) (v4:Int)
def Zr0(v0:Int)(v3:Int)(v4:Int):LT Zi1 (List UInt8):=
.br (decide (v4 < v0)) (.g0 (.L0 v0 (IntKind.wrap .i64 (v3*2)) (IntKind.wrap .i64 (v4+1))))<|.call (Zqq v3) fun x6=>.rt x6
def Z75(a0:Int):LT Zi1 (List UInt8):=
.g0 (.L0 a0 1 0)
def Z76:LF Zi1 (List UInt8):=⟨229,[.t 2],false,fun | .L0 .. => [1,1,0,1,4],
 fun | .L0 v0 v3 v4=>⟨14,[(0,(wI v0)),(3,(wI v3)),(4,(wI v4))],[]⟩,
 fun r=>[],fun r=>(wS r),fun | .L0 v0 v3 v4=>Zr0 v0 v3 v4⟩
def Z1e(a0:Int):Option (List UInt8):=Z76.run (Z75 a0)
theorem Z4q(a0:Int){r:(List UInt8)}(h:Z1e a0=some r):Fn PR 229 [(wI a0)] (wS r):=Z76.fn h
def Zaj3:LT Empty (List (List UInt8)):=
.lb 1001<|.ret [([]:List UInt8),([62,61]:List UInt8),([60,61]:List UInt8),([61]:List UInt8)] [.relab 1001 5000]
def Zaj4:LF Empty (List (List UInt8)) := .z 239 [.t 0] true (fun r=>[(5000,wR cS 1 r)]) (fun r=>(wO cS 5000 r))
def Z4r:Option (List (List UInt8)):=Zaj4.run (Zaj3)
theorem Zazw{r:(List (List UInt8))}(h:Z4r=some r):FnG PR 239 [] [] [(5000,wR cS 1 r)] (wO cS 5000 r):=Zaj4.fn h
theorem Za3u{r:(List (List UInt8))}(h:Z4r=some r):Fn PR 239 [] (wL cS r):=
 FnG.frozen (C:=LT.RL cS r∧True) (Zazw h) ⟨rfl,trivial⟩ (by kernel_rfl)
inductive Z1f where
 | L0 (v0:Int) (v3:(List UInt8))
def Zf6(v0:Int)(v3:(List UInt8)):LT Z1f (List UInt8):=
.br (decide (v0 > 0)) (.dc ((10:Int)≠0) rfl<|.dr [.lit]<|.str [IntKind.wrap .u8 (IntKind.wrap .u64 (48+(Int.tmod v0 10)))] fun x5=>.ok (x5.length+v3.length≤9223372036854775807)<|.dc ((10:Int)≠0) rfl<|.g0 (.L0 (Zms .u64 v0 10) (x5++v3)))<|.rt v3
def Zaez(a0:Int):LT Z1f (List UInt8):=
.dc ((10:Int)≠0) rfl<|.dr [.lit]<|.str [IntKind.wrap .u8 (IntKind.wrap .u64 (48+(Int.tmod a0 10)))] fun x4=>.dc ((10:Int)≠0) rfl<|.g0 (.L0 (Zms .u64 a0 10) x4)
def Zr1:LF Z1f (List UInt8):=⟨232,[.t 2],false,fun | .L0 .. => [1,1,0,1,4],
 fun | .L0 v0 v3=>⟨25,[(0,(.t (.int .u64 v0))),(3,(wS v3))],[]⟩,
 fun r=>[],fun r=>(wS r),fun | .L0 v0 v3=>Zf6 v0 v3⟩
def Z96(a0:Int):Option (List UInt8):=Zr1.run (Zaez a0)
theorem Zabo(a0:Int){r:(List UInt8)}(h:Z96 a0=some r):Fn PR 232 [(.t (.int .u64 a0))] (wS r):=Zr1.fn h
def Zaq0(a0:Int):LT Empty (List UInt8):=
.br (decide (a0 < 0)) (.call (Zabo (IntKind.wrap .u64 (0 - (IntKind.wrap .u64 a0)))) fun x4=>.ok (([45]:List UInt8).length+x4.length≤9223372036854775807)<|.rt (([45]:List UInt8)++x4))<|.call (Zabo (IntKind.wrap .u64 a0)) fun x10=>.rt x10
def Zaq1:LF Empty (List UInt8) := .z 194 [.t 2] false (fun r=>[]) (fun r=>(wS r))
def Zam9(a0:Int):Option (List UInt8):=Zaq1.run (Zaq0 a0)
theorem Zlw(a0:Int){r:(List UInt8)}(h:Zam9 a0=some r):Fn PR 194 [(wI a0)] (wS r):=Zaq1.fn h
def Z4s(a0:(List UInt8))(a1:Zd):LT Empty (List UInt8):=
.lb 1003<|.br (a1.Kind==0) (.rt ([]:List UInt8))<|.call (Za3u) fun x2=>.idx cS x2 a1.Kind fun x4=>.ok (a0.length+x4.length≤9223372036854775807)<|.call (Zlw a1.N) fun x10=>.ok ((a0++x4).length+x10.length≤9223372036854775807)<|.rt ((a0++x4)++x10)
def Z4t:LF Empty (List UInt8) := .z 230 [.t 4] false (fun r=>[]) (fun r=>(wS r))
def Zx8(a0:(List UInt8))(a1:Zd):Option (List UInt8):=Z4t.run (Z4s a0 a1)
theorem Zqr(a0:(List UInt8))(a1:Zd){r:(List UInt8)}(h:Zx8 a0 a1=some r):Fn PR 230 [(wS a0),(wA (Zcr a1))] (wS r):=Z4t.fn h
inductive Zr2 where
 | L0 (v0:(List (List UInt8))) (v1:(List UInt8)) (v5:(List UInt8)) (v6:Int)
def Z51(v0:(List (List UInt8)))(v1:(List UInt8))(v5:(List UInt8))(v6:Int):LT Zr2 (List UInt8):=
.len cS v0<|.br (decide (v6 < (v0.length:Int))) (.br (decide (v6 > 0)) (.ok (v5.length+v1.length≤9223372036854775807)<|.idx cS v0 v6 fun x7=>.ok ((v5++v1).length+x7.length≤9223372036854775807)<|.g0 (.L0 v0 v1 ((v5++v1)++x7) (IntKind.wrap .i64 (v6+1))))<|.idx cS v0 v6 fun x14=>.ok (v5.length+x14.length≤9223372036854775807)<|.g0 (.L0 v0 v1 (v5++x14) (IntKind.wrap .i64 (v6+1))))<|.rt v5
def Zaq2(a0:(List (List UInt8)))(a1:(List UInt8)):LT Zr2 (List UInt8):=
.g0 (.L0 a0 a1 ([]:List UInt8) 0)
def Zaq3:LF Zr2 (List UInt8):=⟨231,[.t 4],false,fun | .L0 .. => [1,1,0,1,4],
 fun | .L0 v0 v1 v5 v6=>⟨25,[(0,(wL cS v0)),(1,(wS v1)),(5,(wS v5)),(6,(wI v6))],[]⟩,
 fun r=>[],fun r=>(wS r),fun | .L0 v0 v1 v5 v6=>Z51 v0 v1 v5 v6⟩
def Zana(a0:(List (List UInt8)))(a1:(List UInt8)):Option (List UInt8):=Zaq3.run (Zaq2 a0 a1)
theorem Za7p(a0:(List (List UInt8)))(a1:(List UInt8)){r:(List UInt8)}(h:Zana a0 a1=some r):Fn PR 231 [(wL cS a0),(wS a1)] (wS r):=Zaq3.fn h
def Z77(b0:(List (List UInt8)))(a1:(List UInt8)):LT Empty (List (List UInt8)):=
.br (a1==([]:List UInt8)) (.ret b0 [.relab 0 5000])<|.dr [.lit]<|.apR cS 16 b0 [a1] fun x3=>.ret x3 [.relab 0 5000]
def Z78:LF Empty (List (List UInt8)) := .z 227 [.t 4] true (fun r=>[(5000,wR cS 1 r)]) (fun r=>(wO cS 5000 r))
def Z1g(b0:(List (List UInt8)))(a1:(List UInt8)):Option (List (List UInt8)):=Z78.run (Z77 b0 a1)
theorem Zep(b0:(List (List UInt8)))(a1:(List UInt8)){r:(List (List UInt8))}(h:Z1g b0 a1=some r):FnG PR 227 [(0,wR cS 1 b0)] [(wO cS 0 b0),(wS a1)] [(5000,wR cS 1 r)] (wO cS 5000 r):=Z78.fn h
inductive Zfr where
 | L0 (E0:Ze) (v6:(List (List UInt8))) (v7:(List (List UInt8))) (v8:Int)
 | L1 (E0:Ze) (v6:(List (List UInt8))) (v7:(List (List UInt8))) (v9:Int)
 | L2 (E0:Ze) (v6:(List (List UInt8))) (v7:(List (List UInt8))) (v10:Int)
 | L3 (E0:Ze) (v6:(List (List UInt8))) (v7:(List (List UInt8))) (v11:Int)
 | L4 (E0:Ze) (v6:(List (List UInt8))) (v7:(List (List UInt8)))
 | L5 (E0:Ze) (v6:(List (List UInt8))) (v7:(List (List UInt8))) (v12:Int)
def Zpc(E0:Ze)(v6:(List (List UInt8)))(v7:(List (List UInt8))):LT Zfr (List UInt8):=
.g0 (.L5 E0 v6 v7 0)
def Z52(E0:Ze)(v6:(List (List UInt8)))(v7:(List (List UInt8)))(v8:Int):LT Zfr (List UInt8):=
.br (decide (v8 < 6)) (.call (Zrz E0.Types v8) fun x2=>.br x2 (.call (Z4q v8) fun x5=>.dr [.lit]<|.apR cS 16 v7 [x5] fun x8=>.g0 (.L0 E0 v6 x8 (IntKind.wrap .i64 (v8+1))))<|.g0 (.L0 E0 v6 v7 (IntKind.wrap .i64 (v8+1))))<|.g0 (.L1 E0 v6 v7 0)
def Z53(E0:Ze)(v6:(List (List UInt8)))(v7:(List (List UInt8)))(v9:Int):LT Zfr (List UInt8):=
.br (decide (v9 < 6)) (.call (Zrz E0.NotTypes v9) fun x2=>.br x2 (.call (Z4q v9) fun x5=>.ok (([110,111,110,45]:List UInt8).length+x5.length≤9223372036854775807)<|.dr [.lit]<|.apR cS 16 v7 [(([110,111,110,45]:List UInt8)++x5)] fun x11=>.g0 (.L1 E0 v6 x11 (IntKind.wrap .i64 (v9+1))))<|.g0 (.L1 E0 v6 v7 (IntKind.wrap .i64 (v9+1))))<|.g0 (.L2 E0 v6 v7 0)
def Z54(E0:Ze)(v6:(List (List UInt8)))(v7:(List (List UInt8)))(v10:Int):LT Zfr (List UInt8):=
.br (decide (v10 < 5)) (.call (Zrz E0.Colors v10) fun x2=>.br x2 (.call (Zv4 v10) fun x5=>.dr [.lit]<|.apR cS 16 v7 [x5] fun x8=>.g0 (.L2 E0 v6 x8 (IntKind.wrap .i64 (v10+1))))<|.g0 (.L2 E0 v6 v7 (IntKind.wrap .i64 (v10+1))))<|.g0 (.L3 E0 v6 v7 0)
def Z55(E0:Ze)(v6:(List (List UInt8)))(v7:(List (List UInt8)))(v11:Int):LT Zfr (List UInt8):=
.br (decide (v11 < 5)) (.call (Zrz E0.NotColors v11) fun x2=>.br x2 (.call (Zv4 v11) fun x5=>.ok (([110,111,110,45]:List UInt8).length+x5.length≤9223372036854775807)<|.dr [.lit]<|.apR cS 16 v7 [(([110,111,110,45]:List UInt8)++x5)] fun x11=>.g0 (.L3 E0 v6 x11 (IntKind.wrap .i64 (v11+1))))<|.g0 (.L3 E0 v6 v7 (IntKind.wrap .i64 (v11+1))))<|.br (!(E0.Sub==([]:List UInt8))) (.ok (([115,117,98,58]:List UInt8).length+E0.Sub.length≤9223372036854775807)<|.dr [.lit]<|.apR cS 16 v7 [(([115,117,98,58]:List UInt8)++E0.Sub)] fun x23=>.j0 (.L4 E0 v6 x23) (Zpc E0 v6 x23))<|.j0 (.L4 E0 v6 v7) (Zpc E0 v6 v7)
def Z56(E0:Ze)(v6:(List (List UInt8)))(v7:(List (List UInt8)))(v12:Int):LT Zfr (List UInt8):=
.br (decide (v12 < 17)) (.call (Zrz E0.Keys v12) fun x2=>.br x2 (.call (Z5z v12) fun x5=>.ok (([119,105,116,104,58]:List UInt8).length+x5.length≤9223372036854775807)<|.dr [.lit]<|.apR cS 16 v7 [(([119,105,116,104,58]:List UInt8)++x5)] fun x11=>.g0 (.L5 E0 v6 x11 (IntKind.wrap .i64 (v12+1))))<|.g0 (.L5 E0 v6 v7 (IntKind.wrap .i64 (v12+1))))<|.idx cS v6 E0.Tap fun x18=>.callU (Zep v7 x18) [20000007] 1250000 fun x20=>.call (Zqr ([112,111,119,101,114]:List UInt8) E0.Power) fun x22=>.callU (Zep x20 x22) [1255000] 1300000 fun x24=>.call (Zqr ([116,111,117,103,104]:List UInt8) E0.Tough) fun x26=>.callU (Zep x24 x26) [1305000] 1350000 fun x28=>.call (Zqr ([118,97,108,117,101]:List UInt8) E0.Value) fun x30=>.callU (Zep x28 x30) [1355000] 1400000 fun x32=>.lenO cS x32<|.br ((x32.length:Int)==0) (.rt ([97,110,121]:List UInt8))<|.rl cS x32<|.call (Za7p x32 ([32]:List UInt8)) fun x36=>.rt x36
def Zaq4(a0:Ze):LT Zfr (List UInt8):=
.lb 1001<|.call (Zfc a0) fun x1=>.br (!x1) (.rt ([]:List UInt8))<|.call (Zam5) fun x4=>.call (Zaqy) fun x6=>.call (Zam7) fun x8=>.call (Zaqz) fun x10=>.idx cS x4 a0.Zone fun x12=>.dr [.ahead 26,.own 20 70000260 1,.stop]<|.callU (Zep ([]:(List (List UInt8))) x12) [70000260] 270000 fun x14=>.idx cS x6 a0.Who fun x16=>.callU (Zep x14 x16) [275000] 340000 fun x18=>.idx cS x8 a0.Self fun x20=>.callU (Zep x18 x20) [345000] 410000 fun x22=>.go (.L0 a0 x10 x22 0) [.relab 1001 30000000,.relab 415000 20000007]
def Zaq5:LF Zfr (List UInt8):=⟨193,[.t 2],false,fun | .L0 .. => [1,1,1,1,1,1,1,1,1,1,0,1,4] | .L1 .. => [1,1,1,1,1,1,1,1,1,1,1,0,1,4] | .L2 .. => [1,1,1,1,1,1,1,1,1,1,1,1,0,1,4] | .L3 .. => [1,1,1,1,1,1,1,1,1,1,1,1,1,0,1,4] | .L4 .. => [1,1,1,1,1,1,1,1,1,1,1,1,1,1,1] | .L5 .. => [1,1,1,1,1,1,1,1,1,1,1,1,1,1,1,0,1,4],
 fun | .L0 E0 v6 v7 v8=>⟨145,[(1,(.bptr 30000000 0)),(6,(wL cS v6)),(7,(wO cS 20000007 v7)),(8,(wI v8))],[(30000000,.box (bx (Zy E0))),(20000007,wR cS 1 v7)]⟩ | .L1 E0 v6 v7 v9=>⟨145,[(1,(.bptr 30000000 0)),(6,(wL cS v6)),(7,(wO cS 20000007 v7)),(9,(wI v9))],[(30000000,.box (bx (Zy E0))),(20000007,wR cS 1 v7)]⟩ | .L2 E0 v6 v7 v10=>⟨145,[(1,(.bptr 30000000 0)),(6,(wL cS v6)),(7,(wO cS 20000007 v7)),(10,(wI v10))],[(30000000,.box (bx (Zy E0))),(20000007,wR cS 1 v7)]⟩ | .L3 E0 v6 v7 v11=>⟨145,[(1,(.bptr 30000000 0)),(6,(wL cS v6)),(7,(wO cS 20000007 v7)),(11,(wI v11))],[(30000000,.box (bx (Zy E0))),(20000007,wR cS 1 v7)]⟩ | .L4 E0 v6 v7=>⟨145,[(1,(.bptr 30000000 0)),(6,(wL cS v6)),(7,(wO cS 20000007 v7))],[(30000000,.box (bx (Zy E0))),(20000007,wR cS 1 v7)]⟩ | .L5 E0 v6 v7 v12=>⟨145,[(1,(.bptr 30000000 0)),(6,(wL cS v6)),(7,(wO cS 20000007 v7)),(12,(wI v12))],[(30000000,.box (bx (Zy E0))),(20000007,wR cS 1 v7)]⟩,
 fun r=>[],fun r=>(wS r),fun | .L0 E0 v6 v7 v8=>Z52 E0 v6 v7 v8 | .L1 E0 v6 v7 v9=>Z53 E0 v6 v7 v9 | .L2 E0 v6 v7 v10=>Z54 E0 v6 v7 v10 | .L3 E0 v6 v7 v11=>Z55 E0 v6 v7 v11 | .L4 E0 v6 v7=>Zpc E0 v6 v7 | .L5 E0 v6 v7 v12=>Z56 E0 v6 v7 v12⟩
def Zanb(a0:Ze):Option (List UInt8):=Zaq5.run (Zaq4 a0)
theorem Za7q(a0:Ze){r:(List UInt8)}(h:Zanb a0=some r):Fn PR 193 [(wA (Zy a0))] (wS r):=Zaq5.fn h
def Zaq6(a0:Zz):LT Empty (List UInt8):=
.lb 1001<|.call (Zaew a0) fun x1=>.br (!x1) (.rt ([]:List UInt8))<|.br (a0.Kind==1) (.rt ([99,111,110,116,114,111,108]:List UInt8))<|.br (a0.Kind==2) (.call (Zqq a0.N) fun x6=>.ok (([116,121,112,101,115,61]:List UInt8).length+x6.length≤9223372036854775807)<|.rt (([116,121,112,101,115,61]:List UInt8)++x6))<|.br (a0.Kind==3) (.call (Zqq a0.N) fun x12=>.ok (([116,121,112,101,115,43,61]:List UInt8).length+x12.length≤9223372036854775807)<|.rt (([116,121,112,101,115,43,61]:List UInt8)++x12))<|.br (a0.Kind==4) (.ok (([115,117,98,61]:List UInt8).length+a0.Sub.length≤9223372036854775807)<|.rt (([115,117,98,61]:List UInt8)++a0.Sub))<|.br (a0.Kind==5) (.ok (([115,117,98,43,61]:List UInt8).length+a0.Sub.length≤9223372036854775807)<|.rt (([115,117,98,43,61]:List UInt8)++a0.Sub))<|.br (a0.Kind==6) (.call (Zajz a0.N) fun x26=>.ok (([99,111,108,111,114,115,61]:List UInt8).length+x26.length≤9223372036854775807)<|.rt (([99,111,108,111,114,115,61]:List UInt8)++x26))<|.br (a0.Kind==7) (.call (Zajz a0.N) fun x32=>.ok (([99,111,108,111,114,115,43,61]:List UInt8).length+x32.length≤9223372036854775807)<|.rt (([99,111,108,111,114,115,43,61]:List UInt8)++x32))<|.br (a0.Kind==8) (.call (Zaj2 a0.N) fun x38=>.ok (([107,101,121,115,43,61]:List UInt8).length+x38.length≤9223372036854775807)<|.rt (([107,101,121,115,43,61]:List UInt8)++x38))<|.br (a0.Kind==9) (.call (Zaj2 a0.N) fun x44=>.ok (([107,101,121,115,45,61]:List UInt8).length+x44.length≤9223372036854775807)<|.rt (([107,101,121,115,45,61]:List UInt8)++x44))<|.br (a0.Kind==10) (.rt ([98,108,97,110,107]:List UInt8))<|.br (a0.Kind==11) (.call (Za7q a0.Filter) fun x51=>.ok (([112,116,61,99,111,117,110,116,40]:List UInt8).length+x51.length≤9223372036854775807)<|.ok ((([112,116,61,99,111,117,110,116,40]:List UInt8)++x51).length+([41]:List UInt8).length≤9223372036854775807)<|.rt ((([112,116,61,99,111,117,110,116,40]:List UInt8)++x51)++([41]:List UInt8)))<|.br (a0.Kind==12) (.call (Zlw a0.N) fun x58=>.ok (([112,116,61]:List UInt8).length+x58.length≤9223372036854775807)<|.ok ((([112,116,61]:List UInt8)++x58).length+([47]:List UInt8).length≤9223372036854775807)<|.call (Zlw a0.M) fun x65=>.ok (((([112,116,61]:List UInt8)++x58)++([47]:List UInt8)).length+x65.length≤9223372036854775807)<|.rt (((([112,116,61]:List UInt8)++x58)++([47]:List UInt8))++x65))<|.br (a0.Kind==13) (.call (Zlw a0.N) fun x71=>.ok (([112,116,43,61]:List UInt8).length+x71.length≤9223372036854775807)<|.ok ((([112,116,43,61]:List UInt8)++x71).length+([47]:List UInt8).length≤9223372036854775807)<|.call (Zlw a0.M) fun x78=>.ok (((([112,116,43,61]:List UInt8)++x71)++([47]:List UInt8)).length+x78.length≤9223372036854775807)<|.rt (((([112,116,43,61]:List UInt8)++x71)++([47]:List UInt8))++x78))<|.rt ([112,116,45,115,119,105,116,99,104]:List UInt8)
def Zaq7:LF Empty (List UInt8) := .z 149 [.t 2] false (fun r=>[]) (fun r=>(wS r))
def Zanc(a0:Zz):Option (List UInt8):=Zaq7.run (Zaq6 a0)
theorem Zaj5(a0:Zz){r:(List UInt8)}(h:Zanc a0=some r):Fn PR 149 [(wA (Zab a0))] (wS r):=Zaq7.fn h
inductive Zi2 where
 | L0 (v0:(List Zz)) (v3:(List UInt8)) (v4:Int)
def Zr3(v0:(List Zz))(v3:(List UInt8))(v4:Int):LT Zi2 (List UInt8):=
.len Zab v0<|.br (decide (v4 < (v0.length:Int))) (.idx Zab v0 v4 fun x3=>.call (Zaew x3) fun x5=>.br (!x5) (.rt ([]:List UInt8))<|.br (decide (v4 > 0)) (.ok (v3.length+([44,32]:List UInt8).length≤9223372036854775807)<|.ag Zab x3 0<|.call (Zaj5 x3) fun x11=>.ok ((v3++([44,32]:List UInt8)).length+x11.length≤9223372036854775807)<|.g0 (.L0 v0 ((v3++([44,32]:List UInt8))++x11) (IntKind.wrap .i64 (v4+1))))<|.ag Zab x3 0<|.call (Zaj5 x3) fun x17=>.ok (v3.length+x17.length≤9223372036854775807)<|.g0 (.L0 v0 (v3++x17) (IntKind.wrap .i64 (v4+1))))<|.rt v3
def Z79(a0:(List Zz)):LT Zi2 (List UInt8):=
.len Zab a0<|.cs ((a0.length:Int)==0) (.k4 0<|.kn [0]<|.rt ([]:List UInt8))<|.k2 0<|.len Zab a0<|.k2 0<|.br (decide ((a0.length:Int) > 6)) (.rt ([]:List UInt8))<|.g0 (.L0 a0 ([]:List UInt8) 0)
def Z8a:LF Zi2 (List UInt8):=⟨97,[.t 2],false,fun | .L0 .. => [1,1,1,0,1,4],
 fun | .L0 v0 v3 v4=>⟨37,[(0,(wL Zab v0)),(3,(wS v3)),(4,(wI v4))],[]⟩,
 fun r=>[],fun r=>(wS r),fun | .L0 v0 v3 v4=>Zr3 v0 v3 v4⟩
def Z1h(a0:(List Zz)):Option (List UInt8):=Z8a.run (Z79 a0)
theorem Zr4(a0:(List Zz)){r:(List UInt8)}(h:Z1h a0=some r):Fn PR 97 [(wL Zab a0)] (wS r):=Z8a.fn h
def Zaj6(a0:Zft):LT Empty Bool:=
.lb 1001<|.call (Zwv a0.Mana) fun x1=>.cs x1 (.k5 0<|.cs (a0.Mana.X==0) (.k4 1<|.cs (decide (a0.Life≥0)) (.k4 2<|.rt (decide (a0.Life≤99)))<|.k4 2<|.rt false)<|.k4 1<|.b4 false<|.rt false)<|.k5 0<|.b8 false<|.rt false
def Zaj7:LF Empty Bool := .z 135 [.t 2] false (fun r=>[]) (fun r=>(wB r))
def Zae0(a0:Zft):Option Bool:=Zaj7.run (Zaj6 a0)
theorem Za3v(a0:Zft){r:Bool}(h:Zae0 a0=some r):Fn PR 135 [(wA (Zfp a0))] (wB r):=Zaj7.fn h
def Zaq8(a0:Int):LT Empty (List UInt8):=
.br (a0==1) (.rt ([101,110,116,101,114,115]:List UInt8))<|.br (a0==2) (.rt ([108,101,97,118,101,115]:List UInt8))<|.br (a0==3) (.rt ([100,105,101,115]:List UInt8))<|.br (a0==4) (.rt ([97,116,116,97,99,107,115]:List UInt8))<|.br (a0==5) (.rt ([98,108,111,99,107,115]:List UInt8))<|.br (a0==6) (.rt ([100,101,97,108,115]:List UInt8))<|.br (a0==7) (.rt ([100,101,97,108,116]:List UInt8))<|.br (a0==8) (.rt ([100,114,97,119,115]:List UInt8))<|.br (a0==9) (.rt ([99,97,115,116,115]:List UInt8))<|.br (a0==10) (.rt ([117,112,107,101,101,112]:List UInt8))<|.br (a0==11) (.rt ([101,110,100]:List UInt8))<|.br (a0==12) (.rt ([103,97,105,110,115]:List UInt8))<|.br (a0==13) (.rt ([108,111,115,101,115]:List UInt8))<|.br (a0==14) (.rt ([112,108,97,99,101,100]:List UInt8))<|.rt ([]:List UInt8)
def Zaq9:LF Empty (List UInt8) := .z 176 [.t 2] false (fun r=>[]) (fun r=>(wS r))
def Zand(a0:Int):Option (List UInt8):=Zaq9.run (Zaq8 a0)
theorem Zaj8(a0:Int){r:(List UInt8)}(h:Zand a0=some r):Fn PR 176 [(wI a0)] (wS r):=Zaq9.fn h
def Zae1(a0:Int):LT Empty Bool:=
.cs (a0==8) (.k3 0<|.b8 true<|.b4 true<|.rt true)<|.k3 0<|.cs (a0==9) (.k3 1<|.b8 true<|.kb true<|.rt true)<|.k3 1<|.cs (a0==10) (.k3 2<|.b5 true<|.kb true<|.rt true)<|.k3 2<|.cs (a0==11) (.k3 3<|.b3 true<|.rt true)<|.k3 3<|.cs (a0==12) (.k3 4<|.rt true)<|.k3 4<|.rt (a0==13)
def Zae2:LF Empty Bool := .z 177 [.t 2] false (fun r=>[]) (fun r=>(wB r))
def Z97(a0:Int):Option Bool:=Zae2.run (Zae1 a0)
theorem Zabp(a0:Int){r:Bool}(h:Z97 a0=some r):Fn PR 177 [(wI a0)] (wB r):=Zae2.fn h
def Z4u(a0:Int):LT Empty Bool:=
.call (Zaj8 a0) fun x1=>.cs (!(x1==([]:List UInt8))) (.k2 0<|.call (Zabp a0) fun x4=>.k2 0<|.cs (!x4) (.k2 1<|.kg 0<|.kg 1<|.kg 0<|.rt true)<|.k2 1<|.kg 0<|.kg 1<|.kg 0<|.rt (a0==9))<|.k5 0<|.kg 0<|.rt false
def Z4v:LF Empty Bool := .z 178 [.t 2] false (fun r=>[]) (fun r=>(wB r))
def Zx9(a0:Int):Option Bool:=Z4v.run (Z4u a0)
theorem Zane(a0:Int){r:Bool}(h:Zx9 a0=some r):Fn PR 178 [(wI a0)] (wB r):=Z4v.fn h
inductive Z1i where
 | L0 (E0:Zce)
def Zw5(E0:Zce):LT Z1i Bool:=
.call (Zane E0.When) fun x1=>.br (!x1) (.rt (Zar (Zy E0.Filter) (Zy (⟨0,0,0,0,0,0,0,([]:List UInt8),0,0,(⟨0,0⟩:Zd),(⟨0,0⟩:Zd),(⟨0,0⟩:Zd)⟩:Ze))))<|.br (E0.When==9) (.call (Zfc E0.Filter) fun x5=>.cs x5 (.k5 2<|.kg 2<|.rt (E0.Filter.Zone==5))<|.k5 2<|.kg 2<|.rt false)<|.call (Zfc E0.Filter) fun x8=>.cs x8 (.k5 2<|.kg 2<|.rt (E0.Filter.Zone==0))<|.k5 2<|.kg 2<|.rt false
def Za3w(a0:Zce):LT Z1i Bool:=
.lb 1001<|.call (Zaj8 a0.When) fun x1=>.cs (x1==([]:List UInt8)) (.k4 0<|.b8 true<|.b3 true<|.kn [0]<|.rt false)<|.k4 0<|.cs (decide (a0.Who < 0)) (.k4 1<|.b5 true<|.b2 true<|.kn [0]<|.rt false)<|.k4 1<|.cs (decide (a0.Who > 2)) (.k5 2<|.k2 2<|.kn [0]<|.rt false)<|.k3 2<|.call (Zabp a0.When) fun x6=>.k2 2<|.cs (!x6) (.k3 3<|.kg 2<|.kg 3<|.kg 2<|.br (a0.Who != 0) (.rt false)<|.jn 0 (.L0 a0) [.relab 1001 30000000] (Zw5 a0))<|.k3 3<|.kg 2<|.kg 3<|.kg 2<|.kn [0]<|.jn 0 (.L0 a0) [.relab 1001 30000000] (Zw5 a0)
def Za3x:LF Z1i Bool:=⟨136,[.t 2],false,fun | .L0 .. => [1,1],
 fun | .L0 E0=>⟨50,[(1,(.bptr 30000000 0))],[(30000000,.box (bx (Zdu E0)))]⟩,
 fun r=>[],fun r=>(wB r),fun | .L0 E0=>Zw5 E0⟩
def Za3y(a0:Zce):Option Bool:=Za3x.run (Za3w a0)
theorem Zbdd(a0:Zce){r:Bool}(h:Za3y a0=some r):Fn PR 136 [(wA (Zdu a0))] (wB r):=Za3x.fn h
def Zaj9(a0:Ze):LT Empty Bool:=
.lb 1001<|.call (Zfc a0) fun x1=>.cs x1 (.k4 0<|.rt (a0.Zone==0))<|.k4 0<|.rt false
def Zaka:LF Empty Bool := .z 181 [.t 2] false (fun r=>[]) (fun r=>(wB r))
def Zae3(a0:Ze):Option Bool:=Zaka.run (Zaj9 a0)
theorem Z1j(a0:Ze){r:Bool}(h:Zae3 a0=some r):Fn PR 181 [(wA (Zy a0))] (wB r):=Zaka.fn h
def Zakb(a0:Za6):LT Empty Bool:=
.lb 1001<|.cs (a0.Who != 0) (.k5 0<|.kn [0]<|.rt false)<|.k3 0<|.call (Z1j a0.Filter) fun x2=>.k2 0<|.br (!x2) (.rt false)<|.br (a0.Do==5) (.cs (a0.N==0) (.k4 3<|.cs (a0.Counter==0) (.k4 4<|.cs (a0.Zone==1) (.k3 5<|.kg 4<|.kg 5<|.kg 4<|.b3 true<|.kg 4<|.kb true<|.kg 4<|.rt true)<|.k3 5<|.kg 4<|.kg 5<|.kg 4<|.cs (a0.Zone==2) (.k3 6<|.kg 4<|.kg 6<|.kg 4<|.rt true)<|.k3 6<|.kg 4<|.kg 6<|.kg 4<|.rt (a0.Zone==4))<|.k8 4<|.rt false)<|.k4 3<|.b8 false<|.rt false)<|.br (a0.Do==6) (.cs (a0.N==0) (.k4 4<|.cs (a0.Counter==0) (.k4 5<|.rt (a0.Zone==0))<|.k4 5<|.rt false)<|.k4 4<|.b4 false<|.rt false)<|.br (a0.Do==7) (.cs (a0.Zone==0) (.k4 5<|.cs (decide (a0.N≥1)) (.k4 6<|.cs (decide (a0.N≤99)) (.k4 7<|.cs (decide (a0.Counter≥0)) (.k4 8<|.rt (decide (a0.Counter < 3)))<|.k4 8<|.rt false)<|.k4 7<|.b4 false<|.rt false)<|.k4 6<|.b8 false<|.rt false)<|.k4 5<|.b8 false<|.b4 false<|.rt false)<|.rt false
def Zakc:LF Empty Bool := .z 179 [.t 2] false (fun r=>[]) (fun r=>(wB r))
def Zae4(a0:Za6):Option Bool:=Zakc.run (Zakb a0)
theorem Za3z(a0:Za6){r:Bool}(h:Zae4 a0=some r):Fn PR 179 [(wA (Zb6 a0))] (wB r):=Zakc.fn h
def Zakd(a0:Za6):LT Empty Bool:=
.lb 1001<|.cs (a0.Zone != 0) (.k4 0<|.kn [0]<|.rt false)<|.k4 0<|.br (a0.Counter != 0) (.rt false)<|.cs (a0.Do==2) (.k4 2<|.kn [0]<|.cs (decide (a0.N≥1)) (.k4 3<|.rt (decide (a0.N≤99)))<|.k4 3<|.rt false)<|.k4 2<|.br (a0.Do==4) (.cs (decide (a0.N≥1)) (.k4 4<|.rt (decide (a0.N≤99)))<|.k4 4<|.rt false)<|.rt (a0.N==0)
def Zake:LF Empty Bool := .z 180 [.t 2] false (fun r=>[]) (fun r=>(wB r))
def Zae5(a0:Za6):Option Bool:=Zake.run (Zakd a0)
theorem Za30(a0:Za6){r:Bool}(h:Zae5 a0=some r):Fn PR 180 [(wA (Zb6 a0))] (wB r):=Zake.fn h
inductive Zqs where
 | L0 (E0:Za6) (v3:Bool) (v4:Bool)
 | L1 (E0:Za6) (v3:Bool)
 | L2 (E0:Za6) (v3:Bool) (v4:Bool) (v109:Bool)
def Zq7(E0:Za6)(v3:Bool)(v4:Bool)(v109:Bool):LT Zqs Bool:=
.br v109 (.cs v4 (.k4 1<|.cs (decide (E0.Who≥0)) (.k4 2<|.cs (decide (E0.Who≤2)) (.k2 3<|.rt v3)<|.k2 3<|.rt false)<|.k4 2<|.b2 false<|.rt false)<|.k4 1<|.b5 false<|.kb false<|.rt false)<|.rt false
def Zmx(E0:Za6)(v3:Bool):LT Zqs Bool:=
.cs (E0.Who==0) (.k3 0<|.call (Z1j E0.Filter) fun x2=>.kg 0<|.cs x2 (.k8 1<|.rt true)<|.k4 1<|.cs (E0.Who==1) (.k3 2<|.kg 1<|.kg 2<|.kg 1<|.kb true<|.kg 1<|.kb true<|.kg 1<|.rt v3)<|.k3 2<|.kg 1<|.kg 2<|.kg 1<|.cs (E0.Who==2) (.kg 3<|.kg 1<|.kg 3<|.kg 1<|.rt v3)<|.kg 3<|.kg 1<|.kg 3<|.kg 1<|.rt false)<|.k4 0<|.b4 false<|.cs (E0.Who==1) (.k3 1<|.kb false<|.kg 1<|.kb false<|.kb true<|.kb false<|.kb true<|.kb false<|.rt v3)<|.k3 1<|.kb false<|.kg 1<|.kb false<|.cs (E0.Who==2) (.kg 2<|.kb false<|.kg 2<|.kb false<|.rt v3)<|.kg 2<|.kb false<|.kg 2<|.kb false<|.rt false
def Zq8(E0:Za6)(v3:Bool)(v4:Bool):LT Zqs Bool:=
.br (E0.On==1) (.cs (E0.Do != 1) (.k4 1<|.cs (E0.Do != 2) (.k4 2<|.cs (E0.Do != 3) (.k4 3<|.br (E0.Do != 4) (.rt false)<|.j0 (.L1 E0 v3) (Zmx E0 v3))<|.k4 3<|.kn [0]<|.j0 (.L1 E0 v3) (Zmx E0 v3))<|.k4 2<|.b4 false<|.kn [0]<|.j0 (.L1 E0 v3) (Zmx E0 v3))<|.k4 1<|.b8 false<|.kn [0]<|.j0 (.L1 E0 v3) (Zmx E0 v3))<|.br (E0.On==8) (.cs v4 (.k4 2<|.cs (E0.Who==0) (.k3 3<|.call (Z1j E0.Filter) fun x9=>.kg 3<|.rt x9)<|.k4 3<|.rt false)<|.k4 2<|.b4 false<|.rt false)<|.br (E0.On==3) (.cs (E0.Do==4) (.k4 3<|.b4 true<|.cs (decide (E0.Who≥0)) (.k4 4<|.cs (decide (E0.Who≤2)) (.k2 5<|.rt v3)<|.k2 5<|.rt false)<|.k4 4<|.b2 false<|.rt false)<|.k4 3<|.cs (E0.Do==8) (.k4 4<|.cs (decide (E0.Who≥0)) (.k4 5<|.cs (decide (E0.Who≤2)) (.k2 6<|.rt v3)<|.k2 6<|.rt false)<|.k4 5<|.b2 false<|.rt false)<|.k4 4<|.b5 false<|.kb false<|.rt false)<|.br (E0.On==4) (.j0 (.L2 E0 v3 v4 (E0.On==4)) (Zq7 E0 v3 v4 (E0.On==4)))<|.br (E0.On==5) (.j0 (.L2 E0 v3 v4 (E0.On==5)) (Zq7 E0 v3 v4 (E0.On==5)))<|.j0 (.L2 E0 v3 v4 (E0.On==10)) (Zq7 E0 v3 v4 (E0.On==10))
def Za31(a0:Za6):LT Zqs Bool:=
.lb 1001<|.br (a0.On==2) (.call (Za3z a0) fun x2=>.rt x2)<|.call (Za30 a0) fun x4=>.br (!x4) (.rt false)<|.cs (a0.Do==3) (.k4 2<|.b4 true<|.jn 0 (.L0 a0 (Zar (Zy a0.Filter) (Zy (⟨0,0,0,0,0,0,0,([]:List UInt8),0,0,(⟨0,0⟩:Zd),(⟨0,0⟩:Zd),(⟨0,0⟩:Zd)⟩:Ze))) true) [.relab 1001 30000000] (Zq8 a0 (Zar (Zy a0.Filter) (Zy (⟨0,0,0,0,0,0,0,([]:List UInt8),0,0,(⟨0,0⟩:Zd),(⟨0,0⟩:Zd),(⟨0,0⟩:Zd)⟩:Ze))) true))<|.k4 2<|.cs (a0.Do==4) (.k4 3<|.jn 0 (.L0 a0 (Zar (Zy a0.Filter) (Zy (⟨0,0,0,0,0,0,0,([]:List UInt8),0,0,(⟨0,0⟩:Zd),(⟨0,0⟩:Zd),(⟨0,0⟩:Zd)⟩:Ze))) true) [.relab 1001 30000000] (Zq8 a0 (Zar (Zy a0.Filter) (Zy (⟨0,0,0,0,0,0,0,([]:List UInt8),0,0,(⟨0,0⟩:Zd),(⟨0,0⟩:Zd),(⟨0,0⟩:Zd)⟩:Ze))) true))<|.k4 3<|.jn 0 (.L0 a0 (Zar (Zy a0.Filter) (Zy (⟨0,0,0,0,0,0,0,([]:List UInt8),0,0,(⟨0,0⟩:Zd),(⟨0,0⟩:Zd),(⟨0,0⟩:Zd)⟩:Ze))) (a0.Do==8)) [.relab 1001 30000000] (Zq8 a0 (Zar (Zy a0.Filter) (Zy (⟨0,0,0,0,0,0,0,([]:List UInt8),0,0,(⟨0,0⟩:Zd),(⟨0,0⟩:Zd),(⟨0,0⟩:Zd)⟩:Ze))) (a0.Do==8))
def Za32:LF Zqs Bool:=⟨137,[.t 2],false,fun | .L0 .. => [1,1,1,1,1] | .L1 .. => [1,1,1,1,1,0,1,4,1,2,1] | .L2 .. => [1,1,1,1,1,0,1,4,1,3,1,3,1,3,1],
 fun | .L0 E0 v3 v4=>⟨127,[(1,(.bptr 30000000 0)),(3,(wB v3)),(4,(wB v4))],[(30000000,.box (bx (Zb6 E0)))]⟩ | .L1 E0 v3=>⟨127,[(1,(.bptr 30000000 0)),(3,(wB v3))],[(30000000,.box (bx (Zb6 E0)))]⟩ | .L2 E0 v3 v4 v109=>⟨127,[(1,(.bptr 30000000 0)),(3,(wB v3)),(4,(wB v4)),(109,(wB v109))],[(30000000,.box (bx (Zb6 E0)))]⟩,
 fun r=>[],fun r=>(wB r),fun | .L0 E0 v3 v4=>Zq8 E0 v3 v4 | .L1 E0 v3=>Zmx E0 v3 | .L2 E0 v3 v4 v109=>Zq7 E0 v3 v4 v109⟩
def Za33(a0:Za6):Option Bool:=Za32.run (Za31 a0)
theorem Zbde(a0:Za6){r:Bool}(h:Za33 a0=some r):Fn PR 137 [(wA (Zb6 a0))] (wB r):=Za32.fn h
def Zara(a0:Zr):LT Empty Bool:=
.lb 1001<|.br (!a0.Object) (.cs a0.Player (.k5 1<|.rt (Zar (Zy a0.Filter) (Zy (⟨0,0,0,0,0,0,0,([]:List UInt8),0,0,(⟨0,0⟩:Zd),(⟨0,0⟩:Zd),(⟨0,0⟩:Zd)⟩:Ze))))<|.k5 1<|.rt false)<|.call (Zfc a0.Filter) fun x3=>.cs x3 (.k3 1<|.cs (a0.Filter.Zone==0) (.k2 2<|.kg 1<|.kg 2<|.kg 1<|.b2 true<|.kg 1<|.kb true<|.kg 1<|.rt true)<|.k2 2<|.kg 1<|.kg 2<|.kg 1<|.cs (a0.Filter.Zone==3) (.k2 3<|.kg 1<|.kg 3<|.kg 1<|.rt true)<|.k2 3<|.kg 1<|.kg 3<|.kg 1<|.rt (a0.Filter.Zone==5))<|.k5 1<|.k2 1<|.rt false
def Zarb:LF Empty Bool := .z 182 [.t 2] false (fun r=>[]) (fun r=>(wB r))
def Zanf(a0:Zr):Option Bool:=Zarb.run (Zara a0)
theorem Za7r(a0:Zr){r:Bool}(h:Zanf a0=some r):Fn PR 182 [(wA (Z4 a0))] (wB r):=Zarb.fn h
inductive Zpd where
 | L0 (v0:(List Zr)) (v3:Int)
def Z1k(v0:(List Zr))(v3:Int):LT Zpd Bool:=
.len Z4 v0<|.br (decide (v3 < (v0.length:Int))) (.idx Z4 v0 v3 fun x3=>.call (Za7r x3) fun x5=>.br (!x5) (.rt false)<|.g0 (.L0 v0 (IntKind.wrap .i64 (v3+1))))<|.len Z4 v0<|.rt (decide ((v0.length:Int)≤4))
def Zakf(a0:(List Zr)):LT Zpd Bool:=
.g0 (.L0 a0 0)
def Zakg:LF Zpd Bool:=⟨138,[.t 2],false,fun | .L0 .. => [1,0,1,4],
 fun | .L0 v0 v3=>⟨19,[(0,(wL Z4 v0)),(3,(wI v3))],[]⟩,
 fun r=>[],fun r=>(wB r),fun | .L0 v0 v3=>Z1k v0 v3⟩
def Zae6(a0:(List Zr)):Option Bool:=Zakg.run (Zakf a0)
theorem Za34(a0:(List Zr)){r:Bool}(h:Zae6 a0=some r):Fn PR 138 [(wL Z4 a0)] (wB r):=Zakg.fn h
def Zarc(a0:Int):LT Empty (List UInt8):=
.cs (decide (a0 < 1)) (.k3 0<|.kn [0]<|.rt ([]:List UInt8))<|.k3 0<|.br (decide (a0 > 26)) (.rt ([]:List UInt8))<|.dr [.lit]<|.idx cS [([100,97,109,97,103,101]:List UInt8),([100,101,115,116,114,111,121]:List UInt8),([109,111,118,101]:List UInt8),([100,114,97,119]:List UInt8),([100,105,115,99,97,114,100]:List UInt8),([103,97,105,110]:List UInt8),([108,111,115,101]:List UInt8),([116,97,112]:List UInt8),([117,110,116,97,112]:List UInt8),([112,117,116]:List UInt8),([116,97,107,101]:List UInt8),([99,114,101,97,116,101]:List UInt8),([109,111,100]:List UInt8),([109,97,110,97]:List UInt8),([99,111,117,110,116,101,114]:List UInt8),([99,111,112,121]:List UInt8),([98,101,99,111,109,101]:List UInt8),([115,97,99,114,105,102,105,99,101]:List UInt8),([109,105,108,108]:List UInt8),([115,99,114,121]:List UInt8),([115,101,97,114,99,104]:List UInt8),([115,104,105,101,108,100]:List UInt8),([116,117,114,110]:List UInt8),([119,105,110]:List UInt8),([100,101,102,101,97,116]:List UInt8),([118,101,110,111,109]:List UInt8)] (IntKind.wrap .i64 (a0 - 1)) fun x6=>.rt x6
def Zard:LF Empty (List UInt8) := .z 209 [.t 2] false (fun r=>[]) (fun r=>(wS r))
def Zang(a0:Int):Option (List UInt8):=Zard.run (Zarc a0)
theorem Za7s(a0:Int){r:(List UInt8)}(h:Zang a0=some r):Fn PR 209 [(wI a0)] (wS r):=Zard.fn h
inductive Zn6 where
 | L0 (v3:Int) (v4:Bool)
 | L1 (v3:Int) (v14:Bool)
def Zpe(v3:Int)(v14:Bool):LT Zn6 (List UInt8):=
.br v14 (.rt ([114,107,97]:List UInt8))<|.br (v3==12) (.rt ([114,99,97]:List UInt8))<|.br (v3==13) (.rt ([114,109]:List UInt8))<|.br (v3==14) (.rt ([112]:List UInt8))<|.br (v3==18) (.rt ([114,97,102]:List UInt8))<|.br (v3==20) (.rt ([97]:List UInt8))<|.br (v3==21) (.rt ([102]:List UInt8))<|.br (v3==23) (.kn [8]<|.rt ([]:List UInt8))<|.br (v3==24) (.rt ([]:List UInt8))<|.rt ([114,97]:List UInt8)
def Ze1(v3:Int)(v4:Bool):LT Zn6 (List UInt8):=
.br v4 (.rt ([114]:List UInt8))<|.br (v3==3) (.rt ([114,122]:List UInt8))<|.br (v3==10) (.j0 (.L1 v3 (v3==10)) (Zpe v3 (v3==10)))<|.j0 (.L1 v3 (v3==11)) (Zpe v3 (v3==11))
def Zare(a0:Int):LT Zn6 (List UInt8):=
.br (a0==2) (.j0 (.L0 a0 (a0==2)) (Ze1 a0 (a0==2)))<|.br (a0==8) (.j0 (.L0 a0 (a0==8)) (Ze1 a0 (a0==8)))<|.br (a0==9) (.j0 (.L0 a0 (a0==9)) (Ze1 a0 (a0==9)))<|.br (a0==15) (.j0 (.L0 a0 (a0==15)) (Ze1 a0 (a0==15)))<|.br (a0==16) (.j0 (.L0 a0 (a0==16)) (Ze1 a0 (a0==16)))<|.br (a0==17) (.j0 (.L0 a0 (a0==17)) (Ze1 a0 (a0==17)))<|.j0 (.L0 a0 (a0==25)) (Ze1 a0 (a0==25))
def Zarf:LF Zn6 (List UInt8):=⟨234,[.t 2],false,fun | .L0 .. => [1,0,1,4,1] | .L1 .. => [1,0,1,4,1,3,1,3,1],
 fun | .L0 v3 v4=>⟨32,[(3,(wI v3)),(4,(wB v4))],[]⟩ | .L1 v3 v14=>⟨32,[(3,(wI v3)),(14,(wB v14))],[]⟩,
 fun r=>[],fun r=>(wS r),fun | .L0 v3 v4=>Ze1 v3 v4 | .L1 v3 v14=>Zpe v3 v14⟩
def Zanh(a0:Int):Option (List UInt8):=Zarf.run (Zare a0)
theorem Za7t(a0:Int){r:(List UInt8)}(h:Zanh a0=some r):Fn PR 234 [(wI a0)] (wS r):=Zarf.fn h
inductive Zr5 where
 | L0 (v1:Int) (v5:(List UInt8)) (v6:Int)
def Z57(v1:Int)(v5:(List UInt8))(v6:Int):LT Zr5 Bool:=
.lenS v5<|.br (decide (v6 < (v5.length:Int))) (.idxS v5 v6 fun x3=>.br ((UInt8.toNat x3:Int)==v1) (.rt true)<|.g0 (.L0 v1 v5 (IntKind.wrap .i64 (v6+1))))<|.rt false
def Zarg(a0:Int)(a1:Int):LT Zr5 Bool:=
.call (Za7t a0) fun x1=>.g0 (.L0 a1 x1 0)
def Zarh:LF Zr5 Bool:=⟨210,[.t 4],false,fun | .L0 .. => [1,1,0,1,4],
 fun | .L0 v1 v5 v6=>⟨20,[(1,(.t (.int .u8 v1))),(5,(wS v5)),(6,(wI v6))],[]⟩,
 fun r=>[],fun r=>(wB r),fun | .L0 v1 v5 v6=>Z57 v1 v5 v6⟩
def Zani(a0:Int)(a1:Int):Option Bool:=Zarh.run (Zarg a0 a1)
theorem Zgu(a0:Int)(a1:Int){r:Bool}(h:Zani a0 a1=some r):Fn PR 210 [(wI a0),(.t (.int .u8 a1))] (wB r):=Zarh.fn h
def Z8b(a0:Int):LT Empty Bool:=
.cs (a0==3) (.k3 0<|.rt true)<|.k3 0<|.rt (a0==8)
def Z8c:LF Empty Bool := .z 235 [.t 2] false (fun r=>[]) (fun r=>(wB r))
def Z1l(a0:Int):Option Bool:=Z8c.run (Z8b a0)
theorem Zari(a0:Int){r:Bool}(h:Z1l a0=some r):Fn PR 235 [(wI a0)] (wB r):=Z8c.fn h
inductive Zuc where
 | L0 (v1:Int) (E0:Zed)
 | L1 (E0:Zed)
def Zw6(E0:Zed):LT Zuc Bool:=
.br (E0.Kind==4) (.call (Zfc E0.Filter) fun x2=>.rt x2)<|.rt (Zar (Zy E0.Filter) (Zy (⟨0,0,0,0,0,0,0,([]:List UInt8),0,0,(⟨0,0⟩:Zd),(⟨0,0⟩:Zd),(⟨0,0⟩:Zd)⟩:Ze)))
def Zw7(v1:Int)(E0:Zed):LT Zuc Bool:=
.cs (decide (E0.Kind < 1)) (.k4 0<|.kn [0]<|.rt false)<|.k4 0<|.br (decide (E0.Kind > 8)) (.rt false)<|.call (Zari E0.Kind) fun x3=>.br x3 (.cs (decide (E0.N < 1)) (.k5 3<|.kn [0]<|.rt false)<|.k5 3<|.br (decide (E0.N > v1)) (.rt false)<|.j0 (.L1 E0) (Zw6 E0))<|.br (E0.N != 0) (.rt false)<|.j0 (.L1 E0) (Zw6 E0)
def Za35(a0:Zed)(a1:Int):LT Zuc Bool:=
.lb 1002<|.br (decide (a1 > 4)) (.jn 0 (.L0 4 a0) [.relab 1002 30000000] (Zw7 4 a0))<|.jn 0 (.L0 a1 a0) [.relab 1002 30000000] (Zw7 a1 a0)
def Za36:LF Zuc Bool:=⟨211,[.t 4],false,fun | .L0 .. => [1,1] | .L1 .. => [1,1,1,1],
 fun | .L0 v1 E0=>⟨40,[(1,(wI v1)),(2,(.bptr 30000000 0))],[(30000000,.box (bx (Zdp E0)))]⟩ | .L1 E0=>⟨40,[(2,(.bptr 30000000 0))],[(30000000,.box (bx (Zdp E0)))]⟩,
 fun r=>[],fun r=>(wB r),fun | .L0 v1 E0=>Zw7 v1 E0 | .L1 E0=>Zw6 E0⟩
def Za37(a0:Zed)(a1:Int):Option Bool:=Za36.run (Za35 a0 a1)
theorem Zbdf(a0:Zed)(a1:Int){r:Bool}(h:Za37 a0 a1=some r):Fn PR 211 [(wA (Zdp a0)),(wI a1)] (wB r):=Za36.fn h
def Zarj(a0:Int):LT Empty (List UInt8):=
.br (a0==0) (.rt ([112,108,117,115]:List UInt8))<|.br (a0==1) (.rt ([109,105,110,117,115]:List UInt8))<|.br (a0==2) (.rt ([99,104,97,114,103,101]:List UInt8))<|.rt ([]:List UInt8)
def Zark:LF Empty (List UInt8) := .z 212 [.t 2] false (fun r=>[]) (fun r=>(wS r))
def Zanj(a0:Int):Option (List UInt8):=Zark.run (Zarj a0)
theorem Zakh(a0:Int){r:(List UInt8)}(h:Zanj a0=some r):Fn PR 212 [(wI a0)] (wS r):=Zark.fn h
def Za38(a0:Zbn):LT Empty Bool:=
.lb 1001<|.lb 1003<|.br (a0.Kind==0) (.cs (decide (a0.N < 0)) (.k4 1<|.kn [0]<|.rt false)<|.k4 1<|.br (decide (a0.N > 1000000)) (.rt false)<|.cs (decide (a0.Kind≥0)) (.k4 3<|.cs (decide (a0.Kind≤7)) (.k5 4<|.kg 4<|.rt (Zar (Zbc (⟨a0.Kind,0,a0.Counter,a0.Filter⟩:Zbn)) (Zbc (⟨a0.Kind,0,0,(⟨0,0,0,0,0,0,0,([]:List UInt8),0,0,(⟨0,0⟩:Zd),(⟨0,0⟩:Zd),(⟨0,0⟩:Zd)⟩:Ze)⟩:Zbn))))<|.k5 4<|.kg 4<|.rt false)<|.k4 3<|.b5 false<|.kb false<|.rt false)<|.br (a0.Kind==2) (.cs (decide (a0.N < 1)) (.k4 2<|.b5 true<|.kn [0]<|.rt false)<|.k4 2<|.cs (decide (a0.N > 99)) (.k5 3<|.kn [0]<|.rt false)<|.k3 3<|.call (Zfc a0.Filter) fun x9=>.k2 3<|.br (!x9) (.rt false)<|.cs (decide (a0.Kind≥0)) (.k4 5<|.cs (decide (a0.Kind≤7)) (.k5 6<|.kg 6<|.rt (Zar (Zbc (⟨a0.Kind,0,a0.Counter,(⟨0,0,0,0,0,0,0,([]:List UInt8),0,0,(⟨0,0⟩:Zd),(⟨0,0⟩:Zd),(⟨0,0⟩:Zd)⟩:Ze)⟩:Zbn)) (Zbc (⟨a0.Kind,0,0,(⟨0,0,0,0,0,0,0,([]:List UInt8),0,0,(⟨0,0⟩:Zd),(⟨0,0⟩:Zd),(⟨0,0⟩:Zd)⟩:Ze)⟩:Zbn))))<|.k5 6<|.kg 6<|.rt false)<|.k4 5<|.b5 false<|.kb false<|.rt false)<|.br (a0.Kind==4) (.call (Zakh a0.Counter) fun x15=>.br (x15==([]:List UInt8)) (.rt false)<|.cs (decide (a0.Kind≥0)) (.k4 4<|.cs (decide (a0.Kind≤7)) (.k5 5<|.kg 5<|.rt (Zar (Zbc (⟨a0.Kind,a0.N,0,a0.Filter⟩:Zbn)) (Zbc (⟨a0.Kind,0,0,(⟨0,0,0,0,0,0,0,([]:List UInt8),0,0,(⟨0,0⟩:Zd),(⟨0,0⟩:Zd),(⟨0,0⟩:Zd)⟩:Ze)⟩:Zbn))))<|.k5 5<|.kg 5<|.rt false)<|.k4 4<|.b5 false<|.kb false<|.rt false)<|.cs (decide (a0.Kind≥0)) (.k4 3<|.cs (decide (a0.Kind≤7)) (.k5 4<|.kg 4<|.rt (Zar (Zbc a0) (Zbc (⟨a0.Kind,0,0,(⟨0,0,0,0,0,0,0,([]:List UInt8),0,0,(⟨0,0⟩:Zd),(⟨0,0⟩:Zd),(⟨0,0⟩:Zd)⟩:Ze)⟩:Zbn))))<|.k5 4<|.kg 4<|.rt false)<|.k4 3<|.b5 false<|.kb false<|.rt false
def Za39:LF Empty Bool := .z 213 [.t 2] false (fun r=>[]) (fun r=>(wB r))
def Za4a(a0:Zbn):Option Bool:=Za39.run (Za38 a0)
theorem Zbdg(a0:Zbn){r:Bool}(h:Za4a a0=some r):Fn PR 213 [(wA (Zbc a0))] (wB r):=Za39.fn h
def Zarl(a0:(List Zz)):LT Empty Bool:=
.call (Zr4 a0) fun x1=>.rt (!(x1==([]:List UInt8)))
def Zarm:LF Empty Bool := .z 214 [.t 2] false (fun r=>[]) (fun r=>(wB r))
def Zank(a0:(List Zz)):Option Bool:=Zarm.run (Zarl a0)
theorem Za7u(a0:(List Zz)){r:Bool}(h:Zank a0=some r):Fn PR 214 [(wL Zab a0)] (wB r):=Zarm.fn h
inductive Zr6 where
 | L0 (E0:(A6 Int)) (E1:Z1) (E2:Z1) (v4:Int)
def Z58(E0:(A6 Int))(E1:Z1)(E2:Z1)(v4:Int):LT Zr6 Z1:=
.br (decide (v4 < 5)) (.idA (Zn.int .i64) (A6.list E0) (IntKind.wrap .i64 (v4+1)) (bx ((cA6 (cI .i64)) E0)) 0 6 fun x4=>.ldC (Zn.int .i64) 16 x4 0<|.idA (Zn.int .i64) (A5.list E2.Color) v4 (bx (Zaz E2)) 2 7 fun x6=>.stA (A5.set? E2.Color v4 x4) (fun h=>Zbi3 (Zn.int .i64) ((bx (Zaz E2)).take 2) ((bx (Zaz E2)).drop 7) h) fun x8=>.g0 (.L0 E0 E1 (⟨E2.Generic,E2.X,x8⟩:Z1) (IntKind.wrap .i64 (v4+1))))<|.rt E2
def Zarn(a0:(A6 Int)):LT Zr6 Z1:=
.lb 1001<|.lb 1002<|.idA (Zn.int .i64) (A6.list a0) 0 (bx ((cA6 (cI .i64)) a0)) 0 6 fun x1=>.ldC (Zn.int .i64) 6 x1 0<|.lb 1003<|.go (.L0 a0 (⟨0,0,(⟨0,0,0,0,0⟩:(A5 Int))⟩:Z1) (⟨x1,0,(⟨0,0,0,0,0⟩:(A5 Int))⟩:Z1) 0) [.relab 1001 30000000,.relab 1002 30000001,.relab 1003 30000002]
def Zaro:LF Zr6 Z1:=⟨237,[.c 2 71 true 7],false,fun | .L0 .. => [1,1,0,1,4],
 fun | .L0 E0 E1 E2 v4=>⟨20,[(1,(.bptr 30000000 0)),(2,(.bptr 30000001 0)),(3,(.bptr 30000002 0)),(4,(wI v4))],[(30000000,.box (bx ((cA6 (cI .i64)) E0))),(30000001,.box (bx (Zaz E1))),(30000002,.box (bx (Zaz E2)))]⟩,
 fun r=>[],fun r=>(wA (Zaz r)),fun | .L0 E0 E1 E2 v4=>Z58 E0 E1 E2 v4⟩
def Zanl(a0:(A6 Int)):Option Z1:=Zaro.run (Zarn a0)
theorem Za7v(a0:(A6 Int)){r:Z1}(h:Zanl a0=some r):Fn PR 237 [(wA ((cA6 (cI .i64)) a0))] (wA (Zaz r)):=Zaro.fn h
inductive Zkf where
 | L0 (E0:Z1) (v3:(List UInt8)) (v4:Int)
 | L1 (E0:Z1) (v3:(List UInt8)) (v5:Int)
 | L2 (E0:Z1) (v3:(List UInt8)) (v5:Int) (v6:Int)
def Z59(E0:Z1)(v3:(List UInt8))(v4:Int):LT Zkf (List UInt8):=
.br (decide (v4 < E0.X)) (.ok (v3.length+([88]:List UInt8).length≤9223372036854775807)<|.g0 (.L0 E0 (v3++([88]:List UInt8)) (IntKind.wrap .i64 (v4+1))))<|.br (E0.Generic != 0) (.call (Zlw E0.Generic) fun x7=>.ok (v3.length+x7.length≤9223372036854775807)<|.g0 (.L1 E0 (v3++x7) 0))<|.g0 (.L1 E0 v3 0)
def Z6a(E0:Z1)(v3:(List UInt8))(v5:Int):LT Zkf (List UInt8):=
.br (decide (v5 < 5)) (.g0 (.L2 E0 v3 v5 0))<|.br (v3==([]:List UInt8)) (.rt ([48]:List UInt8))<|.rt v3
def Z6b(E0:Z1)(v3:(List UInt8))(v5:Int)(v6:Int):LT Zkf (List UInt8):=
.idA (Zn.int .i64) (A5.list E0.Color) v5 (bx (Zaz E0)) 2 7 fun x1=>.ldC (Zn.int .i64) 34 x1 0<|.br (decide (v6 < x1)) (.slS ([65,67,74,82,69]:List UInt8) v5 (IntKind.wrap .i64 (v5+1)) fun x6=>.ok (v3.length+x6.length≤9223372036854775807)<|.g0 (.L2 E0 (v3++x6) v5 (IntKind.wrap .i64 (v6+1))))<|.g0 (.L1 E0 v3 (IntKind.wrap .i64 (v5+1)))
def Zarp(a0:Z1):LT Zkf (List UInt8):=
.lb 1001<|.call (Zwv a0) fun x1=>.br (!x1) (.rt ([]:List UInt8))<|.go (.L0 a0 ([]:List UInt8) 0) [.relab 1001 30000000]
def Zarq:LF Zkf (List UInt8):=⟨236,[.t 2],false,fun | .L0 .. => [1,1,1,0,1,4] | .L1 .. => [1,1,1,1,1,0,1,4] | .L2 .. => [1,1,1,1,1,0,1,4,5,1,0,4,1,4],
 fun | .L0 E0 v3 v4=>⟨47,[(1,(.bptr 30000000 0)),(3,(wS v3)),(4,(wI v4))],[(30000000,.box (bx (Zaz E0)))]⟩ | .L1 E0 v3 v5=>⟨47,[(1,(.bptr 30000000 0)),(3,(wS v3)),(5,(wI v5))],[(30000000,.box (bx (Zaz E0)))]⟩ | .L2 E0 v3 v5 v6=>⟨47,[(1,(.bptr 30000000 0)),(3,(wS v3)),(5,(wI v5)),(6,(wI v6))],[(30000000,.box (bx (Zaz E0)))]⟩,
 fun r=>[],fun r=>(wS r),fun | .L0 E0 v3 v4=>Z59 E0 v3 v4 | .L1 E0 v3 v5=>Z6a E0 v3 v5 | .L2 E0 v3 v5 v6=>Z6b E0 v3 v5 v6⟩
def Zanm(a0:Z1):Option (List UInt8):=Zarq.run (Zarp a0)
theorem Za7w(a0:Z1){r:(List UInt8)}(h:Zanm a0=some r):Fn PR 236 [(wA (Zaz a0))] (wS r):=Zarq.fn h
def Z8d(a0:(A6 Int)):LT Empty (List UInt8):=
.lb 1001<|.call (Za7v a0) fun x1=>.call (Za7w x1) fun x3=>.rt x3
def Z8e:LF Empty (List UInt8) := .z 215 [.t 2] false (fun r=>[]) (fun r=>(wS r))
def Z1m(a0:(A6 Int)):Option (List UInt8):=Z8e.run (Z8d a0)
theorem Zarr(a0:(A6 Int)){r:(List UInt8)}(h:Z1m a0=some r):Fn PR 215 [(wA ((cA6 (cI .i64)) a0))] (wS r):=Z8e.fn h
def Zae7(a0:Int)(a1:Ze):LT Empty Bool:=
.lb 1003<|.br (a0==21) (.call (Zfc a1) fun x2=>.cs x2 (.k5 1<|.rt (a1.Zone==2))<|.k5 1<|.rt false)<|.call (Zfc a1) fun x5=>.cs x5 (.k5 1<|.rt (a1.Zone==0))<|.k5 1<|.rt false
def Zae8:LF Empty Bool := .z 216 [.t 4] false (fun r=>[]) (fun r=>(wB r))
def Z98(a0:Int)(a1:Ze):Option Bool:=Zae8.run (Zae7 a0 a1)
theorem Zazx(a0:Int)(a1:Ze){r:Bool}(h:Z98 a0 a1=some r):Fn PR 216 [(wI a0),(wA (Zy a1))] (wB r):=Zae8.fn h
inductive Zf7 where
 | L0 (E0:Z9) (v5:Bool)
 | L1 (E0:Z9) (v5:Bool) (v6:Bool)
 | L2 (E0:Z9) (v5:Bool) (v6:Bool) (v7:Bool)
 | L3 (E0:Z9) (v5:Bool) (v6:Bool) (v7:Bool) (v8:Bool)
 | L4 (E0:Z9) (v5:Bool) (v6:Bool) (v7:Bool) (v8:Bool) (v9:Bool)
 | L5 (E0:Z9) (v5:Bool) (v6:Bool) (v7:Bool) (v8:Bool) (v9:Bool) (v10:Bool)
 | L6 (E0:Z9) (v5:Bool) (v6:Bool) (v7:Bool) (v8:Bool) (v9:Bool) (v10:Bool) (v11:Bool)
 | L7 (v5:Bool) (v6:Bool) (v7:Bool) (v8:Bool) (v9:Bool) (v10:Bool) (v11:Bool) (v12:Bool)
def Zw8(v5:Bool)(v6:Bool)(v7:Bool)(v8:Bool)(v9:Bool)(v10:Bool)(v11:Bool)(v12:Bool):LT Zf7 Bool:=
.cs v5 (.k2 0<|.cs v6 (.k2 1<|.cs v7 (.k2 2<|.cs v8 (.k2 3<|.cs v9 (.k2 4<|.cs v10 (.k2 5<|.cs v11 (.k2 6<|.rt v12)<|.k2 6<|.rt false)<|.k2 5<|.b2 false<|.rt false)<|.k2 4<|.b4 false<|.rt false)<|.k2 3<|.b5 false<|.kb false<|.rt false)<|.k2 2<|.b8 false<|.rt false)<|.k2 1<|.b8 false<|.b2 false<|.rt false)<|.k2 0<|.b8 false<|.b4 false<|.rt false
def Zq9(E0:Z9)(v5:Bool)(v6:Bool)(v7:Bool)(v8:Bool)(v9:Bool)(v10:Bool)(v11:Bool):LT Zf7 Bool:=
.call (Zgu E0.Op 102) fun x1=>.br x1 (.call (Zazx E0.Op E0.Filter) fun x4=>.j0 (.L7 v5 v6 v7 v8 v9 v10 v11 x4) (Zw8 v5 v6 v7 v8 v9 v10 v11 x4))<|.j0 (.L7 v5 v6 v7 v8 v9 v10 v11 (Zar (Zy E0.Filter) (Zy (⟨0,0,0,0,0,0,0,([]:List UInt8),0,0,(⟨0,0⟩:Zd),(⟨0,0⟩:Zd),(⟨0,0⟩:Zd)⟩:Ze)))) (Zw8 v5 v6 v7 v8 v9 v10 v11 (Zar (Zy E0.Filter) (Zy (⟨0,0,0,0,0,0,0,([]:List UInt8),0,0,(⟨0,0⟩:Zd),(⟨0,0⟩:Zd),(⟨0,0⟩:Zd)⟩:Ze))))
def Zw9(E0:Z9)(v5:Bool)(v6:Bool)(v7:Bool)(v8:Bool)(v9:Bool)(v10:Bool):LT Zf7 Bool:=
.call (Zgu E0.Op 112) fun x1=>.br x1 (.cs (!(Zar ((cA6 (cI .i64)) E0.Pool) ((cA6 (cI .i64)) (⟨0,0,0,0,0,0⟩:(A6 Int))))) (.k3 1<|.call (Zarr E0.Pool) fun x5=>.k2 1<|.j0 (.L6 E0 v5 v6 v7 v8 v9 v10 (!(x5==([]:List UInt8)))) (Zq9 E0 v5 v6 v7 v8 v9 v10 (!(x5==([]:List UInt8)))))<|.k5 1<|.j0 (.L6 E0 v5 v6 v7 v8 v9 v10 false) (Zq9 E0 v5 v6 v7 v8 v9 v10 false))<|.j0 (.L6 E0 v5 v6 v7 v8 v9 v10 (Zar ((cA6 (cI .i64)) E0.Pool) ((cA6 (cI .i64)) (⟨0,0,0,0,0,0⟩:(A6 Int))))) (Zq9 E0 v5 v6 v7 v8 v9 v10 (Zar ((cA6 (cI .i64)) E0.Pool) ((cA6 (cI .i64)) (⟨0,0,0,0,0,0⟩:(A6 Int)))))
def Zxa(E0:Z9)(v5:Bool)(v6:Bool)(v7:Bool)(v8:Bool)(v9:Bool):LT Zf7 Bool:=
.len Zab E0.Mods<|.call (Zgu E0.Op 109) fun x2=>.br x2 (.call (Za7u E0.Mods) fun x5=>.j0 (.L5 E0 v5 v6 v7 v8 v9 x5) (Zw9 E0 v5 v6 v7 v8 v9 x5))<|.j0 (.L5 E0 v5 v6 v7 v8 v9 ((E0.Mods.length:Int)==0)) (Zw9 E0 v5 v6 v7 v8 v9 ((E0.Mods.length:Int)==0))
def Zxb(E0:Z9)(v5:Bool)(v6:Bool)(v7:Bool)(v8:Bool):LT Zf7 Bool:=
.call (Zgu E0.Op 97) fun x1=>.br x1 (.call (Zbdg E0.Amount) fun x4=>.j0 (.L4 E0 v5 v6 v7 v8 x4) (Zxa E0 v5 v6 v7 v8 x4))<|.j0 (.L4 E0 v5 v6 v7 v8 (Zar (Zbc E0.Amount) (Zbc (⟨0,0,0,(⟨0,0,0,0,0,0,0,([]:List UInt8),0,0,(⟨0,0⟩:Zd),(⟨0,0⟩:Zd),(⟨0,0⟩:Zd)⟩:Ze)⟩:Zbn)))) (Zxa E0 v5 v6 v7 v8 (Zar (Zbc E0.Amount) (Zbc (⟨0,0,0,(⟨0,0,0,0,0,0,0,([]:List UInt8),0,0,(⟨0,0⟩:Zd),(⟨0,0⟩:Zd),(⟨0,0⟩:Zd)⟩:Ze)⟩:Zbn))))
def Zra(E0:Z9)(v5:Bool)(v6:Bool)(v7:Bool):LT Zf7 Bool:=
.call (Zgu E0.Op 99) fun x1=>.br x1 (.call (Zaer E0.Card) fun x4=>.j0 (.L3 E0 v5 v6 v7 x4) (Zxb E0 v5 v6 v7 x4))<|.j0 (.L3 E0 v5 v6 v7 (E0.Card==([]:List UInt8))) (Zxb E0 v5 v6 v7 (E0.Card==([]:List UInt8)))
def Zmy(E0:Z9)(v5:Bool)(v6:Bool):LT Zf7 Bool:=
.cs (E0.Counter==0) (.k5 0<|.kg 0<|.j0 (.L2 E0 v5 v6 true) (Zra E0 v5 v6 true))<|.k3 0<|.call (Zgu E0.Op 107) fun x2=>.kg 0<|.cs x2 (.k3 1<|.call (Zakh E0.Counter) fun x5=>.kg 1<|.kg 0<|.kg 1<|.kg 0<|.j0 (.L2 E0 v5 v6 (!(x5==([]:List UInt8)))) (Zra E0 v5 v6 (!(x5==([]:List UInt8)))))<|.k4 1<|.kg 0<|.kg 1<|.kg 0<|.j0 (.L2 E0 v5 v6 false) (Zra E0 v5 v6 false)
def Zxc(E0:Z9)(v5:Bool):LT Zf7 Bool:=
.cs (E0.Zone==0) (.k8 0<|.j0 (.L1 E0 v5 true) (Zmy E0 v5 true))<|.k3 0<|.call (Zgu E0.Op 122) fun x2=>.kg 0<|.cs x2 (.k3 1<|.kg 0<|.kg 1<|.kg 0<|.cs (decide (E0.Zone > 0)) (.k3 2<|.kg 0<|.kg 2<|.kg 0<|.j0 (.L1 E0 v5 (decide (E0.Zone≤4))) (Zmy E0 v5 (decide (E0.Zone≤4))))<|.k3 2<|.kg 0<|.kg 2<|.kg 0<|.j0 (.L1 E0 v5 false) (Zmy E0 v5 false))<|.k3 1<|.kg 0<|.kg 1<|.kg 0<|.b3 false<|.kg 0<|.kb false<|.kg 0<|.j0 (.L1 E0 v5 false) (Zmy E0 v5 false)
def Za4b(a0:Z9)(a1:Int):LT Zf7 Bool:=
.lb 1002<|.call (Za7s a0.Op) fun x1=>.br (x1==([]:List UInt8)) (.rt false)<|.call (Zgu a0.Op 114) fun x4=>.br x4 (.call (Zbdf a0.Ref a1) fun x7=>.jn 0 (.L0 a0 x7) [.relab 1002 30000000] (Zxc a0 x7))<|.jn 0 (.L0 a0 (Zar (Zdp a0.Ref) (Zdp (⟨0,0,(⟨0,0,0,0,0,0,0,([]:List UInt8),0,0,(⟨0,0⟩:Zd),(⟨0,0⟩:Zd),(⟨0,0⟩:Zd)⟩:Ze)⟩:Zed)))) [.relab 1002 30000000] (Zxc a0 (Zar (Zdp a0.Ref) (Zdp (⟨0,0,(⟨0,0,0,0,0,0,0,([]:List UInt8),0,0,(⟨0,0⟩:Zd),(⟨0,0⟩:Zd),(⟨0,0⟩:Zd)⟩:Ze)⟩:Zed))))
def Za4c:LF Zf7 Bool:=⟨183,[.t 4],false,fun | .L0 .. => [1,1,1,1] | .L1 .. => [1,1,1,1,1] | .L2 .. => [1,1,1,1,1,1] | .L3 .. => [1,1,1,1,1,1,1,1] | .L4 .. => [1,1,1,1,1,1,1,1,1,1] | .L5 .. => [1,1,1,1,1,1,1,1,1,1,1,1] | .L6 .. => [1,1,1,1,1,1,1,1,1,1,1,1,1,1] | .L7 .. => [1,1,1,1,1,1,1,1,1,1,1,1,1,1,1,1],
 fun | .L0 E0 v5=>⟨138,[(2,(.bptr 30000000 0)),(5,(wB v5))],[(30000000,.box (bx (Zaf E0)))]⟩ | .L1 E0 v5 v6=>⟨138,[(2,(.bptr 30000000 0)),(5,(wB v5)),(6,(wB v6))],[(30000000,.box (bx (Zaf E0)))]⟩ | .L2 E0 v5 v6 v7=>⟨138,[(2,(.bptr 30000000 0)),(5,(wB v5)),(6,(wB v6)),(7,(wB v7))],[(30000000,.box (bx (Zaf E0)))]⟩ | .L3 E0 v5 v6 v7 v8=>⟨138,[(2,(.bptr 30000000 0)),(5,(wB v5)),(6,(wB v6)),(7,(wB v7)),(8,(wB v8))],[(30000000,.box (bx (Zaf E0)))]⟩ | .L4 E0 v5 v6 v7 v8 v9=>⟨138,[(2,(.bptr 30000000 0)),(5,(wB v5)),(6,(wB v6)),(7,(wB v7)),(8,(wB v8)),(9,(wB v9))],[(30000000,.box (bx (Zaf E0)))]⟩ | .L5 E0 v5 v6 v7 v8 v9 v10=>⟨138,[(2,(.bptr 30000000 0)),(5,(wB v5)),(6,(wB v6)),(7,(wB v7)),(8,(wB v8)),(9,(wB v9)),(10,(wB v10))],[(30000000,.box (bx (Zaf E0)))]⟩ | .L6 E0 v5 v6 v7 v8 v9 v10 v11=>⟨138,[(2,(.bptr 30000000 0)),(5,(wB v5)),(6,(wB v6)),(7,(wB v7)),(8,(wB v8)),(9,(wB v9)),(10,(wB v10)),(11,(wB v11))],[(30000000,.box (bx (Zaf E0)))]⟩ | .L7 v5 v6 v7 v8 v9 v10 v11 v12=>⟨138,[(5,(wB v5)),(6,(wB v6)),(7,(wB v7)),(8,(wB v8)),(9,(wB v9)),(10,(wB v10)),(11,(wB v11)),(12,(wB v12))],[]⟩,
 fun r=>[],fun r=>(wB r),fun | .L0 E0 v5=>Zxc E0 v5 | .L1 E0 v5 v6=>Zmy E0 v5 v6 | .L2 E0 v5 v6 v7=>Zra E0 v5 v6 v7 | .L3 E0 v5 v6 v7 v8=>Zxb E0 v5 v6 v7 v8 | .L4 E0 v5 v6 v7 v8 v9=>Zxa E0 v5 v6 v7 v8 v9 | .L5 E0 v5 v6 v7 v8 v9 v10=>Zw9 E0 v5 v6 v7 v8 v9 v10 | .L6 E0 v5 v6 v7 v8 v9 v10 v11=>Zq9 E0 v5 v6 v7 v8 v9 v10 v11 | .L7 v5 v6 v7 v8 v9 v10 v11 v12=>Zw8 v5 v6 v7 v8 v9 v10 v11 v12⟩
def Za4d(a0:Z9)(a1:Int):Option Bool:=Za4c.run (Za4b a0 a1)
theorem Zbdh(a0:Z9)(a1:Int){r:Bool}(h:Za4d a0 a1=some r):Fn PR 183 [(wA (Zaf a0)),(wI a1)] (wB r):=Za4c.fn h
inductive Zkr where
 | L0 (v0:(List Z9)) (v1:Int) (v5:Int)
def Zud(v0:(List Z9))(v1:Int)(v5:Int):LT Zkr Bool:=
.len Zaf v0<|.br (decide (v5 < (v0.length:Int))) (.idx Zaf v0 v5 fun x3=>.call (Zbdh x3 v1) fun x5=>.br (!x5) (.rt false)<|.g0 (.L0 v0 v1 (IntKind.wrap .i64 (v5+1))))<|.len Zaf v0<|.cs (decide ((v0.length:Int)≥1)) (.k2 1<|.len Zaf v0<|.k2 1<|.rt (decide ((v0.length:Int)≤8)))<|.k4 1<|.rt false
def Zabq(a0:(List Z9))(a1:Int):LT Zkr Bool:=
.g0 (.L0 a0 a1 0)
def Zabr:LF Zkr Bool:=⟨139,[.t 4],false,fun | .L0 .. => [1,0,1,4],
 fun | .L0 v0 v1 v5=>⟨27,[(0,(wL Zaf v0)),(1,(wI v1)),(5,(wI v5))],[]⟩,
 fun r=>[],fun r=>(wB r),fun | .L0 v0 v1 v5=>Zud v0 v1 v5⟩
def Z6c(a0:(List Z9))(a1:Int):Option Bool:=Zabr.run (Zabq a0 a1)
theorem Zavk(a0:(List Z9))(a1:Int){r:Bool}(h:Z6c a0 a1=some r):Fn PR 139 [(wL Zaf a0),(wI a1)] (wB r):=Zabr.fn h
inductive Zkg where
 | L0 (E0:Zt) (v3:Bool)
 | L1 (E0:Zt) (v3:Bool)
 | L2 (E0:Zt) (v3:Bool)
 | L3 (E0:Zt) (v3:Bool)
 | L4 (E0:Zt) (v3:Bool)
def Zxd(E0:Zt)(v3:Bool):LT Zkg Bool:=
.br v3 (.call (Za34 E0.Specs) fun x2=>.cs x2 (.k5 1<|.len Z4 E0.Specs<|.kg 1<|.call (Zavk E0.Effects (E0.Specs.length:Int)) fun x6=>.kg 1<|.rt x6)<|.k5 1<|.k2 1<|.rt false)<|.len Z4 E0.Specs<|.cs ((E0.Specs.length:Int)==0) (.k3 1<|.len Zaf E0.Effects<|.k2 1<|.rt ((E0.Effects.length:Int)==0))<|.k5 1<|.rt false
def Zxe(E0:Zt)(v3:Bool):LT Zkg Bool:=
.br (E0.Kind==5) (.call (Zbde E0.Replace) fun x2=>.br (!x2) (.rt false)<|.j0 (.L4 E0 v3) (Zxd E0 v3))<|.br (!(Zar (Zb6 E0.Replace) (Zb6 (⟨0,0,(⟨0,0,0,0,0,0,0,([]:List UInt8),0,0,(⟨0,0⟩:Zd),(⟨0,0⟩:Zd),(⟨0,0⟩:Zd)⟩:Ze),0,0,0,0⟩:Za6)))) (.rt false)<|.j0 (.L4 E0 v3) (Zxd E0 v3)
def Zxf(E0:Zt)(v3:Bool):LT Zkg Bool:=
.br (E0.Kind==4) (.call (Zbdd E0.Trigger) fun x2=>.br (!x2) (.rt false)<|.j0 (.L3 E0 v3) (Zxe E0 v3))<|.cs (!(Zar (Zdu E0.Trigger) (Zdu (⟨0,0,(⟨0,0,0,0,0,0,0,([]:List UInt8),0,0,(⟨0,0⟩:Zd),(⟨0,0⟩:Zd),(⟨0,0⟩:Zd)⟩:Ze)⟩:Zce)))) (.k3 1<|.kn [0]<|.rt false)<|.k3 1<|.br E0.May (.rt false)<|.j0 (.L3 E0 v3) (Zxe E0 v3)
def Zxg(E0:Zt)(v3:Bool):LT Zkg Bool:=
.br (E0.Kind==3) (.call (Za3v E0.Price) fun x2=>.br (!x2) (.rt false)<|.j0 (.L2 E0 v3) (Zxf E0 v3))<|.cs (!(Zar (Zfp E0.Price) (Zfp (⟨(⟨0,0,(⟨0,0,0,0,0⟩:(A5 Int))⟩:Z1),false,false,0⟩:Zft)))) (.k3 1<|.kn [0]<|.rt false)<|.k3 1<|.br E0.Slow (.rt false)<|.j0 (.L2 E0 v3) (Zxf E0 v3)
def Zrb(E0:Zt)(v3:Bool):LT Zkg Bool:=
.br (E0.Kind==1) (.call (Zfc E0.Filter) fun x2=>.cs (!x2) (.k5 1<|.b5 true<|.kn [0]<|.rt false)<|.k5 1<|.cs (E0.Filter.Zone != 0) (.k5 2<|.kn [0]<|.rt false)<|.k3 2<|.call (Zr4 E0.Mods) fun x6=>.k2 2<|.br (x6==([]:List UInt8)) (.rt false)<|.j0 (.L1 E0 v3) (Zxg E0 v3))<|.cs (!(Zar (Zy E0.Filter) (Zy (⟨0,0,0,0,0,0,0,([]:List UInt8),0,0,(⟨0,0⟩:Zd),(⟨0,0⟩:Zd),(⟨0,0⟩:Zd)⟩:Ze)))) (.k5 1<|.kn [0]<|.rt false)<|.k3 1<|.len Zab E0.Mods<|.k2 1<|.br (decide ((E0.Mods.length:Int) > 0)) (.rt false)<|.j0 (.L1 E0 v3) (Zxg E0 v3)
def Za4e(a0:Zt):LT Zkg Bool:=
.lb 1001<|.cs (decide (a0.Kind < 1)) (.k4 0<|.kn [0]<|.rt false)<|.k4 0<|.br (decide (a0.Kind > 5)) (.rt false)<|.cs (a0.Kind==2) (.k4 2<|.b4 true<|.jn 0 (.L0 a0 true) [.relab 1001 30000000] (Zrb a0 true))<|.k4 2<|.cs (a0.Kind==3) (.k4 3<|.jn 0 (.L0 a0 true) [.relab 1001 30000000] (Zrb a0 true))<|.k4 3<|.jn 0 (.L0 a0 (a0.Kind==4)) [.relab 1001 30000000] (Zrb a0 (a0.Kind==4))
def Za4f:LF Zkg Bool:=⟨88,[.t 2],false,fun | .L0 .. => [1,1,1] | .L1 .. => [1,1,1,1] | .L2 .. => [1,1,1,1,1] | .L3 .. => [1,1,1,1,1,1] | .L4 .. => [1,1,1,1,1,1,1],
 fun | .L0 E0 v3=>⟨117,[(1,(.bptr 30000000 0)),(3,(wB v3))],[(30000000,.box (bx (Z3 E0)))]⟩ | .L1 E0 v3=>⟨117,[(1,(.bptr 30000000 0)),(3,(wB v3))],[(30000000,.box (bx (Z3 E0)))]⟩ | .L2 E0 v3=>⟨117,[(1,(.bptr 30000000 0)),(3,(wB v3))],[(30000000,.box (bx (Z3 E0)))]⟩ | .L3 E0 v3=>⟨117,[(1,(.bptr 30000000 0)),(3,(wB v3))],[(30000000,.box (bx (Z3 E0)))]⟩ | .L4 E0 v3=>⟨117,[(1,(.bptr 30000000 0)),(3,(wB v3))],[(30000000,.box (bx (Z3 E0)))]⟩,
 fun r=>[],fun r=>(wB r),fun | .L0 E0 v3=>Zrb E0 v3 | .L1 E0 v3=>Zxg E0 v3 | .L2 E0 v3=>Zxf E0 v3 | .L3 E0 v3=>Zxe E0 v3 | .L4 E0 v3=>Zxd E0 v3⟩
def Za4g(a0:Zt):Option Bool:=Za4f.run (Za4e a0)
theorem Z4w(a0:Zt){r:Bool}(h:Za4g a0=some r):Fn PR 88 [(wA (Z3 a0))] (wB r):=Za4f.fn h
def Zars(a0:Zq):LT Empty Bool:=
.lb 1001<|.cs (a0.Line.Types==2) (.k5 0<|.rt true)<|.k5 0<|.rt (a0.Line.Types==4)
def Zart:LF Empty Bool := .z 89 [.t 2] false (fun r=>[]) (fun r=>(wB r))
def Zann(a0:Zq):Option Bool:=Zart.run (Zars a0)
theorem Za7x(a0:Zq){r:Bool}(h:Zann a0=some r):Fn PR 89 [(wA (Zad a0))] (wB r):=Zart.fn h
inductive Zue where
 | L0 (E0:Zq)
 | L1 (E0:Zq) (v3:Int) (v4:Int)
def Zxh(E0:Zq):LT Zue Bool:=
.g0 (.L1 E0 0 0)
def Zae9(E0:Zq)(v3:Int)(v4:Int):LT Zue Bool:=
.len Z3 E0.Abilities<|.br (decide (v4 < (E0.Abilities.length:Int))) (.idx Z3 E0.Abilities v4 fun x3=>.call (Z4w x3) fun x5=>.br (!x5) (.rt false)<|.ag Z3 x3 0<|.br (x3.Kind==2) (.g0 (.L1 E0 (IntKind.wrap .i64 (v3+1)) (IntKind.wrap .i64 (v4+1))))<|.g0 (.L1 E0 v3 (IntKind.wrap .i64 (v4+1))))<|.call (Za7x E0) fun x15=>.br x15 (.cs (!E0.Token) (.k4 2<|.cs (E0.Keys==0) (.k3 3<|.len Z3 E0.Abilities<|.k2 3<|.cs ((E0.Abilities.length:Int)==1) (.k3 4<|.rt (v3==1))<|.k3 4<|.rt false)<|.k5 3<|.b3 false<|.rt false)<|.k4 2<|.b8 false<|.rt false)<|.cs (v3==0) (.k4 2<|.cs (!E0.Token) (.k5 3<|.kg 2<|.kg 3<|.kg 2<|.cs ((Zbm .and .i64 E0.Line.Types 32)==0) (.k4 4<|.kg 2<|.kg 4<|.kg 2<|.rt true)<|.k4 4<|.kg 2<|.kg 4<|.kg 2<|.rt (Zar (Zaz E0.Cost) (Zaz (⟨0,0,(⟨0,0,0,0,0⟩:(A5 Int))⟩:Z1))))<|.k5 3<|.kg 2<|.kg 3<|.kg 2<|.b4 false<|.kg 2<|.kb false<|.kg 2<|.rt (Zar (Zaz E0.Cost) (Zaz (⟨0,0,(⟨0,0,0,0,0⟩:(A5 Int))⟩:Z1))))<|.k8 2<|.rt false
def Za4h(a0:Zq):LT Zue Bool:=
.lb 1001<|.call (Zaer a0.Name) fun x1=>.cs (!x1) (.k5 0<|.b16 true<|.b2 true<|.kn [0]<|.rt false)<|.k3 0<|.call (Zwv a0.Cost) fun x4=>.k2 0<|.cs (!x4) (.k5 1<|.b8 true<|.b5 true<|.kn [0]<|.rt false)<|.k3 1<|.call (Zbdb a0.Line) fun x7=>.k2 1<|.cs (!x7) (.k5 2<|.b8 true<|.kn [0]<|.rt false)<|.k3 2<|.call (Zayl a0.Keys) fun x10=>.k2 2<|.cs (!x10) (.k4 3<|.b4 true<|.kn [0]<|.rt false)<|.k4 3<|.cs (decide (a0.Color < 0)) (.k4 4<|.kn [0]<|.rt false)<|.k4 4<|.br (decide (a0.Color > 31)) (.rt false)<|.cs (decide (a0.Power < 0)) (.k4 6<|.b16 true<|.b3 true<|.kn [0]<|.rt false)<|.k4 6<|.cs (decide (a0.Power > 99)) (.k4 7<|.b8 true<|.b5 true<|.b2 true<|.kn [0]<|.rt false)<|.k4 7<|.cs (decide (a0.Tough < 0)) (.k4 8<|.b8 true<|.b3 true<|.kn [0]<|.rt false)<|.k4 8<|.cs (decide (a0.Tough > 99)) (.k5 9<|.kg 9<|.b5 true<|.kn [0]<|.rt false)<|.k2 9<|.call (Zaqn a0) fun x19=>.k2 9<|.cs (!x19) (.k4 10<|.cs (a0.Power != 0) (.k3 11<|.kg 10<|.kg 11<|.kg 9<|.kg 10<|.kg 9<|.b5 true<|.kn [0]<|.rt false)<|.k3 11<|.kg 10<|.kg 11<|.kg 9<|.kg 10<|.kg 9<|.cs (a0.Tough != 0) (.k5 12<|.kn [0]<|.rt false)<|.k3 12<|.len Z3 a0.Abilities<|.k2 12<|.br (decide ((a0.Abilities.length:Int) > 8)) (.rt false)<|.jn 0 (.L0 a0) [.relab 1001 30000000] (Zxh a0))<|.k5 10<|.kg 9<|.kg 10<|.kg 9<|.b3 false<|.len Z3 a0.Abilities<|.b2 false<|.br (decide ((a0.Abilities.length:Int) > 8)) (.rt false)<|.jn 0 (.L0 a0) [.relab 1001 30000000] (Zxh a0)
def Za4i:LF Zue Bool:=⟨52,[.t 2],false,fun | .L0 .. => [1,1,1] | .L1 .. => [1,1,1,1,0,1,4],
 fun | .L0 E0=>⟨139,[(1,(.bptr 30000000 0))],[(30000000,.box (bx (Zad E0)))]⟩ | .L1 E0 v3 v4=>⟨139,[(1,(.bptr 30000000 0)),(3,(wI v3)),(4,(wI v4))],[(30000000,.box (bx (Zad E0)))]⟩,
 fun r=>[],fun r=>(wB r),fun | .L0 E0=>Zxh E0 | .L1 E0 v3 v4=>Zae9 E0 v3 v4⟩
def Za4j(a0:Zq):Option Bool:=Za4i.run (Za4h a0)
theorem Zbdi(a0:Zq){r:Bool}(h:Za4j a0=some r):Fn PR 52 [(wA (Zad a0))] (wB r):=Za4i.fn h
inductive Zr7 where
 | L0 (v0:(List Zq)) (v1:(List UInt8)) (v5:Int)
def Z6d(v0:(List Zq))(v1:(List UInt8))(v5:Int):LT Zr7 Int:=
.len Zad v0<|.br (decide (v5 < (v0.length:Int))) (.idx Zad v0 v5 fun x3=>.br (x3.Name==v1) (.rt v5)<|.g0 (.L0 v0 v1 (IntKind.wrap .i64 (v5+1))))<|.rt (-1)
def Zaru(a0:(List Zq))(a1:(List UInt8)):LT Zr7 Int:=
.g0 (.L0 a0 a1 0)
def Zarv:LF Zr7 Int:=⟨53,[.t 4],false,fun | .L0 .. => [1,0,1,4],
 fun | .L0 v0 v1 v5=>⟨20,[(0,(wL Zad v0)),(1,(wS v1)),(5,(wI v5))],[]⟩,
 fun r=>[],fun r=>(wI r),fun | .L0 v0 v1 v5=>Z6d v0 v1 v5⟩
def Zano(a0:(List Zq))(a1:(List UInt8)):Option Int:=Zarv.run (Zaru a0 a1)
theorem Za7y(a0:(List Zq))(a1:(List UInt8)){r:Int}(h:Zano a0 a1=some r):Fn PR 53 [(wL Zad a0),(wS a1)] (wI r):=Zarv.fn h
inductive Zpf where
 | L0 (v0:(List Zq)) (v1:(List UInt8)) (v5:Int)
def Z1n(v0:(List Zq))(v1:(List UInt8))(v5:Int):LT Zpf Bool:=
.len Zad v0<|.br (decide (v5 < (v0.length:Int))) (.idx Zad v0 v5 fun x3=>.cs (x3.Name==v1) (.k3 1<|.ag Zad x3 0<|.k3 1<|.br x3.Token (.rt true)<|.g0 (.L0 v0 v1 (IntKind.wrap .i64 (v5+1))))<|.k5 1<|.kg 1<|.kn [0]<|.g0 (.L0 v0 v1 (IntKind.wrap .i64 (v5+1))))<|.rt false
def Zaki(a0:(List Zq))(a1:(List UInt8)):LT Zpf Bool:=
.g0 (.L0 a0 a1 0)
def Zakj:LF Zpf Bool:=⟨90,[.t 4],false,fun | .L0 .. => [1,0,1,4],
 fun | .L0 v0 v1 v5=>⟨26,[(0,(wL Zad v0)),(1,(wS v1)),(5,(wI v5))],[]⟩,
 fun r=>[],fun r=>(wB r),fun | .L0 v0 v1 v5=>Z1n v0 v1 v5⟩
def Zafa(a0:(List Zq))(a1:(List UInt8)):Option Bool:=Zakj.run (Zaki a0 a1)
theorem Za4k(a0:(List Zq))(a1:(List UInt8)){r:Bool}(h:Zafa a0 a1=some r):Fn PR 90 [(wL Zad a0),(wS a1)] (wB r):=Zakj.fn h
inductive Zhu where
 | L0 (v0:(List Zq)) (E0:Zq) (v5:Int)
 | L1 (v0:(List Zq)) (E0:Zq) (v5:Int) (v6:Int)
def Zuf(v0:(List Zq))(E0:Zq)(v5:Int):LT Zhu Bool:=
.len Z3 E0.Abilities<|.br (decide (v5 < (E0.Abilities.length:Int))) (.g0 (.L1 v0 E0 v5 0))<|.rt true
def Zug(v0:(List Zq))(E0:Zq)(v5:Int)(v6:Int):LT Zhu Bool:=
.idx Z3 E0.Abilities v5 fun x1=>.len Zaf x1.Effects<|.br (decide (v6 < (x1.Effects.length:Int))) (.ag Z3 x1 0<|.idx Zaf x1.Effects v6 fun x5=>.lb 1007<|.cs (x5.Op==12) (.k4 1<|.call (Za4k v0 x5.Card) fun x8=>.k2 1<|.br (!x8) (.rt false)<|.g0 (.L1 v0 E0 v5 (IntKind.wrap .i64 (v6+1))))<|.k5 1<|.kg 1<|.kn [0]<|.g0 (.L1 v0 E0 v5 (IntKind.wrap .i64 (v6+1))))<|.g0 (.L0 v0 E0 (IntKind.wrap .i64 (v5+1)))
def Zabs(a0:(List Zq))(a1:Zq):LT Zhu Bool:=
.lb 1003<|.go (.L0 a0 a1 0) [.relab 1003 30000000]
def Zabt:LF Zhu Bool:=⟨54,[.t 4],false,fun | .L0 .. => [1,0,1,4] | .L1 .. => [1,0,1,4,5,1,0,4,1,4],
 fun | .L0 v0 E0 v5=>⟨45,[(0,(wL Zad v0)),(3,(.bptr 30000000 0)),(5,(wI v5))],[(30000000,.box (bx (Zad E0)))]⟩ | .L1 v0 E0 v5 v6=>⟨45,[(0,(wL Zad v0)),(3,(.bptr 30000000 0)),(5,(wI v5)),(6,(wI v6))],[(30000000,.box (bx (Zad E0)))]⟩,
 fun r=>[],fun r=>(wB r),fun | .L0 v0 E0 v5=>Zuf v0 E0 v5 | .L1 v0 E0 v5 v6=>Zug v0 E0 v5 v6⟩
def Z6e(a0:(List Zq))(a1:Zq):Option Bool:=Zabt.run (Zabs a0 a1)
theorem Zavl(a0:(List Zq))(a1:Zq){r:Bool}(h:Z6e a0 a1=some r):Fn PR 54 [(wL Zad a0),(wA (Zad a1))] (wB r):=Zabt.fn h
inductive Zpg where
 | L0 (v0:(List Zq)) (v4:Int)
def Z1o(v0:(List Zq))(v4:Int):LT Zpg (Int×Int):=
.len Zad v0<|.br (decide (v4 < (v0.length:Int))) (.idx Zad v0 v4 fun x3=>.call (Zbdi x3) fun x5=>.br (!x5) (.rt (v4,9))<|.ag Zad x3 0<|.call (Za7y v0 x3.Name) fun x8=>.br (decide (x8 < v4)) (.rt (v4,6))<|.ag Zad x3 0<|.call (Zavl v0 x3) fun x11=>.br (!x11) (.rt (v4,7))<|.g0 (.L0 v0 (IntKind.wrap .i64 (v4+1))))<|.rt ((-1),0)
def Zakk(a0:(List Zq)):LT Zpg (Int×Int):=
.len Zad a0<|.br (decide ((a0.length:Int) > 256)) (.rt ((-1),5))<|.g0 (.L0 a0 0)
def Zakl:LF Zpg (Int×Int):=⟨26,[.t 2,.t 3],false,fun | .L0 .. => [1,1,0,1,4],
 fun | .L0 v0 v4=>⟨39,[(0,(wL Zad v0)),(4,(wI v4))],[]⟩,
 fun r=>[],fun r=>(.tup [(wI r.1),(wI r.2)]),fun | .L0 v0 v4=>Z1o v0 v4⟩
def Zafb(a0:(List Zq)):Option (Int×Int):=Zakl.run (Zakk a0)
theorem Za4l(a0:(List Zq)){r:(Int×Int)}(h:Zafb a0=some r):Fn PR 26 [(wL Zad a0)] (.tup [(wI r.1),(wI r.2)]):=Zakl.fn h
def Za4m(a0:Int)(a1:Int)(a2:Int):LT Empty Bool:=
.cs (decide (a0≥a1)) (.k4 0<|.rt (decide (a0≤a2)))<|.k4 0<|.rt false
def Za4n:LF Empty Bool := .z 55 [.t 6] false (fun r=>[]) (fun r=>(wB r))
def Za4o(a0:Int)(a1:Int)(a2:Int):Option Bool:=Za4n.run (Za4m a0 a1 a2)
theorem Zd4(a0:Int)(a1:Int)(a2:Int){r:Bool}(h:Za4o a0 a1 a2=some r):Fn PR 55 [(wI a0),(wI a1),(wI a2)] (wB r):=Za4n.fn h
inductive Zph where
 | L0 (E0:(A6 Int)) (v3:Int)
def Z1p(E0:(A6 Int))(v3:Int):LT Zph Bool:=
.br (decide (v3 < 6)) (.idA (Zn.int .i64) (A6.list E0) v3 (bx ((cA6 (cI .i64)) E0)) 0 6 fun x2=>.ldC (Zn.int .i64) 10 x2 0<|.cs (decide (x2 < 0)) (.k5 1<|.kn [0]<|.rt false)<|.k2 1<|.idA (Zn.int .i64) (A6.list E0) v3 (bx ((cA6 (cI .i64)) E0)) 0 6 fun x5=>.kg 1<|.ldC (Zn.int .i64) 15 x5 1<|.k2 1<|.br (decide (x5 > 1000000)) (.rt false)<|.g0 (.L0 E0 (IntKind.wrap .i64 (v3+1))))<|.rt true
def Zakm(a0:(A6 Int)):LT Zph Bool:=
.lb 1001<|.go (.L0 a0 0) [.relab 1001 30000000]
def Zakn:LF Zph Bool:=⟨91,[.t 2],false,fun | .L0 .. => [1,0,1,4],
 fun | .L0 E0 v3=>⟨18,[(1,(.bptr 30000000 0)),(3,(wI v3))],[(30000000,.box (bx ((cA6 (cI .i64)) E0)))]⟩,
 fun r=>[],fun r=>(wB r),fun | .L0 E0 v3=>Z1p E0 v3⟩
def Zafc(a0:(A6 Int)):Option Bool:=Zakn.run (Zakm a0)
theorem Za4p(a0:(A6 Int)){r:Bool}(h:Zafc a0=some r):Fn PR 91 [(wA ((cA6 (cI .i64)) a0))] (wB r):=Zakn.fn h
inductive Zpi where
 | L0 (v1:Int) (E0:Zb) (v5:Int)
def Z1q(v1:Int)(E0:Zb)(v5:Int):LT Zpi Int:=
.len Zs E0.Objects<|.br (decide (v5 < (E0.Objects.length:Int))) (.idx Zs E0.Objects v5 fun x3=>.br (x3.Id==v1) (.rt v5)<|.g0 (.L0 v1 E0 (IntKind.wrap .i64 (v5+1))))<|.rt (-1)
def Zako(a0:Zb)(a1:Int):LT Zpi Int:=
.lb 1002<|.go (.L0 a1 a0 0) [.relab 1002 30000000]
def Zakp:LF Zpi Int:=⟨217,[.t 4],false,fun | .L0 .. => [1,0,1,4],
 fun | .L0 v1 E0 v5=>⟨22,[(1,(wI v1)),(2,(.bptr 30000000 0)),(5,(wI v5))],[(30000000,.box (bx (Zu E0)))]⟩,
 fun r=>[],fun r=>(wI r),fun | .L0 v1 E0 v5=>Z1q v1 E0 v5⟩
def Zafd(a0:Zb)(a1:Int):Option Int:=Zakp.run (Zako a0 a1)
theorem Za4q(a0:Zb)(a1:Int){r:Int}(h:Zafd a0 a1=some r):Fn PR 217 [(wA (Zu a0)),(wI a1)] (wI r):=Zakp.fn h
def Zarw(a0:Zb)(a1:Int):LT Empty (Zl×Bool):=
.lb 1002<|.lb 1004<|.call (Za4q a0 a1) fun x1=>.br (decide (x1 < 0)) (.rt ((⟨0,0,0,0,0,false,false,false,false,0,(⟨0,0,0⟩:(A3 Int)),0,0,0,false,0,0⟩:Zl),false))<|.idx Zs a0.Objects x1 fun x4=>.rt (x4,true)
def Zarx:LF Empty (Zl×Bool) := .z 184 [.c 4 67 true 19,.t 5] false (fun r=>[]) (fun r=>(.tup [(wA (Zs r.1)),(wB r.2)]))
def Zanp(a0:Zb)(a1:Int):Option (Zl×Bool):=Zarx.run (Zarw a0 a1)
theorem Za7z(a0:Zb)(a1:Int){r:(Zl×Bool)}(h:Zanp a0 a1=some r):Fn PR 184 [(wA (Zu a0)),(wI a1)] (.tup [(wA (Zs r.1)),(wB r.2)]):=Zarx.fn h
def Zafe(a0:Zb)(a1:Int):LT Empty (Zl×Bool):=
.lb 1002<|.lb 1004<|.call (Za7z a0 a1) fun x1=>.rt (x1.1,x1.2)
def Zaff:LF Empty (Zl×Bool) := .z 140 [.c 4 67 true 19,.t 5] false (fun r=>[]) (fun r=>(.tup [(wA (Zs r.1)),(wB r.2)]))
def Z99(a0:Zb)(a1:Int):Option (Zl×Bool):=Zaff.run (Zafe a0 a1)
theorem Zabu(a0:Zb)(a1:Int){r:(Zl×Bool)}(h:Z99 a0 a1=some r):Fn PR 140 [(wA (Zu a0)),(wI a1)] (.tup [(wA (Zs r.1)),(wB r.2)]):=Zaff.fn h
inductive Zpj where
 | L0 (v0:(List Int)) (v1:Int) (v5:Int) (v6:Int)
def Z1r(v0:(List Int))(v1:Int)(v5:Int)(v6:Int):LT Zpj Int:=
.len (cI .i64) v0<|.br (decide (v6 < (v0.length:Int))) (.idx (cI .i64) v0 v6 fun x3=>.br (x3==v1) (.g0 (.L0 v0 v1 (IntKind.wrap .i64 (v5+1)) (IntKind.wrap .i64 (v6+1))))<|.g0 (.L0 v0 v1 v5 (IntKind.wrap .i64 (v6+1))))<|.rt v5
def Zakq(a0:(List Int))(a1:Int):LT Zpj Int:=
.g0 (.L0 a0 a1 0 0)
def Zakr:LF Zpj Int:=⟨141,[.t 4],false,fun | .L0 .. => [1,1,0,1,4],
 fun | .L0 v0 v1 v5 v6=>⟨22,[(0,(wL (cI .i64) v0)),(1,(wI v1)),(5,(wI v5)),(6,(wI v6))],[]⟩,
 fun r=>[],fun r=>(wI r),fun | .L0 v0 v1 v5 v6=>Z1r v0 v1 v5 v6⟩
def Zafg(a0:(List Int))(a1:Int):Option Int:=Zakr.run (Zakq a0 a1)
theorem Z1s(a0:(List Int))(a1:Int){r:Int}(h:Zafg a0 a1=some r):Fn PR 141 [(wL (cI .i64) a0),(wI a1)] (wI r):=Zakr.fn h
inductive Zr8 where
 | L0 (v1:(List Int)) (v2:Int) (v3:Int) (E0:Zb) (v9:Int)
def Z6f(v1:(List Int))(v2:Int)(v3:Int)(E0:Zb)(v9:Int):LT Zr8 Bool:=
.len (cI .i64) v1<|.br (decide (v9 < (v1.length:Int))) (.idx (cI .i64) v1 v9 fun x3=>.call (Zabu E0 x3) fun x5=>.lb 1010<|.cs (!x5.2) (.k5 1<|.b8 true<|.b5 true<|.kn [0]<|.rt false)<|.k5 1<|.cs (x5.1.Zone != v2) (.k5 2<|.b8 true<|.kn [0]<|.rt false)<|.k3 2<|.cs (decide (v3≥0)) (.k4 3<|.kg 2<|.kg 3<|.kg 2<|.cs (x5.1.Owner != v3) (.k8 4<|.kn [0]<|.rt false)<|.k4 4<|.ag (cI .i64) x3 0<|.k2 4<|.call (Z1s v1 x3) fun x11=>.k2 4<|.br (x11 != 1) (.rt false)<|.g0 (.L0 v1 v2 v3 E0 (IntKind.wrap .i64 (v9+1))))<|.k4 3<|.kg 2<|.kg 3<|.kg 2<|.b4 false<|.ag (cI .i64) x3 0<|.b2 false<|.call (Z1s v1 x3) fun x16=>.b2 false<|.br (x16 != 1) (.rt false)<|.g0 (.L0 v1 v2 v3 E0 (IntKind.wrap .i64 (v9+1))))<|.rt true
def Zary(a0:Zb)(a1:(List Int))(a2:Int)(a3:Int):LT Zr8 Bool:=
.lb 1004<|.go (.L0 a1 a2 a3 a0 0) [.relab 1004 30000000]
def Zarz:LF Zr8 Bool:=⟨92,[.t 8],false,fun | .L0 .. => [1,0,1,4],
 fun | .L0 v1 v2 v3 E0 v9=>⟨54,[(1,(wL (cI .i64) v1)),(2,(wI v2)),(3,(wI v3)),(4,(.bptr 30000000 0)),(9,(wI v9))],[(30000000,.box (bx (Zu E0)))]⟩,
 fun r=>[],fun r=>(wB r),fun | .L0 v1 v2 v3 E0 v9=>Z6f v1 v2 v3 E0 v9⟩
def Zanq(a0:Zb)(a1:(List Int))(a2:Int)(a3:Int):Option Bool:=Zarz.run (Zary a0 a1 a2 a3)
theorem Zpk(a0:Zb)(a1:(List Int))(a2:Int)(a3:Int){r:Bool}(h:Zanq a0 a1 a2 a3=some r):Fn PR 92 [(wA (Zu a0)),(wL (cI .i64) a1),(wI a2),(wI a3)] (wB r):=Zarz.fn h
inductive Zks where
 | L0 (E0:Zb) (v3:Int)
def Zuh(E0:Zb)(v3:Int):LT Zks Bool:=
.len Zag E0.Players<|.br (decide (v3 < (E0.Players.length:Int))) (.idx Zag E0.Players v3 fun x3=>.lb 1004<|.call (Zd4 x3.Life (-1000000) 1000000) fun x5=>.cs (!x5) (.k5 1<|.b8 true<|.b2 true<|.kn [0]<|.rt false)<|.k3 1<|.call (Zd4 x3.Venom 0 1000000) fun x8=>.k2 1<|.cs (!x8) (.k5 2<|.b5 true<|.kn [0]<|.rt false)<|.k3 2<|.call (Zd4 x3.Lands 0 1000000) fun x11=>.k2 2<|.cs (!x11) (.k5 3<|.kn [0]<|.rt false)<|.k3 3<|.call (Za4p x3.Pool) fun x14=>.k2 3<|.br (!x14) (.rt false)<|.call (Zpk E0 x3.Library 2 v3) fun x17=>.cs (!x17) (.k5 5<|.k2 5<|.b5 true<|.b2 true<|.kn [0]<|.rt false)<|.k5 5<|.call (Zpk E0 x3.Hand 1 v3) fun x20=>.k2 5<|.cs (!x20) (.k5 6<|.k2 6<|.kn [0]<|.rt false)<|.k5 6<|.call (Zpk E0 x3.Graveyard 3 v3) fun x23=>.k2 6<|.br (!x23) (.rt false)<|.g0 (.L0 E0 (IntKind.wrap .i64 (v3+1))))<|.call (Zpk E0 E0.Battlefield 0 (-1)) fun x28=>.cs x28 (.k4 1<|.call (Zpk E0 E0.Exile 4 (-1)) fun x31=>.kg 1<|.rt x31)<|.k5 1<|.rt false
def Zabv(a0:Zb):LT Zks Bool:=
.lb 1001<|.len Zag a0.Players<|.call (Zd4 (a0.Players.length:Int) 2 4) fun x2=>.br (!x2) (.rt false)<|.go (.L0 a0 0) [.relab 1001 30000000]
def Zabw:LF Zks Bool:=⟨56,[.t 2],false,fun | .L0 .. => [1,1,0,1,4],
 fun | .L0 E0 v3=>⟨76,[(1,(.bptr 30000000 0)),(3,(wI v3))],[(30000000,.box (bx (Zu E0)))]⟩,
 fun r=>[],fun r=>(wB r),fun | .L0 E0 v3=>Zuh E0 v3⟩
def Z6g(a0:Zb):Option Bool:=Zabw.run (Zabv a0)
theorem Zavm(a0:Zb){r:Bool}(h:Z6g a0=some r):Fn PR 56 [(wA (Zu a0))] (wB r):=Zabw.fn h
def Zafh(a0:Zb)(a1:Int):LT Empty Bool:=
.lb 1002<|.len Zag a0.Players<|.call (Zd4 a1 0 (IntKind.wrap .i64 ((a0.Players.length:Int) - 1))) fun x4=>.rt x4
def Zafi:LF Empty Bool := .z 57 [.t 4] false (fun r=>[]) (fun r=>(wB r))
def Zaaa(a0:Zb)(a1:Int):Option Bool:=Zafi.run (Zafh a0 a1)
theorem Zf8(a0:Zb)(a1:Int){r:Bool}(h:Zaaa a0 a1=some r):Fn PR 57 [(wA (Zu a0)),(wI a1)] (wB r):=Zafi.fn h
inductive Z1t where
 | L0 (E0:(A3 Int)) (v3:Int)
def Zafj(E0:(A3 Int))(v3:Int):LT Z1t Bool:=
.br (decide (v3 < 3)) (.idA (Zn.int .i64) (A3.list E0) v3 (bx ((cA3 (cI .i64)) E0)) 0 3 fun x2=>.ldC (Zn.int .i64) 10 x2 0<|.cs (decide (x2 < 0)) (.k5 1<|.kn [0]<|.rt false)<|.k2 1<|.idA (Zn.int .i64) (A3.list E0) v3 (bx ((cA3 (cI .i64)) E0)) 0 3 fun x5=>.kg 1<|.ldC (Zn.int .i64) 15 x5 1<|.k2 1<|.br (decide (x5 > 1000000)) (.rt false)<|.g0 (.L0 E0 (IntKind.wrap .i64 (v3+1))))<|.rt true
def Za4r(a0:(A3 Int)):LT Z1t Bool:=
.lb 1001<|.go (.L0 a0 0) [.relab 1001 30000000]
def Za4s:LF Z1t Bool:=⟨142,[.t 2],false,fun | .L0 .. => [1,0,1,4],
 fun | .L0 E0 v3=>⟨18,[(1,(.bptr 30000000 0)),(3,(wI v3))],[(30000000,.box (bx ((cA3 (cI .i64)) E0)))]⟩,
 fun r=>[],fun r=>(wB r),fun | .L0 E0 v3=>Zafj E0 v3⟩
def Za4t(a0:(A3 Int)):Option Bool:=Za4s.run (Za4r a0)
theorem Zbdj(a0:(A3 Int)){r:Bool}(h:Za4t a0=some r):Fn PR 142 [(wA ((cA3 (cI .i64)) a0))] (wB r):=Za4s.fn h
def Zar0(a0:Zl):LT Empty Zl:=
.lb 1001<|.lb 1002<|.rt (⟨a0.Id,a0.Card,a0.Owner,a0.Control,a0.Zone,a0.Token,a0.Tapped,a0.Sick,a0.Deadly,a0.Damage,a0.Counters,a0.Stamp,a0.Copy,(-1),false,0,a0.Shield⟩:Zl)
def Zar1:LF Empty Zl := .z 143 [.c 2 67 true 19] false (fun r=>[]) (fun r=>(wA (Zs r)))
def Zanr(a0:Zl):Option Zl:=Zar1.run (Zar0 a0)
theorem Za70(a0:Zl){r:Zl}(h:Zanr a0=some r):Fn PR 143 [(wA (Zs a0))] (wA (Zs r)):=Zar1.fn h
def Zaks(a0:Zl):LT Empty Zl:=
.lb 1001<|.lb 1002<|.rt (⟨a0.Id,a0.Card,a0.Owner,a0.Control,a0.Zone,a0.Token,a0.Tapped,a0.Sick,false,0,a0.Counters,a0.Stamp,a0.Copy,a0.Attack,a0.Blocked,a0.Blocks,0⟩:Zl)
def Zakt:LF Empty Zl := .z 144 [.c 2 67 true 19] false (fun r=>[]) (fun r=>(wA (Zs r)))
def Zafk(a0:Zl):Option Zl:=Zakt.run (Zaks a0)
theorem Za4u(a0:Zl){r:Zl}(h:Zafk a0=some r):Fn PR 144 [(wA (Zs a0))] (wA (Zs r)):=Zakt.fn h
def Za4v(a0:Zl)(a1:Int)(a2:Int):LT Empty Bool:=
.lb 1003<|.cs (decide (a0.Id < 1)) (.k4 0<|.b16 true<|.b8 true<|.b5 true<|.b2 true<|.kn [0]<|.rt false)<|.k4 0<|.cs (decide (a0.Card < 0)) (.k5 1<|.b16 true<|.b8 true<|.b2 true<|.kn [0]<|.rt false)<|.k5 1<|.cs (decide (a0.Card≥a1)) (.k4 2<|.b16 true<|.b5 true<|.kb true<|.kn [0]<|.rt false)<|.k4 2<|.cs (decide (a0.Owner < 0)) (.k5 3<|.b16 true<|.kb true<|.kn [0]<|.rt false)<|.k5 3<|.cs (decide (a0.Owner≥a2)) (.k4 4<|.b8 true<|.b5 true<|.kn [0]<|.rt false)<|.k4 4<|.cs (decide (a0.Control < 0)) (.k5 5<|.b8 true<|.kn [0]<|.rt false)<|.k5 5<|.cs (decide (a0.Control≥a2)) (.k4 6<|.b4 true<|.kn [0]<|.rt false)<|.k4 6<|.cs (decide (a0.Zone < 0)) (.k4 7<|.kn [0]<|.rt false)<|.k4 7<|.br (decide (a0.Zone > 5)) (.rt false)<|.cs (decide (a0.Damage < 0)) (.k4 9<|.b16 true<|.b8 true<|.kn [0]<|.rt false)<|.k4 9<|.cs (decide (a0.Damage > 1000000)) (.k4 10<|.b16 true<|.b4 true<|.kn [0]<|.rt false)<|.k4 10<|.cs (decide (a0.Stamp < 0)) (.k4 11<|.b16 true<|.kn [0]<|.rt false)<|.k4 11<|.cs (decide (a0.Stamp > 1000000)) (.k4 12<|.b8 true<|.b4 true<|.kn [0]<|.rt false)<|.k4 12<|.cs (decide (a0.Blocks < 0)) (.k4 13<|.b8 true<|.kn [0]<|.rt false)<|.k4 13<|.cs (decide (a0.Blocks > 1000000)) (.k4 14<|.b4 true<|.kn [0]<|.rt false)<|.k4 14<|.cs (decide (a0.Shield < 0)) (.k4 15<|.kn [0]<|.rt false)<|.k4 15<|.br (decide (a0.Shield > 1000000)) (.rt false)<|.call (Zbdj a0.Counters) fun x18=>.cs (!x18) (.k4 17<|.b8 true<|.b5 true<|.kb true<|.kn [0]<|.rt false)<|.k4 17<|.cs (decide (a0.Copy < (-1))) (.k5 18<|.b8 true<|.kb true<|.kn [0]<|.rt false)<|.k5 18<|.cs (decide (a0.Copy≥a1)) (.k4 19<|.b5 true<|.kn [0]<|.rt false)<|.k4 19<|.cs (decide (a0.Attack < (-1))) (.k5 20<|.kn [0]<|.rt false)<|.k5 20<|.br (decide (a0.Attack≥a2)) (.rt false)<|.cs (a0.Zone==0) (.k8 22<|.k5 22<|.rt true)<|.k3 22<|.call (Za70 a0) fun x26=>.k2 22<|.cs (Zar (Zs a0) (Zs x26)) (.k3 23<|.call (Za4u a0) fun x29=>.kg 23<|.kg 22<|.kg 23<|.kg 22<|.cs (Zar (Zs a0) (Zs x29)) (.k3 24<|.kg 22<|.kg 24<|.kg 22<|.cs (!a0.Tapped) (.k3 25<|.kg 22<|.kg 25<|.kg 22<|.cs (!a0.Sick) (.k4 26<|.kg 22<|.kg 26<|.kg 22<|.rt (Zar ((cA3 (cI .i64)) a0.Counters) ((cA3 (cI .i64)) (⟨0,0,0⟩:(A3 Int)))))<|.k4 26<|.kg 22<|.kg 26<|.kg 22<|.rt false)<|.k3 25<|.kg 22<|.kg 25<|.kg 22<|.b4 false<|.kg 22<|.kb false<|.kg 22<|.rt false)<|.k3 24<|.kg 22<|.kg 24<|.kg 22<|.b3 false<|.kg 22<|.kb false<|.kg 22<|.b4 false<|.kg 22<|.kb false<|.kg 22<|.rt false)<|.k4 23<|.kg 22<|.kg 23<|.kg 22<|.b3 false<|.kg 22<|.kb false<|.kg 22<|.b3 false<|.kg 22<|.kb false<|.kg 22<|.b4 false<|.kg 22<|.kb false<|.kg 22<|.rt false
def Za4w:LF Empty Bool := .z 93 [.t 6] false (fun r=>[]) (fun r=>(wB r))
def Za4x(a0:Zl)(a1:Int)(a2:Int):Option Bool:=Za4w.run (Za4v a0 a1 a2)
theorem Zbdk(a0:Zl)(a1:Int)(a2:Int){r:Bool}(h:Za4x a0 a1 a2=some r):Fn PR 93 [(wA (Zs a0)),(wI a1),(wI a2)] (wB r):=Za4w.fn h
inductive Zmz where
 | L0 (v1:Int) (E0:Zb) (v5:Int) (v6:Int)
def Zya(v1:Int)(E0:Zb)(v5:Int)(v6:Int):LT Zmz Int:=
.len Zbd E0.Stack<|.br (decide (v6 < (E0.Stack.length:Int))) (.idx Zbd E0.Stack v6 fun x3=>.cs (x3.Kind==1) (.k4 1<|.ag Zbd x3 0<|.k5 1<|.br (x3.Id==v1) (.g0 (.L0 v1 E0 (IntKind.wrap .i64 (v5+1)) (IntKind.wrap .i64 (v6+1))))<|.g0 (.L0 v1 E0 v5 (IntKind.wrap .i64 (v6+1))))<|.k8 1<|.kg 1<|.kn [0]<|.g0 (.L0 v1 E0 v5 (IntKind.wrap .i64 (v6+1))))<|.rt v5
def Zafl(a0:Zb)(a1:Int):LT Zmz Int:=
.lb 1002<|.go (.L0 a1 a0 0 0) [.relab 1002 30000000]
def Zafm:LF Zmz Int:=⟨145,[.t 4],false,fun | .L0 .. => [1,1,0,1,4],
 fun | .L0 v1 E0 v5 v6=>⟨34,[(1,(wI v1)),(2,(.bptr 30000000 0)),(5,(wI v5)),(6,(wI v6))],[(30000000,.box (bx (Zu E0)))]⟩,
 fun r=>[],fun r=>(wI r),fun | .L0 v1 E0 v5 v6=>Zya v1 E0 v5 v6⟩
def Zaab(a0:Zb)(a1:Int):Option Int:=Zafm.run (Zafl a0 a1)
theorem Zazy(a0:Zb)(a1:Int){r:Int}(h:Zaab a0 a1=some r):Fn PR 145 [(wA (Zu a0)),(wI a1)] (wI r):=Zafm.fn h
def Zar2(a0:(List Int)):LT Empty (List Int):=
.lb 1003<|.apR (cI .i64) 8 ([]:(List Int)) a0 fun x1=>.ret x1 [.relab 1003 5000]
def Zar3:LF Empty (List Int) := .z 185 [.t 2] true (fun r=>[(5000,wR (cI .i64) 1 r)]) (fun r=>(wO (cI .i64) 5000 r))
def Zans(a0:(List Int)):Option (List Int):=Zar3.run (Zar2 a0)
theorem Zm0(a0:(List Int)){r:(List Int)}(h:Zans a0=some r):FnG PR 185 [] [(wL (cI .i64) a0)] [(5000,wR (cI .i64) 1 r)] (wO (cI .i64) 5000 r):=Zar3.fn h
def Zar4(a0:Zb)(a1:Int)(a2:Int):LT Empty (List Int):=
.lb 1003<|.br (a1==0) (.callF (Zm0 a0.Battlefield) 130000 fun x2=>.ret x2 [.relab 135000 5000])<|.br (a1==4) (.callF (Zm0 a0.Exile) 180000 fun x5=>.ret x5 [.relab 185000 5000])<|.cs (decide (a2 < 0)) (.k5 2<|.kg 2<|.kn [0]<|.ret ([]:(List Int)) [.own 6 5000 1])<|.k4 2<|.len Zag a0.Players<|.k2 2<|.br (decide (a2≥(a0.Players.length:Int))) (.ret ([]:(List Int)) [.own 6 5000 1])<|.br (a1==1) (.idx Zag a0.Players a2 fun x11=>.callF (Zm0 x11.Hand) 370000 fun x13=>.ret x13 [.relab 375000 5000])<|.br (a1==2) (.idx Zag a0.Players a2 fun x16=>.callF (Zm0 x16.Library) 460000 fun x18=>.ret x18 [.relab 465000 5000])<|.br (a1==3) (.idx Zag a0.Players a2 fun x21=>.callF (Zm0 x21.Graveyard) 550000 fun x23=>.ret x23 [.relab 555000 5000])<|.ret ([]:(List Int)) [.own 6 5000 1]
def Zar5:LF Empty (List Int) := .z 146 [.t 6] true (fun r=>[(5000,wR (cI .i64) 1 r)]) (fun r=>(wO (cI .i64) 5000 r))
def Zaac(a0:Zb)(a1:Int)(a2:Int):Option (List Int):=Zar5.run (Zar4 a0 a1 a2)
theorem Za4y(a0:Zb)(a1:Int)(a2:Int){r:(List Int)}(h:Zaac a0 a1 a2=some r):FnG PR 146 [] [(wA (Zu a0)),(wI a1),(wI a2)] [(5000,wR (cI .i64) 1 r)] (wO (cI .i64) 5000 r):=Zar5.fn h
theorem Za71(a0:Zb)(a1:Int)(a2:Int){r:(List Int)}(h:Zaac a0 a1 a2=some r):Fn PR 146 [(wA (Zu a0)),(wI a1),(wI a2)] (wL (cI .i64) r):=
 FnG.frozen (C:=LT.RL (cI .i64) r∧True) (Za4y a0 a1 a2 h) ⟨rfl,trivial⟩ (by kernel_rfl)
def Zafn(a0:Zb)(a1:Zl):LT Empty Bool:=
.lb 1002<|.lb 1003<|.br (a1.Zone==5) (.call (Zazy a0 a1.Id) fun x2=>.rt (x2==1))<|.call (Za71 a0 a1.Zone a1.Owner) fun x4=>.call (Z1s x4 a1.Id) fun x6=>.rt (x6==1)
def Zafo:LF Empty Bool := .z 94 [.t 4] false (fun r=>[]) (fun r=>(wB r))
def Zaad(a0:Zb)(a1:Zl):Option Bool:=Zafo.run (Zafn a0 a1)
theorem Zabx(a0:Zb)(a1:Zl){r:Bool}(h:Zaad a0 a1=some r):Fn PR 94 [(wA (Zu a0)),(wA (Zs a1))] (wB r):=Zafo.fn h
inductive Zkt where
 | L0 (v0:(List Zq)) (E0:Zb) (v5:Int)
def Zui(v0:(List Zq))(E0:Zb)(v5:Int):LT Zkt Bool:=
.len Zs E0.Objects<|.br (decide (v5 < (E0.Objects.length:Int))) (.idx Zs E0.Objects v5 fun x3=>.lb 1006<|.len Zad v0<|.len Zag E0.Players<|.call (Zbdk x3 (v0.length:Int) (E0.Players.length:Int)) fun x7=>.cs (!x7) (.k5 1<|.kg 1<|.b8 true<|.b3 true<|.kn [0]<|.rt false)<|.k5 1<|.kg 1<|.cs (decide (x3.Id≥E0.NextId)) (.k5 2<|.kg 2<|.b5 true<|.kn [0]<|.rt false)<|.k5 2<|.kg 2<|.cs (decide (x3.Stamp≥E0.NextStamp)) (.k5 3<|.kn [0]<|.rt false)<|.k3 3<|.cs (decide (v5 > 0)) (.k5 4<|.idx Zs E0.Objects (IntKind.wrap .i64 (v5 - 1)) fun x15=>.k5 4<|.kg 3<|.kg 4<|.kg 3<|.br (decide (x15.Id≥x3.Id)) (.rt false)<|.call (Zabx E0 x3) fun x18=>.br (!x18) (.rt false)<|.g0 (.L0 v0 E0 (IntKind.wrap .i64 (v5+1))))<|.k8 4<|.k2 4<|.kg 3<|.kg 4<|.kg 3<|.kn [0]<|.call (Zabx E0 x3) fun x23=>.br (!x23) (.rt false)<|.g0 (.L0 v0 E0 (IntKind.wrap .i64 (v5+1))))<|.rt true
def Zaby(a0:(List Zq))(a1:Zb):LT Zkt Bool:=
.lb 1003<|.len Zs a1.Objects<|.br (decide ((a1.Objects.length:Int) > 2048)) (.rt false)<|.go (.L0 a0 a1 0) [.relab 1003 30000000]
def Zabz:LF Zkt Bool:=⟨58,[.t 4],false,fun | .L0 .. => [1,1,0,1,4],
 fun | .L0 v0 E0 v5=>⟨65,[(0,(wL Zad v0)),(3,(.bptr 30000000 0)),(5,(wI v5))],[(30000000,.box (bx (Zu E0)))]⟩,
 fun r=>[],fun r=>(wB r),fun | .L0 v0 E0 v5=>Zui v0 E0 v5⟩
def Z6h(a0:(List Zq))(a1:Zb):Option Bool:=Zabz.run (Zaby a0 a1)
theorem Zn7(a0:(List Zq))(a1:Zb){r:Bool}(h:Z6h a0 a1=some r):Fn PR 58 [(wL Zad a0),(wA (Zu a1))] (wB r):=Zabz.fn h
inductive Zi3 where
 | L0 (v0:(List Zz)) (v1:(List Zz)) (v5:Int)
def Zr9(v0:(List Zz))(v1:(List Zz))(v5:Int):LT Zi3 Bool:=
.len Zab v0<|.br (decide (v5 < (v0.length:Int))) (.idx Zab v0 v5 fun x3=>.idx Zab v1 v5 fun x5=>.br (!(Zar (Zab x3) (Zab x5))) (.rt false)<|.g0 (.L0 v0 v1 (IntKind.wrap .i64 (v5+1))))<|.rt true
def Z8f(a0:(List Zz))(a1:(List Zz)):LT Zi3 Bool:=
.len Zab a0<|.len Zab a1<|.br ((a0.length:Int) != (a1.length:Int)) (.rt false)<|.g0 (.L0 a0 a1 0)
def Z8g:LF Zi3 Bool:=⟨186,[.t 4],false,fun | .L0 .. => [1,1,0,1,4],
 fun | .L0 v0 v1 v5=>⟨26,[(0,(wL Zab v0)),(1,(wL Zab v1)),(5,(wI v5))],[]⟩,
 fun r=>[],fun r=>(wB r),fun | .L0 v0 v1 v5=>Zr9 v0 v1 v5⟩
def Z1u(a0:(List Zz))(a1:(List Zz)):Option Bool:=Z8g.run (Z8f a0 a1)
theorem Z4x(a0:(List Zz))(a1:(List Zz)){r:Bool}(h:Z1u a0 a1=some r):Fn PR 186 [(wL Zab a0),(wL Zab a1)] (wB r):=Z8g.fn h
def Zar6(a0:Z9)(a1:Z9):LT Empty Bool:=
.lb 1002<|.lb 1003<|.cs (a0.Op==a1.Op) (.k5 0<|.kg 0<|.cs (Zar (Zdp a0.Ref) (Zdp a1.Ref)) (.k5 1<|.kg 1<|.cs (Zar (Zbc a0.Amount) (Zbc a1.Amount)) (.k5 2<|.kg 2<|.cs (a0.Counter==a1.Counter) (.k5 3<|.kg 3<|.cs (a0.Zone==a1.Zone) (.k5 4<|.kg 4<|.cs (a0.Card==a1.Card) (.k5 5<|.kg 5<|.cs (Zar (Zy a0.Filter) (Zy a1.Filter)) (.k5 6<|.kg 6<|.cs (Zar ((cA6 (cI .i64)) a0.Pool) ((cA6 (cI .i64)) a1.Pool)) (.k5 7<|.call (Z4x a0.Mods a1.Mods) fun x9=>.kg 7<|.rt x9)<|.k5 7<|.kg 7<|.rt false)<|.k5 6<|.kg 6<|.b5 false<|.kb false<|.rt false)<|.k5 5<|.kg 5<|.b8 false<|.b4 false<|.rt false)<|.k5 4<|.kg 4<|.b16 false<|.b2 false<|.rt false)<|.k5 3<|.kg 3<|.b16 false<|.b8 false<|.rt false)<|.k5 2<|.kg 2<|.b16 false<|.b8 false<|.b5 false<|.kb false<|.rt false)<|.k5 1<|.kg 1<|.b16 false<|.b16 false<|.b4 false<|.rt false)<|.k5 0<|.kg 0<|.b16 false<|.b16 false<|.b8 false<|.b2 false<|.rt false
def Zar7:LF Empty Bool := .z 218 [.t 4] false (fun r=>[]) (fun r=>(wB r))
def Zant(a0:Z9)(a1:Z9):Option Bool:=Zar7.run (Zar6 a0 a1)
theorem Za72(a0:Z9)(a1:Z9){r:Bool}(h:Zant a0 a1=some r):Fn PR 218 [(wA (Zaf a0)),(wA (Zaf a1))] (wB r):=Zar7.fn h
inductive Zi4 where
 | L0 (v0:(List Z9)) (v1:(List Z9)) (v5:Int)
def Zsa(v0:(List Z9))(v1:(List Z9))(v5:Int):LT Zi4 Bool:=
.len Zaf v0<|.br (decide (v5 < (v0.length:Int))) (.idx Zaf v0 v5 fun x3=>.idx Zaf v1 v5 fun x5=>.call (Za72 x3 x5) fun x7=>.br (!x7) (.rt false)<|.g0 (.L0 v0 v1 (IntKind.wrap .i64 (v5+1))))<|.rt true
def Z8h(a0:(List Z9))(a1:(List Z9)):LT Zi4 Bool:=
.len Zaf a0<|.len Zaf a1<|.br ((a0.length:Int) != (a1.length:Int)) (.rt false)<|.g0 (.L0 a0 a1 0)
def Z8i:LF Zi4 Bool:=⟨187,[.t 4],false,fun | .L0 .. => [1,1,0,1,4],
 fun | .L0 v0 v1 v5=>⟨27,[(0,(wL Zaf v0)),(1,(wL Zaf v1)),(5,(wI v5))],[]⟩,
 fun r=>[],fun r=>(wB r),fun | .L0 v0 v1 v5=>Zsa v0 v1 v5⟩
def Z1v(a0:(List Z9))(a1:(List Z9)):Option Bool:=Z8i.run (Z8h a0 a1)
theorem Zar8(a0:(List Z9))(a1:(List Z9)){r:Bool}(h:Z1v a0 a1=some r):Fn PR 187 [(wL Zaf a0),(wL Zaf a1)] (wB r):=Z8i.fn h
inductive Zsb where
 | L0 (E0:Zt) (E1:Zt) (v5:Int)
def Z6i(E0:Zt)(E1:Zt)(v5:Int):LT Zsb Bool:=
.len Z4 E0.Specs<|.br (decide (v5 < (E0.Specs.length:Int))) (.idx Z4 E0.Specs v5 fun x3=>.idx Z4 E1.Specs v5 fun x5=>.br (!(Zar (Z4 x3) (Z4 x5))) (.rt false)<|.g0 (.L0 E0 E1 (IntKind.wrap .i64 (v5+1))))<|.cs (E0.Kind==E1.Kind) (.k5 1<|.kg 1<|.cs (Zar (Zy E0.Filter) (Zy E1.Filter)) (.k5 2<|.call (Z4x E0.Mods E1.Mods) fun x12=>.kg 2<|.cs x12 (.k5 3<|.kg 3<|.cs (Zar (Zfp E0.Price) (Zfp E1.Price)) (.k5 4<|.kg 4<|.cs (E0.Slow==E1.Slow) (.k5 5<|.kg 5<|.cs (Zar (Zdu E0.Trigger) (Zdu E1.Trigger)) (.k5 6<|.kg 6<|.cs (E0.May==E1.May) (.k5 7<|.call (Zar8 E0.Effects E1.Effects) fun x19=>.kg 7<|.cs x19 (.k5 8<|.kg 8<|.rt (Zar (Zb6 E0.Replace) (Zb6 E1.Replace)))<|.k5 8<|.kg 8<|.rt false)<|.k5 7<|.kg 7<|.b5 false<|.kb false<|.rt false)<|.k5 6<|.kg 6<|.b8 false<|.b4 false<|.rt false)<|.k5 5<|.kg 5<|.b16 false<|.b2 false<|.rt false)<|.k5 4<|.kg 4<|.b16 false<|.b8 false<|.rt false)<|.k5 3<|.kg 3<|.b16 false<|.b8 false<|.b5 false<|.kb false<|.rt false)<|.k5 2<|.kg 2<|.b16 false<|.b16 false<|.b4 false<|.rt false)<|.k5 1<|.kg 1<|.b16 false<|.b16 false<|.b8 false<|.b2 false<|.rt false
def Zar9(a0:Zt)(a1:Zt):LT Zsb Bool:=
.lb 1002<|.lb 1003<|.len Z4 a0.Specs<|.len Z4 a1.Specs<|.br ((a0.Specs.length:Int) != (a1.Specs.length:Int)) (.rt false)<|.go (.L0 a0 a1 0) [.relab 1002 30000000,.relab 1003 30000001]
def Zasa:LF Zsb Bool:=⟨147,[.t 4],false,fun | .L0 .. => [1,1,0,1,4],
 fun | .L0 E0 E1 v5=>⟨92,[(2,(.bptr 30000000 0)),(3,(.bptr 30000001 0)),(5,(wI v5))],[(30000000,.box (bx (Z3 E0))),(30000001,.box (bx (Z3 E1)))]⟩,
 fun r=>[],fun r=>(wB r),fun | .L0 E0 E1 v5=>Z6i E0 E1 v5⟩
def Zanu(a0:Zt)(a1:Zt):Option Bool:=Zasa.run (Zar9 a0 a1)
theorem Za73(a0:Zt)(a1:Zt){r:Bool}(h:Zanu a0 a1=some r):Fn PR 147 [(wA (Z3 a0)),(wA (Z3 a1))] (wB r):=Zasa.fn h
def Zasb(a0:Zb)(a1:Zdg):LT Empty Bool:=
.lb 1002<|.lb 1003<|.call (Zd4 a1.Id 1 (IntKind.wrap .i64 (a0.NextId - 1))) fun x3=>.cs (!x3) (.k5 0<|.b8 true<|.b3 true<|.kn [0]<|.rt false)<|.k3 0<|.call (Zd4 a1.X 0 1000000) fun x6=>.k2 0<|.cs (!x6) (.k5 1<|.b5 true<|.kb true<|.kn [0]<|.rt false)<|.k3 1<|.len Zo a1.Targets<|.k2 1<|.cs (decide ((a1.Targets.length:Int) > 4)) (.k5 2<|.kg 2<|.kn [0]<|.rt false)<|.k4 2<|.call (Zf8 a0 a1.Control) fun x11=>.k2 2<|.br (!x11) (.rt false)<|.call (Zabu a0 a1.Id) fun x14=>.lb 1005<|.br (a1.Kind==1) (.call (Za73 a1.Ability (⟨0,(⟨0,0,0,0,0,0,0,([]:List UInt8),0,0,(⟨0,0⟩:Zd),(⟨0,0⟩:Zd),(⟨0,0⟩:Zd)⟩:Ze),([]:(List Zz)),(⟨(⟨0,0,(⟨0,0,0,0,0⟩:(A5 Int))⟩:Z1),false,false,0⟩:Zft),false,(⟨0,0,(⟨0,0,0,0,0,0,0,([]:List UInt8),0,0,(⟨0,0⟩:Zd),(⟨0,0⟩:Zd),(⟨0,0⟩:Zd)⟩:Ze)⟩:Zce),false,([]:(List Zr)),([]:(List Z9)),(⟨0,0,(⟨0,0,0,0,0,0,0,([]:List UInt8),0,0,(⟨0,0⟩:Zd),(⟨0,0⟩:Zd),(⟨0,0⟩:Zd)⟩:Ze),0,0,0,0⟩:Za6)⟩:Zt)) fun x17=>.cs (a1.Source==a1.Id) (.k2 5<|.cs x14.2 (.k4 6<|.cs (x14.1.Zone==5) (.k2 7<|.cs x17 (.k3 8<|.kg 7<|.kg 8<|.kg 7<|.rt true)<|.k3 8<|.call (Z4w a1.Ability) fun x23=>.kg 7<|.kg 8<|.kg 7<|.rt x23)<|.k4 7<|.rt false)<|.k4 6<|.b4 false<|.rt false)<|.k2 5<|.b8 false<|.rt false)<|.cs (a1.Kind==2) (.k3 5<|.cs (!x14.2) (.k3 6<|.call (Z4w a1.Ability) fun x27=>.kg 6<|.rt x27)<|.k4 6<|.rt false)<|.k3 5<|.b4 false<|.rt false
def Zasc:LF Empty Bool := .z 95 [.t 4] false (fun r=>[]) (fun r=>(wB r))
def Zanv(a0:Zb)(a1:Zdg):Option Bool:=Zasc.run (Zasb a0 a1)
theorem Za74(a0:Zb)(a1:Zdg){r:Bool}(h:Zanv a0 a1=some r):Fn PR 95 [(wA (Zu a0)),(wA (Zbd a1))] (wB r):=Zasc.fn h
inductive Z1w where
 | L0 (v0:(List Int)) (v3:Int)
def Zafp(v0:(List Int))(v3:Int):LT Z1w Bool:=
.len (cI .i64) v0<|.br (decide (v3 < (v0.length:Int))) (.idx (cI .i64) v0 (IntKind.wrap .i64 (v3 - 1)) fun x5=>.idx (cI .i64) v0 v3 fun x7=>.br (decide (x5≥x7)) (.rt false)<|.g0 (.L0 v0 (IntKind.wrap .i64 (v3+1))))<|.rt true
def Za4z(a0:(List Int)):LT Z1w Bool:=
.g0 (.L0 a0 1)
def Za40:LF Z1w Bool:=⟨96,[.t 2],false,fun | .L0 .. => [1,0,1,4],
 fun | .L0 v0 v3=>⟨20,[(0,(wL (cI .i64) v0)),(3,(wI v3))],[]⟩,
 fun r=>[],fun r=>(wB r),fun | .L0 v0 v3=>Zafp v0 v3⟩
def Za41(a0:(List Int)):Option Bool:=Za40.run (Za4z a0)
theorem Zbdl(a0:(List Int)){r:Bool}(h:Za41 a0=some r):Fn PR 96 [(wL (cI .i64) a0)] (wB r):=Za40.fn h
inductive Zgv where
 | L0 (E0:Zb) (v3:Int)
 | L1 (E0:Zb) (v3:Int) (v4:Int)
 | L2 (E0:Zb) (v5:Int)
 | L3 (E0:Zb) (v7:Int)
def Z1x(E0:Zb)(v3:Int):LT Zgv Bool:=
.len Zbd E0.Stack<|.br (decide (v3 < (E0.Stack.length:Int))) (.idx Zbd E0.Stack v3 fun x3=>.call (Za74 E0 x3) fun x5=>.br (!x5) (.rt false)<|.g0 (.L1 E0 v3 0))<|.g0 (.L2 E0 0)
def Z1y(E0:Zb)(v3:Int)(v4:Int):LT Zgv Bool:=
.br (decide (v4 < v3)) (.idx Zbd E0.Stack v4 fun x2=>.idx Zbd E0.Stack v3 fun x4=>.br (x2.Id==x4.Id) (.rt false)<|.g0 (.L1 E0 v3 (IntKind.wrap .i64 (v4+1))))<|.g0 (.L0 E0 (IntKind.wrap .i64 (v3+1)))
def Z1z(E0:Zb)(v5:Int):LT Zgv Bool:=
.len Za7 E0.Waiting<|.br (decide (v5 < (E0.Waiting.length:Int))) (.idx Za7 E0.Waiting v5 fun x3=>.lb 1006<|.call (Zf8 E0 x3.Control) fun x5=>.cs (!x5) (.k5 1<|.b5 true<|.kn [0]<|.rt false)<|.k5 1<|.cs (x3.Ability.Kind != 4) (.k5 2<|.kn [0]<|.rt false)<|.k3 2<|.call (Z4w x3.Ability) fun x9=>.k2 2<|.br (!x9) (.rt false)<|.g0 (.L2 E0 (IntKind.wrap .i64 (v5+1))))<|.g0 (.L3 E0 0)
def Z10(E0:Zb)(v7:Int):LT Zgv Bool:=
.len Zbj E0.Conts<|.br (decide (v7 < (E0.Conts.length:Int))) (.idx Zbj E0.Conts v7 fun x3=>.lb 1008<|.call (Zf8 E0 x3.Control) fun x5=>.cs (!x5) (.k5 1<|.kg 1<|.b8 true<|.b5 true<|.b2 true<|.kn [0]<|.rt false)<|.k5 1<|.kg 1<|.cs (decide (x3.Stamp≥E0.NextStamp)) (.k5 2<|.b8 true<|.b2 true<|.kn [0]<|.rt false)<|.k3 2<|.call (Zd4 x3.Until 1 2) fun x9=>.k2 2<|.cs (!x9) (.k5 3<|.b5 true<|.kn [0]<|.rt false)<|.k3 3<|.call (Zbdl x3.Objects) fun x12=>.k2 3<|.cs (!x12) (.k5 4<|.kn [0]<|.rt false)<|.k3 4<|.call (Zr4 x3.Mods) fun x15=>.k2 4<|.br (x15==([]:List UInt8)) (.rt false)<|.g0 (.L3 E0 (IntKind.wrap .i64 (v7+1))))<|.rt true
def Zaku(a0:Zb):LT Zgv Bool:=
.lb 1001<|.len Zbd a0.Stack<|.cs (decide ((a0.Stack.length:Int) > 64)) (.k5 0<|.b5 true<|.kn [0]<|.rt false)<|.k3 0<|.len Za7 a0.Waiting<|.k2 0<|.cs (decide ((a0.Waiting.length:Int) > 64)) (.k5 1<|.kn [0]<|.rt false)<|.k3 1<|.len Zbj a0.Conts<|.k2 1<|.br (decide ((a0.Conts.length:Int) > 64)) (.rt false)<|.go (.L0 a0 0) [.relab 1001 30000000]
def Zakv:LF Zgv Bool:=⟨59,[.t 2],false,fun | .L0 .. => [1,1,0,1,4] | .L1 .. => [1,1,0,1,4,5,1,0,4,1,1,4] | .L2 .. => [1,1,1,0,1,4] | .L3 .. => [1,1,1,1,0,1,4],
 fun | .L0 E0 v3=>⟨129,[(1,(.bptr 30000000 0)),(3,(wI v3))],[(30000000,.box (bx (Zu E0)))]⟩ | .L1 E0 v3 v4=>⟨129,[(1,(.bptr 30000000 0)),(3,(wI v3)),(4,(wI v4))],[(30000000,.box (bx (Zu E0)))]⟩ | .L2 E0 v5=>⟨129,[(1,(.bptr 30000000 0)),(5,(wI v5))],[(30000000,.box (bx (Zu E0)))]⟩ | .L3 E0 v7=>⟨129,[(1,(.bptr 30000000 0)),(7,(wI v7))],[(30000000,.box (bx (Zu E0)))]⟩,
 fun r=>[],fun r=>(wB r),fun | .L0 E0 v3=>Z1x E0 v3 | .L1 E0 v3 v4=>Z1y E0 v3 v4 | .L2 E0 v5=>Z1z E0 v5 | .L3 E0 v7=>Z10 E0 v7⟩
def Zafq(a0:Zb):Option Bool:=Zakv.run (Zaku a0)
theorem Zsc(a0:Zb){r:Bool}(h:Zafq a0=some r):Fn PR 59 [(wA (Zu a0))] (wB r):=Zakv.fn h
inductive Z11 where
 | L0 (v0:(List Zq)) (E0:Zb) (v5:Int)
def Zafr(v0:(List Zq))(E0:Zb)(v5:Int):LT Z11 Bool:=
.len (cI .i64) E0.Extra<|.br (decide (v5 < (E0.Extra.length:Int))) (.idx (cI .i64) E0.Extra v5 fun x3=>.call (Zf8 E0 x3) fun x5=>.br (!x5) (.rt false)<|.g0 (.L0 v0 E0 (IntKind.wrap .i64 (v5+1))))<|.cs (E0.Over==1) (.k4 1<|.call (Zf8 E0 E0.Winner) fun x11=>.k2 1<|.cs (!x11) (.k5 2<|.kg 2<|.kn [0]<|.rt false)<|.k4 2<|.cs (E0.Over != 1) (.k3 3<|.kg 2<|.kg 3<|.kg 2<|.br (E0.Winner != (-1)) (.rt false)<|.call (Zn7 v0 E0) fun x16=>.cs x16 (.k2 5<|.call (Zsc E0) fun x19=>.kg 5<|.rt x19)<|.k3 5<|.rt false)<|.k3 3<|.kg 2<|.kg 3<|.kg 2<|.kn [0]<|.call (Zn7 v0 E0) fun x21=>.cs x21 (.k2 4<|.call (Zsc E0) fun x24=>.kg 4<|.rt x24)<|.k3 4<|.rt false)<|.k5 1<|.kg 1<|.b4 false<|.cs (E0.Over != 1) (.k3 2<|.kb false<|.kg 2<|.kb false<|.br (E0.Winner != (-1)) (.rt false)<|.call (Zn7 v0 E0) fun x28=>.cs x28 (.k2 4<|.call (Zsc E0) fun x31=>.kg 4<|.rt x31)<|.k3 4<|.rt false)<|.k3 2<|.kb false<|.kg 2<|.kb false<|.kn [0]<|.call (Zn7 v0 E0) fun x33=>.cs x33 (.k2 3<|.call (Zsc E0) fun x36=>.kg 3<|.rt x36)<|.k3 3<|.rt false
def Za42(a0:(List Zq))(a1:Zb):LT Z11 Bool:=
.lb 1003<|.call (Zd4 a1.NextId 1 1000000) fun x1=>.cs (!x1) (.k5 0<|.b8 true<|.b5 true<|.b2 true<|.kn [0]<|.rt false)<|.k3 0<|.call (Zd4 a1.NextStamp 1 1000000) fun x4=>.k2 0<|.cs (!x4) (.k5 1<|.b8 true<|.b2 true<|.kn [0]<|.rt false)<|.k3 1<|.call (Zd4 a1.Turn 0 500) fun x7=>.k2 1<|.cs (!x7) (.k5 2<|.b5 true<|.kn [0]<|.rt false)<|.k3 2<|.call (Zd4 a1.Step 0 10) fun x10=>.k2 2<|.cs (!x10) (.k5 3<|.kn [0]<|.rt false)<|.k3 3<|.len Zs a1.Objects<|.k2 3<|.br (decide ((a1.Objects.length:Int) > 2048)) (.rt false)<|.call (Zavm a1) fun x15=>.cs (!x15) (.k5 5<|.kg 5<|.b16 true<|.b8 true<|.kn [0]<|.rt false)<|.k4 5<|.call (Zf8 a1 a1.Active) fun x18=>.k2 5<|.cs (!x18) (.k5 6<|.kg 6<|.b16 true<|.b2 true<|.kn [0]<|.rt false)<|.k4 6<|.call (Zf8 a1 a1.Priority) fun x21=>.k2 6<|.cs (!x21) (.k8 7<|.b8 true<|.b2 true<|.kn [0]<|.rt false)<|.k5 7<|.len Zag a1.Players<|.kg 7<|.call (Zd4 a1.Passes 0 (a1.Players.length:Int)) fun x25=>.k2 7<|.cs (!x25) (.k5 8<|.b5 true<|.kn [0]<|.rt false)<|.k3 8<|.len (cI .i64) a1.Extra<|.k2 8<|.cs (decide ((a1.Extra.length:Int) > 500)) (.k5 9<|.kn [0]<|.rt false)<|.k3 9<|.call (Zd4 a1.Over 0 2) fun x30=>.k2 9<|.br (!x30) (.rt false)<|.go (.L0 a0 a1 0) [.relab 1003 30000000]
def Za43:LF Z11 Bool:=⟨27,[.t 4],false,fun | .L0 .. => [1,1,1,0,1,4],
 fun | .L0 v0 E0 v5=>⟨114,[(0,(wL Zad v0)),(3,(.bptr 30000000 0)),(5,(wI v5))],[(30000000,.box (bx (Zu E0)))]⟩,
 fun r=>[],fun r=>(wB r),fun | .L0 v0 E0 v5=>Zafr v0 E0 v5⟩
def Za44(a0:(List Zq))(a1:Zb):Option Bool:=Za43.run (Za42 a0 a1)
theorem Zbdm(a0:(List Zq))(a1:Zb){r:Bool}(h:Za44 a0 a1=some r):Fn PR 27 [(wL Zad a0),(wA (Zu a1))] (wB r):=Za43.fn h
inductive Zpl where
 | L0 (v0:(List Zq)) (E0:Zb) (v5:Int)
def Z12(v0:(List Zq))(E0:Zb)(v5:Int):LT Zpl Bool:=
.len Zag E0.Players<|.br (decide (v5 < (E0.Players.length:Int))) (.idx Zag E0.Players v5 fun x3=>.len (cI .i64) x3.Library<|.ag Zag x3 0<|.len (cI .i64) x3.Hand<|.ag Zag x3 0<|.len (cI .i64) x3.Graveyard<|.br (decide ((IntKind.wrap .i64 ((IntKind.wrap .i64 ((x3.Library.length:Int)+(x3.Hand.length:Int)))+(x3.Graveyard.length:Int))) > 60)) (.rt false)<|.g0 (.L0 v0 E0 (IntKind.wrap .i64 (v5+1))))<|.call (Za4l v0) fun x15=>.cs (x15.2==0) (.k3 1<|.call (Zbdm v0 E0) fun x18=>.kg 1<|.rt x18)<|.k4 1<|.rt false
def Zakw(a0:(List Zq))(a1:Zb):LT Zpl Bool:=
.lb 1003<|.len Zad a0<|.cs (decide ((a0.length:Int) > 12)) (.k5 0<|.b16 true<|.b16 true<|.b3 true<|.kn [0]<|.rt false)<|.k3 0<|.len Zag a1.Players<|.k2 0<|.cs (decide ((a1.Players.length:Int) > 4)) (.k5 1<|.b16 true<|.b8 true<|.b5 true<|.kb true<|.kn [0]<|.rt false)<|.k3 1<|.len Zs a1.Objects<|.k2 1<|.cs (decide ((a1.Objects.length:Int) > 60)) (.k5 2<|.b16 true<|.b8 true<|.kb true<|.kn [0]<|.rt false)<|.k3 2<|.len (cI .i64) a1.Battlefield<|.k2 2<|.cs (decide ((a1.Battlefield.length:Int) > 60)) (.k5 3<|.b16 true<|.b4 true<|.kn [0]<|.rt false)<|.k3 3<|.len (cI .i64) a1.Exile<|.k2 3<|.cs (decide ((a1.Exile.length:Int) > 60)) (.k5 4<|.b8 true<|.b5 true<|.b2 true<|.kn [0]<|.rt false)<|.k3 4<|.len Zbd a1.Stack<|.k2 4<|.cs (decide ((a1.Stack.length:Int) > 8)) (.k5 5<|.b8 true<|.b2 true<|.kn [0]<|.rt false)<|.k3 5<|.len Za7 a1.Waiting<|.k2 5<|.cs (decide ((a1.Waiting.length:Int) > 8)) (.k5 6<|.b5 true<|.kn [0]<|.rt false)<|.k3 6<|.len Zbj a1.Conts<|.k2 6<|.cs (decide ((a1.Conts.length:Int) > 8)) (.k5 7<|.kn [0]<|.rt false)<|.k3 7<|.len (cI .i64) a1.Extra<|.k2 7<|.br (decide ((a1.Extra.length:Int) > 20)) (.rt false)<|.go (.L0 a0 a1 0) [.relab 1003 30000000]
def Zakx:LF Zpl Bool:=⟨8,[.t 4],false,fun | .L0 .. => [1,1,0,1,4],
 fun | .L0 v0 E0 v5=>⟨102,[(0,(wL Zad v0)),(3,(.bptr 30000000 0)),(5,(wI v5))],[(30000000,.box (bx (Zu E0)))]⟩,
 fun r=>[],fun r=>(wB r),fun | .L0 v0 E0 v5=>Z12 v0 E0 v5⟩
def Zafs(a0:(List Zq))(a1:Zb):Option Bool:=Zakx.run (Zakw a0 a1)
theorem Zm1(a0:(List Zq))(a1:Zb){r:Bool}(h:Zafs a0 a1=some r):Fn PR 8 [(wL Zad a0),(wA (Zu a1))] (wB r):=Zakx.fn h
inductive Zg5 where
 | L0 (v0:(List (List Int))) (v3:Int)
def Zon(v0:(List (List Int)))(v3:Int):LT Zg5 Bool:=
.len (cL (cI .i64)) v0<|.br (decide (v3 < (v0.length:Int))) (.idx (cL (cI .i64)) v0 v3 fun x3=>.len (cI .i64) x3<|.br (decide ((x3.length:Int) > 60)) (.rt false)<|.g0 (.L0 v0 (IntKind.wrap .i64 (v3+1))))<|.len (cL (cI .i64)) v0<|.rt (decide ((v0.length:Int)≤30))
def Z13(a0:(List (List Int))):LT Zg5 Bool:=
.g0 (.L0 a0 0)
def Z14:LF Zg5 Bool:=⟨28,[.t 2],false,fun | .L0 .. => [1,0,1,4],
 fun | .L0 v0 v3=>⟨19,[(0,(wL (cL (cI .i64)) v0)),(3,(wI v3))],[]⟩,
 fun r=>[],fun r=>(wB r),fun | .L0 v0 v3=>Zon v0 v3⟩
def Zuj(a0:(List (List Int))):Option Bool:=Z14.run (Z13 a0)
theorem Zai5(a0:(List (List Int))){r:Bool}(h:Zuj a0=some r):Fn PR 28 [(wL (cL (cI .i64)) a0)] (wB r):=Z14.fn h
def Zayo(a0:Z0):LT Empty Bool:=
.lb 1001<|.len Z4 a0.Specs<|.cs (decide ((a0.Specs.length:Int)≤6)) (.k3 0<|.len Zo a0.Targets<|.k2 0<|.cs (decide ((a0.Targets.length:Int)≤8)) (.k3 1<|.call (Zai5 a0.Answers) fun x5=>.kg 1<|.rt x5)<|.k4 1<|.rt false)<|.k5 0<|.b4 false<|.rt false
def Zayp:LF Empty Bool := .z 9 [.t 2] false (fun r=>[]) (fun r=>(wB r))
def Zavn(a0:Z0):Option Bool:=Zayp.run (Zayo a0)
theorem Zsd(a0:Z0){r:Bool}(h:Zavn a0=some r):Fn PR 9 [(wA (Za4 a0))] (wB r):=Zayp.fn h
def Zzv(a0:(List Int)):LT Empty (List Int):=
.apN (cI .i64) 1006 8 a0 fun x1=>.ret x1 [.relab 1006 5000]
def Zzw:LF Empty (List Int) := .z 44 [.t 2] true (fun r=>[(5000,wR (cI .i64) 1 r)]) (fun r=>(wO (cI .i64) 5000 r))
def Zmd(a0:(List Int)):Option (List Int):=Zzw.run (Zzv a0)
theorem Zt3(a0:(List Int)){r:(List Int)}(h:Zmd a0=some r):FnG PR 44 [] [(wL (cI .i64) a0)] [(5000,wR (cI .i64) 1 r)] (wO (cI .i64) 5000 r):=Zzw.fn h
theorem Zaft(a0:(List Int)){r:(List Int)}(h:Zmd a0=some r):Fn PR 44 [(wL (cI .i64) a0)] (wL (cI .i64) r):=
 FnG.frozen (C:=LT.RL (cI .i64) r∧True) (Zt3 a0 h) ⟨rfl,trivial⟩ (by kernel_rfl)
inductive Zxi where
 | L0 (E0:Z6) (v8:(List (List Int))) (v9:Int) (v10:Int)
def Zaae(E0:Z6)(v8:(List (List Int)))(v9:Int)(v10:Int):LT Zxi Z6:=
.br (decide (v10 < v9)) (.idx (cL (cI .i64)) v8 v10 fun x2=>.call (Zaft x2) fun x4=>.dr [.lit]<|.apR (cL (cI .i64)) 24 E0.answers [x4] fun x7=>.g0 (.L0 (⟨x7,E0.used,E0.pending,E0.waits,E0.bad⟩:Z6) v8 v9 (IntKind.wrap .i64 (v10+1))))<|.rl (cL (cI .i64)) E0.answers<|.rl Zh E0.pending.Options<|.ret E0 [.frz 40000000,.frz 40000008,.relab 30000000 5000]
def Zayq(a0:(List (List Int))):LT Zxi Z6:=
.lb 1007<|.len (cL (cI .i64)) a0<|.go (.L0 (⟨([]:(List (List Int))),0,(⟨0,0,0,0,0,0,([]:(List Zi))⟩:Zm),false,false⟩:Z6) a0 (a0.length:Int) 0) [.relab 1007 30000000,.ownb 30000000 0 40000000 1,.ownb 30000000 8 40000008 3]
def Zayr:LF Zxi Z6:=⟨21,[.t 2],true,fun | .L0 .. => [1,1,0,1,4],
 fun | .L0 E0 v8 v9 v10=>⟨27,[(3,(.bptr 30000000 0)),(8,(wL (cL (cI .i64)) v8)),(9,(wI v9)),(10,(wI v10))],[(30000000,.box [(wO (cL (cI .i64)) 40000000 E0.answers),(wI E0.used),(wI E0.pending.Kind),(wI E0.pending.Player),(wI E0.pending.Source),(wI E0.pending.Least),(wI E0.pending.Most),(wI E0.pending.N),(wO Zh 40000008 E0.pending.Options),(wB E0.waits),(wB E0.bad)]),(40000000,wR (cL (cI .i64)) 1 E0.answers),(40000008,wR Zh 3 E0.pending.Options)]⟩,
 fun r=>[(5000,.box (bx (Zbk r)))],fun r=>(.bptr 5000 0),fun | .L0 E0 v8 v9 v10=>Zaae E0 v8 v9 v10⟩
def Zavo(a0:(List (List Int))):Option Z6:=Zayr.run (Zayq a0)
theorem Z6j(a0:(List (List Int))){r:Z6}(h:Zavo a0=some r):FnG PR 21 [] [(wL (cL (cI .i64)) a0)] [(5000,.box (bx (Zbk r)))] (.bptr 5000 0):=Zayr.fn h
inductive Zi5 where
 | L0 (v3:(List Int)) (v7:(List Za2)) (v8:Int) (v9:Int)
def Zse(v3:(List Int))(v7:(List Za2))(v8:Int)(v9:Int):LT Zi5 (List Int):=
.br (decide (v9 < v8)) (.idx Zag v7 v9 fun x2=>.lb 1005<|.br (!x2.Lost) (.dr [.lit]<|.apR (cI .i64) 8 v3 [v9] fun x6=>.g0 (.L0 x6 v7 v8 (IntKind.wrap .i64 (v9+1))))<|.g0 (.L0 v3 v7 v8 (IntKind.wrap .i64 (v9+1))))<|.ret v3 [.relab 20000003 5000]
def Z8j(a0:Zb):LT Zi5 (List Int):=
.lb 1001<|.len Zag a0.Players<|.go (.L0 ([]:(List Int)) a0.Players (a0.Players.length:Int) 0) [.own 3 20000003 1]
def Z8k:LF Zi5 (List Int):=⟨33,[.t 2],true,fun | .L0 .. => [1,1,0,1,4],
 fun | .L0 v3 v7 v8 v9=>⟨23,[(3,(wO (cI .i64) 20000003 v3)),(7,(wL Zag v7)),(8,(wI v8)),(9,(wI v9))],[(20000003,wR (cI .i64) 1 v3)]⟩,
 fun r=>[(5000,wR (cI .i64) 1 r)],fun r=>(wO (cI .i64) 5000 r),fun | .L0 v3 v7 v8 v9=>Zse v3 v7 v8 v9⟩
def Zsf(a0:Zb):Option (List Int):=Z8k.run (Z8j a0)
theorem Zanw(a0:Zb){r:(List Int)}(h:Zsf a0=some r):FnG PR 33 [] [(wA (Zu a0))] [(5000,wR (cI .i64) 1 r)] (wO (cI .i64) 5000 r):=Z8k.fn h
theorem Zasd(a0:Zb){r:(List Int)}(h:Zsf a0=some r):Fn PR 33 [(wA (Zu a0))] (wL (cI .i64) r):=
 FnG.frozen (C:=LT.RL (cI .i64) r∧True) (Zanw a0 h) ⟨rfl,trivial⟩ (by kernel_rfl)
inductive Zg6 where
 | L0 (v0:Int) (v5:(List Zi)) (v8:(List Int)) (v9:Int) (v10:Int)
def Zoo(v0:Int)(v5:(List Zi))(v8:(List Int))(v9:Int)(v10:Int):LT Zg6 (List Zi):=
.br (decide (v10 < v9)) (.idx (cI .i64) v8 v10 fun x2=>.dr [.lit]<|.apR Zh 24 v5 [(⟨v0,x2,0⟩:Zi)] fun x5=>.g0 (.L0 v0 x5 v8 v9 (IntKind.wrap .i64 (v10+1))))<|.ret v5 [.relab 20000005 5000]
def Z15(a0:Int)(a1:(List Int)):LT Zg6 (List Zi):=
.len (cI .i64) a1<|.go (.L0 a0 ([]:(List Zi)) a1 (a1.length:Int) 0) [.own 5 20000005 3]
def Z16:LF Zg6 (List Zi):=⟨32,[.t 4],true,fun | .L0 .. => [1,1,0,1,4],
 fun | .L0 v0 v5 v8 v9 v10=>⟨22,[(0,(wI v0)),(5,(wO Zh 20000005 v5)),(8,(wL (cI .i64) v8)),(9,(wI v9)),(10,(wI v10))],[(20000005,wR Zh 3 v5)]⟩,
 fun r=>[(5000,wR Zh 3 r)],fun r=>(wO Zh 5000 r),fun | .L0 v0 v5 v8 v9 v10=>Zoo v0 v5 v8 v9 v10⟩
def Zn8(a0:Int)(a1:(List Int)):Option (List Zi):=Z16.run (Z15 a0 a1)
theorem Zxj(a0:Int)(a1:(List Int)){r:(List Zi)}(h:Zn8 a0 a1=some r):FnG PR 32 [] [(wI a0),(wL (cI .i64) a1)] [(5000,wR Zh 3 r)] (wO Zh 5000 r):=Z16.fn h
theorem Zai6(a0:Int)(a1:(List Int)){r:(List Zi)}(h:Zn8 a0 a1=some r):Fn PR 32 [(wI a0),(wL (cI .i64) a1)] (wL Zh r):=
 FnG.frozen (C:=LT.RL Zh r∧True) (Zxj a0 a1 h) ⟨rfl,trivial⟩ (by kernel_rfl)
def Z17(a0:Int)(a1:Int):LT Empty Bool:=
.cs (decide (a0≥0)) (.k4 0<|.rt (decide (a0≤a1)))<|.k4 0<|.rt false
def Z18:LF Empty Bool := .z 160 [.t 4] false (fun r=>[]) (fun r=>(wB r))
def Zuk(a0:Int)(a1:Int):Option Bool:=Z18.run (Z17 a0 a1)
theorem Zb1(a0:Int)(a1:Int){r:Bool}(h:Zuk a0 a1=some r):Fn PR 160 [(wI a0),(wI a1)] (wB r):=Z18.fn h
inductive Z4y where
 | L0 (v36:(List Int)) (v37:Int) (v38:Int)
def Zsg(v36:(List Int))(v37:Int)(v38:Int):LT Z4y Bool:=
.br (decide (v38 < v37)) (.idx (cI .u8) v36 v38 fun x2=>.cs (decide (x2 < 97)) (.k3 1<|.b3 true<|.cs (decide (x2 < 48)) (.k2 2<|.kb true<|.kg 2<|.b4 true<|.br (x2 != 45) (.rt false)<|.g0 (.L0 v36 v37 (IntKind.wrap .i64 (v38+1))))<|.k2 2<|.kb true<|.kg 2<|.kb true<|.cs (decide (x2 > 57)) (.k3 3<|.br (x2 != 45) (.rt false)<|.g0 (.L0 v36 v37 (IntKind.wrap .i64 (v38+1))))<|.k3 3<|.kn [0]<|.g0 (.L0 v36 v37 (IntKind.wrap .i64 (v38+1))))<|.k3 1<|.cs (decide (x2 > 122)) (.k3 2<|.cs (decide (x2 < 48)) (.k2 3<|.kg 2<|.kg 3<|.kg 2<|.b3 true<|.br (x2 != 45) (.rt false)<|.g0 (.L0 v36 v37 (IntKind.wrap .i64 (v38+1))))<|.k2 3<|.kg 2<|.kg 3<|.kg 2<|.cs (decide (x2 > 57)) (.k3 4<|.br (x2 != 45) (.rt false)<|.g0 (.L0 v36 v37 (IntKind.wrap .i64 (v38+1))))<|.k3 4<|.kn [0]<|.g0 (.L0 v36 v37 (IntKind.wrap .i64 (v38+1))))<|.k5 2<|.b3 false<|.kn [0]<|.g0 (.L0 v36 v37 (IntKind.wrap .i64 (v38+1))))<|.rt true
def Zays(a0:(List UInt8)):LT Z4y Bool:=
.lenS a0<|.cs ((a0.length:Int)==0) (.k4 0<|.b16 true<|.b2 true<|.kn [0]<|.rt false)<|.k2 0<|.lenS a0<|.k2 0<|.cs (decide ((a0.length:Int) > 32)) (.k4 1<|.b8 true<|.b5 true<|.kb true<|.kn [0]<|.rt false)<|.k2 1<|.idxS a0 0 fun x4=>.k2 1<|.cs (decide ((UInt8.toNat x4:Int) < 97)) (.k4 2<|.b8 true<|.b2 true<|.kn [0]<|.rt false)<|.k2 2<|.idxS a0 0 fun x7=>.k2 2<|.cs (decide ((UInt8.toNat x7:Int) > 122)) (.k5 3<|.k2 3<|.b3 true<|.kn [0]<|.rt false)<|.k3 3<|.lenS a0<|.k2 3<|.idxS a0 (IntKind.wrap .i64 ((a0.length:Int) - 1)) fun x12=>.k2 3<|.cs ((UInt8.toNat x12:Int)==45) (.k3 4<|.kn [0]<|.rt false)<|.k2 4<|.call (Zadr a0 ([45,45]:List UInt8)) fun x15=>.kg 4<|.br x15 (.rt false)<|.bys a0 fun x18=>.len (cI .u8) x18<|.g0 (.L0 x18 (x18.length:Int) 0)
def Zxk:LF Z4y Bool:=⟨200,[.t 2],false,fun | .L0 .. => [1,1,0,1,4],
 fun | .L0 v36 v37 v38=>⟨61,[(36,(wL (cI .u8) v36)),(37,(wI v37)),(38,(wI v38))],[]⟩,
 fun r=>[],fun r=>(wB r),fun | .L0 v36 v37 v38=>Zsg v36 v37 v38⟩
def Zavp(a0:(List UInt8)):Option Bool:=Zxk.run (Zays a0)
theorem Zbat(a0:(List UInt8)){r:Bool}(h:Zavp a0=some r):Fn PR 200 [(wS a0)] (wB r):=Zxk.fn h
def Z19(a0:Int):LT Empty (List UInt8):=
.idX Zn.str (A2.list (⟨([98,97,115,105,99]:List UInt8),([117,110,105,113,117,101]:List UInt8)⟩:(A2 (List UInt8)))) a0 fun x1=>.rt x1
def Zqt:LF Empty (List UInt8) := .z 202 [.t 2] false (fun r=>[]) (fun r=>(wS r))
def Zul(a0:Int):Option (List UInt8):=Zqt.run (Z19 a0)
theorem Zai7(a0:Int){r:(List UInt8)}(h:Zul a0=some r):Fn PR 202 [(wI a0)] (wS r):=Zqt.fn h
def Z4z(a0:Int):LT Empty (List UInt8):=
.idX Zn.str (A6.list (⟨([99,114,101,97,116,117,114,101]:List UInt8),([105,110,115,116,97,110,116]:List UInt8),([114,105,116,117,97,108]:List UInt8),([114,101,108,105,99]:List UInt8),([99,104,97,114,109]:List UInt8),([108,97,110,100]:List UInt8)⟩:(A6 (List UInt8)))) a0 fun x1=>.rt x1
def Zsh:LF Empty (List UInt8) := .z 203 [.t 2] false (fun r=>[]) (fun r=>(wS r))
def Zyb(a0:Int):Option (List UInt8):=Zsh.run (Z4z a0)
theorem Zanx(a0:Int){r:(List UInt8)}(h:Zyb a0=some r):Fn PR 203 [(wI a0)] (wS r):=Zsh.fn h
inductive Zf9 where
 | L0 (v0:(List UInt8)) (v8:Int) (v9:Int)
def Zd5(v0:(List UInt8))(v8:Int)(v9:Int):LT Zf9 Int:=
.br (decide (v9 < v8)) (.call (Zai7 v9) fun x2=>.br (!(x2==v0)) (.g0 (.L0 v0 v8 (IntKind.wrap .i64 (v9+1))))<|.ok (¬ v9 < 0)<|.rt (shlI .i64 1 v9))<|.rt 0
def Zku(a0:(List UInt8))(a1:Int):LT Zf9 Int:=
.g0 (.L0 a0 a1 0)
def Zga:LF Zf9 Int:=⟨201,[.t 6],false,fun | .L0 .. => [1,6,1,0,1,4],
 fun | .L0 v0 v8 v9=>⟨20,[(0,(wS v0)),(2,(.fn 202 [])),(8,(wI v8)),(9,(wI v9))],[]⟩,
 fun r=>[],fun r=>(wI r),fun | .L0 v0 v8 v9=>Zd5 v0 v8 v9⟩
def Zg7(a0:(List UInt8))(a1:Int):Option Int:=Zga.run (Zku a0 a1)
theorem Zxl(a0:(List UInt8))(a1:Int){r:Int}(h:Zg7 a0 a1=some r):Fn PR 201 [(wS a0),(wI a1),(.fn 202 [])] (wI r):=Zga.fn h
end
end Go.PW
