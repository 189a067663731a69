import Derived.Test.YtnoofnejcoadfaaGreatDoorQD
set_option linter.all false
set_option maxRecDepth 100000
namespace Go.PW
open Go.RowKit
noncomputable section
def Z74 (a0 : Int) : LT Empty Bool :=
.cs (decide (a0 ≥ 97)) (.k3 0<|.rt (decide (a0 ≤ 122)))<|.k3 0<|.rt false
def Zao6 : LF Empty Bool := .z 131 [.t 2] false (fun r => []) (fun r => (wB r))
def Z12 (a0 : Int) : Option Bool := Zao6.run (Z74 a0)
theorem Zaip (a0 : Int) {r : Bool} (h : Z12 a0 = some r) : Fn PR 131 [(.t (.int .u8 a0))] (wB r) := Zao6.fn h
inductive Ziq where
 | L0 (v0 : (List UInt8)) (v3 : Int)
 | L1 (v0 : (List UInt8)) (v3 : Int)
def Zhk (v0 : (List UInt8)) (v3 : Int) : LT Ziq Bool :=
.cs (decide (v3 > 0)) (.k3 0<|.idxS v0 v3 fun x2=>.k2 0<|.cs ((UInt8.toNat x2 : Int) == 45) (.k4 1<|.idxS v0 (IntKind.wrap .i64 (v3 - 1)) fun x7=>.k2 1<|.br ((UInt8.toNat x7 : Int) == 45) (.rt false)<|.g0 (.L0 v0 (IntKind.wrap .i64 (v3 + 1))))<|.k5 1<|.kg 1<|.kn [0]<|.g0 (.L0 v0 (IntKind.wrap .i64 (v3 + 1))))<|.k5 0<|.b5 false<|.kb false<|.kn [0]<|.g0 (.L0 v0 (IntKind.wrap .i64 (v3 + 1)))
def Zkb (v0 : (List UInt8)) (v3 : Int) : LT Ziq Bool :=
.lenS v0<|.br (decide (v3 < (v0.length : Int))) (.idxS v0 v3 fun x3=>.call (Zaip (UInt8.toNat x3 : Int)) fun x5=>.cs (!x5) (.k3 1<|.idxS v0 v3 fun x8=>.k2 1<|.cs (decide ((UInt8.toNat x8 : Int) < 48)) (.k4 2<|.kg 1<|.kg 2<|.kg 1<|.b3 true<|.idxS v0 v3 fun x11=>.b2 true<|.br ((UInt8.toNat x11 : Int) != 45) (.rt false)<|.j0 (.L1 v0 v3) (Zhk v0 v3))<|.k3 2<|.idxS v0 v3 fun x14=>.kg 2<|.kg 1<|.kg 2<|.kg 1<|.cs (decide ((UInt8.toNat x14 : Int) > 57)) (.k3 3<|.idxS v0 v3 fun x17=>.k2 3<|.br ((UInt8.toNat x17 : Int) != 45) (.rt false)<|.j0 (.L1 v0 v3) (Zhk v0 v3))<|.k5 3<|.kn [0]<|.j0 (.L1 v0 v3) (Zhk v0 v3))<|.k5 1<|.k2 1<|.b5 false<|.kn [0]<|.j0 (.L1 v0 v3) (Zhk v0 v3))<|.rt true
def Zafg (a0 : (List UInt8)) : LT Ziq Bool :=
.lenS a0<|.cs (decide ((a0.length : Int) < 1)) (.k4 0<|.b8 true<|.b4 true<|.kn [0]<|.rt false)<|.k2 0<|.lenS a0<|.k2 0<|.cs (decide ((a0.length : Int) > 32)) (.k5 1<|.b5 true<|.b2 true<|.kn [0]<|.rt false)<|.k2 1<|.idxS a0 0 fun x4=>.kg 1<|.call (Zaip (UInt8.toNat x4 : Int)) fun x6=>.k2 1<|.cs (!x6) (.k5 2<|.k2 2<|.kn [0]<|.rt false)<|.k3 2<|.lenS a0<|.k2 2<|.idxS a0 (IntKind.wrap .i64 ((a0.length : Int) - 1)) fun x11=>.k2 2<|.br ((UInt8.toNat x11 : Int) == 45) (.rt false)<|.g0 (.L0 a0 0)
def Zvv : LF Ziq Bool := ⟨80, [.t 2], false, fun | .L0 .. => [1,1,0,1,4] | .L1 .. => [1,1,0,1,4,5,1,0,4,1],
 fun | .L0 v0 v3 => ⟨70, [(0, (wS v0)), (3, (wI v3))], []⟩ | .L1 v0 v3 => ⟨70, [(0, (wS v0)), (3, (wI v3))], []⟩,
 fun r => [], fun r => (wB r), fun | .L0 v0 v3 => Zkb v0 v3 | .L1 v0 v3 => Zhk v0 v3⟩
def Z75 (a0 : (List UInt8)) : Option Bool := Zvv.run (Zafg a0)
theorem Z76 (a0 : (List UInt8)) {r : Bool} (h : Z75 a0 = some r) : Fn PR 80 [(wS a0)] (wB r) := Zvv.fn h
inductive Zir where
 | L0 (E0 : Zp) (v3 : Int)
def Zkc (E0 : Zp) (v3 : Int) : LT Zir Bool :=
.br (decide (v3 < 5)) (.idA (Zf.int .i64) (A5.list E0.Color) v3 (bx (Zaq E0)) 2 7 fun x2=>.ldC (Zf.int .i64) 29 x2 0<|.cs (decide (x2 < 0)) (.k5 1<|.kg 1<|.kn [0]<|.rt false)<|.k3 1<|.idA (Zf.int .i64) (A5.list E0.Color) v3 (bx (Zaq E0)) 2 7 fun x5=>.kg 1<|.ldC (Zf.int .i64) 35 x5 1<|.k2 1<|.br (decide (x5 > 9)) (.rt false)<|.g0 (.L0 E0 (IntKind.wrap .i64 (v3 + 1))))<|.rt true
def Zafh (a0 : Zp) : LT Zir Bool :=
.lb 1001<|.cs (decide (a0.Generic < 0)) (.k4 0<|.b8 true<|.kn [0]<|.rt false)<|.k4 0<|.cs (decide (a0.Generic > 99)) (.k4 1<|.b4 true<|.kn [0]<|.rt false)<|.k4 1<|.cs (decide (a0.X < 0)) (.k4 2<|.kn [0]<|.rt false)<|.k4 2<|.br (decide (a0.X > 2)) (.rt false)<|.go (.L0 a0 0) [.relab 1001 30000000]
def Zhp : LF Zir Bool := ⟨84, [.t 2], false, fun | .L0 .. => [1,1,0,1,4],
 fun | .L0 E0 v3 => ⟨38, [(1, (.bptr 30000000 0)), (3, (wI v3))], [(30000000, .box (bx (Zaq E0)))]⟩,
 fun r => [], fun r => (wB r), fun | .L0 E0 v3 => Zkc E0 v3⟩
def Z13 (a0 : Zp) : Option Bool := Zhp.run (Zafh a0)
theorem Zr7 (a0 : Zp) {r : Bool} (h : Z13 a0 = some r) : Fn PR 84 [(wA (Zaq a0))] (wB r) := Zhp.fn h
def Zvw : LT Empty (List (List UInt8)) :=
.lb 1001<|.ret [([98, 97, 115, 105, 99] : List UInt8), ([117, 110, 105, 113, 117, 101] : List UInt8)] [.relab 1001 5000]
def Zvx : LF Empty (List (List UInt8)) := .z 82 [.t 0] true (fun r => [(5000, wR cS 1 r)]) (fun r => (wO cS 5000 r))
def Zh1 : Option (List (List UInt8)) := Zvx.run (Zvw)
theorem Z77 {r : (List (List UInt8))} (h : Zh1 = some r) : FnG PR 82 [] [] [(5000, wR cS 1 r)] (wO cS 5000 r) := Zvx.fn h
theorem Zab0 {r : (List (List UInt8))} (h : Zh1 = some r) : Fn PR 82 [] (wL cS r) :=
 FnG.frozen (C := LT.RL cS r ∧ True) (Z77 h) ⟨rfl, trivial⟩ (by kernel_rfl)
inductive Zlu where
 | L0 (v0 : (List (List UInt8))) (v1 : (List UInt8)) (v5 : Int)
def Zgp (v0 : (List (List UInt8))) (v1 : (List UInt8)) (v5 : Int) : LT Zlu Int :=
.len cS v0<|.br (decide (v5 < (v0.length : Int))) (.idx cS v0 v5 fun x3=>.br (x3 == v1) (.rt v5)<|.g0 (.L0 v0 v1 (IntKind.wrap .i64 (v5 + 1))))<|.rt (-1)
def Zz9 (a0 : (List (List UInt8))) (a1 : (List UInt8)) : LT Zlu Int :=
.g0 (.L0 a0 a1 0)
def Z0a : LF Zlu Int := ⟨81, [.t 4], false, fun | .L0 .. => [1,0,1,4],
 fun | .L0 v0 v1 v5 => ⟨19, [(0, (wL cS v0)), (1, (wS v1)), (5, (wI v5))], []⟩,
 fun r => [], fun r => (wI r), fun | .L0 v0 v1 v5 => Zgp v0 v1 v5⟩
def Zr8 (a0 : (List (List UInt8))) (a1 : (List UInt8)) : Option Int := Z0a.run (Zz9 a0 a1)
theorem Zvy (a0 : (List (List UInt8))) (a1 : (List UInt8)) {r : Int} (h : Zr8 a0 a1 = some r) : Fn PR 81 [(wL cS a0), (wS a1)] (wI r) := Z0a.fn h
def Zyu : LT Empty (List (List UInt8)) :=
.lb 1001<|.ret [([99, 114, 101, 97, 116, 117, 114, 101] : List UInt8), ([105, 110, 115, 116, 97, 110, 116] : List UInt8), ([114, 105, 116, 117, 97, 108] : List UInt8), ([114, 101, 108, 105, 99] : List UInt8), ([99, 104, 97, 114, 109] : List UInt8), ([108, 97, 110, 100] : List UInt8)] [.relab 1001 5000]
def Zyv : LF Empty (List (List UInt8)) := .z 83 [.t 0] true (fun r => [(5000, wR cS 1 r)]) (fun r => (wO cS 5000 r))
def Zi1 : Option (List (List UInt8)) := Zyv.run (Zyu)
theorem Zab1 {r : (List (List UInt8))} (h : Zi1 = some r) : FnG PR 83 [] [] [(5000, wR cS 1 r)] (wO cS 5000 r) := Zyv.fn h
theorem Zvz {r : (List (List UInt8))} (h : Zi1 = some r) : Fn PR 83 [] (wL cS r) :=
 FnG.frozen (C := LT.RL cS r ∧ True) (Zab1 h) ⟨rfl, trivial⟩ (by kernel_rfl)
def Z0b (a0 : (List UInt8)) : LT Empty Bool :=
.call (Z76 a0) fun x1=>.cs x1 (.kg 0<|.call (Zab0) fun x4=>.k2 0<|.call (Zvy x4 a0) fun x6=>.k2 0<|.cs (decide (x6 < 0)) (.kg 1<|.call (Zvz) fun x9=>.k2 1<|.call (Zvy x9 a0) fun x11=>.k2 1<|.rt (decide (x11 < 0)))<|.k5 1<|.rt false)<|.k5 0<|.b5 false<|.rt false
def Zacn : LF Empty Bool := .z 49 [.t 2] false (fun r => []) (fun r => (wB r))
def Zr9 (a0 : (List UInt8)) : Option Bool := Zacn.run (Z0b a0)
theorem Zog (a0 : (List UInt8)) {r : Bool} (h : Zr9 a0 = some r) : Fn PR 49 [(wS a0)] (wB r) := Zacn.fn h
inductive Zsa where
 | L0 (v0 : Int) (v1 : Int) (v5 : Int)
def Z4d (v0 : Int) (v1 : Int) (v5 : Int) : LT Zsa Bool :=
.br (decide (v5 < v1)) (.dc ((2 : Int) ≠ 0) rfl<|.g0 (.L0 (Zka .i64 v0 2) v1 (IntKind.wrap .i64 (v5 + 1))))<|.dc ((2 : Int) ≠ 0) rfl<|.rt ((Int.tmod v0 2) == 1)
def Zao7 (a0 : Int) (a1 : Int) : LT Zsa Bool :=
.g0 (.L0 a0 a1 0)
def Zao8 : LF Zsa Bool := ⟨132, [.t 4], false, fun | .L0 .. => [1,0,1,4],
 fun | .L0 v0 v1 v5 => ⟨16, [(0, (wI v0)), (1, (wI v1)), (5, (wI v5))], []⟩,
 fun r => [], fun r => (wB r), fun | .L0 v0 v1 v5 => Z4d v0 v1 v5⟩
def Zamz (a0 : Int) (a1 : Int) : Option Bool := Zao8.run (Zao7 a0 a1)
theorem Z4e (a0 : Int) (a1 : Int) {r : Bool} (h : Zamz a0 a1 = some r) : Fn PR 132 [(wI a0), (wI a1)] (wB r) := Zao8.fn h
inductive Zv0 where
 | L0 (E0 : Zs) (v3 : Int)
def Z78 (E0 : Zs) (v3 : Int) : LT Zv0 Bool :=
.len cS E0.Subs<|.br (decide (v3 < (E0.Subs.length : Int))) (.idx cS E0.Subs v3 fun x3=>.call (Zog x3) fun x5=>.cs (!x5) (.k5 1<|.kn [0]<|.rt false)<|.k3 1<|.cs (decide (v3 > 0)) (.k5 2<|.idx cS E0.Subs (IntKind.wrap .i64 (v3 - 1)) fun x11=>.k5 2<|.ag cS x3 0<|.k2 2<|.kg 1<|.kg 2<|.kg 1<|.br (!(Op.bytesLess x11 x3)) (.rt false)<|.g0 (.L0 E0 (IntKind.wrap .i64 (v3 + 1))))<|.k8 2<|.k4 2<|.kg 1<|.kg 2<|.kg 1<|.kn [0]<|.g0 (.L0 E0 (IntKind.wrap .i64 (v3 + 1))))<|.cs (E0.Types == 2) (.k4 1<|.b5 true<|.b2 true<|.rt true)<|.k4 1<|.cs (E0.Types == 4) (.k5 2<|.k2 2<|.rt true)<|.k3 2<|.call (Z4e E0.Types 1) fun x20=>.k2 2<|.cs (!x20) (.k3 3<|.call (Z4e E0.Types 2) fun x23=>.kg 3<|.kg 2<|.kg 3<|.kg 2<|.rt (!x23))<|.k4 3<|.kg 2<|.kg 3<|.kg 2<|.rt false
def Zatl (a0 : Zs) : LT Zv0 Bool :=
.lb 1001<|.cs (decide (a0.Super < 0)) (.k4 0<|.b8 true<|.b5 true<|.kn [0]<|.rt false)<|.k4 0<|.cs (decide (a0.Super > 3)) (.k4 1<|.b8 true<|.kb true<|.kn [0]<|.rt false)<|.k4 1<|.cs (decide (a0.Types < 1)) (.k4 2<|.b5 true<|.kn [0]<|.rt false)<|.k4 2<|.cs (decide (a0.Types > 63)) (.k5 3<|.kn [0]<|.rt false)<|.k3 3<|.len cS a0.Subs<|.k2 3<|.br (decide ((a0.Subs.length : Int) > 4)) (.rt false)<|.go (.L0 a0 0) [.relab 1001 30000000]
def Zatm : LF Zv0 Bool := ⟨85, [.t 2], false, fun | .L0 .. => [1,1,0,1,4],
 fun | .L0 E0 v3 => ⟨80, [(1, (.bptr 30000000 0)), (3, (wI v3))], [(30000000, .box (bx (Zd6 E0)))]⟩,
 fun r => [], fun r => (wB r), fun | .L0 E0 v3 => Z78 E0 v3⟩
def Zatn (a0 : Zs) : Option Bool := Zatm.run (Zatl a0)
theorem Za2p (a0 : Zs) {r : Bool} (h : Zatn a0 = some r) : Fn PR 85 [(wA (Zd6 a0))] (wB r) := Zatm.fn h
def Zato (a0 : Int) : LT Empty Bool :=
.cs (decide (a0 ≥ 0)) (.k3 0<|.rt (decide (a0 ≤ 131071)))<|.k3 0<|.rt false
def Zatp : LF Empty Bool := .z 86 [.t 2] false (fun r => []) (fun r => (wB r))
def Zatq (a0 : Int) : Option Bool := Zatp.run (Zato a0)
theorem Zao9 (a0 : Int) {r : Bool} (h : Zatq a0 = some r) : Fn PR 86 [(wI a0)] (wB r) := Zatp.fn h
def Z14 (a0 : Zn) : LT Empty Bool :=
.lb 1001<|.rt ((Zba .and .i64 a0.Line.Types 1) != 0)
def Z15 : LF Empty Bool := .z 87 [.t 2] false (fun r => []) (fun r => (wB r))
def Zv1 (a0 : Zn) : Option Bool := Z15.run (Z14 a0)
theorem Zaiq (a0 : Zn) {r : Bool} (h : Zv1 a0 = some r) : Fn PR 87 [(wA (Z6 a0))] (wB r) := Z15.fn h
inductive Zlv where
 | L0 (v0 : Int) (v1 : Int) (v7 : Int)
def Zgq (v0 : Int) (v1 : Int) (v7 : Int) : LT Zlv Bool :=
.br (decide (v7 < 6)) (.dc ((2 : Int) ≠ 0) rfl<|.cs ((Int.tmod v0 2) == 1) (.k2 1<|.dc ((2 : Int) ≠ 0) rfl<|.k2 1<|.br ((Int.tmod v1 2) == 1) (.rt false)<|.dc ((2 : Int) ≠ 0) rfl<|.dc ((2 : Int) ≠ 0) rfl<|.g0 (.L0 (Zka .i64 v0 2) (Zka .i64 v1 2) (IntKind.wrap .i64 (v7 + 1))))<|.k4 1<|.kn [0]<|.dc ((2 : Int) ≠ 0) rfl<|.dc ((2 : Int) ≠ 0) rfl<|.g0 (.L0 (Zka .i64 v0 2) (Zka .i64 v1 2) (IntKind.wrap .i64 (v7 + 1))))<|.rt true
def Z0c (a0 : Int) (a1 : Int) (a2 : Int) : LT Zlv Bool :=
.cs (decide (a0 < 0)) (.k4 0<|.b5 true<|.b2 true<|.kn [0]<|.rt false)<|.k4 0<|.cs (decide (a0 > a2)) (.k3 1<|.b4 true<|.kn [0]<|.rt false)<|.k3 1<|.cs (decide (a1 < 0)) (.k4 2<|.kn [0]<|.rt false)<|.k4 2<|.br (decide (a1 > a2)) (.rt false)<|.g0 (.L0 a0 a1 0)
def Zlw : LF Zlv Bool := ⟨48, [.t 6], false, fun | .L0 .. => [1,1,0,1,4],
 fun | .L0 v0 v1 v7 => ⟨40, [(0, (wI v0)), (1, (wI v1)), (7, (wI v7))], []⟩,
 fun r => [], fun r => (wB r), fun | .L0 v0 v1 v7 => Zgq v0 v1 v7⟩
def Zsb (a0 : Int) (a1 : Int) (a2 : Int) : Option Bool := Zlw.run (Z0c a0 a1 a2)
theorem Z79 (a0 : Int) (a1 : Int) (a2 : Int) {r : Bool} (h : Zsb a0 a1 a2 = some r) : Fn PR 48 [(wI a0), (wI a1), (wI a2)] (wB r) := Zlw.fn h
def Z0d (a0 : Zd) : LT Empty Bool :=
.lb 1001<|.cs (decide (a0.Kind < 0)) (.k4 0<|.b8 true<|.kn [0]<|.rt false)<|.k4 0<|.cs (decide (a0.Kind > 3)) (.k4 1<|.b4 true<|.kn [0]<|.rt false)<|.k4 1<|.cs (decide (a0.N < 0)) (.k4 2<|.kn [0]<|.rt false)<|.k4 2<|.br (decide (a0.N > 1000000)) (.rt false)<|.cs (a0.Kind != 0) (.k4 4<|.rt true)<|.k4 4<|.rt (a0.N == 0)
def Zaco : LF Empty Bool := .z 50 [.t 2] false (fun r => []) (fun r => (wB r))
def Zsc (a0 : Zd) : Option Bool := Zaco.run (Z0d a0)
theorem Zv2 (a0 : Zd) {r : Bool} (h : Zsc a0 = some r) : Fn PR 50 [(wA (Zck a0))] (wB r) := Zaco.fn h
inductive Zv3 where
 | L0 (E0 : Ze)
def Zkd (E0 : Ze) : LT Zv3 Bool :=
.call (Zv2 E0.Power) fun x1=>.cs x1 (.k3 0<|.call (Zv2 E0.Tough) fun x4=>.kg 0<|.cs x4 (.k3 1<|.call (Zv2 E0.Value) fun x7=>.kg 1<|.rt x7)<|.k4 1<|.rt false)<|.k4 0<|.b4 false<|.rt false
def Zafi (a0 : Ze) : LT Zv3 Bool :=
.lb 1001<|.cs (decide (a0.Zone < 0)) (.k4 0<|.b16 true<|.b8 true<|.kn [0]<|.rt false)<|.k4 0<|.cs (decide (a0.Zone > 5)) (.k4 1<|.b16 true<|.b4 true<|.kn [0]<|.rt false)<|.k4 1<|.cs (decide (a0.Who < 0)) (.k4 2<|.b16 true<|.kn [0]<|.rt false)<|.k4 2<|.cs (decide (a0.Who > 2)) (.k4 3<|.b8 true<|.b4 true<|.kn [0]<|.rt false)<|.k4 3<|.cs (decide (a0.Self < 0)) (.k4 4<|.b8 true<|.kn [0]<|.rt false)<|.k4 4<|.cs (decide (a0.Self > 2)) (.k4 5<|.b4 true<|.kn [0]<|.rt false)<|.k4 5<|.cs (decide (a0.Tap < 0)) (.k4 6<|.kn [0]<|.rt false)<|.k4 6<|.br (decide (a0.Tap > 2)) (.rt false)<|.call (Z79 a0.Types a0.NotTypes 63) fun x9=>.cs (!x9) (.k5 8<|.k2 8<|.kn [0]<|.rt false)<|.k5 8<|.call (Z79 a0.Colors a0.NotColors 31) fun x12=>.k2 8<|.br (!x12) (.rt false)<|.cs (!(a0.Sub == ([] : List UInt8))) (.k3 10<|.call (Zog a0.Sub) fun x16=>.k2 10<|.cs (!x16) (.k4 11<|.b4 true<|.kn [0]<|.rt false)<|.k4 11<|.cs (decide (a0.Keys < 0)) (.k4 12<|.kn [0]<|.rt false)<|.k4 12<|.br (decide (a0.Keys > 131071)) (.rt false)<|.jn 0 (.L0 a0) [.relab 1001 30000000] (Zkd a0))<|.k5 10<|.b4 false<|.cs (decide (a0.Keys < 0)) (.k4 11<|.kn [0]<|.rt false)<|.k4 11<|.br (decide (a0.Keys > 131071)) (.rt false)<|.jn 0 (.L0 a0) [.relab 1001 30000000] (Zkd a0)
def Zafj : LF Zv3 Bool := ⟨21, [.t 2], false, fun | .L0 .. => [1,1,1,1],
 fun | .L0 E0 => ⟨87, [(1, (.bptr 30000000 0))], [(30000000, .box (bx (Zm E0)))]⟩,
 fun r => [], fun r => (wB r), fun | .L0 E0 => Zkd E0⟩
def Z16 (a0 : Ze) : Option Bool := Zafj.run (Zafi a0)
theorem Zey (a0 : Ze) {r : Bool} (h : Z16 a0 = some r) : Fn PR 21 [(wA (Zm a0))] (wB r) := Zafj.fn h
inductive Zk2 where
 | L0 (E0 : Zr) (E1 : Zr) (v7 : Int) (v8 : Bool)
 | L1 (E0 : Zr) (E1 : Zr) (v7 : Int) (v16 : Bool)
def Zlx (E0 : Zr) (E1 : Zr) (v7 : Int) (v16 : Bool) : LT Zk2 Zr :=
.br v16 (.rt (⟨E0.Kind, E0.N, E0.M, ([] : List UInt8), E0.Filter⟩ : Zr))<|.br (v7 == 11) (.rt (⟨E0.Kind, E0.N, E0.M, E0.Sub, (⟨0, 0, 0, 0, 0, 0, 0, ([] : List UInt8), 0, 0, (⟨0, 0⟩ : Zd), (⟨0, 0⟩ : Zd), (⟨0, 0⟩ : Zd)⟩ : Ze)⟩ : Zr))<|.br (v7 == 12) (.kn [3]<|.rt (⟨E0.Kind, 0, 0, E0.Sub, E0.Filter⟩ : Zr))<|.br (v7 == 13) (.rt (⟨E0.Kind, 0, 0, E0.Sub, E0.Filter⟩ : Zr))<|.rt E0
def Zfa (E0 : Zr) (E1 : Zr) (v7 : Int) (v8 : Bool) : LT Zk2 Zr :=
.br v8 (.rt (⟨E0.Kind, 0, E0.M, E0.Sub, E0.Filter⟩ : Zr))<|.br (v7 == 4) (.j0 (.L1 E0 E1 v7 (v7 == 4)) (Zlx E0 E1 v7 (v7 == 4)))<|.j0 (.L1 E0 E1 v7 (v7 == 5)) (Zlx E0 E1 v7 (v7 == 5))
def Zair (a0 : Zr) : LT Zk2 Zr :=
.lb 1001<|.lb 1002<|.br (a0.Kind == 2) (.jn 0 (.L0 (⟨0, a0.N, a0.M, a0.Sub, a0.Filter⟩ : Zr) (⟨0, 0, 0, ([] : List UInt8), (⟨0, 0, 0, 0, 0, 0, 0, ([] : List UInt8), 0, 0, (⟨0, 0⟩ : Zd), (⟨0, 0⟩ : Zd), (⟨0, 0⟩ : Zd)⟩ : Ze)⟩ : Zr) a0.Kind (a0.Kind == 2)) [.relab 1001 30000000, .relab 1002 30000001] (Zfa (⟨0, a0.N, a0.M, a0.Sub, a0.Filter⟩ : Zr) (⟨0, 0, 0, ([] : List UInt8), (⟨0, 0, 0, 0, 0, 0, 0, ([] : List UInt8), 0, 0, (⟨0, 0⟩ : Zd), (⟨0, 0⟩ : Zd), (⟨0, 0⟩ : Zd)⟩ : Ze)⟩ : Zr) a0.Kind (a0.Kind == 2)))<|.br (a0.Kind == 3) (.jn 0 (.L0 (⟨0, a0.N, a0.M, a0.Sub, a0.Filter⟩ : Zr) (⟨0, 0, 0, ([] : List UInt8), (⟨0, 0, 0, 0, 0, 0, 0, ([] : List UInt8), 0, 0, (⟨0, 0⟩ : Zd), (⟨0, 0⟩ : Zd), (⟨0, 0⟩ : Zd)⟩ : Ze)⟩ : Zr) a0.Kind (a0.Kind == 3)) [.relab 1001 30000000, .relab 1002 30000001] (Zfa (⟨0, a0.N, a0.M, a0.Sub, a0.Filter⟩ : Zr) (⟨0, 0, 0, ([] : List UInt8), (⟨0, 0, 0, 0, 0, 0, 0, ([] : List UInt8), 0, 0, (⟨0, 0⟩ : Zd), (⟨0, 0⟩ : Zd), (⟨0, 0⟩ : Zd)⟩ : Ze)⟩ : Zr) a0.Kind (a0.Kind == 3)))<|.br (a0.Kind == 6) (.jn 0 (.L0 (⟨0, a0.N, a0.M, a0.Sub, a0.Filter⟩ : Zr) (⟨0, 0, 0, ([] : List UInt8), (⟨0, 0, 0, 0, 0, 0, 0, ([] : List UInt8), 0, 0, (⟨0, 0⟩ : Zd), (⟨0, 0⟩ : Zd), (⟨0, 0⟩ : Zd)⟩ : Ze)⟩ : Zr) a0.Kind (a0.Kind == 6)) [.relab 1001 30000000, .relab 1002 30000001] (Zfa (⟨0, a0.N, a0.M, a0.Sub, a0.Filter⟩ : Zr) (⟨0, 0, 0, ([] : List UInt8), (⟨0, 0, 0, 0, 0, 0, 0, ([] : List UInt8), 0, 0, (⟨0, 0⟩ : Zd), (⟨0, 0⟩ : Zd), (⟨0, 0⟩ : Zd)⟩ : Ze)⟩ : Zr) a0.Kind (a0.Kind == 6)))<|.br (a0.Kind == 7) (.jn 0 (.L0 (⟨0, a0.N, a0.M, a0.Sub, a0.Filter⟩ : Zr) (⟨0, 0, 0, ([] : List UInt8), (⟨0, 0, 0, 0, 0, 0, 0, ([] : List UInt8), 0, 0, (⟨0, 0⟩ : Zd), (⟨0, 0⟩ : Zd), (⟨0, 0⟩ : Zd)⟩ : Ze)⟩ : Zr) a0.Kind (a0.Kind == 7)) [.relab 1001 30000000, .relab 1002 30000001] (Zfa (⟨0, a0.N, a0.M, a0.Sub, a0.Filter⟩ : Zr) (⟨0, 0, 0, ([] : List UInt8), (⟨0, 0, 0, 0, 0, 0, 0, ([] : List UInt8), 0, 0, (⟨0, 0⟩ : Zd), (⟨0, 0⟩ : Zd), (⟨0, 0⟩ : Zd)⟩ : Ze)⟩ : Zr) a0.Kind (a0.Kind == 7)))<|.br (a0.Kind == 8) (.jn 0 (.L0 (⟨0, a0.N, a0.M, a0.Sub, a0.Filter⟩ : Zr) (⟨0, 0, 0, ([] : List UInt8), (⟨0, 0, 0, 0, 0, 0, 0, ([] : List UInt8), 0, 0, (⟨0, 0⟩ : Zd), (⟨0, 0⟩ : Zd), (⟨0, 0⟩ : Zd)⟩ : Ze)⟩ : Zr) a0.Kind (a0.Kind == 8)) [.relab 1001 30000000, .relab 1002 30000001] (Zfa (⟨0, a0.N, a0.M, a0.Sub, a0.Filter⟩ : Zr) (⟨0, 0, 0, ([] : List UInt8), (⟨0, 0, 0, 0, 0, 0, 0, ([] : List UInt8), 0, 0, (⟨0, 0⟩ : Zd), (⟨0, 0⟩ : Zd), (⟨0, 0⟩ : Zd)⟩ : Ze)⟩ : Zr) a0.Kind (a0.Kind == 8)))<|.jn 0 (.L0 (⟨0, a0.N, a0.M, a0.Sub, a0.Filter⟩ : Zr) (⟨0, 0, 0, ([] : List UInt8), (⟨0, 0, 0, 0, 0, 0, 0, ([] : List UInt8), 0, 0, (⟨0, 0⟩ : Zd), (⟨0, 0⟩ : Zd), (⟨0, 0⟩ : Zd)⟩ : Ze)⟩ : Zr) a0.Kind (a0.Kind == 9)) [.relab 1001 30000000, .relab 1002 30000001] (Zfa (⟨0, a0.N, a0.M, a0.Sub, a0.Filter⟩ : Zr) (⟨0, 0, 0, ([] : List UInt8), (⟨0, 0, 0, 0, 0, 0, 0, ([] : List UInt8), 0, 0, (⟨0, 0⟩ : Zd), (⟨0, 0⟩ : Zd), (⟨0, 0⟩ : Zd)⟩ : Ze)⟩ : Zr) a0.Kind (a0.Kind == 9))
def Zais : LF Zk2 Zr := ⟨176, [.c 2 164 true 20], false, fun | .L0 .. => [1,1,1,0,1,4,1] | .L1 .. => [1,1,1,0,1,4,1,3,1],
 fun | .L0 E0 E1 v7 v8 => ⟨30, [(1, (.bptr 30000000 0)), (2, (.bptr 30000001 0)), (7, (wI v7)), (8, (wB v8))], [(30000000, .box (bx (Z0 E0))), (30000001, .box (bx (Z0 E1)))]⟩ | .L1 E0 E1 v7 v16 => ⟨30, [(1, (.bptr 30000000 0)), (2, (.bptr 30000001 0)), (7, (wI v7)), (16, (wB v16))], [(30000000, .box (bx (Z0 E0))), (30000001, .box (bx (Z0 E1)))]⟩,
 fun r => [], fun r => (wA (Z0 r)), fun | .L0 E0 E1 v7 v8 => Zfa E0 E1 v7 v8 | .L1 E0 E1 v7 v16 => Zlx E0 E1 v7 v16⟩
def Zafk (a0 : Zr) : Option Zr := Zais.run (Zair a0)
theorem Zaxf (a0 : Zr) {r : Zr} (h : Zafk a0 = some r) : Fn PR 176 [(wA (Z0 a0))] (wA (Z0 r)) := Zais.fn h
def Zacp (a0 : Int) : LT Empty Bool :=
.cs (decide (a0 ≥ 1)) (.k3 0<|.cs (decide (a0 ≤ 63)) (.k4 1<|.rt ((Zba .and .i64 a0 6) == 0))<|.k4 1<|.rt false)<|.k3 0<|.b4 false<|.rt false
def Zacq : LF Empty Bool := .z 177 [.t 2] false (fun r => []) (fun r => (wB r))
def Z8a (a0 : Int) : Option Bool := Zacq.run (Zacp a0)
theorem Zatr (a0 : Int) {r : Bool} (h : Z8a a0 = some r) : Fn PR 177 [(wI a0)] (wB r) := Zacq.fn h
inductive Zm7 where
 | L0 (E0 : Zr) (v18 : Int) (v19 : Bool)
 | L1 (E0 : Zr) (v18 : Int) (v25 : Bool)
 | L2 (E0 : Zr) (v18 : Int) (v51 : Bool)
def Zsd (E0 : Zr) (v18 : Int) (v51 : Bool) : LT Zm7 Bool :=
.br v51 (.cs (decide (E0.N ≥ 1)) (.k4 1<|.rt (decide (E0.N ≤ 131071)))<|.k4 1<|.rt false)<|.br (v18 == 11) (.call (Zey E0.Filter) fun x4=>.rt x4)<|.br (v18 == 12) (.cs (decide (E0.N ≥ 0)) (.k4 3<|.cs (decide (E0.N ≤ 99)) (.k4 4<|.cs (decide (E0.M ≥ 0)) (.k4 5<|.rt (decide (E0.M ≤ 99)))<|.k4 5<|.rt false)<|.k4 4<|.b4 false<|.rt false)<|.k4 3<|.b8 false<|.rt false)<|.br (v18 == 13) (.cs (decide (E0.N ≥ (-99))) (.k4 4<|.cs (decide (E0.N ≤ 99)) (.k4 5<|.cs (decide (E0.M ≥ (-99))) (.k4 6<|.rt (decide (E0.M ≤ 99)))<|.k4 6<|.rt false)<|.k4 5<|.b4 false<|.rt false)<|.k4 4<|.b8 false<|.rt false)<|.rt true
def Zse (E0 : Zr) (v18 : Int) (v25 : Bool) : LT Zm7 Bool :=
.br v25 (.call (Zog E0.Sub) fun x2=>.rt x2)<|.br (v18 == 6) (.cs (decide (E0.N ≥ 0)) (.k4 2<|.rt (decide (E0.N ≤ 31)))<|.k4 2<|.rt false)<|.br (v18 == 7) (.cs (decide (E0.N ≥ 1)) (.k4 3<|.rt (decide (E0.N ≤ 31)))<|.k4 3<|.rt false)<|.br (v18 == 8) (.j0 (.L2 E0 v18 (v18 == 8)) (Zsd E0 v18 (v18 == 8)))<|.j0 (.L2 E0 v18 (v18 == 9)) (Zsd E0 v18 (v18 == 9))
def Zsf (E0 : Zr) (v18 : Int) (v19 : Bool) : LT Zm7 Bool :=
.br v19 (.call (Zatr E0.N) fun x2=>.rt x2)<|.br (v18 == 4) (.j0 (.L1 E0 v18 (v18 == 4)) (Zse E0 v18 (v18 == 4)))<|.j0 (.L1 E0 v18 (v18 == 5)) (Zse E0 v18 (v18 == 5))
def Zats (a0 : Zr) : LT Zm7 Bool :=
.lb 1001<|.cs (decide (a0.Kind < 1)) (.k4 0<|.b5 true<|.kn [0]<|.rt false)<|.k4 0<|.cs (decide (a0.Kind > 14)) (.k5 1<|.kn [0]<|.rt false)<|.k2 1<|.call (Zaxf a0) fun x3=>.k3 1<|.br (!(Zas (Z0 x3) (Z0 (⟨0, 0, 0, ([] : List UInt8), (⟨0, 0, 0, 0, 0, 0, 0, ([] : List UInt8), 0, 0, (⟨0, 0⟩ : Zd), (⟨0, 0⟩ : Zd), (⟨0, 0⟩ : Zd)⟩ : Ze)⟩ : Zr)))) (.rt false)<|.br (a0.Kind == 2) (.jn 0 (.L0 a0 a0.Kind (a0.Kind == 2)) [.relab 1001 30000000] (Zsf a0 a0.Kind (a0.Kind == 2)))<|.jn 0 (.L0 a0 a0.Kind (a0.Kind == 3)) [.relab 1001 30000000] (Zsf a0 a0.Kind (a0.Kind == 3))
def Zatt : LF Zm7 Bool := ⟨146, [.t 2], false, fun | .L0 .. => [1,1,0,1,4,1] | .L1 .. => [1,1,0,1,4,1,3,1] | .L2 .. => [1,1,0,1,4,1,3,1,3,1,3,1,3,1],
 fun | .L0 E0 v18 v19 => ⟨107, [(1, (.bptr 30000000 0)), (18, (wI v18)), (19, (wB v19))], [(30000000, .box (bx (Z0 E0)))]⟩ | .L1 E0 v18 v25 => ⟨107, [(1, (.bptr 30000000 0)), (18, (wI v18)), (25, (wB v25))], [(30000000, .box (bx (Z0 E0)))]⟩ | .L2 E0 v18 v51 => ⟨107, [(1, (.bptr 30000000 0)), (18, (wI v18)), (51, (wB v51))], [(30000000, .box (bx (Z0 E0)))]⟩,
 fun r => [], fun r => (wB r), fun | .L0 E0 v18 v19 => Zsf E0 v18 v19 | .L1 E0 v18 v25 => Zse E0 v18 v25 | .L2 E0 v18 v51 => Zsd E0 v18 v51⟩
def Zatu (a0 : Zr) : Option Bool := Zatt.run (Zats a0)
theorem Z8b (a0 : Zr) {r : Bool} (h : Zatu a0 = some r) : Fn PR 146 [(wA (Z0 a0))] (wB r) := Zatt.fn h
inductive Zke where
 | L0 (v0 : (List (List UInt8))) (v1 : Int) (v2 : (List UInt8)) (v7 : (List UInt8)) (v8 : Int)
def Ztf (v0 : (List (List UInt8))) (v1 : Int) (v2 : (List UInt8)) (v7 : (List UInt8)) (v8 : Int) : LT Zke (List UInt8) :=
.len cS v0<|.br (decide (v8 < (v0.length : Int))) (.call (Z4e v1 v8) fun x3=>.br x3 (.br (!(v7 == ([] : List UInt8))) (.ok (v7.length + v2.length ≤ 9223372036854775807)<|.idx cS v0 v8 fun x10=>.ok ((v7 ++ v2).length + x10.length ≤ 9223372036854775807)<|.g0 (.L0 v0 v1 v2 ((v7 ++ v2) ++ x10) (IntKind.wrap .i64 (v8 + 1))))<|.idx cS v0 v8 fun x17=>.ok (v7.length + x17.length ≤ 9223372036854775807)<|.g0 (.L0 v0 v1 v2 (v7 ++ x17) (IntKind.wrap .i64 (v8 + 1))))<|.g0 (.L0 v0 v1 v2 v7 (IntKind.wrap .i64 (v8 + 1))))<|.rt v7
def Z8c (a0 : (List (List UInt8))) (a1 : Int) (a2 : (List UInt8)) : LT Zke (List UInt8) :=
.g0 (.L0 a0 a1 a2 ([] : List UInt8) 0)
def Z8d : LF Zke (List UInt8) := ⟨197, [.t 6], false, fun | .L0 .. => [1,1,0,1,4],
 fun | .L0 v0 v1 v2 v7 v8 => ⟨30, [(0, (wL cS v0)), (1, (wI v1)), (2, (wS v2)), (7, (wS v7)), (8, (wI v8))], []⟩,
 fun r => [], fun r => (wS r), fun | .L0 v0 v1 v2 v7 v8 => Ztf v0 v1 v2 v7 v8⟩
def Z4f (a0 : (List (List UInt8))) (a1 : Int) (a2 : (List UInt8)) : Option (List UInt8) := Z8d.run (Z8c a0 a1 a2)
theorem Zap7 (a0 : (List (List UInt8))) (a1 : Int) (a2 : (List UInt8)) {r : (List UInt8)} (h : Z4f a0 a1 a2 = some r) : Fn PR 197 [(wL cS a0), (wI a1), (wS a2)] (wS r) := Z8d.fn h
def Zyw (a0 : Int) : LT Empty (List UInt8) :=
.cs (decide (a0 < 1)) (.k3 0<|.kn [0]<|.rt ([] : List UInt8))<|.k3 0<|.br (decide (a0 > 63)) (.rt ([] : List UInt8))<|.call (Zvz) fun x3=>.call (Zap7 x3 a0 ([43] : List UInt8)) fun x5=>.rt x5
def Zyx : LF Empty (List UInt8) := .z 178 [.t 2] false (fun r => []) (fun r => (wS r))
def Ztg (a0 : Int) : Option (List UInt8) := Zyx.run (Zyw a0)
theorem Zm8 (a0 : Int) {r : (List UInt8)} (h : Ztg a0 = some r) : Fn PR 178 [(wI a0)] (wS r) := Zyx.fn h
def Zatv (a0 : Int) : LT Empty Bool :=
.cs (decide (a0 ≥ 0)) (.k3 0<|.rt (decide (a0 ≤ 31)))<|.k3 0<|.rt false
def Zatw : LF Empty Bool := .z 198 [.t 2] false (fun r => []) (fun r => (wB r))
def Zatx (a0 : Int) : Option Bool := Zatw.run (Zatv a0)
theorem Za2q (a0 : Int) {r : Bool} (h : Zatx a0 = some r) : Fn PR 198 [(wI a0)] (wB r) := Zatw.fn h
def Zait (a0 : Int) : LT Empty (List UInt8) :=
.br (a0 == 0) (.rt ([97, 109, 98, 101, 114] : List UInt8))<|.br (a0 == 1) (.rt ([99, 111, 98, 97, 108, 116] : List UInt8))<|.br (a0 == 2) (.rt ([106, 101, 116] : List UInt8))<|.br (a0 == 3) (.rt ([114, 117, 98, 121] : List UInt8))<|.br (a0 == 4) (.rt ([101, 109, 101, 114, 97, 108, 100] : List UInt8))<|.rt ([] : List UInt8)
def Zaiu : LF Empty (List UInt8) := .z 199 [.t 2] false (fun r => []) (fun r => (wS r))
def Zafl (a0 : Int) : Option (List UInt8) := Zaiu.run (Zait a0)
theorem Zrl (a0 : Int) {r : (List UInt8)} (h : Zafl a0 = some r) : Fn PR 199 [(wI a0)] (wS r) := Zaiu.fn h
inductive Zoh where
 | L0 (v0 : Int) (v3 : (List UInt8)) (v4 : Int)
def Z0e (v0 : Int) (v3 : (List UInt8)) (v4 : Int) : LT Zoh (List UInt8) :=
.br (decide (v4 < 5)) (.ok (¬ v4 < 0)<|.ok ((Z7z .i64 1 v4) ≠ 0)<|.dc ((2 : Int) ≠ 0) rfl<|.br ((Int.tmod (Zka .i64 v0 (Z7z .i64 1 v4)) 2) == 1) (.br (!(v3 == ([] : List UInt8))) (.ok (v3.length + ([43] : List UInt8).length ≤ 9223372036854775807)<|.call (Zrl v4) fun x10=>.ok ((v3 ++ ([43] : List UInt8)).length + x10.length ≤ 9223372036854775807)<|.g0 (.L0 v0 ((v3 ++ ([43] : List UInt8)) ++ x10) (IntKind.wrap .i64 (v4 + 1))))<|.call (Zrl v4) fun x17=>.ok (v3.length + x17.length ≤ 9223372036854775807)<|.g0 (.L0 v0 (v3 ++ x17) (IntKind.wrap .i64 (v4 + 1))))<|.g0 (.L0 v0 v3 (IntKind.wrap .i64 (v4 + 1))))<|.rt v3
def Zaiv (a0 : Int) : LT Zoh (List UInt8) :=
.call (Za2q a0) fun x1=>.br (!x1) (.rt ([] : List UInt8))<|.br (a0 == 0) (.rt ([110, 111, 110, 101] : List UInt8))<|.g0 (.L0 a0 ([] : List UInt8) 0)
def Zaiw : LF Zoh (List UInt8) := ⟨179, [.t 2], false, fun | .L0 .. => [1,1,1,1,0,1,4],
 fun | .L0 v0 v3 v4 => ⟨29, [(0, (wI v0)), (3, (wS v3)), (4, (wI v4))], []⟩,
 fun r => [], fun r => (wS r), fun | .L0 v0 v3 v4 => Z0e v0 v3 v4⟩
def Zafm (a0 : Int) : Option (List UInt8) := Zaiw.run (Zaiv a0)
theorem Zacr (a0 : Int) {r : (List UInt8)} (h : Zafm a0 = some r) : Fn PR 179 [(wI a0)] (wS r) := Zaiw.fn h
def Zacs : LT Empty (List (List UInt8)) :=
.lb 1001<|.ret [([102, 108, 121, 105, 110, 103] : List UInt8), ([114, 101, 97, 99, 104] : List UInt8), ([104, 97, 115, 116, 101] : List UInt8), ([118, 105, 103, 105, 108, 97, 110, 116] : List UInt8), ([116, 114, 97, 109, 112, 108, 101] : List UInt8), ([102, 105, 114, 115, 116, 45, 115, 116, 114, 105, 107, 101] : List UInt8), ([100, 111, 117, 98, 108, 101, 45, 115, 116, 114, 105, 107, 101] : List UInt8), ([100, 101, 97, 100, 108, 121] : List UInt8), ([108, 105, 102, 101, 108, 105, 110, 107] : List UInt8), ([109, 101, 110, 97, 99, 101] : List UInt8), ([100, 101, 102, 101, 110, 100, 101, 114] : List UInt8), ([119, 97, 114, 100, 101, 100] : List UInt8), ([115, 116, 117, 114, 100, 121] : List UInt8), ([101, 108, 117, 115, 105, 118, 101] : List UInt8), ([110, 111, 45, 97, 116, 116, 97, 99, 107] : List UInt8), ([110, 111, 45, 98, 108, 111, 99, 107] : List UInt8), ([109, 117, 115, 116, 45, 97, 116, 116, 97, 99, 107] : List UInt8)] [.relab 1001 5000]
def Zact : LF Empty (List (List UInt8)) := .z 216 [.t 0] true (fun r => [(5000, wR cS 1 r)]) (fun r => (wO cS 5000 r))
def Zyy : Option (List (List UInt8)) := Zact.run (Zacs)
theorem Zap8 {r : (List (List UInt8))} (h : Zyy = some r) : FnG PR 216 [] [] [(5000, wR cS 1 r)] (wO cS 5000 r) := Zact.fn h
theorem Zaty {r : (List (List UInt8))} (h : Zyy = some r) : Fn PR 216 [] (wL cS r) :=
 FnG.frozen (C := LT.RL cS r ∧ True) (Zap8 h) ⟨rfl, trivial⟩ (by kernel_rfl)
def Zaix (a0 : Int) : LT Empty (List UInt8) :=
.cs (decide (a0 < 0)) (.k3 0<|.kn [0]<|.rt ([] : List UInt8))<|.k3 0<|.br (decide (a0 > 16)) (.rt ([] : List UInt8))<|.call (Zaty) fun x3=>.idx cS x3 a0 fun x5=>.rt x5
def Zaiy : LF Empty (List UInt8) := .z 200 [.t 2] false (fun r => []) (fun r => (wS r))
def Zafn (a0 : Int) : Option (List UInt8) := Zaiy.run (Zaix a0)
theorem Z0f (a0 : Int) {r : (List UInt8)} (h : Zafn a0 = some r) : Fn PR 200 [(wI a0)] (wS r) := Zaiy.fn h
inductive Zoi where
 | L0 (v0 : Int) (v3 : (List UInt8)) (v4 : Int)
def Z0g (v0 : Int) (v3 : (List UInt8)) (v4 : Int) : LT Zoi (List UInt8) :=
.br (decide (v4 < 17)) (.dc ((2 : Int) ≠ 0) rfl<|.br ((Int.tmod v0 2) == 1) (.br (!(v3 == ([] : List UInt8))) (.ok (v3.length + ([43] : List UInt8).length ≤ 9223372036854775807)<|.call (Z0f v4) fun x6=>.ok ((v3 ++ ([43] : List UInt8)).length + x6.length ≤ 9223372036854775807)<|.dc ((2 : Int) ≠ 0) rfl<|.g0 (.L0 (Zka .i64 v0 2) ((v3 ++ ([43] : List UInt8)) ++ x6) (IntKind.wrap .i64 (v4 + 1))))<|.call (Z0f v4) fun x13=>.ok (v3.length + x13.length ≤ 9223372036854775807)<|.dc ((2 : Int) ≠ 0) rfl<|.g0 (.L0 (Zka .i64 v0 2) (v3 ++ x13) (IntKind.wrap .i64 (v4 + 1))))<|.dc ((2 : Int) ≠ 0) rfl<|.g0 (.L0 (Zka .i64 v0 2) v3 (IntKind.wrap .i64 (v4 + 1))))<|.br (v3 == ([] : List UInt8)) (.rt ([110, 111, 110, 101] : List UInt8))<|.rt v3
def Zaiz (a0 : Int) : LT Zoi (List UInt8) :=
.call (Zao9 a0) fun x1=>.br (!x1) (.rt ([] : List UInt8))<|.g0 (.L0 a0 ([] : List UInt8) 0)
def Zai0 : LF Zoi (List UInt8) := ⟨180, [.t 2], false, fun | .L0 .. => [1,1,1,0,1,4],
 fun | .L0 v0 v3 v4 => ⟨28, [(0, (wI v0)), (3, (wS v3)), (4, (wI v4))], []⟩,
 fun r => [], fun r => (wS r), fun | .L0 v0 v3 v4 => Z0g v0 v3 v4⟩
def Zafo (a0 : Int) : Option (List UInt8) := Zai0.run (Zaiz a0)
theorem Zacu (a0 : Int) {r : (List UInt8)} (h : Zafo a0 = some r) : Fn PR 180 [(wI a0)] (wS r) := Zai0.fn h
def Zyz : LT Empty (List (List UInt8)) :=
.lb 1001<|.ret [([] : List UInt8), ([105, 110, 45, 104, 97, 110, 100] : List UInt8), ([105, 110, 45, 108, 105, 98, 114, 97, 114, 121] : List UInt8), ([105, 110, 45, 103, 114, 97, 118, 101, 121, 97, 114, 100] : List UInt8), ([105, 110, 45, 101, 120, 105, 108, 101] : List UInt8), ([111, 110, 45, 115, 116, 97, 99, 107] : List UInt8)] [.relab 1001 5000]
def Zy0 : LF Empty (List (List UInt8)) := .z 201 [.t 0] true (fun r => [(5000, wR cS 1 r)]) (fun r => (wO cS 5000 r))
def Zmo : Option (List (List UInt8)) := Zy0.run (Zyz)
theorem Zab2 {r : (List (List UInt8))} (h : Zmo = some r) : FnG PR 201 [] [] [(5000, wR cS 1 r)] (wO cS 5000 r) := Zy0.fn h
theorem Zafp {r : (List (List UInt8))} (h : Zmo = some r) : Fn PR 201 [] (wL cS r) :=
 FnG.frozen (C := LT.RL cS r ∧ True) (Zab2 h) ⟨rfl, trivial⟩ (by kernel_rfl)
def Z17 : LT Empty (List (List UInt8)) :=
.lb 1001<|.ret [([] : List UInt8), ([121, 111, 117, 114, 115] : List UInt8), ([116, 104, 101, 105, 114, 115] : List UInt8)] [.relab 1001 5000]
def Z18 : LF Empty (List (List UInt8)) := .z 202 [.t 0] true (fun r => [(5000, wR cS 1 r)]) (fun r => (wO cS 5000 r))
def Zoj : Option (List (List UInt8)) := Z18.run (Z17)
theorem Zafq {r : (List (List UInt8))} (h : Zoj = some r) : FnG PR 202 [] [] [(5000, wR cS 1 r)] (wO cS 5000 r) := Z18.fn h
theorem Zai1 {r : (List (List UInt8))} (h : Zoj = some r) : Fn PR 202 [] (wL cS r) :=
 FnG.frozen (C := LT.RL cS r ∧ True) (Zafq h) ⟨rfl, trivial⟩ (by kernel_rfl)
def Zy1 : LT Empty (List (List UInt8)) :=
.lb 1001<|.ret [([] : List UInt8), ([115, 101, 108, 102] : List UInt8), ([111, 116, 104, 101, 114] : List UInt8)] [.relab 1001 5000]
def Zy2 : LF Empty (List (List UInt8)) := .z 203 [.t 0] true (fun r => [(5000, wR cS 1 r)]) (fun r => (wO cS 5000 r))
def Zmp : Option (List (List UInt8)) := Zy2.run (Zy1)
theorem Zab3 {r : (List (List UInt8))} (h : Zmp = some r) : FnG PR 203 [] [] [(5000, wR cS 1 r)] (wO cS 5000 r) := Zy2.fn h
theorem Zafr {r : (List (List UInt8))} (h : Zmp = some r) : Fn PR 203 [] (wL cS r) :=
 FnG.frozen (C := LT.RL cS r ∧ True) (Zab3 h) ⟨rfl, trivial⟩ (by kernel_rfl)
def Z19 : LT Empty (List (List UInt8)) :=
.lb 1001<|.ret [([] : List UInt8), ([116, 97, 112, 112, 101, 100] : List UInt8), ([117, 110, 116, 97, 112, 112, 101, 100] : List UInt8)] [.relab 1001 5000]
def Z2a : LF Empty (List (List UInt8)) := .z 204 [.t 0] true (fun r => [(5000, wR cS 1 r)]) (fun r => (wO cS 5000 r))
def Zok : Option (List (List UInt8)) := Z2a.run (Z19)
theorem Zafs {r : (List (List UInt8))} (h : Zok = some r) : FnG PR 204 [] [] [(5000, wR cS 1 r)] (wO cS 5000 r) := Z2a.fn h
theorem Zai2 {r : (List (List UInt8))} (h : Zok = some r) : Fn PR 204 [] (wL cS r) :=
 FnG.frozen (C := LT.RL cS r ∧ True) (Zafs h) ⟨rfl, trivial⟩ (by kernel_rfl)
inductive Zsg where
 | L0 (v0 : Int) (v1 : Int) (v5 : Int)
def Z4g (v0 : Int) (v1 : Int) (v5 : Int) : LT Zsg Bool :=
.br (decide (v5 < v1)) (.dc ((2 : Int) ≠ 0) rfl<|.g0 (.L0 (Zka .i64 v0 2) v1 (IntKind.wrap .i64 (v5 + 1))))<|.dc ((2 : Int) ≠ 0) rfl<|.rt ((Int.tmod v0 2) == 1)
def Zapa (a0 : Int) (a1 : Int) : LT Zsg Bool :=
.g0 (.L0 a0 a1 0)
def Zapb : LF Zsg Bool := ⟨206, [.t 4], false, fun | .L0 .. => [1,0,1,4],
 fun | .L0 v0 v1 v5 => ⟨16, [(0, (wI v0)), (1, (wI v1)), (5, (wI v5))], []⟩,
 fun r => [], fun r => (wB r), fun | .L0 v0 v1 v5 => Z4g v0 v1 v5⟩
def Zam0 (a0 : Int) (a1 : Int) : Option Bool := Zapb.run (Zapa a0 a1)
theorem Zol (a0 : Int) (a1 : Int) {r : Bool} (h : Zam0 a0 a1 = some r) : Fn PR 206 [(wI a0), (wI a1)] (wB r) := Zapb.fn h
inductive Zh2 where
 | L0 (v0 : Int) (v3 : Int) (v4 : Int)
def Zom (v0 : Int) (v3 : Int) (v4 : Int) : LT Zh2 (List UInt8) :=
.br (decide (v4 < v0)) (.g0 (.L0 v0 (IntKind.wrap .i64 (v3 * 2)) (IntKind.wrap .i64 (v4 + 1))))<|.call (Zm8 v3) fun x6=>.rt x6
def Z2b (a0 : Int) : LT Zh2 (List UInt8) :=
.g0 (.L0 a0 1 0)
def Z2c : LF Zh2 (List UInt8) := ⟨207, [.t 2], false, fun | .L0 .. => [1,1,0,1,4],
 fun | .L0 v0 v3 v4 => ⟨14, [(0, (wI v0)), (3, (wI v3)), (4, (wI v4))], []⟩,
 fun r => [], fun r => (wS r), fun | .L0 v0 v3 v4 => Zom v0 v3 v4⟩
def Zv4 (a0 : Int) : Option (List UInt8) := Z2c.run (Z2b a0)
theorem Zy3 (a0 : Int) {r : (List UInt8)} (h : Zv4 a0 = some r) : Fn PR 207 [(wI a0)] (wS r) := Z2c.fn h
def Zacv : LT Empty (List (List UInt8)) :=
.lb 1001<|.ret [([] : List UInt8), ([62, 61] : List UInt8), ([60, 61] : List UInt8), ([61] : List UInt8)] [.relab 1001 5000]
def Zacw : LF Empty (List (List UInt8)) := .z 217 [.t 0] true (fun r => [(5000, wR cS 1 r)]) (fun r => (wO cS 5000 r))
def Zy4 : Option (List (List UInt8)) := Zacw.run (Zacv)
theorem Zap9 {r : (List (List UInt8))} (h : Zy4 = some r) : FnG PR 217 [] [] [(5000, wR cS 1 r)] (wO cS 5000 r) := Zacw.fn h
theorem Zatz {r : (List (List UInt8))} (h : Zy4 = some r) : Fn PR 217 [] (wL cS r) :=
 FnG.frozen (C := LT.RL cS r ∧ True) (Zap9 h) ⟨rfl, trivial⟩ (by kernel_rfl)
inductive Zv5 where
 | L0 (v0 : Int) (v3 : (List UInt8))
def Zfs (v0 : Int) (v3 : (List UInt8)) : LT Zv5 (List UInt8) :=
.br (decide (v0 > 0)) (.dc ((10 : Int) ≠ 0) rfl<|.dr [.lit]<|.str [IntKind.wrap .u8 (IntKind.wrap .u64 (48 + (Int.tmod v0 10)))] fun x5=>.ok (x5.length + v3.length ≤ 9223372036854775807)<|.dc ((10 : Int) ≠ 0) rfl<|.g0 (.L0 (Zka .u64 v0 10) (x5 ++ v3)))<|.rt v3
def Z8e (a0 : Int) : LT Zv5 (List UInt8) :=
.dc ((10 : Int) ≠ 0) rfl<|.dr [.lit]<|.str [IntKind.wrap .u8 (IntKind.wrap .u64 (48 + (Int.tmod a0 10)))] fun x4=>.dc ((10 : Int) ≠ 0) rfl<|.g0 (.L0 (Zka .u64 a0 10) x4)
def Zon : LF Zv5 (List UInt8) := ⟨210, [.t 2], false, fun | .L0 .. => [1,1,0,1,4],
 fun | .L0 v0 v3 => ⟨25, [(0, (.t (.int .u64 v0))), (3, (wS v3))], []⟩,
 fun r => [], fun r => (wS r), fun | .L0 v0 v3 => Zfs v0 v3⟩
def Z4h (a0 : Int) : Option (List UInt8) := Zon.run (Z8e a0)
theorem Z5t (a0 : Int) {r : (List UInt8)} (h : Z4h a0 = some r) : Fn PR 210 [(.t (.int .u64 a0))] (wS r) := Zon.fn h
def Zai3 (a0 : Int) : LT Empty (List UInt8) :=
.br (decide (a0 < 0)) (.call (Z5t (IntKind.wrap .u64 (0 - (IntKind.wrap .u64 a0)))) fun x4=>.ok (([45] : List UInt8).length + x4.length ≤ 9223372036854775807)<|.rt (([45] : List UInt8) ++ x4))<|.call (Z5t (IntKind.wrap .u64 a0)) fun x10=>.rt x10
def Zai4 : LF Empty (List UInt8) := .z 182 [.t 2] false (fun r => []) (fun r => (wS r))
def Zaft (a0 : Int) : Option (List UInt8) := Zai4.run (Zai3 a0)
theorem Zjq (a0 : Int) {r : (List UInt8)} (h : Zaft a0 = some r) : Fn PR 182 [(wI a0)] (wS r) := Zai4.fn h
def Zy5 (a0 : (List UInt8)) (a1 : Zd) : LT Empty (List UInt8) :=
.lb 1003<|.br (a1.Kind == 0) (.rt ([] : List UInt8))<|.call (Zatz) fun x2=>.idx cS x2 a1.Kind fun x4=>.ok (a0.length + x4.length ≤ 9223372036854775807)<|.call (Zjq a1.N) fun x10=>.ok ((a0 ++ x4).length + x10.length ≤ 9223372036854775807)<|.rt ((a0 ++ x4) ++ x10)
def Zy6 : LF Empty (List UInt8) := .z 208 [.t 4] false (fun r => []) (fun r => (wS r))
def Zth (a0 : (List UInt8)) (a1 : Zd) : Option (List UInt8) := Zy6.run (Zy5 a0 a1)
theorem Zm9 (a0 : (List UInt8)) (a1 : Zd) {r : (List UInt8)} (h : Zth a0 a1 = some r) : Fn PR 208 [(wS a0), (wA (Zck a1))] (wS r) := Zy6.fn h
inductive Zoo where
 | L0 (v0 : (List (List UInt8))) (v1 : (List UInt8)) (v5 : (List UInt8)) (v6 : Int)
def Z0h (v0 : (List (List UInt8))) (v1 : (List UInt8)) (v5 : (List UInt8)) (v6 : Int) : LT Zoo (List UInt8) :=
.len cS v0<|.br (decide (v6 < (v0.length : Int))) (.br (decide (v6 > 0)) (.ok (v5.length + v1.length ≤ 9223372036854775807)<|.idx cS v0 v6 fun x7=>.ok ((v5 ++ v1).length + x7.length ≤ 9223372036854775807)<|.g0 (.L0 v0 v1 ((v5 ++ v1) ++ x7) (IntKind.wrap .i64 (v6 + 1))))<|.idx cS v0 v6 fun x14=>.ok (v5.length + x14.length ≤ 9223372036854775807)<|.g0 (.L0 v0 v1 (v5 ++ x14) (IntKind.wrap .i64 (v6 + 1))))<|.rt v5
def Zai5 (a0 : (List (List UInt8))) (a1 : (List UInt8)) : LT Zoo (List UInt8) :=
.g0 (.L0 a0 a1 ([] : List UInt8) 0)
def Zai6 : LF Zoo (List UInt8) := ⟨209, [.t 4], false, fun | .L0 .. => [1,1,0,1,4],
 fun | .L0 v0 v1 v5 v6 => ⟨25, [(0, (wL cS v0)), (1, (wS v1)), (5, (wS v5)), (6, (wI v6))], []⟩,
 fun r => [], fun r => (wS r), fun | .L0 v0 v1 v5 v6 => Z0h v0 v1 v5 v6⟩
def Zafu (a0 : (List (List UInt8))) (a1 : (List UInt8)) : Option (List UInt8) := Zai6.run (Zai5 a0 a1)
theorem Zaxg (a0 : (List (List UInt8))) (a1 : (List UInt8)) {r : (List UInt8)} (h : Zafu a0 a1 = some r) : Fn PR 209 [(wL cS a0), (wS a1)] (wS r) := Zai6.fn h
def Z2d (b0 : (List (List UInt8))) (a1 : (List UInt8)) : LT Empty (List (List UInt8)) :=
.br (a1 == ([] : List UInt8)) (.ret b0 [.relab 0 5000])<|.dr [.lit]<|.apR cS 16 b0 [a1] fun x3=>.ret x3 [.relab 0 5000]
def Z2e : LF Empty (List (List UInt8)) := .z 205 [.t 4] true (fun r => [(5000, wR cS 1 r)]) (fun r => (wO cS 5000 r))
def Zv6 (b0 : (List (List UInt8))) (a1 : (List UInt8)) : Option (List (List UInt8)) := Z2e.run (Z2d b0 a1)
theorem Zef (b0 : (List (List UInt8))) (a1 : (List UInt8)) {r : (List (List UInt8))} (h : Zv6 b0 a1 = some r) : FnG PR 205 [(0, wR cS 1 b0)] [(wO cS 0 b0), (wS a1)] [(5000, wR cS 1 r)] (wO cS 5000 r) := Z2e.fn h
inductive Zfb where
 | L0 (E0 : Ze) (v6 : (List (List UInt8))) (v7 : (List (List UInt8))) (v8 : Int)
 | L1 (E0 : Ze) (v6 : (List (List UInt8))) (v7 : (List (List UInt8))) (v9 : Int)
 | L2 (E0 : Ze) (v6 : (List (List UInt8))) (v7 : (List (List UInt8))) (v10 : Int)
 | L3 (E0 : Ze) (v6 : (List (List UInt8))) (v7 : (List (List UInt8))) (v11 : Int)
 | L4 (E0 : Ze) (v6 : (List (List UInt8))) (v7 : (List (List UInt8)))
 | L5 (E0 : Ze) (v6 : (List (List UInt8))) (v7 : (List (List UInt8))) (v12 : Int)
def Zly (E0 : Ze) (v6 : (List (List UInt8))) (v7 : (List (List UInt8))) : LT Zfb (List UInt8) :=
.g0 (.L5 E0 v6 v7 0)
def Z0i (E0 : Ze) (v6 : (List (List UInt8))) (v7 : (List (List UInt8))) (v8 : Int) : LT Zfb (List UInt8) :=
.br (decide (v8 < 6)) (.call (Zol E0.Types v8) fun x2=>.br x2 (.call (Zy3 v8) fun x5=>.dr [.lit]<|.apR cS 16 v7 [x5] fun x8=>.g0 (.L0 E0 v6 x8 (IntKind.wrap .i64 (v8 + 1))))<|.g0 (.L0 E0 v6 v7 (IntKind.wrap .i64 (v8 + 1))))<|.g0 (.L1 E0 v6 v7 0)
def Z0j (E0 : Ze) (v6 : (List (List UInt8))) (v7 : (List (List UInt8))) (v9 : Int) : LT Zfb (List UInt8) :=
.br (decide (v9 < 6)) (.call (Zol E0.NotTypes v9) fun x2=>.br x2 (.call (Zy3 v9) fun x5=>.ok (([110, 111, 110, 45] : List UInt8).length + x5.length ≤ 9223372036854775807)<|.dr [.lit]<|.apR cS 16 v7 [(([110, 111, 110, 45] : List UInt8) ++ x5)] fun x11=>.g0 (.L1 E0 v6 x11 (IntKind.wrap .i64 (v9 + 1))))<|.g0 (.L1 E0 v6 v7 (IntKind.wrap .i64 (v9 + 1))))<|.g0 (.L2 E0 v6 v7 0)
def Z0k (E0 : Ze) (v6 : (List (List UInt8))) (v7 : (List (List UInt8))) (v10 : Int) : LT Zfb (List UInt8) :=
.br (decide (v10 < 5)) (.call (Zol E0.Colors v10) fun x2=>.br x2 (.call (Zrl v10) fun x5=>.dr [.lit]<|.apR cS 16 v7 [x5] fun x8=>.g0 (.L2 E0 v6 x8 (IntKind.wrap .i64 (v10 + 1))))<|.g0 (.L2 E0 v6 v7 (IntKind.wrap .i64 (v10 + 1))))<|.g0 (.L3 E0 v6 v7 0)
def Z0l (E0 : Ze) (v6 : (List (List UInt8))) (v7 : (List (List UInt8))) (v11 : Int) : LT Zfb (List UInt8) :=
.br (decide (v11 < 5)) (.call (Zol E0.NotColors v11) fun x2=>.br x2 (.call (Zrl v11) fun x5=>.ok (([110, 111, 110, 45] : List UInt8).length + x5.length ≤ 9223372036854775807)<|.dr [.lit]<|.apR cS 16 v7 [(([110, 111, 110, 45] : List UInt8) ++ x5)] fun x11=>.g0 (.L3 E0 v6 x11 (IntKind.wrap .i64 (v11 + 1))))<|.g0 (.L3 E0 v6 v7 (IntKind.wrap .i64 (v11 + 1))))<|.br (!(E0.Sub == ([] : List UInt8))) (.ok (([115, 117, 98, 58] : List UInt8).length + E0.Sub.length ≤ 9223372036854775807)<|.dr [.lit]<|.apR cS 16 v7 [(([115, 117, 98, 58] : List UInt8) ++ E0.Sub)] fun x23=>.j0 (.L4 E0 v6 x23) (Zly E0 v6 x23))<|.j0 (.L4 E0 v6 v7) (Zly E0 v6 v7)
def Z0m (E0 : Ze) (v6 : (List (List UInt8))) (v7 : (List (List UInt8))) (v12 : Int) : LT Zfb (List UInt8) :=
.br (decide (v12 < 17)) (.call (Zol E0.Keys v12) fun x2=>.br x2 (.call (Z0f v12) fun x5=>.ok (([119, 105, 116, 104, 58] : List UInt8).length + x5.length ≤ 9223372036854775807)<|.dr [.lit]<|.apR cS 16 v7 [(([119, 105, 116, 104, 58] : List UInt8) ++ x5)] fun x11=>.g0 (.L5 E0 v6 x11 (IntKind.wrap .i64 (v12 + 1))))<|.g0 (.L5 E0 v6 v7 (IntKind.wrap .i64 (v12 + 1))))<|.idx cS v6 E0.Tap fun x18=>.callU (Zef v7 x18) [20000007] 1250000 fun x20=>.call (Zm9 ([112, 111, 119, 101, 114] : List UInt8) E0.Power) fun x22=>.callU (Zef x20 x22) [1255000] 1300000 fun x24=>.call (Zm9 ([116, 111, 117, 103, 104] : List UInt8) E0.Tough) fun x26=>.callU (Zef x24 x26) [1305000] 1350000 fun x28=>.call (Zm9 ([118, 97, 108, 117, 101] : List UInt8) E0.Value) fun x30=>.callU (Zef x28 x30) [1355000] 1400000 fun x32=>.lenO cS x32<|.br ((x32.length : Int) == 0) (.rt ([97, 110, 121] : List UInt8))<|.rl cS x32<|.call (Zaxg x32 ([32] : List UInt8)) fun x36=>.rt x36
def Zai7 (a0 : Ze) : LT Zfb (List UInt8) :=
.lb 1001<|.call (Zey a0) fun x1=>.br (!x1) (.rt ([] : List UInt8))<|.call (Zafp) fun x4=>.call (Zai1) fun x6=>.call (Zafr) fun x8=>.call (Zai2) fun x10=>.idx cS x4 a0.Zone fun x12=>.dr [.ahead 26, .own 20 70000260 1, .stop]<|.callU (Zef ([] : (List (List UInt8))) x12) [70000260] 270000 fun x14=>.idx cS x6 a0.Who fun x16=>.callU (Zef x14 x16) [275000] 340000 fun x18=>.idx cS x8 a0.Self fun x20=>.callU (Zef x18 x20) [345000] 410000 fun x22=>.go (.L0 a0 x10 x22 0) [.relab 1001 30000000, .relab 415000 20000007]
def Zai8 : LF Zfb (List UInt8) := ⟨181, [.t 2], false, fun | .L0 .. => [1,1,1,1,1,1,1,1,1,1,0,1,4] | .L1 .. => [1,1,1,1,1,1,1,1,1,1,1,0,1,4] | .L2 .. => [1,1,1,1,1,1,1,1,1,1,1,1,0,1,4] | .L3 .. => [1,1,1,1,1,1,1,1,1,1,1,1,1,0,1,4] | .L4 .. => [1,1,1,1,1,1,1,1,1,1,1,1,1,1,1] | .L5 .. => [1,1,1,1,1,1,1,1,1,1,1,1,1,1,1,0,1,4],
 fun | .L0 E0 v6 v7 v8 => ⟨145, [(1, (.bptr 30000000 0)), (6, (wL cS v6)), (7, (wO cS 20000007 v7)), (8, (wI v8))], [(30000000, .box (bx (Zm E0))), (20000007, wR cS 1 v7)]⟩ | .L1 E0 v6 v7 v9 => ⟨145, [(1, (.bptr 30000000 0)), (6, (wL cS v6)), (7, (wO cS 20000007 v7)), (9, (wI v9))], [(30000000, .box (bx (Zm E0))), (20000007, wR cS 1 v7)]⟩ | .L2 E0 v6 v7 v10 => ⟨145, [(1, (.bptr 30000000 0)), (6, (wL cS v6)), (7, (wO cS 20000007 v7)), (10, (wI v10))], [(30000000, .box (bx (Zm E0))), (20000007, wR cS 1 v7)]⟩ | .L3 E0 v6 v7 v11 => ⟨145, [(1, (.bptr 30000000 0)), (6, (wL cS v6)), (7, (wO cS 20000007 v7)), (11, (wI v11))], [(30000000, .box (bx (Zm E0))), (20000007, wR cS 1 v7)]⟩ | .L4 E0 v6 v7 => ⟨145, [(1, (.bptr 30000000 0)), (6, (wL cS v6)), (7, (wO cS 20000007 v7))], [(30000000, .box (bx (Zm E0))), (20000007, wR cS 1 v7)]⟩ | .L5 E0 v6 v7 v12 => ⟨145, [(1, (.bptr 30000000 0)), (6, (wL cS v6)), (7, (wO cS 20000007 v7)), (12, (wI v12))], [(30000000, .box (bx (Zm E0))), (20000007, wR cS 1 v7)]⟩,
 fun r => [], fun r => (wS r), fun | .L0 E0 v6 v7 v8 => Z0i E0 v6 v7 v8 | .L1 E0 v6 v7 v9 => Z0j E0 v6 v7 v9 | .L2 E0 v6 v7 v10 => Z0k E0 v6 v7 v10 | .L3 E0 v6 v7 v11 => Z0l E0 v6 v7 v11 | .L4 E0 v6 v7 => Zly E0 v6 v7 | .L5 E0 v6 v7 v12 => Z0m E0 v6 v7 v12⟩
def Zafv (a0 : Ze) : Option (List UInt8) := Zai8.run (Zai7 a0)
theorem Zaxh (a0 : Ze) {r : (List UInt8)} (h : Zafv a0 = some r) : Fn PR 181 [(wA (Zm a0))] (wS r) := Zai8.fn h
def Zai9 (a0 : Zr) : LT Empty (List UInt8) :=
.lb 1001<|.call (Z8b a0) fun x1=>.br (!x1) (.rt ([] : List UInt8))<|.br (a0.Kind == 1) (.rt ([99, 111, 110, 116, 114, 111, 108] : List UInt8))<|.br (a0.Kind == 2) (.call (Zm8 a0.N) fun x6=>.ok (([116, 121, 112, 101, 115, 61] : List UInt8).length + x6.length ≤ 9223372036854775807)<|.rt (([116, 121, 112, 101, 115, 61] : List UInt8) ++ x6))<|.br (a0.Kind == 3) (.call (Zm8 a0.N) fun x12=>.ok (([116, 121, 112, 101, 115, 43, 61] : List UInt8).length + x12.length ≤ 9223372036854775807)<|.rt (([116, 121, 112, 101, 115, 43, 61] : List UInt8) ++ x12))<|.br (a0.Kind == 4) (.ok (([115, 117, 98, 61] : List UInt8).length + a0.Sub.length ≤ 9223372036854775807)<|.rt (([115, 117, 98, 61] : List UInt8) ++ a0.Sub))<|.br (a0.Kind == 5) (.ok (([115, 117, 98, 43, 61] : List UInt8).length + a0.Sub.length ≤ 9223372036854775807)<|.rt (([115, 117, 98, 43, 61] : List UInt8) ++ a0.Sub))<|.br (a0.Kind == 6) (.call (Zacr a0.N) fun x26=>.ok (([99, 111, 108, 111, 114, 115, 61] : List UInt8).length + x26.length ≤ 9223372036854775807)<|.rt (([99, 111, 108, 111, 114, 115, 61] : List UInt8) ++ x26))<|.br (a0.Kind == 7) (.call (Zacr a0.N) fun x32=>.ok (([99, 111, 108, 111, 114, 115, 43, 61] : List UInt8).length + x32.length ≤ 9223372036854775807)<|.rt (([99, 111, 108, 111, 114, 115, 43, 61] : List UInt8) ++ x32))<|.br (a0.Kind == 8) (.call (Zacu a0.N) fun x38=>.ok (([107, 101, 121, 115, 43, 61] : List UInt8).length + x38.length ≤ 9223372036854775807)<|.rt (([107, 101, 121, 115, 43, 61] : List UInt8) ++ x38))<|.br (a0.Kind == 9) (.call (Zacu a0.N) fun x44=>.ok (([107, 101, 121, 115, 45, 61] : List UInt8).length + x44.length ≤ 9223372036854775807)<|.rt (([107, 101, 121, 115, 45, 61] : List UInt8) ++ x44))<|.br (a0.Kind == 10) (.rt ([98, 108, 97, 110, 107] : List UInt8))<|.br (a0.Kind == 11) (.call (Zaxh a0.Filter) fun x51=>.ok (([112, 116, 61, 99, 111, 117, 110, 116, 40] : List UInt8).length + x51.length ≤ 9223372036854775807)<|.ok ((([112, 116, 61, 99, 111, 117, 110, 116, 40] : List UInt8) ++ x51).length + ([41] : List UInt8).length ≤ 9223372036854775807)<|.rt ((([112, 116, 61, 99, 111, 117, 110, 116, 40] : List UInt8) ++ x51) ++ ([41] : List UInt8)))<|.br (a0.Kind == 12) (.call (Zjq a0.N) fun x58=>.ok (([112, 116, 61] : List UInt8).length + x58.length ≤ 9223372036854775807)<|.ok ((([112, 116, 61] : List UInt8) ++ x58).length + ([47] : List UInt8).length ≤ 9223372036854775807)<|.call (Zjq a0.M) fun x65=>.ok (((([112, 116, 61] : List UInt8) ++ x58) ++ ([47] : List UInt8)).length + x65.length ≤ 9223372036854775807)<|.rt (((([112, 116, 61] : List UInt8) ++ x58) ++ ([47] : List UInt8)) ++ x65))<|.br (a0.Kind == 13) (.call (Zjq a0.N) fun x71=>.ok (([112, 116, 43, 61] : List UInt8).length + x71.length ≤ 9223372036854775807)<|.ok ((([112, 116, 43, 61] : List UInt8) ++ x71).length + ([47] : List UInt8).length ≤ 9223372036854775807)<|.call (Zjq a0.M) fun x78=>.ok (((([112, 116, 43, 61] : List UInt8) ++ x71) ++ ([47] : List UInt8)).length + x78.length ≤ 9223372036854775807)<|.rt (((([112, 116, 43, 61] : List UInt8) ++ x71) ++ ([47] : List UInt8)) ++ x78))<|.rt ([112, 116, 45, 115, 119, 105, 116, 99, 104] : List UInt8)
def Zaja : LF Empty (List UInt8) := .z 147 [.t 2] false (fun r => []) (fun r => (wS r))
def Zafw (a0 : Zr) : Option (List UInt8) := Zaja.run (Zai9 a0)
theorem Zacx (a0 : Zr) {r : (List UInt8)} (h : Zafw a0 = some r) : Fn PR 147 [(wA (Z0 a0))] (wS r) := Zaja.fn h
inductive Zh3 where
 | L0 (v0 : (List Zr)) (v3 : (List UInt8)) (v4 : Int)
def Zop (v0 : (List Zr)) (v3 : (List UInt8)) (v4 : Int) : LT Zh3 (List UInt8) :=
.len Z0 v0<|.br (decide (v4 < (v0.length : Int))) (.idx Z0 v0 v4 fun x3=>.call (Z8b x3) fun x5=>.br (!x5) (.rt ([] : List UInt8))<|.br (decide (v4 > 0)) (.ok (v3.length + ([44, 32] : List UInt8).length ≤ 9223372036854775807)<|.ag Z0 x3 0<|.call (Zacx x3) fun x11=>.ok ((v3 ++ ([44, 32] : List UInt8)).length + x11.length ≤ 9223372036854775807)<|.g0 (.L0 v0 ((v3 ++ ([44, 32] : List UInt8)) ++ x11) (IntKind.wrap .i64 (v4 + 1))))<|.ag Z0 x3 0<|.call (Zacx x3) fun x17=>.ok (v3.length + x17.length ≤ 9223372036854775807)<|.g0 (.L0 v0 (v3 ++ x17) (IntKind.wrap .i64 (v4 + 1))))<|.rt v3
def Z2f (a0 : (List Zr)) : LT Zh3 (List UInt8) :=
.len Z0 a0<|.cs ((a0.length : Int) == 0) (.k4 0<|.kn [0]<|.rt ([] : List UInt8))<|.k2 0<|.len Z0 a0<|.k2 0<|.br (decide ((a0.length : Int) > 6)) (.rt ([] : List UInt8))<|.g0 (.L0 a0 ([] : List UInt8) 0)
def Z2g : LF Zh3 (List UInt8) := ⟨97, [.t 2], false, fun | .L0 .. => [1,1,1,0,1,4],
 fun | .L0 v0 v3 v4 => ⟨37, [(0, (wL Z0 v0)), (3, (wS v3)), (4, (wI v4))], []⟩,
 fun r => [], fun r => (wS r), fun | .L0 v0 v3 v4 => Zop v0 v3 v4⟩
def Zv7 (a0 : (List Zr)) : Option (List UInt8) := Z2g.run (Z2f a0)
theorem Zoq (a0 : (List Zr)) {r : (List UInt8)} (h : Zv7 a0 = some r) : Fn PR 97 [(wL Z0 a0)] (wS r) := Z2g.fn h
def Zacy (a0 : Zfj) : LT Empty Bool :=
.lb 1001<|.call (Zr7 a0.Mana) fun x1=>.cs x1 (.k5 0<|.cs (a0.Mana.X == 0) (.k4 1<|.cs (decide (a0.Life ≥ 0)) (.k4 2<|.rt (decide (a0.Life ≤ 99)))<|.k4 2<|.rt false)<|.k4 1<|.b4 false<|.rt false)<|.k5 0<|.b8 false<|.rt false
def Zacz : LF Empty Bool := .z 133 [.t 2] false (fun r => []) (fun r => (wB r))
def Z8f (a0 : Zfj) : Option Bool := Zacz.run (Zacy a0)
theorem Zat0 (a0 : Zfj) {r : Bool} (h : Z8f a0 = some r) : Fn PR 133 [(wA (Ze9 a0))] (wB r) := Zacz.fn h
def Zajb (a0 : Int) : LT Empty (List UInt8) :=
.br (a0 == 1) (.rt ([101, 110, 116, 101, 114, 115] : List UInt8))<|.br (a0 == 2) (.rt ([108, 101, 97, 118, 101, 115] : List UInt8))<|.br (a0 == 3) (.rt ([100, 105, 101, 115] : List UInt8))<|.br (a0 == 4) (.rt ([97, 116, 116, 97, 99, 107, 115] : List UInt8))<|.br (a0 == 5) (.rt ([98, 108, 111, 99, 107, 115] : List UInt8))<|.br (a0 == 6) (.rt ([100, 101, 97, 108, 115] : List UInt8))<|.br (a0 == 7) (.rt ([100, 101, 97, 108, 116] : List UInt8))<|.br (a0 == 8) (.rt ([100, 114, 97, 119, 115] : List UInt8))<|.br (a0 == 9) (.rt ([99, 97, 115, 116, 115] : List UInt8))<|.br (a0 == 10) (.rt ([117, 112, 107, 101, 101, 112] : List UInt8))<|.br (a0 == 11) (.rt ([101, 110, 100] : List UInt8))<|.br (a0 == 12) (.rt ([103, 97, 105, 110, 115] : List UInt8))<|.br (a0 == 13) (.rt ([108, 111, 115, 101, 115] : List UInt8))<|.br (a0 == 14) (.rt ([112, 108, 97, 99, 101, 100] : List UInt8))<|.rt ([] : List UInt8)
def Zajc : LF Empty (List UInt8) := .z 165 [.t 2] false (fun r => []) (fun r => (wS r))
def Zafx (a0 : Int) : Option (List UInt8) := Zajc.run (Zajb a0)
theorem Zac0 (a0 : Int) {r : (List UInt8)} (h : Zafx a0 = some r) : Fn PR 165 [(wI a0)] (wS r) := Zajc.fn h
def Z8g (a0 : Int) : LT Empty Bool :=
.cs (a0 == 8) (.k3 0<|.b8 true<|.b4 true<|.rt true)<|.k3 0<|.cs (a0 == 9) (.k3 1<|.b8 true<|.kb true<|.rt true)<|.k3 1<|.cs (a0 == 10) (.k3 2<|.b5 true<|.kb true<|.rt true)<|.k3 2<|.cs (a0 == 11) (.k3 3<|.b3 true<|.rt true)<|.k3 3<|.cs (a0 == 12) (.k3 4<|.rt true)<|.k3 4<|.rt (a0 == 13)
def Z8h : LF Empty Bool := .z 166 [.t 2] false (fun r => []) (fun r => (wB r))
def Z4i (a0 : Int) : Option Bool := Z8h.run (Z8g a0)
theorem Z5u (a0 : Int) {r : Bool} (h : Z4i a0 = some r) : Fn PR 166 [(wI a0)] (wB r) := Z8h.fn h
def Zy7 (a0 : Int) : LT Empty Bool :=
.call (Zac0 a0) fun x1=>.cs (!(x1 == ([] : List UInt8))) (.k2 0<|.call (Z5u a0) fun x4=>.k2 0<|.cs (!x4) (.k2 1<|.kg 0<|.kg 1<|.kg 0<|.rt true)<|.k2 1<|.kg 0<|.kg 1<|.kg 0<|.rt (a0 == 9))<|.k5 0<|.kg 0<|.rt false
def Zy8 : LF Empty Bool := .z 167 [.t 2] false (fun r => []) (fun r => (wB r))
def Zti (a0 : Int) : Option Bool := Zy8.run (Zy7 a0)
theorem Zafy (a0 : Int) {r : Bool} (h : Zti a0 = some r) : Fn PR 167 [(wI a0)] (wB r) := Zy8.fn h
inductive Zv8 where
 | L0 (E0 : Zb6)
def Zsh (E0 : Zb6) : LT Zv8 Bool :=
.call (Zafy E0.When) fun x1=>.br (!x1) (.rt (Zas (Zm E0.Filter) (Zm (⟨0, 0, 0, 0, 0, 0, 0, ([] : List UInt8), 0, 0, (⟨0, 0⟩ : Zd), (⟨0, 0⟩ : Zd), (⟨0, 0⟩ : Zd)⟩ : Ze))))<|.br (E0.When == 9) (.call (Zey E0.Filter) fun x5=>.cs x5 (.k5 2<|.kg 2<|.rt (E0.Filter.Zone == 5))<|.k5 2<|.kg 2<|.rt false)<|.call (Zey E0.Filter) fun x8=>.cs x8 (.k5 2<|.kg 2<|.rt (E0.Filter.Zone == 0))<|.k5 2<|.kg 2<|.rt false
def Zat1 (a0 : Zb6) : LT Zv8 Bool :=
.lb 1001<|.call (Zac0 a0.When) fun x1=>.cs (x1 == ([] : List UInt8)) (.k4 0<|.b8 true<|.b3 true<|.kn [0]<|.rt false)<|.k4 0<|.cs (decide (a0.Who < 0)) (.k4 1<|.b5 true<|.b2 true<|.kn [0]<|.rt false)<|.k4 1<|.cs (decide (a0.Who > 2)) (.k5 2<|.k2 2<|.kn [0]<|.rt false)<|.k3 2<|.call (Z5u a0.When) fun x6=>.k2 2<|.cs (!x6) (.k3 3<|.kg 2<|.kg 3<|.kg 2<|.br (a0.Who != 0) (.rt false)<|.jn 0 (.L0 a0) [.relab 1001 30000000] (Zsh a0))<|.k3 3<|.kg 2<|.kg 3<|.kg 2<|.kn [0]<|.jn 0 (.L0 a0) [.relab 1001 30000000] (Zsh a0)
def Zat2 : LF Zv8 Bool := ⟨134, [.t 2], false, fun | .L0 .. => [1,1],
 fun | .L0 E0 => ⟨50, [(1, (.bptr 30000000 0))], [(30000000, .box (bx (Zdj E0)))]⟩,
 fun r => [], fun r => (wB r), fun | .L0 E0 => Zsh E0⟩
def Zat3 (a0 : Zb6) : Option Bool := Zat2.run (Zat1 a0)
theorem Za2r (a0 : Zb6) {r : Bool} (h : Zat3 a0 = some r) : Fn PR 134 [(wA (Zdj a0))] (wB r) := Zat2.fn h
def Zac1 (a0 : Ze) : LT Empty Bool :=
.lb 1001<|.call (Zey a0) fun x1=>.cs x1 (.k4 0<|.rt (a0.Zone == 0))<|.k4 0<|.rt false
def Zac2 : LF Empty Bool := .z 170 [.t 2] false (fun r => []) (fun r => (wB r))
def Z8i (a0 : Ze) : Option Bool := Zac2.run (Zac1 a0)
theorem Zv9 (a0 : Ze) {r : Bool} (h : Z8i a0 = some r) : Fn PR 170 [(wA (Zm a0))] (wB r) := Zac2.fn h
def Zac3 (a0 : Zay) : LT Empty Bool :=
.lb 1001<|.cs (a0.Who != 0) (.k5 0<|.kn [0]<|.rt false)<|.k3 0<|.call (Zv9 a0.Filter) fun x2=>.k2 0<|.br (!x2) (.rt false)<|.br (a0.Do == 5) (.cs (a0.N == 0) (.k4 3<|.cs (a0.Counter == 0) (.k4 4<|.cs (a0.Zone == 1) (.k3 5<|.kg 4<|.kg 5<|.kg 4<|.b3 true<|.kg 4<|.kb true<|.kg 4<|.rt true)<|.k3 5<|.kg 4<|.kg 5<|.kg 4<|.cs (a0.Zone == 2) (.k3 6<|.kg 4<|.kg 6<|.kg 4<|.rt true)<|.k3 6<|.kg 4<|.kg 6<|.kg 4<|.rt (a0.Zone == 4))<|.k8 4<|.rt false)<|.k4 3<|.b8 false<|.rt false)<|.br (a0.Do == 6) (.cs (a0.N == 0) (.k4 4<|.cs (a0.Counter == 0) (.k4 5<|.rt (a0.Zone == 0))<|.k4 5<|.rt false)<|.k4 4<|.b4 false<|.rt false)<|.br (a0.Do == 7) (.cs (a0.Zone == 0) (.k4 5<|.cs (decide (a0.N ≥ 1)) (.k4 6<|.cs (decide (a0.N ≤ 99)) (.k4 7<|.cs (decide (a0.Counter ≥ 0)) (.k4 8<|.rt (decide (a0.Counter < 3)))<|.k4 8<|.rt false)<|.k4 7<|.b4 false<|.rt false)<|.k4 6<|.b8 false<|.rt false)<|.k4 5<|.b8 false<|.b4 false<|.rt false)<|.rt false
def Zac4 : LF Empty Bool := .z 168 [.t 2] false (fun r => []) (fun r => (wB r))
def Z8j (a0 : Zay) : Option Bool := Zac4.run (Zac3 a0)
theorem Zat4 (a0 : Zay) {r : Bool} (h : Z8j a0 = some r) : Fn PR 168 [(wA (Zbu a0))] (wB r) := Zac4.fn h
def Zac5 (a0 : Zay) : LT Empty Bool :=
.lb 1001<|.cs (a0.Zone != 0) (.k4 0<|.kn [0]<|.rt false)<|.k4 0<|.br (a0.Counter != 0) (.rt false)<|.cs (a0.Do == 2) (.k4 2<|.kn [0]<|.cs (decide (a0.N ≥ 1)) (.k4 3<|.rt (decide (a0.N ≤ 99)))<|.k4 3<|.rt false)<|.k4 2<|.br (a0.Do == 4) (.cs (decide (a0.N ≥ 1)) (.k4 4<|.rt (decide (a0.N ≤ 99)))<|.k4 4<|.rt false)<|.rt (a0.N == 0)
def Zac6 : LF Empty Bool := .z 169 [.t 2] false (fun r => []) (fun r => (wB r))
def Z8k (a0 : Zay) : Option Bool := Zac6.run (Zac5 a0)
theorem Zat5 (a0 : Zay) {r : Bool} (h : Z8k a0 = some r) : Fn PR 169 [(wA (Zbu a0))] (wB r) := Zac6.fn h
inductive Zna where
 | L0 (E0 : Zay) (v3 : Bool) (v4 : Bool)
 | L1 (E0 : Zay) (v3 : Bool)
 | L2 (E0 : Zay) (v3 : Bool) (v4 : Bool) (v109 : Bool)
def Znp (E0 : Zay) (v3 : Bool) (v4 : Bool) (v109 : Bool) : LT Zna Bool :=
.br v109 (.cs v4 (.k4 1<|.cs (decide (E0.Who ≥ 0)) (.k4 2<|.cs (decide (E0.Who ≤ 2)) (.k2 3<|.rt v3)<|.k2 3<|.rt false)<|.k4 2<|.b2 false<|.rt false)<|.k4 1<|.b5 false<|.kb false<|.rt false)<|.rt false
def Zkf (E0 : Zay) (v3 : Bool) : LT Zna Bool :=
.cs (E0.Who == 0) (.k3 0<|.call (Zv9 E0.Filter) fun x2=>.kg 0<|.cs x2 (.k8 1<|.rt true)<|.k4 1<|.cs (E0.Who == 1) (.k3 2<|.kg 1<|.kg 2<|.kg 1<|.kb true<|.kg 1<|.kb true<|.kg 1<|.rt v3)<|.k3 2<|.kg 1<|.kg 2<|.kg 1<|.cs (E0.Who == 2) (.kg 3<|.kg 1<|.kg 3<|.kg 1<|.rt v3)<|.kg 3<|.kg 1<|.kg 3<|.kg 1<|.rt false)<|.k4 0<|.b4 false<|.cs (E0.Who == 1) (.k3 1<|.kb false<|.kg 1<|.kb false<|.kb true<|.kb false<|.kb true<|.kb false<|.rt v3)<|.k3 1<|.kb false<|.kg 1<|.kb false<|.cs (E0.Who == 2) (.kg 2<|.kb false<|.kg 2<|.kb false<|.rt v3)<|.kg 2<|.kb false<|.kg 2<|.kb false<|.rt false
def Znq (E0 : Zay) (v3 : Bool) (v4 : Bool) : LT Zna Bool :=
.br (E0.On == 1) (.cs (E0.Do != 1) (.k4 1<|.cs (E0.Do != 2) (.k4 2<|.cs (E0.Do != 3) (.k4 3<|.br (E0.Do != 4) (.rt false)<|.j0 (.L1 E0 v3) (Zkf E0 v3))<|.k4 3<|.kn [0]<|.j0 (.L1 E0 v3) (Zkf E0 v3))<|.k4 2<|.b4 false<|.kn [0]<|.j0 (.L1 E0 v3) (Zkf E0 v3))<|.k4 1<|.b8 false<|.kn [0]<|.j0 (.L1 E0 v3) (Zkf E0 v3))<|.br (E0.On == 8) (.cs v4 (.k4 2<|.cs (E0.Who == 0) (.k3 3<|.call (Zv9 E0.Filter) fun x9=>.kg 3<|.rt x9)<|.k4 3<|.rt false)<|.k4 2<|.b4 false<|.rt false)<|.br (E0.On == 3) (.cs (E0.Do == 4) (.k4 3<|.b4 true<|.cs (decide (E0.Who ≥ 0)) (.k4 4<|.cs (decide (E0.Who ≤ 2)) (.k2 5<|.rt v3)<|.k2 5<|.rt false)<|.k4 4<|.b2 false<|.rt false)<|.k4 3<|.cs (E0.Do == 8) (.k4 4<|.cs (decide (E0.Who ≥ 0)) (.k4 5<|.cs (decide (E0.Who ≤ 2)) (.k2 6<|.rt v3)<|.k2 6<|.rt false)<|.k4 5<|.b2 false<|.rt false)<|.k4 4<|.b5 false<|.kb false<|.rt false)<|.br (E0.On == 4) (.j0 (.L2 E0 v3 v4 (E0.On == 4)) (Znp E0 v3 v4 (E0.On == 4)))<|.br (E0.On == 5) (.j0 (.L2 E0 v3 v4 (E0.On == 5)) (Znp E0 v3 v4 (E0.On == 5)))<|.j0 (.L2 E0 v3 v4 (E0.On == 10)) (Znp E0 v3 v4 (E0.On == 10))
def Zat6 (a0 : Zay) : LT Zna Bool :=
.lb 1001<|.br (a0.On == 2) (.call (Zat4 a0) fun x2=>.rt x2)<|.call (Zat5 a0) fun x4=>.br (!x4) (.rt false)<|.cs (a0.Do == 3) (.k4 2<|.b4 true<|.jn 0 (.L0 a0 (Zas (Zm a0.Filter) (Zm (⟨0, 0, 0, 0, 0, 0, 0, ([] : List UInt8), 0, 0, (⟨0, 0⟩ : Zd), (⟨0, 0⟩ : Zd), (⟨0, 0⟩ : Zd)⟩ : Ze))) true) [.relab 1001 30000000] (Znq a0 (Zas (Zm a0.Filter) (Zm (⟨0, 0, 0, 0, 0, 0, 0, ([] : List UInt8), 0, 0, (⟨0, 0⟩ : Zd), (⟨0, 0⟩ : Zd), (⟨0, 0⟩ : Zd)⟩ : Ze))) true))<|.k4 2<|.cs (a0.Do == 4) (.k4 3<|.jn 0 (.L0 a0 (Zas (Zm a0.Filter) (Zm (⟨0, 0, 0, 0, 0, 0, 0, ([] : List UInt8), 0, 0, (⟨0, 0⟩ : Zd), (⟨0, 0⟩ : Zd), (⟨0, 0⟩ : Zd)⟩ : Ze))) true) [.relab 1001 30000000] (Znq a0 (Zas (Zm a0.Filter) (Zm (⟨0, 0, 0, 0, 0, 0, 0, ([] : List UInt8), 0, 0, (⟨0, 0⟩ : Zd), (⟨0, 0⟩ : Zd), (⟨0, 0⟩ : Zd)⟩ : Ze))) true))<|.k4 3<|.jn 0 (.L0 a0 (Zas (Zm a0.Filter) (Zm (⟨0, 0, 0, 0, 0, 0, 0, ([] : List UInt8), 0, 0, (⟨0, 0⟩ : Zd), (⟨0, 0⟩ : Zd), (⟨0, 0⟩ : Zd)⟩ : Ze))) (a0.Do == 8)) [.relab 1001 30000000] (Znq a0 (Zas (Zm a0.Filter) (Zm (⟨0, 0, 0, 0, 0, 0, 0, ([] : List UInt8), 0, 0, (⟨0, 0⟩ : Zd), (⟨0, 0⟩ : Zd), (⟨0, 0⟩ : Zd)⟩ : Ze))) (a0.Do == 8))
def Zat7 : LF Zna Bool := ⟨135, [.t 2], false, fun | .L0 .. => [1,1,1,1,1] | .L1 .. => [1,1,1,1,1,0,1,4,1,2,1] | .L2 .. => [1,1,1,1,1,0,1,4,1,3,1,3,1,3,1],
 fun | .L0 E0 v3 v4 => ⟨127, [(1, (.bptr 30000000 0)), (3, (wB v3)), (4, (wB v4))], [(30000000, .box (bx (Zbu E0)))]⟩ | .L1 E0 v3 => ⟨127, [(1, (.bptr 30000000 0)), (3, (wB v3))], [(30000000, .box (bx (Zbu E0)))]⟩ | .L2 E0 v3 v4 v109 => ⟨127, [(1, (.bptr 30000000 0)), (3, (wB v3)), (4, (wB v4)), (109, (wB v109))], [(30000000, .box (bx (Zbu E0)))]⟩,
 fun r => [], fun r => (wB r), fun | .L0 E0 v3 v4 => Znq E0 v3 v4 | .L1 E0 v3 => Zkf E0 v3 | .L2 E0 v3 v4 v109 => Znp E0 v3 v4 v109⟩
def Zat8 (a0 : Zay) : Option Bool := Zat7.run (Zat6 a0)
theorem Za2s (a0 : Zay) {r : Bool} (h : Zat8 a0 = some r) : Fn PR 135 [(wA (Zbu a0))] (wB r) := Zat7.fn h
def Zajd (a0 : Zcs) : LT Empty Bool :=
.lb 1001<|.br (!a0.Object) (.cs a0.Player (.k5 1<|.rt (Zas (Zm a0.Filter) (Zm (⟨0, 0, 0, 0, 0, 0, 0, ([] : List UInt8), 0, 0, (⟨0, 0⟩ : Zd), (⟨0, 0⟩ : Zd), (⟨0, 0⟩ : Zd)⟩ : Ze))))<|.k5 1<|.rt false)<|.call (Zey a0.Filter) fun x3=>.cs x3 (.k3 1<|.cs (a0.Filter.Zone == 0) (.k2 2<|.kg 1<|.kg 2<|.kg 1<|.b2 true<|.kg 1<|.kb true<|.kg 1<|.rt true)<|.k2 2<|.kg 1<|.kg 2<|.kg 1<|.cs (a0.Filter.Zone == 3) (.k2 3<|.kg 1<|.kg 3<|.kg 1<|.rt true)<|.k2 3<|.kg 1<|.kg 3<|.kg 1<|.rt (a0.Filter.Zone == 5))<|.k5 1<|.k2 1<|.rt false
def Zaje : LF Empty Bool := .z 171 [.t 2] false (fun r => []) (fun r => (wB r))
def Zafz (a0 : Zcs) : Option Bool := Zaje.run (Zajd a0)
theorem Zaxi (a0 : Zcs) {r : Bool} (h : Zafz a0 = some r) : Fn PR 171 [(wA (Za6 a0))] (wB r) := Zaje.fn h
inductive Zlz where
 | L0 (v0 : (List Zcs)) (v3 : Int)
def Zwa (v0 : (List Zcs)) (v3 : Int) : LT Zlz Bool :=
.len Za6 v0<|.br (decide (v3 < (v0.length : Int))) (.idx Za6 v0 v3 fun x3=>.call (Zaxi x3) fun x5=>.br (!x5) (.rt false)<|.g0 (.L0 v0 (IntKind.wrap .i64 (v3 + 1))))<|.len Za6 v0<|.rt (decide ((v0.length : Int) ≤ 4))
def Zac7 (a0 : (List Zcs)) : LT Zlz Bool :=
.g0 (.L0 a0 0)
def Zac8 : LF Zlz Bool := ⟨136, [.t 2], false, fun | .L0 .. => [1,0,1,4],
 fun | .L0 v0 v3 => ⟨19, [(0, (wL Za6 v0)), (3, (wI v3))], []⟩,
 fun r => [], fun r => (wB r), fun | .L0 v0 v3 => Zwa v0 v3⟩
def Z8l (a0 : (List Zcs)) : Option Bool := Zac8.run (Zac7 a0)
theorem Zat9 (a0 : (List Zcs)) {r : Bool} (h : Z8l a0 = some r) : Fn PR 136 [(wL Za6 a0)] (wB r) := Zac8.fn h
def Zajf (a0 : Int) : LT Empty (List UInt8) :=
.cs (decide (a0 < 1)) (.k3 0<|.kn [0]<|.rt ([] : List UInt8))<|.k3 0<|.br (decide (a0 > 26)) (.rt ([] : List UInt8))<|.dr [.lit]<|.idx cS [([100, 97, 109, 97, 103, 101] : List UInt8), ([100, 101, 115, 116, 114, 111, 121] : List UInt8), ([109, 111, 118, 101] : List UInt8), ([100, 114, 97, 119] : List UInt8), ([100, 105, 115, 99, 97, 114, 100] : List UInt8), ([103, 97, 105, 110] : List UInt8), ([108, 111, 115, 101] : List UInt8), ([116, 97, 112] : List UInt8), ([117, 110, 116, 97, 112] : List UInt8), ([112, 117, 116] : List UInt8), ([116, 97, 107, 101] : List UInt8), ([99, 114, 101, 97, 116, 101] : List UInt8), ([109, 111, 100] : List UInt8), ([109, 97, 110, 97] : List UInt8), ([99, 111, 117, 110, 116, 101, 114] : List UInt8), ([99, 111, 112, 121] : List UInt8), ([98, 101, 99, 111, 109, 101] : List UInt8), ([115, 97, 99, 114, 105, 102, 105, 99, 101] : List UInt8), ([109, 105, 108, 108] : List UInt8), ([115, 99, 114, 121] : List UInt8), ([115, 101, 97, 114, 99, 104] : List UInt8), ([115, 104, 105, 101, 108, 100] : List UInt8), ([116, 117, 114, 110] : List UInt8), ([119, 105, 110] : List UInt8), ([100, 101, 102, 101, 97, 116] : List UInt8), ([118, 101, 110, 111, 109] : List UInt8)] (IntKind.wrap .i64 (a0 - 1)) fun x6=>.rt x6
def Zajg : LF Empty (List UInt8) := .z 190 [.t 2] false (fun r => []) (fun r => (wS r))
def Zaf0 (a0 : Int) : Option (List UInt8) := Zajg.run (Zajf a0)
theorem Zaxj (a0 : Int) {r : (List UInt8)} (h : Zaf0 a0 = some r) : Fn PR 190 [(wI a0)] (wS r) := Zajg.fn h
inductive Zk3 where
 | L0 (v3 : Int) (v4 : Bool)
 | L1 (v3 : Int) (v14 : Bool)
def Zl0 (v3 : Int) (v14 : Bool) : LT Zk3 (List UInt8) :=
.br v14 (.rt ([114, 107, 97] : List UInt8))<|.br (v3 == 12) (.rt ([114, 99, 97] : List UInt8))<|.br (v3 == 13) (.rt ([114, 109] : List UInt8))<|.br (v3 == 14) (.rt ([112] : List UInt8))<|.br (v3 == 18) (.rt ([114, 97, 102] : List UInt8))<|.br (v3 == 20) (.rt ([97] : List UInt8))<|.br (v3 == 21) (.rt ([102] : List UInt8))<|.br (v3 == 23) (.kn [8]<|.rt ([] : List UInt8))<|.br (v3 == 24) (.rt ([] : List UInt8))<|.rt ([114, 97] : List UInt8)
def Zen (v3 : Int) (v4 : Bool) : LT Zk3 (List UInt8) :=
.br v4 (.rt ([114] : List UInt8))<|.br (v3 == 3) (.rt ([114, 122] : List UInt8))<|.br (v3 == 10) (.j0 (.L1 v3 (v3 == 10)) (Zl0 v3 (v3 == 10)))<|.j0 (.L1 v3 (v3 == 11)) (Zl0 v3 (v3 == 11))
def Zajh (a0 : Int) : LT Zk3 (List UInt8) :=
.br (a0 == 2) (.j0 (.L0 a0 (a0 == 2)) (Zen a0 (a0 == 2)))<|.br (a0 == 8) (.j0 (.L0 a0 (a0 == 8)) (Zen a0 (a0 == 8)))<|.br (a0 == 9) (.j0 (.L0 a0 (a0 == 9)) (Zen a0 (a0 == 9)))<|.br (a0 == 15) (.j0 (.L0 a0 (a0 == 15)) (Zen a0 (a0 == 15)))<|.br (a0 == 16) (.j0 (.L0 a0 (a0 == 16)) (Zen a0 (a0 == 16)))<|.br (a0 == 17) (.j0 (.L0 a0 (a0 == 17)) (Zen a0 (a0 == 17)))<|.j0 (.L0 a0 (a0 == 25)) (Zen a0 (a0 == 25))
def Zaji : LF Zk3 (List UInt8) := ⟨212, [.t 2], false, fun | .L0 .. => [1,0,1,4,1] | .L1 .. => [1,0,1,4,1,3,1,3,1],
 fun | .L0 v3 v4 => ⟨32, [(3, (wI v3)), (4, (wB v4))], []⟩ | .L1 v3 v14 => ⟨32, [(3, (wI v3)), (14, (wB v14))], []⟩,
 fun r => [], fun r => (wS r), fun | .L0 v3 v4 => Zen v3 v4 | .L1 v3 v14 => Zl0 v3 v14⟩
def Zaf1 (a0 : Int) : Option (List UInt8) := Zaji.run (Zajh a0)
theorem Zaxk (a0 : Int) {r : (List UInt8)} (h : Zaf1 a0 = some r) : Fn PR 212 [(wI a0)] (wS r) := Zaji.fn h
inductive Zor where
 | L0 (v1 : Int) (v5 : (List UInt8)) (v6 : Int)
def Z0n (v1 : Int) (v5 : (List UInt8)) (v6 : Int) : LT Zor Bool :=
.lenS v5<|.br (decide (v6 < (v5.length : Int))) (.idxS v5 v6 fun x3=>.br ((UInt8.toNat x3 : Int) == v1) (.rt true)<|.g0 (.L0 v1 v5 (IntKind.wrap .i64 (v6 + 1))))<|.rt false
def Zajj (a0 : Int) (a1 : Int) : LT Zor Bool :=
.call (Zaxk a0) fun x1=>.g0 (.L0 a1 x1 0)
def Zajk : LF Zor Bool := ⟨191, [.t 4], false, fun | .L0 .. => [1,1,0,1,4],
 fun | .L0 v1 v5 v6 => ⟨20, [(1, (.t (.int .u8 v1))), (5, (wS v5)), (6, (wI v6))], []⟩,
 fun r => [], fun r => (wB r), fun | .L0 v1 v5 v6 => Z0n v1 v5 v6⟩
def Zaf2 (a0 : Int) (a1 : Int) : Option Bool := Zajk.run (Zajj a0 a1)
theorem Zf9 (a0 : Int) (a1 : Int) {r : Bool} (h : Zaf2 a0 a1 = some r) : Fn PR 191 [(wI a0), (.t (.int .u8 a1))] (wB r) := Zajk.fn h
def Z2h (a0 : Int) : LT Empty Bool :=
.cs (a0 == 3) (.k3 0<|.rt true)<|.k3 0<|.rt (a0 == 8)
def Z2i : LF Empty Bool := .z 213 [.t 2] false (fun r => []) (fun r => (wB r))
def Zwb (a0 : Int) : Option Bool := Z2i.run (Z2h a0)
theorem Zajl (a0 : Int) {r : Bool} (h : Zwb a0 = some r) : Fn PR 213 [(wI a0)] (wB r) := Z2i.fn h
inductive Zqb where
 | L0 (v1 : Int) (E0 : Zal)
 | L1 (E0 : Zal)
def Zsi (E0 : Zal) : LT Zqb Bool :=
.br (E0.Kind == 4) (.call (Zey E0.Filter) fun x2=>.rt x2)<|.rt (Zas (Zm E0.Filter) (Zm (⟨0, 0, 0, 0, 0, 0, 0, ([] : List UInt8), 0, 0, (⟨0, 0⟩ : Zd), (⟨0, 0⟩ : Zd), (⟨0, 0⟩ : Zd)⟩ : Ze)))
def Zsj (v1 : Int) (E0 : Zal) : LT Zqb Bool :=
.cs (decide (E0.Kind < 1)) (.k4 0<|.kn [0]<|.rt false)<|.k4 0<|.br (decide (E0.Kind > 8)) (.rt false)<|.call (Zajl E0.Kind) fun x3=>.br x3 (.cs (decide (E0.N < 1)) (.k5 3<|.kn [0]<|.rt false)<|.k5 3<|.br (decide (E0.N > v1)) (.rt false)<|.j0 (.L1 E0) (Zsi E0))<|.br (E0.N != 0) (.rt false)<|.j0 (.L1 E0) (Zsi E0)
def Zaua (a0 : Zal) (a1 : Int) : LT Zqb Bool :=
.lb 1002<|.br (decide (a1 > 4)) (.jn 0 (.L0 4 a0) [.relab 1002 30000000] (Zsj 4 a0))<|.jn 0 (.L0 a1 a0) [.relab 1002 30000000] (Zsj a1 a0)
def Zaub : LF Zqb Bool := ⟨192, [.t 4], false, fun | .L0 .. => [1,1] | .L1 .. => [1,1,1,1],
 fun | .L0 v1 E0 => ⟨40, [(1, (wI v1)), (2, (.bptr 30000000 0))], [(30000000, .box (bx (Zbg E0)))]⟩ | .L1 E0 => ⟨40, [(2, (.bptr 30000000 0))], [(30000000, .box (bx (Zbg E0)))]⟩,
 fun r => [], fun r => (wB r), fun | .L0 v1 E0 => Zsj v1 E0 | .L1 E0 => Zsi E0⟩
def Zauc (a0 : Zal) (a1 : Int) : Option Bool := Zaub.run (Zaua a0 a1)
theorem Za2t (a0 : Zal) (a1 : Int) {r : Bool} (h : Zauc a0 a1 = some r) : Fn PR 192 [(wA (Zbg a0)), (wI a1)] (wB r) := Zaub.fn h
def Zajm (a0 : Int) : LT Empty (List UInt8) :=
.br (a0 == 0) (.rt ([112, 108, 117, 115] : List UInt8))<|.br (a0 == 1) (.rt ([109, 105, 110, 117, 115] : List UInt8))<|.br (a0 == 2) (.rt ([99, 104, 97, 114, 103, 101] : List UInt8))<|.rt ([] : List UInt8)
def Zajn : LF Empty (List UInt8) := .z 46 [.t 2] false (fun r => []) (fun r => (wS r))
def Zaf3 (a0 : Int) : Option (List UInt8) := Zajn.run (Zajm a0)
theorem Zac9 (a0 : Int) {r : (List UInt8)} (h : Zaf3 a0 = some r) : Fn PR 46 [(wI a0)] (wS r) := Zajn.fn h
def Zaud (a0 : Z3) : LT Empty Bool :=
.lb 1001<|.lb 1003<|.br (a0.Kind == 0) (.cs (decide (a0.N < 0)) (.k4 1<|.kn [0]<|.rt false)<|.k4 1<|.br (decide (a0.N > 1000000)) (.rt false)<|.cs (decide (a0.Kind ≥ 0)) (.k4 3<|.cs (decide (a0.Kind ≤ 7)) (.k5 4<|.kg 4<|.rt (Zas (Zah (⟨a0.Kind, 0, a0.Counter, a0.Filter⟩ : Z3)) (Zah (⟨a0.Kind, 0, 0, (⟨0, 0, 0, 0, 0, 0, 0, ([] : List UInt8), 0, 0, (⟨0, 0⟩ : Zd), (⟨0, 0⟩ : Zd), (⟨0, 0⟩ : Zd)⟩ : Ze)⟩ : Z3))))<|.k5 4<|.kg 4<|.rt false)<|.k4 3<|.b5 false<|.kb false<|.rt false)<|.br (a0.Kind == 2) (.cs (decide (a0.N < 1)) (.k4 2<|.b5 true<|.kn [0]<|.rt false)<|.k4 2<|.cs (decide (a0.N > 99)) (.k5 3<|.kn [0]<|.rt false)<|.k3 3<|.call (Zey a0.Filter) fun x9=>.k2 3<|.br (!x9) (.rt false)<|.cs (decide (a0.Kind ≥ 0)) (.k4 5<|.cs (decide (a0.Kind ≤ 7)) (.k5 6<|.kg 6<|.rt (Zas (Zah (⟨a0.Kind, 0, a0.Counter, (⟨0, 0, 0, 0, 0, 0, 0, ([] : List UInt8), 0, 0, (⟨0, 0⟩ : Zd), (⟨0, 0⟩ : Zd), (⟨0, 0⟩ : Zd)⟩ : Ze)⟩ : Z3)) (Zah (⟨a0.Kind, 0, 0, (⟨0, 0, 0, 0, 0, 0, 0, ([] : List UInt8), 0, 0, (⟨0, 0⟩ : Zd), (⟨0, 0⟩ : Zd), (⟨0, 0⟩ : Zd)⟩ : Ze)⟩ : Z3))))<|.k5 6<|.kg 6<|.rt false)<|.k4 5<|.b5 false<|.kb false<|.rt false)<|.br (a0.Kind == 4) (.call (Zac9 a0.Counter) fun x15=>.br (x15 == ([] : List UInt8)) (.rt false)<|.cs (decide (a0.Kind ≥ 0)) (.k4 4<|.cs (decide (a0.Kind ≤ 7)) (.k5 5<|.kg 5<|.rt (Zas (Zah (⟨a0.Kind, a0.N, 0, a0.Filter⟩ : Z3)) (Zah (⟨a0.Kind, 0, 0, (⟨0, 0, 0, 0, 0, 0, 0, ([] : List UInt8), 0, 0, (⟨0, 0⟩ : Zd), (⟨0, 0⟩ : Zd), (⟨0, 0⟩ : Zd)⟩ : Ze)⟩ : Z3))))<|.k5 5<|.kg 5<|.rt false)<|.k4 4<|.b5 false<|.kb false<|.rt false)<|.cs (decide (a0.Kind ≥ 0)) (.k4 3<|.cs (decide (a0.Kind ≤ 7)) (.k5 4<|.kg 4<|.rt (Zas (Zah a0) (Zah (⟨a0.Kind, 0, 0, (⟨0, 0, 0, 0, 0, 0, 0, ([] : List UInt8), 0, 0, (⟨0, 0⟩ : Zd), (⟨0, 0⟩ : Zd), (⟨0, 0⟩ : Zd)⟩ : Ze)⟩ : Z3))))<|.k5 4<|.kg 4<|.rt false)<|.k4 3<|.b5 false<|.kb false<|.rt false
def Zaue : LF Empty Bool := .z 19 [.t 2] false (fun r => []) (fun r => (wB r))
def Zauf (a0 : Z3) : Option Bool := Zaue.run (Zaud a0)
theorem Za2u (a0 : Z3) {r : Bool} (h : Zauf a0 = some r) : Fn PR 19 [(wA (Zah a0))] (wB r) := Zaue.fn h
def Zajo (a0 : (List Zr)) : LT Empty Bool :=
.call (Zoq a0) fun x1=>.rt (!(x1 == ([] : List UInt8)))
def Zajp : LF Empty Bool := .z 193 [.t 2] false (fun r => []) (fun r => (wB r))
def Zaf4 (a0 : (List Zr)) : Option Bool := Zajp.run (Zajo a0)
theorem Zaxl (a0 : (List Zr)) {r : Bool} (h : Zaf4 a0 = some r) : Fn PR 193 [(wL Z0 a0)] (wB r) := Zajp.fn h
inductive Zos where
 | L0 (E0 : (A6 Int)) (E1 : Zp) (E2 : Zp) (v4 : Int)
def Z0o (E0 : (A6 Int)) (E1 : Zp) (E2 : Zp) (v4 : Int) : LT Zos Zp :=
.br (decide (v4 < 5)) (.idA (Zf.int .i64) (A6.list E0) (IntKind.wrap .i64 (v4 + 1)) (bx ((cA6 (cI .i64)) E0)) 0 6 fun x4=>.ldC (Zf.int .i64) 16 x4 0<|.idA (Zf.int .i64) (A5.list E2.Color) v4 (bx (Zaq E2)) 2 7 fun x6=>.stA (A5.set? E2.Color v4 x4) (fun h => Za7y (Zf.int .i64) ((bx (Zaq E2)).take 2) ((bx (Zaq E2)).drop 7) h) fun x8=>.g0 (.L0 E0 E1 (⟨E2.Generic, E2.X, x8⟩ : Zp) (IntKind.wrap .i64 (v4 + 1))))<|.rt E2
def Zajq (a0 : (A6 Int)) : LT Zos Zp :=
.lb 1001<|.lb 1002<|.idA (Zf.int .i64) (A6.list a0) 0 (bx ((cA6 (cI .i64)) a0)) 0 6 fun x1=>.ldC (Zf.int .i64) 6 x1 0<|.lb 1003<|.go (.L0 a0 (⟨0, 0, (⟨0, 0, 0, 0, 0⟩ : (A5 Int))⟩ : Zp) (⟨x1, 0, (⟨0, 0, 0, 0, 0⟩ : (A5 Int))⟩ : Zp) 0) [.relab 1001 30000000, .relab 1002 30000001, .relab 1003 30000002]
def Zajr : LF Zos Zp := ⟨215, [.c 2 78 true 7], false, fun | .L0 .. => [1,1,0,1,4],
 fun | .L0 E0 E1 E2 v4 => ⟨20, [(1, (.bptr 30000000 0)), (2, (.bptr 30000001 0)), (3, (.bptr 30000002 0)), (4, (wI v4))], [(30000000, .box (bx ((cA6 (cI .i64)) E0))), (30000001, .box (bx (Zaq E1))), (30000002, .box (bx (Zaq E2)))]⟩,
 fun r => [], fun r => (wA (Zaq r)), fun | .L0 E0 E1 E2 v4 => Z0o E0 E1 E2 v4⟩
def Zaf5 (a0 : (A6 Int)) : Option Zp := Zajr.run (Zajq a0)
theorem Zaxm (a0 : (A6 Int)) {r : Zp} (h : Zaf5 a0 = some r) : Fn PR 215 [(wA ((cA6 (cI .i64)) a0))] (wA (Zaq r)) := Zajr.fn h
inductive Zis where
 | L0 (E0 : Zp) (v3 : (List UInt8)) (v4 : Int)
 | L1 (E0 : Zp) (v3 : (List UInt8)) (v5 : Int)
 | L2 (E0 : Zp) (v3 : (List UInt8)) (v5 : Int) (v6 : Int)
def Z0p (E0 : Zp) (v3 : (List UInt8)) (v4 : Int) : LT Zis (List UInt8) :=
.br (decide (v4 < E0.X)) (.ok (v3.length + ([88] : List UInt8).length ≤ 9223372036854775807)<|.g0 (.L0 E0 (v3 ++ ([88] : List UInt8)) (IntKind.wrap .i64 (v4 + 1))))<|.br (E0.Generic != 0) (.call (Zjq E0.Generic) fun x7=>.ok (v3.length + x7.length ≤ 9223372036854775807)<|.g0 (.L1 E0 (v3 ++ x7) 0))<|.g0 (.L1 E0 v3 0)
def Z0q (E0 : Zp) (v3 : (List UInt8)) (v5 : Int) : LT Zis (List UInt8) :=
.br (decide (v5 < 5)) (.g0 (.L2 E0 v3 v5 0))<|.br (v3 == ([] : List UInt8)) (.rt ([48] : List UInt8))<|.rt v3
def Z0r (E0 : Zp) (v3 : (List UInt8)) (v5 : Int) (v6 : Int) : LT Zis (List UInt8) :=
.idA (Zf.int .i64) (A5.list E0.Color) v5 (bx (Zaq E0)) 2 7 fun x1=>.ldC (Zf.int .i64) 34 x1 0<|.br (decide (v6 < x1)) (.slS ([65, 67, 74, 82, 69] : List UInt8) v5 (IntKind.wrap .i64 (v5 + 1)) fun x6=>.ok (v3.length + x6.length ≤ 9223372036854775807)<|.g0 (.L2 E0 (v3 ++ x6) v5 (IntKind.wrap .i64 (v6 + 1))))<|.g0 (.L1 E0 v3 (IntKind.wrap .i64 (v5 + 1)))
def Zajs (a0 : Zp) : LT Zis (List UInt8) :=
.lb 1001<|.call (Zr7 a0) fun x1=>.br (!x1) (.rt ([] : List UInt8))<|.go (.L0 a0 ([] : List UInt8) 0) [.relab 1001 30000000]
def Zajt : LF Zis (List UInt8) := ⟨214, [.t 2], false, fun | .L0 .. => [1,1,1,0,1,4] | .L1 .. => [1,1,1,1,1,0,1,4] | .L2 .. => [1,1,1,1,1,0,1,4,5,1,0,4,1,4],
 fun | .L0 E0 v3 v4 => ⟨47, [(1, (.bptr 30000000 0)), (3, (wS v3)), (4, (wI v4))], [(30000000, .box (bx (Zaq E0)))]⟩ | .L1 E0 v3 v5 => ⟨47, [(1, (.bptr 30000000 0)), (3, (wS v3)), (5, (wI v5))], [(30000000, .box (bx (Zaq E0)))]⟩ | .L2 E0 v3 v5 v6 => ⟨47, [(1, (.bptr 30000000 0)), (3, (wS v3)), (5, (wI v5)), (6, (wI v6))], [(30000000, .box (bx (Zaq E0)))]⟩,
 fun r => [], fun r => (wS r), fun | .L0 E0 v3 v4 => Z0p E0 v3 v4 | .L1 E0 v3 v5 => Z0q E0 v3 v5 | .L2 E0 v3 v5 v6 => Z0r E0 v3 v5 v6⟩
def Zaf6 (a0 : Zp) : Option (List UInt8) := Zajt.run (Zajs a0)
theorem Zaxn (a0 : Zp) {r : (List UInt8)} (h : Zaf6 a0 = some r) : Fn PR 214 [(wA (Zaq a0))] (wS r) := Zajt.fn h
def Z2j (a0 : (A6 Int)) : LT Empty (List UInt8) :=
.lb 1001<|.call (Zaxm a0) fun x1=>.call (Zaxn x1) fun x3=>.rt x3
def Z2k : LF Empty (List UInt8) := .z 194 [.t 2] false (fun r => []) (fun r => (wS r))
def Zwc (a0 : (A6 Int)) : Option (List UInt8) := Z2k.run (Z2j a0)
theorem Zaju (a0 : (A6 Int)) {r : (List UInt8)} (h : Zwc a0 = some r) : Fn PR 194 [(wA ((cA6 (cI .i64)) a0))] (wS r) := Z2k.fn h
def Z8m (a0 : Int) (a1 : Ze) : LT Empty Bool :=
.lb 1003<|.br (a0 == 21) (.call (Zey a1) fun x2=>.cs x2 (.k5 1<|.rt (a1.Zone == 2))<|.k5 1<|.rt false)<|.call (Zey a1) fun x5=>.cs x5 (.k5 1<|.rt (a1.Zone == 0))<|.k5 1<|.rt false
def Z8n : LF Empty Bool := .z 195 [.t 4] false (fun r => []) (fun r => (wB r))
def Z4j (a0 : Int) (a1 : Ze) : Option Bool := Z8n.run (Z8m a0 a1)
theorem Zaqa (a0 : Int) (a1 : Ze) {r : Bool} (h : Z4j a0 a1 = some r) : Fn PR 195 [(wI a0), (wA (Zm a1))] (wB r) := Z8n.fn h
inductive Zft where
 | L0 (E0 : Zz) (v5 : Bool)
 | L1 (E0 : Zz) (v5 : Bool) (v6 : Bool)
 | L2 (E0 : Zz) (v5 : Bool) (v6 : Bool) (v7 : Bool)
 | L3 (E0 : Zz) (v5 : Bool) (v6 : Bool) (v7 : Bool) (v8 : Bool)
 | L4 (E0 : Zz) (v5 : Bool) (v6 : Bool) (v7 : Bool) (v8 : Bool) (v9 : Bool)
 | L5 (E0 : Zz) (v5 : Bool) (v6 : Bool) (v7 : Bool) (v8 : Bool) (v9 : Bool) (v10 : Bool)
 | L6 (E0 : Zz) (v5 : Bool) (v6 : Bool) (v7 : Bool) (v8 : Bool) (v9 : Bool) (v10 : Bool) (v11 : Bool)
 | L7 (v5 : Bool) (v6 : Bool) (v7 : Bool) (v8 : Bool) (v9 : Bool) (v10 : Bool) (v11 : Bool) (v12 : Bool)
def Zsk (v5 : Bool) (v6 : Bool) (v7 : Bool) (v8 : Bool) (v9 : Bool) (v10 : Bool) (v11 : Bool) (v12 : Bool) : LT Zft Bool :=
.cs v5 (.k2 0<|.cs v6 (.k2 1<|.cs v7 (.k2 2<|.cs v8 (.k2 3<|.cs v9 (.k2 4<|.cs v10 (.k2 5<|.cs v11 (.k2 6<|.rt v12)<|.k2 6<|.rt false)<|.k2 5<|.b2 false<|.rt false)<|.k2 4<|.b4 false<|.rt false)<|.k2 3<|.b5 false<|.kb false<|.rt false)<|.k2 2<|.b8 false<|.rt false)<|.k2 1<|.b8 false<|.b2 false<|.rt false)<|.k2 0<|.b8 false<|.b4 false<|.rt false
def Znr (E0 : Zz) (v5 : Bool) (v6 : Bool) (v7 : Bool) (v8 : Bool) (v9 : Bool) (v10 : Bool) (v11 : Bool) : LT Zft Bool :=
.call (Zf9 E0.Op 102) fun x1=>.br x1 (.call (Zaqa E0.Op E0.Filter) fun x4=>.j0 (.L7 v5 v6 v7 v8 v9 v10 v11 x4) (Zsk v5 v6 v7 v8 v9 v10 v11 x4))<|.j0 (.L7 v5 v6 v7 v8 v9 v10 v11 (Zas (Zm E0.Filter) (Zm (⟨0, 0, 0, 0, 0, 0, 0, ([] : List UInt8), 0, 0, (⟨0, 0⟩ : Zd), (⟨0, 0⟩ : Zd), (⟨0, 0⟩ : Zd)⟩ : Ze)))) (Zsk v5 v6 v7 v8 v9 v10 v11 (Zas (Zm E0.Filter) (Zm (⟨0, 0, 0, 0, 0, 0, 0, ([] : List UInt8), 0, 0, (⟨0, 0⟩ : Zd), (⟨0, 0⟩ : Zd), (⟨0, 0⟩ : Zd)⟩ : Ze))))
def Zsl (E0 : Zz) (v5 : Bool) (v6 : Bool) (v7 : Bool) (v8 : Bool) (v9 : Bool) (v10 : Bool) : LT Zft Bool :=
.call (Zf9 E0.Op 112) fun x1=>.br x1 (.cs (!(Zas ((cA6 (cI .i64)) E0.Pool) ((cA6 (cI .i64)) (⟨0, 0, 0, 0, 0, 0⟩ : (A6 Int))))) (.k3 1<|.call (Zaju E0.Pool) fun x5=>.k2 1<|.j0 (.L6 E0 v5 v6 v7 v8 v9 v10 (!(x5 == ([] : List UInt8)))) (Znr E0 v5 v6 v7 v8 v9 v10 (!(x5 == ([] : List UInt8)))))<|.k5 1<|.j0 (.L6 E0 v5 v6 v7 v8 v9 v10 false) (Znr E0 v5 v6 v7 v8 v9 v10 false))<|.j0 (.L6 E0 v5 v6 v7 v8 v9 v10 (Zas ((cA6 (cI .i64)) E0.Pool) ((cA6 (cI .i64)) (⟨0, 0, 0, 0, 0, 0⟩ : (A6 Int))))) (Znr E0 v5 v6 v7 v8 v9 v10 (Zas ((cA6 (cI .i64)) E0.Pool) ((cA6 (cI .i64)) (⟨0, 0, 0, 0, 0, 0⟩ : (A6 Int)))))
def Zsm (E0 : Zz) (v5 : Bool) (v6 : Bool) (v7 : Bool) (v8 : Bool) (v9 : Bool) : LT Zft Bool :=
.len Z0 E0.Mods<|.call (Zf9 E0.Op 109) fun x2=>.br x2 (.call (Zaxl E0.Mods) fun x5=>.j0 (.L5 E0 v5 v6 v7 v8 v9 x5) (Zsl E0 v5 v6 v7 v8 v9 x5))<|.j0 (.L5 E0 v5 v6 v7 v8 v9 ((E0.Mods.length : Int) == 0)) (Zsl E0 v5 v6 v7 v8 v9 ((E0.Mods.length : Int) == 0))
def Zsn (E0 : Zz) (v5 : Bool) (v6 : Bool) (v7 : Bool) (v8 : Bool) : LT Zft Bool :=
.call (Zf9 E0.Op 97) fun x1=>.br x1 (.call (Za2u E0.Amount) fun x4=>.j0 (.L4 E0 v5 v6 v7 v8 x4) (Zsm E0 v5 v6 v7 v8 x4))<|.j0 (.L4 E0 v5 v6 v7 v8 (Zas (Zah E0.Amount) (Zah (⟨0, 0, 0, (⟨0, 0, 0, 0, 0, 0, 0, ([] : List UInt8), 0, 0, (⟨0, 0⟩ : Zd), (⟨0, 0⟩ : Zd), (⟨0, 0⟩ : Zd)⟩ : Ze)⟩ : Z3)))) (Zsm E0 v5 v6 v7 v8 (Zas (Zah E0.Amount) (Zah (⟨0, 0, 0, (⟨0, 0, 0, 0, 0, 0, 0, ([] : List UInt8), 0, 0, (⟨0, 0⟩ : Zd), (⟨0, 0⟩ : Zd), (⟨0, 0⟩ : Zd)⟩ : Ze)⟩ : Z3))))
def Zns (E0 : Zz) (v5 : Bool) (v6 : Bool) (v7 : Bool) : LT Zft Bool :=
.call (Zf9 E0.Op 99) fun x1=>.br x1 (.call (Z76 E0.Card) fun x4=>.j0 (.L3 E0 v5 v6 v7 x4) (Zsn E0 v5 v6 v7 x4))<|.j0 (.L3 E0 v5 v6 v7 (E0.Card == ([] : List UInt8))) (Zsn E0 v5 v6 v7 (E0.Card == ([] : List UInt8)))
def Zkg (E0 : Zz) (v5 : Bool) (v6 : Bool) : LT Zft Bool :=
.cs (E0.Counter == 0) (.k5 0<|.kg 0<|.j0 (.L2 E0 v5 v6 true) (Zns E0 v5 v6 true))<|.k3 0<|.call (Zf9 E0.Op 107) fun x2=>.kg 0<|.cs x2 (.k3 1<|.call (Zac9 E0.Counter) fun x5=>.kg 1<|.kg 0<|.kg 1<|.kg 0<|.j0 (.L2 E0 v5 v6 (!(x5 == ([] : List UInt8)))) (Zns E0 v5 v6 (!(x5 == ([] : List UInt8)))))<|.k4 1<|.kg 0<|.kg 1<|.kg 0<|.j0 (.L2 E0 v5 v6 false) (Zns E0 v5 v6 false)
def Zso (E0 : Zz) (v5 : Bool) : LT Zft Bool :=
.cs (E0.Zone == 0) (.k8 0<|.j0 (.L1 E0 v5 true) (Zkg E0 v5 true))<|.k3 0<|.call (Zf9 E0.Op 122) fun x2=>.kg 0<|.cs x2 (.k3 1<|.kg 0<|.kg 1<|.kg 0<|.cs (decide (E0.Zone > 0)) (.k3 2<|.kg 0<|.kg 2<|.kg 0<|.j0 (.L1 E0 v5 (decide (E0.Zone ≤ 4))) (Zkg E0 v5 (decide (E0.Zone ≤ 4))))<|.k3 2<|.kg 0<|.kg 2<|.kg 0<|.j0 (.L1 E0 v5 false) (Zkg E0 v5 false))<|.k3 1<|.kg 0<|.kg 1<|.kg 0<|.b3 false<|.kg 0<|.kb false<|.kg 0<|.j0 (.L1 E0 v5 false) (Zkg E0 v5 false)
def Zaug (a0 : Zz) (a1 : Int) : LT Zft Bool :=
.lb 1002<|.call (Zaxj a0.Op) fun x1=>.br (x1 == ([] : List UInt8)) (.rt false)<|.call (Zf9 a0.Op 114) fun x4=>.br x4 (.call (Za2t a0.Ref a1) fun x7=>.jn 0 (.L0 a0 x7) [.relab 1002 30000000] (Zso a0 x7))<|.jn 0 (.L0 a0 (Zas (Zbg a0.Ref) (Zbg (⟨0, 0, (⟨0, 0, 0, 0, 0, 0, 0, ([] : List UInt8), 0, 0, (⟨0, 0⟩ : Zd), (⟨0, 0⟩ : Zd), (⟨0, 0⟩ : Zd)⟩ : Ze)⟩ : Zal)))) [.relab 1002 30000000] (Zso a0 (Zas (Zbg a0.Ref) (Zbg (⟨0, 0, (⟨0, 0, 0, 0, 0, 0, 0, ([] : List UInt8), 0, 0, (⟨0, 0⟩ : Zd), (⟨0, 0⟩ : Zd), (⟨0, 0⟩ : Zd)⟩ : Ze)⟩ : Zal))))
def Zauh : LF Zft Bool := ⟨172, [.t 4], false, fun | .L0 .. => [1,1,1,1] | .L1 .. => [1,1,1,1,1] | .L2 .. => [1,1,1,1,1,1] | .L3 .. => [1,1,1,1,1,1,1,1] | .L4 .. => [1,1,1,1,1,1,1,1,1,1] | .L5 .. => [1,1,1,1,1,1,1,1,1,1,1,1] | .L6 .. => [1,1,1,1,1,1,1,1,1,1,1,1,1,1] | .L7 .. => [1,1,1,1,1,1,1,1,1,1,1,1,1,1,1,1],
 fun | .L0 E0 v5 => ⟨138, [(2, (.bptr 30000000 0)), (5, (wB v5))], [(30000000, .box (bx (Z5 E0)))]⟩ | .L1 E0 v5 v6 => ⟨138, [(2, (.bptr 30000000 0)), (5, (wB v5)), (6, (wB v6))], [(30000000, .box (bx (Z5 E0)))]⟩ | .L2 E0 v5 v6 v7 => ⟨138, [(2, (.bptr 30000000 0)), (5, (wB v5)), (6, (wB v6)), (7, (wB v7))], [(30000000, .box (bx (Z5 E0)))]⟩ | .L3 E0 v5 v6 v7 v8 => ⟨138, [(2, (.bptr 30000000 0)), (5, (wB v5)), (6, (wB v6)), (7, (wB v7)), (8, (wB v8))], [(30000000, .box (bx (Z5 E0)))]⟩ | .L4 E0 v5 v6 v7 v8 v9 => ⟨138, [(2, (.bptr 30000000 0)), (5, (wB v5)), (6, (wB v6)), (7, (wB v7)), (8, (wB v8)), (9, (wB v9))], [(30000000, .box (bx (Z5 E0)))]⟩ | .L5 E0 v5 v6 v7 v8 v9 v10 => ⟨138, [(2, (.bptr 30000000 0)), (5, (wB v5)), (6, (wB v6)), (7, (wB v7)), (8, (wB v8)), (9, (wB v9)), (10, (wB v10))], [(30000000, .box (bx (Z5 E0)))]⟩ | .L6 E0 v5 v6 v7 v8 v9 v10 v11 => ⟨138, [(2, (.bptr 30000000 0)), (5, (wB v5)), (6, (wB v6)), (7, (wB v7)), (8, (wB v8)), (9, (wB v9)), (10, (wB v10)), (11, (wB v11))], [(30000000, .box (bx (Z5 E0)))]⟩ | .L7 v5 v6 v7 v8 v9 v10 v11 v12 => ⟨138, [(5, (wB v5)), (6, (wB v6)), (7, (wB v7)), (8, (wB v8)), (9, (wB v9)), (10, (wB v10)), (11, (wB v11)), (12, (wB v12))], []⟩,
 fun r => [], fun r => (wB r), fun | .L0 E0 v5 => Zso E0 v5 | .L1 E0 v5 v6 => Zkg E0 v5 v6 | .L2 E0 v5 v6 v7 => Zns E0 v5 v6 v7 | .L3 E0 v5 v6 v7 v8 => Zsn E0 v5 v6 v7 v8 | .L4 E0 v5 v6 v7 v8 v9 => Zsm E0 v5 v6 v7 v8 v9 | .L5 E0 v5 v6 v7 v8 v9 v10 => Zsl E0 v5 v6 v7 v8 v9 v10 | .L6 E0 v5 v6 v7 v8 v9 v10 v11 => Znr E0 v5 v6 v7 v8 v9 v10 v11 | .L7 v5 v6 v7 v8 v9 v10 v11 v12 => Zsk v5 v6 v7 v8 v9 v10 v11 v12⟩
def Zaui (a0 : Zz) (a1 : Int) : Option Bool := Zauh.run (Zaug a0 a1)
theorem Za2v (a0 : Zz) (a1 : Int) {r : Bool} (h : Zaui a0 a1 = some r) : Fn PR 172 [(wA (Z5 a0)), (wI a1)] (wB r) := Zauh.fn h
inductive Zi2 where
 | L0 (v0 : (List Zz)) (v1 : Int) (v5 : Int)
def Zqc (v0 : (List Zz)) (v1 : Int) (v5 : Int) : LT Zi2 Bool :=
.len Z5 v0<|.br (decide (v5 < (v0.length : Int))) (.idx Z5 v0 v5 fun x3=>.call (Za2v x3 v1) fun x5=>.br (!x5) (.rt false)<|.g0 (.L0 v0 v1 (IntKind.wrap .i64 (v5 + 1))))<|.len Z5 v0<|.cs (decide ((v0.length : Int) ≥ 1)) (.k2 1<|.len Z5 v0<|.k2 1<|.rt (decide ((v0.length : Int) ≤ 8)))<|.k4 1<|.rt false
def Z5v (a0 : (List Zz)) (a1 : Int) : LT Zi2 Bool :=
.g0 (.L0 a0 a1 0)
def Z5w : LF Zi2 Bool := ⟨137, [.t 4], false, fun | .L0 .. => [1,0,1,4],
 fun | .L0 v0 v1 v5 => ⟨27, [(0, (wL Z5 v0)), (1, (wI v1)), (5, (wI v5))], []⟩,
 fun r => [], fun r => (wB r), fun | .L0 v0 v1 v5 => Zqc v0 v1 v5⟩
def Z0s (a0 : (List Zz)) (a1 : Int) : Option Bool := Z5w.run (Z5v a0 a1)
theorem Zam1 (a0 : (List Zz)) (a1 : Int) {r : Bool} (h : Z0s a0 a1 = some r) : Fn PR 137 [(wL Z5 a0), (wI a1)] (wB r) := Z5w.fn h
inductive Zit where
 | L0 (E0 : Zj) (v3 : Bool)
 | L1 (E0 : Zj) (v3 : Bool)
 | L2 (E0 : Zj) (v3 : Bool)
 | L3 (E0 : Zj) (v3 : Bool)
 | L4 (E0 : Zj) (v3 : Bool)
def Zsp (E0 : Zj) (v3 : Bool) : LT Zit Bool :=
.br v3 (.call (Zat9 E0.Specs) fun x2=>.cs x2 (.k5 1<|.len Za6 E0.Specs<|.kg 1<|.call (Zam1 E0.Effects (E0.Specs.length : Int)) fun x6=>.kg 1<|.rt x6)<|.k5 1<|.k2 1<|.rt false)<|.len Za6 E0.Specs<|.cs ((E0.Specs.length : Int) == 0) (.k3 1<|.len Z5 E0.Effects<|.k2 1<|.rt ((E0.Effects.length : Int) == 0))<|.k5 1<|.rt false
def Zsq (E0 : Zj) (v3 : Bool) : LT Zit Bool :=
.br (E0.Kind == 5) (.call (Za2s E0.Replace) fun x2=>.br (!x2) (.rt false)<|.j0 (.L4 E0 v3) (Zsp E0 v3))<|.br (!(Zas (Zbu E0.Replace) (Zbu (⟨0, 0, (⟨0, 0, 0, 0, 0, 0, 0, ([] : List UInt8), 0, 0, (⟨0, 0⟩ : Zd), (⟨0, 0⟩ : Zd), (⟨0, 0⟩ : Zd)⟩ : Ze), 0, 0, 0, 0⟩ : Zay)))) (.rt false)<|.j0 (.L4 E0 v3) (Zsp E0 v3)
def Zsr (E0 : Zj) (v3 : Bool) : LT Zit Bool :=
.br (E0.Kind == 4) (.call (Za2r E0.Trigger) fun x2=>.br (!x2) (.rt false)<|.j0 (.L3 E0 v3) (Zsq E0 v3))<|.cs (!(Zas (Zdj E0.Trigger) (Zdj (⟨0, 0, (⟨0, 0, 0, 0, 0, 0, 0, ([] : List UInt8), 0, 0, (⟨0, 0⟩ : Zd), (⟨0, 0⟩ : Zd), (⟨0, 0⟩ : Zd)⟩ : Ze)⟩ : Zb6)))) (.k3 1<|.kn [0]<|.rt false)<|.k3 1<|.br E0.May (.rt false)<|.j0 (.L3 E0 v3) (Zsq E0 v3)
def Zss (E0 : Zj) (v3 : Bool) : LT Zit Bool :=
.br (E0.Kind == 3) (.call (Zat0 E0.Price) fun x2=>.br (!x2) (.rt false)<|.j0 (.L2 E0 v3) (Zsr E0 v3))<|.cs (!(Zas (Ze9 E0.Price) (Ze9 (⟨(⟨0, 0, (⟨0, 0, 0, 0, 0⟩ : (A5 Int))⟩ : Zp), false, false, 0⟩ : Zfj)))) (.k3 1<|.kn [0]<|.rt false)<|.k3 1<|.br E0.Slow (.rt false)<|.j0 (.L2 E0 v3) (Zsr E0 v3)
def Znt (E0 : Zj) (v3 : Bool) : LT Zit Bool :=
.br (E0.Kind == 1) (.call (Zey E0.Filter) fun x2=>.cs (!x2) (.k5 1<|.b5 true<|.kn [0]<|.rt false)<|.k5 1<|.cs (E0.Filter.Zone != 0) (.k5 2<|.kn [0]<|.rt false)<|.k3 2<|.call (Zoq E0.Mods) fun x6=>.k2 2<|.br (x6 == ([] : List UInt8)) (.rt false)<|.j0 (.L1 E0 v3) (Zss E0 v3))<|.cs (!(Zas (Zm E0.Filter) (Zm (⟨0, 0, 0, 0, 0, 0, 0, ([] : List UInt8), 0, 0, (⟨0, 0⟩ : Zd), (⟨0, 0⟩ : Zd), (⟨0, 0⟩ : Zd)⟩ : Ze)))) (.k5 1<|.kn [0]<|.rt false)<|.k3 1<|.len Z0 E0.Mods<|.k2 1<|.br (decide ((E0.Mods.length : Int) > 0)) (.rt false)<|.j0 (.L1 E0 v3) (Zss E0 v3)
def Zauj (a0 : Zj) : LT Zit Bool :=
.lb 1001<|.cs (decide (a0.Kind < 1)) (.k4 0<|.kn [0]<|.rt false)<|.k4 0<|.br (decide (a0.Kind > 5)) (.rt false)<|.cs (a0.Kind == 2) (.k4 2<|.b4 true<|.jn 0 (.L0 a0 true) [.relab 1001 30000000] (Znt a0 true))<|.k4 2<|.cs (a0.Kind == 3) (.k4 3<|.jn 0 (.L0 a0 true) [.relab 1001 30000000] (Znt a0 true))<|.k4 3<|.jn 0 (.L0 a0 (a0.Kind == 4)) [.relab 1001 30000000] (Znt a0 (a0.Kind == 4))
def Zauk : LF Zit Bool := ⟨88, [.t 2], false, fun | .L0 .. => [1,1,1] | .L1 .. => [1,1,1,1] | .L2 .. => [1,1,1,1,1] | .L3 .. => [1,1,1,1,1,1] | .L4 .. => [1,1,1,1,1,1,1],
 fun | .L0 E0 v3 => ⟨117, [(1, (.bptr 30000000 0)), (3, (wB v3))], [(30000000, .box (bx (Zu E0)))]⟩ | .L1 E0 v3 => ⟨117, [(1, (.bptr 30000000 0)), (3, (wB v3))], [(30000000, .box (bx (Zu E0)))]⟩ | .L2 E0 v3 => ⟨117, [(1, (.bptr 30000000 0)), (3, (wB v3))], [(30000000, .box (bx (Zu E0)))]⟩ | .L3 E0 v3 => ⟨117, [(1, (.bptr 30000000 0)), (3, (wB v3))], [(30000000, .box (bx (Zu E0)))]⟩ | .L4 E0 v3 => ⟨117, [(1, (.bptr 30000000 0)), (3, (wB v3))], [(30000000, .box (bx (Zu E0)))]⟩,
 fun r => [], fun r => (wB r), fun | .L0 E0 v3 => Znt E0 v3 | .L1 E0 v3 => Zss E0 v3 | .L2 E0 v3 => Zsr E0 v3 | .L3 E0 v3 => Zsq E0 v3 | .L4 E0 v3 => Zsp E0 v3⟩
def Zaul (a0 : Zj) : Option Bool := Zauk.run (Zauj a0)
theorem Zy9 (a0 : Zj) {r : Bool} (h : Zaul a0 = some r) : Fn PR 88 [(wA (Zu a0))] (wB r) := Zauk.fn h
def Zajv (a0 : Zn) : LT Empty Bool :=
.lb 1001<|.cs (a0.Line.Types == 2) (.k5 0<|.rt true)<|.k5 0<|.rt (a0.Line.Types == 4)
def Zajw : LF Empty Bool := .z 89 [.t 2] false (fun r => []) (fun r => (wB r))
def Zaf7 (a0 : Zn) : Option Bool := Zajw.run (Zajv a0)
theorem Zaxo (a0 : Zn) {r : Bool} (h : Zaf7 a0 = some r) : Fn PR 89 [(wA (Z6 a0))] (wB r) := Zajw.fn h
inductive Zqd where
 | L0 (E0 : Zn)
 | L1 (E0 : Zn) (v3 : Int) (v4 : Int)
def Zst (E0 : Zn) : LT Zqd Bool :=
.g0 (.L1 E0 0 0)
def Z8o (E0 : Zn) (v3 : Int) (v4 : Int) : LT Zqd Bool :=
.len Zu E0.Abilities<|.br (decide (v4 < (E0.Abilities.length : Int))) (.idx Zu E0.Abilities v4 fun x3=>.call (Zy9 x3) fun x5=>.br (!x5) (.rt false)<|.ag Zu x3 0<|.br (x3.Kind == 2) (.g0 (.L1 E0 (IntKind.wrap .i64 (v3 + 1)) (IntKind.wrap .i64 (v4 + 1))))<|.g0 (.L1 E0 v3 (IntKind.wrap .i64 (v4 + 1))))<|.call (Zaxo E0) fun x15=>.br x15 (.cs (!E0.Token) (.k4 2<|.cs (E0.Keys == 0) (.k3 3<|.len Zu E0.Abilities<|.k2 3<|.cs ((E0.Abilities.length : Int) == 1) (.k3 4<|.rt (v3 == 1))<|.k3 4<|.rt false)<|.k5 3<|.b3 false<|.rt false)<|.k4 2<|.b8 false<|.rt false)<|.cs (v3 == 0) (.k4 2<|.cs (!E0.Token) (.k5 3<|.kg 2<|.kg 3<|.kg 2<|.cs ((Zba .and .i64 E0.Line.Types 32) == 0) (.k4 4<|.kg 2<|.kg 4<|.kg 2<|.rt true)<|.k4 4<|.kg 2<|.kg 4<|.kg 2<|.rt (Zas (Zaq E0.Cost) (Zaq (⟨0, 0, (⟨0, 0, 0, 0, 0⟩ : (A5 Int))⟩ : Zp))))<|.k5 3<|.kg 2<|.kg 3<|.kg 2<|.b4 false<|.kg 2<|.kb false<|.kg 2<|.rt (Zas (Zaq E0.Cost) (Zaq (⟨0, 0, (⟨0, 0, 0, 0, 0⟩ : (A5 Int))⟩ : Zp))))<|.k8 2<|.rt false
def Zaum (a0 : Zn) : LT Zqd Bool :=
.lb 1001<|.call (Z76 a0.Name) fun x1=>.cs (!x1) (.k5 0<|.b16 true<|.b2 true<|.kn [0]<|.rt false)<|.k3 0<|.call (Zr7 a0.Cost) fun x4=>.k2 0<|.cs (!x4) (.k5 1<|.b8 true<|.b5 true<|.kn [0]<|.rt false)<|.k3 1<|.call (Za2p a0.Line) fun x7=>.k2 1<|.cs (!x7) (.k5 2<|.b8 true<|.kn [0]<|.rt false)<|.k3 2<|.call (Zao9 a0.Keys) fun x10=>.k2 2<|.cs (!x10) (.k4 3<|.b4 true<|.kn [0]<|.rt false)<|.k4 3<|.cs (decide (a0.Color < 0)) (.k4 4<|.kn [0]<|.rt false)<|.k4 4<|.br (decide (a0.Color > 31)) (.rt false)<|.cs (decide (a0.Power < 0)) (.k4 6<|.b16 true<|.b3 true<|.kn [0]<|.rt false)<|.k4 6<|.cs (decide (a0.Power > 99)) (.k4 7<|.b8 true<|.b5 true<|.b2 true<|.kn [0]<|.rt false)<|.k4 7<|.cs (decide (a0.Tough < 0)) (.k4 8<|.b8 true<|.b3 true<|.kn [0]<|.rt false)<|.k4 8<|.cs (decide (a0.Tough > 99)) (.k5 9<|.kg 9<|.b5 true<|.kn [0]<|.rt false)<|.k2 9<|.call (Zaiq a0) fun x19=>.k2 9<|.cs (!x19) (.k4 10<|.cs (a0.Power != 0) (.k3 11<|.kg 10<|.kg 11<|.kg 9<|.kg 10<|.kg 9<|.b5 true<|.kn [0]<|.rt false)<|.k3 11<|.kg 10<|.kg 11<|.kg 9<|.kg 10<|.kg 9<|.cs (a0.Tough != 0) (.k5 12<|.kn [0]<|.rt false)<|.k3 12<|.len Zu a0.Abilities<|.k2 12<|.br (decide ((a0.Abilities.length : Int) > 8)) (.rt false)<|.jn 0 (.L0 a0) [.relab 1001 30000000] (Zst a0))<|.k5 10<|.kg 9<|.kg 10<|.kg 9<|.b3 false<|.len Zu a0.Abilities<|.b2 false<|.br (decide ((a0.Abilities.length : Int) > 8)) (.rt false)<|.jn 0 (.L0 a0) [.relab 1001 30000000] (Zst a0)
def Zaun : LF Zqd Bool := ⟨53, [.t 2], false, fun | .L0 .. => [1,1,1] | .L1 .. => [1,1,1,1,0,1,4],
 fun | .L0 E0 => ⟨139, [(1, (.bptr 30000000 0))], [(30000000, .box (bx (Z6 E0)))]⟩ | .L1 E0 v3 v4 => ⟨139, [(1, (.bptr 30000000 0)), (3, (wI v3)), (4, (wI v4))], [(30000000, .box (bx (Z6 E0)))]⟩,
 fun r => [], fun r => (wB r), fun | .L0 E0 => Zst E0 | .L1 E0 v3 v4 => Z8o E0 v3 v4⟩
def Zauo (a0 : Zn) : Option Bool := Zaun.run (Zaum a0)
theorem Za2w (a0 : Zn) {r : Bool} (h : Zauo a0 = some r) : Fn PR 53 [(wA (Z6 a0))] (wB r) := Zaun.fn h
inductive Zot where
 | L0 (v0 : (List Zn)) (v1 : (List UInt8)) (v5 : Int)
def Z0t (v0 : (List Zn)) (v1 : (List UInt8)) (v5 : Int) : LT Zot Int :=
.len Z6 v0<|.br (decide (v5 < (v0.length : Int))) (.idx Z6 v0 v5 fun x3=>.br (x3.Name == v1) (.rt v5)<|.g0 (.L0 v0 v1 (IntKind.wrap .i64 (v5 + 1))))<|.rt (-1)
def Zajx (a0 : (List Zn)) (a1 : (List UInt8)) : LT Zot Int :=
.g0 (.L0 a0 a1 0)
def Zajy : LF Zot Int := ⟨54, [.t 4], false, fun | .L0 .. => [1,0,1,4],
 fun | .L0 v0 v1 v5 => ⟨20, [(0, (wL Z6 v0)), (1, (wS v1)), (5, (wI v5))], []⟩,
 fun r => [], fun r => (wI r), fun | .L0 v0 v1 v5 => Z0t v0 v1 v5⟩
def Zaf8 (a0 : (List Zn)) (a1 : (List UInt8)) : Option Int := Zajy.run (Zajx a0 a1)
theorem Zaxp (a0 : (List Zn)) (a1 : (List UInt8)) {r : Int} (h : Zaf8 a0 a1 = some r) : Fn PR 54 [(wL Z6 a0), (wS a1)] (wI r) := Zajy.fn h
inductive Zl1 where
 | L0 (v0 : (List Zn)) (v1 : (List UInt8)) (v5 : Int)
def Zwd (v0 : (List Zn)) (v1 : (List UInt8)) (v5 : Int) : LT Zl1 Bool :=
.len Z6 v0<|.br (decide (v5 < (v0.length : Int))) (.idx Z6 v0 v5 fun x3=>.cs (x3.Name == v1) (.k3 1<|.ag Z6 x3 0<|.k3 1<|.br x3.Token (.rt true)<|.g0 (.L0 v0 v1 (IntKind.wrap .i64 (v5 + 1))))<|.k5 1<|.kg 1<|.kn [0]<|.g0 (.L0 v0 v1 (IntKind.wrap .i64 (v5 + 1))))<|.rt false
def Zada (a0 : (List Zn)) (a1 : (List UInt8)) : LT Zl1 Bool :=
.g0 (.L0 a0 a1 0)
def Zadb : LF Zl1 Bool := ⟨90, [.t 4], false, fun | .L0 .. => [1,0,1,4],
 fun | .L0 v0 v1 v5 => ⟨26, [(0, (wL Z6 v0)), (1, (wS v1)), (5, (wI v5))], []⟩,
 fun r => [], fun r => (wB r), fun | .L0 v0 v1 v5 => Zwd v0 v1 v5⟩
def Z8p (a0 : (List Zn)) (a1 : (List UInt8)) : Option Bool := Zadb.run (Zada a0 a1)
theorem Zaup (a0 : (List Zn)) (a1 : (List UInt8)) {r : Bool} (h : Z8p a0 a1 = some r) : Fn PR 90 [(wL Z6 a0), (wS a1)] (wB r) := Zadb.fn h
inductive Zhe where
 | L0 (v0 : (List Zn)) (E0 : Zn) (v5 : Int)
 | L1 (v0 : (List Zn)) (E0 : Zn) (v5 : Int) (v6 : Int)
def Zqe (v0 : (List Zn)) (E0 : Zn) (v5 : Int) : LT Zhe Bool :=
.len Zu E0.Abilities<|.br (decide (v5 < (E0.Abilities.length : Int))) (.g0 (.L1 v0 E0 v5 0))<|.rt true
def Zqf (v0 : (List Zn)) (E0 : Zn) (v5 : Int) (v6 : Int) : LT Zhe Bool :=
.idx Zu E0.Abilities v5 fun x1=>.len Z5 x1.Effects<|.br (decide (v6 < (x1.Effects.length : Int))) (.ag Zu x1 0<|.idx Z5 x1.Effects v6 fun x5=>.lb 1007<|.cs (x5.Op == 12) (.k4 1<|.call (Zaup v0 x5.Card) fun x8=>.k2 1<|.br (!x8) (.rt false)<|.g0 (.L1 v0 E0 v5 (IntKind.wrap .i64 (v6 + 1))))<|.k5 1<|.kg 1<|.kn [0]<|.g0 (.L1 v0 E0 v5 (IntKind.wrap .i64 (v6 + 1))))<|.g0 (.L0 v0 E0 (IntKind.wrap .i64 (v5 + 1)))
def Z5x (a0 : (List Zn)) (a1 : Zn) : LT Zhe Bool :=
.lb 1003<|.go (.L0 a0 a1 0) [.relab 1003 30000000]
def Z5y : LF Zhe Bool := ⟨55, [.t 4], false, fun | .L0 .. => [1,0,1,4] | .L1 .. => [1,0,1,4,5,1,0,4,1,4],
 fun | .L0 v0 E0 v5 => ⟨45, [(0, (wL Z6 v0)), (3, (.bptr 30000000 0)), (5, (wI v5))], [(30000000, .box (bx (Z6 E0)))]⟩ | .L1 v0 E0 v5 v6 => ⟨45, [(0, (wL Z6 v0)), (3, (.bptr 30000000 0)), (5, (wI v5)), (6, (wI v6))], [(30000000, .box (bx (Z6 E0)))]⟩,
 fun r => [], fun r => (wB r), fun | .L0 v0 E0 v5 => Zqe v0 E0 v5 | .L1 v0 E0 v5 v6 => Zqf v0 E0 v5 v6⟩
def Z0u (a0 : (List Zn)) (a1 : Zn) : Option Bool := Z5y.run (Z5x a0 a1)
theorem Zam2 (a0 : (List Zn)) (a1 : Zn) {r : Bool} (h : Z0u a0 a1 = some r) : Fn PR 55 [(wL Z6 a0), (wA (Z6 a1))] (wB r) := Z5y.fn h
inductive Zl2 where
 | L0 (v0 : (List Zn)) (v4 : Int)
def Zwe (v0 : (List Zn)) (v4 : Int) : LT Zl2 (Int × Int) :=
.len Z6 v0<|.br (decide (v4 < (v0.length : Int))) (.idx Z6 v0 v4 fun x3=>.call (Za2w x3) fun x5=>.br (!x5) (.rt (v4, 9))<|.ag Z6 x3 0<|.call (Zaxp v0 x3.Name) fun x8=>.br (decide (x8 < v4)) (.rt (v4, 6))<|.ag Z6 x3 0<|.call (Zam2 v0 x3) fun x11=>.br (!x11) (.rt (v4, 7))<|.g0 (.L0 v0 (IntKind.wrap .i64 (v4 + 1))))<|.rt ((-1), 0)
def Zadc (a0 : (List Zn)) : LT Zl2 (Int × Int) :=
.len Z6 a0<|.br (decide ((a0.length : Int) > 256)) (.rt ((-1), 5))<|.g0 (.L0 a0 0)
def Zadd : LF Zl2 (Int × Int) := ⟨25, [.t 2, .t 3], false, fun | .L0 .. => [1,1,0,1,4],
 fun | .L0 v0 v4 => ⟨39, [(0, (wL Z6 v0)), (4, (wI v4))], []⟩,
 fun r => [], fun r => (.tup [(wI r.1), (wI r.2)]), fun | .L0 v0 v4 => Zwe v0 v4⟩
def Z8q (a0 : (List Zn)) : Option (Int × Int) := Zadd.run (Zadc a0)
theorem Zauq (a0 : (List Zn)) {r : (Int × Int)} (h : Z8q a0 = some r) : Fn PR 25 [(wL Z6 a0)] (.tup [(wI r.1), (wI r.2)]) := Zadd.fn h
def Zaur (a0 : Int) (a1 : Int) (a2 : Int) : LT Empty Bool :=
.cs (decide (a0 ≥ a1)) (.k4 0<|.rt (decide (a0 ≤ a2)))<|.k4 0<|.rt false
def Zaus : LF Empty Bool := .z 56 [.t 6] false (fun r => []) (fun r => (wB r))
def Zaut (a0 : Int) (a1 : Int) (a2 : Int) : Option Bool := Zaus.run (Zaur a0 a1 a2)
theorem Zdw (a0 : Int) (a1 : Int) (a2 : Int) {r : Bool} (h : Zaut a0 a1 a2 = some r) : Fn PR 56 [(wI a0), (wI a1), (wI a2)] (wB r) := Zaus.fn h
inductive Zl3 where
 | L0 (E0 : (A6 Int)) (v3 : Int)
def Zwf (E0 : (A6 Int)) (v3 : Int) : LT Zl3 Bool :=
.br (decide (v3 < 6)) (.idA (Zf.int .i64) (A6.list E0) v3 (bx ((cA6 (cI .i64)) E0)) 0 6 fun x2=>.ldC (Zf.int .i64) 10 x2 0<|.cs (decide (x2 < 0)) (.k5 1<|.kn [0]<|.rt false)<|.k2 1<|.idA (Zf.int .i64) (A6.list E0) v3 (bx ((cA6 (cI .i64)) E0)) 0 6 fun x5=>.kg 1<|.ldC (Zf.int .i64) 15 x5 1<|.k2 1<|.br (decide (x5 > 1000000)) (.rt false)<|.g0 (.L0 E0 (IntKind.wrap .i64 (v3 + 1))))<|.rt true
def Zade (a0 : (A6 Int)) : LT Zl3 Bool :=
.lb 1001<|.go (.L0 a0 0) [.relab 1001 30000000]
def Zadf : LF Zl3 Bool := ⟨91, [.t 2], false, fun | .L0 .. => [1,0,1,4],
 fun | .L0 E0 v3 => ⟨18, [(1, (.bptr 30000000 0)), (3, (wI v3))], [(30000000, .box (bx ((cA6 (cI .i64)) E0)))]⟩,
 fun r => [], fun r => (wB r), fun | .L0 E0 v3 => Zwf E0 v3⟩
def Z8r (a0 : (A6 Int)) : Option Bool := Zadf.run (Zade a0)
theorem Zauu (a0 : (A6 Int)) {r : Bool} (h : Z8r a0 = some r) : Fn PR 91 [(wA ((cA6 (cI .i64)) a0))] (wB r) := Zadf.fn h
inductive Zl4 where
 | L0 (v1 : Int) (E0 : Zb) (v5 : Int)
def Zwg (v1 : Int) (E0 : Zb) (v5 : Int) : LT Zl4 Int :=
.len Zh E0.Objects<|.br (decide (v5 < (E0.Objects.length : Int))) (.idx Zh E0.Objects v5 fun x3=>.br (x3.Id == v1) (.rt v5)<|.g0 (.L0 v1 E0 (IntKind.wrap .i64 (v5 + 1))))<|.rt (-1)
def Zadg (a0 : Zb) (a1 : Int) : LT Zl4 Int :=
.lb 1002<|.go (.L0 a1 a0 0) [.relab 1002 30000000]
def Zadh : LF Zl4 Int := ⟨47, [.t 4], false, fun | .L0 .. => [1,0,1,4],
 fun | .L0 v1 E0 v5 => ⟨22, [(1, (wI v1)), (2, (.bptr 30000000 0)), (5, (wI v5))], [(30000000, .box (bx (Zo E0)))]⟩,
 fun r => [], fun r => (wI r), fun | .L0 v1 E0 v5 => Zwg v1 E0 v5⟩
def Z8s (a0 : Zb) (a1 : Int) : Option Int := Zadh.run (Zadg a0 a1)
theorem Zauv (a0 : Zb) (a1 : Int) {r : Int} (h : Z8s a0 a1 = some r) : Fn PR 47 [(wA (Zo a0)), (wI a1)] (wI r) := Zadh.fn h
def Zajz (a0 : Zb) (a1 : Int) : LT Empty (Zg × Bool) :=
.lb 1002<|.lb 1004<|.call (Zauv a0 a1) fun x1=>.br (decide (x1 < 0)) (.rt ((⟨0, 0, 0, 0, 0, false, false, false, false, 0, (⟨0, 0, 0⟩ : (A3 Int)), 0, 0, 0, false, 0, 0⟩ : Zg), false))<|.idx Zh a0.Objects x1 fun x4=>.rt (x4, true)
def Zaj0 : LF Empty (Zg × Bool) := .z 20 [.c 4 62 true 19, .t 5] false (fun r => []) (fun r => (.tup [(wA (Zh r.1)), (wB r.2)]))
def Zaf9 (a0 : Zb) (a1 : Int) : Option (Zg × Bool) := Zaj0.run (Zajz a0 a1)
theorem Zaxq (a0 : Zb) (a1 : Int) {r : (Zg × Bool)} (h : Zaf9 a0 a1 = some r) : Fn PR 20 [(wA (Zo a0)), (wI a1)] (.tup [(wA (Zh r.1)), (wB r.2)]) := Zaj0.fn h
def Z8t (a0 : Zb) (a1 : Int) : LT Empty (Zg × Bool) :=
.lb 1002<|.lb 1004<|.call (Zaxq a0 a1) fun x1=>.rt (x1.1, x1.2)
def Z8u : LF Empty (Zg × Bool) := .z 138 [.c 4 62 true 19, .t 5] false (fun r => []) (fun r => (.tup [(wA (Zh r.1)), (wB r.2)]))
def Z4k (a0 : Zb) (a1 : Int) : Option (Zg × Bool) := Z8u.run (Z8t a0 a1)
theorem Z5z (a0 : Zb) (a1 : Int) {r : (Zg × Bool)} (h : Z4k a0 a1 = some r) : Fn PR 138 [(wA (Zo a0)), (wI a1)] (.tup [(wA (Zh r.1)), (wB r.2)]) := Z8u.fn h
inductive Zl5 where
 | L0 (v0 : (List Int)) (v1 : Int) (v5 : Int) (v6 : Int)
def Zwh (v0 : (List Int)) (v1 : Int) (v5 : Int) (v6 : Int) : LT Zl5 Int :=
.len (cI .i64) v0<|.br (decide (v6 < (v0.length : Int))) (.idx (cI .i64) v0 v6 fun x3=>.br (x3 == v1) (.g0 (.L0 v0 v1 (IntKind.wrap .i64 (v5 + 1)) (IntKind.wrap .i64 (v6 + 1))))<|.g0 (.L0 v0 v1 v5 (IntKind.wrap .i64 (v6 + 1))))<|.rt v5
def Zadi (a0 : (List Int)) (a1 : Int) : LT Zl5 Int :=
.g0 (.L0 a0 a1 0 0)
def Zadj : LF Zl5 Int := ⟨139, [.t 4], false, fun | .L0 .. => [1,1,0,1,4],
 fun | .L0 v0 v1 v5 v6 => ⟨22, [(0, (wL (cI .i64) v0)), (1, (wI v1)), (5, (wI v5)), (6, (wI v6))], []⟩,
 fun r => [], fun r => (wI r), fun | .L0 v0 v1 v5 v6 => Zwh v0 v1 v5 v6⟩
def Z8v (a0 : (List Int)) (a1 : Int) : Option Int := Zadj.run (Zadi a0 a1)
theorem Zwi (a0 : (List Int)) (a1 : Int) {r : Int} (h : Z8v a0 a1 = some r) : Fn PR 139 [(wL (cI .i64) a0), (wI a1)] (wI r) := Zadj.fn h
inductive Zou where
 | L0 (v1 : (List Int)) (v2 : Int) (v3 : Int) (E0 : Zb) (v9 : Int)
def Z0v (v1 : (List Int)) (v2 : Int) (v3 : Int) (E0 : Zb) (v9 : Int) : LT Zou Bool :=
.len (cI .i64) v1<|.br (decide (v9 < (v1.length : Int))) (.idx (cI .i64) v1 v9 fun x3=>.call (Z5z E0 x3) fun x5=>.lb 1010<|.cs (!x5.2) (.k5 1<|.b8 true<|.b5 true<|.kn [0]<|.rt false)<|.k5 1<|.cs (x5.1.Zone != v2) (.k5 2<|.b8 true<|.kn [0]<|.rt false)<|.k3 2<|.cs (decide (v3 ≥ 0)) (.k4 3<|.kg 2<|.kg 3<|.kg 2<|.cs (x5.1.Owner != v3) (.k8 4<|.kn [0]<|.rt false)<|.k4 4<|.ag (cI .i64) x3 0<|.k2 4<|.call (Zwi v1 x3) fun x11=>.k2 4<|.br (x11 != 1) (.rt false)<|.g0 (.L0 v1 v2 v3 E0 (IntKind.wrap .i64 (v9 + 1))))<|.k4 3<|.kg 2<|.kg 3<|.kg 2<|.b4 false<|.ag (cI .i64) x3 0<|.b2 false<|.call (Zwi v1 x3) fun x16=>.b2 false<|.br (x16 != 1) (.rt false)<|.g0 (.L0 v1 v2 v3 E0 (IntKind.wrap .i64 (v9 + 1))))<|.rt true
def Zaj1 (a0 : Zb) (a1 : (List Int)) (a2 : Int) (a3 : Int) : LT Zou Bool :=
.lb 1004<|.go (.L0 a1 a2 a3 a0 0) [.relab 1004 30000000]
def Zaj2 : LF Zou Bool := ⟨92, [.t 8], false, fun | .L0 .. => [1,0,1,4],
 fun | .L0 v1 v2 v3 E0 v9 => ⟨54, [(1, (wL (cI .i64) v1)), (2, (wI v2)), (3, (wI v3)), (4, (.bptr 30000000 0)), (9, (wI v9))], [(30000000, .box (bx (Zo E0)))]⟩,
 fun r => [], fun r => (wB r), fun | .L0 v1 v2 v3 E0 v9 => Z0v v1 v2 v3 E0 v9⟩
def Zaga (a0 : Zb) (a1 : (List Int)) (a2 : Int) (a3 : Int) : Option Bool := Zaj2.run (Zaj1 a0 a1 a2 a3)
theorem Zl6 (a0 : Zb) (a1 : (List Int)) (a2 : Int) (a3 : Int) {r : Bool} (h : Zaga a0 a1 a2 a3 = some r) : Fn PR 92 [(wA (Zo a0)), (wL (cI .i64) a1), (wI a2), (wI a3)] (wB r) := Zaj2.fn h
inductive Zi3 where
 | L0 (E0 : Zb) (v3 : Int)
def Zqg (E0 : Zb) (v3 : Int) : LT Zi3 Bool :=
.len Z2 E0.Players<|.br (decide (v3 < (E0.Players.length : Int))) (.idx Z2 E0.Players v3 fun x3=>.lb 1004<|.call (Zdw x3.Life (-1000000) 1000000) fun x5=>.cs (!x5) (.k5 1<|.b8 true<|.b2 true<|.kn [0]<|.rt false)<|.k3 1<|.call (Zdw x3.Venom 0 1000000) fun x8=>.k2 1<|.cs (!x8) (.k5 2<|.b5 true<|.kn [0]<|.rt false)<|.k3 2<|.call (Zdw x3.Lands 0 1000000) fun x11=>.k2 2<|.cs (!x11) (.k5 3<|.kn [0]<|.rt false)<|.k3 3<|.call (Zauu x3.Pool) fun x14=>.k2 3<|.br (!x14) (.rt false)<|.call (Zl6 E0 x3.Library 2 v3) fun x17=>.cs (!x17) (.k5 5<|.k2 5<|.b5 true<|.b2 true<|.kn [0]<|.rt false)<|.k5 5<|.call (Zl6 E0 x3.Hand 1 v3) fun x20=>.k2 5<|.cs (!x20) (.k5 6<|.k2 6<|.kn [0]<|.rt false)<|.k5 6<|.call (Zl6 E0 x3.Graveyard 3 v3) fun x23=>.k2 6<|.br (!x23) (.rt false)<|.g0 (.L0 E0 (IntKind.wrap .i64 (v3 + 1))))<|.call (Zl6 E0 E0.Battlefield 0 (-1)) fun x28=>.cs x28 (.k4 1<|.call (Zl6 E0 E0.Exile 4 (-1)) fun x31=>.kg 1<|.rt x31)<|.k5 1<|.rt false
def Z50 (a0 : Zb) : LT Zi3 Bool :=
.lb 1001<|.len Z2 a0.Players<|.call (Zdw (a0.Players.length : Int) 2 4) fun x2=>.br (!x2) (.rt false)<|.go (.L0 a0 0) [.relab 1001 30000000]
def Z51 : LF Zi3 Bool := ⟨57, [.t 2], false, fun | .L0 .. => [1,1,0,1,4],
 fun | .L0 E0 v3 => ⟨76, [(1, (.bptr 30000000 0)), (3, (wI v3))], [(30000000, .box (bx (Zo E0)))]⟩,
 fun r => [], fun r => (wB r), fun | .L0 E0 v3 => Zqg E0 v3⟩
def Z0w (a0 : Zb) : Option Bool := Z51.run (Z50 a0)
theorem Zam3 (a0 : Zb) {r : Bool} (h : Z0w a0 = some r) : Fn PR 57 [(wA (Zo a0))] (wB r) := Z51.fn h
def Z8w (a0 : Zb) (a1 : Int) : LT Empty Bool :=
.lb 1002<|.len Z2 a0.Players<|.call (Zdw a1 0 (IntKind.wrap .i64 ((a0.Players.length : Int) - 1))) fun x4=>.rt x4
def Z8x : LF Empty Bool := .z 58 [.t 4] false (fun r => []) (fun r => (wB r))
def Z4l (a0 : Zb) (a1 : Int) : Option Bool := Z8x.run (Z8w a0 a1)
theorem Zd7 (a0 : Zb) (a1 : Int) {r : Bool} (h : Z4l a0 a1 = some r) : Fn PR 58 [(wA (Zo a0)), (wI a1)] (wB r) := Z8x.fn h
inductive Zwj where
 | L0 (E0 : (A3 Int)) (v3 : Int)
def Z8y (E0 : (A3 Int)) (v3 : Int) : LT Zwj Bool :=
.br (decide (v3 < 3)) (.idA (Zf.int .i64) (A3.list E0) v3 (bx ((cA3 (cI .i64)) E0)) 0 3 fun x2=>.ldC (Zf.int .i64) 10 x2 0<|.cs (decide (x2 < 0)) (.k5 1<|.kn [0]<|.rt false)<|.k2 1<|.idA (Zf.int .i64) (A3.list E0) v3 (bx ((cA3 (cI .i64)) E0)) 0 3 fun x5=>.kg 1<|.ldC (Zf.int .i64) 15 x5 1<|.k2 1<|.br (decide (x5 > 1000000)) (.rt false)<|.g0 (.L0 E0 (IntKind.wrap .i64 (v3 + 1))))<|.rt true
def Zauw (a0 : (A3 Int)) : LT Zwj Bool :=
.lb 1001<|.go (.L0 a0 0) [.relab 1001 30000000]
def Zaux : LF Zwj Bool := ⟨140, [.t 2], false, fun | .L0 .. => [1,0,1,4],
 fun | .L0 E0 v3 => ⟨18, [(1, (.bptr 30000000 0)), (3, (wI v3))], [(30000000, .box (bx ((cA3 (cI .i64)) E0)))]⟩,
 fun r => [], fun r => (wB r), fun | .L0 E0 v3 => Z8y E0 v3⟩
def Zauy (a0 : (A3 Int)) : Option Bool := Zaux.run (Zauw a0)
theorem Za2x (a0 : (A3 Int)) {r : Bool} (h : Zauy a0 = some r) : Fn PR 140 [(wA ((cA3 (cI .i64)) a0))] (wB r) := Zaux.fn h
def Zaj3 (a0 : Zg) : LT Empty Zg :=
.lb 1001<|.lb 1002<|.rt (⟨a0.Id, a0.Card, a0.Owner, a0.Control, a0.Zone, a0.Token, a0.Tapped, a0.Sick, a0.Deadly, a0.Damage, a0.Counters, a0.Stamp, a0.Copy, (-1), false, 0, a0.Shield⟩ : Zg)
def Zaj4 : LF Empty Zg := .z 141 [.c 2 62 true 19] false (fun r => []) (fun r => (wA (Zh r)))
def Zagb (a0 : Zg) : Option Zg := Zaj4.run (Zaj3 a0)
theorem Zaxr (a0 : Zg) {r : Zg} (h : Zagb a0 = some r) : Fn PR 141 [(wA (Zh a0))] (wA (Zh r)) := Zaj4.fn h
def Zadk (a0 : Zg) : LT Empty Zg :=
.lb 1001<|.lb 1002<|.rt (⟨a0.Id, a0.Card, a0.Owner, a0.Control, a0.Zone, a0.Token, a0.Tapped, a0.Sick, false, 0, a0.Counters, a0.Stamp, a0.Copy, a0.Attack, a0.Blocked, a0.Blocks, 0⟩ : Zg)
def Zadl : LF Empty Zg := .z 142 [.c 2 62 true 19] false (fun r => []) (fun r => (wA (Zh r)))
def Z8z (a0 : Zg) : Option Zg := Zadl.run (Zadk a0)
theorem Zauz (a0 : Zg) {r : Zg} (h : Z8z a0 = some r) : Fn PR 142 [(wA (Zh a0))] (wA (Zh r)) := Zadl.fn h
def Zau0 (a0 : Zg) (a1 : Int) (a2 : Int) : LT Empty Bool :=
.lb 1003<|.cs (decide (a0.Id < 1)) (.k4 0<|.b16 true<|.b8 true<|.b5 true<|.b2 true<|.kn [0]<|.rt false)<|.k4 0<|.cs (decide (a0.Card < 0)) (.k5 1<|.b16 true<|.b8 true<|.b2 true<|.kn [0]<|.rt false)<|.k5 1<|.cs (decide (a0.Card ≥ a1)) (.k4 2<|.b16 true<|.b5 true<|.kb true<|.kn [0]<|.rt false)<|.k4 2<|.cs (decide (a0.Owner < 0)) (.k5 3<|.b16 true<|.kb true<|.kn [0]<|.rt false)<|.k5 3<|.cs (decide (a0.Owner ≥ a2)) (.k4 4<|.b8 true<|.b5 true<|.kn [0]<|.rt false)<|.k4 4<|.cs (decide (a0.Control < 0)) (.k5 5<|.b8 true<|.kn [0]<|.rt false)<|.k5 5<|.cs (decide (a0.Control ≥ a2)) (.k4 6<|.b4 true<|.kn [0]<|.rt false)<|.k4 6<|.cs (decide (a0.Zone < 0)) (.k4 7<|.kn [0]<|.rt false)<|.k4 7<|.br (decide (a0.Zone > 5)) (.rt false)<|.cs (decide (a0.Damage < 0)) (.k4 9<|.b16 true<|.b8 true<|.kn [0]<|.rt false)<|.k4 9<|.cs (decide (a0.Damage > 1000000)) (.k4 10<|.b16 true<|.b4 true<|.kn [0]<|.rt false)<|.k4 10<|.cs (decide (a0.Stamp < 0)) (.k4 11<|.b16 true<|.kn [0]<|.rt false)<|.k4 11<|.cs (decide (a0.Stamp > 1000000)) (.k4 12<|.b8 true<|.b4 true<|.kn [0]<|.rt false)<|.k4 12<|.cs (decide (a0.Blocks < 0)) (.k4 13<|.b8 true<|.kn [0]<|.rt false)<|.k4 13<|.cs (decide (a0.Blocks > 1000000)) (.k4 14<|.b4 true<|.kn [0]<|.rt false)<|.k4 14<|.cs (decide (a0.Shield < 0)) (.k4 15<|.kn [0]<|.rt false)<|.k4 15<|.br (decide (a0.Shield > 1000000)) (.rt false)<|.call (Za2x a0.Counters) fun x18=>.cs (!x18) (.k4 17<|.b8 true<|.b5 true<|.kb true<|.kn [0]<|.rt false)<|.k4 17<|.cs (decide (a0.Copy < (-1))) (.k5 18<|.b8 true<|.kb true<|.kn [0]<|.rt false)<|.k5 18<|.cs (decide (a0.Copy ≥ a1)) (.k4 19<|.b5 true<|.kn [0]<|.rt false)<|.k4 19<|.cs (decide (a0.Attack < (-1))) (.k5 20<|.kn [0]<|.rt false)<|.k5 20<|.br (decide (a0.Attack ≥ a2)) (.rt false)<|.cs (a0.Zone == 0) (.k8 22<|.k5 22<|.rt true)<|.k3 22<|.call (Zaxr a0) fun x26=>.k2 22<|.cs (Zas (Zh a0) (Zh x26)) (.k3 23<|.call (Zauz a0) fun x29=>.kg 23<|.kg 22<|.kg 23<|.kg 22<|.cs (Zas (Zh a0) (Zh x29)) (.k3 24<|.kg 22<|.kg 24<|.kg 22<|.cs (!a0.Tapped) (.k3 25<|.kg 22<|.kg 25<|.kg 22<|.cs (!a0.Sick) (.k4 26<|.kg 22<|.kg 26<|.kg 22<|.rt (Zas ((cA3 (cI .i64)) a0.Counters) ((cA3 (cI .i64)) (⟨0, 0, 0⟩ : (A3 Int)))))<|.k4 26<|.kg 22<|.kg 26<|.kg 22<|.rt false)<|.k3 25<|.kg 22<|.kg 25<|.kg 22<|.b4 false<|.kg 22<|.kb false<|.kg 22<|.rt false)<|.k3 24<|.kg 22<|.kg 24<|.kg 22<|.b3 false<|.kg 22<|.kb false<|.kg 22<|.b4 false<|.kg 22<|.kb false<|.kg 22<|.rt false)<|.k4 23<|.kg 22<|.kg 23<|.kg 22<|.b3 false<|.kg 22<|.kb false<|.kg 22<|.b3 false<|.kg 22<|.kb false<|.kg 22<|.b4 false<|.kg 22<|.kb false<|.kg 22<|.rt false
def Zau1 : LF Empty Bool := .z 93 [.t 6] false (fun r => []) (fun r => (wB r))
def Zau2 (a0 : Zg) (a1 : Int) (a2 : Int) : Option Bool := Zau1.run (Zau0 a0 a1 a2)
theorem Za2y (a0 : Zg) (a1 : Int) (a2 : Int) {r : Bool} (h : Zau2 a0 a1 a2 = some r) : Fn PR 93 [(wA (Zh a0)), (wI a1), (wI a2)] (wB r) := Zau1.fn h
inductive Zkh where
 | L0 (v1 : Int) (E0 : Zb) (v5 : Int) (v6 : Int)
def Ztj (v1 : Int) (E0 : Zb) (v5 : Int) (v6 : Int) : LT Zkh Int :=
.len Zai E0.Stack<|.br (decide (v6 < (E0.Stack.length : Int))) (.idx Zai E0.Stack v6 fun x3=>.cs (x3.Kind == 1) (.k4 1<|.ag Zai x3 0<|.k5 1<|.br (x3.Id == v1) (.g0 (.L0 v1 E0 (IntKind.wrap .i64 (v5 + 1)) (IntKind.wrap .i64 (v6 + 1))))<|.g0 (.L0 v1 E0 v5 (IntKind.wrap .i64 (v6 + 1))))<|.k8 1<|.kg 1<|.kn [0]<|.g0 (.L0 v1 E0 v5 (IntKind.wrap .i64 (v6 + 1))))<|.rt v5
def Z80 (a0 : Zb) (a1 : Int) : LT Zkh Int :=
.lb 1002<|.go (.L0 a1 a0 0 0) [.relab 1002 30000000]
def Z81 : LF Zkh Int := ⟨143, [.t 4], false, fun | .L0 .. => [1,1,0,1,4],
 fun | .L0 v1 E0 v5 v6 => ⟨34, [(1, (wI v1)), (2, (.bptr 30000000 0)), (5, (wI v5)), (6, (wI v6))], [(30000000, .box (bx (Zo E0)))]⟩,
 fun r => [], fun r => (wI r), fun | .L0 v1 E0 v5 v6 => Ztj v1 E0 v5 v6⟩
def Z4m (a0 : Zb) (a1 : Int) : Option Int := Z81.run (Z80 a0 a1)
theorem Zaqb (a0 : Zb) (a1 : Int) {r : Int} (h : Z4m a0 a1 = some r) : Fn PR 143 [(wA (Zo a0)), (wI a1)] (wI r) := Z81.fn h
def Zaj5 (a0 : (List Int)) : LT Empty (List Int) :=
.lb 1003<|.apR (cI .i64) 8 ([] : (List Int)) a0 fun x1=>.ret x1 [.relab 1003 5000]
def Zaj6 : LF Empty (List Int) := .z 173 [.t 2] true (fun r => [(5000, wR (cI .i64) 1 r)]) (fun r => (wO (cI .i64) 5000 r))
def Zagc (a0 : (List Int)) : Option (List Int) := Zaj6.run (Zaj5 a0)
theorem Zki (a0 : (List Int)) {r : (List Int)} (h : Zagc a0 = some r) : FnG PR 173 [] [(wL (cI .i64) a0)] [(5000, wR (cI .i64) 1 r)] (wO (cI .i64) 5000 r) := Zaj6.fn h
def Zaj7 (a0 : Zb) (a1 : Int) (a2 : Int) : LT Empty (List Int) :=
.lb 1003<|.br (a1 == 0) (.callF (Zki a0.Battlefield) 130000 fun x2=>.ret x2 [.relab 135000 5000])<|.br (a1 == 4) (.callF (Zki a0.Exile) 180000 fun x5=>.ret x5 [.relab 185000 5000])<|.cs (decide (a2 < 0)) (.k5 2<|.kg 2<|.kn [0]<|.ret ([] : (List Int)) [.own 6 5000 1])<|.k4 2<|.len Z2 a0.Players<|.k2 2<|.br (decide (a2 ≥ (a0.Players.length : Int))) (.ret ([] : (List Int)) [.own 6 5000 1])<|.br (a1 == 1) (.idx Z2 a0.Players a2 fun x11=>.callF (Zki x11.Hand) 370000 fun x13=>.ret x13 [.relab 375000 5000])<|.br (a1 == 2) (.idx Z2 a0.Players a2 fun x16=>.callF (Zki x16.Library) 460000 fun x18=>.ret x18 [.relab 465000 5000])<|.br (a1 == 3) (.idx Z2 a0.Players a2 fun x21=>.callF (Zki x21.Graveyard) 550000 fun x23=>.ret x23 [.relab 555000 5000])<|.ret ([] : (List Int)) [.own 6 5000 1]
def Zaj8 : LF Empty (List Int) := .z 144 [.t 6] true (fun r => [(5000, wR (cI .i64) 1 r)]) (fun r => (wO (cI .i64) 5000 r))
def Z4n (a0 : Zb) (a1 : Int) (a2 : Int) : Option (List Int) := Zaj8.run (Zaj7 a0 a1 a2)
theorem Zau3 (a0 : Zb) (a1 : Int) (a2 : Int) {r : (List Int)} (h : Z4n a0 a1 a2 = some r) : FnG PR 144 [] [(wA (Zo a0)), (wI a1), (wI a2)] [(5000, wR (cI .i64) 1 r)] (wO (cI .i64) 5000 r) := Zaj8.fn h
theorem Zaxs (a0 : Zb) (a1 : Int) (a2 : Int) {r : (List Int)} (h : Z4n a0 a1 a2 = some r) : Fn PR 144 [(wA (Zo a0)), (wI a1), (wI a2)] (wL (cI .i64) r) :=
 FnG.frozen (C := LT.RL (cI .i64) r ∧ True) (Zau3 a0 a1 a2 h) ⟨rfl, trivial⟩ (by kernel_rfl)
def Z82 (a0 : Zb) (a1 : Zg) : LT Empty Bool :=
.lb 1002<|.lb 1003<|.br (a1.Zone == 5) (.call (Zaqb a0 a1.Id) fun x2=>.rt (x2 == 1))<|.call (Zaxs a0 a1.Zone a1.Owner) fun x4=>.call (Zwi x4 a1.Id) fun x6=>.rt (x6 == 1)
def Z83 : LF Empty Bool := .z 94 [.t 4] false (fun r => []) (fun r => (wB r))
def Z4o (a0 : Zb) (a1 : Zg) : Option Bool := Z83.run (Z82 a0 a1)
theorem Z52 (a0 : Zb) (a1 : Zg) {r : Bool} (h : Z4o a0 a1 = some r) : Fn PR 94 [(wA (Zo a0)), (wA (Zh a1))] (wB r) := Z83.fn h
inductive Zi4 where
 | L0 (v0 : (List Zn)) (E0 : Zb) (v5 : Int)
def Zqh (v0 : (List Zn)) (E0 : Zb) (v5 : Int) : LT Zi4 Bool :=
.len Zh E0.Objects<|.br (decide (v5 < (E0.Objects.length : Int))) (.idx Zh E0.Objects v5 fun x3=>.lb 1006<|.len Z6 v0<|.len Z2 E0.Players<|.call (Za2y x3 (v0.length : Int) (E0.Players.length : Int)) fun x7=>.cs (!x7) (.k5 1<|.kg 1<|.b8 true<|.b3 true<|.kn [0]<|.rt false)<|.k5 1<|.kg 1<|.cs (decide (x3.Id ≥ E0.NextId)) (.k5 2<|.kg 2<|.b5 true<|.kn [0]<|.rt false)<|.k5 2<|.kg 2<|.cs (decide (x3.Stamp ≥ E0.NextStamp)) (.k5 3<|.kn [0]<|.rt false)<|.k3 3<|.cs (decide (v5 > 0)) (.k5 4<|.idx Zh E0.Objects (IntKind.wrap .i64 (v5 - 1)) fun x15=>.k5 4<|.kg 3<|.kg 4<|.kg 3<|.br (decide (x15.Id ≥ x3.Id)) (.rt false)<|.call (Z52 E0 x3) fun x18=>.br (!x18) (.rt false)<|.g0 (.L0 v0 E0 (IntKind.wrap .i64 (v5 + 1))))<|.k8 4<|.k2 4<|.kg 3<|.kg 4<|.kg 3<|.kn [0]<|.call (Z52 E0 x3) fun x23=>.br (!x23) (.rt false)<|.g0 (.L0 v0 E0 (IntKind.wrap .i64 (v5 + 1))))<|.rt true
def Z53 (a0 : (List Zn)) (a1 : Zb) : LT Zi4 Bool :=
.lb 1003<|.len Zh a1.Objects<|.br (decide ((a1.Objects.length : Int) > 2048)) (.rt false)<|.go (.L0 a0 a1 0) [.relab 1003 30000000]
def Z54 : LF Zi4 Bool := ⟨59, [.t 4], false, fun | .L0 .. => [1,1,0,1,4],
 fun | .L0 v0 E0 v5 => ⟨65, [(0, (wL Z6 v0)), (3, (.bptr 30000000 0)), (5, (wI v5))], [(30000000, .box (bx (Zo E0)))]⟩,
 fun r => [], fun r => (wB r), fun | .L0 v0 E0 v5 => Zqh v0 E0 v5⟩
def Z0x (a0 : (List Zn)) (a1 : Zb) : Option Bool := Z54.run (Z53 a0 a1)
theorem Zk4 (a0 : (List Zn)) (a1 : Zb) {r : Bool} (h : Z0x a0 a1 = some r) : Fn PR 59 [(wL Z6 a0), (wA (Zo a1))] (wB r) := Z54.fn h
inductive Zh4 where
 | L0 (v0 : (List Zr)) (v1 : (List Zr)) (v5 : Int)
def Zov (v0 : (List Zr)) (v1 : (List Zr)) (v5 : Int) : LT Zh4 Bool :=
.len Z0 v0<|.br (decide (v5 < (v0.length : Int))) (.idx Z0 v0 v5 fun x3=>.idx Z0 v1 v5 fun x5=>.br (!(Zas (Z0 x3) (Z0 x5))) (.rt false)<|.g0 (.L0 v0 v1 (IntKind.wrap .i64 (v5 + 1))))<|.rt true
def Z2l (a0 : (List Zr)) (a1 : (List Zr)) : LT Zh4 Bool :=
.len Z0 a0<|.len Z0 a1<|.br ((a0.length : Int) != (a1.length : Int)) (.rt false)<|.g0 (.L0 a0 a1 0)
def Z2m : LF Zh4 Bool := ⟨174, [.t 4], false, fun | .L0 .. => [1,1,0,1,4],
 fun | .L0 v0 v1 v5 => ⟨26, [(0, (wL Z0 v0)), (1, (wL Z0 v1)), (5, (wI v5))], []⟩,
 fun r => [], fun r => (wB r), fun | .L0 v0 v1 v5 => Zov v0 v1 v5⟩
def Zwk (a0 : (List Zr)) (a1 : (List Zr)) : Option Bool := Z2m.run (Z2l a0 a1)
theorem Zza (a0 : (List Zr)) (a1 : (List Zr)) {r : Bool} (h : Zwk a0 a1 = some r) : Fn PR 174 [(wL Z0 a0), (wL Z0 a1)] (wB r) := Z2m.fn h
def Zaj9 (a0 : Zz) (a1 : Zz) : LT Empty Bool :=
.lb 1002<|.lb 1003<|.cs (a0.Op == a1.Op) (.k5 0<|.kg 0<|.cs (Zas (Zbg a0.Ref) (Zbg a1.Ref)) (.k5 1<|.kg 1<|.cs (Zas (Zah a0.Amount) (Zah a1.Amount)) (.k5 2<|.kg 2<|.cs (a0.Counter == a1.Counter) (.k5 3<|.kg 3<|.cs (a0.Zone == a1.Zone) (.k5 4<|.kg 4<|.cs (a0.Card == a1.Card) (.k5 5<|.kg 5<|.cs (Zas (Zm a0.Filter) (Zm a1.Filter)) (.k5 6<|.kg 6<|.cs (Zas ((cA6 (cI .i64)) a0.Pool) ((cA6 (cI .i64)) a1.Pool)) (.k5 7<|.call (Zza a0.Mods a1.Mods) fun x9=>.kg 7<|.rt x9)<|.k5 7<|.kg 7<|.rt false)<|.k5 6<|.kg 6<|.b5 false<|.kb false<|.rt false)<|.k5 5<|.kg 5<|.b8 false<|.b4 false<|.rt false)<|.k5 4<|.kg 4<|.b16 false<|.b2 false<|.rt false)<|.k5 3<|.kg 3<|.b16 false<|.b8 false<|.rt false)<|.k5 2<|.kg 2<|.b16 false<|.b8 false<|.b5 false<|.kb false<|.rt false)<|.k5 1<|.kg 1<|.b16 false<|.b16 false<|.b4 false<|.rt false)<|.k5 0<|.kg 0<|.b16 false<|.b16 false<|.b8 false<|.b2 false<|.rt false
def Zaka : LF Empty Bool := .z 196 [.t 4] false (fun r => []) (fun r => (wB r))
def Zagd (a0 : Zz) (a1 : Zz) : Option Bool := Zaka.run (Zaj9 a0 a1)
theorem Zaxt (a0 : Zz) (a1 : Zz) {r : Bool} (h : Zagd a0 a1 = some r) : Fn PR 196 [(wA (Z5 a0)), (wA (Z5 a1))] (wB r) := Zaka.fn h
inductive Zh5 where
 | L0 (v0 : (List Zz)) (v1 : (List Zz)) (v5 : Int)
def Zow (v0 : (List Zz)) (v1 : (List Zz)) (v5 : Int) : LT Zh5 Bool :=
.len Z5 v0<|.br (decide (v5 < (v0.length : Int))) (.idx Z5 v0 v5 fun x3=>.idx Z5 v1 v5 fun x5=>.call (Zaxt x3 x5) fun x7=>.br (!x7) (.rt false)<|.g0 (.L0 v0 v1 (IntKind.wrap .i64 (v5 + 1))))<|.rt true
def Z2n (a0 : (List Zz)) (a1 : (List Zz)) : LT Zh5 Bool :=
.len Z5 a0<|.len Z5 a1<|.br ((a0.length : Int) != (a1.length : Int)) (.rt false)<|.g0 (.L0 a0 a1 0)
def Z2o : LF Zh5 Bool := ⟨175, [.t 4], false, fun | .L0 .. => [1,1,0,1,4],
 fun | .L0 v0 v1 v5 => ⟨27, [(0, (wL Z5 v0)), (1, (wL Z5 v1)), (5, (wI v5))], []⟩,
 fun r => [], fun r => (wB r), fun | .L0 v0 v1 v5 => Zow v0 v1 v5⟩
def Zwl (a0 : (List Zz)) (a1 : (List Zz)) : Option Bool := Z2o.run (Z2n a0 a1)
theorem Zakb (a0 : (List Zz)) (a1 : (List Zz)) {r : Bool} (h : Zwl a0 a1 = some r) : Fn PR 175 [(wL Z5 a0), (wL Z5 a1)] (wB r) := Z2o.fn h
inductive Zox where
 | L0 (E0 : Zj) (E1 : Zj) (v5 : Int)
def Z0y (E0 : Zj) (E1 : Zj) (v5 : Int) : LT Zox Bool :=
.len Za6 E0.Specs<|.br (decide (v5 < (E0.Specs.length : Int))) (.idx Za6 E0.Specs v5 fun x3=>.idx Za6 E1.Specs v5 fun x5=>.br (!(Zas (Za6 x3) (Za6 x5))) (.rt false)<|.g0 (.L0 E0 E1 (IntKind.wrap .i64 (v5 + 1))))<|.cs (E0.Kind == E1.Kind) (.k5 1<|.kg 1<|.cs (Zas (Zm E0.Filter) (Zm E1.Filter)) (.k5 2<|.call (Zza E0.Mods E1.Mods) fun x12=>.kg 2<|.cs x12 (.k5 3<|.kg 3<|.cs (Zas (Ze9 E0.Price) (Ze9 E1.Price)) (.k5 4<|.kg 4<|.cs (E0.Slow == E1.Slow) (.k5 5<|.kg 5<|.cs (Zas (Zdj E0.Trigger) (Zdj E1.Trigger)) (.k5 6<|.kg 6<|.cs (E0.May == E1.May) (.k5 7<|.call (Zakb E0.Effects E1.Effects) fun x19=>.kg 7<|.cs x19 (.k5 8<|.kg 8<|.rt (Zas (Zbu E0.Replace) (Zbu E1.Replace)))<|.k5 8<|.kg 8<|.rt false)<|.k5 7<|.kg 7<|.b5 false<|.kb false<|.rt false)<|.k5 6<|.kg 6<|.b8 false<|.b4 false<|.rt false)<|.k5 5<|.kg 5<|.b16 false<|.b2 false<|.rt false)<|.k5 4<|.kg 4<|.b16 false<|.b8 false<|.rt false)<|.k5 3<|.kg 3<|.b16 false<|.b8 false<|.b5 false<|.kb false<|.rt false)<|.k5 2<|.kg 2<|.b16 false<|.b16 false<|.b4 false<|.rt false)<|.k5 1<|.kg 1<|.b16 false<|.b16 false<|.b8 false<|.b2 false<|.rt false
def Zakc (a0 : Zj) (a1 : Zj) : LT Zox Bool :=
.lb 1002<|.lb 1003<|.len Za6 a0.Specs<|.len Za6 a1.Specs<|.br ((a0.Specs.length : Int) != (a1.Specs.length : Int)) (.rt false)<|.go (.L0 a0 a1 0) [.relab 1002 30000000, .relab 1003 30000001]
def Zakd : LF Zox Bool := ⟨145, [.t 4], false, fun | .L0 .. => [1,1,0,1,4],
 fun | .L0 E0 E1 v5 => ⟨92, [(2, (.bptr 30000000 0)), (3, (.bptr 30000001 0)), (5, (wI v5))], [(30000000, .box (bx (Zu E0))), (30000001, .box (bx (Zu E1)))]⟩,
 fun r => [], fun r => (wB r), fun | .L0 E0 E1 v5 => Z0y E0 E1 v5⟩
def Zage (a0 : Zj) (a1 : Zj) : Option Bool := Zakd.run (Zakc a0 a1)
theorem Zaxu (a0 : Zj) (a1 : Zj) {r : Bool} (h : Zage a0 a1 = some r) : Fn PR 145 [(wA (Zu a0)), (wA (Zu a1))] (wB r) := Zakd.fn h
def Zake (a0 : Zb) (a1 : Zee) : LT Empty Bool :=
.lb 1002<|.lb 1003<|.call (Zdw a1.Id 1 (IntKind.wrap .i64 (a0.NextId - 1))) fun x3=>.cs (!x3) (.k5 0<|.b8 true<|.b3 true<|.kn [0]<|.rt false)<|.k3 0<|.call (Zdw a1.X 0 1000000) fun x6=>.k2 0<|.cs (!x6) (.k5 1<|.b5 true<|.kb true<|.kn [0]<|.rt false)<|.k3 1<|.len Zbj a1.Targets<|.k2 1<|.cs (decide ((a1.Targets.length : Int) > 4)) (.k5 2<|.kg 2<|.kn [0]<|.rt false)<|.k4 2<|.call (Zd7 a0 a1.Control) fun x11=>.k2 2<|.br (!x11) (.rt false)<|.call (Z5z a0 a1.Id) fun x14=>.lb 1005<|.br (a1.Kind == 1) (.call (Zaxu a1.Ability (⟨0, (⟨0, 0, 0, 0, 0, 0, 0, ([] : List UInt8), 0, 0, (⟨0, 0⟩ : Zd), (⟨0, 0⟩ : Zd), (⟨0, 0⟩ : Zd)⟩ : Ze), ([] : (List Zr)), (⟨(⟨0, 0, (⟨0, 0, 0, 0, 0⟩ : (A5 Int))⟩ : Zp), false, false, 0⟩ : Zfj), false, (⟨0, 0, (⟨0, 0, 0, 0, 0, 0, 0, ([] : List UInt8), 0, 0, (⟨0, 0⟩ : Zd), (⟨0, 0⟩ : Zd), (⟨0, 0⟩ : Zd)⟩ : Ze)⟩ : Zb6), false, ([] : (List Zcs)), ([] : (List Zz)), (⟨0, 0, (⟨0, 0, 0, 0, 0, 0, 0, ([] : List UInt8), 0, 0, (⟨0, 0⟩ : Zd), (⟨0, 0⟩ : Zd), (⟨0, 0⟩ : Zd)⟩ : Ze), 0, 0, 0, 0⟩ : Zay)⟩ : Zj)) fun x17=>.cs (a1.Source == a1.Id) (.k2 5<|.cs x14.2 (.k4 6<|.cs (x14.1.Zone == 5) (.k2 7<|.cs x17 (.k3 8<|.kg 7<|.kg 8<|.kg 7<|.rt true)<|.k3 8<|.call (Zy9 a1.Ability) fun x23=>.kg 7<|.kg 8<|.kg 7<|.rt x23)<|.k4 7<|.rt false)<|.k4 6<|.b4 false<|.rt false)<|.k2 5<|.b8 false<|.rt false)<|.cs (a1.Kind == 2) (.k3 5<|.cs (!x14.2) (.k3 6<|.call (Zy9 a1.Ability) fun x27=>.kg 6<|.rt x27)<|.k4 6<|.rt false)<|.k3 5<|.b4 false<|.rt false
def Zakf : LF Empty Bool := .z 95 [.t 4] false (fun r => []) (fun r => (wB r))
def Zagf (a0 : Zb) (a1 : Zee) : Option Bool := Zakf.run (Zake a0 a1)
theorem Zaxv (a0 : Zb) (a1 : Zee) {r : Bool} (h : Zagf a0 a1 = some r) : Fn PR 95 [(wA (Zo a0)), (wA (Zai a1))] (wB r) := Zakf.fn h
inductive Zwm where
 | L0 (v0 : (List Int)) (v3 : Int)
def Z84 (v0 : (List Int)) (v3 : Int) : LT Zwm Bool :=
.len (cI .i64) v0<|.br (decide (v3 < (v0.length : Int))) (.idx (cI .i64) v0 (IntKind.wrap .i64 (v3 - 1)) fun x5=>.idx (cI .i64) v0 v3 fun x7=>.br (decide (x5 ≥ x7)) (.rt false)<|.g0 (.L0 v0 (IntKind.wrap .i64 (v3 + 1))))<|.rt true
def Zau4 (a0 : (List Int)) : LT Zwm Bool :=
.g0 (.L0 a0 1)
def Zau5 : LF Zwm Bool := ⟨96, [.t 2], false, fun | .L0 .. => [1,0,1,4],
 fun | .L0 v0 v3 => ⟨20, [(0, (wL (cI .i64) v0)), (3, (wI v3))], []⟩,
 fun r => [], fun r => (wB r), fun | .L0 v0 v3 => Z84 v0 v3⟩
def Zau6 (a0 : (List Int)) : Option Bool := Zau5.run (Zau4 a0)
theorem Za2z (a0 : (List Int)) {r : Bool} (h : Zau6 a0 = some r) : Fn PR 96 [(wL (cI .i64) a0)] (wB r) := Zau5.fn h
inductive Zga where
 | L0 (E0 : Zb) (v3 : Int)
 | L1 (E0 : Zb) (v3 : Int) (v4 : Int)
 | L2 (E0 : Zb) (v5 : Int)
 | L3 (E0 : Zb) (v7 : Int)
def Zwn (E0 : Zb) (v3 : Int) : LT Zga Bool :=
.len Zai E0.Stack<|.br (decide (v3 < (E0.Stack.length : Int))) (.idx Zai E0.Stack v3 fun x3=>.call (Zaxv E0 x3) fun x5=>.br (!x5) (.rt false)<|.g0 (.L1 E0 v3 0))<|.g0 (.L2 E0 0)
def Zwo (E0 : Zb) (v3 : Int) (v4 : Int) : LT Zga Bool :=
.br (decide (v4 < v3)) (.idx Zai E0.Stack v4 fun x2=>.idx Zai E0.Stack v3 fun x4=>.br (x2.Id == x4.Id) (.rt false)<|.g0 (.L1 E0 v3 (IntKind.wrap .i64 (v4 + 1))))<|.g0 (.L0 E0 (IntKind.wrap .i64 (v3 + 1)))
def Zwp (E0 : Zb) (v5 : Int) : LT Zga Bool :=
.len Zab E0.Waiting<|.br (decide (v5 < (E0.Waiting.length : Int))) (.idx Zab E0.Waiting v5 fun x3=>.lb 1006<|.call (Zd7 E0 x3.Control) fun x5=>.cs (!x5) (.k5 1<|.b5 true<|.kn [0]<|.rt false)<|.k5 1<|.cs (x3.Ability.Kind != 4) (.k5 2<|.kn [0]<|.rt false)<|.k3 2<|.call (Zy9 x3.Ability) fun x9=>.k2 2<|.br (!x9) (.rt false)<|.g0 (.L2 E0 (IntKind.wrap .i64 (v5 + 1))))<|.g0 (.L3 E0 0)
def Zwq (E0 : Zb) (v7 : Int) : LT Zga Bool :=
.len Zap E0.Conts<|.br (decide (v7 < (E0.Conts.length : Int))) (.idx Zap E0.Conts v7 fun x3=>.lb 1008<|.call (Zd7 E0 x3.Control) fun x5=>.cs (!x5) (.k5 1<|.kg 1<|.b8 true<|.b5 true<|.b2 true<|.kn [0]<|.rt false)<|.k5 1<|.kg 1<|.cs (decide (x3.Stamp ≥ E0.NextStamp)) (.k5 2<|.b8 true<|.b2 true<|.kn [0]<|.rt false)<|.k3 2<|.call (Zdw x3.Until 1 2) fun x9=>.k2 2<|.cs (!x9) (.k5 3<|.b5 true<|.kn [0]<|.rt false)<|.k3 3<|.call (Za2z x3.Objects) fun x12=>.k2 3<|.cs (!x12) (.k5 4<|.kn [0]<|.rt false)<|.k3 4<|.call (Zoq x3.Mods) fun x15=>.k2 4<|.br (x15 == ([] : List UInt8)) (.rt false)<|.g0 (.L3 E0 (IntKind.wrap .i64 (v7 + 1))))<|.rt true
def Zadm (a0 : Zb) : LT Zga Bool :=
.lb 1001<|.len Zai a0.Stack<|.cs (decide ((a0.Stack.length : Int) > 64)) (.k5 0<|.b5 true<|.kn [0]<|.rt false)<|.k3 0<|.len Zab a0.Waiting<|.k2 0<|.cs (decide ((a0.Waiting.length : Int) > 64)) (.k5 1<|.kn [0]<|.rt false)<|.k3 1<|.len Zap a0.Conts<|.k2 1<|.br (decide ((a0.Conts.length : Int) > 64)) (.rt false)<|.go (.L0 a0 0) [.relab 1001 30000000]
def Zadn : LF Zga Bool := ⟨60, [.t 2], false, fun | .L0 .. => [1,1,0,1,4] | .L1 .. => [1,1,0,1,4,5,1,0,4,1,1,4] | .L2 .. => [1,1,1,0,1,4] | .L3 .. => [1,1,1,1,0,1,4],
 fun | .L0 E0 v3 => ⟨129, [(1, (.bptr 30000000 0)), (3, (wI v3))], [(30000000, .box (bx (Zo E0)))]⟩ | .L1 E0 v3 v4 => ⟨129, [(1, (.bptr 30000000 0)), (3, (wI v3)), (4, (wI v4))], [(30000000, .box (bx (Zo E0)))]⟩ | .L2 E0 v5 => ⟨129, [(1, (.bptr 30000000 0)), (5, (wI v5))], [(30000000, .box (bx (Zo E0)))]⟩ | .L3 E0 v7 => ⟨129, [(1, (.bptr 30000000 0)), (7, (wI v7))], [(30000000, .box (bx (Zo E0)))]⟩,
 fun r => [], fun r => (wB r), fun | .L0 E0 v3 => Zwn E0 v3 | .L1 E0 v3 v4 => Zwo E0 v3 v4 | .L2 E0 v5 => Zwp E0 v5 | .L3 E0 v7 => Zwq E0 v7⟩
def Z85 (a0 : Zb) : Option Bool := Zadn.run (Zadm a0)
theorem Zoy (a0 : Zb) {r : Bool} (h : Z85 a0 = some r) : Fn PR 60 [(wA (Zo a0))] (wB r) := Zadn.fn h
inductive Zwr where
 | L0 (v0 : (List Zn)) (E0 : Zb) (v5 : Int)
def Z86 (v0 : (List Zn)) (E0 : Zb) (v5 : Int) : LT Zwr Bool :=
.len (cI .i64) E0.Extra<|.br (decide (v5 < (E0.Extra.length : Int))) (.idx (cI .i64) E0.Extra v5 fun x3=>.call (Zd7 E0 x3) fun x5=>.br (!x5) (.rt false)<|.g0 (.L0 v0 E0 (IntKind.wrap .i64 (v5 + 1))))<|.cs (E0.Over == 1) (.k4 1<|.call (Zd7 E0 E0.Winner) fun x11=>.k2 1<|.cs (!x11) (.k5 2<|.kg 2<|.kn [0]<|.rt false)<|.k4 2<|.cs (E0.Over != 1) (.k3 3<|.kg 2<|.kg 3<|.kg 2<|.br (E0.Winner != (-1)) (.rt false)<|.call (Zk4 v0 E0) fun x16=>.cs x16 (.k2 5<|.call (Zoy E0) fun x19=>.kg 5<|.rt x19)<|.k3 5<|.rt false)<|.k3 3<|.kg 2<|.kg 3<|.kg 2<|.kn [0]<|.call (Zk4 v0 E0) fun x21=>.cs x21 (.k2 4<|.call (Zoy E0) fun x24=>.kg 4<|.rt x24)<|.k3 4<|.rt false)<|.k5 1<|.kg 1<|.b4 false<|.cs (E0.Over != 1) (.k3 2<|.kb false<|.kg 2<|.kb false<|.br (E0.Winner != (-1)) (.rt false)<|.call (Zk4 v0 E0) fun x28=>.cs x28 (.k2 4<|.call (Zoy E0) fun x31=>.kg 4<|.rt x31)<|.k3 4<|.rt false)<|.k3 2<|.kb false<|.kg 2<|.kb false<|.kn [0]<|.call (Zk4 v0 E0) fun x33=>.cs x33 (.k2 3<|.call (Zoy E0) fun x36=>.kg 3<|.rt x36)<|.k3 3<|.rt false
def Zau7 (a0 : (List Zn)) (a1 : Zb) : LT Zwr Bool :=
.lb 1003<|.call (Zdw a1.NextId 1 1000000) fun x1=>.cs (!x1) (.k5 0<|.b8 true<|.b5 true<|.b2 true<|.kn [0]<|.rt false)<|.k3 0<|.call (Zdw a1.NextStamp 1 1000000) fun x4=>.k2 0<|.cs (!x4) (.k5 1<|.b8 true<|.b2 true<|.kn [0]<|.rt false)<|.k3 1<|.call (Zdw a1.Turn 0 500) fun x7=>.k2 1<|.cs (!x7) (.k5 2<|.b5 true<|.kn [0]<|.rt false)<|.k3 2<|.call (Zdw a1.Step 0 10) fun x10=>.k2 2<|.cs (!x10) (.k5 3<|.kn [0]<|.rt false)<|.k3 3<|.len Zh a1.Objects<|.k2 3<|.br (decide ((a1.Objects.length : Int) > 2048)) (.rt false)<|.call (Zam3 a1) fun x15=>.cs (!x15) (.k5 5<|.kg 5<|.b16 true<|.b8 true<|.kn [0]<|.rt false)<|.k4 5<|.call (Zd7 a1 a1.Active) fun x18=>.k2 5<|.cs (!x18) (.k5 6<|.kg 6<|.b16 true<|.b2 true<|.kn [0]<|.rt false)<|.k4 6<|.call (Zd7 a1 a1.Priority) fun x21=>.k2 6<|.cs (!x21) (.k8 7<|.b8 true<|.b2 true<|.kn [0]<|.rt false)<|.k5 7<|.len Z2 a1.Players<|.kg 7<|.call (Zdw a1.Passes 0 (a1.Players.length : Int)) fun x25=>.k2 7<|.cs (!x25) (.k5 8<|.b5 true<|.kn [0]<|.rt false)<|.k3 8<|.len (cI .i64) a1.Extra<|.k2 8<|.cs (decide ((a1.Extra.length : Int) > 500)) (.k5 9<|.kn [0]<|.rt false)<|.k3 9<|.call (Zdw a1.Over 0 2) fun x30=>.k2 9<|.br (!x30) (.rt false)<|.go (.L0 a0 a1 0) [.relab 1003 30000000]
def Zau8 : LF Zwr Bool := ⟨26, [.t 4], false, fun | .L0 .. => [1,1,1,0,1,4],
 fun | .L0 v0 E0 v5 => ⟨114, [(0, (wL Z6 v0)), (3, (.bptr 30000000 0)), (5, (wI v5))], [(30000000, .box (bx (Zo E0)))]⟩,
 fun r => [], fun r => (wB r), fun | .L0 v0 E0 v5 => Z86 v0 E0 v5⟩
def Zau9 (a0 : (List Zn)) (a1 : Zb) : Option Bool := Zau8.run (Zau7 a0 a1)
theorem Za20 (a0 : (List Zn)) (a1 : Zb) {r : Bool} (h : Zau9 a0 a1 = some r) : Fn PR 26 [(wL Z6 a0), (wA (Zo a1))] (wB r) := Zau8.fn h
inductive Zl7 where
 | L0 (v0 : (List Zn)) (E0 : Zb) (v5 : Int)
def Zws (v0 : (List Zn)) (E0 : Zb) (v5 : Int) : LT Zl7 Bool :=
.len Z2 E0.Players<|.br (decide (v5 < (E0.Players.length : Int))) (.idx Z2 E0.Players v5 fun x3=>.len (cI .i64) x3.Library<|.ag Z2 x3 0<|.len (cI .i64) x3.Hand<|.ag Z2 x3 0<|.len (cI .i64) x3.Graveyard<|.br (decide ((IntKind.wrap .i64 ((IntKind.wrap .i64 ((x3.Library.length : Int) + (x3.Hand.length : Int))) + (x3.Graveyard.length : Int))) > 60)) (.rt false)<|.g0 (.L0 v0 E0 (IntKind.wrap .i64 (v5 + 1))))<|.call (Zauq v0) fun x15=>.cs (x15.2 == 0) (.k3 1<|.call (Za20 v0 E0) fun x18=>.kg 1<|.rt x18)<|.k4 1<|.rt false
def Zado (a0 : (List Zn)) (a1 : Zb) : LT Zl7 Bool :=
.lb 1003<|.len Z6 a0<|.cs (decide ((a0.length : Int) > 12)) (.k5 0<|.b16 true<|.b16 true<|.b3 true<|.kn [0]<|.rt false)<|.k3 0<|.len Z2 a1.Players<|.k2 0<|.cs (decide ((a1.Players.length : Int) > 4)) (.k5 1<|.b16 true<|.b8 true<|.b5 true<|.kb true<|.kn [0]<|.rt false)<|.k3 1<|.len Zh a1.Objects<|.k2 1<|.cs (decide ((a1.Objects.length : Int) > 60)) (.k5 2<|.b16 true<|.b8 true<|.kb true<|.kn [0]<|.rt false)<|.k3 2<|.len (cI .i64) a1.Battlefield<|.k2 2<|.cs (decide ((a1.Battlefield.length : Int) > 60)) (.k5 3<|.b16 true<|.b4 true<|.kn [0]<|.rt false)<|.k3 3<|.len (cI .i64) a1.Exile<|.k2 3<|.cs (decide ((a1.Exile.length : Int) > 60)) (.k5 4<|.b8 true<|.b5 true<|.b2 true<|.kn [0]<|.rt false)<|.k3 4<|.len Zai a1.Stack<|.k2 4<|.cs (decide ((a1.Stack.length : Int) > 8)) (.k5 5<|.b8 true<|.b2 true<|.kn [0]<|.rt false)<|.k3 5<|.len Zab a1.Waiting<|.k2 5<|.cs (decide ((a1.Waiting.length : Int) > 8)) (.k5 6<|.b5 true<|.kn [0]<|.rt false)<|.k3 6<|.len Zap a1.Conts<|.k2 6<|.cs (decide ((a1.Conts.length : Int) > 8)) (.k5 7<|.kn [0]<|.rt false)<|.k3 7<|.len (cI .i64) a1.Extra<|.k2 7<|.br (decide ((a1.Extra.length : Int) > 20)) (.rt false)<|.go (.L0 a0 a1 0) [.relab 1003 30000000]
def Zadp : LF Zl7 Bool := ⟨9, [.t 4], false, fun | .L0 .. => [1,1,0,1,4],
 fun | .L0 v0 E0 v5 => ⟨102, [(0, (wL Z6 v0)), (3, (.bptr 30000000 0)), (5, (wI v5))], [(30000000, .box (bx (Zo E0)))]⟩,
 fun r => [], fun r => (wB r), fun | .L0 v0 E0 v5 => Zws v0 E0 v5⟩
def Z87 (a0 : (List Zn)) (a1 : Zb) : Option Bool := Zadp.run (Zado a0 a1)
theorem Zava (a0 : (List Zn)) (a1 : Zb) {r : Bool} (h : Z87 a0 a1 = some r) : Fn PR 9 [(wL Z6 a0), (wA (Zo a1))] (wB r) := Zadp.fn h
def Z55 (a0 : Z3) : LT Empty Z3 :=
.lb 1001<|.lb 1002<|.br (a0.Kind == 2) (.rt (⟨0, 0, a0.Counter, (⟨0, 0, 0, 0, 0, 0, 0, ([] : List UInt8), 0, 0, (⟨0, 0⟩ : Zd), (⟨0, 0⟩ : Zd), (⟨0, 0⟩ : Zd)⟩ : Ze)⟩ : Z3))<|.br (a0.Kind == 0) (.rt (⟨0, 0, a0.Counter, a0.Filter⟩ : Z3))<|.br (a0.Kind == 4) (.rt (⟨0, a0.N, 0, a0.Filter⟩ : Z3))<|.rt (⟨0, a0.N, a0.Counter, a0.Filter⟩ : Z3)
def Z56 : LF Empty Z3 := .z 68 [.c 2 43 true 19] false (fun r => []) (fun r => (wA (Zah r)))
def Z0z (a0 : Z3) : Option Z3 := Z56.run (Z55 a0)
theorem Zam4 (a0 : Z3) {r : Z3} (h : Z0z a0 = some r) : Fn PR 68 [(wA (Zah a0))] (wA (Zah r)) := Z56.fn h
def Zwt (a0 : Int) (a1 : Int) : LT Empty Bool :=
.cs (decide (a0 ≥ 0)) (.k4 0<|.rt (decide (a0 ≤ a1)))<|.k4 0<|.rt false
def Zwu : LF Empty Bool := .z 110 [.t 4] false (fun r => []) (fun r => (wB r))
def Zqi (a0 : Int) (a1 : Int) : Option Bool := Zwu.run (Zwt a0 a1)
theorem Zbp (a0 : Int) (a1 : Int) {r : Bool} (h : Zqi a0 a1 = some r) : Fn PR 110 [(wI a0), (wI a1)] (wB r) := Zwu.fn h
inductive Zzb where
 | L0 (v36 : (List Int)) (v37 : Int) (v38 : Int)
def Zoz (v36 : (List Int)) (v37 : Int) (v38 : Int) : LT Zzb Bool :=
.br (decide (v38 < v37)) (.idx (cI .u8) v36 v38 fun x2=>.cs (decide (x2 < 97)) (.k3 1<|.b3 true<|.cs (decide (x2 < 48)) (.k2 2<|.kb true<|.kg 2<|.b4 true<|.br (x2 != 45) (.rt false)<|.g0 (.L0 v36 v37 (IntKind.wrap .i64 (v38 + 1))))<|.k2 2<|.kb true<|.kg 2<|.kb true<|.cs (decide (x2 > 57)) (.k3 3<|.br (x2 != 45) (.rt false)<|.g0 (.L0 v36 v37 (IntKind.wrap .i64 (v38 + 1))))<|.k3 3<|.kn [0]<|.g0 (.L0 v36 v37 (IntKind.wrap .i64 (v38 + 1))))<|.k3 1<|.cs (decide (x2 > 122)) (.k3 2<|.cs (decide (x2 < 48)) (.k2 3<|.kg 2<|.kg 3<|.kg 2<|.b3 true<|.br (x2 != 45) (.rt false)<|.g0 (.L0 v36 v37 (IntKind.wrap .i64 (v38 + 1))))<|.k2 3<|.kg 2<|.kg 3<|.kg 2<|.cs (decide (x2 > 57)) (.k3 4<|.br (x2 != 45) (.rt false)<|.g0 (.L0 v36 v37 (IntKind.wrap .i64 (v38 + 1))))<|.k3 4<|.kn [0]<|.g0 (.L0 v36 v37 (IntKind.wrap .i64 (v38 + 1))))<|.k5 2<|.b3 false<|.kn [0]<|.g0 (.L0 v36 v37 (IntKind.wrap .i64 (v38 + 1))))<|.rt true
def Zapc (a0 : (List UInt8)) : LT Zzb Bool :=
.lenS a0<|.cs ((a0.length : Int) == 0) (.k4 0<|.b16 true<|.b2 true<|.kn [0]<|.rt false)<|.k2 0<|.lenS a0<|.k2 0<|.cs (decide ((a0.length : Int) > 32)) (.k4 1<|.b8 true<|.b5 true<|.kb true<|.kn [0]<|.rt false)<|.k2 1<|.idxS a0 0 fun x4=>.k2 1<|.cs (decide ((UInt8.toNat x4 : Int) < 97)) (.k4 2<|.b8 true<|.b2 true<|.kn [0]<|.rt false)<|.k2 2<|.idxS a0 0 fun x7=>.k2 2<|.cs (decide ((UInt8.toNat x7 : Int) > 122)) (.k5 3<|.k2 3<|.b3 true<|.kn [0]<|.rt false)<|.k3 3<|.lenS a0<|.k2 3<|.idxS a0 (IntKind.wrap .i64 ((a0.length : Int) - 1)) fun x12=>.k2 3<|.cs ((UInt8.toNat x12 : Int) == 45) (.k3 4<|.kn [0]<|.rt false)<|.k2 4<|.call (Z7e a0 ([45, 45] : List UInt8)) fun x15=>.kg 4<|.br x15 (.rt false)<|.bys a0 fun x18=>.len (cI .u8) x18<|.g0 (.L0 x18 (x18.length : Int) 0)
def Zsu : LF Zzb Bool := ⟨155, [.t 2], false, fun | .L0 .. => [1,1,0,1,4],
 fun | .L0 v36 v37 v38 => ⟨61, [(36, (wL (cI .u8) v36)), (37, (wI v37)), (38, (wI v38))], []⟩,
 fun r => [], fun r => (wB r), fun | .L0 v36 v37 v38 => Zoz v36 v37 v38⟩
def Zam5 (a0 : (List UInt8)) : Option Bool := Zsu.run (Zapc a0)
theorem Zaz9 (a0 : (List UInt8)) {r : Bool} (h : Zam5 a0 = some r) : Fn PR 155 [(wS a0)] (wB r) := Zsu.fn h
def Zwv (a0 : Int) : LT Empty (List UInt8) :=
.idX Zf.str (A2.list (⟨([98, 97, 115, 105, 99] : List UInt8), ([117, 110, 105, 113, 117, 101] : List UInt8)⟩ : (A2 (List UInt8)))) a0 fun x1=>.rt x1
def Znb : LF Empty (List UInt8) := .z 157 [.t 2] false (fun r => []) (fun r => (wS r))
def Zqj (a0 : Int) : Option (List UInt8) := Znb.run (Zwv a0)
theorem Zab4 (a0 : Int) {r : (List UInt8)} (h : Zqj a0 = some r) : Fn PR 157 [(wI a0)] (wS r) := Znb.fn h
def Zzc (a0 : Int) : LT Empty (List UInt8) :=
.idX Zf.str (A6.list (⟨([99, 114, 101, 97, 116, 117, 114, 101] : List UInt8), ([105, 110, 115, 116, 97, 110, 116] : List UInt8), ([114, 105, 116, 117, 97, 108] : List UInt8), ([114, 101, 108, 105, 99] : List UInt8), ([99, 104, 97, 114, 109] : List UInt8), ([108, 97, 110, 100] : List UInt8)⟩ : (A6 (List UInt8)))) a0 fun x1=>.rt x1
def Zo0 : LF Empty (List UInt8) := .z 158 [.t 2] false (fun r => []) (fun r => (wS r))
def Ztk (a0 : Int) : Option (List UInt8) := Zo0.run (Zzc a0)
theorem Zagg (a0 : Int) {r : (List UInt8)} (h : Ztk a0 = some r) : Fn PR 158 [(wI a0)] (wS r) := Zo0.fn h
inductive Zfu where
 | L0 (v0 : (List UInt8)) (v8 : Int) (v9 : Int)
def Zdx (v0 : (List UInt8)) (v8 : Int) (v9 : Int) : LT Zfu Int :=
.br (decide (v9 < v8)) (.call (Zab4 v9) fun x2=>.br (!(x2 == v0)) (.g0 (.L0 v0 v8 (IntKind.wrap .i64 (v9 + 1))))<|.ok (¬ v9 < 0)<|.rt (Z7z .i64 1 v9))<|.rt 0
def Zi5 (a0 : (List UInt8)) (a1 : Int) : LT Zfu Int :=
.g0 (.L0 a0 a1 0)
def Zfv : LF Zfu Int := ⟨156, [.t 6], false, fun | .L0 .. => [1,6,1,0,1,4],
 fun | .L0 v0 v8 v9 => ⟨20, [(0, (wS v0)), (2, (.fn 157 [])), (8, (wI v8)), (9, (wI v9))], []⟩,
 fun r => [], fun r => (wI r), fun | .L0 v0 v8 v9 => Zdx v0 v8 v9⟩
def Zgr (a0 : (List UInt8)) (a1 : Int) : Option Int := Zfv.run (Zi5 a0 a1)
theorem Zsv (a0 : (List UInt8)) (a1 : Int) {r : Int} (h : Zgr a0 a1 = some r) : Fn PR 156 [(wS a0), (wI a1), (.fn 157 [])] (wI r) := Zfv.fn h
inductive Zf4 where
 | L0 (v0 : (List UInt8)) (v8 : Int) (v9 : Int)
def Zd8 (v0 : (List UInt8)) (v8 : Int) (v9 : Int) : LT Zf4 Int :=
.br (decide (v9 < v8)) (.call (Zagg v9) fun x2=>.br (!(x2 == v0)) (.g0 (.L0 v0 v8 (IntKind.wrap .i64 (v9 + 1))))<|.ok (¬ v9 < 0)<|.rt (Z7z .i64 1 v9))<|.rt 0
def Zj0 (a0 : (List UInt8)) (a1 : Int) : LT Zf4 Int :=
.g0 (.L0 a0 a1 0)
def Zf5 : LF Zf4 Int := ⟨156, [.t 6], false, fun | .L0 .. => [1,6,1,0,1,4],
 fun | .L0 v0 v8 v9 => ⟨20, [(0, (wS v0)), (2, (.fn 158 [])), (8, (wI v8)), (9, (wI v9))], []⟩,
 fun r => [], fun r => (wI r), fun | .L0 v0 v8 v9 => Zd8 v0 v8 v9⟩
def Zhb (a0 : (List UInt8)) (a1 : Int) : Option Int := Zf5.run (Zj0 a0 a1)
theorem Ztl (a0 : (List UInt8)) (a1 : Int) {r : Int} (h : Zhb a0 a1 = some r) : Fn PR 156 [(wS a0), (wI a1), (.fn 158 [])] (wI r) := Zf5.fn h
def Z88 (a0 : (List UInt8)) : LT Empty Bool :=
.call (Zaz9 a0) fun x1=>.cs x1 (.k2 0<|.call (Zsv a0 2) fun x4=>.k2 0<|.cs (x4 == 0) (.k2 1<|.call (Ztl a0 6) fun x7=>.k2 1<|.rt (x7 == 0))<|.k4 1<|.rt false)<|.k4 0<|.b4 false<|.rt false
def Z89 : LF Empty Bool := .z 111 [.t 2] false (fun r => []) (fun r => (wB r))
def Z4p (a0 : (List UInt8)) : Option Bool := Z89.run (Z88 a0)
theorem Zaqc (a0 : (List UInt8)) {r : Bool} (h : Z4p a0 = some r) : Fn PR 111 [(wS a0)] (wB r) := Z89.fn h
def Zww (a0 : Zd) : LT Empty Bool :=
.lb 1001<|.call (Zbp a0.Kind 3) fun x1=>.cs x1 (.k3 0<|.call (Zbp a0.N 1000000) fun x4=>.kg 0<|.cs x4 (.k4 1<|.cs (a0.Kind != 0) (.k3 2<|.kg 1<|.kg 2<|.kg 1<|.rt true)<|.k3 2<|.kg 1<|.kg 2<|.kg 1<|.rt (a0.N == 0))<|.k5 1<|.kg 1<|.rt false)<|.k4 0<|.b5 false<|.kb false<|.rt false
def Zwx : LF Empty Bool := .z 112 [.t 2] false (fun r => []) (fun r => (wB r))
def Zqk (a0 : Zd) : Option Bool := Zwx.run (Zww a0)
theorem Zle (a0 : Zd) {r : Bool} (h : Zqk a0 = some r) : Fn PR 112 [(wA (Zck a0))] (wB r) := Zwx.fn h
inductive Zrm where
 | L0 (E0 : Ze)
def Zkj (E0 : Ze) : LT Zrm Bool :=
.call (Zle E0.Power) fun x1=>.cs x1 (.k3 0<|.call (Zle E0.Tough) fun x4=>.kg 0<|.cs x4 (.k3 1<|.call (Zle E0.Value) fun x7=>.kg 1<|.rt x7)<|.k4 1<|.rt false)<|.k4 0<|.b4 false<|.rt false
def Zadq (a0 : Ze) : LT Zrm Bool :=
.lb 1001<|.call (Zbp a0.Zone 5) fun x1=>.cs (!x1) (.k5 0<|.b8 true<|.b5 true<|.b2 true<|.kn [0]<|.rt false)<|.k3 0<|.call (Zbp a0.Who 2) fun x4=>.k2 0<|.cs (!x4) (.k5 1<|.b8 true<|.b2 true<|.kn [0]<|.rt false)<|.k3 1<|.call (Zbp a0.Self 2) fun x7=>.k2 1<|.cs (!x7) (.k5 2<|.b5 true<|.kn [0]<|.rt false)<|.k3 2<|.call (Zbp a0.Tap 2) fun x10=>.k2 2<|.cs (!x10) (.k5 3<|.kn [0]<|.rt false)<|.k3 3<|.call (Zbp a0.Keys 131071) fun x13=>.k2 3<|.br (!x13) (.rt false)<|.call (Zbp a0.Types 63) fun x16=>.cs (!x16) (.k5 5<|.b5 true<|.b2 true<|.kn [0]<|.rt false)<|.k3 5<|.call (Zbp a0.NotTypes 63) fun x19=>.k2 5<|.cs (!x19) (.k5 6<|.k2 6<|.kn [0]<|.rt false)<|.k5 6<|.k2 6<|.br ((Zba .and .i64 a0.Types a0.NotTypes) != 0) (.rt false)<|.call (Zbp a0.Colors 31) fun x23=>.cs (!x23) (.k5 8<|.b5 true<|.b2 true<|.kn [0]<|.rt false)<|.k3 8<|.call (Zbp a0.NotColors 31) fun x26=>.k2 8<|.cs (!x26) (.k5 9<|.k2 9<|.kn [0]<|.rt false)<|.k5 9<|.k2 9<|.br ((Zba .and .i64 a0.Colors a0.NotColors) != 0) (.rt false)<|.cs (!(a0.Sub == ([] : List UInt8))) (.k3 11<|.call (Zaqc a0.Sub) fun x31=>.k2 11<|.br (!x31) (.rt false)<|.jn 0 (.L0 a0) [.relab 1001 30000000] (Zkj a0))<|.k5 11<|.kn [0]<|.jn 0 (.L0 a0) [.relab 1001 30000000] (Zkj a0)
def Zl8 : LF Zrm Bool := ⟨69, [.t 2], false, fun | .L0 .. => [1,1,1,1,1],
 fun | .L0 E0 => ⟨89, [(1, (.bptr 30000000 0))], [(30000000, .box (bx (Zm E0)))]⟩,
 fun r => [], fun r => (wB r), fun | .L0 E0 => Zkj E0⟩
def Zzd (a0 : Ze) : Option Bool := Zl8.run (Zadq a0)
theorem Z9a (a0 : Ze) {r : Bool} (h : Zzd a0 = some r) : Fn PR 69 [(wA (Zm a0))] (wB r) := Zl8.fn h
def Z2p (a0 : Int) : LT Empty (List UInt8) :=
.cs (decide (a0 < 0)) (.k3 0<|.kn [0]<|.rt ([] : List UInt8))<|.k3 0<|.br (decide (a0 ≥ 3)) (.rt ([] : List UInt8))<|.idV Zf.str (A3.list (⟨[112, 108, 117, 115], [109, 105, 110, 117, 115], [99, 104, 97, 114, 103, 101]⟩ : A3 (List UInt8))) a0 [] fun x3=>.ldC Zf.str 11 x3 0<|.rt x3
def Z2q : LF Empty (List UInt8) := .z 70 [.t 2] false (fun r => []) (fun r => (wS r))
def Zwy (a0 : Int) : Option (List UInt8) := Z2q.run (Z2p a0)
theorem Zakg (a0 : Int) {r : (List UInt8)} (h : Zwy a0 = some r) : Fn PR 70 [(wI a0)] (wS r) := Z2q.fn h
end
end Go.PW
