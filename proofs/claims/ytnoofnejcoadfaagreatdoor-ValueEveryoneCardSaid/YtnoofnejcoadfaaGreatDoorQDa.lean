import Derived.Test.YtnoofnejcoadfaaGreatDoorQD
set_option linter.all false
set_option maxRecDepth 100000
namespace Go.PW
open Go.RowKit
noncomputable section
def Z1b (a0 : Int) : LT Empty Bool :=
.cs (decide (a0 ≥ 97)) (.k3 0<|.rt (decide (a0 ≤ 122)))<|.k3 0<|.rt false
def Zaer : LF Empty Bool := .z 131 [.t 2] false (fun r => []) (fun r => (wB r))
def Zw5 (a0 : Int) : Option Bool := Zaer.run (Z1b a0)
theorem Z90 (a0 : Int) {r : Bool} (h : Zw5 a0 = some r) : Fn PR 131 [(.t (.int .u8 a0))] (wB r) := Zaer.fn h
inductive Zhp where
 | L0 (v0 : (List UInt8)) (v3 : Int)
 | L1 (v0 : (List UInt8)) (v3 : Int)
def Zgr (v0 : (List UInt8)) (v3 : Int) : LT Zhp Bool :=
.cs (decide (v3 > 0)) (.k3 0<|.idxS v0 v3 fun x2=>.k2 0<|.cs ((UInt8.toNat x2 : Int) == 45) (.k4 1<|.idxS v0 (IntKind.wrap .i64 (v3 - 1)) fun x7=>.k2 1<|.br ((UInt8.toNat x7 : Int) == 45) (.rt false)<|.g0 (.L0 v0 (IntKind.wrap .i64 (v3 + 1))))<|.k5 1<|.kg 1<|.kn [0]<|.g0 (.L0 v0 (IntKind.wrap .i64 (v3 + 1))))<|.k5 0<|.b5 false<|.kb false<|.kn [0]<|.g0 (.L0 v0 (IntKind.wrap .i64 (v3 + 1)))
def Zix (v0 : (List UInt8)) (v3 : Int) : LT Zhp Bool :=
.lenS v0<|.br (decide (v3 < (v0.length : Int))) (.idxS v0 v3 fun x3=>.call (Z90 (UInt8.toNat x3 : Int)) fun x5=>.cs (!x5) (.k3 1<|.idxS v0 v3 fun x8=>.k2 1<|.cs (decide ((UInt8.toNat x8 : Int) < 48)) (.k4 2<|.kg 1<|.kg 2<|.kg 1<|.b3 true<|.idxS v0 v3 fun x11=>.b2 true<|.br ((UInt8.toNat x11 : Int) != 45) (.rt false)<|.j0 (.L1 v0 v3) (Zgr v0 v3))<|.k3 2<|.idxS v0 v3 fun x14=>.kg 2<|.kg 1<|.kg 2<|.kg 1<|.cs (decide ((UInt8.toNat x14 : Int) > 57)) (.k3 3<|.idxS v0 v3 fun x17=>.k2 3<|.br ((UInt8.toNat x17 : Int) != 45) (.rt false)<|.j0 (.L1 v0 v3) (Zgr v0 v3))<|.k5 3<|.kn [0]<|.j0 (.L1 v0 v3) (Zgr v0 v3))<|.k5 1<|.k2 1<|.b5 false<|.kn [0]<|.j0 (.L1 v0 v3) (Zgr v0 v3))<|.rt true
def Z7e (a0 : (List UInt8)) : LT Zhp Bool :=
.lenS a0<|.cs (decide ((a0.length : Int) < 1)) (.k4 0<|.b8 true<|.b4 true<|.kn [0]<|.rt false)<|.k2 0<|.lenS a0<|.k2 0<|.cs (decide ((a0.length : Int) > 32)) (.k5 1<|.b5 true<|.b2 true<|.kn [0]<|.rt false)<|.k2 1<|.idxS a0 0 fun x4=>.kg 1<|.call (Z90 (UInt8.toNat x4 : Int)) fun x6=>.k2 1<|.cs (!x6) (.k5 2<|.k2 2<|.kn [0]<|.rt false)<|.k3 2<|.lenS a0<|.k2 2<|.idxS a0 (IntKind.wrap .i64 ((a0.length : Int) - 1)) fun x11=>.k2 2<|.br ((UInt8.toNat x11 : Int) == 45) (.rt false)<|.g0 (.L0 a0 0)
def Zrw : LF Zhp Bool := ⟨80, [.t 2], false, fun | .L0 .. => [1,1,0,1,4] | .L1 .. => [1,1,0,1,4,5,1,0,4,1],
 fun | .L0 v0 v3 => ⟨70, [(0, (wS v0)), (3, (wI v3))], []⟩ | .L1 v0 v3 => ⟨70, [(0, (wS v0)), (3, (wI v3))], []⟩,
 fun r => [], fun r => (wB r), fun | .L0 v0 v3 => Zix v0 v3 | .L1 v0 v3 => Zgr v0 v3⟩
def Z1c (a0 : (List UInt8)) : Option Bool := Zrw.run (Z7e a0)
theorem Z1d (a0 : (List UInt8)) {r : Bool} (h : Z1c a0 = some r) : Fn PR 80 [(wS a0)] (wB r) := Zrw.fn h
inductive Zhq where
 | L0 (E0 : Zl) (v3 : Int)
def Ziy (E0 : Zl) (v3 : Int) : LT Zhq Bool :=
.br (decide (v3 < 5)) (.idA (Ze.int .i64) (A5.list E0.Color) v3 (bx (Zah E0)) 2 7 fun x2=>.ldC (Ze.int .i64) 29 x2 0<|.cs (decide (x2 < 0)) (.k5 1<|.kg 1<|.kn [0]<|.rt false)<|.k3 1<|.idA (Ze.int .i64) (A5.list E0.Color) v3 (bx (Zah E0)) 2 7 fun x5=>.kg 1<|.ldC (Ze.int .i64) 35 x5 1<|.k2 1<|.br (decide (x5 > 9)) (.rt false)<|.g0 (.L0 E0 (IntKind.wrap .i64 (v3 + 1))))<|.rt true
def Z7f (a0 : Zl) : LT Zhq Bool :=
.lb 1001<|.cs (decide (a0.Generic < 0)) (.k4 0<|.b8 true<|.kn [0]<|.rt false)<|.k4 0<|.cs (decide (a0.Generic > 99)) (.k4 1<|.b4 true<|.kn [0]<|.rt false)<|.k4 1<|.cs (decide (a0.X < 0)) (.k4 2<|.kn [0]<|.rt false)<|.k4 2<|.br (decide (a0.X > 2)) (.rt false)<|.go (.L0 a0 0) [.relab 1001 30000000]
def Zgw : LF Zhq Bool := ⟨84, [.t 2], false, fun | .L0 .. => [1,1,0,1,4],
 fun | .L0 E0 v3 => ⟨38, [(1, (.bptr 30000000 0)), (3, (wI v3))], [(30000000, .box (bx (Zah E0)))]⟩,
 fun r => [], fun r => (wB r), fun | .L0 E0 v3 => Ziy E0 v3⟩
def Zw6 (a0 : Zl) : Option Bool := Zgw.run (Z7f a0)
theorem Zuf (a0 : Zl) {r : Bool} (h : Zw6 a0 = some r) : Fn PR 84 [(wA (Zah a0))] (wB r) := Zgw.fn h
def Zrx : LT Empty (List (List UInt8)) :=
.lb 1001<|.ret [([98, 97, 115, 105, 99] : List UInt8), ([117, 110, 105, 113, 117, 101] : List UInt8)] [.relab 1001 5000]
def Zry : LF Empty (List (List UInt8)) := .z 82 [.t 0] true (fun r => [(5000, wR cS 1 r)]) (fun r => (wO cS 5000 r))
def Zg5 : Option (List (List UInt8)) := Zry.run (Zrx)
theorem Z1e {r : (List (List UInt8))} (h : Zg5 = some r) : FnG PR 82 [] [] [(5000, wR cS 1 r)] (wO cS 5000 r) := Zry.fn h
theorem Z4b {r : (List (List UInt8))} (h : Zg5 = some r) : Fn PR 82 [] (wL cS r) :=
 FnG.frozen (C := LT.RL cS r ∧ True) (Z1e h) ⟨rfl, trivial⟩ (by kernel_rfl)
inductive Zj8 where
 | L0 (v0 : (List (List UInt8))) (v1 : (List UInt8)) (v5 : Int)
def Zfz (v0 : (List (List UInt8))) (v1 : (List UInt8)) (v5 : Int) : LT Zj8 Int :=
.len cS v0<|.br (decide (v5 < (v0.length : Int))) (.idx cS v0 v5 fun x3=>.br (x3 == v1) (.rt v5)<|.g0 (.L0 v0 v1 (IntKind.wrap .i64 (v5 + 1))))<|.rt (-1)
def Zvo (a0 : (List (List UInt8))) (a1 : (List UInt8)) : LT Zj8 Int :=
.g0 (.L0 a0 a1 0)
def Zvp : LF Zj8 Int := ⟨81, [.t 4], false, fun | .L0 .. => [1,0,1,4],
 fun | .L0 v0 v1 v5 => ⟨19, [(0, (wL cS v0)), (1, (wS v1)), (5, (wI v5))], []⟩,
 fun r => [], fun r => (wI r), fun | .L0 v0 v1 v5 => Zfz v0 v1 v5⟩
def Zo0 (a0 : (List (List UInt8))) (a1 : (List UInt8)) : Option Int := Zvp.run (Zvo a0 a1)
theorem Zrz (a0 : (List (List UInt8))) (a1 : (List UInt8)) {r : Int} (h : Zo0 a0 a1 = some r) : Fn PR 81 [(wL cS a0), (wS a1)] (wI r) := Zvp.fn h
def Zug : LT Empty (List (List UInt8)) :=
.lb 1001<|.ret [([99, 114, 101, 97, 116, 117, 114, 101] : List UInt8), ([105, 110, 115, 116, 97, 110, 116] : List UInt8), ([114, 105, 116, 117, 97, 108] : List UInt8), ([114, 101, 108, 105, 99] : List UInt8), ([99, 104, 97, 114, 109] : List UInt8), ([108, 97, 110, 100] : List UInt8)] [.relab 1001 5000]
def Zuh : LF Empty (List (List UInt8)) := .z 83 [.t 0] true (fun r => [(5000, wR cS 1 r)]) (fun r => (wO cS 5000 r))
def Zhy : Option (List (List UInt8)) := Zuh.run (Zug)
theorem Z4c {r : (List (List UInt8))} (h : Zhy = some r) : FnG PR 83 [] [] [(5000, wR cS 1 r)] (wO cS 5000 r) := Zuh.fn h
theorem Zr0 {r : (List (List UInt8))} (h : Zhy = some r) : Fn PR 83 [] (wL cS r) :=
 FnG.frozen (C := LT.RL cS r ∧ True) (Z4c h) ⟨rfl, trivial⟩ (by kernel_rfl)
def Zvq (a0 : (List UInt8)) : LT Empty Bool :=
.call (Z1d a0) fun x1=>.cs x1 (.kg 0<|.call (Z4b) fun x4=>.k2 0<|.call (Zrz x4 a0) fun x6=>.k2 0<|.cs (decide (x6 < 0)) (.kg 1<|.call (Zr0) fun x9=>.k2 1<|.call (Zrz x9 a0) fun x11=>.k2 1<|.rt (decide (x11 < 0)))<|.k5 1<|.rt false)<|.k5 0<|.b5 false<|.rt false
def Z47 : LF Empty Bool := .z 49 [.t 2] false (fun r => []) (fun r => (wB r))
def Zo1 (a0 : (List UInt8)) : Option Bool := Z47.run (Zvq a0)
theorem Zr1 (a0 : (List UInt8)) {r : Bool} (h : Zo1 a0 = some r) : Fn PR 49 [(wS a0)] (wB r) := Z47.fn h
inductive Zo2 where
 | L0 (v0 : Int) (v1 : Int) (v5 : Int)
def Zyw (v0 : Int) (v1 : Int) (v5 : Int) : LT Zo2 Bool :=
.br (decide (v5 < v1)) (.dc ((2 : Int) ≠ 0) rfl<|.g0 (.L0 (Zjw .i64 v0 2) v1 (IntKind.wrap .i64 (v5 + 1))))<|.dc ((2 : Int) ≠ 0) rfl<|.rt ((Int.tmod v0 2) == 1)
def Zaes (a0 : Int) (a1 : Int) : LT Zo2 Bool :=
.g0 (.L0 a0 a1 0)
def Zaet : LF Zo2 Bool := ⟨132, [.t 4], false, fun | .L0 .. => [1,0,1,4],
 fun | .L0 v0 v1 v5 => ⟨16, [(0, (wI v0)), (1, (wI v1)), (5, (wI v5))], []⟩,
 fun r => [], fun r => (wB r), fun | .L0 v0 v1 v5 => Zyw v0 v1 v5⟩
def Zac6 (a0 : Int) (a1 : Int) : Option Bool := Zaet.run (Zaes a0 a1)
theorem Zyx (a0 : Int) (a1 : Int) {r : Bool} (h : Zac6 a0 a1 = some r) : Fn PR 132 [(wI a0), (wI a1)] (wB r) := Zaet.fn h
inductive Zr2 where
 | L0 (E0 : Z7) (v3 : Int)
def Z1f (E0 : Z7) (v3 : Int) : LT Zr2 Bool :=
.len cS E0.Subs<|.br (decide (v3 < (E0.Subs.length : Int))) (.idx cS E0.Subs v3 fun x3=>.call (Zr1 x3) fun x5=>.cs (!x5) (.k5 1<|.kn [0]<|.rt false)<|.k3 1<|.cs (decide (v3 > 0)) (.k5 2<|.idx cS E0.Subs (IntKind.wrap .i64 (v3 - 1)) fun x11=>.k5 2<|.ag cS x3 0<|.k2 2<|.kg 1<|.kg 2<|.kg 1<|.br (!(Op.bytesLess x11 x3)) (.rt false)<|.g0 (.L0 E0 (IntKind.wrap .i64 (v3 + 1))))<|.k8 2<|.k4 2<|.kg 1<|.kg 2<|.kg 1<|.kn [0]<|.g0 (.L0 E0 (IntKind.wrap .i64 (v3 + 1))))<|.cs (E0.Types == 2) (.k4 1<|.b5 true<|.b2 true<|.rt true)<|.k4 1<|.cs (E0.Types == 4) (.k5 2<|.k2 2<|.rt true)<|.k3 2<|.call (Zyx E0.Types 1) fun x20=>.k2 2<|.cs (!x20) (.k3 3<|.call (Zyx E0.Types 2) fun x23=>.kg 3<|.kg 2<|.kg 3<|.kg 2<|.rt (!x23))<|.k4 3<|.kg 2<|.kg 3<|.kg 2<|.rt false
def Zaie (a0 : Z7) : LT Zr2 Bool :=
.lb 1001<|.cs (decide (a0.Super < 0)) (.k4 0<|.b8 true<|.b5 true<|.kn [0]<|.rt false)<|.k4 0<|.cs (decide (a0.Super > 3)) (.k4 1<|.b8 true<|.kb true<|.kn [0]<|.rt false)<|.k4 1<|.cs (decide (a0.Types < 1)) (.k4 2<|.b5 true<|.kn [0]<|.rt false)<|.k4 2<|.cs (decide (a0.Types > 63)) (.k5 3<|.kn [0]<|.rt false)<|.k3 3<|.len cS a0.Subs<|.k2 3<|.br (decide ((a0.Subs.length : Int) > 4)) (.rt false)<|.go (.L0 a0 0) [.relab 1001 30000000]
def Zaif : LF Zr2 Bool := ⟨85, [.t 2], false, fun | .L0 .. => [1,1,0,1,4],
 fun | .L0 E0 v3 => ⟨80, [(1, (.bptr 30000000 0)), (3, (wI v3))], [(30000000, .box (bx (Zff E0)))]⟩,
 fun r => [], fun r => (wB r), fun | .L0 E0 v3 => Z1f E0 v3⟩
def Zaig (a0 : Z7) : Option Bool := Zaif.run (Zaie a0)
theorem Zaqi (a0 : Z7) {r : Bool} (h : Zaig a0 = some r) : Fn PR 85 [(wA (Zff a0))] (wB r) := Zaif.fn h
def Zaih (a0 : Int) : LT Empty Bool :=
.cs (decide (a0 ≥ 0)) (.k3 0<|.rt (decide (a0 ≤ 131071)))<|.k3 0<|.rt false
def Zaii : LF Empty Bool := .z 86 [.t 2] false (fun r => []) (fun r => (wB r))
def Zaij (a0 : Int) : Option Bool := Zaii.run (Zaih a0)
theorem Zaeu (a0 : Int) {r : Bool} (h : Zaij a0 = some r) : Fn PR 86 [(wI a0)] (wB r) := Zaii.fn h
def Zw7 (a0 : Zq) : LT Empty Bool :=
.lb 1001<|.rt ((Zbf .and .i64 a0.Line.Types 1) != 0)
def Zw8 : LF Empty Bool := .z 87 [.t 2] false (fun r => []) (fun r => (wB r))
def Zr3 (a0 : Zq) : Option Bool := Zw8.run (Zw7 a0)
theorem Z91 (a0 : Zq) {r : Bool} (h : Zr3 a0 = some r) : Fn PR 87 [(wA (Z3 a0))] (wB r) := Zw8.fn h
inductive Zj9 where
 | L0 (v0 : Int) (v1 : Int) (v7 : Int)
def Zf0 (v0 : Int) (v1 : Int) (v7 : Int) : LT Zj9 Bool :=
.br (decide (v7 < 6)) (.dc ((2 : Int) ≠ 0) rfl<|.cs ((Int.tmod v0 2) == 1) (.k2 1<|.dc ((2 : Int) ≠ 0) rfl<|.k2 1<|.br ((Int.tmod v1 2) == 1) (.rt false)<|.dc ((2 : Int) ≠ 0) rfl<|.dc ((2 : Int) ≠ 0) rfl<|.g0 (.L0 (Zjw .i64 v0 2) (Zjw .i64 v1 2) (IntKind.wrap .i64 (v7 + 1))))<|.k4 1<|.kn [0]<|.dc ((2 : Int) ≠ 0) rfl<|.dc ((2 : Int) ≠ 0) rfl<|.g0 (.L0 (Zjw .i64 v0 2) (Zjw .i64 v1 2) (IntKind.wrap .i64 (v7 + 1))))<|.rt true
def Zvr (a0 : Int) (a1 : Int) (a2 : Int) : LT Zj9 Bool :=
.cs (decide (a0 < 0)) (.k4 0<|.b5 true<|.b2 true<|.kn [0]<|.rt false)<|.k4 0<|.cs (decide (a0 > a2)) (.k3 1<|.b4 true<|.kn [0]<|.rt false)<|.k3 1<|.cs (decide (a1 < 0)) (.k4 2<|.kn [0]<|.rt false)<|.k4 2<|.br (decide (a1 > a2)) (.rt false)<|.g0 (.L0 a0 a1 0)
def Zka : LF Zj9 Bool := ⟨48, [.t 6], false, fun | .L0 .. => [1,1,0,1,4],
 fun | .L0 v0 v1 v7 => ⟨40, [(0, (wI v0)), (1, (wI v1)), (7, (wI v7))], []⟩,
 fun r => [], fun r => (wB r), fun | .L0 v0 v1 v7 => Zf0 v0 v1 v7⟩
def Zo3 (a0 : Int) (a1 : Int) (a2 : Int) : Option Bool := Zka.run (Zvr a0 a1 a2)
theorem Z1g (a0 : Int) (a1 : Int) (a2 : Int) {r : Bool} (h : Zo3 a0 a1 a2 = some r) : Fn PR 48 [(wI a0), (wI a1), (wI a2)] (wB r) := Zka.fn h
def Zvs (a0 : Za) : LT Empty Bool :=
.lb 1001<|.cs (decide (a0.Kind < 0)) (.k4 0<|.b8 true<|.kn [0]<|.rt false)<|.k4 0<|.cs (decide (a0.Kind > 3)) (.k4 1<|.b4 true<|.kn [0]<|.rt false)<|.k4 1<|.cs (decide (a0.N < 0)) (.k4 2<|.kn [0]<|.rt false)<|.k4 2<|.br (decide (a0.N > 1000000)) (.rt false)<|.cs (a0.Kind != 0) (.k4 4<|.rt true)<|.k4 4<|.rt (a0.N == 0)
def Z48 : LF Empty Bool := .z 50 [.t 2] false (fun r => []) (fun r => (wB r))
def Zo4 (a0 : Za) : Option Bool := Z48.run (Zvs a0)
theorem Zr4 (a0 : Za) {r : Bool} (h : Zo4 a0 = some r) : Fn PR 50 [(wA (Zb8 a0))] (wB r) := Z48.fn h
inductive Zr5 where
 | L0 (E0 : Zc)
def Ziz (E0 : Zc) : LT Zr5 Bool :=
.call (Zr4 E0.Power) fun x1=>.cs x1 (.k3 0<|.call (Zr4 E0.Tough) fun x4=>.kg 0<|.cs x4 (.k3 1<|.call (Zr4 E0.Value) fun x7=>.kg 1<|.rt x7)<|.k4 1<|.rt false)<|.k4 0<|.b4 false<|.rt false
def Z7g (a0 : Zc) : LT Zr5 Bool :=
.lb 1001<|.cs (decide (a0.Zone < 0)) (.k4 0<|.b16 true<|.b8 true<|.kn [0]<|.rt false)<|.k4 0<|.cs (decide (a0.Zone > 5)) (.k4 1<|.b16 true<|.b4 true<|.kn [0]<|.rt false)<|.k4 1<|.cs (decide (a0.Who < 0)) (.k4 2<|.b16 true<|.kn [0]<|.rt false)<|.k4 2<|.cs (decide (a0.Who > 2)) (.k4 3<|.b8 true<|.b4 true<|.kn [0]<|.rt false)<|.k4 3<|.cs (decide (a0.Self < 0)) (.k4 4<|.b8 true<|.kn [0]<|.rt false)<|.k4 4<|.cs (decide (a0.Self > 2)) (.k4 5<|.b4 true<|.kn [0]<|.rt false)<|.k4 5<|.cs (decide (a0.Tap < 0)) (.k4 6<|.kn [0]<|.rt false)<|.k4 6<|.br (decide (a0.Tap > 2)) (.rt false)<|.call (Z1g a0.Types a0.NotTypes 63) fun x9=>.cs (!x9) (.k5 8<|.k2 8<|.kn [0]<|.rt false)<|.k5 8<|.call (Z1g a0.Colors a0.NotColors 31) fun x12=>.k2 8<|.br (!x12) (.rt false)<|.cs (!(a0.Sub == ([] : List UInt8))) (.k3 10<|.call (Zr1 a0.Sub) fun x16=>.k2 10<|.cs (!x16) (.k4 11<|.b4 true<|.kn [0]<|.rt false)<|.k4 11<|.cs (decide (a0.Keys < 0)) (.k4 12<|.kn [0]<|.rt false)<|.k4 12<|.br (decide (a0.Keys > 131071)) (.rt false)<|.jn 0 (.L0 a0) [.relab 1001 30000000] (Ziz a0))<|.k5 10<|.b4 false<|.cs (decide (a0.Keys < 0)) (.k4 11<|.kn [0]<|.rt false)<|.k4 11<|.br (decide (a0.Keys > 131071)) (.rt false)<|.jn 0 (.L0 a0) [.relab 1001 30000000] (Ziz a0)
def Z7h : LF Zr5 Bool := ⟨21, [.t 2], false, fun | .L0 .. => [1,1,1,1],
 fun | .L0 E0 => ⟨87, [(1, (.bptr 30000000 0))], [(30000000, .box (bx (Zg E0)))]⟩,
 fun r => [], fun r => (wB r), fun | .L0 E0 => Ziz E0⟩
def Zw9 (a0 : Zc) : Option Bool := Z7h.run (Z7g a0)
theorem Zex (a0 : Zc) {r : Bool} (h : Zw9 a0 = some r) : Fn PR 21 [(wA (Zg a0))] (wB r) := Z7h.fn h
inductive Zjk where
 | L0 (E0 : Zh) (E1 : Zh) (v7 : Int) (v8 : Bool)
 | L1 (E0 : Zh) (E1 : Zh) (v7 : Int) (v16 : Bool)
def Zkb (E0 : Zh) (E1 : Zh) (v7 : Int) (v16 : Bool) : LT Zjk Zh :=
.br v16 (.rt (⟨E0.Kind, E0.N, E0.M, ([] : List UInt8), E0.Filter⟩ : Zh))<|.br (v7 == 11) (.rt (⟨E0.Kind, E0.N, E0.M, E0.Sub, (⟨0, 0, 0, 0, 0, 0, 0, ([] : List UInt8), 0, 0, (⟨0, 0⟩ : Za), (⟨0, 0⟩ : Za), (⟨0, 0⟩ : Za)⟩ : Zc)⟩ : Zh))<|.br (v7 == 12) (.kn [3]<|.rt (⟨E0.Kind, 0, 0, E0.Sub, E0.Filter⟩ : Zh))<|.br (v7 == 13) (.rt (⟨E0.Kind, 0, 0, E0.Sub, E0.Filter⟩ : Zh))<|.rt E0
def Zem (E0 : Zh) (E1 : Zh) (v7 : Int) (v8 : Bool) : LT Zjk Zh :=
.br v8 (.rt (⟨E0.Kind, 0, E0.M, E0.Sub, E0.Filter⟩ : Zh))<|.br (v7 == 4) (.j0 (.L1 E0 E1 v7 (v7 == 4)) (Zkb E0 E1 v7 (v7 == 4)))<|.j0 (.L1 E0 E1 v7 (v7 == 5)) (Zkb E0 E1 v7 (v7 == 5))
def Z92 (a0 : Zh) : LT Zjk Zh :=
.lb 1001<|.lb 1002<|.br (a0.Kind == 2) (.jn 0 (.L0 (⟨0, a0.N, a0.M, a0.Sub, a0.Filter⟩ : Zh) (⟨0, 0, 0, ([] : List UInt8), (⟨0, 0, 0, 0, 0, 0, 0, ([] : List UInt8), 0, 0, (⟨0, 0⟩ : Za), (⟨0, 0⟩ : Za), (⟨0, 0⟩ : Za)⟩ : Zc)⟩ : Zh) a0.Kind (a0.Kind == 2)) [.relab 1001 30000000, .relab 1002 30000001] (Zem (⟨0, a0.N, a0.M, a0.Sub, a0.Filter⟩ : Zh) (⟨0, 0, 0, ([] : List UInt8), (⟨0, 0, 0, 0, 0, 0, 0, ([] : List UInt8), 0, 0, (⟨0, 0⟩ : Za), (⟨0, 0⟩ : Za), (⟨0, 0⟩ : Za)⟩ : Zc)⟩ : Zh) a0.Kind (a0.Kind == 2)))<|.br (a0.Kind == 3) (.jn 0 (.L0 (⟨0, a0.N, a0.M, a0.Sub, a0.Filter⟩ : Zh) (⟨0, 0, 0, ([] : List UInt8), (⟨0, 0, 0, 0, 0, 0, 0, ([] : List UInt8), 0, 0, (⟨0, 0⟩ : Za), (⟨0, 0⟩ : Za), (⟨0, 0⟩ : Za)⟩ : Zc)⟩ : Zh) a0.Kind (a0.Kind == 3)) [.relab 1001 30000000, .relab 1002 30000001] (Zem (⟨0, a0.N, a0.M, a0.Sub, a0.Filter⟩ : Zh) (⟨0, 0, 0, ([] : List UInt8), (⟨0, 0, 0, 0, 0, 0, 0, ([] : List UInt8), 0, 0, (⟨0, 0⟩ : Za), (⟨0, 0⟩ : Za), (⟨0, 0⟩ : Za)⟩ : Zc)⟩ : Zh) a0.Kind (a0.Kind == 3)))<|.br (a0.Kind == 6) (.jn 0 (.L0 (⟨0, a0.N, a0.M, a0.Sub, a0.Filter⟩ : Zh) (⟨0, 0, 0, ([] : List UInt8), (⟨0, 0, 0, 0, 0, 0, 0, ([] : List UInt8), 0, 0, (⟨0, 0⟩ : Za), (⟨0, 0⟩ : Za), (⟨0, 0⟩ : Za)⟩ : Zc)⟩ : Zh) a0.Kind (a0.Kind == 6)) [.relab 1001 30000000, .relab 1002 30000001] (Zem (⟨0, a0.N, a0.M, a0.Sub, a0.Filter⟩ : Zh) (⟨0, 0, 0, ([] : List UInt8), (⟨0, 0, 0, 0, 0, 0, 0, ([] : List UInt8), 0, 0, (⟨0, 0⟩ : Za), (⟨0, 0⟩ : Za), (⟨0, 0⟩ : Za)⟩ : Zc)⟩ : Zh) a0.Kind (a0.Kind == 6)))<|.br (a0.Kind == 7) (.jn 0 (.L0 (⟨0, a0.N, a0.M, a0.Sub, a0.Filter⟩ : Zh) (⟨0, 0, 0, ([] : List UInt8), (⟨0, 0, 0, 0, 0, 0, 0, ([] : List UInt8), 0, 0, (⟨0, 0⟩ : Za), (⟨0, 0⟩ : Za), (⟨0, 0⟩ : Za)⟩ : Zc)⟩ : Zh) a0.Kind (a0.Kind == 7)) [.relab 1001 30000000, .relab 1002 30000001] (Zem (⟨0, a0.N, a0.M, a0.Sub, a0.Filter⟩ : Zh) (⟨0, 0, 0, ([] : List UInt8), (⟨0, 0, 0, 0, 0, 0, 0, ([] : List UInt8), 0, 0, (⟨0, 0⟩ : Za), (⟨0, 0⟩ : Za), (⟨0, 0⟩ : Za)⟩ : Zc)⟩ : Zh) a0.Kind (a0.Kind == 7)))<|.br (a0.Kind == 8) (.jn 0 (.L0 (⟨0, a0.N, a0.M, a0.Sub, a0.Filter⟩ : Zh) (⟨0, 0, 0, ([] : List UInt8), (⟨0, 0, 0, 0, 0, 0, 0, ([] : List UInt8), 0, 0, (⟨0, 0⟩ : Za), (⟨0, 0⟩ : Za), (⟨0, 0⟩ : Za)⟩ : Zc)⟩ : Zh) a0.Kind (a0.Kind == 8)) [.relab 1001 30000000, .relab 1002 30000001] (Zem (⟨0, a0.N, a0.M, a0.Sub, a0.Filter⟩ : Zh) (⟨0, 0, 0, ([] : List UInt8), (⟨0, 0, 0, 0, 0, 0, 0, ([] : List UInt8), 0, 0, (⟨0, 0⟩ : Za), (⟨0, 0⟩ : Za), (⟨0, 0⟩ : Za)⟩ : Zc)⟩ : Zh) a0.Kind (a0.Kind == 8)))<|.jn 0 (.L0 (⟨0, a0.N, a0.M, a0.Sub, a0.Filter⟩ : Zh) (⟨0, 0, 0, ([] : List UInt8), (⟨0, 0, 0, 0, 0, 0, 0, ([] : List UInt8), 0, 0, (⟨0, 0⟩ : Za), (⟨0, 0⟩ : Za), (⟨0, 0⟩ : Za)⟩ : Zc)⟩ : Zh) a0.Kind (a0.Kind == 9)) [.relab 1001 30000000, .relab 1002 30000001] (Zem (⟨0, a0.N, a0.M, a0.Sub, a0.Filter⟩ : Zh) (⟨0, 0, 0, ([] : List UInt8), (⟨0, 0, 0, 0, 0, 0, 0, ([] : List UInt8), 0, 0, (⟨0, 0⟩ : Za), (⟨0, 0⟩ : Za), (⟨0, 0⟩ : Za)⟩ : Zc)⟩ : Zh) a0.Kind (a0.Kind == 9))
def Z93 : LF Zjk Zh := ⟨176, [.c 2 164 true 20], false, fun | .L0 .. => [1,1,1,0,1,4,1] | .L1 .. => [1,1,1,0,1,4,1,3,1],
 fun | .L0 E0 E1 v7 v8 => ⟨30, [(1, (.bptr 30000000 0)), (2, (.bptr 30000001 0)), (7, (wI v7)), (8, (wB v8))], [(30000000, .box (bx (Z9 E0))), (30000001, .box (bx (Z9 E1)))]⟩ | .L1 E0 E1 v7 v16 => ⟨30, [(1, (.bptr 30000000 0)), (2, (.bptr 30000001 0)), (7, (wI v7)), (16, (wB v16))], [(30000000, .box (bx (Z9 E0))), (30000001, .box (bx (Z9 E1)))]⟩,
 fun r => [], fun r => (wA (Z9 r)), fun | .L0 E0 E1 v7 v8 => Zem E0 E1 v7 v8 | .L1 E0 E1 v7 v16 => Zkb E0 E1 v7 v16⟩
def Z7i (a0 : Zh) : Option Zh := Z93.run (Z92 a0)
theorem Zalp (a0 : Zh) {r : Zh} (h : Z7i a0 = some r) : Fn PR 176 [(wA (Z9 a0))] (wA (Z9 r)) := Z93.fn h
def Z49 (a0 : Int) : LT Empty Bool :=
.cs (decide (a0 ≥ 1)) (.k3 0<|.cs (decide (a0 ≤ 63)) (.k4 1<|.rt ((Zbf .and .i64 a0 6) == 0))<|.k4 1<|.rt false)<|.k3 0<|.b4 false<|.rt false
def Z5a : LF Empty Bool := .z 177 [.t 2] false (fun r => []) (fun r => (wB r))
def Z1h (a0 : Int) : Option Bool := Z5a.run (Z49 a0)
theorem Zaik (a0 : Int) {r : Bool} (h : Z1h a0 = some r) : Fn PR 177 [(wI a0)] (wB r) := Z5a.fn h
inductive Zk8 where
 | L0 (E0 : Zh) (v18 : Int) (v19 : Bool)
 | L1 (E0 : Zh) (v18 : Int) (v25 : Bool)
 | L2 (E0 : Zh) (v18 : Int) (v51 : Bool)
def Zo5 (E0 : Zh) (v18 : Int) (v51 : Bool) : LT Zk8 Bool :=
.br v51 (.cs (decide (E0.N ≥ 1)) (.k4 1<|.rt (decide (E0.N ≤ 131071)))<|.k4 1<|.rt false)<|.br (v18 == 11) (.call (Zex E0.Filter) fun x4=>.rt x4)<|.br (v18 == 12) (.cs (decide (E0.N ≥ 0)) (.k4 3<|.cs (decide (E0.N ≤ 99)) (.k4 4<|.cs (decide (E0.M ≥ 0)) (.k4 5<|.rt (decide (E0.M ≤ 99)))<|.k4 5<|.rt false)<|.k4 4<|.b4 false<|.rt false)<|.k4 3<|.b8 false<|.rt false)<|.br (v18 == 13) (.cs (decide (E0.N ≥ (-99))) (.k4 4<|.cs (decide (E0.N ≤ 99)) (.k4 5<|.cs (decide (E0.M ≥ (-99))) (.k4 6<|.rt (decide (E0.M ≤ 99)))<|.k4 6<|.rt false)<|.k4 5<|.b4 false<|.rt false)<|.k4 4<|.b8 false<|.rt false)<|.rt true
def Zo6 (E0 : Zh) (v18 : Int) (v25 : Bool) : LT Zk8 Bool :=
.br v25 (.call (Zr1 E0.Sub) fun x2=>.rt x2)<|.br (v18 == 6) (.cs (decide (E0.N ≥ 0)) (.k4 2<|.rt (decide (E0.N ≤ 31)))<|.k4 2<|.rt false)<|.br (v18 == 7) (.cs (decide (E0.N ≥ 1)) (.k4 3<|.rt (decide (E0.N ≤ 31)))<|.k4 3<|.rt false)<|.br (v18 == 8) (.j0 (.L2 E0 v18 (v18 == 8)) (Zo5 E0 v18 (v18 == 8)))<|.j0 (.L2 E0 v18 (v18 == 9)) (Zo5 E0 v18 (v18 == 9))
def Zo7 (E0 : Zh) (v18 : Int) (v19 : Bool) : LT Zk8 Bool :=
.br v19 (.call (Zaik E0.N) fun x2=>.rt x2)<|.br (v18 == 4) (.j0 (.L1 E0 v18 (v18 == 4)) (Zo6 E0 v18 (v18 == 4)))<|.j0 (.L1 E0 v18 (v18 == 5)) (Zo6 E0 v18 (v18 == 5))
def Zail (a0 : Zh) : LT Zk8 Bool :=
.lb 1001<|.cs (decide (a0.Kind < 1)) (.k4 0<|.b5 true<|.kn [0]<|.rt false)<|.k4 0<|.cs (decide (a0.Kind > 14)) (.k5 1<|.kn [0]<|.rt false)<|.k2 1<|.call (Zalp a0) fun x3=>.k3 1<|.br (!(Zab (Z9 x3) (Z9 (⟨0, 0, 0, ([] : List UInt8), (⟨0, 0, 0, 0, 0, 0, 0, ([] : List UInt8), 0, 0, (⟨0, 0⟩ : Za), (⟨0, 0⟩ : Za), (⟨0, 0⟩ : Za)⟩ : Zc)⟩ : Zh)))) (.rt false)<|.br (a0.Kind == 2) (.jn 0 (.L0 a0 a0.Kind (a0.Kind == 2)) [.relab 1001 30000000] (Zo7 a0 a0.Kind (a0.Kind == 2)))<|.jn 0 (.L0 a0 a0.Kind (a0.Kind == 3)) [.relab 1001 30000000] (Zo7 a0 a0.Kind (a0.Kind == 3))
def Zaim : LF Zk8 Bool := ⟨146, [.t 2], false, fun | .L0 .. => [1,1,0,1,4,1] | .L1 .. => [1,1,0,1,4,1,3,1] | .L2 .. => [1,1,0,1,4,1,3,1,3,1,3,1,3,1],
 fun | .L0 E0 v18 v19 => ⟨107, [(1, (.bptr 30000000 0)), (18, (wI v18)), (19, (wB v19))], [(30000000, .box (bx (Z9 E0)))]⟩ | .L1 E0 v18 v25 => ⟨107, [(1, (.bptr 30000000 0)), (18, (wI v18)), (25, (wB v25))], [(30000000, .box (bx (Z9 E0)))]⟩ | .L2 E0 v18 v51 => ⟨107, [(1, (.bptr 30000000 0)), (18, (wI v18)), (51, (wB v51))], [(30000000, .box (bx (Z9 E0)))]⟩,
 fun r => [], fun r => (wB r), fun | .L0 E0 v18 v19 => Zo7 E0 v18 v19 | .L1 E0 v18 v25 => Zo6 E0 v18 v25 | .L2 E0 v18 v51 => Zo5 E0 v18 v51⟩
def Zain (a0 : Zh) : Option Bool := Zaim.run (Zail a0)
theorem Zaev (a0 : Zh) {r : Bool} (h : Zain a0 = some r) : Fn PR 146 [(wA (Z9 a0))] (wB r) := Zaim.fn h
inductive Zi0 where
 | L0 (v0 : (List (List UInt8))) (v1 : Int) (v2 : (List UInt8)) (v7 : (List UInt8)) (v8 : Int)
def Zpy (v0 : (List (List UInt8))) (v1 : Int) (v2 : (List UInt8)) (v7 : (List UInt8)) (v8 : Int) : LT Zi0 (List UInt8) :=
.len cS v0<|.br (decide (v8 < (v0.length : Int))) (.call (Zyx v1 v8) fun x3=>.br x3 (.br (!(v7 == ([] : List UInt8))) (.ok (v7.length + v2.length ≤ 9223372036854775807)<|.idx cS v0 v8 fun x10=>.ok ((v7 ++ v2).length + x10.length ≤ 9223372036854775807)<|.g0 (.L0 v0 v1 v2 ((v7 ++ v2) ++ x10) (IntKind.wrap .i64 (v8 + 1))))<|.idx cS v0 v8 fun x17=>.ok (v7.length + x17.length ≤ 9223372036854775807)<|.g0 (.L0 v0 v1 v2 (v7 ++ x17) (IntKind.wrap .i64 (v8 + 1))))<|.g0 (.L0 v0 v1 v2 v7 (IntKind.wrap .i64 (v8 + 1))))<|.rt v7
def Z1i (a0 : (List (List UInt8))) (a1 : Int) (a2 : (List UInt8)) : LT Zi0 (List UInt8) :=
.g0 (.L0 a0 a1 a2 ([] : List UInt8) 0)
def Z1j : LF Zi0 (List UInt8) := ⟨197, [.t 6], false, fun | .L0 .. => [1,1,0,1,4],
 fun | .L0 v0 v1 v2 v7 v8 => ⟨30, [(0, (wL cS v0)), (1, (wI v1)), (2, (wS v2)), (7, (wS v7)), (8, (wI v8))], []⟩,
 fun r => [], fun r => (wS r), fun | .L0 v0 v1 v2 v7 v8 => Zpy v0 v1 v2 v7 v8⟩
def Zyy (a0 : (List (List UInt8))) (a1 : Int) (a2 : (List UInt8)) : Option (List UInt8) := Z1j.run (Z1i a0 a1 a2)
theorem Zafj (a0 : (List (List UInt8))) (a1 : Int) (a2 : (List UInt8)) {r : (List UInt8)} (h : Zyy a0 a1 a2 = some r) : Fn PR 197 [(wL cS a0), (wI a1), (wS a2)] (wS r) := Z1j.fn h
def Zui (a0 : Int) : LT Empty (List UInt8) :=
.cs (decide (a0 < 1)) (.k3 0<|.kn [0]<|.rt ([] : List UInt8))<|.k3 0<|.br (decide (a0 > 63)) (.rt ([] : List UInt8))<|.call (Zr0) fun x3=>.call (Zafj x3 a0 ([43] : List UInt8)) fun x5=>.rt x5
def Zuj : LF Empty (List UInt8) := .z 178 [.t 2] false (fun r => []) (fun r => (wS r))
def Zpz (a0 : Int) : Option (List UInt8) := Zuj.run (Zui a0)
theorem Zk9 (a0 : Int) {r : (List UInt8)} (h : Zpz a0 = some r) : Fn PR 178 [(wI a0)] (wS r) := Zuj.fn h
def Zaio (a0 : Int) : LT Empty Bool :=
.cs (decide (a0 ≥ 0)) (.k3 0<|.rt (decide (a0 ≤ 31)))<|.k3 0<|.rt false
def Zaip : LF Empty Bool := .z 198 [.t 2] false (fun r => []) (fun r => (wB r))
def Zaiq (a0 : Int) : Option Bool := Zaip.run (Zaio a0)
theorem Zaqj (a0 : Int) {r : Bool} (h : Zaiq a0 = some r) : Fn PR 198 [(wI a0)] (wB r) := Zaip.fn h
def Z94 (a0 : Int) : LT Empty (List UInt8) :=
.br (a0 == 0) (.rt ([97, 109, 98, 101, 114] : List UInt8))<|.br (a0 == 1) (.rt ([99, 111, 98, 97, 108, 116] : List UInt8))<|.br (a0 == 2) (.rt ([106, 101, 116] : List UInt8))<|.br (a0 == 3) (.rt ([114, 117, 98, 121] : List UInt8))<|.br (a0 == 4) (.rt ([101, 109, 101, 114, 97, 108, 100] : List UInt8))<|.rt ([] : List UInt8)
def Z95 : LF Empty (List UInt8) := .z 199 [.t 2] false (fun r => []) (fun r => (wS r))
def Z7j (a0 : Int) : Option (List UInt8) := Z95.run (Z94 a0)
theorem Zok (a0 : Int) {r : (List UInt8)} (h : Z7j a0 = some r) : Fn PR 199 [(wI a0)] (wS r) := Z95.fn h
inductive Zme where
 | L0 (v0 : Int) (v3 : (List UInt8)) (v4 : Int)
def Zvt (v0 : Int) (v3 : (List UInt8)) (v4 : Int) : LT Zme (List UInt8) :=
.br (decide (v4 < 5)) (.ok (¬ v4 < 0)<|.ok ((Z07 .i64 1 v4) ≠ 0)<|.dc ((2 : Int) ≠ 0) rfl<|.br ((Int.tmod (Zjw .i64 v0 (Z07 .i64 1 v4)) 2) == 1) (.br (!(v3 == ([] : List UInt8))) (.ok (v3.length + ([43] : List UInt8).length ≤ 9223372036854775807)<|.call (Zok v4) fun x10=>.ok ((v3 ++ ([43] : List UInt8)).length + x10.length ≤ 9223372036854775807)<|.g0 (.L0 v0 ((v3 ++ ([43] : List UInt8)) ++ x10) (IntKind.wrap .i64 (v4 + 1))))<|.call (Zok v4) fun x17=>.ok (v3.length + x17.length ≤ 9223372036854775807)<|.g0 (.L0 v0 (v3 ++ x17) (IntKind.wrap .i64 (v4 + 1))))<|.g0 (.L0 v0 v3 (IntKind.wrap .i64 (v4 + 1))))<|.rt v3
def Z96 (a0 : Int) : LT Zme (List UInt8) :=
.call (Zaqj a0) fun x1=>.br (!x1) (.rt ([] : List UInt8))<|.br (a0 == 0) (.rt ([110, 111, 110, 101] : List UInt8))<|.g0 (.L0 a0 ([] : List UInt8) 0)
def Z97 : LF Zme (List UInt8) := ⟨179, [.t 2], false, fun | .L0 .. => [1,1,1,1,0,1,4],
 fun | .L0 v0 v3 v4 => ⟨29, [(0, (wI v0)), (3, (wS v3)), (4, (wI v4))], []⟩,
 fun r => [], fun r => (wS r), fun | .L0 v0 v3 v4 => Zvt v0 v3 v4⟩
def Z7k (a0 : Int) : Option (List UInt8) := Z97.run (Z96 a0)
theorem Z5b (a0 : Int) {r : (List UInt8)} (h : Z7k a0 = some r) : Fn PR 179 [(wI a0)] (wS r) := Z97.fn h
def Z5c : LT Empty (List (List UInt8)) :=
.lb 1001<|.ret [([102, 108, 121, 105, 110, 103] : List UInt8), ([114, 101, 97, 99, 104] : List UInt8), ([104, 97, 115, 116, 101] : List UInt8), ([118, 105, 103, 105, 108, 97, 110, 116] : List UInt8), ([116, 114, 97, 109, 112, 108, 101] : List UInt8), ([102, 105, 114, 115, 116, 45, 115, 116, 114, 105, 107, 101] : List UInt8), ([100, 111, 117, 98, 108, 101, 45, 115, 116, 114, 105, 107, 101] : List UInt8), ([100, 101, 97, 100, 108, 121] : List UInt8), ([108, 105, 102, 101, 108, 105, 110, 107] : List UInt8), ([109, 101, 110, 97, 99, 101] : List UInt8), ([100, 101, 102, 101, 110, 100, 101, 114] : List UInt8), ([119, 97, 114, 100, 101, 100] : List UInt8), ([115, 116, 117, 114, 100, 121] : List UInt8), ([101, 108, 117, 115, 105, 118, 101] : List UInt8), ([110, 111, 45, 97, 116, 116, 97, 99, 107] : List UInt8), ([110, 111, 45, 98, 108, 111, 99, 107] : List UInt8), ([109, 117, 115, 116, 45, 97, 116, 116, 97, 99, 107] : List UInt8)] [.relab 1001 5000]
def Z5d : LF Empty (List (List UInt8)) := .z 216 [.t 0] true (fun r => [(5000, wR cS 1 r)]) (fun r => (wO cS 5000 r))
def Zuk : Option (List (List UInt8)) := Z5d.run (Z5c)
theorem Zafk {r : (List (List UInt8))} (h : Zuk = some r) : FnG PR 216 [] [] [(5000, wR cS 1 r)] (wO cS 5000 r) := Z5d.fn h
theorem Zair {r : (List (List UInt8))} (h : Zuk = some r) : Fn PR 216 [] (wL cS r) :=
 FnG.frozen (C := LT.RL cS r ∧ True) (Zafk h) ⟨rfl, trivial⟩ (by kernel_rfl)
def Z98 (a0 : Int) : LT Empty (List UInt8) :=
.cs (decide (a0 < 0)) (.k3 0<|.kn [0]<|.rt ([] : List UInt8))<|.k3 0<|.br (decide (a0 > 16)) (.rt ([] : List UInt8))<|.call (Zair) fun x3=>.idx cS x3 a0 fun x5=>.rt x5
def Z99 : LF Empty (List UInt8) := .z 200 [.t 2] false (fun r => []) (fun r => (wS r))
def Z7l (a0 : Int) : Option (List UInt8) := Z99.run (Z98 a0)
theorem Zvu (a0 : Int) {r : (List UInt8)} (h : Z7l a0 = some r) : Fn PR 200 [(wI a0)] (wS r) := Z99.fn h
inductive Zmf where
 | L0 (v0 : Int) (v3 : (List UInt8)) (v4 : Int)
def Zvv (v0 : Int) (v3 : (List UInt8)) (v4 : Int) : LT Zmf (List UInt8) :=
.br (decide (v4 < 17)) (.dc ((2 : Int) ≠ 0) rfl<|.br ((Int.tmod v0 2) == 1) (.br (!(v3 == ([] : List UInt8))) (.ok (v3.length + ([43] : List UInt8).length ≤ 9223372036854775807)<|.call (Zvu v4) fun x6=>.ok ((v3 ++ ([43] : List UInt8)).length + x6.length ≤ 9223372036854775807)<|.dc ((2 : Int) ≠ 0) rfl<|.g0 (.L0 (Zjw .i64 v0 2) ((v3 ++ ([43] : List UInt8)) ++ x6) (IntKind.wrap .i64 (v4 + 1))))<|.call (Zvu v4) fun x13=>.ok (v3.length + x13.length ≤ 9223372036854775807)<|.dc ((2 : Int) ≠ 0) rfl<|.g0 (.L0 (Zjw .i64 v0 2) (v3 ++ x13) (IntKind.wrap .i64 (v4 + 1))))<|.dc ((2 : Int) ≠ 0) rfl<|.g0 (.L0 (Zjw .i64 v0 2) v3 (IntKind.wrap .i64 (v4 + 1))))<|.br (v3 == ([] : List UInt8)) (.rt ([110, 111, 110, 101] : List UInt8))<|.rt v3
def Zaaa (a0 : Int) : LT Zmf (List UInt8) :=
.call (Zaeu a0) fun x1=>.br (!x1) (.rt ([] : List UInt8))<|.g0 (.L0 a0 ([] : List UInt8) 0)
def Zaab : LF Zmf (List UInt8) := ⟨180, [.t 2], false, fun | .L0 .. => [1,1,1,0,1,4],
 fun | .L0 v0 v3 v4 => ⟨28, [(0, (wI v0)), (3, (wS v3)), (4, (wI v4))], []⟩,
 fun r => [], fun r => (wS r), fun | .L0 v0 v3 v4 => Zvv v0 v3 v4⟩
def Z7m (a0 : Int) : Option (List UInt8) := Zaab.run (Zaaa a0)
theorem Z5e (a0 : Int) {r : (List UInt8)} (h : Z7m a0 = some r) : Fn PR 180 [(wI a0)] (wS r) := Zaab.fn h
def Zul : LT Empty (List (List UInt8)) :=
.lb 1001<|.ret [([] : List UInt8), ([105, 110, 45, 104, 97, 110, 100] : List UInt8), ([105, 110, 45, 108, 105, 98, 114, 97, 114, 121] : List UInt8), ([105, 110, 45, 103, 114, 97, 118, 101, 121, 97, 114, 100] : List UInt8), ([105, 110, 45, 101, 120, 105, 108, 101] : List UInt8), ([111, 110, 45, 115, 116, 97, 99, 107] : List UInt8)] [.relab 1001 5000]
def Zum : LF Empty (List (List UInt8)) := .z 201 [.t 0] true (fun r => [(5000, wR cS 1 r)]) (fun r => (wO cS 5000 r))
def Zku : Option (List (List UInt8)) := Zum.run (Zul)
theorem Z4d {r : (List (List UInt8))} (h : Zku = some r) : FnG PR 201 [] [] [(5000, wR cS 1 r)] (wO cS 5000 r) := Zum.fn h
theorem Z7n {r : (List (List UInt8))} (h : Zku = some r) : Fn PR 201 [] (wL cS r) :=
 FnG.frozen (C := LT.RL cS r ∧ True) (Z4d h) ⟨rfl, trivial⟩ (by kernel_rfl)
def Zxa : LT Empty (List (List UInt8)) :=
.lb 1001<|.ret [([] : List UInt8), ([121, 111, 117, 114, 115] : List UInt8), ([116, 104, 101, 105, 114, 115] : List UInt8)] [.relab 1001 5000]
def Zxb : LF Empty (List (List UInt8)) := .z 202 [.t 0] true (fun r => [(5000, wR cS 1 r)]) (fun r => (wO cS 5000 r))
def Zmg : Option (List (List UInt8)) := Zxb.run (Zxa)
theorem Z7o {r : (List (List UInt8))} (h : Zmg = some r) : FnG PR 202 [] [] [(5000, wR cS 1 r)] (wO cS 5000 r) := Zxb.fn h
theorem Zaac {r : (List (List UInt8))} (h : Zmg = some r) : Fn PR 202 [] (wL cS r) :=
 FnG.frozen (C := LT.RL cS r ∧ True) (Z7o h) ⟨rfl, trivial⟩ (by kernel_rfl)
def Zun : LT Empty (List (List UInt8)) :=
.lb 1001<|.ret [([] : List UInt8), ([115, 101, 108, 102] : List UInt8), ([111, 116, 104, 101, 114] : List UInt8)] [.relab 1001 5000]
def Zuo : LF Empty (List (List UInt8)) := .z 203 [.t 0] true (fun r => [(5000, wR cS 1 r)]) (fun r => (wO cS 5000 r))
def Zkv : Option (List (List UInt8)) := Zuo.run (Zun)
theorem Z4e {r : (List (List UInt8))} (h : Zkv = some r) : FnG PR 203 [] [] [(5000, wR cS 1 r)] (wO cS 5000 r) := Zuo.fn h
theorem Z7p {r : (List (List UInt8))} (h : Zkv = some r) : Fn PR 203 [] (wL cS r) :=
 FnG.frozen (C := LT.RL cS r ∧ True) (Z4e h) ⟨rfl, trivial⟩ (by kernel_rfl)
def Zxc : LT Empty (List (List UInt8)) :=
.lb 1001<|.ret [([] : List UInt8), ([116, 97, 112, 112, 101, 100] : List UInt8), ([117, 110, 116, 97, 112, 112, 101, 100] : List UInt8)] [.relab 1001 5000]
def Zxd : LF Empty (List (List UInt8)) := .z 204 [.t 0] true (fun r => [(5000, wR cS 1 r)]) (fun r => (wO cS 5000 r))
def Zmh : Option (List (List UInt8)) := Zxd.run (Zxc)
theorem Z7q {r : (List (List UInt8))} (h : Zmh = some r) : FnG PR 204 [] [] [(5000, wR cS 1 r)] (wO cS 5000 r) := Zxd.fn h
theorem Zaad {r : (List (List UInt8))} (h : Zmh = some r) : Fn PR 204 [] (wL cS r) :=
 FnG.frozen (C := LT.RL cS r ∧ True) (Z7q h) ⟨rfl, trivial⟩ (by kernel_rfl)
inductive Zo8 where
 | L0 (v0 : Int) (v1 : Int) (v5 : Int)
def Zyz (v0 : Int) (v1 : Int) (v5 : Int) : LT Zo8 Bool :=
.br (decide (v5 < v1)) (.dc ((2 : Int) ≠ 0) rfl<|.g0 (.L0 (Zjw .i64 v0 2) v1 (IntKind.wrap .i64 (v5 + 1))))<|.dc ((2 : Int) ≠ 0) rfl<|.rt ((Int.tmod v0 2) == 1)
def Zaew (a0 : Int) (a1 : Int) : LT Zo8 Bool :=
.g0 (.L0 a0 a1 0)
def Zaex : LF Zo8 Bool := ⟨206, [.t 4], false, fun | .L0 .. => [1,0,1,4],
 fun | .L0 v0 v1 v5 => ⟨16, [(0, (wI v0)), (1, (wI v1)), (5, (wI v5))], []⟩,
 fun r => [], fun r => (wB r), fun | .L0 v0 v1 v5 => Zyz v0 v1 v5⟩
def Zac7 (a0 : Int) (a1 : Int) : Option Bool := Zaex.run (Zaew a0 a1)
theorem Zmi (a0 : Int) (a1 : Int) {r : Bool} (h : Zac7 a0 a1 = some r) : Fn PR 206 [(wI a0), (wI a1)] (wB r) := Zaex.fn h
inductive Zg6 where
 | L0 (v0 : Int) (v3 : Int) (v4 : Int)
def Zmj (v0 : Int) (v3 : Int) (v4 : Int) : LT Zg6 (List UInt8) :=
.br (decide (v4 < v0)) (.g0 (.L0 v0 (IntKind.wrap .i64 (v3 * 2)) (IntKind.wrap .i64 (v4 + 1))))<|.call (Zk9 v3) fun x6=>.rt x6
def Zxe (a0 : Int) : LT Zg6 (List UInt8) :=
.g0 (.L0 a0 1 0)
def Zxf : LF Zg6 (List UInt8) := ⟨207, [.t 2], false, fun | .L0 .. => [1,1,0,1,4],
 fun | .L0 v0 v3 v4 => ⟨14, [(0, (wI v0)), (3, (wI v3)), (4, (wI v4))], []⟩,
 fun r => [], fun r => (wS r), fun | .L0 v0 v3 v4 => Zmj v0 v3 v4⟩
def Zr6 (a0 : Int) : Option (List UInt8) := Zxf.run (Zxe a0)
theorem Zup (a0 : Int) {r : (List UInt8)} (h : Zr6 a0 = some r) : Fn PR 207 [(wI a0)] (wS r) := Zxf.fn h
def Z5f : LT Empty (List (List UInt8)) :=
.lb 1001<|.ret [([] : List UInt8), ([62, 61] : List UInt8), ([60, 61] : List UInt8), ([61] : List UInt8)] [.relab 1001 5000]
def Z5g : LF Empty (List (List UInt8)) := .z 217 [.t 0] true (fun r => [(5000, wR cS 1 r)]) (fun r => (wO cS 5000 r))
def Zuq : Option (List (List UInt8)) := Z5g.run (Z5f)
theorem Zafl {r : (List (List UInt8))} (h : Zuq = some r) : FnG PR 217 [] [] [(5000, wR cS 1 r)] (wO cS 5000 r) := Z5g.fn h
theorem Zais {r : (List (List UInt8))} (h : Zuq = some r) : Fn PR 217 [] (wL cS r) :=
 FnG.frozen (C := LT.RL cS r ∧ True) (Zafl h) ⟨rfl, trivial⟩ (by kernel_rfl)
inductive Zr7 where
 | L0 (v0 : Int) (v3 : (List UInt8))
def Ze5 (v0 : Int) (v3 : (List UInt8)) : LT Zr7 (List UInt8) :=
.br (decide (v0 > 0)) (.dc ((10 : Int) ≠ 0) rfl<|.dr [.lit]<|.str [IntKind.wrap .u8 (IntKind.wrap .u64 (48 + (Int.tmod v0 10)))] fun x5=>.ok (x5.length + v3.length ≤ 9223372036854775807)<|.dc ((10 : Int) ≠ 0) rfl<|.g0 (.L0 (Zjw .u64 v0 10) (x5 ++ v3)))<|.rt v3
def Z1k (a0 : Int) : LT Zr7 (List UInt8) :=
.dc ((10 : Int) ≠ 0) rfl<|.dr [.lit]<|.str [IntKind.wrap .u8 (IntKind.wrap .u64 (48 + (Int.tmod a0 10)))] fun x4=>.dc ((10 : Int) ≠ 0) rfl<|.g0 (.L0 (Zjw .u64 a0 10) x4)
def Zmk : LF Zr7 (List UInt8) := ⟨210, [.t 2], false, fun | .L0 .. => [1,1,0,1,4],
 fun | .L0 v0 v3 => ⟨25, [(0, (.t (.int .u64 v0))), (3, (wS v3))], []⟩,
 fun r => [], fun r => (wS r), fun | .L0 v0 v3 => Ze5 v0 v3⟩
def Zy0 (a0 : Int) : Option (List UInt8) := Zmk.run (Z1k a0)
theorem Zzz (a0 : Int) {r : (List UInt8)} (h : Zy0 a0 = some r) : Fn PR 210 [(.t (.int .u64 a0))] (wS r) := Zmk.fn h
def Zaae (a0 : Int) : LT Empty (List UInt8) :=
.br (decide (a0 < 0)) (.call (Zzz (IntKind.wrap .u64 (0 - (IntKind.wrap .u64 a0)))) fun x4=>.ok (([45] : List UInt8).length + x4.length ≤ 9223372036854775807)<|.rt (([45] : List UInt8) ++ x4))<|.call (Zzz (IntKind.wrap .u64 a0)) fun x10=>.rt x10
def Zaaf : LF Empty (List UInt8) := .z 182 [.t 2] false (fun r => []) (fun r => (wS r))
def Z7r (a0 : Int) : Option (List UInt8) := Zaaf.run (Zaae a0)
theorem Zid (a0 : Int) {r : (List UInt8)} (h : Z7r a0 = some r) : Fn PR 182 [(wI a0)] (wS r) := Zaaf.fn h
def Zur (a0 : (List UInt8)) (a1 : Za) : LT Empty (List UInt8) :=
.lb 1003<|.br (a1.Kind == 0) (.rt ([] : List UInt8))<|.call (Zais) fun x2=>.idx cS x2 a1.Kind fun x4=>.ok (a0.length + x4.length ≤ 9223372036854775807)<|.call (Zid a1.N) fun x10=>.ok ((a0 ++ x4).length + x10.length ≤ 9223372036854775807)<|.rt ((a0 ++ x4) ++ x10)
def Zus : LF Empty (List UInt8) := .z 208 [.t 4] false (fun r => []) (fun r => (wS r))
def Zp0 (a0 : (List UInt8)) (a1 : Za) : Option (List UInt8) := Zus.run (Zur a0 a1)
theorem Zla (a0 : (List UInt8)) (a1 : Za) {r : (List UInt8)} (h : Zp0 a0 a1 = some r) : Fn PR 208 [(wS a0), (wA (Zb8 a1))] (wS r) := Zus.fn h
inductive Zml where
 | L0 (v0 : (List (List UInt8))) (v1 : (List UInt8)) (v5 : (List UInt8)) (v6 : Int)
def Zvw (v0 : (List (List UInt8))) (v1 : (List UInt8)) (v5 : (List UInt8)) (v6 : Int) : LT Zml (List UInt8) :=
.len cS v0<|.br (decide (v6 < (v0.length : Int))) (.br (decide (v6 > 0)) (.ok (v5.length + v1.length ≤ 9223372036854775807)<|.idx cS v0 v6 fun x7=>.ok ((v5 ++ v1).length + x7.length ≤ 9223372036854775807)<|.g0 (.L0 v0 v1 ((v5 ++ v1) ++ x7) (IntKind.wrap .i64 (v6 + 1))))<|.idx cS v0 v6 fun x14=>.ok (v5.length + x14.length ≤ 9223372036854775807)<|.g0 (.L0 v0 v1 (v5 ++ x14) (IntKind.wrap .i64 (v6 + 1))))<|.rt v5
def Zaag (a0 : (List (List UInt8))) (a1 : (List UInt8)) : LT Zml (List UInt8) :=
.g0 (.L0 a0 a1 ([] : List UInt8) 0)
def Zaah : LF Zml (List UInt8) := ⟨209, [.t 4], false, fun | .L0 .. => [1,1,0,1,4],
 fun | .L0 v0 v1 v5 v6 => ⟨25, [(0, (wL cS v0)), (1, (wS v1)), (5, (wS v5)), (6, (wI v6))], []⟩,
 fun r => [], fun r => (wS r), fun | .L0 v0 v1 v5 v6 => Zvw v0 v1 v5 v6⟩
def Z7s (a0 : (List (List UInt8))) (a1 : (List UInt8)) : Option (List UInt8) := Zaah.run (Zaag a0 a1)
theorem Zalq (a0 : (List (List UInt8))) (a1 : (List UInt8)) {r : (List UInt8)} (h : Z7s a0 a1 = some r) : Fn PR 209 [(wL cS a0), (wS a1)] (wS r) := Zaah.fn h
def Zxg (b0 : (List (List UInt8))) (a1 : (List UInt8)) : LT Empty (List (List UInt8)) :=
.br (a1 == ([] : List UInt8)) (.ret b0 [.relab 0 5000])<|.dr [.lit]<|.apR cS 16 b0 [a1] fun x3=>.ret x3 [.relab 0 5000]
def Zxh : LF Empty (List (List UInt8)) := .z 205 [.t 4] true (fun r => [(5000, wR cS 1 r)]) (fun r => (wO cS 5000 r))
def Zr8 (b0 : (List (List UInt8))) (a1 : (List UInt8)) : Option (List (List UInt8)) := Zxh.run (Zxg b0 a1)
theorem Zdp (b0 : (List (List UInt8))) (a1 : (List UInt8)) {r : (List (List UInt8))} (h : Zr8 b0 a1 = some r) : FnG PR 205 [(0, wR cS 1 b0)] [(wO cS 0 b0), (wS a1)] [(5000, wR cS 1 r)] (wO cS 5000 r) := Zxh.fn h
inductive Zen where
 | L0 (E0 : Zc) (v6 : (List (List UInt8))) (v7 : (List (List UInt8))) (v8 : Int)
 | L1 (E0 : Zc) (v6 : (List (List UInt8))) (v7 : (List (List UInt8))) (v9 : Int)
 | L2 (E0 : Zc) (v6 : (List (List UInt8))) (v7 : (List (List UInt8))) (v10 : Int)
 | L3 (E0 : Zc) (v6 : (List (List UInt8))) (v7 : (List (List UInt8))) (v11 : Int)
 | L4 (E0 : Zc) (v6 : (List (List UInt8))) (v7 : (List (List UInt8)))
 | L5 (E0 : Zc) (v6 : (List (List UInt8))) (v7 : (List (List UInt8))) (v12 : Int)
def Zkc (E0 : Zc) (v6 : (List (List UInt8))) (v7 : (List (List UInt8))) : LT Zen (List UInt8) :=
.g0 (.L5 E0 v6 v7 0)
def Zvx (E0 : Zc) (v6 : (List (List UInt8))) (v7 : (List (List UInt8))) (v8 : Int) : LT Zen (List UInt8) :=
.br (decide (v8 < 6)) (.call (Zmi E0.Types v8) fun x2=>.br x2 (.call (Zup v8) fun x5=>.dr [.lit]<|.apR cS 16 v7 [x5] fun x8=>.g0 (.L0 E0 v6 x8 (IntKind.wrap .i64 (v8 + 1))))<|.g0 (.L0 E0 v6 v7 (IntKind.wrap .i64 (v8 + 1))))<|.g0 (.L1 E0 v6 v7 0)
def Zvy (E0 : Zc) (v6 : (List (List UInt8))) (v7 : (List (List UInt8))) (v9 : Int) : LT Zen (List UInt8) :=
.br (decide (v9 < 6)) (.call (Zmi E0.NotTypes v9) fun x2=>.br x2 (.call (Zup v9) fun x5=>.ok (([110, 111, 110, 45] : List UInt8).length + x5.length ≤ 9223372036854775807)<|.dr [.lit]<|.apR cS 16 v7 [(([110, 111, 110, 45] : List UInt8) ++ x5)] fun x11=>.g0 (.L1 E0 v6 x11 (IntKind.wrap .i64 (v9 + 1))))<|.g0 (.L1 E0 v6 v7 (IntKind.wrap .i64 (v9 + 1))))<|.g0 (.L2 E0 v6 v7 0)
def Zvz (E0 : Zc) (v6 : (List (List UInt8))) (v7 : (List (List UInt8))) (v10 : Int) : LT Zen (List UInt8) :=
.br (decide (v10 < 5)) (.call (Zmi E0.Colors v10) fun x2=>.br x2 (.call (Zok v10) fun x5=>.dr [.lit]<|.apR cS 16 v7 [x5] fun x8=>.g0 (.L2 E0 v6 x8 (IntKind.wrap .i64 (v10 + 1))))<|.g0 (.L2 E0 v6 v7 (IntKind.wrap .i64 (v10 + 1))))<|.g0 (.L3 E0 v6 v7 0)
def Zv0 (E0 : Zc) (v6 : (List (List UInt8))) (v7 : (List (List UInt8))) (v11 : Int) : LT Zen (List UInt8) :=
.br (decide (v11 < 5)) (.call (Zmi E0.NotColors v11) fun x2=>.br x2 (.call (Zok v11) fun x5=>.ok (([110, 111, 110, 45] : List UInt8).length + x5.length ≤ 9223372036854775807)<|.dr [.lit]<|.apR cS 16 v7 [(([110, 111, 110, 45] : List UInt8) ++ x5)] fun x11=>.g0 (.L3 E0 v6 x11 (IntKind.wrap .i64 (v11 + 1))))<|.g0 (.L3 E0 v6 v7 (IntKind.wrap .i64 (v11 + 1))))<|.br (!(E0.Sub == ([] : List UInt8))) (.ok (([115, 117, 98, 58] : List UInt8).length + E0.Sub.length ≤ 9223372036854775807)<|.dr [.lit]<|.apR cS 16 v7 [(([115, 117, 98, 58] : List UInt8) ++ E0.Sub)] fun x23=>.j0 (.L4 E0 v6 x23) (Zkc E0 v6 x23))<|.j0 (.L4 E0 v6 v7) (Zkc E0 v6 v7)
def Zv1 (E0 : Zc) (v6 : (List (List UInt8))) (v7 : (List (List UInt8))) (v12 : Int) : LT Zen (List UInt8) :=
.br (decide (v12 < 17)) (.call (Zmi E0.Keys v12) fun x2=>.br x2 (.call (Zvu v12) fun x5=>.ok (([119, 105, 116, 104, 58] : List UInt8).length + x5.length ≤ 9223372036854775807)<|.dr [.lit]<|.apR cS 16 v7 [(([119, 105, 116, 104, 58] : List UInt8) ++ x5)] fun x11=>.g0 (.L5 E0 v6 x11 (IntKind.wrap .i64 (v12 + 1))))<|.g0 (.L5 E0 v6 v7 (IntKind.wrap .i64 (v12 + 1))))<|.idx cS v6 E0.Tap fun x18=>.callU (Zdp v7 x18) [20000007] 1250000 fun x20=>.call (Zla ([112, 111, 119, 101, 114] : List UInt8) E0.Power) fun x22=>.callU (Zdp x20 x22) [1255000] 1300000 fun x24=>.call (Zla ([116, 111, 117, 103, 104] : List UInt8) E0.Tough) fun x26=>.callU (Zdp x24 x26) [1305000] 1350000 fun x28=>.call (Zla ([118, 97, 108, 117, 101] : List UInt8) E0.Value) fun x30=>.callU (Zdp x28 x30) [1355000] 1400000 fun x32=>.lenO cS x32<|.br ((x32.length : Int) == 0) (.rt ([97, 110, 121] : List UInt8))<|.rl cS x32<|.call (Zalq x32 ([32] : List UInt8)) fun x36=>.rt x36
def Zaai (a0 : Zc) : LT Zen (List UInt8) :=
.lb 1001<|.call (Zex a0) fun x1=>.br (!x1) (.rt ([] : List UInt8))<|.call (Z7n) fun x4=>.call (Zaac) fun x6=>.call (Z7p) fun x8=>.call (Zaad) fun x10=>.idx cS x4 a0.Zone fun x12=>.dr [.ahead 26, .own 20 70000260 1, .stop]<|.callU (Zdp ([] : (List (List UInt8))) x12) [70000260] 270000 fun x14=>.idx cS x6 a0.Who fun x16=>.callU (Zdp x14 x16) [275000] 340000 fun x18=>.idx cS x8 a0.Self fun x20=>.callU (Zdp x18 x20) [345000] 410000 fun x22=>.go (.L0 a0 x10 x22 0) [.relab 1001 30000000, .relab 415000 20000007]
def Zaaj : LF Zen (List UInt8) := ⟨181, [.t 2], false, fun | .L0 .. => [1,1,1,1,1,1,1,1,1,1,0,1,4] | .L1 .. => [1,1,1,1,1,1,1,1,1,1,1,0,1,4] | .L2 .. => [1,1,1,1,1,1,1,1,1,1,1,1,0,1,4] | .L3 .. => [1,1,1,1,1,1,1,1,1,1,1,1,1,0,1,4] | .L4 .. => [1,1,1,1,1,1,1,1,1,1,1,1,1,1,1] | .L5 .. => [1,1,1,1,1,1,1,1,1,1,1,1,1,1,1,0,1,4],
 fun | .L0 E0 v6 v7 v8 => ⟨145, [(1, (.bptr 30000000 0)), (6, (wL cS v6)), (7, (wO cS 20000007 v7)), (8, (wI v8))], [(30000000, .box (bx (Zg E0))), (20000007, wR cS 1 v7)]⟩ | .L1 E0 v6 v7 v9 => ⟨145, [(1, (.bptr 30000000 0)), (6, (wL cS v6)), (7, (wO cS 20000007 v7)), (9, (wI v9))], [(30000000, .box (bx (Zg E0))), (20000007, wR cS 1 v7)]⟩ | .L2 E0 v6 v7 v10 => ⟨145, [(1, (.bptr 30000000 0)), (6, (wL cS v6)), (7, (wO cS 20000007 v7)), (10, (wI v10))], [(30000000, .box (bx (Zg E0))), (20000007, wR cS 1 v7)]⟩ | .L3 E0 v6 v7 v11 => ⟨145, [(1, (.bptr 30000000 0)), (6, (wL cS v6)), (7, (wO cS 20000007 v7)), (11, (wI v11))], [(30000000, .box (bx (Zg E0))), (20000007, wR cS 1 v7)]⟩ | .L4 E0 v6 v7 => ⟨145, [(1, (.bptr 30000000 0)), (6, (wL cS v6)), (7, (wO cS 20000007 v7))], [(30000000, .box (bx (Zg E0))), (20000007, wR cS 1 v7)]⟩ | .L5 E0 v6 v7 v12 => ⟨145, [(1, (.bptr 30000000 0)), (6, (wL cS v6)), (7, (wO cS 20000007 v7)), (12, (wI v12))], [(30000000, .box (bx (Zg E0))), (20000007, wR cS 1 v7)]⟩,
 fun r => [], fun r => (wS r), fun | .L0 E0 v6 v7 v8 => Zvx E0 v6 v7 v8 | .L1 E0 v6 v7 v9 => Zvy E0 v6 v7 v9 | .L2 E0 v6 v7 v10 => Zvz E0 v6 v7 v10 | .L3 E0 v6 v7 v11 => Zv0 E0 v6 v7 v11 | .L4 E0 v6 v7 => Zkc E0 v6 v7 | .L5 E0 v6 v7 v12 => Zv1 E0 v6 v7 v12⟩
def Z7t (a0 : Zc) : Option (List UInt8) := Zaaj.run (Zaai a0)
theorem Zalr (a0 : Zc) {r : (List UInt8)} (h : Z7t a0 = some r) : Fn PR 181 [(wA (Zg a0))] (wS r) := Zaaj.fn h
def Zaak (a0 : Zh) : LT Empty (List UInt8) :=
.lb 1001<|.call (Zaev a0) fun x1=>.br (!x1) (.rt ([] : List UInt8))<|.br (a0.Kind == 1) (.rt ([99, 111, 110, 116, 114, 111, 108] : List UInt8))<|.br (a0.Kind == 2) (.call (Zk9 a0.N) fun x6=>.ok (([116, 121, 112, 101, 115, 61] : List UInt8).length + x6.length ≤ 9223372036854775807)<|.rt (([116, 121, 112, 101, 115, 61] : List UInt8) ++ x6))<|.br (a0.Kind == 3) (.call (Zk9 a0.N) fun x12=>.ok (([116, 121, 112, 101, 115, 43, 61] : List UInt8).length + x12.length ≤ 9223372036854775807)<|.rt (([116, 121, 112, 101, 115, 43, 61] : List UInt8) ++ x12))<|.br (a0.Kind == 4) (.ok (([115, 117, 98, 61] : List UInt8).length + a0.Sub.length ≤ 9223372036854775807)<|.rt (([115, 117, 98, 61] : List UInt8) ++ a0.Sub))<|.br (a0.Kind == 5) (.ok (([115, 117, 98, 43, 61] : List UInt8).length + a0.Sub.length ≤ 9223372036854775807)<|.rt (([115, 117, 98, 43, 61] : List UInt8) ++ a0.Sub))<|.br (a0.Kind == 6) (.call (Z5b a0.N) fun x26=>.ok (([99, 111, 108, 111, 114, 115, 61] : List UInt8).length + x26.length ≤ 9223372036854775807)<|.rt (([99, 111, 108, 111, 114, 115, 61] : List UInt8) ++ x26))<|.br (a0.Kind == 7) (.call (Z5b a0.N) fun x32=>.ok (([99, 111, 108, 111, 114, 115, 43, 61] : List UInt8).length + x32.length ≤ 9223372036854775807)<|.rt (([99, 111, 108, 111, 114, 115, 43, 61] : List UInt8) ++ x32))<|.br (a0.Kind == 8) (.call (Z5e a0.N) fun x38=>.ok (([107, 101, 121, 115, 43, 61] : List UInt8).length + x38.length ≤ 9223372036854775807)<|.rt (([107, 101, 121, 115, 43, 61] : List UInt8) ++ x38))<|.br (a0.Kind == 9) (.call (Z5e a0.N) fun x44=>.ok (([107, 101, 121, 115, 45, 61] : List UInt8).length + x44.length ≤ 9223372036854775807)<|.rt (([107, 101, 121, 115, 45, 61] : List UInt8) ++ x44))<|.br (a0.Kind == 10) (.rt ([98, 108, 97, 110, 107] : List UInt8))<|.br (a0.Kind == 11) (.call (Zalr a0.Filter) fun x51=>.ok (([112, 116, 61, 99, 111, 117, 110, 116, 40] : List UInt8).length + x51.length ≤ 9223372036854775807)<|.ok ((([112, 116, 61, 99, 111, 117, 110, 116, 40] : List UInt8) ++ x51).length + ([41] : List UInt8).length ≤ 9223372036854775807)<|.rt ((([112, 116, 61, 99, 111, 117, 110, 116, 40] : List UInt8) ++ x51) ++ ([41] : List UInt8)))<|.br (a0.Kind == 12) (.call (Zid a0.N) fun x58=>.ok (([112, 116, 61] : List UInt8).length + x58.length ≤ 9223372036854775807)<|.ok ((([112, 116, 61] : List UInt8) ++ x58).length + ([47] : List UInt8).length ≤ 9223372036854775807)<|.call (Zid a0.M) fun x65=>.ok (((([112, 116, 61] : List UInt8) ++ x58) ++ ([47] : List UInt8)).length + x65.length ≤ 9223372036854775807)<|.rt (((([112, 116, 61] : List UInt8) ++ x58) ++ ([47] : List UInt8)) ++ x65))<|.br (a0.Kind == 13) (.call (Zid a0.N) fun x71=>.ok (([112, 116, 43, 61] : List UInt8).length + x71.length ≤ 9223372036854775807)<|.ok ((([112, 116, 43, 61] : List UInt8) ++ x71).length + ([47] : List UInt8).length ≤ 9223372036854775807)<|.call (Zid a0.M) fun x78=>.ok (((([112, 116, 43, 61] : List UInt8) ++ x71) ++ ([47] : List UInt8)).length + x78.length ≤ 9223372036854775807)<|.rt (((([112, 116, 43, 61] : List UInt8) ++ x71) ++ ([47] : List UInt8)) ++ x78))<|.rt ([112, 116, 45, 115, 119, 105, 116, 99, 104] : List UInt8)
def Zaal : LF Empty (List UInt8) := .z 147 [.t 2] false (fun r => []) (fun r => (wS r))
def Z7u (a0 : Zh) : Option (List UInt8) := Zaal.run (Zaak a0)
theorem Z5h (a0 : Zh) {r : (List UInt8)} (h : Z7u a0 = some r) : Fn PR 147 [(wA (Z9 a0))] (wS r) := Zaal.fn h
inductive Zg7 where
 | L0 (v0 : (List Zh)) (v3 : (List UInt8)) (v4 : Int)
def Zmm (v0 : (List Zh)) (v3 : (List UInt8)) (v4 : Int) : LT Zg7 (List UInt8) :=
.len Z9 v0<|.br (decide (v4 < (v0.length : Int))) (.idx Z9 v0 v4 fun x3=>.call (Zaev x3) fun x5=>.br (!x5) (.rt ([] : List UInt8))<|.br (decide (v4 > 0)) (.ok (v3.length + ([44, 32] : List UInt8).length ≤ 9223372036854775807)<|.ag Z9 x3 0<|.call (Z5h x3) fun x11=>.ok ((v3 ++ ([44, 32] : List UInt8)).length + x11.length ≤ 9223372036854775807)<|.g0 (.L0 v0 ((v3 ++ ([44, 32] : List UInt8)) ++ x11) (IntKind.wrap .i64 (v4 + 1))))<|.ag Z9 x3 0<|.call (Z5h x3) fun x17=>.ok (v3.length + x17.length ≤ 9223372036854775807)<|.g0 (.L0 v0 (v3 ++ x17) (IntKind.wrap .i64 (v4 + 1))))<|.rt v3
def Zxi (a0 : (List Zh)) : LT Zg7 (List UInt8) :=
.len Z9 a0<|.cs ((a0.length : Int) == 0) (.k4 0<|.kn [0]<|.rt ([] : List UInt8))<|.k2 0<|.len Z9 a0<|.k2 0<|.br (decide ((a0.length : Int) > 6)) (.rt ([] : List UInt8))<|.g0 (.L0 a0 ([] : List UInt8) 0)
def Zxj : LF Zg7 (List UInt8) := ⟨97, [.t 2], false, fun | .L0 .. => [1,1,1,0,1,4],
 fun | .L0 v0 v3 v4 => ⟨37, [(0, (wL Z9 v0)), (3, (wS v3)), (4, (wI v4))], []⟩,
 fun r => [], fun r => (wS r), fun | .L0 v0 v3 v4 => Zmm v0 v3 v4⟩
def Zr9 (a0 : (List Zh)) : Option (List UInt8) := Zxj.run (Zxi a0)
theorem Zmn (a0 : (List Zh)) {r : (List UInt8)} (h : Zr9 a0 = some r) : Fn PR 97 [(wL Z9 a0)] (wS r) := Zxj.fn h
def Z5i (a0 : Zfl) : LT Empty Bool :=
.lb 1001<|.call (Zuf a0.Mana) fun x1=>.cs x1 (.k5 0<|.cs (a0.Mana.X == 0) (.k4 1<|.cs (decide (a0.Life ≥ 0)) (.k4 2<|.rt (decide (a0.Life ≤ 99)))<|.k4 2<|.rt false)<|.k4 1<|.b4 false<|.rt false)<|.k5 0<|.b8 false<|.rt false
def Z5j : LF Empty Bool := .z 133 [.t 2] false (fun r => []) (fun r => (wB r))
def Z1l (a0 : Zfl) : Option Bool := Z5j.run (Z5i a0)
theorem Zait (a0 : Zfl) {r : Bool} (h : Z1l a0 = some r) : Fn PR 133 [(wA (Zel a0))] (wB r) := Z5j.fn h
def Zaam (a0 : Int) : LT Empty (List UInt8) :=
.br (a0 == 1) (.rt ([101, 110, 116, 101, 114, 115] : List UInt8))<|.br (a0 == 2) (.rt ([108, 101, 97, 118, 101, 115] : List UInt8))<|.br (a0 == 3) (.rt ([100, 105, 101, 115] : List UInt8))<|.br (a0 == 4) (.rt ([97, 116, 116, 97, 99, 107, 115] : List UInt8))<|.br (a0 == 5) (.rt ([98, 108, 111, 99, 107, 115] : List UInt8))<|.br (a0 == 6) (.rt ([100, 101, 97, 108, 115] : List UInt8))<|.br (a0 == 7) (.rt ([100, 101, 97, 108, 116] : List UInt8))<|.br (a0 == 8) (.rt ([100, 114, 97, 119, 115] : List UInt8))<|.br (a0 == 9) (.rt ([99, 97, 115, 116, 115] : List UInt8))<|.br (a0 == 10) (.rt ([117, 112, 107, 101, 101, 112] : List UInt8))<|.br (a0 == 11) (.rt ([101, 110, 100] : List UInt8))<|.br (a0 == 12) (.rt ([103, 97, 105, 110, 115] : List UInt8))<|.br (a0 == 13) (.rt ([108, 111, 115, 101, 115] : List UInt8))<|.br (a0 == 14) (.rt ([112, 108, 97, 99, 101, 100] : List UInt8))<|.rt ([] : List UInt8)
def Zaan : LF Empty (List UInt8) := .z 165 [.t 2] false (fun r => []) (fun r => (wS r))
def Z7v (a0 : Int) : Option (List UInt8) := Zaan.run (Zaam a0)
theorem Z5k (a0 : Int) {r : (List UInt8)} (h : Z7v a0 = some r) : Fn PR 165 [(wI a0)] (wS r) := Zaan.fn h
def Z1m (a0 : Int) : LT Empty Bool :=
.cs (a0 == 8) (.k3 0<|.b8 true<|.b4 true<|.rt true)<|.k3 0<|.cs (a0 == 9) (.k3 1<|.b8 true<|.kb true<|.rt true)<|.k3 1<|.cs (a0 == 10) (.k3 2<|.b5 true<|.kb true<|.rt true)<|.k3 2<|.cs (a0 == 11) (.k3 3<|.b3 true<|.rt true)<|.k3 3<|.cs (a0 == 12) (.k3 4<|.rt true)<|.k3 4<|.rt (a0 == 13)
def Z1n : LF Empty Bool := .z 166 [.t 2] false (fun r => []) (fun r => (wB r))
def Zy1 (a0 : Int) : Option Bool := Z1n.run (Z1m a0)
theorem Zz0 (a0 : Int) {r : Bool} (h : Zy1 a0 = some r) : Fn PR 166 [(wI a0)] (wB r) := Z1n.fn h
def Zut (a0 : Int) : LT Empty Bool :=
.call (Z5k a0) fun x1=>.cs (!(x1 == ([] : List UInt8))) (.k2 0<|.call (Zz0 a0) fun x4=>.k2 0<|.cs (!x4) (.k2 1<|.kg 0<|.kg 1<|.kg 0<|.rt true)<|.k2 1<|.kg 0<|.kg 1<|.kg 0<|.rt (a0 == 9))<|.k5 0<|.kg 0<|.rt false
def Zuu : LF Empty Bool := .z 167 [.t 2] false (fun r => []) (fun r => (wB r))
def Zp1 (a0 : Int) : Option Bool := Zuu.run (Zut a0)
theorem Z7w (a0 : Int) {r : Bool} (h : Zp1 a0 = some r) : Fn PR 167 [(wI a0)] (wB r) := Zuu.fn h
inductive Zsa where
 | L0 (E0 : Zb9)
def Zo9 (E0 : Zb9) : LT Zsa Bool :=
.call (Z7w E0.When) fun x1=>.br (!x1) (.rt (Zab (Zg E0.Filter) (Zg (⟨0, 0, 0, 0, 0, 0, 0, ([] : List UInt8), 0, 0, (⟨0, 0⟩ : Za), (⟨0, 0⟩ : Za), (⟨0, 0⟩ : Za)⟩ : Zc))))<|.br (E0.When == 9) (.call (Zex E0.Filter) fun x5=>.cs x5 (.k5 2<|.kg 2<|.rt (E0.Filter.Zone == 5))<|.k5 2<|.kg 2<|.rt false)<|.call (Zex E0.Filter) fun x8=>.cs x8 (.k5 2<|.kg 2<|.rt (E0.Filter.Zone == 0))<|.k5 2<|.kg 2<|.rt false
def Zaiu (a0 : Zb9) : LT Zsa Bool :=
.lb 1001<|.call (Z5k a0.When) fun x1=>.cs (x1 == ([] : List UInt8)) (.k4 0<|.b8 true<|.b3 true<|.kn [0]<|.rt false)<|.k4 0<|.cs (decide (a0.Who < 0)) (.k4 1<|.b5 true<|.b2 true<|.kn [0]<|.rt false)<|.k4 1<|.cs (decide (a0.Who > 2)) (.k5 2<|.k2 2<|.kn [0]<|.rt false)<|.k3 2<|.call (Zz0 a0.When) fun x6=>.k2 2<|.cs (!x6) (.k3 3<|.kg 2<|.kg 3<|.kg 2<|.br (a0.Who != 0) (.rt false)<|.jn 0 (.L0 a0) [.relab 1001 30000000] (Zo9 a0))<|.k3 3<|.kg 2<|.kg 3<|.kg 2<|.kn [0]<|.jn 0 (.L0 a0) [.relab 1001 30000000] (Zo9 a0)
def Zaiv : LF Zsa Bool := ⟨134, [.t 2], false, fun | .L0 .. => [1,1],
 fun | .L0 E0 => ⟨50, [(1, (.bptr 30000000 0))], [(30000000, .box (bx (Zc1 E0)))]⟩,
 fun r => [], fun r => (wB r), fun | .L0 E0 => Zo9 E0⟩
def Zaiw (a0 : Zb9) : Option Bool := Zaiv.run (Zaiu a0)
theorem Zaqk (a0 : Zb9) {r : Bool} (h : Zaiw a0 = some r) : Fn PR 134 [(wA (Zc1 a0))] (wB r) := Zaiv.fn h
def Z5l (a0 : Zc) : LT Empty Bool :=
.lb 1001<|.call (Zex a0) fun x1=>.cs x1 (.k4 0<|.rt (a0.Zone == 0))<|.k4 0<|.rt false
def Z5m : LF Empty Bool := .z 170 [.t 2] false (fun r => []) (fun r => (wB r))
def Z1o (a0 : Zc) : Option Bool := Z5m.run (Z5l a0)
theorem Zsb (a0 : Zc) {r : Bool} (h : Z1o a0 = some r) : Fn PR 170 [(wA (Zg a0))] (wB r) := Z5m.fn h
def Z5n (a0 : Zaj) : LT Empty Bool :=
.lb 1001<|.cs (a0.Who != 0) (.k5 0<|.kn [0]<|.rt false)<|.k3 0<|.call (Zsb a0.Filter) fun x2=>.k2 0<|.br (!x2) (.rt false)<|.br (a0.Do == 5) (.cs (a0.N == 0) (.k4 3<|.cs (a0.Counter == 0) (.k4 4<|.cs (a0.Zone == 1) (.k3 5<|.kg 4<|.kg 5<|.kg 4<|.b3 true<|.kg 4<|.kb true<|.kg 4<|.rt true)<|.k3 5<|.kg 4<|.kg 5<|.kg 4<|.cs (a0.Zone == 2) (.k3 6<|.kg 4<|.kg 6<|.kg 4<|.rt true)<|.k3 6<|.kg 4<|.kg 6<|.kg 4<|.rt (a0.Zone == 4))<|.k8 4<|.rt false)<|.k4 3<|.b8 false<|.rt false)<|.br (a0.Do == 6) (.cs (a0.N == 0) (.k4 4<|.cs (a0.Counter == 0) (.k4 5<|.rt (a0.Zone == 0))<|.k4 5<|.rt false)<|.k4 4<|.b4 false<|.rt false)<|.br (a0.Do == 7) (.cs (a0.Zone == 0) (.k4 5<|.cs (decide (a0.N ≥ 1)) (.k4 6<|.cs (decide (a0.N ≤ 99)) (.k4 7<|.cs (decide (a0.Counter ≥ 0)) (.k4 8<|.rt (decide (a0.Counter < 3)))<|.k4 8<|.rt false)<|.k4 7<|.b4 false<|.rt false)<|.k4 6<|.b8 false<|.rt false)<|.k4 5<|.b8 false<|.b4 false<|.rt false)<|.rt false
def Z5o : LF Empty Bool := .z 168 [.t 2] false (fun r => []) (fun r => (wB r))
def Z1p (a0 : Zaj) : Option Bool := Z5o.run (Z5n a0)
theorem Zaix (a0 : Zaj) {r : Bool} (h : Z1p a0 = some r) : Fn PR 168 [(wA (Zbk a0))] (wB r) := Z5o.fn h
def Z5p (a0 : Zaj) : LT Empty Bool :=
.lb 1001<|.cs (a0.Zone != 0) (.k4 0<|.kn [0]<|.rt false)<|.k4 0<|.br (a0.Counter != 0) (.rt false)<|.cs (a0.Do == 2) (.k4 2<|.kn [0]<|.cs (decide (a0.N ≥ 1)) (.k4 3<|.rt (decide (a0.N ≤ 99)))<|.k4 3<|.rt false)<|.k4 2<|.br (a0.Do == 4) (.cs (decide (a0.N ≥ 1)) (.k4 4<|.rt (decide (a0.N ≤ 99)))<|.k4 4<|.rt false)<|.rt (a0.N == 0)
def Z5q : LF Empty Bool := .z 169 [.t 2] false (fun r => []) (fun r => (wB r))
def Z1q (a0 : Zaj) : Option Bool := Z5q.run (Z5p a0)
theorem Zaiy (a0 : Zaj) {r : Bool} (h : Z1q a0 = some r) : Fn PR 169 [(wA (Zbk a0))] (wB r) := Z5q.fn h
inductive Zlb where
 | L0 (E0 : Zaj) (v3 : Bool) (v4 : Bool)
 | L1 (E0 : Zaj) (v3 : Bool)
 | L2 (E0 : Zaj) (v3 : Bool) (v4 : Bool) (v109 : Bool)
def Zlp (E0 : Zaj) (v3 : Bool) (v4 : Bool) (v109 : Bool) : LT Zlb Bool :=
.br v109 (.cs v4 (.k4 1<|.cs (decide (E0.Who ≥ 0)) (.k4 2<|.cs (decide (E0.Who ≤ 2)) (.k2 3<|.rt v3)<|.k2 3<|.rt false)<|.k4 2<|.b2 false<|.rt false)<|.k4 1<|.b5 false<|.kb false<|.rt false)<|.rt false
def Zi1 (E0 : Zaj) (v3 : Bool) : LT Zlb Bool :=
.cs (E0.Who == 0) (.k3 0<|.call (Zsb E0.Filter) fun x2=>.kg 0<|.cs x2 (.k8 1<|.rt true)<|.k4 1<|.cs (E0.Who == 1) (.k3 2<|.kg 1<|.kg 2<|.kg 1<|.kb true<|.kg 1<|.kb true<|.kg 1<|.rt v3)<|.k3 2<|.kg 1<|.kg 2<|.kg 1<|.cs (E0.Who == 2) (.kg 3<|.kg 1<|.kg 3<|.kg 1<|.rt v3)<|.kg 3<|.kg 1<|.kg 3<|.kg 1<|.rt false)<|.k4 0<|.b4 false<|.cs (E0.Who == 1) (.k3 1<|.kb false<|.kg 1<|.kb false<|.kb true<|.kb false<|.kb true<|.kb false<|.rt v3)<|.k3 1<|.kb false<|.kg 1<|.kb false<|.cs (E0.Who == 2) (.kg 2<|.kb false<|.kg 2<|.kb false<|.rt v3)<|.kg 2<|.kb false<|.kg 2<|.kb false<|.rt false
def Zlq (E0 : Zaj) (v3 : Bool) (v4 : Bool) : LT Zlb Bool :=
.br (E0.On == 1) (.cs (E0.Do != 1) (.k4 1<|.cs (E0.Do != 2) (.k4 2<|.cs (E0.Do != 3) (.k4 3<|.br (E0.Do != 4) (.rt false)<|.j0 (.L1 E0 v3) (Zi1 E0 v3))<|.k4 3<|.kn [0]<|.j0 (.L1 E0 v3) (Zi1 E0 v3))<|.k4 2<|.b4 false<|.kn [0]<|.j0 (.L1 E0 v3) (Zi1 E0 v3))<|.k4 1<|.b8 false<|.kn [0]<|.j0 (.L1 E0 v3) (Zi1 E0 v3))<|.br (E0.On == 8) (.cs v4 (.k4 2<|.cs (E0.Who == 0) (.k3 3<|.call (Zsb E0.Filter) fun x9=>.kg 3<|.rt x9)<|.k4 3<|.rt false)<|.k4 2<|.b4 false<|.rt false)<|.br (E0.On == 3) (.cs (E0.Do == 4) (.k4 3<|.b4 true<|.cs (decide (E0.Who ≥ 0)) (.k4 4<|.cs (decide (E0.Who ≤ 2)) (.k2 5<|.rt v3)<|.k2 5<|.rt false)<|.k4 4<|.b2 false<|.rt false)<|.k4 3<|.cs (E0.Do == 8) (.k4 4<|.cs (decide (E0.Who ≥ 0)) (.k4 5<|.cs (decide (E0.Who ≤ 2)) (.k2 6<|.rt v3)<|.k2 6<|.rt false)<|.k4 5<|.b2 false<|.rt false)<|.k4 4<|.b5 false<|.kb false<|.rt false)<|.br (E0.On == 4) (.j0 (.L2 E0 v3 v4 (E0.On == 4)) (Zlp E0 v3 v4 (E0.On == 4)))<|.br (E0.On == 5) (.j0 (.L2 E0 v3 v4 (E0.On == 5)) (Zlp E0 v3 v4 (E0.On == 5)))<|.j0 (.L2 E0 v3 v4 (E0.On == 10)) (Zlp E0 v3 v4 (E0.On == 10))
def Zaiz (a0 : Zaj) : LT Zlb Bool :=
.lb 1001<|.br (a0.On == 2) (.call (Zaix a0) fun x2=>.rt x2)<|.call (Zaiy a0) fun x4=>.br (!x4) (.rt false)<|.cs (a0.Do == 3) (.k4 2<|.b4 true<|.jn 0 (.L0 a0 (Zab (Zg a0.Filter) (Zg (⟨0, 0, 0, 0, 0, 0, 0, ([] : List UInt8), 0, 0, (⟨0, 0⟩ : Za), (⟨0, 0⟩ : Za), (⟨0, 0⟩ : Za)⟩ : Zc))) true) [.relab 1001 30000000] (Zlq a0 (Zab (Zg a0.Filter) (Zg (⟨0, 0, 0, 0, 0, 0, 0, ([] : List UInt8), 0, 0, (⟨0, 0⟩ : Za), (⟨0, 0⟩ : Za), (⟨0, 0⟩ : Za)⟩ : Zc))) true))<|.k4 2<|.cs (a0.Do == 4) (.k4 3<|.jn 0 (.L0 a0 (Zab (Zg a0.Filter) (Zg (⟨0, 0, 0, 0, 0, 0, 0, ([] : List UInt8), 0, 0, (⟨0, 0⟩ : Za), (⟨0, 0⟩ : Za), (⟨0, 0⟩ : Za)⟩ : Zc))) true) [.relab 1001 30000000] (Zlq a0 (Zab (Zg a0.Filter) (Zg (⟨0, 0, 0, 0, 0, 0, 0, ([] : List UInt8), 0, 0, (⟨0, 0⟩ : Za), (⟨0, 0⟩ : Za), (⟨0, 0⟩ : Za)⟩ : Zc))) true))<|.k4 3<|.jn 0 (.L0 a0 (Zab (Zg a0.Filter) (Zg (⟨0, 0, 0, 0, 0, 0, 0, ([] : List UInt8), 0, 0, (⟨0, 0⟩ : Za), (⟨0, 0⟩ : Za), (⟨0, 0⟩ : Za)⟩ : Zc))) (a0.Do == 8)) [.relab 1001 30000000] (Zlq a0 (Zab (Zg a0.Filter) (Zg (⟨0, 0, 0, 0, 0, 0, 0, ([] : List UInt8), 0, 0, (⟨0, 0⟩ : Za), (⟨0, 0⟩ : Za), (⟨0, 0⟩ : Za)⟩ : Zc))) (a0.Do == 8))
def Zai0 : LF Zlb Bool := ⟨135, [.t 2], false, fun | .L0 .. => [1,1,1,1,1] | .L1 .. => [1,1,1,1,1,0,1,4,1,2,1] | .L2 .. => [1,1,1,1,1,0,1,4,1,3,1,3,1,3,1],
 fun | .L0 E0 v3 v4 => ⟨127, [(1, (.bptr 30000000 0)), (3, (wB v3)), (4, (wB v4))], [(30000000, .box (bx (Zbk E0)))]⟩ | .L1 E0 v3 => ⟨127, [(1, (.bptr 30000000 0)), (3, (wB v3))], [(30000000, .box (bx (Zbk E0)))]⟩ | .L2 E0 v3 v4 v109 => ⟨127, [(1, (.bptr 30000000 0)), (3, (wB v3)), (4, (wB v4)), (109, (wB v109))], [(30000000, .box (bx (Zbk E0)))]⟩,
 fun r => [], fun r => (wB r), fun | .L0 E0 v3 v4 => Zlq E0 v3 v4 | .L1 E0 v3 => Zi1 E0 v3 | .L2 E0 v3 v4 v109 => Zlp E0 v3 v4 v109⟩
def Zai1 (a0 : Zaj) : Option Bool := Zai0.run (Zaiz a0)
theorem Zaql (a0 : Zaj) {r : Bool} (h : Zai1 a0 = some r) : Fn PR 135 [(wA (Zbk a0))] (wB r) := Zai0.fn h
def Zaao (a0 : Zcw) : LT Empty Bool :=
.lb 1001<|.br (!a0.Object) (.cs a0.Player (.k5 1<|.rt (Zab (Zg a0.Filter) (Zg (⟨0, 0, 0, 0, 0, 0, 0, ([] : List UInt8), 0, 0, (⟨0, 0⟩ : Za), (⟨0, 0⟩ : Za), (⟨0, 0⟩ : Za)⟩ : Zc))))<|.k5 1<|.rt false)<|.call (Zex a0.Filter) fun x3=>.cs x3 (.k3 1<|.cs (a0.Filter.Zone == 0) (.k2 2<|.kg 1<|.kg 2<|.kg 1<|.b2 true<|.kg 1<|.kb true<|.kg 1<|.rt true)<|.k2 2<|.kg 1<|.kg 2<|.kg 1<|.cs (a0.Filter.Zone == 3) (.k2 3<|.kg 1<|.kg 3<|.kg 1<|.rt true)<|.k2 3<|.kg 1<|.kg 3<|.kg 1<|.rt (a0.Filter.Zone == 5))<|.k5 1<|.k2 1<|.rt false
def Zaap : LF Empty Bool := .z 171 [.t 2] false (fun r => []) (fun r => (wB r))
def Z7x (a0 : Zcw) : Option Bool := Zaap.run (Zaao a0)
theorem Zals (a0 : Zcw) {r : Bool} (h : Z7x a0 = some r) : Fn PR 171 [(wA (Zbg a0))] (wB r) := Zaap.fn h
inductive Zkd where
 | L0 (v0 : (List Zcw)) (v3 : Int)
def Zsc (v0 : (List Zcw)) (v3 : Int) : LT Zkd Bool :=
.len Zbg v0<|.br (decide (v3 < (v0.length : Int))) (.idx Zbg v0 v3 fun x3=>.call (Zals x3) fun x5=>.br (!x5) (.rt false)<|.g0 (.L0 v0 (IntKind.wrap .i64 (v3 + 1))))<|.len Zbg v0<|.rt (decide ((v0.length : Int) ≤ 4))
def Z5r (a0 : (List Zcw)) : LT Zkd Bool :=
.g0 (.L0 a0 0)
def Z5s : LF Zkd Bool := ⟨136, [.t 2], false, fun | .L0 .. => [1,0,1,4],
 fun | .L0 v0 v3 => ⟨19, [(0, (wL Zbg v0)), (3, (wI v3))], []⟩,
 fun r => [], fun r => (wB r), fun | .L0 v0 v3 => Zsc v0 v3⟩
def Z1r (a0 : (List Zcw)) : Option Bool := Z5s.run (Z5r a0)
theorem Zai2 (a0 : (List Zcw)) {r : Bool} (h : Z1r a0 = some r) : Fn PR 136 [(wL Zbg a0)] (wB r) := Z5s.fn h
def Zaaq (a0 : Int) : LT Empty (List UInt8) :=
.cs (decide (a0 < 1)) (.k3 0<|.kn [0]<|.rt ([] : List UInt8))<|.k3 0<|.br (decide (a0 > 26)) (.rt ([] : List UInt8))<|.dr [.lit]<|.idx cS [([100, 97, 109, 97, 103, 101] : List UInt8), ([100, 101, 115, 116, 114, 111, 121] : List UInt8), ([109, 111, 118, 101] : List UInt8), ([100, 114, 97, 119] : List UInt8), ([100, 105, 115, 99, 97, 114, 100] : List UInt8), ([103, 97, 105, 110] : List UInt8), ([108, 111, 115, 101] : List UInt8), ([116, 97, 112] : List UInt8), ([117, 110, 116, 97, 112] : List UInt8), ([112, 117, 116] : List UInt8), ([116, 97, 107, 101] : List UInt8), ([99, 114, 101, 97, 116, 101] : List UInt8), ([109, 111, 100] : List UInt8), ([109, 97, 110, 97] : List UInt8), ([99, 111, 117, 110, 116, 101, 114] : List UInt8), ([99, 111, 112, 121] : List UInt8), ([98, 101, 99, 111, 109, 101] : List UInt8), ([115, 97, 99, 114, 105, 102, 105, 99, 101] : List UInt8), ([109, 105, 108, 108] : List UInt8), ([115, 99, 114, 121] : List UInt8), ([115, 101, 97, 114, 99, 104] : List UInt8), ([115, 104, 105, 101, 108, 100] : List UInt8), ([116, 117, 114, 110] : List UInt8), ([119, 105, 110] : List UInt8), ([100, 101, 102, 101, 97, 116] : List UInt8), ([118, 101, 110, 111, 109] : List UInt8)] (IntKind.wrap .i64 (a0 - 1)) fun x6=>.rt x6
def Zaar : LF Empty (List UInt8) := .z 190 [.t 2] false (fun r => []) (fun r => (wS r))
def Z7y (a0 : Int) : Option (List UInt8) := Zaar.run (Zaaq a0)
theorem Zalt (a0 : Int) {r : (List UInt8)} (h : Z7y a0 = some r) : Fn PR 190 [(wI a0)] (wS r) := Zaar.fn h
inductive Zjl where
 | L0 (v3 : Int) (v4 : Bool)
 | L1 (v3 : Int) (v14 : Bool)
def Zke (v3 : Int) (v14 : Bool) : LT Zjl (List UInt8) :=
.br v14 (.rt ([114, 107, 97] : List UInt8))<|.br (v3 == 12) (.rt ([114, 99, 97] : List UInt8))<|.br (v3 == 13) (.rt ([114, 109] : List UInt8))<|.br (v3 == 14) (.rt ([112] : List UInt8))<|.br (v3 == 18) (.rt ([114, 97, 102] : List UInt8))<|.br (v3 == 20) (.rt ([97] : List UInt8))<|.br (v3 == 21) (.rt ([102] : List UInt8))<|.br (v3 == 23) (.kn [8]<|.rt ([] : List UInt8))<|.br (v3 == 24) (.rt ([] : List UInt8))<|.rt ([114, 97] : List UInt8)
def Zdw (v3 : Int) (v4 : Bool) : LT Zjl (List UInt8) :=
.br v4 (.rt ([114] : List UInt8))<|.br (v3 == 3) (.rt ([114, 122] : List UInt8))<|.br (v3 == 10) (.j0 (.L1 v3 (v3 == 10)) (Zke v3 (v3 == 10)))<|.j0 (.L1 v3 (v3 == 11)) (Zke v3 (v3 == 11))
def Zaas (a0 : Int) : LT Zjl (List UInt8) :=
.br (a0 == 2) (.j0 (.L0 a0 (a0 == 2)) (Zdw a0 (a0 == 2)))<|.br (a0 == 8) (.j0 (.L0 a0 (a0 == 8)) (Zdw a0 (a0 == 8)))<|.br (a0 == 9) (.j0 (.L0 a0 (a0 == 9)) (Zdw a0 (a0 == 9)))<|.br (a0 == 15) (.j0 (.L0 a0 (a0 == 15)) (Zdw a0 (a0 == 15)))<|.br (a0 == 16) (.j0 (.L0 a0 (a0 == 16)) (Zdw a0 (a0 == 16)))<|.br (a0 == 17) (.j0 (.L0 a0 (a0 == 17)) (Zdw a0 (a0 == 17)))<|.j0 (.L0 a0 (a0 == 25)) (Zdw a0 (a0 == 25))
def Zaat : LF Zjl (List UInt8) := ⟨212, [.t 2], false, fun | .L0 .. => [1,0,1,4,1] | .L1 .. => [1,0,1,4,1,3,1,3,1],
 fun | .L0 v3 v4 => ⟨32, [(3, (wI v3)), (4, (wB v4))], []⟩ | .L1 v3 v14 => ⟨32, [(3, (wI v3)), (14, (wB v14))], []⟩,
 fun r => [], fun r => (wS r), fun | .L0 v3 v4 => Zdw v3 v4 | .L1 v3 v14 => Zke v3 v14⟩
def Z7z (a0 : Int) : Option (List UInt8) := Zaat.run (Zaas a0)
theorem Zalu (a0 : Int) {r : (List UInt8)} (h : Z7z a0 = some r) : Fn PR 212 [(wI a0)] (wS r) := Zaat.fn h
inductive Zmo where
 | L0 (v1 : Int) (v5 : (List UInt8)) (v6 : Int)
def Zv2 (v1 : Int) (v5 : (List UInt8)) (v6 : Int) : LT Zmo Bool :=
.lenS v5<|.br (decide (v6 < (v5.length : Int))) (.idxS v5 v6 fun x3=>.br ((UInt8.toNat x3 : Int) == v1) (.rt true)<|.g0 (.L0 v1 v5 (IntKind.wrap .i64 (v6 + 1))))<|.rt false
def Zaau (a0 : Int) (a1 : Int) : LT Zmo Bool :=
.call (Zalu a0) fun x1=>.g0 (.L0 a1 x1 0)
def Zaav : LF Zmo Bool := ⟨191, [.t 4], false, fun | .L0 .. => [1,1,0,1,4],
 fun | .L0 v1 v5 v6 => ⟨20, [(1, (.t (.int .u8 v1))), (5, (wS v5)), (6, (wI v6))], []⟩,
 fun r => [], fun r => (wB r), fun | .L0 v1 v5 v6 => Zv2 v1 v5 v6⟩
def Z70 (a0 : Int) (a1 : Int) : Option Bool := Zaav.run (Zaau a0 a1)
theorem Zfm (a0 : Int) (a1 : Int) {r : Bool} (h : Z70 a0 a1 = some r) : Fn PR 191 [(wI a0), (.t (.int .u8 a1))] (wB r) := Zaav.fn h
def Zxk (a0 : Int) : LT Empty Bool :=
.cs (a0 == 3) (.k3 0<|.rt true)<|.k3 0<|.rt (a0 == 8)
def Zxl : LF Empty Bool := .z 213 [.t 2] false (fun r => []) (fun r => (wB r))
def Zsd (a0 : Int) : Option Bool := Zxl.run (Zxk a0)
theorem Zaaw (a0 : Int) {r : Bool} (h : Zsd a0 = some r) : Fn PR 213 [(wI a0)] (wB r) := Zxl.fn h
inductive Znv where
 | L0 (v1 : Int) (E0 : Z4)
 | L1 (E0 : Z4)
def Zpa (E0 : Z4) : LT Znv Bool :=
.br (E0.Kind == 4) (.call (Zex E0.Filter) fun x2=>.rt x2)<|.rt (Zab (Zg E0.Filter) (Zg (⟨0, 0, 0, 0, 0, 0, 0, ([] : List UInt8), 0, 0, (⟨0, 0⟩ : Za), (⟨0, 0⟩ : Za), (⟨0, 0⟩ : Za)⟩ : Zc)))
def Zpb (v1 : Int) (E0 : Z4) : LT Znv Bool :=
.cs (decide (E0.Kind < 1)) (.k4 0<|.kn [0]<|.rt false)<|.k4 0<|.br (decide (E0.Kind > 8)) (.rt false)<|.call (Zaaw E0.Kind) fun x3=>.br x3 (.cs (decide (E0.N < 1)) (.k5 3<|.kn [0]<|.rt false)<|.k5 3<|.br (decide (E0.N > v1)) (.rt false)<|.j0 (.L1 E0) (Zpa E0))<|.br (E0.N != 0) (.rt false)<|.j0 (.L1 E0) (Zpa E0)
def Zai3 (a0 : Z4) (a1 : Int) : LT Znv Bool :=
.lb 1002<|.br (decide (a1 > 4)) (.jn 0 (.L0 4 a0) [.relab 1002 30000000] (Zpb 4 a0))<|.jn 0 (.L0 a1 a0) [.relab 1002 30000000] (Zpb a1 a0)
def Zai4 : LF Znv Bool := ⟨192, [.t 4], false, fun | .L0 .. => [1,1] | .L1 .. => [1,1,1,1],
 fun | .L0 v1 E0 => ⟨40, [(1, (wI v1)), (2, (.bptr 30000000 0))], [(30000000, .box (bx (Zbh E0)))]⟩ | .L1 E0 => ⟨40, [(2, (.bptr 30000000 0))], [(30000000, .box (bx (Zbh E0)))]⟩,
 fun r => [], fun r => (wB r), fun | .L0 v1 E0 => Zpb v1 E0 | .L1 E0 => Zpa E0⟩
def Zai5 (a0 : Z4) (a1 : Int) : Option Bool := Zai4.run (Zai3 a0 a1)
theorem Zaqm (a0 : Z4) (a1 : Int) {r : Bool} (h : Zai5 a0 a1 = some r) : Fn PR 192 [(wA (Zbh a0)), (wI a1)] (wB r) := Zai4.fn h
def Zaax (a0 : Int) : LT Empty (List UInt8) :=
.br (a0 == 0) (.rt ([112, 108, 117, 115] : List UInt8))<|.br (a0 == 1) (.rt ([109, 105, 110, 117, 115] : List UInt8))<|.br (a0 == 2) (.rt ([99, 104, 97, 114, 103, 101] : List UInt8))<|.rt ([] : List UInt8)
def Zaay : LF Empty (List UInt8) := .z 46 [.t 2] false (fun r => []) (fun r => (wS r))
def Z71 (a0 : Int) : Option (List UInt8) := Zaay.run (Zaax a0)
theorem Z5t (a0 : Int) {r : (List UInt8)} (h : Z71 a0 = some r) : Fn PR 46 [(wI a0)] (wS r) := Zaay.fn h
def Zai6 (a0 : Zt) : LT Empty Bool :=
.lb 1001<|.lb 1003<|.br (a0.Kind == 0) (.cs (decide (a0.N < 0)) (.k4 1<|.kn [0]<|.rt false)<|.k4 1<|.br (decide (a0.N > 1000000)) (.rt false)<|.cs (decide (a0.Kind ≥ 0)) (.k4 3<|.cs (decide (a0.Kind ≤ 7)) (.k5 4<|.kg 4<|.rt (Zab (Z1 (⟨a0.Kind, 0, a0.Counter, a0.Filter⟩ : Zt)) (Z1 (⟨a0.Kind, 0, 0, (⟨0, 0, 0, 0, 0, 0, 0, ([] : List UInt8), 0, 0, (⟨0, 0⟩ : Za), (⟨0, 0⟩ : Za), (⟨0, 0⟩ : Za)⟩ : Zc)⟩ : Zt))))<|.k5 4<|.kg 4<|.rt false)<|.k4 3<|.b5 false<|.kb false<|.rt false)<|.br (a0.Kind == 2) (.cs (decide (a0.N < 1)) (.k4 2<|.b5 true<|.kn [0]<|.rt false)<|.k4 2<|.cs (decide (a0.N > 99)) (.k5 3<|.kn [0]<|.rt false)<|.k3 3<|.call (Zex a0.Filter) fun x9=>.k2 3<|.br (!x9) (.rt false)<|.cs (decide (a0.Kind ≥ 0)) (.k4 5<|.cs (decide (a0.Kind ≤ 7)) (.k5 6<|.kg 6<|.rt (Zab (Z1 (⟨a0.Kind, 0, a0.Counter, (⟨0, 0, 0, 0, 0, 0, 0, ([] : List UInt8), 0, 0, (⟨0, 0⟩ : Za), (⟨0, 0⟩ : Za), (⟨0, 0⟩ : Za)⟩ : Zc)⟩ : Zt)) (Z1 (⟨a0.Kind, 0, 0, (⟨0, 0, 0, 0, 0, 0, 0, ([] : List UInt8), 0, 0, (⟨0, 0⟩ : Za), (⟨0, 0⟩ : Za), (⟨0, 0⟩ : Za)⟩ : Zc)⟩ : Zt))))<|.k5 6<|.kg 6<|.rt false)<|.k4 5<|.b5 false<|.kb false<|.rt false)<|.br (a0.Kind == 4) (.call (Z5t a0.Counter) fun x15=>.br (x15 == ([] : List UInt8)) (.rt false)<|.cs (decide (a0.Kind ≥ 0)) (.k4 4<|.cs (decide (a0.Kind ≤ 7)) (.k5 5<|.kg 5<|.rt (Zab (Z1 (⟨a0.Kind, a0.N, 0, a0.Filter⟩ : Zt)) (Z1 (⟨a0.Kind, 0, 0, (⟨0, 0, 0, 0, 0, 0, 0, ([] : List UInt8), 0, 0, (⟨0, 0⟩ : Za), (⟨0, 0⟩ : Za), (⟨0, 0⟩ : Za)⟩ : Zc)⟩ : Zt))))<|.k5 5<|.kg 5<|.rt false)<|.k4 4<|.b5 false<|.kb false<|.rt false)<|.cs (decide (a0.Kind ≥ 0)) (.k4 3<|.cs (decide (a0.Kind ≤ 7)) (.k5 4<|.kg 4<|.rt (Zab (Z1 a0) (Z1 (⟨a0.Kind, 0, 0, (⟨0, 0, 0, 0, 0, 0, 0, ([] : List UInt8), 0, 0, (⟨0, 0⟩ : Za), (⟨0, 0⟩ : Za), (⟨0, 0⟩ : Za)⟩ : Zc)⟩ : Zt))))<|.k5 4<|.kg 4<|.rt false)<|.k4 3<|.b5 false<|.kb false<|.rt false
def Zai7 : LF Empty Bool := .z 19 [.t 2] false (fun r => []) (fun r => (wB r))
def Zai8 (a0 : Zt) : Option Bool := Zai7.run (Zai6 a0)
theorem Zaqn (a0 : Zt) {r : Bool} (h : Zai8 a0 = some r) : Fn PR 19 [(wA (Z1 a0))] (wB r) := Zai7.fn h
def Zaaz (a0 : (List Zh)) : LT Empty Bool :=
.call (Zmn a0) fun x1=>.rt (!(x1 == ([] : List UInt8)))
def Zaa0 : LF Empty Bool := .z 193 [.t 2] false (fun r => []) (fun r => (wB r))
def Z72 (a0 : (List Zh)) : Option Bool := Zaa0.run (Zaaz a0)
theorem Zalv (a0 : (List Zh)) {r : Bool} (h : Z72 a0 = some r) : Fn PR 193 [(wL Z9 a0)] (wB r) := Zaa0.fn h
inductive Zmp where
 | L0 (E0 : (A6 Int)) (E1 : Zl) (E2 : Zl) (v4 : Int)
def Zv3 (E0 : (A6 Int)) (E1 : Zl) (E2 : Zl) (v4 : Int) : LT Zmp Zl :=
.br (decide (v4 < 5)) (.idA (Ze.int .i64) (A6.list E0) (IntKind.wrap .i64 (v4 + 1)) (bx ((cA6 (cI .i64)) E0)) 0 6 fun x4=>.ldC (Ze.int .i64) 16 x4 0<|.idA (Ze.int .i64) (A5.list E2.Color) v4 (bx (Zah E2)) 2 7 fun x6=>.stA (A5.set? E2.Color v4 x4) (fun h => Zavp (Ze.int .i64) ((bx (Zah E2)).take 2) ((bx (Zah E2)).drop 7) h) fun x8=>.g0 (.L0 E0 E1 (⟨E2.Generic, E2.X, x8⟩ : Zl) (IntKind.wrap .i64 (v4 + 1))))<|.rt E2
def Zaa1 (a0 : (A6 Int)) : LT Zmp Zl :=
.lb 1001<|.lb 1002<|.idA (Ze.int .i64) (A6.list a0) 0 (bx ((cA6 (cI .i64)) a0)) 0 6 fun x1=>.ldC (Ze.int .i64) 6 x1 0<|.lb 1003<|.go (.L0 a0 (⟨0, 0, (⟨0, 0, 0, 0, 0⟩ : (A5 Int))⟩ : Zl) (⟨x1, 0, (⟨0, 0, 0, 0, 0⟩ : (A5 Int))⟩ : Zl) 0) [.relab 1001 30000000, .relab 1002 30000001, .relab 1003 30000002]
def Zaa2 : LF Zmp Zl := ⟨215, [.c 2 78 true 7], false, fun | .L0 .. => [1,1,0,1,4],
 fun | .L0 E0 E1 E2 v4 => ⟨20, [(1, (.bptr 30000000 0)), (2, (.bptr 30000001 0)), (3, (.bptr 30000002 0)), (4, (wI v4))], [(30000000, .box (bx ((cA6 (cI .i64)) E0))), (30000001, .box (bx (Zah E1))), (30000002, .box (bx (Zah E2)))]⟩,
 fun r => [], fun r => (wA (Zah r)), fun | .L0 E0 E1 E2 v4 => Zv3 E0 E1 E2 v4⟩
def Z73 (a0 : (A6 Int)) : Option Zl := Zaa2.run (Zaa1 a0)
theorem Zalw (a0 : (A6 Int)) {r : Zl} (h : Z73 a0 = some r) : Fn PR 215 [(wA ((cA6 (cI .i64)) a0))] (wA (Zah r)) := Zaa2.fn h
inductive Zhr where
 | L0 (E0 : Zl) (v3 : (List UInt8)) (v4 : Int)
 | L1 (E0 : Zl) (v3 : (List UInt8)) (v5 : Int)
 | L2 (E0 : Zl) (v3 : (List UInt8)) (v5 : Int) (v6 : Int)
def Zv4 (E0 : Zl) (v3 : (List UInt8)) (v4 : Int) : LT Zhr (List UInt8) :=
.br (decide (v4 < E0.X)) (.ok (v3.length + ([88] : List UInt8).length ≤ 9223372036854775807)<|.g0 (.L0 E0 (v3 ++ ([88] : List UInt8)) (IntKind.wrap .i64 (v4 + 1))))<|.br (E0.Generic != 0) (.call (Zid E0.Generic) fun x7=>.ok (v3.length + x7.length ≤ 9223372036854775807)<|.g0 (.L1 E0 (v3 ++ x7) 0))<|.g0 (.L1 E0 v3 0)
def Zv5 (E0 : Zl) (v3 : (List UInt8)) (v5 : Int) : LT Zhr (List UInt8) :=
.br (decide (v5 < 5)) (.g0 (.L2 E0 v3 v5 0))<|.br (v3 == ([] : List UInt8)) (.rt ([48] : List UInt8))<|.rt v3
def Zv6 (E0 : Zl) (v3 : (List UInt8)) (v5 : Int) (v6 : Int) : LT Zhr (List UInt8) :=
.idA (Ze.int .i64) (A5.list E0.Color) v5 (bx (Zah E0)) 2 7 fun x1=>.ldC (Ze.int .i64) 34 x1 0<|.br (decide (v6 < x1)) (.slS ([65, 67, 74, 82, 69] : List UInt8) v5 (IntKind.wrap .i64 (v5 + 1)) fun x6=>.ok (v3.length + x6.length ≤ 9223372036854775807)<|.g0 (.L2 E0 (v3 ++ x6) v5 (IntKind.wrap .i64 (v6 + 1))))<|.g0 (.L1 E0 v3 (IntKind.wrap .i64 (v5 + 1)))
def Zaa3 (a0 : Zl) : LT Zhr (List UInt8) :=
.lb 1001<|.call (Zuf a0) fun x1=>.br (!x1) (.rt ([] : List UInt8))<|.go (.L0 a0 ([] : List UInt8) 0) [.relab 1001 30000000]
def Zaa4 : LF Zhr (List UInt8) := ⟨214, [.t 2], false, fun | .L0 .. => [1,1,1,0,1,4] | .L1 .. => [1,1,1,1,1,0,1,4] | .L2 .. => [1,1,1,1,1,0,1,4,5,1,0,4,1,4],
 fun | .L0 E0 v3 v4 => ⟨47, [(1, (.bptr 30000000 0)), (3, (wS v3)), (4, (wI v4))], [(30000000, .box (bx (Zah E0)))]⟩ | .L1 E0 v3 v5 => ⟨47, [(1, (.bptr 30000000 0)), (3, (wS v3)), (5, (wI v5))], [(30000000, .box (bx (Zah E0)))]⟩ | .L2 E0 v3 v5 v6 => ⟨47, [(1, (.bptr 30000000 0)), (3, (wS v3)), (5, (wI v5)), (6, (wI v6))], [(30000000, .box (bx (Zah E0)))]⟩,
 fun r => [], fun r => (wS r), fun | .L0 E0 v3 v4 => Zv4 E0 v3 v4 | .L1 E0 v3 v5 => Zv5 E0 v3 v5 | .L2 E0 v3 v5 v6 => Zv6 E0 v3 v5 v6⟩
def Z74 (a0 : Zl) : Option (List UInt8) := Zaa4.run (Zaa3 a0)
theorem Zalx (a0 : Zl) {r : (List UInt8)} (h : Z74 a0 = some r) : Fn PR 214 [(wA (Zah a0))] (wS r) := Zaa4.fn h
def Zxm (a0 : (A6 Int)) : LT Empty (List UInt8) :=
.lb 1001<|.call (Zalw a0) fun x1=>.call (Zalx x1) fun x3=>.rt x3
def Zxn : LF Empty (List UInt8) := .z 194 [.t 2] false (fun r => []) (fun r => (wS r))
def Zse (a0 : (A6 Int)) : Option (List UInt8) := Zxn.run (Zxm a0)
theorem Zaa5 (a0 : (A6 Int)) {r : (List UInt8)} (h : Zse a0 = some r) : Fn PR 194 [(wA ((cA6 (cI .i64)) a0))] (wS r) := Zxn.fn h
def Z1s (a0 : Int) (a1 : Zc) : LT Empty Bool :=
.lb 1003<|.br (a0 == 21) (.call (Zex a1) fun x2=>.cs x2 (.k5 1<|.rt (a1.Zone == 2))<|.k5 1<|.rt false)<|.call (Zex a1) fun x5=>.cs x5 (.k5 1<|.rt (a1.Zone == 0))<|.k5 1<|.rt false
def Z1t : LF Empty Bool := .z 195 [.t 4] false (fun r => []) (fun r => (wB r))
def Zy2 (a0 : Int) (a1 : Zc) : Option Bool := Z1t.run (Z1s a0 a1)
theorem Zafm (a0 : Int) (a1 : Zc) {r : Bool} (h : Zy2 a0 a1 = some r) : Fn PR 195 [(wI a0), (wA (Zg a1))] (wB r) := Z1t.fn h
inductive Ze6 where
 | L0 (E0 : Zs) (v5 : Bool)
 | L1 (E0 : Zs) (v5 : Bool) (v6 : Bool)
 | L2 (E0 : Zs) (v5 : Bool) (v6 : Bool) (v7 : Bool)
 | L3 (E0 : Zs) (v5 : Bool) (v6 : Bool) (v7 : Bool) (v8 : Bool)
 | L4 (E0 : Zs) (v5 : Bool) (v6 : Bool) (v7 : Bool) (v8 : Bool) (v9 : Bool)
 | L5 (E0 : Zs) (v5 : Bool) (v6 : Bool) (v7 : Bool) (v8 : Bool) (v9 : Bool) (v10 : Bool)
 | L6 (E0 : Zs) (v5 : Bool) (v6 : Bool) (v7 : Bool) (v8 : Bool) (v9 : Bool) (v10 : Bool) (v11 : Bool)
 | L7 (v5 : Bool) (v6 : Bool) (v7 : Bool) (v8 : Bool) (v9 : Bool) (v10 : Bool) (v11 : Bool) (v12 : Bool)
def Zpc (v5 : Bool) (v6 : Bool) (v7 : Bool) (v8 : Bool) (v9 : Bool) (v10 : Bool) (v11 : Bool) (v12 : Bool) : LT Ze6 Bool :=
.cs v5 (.k2 0<|.cs v6 (.k2 1<|.cs v7 (.k2 2<|.cs v8 (.k2 3<|.cs v9 (.k2 4<|.cs v10 (.k2 5<|.cs v11 (.k2 6<|.rt v12)<|.k2 6<|.rt false)<|.k2 5<|.b2 false<|.rt false)<|.k2 4<|.b4 false<|.rt false)<|.k2 3<|.b5 false<|.kb false<|.rt false)<|.k2 2<|.b8 false<|.rt false)<|.k2 1<|.b8 false<|.b2 false<|.rt false)<|.k2 0<|.b8 false<|.b4 false<|.rt false
def Zlr (E0 : Zs) (v5 : Bool) (v6 : Bool) (v7 : Bool) (v8 : Bool) (v9 : Bool) (v10 : Bool) (v11 : Bool) : LT Ze6 Bool :=
.call (Zfm E0.Op 102) fun x1=>.br x1 (.call (Zafm E0.Op E0.Filter) fun x4=>.j0 (.L7 v5 v6 v7 v8 v9 v10 v11 x4) (Zpc v5 v6 v7 v8 v9 v10 v11 x4))<|.j0 (.L7 v5 v6 v7 v8 v9 v10 v11 (Zab (Zg E0.Filter) (Zg (⟨0, 0, 0, 0, 0, 0, 0, ([] : List UInt8), 0, 0, (⟨0, 0⟩ : Za), (⟨0, 0⟩ : Za), (⟨0, 0⟩ : Za)⟩ : Zc)))) (Zpc v5 v6 v7 v8 v9 v10 v11 (Zab (Zg E0.Filter) (Zg (⟨0, 0, 0, 0, 0, 0, 0, ([] : List UInt8), 0, 0, (⟨0, 0⟩ : Za), (⟨0, 0⟩ : Za), (⟨0, 0⟩ : Za)⟩ : Zc))))
def Zpd (E0 : Zs) (v5 : Bool) (v6 : Bool) (v7 : Bool) (v8 : Bool) (v9 : Bool) (v10 : Bool) : LT Ze6 Bool :=
.call (Zfm E0.Op 112) fun x1=>.br x1 (.cs (!(Zab ((cA6 (cI .i64)) E0.Pool) ((cA6 (cI .i64)) (⟨0, 0, 0, 0, 0, 0⟩ : (A6 Int))))) (.k3 1<|.call (Zaa5 E0.Pool) fun x5=>.k2 1<|.j0 (.L6 E0 v5 v6 v7 v8 v9 v10 (!(x5 == ([] : List UInt8)))) (Zlr E0 v5 v6 v7 v8 v9 v10 (!(x5 == ([] : List UInt8)))))<|.k5 1<|.j0 (.L6 E0 v5 v6 v7 v8 v9 v10 false) (Zlr E0 v5 v6 v7 v8 v9 v10 false))<|.j0 (.L6 E0 v5 v6 v7 v8 v9 v10 (Zab ((cA6 (cI .i64)) E0.Pool) ((cA6 (cI .i64)) (⟨0, 0, 0, 0, 0, 0⟩ : (A6 Int))))) (Zlr E0 v5 v6 v7 v8 v9 v10 (Zab ((cA6 (cI .i64)) E0.Pool) ((cA6 (cI .i64)) (⟨0, 0, 0, 0, 0, 0⟩ : (A6 Int)))))
def Zpe (E0 : Zs) (v5 : Bool) (v6 : Bool) (v7 : Bool) (v8 : Bool) (v9 : Bool) : LT Ze6 Bool :=
.len Z9 E0.Mods<|.call (Zfm E0.Op 109) fun x2=>.br x2 (.call (Zalv E0.Mods) fun x5=>.j0 (.L5 E0 v5 v6 v7 v8 v9 x5) (Zpd E0 v5 v6 v7 v8 v9 x5))<|.j0 (.L5 E0 v5 v6 v7 v8 v9 ((E0.Mods.length : Int) == 0)) (Zpd E0 v5 v6 v7 v8 v9 ((E0.Mods.length : Int) == 0))
def Zpf (E0 : Zs) (v5 : Bool) (v6 : Bool) (v7 : Bool) (v8 : Bool) : LT Ze6 Bool :=
.call (Zfm E0.Op 97) fun x1=>.br x1 (.call (Zaqn E0.Amount) fun x4=>.j0 (.L4 E0 v5 v6 v7 v8 x4) (Zpe E0 v5 v6 v7 v8 x4))<|.j0 (.L4 E0 v5 v6 v7 v8 (Zab (Z1 E0.Amount) (Z1 (⟨0, 0, 0, (⟨0, 0, 0, 0, 0, 0, 0, ([] : List UInt8), 0, 0, (⟨0, 0⟩ : Za), (⟨0, 0⟩ : Za), (⟨0, 0⟩ : Za)⟩ : Zc)⟩ : Zt)))) (Zpe E0 v5 v6 v7 v8 (Zab (Z1 E0.Amount) (Z1 (⟨0, 0, 0, (⟨0, 0, 0, 0, 0, 0, 0, ([] : List UInt8), 0, 0, (⟨0, 0⟩ : Za), (⟨0, 0⟩ : Za), (⟨0, 0⟩ : Za)⟩ : Zc)⟩ : Zt))))
def Zls (E0 : Zs) (v5 : Bool) (v6 : Bool) (v7 : Bool) : LT Ze6 Bool :=
.call (Zfm E0.Op 99) fun x1=>.br x1 (.call (Z1d E0.Card) fun x4=>.j0 (.L3 E0 v5 v6 v7 x4) (Zpf E0 v5 v6 v7 x4))<|.j0 (.L3 E0 v5 v6 v7 (E0.Card == ([] : List UInt8))) (Zpf E0 v5 v6 v7 (E0.Card == ([] : List UInt8)))
def Zi2 (E0 : Zs) (v5 : Bool) (v6 : Bool) : LT Ze6 Bool :=
.cs (E0.Counter == 0) (.k5 0<|.kg 0<|.j0 (.L2 E0 v5 v6 true) (Zls E0 v5 v6 true))<|.k3 0<|.call (Zfm E0.Op 107) fun x2=>.kg 0<|.cs x2 (.k3 1<|.call (Z5t E0.Counter) fun x5=>.kg 1<|.kg 0<|.kg 1<|.kg 0<|.j0 (.L2 E0 v5 v6 (!(x5 == ([] : List UInt8)))) (Zls E0 v5 v6 (!(x5 == ([] : List UInt8)))))<|.k4 1<|.kg 0<|.kg 1<|.kg 0<|.j0 (.L2 E0 v5 v6 false) (Zls E0 v5 v6 false)
def Zpg (E0 : Zs) (v5 : Bool) : LT Ze6 Bool :=
.cs (E0.Zone == 0) (.k8 0<|.j0 (.L1 E0 v5 true) (Zi2 E0 v5 true))<|.k3 0<|.call (Zfm E0.Op 122) fun x2=>.kg 0<|.cs x2 (.k3 1<|.kg 0<|.kg 1<|.kg 0<|.cs (decide (E0.Zone > 0)) (.k3 2<|.kg 0<|.kg 2<|.kg 0<|.j0 (.L1 E0 v5 (decide (E0.Zone ≤ 4))) (Zi2 E0 v5 (decide (E0.Zone ≤ 4))))<|.k3 2<|.kg 0<|.kg 2<|.kg 0<|.j0 (.L1 E0 v5 false) (Zi2 E0 v5 false))<|.k3 1<|.kg 0<|.kg 1<|.kg 0<|.b3 false<|.kg 0<|.kb false<|.kg 0<|.j0 (.L1 E0 v5 false) (Zi2 E0 v5 false)
def Zai9 (a0 : Zs) (a1 : Int) : LT Ze6 Bool :=
.lb 1002<|.call (Zalt a0.Op) fun x1=>.br (x1 == ([] : List UInt8)) (.rt false)<|.call (Zfm a0.Op 114) fun x4=>.br x4 (.call (Zaqm a0.Ref a1) fun x7=>.jn 0 (.L0 a0 x7) [.relab 1002 30000000] (Zpg a0 x7))<|.jn 0 (.L0 a0 (Zab (Zbh a0.Ref) (Zbh (⟨0, 0, (⟨0, 0, 0, 0, 0, 0, 0, ([] : List UInt8), 0, 0, (⟨0, 0⟩ : Za), (⟨0, 0⟩ : Za), (⟨0, 0⟩ : Za)⟩ : Zc)⟩ : Z4)))) [.relab 1002 30000000] (Zpg a0 (Zab (Zbh a0.Ref) (Zbh (⟨0, 0, (⟨0, 0, 0, 0, 0, 0, 0, ([] : List UInt8), 0, 0, (⟨0, 0⟩ : Za), (⟨0, 0⟩ : Za), (⟨0, 0⟩ : Za)⟩ : Zc)⟩ : Z4))))
def Zaja : LF Ze6 Bool := ⟨172, [.t 4], false, fun | .L0 .. => [1,1,1,1] | .L1 .. => [1,1,1,1,1] | .L2 .. => [1,1,1,1,1,1] | .L3 .. => [1,1,1,1,1,1,1,1] | .L4 .. => [1,1,1,1,1,1,1,1,1,1] | .L5 .. => [1,1,1,1,1,1,1,1,1,1,1,1] | .L6 .. => [1,1,1,1,1,1,1,1,1,1,1,1,1,1] | .L7 .. => [1,1,1,1,1,1,1,1,1,1,1,1,1,1,1,1],
 fun | .L0 E0 v5 => ⟨138, [(2, (.bptr 30000000 0)), (5, (wB v5))], [(30000000, .box (bx (Z5 E0)))]⟩ | .L1 E0 v5 v6 => ⟨138, [(2, (.bptr 30000000 0)), (5, (wB v5)), (6, (wB v6))], [(30000000, .box (bx (Z5 E0)))]⟩ | .L2 E0 v5 v6 v7 => ⟨138, [(2, (.bptr 30000000 0)), (5, (wB v5)), (6, (wB v6)), (7, (wB v7))], [(30000000, .box (bx (Z5 E0)))]⟩ | .L3 E0 v5 v6 v7 v8 => ⟨138, [(2, (.bptr 30000000 0)), (5, (wB v5)), (6, (wB v6)), (7, (wB v7)), (8, (wB v8))], [(30000000, .box (bx (Z5 E0)))]⟩ | .L4 E0 v5 v6 v7 v8 v9 => ⟨138, [(2, (.bptr 30000000 0)), (5, (wB v5)), (6, (wB v6)), (7, (wB v7)), (8, (wB v8)), (9, (wB v9))], [(30000000, .box (bx (Z5 E0)))]⟩ | .L5 E0 v5 v6 v7 v8 v9 v10 => ⟨138, [(2, (.bptr 30000000 0)), (5, (wB v5)), (6, (wB v6)), (7, (wB v7)), (8, (wB v8)), (9, (wB v9)), (10, (wB v10))], [(30000000, .box (bx (Z5 E0)))]⟩ | .L6 E0 v5 v6 v7 v8 v9 v10 v11 => ⟨138, [(2, (.bptr 30000000 0)), (5, (wB v5)), (6, (wB v6)), (7, (wB v7)), (8, (wB v8)), (9, (wB v9)), (10, (wB v10)), (11, (wB v11))], [(30000000, .box (bx (Z5 E0)))]⟩ | .L7 v5 v6 v7 v8 v9 v10 v11 v12 => ⟨138, [(5, (wB v5)), (6, (wB v6)), (7, (wB v7)), (8, (wB v8)), (9, (wB v9)), (10, (wB v10)), (11, (wB v11)), (12, (wB v12))], []⟩,
 fun r => [], fun r => (wB r), fun | .L0 E0 v5 => Zpg E0 v5 | .L1 E0 v5 v6 => Zi2 E0 v5 v6 | .L2 E0 v5 v6 v7 => Zls E0 v5 v6 v7 | .L3 E0 v5 v6 v7 v8 => Zpf E0 v5 v6 v7 v8 | .L4 E0 v5 v6 v7 v8 v9 => Zpe E0 v5 v6 v7 v8 v9 | .L5 E0 v5 v6 v7 v8 v9 v10 => Zpd E0 v5 v6 v7 v8 v9 v10 | .L6 E0 v5 v6 v7 v8 v9 v10 v11 => Zlr E0 v5 v6 v7 v8 v9 v10 v11 | .L7 v5 v6 v7 v8 v9 v10 v11 v12 => Zpc v5 v6 v7 v8 v9 v10 v11 v12⟩
def Zajb (a0 : Zs) (a1 : Int) : Option Bool := Zaja.run (Zai9 a0 a1)
theorem Zaqo (a0 : Zs) (a1 : Int) {r : Bool} (h : Zajb a0 a1 = some r) : Fn PR 172 [(wA (Z5 a0)), (wI a1)] (wB r) := Zaja.fn h
inductive Zhz where
 | L0 (v0 : (List Zs)) (v1 : Int) (v5 : Int)
def Znw (v0 : (List Zs)) (v1 : Int) (v5 : Int) : LT Zhz Bool :=
.len Z5 v0<|.br (decide (v5 < (v0.length : Int))) (.idx Z5 v0 v5 fun x3=>.call (Zaqo x3 v1) fun x5=>.br (!x5) (.rt false)<|.g0 (.L0 v0 v1 (IntKind.wrap .i64 (v5 + 1))))<|.len Z5 v0<|.cs (decide ((v0.length : Int) ≥ 1)) (.k2 1<|.len Z5 v0<|.k2 1<|.rt (decide ((v0.length : Int) ≤ 8)))<|.k4 1<|.rt false
def Zz1 (a0 : (List Zs)) (a1 : Int) : LT Zhz Bool :=
.g0 (.L0 a0 a1 0)
def Zz2 : LF Zhz Bool := ⟨137, [.t 4], false, fun | .L0 .. => [1,0,1,4],
 fun | .L0 v0 v1 v5 => ⟨27, [(0, (wL Z5 v0)), (1, (wI v1)), (5, (wI v5))], []⟩,
 fun r => [], fun r => (wB r), fun | .L0 v0 v1 v5 => Znw v0 v1 v5⟩
def Zv7 (a0 : (List Zs)) (a1 : Int) : Option Bool := Zz2.run (Zz1 a0 a1)
theorem Zac8 (a0 : (List Zs)) (a1 : Int) {r : Bool} (h : Zv7 a0 a1 = some r) : Fn PR 137 [(wL Z5 a0), (wI a1)] (wB r) := Zz2.fn h
inductive Zhs where
 | L0 (E0 : Zk) (v3 : Bool)
 | L1 (E0 : Zk) (v3 : Bool)
 | L2 (E0 : Zk) (v3 : Bool)
 | L3 (E0 : Zk) (v3 : Bool)
 | L4 (E0 : Zk) (v3 : Bool)
def Zph (E0 : Zk) (v3 : Bool) : LT Zhs Bool :=
.br v3 (.call (Zai2 E0.Specs) fun x2=>.cs x2 (.k5 1<|.len Zbg E0.Specs<|.kg 1<|.call (Zac8 E0.Effects (E0.Specs.length : Int)) fun x6=>.kg 1<|.rt x6)<|.k5 1<|.k2 1<|.rt false)<|.len Zbg E0.Specs<|.cs ((E0.Specs.length : Int) == 0) (.k3 1<|.len Z5 E0.Effects<|.k2 1<|.rt ((E0.Effects.length : Int) == 0))<|.k5 1<|.rt false
def Zpi (E0 : Zk) (v3 : Bool) : LT Zhs Bool :=
.br (E0.Kind == 5) (.call (Zaql E0.Replace) fun x2=>.br (!x2) (.rt false)<|.j0 (.L4 E0 v3) (Zph E0 v3))<|.br (!(Zab (Zbk E0.Replace) (Zbk (⟨0, 0, (⟨0, 0, 0, 0, 0, 0, 0, ([] : List UInt8), 0, 0, (⟨0, 0⟩ : Za), (⟨0, 0⟩ : Za), (⟨0, 0⟩ : Za)⟩ : Zc), 0, 0, 0, 0⟩ : Zaj)))) (.rt false)<|.j0 (.L4 E0 v3) (Zph E0 v3)
def Zpj (E0 : Zk) (v3 : Bool) : LT Zhs Bool :=
.br (E0.Kind == 4) (.call (Zaqk E0.Trigger) fun x2=>.br (!x2) (.rt false)<|.j0 (.L3 E0 v3) (Zpi E0 v3))<|.cs (!(Zab (Zc1 E0.Trigger) (Zc1 (⟨0, 0, (⟨0, 0, 0, 0, 0, 0, 0, ([] : List UInt8), 0, 0, (⟨0, 0⟩ : Za), (⟨0, 0⟩ : Za), (⟨0, 0⟩ : Za)⟩ : Zc)⟩ : Zb9)))) (.k3 1<|.kn [0]<|.rt false)<|.k3 1<|.br E0.May (.rt false)<|.j0 (.L3 E0 v3) (Zpi E0 v3)
def Zpk (E0 : Zk) (v3 : Bool) : LT Zhs Bool :=
.br (E0.Kind == 3) (.call (Zait E0.Price) fun x2=>.br (!x2) (.rt false)<|.j0 (.L2 E0 v3) (Zpj E0 v3))<|.cs (!(Zab (Zel E0.Price) (Zel (⟨(⟨0, 0, (⟨0, 0, 0, 0, 0⟩ : (A5 Int))⟩ : Zl), false, false, 0⟩ : Zfl)))) (.k3 1<|.kn [0]<|.rt false)<|.k3 1<|.br E0.Slow (.rt false)<|.j0 (.L2 E0 v3) (Zpj E0 v3)
def Zlt (E0 : Zk) (v3 : Bool) : LT Zhs Bool :=
.br (E0.Kind == 1) (.call (Zex E0.Filter) fun x2=>.cs (!x2) (.k5 1<|.b5 true<|.kn [0]<|.rt false)<|.k5 1<|.cs (E0.Filter.Zone != 0) (.k5 2<|.kn [0]<|.rt false)<|.k3 2<|.call (Zmn E0.Mods) fun x6=>.k2 2<|.br (x6 == ([] : List UInt8)) (.rt false)<|.j0 (.L1 E0 v3) (Zpk E0 v3))<|.cs (!(Zab (Zg E0.Filter) (Zg (⟨0, 0, 0, 0, 0, 0, 0, ([] : List UInt8), 0, 0, (⟨0, 0⟩ : Za), (⟨0, 0⟩ : Za), (⟨0, 0⟩ : Za)⟩ : Zc)))) (.k5 1<|.kn [0]<|.rt false)<|.k3 1<|.len Z9 E0.Mods<|.k2 1<|.br (decide ((E0.Mods.length : Int) > 0)) (.rt false)<|.j0 (.L1 E0 v3) (Zpk E0 v3)
def Zajc (a0 : Zk) : LT Zhs Bool :=
.lb 1001<|.cs (decide (a0.Kind < 1)) (.k4 0<|.kn [0]<|.rt false)<|.k4 0<|.br (decide (a0.Kind > 5)) (.rt false)<|.cs (a0.Kind == 2) (.k4 2<|.b4 true<|.jn 0 (.L0 a0 true) [.relab 1001 30000000] (Zlt a0 true))<|.k4 2<|.cs (a0.Kind == 3) (.k4 3<|.jn 0 (.L0 a0 true) [.relab 1001 30000000] (Zlt a0 true))<|.k4 3<|.jn 0 (.L0 a0 (a0.Kind == 4)) [.relab 1001 30000000] (Zlt a0 (a0.Kind == 4))
def Zajd : LF Zhs Bool := ⟨88, [.t 2], false, fun | .L0 .. => [1,1,1] | .L1 .. => [1,1,1,1] | .L2 .. => [1,1,1,1,1] | .L3 .. => [1,1,1,1,1,1] | .L4 .. => [1,1,1,1,1,1,1],
 fun | .L0 E0 v3 => ⟨117, [(1, (.bptr 30000000 0)), (3, (wB v3))], [(30000000, .box (bx (Zae E0)))]⟩ | .L1 E0 v3 => ⟨117, [(1, (.bptr 30000000 0)), (3, (wB v3))], [(30000000, .box (bx (Zae E0)))]⟩ | .L2 E0 v3 => ⟨117, [(1, (.bptr 30000000 0)), (3, (wB v3))], [(30000000, .box (bx (Zae E0)))]⟩ | .L3 E0 v3 => ⟨117, [(1, (.bptr 30000000 0)), (3, (wB v3))], [(30000000, .box (bx (Zae E0)))]⟩ | .L4 E0 v3 => ⟨117, [(1, (.bptr 30000000 0)), (3, (wB v3))], [(30000000, .box (bx (Zae E0)))]⟩,
 fun r => [], fun r => (wB r), fun | .L0 E0 v3 => Zlt E0 v3 | .L1 E0 v3 => Zpk E0 v3 | .L2 E0 v3 => Zpj E0 v3 | .L3 E0 v3 => Zpi E0 v3 | .L4 E0 v3 => Zph E0 v3⟩
def Zaje (a0 : Zk) : Option Bool := Zajd.run (Zajc a0)
theorem Zuv (a0 : Zk) {r : Bool} (h : Zaje a0 = some r) : Fn PR 88 [(wA (Zae a0))] (wB r) := Zajd.fn h
def Zaa6 (a0 : Zq) : LT Empty Bool :=
.lb 1001<|.cs (a0.Line.Types == 2) (.k5 0<|.rt true)<|.k5 0<|.rt (a0.Line.Types == 4)
def Zaa7 : LF Empty Bool := .z 89 [.t 2] false (fun r => []) (fun r => (wB r))
def Z75 (a0 : Zq) : Option Bool := Zaa7.run (Zaa6 a0)
theorem Zaly (a0 : Zq) {r : Bool} (h : Z75 a0 = some r) : Fn PR 89 [(wA (Z3 a0))] (wB r) := Zaa7.fn h
inductive Znx where
 | L0 (E0 : Zq)
 | L1 (E0 : Zq) (v3 : Int) (v4 : Int)
def Zpl (E0 : Zq) : LT Znx Bool :=
.g0 (.L1 E0 0 0)
def Z1u (E0 : Zq) (v3 : Int) (v4 : Int) : LT Znx Bool :=
.len Zae E0.Abilities<|.br (decide (v4 < (E0.Abilities.length : Int))) (.idx Zae E0.Abilities v4 fun x3=>.call (Zuv x3) fun x5=>.br (!x5) (.rt false)<|.ag Zae x3 0<|.br (x3.Kind == 2) (.g0 (.L1 E0 (IntKind.wrap .i64 (v3 + 1)) (IntKind.wrap .i64 (v4 + 1))))<|.g0 (.L1 E0 v3 (IntKind.wrap .i64 (v4 + 1))))<|.call (Zaly E0) fun x15=>.br x15 (.cs (!E0.Token) (.k4 2<|.cs (E0.Keys == 0) (.k3 3<|.len Zae E0.Abilities<|.k2 3<|.cs ((E0.Abilities.length : Int) == 1) (.k3 4<|.rt (v3 == 1))<|.k3 4<|.rt false)<|.k5 3<|.b3 false<|.rt false)<|.k4 2<|.b8 false<|.rt false)<|.cs (v3 == 0) (.k4 2<|.cs (!E0.Token) (.k5 3<|.kg 2<|.kg 3<|.kg 2<|.cs ((Zbf .and .i64 E0.Line.Types 32) == 0) (.k4 4<|.kg 2<|.kg 4<|.kg 2<|.rt true)<|.k4 4<|.kg 2<|.kg 4<|.kg 2<|.rt (Zab (Zah E0.Cost) (Zah (⟨0, 0, (⟨0, 0, 0, 0, 0⟩ : (A5 Int))⟩ : Zl))))<|.k5 3<|.kg 2<|.kg 3<|.kg 2<|.b4 false<|.kg 2<|.kb false<|.kg 2<|.rt (Zab (Zah E0.Cost) (Zah (⟨0, 0, (⟨0, 0, 0, 0, 0⟩ : (A5 Int))⟩ : Zl))))<|.k8 2<|.rt false
def Zajf (a0 : Zq) : LT Znx Bool :=
.lb 1001<|.call (Z1d a0.Name) fun x1=>.cs (!x1) (.k5 0<|.b16 true<|.b2 true<|.kn [0]<|.rt false)<|.k3 0<|.call (Zuf a0.Cost) fun x4=>.k2 0<|.cs (!x4) (.k5 1<|.b8 true<|.b5 true<|.kn [0]<|.rt false)<|.k3 1<|.call (Zaqi a0.Line) fun x7=>.k2 1<|.cs (!x7) (.k5 2<|.b8 true<|.kn [0]<|.rt false)<|.k3 2<|.call (Zaeu a0.Keys) fun x10=>.k2 2<|.cs (!x10) (.k4 3<|.b4 true<|.kn [0]<|.rt false)<|.k4 3<|.cs (decide (a0.Color < 0)) (.k4 4<|.kn [0]<|.rt false)<|.k4 4<|.br (decide (a0.Color > 31)) (.rt false)<|.cs (decide (a0.Power < 0)) (.k4 6<|.b16 true<|.b3 true<|.kn [0]<|.rt false)<|.k4 6<|.cs (decide (a0.Power > 99)) (.k4 7<|.b8 true<|.b5 true<|.b2 true<|.kn [0]<|.rt false)<|.k4 7<|.cs (decide (a0.Tough < 0)) (.k4 8<|.b8 true<|.b3 true<|.kn [0]<|.rt false)<|.k4 8<|.cs (decide (a0.Tough > 99)) (.k5 9<|.kg 9<|.b5 true<|.kn [0]<|.rt false)<|.k2 9<|.call (Z91 a0) fun x19=>.k2 9<|.cs (!x19) (.k4 10<|.cs (a0.Power != 0) (.k3 11<|.kg 10<|.kg 11<|.kg 9<|.kg 10<|.kg 9<|.b5 true<|.kn [0]<|.rt false)<|.k3 11<|.kg 10<|.kg 11<|.kg 9<|.kg 10<|.kg 9<|.cs (a0.Tough != 0) (.k5 12<|.kn [0]<|.rt false)<|.k3 12<|.len Zae a0.Abilities<|.k2 12<|.br (decide ((a0.Abilities.length : Int) > 8)) (.rt false)<|.jn 0 (.L0 a0) [.relab 1001 30000000] (Zpl a0))<|.k5 10<|.kg 9<|.kg 10<|.kg 9<|.b3 false<|.len Zae a0.Abilities<|.b2 false<|.br (decide ((a0.Abilities.length : Int) > 8)) (.rt false)<|.jn 0 (.L0 a0) [.relab 1001 30000000] (Zpl a0)
def Zajg : LF Znx Bool := ⟨53, [.t 2], false, fun | .L0 .. => [1,1,1] | .L1 .. => [1,1,1,1,0,1,4],
 fun | .L0 E0 => ⟨139, [(1, (.bptr 30000000 0))], [(30000000, .box (bx (Z3 E0)))]⟩ | .L1 E0 v3 v4 => ⟨139, [(1, (.bptr 30000000 0)), (3, (wI v3)), (4, (wI v4))], [(30000000, .box (bx (Z3 E0)))]⟩,
 fun r => [], fun r => (wB r), fun | .L0 E0 => Zpl E0 | .L1 E0 v3 v4 => Z1u E0 v3 v4⟩
def Zajh (a0 : Zq) : Option Bool := Zajg.run (Zajf a0)
theorem Zaqp (a0 : Zq) {r : Bool} (h : Zajh a0 = some r) : Fn PR 53 [(wA (Z3 a0))] (wB r) := Zajg.fn h
inductive Zmq where
 | L0 (v0 : (List Zq)) (v1 : (List UInt8)) (v5 : Int)
def Zv8 (v0 : (List Zq)) (v1 : (List UInt8)) (v5 : Int) : LT Zmq Int :=
.len Z3 v0<|.br (decide (v5 < (v0.length : Int))) (.idx Z3 v0 v5 fun x3=>.br (x3.Name == v1) (.rt v5)<|.g0 (.L0 v0 v1 (IntKind.wrap .i64 (v5 + 1))))<|.rt (-1)
def Zaa8 (a0 : (List Zq)) (a1 : (List UInt8)) : LT Zmq Int :=
.g0 (.L0 a0 a1 0)
def Zaa9 : LF Zmq Int := ⟨54, [.t 4], false, fun | .L0 .. => [1,0,1,4],
 fun | .L0 v0 v1 v5 => ⟨20, [(0, (wL Z3 v0)), (1, (wS v1)), (5, (wI v5))], []⟩,
 fun r => [], fun r => (wI r), fun | .L0 v0 v1 v5 => Zv8 v0 v1 v5⟩
def Z76 (a0 : (List Zq)) (a1 : (List UInt8)) : Option Int := Zaa9.run (Zaa8 a0 a1)
theorem Zalz (a0 : (List Zq)) (a1 : (List UInt8)) {r : Int} (h : Z76 a0 a1 = some r) : Fn PR 54 [(wL Z3 a0), (wS a1)] (wI r) := Zaa9.fn h
inductive Zkf where
 | L0 (v0 : (List Zq)) (v1 : (List UInt8)) (v5 : Int)
def Zsf (v0 : (List Zq)) (v1 : (List UInt8)) (v5 : Int) : LT Zkf Bool :=
.len Z3 v0<|.br (decide (v5 < (v0.length : Int))) (.idx Z3 v0 v5 fun x3=>.cs (x3.Name == v1) (.k3 1<|.ag Z3 x3 0<|.k3 1<|.br x3.Token (.rt true)<|.g0 (.L0 v0 v1 (IntKind.wrap .i64 (v5 + 1))))<|.k5 1<|.kg 1<|.kn [0]<|.g0 (.L0 v0 v1 (IntKind.wrap .i64 (v5 + 1))))<|.rt false
def Z5u (a0 : (List Zq)) (a1 : (List UInt8)) : LT Zkf Bool :=
.g0 (.L0 a0 a1 0)
def Z5v : LF Zkf Bool := ⟨90, [.t 4], false, fun | .L0 .. => [1,0,1,4],
 fun | .L0 v0 v1 v5 => ⟨26, [(0, (wL Z3 v0)), (1, (wS v1)), (5, (wI v5))], []⟩,
 fun r => [], fun r => (wB r), fun | .L0 v0 v1 v5 => Zsf v0 v1 v5⟩
def Z1v (a0 : (List Zq)) (a1 : (List UInt8)) : Option Bool := Z5v.run (Z5u a0 a1)
theorem Zaji (a0 : (List Zq)) (a1 : (List UInt8)) {r : Bool} (h : Z1v a0 a1 = some r) : Fn PR 90 [(wL Z3 a0), (wS a1)] (wB r) := Z5v.fn h
inductive Zgj where
 | L0 (v0 : (List Zq)) (E0 : Zq) (v5 : Int)
 | L1 (v0 : (List Zq)) (E0 : Zq) (v5 : Int) (v6 : Int)
def Zny (v0 : (List Zq)) (E0 : Zq) (v5 : Int) : LT Zgj Bool :=
.len Zae E0.Abilities<|.br (decide (v5 < (E0.Abilities.length : Int))) (.g0 (.L1 v0 E0 v5 0))<|.rt true
def Znz (v0 : (List Zq)) (E0 : Zq) (v5 : Int) (v6 : Int) : LT Zgj Bool :=
.idx Zae E0.Abilities v5 fun x1=>.len Z5 x1.Effects<|.br (decide (v6 < (x1.Effects.length : Int))) (.ag Zae x1 0<|.idx Z5 x1.Effects v6 fun x5=>.lb 1007<|.cs (x5.Op == 12) (.k4 1<|.call (Zaji v0 x5.Card) fun x8=>.k2 1<|.br (!x8) (.rt false)<|.g0 (.L1 v0 E0 v5 (IntKind.wrap .i64 (v6 + 1))))<|.k5 1<|.kg 1<|.kn [0]<|.g0 (.L1 v0 E0 v5 (IntKind.wrap .i64 (v6 + 1))))<|.g0 (.L0 v0 E0 (IntKind.wrap .i64 (v5 + 1)))
def Zz3 (a0 : (List Zq)) (a1 : Zq) : LT Zgj Bool :=
.lb 1003<|.go (.L0 a0 a1 0) [.relab 1003 30000000]
def Zz4 : LF Zgj Bool := ⟨55, [.t 4], false, fun | .L0 .. => [1,0,1,4] | .L1 .. => [1,0,1,4,5,1,0,4,1,4],
 fun | .L0 v0 E0 v5 => ⟨45, [(0, (wL Z3 v0)), (3, (.bptr 30000000 0)), (5, (wI v5))], [(30000000, .box (bx (Z3 E0)))]⟩ | .L1 v0 E0 v5 v6 => ⟨45, [(0, (wL Z3 v0)), (3, (.bptr 30000000 0)), (5, (wI v5)), (6, (wI v6))], [(30000000, .box (bx (Z3 E0)))]⟩,
 fun r => [], fun r => (wB r), fun | .L0 v0 E0 v5 => Zny v0 E0 v5 | .L1 v0 E0 v5 v6 => Znz v0 E0 v5 v6⟩
def Zv9 (a0 : (List Zq)) (a1 : Zq) : Option Bool := Zz4.run (Zz3 a0 a1)
theorem Zac9 (a0 : (List Zq)) (a1 : Zq) {r : Bool} (h : Zv9 a0 a1 = some r) : Fn PR 55 [(wL Z3 a0), (wA (Z3 a1))] (wB r) := Zz4.fn h
inductive Zkg where
 | L0 (v0 : (List Zq)) (v4 : Int)
def Zsg (v0 : (List Zq)) (v4 : Int) : LT Zkg (Int × Int) :=
.len Z3 v0<|.br (decide (v4 < (v0.length : Int))) (.idx Z3 v0 v4 fun x3=>.call (Zaqp x3) fun x5=>.br (!x5) (.rt (v4, 9))<|.ag Z3 x3 0<|.call (Zalz v0 x3.Name) fun x8=>.br (decide (x8 < v4)) (.rt (v4, 6))<|.ag Z3 x3 0<|.call (Zac9 v0 x3) fun x11=>.br (!x11) (.rt (v4, 7))<|.g0 (.L0 v0 (IntKind.wrap .i64 (v4 + 1))))<|.rt ((-1), 0)
def Z5w (a0 : (List Zq)) : LT Zkg (Int × Int) :=
.len Z3 a0<|.br (decide ((a0.length : Int) > 256)) (.rt ((-1), 5))<|.g0 (.L0 a0 0)
def Z5x : LF Zkg (Int × Int) := ⟨25, [.t 2, .t 3], false, fun | .L0 .. => [1,1,0,1,4],
 fun | .L0 v0 v4 => ⟨39, [(0, (wL Z3 v0)), (4, (wI v4))], []⟩,
 fun r => [], fun r => (.tup [(wI r.1), (wI r.2)]), fun | .L0 v0 v4 => Zsg v0 v4⟩
def Z1w (a0 : (List Zq)) : Option (Int × Int) := Z5x.run (Z5w a0)
theorem Zajj (a0 : (List Zq)) {r : (Int × Int)} (h : Z1w a0 = some r) : Fn PR 25 [(wL Z3 a0)] (.tup [(wI r.1), (wI r.2)]) := Z5x.fn h
def Zajk (a0 : Int) (a1 : Int) (a2 : Int) : LT Empty Bool :=
.cs (decide (a0 ≥ a1)) (.k4 0<|.rt (decide (a0 ≤ a2)))<|.k4 0<|.rt false
def Zajl : LF Empty Bool := .z 56 [.t 6] false (fun r => []) (fun r => (wB r))
def Zajm (a0 : Int) (a1 : Int) (a2 : Int) : Option Bool := Zajl.run (Zajk a0 a1 a2)
theorem Zdb (a0 : Int) (a1 : Int) (a2 : Int) {r : Bool} (h : Zajm a0 a1 a2 = some r) : Fn PR 56 [(wI a0), (wI a1), (wI a2)] (wB r) := Zajl.fn h
inductive Zkh where
 | L0 (E0 : (A6 Int)) (v3 : Int)
def Zsh (E0 : (A6 Int)) (v3 : Int) : LT Zkh Bool :=
.br (decide (v3 < 6)) (.idA (Ze.int .i64) (A6.list E0) v3 (bx ((cA6 (cI .i64)) E0)) 0 6 fun x2=>.ldC (Ze.int .i64) 10 x2 0<|.cs (decide (x2 < 0)) (.k5 1<|.kn [0]<|.rt false)<|.k2 1<|.idA (Ze.int .i64) (A6.list E0) v3 (bx ((cA6 (cI .i64)) E0)) 0 6 fun x5=>.kg 1<|.ldC (Ze.int .i64) 15 x5 1<|.k2 1<|.br (decide (x5 > 1000000)) (.rt false)<|.g0 (.L0 E0 (IntKind.wrap .i64 (v3 + 1))))<|.rt true
def Z5y (a0 : (A6 Int)) : LT Zkh Bool :=
.lb 1001<|.go (.L0 a0 0) [.relab 1001 30000000]
def Z5z : LF Zkh Bool := ⟨91, [.t 2], false, fun | .L0 .. => [1,0,1,4],
 fun | .L0 E0 v3 => ⟨18, [(1, (.bptr 30000000 0)), (3, (wI v3))], [(30000000, .box (bx ((cA6 (cI .i64)) E0)))]⟩,
 fun r => [], fun r => (wB r), fun | .L0 E0 v3 => Zsh E0 v3⟩
def Z1x (a0 : (A6 Int)) : Option Bool := Z5z.run (Z5y a0)
theorem Zajn (a0 : (A6 Int)) {r : Bool} (h : Z1x a0 = some r) : Fn PR 91 [(wA ((cA6 (cI .i64)) a0))] (wB r) := Z5z.fn h
inductive Zki where
 | L0 (v1 : Int) (E0 : Zb) (v5 : Int)
def Zsi (v1 : Int) (E0 : Zb) (v5 : Int) : LT Zki Int :=
.len Zi E0.Objects<|.br (decide (v5 < (E0.Objects.length : Int))) (.idx Zi E0.Objects v5 fun x3=>.br (x3.Id == v1) (.rt v5)<|.g0 (.L0 v1 E0 (IntKind.wrap .i64 (v5 + 1))))<|.rt (-1)
def Z50 (a0 : Zb) (a1 : Int) : LT Zki Int :=
.lb 1002<|.go (.L0 a1 a0 0) [.relab 1002 30000000]
def Z51 : LF Zki Int := ⟨47, [.t 4], false, fun | .L0 .. => [1,0,1,4],
 fun | .L0 v1 E0 v5 => ⟨22, [(1, (wI v1)), (2, (.bptr 30000000 0)), (5, (wI v5))], [(30000000, .box (bx (Zn E0)))]⟩,
 fun r => [], fun r => (wI r), fun | .L0 v1 E0 v5 => Zsi v1 E0 v5⟩
def Z1y (a0 : Zb) (a1 : Int) : Option Int := Z51.run (Z50 a0 a1)
theorem Zajo (a0 : Zb) (a1 : Int) {r : Int} (h : Z1y a0 a1 = some r) : Fn PR 47 [(wA (Zn a0)), (wI a1)] (wI r) := Z51.fn h
def Zaba (a0 : Zb) (a1 : Int) : LT Empty (Zf × Bool) :=
.lb 1002<|.lb 1004<|.call (Zajo a0 a1) fun x1=>.br (decide (x1 < 0)) (.rt ((⟨0, 0, 0, 0, 0, false, false, false, false, 0, (⟨0, 0, 0⟩ : (A3 Int)), 0, 0, 0, false, 0, 0⟩ : Zf), false))<|.idx Zi a0.Objects x1 fun x4=>.rt (x4, true)
def Zabb : LF Empty (Zf × Bool) := .z 20 [.c 4 62 true 19, .t 5] false (fun r => []) (fun r => (.tup [(wA (Zi r.1)), (wB r.2)]))
def Z77 (a0 : Zb) (a1 : Int) : Option (Zf × Bool) := Zabb.run (Zaba a0 a1)
theorem Zal0 (a0 : Zb) (a1 : Int) {r : (Zf × Bool)} (h : Z77 a0 a1 = some r) : Fn PR 20 [(wA (Zn a0)), (wI a1)] (.tup [(wA (Zi r.1)), (wB r.2)]) := Zabb.fn h
def Z1z (a0 : Zb) (a1 : Int) : LT Empty (Zf × Bool) :=
.lb 1002<|.lb 1004<|.call (Zal0 a0 a1) fun x1=>.rt (x1.1, x1.2)
def Z10 : LF Empty (Zf × Bool) := .z 138 [.c 4 62 true 19, .t 5] false (fun r => []) (fun r => (.tup [(wA (Zi r.1)), (wB r.2)]))
def Zy3 (a0 : Zb) (a1 : Int) : Option (Zf × Bool) := Z10.run (Z1z a0 a1)
theorem Zz5 (a0 : Zb) (a1 : Int) {r : (Zf × Bool)} (h : Zy3 a0 a1 = some r) : Fn PR 138 [(wA (Zn a0)), (wI a1)] (.tup [(wA (Zi r.1)), (wB r.2)]) := Z10.fn h
inductive Zkj where
 | L0 (v0 : (List Int)) (v1 : Int) (v5 : Int) (v6 : Int)
def Zsj (v0 : (List Int)) (v1 : Int) (v5 : Int) (v6 : Int) : LT Zkj Int :=
.len (cI .i64) v0<|.br (decide (v6 < (v0.length : Int))) (.idx (cI .i64) v0 v6 fun x3=>.br (x3 == v1) (.g0 (.L0 v0 v1 (IntKind.wrap .i64 (v5 + 1)) (IntKind.wrap .i64 (v6 + 1))))<|.g0 (.L0 v0 v1 v5 (IntKind.wrap .i64 (v6 + 1))))<|.rt v5
def Z52 (a0 : (List Int)) (a1 : Int) : LT Zkj Int :=
.g0 (.L0 a0 a1 0 0)
def Z53 : LF Zkj Int := ⟨139, [.t 4], false, fun | .L0 .. => [1,1,0,1,4],
 fun | .L0 v0 v1 v5 v6 => ⟨22, [(0, (wL (cI .i64) v0)), (1, (wI v1)), (5, (wI v5)), (6, (wI v6))], []⟩,
 fun r => [], fun r => (wI r), fun | .L0 v0 v1 v5 v6 => Zsj v0 v1 v5 v6⟩
def Z11 (a0 : (List Int)) (a1 : Int) : Option Int := Z53.run (Z52 a0 a1)
theorem Zsk (a0 : (List Int)) (a1 : Int) {r : Int} (h : Z11 a0 a1 = some r) : Fn PR 139 [(wL (cI .i64) a0), (wI a1)] (wI r) := Z53.fn h
inductive Zmr where
 | L0 (v1 : (List Int)) (v2 : Int) (v3 : Int) (E0 : Zb) (v9 : Int)
def Zwa (v1 : (List Int)) (v2 : Int) (v3 : Int) (E0 : Zb) (v9 : Int) : LT Zmr Bool :=
.len (cI .i64) v1<|.br (decide (v9 < (v1.length : Int))) (.idx (cI .i64) v1 v9 fun x3=>.call (Zz5 E0 x3) fun x5=>.lb 1010<|.cs (!x5.2) (.k5 1<|.b8 true<|.b5 true<|.kn [0]<|.rt false)<|.k5 1<|.cs (x5.1.Zone != v2) (.k5 2<|.b8 true<|.kn [0]<|.rt false)<|.k3 2<|.cs (decide (v3 ≥ 0)) (.k4 3<|.kg 2<|.kg 3<|.kg 2<|.cs (x5.1.Owner != v3) (.k8 4<|.kn [0]<|.rt false)<|.k4 4<|.ag (cI .i64) x3 0<|.k2 4<|.call (Zsk v1 x3) fun x11=>.k2 4<|.br (x11 != 1) (.rt false)<|.g0 (.L0 v1 v2 v3 E0 (IntKind.wrap .i64 (v9 + 1))))<|.k4 3<|.kg 2<|.kg 3<|.kg 2<|.b4 false<|.ag (cI .i64) x3 0<|.b2 false<|.call (Zsk v1 x3) fun x16=>.b2 false<|.br (x16 != 1) (.rt false)<|.g0 (.L0 v1 v2 v3 E0 (IntKind.wrap .i64 (v9 + 1))))<|.rt true
def Zabc (a0 : Zb) (a1 : (List Int)) (a2 : Int) (a3 : Int) : LT Zmr Bool :=
.lb 1004<|.go (.L0 a1 a2 a3 a0 0) [.relab 1004 30000000]
def Zabd : LF Zmr Bool := ⟨92, [.t 8], false, fun | .L0 .. => [1,0,1,4],
 fun | .L0 v1 v2 v3 E0 v9 => ⟨54, [(1, (wL (cI .i64) v1)), (2, (wI v2)), (3, (wI v3)), (4, (.bptr 30000000 0)), (9, (wI v9))], [(30000000, .box (bx (Zn E0)))]⟩,
 fun r => [], fun r => (wB r), fun | .L0 v1 v2 v3 E0 v9 => Zwa v1 v2 v3 E0 v9⟩
def Z78 (a0 : Zb) (a1 : (List Int)) (a2 : Int) (a3 : Int) : Option Bool := Zabd.run (Zabc a0 a1 a2 a3)
theorem Zkk (a0 : Zb) (a1 : (List Int)) (a2 : Int) (a3 : Int) {r : Bool} (h : Z78 a0 a1 a2 a3 = some r) : Fn PR 92 [(wA (Zn a0)), (wL (cI .i64) a1), (wI a2), (wI a3)] (wB r) := Zabd.fn h
inductive Zh0 where
 | L0 (E0 : Zb) (v3 : Int)
def Zn0 (E0 : Zb) (v3 : Int) : LT Zh0 Bool :=
.len Z6 E0.Players<|.br (decide (v3 < (E0.Players.length : Int))) (.idx Z6 E0.Players v3 fun x3=>.lb 1004<|.call (Zdb x3.Life (-1000000) 1000000) fun x5=>.cs (!x5) (.k5 1<|.b8 true<|.b2 true<|.kn [0]<|.rt false)<|.k3 1<|.call (Zdb x3.Venom 0 1000000) fun x8=>.k2 1<|.cs (!x8) (.k5 2<|.b5 true<|.kn [0]<|.rt false)<|.k3 2<|.call (Zdb x3.Lands 0 1000000) fun x11=>.k2 2<|.cs (!x11) (.k5 3<|.kn [0]<|.rt false)<|.k3 3<|.call (Zajn x3.Pool) fun x14=>.k2 3<|.br (!x14) (.rt false)<|.call (Zkk E0 x3.Library 2 v3) fun x17=>.cs (!x17) (.k5 5<|.k2 5<|.b5 true<|.b2 true<|.kn [0]<|.rt false)<|.k5 5<|.call (Zkk E0 x3.Hand 1 v3) fun x20=>.k2 5<|.cs (!x20) (.k5 6<|.k2 6<|.kn [0]<|.rt false)<|.k5 6<|.call (Zkk E0 x3.Graveyard 3 v3) fun x23=>.k2 6<|.br (!x23) (.rt false)<|.g0 (.L0 E0 (IntKind.wrap .i64 (v3 + 1))))<|.call (Zkk E0 E0.Battlefield 0 (-1)) fun x28=>.cs x28 (.k4 1<|.call (Zkk E0 E0.Exile 4 (-1)) fun x31=>.kg 1<|.rt x31)<|.k5 1<|.rt false
def Zz6 (a0 : Zb) : LT Zh0 Bool :=
.lb 1001<|.len Z6 a0.Players<|.call (Zdb (a0.Players.length : Int) 2 4) fun x2=>.br (!x2) (.rt false)<|.go (.L0 a0 0) [.relab 1001 30000000]
def Zz7 : LF Zh0 Bool := ⟨57, [.t 2], false, fun | .L0 .. => [1,1,0,1,4],
 fun | .L0 E0 v3 => ⟨76, [(1, (.bptr 30000000 0)), (3, (wI v3))], [(30000000, .box (bx (Zn E0)))]⟩,
 fun r => [], fun r => (wB r), fun | .L0 E0 v3 => Zn0 E0 v3⟩
def Zwb (a0 : Zb) : Option Bool := Zz7.run (Zz6 a0)
theorem Zada (a0 : Zb) {r : Bool} (h : Zwb a0 = some r) : Fn PR 57 [(wA (Zn a0))] (wB r) := Zz7.fn h
def Z12 (a0 : Zb) (a1 : Int) : LT Empty Bool :=
.lb 1002<|.len Z6 a0.Players<|.call (Zdb a1 0 (IntKind.wrap .i64 ((a0.Players.length : Int) - 1))) fun x4=>.rt x4
def Z13 : LF Empty Bool := .z 58 [.t 4] false (fun r => []) (fun r => (wB r))
def Zy4 (a0 : Zb) (a1 : Int) : Option Bool := Z13.run (Z12 a0 a1)
theorem Ze7 (a0 : Zb) (a1 : Int) {r : Bool} (h : Zy4 a0 a1 = some r) : Fn PR 58 [(wA (Zn a0)), (wI a1)] (wB r) := Z13.fn h
inductive Zsl where
 | L0 (E0 : (A3 Int)) (v3 : Int)
def Z14 (E0 : (A3 Int)) (v3 : Int) : LT Zsl Bool :=
.br (decide (v3 < 3)) (.idA (Ze.int .i64) (A3.list E0) v3 (bx ((cA3 (cI .i64)) E0)) 0 3 fun x2=>.ldC (Ze.int .i64) 10 x2 0<|.cs (decide (x2 < 0)) (.k5 1<|.kn [0]<|.rt false)<|.k2 1<|.idA (Ze.int .i64) (A3.list E0) v3 (bx ((cA3 (cI .i64)) E0)) 0 3 fun x5=>.kg 1<|.ldC (Ze.int .i64) 15 x5 1<|.k2 1<|.br (decide (x5 > 1000000)) (.rt false)<|.g0 (.L0 E0 (IntKind.wrap .i64 (v3 + 1))))<|.rt true
def Zajp (a0 : (A3 Int)) : LT Zsl Bool :=
.lb 1001<|.go (.L0 a0 0) [.relab 1001 30000000]
def Zajq : LF Zsl Bool := ⟨140, [.t 2], false, fun | .L0 .. => [1,0,1,4],
 fun | .L0 E0 v3 => ⟨18, [(1, (.bptr 30000000 0)), (3, (wI v3))], [(30000000, .box (bx ((cA3 (cI .i64)) E0)))]⟩,
 fun r => [], fun r => (wB r), fun | .L0 E0 v3 => Z14 E0 v3⟩
def Zajr (a0 : (A3 Int)) : Option Bool := Zajq.run (Zajp a0)
theorem Zaqq (a0 : (A3 Int)) {r : Bool} (h : Zajr a0 = some r) : Fn PR 140 [(wA ((cA3 (cI .i64)) a0))] (wB r) := Zajq.fn h
def Zabe (a0 : Zf) : LT Empty Zf :=
.lb 1001<|.lb 1002<|.rt (⟨a0.Id, a0.Card, a0.Owner, a0.Control, a0.Zone, a0.Token, a0.Tapped, a0.Sick, a0.Deadly, a0.Damage, a0.Counters, a0.Stamp, a0.Copy, (-1), false, 0, a0.Shield⟩ : Zf)
def Zabf : LF Empty Zf := .z 141 [.c 2 62 true 19] false (fun r => []) (fun r => (wA (Zi r)))
def Z79 (a0 : Zf) : Option Zf := Zabf.run (Zabe a0)
theorem Zal1 (a0 : Zf) {r : Zf} (h : Z79 a0 = some r) : Fn PR 141 [(wA (Zi a0))] (wA (Zi r)) := Zabf.fn h
def Z54 (a0 : Zf) : LT Empty Zf :=
.lb 1001<|.lb 1002<|.rt (⟨a0.Id, a0.Card, a0.Owner, a0.Control, a0.Zone, a0.Token, a0.Tapped, a0.Sick, false, 0, a0.Counters, a0.Stamp, a0.Copy, a0.Attack, a0.Blocked, a0.Blocks, 0⟩ : Zf)
def Z55 : LF Empty Zf := .z 142 [.c 2 62 true 19] false (fun r => []) (fun r => (wA (Zi r)))
def Z15 (a0 : Zf) : Option Zf := Z55.run (Z54 a0)
theorem Zajs (a0 : Zf) {r : Zf} (h : Z15 a0 = some r) : Fn PR 142 [(wA (Zi a0))] (wA (Zi r)) := Z55.fn h
def Zajt (a0 : Zf) (a1 : Int) (a2 : Int) : LT Empty Bool :=
.lb 1003<|.cs (decide (a0.Id < 1)) (.k4 0<|.b16 true<|.b8 true<|.b5 true<|.b2 true<|.kn [0]<|.rt false)<|.k4 0<|.cs (decide (a0.Card < 0)) (.k5 1<|.b16 true<|.b8 true<|.b2 true<|.kn [0]<|.rt false)<|.k5 1<|.cs (decide (a0.Card ≥ a1)) (.k4 2<|.b16 true<|.b5 true<|.kb true<|.kn [0]<|.rt false)<|.k4 2<|.cs (decide (a0.Owner < 0)) (.k5 3<|.b16 true<|.kb true<|.kn [0]<|.rt false)<|.k5 3<|.cs (decide (a0.Owner ≥ a2)) (.k4 4<|.b8 true<|.b5 true<|.kn [0]<|.rt false)<|.k4 4<|.cs (decide (a0.Control < 0)) (.k5 5<|.b8 true<|.kn [0]<|.rt false)<|.k5 5<|.cs (decide (a0.Control ≥ a2)) (.k4 6<|.b4 true<|.kn [0]<|.rt false)<|.k4 6<|.cs (decide (a0.Zone < 0)) (.k4 7<|.kn [0]<|.rt false)<|.k4 7<|.br (decide (a0.Zone > 5)) (.rt false)<|.cs (decide (a0.Damage < 0)) (.k4 9<|.b16 true<|.b8 true<|.kn [0]<|.rt false)<|.k4 9<|.cs (decide (a0.Damage > 1000000)) (.k4 10<|.b16 true<|.b4 true<|.kn [0]<|.rt false)<|.k4 10<|.cs (decide (a0.Stamp < 0)) (.k4 11<|.b16 true<|.kn [0]<|.rt false)<|.k4 11<|.cs (decide (a0.Stamp > 1000000)) (.k4 12<|.b8 true<|.b4 true<|.kn [0]<|.rt false)<|.k4 12<|.cs (decide (a0.Blocks < 0)) (.k4 13<|.b8 true<|.kn [0]<|.rt false)<|.k4 13<|.cs (decide (a0.Blocks > 1000000)) (.k4 14<|.b4 true<|.kn [0]<|.rt false)<|.k4 14<|.cs (decide (a0.Shield < 0)) (.k4 15<|.kn [0]<|.rt false)<|.k4 15<|.br (decide (a0.Shield > 1000000)) (.rt false)<|.call (Zaqq a0.Counters) fun x18=>.cs (!x18) (.k4 17<|.b8 true<|.b5 true<|.kb true<|.kn [0]<|.rt false)<|.k4 17<|.cs (decide (a0.Copy < (-1))) (.k5 18<|.b8 true<|.kb true<|.kn [0]<|.rt false)<|.k5 18<|.cs (decide (a0.Copy ≥ a1)) (.k4 19<|.b5 true<|.kn [0]<|.rt false)<|.k4 19<|.cs (decide (a0.Attack < (-1))) (.k5 20<|.kn [0]<|.rt false)<|.k5 20<|.br (decide (a0.Attack ≥ a2)) (.rt false)<|.cs (a0.Zone == 0) (.k8 22<|.k5 22<|.rt true)<|.k3 22<|.call (Zal1 a0) fun x26=>.k2 22<|.cs (Zab (Zi a0) (Zi x26)) (.k3 23<|.call (Zajs a0) fun x29=>.kg 23<|.kg 22<|.kg 23<|.kg 22<|.cs (Zab (Zi a0) (Zi x29)) (.k3 24<|.kg 22<|.kg 24<|.kg 22<|.cs (!a0.Tapped) (.k3 25<|.kg 22<|.kg 25<|.kg 22<|.cs (!a0.Sick) (.k4 26<|.kg 22<|.kg 26<|.kg 22<|.rt (Zab ((cA3 (cI .i64)) a0.Counters) ((cA3 (cI .i64)) (⟨0, 0, 0⟩ : (A3 Int)))))<|.k4 26<|.kg 22<|.kg 26<|.kg 22<|.rt false)<|.k3 25<|.kg 22<|.kg 25<|.kg 22<|.b4 false<|.kg 22<|.kb false<|.kg 22<|.rt false)<|.k3 24<|.kg 22<|.kg 24<|.kg 22<|.b3 false<|.kg 22<|.kb false<|.kg 22<|.b4 false<|.kg 22<|.kb false<|.kg 22<|.rt false)<|.k4 23<|.kg 22<|.kg 23<|.kg 22<|.b3 false<|.kg 22<|.kb false<|.kg 22<|.b3 false<|.kg 22<|.kb false<|.kg 22<|.b4 false<|.kg 22<|.kb false<|.kg 22<|.rt false
def Zaju : LF Empty Bool := .z 93 [.t 6] false (fun r => []) (fun r => (wB r))
def Zajv (a0 : Zf) (a1 : Int) (a2 : Int) : Option Bool := Zaju.run (Zajt a0 a1 a2)
theorem Zaqr (a0 : Zf) (a1 : Int) (a2 : Int) {r : Bool} (h : Zajv a0 a1 a2 = some r) : Fn PR 93 [(wA (Zi a0)), (wI a1), (wI a2)] (wB r) := Zaju.fn h
inductive Zi3 where
 | L0 (v1 : Int) (E0 : Zb) (v5 : Int) (v6 : Int)
def Zp2 (v1 : Int) (E0 : Zb) (v5 : Int) (v6 : Int) : LT Zi3 Int :=
.len Zay E0.Stack<|.br (decide (v6 < (E0.Stack.length : Int))) (.idx Zay E0.Stack v6 fun x3=>.cs (x3.Kind == 1) (.k4 1<|.ag Zay x3 0<|.k5 1<|.br (x3.Id == v1) (.g0 (.L0 v1 E0 (IntKind.wrap .i64 (v5 + 1)) (IntKind.wrap .i64 (v6 + 1))))<|.g0 (.L0 v1 E0 v5 (IntKind.wrap .i64 (v6 + 1))))<|.k8 1<|.kg 1<|.kn [0]<|.g0 (.L0 v1 E0 v5 (IntKind.wrap .i64 (v6 + 1))))<|.rt v5
def Z16 (a0 : Zb) (a1 : Int) : LT Zi3 Int :=
.lb 1002<|.go (.L0 a1 a0 0 0) [.relab 1002 30000000]
def Z17 : LF Zi3 Int := ⟨143, [.t 4], false, fun | .L0 .. => [1,1,0,1,4],
 fun | .L0 v1 E0 v5 v6 => ⟨34, [(1, (wI v1)), (2, (.bptr 30000000 0)), (5, (wI v5)), (6, (wI v6))], [(30000000, .box (bx (Zn E0)))]⟩,
 fun r => [], fun r => (wI r), fun | .L0 v1 E0 v5 v6 => Zp2 v1 E0 v5 v6⟩
def Zy5 (a0 : Zb) (a1 : Int) : Option Int := Z17.run (Z16 a0 a1)
theorem Zafn (a0 : Zb) (a1 : Int) {r : Int} (h : Zy5 a0 a1 = some r) : Fn PR 143 [(wA (Zn a0)), (wI a1)] (wI r) := Z17.fn h
def Zabg (a0 : (List Int)) : LT Empty (List Int) :=
.lb 1003<|.apR (cI .i64) 8 ([] : (List Int)) a0 fun x1=>.ret x1 [.relab 1003 5000]
def Zabh : LF Empty (List Int) := .z 173 [.t 2] true (fun r => [(5000, wR (cI .i64) 1 r)]) (fun r => (wO (cI .i64) 5000 r))
def Z8a (a0 : (List Int)) : Option (List Int) := Zabh.run (Zabg a0)
theorem Zi4 (a0 : (List Int)) {r : (List Int)} (h : Z8a a0 = some r) : FnG PR 173 [] [(wL (cI .i64) a0)] [(5000, wR (cI .i64) 1 r)] (wO (cI .i64) 5000 r) := Zabh.fn h
def Zabi (a0 : Zb) (a1 : Int) (a2 : Int) : LT Empty (List Int) :=
.lb 1003<|.br (a1 == 0) (.callF (Zi4 a0.Battlefield) 130000 fun x2=>.ret x2 [.relab 135000 5000])<|.br (a1 == 4) (.callF (Zi4 a0.Exile) 180000 fun x5=>.ret x5 [.relab 185000 5000])<|.cs (decide (a2 < 0)) (.k5 2<|.kg 2<|.kn [0]<|.ret ([] : (List Int)) [.own 6 5000 1])<|.k4 2<|.len Z6 a0.Players<|.k2 2<|.br (decide (a2 ≥ (a0.Players.length : Int))) (.ret ([] : (List Int)) [.own 6 5000 1])<|.br (a1 == 1) (.idx Z6 a0.Players a2 fun x11=>.callF (Zi4 x11.Hand) 370000 fun x13=>.ret x13 [.relab 375000 5000])<|.br (a1 == 2) (.idx Z6 a0.Players a2 fun x16=>.callF (Zi4 x16.Library) 460000 fun x18=>.ret x18 [.relab 465000 5000])<|.br (a1 == 3) (.idx Z6 a0.Players a2 fun x21=>.callF (Zi4 x21.Graveyard) 550000 fun x23=>.ret x23 [.relab 555000 5000])<|.ret ([] : (List Int)) [.own 6 5000 1]
def Zabj : LF Empty (List Int) := .z 144 [.t 6] true (fun r => [(5000, wR (cI .i64) 1 r)]) (fun r => (wO (cI .i64) 5000 r))
def Zy6 (a0 : Zb) (a1 : Int) (a2 : Int) : Option (List Int) := Zabj.run (Zabi a0 a1 a2)
theorem Zajw (a0 : Zb) (a1 : Int) (a2 : Int) {r : (List Int)} (h : Zy6 a0 a1 a2 = some r) : FnG PR 144 [] [(wA (Zn a0)), (wI a1), (wI a2)] [(5000, wR (cI .i64) 1 r)] (wO (cI .i64) 5000 r) := Zabj.fn h
theorem Zal2 (a0 : Zb) (a1 : Int) (a2 : Int) {r : (List Int)} (h : Zy6 a0 a1 a2 = some r) : Fn PR 144 [(wA (Zn a0)), (wI a1), (wI a2)] (wL (cI .i64) r) :=
 FnG.frozen (C := LT.RL (cI .i64) r ∧ True) (Zajw a0 a1 a2 h) ⟨rfl, trivial⟩ (by kernel_rfl)
def Z18 (a0 : Zb) (a1 : Zf) : LT Empty Bool :=
.lb 1002<|.lb 1003<|.br (a1.Zone == 5) (.call (Zafn a0 a1.Id) fun x2=>.rt (x2 == 1))<|.call (Zal2 a0 a1.Zone a1.Owner) fun x4=>.call (Zsk x4 a1.Id) fun x6=>.rt (x6 == 1)
def Z19 : LF Empty Bool := .z 94 [.t 4] false (fun r => []) (fun r => (wB r))
def Zy7 (a0 : Zb) (a1 : Zf) : Option Bool := Z19.run (Z18 a0 a1)
theorem Zz8 (a0 : Zb) (a1 : Zf) {r : Bool} (h : Zy7 a0 a1 = some r) : Fn PR 94 [(wA (Zn a0)), (wA (Zi a1))] (wB r) := Z19.fn h
inductive Zh1 where
 | L0 (v0 : (List Zq)) (E0 : Zb) (v5 : Int)
def Zn1 (v0 : (List Zq)) (E0 : Zb) (v5 : Int) : LT Zh1 Bool :=
.len Zi E0.Objects<|.br (decide (v5 < (E0.Objects.length : Int))) (.idx Zi E0.Objects v5 fun x3=>.lb 1006<|.len Z3 v0<|.len Z6 E0.Players<|.call (Zaqr x3 (v0.length : Int) (E0.Players.length : Int)) fun x7=>.cs (!x7) (.k5 1<|.kg 1<|.b8 true<|.b3 true<|.kn [0]<|.rt false)<|.k5 1<|.kg 1<|.cs (decide (x3.Id ≥ E0.NextId)) (.k5 2<|.kg 2<|.b5 true<|.kn [0]<|.rt false)<|.k5 2<|.kg 2<|.cs (decide (x3.Stamp ≥ E0.NextStamp)) (.k5 3<|.kn [0]<|.rt false)<|.k3 3<|.cs (decide (v5 > 0)) (.k5 4<|.idx Zi E0.Objects (IntKind.wrap .i64 (v5 - 1)) fun x15=>.k5 4<|.kg 3<|.kg 4<|.kg 3<|.br (decide (x15.Id ≥ x3.Id)) (.rt false)<|.call (Zz8 E0 x3) fun x18=>.br (!x18) (.rt false)<|.g0 (.L0 v0 E0 (IntKind.wrap .i64 (v5 + 1))))<|.k8 4<|.k2 4<|.kg 3<|.kg 4<|.kg 3<|.kn [0]<|.call (Zz8 E0 x3) fun x23=>.br (!x23) (.rt false)<|.g0 (.L0 v0 E0 (IntKind.wrap .i64 (v5 + 1))))<|.rt true
def Zz9 (a0 : (List Zq)) (a1 : Zb) : LT Zh1 Bool :=
.lb 1003<|.len Zi a1.Objects<|.br (decide ((a1.Objects.length : Int) > 2048)) (.rt false)<|.go (.L0 a0 a1 0) [.relab 1003 30000000]
def Z0a : LF Zh1 Bool := ⟨59, [.t 4], false, fun | .L0 .. => [1,1,0,1,4],
 fun | .L0 v0 E0 v5 => ⟨65, [(0, (wL Z3 v0)), (3, (.bptr 30000000 0)), (5, (wI v5))], [(30000000, .box (bx (Zn E0)))]⟩,
 fun r => [], fun r => (wB r), fun | .L0 v0 E0 v5 => Zn1 v0 E0 v5⟩
def Zwc (a0 : (List Zq)) (a1 : Zb) : Option Bool := Z0a.run (Zz9 a0 a1)
theorem Zjm (a0 : (List Zq)) (a1 : Zb) {r : Bool} (h : Zwc a0 a1 = some r) : Fn PR 59 [(wL Z3 a0), (wA (Zn a1))] (wB r) := Z0a.fn h
inductive Zg8 where
 | L0 (v0 : (List Zh)) (v1 : (List Zh)) (v5 : Int)
def Zms (v0 : (List Zh)) (v1 : (List Zh)) (v5 : Int) : LT Zg8 Bool :=
.len Z9 v0<|.br (decide (v5 < (v0.length : Int))) (.idx Z9 v0 v5 fun x3=>.idx Z9 v1 v5 fun x5=>.br (!(Zab (Z9 x3) (Z9 x5))) (.rt false)<|.g0 (.L0 v0 v1 (IntKind.wrap .i64 (v5 + 1))))<|.rt true
def Zxo (a0 : (List Zh)) (a1 : (List Zh)) : LT Zg8 Bool :=
.len Z9 a0<|.len Z9 a1<|.br ((a0.length : Int) != (a1.length : Int)) (.rt false)<|.g0 (.L0 a0 a1 0)
def Zxp : LF Zg8 Bool := ⟨174, [.t 4], false, fun | .L0 .. => [1,1,0,1,4],
 fun | .L0 v0 v1 v5 => ⟨26, [(0, (wL Z9 v0)), (1, (wL Z9 v1)), (5, (wI v5))], []⟩,
 fun r => [], fun r => (wB r), fun | .L0 v0 v1 v5 => Zms v0 v1 v5⟩
def Zsm (a0 : (List Zh)) (a1 : (List Zh)) : Option Bool := Zxp.run (Zxo a0 a1)
theorem Zuw (a0 : (List Zh)) (a1 : (List Zh)) {r : Bool} (h : Zsm a0 a1 = some r) : Fn PR 174 [(wL Z9 a0), (wL Z9 a1)] (wB r) := Zxp.fn h
def Zabk (a0 : Zs) (a1 : Zs) : LT Empty Bool :=
.lb 1002<|.lb 1003<|.cs (a0.Op == a1.Op) (.k5 0<|.kg 0<|.cs (Zab (Zbh a0.Ref) (Zbh a1.Ref)) (.k5 1<|.kg 1<|.cs (Zab (Z1 a0.Amount) (Z1 a1.Amount)) (.k5 2<|.kg 2<|.cs (a0.Counter == a1.Counter) (.k5 3<|.kg 3<|.cs (a0.Zone == a1.Zone) (.k5 4<|.kg 4<|.cs (a0.Card == a1.Card) (.k5 5<|.kg 5<|.cs (Zab (Zg a0.Filter) (Zg a1.Filter)) (.k5 6<|.kg 6<|.cs (Zab ((cA6 (cI .i64)) a0.Pool) ((cA6 (cI .i64)) a1.Pool)) (.k5 7<|.call (Zuw a0.Mods a1.Mods) fun x9=>.kg 7<|.rt x9)<|.k5 7<|.kg 7<|.rt false)<|.k5 6<|.kg 6<|.b5 false<|.kb false<|.rt false)<|.k5 5<|.kg 5<|.b8 false<|.b4 false<|.rt false)<|.k5 4<|.kg 4<|.b16 false<|.b2 false<|.rt false)<|.k5 3<|.kg 3<|.b16 false<|.b8 false<|.rt false)<|.k5 2<|.kg 2<|.b16 false<|.b8 false<|.b5 false<|.kb false<|.rt false)<|.k5 1<|.kg 1<|.b16 false<|.b16 false<|.b4 false<|.rt false)<|.k5 0<|.kg 0<|.b16 false<|.b16 false<|.b8 false<|.b2 false<|.rt false
def Zabl : LF Empty Bool := .z 196 [.t 4] false (fun r => []) (fun r => (wB r))
def Z8b (a0 : Zs) (a1 : Zs) : Option Bool := Zabl.run (Zabk a0 a1)
theorem Zal3 (a0 : Zs) (a1 : Zs) {r : Bool} (h : Z8b a0 a1 = some r) : Fn PR 196 [(wA (Z5 a0)), (wA (Z5 a1))] (wB r) := Zabl.fn h
inductive Zg9 where
 | L0 (v0 : (List Zs)) (v1 : (List Zs)) (v5 : Int)
def Zmt (v0 : (List Zs)) (v1 : (List Zs)) (v5 : Int) : LT Zg9 Bool :=
.len Z5 v0<|.br (decide (v5 < (v0.length : Int))) (.idx Z5 v0 v5 fun x3=>.idx Z5 v1 v5 fun x5=>.call (Zal3 x3 x5) fun x7=>.br (!x7) (.rt false)<|.g0 (.L0 v0 v1 (IntKind.wrap .i64 (v5 + 1))))<|.rt true
def Zxq (a0 : (List Zs)) (a1 : (List Zs)) : LT Zg9 Bool :=
.len Z5 a0<|.len Z5 a1<|.br ((a0.length : Int) != (a1.length : Int)) (.rt false)<|.g0 (.L0 a0 a1 0)
def Zxr : LF Zg9 Bool := ⟨175, [.t 4], false, fun | .L0 .. => [1,1,0,1,4],
 fun | .L0 v0 v1 v5 => ⟨27, [(0, (wL Z5 v0)), (1, (wL Z5 v1)), (5, (wI v5))], []⟩,
 fun r => [], fun r => (wB r), fun | .L0 v0 v1 v5 => Zmt v0 v1 v5⟩
def Zsn (a0 : (List Zs)) (a1 : (List Zs)) : Option Bool := Zxr.run (Zxq a0 a1)
theorem Zabm (a0 : (List Zs)) (a1 : (List Zs)) {r : Bool} (h : Zsn a0 a1 = some r) : Fn PR 175 [(wL Z5 a0), (wL Z5 a1)] (wB r) := Zxr.fn h
inductive Zmu where
 | L0 (E0 : Zk) (E1 : Zk) (v5 : Int)
def Zwd (E0 : Zk) (E1 : Zk) (v5 : Int) : LT Zmu Bool :=
.len Zbg E0.Specs<|.br (decide (v5 < (E0.Specs.length : Int))) (.idx Zbg E0.Specs v5 fun x3=>.idx Zbg E1.Specs v5 fun x5=>.br (!(Zab (Zbg x3) (Zbg x5))) (.rt false)<|.g0 (.L0 E0 E1 (IntKind.wrap .i64 (v5 + 1))))<|.cs (E0.Kind == E1.Kind) (.k5 1<|.kg 1<|.cs (Zab (Zg E0.Filter) (Zg E1.Filter)) (.k5 2<|.call (Zuw E0.Mods E1.Mods) fun x12=>.kg 2<|.cs x12 (.k5 3<|.kg 3<|.cs (Zab (Zel E0.Price) (Zel E1.Price)) (.k5 4<|.kg 4<|.cs (E0.Slow == E1.Slow) (.k5 5<|.kg 5<|.cs (Zab (Zc1 E0.Trigger) (Zc1 E1.Trigger)) (.k5 6<|.kg 6<|.cs (E0.May == E1.May) (.k5 7<|.call (Zabm E0.Effects E1.Effects) fun x19=>.kg 7<|.cs x19 (.k5 8<|.kg 8<|.rt (Zab (Zbk E0.Replace) (Zbk E1.Replace)))<|.k5 8<|.kg 8<|.rt false)<|.k5 7<|.kg 7<|.b5 false<|.kb false<|.rt false)<|.k5 6<|.kg 6<|.b8 false<|.b4 false<|.rt false)<|.k5 5<|.kg 5<|.b16 false<|.b2 false<|.rt false)<|.k5 4<|.kg 4<|.b16 false<|.b8 false<|.rt false)<|.k5 3<|.kg 3<|.b16 false<|.b8 false<|.b5 false<|.kb false<|.rt false)<|.k5 2<|.kg 2<|.b16 false<|.b16 false<|.b4 false<|.rt false)<|.k5 1<|.kg 1<|.b16 false<|.b16 false<|.b8 false<|.b2 false<|.rt false
def Zabn (a0 : Zk) (a1 : Zk) : LT Zmu Bool :=
.lb 1002<|.lb 1003<|.len Zbg a0.Specs<|.len Zbg a1.Specs<|.br ((a0.Specs.length : Int) != (a1.Specs.length : Int)) (.rt false)<|.go (.L0 a0 a1 0) [.relab 1002 30000000, .relab 1003 30000001]
def Zabo : LF Zmu Bool := ⟨145, [.t 4], false, fun | .L0 .. => [1,1,0,1,4],
 fun | .L0 E0 E1 v5 => ⟨92, [(2, (.bptr 30000000 0)), (3, (.bptr 30000001 0)), (5, (wI v5))], [(30000000, .box (bx (Zae E0))), (30000001, .box (bx (Zae E1)))]⟩,
 fun r => [], fun r => (wB r), fun | .L0 E0 E1 v5 => Zwd E0 E1 v5⟩
def Z8c (a0 : Zk) (a1 : Zk) : Option Bool := Zabo.run (Zabn a0 a1)
theorem Zal4 (a0 : Zk) (a1 : Zk) {r : Bool} (h : Z8c a0 a1 = some r) : Fn PR 145 [(wA (Zae a0)), (wA (Zae a1))] (wB r) := Zabo.fn h
def Zabp (a0 : Zb) (a1 : Zgv) : LT Empty Bool :=
.lb 1002<|.lb 1003<|.call (Zdb a1.Id 1 (IntKind.wrap .i64 (a0.NextId - 1))) fun x3=>.cs (!x3) (.k5 0<|.b8 true<|.b3 true<|.kn [0]<|.rt false)<|.k3 0<|.call (Zdb a1.X 0 1000000) fun x6=>.k2 0<|.cs (!x6) (.k5 1<|.b5 true<|.kb true<|.kn [0]<|.rt false)<|.k3 1<|.len Zcx a1.Targets<|.k2 1<|.cs (decide ((a1.Targets.length : Int) > 4)) (.k5 2<|.kg 2<|.kn [0]<|.rt false)<|.k4 2<|.call (Ze7 a0 a1.Control) fun x11=>.k2 2<|.br (!x11) (.rt false)<|.call (Zz5 a0 a1.Id) fun x14=>.lb 1005<|.br (a1.Kind == 1) (.call (Zal4 a1.Ability (⟨0, (⟨0, 0, 0, 0, 0, 0, 0, ([] : List UInt8), 0, 0, (⟨0, 0⟩ : Za), (⟨0, 0⟩ : Za), (⟨0, 0⟩ : Za)⟩ : Zc), ([] : (List Zh)), (⟨(⟨0, 0, (⟨0, 0, 0, 0, 0⟩ : (A5 Int))⟩ : Zl), false, false, 0⟩ : Zfl), false, (⟨0, 0, (⟨0, 0, 0, 0, 0, 0, 0, ([] : List UInt8), 0, 0, (⟨0, 0⟩ : Za), (⟨0, 0⟩ : Za), (⟨0, 0⟩ : Za)⟩ : Zc)⟩ : Zb9), false, ([] : (List Zcw)), ([] : (List Zs)), (⟨0, 0, (⟨0, 0, 0, 0, 0, 0, 0, ([] : List UInt8), 0, 0, (⟨0, 0⟩ : Za), (⟨0, 0⟩ : Za), (⟨0, 0⟩ : Za)⟩ : Zc), 0, 0, 0, 0⟩ : Zaj)⟩ : Zk)) fun x17=>.cs (a1.Source == a1.Id) (.k2 5<|.cs x14.2 (.k4 6<|.cs (x14.1.Zone == 5) (.k2 7<|.cs x17 (.k3 8<|.kg 7<|.kg 8<|.kg 7<|.rt true)<|.k3 8<|.call (Zuv a1.Ability) fun x23=>.kg 7<|.kg 8<|.kg 7<|.rt x23)<|.k4 7<|.rt false)<|.k4 6<|.b4 false<|.rt false)<|.k2 5<|.b8 false<|.rt false)<|.cs (a1.Kind == 2) (.k3 5<|.cs (!x14.2) (.k3 6<|.call (Zuv a1.Ability) fun x27=>.kg 6<|.rt x27)<|.k4 6<|.rt false)<|.k3 5<|.b4 false<|.rt false
def Zabq : LF Empty Bool := .z 95 [.t 4] false (fun r => []) (fun r => (wB r))
def Z8d (a0 : Zb) (a1 : Zgv) : Option Bool := Zabq.run (Zabp a0 a1)
theorem Zal5 (a0 : Zb) (a1 : Zgv) {r : Bool} (h : Z8d a0 a1 = some r) : Fn PR 95 [(wA (Zn a0)), (wA (Zay a1))] (wB r) := Zabq.fn h
inductive Zso where
 | L0 (v0 : (List Int)) (v3 : Int)
def Z2a (v0 : (List Int)) (v3 : Int) : LT Zso Bool :=
.len (cI .i64) v0<|.br (decide (v3 < (v0.length : Int))) (.idx (cI .i64) v0 (IntKind.wrap .i64 (v3 - 1)) fun x5=>.idx (cI .i64) v0 v3 fun x7=>.br (decide (x5 ≥ x7)) (.rt false)<|.g0 (.L0 v0 (IntKind.wrap .i64 (v3 + 1))))<|.rt true
def Zajx (a0 : (List Int)) : LT Zso Bool :=
.g0 (.L0 a0 1)
def Zajy : LF Zso Bool := ⟨96, [.t 2], false, fun | .L0 .. => [1,0,1,4],
 fun | .L0 v0 v3 => ⟨20, [(0, (wL (cI .i64) v0)), (3, (wI v3))], []⟩,
 fun r => [], fun r => (wB r), fun | .L0 v0 v3 => Z2a v0 v3⟩
def Zajz (a0 : (List Int)) : Option Bool := Zajy.run (Zajx a0)
theorem Zaqs (a0 : (List Int)) {r : Bool} (h : Zajz a0 = some r) : Fn PR 96 [(wL (cI .i64) a0)] (wB r) := Zajy.fn h
inductive Zfn where
 | L0 (E0 : Zb) (v3 : Int)
 | L1 (E0 : Zb) (v3 : Int) (v4 : Int)
 | L2 (E0 : Zb) (v5 : Int)
 | L3 (E0 : Zb) (v7 : Int)
def Zsp (E0 : Zb) (v3 : Int) : LT Zfn Bool :=
.len Zay E0.Stack<|.br (decide (v3 < (E0.Stack.length : Int))) (.idx Zay E0.Stack v3 fun x3=>.call (Zal5 E0 x3) fun x5=>.br (!x5) (.rt false)<|.g0 (.L1 E0 v3 0))<|.g0 (.L2 E0 0)
def Zsq (E0 : Zb) (v3 : Int) (v4 : Int) : LT Zfn Bool :=
.br (decide (v4 < v3)) (.idx Zay E0.Stack v4 fun x2=>.idx Zay E0.Stack v3 fun x4=>.br (x2.Id == x4.Id) (.rt false)<|.g0 (.L1 E0 v3 (IntKind.wrap .i64 (v4 + 1))))<|.g0 (.L0 E0 (IntKind.wrap .i64 (v3 + 1)))
def Zsr (E0 : Zb) (v5 : Int) : LT Zfn Bool :=
.len Zaz E0.Waiting<|.br (decide (v5 < (E0.Waiting.length : Int))) (.idx Zaz E0.Waiting v5 fun x3=>.lb 1006<|.call (Ze7 E0 x3.Control) fun x5=>.cs (!x5) (.k5 1<|.b5 true<|.kn [0]<|.rt false)<|.k5 1<|.cs (x3.Ability.Kind != 4) (.k5 2<|.kn [0]<|.rt false)<|.k3 2<|.call (Zuv x3.Ability) fun x9=>.k2 2<|.br (!x9) (.rt false)<|.g0 (.L2 E0 (IntKind.wrap .i64 (v5 + 1))))<|.g0 (.L3 E0 0)
def Zss (E0 : Zb) (v7 : Int) : LT Zfn Bool :=
.len Zbr E0.Conts<|.br (decide (v7 < (E0.Conts.length : Int))) (.idx Zbr E0.Conts v7 fun x3=>.lb 1008<|.call (Ze7 E0 x3.Control) fun x5=>.cs (!x5) (.k5 1<|.kg 1<|.b8 true<|.b5 true<|.b2 true<|.kn [0]<|.rt false)<|.k5 1<|.kg 1<|.cs (decide (x3.Stamp ≥ E0.NextStamp)) (.k5 2<|.b8 true<|.b2 true<|.kn [0]<|.rt false)<|.k3 2<|.call (Zdb x3.Until 1 2) fun x9=>.k2 2<|.cs (!x9) (.k5 3<|.b5 true<|.kn [0]<|.rt false)<|.k3 3<|.call (Zaqs x3.Objects) fun x12=>.k2 3<|.cs (!x12) (.k5 4<|.kn [0]<|.rt false)<|.k3 4<|.call (Zmn x3.Mods) fun x15=>.k2 4<|.br (x15 == ([] : List UInt8)) (.rt false)<|.g0 (.L3 E0 (IntKind.wrap .i64 (v7 + 1))))<|.rt true
def Z56 (a0 : Zb) : LT Zfn Bool :=
.lb 1001<|.len Zay a0.Stack<|.cs (decide ((a0.Stack.length : Int) > 64)) (.k5 0<|.b5 true<|.kn [0]<|.rt false)<|.k3 0<|.len Zaz a0.Waiting<|.k2 0<|.cs (decide ((a0.Waiting.length : Int) > 64)) (.k5 1<|.kn [0]<|.rt false)<|.k3 1<|.len Zbr a0.Conts<|.k2 1<|.br (decide ((a0.Conts.length : Int) > 64)) (.rt false)<|.go (.L0 a0 0) [.relab 1001 30000000]
def Z57 : LF Zfn Bool := ⟨60, [.t 2], false, fun | .L0 .. => [1,1,0,1,4] | .L1 .. => [1,1,0,1,4,5,1,0,4,1,1,4] | .L2 .. => [1,1,1,0,1,4] | .L3 .. => [1,1,1,1,0,1,4],
 fun | .L0 E0 v3 => ⟨129, [(1, (.bptr 30000000 0)), (3, (wI v3))], [(30000000, .box (bx (Zn E0)))]⟩ | .L1 E0 v3 v4 => ⟨129, [(1, (.bptr 30000000 0)), (3, (wI v3)), (4, (wI v4))], [(30000000, .box (bx (Zn E0)))]⟩ | .L2 E0 v5 => ⟨129, [(1, (.bptr 30000000 0)), (5, (wI v5))], [(30000000, .box (bx (Zn E0)))]⟩ | .L3 E0 v7 => ⟨129, [(1, (.bptr 30000000 0)), (7, (wI v7))], [(30000000, .box (bx (Zn E0)))]⟩,
 fun r => [], fun r => (wB r), fun | .L0 E0 v3 => Zsp E0 v3 | .L1 E0 v3 v4 => Zsq E0 v3 v4 | .L2 E0 v5 => Zsr E0 v5 | .L3 E0 v7 => Zss E0 v7⟩
def Z2b (a0 : Zb) : Option Bool := Z57.run (Z56 a0)
theorem Zmv (a0 : Zb) {r : Bool} (h : Z2b a0 = some r) : Fn PR 60 [(wA (Zn a0))] (wB r) := Z57.fn h
inductive Zst where
 | L0 (v0 : (List Zq)) (E0 : Zb) (v5 : Int)
def Z2c (v0 : (List Zq)) (E0 : Zb) (v5 : Int) : LT Zst Bool :=
.len (cI .i64) E0.Extra<|.br (decide (v5 < (E0.Extra.length : Int))) (.idx (cI .i64) E0.Extra v5 fun x3=>.call (Ze7 E0 x3) fun x5=>.br (!x5) (.rt false)<|.g0 (.L0 v0 E0 (IntKind.wrap .i64 (v5 + 1))))<|.cs (E0.Over == 1) (.k4 1<|.call (Ze7 E0 E0.Winner) fun x11=>.k2 1<|.cs (!x11) (.k5 2<|.kg 2<|.kn [0]<|.rt false)<|.k4 2<|.cs (E0.Over != 1) (.k3 3<|.kg 2<|.kg 3<|.kg 2<|.br (E0.Winner != (-1)) (.rt false)<|.call (Zjm v0 E0) fun x16=>.cs x16 (.k2 5<|.call (Zmv E0) fun x19=>.kg 5<|.rt x19)<|.k3 5<|.rt false)<|.k3 3<|.kg 2<|.kg 3<|.kg 2<|.kn [0]<|.call (Zjm v0 E0) fun x21=>.cs x21 (.k2 4<|.call (Zmv E0) fun x24=>.kg 4<|.rt x24)<|.k3 4<|.rt false)<|.k5 1<|.kg 1<|.b4 false<|.cs (E0.Over != 1) (.k3 2<|.kb false<|.kg 2<|.kb false<|.br (E0.Winner != (-1)) (.rt false)<|.call (Zjm v0 E0) fun x28=>.cs x28 (.k2 4<|.call (Zmv E0) fun x31=>.kg 4<|.rt x31)<|.k3 4<|.rt false)<|.k3 2<|.kb false<|.kg 2<|.kb false<|.kn [0]<|.call (Zjm v0 E0) fun x33=>.cs x33 (.k2 3<|.call (Zmv E0) fun x36=>.kg 3<|.rt x36)<|.k3 3<|.rt false
def Zaj0 (a0 : (List Zq)) (a1 : Zb) : LT Zst Bool :=
.lb 1003<|.call (Zdb a1.NextId 1 1000000) fun x1=>.cs (!x1) (.k5 0<|.b8 true<|.b5 true<|.b2 true<|.kn [0]<|.rt false)<|.k3 0<|.call (Zdb a1.NextStamp 1 1000000) fun x4=>.k2 0<|.cs (!x4) (.k5 1<|.b8 true<|.b2 true<|.kn [0]<|.rt false)<|.k3 1<|.call (Zdb a1.Turn 0 500) fun x7=>.k2 1<|.cs (!x7) (.k5 2<|.b5 true<|.kn [0]<|.rt false)<|.k3 2<|.call (Zdb a1.Step 0 10) fun x10=>.k2 2<|.cs (!x10) (.k5 3<|.kn [0]<|.rt false)<|.k3 3<|.len Zi a1.Objects<|.k2 3<|.br (decide ((a1.Objects.length : Int) > 2048)) (.rt false)<|.call (Zada a1) fun x15=>.cs (!x15) (.k5 5<|.kg 5<|.b16 true<|.b8 true<|.kn [0]<|.rt false)<|.k4 5<|.call (Ze7 a1 a1.Active) fun x18=>.k2 5<|.cs (!x18) (.k5 6<|.kg 6<|.b16 true<|.b2 true<|.kn [0]<|.rt false)<|.k4 6<|.call (Ze7 a1 a1.Priority) fun x21=>.k2 6<|.cs (!x21) (.k8 7<|.b8 true<|.b2 true<|.kn [0]<|.rt false)<|.k5 7<|.len Z6 a1.Players<|.kg 7<|.call (Zdb a1.Passes 0 (a1.Players.length : Int)) fun x25=>.k2 7<|.cs (!x25) (.k5 8<|.b5 true<|.kn [0]<|.rt false)<|.k3 8<|.len (cI .i64) a1.Extra<|.k2 8<|.cs (decide ((a1.Extra.length : Int) > 500)) (.k5 9<|.kn [0]<|.rt false)<|.k3 9<|.call (Zdb a1.Over 0 2) fun x30=>.k2 9<|.br (!x30) (.rt false)<|.go (.L0 a0 a1 0) [.relab 1003 30000000]
def Zaj1 : LF Zst Bool := ⟨26, [.t 4], false, fun | .L0 .. => [1,1,1,0,1,4],
 fun | .L0 v0 E0 v5 => ⟨114, [(0, (wL Z3 v0)), (3, (.bptr 30000000 0)), (5, (wI v5))], [(30000000, .box (bx (Zn E0)))]⟩,
 fun r => [], fun r => (wB r), fun | .L0 v0 E0 v5 => Z2c v0 E0 v5⟩
def Zaj2 (a0 : (List Zq)) (a1 : Zb) : Option Bool := Zaj1.run (Zaj0 a0 a1)
theorem Zaqt (a0 : (List Zq)) (a1 : Zb) {r : Bool} (h : Zaj2 a0 a1 = some r) : Fn PR 26 [(wL Z3 a0), (wA (Zn a1))] (wB r) := Zaj1.fn h
inductive Zkl where
 | L0 (v0 : (List Zq)) (E0 : Zb) (v5 : Int)
def Zsu (v0 : (List Zq)) (E0 : Zb) (v5 : Int) : LT Zkl Bool :=
.len Z6 E0.Players<|.br (decide (v5 < (E0.Players.length : Int))) (.idx Z6 E0.Players v5 fun x3=>.len (cI .i64) x3.Library<|.ag Z6 x3 0<|.len (cI .i64) x3.Hand<|.ag Z6 x3 0<|.len (cI .i64) x3.Graveyard<|.br (decide ((IntKind.wrap .i64 ((IntKind.wrap .i64 ((x3.Library.length : Int) + (x3.Hand.length : Int))) + (x3.Graveyard.length : Int))) > 60)) (.rt false)<|.g0 (.L0 v0 E0 (IntKind.wrap .i64 (v5 + 1))))<|.call (Zajj v0) fun x15=>.cs (x15.2 == 0) (.k3 1<|.call (Zaqt v0 E0) fun x18=>.kg 1<|.rt x18)<|.k4 1<|.rt false
def Z58 (a0 : (List Zq)) (a1 : Zb) : LT Zkl Bool :=
.lb 1003<|.len Z3 a0<|.cs (decide ((a0.length : Int) > 12)) (.k5 0<|.b16 true<|.b16 true<|.b3 true<|.kn [0]<|.rt false)<|.k3 0<|.len Z6 a1.Players<|.k2 0<|.cs (decide ((a1.Players.length : Int) > 4)) (.k5 1<|.b16 true<|.b8 true<|.b5 true<|.kb true<|.kn [0]<|.rt false)<|.k3 1<|.len Zi a1.Objects<|.k2 1<|.cs (decide ((a1.Objects.length : Int) > 60)) (.k5 2<|.b16 true<|.b8 true<|.kb true<|.kn [0]<|.rt false)<|.k3 2<|.len (cI .i64) a1.Battlefield<|.k2 2<|.cs (decide ((a1.Battlefield.length : Int) > 60)) (.k5 3<|.b16 true<|.b4 true<|.kn [0]<|.rt false)<|.k3 3<|.len (cI .i64) a1.Exile<|.k2 3<|.cs (decide ((a1.Exile.length : Int) > 60)) (.k5 4<|.b8 true<|.b5 true<|.b2 true<|.kn [0]<|.rt false)<|.k3 4<|.len Zay a1.Stack<|.k2 4<|.cs (decide ((a1.Stack.length : Int) > 8)) (.k5 5<|.b8 true<|.b2 true<|.kn [0]<|.rt false)<|.k3 5<|.len Zaz a1.Waiting<|.k2 5<|.cs (decide ((a1.Waiting.length : Int) > 8)) (.k5 6<|.b5 true<|.kn [0]<|.rt false)<|.k3 6<|.len Zbr a1.Conts<|.k2 6<|.cs (decide ((a1.Conts.length : Int) > 8)) (.k5 7<|.kn [0]<|.rt false)<|.k3 7<|.len (cI .i64) a1.Extra<|.k2 7<|.br (decide ((a1.Extra.length : Int) > 20)) (.rt false)<|.go (.L0 a0 a1 0) [.relab 1003 30000000]
def Z59 : LF Zkl Bool := ⟨9, [.t 4], false, fun | .L0 .. => [1,1,0,1,4],
 fun | .L0 v0 E0 v5 => ⟨102, [(0, (wL Z3 v0)), (3, (.bptr 30000000 0)), (5, (wI v5))], [(30000000, .box (bx (Zn E0)))]⟩,
 fun r => [], fun r => (wB r), fun | .L0 v0 E0 v5 => Zsu v0 E0 v5⟩
def Z2d (a0 : (List Zq)) (a1 : Zb) : Option Bool := Z59.run (Z58 a0 a1)
theorem Zaj3 (a0 : (List Zq)) (a1 : Zb) {r : Bool} (h : Z2d a0 a1 = some r) : Fn PR 9 [(wL Z3 a0), (wA (Zn a1))] (wB r) := Z59.fn h
def Z0b (a0 : Zt) : LT Empty Zt :=
.lb 1001<|.lb 1002<|.br (a0.Kind == 2) (.rt (⟨0, 0, a0.Counter, (⟨0, 0, 0, 0, 0, 0, 0, ([] : List UInt8), 0, 0, (⟨0, 0⟩ : Za), (⟨0, 0⟩ : Za), (⟨0, 0⟩ : Za)⟩ : Zc)⟩ : Zt))<|.br (a0.Kind == 0) (.rt (⟨0, 0, a0.Counter, a0.Filter⟩ : Zt))<|.br (a0.Kind == 4) (.rt (⟨0, a0.N, 0, a0.Filter⟩ : Zt))<|.rt (⟨0, a0.N, a0.Counter, a0.Filter⟩ : Zt)
def Z0c : LF Empty Zt := .z 68 [.c 2 43 true 19] false (fun r => []) (fun r => (wA (Z1 r)))
def Zwe (a0 : Zt) : Option Zt := Z0c.run (Z0b a0)
theorem Zadb (a0 : Zt) {r : Zt} (h : Zwe a0 = some r) : Fn PR 68 [(wA (Z1 a0))] (wA (Z1 r)) := Z0c.fn h
def Zsv (a0 : Int) (a1 : Int) : LT Empty Bool :=
.cs (decide (a0 ≥ 0)) (.k4 0<|.rt (decide (a0 ≤ a1)))<|.k4 0<|.rt false
def Zsw : LF Empty Bool := .z 110 [.t 4] false (fun r => []) (fun r => (wB r))
def Zn2 (a0 : Int) (a1 : Int) : Option Bool := Zsw.run (Zsv a0 a1)
theorem Zbb (a0 : Int) (a1 : Int) {r : Bool} (h : Zn2 a0 a1 = some r) : Fn PR 110 [(wI a0), (wI a1)] (wB r) := Zsw.fn h
inductive Zux where
 | L0 (v36 : (List Int)) (v37 : Int) (v38 : Int)
def Zmw (v36 : (List Int)) (v37 : Int) (v38 : Int) : LT Zux Bool :=
.br (decide (v38 < v37)) (.idx (cI .u8) v36 v38 fun x2=>.cs (decide (x2 < 97)) (.k3 1<|.b3 true<|.cs (decide (x2 < 48)) (.k2 2<|.kb true<|.kg 2<|.b4 true<|.br (x2 != 45) (.rt false)<|.g0 (.L0 v36 v37 (IntKind.wrap .i64 (v38 + 1))))<|.k2 2<|.kb true<|.kg 2<|.kb true<|.cs (decide (x2 > 57)) (.k3 3<|.br (x2 != 45) (.rt false)<|.g0 (.L0 v36 v37 (IntKind.wrap .i64 (v38 + 1))))<|.k3 3<|.kn [0]<|.g0 (.L0 v36 v37 (IntKind.wrap .i64 (v38 + 1))))<|.k3 1<|.cs (decide (x2 > 122)) (.k3 2<|.cs (decide (x2 < 48)) (.k2 3<|.kg 2<|.kg 3<|.kg 2<|.b3 true<|.br (x2 != 45) (.rt false)<|.g0 (.L0 v36 v37 (IntKind.wrap .i64 (v38 + 1))))<|.k2 3<|.kg 2<|.kg 3<|.kg 2<|.cs (decide (x2 > 57)) (.k3 4<|.br (x2 != 45) (.rt false)<|.g0 (.L0 v36 v37 (IntKind.wrap .i64 (v38 + 1))))<|.k3 4<|.kn [0]<|.g0 (.L0 v36 v37 (IntKind.wrap .i64 (v38 + 1))))<|.k5 2<|.b3 false<|.kn [0]<|.g0 (.L0 v36 v37 (IntKind.wrap .i64 (v38 + 1))))<|.rt true
def Zaey (a0 : (List UInt8)) : LT Zux Bool :=
.lenS a0<|.cs ((a0.length : Int) == 0) (.k4 0<|.b16 true<|.b2 true<|.kn [0]<|.rt false)<|.k2 0<|.lenS a0<|.k2 0<|.cs (decide ((a0.length : Int) > 32)) (.k4 1<|.b8 true<|.b5 true<|.kb true<|.kn [0]<|.rt false)<|.k2 1<|.idxS a0 0 fun x4=>.k2 1<|.cs (decide ((UInt8.toNat x4 : Int) < 97)) (.k4 2<|.b8 true<|.b2 true<|.kn [0]<|.rt false)<|.k2 2<|.idxS a0 0 fun x7=>.k2 2<|.cs (decide ((UInt8.toNat x7 : Int) > 122)) (.k5 3<|.k2 3<|.b3 true<|.kn [0]<|.rt false)<|.k3 3<|.lenS a0<|.k2 3<|.idxS a0 (IntKind.wrap .i64 ((a0.length : Int) - 1)) fun x12=>.k2 3<|.cs ((UInt8.toNat x12 : Int) == 45) (.k3 4<|.kn [0]<|.rt false)<|.k2 4<|.call (Z0r a0 ([45, 45] : List UInt8)) fun x15=>.kg 4<|.br x15 (.rt false)<|.bys a0 fun x18=>.len (cI .u8) x18<|.g0 (.L0 x18 (x18.length : Int) 0)
def Zpm : LF Zux Bool := ⟨155, [.t 2], false, fun | .L0 .. => [1,1,0,1,4],
 fun | .L0 v36 v37 v38 => ⟨61, [(36, (wL (cI .u8) v36)), (37, (wI v37)), (38, (wI v38))], []⟩,
 fun r => [], fun r => (wB r), fun | .L0 v36 v37 v38 => Zmw v36 v37 v38⟩
def Zadc (a0 : (List UInt8)) : Option Bool := Zpm.run (Zaey a0)
theorem Zan8 (a0 : (List UInt8)) {r : Bool} (h : Zadc a0 = some r) : Fn PR 155 [(wS a0)] (wB r) := Zpm.fn h
def Zsx (a0 : Int) : LT Empty (List UInt8) :=
.idX Ze.str (A2.list (⟨([98, 97, 115, 105, 99] : List UInt8), ([117, 110, 105, 113, 117, 101] : List UInt8)⟩ : (A2 (List UInt8)))) a0 fun x1=>.rt x1
def Zlc : LF Empty (List UInt8) := .z 157 [.t 2] false (fun r => []) (fun r => (wS r))
def Zn3 (a0 : Int) : Option (List UInt8) := Zlc.run (Zsx a0)
theorem Z4f (a0 : Int) {r : (List UInt8)} (h : Zn3 a0 = some r) : Fn PR 157 [(wI a0)] (wS r) := Zlc.fn h
def Zuy (a0 : Int) : LT Empty (List UInt8) :=
.idX Ze.str (A6.list (⟨([99, 114, 101, 97, 116, 117, 114, 101] : List UInt8), ([105, 110, 115, 116, 97, 110, 116] : List UInt8), ([114, 105, 116, 117, 97, 108] : List UInt8), ([114, 101, 108, 105, 99] : List UInt8), ([99, 104, 97, 114, 109] : List UInt8), ([108, 97, 110, 100] : List UInt8)⟩ : (A6 (List UInt8)))) a0 fun x1=>.rt x1
def Zmx : LF Empty (List UInt8) := .z 158 [.t 2] false (fun r => []) (fun r => (wS r))
def Zp3 (a0 : Int) : Option (List UInt8) := Zmx.run (Zuy a0)
theorem Z8e (a0 : Int) {r : (List UInt8)} (h : Zp3 a0 = some r) : Fn PR 158 [(wI a0)] (wS r) := Zmx.fn h
inductive Ze8 where
 | L0 (v0 : (List UInt8)) (v8 : Int) (v9 : Int)
def Zdc (v0 : (List UInt8)) (v8 : Int) (v9 : Int) : LT Ze8 Int :=
.br (decide (v9 < v8)) (.call (Z4f v9) fun x2=>.br (!(x2 == v0)) (.g0 (.L0 v0 v8 (IntKind.wrap .i64 (v9 + 1))))<|.ok (¬ v9 < 0)<|.rt (Z07 .i64 1 v9))<|.rt 0
def Zh2 (a0 : (List UInt8)) (a1 : Int) : LT Ze8 Int :=
.g0 (.L0 a0 a1 0)
def Ze9 : LF Ze8 Int := ⟨156, [.t 6], false, fun | .L0 .. => [1,6,1,0,1,4],
 fun | .L0 v0 v8 v9 => ⟨20, [(0, (wS v0)), (2, (.fn 157 [])), (8, (wI v8)), (9, (wI v9))], []⟩,
 fun r => [], fun r => (wI r), fun | .L0 v0 v8 v9 => Zdc v0 v8 v9⟩
def Zf1 (a0 : (List UInt8)) (a1 : Int) : Option Int := Ze9.run (Zh2 a0 a1)
theorem Zpn (a0 : (List UInt8)) (a1 : Int) {r : Int} (h : Zf1 a0 a1 = some r) : Fn PR 156 [(wS a0), (wI a1), (.fn 157 [])] (wI r) := Ze9.fn h
inductive Zfg where
 | L0 (v0 : (List UInt8)) (v8 : Int) (v9 : Int)
def Zdm (v0 : (List UInt8)) (v8 : Int) (v9 : Int) : LT Zfg Int :=
.br (decide (v9 < v8)) (.call (Z8e v9) fun x2=>.br (!(x2 == v0)) (.g0 (.L0 v0 v8 (IntKind.wrap .i64 (v9 + 1))))<|.ok (¬ v9 < 0)<|.rt (Z07 .i64 1 v9))<|.rt 0
def Zin (a0 : (List UInt8)) (a1 : Int) : LT Zfg Int :=
.g0 (.L0 a0 a1 0)
def Zfh : LF Zfg Int := ⟨156, [.t 6], false, fun | .L0 .. => [1,6,1,0,1,4],
 fun | .L0 v0 v8 v9 => ⟨20, [(0, (wS v0)), (2, (.fn 158 [])), (8, (wI v8)), (9, (wI v9))], []⟩,
 fun r => [], fun r => (wI r), fun | .L0 v0 v8 v9 => Zdm v0 v8 v9⟩
def Zgg (a0 : (List UInt8)) (a1 : Int) : Option Int := Zfh.run (Zin a0 a1)
theorem Zp4 (a0 : (List UInt8)) (a1 : Int) {r : Int} (h : Zgg a0 a1 = some r) : Fn PR 156 [(wS a0), (wI a1), (.fn 158 [])] (wI r) := Zfh.fn h
def Z2e (a0 : (List UInt8)) : LT Empty Bool :=
.call (Zan8 a0) fun x1=>.cs x1 (.k2 0<|.call (Zpn a0 2) fun x4=>.k2 0<|.cs (x4 == 0) (.k2 1<|.call (Zp4 a0 6) fun x7=>.k2 1<|.rt (x7 == 0))<|.k4 1<|.rt false)<|.k4 0<|.b4 false<|.rt false
def Z2f : LF Empty Bool := .z 111 [.t 2] false (fun r => []) (fun r => (wB r))
def Zy8 (a0 : (List UInt8)) : Option Bool := Z2f.run (Z2e a0)
theorem Zafo (a0 : (List UInt8)) {r : Bool} (h : Zy8 a0 = some r) : Fn PR 111 [(wS a0)] (wB r) := Z2f.fn h
def Zsy (a0 : Za) : LT Empty Bool :=
.lb 1001<|.call (Zbb a0.Kind 3) fun x1=>.cs x1 (.k3 0<|.call (Zbb a0.N 1000000) fun x4=>.kg 0<|.cs x4 (.k4 1<|.cs (a0.Kind != 0) (.k3 2<|.kg 1<|.kg 2<|.kg 1<|.rt true)<|.k3 2<|.kg 1<|.kg 2<|.kg 1<|.rt (a0.N == 0))<|.k5 1<|.kg 1<|.rt false)<|.k4 0<|.b5 false<|.kb false<|.rt false
def Zsz : LF Empty Bool := .z 112 [.t 2] false (fun r => []) (fun r => (wB r))
def Zn4 (a0 : Za) : Option Bool := Zsz.run (Zsy a0)
theorem Zjx (a0 : Za) {r : Bool} (h : Zn4 a0 = some r) : Fn PR 112 [(wA (Zb8 a0))] (wB r) := Zsz.fn h
inductive Zol where
 | L0 (E0 : Zc)
def Zi5 (E0 : Zc) : LT Zol Bool :=
.call (Zjx E0.Power) fun x1=>.cs x1 (.k3 0<|.call (Zjx E0.Tough) fun x4=>.kg 0<|.cs x4 (.k3 1<|.call (Zjx E0.Value) fun x7=>.kg 1<|.rt x7)<|.k4 1<|.rt false)<|.k4 0<|.b4 false<|.rt false
def Z6a (a0 : Zc) : LT Zol Bool :=
.lb 1001<|.call (Zbb a0.Zone 5) fun x1=>.cs (!x1) (.k5 0<|.b8 true<|.b5 true<|.b2 true<|.kn [0]<|.rt false)<|.k3 0<|.call (Zbb a0.Who 2) fun x4=>.k2 0<|.cs (!x4) (.k5 1<|.b8 true<|.b2 true<|.kn [0]<|.rt false)<|.k3 1<|.call (Zbb a0.Self 2) fun x7=>.k2 1<|.cs (!x7) (.k5 2<|.b5 true<|.kn [0]<|.rt false)<|.k3 2<|.call (Zbb a0.Tap 2) fun x10=>.k2 2<|.cs (!x10) (.k5 3<|.kn [0]<|.rt false)<|.k3 3<|.call (Zbb a0.Keys 131071) fun x13=>.k2 3<|.br (!x13) (.rt false)<|.call (Zbb a0.Types 63) fun x16=>.cs (!x16) (.k5 5<|.b5 true<|.b2 true<|.kn [0]<|.rt false)<|.k3 5<|.call (Zbb a0.NotTypes 63) fun x19=>.k2 5<|.cs (!x19) (.k5 6<|.k2 6<|.kn [0]<|.rt false)<|.k5 6<|.k2 6<|.br ((Zbf .and .i64 a0.Types a0.NotTypes) != 0) (.rt false)<|.call (Zbb a0.Colors 31) fun x23=>.cs (!x23) (.k5 8<|.b5 true<|.b2 true<|.kn [0]<|.rt false)<|.k3 8<|.call (Zbb a0.NotColors 31) fun x26=>.k2 8<|.cs (!x26) (.k5 9<|.k2 9<|.kn [0]<|.rt false)<|.k5 9<|.k2 9<|.br ((Zbf .and .i64 a0.Colors a0.NotColors) != 0) (.rt false)<|.cs (!(a0.Sub == ([] : List UInt8))) (.k3 11<|.call (Zafo a0.Sub) fun x31=>.k2 11<|.br (!x31) (.rt false)<|.jn 0 (.L0 a0) [.relab 1001 30000000] (Zi5 a0))<|.k5 11<|.kn [0]<|.jn 0 (.L0 a0) [.relab 1001 30000000] (Zi5 a0)
def Zkm : LF Zol Bool := ⟨69, [.t 2], false, fun | .L0 .. => [1,1,1,1,1],
 fun | .L0 E0 => ⟨89, [(1, (.bptr 30000000 0))], [(30000000, .box (bx (Zg E0)))]⟩,
 fun r => [], fun r => (wB r), fun | .L0 E0 => Zi5 E0⟩
def Zuz (a0 : Zc) : Option Bool := Zkm.run (Z6a a0)
theorem Z2g (a0 : Zc) {r : Bool} (h : Zuz a0 = some r) : Fn PR 69 [(wA (Zg a0))] (wB r) := Zkm.fn h
def Zxs (a0 : Int) : LT Empty (List UInt8) :=
.cs (decide (a0 < 0)) (.k3 0<|.kn [0]<|.rt ([] : List UInt8))<|.k3 0<|.br (decide (a0 ≥ 3)) (.rt ([] : List UInt8))<|.idV Ze.str (A3.list (⟨[112, 108, 117, 115], [109, 105, 110, 117, 115], [99, 104, 97, 114, 103, 101]⟩ : A3 (List UInt8))) a0 [] fun x3=>.ldC Ze.str 11 x3 0<|.rt x3
def Zxt : LF Empty (List UInt8) := .z 70 [.t 2] false (fun r => []) (fun r => (wS r))
def Zs0 (a0 : Int) : Option (List UInt8) := Zxt.run (Zxs a0)
theorem Zabr (a0 : Int) {r : (List UInt8)} (h : Zs0 a0 = some r) : Fn PR 70 [(wI a0)] (wS r) := Zxt.fn h
end
end Go.PW
