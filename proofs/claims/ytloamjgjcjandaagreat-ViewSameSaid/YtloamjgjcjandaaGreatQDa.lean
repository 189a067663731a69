import Derived.Test.YtloamjgjcjandaaGreatQD
set_option linter.all false
set_option maxRecDepth 100000
namespace Go.PW
open Go.RowKit
noncomputable section
def Zaf7 (a0 : Int) : LT Empty Bool :=
.cs (decide (a0 ≥ 97)) (.kg 0<|.kg 0<|.kg 0<|.rt (decide (a0 ≤ 122)))<|.kg 0<|.kg 0<|.kg 0<|.rt false
def Zaf8 : LF Empty Bool := .z 108 [.t 2] false (fun r => []) (fun r => (wB r))
def Zae0 (a0 : Int) : Option Bool := Zaf8.run (Zaf7 a0)
theorem Zaa7 (a0 : Int) {r : Bool} (h : Zae0 a0 = some r) : Fn PR 108 [(.t (.int .u8 a0))] (wB r) := Zaf8.fn h
inductive Zqm where
 | L0 (v0 : (List UInt8)) (v3 : Int)
 | L1 (v0 : (List UInt8)) (v3 : Int)
def Zle (v0 : (List UInt8)) (v3 : Int) : LT Zqm Bool :=
.cs (decide (v3 > 0)) (.kg 0<|.kg 0<|.kg 0<|.idxS v0 v3 fun x2=>.kg 0<|.kg 0<|.cs ((UInt8.toNat x2 : Int) == 45) (.kg 1<|.kg 1<|.kg 1<|.kg 1<|.idxS v0 (IntKind.wrap .i64 (v3 - 1)) fun x7=>.kg 1<|.kg 1<|.br ((UInt8.toNat x7 : Int) == 45) (.rt false)<|.g0 (.L0 v0 (IntKind.wrap .i64 (v3 + 1))))<|.kg 1<|.kg 1<|.kg 1<|.kg 1<|.kg 1<|.kg 1<|.kn [0]<|.g0 (.L0 v0 (IntKind.wrap .i64 (v3 + 1))))<|.kg 0<|.kg 0<|.kg 0<|.kg 0<|.kg 0<|.kb false<|.kb false<|.kb false<|.kb false<|.kb false<|.kb false<|.kn [0]<|.g0 (.L0 v0 (IntKind.wrap .i64 (v3 + 1)))
def Z29 (v0 : (List UInt8)) (v3 : Int) : LT Zqm Bool :=
.lenS v0<|.br (decide (v3 < (v0.length : Int))) (.idxS v0 v3 fun x3=>.call (Zaa7 (UInt8.toNat x3 : Int)) fun x5=>.cs (!x5) (.kg 1<|.kg 1<|.kg 1<|.idxS v0 v3 fun x8=>.kg 1<|.kg 1<|.cs (decide ((UInt8.toNat x8 : Int) < 48)) (.kg 2<|.kg 2<|.kg 2<|.kg 2<|.kg 1<|.kg 2<|.kg 1<|.kb true<|.kb true<|.kb true<|.idxS v0 v3 fun x11=>.kb true<|.kb true<|.br ((UInt8.toNat x11 : Int) != 45) (.rt false)<|.j0 (.L1 v0 v3) (Zle v0 v3))<|.kg 2<|.kg 2<|.kg 2<|.idxS v0 v3 fun x14=>.kg 2<|.kg 1<|.kg 2<|.kg 1<|.cs (decide ((UInt8.toNat x14 : Int) > 57)) (.kg 3<|.kg 3<|.kg 3<|.idxS v0 v3 fun x17=>.kg 3<|.kg 3<|.br ((UInt8.toNat x17 : Int) != 45) (.rt false)<|.j0 (.L1 v0 v3) (Zle v0 v3))<|.kg 3<|.kg 3<|.kg 3<|.kg 3<|.kg 3<|.kn [0]<|.j0 (.L1 v0 v3) (Zle v0 v3))<|.kg 1<|.kg 1<|.kg 1<|.kg 1<|.kg 1<|.kg 1<|.kg 1<|.kb false<|.kb false<|.kb false<|.kb false<|.kb false<|.kn [0]<|.j0 (.L1 v0 v3) (Zle v0 v3))<|.rt true
def Zai3 (a0 : (List UInt8)) : LT Zqm Bool :=
.lenS a0<|.cs (decide ((a0.length : Int) < 1)) (.kg 0<|.kg 0<|.kg 0<|.kg 0<|.kb true<|.kb true<|.kb true<|.kb true<|.kb true<|.kb true<|.kb true<|.kb true<|.kb true<|.kb true<|.kb true<|.kb true<|.kn [0]<|.rt false)<|.kg 0<|.kg 0<|.lenS a0<|.kg 0<|.kg 0<|.cs (decide ((a0.length : Int) > 32)) (.kg 1<|.kg 1<|.kg 1<|.kg 1<|.kg 1<|.kb true<|.kb true<|.kb true<|.kb true<|.kb true<|.kb true<|.kb true<|.kn [0]<|.rt false)<|.kg 1<|.kg 1<|.idxS a0 0 fun x4=>.kg 1<|.call (Zaa7 (UInt8.toNat x4 : Int)) fun x6=>.kg 1<|.kg 1<|.cs (!x6) (.kg 2<|.kg 2<|.kg 2<|.kg 2<|.kg 2<|.kg 2<|.kg 2<|.kn [0]<|.rt false)<|.kg 2<|.kg 2<|.kg 2<|.lenS a0<|.kg 2<|.kg 2<|.idxS a0 (IntKind.wrap .i64 ((a0.length : Int) - 1)) fun x11=>.kg 2<|.kg 2<|.br ((UInt8.toNat x11 : Int) == 45) (.rt false)<|.g0 (.L0 a0 0)
def Zai4 : LF Zqm Bool := ⟨91, [.t 2], false, fun | .L0 .. => [1,1,0,1,4] | .L1 .. => [1,1,0,1,4,5,1,0,4,1],
 fun | .L0 v0 v3 => ⟨70, [(0, (wS v0)), (3, (wI v3))], []⟩ | .L1 v0 v3 => ⟨70, [(0, (wS v0)), (3, (wI v3))], []⟩,
 fun r => [], fun r => (wB r), fun | .L0 v0 v3 => Z29 v0 v3 | .L1 v0 v3 => Zle v0 v3⟩
def Zai5 (a0 : (List UInt8)) : Option Bool := Zai4.run (Zai3 a0)
theorem Z3a (a0 : (List UInt8)) {r : Bool} (h : Zai5 a0 = some r) : Fn PR 91 [(wS a0)] (wB r) := Zai4.fn h
inductive Zqn where
 | L0 (E0 : Zay) (v3 : Int)
def Zwy (E0 : Zay) (v3 : Int) : LT Zqn Bool :=
.br (decide (v3 < 5)) (.idA (Zg.int .i64) (A5.list E0.Color) v3 (bx (Zbo E0)) 2 7 fun x2=>.ldC (Zg.int .i64) 29 x2 0<|.cs (decide (x2 < 0)) (.kg 1<|.kg 1<|.kg 1<|.kg 1<|.kg 1<|.kg 1<|.kn [0]<|.rt false)<|.kg 1<|.kg 1<|.kg 1<|.idA (Zg.int .i64) (A5.list E0.Color) v3 (bx (Zbo E0)) 2 7 fun x5=>.kg 1<|.ldC (Zg.int .i64) 35 x5 1<|.kg 1<|.kg 1<|.br (decide (x5 > 9)) (.rt false)<|.g0 (.L0 E0 (IntKind.wrap .i64 (v3 + 1))))<|.rt true
def Zai6 (a0 : Zay) : LT Zqn Bool :=
.lb 1001<|.cs (decide (a0.Generic < 0)) (.kg 0<|.kg 0<|.kg 0<|.kg 0<|.kb true<|.kb true<|.kb true<|.kb true<|.kb true<|.kb true<|.kb true<|.kb true<|.kn [0]<|.rt false)<|.kg 0<|.kg 0<|.kg 0<|.kg 0<|.cs (decide (a0.Generic > 99)) (.kg 1<|.kg 1<|.kg 1<|.kg 1<|.kb true<|.kb true<|.kb true<|.kb true<|.kn [0]<|.rt false)<|.kg 1<|.kg 1<|.kg 1<|.kg 1<|.cs (decide (a0.X < 0)) (.kg 2<|.kg 2<|.kg 2<|.kg 2<|.kn [0]<|.rt false)<|.kg 2<|.kg 2<|.kg 2<|.kg 2<|.br (decide (a0.X > 2)) (.rt false)<|.go (.L0 a0 0) [.relab 1001 30000000]
def Zqo : LF Zqn Bool := ⟨92, [.t 2], false, fun | .L0 .. => [1,1,0,1,4],
 fun | .L0 E0 v3 => ⟨38, [(1, (.bptr 30000000 0)), (3, (wI v3))], [(30000000, .box (bx (Zbo E0)))]⟩,
 fun r => [], fun r => (wB r), fun | .L0 E0 v3 => Zwy E0 v3⟩
def Zaa8 (a0 : Zay) : Option Bool := Zqo.run (Zai6 a0)
theorem Z3b (a0 : Zay) {r : Bool} (h : Zaa8 a0 = some r) : Fn PR 92 [(wA (Zbo a0))] (wB r) := Zqo.fn h
def Zu3 : LT Empty (List (List UInt8)) :=
.lb 1001<|.ret [([98, 97, 115, 105, 99] : List UInt8), ([117, 110, 105, 113, 117, 101] : List UInt8)] [.relab 1001 5000]
def Zu4 : LF Empty (List (List UInt8)) := .z 128 [.t 0] true (fun r => [(5000, wR cS 1 r)]) (fun r => (wO cS 5000 r))
def Zmh : Option (List (List UInt8)) := Zu4.run (Zu3)
theorem Z3c {r : (List (List UInt8))} (h : Zmh = some r) : FnG PR 128 [] [] [(5000, wR cS 1 r)] (wO cS 5000 r) := Zu4.fn h
theorem Z54 {r : (List (List UInt8))} (h : Zmh = some r) : Fn PR 128 [] (wL cS r) :=
 FnG.frozen (C := LT.RL cS r ∧ True) (Z3c h) ⟨rfl, trivial⟩ (by kernel_rfl)
inductive Zm5 where
 | L0 (v0 : (List (List UInt8))) (v1 : (List UInt8)) (v5 : Int)
def Zu5 (v0 : (List (List UInt8))) (v1 : (List UInt8)) (v5 : Int) : LT Zm5 Int :=
.len cS v0<|.br (decide (v5 < (v0.length : Int))) (.idx cS v0 v5 fun x3=>.br (x3 == v1) (.rt v5)<|.g0 (.L0 v0 v1 (IntKind.wrap .i64 (v5 + 1))))<|.rt (-1)
def Z6p (a0 : (List (List UInt8))) (a1 : (List UInt8)) : LT Zm5 Int :=
.g0 (.L0 a0 a1 0)
def Z6q : LF Zm5 Int := ⟨127, [.t 4], false, fun | .L0 .. => [1,0,1,4],
 fun | .L0 v0 v1 v5 => ⟨19, [(0, (wL cS v0)), (1, (wS v1)), (5, (wI v5))], []⟩,
 fun r => [], fun r => (wI r), fun | .L0 v0 v1 v5 => Zu5 v0 v1 v5⟩
def Z3d (a0 : (List (List UInt8))) (a1 : (List UInt8)) : Option Int := Z6q.run (Z6p a0 a1)
theorem Z3e (a0 : (List (List UInt8))) (a1 : (List UInt8)) {r : Int} (h : Z3d a0 a1 = some r) : Fn PR 127 [(wL cS a0), (wS a1)] (wI r) := Z6q.fn h
def Zwz : LT Empty (List (List UInt8)) :=
.lb 1001<|.ret [([99, 114, 101, 97, 116, 117, 114, 101] : List UInt8), ([105, 110, 115, 116, 97, 110, 116] : List UInt8), ([114, 105, 116, 117, 97, 108] : List UInt8), ([114, 101, 108, 105, 99] : List UInt8), ([99, 104, 97, 114, 109] : List UInt8), ([108, 97, 110, 100] : List UInt8)] [.relab 1001 5000]
def Zw0 : LF Empty (List (List UInt8)) := .z 129 [.t 0] true (fun r => [(5000, wR cS 1 r)]) (fun r => (wO cS 5000 r))
def Znx : Option (List (List UInt8)) := Zw0.run (Zwz)
theorem Z55 {r : (List (List UInt8))} (h : Znx = some r) : FnG PR 129 [] [] [(5000, wR cS 1 r)] (wO cS 5000 r) := Zw0.fn h
theorem Zu6 {r : (List (List UInt8))} (h : Znx = some r) : Fn PR 129 [] (wL cS r) :=
 FnG.frozen (C := LT.RL cS r ∧ True) (Z55 h) ⟨rfl, trivial⟩ (by kernel_rfl)
def Z6r (a0 : (List UInt8)) : LT Empty Bool :=
.call (Z3a a0) fun x1=>.cs x1 (.kg 0<|.call (Z54) fun x4=>.kg 0<|.kg 0<|.call (Z3e x4 a0) fun x6=>.kg 0<|.kg 0<|.cs (decide (x6 < 0)) (.kg 1<|.call (Zu6) fun x9=>.kg 1<|.kg 1<|.call (Z3e x9 a0) fun x11=>.kg 1<|.kg 1<|.rt (decide (x11 < 0)))<|.kg 1<|.kg 1<|.kg 1<|.kg 1<|.kg 1<|.rt false)<|.kg 0<|.kg 0<|.kg 0<|.kg 0<|.kg 0<|.kb false<|.kb false<|.kb false<|.kb false<|.kb false<|.rt false
def Z6s : LF Empty Bool := .z 109 [.t 2] false (fun r => []) (fun r => (wB r))
def Z3f (a0 : (List UInt8)) : Option Bool := Z6s.run (Z6r a0)
theorem Zu7 (a0 : (List UInt8)) {r : Bool} (h : Z3f a0 = some r) : Fn PR 109 [(wS a0)] (wB r) := Z6s.fn h
inductive Zrs where
 | L0 (v0 : Int) (v1 : Int) (v5 : Int)
def Z0p (v0 : Int) (v1 : Int) (v5 : Int) : LT Zrs Bool :=
.br (decide (v5 < v1)) (.dc ((2 : Int) ≠ 0) rfl<|.g0 (.L0 (Zpa .i64 v0 2) v1 (IntKind.wrap .i64 (v5 + 1))))<|.dc ((2 : Int) ≠ 0) rfl<|.rt ((Int.tmod v0 2) == 1)
def Zaf9 (a0 : Int) (a1 : Int) : LT Zrs Bool :=
.g0 (.L0 a0 a1 0)
def Zaga : LF Zrs Bool := ⟨110, [.t 4], false, fun | .L0 .. => [1,0,1,4],
 fun | .L0 v0 v1 v5 => ⟨16, [(0, (wI v0)), (1, (wI v1)), (5, (wI v5))], []⟩,
 fun r => [], fun r => (wB r), fun | .L0 v0 v1 v5 => Z0p v0 v1 v5⟩
def Zae1 (a0 : Int) (a1 : Int) : Option Bool := Zaga.run (Zaf9 a0 a1)
theorem Z0q (a0 : Int) (a1 : Int) {r : Bool} (h : Zae1 a0 a1 = some r) : Fn PR 110 [(wI a0), (wI a1)] (wB r) := Zaga.fn h
inductive Zu8 where
 | L0 (E0 : Zg0) (v3 : Int)
def Z3g (E0 : Zg0) (v3 : Int) : LT Zu8 Bool :=
.len cS E0.Subs<|.br (decide (v3 < (E0.Subs.length : Int))) (.idx cS E0.Subs v3 fun x3=>.call (Zu7 x3) fun x5=>.cs (!x5) (.kg 1<|.kg 1<|.kg 1<|.kg 1<|.kg 1<|.kn [0]<|.rt false)<|.kg 1<|.kg 1<|.kg 1<|.cs (decide (v3 > 0)) (.kg 2<|.kg 2<|.kg 2<|.kg 2<|.kg 2<|.idx cS E0.Subs (IntKind.wrap .i64 (v3 - 1)) fun x11=>.kg 2<|.kg 2<|.kg 2<|.kg 2<|.kg 2<|.ag cS x3 0<|.kg 2<|.kg 2<|.kg 1<|.kg 2<|.kg 1<|.br (!(Op.bytesLess x11 x3)) (.rt false)<|.g0 (.L0 E0 (IntKind.wrap .i64 (v3 + 1))))<|.kg 2<|.kg 2<|.kg 2<|.kg 2<|.kg 2<|.kg 2<|.kg 2<|.kg 2<|.kg 2<|.kg 2<|.kg 2<|.kg 2<|.kg 1<|.kg 2<|.kg 1<|.kn [0]<|.g0 (.L0 E0 (IntKind.wrap .i64 (v3 + 1))))<|.cs (E0.Types == 2) (.kg 1<|.kg 1<|.kg 1<|.kg 1<|.kb true<|.kb true<|.kb true<|.kb true<|.kb true<|.kb true<|.kb true<|.rt true)<|.kg 1<|.kg 1<|.kg 1<|.kg 1<|.cs (E0.Types == 4) (.kg 2<|.kg 2<|.kg 2<|.kg 2<|.kg 2<|.kg 2<|.kg 2<|.rt true)<|.kg 2<|.kg 2<|.kg 2<|.call (Z0q E0.Types 1) fun x20=>.kg 2<|.kg 2<|.cs (!x20) (.kg 3<|.kg 3<|.kg 3<|.call (Z0q E0.Types 2) fun x23=>.kg 3<|.kg 2<|.kg 3<|.kg 2<|.rt (!x23))<|.kg 3<|.kg 3<|.kg 3<|.kg 3<|.kg 2<|.kg 3<|.kg 2<|.rt false
def Zai7 (a0 : Zg0) : LT Zu8 Bool :=
.lb 1001<|.cs (decide (a0.Super < 0)) (.kg 0<|.kg 0<|.kg 0<|.kg 0<|.kb true<|.kb true<|.kb true<|.kb true<|.kb true<|.kb true<|.kb true<|.kb true<|.kb true<|.kb true<|.kb true<|.kb true<|.kb true<|.kn [0]<|.rt false)<|.kg 0<|.kg 0<|.kg 0<|.kg 0<|.cs (decide (a0.Super > 3)) (.kg 1<|.kg 1<|.kg 1<|.kg 1<|.kb true<|.kb true<|.kb true<|.kb true<|.kb true<|.kb true<|.kb true<|.kb true<|.kb true<|.kn [0]<|.rt false)<|.kg 1<|.kg 1<|.kg 1<|.kg 1<|.cs (decide (a0.Types < 1)) (.kg 2<|.kg 2<|.kg 2<|.kg 2<|.kb true<|.kb true<|.kb true<|.kb true<|.kb true<|.kn [0]<|.rt false)<|.kg 2<|.kg 2<|.kg 2<|.kg 2<|.cs (decide (a0.Types > 63)) (.kg 3<|.kg 3<|.kg 3<|.kg 3<|.kg 3<|.kn [0]<|.rt false)<|.kg 3<|.kg 3<|.kg 3<|.len cS a0.Subs<|.kg 3<|.kg 3<|.br (decide ((a0.Subs.length : Int) > 4)) (.rt false)<|.go (.L0 a0 0) [.relab 1001 30000000]
def Zai8 : LF Zu8 Bool := ⟨93, [.t 2], false, fun | .L0 .. => [1,1,0,1,4],
 fun | .L0 E0 v3 => ⟨80, [(1, (.bptr 30000000 0)), (3, (wI v3))], [(30000000, .box (bx (Zmg E0)))]⟩,
 fun r => [], fun r => (wB r), fun | .L0 E0 v3 => Z3g E0 v3⟩
def Zai9 (a0 : Zg0) : Option Bool := Zai8.run (Zai7 a0)
theorem Zap4 (a0 : Zg0) {r : Bool} (h : Zai9 a0 = some r) : Fn PR 93 [(wA (Zmg a0))] (wB r) := Zai8.fn h
def Zaja (a0 : Int) : LT Empty Bool :=
.cs (decide (a0 ≥ 0)) (.kg 0<|.kg 0<|.kg 0<|.rt (decide (a0 ≤ 131071)))<|.kg 0<|.kg 0<|.kg 0<|.rt false
def Zajb : LF Empty Bool := .z 94 [.t 2] false (fun r => []) (fun r => (wB r))
def Zajc (a0 : Int) : Option Bool := Zajb.run (Zaja a0)
theorem Zagb (a0 : Int) {r : Bool} (h : Zajc a0 = some r) : Fn PR 94 [(wI a0)] (wB r) := Zajb.fn h
def Zzg (a0 : Zt) : LT Empty Bool :=
.lb 1001<|.rt ((Znt .and .i64 a0.Line.Types 1) != 0)
def Zzh : LF Empty Bool := .z 95 [.t 2] false (fun r => []) (fun r => (wB r))
def Zu9 (a0 : Zt) : Option Bool := Zzh.run (Zzg a0)
theorem Zaa9 (a0 : Zt) {r : Bool} (h : Zu9 a0 = some r) : Fn PR 95 [(wA (Zat a0))] (wB r) := Zzh.fn h
inductive Zm6 where
 | L0 (v0 : Int) (v1 : Int) (v7 : Int)
def Zva (v0 : Int) (v1 : Int) (v7 : Int) : LT Zm6 Bool :=
.br (decide (v7 < 6)) (.dc ((2 : Int) ≠ 0) rfl<|.cs ((Int.tmod v0 2) == 1) (.kg 1<|.kg 1<|.dc ((2 : Int) ≠ 0) rfl<|.kg 1<|.kg 1<|.br ((Int.tmod v1 2) == 1) (.rt false)<|.dc ((2 : Int) ≠ 0) rfl<|.dc ((2 : Int) ≠ 0) rfl<|.g0 (.L0 (Zpa .i64 v0 2) (Zpa .i64 v1 2) (IntKind.wrap .i64 (v7 + 1))))<|.kg 1<|.kg 1<|.kg 1<|.kg 1<|.kn [0]<|.dc ((2 : Int) ≠ 0) rfl<|.dc ((2 : Int) ≠ 0) rfl<|.g0 (.L0 (Zpa .i64 v0 2) (Zpa .i64 v1 2) (IntKind.wrap .i64 (v7 + 1))))<|.rt true
def Z6t (a0 : Int) (a1 : Int) (a2 : Int) : LT Zm6 Bool :=
.cs (decide (a0 < 0)) (.kg 0<|.kg 0<|.kg 0<|.kg 0<|.kb true<|.kb true<|.kb true<|.kb true<|.kb true<|.kb true<|.kb true<|.kn [0]<|.rt false)<|.kg 0<|.kg 0<|.kg 0<|.kg 0<|.cs (decide (a0 > a2)) (.kg 1<|.kg 1<|.kg 1<|.kb true<|.kb true<|.kb true<|.kb true<|.kn [0]<|.rt false)<|.kg 1<|.kg 1<|.kg 1<|.cs (decide (a1 < 0)) (.kg 2<|.kg 2<|.kg 2<|.kg 2<|.kn [0]<|.rt false)<|.kg 2<|.kg 2<|.kg 2<|.kg 2<|.br (decide (a1 > a2)) (.rt false)<|.g0 (.L0 a0 a1 0)
def Z6u : LF Zm6 Bool := ⟨130, [.t 6], false, fun | .L0 .. => [1,1,0,1,4],
 fun | .L0 v0 v1 v7 => ⟨40, [(0, (wI v0)), (1, (wI v1)), (7, (wI v7))], []⟩,
 fun r => [], fun r => (wB r), fun | .L0 v0 v1 v7 => Zva v0 v1 v7⟩
def Z3h (a0 : Int) (a1 : Int) (a2 : Int) : Option Bool := Z6u.run (Z6t a0 a1 a2)
theorem Z3i (a0 : Int) (a1 : Int) (a2 : Int) {r : Bool} (h : Z3h a0 a1 a2 = some r) : Fn PR 130 [(wI a0), (wI a1), (wI a2)] (wB r) := Z6u.fn h
def Z6v (a0 : Zc) : LT Empty Bool :=
.lb 1001<|.cs (decide (a0.Kind < 0)) (.kg 0<|.kg 0<|.kg 0<|.kg 0<|.kb true<|.kb true<|.kb true<|.kb true<|.kb true<|.kb true<|.kb true<|.kb true<|.kn [0]<|.rt false)<|.kg 0<|.kg 0<|.kg 0<|.kg 0<|.cs (decide (a0.Kind > 3)) (.kg 1<|.kg 1<|.kg 1<|.kg 1<|.kb true<|.kb true<|.kb true<|.kb true<|.kn [0]<|.rt false)<|.kg 1<|.kg 1<|.kg 1<|.kg 1<|.cs (decide (a0.N < 0)) (.kg 2<|.kg 2<|.kg 2<|.kg 2<|.kn [0]<|.rt false)<|.kg 2<|.kg 2<|.kg 2<|.kg 2<|.br (decide (a0.N > 1000000)) (.rt false)<|.cs (a0.Kind != 0) (.kg 4<|.kg 4<|.kg 4<|.kg 4<|.rt true)<|.kg 4<|.kg 4<|.kg 4<|.kg 4<|.rt (a0.N == 0)
def Z6w : LF Empty Bool := .z 131 [.t 2] false (fun r => []) (fun r => (wB r))
def Z3j (a0 : Zc) : Option Bool := Z6w.run (Z6v a0)
theorem Zvb (a0 : Zc) {r : Bool} (h : Z3j a0 = some r) : Fn PR 131 [(wA (Zfu a0))] (wB r) := Z6w.fn h
inductive Zvc where
 | L0 (E0 : Zh)
def Zrt (E0 : Zh) : LT Zvc Bool :=
.call (Zvb E0.Power) fun x1=>.cs x1 (.kg 0<|.kg 0<|.kg 0<|.call (Zvb E0.Tough) fun x4=>.kg 0<|.cs x4 (.kg 1<|.kg 1<|.kg 1<|.call (Zvb E0.Value) fun x7=>.kg 1<|.rt x7)<|.kg 1<|.kg 1<|.kg 1<|.kg 1<|.rt false)<|.kg 0<|.kg 0<|.kg 0<|.kg 0<|.kb false<|.kb false<|.kb false<|.kb false<|.rt false
def Zajd (a0 : Zh) : LT Zvc Bool :=
.lb 1001<|.cs (decide (a0.Zone < 0)) (.kg 0<|.kg 0<|.kg 0<|.kg 0<|.kb true<|.kb true<|.kb true<|.kb true<|.kb true<|.kb true<|.kb true<|.kb true<|.kb true<|.kb true<|.kb true<|.kb true<|.kb true<|.kb true<|.kb true<|.kb true<|.kb true<|.kb true<|.kb true<|.kb true<|.kb true<|.kb true<|.kb true<|.kb true<|.kn [0]<|.rt false)<|.kg 0<|.kg 0<|.kg 0<|.kg 0<|.cs (decide (a0.Zone > 5)) (.kg 1<|.kg 1<|.kg 1<|.kg 1<|.kb true<|.kb true<|.kb true<|.kb true<|.kb true<|.kb true<|.kb true<|.kb true<|.kb true<|.kb true<|.kb true<|.kb true<|.kb true<|.kb true<|.kb true<|.kb true<|.kb true<|.kb true<|.kb true<|.kb true<|.kn [0]<|.rt false)<|.kg 1<|.kg 1<|.kg 1<|.kg 1<|.cs (decide (a0.Who < 0)) (.kg 2<|.kg 2<|.kg 2<|.kg 2<|.kb true<|.kb true<|.kb true<|.kb true<|.kb true<|.kb true<|.kb true<|.kb true<|.kb true<|.kb true<|.kb true<|.kb true<|.kb true<|.kb true<|.kb true<|.kb true<|.kn [0]<|.rt false)<|.kg 2<|.kg 2<|.kg 2<|.kg 2<|.cs (decide (a0.Who > 2)) (.kg 3<|.kg 3<|.kg 3<|.kg 3<|.kb true<|.kb true<|.kb true<|.kb true<|.kb true<|.kb true<|.kb true<|.kb true<|.kb true<|.kb true<|.kb true<|.kb true<|.kn [0]<|.rt false)<|.kg 3<|.kg 3<|.kg 3<|.kg 3<|.cs (decide (a0.Self < 0)) (.kg 4<|.kg 4<|.kg 4<|.kg 4<|.kb true<|.kb true<|.kb true<|.kb true<|.kb true<|.kb true<|.kb true<|.kb true<|.kn [0]<|.rt false)<|.kg 4<|.kg 4<|.kg 4<|.kg 4<|.cs (decide (a0.Self > 2)) (.kg 5<|.kg 5<|.kg 5<|.kg 5<|.kb true<|.kb true<|.kb true<|.kb true<|.kn [0]<|.rt false)<|.kg 5<|.kg 5<|.kg 5<|.kg 5<|.cs (decide (a0.Tap < 0)) (.kg 6<|.kg 6<|.kg 6<|.kg 6<|.kn [0]<|.rt false)<|.kg 6<|.kg 6<|.kg 6<|.kg 6<|.br (decide (a0.Tap > 2)) (.rt false)<|.call (Z3i a0.Types a0.NotTypes 63) fun x9=>.cs (!x9) (.kg 8<|.kg 8<|.kg 8<|.kg 8<|.kg 8<|.kg 8<|.kg 8<|.kn [0]<|.rt false)<|.kg 8<|.kg 8<|.kg 8<|.kg 8<|.kg 8<|.call (Z3i a0.Colors a0.NotColors 31) fun x12=>.kg 8<|.kg 8<|.br (!x12) (.rt false)<|.cs (!(a0.Sub == ([] : List UInt8))) (.kg 10<|.kg 10<|.kg 10<|.call (Zu7 a0.Sub) fun x16=>.kg 10<|.kg 10<|.cs (!x16) (.kg 11<|.kg 11<|.kg 11<|.kg 11<|.kb true<|.kb true<|.kb true<|.kb true<|.kn [0]<|.rt false)<|.kg 11<|.kg 11<|.kg 11<|.kg 11<|.cs (decide (a0.Keys < 0)) (.kg 12<|.kg 12<|.kg 12<|.kg 12<|.kn [0]<|.rt false)<|.kg 12<|.kg 12<|.kg 12<|.kg 12<|.br (decide (a0.Keys > 131071)) (.rt false)<|.jn 0 (.L0 a0) [.relab 1001 30000000] (Zrt a0))<|.kg 10<|.kg 10<|.kg 10<|.kg 10<|.kg 10<|.kb false<|.kb false<|.kb false<|.kb false<|.cs (decide (a0.Keys < 0)) (.kg 11<|.kg 11<|.kg 11<|.kg 11<|.kn [0]<|.rt false)<|.kg 11<|.kg 11<|.kg 11<|.kg 11<|.br (decide (a0.Keys > 131071)) (.rt false)<|.jn 0 (.L0 a0) [.relab 1001 30000000] (Zrt a0)
def Zaje : LF Zvc Bool := ⟨111, [.t 2], false, fun | .L0 .. => [1,1,1,1],
 fun | .L0 E0 => ⟨87, [(1, (.bptr 30000000 0))], [(30000000, .box (bx (Zq E0)))]⟩,
 fun r => [], fun r => (wB r), fun | .L0 E0 => Zrt E0⟩
def Zajf (a0 : Zh) : Option Bool := Zaje.run (Zajd a0)
theorem Zhe (a0 : Zh) {r : Bool} (h : Zajf a0 = some r) : Fn PR 111 [(wA (Zq a0))] (wB r) := Zaje.fn h
inductive Zmi where
 | L0 (E0 : Zj) (E1 : Zj) (v7 : Int) (v8 : Bool)
 | L1 (E0 : Zj) (E1 : Zj) (v7 : Int) (v16 : Bool)
def Zm7 (E0 : Zj) (E1 : Zj) (v7 : Int) (v16 : Bool) : LT Zmi Zj :=
.br v16 (.rt (⟨E0.Kind, E0.N, E0.M, ([] : List UInt8), E0.Filter⟩ : Zj))<|.br (v7 == 11) (.rt (⟨E0.Kind, E0.N, E0.M, E0.Sub, (⟨0, 0, 0, 0, 0, 0, 0, ([] : List UInt8), 0, 0, (⟨0, 0⟩ : Zc), (⟨0, 0⟩ : Zc), (⟨0, 0⟩ : Zc)⟩ : Zh)⟩ : Zj))<|.br (v7 == 12) (.kn [3]<|.rt (⟨E0.Kind, 0, 0, E0.Sub, E0.Filter⟩ : Zj))<|.br (v7 == 13) (.rt (⟨E0.Kind, 0, 0, E0.Sub, E0.Filter⟩ : Zj))<|.rt E0
def Zg8 (E0 : Zj) (E1 : Zj) (v7 : Int) (v8 : Bool) : LT Zmi Zj :=
.br v8 (.rt (⟨E0.Kind, 0, E0.M, E0.Sub, E0.Filter⟩ : Zj))<|.br (v7 == 4) (.j0 (.L1 E0 E1 v7 (v7 == 4)) (Zm7 E0 E1 v7 (v7 == 4)))<|.j0 (.L1 E0 E1 v7 (v7 == 5)) (Zm7 E0 E1 v7 (v7 == 5))
def Zaba (a0 : Zj) : LT Zmi Zj :=
.lb 1001<|.lb 1002<|.br (a0.Kind == 2) (.jn 0 (.L0 (⟨0, a0.N, a0.M, a0.Sub, a0.Filter⟩ : Zj) (⟨0, 0, 0, ([] : List UInt8), (⟨0, 0, 0, 0, 0, 0, 0, ([] : List UInt8), 0, 0, (⟨0, 0⟩ : Zc), (⟨0, 0⟩ : Zc), (⟨0, 0⟩ : Zc)⟩ : Zh)⟩ : Zj) a0.Kind (a0.Kind == 2)) [.relab 1001 30000000, .relab 1002 30000001] (Zg8 (⟨0, a0.N, a0.M, a0.Sub, a0.Filter⟩ : Zj) (⟨0, 0, 0, ([] : List UInt8), (⟨0, 0, 0, 0, 0, 0, 0, ([] : List UInt8), 0, 0, (⟨0, 0⟩ : Zc), (⟨0, 0⟩ : Zc), (⟨0, 0⟩ : Zc)⟩ : Zh)⟩ : Zj) a0.Kind (a0.Kind == 2)))<|.br (a0.Kind == 3) (.jn 0 (.L0 (⟨0, a0.N, a0.M, a0.Sub, a0.Filter⟩ : Zj) (⟨0, 0, 0, ([] : List UInt8), (⟨0, 0, 0, 0, 0, 0, 0, ([] : List UInt8), 0, 0, (⟨0, 0⟩ : Zc), (⟨0, 0⟩ : Zc), (⟨0, 0⟩ : Zc)⟩ : Zh)⟩ : Zj) a0.Kind (a0.Kind == 3)) [.relab 1001 30000000, .relab 1002 30000001] (Zg8 (⟨0, a0.N, a0.M, a0.Sub, a0.Filter⟩ : Zj) (⟨0, 0, 0, ([] : List UInt8), (⟨0, 0, 0, 0, 0, 0, 0, ([] : List UInt8), 0, 0, (⟨0, 0⟩ : Zc), (⟨0, 0⟩ : Zc), (⟨0, 0⟩ : Zc)⟩ : Zh)⟩ : Zj) a0.Kind (a0.Kind == 3)))<|.br (a0.Kind == 6) (.jn 0 (.L0 (⟨0, a0.N, a0.M, a0.Sub, a0.Filter⟩ : Zj) (⟨0, 0, 0, ([] : List UInt8), (⟨0, 0, 0, 0, 0, 0, 0, ([] : List UInt8), 0, 0, (⟨0, 0⟩ : Zc), (⟨0, 0⟩ : Zc), (⟨0, 0⟩ : Zc)⟩ : Zh)⟩ : Zj) a0.Kind (a0.Kind == 6)) [.relab 1001 30000000, .relab 1002 30000001] (Zg8 (⟨0, a0.N, a0.M, a0.Sub, a0.Filter⟩ : Zj) (⟨0, 0, 0, ([] : List UInt8), (⟨0, 0, 0, 0, 0, 0, 0, ([] : List UInt8), 0, 0, (⟨0, 0⟩ : Zc), (⟨0, 0⟩ : Zc), (⟨0, 0⟩ : Zc)⟩ : Zh)⟩ : Zj) a0.Kind (a0.Kind == 6)))<|.br (a0.Kind == 7) (.jn 0 (.L0 (⟨0, a0.N, a0.M, a0.Sub, a0.Filter⟩ : Zj) (⟨0, 0, 0, ([] : List UInt8), (⟨0, 0, 0, 0, 0, 0, 0, ([] : List UInt8), 0, 0, (⟨0, 0⟩ : Zc), (⟨0, 0⟩ : Zc), (⟨0, 0⟩ : Zc)⟩ : Zh)⟩ : Zj) a0.Kind (a0.Kind == 7)) [.relab 1001 30000000, .relab 1002 30000001] (Zg8 (⟨0, a0.N, a0.M, a0.Sub, a0.Filter⟩ : Zj) (⟨0, 0, 0, ([] : List UInt8), (⟨0, 0, 0, 0, 0, 0, 0, ([] : List UInt8), 0, 0, (⟨0, 0⟩ : Zc), (⟨0, 0⟩ : Zc), (⟨0, 0⟩ : Zc)⟩ : Zh)⟩ : Zj) a0.Kind (a0.Kind == 7)))<|.br (a0.Kind == 8) (.jn 0 (.L0 (⟨0, a0.N, a0.M, a0.Sub, a0.Filter⟩ : Zj) (⟨0, 0, 0, ([] : List UInt8), (⟨0, 0, 0, 0, 0, 0, 0, ([] : List UInt8), 0, 0, (⟨0, 0⟩ : Zc), (⟨0, 0⟩ : Zc), (⟨0, 0⟩ : Zc)⟩ : Zh)⟩ : Zj) a0.Kind (a0.Kind == 8)) [.relab 1001 30000000, .relab 1002 30000001] (Zg8 (⟨0, a0.N, a0.M, a0.Sub, a0.Filter⟩ : Zj) (⟨0, 0, 0, ([] : List UInt8), (⟨0, 0, 0, 0, 0, 0, 0, ([] : List UInt8), 0, 0, (⟨0, 0⟩ : Zc), (⟨0, 0⟩ : Zc), (⟨0, 0⟩ : Zc)⟩ : Zh)⟩ : Zj) a0.Kind (a0.Kind == 8)))<|.jn 0 (.L0 (⟨0, a0.N, a0.M, a0.Sub, a0.Filter⟩ : Zj) (⟨0, 0, 0, ([] : List UInt8), (⟨0, 0, 0, 0, 0, 0, 0, ([] : List UInt8), 0, 0, (⟨0, 0⟩ : Zc), (⟨0, 0⟩ : Zc), (⟨0, 0⟩ : Zc)⟩ : Zh)⟩ : Zj) a0.Kind (a0.Kind == 9)) [.relab 1001 30000000, .relab 1002 30000001] (Zg8 (⟨0, a0.N, a0.M, a0.Sub, a0.Filter⟩ : Zj) (⟨0, 0, 0, ([] : List UInt8), (⟨0, 0, 0, 0, 0, 0, 0, ([] : List UInt8), 0, 0, (⟨0, 0⟩ : Zc), (⟨0, 0⟩ : Zc), (⟨0, 0⟩ : Zc)⟩ : Zh)⟩ : Zj) a0.Kind (a0.Kind == 9))
def Zabb : LF Zmi Zj := ⟨141, [.c 2 136 true 20], false, fun | .L0 .. => [1,1,1,0,1,4,1] | .L1 .. => [1,1,1,0,1,4,1,3,1],
 fun | .L0 E0 E1 v7 v8 => ⟨30, [(1, (.bptr 30000000 0)), (2, (.bptr 30000001 0)), (7, (wI v7)), (8, (wB v8))], [(30000000, .box (bx (Zn E0))), (30000001, .box (bx (Zn E1)))]⟩ | .L1 E0 E1 v7 v16 => ⟨30, [(1, (.bptr 30000000 0)), (2, (.bptr 30000001 0)), (7, (wI v7)), (16, (wB v16))], [(30000000, .box (bx (Zn E0))), (30000001, .box (bx (Zn E1)))]⟩,
 fun r => [], fun r => (wA (Zn r)), fun | .L0 E0 E1 v7 v8 => Zg8 E0 E1 v7 v8 | .L1 E0 E1 v7 v16 => Zm7 E0 E1 v7 v16⟩
def Z8t (a0 : Zj) : Option Zj := Zabb.run (Zaba a0)
theorem Zamu (a0 : Zj) {r : Zj} (h : Z8t a0 = some r) : Fn PR 141 [(wA (Zn a0))] (wA (Zn r)) := Zabb.fn h
def Z6x (a0 : Int) : LT Empty Bool :=
.cs (decide (a0 ≥ 1)) (.kg 0<|.kg 0<|.kg 0<|.cs (decide (a0 ≤ 63)) (.kg 1<|.kg 1<|.kg 1<|.kg 1<|.rt ((Znt .and .i64 a0 6) == 0))<|.kg 1<|.kg 1<|.kg 1<|.kg 1<|.rt false)<|.kg 0<|.kg 0<|.kg 0<|.kb false<|.kb false<|.kb false<|.kb false<|.rt false
def Z6y : LF Empty Bool := .z 142 [.t 2] false (fun r => []) (fun r => (wB r))
def Z3k (a0 : Int) : Option Bool := Z6y.run (Z6x a0)
theorem Zajg (a0 : Int) {r : Bool} (h : Z3k a0 = some r) : Fn PR 142 [(wI a0)] (wB r) := Z6y.fn h
inductive Zoe where
 | L0 (E0 : Zj) (v18 : Int) (v19 : Bool)
 | L1 (E0 : Zj) (v18 : Int) (v25 : Bool)
 | L2 (E0 : Zj) (v18 : Int) (v51 : Bool)
def Zru (E0 : Zj) (v18 : Int) (v51 : Bool) : LT Zoe Bool :=
.br v51 (.cs (decide (E0.N ≥ 1)) (.kg 1<|.kg 1<|.kg 1<|.kg 1<|.rt (decide (E0.N ≤ 131071)))<|.kg 1<|.kg 1<|.kg 1<|.kg 1<|.rt false)<|.br (v18 == 11) (.call (Zhe E0.Filter) fun x4=>.rt x4)<|.br (v18 == 12) (.cs (decide (E0.N ≥ 0)) (.kg 3<|.kg 3<|.kg 3<|.kg 3<|.cs (decide (E0.N ≤ 99)) (.kg 4<|.kg 4<|.kg 4<|.kg 4<|.cs (decide (E0.M ≥ 0)) (.kg 5<|.kg 5<|.kg 5<|.kg 5<|.rt (decide (E0.M ≤ 99)))<|.kg 5<|.kg 5<|.kg 5<|.kg 5<|.rt false)<|.kg 4<|.kg 4<|.kg 4<|.kg 4<|.kb false<|.kb false<|.kb false<|.kb false<|.rt false)<|.kg 3<|.kg 3<|.kg 3<|.kg 3<|.kb false<|.kb false<|.kb false<|.kb false<|.kb false<|.kb false<|.kb false<|.kb false<|.rt false)<|.br (v18 == 13) (.cs (decide (E0.N ≥ (-99))) (.kg 4<|.kg 4<|.kg 4<|.kg 4<|.cs (decide (E0.N ≤ 99)) (.kg 5<|.kg 5<|.kg 5<|.kg 5<|.cs (decide (E0.M ≥ (-99))) (.kg 6<|.kg 6<|.kg 6<|.kg 6<|.rt (decide (E0.M ≤ 99)))<|.kg 6<|.kg 6<|.kg 6<|.kg 6<|.rt false)<|.kg 5<|.kg 5<|.kg 5<|.kg 5<|.kb false<|.kb false<|.kb false<|.kb false<|.rt false)<|.kg 4<|.kg 4<|.kg 4<|.kg 4<|.kb false<|.kb false<|.kb false<|.kb false<|.kb false<|.kb false<|.kb false<|.kb false<|.rt false)<|.rt true
def Zrv (E0 : Zj) (v18 : Int) (v25 : Bool) : LT Zoe Bool :=
.br v25 (.call (Zu7 E0.Sub) fun x2=>.rt x2)<|.br (v18 == 6) (.cs (decide (E0.N ≥ 0)) (.kg 2<|.kg 2<|.kg 2<|.kg 2<|.rt (decide (E0.N ≤ 31)))<|.kg 2<|.kg 2<|.kg 2<|.kg 2<|.rt false)<|.br (v18 == 7) (.cs (decide (E0.N ≥ 1)) (.kg 3<|.kg 3<|.kg 3<|.kg 3<|.rt (decide (E0.N ≤ 31)))<|.kg 3<|.kg 3<|.kg 3<|.kg 3<|.rt false)<|.br (v18 == 8) (.j0 (.L2 E0 v18 (v18 == 8)) (Zru E0 v18 (v18 == 8)))<|.j0 (.L2 E0 v18 (v18 == 9)) (Zru E0 v18 (v18 == 9))
def Zrw (E0 : Zj) (v18 : Int) (v19 : Bool) : LT Zoe Bool :=
.br v19 (.call (Zajg E0.N) fun x2=>.rt x2)<|.br (v18 == 4) (.j0 (.L1 E0 v18 (v18 == 4)) (Zrv E0 v18 (v18 == 4)))<|.j0 (.L1 E0 v18 (v18 == 5)) (Zrv E0 v18 (v18 == 5))
def Zajh (a0 : Zj) : LT Zoe Bool :=
.lb 1001<|.cs (decide (a0.Kind < 1)) (.kg 0<|.kg 0<|.kg 0<|.kg 0<|.kb true<|.kb true<|.kb true<|.kb true<|.kb true<|.kn [0]<|.rt false)<|.kg 0<|.kg 0<|.kg 0<|.kg 0<|.cs (decide (a0.Kind > 14)) (.kg 1<|.kg 1<|.kg 1<|.kg 1<|.kg 1<|.kn [0]<|.rt false)<|.kg 1<|.kg 1<|.call (Zamu a0) fun x3=>.kg 1<|.kg 1<|.kg 1<|.br (!(Zw (Zn x3) (Zn (⟨0, 0, 0, ([] : List UInt8), (⟨0, 0, 0, 0, 0, 0, 0, ([] : List UInt8), 0, 0, (⟨0, 0⟩ : Zc), (⟨0, 0⟩ : Zc), (⟨0, 0⟩ : Zc)⟩ : Zh)⟩ : Zj)))) (.rt false)<|.br (a0.Kind == 2) (.jn 0 (.L0 a0 a0.Kind (a0.Kind == 2)) [.relab 1001 30000000] (Zrw a0 a0.Kind (a0.Kind == 2)))<|.jn 0 (.L0 a0 a0.Kind (a0.Kind == 3)) [.relab 1001 30000000] (Zrw a0 a0.Kind (a0.Kind == 3))
def Zaji : LF Zoe Bool := ⟨124, [.t 2], false, fun | .L0 .. => [1,1,0,1,4,1] | .L1 .. => [1,1,0,1,4,1,3,1] | .L2 .. => [1,1,0,1,4,1,3,1,3,1,3,1,3,1],
 fun | .L0 E0 v18 v19 => ⟨107, [(1, (.bptr 30000000 0)), (18, (wI v18)), (19, (wB v19))], [(30000000, .box (bx (Zn E0)))]⟩ | .L1 E0 v18 v25 => ⟨107, [(1, (.bptr 30000000 0)), (18, (wI v18)), (25, (wB v25))], [(30000000, .box (bx (Zn E0)))]⟩ | .L2 E0 v18 v51 => ⟨107, [(1, (.bptr 30000000 0)), (18, (wI v18)), (51, (wB v51))], [(30000000, .box (bx (Zn E0)))]⟩,
 fun r => [], fun r => (wB r), fun | .L0 E0 v18 v19 => Zrw E0 v18 v19 | .L1 E0 v18 v25 => Zrv E0 v18 v25 | .L2 E0 v18 v51 => Zru E0 v18 v51⟩
def Zajj (a0 : Zj) : Option Bool := Zaji.run (Zajh a0)
theorem Zagc (a0 : Zj) {r : Bool} (h : Zajj a0 = some r) : Fn PR 124 [(wA (Zn a0))] (wB r) := Zaji.fn h
inductive Zlf where
 | L0 (v0 : (List (List UInt8))) (v1 : Int) (v2 : (List UInt8)) (v7 : (List UInt8)) (v8 : Int)
def Zst (v0 : (List (List UInt8))) (v1 : Int) (v2 : (List UInt8)) (v7 : (List UInt8)) (v8 : Int) : LT Zlf (List UInt8) :=
.len cS v0<|.br (decide (v8 < (v0.length : Int))) (.call (Z0q v1 v8) fun x3=>.br x3 (.br (!(v7 == ([] : List UInt8))) (.ok (v7.length + v2.length ≤ 9223372036854775807)<|.idx cS v0 v8 fun x10=>.ok ((v7 ++ v2).length + x10.length ≤ 9223372036854775807)<|.g0 (.L0 v0 v1 v2 ((v7 ++ v2) ++ x10) (IntKind.wrap .i64 (v8 + 1))))<|.idx cS v0 v8 fun x17=>.ok (v7.length + x17.length ≤ 9223372036854775807)<|.g0 (.L0 v0 v1 v2 (v7 ++ x17) (IntKind.wrap .i64 (v8 + 1))))<|.g0 (.L0 v0 v1 v2 v7 (IntKind.wrap .i64 (v8 + 1))))<|.rt v7
def Z3l (a0 : (List (List UInt8))) (a1 : Int) (a2 : (List UInt8)) : LT Zlf (List UInt8) :=
.g0 (.L0 a0 a1 a2 ([] : List UInt8) 0)
def Z3m : LF Zlf (List UInt8) := ⟨157, [.t 6], false, fun | .L0 .. => [1,1,0,1,4],
 fun | .L0 v0 v1 v2 v7 v8 => ⟨30, [(0, (wL cS v0)), (1, (wI v1)), (2, (wS v2)), (7, (wS v7)), (8, (wI v8))], []⟩,
 fun r => [], fun r => (wS r), fun | .L0 v0 v1 v2 v7 v8 => Zst v0 v1 v2 v7 v8⟩
def Z0r (a0 : (List (List UInt8))) (a1 : Int) (a2 : (List UInt8)) : Option (List UInt8) := Z3m.run (Z3l a0 a1 a2)
theorem Zagt (a0 : (List (List UInt8))) (a1 : Int) (a2 : (List UInt8)) {r : (List UInt8)} (h : Z0r a0 a1 a2 = some r) : Fn PR 157 [(wL cS a0), (wI a1), (wS a2)] (wS r) := Z3m.fn h
def Zw1 (a0 : Int) : LT Empty (List UInt8) :=
.cs (decide (a0 < 1)) (.kg 0<|.kg 0<|.kg 0<|.kn [0]<|.rt ([] : List UInt8))<|.kg 0<|.kg 0<|.kg 0<|.br (decide (a0 > 63)) (.rt ([] : List UInt8))<|.call (Zu6) fun x3=>.call (Zagt x3 a0 ([43] : List UInt8)) fun x5=>.rt x5
def Zw2 : LF Empty (List UInt8) := .z 143 [.t 2] false (fun r => []) (fun r => (wS r))
def Zsu (a0 : Int) : Option (List UInt8) := Zw2.run (Zw1 a0)
theorem Zof (a0 : Int) {r : (List UInt8)} (h : Zsu a0 = some r) : Fn PR 143 [(wI a0)] (wS r) := Zw2.fn h
def Zajk (a0 : Int) : LT Empty Bool :=
.cs (decide (a0 ≥ 0)) (.kg 0<|.kg 0<|.kg 0<|.rt (decide (a0 ≤ 31)))<|.kg 0<|.kg 0<|.kg 0<|.rt false
def Zajl : LF Empty Bool := .z 158 [.t 2] false (fun r => []) (fun r => (wB r))
def Zajm (a0 : Int) : Option Bool := Zajl.run (Zajk a0)
theorem Zap5 (a0 : Int) {r : Bool} (h : Zajm a0 = some r) : Fn PR 158 [(wI a0)] (wB r) := Zajl.fn h
def Zabc (a0 : Int) : LT Empty (List UInt8) :=
.br (a0 == 0) (.rt ([97, 109, 98, 101, 114] : List UInt8))<|.br (a0 == 1) (.rt ([99, 111, 98, 97, 108, 116] : List UInt8))<|.br (a0 == 2) (.rt ([106, 101, 116] : List UInt8))<|.br (a0 == 3) (.rt ([114, 117, 98, 121] : List UInt8))<|.br (a0 == 4) (.rt ([101, 109, 101, 114, 97, 108, 100] : List UInt8))<|.rt ([] : List UInt8)
def Zabd : LF Empty (List UInt8) := .z 159 [.t 2] false (fun r => []) (fun r => (wS r))
def Z8u (a0 : Int) : Option (List UInt8) := Zabd.run (Zabc a0)
theorem Zrc (a0 : Int) {r : (List UInt8)} (h : Z8u a0 = some r) : Fn PR 159 [(wI a0)] (wS r) := Zabd.fn h
inductive Zpb where
 | L0 (v0 : Int) (v3 : (List UInt8)) (v4 : Int)
def Zx9 (v0 : Int) (v3 : (List UInt8)) (v4 : Int) : LT Zpb (List UInt8) :=
.br (decide (v4 < 5)) (.ok (¬ v4 < 0)<|.ok ((shlI .i64 1 v4) ≠ 0)<|.dc ((2 : Int) ≠ 0) rfl<|.br ((Int.tmod (Zpa .i64 v0 (shlI .i64 1 v4)) 2) == 1) (.br (!(v3 == ([] : List UInt8))) (.ok (v3.length + ([43] : List UInt8).length ≤ 9223372036854775807)<|.call (Zrc v4) fun x10=>.ok ((v3 ++ ([43] : List UInt8)).length + x10.length ≤ 9223372036854775807)<|.g0 (.L0 v0 ((v3 ++ ([43] : List UInt8)) ++ x10) (IntKind.wrap .i64 (v4 + 1))))<|.call (Zrc v4) fun x17=>.ok (v3.length + x17.length ≤ 9223372036854775807)<|.g0 (.L0 v0 (v3 ++ x17) (IntKind.wrap .i64 (v4 + 1))))<|.g0 (.L0 v0 v3 (IntKind.wrap .i64 (v4 + 1))))<|.rt v3
def Zabe (a0 : Int) : LT Zpb (List UInt8) :=
.call (Zap5 a0) fun x1=>.br (!x1) (.rt ([] : List UInt8))<|.br (a0 == 0) (.rt ([110, 111, 110, 101] : List UInt8))<|.g0 (.L0 a0 ([] : List UInt8) 0)
def Zabf : LF Zpb (List UInt8) := ⟨144, [.t 2], false, fun | .L0 .. => [1,1,1,1,0,1,4],
 fun | .L0 v0 v3 v4 => ⟨29, [(0, (wI v0)), (3, (wS v3)), (4, (wI v4))], []⟩,
 fun r => [], fun r => (wS r), fun | .L0 v0 v3 v4 => Zx9 v0 v3 v4⟩
def Z8v (a0 : Int) : Option (List UInt8) := Zabf.run (Zabe a0)
theorem Z6z (a0 : Int) {r : (List UInt8)} (h : Z8v a0 = some r) : Fn PR 144 [(wI a0)] (wS r) := Zabf.fn h
def Z60 : LT Empty (List (List UInt8)) :=
.lb 1001<|.ret [([102, 108, 121, 105, 110, 103] : List UInt8), ([114, 101, 97, 99, 104] : List UInt8), ([104, 97, 115, 116, 101] : List UInt8), ([118, 105, 103, 105, 108, 97, 110, 116] : List UInt8), ([116, 114, 97, 109, 112, 108, 101] : List UInt8), ([102, 105, 114, 115, 116, 45, 115, 116, 114, 105, 107, 101] : List UInt8), ([100, 111, 117, 98, 108, 101, 45, 115, 116, 114, 105, 107, 101] : List UInt8), ([100, 101, 97, 100, 108, 121] : List UInt8), ([108, 105, 102, 101, 108, 105, 110, 107] : List UInt8), ([109, 101, 110, 97, 99, 101] : List UInt8), ([100, 101, 102, 101, 110, 100, 101, 114] : List UInt8), ([119, 97, 114, 100, 101, 100] : List UInt8), ([115, 116, 117, 114, 100, 121] : List UInt8), ([101, 108, 117, 115, 105, 118, 101] : List UInt8), ([110, 111, 45, 97, 116, 116, 97, 99, 107] : List UInt8), ([110, 111, 45, 98, 108, 111, 99, 107] : List UInt8), ([109, 117, 115, 116, 45, 97, 116, 116, 97, 99, 107] : List UInt8)] [.relab 1001 5000]
def Z61 : LF Empty (List (List UInt8)) := .z 175 [.t 0] true (fun r => [(5000, wR cS 1 r)]) (fun r => (wO cS 5000 r))
def Zw3 : Option (List (List UInt8)) := Z61.run (Z60)
theorem Zagu {r : (List (List UInt8))} (h : Zw3 = some r) : FnG PR 175 [] [] [(5000, wR cS 1 r)] (wO cS 5000 r) := Z61.fn h
theorem Zajn {r : (List (List UInt8))} (h : Zw3 = some r) : Fn PR 175 [] (wL cS r) :=
 FnG.frozen (C := LT.RL cS r ∧ True) (Zagu h) ⟨rfl, trivial⟩ (by kernel_rfl)
def Zabg (a0 : Int) : LT Empty (List UInt8) :=
.cs (decide (a0 < 0)) (.kg 0<|.kg 0<|.kg 0<|.kn [0]<|.rt ([] : List UInt8))<|.kg 0<|.kg 0<|.kg 0<|.br (decide (a0 > 16)) (.rt ([] : List UInt8))<|.call (Zajn) fun x3=>.idx cS x3 a0 fun x5=>.rt x5
def Zabh : LF Empty (List UInt8) := .z 160 [.t 2] false (fun r => []) (fun r => (wS r))
def Z8w (a0 : Int) : Option (List UInt8) := Zabh.run (Zabg a0)
theorem Zya (a0 : Int) {r : (List UInt8)} (h : Z8w a0 = some r) : Fn PR 160 [(wI a0)] (wS r) := Zabh.fn h
inductive Zpc where
 | L0 (v0 : Int) (v3 : (List UInt8)) (v4 : Int)
def Zyb (v0 : Int) (v3 : (List UInt8)) (v4 : Int) : LT Zpc (List UInt8) :=
.br (decide (v4 < 17)) (.dc ((2 : Int) ≠ 0) rfl<|.br ((Int.tmod v0 2) == 1) (.br (!(v3 == ([] : List UInt8))) (.ok (v3.length + ([43] : List UInt8).length ≤ 9223372036854775807)<|.call (Zya v4) fun x6=>.ok ((v3 ++ ([43] : List UInt8)).length + x6.length ≤ 9223372036854775807)<|.dc ((2 : Int) ≠ 0) rfl<|.g0 (.L0 (Zpa .i64 v0 2) ((v3 ++ ([43] : List UInt8)) ++ x6) (IntKind.wrap .i64 (v4 + 1))))<|.call (Zya v4) fun x13=>.ok (v3.length + x13.length ≤ 9223372036854775807)<|.dc ((2 : Int) ≠ 0) rfl<|.g0 (.L0 (Zpa .i64 v0 2) (v3 ++ x13) (IntKind.wrap .i64 (v4 + 1))))<|.dc ((2 : Int) ≠ 0) rfl<|.g0 (.L0 (Zpa .i64 v0 2) v3 (IntKind.wrap .i64 (v4 + 1))))<|.br (v3 == ([] : List UInt8)) (.rt ([110, 111, 110, 101] : List UInt8))<|.rt v3
def Zabi (a0 : Int) : LT Zpc (List UInt8) :=
.call (Zagb a0) fun x1=>.br (!x1) (.rt ([] : List UInt8))<|.g0 (.L0 a0 ([] : List UInt8) 0)
def Zabj : LF Zpc (List UInt8) := ⟨145, [.t 2], false, fun | .L0 .. => [1,1,1,0,1,4],
 fun | .L0 v0 v3 v4 => ⟨28, [(0, (wI v0)), (3, (wS v3)), (4, (wI v4))], []⟩,
 fun r => [], fun r => (wS r), fun | .L0 v0 v3 v4 => Zyb v0 v3 v4⟩
def Z8x (a0 : Int) : Option (List UInt8) := Zabj.run (Zabi a0)
theorem Z62 (a0 : Int) {r : (List UInt8)} (h : Z8x a0 = some r) : Fn PR 145 [(wI a0)] (wS r) := Zabj.fn h
def Zw4 : LT Empty (List (List UInt8)) :=
.lb 1001<|.ret [([] : List UInt8), ([105, 110, 45, 104, 97, 110, 100] : List UInt8), ([105, 110, 45, 108, 105, 98, 114, 97, 114, 121] : List UInt8), ([105, 110, 45, 103, 114, 97, 118, 101, 121, 97, 114, 100] : List UInt8), ([105, 110, 45, 101, 120, 105, 108, 101] : List UInt8), ([111, 110, 45, 115, 116, 97, 99, 107] : List UInt8)] [.relab 1001 5000]
def Zw5 : LF Empty (List (List UInt8)) := .z 161 [.t 0] true (fun r => [(5000, wR cS 1 r)]) (fun r => (wO cS 5000 r))
def Zny : Option (List (List UInt8)) := Zw5.run (Zw4)
theorem Z56 {r : (List (List UInt8))} (h : Zny = some r) : FnG PR 161 [] [] [(5000, wR cS 1 r)] (wO cS 5000 r) := Zw5.fn h
theorem Z8y {r : (List (List UInt8))} (h : Zny = some r) : Fn PR 161 [] (wL cS r) :=
 FnG.frozen (C := LT.RL cS r ∧ True) (Z56 h) ⟨rfl, trivial⟩ (by kernel_rfl)
def Zzi : LT Empty (List (List UInt8)) :=
.lb 1001<|.ret [([] : List UInt8), ([121, 111, 117, 114, 115] : List UInt8), ([116, 104, 101, 105, 114, 115] : List UInt8)] [.relab 1001 5000]
def Zzj : LF Empty (List (List UInt8)) := .z 162 [.t 0] true (fun r => [(5000, wR cS 1 r)]) (fun r => (wO cS 5000 r))
def Zpd : Option (List (List UInt8)) := Zzj.run (Zzi)
theorem Z8z {r : (List (List UInt8))} (h : Zpd = some r) : FnG PR 162 [] [] [(5000, wR cS 1 r)] (wO cS 5000 r) := Zzj.fn h
theorem Zabk {r : (List (List UInt8))} (h : Zpd = some r) : Fn PR 162 [] (wL cS r) :=
 FnG.frozen (C := LT.RL cS r ∧ True) (Z8z h) ⟨rfl, trivial⟩ (by kernel_rfl)
def Zw6 : LT Empty (List (List UInt8)) :=
.lb 1001<|.ret [([] : List UInt8), ([115, 101, 108, 102] : List UInt8), ([111, 116, 104, 101, 114] : List UInt8)] [.relab 1001 5000]
def Zw7 : LF Empty (List (List UInt8)) := .z 163 [.t 0] true (fun r => [(5000, wR cS 1 r)]) (fun r => (wO cS 5000 r))
def Znz : Option (List (List UInt8)) := Zw7.run (Zw6)
theorem Z57 {r : (List (List UInt8))} (h : Znz = some r) : FnG PR 163 [] [] [(5000, wR cS 1 r)] (wO cS 5000 r) := Zw7.fn h
theorem Z80 {r : (List (List UInt8))} (h : Znz = some r) : Fn PR 163 [] (wL cS r) :=
 FnG.frozen (C := LT.RL cS r ∧ True) (Z57 h) ⟨rfl, trivial⟩ (by kernel_rfl)
def Zzk : LT Empty (List (List UInt8)) :=
.lb 1001<|.ret [([] : List UInt8), ([116, 97, 112, 112, 101, 100] : List UInt8), ([117, 110, 116, 97, 112, 112, 101, 100] : List UInt8)] [.relab 1001 5000]
def Zzl : LF Empty (List (List UInt8)) := .z 164 [.t 0] true (fun r => [(5000, wR cS 1 r)]) (fun r => (wO cS 5000 r))
def Zpe : Option (List (List UInt8)) := Zzl.run (Zzk)
theorem Z81 {r : (List (List UInt8))} (h : Zpe = some r) : FnG PR 164 [] [] [(5000, wR cS 1 r)] (wO cS 5000 r) := Zzl.fn h
theorem Zabl {r : (List (List UInt8))} (h : Zpe = some r) : Fn PR 164 [] (wL cS r) :=
 FnG.frozen (C := LT.RL cS r ∧ True) (Z81 h) ⟨rfl, trivial⟩ (by kernel_rfl)
inductive Zrx where
 | L0 (v0 : Int) (v1 : Int) (v5 : Int)
def Z0s (v0 : Int) (v1 : Int) (v5 : Int) : LT Zrx Bool :=
.br (decide (v5 < v1)) (.dc ((2 : Int) ≠ 0) rfl<|.g0 (.L0 (Zpa .i64 v0 2) v1 (IntKind.wrap .i64 (v5 + 1))))<|.dc ((2 : Int) ≠ 0) rfl<|.rt ((Int.tmod v0 2) == 1)
def Zagd (a0 : Int) (a1 : Int) : LT Zrx Bool :=
.g0 (.L0 a0 a1 0)
def Zage : LF Zrx Bool := ⟨166, [.t 4], false, fun | .L0 .. => [1,0,1,4],
 fun | .L0 v0 v1 v5 => ⟨16, [(0, (wI v0)), (1, (wI v1)), (5, (wI v5))], []⟩,
 fun r => [], fun r => (wB r), fun | .L0 v0 v1 v5 => Z0s v0 v1 v5⟩
def Zae2 (a0 : Int) (a1 : Int) : Option Bool := Zage.run (Zagd a0 a1)
theorem Zpf (a0 : Int) (a1 : Int) {r : Bool} (h : Zae2 a0 a1 = some r) : Fn PR 166 [(wI a0), (wI a1)] (wB r) := Zage.fn h
inductive Ziz where
 | L0 (v0 : Int) (v3 : Int) (v4 : Int)
def Zpg (v0 : Int) (v3 : Int) (v4 : Int) : LT Ziz (List UInt8) :=
.br (decide (v4 < v0)) (.g0 (.L0 v0 (IntKind.wrap .i64 (v3 * 2)) (IntKind.wrap .i64 (v4 + 1))))<|.call (Zof v3) fun x6=>.rt x6
def Zzm (a0 : Int) : LT Ziz (List UInt8) :=
.g0 (.L0 a0 1 0)
def Zzn : LF Ziz (List UInt8) := ⟨167, [.t 2], false, fun | .L0 .. => [1,1,0,1,4],
 fun | .L0 v0 v3 v4 => ⟨14, [(0, (wI v0)), (3, (wI v3)), (4, (wI v4))], []⟩,
 fun r => [], fun r => (wS r), fun | .L0 v0 v3 v4 => Zpg v0 v3 v4⟩
def Zvd (a0 : Int) : Option (List UInt8) := Zzn.run (Zzm a0)
theorem Zw8 (a0 : Int) {r : (List UInt8)} (h : Zvd a0 = some r) : Fn PR 167 [(wI a0)] (wS r) := Zzn.fn h
def Z63 : LT Empty (List (List UInt8)) :=
.lb 1001<|.ret [([] : List UInt8), ([62, 61] : List UInt8), ([60, 61] : List UInt8), ([61] : List UInt8)] [.relab 1001 5000]
def Z64 : LF Empty (List (List UInt8)) := .z 176 [.t 0] true (fun r => [(5000, wR cS 1 r)]) (fun r => (wO cS 5000 r))
def Zw9 : Option (List (List UInt8)) := Z64.run (Z63)
theorem Zagv {r : (List (List UInt8))} (h : Zw9 = some r) : FnG PR 176 [] [] [(5000, wR cS 1 r)] (wO cS 5000 r) := Z64.fn h
theorem Zajo {r : (List (List UInt8))} (h : Zw9 = some r) : Fn PR 176 [] (wL cS r) :=
 FnG.frozen (C := LT.RL cS r ∧ True) (Zagv h) ⟨rfl, trivial⟩ (by kernel_rfl)
inductive Zve where
 | L0 (v0 : Int) (v3 : (List UInt8))
def Zhm (v0 : Int) (v3 : (List UInt8)) : LT Zve (List UInt8) :=
.br (decide (v0 > 0)) (.dc ((10 : Int) ≠ 0) rfl<|.dr [.lit]<|.str [IntKind.wrap .u8 (IntKind.wrap .u64 (48 + (Int.tmod v0 10)))] fun x5=>.ok (x5.length + v3.length ≤ 9223372036854775807)<|.dc ((10 : Int) ≠ 0) rfl<|.g0 (.L0 (Zpa .u64 v0 10) (x5 ++ v3)))<|.rt v3
def Z3n (a0 : Int) : LT Zve (List UInt8) :=
.dc ((10 : Int) ≠ 0) rfl<|.dr [.lit]<|.str [IntKind.wrap .u8 (IntKind.wrap .u64 (48 + (Int.tmod a0 10)))] fun x4=>.dc ((10 : Int) ≠ 0) rfl<|.g0 (.L0 (Zpa .u64 a0 10) x4)
def Zph : LF Zve (List UInt8) := ⟨170, [.t 2], false, fun | .L0 .. => [1,1,0,1,4],
 fun | .L0 v0 v3 => ⟨25, [(0, (.t (.int .u64 v0))), (3, (wS v3))], []⟩,
 fun r => [], fun r => (wS r), fun | .L0 v0 v3 => Zhm v0 v3⟩
def Z0t (a0 : Int) : Option (List UInt8) := Zph.run (Z3n a0)
theorem Z1o (a0 : Int) {r : (List UInt8)} (h : Z0t a0 = some r) : Fn PR 170 [(.t (.int .u64 a0))] (wS r) := Zph.fn h
def Zabm (a0 : Int) : LT Empty (List UInt8) :=
.br (decide (a0 < 0)) (.call (Z1o (IntKind.wrap .u64 (0 - (IntKind.wrap .u64 a0)))) fun x4=>.ok (([45] : List UInt8).length + x4.length ≤ 9223372036854775807)<|.rt (([45] : List UInt8) ++ x4))<|.call (Z1o (IntKind.wrap .u64 a0)) fun x10=>.rt x10
def Zabn : LF Empty (List UInt8) := .z 147 [.t 2] false (fun r => []) (fun r => (wS r))
def Z82 (a0 : Int) : Option (List UInt8) := Zabn.run (Zabm a0)
theorem Zkl (a0 : Int) {r : (List UInt8)} (h : Z82 a0 = some r) : Fn PR 147 [(wI a0)] (wS r) := Zabn.fn h
def Zxa (a0 : (List UInt8)) (a1 : Zc) : LT Empty (List UInt8) :=
.lb 1003<|.br (a1.Kind == 0) (.rt ([] : List UInt8))<|.call (Zajo) fun x2=>.idx cS x2 a1.Kind fun x4=>.ok (a0.length + x4.length ≤ 9223372036854775807)<|.call (Zkl a1.N) fun x10=>.ok ((a0 ++ x4).length + x10.length ≤ 9223372036854775807)<|.rt ((a0 ++ x4) ++ x10)
def Zxb : LF Empty (List UInt8) := .z 168 [.t 4] false (fun r => []) (fun r => (wS r))
def Zsv (a0 : (List UInt8)) (a1 : Zc) : Option (List UInt8) := Zxb.run (Zxa a0 a1)
theorem Zog (a0 : (List UInt8)) (a1 : Zc) {r : (List UInt8)} (h : Zsv a0 a1 = some r) : Fn PR 168 [(wS a0), (wA (Zfu a1))] (wS r) := Zxb.fn h
inductive Zpi where
 | L0 (v0 : (List (List UInt8))) (v1 : (List UInt8)) (v5 : (List UInt8)) (v6 : Int)
def Zyc (v0 : (List (List UInt8))) (v1 : (List UInt8)) (v5 : (List UInt8)) (v6 : Int) : LT Zpi (List UInt8) :=
.len cS v0<|.br (decide (v6 < (v0.length : Int))) (.br (decide (v6 > 0)) (.ok (v5.length + v1.length ≤ 9223372036854775807)<|.idx cS v0 v6 fun x7=>.ok ((v5 ++ v1).length + x7.length ≤ 9223372036854775807)<|.g0 (.L0 v0 v1 ((v5 ++ v1) ++ x7) (IntKind.wrap .i64 (v6 + 1))))<|.idx cS v0 v6 fun x14=>.ok (v5.length + x14.length ≤ 9223372036854775807)<|.g0 (.L0 v0 v1 (v5 ++ x14) (IntKind.wrap .i64 (v6 + 1))))<|.rt v5
def Zabo (a0 : (List (List UInt8))) (a1 : (List UInt8)) : LT Zpi (List UInt8) :=
.g0 (.L0 a0 a1 ([] : List UInt8) 0)
def Zabp : LF Zpi (List UInt8) := ⟨169, [.t 4], false, fun | .L0 .. => [1,1,0,1,4],
 fun | .L0 v0 v1 v5 v6 => ⟨25, [(0, (wL cS v0)), (1, (wS v1)), (5, (wS v5)), (6, (wI v6))], []⟩,
 fun r => [], fun r => (wS r), fun | .L0 v0 v1 v5 v6 => Zyc v0 v1 v5 v6⟩
def Z83 (a0 : (List (List UInt8))) (a1 : (List UInt8)) : Option (List UInt8) := Zabp.run (Zabo a0 a1)
theorem Zamv (a0 : (List (List UInt8))) (a1 : (List UInt8)) {r : (List UInt8)} (h : Z83 a0 a1 = some r) : Fn PR 169 [(wL cS a0), (wS a1)] (wS r) := Zabp.fn h
def Zzo (b0 : (List (List UInt8))) (a1 : (List UInt8)) : LT Empty (List (List UInt8)) :=
.br (a1 == ([] : List UInt8)) (.ret b0 [.relab 0 5000])<|.dr [.lit]<|.apR cS 16 b0 [a1] fun x3=>.ret x3 [.relab 0 5000]
def Zzp : LF Empty (List (List UInt8)) := .z 165 [.t 4] true (fun r => [(5000, wR cS 1 r)]) (fun r => (wO cS 5000 r))
def Zvf (b0 : (List (List UInt8))) (a1 : (List UInt8)) : Option (List (List UInt8)) := Zzp.run (Zzo b0 a1)
theorem Zf1 (b0 : (List (List UInt8))) (a1 : (List UInt8)) {r : (List (List UInt8))} (h : Zvf b0 a1 = some r) : FnG PR 165 [(0, wR cS 1 b0)] [(wO cS 0 b0), (wS a1)] [(5000, wR cS 1 r)] (wO cS 5000 r) := Zzp.fn h
inductive Zg9 where
 | L0 (E0 : Zh) (v6 : (List (List UInt8))) (v7 : (List (List UInt8))) (v8 : Int)
 | L1 (E0 : Zh) (v6 : (List (List UInt8))) (v7 : (List (List UInt8))) (v9 : Int)
 | L2 (E0 : Zh) (v6 : (List (List UInt8))) (v7 : (List (List UInt8))) (v10 : Int)
 | L3 (E0 : Zh) (v6 : (List (List UInt8))) (v7 : (List (List UInt8))) (v11 : Int)
 | L4 (E0 : Zh) (v6 : (List (List UInt8))) (v7 : (List (List UInt8)))
 | L5 (E0 : Zh) (v6 : (List (List UInt8))) (v7 : (List (List UInt8))) (v12 : Int)
def Zm8 (E0 : Zh) (v6 : (List (List UInt8))) (v7 : (List (List UInt8))) : LT Zg9 (List UInt8) :=
.g0 (.L5 E0 v6 v7 0)
def Zyd (E0 : Zh) (v6 : (List (List UInt8))) (v7 : (List (List UInt8))) (v8 : Int) : LT Zg9 (List UInt8) :=
.br (decide (v8 < 6)) (.call (Zpf E0.Types v8) fun x2=>.br x2 (.call (Zw8 v8) fun x5=>.dr [.lit]<|.apR cS 16 v7 [x5] fun x8=>.g0 (.L0 E0 v6 x8 (IntKind.wrap .i64 (v8 + 1))))<|.g0 (.L0 E0 v6 v7 (IntKind.wrap .i64 (v8 + 1))))<|.g0 (.L1 E0 v6 v7 0)
def Zye (E0 : Zh) (v6 : (List (List UInt8))) (v7 : (List (List UInt8))) (v9 : Int) : LT Zg9 (List UInt8) :=
.br (decide (v9 < 6)) (.call (Zpf E0.NotTypes v9) fun x2=>.br x2 (.call (Zw8 v9) fun x5=>.ok (([110, 111, 110, 45] : List UInt8).length + x5.length ≤ 9223372036854775807)<|.dr [.lit]<|.apR cS 16 v7 [(([110, 111, 110, 45] : List UInt8) ++ x5)] fun x11=>.g0 (.L1 E0 v6 x11 (IntKind.wrap .i64 (v9 + 1))))<|.g0 (.L1 E0 v6 v7 (IntKind.wrap .i64 (v9 + 1))))<|.g0 (.L2 E0 v6 v7 0)
def Zyf (E0 : Zh) (v6 : (List (List UInt8))) (v7 : (List (List UInt8))) (v10 : Int) : LT Zg9 (List UInt8) :=
.br (decide (v10 < 5)) (.call (Zpf E0.Colors v10) fun x2=>.br x2 (.call (Zrc v10) fun x5=>.dr [.lit]<|.apR cS 16 v7 [x5] fun x8=>.g0 (.L2 E0 v6 x8 (IntKind.wrap .i64 (v10 + 1))))<|.g0 (.L2 E0 v6 v7 (IntKind.wrap .i64 (v10 + 1))))<|.g0 (.L3 E0 v6 v7 0)
def Zyg (E0 : Zh) (v6 : (List (List UInt8))) (v7 : (List (List UInt8))) (v11 : Int) : LT Zg9 (List UInt8) :=
.br (decide (v11 < 5)) (.call (Zpf E0.NotColors v11) fun x2=>.br x2 (.call (Zrc v11) fun x5=>.ok (([110, 111, 110, 45] : List UInt8).length + x5.length ≤ 9223372036854775807)<|.dr [.lit]<|.apR cS 16 v7 [(([110, 111, 110, 45] : List UInt8) ++ x5)] fun x11=>.g0 (.L3 E0 v6 x11 (IntKind.wrap .i64 (v11 + 1))))<|.g0 (.L3 E0 v6 v7 (IntKind.wrap .i64 (v11 + 1))))<|.br (!(E0.Sub == ([] : List UInt8))) (.ok (([115, 117, 98, 58] : List UInt8).length + E0.Sub.length ≤ 9223372036854775807)<|.dr [.lit]<|.apR cS 16 v7 [(([115, 117, 98, 58] : List UInt8) ++ E0.Sub)] fun x24=>.j0 (.L4 E0 v6 x24) (Zm8 E0 v6 x24))<|.j0 (.L4 E0 v6 v7) (Zm8 E0 v6 v7)
def Zyh (E0 : Zh) (v6 : (List (List UInt8))) (v7 : (List (List UInt8))) (v12 : Int) : LT Zg9 (List UInt8) :=
.br (decide (v12 < 17)) (.call (Zpf E0.Keys v12) fun x2=>.br x2 (.call (Zya v12) fun x5=>.ok (([119, 105, 116, 104, 58] : List UInt8).length + x5.length ≤ 9223372036854775807)<|.dr [.lit]<|.apR cS 16 v7 [(([119, 105, 116, 104, 58] : List UInt8) ++ x5)] fun x11=>.g0 (.L5 E0 v6 x11 (IntKind.wrap .i64 (v12 + 1))))<|.g0 (.L5 E0 v6 v7 (IntKind.wrap .i64 (v12 + 1))))<|.idx cS v6 E0.Tap fun x19=>.callU (Zf1 v7 x19) [20000007] 1250000 fun x21=>.call (Zog ([112, 111, 119, 101, 114] : List UInt8) E0.Power) fun x23=>.callU (Zf1 x21 x23) [1255000] 1300000 fun x25=>.call (Zog ([116, 111, 117, 103, 104] : List UInt8) E0.Tough) fun x27=>.callU (Zf1 x25 x27) [1305000] 1350000 fun x29=>.call (Zog ([118, 97, 108, 117, 101] : List UInt8) E0.Value) fun x31=>.callU (Zf1 x29 x31) [1355000] 1400000 fun x33=>.lenO cS x33<|.br ((x33.length : Int) == 0) (.rt ([97, 110, 121] : List UInt8))<|.rl cS x33<|.call (Zamv x33 ([32] : List UInt8)) fun x37=>.rt x37
def Zabq (a0 : Zh) : LT Zg9 (List UInt8) :=
.lb 1001<|.call (Zhe a0) fun x1=>.br (!x1) (.rt ([] : List UInt8))<|.call (Z8y) fun x4=>.call (Zabk) fun x6=>.call (Z80) fun x8=>.call (Zabl) fun x10=>.idx cS x4 a0.Zone fun x12=>.dr [.ahead 26, .own 20 70000260 1, .stop]<|.callU (Zf1 ([] : (List (List UInt8))) x12) [70000260] 270000 fun x14=>.idx cS x6 a0.Who fun x16=>.callU (Zf1 x14 x16) [275000] 340000 fun x18=>.idx cS x8 a0.Self fun x20=>.callU (Zf1 x18 x20) [345000] 410000 fun x22=>.go (.L0 a0 x10 x22 0) [.relab 1001 30000000, .relab 415000 20000007]
def Zabr : LF Zg9 (List UInt8) := ⟨146, [.t 2], false, fun | .L0 .. => [1,1,1,1,1,1,1,1,1,1,0,1,4] | .L1 .. => [1,1,1,1,1,1,1,1,1,1,1,0,1,4] | .L2 .. => [1,1,1,1,1,1,1,1,1,1,1,1,0,1,4] | .L3 .. => [1,1,1,1,1,1,1,1,1,1,1,1,1,0,1,4] | .L4 .. => [1,1,1,1,1,1,1,1,1,1,1,1,1,1,1] | .L5 .. => [1,1,1,1,1,1,1,1,1,1,1,1,1,1,1,0,1,4],
 fun | .L0 E0 v6 v7 v8 => ⟨145, [(1, (.bptr 30000000 0)), (6, (wL cS v6)), (7, (wO cS 20000007 v7)), (8, (wI v8))], [(30000000, .box (bx (Zq E0))), (20000007, wR cS 1 v7)]⟩ | .L1 E0 v6 v7 v9 => ⟨145, [(1, (.bptr 30000000 0)), (6, (wL cS v6)), (7, (wO cS 20000007 v7)), (9, (wI v9))], [(30000000, .box (bx (Zq E0))), (20000007, wR cS 1 v7)]⟩ | .L2 E0 v6 v7 v10 => ⟨145, [(1, (.bptr 30000000 0)), (6, (wL cS v6)), (7, (wO cS 20000007 v7)), (10, (wI v10))], [(30000000, .box (bx (Zq E0))), (20000007, wR cS 1 v7)]⟩ | .L3 E0 v6 v7 v11 => ⟨145, [(1, (.bptr 30000000 0)), (6, (wL cS v6)), (7, (wO cS 20000007 v7)), (11, (wI v11))], [(30000000, .box (bx (Zq E0))), (20000007, wR cS 1 v7)]⟩ | .L4 E0 v6 v7 => ⟨145, [(1, (.bptr 30000000 0)), (6, (wL cS v6)), (7, (wO cS 20000007 v7))], [(30000000, .box (bx (Zq E0))), (20000007, wR cS 1 v7)]⟩ | .L5 E0 v6 v7 v12 => ⟨145, [(1, (.bptr 30000000 0)), (6, (wL cS v6)), (7, (wO cS 20000007 v7)), (12, (wI v12))], [(30000000, .box (bx (Zq E0))), (20000007, wR cS 1 v7)]⟩,
 fun r => [], fun r => (wS r), fun | .L0 E0 v6 v7 v8 => Zyd E0 v6 v7 v8 | .L1 E0 v6 v7 v9 => Zye E0 v6 v7 v9 | .L2 E0 v6 v7 v10 => Zyf E0 v6 v7 v10 | .L3 E0 v6 v7 v11 => Zyg E0 v6 v7 v11 | .L4 E0 v6 v7 => Zm8 E0 v6 v7 | .L5 E0 v6 v7 v12 => Zyh E0 v6 v7 v12⟩
def Z84 (a0 : Zh) : Option (List UInt8) := Zabr.run (Zabq a0)
theorem Zamw (a0 : Zh) {r : (List UInt8)} (h : Z84 a0 = some r) : Fn PR 146 [(wA (Zq a0))] (wS r) := Zabr.fn h
def Zabs (a0 : Zj) : LT Empty (List UInt8) :=
.lb 1001<|.call (Zagc a0) fun x1=>.br (!x1) (.rt ([] : List UInt8))<|.br (a0.Kind == 1) (.rt ([99, 111, 110, 116, 114, 111, 108] : List UInt8))<|.br (a0.Kind == 2) (.call (Zof a0.N) fun x6=>.ok (([116, 121, 112, 101, 115, 61] : List UInt8).length + x6.length ≤ 9223372036854775807)<|.rt (([116, 121, 112, 101, 115, 61] : List UInt8) ++ x6))<|.br (a0.Kind == 3) (.call (Zof a0.N) fun x12=>.ok (([116, 121, 112, 101, 115, 43, 61] : List UInt8).length + x12.length ≤ 9223372036854775807)<|.rt (([116, 121, 112, 101, 115, 43, 61] : List UInt8) ++ x12))<|.br (a0.Kind == 4) (.ok (([115, 117, 98, 61] : List UInt8).length + a0.Sub.length ≤ 9223372036854775807)<|.rt (([115, 117, 98, 61] : List UInt8) ++ a0.Sub))<|.br (a0.Kind == 5) (.ok (([115, 117, 98, 43, 61] : List UInt8).length + a0.Sub.length ≤ 9223372036854775807)<|.rt (([115, 117, 98, 43, 61] : List UInt8) ++ a0.Sub))<|.br (a0.Kind == 6) (.call (Z6z a0.N) fun x26=>.ok (([99, 111, 108, 111, 114, 115, 61] : List UInt8).length + x26.length ≤ 9223372036854775807)<|.rt (([99, 111, 108, 111, 114, 115, 61] : List UInt8) ++ x26))<|.br (a0.Kind == 7) (.call (Z6z a0.N) fun x32=>.ok (([99, 111, 108, 111, 114, 115, 43, 61] : List UInt8).length + x32.length ≤ 9223372036854775807)<|.rt (([99, 111, 108, 111, 114, 115, 43, 61] : List UInt8) ++ x32))<|.br (a0.Kind == 8) (.call (Z62 a0.N) fun x38=>.ok (([107, 101, 121, 115, 43, 61] : List UInt8).length + x38.length ≤ 9223372036854775807)<|.rt (([107, 101, 121, 115, 43, 61] : List UInt8) ++ x38))<|.br (a0.Kind == 9) (.call (Z62 a0.N) fun x44=>.ok (([107, 101, 121, 115, 45, 61] : List UInt8).length + x44.length ≤ 9223372036854775807)<|.rt (([107, 101, 121, 115, 45, 61] : List UInt8) ++ x44))<|.br (a0.Kind == 10) (.rt ([98, 108, 97, 110, 107] : List UInt8))<|.br (a0.Kind == 11) (.call (Zamw a0.Filter) fun x51=>.ok (([112, 116, 61, 99, 111, 117, 110, 116, 40] : List UInt8).length + x51.length ≤ 9223372036854775807)<|.ok ((([112, 116, 61, 99, 111, 117, 110, 116, 40] : List UInt8) ++ x51).length + ([41] : List UInt8).length ≤ 9223372036854775807)<|.rt ((([112, 116, 61, 99, 111, 117, 110, 116, 40] : List UInt8) ++ x51) ++ ([41] : List UInt8)))<|.br (a0.Kind == 12) (.call (Zkl a0.N) fun x58=>.ok (([112, 116, 61] : List UInt8).length + x58.length ≤ 9223372036854775807)<|.ok ((([112, 116, 61] : List UInt8) ++ x58).length + ([47] : List UInt8).length ≤ 9223372036854775807)<|.call (Zkl a0.M) fun x65=>.ok (((([112, 116, 61] : List UInt8) ++ x58) ++ ([47] : List UInt8)).length + x65.length ≤ 9223372036854775807)<|.rt (((([112, 116, 61] : List UInt8) ++ x58) ++ ([47] : List UInt8)) ++ x65))<|.br (a0.Kind == 13) (.call (Zkl a0.N) fun x71=>.ok (([112, 116, 43, 61] : List UInt8).length + x71.length ≤ 9223372036854775807)<|.ok ((([112, 116, 43, 61] : List UInt8) ++ x71).length + ([47] : List UInt8).length ≤ 9223372036854775807)<|.call (Zkl a0.M) fun x78=>.ok (((([112, 116, 43, 61] : List UInt8) ++ x71) ++ ([47] : List UInt8)).length + x78.length ≤ 9223372036854775807)<|.rt (((([112, 116, 43, 61] : List UInt8) ++ x71) ++ ([47] : List UInt8)) ++ x78))<|.rt ([112, 116, 45, 115, 119, 105, 116, 99, 104] : List UInt8)
def Zabt : LF Empty (List UInt8) := .z 125 [.t 2] false (fun r => []) (fun r => (wS r))
def Z85 (a0 : Zj) : Option (List UInt8) := Zabt.run (Zabs a0)
theorem Z65 (a0 : Zj) {r : (List UInt8)} (h : Z85 a0 = some r) : Fn PR 125 [(wA (Zn a0))] (wS r) := Zabt.fn h
inductive Zi0 where
 | L0 (v0 : (List Zj)) (v3 : (List UInt8)) (v4 : Int)
def Zpj (v0 : (List Zj)) (v3 : (List UInt8)) (v4 : Int) : LT Zi0 (List UInt8) :=
.len Zn v0<|.br (decide (v4 < (v0.length : Int))) (.idx Zn v0 v4 fun x3=>.call (Zagc x3) fun x5=>.br (!x5) (.rt ([] : List UInt8))<|.br (decide (v4 > 0)) (.ok (v3.length + ([44, 32] : List UInt8).length ≤ 9223372036854775807)<|.ag Zn x3 0<|.call (Z65 x3) fun x11=>.ok ((v3 ++ ([44, 32] : List UInt8)).length + x11.length ≤ 9223372036854775807)<|.g0 (.L0 v0 ((v3 ++ ([44, 32] : List UInt8)) ++ x11) (IntKind.wrap .i64 (v4 + 1))))<|.ag Zn x3 0<|.call (Z65 x3) fun x17=>.ok (v3.length + x17.length ≤ 9223372036854775807)<|.g0 (.L0 v0 (v3 ++ x17) (IntKind.wrap .i64 (v4 + 1))))<|.rt v3
def Zzq (a0 : (List Zj)) : LT Zi0 (List UInt8) :=
.len Zn a0<|.cs ((a0.length : Int) == 0) (.kg 0<|.kg 0<|.kg 0<|.kg 0<|.kn [0]<|.rt ([] : List UInt8))<|.kg 0<|.kg 0<|.len Zn a0<|.kg 0<|.kg 0<|.br (decide ((a0.length : Int) > 6)) (.rt ([] : List UInt8))<|.g0 (.L0 a0 ([] : List UInt8) 0)
def Zzr : LF Zi0 (List UInt8) := ⟨105, [.t 2], false, fun | .L0 .. => [1,1,1,0,1,4],
 fun | .L0 v0 v3 v4 => ⟨37, [(0, (wL Zn v0)), (3, (wS v3)), (4, (wI v4))], []⟩,
 fun r => [], fun r => (wS r), fun | .L0 v0 v3 v4 => Zpj v0 v3 v4⟩
def Zvg (a0 : (List Zj)) : Option (List UInt8) := Zzr.run (Zzq a0)
theorem Zpk (a0 : (List Zj)) {r : (List UInt8)} (h : Zvg a0 = some r) : Fn PR 105 [(wL Zn a0)] (wS r) := Zzr.fn h
def Z66 (a0 : Ze5) : LT Empty Bool :=
.lb 1001<|.call (Z3b a0.Mana) fun x1=>.cs x1 (.kg 0<|.kg 0<|.kg 0<|.kg 0<|.kg 0<|.cs (a0.Mana.X == 0) (.kg 1<|.kg 1<|.kg 1<|.kg 1<|.cs (decide (a0.Life ≥ 0)) (.kg 2<|.kg 2<|.kg 2<|.kg 2<|.rt (decide (a0.Life ≤ 99)))<|.kg 2<|.kg 2<|.kg 2<|.kg 2<|.rt false)<|.kg 1<|.kg 1<|.kg 1<|.kg 1<|.kb false<|.kb false<|.kb false<|.kb false<|.rt false)<|.kg 0<|.kg 0<|.kg 0<|.kg 0<|.kg 0<|.kb false<|.kb false<|.kb false<|.kb false<|.kb false<|.kb false<|.kb false<|.kb false<|.rt false
def Z67 : LF Empty Bool := .z 112 [.t 2] false (fun r => []) (fun r => (wB r))
def Z3o (a0 : Ze5) : Option Bool := Z67.run (Z66 a0)
theorem Zajp (a0 : Ze5) {r : Bool} (h : Z3o a0 = some r) : Fn PR 112 [(wA (Zda a0))] (wB r) := Z67.fn h
def Zabu (a0 : Int) : LT Empty (List UInt8) :=
.br (a0 == 1) (.rt ([101, 110, 116, 101, 114, 115] : List UInt8))<|.br (a0 == 2) (.rt ([108, 101, 97, 118, 101, 115] : List UInt8))<|.br (a0 == 3) (.rt ([100, 105, 101, 115] : List UInt8))<|.br (a0 == 4) (.rt ([97, 116, 116, 97, 99, 107, 115] : List UInt8))<|.br (a0 == 5) (.rt ([98, 108, 111, 99, 107, 115] : List UInt8))<|.br (a0 == 6) (.rt ([100, 101, 97, 108, 115] : List UInt8))<|.br (a0 == 7) (.rt ([100, 101, 97, 108, 116] : List UInt8))<|.br (a0 == 8) (.rt ([100, 114, 97, 119, 115] : List UInt8))<|.br (a0 == 9) (.rt ([99, 97, 115, 116, 115] : List UInt8))<|.br (a0 == 10) (.rt ([117, 112, 107, 101, 101, 112] : List UInt8))<|.br (a0 == 11) (.rt ([101, 110, 100] : List UInt8))<|.br (a0 == 12) (.rt ([103, 97, 105, 110, 115] : List UInt8))<|.br (a0 == 13) (.rt ([108, 111, 115, 101, 115] : List UInt8))<|.br (a0 == 14) (.rt ([112, 108, 97, 99, 101, 100] : List UInt8))<|.rt ([] : List UInt8)
def Zabv : LF Empty (List UInt8) := .z 132 [.t 2] false (fun r => []) (fun r => (wS r))
def Z86 (a0 : Int) : Option (List UInt8) := Zabv.run (Zabu a0)
theorem Z68 (a0 : Int) {r : (List UInt8)} (h : Z86 a0 = some r) : Fn PR 132 [(wI a0)] (wS r) := Zabv.fn h
def Z3p (a0 : Int) : LT Empty Bool :=
.cs (a0 == 8) (.kg 0<|.kg 0<|.kg 0<|.kb true<|.kb true<|.kb true<|.kb true<|.kb true<|.kb true<|.kb true<|.kb true<|.kb true<|.kb true<|.kb true<|.kb true<|.rt true)<|.kg 0<|.kg 0<|.kg 0<|.cs (a0 == 9) (.kg 1<|.kg 1<|.kg 1<|.kb true<|.kb true<|.kb true<|.kb true<|.kb true<|.kb true<|.kb true<|.kb true<|.kb true<|.rt true)<|.kg 1<|.kg 1<|.kg 1<|.cs (a0 == 10) (.kg 2<|.kg 2<|.kg 2<|.kb true<|.kb true<|.kb true<|.kb true<|.kb true<|.kb true<|.rt true)<|.kg 2<|.kg 2<|.kg 2<|.cs (a0 == 11) (.kg 3<|.kg 3<|.kg 3<|.kb true<|.kb true<|.kb true<|.rt true)<|.kg 3<|.kg 3<|.kg 3<|.cs (a0 == 12) (.kg 4<|.kg 4<|.kg 4<|.rt true)<|.kg 4<|.kg 4<|.kg 4<|.rt (a0 == 13)
def Z3q : LF Empty Bool := .z 133 [.t 2] false (fun r => []) (fun r => (wB r))
def Z0u (a0 : Int) : Option Bool := Z3q.run (Z3p a0)
theorem Z1p (a0 : Int) {r : Bool} (h : Z0u a0 = some r) : Fn PR 133 [(wI a0)] (wB r) := Z3q.fn h
def Zxc (a0 : Int) : LT Empty Bool :=
.call (Z68 a0) fun x1=>.cs (!(x1 == ([] : List UInt8))) (.kg 0<|.kg 0<|.call (Z1p a0) fun x4=>.kg 0<|.kg 0<|.cs (!x4) (.kg 1<|.kg 1<|.kg 0<|.kg 1<|.kg 0<|.rt true)<|.kg 1<|.kg 1<|.kg 0<|.kg 1<|.kg 0<|.rt (a0 == 9))<|.kg 0<|.kg 0<|.kg 0<|.kg 0<|.kg 0<|.kg 0<|.rt false
def Zxd : LF Empty Bool := .z 134 [.t 2] false (fun r => []) (fun r => (wB r))
def Zsw (a0 : Int) : Option Bool := Zxd.run (Zxc a0)
theorem Z87 (a0 : Int) {r : Bool} (h : Zsw a0 = some r) : Fn PR 134 [(wI a0)] (wB r) := Zxd.fn h
inductive Zvh where
 | L0 (E0 : Zce)
def Zry (E0 : Zce) : LT Zvh Bool :=
.call (Z87 E0.When) fun x1=>.br (!x1) (.rt (Zw (Zq E0.Filter) (Zq (⟨0, 0, 0, 0, 0, 0, 0, ([] : List UInt8), 0, 0, (⟨0, 0⟩ : Zc), (⟨0, 0⟩ : Zc), (⟨0, 0⟩ : Zc)⟩ : Zh))))<|.br (E0.When == 9) (.call (Zhe E0.Filter) fun x5=>.cs x5 (.kg 2<|.kg 2<|.kg 2<|.kg 2<|.kg 2<|.kg 2<|.rt (E0.Filter.Zone == 5))<|.kg 2<|.kg 2<|.kg 2<|.kg 2<|.kg 2<|.kg 2<|.rt false)<|.call (Zhe E0.Filter) fun x8=>.cs x8 (.kg 2<|.kg 2<|.kg 2<|.kg 2<|.kg 2<|.kg 2<|.rt (E0.Filter.Zone == 0))<|.kg 2<|.kg 2<|.kg 2<|.kg 2<|.kg 2<|.kg 2<|.rt false
def Zajq (a0 : Zce) : LT Zvh Bool :=
.lb 1001<|.call (Z68 a0.When) fun x1=>.cs (x1 == ([] : List UInt8)) (.kg 0<|.kg 0<|.kg 0<|.kg 0<|.kb true<|.kb true<|.kb true<|.kb true<|.kb true<|.kb true<|.kb true<|.kb true<|.kb true<|.kb true<|.kb true<|.kn [0]<|.rt false)<|.kg 0<|.kg 0<|.kg 0<|.kg 0<|.cs (decide (a0.Who < 0)) (.kg 1<|.kg 1<|.kg 1<|.kg 1<|.kb true<|.kb true<|.kb true<|.kb true<|.kb true<|.kb true<|.kb true<|.kn [0]<|.rt false)<|.kg 1<|.kg 1<|.kg 1<|.kg 1<|.cs (decide (a0.Who > 2)) (.kg 2<|.kg 2<|.kg 2<|.kg 2<|.kg 2<|.kg 2<|.kg 2<|.kn [0]<|.rt false)<|.kg 2<|.kg 2<|.kg 2<|.call (Z1p a0.When) fun x6=>.kg 2<|.kg 2<|.cs (!x6) (.kg 3<|.kg 3<|.kg 3<|.kg 2<|.kg 3<|.kg 2<|.br (a0.Who != 0) (.rt false)<|.jn 0 (.L0 a0) [.relab 1001 30000000] (Zry a0))<|.kg 3<|.kg 3<|.kg 3<|.kg 2<|.kg 3<|.kg 2<|.kn [0]<|.jn 0 (.L0 a0) [.relab 1001 30000000] (Zry a0)
def Zajr : LF Zvh Bool := ⟨113, [.t 2], false, fun | .L0 .. => [1,1],
 fun | .L0 E0 => ⟨50, [(1, (.bptr 30000000 0))], [(30000000, .box (bx (Zb8 E0)))]⟩,
 fun r => [], fun r => (wB r), fun | .L0 E0 => Zry E0⟩
def Zajs (a0 : Zce) : Option Bool := Zajr.run (Zajq a0)
theorem Zap6 (a0 : Zce) {r : Bool} (h : Zajs a0 = some r) : Fn PR 113 [(wA (Zb8 a0))] (wB r) := Zajr.fn h
def Z69 (a0 : Zh) : LT Empty Bool :=
.lb 1001<|.call (Zhe a0) fun x1=>.cs x1 (.kg 0<|.kg 0<|.kg 0<|.kg 0<|.rt (a0.Zone == 0))<|.kg 0<|.kg 0<|.kg 0<|.kg 0<|.rt false
def Z7a : LF Empty Bool := .z 137 [.t 2] false (fun r => []) (fun r => (wB r))
def Z3r (a0 : Zh) : Option Bool := Z7a.run (Z69 a0)
theorem Zvi (a0 : Zh) {r : Bool} (h : Z3r a0 = some r) : Fn PR 137 [(wA (Zq a0))] (wB r) := Z7a.fn h
def Z7b (a0 : Za3) : LT Empty Bool :=
.lb 1001<|.cs (a0.Who != 0) (.kg 0<|.kg 0<|.kg 0<|.kg 0<|.kg 0<|.kn [0]<|.rt false)<|.kg 0<|.kg 0<|.kg 0<|.call (Zvi a0.Filter) fun x2=>.kg 0<|.kg 0<|.br (!x2) (.rt false)<|.br (a0.Do == 5) (.cs (a0.N == 0) (.kg 3<|.kg 3<|.kg 3<|.kg 3<|.cs (a0.Counter == 0) (.kg 4<|.kg 4<|.kg 4<|.kg 4<|.cs (a0.Zone == 1) (.kg 5<|.kg 5<|.kg 5<|.kg 4<|.kg 5<|.kg 4<|.kb true<|.kb true<|.kb true<|.kg 4<|.kb true<|.kg 4<|.rt true)<|.kg 5<|.kg 5<|.kg 5<|.kg 4<|.kg 5<|.kg 4<|.cs (a0.Zone == 2) (.kg 6<|.kg 6<|.kg 6<|.kg 4<|.kg 6<|.kg 4<|.rt true)<|.kg 6<|.kg 6<|.kg 6<|.kg 4<|.kg 6<|.kg 4<|.rt (a0.Zone == 4))<|.kg 4<|.kg 4<|.kg 4<|.kg 4<|.kg 4<|.kg 4<|.kg 4<|.kg 4<|.rt false)<|.kg 3<|.kg 3<|.kg 3<|.kg 3<|.kb false<|.kb false<|.kb false<|.kb false<|.kb false<|.kb false<|.kb false<|.kb false<|.rt false)<|.br (a0.Do == 6) (.cs (a0.N == 0) (.kg 4<|.kg 4<|.kg 4<|.kg 4<|.cs (a0.Counter == 0) (.kg 5<|.kg 5<|.kg 5<|.kg 5<|.rt (a0.Zone == 0))<|.kg 5<|.kg 5<|.kg 5<|.kg 5<|.rt false)<|.kg 4<|.kg 4<|.kg 4<|.kg 4<|.kb false<|.kb false<|.kb false<|.kb false<|.rt false)<|.br (a0.Do == 7) (.cs (a0.Zone == 0) (.kg 5<|.kg 5<|.kg 5<|.kg 5<|.cs (decide (a0.N ≥ 1)) (.kg 6<|.kg 6<|.kg 6<|.kg 6<|.cs (decide (a0.N ≤ 99)) (.kg 7<|.kg 7<|.kg 7<|.kg 7<|.cs (decide (a0.Counter ≥ 0)) (.kg 8<|.kg 8<|.kg 8<|.kg 8<|.rt (decide (a0.Counter < 3)))<|.kg 8<|.kg 8<|.kg 8<|.kg 8<|.rt false)<|.kg 7<|.kg 7<|.kg 7<|.kg 7<|.kb false<|.kb false<|.kb false<|.kb false<|.rt false)<|.kg 6<|.kg 6<|.kg 6<|.kg 6<|.kb false<|.kb false<|.kb false<|.kb false<|.kb false<|.kb false<|.kb false<|.kb false<|.rt false)<|.kg 5<|.kg 5<|.kg 5<|.kg 5<|.kb false<|.kb false<|.kb false<|.kb false<|.kb false<|.kb false<|.kb false<|.kb false<|.kb false<|.kb false<|.kb false<|.kb false<|.rt false)<|.rt false
def Z7c : LF Empty Bool := .z 135 [.t 2] false (fun r => []) (fun r => (wB r))
def Z3s (a0 : Za3) : Option Bool := Z7c.run (Z7b a0)
theorem Zajt (a0 : Za3) {r : Bool} (h : Z3s a0 = some r) : Fn PR 135 [(wA (Zbu a0))] (wB r) := Z7c.fn h
def Z7d (a0 : Za3) : LT Empty Bool :=
.lb 1001<|.cs (a0.Zone != 0) (.kg 0<|.kg 0<|.kg 0<|.kg 0<|.kn [0]<|.rt false)<|.kg 0<|.kg 0<|.kg 0<|.kg 0<|.br (a0.Counter != 0) (.rt false)<|.cs (a0.Do == 2) (.kg 2<|.kg 2<|.kg 2<|.kg 2<|.kn [0]<|.cs (decide (a0.N ≥ 1)) (.kg 3<|.kg 3<|.kg 3<|.kg 3<|.rt (decide (a0.N ≤ 99)))<|.kg 3<|.kg 3<|.kg 3<|.kg 3<|.rt false)<|.kg 2<|.kg 2<|.kg 2<|.kg 2<|.br (a0.Do == 4) (.cs (decide (a0.N ≥ 1)) (.kg 4<|.kg 4<|.kg 4<|.kg 4<|.rt (decide (a0.N ≤ 99)))<|.kg 4<|.kg 4<|.kg 4<|.kg 4<|.rt false)<|.rt (a0.N == 0)
def Z7e : LF Empty Bool := .z 136 [.t 2] false (fun r => []) (fun r => (wB r))
def Z3t (a0 : Za3) : Option Bool := Z7e.run (Z7d a0)
theorem Zaju (a0 : Za3) {r : Bool} (h : Z3t a0 = some r) : Fn PR 136 [(wA (Zbu a0))] (wB r) := Z7e.fn h
inductive Zoh where
 | L0 (E0 : Za3) (v3 : Bool) (v4 : Bool)
 | L1 (E0 : Za3) (v3 : Bool)
 | L2 (E0 : Za3) (v3 : Bool) (v4 : Bool) (v109 : Bool)
def Zot (E0 : Za3) (v3 : Bool) (v4 : Bool) (v109 : Bool) : LT Zoh Bool :=
.br v109 (.cs v4 (.kg 1<|.kg 1<|.kg 1<|.kg 1<|.cs (decide (E0.Who ≥ 0)) (.kg 2<|.kg 2<|.kg 2<|.kg 2<|.cs (decide (E0.Who ≤ 2)) (.kg 3<|.kg 3<|.rt v3)<|.kg 3<|.kg 3<|.rt false)<|.kg 2<|.kg 2<|.kg 2<|.kg 2<|.kb false<|.kb false<|.rt false)<|.kg 1<|.kg 1<|.kg 1<|.kg 1<|.kb false<|.kb false<|.kb false<|.kb false<|.kb false<|.kb false<|.rt false)<|.rt false
def Zlg (E0 : Za3) (v3 : Bool) : LT Zoh Bool :=
.cs (E0.Who == 0) (.kg 0<|.kg 0<|.kg 0<|.call (Zvi E0.Filter) fun x2=>.kg 0<|.cs x2 (.kg 1<|.kg 1<|.kg 1<|.kg 1<|.kg 1<|.kg 1<|.kg 1<|.kg 1<|.rt true)<|.kg 1<|.kg 1<|.kg 1<|.kg 1<|.cs (E0.Who == 1) (.kg 2<|.kg 2<|.kg 2<|.kg 1<|.kg 2<|.kg 1<|.kb true<|.kg 1<|.kb true<|.kg 1<|.rt v3)<|.kg 2<|.kg 2<|.kg 2<|.kg 1<|.kg 2<|.kg 1<|.cs (E0.Who == 2) (.kg 3<|.kg 1<|.kg 3<|.kg 1<|.rt v3)<|.kg 3<|.kg 1<|.kg 3<|.kg 1<|.rt false)<|.kg 0<|.kg 0<|.kg 0<|.kg 0<|.kb false<|.kb false<|.kb false<|.kb false<|.cs (E0.Who == 1) (.kg 1<|.kg 1<|.kg 1<|.kb false<|.kg 1<|.kb false<|.kb true<|.kb false<|.kb true<|.kb false<|.rt v3)<|.kg 1<|.kg 1<|.kg 1<|.kb false<|.kg 1<|.kb false<|.cs (E0.Who == 2) (.kg 2<|.kb false<|.kg 2<|.kb false<|.rt v3)<|.kg 2<|.kb false<|.kg 2<|.kb false<|.rt false
def Zou (E0 : Za3) (v3 : Bool) (v4 : Bool) : LT Zoh Bool :=
.br (E0.On == 1) (.cs (E0.Do != 1) (.kg 1<|.kg 1<|.kg 1<|.kg 1<|.cs (E0.Do != 2) (.kg 2<|.kg 2<|.kg 2<|.kg 2<|.cs (E0.Do != 3) (.kg 3<|.kg 3<|.kg 3<|.kg 3<|.br (E0.Do != 4) (.rt false)<|.j0 (.L1 E0 v3) (Zlg E0 v3))<|.kg 3<|.kg 3<|.kg 3<|.kg 3<|.kn [0]<|.j0 (.L1 E0 v3) (Zlg E0 v3))<|.kg 2<|.kg 2<|.kg 2<|.kg 2<|.kb false<|.kb false<|.kb false<|.kb false<|.kn [0]<|.j0 (.L1 E0 v3) (Zlg E0 v3))<|.kg 1<|.kg 1<|.kg 1<|.kg 1<|.kb false<|.kb false<|.kb false<|.kb false<|.kb false<|.kb false<|.kb false<|.kb false<|.kn [0]<|.j0 (.L1 E0 v3) (Zlg E0 v3))<|.br (E0.On == 8) (.cs v4 (.kg 2<|.kg 2<|.kg 2<|.kg 2<|.cs (E0.Who == 0) (.kg 3<|.kg 3<|.kg 3<|.call (Zvi E0.Filter) fun x9=>.kg 3<|.rt x9)<|.kg 3<|.kg 3<|.kg 3<|.kg 3<|.rt false)<|.kg 2<|.kg 2<|.kg 2<|.kg 2<|.kb false<|.kb false<|.kb false<|.kb false<|.rt false)<|.br (E0.On == 3) (.cs (E0.Do == 4) (.kg 3<|.kg 3<|.kg 3<|.kg 3<|.kb true<|.kb true<|.kb true<|.kb true<|.cs (decide (E0.Who ≥ 0)) (.kg 4<|.kg 4<|.kg 4<|.kg 4<|.cs (decide (E0.Who ≤ 2)) (.kg 5<|.kg 5<|.rt v3)<|.kg 5<|.kg 5<|.rt false)<|.kg 4<|.kg 4<|.kg 4<|.kg 4<|.kb false<|.kb false<|.rt false)<|.kg 3<|.kg 3<|.kg 3<|.kg 3<|.cs (E0.Do == 8) (.kg 4<|.kg 4<|.kg 4<|.kg 4<|.cs (decide (E0.Who ≥ 0)) (.kg 5<|.kg 5<|.kg 5<|.kg 5<|.cs (decide (E0.Who ≤ 2)) (.kg 6<|.kg 6<|.rt v3)<|.kg 6<|.kg 6<|.rt false)<|.kg 5<|.kg 5<|.kg 5<|.kg 5<|.kb false<|.kb false<|.rt false)<|.kg 4<|.kg 4<|.kg 4<|.kg 4<|.kb false<|.kb false<|.kb false<|.kb false<|.kb false<|.kb false<|.rt false)<|.br (E0.On == 4) (.j0 (.L2 E0 v3 v4 (E0.On == 4)) (Zot E0 v3 v4 (E0.On == 4)))<|.br (E0.On == 5) (.j0 (.L2 E0 v3 v4 (E0.On == 5)) (Zot E0 v3 v4 (E0.On == 5)))<|.j0 (.L2 E0 v3 v4 (E0.On == 10)) (Zot E0 v3 v4 (E0.On == 10))
def Zajv (a0 : Za3) : LT Zoh Bool :=
.lb 1001<|.br (a0.On == 2) (.call (Zajt a0) fun x2=>.rt x2)<|.call (Zaju a0) fun x4=>.br (!x4) (.rt false)<|.cs (a0.Do == 3) (.kg 2<|.kg 2<|.kg 2<|.kg 2<|.kb true<|.kb true<|.kb true<|.kb true<|.jn 0 (.L0 a0 (Zw (Zq a0.Filter) (Zq (⟨0, 0, 0, 0, 0, 0, 0, ([] : List UInt8), 0, 0, (⟨0, 0⟩ : Zc), (⟨0, 0⟩ : Zc), (⟨0, 0⟩ : Zc)⟩ : Zh))) true) [.relab 1001 30000000] (Zou a0 (Zw (Zq a0.Filter) (Zq (⟨0, 0, 0, 0, 0, 0, 0, ([] : List UInt8), 0, 0, (⟨0, 0⟩ : Zc), (⟨0, 0⟩ : Zc), (⟨0, 0⟩ : Zc)⟩ : Zh))) true))<|.kg 2<|.kg 2<|.kg 2<|.kg 2<|.cs (a0.Do == 4) (.kg 3<|.kg 3<|.kg 3<|.kg 3<|.jn 0 (.L0 a0 (Zw (Zq a0.Filter) (Zq (⟨0, 0, 0, 0, 0, 0, 0, ([] : List UInt8), 0, 0, (⟨0, 0⟩ : Zc), (⟨0, 0⟩ : Zc), (⟨0, 0⟩ : Zc)⟩ : Zh))) true) [.relab 1001 30000000] (Zou a0 (Zw (Zq a0.Filter) (Zq (⟨0, 0, 0, 0, 0, 0, 0, ([] : List UInt8), 0, 0, (⟨0, 0⟩ : Zc), (⟨0, 0⟩ : Zc), (⟨0, 0⟩ : Zc)⟩ : Zh))) true))<|.kg 3<|.kg 3<|.kg 3<|.kg 3<|.jn 0 (.L0 a0 (Zw (Zq a0.Filter) (Zq (⟨0, 0, 0, 0, 0, 0, 0, ([] : List UInt8), 0, 0, (⟨0, 0⟩ : Zc), (⟨0, 0⟩ : Zc), (⟨0, 0⟩ : Zc)⟩ : Zh))) (a0.Do == 8)) [.relab 1001 30000000] (Zou a0 (Zw (Zq a0.Filter) (Zq (⟨0, 0, 0, 0, 0, 0, 0, ([] : List UInt8), 0, 0, (⟨0, 0⟩ : Zc), (⟨0, 0⟩ : Zc), (⟨0, 0⟩ : Zc)⟩ : Zh))) (a0.Do == 8))
def Zajw : LF Zoh Bool := ⟨114, [.t 2], false, fun | .L0 .. => [1,1,1,1,1] | .L1 .. => [1,1,1,1,1,0,1,4,1,2,1] | .L2 .. => [1,1,1,1,1,0,1,4,1,3,1,3,1,3,1],
 fun | .L0 E0 v3 v4 => ⟨127, [(1, (.bptr 30000000 0)), (3, (wB v3)), (4, (wB v4))], [(30000000, .box (bx (Zbu E0)))]⟩ | .L1 E0 v3 => ⟨127, [(1, (.bptr 30000000 0)), (3, (wB v3))], [(30000000, .box (bx (Zbu E0)))]⟩ | .L2 E0 v3 v4 v109 => ⟨127, [(1, (.bptr 30000000 0)), (3, (wB v3)), (4, (wB v4)), (109, (wB v109))], [(30000000, .box (bx (Zbu E0)))]⟩,
 fun r => [], fun r => (wB r), fun | .L0 E0 v3 v4 => Zou E0 v3 v4 | .L1 E0 v3 => Zlg E0 v3 | .L2 E0 v3 v4 v109 => Zot E0 v3 v4 v109⟩
def Zajx (a0 : Za3) : Option Bool := Zajw.run (Zajv a0)
theorem Zap7 (a0 : Za3) {r : Bool} (h : Zajx a0 = some r) : Fn PR 114 [(wA (Zbu a0))] (wB r) := Zajw.fn h
def Zabw (a0 : Zaz) : LT Empty Bool :=
.lb 1001<|.br (!a0.Object) (.cs a0.Player (.kg 1<|.kg 1<|.kg 1<|.kg 1<|.kg 1<|.rt (Zw (Zq a0.Filter) (Zq (⟨0, 0, 0, 0, 0, 0, 0, ([] : List UInt8), 0, 0, (⟨0, 0⟩ : Zc), (⟨0, 0⟩ : Zc), (⟨0, 0⟩ : Zc)⟩ : Zh))))<|.kg 1<|.kg 1<|.kg 1<|.kg 1<|.kg 1<|.rt false)<|.call (Zhe a0.Filter) fun x3=>.cs x3 (.kg 1<|.kg 1<|.kg 1<|.cs (a0.Filter.Zone == 0) (.kg 2<|.kg 2<|.kg 1<|.kg 2<|.kg 1<|.kb true<|.kb true<|.kg 1<|.kb true<|.kg 1<|.rt true)<|.kg 2<|.kg 2<|.kg 1<|.kg 2<|.kg 1<|.cs (a0.Filter.Zone == 3) (.kg 3<|.kg 3<|.kg 1<|.kg 3<|.kg 1<|.rt true)<|.kg 3<|.kg 3<|.kg 1<|.kg 3<|.kg 1<|.rt (a0.Filter.Zone == 5))<|.kg 1<|.kg 1<|.kg 1<|.kg 1<|.kg 1<|.kg 1<|.kg 1<|.rt false
def Zabx : LF Empty Bool := .z 138 [.t 2] false (fun r => []) (fun r => (wB r))
def Z88 (a0 : Zaz) : Option Bool := Zabx.run (Zabw a0)
theorem Zamx (a0 : Zaz) {r : Bool} (h : Z88 a0 = some r) : Fn PR 138 [(wA (Zx a0))] (wB r) := Zabx.fn h
inductive Zm9 where
 | L0 (v0 : (List Zaz)) (v3 : Int)
def Zvj (v0 : (List Zaz)) (v3 : Int) : LT Zm9 Bool :=
.len Zx v0<|.br (decide (v3 < (v0.length : Int))) (.idx Zx v0 v3 fun x3=>.call (Zamx x3) fun x5=>.br (!x5) (.rt false)<|.g0 (.L0 v0 (IntKind.wrap .i64 (v3 + 1))))<|.len Zx v0<|.rt (decide ((v0.length : Int) ≤ 4))
def Z7f (a0 : (List Zaz)) : LT Zm9 Bool :=
.g0 (.L0 a0 0)
def Z7g : LF Zm9 Bool := ⟨115, [.t 2], false, fun | .L0 .. => [1,0,1,4],
 fun | .L0 v0 v3 => ⟨19, [(0, (wL Zx v0)), (3, (wI v3))], []⟩,
 fun r => [], fun r => (wB r), fun | .L0 v0 v3 => Zvj v0 v3⟩
def Z3u (a0 : (List Zaz)) : Option Bool := Z7g.run (Z7f a0)
theorem Zajy (a0 : (List Zaz)) {r : Bool} (h : Z3u a0 = some r) : Fn PR 115 [(wL Zx a0)] (wB r) := Z7g.fn h
def Zaby (a0 : Int) : LT Empty (List UInt8) :=
.cs (decide (a0 < 1)) (.kg 0<|.kg 0<|.kg 0<|.kn [0]<|.rt ([] : List UInt8))<|.kg 0<|.kg 0<|.kg 0<|.br (decide (a0 > 26)) (.rt ([] : List UInt8))<|.dr [.lit]<|.idx cS [([100, 97, 109, 97, 103, 101] : List UInt8), ([100, 101, 115, 116, 114, 111, 121] : List UInt8), ([109, 111, 118, 101] : List UInt8), ([100, 114, 97, 119] : List UInt8), ([100, 105, 115, 99, 97, 114, 100] : List UInt8), ([103, 97, 105, 110] : List UInt8), ([108, 111, 115, 101] : List UInt8), ([116, 97, 112] : List UInt8), ([117, 110, 116, 97, 112] : List UInt8), ([112, 117, 116] : List UInt8), ([116, 97, 107, 101] : List UInt8), ([99, 114, 101, 97, 116, 101] : List UInt8), ([109, 111, 100] : List UInt8), ([109, 97, 110, 97] : List UInt8), ([99, 111, 117, 110, 116, 101, 114] : List UInt8), ([99, 111, 112, 121] : List UInt8), ([98, 101, 99, 111, 109, 101] : List UInt8), ([115, 97, 99, 114, 105, 102, 105, 99, 101] : List UInt8), ([109, 105, 108, 108] : List UInt8), ([115, 99, 114, 121] : List UInt8), ([115, 101, 97, 114, 99, 104] : List UInt8), ([115, 104, 105, 101, 108, 100] : List UInt8), ([116, 117, 114, 110] : List UInt8), ([119, 105, 110] : List UInt8), ([100, 101, 102, 101, 97, 116] : List UInt8), ([118, 101, 110, 111, 109] : List UInt8)] (IntKind.wrap .i64 (a0 - 1)) fun x6=>.rt x6
def Zabz : LF Empty (List UInt8) := .z 148 [.t 2] false (fun r => []) (fun r => (wS r))
def Z89 (a0 : Int) : Option (List UInt8) := Zabz.run (Zaby a0)
theorem Zamy (a0 : Int) {r : (List UInt8)} (h : Z89 a0 = some r) : Fn PR 148 [(wI a0)] (wS r) := Zabz.fn h
inductive Zmj where
 | L0 (v3 : Int) (v4 : Bool)
 | L1 (v3 : Int) (v14 : Bool)
def Zna (v3 : Int) (v14 : Bool) : LT Zmj (List UInt8) :=
.br v14 (.rt ([114, 107, 97] : List UInt8))<|.br (v3 == 12) (.rt ([114, 99, 97] : List UInt8))<|.br (v3 == 13) (.rt ([114, 109] : List UInt8))<|.br (v3 == 14) (.rt ([112] : List UInt8))<|.br (v3 == 18) (.rt ([114, 97, 102] : List UInt8))<|.br (v3 == 20) (.rt ([97] : List UInt8))<|.br (v3 == 21) (.rt ([102] : List UInt8))<|.br (v3 == 23) (.kn [8]<|.rt ([] : List UInt8))<|.br (v3 == 24) (.rt ([] : List UInt8))<|.rt ([114, 97] : List UInt8)
def Zgf (v3 : Int) (v4 : Bool) : LT Zmj (List UInt8) :=
.br v4 (.rt ([114] : List UInt8))<|.br (v3 == 3) (.rt ([114, 122] : List UInt8))<|.br (v3 == 10) (.j0 (.L1 v3 (v3 == 10)) (Zna v3 (v3 == 10)))<|.j0 (.L1 v3 (v3 == 11)) (Zna v3 (v3 == 11))
def Zab0 (a0 : Int) : LT Zmj (List UInt8) :=
.br (a0 == 2) (.j0 (.L0 a0 (a0 == 2)) (Zgf a0 (a0 == 2)))<|.br (a0 == 8) (.j0 (.L0 a0 (a0 == 8)) (Zgf a0 (a0 == 8)))<|.br (a0 == 9) (.j0 (.L0 a0 (a0 == 9)) (Zgf a0 (a0 == 9)))<|.br (a0 == 15) (.j0 (.L0 a0 (a0 == 15)) (Zgf a0 (a0 == 15)))<|.br (a0 == 16) (.j0 (.L0 a0 (a0 == 16)) (Zgf a0 (a0 == 16)))<|.br (a0 == 17) (.j0 (.L0 a0 (a0 == 17)) (Zgf a0 (a0 == 17)))<|.j0 (.L0 a0 (a0 == 25)) (Zgf a0 (a0 == 25))
def Zab1 : LF Zmj (List UInt8) := ⟨171, [.t 2], false, fun | .L0 .. => [1,0,1,4,1] | .L1 .. => [1,0,1,4,1,3,1,3,1],
 fun | .L0 v3 v4 => ⟨32, [(3, (wI v3)), (4, (wB v4))], []⟩ | .L1 v3 v14 => ⟨32, [(3, (wI v3)), (14, (wB v14))], []⟩,
 fun r => [], fun r => (wS r), fun | .L0 v3 v4 => Zgf v3 v4 | .L1 v3 v14 => Zna v3 v14⟩
def Z9a (a0 : Int) : Option (List UInt8) := Zab1.run (Zab0 a0)
theorem Zamz (a0 : Int) {r : (List UInt8)} (h : Z9a a0 = some r) : Fn PR 171 [(wI a0)] (wS r) := Zab1.fn h
inductive Zpl where
 | L0 (v1 : Int) (v5 : (List UInt8)) (v6 : Int)
def Zyi (v1 : Int) (v5 : (List UInt8)) (v6 : Int) : LT Zpl Bool :=
.lenS v5<|.br (decide (v6 < (v5.length : Int))) (.idxS v5 v6 fun x3=>.br ((UInt8.toNat x3 : Int) == v1) (.rt true)<|.g0 (.L0 v1 v5 (IntKind.wrap .i64 (v6 + 1))))<|.rt false
def Zab2 (a0 : Int) (a1 : Int) : LT Zpl Bool :=
.call (Zamz a0) fun x1=>.g0 (.L0 a1 x1 0)
def Zab3 : LF Zpl Bool := ⟨149, [.t 4], false, fun | .L0 .. => [1,1,0,1,4],
 fun | .L0 v1 v5 v6 => ⟨20, [(1, (.t (.int .u8 v1))), (5, (wS v5)), (6, (wI v6))], []⟩,
 fun r => [], fun r => (wB r), fun | .L0 v1 v5 v6 => Zyi v1 v5 v6⟩
def Z9b (a0 : Int) (a1 : Int) : Option Bool := Zab3.run (Zab2 a0 a1)
theorem Zhw (a0 : Int) (a1 : Int) {r : Bool} (h : Z9b a0 a1 = some r) : Fn PR 149 [(wI a0), (.t (.int .u8 a1))] (wB r) := Zab3.fn h
def Zzs (a0 : Int) : LT Empty Bool :=
.cs (a0 == 3) (.kg 0<|.kg 0<|.kg 0<|.rt true)<|.kg 0<|.kg 0<|.kg 0<|.rt (a0 == 8)
def Zzt : LF Empty Bool := .z 172 [.t 2] false (fun r => []) (fun r => (wB r))
def Zvk (a0 : Int) : Option Bool := Zzt.run (Zzs a0)
theorem Zab4 (a0 : Int) {r : Bool} (h : Zvk a0 = some r) : Fn PR 172 [(wI a0)] (wB r) := Zzt.fn h
inductive Zqp where
 | L0 (v1 : Int) (E0 : Zeq)
 | L1 (E0 : Zeq)
def Zrz (E0 : Zeq) : LT Zqp Bool :=
.br (E0.Kind == 4) (.call (Zhe E0.Filter) fun x2=>.rt x2)<|.rt (Zw (Zq E0.Filter) (Zq (⟨0, 0, 0, 0, 0, 0, 0, ([] : List UInt8), 0, 0, (⟨0, 0⟩ : Zc), (⟨0, 0⟩ : Zc), (⟨0, 0⟩ : Zc)⟩ : Zh)))
def Zr0 (v1 : Int) (E0 : Zeq) : LT Zqp Bool :=
.cs (decide (E0.Kind < 1)) (.kg 0<|.kg 0<|.kg 0<|.kg 0<|.kn [0]<|.rt false)<|.kg 0<|.kg 0<|.kg 0<|.kg 0<|.br (decide (E0.Kind > 8)) (.rt false)<|.call (Zab4 E0.Kind) fun x3=>.br x3 (.cs (decide (E0.N < 1)) (.kg 3<|.kg 3<|.kg 3<|.kg 3<|.kg 3<|.kn [0]<|.rt false)<|.kg 3<|.kg 3<|.kg 3<|.kg 3<|.kg 3<|.br (decide (E0.N > v1)) (.rt false)<|.j0 (.L1 E0) (Zrz E0))<|.br (E0.N != 0) (.rt false)<|.j0 (.L1 E0) (Zrz E0)
def Zajz (a0 : Zeq) (a1 : Int) : LT Zqp Bool :=
.lb 1002<|.br (decide (a1 > 4)) (.jn 0 (.L0 4 a0) [.relab 1002 30000000] (Zr0 4 a0))<|.jn 0 (.L0 a1 a0) [.relab 1002 30000000] (Zr0 a1 a0)
def Zaj0 : LF Zqp Bool := ⟨150, [.t 4], false, fun | .L0 .. => [1,1] | .L1 .. => [1,1,1,1],
 fun | .L0 v1 E0 => ⟨40, [(1, (wI v1)), (2, (.bptr 30000000 0))], [(30000000, .box (bx (Zcu E0)))]⟩ | .L1 E0 => ⟨40, [(2, (.bptr 30000000 0))], [(30000000, .box (bx (Zcu E0)))]⟩,
 fun r => [], fun r => (wB r), fun | .L0 v1 E0 => Zr0 v1 E0 | .L1 E0 => Zrz E0⟩
def Zaj1 (a0 : Zeq) (a1 : Int) : Option Bool := Zaj0.run (Zajz a0 a1)
theorem Zap8 (a0 : Zeq) (a1 : Int) {r : Bool} (h : Zaj1 a0 a1 = some r) : Fn PR 150 [(wA (Zcu a0)), (wI a1)] (wB r) := Zaj0.fn h
def Zab5 (a0 : Int) : LT Empty (List UInt8) :=
.br (a0 == 0) (.rt ([112, 108, 117, 115] : List UInt8))<|.br (a0 == 1) (.rt ([109, 105, 110, 117, 115] : List UInt8))<|.br (a0 == 2) (.rt ([99, 104, 97, 114, 103, 101] : List UInt8))<|.rt ([] : List UInt8)
def Zab6 : LF Empty (List UInt8) := .z 151 [.t 2] false (fun r => []) (fun r => (wS r))
def Z9c (a0 : Int) : Option (List UInt8) := Zab6.run (Zab5 a0)
theorem Z7h (a0 : Int) {r : (List UInt8)} (h : Z9c a0 = some r) : Fn PR 151 [(wI a0)] (wS r) := Zab6.fn h
def Zaj2 (a0 : Zcf) : LT Empty Bool :=
.lb 1001<|.lb 1003<|.br (a0.Kind == 0) (.cs (decide (a0.N < 0)) (.kg 1<|.kg 1<|.kg 1<|.kg 1<|.kn [0]<|.rt false)<|.kg 1<|.kg 1<|.kg 1<|.kg 1<|.br (decide (a0.N > 1000000)) (.rt false)<|.cs (decide (a0.Kind ≥ 0)) (.kg 3<|.kg 3<|.kg 3<|.kg 3<|.cs (decide (a0.Kind ≤ 7)) (.kg 4<|.kg 4<|.kg 4<|.kg 4<|.kg 4<|.kg 4<|.rt (Zw (Zbc (⟨a0.Kind, 0, a0.Counter, a0.Filter⟩ : Zcf)) (Zbc (⟨a0.Kind, 0, 0, (⟨0, 0, 0, 0, 0, 0, 0, ([] : List UInt8), 0, 0, (⟨0, 0⟩ : Zc), (⟨0, 0⟩ : Zc), (⟨0, 0⟩ : Zc)⟩ : Zh)⟩ : Zcf))))<|.kg 4<|.kg 4<|.kg 4<|.kg 4<|.kg 4<|.kg 4<|.rt false)<|.kg 3<|.kg 3<|.kg 3<|.kg 3<|.kb false<|.kb false<|.kb false<|.kb false<|.kb false<|.kb false<|.rt false)<|.br (a0.Kind == 2) (.cs (decide (a0.N < 1)) (.kg 2<|.kg 2<|.kg 2<|.kg 2<|.kb true<|.kb true<|.kb true<|.kb true<|.kb true<|.kn [0]<|.rt false)<|.kg 2<|.kg 2<|.kg 2<|.kg 2<|.cs (decide (a0.N > 99)) (.kg 3<|.kg 3<|.kg 3<|.kg 3<|.kg 3<|.kn [0]<|.rt false)<|.kg 3<|.kg 3<|.kg 3<|.call (Zhe a0.Filter) fun x9=>.kg 3<|.kg 3<|.br (!x9) (.rt false)<|.cs (decide (a0.Kind ≥ 0)) (.kg 5<|.kg 5<|.kg 5<|.kg 5<|.cs (decide (a0.Kind ≤ 7)) (.kg 6<|.kg 6<|.kg 6<|.kg 6<|.kg 6<|.kg 6<|.rt (Zw (Zbc (⟨a0.Kind, 0, a0.Counter, (⟨0, 0, 0, 0, 0, 0, 0, ([] : List UInt8), 0, 0, (⟨0, 0⟩ : Zc), (⟨0, 0⟩ : Zc), (⟨0, 0⟩ : Zc)⟩ : Zh)⟩ : Zcf)) (Zbc (⟨a0.Kind, 0, 0, (⟨0, 0, 0, 0, 0, 0, 0, ([] : List UInt8), 0, 0, (⟨0, 0⟩ : Zc), (⟨0, 0⟩ : Zc), (⟨0, 0⟩ : Zc)⟩ : Zh)⟩ : Zcf))))<|.kg 6<|.kg 6<|.kg 6<|.kg 6<|.kg 6<|.kg 6<|.rt false)<|.kg 5<|.kg 5<|.kg 5<|.kg 5<|.kb false<|.kb false<|.kb false<|.kb false<|.kb false<|.kb false<|.rt false)<|.br (a0.Kind == 4) (.call (Z7h a0.Counter) fun x15=>.br (x15 == ([] : List UInt8)) (.rt false)<|.cs (decide (a0.Kind ≥ 0)) (.kg 4<|.kg 4<|.kg 4<|.kg 4<|.cs (decide (a0.Kind ≤ 7)) (.kg 5<|.kg 5<|.kg 5<|.kg 5<|.kg 5<|.kg 5<|.rt (Zw (Zbc (⟨a0.Kind, a0.N, 0, a0.Filter⟩ : Zcf)) (Zbc (⟨a0.Kind, 0, 0, (⟨0, 0, 0, 0, 0, 0, 0, ([] : List UInt8), 0, 0, (⟨0, 0⟩ : Zc), (⟨0, 0⟩ : Zc), (⟨0, 0⟩ : Zc)⟩ : Zh)⟩ : Zcf))))<|.kg 5<|.kg 5<|.kg 5<|.kg 5<|.kg 5<|.kg 5<|.rt false)<|.kg 4<|.kg 4<|.kg 4<|.kg 4<|.kb false<|.kb false<|.kb false<|.kb false<|.kb false<|.kb false<|.rt false)<|.cs (decide (a0.Kind ≥ 0)) (.kg 3<|.kg 3<|.kg 3<|.kg 3<|.cs (decide (a0.Kind ≤ 7)) (.kg 4<|.kg 4<|.kg 4<|.kg 4<|.kg 4<|.kg 4<|.rt (Zw (Zbc a0) (Zbc (⟨a0.Kind, 0, 0, (⟨0, 0, 0, 0, 0, 0, 0, ([] : List UInt8), 0, 0, (⟨0, 0⟩ : Zc), (⟨0, 0⟩ : Zc), (⟨0, 0⟩ : Zc)⟩ : Zh)⟩ : Zcf))))<|.kg 4<|.kg 4<|.kg 4<|.kg 4<|.kg 4<|.kg 4<|.rt false)<|.kg 3<|.kg 3<|.kg 3<|.kg 3<|.kb false<|.kb false<|.kb false<|.kb false<|.kb false<|.kb false<|.rt false
def Zaj3 : LF Empty Bool := .z 152 [.t 2] false (fun r => []) (fun r => (wB r))
def Zaj4 (a0 : Zcf) : Option Bool := Zaj3.run (Zaj2 a0)
theorem Zap9 (a0 : Zcf) {r : Bool} (h : Zaj4 a0 = some r) : Fn PR 152 [(wA (Zbc a0))] (wB r) := Zaj3.fn h
def Zab7 (a0 : (List Zj)) : LT Empty Bool :=
.call (Zpk a0) fun x1=>.rt (!(x1 == ([] : List UInt8)))
def Zab8 : LF Empty Bool := .z 153 [.t 2] false (fun r => []) (fun r => (wB r))
def Z9d (a0 : (List Zj)) : Option Bool := Zab8.run (Zab7 a0)
theorem Zam0 (a0 : (List Zj)) {r : Bool} (h : Z9d a0 = some r) : Fn PR 153 [(wL Zn a0)] (wB r) := Zab8.fn h
inductive Zpm where
 | L0 (E0 : (A6 Int)) (E1 : Zay) (E2 : Zay) (v4 : Int)
def Zyj (E0 : (A6 Int)) (E1 : Zay) (E2 : Zay) (v4 : Int) : LT Zpm Zay :=
.br (decide (v4 < 5)) (.idA (Zg.int .i64) (A6.list E0) (IntKind.wrap .i64 (v4 + 1)) (bx ((cA6 (cI .i64)) E0)) 0 6 fun x4=>.ldC (Zg.int .i64) 16 x4 0<|.idA (Zg.int .i64) (A5.list E2.Color) v4 (bx (Zbo E2)) 2 7 fun x6=>.stA (A5.set? E2.Color v4 x4) (fun h => Zas8 (Zg.int .i64) ((bx (Zbo E2)).take 2) ((bx (Zbo E2)).drop 7) h) fun x8=>.g0 (.L0 E0 E1 (⟨E2.Generic, E2.X, x8⟩ : Zay) (IntKind.wrap .i64 (v4 + 1))))<|.rt E2
def Zab9 (a0 : (A6 Int)) : LT Zpm Zay :=
.lb 1001<|.lb 1002<|.idA (Zg.int .i64) (A6.list a0) 0 (bx ((cA6 (cI .i64)) a0)) 0 6 fun x1=>.ldC (Zg.int .i64) 6 x1 0<|.lb 1003<|.go (.L0 a0 (⟨0, 0, (⟨0, 0, 0, 0, 0⟩ : (A5 Int))⟩ : Zay) (⟨x1, 0, (⟨0, 0, 0, 0, 0⟩ : (A5 Int))⟩ : Zay) 0) [.relab 1001 30000000, .relab 1002 30000001, .relab 1003 30000002]
def Zaca : LF Zpm Zay := ⟨174, [.c 2 84 true 7], false, fun | .L0 .. => [1,1,0,1,4],
 fun | .L0 E0 E1 E2 v4 => ⟨20, [(1, (.bptr 30000000 0)), (2, (.bptr 30000001 0)), (3, (.bptr 30000002 0)), (4, (wI v4))], [(30000000, .box (bx ((cA6 (cI .i64)) E0))), (30000001, .box (bx (Zbo E1))), (30000002, .box (bx (Zbo E2)))]⟩,
 fun r => [], fun r => (wA (Zbo r)), fun | .L0 E0 E1 E2 v4 => Zyj E0 E1 E2 v4⟩
def Z9e (a0 : (A6 Int)) : Option Zay := Zaca.run (Zab9 a0)
theorem Zam1 (a0 : (A6 Int)) {r : Zay} (h : Z9e a0 = some r) : Fn PR 174 [(wA ((cA6 (cI .i64)) a0))] (wA (Zbo r)) := Zaca.fn h
inductive Zjp where
 | L0 (E0 : Zay) (v3 : (List UInt8)) (v4 : Int)
 | L1 (E0 : Zay) (v3 : (List UInt8)) (v5 : Int)
 | L2 (E0 : Zay) (v3 : (List UInt8)) (v5 : Int) (v6 : Int)
def Zyk (E0 : Zay) (v3 : (List UInt8)) (v4 : Int) : LT Zjp (List UInt8) :=
.br (decide (v4 < E0.X)) (.ok (v3.length + ([88] : List UInt8).length ≤ 9223372036854775807)<|.g0 (.L0 E0 (v3 ++ ([88] : List UInt8)) (IntKind.wrap .i64 (v4 + 1))))<|.br (E0.Generic != 0) (.call (Zkl E0.Generic) fun x7=>.ok (v3.length + x7.length ≤ 9223372036854775807)<|.g0 (.L1 E0 (v3 ++ x7) 0))<|.g0 (.L1 E0 v3 0)
def Zyl (E0 : Zay) (v3 : (List UInt8)) (v5 : Int) : LT Zjp (List UInt8) :=
.br (decide (v5 < 5)) (.g0 (.L2 E0 v3 v5 0))<|.br (v3 == ([] : List UInt8)) (.rt ([48] : List UInt8))<|.rt v3
def Zym (E0 : Zay) (v3 : (List UInt8)) (v5 : Int) (v6 : Int) : LT Zjp (List UInt8) :=
.idA (Zg.int .i64) (A5.list E0.Color) v5 (bx (Zbo E0)) 2 7 fun x1=>.ldC (Zg.int .i64) 34 x1 0<|.br (decide (v6 < x1)) (.slS ([65, 67, 74, 82, 69] : List UInt8) v5 (IntKind.wrap .i64 (v5 + 1)) fun x6=>.ok (v3.length + x6.length ≤ 9223372036854775807)<|.g0 (.L2 E0 (v3 ++ x6) v5 (IntKind.wrap .i64 (v6 + 1))))<|.g0 (.L1 E0 v3 (IntKind.wrap .i64 (v5 + 1)))
def Zacb (a0 : Zay) : LT Zjp (List UInt8) :=
.lb 1001<|.call (Z3b a0) fun x1=>.br (!x1) (.rt ([] : List UInt8))<|.go (.L0 a0 ([] : List UInt8) 0) [.relab 1001 30000000]
def Zacc : LF Zjp (List UInt8) := ⟨173, [.t 2], false, fun | .L0 .. => [1,1,1,0,1,4] | .L1 .. => [1,1,1,1,1,0,1,4] | .L2 .. => [1,1,1,1,1,0,1,4,5,1,0,4,1,4],
 fun | .L0 E0 v3 v4 => ⟨47, [(1, (.bptr 30000000 0)), (3, (wS v3)), (4, (wI v4))], [(30000000, .box (bx (Zbo E0)))]⟩ | .L1 E0 v3 v5 => ⟨47, [(1, (.bptr 30000000 0)), (3, (wS v3)), (5, (wI v5))], [(30000000, .box (bx (Zbo E0)))]⟩ | .L2 E0 v3 v5 v6 => ⟨47, [(1, (.bptr 30000000 0)), (3, (wS v3)), (5, (wI v5)), (6, (wI v6))], [(30000000, .box (bx (Zbo E0)))]⟩,
 fun r => [], fun r => (wS r), fun | .L0 E0 v3 v4 => Zyk E0 v3 v4 | .L1 E0 v3 v5 => Zyl E0 v3 v5 | .L2 E0 v3 v5 v6 => Zym E0 v3 v5 v6⟩
def Z9f (a0 : Zay) : Option (List UInt8) := Zacc.run (Zacb a0)
theorem Zam2 (a0 : Zay) {r : (List UInt8)} (h : Z9f a0 = some r) : Fn PR 173 [(wA (Zbo a0))] (wS r) := Zacc.fn h
def Zzu (a0 : (A6 Int)) : LT Empty (List UInt8) :=
.lb 1001<|.call (Zam1 a0) fun x1=>.call (Zam2 x1) fun x3=>.rt x3
def Zzv : LF Empty (List UInt8) := .z 154 [.t 2] false (fun r => []) (fun r => (wS r))
def Zvl (a0 : (A6 Int)) : Option (List UInt8) := Zzv.run (Zzu a0)
theorem Zacd (a0 : (A6 Int)) {r : (List UInt8)} (h : Zvl a0 = some r) : Fn PR 154 [(wA ((cA6 (cI .i64)) a0))] (wS r) := Zzv.fn h
def Z3v (a0 : Int) (a1 : Zh) : LT Empty Bool :=
.lb 1003<|.br (a0 == 21) (.call (Zhe a1) fun x2=>.cs x2 (.kg 1<|.kg 1<|.kg 1<|.kg 1<|.kg 1<|.rt (a1.Zone == 2))<|.kg 1<|.kg 1<|.kg 1<|.kg 1<|.kg 1<|.rt false)<|.call (Zhe a1) fun x5=>.cs x5 (.kg 1<|.kg 1<|.kg 1<|.kg 1<|.kg 1<|.rt (a1.Zone == 0))<|.kg 1<|.kg 1<|.kg 1<|.kg 1<|.kg 1<|.rt false
def Z3w : LF Empty Bool := .z 155 [.t 4] false (fun r => []) (fun r => (wB r))
def Z0v (a0 : Int) (a1 : Zh) : Option Bool := Z3w.run (Z3v a0 a1)
theorem Zagw (a0 : Int) (a1 : Zh) {r : Bool} (h : Z0v a0 a1 = some r) : Fn PR 155 [(wI a0), (wA (Zq a1))] (wB r) := Z3w.fn h
inductive Zhn where
 | L0 (E0 : Zl) (v5 : Bool)
 | L1 (E0 : Zl) (v5 : Bool) (v6 : Bool)
 | L2 (E0 : Zl) (v5 : Bool) (v6 : Bool) (v7 : Bool)
 | L3 (E0 : Zl) (v5 : Bool) (v6 : Bool) (v7 : Bool) (v8 : Bool)
 | L4 (E0 : Zl) (v5 : Bool) (v6 : Bool) (v7 : Bool) (v8 : Bool) (v9 : Bool)
 | L5 (E0 : Zl) (v5 : Bool) (v6 : Bool) (v7 : Bool) (v8 : Bool) (v9 : Bool) (v10 : Bool)
 | L6 (E0 : Zl) (v5 : Bool) (v6 : Bool) (v7 : Bool) (v8 : Bool) (v9 : Bool) (v10 : Bool) (v11 : Bool)
 | L7 (v5 : Bool) (v6 : Bool) (v7 : Bool) (v8 : Bool) (v9 : Bool) (v10 : Bool) (v11 : Bool) (v12 : Bool)
def Zr1 (v5 : Bool) (v6 : Bool) (v7 : Bool) (v8 : Bool) (v9 : Bool) (v10 : Bool) (v11 : Bool) (v12 : Bool) : LT Zhn Bool :=
.cs v5 (.kg 0<|.kg 0<|.cs v6 (.kg 1<|.kg 1<|.cs v7 (.kg 2<|.kg 2<|.cs v8 (.kg 3<|.kg 3<|.cs v9 (.kg 4<|.kg 4<|.cs v10 (.kg 5<|.kg 5<|.cs v11 (.kg 6<|.kg 6<|.rt v12)<|.kg 6<|.kg 6<|.rt false)<|.kg 5<|.kg 5<|.kb false<|.kb false<|.rt false)<|.kg 4<|.kg 4<|.kb false<|.kb false<|.kb false<|.kb false<|.rt false)<|.kg 3<|.kg 3<|.kb false<|.kb false<|.kb false<|.kb false<|.kb false<|.kb false<|.rt false)<|.kg 2<|.kg 2<|.kb false<|.kb false<|.kb false<|.kb false<|.kb false<|.kb false<|.kb false<|.kb false<|.rt false)<|.kg 1<|.kg 1<|.kb false<|.kb false<|.kb false<|.kb false<|.kb false<|.kb false<|.kb false<|.kb false<|.kb false<|.kb false<|.rt false)<|.kg 0<|.kg 0<|.kb false<|.kb false<|.kb false<|.kb false<|.kb false<|.kb false<|.kb false<|.kb false<|.kb false<|.kb false<|.kb false<|.kb false<|.rt false
def Zov (E0 : Zl) (v5 : Bool) (v6 : Bool) (v7 : Bool) (v8 : Bool) (v9 : Bool) (v10 : Bool) (v11 : Bool) : LT Zhn Bool :=
.call (Zhw E0.Op 102) fun x1=>.br x1 (.call (Zagw E0.Op E0.Filter) fun x4=>.j0 (.L7 v5 v6 v7 v8 v9 v10 v11 x4) (Zr1 v5 v6 v7 v8 v9 v10 v11 x4))<|.j0 (.L7 v5 v6 v7 v8 v9 v10 v11 (Zw (Zq E0.Filter) (Zq (⟨0, 0, 0, 0, 0, 0, 0, ([] : List UInt8), 0, 0, (⟨0, 0⟩ : Zc), (⟨0, 0⟩ : Zc), (⟨0, 0⟩ : Zc)⟩ : Zh)))) (Zr1 v5 v6 v7 v8 v9 v10 v11 (Zw (Zq E0.Filter) (Zq (⟨0, 0, 0, 0, 0, 0, 0, ([] : List UInt8), 0, 0, (⟨0, 0⟩ : Zc), (⟨0, 0⟩ : Zc), (⟨0, 0⟩ : Zc)⟩ : Zh))))
def Zr2 (E0 : Zl) (v5 : Bool) (v6 : Bool) (v7 : Bool) (v8 : Bool) (v9 : Bool) (v10 : Bool) : LT Zhn Bool :=
.call (Zhw E0.Op 112) fun x1=>.br x1 (.cs (!(Zw ((cA6 (cI .i64)) E0.Pool) ((cA6 (cI .i64)) (⟨0, 0, 0, 0, 0, 0⟩ : (A6 Int))))) (.kg 1<|.kg 1<|.kg 1<|.call (Zacd E0.Pool) fun x5=>.kg 1<|.kg 1<|.j0 (.L6 E0 v5 v6 v7 v8 v9 v10 (!(x5 == ([] : List UInt8)))) (Zov E0 v5 v6 v7 v8 v9 v10 (!(x5 == ([] : List UInt8)))))<|.kg 1<|.kg 1<|.kg 1<|.kg 1<|.kg 1<|.j0 (.L6 E0 v5 v6 v7 v8 v9 v10 false) (Zov E0 v5 v6 v7 v8 v9 v10 false))<|.j0 (.L6 E0 v5 v6 v7 v8 v9 v10 (Zw ((cA6 (cI .i64)) E0.Pool) ((cA6 (cI .i64)) (⟨0, 0, 0, 0, 0, 0⟩ : (A6 Int))))) (Zov E0 v5 v6 v7 v8 v9 v10 (Zw ((cA6 (cI .i64)) E0.Pool) ((cA6 (cI .i64)) (⟨0, 0, 0, 0, 0, 0⟩ : (A6 Int)))))
def Zr3 (E0 : Zl) (v5 : Bool) (v6 : Bool) (v7 : Bool) (v8 : Bool) (v9 : Bool) : LT Zhn Bool :=
.len Zn E0.Mods<|.call (Zhw E0.Op 109) fun x2=>.br x2 (.call (Zam0 E0.Mods) fun x5=>.j0 (.L5 E0 v5 v6 v7 v8 v9 x5) (Zr2 E0 v5 v6 v7 v8 v9 x5))<|.j0 (.L5 E0 v5 v6 v7 v8 v9 ((E0.Mods.length : Int) == 0)) (Zr2 E0 v5 v6 v7 v8 v9 ((E0.Mods.length : Int) == 0))
def Zr4 (E0 : Zl) (v5 : Bool) (v6 : Bool) (v7 : Bool) (v8 : Bool) : LT Zhn Bool :=
.call (Zhw E0.Op 97) fun x1=>.br x1 (.call (Zap9 E0.Amount) fun x4=>.j0 (.L4 E0 v5 v6 v7 v8 x4) (Zr3 E0 v5 v6 v7 v8 x4))<|.j0 (.L4 E0 v5 v6 v7 v8 (Zw (Zbc E0.Amount) (Zbc (⟨0, 0, 0, (⟨0, 0, 0, 0, 0, 0, 0, ([] : List UInt8), 0, 0, (⟨0, 0⟩ : Zc), (⟨0, 0⟩ : Zc), (⟨0, 0⟩ : Zc)⟩ : Zh)⟩ : Zcf)))) (Zr3 E0 v5 v6 v7 v8 (Zw (Zbc E0.Amount) (Zbc (⟨0, 0, 0, (⟨0, 0, 0, 0, 0, 0, 0, ([] : List UInt8), 0, 0, (⟨0, 0⟩ : Zc), (⟨0, 0⟩ : Zc), (⟨0, 0⟩ : Zc)⟩ : Zh)⟩ : Zcf))))
def Zow (E0 : Zl) (v5 : Bool) (v6 : Bool) (v7 : Bool) : LT Zhn Bool :=
.call (Zhw E0.Op 99) fun x1=>.br x1 (.call (Z3a E0.Card) fun x4=>.j0 (.L3 E0 v5 v6 v7 x4) (Zr4 E0 v5 v6 v7 x4))<|.j0 (.L3 E0 v5 v6 v7 (E0.Card == ([] : List UInt8))) (Zr4 E0 v5 v6 v7 (E0.Card == ([] : List UInt8)))
def Zlh (E0 : Zl) (v5 : Bool) (v6 : Bool) : LT Zhn Bool :=
.cs (E0.Counter == 0) (.kg 0<|.kg 0<|.kg 0<|.kg 0<|.kg 0<|.kg 0<|.j0 (.L2 E0 v5 v6 true) (Zow E0 v5 v6 true))<|.kg 0<|.kg 0<|.kg 0<|.call (Zhw E0.Op 107) fun x2=>.kg 0<|.cs x2 (.kg 1<|.kg 1<|.kg 1<|.call (Z7h E0.Counter) fun x5=>.kg 1<|.kg 0<|.kg 1<|.kg 0<|.j0 (.L2 E0 v5 v6 (!(x5 == ([] : List UInt8)))) (Zow E0 v5 v6 (!(x5 == ([] : List UInt8)))))<|.kg 1<|.kg 1<|.kg 1<|.kg 1<|.kg 0<|.kg 1<|.kg 0<|.j0 (.L2 E0 v5 v6 false) (Zow E0 v5 v6 false)
def Zr5 (E0 : Zl) (v5 : Bool) : LT Zhn Bool :=
.cs (E0.Zone == 0) (.kg 0<|.kg 0<|.kg 0<|.kg 0<|.kg 0<|.kg 0<|.kg 0<|.kg 0<|.j0 (.L1 E0 v5 true) (Zlh E0 v5 true))<|.kg 0<|.kg 0<|.kg 0<|.call (Zhw E0.Op 122) fun x2=>.kg 0<|.cs x2 (.kg 1<|.kg 1<|.kg 1<|.kg 0<|.kg 1<|.kg 0<|.cs (decide (E0.Zone > 0)) (.kg 2<|.kg 2<|.kg 2<|.kg 0<|.kg 2<|.kg 0<|.j0 (.L1 E0 v5 (decide (E0.Zone ≤ 4))) (Zlh E0 v5 (decide (E0.Zone ≤ 4))))<|.kg 2<|.kg 2<|.kg 2<|.kg 0<|.kg 2<|.kg 0<|.j0 (.L1 E0 v5 false) (Zlh E0 v5 false))<|.kg 1<|.kg 1<|.kg 1<|.kg 0<|.kg 1<|.kg 0<|.kb false<|.kb false<|.kb false<|.kg 0<|.kb false<|.kg 0<|.j0 (.L1 E0 v5 false) (Zlh E0 v5 false)
def Zaj5 (a0 : Zl) (a1 : Int) : LT Zhn Bool :=
.lb 1002<|.call (Zamy a0.Op) fun x1=>.br (x1 == ([] : List UInt8)) (.rt false)<|.call (Zhw a0.Op 114) fun x4=>.br x4 (.call (Zap8 a0.Ref a1) fun x7=>.jn 0 (.L0 a0 x7) [.relab 1002 30000000] (Zr5 a0 x7))<|.jn 0 (.L0 a0 (Zw (Zcu a0.Ref) (Zcu (⟨0, 0, (⟨0, 0, 0, 0, 0, 0, 0, ([] : List UInt8), 0, 0, (⟨0, 0⟩ : Zc), (⟨0, 0⟩ : Zc), (⟨0, 0⟩ : Zc)⟩ : Zh)⟩ : Zeq)))) [.relab 1002 30000000] (Zr5 a0 (Zw (Zcu a0.Ref) (Zcu (⟨0, 0, (⟨0, 0, 0, 0, 0, 0, 0, ([] : List UInt8), 0, 0, (⟨0, 0⟩ : Zc), (⟨0, 0⟩ : Zc), (⟨0, 0⟩ : Zc)⟩ : Zh)⟩ : Zeq))))
def Zaj6 : LF Zhn Bool := ⟨139, [.t 4], false, fun | .L0 .. => [1,1,1,1] | .L1 .. => [1,1,1,1,1] | .L2 .. => [1,1,1,1,1,1] | .L3 .. => [1,1,1,1,1,1,1,1] | .L4 .. => [1,1,1,1,1,1,1,1,1,1] | .L5 .. => [1,1,1,1,1,1,1,1,1,1,1,1] | .L6 .. => [1,1,1,1,1,1,1,1,1,1,1,1,1,1] | .L7 .. => [1,1,1,1,1,1,1,1,1,1,1,1,1,1,1,1],
 fun | .L0 E0 v5 => ⟨138, [(2, (.bptr 30000000 0)), (5, (wB v5))], [(30000000, .box (bx (Zo E0)))]⟩ | .L1 E0 v5 v6 => ⟨138, [(2, (.bptr 30000000 0)), (5, (wB v5)), (6, (wB v6))], [(30000000, .box (bx (Zo E0)))]⟩ | .L2 E0 v5 v6 v7 => ⟨138, [(2, (.bptr 30000000 0)), (5, (wB v5)), (6, (wB v6)), (7, (wB v7))], [(30000000, .box (bx (Zo E0)))]⟩ | .L3 E0 v5 v6 v7 v8 => ⟨138, [(2, (.bptr 30000000 0)), (5, (wB v5)), (6, (wB v6)), (7, (wB v7)), (8, (wB v8))], [(30000000, .box (bx (Zo E0)))]⟩ | .L4 E0 v5 v6 v7 v8 v9 => ⟨138, [(2, (.bptr 30000000 0)), (5, (wB v5)), (6, (wB v6)), (7, (wB v7)), (8, (wB v8)), (9, (wB v9))], [(30000000, .box (bx (Zo E0)))]⟩ | .L5 E0 v5 v6 v7 v8 v9 v10 => ⟨138, [(2, (.bptr 30000000 0)), (5, (wB v5)), (6, (wB v6)), (7, (wB v7)), (8, (wB v8)), (9, (wB v9)), (10, (wB v10))], [(30000000, .box (bx (Zo E0)))]⟩ | .L6 E0 v5 v6 v7 v8 v9 v10 v11 => ⟨138, [(2, (.bptr 30000000 0)), (5, (wB v5)), (6, (wB v6)), (7, (wB v7)), (8, (wB v8)), (9, (wB v9)), (10, (wB v10)), (11, (wB v11))], [(30000000, .box (bx (Zo E0)))]⟩ | .L7 v5 v6 v7 v8 v9 v10 v11 v12 => ⟨138, [(5, (wB v5)), (6, (wB v6)), (7, (wB v7)), (8, (wB v8)), (9, (wB v9)), (10, (wB v10)), (11, (wB v11)), (12, (wB v12))], []⟩,
 fun r => [], fun r => (wB r), fun | .L0 E0 v5 => Zr5 E0 v5 | .L1 E0 v5 v6 => Zlh E0 v5 v6 | .L2 E0 v5 v6 v7 => Zow E0 v5 v6 v7 | .L3 E0 v5 v6 v7 v8 => Zr4 E0 v5 v6 v7 v8 | .L4 E0 v5 v6 v7 v8 v9 => Zr3 E0 v5 v6 v7 v8 v9 | .L5 E0 v5 v6 v7 v8 v9 v10 => Zr2 E0 v5 v6 v7 v8 v9 v10 | .L6 E0 v5 v6 v7 v8 v9 v10 v11 => Zov E0 v5 v6 v7 v8 v9 v10 v11 | .L7 v5 v6 v7 v8 v9 v10 v11 v12 => Zr1 v5 v6 v7 v8 v9 v10 v11 v12⟩
def Zaj7 (a0 : Zl) (a1 : Int) : Option Bool := Zaj6.run (Zaj5 a0 a1)
theorem Zaqa (a0 : Zl) (a1 : Int) {r : Bool} (h : Zaj7 a0 a1 = some r) : Fn PR 139 [(wA (Zo a0)), (wI a1)] (wB r) := Zaj6.fn h
inductive Zkc where
 | L0 (v0 : (List Zl)) (v1 : Int) (v5 : Int)
def Zqq (v0 : (List Zl)) (v1 : Int) (v5 : Int) : LT Zkc Bool :=
.len Zo v0<|.br (decide (v5 < (v0.length : Int))) (.idx Zo v0 v5 fun x3=>.call (Zaqa x3 v1) fun x5=>.br (!x5) (.rt false)<|.g0 (.L0 v0 v1 (IntKind.wrap .i64 (v5 + 1))))<|.len Zo v0<|.cs (decide ((v0.length : Int) ≥ 1)) (.kg 1<|.kg 1<|.len Zo v0<|.kg 1<|.kg 1<|.rt (decide ((v0.length : Int) ≤ 8)))<|.kg 1<|.kg 1<|.kg 1<|.kg 1<|.rt false
def Z1q (a0 : (List Zl)) (a1 : Int) : LT Zkc Bool :=
.g0 (.L0 a0 a1 0)
def Z1r : LF Zkc Bool := ⟨116, [.t 4], false, fun | .L0 .. => [1,0,1,4],
 fun | .L0 v0 v1 v5 => ⟨27, [(0, (wL Zo v0)), (1, (wI v1)), (5, (wI v5))], []⟩,
 fun r => [], fun r => (wB r), fun | .L0 v0 v1 v5 => Zqq v0 v1 v5⟩
def Zyn (a0 : (List Zl)) (a1 : Int) : Option Bool := Z1r.run (Z1q a0 a1)
theorem Zae3 (a0 : (List Zl)) (a1 : Int) {r : Bool} (h : Zyn a0 a1 = some r) : Fn PR 116 [(wL Zo a0), (wI a1)] (wB r) := Z1r.fn h
inductive Zjq where
 | L0 (E0 : Zk) (v3 : Bool)
 | L1 (E0 : Zk) (v3 : Bool)
 | L2 (E0 : Zk) (v3 : Bool)
 | L3 (E0 : Zk) (v3 : Bool)
 | L4 (E0 : Zk) (v3 : Bool)
def Zr6 (E0 : Zk) (v3 : Bool) : LT Zjq Bool :=
.br v3 (.call (Zajy E0.Specs) fun x2=>.cs x2 (.kg 1<|.kg 1<|.kg 1<|.kg 1<|.kg 1<|.len Zx E0.Specs<|.kg 1<|.call (Zae3 E0.Effects (E0.Specs.length : Int)) fun x6=>.kg 1<|.rt x6)<|.kg 1<|.kg 1<|.kg 1<|.kg 1<|.kg 1<|.kg 1<|.kg 1<|.rt false)<|.len Zx E0.Specs<|.cs ((E0.Specs.length : Int) == 0) (.kg 1<|.kg 1<|.kg 1<|.len Zo E0.Effects<|.kg 1<|.kg 1<|.rt ((E0.Effects.length : Int) == 0))<|.kg 1<|.kg 1<|.kg 1<|.kg 1<|.kg 1<|.rt false
def Zr7 (E0 : Zk) (v3 : Bool) : LT Zjq Bool :=
.br (E0.Kind == 5) (.call (Zap7 E0.Replace) fun x2=>.br (!x2) (.rt false)<|.j0 (.L4 E0 v3) (Zr6 E0 v3))<|.br (!(Zw (Zbu E0.Replace) (Zbu (⟨0, 0, (⟨0, 0, 0, 0, 0, 0, 0, ([] : List UInt8), 0, 0, (⟨0, 0⟩ : Zc), (⟨0, 0⟩ : Zc), (⟨0, 0⟩ : Zc)⟩ : Zh), 0, 0, 0, 0⟩ : Za3)))) (.rt false)<|.j0 (.L4 E0 v3) (Zr6 E0 v3)
def Zr8 (E0 : Zk) (v3 : Bool) : LT Zjq Bool :=
.br (E0.Kind == 4) (.call (Zap6 E0.Trigger) fun x2=>.br (!x2) (.rt false)<|.j0 (.L3 E0 v3) (Zr7 E0 v3))<|.cs (!(Zw (Zb8 E0.Trigger) (Zb8 (⟨0, 0, (⟨0, 0, 0, 0, 0, 0, 0, ([] : List UInt8), 0, 0, (⟨0, 0⟩ : Zc), (⟨0, 0⟩ : Zc), (⟨0, 0⟩ : Zc)⟩ : Zh)⟩ : Zce)))) (.kg 1<|.kg 1<|.kg 1<|.kn [0]<|.rt false)<|.kg 1<|.kg 1<|.kg 1<|.br E0.May (.rt false)<|.j0 (.L3 E0 v3) (Zr7 E0 v3)
def Zr9 (E0 : Zk) (v3 : Bool) : LT Zjq Bool :=
.br (E0.Kind == 3) (.call (Zajp E0.Price) fun x2=>.br (!x2) (.rt false)<|.j0 (.L2 E0 v3) (Zr8 E0 v3))<|.cs (!(Zw (Zda E0.Price) (Zda (⟨(⟨0, 0, (⟨0, 0, 0, 0, 0⟩ : (A5 Int))⟩ : Zay), false, false, 0⟩ : Ze5)))) (.kg 1<|.kg 1<|.kg 1<|.kn [0]<|.rt false)<|.kg 1<|.kg 1<|.kg 1<|.br E0.Slow (.rt false)<|.j0 (.L2 E0 v3) (Zr8 E0 v3)
def Zox (E0 : Zk) (v3 : Bool) : LT Zjq Bool :=
.br (E0.Kind == 1) (.call (Zhe E0.Filter) fun x2=>.cs (!x2) (.kg 1<|.kg 1<|.kg 1<|.kg 1<|.kg 1<|.kb true<|.kb true<|.kb true<|.kb true<|.kb true<|.kn [0]<|.rt false)<|.kg 1<|.kg 1<|.kg 1<|.kg 1<|.kg 1<|.cs (E0.Filter.Zone != 0) (.kg 2<|.kg 2<|.kg 2<|.kg 2<|.kg 2<|.kn [0]<|.rt false)<|.kg 2<|.kg 2<|.kg 2<|.call (Zpk E0.Mods) fun x6=>.kg 2<|.kg 2<|.br (x6 == ([] : List UInt8)) (.rt false)<|.j0 (.L1 E0 v3) (Zr9 E0 v3))<|.cs (!(Zw (Zq E0.Filter) (Zq (⟨0, 0, 0, 0, 0, 0, 0, ([] : List UInt8), 0, 0, (⟨0, 0⟩ : Zc), (⟨0, 0⟩ : Zc), (⟨0, 0⟩ : Zc)⟩ : Zh)))) (.kg 1<|.kg 1<|.kg 1<|.kg 1<|.kg 1<|.kn [0]<|.rt false)<|.kg 1<|.kg 1<|.kg 1<|.len Zn E0.Mods<|.kg 1<|.kg 1<|.br (decide ((E0.Mods.length : Int) > 0)) (.rt false)<|.j0 (.L1 E0 v3) (Zr9 E0 v3)
def Zaj8 (a0 : Zk) : LT Zjq Bool :=
.lb 1001<|.cs (decide (a0.Kind < 1)) (.kg 0<|.kg 0<|.kg 0<|.kg 0<|.kn [0]<|.rt false)<|.kg 0<|.kg 0<|.kg 0<|.kg 0<|.br (decide (a0.Kind > 5)) (.rt false)<|.cs (a0.Kind == 2) (.kg 2<|.kg 2<|.kg 2<|.kg 2<|.kb true<|.kb true<|.kb true<|.kb true<|.jn 0 (.L0 a0 true) [.relab 1001 30000000] (Zox a0 true))<|.kg 2<|.kg 2<|.kg 2<|.kg 2<|.cs (a0.Kind == 3) (.kg 3<|.kg 3<|.kg 3<|.kg 3<|.jn 0 (.L0 a0 true) [.relab 1001 30000000] (Zox a0 true))<|.kg 3<|.kg 3<|.kg 3<|.kg 3<|.jn 0 (.L0 a0 (a0.Kind == 4)) [.relab 1001 30000000] (Zox a0 (a0.Kind == 4))
def Zaj9 : LF Zjq Bool := ⟨96, [.t 2], false, fun | .L0 .. => [1,1,1] | .L1 .. => [1,1,1,1] | .L2 .. => [1,1,1,1,1] | .L3 .. => [1,1,1,1,1,1] | .L4 .. => [1,1,1,1,1,1,1],
 fun | .L0 E0 v3 => ⟨117, [(1, (.bptr 30000000 0)), (3, (wB v3))], [(30000000, .box (bx (Zah E0)))]⟩ | .L1 E0 v3 => ⟨117, [(1, (.bptr 30000000 0)), (3, (wB v3))], [(30000000, .box (bx (Zah E0)))]⟩ | .L2 E0 v3 => ⟨117, [(1, (.bptr 30000000 0)), (3, (wB v3))], [(30000000, .box (bx (Zah E0)))]⟩ | .L3 E0 v3 => ⟨117, [(1, (.bptr 30000000 0)), (3, (wB v3))], [(30000000, .box (bx (Zah E0)))]⟩ | .L4 E0 v3 => ⟨117, [(1, (.bptr 30000000 0)), (3, (wB v3))], [(30000000, .box (bx (Zah E0)))]⟩,
 fun r => [], fun r => (wB r), fun | .L0 E0 v3 => Zox E0 v3 | .L1 E0 v3 => Zr9 E0 v3 | .L2 E0 v3 => Zr8 E0 v3 | .L3 E0 v3 => Zr7 E0 v3 | .L4 E0 v3 => Zr6 E0 v3⟩
def Zaka (a0 : Zk) : Option Bool := Zaj9.run (Zaj8 a0)
theorem Zxe (a0 : Zk) {r : Bool} (h : Zaka a0 = some r) : Fn PR 96 [(wA (Zah a0))] (wB r) := Zaj9.fn h
def Zace (a0 : Zt) : LT Empty Bool :=
.lb 1001<|.cs (a0.Line.Types == 2) (.kg 0<|.kg 0<|.kg 0<|.kg 0<|.kg 0<|.rt true)<|.kg 0<|.kg 0<|.kg 0<|.kg 0<|.kg 0<|.rt (a0.Line.Types == 4)
def Zacf : LF Empty Bool := .z 97 [.t 2] false (fun r => []) (fun r => (wB r))
def Z9g (a0 : Zt) : Option Bool := Zacf.run (Zace a0)
theorem Zam3 (a0 : Zt) {r : Bool} (h : Z9g a0 = some r) : Fn PR 97 [(wA (Zat a0))] (wB r) := Zacf.fn h
inductive Zqr where
 | L0 (E0 : Zt)
 | L1 (E0 : Zt) (v3 : Int) (v4 : Int)
def Zsa (E0 : Zt) : LT Zqr Bool :=
.g0 (.L1 E0 0 0)
def Z3x (E0 : Zt) (v3 : Int) (v4 : Int) : LT Zqr Bool :=
.len Zah E0.Abilities<|.br (decide (v4 < (E0.Abilities.length : Int))) (.idx Zah E0.Abilities v4 fun x3=>.call (Zxe x3) fun x5=>.br (!x5) (.rt false)<|.ag Zah x3 0<|.br (x3.Kind == 2) (.g0 (.L1 E0 (IntKind.wrap .i64 (v3 + 1)) (IntKind.wrap .i64 (v4 + 1))))<|.g0 (.L1 E0 v3 (IntKind.wrap .i64 (v4 + 1))))<|.call (Zam3 E0) fun x15=>.br x15 (.cs (!E0.Token) (.kg 2<|.kg 2<|.kg 2<|.kg 2<|.cs (E0.Keys == 0) (.kg 3<|.kg 3<|.kg 3<|.len Zah E0.Abilities<|.kg 3<|.kg 3<|.cs ((E0.Abilities.length : Int) == 1) (.kg 4<|.kg 4<|.kg 4<|.rt (v3 == 1))<|.kg 4<|.kg 4<|.kg 4<|.rt false)<|.kg 3<|.kg 3<|.kg 3<|.kg 3<|.kg 3<|.kb false<|.kb false<|.kb false<|.rt false)<|.kg 2<|.kg 2<|.kg 2<|.kg 2<|.kb false<|.kb false<|.kb false<|.kb false<|.kb false<|.kb false<|.kb false<|.kb false<|.rt false)<|.cs (v3 == 0) (.kg 2<|.kg 2<|.kg 2<|.kg 2<|.cs (!E0.Token) (.kg 3<|.kg 3<|.kg 3<|.kg 3<|.kg 3<|.kg 2<|.kg 3<|.kg 2<|.cs ((Znt .and .i64 E0.Line.Types 32) == 0) (.kg 4<|.kg 4<|.kg 4<|.kg 4<|.kg 2<|.kg 4<|.kg 2<|.rt true)<|.kg 4<|.kg 4<|.kg 4<|.kg 4<|.kg 2<|.kg 4<|.kg 2<|.rt (Zw (Zbo E0.Cost) (Zbo (⟨0, 0, (⟨0, 0, 0, 0, 0⟩ : (A5 Int))⟩ : Zay))))<|.kg 3<|.kg 3<|.kg 3<|.kg 3<|.kg 3<|.kg 2<|.kg 3<|.kg 2<|.kb false<|.kb false<|.kb false<|.kb false<|.kg 2<|.kb false<|.kg 2<|.rt (Zw (Zbo E0.Cost) (Zbo (⟨0, 0, (⟨0, 0, 0, 0, 0⟩ : (A5 Int))⟩ : Zay))))<|.kg 2<|.kg 2<|.kg 2<|.kg 2<|.kg 2<|.kg 2<|.kg 2<|.kg 2<|.rt false
def Zakb (a0 : Zt) : LT Zqr Bool :=
.lb 1001<|.call (Z3a a0.Name) fun x1=>.cs (!x1) (.kg 0<|.kg 0<|.kg 0<|.kg 0<|.kg 0<|.kb true<|.kb true<|.kb true<|.kb true<|.kb true<|.kb true<|.kb true<|.kb true<|.kb true<|.kb true<|.kb true<|.kb true<|.kb true<|.kb true<|.kb true<|.kb true<|.kb true<|.kb true<|.kn [0]<|.rt false)<|.kg 0<|.kg 0<|.kg 0<|.call (Z3b a0.Cost) fun x4=>.kg 0<|.kg 0<|.cs (!x4) (.kg 1<|.kg 1<|.kg 1<|.kg 1<|.kg 1<|.kb true<|.kb true<|.kb true<|.kb true<|.kb true<|.kb true<|.kb true<|.kb true<|.kb true<|.kb true<|.kb true<|.kb true<|.kb true<|.kn [0]<|.rt false)<|.kg 1<|.kg 1<|.kg 1<|.call (Zap4 a0.Line) fun x7=>.kg 1<|.kg 1<|.cs (!x7) (.kg 2<|.kg 2<|.kg 2<|.kg 2<|.kg 2<|.kb true<|.kb true<|.kb true<|.kb true<|.kb true<|.kb true<|.kb true<|.kb true<|.kn [0]<|.rt false)<|.kg 2<|.kg 2<|.kg 2<|.call (Zagb a0.Keys) fun x10=>.kg 2<|.kg 2<|.cs (!x10) (.kg 3<|.kg 3<|.kg 3<|.kg 3<|.kb true<|.kb true<|.kb true<|.kb true<|.kn [0]<|.rt false)<|.kg 3<|.kg 3<|.kg 3<|.kg 3<|.cs (decide (a0.Color < 0)) (.kg 4<|.kg 4<|.kg 4<|.kg 4<|.kn [0]<|.rt false)<|.kg 4<|.kg 4<|.kg 4<|.kg 4<|.br (decide (a0.Color > 31)) (.rt false)<|.cs (decide (a0.Power < 0)) (.kg 6<|.kg 6<|.kg 6<|.kg 6<|.kb true<|.kb true<|.kb true<|.kb true<|.kb true<|.kb true<|.kb true<|.kb true<|.kb true<|.kb true<|.kb true<|.kb true<|.kb true<|.kb true<|.kb true<|.kb true<|.kb true<|.kb true<|.kb true<|.kn [0]<|.rt false)<|.kg 6<|.kg 6<|.kg 6<|.kg 6<|.cs (decide (a0.Power > 99)) (.kg 7<|.kg 7<|.kg 7<|.kg 7<|.kb true<|.kb true<|.kb true<|.kb true<|.kb true<|.kb true<|.kb true<|.kb true<|.kb true<|.kb true<|.kb true<|.kb true<|.kb true<|.kb true<|.kb true<|.kn [0]<|.rt false)<|.kg 7<|.kg 7<|.kg 7<|.kg 7<|.cs (decide (a0.Tough < 0)) (.kg 8<|.kg 8<|.kg 8<|.kg 8<|.kb true<|.kb true<|.kb true<|.kb true<|.kb true<|.kb true<|.kb true<|.kb true<|.kb true<|.kb true<|.kb true<|.kn [0]<|.rt false)<|.kg 8<|.kg 8<|.kg 8<|.kg 8<|.cs (decide (a0.Tough > 99)) (.kg 9<|.kg 9<|.kg 9<|.kg 9<|.kg 9<|.kg 9<|.kb true<|.kb true<|.kb true<|.kb true<|.kb true<|.kn [0]<|.rt false)<|.kg 9<|.kg 9<|.call (Zaa9 a0) fun x19=>.kg 9<|.kg 9<|.cs (!x19) (.kg 10<|.kg 10<|.kg 10<|.kg 10<|.cs (a0.Power != 0) (.kg 11<|.kg 11<|.kg 11<|.kg 10<|.kg 11<|.kg 9<|.kg 10<|.kg 9<|.kb true<|.kb true<|.kb true<|.kb true<|.kb true<|.kn [0]<|.rt false)<|.kg 11<|.kg 11<|.kg 11<|.kg 10<|.kg 11<|.kg 9<|.kg 10<|.kg 9<|.cs (a0.Tough != 0) (.kg 12<|.kg 12<|.kg 12<|.kg 12<|.kg 12<|.kn [0]<|.rt false)<|.kg 12<|.kg 12<|.kg 12<|.len Zah a0.Abilities<|.kg 12<|.kg 12<|.br (decide ((a0.Abilities.length : Int) > 8)) (.rt false)<|.jn 0 (.L0 a0) [.relab 1001 30000000] (Zsa a0))<|.kg 10<|.kg 10<|.kg 10<|.kg 10<|.kg 10<|.kg 9<|.kg 10<|.kg 9<|.kb false<|.kb false<|.kb false<|.len Zah a0.Abilities<|.kb false<|.kb false<|.br (decide ((a0.Abilities.length : Int) > 8)) (.rt false)<|.jn 0 (.L0 a0) [.relab 1001 30000000] (Zsa a0)
def Zakc : LF Zqr Bool := ⟨74, [.t 2], false, fun | .L0 .. => [1,1,1] | .L1 .. => [1,1,1,1,0,1,4],
 fun | .L0 E0 => ⟨139, [(1, (.bptr 30000000 0))], [(30000000, .box (bx (Zat E0)))]⟩ | .L1 E0 v3 v4 => ⟨139, [(1, (.bptr 30000000 0)), (3, (wI v3)), (4, (wI v4))], [(30000000, .box (bx (Zat E0)))]⟩,
 fun r => [], fun r => (wB r), fun | .L0 E0 => Zsa E0 | .L1 E0 v3 v4 => Z3x E0 v3 v4⟩
def Zakd (a0 : Zt) : Option Bool := Zakc.run (Zakb a0)
theorem Zaqb (a0 : Zt) {r : Bool} (h : Zakd a0 = some r) : Fn PR 74 [(wA (Zat a0))] (wB r) := Zakc.fn h
inductive Zpn where
 | L0 (v0 : (List Zt)) (v1 : (List UInt8)) (v5 : Int)
def Zyo (v0 : (List Zt)) (v1 : (List UInt8)) (v5 : Int) : LT Zpn Int :=
.len Zat v0<|.br (decide (v5 < (v0.length : Int))) (.idx Zat v0 v5 fun x3=>.br (x3.Name == v1) (.rt v5)<|.g0 (.L0 v0 v1 (IntKind.wrap .i64 (v5 + 1))))<|.rt (-1)
def Zacg (a0 : (List Zt)) (a1 : (List UInt8)) : LT Zpn Int :=
.g0 (.L0 a0 a1 0)
def Zach : LF Zpn Int := ⟨75, [.t 4], false, fun | .L0 .. => [1,0,1,4],
 fun | .L0 v0 v1 v5 => ⟨20, [(0, (wL Zat v0)), (1, (wS v1)), (5, (wI v5))], []⟩,
 fun r => [], fun r => (wI r), fun | .L0 v0 v1 v5 => Zyo v0 v1 v5⟩
def Z9h (a0 : (List Zt)) (a1 : (List UInt8)) : Option Int := Zach.run (Zacg a0 a1)
theorem Zam4 (a0 : (List Zt)) (a1 : (List UInt8)) {r : Int} (h : Z9h a0 a1 = some r) : Fn PR 75 [(wL Zat a0), (wS a1)] (wI r) := Zach.fn h
inductive Znb where
 | L0 (v0 : (List Zt)) (v1 : (List UInt8)) (v5 : Int)
def Zvm (v0 : (List Zt)) (v1 : (List UInt8)) (v5 : Int) : LT Znb Bool :=
.len Zat v0<|.br (decide (v5 < (v0.length : Int))) (.idx Zat v0 v5 fun x3=>.cs (x3.Name == v1) (.kg 1<|.kg 1<|.kg 1<|.ag Zat x3 0<|.kg 1<|.kg 1<|.kg 1<|.br x3.Token (.rt true)<|.g0 (.L0 v0 v1 (IntKind.wrap .i64 (v5 + 1))))<|.kg 1<|.kg 1<|.kg 1<|.kg 1<|.kg 1<|.kg 1<|.kn [0]<|.g0 (.L0 v0 v1 (IntKind.wrap .i64 (v5 + 1))))<|.rt false
def Z7i (a0 : (List Zt)) (a1 : (List UInt8)) : LT Znb Bool :=
.g0 (.L0 a0 a1 0)
def Z7j : LF Znb Bool := ⟨98, [.t 4], false, fun | .L0 .. => [1,0,1,4],
 fun | .L0 v0 v1 v5 => ⟨26, [(0, (wL Zat v0)), (1, (wS v1)), (5, (wI v5))], []⟩,
 fun r => [], fun r => (wB r), fun | .L0 v0 v1 v5 => Zvm v0 v1 v5⟩
def Z3y (a0 : (List Zt)) (a1 : (List UInt8)) : Option Bool := Z7j.run (Z7i a0 a1)
theorem Zake (a0 : (List Zt)) (a1 : (List UInt8)) {r : Bool} (h : Z3y a0 a1 = some r) : Fn PR 98 [(wL Zat a0), (wS a1)] (wB r) := Z7j.fn h
inductive Zid where
 | L0 (v0 : (List Zt)) (E0 : Zt) (v5 : Int)
 | L1 (v0 : (List Zt)) (E0 : Zt) (v5 : Int) (v6 : Int)
def Zqs (v0 : (List Zt)) (E0 : Zt) (v5 : Int) : LT Zid Bool :=
.len Zah E0.Abilities<|.br (decide (v5 < (E0.Abilities.length : Int))) (.g0 (.L1 v0 E0 v5 0))<|.rt true
def Zqt (v0 : (List Zt)) (E0 : Zt) (v5 : Int) (v6 : Int) : LT Zid Bool :=
.idx Zah E0.Abilities v5 fun x1=>.len Zo x1.Effects<|.br (decide (v6 < (x1.Effects.length : Int))) (.ag Zah x1 0<|.idx Zo x1.Effects v6 fun x5=>.lb 1007<|.cs (x5.Op == 12) (.kg 1<|.kg 1<|.kg 1<|.kg 1<|.call (Zake v0 x5.Card) fun x8=>.kg 1<|.kg 1<|.br (!x8) (.rt false)<|.g0 (.L1 v0 E0 v5 (IntKind.wrap .i64 (v6 + 1))))<|.kg 1<|.kg 1<|.kg 1<|.kg 1<|.kg 1<|.kg 1<|.kn [0]<|.g0 (.L1 v0 E0 v5 (IntKind.wrap .i64 (v6 + 1))))<|.g0 (.L0 v0 E0 (IntKind.wrap .i64 (v5 + 1)))
def Z1s (a0 : (List Zt)) (a1 : Zt) : LT Zid Bool :=
.lb 1003<|.go (.L0 a0 a1 0) [.relab 1003 30000000]
def Z1t : LF Zid Bool := ⟨76, [.t 4], false, fun | .L0 .. => [1,0,1,4] | .L1 .. => [1,0,1,4,5,1,0,4,1,4],
 fun | .L0 v0 E0 v5 => ⟨45, [(0, (wL Zat v0)), (3, (.bptr 30000000 0)), (5, (wI v5))], [(30000000, .box (bx (Zat E0)))]⟩ | .L1 v0 E0 v5 v6 => ⟨45, [(0, (wL Zat v0)), (3, (.bptr 30000000 0)), (5, (wI v5)), (6, (wI v6))], [(30000000, .box (bx (Zat E0)))]⟩,
 fun r => [], fun r => (wB r), fun | .L0 v0 E0 v5 => Zqs v0 E0 v5 | .L1 v0 E0 v5 v6 => Zqt v0 E0 v5 v6⟩
def Zyp (a0 : (List Zt)) (a1 : Zt) : Option Bool := Z1t.run (Z1s a0 a1)
theorem Zae4 (a0 : (List Zt)) (a1 : Zt) {r : Bool} (h : Zyp a0 a1 = some r) : Fn PR 76 [(wL Zat a0), (wA (Zat a1))] (wB r) := Z1t.fn h
inductive Znc where
 | L0 (v0 : (List Zt)) (v4 : Int)
def Zvn (v0 : (List Zt)) (v4 : Int) : LT Znc (Int × Int) :=
.len Zat v0<|.br (decide (v4 < (v0.length : Int))) (.idx Zat v0 v4 fun x3=>.call (Zaqb x3) fun x5=>.br (!x5) (.rt (v4, 9))<|.ag Zat x3 0<|.call (Zam4 v0 x3.Name) fun x8=>.br (decide (x8 < v4)) (.rt (v4, 6))<|.ag Zat x3 0<|.call (Zae4 v0 x3) fun x11=>.br (!x11) (.rt (v4, 7))<|.g0 (.L0 v0 (IntKind.wrap .i64 (v4 + 1))))<|.rt ((-1), 0)
def Z7k (a0 : (List Zt)) : LT Znc (Int × Int) :=
.len Zat a0<|.br (decide ((a0.length : Int) > 256)) (.rt ((-1), 5))<|.g0 (.L0 a0 0)
def Z7l : LF Znc (Int × Int) := ⟨49, [.t 2, .t 3], false, fun | .L0 .. => [1,1,0,1,4],
 fun | .L0 v0 v4 => ⟨39, [(0, (wL Zat v0)), (4, (wI v4))], []⟩,
 fun r => [], fun r => (.tup [(wI r.1), (wI r.2)]), fun | .L0 v0 v4 => Zvn v0 v4⟩
def Z3z (a0 : (List Zt)) : Option (Int × Int) := Z7l.run (Z7k a0)
theorem Zakf (a0 : (List Zt)) {r : (Int × Int)} (h : Z3z a0 = some r) : Fn PR 49 [(wL Zat a0)] (.tup [(wI r.1), (wI r.2)]) := Z7l.fn h
def Zakg (a0 : Int) (a1 : Int) (a2 : Int) : LT Empty Bool :=
.cs (decide (a0 ≥ a1)) (.kg 0<|.kg 0<|.kg 0<|.kg 0<|.rt (decide (a0 ≤ a2)))<|.kg 0<|.kg 0<|.kg 0<|.kg 0<|.rt false
def Zakh : LF Empty Bool := .z 77 [.t 6] false (fun r => []) (fun r => (wB r))
def Zaki (a0 : Int) (a1 : Int) (a2 : Int) : Option Bool := Zakh.run (Zakg a0 a1 a2)
theorem Zfp (a0 : Int) (a1 : Int) (a2 : Int) {r : Bool} (h : Zaki a0 a1 a2 = some r) : Fn PR 77 [(wI a0), (wI a1), (wI a2)] (wB r) := Zakh.fn h
inductive Znd where
 | L0 (E0 : (A6 Int)) (v3 : Int)
def Zvo (E0 : (A6 Int)) (v3 : Int) : LT Znd Bool :=
.br (decide (v3 < 6)) (.idA (Zg.int .i64) (A6.list E0) v3 (bx ((cA6 (cI .i64)) E0)) 0 6 fun x2=>.ldC (Zg.int .i64) 10 x2 0<|.cs (decide (x2 < 0)) (.kg 1<|.kg 1<|.kg 1<|.kg 1<|.kg 1<|.kn [0]<|.rt false)<|.kg 1<|.kg 1<|.idA (Zg.int .i64) (A6.list E0) v3 (bx ((cA6 (cI .i64)) E0)) 0 6 fun x5=>.kg 1<|.ldC (Zg.int .i64) 15 x5 1<|.kg 1<|.kg 1<|.br (decide (x5 > 1000000)) (.rt false)<|.g0 (.L0 E0 (IntKind.wrap .i64 (v3 + 1))))<|.rt true
def Z7m (a0 : (A6 Int)) : LT Znd Bool :=
.lb 1001<|.go (.L0 a0 0) [.relab 1001 30000000]
def Z7n : LF Znd Bool := ⟨99, [.t 2], false, fun | .L0 .. => [1,0,1,4],
 fun | .L0 E0 v3 => ⟨18, [(1, (.bptr 30000000 0)), (3, (wI v3))], [(30000000, .box (bx ((cA6 (cI .i64)) E0)))]⟩,
 fun r => [], fun r => (wB r), fun | .L0 E0 v3 => Zvo E0 v3⟩
def Z30 (a0 : (A6 Int)) : Option Bool := Z7n.run (Z7m a0)
theorem Zakj (a0 : (A6 Int)) {r : Bool} (h : Z30 a0 = some r) : Fn PR 99 [(wA ((cA6 (cI .i64)) a0))] (wB r) := Z7n.fn h
inductive Zne where
 | L0 (v1 : Int) (E0 : Za) (v5 : Int)
def Zvp (v1 : Int) (E0 : Za) (v5 : Int) : LT Zne Int :=
.len Zb E0.Objects<|.br (decide (v5 < (E0.Objects.length : Int))) (.idx Zb E0.Objects v5 fun x3=>.br (x3.Id == v1) (.rt v5)<|.g0 (.L0 v1 E0 (IntKind.wrap .i64 (v5 + 1))))<|.rt (-1)
def Z7o (a0 : Za) (a1 : Int) : LT Zne Int :=
.lb 1002<|.go (.L0 a1 a0 0) [.relab 1002 30000000]
def Z7p : LF Zne Int := ⟨156, [.t 4], false, fun | .L0 .. => [1,0,1,4],
 fun | .L0 v1 E0 v5 => ⟨22, [(1, (wI v1)), (2, (.bptr 30000000 0)), (5, (wI v5))], [(30000000, .box (bx (Zr E0)))]⟩,
 fun r => [], fun r => (wI r), fun | .L0 v1 E0 v5 => Zvp v1 E0 v5⟩
def Z31 (a0 : Za) (a1 : Int) : Option Int := Z7p.run (Z7o a0 a1)
theorem Zakk (a0 : Za) (a1 : Int) {r : Int} (h : Z31 a0 a1 = some r) : Fn PR 156 [(wA (Zr a0)), (wI a1)] (wI r) := Z7p.fn h
def Zaci (a0 : Za) (a1 : Int) : LT Empty (Zm × Bool) :=
.lb 1002<|.lb 1004<|.call (Zakk a0 a1) fun x1=>.br (decide (x1 < 0)) (.rt ((⟨0, 0, 0, 0, 0, false, false, false, false, 0, (⟨0, 0, 0⟩ : (A3 Int)), 0, 0, 0, false, 0, 0⟩ : Zm), false))<|.idx Zb a0.Objects x1 fun x4=>.rt (x4, true)
def Zacj : LF Empty (Zm × Bool) := .z 140 [.c 4 44 true 19, .t 5] false (fun r => []) (fun r => (.tup [(wA (Zb r.1)), (wB r.2)]))
def Z9i (a0 : Za) (a1 : Int) : Option (Zm × Bool) := Zacj.run (Zaci a0 a1)
theorem Zam5 (a0 : Za) (a1 : Int) {r : (Zm × Bool)} (h : Z9i a0 a1 = some r) : Fn PR 140 [(wA (Zr a0)), (wI a1)] (.tup [(wA (Zb r.1)), (wB r.2)]) := Zacj.fn h
def Z32 (a0 : Za) (a1 : Int) : LT Empty (Zm × Bool) :=
.lb 1002<|.lb 1004<|.call (Zam5 a0 a1) fun x1=>.rt (x1.1, x1.2)
def Z33 : LF Empty (Zm × Bool) := .z 117 [.c 4 44 true 19, .t 5] false (fun r => []) (fun r => (.tup [(wA (Zb r.1)), (wB r.2)]))
def Z0w (a0 : Za) (a1 : Int) : Option (Zm × Bool) := Z33.run (Z32 a0 a1)
theorem Z1u (a0 : Za) (a1 : Int) {r : (Zm × Bool)} (h : Z0w a0 a1 = some r) : Fn PR 117 [(wA (Zr a0)), (wI a1)] (.tup [(wA (Zb r.1)), (wB r.2)]) := Z33.fn h
inductive Znf where
 | L0 (v0 : (List Int)) (v1 : Int) (v5 : Int) (v6 : Int)
def Zvq (v0 : (List Int)) (v1 : Int) (v5 : Int) (v6 : Int) : LT Znf Int :=
.len (cI .i64) v0<|.br (decide (v6 < (v0.length : Int))) (.idx (cI .i64) v0 v6 fun x3=>.br (x3 == v1) (.g0 (.L0 v0 v1 (IntKind.wrap .i64 (v5 + 1)) (IntKind.wrap .i64 (v6 + 1))))<|.g0 (.L0 v0 v1 v5 (IntKind.wrap .i64 (v6 + 1))))<|.rt v5
def Z7q (a0 : (List Int)) (a1 : Int) : LT Znf Int :=
.g0 (.L0 a0 a1 0 0)
def Z7r : LF Znf Int := ⟨118, [.t 4], false, fun | .L0 .. => [1,1,0,1,4],
 fun | .L0 v0 v1 v5 v6 => ⟨22, [(0, (wL (cI .i64) v0)), (1, (wI v1)), (5, (wI v5)), (6, (wI v6))], []⟩,
 fun r => [], fun r => (wI r), fun | .L0 v0 v1 v5 v6 => Zvq v0 v1 v5 v6⟩
def Z34 (a0 : (List Int)) (a1 : Int) : Option Int := Z7r.run (Z7q a0 a1)
theorem Zvr (a0 : (List Int)) (a1 : Int) {r : Int} (h : Z34 a0 a1 = some r) : Fn PR 118 [(wL (cI .i64) a0), (wI a1)] (wI r) := Z7r.fn h
inductive Zpo where
 | L0 (v1 : (List Int)) (v2 : Int) (v3 : Int) (E0 : Za) (v9 : Int)
def Zyq (v1 : (List Int)) (v2 : Int) (v3 : Int) (E0 : Za) (v9 : Int) : LT Zpo Bool :=
.len (cI .i64) v1<|.br (decide (v9 < (v1.length : Int))) (.idx (cI .i64) v1 v9 fun x3=>.call (Z1u E0 x3) fun x5=>.lb 1010<|.cs (!x5.2) (.kg 1<|.kg 1<|.kg 1<|.kg 1<|.kg 1<|.kb true<|.kb true<|.kb true<|.kb true<|.kb true<|.kb true<|.kb true<|.kb true<|.kb true<|.kb true<|.kb true<|.kb true<|.kb true<|.kn [0]<|.rt false)<|.kg 1<|.kg 1<|.kg 1<|.kg 1<|.kg 1<|.cs (x5.1.Zone != v2) (.kg 2<|.kg 2<|.kg 2<|.kg 2<|.kg 2<|.kb true<|.kb true<|.kb true<|.kb true<|.kb true<|.kb true<|.kb true<|.kb true<|.kn [0]<|.rt false)<|.kg 2<|.kg 2<|.kg 2<|.cs (decide (v3 ≥ 0)) (.kg 3<|.kg 3<|.kg 3<|.kg 3<|.kg 2<|.kg 3<|.kg 2<|.cs (x5.1.Owner != v3) (.kg 4<|.kg 4<|.kg 4<|.kg 4<|.kg 4<|.kg 4<|.kg 4<|.kg 4<|.kn [0]<|.rt false)<|.kg 4<|.kg 4<|.kg 4<|.kg 4<|.ag (cI .i64) x3 0<|.kg 4<|.kg 4<|.call (Zvr v1 x3) fun x11=>.kg 4<|.kg 4<|.br (x11 != 1) (.rt false)<|.g0 (.L0 v1 v2 v3 E0 (IntKind.wrap .i64 (v9 + 1))))<|.kg 3<|.kg 3<|.kg 3<|.kg 3<|.kg 2<|.kg 3<|.kg 2<|.kb false<|.kb false<|.kb false<|.kb false<|.ag (cI .i64) x3 0<|.kb false<|.kb false<|.call (Zvr v1 x3) fun x16=>.kb false<|.kb false<|.br (x16 != 1) (.rt false)<|.g0 (.L0 v1 v2 v3 E0 (IntKind.wrap .i64 (v9 + 1))))<|.rt true
def Zack (a0 : Za) (a1 : (List Int)) (a2 : Int) (a3 : Int) : LT Zpo Bool :=
.lb 1004<|.go (.L0 a1 a2 a3 a0 0) [.relab 1004 30000000]
def Zacl : LF Zpo Bool := ⟨100, [.t 8], false, fun | .L0 .. => [1,0,1,4],
 fun | .L0 v1 v2 v3 E0 v9 => ⟨54, [(1, (wL (cI .i64) v1)), (2, (wI v2)), (3, (wI v3)), (4, (.bptr 30000000 0)), (9, (wI v9))], [(30000000, .box (bx (Zr E0)))]⟩,
 fun r => [], fun r => (wB r), fun | .L0 v1 v2 v3 E0 v9 => Zyq v1 v2 v3 E0 v9⟩
def Z9j (a0 : Za) (a1 : (List Int)) (a2 : Int) (a3 : Int) : Option Bool := Zacl.run (Zack a0 a1 a2 a3)
theorem Zng (a0 : Za) (a1 : (List Int)) (a2 : Int) (a3 : Int) {r : Bool} (h : Z9j a0 a1 a2 a3 = some r) : Fn PR 100 [(wA (Zr a0)), (wL (cI .i64) a1), (wI a2), (wI a3)] (wB r) := Zacl.fn h
inductive Zkd where
 | L0 (E0 : Za) (v3 : Int)
def Zqu (E0 : Za) (v3 : Int) : LT Zkd Bool :=
.len Zf E0.Players<|.br (decide (v3 < (E0.Players.length : Int))) (.idx Zf E0.Players v3 fun x3=>.lb 1004<|.call (Zfp x3.Life (-1000000) 1000000) fun x5=>.cs (!x5) (.kg 1<|.kg 1<|.kg 1<|.kg 1<|.kg 1<|.kb true<|.kb true<|.kb true<|.kb true<|.kb true<|.kb true<|.kb true<|.kb true<|.kb true<|.kb true<|.kn [0]<|.rt false)<|.kg 1<|.kg 1<|.kg 1<|.call (Zfp x3.Venom 0 1000000) fun x8=>.kg 1<|.kg 1<|.cs (!x8) (.kg 2<|.kg 2<|.kg 2<|.kg 2<|.kg 2<|.kb true<|.kb true<|.kb true<|.kb true<|.kb true<|.kn [0]<|.rt false)<|.kg 2<|.kg 2<|.kg 2<|.call (Zfp x3.Lands 0 1000000) fun x11=>.kg 2<|.kg 2<|.cs (!x11) (.kg 3<|.kg 3<|.kg 3<|.kg 3<|.kg 3<|.kn [0]<|.rt false)<|.kg 3<|.kg 3<|.kg 3<|.call (Zakj x3.Pool) fun x14=>.kg 3<|.kg 3<|.br (!x14) (.rt false)<|.call (Zng E0 x3.Library 2 v3) fun x17=>.cs (!x17) (.kg 5<|.kg 5<|.kg 5<|.kg 5<|.kg 5<|.kg 5<|.kg 5<|.kb true<|.kb true<|.kb true<|.kb true<|.kb true<|.kb true<|.kb true<|.kn [0]<|.rt false)<|.kg 5<|.kg 5<|.kg 5<|.kg 5<|.kg 5<|.call (Zng E0 x3.Hand 1 v3) fun x20=>.kg 5<|.kg 5<|.cs (!x20) (.kg 6<|.kg 6<|.kg 6<|.kg 6<|.kg 6<|.kg 6<|.kg 6<|.kn [0]<|.rt false)<|.kg 6<|.kg 6<|.kg 6<|.kg 6<|.kg 6<|.call (Zng E0 x3.Graveyard 3 v3) fun x23=>.kg 6<|.kg 6<|.br (!x23) (.rt false)<|.g0 (.L0 E0 (IntKind.wrap .i64 (v3 + 1))))<|.call (Zng E0 E0.Battlefield 0 (-1)) fun x28=>.cs x28 (.kg 1<|.kg 1<|.kg 1<|.kg 1<|.call (Zng E0 E0.Exile 4 (-1)) fun x31=>.kg 1<|.rt x31)<|.kg 1<|.kg 1<|.kg 1<|.kg 1<|.kg 1<|.rt false
def Z1v (a0 : Za) : LT Zkd Bool :=
.lb 1001<|.len Zf a0.Players<|.call (Zfp (a0.Players.length : Int) 2 4) fun x2=>.br (!x2) (.rt false)<|.go (.L0 a0 0) [.relab 1001 30000000]
def Z1w : LF Zkd Bool := ⟨78, [.t 2], false, fun | .L0 .. => [1,1,0,1,4],
 fun | .L0 E0 v3 => ⟨76, [(1, (.bptr 30000000 0)), (3, (wI v3))], [(30000000, .box (bx (Zr E0)))]⟩,
 fun r => [], fun r => (wB r), fun | .L0 E0 v3 => Zqu E0 v3⟩
def Zyr (a0 : Za) : Option Bool := Z1w.run (Z1v a0)
theorem Zae5 (a0 : Za) {r : Bool} (h : Zyr a0 = some r) : Fn PR 78 [(wA (Zr a0))] (wB r) := Z1w.fn h
def Z35 (a0 : Za) (a1 : Int) : LT Empty Bool :=
.lb 1002<|.len Zf a0.Players<|.call (Zfp a1 0 (IntKind.wrap .i64 ((a0.Players.length : Int) - 1))) fun x4=>.rt x4
def Z36 : LF Empty Bool := .z 79 [.t 4] false (fun r => []) (fun r => (wB r))
def Z0x (a0 : Za) (a1 : Int) : Option Bool := Z36.run (Z35 a0 a1)
theorem Zho (a0 : Za) (a1 : Int) {r : Bool} (h : Z0x a0 a1 = some r) : Fn PR 79 [(wA (Zr a0)), (wI a1)] (wB r) := Z36.fn h
inductive Zvs where
 | L0 (E0 : (A3 Int)) (v3 : Int)
def Z37 (E0 : (A3 Int)) (v3 : Int) : LT Zvs Bool :=
.br (decide (v3 < 3)) (.idA (Zg.int .i64) (A3.list E0) v3 (bx ((cA3 (cI .i64)) E0)) 0 3 fun x2=>.ldC (Zg.int .i64) 10 x2 0<|.cs (decide (x2 < 0)) (.kg 1<|.kg 1<|.kg 1<|.kg 1<|.kg 1<|.kn [0]<|.rt false)<|.kg 1<|.kg 1<|.idA (Zg.int .i64) (A3.list E0) v3 (bx ((cA3 (cI .i64)) E0)) 0 3 fun x5=>.kg 1<|.ldC (Zg.int .i64) 15 x5 1<|.kg 1<|.kg 1<|.br (decide (x5 > 1000000)) (.rt false)<|.g0 (.L0 E0 (IntKind.wrap .i64 (v3 + 1))))<|.rt true
def Zakl (a0 : (A3 Int)) : LT Zvs Bool :=
.lb 1001<|.go (.L0 a0 0) [.relab 1001 30000000]
def Zakm : LF Zvs Bool := ⟨119, [.t 2], false, fun | .L0 .. => [1,0,1,4],
 fun | .L0 E0 v3 => ⟨18, [(1, (.bptr 30000000 0)), (3, (wI v3))], [(30000000, .box (bx ((cA3 (cI .i64)) E0)))]⟩,
 fun r => [], fun r => (wB r), fun | .L0 E0 v3 => Z37 E0 v3⟩
def Zakn (a0 : (A3 Int)) : Option Bool := Zakm.run (Zakl a0)
theorem Zaqc (a0 : (A3 Int)) {r : Bool} (h : Zakn a0 = some r) : Fn PR 119 [(wA ((cA3 (cI .i64)) a0))] (wB r) := Zakm.fn h
def Zacm (a0 : Zm) : LT Empty Zm :=
.lb 1001<|.lb 1002<|.rt (⟨a0.Id, a0.Card, a0.Owner, a0.Control, a0.Zone, a0.Token, a0.Tapped, a0.Sick, a0.Deadly, a0.Damage, a0.Counters, a0.Stamp, a0.Copy, (-1), false, 0, a0.Shield⟩ : Zm)
def Zacn : LF Empty Zm := .z 120 [.c 2 44 true 19] false (fun r => []) (fun r => (wA (Zb r)))
def Z9k (a0 : Zm) : Option Zm := Zacn.run (Zacm a0)
theorem Zam6 (a0 : Zm) {r : Zm} (h : Z9k a0 = some r) : Fn PR 120 [(wA (Zb a0))] (wA (Zb r)) := Zacn.fn h
def Z7s (a0 : Zm) : LT Empty Zm :=
.lb 1001<|.lb 1002<|.rt (⟨a0.Id, a0.Card, a0.Owner, a0.Control, a0.Zone, a0.Token, a0.Tapped, a0.Sick, false, 0, a0.Counters, a0.Stamp, a0.Copy, a0.Attack, a0.Blocked, a0.Blocks, 0⟩ : Zm)
def Z7t : LF Empty Zm := .z 121 [.c 2 44 true 19] false (fun r => []) (fun r => (wA (Zb r)))
def Z38 (a0 : Zm) : Option Zm := Z7t.run (Z7s a0)
theorem Zako (a0 : Zm) {r : Zm} (h : Z38 a0 = some r) : Fn PR 121 [(wA (Zb a0))] (wA (Zb r)) := Z7t.fn h
def Zakp (a0 : Zm) (a1 : Int) (a2 : Int) : LT Empty Bool :=
.lb 1003<|.cs (decide (a0.Id < 1)) (.kg 0<|.kg 0<|.kg 0<|.kg 0<|.kb true<|.kb true<|.kb true<|.kb true<|.kb true<|.kb true<|.kb true<|.kb true<|.kb true<|.kb true<|.kb true<|.kb true<|.kb true<|.kb true<|.kb true<|.kb true<|.kb true<|.kb true<|.kb true<|.kb true<|.kb true<|.kb true<|.kb true<|.kb true<|.kb true<|.kb true<|.kb true<|.kb true<|.kb true<|.kb true<|.kb true<|.kn [0]<|.rt false)<|.kg 0<|.kg 0<|.kg 0<|.kg 0<|.cs (decide (a0.Card < 0)) (.kg 1<|.kg 1<|.kg 1<|.kg 1<|.kg 1<|.kb true<|.kb true<|.kb true<|.kb true<|.kb true<|.kb true<|.kb true<|.kb true<|.kb true<|.kb true<|.kb true<|.kb true<|.kb true<|.kb true<|.kb true<|.kb true<|.kb true<|.kb true<|.kb true<|.kb true<|.kb true<|.kb true<|.kb true<|.kb true<|.kb true<|.kb true<|.kn [0]<|.rt false)<|.kg 1<|.kg 1<|.kg 1<|.kg 1<|.kg 1<|.cs (decide (a0.Card ≥ a1)) (.kg 2<|.kg 2<|.kg 2<|.kg 2<|.kb true<|.kb true<|.kb true<|.kb true<|.kb true<|.kb true<|.kb true<|.kb true<|.kb true<|.kb true<|.kb true<|.kb true<|.kb true<|.kb true<|.kb true<|.kb true<|.kb true<|.kb true<|.kb true<|.kb true<|.kb true<|.kb true<|.kn [0]<|.rt false)<|.kg 2<|.kg 2<|.kg 2<|.kg 2<|.cs (decide (a0.Owner < 0)) (.kg 3<|.kg 3<|.kg 3<|.kg 3<|.kg 3<|.kb true<|.kb true<|.kb true<|.kb true<|.kb true<|.kb true<|.kb true<|.kb true<|.kb true<|.kb true<|.kb true<|.kb true<|.kb true<|.kb true<|.kb true<|.kb true<|.kb true<|.kn [0]<|.rt false)<|.kg 3<|.kg 3<|.kg 3<|.kg 3<|.kg 3<|.cs (decide (a0.Owner ≥ a2)) (.kg 4<|.kg 4<|.kg 4<|.kg 4<|.kb true<|.kb true<|.kb true<|.kb true<|.kb true<|.kb true<|.kb true<|.kb true<|.kb true<|.kb true<|.kb true<|.kb true<|.kb true<|.kn [0]<|.rt false)<|.kg 4<|.kg 4<|.kg 4<|.kg 4<|.cs (decide (a0.Control < 0)) (.kg 5<|.kg 5<|.kg 5<|.kg 5<|.kg 5<|.kb true<|.kb true<|.kb true<|.kb true<|.kb true<|.kb true<|.kb true<|.kb true<|.kn [0]<|.rt false)<|.kg 5<|.kg 5<|.kg 5<|.kg 5<|.kg 5<|.cs (decide (a0.Control ≥ a2)) (.kg 6<|.kg 6<|.kg 6<|.kg 6<|.kb true<|.kb true<|.kb true<|.kb true<|.kn [0]<|.rt false)<|.kg 6<|.kg 6<|.kg 6<|.kg 6<|.cs (decide (a0.Zone < 0)) (.kg 7<|.kg 7<|.kg 7<|.kg 7<|.kn [0]<|.rt false)<|.kg 7<|.kg 7<|.kg 7<|.kg 7<|.br (decide (a0.Zone > 5)) (.rt false)<|.cs (decide (a0.Damage < 0)) (.kg 9<|.kg 9<|.kg 9<|.kg 9<|.kb true<|.kb true<|.kb true<|.kb true<|.kb true<|.kb true<|.kb true<|.kb true<|.kb true<|.kb true<|.kb true<|.kb true<|.kb true<|.kb true<|.kb true<|.kb true<|.kb true<|.kb true<|.kb true<|.kb true<|.kb true<|.kb true<|.kb true<|.kb true<|.kn [0]<|.rt false)<|.kg 9<|.kg 9<|.kg 9<|.kg 9<|.cs (decide (a0.Damage > 1000000)) (.kg 10<|.kg 10<|.kg 10<|.kg 10<|.kb true<|.kb true<|.kb true<|.kb true<|.kb true<|.kb true<|.kb true<|.kb true<|.kb true<|.kb true<|.kb true<|.kb true<|.kb true<|.kb true<|.kb true<|.kb true<|.kb true<|.kb true<|.kb true<|.kb true<|.kn [0]<|.rt false)<|.kg 10<|.kg 10<|.kg 10<|.kg 10<|.cs (decide (a0.Stamp < 0)) (.kg 11<|.kg 11<|.kg 11<|.kg 11<|.kb true<|.kb true<|.kb true<|.kb true<|.kb true<|.kb true<|.kb true<|.kb true<|.kb true<|.kb true<|.kb true<|.kb true<|.kb true<|.kb true<|.kb true<|.kb true<|.kn [0]<|.rt false)<|.kg 11<|.kg 11<|.kg 11<|.kg 11<|.cs (decide (a0.Stamp > 1000000)) (.kg 12<|.kg 12<|.kg 12<|.kg 12<|.kb true<|.kb true<|.kb true<|.kb true<|.kb true<|.kb true<|.kb true<|.kb true<|.kb true<|.kb true<|.kb true<|.kb true<|.kn [0]<|.rt false)<|.kg 12<|.kg 12<|.kg 12<|.kg 12<|.cs (decide (a0.Blocks < 0)) (.kg 13<|.kg 13<|.kg 13<|.kg 13<|.kb true<|.kb true<|.kb true<|.kb true<|.kb true<|.kb true<|.kb true<|.kb true<|.kn [0]<|.rt false)<|.kg 13<|.kg 13<|.kg 13<|.kg 13<|.cs (decide (a0.Blocks > 1000000)) (.kg 14<|.kg 14<|.kg 14<|.kg 14<|.kb true<|.kb true<|.kb true<|.kb true<|.kn [0]<|.rt false)<|.kg 14<|.kg 14<|.kg 14<|.kg 14<|.cs (decide (a0.Shield < 0)) (.kg 15<|.kg 15<|.kg 15<|.kg 15<|.kn [0]<|.rt false)<|.kg 15<|.kg 15<|.kg 15<|.kg 15<|.br (decide (a0.Shield > 1000000)) (.rt false)<|.call (Zaqc a0.Counters) fun x18=>.cs (!x18) (.kg 17<|.kg 17<|.kg 17<|.kg 17<|.kb true<|.kb true<|.kb true<|.kb true<|.kb true<|.kb true<|.kb true<|.kb true<|.kb true<|.kb true<|.kb true<|.kb true<|.kb true<|.kb true<|.kn [0]<|.rt false)<|.kg 17<|.kg 17<|.kg 17<|.kg 17<|.cs (decide (a0.Copy < (-1))) (.kg 18<|.kg 18<|.kg 18<|.kg 18<|.kg 18<|.kb true<|.kb true<|.kb true<|.kb true<|.kb true<|.kb true<|.kb true<|.kb true<|.kb true<|.kn [0]<|.rt false)<|.kg 18<|.kg 18<|.kg 18<|.kg 18<|.kg 18<|.cs (decide (a0.Copy ≥ a1)) (.kg 19<|.kg 19<|.kg 19<|.kg 19<|.kb true<|.kb true<|.kb true<|.kb true<|.kb true<|.kn [0]<|.rt false)<|.kg 19<|.kg 19<|.kg 19<|.kg 19<|.cs (decide (a0.Attack < (-1))) (.kg 20<|.kg 20<|.kg 20<|.kg 20<|.kg 20<|.kn [0]<|.rt false)<|.kg 20<|.kg 20<|.kg 20<|.kg 20<|.kg 20<|.br (decide (a0.Attack ≥ a2)) (.rt false)<|.cs (a0.Zone == 0) (.kg 22<|.kg 22<|.kg 22<|.kg 22<|.kg 22<|.kg 22<|.kg 22<|.kg 22<|.kg 22<|.kg 22<|.kg 22<|.kg 22<|.kg 22<|.rt true)<|.kg 22<|.kg 22<|.kg 22<|.call (Zam6 a0) fun x26=>.kg 22<|.kg 22<|.cs (Zw (Zb a0) (Zb x26)) (.kg 23<|.kg 23<|.kg 23<|.call (Zako a0) fun x29=>.kg 23<|.kg 22<|.kg 23<|.kg 22<|.cs (Zw (Zb a0) (Zb x29)) (.kg 24<|.kg 24<|.kg 24<|.kg 22<|.kg 24<|.kg 22<|.cs (!a0.Tapped) (.kg 25<|.kg 25<|.kg 25<|.kg 22<|.kg 25<|.kg 22<|.cs (!a0.Sick) (.kg 26<|.kg 26<|.kg 26<|.kg 26<|.kg 22<|.kg 26<|.kg 22<|.rt (Zw ((cA3 (cI .i64)) a0.Counters) ((cA3 (cI .i64)) (⟨0, 0, 0⟩ : (A3 Int)))))<|.kg 26<|.kg 26<|.kg 26<|.kg 26<|.kg 22<|.kg 26<|.kg 22<|.rt false)<|.kg 25<|.kg 25<|.kg 25<|.kg 22<|.kg 25<|.kg 22<|.kb false<|.kb false<|.kb false<|.kb false<|.kg 22<|.kb false<|.kg 22<|.rt false)<|.kg 24<|.kg 24<|.kg 24<|.kg 22<|.kg 24<|.kg 22<|.kb false<|.kb false<|.kb false<|.kg 22<|.kb false<|.kg 22<|.kb false<|.kb false<|.kb false<|.kb false<|.kg 22<|.kb false<|.kg 22<|.rt false)<|.kg 23<|.kg 23<|.kg 23<|.kg 23<|.kg 22<|.kg 23<|.kg 22<|.kb false<|.kb false<|.kb false<|.kg 22<|.kb false<|.kg 22<|.kb false<|.kb false<|.kb false<|.kg 22<|.kb false<|.kg 22<|.kb false<|.kb false<|.kb false<|.kb false<|.kg 22<|.kb false<|.kg 22<|.rt false
def Zakq : LF Empty Bool := .z 101 [.t 6] false (fun r => []) (fun r => (wB r))
def Zakr (a0 : Zm) (a1 : Int) (a2 : Int) : Option Bool := Zakq.run (Zakp a0 a1 a2)
theorem Zaqd (a0 : Zm) (a1 : Int) (a2 : Int) {r : Bool} (h : Zakr a0 a1 a2 = some r) : Fn PR 101 [(wA (Zb a0)), (wI a1), (wI a2)] (wB r) := Zakq.fn h
inductive Zli where
 | L0 (v1 : Int) (E0 : Za) (v5 : Int) (v6 : Int)
def Zsx (v1 : Int) (E0 : Za) (v5 : Int) (v6 : Int) : LT Zli Int :=
.len Ze E0.Stack<|.br (decide (v6 < (E0.Stack.length : Int))) (.idx Ze E0.Stack v6 fun x3=>.cs (x3.Kind == 1) (.kg 1<|.kg 1<|.kg 1<|.kg 1<|.ag Ze x3 0<|.kg 1<|.kg 1<|.kg 1<|.kg 1<|.kg 1<|.br (x3.Id == v1) (.g0 (.L0 v1 E0 (IntKind.wrap .i64 (v5 + 1)) (IntKind.wrap .i64 (v6 + 1))))<|.g0 (.L0 v1 E0 v5 (IntKind.wrap .i64 (v6 + 1))))<|.kg 1<|.kg 1<|.kg 1<|.kg 1<|.kg 1<|.kg 1<|.kg 1<|.kg 1<|.kg 1<|.kn [0]<|.g0 (.L0 v1 E0 v5 (IntKind.wrap .i64 (v6 + 1))))<|.rt v5
def Z39 (a0 : Za) (a1 : Int) : LT Zli Int :=
.lb 1002<|.go (.L0 a1 a0 0 0) [.relab 1002 30000000]
def Z4a : LF Zli Int := ⟨122, [.t 4], false, fun | .L0 .. => [1,1,0,1,4],
 fun | .L0 v1 E0 v5 v6 => ⟨34, [(1, (wI v1)), (2, (.bptr 30000000 0)), (5, (wI v5)), (6, (wI v6))], [(30000000, .box (bx (Zr E0)))]⟩,
 fun r => [], fun r => (wI r), fun | .L0 v1 E0 v5 v6 => Zsx v1 E0 v5 v6⟩
def Z0y (a0 : Za) (a1 : Int) : Option Int := Z4a.run (Z39 a0 a1)
theorem Zagx (a0 : Za) (a1 : Int) {r : Int} (h : Z0y a0 a1 = some r) : Fn PR 122 [(wA (Zr a0)), (wI a1)] (wI r) := Z4a.fn h
def Z0z (a0 : (List Int)) : LT Empty (List Int) :=
.lb 1003<|.apR (cI .i64) 8 ([] : (List Int)) a0 fun x1=>.ret x1 [.relab 1003 5000]
def Zaco : LF Empty (List Int) := .z 40 [.t 2] true (fun r => [(5000, wR (cI .i64) 1 r)]) (fun r => (wO (cI .i64) 5000 r))
def Zqv (a0 : (List Int)) : Option (List Int) := Zaco.run (Z0z a0)
theorem Zgk (a0 : (List Int)) {r : (List Int)} (h : Zqv a0 = some r) : FnG PR 40 [] [(wL (cI .i64) a0)] [(5000, wR (cI .i64) 1 r)] (wO (cI .i64) 5000 r) := Zaco.fn h
theorem Zrd (a0 : (List Int)) {r : (List Int)} (h : Zqv a0 = some r) : Fn PR 40 [(wL (cI .i64) a0)] (wL (cI .i64) r) :=
 FnG.frozen (C := LT.RL (cI .i64) r ∧ True) (Zgk a0 h) ⟨rfl, trivial⟩ (by kernel_rfl)
def Zacp (a0 : Za) (a1 : Int) (a2 : Int) : LT Empty (List Int) :=
.lb 1003<|.br (a1 == 0) (.callF (Zgk a0.Battlefield) 130000 fun x2=>.ret x2 [.relab 135000 5000])<|.br (a1 == 4) (.callF (Zgk a0.Exile) 180000 fun x5=>.ret x5 [.relab 185000 5000])<|.cs (decide (a2 < 0)) (.kg 2<|.kg 2<|.kg 2<|.kg 2<|.kg 2<|.kg 2<|.kn [0]<|.ret ([] : (List Int)) [.own 6 5000 1])<|.kg 2<|.kg 2<|.kg 2<|.kg 2<|.len Zf a0.Players<|.kg 2<|.kg 2<|.br (decide (a2 ≥ (a0.Players.length : Int))) (.ret ([] : (List Int)) [.own 6 5000 1])<|.br (a1 == 1) (.idx Zf a0.Players a2 fun x11=>.callF (Zgk x11.Hand) 370000 fun x13=>.ret x13 [.relab 375000 5000])<|.br (a1 == 2) (.idx Zf a0.Players a2 fun x16=>.callF (Zgk x16.Library) 460000 fun x18=>.ret x18 [.relab 465000 5000])<|.br (a1 == 3) (.idx Zf a0.Players a2 fun x21=>.callF (Zgk x21.Graveyard) 550000 fun x23=>.ret x23 [.relab 555000 5000])<|.ret ([] : (List Int)) [.own 6 5000 1]
def Zacq : LF Empty (List Int) := .z 123 [.t 6] true (fun r => [(5000, wR (cI .i64) 1 r)]) (fun r => (wO (cI .i64) 5000 r))
def Z00 (a0 : Za) (a1 : Int) (a2 : Int) : Option (List Int) := Zacq.run (Zacp a0 a1 a2)
theorem Zaks (a0 : Za) (a1 : Int) (a2 : Int) {r : (List Int)} (h : Z00 a0 a1 a2 = some r) : FnG PR 123 [] [(wA (Zr a0)), (wI a1), (wI a2)] [(5000, wR (cI .i64) 1 r)] (wO (cI .i64) 5000 r) := Zacq.fn h
theorem Zam7 (a0 : Za) (a1 : Int) (a2 : Int) {r : (List Int)} (h : Z00 a0 a1 a2 = some r) : Fn PR 123 [(wA (Zr a0)), (wI a1), (wI a2)] (wL (cI .i64) r) :=
 FnG.frozen (C := LT.RL (cI .i64) r ∧ True) (Zaks a0 a1 a2 h) ⟨rfl, trivial⟩ (by kernel_rfl)
def Z4b (a0 : Za) (a1 : Zm) : LT Empty Bool :=
.lb 1002<|.lb 1003<|.br (a1.Zone == 5) (.call (Zagx a0 a1.Id) fun x2=>.rt (x2 == 1))<|.call (Zam7 a0 a1.Zone a1.Owner) fun x4=>.call (Zvr x4 a1.Id) fun x6=>.rt (x6 == 1)
def Z4c : LF Empty Bool := .z 102 [.t 4] false (fun r => []) (fun r => (wB r))
def Z01 (a0 : Za) (a1 : Zm) : Option Bool := Z4c.run (Z4b a0 a1)
theorem Z1x (a0 : Za) (a1 : Zm) {r : Bool} (h : Z01 a0 a1 = some r) : Fn PR 102 [(wA (Zr a0)), (wA (Zb a1))] (wB r) := Z4c.fn h
inductive Zke where
 | L0 (v0 : (List Zt)) (E0 : Za) (v5 : Int)
def Zqw (v0 : (List Zt)) (E0 : Za) (v5 : Int) : LT Zke Bool :=
.len Zb E0.Objects<|.br (decide (v5 < (E0.Objects.length : Int))) (.idx Zb E0.Objects v5 fun x3=>.lb 1006<|.len Zat v0<|.len Zf E0.Players<|.call (Zaqd x3 (v0.length : Int) (E0.Players.length : Int)) fun x7=>.cs (!x7) (.kg 1<|.kg 1<|.kg 1<|.kg 1<|.kg 1<|.kg 1<|.kb true<|.kb true<|.kb true<|.kb true<|.kb true<|.kb true<|.kb true<|.kb true<|.kb true<|.kb true<|.kb true<|.kn [0]<|.rt false)<|.kg 1<|.kg 1<|.kg 1<|.kg 1<|.kg 1<|.kg 1<|.cs (decide (x3.Id ≥ E0.NextId)) (.kg 2<|.kg 2<|.kg 2<|.kg 2<|.kg 2<|.kg 2<|.kb true<|.kb true<|.kb true<|.kb true<|.kb true<|.kn [0]<|.rt false)<|.kg 2<|.kg 2<|.kg 2<|.kg 2<|.kg 2<|.kg 2<|.cs (decide (x3.Stamp ≥ E0.NextStamp)) (.kg 3<|.kg 3<|.kg 3<|.kg 3<|.kg 3<|.kn [0]<|.rt false)<|.kg 3<|.kg 3<|.kg 3<|.cs (decide (v5 > 0)) (.kg 4<|.kg 4<|.kg 4<|.kg 4<|.kg 4<|.idx Zb E0.Objects (IntKind.wrap .i64 (v5 - 1)) fun x15=>.kg 4<|.kg 4<|.kg 4<|.kg 4<|.kg 4<|.kg 3<|.kg 4<|.kg 3<|.br (decide (x15.Id ≥ x3.Id)) (.rt false)<|.call (Z1x E0 x3) fun x18=>.br (!x18) (.rt false)<|.g0 (.L0 v0 E0 (IntKind.wrap .i64 (v5 + 1))))<|.kg 4<|.kg 4<|.kg 4<|.kg 4<|.kg 4<|.kg 4<|.kg 4<|.kg 4<|.kg 4<|.kg 4<|.kg 3<|.kg 4<|.kg 3<|.kn [0]<|.call (Z1x E0 x3) fun x23=>.br (!x23) (.rt false)<|.g0 (.L0 v0 E0 (IntKind.wrap .i64 (v5 + 1))))<|.rt true
def Z1y (a0 : (List Zt)) (a1 : Za) : LT Zke Bool :=
.lb 1003<|.len Zb a1.Objects<|.br (decide ((a1.Objects.length : Int) > 2048)) (.rt false)<|.go (.L0 a0 a1 0) [.relab 1003 30000000]
def Z1z : LF Zke Bool := ⟨80, [.t 4], false, fun | .L0 .. => [1,1,0,1,4],
 fun | .L0 v0 E0 v5 => ⟨65, [(0, (wL Zat v0)), (3, (.bptr 30000000 0)), (5, (wI v5))], [(30000000, .box (bx (Zr E0)))]⟩,
 fun r => [], fun r => (wB r), fun | .L0 v0 E0 v5 => Zqw v0 E0 v5⟩
def Zys (a0 : (List Zt)) (a1 : Za) : Option Bool := Z1z.run (Z1y a0 a1)
theorem Zmk (a0 : (List Zt)) (a1 : Za) {r : Bool} (h : Zys a0 a1 = some r) : Fn PR 80 [(wL Zat a0), (wA (Zr a1))] (wB r) := Z1z.fn h
inductive Zg1 where
 | L0 (v0 : (List Zj)) (v1 : (List Zj)) (v5 : Int)
def Zgl (v0 : (List Zj)) (v1 : (List Zj)) (v5 : Int) : LT Zg1 Bool :=
.len Zn v0<|.br (decide (v5 < (v0.length : Int))) (.idx Zn v0 v5 fun x3=>.idx Zn v1 v5 fun x5=>.br (!(Zw (Zn x3) (Zn x5))) (.rt false)<|.g0 (.L0 v0 v1 (IntKind.wrap .i64 (v5 + 1))))<|.rt true
def Zqx (a0 : (List Zj)) (a1 : (List Zj)) : LT Zg1 Bool :=
.len Zn a0<|.len Zn a1<|.br ((a0.length : Int) != (a1.length : Int)) (.rt false)<|.g0 (.L0 a0 a1 0)
def Zml : LF Zg1 Bool := ⟨106, [.t 4], false, fun | .L0 .. => [1,1,0,1,4],
 fun | .L0 v0 v1 v5 => ⟨26, [(0, (wL Zn v0)), (1, (wL Zn v1)), (5, (wI v5))], []⟩,
 fun r => [], fun r => (wB r), fun | .L0 v0 v1 v5 => Zgl v0 v1 v5⟩
def Zlj (a0 : (List Zj)) (a1 : (List Zj)) : Option Bool := Zml.run (Zqx a0 a1)
theorem Zxf (a0 : (List Zj)) (a1 : (List Zj)) {r : Bool} (h : Zlj a0 a1 = some r) : Fn PR 106 [(wL Zn a0), (wL Zn a1)] (wB r) := Zml.fn h
def Z02 (a0 : Zl) (a1 : Zl) : LT Empty Bool :=
.lb 1002<|.lb 1003<|.cs (a0.Op == a1.Op) (.kg 0<|.kg 0<|.kg 0<|.kg 0<|.kg 0<|.kg 0<|.cs (Zw (Zcu a0.Ref) (Zcu a1.Ref)) (.kg 1<|.kg 1<|.kg 1<|.kg 1<|.kg 1<|.kg 1<|.cs (Zw (Zbc a0.Amount) (Zbc a1.Amount)) (.kg 2<|.kg 2<|.kg 2<|.kg 2<|.kg 2<|.kg 2<|.cs (a0.Counter == a1.Counter) (.kg 3<|.kg 3<|.kg 3<|.kg 3<|.kg 3<|.kg 3<|.cs (a0.Zone == a1.Zone) (.kg 4<|.kg 4<|.kg 4<|.kg 4<|.kg 4<|.kg 4<|.cs (a0.Card == a1.Card) (.kg 5<|.kg 5<|.kg 5<|.kg 5<|.kg 5<|.kg 5<|.cs (Zw (Zq a0.Filter) (Zq a1.Filter)) (.kg 6<|.kg 6<|.kg 6<|.kg 6<|.kg 6<|.kg 6<|.cs (Zw ((cA6 (cI .i64)) a0.Pool) ((cA6 (cI .i64)) a1.Pool)) (.kg 7<|.kg 7<|.kg 7<|.kg 7<|.kg 7<|.call (Zxf a0.Mods a1.Mods) fun x9=>.kg 7<|.rt x9)<|.kg 7<|.kg 7<|.kg 7<|.kg 7<|.kg 7<|.kg 7<|.rt false)<|.kg 6<|.kg 6<|.kg 6<|.kg 6<|.kg 6<|.kg 6<|.kb false<|.kb false<|.kb false<|.kb false<|.kb false<|.kb false<|.rt false)<|.kg 5<|.kg 5<|.kg 5<|.kg 5<|.kg 5<|.kg 5<|.kb false<|.kb false<|.kb false<|.kb false<|.kb false<|.kb false<|.kb false<|.kb false<|.kb false<|.kb false<|.kb false<|.kb false<|.rt false)<|.kg 4<|.kg 4<|.kg 4<|.kg 4<|.kg 4<|.kg 4<|.kb false<|.kb false<|.kb false<|.kb false<|.kb false<|.kb false<|.kb false<|.kb false<|.kb false<|.kb false<|.kb false<|.kb false<|.kb false<|.kb false<|.kb false<|.kb false<|.kb false<|.kb false<|.rt false)<|.kg 3<|.kg 3<|.kg 3<|.kg 3<|.kg 3<|.kg 3<|.kb false<|.kb false<|.kb false<|.kb false<|.kb false<|.kb false<|.kb false<|.kb false<|.kb false<|.kb false<|.kb false<|.kb false<|.kb false<|.kb false<|.kb false<|.kb false<|.kb false<|.kb false<|.kb false<|.kb false<|.kb false<|.kb false<|.kb false<|.kb false<|.rt false)<|.kg 2<|.kg 2<|.kg 2<|.kg 2<|.kg 2<|.kg 2<|.kb false<|.kb false<|.kb false<|.kb false<|.kb false<|.kb false<|.kb false<|.kb false<|.kb false<|.kb false<|.kb false<|.kb false<|.kb false<|.kb false<|.kb false<|.kb false<|.kb false<|.kb false<|.kb false<|.kb false<|.kb false<|.kb false<|.kb false<|.kb false<|.kb false<|.kb false<|.kb false<|.kb false<|.kb false<|.kb false<|.rt false)<|.kg 1<|.kg 1<|.kg 1<|.kg 1<|.kg 1<|.kg 1<|.kb false<|.kb false<|.kb false<|.kb false<|.kb false<|.kb false<|.kb false<|.kb false<|.kb false<|.kb false<|.kb false<|.kb false<|.kb false<|.kb false<|.kb false<|.kb false<|.kb false<|.kb false<|.kb false<|.kb false<|.kb false<|.kb false<|.kb false<|.kb false<|.kb false<|.kb false<|.kb false<|.kb false<|.kb false<|.kb false<|.kb false<|.kb false<|.kb false<|.kb false<|.kb false<|.kb false<|.rt false)<|.kg 0<|.kg 0<|.kg 0<|.kg 0<|.kg 0<|.kg 0<|.kb false<|.kb false<|.kb false<|.kb false<|.kb false<|.kb false<|.kb false<|.kb false<|.kb false<|.kb false<|.kb false<|.kb false<|.kb false<|.kb false<|.kb false<|.kb false<|.kb false<|.kb false<|.kb false<|.kb false<|.kb false<|.kb false<|.kb false<|.kb false<|.kb false<|.kb false<|.kb false<|.kb false<|.kb false<|.kb false<|.kb false<|.kb false<|.kb false<|.kb false<|.kb false<|.kb false<|.kb false<|.kb false<|.kb false<|.kb false<|.kb false<|.kb false<|.rt false
def Zacr : LF Empty Bool := .z 126 [.t 4] false (fun r => []) (fun r => (wB r))
def Zvt (a0 : Zl) (a1 : Zl) : Option Bool := Zacr.run (Z02 a0 a1)
theorem Zam8 (a0 : Zl) (a1 : Zl) {r : Bool} (h : Zvt a0 a1 = some r) : Fn PR 126 [(wA (Zo a0)), (wA (Zo a1))] (wB r) := Zacr.fn h
inductive Zg2 where
 | L0 (v0 : (List Zl)) (v1 : (List Zl)) (v5 : Int)
def Zgm (v0 : (List Zl)) (v1 : (List Zl)) (v5 : Int) : LT Zg2 Bool :=
.len Zo v0<|.br (decide (v5 < (v0.length : Int))) (.idx Zo v0 v5 fun x3=>.idx Zo v1 v5 fun x5=>.call (Zam8 x3 x5) fun x7=>.br (!x7) (.rt false)<|.g0 (.L0 v0 v1 (IntKind.wrap .i64 (v5 + 1))))<|.rt true
def Zqy (a0 : (List Zl)) (a1 : (List Zl)) : LT Zg2 Bool :=
.len Zo a0<|.len Zo a1<|.br ((a0.length : Int) != (a1.length : Int)) (.rt false)<|.g0 (.L0 a0 a1 0)
def Zmm : LF Zg2 Bool := ⟨107, [.t 4], false, fun | .L0 .. => [1,1,0,1,4],
 fun | .L0 v0 v1 v5 => ⟨27, [(0, (wL Zo v0)), (1, (wL Zo v1)), (5, (wI v5))], []⟩,
 fun r => [], fun r => (wB r), fun | .L0 v0 v1 v5 => Zgm v0 v1 v5⟩
def Zlk (a0 : (List Zl)) (a1 : (List Zl)) : Option Bool := Zmm.run (Zqy a0 a1)
theorem Zacs (a0 : (List Zl)) (a1 : (List Zl)) {r : Bool} (h : Zlk a0 a1 = some r) : Fn PR 107 [(wL Zo a0), (wL Zo a1)] (wB r) := Zmm.fn h
inductive Zmn where
 | L0 (E0 : Zk) (E1 : Zk) (v5 : Int)
def Zip (E0 : Zk) (E1 : Zk) (v5 : Int) : LT Zmn Bool :=
.len Zx E0.Specs<|.br (decide (v5 < (E0.Specs.length : Int))) (.idx Zx E0.Specs v5 fun x3=>.idx Zx E1.Specs v5 fun x5=>.br (!(Zw (Zx x3) (Zx x5))) (.rt false)<|.g0 (.L0 E0 E1 (IntKind.wrap .i64 (v5 + 1))))<|.cs (E0.Kind == E1.Kind) (.kg 1<|.kg 1<|.kg 1<|.kg 1<|.kg 1<|.kg 1<|.cs (Zw (Zq E0.Filter) (Zq E1.Filter)) (.kg 2<|.kg 2<|.kg 2<|.kg 2<|.kg 2<|.call (Zxf E0.Mods E1.Mods) fun x12=>.kg 2<|.cs x12 (.kg 3<|.kg 3<|.kg 3<|.kg 3<|.kg 3<|.kg 3<|.cs (Zw (Zda E0.Price) (Zda E1.Price)) (.kg 4<|.kg 4<|.kg 4<|.kg 4<|.kg 4<|.kg 4<|.cs (E0.Slow == E1.Slow) (.kg 5<|.kg 5<|.kg 5<|.kg 5<|.kg 5<|.kg 5<|.cs (Zw (Zb8 E0.Trigger) (Zb8 E1.Trigger)) (.kg 6<|.kg 6<|.kg 6<|.kg 6<|.kg 6<|.kg 6<|.cs (E0.May == E1.May) (.kg 7<|.kg 7<|.kg 7<|.kg 7<|.kg 7<|.call (Zacs E0.Effects E1.Effects) fun x19=>.kg 7<|.cs x19 (.kg 8<|.kg 8<|.kg 8<|.kg 8<|.kg 8<|.kg 8<|.rt (Zw (Zbu E0.Replace) (Zbu E1.Replace)))<|.kg 8<|.kg 8<|.kg 8<|.kg 8<|.kg 8<|.kg 8<|.rt false)<|.kg 7<|.kg 7<|.kg 7<|.kg 7<|.kg 7<|.kg 7<|.kb false<|.kb false<|.kb false<|.kb false<|.kb false<|.kb false<|.rt false)<|.kg 6<|.kg 6<|.kg 6<|.kg 6<|.kg 6<|.kg 6<|.kb false<|.kb false<|.kb false<|.kb false<|.kb false<|.kb false<|.kb false<|.kb false<|.kb false<|.kb false<|.kb false<|.kb false<|.rt false)<|.kg 5<|.kg 5<|.kg 5<|.kg 5<|.kg 5<|.kg 5<|.kb false<|.kb false<|.kb false<|.kb false<|.kb false<|.kb false<|.kb false<|.kb false<|.kb false<|.kb false<|.kb false<|.kb false<|.kb false<|.kb false<|.kb false<|.kb false<|.kb false<|.kb false<|.rt false)<|.kg 4<|.kg 4<|.kg 4<|.kg 4<|.kg 4<|.kg 4<|.kb false<|.kb false<|.kb false<|.kb false<|.kb false<|.kb false<|.kb false<|.kb false<|.kb false<|.kb false<|.kb false<|.kb false<|.kb false<|.kb false<|.kb false<|.kb false<|.kb false<|.kb false<|.kb false<|.kb false<|.kb false<|.kb false<|.kb false<|.kb false<|.rt false)<|.kg 3<|.kg 3<|.kg 3<|.kg 3<|.kg 3<|.kg 3<|.kb false<|.kb false<|.kb false<|.kb false<|.kb false<|.kb false<|.kb false<|.kb false<|.kb false<|.kb false<|.kb false<|.kb false<|.kb false<|.kb false<|.kb false<|.kb false<|.kb false<|.kb false<|.kb false<|.kb false<|.kb false<|.kb false<|.kb false<|.kb false<|.kb false<|.kb false<|.kb false<|.kb false<|.kb false<|.kb false<|.rt false)<|.kg 2<|.kg 2<|.kg 2<|.kg 2<|.kg 2<|.kg 2<|.kb false<|.kb false<|.kb false<|.kb false<|.kb false<|.kb false<|.kb false<|.kb false<|.kb false<|.kb false<|.kb false<|.kb false<|.kb false<|.kb false<|.kb false<|.kb false<|.kb false<|.kb false<|.kb false<|.kb false<|.kb false<|.kb false<|.kb false<|.kb false<|.kb false<|.kb false<|.kb false<|.kb false<|.kb false<|.kb false<|.kb false<|.kb false<|.kb false<|.kb false<|.kb false<|.kb false<|.rt false)<|.kg 1<|.kg 1<|.kg 1<|.kg 1<|.kg 1<|.kg 1<|.kb false<|.kb false<|.kb false<|.kb false<|.kb false<|.kb false<|.kb false<|.kb false<|.kb false<|.kb false<|.kb false<|.kb false<|.kb false<|.kb false<|.kb false<|.kb false<|.kb false<|.kb false<|.kb false<|.kb false<|.kb false<|.kb false<|.kb false<|.kb false<|.kb false<|.kb false<|.kb false<|.kb false<|.kb false<|.kb false<|.kb false<|.kb false<|.kb false<|.kb false<|.kb false<|.kb false<|.kb false<|.kb false<|.kb false<|.kb false<|.kb false<|.kb false<|.rt false
def Z03 (a0 : Zk) (a1 : Zk) : LT Zmn Bool :=
.lb 1002<|.lb 1003<|.len Zx a0.Specs<|.len Zx a1.Specs<|.br ((a0.Specs.length : Int) != (a1.Specs.length : Int)) (.rt false)<|.go (.L0 a0 a1 0) [.relab 1002 30000000, .relab 1003 30000001]
def Z04 : LF Zmn Bool := ⟨89, [.t 4], false, fun | .L0 .. => [1,1,0,1,4],
 fun | .L0 E0 E1 v5 => ⟨92, [(2, (.bptr 30000000 0)), (3, (.bptr 30000001 0)), (5, (wI v5))], [(30000000, .box (bx (Zah E0))), (30000001, .box (bx (Zah E1)))]⟩,
 fun r => [], fun r => (wB r), fun | .L0 E0 E1 v5 => Zip E0 E1 v5⟩
def Zvu (a0 : Zk) (a1 : Zk) : Option Bool := Z04.run (Z03 a0 a1)
theorem Zyt (a0 : Zk) (a1 : Zk) {r : Bool} (h : Zvu a0 a1 = some r) : Fn PR 89 [(wA (Zah a0)), (wA (Zah a1))] (wB r) := Z04.fn h
def Zact (a0 : Za) (a1 : Z6) : LT Empty Bool :=
.lb 1002<|.lb 1003<|.call (Zfp a1.Id 1 (IntKind.wrap .i64 (a0.NextId - 1))) fun x3=>.cs (!x3) (.kg 0<|.kg 0<|.kg 0<|.kg 0<|.kg 0<|.kb true<|.kb true<|.kb true<|.kb true<|.kb true<|.kb true<|.kb true<|.kb true<|.kb true<|.kb true<|.kb true<|.kn [0]<|.rt false)<|.kg 0<|.kg 0<|.kg 0<|.call (Zfp a1.X 0 1000000) fun x6=>.kg 0<|.kg 0<|.cs (!x6) (.kg 1<|.kg 1<|.kg 1<|.kg 1<|.kg 1<|.kb true<|.kb true<|.kb true<|.kb true<|.kb true<|.kb true<|.kn [0]<|.rt false)<|.kg 1<|.kg 1<|.kg 1<|.len Z1 a1.Targets<|.kg 1<|.kg 1<|.cs (decide ((a1.Targets.length : Int) > 4)) (.kg 2<|.kg 2<|.kg 2<|.kg 2<|.kg 2<|.kg 2<|.kn [0]<|.rt false)<|.kg 2<|.kg 2<|.kg 2<|.kg 2<|.call (Zho a0 a1.Control) fun x11=>.kg 2<|.kg 2<|.br (!x11) (.rt false)<|.call (Z1u a0 a1.Id) fun x14=>.lb 1005<|.br (a1.Kind == 1) (.call (Zyt a1.Ability (⟨0, (⟨0, 0, 0, 0, 0, 0, 0, ([] : List UInt8), 0, 0, (⟨0, 0⟩ : Zc), (⟨0, 0⟩ : Zc), (⟨0, 0⟩ : Zc)⟩ : Zh), ([] : (List Zj)), (⟨(⟨0, 0, (⟨0, 0, 0, 0, 0⟩ : (A5 Int))⟩ : Zay), false, false, 0⟩ : Ze5), false, (⟨0, 0, (⟨0, 0, 0, 0, 0, 0, 0, ([] : List UInt8), 0, 0, (⟨0, 0⟩ : Zc), (⟨0, 0⟩ : Zc), (⟨0, 0⟩ : Zc)⟩ : Zh)⟩ : Zce), false, ([] : (List Zaz)), ([] : (List Zl)), (⟨0, 0, (⟨0, 0, 0, 0, 0, 0, 0, ([] : List UInt8), 0, 0, (⟨0, 0⟩ : Zc), (⟨0, 0⟩ : Zc), (⟨0, 0⟩ : Zc)⟩ : Zh), 0, 0, 0, 0⟩ : Za3)⟩ : Zk)) fun x17=>.cs (a1.Source == a1.Id) (.kg 5<|.kg 5<|.cs x14.2 (.kg 6<|.kg 6<|.kg 6<|.kg 6<|.cs (x14.1.Zone == 5) (.kg 7<|.kg 7<|.cs x17 (.kg 8<|.kg 8<|.kg 8<|.kg 7<|.kg 8<|.kg 7<|.rt true)<|.kg 8<|.kg 8<|.kg 8<|.call (Zxe a1.Ability) fun x23=>.kg 7<|.kg 8<|.kg 7<|.rt x23)<|.kg 7<|.kg 7<|.kg 7<|.kg 7<|.rt false)<|.kg 6<|.kg 6<|.kg 6<|.kg 6<|.kb false<|.kb false<|.kb false<|.kb false<|.rt false)<|.kg 5<|.kg 5<|.kb false<|.kb false<|.kb false<|.kb false<|.kb false<|.kb false<|.kb false<|.kb false<|.rt false)<|.cs (a1.Kind == 2) (.kg 5<|.kg 5<|.kg 5<|.cs (!x14.2) (.kg 6<|.kg 6<|.kg 6<|.call (Zxe a1.Ability) fun x27=>.kg 6<|.rt x27)<|.kg 6<|.kg 6<|.kg 6<|.kg 6<|.rt false)<|.kg 5<|.kg 5<|.kg 5<|.kb false<|.kb false<|.kb false<|.kb false<|.rt false
def Zacu : LF Empty Bool := .z 103 [.t 4] false (fun r => []) (fun r => (wB r))
def Z9l (a0 : Za) (a1 : Z6) : Option Bool := Zacu.run (Zact a0 a1)
theorem Zam9 (a0 : Za) (a1 : Z6) {r : Bool} (h : Z9l a0 a1 = some r) : Fn PR 103 [(wA (Zr a0)), (wA (Ze a1))] (wB r) := Zacu.fn h
inductive Zvv where
 | L0 (v0 : (List Int)) (v3 : Int)
def Z4d (v0 : (List Int)) (v3 : Int) : LT Zvv Bool :=
.len (cI .i64) v0<|.br (decide (v3 < (v0.length : Int))) (.idx (cI .i64) v0 (IntKind.wrap .i64 (v3 - 1)) fun x5=>.idx (cI .i64) v0 v3 fun x7=>.br (decide (x5 ≥ x7)) (.rt false)<|.g0 (.L0 v0 (IntKind.wrap .i64 (v3 + 1))))<|.rt true
def Zakt (a0 : (List Int)) : LT Zvv Bool :=
.g0 (.L0 a0 1)
def Zaku : LF Zvv Bool := ⟨104, [.t 2], false, fun | .L0 .. => [1,0,1,4],
 fun | .L0 v0 v3 => ⟨20, [(0, (wL (cI .i64) v0)), (3, (wI v3))], []⟩,
 fun r => [], fun r => (wB r), fun | .L0 v0 v3 => Z4d v0 v3⟩
def Zakv (a0 : (List Int)) : Option Bool := Zaku.run (Zakt a0)
theorem Zaqe (a0 : (List Int)) {r : Bool} (h : Zakv a0 = some r) : Fn PR 104 [(wL (cI .i64) a0)] (wB r) := Zaku.fn h
inductive Zhx where
 | L0 (E0 : Za) (v3 : Int)
 | L1 (E0 : Za) (v3 : Int) (v4 : Int)
 | L2 (E0 : Za) (v5 : Int)
 | L3 (E0 : Za) (v7 : Int)
def Zvw (E0 : Za) (v3 : Int) : LT Zhx Bool :=
.len Ze E0.Stack<|.br (decide (v3 < (E0.Stack.length : Int))) (.idx Ze E0.Stack v3 fun x3=>.call (Zam9 E0 x3) fun x5=>.br (!x5) (.rt false)<|.g0 (.L1 E0 v3 0))<|.g0 (.L2 E0 0)
def Zvx (E0 : Za) (v3 : Int) (v4 : Int) : LT Zhx Bool :=
.br (decide (v4 < v3)) (.idx Ze E0.Stack v4 fun x2=>.idx Ze E0.Stack v3 fun x4=>.br (x2.Id == x4.Id) (.rt false)<|.g0 (.L1 E0 v3 (IntKind.wrap .i64 (v4 + 1))))<|.g0 (.L0 E0 (IntKind.wrap .i64 (v3 + 1)))
def Zvy (E0 : Za) (v5 : Int) : LT Zhx Bool :=
.len Zd E0.Waiting<|.br (decide (v5 < (E0.Waiting.length : Int))) (.idx Zd E0.Waiting v5 fun x3=>.lb 1006<|.call (Zho E0 x3.Control) fun x5=>.cs (!x5) (.kg 1<|.kg 1<|.kg 1<|.kg 1<|.kg 1<|.kb true<|.kb true<|.kb true<|.kb true<|.kb true<|.kn [0]<|.rt false)<|.kg 1<|.kg 1<|.kg 1<|.kg 1<|.kg 1<|.cs (x3.Ability.Kind != 4) (.kg 2<|.kg 2<|.kg 2<|.kg 2<|.kg 2<|.kn [0]<|.rt false)<|.kg 2<|.kg 2<|.kg 2<|.call (Zxe x3.Ability) fun x9=>.kg 2<|.kg 2<|.br (!x9) (.rt false)<|.g0 (.L2 E0 (IntKind.wrap .i64 (v5 + 1))))<|.g0 (.L3 E0 0)
def Zvz (E0 : Za) (v7 : Int) : LT Zhx Bool :=
.len Zi E0.Conts<|.br (decide (v7 < (E0.Conts.length : Int))) (.idx Zi E0.Conts v7 fun x3=>.lb 1008<|.call (Zho E0 x3.Control) fun x5=>.cs (!x5) (.kg 1<|.kg 1<|.kg 1<|.kg 1<|.kg 1<|.kg 1<|.kb true<|.kb true<|.kb true<|.kb true<|.kb true<|.kb true<|.kb true<|.kb true<|.kb true<|.kb true<|.kb true<|.kb true<|.kb true<|.kb true<|.kb true<|.kn [0]<|.rt false)<|.kg 1<|.kg 1<|.kg 1<|.kg 1<|.kg 1<|.kg 1<|.cs (decide (x3.Stamp ≥ E0.NextStamp)) (.kg 2<|.kg 2<|.kg 2<|.kg 2<|.kg 2<|.kb true<|.kb true<|.kb true<|.kb true<|.kb true<|.kb true<|.kb true<|.kb true<|.kb true<|.kb true<|.kn [0]<|.rt false)<|.kg 2<|.kg 2<|.kg 2<|.call (Zfp x3.Until 1 2) fun x9=>.kg 2<|.kg 2<|.cs (!x9) (.kg 3<|.kg 3<|.kg 3<|.kg 3<|.kg 3<|.kb true<|.kb true<|.kb true<|.kb true<|.kb true<|.kn [0]<|.rt false)<|.kg 3<|.kg 3<|.kg 3<|.call (Zaqe x3.Objects) fun x12=>.kg 3<|.kg 3<|.cs (!x12) (.kg 4<|.kg 4<|.kg 4<|.kg 4<|.kg 4<|.kn [0]<|.rt false)<|.kg 4<|.kg 4<|.kg 4<|.call (Zpk x3.Mods) fun x15=>.kg 4<|.kg 4<|.br (x15 == ([] : List UInt8)) (.rt false)<|.g0 (.L3 E0 (IntKind.wrap .i64 (v7 + 1))))<|.rt true
def Z7u (a0 : Za) : LT Zhx Bool :=
.lb 1001<|.len Ze a0.Stack<|.cs (decide ((a0.Stack.length : Int) > 64)) (.kg 0<|.kg 0<|.kg 0<|.kg 0<|.kg 0<|.kb true<|.kb true<|.kb true<|.kb true<|.kb true<|.kn [0]<|.rt false)<|.kg 0<|.kg 0<|.kg 0<|.len Zd a0.Waiting<|.kg 0<|.kg 0<|.cs (decide ((a0.Waiting.length : Int) > 64)) (.kg 1<|.kg 1<|.kg 1<|.kg 1<|.kg 1<|.kn [0]<|.rt false)<|.kg 1<|.kg 1<|.kg 1<|.len Zi a0.Conts<|.kg 1<|.kg 1<|.br (decide ((a0.Conts.length : Int) > 64)) (.rt false)<|.go (.L0 a0 0) [.relab 1001 30000000]
def Z7v : LF Zhx Bool := ⟨81, [.t 2], false, fun | .L0 .. => [1,1,0,1,4] | .L1 .. => [1,1,0,1,4,5,1,0,4,1,1,4] | .L2 .. => [1,1,1,0,1,4] | .L3 .. => [1,1,1,1,0,1,4],
 fun | .L0 E0 v3 => ⟨129, [(1, (.bptr 30000000 0)), (3, (wI v3))], [(30000000, .box (bx (Zr E0)))]⟩ | .L1 E0 v3 v4 => ⟨129, [(1, (.bptr 30000000 0)), (3, (wI v3)), (4, (wI v4))], [(30000000, .box (bx (Zr E0)))]⟩ | .L2 E0 v5 => ⟨129, [(1, (.bptr 30000000 0)), (5, (wI v5))], [(30000000, .box (bx (Zr E0)))]⟩ | .L3 E0 v7 => ⟨129, [(1, (.bptr 30000000 0)), (7, (wI v7))], [(30000000, .box (bx (Zr E0)))]⟩,
 fun r => [], fun r => (wB r), fun | .L0 E0 v3 => Zvw E0 v3 | .L1 E0 v3 v4 => Zvx E0 v3 v4 | .L2 E0 v5 => Zvy E0 v5 | .L3 E0 v7 => Zvz E0 v7⟩
def Z4e (a0 : Za) : Option Bool := Z7v.run (Z7u a0)
theorem Zpp (a0 : Za) {r : Bool} (h : Z4e a0 = some r) : Fn PR 81 [(wA (Zr a0))] (wB r) := Z7v.fn h
inductive Zv0 where
 | L0 (v0 : (List Zt)) (E0 : Za) (v5 : Int)
def Z4f (v0 : (List Zt)) (E0 : Za) (v5 : Int) : LT Zv0 Bool :=
.len (cI .i64) E0.Extra<|.br (decide (v5 < (E0.Extra.length : Int))) (.idx (cI .i64) E0.Extra v5 fun x3=>.call (Zho E0 x3) fun x5=>.br (!x5) (.rt false)<|.g0 (.L0 v0 E0 (IntKind.wrap .i64 (v5 + 1))))<|.cs (E0.Over == 1) (.kg 1<|.kg 1<|.kg 1<|.kg 1<|.call (Zho E0 E0.Winner) fun x11=>.kg 1<|.kg 1<|.cs (!x11) (.kg 2<|.kg 2<|.kg 2<|.kg 2<|.kg 2<|.kg 2<|.kn [0]<|.rt false)<|.kg 2<|.kg 2<|.kg 2<|.kg 2<|.cs (E0.Over != 1) (.kg 3<|.kg 3<|.kg 3<|.kg 2<|.kg 3<|.kg 2<|.br (E0.Winner != (-1)) (.rt false)<|.call (Zmk v0 E0) fun x16=>.cs x16 (.kg 5<|.kg 5<|.call (Zpp E0) fun x19=>.kg 5<|.rt x19)<|.kg 5<|.kg 5<|.kg 5<|.rt false)<|.kg 3<|.kg 3<|.kg 3<|.kg 2<|.kg 3<|.kg 2<|.kn [0]<|.call (Zmk v0 E0) fun x21=>.cs x21 (.kg 4<|.kg 4<|.call (Zpp E0) fun x24=>.kg 4<|.rt x24)<|.kg 4<|.kg 4<|.kg 4<|.rt false)<|.kg 1<|.kg 1<|.kg 1<|.kg 1<|.kg 1<|.kg 1<|.kb false<|.kb false<|.kb false<|.kb false<|.cs (E0.Over != 1) (.kg 2<|.kg 2<|.kg 2<|.kb false<|.kg 2<|.kb false<|.br (E0.Winner != (-1)) (.rt false)<|.call (Zmk v0 E0) fun x28=>.cs x28 (.kg 4<|.kg 4<|.call (Zpp E0) fun x31=>.kg 4<|.rt x31)<|.kg 4<|.kg 4<|.kg 4<|.rt false)<|.kg 2<|.kg 2<|.kg 2<|.kb false<|.kg 2<|.kb false<|.kn [0]<|.call (Zmk v0 E0) fun x33=>.cs x33 (.kg 3<|.kg 3<|.call (Zpp E0) fun x36=>.kg 3<|.rt x36)<|.kg 3<|.kg 3<|.kg 3<|.rt false
def Zakw (a0 : (List Zt)) (a1 : Za) : LT Zv0 Bool :=
.lb 1003<|.call (Zfp a1.NextId 1 1000000) fun x1=>.cs (!x1) (.kg 0<|.kg 0<|.kg 0<|.kg 0<|.kg 0<|.kb true<|.kb true<|.kb true<|.kb true<|.kb true<|.kb true<|.kb true<|.kb true<|.kb true<|.kb true<|.kb true<|.kb true<|.kb true<|.kb true<|.kb true<|.kn [0]<|.rt false)<|.kg 0<|.kg 0<|.kg 0<|.call (Zfp a1.NextStamp 1 1000000) fun x4=>.kg 0<|.kg 0<|.cs (!x4) (.kg 1<|.kg 1<|.kg 1<|.kg 1<|.kg 1<|.kb true<|.kb true<|.kb true<|.kb true<|.kb true<|.kb true<|.kb true<|.kb true<|.kb true<|.kb true<|.kn [0]<|.rt false)<|.kg 1<|.kg 1<|.kg 1<|.call (Zfp a1.Turn 0 500) fun x7=>.kg 1<|.kg 1<|.cs (!x7) (.kg 2<|.kg 2<|.kg 2<|.kg 2<|.kg 2<|.kb true<|.kb true<|.kb true<|.kb true<|.kb true<|.kn [0]<|.rt false)<|.kg 2<|.kg 2<|.kg 2<|.call (Zfp a1.Step 0 10) fun x10=>.kg 2<|.kg 2<|.cs (!x10) (.kg 3<|.kg 3<|.kg 3<|.kg 3<|.kg 3<|.kn [0]<|.rt false)<|.kg 3<|.kg 3<|.kg 3<|.len Zb a1.Objects<|.kg 3<|.kg 3<|.br (decide ((a1.Objects.length : Int) > 2048)) (.rt false)<|.call (Zae5 a1) fun x15=>.cs (!x15) (.kg 5<|.kg 5<|.kg 5<|.kg 5<|.kg 5<|.kg 5<|.kb true<|.kb true<|.kb true<|.kb true<|.kb true<|.kb true<|.kb true<|.kb true<|.kb true<|.kb true<|.kb true<|.kb true<|.kb true<|.kb true<|.kb true<|.kb true<|.kb true<|.kb true<|.kb true<|.kb true<|.kb true<|.kb true<|.kb true<|.kb true<|.kn [0]<|.rt false)<|.kg 5<|.kg 5<|.kg 5<|.kg 5<|.call (Zho a1 a1.Active) fun x18=>.kg 5<|.kg 5<|.cs (!x18) (.kg 6<|.kg 6<|.kg 6<|.kg 6<|.kg 6<|.kg 6<|.kb true<|.kb true<|.kb true<|.kb true<|.kb true<|.kb true<|.kb true<|.kb true<|.kb true<|.kb true<|.kb true<|.kb true<|.kb true<|.kb true<|.kb true<|.kb true<|.kb true<|.kb true<|.kn [0]<|.rt false)<|.kg 6<|.kg 6<|.kg 6<|.kg 6<|.call (Zho a1 a1.Priority) fun x21=>.kg 6<|.kg 6<|.cs (!x21) (.kg 7<|.kg 7<|.kg 7<|.kg 7<|.kg 7<|.kg 7<|.kg 7<|.kg 7<|.kb true<|.kb true<|.kb true<|.kb true<|.kb true<|.kb true<|.kb true<|.kb true<|.kb true<|.kb true<|.kn [0]<|.rt false)<|.kg 7<|.kg 7<|.kg 7<|.kg 7<|.kg 7<|.len Zf a1.Players<|.kg 7<|.call (Zfp a1.Passes 0 (a1.Players.length : Int)) fun x25=>.kg 7<|.kg 7<|.cs (!x25) (.kg 8<|.kg 8<|.kg 8<|.kg 8<|.kg 8<|.kb true<|.kb true<|.kb true<|.kb true<|.kb true<|.kn [0]<|.rt false)<|.kg 8<|.kg 8<|.kg 8<|.len (cI .i64) a1.Extra<|.kg 8<|.kg 8<|.cs (decide ((a1.Extra.length : Int) > 500)) (.kg 9<|.kg 9<|.kg 9<|.kg 9<|.kg 9<|.kn [0]<|.rt false)<|.kg 9<|.kg 9<|.kg 9<|.call (Zfp a1.Over 0 2) fun x30=>.kg 9<|.kg 9<|.br (!x30) (.rt false)<|.go (.L0 a0 a1 0) [.relab 1003 30000000]
def Zakx : LF Zv0 Bool := ⟨50, [.t 4], false, fun | .L0 .. => [1,1,1,0,1,4],
 fun | .L0 v0 E0 v5 => ⟨114, [(0, (wL Zat v0)), (3, (.bptr 30000000 0)), (5, (wI v5))], [(30000000, .box (bx (Zr E0)))]⟩,
 fun r => [], fun r => (wB r), fun | .L0 v0 E0 v5 => Z4f v0 E0 v5⟩
def Zaky (a0 : (List Zt)) (a1 : Za) : Option Bool := Zakx.run (Zakw a0 a1)
theorem Zaqf (a0 : (List Zt)) (a1 : Za) {r : Bool} (h : Zaky a0 a1 = some r) : Fn PR 50 [(wL Zat a0), (wA (Zr a1))] (wB r) := Zakx.fn h
inductive Znh where
 | L0 (v0 : (List Zt)) (E0 : Za) (v5 : Int)
def Zv1 (v0 : (List Zt)) (E0 : Za) (v5 : Int) : LT Znh Bool :=
.len Zf E0.Players<|.br (decide (v5 < (E0.Players.length : Int))) (.idx Zf E0.Players v5 fun x3=>.len (cI .i64) x3.Library<|.ag Zf x3 0<|.len (cI .i64) x3.Hand<|.ag Zf x3 0<|.len (cI .i64) x3.Graveyard<|.br (decide ((IntKind.wrap .i64 ((IntKind.wrap .i64 ((x3.Library.length : Int) + (x3.Hand.length : Int))) + (x3.Graveyard.length : Int))) > 60)) (.rt false)<|.g0 (.L0 v0 E0 (IntKind.wrap .i64 (v5 + 1))))<|.call (Zakf v0) fun x15=>.cs (x15.2 == 0) (.kg 1<|.kg 1<|.kg 1<|.call (Zaqf v0 E0) fun x18=>.kg 1<|.rt x18)<|.kg 1<|.kg 1<|.kg 1<|.kg 1<|.rt false
def Z7w (a0 : (List Zt)) (a1 : Za) : LT Znh Bool :=
.lb 1003<|.len Zat a0<|.cs (decide ((a0.length : Int) > 12)) (.kg 0<|.kg 0<|.kg 0<|.kg 0<|.kg 0<|.kb true<|.kb true<|.kb true<|.kb true<|.kb true<|.kb true<|.kb true<|.kb true<|.kb true<|.kb true<|.kb true<|.kb true<|.kb true<|.kb true<|.kb true<|.kb true<|.kb true<|.kb true<|.kb true<|.kb true<|.kb true<|.kb true<|.kb true<|.kb true<|.kb true<|.kb true<|.kb true<|.kb true<|.kb true<|.kb true<|.kb true<|.kb true<|.kb true<|.kb true<|.kb true<|.kn [0]<|.rt false)<|.kg 0<|.kg 0<|.kg 0<|.len Zf a1.Players<|.kg 0<|.kg 0<|.cs (decide ((a1.Players.length : Int) > 4)) (.kg 1<|.kg 1<|.kg 1<|.kg 1<|.kg 1<|.kb true<|.kb true<|.kb true<|.kb true<|.kb true<|.kb true<|.kb true<|.kb true<|.kb true<|.kb true<|.kb true<|.kb true<|.kb true<|.kb true<|.kb true<|.kb true<|.kb true<|.kb true<|.kb true<|.kb true<|.kb true<|.kb true<|.kb true<|.kb true<|.kb true<|.kb true<|.kb true<|.kb true<|.kb true<|.kb true<|.kn [0]<|.rt false)<|.kg 1<|.kg 1<|.kg 1<|.len Zb a1.Objects<|.kg 1<|.kg 1<|.cs (decide ((a1.Objects.length : Int) > 60)) (.kg 2<|.kg 2<|.kg 2<|.kg 2<|.kg 2<|.kb true<|.kb true<|.kb true<|.kb true<|.kb true<|.kb true<|.kb true<|.kb true<|.kb true<|.kb true<|.kb true<|.kb true<|.kb true<|.kb true<|.kb true<|.kb true<|.kb true<|.kb true<|.kb true<|.kb true<|.kb true<|.kb true<|.kb true<|.kb true<|.kb true<|.kn [0]<|.rt false)<|.kg 2<|.kg 2<|.kg 2<|.len (cI .i64) a1.Battlefield<|.kg 2<|.kg 2<|.cs (decide ((a1.Battlefield.length : Int) > 60)) (.kg 3<|.kg 3<|.kg 3<|.kg 3<|.kg 3<|.kb true<|.kb true<|.kb true<|.kb true<|.kb true<|.kb true<|.kb true<|.kb true<|.kb true<|.kb true<|.kb true<|.kb true<|.kb true<|.kb true<|.kb true<|.kb true<|.kb true<|.kb true<|.kb true<|.kb true<|.kn [0]<|.rt false)<|.kg 3<|.kg 3<|.kg 3<|.len (cI .i64) a1.Exile<|.kg 3<|.kg 3<|.cs (decide ((a1.Exile.length : Int) > 60)) (.kg 4<|.kg 4<|.kg 4<|.kg 4<|.kg 4<|.kb true<|.kb true<|.kb true<|.kb true<|.kb true<|.kb true<|.kb true<|.kb true<|.kb true<|.kb true<|.kb true<|.kb true<|.kb true<|.kb true<|.kb true<|.kn [0]<|.rt false)<|.kg 4<|.kg 4<|.kg 4<|.len Ze a1.Stack<|.kg 4<|.kg 4<|.cs (decide ((a1.Stack.length : Int) > 8)) (.kg 5<|.kg 5<|.kg 5<|.kg 5<|.kg 5<|.kb true<|.kb true<|.kb true<|.kb true<|.kb true<|.kb true<|.kb true<|.kb true<|.kb true<|.kb true<|.kn [0]<|.rt false)<|.kg 5<|.kg 5<|.kg 5<|.len Zd a1.Waiting<|.kg 5<|.kg 5<|.cs (decide ((a1.Waiting.length : Int) > 8)) (.kg 6<|.kg 6<|.kg 6<|.kg 6<|.kg 6<|.kb true<|.kb true<|.kb true<|.kb true<|.kb true<|.kn [0]<|.rt false)<|.kg 6<|.kg 6<|.kg 6<|.len Zi a1.Conts<|.kg 6<|.kg 6<|.cs (decide ((a1.Conts.length : Int) > 8)) (.kg 7<|.kg 7<|.kg 7<|.kg 7<|.kg 7<|.kn [0]<|.rt false)<|.kg 7<|.kg 7<|.kg 7<|.len (cI .i64) a1.Extra<|.kg 7<|.kg 7<|.br (decide ((a1.Extra.length : Int) > 20)) (.rt false)<|.go (.L0 a0 a1 0) [.relab 1003 30000000]
def Z7x : LF Znh Bool := ⟨20, [.t 4], false, fun | .L0 .. => [1,1,0,1,4],
 fun | .L0 v0 E0 v5 => ⟨102, [(0, (wL Zat v0)), (3, (.bptr 30000000 0)), (5, (wI v5))], [(30000000, .box (bx (Zr E0)))]⟩,
 fun r => [], fun r => (wB r), fun | .L0 v0 E0 v5 => Zv1 v0 E0 v5⟩
def Z4g (a0 : (List Zt)) (a1 : Za) : Option Bool := Z7x.run (Z7w a0 a1)
theorem Zakz (a0 : (List Zt)) (a1 : Za) {r : Bool} (h : Z4g a0 a1 = some r) : Fn PR 20 [(wL Zat a0), (wA (Zr a1))] (wB r) := Z7x.fn h
def Zagf (a0 : Z8) : LT Empty Bool :=
.lb 1001<|.call (Zakz a0.Cards a0.State) fun x1=>.cs x1 (.kg 0<|.kg 0<|.kg 0<|.kg 0<|.len Zp a0.Pending.Options<|.kg 0<|.kg 0<|.rt (decide ((a0.Pending.Options.length : Int) ≤ 100)))<|.kg 0<|.kg 0<|.kg 0<|.kg 0<|.kg 0<|.kg 0<|.rt false
def Zagg : LF Empty Bool := .z 8 [.t 2] false (fun r => []) (fun r => (wB r))
def Zae6 (a0 : Z8) : Option Bool := Zagg.run (Zagf a0)
theorem Zacv (a0 : Z8) {r : Bool} (h : Zae6 a0 = some r) : Fn PR 8 [(wA (Zcn a0))] (wB r) := Zagg.fn h
inductive Zyu where
 | L0 (E0 : Z8) (E1 : Za) (v2 : (List Int)) (v3 : Int)
def Zak0 (E0 : Z8) (E1 : Za) (v2 : (List Int)) (v3 : Int) : LT Zyu Z8 :=
.br (decide (v3 < 3)) (.dc ((2 : Int) ≠ 0) rfl<|.dc ((2 : Int) ≠ 0) rfl<|.idx (cI .i64) v2 v3 fun x4=>.dr [.lit]<|.apR Zb 128 E1.Objects [(⟨IntKind.wrap .i64 (v3 + 1), 0, Int.tmod v3 2, Int.tmod v3 2, x4, false, false, false, false, 0, (⟨0, 0, 0⟩ : (A3 Int)), 0, (-1), (-1), false, 0, 0⟩ : Zm)] fun x7=>.g0 (.L0 E0 (⟨E1.Players, x7, E1.Battlefield, E1.Exile, E1.Stack, E1.Waiting, E1.Conts, E1.Turn, E1.Active, E1.Step, E1.Begun, E1.Priority, E1.Passes, E1.NextId, E1.NextStamp, E1.Seed, E1.Extra, E1.Over, E1.Winner⟩ : Za) v2 (IntKind.wrap .i64 (v3 + 1))))<|.dr [.lit]<|.dr [.lit]<|.ret (⟨[(⟨([111, 97, 107] : List UInt8), false, (⟨0, 0, (⟨0, 0, 0, 0, 0⟩ : (A5 Int))⟩ : Zay), 0, (⟨0, 8, ([] : (List (List UInt8)))⟩ : Zg0), 0, 0, 0, ([] : (List Zk))⟩ : Zt)], E1, ([] : (List (List Int))), (⟨3, 0, 0, 0, 1, 0, [(⟨5, 3, 0⟩ : Z5)]⟩ : Za0), 0, ([] : (List Za))⟩ : Z8) [.relab 40000101 5002, .relab 40000102 5003, .relab 40000103 5004, .relab 40000104 5005, .relab 40000105 5006, .relab 40000106 5007, .relab 40000116 5017, .niltb 30000000 20, .niltb 30000000 29]
def Z7y : LT Zyu Z8 :=
.lb 1000<|.dr [.lit]<|.dr [.lit]<|.dr [.lit]<|.dr [.lit]<|.lb 1001<|.dr [.lit]<|.go (.L0 (⟨([] : (List Zt)), (⟨([] : (List Z0)), ([] : (List Zm)), ([] : (List Int)), ([] : (List Int)), ([] : (List Z6)), ([] : (List Zy)), ([] : (List Zab)), 0, 0, 0, false, 0, 0, 0, 0, 0, ([] : (List Int)), 0, 0⟩ : Za), ([] : (List (List Int))), (⟨0, 0, 0, 0, 0, 0, ([] : (List Z5))⟩ : Za0), 0, ([] : (List Za))⟩ : Z8) (⟨[(⟨20, 0, 0, (⟨0, 0, 0, 0, 0, 0⟩ : (A6 Int)), false, false, [3], [1], ([] : (List Int))⟩ : Z0), (⟨18, 0, 0, (⟨0, 0, 0, 0, 0, 0⟩ : (A6 Int)), false, false, ([] : (List Int)), [2], ([] : (List Int))⟩ : Z0)], ([] : (List Zm)), ([] : (List Int)), ([] : (List Int)), ([] : (List Z6)), ([] : (List Zy)), ([] : (List Zab)), 1, 0, 3, false, 0, 0, 4, 1, 0, ([] : (List Int)), 0, (-1)⟩ : Za) [1, 1, 2] 0) [.relab 1000 30000000, .relab 1001 30000001, .ownb 30000000 0 40000000 17, .ownb 30000000 1 40000001 14, .ownb 30000000 2 40000002 19, .ownb 30000000 3 40000003 1, .ownb 30000000 4 40000004 1, .ownb 30000000 5 40000005 94, .ownb 30000000 6 40000006 89, .ownb 30000000 7 40000007 6, .ownb 30000000 17 40000017 1, .ownb 30000000 20 40000020 1, .ownb 30000000 27 40000027 3, .ownb 30000000 29 40000029 19, .ownb 30000001 1 40000101 19, .ownb 30000001 2 40000102 1, .ownb 30000001 3 40000103 1, .ownb 30000001 4 40000104 94, .ownb 30000001 5 40000105 89, .ownb 30000001 6 40000106 6, .ownb 30000001 16 40000116 1]
def Z7z : LF Zyu Z8 := ⟨21, [.c 0 38 true 30], true, fun | .L0 .. => [1,1,1,0,1,4],
 fun | .L0 E0 E1 v2 v3 => ⟨40, [(0, (.bptr 30000000 0)), (1, (.bptr 30000001 0)), (2, (wL (cI .i64) v2)), (3, (wI v3))], [(30000000, .box [(wO Zat 40000000 E0.Cards), (wO Zf 40000001 E0.State.Players), (wO Zb 40000002 E0.State.Objects), (wO (cI .i64) 40000003 E0.State.Battlefield), (wO (cI .i64) 40000004 E0.State.Exile), (wO Ze 40000005 E0.State.Stack), (wO Zd 40000006 E0.State.Waiting), (wO Zi 40000007 E0.State.Conts), (wI E0.State.Turn), (wI E0.State.Active), (wI E0.State.Step), (wB E0.State.Begun), (wI E0.State.Priority), (wI E0.State.Passes), (wI E0.State.NextId), (wI E0.State.NextStamp), (.t (.int .u64 E0.State.Seed)), (wO (cI .i64) 40000017 E0.State.Extra), (wI E0.State.Over), (wI E0.State.Winner), (wO (cL (cI .i64)) 40000020 E0.Answers), (wI E0.Pending.Kind), (wI E0.Pending.Player), (wI E0.Pending.Source), (wI E0.Pending.Least), (wI E0.Pending.Most), (wI E0.Pending.N), (wO Zp 40000027 E0.Pending.Options), (wI E0.Forced), (wO Zr 40000029 E0.Seen)]), (40000000, wR Zat 17 E0.Cards), (40000001, wR Zf 14 E0.State.Players), (40000002, wR Zb 19 E0.State.Objects), (40000003, wR (cI .i64) 1 E0.State.Battlefield), (40000004, wR (cI .i64) 1 E0.State.Exile), (40000005, wR Ze 94 E0.State.Stack), (40000006, wR Zd 89 E0.State.Waiting), (40000007, wR Zi 6 E0.State.Conts), (40000017, wR (cI .i64) 1 E0.State.Extra), (40000020, wR (cL (cI .i64)) 1 E0.Answers), (40000027, wR Zp 3 E0.Pending.Options), (40000029, wR Zr 19 E0.Seen), (30000001, .box [(wL Zf E1.Players), (wO Zb 40000101 E1.Objects), (wO (cI .i64) 40000102 E1.Battlefield), (wO (cI .i64) 40000103 E1.Exile), (wO Ze 40000104 E1.Stack), (wO Zd 40000105 E1.Waiting), (wO Zi 40000106 E1.Conts), (wI E1.Turn), (wI E1.Active), (wI E1.Step), (wB E1.Begun), (wI E1.Priority), (wI E1.Passes), (wI E1.NextId), (wI E1.NextStamp), (.t (.int .u64 E1.Seed)), (wO (cI .i64) 40000116 E1.Extra), (wI E1.Over), (wI E1.Winner)]), (40000101, wR Zb 19 E1.Objects), (40000102, wR (cI .i64) 1 E1.Battlefield), (40000103, wR (cI .i64) 1 E1.Exile), (40000104, wR Ze 94 E1.Stack), (40000105, wR Zd 89 E1.Waiting), (40000106, wR Zi 6 E1.Conts), (40000116, wR (cI .i64) 1 E1.Extra)]⟩,
 fun r => [(5002, wR Zb 19 r.State.Objects), (5003, wR (cI .i64) 1 r.State.Battlefield), (5004, wR (cI .i64) 1 r.State.Exile), (5005, wR Ze 94 r.State.Stack), (5006, wR Zd 89 r.State.Waiting), (5007, wR Zi 6 r.State.Conts), (5017, wR (cI .i64) 1 r.State.Extra)], fun r => (.agg [(wL Zat r.Cards), (wL Zf r.State.Players), (wO Zb 5002 r.State.Objects), (wO (cI .i64) 5003 r.State.Battlefield), (wO (cI .i64) 5004 r.State.Exile), (wO Ze 5005 r.State.Stack), (wO Zd 5006 r.State.Waiting), (wO Zi 5007 r.State.Conts), (wI r.State.Turn), (wI r.State.Active), (wI r.State.Step), (wB r.State.Begun), (wI r.State.Priority), (wI r.State.Passes), (wI r.State.NextId), (wI r.State.NextStamp), (.t (.int .u64 r.State.Seed)), (wO (cI .i64) 5017 r.State.Extra), (wI r.State.Over), (wI r.State.Winner), (wL (cL (cI .i64)) r.Answers), (wI r.Pending.Kind), (wI r.Pending.Player), (wI r.Pending.Source), (wI r.Pending.Least), (wI r.Pending.Most), (wI r.Pending.N), (wL Zp r.Pending.Options), (wI r.Forced), (wL Zr r.Seen)]), fun | .L0 E0 E1 v2 v3 => Zak0 E0 E1 v2 v3⟩
def Zxg : Option Z8 := Z7z.run (Z7y)
theorem Zagy {r : Z8} (h : Zxg = some r) : FnG PR 21 [] [] [(5002, wR Zb 19 r.State.Objects), (5003, wR (cI .i64) 1 r.State.Battlefield), (5004, wR (cI .i64) 1 r.State.Exile), (5005, wR Ze 94 r.State.Stack), (5006, wR Zd 89 r.State.Waiting), (5007, wR Zi 6 r.State.Conts), (5017, wR (cI .i64) 1 r.State.Extra)] (.agg [(wL Zat r.Cards), (wL Zf r.State.Players), (wO Zb 5002 r.State.Objects), (wO (cI .i64) 5003 r.State.Battlefield), (wO (cI .i64) 5004 r.State.Exile), (wO Ze 5005 r.State.Stack), (wO Zd 5006 r.State.Waiting), (wO Zi 5007 r.State.Conts), (wI r.State.Turn), (wI r.State.Active), (wI r.State.Step), (wB r.State.Begun), (wI r.State.Priority), (wI r.State.Passes), (wI r.State.NextId), (wI r.State.NextStamp), (.t (.int .u64 r.State.Seed)), (wO (cI .i64) 5017 r.State.Extra), (wI r.State.Over), (wI r.State.Winner), (wL (cL (cI .i64)) r.Answers), (wI r.Pending.Kind), (wI r.Pending.Player), (wI r.Pending.Source), (wI r.Pending.Least), (wI r.Pending.Most), (wI r.Pending.N), (wL Zp r.Pending.Options), (wI r.Forced), (wL Zr r.Seen)]) := Z7z.fn h
theorem Zak1 {r : Z8} (h : Zxg = some r) : Fn PR 21 [] (wA (Zcn r)) :=
 FnG.frozen (C := LT.RL Zb r.State.Objects ∧ LT.RL (cI .i64) r.State.Battlefield ∧ LT.RL (cI .i64) r.State.Exile ∧ LT.RL Ze r.State.Stack ∧ LT.RL Zd r.State.Waiting ∧ LT.RL Zi r.State.Conts ∧ LT.RL (cI .i64) r.State.Extra ∧ True) (Zagy h) ⟨rfl, rfl, rfl, rfl, rfl, rfl, rfl, trivial⟩ (by kernel_rfl)
def Zeh (a0 : (List Z0)) (hne : a0 ≠ []) : LT Empty (List Z0) :=
.ne Zf hne<|.kn [0]<|.lb 1005<|.apR Zf 152 ([] : (List Z0)) a0 fun x1=>.ret x1 [.relab 1005 5000]
def Zbj : LF Empty (List Z0) := .z 59 [.t 2] true (fun r => [(5000, wR Zf 14 r)]) (fun r => (wO Zf 5000 r))
def Zea (c : Nat) : LT Empty (List Z0) :=
.kn [0]<|.ret ([] : (List Z0)) [.own 2 5000 14]
def Zjr (c : Nat) (ad : Addr) : LT Empty (List Z0) :=
.kn [0]<|.lb 1005<|.apR Zf 152 ([] : (List Z0)) ([] : (List Z0)) fun x1=>.ret x1 [.relab 1005 5000]
open Classical in
def Zdc (a0 : (List Z0)) : Option (List Z0) := if h : a0 ≠ [] then Zbj.run (Zeh a0 h) else Zbj.run (Zea 0)
theorem Zjd (a0 : (List Z0)) {r : (List Z0)} (h : Zdc a0 = some r) : FnG PR 59 [] [(wL Zf a0)] [(5000, wR Zf 14 r)] (wO Zf 5000 r) := by
 by_cases hne : a0 = []
 ·subst hne
  have h0 : Zbj.run (Zea 0) = some r := h
  exact FnG.split0 (fun e => absurd rfl e) (fun _ a c => by
   cases a with
   | none => exact Zbj.fn (t := Zea c) h0
   | some ad => exact Zbj.fn (t := Zjr c ad) h0)
 ·have h0 : Zbj.run (Zeh a0 hne) = some r := by unfold Zdc at h; rwa [dif_pos hne] at h
  exact FnG.split0 (fun _ => Zbj.fn h0) (fun e => absurd (by simpa using e) hne)
def Zht (a0 : (List Int)) (hne : a0 ≠ []) : LT Empty (List Int) :=
.ne (cI .i64) hne<|.kn [0]<|.lb 1005<|.apR (cI .i64) 8 ([] : (List Int)) a0 fun x1=>.ret x1 [.relab 1005 5000]
def Zcx : LF Empty (List Int) := .z 62 [.t 2] true (fun r => [(5000, wR (cI .i64) 1 r)]) (fun r => (wO (cI .i64) 5000 r))
def Zhp (c : Nat) : LT Empty (List Int) :=
.kn [0]<|.ret ([] : (List Int)) [.own 2 5000 1]
def Zsy (c : Nat) (ad : Addr) : LT Empty (List Int) :=
.kn [0]<|.lb 1005<|.apR (cI .i64) 8 ([] : (List Int)) ([] : (List Int)) fun x1=>.ret x1 [.relab 1005 5000]
open Classical in
def Zfj (a0 : (List Int)) : Option (List Int) := if h : a0 ≠ [] then Zcx.run (Zht a0 h) else Zcx.run (Zhp 0)
theorem Zco (a0 : (List Int)) {r : (List Int)} (h : Zfj a0 = some r) : FnG PR 62 [] [(wL (cI .i64) a0)] [(5000, wR (cI .i64) 1 r)] (wO (cI .i64) 5000 r) := by
 by_cases hne : a0 = []
 ·subst hne
  have h0 : Zcx.run (Zhp 0) = some r := h
  exact FnG.split0 (fun e => absurd rfl e) (fun _ a c => by
   cases a with
   | none => exact Zcx.fn (t := Zhp c) h0
   | some ad => exact Zcx.fn (t := Zsy c ad) h0)
 ·have h0 : Zcx.run (Zht a0 hne) = some r := by unfold Zfj at h; rwa [dif_pos hne] at h
  exact FnG.split0 (fun _ => Zcx.fn h0) (fun e => absurd (by simpa using e) hne)
theorem Zsz (a0 : (List Int)) {r : (List Int)} (h : Zfj a0 = some r) : Fn PR 62 [(wL (cI .i64) a0)] (wL (cI .i64) r) :=
 FnG.frozen (C := LT.RL (cI .i64) r ∧ True) (Zco a0 h) ⟨rfl, trivial⟩ (by kernel_rfl)
def Zty (a0 : Z0) : LT Empty Z0 :=
.lb 1001<|.lb 1002<|.callF (Zco a0.Library) 60000 fun x1=>.callF (Zco a0.Hand) 100000 fun x3=>.callF (Zco a0.Graveyard) 140000 fun x5=>.ret (⟨a0.Life, a0.Venom, a0.Lands, a0.Pool, a0.Failed, a0.Lost, x1, x3, x5⟩ : Z0) [.relab 65000 5011, .relab 105000 5012, .relab 145000 5013]
def Ztz : LF Empty Z0 := .z 60 [.c 2 59 true 14] true (fun r => [(5011, wR (cI .i64) 1 r.Library), (5012, wR (cI .i64) 1 r.Hand), (5013, wR (cI .i64) 1 r.Graveyard)]) (fun r => (.agg [(wI r.Life), (wI r.Venom), (wI r.Lands), (wI r.Pool.a0), (wI r.Pool.a1), (wI r.Pool.a2), (wI r.Pool.a3), (wI r.Pool.a4), (wI r.Pool.a5), (wB r.Failed), (wB r.Lost), (wO (cI .i64) 5011 r.Library), (wO (cI .i64) 5012 r.Hand), (wO (cI .i64) 5013 r.Graveyard)]))
def Zkw (a0 : Z0) : Option Z0 := Ztz.run (Zty a0)
theorem Z2o (a0 : Z0) {r : Z0} (h : Zkw a0 = some r) : FnG PR 60 [] [(wA (Zf a0))] [(5011, wR (cI .i64) 1 r.Library), (5012, wR (cI .i64) 1 r.Hand), (5013, wR (cI .i64) 1 r.Graveyard)] (.agg [(wI r.Life), (wI r.Venom), (wI r.Lands), (wI r.Pool.a0), (wI r.Pool.a1), (wI r.Pool.a2), (wI r.Pool.a3), (wI r.Pool.a4), (wI r.Pool.a5), (wB r.Failed), (wB r.Lost), (wO (cI .i64) 5011 r.Library), (wO (cI .i64) 5012 r.Hand), (wO (cI .i64) 5013 r.Graveyard)]) := Ztz.fn h
theorem Z4h (a0 : Z0) {r : Z0} (h : Zkw a0 = some r) : Fn PR 60 [(wA (Zf a0))] (wA (Zf r)) :=
 FnG.frozen (C := LT.RL (cI .i64) r.Library ∧ LT.RL (cI .i64) r.Hand ∧ LT.RL (cI .i64) r.Graveyard ∧ True) (Z2o a0 h) ⟨rfl, rfl, rfl, trivial⟩ (by kernel_rfl)
def Zei (a0 : (List Zm)) (hne : a0 ≠ []) : LT Empty (List Zm) :=
.ne Zb hne<|.kn [0]<|.lb 1005<|.apR Zb 128 ([] : (List Zm)) a0 fun x1=>.ret x1 [.relab 1005 5000]
def Zbk : LF Empty (List Zm) := .z 61 [.t 2] true (fun r => [(5000, wR Zb 19 r)]) (fun r => (wO Zb 5000 r))
def Zeb (c : Nat) : LT Empty (List Zm) :=
.kn [0]<|.ret ([] : (List Zm)) [.own 2 5000 19]
def Zjs (c : Nat) (ad : Addr) : LT Empty (List Zm) :=
.kn [0]<|.lb 1005<|.apR Zb 128 ([] : (List Zm)) ([] : (List Zm)) fun x1=>.ret x1 [.relab 1005 5000]
open Classical in
def Zdd (a0 : (List Zm)) : Option (List Zm) := if h : a0 ≠ [] then Zbk.run (Zei a0 h) else Zbk.run (Zeb 0)
theorem Zje (a0 : (List Zm)) {r : (List Zm)} (h : Zdd a0 = some r) : FnG PR 61 [] [(wL Zb a0)] [(5000, wR Zb 19 r)] (wO Zb 5000 r) := by
 by_cases hne : a0 = []
 ·subst hne
  have h0 : Zbk.run (Zeb 0) = some r := h
  exact FnG.split0 (fun e => absurd rfl e) (fun _ a c => by
   cases a with
   | none => exact Zbk.fn (t := Zeb c) h0
   | some ad => exact Zbk.fn (t := Zjs c ad) h0)
 ·have h0 : Zbk.run (Zei a0 hne) = some r := by unfold Zdd at h; rwa [dif_pos hne] at h
  exact FnG.split0 (fun _ => Zbk.fn h0) (fun e => absurd (by simpa using e) hne)
def Zff (a0 : (List Z6)) (hne : a0 ≠ []) : LT Empty (List Z6) :=
.ne Ze hne<|.kn [0]<|.lb 1005<|.apR Ze 824 ([] : (List Z6)) a0 fun x1=>.ret x1 [.relab 1005 5000]
def Zbv : LF Empty (List Z6) := .z 63 [.t 2] true (fun r => [(5000, wR Ze 94 r)]) (fun r => (wO Ze 5000 r))
def Ze7 (c : Nat) : LT Empty (List Z6) :=
.kn [0]<|.ret ([] : (List Z6)) [.own 2 5000 94]
def Zll (c : Nat) (ad : Addr) : LT Empty (List Z6) :=
.kn [0]<|.lb 1005<|.apR Ze 824 ([] : (List Z6)) ([] : (List Z6)) fun x1=>.ret x1 [.relab 1005 5000]
open Classical in
def Zd1 (a0 : (List Z6)) : Option (List Z6) := if h : a0 ≠ [] then Zbv.run (Zff a0 h) else Zbv.run (Ze7 0)
theorem Zk4 (a0 : (List Z6)) {r : (List Z6)} (h : Zd1 a0 = some r) : FnG PR 63 [] [(wL Ze a0)] [(5000, wR Ze 94 r)] (wO Ze 5000 r) := by
 by_cases hne : a0 = []
 ·subst hne
  have h0 : Zbv.run (Ze7 0) = some r := h
  exact FnG.split0 (fun e => absurd rfl e) (fun _ a c => by
   cases a with
   | none => exact Zbv.fn (t := Ze7 c) h0
   | some ad => exact Zbv.fn (t := Zll c ad) h0)
 ·have h0 : Zbv.run (Zff a0 hne) = some r := by unfold Zd1 at h; rwa [dif_pos hne] at h
  exact FnG.split0 (fun _ => Zbv.fn h0) (fun e => absurd (by simpa using e) hne)
end
end Go.PW
