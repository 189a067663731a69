import Derived.Test.YtloamjgjcjandaaGreatQD
set_option linter.all false
set_option maxRecDepth 100000
namespace Go.PW
open Go.RowKit
noncomputable section
def Zagn (a0 : Int) : LT Empty Bool :=
.cs (decide (a0 ≥ 97)) (.kg 0<|.kg 0<|.kg 0<|.rt (decide (a0 ≤ 122)))<|.kg 0<|.kg 0<|.kg 0<|.rt false
def Zago : LF Empty Bool := .z 108 [.t 2] false (fun r => []) (fun r => (wB r))
def Zafj (a0 : Int) : Option Bool := Zago.run (Zagn a0)
theorem Zabv (a0 : Int) {r : Bool} (h : Zafj a0 = some r) : Fn PR 108 [(.t (.int .u8 a0))] (wB r) := Zago.fn h
inductive Zrb where
 | L0 (v0 : (List UInt8)) (v3 : Int)
 | L1 (v0 : (List UInt8)) (v3 : Int)
def Zlu (v0 : (List UInt8)) (v3 : Int) : LT Zrb Bool :=
.cs (decide (v3 > 0)) (.kg 0<|.kg 0<|.kg 0<|.idxS v0 v3 fun x2=>.kg 0<|.kg 0<|.cs ((UInt8.toNat x2 : Int) == 45) (.kg 1<|.kg 1<|.kg 1<|.kg 1<|.idxS v0 (IntKind.wrap .i64 (v3 - 1)) fun x7=>.kg 1<|.kg 1<|.br ((UInt8.toNat x7 : Int) == 45) (.rt false)<|.g0 (.L0 v0 (IntKind.wrap .i64 (v3 + 1))))<|.kg 1<|.kg 1<|.kg 1<|.kg 1<|.kg 1<|.kg 1<|.kn [0]<|.g0 (.L0 v0 (IntKind.wrap .i64 (v3 + 1))))<|.kg 0<|.kg 0<|.kg 0<|.kg 0<|.kg 0<|.kb false<|.kb false<|.kb false<|.kb false<|.kb false<|.kb false<|.kn [0]<|.g0 (.L0 v0 (IntKind.wrap .i64 (v3 + 1)))
def Z31 (v0 : (List UInt8)) (v3 : Int) : LT Zrb Bool :=
.lenS v0<|.br (decide (v3 < (v0.length : Int))) (.idxS v0 v3 fun x3=>.call (Zabv (UInt8.toNat x3 : Int)) fun x5=>.cs (!x5) (.kg 1<|.kg 1<|.kg 1<|.idxS v0 v3 fun x8=>.kg 1<|.kg 1<|.cs (decide ((UInt8.toNat x8 : Int) < 48)) (.kg 2<|.kg 2<|.kg 2<|.kg 2<|.kg 1<|.kg 2<|.kg 1<|.kb true<|.kb true<|.kb true<|.idxS v0 v3 fun x11=>.kb true<|.kb true<|.br ((UInt8.toNat x11 : Int) != 45) (.rt false)<|.j0 (.L1 v0 v3) (Zlu v0 v3))<|.kg 2<|.kg 2<|.kg 2<|.idxS v0 v3 fun x14=>.kg 2<|.kg 1<|.kg 2<|.kg 1<|.cs (decide ((UInt8.toNat x14 : Int) > 57)) (.kg 3<|.kg 3<|.kg 3<|.idxS v0 v3 fun x17=>.kg 3<|.kg 3<|.br ((UInt8.toNat x17 : Int) != 45) (.rt false)<|.j0 (.L1 v0 v3) (Zlu v0 v3))<|.kg 3<|.kg 3<|.kg 3<|.kg 3<|.kg 3<|.kn [0]<|.j0 (.L1 v0 v3) (Zlu v0 v3))<|.kg 1<|.kg 1<|.kg 1<|.kg 1<|.kg 1<|.kg 1<|.kg 1<|.kb false<|.kb false<|.kb false<|.kb false<|.kb false<|.kn [0]<|.j0 (.L1 v0 v3) (Zlu v0 v3))<|.rt true
def Zajv (a0 : (List UInt8)) : LT Zrb Bool :=
.lenS a0<|.cs (decide ((a0.length : Int) < 1)) (.kg 0<|.kg 0<|.kg 0<|.kg 0<|.kb true<|.kb true<|.kb true<|.kb true<|.kb true<|.kb true<|.kb true<|.kb true<|.kb true<|.kb true<|.kb true<|.kb true<|.kn [0]<|.rt false)<|.kg 0<|.kg 0<|.lenS a0<|.kg 0<|.kg 0<|.cs (decide ((a0.length : Int) > 32)) (.kg 1<|.kg 1<|.kg 1<|.kg 1<|.kg 1<|.kb true<|.kb true<|.kb true<|.kb true<|.kb true<|.kb true<|.kb true<|.kn [0]<|.rt false)<|.kg 1<|.kg 1<|.idxS a0 0 fun x4=>.kg 1<|.call (Zabv (UInt8.toNat x4 : Int)) fun x6=>.kg 1<|.kg 1<|.cs (!x6) (.kg 2<|.kg 2<|.kg 2<|.kg 2<|.kg 2<|.kg 2<|.kg 2<|.kn [0]<|.rt false)<|.kg 2<|.kg 2<|.kg 2<|.lenS a0<|.kg 2<|.kg 2<|.idxS a0 (IntKind.wrap .i64 ((a0.length : Int) - 1)) fun x11=>.kg 2<|.kg 2<|.br ((UInt8.toNat x11 : Int) == 45) (.rt false)<|.g0 (.L0 a0 0)
def Zajw : LF Zrb Bool := ⟨91, [.t 2], false, fun | .L0 .. => [1,1,0,1,4] | .L1 .. => [1,1,0,1,4,5,1,0,4,1],
 fun | .L0 v0 v3 => ⟨70, [(0, (wS v0)), (3, (wI v3))], []⟩ | .L1 v0 v3 => ⟨70, [(0, (wS v0)), (3, (wI v3))], []⟩,
 fun r => [], fun r => (wB r), fun | .L0 v0 v3 => Z31 v0 v3 | .L1 v0 v3 => Zlu v0 v3⟩
def Zajx (a0 : (List UInt8)) : Option Bool := Zajw.run (Zajv a0)
theorem Z32 (a0 : (List UInt8)) {r : Bool} (h : Zajx a0 = some r) : Fn PR 91 [(wS a0)] (wB r) := Zajw.fn h
inductive Zrc where
 | L0 (E0 : Zay) (v3 : Int)
def Zxr (E0 : Zay) (v3 : Int) : LT Zrc Bool :=
.br (decide (v3 < 5)) (.idA (Zg.int .i64) (A5.list E0.Color) v3 (bx (Zbp E0)) 2 7 fun x2=>.ldC (Zg.int .i64) 29 x2 0<|.cs (decide (x2 < 0)) (.kg 1<|.kg 1<|.kg 1<|.kg 1<|.kg 1<|.kg 1<|.kn [0]<|.rt false)<|.kg 1<|.kg 1<|.kg 1<|.idA (Zg.int .i64) (A5.list E0.Color) v3 (bx (Zbp E0)) 2 7 fun x5=>.kg 1<|.ldC (Zg.int .i64) 35 x5 1<|.kg 1<|.kg 1<|.br (decide (x5 > 9)) (.rt false)<|.g0 (.L0 E0 (IntKind.wrap .i64 (v3 + 1))))<|.rt true
def Zajy (a0 : Zay) : LT Zrc Bool :=
.lb 1001<|.cs (decide (a0.Generic < 0)) (.kg 0<|.kg 0<|.kg 0<|.kg 0<|.kb true<|.kb true<|.kb true<|.kb true<|.kb true<|.kb true<|.kb true<|.kb true<|.kn [0]<|.rt false)<|.kg 0<|.kg 0<|.kg 0<|.kg 0<|.cs (decide (a0.Generic > 99)) (.kg 1<|.kg 1<|.kg 1<|.kg 1<|.kb true<|.kb true<|.kb true<|.kb true<|.kn [0]<|.rt false)<|.kg 1<|.kg 1<|.kg 1<|.kg 1<|.cs (decide (a0.X < 0)) (.kg 2<|.kg 2<|.kg 2<|.kg 2<|.kn [0]<|.rt false)<|.kg 2<|.kg 2<|.kg 2<|.kg 2<|.br (decide (a0.X > 2)) (.rt false)<|.go (.L0 a0 0) [.relab 1001 30000000]
def Zrd : LF Zrc Bool := ⟨92, [.t 2], false, fun | .L0 .. => [1,1,0,1,4],
 fun | .L0 E0 v3 => ⟨38, [(1, (.bptr 30000000 0)), (3, (wI v3))], [(30000000, .box (bx (Zbp E0)))]⟩,
 fun r => [], fun r => (wB r), fun | .L0 E0 v3 => Zxr E0 v3⟩
def Zabw (a0 : Zay) : Option Bool := Zrd.run (Zajy a0)
theorem Z33 (a0 : Zay) {r : Bool} (h : Zabw a0 = some r) : Fn PR 92 [(wA (Zbp a0))] (wB r) := Zrd.fn h
def Zvw : LT Empty (List (List UInt8)) :=
.lb 1001<|.ret [([98, 97, 115, 105, 99] : List UInt8), ([117, 110, 105, 113, 117, 101] : List UInt8)] [.relab 1001 5000]
def Zvx : LF Empty (List (List UInt8)) := .z 128 [.t 0] true (fun r => [(5000, wR cS 1 r)]) (fun r => (wO cS 5000 r))
def Zm1 : Option (List (List UInt8)) := Zvx.run (Zvw)
theorem Z34 {r : (List (List UInt8))} (h : Zm1 = some r) : FnG PR 128 [] [] [(5000, wR cS 1 r)] (wO cS 5000 r) := Zvx.fn h
theorem Z6r {r : (List (List UInt8))} (h : Zm1 = some r) : Fn PR 128 [] (wL cS r) :=
 FnG.frozen (C := LT.RL cS r ∧ True) (Z34 h) ⟨rfl, trivial⟩ (by kernel_rfl)
inductive Znr where
 | L0 (v0 : (List (List UInt8))) (v1 : (List UInt8)) (v5 : Int)
def Zvy (v0 : (List (List UInt8))) (v1 : (List UInt8)) (v5 : Int) : LT Znr Int :=
.len cS v0<|.br (decide (v5 < (v0.length : Int))) (.idx cS v0 v5 fun x3=>.br (x3 == v1) (.rt v5)<|.g0 (.L0 v0 v1 (IntKind.wrap .i64 (v5 + 1))))<|.rt (-1)
def Z7c (a0 : (List (List UInt8))) (a1 : (List UInt8)) : LT Znr Int :=
.g0 (.L0 a0 a1 0)
def Z7d : LF Znr Int := ⟨127, [.t 4], false, fun | .L0 .. => [1,0,1,4],
 fun | .L0 v0 v1 v5 => ⟨19, [(0, (wL cS v0)), (1, (wS v1)), (5, (wI v5))], []⟩,
 fun r => [], fun r => (wI r), fun | .L0 v0 v1 v5 => Zvy v0 v1 v5⟩
def Z35 (a0 : (List (List UInt8))) (a1 : (List UInt8)) : Option Int := Z7d.run (Z7c a0 a1)
theorem Z36 (a0 : (List (List UInt8))) (a1 : (List UInt8)) {r : Int} (h : Z35 a0 a1 = some r) : Fn PR 127 [(wL cS a0), (wS a1)] (wI r) := Z7d.fn h
def Zxs : LT Empty (List (List UInt8)) :=
.lb 1001<|.ret [([99, 114, 101, 97, 116, 117, 114, 101] : List UInt8), ([105, 110, 115, 116, 97, 110, 116] : List UInt8), ([114, 105, 116, 117, 97, 108] : List UInt8), ([114, 101, 108, 105, 99] : List UInt8), ([99, 104, 97, 114, 109] : List UInt8), ([108, 97, 110, 100] : List UInt8)] [.relab 1001 5000]
def Zxt : LF Empty (List (List UInt8)) := .z 129 [.t 0] true (fun r => [(5000, wR cS 1 r)]) (fun r => (wO cS 5000 r))
def Zoj : Option (List (List UInt8)) := Zxt.run (Zxs)
theorem Z6s {r : (List (List UInt8))} (h : Zoj = some r) : FnG PR 129 [] [] [(5000, wR cS 1 r)] (wO cS 5000 r) := Zxt.fn h
theorem Zvz {r : (List (List UInt8))} (h : Zoj = some r) : Fn PR 129 [] (wL cS r) :=
 FnG.frozen (C := LT.RL cS r ∧ True) (Z6s h) ⟨rfl, trivial⟩ (by kernel_rfl)
def Z7e (a0 : (List UInt8)) : LT Empty Bool :=
.call (Z32 a0) fun x1=>.cs x1 (.kg 0<|.call (Z6r) fun x4=>.kg 0<|.kg 0<|.call (Z36 x4 a0) fun x6=>.kg 0<|.kg 0<|.cs (decide (x6 < 0)) (.kg 1<|.call (Zvz) fun x9=>.kg 1<|.kg 1<|.call (Z36 x9 a0) fun x11=>.kg 1<|.kg 1<|.rt (decide (x11 < 0)))<|.kg 1<|.kg 1<|.kg 1<|.kg 1<|.kg 1<|.rt false)<|.kg 0<|.kg 0<|.kg 0<|.kg 0<|.kg 0<|.kb false<|.kb false<|.kb false<|.kb false<|.kb false<|.rt false
def Z7f : LF Empty Bool := .z 109 [.t 2] false (fun r => []) (fun r => (wB r))
def Z37 (a0 : (List UInt8)) : Option Bool := Z7f.run (Z7e a0)
theorem Zv0 (a0 : (List UInt8)) {r : Bool} (h : Z37 a0 = some r) : Fn PR 109 [(wS a0)] (wB r) := Z7f.fn h
inductive Zsi where
 | L0 (v0 : Int) (v1 : Int) (v5 : Int)
def Z1m (v0 : Int) (v1 : Int) (v5 : Int) : LT Zsi Bool :=
.br (decide (v5 < v1)) (.dc ((2 : Int) ≠ 0) rfl<|.g0 (.L0 (Zo1 .i64 v0 2) v1 (IntKind.wrap .i64 (v5 + 1))))<|.dc ((2 : Int) ≠ 0) rfl<|.rt ((Int.tmod v0 2) == 1)
def Zagp (a0 : Int) (a1 : Int) : LT Zsi Bool :=
.g0 (.L0 a0 a1 0)
def Zagq : LF Zsi Bool := ⟨110, [.t 4], false, fun | .L0 .. => [1,0,1,4],
 fun | .L0 v0 v1 v5 => ⟨16, [(0, (wI v0)), (1, (wI v1)), (5, (wI v5))], []⟩,
 fun r => [], fun r => (wB r), fun | .L0 v0 v1 v5 => Z1m v0 v1 v5⟩
def Zafk (a0 : Int) (a1 : Int) : Option Bool := Zagq.run (Zagp a0 a1)
theorem Z1n (a0 : Int) (a1 : Int) {r : Bool} (h : Zafk a0 a1 = some r) : Fn PR 110 [(wI a0), (wI a1)] (wB r) := Zagq.fn h
inductive Zv1 where
 | L0 (E0 : Zg4) (v3 : Int)
def Z38 (E0 : Zg4) (v3 : Int) : LT Zv1 Bool :=
.len cS E0.Subs<|.br (decide (v3 < (E0.Subs.length : Int))) (.idx cS E0.Subs v3 fun x3=>.call (Zv0 x3) fun x5=>.cs (!x5) (.kg 1<|.kg 1<|.kg 1<|.kg 1<|.kg 1<|.kn [0]<|.rt false)<|.kg 1<|.kg 1<|.kg 1<|.cs (decide (v3 > 0)) (.kg 2<|.kg 2<|.kg 2<|.kg 2<|.kg 2<|.idx cS E0.Subs (IntKind.wrap .i64 (v3 - 1)) fun x11=>.kg 2<|.kg 2<|.kg 2<|.kg 2<|.kg 2<|.ag cS x3 0<|.kg 2<|.kg 2<|.kg 1<|.kg 2<|.kg 1<|.br (!(Op.bytesLess x11 x3)) (.rt false)<|.g0 (.L0 E0 (IntKind.wrap .i64 (v3 + 1))))<|.kg 2<|.kg 2<|.kg 2<|.kg 2<|.kg 2<|.kg 2<|.kg 2<|.kg 2<|.kg 2<|.kg 2<|.kg 2<|.kg 2<|.kg 1<|.kg 2<|.kg 1<|.kn [0]<|.g0 (.L0 E0 (IntKind.wrap .i64 (v3 + 1))))<|.cs (E0.Types == 2) (.kg 1<|.kg 1<|.kg 1<|.kg 1<|.kb true<|.kb true<|.kb true<|.kb true<|.kb true<|.kb true<|.kb true<|.rt true)<|.kg 1<|.kg 1<|.kg 1<|.kg 1<|.cs (E0.Types == 4) (.kg 2<|.kg 2<|.kg 2<|.kg 2<|.kg 2<|.kg 2<|.kg 2<|.rt true)<|.kg 2<|.kg 2<|.kg 2<|.call (Z1n E0.Types 1) fun x20=>.kg 2<|.kg 2<|.cs (!x20) (.kg 3<|.kg 3<|.kg 3<|.call (Z1n E0.Types 2) fun x23=>.kg 3<|.kg 2<|.kg 3<|.kg 2<|.rt (!x23))<|.kg 3<|.kg 3<|.kg 3<|.kg 3<|.kg 2<|.kg 3<|.kg 2<|.rt false
def Zajz (a0 : Zg4) : LT Zv1 Bool :=
.lb 1001<|.cs (decide (a0.Super < 0)) (.kg 0<|.kg 0<|.kg 0<|.kg 0<|.kb true<|.kb true<|.kb true<|.kb true<|.kb true<|.kb true<|.kb true<|.kb true<|.kb true<|.kb true<|.kb true<|.kb true<|.kb true<|.kn [0]<|.rt false)<|.kg 0<|.kg 0<|.kg 0<|.kg 0<|.cs (decide (a0.Super > 3)) (.kg 1<|.kg 1<|.kg 1<|.kg 1<|.kb true<|.kb true<|.kb true<|.kb true<|.kb true<|.kb true<|.kb true<|.kb true<|.kb true<|.kn [0]<|.rt false)<|.kg 1<|.kg 1<|.kg 1<|.kg 1<|.cs (decide (a0.Types < 1)) (.kg 2<|.kg 2<|.kg 2<|.kg 2<|.kb true<|.kb true<|.kb true<|.kb true<|.kb true<|.kn [0]<|.rt false)<|.kg 2<|.kg 2<|.kg 2<|.kg 2<|.cs (decide (a0.Types > 63)) (.kg 3<|.kg 3<|.kg 3<|.kg 3<|.kg 3<|.kn [0]<|.rt false)<|.kg 3<|.kg 3<|.kg 3<|.len cS a0.Subs<|.kg 3<|.kg 3<|.br (decide ((a0.Subs.length : Int) > 4)) (.rt false)<|.go (.L0 a0 0) [.relab 1001 30000000]
def Zaj0 : LF Zv1 Bool := ⟨93, [.t 2], false, fun | .L0 .. => [1,1,0,1,4],
 fun | .L0 E0 v3 => ⟨80, [(1, (.bptr 30000000 0)), (3, (wI v3))], [(30000000, .box (bx (Zm0 E0)))]⟩,
 fun r => [], fun r => (wB r), fun | .L0 E0 v3 => Z38 E0 v3⟩
def Zaj1 (a0 : Zg4) : Option Bool := Zaj0.run (Zajz a0)
theorem Zaqu (a0 : Zg4) {r : Bool} (h : Zaj1 a0 = some r) : Fn PR 93 [(wA (Zm0 a0))] (wB r) := Zaj0.fn h
def Zaj2 (a0 : Int) : LT Empty Bool :=
.cs (decide (a0 ≥ 0)) (.kg 0<|.kg 0<|.kg 0<|.rt (decide (a0 ≤ 131071)))<|.kg 0<|.kg 0<|.kg 0<|.rt false
def Zaj3 : LF Empty Bool := .z 94 [.t 2] false (fun r => []) (fun r => (wB r))
def Zaj4 (a0 : Int) : Option Bool := Zaj3.run (Zaj2 a0)
theorem Zagr (a0 : Int) {r : Bool} (h : Zaj4 a0 = some r) : Fn PR 94 [(wI a0)] (wB r) := Zaj3.fn h
def Z0e (a0 : Zs) : LT Empty Bool :=
.lb 1001<|.rt ((Zh0 .and .i64 a0.Line.Types 1) != 0)
def Z0f : LF Empty Bool := .z 95 [.t 2] false (fun r => []) (fun r => (wB r))
def Zv2 (a0 : Zs) : Option Bool := Z0f.run (Z0e a0)
theorem Zabx (a0 : Zs) {r : Bool} (h : Zv2 a0 = some r) : Fn PR 95 [(wA (Zaa a0))] (wB r) := Z0f.fn h
inductive Zns where
 | L0 (v0 : Int) (v1 : Int) (v7 : Int)
def Zv3 (v0 : Int) (v1 : Int) (v7 : Int) : LT Zns Bool :=
.br (decide (v7 < 6)) (.dc ((2 : Int) ≠ 0) rfl<|.cs ((Int.tmod v0 2) == 1) (.kg 1<|.kg 1<|.dc ((2 : Int) ≠ 0) rfl<|.kg 1<|.kg 1<|.br ((Int.tmod v1 2) == 1) (.rt false)<|.dc ((2 : Int) ≠ 0) rfl<|.dc ((2 : Int) ≠ 0) rfl<|.g0 (.L0 (Zo1 .i64 v0 2) (Zo1 .i64 v1 2) (IntKind.wrap .i64 (v7 + 1))))<|.kg 1<|.kg 1<|.kg 1<|.kg 1<|.kn [0]<|.dc ((2 : Int) ≠ 0) rfl<|.dc ((2 : Int) ≠ 0) rfl<|.g0 (.L0 (Zo1 .i64 v0 2) (Zo1 .i64 v1 2) (IntKind.wrap .i64 (v7 + 1))))<|.rt true
def Z7g (a0 : Int) (a1 : Int) (a2 : Int) : LT Zns Bool :=
.cs (decide (a0 < 0)) (.kg 0<|.kg 0<|.kg 0<|.kg 0<|.kb true<|.kb true<|.kb true<|.kb true<|.kb true<|.kb true<|.kb true<|.kn [0]<|.rt false)<|.kg 0<|.kg 0<|.kg 0<|.kg 0<|.cs (decide (a0 > a2)) (.kg 1<|.kg 1<|.kg 1<|.kb true<|.kb true<|.kb true<|.kb true<|.kn [0]<|.rt false)<|.kg 1<|.kg 1<|.kg 1<|.cs (decide (a1 < 0)) (.kg 2<|.kg 2<|.kg 2<|.kg 2<|.kn [0]<|.rt false)<|.kg 2<|.kg 2<|.kg 2<|.kg 2<|.br (decide (a1 > a2)) (.rt false)<|.g0 (.L0 a0 a1 0)
def Z7h : LF Zns Bool := ⟨130, [.t 6], false, fun | .L0 .. => [1,1,0,1,4],
 fun | .L0 v0 v1 v7 => ⟨40, [(0, (wI v0)), (1, (wI v1)), (7, (wI v7))], []⟩,
 fun r => [], fun r => (wB r), fun | .L0 v0 v1 v7 => Zv3 v0 v1 v7⟩
def Z39 (a0 : Int) (a1 : Int) (a2 : Int) : Option Bool := Z7h.run (Z7g a0 a1 a2)
theorem Z4a (a0 : Int) (a1 : Int) (a2 : Int) {r : Bool} (h : Z39 a0 a1 a2 = some r) : Fn PR 130 [(wI a0), (wI a1), (wI a2)] (wB r) := Z7h.fn h
def Z7i (a0 : Zc) : LT Empty Bool :=
.lb 1001<|.cs (decide (a0.Kind < 0)) (.kg 0<|.kg 0<|.kg 0<|.kg 0<|.kb true<|.kb true<|.kb true<|.kb true<|.kb true<|.kb true<|.kb true<|.kb true<|.kn [0]<|.rt false)<|.kg 0<|.kg 0<|.kg 0<|.kg 0<|.cs (decide (a0.Kind > 3)) (.kg 1<|.kg 1<|.kg 1<|.kg 1<|.kb true<|.kb true<|.kb true<|.kb true<|.kn [0]<|.rt false)<|.kg 1<|.kg 1<|.kg 1<|.kg 1<|.cs (decide (a0.N < 0)) (.kg 2<|.kg 2<|.kg 2<|.kg 2<|.kn [0]<|.rt false)<|.kg 2<|.kg 2<|.kg 2<|.kg 2<|.br (decide (a0.N > 1000000)) (.rt false)<|.cs (a0.Kind != 0) (.kg 4<|.kg 4<|.kg 4<|.kg 4<|.rt true)<|.kg 4<|.kg 4<|.kg 4<|.kg 4<|.rt (a0.N == 0)
def Z7j : LF Empty Bool := .z 131 [.t 2] false (fun r => []) (fun r => (wB r))
def Z4b (a0 : Zc) : Option Bool := Z7j.run (Z7i a0)
theorem Zv4 (a0 : Zc) {r : Bool} (h : Z4b a0 = some r) : Fn PR 131 [(wA (Zfu a0))] (wB r) := Z7j.fn h
inductive Zv5 where
 | L0 (E0 : Zi)
def Zsj (E0 : Zi) : LT Zv5 Bool :=
.call (Zv4 E0.Power) fun x1=>.cs x1 (.kg 0<|.kg 0<|.kg 0<|.call (Zv4 E0.Tough) fun x4=>.kg 0<|.cs x4 (.kg 1<|.kg 1<|.kg 1<|.call (Zv4 E0.Value) fun x7=>.kg 1<|.rt x7)<|.kg 1<|.kg 1<|.kg 1<|.kg 1<|.rt false)<|.kg 0<|.kg 0<|.kg 0<|.kg 0<|.kb false<|.kb false<|.kb false<|.kb false<|.rt false
def Zaj5 (a0 : Zi) : LT Zv5 Bool :=
.lb 1001<|.cs (decide (a0.Zone < 0)) (.kg 0<|.kg 0<|.kg 0<|.kg 0<|.kb true<|.kb true<|.kb true<|.kb true<|.kb true<|.kb true<|.kb true<|.kb true<|.kb true<|.kb true<|.kb true<|.kb true<|.kb true<|.kb true<|.kb true<|.kb true<|.kb true<|.kb true<|.kb true<|.kb true<|.kb true<|.kb true<|.kb true<|.kb true<|.kn [0]<|.rt false)<|.kg 0<|.kg 0<|.kg 0<|.kg 0<|.cs (decide (a0.Zone > 5)) (.kg 1<|.kg 1<|.kg 1<|.kg 1<|.kb true<|.kb true<|.kb true<|.kb true<|.kb true<|.kb true<|.kb true<|.kb true<|.kb true<|.kb true<|.kb true<|.kb true<|.kb true<|.kb true<|.kb true<|.kb true<|.kb true<|.kb true<|.kb true<|.kb true<|.kn [0]<|.rt false)<|.kg 1<|.kg 1<|.kg 1<|.kg 1<|.cs (decide (a0.Who < 0)) (.kg 2<|.kg 2<|.kg 2<|.kg 2<|.kb true<|.kb true<|.kb true<|.kb true<|.kb true<|.kb true<|.kb true<|.kb true<|.kb true<|.kb true<|.kb true<|.kb true<|.kb true<|.kb true<|.kb true<|.kb true<|.kn [0]<|.rt false)<|.kg 2<|.kg 2<|.kg 2<|.kg 2<|.cs (decide (a0.Who > 2)) (.kg 3<|.kg 3<|.kg 3<|.kg 3<|.kb true<|.kb true<|.kb true<|.kb true<|.kb true<|.kb true<|.kb true<|.kb true<|.kb true<|.kb true<|.kb true<|.kb true<|.kn [0]<|.rt false)<|.kg 3<|.kg 3<|.kg 3<|.kg 3<|.cs (decide (a0.Self < 0)) (.kg 4<|.kg 4<|.kg 4<|.kg 4<|.kb true<|.kb true<|.kb true<|.kb true<|.kb true<|.kb true<|.kb true<|.kb true<|.kn [0]<|.rt false)<|.kg 4<|.kg 4<|.kg 4<|.kg 4<|.cs (decide (a0.Self > 2)) (.kg 5<|.kg 5<|.kg 5<|.kg 5<|.kb true<|.kb true<|.kb true<|.kb true<|.kn [0]<|.rt false)<|.kg 5<|.kg 5<|.kg 5<|.kg 5<|.cs (decide (a0.Tap < 0)) (.kg 6<|.kg 6<|.kg 6<|.kg 6<|.kn [0]<|.rt false)<|.kg 6<|.kg 6<|.kg 6<|.kg 6<|.br (decide (a0.Tap > 2)) (.rt false)<|.call (Z4a a0.Types a0.NotTypes 63) fun x9=>.cs (!x9) (.kg 8<|.kg 8<|.kg 8<|.kg 8<|.kg 8<|.kg 8<|.kg 8<|.kn [0]<|.rt false)<|.kg 8<|.kg 8<|.kg 8<|.kg 8<|.kg 8<|.call (Z4a a0.Colors a0.NotColors 31) fun x12=>.kg 8<|.kg 8<|.br (!x12) (.rt false)<|.cs (!(a0.Sub == ([] : List UInt8))) (.kg 10<|.kg 10<|.kg 10<|.call (Zv0 a0.Sub) fun x16=>.kg 10<|.kg 10<|.cs (!x16) (.kg 11<|.kg 11<|.kg 11<|.kg 11<|.kb true<|.kb true<|.kb true<|.kb true<|.kn [0]<|.rt false)<|.kg 11<|.kg 11<|.kg 11<|.kg 11<|.cs (decide (a0.Keys < 0)) (.kg 12<|.kg 12<|.kg 12<|.kg 12<|.kn [0]<|.rt false)<|.kg 12<|.kg 12<|.kg 12<|.kg 12<|.br (decide (a0.Keys > 131071)) (.rt false)<|.jn 0 (.L0 a0) [.relab 1001 30000000] (Zsj a0))<|.kg 10<|.kg 10<|.kg 10<|.kg 10<|.kg 10<|.kb false<|.kb false<|.kb false<|.kb false<|.cs (decide (a0.Keys < 0)) (.kg 11<|.kg 11<|.kg 11<|.kg 11<|.kn [0]<|.rt false)<|.kg 11<|.kg 11<|.kg 11<|.kg 11<|.br (decide (a0.Keys > 131071)) (.rt false)<|.jn 0 (.L0 a0) [.relab 1001 30000000] (Zsj a0)
def Zaj6 : LF Zv5 Bool := ⟨111, [.t 2], false, fun | .L0 .. => [1,1,1,1],
 fun | .L0 E0 => ⟨87, [(1, (.bptr 30000000 0))], [(30000000, .box (bx (Zp E0)))]⟩,
 fun r => [], fun r => (wB r), fun | .L0 E0 => Zsj E0⟩
def Zaj7 (a0 : Zi) : Option Bool := Zaj6.run (Zaj5 a0)
theorem Zhl (a0 : Zi) {r : Bool} (h : Zaj7 a0 = some r) : Fn PR 111 [(wA (Zp a0))] (wB r) := Zaj6.fn h
inductive Zm2 where
 | L0 (E0 : Zj) (E1 : Zj) (v7 : Int) (v8 : Bool)
 | L1 (E0 : Zj) (E1 : Zj) (v7 : Int) (v16 : Bool)
def Znt (E0 : Zj) (E1 : Zj) (v7 : Int) (v16 : Bool) : LT Zm2 Zj :=
.br v16 (.rt (⟨E0.Kind, E0.N, E0.M, ([] : List UInt8), E0.Filter⟩ : Zj))<|.br (v7 == 11) (.rt (⟨E0.Kind, E0.N, E0.M, E0.Sub, (⟨0, 0, 0, 0, 0, 0, 0, ([] : List UInt8), 0, 0, (⟨0, 0⟩ : Zc), (⟨0, 0⟩ : Zc), (⟨0, 0⟩ : Zc)⟩ : Zi)⟩ : Zj))<|.br (v7 == 12) (.kn [3]<|.rt (⟨E0.Kind, 0, 0, E0.Sub, E0.Filter⟩ : Zj))<|.br (v7 == 13) (.rt (⟨E0.Kind, 0, 0, E0.Sub, E0.Filter⟩ : Zj))<|.rt E0
def Zhe (E0 : Zj) (E1 : Zj) (v7 : Int) (v8 : Bool) : LT Zm2 Zj :=
.br v8 (.rt (⟨E0.Kind, 0, E0.M, E0.Sub, E0.Filter⟩ : Zj))<|.br (v7 == 4) (.j0 (.L1 E0 E1 v7 (v7 == 4)) (Znt E0 E1 v7 (v7 == 4)))<|.j0 (.L1 E0 E1 v7 (v7 == 5)) (Znt E0 E1 v7 (v7 == 5))
def Zaby (a0 : Zj) : LT Zm2 Zj :=
.lb 1001<|.lb 1002<|.br (a0.Kind == 2) (.jn 0 (.L0 (⟨0, a0.N, a0.M, a0.Sub, a0.Filter⟩ : Zj) (⟨0, 0, 0, ([] : List UInt8), (⟨0, 0, 0, 0, 0, 0, 0, ([] : List UInt8), 0, 0, (⟨0, 0⟩ : Zc), (⟨0, 0⟩ : Zc), (⟨0, 0⟩ : Zc)⟩ : Zi)⟩ : Zj) a0.Kind (a0.Kind == 2)) [.relab 1001 30000000, .relab 1002 30000001] (Zhe (⟨0, a0.N, a0.M, a0.Sub, a0.Filter⟩ : Zj) (⟨0, 0, 0, ([] : List UInt8), (⟨0, 0, 0, 0, 0, 0, 0, ([] : List UInt8), 0, 0, (⟨0, 0⟩ : Zc), (⟨0, 0⟩ : Zc), (⟨0, 0⟩ : Zc)⟩ : Zi)⟩ : Zj) a0.Kind (a0.Kind == 2)))<|.br (a0.Kind == 3) (.jn 0 (.L0 (⟨0, a0.N, a0.M, a0.Sub, a0.Filter⟩ : Zj) (⟨0, 0, 0, ([] : List UInt8), (⟨0, 0, 0, 0, 0, 0, 0, ([] : List UInt8), 0, 0, (⟨0, 0⟩ : Zc), (⟨0, 0⟩ : Zc), (⟨0, 0⟩ : Zc)⟩ : Zi)⟩ : Zj) a0.Kind (a0.Kind == 3)) [.relab 1001 30000000, .relab 1002 30000001] (Zhe (⟨0, a0.N, a0.M, a0.Sub, a0.Filter⟩ : Zj) (⟨0, 0, 0, ([] : List UInt8), (⟨0, 0, 0, 0, 0, 0, 0, ([] : List UInt8), 0, 0, (⟨0, 0⟩ : Zc), (⟨0, 0⟩ : Zc), (⟨0, 0⟩ : Zc)⟩ : Zi)⟩ : Zj) a0.Kind (a0.Kind == 3)))<|.br (a0.Kind == 6) (.jn 0 (.L0 (⟨0, a0.N, a0.M, a0.Sub, a0.Filter⟩ : Zj) (⟨0, 0, 0, ([] : List UInt8), (⟨0, 0, 0, 0, 0, 0, 0, ([] : List UInt8), 0, 0, (⟨0, 0⟩ : Zc), (⟨0, 0⟩ : Zc), (⟨0, 0⟩ : Zc)⟩ : Zi)⟩ : Zj) a0.Kind (a0.Kind == 6)) [.relab 1001 30000000, .relab 1002 30000001] (Zhe (⟨0, a0.N, a0.M, a0.Sub, a0.Filter⟩ : Zj) (⟨0, 0, 0, ([] : List UInt8), (⟨0, 0, 0, 0, 0, 0, 0, ([] : List UInt8), 0, 0, (⟨0, 0⟩ : Zc), (⟨0, 0⟩ : Zc), (⟨0, 0⟩ : Zc)⟩ : Zi)⟩ : Zj) a0.Kind (a0.Kind == 6)))<|.br (a0.Kind == 7) (.jn 0 (.L0 (⟨0, a0.N, a0.M, a0.Sub, a0.Filter⟩ : Zj) (⟨0, 0, 0, ([] : List UInt8), (⟨0, 0, 0, 0, 0, 0, 0, ([] : List UInt8), 0, 0, (⟨0, 0⟩ : Zc), (⟨0, 0⟩ : Zc), (⟨0, 0⟩ : Zc)⟩ : Zi)⟩ : Zj) a0.Kind (a0.Kind == 7)) [.relab 1001 30000000, .relab 1002 30000001] (Zhe (⟨0, a0.N, a0.M, a0.Sub, a0.Filter⟩ : Zj) (⟨0, 0, 0, ([] : List UInt8), (⟨0, 0, 0, 0, 0, 0, 0, ([] : List UInt8), 0, 0, (⟨0, 0⟩ : Zc), (⟨0, 0⟩ : Zc), (⟨0, 0⟩ : Zc)⟩ : Zi)⟩ : Zj) a0.Kind (a0.Kind == 7)))<|.br (a0.Kind == 8) (.jn 0 (.L0 (⟨0, a0.N, a0.M, a0.Sub, a0.Filter⟩ : Zj) (⟨0, 0, 0, ([] : List UInt8), (⟨0, 0, 0, 0, 0, 0, 0, ([] : List UInt8), 0, 0, (⟨0, 0⟩ : Zc), (⟨0, 0⟩ : Zc), (⟨0, 0⟩ : Zc)⟩ : Zi)⟩ : Zj) a0.Kind (a0.Kind == 8)) [.relab 1001 30000000, .relab 1002 30000001] (Zhe (⟨0, a0.N, a0.M, a0.Sub, a0.Filter⟩ : Zj) (⟨0, 0, 0, ([] : List UInt8), (⟨0, 0, 0, 0, 0, 0, 0, ([] : List UInt8), 0, 0, (⟨0, 0⟩ : Zc), (⟨0, 0⟩ : Zc), (⟨0, 0⟩ : Zc)⟩ : Zi)⟩ : Zj) a0.Kind (a0.Kind == 8)))<|.jn 0 (.L0 (⟨0, a0.N, a0.M, a0.Sub, a0.Filter⟩ : Zj) (⟨0, 0, 0, ([] : List UInt8), (⟨0, 0, 0, 0, 0, 0, 0, ([] : List UInt8), 0, 0, (⟨0, 0⟩ : Zc), (⟨0, 0⟩ : Zc), (⟨0, 0⟩ : Zc)⟩ : Zi)⟩ : Zj) a0.Kind (a0.Kind == 9)) [.relab 1001 30000000, .relab 1002 30000001] (Zhe (⟨0, a0.N, a0.M, a0.Sub, a0.Filter⟩ : Zj) (⟨0, 0, 0, ([] : List UInt8), (⟨0, 0, 0, 0, 0, 0, 0, ([] : List UInt8), 0, 0, (⟨0, 0⟩ : Zc), (⟨0, 0⟩ : Zc), (⟨0, 0⟩ : Zc)⟩ : Zi)⟩ : Zj) a0.Kind (a0.Kind == 9))
def Zabz : LF Zm2 Zj := ⟨141, [.c 2 136 true 20], false, fun | .L0 .. => [1,1,1,0,1,4,1] | .L1 .. => [1,1,1,0,1,4,1,3,1],
 fun | .L0 E0 E1 v7 v8 => ⟨30, [(1, (.bptr 30000000 0)), (2, (.bptr 30000001 0)), (7, (wI v7)), (8, (wB v8))], [(30000000, .box (bx (Zn E0))), (30000001, .box (bx (Zn E1)))]⟩ | .L1 E0 E1 v7 v16 => ⟨30, [(1, (.bptr 30000000 0)), (2, (.bptr 30000001 0)), (7, (wI v7)), (16, (wB v16))], [(30000000, .box (bx (Zn E0))), (30000001, .box (bx (Zn E1)))]⟩,
 fun r => [], fun r => (wA (Zn r)), fun | .L0 E0 E1 v7 v8 => Zhe E0 E1 v7 v8 | .L1 E0 E1 v7 v16 => Znt E0 E1 v7 v16⟩
def Z9c (a0 : Zj) : Option Zj := Zabz.run (Zaby a0)
theorem Zane (a0 : Zj) {r : Zj} (h : Z9c a0 = some r) : Fn PR 141 [(wA (Zn a0))] (wA (Zn r)) := Zabz.fn h
def Z7k (a0 : Int) : LT Empty Bool :=
.cs (decide (a0 ≥ 1)) (.kg 0<|.kg 0<|.kg 0<|.cs (decide (a0 ≤ 63)) (.kg 1<|.kg 1<|.kg 1<|.kg 1<|.rt ((Zh0 .and .i64 a0 6) == 0))<|.kg 1<|.kg 1<|.kg 1<|.kg 1<|.rt false)<|.kg 0<|.kg 0<|.kg 0<|.kb false<|.kb false<|.kb false<|.kb false<|.rt false
def Z7l : LF Empty Bool := .z 142 [.t 2] false (fun r => []) (fun r => (wB r))
def Z4c (a0 : Int) : Option Bool := Z7l.run (Z7k a0)
theorem Zaj8 (a0 : Int) {r : Bool} (h : Z4c a0 = some r) : Fn PR 142 [(wI a0)] (wB r) := Z7l.fn h
inductive Zo2 where
 | L0 (E0 : Zj) (v18 : Int) (v19 : Bool)
 | L1 (E0 : Zj) (v18 : Int) (v25 : Bool)
 | L2 (E0 : Zj) (v18 : Int) (v51 : Bool)
def Zsk (E0 : Zj) (v18 : Int) (v51 : Bool) : LT Zo2 Bool :=
.br v51 (.cs (decide (E0.N ≥ 1)) (.kg 1<|.kg 1<|.kg 1<|.kg 1<|.rt (decide (E0.N ≤ 131071)))<|.kg 1<|.kg 1<|.kg 1<|.kg 1<|.rt false)<|.br (v18 == 11) (.call (Zhl E0.Filter) fun x4=>.rt x4)<|.br (v18 == 12) (.cs (decide (E0.N ≥ 0)) (.kg 3<|.kg 3<|.kg 3<|.kg 3<|.cs (decide (E0.N ≤ 99)) (.kg 4<|.kg 4<|.kg 4<|.kg 4<|.cs (decide (E0.M ≥ 0)) (.kg 5<|.kg 5<|.kg 5<|.kg 5<|.rt (decide (E0.M ≤ 99)))<|.kg 5<|.kg 5<|.kg 5<|.kg 5<|.rt false)<|.kg 4<|.kg 4<|.kg 4<|.kg 4<|.kb false<|.kb false<|.kb false<|.kb false<|.rt false)<|.kg 3<|.kg 3<|.kg 3<|.kg 3<|.kb false<|.kb false<|.kb false<|.kb false<|.kb false<|.kb false<|.kb false<|.kb false<|.rt false)<|.br (v18 == 13) (.cs (decide (E0.N ≥ (-99))) (.kg 4<|.kg 4<|.kg 4<|.kg 4<|.cs (decide (E0.N ≤ 99)) (.kg 5<|.kg 5<|.kg 5<|.kg 5<|.cs (decide (E0.M ≥ (-99))) (.kg 6<|.kg 6<|.kg 6<|.kg 6<|.rt (decide (E0.M ≤ 99)))<|.kg 6<|.kg 6<|.kg 6<|.kg 6<|.rt false)<|.kg 5<|.kg 5<|.kg 5<|.kg 5<|.kb false<|.kb false<|.kb false<|.kb false<|.rt false)<|.kg 4<|.kg 4<|.kg 4<|.kg 4<|.kb false<|.kb false<|.kb false<|.kb false<|.kb false<|.kb false<|.kb false<|.kb false<|.rt false)<|.rt true
def Zsl (E0 : Zj) (v18 : Int) (v25 : Bool) : LT Zo2 Bool :=
.br v25 (.call (Zv0 E0.Sub) fun x2=>.rt x2)<|.br (v18 == 6) (.cs (decide (E0.N ≥ 0)) (.kg 2<|.kg 2<|.kg 2<|.kg 2<|.rt (decide (E0.N ≤ 31)))<|.kg 2<|.kg 2<|.kg 2<|.kg 2<|.rt false)<|.br (v18 == 7) (.cs (decide (E0.N ≥ 1)) (.kg 3<|.kg 3<|.kg 3<|.kg 3<|.rt (decide (E0.N ≤ 31)))<|.kg 3<|.kg 3<|.kg 3<|.kg 3<|.rt false)<|.br (v18 == 8) (.j0 (.L2 E0 v18 (v18 == 8)) (Zsk E0 v18 (v18 == 8)))<|.j0 (.L2 E0 v18 (v18 == 9)) (Zsk E0 v18 (v18 == 9))
def Zsm (E0 : Zj) (v18 : Int) (v19 : Bool) : LT Zo2 Bool :=
.br v19 (.call (Zaj8 E0.N) fun x2=>.rt x2)<|.br (v18 == 4) (.j0 (.L1 E0 v18 (v18 == 4)) (Zsl E0 v18 (v18 == 4)))<|.j0 (.L1 E0 v18 (v18 == 5)) (Zsl E0 v18 (v18 == 5))
def Zaj9 (a0 : Zj) : LT Zo2 Bool :=
.lb 1001<|.cs (decide (a0.Kind < 1)) (.kg 0<|.kg 0<|.kg 0<|.kg 0<|.kb true<|.kb true<|.kb true<|.kb true<|.kb true<|.kn [0]<|.rt false)<|.kg 0<|.kg 0<|.kg 0<|.kg 0<|.cs (decide (a0.Kind > 14)) (.kg 1<|.kg 1<|.kg 1<|.kg 1<|.kg 1<|.kn [0]<|.rt false)<|.kg 1<|.kg 1<|.call (Zane a0) fun x3=>.kg 1<|.kg 1<|.kg 1<|.br (!(Zx (Zn x3) (Zn (⟨0, 0, 0, ([] : List UInt8), (⟨0, 0, 0, 0, 0, 0, 0, ([] : List UInt8), 0, 0, (⟨0, 0⟩ : Zc), (⟨0, 0⟩ : Zc), (⟨0, 0⟩ : Zc)⟩ : Zi)⟩ : Zj)))) (.rt false)<|.br (a0.Kind == 2) (.jn 0 (.L0 a0 a0.Kind (a0.Kind == 2)) [.relab 1001 30000000] (Zsm a0 a0.Kind (a0.Kind == 2)))<|.jn 0 (.L0 a0 a0.Kind (a0.Kind == 3)) [.relab 1001 30000000] (Zsm a0 a0.Kind (a0.Kind == 3))
def Zaka : LF Zo2 Bool := ⟨124, [.t 2], false, fun | .L0 .. => [1,1,0,1,4,1] | .L1 .. => [1,1,0,1,4,1,3,1] | .L2 .. => [1,1,0,1,4,1,3,1,3,1,3,1,3,1],
 fun | .L0 E0 v18 v19 => ⟨107, [(1, (.bptr 30000000 0)), (18, (wI v18)), (19, (wB v19))], [(30000000, .box (bx (Zn E0)))]⟩ | .L1 E0 v18 v25 => ⟨107, [(1, (.bptr 30000000 0)), (18, (wI v18)), (25, (wB v25))], [(30000000, .box (bx (Zn E0)))]⟩ | .L2 E0 v18 v51 => ⟨107, [(1, (.bptr 30000000 0)), (18, (wI v18)), (51, (wB v51))], [(30000000, .box (bx (Zn E0)))]⟩,
 fun r => [], fun r => (wB r), fun | .L0 E0 v18 v19 => Zsm E0 v18 v19 | .L1 E0 v18 v25 => Zsl E0 v18 v25 | .L2 E0 v18 v51 => Zsk E0 v18 v51⟩
def Zakb (a0 : Zj) : Option Bool := Zaka.run (Zaj9 a0)
theorem Zags (a0 : Zj) {r : Bool} (h : Zakb a0 = some r) : Fn PR 124 [(wA (Zn a0))] (wB r) := Zaka.fn h
inductive Zlv where
 | L0 (v0 : (List (List UInt8))) (v1 : Int) (v2 : (List UInt8)) (v7 : (List UInt8)) (v8 : Int)
def Zti (v0 : (List (List UInt8))) (v1 : Int) (v2 : (List UInt8)) (v7 : (List UInt8)) (v8 : Int) : LT Zlv (List UInt8) :=
.len cS v0<|.br (decide (v8 < (v0.length : Int))) (.call (Z1n v1 v8) fun x3=>.br x3 (.br (!(v7 == ([] : List UInt8))) (.ok (v7.length + v2.length ≤ 9223372036854775807)<|.idx cS v0 v8 fun x10=>.ok ((v7 ++ v2).length + x10.length ≤ 9223372036854775807)<|.g0 (.L0 v0 v1 v2 ((v7 ++ v2) ++ x10) (IntKind.wrap .i64 (v8 + 1))))<|.idx cS v0 v8 fun x17=>.ok (v7.length + x17.length ≤ 9223372036854775807)<|.g0 (.L0 v0 v1 v2 (v7 ++ x17) (IntKind.wrap .i64 (v8 + 1))))<|.g0 (.L0 v0 v1 v2 v7 (IntKind.wrap .i64 (v8 + 1))))<|.rt v7
def Z4d (a0 : (List (List UInt8))) (a1 : Int) (a2 : (List UInt8)) : LT Zlv (List UInt8) :=
.g0 (.L0 a0 a1 a2 ([] : List UInt8) 0)
def Z4e : LF Zlv (List UInt8) := ⟨157, [.t 6], false, fun | .L0 .. => [1,1,0,1,4],
 fun | .L0 v0 v1 v2 v7 v8 => ⟨30, [(0, (wL cS v0)), (1, (wI v1)), (2, (wS v2)), (7, (wS v7)), (8, (wI v8))], []⟩,
 fun r => [], fun r => (wS r), fun | .L0 v0 v1 v2 v7 v8 => Zti v0 v1 v2 v7 v8⟩
def Z1o (a0 : (List (List UInt8))) (a1 : Int) (a2 : (List UInt8)) : Option (List UInt8) := Z4e.run (Z4d a0 a1 a2)
theorem Zag7 (a0 : (List (List UInt8))) (a1 : Int) (a2 : (List UInt8)) {r : (List UInt8)} (h : Z1o a0 a1 a2 = some r) : Fn PR 157 [(wL cS a0), (wI a1), (wS a2)] (wS r) := Z4e.fn h
def Zxu (a0 : Int) : LT Empty (List UInt8) :=
.cs (decide (a0 < 1)) (.kg 0<|.kg 0<|.kg 0<|.kn [0]<|.rt ([] : List UInt8))<|.kg 0<|.kg 0<|.kg 0<|.br (decide (a0 > 63)) (.rt ([] : List UInt8))<|.call (Zvz) fun x3=>.call (Zag7 x3 a0 ([43] : List UInt8)) fun x5=>.rt x5
def Zxv : LF Empty (List UInt8) := .z 143 [.t 2] false (fun r => []) (fun r => (wS r))
def Ztj (a0 : Int) : Option (List UInt8) := Zxv.run (Zxu a0)
theorem Zo3 (a0 : Int) {r : (List UInt8)} (h : Ztj a0 = some r) : Fn PR 143 [(wI a0)] (wS r) := Zxv.fn h
def Zakc (a0 : Int) : LT Empty Bool :=
.cs (decide (a0 ≥ 0)) (.kg 0<|.kg 0<|.kg 0<|.rt (decide (a0 ≤ 31)))<|.kg 0<|.kg 0<|.kg 0<|.rt false
def Zakd : LF Empty Bool := .z 158 [.t 2] false (fun r => []) (fun r => (wB r))
def Zake (a0 : Int) : Option Bool := Zakd.run (Zakc a0)
theorem Zaqv (a0 : Int) {r : Bool} (h : Zake a0 = some r) : Fn PR 158 [(wI a0)] (wB r) := Zakd.fn h
def Zab0 (a0 : Int) : LT Empty (List UInt8) :=
.br (a0 == 0) (.rt ([97, 109, 98, 101, 114] : List UInt8))<|.br (a0 == 1) (.rt ([99, 111, 98, 97, 108, 116] : List UInt8))<|.br (a0 == 2) (.rt ([106, 101, 116] : List UInt8))<|.br (a0 == 3) (.rt ([114, 117, 98, 121] : List UInt8))<|.br (a0 == 4) (.rt ([101, 109, 101, 114, 97, 108, 100] : List UInt8))<|.rt ([] : List UInt8)
def Zab1 : LF Empty (List UInt8) := .z 159 [.t 2] false (fun r => []) (fun r => (wS r))
def Z9d (a0 : Int) : Option (List UInt8) := Zab1.run (Zab0 a0)
theorem Zr0 (a0 : Int) {r : (List UInt8)} (h : Z9d a0 = some r) : Fn PR 159 [(wI a0)] (wS r) := Zab1.fn h
inductive Zpz where
 | L0 (v0 : Int) (v3 : (List UInt8)) (v4 : Int)
def Zy5 (v0 : Int) (v3 : (List UInt8)) (v4 : Int) : LT Zpz (List UInt8) :=
.br (decide (v4 < 5)) (.ok (¬ v4 < 0)<|.ok ((shlI .i64 1 v4) ≠ 0)<|.dc ((2 : Int) ≠ 0) rfl<|.br ((Int.tmod (Zo1 .i64 v0 (shlI .i64 1 v4)) 2) == 1) (.br (!(v3 == ([] : List UInt8))) (.ok (v3.length + ([43] : List UInt8).length ≤ 9223372036854775807)<|.call (Zr0 v4) fun x10=>.ok ((v3 ++ ([43] : List UInt8)).length + x10.length ≤ 9223372036854775807)<|.g0 (.L0 v0 ((v3 ++ ([43] : List UInt8)) ++ x10) (IntKind.wrap .i64 (v4 + 1))))<|.call (Zr0 v4) fun x17=>.ok (v3.length + x17.length ≤ 9223372036854775807)<|.g0 (.L0 v0 (v3 ++ x17) (IntKind.wrap .i64 (v4 + 1))))<|.g0 (.L0 v0 v3 (IntKind.wrap .i64 (v4 + 1))))<|.rt v3
def Zab2 (a0 : Int) : LT Zpz (List UInt8) :=
.call (Zaqv a0) fun x1=>.br (!x1) (.rt ([] : List UInt8))<|.br (a0 == 0) (.rt ([110, 111, 110, 101] : List UInt8))<|.g0 (.L0 a0 ([] : List UInt8) 0)
def Zab3 : LF Zpz (List UInt8) := ⟨144, [.t 2], false, fun | .L0 .. => [1,1,1,1,0,1,4],
 fun | .L0 v0 v3 v4 => ⟨29, [(0, (wI v0)), (3, (wS v3)), (4, (wI v4))], []⟩,
 fun r => [], fun r => (wS r), fun | .L0 v0 v3 v4 => Zy5 v0 v3 v4⟩
def Z9e (a0 : Int) : Option (List UInt8) := Zab3.run (Zab2 a0)
theorem Z7m (a0 : Int) {r : (List UInt8)} (h : Z9e a0 = some r) : Fn PR 144 [(wI a0)] (wS r) := Zab3.fn h
def Z7n : LT Empty (List (List UInt8)) :=
.lb 1001<|.ret [([102, 108, 121, 105, 110, 103] : List UInt8), ([114, 101, 97, 99, 104] : List UInt8), ([104, 97, 115, 116, 101] : List UInt8), ([118, 105, 103, 105, 108, 97, 110, 116] : List UInt8), ([116, 114, 97, 109, 112, 108, 101] : List UInt8), ([102, 105, 114, 115, 116, 45, 115, 116, 114, 105, 107, 101] : List UInt8), ([100, 111, 117, 98, 108, 101, 45, 115, 116, 114, 105, 107, 101] : List UInt8), ([100, 101, 97, 100, 108, 121] : List UInt8), ([108, 105, 102, 101, 108, 105, 110, 107] : List UInt8), ([109, 101, 110, 97, 99, 101] : List UInt8), ([100, 101, 102, 101, 110, 100, 101, 114] : List UInt8), ([119, 97, 114, 100, 101, 100] : List UInt8), ([115, 116, 117, 114, 100, 121] : List UInt8), ([101, 108, 117, 115, 105, 118, 101] : List UInt8), ([110, 111, 45, 97, 116, 116, 97, 99, 107] : List UInt8), ([110, 111, 45, 98, 108, 111, 99, 107] : List UInt8), ([109, 117, 115, 116, 45, 97, 116, 116, 97, 99, 107] : List UInt8)] [.relab 1001 5000]
def Z7o : LF Empty (List (List UInt8)) := .z 175 [.t 0] true (fun r => [(5000, wR cS 1 r)]) (fun r => (wO cS 5000 r))
def Zxw : Option (List (List UInt8)) := Z7o.run (Z7n)
theorem Zag8 {r : (List (List UInt8))} (h : Zxw = some r) : FnG PR 175 [] [] [(5000, wR cS 1 r)] (wO cS 5000 r) := Z7o.fn h
theorem Zakf {r : (List (List UInt8))} (h : Zxw = some r) : Fn PR 175 [] (wL cS r) :=
 FnG.frozen (C := LT.RL cS r ∧ True) (Zag8 h) ⟨rfl, trivial⟩ (by kernel_rfl)
def Zab4 (a0 : Int) : LT Empty (List UInt8) :=
.cs (decide (a0 < 0)) (.kg 0<|.kg 0<|.kg 0<|.kn [0]<|.rt ([] : List UInt8))<|.kg 0<|.kg 0<|.kg 0<|.br (decide (a0 > 16)) (.rt ([] : List UInt8))<|.call (Zakf) fun x3=>.idx cS x3 a0 fun x5=>.rt x5
def Zab5 : LF Empty (List UInt8) := .z 160 [.t 2] false (fun r => []) (fun r => (wS r))
def Z9f (a0 : Int) : Option (List UInt8) := Zab5.run (Zab4 a0)
theorem Zy6 (a0 : Int) {r : (List UInt8)} (h : Z9f a0 = some r) : Fn PR 160 [(wI a0)] (wS r) := Zab5.fn h
inductive Zp0 where
 | L0 (v0 : Int) (v3 : (List UInt8)) (v4 : Int)
def Zy7 (v0 : Int) (v3 : (List UInt8)) (v4 : Int) : LT Zp0 (List UInt8) :=
.br (decide (v4 < 17)) (.dc ((2 : Int) ≠ 0) rfl<|.br ((Int.tmod v0 2) == 1) (.br (!(v3 == ([] : List UInt8))) (.ok (v3.length + ([43] : List UInt8).length ≤ 9223372036854775807)<|.call (Zy6 v4) fun x6=>.ok ((v3 ++ ([43] : List UInt8)).length + x6.length ≤ 9223372036854775807)<|.dc ((2 : Int) ≠ 0) rfl<|.g0 (.L0 (Zo1 .i64 v0 2) ((v3 ++ ([43] : List UInt8)) ++ x6) (IntKind.wrap .i64 (v4 + 1))))<|.call (Zy6 v4) fun x13=>.ok (v3.length + x13.length ≤ 9223372036854775807)<|.dc ((2 : Int) ≠ 0) rfl<|.g0 (.L0 (Zo1 .i64 v0 2) (v3 ++ x13) (IntKind.wrap .i64 (v4 + 1))))<|.dc ((2 : Int) ≠ 0) rfl<|.g0 (.L0 (Zo1 .i64 v0 2) v3 (IntKind.wrap .i64 (v4 + 1))))<|.br (v3 == ([] : List UInt8)) (.rt ([110, 111, 110, 101] : List UInt8))<|.rt v3
def Zab6 (a0 : Int) : LT Zp0 (List UInt8) :=
.call (Zagr a0) fun x1=>.br (!x1) (.rt ([] : List UInt8))<|.g0 (.L0 a0 ([] : List UInt8) 0)
def Zab7 : LF Zp0 (List UInt8) := ⟨145, [.t 2], false, fun | .L0 .. => [1,1,1,0,1,4],
 fun | .L0 v0 v3 v4 => ⟨28, [(0, (wI v0)), (3, (wS v3)), (4, (wI v4))], []⟩,
 fun r => [], fun r => (wS r), fun | .L0 v0 v3 v4 => Zy7 v0 v3 v4⟩
def Z9g (a0 : Int) : Option (List UInt8) := Zab7.run (Zab6 a0)
theorem Z7p (a0 : Int) {r : (List UInt8)} (h : Z9g a0 = some r) : Fn PR 145 [(wI a0)] (wS r) := Zab7.fn h
def Zxx : LT Empty (List (List UInt8)) :=
.lb 1001<|.ret [([] : List UInt8), ([105, 110, 45, 104, 97, 110, 100] : List UInt8), ([105, 110, 45, 108, 105, 98, 114, 97, 114, 121] : List UInt8), ([105, 110, 45, 103, 114, 97, 118, 101, 121, 97, 114, 100] : List UInt8), ([105, 110, 45, 101, 120, 105, 108, 101] : List UInt8), ([111, 110, 45, 115, 116, 97, 99, 107] : List UInt8)] [.relab 1001 5000]
def Zxy : LF Empty (List (List UInt8)) := .z 161 [.t 0] true (fun r => [(5000, wR cS 1 r)]) (fun r => (wO cS 5000 r))
def Zok : Option (List (List UInt8)) := Zxy.run (Zxx)
theorem Z6t {r : (List (List UInt8))} (h : Zok = some r) : FnG PR 161 [] [] [(5000, wR cS 1 r)] (wO cS 5000 r) := Zxy.fn h
theorem Z9h {r : (List (List UInt8))} (h : Zok = some r) : Fn PR 161 [] (wL cS r) :=
 FnG.frozen (C := LT.RL cS r ∧ True) (Z6t h) ⟨rfl, trivial⟩ (by kernel_rfl)
def Z0g : LT Empty (List (List UInt8)) :=
.lb 1001<|.ret [([] : List UInt8), ([121, 111, 117, 114, 115] : List UInt8), ([116, 104, 101, 105, 114, 115] : List UInt8)] [.relab 1001 5000]
def Z0h : LF Empty (List (List UInt8)) := .z 162 [.t 0] true (fun r => [(5000, wR cS 1 r)]) (fun r => (wO cS 5000 r))
def Zp1 : Option (List (List UInt8)) := Z0h.run (Z0g)
theorem Z9i {r : (List (List UInt8))} (h : Zp1 = some r) : FnG PR 162 [] [] [(5000, wR cS 1 r)] (wO cS 5000 r) := Z0h.fn h
theorem Zab8 {r : (List (List UInt8))} (h : Zp1 = some r) : Fn PR 162 [] (wL cS r) :=
 FnG.frozen (C := LT.RL cS r ∧ True) (Z9i h) ⟨rfl, trivial⟩ (by kernel_rfl)
def Zxz : LT Empty (List (List UInt8)) :=
.lb 1001<|.ret [([] : List UInt8), ([115, 101, 108, 102] : List UInt8), ([111, 116, 104, 101, 114] : List UInt8)] [.relab 1001 5000]
def Zx0 : LF Empty (List (List UInt8)) := .z 163 [.t 0] true (fun r => [(5000, wR cS 1 r)]) (fun r => (wO cS 5000 r))
def Zol : Option (List (List UInt8)) := Zx0.run (Zxz)
theorem Z6u {r : (List (List UInt8))} (h : Zol = some r) : FnG PR 163 [] [] [(5000, wR cS 1 r)] (wO cS 5000 r) := Zx0.fn h
theorem Z9j {r : (List (List UInt8))} (h : Zol = some r) : Fn PR 163 [] (wL cS r) :=
 FnG.frozen (C := LT.RL cS r ∧ True) (Z6u h) ⟨rfl, trivial⟩ (by kernel_rfl)
def Z0i : LT Empty (List (List UInt8)) :=
.lb 1001<|.ret [([] : List UInt8), ([116, 97, 112, 112, 101, 100] : List UInt8), ([117, 110, 116, 97, 112, 112, 101, 100] : List UInt8)] [.relab 1001 5000]
def Z0j : LF Empty (List (List UInt8)) := .z 164 [.t 0] true (fun r => [(5000, wR cS 1 r)]) (fun r => (wO cS 5000 r))
def Zp2 : Option (List (List UInt8)) := Z0j.run (Z0i)
theorem Z9k {r : (List (List UInt8))} (h : Zp2 = some r) : FnG PR 164 [] [] [(5000, wR cS 1 r)] (wO cS 5000 r) := Z0j.fn h
theorem Zab9 {r : (List (List UInt8))} (h : Zp2 = some r) : Fn PR 164 [] (wL cS r) :=
 FnG.frozen (C := LT.RL cS r ∧ True) (Z9k h) ⟨rfl, trivial⟩ (by kernel_rfl)
inductive Zsn where
 | L0 (v0 : Int) (v1 : Int) (v5 : Int)
def Z1p (v0 : Int) (v1 : Int) (v5 : Int) : LT Zsn Bool :=
.br (decide (v5 < v1)) (.dc ((2 : Int) ≠ 0) rfl<|.g0 (.L0 (Zo1 .i64 v0 2) v1 (IntKind.wrap .i64 (v5 + 1))))<|.dc ((2 : Int) ≠ 0) rfl<|.rt ((Int.tmod v0 2) == 1)
def Zagt (a0 : Int) (a1 : Int) : LT Zsn Bool :=
.g0 (.L0 a0 a1 0)
def Zagu : LF Zsn Bool := ⟨166, [.t 4], false, fun | .L0 .. => [1,0,1,4],
 fun | .L0 v0 v1 v5 => ⟨16, [(0, (wI v0)), (1, (wI v1)), (5, (wI v5))], []⟩,
 fun r => [], fun r => (wB r), fun | .L0 v0 v1 v5 => Z1p v0 v1 v5⟩
def Zafl (a0 : Int) (a1 : Int) : Option Bool := Zagu.run (Zagt a0 a1)
theorem Zp3 (a0 : Int) (a1 : Int) {r : Bool} (h : Zafl a0 a1 = some r) : Fn PR 166 [(wI a0), (wI a1)] (wB r) := Zagu.fn h
inductive Zi8 where
 | L0 (v0 : Int) (v3 : Int) (v4 : Int)
def Zp4 (v0 : Int) (v3 : Int) (v4 : Int) : LT Zi8 (List UInt8) :=
.br (decide (v4 < v0)) (.g0 (.L0 v0 (IntKind.wrap .i64 (v3 * 2)) (IntKind.wrap .i64 (v4 + 1))))<|.call (Zo3 v3) fun x6=>.rt x6
def Z0k (a0 : Int) : LT Zi8 (List UInt8) :=
.g0 (.L0 a0 1 0)
def Z0l : LF Zi8 (List UInt8) := ⟨167, [.t 2], false, fun | .L0 .. => [1,1,0,1,4],
 fun | .L0 v0 v3 v4 => ⟨14, [(0, (wI v0)), (3, (wI v3)), (4, (wI v4))], []⟩,
 fun r => [], fun r => (wS r), fun | .L0 v0 v3 v4 => Zp4 v0 v3 v4⟩
def Zv6 (a0 : Int) : Option (List UInt8) := Z0l.run (Z0k a0)
theorem Zx1 (a0 : Int) {r : (List UInt8)} (h : Zv6 a0 = some r) : Fn PR 167 [(wI a0)] (wS r) := Z0l.fn h
def Z7q : LT Empty (List (List UInt8)) :=
.lb 1001<|.ret [([] : List UInt8), ([62, 61] : List UInt8), ([60, 61] : List UInt8), ([61] : List UInt8)] [.relab 1001 5000]
def Z7r : LF Empty (List (List UInt8)) := .z 176 [.t 0] true (fun r => [(5000, wR cS 1 r)]) (fun r => (wO cS 5000 r))
def Zx2 : Option (List (List UInt8)) := Z7r.run (Z7q)
theorem Zag9 {r : (List (List UInt8))} (h : Zx2 = some r) : FnG PR 176 [] [] [(5000, wR cS 1 r)] (wO cS 5000 r) := Z7r.fn h
theorem Zakg {r : (List (List UInt8))} (h : Zx2 = some r) : Fn PR 176 [] (wL cS r) :=
 FnG.frozen (C := LT.RL cS r ∧ True) (Zag9 h) ⟨rfl, trivial⟩ (by kernel_rfl)
inductive Zv7 where
 | L0 (v0 : Int) (v3 : (List UInt8))
def Zht (v0 : Int) (v3 : (List UInt8)) : LT Zv7 (List UInt8) :=
.br (decide (v0 > 0)) (.dc ((10 : Int) ≠ 0) rfl<|.dr [.lit]<|.str [IntKind.wrap .u8 (IntKind.wrap .u64 (48 + (Int.tmod v0 10)))] fun x5=>.ok (x5.length + v3.length ≤ 9223372036854775807)<|.dc ((10 : Int) ≠ 0) rfl<|.g0 (.L0 (Zo1 .u64 v0 10) (x5 ++ v3)))<|.rt v3
def Z4f (a0 : Int) : LT Zv7 (List UInt8) :=
.dc ((10 : Int) ≠ 0) rfl<|.dr [.lit]<|.str [IntKind.wrap .u8 (IntKind.wrap .u64 (48 + (Int.tmod a0 10)))] fun x4=>.dc ((10 : Int) ≠ 0) rfl<|.g0 (.L0 (Zo1 .u64 a0 10) x4)
def Zp5 : LF Zv7 (List UInt8) := ⟨170, [.t 2], false, fun | .L0 .. => [1,1,0,1,4],
 fun | .L0 v0 v3 => ⟨25, [(0, (.t (.int .u64 v0))), (3, (wS v3))], []⟩,
 fun r => [], fun r => (wS r), fun | .L0 v0 v3 => Zht v0 v3⟩
def Z1q (a0 : Int) : Option (List UInt8) := Zp5.run (Z4f a0)
theorem Z2l (a0 : Int) {r : (List UInt8)} (h : Z1q a0 = some r) : Fn PR 170 [(.t (.int .u64 a0))] (wS r) := Zp5.fn h
def Zaca (a0 : Int) : LT Empty (List UInt8) :=
.br (decide (a0 < 0)) (.call (Z2l (IntKind.wrap .u64 (0 - (IntKind.wrap .u64 a0)))) fun x4=>.ok (([45] : List UInt8).length + x4.length ≤ 9223372036854775807)<|.rt (([45] : List UInt8) ++ x4))<|.call (Z2l (IntKind.wrap .u64 a0)) fun x10=>.rt x10
def Zacb : LF Empty (List UInt8) := .z 147 [.t 2] false (fun r => []) (fun r => (wS r))
def Z9l (a0 : Int) : Option (List UInt8) := Zacb.run (Zaca a0)
theorem Zky (a0 : Int) {r : (List UInt8)} (h : Z9l a0 = some r) : Fn PR 147 [(wI a0)] (wS r) := Zacb.fn h
def Zx3 (a0 : (List UInt8)) (a1 : Zc) : LT Empty (List UInt8) :=
.lb 1003<|.br (a1.Kind == 0) (.rt ([] : List UInt8))<|.call (Zakg) fun x2=>.idx cS x2 a1.Kind fun x4=>.ok (a0.length + x4.length ≤ 9223372036854775807)<|.call (Zky a1.N) fun x10=>.ok ((a0 ++ x4).length + x10.length ≤ 9223372036854775807)<|.rt ((a0 ++ x4) ++ x10)
def Zx4 : LF Empty (List UInt8) := .z 168 [.t 4] false (fun r => []) (fun r => (wS r))
def Ztk (a0 : (List UInt8)) (a1 : Zc) : Option (List UInt8) := Zx4.run (Zx3 a0 a1)
theorem Zo4 (a0 : (List UInt8)) (a1 : Zc) {r : (List UInt8)} (h : Ztk a0 a1 = some r) : Fn PR 168 [(wS a0), (wA (Zfu a1))] (wS r) := Zx4.fn h
inductive Zp6 where
 | L0 (v0 : (List (List UInt8))) (v1 : (List UInt8)) (v5 : (List UInt8)) (v6 : Int)
def Zy8 (v0 : (List (List UInt8))) (v1 : (List UInt8)) (v5 : (List UInt8)) (v6 : Int) : LT Zp6 (List UInt8) :=
.len cS v0<|.br (decide (v6 < (v0.length : Int))) (.br (decide (v6 > 0)) (.ok (v5.length + v1.length ≤ 9223372036854775807)<|.idx cS v0 v6 fun x7=>.ok ((v5 ++ v1).length + x7.length ≤ 9223372036854775807)<|.g0 (.L0 v0 v1 ((v5 ++ v1) ++ x7) (IntKind.wrap .i64 (v6 + 1))))<|.idx cS v0 v6 fun x14=>.ok (v5.length + x14.length ≤ 9223372036854775807)<|.g0 (.L0 v0 v1 (v5 ++ x14) (IntKind.wrap .i64 (v6 + 1))))<|.rt v5
def Zacc (a0 : (List (List UInt8))) (a1 : (List UInt8)) : LT Zp6 (List UInt8) :=
.g0 (.L0 a0 a1 ([] : List UInt8) 0)
def Zacd : LF Zp6 (List UInt8) := ⟨169, [.t 4], false, fun | .L0 .. => [1,1,0,1,4],
 fun | .L0 v0 v1 v5 v6 => ⟨25, [(0, (wL cS v0)), (1, (wS v1)), (5, (wS v5)), (6, (wI v6))], []⟩,
 fun r => [], fun r => (wS r), fun | .L0 v0 v1 v5 v6 => Zy8 v0 v1 v5 v6⟩
def Z9m (a0 : (List (List UInt8))) (a1 : (List UInt8)) : Option (List UInt8) := Zacd.run (Zacc a0 a1)
theorem Zanf (a0 : (List (List UInt8))) (a1 : (List UInt8)) {r : (List UInt8)} (h : Z9m a0 a1 = some r) : Fn PR 169 [(wL cS a0), (wS a1)] (wS r) := Zacd.fn h
def Z0m (b0 : (List (List UInt8))) (a1 : (List UInt8)) : LT Empty (List (List UInt8)) :=
.br (a1 == ([] : List UInt8)) (.ret b0 [.relab 0 5000])<|.dr [.lit]<|.apR cS 16 b0 [a1] fun x3=>.ret x3 [.relab 0 5000]
def Z0n : LF Empty (List (List UInt8)) := .z 165 [.t 4] true (fun r => [(5000, wR cS 1 r)]) (fun r => (wO cS 5000 r))
def Zv8 (b0 : (List (List UInt8))) (a1 : (List UInt8)) : Option (List (List UInt8)) := Z0n.run (Z0m b0 a1)
theorem Zf1 (b0 : (List (List UInt8))) (a1 : (List UInt8)) {r : (List (List UInt8))} (h : Zv8 b0 a1 = some r) : FnG PR 165 [(0, wR cS 1 b0)] [(wO cS 0 b0), (wS a1)] [(5000, wR cS 1 r)] (wO cS 5000 r) := Z0n.fn h
inductive Zhf where
 | L0 (E0 : Zi) (v6 : (List (List UInt8))) (v7 : (List (List UInt8))) (v8 : Int)
 | L1 (E0 : Zi) (v6 : (List (List UInt8))) (v7 : (List (List UInt8))) (v9 : Int)
 | L2 (E0 : Zi) (v6 : (List (List UInt8))) (v7 : (List (List UInt8))) (v10 : Int)
 | L3 (E0 : Zi) (v6 : (List (List UInt8))) (v7 : (List (List UInt8))) (v11 : Int)
 | L4 (E0 : Zi) (v6 : (List (List UInt8))) (v7 : (List (List UInt8)))
 | L5 (E0 : Zi) (v6 : (List (List UInt8))) (v7 : (List (List UInt8))) (v12 : Int)
def Znu (E0 : Zi) (v6 : (List (List UInt8))) (v7 : (List (List UInt8))) : LT Zhf (List UInt8) :=
.g0 (.L5 E0 v6 v7 0)
def Zy9 (E0 : Zi) (v6 : (List (List UInt8))) (v7 : (List (List UInt8))) (v8 : Int) : LT Zhf (List UInt8) :=
.br (decide (v8 < 6)) (.call (Zp3 E0.Types v8) fun x2=>.br x2 (.call (Zx1 v8) fun x5=>.dr [.lit]<|.apR cS 16 v7 [x5] fun x8=>.g0 (.L0 E0 v6 x8 (IntKind.wrap .i64 (v8 + 1))))<|.g0 (.L0 E0 v6 v7 (IntKind.wrap .i64 (v8 + 1))))<|.g0 (.L1 E0 v6 v7 0)
def Zza (E0 : Zi) (v6 : (List (List UInt8))) (v7 : (List (List UInt8))) (v9 : Int) : LT Zhf (List UInt8) :=
.br (decide (v9 < 6)) (.call (Zp3 E0.NotTypes v9) fun x2=>.br x2 (.call (Zx1 v9) fun x5=>.ok (([110, 111, 110, 45] : List UInt8).length + x5.length ≤ 9223372036854775807)<|.dr [.lit]<|.apR cS 16 v7 [(([110, 111, 110, 45] : List UInt8) ++ x5)] fun x11=>.g0 (.L1 E0 v6 x11 (IntKind.wrap .i64 (v9 + 1))))<|.g0 (.L1 E0 v6 v7 (IntKind.wrap .i64 (v9 + 1))))<|.g0 (.L2 E0 v6 v7 0)
def Zzb (E0 : Zi) (v6 : (List (List UInt8))) (v7 : (List (List UInt8))) (v10 : Int) : LT Zhf (List UInt8) :=
.br (decide (v10 < 5)) (.call (Zp3 E0.Colors v10) fun x2=>.br x2 (.call (Zr0 v10) fun x5=>.dr [.lit]<|.apR cS 16 v7 [x5] fun x8=>.g0 (.L2 E0 v6 x8 (IntKind.wrap .i64 (v10 + 1))))<|.g0 (.L2 E0 v6 v7 (IntKind.wrap .i64 (v10 + 1))))<|.g0 (.L3 E0 v6 v7 0)
def Zzc (E0 : Zi) (v6 : (List (List UInt8))) (v7 : (List (List UInt8))) (v11 : Int) : LT Zhf (List UInt8) :=
.br (decide (v11 < 5)) (.call (Zp3 E0.NotColors v11) fun x2=>.br x2 (.call (Zr0 v11) fun x5=>.ok (([110, 111, 110, 45] : List UInt8).length + x5.length ≤ 9223372036854775807)<|.dr [.lit]<|.apR cS 16 v7 [(([110, 111, 110, 45] : List UInt8) ++ x5)] fun x11=>.g0 (.L3 E0 v6 x11 (IntKind.wrap .i64 (v11 + 1))))<|.g0 (.L3 E0 v6 v7 (IntKind.wrap .i64 (v11 + 1))))<|.br (!(E0.Sub == ([] : List UInt8))) (.ok (([115, 117, 98, 58] : List UInt8).length + E0.Sub.length ≤ 9223372036854775807)<|.dr [.lit]<|.apR cS 16 v7 [(([115, 117, 98, 58] : List UInt8) ++ E0.Sub)] fun x24=>.j0 (.L4 E0 v6 x24) (Znu E0 v6 x24))<|.j0 (.L4 E0 v6 v7) (Znu E0 v6 v7)
def Zzd (E0 : Zi) (v6 : (List (List UInt8))) (v7 : (List (List UInt8))) (v12 : Int) : LT Zhf (List UInt8) :=
.br (decide (v12 < 17)) (.call (Zp3 E0.Keys v12) fun x2=>.br x2 (.call (Zy6 v12) fun x5=>.ok (([119, 105, 116, 104, 58] : List UInt8).length + x5.length ≤ 9223372036854775807)<|.dr [.lit]<|.apR cS 16 v7 [(([119, 105, 116, 104, 58] : List UInt8) ++ x5)] fun x11=>.g0 (.L5 E0 v6 x11 (IntKind.wrap .i64 (v12 + 1))))<|.g0 (.L5 E0 v6 v7 (IntKind.wrap .i64 (v12 + 1))))<|.idx cS v6 E0.Tap fun x19=>.callU (Zf1 v7 x19) [20000007] 1250000 fun x21=>.call (Zo4 ([112, 111, 119, 101, 114] : List UInt8) E0.Power) fun x23=>.callU (Zf1 x21 x23) [1255000] 1300000 fun x25=>.call (Zo4 ([116, 111, 117, 103, 104] : List UInt8) E0.Tough) fun x27=>.callU (Zf1 x25 x27) [1305000] 1350000 fun x29=>.call (Zo4 ([118, 97, 108, 117, 101] : List UInt8) E0.Value) fun x31=>.callU (Zf1 x29 x31) [1355000] 1400000 fun x33=>.lenO cS x33<|.br ((x33.length : Int) == 0) (.rt ([97, 110, 121] : List UInt8))<|.rl cS x33<|.call (Zanf x33 ([32] : List UInt8)) fun x37=>.rt x37
def Zace (a0 : Zi) : LT Zhf (List UInt8) :=
.lb 1001<|.call (Zhl a0) fun x1=>.br (!x1) (.rt ([] : List UInt8))<|.call (Z9h) fun x4=>.call (Zab8) fun x6=>.call (Z9j) fun x8=>.call (Zab9) fun x10=>.idx cS x4 a0.Zone fun x12=>.dr [.ahead 26, .own 20 70000260 1, .stop]<|.callU (Zf1 ([] : (List (List UInt8))) x12) [70000260] 270000 fun x14=>.idx cS x6 a0.Who fun x16=>.callU (Zf1 x14 x16) [275000] 340000 fun x18=>.idx cS x8 a0.Self fun x20=>.callU (Zf1 x18 x20) [345000] 410000 fun x22=>.go (.L0 a0 x10 x22 0) [.relab 1001 30000000, .relab 415000 20000007]
def Zacf : LF Zhf (List UInt8) := ⟨146, [.t 2], false, fun | .L0 .. => [1,1,1,1,1,1,1,1,1,1,0,1,4] | .L1 .. => [1,1,1,1,1,1,1,1,1,1,1,0,1,4] | .L2 .. => [1,1,1,1,1,1,1,1,1,1,1,1,0,1,4] | .L3 .. => [1,1,1,1,1,1,1,1,1,1,1,1,1,0,1,4] | .L4 .. => [1,1,1,1,1,1,1,1,1,1,1,1,1,1,1] | .L5 .. => [1,1,1,1,1,1,1,1,1,1,1,1,1,1,1,0,1,4],
 fun | .L0 E0 v6 v7 v8 => ⟨145, [(1, (.bptr 30000000 0)), (6, (wL cS v6)), (7, (wO cS 20000007 v7)), (8, (wI v8))], [(30000000, .box (bx (Zp E0))), (20000007, wR cS 1 v7)]⟩ | .L1 E0 v6 v7 v9 => ⟨145, [(1, (.bptr 30000000 0)), (6, (wL cS v6)), (7, (wO cS 20000007 v7)), (9, (wI v9))], [(30000000, .box (bx (Zp E0))), (20000007, wR cS 1 v7)]⟩ | .L2 E0 v6 v7 v10 => ⟨145, [(1, (.bptr 30000000 0)), (6, (wL cS v6)), (7, (wO cS 20000007 v7)), (10, (wI v10))], [(30000000, .box (bx (Zp E0))), (20000007, wR cS 1 v7)]⟩ | .L3 E0 v6 v7 v11 => ⟨145, [(1, (.bptr 30000000 0)), (6, (wL cS v6)), (7, (wO cS 20000007 v7)), (11, (wI v11))], [(30000000, .box (bx (Zp E0))), (20000007, wR cS 1 v7)]⟩ | .L4 E0 v6 v7 => ⟨145, [(1, (.bptr 30000000 0)), (6, (wL cS v6)), (7, (wO cS 20000007 v7))], [(30000000, .box (bx (Zp E0))), (20000007, wR cS 1 v7)]⟩ | .L5 E0 v6 v7 v12 => ⟨145, [(1, (.bptr 30000000 0)), (6, (wL cS v6)), (7, (wO cS 20000007 v7)), (12, (wI v12))], [(30000000, .box (bx (Zp E0))), (20000007, wR cS 1 v7)]⟩,
 fun r => [], fun r => (wS r), fun | .L0 E0 v6 v7 v8 => Zy9 E0 v6 v7 v8 | .L1 E0 v6 v7 v9 => Zza E0 v6 v7 v9 | .L2 E0 v6 v7 v10 => Zzb E0 v6 v7 v10 | .L3 E0 v6 v7 v11 => Zzc E0 v6 v7 v11 | .L4 E0 v6 v7 => Znu E0 v6 v7 | .L5 E0 v6 v7 v12 => Zzd E0 v6 v7 v12⟩
def Z9n (a0 : Zi) : Option (List UInt8) := Zacf.run (Zace a0)
theorem Zang (a0 : Zi) {r : (List UInt8)} (h : Z9n a0 = some r) : Fn PR 146 [(wA (Zp a0))] (wS r) := Zacf.fn h
def Zacg (a0 : Zj) : LT Empty (List UInt8) :=
.lb 1001<|.call (Zags a0) fun x1=>.br (!x1) (.rt ([] : List UInt8))<|.br (a0.Kind == 1) (.rt ([99, 111, 110, 116, 114, 111, 108] : List UInt8))<|.br (a0.Kind == 2) (.call (Zo3 a0.N) fun x6=>.ok (([116, 121, 112, 101, 115, 61] : List UInt8).length + x6.length ≤ 9223372036854775807)<|.rt (([116, 121, 112, 101, 115, 61] : List UInt8) ++ x6))<|.br (a0.Kind == 3) (.call (Zo3 a0.N) fun x12=>.ok (([116, 121, 112, 101, 115, 43, 61] : List UInt8).length + x12.length ≤ 9223372036854775807)<|.rt (([116, 121, 112, 101, 115, 43, 61] : List UInt8) ++ x12))<|.br (a0.Kind == 4) (.ok (([115, 117, 98, 61] : List UInt8).length + a0.Sub.length ≤ 9223372036854775807)<|.rt (([115, 117, 98, 61] : List UInt8) ++ a0.Sub))<|.br (a0.Kind == 5) (.ok (([115, 117, 98, 43, 61] : List UInt8).length + a0.Sub.length ≤ 9223372036854775807)<|.rt (([115, 117, 98, 43, 61] : List UInt8) ++ a0.Sub))<|.br (a0.Kind == 6) (.call (Z7m a0.N) fun x26=>.ok (([99, 111, 108, 111, 114, 115, 61] : List UInt8).length + x26.length ≤ 9223372036854775807)<|.rt (([99, 111, 108, 111, 114, 115, 61] : List UInt8) ++ x26))<|.br (a0.Kind == 7) (.call (Z7m a0.N) fun x32=>.ok (([99, 111, 108, 111, 114, 115, 43, 61] : List UInt8).length + x32.length ≤ 9223372036854775807)<|.rt (([99, 111, 108, 111, 114, 115, 43, 61] : List UInt8) ++ x32))<|.br (a0.Kind == 8) (.call (Z7p a0.N) fun x38=>.ok (([107, 101, 121, 115, 43, 61] : List UInt8).length + x38.length ≤ 9223372036854775807)<|.rt (([107, 101, 121, 115, 43, 61] : List UInt8) ++ x38))<|.br (a0.Kind == 9) (.call (Z7p a0.N) fun x44=>.ok (([107, 101, 121, 115, 45, 61] : List UInt8).length + x44.length ≤ 9223372036854775807)<|.rt (([107, 101, 121, 115, 45, 61] : List UInt8) ++ x44))<|.br (a0.Kind == 10) (.rt ([98, 108, 97, 110, 107] : List UInt8))<|.br (a0.Kind == 11) (.call (Zang a0.Filter) fun x51=>.ok (([112, 116, 61, 99, 111, 117, 110, 116, 40] : List UInt8).length + x51.length ≤ 9223372036854775807)<|.ok ((([112, 116, 61, 99, 111, 117, 110, 116, 40] : List UInt8) ++ x51).length + ([41] : List UInt8).length ≤ 9223372036854775807)<|.rt ((([112, 116, 61, 99, 111, 117, 110, 116, 40] : List UInt8) ++ x51) ++ ([41] : List UInt8)))<|.br (a0.Kind == 12) (.call (Zky a0.N) fun x58=>.ok (([112, 116, 61] : List UInt8).length + x58.length ≤ 9223372036854775807)<|.ok ((([112, 116, 61] : List UInt8) ++ x58).length + ([47] : List UInt8).length ≤ 9223372036854775807)<|.call (Zky a0.M) fun x65=>.ok (((([112, 116, 61] : List UInt8) ++ x58) ++ ([47] : List UInt8)).length + x65.length ≤ 9223372036854775807)<|.rt (((([112, 116, 61] : List UInt8) ++ x58) ++ ([47] : List UInt8)) ++ x65))<|.br (a0.Kind == 13) (.call (Zky a0.N) fun x71=>.ok (([112, 116, 43, 61] : List UInt8).length + x71.length ≤ 9223372036854775807)<|.ok ((([112, 116, 43, 61] : List UInt8) ++ x71).length + ([47] : List UInt8).length ≤ 9223372036854775807)<|.call (Zky a0.M) fun x78=>.ok (((([112, 116, 43, 61] : List UInt8) ++ x71) ++ ([47] : List UInt8)).length + x78.length ≤ 9223372036854775807)<|.rt (((([112, 116, 43, 61] : List UInt8) ++ x71) ++ ([47] : List UInt8)) ++ x78))<|.rt ([112, 116, 45, 115, 119, 105, 116, 99, 104] : List UInt8)
def Zach : LF Empty (List UInt8) := .z 125 [.t 2] false (fun r => []) (fun r => (wS r))
def Z9o (a0 : Zj) : Option (List UInt8) := Zach.run (Zacg a0)
theorem Z7s (a0 : Zj) {r : (List UInt8)} (h : Z9o a0 = some r) : Fn PR 125 [(wA (Zn a0))] (wS r) := Zach.fn h
inductive Zi9 where
 | L0 (v0 : (List Zj)) (v3 : (List UInt8)) (v4 : Int)
def Zp7 (v0 : (List Zj)) (v3 : (List UInt8)) (v4 : Int) : LT Zi9 (List UInt8) :=
.len Zn v0<|.br (decide (v4 < (v0.length : Int))) (.idx Zn v0 v4 fun x3=>.call (Zags x3) fun x5=>.br (!x5) (.rt ([] : List UInt8))<|.br (decide (v4 > 0)) (.ok (v3.length + ([44, 32] : List UInt8).length ≤ 9223372036854775807)<|.ag Zn x3 0<|.call (Z7s x3) fun x11=>.ok ((v3 ++ ([44, 32] : List UInt8)).length + x11.length ≤ 9223372036854775807)<|.g0 (.L0 v0 ((v3 ++ ([44, 32] : List UInt8)) ++ x11) (IntKind.wrap .i64 (v4 + 1))))<|.ag Zn x3 0<|.call (Z7s x3) fun x17=>.ok (v3.length + x17.length ≤ 9223372036854775807)<|.g0 (.L0 v0 (v3 ++ x17) (IntKind.wrap .i64 (v4 + 1))))<|.rt v3
def Z0o (a0 : (List Zj)) : LT Zi9 (List UInt8) :=
.len Zn a0<|.cs ((a0.length : Int) == 0) (.kg 0<|.kg 0<|.kg 0<|.kg 0<|.kn [0]<|.rt ([] : List UInt8))<|.kg 0<|.kg 0<|.len Zn a0<|.kg 0<|.kg 0<|.br (decide ((a0.length : Int) > 6)) (.rt ([] : List UInt8))<|.g0 (.L0 a0 ([] : List UInt8) 0)
def Z0p : LF Zi9 (List UInt8) := ⟨105, [.t 2], false, fun | .L0 .. => [1,1,1,0,1,4],
 fun | .L0 v0 v3 v4 => ⟨37, [(0, (wL Zn v0)), (3, (wS v3)), (4, (wI v4))], []⟩,
 fun r => [], fun r => (wS r), fun | .L0 v0 v3 v4 => Zp7 v0 v3 v4⟩
def Zv9 (a0 : (List Zj)) : Option (List UInt8) := Z0p.run (Z0o a0)
theorem Zp8 (a0 : (List Zj)) {r : (List UInt8)} (h : Zv9 a0 = some r) : Fn PR 105 [(wL Zn a0)] (wS r) := Z0p.fn h
def Z7t (a0 : Ze5) : LT Empty Bool :=
.lb 1001<|.call (Z33 a0.Mana) fun x1=>.cs x1 (.kg 0<|.kg 0<|.kg 0<|.kg 0<|.kg 0<|.cs (a0.Mana.X == 0) (.kg 1<|.kg 1<|.kg 1<|.kg 1<|.cs (decide (a0.Life ≥ 0)) (.kg 2<|.kg 2<|.kg 2<|.kg 2<|.rt (decide (a0.Life ≤ 99)))<|.kg 2<|.kg 2<|.kg 2<|.kg 2<|.rt false)<|.kg 1<|.kg 1<|.kg 1<|.kg 1<|.kb false<|.kb false<|.kb false<|.kb false<|.rt false)<|.kg 0<|.kg 0<|.kg 0<|.kg 0<|.kg 0<|.kb false<|.kb false<|.kb false<|.kb false<|.kb false<|.kb false<|.kb false<|.kb false<|.rt false
def Z7u : LF Empty Bool := .z 112 [.t 2] false (fun r => []) (fun r => (wB r))
def Z4g (a0 : Ze5) : Option Bool := Z7u.run (Z7t a0)
theorem Zakh (a0 : Ze5) {r : Bool} (h : Z4g a0 = some r) : Fn PR 112 [(wA (Zdb a0))] (wB r) := Z7u.fn h
def Zaci (a0 : Int) : LT Empty (List UInt8) :=
.br (a0 == 1) (.rt ([101, 110, 116, 101, 114, 115] : List UInt8))<|.br (a0 == 2) (.rt ([108, 101, 97, 118, 101, 115] : List UInt8))<|.br (a0 == 3) (.rt ([100, 105, 101, 115] : List UInt8))<|.br (a0 == 4) (.rt ([97, 116, 116, 97, 99, 107, 115] : List UInt8))<|.br (a0 == 5) (.rt ([98, 108, 111, 99, 107, 115] : List UInt8))<|.br (a0 == 6) (.rt ([100, 101, 97, 108, 115] : List UInt8))<|.br (a0 == 7) (.rt ([100, 101, 97, 108, 116] : List UInt8))<|.br (a0 == 8) (.rt ([100, 114, 97, 119, 115] : List UInt8))<|.br (a0 == 9) (.rt ([99, 97, 115, 116, 115] : List UInt8))<|.br (a0 == 10) (.rt ([117, 112, 107, 101, 101, 112] : List UInt8))<|.br (a0 == 11) (.rt ([101, 110, 100] : List UInt8))<|.br (a0 == 12) (.rt ([103, 97, 105, 110, 115] : List UInt8))<|.br (a0 == 13) (.rt ([108, 111, 115, 101, 115] : List UInt8))<|.br (a0 == 14) (.rt ([112, 108, 97, 99, 101, 100] : List UInt8))<|.rt ([] : List UInt8)
def Zacj : LF Empty (List UInt8) := .z 132 [.t 2] false (fun r => []) (fun r => (wS r))
def Z9p (a0 : Int) : Option (List UInt8) := Zacj.run (Zaci a0)
theorem Z7v (a0 : Int) {r : (List UInt8)} (h : Z9p a0 = some r) : Fn PR 132 [(wI a0)] (wS r) := Zacj.fn h
def Z4h (a0 : Int) : LT Empty Bool :=
.cs (a0 == 8) (.kg 0<|.kg 0<|.kg 0<|.kb true<|.kb true<|.kb true<|.kb true<|.kb true<|.kb true<|.kb true<|.kb true<|.kb true<|.kb true<|.kb true<|.kb true<|.rt true)<|.kg 0<|.kg 0<|.kg 0<|.cs (a0 == 9) (.kg 1<|.kg 1<|.kg 1<|.kb true<|.kb true<|.kb true<|.kb true<|.kb true<|.kb true<|.kb true<|.kb true<|.kb true<|.rt true)<|.kg 1<|.kg 1<|.kg 1<|.cs (a0 == 10) (.kg 2<|.kg 2<|.kg 2<|.kb true<|.kb true<|.kb true<|.kb true<|.kb true<|.kb true<|.rt true)<|.kg 2<|.kg 2<|.kg 2<|.cs (a0 == 11) (.kg 3<|.kg 3<|.kg 3<|.kb true<|.kb true<|.kb true<|.rt true)<|.kg 3<|.kg 3<|.kg 3<|.cs (a0 == 12) (.kg 4<|.kg 4<|.kg 4<|.rt true)<|.kg 4<|.kg 4<|.kg 4<|.rt (a0 == 13)
def Z4i : LF Empty Bool := .z 133 [.t 2] false (fun r => []) (fun r => (wB r))
def Z1r (a0 : Int) : Option Bool := Z4i.run (Z4h a0)
theorem Z2m (a0 : Int) {r : Bool} (h : Z1r a0 = some r) : Fn PR 133 [(wI a0)] (wB r) := Z4i.fn h
def Zx5 (a0 : Int) : LT Empty Bool :=
.call (Z7v a0) fun x1=>.cs (!(x1 == ([] : List UInt8))) (.kg 0<|.kg 0<|.call (Z2m a0) fun x4=>.kg 0<|.kg 0<|.cs (!x4) (.kg 1<|.kg 1<|.kg 0<|.kg 1<|.kg 0<|.rt true)<|.kg 1<|.kg 1<|.kg 0<|.kg 1<|.kg 0<|.rt (a0 == 9))<|.kg 0<|.kg 0<|.kg 0<|.kg 0<|.kg 0<|.kg 0<|.rt false
def Zx6 : LF Empty Bool := .z 134 [.t 2] false (fun r => []) (fun r => (wB r))
def Ztl (a0 : Int) : Option Bool := Zx6.run (Zx5 a0)
theorem Z9q (a0 : Int) {r : Bool} (h : Ztl a0 = some r) : Fn PR 134 [(wI a0)] (wB r) := Zx6.fn h
inductive Zwa where
 | L0 (E0 : Zce)
def Zso (E0 : Zce) : LT Zwa Bool :=
.call (Z9q E0.When) fun x1=>.br (!x1) (.rt (Zx (Zp E0.Filter) (Zp (⟨0, 0, 0, 0, 0, 0, 0, ([] : List UInt8), 0, 0, (⟨0, 0⟩ : Zc), (⟨0, 0⟩ : Zc), (⟨0, 0⟩ : Zc)⟩ : Zi))))<|.br (E0.When == 9) (.call (Zhl E0.Filter) fun x5=>.cs x5 (.kg 2<|.kg 2<|.kg 2<|.kg 2<|.kg 2<|.kg 2<|.rt (E0.Filter.Zone == 5))<|.kg 2<|.kg 2<|.kg 2<|.kg 2<|.kg 2<|.kg 2<|.rt false)<|.call (Zhl E0.Filter) fun x8=>.cs x8 (.kg 2<|.kg 2<|.kg 2<|.kg 2<|.kg 2<|.kg 2<|.rt (E0.Filter.Zone == 0))<|.kg 2<|.kg 2<|.kg 2<|.kg 2<|.kg 2<|.kg 2<|.rt false
def Zaki (a0 : Zce) : LT Zwa Bool :=
.lb 1001<|.call (Z7v a0.When) fun x1=>.cs (x1 == ([] : List UInt8)) (.kg 0<|.kg 0<|.kg 0<|.kg 0<|.kb true<|.kb true<|.kb true<|.kb true<|.kb true<|.kb true<|.kb true<|.kb true<|.kb true<|.kb true<|.kb true<|.kn [0]<|.rt false)<|.kg 0<|.kg 0<|.kg 0<|.kg 0<|.cs (decide (a0.Who < 0)) (.kg 1<|.kg 1<|.kg 1<|.kg 1<|.kb true<|.kb true<|.kb true<|.kb true<|.kb true<|.kb true<|.kb true<|.kn [0]<|.rt false)<|.kg 1<|.kg 1<|.kg 1<|.kg 1<|.cs (decide (a0.Who > 2)) (.kg 2<|.kg 2<|.kg 2<|.kg 2<|.kg 2<|.kg 2<|.kg 2<|.kn [0]<|.rt false)<|.kg 2<|.kg 2<|.kg 2<|.call (Z2m a0.When) fun x6=>.kg 2<|.kg 2<|.cs (!x6) (.kg 3<|.kg 3<|.kg 3<|.kg 2<|.kg 3<|.kg 2<|.br (a0.Who != 0) (.rt false)<|.jn 0 (.L0 a0) [.relab 1001 30000000] (Zso a0))<|.kg 3<|.kg 3<|.kg 3<|.kg 2<|.kg 3<|.kg 2<|.kn [0]<|.jn 0 (.L0 a0) [.relab 1001 30000000] (Zso a0)
def Zakj : LF Zwa Bool := ⟨113, [.t 2], false, fun | .L0 .. => [1,1],
 fun | .L0 E0 => ⟨50, [(1, (.bptr 30000000 0))], [(30000000, .box (bx (Zb8 E0)))]⟩,
 fun r => [], fun r => (wB r), fun | .L0 E0 => Zso E0⟩
def Zakk (a0 : Zce) : Option Bool := Zakj.run (Zaki a0)
theorem Zaqw (a0 : Zce) {r : Bool} (h : Zakk a0 = some r) : Fn PR 113 [(wA (Zb8 a0))] (wB r) := Zakj.fn h
def Z7w (a0 : Zi) : LT Empty Bool :=
.lb 1001<|.call (Zhl a0) fun x1=>.cs x1 (.kg 0<|.kg 0<|.kg 0<|.kg 0<|.rt (a0.Zone == 0))<|.kg 0<|.kg 0<|.kg 0<|.kg 0<|.rt false
def Z7x : LF Empty Bool := .z 137 [.t 2] false (fun r => []) (fun r => (wB r))
def Z4j (a0 : Zi) : Option Bool := Z7x.run (Z7w a0)
theorem Zwb (a0 : Zi) {r : Bool} (h : Z4j a0 = some r) : Fn PR 137 [(wA (Zp a0))] (wB r) := Z7x.fn h
def Z7y (a0 : Za2) : LT Empty Bool :=
.lb 1001<|.cs (a0.Who != 0) (.kg 0<|.kg 0<|.kg 0<|.kg 0<|.kg 0<|.kn [0]<|.rt false)<|.kg 0<|.kg 0<|.kg 0<|.call (Zwb a0.Filter) fun x2=>.kg 0<|.kg 0<|.br (!x2) (.rt false)<|.br (a0.Do == 5) (.cs (a0.N == 0) (.kg 3<|.kg 3<|.kg 3<|.kg 3<|.cs (a0.Counter == 0) (.kg 4<|.kg 4<|.kg 4<|.kg 4<|.cs (a0.Zone == 1) (.kg 5<|.kg 5<|.kg 5<|.kg 4<|.kg 5<|.kg 4<|.kb true<|.kb true<|.kb true<|.kg 4<|.kb true<|.kg 4<|.rt true)<|.kg 5<|.kg 5<|.kg 5<|.kg 4<|.kg 5<|.kg 4<|.cs (a0.Zone == 2) (.kg 6<|.kg 6<|.kg 6<|.kg 4<|.kg 6<|.kg 4<|.rt true)<|.kg 6<|.kg 6<|.kg 6<|.kg 4<|.kg 6<|.kg 4<|.rt (a0.Zone == 4))<|.kg 4<|.kg 4<|.kg 4<|.kg 4<|.kg 4<|.kg 4<|.kg 4<|.kg 4<|.rt false)<|.kg 3<|.kg 3<|.kg 3<|.kg 3<|.kb false<|.kb false<|.kb false<|.kb false<|.kb false<|.kb false<|.kb false<|.kb false<|.rt false)<|.br (a0.Do == 6) (.cs (a0.N == 0) (.kg 4<|.kg 4<|.kg 4<|.kg 4<|.cs (a0.Counter == 0) (.kg 5<|.kg 5<|.kg 5<|.kg 5<|.rt (a0.Zone == 0))<|.kg 5<|.kg 5<|.kg 5<|.kg 5<|.rt false)<|.kg 4<|.kg 4<|.kg 4<|.kg 4<|.kb false<|.kb false<|.kb false<|.kb false<|.rt false)<|.br (a0.Do == 7) (.cs (a0.Zone == 0) (.kg 5<|.kg 5<|.kg 5<|.kg 5<|.cs (decide (a0.N ≥ 1)) (.kg 6<|.kg 6<|.kg 6<|.kg 6<|.cs (decide (a0.N ≤ 99)) (.kg 7<|.kg 7<|.kg 7<|.kg 7<|.cs (decide (a0.Counter ≥ 0)) (.kg 8<|.kg 8<|.kg 8<|.kg 8<|.rt (decide (a0.Counter < 3)))<|.kg 8<|.kg 8<|.kg 8<|.kg 8<|.rt false)<|.kg 7<|.kg 7<|.kg 7<|.kg 7<|.kb false<|.kb false<|.kb false<|.kb false<|.rt false)<|.kg 6<|.kg 6<|.kg 6<|.kg 6<|.kb false<|.kb false<|.kb false<|.kb false<|.kb false<|.kb false<|.kb false<|.kb false<|.rt false)<|.kg 5<|.kg 5<|.kg 5<|.kg 5<|.kb false<|.kb false<|.kb false<|.kb false<|.kb false<|.kb false<|.kb false<|.kb false<|.kb false<|.kb false<|.kb false<|.kb false<|.rt false)<|.rt false
def Z7z : LF Empty Bool := .z 135 [.t 2] false (fun r => []) (fun r => (wB r))
def Z4k (a0 : Za2) : Option Bool := Z7z.run (Z7y a0)
theorem Zakl (a0 : Za2) {r : Bool} (h : Z4k a0 = some r) : Fn PR 135 [(wA (Zbu a0))] (wB r) := Z7z.fn h
def Z70 (a0 : Za2) : LT Empty Bool :=
.lb 1001<|.cs (a0.Zone != 0) (.kg 0<|.kg 0<|.kg 0<|.kg 0<|.kn [0]<|.rt false)<|.kg 0<|.kg 0<|.kg 0<|.kg 0<|.br (a0.Counter != 0) (.rt false)<|.cs (a0.Do == 2) (.kg 2<|.kg 2<|.kg 2<|.kg 2<|.kn [0]<|.cs (decide (a0.N ≥ 1)) (.kg 3<|.kg 3<|.kg 3<|.kg 3<|.rt (decide (a0.N ≤ 99)))<|.kg 3<|.kg 3<|.kg 3<|.kg 3<|.rt false)<|.kg 2<|.kg 2<|.kg 2<|.kg 2<|.br (a0.Do == 4) (.cs (decide (a0.N ≥ 1)) (.kg 4<|.kg 4<|.kg 4<|.kg 4<|.rt (decide (a0.N ≤ 99)))<|.kg 4<|.kg 4<|.kg 4<|.kg 4<|.rt false)<|.rt (a0.N == 0)
def Z71 : LF Empty Bool := .z 136 [.t 2] false (fun r => []) (fun r => (wB r))
def Z4l (a0 : Za2) : Option Bool := Z71.run (Z70 a0)
theorem Zakm (a0 : Za2) {r : Bool} (h : Z4l a0 = some r) : Fn PR 136 [(wA (Zbu a0))] (wB r) := Z71.fn h
inductive Zo5 where
 | L0 (E0 : Za2) (v3 : Bool) (v4 : Bool)
 | L1 (E0 : Za2) (v3 : Bool)
 | L2 (E0 : Za2) (v3 : Bool) (v4 : Bool) (v109 : Bool)
def Zph (E0 : Za2) (v3 : Bool) (v4 : Bool) (v109 : Bool) : LT Zo5 Bool :=
.br v109 (.cs v4 (.kg 1<|.kg 1<|.kg 1<|.kg 1<|.cs (decide (E0.Who ≥ 0)) (.kg 2<|.kg 2<|.kg 2<|.kg 2<|.cs (decide (E0.Who ≤ 2)) (.kg 3<|.kg 3<|.rt v3)<|.kg 3<|.kg 3<|.rt false)<|.kg 2<|.kg 2<|.kg 2<|.kg 2<|.kb false<|.kb false<|.rt false)<|.kg 1<|.kg 1<|.kg 1<|.kg 1<|.kb false<|.kb false<|.kb false<|.kb false<|.kb false<|.kb false<|.rt false)<|.rt false
def Zlw (E0 : Za2) (v3 : Bool) : LT Zo5 Bool :=
.cs (E0.Who == 0) (.kg 0<|.kg 0<|.kg 0<|.call (Zwb E0.Filter) fun x2=>.kg 0<|.cs x2 (.kg 1<|.kg 1<|.kg 1<|.kg 1<|.kg 1<|.kg 1<|.kg 1<|.kg 1<|.rt true)<|.kg 1<|.kg 1<|.kg 1<|.kg 1<|.cs (E0.Who == 1) (.kg 2<|.kg 2<|.kg 2<|.kg 1<|.kg 2<|.kg 1<|.kb true<|.kg 1<|.kb true<|.kg 1<|.rt v3)<|.kg 2<|.kg 2<|.kg 2<|.kg 1<|.kg 2<|.kg 1<|.cs (E0.Who == 2) (.kg 3<|.kg 1<|.kg 3<|.kg 1<|.rt v3)<|.kg 3<|.kg 1<|.kg 3<|.kg 1<|.rt false)<|.kg 0<|.kg 0<|.kg 0<|.kg 0<|.kb false<|.kb false<|.kb false<|.kb false<|.cs (E0.Who == 1) (.kg 1<|.kg 1<|.kg 1<|.kb false<|.kg 1<|.kb false<|.kb true<|.kb false<|.kb true<|.kb false<|.rt v3)<|.kg 1<|.kg 1<|.kg 1<|.kb false<|.kg 1<|.kb false<|.cs (E0.Who == 2) (.kg 2<|.kb false<|.kg 2<|.kb false<|.rt v3)<|.kg 2<|.kb false<|.kg 2<|.kb false<|.rt false
def Zpi (E0 : Za2) (v3 : Bool) (v4 : Bool) : LT Zo5 Bool :=
.br (E0.On == 1) (.cs (E0.Do != 1) (.kg 1<|.kg 1<|.kg 1<|.kg 1<|.cs (E0.Do != 2) (.kg 2<|.kg 2<|.kg 2<|.kg 2<|.cs (E0.Do != 3) (.kg 3<|.kg 3<|.kg 3<|.kg 3<|.br (E0.Do != 4) (.rt false)<|.j0 (.L1 E0 v3) (Zlw E0 v3))<|.kg 3<|.kg 3<|.kg 3<|.kg 3<|.kn [0]<|.j0 (.L1 E0 v3) (Zlw E0 v3))<|.kg 2<|.kg 2<|.kg 2<|.kg 2<|.kb false<|.kb false<|.kb false<|.kb false<|.kn [0]<|.j0 (.L1 E0 v3) (Zlw E0 v3))<|.kg 1<|.kg 1<|.kg 1<|.kg 1<|.kb false<|.kb false<|.kb false<|.kb false<|.kb false<|.kb false<|.kb false<|.kb false<|.kn [0]<|.j0 (.L1 E0 v3) (Zlw E0 v3))<|.br (E0.On == 8) (.cs v4 (.kg 2<|.kg 2<|.kg 2<|.kg 2<|.cs (E0.Who == 0) (.kg 3<|.kg 3<|.kg 3<|.call (Zwb E0.Filter) fun x9=>.kg 3<|.rt x9)<|.kg 3<|.kg 3<|.kg 3<|.kg 3<|.rt false)<|.kg 2<|.kg 2<|.kg 2<|.kg 2<|.kb false<|.kb false<|.kb false<|.kb false<|.rt false)<|.br (E0.On == 3) (.cs (E0.Do == 4) (.kg 3<|.kg 3<|.kg 3<|.kg 3<|.kb true<|.kb true<|.kb true<|.kb true<|.cs (decide (E0.Who ≥ 0)) (.kg 4<|.kg 4<|.kg 4<|.kg 4<|.cs (decide (E0.Who ≤ 2)) (.kg 5<|.kg 5<|.rt v3)<|.kg 5<|.kg 5<|.rt false)<|.kg 4<|.kg 4<|.kg 4<|.kg 4<|.kb false<|.kb false<|.rt false)<|.kg 3<|.kg 3<|.kg 3<|.kg 3<|.cs (E0.Do == 8) (.kg 4<|.kg 4<|.kg 4<|.kg 4<|.cs (decide (E0.Who ≥ 0)) (.kg 5<|.kg 5<|.kg 5<|.kg 5<|.cs (decide (E0.Who ≤ 2)) (.kg 6<|.kg 6<|.rt v3)<|.kg 6<|.kg 6<|.rt false)<|.kg 5<|.kg 5<|.kg 5<|.kg 5<|.kb false<|.kb false<|.rt false)<|.kg 4<|.kg 4<|.kg 4<|.kg 4<|.kb false<|.kb false<|.kb false<|.kb false<|.kb false<|.kb false<|.rt false)<|.br (E0.On == 4) (.j0 (.L2 E0 v3 v4 (E0.On == 4)) (Zph E0 v3 v4 (E0.On == 4)))<|.br (E0.On == 5) (.j0 (.L2 E0 v3 v4 (E0.On == 5)) (Zph E0 v3 v4 (E0.On == 5)))<|.j0 (.L2 E0 v3 v4 (E0.On == 10)) (Zph E0 v3 v4 (E0.On == 10))
def Zakn (a0 : Za2) : LT Zo5 Bool :=
.lb 1001<|.br (a0.On == 2) (.call (Zakl a0) fun x2=>.rt x2)<|.call (Zakm a0) fun x4=>.br (!x4) (.rt false)<|.cs (a0.Do == 3) (.kg 2<|.kg 2<|.kg 2<|.kg 2<|.kb true<|.kb true<|.kb true<|.kb true<|.jn 0 (.L0 a0 (Zx (Zp a0.Filter) (Zp (⟨0, 0, 0, 0, 0, 0, 0, ([] : List UInt8), 0, 0, (⟨0, 0⟩ : Zc), (⟨0, 0⟩ : Zc), (⟨0, 0⟩ : Zc)⟩ : Zi))) true) [.relab 1001 30000000] (Zpi a0 (Zx (Zp a0.Filter) (Zp (⟨0, 0, 0, 0, 0, 0, 0, ([] : List UInt8), 0, 0, (⟨0, 0⟩ : Zc), (⟨0, 0⟩ : Zc), (⟨0, 0⟩ : Zc)⟩ : Zi))) true))<|.kg 2<|.kg 2<|.kg 2<|.kg 2<|.cs (a0.Do == 4) (.kg 3<|.kg 3<|.kg 3<|.kg 3<|.jn 0 (.L0 a0 (Zx (Zp a0.Filter) (Zp (⟨0, 0, 0, 0, 0, 0, 0, ([] : List UInt8), 0, 0, (⟨0, 0⟩ : Zc), (⟨0, 0⟩ : Zc), (⟨0, 0⟩ : Zc)⟩ : Zi))) true) [.relab 1001 30000000] (Zpi a0 (Zx (Zp a0.Filter) (Zp (⟨0, 0, 0, 0, 0, 0, 0, ([] : List UInt8), 0, 0, (⟨0, 0⟩ : Zc), (⟨0, 0⟩ : Zc), (⟨0, 0⟩ : Zc)⟩ : Zi))) true))<|.kg 3<|.kg 3<|.kg 3<|.kg 3<|.jn 0 (.L0 a0 (Zx (Zp a0.Filter) (Zp (⟨0, 0, 0, 0, 0, 0, 0, ([] : List UInt8), 0, 0, (⟨0, 0⟩ : Zc), (⟨0, 0⟩ : Zc), (⟨0, 0⟩ : Zc)⟩ : Zi))) (a0.Do == 8)) [.relab 1001 30000000] (Zpi a0 (Zx (Zp a0.Filter) (Zp (⟨0, 0, 0, 0, 0, 0, 0, ([] : List UInt8), 0, 0, (⟨0, 0⟩ : Zc), (⟨0, 0⟩ : Zc), (⟨0, 0⟩ : Zc)⟩ : Zi))) (a0.Do == 8))
def Zako : LF Zo5 Bool := ⟨114, [.t 2], false, fun | .L0 .. => [1,1,1,1,1] | .L1 .. => [1,1,1,1,1,0,1,4,1,2,1] | .L2 .. => [1,1,1,1,1,0,1,4,1,3,1,3,1,3,1],
 fun | .L0 E0 v3 v4 => ⟨127, [(1, (.bptr 30000000 0)), (3, (wB v3)), (4, (wB v4))], [(30000000, .box (bx (Zbu E0)))]⟩ | .L1 E0 v3 => ⟨127, [(1, (.bptr 30000000 0)), (3, (wB v3))], [(30000000, .box (bx (Zbu E0)))]⟩ | .L2 E0 v3 v4 v109 => ⟨127, [(1, (.bptr 30000000 0)), (3, (wB v3)), (4, (wB v4)), (109, (wB v109))], [(30000000, .box (bx (Zbu E0)))]⟩,
 fun r => [], fun r => (wB r), fun | .L0 E0 v3 v4 => Zpi E0 v3 v4 | .L1 E0 v3 => Zlw E0 v3 | .L2 E0 v3 v4 v109 => Zph E0 v3 v4 v109⟩
def Zakp (a0 : Za2) : Option Bool := Zako.run (Zakn a0)
theorem Zaqx (a0 : Za2) {r : Bool} (h : Zakp a0 = some r) : Fn PR 114 [(wA (Zbu a0))] (wB r) := Zako.fn h
def Zack (a0 : Zaz) : LT Empty Bool :=
.lb 1001<|.br (!a0.Object) (.cs a0.Player (.kg 1<|.kg 1<|.kg 1<|.kg 1<|.kg 1<|.rt (Zx (Zp a0.Filter) (Zp (⟨0, 0, 0, 0, 0, 0, 0, ([] : List UInt8), 0, 0, (⟨0, 0⟩ : Zc), (⟨0, 0⟩ : Zc), (⟨0, 0⟩ : Zc)⟩ : Zi))))<|.kg 1<|.kg 1<|.kg 1<|.kg 1<|.kg 1<|.rt false)<|.call (Zhl a0.Filter) fun x3=>.cs x3 (.kg 1<|.kg 1<|.kg 1<|.cs (a0.Filter.Zone == 0) (.kg 2<|.kg 2<|.kg 1<|.kg 2<|.kg 1<|.kb true<|.kb true<|.kg 1<|.kb true<|.kg 1<|.rt true)<|.kg 2<|.kg 2<|.kg 1<|.kg 2<|.kg 1<|.cs (a0.Filter.Zone == 3) (.kg 3<|.kg 3<|.kg 1<|.kg 3<|.kg 1<|.rt true)<|.kg 3<|.kg 3<|.kg 1<|.kg 3<|.kg 1<|.rt (a0.Filter.Zone == 5))<|.kg 1<|.kg 1<|.kg 1<|.kg 1<|.kg 1<|.kg 1<|.kg 1<|.rt false
def Zacl : LF Empty Bool := .z 138 [.t 2] false (fun r => []) (fun r => (wB r))
def Z9r (a0 : Zaz) : Option Bool := Zacl.run (Zack a0)
theorem Zanh (a0 : Zaz) {r : Bool} (h : Z9r a0 = some r) : Fn PR 138 [(wA (Zy a0))] (wB r) := Zacl.fn h
inductive Znv where
 | L0 (v0 : (List Zaz)) (v3 : Int)
def Zwc (v0 : (List Zaz)) (v3 : Int) : LT Znv Bool :=
.len Zy v0<|.br (decide (v3 < (v0.length : Int))) (.idx Zy v0 v3 fun x3=>.call (Zanh x3) fun x5=>.br (!x5) (.rt false)<|.g0 (.L0 v0 (IntKind.wrap .i64 (v3 + 1))))<|.len Zy v0<|.rt (decide ((v0.length : Int) ≤ 4))
def Z72 (a0 : (List Zaz)) : LT Znv Bool :=
.g0 (.L0 a0 0)
def Z73 : LF Znv Bool := ⟨115, [.t 2], false, fun | .L0 .. => [1,0,1,4],
 fun | .L0 v0 v3 => ⟨19, [(0, (wL Zy v0)), (3, (wI v3))], []⟩,
 fun r => [], fun r => (wB r), fun | .L0 v0 v3 => Zwc v0 v3⟩
def Z4m (a0 : (List Zaz)) : Option Bool := Z73.run (Z72 a0)
theorem Zakq (a0 : (List Zaz)) {r : Bool} (h : Z4m a0 = some r) : Fn PR 115 [(wL Zy a0)] (wB r) := Z73.fn h
def Zacm (a0 : Int) : LT Empty (List UInt8) :=
.cs (decide (a0 < 1)) (.kg 0<|.kg 0<|.kg 0<|.kn [0]<|.rt ([] : List UInt8))<|.kg 0<|.kg 0<|.kg 0<|.br (decide (a0 > 26)) (.rt ([] : List UInt8))<|.dr [.lit]<|.idx cS [([100, 97, 109, 97, 103, 101] : List UInt8), ([100, 101, 115, 116, 114, 111, 121] : List UInt8), ([109, 111, 118, 101] : List UInt8), ([100, 114, 97, 119] : List UInt8), ([100, 105, 115, 99, 97, 114, 100] : List UInt8), ([103, 97, 105, 110] : List UInt8), ([108, 111, 115, 101] : List UInt8), ([116, 97, 112] : List UInt8), ([117, 110, 116, 97, 112] : List UInt8), ([112, 117, 116] : List UInt8), ([116, 97, 107, 101] : List UInt8), ([99, 114, 101, 97, 116, 101] : List UInt8), ([109, 111, 100] : List UInt8), ([109, 97, 110, 97] : List UInt8), ([99, 111, 117, 110, 116, 101, 114] : List UInt8), ([99, 111, 112, 121] : List UInt8), ([98, 101, 99, 111, 109, 101] : List UInt8), ([115, 97, 99, 114, 105, 102, 105, 99, 101] : List UInt8), ([109, 105, 108, 108] : List UInt8), ([115, 99, 114, 121] : List UInt8), ([115, 101, 97, 114, 99, 104] : List UInt8), ([115, 104, 105, 101, 108, 100] : List UInt8), ([116, 117, 114, 110] : List UInt8), ([119, 105, 110] : List UInt8), ([100, 101, 102, 101, 97, 116] : List UInt8), ([118, 101, 110, 111, 109] : List UInt8)] (IntKind.wrap .i64 (a0 - 1)) fun x6=>.rt x6
def Zacn : LF Empty (List UInt8) := .z 148 [.t 2] false (fun r => []) (fun r => (wS r))
def Z9s (a0 : Int) : Option (List UInt8) := Zacn.run (Zacm a0)
theorem Zani (a0 : Int) {r : (List UInt8)} (h : Z9s a0 = some r) : Fn PR 148 [(wI a0)] (wS r) := Zacn.fn h
inductive Zm3 where
 | L0 (v3 : Int) (v4 : Bool)
 | L1 (v3 : Int) (v14 : Bool)
def Znw (v3 : Int) (v14 : Bool) : LT Zm3 (List UInt8) :=
.br v14 (.rt ([114, 107, 97] : List UInt8))<|.br (v3 == 12) (.rt ([114, 99, 97] : List UInt8))<|.br (v3 == 13) (.rt ([114, 109] : List UInt8))<|.br (v3 == 14) (.rt ([112] : List UInt8))<|.br (v3 == 18) (.rt ([114, 97, 102] : List UInt8))<|.br (v3 == 20) (.rt ([97] : List UInt8))<|.br (v3 == 21) (.rt ([102] : List UInt8))<|.br (v3 == 23) (.kn [8]<|.rt ([] : List UInt8))<|.br (v3 == 24) (.rt ([] : List UInt8))<|.rt ([114, 97] : List UInt8)
def Zgg (v3 : Int) (v4 : Bool) : LT Zm3 (List UInt8) :=
.br v4 (.rt ([114] : List UInt8))<|.br (v3 == 3) (.rt ([114, 122] : List UInt8))<|.br (v3 == 10) (.j0 (.L1 v3 (v3 == 10)) (Znw v3 (v3 == 10)))<|.j0 (.L1 v3 (v3 == 11)) (Znw v3 (v3 == 11))
def Zaco (a0 : Int) : LT Zm3 (List UInt8) :=
.br (a0 == 2) (.j0 (.L0 a0 (a0 == 2)) (Zgg a0 (a0 == 2)))<|.br (a0 == 8) (.j0 (.L0 a0 (a0 == 8)) (Zgg a0 (a0 == 8)))<|.br (a0 == 9) (.j0 (.L0 a0 (a0 == 9)) (Zgg a0 (a0 == 9)))<|.br (a0 == 15) (.j0 (.L0 a0 (a0 == 15)) (Zgg a0 (a0 == 15)))<|.br (a0 == 16) (.j0 (.L0 a0 (a0 == 16)) (Zgg a0 (a0 == 16)))<|.br (a0 == 17) (.j0 (.L0 a0 (a0 == 17)) (Zgg a0 (a0 == 17)))<|.j0 (.L0 a0 (a0 == 25)) (Zgg a0 (a0 == 25))
def Zacp : LF Zm3 (List UInt8) := ⟨171, [.t 2], false, fun | .L0 .. => [1,0,1,4,1] | .L1 .. => [1,0,1,4,1,3,1,3,1],
 fun | .L0 v3 v4 => ⟨32, [(3, (wI v3)), (4, (wB v4))], []⟩ | .L1 v3 v14 => ⟨32, [(3, (wI v3)), (14, (wB v14))], []⟩,
 fun r => [], fun r => (wS r), fun | .L0 v3 v4 => Zgg v3 v4 | .L1 v3 v14 => Znw v3 v14⟩
def Z9t (a0 : Int) : Option (List UInt8) := Zacp.run (Zaco a0)
theorem Zanj (a0 : Int) {r : (List UInt8)} (h : Z9t a0 = some r) : Fn PR 171 [(wI a0)] (wS r) := Zacp.fn h
inductive Zp9 where
 | L0 (v1 : Int) (v5 : (List UInt8)) (v6 : Int)
def Zze (v1 : Int) (v5 : (List UInt8)) (v6 : Int) : LT Zp9 Bool :=
.lenS v5<|.br (decide (v6 < (v5.length : Int))) (.idxS v5 v6 fun x3=>.br ((UInt8.toNat x3 : Int) == v1) (.rt true)<|.g0 (.L0 v1 v5 (IntKind.wrap .i64 (v6 + 1))))<|.rt false
def Zacq (a0 : Int) (a1 : Int) : LT Zp9 Bool :=
.call (Zanj a0) fun x1=>.g0 (.L0 a1 x1 0)
def Zacr : LF Zp9 Bool := ⟨149, [.t 4], false, fun | .L0 .. => [1,1,0,1,4],
 fun | .L0 v1 v5 v6 => ⟨20, [(1, (.t (.int .u8 v1))), (5, (wS v5)), (6, (wI v6))], []⟩,
 fun r => [], fun r => (wB r), fun | .L0 v1 v5 v6 => Zze v1 v5 v6⟩
def Z9u (a0 : Int) (a1 : Int) : Option Bool := Zacr.run (Zacq a0 a1)
theorem Zh4 (a0 : Int) (a1 : Int) {r : Bool} (h : Z9u a0 a1 = some r) : Fn PR 149 [(wI a0), (.t (.int .u8 a1))] (wB r) := Zacr.fn h
def Z0q (a0 : Int) : LT Empty Bool :=
.cs (a0 == 3) (.kg 0<|.kg 0<|.kg 0<|.rt true)<|.kg 0<|.kg 0<|.kg 0<|.rt (a0 == 8)
def Z0r : LF Empty Bool := .z 172 [.t 2] false (fun r => []) (fun r => (wB r))
def Zwd (a0 : Int) : Option Bool := Z0r.run (Z0q a0)
theorem Zacs (a0 : Int) {r : Bool} (h : Zwd a0 = some r) : Fn PR 172 [(wI a0)] (wB r) := Z0r.fn h
inductive Zre where
 | L0 (v1 : Int) (E0 : Zeq)
 | L1 (E0 : Zeq)
def Zsp (E0 : Zeq) : LT Zre Bool :=
.br (E0.Kind == 4) (.call (Zhl E0.Filter) fun x2=>.rt x2)<|.rt (Zx (Zp E0.Filter) (Zp (⟨0, 0, 0, 0, 0, 0, 0, ([] : List UInt8), 0, 0, (⟨0, 0⟩ : Zc), (⟨0, 0⟩ : Zc), (⟨0, 0⟩ : Zc)⟩ : Zi)))
def Zsq (v1 : Int) (E0 : Zeq) : LT Zre Bool :=
.cs (decide (E0.Kind < 1)) (.kg 0<|.kg 0<|.kg 0<|.kg 0<|.kn [0]<|.rt false)<|.kg 0<|.kg 0<|.kg 0<|.kg 0<|.br (decide (E0.Kind > 8)) (.rt false)<|.call (Zacs E0.Kind) fun x3=>.br x3 (.cs (decide (E0.N < 1)) (.kg 3<|.kg 3<|.kg 3<|.kg 3<|.kg 3<|.kn [0]<|.rt false)<|.kg 3<|.kg 3<|.kg 3<|.kg 3<|.kg 3<|.br (decide (E0.N > v1)) (.rt false)<|.j0 (.L1 E0) (Zsp E0))<|.br (E0.N != 0) (.rt false)<|.j0 (.L1 E0) (Zsp E0)
def Zakr (a0 : Zeq) (a1 : Int) : LT Zre Bool :=
.lb 1002<|.br (decide (a1 > 4)) (.jn 0 (.L0 4 a0) [.relab 1002 30000000] (Zsq 4 a0))<|.jn 0 (.L0 a1 a0) [.relab 1002 30000000] (Zsq a1 a0)
def Zaks : LF Zre Bool := ⟨150, [.t 4], false, fun | .L0 .. => [1,1] | .L1 .. => [1,1,1,1],
 fun | .L0 v1 E0 => ⟨40, [(1, (wI v1)), (2, (.bptr 30000000 0))], [(30000000, .box (bx (Zct E0)))]⟩ | .L1 E0 => ⟨40, [(2, (.bptr 30000000 0))], [(30000000, .box (bx (Zct E0)))]⟩,
 fun r => [], fun r => (wB r), fun | .L0 v1 E0 => Zsq v1 E0 | .L1 E0 => Zsp E0⟩
def Zakt (a0 : Zeq) (a1 : Int) : Option Bool := Zaks.run (Zakr a0 a1)
theorem Zaqy (a0 : Zeq) (a1 : Int) {r : Bool} (h : Zakt a0 a1 = some r) : Fn PR 150 [(wA (Zct a0)), (wI a1)] (wB r) := Zaks.fn h
def Zact (a0 : Int) : LT Empty (List UInt8) :=
.br (a0 == 0) (.rt ([112, 108, 117, 115] : List UInt8))<|.br (a0 == 1) (.rt ([109, 105, 110, 117, 115] : List UInt8))<|.br (a0 == 2) (.rt ([99, 104, 97, 114, 103, 101] : List UInt8))<|.rt ([] : List UInt8)
def Zacu : LF Empty (List UInt8) := .z 151 [.t 2] false (fun r => []) (fun r => (wS r))
def Z9v (a0 : Int) : Option (List UInt8) := Zacu.run (Zact a0)
theorem Z74 (a0 : Int) {r : (List UInt8)} (h : Z9v a0 = some r) : Fn PR 151 [(wI a0)] (wS r) := Zacu.fn h
def Zaku (a0 : Zcf) : LT Empty Bool :=
.lb 1001<|.lb 1003<|.br (a0.Kind == 0) (.cs (decide (a0.N < 0)) (.kg 1<|.kg 1<|.kg 1<|.kg 1<|.kn [0]<|.rt false)<|.kg 1<|.kg 1<|.kg 1<|.kg 1<|.br (decide (a0.N > 1000000)) (.rt false)<|.cs (decide (a0.Kind ≥ 0)) (.kg 3<|.kg 3<|.kg 3<|.kg 3<|.cs (decide (a0.Kind ≤ 7)) (.kg 4<|.kg 4<|.kg 4<|.kg 4<|.kg 4<|.kg 4<|.rt (Zx (Zbe (⟨a0.Kind, 0, a0.Counter, a0.Filter⟩ : Zcf)) (Zbe (⟨a0.Kind, 0, 0, (⟨0, 0, 0, 0, 0, 0, 0, ([] : List UInt8), 0, 0, (⟨0, 0⟩ : Zc), (⟨0, 0⟩ : Zc), (⟨0, 0⟩ : Zc)⟩ : Zi)⟩ : Zcf))))<|.kg 4<|.kg 4<|.kg 4<|.kg 4<|.kg 4<|.kg 4<|.rt false)<|.kg 3<|.kg 3<|.kg 3<|.kg 3<|.kb false<|.kb false<|.kb false<|.kb false<|.kb false<|.kb false<|.rt false)<|.br (a0.Kind == 2) (.cs (decide (a0.N < 1)) (.kg 2<|.kg 2<|.kg 2<|.kg 2<|.kb true<|.kb true<|.kb true<|.kb true<|.kb true<|.kn [0]<|.rt false)<|.kg 2<|.kg 2<|.kg 2<|.kg 2<|.cs (decide (a0.N > 99)) (.kg 3<|.kg 3<|.kg 3<|.kg 3<|.kg 3<|.kn [0]<|.rt false)<|.kg 3<|.kg 3<|.kg 3<|.call (Zhl a0.Filter) fun x9=>.kg 3<|.kg 3<|.br (!x9) (.rt false)<|.cs (decide (a0.Kind ≥ 0)) (.kg 5<|.kg 5<|.kg 5<|.kg 5<|.cs (decide (a0.Kind ≤ 7)) (.kg 6<|.kg 6<|.kg 6<|.kg 6<|.kg 6<|.kg 6<|.rt (Zx (Zbe (⟨a0.Kind, 0, a0.Counter, (⟨0, 0, 0, 0, 0, 0, 0, ([] : List UInt8), 0, 0, (⟨0, 0⟩ : Zc), (⟨0, 0⟩ : Zc), (⟨0, 0⟩ : Zc)⟩ : Zi)⟩ : Zcf)) (Zbe (⟨a0.Kind, 0, 0, (⟨0, 0, 0, 0, 0, 0, 0, ([] : List UInt8), 0, 0, (⟨0, 0⟩ : Zc), (⟨0, 0⟩ : Zc), (⟨0, 0⟩ : Zc)⟩ : Zi)⟩ : Zcf))))<|.kg 6<|.kg 6<|.kg 6<|.kg 6<|.kg 6<|.kg 6<|.rt false)<|.kg 5<|.kg 5<|.kg 5<|.kg 5<|.kb false<|.kb false<|.kb false<|.kb false<|.kb false<|.kb false<|.rt false)<|.br (a0.Kind == 4) (.call (Z74 a0.Counter) fun x15=>.br (x15 == ([] : List UInt8)) (.rt false)<|.cs (decide (a0.Kind ≥ 0)) (.kg 4<|.kg 4<|.kg 4<|.kg 4<|.cs (decide (a0.Kind ≤ 7)) (.kg 5<|.kg 5<|.kg 5<|.kg 5<|.kg 5<|.kg 5<|.rt (Zx (Zbe (⟨a0.Kind, a0.N, 0, a0.Filter⟩ : Zcf)) (Zbe (⟨a0.Kind, 0, 0, (⟨0, 0, 0, 0, 0, 0, 0, ([] : List UInt8), 0, 0, (⟨0, 0⟩ : Zc), (⟨0, 0⟩ : Zc), (⟨0, 0⟩ : Zc)⟩ : Zi)⟩ : Zcf))))<|.kg 5<|.kg 5<|.kg 5<|.kg 5<|.kg 5<|.kg 5<|.rt false)<|.kg 4<|.kg 4<|.kg 4<|.kg 4<|.kb false<|.kb false<|.kb false<|.kb false<|.kb false<|.kb false<|.rt false)<|.cs (decide (a0.Kind ≥ 0)) (.kg 3<|.kg 3<|.kg 3<|.kg 3<|.cs (decide (a0.Kind ≤ 7)) (.kg 4<|.kg 4<|.kg 4<|.kg 4<|.kg 4<|.kg 4<|.rt (Zx (Zbe a0) (Zbe (⟨a0.Kind, 0, 0, (⟨0, 0, 0, 0, 0, 0, 0, ([] : List UInt8), 0, 0, (⟨0, 0⟩ : Zc), (⟨0, 0⟩ : Zc), (⟨0, 0⟩ : Zc)⟩ : Zi)⟩ : Zcf))))<|.kg 4<|.kg 4<|.kg 4<|.kg 4<|.kg 4<|.kg 4<|.rt false)<|.kg 3<|.kg 3<|.kg 3<|.kg 3<|.kb false<|.kb false<|.kb false<|.kb false<|.kb false<|.kb false<|.rt false
def Zakv : LF Empty Bool := .z 152 [.t 2] false (fun r => []) (fun r => (wB r))
def Zakw (a0 : Zcf) : Option Bool := Zakv.run (Zaku a0)
theorem Zaqz (a0 : Zcf) {r : Bool} (h : Zakw a0 = some r) : Fn PR 152 [(wA (Zbe a0))] (wB r) := Zakv.fn h
def Zacv (a0 : (List Zj)) : LT Empty Bool :=
.call (Zp8 a0) fun x1=>.rt (!(x1 == ([] : List UInt8)))
def Zacw : LF Empty Bool := .z 153 [.t 2] false (fun r => []) (fun r => (wB r))
def Z9w (a0 : (List Zj)) : Option Bool := Zacw.run (Zacv a0)
theorem Zank (a0 : (List Zj)) {r : Bool} (h : Z9w a0 = some r) : Fn PR 153 [(wL Zn a0)] (wB r) := Zacw.fn h
inductive Zqa where
 | L0 (E0 : (A6 Int)) (E1 : Zay) (E2 : Zay) (v4 : Int)
def Zzf (E0 : (A6 Int)) (E1 : Zay) (E2 : Zay) (v4 : Int) : LT Zqa Zay :=
.br (decide (v4 < 5)) (.idA (Zg.int .i64) (A6.list E0) (IntKind.wrap .i64 (v4 + 1)) (bx ((cA6 (cI .i64)) E0)) 0 6 fun x4=>.ldC (Zg.int .i64) 16 x4 0<|.idA (Zg.int .i64) (A5.list E2.Color) v4 (bx (Zbp E2)) 2 7 fun x6=>.stA (A5.set? E2.Color v4 x4) (fun h => Zauc (Zg.int .i64) ((bx (Zbp E2)).take 2) ((bx (Zbp E2)).drop 7) h) fun x8=>.g0 (.L0 E0 E1 (⟨E2.Generic, E2.X, x8⟩ : Zay) (IntKind.wrap .i64 (v4 + 1))))<|.rt E2
def Zacx (a0 : (A6 Int)) : LT Zqa Zay :=
.lb 1001<|.lb 1002<|.idA (Zg.int .i64) (A6.list a0) 0 (bx ((cA6 (cI .i64)) a0)) 0 6 fun x1=>.ldC (Zg.int .i64) 6 x1 0<|.lb 1003<|.go (.L0 a0 (⟨0, 0, (⟨0, 0, 0, 0, 0⟩ : (A5 Int))⟩ : Zay) (⟨x1, 0, (⟨0, 0, 0, 0, 0⟩ : (A5 Int))⟩ : Zay) 0) [.relab 1001 30000000, .relab 1002 30000001, .relab 1003 30000002]
def Zacy : LF Zqa Zay := ⟨174, [.c 2 84 true 7], false, fun | .L0 .. => [1,1,0,1,4],
 fun | .L0 E0 E1 E2 v4 => ⟨20, [(1, (.bptr 30000000 0)), (2, (.bptr 30000001 0)), (3, (.bptr 30000002 0)), (4, (wI v4))], [(30000000, .box (bx ((cA6 (cI .i64)) E0))), (30000001, .box (bx (Zbp E1))), (30000002, .box (bx (Zbp E2)))]⟩,
 fun r => [], fun r => (wA (Zbp r)), fun | .L0 E0 E1 E2 v4 => Zzf E0 E1 E2 v4⟩
def Z9x (a0 : (A6 Int)) : Option Zay := Zacy.run (Zacx a0)
theorem Zanl (a0 : (A6 Int)) {r : Zay} (h : Z9x a0 = some r) : Fn PR 174 [(wA ((cA6 (cI .i64)) a0))] (wA (Zbp r)) := Zacy.fn h
inductive Zjz where
 | L0 (E0 : Zay) (v3 : (List UInt8)) (v4 : Int)
 | L1 (E0 : Zay) (v3 : (List UInt8)) (v5 : Int)
 | L2 (E0 : Zay) (v3 : (List UInt8)) (v5 : Int) (v6 : Int)
def Zzg (E0 : Zay) (v3 : (List UInt8)) (v4 : Int) : LT Zjz (List UInt8) :=
.br (decide (v4 < E0.X)) (.ok (v3.length + ([88] : List UInt8).length ≤ 9223372036854775807)<|.g0 (.L0 E0 (v3 ++ ([88] : List UInt8)) (IntKind.wrap .i64 (v4 + 1))))<|.br (E0.Generic != 0) (.call (Zky E0.Generic) fun x7=>.ok (v3.length + x7.length ≤ 9223372036854775807)<|.g0 (.L1 E0 (v3 ++ x7) 0))<|.g0 (.L1 E0 v3 0)
def Zzh (E0 : Zay) (v3 : (List UInt8)) (v5 : Int) : LT Zjz (List UInt8) :=
.br (decide (v5 < 5)) (.g0 (.L2 E0 v3 v5 0))<|.br (v3 == ([] : List UInt8)) (.rt ([48] : List UInt8))<|.rt v3
def Zzi (E0 : Zay) (v3 : (List UInt8)) (v5 : Int) (v6 : Int) : LT Zjz (List UInt8) :=
.idA (Zg.int .i64) (A5.list E0.Color) v5 (bx (Zbp E0)) 2 7 fun x1=>.ldC (Zg.int .i64) 34 x1 0<|.br (decide (v6 < x1)) (.slS ([65, 67, 74, 82, 69] : List UInt8) v5 (IntKind.wrap .i64 (v5 + 1)) fun x6=>.ok (v3.length + x6.length ≤ 9223372036854775807)<|.g0 (.L2 E0 (v3 ++ x6) v5 (IntKind.wrap .i64 (v6 + 1))))<|.g0 (.L1 E0 v3 (IntKind.wrap .i64 (v5 + 1)))
def Zacz (a0 : Zay) : LT Zjz (List UInt8) :=
.lb 1001<|.call (Z33 a0) fun x1=>.br (!x1) (.rt ([] : List UInt8))<|.go (.L0 a0 ([] : List UInt8) 0) [.relab 1001 30000000]
def Zac0 : LF Zjz (List UInt8) := ⟨173, [.t 2], false, fun | .L0 .. => [1,1,1,0,1,4] | .L1 .. => [1,1,1,1,1,0,1,4] | .L2 .. => [1,1,1,1,1,0,1,4,5,1,0,4,1,4],
 fun | .L0 E0 v3 v4 => ⟨47, [(1, (.bptr 30000000 0)), (3, (wS v3)), (4, (wI v4))], [(30000000, .box (bx (Zbp E0)))]⟩ | .L1 E0 v3 v5 => ⟨47, [(1, (.bptr 30000000 0)), (3, (wS v3)), (5, (wI v5))], [(30000000, .box (bx (Zbp E0)))]⟩ | .L2 E0 v3 v5 v6 => ⟨47, [(1, (.bptr 30000000 0)), (3, (wS v3)), (5, (wI v5)), (6, (wI v6))], [(30000000, .box (bx (Zbp E0)))]⟩,
 fun r => [], fun r => (wS r), fun | .L0 E0 v3 v4 => Zzg E0 v3 v4 | .L1 E0 v3 v5 => Zzh E0 v3 v5 | .L2 E0 v3 v5 v6 => Zzi E0 v3 v5 v6⟩
def Z9y (a0 : Zay) : Option (List UInt8) := Zac0.run (Zacz a0)
theorem Zanm (a0 : Zay) {r : (List UInt8)} (h : Z9y a0 = some r) : Fn PR 173 [(wA (Zbp a0))] (wS r) := Zac0.fn h
def Z0s (a0 : (A6 Int)) : LT Empty (List UInt8) :=
.lb 1001<|.call (Zanl a0) fun x1=>.call (Zanm x1) fun x3=>.rt x3
def Z0t : LF Empty (List UInt8) := .z 154 [.t 2] false (fun r => []) (fun r => (wS r))
def Zwe (a0 : (A6 Int)) : Option (List UInt8) := Z0t.run (Z0s a0)
theorem Zac1 (a0 : (A6 Int)) {r : (List UInt8)} (h : Zwe a0 = some r) : Fn PR 154 [(wA ((cA6 (cI .i64)) a0))] (wS r) := Z0t.fn h
def Z4n (a0 : Int) (a1 : Zi) : LT Empty Bool :=
.lb 1003<|.br (a0 == 21) (.call (Zhl a1) fun x2=>.cs x2 (.kg 1<|.kg 1<|.kg 1<|.kg 1<|.kg 1<|.rt (a1.Zone == 2))<|.kg 1<|.kg 1<|.kg 1<|.kg 1<|.kg 1<|.rt false)<|.call (Zhl a1) fun x5=>.cs x5 (.kg 1<|.kg 1<|.kg 1<|.kg 1<|.kg 1<|.rt (a1.Zone == 0))<|.kg 1<|.kg 1<|.kg 1<|.kg 1<|.kg 1<|.rt false
def Z4o : LF Empty Bool := .z 155 [.t 4] false (fun r => []) (fun r => (wB r))
def Z1s (a0 : Int) (a1 : Zi) : Option Bool := Z4o.run (Z4n a0 a1)
theorem Zaha (a0 : Int) (a1 : Zi) {r : Bool} (h : Z1s a0 a1 = some r) : Fn PR 155 [(wI a0), (wA (Zp a1))] (wB r) := Z4o.fn h
inductive Zhu where
 | L0 (E0 : Zm) (v5 : Bool)
 | L1 (E0 : Zm) (v5 : Bool) (v6 : Bool)
 | L2 (E0 : Zm) (v5 : Bool) (v6 : Bool) (v7 : Bool)
 | L3 (E0 : Zm) (v5 : Bool) (v6 : Bool) (v7 : Bool) (v8 : Bool)
 | L4 (E0 : Zm) (v5 : Bool) (v6 : Bool) (v7 : Bool) (v8 : Bool) (v9 : Bool)
 | L5 (E0 : Zm) (v5 : Bool) (v6 : Bool) (v7 : Bool) (v8 : Bool) (v9 : Bool) (v10 : Bool)
 | L6 (E0 : Zm) (v5 : Bool) (v6 : Bool) (v7 : Bool) (v8 : Bool) (v9 : Bool) (v10 : Bool) (v11 : Bool)
 | L7 (v5 : Bool) (v6 : Bool) (v7 : Bool) (v8 : Bool) (v9 : Bool) (v10 : Bool) (v11 : Bool) (v12 : Bool)
def Zsr (v5 : Bool) (v6 : Bool) (v7 : Bool) (v8 : Bool) (v9 : Bool) (v10 : Bool) (v11 : Bool) (v12 : Bool) : LT Zhu Bool :=
.cs v5 (.kg 0<|.kg 0<|.cs v6 (.kg 1<|.kg 1<|.cs v7 (.kg 2<|.kg 2<|.cs v8 (.kg 3<|.kg 3<|.cs v9 (.kg 4<|.kg 4<|.cs v10 (.kg 5<|.kg 5<|.cs v11 (.kg 6<|.kg 6<|.rt v12)<|.kg 6<|.kg 6<|.rt false)<|.kg 5<|.kg 5<|.kb false<|.kb false<|.rt false)<|.kg 4<|.kg 4<|.kb false<|.kb false<|.kb false<|.kb false<|.rt false)<|.kg 3<|.kg 3<|.kb false<|.kb false<|.kb false<|.kb false<|.kb false<|.kb false<|.rt false)<|.kg 2<|.kg 2<|.kb false<|.kb false<|.kb false<|.kb false<|.kb false<|.kb false<|.kb false<|.kb false<|.rt false)<|.kg 1<|.kg 1<|.kb false<|.kb false<|.kb false<|.kb false<|.kb false<|.kb false<|.kb false<|.kb false<|.kb false<|.kb false<|.rt false)<|.kg 0<|.kg 0<|.kb false<|.kb false<|.kb false<|.kb false<|.kb false<|.kb false<|.kb false<|.kb false<|.kb false<|.kb false<|.kb false<|.kb false<|.rt false
def Zpj (E0 : Zm) (v5 : Bool) (v6 : Bool) (v7 : Bool) (v8 : Bool) (v9 : Bool) (v10 : Bool) (v11 : Bool) : LT Zhu Bool :=
.call (Zh4 E0.Op 102) fun x1=>.br x1 (.call (Zaha E0.Op E0.Filter) fun x4=>.j0 (.L7 v5 v6 v7 v8 v9 v10 v11 x4) (Zsr v5 v6 v7 v8 v9 v10 v11 x4))<|.j0 (.L7 v5 v6 v7 v8 v9 v10 v11 (Zx (Zp E0.Filter) (Zp (⟨0, 0, 0, 0, 0, 0, 0, ([] : List UInt8), 0, 0, (⟨0, 0⟩ : Zc), (⟨0, 0⟩ : Zc), (⟨0, 0⟩ : Zc)⟩ : Zi)))) (Zsr v5 v6 v7 v8 v9 v10 v11 (Zx (Zp E0.Filter) (Zp (⟨0, 0, 0, 0, 0, 0, 0, ([] : List UInt8), 0, 0, (⟨0, 0⟩ : Zc), (⟨0, 0⟩ : Zc), (⟨0, 0⟩ : Zc)⟩ : Zi))))
def Zss (E0 : Zm) (v5 : Bool) (v6 : Bool) (v7 : Bool) (v8 : Bool) (v9 : Bool) (v10 : Bool) : LT Zhu Bool :=
.call (Zh4 E0.Op 112) fun x1=>.br x1 (.cs (!(Zx ((cA6 (cI .i64)) E0.Pool) ((cA6 (cI .i64)) (⟨0, 0, 0, 0, 0, 0⟩ : (A6 Int))))) (.kg 1<|.kg 1<|.kg 1<|.call (Zac1 E0.Pool) fun x5=>.kg 1<|.kg 1<|.j0 (.L6 E0 v5 v6 v7 v8 v9 v10 (!(x5 == ([] : List UInt8)))) (Zpj E0 v5 v6 v7 v8 v9 v10 (!(x5 == ([] : List UInt8)))))<|.kg 1<|.kg 1<|.kg 1<|.kg 1<|.kg 1<|.j0 (.L6 E0 v5 v6 v7 v8 v9 v10 false) (Zpj E0 v5 v6 v7 v8 v9 v10 false))<|.j0 (.L6 E0 v5 v6 v7 v8 v9 v10 (Zx ((cA6 (cI .i64)) E0.Pool) ((cA6 (cI .i64)) (⟨0, 0, 0, 0, 0, 0⟩ : (A6 Int))))) (Zpj E0 v5 v6 v7 v8 v9 v10 (Zx ((cA6 (cI .i64)) E0.Pool) ((cA6 (cI .i64)) (⟨0, 0, 0, 0, 0, 0⟩ : (A6 Int)))))
def Zst (E0 : Zm) (v5 : Bool) (v6 : Bool) (v7 : Bool) (v8 : Bool) (v9 : Bool) : LT Zhu Bool :=
.len Zn E0.Mods<|.call (Zh4 E0.Op 109) fun x2=>.br x2 (.call (Zank E0.Mods) fun x5=>.j0 (.L5 E0 v5 v6 v7 v8 v9 x5) (Zss E0 v5 v6 v7 v8 v9 x5))<|.j0 (.L5 E0 v5 v6 v7 v8 v9 ((E0.Mods.length : Int) == 0)) (Zss E0 v5 v6 v7 v8 v9 ((E0.Mods.length : Int) == 0))
def Zsu (E0 : Zm) (v5 : Bool) (v6 : Bool) (v7 : Bool) (v8 : Bool) : LT Zhu Bool :=
.call (Zh4 E0.Op 97) fun x1=>.br x1 (.call (Zaqz E0.Amount) fun x4=>.j0 (.L4 E0 v5 v6 v7 v8 x4) (Zst E0 v5 v6 v7 v8 x4))<|.j0 (.L4 E0 v5 v6 v7 v8 (Zx (Zbe E0.Amount) (Zbe (⟨0, 0, 0, (⟨0, 0, 0, 0, 0, 0, 0, ([] : List UInt8), 0, 0, (⟨0, 0⟩ : Zc), (⟨0, 0⟩ : Zc), (⟨0, 0⟩ : Zc)⟩ : Zi)⟩ : Zcf)))) (Zst E0 v5 v6 v7 v8 (Zx (Zbe E0.Amount) (Zbe (⟨0, 0, 0, (⟨0, 0, 0, 0, 0, 0, 0, ([] : List UInt8), 0, 0, (⟨0, 0⟩ : Zc), (⟨0, 0⟩ : Zc), (⟨0, 0⟩ : Zc)⟩ : Zi)⟩ : Zcf))))
def Zpk (E0 : Zm) (v5 : Bool) (v6 : Bool) (v7 : Bool) : LT Zhu Bool :=
.call (Zh4 E0.Op 99) fun x1=>.br x1 (.call (Z32 E0.Card) fun x4=>.j0 (.L3 E0 v5 v6 v7 x4) (Zsu E0 v5 v6 v7 x4))<|.j0 (.L3 E0 v5 v6 v7 (E0.Card == ([] : List UInt8))) (Zsu E0 v5 v6 v7 (E0.Card == ([] : List UInt8)))
def Zlx (E0 : Zm) (v5 : Bool) (v6 : Bool) : LT Zhu Bool :=
.cs (E0.Counter == 0) (.kg 0<|.kg 0<|.kg 0<|.kg 0<|.kg 0<|.kg 0<|.j0 (.L2 E0 v5 v6 true) (Zpk E0 v5 v6 true))<|.kg 0<|.kg 0<|.kg 0<|.call (Zh4 E0.Op 107) fun x2=>.kg 0<|.cs x2 (.kg 1<|.kg 1<|.kg 1<|.call (Z74 E0.Counter) fun x5=>.kg 1<|.kg 0<|.kg 1<|.kg 0<|.j0 (.L2 E0 v5 v6 (!(x5 == ([] : List UInt8)))) (Zpk E0 v5 v6 (!(x5 == ([] : List UInt8)))))<|.kg 1<|.kg 1<|.kg 1<|.kg 1<|.kg 0<|.kg 1<|.kg 0<|.j0 (.L2 E0 v5 v6 false) (Zpk E0 v5 v6 false)
def Zsv (E0 : Zm) (v5 : Bool) : LT Zhu Bool :=
.cs (E0.Zone == 0) (.kg 0<|.kg 0<|.kg 0<|.kg 0<|.kg 0<|.kg 0<|.kg 0<|.kg 0<|.j0 (.L1 E0 v5 true) (Zlx E0 v5 true))<|.kg 0<|.kg 0<|.kg 0<|.call (Zh4 E0.Op 122) fun x2=>.kg 0<|.cs x2 (.kg 1<|.kg 1<|.kg 1<|.kg 0<|.kg 1<|.kg 0<|.cs (decide (E0.Zone > 0)) (.kg 2<|.kg 2<|.kg 2<|.kg 0<|.kg 2<|.kg 0<|.j0 (.L1 E0 v5 (decide (E0.Zone ≤ 4))) (Zlx E0 v5 (decide (E0.Zone ≤ 4))))<|.kg 2<|.kg 2<|.kg 2<|.kg 0<|.kg 2<|.kg 0<|.j0 (.L1 E0 v5 false) (Zlx E0 v5 false))<|.kg 1<|.kg 1<|.kg 1<|.kg 0<|.kg 1<|.kg 0<|.kb false<|.kb false<|.kb false<|.kg 0<|.kb false<|.kg 0<|.j0 (.L1 E0 v5 false) (Zlx E0 v5 false)
def Zakx (a0 : Zm) (a1 : Int) : LT Zhu Bool :=
.lb 1002<|.call (Zani a0.Op) fun x1=>.br (x1 == ([] : List UInt8)) (.rt false)<|.call (Zh4 a0.Op 114) fun x4=>.br x4 (.call (Zaqy a0.Ref a1) fun x7=>.jn 0 (.L0 a0 x7) [.relab 1002 30000000] (Zsv a0 x7))<|.jn 0 (.L0 a0 (Zx (Zct a0.Ref) (Zct (⟨0, 0, (⟨0, 0, 0, 0, 0, 0, 0, ([] : List UInt8), 0, 0, (⟨0, 0⟩ : Zc), (⟨0, 0⟩ : Zc), (⟨0, 0⟩ : Zc)⟩ : Zi)⟩ : Zeq)))) [.relab 1002 30000000] (Zsv a0 (Zx (Zct a0.Ref) (Zct (⟨0, 0, (⟨0, 0, 0, 0, 0, 0, 0, ([] : List UInt8), 0, 0, (⟨0, 0⟩ : Zc), (⟨0, 0⟩ : Zc), (⟨0, 0⟩ : Zc)⟩ : Zi)⟩ : Zeq))))
def Zaky : LF Zhu Bool := ⟨139, [.t 4], false, fun | .L0 .. => [1,1,1,1] | .L1 .. => [1,1,1,1,1] | .L2 .. => [1,1,1,1,1,1] | .L3 .. => [1,1,1,1,1,1,1,1] | .L4 .. => [1,1,1,1,1,1,1,1,1,1] | .L5 .. => [1,1,1,1,1,1,1,1,1,1,1,1] | .L6 .. => [1,1,1,1,1,1,1,1,1,1,1,1,1,1] | .L7 .. => [1,1,1,1,1,1,1,1,1,1,1,1,1,1,1,1],
 fun | .L0 E0 v5 => ⟨138, [(2, (.bptr 30000000 0)), (5, (wB v5))], [(30000000, .box (bx (Zo E0)))]⟩ | .L1 E0 v5 v6 => ⟨138, [(2, (.bptr 30000000 0)), (5, (wB v5)), (6, (wB v6))], [(30000000, .box (bx (Zo E0)))]⟩ | .L2 E0 v5 v6 v7 => ⟨138, [(2, (.bptr 30000000 0)), (5, (wB v5)), (6, (wB v6)), (7, (wB v7))], [(30000000, .box (bx (Zo E0)))]⟩ | .L3 E0 v5 v6 v7 v8 => ⟨138, [(2, (.bptr 30000000 0)), (5, (wB v5)), (6, (wB v6)), (7, (wB v7)), (8, (wB v8))], [(30000000, .box (bx (Zo E0)))]⟩ | .L4 E0 v5 v6 v7 v8 v9 => ⟨138, [(2, (.bptr 30000000 0)), (5, (wB v5)), (6, (wB v6)), (7, (wB v7)), (8, (wB v8)), (9, (wB v9))], [(30000000, .box (bx (Zo E0)))]⟩ | .L5 E0 v5 v6 v7 v8 v9 v10 => ⟨138, [(2, (.bptr 30000000 0)), (5, (wB v5)), (6, (wB v6)), (7, (wB v7)), (8, (wB v8)), (9, (wB v9)), (10, (wB v10))], [(30000000, .box (bx (Zo E0)))]⟩ | .L6 E0 v5 v6 v7 v8 v9 v10 v11 => ⟨138, [(2, (.bptr 30000000 0)), (5, (wB v5)), (6, (wB v6)), (7, (wB v7)), (8, (wB v8)), (9, (wB v9)), (10, (wB v10)), (11, (wB v11))], [(30000000, .box (bx (Zo E0)))]⟩ | .L7 v5 v6 v7 v8 v9 v10 v11 v12 => ⟨138, [(5, (wB v5)), (6, (wB v6)), (7, (wB v7)), (8, (wB v8)), (9, (wB v9)), (10, (wB v10)), (11, (wB v11)), (12, (wB v12))], []⟩,
 fun r => [], fun r => (wB r), fun | .L0 E0 v5 => Zsv E0 v5 | .L1 E0 v5 v6 => Zlx E0 v5 v6 | .L2 E0 v5 v6 v7 => Zpk E0 v5 v6 v7 | .L3 E0 v5 v6 v7 v8 => Zsu E0 v5 v6 v7 v8 | .L4 E0 v5 v6 v7 v8 v9 => Zst E0 v5 v6 v7 v8 v9 | .L5 E0 v5 v6 v7 v8 v9 v10 => Zss E0 v5 v6 v7 v8 v9 v10 | .L6 E0 v5 v6 v7 v8 v9 v10 v11 => Zpj E0 v5 v6 v7 v8 v9 v10 v11 | .L7 v5 v6 v7 v8 v9 v10 v11 v12 => Zsr v5 v6 v7 v8 v9 v10 v11 v12⟩
def Zakz (a0 : Zm) (a1 : Int) : Option Bool := Zaky.run (Zakx a0 a1)
theorem Zaq0 (a0 : Zm) (a1 : Int) {r : Bool} (h : Zakz a0 a1 = some r) : Fn PR 139 [(wA (Zo a0)), (wI a1)] (wB r) := Zaky.fn h
inductive Zko where
 | L0 (v0 : (List Zm)) (v1 : Int) (v5 : Int)
def Zrf (v0 : (List Zm)) (v1 : Int) (v5 : Int) : LT Zko Bool :=
.len Zo v0<|.br (decide (v5 < (v0.length : Int))) (.idx Zo v0 v5 fun x3=>.call (Zaq0 x3 v1) fun x5=>.br (!x5) (.rt false)<|.g0 (.L0 v0 v1 (IntKind.wrap .i64 (v5 + 1))))<|.len Zo v0<|.cs (decide ((v0.length : Int) ≥ 1)) (.kg 1<|.kg 1<|.len Zo v0<|.kg 1<|.kg 1<|.rt (decide ((v0.length : Int) ≤ 8)))<|.kg 1<|.kg 1<|.kg 1<|.kg 1<|.rt false
def Z2n (a0 : (List Zm)) (a1 : Int) : LT Zko Bool :=
.g0 (.L0 a0 a1 0)
def Z2o : LF Zko Bool := ⟨116, [.t 4], false, fun | .L0 .. => [1,0,1,4],
 fun | .L0 v0 v1 v5 => ⟨27, [(0, (wL Zo v0)), (1, (wI v1)), (5, (wI v5))], []⟩,
 fun r => [], fun r => (wB r), fun | .L0 v0 v1 v5 => Zrf v0 v1 v5⟩
def Zzj (a0 : (List Zm)) (a1 : Int) : Option Bool := Z2o.run (Z2n a0 a1)
theorem Zafm (a0 : (List Zm)) (a1 : Int) {r : Bool} (h : Zzj a0 a1 = some r) : Fn PR 116 [(wL Zo a0), (wI a1)] (wB r) := Z2o.fn h
inductive Zj0 where
 | L0 (E0 : Zl) (v3 : Bool)
 | L1 (E0 : Zl) (v3 : Bool)
 | L2 (E0 : Zl) (v3 : Bool)
 | L3 (E0 : Zl) (v3 : Bool)
 | L4 (E0 : Zl) (v3 : Bool)
def Zsw (E0 : Zl) (v3 : Bool) : LT Zj0 Bool :=
.br v3 (.call (Zakq E0.Specs) fun x2=>.cs x2 (.kg 1<|.kg 1<|.kg 1<|.kg 1<|.kg 1<|.len Zy E0.Specs<|.kg 1<|.call (Zafm E0.Effects (E0.Specs.length : Int)) fun x6=>.kg 1<|.rt x6)<|.kg 1<|.kg 1<|.kg 1<|.kg 1<|.kg 1<|.kg 1<|.kg 1<|.rt false)<|.len Zy E0.Specs<|.cs ((E0.Specs.length : Int) == 0) (.kg 1<|.kg 1<|.kg 1<|.len Zo E0.Effects<|.kg 1<|.kg 1<|.rt ((E0.Effects.length : Int) == 0))<|.kg 1<|.kg 1<|.kg 1<|.kg 1<|.kg 1<|.rt false
def Zsx (E0 : Zl) (v3 : Bool) : LT Zj0 Bool :=
.br (E0.Kind == 5) (.call (Zaqx E0.Replace) fun x2=>.br (!x2) (.rt false)<|.j0 (.L4 E0 v3) (Zsw E0 v3))<|.br (!(Zx (Zbu E0.Replace) (Zbu (⟨0, 0, (⟨0, 0, 0, 0, 0, 0, 0, ([] : List UInt8), 0, 0, (⟨0, 0⟩ : Zc), (⟨0, 0⟩ : Zc), (⟨0, 0⟩ : Zc)⟩ : Zi), 0, 0, 0, 0⟩ : Za2)))) (.rt false)<|.j0 (.L4 E0 v3) (Zsw E0 v3)
def Zsy (E0 : Zl) (v3 : Bool) : LT Zj0 Bool :=
.br (E0.Kind == 4) (.call (Zaqw E0.Trigger) fun x2=>.br (!x2) (.rt false)<|.j0 (.L3 E0 v3) (Zsx E0 v3))<|.cs (!(Zx (Zb8 E0.Trigger) (Zb8 (⟨0, 0, (⟨0, 0, 0, 0, 0, 0, 0, ([] : List UInt8), 0, 0, (⟨0, 0⟩ : Zc), (⟨0, 0⟩ : Zc), (⟨0, 0⟩ : Zc)⟩ : Zi)⟩ : Zce)))) (.kg 1<|.kg 1<|.kg 1<|.kn [0]<|.rt false)<|.kg 1<|.kg 1<|.kg 1<|.br E0.May (.rt false)<|.j0 (.L3 E0 v3) (Zsx E0 v3)
def Zsz (E0 : Zl) (v3 : Bool) : LT Zj0 Bool :=
.br (E0.Kind == 3) (.call (Zakh E0.Price) fun x2=>.br (!x2) (.rt false)<|.j0 (.L2 E0 v3) (Zsy E0 v3))<|.cs (!(Zx (Zdb E0.Price) (Zdb (⟨(⟨0, 0, (⟨0, 0, 0, 0, 0⟩ : (A5 Int))⟩ : Zay), false, false, 0⟩ : Ze5)))) (.kg 1<|.kg 1<|.kg 1<|.kn [0]<|.rt false)<|.kg 1<|.kg 1<|.kg 1<|.br E0.Slow (.rt false)<|.j0 (.L2 E0 v3) (Zsy E0 v3)
def Zpl (E0 : Zl) (v3 : Bool) : LT Zj0 Bool :=
.br (E0.Kind == 1) (.call (Zhl E0.Filter) fun x2=>.cs (!x2) (.kg 1<|.kg 1<|.kg 1<|.kg 1<|.kg 1<|.kb true<|.kb true<|.kb true<|.kb true<|.kb true<|.kn [0]<|.rt false)<|.kg 1<|.kg 1<|.kg 1<|.kg 1<|.kg 1<|.cs (E0.Filter.Zone != 0) (.kg 2<|.kg 2<|.kg 2<|.kg 2<|.kg 2<|.kn [0]<|.rt false)<|.kg 2<|.kg 2<|.kg 2<|.call (Zp8 E0.Mods) fun x6=>.kg 2<|.kg 2<|.br (x6 == ([] : List UInt8)) (.rt false)<|.j0 (.L1 E0 v3) (Zsz E0 v3))<|.cs (!(Zx (Zp E0.Filter) (Zp (⟨0, 0, 0, 0, 0, 0, 0, ([] : List UInt8), 0, 0, (⟨0, 0⟩ : Zc), (⟨0, 0⟩ : Zc), (⟨0, 0⟩ : Zc)⟩ : Zi)))) (.kg 1<|.kg 1<|.kg 1<|.kg 1<|.kg 1<|.kn [0]<|.rt false)<|.kg 1<|.kg 1<|.kg 1<|.len Zn E0.Mods<|.kg 1<|.kg 1<|.br (decide ((E0.Mods.length : Int) > 0)) (.rt false)<|.j0 (.L1 E0 v3) (Zsz E0 v3)
def Zak0 (a0 : Zl) : LT Zj0 Bool :=
.lb 1001<|.cs (decide (a0.Kind < 1)) (.kg 0<|.kg 0<|.kg 0<|.kg 0<|.kn [0]<|.rt false)<|.kg 0<|.kg 0<|.kg 0<|.kg 0<|.br (decide (a0.Kind > 5)) (.rt false)<|.cs (a0.Kind == 2) (.kg 2<|.kg 2<|.kg 2<|.kg 2<|.kb true<|.kb true<|.kb true<|.kb true<|.jn 0 (.L0 a0 true) [.relab 1001 30000000] (Zpl a0 true))<|.kg 2<|.kg 2<|.kg 2<|.kg 2<|.cs (a0.Kind == 3) (.kg 3<|.kg 3<|.kg 3<|.kg 3<|.jn 0 (.L0 a0 true) [.relab 1001 30000000] (Zpl a0 true))<|.kg 3<|.kg 3<|.kg 3<|.kg 3<|.jn 0 (.L0 a0 (a0.Kind == 4)) [.relab 1001 30000000] (Zpl a0 (a0.Kind == 4))
def Zak1 : LF Zj0 Bool := ⟨96, [.t 2], false, fun | .L0 .. => [1,1,1] | .L1 .. => [1,1,1,1] | .L2 .. => [1,1,1,1,1] | .L3 .. => [1,1,1,1,1,1] | .L4 .. => [1,1,1,1,1,1,1],
 fun | .L0 E0 v3 => ⟨117, [(1, (.bptr 30000000 0)), (3, (wB v3))], [(30000000, .box (bx (Zah E0)))]⟩ | .L1 E0 v3 => ⟨117, [(1, (.bptr 30000000 0)), (3, (wB v3))], [(30000000, .box (bx (Zah E0)))]⟩ | .L2 E0 v3 => ⟨117, [(1, (.bptr 30000000 0)), (3, (wB v3))], [(30000000, .box (bx (Zah E0)))]⟩ | .L3 E0 v3 => ⟨117, [(1, (.bptr 30000000 0)), (3, (wB v3))], [(30000000, .box (bx (Zah E0)))]⟩ | .L4 E0 v3 => ⟨117, [(1, (.bptr 30000000 0)), (3, (wB v3))], [(30000000, .box (bx (Zah E0)))]⟩,
 fun r => [], fun r => (wB r), fun | .L0 E0 v3 => Zpl E0 v3 | .L1 E0 v3 => Zsz E0 v3 | .L2 E0 v3 => Zsy E0 v3 | .L3 E0 v3 => Zsx E0 v3 | .L4 E0 v3 => Zsw E0 v3⟩
def Zak2 (a0 : Zl) : Option Bool := Zak1.run (Zak0 a0)
theorem Zx7 (a0 : Zl) {r : Bool} (h : Zak2 a0 = some r) : Fn PR 96 [(wA (Zah a0))] (wB r) := Zak1.fn h
def Zac2 (a0 : Zs) : LT Empty Bool :=
.lb 1001<|.cs (a0.Line.Types == 2) (.kg 0<|.kg 0<|.kg 0<|.kg 0<|.kg 0<|.rt true)<|.kg 0<|.kg 0<|.kg 0<|.kg 0<|.kg 0<|.rt (a0.Line.Types == 4)
def Zac3 : LF Empty Bool := .z 97 [.t 2] false (fun r => []) (fun r => (wB r))
def Z9z (a0 : Zs) : Option Bool := Zac3.run (Zac2 a0)
theorem Zann (a0 : Zs) {r : Bool} (h : Z9z a0 = some r) : Fn PR 97 [(wA (Zaa a0))] (wB r) := Zac3.fn h
inductive Zrg where
 | L0 (E0 : Zs)
 | L1 (E0 : Zs) (v3 : Int) (v4 : Int)
def Zs0 (E0 : Zs) : LT Zrg Bool :=
.g0 (.L1 E0 0 0)
def Z4p (E0 : Zs) (v3 : Int) (v4 : Int) : LT Zrg Bool :=
.len Zah E0.Abilities<|.br (decide (v4 < (E0.Abilities.length : Int))) (.idx Zah E0.Abilities v4 fun x3=>.call (Zx7 x3) fun x5=>.br (!x5) (.rt false)<|.ag Zah x3 0<|.br (x3.Kind == 2) (.g0 (.L1 E0 (IntKind.wrap .i64 (v3 + 1)) (IntKind.wrap .i64 (v4 + 1))))<|.g0 (.L1 E0 v3 (IntKind.wrap .i64 (v4 + 1))))<|.call (Zann E0) fun x15=>.br x15 (.cs (!E0.Token) (.kg 2<|.kg 2<|.kg 2<|.kg 2<|.cs (E0.Keys == 0) (.kg 3<|.kg 3<|.kg 3<|.len Zah E0.Abilities<|.kg 3<|.kg 3<|.cs ((E0.Abilities.length : Int) == 1) (.kg 4<|.kg 4<|.kg 4<|.rt (v3 == 1))<|.kg 4<|.kg 4<|.kg 4<|.rt false)<|.kg 3<|.kg 3<|.kg 3<|.kg 3<|.kg 3<|.kb false<|.kb false<|.kb false<|.rt false)<|.kg 2<|.kg 2<|.kg 2<|.kg 2<|.kb false<|.kb false<|.kb false<|.kb false<|.kb false<|.kb false<|.kb false<|.kb false<|.rt false)<|.cs (v3 == 0) (.kg 2<|.kg 2<|.kg 2<|.kg 2<|.cs (!E0.Token) (.kg 3<|.kg 3<|.kg 3<|.kg 3<|.kg 3<|.kg 2<|.kg 3<|.kg 2<|.cs ((Zh0 .and .i64 E0.Line.Types 32) == 0) (.kg 4<|.kg 4<|.kg 4<|.kg 4<|.kg 2<|.kg 4<|.kg 2<|.rt true)<|.kg 4<|.kg 4<|.kg 4<|.kg 4<|.kg 2<|.kg 4<|.kg 2<|.rt (Zx (Zbp E0.Cost) (Zbp (⟨0, 0, (⟨0, 0, 0, 0, 0⟩ : (A5 Int))⟩ : Zay))))<|.kg 3<|.kg 3<|.kg 3<|.kg 3<|.kg 3<|.kg 2<|.kg 3<|.kg 2<|.kb false<|.kb false<|.kb false<|.kb false<|.kg 2<|.kb false<|.kg 2<|.rt (Zx (Zbp E0.Cost) (Zbp (⟨0, 0, (⟨0, 0, 0, 0, 0⟩ : (A5 Int))⟩ : Zay))))<|.kg 2<|.kg 2<|.kg 2<|.kg 2<|.kg 2<|.kg 2<|.kg 2<|.kg 2<|.rt false
def Zak3 (a0 : Zs) : LT Zrg Bool :=
.lb 1001<|.call (Z32 a0.Name) fun x1=>.cs (!x1) (.kg 0<|.kg 0<|.kg 0<|.kg 0<|.kg 0<|.kb true<|.kb true<|.kb true<|.kb true<|.kb true<|.kb true<|.kb true<|.kb true<|.kb true<|.kb true<|.kb true<|.kb true<|.kb true<|.kb true<|.kb true<|.kb true<|.kb true<|.kb true<|.kn [0]<|.rt false)<|.kg 0<|.kg 0<|.kg 0<|.call (Z33 a0.Cost) fun x4=>.kg 0<|.kg 0<|.cs (!x4) (.kg 1<|.kg 1<|.kg 1<|.kg 1<|.kg 1<|.kb true<|.kb true<|.kb true<|.kb true<|.kb true<|.kb true<|.kb true<|.kb true<|.kb true<|.kb true<|.kb true<|.kb true<|.kb true<|.kn [0]<|.rt false)<|.kg 1<|.kg 1<|.kg 1<|.call (Zaqu a0.Line) fun x7=>.kg 1<|.kg 1<|.cs (!x7) (.kg 2<|.kg 2<|.kg 2<|.kg 2<|.kg 2<|.kb true<|.kb true<|.kb true<|.kb true<|.kb true<|.kb true<|.kb true<|.kb true<|.kn [0]<|.rt false)<|.kg 2<|.kg 2<|.kg 2<|.call (Zagr a0.Keys) fun x10=>.kg 2<|.kg 2<|.cs (!x10) (.kg 3<|.kg 3<|.kg 3<|.kg 3<|.kb true<|.kb true<|.kb true<|.kb true<|.kn [0]<|.rt false)<|.kg 3<|.kg 3<|.kg 3<|.kg 3<|.cs (decide (a0.Color < 0)) (.kg 4<|.kg 4<|.kg 4<|.kg 4<|.kn [0]<|.rt false)<|.kg 4<|.kg 4<|.kg 4<|.kg 4<|.br (decide (a0.Color > 31)) (.rt false)<|.cs (decide (a0.Power < 0)) (.kg 6<|.kg 6<|.kg 6<|.kg 6<|.kb true<|.kb true<|.kb true<|.kb true<|.kb true<|.kb true<|.kb true<|.kb true<|.kb true<|.kb true<|.kb true<|.kb true<|.kb true<|.kb true<|.kb true<|.kb true<|.kb true<|.kb true<|.kb true<|.kn [0]<|.rt false)<|.kg 6<|.kg 6<|.kg 6<|.kg 6<|.cs (decide (a0.Power > 99)) (.kg 7<|.kg 7<|.kg 7<|.kg 7<|.kb true<|.kb true<|.kb true<|.kb true<|.kb true<|.kb true<|.kb true<|.kb true<|.kb true<|.kb true<|.kb true<|.kb true<|.kb true<|.kb true<|.kb true<|.kn [0]<|.rt false)<|.kg 7<|.kg 7<|.kg 7<|.kg 7<|.cs (decide (a0.Tough < 0)) (.kg 8<|.kg 8<|.kg 8<|.kg 8<|.kb true<|.kb true<|.kb true<|.kb true<|.kb true<|.kb true<|.kb true<|.kb true<|.kb true<|.kb true<|.kb true<|.kn [0]<|.rt false)<|.kg 8<|.kg 8<|.kg 8<|.kg 8<|.cs (decide (a0.Tough > 99)) (.kg 9<|.kg 9<|.kg 9<|.kg 9<|.kg 9<|.kg 9<|.kb true<|.kb true<|.kb true<|.kb true<|.kb true<|.kn [0]<|.rt false)<|.kg 9<|.kg 9<|.call (Zabx a0) fun x19=>.kg 9<|.kg 9<|.cs (!x19) (.kg 10<|.kg 10<|.kg 10<|.kg 10<|.cs (a0.Power != 0) (.kg 11<|.kg 11<|.kg 11<|.kg 10<|.kg 11<|.kg 9<|.kg 10<|.kg 9<|.kb true<|.kb true<|.kb true<|.kb true<|.kb true<|.kn [0]<|.rt false)<|.kg 11<|.kg 11<|.kg 11<|.kg 10<|.kg 11<|.kg 9<|.kg 10<|.kg 9<|.cs (a0.Tough != 0) (.kg 12<|.kg 12<|.kg 12<|.kg 12<|.kg 12<|.kn [0]<|.rt false)<|.kg 12<|.kg 12<|.kg 12<|.len Zah a0.Abilities<|.kg 12<|.kg 12<|.br (decide ((a0.Abilities.length : Int) > 8)) (.rt false)<|.jn 0 (.L0 a0) [.relab 1001 30000000] (Zs0 a0))<|.kg 10<|.kg 10<|.kg 10<|.kg 10<|.kg 10<|.kg 9<|.kg 10<|.kg 9<|.kb false<|.kb false<|.kb false<|.len Zah a0.Abilities<|.kb false<|.kb false<|.br (decide ((a0.Abilities.length : Int) > 8)) (.rt false)<|.jn 0 (.L0 a0) [.relab 1001 30000000] (Zs0 a0)
def Zak4 : LF Zrg Bool := ⟨74, [.t 2], false, fun | .L0 .. => [1,1,1] | .L1 .. => [1,1,1,1,0,1,4],
 fun | .L0 E0 => ⟨139, [(1, (.bptr 30000000 0))], [(30000000, .box (bx (Zaa E0)))]⟩ | .L1 E0 v3 v4 => ⟨139, [(1, (.bptr 30000000 0)), (3, (wI v3)), (4, (wI v4))], [(30000000, .box (bx (Zaa E0)))]⟩,
 fun r => [], fun r => (wB r), fun | .L0 E0 => Zs0 E0 | .L1 E0 v3 v4 => Z4p E0 v3 v4⟩
def Zak5 (a0 : Zs) : Option Bool := Zak4.run (Zak3 a0)
theorem Zaq1 (a0 : Zs) {r : Bool} (h : Zak5 a0 = some r) : Fn PR 74 [(wA (Zaa a0))] (wB r) := Zak4.fn h
inductive Zqb where
 | L0 (v0 : (List Zs)) (v1 : (List UInt8)) (v5 : Int)
def Zzk (v0 : (List Zs)) (v1 : (List UInt8)) (v5 : Int) : LT Zqb Int :=
.len Zaa v0<|.br (decide (v5 < (v0.length : Int))) (.idx Zaa v0 v5 fun x3=>.br (x3.Name == v1) (.rt v5)<|.g0 (.L0 v0 v1 (IntKind.wrap .i64 (v5 + 1))))<|.rt (-1)
def Zac4 (a0 : (List Zs)) (a1 : (List UInt8)) : LT Zqb Int :=
.g0 (.L0 a0 a1 0)
def Zac5 : LF Zqb Int := ⟨75, [.t 4], false, fun | .L0 .. => [1,0,1,4],
 fun | .L0 v0 v1 v5 => ⟨20, [(0, (wL Zaa v0)), (1, (wS v1)), (5, (wI v5))], []⟩,
 fun r => [], fun r => (wI r), fun | .L0 v0 v1 v5 => Zzk v0 v1 v5⟩
def Z90 (a0 : (List Zs)) (a1 : (List UInt8)) : Option Int := Zac5.run (Zac4 a0 a1)
theorem Zano (a0 : (List Zs)) (a1 : (List UInt8)) {r : Int} (h : Z90 a0 a1 = some r) : Fn PR 75 [(wL Zaa a0), (wS a1)] (wI r) := Zac5.fn h
inductive Znx where
 | L0 (v0 : (List Zs)) (v1 : (List UInt8)) (v5 : Int)
def Zwf (v0 : (List Zs)) (v1 : (List UInt8)) (v5 : Int) : LT Znx Bool :=
.len Zaa v0<|.br (decide (v5 < (v0.length : Int))) (.idx Zaa v0 v5 fun x3=>.cs (x3.Name == v1) (.kg 1<|.kg 1<|.kg 1<|.ag Zaa x3 0<|.kg 1<|.kg 1<|.kg 1<|.br x3.Token (.rt true)<|.g0 (.L0 v0 v1 (IntKind.wrap .i64 (v5 + 1))))<|.kg 1<|.kg 1<|.kg 1<|.kg 1<|.kg 1<|.kg 1<|.kn [0]<|.g0 (.L0 v0 v1 (IntKind.wrap .i64 (v5 + 1))))<|.rt false
def Z75 (a0 : (List Zs)) (a1 : (List UInt8)) : LT Znx Bool :=
.g0 (.L0 a0 a1 0)
def Z76 : LF Znx Bool := ⟨98, [.t 4], false, fun | .L0 .. => [1,0,1,4],
 fun | .L0 v0 v1 v5 => ⟨26, [(0, (wL Zaa v0)), (1, (wS v1)), (5, (wI v5))], []⟩,
 fun r => [], fun r => (wB r), fun | .L0 v0 v1 v5 => Zwf v0 v1 v5⟩
def Z4q (a0 : (List Zs)) (a1 : (List UInt8)) : Option Bool := Z76.run (Z75 a0 a1)
theorem Zak6 (a0 : (List Zs)) (a1 : (List UInt8)) {r : Bool} (h : Z4q a0 a1 = some r) : Fn PR 98 [(wL Zaa a0), (wS a1)] (wB r) := Z76.fn h
inductive Zim where
 | L0 (v0 : (List Zs)) (E0 : Zs) (v5 : Int)
 | L1 (v0 : (List Zs)) (E0 : Zs) (v5 : Int) (v6 : Int)
def Zrh (v0 : (List Zs)) (E0 : Zs) (v5 : Int) : LT Zim Bool :=
.len Zah E0.Abilities<|.br (decide (v5 < (E0.Abilities.length : Int))) (.g0 (.L1 v0 E0 v5 0))<|.rt true
def Zri (v0 : (List Zs)) (E0 : Zs) (v5 : Int) (v6 : Int) : LT Zim Bool :=
.idx Zah E0.Abilities v5 fun x1=>.len Zo x1.Effects<|.br (decide (v6 < (x1.Effects.length : Int))) (.ag Zah x1 0<|.idx Zo x1.Effects v6 fun x5=>.lb 1007<|.cs (x5.Op == 12) (.kg 1<|.kg 1<|.kg 1<|.kg 1<|.call (Zak6 v0 x5.Card) fun x8=>.kg 1<|.kg 1<|.br (!x8) (.rt false)<|.g0 (.L1 v0 E0 v5 (IntKind.wrap .i64 (v6 + 1))))<|.kg 1<|.kg 1<|.kg 1<|.kg 1<|.kg 1<|.kg 1<|.kn [0]<|.g0 (.L1 v0 E0 v5 (IntKind.wrap .i64 (v6 + 1))))<|.g0 (.L0 v0 E0 (IntKind.wrap .i64 (v5 + 1)))
def Z2p (a0 : (List Zs)) (a1 : Zs) : LT Zim Bool :=
.lb 1003<|.go (.L0 a0 a1 0) [.relab 1003 30000000]
def Z2q : LF Zim Bool := ⟨76, [.t 4], false, fun | .L0 .. => [1,0,1,4] | .L1 .. => [1,0,1,4,5,1,0,4,1,4],
 fun | .L0 v0 E0 v5 => ⟨45, [(0, (wL Zaa v0)), (3, (.bptr 30000000 0)), (5, (wI v5))], [(30000000, .box (bx (Zaa E0)))]⟩ | .L1 v0 E0 v5 v6 => ⟨45, [(0, (wL Zaa v0)), (3, (.bptr 30000000 0)), (5, (wI v5)), (6, (wI v6))], [(30000000, .box (bx (Zaa E0)))]⟩,
 fun r => [], fun r => (wB r), fun | .L0 v0 E0 v5 => Zrh v0 E0 v5 | .L1 v0 E0 v5 v6 => Zri v0 E0 v5 v6⟩
def Zzl (a0 : (List Zs)) (a1 : Zs) : Option Bool := Z2q.run (Z2p a0 a1)
theorem Zafn (a0 : (List Zs)) (a1 : Zs) {r : Bool} (h : Zzl a0 a1 = some r) : Fn PR 76 [(wL Zaa a0), (wA (Zaa a1))] (wB r) := Z2q.fn h
inductive Zny where
 | L0 (v0 : (List Zs)) (v4 : Int)
def Zwg (v0 : (List Zs)) (v4 : Int) : LT Zny (Int × Int) :=
.len Zaa v0<|.br (decide (v4 < (v0.length : Int))) (.idx Zaa v0 v4 fun x3=>.call (Zaq1 x3) fun x5=>.br (!x5) (.rt (v4, 9))<|.ag Zaa x3 0<|.call (Zano v0 x3.Name) fun x8=>.br (decide (x8 < v4)) (.rt (v4, 6))<|.ag Zaa x3 0<|.call (Zafn v0 x3) fun x11=>.br (!x11) (.rt (v4, 7))<|.g0 (.L0 v0 (IntKind.wrap .i64 (v4 + 1))))<|.rt ((-1), 0)
def Z77 (a0 : (List Zs)) : LT Zny (Int × Int) :=
.len Zaa a0<|.br (decide ((a0.length : Int) > 256)) (.rt ((-1), 5))<|.g0 (.L0 a0 0)
def Z78 : LF Zny (Int × Int) := ⟨49, [.t 2, .t 3], false, fun | .L0 .. => [1,1,0,1,4],
 fun | .L0 v0 v4 => ⟨39, [(0, (wL Zaa v0)), (4, (wI v4))], []⟩,
 fun r => [], fun r => (.tup [(wI r.1), (wI r.2)]), fun | .L0 v0 v4 => Zwg v0 v4⟩
def Z4r (a0 : (List Zs)) : Option (Int × Int) := Z78.run (Z77 a0)
theorem Zak7 (a0 : (List Zs)) {r : (Int × Int)} (h : Z4r a0 = some r) : Fn PR 49 [(wL Zaa a0)] (.tup [(wI r.1), (wI r.2)]) := Z78.fn h
def Zak8 (a0 : Int) (a1 : Int) (a2 : Int) : LT Empty Bool :=
.cs (decide (a0 ≥ a1)) (.kg 0<|.kg 0<|.kg 0<|.kg 0<|.rt (decide (a0 ≤ a2)))<|.kg 0<|.kg 0<|.kg 0<|.kg 0<|.rt false
def Zak9 : LF Empty Bool := .z 77 [.t 6] false (fun r => []) (fun r => (wB r))
def Zala (a0 : Int) (a1 : Int) (a2 : Int) : Option Bool := Zak9.run (Zak8 a0 a1 a2)
theorem Zfp (a0 : Int) (a1 : Int) (a2 : Int) {r : Bool} (h : Zala a0 a1 a2 = some r) : Fn PR 77 [(wI a0), (wI a1), (wI a2)] (wB r) := Zak9.fn h
inductive Znz where
 | L0 (E0 : (A6 Int)) (v3 : Int)
def Zwh (E0 : (A6 Int)) (v3 : Int) : LT Znz Bool :=
.br (decide (v3 < 6)) (.idA (Zg.int .i64) (A6.list E0) v3 (bx ((cA6 (cI .i64)) E0)) 0 6 fun x2=>.ldC (Zg.int .i64) 10 x2 0<|.cs (decide (x2 < 0)) (.kg 1<|.kg 1<|.kg 1<|.kg 1<|.kg 1<|.kn [0]<|.rt false)<|.kg 1<|.kg 1<|.idA (Zg.int .i64) (A6.list E0) v3 (bx ((cA6 (cI .i64)) E0)) 0 6 fun x5=>.kg 1<|.ldC (Zg.int .i64) 15 x5 1<|.kg 1<|.kg 1<|.br (decide (x5 > 1000000)) (.rt false)<|.g0 (.L0 E0 (IntKind.wrap .i64 (v3 + 1))))<|.rt true
def Z79 (a0 : (A6 Int)) : LT Znz Bool :=
.lb 1001<|.go (.L0 a0 0) [.relab 1001 30000000]
def Z8a : LF Znz Bool := ⟨99, [.t 2], false, fun | .L0 .. => [1,0,1,4],
 fun | .L0 E0 v3 => ⟨18, [(1, (.bptr 30000000 0)), (3, (wI v3))], [(30000000, .box (bx ((cA6 (cI .i64)) E0)))]⟩,
 fun r => [], fun r => (wB r), fun | .L0 E0 v3 => Zwh E0 v3⟩
def Z4s (a0 : (A6 Int)) : Option Bool := Z8a.run (Z79 a0)
theorem Zalb (a0 : (A6 Int)) {r : Bool} (h : Z4s a0 = some r) : Fn PR 99 [(wA ((cA6 (cI .i64)) a0))] (wB r) := Z8a.fn h
inductive Zn0 where
 | L0 (v1 : Int) (E0 : Za) (v5 : Int)
def Zgl (v1 : Int) (E0 : Za) (v5 : Int) : LT Zn0 Int :=
.len Zb E0.Objects<|.br (decide (v5 < (E0.Objects.length : Int))) (.idx Zb E0.Objects v5 fun x3=>.br (x3.Id == v1) (.rt v5)<|.g0 (.L0 v1 E0 (IntKind.wrap .i64 (v5 + 1))))<|.rt (-1)
def Zzm (a0 : Za) (a1 : Int) : LT Zn0 Int :=
.lb 1002<|.go (.L0 a1 a0 0) [.relab 1002 30000000]
def Zr1 : LF Zn0 Int := ⟨156, [.t 4], false, fun | .L0 .. => [1,0,1,4],
 fun | .L0 v1 E0 v5 => ⟨22, [(1, (wI v1)), (2, (.bptr 30000000 0)), (5, (wI v5))], [(30000000, .box (bx (Zr E0)))]⟩,
 fun r => [], fun r => (wI r), fun | .L0 v1 E0 v5 => Zgl v1 E0 v5⟩
def Zs1 (a0 : Za) (a1 : Int) : Option Int := Zr1.run (Zzm a0 a1)
theorem Zalc (a0 : Za) (a1 : Int) {r : Int} (h : Zs1 a0 a1 = some r) : Fn PR 156 [(wA (Zr a0)), (wI a1)] (wI r) := Zr1.fn h
def Z1t (a0 : Za) (a1 : Int) : LT Empty (Zh × Bool) :=
.lb 1002<|.lb 1004<|.call (Zalc a0 a1) fun x1=>.br (decide (x1 < 0)) (.rt ((⟨0, 0, 0, 0, 0, false, false, false, false, 0, (⟨0, 0, 0⟩ : (A3 Int)), 0, 0, 0, false, 0, 0⟩ : Zh), false))<|.idx Zb a0.Objects x1 fun x4=>.rt (x4, true)
def Zac6 : LF Empty (Zh × Bool) := .z 140 [.c 4 44 true 19, .t 5] false (fun r => []) (fun r => (.tup [(wA (Zb r.1)), (wB r.2)]))
def Z1u (a0 : Za) (a1 : Int) : Option (Zh × Bool) := Zac6.run (Z1t a0 a1)
theorem Zanp (a0 : Za) (a1 : Int) {r : (Zh × Bool)} (h : Z1u a0 a1 = some r) : Fn PR 140 [(wA (Zr a0)), (wI a1)] (.tup [(wA (Zb r.1)), (wB r.2)]) := Zac6.fn h
def Zwi (a0 : Za) (a1 : Int) : LT Empty (Zh × Bool) :=
.lb 1002<|.lb 1004<|.call (Zanp a0 a1) fun x1=>.rt (x1.1, x1.2)
def Z4t : LF Empty (Zh × Bool) := .z 117 [.c 4 44 true 19, .t 5] false (fun r => []) (fun r => (.tup [(wA (Zb r.1)), (wB r.2)]))
def Zqc (a0 : Za) (a1 : Int) : Option (Zh × Bool) := Z4t.run (Zwi a0 a1)
theorem Z2r (a0 : Za) (a1 : Int) {r : (Zh × Bool)} (h : Zqc a0 a1 = some r) : Fn PR 117 [(wA (Zr a0)), (wI a1)] (.tup [(wA (Zb r.1)), (wB r.2)]) := Z4t.fn h
inductive Zn1 where
 | L0 (v0 : (List Int)) (v1 : Int) (v5 : Int) (v6 : Int)
def Zly (v0 : (List Int)) (v1 : Int) (v5 : Int) (v6 : Int) : LT Zn1 Int :=
.len (cI .i64) v0<|.br (decide (v6 < (v0.length : Int))) (.idx (cI .i64) v0 v6 fun x3=>.br (x3 == v1) (.g0 (.L0 v0 v1 (IntKind.wrap .i64 (v5 + 1)) (IntKind.wrap .i64 (v6 + 1))))<|.g0 (.L0 v0 v1 v5 (IntKind.wrap .i64 (v6 + 1))))<|.rt v5
def Zzn (a0 : (List Int)) (a1 : Int) : LT Zn1 Int :=
.g0 (.L0 a0 a1 0 0)
def Zzo : LF Zn1 Int := ⟨118, [.t 4], false, fun | .L0 .. => [1,1,0,1,4],
 fun | .L0 v0 v1 v5 v6 => ⟨22, [(0, (wL (cI .i64) v0)), (1, (wI v1)), (5, (wI v5)), (6, (wI v6))], []⟩,
 fun r => [], fun r => (wI r), fun | .L0 v0 v1 v5 v6 => Zly v0 v1 v5 v6⟩
def Zpm (a0 : (List Int)) (a1 : Int) : Option Int := Zzo.run (Zzn a0 a1)
theorem Zwj (a0 : (List Int)) (a1 : Int) {r : Int} (h : Zpm a0 a1 = some r) : Fn PR 118 [(wL (cI .i64) a0), (wI a1)] (wI r) := Zzo.fn h
inductive Zj1 where
 | L0 (v1 : (List Int)) (v2 : Int) (v3 : Int) (E0 : Za) (v9 : Int)
def Zn2 (v1 : (List Int)) (v2 : Int) (v3 : Int) (E0 : Za) (v9 : Int) : LT Zj1 Bool :=
.len (cI .i64) v1<|.br (decide (v9 < (v1.length : Int))) (.idx (cI .i64) v1 v9 fun x3=>.call (Z2r E0 x3) fun x5=>.lb 1010<|.cs (!x5.2) (.kg 1<|.kg 1<|.kg 1<|.kg 1<|.kg 1<|.kb true<|.kb true<|.kb true<|.kb true<|.kb true<|.kb true<|.kb true<|.kb true<|.kb true<|.kb true<|.kb true<|.kb true<|.kb true<|.kn [0]<|.rt false)<|.kg 1<|.kg 1<|.kg 1<|.kg 1<|.kg 1<|.cs (x5.1.Zone != v2) (.kg 2<|.kg 2<|.kg 2<|.kg 2<|.kg 2<|.kb true<|.kb true<|.kb true<|.kb true<|.kb true<|.kb true<|.kb true<|.kb true<|.kn [0]<|.rt false)<|.kg 2<|.kg 2<|.kg 2<|.cs (decide (v3 ≥ 0)) (.kg 3<|.kg 3<|.kg 3<|.kg 3<|.kg 2<|.kg 3<|.kg 2<|.cs (x5.1.Owner != v3) (.kg 4<|.kg 4<|.kg 4<|.kg 4<|.kg 4<|.kg 4<|.kg 4<|.kg 4<|.kn [0]<|.rt false)<|.kg 4<|.kg 4<|.kg 4<|.kg 4<|.ag (cI .i64) x3 0<|.kg 4<|.kg 4<|.call (Zwj v1 x3) fun x11=>.kg 4<|.kg 4<|.br (x11 != 1) (.rt false)<|.g0 (.L0 v1 v2 v3 E0 (IntKind.wrap .i64 (v9 + 1))))<|.kg 3<|.kg 3<|.kg 3<|.kg 3<|.kg 2<|.kg 3<|.kg 2<|.kb false<|.kb false<|.kb false<|.kb false<|.ag (cI .i64) x3 0<|.kb false<|.kb false<|.call (Zwj v1 x3) fun x16=>.kb false<|.kb false<|.br (x16 != 1) (.rt false)<|.g0 (.L0 v1 v2 v3 E0 (IntKind.wrap .i64 (v9 + 1))))<|.rt true
def Z1v (a0 : Za) (a1 : (List Int)) (a2 : Int) (a3 : Int) : LT Zj1 Bool :=
.lb 1004<|.go (.L0 a1 a2 a3 a0 0) [.relab 1004 30000000]
def Z1w : LF Zj1 Bool := ⟨100, [.t 8], false, fun | .L0 .. => [1,0,1,4],
 fun | .L0 v1 v2 v3 E0 v9 => ⟨54, [(1, (wL (cI .i64) v1)), (2, (wI v2)), (3, (wI v3)), (4, (.bptr 30000000 0)), (9, (wI v9))], [(30000000, .box (bx (Zr E0)))]⟩,
 fun r => [], fun r => (wB r), fun | .L0 v1 v2 v3 E0 v9 => Zn2 v1 v2 v3 E0 v9⟩
def Zg5 (a0 : Za) (a1 : (List Int)) (a2 : Int) (a3 : Int) : Option Bool := Z1w.run (Z1v a0 a1 a2 a3)
theorem Zn3 (a0 : Za) (a1 : (List Int)) (a2 : Int) (a3 : Int) {r : Bool} (h : Zg5 a0 a1 a2 a3 = some r) : Fn PR 100 [(wA (Zr a0)), (wL (cI .i64) a1), (wI a2), (wI a3)] (wB r) := Z1w.fn h
inductive Zkp where
 | L0 (E0 : Za) (v3 : Int)
def Zja (E0 : Za) (v3 : Int) : LT Zkp Bool :=
.len Zd E0.Players<|.br (decide (v3 < (E0.Players.length : Int))) (.idx Zd E0.Players v3 fun x3=>.lb 1004<|.call (Zfp x3.Life (-1000000) 1000000) fun x5=>.cs (!x5) (.kg 1<|.kg 1<|.kg 1<|.kg 1<|.kg 1<|.kb true<|.kb true<|.kb true<|.kb true<|.kb true<|.kb true<|.kb true<|.kb true<|.kb true<|.kb true<|.kn [0]<|.rt false)<|.kg 1<|.kg 1<|.kg 1<|.call (Zfp x3.Venom 0 1000000) fun x8=>.kg 1<|.kg 1<|.cs (!x8) (.kg 2<|.kg 2<|.kg 2<|.kg 2<|.kg 2<|.kb true<|.kb true<|.kb true<|.kb true<|.kb true<|.kn [0]<|.rt false)<|.kg 2<|.kg 2<|.kg 2<|.call (Zfp x3.Lands 0 1000000) fun x11=>.kg 2<|.kg 2<|.cs (!x11) (.kg 3<|.kg 3<|.kg 3<|.kg 3<|.kg 3<|.kn [0]<|.rt false)<|.kg 3<|.kg 3<|.kg 3<|.call (Zalb x3.Pool) fun x14=>.kg 3<|.kg 3<|.br (!x14) (.rt false)<|.call (Zn3 E0 x3.Library 2 v3) fun x17=>.cs (!x17) (.kg 5<|.kg 5<|.kg 5<|.kg 5<|.kg 5<|.kg 5<|.kg 5<|.kb true<|.kb true<|.kb true<|.kb true<|.kb true<|.kb true<|.kb true<|.kn [0]<|.rt false)<|.kg 5<|.kg 5<|.kg 5<|.kg 5<|.kg 5<|.call (Zn3 E0 x3.Hand 1 v3) fun x20=>.kg 5<|.kg 5<|.cs (!x20) (.kg 6<|.kg 6<|.kg 6<|.kg 6<|.kg 6<|.kg 6<|.kg 6<|.kn [0]<|.rt false)<|.kg 6<|.kg 6<|.kg 6<|.kg 6<|.kg 6<|.call (Zn3 E0 x3.Graveyard 3 v3) fun x23=>.kg 6<|.kg 6<|.br (!x23) (.rt false)<|.g0 (.L0 E0 (IntKind.wrap .i64 (v3 + 1))))<|.call (Zn3 E0 E0.Battlefield 0 (-1)) fun x28=>.cs x28 (.kg 1<|.kg 1<|.kg 1<|.kg 1<|.call (Zn3 E0 E0.Exile 4 (-1)) fun x31=>.kg 1<|.rt x31)<|.kg 1<|.kg 1<|.kg 1<|.kg 1<|.kg 1<|.rt false
def Ztm (a0 : Za) : LT Zkp Bool :=
.lb 1001<|.len Zd a0.Players<|.call (Zfp (a0.Players.length : Int) 2 4) fun x2=>.br (!x2) (.rt false)<|.go (.L0 a0 0) [.relab 1001 30000000]
def Ztn : LF Zkp Bool := ⟨78, [.t 2], false, fun | .L0 .. => [1,1,0,1,4],
 fun | .L0 E0 v3 => ⟨76, [(1, (.bptr 30000000 0)), (3, (wI v3))], [(30000000, .box (bx (Zr E0)))]⟩,
 fun r => [], fun r => (wB r), fun | .L0 E0 v3 => Zja E0 v3⟩
def Zkz (a0 : Za) : Option Bool := Ztn.run (Ztm a0)
theorem Zafo (a0 : Za) {r : Bool} (h : Zkz a0 = some r) : Fn PR 78 [(wA (Zr a0))] (wB r) := Ztn.fn h
def Z4u (a0 : Za) (a1 : Int) : LT Empty Bool :=
.lb 1002<|.len Zd a0.Players<|.call (Zfp a1 0 (IntKind.wrap .i64 ((a0.Players.length : Int) - 1))) fun x4=>.rt x4
def Z4v : LF Empty Bool := .z 79 [.t 4] false (fun r => []) (fun r => (wB r))
def Z1x (a0 : Za) (a1 : Int) : Option Bool := Z4v.run (Z4u a0 a1)
theorem Zhv (a0 : Za) (a1 : Int) {r : Bool} (h : Z1x a0 a1 = some r) : Fn PR 79 [(wA (Zr a0)), (wI a1)] (wB r) := Z4v.fn h
inductive Zwk where
 | L0 (E0 : (A3 Int)) (v3 : Int)
def Z4w (E0 : (A3 Int)) (v3 : Int) : LT Zwk Bool :=
.br (decide (v3 < 3)) (.idA (Zg.int .i64) (A3.list E0) v3 (bx ((cA3 (cI .i64)) E0)) 0 3 fun x2=>.ldC (Zg.int .i64) 10 x2 0<|.cs (decide (x2 < 0)) (.kg 1<|.kg 1<|.kg 1<|.kg 1<|.kg 1<|.kn [0]<|.rt false)<|.kg 1<|.kg 1<|.idA (Zg.int .i64) (A3.list E0) v3 (bx ((cA3 (cI .i64)) E0)) 0 3 fun x5=>.kg 1<|.ldC (Zg.int .i64) 15 x5 1<|.kg 1<|.kg 1<|.br (decide (x5 > 1000000)) (.rt false)<|.g0 (.L0 E0 (IntKind.wrap .i64 (v3 + 1))))<|.rt true
def Zald (a0 : (A3 Int)) : LT Zwk Bool :=
.lb 1001<|.go (.L0 a0 0) [.relab 1001 30000000]
def Zale : LF Zwk Bool := ⟨119, [.t 2], false, fun | .L0 .. => [1,0,1,4],
 fun | .L0 E0 v3 => ⟨18, [(1, (.bptr 30000000 0)), (3, (wI v3))], [(30000000, .box (bx ((cA3 (cI .i64)) E0)))]⟩,
 fun r => [], fun r => (wB r), fun | .L0 E0 v3 => Z4w E0 v3⟩
def Zalf (a0 : (A3 Int)) : Option Bool := Zale.run (Zald a0)
theorem Zaq2 (a0 : (A3 Int)) {r : Bool} (h : Zalf a0 = some r) : Fn PR 119 [(wA ((cA3 (cI .i64)) a0))] (wB r) := Zale.fn h
def Zac7 (a0 : Zh) : LT Empty Zh :=
.lb 1001<|.lb 1002<|.rt (⟨a0.Id, a0.Card, a0.Owner, a0.Control, a0.Zone, a0.Token, a0.Tapped, a0.Sick, a0.Deadly, a0.Damage, a0.Counters, a0.Stamp, a0.Copy, (-1), false, 0, a0.Shield⟩ : Zh)
def Zac8 : LF Empty Zh := .z 120 [.c 2 44 true 19] false (fun r => []) (fun r => (wA (Zb r)))
def Z91 (a0 : Zh) : Option Zh := Zac8.run (Zac7 a0)
theorem Zanq (a0 : Zh) {r : Zh} (h : Z91 a0 = some r) : Fn PR 120 [(wA (Zb a0))] (wA (Zb r)) := Zac8.fn h
def Z8b (a0 : Zh) : LT Empty Zh :=
.lb 1001<|.lb 1002<|.rt (⟨a0.Id, a0.Card, a0.Owner, a0.Control, a0.Zone, a0.Token, a0.Tapped, a0.Sick, false, 0, a0.Counters, a0.Stamp, a0.Copy, a0.Attack, a0.Blocked, a0.Blocks, 0⟩ : Zh)
def Z8c : LF Empty Zh := .z 121 [.c 2 44 true 19] false (fun r => []) (fun r => (wA (Zb r)))
def Z4x (a0 : Zh) : Option Zh := Z8c.run (Z8b a0)
theorem Zalg (a0 : Zh) {r : Zh} (h : Z4x a0 = some r) : Fn PR 121 [(wA (Zb a0))] (wA (Zb r)) := Z8c.fn h
def Zalh (a0 : Zh) (a1 : Int) (a2 : Int) : LT Empty Bool :=
.lb 1003<|.cs (decide (a0.Id < 1)) (.kg 0<|.kg 0<|.kg 0<|.kg 0<|.kb true<|.kb true<|.kb true<|.kb true<|.kb true<|.kb true<|.kb true<|.kb true<|.kb true<|.kb true<|.kb true<|.kb true<|.kb true<|.kb true<|.kb true<|.kb true<|.kb true<|.kb true<|.kb true<|.kb true<|.kb true<|.kb true<|.kb true<|.kb true<|.kb true<|.kb true<|.kb true<|.kb true<|.kb true<|.kb true<|.kb true<|.kn [0]<|.rt false)<|.kg 0<|.kg 0<|.kg 0<|.kg 0<|.cs (decide (a0.Card < 0)) (.kg 1<|.kg 1<|.kg 1<|.kg 1<|.kg 1<|.kb true<|.kb true<|.kb true<|.kb true<|.kb true<|.kb true<|.kb true<|.kb true<|.kb true<|.kb true<|.kb true<|.kb true<|.kb true<|.kb true<|.kb true<|.kb true<|.kb true<|.kb true<|.kb true<|.kb true<|.kb true<|.kb true<|.kb true<|.kb true<|.kb true<|.kb true<|.kn [0]<|.rt false)<|.kg 1<|.kg 1<|.kg 1<|.kg 1<|.kg 1<|.cs (decide (a0.Card ≥ a1)) (.kg 2<|.kg 2<|.kg 2<|.kg 2<|.kb true<|.kb true<|.kb true<|.kb true<|.kb true<|.kb true<|.kb true<|.kb true<|.kb true<|.kb true<|.kb true<|.kb true<|.kb true<|.kb true<|.kb true<|.kb true<|.kb true<|.kb true<|.kb true<|.kb true<|.kb true<|.kb true<|.kn [0]<|.rt false)<|.kg 2<|.kg 2<|.kg 2<|.kg 2<|.cs (decide (a0.Owner < 0)) (.kg 3<|.kg 3<|.kg 3<|.kg 3<|.kg 3<|.kb true<|.kb true<|.kb true<|.kb true<|.kb true<|.kb true<|.kb true<|.kb true<|.kb true<|.kb true<|.kb true<|.kb true<|.kb true<|.kb true<|.kb true<|.kb true<|.kb true<|.kn [0]<|.rt false)<|.kg 3<|.kg 3<|.kg 3<|.kg 3<|.kg 3<|.cs (decide (a0.Owner ≥ a2)) (.kg 4<|.kg 4<|.kg 4<|.kg 4<|.kb true<|.kb true<|.kb true<|.kb true<|.kb true<|.kb true<|.kb true<|.kb true<|.kb true<|.kb true<|.kb true<|.kb true<|.kb true<|.kn [0]<|.rt false)<|.kg 4<|.kg 4<|.kg 4<|.kg 4<|.cs (decide (a0.Control < 0)) (.kg 5<|.kg 5<|.kg 5<|.kg 5<|.kg 5<|.kb true<|.kb true<|.kb true<|.kb true<|.kb true<|.kb true<|.kb true<|.kb true<|.kn [0]<|.rt false)<|.kg 5<|.kg 5<|.kg 5<|.kg 5<|.kg 5<|.cs (decide (a0.Control ≥ a2)) (.kg 6<|.kg 6<|.kg 6<|.kg 6<|.kb true<|.kb true<|.kb true<|.kb true<|.kn [0]<|.rt false)<|.kg 6<|.kg 6<|.kg 6<|.kg 6<|.cs (decide (a0.Zone < 0)) (.kg 7<|.kg 7<|.kg 7<|.kg 7<|.kn [0]<|.rt false)<|.kg 7<|.kg 7<|.kg 7<|.kg 7<|.br (decide (a0.Zone > 5)) (.rt false)<|.cs (decide (a0.Damage < 0)) (.kg 9<|.kg 9<|.kg 9<|.kg 9<|.kb true<|.kb true<|.kb true<|.kb true<|.kb true<|.kb true<|.kb true<|.kb true<|.kb true<|.kb true<|.kb true<|.kb true<|.kb true<|.kb true<|.kb true<|.kb true<|.kb true<|.kb true<|.kb true<|.kb true<|.kb true<|.kb true<|.kb true<|.kb true<|.kn [0]<|.rt false)<|.kg 9<|.kg 9<|.kg 9<|.kg 9<|.cs (decide (a0.Damage > 1000000)) (.kg 10<|.kg 10<|.kg 10<|.kg 10<|.kb true<|.kb true<|.kb true<|.kb true<|.kb true<|.kb true<|.kb true<|.kb true<|.kb true<|.kb true<|.kb true<|.kb true<|.kb true<|.kb true<|.kb true<|.kb true<|.kb true<|.kb true<|.kb true<|.kb true<|.kn [0]<|.rt false)<|.kg 10<|.kg 10<|.kg 10<|.kg 10<|.cs (decide (a0.Stamp < 0)) (.kg 11<|.kg 11<|.kg 11<|.kg 11<|.kb true<|.kb true<|.kb true<|.kb true<|.kb true<|.kb true<|.kb true<|.kb true<|.kb true<|.kb true<|.kb true<|.kb true<|.kb true<|.kb true<|.kb true<|.kb true<|.kn [0]<|.rt false)<|.kg 11<|.kg 11<|.kg 11<|.kg 11<|.cs (decide (a0.Stamp > 1000000)) (.kg 12<|.kg 12<|.kg 12<|.kg 12<|.kb true<|.kb true<|.kb true<|.kb true<|.kb true<|.kb true<|.kb true<|.kb true<|.kb true<|.kb true<|.kb true<|.kb true<|.kn [0]<|.rt false)<|.kg 12<|.kg 12<|.kg 12<|.kg 12<|.cs (decide (a0.Blocks < 0)) (.kg 13<|.kg 13<|.kg 13<|.kg 13<|.kb true<|.kb true<|.kb true<|.kb true<|.kb true<|.kb true<|.kb true<|.kb true<|.kn [0]<|.rt false)<|.kg 13<|.kg 13<|.kg 13<|.kg 13<|.cs (decide (a0.Blocks > 1000000)) (.kg 14<|.kg 14<|.kg 14<|.kg 14<|.kb true<|.kb true<|.kb true<|.kb true<|.kn [0]<|.rt false)<|.kg 14<|.kg 14<|.kg 14<|.kg 14<|.cs (decide (a0.Shield < 0)) (.kg 15<|.kg 15<|.kg 15<|.kg 15<|.kn [0]<|.rt false)<|.kg 15<|.kg 15<|.kg 15<|.kg 15<|.br (decide (a0.Shield > 1000000)) (.rt false)<|.call (Zaq2 a0.Counters) fun x18=>.cs (!x18) (.kg 17<|.kg 17<|.kg 17<|.kg 17<|.kb true<|.kb true<|.kb true<|.kb true<|.kb true<|.kb true<|.kb true<|.kb true<|.kb true<|.kb true<|.kb true<|.kb true<|.kb true<|.kb true<|.kn [0]<|.rt false)<|.kg 17<|.kg 17<|.kg 17<|.kg 17<|.cs (decide (a0.Copy < (-1))) (.kg 18<|.kg 18<|.kg 18<|.kg 18<|.kg 18<|.kb true<|.kb true<|.kb true<|.kb true<|.kb true<|.kb true<|.kb true<|.kb true<|.kb true<|.kn [0]<|.rt false)<|.kg 18<|.kg 18<|.kg 18<|.kg 18<|.kg 18<|.cs (decide (a0.Copy ≥ a1)) (.kg 19<|.kg 19<|.kg 19<|.kg 19<|.kb true<|.kb true<|.kb true<|.kb true<|.kb true<|.kn [0]<|.rt false)<|.kg 19<|.kg 19<|.kg 19<|.kg 19<|.cs (decide (a0.Attack < (-1))) (.kg 20<|.kg 20<|.kg 20<|.kg 20<|.kg 20<|.kn [0]<|.rt false)<|.kg 20<|.kg 20<|.kg 20<|.kg 20<|.kg 20<|.br (decide (a0.Attack ≥ a2)) (.rt false)<|.cs (a0.Zone == 0) (.kg 22<|.kg 22<|.kg 22<|.kg 22<|.kg 22<|.kg 22<|.kg 22<|.kg 22<|.kg 22<|.kg 22<|.kg 22<|.kg 22<|.kg 22<|.rt true)<|.kg 22<|.kg 22<|.kg 22<|.call (Zanq a0) fun x26=>.kg 22<|.kg 22<|.cs (Zx (Zb a0) (Zb x26)) (.kg 23<|.kg 23<|.kg 23<|.call (Zalg a0) fun x29=>.kg 23<|.kg 22<|.kg 23<|.kg 22<|.cs (Zx (Zb a0) (Zb x29)) (.kg 24<|.kg 24<|.kg 24<|.kg 22<|.kg 24<|.kg 22<|.cs (!a0.Tapped) (.kg 25<|.kg 25<|.kg 25<|.kg 22<|.kg 25<|.kg 22<|.cs (!a0.Sick) (.kg 26<|.kg 26<|.kg 26<|.kg 26<|.kg 22<|.kg 26<|.kg 22<|.rt (Zx ((cA3 (cI .i64)) a0.Counters) ((cA3 (cI .i64)) (⟨0, 0, 0⟩ : (A3 Int)))))<|.kg 26<|.kg 26<|.kg 26<|.kg 26<|.kg 22<|.kg 26<|.kg 22<|.rt false)<|.kg 25<|.kg 25<|.kg 25<|.kg 22<|.kg 25<|.kg 22<|.kb false<|.kb false<|.kb false<|.kb false<|.kg 22<|.kb false<|.kg 22<|.rt false)<|.kg 24<|.kg 24<|.kg 24<|.kg 22<|.kg 24<|.kg 22<|.kb false<|.kb false<|.kb false<|.kg 22<|.kb false<|.kg 22<|.kb false<|.kb false<|.kb false<|.kb false<|.kg 22<|.kb false<|.kg 22<|.rt false)<|.kg 23<|.kg 23<|.kg 23<|.kg 23<|.kg 22<|.kg 23<|.kg 22<|.kb false<|.kb false<|.kb false<|.kg 22<|.kb false<|.kg 22<|.kb false<|.kb false<|.kb false<|.kg 22<|.kb false<|.kg 22<|.kb false<|.kb false<|.kb false<|.kb false<|.kg 22<|.kb false<|.kg 22<|.rt false
def Zali : LF Empty Bool := .z 101 [.t 6] false (fun r => []) (fun r => (wB r))
def Zalj (a0 : Zh) (a1 : Int) (a2 : Int) : Option Bool := Zali.run (Zalh a0 a1 a2)
theorem Zaq3 (a0 : Zh) (a1 : Int) (a2 : Int) {r : Bool} (h : Zalj a0 a1 a2 = some r) : Fn PR 101 [(wA (Zb a0)), (wI a1), (wI a2)] (wB r) := Zali.fn h
inductive Zlz where
 | L0 (v1 : Int) (E0 : Za) (v5 : Int) (v6 : Int)
def Zto (v1 : Int) (E0 : Za) (v5 : Int) (v6 : Int) : LT Zlz Int :=
.len Zf E0.Stack<|.br (decide (v6 < (E0.Stack.length : Int))) (.idx Zf E0.Stack v6 fun x3=>.cs (x3.Kind == 1) (.kg 1<|.kg 1<|.kg 1<|.kg 1<|.ag Zf x3 0<|.kg 1<|.kg 1<|.kg 1<|.kg 1<|.kg 1<|.br (x3.Id == v1) (.g0 (.L0 v1 E0 (IntKind.wrap .i64 (v5 + 1)) (IntKind.wrap .i64 (v6 + 1))))<|.g0 (.L0 v1 E0 v5 (IntKind.wrap .i64 (v6 + 1))))<|.kg 1<|.kg 1<|.kg 1<|.kg 1<|.kg 1<|.kg 1<|.kg 1<|.kg 1<|.kg 1<|.kn [0]<|.g0 (.L0 v1 E0 v5 (IntKind.wrap .i64 (v6 + 1))))<|.rt v5
def Z4y (a0 : Za) (a1 : Int) : LT Zlz Int :=
.lb 1002<|.go (.L0 a1 a0 0 0) [.relab 1002 30000000]
def Z4z : LF Zlz Int := ⟨122, [.t 4], false, fun | .L0 .. => [1,1,0,1,4],
 fun | .L0 v1 E0 v5 v6 => ⟨34, [(1, (wI v1)), (2, (.bptr 30000000 0)), (5, (wI v5)), (6, (wI v6))], [(30000000, .box (bx (Zr E0)))]⟩,
 fun r => [], fun r => (wI r), fun | .L0 v1 E0 v5 v6 => Zto v1 E0 v5 v6⟩
def Z1y (a0 : Za) (a1 : Int) : Option Int := Z4z.run (Z4y a0 a1)
theorem Zahb (a0 : Za) (a1 : Int) {r : Int} (h : Z1y a0 a1 = some r) : Fn PR 122 [(wA (Zr a0)), (wI a1)] (wI r) := Z4z.fn h
def Z1z (a0 : (List Int)) : LT Empty (List Int) :=
.lb 1003<|.apR (cI .i64) 8 ([] : (List Int)) a0 fun x1=>.ret x1 [.relab 1003 5000]
def Zac9 : LF Empty (List Int) := .z 40 [.t 2] true (fun r => [(5000, wR (cI .i64) 1 r)]) (fun r => (wO (cI .i64) 5000 r))
def Zrj (a0 : (List Int)) : Option (List Int) := Zac9.run (Z1z a0)
theorem Zgm (a0 : (List Int)) {r : (List Int)} (h : Zrj a0 = some r) : FnG PR 40 [] [(wL (cI .i64) a0)] [(5000, wR (cI .i64) 1 r)] (wO (cI .i64) 5000 r) := Zac9.fn h
theorem Zr2 (a0 : (List Int)) {r : (List Int)} (h : Zrj a0 = some r) : Fn PR 40 [(wL (cI .i64) a0)] (wL (cI .i64) r) :=
 FnG.frozen (C := LT.RL (cI .i64) r ∧ True) (Zgm a0 h) ⟨rfl, trivial⟩ (by kernel_rfl)
def Z10 (a0 : Za) (a1 : Int) (a2 : Int) : LT Empty (List Int) :=
.lb 1003<|.br (a1 == 0) (.callF (Zgm a0.Battlefield) 130000 fun x2=>.ret x2 [.relab 135000 5000])<|.br (a1 == 4) (.callF (Zgm a0.Exile) 180000 fun x5=>.ret x5 [.relab 185000 5000])<|.cs (decide (a2 < 0)) (.kg 2<|.kg 2<|.kg 2<|.kg 2<|.kg 2<|.kg 2<|.kn [0]<|.ret ([] : (List Int)) [.own 6 5000 1])<|.kg 2<|.kg 2<|.kg 2<|.kg 2<|.len Zd a0.Players<|.kg 2<|.kg 2<|.br (decide (a2 ≥ (a0.Players.length : Int))) (.ret ([] : (List Int)) [.own 6 5000 1])<|.br (a1 == 1) (.idx Zd a0.Players a2 fun x11=>.callF (Zgm x11.Hand) 370000 fun x13=>.ret x13 [.relab 375000 5000])<|.br (a1 == 2) (.idx Zd a0.Players a2 fun x16=>.callF (Zgm x16.Library) 460000 fun x18=>.ret x18 [.relab 465000 5000])<|.br (a1 == 3) (.idx Zd a0.Players a2 fun x21=>.callF (Zgm x21.Graveyard) 550000 fun x23=>.ret x23 [.relab 555000 5000])<|.ret ([] : (List Int)) [.own 6 5000 1]
def Zada : LF Empty (List Int) := .z 123 [.t 6] true (fun r => [(5000, wR (cI .i64) 1 r)]) (fun r => (wO (cI .i64) 5000 r))
def Zwl (a0 : Za) (a1 : Int) (a2 : Int) : Option (List Int) := Zada.run (Z10 a0 a1 a2)
theorem Zalk (a0 : Za) (a1 : Int) (a2 : Int) {r : (List Int)} (h : Zwl a0 a1 a2 = some r) : FnG PR 123 [] [(wA (Zr a0)), (wI a1), (wI a2)] [(5000, wR (cI .i64) 1 r)] (wO (cI .i64) 5000 r) := Zada.fn h
theorem Zanr (a0 : Za) (a1 : Int) (a2 : Int) {r : (List Int)} (h : Zwl a0 a1 a2 = some r) : Fn PR 123 [(wA (Zr a0)), (wI a1), (wI a2)] (wL (cI .i64) r) :=
 FnG.frozen (C := LT.RL (cI .i64) r ∧ True) (Zalk a0 a1 a2 h) ⟨rfl, trivial⟩ (by kernel_rfl)
def Zwm (a0 : Za) (a1 : Zh) : LT Empty Bool :=
.lb 1002<|.lb 1003<|.br (a1.Zone == 5) (.call (Zahb a0 a1.Id) fun x2=>.rt (x2 == 1))<|.call (Zanr a0 a1.Zone a1.Owner) fun x4=>.call (Zwj x4 a1.Id) fun x6=>.rt (x6 == 1)
def Z40 : LF Empty Bool := .z 102 [.t 4] false (fun r => []) (fun r => (wB r))
def Zj2 (a0 : Za) (a1 : Zh) : Option Bool := Z40.run (Zwm a0 a1)
theorem Z2s (a0 : Za) (a1 : Zh) {r : Bool} (h : Zj2 a0 a1 = some r) : Fn PR 102 [(wA (Zr a0)), (wA (Zb a1))] (wB r) := Z40.fn h
inductive Zkq where
 | L0 (v0 : (List Zs)) (E0 : Za) (v5 : Int)
def Zjb (v0 : (List Zs)) (E0 : Za) (v5 : Int) : LT Zkq Bool :=
.len Zb E0.Objects<|.br (decide (v5 < (E0.Objects.length : Int))) (.idx Zb E0.Objects v5 fun x3=>.lb 1006<|.len Zaa v0<|.len Zd E0.Players<|.call (Zaq3 x3 (v0.length : Int) (E0.Players.length : Int)) fun x7=>.cs (!x7) (.kg 1<|.kg 1<|.kg 1<|.kg 1<|.kg 1<|.kg 1<|.kb true<|.kb true<|.kb true<|.kb true<|.kb true<|.kb true<|.kb true<|.kb true<|.kb true<|.kb true<|.kb true<|.kn [0]<|.rt false)<|.kg 1<|.kg 1<|.kg 1<|.kg 1<|.kg 1<|.kg 1<|.cs (decide (x3.Id ≥ E0.NextId)) (.kg 2<|.kg 2<|.kg 2<|.kg 2<|.kg 2<|.kg 2<|.kb true<|.kb true<|.kb true<|.kb true<|.kb true<|.kn [0]<|.rt false)<|.kg 2<|.kg 2<|.kg 2<|.kg 2<|.kg 2<|.kg 2<|.cs (decide (x3.Stamp ≥ E0.NextStamp)) (.kg 3<|.kg 3<|.kg 3<|.kg 3<|.kg 3<|.kn [0]<|.rt false)<|.kg 3<|.kg 3<|.kg 3<|.cs (decide (v5 > 0)) (.kg 4<|.kg 4<|.kg 4<|.kg 4<|.kg 4<|.idx Zb E0.Objects (IntKind.wrap .i64 (v5 - 1)) fun x15=>.kg 4<|.kg 4<|.kg 4<|.kg 4<|.kg 4<|.kg 3<|.kg 4<|.kg 3<|.br (decide (x15.Id ≥ x3.Id)) (.rt false)<|.call (Z2s E0 x3) fun x18=>.br (!x18) (.rt false)<|.g0 (.L0 v0 E0 (IntKind.wrap .i64 (v5 + 1))))<|.kg 4<|.kg 4<|.kg 4<|.kg 4<|.kg 4<|.kg 4<|.kg 4<|.kg 4<|.kg 4<|.kg 4<|.kg 3<|.kg 4<|.kg 3<|.kn [0]<|.call (Z2s E0 x3) fun x23=>.br (!x23) (.rt false)<|.g0 (.L0 v0 E0 (IntKind.wrap .i64 (v5 + 1))))<|.rt true
def Ztp (a0 : (List Zs)) (a1 : Za) : LT Zkq Bool :=
.lb 1003<|.len Zb a1.Objects<|.br (decide ((a1.Objects.length : Int) > 2048)) (.rt false)<|.go (.L0 a0 a1 0) [.relab 1003 30000000]
def Ztq : LF Zkq Bool := ⟨80, [.t 4], false, fun | .L0 .. => [1,1,0,1,4],
 fun | .L0 v0 E0 v5 => ⟨65, [(0, (wL Zaa v0)), (3, (.bptr 30000000 0)), (5, (wI v5))], [(30000000, .box (bx (Zr E0)))]⟩,
 fun r => [], fun r => (wB r), fun | .L0 v0 E0 v5 => Zjb v0 E0 v5⟩
def Zhg (a0 : (List Zs)) (a1 : Za) : Option Bool := Ztq.run (Ztp a0 a1)
theorem Zm4 (a0 : (List Zs)) (a1 : Za) {r : Bool} (h : Zhg a0 a1 = some r) : Fn PR 80 [(wL Zaa a0), (wA (Zr a1))] (wB r) := Ztq.fn h
inductive Zg6 where
 | L0 (v0 : (List Zj)) (v1 : (List Zj)) (v5 : Int)
def Zgn (v0 : (List Zj)) (v1 : (List Zj)) (v5 : Int) : LT Zg6 Bool :=
.len Zn v0<|.br (decide (v5 < (v0.length : Int))) (.idx Zn v0 v5 fun x3=>.idx Zn v1 v5 fun x5=>.br (!(Zx (Zn x3) (Zn x5))) (.rt false)<|.g0 (.L0 v0 v1 (IntKind.wrap .i64 (v5 + 1))))<|.rt true
def Zrk (a0 : (List Zj)) (a1 : (List Zj)) : LT Zg6 Bool :=
.len Zn a0<|.len Zn a1<|.br ((a0.length : Int) != (a1.length : Int)) (.rt false)<|.g0 (.L0 a0 a1 0)
def Zm5 : LF Zg6 Bool := ⟨106, [.t 4], false, fun | .L0 .. => [1,1,0,1,4],
 fun | .L0 v0 v1 v5 => ⟨26, [(0, (wL Zn v0)), (1, (wL Zn v1)), (5, (wI v5))], []⟩,
 fun r => [], fun r => (wB r), fun | .L0 v0 v1 v5 => Zgn v0 v1 v5⟩
def Zl0 (a0 : (List Zj)) (a1 : (List Zj)) : Option Bool := Zm5.run (Zrk a0 a1)
theorem Zx8 (a0 : (List Zj)) (a1 : (List Zj)) {r : Bool} (h : Zl0 a0 a1 = some r) : Fn PR 106 [(wL Zn a0), (wL Zn a1)] (wB r) := Zm5.fn h
def Z11 (a0 : Zm) (a1 : Zm) : LT Empty Bool :=
.lb 1002<|.lb 1003<|.cs (a0.Op == a1.Op) (.kg 0<|.kg 0<|.kg 0<|.kg 0<|.kg 0<|.kg 0<|.cs (Zx (Zct a0.Ref) (Zct a1.Ref)) (.kg 1<|.kg 1<|.kg 1<|.kg 1<|.kg 1<|.kg 1<|.cs (Zx (Zbe a0.Amount) (Zbe a1.Amount)) (.kg 2<|.kg 2<|.kg 2<|.kg 2<|.kg 2<|.kg 2<|.cs (a0.Counter == a1.Counter) (.kg 3<|.kg 3<|.kg 3<|.kg 3<|.kg 3<|.kg 3<|.cs (a0.Zone == a1.Zone) (.kg 4<|.kg 4<|.kg 4<|.kg 4<|.kg 4<|.kg 4<|.cs (a0.Card == a1.Card) (.kg 5<|.kg 5<|.kg 5<|.kg 5<|.kg 5<|.kg 5<|.cs (Zx (Zp a0.Filter) (Zp a1.Filter)) (.kg 6<|.kg 6<|.kg 6<|.kg 6<|.kg 6<|.kg 6<|.cs (Zx ((cA6 (cI .i64)) a0.Pool) ((cA6 (cI .i64)) a1.Pool)) (.kg 7<|.kg 7<|.kg 7<|.kg 7<|.kg 7<|.call (Zx8 a0.Mods a1.Mods) fun x9=>.kg 7<|.rt x9)<|.kg 7<|.kg 7<|.kg 7<|.kg 7<|.kg 7<|.kg 7<|.rt false)<|.kg 6<|.kg 6<|.kg 6<|.kg 6<|.kg 6<|.kg 6<|.kb false<|.kb false<|.kb false<|.kb false<|.kb false<|.kb false<|.rt false)<|.kg 5<|.kg 5<|.kg 5<|.kg 5<|.kg 5<|.kg 5<|.kb false<|.kb false<|.kb false<|.kb false<|.kb false<|.kb false<|.kb false<|.kb false<|.kb false<|.kb false<|.kb false<|.kb false<|.rt false)<|.kg 4<|.kg 4<|.kg 4<|.kg 4<|.kg 4<|.kg 4<|.kb false<|.kb false<|.kb false<|.kb false<|.kb false<|.kb false<|.kb false<|.kb false<|.kb false<|.kb false<|.kb false<|.kb false<|.kb false<|.kb false<|.kb false<|.kb false<|.kb false<|.kb false<|.rt false)<|.kg 3<|.kg 3<|.kg 3<|.kg 3<|.kg 3<|.kg 3<|.kb false<|.kb false<|.kb false<|.kb false<|.kb false<|.kb false<|.kb false<|.kb false<|.kb false<|.kb false<|.kb false<|.kb false<|.kb false<|.kb false<|.kb false<|.kb false<|.kb false<|.kb false<|.kb false<|.kb false<|.kb false<|.kb false<|.kb false<|.kb false<|.rt false)<|.kg 2<|.kg 2<|.kg 2<|.kg 2<|.kg 2<|.kg 2<|.kb false<|.kb false<|.kb false<|.kb false<|.kb false<|.kb false<|.kb false<|.kb false<|.kb false<|.kb false<|.kb false<|.kb false<|.kb false<|.kb false<|.kb false<|.kb false<|.kb false<|.kb false<|.kb false<|.kb false<|.kb false<|.kb false<|.kb false<|.kb false<|.kb false<|.kb false<|.kb false<|.kb false<|.kb false<|.kb false<|.rt false)<|.kg 1<|.kg 1<|.kg 1<|.kg 1<|.kg 1<|.kg 1<|.kb false<|.kb false<|.kb false<|.kb false<|.kb false<|.kb false<|.kb false<|.kb false<|.kb false<|.kb false<|.kb false<|.kb false<|.kb false<|.kb false<|.kb false<|.kb false<|.kb false<|.kb false<|.kb false<|.kb false<|.kb false<|.kb false<|.kb false<|.kb false<|.kb false<|.kb false<|.kb false<|.kb false<|.kb false<|.kb false<|.kb false<|.kb false<|.kb false<|.kb false<|.kb false<|.kb false<|.rt false)<|.kg 0<|.kg 0<|.kg 0<|.kg 0<|.kg 0<|.kg 0<|.kb false<|.kb false<|.kb false<|.kb false<|.kb false<|.kb false<|.kb false<|.kb false<|.kb false<|.kb false<|.kb false<|.kb false<|.kb false<|.kb false<|.kb false<|.kb false<|.kb false<|.kb false<|.kb false<|.kb false<|.kb false<|.kb false<|.kb false<|.kb false<|.kb false<|.kb false<|.kb false<|.kb false<|.kb false<|.kb false<|.kb false<|.kb false<|.kb false<|.kb false<|.kb false<|.kb false<|.kb false<|.kb false<|.kb false<|.kb false<|.kb false<|.kb false<|.rt false
def Zadb : LF Empty Bool := .z 126 [.t 4] false (fun r => []) (fun r => (wB r))
def Zwn (a0 : Zm) (a1 : Zm) : Option Bool := Zadb.run (Z11 a0 a1)
theorem Zans (a0 : Zm) (a1 : Zm) {r : Bool} (h : Zwn a0 a1 = some r) : Fn PR 126 [(wA (Zo a0)), (wA (Zo a1))] (wB r) := Zadb.fn h
inductive Zg7 where
 | L0 (v0 : (List Zm)) (v1 : (List Zm)) (v5 : Int)
def Zgo (v0 : (List Zm)) (v1 : (List Zm)) (v5 : Int) : LT Zg7 Bool :=
.len Zo v0<|.br (decide (v5 < (v0.length : Int))) (.idx Zo v0 v5 fun x3=>.idx Zo v1 v5 fun x5=>.call (Zans x3 x5) fun x7=>.br (!x7) (.rt false)<|.g0 (.L0 v0 v1 (IntKind.wrap .i64 (v5 + 1))))<|.rt true
def Zrl (a0 : (List Zm)) (a1 : (List Zm)) : LT Zg7 Bool :=
.len Zo a0<|.len Zo a1<|.br ((a0.length : Int) != (a1.length : Int)) (.rt false)<|.g0 (.L0 a0 a1 0)
def Zm6 : LF Zg7 Bool := ⟨107, [.t 4], false, fun | .L0 .. => [1,1,0,1,4],
 fun | .L0 v0 v1 v5 => ⟨27, [(0, (wL Zo v0)), (1, (wL Zo v1)), (5, (wI v5))], []⟩,
 fun r => [], fun r => (wB r), fun | .L0 v0 v1 v5 => Zgo v0 v1 v5⟩
def Zl1 (a0 : (List Zm)) (a1 : (List Zm)) : Option Bool := Zm6.run (Zrl a0 a1)
theorem Zadc (a0 : (List Zm)) (a1 : (List Zm)) {r : Bool} (h : Zl1 a0 a1 = some r) : Fn PR 107 [(wL Zo a0), (wL Zo a1)] (wB r) := Zm6.fn h
inductive Zm7 where
 | L0 (E0 : Zl) (E1 : Zl) (v5 : Int)
def Ziz (E0 : Zl) (E1 : Zl) (v5 : Int) : LT Zm7 Bool :=
.len Zy E0.Specs<|.br (decide (v5 < (E0.Specs.length : Int))) (.idx Zy E0.Specs v5 fun x3=>.idx Zy E1.Specs v5 fun x5=>.br (!(Zx (Zy x3) (Zy x5))) (.rt false)<|.g0 (.L0 E0 E1 (IntKind.wrap .i64 (v5 + 1))))<|.cs (E0.Kind == E1.Kind) (.kg 1<|.kg 1<|.kg 1<|.kg 1<|.kg 1<|.kg 1<|.cs (Zx (Zp E0.Filter) (Zp E1.Filter)) (.kg 2<|.kg 2<|.kg 2<|.kg 2<|.kg 2<|.call (Zx8 E0.Mods E1.Mods) fun x12=>.kg 2<|.cs x12 (.kg 3<|.kg 3<|.kg 3<|.kg 3<|.kg 3<|.kg 3<|.cs (Zx (Zdb E0.Price) (Zdb E1.Price)) (.kg 4<|.kg 4<|.kg 4<|.kg 4<|.kg 4<|.kg 4<|.cs (E0.Slow == E1.Slow) (.kg 5<|.kg 5<|.kg 5<|.kg 5<|.kg 5<|.kg 5<|.cs (Zx (Zb8 E0.Trigger) (Zb8 E1.Trigger)) (.kg 6<|.kg 6<|.kg 6<|.kg 6<|.kg 6<|.kg 6<|.cs (E0.May == E1.May) (.kg 7<|.kg 7<|.kg 7<|.kg 7<|.kg 7<|.call (Zadc E0.Effects E1.Effects) fun x19=>.kg 7<|.cs x19 (.kg 8<|.kg 8<|.kg 8<|.kg 8<|.kg 8<|.kg 8<|.rt (Zx (Zbu E0.Replace) (Zbu E1.Replace)))<|.kg 8<|.kg 8<|.kg 8<|.kg 8<|.kg 8<|.kg 8<|.rt false)<|.kg 7<|.kg 7<|.kg 7<|.kg 7<|.kg 7<|.kg 7<|.kb false<|.kb false<|.kb false<|.kb false<|.kb false<|.kb false<|.rt false)<|.kg 6<|.kg 6<|.kg 6<|.kg 6<|.kg 6<|.kg 6<|.kb false<|.kb false<|.kb false<|.kb false<|.kb false<|.kb false<|.kb false<|.kb false<|.kb false<|.kb false<|.kb false<|.kb false<|.rt false)<|.kg 5<|.kg 5<|.kg 5<|.kg 5<|.kg 5<|.kg 5<|.kb false<|.kb false<|.kb false<|.kb false<|.kb false<|.kb false<|.kb false<|.kb false<|.kb false<|.kb false<|.kb false<|.kb false<|.kb false<|.kb false<|.kb false<|.kb false<|.kb false<|.kb false<|.rt false)<|.kg 4<|.kg 4<|.kg 4<|.kg 4<|.kg 4<|.kg 4<|.kb false<|.kb false<|.kb false<|.kb false<|.kb false<|.kb false<|.kb false<|.kb false<|.kb false<|.kb false<|.kb false<|.kb false<|.kb false<|.kb false<|.kb false<|.kb false<|.kb false<|.kb false<|.kb false<|.kb false<|.kb false<|.kb false<|.kb false<|.kb false<|.rt false)<|.kg 3<|.kg 3<|.kg 3<|.kg 3<|.kg 3<|.kg 3<|.kb false<|.kb false<|.kb false<|.kb false<|.kb false<|.kb false<|.kb false<|.kb false<|.kb false<|.kb false<|.kb false<|.kb false<|.kb false<|.kb false<|.kb false<|.kb false<|.kb false<|.kb false<|.kb false<|.kb false<|.kb false<|.kb false<|.kb false<|.kb false<|.kb false<|.kb false<|.kb false<|.kb false<|.kb false<|.kb false<|.rt false)<|.kg 2<|.kg 2<|.kg 2<|.kg 2<|.kg 2<|.kg 2<|.kb false<|.kb false<|.kb false<|.kb false<|.kb false<|.kb false<|.kb false<|.kb false<|.kb false<|.kb false<|.kb false<|.kb false<|.kb false<|.kb false<|.kb false<|.kb false<|.kb false<|.kb false<|.kb false<|.kb false<|.kb false<|.kb false<|.kb false<|.kb false<|.kb false<|.kb false<|.kb false<|.kb false<|.kb false<|.kb false<|.kb false<|.kb false<|.kb false<|.kb false<|.kb false<|.kb false<|.rt false)<|.kg 1<|.kg 1<|.kg 1<|.kg 1<|.kg 1<|.kg 1<|.kb false<|.kb false<|.kb false<|.kb false<|.kb false<|.kb false<|.kb false<|.kb false<|.kb false<|.kb false<|.kb false<|.kb false<|.kb false<|.kb false<|.kb false<|.kb false<|.kb false<|.kb false<|.kb false<|.kb false<|.kb false<|.kb false<|.kb false<|.kb false<|.kb false<|.kb false<|.kb false<|.kb false<|.kb false<|.kb false<|.kb false<|.kb false<|.kb false<|.kb false<|.kb false<|.kb false<|.kb false<|.kb false<|.kb false<|.kb false<|.kb false<|.kb false<|.rt false
def Z12 (a0 : Zl) (a1 : Zl) : LT Zm7 Bool :=
.lb 1002<|.lb 1003<|.len Zy a0.Specs<|.len Zy a1.Specs<|.br ((a0.Specs.length : Int) != (a1.Specs.length : Int)) (.rt false)<|.go (.L0 a0 a1 0) [.relab 1002 30000000, .relab 1003 30000001]
def Z13 : LF Zm7 Bool := ⟨89, [.t 4], false, fun | .L0 .. => [1,1,0,1,4],
 fun | .L0 E0 E1 v5 => ⟨92, [(2, (.bptr 30000000 0)), (3, (.bptr 30000001 0)), (5, (wI v5))], [(30000000, .box (bx (Zah E0))), (30000001, .box (bx (Zah E1)))]⟩,
 fun r => [], fun r => (wB r), fun | .L0 E0 E1 v5 => Ziz E0 E1 v5⟩
def Zwo (a0 : Zl) (a1 : Zl) : Option Bool := Z13.run (Z12 a0 a1)
theorem Zzp (a0 : Zl) (a1 : Zl) {r : Bool} (h : Zwo a0 a1 = some r) : Fn PR 89 [(wA (Zah a0)), (wA (Zah a1))] (wB r) := Z13.fn h
def Zadd (a0 : Za) (a1 : Z4) : LT Empty Bool :=
.lb 1002<|.lb 1003<|.call (Zfp a1.Id 1 (IntKind.wrap .i64 (a0.NextId - 1))) fun x3=>.cs (!x3) (.kg 0<|.kg 0<|.kg 0<|.kg 0<|.kg 0<|.kb true<|.kb true<|.kb true<|.kb true<|.kb true<|.kb true<|.kb true<|.kb true<|.kb true<|.kb true<|.kb true<|.kn [0]<|.rt false)<|.kg 0<|.kg 0<|.kg 0<|.call (Zfp a1.X 0 1000000) fun x6=>.kg 0<|.kg 0<|.cs (!x6) (.kg 1<|.kg 1<|.kg 1<|.kg 1<|.kg 1<|.kb true<|.kb true<|.kb true<|.kb true<|.kb true<|.kb true<|.kn [0]<|.rt false)<|.kg 1<|.kg 1<|.kg 1<|.len Z1 a1.Targets<|.kg 1<|.kg 1<|.cs (decide ((a1.Targets.length : Int) > 4)) (.kg 2<|.kg 2<|.kg 2<|.kg 2<|.kg 2<|.kg 2<|.kn [0]<|.rt false)<|.kg 2<|.kg 2<|.kg 2<|.kg 2<|.call (Zhv a0 a1.Control) fun x11=>.kg 2<|.kg 2<|.br (!x11) (.rt false)<|.call (Z2r a0 a1.Id) fun x14=>.lb 1005<|.br (a1.Kind == 1) (.call (Zzp a1.Ability (⟨0, (⟨0, 0, 0, 0, 0, 0, 0, ([] : List UInt8), 0, 0, (⟨0, 0⟩ : Zc), (⟨0, 0⟩ : Zc), (⟨0, 0⟩ : Zc)⟩ : Zi), ([] : (List Zj)), (⟨(⟨0, 0, (⟨0, 0, 0, 0, 0⟩ : (A5 Int))⟩ : Zay), false, false, 0⟩ : Ze5), false, (⟨0, 0, (⟨0, 0, 0, 0, 0, 0, 0, ([] : List UInt8), 0, 0, (⟨0, 0⟩ : Zc), (⟨0, 0⟩ : Zc), (⟨0, 0⟩ : Zc)⟩ : Zi)⟩ : Zce), false, ([] : (List Zaz)), ([] : (List Zm)), (⟨0, 0, (⟨0, 0, 0, 0, 0, 0, 0, ([] : List UInt8), 0, 0, (⟨0, 0⟩ : Zc), (⟨0, 0⟩ : Zc), (⟨0, 0⟩ : Zc)⟩ : Zi), 0, 0, 0, 0⟩ : Za2)⟩ : Zl)) fun x17=>.cs (a1.Source == a1.Id) (.kg 5<|.kg 5<|.cs x14.2 (.kg 6<|.kg 6<|.kg 6<|.kg 6<|.cs (x14.1.Zone == 5) (.kg 7<|.kg 7<|.cs x17 (.kg 8<|.kg 8<|.kg 8<|.kg 7<|.kg 8<|.kg 7<|.rt true)<|.kg 8<|.kg 8<|.kg 8<|.call (Zx7 a1.Ability) fun x23=>.kg 7<|.kg 8<|.kg 7<|.rt x23)<|.kg 7<|.kg 7<|.kg 7<|.kg 7<|.rt false)<|.kg 6<|.kg 6<|.kg 6<|.kg 6<|.kb false<|.kb false<|.kb false<|.kb false<|.rt false)<|.kg 5<|.kg 5<|.kb false<|.kb false<|.kb false<|.kb false<|.kb false<|.kb false<|.kb false<|.kb false<|.rt false)<|.cs (a1.Kind == 2) (.kg 5<|.kg 5<|.kg 5<|.cs (!x14.2) (.kg 6<|.kg 6<|.kg 6<|.call (Zx7 a1.Ability) fun x27=>.kg 6<|.rt x27)<|.kg 6<|.kg 6<|.kg 6<|.kg 6<|.rt false)<|.kg 5<|.kg 5<|.kg 5<|.kb false<|.kb false<|.kb false<|.kb false<|.rt false
def Zade : LF Empty Bool := .z 103 [.t 4] false (fun r => []) (fun r => (wB r))
def Z92 (a0 : Za) (a1 : Z4) : Option Bool := Zade.run (Zadd a0 a1)
theorem Zant (a0 : Za) (a1 : Z4) {r : Bool} (h : Z92 a0 a1 = some r) : Fn PR 103 [(wA (Zr a0)), (wA (Zf a1))] (wB r) := Zade.fn h
inductive Zwp where
 | L0 (v0 : (List Int)) (v3 : Int)
def Z41 (v0 : (List Int)) (v3 : Int) : LT Zwp Bool :=
.len (cI .i64) v0<|.br (decide (v3 < (v0.length : Int))) (.idx (cI .i64) v0 (IntKind.wrap .i64 (v3 - 1)) fun x5=>.idx (cI .i64) v0 v3 fun x7=>.br (decide (x5 ≥ x7)) (.rt false)<|.g0 (.L0 v0 (IntKind.wrap .i64 (v3 + 1))))<|.rt true
def Zall (a0 : (List Int)) : LT Zwp Bool :=
.g0 (.L0 a0 1)
def Zalm : LF Zwp Bool := ⟨104, [.t 2], false, fun | .L0 .. => [1,0,1,4],
 fun | .L0 v0 v3 => ⟨20, [(0, (wL (cI .i64) v0)), (3, (wI v3))], []⟩,
 fun r => [], fun r => (wB r), fun | .L0 v0 v3 => Z41 v0 v3⟩
def Zaln (a0 : (List Int)) : Option Bool := Zalm.run (Zall a0)
theorem Zaq4 (a0 : (List Int)) {r : Bool} (h : Zaln a0 = some r) : Fn PR 104 [(wL (cI .i64) a0)] (wB r) := Zalm.fn h
inductive Zh5 where
 | L0 (E0 : Za) (v3 : Int)
 | L1 (E0 : Za) (v3 : Int) (v4 : Int)
 | L2 (E0 : Za) (v5 : Int)
 | L3 (E0 : Za) (v7 : Int)
def Zwq (E0 : Za) (v3 : Int) : LT Zh5 Bool :=
.len Zf E0.Stack<|.br (decide (v3 < (E0.Stack.length : Int))) (.idx Zf E0.Stack v3 fun x3=>.call (Zant E0 x3) fun x5=>.br (!x5) (.rt false)<|.g0 (.L1 E0 v3 0))<|.g0 (.L2 E0 0)
def Zwr (E0 : Za) (v3 : Int) (v4 : Int) : LT Zh5 Bool :=
.br (decide (v4 < v3)) (.idx Zf E0.Stack v4 fun x2=>.idx Zf E0.Stack v3 fun x4=>.br (x2.Id == x4.Id) (.rt false)<|.g0 (.L1 E0 v3 (IntKind.wrap .i64 (v4 + 1))))<|.g0 (.L0 E0 (IntKind.wrap .i64 (v3 + 1)))
def Zws (E0 : Za) (v5 : Int) : LT Zh5 Bool :=
.len Ze E0.Waiting<|.br (decide (v5 < (E0.Waiting.length : Int))) (.idx Ze E0.Waiting v5 fun x3=>.lb 1006<|.call (Zhv E0 x3.Control) fun x5=>.cs (!x5) (.kg 1<|.kg 1<|.kg 1<|.kg 1<|.kg 1<|.kb true<|.kb true<|.kb true<|.kb true<|.kb true<|.kn [0]<|.rt false)<|.kg 1<|.kg 1<|.kg 1<|.kg 1<|.kg 1<|.cs (x3.Ability.Kind != 4) (.kg 2<|.kg 2<|.kg 2<|.kg 2<|.kg 2<|.kn [0]<|.rt false)<|.kg 2<|.kg 2<|.kg 2<|.call (Zx7 x3.Ability) fun x9=>.kg 2<|.kg 2<|.br (!x9) (.rt false)<|.g0 (.L2 E0 (IntKind.wrap .i64 (v5 + 1))))<|.g0 (.L3 E0 0)
def Zwt (E0 : Za) (v7 : Int) : LT Zh5 Bool :=
.len Zk E0.Conts<|.br (decide (v7 < (E0.Conts.length : Int))) (.idx Zk E0.Conts v7 fun x3=>.lb 1008<|.call (Zhv E0 x3.Control) fun x5=>.cs (!x5) (.kg 1<|.kg 1<|.kg 1<|.kg 1<|.kg 1<|.kg 1<|.kb true<|.kb true<|.kb true<|.kb true<|.kb true<|.kb true<|.kb true<|.kb true<|.kb true<|.kb true<|.kb true<|.kb true<|.kb true<|.kb true<|.kb true<|.kn [0]<|.rt false)<|.kg 1<|.kg 1<|.kg 1<|.kg 1<|.kg 1<|.kg 1<|.cs (decide (x3.Stamp ≥ E0.NextStamp)) (.kg 2<|.kg 2<|.kg 2<|.kg 2<|.kg 2<|.kb true<|.kb true<|.kb true<|.kb true<|.kb true<|.kb true<|.kb true<|.kb true<|.kb true<|.kb true<|.kn [0]<|.rt false)<|.kg 2<|.kg 2<|.kg 2<|.call (Zfp x3.Until 1 2) fun x9=>.kg 2<|.kg 2<|.cs (!x9) (.kg 3<|.kg 3<|.kg 3<|.kg 3<|.kg 3<|.kb true<|.kb true<|.kb true<|.kb true<|.kb true<|.kn [0]<|.rt false)<|.kg 3<|.kg 3<|.kg 3<|.call (Zaq4 x3.Objects) fun x12=>.kg 3<|.kg 3<|.cs (!x12) (.kg 4<|.kg 4<|.kg 4<|.kg 4<|.kg 4<|.kn [0]<|.rt false)<|.kg 4<|.kg 4<|.kg 4<|.call (Zp8 x3.Mods) fun x15=>.kg 4<|.kg 4<|.br (x15 == ([] : List UInt8)) (.rt false)<|.g0 (.L3 E0 (IntKind.wrap .i64 (v7 + 1))))<|.rt true
def Z8d (a0 : Za) : LT Zh5 Bool :=
.lb 1001<|.len Zf a0.Stack<|.cs (decide ((a0.Stack.length : Int) > 64)) (.kg 0<|.kg 0<|.kg 0<|.kg 0<|.kg 0<|.kb true<|.kb true<|.kb true<|.kb true<|.kb true<|.kn [0]<|.rt false)<|.kg 0<|.kg 0<|.kg 0<|.len Ze a0.Waiting<|.kg 0<|.kg 0<|.cs (decide ((a0.Waiting.length : Int) > 64)) (.kg 1<|.kg 1<|.kg 1<|.kg 1<|.kg 1<|.kn [0]<|.rt false)<|.kg 1<|.kg 1<|.kg 1<|.len Zk a0.Conts<|.kg 1<|.kg 1<|.br (decide ((a0.Conts.length : Int) > 64)) (.rt false)<|.go (.L0 a0 0) [.relab 1001 30000000]
def Z8e : LF Zh5 Bool := ⟨81, [.t 2], false, fun | .L0 .. => [1,1,0,1,4] | .L1 .. => [1,1,0,1,4,5,1,0,4,1,1,4] | .L2 .. => [1,1,1,0,1,4] | .L3 .. => [1,1,1,1,0,1,4],
 fun | .L0 E0 v3 => ⟨129, [(1, (.bptr 30000000 0)), (3, (wI v3))], [(30000000, .box (bx (Zr E0)))]⟩ | .L1 E0 v3 v4 => ⟨129, [(1, (.bptr 30000000 0)), (3, (wI v3)), (4, (wI v4))], [(30000000, .box (bx (Zr E0)))]⟩ | .L2 E0 v5 => ⟨129, [(1, (.bptr 30000000 0)), (5, (wI v5))], [(30000000, .box (bx (Zr E0)))]⟩ | .L3 E0 v7 => ⟨129, [(1, (.bptr 30000000 0)), (7, (wI v7))], [(30000000, .box (bx (Zr E0)))]⟩,
 fun r => [], fun r => (wB r), fun | .L0 E0 v3 => Zwq E0 v3 | .L1 E0 v3 v4 => Zwr E0 v3 v4 | .L2 E0 v5 => Zws E0 v5 | .L3 E0 v7 => Zwt E0 v7⟩
def Zx9 (a0 : Za) : Option Bool := Z8e.run (Z8d a0)
theorem Zqd (a0 : Za) {r : Bool} (h : Zx9 a0 = some r) : Fn PR 81 [(wA (Zr a0))] (wB r) := Z8e.fn h
inductive Zo6 where
 | L0 (v0 : (List Zs)) (E0 : Za) (v5 : Int)
def Zs2 (v0 : (List Zs)) (E0 : Za) (v5 : Int) : LT Zo6 Bool :=
.len (cI .i64) E0.Extra<|.br (decide (v5 < (E0.Extra.length : Int))) (.idx (cI .i64) E0.Extra v5 fun x3=>.call (Zhv E0 x3) fun x5=>.br (!x5) (.rt false)<|.g0 (.L0 v0 E0 (IntKind.wrap .i64 (v5 + 1))))<|.cs (E0.Over == 1) (.kg 1<|.kg 1<|.kg 1<|.kg 1<|.call (Zhv E0 E0.Winner) fun x11=>.kg 1<|.kg 1<|.cs (!x11) (.kg 2<|.kg 2<|.kg 2<|.kg 2<|.kg 2<|.kg 2<|.kn [0]<|.rt false)<|.kg 2<|.kg 2<|.kg 2<|.kg 2<|.cs (E0.Over != 1) (.kg 3<|.kg 3<|.kg 3<|.kg 2<|.kg 3<|.kg 2<|.br (E0.Winner != (-1)) (.rt false)<|.call (Zm4 v0 E0) fun x16=>.cs x16 (.kg 5<|.kg 5<|.call (Zqd E0) fun x19=>.kg 5<|.rt x19)<|.kg 5<|.kg 5<|.kg 5<|.rt false)<|.kg 3<|.kg 3<|.kg 3<|.kg 2<|.kg 3<|.kg 2<|.kn [0]<|.call (Zm4 v0 E0) fun x21=>.cs x21 (.kg 4<|.kg 4<|.call (Zqd E0) fun x24=>.kg 4<|.rt x24)<|.kg 4<|.kg 4<|.kg 4<|.rt false)<|.kg 1<|.kg 1<|.kg 1<|.kg 1<|.kg 1<|.kg 1<|.kb false<|.kb false<|.kb false<|.kb false<|.cs (E0.Over != 1) (.kg 2<|.kg 2<|.kg 2<|.kb false<|.kg 2<|.kb false<|.br (E0.Winner != (-1)) (.rt false)<|.call (Zm4 v0 E0) fun x28=>.cs x28 (.kg 4<|.kg 4<|.call (Zqd E0) fun x31=>.kg 4<|.rt x31)<|.kg 4<|.kg 4<|.kg 4<|.rt false)<|.kg 2<|.kg 2<|.kg 2<|.kb false<|.kg 2<|.kb false<|.kn [0]<|.call (Zm4 v0 E0) fun x33=>.cs x33 (.kg 3<|.kg 3<|.call (Zqd E0) fun x36=>.kg 3<|.rt x36)<|.kg 3<|.kg 3<|.kg 3<|.rt false
def Z93 (a0 : (List Zs)) (a1 : Za) : LT Zo6 Bool :=
.lb 1003<|.call (Zfp a1.NextId 1 1000000) fun x1=>.cs (!x1) (.kg 0<|.kg 0<|.kg 0<|.kg 0<|.kg 0<|.kb true<|.kb true<|.kb true<|.kb true<|.kb true<|.kb true<|.kb true<|.kb true<|.kb true<|.kb true<|.kb true<|.kb true<|.kb true<|.kb true<|.kb true<|.kn [0]<|.rt false)<|.kg 0<|.kg 0<|.kg 0<|.call (Zfp a1.NextStamp 1 1000000) fun x4=>.kg 0<|.kg 0<|.cs (!x4) (.kg 1<|.kg 1<|.kg 1<|.kg 1<|.kg 1<|.kb true<|.kb true<|.kb true<|.kb true<|.kb true<|.kb true<|.kb true<|.kb true<|.kb true<|.kb true<|.kn [0]<|.rt false)<|.kg 1<|.kg 1<|.kg 1<|.call (Zfp a1.Turn 0 500) fun x7=>.kg 1<|.kg 1<|.cs (!x7) (.kg 2<|.kg 2<|.kg 2<|.kg 2<|.kg 2<|.kb true<|.kb true<|.kb true<|.kb true<|.kb true<|.kn [0]<|.rt false)<|.kg 2<|.kg 2<|.kg 2<|.call (Zfp a1.Step 0 10) fun x10=>.kg 2<|.kg 2<|.cs (!x10) (.kg 3<|.kg 3<|.kg 3<|.kg 3<|.kg 3<|.kn [0]<|.rt false)<|.kg 3<|.kg 3<|.kg 3<|.len Zb a1.Objects<|.kg 3<|.kg 3<|.br (decide ((a1.Objects.length : Int) > 2048)) (.rt false)<|.call (Zafo a1) fun x15=>.cs (!x15) (.kg 5<|.kg 5<|.kg 5<|.kg 5<|.kg 5<|.kg 5<|.kb true<|.kb true<|.kb true<|.kb true<|.kb true<|.kb true<|.kb true<|.kb true<|.kb true<|.kb true<|.kb true<|.kb true<|.kb true<|.kb true<|.kb true<|.kb true<|.kb true<|.kb true<|.kb true<|.kb true<|.kb true<|.kb true<|.kb true<|.kb true<|.kn [0]<|.rt false)<|.kg 5<|.kg 5<|.kg 5<|.kg 5<|.call (Zhv a1 a1.Active) fun x18=>.kg 5<|.kg 5<|.cs (!x18) (.kg 6<|.kg 6<|.kg 6<|.kg 6<|.kg 6<|.kg 6<|.kb true<|.kb true<|.kb true<|.kb true<|.kb true<|.kb true<|.kb true<|.kb true<|.kb true<|.kb true<|.kb true<|.kb true<|.kb true<|.kb true<|.kb true<|.kb true<|.kb true<|.kb true<|.kn [0]<|.rt false)<|.kg 6<|.kg 6<|.kg 6<|.kg 6<|.call (Zhv a1 a1.Priority) fun x21=>.kg 6<|.kg 6<|.cs (!x21) (.kg 7<|.kg 7<|.kg 7<|.kg 7<|.kg 7<|.kg 7<|.kg 7<|.kg 7<|.kb true<|.kb true<|.kb true<|.kb true<|.kb true<|.kb true<|.kb true<|.kb true<|.kb true<|.kb true<|.kn [0]<|.rt false)<|.kg 7<|.kg 7<|.kg 7<|.kg 7<|.kg 7<|.len Zd a1.Players<|.kg 7<|.call (Zfp a1.Passes 0 (a1.Players.length : Int)) fun x25=>.kg 7<|.kg 7<|.cs (!x25) (.kg 8<|.kg 8<|.kg 8<|.kg 8<|.kg 8<|.kb true<|.kb true<|.kb true<|.kb true<|.kb true<|.kn [0]<|.rt false)<|.kg 8<|.kg 8<|.kg 8<|.len (cI .i64) a1.Extra<|.kg 8<|.kg 8<|.cs (decide ((a1.Extra.length : Int) > 500)) (.kg 9<|.kg 9<|.kg 9<|.kg 9<|.kg 9<|.kn [0]<|.rt false)<|.kg 9<|.kg 9<|.kg 9<|.call (Zfp a1.Over 0 2) fun x30=>.kg 9<|.kg 9<|.br (!x30) (.rt false)<|.go (.L0 a0 a1 0) [.relab 1003 30000000]
def Z94 : LF Zo6 Bool := ⟨50, [.t 4], false, fun | .L0 .. => [1,1,1,0,1,4],
 fun | .L0 v0 E0 v5 => ⟨114, [(0, (wL Zaa v0)), (3, (.bptr 30000000 0)), (5, (wI v5))], [(30000000, .box (bx (Zr E0)))]⟩,
 fun r => [], fun r => (wB r), fun | .L0 v0 E0 v5 => Zs2 v0 E0 v5⟩
def Zwu (a0 : (List Zs)) (a1 : Za) : Option Bool := Z94.run (Z93 a0 a1)
theorem Zaq5 (a0 : (List Zs)) (a1 : Za) {r : Bool} (h : Zwu a0 a1 = some r) : Fn PR 50 [(wL Zaa a0), (wA (Zr a1))] (wB r) := Z94.fn h
inductive Zn4 where
 | L0 (v0 : (List Zs)) (E0 : Za) (v5 : Int)
def Zl2 (v0 : (List Zs)) (E0 : Za) (v5 : Int) : LT Zn4 Bool :=
.len Zd E0.Players<|.br (decide (v5 < (E0.Players.length : Int))) (.idx Zd E0.Players v5 fun x3=>.len (cI .i64) x3.Library<|.ag Zd x3 0<|.len (cI .i64) x3.Hand<|.ag Zd x3 0<|.len (cI .i64) x3.Graveyard<|.br (decide ((IntKind.wrap .i64 ((IntKind.wrap .i64 ((x3.Library.length : Int) + (x3.Hand.length : Int))) + (x3.Graveyard.length : Int))) > 60)) (.rt false)<|.g0 (.L0 v0 E0 (IntKind.wrap .i64 (v5 + 1))))<|.call (Zak7 v0) fun x15=>.cs (x15.2 == 0) (.kg 1<|.kg 1<|.kg 1<|.call (Zaq5 v0 E0) fun x18=>.kg 1<|.rt x18)<|.kg 1<|.kg 1<|.kg 1<|.kg 1<|.rt false
def Zzq (a0 : (List Zs)) (a1 : Za) : LT Zn4 Bool :=
.lb 1003<|.len Zaa a0<|.cs (decide ((a0.length : Int) > 12)) (.kg 0<|.kg 0<|.kg 0<|.kg 0<|.kg 0<|.kb true<|.kb true<|.kb true<|.kb true<|.kb true<|.kb true<|.kb true<|.kb true<|.kb true<|.kb true<|.kb true<|.kb true<|.kb true<|.kb true<|.kb true<|.kb true<|.kb true<|.kb true<|.kb true<|.kb true<|.kb true<|.kb true<|.kb true<|.kb true<|.kb true<|.kb true<|.kb true<|.kb true<|.kb true<|.kb true<|.kb true<|.kb true<|.kb true<|.kb true<|.kb true<|.kn [0]<|.rt false)<|.kg 0<|.kg 0<|.kg 0<|.len Zd a1.Players<|.kg 0<|.kg 0<|.cs (decide ((a1.Players.length : Int) > 4)) (.kg 1<|.kg 1<|.kg 1<|.kg 1<|.kg 1<|.kb true<|.kb true<|.kb true<|.kb true<|.kb true<|.kb true<|.kb true<|.kb true<|.kb true<|.kb true<|.kb true<|.kb true<|.kb true<|.kb true<|.kb true<|.kb true<|.kb true<|.kb true<|.kb true<|.kb true<|.kb true<|.kb true<|.kb true<|.kb true<|.kb true<|.kb true<|.kb true<|.kb true<|.kb true<|.kb true<|.kn [0]<|.rt false)<|.kg 1<|.kg 1<|.kg 1<|.len Zb a1.Objects<|.kg 1<|.kg 1<|.cs (decide ((a1.Objects.length : Int) > 60)) (.kg 2<|.kg 2<|.kg 2<|.kg 2<|.kg 2<|.kb true<|.kb true<|.kb true<|.kb true<|.kb true<|.kb true<|.kb true<|.kb true<|.kb true<|.kb true<|.kb true<|.kb true<|.kb true<|.kb true<|.kb true<|.kb true<|.kb true<|.kb true<|.kb true<|.kb true<|.kb true<|.kb true<|.kb true<|.kb true<|.kb true<|.kn [0]<|.rt false)<|.kg 2<|.kg 2<|.kg 2<|.len (cI .i64) a1.Battlefield<|.kg 2<|.kg 2<|.cs (decide ((a1.Battlefield.length : Int) > 60)) (.kg 3<|.kg 3<|.kg 3<|.kg 3<|.kg 3<|.kb true<|.kb true<|.kb true<|.kb true<|.kb true<|.kb true<|.kb true<|.kb true<|.kb true<|.kb true<|.kb true<|.kb true<|.kb true<|.kb true<|.kb true<|.kb true<|.kb true<|.kb true<|.kb true<|.kb true<|.kn [0]<|.rt false)<|.kg 3<|.kg 3<|.kg 3<|.len (cI .i64) a1.Exile<|.kg 3<|.kg 3<|.cs (decide ((a1.Exile.length : Int) > 60)) (.kg 4<|.kg 4<|.kg 4<|.kg 4<|.kg 4<|.kb true<|.kb true<|.kb true<|.kb true<|.kb true<|.kb true<|.kb true<|.kb true<|.kb true<|.kb true<|.kb true<|.kb true<|.kb true<|.kb true<|.kb true<|.kn [0]<|.rt false)<|.kg 4<|.kg 4<|.kg 4<|.len Zf a1.Stack<|.kg 4<|.kg 4<|.cs (decide ((a1.Stack.length : Int) > 8)) (.kg 5<|.kg 5<|.kg 5<|.kg 5<|.kg 5<|.kb true<|.kb true<|.kb true<|.kb true<|.kb true<|.kb true<|.kb true<|.kb true<|.kb true<|.kb true<|.kn [0]<|.rt false)<|.kg 5<|.kg 5<|.kg 5<|.len Ze a1.Waiting<|.kg 5<|.kg 5<|.cs (decide ((a1.Waiting.length : Int) > 8)) (.kg 6<|.kg 6<|.kg 6<|.kg 6<|.kg 6<|.kb true<|.kb true<|.kb true<|.kb true<|.kb true<|.kn [0]<|.rt false)<|.kg 6<|.kg 6<|.kg 6<|.len Zk a1.Conts<|.kg 6<|.kg 6<|.cs (decide ((a1.Conts.length : Int) > 8)) (.kg 7<|.kg 7<|.kg 7<|.kg 7<|.kg 7<|.kn [0]<|.rt false)<|.kg 7<|.kg 7<|.kg 7<|.len (cI .i64) a1.Extra<|.kg 7<|.kg 7<|.br (decide ((a1.Extra.length : Int) > 20)) (.rt false)<|.go (.L0 a0 a1 0) [.relab 1003 30000000]
def Zzr : LF Zn4 Bool := ⟨20, [.t 4], false, fun | .L0 .. => [1,1,0,1,4],
 fun | .L0 v0 E0 v5 => ⟨102, [(0, (wL Zaa v0)), (3, (.bptr 30000000 0)), (5, (wI v5))], [(30000000, .box (bx (Zr E0)))]⟩,
 fun r => [], fun r => (wB r), fun | .L0 v0 E0 v5 => Zl2 v0 E0 v5⟩
def Zya (a0 : (List Zs)) (a1 : Za) : Option Bool := Zzr.run (Zzq a0 a1)
theorem Zalo (a0 : (List Zs)) (a1 : Za) {r : Bool} (h : Zya a0 a1 = some r) : Fn PR 20 [(wL Zaa a0), (wA (Zr a1))] (wB r) := Zzr.fn h
def Z42 (a0 : Z0) : LT Empty Bool :=
.lb 1001<|.call (Zalo a0.Cards a0.State) fun x1=>.cs x1 (.kg 0<|.kg 0<|.kg 0<|.kg 0<|.len Zq a0.Pending.Options<|.kg 0<|.kg 0<|.rt (decide ((a0.Pending.Options.length : Int) ≤ 100)))<|.kg 0<|.kg 0<|.kg 0<|.kg 0<|.kg 0<|.kg 0<|.rt false
def Zagv : LF Empty Bool := .z 8 [.t 2] false (fun r => []) (fun r => (wB r))
def Z0u (a0 : Z0) : Option Bool := Zagv.run (Z42 a0)
theorem Zapf (a0 : Z0) {r : Bool} (h : Z0u a0 = some r) : Fn PR 8 [(wA (Zdm a0))] (wB r) := Zagv.fn h
inductive Zzs where
 | L0 (E0 : Z0) (E1 : Za) (v2 : (List Int)) (v3 : Int)
def Zalp (E0 : Z0) (E1 : Za) (v2 : (List Int)) (v3 : Int) : LT Zzs Z0 :=
.br (decide (v3 < 3)) (.dc ((2 : Int) ≠ 0) rfl<|.dc ((2 : Int) ≠ 0) rfl<|.idx (cI .i64) v2 v3 fun x4=>.dr [.lit]<|.apR Zb 128 E1.Objects [(⟨IntKind.wrap .i64 (v3 + 1), 0, Int.tmod v3 2, Int.tmod v3 2, x4, false, false, false, false, 0, (⟨0, 0, 0⟩ : (A3 Int)), 0, (-1), (-1), false, 0, 0⟩ : Zh)] fun x7=>.g0 (.L0 E0 (⟨E1.Players, x7, E1.Battlefield, E1.Exile, E1.Stack, E1.Waiting, E1.Conts, E1.Turn, E1.Active, E1.Step, E1.Begun, E1.Priority, E1.Passes, E1.NextId, E1.NextStamp, E1.Seed, E1.Extra, E1.Over, E1.Winner⟩ : Za) v2 (IntKind.wrap .i64 (v3 + 1))))<|.dr [.lit]<|.dr [.lit]<|.ret (⟨[(⟨([111, 97, 107] : List UInt8), false, (⟨0, 0, (⟨0, 0, 0, 0, 0⟩ : (A5 Int))⟩ : Zay), 0, (⟨0, 8, ([] : (List (List UInt8)))⟩ : Zg4), 0, 0, 0, ([] : (List Zl))⟩ : Zs)], E1, ([] : (List (List Int))), (⟨3, 0, 0, 0, 1, 0, [(⟨5, 3, 0⟩ : Z7)]⟩ : Za9), 0, ([] : (List Za))⟩ : Z0) [.relab 40000101 5002, .relab 40000102 5003, .relab 40000103 5004, .relab 40000104 5005, .relab 40000105 5006, .relab 40000106 5007, .relab 40000116 5017, .niltb 30000000 20, .niltb 30000000 29]
def Z8f : LT Zzs Z0 :=
.lb 1000<|.dr [.lit]<|.dr [.lit]<|.dr [.lit]<|.dr [.lit]<|.lb 1001<|.dr [.lit]<|.go (.L0 (⟨([] : (List Zs)), (⟨([] : (List Zv)), ([] : (List Zh)), ([] : (List Int)), ([] : (List Int)), ([] : (List Z4)), ([] : (List Zz)), ([] : (List Zaf)), 0, 0, 0, false, 0, 0, 0, 0, 0, ([] : (List Int)), 0, 0⟩ : Za), ([] : (List (List Int))), (⟨0, 0, 0, 0, 0, 0, ([] : (List Z7))⟩ : Za9), 0, ([] : (List Za))⟩ : Z0) (⟨[(⟨20, 0, 0, (⟨0, 0, 0, 0, 0, 0⟩ : (A6 Int)), false, false, [3], [1], ([] : (List Int))⟩ : Zv), (⟨18, 0, 0, (⟨0, 0, 0, 0, 0, 0⟩ : (A6 Int)), false, false, ([] : (List Int)), [2], ([] : (List Int))⟩ : Zv)], ([] : (List Zh)), ([] : (List Int)), ([] : (List Int)), ([] : (List Z4)), ([] : (List Zz)), ([] : (List Zaf)), 1, 0, 3, false, 0, 0, 4, 1, 0, ([] : (List Int)), 0, (-1)⟩ : Za) [1, 1, 2] 0) [.relab 1000 30000000, .relab 1001 30000001, .ownb 30000000 0 40000000 17, .ownb 30000000 1 40000001 14, .ownb 30000000 2 40000002 19, .ownb 30000000 3 40000003 1, .ownb 30000000 4 40000004 1, .ownb 30000000 5 40000005 94, .ownb 30000000 6 40000006 89, .ownb 30000000 7 40000007 6, .ownb 30000000 17 40000017 1, .ownb 30000000 20 40000020 1, .ownb 30000000 27 40000027 3, .ownb 30000000 29 40000029 19, .ownb 30000001 1 40000101 19, .ownb 30000001 2 40000102 1, .ownb 30000001 3 40000103 1, .ownb 30000001 4 40000104 94, .ownb 30000001 5 40000105 89, .ownb 30000001 6 40000106 6, .ownb 30000001 16 40000116 1]
def Z8g : LF Zzs Z0 := ⟨21, [.c 0 38 true 30], true, fun | .L0 .. => [1,1,1,0,1,4],
 fun | .L0 E0 E1 v2 v3 => ⟨40, [(0, (.bptr 30000000 0)), (1, (.bptr 30000001 0)), (2, (wL (cI .i64) v2)), (3, (wI v3))], [(30000000, .box [(wO Zaa 40000000 E0.Cards), (wO Zd 40000001 E0.State.Players), (wO Zb 40000002 E0.State.Objects), (wO (cI .i64) 40000003 E0.State.Battlefield), (wO (cI .i64) 40000004 E0.State.Exile), (wO Zf 40000005 E0.State.Stack), (wO Ze 40000006 E0.State.Waiting), (wO Zk 40000007 E0.State.Conts), (wI E0.State.Turn), (wI E0.State.Active), (wI E0.State.Step), (wB E0.State.Begun), (wI E0.State.Priority), (wI E0.State.Passes), (wI E0.State.NextId), (wI E0.State.NextStamp), (.t (.int .u64 E0.State.Seed)), (wO (cI .i64) 40000017 E0.State.Extra), (wI E0.State.Over), (wI E0.State.Winner), (wO (cL (cI .i64)) 40000020 E0.Answers), (wI E0.Pending.Kind), (wI E0.Pending.Player), (wI E0.Pending.Source), (wI E0.Pending.Least), (wI E0.Pending.Most), (wI E0.Pending.N), (wO Zq 40000027 E0.Pending.Options), (wI E0.Forced), (wO Zr 40000029 E0.Seen)]), (40000000, wR Zaa 17 E0.Cards), (40000001, wR Zd 14 E0.State.Players), (40000002, wR Zb 19 E0.State.Objects), (40000003, wR (cI .i64) 1 E0.State.Battlefield), (40000004, wR (cI .i64) 1 E0.State.Exile), (40000005, wR Zf 94 E0.State.Stack), (40000006, wR Ze 89 E0.State.Waiting), (40000007, wR Zk 6 E0.State.Conts), (40000017, wR (cI .i64) 1 E0.State.Extra), (40000020, wR (cL (cI .i64)) 1 E0.Answers), (40000027, wR Zq 3 E0.Pending.Options), (40000029, wR Zr 19 E0.Seen), (30000001, .box [(wL Zd E1.Players), (wO Zb 40000101 E1.Objects), (wO (cI .i64) 40000102 E1.Battlefield), (wO (cI .i64) 40000103 E1.Exile), (wO Zf 40000104 E1.Stack), (wO Ze 40000105 E1.Waiting), (wO Zk 40000106 E1.Conts), (wI E1.Turn), (wI E1.Active), (wI E1.Step), (wB E1.Begun), (wI E1.Priority), (wI E1.Passes), (wI E1.NextId), (wI E1.NextStamp), (.t (.int .u64 E1.Seed)), (wO (cI .i64) 40000116 E1.Extra), (wI E1.Over), (wI E1.Winner)]), (40000101, wR Zb 19 E1.Objects), (40000102, wR (cI .i64) 1 E1.Battlefield), (40000103, wR (cI .i64) 1 E1.Exile), (40000104, wR Zf 94 E1.Stack), (40000105, wR Ze 89 E1.Waiting), (40000106, wR Zk 6 E1.Conts), (40000116, wR (cI .i64) 1 E1.Extra)]⟩,
 fun r => [(5002, wR Zb 19 r.State.Objects), (5003, wR (cI .i64) 1 r.State.Battlefield), (5004, wR (cI .i64) 1 r.State.Exile), (5005, wR Zf 94 r.State.Stack), (5006, wR Ze 89 r.State.Waiting), (5007, wR Zk 6 r.State.Conts), (5017, wR (cI .i64) 1 r.State.Extra)], fun r => (.agg [(wL Zaa r.Cards), (wL Zd r.State.Players), (wO Zb 5002 r.State.Objects), (wO (cI .i64) 5003 r.State.Battlefield), (wO (cI .i64) 5004 r.State.Exile), (wO Zf 5005 r.State.Stack), (wO Ze 5006 r.State.Waiting), (wO Zk 5007 r.State.Conts), (wI r.State.Turn), (wI r.State.Active), (wI r.State.Step), (wB r.State.Begun), (wI r.State.Priority), (wI r.State.Passes), (wI r.State.NextId), (wI r.State.NextStamp), (.t (.int .u64 r.State.Seed)), (wO (cI .i64) 5017 r.State.Extra), (wI r.State.Over), (wI r.State.Winner), (wL (cL (cI .i64)) r.Answers), (wI r.Pending.Kind), (wI r.Pending.Player), (wI r.Pending.Source), (wI r.Pending.Least), (wI r.Pending.Most), (wI r.Pending.N), (wL Zq r.Pending.Options), (wI r.Forced), (wL Zr r.Seen)]), fun | .L0 E0 E1 v2 v3 => Zalp E0 E1 v2 v3⟩
def Zyb : Option Z0 := Z8g.run (Z8f)
theorem Zahc {r : Z0} (h : Zyb = some r) : FnG PR 21 [] [] [(5002, wR Zb 19 r.State.Objects), (5003, wR (cI .i64) 1 r.State.Battlefield), (5004, wR (cI .i64) 1 r.State.Exile), (5005, wR Zf 94 r.State.Stack), (5006, wR Ze 89 r.State.Waiting), (5007, wR Zk 6 r.State.Conts), (5017, wR (cI .i64) 1 r.State.Extra)] (.agg [(wL Zaa r.Cards), (wL Zd r.State.Players), (wO Zb 5002 r.State.Objects), (wO (cI .i64) 5003 r.State.Battlefield), (wO (cI .i64) 5004 r.State.Exile), (wO Zf 5005 r.State.Stack), (wO Ze 5006 r.State.Waiting), (wO Zk 5007 r.State.Conts), (wI r.State.Turn), (wI r.State.Active), (wI r.State.Step), (wB r.State.Begun), (wI r.State.Priority), (wI r.State.Passes), (wI r.State.NextId), (wI r.State.NextStamp), (.t (.int .u64 r.State.Seed)), (wO (cI .i64) 5017 r.State.Extra), (wI r.State.Over), (wI r.State.Winner), (wL (cL (cI .i64)) r.Answers), (wI r.Pending.Kind), (wI r.Pending.Player), (wI r.Pending.Source), (wI r.Pending.Least), (wI r.Pending.Most), (wI r.Pending.N), (wL Zq r.Pending.Options), (wI r.Forced), (wL Zr r.Seen)]) := Z8g.fn h
theorem Zalq {r : Z0} (h : Zyb = some r) : Fn PR 21 [] (wA (Zdm r)) :=
 FnG.frozen (C := LT.RL Zb r.State.Objects ∧ LT.RL (cI .i64) r.State.Battlefield ∧ LT.RL (cI .i64) r.State.Exile ∧ LT.RL Zf r.State.Stack ∧ LT.RL Ze r.State.Waiting ∧ LT.RL Zk r.State.Conts ∧ LT.RL (cI .i64) r.State.Extra ∧ True) (Zahc h) ⟨rfl, rfl, rfl, rfl, rfl, rfl, rfl, trivial⟩ (by kernel_rfl)
def Zeh (a0 : (List Zv)) (hne : a0 ≠ []) : LT Empty (List Zv) :=
.ne Zd hne<|.kn [0]<|.lb 1005<|.apR Zd 152 ([] : (List Zv)) a0 fun x1=>.ret x1 [.relab 1005 5000]
def Zbk : LF Empty (List Zv) := .z 59 [.t 2] true (fun r => [(5000, wR Zd 14 r)]) (fun r => (wO Zd 5000 r))
def Zeb (c : Nat) : LT Empty (List Zv) :=
.kn [0]<|.ret ([] : (List Zv)) [.own 2 5000 14]
def Zj3 (c : Nat) (ad : Addr) : LT Empty (List Zv) :=
.kn [0]<|.lb 1005<|.apR Zd 152 ([] : (List Zv)) ([] : (List Zv)) fun x1=>.ret x1 [.relab 1005 5000]
open Classical in
def Zdd (a0 : (List Zv)) : Option (List Zv) := if h : a0 ≠ [] then Zbk.run (Zeh a0 h) else Zbk.run (Zeb 0)
theorem Zjn (a0 : (List Zv)) {r : (List Zv)} (h : Zdd a0 = some r) : FnG PR 59 [] [(wL Zd a0)] [(5000, wR Zd 14 r)] (wO Zd 5000 r) := by
 by_cases hne : a0 = []
 ·subst hne
  have h0 : Zbk.run (Zeb 0) = some r := h
  exact FnG.split0 (fun e => absurd rfl e) (fun _ a c => by
   cases a with
   | none => exact Zbk.fn (t := Zeb c) h0
   | some ad => exact Zbk.fn (t := Zj3 c ad) h0)
 ·have h0 : Zbk.run (Zeh a0 hne) = some r := by unfold Zdd at h; rwa [dif_pos hne] at h
  exact FnG.split0 (fun _ => Zbk.fn h0) (fun e => absurd (by simpa using e) hne)
def Zh1 (a0 : (List Int)) (hne : a0 ≠ []) : LT Empty (List Int) :=
.ne (cI .i64) hne<|.kn [0]<|.lb 1005<|.apR (cI .i64) 8 ([] : (List Int)) a0 fun x1=>.ret x1 [.relab 1005 5000]
def Zcx : LF Empty (List Int) := .z 62 [.t 2] true (fun r => [(5000, wR (cI .i64) 1 r)]) (fun r => (wO (cI .i64) 5000 r))
def Zhw (c : Nat) : LT Empty (List Int) :=
.kn [0]<|.ret ([] : (List Int)) [.own 2 5000 1]
def Ztr (c : Nat) (ad : Addr) : LT Empty (List Int) :=
.kn [0]<|.lb 1005<|.apR (cI .i64) 8 ([] : (List Int)) ([] : (List Int)) fun x1=>.ret x1 [.relab 1005 5000]
open Classical in
def Zfj (a0 : (List Int)) : Option (List Int) := if h : a0 ≠ [] then Zcx.run (Zh1 a0 h) else Zcx.run (Zhw 0)
theorem Zcn (a0 : (List Int)) {r : (List Int)} (h : Zfj a0 = some r) : FnG PR 62 [] [(wL (cI .i64) a0)] [(5000, wR (cI .i64) 1 r)] (wO (cI .i64) 5000 r) := by
 by_cases hne : a0 = []
 ·subst hne
  have h0 : Zcx.run (Zhw 0) = some r := h
  exact FnG.split0 (fun e => absurd rfl e) (fun _ a c => by
   cases a with
   | none => exact Zcx.fn (t := Zhw c) h0
   | some ad => exact Zcx.fn (t := Ztr c ad) h0)
 ·have h0 : Zcx.run (Zh1 a0 hne) = some r := by unfold Zfj at h; rwa [dif_pos hne] at h
  exact FnG.split0 (fun _ => Zcx.fn h0) (fun e => absurd (by simpa using e) hne)
theorem Zts (a0 : (List Int)) {r : (List Int)} (h : Zfj a0 = some r) : Fn PR 62 [(wL (cI .i64) a0)] (wL (cI .i64) r) :=
 FnG.frozen (C := LT.RL (cI .i64) r ∧ True) (Zcn a0 h) ⟨rfl, trivial⟩ (by kernel_rfl)
def Zur (a0 : Zv) : LT Empty Zv :=
.lb 1001<|.lb 1002<|.callF (Zcn a0.Library) 60000 fun x1=>.callF (Zcn a0.Hand) 100000 fun x3=>.callF (Zcn a0.Graveyard) 140000 fun x5=>.ret (⟨a0.Life, a0.Venom, a0.Lands, a0.Pool, a0.Failed, a0.Lost, x1, x3, x5⟩ : Zv) [.relab 65000 5011, .relab 105000 5012, .relab 145000 5013]
def Zus : LF Empty Zv := .z 60 [.c 2 59 true 14] true (fun r => [(5011, wR (cI .i64) 1 r.Library), (5012, wR (cI .i64) 1 r.Hand), (5013, wR (cI .i64) 1 r.Graveyard)]) (fun r => (.agg [(wI r.Life), (wI r.Venom), (wI r.Lands), (wI r.Pool.a0), (wI r.Pool.a1), (wI r.Pool.a2), (wI r.Pool.a3), (wI r.Pool.a4), (wI r.Pool.a5), (wB r.Failed), (wB r.Lost), (wO (cI .i64) 5011 r.Library), (wO (cI .i64) 5012 r.Hand), (wO (cI .i64) 5013 r.Graveyard)]))
def Zlb (a0 : Zv) : Option Zv := Zus.run (Zur a0)
theorem Z3g (a0 : Zv) {r : Zv} (h : Zlb a0 = some r) : FnG PR 60 [] [(wA (Zd a0))] [(5011, wR (cI .i64) 1 r.Library), (5012, wR (cI .i64) 1 r.Hand), (5013, wR (cI .i64) 1 r.Graveyard)] (.agg [(wI r.Life), (wI r.Venom), (wI r.Lands), (wI r.Pool.a0), (wI r.Pool.a1), (wI r.Pool.a2), (wI r.Pool.a3), (wI r.Pool.a4), (wI r.Pool.a5), (wB r.Failed), (wB r.Lost), (wO (cI .i64) 5011 r.Library), (wO (cI .i64) 5012 r.Hand), (wO (cI .i64) 5013 r.Graveyard)]) := Zus.fn h
theorem Z43 (a0 : Zv) {r : Zv} (h : Zlb a0 = some r) : Fn PR 60 [(wA (Zd a0))] (wA (Zd r)) :=
 FnG.frozen (C := LT.RL (cI .i64) r.Library ∧ LT.RL (cI .i64) r.Hand ∧ LT.RL (cI .i64) r.Graveyard ∧ True) (Z3g a0 h) ⟨rfl, rfl, rfl, trivial⟩ (by kernel_rfl)
def Zei (a0 : (List Zh)) (hne : a0 ≠ []) : LT Empty (List Zh) :=
.ne Zb hne<|.kn [0]<|.lb 1005<|.apR Zb 128 ([] : (List Zh)) a0 fun x1=>.ret x1 [.relab 1005 5000]
def Zbl : LF Empty (List Zh) := .z 61 [.t 2] true (fun r => [(5000, wR Zb 19 r)]) (fun r => (wO Zb 5000 r))
def Zec (c : Nat) : LT Empty (List Zh) :=
.kn [0]<|.ret ([] : (List Zh)) [.own 2 5000 19]
def Zj4 (c : Nat) (ad : Addr) : LT Empty (List Zh) :=
.kn [0]<|.lb 1005<|.apR Zb 128 ([] : (List Zh)) ([] : (List Zh)) fun x1=>.ret x1 [.relab 1005 5000]
open Classical in
def Zde (a0 : (List Zh)) : Option (List Zh) := if h : a0 ≠ [] then Zbl.run (Zei a0 h) else Zbl.run (Zec 0)
theorem Zjo (a0 : (List Zh)) {r : (List Zh)} (h : Zde a0 = some r) : FnG PR 61 [] [(wL Zb a0)] [(5000, wR Zb 19 r)] (wO Zb 5000 r) := by
 by_cases hne : a0 = []
 ·subst hne
  have h0 : Zbl.run (Zec 0) = some r := h
  exact FnG.split0 (fun e => absurd rfl e) (fun _ a c => by
   cases a with
   | none => exact Zbl.fn (t := Zec c) h0
   | some ad => exact Zbl.fn (t := Zj4 c ad) h0)
 ·have h0 : Zbl.run (Zei a0 hne) = some r := by unfold Zde at h; rwa [dif_pos hne] at h
  exact FnG.split0 (fun _ => Zbl.fn h0) (fun e => absurd (by simpa using e) hne)
def Zff (a0 : (List Z4)) (hne : a0 ≠ []) : LT Empty (List Z4) :=
.ne Zf hne<|.kn [0]<|.lb 1005<|.apR Zf 824 ([] : (List Z4)) a0 fun x1=>.ret x1 [.relab 1005 5000]
def Zbv : LF Empty (List Z4) := .z 63 [.t 2] true (fun r => [(5000, wR Zf 94 r)]) (fun r => (wO Zf 5000 r))
def Ze7 (c : Nat) : LT Empty (List Z4) :=
.kn [0]<|.ret ([] : (List Z4)) [.own 2 5000 94]
def Zl3 (c : Nat) (ad : Addr) : LT Empty (List Z4) :=
.kn [0]<|.lb 1005<|.apR Zf 824 ([] : (List Z4)) ([] : (List Z4)) fun x1=>.ret x1 [.relab 1005 5000]
open Classical in
def Zd2 (a0 : (List Z4)) : Option (List Z4) := if h : a0 ≠ [] then Zbv.run (Zff a0 h) else Zbv.run (Ze7 0)
theorem Zlk (a0 : (List Z4)) {r : (List Z4)} (h : Zd2 a0 = some r) : FnG PR 63 [] [(wL Zf a0)] [(5000, wR Zf 94 r)] (wO Zf 5000 r) := by
 by_cases hne : a0 = []
 ·subst hne
  have h0 : Zbv.run (Ze7 0) = some r := h
  exact FnG.split0 (fun e => absurd rfl e) (fun _ a c => by
   cases a with
   | none => exact Zbv.fn (t := Ze7 c) h0
   | some ad => exact Zbv.fn (t := Zl3 c ad) h0)
 ·have h0 : Zbv.run (Zff a0 hne) = some r := by unfold Zd2 at h; rwa [dif_pos hne] at h
  exact FnG.split0 (fun _ => Zbv.fn h0) (fun e => absurd (by simpa using e) hne)
end
end Go.PW
