import Derived.Test.YtnoofnejcoadfaaGreatDoorQDb
set_option linter.all false
set_option maxRecDepth 100000
namespace Go.PW
open Go.RowKit
noncomputable section
inductive Zi8 where
 | L0 (E0 : Zb) (v3 : (List Int)) (v4 : Int)
def Zp7 (E0 : Zb) (v3 : (List Int)) (v4 : Int) : LT Zi8 (List Int) :=
.len Z6 E0.Players<|.br (decide (v4 < (E0.Players.length : Int))) (.idx Z6 E0.Players v4 fun x3=>.br (!x3.Lost) (.dr [.lit]<|.apR (cI .i64) 8 v3 [v4] fun x7=>.g0 (.L0 E0 x7 (IntKind.wrap .i64 (v4 + 1))))<|.g0 (.L0 E0 v3 (IntKind.wrap .i64 (v4 + 1))))<|.ret v3 [.relab 20000003 5000]
def Z20 (a0 : Zb) : LT Zi8 (List Int) :=
.lb 1001<|.go (.L0 a0 ([] : (List Int)) 0) [.relab 1001 30000000, .own 3 20000003 1]
def Z21 : LF Zi8 (List Int) := ⟨23, [.t 2], true, fun | .L0 .. => [1,1,0,1,4],
 fun | .L0 E0 v3 v4 => ⟨24, [(1, (.bptr 30000000 0)), (3, (wO (cI .i64) 20000003 v3)), (4, (wI v4))], [(30000000, .box (bx (Zn E0))), (20000003, wR (cI .i64) 1 v3)]⟩,
 fun r => [(5000, wR (cI .i64) 1 r)], fun r => (wO (cI .i64) 5000 r), fun | .L0 E0 v3 v4 => Zp7 E0 v3 v4⟩
def Zrb (a0 : Zb) : Option (List Int) := Z21.run (Z20 a0)
theorem Zadj (a0 : Zb) {r : (List Int)} (h : Zrb a0 = some r) : FnG PR 23 [] [(wA (Zn a0))] [(5000, wR (cI .i64) 1 r)] (wO (cI .i64) 5000 r) := Z21.fn h
theorem Zafw (a0 : Zb) {r : (List Int)} (h : Zrb a0 = some r) : Fn PR 23 [(wA (Zn a0))] (wL (cI .i64) r) :=
 FnG.frozen (C := LT.RL (cI .i64) r ∧ True) (Zadj a0 h) ⟨rfl, trivial⟩ (by kernel_rfl)
inductive Zhc where
 | L0 (v0 : (List Int)) (v1 : Int) (v5 : (List Int)) (v6 : Bool) (v7 : Int)
 | L1 (v0 : (List Int)) (v1 : Int) (v5 : (List Int)) (v6 : Bool) (v7 : Int)
def Zgl (v0 : (List Int)) (v1 : Int) (v5 : (List Int)) (v6 : Bool) (v7 : Int) : LT Zhc (List Int) :=
.idx (cI .i64) v0 v7 fun x1=>.br (x1 != v1) (.ag (cI .i64) x1 0<|.dr [.lit]<|.apR (cI .i64) 8 v5 [x1] fun x5=>.g0 (.L0 v0 v1 x5 v6 (IntKind.wrap .i64 (v7 + 1))))<|.g0 (.L0 v0 v1 v5 v6 (IntKind.wrap .i64 (v7 + 1)))
def Zp8 (v0 : (List Int)) (v1 : Int) (v5 : (List Int)) (v6 : Bool) (v7 : Int) : LT Zhc (List Int) :=
.len (cI .i64) v0<|.br (decide (v7 < (v0.length : Int))) (.cs (!v6) (.k4 1<|.idx (cI .i64) v0 v7 fun x4=>.k3 1<|.br (decide (v1 ≤ x4)) (.dr [.lit]<|.apR (cI .i64) 8 v5 [v1] fun x8=>.jn 1 (.L1 v0 v1 x8 true v7) [] (Zgl v0 v1 x8 true v7))<|.j0 (.L1 v0 v1 v5 v6 v7) (Zgl v0 v1 v5 v6 v7))<|.k5 1<|.k2 1<|.kn [0]<|.j0 (.L1 v0 v1 v5 v6 v7) (Zgl v0 v1 v5 v6 v7))<|.br (!v6) (.dr [.lit]<|.apR (cI .i64) 8 v5 [v1] fun x13=>.ret x13 [.relab 20000005 5000])<|.ret v5 [.relab 20000005 5000]
def Z22 (a0 : (List Int)) (a1 : Int) : LT Zhc (List Int) :=
.go (.L0 a0 a1 ([] : (List Int)) false 0) [.own 5 20000005 1]
def Z23 : LF Zhc (List Int) := ⟨51, [.t 4], true, fun | .L0 .. => [1,1,1,0,1,4] | .L1 .. => [1,1,1,0,1,4,5,1,0,4,1],
 fun | .L0 v0 v1 v5 v6 v7 => ⟨48, [(0, (wL (cI .i64) v0)), (1, (wI v1)), (5, (wO (cI .i64) 20000005 v5)), (6, (wB v6)), (7, (wI v7))], [(20000005, wR (cI .i64) 1 v5)]⟩ | .L1 v0 v1 v5 v6 v7 => ⟨48, [(0, (wL (cI .i64) v0)), (1, (wI v1)), (5, (wO (cI .i64) 20000005 v5)), (6, (wB v6)), (7, (wI v7))], [(20000005, wR (cI .i64) 1 v5)]⟩,
 fun r => [(5000, wR (cI .i64) 1 r)], fun r => (wO (cI .i64) 5000 r), fun | .L0 v0 v1 v5 v6 v7 => Zp8 v0 v1 v5 v6 v7 | .L1 v0 v1 v5 v6 v7 => Zgl v0 v1 v5 v6 v7⟩
def Zze (a0 : (List Int)) (a1 : Int) : Option (List Int) := Z23.run (Z22 a0 a1)
theorem Zadk (a0 : (List Int)) (a1 : Int) {r : (List Int)} (h : Zze a0 a1 = some r) : FnG PR 51 [] [(wL (cI .i64) a0), (wI a1)] [(5000, wR (cI .i64) 1 r)] (wO (cI .i64) 5000 r) := Z23.fn h
inductive Zth where
 | L0 (v0 : (List Int)) (v3 : (List Int)) (v4 : Int)
def Z24 (v0 : (List Int)) (v3 : (List Int)) (v4 : Int) : LT Zth (List Int) :=
.len (cI .i64) v0<|.br (decide (v4 < (v0.length : Int))) (.idx (cI .i64) v0 v4 fun x3=>.rl (cI .i64) v3<|.callS (Zadk v3 x3) 170000 (fun _ => ⟨rfl, Zed (cI .i64) (fun _ => rfl) _, trivial⟩) fun x5=>.go (.L0 v0 x5 (IntKind.wrap .i64 (v4 + 1))) [.pick [0, 3, 4] [175000], .relab 175000 20000003])<|.ret v3 [.relab 20000003 5000]
def Zaj8 (a0 : (List Int)) : LT Zth (List Int) :=
.go (.L0 a0 ([] : (List Int)) 0) [.own 3 20000003 1]
def Zaj9 : LF Zth (List Int) := ⟨22, [.t 2], true, fun | .L0 .. => [1,1,0,1,4],
 fun | .L0 v0 v3 v4 => ⟨18, [(0, (wL (cI .i64) v0)), (3, (wO (cI .i64) 20000003 v3)), (4, (wI v4))], [(20000003, wR (cI .i64) 1 v3)]⟩,
 fun r => [(5000, wR (cI .i64) 1 r)], fun r => (wO (cI .i64) 5000 r), fun | .L0 v0 v3 v4 => Z24 v0 v3 v4⟩
def Zab2 (a0 : (List Int)) : Option (List Int) := Zaj9.run (Zaj8 a0)
theorem Zaoc (a0 : (List Int)) {r : (List Int)} (h : Zab2 a0 = some r) : FnG PR 22 [] [(wL (cI .i64) a0)] [(5000, wR (cI .i64) 1 r)] (wO (cI .i64) 5000 r) := Zaj9.fn h
theorem Zaqv (a0 : (List Int)) {r : (List Int)} (h : Zab2 a0 = some r) : Fn PR 22 [(wL (cI .i64) a0)] (wL (cI .i64) r) :=
 FnG.frozen (C := LT.RL (cI .i64) r ∧ True) (Zaoc a0 h) ⟨rfl, trivial⟩ (by kernel_rfl)
def Znn (a0 : (List Zq)) (a1 : Zb) (a2 : Int) : LT Empty Bool :=
.lb 1004<|.call (Zaj3 a0 a1) fun x1=>.cs (!x1) (.k3 0<|.b5 true<|.kb true<|.kn [0]<|.call (Zm7) fun x4=>.rt x4)<|.k3 0<|.cs (decide (a2 < 0)) (.k5 1<|.kg 1<|.kn [0]<|.call (Zm7) fun x7=>.rt x7)<|.k4 1<|.len Z6 a1.Players<|.k2 1<|.br (decide (a2 ≥ (a1.Players.length : Int))) (.call (Zm7) fun x11=>.rt x11)<|.lb 1007<|.call (Zht a1 ([] : (List Zd)) (⟨a2, 0, 0, ([] : (List Zx)), (⟨0, 0, 0, 0, 0, 0, 0, 0, 0, 0, false, false, (⟨0, 0, 0⟩ : (A3 Int))⟩ : Zbi)⟩ : Zo) (⟨1, 0, (⟨0, 0, 0, 0, 0, 0, 0, ([] : List UInt8), 0, 0, (⟨0, 0⟩ : Za), (⟨0, 0⟩ : Za), (⟨0, 0⟩ : Za)⟩ : Zc)⟩ : Z4)) fun x13=>.call (Zht a1 ([] : (List Zd)) (⟨a2, 0, 0, ([] : (List Zx)), (⟨0, 0, 0, 0, 0, 0, 0, 0, 0, 0, false, false, (⟨0, 0, 0⟩ : (A3 Int))⟩ : Zbi)⟩ : Zo) (⟨5, 0, (⟨0, 0, 0, 0, 0, 0, 0, ([] : List UInt8), 0, 0, (⟨0, 0⟩ : Za), (⟨0, 0⟩ : Za), (⟨0, 0⟩ : Za)⟩ : Zc)⟩ : Z4)) fun x15=>.call (Zht a1 ([] : (List Zd)) (⟨a2, 0, 0, ([] : (List Zx)), (⟨0, 0, 0, 0, 0, 0, 0, 0, 0, 0, false, false, (⟨0, 0, 0⟩ : (A3 Int))⟩ : Zbi)⟩ : Zo) (⟨6, 0, (⟨0, 0, 0, 0, 0, 0, 0, ([] : List UInt8), 0, 0, (⟨0, 0⟩ : Za), (⟨0, 0⟩ : Za), (⟨0, 0⟩ : Za)⟩ : Zc)⟩ : Z4)) fun x17=>.apN (cI .i64) 1044 8 x13 fun x19=>.apR (cI .i64) 8 x19 x15 fun x22=>.rl (cI .i64) x22<|.call (Zie x17 x22) fun x26=>.cs x26 (.k2 3<|.call (Zaqv x17) fun x29=>.k2 3<|.call (Zafw a1) fun x31=>.kg 3<|.call (Zie x29 x31) fun x33=>.kg 3<|.cs x33 (.k3 4<|.call (Zaob x15 a2) fun x36=>.k2 4<|.cs (!x36) (.k4 5<|.call (Zht a1 ([] : (List Zd)) (⟨a2, 0, 0, ([] : (List Zx)), (⟨0, 0, 0, 0, 0, 0, 0, 0, 0, 0, false, false, (⟨0, 0, 0⟩ : (A3 Int))⟩ : Zbi)⟩ : Zo) (⟨2, 0, (⟨0, 0, 0, 0, 0, 0, 0, ([] : List UInt8), 0, 0, (⟨0, 0⟩ : Za), (⟨0, 0⟩ : Za), (⟨0, 0⟩ : Za)⟩ : Zc)⟩ : Z4)) fun x39=>.kg 5<|.len (cI .i64) x39<|.k2 5<|.cs ((x39.length : Int) == 0) (.kg 6<|.call (Zm7) fun x43=>.kg 6<|.rt x43)<|.k2 6<|.rt false)<|.k5 5<|.k2 5<|.b2 false<|.rt false)<|.k5 4<|.b8 false<|.kb false<|.rt false)<|.k5 3<|.kg 3<|.b8 false<|.b5 false<|.kb false<|.rt false
def Zno : LF Empty Bool := .z 8 [.t 6] false (fun r => []) (fun r => (wB r))
def Zj0 (a0 : (List Zq)) (a1 : Zb) (a2 : Int) : Option Bool := Zno.run (Znn a0 a1 a2)
theorem Zzf (a0 : (List Zq)) (a1 : Zb) (a2 : Int) {r : Bool} (h : Zj0 a0 a1 a2 = some r) : Fn PR 8 [(wL Z3 a0), (wA (Zn a1)), (wI a2)] (wB r) := Zno.fn h
end
end Go.PW
