import Derived.Test.YtnoofnejcoadfaaGreatDoorQD
set_option linter.all false
set_option maxRecDepth 100000
namespace Go.PW
open Go.RowKit
noncomputable section
def Z8y (a0 : Int) : LT Empty Bool :=
.cs (decide (a0 ≥ 97)) (.k3 0<|.rt (decide (a0 ≤ 122)))<|.k3 0<|.rt false
def Zaqr : LF Empty Bool := .z 131 [.t 2] false (fun r => []) (fun r => (wB r))
def Z2r (a0 : Int) : Option Bool := Zaqr.run (Z8y a0)
theorem Zajz (a0 : Int) {r : Bool} (h : Z2r a0 = some r) : Fn PR 131 [(.t (.int .u8 a0))] (wB r) := Zaqr.fn h
inductive Zi1 where
 | L0 (v0 : (List UInt8)) (v3 : Int)
 | L1 (v0 : (List UInt8)) (v3 : Int)
def Zhu (v0 : (List UInt8)) (v3 : Int) : LT Zi1 Bool :=
.cs (decide (v3 > 0)) (.k3 0<|.idxS v0 v3 fun x2=>.k2 0<|.cs ((UInt8.toNat x2 : Int) == 45) (.k4 1<|.idxS v0 (IntKind.wrap .i64 (v3 - 1)) fun x7=>.k2 1<|.br ((UInt8.toNat x7 : Int) == 45) (.rt false)<|.g0 (.L0 v0 (IntKind.wrap .i64 (v3 + 1))))<|.k5 1<|.kg 1<|.kn [0]<|.g0 (.L0 v0 (IntKind.wrap .i64 (v3 + 1))))<|.k5 0<|.b5 false<|.kb false<|.kn [0]<|.g0 (.L0 v0 (IntKind.wrap .i64 (v3 + 1)))
def Zkq (v0 : (List UInt8)) (v3 : Int) : LT Zi1 Bool :=
.lenS v0<|.br (decide (v3 < (v0.length : Int))) (.idxS v0 v3 fun x3=>.call (Zajz (UInt8.toNat x3 : Int)) fun x5=>.cs (!x5) (.k3 1<|.idxS v0 v3 fun x8=>.k2 1<|.cs (decide ((UInt8.toNat x8 : Int) < 48)) (.k4 2<|.kg 1<|.kg 2<|.kg 1<|.b3 true<|.idxS v0 v3 fun x11=>.b2 true<|.br ((UInt8.toNat x11 : Int) != 45) (.rt false)<|.j0 (.L1 v0 v3) (Zhu v0 v3))<|.k3 2<|.idxS v0 v3 fun x14=>.kg 2<|.kg 1<|.kg 2<|.kg 1<|.cs (decide ((UInt8.toNat x14 : Int) > 57)) (.k3 3<|.idxS v0 v3 fun x17=>.k2 3<|.br ((UInt8.toNat x17 : Int) != 45) (.rt false)<|.j0 (.L1 v0 v3) (Zhu v0 v3))<|.k5 3<|.kn [0]<|.j0 (.L1 v0 v3) (Zhu v0 v3))<|.k5 1<|.k2 1<|.b5 false<|.kn [0]<|.j0 (.L1 v0 v3) (Zhu v0 v3))<|.rt true
def Zage (a0 : (List UInt8)) : LT Zi1 Bool :=
.lenS a0<|.cs (decide ((a0.length : Int) < 1)) (.k4 0<|.b8 true<|.b4 true<|.kn [0]<|.rt false)<|.k2 0<|.lenS a0<|.k2 0<|.cs (decide ((a0.length : Int) > 32)) (.k5 1<|.b5 true<|.b2 true<|.kn [0]<|.rt false)<|.k2 1<|.idxS a0 0 fun x4=>.kg 1<|.call (Zajz (UInt8.toNat x4 : Int)) fun x6=>.k2 1<|.cs (!x6) (.k5 2<|.k2 2<|.kn [0]<|.rt false)<|.k3 2<|.lenS a0<|.k2 2<|.idxS a0 (IntKind.wrap .i64 ((a0.length : Int) - 1)) fun x11=>.k2 2<|.br ((UInt8.toNat x11 : Int) == 45) (.rt false)<|.g0 (.L0 a0 0)
def Zwh : LF Zi1 Bool := ⟨80, [.t 2], false, fun | .L0 .. => [1,1,0,1,4] | .L1 .. => [1,1,0,1,4,5,1,0,4,1],
 fun | .L0 v0 v3 => ⟨70, [(0, (wS v0)), (3, (wI v3))], []⟩ | .L1 v0 v3 => ⟨70, [(0, (wS v0)), (3, (wI v3))], []⟩,
 fun r => [], fun r => (wB r), fun | .L0 v0 v3 => Zkq v0 v3 | .L1 v0 v3 => Zhu v0 v3⟩
def Z8z (a0 : (List UInt8)) : Option Bool := Zwh.run (Zage a0)
theorem Z80 (a0 : (List UInt8)) {r : Bool} (h : Z8z a0 = some r) : Fn PR 80 [(wS a0)] (wB r) := Zwh.fn h
inductive Zi2 where
 | L0 (E0 : Zp) (v3 : Int)
def Zkr (E0 : Zp) (v3 : Int) : LT Zi2 Bool :=
.br (decide (v3 < 5)) (.idA (Zg.int .i64) (A5.list E0.Color) v3 (bx (Zas E0)) 2 7 fun x2=>.ldC (Zg.int .i64) 29 x2 0<|.cs (decide (x2 < 0)) (.k5 1<|.kg 1<|.kn [0]<|.rt false)<|.k3 1<|.idA (Zg.int .i64) (A5.list E0.Color) v3 (bx (Zas E0)) 2 7 fun x5=>.kg 1<|.ldC (Zg.int .i64) 35 x5 1<|.k2 1<|.br (decide (x5 > 9)) (.rt false)<|.g0 (.L0 E0 (IntKind.wrap .i64 (v3 + 1))))<|.rt true
def Zagf (a0 : Zp) : LT Zi2 Bool :=
.lb 1001<|.cs (decide (a0.Generic < 0)) (.k4 0<|.b8 true<|.kn [0]<|.rt false)<|.k4 0<|.cs (decide (a0.Generic > 99)) (.k4 1<|.b4 true<|.kn [0]<|.rt false)<|.k4 1<|.cs (decide (a0.X < 0)) (.k4 2<|.kn [0]<|.rt false)<|.k4 2<|.br (decide (a0.X > 2)) (.rt false)<|.go (.L0 a0 0) [.relab 1001 30000000]
def Zhy : LF Zi2 Bool := ⟨84, [.t 2], false, fun | .L0 .. => [1,1,0,1,4],
 fun | .L0 E0 v3 => ⟨38, [(1, (.bptr 30000000 0)), (3, (wI v3))], [(30000000, .box (bx (Zas E0)))]⟩,
 fun r => [], fun r => (wB r), fun | .L0 E0 v3 => Zkr E0 v3⟩
def Z2s (a0 : Zp) : Option Bool := Zhy.run (Zagf a0)
theorem Zsv (a0 : Zp) {r : Bool} (h : Z2s a0 = some r) : Fn PR 84 [(wA (Zas a0))] (wB r) := Zhy.fn h
def Zwi : LT Empty (List (List UInt8)) :=
.lb 1001<|.ret [([98, 97, 115, 105, 99] : List UInt8), ([117, 110, 105, 113, 117, 101] : List UInt8)] [.relab 1001 5000]
def Zwj : LF Empty (List (List UInt8)) := .z 82 [.t 0] true (fun r => [(5000, wR cS 1 r)]) (fun r => (wO cS 5000 r))
def Zic : Option (List (List UInt8)) := Zwj.run (Zwi)
theorem Z81 {r : (List (List UInt8))} (h : Zic = some r) : FnG PR 82 [] [] [(5000, wR cS 1 r)] (wO cS 5000 r) := Zwj.fn h
theorem Zacx {r : (List (List UInt8))} (h : Zic = some r) : Fn PR 82 [] (wL cS r) :=
 FnG.frozen (C := LT.RL cS r ∧ True) (Z81 h) ⟨rfl, trivial⟩ (by kernel_rfl)
inductive Zmc where
 | L0 (v0 : (List (List UInt8))) (v1 : (List UInt8)) (v5 : Int)
def Zg0 (v0 : (List (List UInt8))) (v1 : (List UInt8)) (v5 : Int) : LT Zmc Int :=
.len cS v0<|.br (decide (v5 < (v0.length : Int))) (.idx cS v0 v5 fun x3=>.br (x3 == v1) (.rt v5)<|.g0 (.L0 v0 v1 (IntKind.wrap .i64 (v5 + 1))))<|.rt (-1)
def Z0v (a0 : (List (List UInt8))) (a1 : (List UInt8)) : LT Zmc Int :=
.g0 (.L0 a0 a1 0)
def Z0w : LF Zmc Int := ⟨81, [.t 4], false, fun | .L0 .. => [1,0,1,4],
 fun | .L0 v0 v1 v5 => ⟨19, [(0, (wL cS v0)), (1, (wS v1)), (5, (wI v5))], []⟩,
 fun r => [], fun r => (wI r), fun | .L0 v0 v1 v5 => Zg0 v0 v1 v5⟩
def Zsw (a0 : (List (List UInt8))) (a1 : (List UInt8)) : Option Int := Z0w.run (Z0v a0 a1)
theorem Zwk (a0 : (List (List UInt8))) (a1 : (List UInt8)) {r : Int} (h : Zsw a0 a1 = some r) : Fn PR 81 [(wL cS a0), (wS a1)] (wI r) := Z0w.fn h
def Zzi : LT Empty (List (List UInt8)) :=
.lb 1001<|.ret [([99, 114, 101, 97, 116, 117, 114, 101] : List UInt8), ([105, 110, 115, 116, 97, 110, 116] : List UInt8), ([114, 105, 116, 117, 97, 108] : List UInt8), ([114, 101, 108, 105, 99] : List UInt8), ([99, 104, 97, 114, 109] : List UInt8), ([108, 97, 110, 100] : List UInt8)] [.relab 1001 5000]
def Zzj : LF Empty (List (List UInt8)) := .z 83 [.t 0] true (fun r => [(5000, wR cS 1 r)]) (fun r => (wO cS 5000 r))
def Zjd : Option (List (List UInt8)) := Zzj.run (Zzi)
theorem Zacy {r : (List (List UInt8))} (h : Zjd = some r) : FnG PR 83 [] [] [(5000, wR cS 1 r)] (wO cS 5000 r) := Zzj.fn h
theorem Zwl {r : (List (List UInt8))} (h : Zjd = some r) : Fn PR 83 [] (wL cS r) :=
 FnG.frozen (C := LT.RL cS r ∧ True) (Zacy h) ⟨rfl, trivial⟩ (by kernel_rfl)
def Z0x (a0 : (List UInt8)) : LT Empty Bool :=
.call (Z80 a0) fun x1=>.cs x1 (.kg 0<|.call (Zacx) fun x4=>.k2 0<|.call (Zwk x4 a0) fun x6=>.k2 0<|.cs (decide (x6 < 0)) (.kg 1<|.call (Zwl) fun x9=>.k2 1<|.call (Zwk x9 a0) fun x11=>.k2 1<|.rt (decide (x11 < 0)))<|.k5 1<|.rt false)<|.k5 0<|.b5 false<|.rt false
def Zadk : LF Empty Bool := .z 49 [.t 2] false (fun r => []) (fun r => (wB r))
def Zsx (a0 : (List UInt8)) : Option Bool := Zadk.run (Z0x a0)
theorem Zo3 (a0 : (List UInt8)) {r : Bool} (h : Zsx a0 = some r) : Fn PR 49 [(wS a0)] (wB r) := Zadk.fn h
inductive Zsy where
 | L0 (v0 : Int) (v1 : Int) (v5 : Int)
def Z4z (v0 : Int) (v1 : Int) (v5 : Int) : LT Zsy Bool :=
.br (decide (v5 < v1)) (.dc ((2 : Int) ≠ 0) rfl<|.g0 (.L0 (Zko .i64 v0 2) v1 (IntKind.wrap .i64 (v5 + 1))))<|.dc ((2 : Int) ≠ 0) rfl<|.rt ((Int.tmod v0 2) == 1)
def Zaqs (a0 : Int) (a1 : Int) : LT Zsy Bool :=
.g0 (.L0 a0 a1 0)
def Zaqt : LF Zsy Bool := ⟨132, [.t 4], false, fun | .L0 .. => [1,0,1,4],
 fun | .L0 v0 v1 v5 => ⟨16, [(0, (wI v0)), (1, (wI v1)), (5, (wI v5))], []⟩,
 fun r => [], fun r => (wB r), fun | .L0 v0 v1 v5 => Z4z v0 v1 v5⟩
def Zaor (a0 : Int) (a1 : Int) : Option Bool := Zaqt.run (Zaqs a0 a1)
theorem Z40 (a0 : Int) (a1 : Int) {r : Bool} (h : Zaor a0 a1 = some r) : Fn PR 132 [(wI a0), (wI a1)] (wB r) := Zaqt.fn h
inductive Zwm where
 | L0 (E0 : Zu) (v3 : Int)
def Z82 (E0 : Zu) (v3 : Int) : LT Zwm Bool :=
.len cS E0.Subs<|.br (decide (v3 < (E0.Subs.length : Int))) (.idx cS E0.Subs v3 fun x3=>.call (Zo3 x3) fun x5=>.cs (!x5) (.k5 1<|.kn [0]<|.rt false)<|.k3 1<|.cs (decide (v3 > 0)) (.k5 2<|.idx cS E0.Subs (IntKind.wrap .i64 (v3 - 1)) fun x11=>.k5 2<|.ag cS x3 0<|.k2 2<|.kg 1<|.kg 2<|.kg 1<|.br (!(Op.bytesLess x11 x3)) (.rt false)<|.g0 (.L0 E0 (IntKind.wrap .i64 (v3 + 1))))<|.k8 2<|.k4 2<|.kg 1<|.kg 2<|.kg 1<|.kn [0]<|.g0 (.L0 E0 (IntKind.wrap .i64 (v3 + 1))))<|.cs (E0.Types == 2) (.k4 1<|.b5 true<|.b2 true<|.rt true)<|.k4 1<|.cs (E0.Types == 4) (.k5 2<|.k2 2<|.rt true)<|.k3 2<|.call (Z40 E0.Types 1) fun x20=>.k2 2<|.cs (!x20) (.k3 3<|.call (Z40 E0.Types 2) fun x23=>.kg 3<|.kg 2<|.kg 3<|.kg 2<|.rt (!x23))<|.k4 3<|.kg 2<|.kg 3<|.kg 2<|.rt false
def Zau2 (a0 : Zu) : LT Zwm Bool :=
.lb 1001<|.cs (decide (a0.Super < 0)) (.k4 0<|.b8 true<|.b5 true<|.kn [0]<|.rt false)<|.k4 0<|.cs (decide (a0.Super > 3)) (.k4 1<|.b8 true<|.kb true<|.kn [0]<|.rt false)<|.k4 1<|.cs (decide (a0.Types < 1)) (.k4 2<|.b5 true<|.kn [0]<|.rt false)<|.k4 2<|.cs (decide (a0.Types > 63)) (.k5 3<|.kn [0]<|.rt false)<|.k3 3<|.len cS a0.Subs<|.k2 3<|.br (decide ((a0.Subs.length : Int) > 4)) (.rt false)<|.go (.L0 a0 0) [.relab 1001 30000000]
def Zau3 : LF Zwm Bool := ⟨85, [.t 2], false, fun | .L0 .. => [1,1,0,1,4],
 fun | .L0 E0 v3 => ⟨80, [(1, (.bptr 30000000 0)), (3, (wI v3))], [(30000000, .box (bx (Zeb E0)))]⟩,
 fun r => [], fun r => (wB r), fun | .L0 E0 v3 => Z82 E0 v3⟩
def Zau4 (a0 : Zu) : Option Bool := Zau3.run (Zau2 a0)
theorem Za32 (a0 : Zu) {r : Bool} (h : Zau4 a0 = some r) : Fn PR 85 [(wA (Zeb a0))] (wB r) := Zau3.fn h
def Zau5 (a0 : Int) : LT Empty Bool :=
.cs (decide (a0 ≥ 0)) (.k3 0<|.rt (decide (a0 ≤ 131071)))<|.k3 0<|.rt false
def Zau6 : LF Empty Bool := .z 86 [.t 2] false (fun r => []) (fun r => (wB r))
def Zau7 (a0 : Int) : Option Bool := Zau6.run (Zau5 a0)
theorem Zaqu (a0 : Int) {r : Bool} (h : Zau7 a0 = some r) : Fn PR 86 [(wI a0)] (wB r) := Zau6.fn h
def Z2t (a0 : Zl) : LT Empty Bool :=
.lb 1001<|.rt ((Zbc .and .i64 a0.Line.Types 1) != 0)
def Z2u : LF Empty Bool := .z 87 [.t 2] false (fun r => []) (fun r => (wB r))
def Zwn (a0 : Zl) : Option Bool := Z2u.run (Z2t a0)
theorem Zaj0 (a0 : Zl) {r : Bool} (h : Zwn a0 = some r) : Fn PR 87 [(wA (Z4 a0))] (wB r) := Z2u.fn h
inductive Zmd where
 | L0 (v0 : Int) (v1 : Int) (v7 : Int)
def Zg1 (v0 : Int) (v1 : Int) (v7 : Int) : LT Zmd Bool :=
.br (decide (v7 < 6)) (.dc ((2 : Int) ≠ 0) rfl<|.cs ((Int.tmod v0 2) == 1) (.k2 1<|.dc ((2 : Int) ≠ 0) rfl<|.k2 1<|.br ((Int.tmod v1 2) == 1) (.rt false)<|.dc ((2 : Int) ≠ 0) rfl<|.dc ((2 : Int) ≠ 0) rfl<|.g0 (.L0 (Zko .i64 v0 2) (Zko .i64 v1 2) (IntKind.wrap .i64 (v7 + 1))))<|.k4 1<|.kn [0]<|.dc ((2 : Int) ≠ 0) rfl<|.dc ((2 : Int) ≠ 0) rfl<|.g0 (.L0 (Zko .i64 v0 2) (Zko .i64 v1 2) (IntKind.wrap .i64 (v7 + 1))))<|.rt true
def Z0y (a0 : Int) (a1 : Int) (a2 : Int) : LT Zmd Bool :=
.cs (decide (a0 < 0)) (.k4 0<|.b5 true<|.b2 true<|.kn [0]<|.rt false)<|.k4 0<|.cs (decide (a0 > a2)) (.k3 1<|.b4 true<|.kn [0]<|.rt false)<|.k3 1<|.cs (decide (a1 < 0)) (.k4 2<|.kn [0]<|.rt false)<|.k4 2<|.br (decide (a1 > a2)) (.rt false)<|.g0 (.L0 a0 a1 0)
def Zme : LF Zmd Bool := ⟨48, [.t 6], false, fun | .L0 .. => [1,1,0,1,4],
 fun | .L0 v0 v1 v7 => ⟨40, [(0, (wI v0)), (1, (wI v1)), (7, (wI v7))], []⟩,
 fun r => [], fun r => (wB r), fun | .L0 v0 v1 v7 => Zg1 v0 v1 v7⟩
def Zsz (a0 : Int) (a1 : Int) (a2 : Int) : Option Bool := Zme.run (Z0y a0 a1 a2)
theorem Z83 (a0 : Int) (a1 : Int) (a2 : Int) {r : Bool} (h : Zsz a0 a1 a2 = some r) : Fn PR 48 [(wI a0), (wI a1), (wI a2)] (wB r) := Zme.fn h
def Z0z (a0 : Zd) : LT Empty Bool :=
.lb 1001<|.cs (decide (a0.Kind < 0)) (.k4 0<|.b8 true<|.kn [0]<|.rt false)<|.k4 0<|.cs (decide (a0.Kind > 3)) (.k4 1<|.b4 true<|.kn [0]<|.rt false)<|.k4 1<|.cs (decide (a0.N < 0)) (.k4 2<|.kn [0]<|.rt false)<|.k4 2<|.br (decide (a0.N > 1000000)) (.rt false)<|.cs (a0.Kind != 0) (.k4 4<|.rt true)<|.k4 4<|.rt (a0.N == 0)
def Zadl : LF Empty Bool := .z 50 [.t 2] false (fun r => []) (fun r => (wB r))
def Zs0 (a0 : Zd) : Option Bool := Zadl.run (Z0z a0)
theorem Zwo (a0 : Zd) {r : Bool} (h : Zs0 a0 = some r) : Fn PR 50 [(wA (Zcq a0))] (wB r) := Zadl.fn h
inductive Zwp where
 | L0 (E0 : Ze)
def Zks (E0 : Ze) : LT Zwp Bool :=
.call (Zwo E0.Power) fun x1=>.cs x1 (.k3 0<|.call (Zwo E0.Tough) fun x4=>.kg 0<|.cs x4 (.k3 1<|.call (Zwo E0.Value) fun x7=>.kg 1<|.rt x7)<|.k4 1<|.rt false)<|.k4 0<|.b4 false<|.rt false
def Zagg (a0 : Ze) : LT Zwp Bool :=
.lb 1001<|.cs (decide (a0.Zone < 0)) (.k4 0<|.b16 true<|.b8 true<|.kn [0]<|.rt false)<|.k4 0<|.cs (decide (a0.Zone > 5)) (.k4 1<|.b16 true<|.b4 true<|.kn [0]<|.rt false)<|.k4 1<|.cs (decide (a0.Who < 0)) (.k4 2<|.b16 true<|.kn [0]<|.rt false)<|.k4 2<|.cs (decide (a0.Who > 2)) (.k4 3<|.b8 true<|.b4 true<|.kn [0]<|.rt false)<|.k4 3<|.cs (decide (a0.Self < 0)) (.k4 4<|.b8 true<|.kn [0]<|.rt false)<|.k4 4<|.cs (decide (a0.Self > 2)) (.k4 5<|.b4 true<|.kn [0]<|.rt false)<|.k4 5<|.cs (decide (a0.Tap < 0)) (.k4 6<|.kn [0]<|.rt false)<|.k4 6<|.br (decide (a0.Tap > 2)) (.rt false)<|.call (Z83 a0.Types a0.NotTypes 63) fun x9=>.cs (!x9) (.k5 8<|.k2 8<|.kn [0]<|.rt false)<|.k5 8<|.call (Z83 a0.Colors a0.NotColors 31) fun x12=>.k2 8<|.br (!x12) (.rt false)<|.cs (!(a0.Sub == ([] : List UInt8))) (.k3 10<|.call (Zo3 a0.Sub) fun x16=>.k2 10<|.cs (!x16) (.k4 11<|.b4 true<|.kn [0]<|.rt false)<|.k4 11<|.cs (decide (a0.Keys < 0)) (.k4 12<|.kn [0]<|.rt false)<|.k4 12<|.br (decide (a0.Keys > 131071)) (.rt false)<|.jn 0 (.L0 a0) [.relab 1001 30000000] (Zks a0))<|.k5 10<|.b4 false<|.cs (decide (a0.Keys < 0)) (.k4 11<|.kn [0]<|.rt false)<|.k4 11<|.br (decide (a0.Keys > 131071)) (.rt false)<|.jn 0 (.L0 a0) [.relab 1001 30000000] (Zks a0)
def Zagh : LF Zwp Bool := ⟨21, [.t 2], false, fun | .L0 .. => [1,1,1,1],
 fun | .L0 E0 => ⟨87, [(1, (.bptr 30000000 0))], [(30000000, .box (bx (Zn E0)))]⟩,
 fun r => [], fun r => (wB r), fun | .L0 E0 => Zks E0⟩
def Z2v (a0 : Ze) : Option Bool := Zagh.run (Zagg a0)
theorem Zel (a0 : Ze) {r : Bool} (h : Z2v a0 = some r) : Fn PR 21 [(wA (Zn a0))] (wB r) := Zagh.fn h
inductive Zli where
 | L0 (E0 : Zr) (E1 : Zr) (v7 : Int) (v8 : Bool)
 | L1 (E0 : Zr) (E1 : Zr) (v7 : Int) (v16 : Bool)
def Zmf (E0 : Zr) (E1 : Zr) (v7 : Int) (v16 : Bool) : LT Zli Zr :=
.br v16 (.rt (⟨E0.Kind, E0.N, E0.M, ([] : List UInt8), E0.Filter⟩ : Zr))<|.br (v7 == 11) (.rt (⟨E0.Kind, E0.N, E0.M, E0.Sub, (⟨0, 0, 0, 0, 0, 0, 0, ([] : List UInt8), 0, 0, (⟨0, 0⟩ : Zd), (⟨0, 0⟩ : Zd), (⟨0, 0⟩ : Zd)⟩ : Ze)⟩ : Zr))<|.br (v7 == 12) (.kn [3]<|.rt (⟨E0.Kind, 0, 0, E0.Sub, E0.Filter⟩ : Zr))<|.br (v7 == 13) (.rt (⟨E0.Kind, 0, 0, E0.Sub, E0.Filter⟩ : Zr))<|.rt E0
def Zfh (E0 : Zr) (E1 : Zr) (v7 : Int) (v8 : Bool) : LT Zli Zr :=
.br v8 (.rt (⟨E0.Kind, 0, E0.M, E0.Sub, E0.Filter⟩ : Zr))<|.br (v7 == 4) (.j0 (.L1 E0 E1 v7 (v7 == 4)) (Zmf E0 E1 v7 (v7 == 4)))<|.j0 (.L1 E0 E1 v7 (v7 == 5)) (Zmf E0 E1 v7 (v7 == 5))
def Zaj1 (a0 : Zr) : LT Zli Zr :=
.lb 1001<|.lb 1002<|.br (a0.Kind == 2) (.jn 0 (.L0 (⟨0, a0.N, a0.M, a0.Sub, a0.Filter⟩ : Zr) (⟨0, 0, 0, ([] : List UInt8), (⟨0, 0, 0, 0, 0, 0, 0, ([] : List UInt8), 0, 0, (⟨0, 0⟩ : Zd), (⟨0, 0⟩ : Zd), (⟨0, 0⟩ : Zd)⟩ : Ze)⟩ : Zr) a0.Kind (a0.Kind == 2)) [.relab 1001 30000000, .relab 1002 30000001] (Zfh (⟨0, a0.N, a0.M, a0.Sub, a0.Filter⟩ : Zr) (⟨0, 0, 0, ([] : List UInt8), (⟨0, 0, 0, 0, 0, 0, 0, ([] : List UInt8), 0, 0, (⟨0, 0⟩ : Zd), (⟨0, 0⟩ : Zd), (⟨0, 0⟩ : Zd)⟩ : Ze)⟩ : Zr) a0.Kind (a0.Kind == 2)))<|.br (a0.Kind == 3) (.jn 0 (.L0 (⟨0, a0.N, a0.M, a0.Sub, a0.Filter⟩ : Zr) (⟨0, 0, 0, ([] : List UInt8), (⟨0, 0, 0, 0, 0, 0, 0, ([] : List UInt8), 0, 0, (⟨0, 0⟩ : Zd), (⟨0, 0⟩ : Zd), (⟨0, 0⟩ : Zd)⟩ : Ze)⟩ : Zr) a0.Kind (a0.Kind == 3)) [.relab 1001 30000000, .relab 1002 30000001] (Zfh (⟨0, a0.N, a0.M, a0.Sub, a0.Filter⟩ : Zr) (⟨0, 0, 0, ([] : List UInt8), (⟨0, 0, 0, 0, 0, 0, 0, ([] : List UInt8), 0, 0, (⟨0, 0⟩ : Zd), (⟨0, 0⟩ : Zd), (⟨0, 0⟩ : Zd)⟩ : Ze)⟩ : Zr) a0.Kind (a0.Kind == 3)))<|.br (a0.Kind == 6) (.jn 0 (.L0 (⟨0, a0.N, a0.M, a0.Sub, a0.Filter⟩ : Zr) (⟨0, 0, 0, ([] : List UInt8), (⟨0, 0, 0, 0, 0, 0, 0, ([] : List UInt8), 0, 0, (⟨0, 0⟩ : Zd), (⟨0, 0⟩ : Zd), (⟨0, 0⟩ : Zd)⟩ : Ze)⟩ : Zr) a0.Kind (a0.Kind == 6)) [.relab 1001 30000000, .relab 1002 30000001] (Zfh (⟨0, a0.N, a0.M, a0.Sub, a0.Filter⟩ : Zr) (⟨0, 0, 0, ([] : List UInt8), (⟨0, 0, 0, 0, 0, 0, 0, ([] : List UInt8), 0, 0, (⟨0, 0⟩ : Zd), (⟨0, 0⟩ : Zd), (⟨0, 0⟩ : Zd)⟩ : Ze)⟩ : Zr) a0.Kind (a0.Kind == 6)))<|.br (a0.Kind == 7) (.jn 0 (.L0 (⟨0, a0.N, a0.M, a0.Sub, a0.Filter⟩ : Zr) (⟨0, 0, 0, ([] : List UInt8), (⟨0, 0, 0, 0, 0, 0, 0, ([] : List UInt8), 0, 0, (⟨0, 0⟩ : Zd), (⟨0, 0⟩ : Zd), (⟨0, 0⟩ : Zd)⟩ : Ze)⟩ : Zr) a0.Kind (a0.Kind == 7)) [.relab 1001 30000000, .relab 1002 30000001] (Zfh (⟨0, a0.N, a0.M, a0.Sub, a0.Filter⟩ : Zr) (⟨0, 0, 0, ([] : List UInt8), (⟨0, 0, 0, 0, 0, 0, 0, ([] : List UInt8), 0, 0, (⟨0, 0⟩ : Zd), (⟨0, 0⟩ : Zd), (⟨0, 0⟩ : Zd)⟩ : Ze)⟩ : Zr) a0.Kind (a0.Kind == 7)))<|.br (a0.Kind == 8) (.jn 0 (.L0 (⟨0, a0.N, a0.M, a0.Sub, a0.Filter⟩ : Zr) (⟨0, 0, 0, ([] : List UInt8), (⟨0, 0, 0, 0, 0, 0, 0, ([] : List UInt8), 0, 0, (⟨0, 0⟩ : Zd), (⟨0, 0⟩ : Zd), (⟨0, 0⟩ : Zd)⟩ : Ze)⟩ : Zr) a0.Kind (a0.Kind == 8)) [.relab 1001 30000000, .relab 1002 30000001] (Zfh (⟨0, a0.N, a0.M, a0.Sub, a0.Filter⟩ : Zr) (⟨0, 0, 0, ([] : List UInt8), (⟨0, 0, 0, 0, 0, 0, 0, ([] : List UInt8), 0, 0, (⟨0, 0⟩ : Zd), (⟨0, 0⟩ : Zd), (⟨0, 0⟩ : Zd)⟩ : Ze)⟩ : Zr) a0.Kind (a0.Kind == 8)))<|.jn 0 (.L0 (⟨0, a0.N, a0.M, a0.Sub, a0.Filter⟩ : Zr) (⟨0, 0, 0, ([] : List UInt8), (⟨0, 0, 0, 0, 0, 0, 0, ([] : List UInt8), 0, 0, (⟨0, 0⟩ : Zd), (⟨0, 0⟩ : Zd), (⟨0, 0⟩ : Zd)⟩ : Ze)⟩ : Zr) a0.Kind (a0.Kind == 9)) [.relab 1001 30000000, .relab 1002 30000001] (Zfh (⟨0, a0.N, a0.M, a0.Sub, a0.Filter⟩ : Zr) (⟨0, 0, 0, ([] : List UInt8), (⟨0, 0, 0, 0, 0, 0, 0, ([] : List UInt8), 0, 0, (⟨0, 0⟩ : Zd), (⟨0, 0⟩ : Zd), (⟨0, 0⟩ : Zd)⟩ : Ze)⟩ : Zr) a0.Kind (a0.Kind == 9))
def Zaj2 : LF Zli Zr := ⟨176, [.c 2 164 true 20], false, fun | .L0 .. => [1,1,1,0,1,4,1] | .L1 .. => [1,1,1,0,1,4,1,3,1],
 fun | .L0 E0 E1 v7 v8 => ⟨30, [(1, (.bptr 30000000 0)), (2, (.bptr 30000001 0)), (7, (wI v7)), (8, (wB v8))], [(30000000, .box (bx (Z1 E0))), (30000001, .box (bx (Z1 E1)))]⟩ | .L1 E0 E1 v7 v16 => ⟨30, [(1, (.bptr 30000000 0)), (2, (.bptr 30000001 0)), (7, (wI v7)), (16, (wB v16))], [(30000000, .box (bx (Z1 E0))), (30000001, .box (bx (Z1 E1)))]⟩,
 fun r => [], fun r => (wA (Z1 r)), fun | .L0 E0 E1 v7 v8 => Zfh E0 E1 v7 v8 | .L1 E0 E1 v7 v16 => Zmf E0 E1 v7 v16⟩
def Zagi (a0 : Zr) : Option Zr := Zaj2.run (Zaj1 a0)
theorem Zayv (a0 : Zr) {r : Zr} (h : Zagi a0 = some r) : Fn PR 176 [(wA (Z1 a0))] (wA (Z1 r)) := Zaj2.fn h
def Zadm (a0 : Int) : LT Empty Bool :=
.cs (decide (a0 ≥ 1)) (.k3 0<|.cs (decide (a0 ≤ 63)) (.k4 1<|.rt ((Zbc .and .i64 a0 6) == 0))<|.k4 1<|.rt false)<|.k3 0<|.b4 false<|.rt false
def Zadn : LF Empty Bool := .z 177 [.t 2] false (fun r => []) (fun r => (wB r))
def Z84 (a0 : Int) : Option Bool := Zadn.run (Zadm a0)
theorem Zau8 (a0 : Int) {r : Bool} (h : Z84 a0 = some r) : Fn PR 177 [(wI a0)] (wB r) := Zadn.fn h
inductive Znr where
 | L0 (E0 : Zr) (v18 : Int) (v19 : Bool)
 | L1 (E0 : Zr) (v18 : Int) (v25 : Bool)
 | L2 (E0 : Zr) (v18 : Int) (v51 : Bool)
def Zs1 (E0 : Zr) (v18 : Int) (v51 : Bool) : LT Znr Bool :=
.br v51 (.cs (decide (E0.N ≥ 1)) (.k4 1<|.rt (decide (E0.N ≤ 131071)))<|.k4 1<|.rt false)<|.br (v18 == 11) (.call (Zel E0.Filter) fun x4=>.rt x4)<|.br (v18 == 12) (.cs (decide (E0.N ≥ 0)) (.k4 3<|.cs (decide (E0.N ≤ 99)) (.k4 4<|.cs (decide (E0.M ≥ 0)) (.k4 5<|.rt (decide (E0.M ≤ 99)))<|.k4 5<|.rt false)<|.k4 4<|.b4 false<|.rt false)<|.k4 3<|.b8 false<|.rt false)<|.br (v18 == 13) (.cs (decide (E0.N ≥ (-99))) (.k4 4<|.cs (decide (E0.N ≤ 99)) (.k4 5<|.cs (decide (E0.M ≥ (-99))) (.k4 6<|.rt (decide (E0.M ≤ 99)))<|.k4 6<|.rt false)<|.k4 5<|.b4 false<|.rt false)<|.k4 4<|.b8 false<|.rt false)<|.rt true
def Zs2 (E0 : Zr) (v18 : Int) (v25 : Bool) : LT Znr Bool :=
.br v25 (.call (Zo3 E0.Sub) fun x2=>.rt x2)<|.br (v18 == 6) (.cs (decide (E0.N ≥ 0)) (.k4 2<|.rt (decide (E0.N ≤ 31)))<|.k4 2<|.rt false)<|.br (v18 == 7) (.cs (decide (E0.N ≥ 1)) (.k4 3<|.rt (decide (E0.N ≤ 31)))<|.k4 3<|.rt false)<|.br (v18 == 8) (.j0 (.L2 E0 v18 (v18 == 8)) (Zs1 E0 v18 (v18 == 8)))<|.j0 (.L2 E0 v18 (v18 == 9)) (Zs1 E0 v18 (v18 == 9))
def Zs3 (E0 : Zr) (v18 : Int) (v19 : Bool) : LT Znr Bool :=
.br v19 (.call (Zau8 E0.N) fun x2=>.rt x2)<|.br (v18 == 4) (.j0 (.L1 E0 v18 (v18 == 4)) (Zs2 E0 v18 (v18 == 4)))<|.j0 (.L1 E0 v18 (v18 == 5)) (Zs2 E0 v18 (v18 == 5))
def Zau9 (a0 : Zr) : LT Znr Bool :=
.lb 1001<|.cs (decide (a0.Kind < 1)) (.k4 0<|.b5 true<|.kn [0]<|.rt false)<|.k4 0<|.cs (decide (a0.Kind > 14)) (.k5 1<|.kn [0]<|.rt false)<|.k2 1<|.call (Zayv a0) fun x3=>.k3 1<|.br (!(Zau (Z1 x3) (Z1 (⟨0, 0, 0, ([] : List UInt8), (⟨0, 0, 0, 0, 0, 0, 0, ([] : List UInt8), 0, 0, (⟨0, 0⟩ : Zd), (⟨0, 0⟩ : Zd), (⟨0, 0⟩ : Zd)⟩ : Ze)⟩ : Zr)))) (.rt false)<|.br (a0.Kind == 2) (.jn 0 (.L0 a0 a0.Kind (a0.Kind == 2)) [.relab 1001 30000000] (Zs3 a0 a0.Kind (a0.Kind == 2)))<|.jn 0 (.L0 a0 a0.Kind (a0.Kind == 3)) [.relab 1001 30000000] (Zs3 a0 a0.Kind (a0.Kind == 3))
def Zava : LF Znr Bool := ⟨146, [.t 2], false, fun | .L0 .. => [1,1,0,1,4,1] | .L1 .. => [1,1,0,1,4,1,3,1] | .L2 .. => [1,1,0,1,4,1,3,1,3,1,3,1,3,1],
 fun | .L0 E0 v18 v19 => ⟨107, [(1, (.bptr 30000000 0)), (18, (wI v18)), (19, (wB v19))], [(30000000, .box (bx (Z1 E0)))]⟩ | .L1 E0 v18 v25 => ⟨107, [(1, (.bptr 30000000 0)), (18, (wI v18)), (25, (wB v25))], [(30000000, .box (bx (Z1 E0)))]⟩ | .L2 E0 v18 v51 => ⟨107, [(1, (.bptr 30000000 0)), (18, (wI v18)), (51, (wB v51))], [(30000000, .box (bx (Z1 E0)))]⟩,
 fun r => [], fun r => (wB r), fun | .L0 E0 v18 v19 => Zs3 E0 v18 v19 | .L1 E0 v18 v25 => Zs2 E0 v18 v25 | .L2 E0 v18 v51 => Zs1 E0 v18 v51⟩
def Zavb (a0 : Zr) : Option Bool := Zava.run (Zau9 a0)
theorem Z85 (a0 : Zr) {r : Bool} (h : Zavb a0 = some r) : Fn PR 146 [(wA (Z1 a0))] (wB r) := Zava.fn h
inductive Zkt where
 | L0 (v0 : (List (List UInt8))) (v1 : Int) (v2 : (List UInt8)) (v7 : (List UInt8)) (v8 : Int)
def Zt6 (v0 : (List (List UInt8))) (v1 : Int) (v2 : (List UInt8)) (v7 : (List UInt8)) (v8 : Int) : LT Zkt (List UInt8) :=
.len cS v0<|.br (decide (v8 < (v0.length : Int))) (.call (Z40 v1 v8) fun x3=>.br x3 (.br (!(v7 == ([] : List UInt8))) (.ok (v7.length + v2.length ≤ 9223372036854775807)<|.idx cS v0 v8 fun x10=>.ok ((v7 ++ v2).length + x10.length ≤ 9223372036854775807)<|.g0 (.L0 v0 v1 v2 ((v7 ++ v2) ++ x10) (IntKind.wrap .i64 (v8 + 1))))<|.idx cS v0 v8 fun x17=>.ok (v7.length + x17.length ≤ 9223372036854775807)<|.g0 (.L0 v0 v1 v2 (v7 ++ x17) (IntKind.wrap .i64 (v8 + 1))))<|.g0 (.L0 v0 v1 v2 v7 (IntKind.wrap .i64 (v8 + 1))))<|.rt v7
def Z86 (a0 : (List (List UInt8))) (a1 : Int) (a2 : (List UInt8)) : LT Zkt (List UInt8) :=
.g0 (.L0 a0 a1 a2 ([] : List UInt8) 0)
def Z87 : LF Zkt (List UInt8) := ⟨197, [.t 6], false, fun | .L0 .. => [1,1,0,1,4],
 fun | .L0 v0 v1 v2 v7 v8 => ⟨30, [(0, (wL cS v0)), (1, (wI v1)), (2, (wS v2)), (7, (wS v7)), (8, (wI v8))], []⟩,
 fun r => [], fun r => (wS r), fun | .L0 v0 v1 v2 v7 v8 => Zt6 v0 v1 v2 v7 v8⟩
def Z41 (a0 : (List (List UInt8))) (a1 : Int) (a2 : (List UInt8)) : Option (List UInt8) := Z87.run (Z86 a0 a1 a2)
theorem Zart (a0 : (List (List UInt8))) (a1 : Int) (a2 : (List UInt8)) {r : (List UInt8)} (h : Z41 a0 a1 a2 = some r) : Fn PR 197 [(wL cS a0), (wI a1), (wS a2)] (wS r) := Z87.fn h
def Zzk (a0 : Int) : LT Empty (List UInt8) :=
.cs (decide (a0 < 1)) (.k3 0<|.kn [0]<|.rt ([] : List UInt8))<|.k3 0<|.br (decide (a0 > 63)) (.rt ([] : List UInt8))<|.call (Zwl) fun x3=>.call (Zart x3 a0 ([43] : List UInt8)) fun x5=>.rt x5
def Zzl : LF Empty (List UInt8) := .z 178 [.t 2] false (fun r => []) (fun r => (wS r))
def Zt7 (a0 : Int) : Option (List UInt8) := Zzl.run (Zzk a0)
theorem Zns (a0 : Int) {r : (List UInt8)} (h : Zt7 a0 = some r) : Fn PR 178 [(wI a0)] (wS r) := Zzl.fn h
def Zavc (a0 : Int) : LT Empty Bool :=
.cs (decide (a0 ≥ 0)) (.k3 0<|.rt (decide (a0 ≤ 31)))<|.k3 0<|.rt false
def Zavd : LF Empty Bool := .z 198 [.t 2] false (fun r => []) (fun r => (wB r))
def Zave (a0 : Int) : Option Bool := Zavd.run (Zavc a0)
theorem Za33 (a0 : Int) {r : Bool} (h : Zave a0 = some r) : Fn PR 198 [(wI a0)] (wB r) := Zavd.fn h
def Zaj3 (a0 : Int) : LT Empty (List UInt8) :=
.br (a0 == 0) (.rt ([97, 109, 98, 101, 114] : List UInt8))<|.br (a0 == 1) (.rt ([99, 111, 98, 97, 108, 116] : List UInt8))<|.br (a0 == 2) (.rt ([106, 101, 116] : List UInt8))<|.br (a0 == 3) (.rt ([114, 117, 98, 121] : List UInt8))<|.br (a0 == 4) (.rt ([101, 109, 101, 114, 97, 108, 100] : List UInt8))<|.rt ([] : List UInt8)
def Zaj4 : LF Empty (List UInt8) := .z 199 [.t 2] false (fun r => []) (fun r => (wS r))
def Zagj (a0 : Int) : Option (List UInt8) := Zaj4.run (Zaj3 a0)
theorem Zr9 (a0 : Int) {r : (List UInt8)} (h : Zagj a0 = some r) : Fn PR 199 [(wI a0)] (wS r) := Zaj4.fn h
inductive Zo4 where
 | L0 (v0 : Int) (v3 : (List UInt8)) (v4 : Int)
def Z00 (v0 : Int) (v3 : (List UInt8)) (v4 : Int) : LT Zo4 (List UInt8) :=
.br (decide (v4 < 5)) (.ok (¬ v4 < 0)<|.ok ((Z8t .i64 1 v4) ≠ 0)<|.dc ((2 : Int) ≠ 0) rfl<|.br ((Int.tmod (Zko .i64 v0 (Z8t .i64 1 v4)) 2) == 1) (.br (!(v3 == ([] : List UInt8))) (.ok (v3.length + ([43] : List UInt8).length ≤ 9223372036854775807)<|.call (Zr9 v4) fun x10=>.ok ((v3 ++ ([43] : List UInt8)).length + x10.length ≤ 9223372036854775807)<|.g0 (.L0 v0 ((v3 ++ ([43] : List UInt8)) ++ x10) (IntKind.wrap .i64 (v4 + 1))))<|.call (Zr9 v4) fun x17=>.ok (v3.length + x17.length ≤ 9223372036854775807)<|.g0 (.L0 v0 (v3 ++ x17) (IntKind.wrap .i64 (v4 + 1))))<|.g0 (.L0 v0 v3 (IntKind.wrap .i64 (v4 + 1))))<|.rt v3
def Zaj5 (a0 : Int) : LT Zo4 (List UInt8) :=
.call (Za33 a0) fun x1=>.br (!x1) (.rt ([] : List UInt8))<|.br (a0 == 0) (.rt ([110, 111, 110, 101] : List UInt8))<|.g0 (.L0 a0 ([] : List UInt8) 0)
def Zaj6 : LF Zo4 (List UInt8) := ⟨179, [.t 2], false, fun | .L0 .. => [1,1,1,1,0,1,4],
 fun | .L0 v0 v3 v4 => ⟨29, [(0, (wI v0)), (3, (wS v3)), (4, (wI v4))], []⟩,
 fun r => [], fun r => (wS r), fun | .L0 v0 v3 v4 => Z00 v0 v3 v4⟩
def Zagk (a0 : Int) : Option (List UInt8) := Zaj6.run (Zaj5 a0)
theorem Zado (a0 : Int) {r : (List UInt8)} (h : Zagk a0 = some r) : Fn PR 179 [(wI a0)] (wS r) := Zaj6.fn h
def Zadp : LT Empty (List (List UInt8)) :=
.lb 1001<|.ret [([102, 108, 121, 105, 110, 103] : List UInt8), ([114, 101, 97, 99, 104] : List UInt8), ([104, 97, 115, 116, 101] : List UInt8), ([118, 105, 103, 105, 108, 97, 110, 116] : List UInt8), ([116, 114, 97, 109, 112, 108, 101] : List UInt8), ([102, 105, 114, 115, 116, 45, 115, 116, 114, 105, 107, 101] : List UInt8), ([100, 111, 117, 98, 108, 101, 45, 115, 116, 114, 105, 107, 101] : List UInt8), ([100, 101, 97, 100, 108, 121] : List UInt8), ([108, 105, 102, 101, 108, 105, 110, 107] : List UInt8), ([109, 101, 110, 97, 99, 101] : List UInt8), ([100, 101, 102, 101, 110, 100, 101, 114] : List UInt8), ([119, 97, 114, 100, 101, 100] : List UInt8), ([115, 116, 117, 114, 100, 121] : List UInt8), ([101, 108, 117, 115, 105, 118, 101] : List UInt8), ([110, 111, 45, 97, 116, 116, 97, 99, 107] : List UInt8), ([110, 111, 45, 98, 108, 111, 99, 107] : List UInt8), ([109, 117, 115, 116, 45, 97, 116, 116, 97, 99, 107] : List UInt8)] [.relab 1001 5000]
def Zadq : LF Empty (List (List UInt8)) := .z 216 [.t 0] true (fun r => [(5000, wR cS 1 r)]) (fun r => (wO cS 5000 r))
def Zzm : Option (List (List UInt8)) := Zadq.run (Zadp)
theorem Zaru {r : (List (List UInt8))} (h : Zzm = some r) : FnG PR 216 [] [] [(5000, wR cS 1 r)] (wO cS 5000 r) := Zadq.fn h
theorem Zavf {r : (List (List UInt8))} (h : Zzm = some r) : Fn PR 216 [] (wL cS r) :=
 FnG.frozen (C := LT.RL cS r ∧ True) (Zaru h) ⟨rfl, trivial⟩ (by kernel_rfl)
def Zaj7 (a0 : Int) : LT Empty (List UInt8) :=
.cs (decide (a0 < 0)) (.k3 0<|.kn [0]<|.rt ([] : List UInt8))<|.k3 0<|.br (decide (a0 > 16)) (.rt ([] : List UInt8))<|.call (Zavf) fun x3=>.idx cS x3 a0 fun x5=>.rt x5
def Zaj8 : LF Empty (List UInt8) := .z 200 [.t 2] false (fun r => []) (fun r => (wS r))
def Zagl (a0 : Int) : Option (List UInt8) := Zaj8.run (Zaj7 a0)
theorem Z01 (a0 : Int) {r : (List UInt8)} (h : Zagl a0 = some r) : Fn PR 200 [(wI a0)] (wS r) := Zaj8.fn h
inductive Zo5 where
 | L0 (v0 : Int) (v3 : (List UInt8)) (v4 : Int)
def Z02 (v0 : Int) (v3 : (List UInt8)) (v4 : Int) : LT Zo5 (List UInt8) :=
.br (decide (v4 < 17)) (.dc ((2 : Int) ≠ 0) rfl<|.br ((Int.tmod v0 2) == 1) (.br (!(v3 == ([] : List UInt8))) (.ok (v3.length + ([43] : List UInt8).length ≤ 9223372036854775807)<|.call (Z01 v4) fun x6=>.ok ((v3 ++ ([43] : List UInt8)).length + x6.length ≤ 9223372036854775807)<|.dc ((2 : Int) ≠ 0) rfl<|.g0 (.L0 (Zko .i64 v0 2) ((v3 ++ ([43] : List UInt8)) ++ x6) (IntKind.wrap .i64 (v4 + 1))))<|.call (Z01 v4) fun x13=>.ok (v3.length + x13.length ≤ 9223372036854775807)<|.dc ((2 : Int) ≠ 0) rfl<|.g0 (.L0 (Zko .i64 v0 2) (v3 ++ x13) (IntKind.wrap .i64 (v4 + 1))))<|.dc ((2 : Int) ≠ 0) rfl<|.g0 (.L0 (Zko .i64 v0 2) v3 (IntKind.wrap .i64 (v4 + 1))))<|.br (v3 == ([] : List UInt8)) (.rt ([110, 111, 110, 101] : List UInt8))<|.rt v3
def Zaj9 (a0 : Int) : LT Zo5 (List UInt8) :=
.call (Zaqu a0) fun x1=>.br (!x1) (.rt ([] : List UInt8))<|.g0 (.L0 a0 ([] : List UInt8) 0)
def Zaka : LF Zo5 (List UInt8) := ⟨180, [.t 2], false, fun | .L0 .. => [1,1,1,0,1,4],
 fun | .L0 v0 v3 v4 => ⟨28, [(0, (wI v0)), (3, (wS v3)), (4, (wI v4))], []⟩,
 fun r => [], fun r => (wS r), fun | .L0 v0 v3 v4 => Z02 v0 v3 v4⟩
def Zagm (a0 : Int) : Option (List UInt8) := Zaka.run (Zaj9 a0)
theorem Zadr (a0 : Int) {r : (List UInt8)} (h : Zagm a0 = some r) : Fn PR 180 [(wI a0)] (wS r) := Zaka.fn h
def Zzn : LT Empty (List (List UInt8)) :=
.lb 1001<|.ret [([] : List UInt8), ([105, 110, 45, 104, 97, 110, 100] : List UInt8), ([105, 110, 45, 108, 105, 98, 114, 97, 114, 121] : List UInt8), ([105, 110, 45, 103, 114, 97, 118, 101, 121, 97, 114, 100] : List UInt8), ([105, 110, 45, 101, 120, 105, 108, 101] : List UInt8), ([111, 110, 45, 115, 116, 97, 99, 107] : List UInt8)] [.relab 1001 5000]
def Zzo : LF Empty (List (List UInt8)) := .z 201 [.t 0] true (fun r => [(5000, wR cS 1 r)]) (fun r => (wO cS 5000 r))
def Zm5 : Option (List (List UInt8)) := Zzo.run (Zzn)
theorem Zacz {r : (List (List UInt8))} (h : Zm5 = some r) : FnG PR 201 [] [] [(5000, wR cS 1 r)] (wO cS 5000 r) := Zzo.fn h
theorem Zagn {r : (List (List UInt8))} (h : Zm5 = some r) : Fn PR 201 [] (wL cS r) :=
 FnG.frozen (C := LT.RL cS r ∧ True) (Zacz h) ⟨rfl, trivial⟩ (by kernel_rfl)
def Z2w : LT Empty (List (List UInt8)) :=
.lb 1001<|.ret [([] : List UInt8), ([121, 111, 117, 114, 115] : List UInt8), ([116, 104, 101, 105, 114, 115] : List UInt8)] [.relab 1001 5000]
def Z2x : LF Empty (List (List UInt8)) := .z 202 [.t 0] true (fun r => [(5000, wR cS 1 r)]) (fun r => (wO cS 5000 r))
def Zo6 : Option (List (List UInt8)) := Z2x.run (Z2w)
theorem Zago {r : (List (List UInt8))} (h : Zo6 = some r) : FnG PR 202 [] [] [(5000, wR cS 1 r)] (wO cS 5000 r) := Z2x.fn h
theorem Zakb {r : (List (List UInt8))} (h : Zo6 = some r) : Fn PR 202 [] (wL cS r) :=
 FnG.frozen (C := LT.RL cS r ∧ True) (Zago h) ⟨rfl, trivial⟩ (by kernel_rfl)
def Zzp : LT Empty (List (List UInt8)) :=
.lb 1001<|.ret [([] : List UInt8), ([115, 101, 108, 102] : List UInt8), ([111, 116, 104, 101, 114] : List UInt8)] [.relab 1001 5000]
def Zzq : LF Empty (List (List UInt8)) := .z 203 [.t 0] true (fun r => [(5000, wR cS 1 r)]) (fun r => (wO cS 5000 r))
def Zm6 : Option (List (List UInt8)) := Zzq.run (Zzp)
theorem Zac0 {r : (List (List UInt8))} (h : Zm6 = some r) : FnG PR 203 [] [] [(5000, wR cS 1 r)] (wO cS 5000 r) := Zzq.fn h
theorem Zagp {r : (List (List UInt8))} (h : Zm6 = some r) : Fn PR 203 [] (wL cS r) :=
 FnG.frozen (C := LT.RL cS r ∧ True) (Zac0 h) ⟨rfl, trivial⟩ (by kernel_rfl)
def Z2y : LT Empty (List (List UInt8)) :=
.lb 1001<|.ret [([] : List UInt8), ([116, 97, 112, 112, 101, 100] : List UInt8), ([117, 110, 116, 97, 112, 112, 101, 100] : List UInt8)] [.relab 1001 5000]
def Z2z : LF Empty (List (List UInt8)) := .z 204 [.t 0] true (fun r => [(5000, wR cS 1 r)]) (fun r => (wO cS 5000 r))
def Zo7 : Option (List (List UInt8)) := Z2z.run (Z2y)
theorem Zagq {r : (List (List UInt8))} (h : Zo7 = some r) : FnG PR 204 [] [] [(5000, wR cS 1 r)] (wO cS 5000 r) := Z2z.fn h
theorem Zakc {r : (List (List UInt8))} (h : Zo7 = some r) : Fn PR 204 [] (wL cS r) :=
 FnG.frozen (C := LT.RL cS r ∧ True) (Zagq h) ⟨rfl, trivial⟩ (by kernel_rfl)
inductive Zs4 where
 | L0 (v0 : Int) (v1 : Int) (v5 : Int)
def Z42 (v0 : Int) (v1 : Int) (v5 : Int) : LT Zs4 Bool :=
.br (decide (v5 < v1)) (.dc ((2 : Int) ≠ 0) rfl<|.g0 (.L0 (Zko .i64 v0 2) v1 (IntKind.wrap .i64 (v5 + 1))))<|.dc ((2 : Int) ≠ 0) rfl<|.rt ((Int.tmod v0 2) == 1)
def Zaqv (a0 : Int) (a1 : Int) : LT Zs4 Bool :=
.g0 (.L0 a0 a1 0)
def Zaqw : LF Zs4 Bool := ⟨206, [.t 4], false, fun | .L0 .. => [1,0,1,4],
 fun | .L0 v0 v1 v5 => ⟨16, [(0, (wI v0)), (1, (wI v1)), (5, (wI v5))], []⟩,
 fun r => [], fun r => (wB r), fun | .L0 v0 v1 v5 => Z42 v0 v1 v5⟩
def Zaos (a0 : Int) (a1 : Int) : Option Bool := Zaqw.run (Zaqv a0 a1)
theorem Zo8 (a0 : Int) (a1 : Int) {r : Bool} (h : Zaos a0 a1 = some r) : Fn PR 206 [(wI a0), (wI a1)] (wB r) := Zaqw.fn h
inductive Zid where
 | L0 (v0 : Int) (v3 : Int) (v4 : Int)
def Zo9 (v0 : Int) (v3 : Int) (v4 : Int) : LT Zid (List UInt8) :=
.br (decide (v4 < v0)) (.g0 (.L0 v0 (IntKind.wrap .i64 (v3 * 2)) (IntKind.wrap .i64 (v4 + 1))))<|.call (Zns v3) fun x6=>.rt x6
def Z20 (a0 : Int) : LT Zid (List UInt8) :=
.g0 (.L0 a0 1 0)
def Z21 : LF Zid (List UInt8) := ⟨207, [.t 2], false, fun | .L0 .. => [1,1,0,1,4],
 fun | .L0 v0 v3 v4 => ⟨14, [(0, (wI v0)), (3, (wI v3)), (4, (wI v4))], []⟩,
 fun r => [], fun r => (wS r), fun | .L0 v0 v3 v4 => Zo9 v0 v3 v4⟩
def Zwq (a0 : Int) : Option (List UInt8) := Z21.run (Z20 a0)
theorem Zzr (a0 : Int) {r : (List UInt8)} (h : Zwq a0 = some r) : Fn PR 207 [(wI a0)] (wS r) := Z21.fn h
def Zads : LT Empty (List (List UInt8)) :=
.lb 1001<|.ret [([] : List UInt8), ([62, 61] : List UInt8), ([60, 61] : List UInt8), ([61] : List UInt8)] [.relab 1001 5000]
def Zadt : LF Empty (List (List UInt8)) := .z 217 [.t 0] true (fun r => [(5000, wR cS 1 r)]) (fun r => (wO cS 5000 r))
def Zzs : Option (List (List UInt8)) := Zadt.run (Zads)
theorem Zarv {r : (List (List UInt8))} (h : Zzs = some r) : FnG PR 217 [] [] [(5000, wR cS 1 r)] (wO cS 5000 r) := Zadt.fn h
theorem Zavg {r : (List (List UInt8))} (h : Zzs = some r) : Fn PR 217 [] (wL cS r) :=
 FnG.frozen (C := LT.RL cS r ∧ True) (Zarv h) ⟨rfl, trivial⟩ (by kernel_rfl)
inductive Zwr where
 | L0 (v0 : Int) (v3 : (List UInt8))
def Zf1 (v0 : Int) (v3 : (List UInt8)) : LT Zwr (List UInt8) :=
.br (decide (v0 > 0)) (.dc ((10 : Int) ≠ 0) rfl<|.dr [.lit]<|.str [IntKind.wrap .u8 (IntKind.wrap .u64 (48 + (Int.tmod v0 10)))] fun x5=>.ok (x5.length + v3.length ≤ 9223372036854775807)<|.dc ((10 : Int) ≠ 0) rfl<|.g0 (.L0 (Zko .u64 v0 10) (x5 ++ v3)))<|.rt v3
def Z88 (a0 : Int) : LT Zwr (List UInt8) :=
.dc ((10 : Int) ≠ 0) rfl<|.dr [.lit]<|.str [IntKind.wrap .u8 (IntKind.wrap .u64 (48 + (Int.tmod a0 10)))] fun x4=>.dc ((10 : Int) ≠ 0) rfl<|.g0 (.L0 (Zko .u64 a0 10) x4)
def Zpa : LF Zwr (List UInt8) := ⟨210, [.t 2], false, fun | .L0 .. => [1,1,0,1,4],
 fun | .L0 v0 v3 => ⟨25, [(0, (.t (.int .u64 v0))), (3, (wS v3))], []⟩,
 fun r => [], fun r => (wS r), fun | .L0 v0 v3 => Zf1 v0 v3⟩
def Z43 (a0 : Int) : Option (List UInt8) := Zpa.run (Z88 a0)
theorem Z6m (a0 : Int) {r : (List UInt8)} (h : Z43 a0 = some r) : Fn PR 210 [(.t (.int .u64 a0))] (wS r) := Zpa.fn h
def Zakd (a0 : Int) : LT Empty (List UInt8) :=
.br (decide (a0 < 0)) (.call (Z6m (IntKind.wrap .u64 (0 - (IntKind.wrap .u64 a0)))) fun x4=>.ok (([45] : List UInt8).length + x4.length ≤ 9223372036854775807)<|.rt (([45] : List UInt8) ++ x4))<|.call (Z6m (IntKind.wrap .u64 a0)) fun x10=>.rt x10
def Zake : LF Empty (List UInt8) := .z 182 [.t 2] false (fun r => []) (fun r => (wS r))
def Zagr (a0 : Int) : Option (List UInt8) := Zake.run (Zakd a0)
theorem Zj2 (a0 : Int) {r : (List UInt8)} (h : Zagr a0 = some r) : Fn PR 182 [(wI a0)] (wS r) := Zake.fn h
def Zzt (a0 : (List UInt8)) (a1 : Zd) : LT Empty (List UInt8) :=
.lb 1003<|.br (a1.Kind == 0) (.rt ([] : List UInt8))<|.call (Zavg) fun x2=>.idx cS x2 a1.Kind fun x4=>.ok (a0.length + x4.length ≤ 9223372036854775807)<|.call (Zj2 a1.N) fun x10=>.ok ((a0 ++ x4).length + x10.length ≤ 9223372036854775807)<|.rt ((a0 ++ x4) ++ x10)
def Zzu : LF Empty (List UInt8) := .z 208 [.t 4] false (fun r => []) (fun r => (wS r))
def Zt8 (a0 : (List UInt8)) (a1 : Zd) : Option (List UInt8) := Zzu.run (Zzt a0 a1)
theorem Znt (a0 : (List UInt8)) (a1 : Zd) {r : (List UInt8)} (h : Zt8 a0 a1 = some r) : Fn PR 208 [(wS a0), (wA (Zcq a1))] (wS r) := Zzu.fn h
inductive Zpb where
 | L0 (v0 : (List (List UInt8))) (v1 : (List UInt8)) (v5 : (List UInt8)) (v6 : Int)
def Z03 (v0 : (List (List UInt8))) (v1 : (List UInt8)) (v5 : (List UInt8)) (v6 : Int) : LT Zpb (List UInt8) :=
.len cS v0<|.br (decide (v6 < (v0.length : Int))) (.br (decide (v6 > 0)) (.ok (v5.length + v1.length ≤ 9223372036854775807)<|.idx cS v0 v6 fun x7=>.ok ((v5 ++ v1).length + x7.length ≤ 9223372036854775807)<|.g0 (.L0 v0 v1 ((v5 ++ v1) ++ x7) (IntKind.wrap .i64 (v6 + 1))))<|.idx cS v0 v6 fun x14=>.ok (v5.length + x14.length ≤ 9223372036854775807)<|.g0 (.L0 v0 v1 (v5 ++ x14) (IntKind.wrap .i64 (v6 + 1))))<|.rt v5
def Zakf (a0 : (List (List UInt8))) (a1 : (List UInt8)) : LT Zpb (List UInt8) :=
.g0 (.L0 a0 a1 ([] : List UInt8) 0)
def Zakg : LF Zpb (List UInt8) := ⟨209, [.t 4], false, fun | .L0 .. => [1,1,0,1,4],
 fun | .L0 v0 v1 v5 v6 => ⟨25, [(0, (wL cS v0)), (1, (wS v1)), (5, (wS v5)), (6, (wI v6))], []⟩,
 fun r => [], fun r => (wS r), fun | .L0 v0 v1 v5 v6 => Z03 v0 v1 v5 v6⟩
def Zags (a0 : (List (List UInt8))) (a1 : (List UInt8)) : Option (List UInt8) := Zakg.run (Zakf a0 a1)
theorem Zayw (a0 : (List (List UInt8))) (a1 : (List UInt8)) {r : (List UInt8)} (h : Zags a0 a1 = some r) : Fn PR 209 [(wL cS a0), (wS a1)] (wS r) := Zakg.fn h
def Z22 (b0 : (List (List UInt8))) (a1 : (List UInt8)) : LT Empty (List (List UInt8)) :=
.br (a1 == ([] : List UInt8)) (.ret b0 [.relab 0 5000])<|.dr [.lit]<|.apR cS 16 b0 [a1] fun x3=>.ret x3 [.relab 0 5000]
def Z23 : LF Empty (List (List UInt8)) := .z 205 [.t 4] true (fun r => [(5000, wR cS 1 r)]) (fun r => (wO cS 5000 r))
def Zws (b0 : (List (List UInt8))) (a1 : (List UInt8)) : Option (List (List UInt8)) := Z23.run (Z22 b0 a1)
theorem Zeh (b0 : (List (List UInt8))) (a1 : (List UInt8)) {r : (List (List UInt8))} (h : Zws b0 a1 = some r) : FnG PR 205 [(0, wR cS 1 b0)] [(wO cS 0 b0), (wS a1)] [(5000, wR cS 1 r)] (wO cS 5000 r) := Z23.fn h
inductive Zfi where
 | L0 (E0 : Ze) (v6 : (List (List UInt8))) (v7 : (List (List UInt8))) (v8 : Int)
 | L1 (E0 : Ze) (v6 : (List (List UInt8))) (v7 : (List (List UInt8))) (v9 : Int)
 | L2 (E0 : Ze) (v6 : (List (List UInt8))) (v7 : (List (List UInt8))) (v10 : Int)
 | L3 (E0 : Ze) (v6 : (List (List UInt8))) (v7 : (List (List UInt8))) (v11 : Int)
 | L4 (E0 : Ze) (v6 : (List (List UInt8))) (v7 : (List (List UInt8)))
 | L5 (E0 : Ze) (v6 : (List (List UInt8))) (v7 : (List (List UInt8))) (v12 : Int)
def Zmg (E0 : Ze) (v6 : (List (List UInt8))) (v7 : (List (List UInt8))) : LT Zfi (List UInt8) :=
.g0 (.L5 E0 v6 v7 0)
def Z04 (E0 : Ze) (v6 : (List (List UInt8))) (v7 : (List (List UInt8))) (v8 : Int) : LT Zfi (List UInt8) :=
.br (decide (v8 < 6)) (.call (Zo8 E0.Types v8) fun x2=>.br x2 (.call (Zzr v8) fun x5=>.dr [.lit]<|.apR cS 16 v7 [x5] fun x8=>.g0 (.L0 E0 v6 x8 (IntKind.wrap .i64 (v8 + 1))))<|.g0 (.L0 E0 v6 v7 (IntKind.wrap .i64 (v8 + 1))))<|.g0 (.L1 E0 v6 v7 0)
def Z05 (E0 : Ze) (v6 : (List (List UInt8))) (v7 : (List (List UInt8))) (v9 : Int) : LT Zfi (List UInt8) :=
.br (decide (v9 < 6)) (.call (Zo8 E0.NotTypes v9) fun x2=>.br x2 (.call (Zzr v9) fun x5=>.ok (([110, 111, 110, 45] : List UInt8).length + x5.length ≤ 9223372036854775807)<|.dr [.lit]<|.apR cS 16 v7 [(([110, 111, 110, 45] : List UInt8) ++ x5)] fun x11=>.g0 (.L1 E0 v6 x11 (IntKind.wrap .i64 (v9 + 1))))<|.g0 (.L1 E0 v6 v7 (IntKind.wrap .i64 (v9 + 1))))<|.g0 (.L2 E0 v6 v7 0)
def Z06 (E0 : Ze) (v6 : (List (List UInt8))) (v7 : (List (List UInt8))) (v10 : Int) : LT Zfi (List UInt8) :=
.br (decide (v10 < 5)) (.call (Zo8 E0.Colors v10) fun x2=>.br x2 (.call (Zr9 v10) fun x5=>.dr [.lit]<|.apR cS 16 v7 [x5] fun x8=>.g0 (.L2 E0 v6 x8 (IntKind.wrap .i64 (v10 + 1))))<|.g0 (.L2 E0 v6 v7 (IntKind.wrap .i64 (v10 + 1))))<|.g0 (.L3 E0 v6 v7 0)
def Z07 (E0 : Ze) (v6 : (List (List UInt8))) (v7 : (List (List UInt8))) (v11 : Int) : LT Zfi (List UInt8) :=
.br (decide (v11 < 5)) (.call (Zo8 E0.NotColors v11) fun x2=>.br x2 (.call (Zr9 v11) fun x5=>.ok (([110, 111, 110, 45] : List UInt8).length + x5.length ≤ 9223372036854775807)<|.dr [.lit]<|.apR cS 16 v7 [(([110, 111, 110, 45] : List UInt8) ++ x5)] fun x11=>.g0 (.L3 E0 v6 x11 (IntKind.wrap .i64 (v11 + 1))))<|.g0 (.L3 E0 v6 v7 (IntKind.wrap .i64 (v11 + 1))))<|.br (!(E0.Sub == ([] : List UInt8))) (.ok (([115, 117, 98, 58] : List UInt8).length + E0.Sub.length ≤ 9223372036854775807)<|.dr [.lit]<|.apR cS 16 v7 [(([115, 117, 98, 58] : List UInt8) ++ E0.Sub)] fun x23=>.j0 (.L4 E0 v6 x23) (Zmg E0 v6 x23))<|.j0 (.L4 E0 v6 v7) (Zmg E0 v6 v7)
def Z08 (E0 : Ze) (v6 : (List (List UInt8))) (v7 : (List (List UInt8))) (v12 : Int) : LT Zfi (List UInt8) :=
.br (decide (v12 < 17)) (.call (Zo8 E0.Keys v12) fun x2=>.br x2 (.call (Z01 v12) fun x5=>.ok (([119, 105, 116, 104, 58] : List UInt8).length + x5.length ≤ 9223372036854775807)<|.dr [.lit]<|.apR cS 16 v7 [(([119, 105, 116, 104, 58] : List UInt8) ++ x5)] fun x11=>.g0 (.L5 E0 v6 x11 (IntKind.wrap .i64 (v12 + 1))))<|.g0 (.L5 E0 v6 v7 (IntKind.wrap .i64 (v12 + 1))))<|.idx cS v6 E0.Tap fun x18=>.callU (Zeh v7 x18) [20000007] 1250000 fun x20=>.call (Znt ([112, 111, 119, 101, 114] : List UInt8) E0.Power) fun x22=>.callU (Zeh x20 x22) [1255000] 1300000 fun x24=>.call (Znt ([116, 111, 117, 103, 104] : List UInt8) E0.Tough) fun x26=>.callU (Zeh x24 x26) [1305000] 1350000 fun x28=>.call (Znt ([118, 97, 108, 117, 101] : List UInt8) E0.Value) fun x30=>.callU (Zeh x28 x30) [1355000] 1400000 fun x32=>.lenO cS x32<|.br ((x32.length : Int) == 0) (.rt ([97, 110, 121] : List UInt8))<|.rl cS x32<|.call (Zayw x32 ([32] : List UInt8)) fun x36=>.rt x36
def Zakh (a0 : Ze) : LT Zfi (List UInt8) :=
.lb 1001<|.call (Zel a0) fun x1=>.br (!x1) (.rt ([] : List UInt8))<|.call (Zagn) fun x4=>.call (Zakb) fun x6=>.call (Zagp) fun x8=>.call (Zakc) fun x10=>.idx cS x4 a0.Zone fun x12=>.dr [.ahead 26, .own 20 70000260 1, .stop]<|.callU (Zeh ([] : (List (List UInt8))) x12) [70000260] 270000 fun x14=>.idx cS x6 a0.Who fun x16=>.callU (Zeh x14 x16) [275000] 340000 fun x18=>.idx cS x8 a0.Self fun x20=>.callU (Zeh x18 x20) [345000] 410000 fun x22=>.go (.L0 a0 x10 x22 0) [.relab 1001 30000000, .relab 415000 20000007]
def Zaki : LF Zfi (List UInt8) := ⟨181, [.t 2], false, fun | .L0 .. => [1,1,1,1,1,1,1,1,1,1,0,1,4] | .L1 .. => [1,1,1,1,1,1,1,1,1,1,1,0,1,4] | .L2 .. => [1,1,1,1,1,1,1,1,1,1,1,1,0,1,4] | .L3 .. => [1,1,1,1,1,1,1,1,1,1,1,1,1,0,1,4] | .L4 .. => [1,1,1,1,1,1,1,1,1,1,1,1,1,1,1] | .L5 .. => [1,1,1,1,1,1,1,1,1,1,1,1,1,1,1,0,1,4],
 fun | .L0 E0 v6 v7 v8 => ⟨145, [(1, (.bptr 30000000 0)), (6, (wL cS v6)), (7, (wO cS 20000007 v7)), (8, (wI v8))], [(30000000, .box (bx (Zn E0))), (20000007, wR cS 1 v7)]⟩ | .L1 E0 v6 v7 v9 => ⟨145, [(1, (.bptr 30000000 0)), (6, (wL cS v6)), (7, (wO cS 20000007 v7)), (9, (wI v9))], [(30000000, .box (bx (Zn E0))), (20000007, wR cS 1 v7)]⟩ | .L2 E0 v6 v7 v10 => ⟨145, [(1, (.bptr 30000000 0)), (6, (wL cS v6)), (7, (wO cS 20000007 v7)), (10, (wI v10))], [(30000000, .box (bx (Zn E0))), (20000007, wR cS 1 v7)]⟩ | .L3 E0 v6 v7 v11 => ⟨145, [(1, (.bptr 30000000 0)), (6, (wL cS v6)), (7, (wO cS 20000007 v7)), (11, (wI v11))], [(30000000, .box (bx (Zn E0))), (20000007, wR cS 1 v7)]⟩ | .L4 E0 v6 v7 => ⟨145, [(1, (.bptr 30000000 0)), (6, (wL cS v6)), (7, (wO cS 20000007 v7))], [(30000000, .box (bx (Zn E0))), (20000007, wR cS 1 v7)]⟩ | .L5 E0 v6 v7 v12 => ⟨145, [(1, (.bptr 30000000 0)), (6, (wL cS v6)), (7, (wO cS 20000007 v7)), (12, (wI v12))], [(30000000, .box (bx (Zn E0))), (20000007, wR cS 1 v7)]⟩,
 fun r => [], fun r => (wS r), fun | .L0 E0 v6 v7 v8 => Z04 E0 v6 v7 v8 | .L1 E0 v6 v7 v9 => Z05 E0 v6 v7 v9 | .L2 E0 v6 v7 v10 => Z06 E0 v6 v7 v10 | .L3 E0 v6 v7 v11 => Z07 E0 v6 v7 v11 | .L4 E0 v6 v7 => Zmg E0 v6 v7 | .L5 E0 v6 v7 v12 => Z08 E0 v6 v7 v12⟩
def Zagt (a0 : Ze) : Option (List UInt8) := Zaki.run (Zakh a0)
theorem Zayx (a0 : Ze) {r : (List UInt8)} (h : Zagt a0 = some r) : Fn PR 181 [(wA (Zn a0))] (wS r) := Zaki.fn h
def Zakj (a0 : Zr) : LT Empty (List UInt8) :=
.lb 1001<|.call (Z85 a0) fun x1=>.br (!x1) (.rt ([] : List UInt8))<|.br (a0.Kind == 1) (.rt ([99, 111, 110, 116, 114, 111, 108] : List UInt8))<|.br (a0.Kind == 2) (.call (Zns a0.N) fun x6=>.ok (([116, 121, 112, 101, 115, 61] : List UInt8).length + x6.length ≤ 9223372036854775807)<|.rt (([116, 121, 112, 101, 115, 61] : List UInt8) ++ x6))<|.br (a0.Kind == 3) (.call (Zns a0.N) fun x12=>.ok (([116, 121, 112, 101, 115, 43, 61] : List UInt8).length + x12.length ≤ 9223372036854775807)<|.rt (([116, 121, 112, 101, 115, 43, 61] : List UInt8) ++ x12))<|.br (a0.Kind == 4) (.ok (([115, 117, 98, 61] : List UInt8).length + a0.Sub.length ≤ 9223372036854775807)<|.rt (([115, 117, 98, 61] : List UInt8) ++ a0.Sub))<|.br (a0.Kind == 5) (.ok (([115, 117, 98, 43, 61] : List UInt8).length + a0.Sub.length ≤ 9223372036854775807)<|.rt (([115, 117, 98, 43, 61] : List UInt8) ++ a0.Sub))<|.br (a0.Kind == 6) (.call (Zado a0.N) fun x26=>.ok (([99, 111, 108, 111, 114, 115, 61] : List UInt8).length + x26.length ≤ 9223372036854775807)<|.rt (([99, 111, 108, 111, 114, 115, 61] : List UInt8) ++ x26))<|.br (a0.Kind == 7) (.call (Zado a0.N) fun x32=>.ok (([99, 111, 108, 111, 114, 115, 43, 61] : List UInt8).length + x32.length ≤ 9223372036854775807)<|.rt (([99, 111, 108, 111, 114, 115, 43, 61] : List UInt8) ++ x32))<|.br (a0.Kind == 8) (.call (Zadr a0.N) fun x38=>.ok (([107, 101, 121, 115, 43, 61] : List UInt8).length + x38.length ≤ 9223372036854775807)<|.rt (([107, 101, 121, 115, 43, 61] : List UInt8) ++ x38))<|.br (a0.Kind == 9) (.call (Zadr a0.N) fun x44=>.ok (([107, 101, 121, 115, 45, 61] : List UInt8).length + x44.length ≤ 9223372036854775807)<|.rt (([107, 101, 121, 115, 45, 61] : List UInt8) ++ x44))<|.br (a0.Kind == 10) (.rt ([98, 108, 97, 110, 107] : List UInt8))<|.br (a0.Kind == 11) (.call (Zayx a0.Filter) fun x51=>.ok (([112, 116, 61, 99, 111, 117, 110, 116, 40] : List UInt8).length + x51.length ≤ 9223372036854775807)<|.ok ((([112, 116, 61, 99, 111, 117, 110, 116, 40] : List UInt8) ++ x51).length + ([41] : List UInt8).length ≤ 9223372036854775807)<|.rt ((([112, 116, 61, 99, 111, 117, 110, 116, 40] : List UInt8) ++ x51) ++ ([41] : List UInt8)))<|.br (a0.Kind == 12) (.call (Zj2 a0.N) fun x58=>.ok (([112, 116, 61] : List UInt8).length + x58.length ≤ 9223372036854775807)<|.ok ((([112, 116, 61] : List UInt8) ++ x58).length + ([47] : List UInt8).length ≤ 9223372036854775807)<|.call (Zj2 a0.M) fun x65=>.ok (((([112, 116, 61] : List UInt8) ++ x58) ++ ([47] : List UInt8)).length + x65.length ≤ 9223372036854775807)<|.rt (((([112, 116, 61] : List UInt8) ++ x58) ++ ([47] : List UInt8)) ++ x65))<|.br (a0.Kind == 13) (.call (Zj2 a0.N) fun x71=>.ok (([112, 116, 43, 61] : List UInt8).length + x71.length ≤ 9223372036854775807)<|.ok ((([112, 116, 43, 61] : List UInt8) ++ x71).length + ([47] : List UInt8).length ≤ 9223372036854775807)<|.call (Zj2 a0.M) fun x78=>.ok (((([112, 116, 43, 61] : List UInt8) ++ x71) ++ ([47] : List UInt8)).length + x78.length ≤ 9223372036854775807)<|.rt (((([112, 116, 43, 61] : List UInt8) ++ x71) ++ ([47] : List UInt8)) ++ x78))<|.rt ([112, 116, 45, 115, 119, 105, 116, 99, 104] : List UInt8)
def Zakk : LF Empty (List UInt8) := .z 147 [.t 2] false (fun r => []) (fun r => (wS r))
def Zagu (a0 : Zr) : Option (List UInt8) := Zakk.run (Zakj a0)
theorem Zadu (a0 : Zr) {r : (List UInt8)} (h : Zagu a0 = some r) : Fn PR 147 [(wA (Z1 a0))] (wS r) := Zakk.fn h
inductive Zie where
 | L0 (v0 : (List Zr)) (v3 : (List UInt8)) (v4 : Int)
def Zpc (v0 : (List Zr)) (v3 : (List UInt8)) (v4 : Int) : LT Zie (List UInt8) :=
.len Z1 v0<|.br (decide (v4 < (v0.length : Int))) (.idx Z1 v0 v4 fun x3=>.call (Z85 x3) fun x5=>.br (!x5) (.rt ([] : List UInt8))<|.br (decide (v4 > 0)) (.ok (v3.length + ([44, 32] : List UInt8).length ≤ 9223372036854775807)<|.ag Z1 x3 0<|.call (Zadu x3) fun x11=>.ok ((v3 ++ ([44, 32] : List UInt8)).length + x11.length ≤ 9223372036854775807)<|.g0 (.L0 v0 ((v3 ++ ([44, 32] : List UInt8)) ++ x11) (IntKind.wrap .i64 (v4 + 1))))<|.ag Z1 x3 0<|.call (Zadu x3) fun x17=>.ok (v3.length + x17.length ≤ 9223372036854775807)<|.g0 (.L0 v0 (v3 ++ x17) (IntKind.wrap .i64 (v4 + 1))))<|.rt v3
def Z24 (a0 : (List Zr)) : LT Zie (List UInt8) :=
.len Z1 a0<|.cs ((a0.length : Int) == 0) (.k4 0<|.kn [0]<|.rt ([] : List UInt8))<|.k2 0<|.len Z1 a0<|.k2 0<|.br (decide ((a0.length : Int) > 6)) (.rt ([] : List UInt8))<|.g0 (.L0 a0 ([] : List UInt8) 0)
def Z25 : LF Zie (List UInt8) := ⟨97, [.t 2], false, fun | .L0 .. => [1,1,1,0,1,4],
 fun | .L0 v0 v3 v4 => ⟨37, [(0, (wL Z1 v0)), (3, (wS v3)), (4, (wI v4))], []⟩,
 fun r => [], fun r => (wS r), fun | .L0 v0 v3 v4 => Zpc v0 v3 v4⟩
def Zwt (a0 : (List Zr)) : Option (List UInt8) := Z25.run (Z24 a0)
theorem Zpd (a0 : (List Zr)) {r : (List UInt8)} (h : Zwt a0 = some r) : Fn PR 97 [(wL Z1 a0)] (wS r) := Z25.fn h
def Zadv (a0 : Zfq) : LT Empty Bool :=
.lb 1001<|.call (Zsv a0.Mana) fun x1=>.cs x1 (.k5 0<|.cs (a0.Mana.X == 0) (.k4 1<|.cs (decide (a0.Life ≥ 0)) (.k4 2<|.rt (decide (a0.Life ≤ 99)))<|.k4 2<|.rt false)<|.k4 1<|.b4 false<|.rt false)<|.k5 0<|.b8 false<|.rt false
def Zadw : LF Empty Bool := .z 133 [.t 2] false (fun r => []) (fun r => (wB r))
def Z89 (a0 : Zfq) : Option Bool := Zadw.run (Zadv a0)
theorem Zavh (a0 : Zfq) {r : Bool} (h : Z89 a0 = some r) : Fn PR 133 [(wA (Zfg a0))] (wB r) := Zadw.fn h
def Zakl (a0 : Int) : LT Empty (List UInt8) :=
.br (a0 == 1) (.rt ([101, 110, 116, 101, 114, 115] : List UInt8))<|.br (a0 == 2) (.rt ([108, 101, 97, 118, 101, 115] : List UInt8))<|.br (a0 == 3) (.rt ([100, 105, 101, 115] : List UInt8))<|.br (a0 == 4) (.rt ([97, 116, 116, 97, 99, 107, 115] : List UInt8))<|.br (a0 == 5) (.rt ([98, 108, 111, 99, 107, 115] : List UInt8))<|.br (a0 == 6) (.rt ([100, 101, 97, 108, 115] : List UInt8))<|.br (a0 == 7) (.rt ([100, 101, 97, 108, 116] : List UInt8))<|.br (a0 == 8) (.rt ([100, 114, 97, 119, 115] : List UInt8))<|.br (a0 == 9) (.rt ([99, 97, 115, 116, 115] : List UInt8))<|.br (a0 == 10) (.rt ([117, 112, 107, 101, 101, 112] : List UInt8))<|.br (a0 == 11) (.rt ([101, 110, 100] : List UInt8))<|.br (a0 == 12) (.rt ([103, 97, 105, 110, 115] : List UInt8))<|.br (a0 == 13) (.rt ([108, 111, 115, 101, 115] : List UInt8))<|.br (a0 == 14) (.rt ([112, 108, 97, 99, 101, 100] : List UInt8))<|.rt ([] : List UInt8)
def Zakm : LF Empty (List UInt8) := .z 165 [.t 2] false (fun r => []) (fun r => (wS r))
def Zagv (a0 : Int) : Option (List UInt8) := Zakm.run (Zakl a0)
theorem Zadx (a0 : Int) {r : (List UInt8)} (h : Zagv a0 = some r) : Fn PR 165 [(wI a0)] (wS r) := Zakm.fn h
def Z9a (a0 : Int) : LT Empty Bool :=
.cs (a0 == 8) (.k3 0<|.b8 true<|.b4 true<|.rt true)<|.k3 0<|.cs (a0 == 9) (.k3 1<|.b8 true<|.kb true<|.rt true)<|.k3 1<|.cs (a0 == 10) (.k3 2<|.b5 true<|.kb true<|.rt true)<|.k3 2<|.cs (a0 == 11) (.k3 3<|.b3 true<|.rt true)<|.k3 3<|.cs (a0 == 12) (.k3 4<|.rt true)<|.k3 4<|.rt (a0 == 13)
def Z9b : LF Empty Bool := .z 166 [.t 2] false (fun r => []) (fun r => (wB r))
def Z44 (a0 : Int) : Option Bool := Z9b.run (Z9a a0)
theorem Z6n (a0 : Int) {r : Bool} (h : Z44 a0 = some r) : Fn PR 166 [(wI a0)] (wB r) := Z9b.fn h
def Zzv (a0 : Int) : LT Empty Bool :=
.call (Zadx a0) fun x1=>.cs (!(x1 == ([] : List UInt8))) (.k2 0<|.call (Z6n a0) fun x4=>.k2 0<|.cs (!x4) (.k2 1<|.kg 0<|.kg 1<|.kg 0<|.rt true)<|.k2 1<|.kg 0<|.kg 1<|.kg 0<|.rt (a0 == 9))<|.k5 0<|.kg 0<|.rt false
def Zzw : LF Empty Bool := .z 167 [.t 2] false (fun r => []) (fun r => (wB r))
def Zt9 (a0 : Int) : Option Bool := Zzw.run (Zzv a0)
theorem Zagw (a0 : Int) {r : Bool} (h : Zt9 a0 = some r) : Fn PR 167 [(wI a0)] (wB r) := Zzw.fn h
inductive Zwu where
 | L0 (E0 : Zcb)
def Zs5 (E0 : Zcb) : LT Zwu Bool :=
.call (Zagw E0.When) fun x1=>.br (!x1) (.rt (Zau (Zn E0.Filter) (Zn (⟨0, 0, 0, 0, 0, 0, 0, ([] : List UInt8), 0, 0, (⟨0, 0⟩ : Zd), (⟨0, 0⟩ : Zd), (⟨0, 0⟩ : Zd)⟩ : Ze))))<|.br (E0.When == 9) (.call (Zel E0.Filter) fun x5=>.cs x5 (.k5 2<|.kg 2<|.rt (E0.Filter.Zone == 5))<|.k5 2<|.kg 2<|.rt false)<|.call (Zel E0.Filter) fun x8=>.cs x8 (.k5 2<|.kg 2<|.rt (E0.Filter.Zone == 0))<|.k5 2<|.kg 2<|.rt false
def Zavi (a0 : Zcb) : LT Zwu Bool :=
.lb 1001<|.call (Zadx a0.When) fun x1=>.cs (x1 == ([] : List UInt8)) (.k4 0<|.b8 true<|.b3 true<|.kn [0]<|.rt false)<|.k4 0<|.cs (decide (a0.Who < 0)) (.k4 1<|.b5 true<|.b2 true<|.kn [0]<|.rt false)<|.k4 1<|.cs (decide (a0.Who > 2)) (.k5 2<|.k2 2<|.kn [0]<|.rt false)<|.k3 2<|.call (Z6n a0.When) fun x6=>.k2 2<|.cs (!x6) (.k3 3<|.kg 2<|.kg 3<|.kg 2<|.br (a0.Who != 0) (.rt false)<|.jn 0 (.L0 a0) [.relab 1001 30000000] (Zs5 a0))<|.k3 3<|.kg 2<|.kg 3<|.kg 2<|.kn [0]<|.jn 0 (.L0 a0) [.relab 1001 30000000] (Zs5 a0)
def Zavj : LF Zwu Bool := ⟨134, [.t 2], false, fun | .L0 .. => [1,1],
 fun | .L0 E0 => ⟨50, [(1, (.bptr 30000000 0))], [(30000000, .box (bx (Zdm E0)))]⟩,
 fun r => [], fun r => (wB r), fun | .L0 E0 => Zs5 E0⟩
def Zavk (a0 : Zcb) : Option Bool := Zavj.run (Zavi a0)
theorem Za34 (a0 : Zcb) {r : Bool} (h : Zavk a0 = some r) : Fn PR 134 [(wA (Zdm a0))] (wB r) := Zavj.fn h
def Zady (a0 : Ze) : LT Empty Bool :=
.lb 1001<|.call (Zel a0) fun x1=>.cs x1 (.k4 0<|.rt (a0.Zone == 0))<|.k4 0<|.rt false
def Zadz : LF Empty Bool := .z 170 [.t 2] false (fun r => []) (fun r => (wB r))
def Z9c (a0 : Ze) : Option Bool := Zadz.run (Zady a0)
theorem Zwv (a0 : Ze) {r : Bool} (h : Z9c a0 = some r) : Fn PR 170 [(wA (Zn a0))] (wB r) := Zadz.fn h
def Zad0 (a0 : Zaz) : LT Empty Bool :=
.lb 1001<|.cs (a0.Who != 0) (.k5 0<|.kn [0]<|.rt false)<|.k3 0<|.call (Zwv a0.Filter) fun x2=>.k2 0<|.br (!x2) (.rt false)<|.br (a0.Do == 5) (.cs (a0.N == 0) (.k4 3<|.cs (a0.Counter == 0) (.k4 4<|.cs (a0.Zone == 1) (.k3 5<|.kg 4<|.kg 5<|.kg 4<|.b3 true<|.kg 4<|.kb true<|.kg 4<|.rt true)<|.k3 5<|.kg 4<|.kg 5<|.kg 4<|.cs (a0.Zone == 2) (.k3 6<|.kg 4<|.kg 6<|.kg 4<|.rt true)<|.k3 6<|.kg 4<|.kg 6<|.kg 4<|.rt (a0.Zone == 4))<|.k8 4<|.rt false)<|.k4 3<|.b8 false<|.rt false)<|.br (a0.Do == 6) (.cs (a0.N == 0) (.k4 4<|.cs (a0.Counter == 0) (.k4 5<|.rt (a0.Zone == 0))<|.k4 5<|.rt false)<|.k4 4<|.b4 false<|.rt false)<|.br (a0.Do == 7) (.cs (a0.Zone == 0) (.k4 5<|.cs (decide (a0.N ≥ 1)) (.k4 6<|.cs (decide (a0.N ≤ 99)) (.k4 7<|.cs (decide (a0.Counter ≥ 0)) (.k4 8<|.rt (decide (a0.Counter < 3)))<|.k4 8<|.rt false)<|.k4 7<|.b4 false<|.rt false)<|.k4 6<|.b8 false<|.rt false)<|.k4 5<|.b8 false<|.b4 false<|.rt false)<|.rt false
def Zad1 : LF Empty Bool := .z 168 [.t 2] false (fun r => []) (fun r => (wB r))
def Z9d (a0 : Zaz) : Option Bool := Zad1.run (Zad0 a0)
theorem Zavl (a0 : Zaz) {r : Bool} (h : Z9d a0 = some r) : Fn PR 168 [(wA (Zbz a0))] (wB r) := Zad1.fn h
def Zad2 (a0 : Zaz) : LT Empty Bool :=
.lb 1001<|.cs (a0.Zone != 0) (.k4 0<|.kn [0]<|.rt false)<|.k4 0<|.br (a0.Counter != 0) (.rt false)<|.cs (a0.Do == 2) (.k4 2<|.kn [0]<|.cs (decide (a0.N ≥ 1)) (.k4 3<|.rt (decide (a0.N ≤ 99)))<|.k4 3<|.rt false)<|.k4 2<|.br (a0.Do == 4) (.cs (decide (a0.N ≥ 1)) (.k4 4<|.rt (decide (a0.N ≤ 99)))<|.k4 4<|.rt false)<|.rt (a0.N == 0)
def Zad3 : LF Empty Bool := .z 169 [.t 2] false (fun r => []) (fun r => (wB r))
def Z9e (a0 : Zaz) : Option Bool := Zad3.run (Zad2 a0)
theorem Zavm (a0 : Zaz) {r : Bool} (h : Z9e a0 = some r) : Fn PR 169 [(wA (Zbz a0))] (wB r) := Zad3.fn h
inductive Znu where
 | L0 (E0 : Zaz) (v3 : Bool) (v4 : Bool)
 | L1 (E0 : Zaz) (v3 : Bool)
 | L2 (E0 : Zaz) (v3 : Bool) (v4 : Bool) (v109 : Bool)
def Zoc (E0 : Zaz) (v3 : Bool) (v4 : Bool) (v109 : Bool) : LT Znu Bool :=
.br v109 (.cs v4 (.k4 1<|.cs (decide (E0.Who ≥ 0)) (.k4 2<|.cs (decide (E0.Who ≤ 2)) (.k2 3<|.rt v3)<|.k2 3<|.rt false)<|.k4 2<|.b2 false<|.rt false)<|.k4 1<|.b5 false<|.kb false<|.rt false)<|.rt false
def Zku (E0 : Zaz) (v3 : Bool) : LT Znu Bool :=
.cs (E0.Who == 0) (.k3 0<|.call (Zwv E0.Filter) fun x2=>.kg 0<|.cs x2 (.k8 1<|.rt true)<|.k4 1<|.cs (E0.Who == 1) (.k3 2<|.kg 1<|.kg 2<|.kg 1<|.kb true<|.kg 1<|.kb true<|.kg 1<|.rt v3)<|.k3 2<|.kg 1<|.kg 2<|.kg 1<|.cs (E0.Who == 2) (.kg 3<|.kg 1<|.kg 3<|.kg 1<|.rt v3)<|.kg 3<|.kg 1<|.kg 3<|.kg 1<|.rt false)<|.k4 0<|.b4 false<|.cs (E0.Who == 1) (.k3 1<|.kb false<|.kg 1<|.kb false<|.kb true<|.kb false<|.kb true<|.kb false<|.rt v3)<|.k3 1<|.kb false<|.kg 1<|.kb false<|.cs (E0.Who == 2) (.kg 2<|.kb false<|.kg 2<|.kb false<|.rt v3)<|.kg 2<|.kb false<|.kg 2<|.kb false<|.rt false
def Zod (E0 : Zaz) (v3 : Bool) (v4 : Bool) : LT Znu Bool :=
.br (E0.On == 1) (.cs (E0.Do != 1) (.k4 1<|.cs (E0.Do != 2) (.k4 2<|.cs (E0.Do != 3) (.k4 3<|.br (E0.Do != 4) (.rt false)<|.j0 (.L1 E0 v3) (Zku E0 v3))<|.k4 3<|.kn [0]<|.j0 (.L1 E0 v3) (Zku E0 v3))<|.k4 2<|.b4 false<|.kn [0]<|.j0 (.L1 E0 v3) (Zku E0 v3))<|.k4 1<|.b8 false<|.kn [0]<|.j0 (.L1 E0 v3) (Zku E0 v3))<|.br (E0.On == 8) (.cs v4 (.k4 2<|.cs (E0.Who == 0) (.k3 3<|.call (Zwv E0.Filter) fun x9=>.kg 3<|.rt x9)<|.k4 3<|.rt false)<|.k4 2<|.b4 false<|.rt false)<|.br (E0.On == 3) (.cs (E0.Do == 4) (.k4 3<|.b4 true<|.cs (decide (E0.Who ≥ 0)) (.k4 4<|.cs (decide (E0.Who ≤ 2)) (.k2 5<|.rt v3)<|.k2 5<|.rt false)<|.k4 4<|.b2 false<|.rt false)<|.k4 3<|.cs (E0.Do == 8) (.k4 4<|.cs (decide (E0.Who ≥ 0)) (.k4 5<|.cs (decide (E0.Who ≤ 2)) (.k2 6<|.rt v3)<|.k2 6<|.rt false)<|.k4 5<|.b2 false<|.rt false)<|.k4 4<|.b5 false<|.kb false<|.rt false)<|.br (E0.On == 4) (.j0 (.L2 E0 v3 v4 (E0.On == 4)) (Zoc E0 v3 v4 (E0.On == 4)))<|.br (E0.On == 5) (.j0 (.L2 E0 v3 v4 (E0.On == 5)) (Zoc E0 v3 v4 (E0.On == 5)))<|.j0 (.L2 E0 v3 v4 (E0.On == 10)) (Zoc E0 v3 v4 (E0.On == 10))
def Zavn (a0 : Zaz) : LT Znu Bool :=
.lb 1001<|.br (a0.On == 2) (.call (Zavl a0) fun x2=>.rt x2)<|.call (Zavm a0) fun x4=>.br (!x4) (.rt false)<|.cs (a0.Do == 3) (.k4 2<|.b4 true<|.jn 0 (.L0 a0 (Zau (Zn a0.Filter) (Zn (⟨0, 0, 0, 0, 0, 0, 0, ([] : List UInt8), 0, 0, (⟨0, 0⟩ : Zd), (⟨0, 0⟩ : Zd), (⟨0, 0⟩ : Zd)⟩ : Ze))) true) [.relab 1001 30000000] (Zod a0 (Zau (Zn a0.Filter) (Zn (⟨0, 0, 0, 0, 0, 0, 0, ([] : List UInt8), 0, 0, (⟨0, 0⟩ : Zd), (⟨0, 0⟩ : Zd), (⟨0, 0⟩ : Zd)⟩ : Ze))) true))<|.k4 2<|.cs (a0.Do == 4) (.k4 3<|.jn 0 (.L0 a0 (Zau (Zn a0.Filter) (Zn (⟨0, 0, 0, 0, 0, 0, 0, ([] : List UInt8), 0, 0, (⟨0, 0⟩ : Zd), (⟨0, 0⟩ : Zd), (⟨0, 0⟩ : Zd)⟩ : Ze))) true) [.relab 1001 30000000] (Zod a0 (Zau (Zn a0.Filter) (Zn (⟨0, 0, 0, 0, 0, 0, 0, ([] : List UInt8), 0, 0, (⟨0, 0⟩ : Zd), (⟨0, 0⟩ : Zd), (⟨0, 0⟩ : Zd)⟩ : Ze))) true))<|.k4 3<|.jn 0 (.L0 a0 (Zau (Zn a0.Filter) (Zn (⟨0, 0, 0, 0, 0, 0, 0, ([] : List UInt8), 0, 0, (⟨0, 0⟩ : Zd), (⟨0, 0⟩ : Zd), (⟨0, 0⟩ : Zd)⟩ : Ze))) (a0.Do == 8)) [.relab 1001 30000000] (Zod a0 (Zau (Zn a0.Filter) (Zn (⟨0, 0, 0, 0, 0, 0, 0, ([] : List UInt8), 0, 0, (⟨0, 0⟩ : Zd), (⟨0, 0⟩ : Zd), (⟨0, 0⟩ : Zd)⟩ : Ze))) (a0.Do == 8))
def Zavo : LF Znu Bool := ⟨135, [.t 2], false, fun | .L0 .. => [1,1,1,1,1] | .L1 .. => [1,1,1,1,1,0,1,4,1,2,1] | .L2 .. => [1,1,1,1,1,0,1,4,1,3,1,3,1,3,1],
 fun | .L0 E0 v3 v4 => ⟨127, [(1, (.bptr 30000000 0)), (3, (wB v3)), (4, (wB v4))], [(30000000, .box (bx (Zbz E0)))]⟩ | .L1 E0 v3 => ⟨127, [(1, (.bptr 30000000 0)), (3, (wB v3))], [(30000000, .box (bx (Zbz E0)))]⟩ | .L2 E0 v3 v4 v109 => ⟨127, [(1, (.bptr 30000000 0)), (3, (wB v3)), (4, (wB v4)), (109, (wB v109))], [(30000000, .box (bx (Zbz E0)))]⟩,
 fun r => [], fun r => (wB r), fun | .L0 E0 v3 v4 => Zod E0 v3 v4 | .L1 E0 v3 => Zku E0 v3 | .L2 E0 v3 v4 v109 => Zoc E0 v3 v4 v109⟩
def Zavp (a0 : Zaz) : Option Bool := Zavo.run (Zavn a0)
theorem Za35 (a0 : Zaz) {r : Bool} (h : Zavp a0 = some r) : Fn PR 135 [(wA (Zbz a0))] (wB r) := Zavo.fn h
def Zakn (a0 : Zcy) : LT Empty Bool :=
.lb 1001<|.br (!a0.Object) (.cs a0.Player (.k5 1<|.rt (Zau (Zn a0.Filter) (Zn (⟨0, 0, 0, 0, 0, 0, 0, ([] : List UInt8), 0, 0, (⟨0, 0⟩ : Zd), (⟨0, 0⟩ : Zd), (⟨0, 0⟩ : Zd)⟩ : Ze))))<|.k5 1<|.rt false)<|.call (Zel a0.Filter) fun x3=>.cs x3 (.k3 1<|.cs (a0.Filter.Zone == 0) (.k2 2<|.kg 1<|.kg 2<|.kg 1<|.b2 true<|.kg 1<|.kb true<|.kg 1<|.rt true)<|.k2 2<|.kg 1<|.kg 2<|.kg 1<|.cs (a0.Filter.Zone == 3) (.k2 3<|.kg 1<|.kg 3<|.kg 1<|.rt true)<|.k2 3<|.kg 1<|.kg 3<|.kg 1<|.rt (a0.Filter.Zone == 5))<|.k5 1<|.k2 1<|.rt false
def Zako : LF Empty Bool := .z 171 [.t 2] false (fun r => []) (fun r => (wB r))
def Zagx (a0 : Zcy) : Option Bool := Zako.run (Zakn a0)
theorem Zayy (a0 : Zcy) {r : Bool} (h : Zagx a0 = some r) : Fn PR 171 [(wA (Za8 a0))] (wB r) := Zako.fn h
inductive Zmh where
 | L0 (v0 : (List Zcy)) (v3 : Int)
def Zww (v0 : (List Zcy)) (v3 : Int) : LT Zmh Bool :=
.len Za8 v0<|.br (decide (v3 < (v0.length : Int))) (.idx Za8 v0 v3 fun x3=>.call (Zayy x3) fun x5=>.br (!x5) (.rt false)<|.g0 (.L0 v0 (IntKind.wrap .i64 (v3 + 1))))<|.len Za8 v0<|.rt (decide ((v0.length : Int) ≤ 4))
def Zad4 (a0 : (List Zcy)) : LT Zmh Bool :=
.g0 (.L0 a0 0)
def Zad5 : LF Zmh Bool := ⟨136, [.t 2], false, fun | .L0 .. => [1,0,1,4],
 fun | .L0 v0 v3 => ⟨19, [(0, (wL Za8 v0)), (3, (wI v3))], []⟩,
 fun r => [], fun r => (wB r), fun | .L0 v0 v3 => Zww v0 v3⟩
def Z9f (a0 : (List Zcy)) : Option Bool := Zad5.run (Zad4 a0)
theorem Zavq (a0 : (List Zcy)) {r : Bool} (h : Z9f a0 = some r) : Fn PR 136 [(wL Za8 a0)] (wB r) := Zad5.fn h
def Zakp (a0 : Int) : LT Empty (List UInt8) :=
.cs (decide (a0 < 1)) (.k3 0<|.kn [0]<|.rt ([] : List UInt8))<|.k3 0<|.br (decide (a0 > 26)) (.rt ([] : List UInt8))<|.dr [.lit]<|.idx cS [([100, 97, 109, 97, 103, 101] : List UInt8), ([100, 101, 115, 116, 114, 111, 121] : List UInt8), ([109, 111, 118, 101] : List UInt8), ([100, 114, 97, 119] : List UInt8), ([100, 105, 115, 99, 97, 114, 100] : List UInt8), ([103, 97, 105, 110] : List UInt8), ([108, 111, 115, 101] : List UInt8), ([116, 97, 112] : List UInt8), ([117, 110, 116, 97, 112] : List UInt8), ([112, 117, 116] : List UInt8), ([116, 97, 107, 101] : List UInt8), ([99, 114, 101, 97, 116, 101] : List UInt8), ([109, 111, 100] : List UInt8), ([109, 97, 110, 97] : List UInt8), ([99, 111, 117, 110, 116, 101, 114] : List UInt8), ([99, 111, 112, 121] : List UInt8), ([98, 101, 99, 111, 109, 101] : List UInt8), ([115, 97, 99, 114, 105, 102, 105, 99, 101] : List UInt8), ([109, 105, 108, 108] : List UInt8), ([115, 99, 114, 121] : List UInt8), ([115, 101, 97, 114, 99, 104] : List UInt8), ([115, 104, 105, 101, 108, 100] : List UInt8), ([116, 117, 114, 110] : List UInt8), ([119, 105, 110] : List UInt8), ([100, 101, 102, 101, 97, 116] : List UInt8), ([118, 101, 110, 111, 109] : List UInt8)] (IntKind.wrap .i64 (a0 - 1)) fun x6=>.rt x6
def Zakq : LF Empty (List UInt8) := .z 190 [.t 2] false (fun r => []) (fun r => (wS r))
def Zagy (a0 : Int) : Option (List UInt8) := Zakq.run (Zakp a0)
theorem Zayz (a0 : Int) {r : (List UInt8)} (h : Zagy a0 = some r) : Fn PR 190 [(wI a0)] (wS r) := Zakq.fn h
inductive Zlj where
 | L0 (v3 : Int) (v4 : Bool)
 | L1 (v3 : Int) (v14 : Bool)
def Zmi (v3 : Int) (v14 : Bool) : LT Zlj (List UInt8) :=
.br v14 (.rt ([114, 107, 97] : List UInt8))<|.br (v3 == 12) (.rt ([114, 99, 97] : List UInt8))<|.br (v3 == 13) (.rt ([114, 109] : List UInt8))<|.br (v3 == 14) (.rt ([112] : List UInt8))<|.br (v3 == 18) (.rt ([114, 97, 102] : List UInt8))<|.br (v3 == 20) (.rt ([97] : List UInt8))<|.br (v3 == 21) (.rt ([102] : List UInt8))<|.br (v3 == 23) (.kn [8]<|.rt ([] : List UInt8))<|.br (v3 == 24) (.rt ([] : List UInt8))<|.rt ([114, 97] : List UInt8)
def Zeq (v3 : Int) (v4 : Bool) : LT Zlj (List UInt8) :=
.br v4 (.rt ([114] : List UInt8))<|.br (v3 == 3) (.rt ([114, 122] : List UInt8))<|.br (v3 == 10) (.j0 (.L1 v3 (v3 == 10)) (Zmi v3 (v3 == 10)))<|.j0 (.L1 v3 (v3 == 11)) (Zmi v3 (v3 == 11))
def Zakr (a0 : Int) : LT Zlj (List UInt8) :=
.br (a0 == 2) (.j0 (.L0 a0 (a0 == 2)) (Zeq a0 (a0 == 2)))<|.br (a0 == 8) (.j0 (.L0 a0 (a0 == 8)) (Zeq a0 (a0 == 8)))<|.br (a0 == 9) (.j0 (.L0 a0 (a0 == 9)) (Zeq a0 (a0 == 9)))<|.br (a0 == 15) (.j0 (.L0 a0 (a0 == 15)) (Zeq a0 (a0 == 15)))<|.br (a0 == 16) (.j0 (.L0 a0 (a0 == 16)) (Zeq a0 (a0 == 16)))<|.br (a0 == 17) (.j0 (.L0 a0 (a0 == 17)) (Zeq a0 (a0 == 17)))<|.j0 (.L0 a0 (a0 == 25)) (Zeq a0 (a0 == 25))
def Zaks : LF Zlj (List UInt8) := ⟨212, [.t 2], false, fun | .L0 .. => [1,0,1,4,1] | .L1 .. => [1,0,1,4,1,3,1,3,1],
 fun | .L0 v3 v4 => ⟨32, [(3, (wI v3)), (4, (wB v4))], []⟩ | .L1 v3 v14 => ⟨32, [(3, (wI v3)), (14, (wB v14))], []⟩,
 fun r => [], fun r => (wS r), fun | .L0 v3 v4 => Zeq v3 v4 | .L1 v3 v14 => Zmi v3 v14⟩
def Zagz (a0 : Int) : Option (List UInt8) := Zaks.run (Zakr a0)
theorem Zay0 (a0 : Int) {r : (List UInt8)} (h : Zagz a0 = some r) : Fn PR 212 [(wI a0)] (wS r) := Zaks.fn h
inductive Zpe where
 | L0 (v1 : Int) (v5 : (List UInt8)) (v6 : Int)
def Z09 (v1 : Int) (v5 : (List UInt8)) (v6 : Int) : LT Zpe Bool :=
.lenS v5<|.br (decide (v6 < (v5.length : Int))) (.idxS v5 v6 fun x3=>.br ((UInt8.toNat x3 : Int) == v1) (.rt true)<|.g0 (.L0 v1 v5 (IntKind.wrap .i64 (v6 + 1))))<|.rt false
def Zakt (a0 : Int) (a1 : Int) : LT Zpe Bool :=
.call (Zay0 a0) fun x1=>.g0 (.L0 a1 x1 0)
def Zaku : LF Zpe Bool := ⟨191, [.t 4], false, fun | .L0 .. => [1,1,0,1,4],
 fun | .L0 v1 v5 v6 => ⟨20, [(1, (.t (.int .u8 v1))), (5, (wS v5)), (6, (wI v6))], []⟩,
 fun r => [], fun r => (wB r), fun | .L0 v1 v5 v6 => Z09 v1 v5 v6⟩
def Zag0 (a0 : Int) (a1 : Int) : Option Bool := Zaku.run (Zakt a0 a1)
theorem Zgl (a0 : Int) (a1 : Int) {r : Bool} (h : Zag0 a0 a1 = some r) : Fn PR 191 [(wI a0), (.t (.int .u8 a1))] (wB r) := Zaku.fn h
def Z26 (a0 : Int) : LT Empty Bool :=
.cs (a0 == 3) (.k3 0<|.rt true)<|.k3 0<|.rt (a0 == 8)
def Z27 : LF Empty Bool := .z 213 [.t 2] false (fun r => []) (fun r => (wB r))
def Zwx (a0 : Int) : Option Bool := Z27.run (Z26 a0)
theorem Zakv (a0 : Int) {r : Bool} (h : Zwx a0 = some r) : Fn PR 213 [(wI a0)] (wB r) := Z27.fn h
inductive Zqy where
 | L0 (v1 : Int) (E0 : Zak)
 | L1 (E0 : Zak)
def Zs6 (E0 : Zak) : LT Zqy Bool :=
.br (E0.Kind == 4) (.call (Zel E0.Filter) fun x2=>.rt x2)<|.rt (Zau (Zn E0.Filter) (Zn (⟨0, 0, 0, 0, 0, 0, 0, ([] : List UInt8), 0, 0, (⟨0, 0⟩ : Zd), (⟨0, 0⟩ : Zd), (⟨0, 0⟩ : Zd)⟩ : Ze)))
def Zs7 (v1 : Int) (E0 : Zak) : LT Zqy Bool :=
.cs (decide (E0.Kind < 1)) (.k4 0<|.kn [0]<|.rt false)<|.k4 0<|.br (decide (E0.Kind > 8)) (.rt false)<|.call (Zakv E0.Kind) fun x3=>.br x3 (.cs (decide (E0.N < 1)) (.k5 3<|.kn [0]<|.rt false)<|.k5 3<|.br (decide (E0.N > v1)) (.rt false)<|.j0 (.L1 E0) (Zs6 E0))<|.br (E0.N != 0) (.rt false)<|.j0 (.L1 E0) (Zs6 E0)
def Zavr (a0 : Zak) (a1 : Int) : LT Zqy Bool :=
.lb 1002<|.br (decide (a1 > 4)) (.jn 0 (.L0 4 a0) [.relab 1002 30000000] (Zs7 4 a0))<|.jn 0 (.L0 a1 a0) [.relab 1002 30000000] (Zs7 a1 a0)
def Zavs : LF Zqy Bool := ⟨192, [.t 4], false, fun | .L0 .. => [1,1] | .L1 .. => [1,1,1,1],
 fun | .L0 v1 E0 => ⟨40, [(1, (wI v1)), (2, (.bptr 30000000 0))], [(30000000, .box (bx (Zbg E0)))]⟩ | .L1 E0 => ⟨40, [(2, (.bptr 30000000 0))], [(30000000, .box (bx (Zbg E0)))]⟩,
 fun r => [], fun r => (wB r), fun | .L0 v1 E0 => Zs7 v1 E0 | .L1 E0 => Zs6 E0⟩
def Zavt (a0 : Zak) (a1 : Int) : Option Bool := Zavs.run (Zavr a0 a1)
theorem Za36 (a0 : Zak) (a1 : Int) {r : Bool} (h : Zavt a0 a1 = some r) : Fn PR 192 [(wA (Zbg a0)), (wI a1)] (wB r) := Zavs.fn h
def Zakw (a0 : Int) : LT Empty (List UInt8) :=
.br (a0 == 0) (.rt ([112, 108, 117, 115] : List UInt8))<|.br (a0 == 1) (.rt ([109, 105, 110, 117, 115] : List UInt8))<|.br (a0 == 2) (.rt ([99, 104, 97, 114, 103, 101] : List UInt8))<|.rt ([] : List UInt8)
def Zakx : LF Empty (List UInt8) := .z 46 [.t 2] false (fun r => []) (fun r => (wS r))
def Zag1 (a0 : Int) : Option (List UInt8) := Zakx.run (Zakw a0)
theorem Zad6 (a0 : Int) {r : (List UInt8)} (h : Zag1 a0 = some r) : Fn PR 46 [(wI a0)] (wS r) := Zakx.fn h
def Zavu (a0 : Zw) : LT Empty Bool :=
.lb 1001<|.lb 1003<|.br (a0.Kind == 0) (.cs (decide (a0.N < 0)) (.k4 1<|.kn [0]<|.rt false)<|.k4 1<|.br (decide (a0.N > 1000000)) (.rt false)<|.cs (decide (a0.Kind ≥ 0)) (.k4 3<|.cs (decide (a0.Kind ≤ 7)) (.k5 4<|.kg 4<|.rt (Zau (Zaf (⟨a0.Kind, 0, a0.Counter, a0.Filter⟩ : Zw)) (Zaf (⟨a0.Kind, 0, 0, (⟨0, 0, 0, 0, 0, 0, 0, ([] : List UInt8), 0, 0, (⟨0, 0⟩ : Zd), (⟨0, 0⟩ : Zd), (⟨0, 0⟩ : Zd)⟩ : Ze)⟩ : Zw))))<|.k5 4<|.kg 4<|.rt false)<|.k4 3<|.b5 false<|.kb false<|.rt false)<|.br (a0.Kind == 2) (.cs (decide (a0.N < 1)) (.k4 2<|.b5 true<|.kn [0]<|.rt false)<|.k4 2<|.cs (decide (a0.N > 99)) (.k5 3<|.kn [0]<|.rt false)<|.k3 3<|.call (Zel a0.Filter) fun x9=>.k2 3<|.br (!x9) (.rt false)<|.cs (decide (a0.Kind ≥ 0)) (.k4 5<|.cs (decide (a0.Kind ≤ 7)) (.k5 6<|.kg 6<|.rt (Zau (Zaf (⟨a0.Kind, 0, a0.Counter, (⟨0, 0, 0, 0, 0, 0, 0, ([] : List UInt8), 0, 0, (⟨0, 0⟩ : Zd), (⟨0, 0⟩ : Zd), (⟨0, 0⟩ : Zd)⟩ : Ze)⟩ : Zw)) (Zaf (⟨a0.Kind, 0, 0, (⟨0, 0, 0, 0, 0, 0, 0, ([] : List UInt8), 0, 0, (⟨0, 0⟩ : Zd), (⟨0, 0⟩ : Zd), (⟨0, 0⟩ : Zd)⟩ : Ze)⟩ : Zw))))<|.k5 6<|.kg 6<|.rt false)<|.k4 5<|.b5 false<|.kb false<|.rt false)<|.br (a0.Kind == 4) (.call (Zad6 a0.Counter) fun x15=>.br (x15 == ([] : List UInt8)) (.rt false)<|.cs (decide (a0.Kind ≥ 0)) (.k4 4<|.cs (decide (a0.Kind ≤ 7)) (.k5 5<|.kg 5<|.rt (Zau (Zaf (⟨a0.Kind, a0.N, 0, a0.Filter⟩ : Zw)) (Zaf (⟨a0.Kind, 0, 0, (⟨0, 0, 0, 0, 0, 0, 0, ([] : List UInt8), 0, 0, (⟨0, 0⟩ : Zd), (⟨0, 0⟩ : Zd), (⟨0, 0⟩ : Zd)⟩ : Ze)⟩ : Zw))))<|.k5 5<|.kg 5<|.rt false)<|.k4 4<|.b5 false<|.kb false<|.rt false)<|.cs (decide (a0.Kind ≥ 0)) (.k4 3<|.cs (decide (a0.Kind ≤ 7)) (.k5 4<|.kg 4<|.rt (Zau (Zaf a0) (Zaf (⟨a0.Kind, 0, 0, (⟨0, 0, 0, 0, 0, 0, 0, ([] : List UInt8), 0, 0, (⟨0, 0⟩ : Zd), (⟨0, 0⟩ : Zd), (⟨0, 0⟩ : Zd)⟩ : Ze)⟩ : Zw))))<|.k5 4<|.kg 4<|.rt false)<|.k4 3<|.b5 false<|.kb false<|.rt false
def Zavv : LF Empty Bool := .z 19 [.t 2] false (fun r => []) (fun r => (wB r))
def Zavw (a0 : Zw) : Option Bool := Zavv.run (Zavu a0)
theorem Z9g (a0 : Zw) {r : Bool} (h : Zavw a0 = some r) : Fn PR 19 [(wA (Zaf a0))] (wB r) := Zavv.fn h
def Zaky (a0 : (List Zr)) : LT Empty Bool :=
.call (Zpd a0) fun x1=>.rt (!(x1 == ([] : List UInt8)))
def Zakz : LF Empty Bool := .z 193 [.t 2] false (fun r => []) (fun r => (wB r))
def Zag2 (a0 : (List Zr)) : Option Bool := Zakz.run (Zaky a0)
theorem Zay1 (a0 : (List Zr)) {r : Bool} (h : Zag2 a0 = some r) : Fn PR 193 [(wL Z1 a0)] (wB r) := Zakz.fn h
inductive Zpf where
 | L0 (E0 : (A6 Int)) (E1 : Zp) (E2 : Zp) (v4 : Int)
def Z1a (E0 : (A6 Int)) (E1 : Zp) (E2 : Zp) (v4 : Int) : LT Zpf Zp :=
.br (decide (v4 < 5)) (.idA (Zg.int .i64) (A6.list E0) (IntKind.wrap .i64 (v4 + 1)) (bx ((cA6 (cI .i64)) E0)) 0 6 fun x4=>.ldC (Zg.int .i64) 16 x4 0<|.idA (Zg.int .i64) (A5.list E2.Color) v4 (bx (Zas E2)) 2 7 fun x6=>.stA (A5.set? E2.Color v4 x4) (fun h => Za89 (Zg.int .i64) ((bx (Zas E2)).take 2) ((bx (Zas E2)).drop 7) h) fun x8=>.g0 (.L0 E0 E1 (⟨E2.Generic, E2.X, x8⟩ : Zp) (IntKind.wrap .i64 (v4 + 1))))<|.rt E2
def Zak0 (a0 : (A6 Int)) : LT Zpf Zp :=
.lb 1001<|.lb 1002<|.idA (Zg.int .i64) (A6.list a0) 0 (bx ((cA6 (cI .i64)) a0)) 0 6 fun x1=>.ldC (Zg.int .i64) 6 x1 0<|.lb 1003<|.go (.L0 a0 (⟨0, 0, (⟨0, 0, 0, 0, 0⟩ : (A5 Int))⟩ : Zp) (⟨x1, 0, (⟨0, 0, 0, 0, 0⟩ : (A5 Int))⟩ : Zp) 0) [.relab 1001 30000000, .relab 1002 30000001, .relab 1003 30000002]
def Zak1 : LF Zpf Zp := ⟨215, [.c 2 78 true 7], false, fun | .L0 .. => [1,1,0,1,4],
 fun | .L0 E0 E1 E2 v4 => ⟨20, [(1, (.bptr 30000000 0)), (2, (.bptr 30000001 0)), (3, (.bptr 30000002 0)), (4, (wI v4))], [(30000000, .box (bx ((cA6 (cI .i64)) E0))), (30000001, .box (bx (Zas E1))), (30000002, .box (bx (Zas E2)))]⟩,
 fun r => [], fun r => (wA (Zas r)), fun | .L0 E0 E1 E2 v4 => Z1a E0 E1 E2 v4⟩
def Zag3 (a0 : (A6 Int)) : Option Zp := Zak1.run (Zak0 a0)
theorem Zay2 (a0 : (A6 Int)) {r : Zp} (h : Zag3 a0 = some r) : Fn PR 215 [(wA ((cA6 (cI .i64)) a0))] (wA (Zas r)) := Zak1.fn h
inductive Zi3 where
 | L0 (E0 : Zp) (v3 : (List UInt8)) (v4 : Int)
 | L1 (E0 : Zp) (v3 : (List UInt8)) (v5 : Int)
 | L2 (E0 : Zp) (v3 : (List UInt8)) (v5 : Int) (v6 : Int)
def Z1b (E0 : Zp) (v3 : (List UInt8)) (v4 : Int) : LT Zi3 (List UInt8) :=
.br (decide (v4 < E0.X)) (.ok (v3.length + ([88] : List UInt8).length ≤ 9223372036854775807)<|.g0 (.L0 E0 (v3 ++ ([88] : List UInt8)) (IntKind.wrap .i64 (v4 + 1))))<|.br (E0.Generic != 0) (.call (Zj2 E0.Generic) fun x7=>.ok (v3.length + x7.length ≤ 9223372036854775807)<|.g0 (.L1 E0 (v3 ++ x7) 0))<|.g0 (.L1 E0 v3 0)
def Z1c (E0 : Zp) (v3 : (List UInt8)) (v5 : Int) : LT Zi3 (List UInt8) :=
.br (decide (v5 < 5)) (.g0 (.L2 E0 v3 v5 0))<|.br (v3 == ([] : List UInt8)) (.rt ([48] : List UInt8))<|.rt v3
def Z1d (E0 : Zp) (v3 : (List UInt8)) (v5 : Int) (v6 : Int) : LT Zi3 (List UInt8) :=
.idA (Zg.int .i64) (A5.list E0.Color) v5 (bx (Zas E0)) 2 7 fun x1=>.ldC (Zg.int .i64) 34 x1 0<|.br (decide (v6 < x1)) (.slS ([65, 67, 74, 82, 69] : List UInt8) v5 (IntKind.wrap .i64 (v5 + 1)) fun x6=>.ok (v3.length + x6.length ≤ 9223372036854775807)<|.g0 (.L2 E0 (v3 ++ x6) v5 (IntKind.wrap .i64 (v6 + 1))))<|.g0 (.L1 E0 v3 (IntKind.wrap .i64 (v5 + 1)))
def Zak2 (a0 : Zp) : LT Zi3 (List UInt8) :=
.lb 1001<|.call (Zsv a0) fun x1=>.br (!x1) (.rt ([] : List UInt8))<|.go (.L0 a0 ([] : List UInt8) 0) [.relab 1001 30000000]
def Zak3 : LF Zi3 (List UInt8) := ⟨214, [.t 2], false, fun | .L0 .. => [1,1,1,0,1,4] | .L1 .. => [1,1,1,1,1,0,1,4] | .L2 .. => [1,1,1,1,1,0,1,4,5,1,0,4,1,4],
 fun | .L0 E0 v3 v4 => ⟨47, [(1, (.bptr 30000000 0)), (3, (wS v3)), (4, (wI v4))], [(30000000, .box (bx (Zas E0)))]⟩ | .L1 E0 v3 v5 => ⟨47, [(1, (.bptr 30000000 0)), (3, (wS v3)), (5, (wI v5))], [(30000000, .box (bx (Zas E0)))]⟩ | .L2 E0 v3 v5 v6 => ⟨47, [(1, (.bptr 30000000 0)), (3, (wS v3)), (5, (wI v5)), (6, (wI v6))], [(30000000, .box (bx (Zas E0)))]⟩,
 fun r => [], fun r => (wS r), fun | .L0 E0 v3 v4 => Z1b E0 v3 v4 | .L1 E0 v3 v5 => Z1c E0 v3 v5 | .L2 E0 v3 v5 v6 => Z1d E0 v3 v5 v6⟩
def Zag4 (a0 : Zp) : Option (List UInt8) := Zak3.run (Zak2 a0)
theorem Zay3 (a0 : Zp) {r : (List UInt8)} (h : Zag4 a0 = some r) : Fn PR 214 [(wA (Zas a0))] (wS r) := Zak3.fn h
def Z28 (a0 : (A6 Int)) : LT Empty (List UInt8) :=
.lb 1001<|.call (Zay2 a0) fun x1=>.call (Zay3 x1) fun x3=>.rt x3
def Z29 : LF Empty (List UInt8) := .z 194 [.t 2] false (fun r => []) (fun r => (wS r))
def Zwy (a0 : (A6 Int)) : Option (List UInt8) := Z29.run (Z28 a0)
theorem Zak4 (a0 : (A6 Int)) {r : (List UInt8)} (h : Zwy a0 = some r) : Fn PR 194 [(wA ((cA6 (cI .i64)) a0))] (wS r) := Z29.fn h
def Z9h (a0 : Int) (a1 : Ze) : LT Empty Bool :=
.lb 1003<|.br (a0 == 21) (.call (Zel a1) fun x2=>.cs x2 (.k5 1<|.rt (a1.Zone == 2))<|.k5 1<|.rt false)<|.call (Zel a1) fun x5=>.cs x5 (.k5 1<|.rt (a1.Zone == 0))<|.k5 1<|.rt false
def Z9i : LF Empty Bool := .z 195 [.t 4] false (fun r => []) (fun r => (wB r))
def Z45 (a0 : Int) (a1 : Ze) : Option Bool := Z9i.run (Z9h a0 a1)
theorem Zarw (a0 : Int) (a1 : Ze) {r : Bool} (h : Z45 a0 a1 = some r) : Fn PR 195 [(wI a0), (wA (Zn a1))] (wB r) := Z9i.fn h
inductive Zf2 where
 | L0 (E0 : Z0) (v5 : Bool)
 | L1 (E0 : Z0) (v5 : Bool) (v6 : Bool)
 | L2 (E0 : Z0) (v5 : Bool) (v6 : Bool) (v7 : Bool)
 | L3 (E0 : Z0) (v5 : Bool) (v6 : Bool) (v7 : Bool) (v8 : Bool)
 | L4 (E0 : Z0) (v5 : Bool) (v6 : Bool) (v7 : Bool) (v8 : Bool) (v9 : Bool)
 | L5 (E0 : Z0) (v5 : Bool) (v6 : Bool) (v7 : Bool) (v8 : Bool) (v9 : Bool) (v10 : Bool)
 | L6 (E0 : Z0) (v5 : Bool) (v6 : Bool) (v7 : Bool) (v8 : Bool) (v9 : Bool) (v10 : Bool) (v11 : Bool)
 | L7 (v5 : Bool) (v6 : Bool) (v7 : Bool) (v8 : Bool) (v9 : Bool) (v10 : Bool) (v11 : Bool) (v12 : Bool)
def Zs8 (v5 : Bool) (v6 : Bool) (v7 : Bool) (v8 : Bool) (v9 : Bool) (v10 : Bool) (v11 : Bool) (v12 : Bool) : LT Zf2 Bool :=
.cs v5 (.k2 0<|.cs v6 (.k2 1<|.cs v7 (.k2 2<|.cs v8 (.k2 3<|.cs v9 (.k2 4<|.cs v10 (.k2 5<|.cs v11 (.k2 6<|.rt v12)<|.k2 6<|.rt false)<|.k2 5<|.b2 false<|.rt false)<|.k2 4<|.b4 false<|.rt false)<|.k2 3<|.b5 false<|.kb false<|.rt false)<|.k2 2<|.b8 false<|.rt false)<|.k2 1<|.b8 false<|.b2 false<|.rt false)<|.k2 0<|.b8 false<|.b4 false<|.rt false
def Zoe (E0 : Z0) (v5 : Bool) (v6 : Bool) (v7 : Bool) (v8 : Bool) (v9 : Bool) (v10 : Bool) (v11 : Bool) : LT Zf2 Bool :=
.call (Zgl E0.Op 102) fun x1=>.br x1 (.call (Zarw E0.Op E0.Filter) fun x4=>.j0 (.L7 v5 v6 v7 v8 v9 v10 v11 x4) (Zs8 v5 v6 v7 v8 v9 v10 v11 x4))<|.j0 (.L7 v5 v6 v7 v8 v9 v10 v11 (Zau (Zn E0.Filter) (Zn (⟨0, 0, 0, 0, 0, 0, 0, ([] : List UInt8), 0, 0, (⟨0, 0⟩ : Zd), (⟨0, 0⟩ : Zd), (⟨0, 0⟩ : Zd)⟩ : Ze)))) (Zs8 v5 v6 v7 v8 v9 v10 v11 (Zau (Zn E0.Filter) (Zn (⟨0, 0, 0, 0, 0, 0, 0, ([] : List UInt8), 0, 0, (⟨0, 0⟩ : Zd), (⟨0, 0⟩ : Zd), (⟨0, 0⟩ : Zd)⟩ : Ze))))
def Zs9 (E0 : Z0) (v5 : Bool) (v6 : Bool) (v7 : Bool) (v8 : Bool) (v9 : Bool) (v10 : Bool) : LT Zf2 Bool :=
.call (Zgl E0.Op 112) fun x1=>.br x1 (.cs (!(Zau ((cA6 (cI .i64)) E0.Pool) ((cA6 (cI .i64)) (⟨0, 0, 0, 0, 0, 0⟩ : (A6 Int))))) (.k3 1<|.call (Zak4 E0.Pool) fun x5=>.k2 1<|.j0 (.L6 E0 v5 v6 v7 v8 v9 v10 (!(x5 == ([] : List UInt8)))) (Zoe E0 v5 v6 v7 v8 v9 v10 (!(x5 == ([] : List UInt8)))))<|.k5 1<|.j0 (.L6 E0 v5 v6 v7 v8 v9 v10 false) (Zoe E0 v5 v6 v7 v8 v9 v10 false))<|.j0 (.L6 E0 v5 v6 v7 v8 v9 v10 (Zau ((cA6 (cI .i64)) E0.Pool) ((cA6 (cI .i64)) (⟨0, 0, 0, 0, 0, 0⟩ : (A6 Int))))) (Zoe E0 v5 v6 v7 v8 v9 v10 (Zau ((cA6 (cI .i64)) E0.Pool) ((cA6 (cI .i64)) (⟨0, 0, 0, 0, 0, 0⟩ : (A6 Int)))))
def Zta (E0 : Z0) (v5 : Bool) (v6 : Bool) (v7 : Bool) (v8 : Bool) (v9 : Bool) : LT Zf2 Bool :=
.len Z1 E0.Mods<|.call (Zgl E0.Op 109) fun x2=>.br x2 (.call (Zay1 E0.Mods) fun x5=>.j0 (.L5 E0 v5 v6 v7 v8 v9 x5) (Zs9 E0 v5 v6 v7 v8 v9 x5))<|.j0 (.L5 E0 v5 v6 v7 v8 v9 ((E0.Mods.length : Int) == 0)) (Zs9 E0 v5 v6 v7 v8 v9 ((E0.Mods.length : Int) == 0))
def Ztb (E0 : Z0) (v5 : Bool) (v6 : Bool) (v7 : Bool) (v8 : Bool) : LT Zf2 Bool :=
.call (Zgl E0.Op 97) fun x1=>.br x1 (.call (Z9g E0.Amount) fun x4=>.j0 (.L4 E0 v5 v6 v7 v8 x4) (Zta E0 v5 v6 v7 v8 x4))<|.j0 (.L4 E0 v5 v6 v7 v8 (Zau (Zaf E0.Amount) (Zaf (⟨0, 0, 0, (⟨0, 0, 0, 0, 0, 0, 0, ([] : List UInt8), 0, 0, (⟨0, 0⟩ : Zd), (⟨0, 0⟩ : Zd), (⟨0, 0⟩ : Zd)⟩ : Ze)⟩ : Zw)))) (Zta E0 v5 v6 v7 v8 (Zau (Zaf E0.Amount) (Zaf (⟨0, 0, 0, (⟨0, 0, 0, 0, 0, 0, 0, ([] : List UInt8), 0, 0, (⟨0, 0⟩ : Zd), (⟨0, 0⟩ : Zd), (⟨0, 0⟩ : Zd)⟩ : Ze)⟩ : Zw))))
def Zof (E0 : Z0) (v5 : Bool) (v6 : Bool) (v7 : Bool) : LT Zf2 Bool :=
.call (Zgl E0.Op 99) fun x1=>.br x1 (.call (Z80 E0.Card) fun x4=>.j0 (.L3 E0 v5 v6 v7 x4) (Ztb E0 v5 v6 v7 x4))<|.j0 (.L3 E0 v5 v6 v7 (E0.Card == ([] : List UInt8))) (Ztb E0 v5 v6 v7 (E0.Card == ([] : List UInt8)))
def Zkv (E0 : Z0) (v5 : Bool) (v6 : Bool) : LT Zf2 Bool :=
.cs (E0.Counter == 0) (.k5 0<|.kg 0<|.j0 (.L2 E0 v5 v6 true) (Zof E0 v5 v6 true))<|.k3 0<|.call (Zgl E0.Op 107) fun x2=>.kg 0<|.cs x2 (.k3 1<|.call (Zad6 E0.Counter) fun x5=>.kg 1<|.kg 0<|.kg 1<|.kg 0<|.j0 (.L2 E0 v5 v6 (!(x5 == ([] : List UInt8)))) (Zof E0 v5 v6 (!(x5 == ([] : List UInt8)))))<|.k4 1<|.kg 0<|.kg 1<|.kg 0<|.j0 (.L2 E0 v5 v6 false) (Zof E0 v5 v6 false)
def Ztc (E0 : Z0) (v5 : Bool) : LT Zf2 Bool :=
.cs (E0.Zone == 0) (.k8 0<|.j0 (.L1 E0 v5 true) (Zkv E0 v5 true))<|.k3 0<|.call (Zgl E0.Op 122) fun x2=>.kg 0<|.cs x2 (.k3 1<|.kg 0<|.kg 1<|.kg 0<|.cs (decide (E0.Zone > 0)) (.k3 2<|.kg 0<|.kg 2<|.kg 0<|.j0 (.L1 E0 v5 (decide (E0.Zone ≤ 4))) (Zkv E0 v5 (decide (E0.Zone ≤ 4))))<|.k3 2<|.kg 0<|.kg 2<|.kg 0<|.j0 (.L1 E0 v5 false) (Zkv E0 v5 false))<|.k3 1<|.kg 0<|.kg 1<|.kg 0<|.b3 false<|.kg 0<|.kb false<|.kg 0<|.j0 (.L1 E0 v5 false) (Zkv E0 v5 false)
def Zavx (a0 : Z0) (a1 : Int) : LT Zf2 Bool :=
.lb 1002<|.call (Zayz a0.Op) fun x1=>.br (x1 == ([] : List UInt8)) (.rt false)<|.call (Zgl a0.Op 114) fun x4=>.br x4 (.call (Za36 a0.Ref a1) fun x7=>.jn 0 (.L0 a0 x7) [.relab 1002 30000000] (Ztc a0 x7))<|.jn 0 (.L0 a0 (Zau (Zbg a0.Ref) (Zbg (⟨0, 0, (⟨0, 0, 0, 0, 0, 0, 0, ([] : List UInt8), 0, 0, (⟨0, 0⟩ : Zd), (⟨0, 0⟩ : Zd), (⟨0, 0⟩ : Zd)⟩ : Ze)⟩ : Zak)))) [.relab 1002 30000000] (Ztc a0 (Zau (Zbg a0.Ref) (Zbg (⟨0, 0, (⟨0, 0, 0, 0, 0, 0, 0, ([] : List UInt8), 0, 0, (⟨0, 0⟩ : Zd), (⟨0, 0⟩ : Zd), (⟨0, 0⟩ : Zd)⟩ : Ze)⟩ : Zak))))
def Zavy : LF Zf2 Bool := ⟨172, [.t 4], false, fun | .L0 .. => [1,1,1,1] | .L1 .. => [1,1,1,1,1] | .L2 .. => [1,1,1,1,1,1] | .L3 .. => [1,1,1,1,1,1,1,1] | .L4 .. => [1,1,1,1,1,1,1,1,1,1] | .L5 .. => [1,1,1,1,1,1,1,1,1,1,1,1] | .L6 .. => [1,1,1,1,1,1,1,1,1,1,1,1,1,1] | .L7 .. => [1,1,1,1,1,1,1,1,1,1,1,1,1,1,1,1],
 fun | .L0 E0 v5 => ⟨138, [(2, (.bptr 30000000 0)), (5, (wB v5))], [(30000000, .box (bx (Z6 E0)))]⟩ | .L1 E0 v5 v6 => ⟨138, [(2, (.bptr 30000000 0)), (5, (wB v5)), (6, (wB v6))], [(30000000, .box (bx (Z6 E0)))]⟩ | .L2 E0 v5 v6 v7 => ⟨138, [(2, (.bptr 30000000 0)), (5, (wB v5)), (6, (wB v6)), (7, (wB v7))], [(30000000, .box (bx (Z6 E0)))]⟩ | .L3 E0 v5 v6 v7 v8 => ⟨138, [(2, (.bptr 30000000 0)), (5, (wB v5)), (6, (wB v6)), (7, (wB v7)), (8, (wB v8))], [(30000000, .box (bx (Z6 E0)))]⟩ | .L4 E0 v5 v6 v7 v8 v9 => ⟨138, [(2, (.bptr 30000000 0)), (5, (wB v5)), (6, (wB v6)), (7, (wB v7)), (8, (wB v8)), (9, (wB v9))], [(30000000, .box (bx (Z6 E0)))]⟩ | .L5 E0 v5 v6 v7 v8 v9 v10 => ⟨138, [(2, (.bptr 30000000 0)), (5, (wB v5)), (6, (wB v6)), (7, (wB v7)), (8, (wB v8)), (9, (wB v9)), (10, (wB v10))], [(30000000, .box (bx (Z6 E0)))]⟩ | .L6 E0 v5 v6 v7 v8 v9 v10 v11 => ⟨138, [(2, (.bptr 30000000 0)), (5, (wB v5)), (6, (wB v6)), (7, (wB v7)), (8, (wB v8)), (9, (wB v9)), (10, (wB v10)), (11, (wB v11))], [(30000000, .box (bx (Z6 E0)))]⟩ | .L7 v5 v6 v7 v8 v9 v10 v11 v12 => ⟨138, [(5, (wB v5)), (6, (wB v6)), (7, (wB v7)), (8, (wB v8)), (9, (wB v9)), (10, (wB v10)), (11, (wB v11)), (12, (wB v12))], []⟩,
 fun r => [], fun r => (wB r), fun | .L0 E0 v5 => Ztc E0 v5 | .L1 E0 v5 v6 => Zkv E0 v5 v6 | .L2 E0 v5 v6 v7 => Zof E0 v5 v6 v7 | .L3 E0 v5 v6 v7 v8 => Ztb E0 v5 v6 v7 v8 | .L4 E0 v5 v6 v7 v8 v9 => Zta E0 v5 v6 v7 v8 v9 | .L5 E0 v5 v6 v7 v8 v9 v10 => Zs9 E0 v5 v6 v7 v8 v9 v10 | .L6 E0 v5 v6 v7 v8 v9 v10 v11 => Zoe E0 v5 v6 v7 v8 v9 v10 v11 | .L7 v5 v6 v7 v8 v9 v10 v11 v12 => Zs8 v5 v6 v7 v8 v9 v10 v11 v12⟩
def Zavz (a0 : Z0) (a1 : Int) : Option Bool := Zavy.run (Zavx a0 a1)
theorem Za37 (a0 : Z0) (a1 : Int) {r : Bool} (h : Zavz a0 a1 = some r) : Fn PR 172 [(wA (Z6 a0)), (wI a1)] (wB r) := Zavy.fn h
inductive Zje where
 | L0 (v0 : (List Z0)) (v1 : Int) (v5 : Int)
def Zqz (v0 : (List Z0)) (v1 : Int) (v5 : Int) : LT Zje Bool :=
.len Z6 v0<|.br (decide (v5 < (v0.length : Int))) (.idx Z6 v0 v5 fun x3=>.call (Za37 x3 v1) fun x5=>.br (!x5) (.rt false)<|.g0 (.L0 v0 v1 (IntKind.wrap .i64 (v5 + 1))))<|.len Z6 v0<|.cs (decide ((v0.length : Int) ≥ 1)) (.k2 1<|.len Z6 v0<|.k2 1<|.rt (decide ((v0.length : Int) ≤ 8)))<|.k4 1<|.rt false
def Z6o (a0 : (List Z0)) (a1 : Int) : LT Zje Bool :=
.g0 (.L0 a0 a1 0)
def Z6p : LF Zje Bool := ⟨137, [.t 4], false, fun | .L0 .. => [1,0,1,4],
 fun | .L0 v0 v1 v5 => ⟨27, [(0, (wL Z6 v0)), (1, (wI v1)), (5, (wI v5))], []⟩,
 fun r => [], fun r => (wB r), fun | .L0 v0 v1 v5 => Zqz v0 v1 v5⟩
def Z1e (a0 : (List Z0)) (a1 : Int) : Option Bool := Z6p.run (Z6o a0 a1)
theorem Zaot (a0 : (List Z0)) (a1 : Int) {r : Bool} (h : Z1e a0 a1 = some r) : Fn PR 137 [(wL Z6 a0), (wI a1)] (wB r) := Z6p.fn h
inductive Zi4 where
 | L0 (E0 : Zk) (v3 : Bool)
 | L1 (E0 : Zk) (v3 : Bool)
 | L2 (E0 : Zk) (v3 : Bool)
 | L3 (E0 : Zk) (v3 : Bool)
 | L4 (E0 : Zk) (v3 : Bool)
def Ztd (E0 : Zk) (v3 : Bool) : LT Zi4 Bool :=
.br v3 (.call (Zavq E0.Specs) fun x2=>.cs x2 (.k5 1<|.len Za8 E0.Specs<|.kg 1<|.call (Zaot E0.Effects (E0.Specs.length : Int)) fun x6=>.kg 1<|.rt x6)<|.k5 1<|.k2 1<|.rt false)<|.len Za8 E0.Specs<|.cs ((E0.Specs.length : Int) == 0) (.k3 1<|.len Z6 E0.Effects<|.k2 1<|.rt ((E0.Effects.length : Int) == 0))<|.k5 1<|.rt false
def Zte (E0 : Zk) (v3 : Bool) : LT Zi4 Bool :=
.br (E0.Kind == 5) (.call (Za35 E0.Replace) fun x2=>.br (!x2) (.rt false)<|.j0 (.L4 E0 v3) (Ztd E0 v3))<|.br (!(Zau (Zbz E0.Replace) (Zbz (⟨0, 0, (⟨0, 0, 0, 0, 0, 0, 0, ([] : List UInt8), 0, 0, (⟨0, 0⟩ : Zd), (⟨0, 0⟩ : Zd), (⟨0, 0⟩ : Zd)⟩ : Ze), 0, 0, 0, 0⟩ : Zaz)))) (.rt false)<|.j0 (.L4 E0 v3) (Ztd E0 v3)
def Ztf (E0 : Zk) (v3 : Bool) : LT Zi4 Bool :=
.br (E0.Kind == 4) (.call (Za34 E0.Trigger) fun x2=>.br (!x2) (.rt false)<|.j0 (.L3 E0 v3) (Zte E0 v3))<|.cs (!(Zau (Zdm E0.Trigger) (Zdm (⟨0, 0, (⟨0, 0, 0, 0, 0, 0, 0, ([] : List UInt8), 0, 0, (⟨0, 0⟩ : Zd), (⟨0, 0⟩ : Zd), (⟨0, 0⟩ : Zd)⟩ : Ze)⟩ : Zcb)))) (.k3 1<|.kn [0]<|.rt false)<|.k3 1<|.br E0.May (.rt false)<|.j0 (.L3 E0 v3) (Zte E0 v3)
def Ztg (E0 : Zk) (v3 : Bool) : LT Zi4 Bool :=
.br (E0.Kind == 3) (.call (Zavh E0.Price) fun x2=>.br (!x2) (.rt false)<|.j0 (.L2 E0 v3) (Ztf E0 v3))<|.cs (!(Zau (Zfg E0.Price) (Zfg (⟨(⟨0, 0, (⟨0, 0, 0, 0, 0⟩ : (A5 Int))⟩ : Zp), false, false, 0⟩ : Zfq)))) (.k3 1<|.kn [0]<|.rt false)<|.k3 1<|.br E0.Slow (.rt false)<|.j0 (.L2 E0 v3) (Ztf E0 v3)
def Zog (E0 : Zk) (v3 : Bool) : LT Zi4 Bool :=
.br (E0.Kind == 1) (.call (Zel E0.Filter) fun x2=>.cs (!x2) (.k5 1<|.b5 true<|.kn [0]<|.rt false)<|.k5 1<|.cs (E0.Filter.Zone != 0) (.k5 2<|.kn [0]<|.rt false)<|.k3 2<|.call (Zpd E0.Mods) fun x6=>.k2 2<|.br (x6 == ([] : List UInt8)) (.rt false)<|.j0 (.L1 E0 v3) (Ztg E0 v3))<|.cs (!(Zau (Zn E0.Filter) (Zn (⟨0, 0, 0, 0, 0, 0, 0, ([] : List UInt8), 0, 0, (⟨0, 0⟩ : Zd), (⟨0, 0⟩ : Zd), (⟨0, 0⟩ : Zd)⟩ : Ze)))) (.k5 1<|.kn [0]<|.rt false)<|.k3 1<|.len Z1 E0.Mods<|.k2 1<|.br (decide ((E0.Mods.length : Int) > 0)) (.rt false)<|.j0 (.L1 E0 v3) (Ztg E0 v3)
def Zav0 (a0 : Zk) : LT Zi4 Bool :=
.lb 1001<|.cs (decide (a0.Kind < 1)) (.k4 0<|.kn [0]<|.rt false)<|.k4 0<|.br (decide (a0.Kind > 5)) (.rt false)<|.cs (a0.Kind == 2) (.k4 2<|.b4 true<|.jn 0 (.L0 a0 true) [.relab 1001 30000000] (Zog a0 true))<|.k4 2<|.cs (a0.Kind == 3) (.k4 3<|.jn 0 (.L0 a0 true) [.relab 1001 30000000] (Zog a0 true))<|.k4 3<|.jn 0 (.L0 a0 (a0.Kind == 4)) [.relab 1001 30000000] (Zog a0 (a0.Kind == 4))
def Zav1 : LF Zi4 Bool := ⟨88, [.t 2], false, fun | .L0 .. => [1,1,1] | .L1 .. => [1,1,1,1] | .L2 .. => [1,1,1,1,1] | .L3 .. => [1,1,1,1,1,1] | .L4 .. => [1,1,1,1,1,1,1],
 fun | .L0 E0 v3 => ⟨117, [(1, (.bptr 30000000 0)), (3, (wB v3))], [(30000000, .box (bx (Zx E0)))]⟩ | .L1 E0 v3 => ⟨117, [(1, (.bptr 30000000 0)), (3, (wB v3))], [(30000000, .box (bx (Zx E0)))]⟩ | .L2 E0 v3 => ⟨117, [(1, (.bptr 30000000 0)), (3, (wB v3))], [(30000000, .box (bx (Zx E0)))]⟩ | .L3 E0 v3 => ⟨117, [(1, (.bptr 30000000 0)), (3, (wB v3))], [(30000000, .box (bx (Zx E0)))]⟩ | .L4 E0 v3 => ⟨117, [(1, (.bptr 30000000 0)), (3, (wB v3))], [(30000000, .box (bx (Zx E0)))]⟩,
 fun r => [], fun r => (wB r), fun | .L0 E0 v3 => Zog E0 v3 | .L1 E0 v3 => Ztg E0 v3 | .L2 E0 v3 => Ztf E0 v3 | .L3 E0 v3 => Zte E0 v3 | .L4 E0 v3 => Ztd E0 v3⟩
def Zav2 (a0 : Zk) : Option Bool := Zav1.run (Zav0 a0)
theorem Zzx (a0 : Zk) {r : Bool} (h : Zav2 a0 = some r) : Fn PR 88 [(wA (Zx a0))] (wB r) := Zav1.fn h
def Zak5 (a0 : Zl) : LT Empty Bool :=
.lb 1001<|.cs (a0.Line.Types == 2) (.k5 0<|.rt true)<|.k5 0<|.rt (a0.Line.Types == 4)
def Zak6 : LF Empty Bool := .z 89 [.t 2] false (fun r => []) (fun r => (wB r))
def Zag5 (a0 : Zl) : Option Bool := Zak6.run (Zak5 a0)
theorem Zay4 (a0 : Zl) {r : Bool} (h : Zag5 a0 = some r) : Fn PR 89 [(wA (Z4 a0))] (wB r) := Zak6.fn h
inductive Zq0 where
 | L0 (E0 : Zl)
 | L1 (E0 : Zl) (v3 : Int) (v4 : Int)
def Zth (E0 : Zl) : LT Zq0 Bool :=
.g0 (.L1 E0 0 0)
def Z9j (E0 : Zl) (v3 : Int) (v4 : Int) : LT Zq0 Bool :=
.len Zx E0.Abilities<|.br (decide (v4 < (E0.Abilities.length : Int))) (.idx Zx E0.Abilities v4 fun x3=>.call (Zzx x3) fun x5=>.br (!x5) (.rt false)<|.ag Zx x3 0<|.br (x3.Kind == 2) (.g0 (.L1 E0 (IntKind.wrap .i64 (v3 + 1)) (IntKind.wrap .i64 (v4 + 1))))<|.g0 (.L1 E0 v3 (IntKind.wrap .i64 (v4 + 1))))<|.call (Zay4 E0) fun x15=>.br x15 (.cs (!E0.Token) (.k4 2<|.cs (E0.Keys == 0) (.k3 3<|.len Zx E0.Abilities<|.k2 3<|.cs ((E0.Abilities.length : Int) == 1) (.k3 4<|.rt (v3 == 1))<|.k3 4<|.rt false)<|.k5 3<|.b3 false<|.rt false)<|.k4 2<|.b8 false<|.rt false)<|.cs (v3 == 0) (.k4 2<|.cs (!E0.Token) (.k5 3<|.kg 2<|.kg 3<|.kg 2<|.cs ((Zbc .and .i64 E0.Line.Types 32) == 0) (.k4 4<|.kg 2<|.kg 4<|.kg 2<|.rt true)<|.k4 4<|.kg 2<|.kg 4<|.kg 2<|.rt (Zau (Zas E0.Cost) (Zas (⟨0, 0, (⟨0, 0, 0, 0, 0⟩ : (A5 Int))⟩ : Zp))))<|.k5 3<|.kg 2<|.kg 3<|.kg 2<|.b4 false<|.kg 2<|.kb false<|.kg 2<|.rt (Zau (Zas E0.Cost) (Zas (⟨0, 0, (⟨0, 0, 0, 0, 0⟩ : (A5 Int))⟩ : Zp))))<|.k8 2<|.rt false
def Zav3 (a0 : Zl) : LT Zq0 Bool :=
.lb 1001<|.call (Z80 a0.Name) fun x1=>.cs (!x1) (.k5 0<|.b16 true<|.b2 true<|.kn [0]<|.rt false)<|.k3 0<|.call (Zsv a0.Cost) fun x4=>.k2 0<|.cs (!x4) (.k5 1<|.b8 true<|.b5 true<|.kn [0]<|.rt false)<|.k3 1<|.call (Za32 a0.Line) fun x7=>.k2 1<|.cs (!x7) (.k5 2<|.b8 true<|.kn [0]<|.rt false)<|.k3 2<|.call (Zaqu a0.Keys) fun x10=>.k2 2<|.cs (!x10) (.k4 3<|.b4 true<|.kn [0]<|.rt false)<|.k4 3<|.cs (decide (a0.Color < 0)) (.k4 4<|.kn [0]<|.rt false)<|.k4 4<|.br (decide (a0.Color > 31)) (.rt false)<|.cs (decide (a0.Power < 0)) (.k4 6<|.b16 true<|.b3 true<|.kn [0]<|.rt false)<|.k4 6<|.cs (decide (a0.Power > 99)) (.k4 7<|.b8 true<|.b5 true<|.b2 true<|.kn [0]<|.rt false)<|.k4 7<|.cs (decide (a0.Tough < 0)) (.k4 8<|.b8 true<|.b3 true<|.kn [0]<|.rt false)<|.k4 8<|.cs (decide (a0.Tough > 99)) (.k5 9<|.kg 9<|.b5 true<|.kn [0]<|.rt false)<|.k2 9<|.call (Zaj0 a0) fun x19=>.k2 9<|.cs (!x19) (.k4 10<|.cs (a0.Power != 0) (.k3 11<|.kg 10<|.kg 11<|.kg 9<|.kg 10<|.kg 9<|.b5 true<|.kn [0]<|.rt false)<|.k3 11<|.kg 10<|.kg 11<|.kg 9<|.kg 10<|.kg 9<|.cs (a0.Tough != 0) (.k5 12<|.kn [0]<|.rt false)<|.k3 12<|.len Zx a0.Abilities<|.k2 12<|.br (decide ((a0.Abilities.length : Int) > 8)) (.rt false)<|.jn 0 (.L0 a0) [.relab 1001 30000000] (Zth a0))<|.k5 10<|.kg 9<|.kg 10<|.kg 9<|.b3 false<|.len Zx a0.Abilities<|.b2 false<|.br (decide ((a0.Abilities.length : Int) > 8)) (.rt false)<|.jn 0 (.L0 a0) [.relab 1001 30000000] (Zth a0)
def Zav4 : LF Zq0 Bool := ⟨53, [.t 2], false, fun | .L0 .. => [1,1,1] | .L1 .. => [1,1,1,1,0,1,4],
 fun | .L0 E0 => ⟨139, [(1, (.bptr 30000000 0))], [(30000000, .box (bx (Z4 E0)))]⟩ | .L1 E0 v3 v4 => ⟨139, [(1, (.bptr 30000000 0)), (3, (wI v3)), (4, (wI v4))], [(30000000, .box (bx (Z4 E0)))]⟩,
 fun r => [], fun r => (wB r), fun | .L0 E0 => Zth E0 | .L1 E0 v3 v4 => Z9j E0 v3 v4⟩
def Zav5 (a0 : Zl) : Option Bool := Zav4.run (Zav3 a0)
theorem Za38 (a0 : Zl) {r : Bool} (h : Zav5 a0 = some r) : Fn PR 53 [(wA (Z4 a0))] (wB r) := Zav4.fn h
inductive Zpg where
 | L0 (v0 : (List Zl)) (v1 : (List UInt8)) (v5 : Int)
def Z1f (v0 : (List Zl)) (v1 : (List UInt8)) (v5 : Int) : LT Zpg Int :=
.len Z4 v0<|.br (decide (v5 < (v0.length : Int))) (.idx Z4 v0 v5 fun x3=>.br (x3.Name == v1) (.rt v5)<|.g0 (.L0 v0 v1 (IntKind.wrap .i64 (v5 + 1))))<|.rt (-1)
def Zak7 (a0 : (List Zl)) (a1 : (List UInt8)) : LT Zpg Int :=
.g0 (.L0 a0 a1 0)
def Zak8 : LF Zpg Int := ⟨54, [.t 4], false, fun | .L0 .. => [1,0,1,4],
 fun | .L0 v0 v1 v5 => ⟨20, [(0, (wL Z4 v0)), (1, (wS v1)), (5, (wI v5))], []⟩,
 fun r => [], fun r => (wI r), fun | .L0 v0 v1 v5 => Z1f v0 v1 v5⟩
def Zag6 (a0 : (List Zl)) (a1 : (List UInt8)) : Option Int := Zak8.run (Zak7 a0 a1)
theorem Zay5 (a0 : (List Zl)) (a1 : (List UInt8)) {r : Int} (h : Zag6 a0 a1 = some r) : Fn PR 54 [(wL Z4 a0), (wS a1)] (wI r) := Zak8.fn h
inductive Zmj where
 | L0 (v0 : (List Zl)) (v1 : (List UInt8)) (v5 : Int)
def Zwz (v0 : (List Zl)) (v1 : (List UInt8)) (v5 : Int) : LT Zmj Bool :=
.len Z4 v0<|.br (decide (v5 < (v0.length : Int))) (.idx Z4 v0 v5 fun x3=>.cs (x3.Name == v1) (.k3 1<|.ag Z4 x3 0<|.k3 1<|.br x3.Token (.rt true)<|.g0 (.L0 v0 v1 (IntKind.wrap .i64 (v5 + 1))))<|.k5 1<|.kg 1<|.kn [0]<|.g0 (.L0 v0 v1 (IntKind.wrap .i64 (v5 + 1))))<|.rt false
def Zad7 (a0 : (List Zl)) (a1 : (List UInt8)) : LT Zmj Bool :=
.g0 (.L0 a0 a1 0)
def Zad8 : LF Zmj Bool := ⟨90, [.t 4], false, fun | .L0 .. => [1,0,1,4],
 fun | .L0 v0 v1 v5 => ⟨26, [(0, (wL Z4 v0)), (1, (wS v1)), (5, (wI v5))], []⟩,
 fun r => [], fun r => (wB r), fun | .L0 v0 v1 v5 => Zwz v0 v1 v5⟩
def Z9k (a0 : (List Zl)) (a1 : (List UInt8)) : Option Bool := Zad8.run (Zad7 a0 a1)
theorem Zav6 (a0 : (List Zl)) (a1 : (List UInt8)) {r : Bool} (h : Z9k a0 a1 = some r) : Fn PR 90 [(wL Z4 a0), (wS a1)] (wB r) := Zad8.fn h
inductive Zhp where
 | L0 (v0 : (List Zl)) (E0 : Zl) (v5 : Int)
 | L1 (v0 : (List Zl)) (E0 : Zl) (v5 : Int) (v6 : Int)
def Zq1 (v0 : (List Zl)) (E0 : Zl) (v5 : Int) : LT Zhp Bool :=
.len Zx E0.Abilities<|.br (decide (v5 < (E0.Abilities.length : Int))) (.g0 (.L1 v0 E0 v5 0))<|.rt true
def Zq2 (v0 : (List Zl)) (E0 : Zl) (v5 : Int) (v6 : Int) : LT Zhp Bool :=
.idx Zx E0.Abilities v5 fun x1=>.len Z6 x1.Effects<|.br (decide (v6 < (x1.Effects.length : Int))) (.ag Zx x1 0<|.idx Z6 x1.Effects v6 fun x5=>.lb 1007<|.cs (x5.Op == 12) (.k4 1<|.call (Zav6 v0 x5.Card) fun x8=>.k2 1<|.br (!x8) (.rt false)<|.g0 (.L1 v0 E0 v5 (IntKind.wrap .i64 (v6 + 1))))<|.k5 1<|.kg 1<|.kn [0]<|.g0 (.L1 v0 E0 v5 (IntKind.wrap .i64 (v6 + 1))))<|.g0 (.L0 v0 E0 (IntKind.wrap .i64 (v5 + 1)))
def Z6q (a0 : (List Zl)) (a1 : Zl) : LT Zhp Bool :=
.lb 1003<|.go (.L0 a0 a1 0) [.relab 1003 30000000]
def Z6r : LF Zhp Bool := ⟨55, [.t 4], false, fun | .L0 .. => [1,0,1,4] | .L1 .. => [1,0,1,4,5,1,0,4,1,4],
 fun | .L0 v0 E0 v5 => ⟨45, [(0, (wL Z4 v0)), (3, (.bptr 30000000 0)), (5, (wI v5))], [(30000000, .box (bx (Z4 E0)))]⟩ | .L1 v0 E0 v5 v6 => ⟨45, [(0, (wL Z4 v0)), (3, (.bptr 30000000 0)), (5, (wI v5)), (6, (wI v6))], [(30000000, .box (bx (Z4 E0)))]⟩,
 fun r => [], fun r => (wB r), fun | .L0 v0 E0 v5 => Zq1 v0 E0 v5 | .L1 v0 E0 v5 v6 => Zq2 v0 E0 v5 v6⟩
def Z1g (a0 : (List Zl)) (a1 : Zl) : Option Bool := Z6r.run (Z6q a0 a1)
theorem Zaou (a0 : (List Zl)) (a1 : Zl) {r : Bool} (h : Z1g a0 a1 = some r) : Fn PR 55 [(wL Z4 a0), (wA (Z4 a1))] (wB r) := Z6r.fn h
inductive Zmk where
 | L0 (v0 : (List Zl)) (v4 : Int)
def Zw0 (v0 : (List Zl)) (v4 : Int) : LT Zmk (Int × Int) :=
.len Z4 v0<|.br (decide (v4 < (v0.length : Int))) (.idx Z4 v0 v4 fun x3=>.call (Za38 x3) fun x5=>.br (!x5) (.rt (v4, 9))<|.ag Z4 x3 0<|.call (Zay5 v0 x3.Name) fun x8=>.br (decide (x8 < v4)) (.rt (v4, 6))<|.ag Z4 x3 0<|.call (Zaou v0 x3) fun x11=>.br (!x11) (.rt (v4, 7))<|.g0 (.L0 v0 (IntKind.wrap .i64 (v4 + 1))))<|.rt ((-1), 0)
def Zad9 (a0 : (List Zl)) : LT Zmk (Int × Int) :=
.len Z4 a0<|.br (decide ((a0.length : Int) > 256)) (.rt ((-1), 5))<|.g0 (.L0 a0 0)
def Zaea : LF Zmk (Int × Int) := ⟨25, [.t 2, .t 3], false, fun | .L0 .. => [1,1,0,1,4],
 fun | .L0 v0 v4 => ⟨39, [(0, (wL Z4 v0)), (4, (wI v4))], []⟩,
 fun r => [], fun r => (.tup [(wI r.1), (wI r.2)]), fun | .L0 v0 v4 => Zw0 v0 v4⟩
def Z9l (a0 : (List Zl)) : Option (Int × Int) := Zaea.run (Zad9 a0)
theorem Zav7 (a0 : (List Zl)) {r : (Int × Int)} (h : Z9l a0 = some r) : Fn PR 25 [(wL Z4 a0)] (.tup [(wI r.1), (wI r.2)]) := Zaea.fn h
def Zav8 (a0 : Int) (a1 : Int) (a2 : Int) : LT Empty Bool :=
.cs (decide (a0 ≥ a1)) (.k4 0<|.rt (decide (a0 ≤ a2)))<|.k4 0<|.rt false
def Zav9 : LF Empty Bool := .z 56 [.t 6] false (fun r => []) (fun r => (wB r))
def Zawa (a0 : Int) (a1 : Int) (a2 : Int) : Option Bool := Zav9.run (Zav8 a0 a1 a2)
theorem Zd0 (a0 : Int) (a1 : Int) (a2 : Int) {r : Bool} (h : Zawa a0 a1 a2 = some r) : Fn PR 56 [(wI a0), (wI a1), (wI a2)] (wB r) := Zav9.fn h
inductive Zml where
 | L0 (E0 : (A6 Int)) (v3 : Int)
def Zw1 (E0 : (A6 Int)) (v3 : Int) : LT Zml Bool :=
.br (decide (v3 < 6)) (.idA (Zg.int .i64) (A6.list E0) v3 (bx ((cA6 (cI .i64)) E0)) 0 6 fun x2=>.ldC (Zg.int .i64) 10 x2 0<|.cs (decide (x2 < 0)) (.k5 1<|.kn [0]<|.rt false)<|.k2 1<|.idA (Zg.int .i64) (A6.list E0) v3 (bx ((cA6 (cI .i64)) E0)) 0 6 fun x5=>.kg 1<|.ldC (Zg.int .i64) 15 x5 1<|.k2 1<|.br (decide (x5 > 1000000)) (.rt false)<|.g0 (.L0 E0 (IntKind.wrap .i64 (v3 + 1))))<|.rt true
def Zaeb (a0 : (A6 Int)) : LT Zml Bool :=
.lb 1001<|.go (.L0 a0 0) [.relab 1001 30000000]
def Zaec : LF Zml Bool := ⟨91, [.t 2], false, fun | .L0 .. => [1,0,1,4],
 fun | .L0 E0 v3 => ⟨18, [(1, (.bptr 30000000 0)), (3, (wI v3))], [(30000000, .box (bx ((cA6 (cI .i64)) E0)))]⟩,
 fun r => [], fun r => (wB r), fun | .L0 E0 v3 => Zw1 E0 v3⟩
def Z9m (a0 : (A6 Int)) : Option Bool := Zaec.run (Zaeb a0)
theorem Zawb (a0 : (A6 Int)) {r : Bool} (h : Z9m a0 = some r) : Fn PR 91 [(wA ((cA6 (cI .i64)) a0))] (wB r) := Zaec.fn h
inductive Zmm where
 | L0 (v1 : Int) (E0 : Zb) (v5 : Int)
def Zw2 (v1 : Int) (E0 : Zb) (v5 : Int) : LT Zmm Int :=
.len Zh E0.Objects<|.br (decide (v5 < (E0.Objects.length : Int))) (.idx Zh E0.Objects v5 fun x3=>.br (x3.Id == v1) (.rt v5)<|.g0 (.L0 v1 E0 (IntKind.wrap .i64 (v5 + 1))))<|.rt (-1)
def Zaed (a0 : Zb) (a1 : Int) : LT Zmm Int :=
.lb 1002<|.go (.L0 a1 a0 0) [.relab 1002 30000000]
def Zaee : LF Zmm Int := ⟨47, [.t 4], false, fun | .L0 .. => [1,0,1,4],
 fun | .L0 v1 E0 v5 => ⟨22, [(1, (wI v1)), (2, (.bptr 30000000 0)), (5, (wI v5))], [(30000000, .box (bx (Zo E0)))]⟩,
 fun r => [], fun r => (wI r), fun | .L0 v1 E0 v5 => Zw2 v1 E0 v5⟩
def Z9n (a0 : Zb) (a1 : Int) : Option Int := Zaee.run (Zaed a0 a1)
theorem Zawc (a0 : Zb) (a1 : Int) {r : Int} (h : Z9n a0 a1 = some r) : Fn PR 47 [(wA (Zo a0)), (wI a1)] (wI r) := Zaee.fn h
def Zak9 (a0 : Zb) (a1 : Int) : LT Empty (Zf × Bool) :=
.lb 1002<|.lb 1004<|.call (Zawc a0 a1) fun x1=>.br (decide (x1 < 0)) (.rt ((⟨0, 0, 0, 0, 0, false, false, false, false, 0, (⟨0, 0, 0⟩ : (A3 Int)), 0, 0, 0, false, 0, 0⟩ : Zf), false))<|.idx Zh a0.Objects x1 fun x4=>.rt (x4, true)
def Zala : LF Empty (Zf × Bool) := .z 20 [.c 4 62 true 19, .t 5] false (fun r => []) (fun r => (.tup [(wA (Zh r.1)), (wB r.2)]))
def Zag7 (a0 : Zb) (a1 : Int) : Option (Zf × Bool) := Zala.run (Zak9 a0 a1)
theorem Zaef (a0 : Zb) (a1 : Int) {r : (Zf × Bool)} (h : Zag7 a0 a1 = some r) : Fn PR 20 [(wA (Zo a0)), (wI a1)] (.tup [(wA (Zh r.1)), (wB r.2)]) := Zala.fn h
def Z9o (a0 : Zb) (a1 : Int) : LT Empty (Zf × Bool) :=
.lb 1002<|.lb 1004<|.call (Zaef a0 a1) fun x1=>.rt (x1.1, x1.2)
def Z9p : LF Empty (Zf × Bool) := .z 138 [.c 4 62 true 19, .t 5] false (fun r => []) (fun r => (.tup [(wA (Zh r.1)), (wB r.2)]))
def Z46 (a0 : Zb) (a1 : Int) : Option (Zf × Bool) := Z9p.run (Z9o a0 a1)
theorem Z6s (a0 : Zb) (a1 : Int) {r : (Zf × Bool)} (h : Z46 a0 a1 = some r) : Fn PR 138 [(wA (Zo a0)), (wI a1)] (.tup [(wA (Zh r.1)), (wB r.2)]) := Z9p.fn h
inductive Zmn where
 | L0 (v0 : (List Int)) (v1 : Int) (v5 : Int) (v6 : Int)
def Zw3 (v0 : (List Int)) (v1 : Int) (v5 : Int) (v6 : Int) : LT Zmn Int :=
.len (cI .i64) v0<|.br (decide (v6 < (v0.length : Int))) (.idx (cI .i64) v0 v6 fun x3=>.br (x3 == v1) (.g0 (.L0 v0 v1 (IntKind.wrap .i64 (v5 + 1)) (IntKind.wrap .i64 (v6 + 1))))<|.g0 (.L0 v0 v1 v5 (IntKind.wrap .i64 (v6 + 1))))<|.rt v5
def Zaeg (a0 : (List Int)) (a1 : Int) : LT Zmn Int :=
.g0 (.L0 a0 a1 0 0)
def Zaeh : LF Zmn Int := ⟨139, [.t 4], false, fun | .L0 .. => [1,1,0,1,4],
 fun | .L0 v0 v1 v5 v6 => ⟨22, [(0, (wL (cI .i64) v0)), (1, (wI v1)), (5, (wI v5)), (6, (wI v6))], []⟩,
 fun r => [], fun r => (wI r), fun | .L0 v0 v1 v5 v6 => Zw3 v0 v1 v5 v6⟩
def Z9q (a0 : (List Int)) (a1 : Int) : Option Int := Zaeh.run (Zaeg a0 a1)
theorem Zw4 (a0 : (List Int)) (a1 : Int) {r : Int} (h : Z9q a0 a1 = some r) : Fn PR 139 [(wL (cI .i64) a0), (wI a1)] (wI r) := Zaeh.fn h
inductive Zph where
 | L0 (v1 : (List Int)) (v2 : Int) (v3 : Int) (E0 : Zb) (v9 : Int)
def Z1h (v1 : (List Int)) (v2 : Int) (v3 : Int) (E0 : Zb) (v9 : Int) : LT Zph Bool :=
.len (cI .i64) v1<|.br (decide (v9 < (v1.length : Int))) (.idx (cI .i64) v1 v9 fun x3=>.call (Z6s E0 x3) fun x5=>.lb 1010<|.cs (!x5.2) (.k5 1<|.b8 true<|.b5 true<|.kn [0]<|.rt false)<|.k5 1<|.cs (x5.1.Zone != v2) (.k5 2<|.b8 true<|.kn [0]<|.rt false)<|.k3 2<|.cs (decide (v3 ≥ 0)) (.k4 3<|.kg 2<|.kg 3<|.kg 2<|.cs (x5.1.Owner != v3) (.k8 4<|.kn [0]<|.rt false)<|.k4 4<|.ag (cI .i64) x3 0<|.k2 4<|.call (Zw4 v1 x3) fun x11=>.k2 4<|.br (x11 != 1) (.rt false)<|.g0 (.L0 v1 v2 v3 E0 (IntKind.wrap .i64 (v9 + 1))))<|.k4 3<|.kg 2<|.kg 3<|.kg 2<|.b4 false<|.ag (cI .i64) x3 0<|.b2 false<|.call (Zw4 v1 x3) fun x16=>.b2 false<|.br (x16 != 1) (.rt false)<|.g0 (.L0 v1 v2 v3 E0 (IntKind.wrap .i64 (v9 + 1))))<|.rt true
def Zalb (a0 : Zb) (a1 : (List Int)) (a2 : Int) (a3 : Int) : LT Zph Bool :=
.lb 1004<|.go (.L0 a1 a2 a3 a0 0) [.relab 1004 30000000]
def Zalc : LF Zph Bool := ⟨92, [.t 8], false, fun | .L0 .. => [1,0,1,4],
 fun | .L0 v1 v2 v3 E0 v9 => ⟨54, [(1, (wL (cI .i64) v1)), (2, (wI v2)), (3, (wI v3)), (4, (.bptr 30000000 0)), (9, (wI v9))], [(30000000, .box (bx (Zo E0)))]⟩,
 fun r => [], fun r => (wB r), fun | .L0 v1 v2 v3 E0 v9 => Z1h v1 v2 v3 E0 v9⟩
def Zag8 (a0 : Zb) (a1 : (List Int)) (a2 : Int) (a3 : Int) : Option Bool := Zalc.run (Zalb a0 a1 a2 a3)
theorem Zmo (a0 : Zb) (a1 : (List Int)) (a2 : Int) (a3 : Int) {r : Bool} (h : Zag8 a0 a1 a2 a3 = some r) : Fn PR 92 [(wA (Zo a0)), (wL (cI .i64) a1), (wI a2), (wI a3)] (wB r) := Zalc.fn h
inductive Zjf where
 | L0 (E0 : Zb) (v3 : Int)
def Zq3 (E0 : Zb) (v3 : Int) : LT Zjf Bool :=
.len Z2 E0.Players<|.br (decide (v3 < (E0.Players.length : Int))) (.idx Z2 E0.Players v3 fun x3=>.lb 1004<|.call (Zd0 x3.Life (-1000000) 1000000) fun x5=>.cs (!x5) (.k5 1<|.b8 true<|.b2 true<|.kn [0]<|.rt false)<|.k3 1<|.call (Zd0 x3.Venom 0 1000000) fun x8=>.k2 1<|.cs (!x8) (.k5 2<|.b5 true<|.kn [0]<|.rt false)<|.k3 2<|.call (Zd0 x3.Lands 0 1000000) fun x11=>.k2 2<|.cs (!x11) (.k5 3<|.kn [0]<|.rt false)<|.k3 3<|.call (Zawb x3.Pool) fun x14=>.k2 3<|.br (!x14) (.rt false)<|.call (Zmo E0 x3.Library 2 v3) fun x17=>.cs (!x17) (.k5 5<|.k2 5<|.b5 true<|.b2 true<|.kn [0]<|.rt false)<|.k5 5<|.call (Zmo E0 x3.Hand 1 v3) fun x20=>.k2 5<|.cs (!x20) (.k5 6<|.k2 6<|.kn [0]<|.rt false)<|.k5 6<|.call (Zmo E0 x3.Graveyard 3 v3) fun x23=>.k2 6<|.br (!x23) (.rt false)<|.g0 (.L0 E0 (IntKind.wrap .i64 (v3 + 1))))<|.call (Zmo E0 E0.Battlefield 0 (-1)) fun x28=>.cs x28 (.k4 1<|.call (Zmo E0 E0.Exile 4 (-1)) fun x31=>.kg 1<|.rt x31)<|.k5 1<|.rt false
def Z6t (a0 : Zb) : LT Zjf Bool :=
.lb 1001<|.len Z2 a0.Players<|.call (Zd0 (a0.Players.length : Int) 2 4) fun x2=>.br (!x2) (.rt false)<|.go (.L0 a0 0) [.relab 1001 30000000]
def Z6u : LF Zjf Bool := ⟨57, [.t 2], false, fun | .L0 .. => [1,1,0,1,4],
 fun | .L0 E0 v3 => ⟨76, [(1, (.bptr 30000000 0)), (3, (wI v3))], [(30000000, .box (bx (Zo E0)))]⟩,
 fun r => [], fun r => (wB r), fun | .L0 E0 v3 => Zq3 E0 v3⟩
def Z1i (a0 : Zb) : Option Bool := Z6u.run (Z6t a0)
theorem Zaov (a0 : Zb) {r : Bool} (h : Z1i a0 = some r) : Fn PR 57 [(wA (Zo a0))] (wB r) := Z6u.fn h
def Z9r (a0 : Zb) (a1 : Int) : LT Empty Bool :=
.lb 1002<|.len Z2 a0.Players<|.call (Zd0 a1 0 (IntKind.wrap .i64 ((a0.Players.length : Int) - 1))) fun x4=>.rt x4
def Z9s : LF Empty Bool := .z 58 [.t 4] false (fun r => []) (fun r => (wB r))
def Z47 (a0 : Zb) (a1 : Int) : Option Bool := Z9s.run (Z9r a0 a1)
theorem Zf3 (a0 : Zb) (a1 : Int) {r : Bool} (h : Z47 a0 a1 = some r) : Fn PR 58 [(wA (Zo a0)), (wI a1)] (wB r) := Z9s.fn h
inductive Zw5 where
 | L0 (E0 : (A3 Int)) (v3 : Int)
def Z9t (E0 : (A3 Int)) (v3 : Int) : LT Zw5 Bool :=
.br (decide (v3 < 3)) (.idA (Zg.int .i64) (A3.list E0) v3 (bx ((cA3 (cI .i64)) E0)) 0 3 fun x2=>.ldC (Zg.int .i64) 10 x2 0<|.cs (decide (x2 < 0)) (.k5 1<|.kn [0]<|.rt false)<|.k2 1<|.idA (Zg.int .i64) (A3.list E0) v3 (bx ((cA3 (cI .i64)) E0)) 0 3 fun x5=>.kg 1<|.ldC (Zg.int .i64) 15 x5 1<|.k2 1<|.br (decide (x5 > 1000000)) (.rt false)<|.g0 (.L0 E0 (IntKind.wrap .i64 (v3 + 1))))<|.rt true
def Zawd (a0 : (A3 Int)) : LT Zw5 Bool :=
.lb 1001<|.go (.L0 a0 0) [.relab 1001 30000000]
def Zawe : LF Zw5 Bool := ⟨140, [.t 2], false, fun | .L0 .. => [1,0,1,4],
 fun | .L0 E0 v3 => ⟨18, [(1, (.bptr 30000000 0)), (3, (wI v3))], [(30000000, .box (bx ((cA3 (cI .i64)) E0)))]⟩,
 fun r => [], fun r => (wB r), fun | .L0 E0 v3 => Z9t E0 v3⟩
def Zawf (a0 : (A3 Int)) : Option Bool := Zawe.run (Zawd a0)
theorem Za39 (a0 : (A3 Int)) {r : Bool} (h : Zawf a0 = some r) : Fn PR 140 [(wA ((cA3 (cI .i64)) a0))] (wB r) := Zawe.fn h
def Zald (a0 : Zf) : LT Empty Zf :=
.lb 1001<|.lb 1002<|.rt (⟨a0.Id, a0.Card, a0.Owner, a0.Control, a0.Zone, a0.Token, a0.Tapped, a0.Sick, a0.Deadly, a0.Damage, a0.Counters, a0.Stamp, a0.Copy, (-1), false, 0, a0.Shield⟩ : Zf)
def Zale : LF Empty Zf := .z 141 [.c 2 62 true 19] false (fun r => []) (fun r => (wA (Zh r)))
def Zag9 (a0 : Zf) : Option Zf := Zale.run (Zald a0)
theorem Zay6 (a0 : Zf) {r : Zf} (h : Zag9 a0 = some r) : Fn PR 141 [(wA (Zh a0))] (wA (Zh r)) := Zale.fn h
def Zaei (a0 : Zf) : LT Empty Zf :=
.lb 1001<|.lb 1002<|.rt (⟨a0.Id, a0.Card, a0.Owner, a0.Control, a0.Zone, a0.Token, a0.Tapped, a0.Sick, false, 0, a0.Counters, a0.Stamp, a0.Copy, a0.Attack, a0.Blocked, a0.Blocks, 0⟩ : Zf)
def Zaej : LF Empty Zf := .z 142 [.c 2 62 true 19] false (fun r => []) (fun r => (wA (Zh r)))
def Z9u (a0 : Zf) : Option Zf := Zaej.run (Zaei a0)
theorem Zawg (a0 : Zf) {r : Zf} (h : Z9u a0 = some r) : Fn PR 142 [(wA (Zh a0))] (wA (Zh r)) := Zaej.fn h
def Zawh (a0 : Zf) (a1 : Int) (a2 : Int) : LT Empty Bool :=
.lb 1003<|.cs (decide (a0.Id < 1)) (.k4 0<|.b16 true<|.b8 true<|.b5 true<|.b2 true<|.kn [0]<|.rt false)<|.k4 0<|.cs (decide (a0.Card < 0)) (.k5 1<|.b16 true<|.b8 true<|.b2 true<|.kn [0]<|.rt false)<|.k5 1<|.cs (decide (a0.Card ≥ a1)) (.k4 2<|.b16 true<|.b5 true<|.kb true<|.kn [0]<|.rt false)<|.k4 2<|.cs (decide (a0.Owner < 0)) (.k5 3<|.b16 true<|.kb true<|.kn [0]<|.rt false)<|.k5 3<|.cs (decide (a0.Owner ≥ a2)) (.k4 4<|.b8 true<|.b5 true<|.kn [0]<|.rt false)<|.k4 4<|.cs (decide (a0.Control < 0)) (.k5 5<|.b8 true<|.kn [0]<|.rt false)<|.k5 5<|.cs (decide (a0.Control ≥ a2)) (.k4 6<|.b4 true<|.kn [0]<|.rt false)<|.k4 6<|.cs (decide (a0.Zone < 0)) (.k4 7<|.kn [0]<|.rt false)<|.k4 7<|.br (decide (a0.Zone > 5)) (.rt false)<|.cs (decide (a0.Damage < 0)) (.k4 9<|.b16 true<|.b8 true<|.kn [0]<|.rt false)<|.k4 9<|.cs (decide (a0.Damage > 1000000)) (.k4 10<|.b16 true<|.b4 true<|.kn [0]<|.rt false)<|.k4 10<|.cs (decide (a0.Stamp < 0)) (.k4 11<|.b16 true<|.kn [0]<|.rt false)<|.k4 11<|.cs (decide (a0.Stamp > 1000000)) (.k4 12<|.b8 true<|.b4 true<|.kn [0]<|.rt false)<|.k4 12<|.cs (decide (a0.Blocks < 0)) (.k4 13<|.b8 true<|.kn [0]<|.rt false)<|.k4 13<|.cs (decide (a0.Blocks > 1000000)) (.k4 14<|.b4 true<|.kn [0]<|.rt false)<|.k4 14<|.cs (decide (a0.Shield < 0)) (.k4 15<|.kn [0]<|.rt false)<|.k4 15<|.br (decide (a0.Shield > 1000000)) (.rt false)<|.call (Za39 a0.Counters) fun x18=>.cs (!x18) (.k4 17<|.b8 true<|.b5 true<|.kb true<|.kn [0]<|.rt false)<|.k4 17<|.cs (decide (a0.Copy < (-1))) (.k5 18<|.b8 true<|.kb true<|.kn [0]<|.rt false)<|.k5 18<|.cs (decide (a0.Copy ≥ a1)) (.k4 19<|.b5 true<|.kn [0]<|.rt false)<|.k4 19<|.cs (decide (a0.Attack < (-1))) (.k5 20<|.kn [0]<|.rt false)<|.k5 20<|.br (decide (a0.Attack ≥ a2)) (.rt false)<|.cs (a0.Zone == 0) (.k8 22<|.k5 22<|.rt true)<|.k3 22<|.call (Zay6 a0) fun x26=>.k2 22<|.cs (Zau (Zh a0) (Zh x26)) (.k3 23<|.call (Zawg a0) fun x29=>.kg 23<|.kg 22<|.kg 23<|.kg 22<|.cs (Zau (Zh a0) (Zh x29)) (.k3 24<|.kg 22<|.kg 24<|.kg 22<|.cs (!a0.Tapped) (.k3 25<|.kg 22<|.kg 25<|.kg 22<|.cs (!a0.Sick) (.k4 26<|.kg 22<|.kg 26<|.kg 22<|.rt (Zau ((cA3 (cI .i64)) a0.Counters) ((cA3 (cI .i64)) (⟨0, 0, 0⟩ : (A3 Int)))))<|.k4 26<|.kg 22<|.kg 26<|.kg 22<|.rt false)<|.k3 25<|.kg 22<|.kg 25<|.kg 22<|.b4 false<|.kg 22<|.kb false<|.kg 22<|.rt false)<|.k3 24<|.kg 22<|.kg 24<|.kg 22<|.b3 false<|.kg 22<|.kb false<|.kg 22<|.b4 false<|.kg 22<|.kb false<|.kg 22<|.rt false)<|.k4 23<|.kg 22<|.kg 23<|.kg 22<|.b3 false<|.kg 22<|.kb false<|.kg 22<|.b3 false<|.kg 22<|.kb false<|.kg 22<|.b4 false<|.kg 22<|.kb false<|.kg 22<|.rt false
def Zawi : LF Empty Bool := .z 93 [.t 6] false (fun r => []) (fun r => (wB r))
def Zawj (a0 : Zf) (a1 : Int) (a2 : Int) : Option Bool := Zawi.run (Zawh a0 a1 a2)
theorem Za4a (a0 : Zf) (a1 : Int) (a2 : Int) {r : Bool} (h : Zawj a0 a1 a2 = some r) : Fn PR 93 [(wA (Zh a0)), (wI a1), (wI a2)] (wB r) := Zawi.fn h
inductive Zkw where
 | L0 (v1 : Int) (E0 : Zb) (v5 : Int) (v6 : Int)
def Zua (v1 : Int) (E0 : Zb) (v5 : Int) (v6 : Int) : LT Zkw Int :=
.len Zal E0.Stack<|.br (decide (v6 < (E0.Stack.length : Int))) (.idx Zal E0.Stack v6 fun x3=>.cs (x3.Kind == 1) (.k4 1<|.ag Zal x3 0<|.k5 1<|.br (x3.Id == v1) (.g0 (.L0 v1 E0 (IntKind.wrap .i64 (v5 + 1)) (IntKind.wrap .i64 (v6 + 1))))<|.g0 (.L0 v1 E0 v5 (IntKind.wrap .i64 (v6 + 1))))<|.k8 1<|.kg 1<|.kn [0]<|.g0 (.L0 v1 E0 v5 (IntKind.wrap .i64 (v6 + 1))))<|.rt v5
def Z9v (a0 : Zb) (a1 : Int) : LT Zkw Int :=
.lb 1002<|.go (.L0 a1 a0 0 0) [.relab 1002 30000000]
def Z9w : LF Zkw Int := ⟨143, [.t 4], false, fun | .L0 .. => [1,1,0,1,4],
 fun | .L0 v1 E0 v5 v6 => ⟨34, [(1, (wI v1)), (2, (.bptr 30000000 0)), (5, (wI v5)), (6, (wI v6))], [(30000000, .box (bx (Zo E0)))]⟩,
 fun r => [], fun r => (wI r), fun | .L0 v1 E0 v5 v6 => Zua v1 E0 v5 v6⟩
def Z48 (a0 : Zb) (a1 : Int) : Option Int := Z9w.run (Z9v a0 a1)
theorem Zarx (a0 : Zb) (a1 : Int) {r : Int} (h : Z48 a0 a1 = some r) : Fn PR 143 [(wA (Zo a0)), (wI a1)] (wI r) := Z9w.fn h
def Zalf (a0 : (List Int)) : LT Empty (List Int) :=
.lb 1003<|.apR (cI .i64) 8 ([] : (List Int)) a0 fun x1=>.ret x1 [.relab 1003 5000]
def Zalg : LF Empty (List Int) := .z 173 [.t 2] true (fun r => [(5000, wR (cI .i64) 1 r)]) (fun r => (wO (cI .i64) 5000 r))
def Zaha (a0 : (List Int)) : Option (List Int) := Zalg.run (Zalf a0)
theorem Zkx (a0 : (List Int)) {r : (List Int)} (h : Zaha a0 = some r) : FnG PR 173 [] [(wL (cI .i64) a0)] [(5000, wR (cI .i64) 1 r)] (wO (cI .i64) 5000 r) := Zalg.fn h
def Zalh (a0 : Zb) (a1 : Int) (a2 : Int) : LT Empty (List Int) :=
.lb 1003<|.br (a1 == 0) (.callF (Zkx a0.Battlefield) 130000 fun x2=>.ret x2 [.relab 135000 5000])<|.br (a1 == 4) (.callF (Zkx a0.Exile) 180000 fun x5=>.ret x5 [.relab 185000 5000])<|.cs (decide (a2 < 0)) (.k5 2<|.kg 2<|.kn [0]<|.ret ([] : (List Int)) [.own 6 5000 1])<|.k4 2<|.len Z2 a0.Players<|.k2 2<|.br (decide (a2 ≥ (a0.Players.length : Int))) (.ret ([] : (List Int)) [.own 6 5000 1])<|.br (a1 == 1) (.idx Z2 a0.Players a2 fun x11=>.callF (Zkx x11.Hand) 370000 fun x13=>.ret x13 [.relab 375000 5000])<|.br (a1 == 2) (.idx Z2 a0.Players a2 fun x16=>.callF (Zkx x16.Library) 460000 fun x18=>.ret x18 [.relab 465000 5000])<|.br (a1 == 3) (.idx Z2 a0.Players a2 fun x21=>.callF (Zkx x21.Graveyard) 550000 fun x23=>.ret x23 [.relab 555000 5000])<|.ret ([] : (List Int)) [.own 6 5000 1]
def Zali : LF Empty (List Int) := .z 144 [.t 6] true (fun r => [(5000, wR (cI .i64) 1 r)]) (fun r => (wO (cI .i64) 5000 r))
def Z49 (a0 : Zb) (a1 : Int) (a2 : Int) : Option (List Int) := Zali.run (Zalh a0 a1 a2)
theorem Zawk (a0 : Zb) (a1 : Int) (a2 : Int) {r : (List Int)} (h : Z49 a0 a1 a2 = some r) : FnG PR 144 [] [(wA (Zo a0)), (wI a1), (wI a2)] [(5000, wR (cI .i64) 1 r)] (wO (cI .i64) 5000 r) := Zali.fn h
theorem Zay7 (a0 : Zb) (a1 : Int) (a2 : Int) {r : (List Int)} (h : Z49 a0 a1 a2 = some r) : Fn PR 144 [(wA (Zo a0)), (wI a1), (wI a2)] (wL (cI .i64) r) :=
 FnG.frozen (C := LT.RL (cI .i64) r ∧ True) (Zawk a0 a1 a2 h) ⟨rfl, trivial⟩ (by kernel_rfl)
def Z9x (a0 : Zb) (a1 : Zf) : LT Empty Bool :=
.lb 1002<|.lb 1003<|.br (a1.Zone == 5) (.call (Zarx a0 a1.Id) fun x2=>.rt (x2 == 1))<|.call (Zay7 a0 a1.Zone a1.Owner) fun x4=>.call (Zw4 x4 a1.Id) fun x6=>.rt (x6 == 1)
def Z9y : LF Empty Bool := .z 94 [.t 4] false (fun r => []) (fun r => (wB r))
def Z5a (a0 : Zb) (a1 : Zf) : Option Bool := Z9y.run (Z9x a0 a1)
theorem Z6v (a0 : Zb) (a1 : Zf) {r : Bool} (h : Z5a a0 a1 = some r) : Fn PR 94 [(wA (Zo a0)), (wA (Zh a1))] (wB r) := Z9y.fn h
inductive Zjg where
 | L0 (v0 : (List Zl)) (E0 : Zb) (v5 : Int)
def Zq4 (v0 : (List Zl)) (E0 : Zb) (v5 : Int) : LT Zjg Bool :=
.len Zh E0.Objects<|.br (decide (v5 < (E0.Objects.length : Int))) (.idx Zh E0.Objects v5 fun x3=>.lb 1006<|.len Z4 v0<|.len Z2 E0.Players<|.call (Za4a x3 (v0.length : Int) (E0.Players.length : Int)) fun x7=>.cs (!x7) (.k5 1<|.kg 1<|.b8 true<|.b3 true<|.kn [0]<|.rt false)<|.k5 1<|.kg 1<|.cs (decide (x3.Id ≥ E0.NextId)) (.k5 2<|.kg 2<|.b5 true<|.kn [0]<|.rt false)<|.k5 2<|.kg 2<|.cs (decide (x3.Stamp ≥ E0.NextStamp)) (.k5 3<|.kn [0]<|.rt false)<|.k3 3<|.cs (decide (v5 > 0)) (.k5 4<|.idx Zh E0.Objects (IntKind.wrap .i64 (v5 - 1)) fun x15=>.k5 4<|.kg 3<|.kg 4<|.kg 3<|.br (decide (x15.Id ≥ x3.Id)) (.rt false)<|.call (Z6v E0 x3) fun x18=>.br (!x18) (.rt false)<|.g0 (.L0 v0 E0 (IntKind.wrap .i64 (v5 + 1))))<|.k8 4<|.k2 4<|.kg 3<|.kg 4<|.kg 3<|.kn [0]<|.call (Z6v E0 x3) fun x23=>.br (!x23) (.rt false)<|.g0 (.L0 v0 E0 (IntKind.wrap .i64 (v5 + 1))))<|.rt true
def Z6w (a0 : (List Zl)) (a1 : Zb) : LT Zjg Bool :=
.lb 1003<|.len Zh a1.Objects<|.br (decide ((a1.Objects.length : Int) > 2048)) (.rt false)<|.go (.L0 a0 a1 0) [.relab 1003 30000000]
def Z6x : LF Zjg Bool := ⟨59, [.t 4], false, fun | .L0 .. => [1,1,0,1,4],
 fun | .L0 v0 E0 v5 => ⟨65, [(0, (wL Z4 v0)), (3, (.bptr 30000000 0)), (5, (wI v5))], [(30000000, .box (bx (Zo E0)))]⟩,
 fun r => [], fun r => (wB r), fun | .L0 v0 E0 v5 => Zq4 v0 E0 v5⟩
def Z1j (a0 : (List Zl)) (a1 : Zb) : Option Bool := Z6x.run (Z6w a0 a1)
theorem Zlk (a0 : (List Zl)) (a1 : Zb) {r : Bool} (h : Z1j a0 a1 = some r) : Fn PR 59 [(wL Z4 a0), (wA (Zo a1))] (wB r) := Z6x.fn h
inductive Zif where
 | L0 (v0 : (List Zr)) (v1 : (List Zr)) (v5 : Int)
def Zpi (v0 : (List Zr)) (v1 : (List Zr)) (v5 : Int) : LT Zif Bool :=
.len Z1 v0<|.br (decide (v5 < (v0.length : Int))) (.idx Z1 v0 v5 fun x3=>.idx Z1 v1 v5 fun x5=>.br (!(Zau (Z1 x3) (Z1 x5))) (.rt false)<|.g0 (.L0 v0 v1 (IntKind.wrap .i64 (v5 + 1))))<|.rt true
def Z3a (a0 : (List Zr)) (a1 : (List Zr)) : LT Zif Bool :=
.len Z1 a0<|.len Z1 a1<|.br ((a0.length : Int) != (a1.length : Int)) (.rt false)<|.g0 (.L0 a0 a1 0)
def Z3b : LF Zif Bool := ⟨174, [.t 4], false, fun | .L0 .. => [1,1,0,1,4],
 fun | .L0 v0 v1 v5 => ⟨26, [(0, (wL Z1 v0)), (1, (wL Z1 v1)), (5, (wI v5))], []⟩,
 fun r => [], fun r => (wB r), fun | .L0 v0 v1 v5 => Zpi v0 v1 v5⟩
def Zw6 (a0 : (List Zr)) (a1 : (List Zr)) : Option Bool := Z3b.run (Z3a a0 a1)
theorem Zzy (a0 : (List Zr)) (a1 : (List Zr)) {r : Bool} (h : Zw6 a0 a1 = some r) : Fn PR 174 [(wL Z1 a0), (wL Z1 a1)] (wB r) := Z3b.fn h
def Zalj (a0 : Z0) (a1 : Z0) : LT Empty Bool :=
.lb 1002<|.lb 1003<|.cs (a0.Op == a1.Op) (.k5 0<|.kg 0<|.cs (Zau (Zbg a0.Ref) (Zbg a1.Ref)) (.k5 1<|.kg 1<|.cs (Zau (Zaf a0.Amount) (Zaf a1.Amount)) (.k5 2<|.kg 2<|.cs (a0.Counter == a1.Counter) (.k5 3<|.kg 3<|.cs (a0.Zone == a1.Zone) (.k5 4<|.kg 4<|.cs (a0.Card == a1.Card) (.k5 5<|.kg 5<|.cs (Zau (Zn a0.Filter) (Zn a1.Filter)) (.k5 6<|.kg 6<|.cs (Zau ((cA6 (cI .i64)) a0.Pool) ((cA6 (cI .i64)) a1.Pool)) (.k5 7<|.call (Zzy a0.Mods a1.Mods) fun x9=>.kg 7<|.rt x9)<|.k5 7<|.kg 7<|.rt false)<|.k5 6<|.kg 6<|.b5 false<|.kb false<|.rt false)<|.k5 5<|.kg 5<|.b8 false<|.b4 false<|.rt false)<|.k5 4<|.kg 4<|.b16 false<|.b2 false<|.rt false)<|.k5 3<|.kg 3<|.b16 false<|.b8 false<|.rt false)<|.k5 2<|.kg 2<|.b16 false<|.b8 false<|.b5 false<|.kb false<|.rt false)<|.k5 1<|.kg 1<|.b16 false<|.b16 false<|.b4 false<|.rt false)<|.k5 0<|.kg 0<|.b16 false<|.b16 false<|.b8 false<|.b2 false<|.rt false
def Zalk : LF Empty Bool := .z 196 [.t 4] false (fun r => []) (fun r => (wB r))
def Zahb (a0 : Z0) (a1 : Z0) : Option Bool := Zalk.run (Zalj a0 a1)
theorem Zay8 (a0 : Z0) (a1 : Z0) {r : Bool} (h : Zahb a0 a1 = some r) : Fn PR 196 [(wA (Z6 a0)), (wA (Z6 a1))] (wB r) := Zalk.fn h
inductive Zig where
 | L0 (v0 : (List Z0)) (v1 : (List Z0)) (v5 : Int)
def Zpj (v0 : (List Z0)) (v1 : (List Z0)) (v5 : Int) : LT Zig Bool :=
.len Z6 v0<|.br (decide (v5 < (v0.length : Int))) (.idx Z6 v0 v5 fun x3=>.idx Z6 v1 v5 fun x5=>.call (Zay8 x3 x5) fun x7=>.br (!x7) (.rt false)<|.g0 (.L0 v0 v1 (IntKind.wrap .i64 (v5 + 1))))<|.rt true
def Z3c (a0 : (List Z0)) (a1 : (List Z0)) : LT Zig Bool :=
.len Z6 a0<|.len Z6 a1<|.br ((a0.length : Int) != (a1.length : Int)) (.rt false)<|.g0 (.L0 a0 a1 0)
def Z3d : LF Zig Bool := ⟨175, [.t 4], false, fun | .L0 .. => [1,1,0,1,4],
 fun | .L0 v0 v1 v5 => ⟨27, [(0, (wL Z6 v0)), (1, (wL Z6 v1)), (5, (wI v5))], []⟩,
 fun r => [], fun r => (wB r), fun | .L0 v0 v1 v5 => Zpj v0 v1 v5⟩
def Zw7 (a0 : (List Z0)) (a1 : (List Z0)) : Option Bool := Z3d.run (Z3c a0 a1)
theorem Zall (a0 : (List Z0)) (a1 : (List Z0)) {r : Bool} (h : Zw7 a0 a1 = some r) : Fn PR 175 [(wL Z6 a0), (wL Z6 a1)] (wB r) := Z3d.fn h
inductive Zpk where
 | L0 (E0 : Zk) (E1 : Zk) (v5 : Int)
def Z1k (E0 : Zk) (E1 : Zk) (v5 : Int) : LT Zpk Bool :=
.len Za8 E0.Specs<|.br (decide (v5 < (E0.Specs.length : Int))) (.idx Za8 E0.Specs v5 fun x3=>.idx Za8 E1.Specs v5 fun x5=>.br (!(Zau (Za8 x3) (Za8 x5))) (.rt false)<|.g0 (.L0 E0 E1 (IntKind.wrap .i64 (v5 + 1))))<|.cs (E0.Kind == E1.Kind) (.k5 1<|.kg 1<|.cs (Zau (Zn E0.Filter) (Zn E1.Filter)) (.k5 2<|.call (Zzy E0.Mods E1.Mods) fun x12=>.kg 2<|.cs x12 (.k5 3<|.kg 3<|.cs (Zau (Zfg E0.Price) (Zfg E1.Price)) (.k5 4<|.kg 4<|.cs (E0.Slow == E1.Slow) (.k5 5<|.kg 5<|.cs (Zau (Zdm E0.Trigger) (Zdm E1.Trigger)) (.k5 6<|.kg 6<|.cs (E0.May == E1.May) (.k5 7<|.call (Zall E0.Effects E1.Effects) fun x19=>.kg 7<|.cs x19 (.k5 8<|.kg 8<|.rt (Zau (Zbz E0.Replace) (Zbz E1.Replace)))<|.k5 8<|.kg 8<|.rt false)<|.k5 7<|.kg 7<|.b5 false<|.kb false<|.rt false)<|.k5 6<|.kg 6<|.b8 false<|.b4 false<|.rt false)<|.k5 5<|.kg 5<|.b16 false<|.b2 false<|.rt false)<|.k5 4<|.kg 4<|.b16 false<|.b8 false<|.rt false)<|.k5 3<|.kg 3<|.b16 false<|.b8 false<|.b5 false<|.kb false<|.rt false)<|.k5 2<|.kg 2<|.b16 false<|.b16 false<|.b4 false<|.rt false)<|.k5 1<|.kg 1<|.b16 false<|.b16 false<|.b8 false<|.b2 false<|.rt false
def Zalm (a0 : Zk) (a1 : Zk) : LT Zpk Bool :=
.lb 1002<|.lb 1003<|.len Za8 a0.Specs<|.len Za8 a1.Specs<|.br ((a0.Specs.length : Int) != (a1.Specs.length : Int)) (.rt false)<|.go (.L0 a0 a1 0) [.relab 1002 30000000, .relab 1003 30000001]
def Zaln : LF Zpk Bool := ⟨145, [.t 4], false, fun | .L0 .. => [1,1,0,1,4],
 fun | .L0 E0 E1 v5 => ⟨92, [(2, (.bptr 30000000 0)), (3, (.bptr 30000001 0)), (5, (wI v5))], [(30000000, .box (bx (Zx E0))), (30000001, .box (bx (Zx E1)))]⟩,
 fun r => [], fun r => (wB r), fun | .L0 E0 E1 v5 => Z1k E0 E1 v5⟩
def Zahc (a0 : Zk) (a1 : Zk) : Option Bool := Zaln.run (Zalm a0 a1)
theorem Zay9 (a0 : Zk) (a1 : Zk) {r : Bool} (h : Zahc a0 a1 = some r) : Fn PR 145 [(wA (Zx a0)), (wA (Zx a1))] (wB r) := Zaln.fn h
def Zalo (a0 : Zb) (a1 : Zeg) : LT Empty Bool :=
.lb 1002<|.lb 1003<|.call (Zd0 a1.Id 1 (IntKind.wrap .i64 (a0.NextId - 1))) fun x3=>.cs (!x3) (.k5 0<|.b8 true<|.b3 true<|.kn [0]<|.rt false)<|.k3 0<|.call (Zd0 a1.X 0 1000000) fun x6=>.k2 0<|.cs (!x6) (.k5 1<|.b5 true<|.kb true<|.kn [0]<|.rt false)<|.k3 1<|.len Zbj a1.Targets<|.k2 1<|.cs (decide ((a1.Targets.length : Int) > 4)) (.k5 2<|.kg 2<|.kn [0]<|.rt false)<|.k4 2<|.call (Zf3 a0 a1.Control) fun x11=>.k2 2<|.br (!x11) (.rt false)<|.call (Z6s a0 a1.Id) fun x14=>.lb 1005<|.br (a1.Kind == 1) (.call (Zay9 a1.Ability (⟨0, (⟨0, 0, 0, 0, 0, 0, 0, ([] : List UInt8), 0, 0, (⟨0, 0⟩ : Zd), (⟨0, 0⟩ : Zd), (⟨0, 0⟩ : Zd)⟩ : Ze), ([] : (List Zr)), (⟨(⟨0, 0, (⟨0, 0, 0, 0, 0⟩ : (A5 Int))⟩ : Zp), false, false, 0⟩ : Zfq), false, (⟨0, 0, (⟨0, 0, 0, 0, 0, 0, 0, ([] : List UInt8), 0, 0, (⟨0, 0⟩ : Zd), (⟨0, 0⟩ : Zd), (⟨0, 0⟩ : Zd)⟩ : Ze)⟩ : Zcb), false, ([] : (List Zcy)), ([] : (List Z0)), (⟨0, 0, (⟨0, 0, 0, 0, 0, 0, 0, ([] : List UInt8), 0, 0, (⟨0, 0⟩ : Zd), (⟨0, 0⟩ : Zd), (⟨0, 0⟩ : Zd)⟩ : Ze), 0, 0, 0, 0⟩ : Zaz)⟩ : Zk)) fun x17=>.cs (a1.Source == a1.Id) (.k2 5<|.cs x14.2 (.k4 6<|.cs (x14.1.Zone == 5) (.k2 7<|.cs x17 (.k3 8<|.kg 7<|.kg 8<|.kg 7<|.rt true)<|.k3 8<|.call (Zzx a1.Ability) fun x23=>.kg 7<|.kg 8<|.kg 7<|.rt x23)<|.k4 7<|.rt false)<|.k4 6<|.b4 false<|.rt false)<|.k2 5<|.b8 false<|.rt false)<|.cs (a1.Kind == 2) (.k3 5<|.cs (!x14.2) (.k3 6<|.call (Zzx a1.Ability) fun x27=>.kg 6<|.rt x27)<|.k4 6<|.rt false)<|.k3 5<|.b4 false<|.rt false
def Zalp : LF Empty Bool := .z 95 [.t 4] false (fun r => []) (fun r => (wB r))
def Zahd (a0 : Zb) (a1 : Zeg) : Option Bool := Zalp.run (Zalo a0 a1)
theorem Zaza (a0 : Zb) (a1 : Zeg) {r : Bool} (h : Zahd a0 a1 = some r) : Fn PR 95 [(wA (Zo a0)), (wA (Zal a1))] (wB r) := Zalp.fn h
inductive Zw8 where
 | L0 (v0 : (List Int)) (v3 : Int)
def Z9z (v0 : (List Int)) (v3 : Int) : LT Zw8 Bool :=
.len (cI .i64) v0<|.br (decide (v3 < (v0.length : Int))) (.idx (cI .i64) v0 (IntKind.wrap .i64 (v3 - 1)) fun x5=>.idx (cI .i64) v0 v3 fun x7=>.br (decide (x5 ≥ x7)) (.rt false)<|.g0 (.L0 v0 (IntKind.wrap .i64 (v3 + 1))))<|.rt true
def Zawl (a0 : (List Int)) : LT Zw8 Bool :=
.g0 (.L0 a0 1)
def Zawm : LF Zw8 Bool := ⟨96, [.t 2], false, fun | .L0 .. => [1,0,1,4],
 fun | .L0 v0 v3 => ⟨20, [(0, (wL (cI .i64) v0)), (3, (wI v3))], []⟩,
 fun r => [], fun r => (wB r), fun | .L0 v0 v3 => Z9z v0 v3⟩
def Zawn (a0 : (List Int)) : Option Bool := Zawm.run (Zawl a0)
theorem Za4b (a0 : (List Int)) {r : Bool} (h : Zawn a0 = some r) : Fn PR 96 [(wL (cI .i64) a0)] (wB r) := Zawm.fn h
inductive Zgm where
 | L0 (E0 : Zb) (v3 : Int)
 | L1 (E0 : Zb) (v3 : Int) (v4 : Int)
 | L2 (E0 : Zb) (v5 : Int)
 | L3 (E0 : Zb) (v7 : Int)
def Zw9 (E0 : Zb) (v3 : Int) : LT Zgm Bool :=
.len Zal E0.Stack<|.br (decide (v3 < (E0.Stack.length : Int))) (.idx Zal E0.Stack v3 fun x3=>.call (Zaza E0 x3) fun x5=>.br (!x5) (.rt false)<|.g0 (.L1 E0 v3 0))<|.g0 (.L2 E0 0)
def Zxa (E0 : Zb) (v3 : Int) (v4 : Int) : LT Zgm Bool :=
.br (decide (v4 < v3)) (.idx Zal E0.Stack v4 fun x2=>.idx Zal E0.Stack v3 fun x4=>.br (x2.Id == x4.Id) (.rt false)<|.g0 (.L1 E0 v3 (IntKind.wrap .i64 (v4 + 1))))<|.g0 (.L0 E0 (IntKind.wrap .i64 (v3 + 1)))
def Zxb (E0 : Zb) (v5 : Int) : LT Zgm Bool :=
.len Zae E0.Waiting<|.br (decide (v5 < (E0.Waiting.length : Int))) (.idx Zae E0.Waiting v5 fun x3=>.lb 1006<|.call (Zf3 E0 x3.Control) fun x5=>.cs (!x5) (.k5 1<|.b5 true<|.kn [0]<|.rt false)<|.k5 1<|.cs (x3.Ability.Kind != 4) (.k5 2<|.kn [0]<|.rt false)<|.k3 2<|.call (Zzx x3.Ability) fun x9=>.k2 2<|.br (!x9) (.rt false)<|.g0 (.L2 E0 (IntKind.wrap .i64 (v5 + 1))))<|.g0 (.L3 E0 0)
def Zxc (E0 : Zb) (v7 : Int) : LT Zgm Bool :=
.len Zaq E0.Conts<|.br (decide (v7 < (E0.Conts.length : Int))) (.idx Zaq E0.Conts v7 fun x3=>.lb 1008<|.call (Zf3 E0 x3.Control) fun x5=>.cs (!x5) (.k5 1<|.kg 1<|.b8 true<|.b5 true<|.b2 true<|.kn [0]<|.rt false)<|.k5 1<|.kg 1<|.cs (decide (x3.Stamp ≥ E0.NextStamp)) (.k5 2<|.b8 true<|.b2 true<|.kn [0]<|.rt false)<|.k3 2<|.call (Zd0 x3.Until 1 2) fun x9=>.k2 2<|.cs (!x9) (.k5 3<|.b5 true<|.kn [0]<|.rt false)<|.k3 3<|.call (Za4b x3.Objects) fun x12=>.k2 3<|.cs (!x12) (.k5 4<|.kn [0]<|.rt false)<|.k3 4<|.call (Zpd x3.Mods) fun x15=>.k2 4<|.br (x15 == ([] : List UInt8)) (.rt false)<|.g0 (.L3 E0 (IntKind.wrap .i64 (v7 + 1))))<|.rt true
def Zaek (a0 : Zb) : LT Zgm Bool :=
.lb 1001<|.len Zal a0.Stack<|.cs (decide ((a0.Stack.length : Int) > 64)) (.k5 0<|.b5 true<|.kn [0]<|.rt false)<|.k3 0<|.len Zae a0.Waiting<|.k2 0<|.cs (decide ((a0.Waiting.length : Int) > 64)) (.k5 1<|.kn [0]<|.rt false)<|.k3 1<|.len Zaq a0.Conts<|.k2 1<|.br (decide ((a0.Conts.length : Int) > 64)) (.rt false)<|.go (.L0 a0 0) [.relab 1001 30000000]
def Zael : LF Zgm Bool := ⟨60, [.t 2], false, fun | .L0 .. => [1,1,0,1,4] | .L1 .. => [1,1,0,1,4,5,1,0,4,1,1,4] | .L2 .. => [1,1,1,0,1,4] | .L3 .. => [1,1,1,1,0,1,4],
 fun | .L0 E0 v3 => ⟨129, [(1, (.bptr 30000000 0)), (3, (wI v3))], [(30000000, .box (bx (Zo E0)))]⟩ | .L1 E0 v3 v4 => ⟨129, [(1, (.bptr 30000000 0)), (3, (wI v3)), (4, (wI v4))], [(30000000, .box (bx (Zo E0)))]⟩ | .L2 E0 v5 => ⟨129, [(1, (.bptr 30000000 0)), (5, (wI v5))], [(30000000, .box (bx (Zo E0)))]⟩ | .L3 E0 v7 => ⟨129, [(1, (.bptr 30000000 0)), (7, (wI v7))], [(30000000, .box (bx (Zo E0)))]⟩,
 fun r => [], fun r => (wB r), fun | .L0 E0 v3 => Zw9 E0 v3 | .L1 E0 v3 v4 => Zxa E0 v3 v4 | .L2 E0 v5 => Zxb E0 v5 | .L3 E0 v7 => Zxc E0 v7⟩
def Z90 (a0 : Zb) : Option Bool := Zael.run (Zaek a0)
theorem Zpl (a0 : Zb) {r : Bool} (h : Z90 a0 = some r) : Fn PR 60 [(wA (Zo a0))] (wB r) := Zael.fn h
inductive Zxd where
 | L0 (v0 : (List Zl)) (E0 : Zb) (v5 : Int)
def Z91 (v0 : (List Zl)) (E0 : Zb) (v5 : Int) : LT Zxd Bool :=
.len (cI .i64) E0.Extra<|.br (decide (v5 < (E0.Extra.length : Int))) (.idx (cI .i64) E0.Extra v5 fun x3=>.call (Zf3 E0 x3) fun x5=>.br (!x5) (.rt false)<|.g0 (.L0 v0 E0 (IntKind.wrap .i64 (v5 + 1))))<|.cs (E0.Over == 1) (.k4 1<|.call (Zf3 E0 E0.Winner) fun x11=>.k2 1<|.cs (!x11) (.k5 2<|.kg 2<|.kn [0]<|.rt false)<|.k4 2<|.cs (E0.Over != 1) (.k3 3<|.kg 2<|.kg 3<|.kg 2<|.br (E0.Winner != (-1)) (.rt false)<|.call (Zlk v0 E0) fun x16=>.cs x16 (.k2 5<|.call (Zpl E0) fun x19=>.kg 5<|.rt x19)<|.k3 5<|.rt false)<|.k3 3<|.kg 2<|.kg 3<|.kg 2<|.kn [0]<|.call (Zlk v0 E0) fun x21=>.cs x21 (.k2 4<|.call (Zpl E0) fun x24=>.kg 4<|.rt x24)<|.k3 4<|.rt false)<|.k5 1<|.kg 1<|.b4 false<|.cs (E0.Over != 1) (.k3 2<|.kb false<|.kg 2<|.kb false<|.br (E0.Winner != (-1)) (.rt false)<|.call (Zlk v0 E0) fun x28=>.cs x28 (.k2 4<|.call (Zpl E0) fun x31=>.kg 4<|.rt x31)<|.k3 4<|.rt false)<|.k3 2<|.kb false<|.kg 2<|.kb false<|.kn [0]<|.call (Zlk v0 E0) fun x33=>.cs x33 (.k2 3<|.call (Zpl E0) fun x36=>.kg 3<|.rt x36)<|.k3 3<|.rt false
def Zawo (a0 : (List Zl)) (a1 : Zb) : LT Zxd Bool :=
.lb 1003<|.call (Zd0 a1.NextId 1 1000000) fun x1=>.cs (!x1) (.k5 0<|.b8 true<|.b5 true<|.b2 true<|.kn [0]<|.rt false)<|.k3 0<|.call (Zd0 a1.NextStamp 1 1000000) fun x4=>.k2 0<|.cs (!x4) (.k5 1<|.b8 true<|.b2 true<|.kn [0]<|.rt false)<|.k3 1<|.call (Zd0 a1.Turn 0 500) fun x7=>.k2 1<|.cs (!x7) (.k5 2<|.b5 true<|.kn [0]<|.rt false)<|.k3 2<|.call (Zd0 a1.Step 0 10) fun x10=>.k2 2<|.cs (!x10) (.k5 3<|.kn [0]<|.rt false)<|.k3 3<|.len Zh a1.Objects<|.k2 3<|.br (decide ((a1.Objects.length : Int) > 2048)) (.rt false)<|.call (Zaov a1) fun x15=>.cs (!x15) (.k5 5<|.kg 5<|.b16 true<|.b8 true<|.kn [0]<|.rt false)<|.k4 5<|.call (Zf3 a1 a1.Active) fun x18=>.k2 5<|.cs (!x18) (.k5 6<|.kg 6<|.b16 true<|.b2 true<|.kn [0]<|.rt false)<|.k4 6<|.call (Zf3 a1 a1.Priority) fun x21=>.k2 6<|.cs (!x21) (.k8 7<|.b8 true<|.b2 true<|.kn [0]<|.rt false)<|.k5 7<|.len Z2 a1.Players<|.kg 7<|.call (Zd0 a1.Passes 0 (a1.Players.length : Int)) fun x25=>.k2 7<|.cs (!x25) (.k5 8<|.b5 true<|.kn [0]<|.rt false)<|.k3 8<|.len (cI .i64) a1.Extra<|.k2 8<|.cs (decide ((a1.Extra.length : Int) > 500)) (.k5 9<|.kn [0]<|.rt false)<|.k3 9<|.call (Zd0 a1.Over 0 2) fun x30=>.k2 9<|.br (!x30) (.rt false)<|.go (.L0 a0 a1 0) [.relab 1003 30000000]
def Zawp : LF Zxd Bool := ⟨26, [.t 4], false, fun | .L0 .. => [1,1,1,0,1,4],
 fun | .L0 v0 E0 v5 => ⟨114, [(0, (wL Z4 v0)), (3, (.bptr 30000000 0)), (5, (wI v5))], [(30000000, .box (bx (Zo E0)))]⟩,
 fun r => [], fun r => (wB r), fun | .L0 v0 E0 v5 => Z91 v0 E0 v5⟩
def Zawq (a0 : (List Zl)) (a1 : Zb) : Option Bool := Zawp.run (Zawo a0 a1)
theorem Za4c (a0 : (List Zl)) (a1 : Zb) {r : Bool} (h : Zawq a0 a1 = some r) : Fn PR 26 [(wL Z4 a0), (wA (Zo a1))] (wB r) := Zawp.fn h
inductive Zmp where
 | L0 (v0 : (List Zl)) (E0 : Zb) (v5 : Int)
def Zxe (v0 : (List Zl)) (E0 : Zb) (v5 : Int) : LT Zmp Bool :=
.len Z2 E0.Players<|.br (decide (v5 < (E0.Players.length : Int))) (.idx Z2 E0.Players v5 fun x3=>.len (cI .i64) x3.Library<|.ag Z2 x3 0<|.len (cI .i64) x3.Hand<|.ag Z2 x3 0<|.len (cI .i64) x3.Graveyard<|.br (decide ((IntKind.wrap .i64 ((IntKind.wrap .i64 ((x3.Library.length : Int) + (x3.Hand.length : Int))) + (x3.Graveyard.length : Int))) > 60)) (.rt false)<|.g0 (.L0 v0 E0 (IntKind.wrap .i64 (v5 + 1))))<|.call (Zav7 v0) fun x15=>.cs (x15.2 == 0) (.k3 1<|.call (Za4c v0 E0) fun x18=>.kg 1<|.rt x18)<|.k4 1<|.rt false
def Zaem (a0 : (List Zl)) (a1 : Zb) : LT Zmp Bool :=
.lb 1003<|.len Z4 a0<|.cs (decide ((a0.length : Int) > 12)) (.k5 0<|.b16 true<|.b16 true<|.b3 true<|.kn [0]<|.rt false)<|.k3 0<|.len Z2 a1.Players<|.k2 0<|.cs (decide ((a1.Players.length : Int) > 4)) (.k5 1<|.b16 true<|.b8 true<|.b5 true<|.kb true<|.kn [0]<|.rt false)<|.k3 1<|.len Zh a1.Objects<|.k2 1<|.cs (decide ((a1.Objects.length : Int) > 60)) (.k5 2<|.b16 true<|.b8 true<|.kb true<|.kn [0]<|.rt false)<|.k3 2<|.len (cI .i64) a1.Battlefield<|.k2 2<|.cs (decide ((a1.Battlefield.length : Int) > 60)) (.k5 3<|.b16 true<|.b4 true<|.kn [0]<|.rt false)<|.k3 3<|.len (cI .i64) a1.Exile<|.k2 3<|.cs (decide ((a1.Exile.length : Int) > 60)) (.k5 4<|.b8 true<|.b5 true<|.b2 true<|.kn [0]<|.rt false)<|.k3 4<|.len Zal a1.Stack<|.k2 4<|.cs (decide ((a1.Stack.length : Int) > 8)) (.k5 5<|.b8 true<|.b2 true<|.kn [0]<|.rt false)<|.k3 5<|.len Zae a1.Waiting<|.k2 5<|.cs (decide ((a1.Waiting.length : Int) > 8)) (.k5 6<|.b5 true<|.kn [0]<|.rt false)<|.k3 6<|.len Zaq a1.Conts<|.k2 6<|.cs (decide ((a1.Conts.length : Int) > 8)) (.k5 7<|.kn [0]<|.rt false)<|.k3 7<|.len (cI .i64) a1.Extra<|.k2 7<|.br (decide ((a1.Extra.length : Int) > 20)) (.rt false)<|.go (.L0 a0 a1 0) [.relab 1003 30000000]
def Zaen : LF Zmp Bool := ⟨9, [.t 4], false, fun | .L0 .. => [1,1,0,1,4],
 fun | .L0 v0 E0 v5 => ⟨102, [(0, (wL Z4 v0)), (3, (.bptr 30000000 0)), (5, (wI v5))], [(30000000, .box (bx (Zo E0)))]⟩,
 fun r => [], fun r => (wB r), fun | .L0 v0 E0 v5 => Zxe v0 E0 v5⟩
def Z92 (a0 : (List Zl)) (a1 : Zb) : Option Bool := Zaen.run (Zaem a0 a1)
theorem Zpm (a0 : (List Zl)) (a1 : Zb) {r : Bool} (h : Z92 a0 a1 = some r) : Fn PR 9 [(wL Z4 a0), (wA (Zo a1))] (wB r) := Zaen.fn h
def Z6y (a0 : Zw) : LT Empty Zw :=
.lb 1001<|.lb 1002<|.br (a0.Kind == 2) (.rt (⟨0, 0, a0.Counter, (⟨0, 0, 0, 0, 0, 0, 0, ([] : List UInt8), 0, 0, (⟨0, 0⟩ : Zd), (⟨0, 0⟩ : Zd), (⟨0, 0⟩ : Zd)⟩ : Ze)⟩ : Zw))<|.br (a0.Kind == 0) (.rt (⟨0, 0, a0.Counter, a0.Filter⟩ : Zw))<|.br (a0.Kind == 4) (.rt (⟨0, a0.N, 0, a0.Filter⟩ : Zw))<|.rt (⟨0, a0.N, a0.Counter, a0.Filter⟩ : Zw)
def Z6z : LF Empty Zw := .z 68 [.c 2 43 true 19] false (fun r => []) (fun r => (wA (Zaf r)))
def Z1l (a0 : Zw) : Option Zw := Z6z.run (Z6y a0)
theorem Zaow (a0 : Zw) {r : Zw} (h : Z1l a0 = some r) : Fn PR 68 [(wA (Zaf a0))] (wA (Zaf r)) := Z6z.fn h
def Zxf (a0 : Int) (a1 : Int) : LT Empty Bool :=
.cs (decide (a0 ≥ 0)) (.k4 0<|.rt (decide (a0 ≤ a1)))<|.k4 0<|.rt false
def Zxg : LF Empty Bool := .z 110 [.t 4] false (fun r => []) (fun r => (wB r))
def Zq5 (a0 : Int) (a1 : Int) : Option Bool := Zxg.run (Zxf a0 a1)
theorem Zbt (a0 : Int) (a1 : Int) {r : Bool} (h : Zq5 a0 a1 = some r) : Fn PR 110 [(wI a0), (wI a1)] (wB r) := Zxg.fn h
inductive Zzz where
 | L0 (v36 : (List Int)) (v37 : Int) (v38 : Int)
def Zpn (v36 : (List Int)) (v37 : Int) (v38 : Int) : LT Zzz Bool :=
.br (decide (v38 < v37)) (.idx (cI .u8) v36 v38 fun x2=>.cs (decide (x2 < 97)) (.k3 1<|.b3 true<|.cs (decide (x2 < 48)) (.k2 2<|.kb true<|.kg 2<|.b4 true<|.br (x2 != 45) (.rt false)<|.g0 (.L0 v36 v37 (IntKind.wrap .i64 (v38 + 1))))<|.k2 2<|.kb true<|.kg 2<|.kb true<|.cs (decide (x2 > 57)) (.k3 3<|.br (x2 != 45) (.rt false)<|.g0 (.L0 v36 v37 (IntKind.wrap .i64 (v38 + 1))))<|.k3 3<|.kn [0]<|.g0 (.L0 v36 v37 (IntKind.wrap .i64 (v38 + 1))))<|.k3 1<|.cs (decide (x2 > 122)) (.k3 2<|.cs (decide (x2 < 48)) (.k2 3<|.kg 2<|.kg 3<|.kg 2<|.b3 true<|.br (x2 != 45) (.rt false)<|.g0 (.L0 v36 v37 (IntKind.wrap .i64 (v38 + 1))))<|.k2 3<|.kg 2<|.kg 3<|.kg 2<|.cs (decide (x2 > 57)) (.k3 4<|.br (x2 != 45) (.rt false)<|.g0 (.L0 v36 v37 (IntKind.wrap .i64 (v38 + 1))))<|.k3 4<|.kn [0]<|.g0 (.L0 v36 v37 (IntKind.wrap .i64 (v38 + 1))))<|.k5 2<|.b3 false<|.kn [0]<|.g0 (.L0 v36 v37 (IntKind.wrap .i64 (v38 + 1))))<|.rt true
def Zaqx (a0 : (List UInt8)) : LT Zzz Bool :=
.lenS a0<|.cs ((a0.length : Int) == 0) (.k4 0<|.b16 true<|.b2 true<|.kn [0]<|.rt false)<|.k2 0<|.lenS a0<|.k2 0<|.cs (decide ((a0.length : Int) > 32)) (.k4 1<|.b8 true<|.b5 true<|.kb true<|.kn [0]<|.rt false)<|.k2 1<|.idxS a0 0 fun x4=>.k2 1<|.cs (decide ((UInt8.toNat x4 : Int) < 97)) (.k4 2<|.b8 true<|.b2 true<|.kn [0]<|.rt false)<|.k2 2<|.idxS a0 0 fun x7=>.k2 2<|.cs (decide ((UInt8.toNat x7 : Int) > 122)) (.k5 3<|.k2 3<|.b3 true<|.kn [0]<|.rt false)<|.k3 3<|.lenS a0<|.k2 3<|.idxS a0 (IntKind.wrap .i64 ((a0.length : Int) - 1)) fun x12=>.k2 3<|.cs ((UInt8.toNat x12 : Int) == 45) (.k3 4<|.kn [0]<|.rt false)<|.k2 4<|.call (Z74 a0 ([45, 45] : List UInt8)) fun x15=>.kg 4<|.br x15 (.rt false)<|.bys a0 fun x18=>.len (cI .u8) x18<|.g0 (.L0 x18 (x18.length : Int) 0)
def Zti : LF Zzz Bool := ⟨155, [.t 2], false, fun | .L0 .. => [1,1,0,1,4],
 fun | .L0 v36 v37 v38 => ⟨61, [(36, (wL (cI .u8) v36)), (37, (wI v37)), (38, (wI v38))], []⟩,
 fun r => [], fun r => (wB r), fun | .L0 v36 v37 v38 => Zpn v36 v37 v38⟩
def Zaox (a0 : (List UInt8)) : Option Bool := Zti.run (Zaqx a0)
theorem Za1o (a0 : (List UInt8)) {r : Bool} (h : Zaox a0 = some r) : Fn PR 155 [(wS a0)] (wB r) := Zti.fn h
def Zxh (a0 : Int) : LT Empty (List UInt8) :=
.idX Zg.str (A2.list (⟨([98, 97, 115, 105, 99] : List UInt8), ([117, 110, 105, 113, 117, 101] : List UInt8)⟩ : (A2 (List UInt8)))) a0 fun x1=>.rt x1
def Znv : LF Empty (List UInt8) := .z 157 [.t 2] false (fun r => []) (fun r => (wS r))
def Zq6 (a0 : Int) : Option (List UInt8) := Znv.run (Zxh a0)
theorem Zac1 (a0 : Int) {r : (List UInt8)} (h : Zq6 a0 = some r) : Fn PR 157 [(wI a0)] (wS r) := Znv.fn h
def Zz0 (a0 : Int) : LT Empty (List UInt8) :=
.idX Zg.str (A6.list (⟨([99, 114, 101, 97, 116, 117, 114, 101] : List UInt8), ([105, 110, 115, 116, 97, 110, 116] : List UInt8), ([114, 105, 116, 117, 97, 108] : List UInt8), ([114, 101, 108, 105, 99] : List UInt8), ([99, 104, 97, 114, 109] : List UInt8), ([108, 97, 110, 100] : List UInt8)⟩ : (A6 (List UInt8)))) a0 fun x1=>.rt x1
def Zpo : LF Empty (List UInt8) := .z 158 [.t 2] false (fun r => []) (fun r => (wS r))
def Zub (a0 : Int) : Option (List UInt8) := Zpo.run (Zz0 a0)
theorem Zahe (a0 : Int) {r : (List UInt8)} (h : Zub a0 = some r) : Fn PR 158 [(wI a0)] (wS r) := Zpo.fn h
inductive Zf4 where
 | L0 (v0 : (List UInt8)) (v8 : Int) (v9 : Int)
def Zd1 (v0 : (List UInt8)) (v8 : Int) (v9 : Int) : LT Zf4 Int :=
.br (decide (v9 < v8)) (.call (Zac1 v9) fun x2=>.br (!(x2 == v0)) (.g0 (.L0 v0 v8 (IntKind.wrap .i64 (v9 + 1))))<|.ok (¬ v9 < 0)<|.rt (Z8t .i64 1 v9))<|.rt 0
def Zjh (a0 : (List UInt8)) (a1 : Int) : LT Zf4 Int :=
.g0 (.L0 a0 a1 0)
def Zf5 : LF Zf4 Int := ⟨156, [.t 6], false, fun | .L0 .. => [1,6,1,0,1,4],
 fun | .L0 v0 v8 v9 => ⟨20, [(0, (wS v0)), (2, (.fn 157 [])), (8, (wI v8)), (9, (wI v9))], []⟩,
 fun r => [], fun r => (wI r), fun | .L0 v0 v8 v9 => Zd1 v0 v8 v9⟩
def Zg2 (a0 : (List UInt8)) (a1 : Int) : Option Int := Zf5.run (Zjh a0 a1)
theorem Ztj (a0 : (List UInt8)) (a1 : Int) {r : Int} (h : Zg2 a0 a1 = some r) : Fn PR 156 [(wS a0), (wI a1), (.fn 157 [])] (wI r) := Zf5.fn h
inductive Zgg where
 | L0 (v0 : (List UInt8)) (v8 : Int) (v9 : Int)
def Zec (v0 : (List UInt8)) (v8 : Int) (v9 : Int) : LT Zgg Int :=
.br (decide (v9 < v8)) (.call (Zahe v9) fun x2=>.br (!(x2 == v0)) (.g0 (.L0 v0 v8 (IntKind.wrap .i64 (v9 + 1))))<|.ok (¬ v9 < 0)<|.rt (Z8t .i64 1 v9))<|.rt 0
def Zkd (a0 : (List UInt8)) (a1 : Int) : LT Zgg Int :=
.g0 (.L0 a0 a1 0)
def Zgh : LF Zgg Int := ⟨156, [.t 6], false, fun | .L0 .. => [1,6,1,0,1,4],
 fun | .L0 v0 v8 v9 => ⟨20, [(0, (wS v0)), (2, (.fn 158 [])), (8, (wI v8)), (9, (wI v9))], []⟩,
 fun r => [], fun r => (wI r), fun | .L0 v0 v8 v9 => Zec v0 v8 v9⟩
def Zhm (a0 : (List UInt8)) (a1 : Int) : Option Int := Zgh.run (Zkd a0 a1)
theorem Zuc (a0 : (List UInt8)) (a1 : Int) {r : Int} (h : Zhm a0 a1 = some r) : Fn PR 156 [(wS a0), (wI a1), (.fn 158 [])] (wI r) := Zgh.fn h
def Z93 (a0 : (List UInt8)) : LT Empty Bool :=
.call (Za1o a0) fun x1=>.cs x1 (.k2 0<|.call (Ztj a0 2) fun x4=>.k2 0<|.cs (x4 == 0) (.k2 1<|.call (Zuc a0 6) fun x7=>.k2 1<|.rt (x7 == 0))<|.k4 1<|.rt false)<|.k4 0<|.b4 false<|.rt false
def Z94 : LF Empty Bool := .z 111 [.t 2] false (fun r => []) (fun r => (wB r))
def Z5b (a0 : (List UInt8)) : Option Bool := Z94.run (Z93 a0)
theorem Zary (a0 : (List UInt8)) {r : Bool} (h : Z5b a0 = some r) : Fn PR 111 [(wS a0)] (wB r) := Z94.fn h
def Zxi (a0 : Zd) : LT Empty Bool :=
.lb 1001<|.call (Zbt a0.Kind 3) fun x1=>.cs x1 (.k3 0<|.call (Zbt a0.N 1000000) fun x4=>.kg 0<|.cs x4 (.k4 1<|.cs (a0.Kind != 0) (.k3 2<|.kg 1<|.kg 2<|.kg 1<|.rt true)<|.k3 2<|.kg 1<|.kg 2<|.kg 1<|.rt (a0.N == 0))<|.k5 1<|.kg 1<|.rt false)<|.k4 0<|.b5 false<|.kb false<|.rt false
def Zxj : LF Empty Bool := .z 112 [.t 2] false (fun r => []) (fun r => (wB r))
def Zq7 (a0 : Zd) : Option Bool := Zxj.run (Zxi a0)
theorem Zlw (a0 : Zd) {r : Bool} (h : Zq7 a0 = some r) : Fn PR 112 [(wA (Zcq a0))] (wB r) := Zxj.fn h
inductive Zsa where
 | L0 (E0 : Ze)
def Zky (E0 : Ze) : LT Zsa Bool :=
.call (Zlw E0.Power) fun x1=>.cs x1 (.k3 0<|.call (Zlw E0.Tough) fun x4=>.kg 0<|.cs x4 (.k3 1<|.call (Zlw E0.Value) fun x7=>.kg 1<|.rt x7)<|.k4 1<|.rt false)<|.k4 0<|.b4 false<|.rt false
def Zaeo (a0 : Ze) : LT Zsa Bool :=
.lb 1001<|.call (Zbt a0.Zone 5) fun x1=>.cs (!x1) (.k5 0<|.b8 true<|.b5 true<|.b2 true<|.kn [0]<|.rt false)<|.k3 0<|.call (Zbt a0.Who 2) fun x4=>.k2 0<|.cs (!x4) (.k5 1<|.b8 true<|.b2 true<|.kn [0]<|.rt false)<|.k3 1<|.call (Zbt a0.Self 2) fun x7=>.k2 1<|.cs (!x7) (.k5 2<|.b5 true<|.kn [0]<|.rt false)<|.k3 2<|.call (Zbt a0.Tap 2) fun x10=>.k2 2<|.cs (!x10) (.k5 3<|.kn [0]<|.rt false)<|.k3 3<|.call (Zbt a0.Keys 131071) fun x13=>.k2 3<|.br (!x13) (.rt false)<|.call (Zbt a0.Types 63) fun x16=>.cs (!x16) (.k5 5<|.b5 true<|.b2 true<|.kn [0]<|.rt false)<|.k3 5<|.call (Zbt a0.NotTypes 63) fun x19=>.k2 5<|.cs (!x19) (.k5 6<|.k2 6<|.kn [0]<|.rt false)<|.k5 6<|.k2 6<|.br ((Zbc .and .i64 a0.Types a0.NotTypes) != 0) (.rt false)<|.call (Zbt a0.Colors 31) fun x23=>.cs (!x23) (.k5 8<|.b5 true<|.b2 true<|.kn [0]<|.rt false)<|.k3 8<|.call (Zbt a0.NotColors 31) fun x26=>.k2 8<|.cs (!x26) (.k5 9<|.k2 9<|.kn [0]<|.rt false)<|.k5 9<|.k2 9<|.br ((Zbc .and .i64 a0.Colors a0.NotColors) != 0) (.rt false)<|.cs (!(a0.Sub == ([] : List UInt8))) (.k3 11<|.call (Zary a0.Sub) fun x31=>.k2 11<|.br (!x31) (.rt false)<|.jn 0 (.L0 a0) [.relab 1001 30000000] (Zky a0))<|.k5 11<|.kn [0]<|.jn 0 (.L0 a0) [.relab 1001 30000000] (Zky a0)
def Zmq : LF Zsa Bool := ⟨69, [.t 2], false, fun | .L0 .. => [1,1,1,1,1],
 fun | .L0 E0 => ⟨89, [(1, (.bptr 30000000 0))], [(30000000, .box (bx (Zn E0)))]⟩,
 fun r => [], fun r => (wB r), fun | .L0 E0 => Zky E0⟩
def Zz1 (a0 : Ze) : Option Bool := Zmq.run (Zaeo a0)
theorem Z95 (a0 : Ze) {r : Bool} (h : Zz1 a0 = some r) : Fn PR 69 [(wA (Zn a0))] (wB r) := Zmq.fn h
def Z3e (a0 : Int) : LT Empty (List UInt8) :=
.cs (decide (a0 < 0)) (.k3 0<|.kn [0]<|.rt ([] : List UInt8))<|.k3 0<|.br (decide (a0 ≥ 3)) (.rt ([] : List UInt8))<|.idV Zg.str (A3.list (⟨[112, 108, 117, 115], [109, 105, 110, 117, 115], [99, 104, 97, 114, 103, 101]⟩ : A3 (List UInt8))) a0 [] fun x3=>.ldC Zg.str 11 x3 0<|.rt x3
def Z3f : LF Empty (List UInt8) := .z 70 [.t 2] false (fun r => []) (fun r => (wS r))
def Zxk (a0 : Int) : Option (List UInt8) := Z3f.run (Z3e a0)
theorem Zalq (a0 : Int) {r : (List UInt8)} (h : Zxk a0 = some r) : Fn PR 70 [(wI a0)] (wS r) := Z3f.fn h
end
end Go.PW
