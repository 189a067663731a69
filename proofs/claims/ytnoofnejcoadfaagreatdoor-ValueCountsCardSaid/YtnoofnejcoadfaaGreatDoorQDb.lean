import Derived.Test.YtnoofnejcoadfaaGreatDoorQDa
set_option linter.all false
set_option maxRecDepth 100000
namespace Go.PW
open Go.RowKit
noncomputable section
def Zaep (a0 : Zw) : LT Empty Bool :=
.lb 1001<|.cs (decide (a0.Kind < 0)) (.k4 0<|.b5 true<|.kn [0]<|.rt false)<|.k4 0<|.cs (decide (a0.Kind > 7)) (.k5 1<|.kn [0]<|.rt false)<|.k2 1<|.call (Zaow a0) fun x3=>.k3 1<|.br (!(Zau (Zaf x3) (Zaf (⟨0, 0, 0, (⟨0, 0, 0, 0, 0, 0, 0, ([] : List UInt8), 0, 0, (⟨0, 0⟩ : Zd), (⟨0, 0⟩ : Zd), (⟨0, 0⟩ : Zd)⟩ : Ze)⟩ : Zw)))) (.rt false)<|.br (a0.Kind == 0) (.cs (decide (a0.N ≥ 0)) (.k4 4<|.rt (decide (a0.N ≤ 1000000)))<|.k4 4<|.rt false)<|.br (a0.Kind == 2) (.cs (decide (a0.N ≥ 1)) (.k4 5<|.cs (decide (a0.N ≤ 99)) (.k3 6<|.call (Z95 a0.Filter) fun x11=>.kg 6<|.rt x11)<|.k4 6<|.rt false)<|.k4 5<|.b4 false<|.rt false)<|.br (a0.Kind == 4) (.call (Zalq a0.Counter) fun x14=>.rt (!(x14 == ([] : List UInt8))))<|.rt true
def Zaeq : LF Empty Bool := .z 29 [.t 2] false (fun r => []) (fun r => (wB r))
def Z96 (a0 : Zw) : Option Bool := Zaeq.run (Zaep a0)
theorem Zawr (a0 : Zw) {r : Bool} (h : Z96 a0 = some r) : Fn PR 29 [(wA (Zaf a0))] (wB r) := Zaeq.fn h
def Zxl (a0 : Int) (a1 : Int) (a2 : Int) : LT Empty Bool :=
.cs (a1 == 0) (.k5 0<|.b5 true<|.rt ((Zbc .and .i64 a0 a2) == 0))<|.k5 0<|.cs ((Zbc .and .i64 a0 a1) != 0) (.k5 1<|.rt ((Zbc .and .i64 a0 a2) == 0))<|.k5 1<|.rt false
def Zxm : LF Empty Bool := .z 124 [.t 6] false (fun r => []) (fun r => (wB r))
def Zq8 (a0 : Int) (a1 : Int) (a2 : Int) : Option Bool := Zxm.run (Zxl a0 a1 a2)
theorem Zvh (a0 : Int) (a1 : Int) (a2 : Int) {r : Bool} (h : Zq8 a0 a1 a2 = some r) : Fn PR 124 [(wI a0), (wI a1), (wI a2)] (wB r) := Zxm.fn h
def Zaer (a0 : Zd) (a1 : Int) : LT Empty Bool :=
.lb 1002<|.br (a0.Kind == 0) (.rt true)<|.br (a0.Kind == 1) (.rt (decide (a1 ≥ a0.N)))<|.br (a0.Kind == 2) (.rt (decide (a1 ≤ a0.N)))<|.br (a0.Kind == 3) (.rt (a1 == a0.N))<|.rt false
def Zaes : LF Empty Bool := .z 126 [.t 4] false (fun r => []) (fun r => (wB r))
def Z97 (a0 : Zd) (a1 : Int) : Option Bool := Zaes.run (Zaer a0 a1)
theorem Z98 (a0 : Zd) (a1 : Int) {r : Bool} (h : Z97 a0 a1 = some r) : Fn PR 126 [(wA (Zcq a0)), (wI a1)] (wB r) := Zaes.fn h
inductive Zcc where
 | L0 (v0 : (List (List UInt8))) (v1 : (List UInt8)) (v7 : Int) (v8 : Int)
def Zb2 (v0 : (List (List UInt8))) (v1 : (List UInt8)) (v7 : Int) (v8 : Int) : LT Zcc Int :=
.br (decide (v8 < v7)) (.idx cS v0 v8 fun x2=>.br (v1 == x2) (.rt v8)<|.g0 (.L0 v0 v1 v7 (IntKind.wrap .i64 (v8 + 1))))<|.rt (-1)
def Zhj (a0 : (List (List UInt8))) (a1 : (List UInt8)) : LT Zcc Int :=
.len cS a0<|.g0 (.L0 a0 a1 (a0.length : Int) 0)
def Zda : LF Zcc Int := ⟨189, [.t 4], false, fun | .L0 .. => [1,0,1,4],
 fun | .L0 v0 v1 v7 v8 => ⟨19, [(0, (wL cS v0)), (1, (wS v1)), (7, (wI v7)), (8, (wI v8))], []⟩,
 fun r => [], fun r => (wI r), fun | .L0 v0 v1 v7 v8 => Zb2 v0 v1 v7 v8⟩
def Zh4 (a0 : (List (List UInt8))) (a1 : (List UInt8)) : Option Int := Zda.run (Zhj a0 a1)
theorem Znw (a0 : (List (List UInt8))) (a1 : (List UInt8)) {r : Int} (h : Zh4 a0 a1 = some r) : Fn PR 189 [(wL cS a0), (wS a1)] (wI r) := Zda.fn h
def Zf9 (a0 : (List (List UInt8))) (a1 : (List UInt8)) : LT Empty Bool :=
.call (Znw a0 a1) fun x1=>.rt (decide (x1 ≥ 0))
def Zga : LF Empty Bool := .z 162 [.t 4] false (fun r => []) (fun r => (wB r))
def Zg3 (a0 : (List (List UInt8))) (a1 : (List UInt8)) : Option Bool := Zga.run (Zf9 a0 a1)
theorem Zll (a0 : (List (List UInt8))) (a1 : (List UInt8)) {r : Bool} (h : Zg3 a0 a1 = some r) : Fn PR 162 [(wL cS a0), (wS a1)] (wB r) := Zga.fn h
def Z60 (a0 : Zu) (a1 : (List UInt8)) : LT Empty Bool :=
.lb 1002<|.call (Zll a0.Subs a1) fun x1=>.rt x1
def Z61 : LF Empty Bool := .z 127 [.t 4] false (fun r => []) (fun r => (wB r))
def Z1m (a0 : Zu) (a1 : (List UInt8)) : Option Bool := Z61.run (Z60 a0 a1)
theorem Zaoy (a0 : Zu) (a1 : (List UInt8)) {r : Bool} (h : Z1m a0 a1 = some r) : Fn PR 127 [(wA (Zeb a0)), (wS a1)] (wB r) := Z61.fn h
def Zarz (a0 : Int) (a1 : Int) : LT Empty Bool :=
.rt ((Zbc .and .i64 a0 a1) == a1)
def Z62 : LF Empty Bool := .z 128 [.t 4] false (fun r => []) (fun r => (wB r))
def Zaet (a0 : Int) (a1 : Int) : Option Bool := Z62.run (Zarz a0 a1)
theorem Z3g (a0 : Int) (a1 : Int) {r : Bool} (h : Zaet a0 a1 = some r) : Fn PR 128 [(wI a0), (wI a1)] (wB r) := Z62.fn h
inductive Ztk where
 | L0 (E0 : Zp) (v6 : (A5 Int)) (v7 : Int)
def Zpp (E0 : Zp) (v6 : (A5 Int)) (v7 : Int) : LT Ztk Bool :=
.br (decide (v7 < 5)) (.idX (Zg.int .i64) (A5.list v6) v7 fun x2=>.cs (decide (x2 < 0)) (.k3 1<|.kn [0]<|.rt false)<|.k3 1<|.br (decide (x2 > 9)) (.rt false)<|.g0 (.L0 E0 v6 (IntKind.wrap .i64 (v7 + 1))))<|.cs (decide (E0.Generic ≥ 0)) (.k4 1<|.cs (decide (E0.Generic ≤ 99)) (.k4 2<|.cs (decide (E0.X ≥ 0)) (.k4 3<|.rt (decide (E0.X ≤ 2)))<|.k4 3<|.rt false)<|.k4 2<|.b4 false<|.rt false)<|.k4 1<|.b8 false<|.rt false
def Zaqy (a0 : Zp) : LT Ztk Bool :=
.lb 1001<|.go (.L0 a0 a0.Color 0) [.relab 1001 30000000]
def Ztl : LF Ztk Bool := ⟨163, [.t 2], false, fun | .L0 .. => [1,0,1,4],
 fun | .L0 E0 v6 v7 => ⟨35, [(1, (.bptr 30000000 0)), (6, (wA ((cA5 (cI .i64)) v6))), (7, (wI v7))], [(30000000, .box (bx (Zas E0)))]⟩,
 fun r => [], fun r => (wB r), fun | .L0 E0 v6 v7 => Zpp E0 v6 v7⟩
def Zaoz (a0 : Zp) : Option Bool := Ztl.run (Zaqy a0)
theorem Za1p (a0 : Zp) {r : Bool} (h : Zaoz a0 = some r) : Fn PR 163 [(wA (Zas a0))] (wB r) := Ztl.fn h
def Z1n (a0 : Int) : LT Empty Int :=
.rt (Zge (Zdy a0 (-1000000)) 1000000)
def Zaeu : LF Empty Int := .z 30 [.t 2] false (fun r => []) (fun r => (wI r))
def Ztm (a0 : Int) : Option Int := Zaeu.run (Z1n a0)
theorem Zg4 (a0 : Int) {r : Int} (h : Ztm a0 = some r) : Fn PR 30 [(wI a0)] (wI r) := Zaeu.fn h
def Z99 (a0 : Int) (a1 : Int) : LT Empty Int :=
.call (Zg4 a0) fun x1=>.call (Zg4 a1) fun x3=>.call (Zg4 (IntKind.wrap .i64 (x1 * x3))) fun x7=>.rt x7
def Zaqz : LF Empty Int := .z 71 [.t 4] false (fun r => []) (fun r => (wI r))
def Z3h (a0 : Int) (a1 : Int) : Option Int := Zaqz.run (Z99 a0 a1)
theorem Zalr (a0 : Int) (a1 : Int) {r : Int} (h : Z3h a0 a1 = some r) : Fn PR 71 [(wI a0), (wI a1)] (wI r) := Zaqz.fn h
def Zaq0 (a0 : Int) (a1 : Int) : LT Empty Int :=
.call (Zg4 a0) fun x1=>.call (Zg4 a1) fun x3=>.call (Zg4 (IntKind.wrap .i64 (x1 + x3))) fun x7=>.rt x7
def Zaq1 : LF Empty Int := .z 164 [.t 4] false (fun r => []) (fun r => (wI r))
def Zao0 (a0 : Int) (a1 : Int) : Option Int := Zaq1.run (Zaq0 a0 a1)
theorem Za1q (a0 : Int) (a1 : Int) {r : Int} (h : Zao0 a0 a1 = some r) : Fn PR 164 [(wI a0), (wI a1)] (wI r) := Zaq1.fn h
inductive Zxn where
 | L0 (v1 : Int) (E0 : Zp) (v5 : Int) (v14 : (A5 Int)) (v15 : Int)
def Zji (v1 : Int) (E0 : Zp) (v5 : Int) (v14 : (A5 Int)) (v15 : Int) : LT Zxn Int :=
.br (decide (v15 < 5)) (.idX (Zg.int .i64) (A5.list v14) v15 fun x2=>.g0 (.L0 v1 E0 (IntKind.wrap .i64 (v5 + x2)) v14 (IntKind.wrap .i64 (v15 + 1))))<|.call (Zalr E0.X (Zdy 0 v1)) fun x8=>.call (Za1q v5 x8) fun x10=>.rt x10
def Zaaa (a0 : Zp) (a1 : Int) : LT Zxn Int :=
.lb 1002<|.call (Za1p a0) fun x1=>.br (!x1) (.rt 0)<|.go (.L0 a1 a0 a0.Generic a0.Color 0) [.relab 1002 30000000]
def Zpq : LF Zxn Int := ⟨129, [.t 4], false, fun | .L0 .. => [1,1,1,0,1,4],
 fun | .L0 v1 E0 v5 v14 v15 => ⟨29, [(1, (wI v1)), (2, (.bptr 30000000 0)), (5, (wI v5)), (14, (wA ((cA5 (cI .i64)) v14))), (15, (wI v15))], [(30000000, .box (bx (Zas E0)))]⟩,
 fun r => [], fun r => (wI r), fun | .L0 v1 E0 v5 v14 v15 => Zji v1 E0 v5 v14 v15⟩
def Z5c (a0 : Zp) (a1 : Int) : Option Int := Zpq.run (Zaaa a0 a1)
theorem Zar0 (a0 : Zp) (a1 : Int) {r : Int} (h : Z5c a0 a1 = some r) : Fn PR 129 [(wA (Zas a0)), (wI a1)] (wI r) := Zpq.fn h
def Zoh (a0 : Zd) (a1 : Int) (b0 : Bool) : LT Empty Bool :=
.lb 1003<|.cs (a0.Kind == 0) (.k4 0<|.rt true)<|.k2 0<|.cs b0 (.k3 1<|.call (Z98 a0 a1) fun x3=>.kg 0<|.kg 1<|.kg 0<|.rt x3)<|.k3 1<|.kg 0<|.kg 1<|.kg 0<|.rt false
def Zoi (b0 : Bool) : LF Empty Bool := .z 125 [.t 5] true (fun r => [(0, .box (bx (cB b0)))]) (fun r => (wB r))
def Zj5 (a0 : Zd) (a1 : Int) (b0 : Bool) : Option Bool := (Zoi b0).run (Zoh a0 a1 b0)
theorem Zlr (a0 : Zd) (a1 : Int) (b0 : Bool) {r : Bool} (h : Zj5 a0 a1 b0 = some r) : FnG PR 125 [(0, .box (bx (cB b0)))] [(wA (Zcq a0)), (wI a1), (.bptr 0 0)] [(0, .box (bx (cB b0)))] (wB r) := (Zoi b0).fn h
inductive Zfa where
 | L0 (v3 : Int) (E0 : Zf) (E1 : Za) (E2 : Ze) (E3 : Bool) (v30 : Bool)
 | L1 (E0 : Zf) (E1 : Za) (E2 : Ze) (E3 : Bool) (v49 : Bool)
 | L2 (E0 : Zf) (E1 : Za) (E2 : Ze) (E3 : Bool) (v68 : Bool)
 | L3 (E0 : Zf) (E1 : Za) (E2 : Ze) (E3 : Bool) (v88 : Bool)
 | L4 (E0 : Za) (E1 : Ze) (E2 : Bool)
def Zeu (E0 : Za) (E1 : Ze) (E2 : Bool) : LT Zfa Bool :=
.callO (Zlr E1.Power E0.Power E2) [30000002] 1280000 (fun x => []) fun x1=>.cs x1 (.k5 0<|.kg 0<|.callO (Zlr E1.Tough E0.Tough E2) [30000002] 1350000 (fun x => []) fun x4=>.kg 0<|.cs x4 (.k5 1<|.call (Zar0 E0.Cost 0) fun x7=>.kg 1<|.call (Z98 E1.Value x7) fun x9=>.kg 1<|.rt x9)<|.k5 1<|.k2 1<|.rt false)<|.k5 0<|.k2 0<|.b5 false<|.b2 false<|.rt false
def Zfw (E0 : Zf) (E1 : Za) (E2 : Ze) (E3 : Bool) (v88 : Bool) : LT Zfa Bool :=
.br v88 (.rt false)<|.cs (E2.Tap == 1) (.k4 1<|.br (!E0.Tapped) (.kn [3]<|.rt false)<|.cs (E2.Tap == 2) (.k3 3<|.br E0.Tapped (.rt false)<|.jn 0 (.L4 E1 E2 E3) [.pick [6, 9, 13] [30000001, 30000002, 30000003], .relab 30000001 30000000, .relab 30000002 30000001, .relab 30000003 30000002] (Zeu E1 E2 E3))<|.k3 3<|.kn [0]<|.jn 0 (.L4 E1 E2 E3) [.pick [6, 9, 13] [30000001, 30000002, 30000003], .relab 30000001 30000000, .relab 30000002 30000001, .relab 30000003 30000002] (Zeu E1 E2 E3))<|.k4 1<|.kn [0]<|.cs (E2.Tap == 2) (.k3 2<|.br E0.Tapped (.rt false)<|.jn 0 (.L4 E1 E2 E3) [.pick [6, 9, 13] [30000001, 30000002, 30000003], .relab 30000001 30000000, .relab 30000002 30000001, .relab 30000003 30000002] (Zeu E1 E2 E3))<|.k3 2<|.kn [0]<|.jn 0 (.L4 E1 E2 E3) [.pick [6, 9, 13] [30000001, 30000002, 30000003], .relab 30000001 30000000, .relab 30000002 30000001, .relab 30000003 30000002] (Zeu E1 E2 E3)
def Zhv (E0 : Zf) (E1 : Za) (E2 : Ze) (E3 : Bool) (v68 : Bool) : LT Zfa Bool :=
.br v68 (.rt false)<|.cs (!(E2.Sub == ([] : List UInt8))) (.k5 1<|.call (Zaoy E1.Line E2.Sub) fun x3=>.k2 1<|.br (!x3) (.j0 (.L3 E0 E1 E2 E3 (!x3)) (Zfw E0 E1 E2 E3 (!x3)))<|.call (Z3g E1.Keys E2.Keys) fun x6=>.j0 (.L3 E0 E1 E2 E3 (!x6)) (Zfw E0 E1 E2 E3 (!x6)))<|.k5 1<|.k2 1<|.kn [0]<|.call (Z3g E1.Keys E2.Keys) fun x8=>.j0 (.L3 E0 E1 E2 E3 (!x8)) (Zfw E0 E1 E2 E3 (!x8))
def Zd2 (E0 : Zf) (E1 : Za) (E2 : Ze) (E3 : Bool) (v49 : Bool) : LT Zfa Bool :=
.br v49 (.rt false)<|.call (Zvh E1.Line.Types E2.Types E2.NotTypes) fun x2=>.br (!x2) (.j0 (.L2 E0 E1 E2 E3 (!x2)) (Zhv E0 E1 E2 E3 (!x2)))<|.call (Zvh E1.Colors E2.Colors E2.NotColors) fun x5=>.j0 (.L2 E0 E1 E2 E3 (!x5)) (Zhv E0 E1 E2 E3 (!x5))
def Zbr (v3 : Int) (E0 : Zf) (E1 : Za) (E2 : Ze) (E3 : Bool) (v30 : Bool) : LT Zfa Bool :=
.br v30 (.rt false)<|.cs (E2.Self == 1) (.k5 1<|.br (E0.Id != v3) (.j0 (.L1 E0 E1 E2 E3 (E0.Id != v3)) (Zd2 E0 E1 E2 E3 (E0.Id != v3)))<|.cs (E2.Self == 2) (.k5 3<|.j0 (.L1 E0 E1 E2 E3 (E0.Id == v3)) (Zd2 E0 E1 E2 E3 (E0.Id == v3)))<|.k5 3<|.j0 (.L1 E0 E1 E2 E3 false) (Zd2 E0 E1 E2 E3 false))<|.k5 1<|.kn [0]<|.cs (E2.Self == 2) (.k5 2<|.j0 (.L1 E0 E1 E2 E3 (E0.Id == v3)) (Zd2 E0 E1 E2 E3 (E0.Id == v3)))<|.k5 2<|.j0 (.L1 E0 E1 E2 E3 false) (Zd2 E0 E1 E2 E3 false)
def Z3i (a0 : Zf) (a1 : Za) (a2 : Int) (a3 : Int) (a4 : Ze) : LT Zfa Bool :=
.lb 1005<|.lb 1006<|.lb 1009<|.call (Z95 a4) fun x1=>.cs (!x1) (.k5 0<|.kg 0<|.kn [0]<|.rt false)<|.k5 0<|.kg 0<|.br (a0.Zone != a4.Zone) (.rt false)<|.lb 1011<|.cs (a4.Who == 1) (.k5 2<|.br (a1.Control != a2) (.jn 0 (.L0 a3 a0 a1 a4 ((Zbc .and .i64 a1.Line.Types 1) != 0) (a1.Control != a2)) [.relab 1005 30000000, .relab 1006 30000001, .relab 1009 30000002, .relab 1011 30000003] (Zbr a3 a0 a1 a4 ((Zbc .and .i64 a1.Line.Types 1) != 0) (a1.Control != a2)))<|.cs (a4.Who == 2) (.k5 4<|.jn 0 (.L0 a3 a0 a1 a4 ((Zbc .and .i64 a1.Line.Types 1) != 0) (a1.Control == a2)) [.relab 1005 30000000, .relab 1006 30000001, .relab 1009 30000002, .relab 1011 30000003] (Zbr a3 a0 a1 a4 ((Zbc .and .i64 a1.Line.Types 1) != 0) (a1.Control == a2)))<|.k5 4<|.jn 0 (.L0 a3 a0 a1 a4 ((Zbc .and .i64 a1.Line.Types 1) != 0) false) [.relab 1005 30000000, .relab 1006 30000001, .relab 1009 30000002, .relab 1011 30000003] (Zbr a3 a0 a1 a4 ((Zbc .and .i64 a1.Line.Types 1) != 0) false))<|.k5 2<|.kn [0]<|.cs (a4.Who == 2) (.k5 3<|.jn 0 (.L0 a3 a0 a1 a4 ((Zbc .and .i64 a1.Line.Types 1) != 0) (a1.Control == a2)) [.relab 1005 30000000, .relab 1006 30000001, .relab 1009 30000002, .relab 1011 30000003] (Zbr a3 a0 a1 a4 ((Zbc .and .i64 a1.Line.Types 1) != 0) (a1.Control == a2)))<|.k5 3<|.jn 0 (.L0 a3 a0 a1 a4 ((Zbc .and .i64 a1.Line.Types 1) != 0) false) [.relab 1005 30000000, .relab 1006 30000001, .relab 1009 30000002, .relab 1011 30000003] (Zbr a3 a0 a1 a4 ((Zbc .and .i64 a1.Line.Types 1) != 0) false)
def Zfb : LF Zfa Bool := ⟨78, [.t 10], false, fun | .L0 .. => [1,1,1,1,1,0,4,1] | .L1 .. => [1,1,1,1,1,0,4,1,3,1] | .L2 .. => [1,1,1,1,1,0,4,1,3,1,3,1] | .L3 .. => [1,1,1,1,1,0,4,1,3,1,3,1,3,1] | .L4 .. => [1,1,1,1,1,1],
 fun | .L0 v3 E0 E1 E2 E3 v30 => ⟨144, [(3, (wI v3)), (5, (.bptr 30000000 0)), (6, (.bptr 30000001 0)), (9, (.bptr 30000002 0)), (12, (.fn 124 [])), (13, (.fn 125 [(.bptr 30000003 0)])), (30, (wB v30))], [(30000000, .box (bx (Zh E0))), (30000001, .box (bx (Zi E1))), (30000002, .box (bx (Zn E2))), (30000003, .box (bx (cB E3)))]⟩ | .L1 E0 E1 E2 E3 v49 => ⟨144, [(5, (.bptr 30000000 0)), (6, (.bptr 30000001 0)), (9, (.bptr 30000002 0)), (12, (.fn 124 [])), (13, (.fn 125 [(.bptr 30000003 0)])), (49, (wB v49))], [(30000000, .box (bx (Zh E0))), (30000001, .box (bx (Zi E1))), (30000002, .box (bx (Zn E2))), (30000003, .box (bx (cB E3)))]⟩ | .L2 E0 E1 E2 E3 v68 => ⟨144, [(5, (.bptr 30000000 0)), (6, (.bptr 30000001 0)), (9, (.bptr 30000002 0)), (13, (.fn 125 [(.bptr 30000003 0)])), (68, (wB v68))], [(30000000, .box (bx (Zh E0))), (30000001, .box (bx (Zi E1))), (30000002, .box (bx (Zn E2))), (30000003, .box (bx (cB E3)))]⟩ | .L3 E0 E1 E2 E3 v88 => ⟨144, [(5, (.bptr 30000000 0)), (6, (.bptr 30000001 0)), (9, (.bptr 30000002 0)), (13, (.fn 125 [(.bptr 30000003 0)])), (88, (wB v88))], [(30000000, .box (bx (Zh E0))), (30000001, .box (bx (Zi E1))), (30000002, .box (bx (Zn E2))), (30000003, .box (bx (cB E3)))]⟩ | .L4 E0 E1 E2 => ⟨144, [(6, (.bptr 30000000 0)), (9, (.bptr 30000001 0)), (13, (.fn 125 [(.bptr 30000002 0)]))], [(30000000, .box (bx (Zi E0))), (30000001, .box (bx (Zn E1))), (30000002, .box (bx (cB E2)))]⟩,
 fun r => [], fun r => (wB r), fun | .L0 v3 E0 E1 E2 E3 v30 => Zbr v3 E0 E1 E2 E3 v30 | .L1 E0 E1 E2 E3 v49 => Zd2 E0 E1 E2 E3 v49 | .L2 E0 E1 E2 E3 v68 => Zhv E0 E1 E2 E3 v68 | .L3 E0 E1 E2 E3 v88 => Zfw E0 E1 E2 E3 v88 | .L4 E0 E1 E2 => Zeu E0 E1 E2⟩
def Zxo (a0 : Zf) (a1 : Za) (a2 : Int) (a3 : Int) (a4 : Ze) : Option Bool := Zfb.run (Z3i a0 a1 a2 a3 a4)
theorem Zals (a0 : Zf) (a1 : Za) (a2 : Int) (a3 : Int) (a4 : Ze) {r : Bool} (h : Zxo a0 a1 a2 a3 a4 = some r) : Fn PR 78 [(wA (Zh a0)), (wA (Zi a1)), (wI a2), (wI a3), (wA (Zn a4))] (wB r) := Zfb.fn h
inductive Zpr where
 | L0 (v1 : (List Za)) (v2 : Int) (v3 : Int) (E0 : Ze) (v11 : (List Int)) (v16 : (List Zf)) (v17 : Int) (v18 : Int)
 | L1 (v1 : (List Za)) (v2 : Int) (v3 : Int) (E0 : Ze) (v11 : (List Int)) (E1 : Zf) (E2 : Za) (v16 : (List Zf)) (v17 : Int) (v18 : Int)
def Zjj (v1 : (List Za)) (v2 : Int) (v3 : Int) (E0 : Ze) (v11 : (List Int)) (E1 : Zf) (E2 : Za) (v16 : (List Zf)) (v17 : Int) (v18 : Int) : LT Zpr (List Int) :=
.call (Zals E1 E2 v2 v3 E0) fun x1=>.br x1 (.dr [.lit]<|.apR (cI .i64) 8 v11 [E1.Id] fun x5=>.g0 (.L0 v1 v2 v3 E0 x5 v16 v17 (IntKind.wrap .i64 (v18 + 1))))<|.g0 (.L0 v1 v2 v3 E0 v11 v16 v17 (IntKind.wrap .i64 (v18 + 1)))
def Zjk (v1 : (List Za)) (v2 : Int) (v3 : Int) (E0 : Ze) (v11 : (List Int)) (v16 : (List Zf)) (v17 : Int) (v18 : Int) : LT Zpr (List Int) :=
.br (decide (v18 < v17)) (.idx Zh v16 v18 fun x2=>.lb 1013<|.lb 1014<|.len Zi v1<|.br (decide (v18 < (v1.length : Int))) (.idx Zi v1 v18 fun x6=>.jn 0 (.L1 v1 v2 v3 E0 v11 x2 x6 v16 v17 v18) [.relab 1013 30000001, .relab 1014 30000002] (Zjj v1 v2 v3 E0 v11 x2 x6 v16 v17 v18))<|.jn 0 (.L1 v1 v2 v3 E0 v11 x2 (⟨([] : List UInt8), (⟨0, 0, (⟨0, 0, 0, 0, 0⟩ : (A5 Int))⟩ : Zp), 0, (⟨0, 0, ([] : (List (List UInt8)))⟩ : Zu), 0, 0, 0, ([] : (List Zk)), 0⟩ : Za) v16 v17 v18) [.relab 1013 30000001, .relab 1014 30000002, .niltb 30000002 11, .niltb 30000002 15] (Zjj v1 v2 v3 E0 v11 x2 (⟨([] : List UInt8), (⟨0, 0, (⟨0, 0, 0, 0, 0⟩ : (A5 Int))⟩ : Zp), 0, (⟨0, 0, ([] : (List (List UInt8)))⟩ : Zu), 0, 0, 0, ([] : (List Zk)), 0⟩ : Za) v16 v17 v18))<|.ret v11 [.relab 20000011 5000]
def Zaab (a0 : Zb) (a1 : (List Za)) (a2 : Int) (a3 : Int) (a4 : Ze) : LT Zpr (List Int) :=
.lb 1005<|.lb 1009<|.len Zh a0.Objects<|.go (.L0 a1 a2 a3 a4 ([] : (List Int)) a0.Objects (a0.Objects.length : Int) 0) [.relab 1009 30000000, .own 11 20000011 1]
def Zxp : LF Zpr (List Int) := ⟨42, [.t 10], true, fun | .L0 .. => [1,1,0,1,4] | .L1 .. => [1,1,0,1,4,5,1,1,0,4,1,1,1],
 fun | .L0 v1 v2 v3 E0 v11 v16 v17 v18 => ⟨44, [(1, (wL Zi v1)), (2, (wI v2)), (3, (wI v3)), (9, (.bptr 30000000 0)), (11, (wO (cI .i64) 20000011 v11)), (16, (wL Zh v16)), (17, (wI v17)), (18, (wI v18))], [(30000000, .box (bx (Zn E0))), (20000011, wR (cI .i64) 1 v11)]⟩ | .L1 v1 v2 v3 E0 v11 E1 E2 v16 v17 v18 => ⟨44, [(1, (wL Zi v1)), (2, (wI v2)), (3, (wI v3)), (9, (.bptr 30000000 0)), (11, (wO (cI .i64) 20000011 v11)), (13, (.bptr 30000001 0)), (14, (.bptr 30000002 0)), (16, (wL Zh v16)), (17, (wI v17)), (18, (wI v18))], [(30000000, .box (bx (Zn E0))), (20000011, wR (cI .i64) 1 v11), (30000001, .box (bx (Zh E1))), (30000002, .box (bx (Zi E2)))]⟩,
 fun r => [(5000, wR (cI .i64) 1 r)], fun r => (wO (cI .i64) 5000 r), fun | .L0 v1 v2 v3 E0 v11 v16 v17 v18 => Zjk v1 v2 v3 E0 v11 v16 v17 v18 | .L1 v1 v2 v3 E0 v11 E1 E2 v16 v17 v18 => Zjj v1 v2 v3 E0 v11 E1 E2 v16 v17 v18⟩
def Zps (a0 : Zb) (a1 : (List Za)) (a2 : Int) (a3 : Int) (a4 : Ze) : Option (List Int) := Zxp.run (Zaab a0 a1 a2 a3 a4)
theorem Z3j (a0 : Zb) (a1 : (List Za)) (a2 : Int) (a3 : Int) (a4 : Ze) {r : (List Int)} (h : Zps a0 a1 a2 a3 a4 = some r) : FnG PR 42 [] [(wA (Zo a0)), (wL Zi a1), (wI a2), (wI a3), (wA (Zn a4))] [(5000, wR (cI .i64) 1 r)] (wO (cI .i64) 5000 r) := Zxp.fn h
theorem Zar1 (a0 : Zb) (a1 : (List Za)) (a2 : Int) (a3 : Int) (a4 : Ze) {r : (List Int)} (h : Zps a0 a1 a2 a3 a4 = some r) : Fn PR 42 [(wA (Zo a0)), (wL Zi a1), (wI a2), (wI a3), (wA (Zn a4))] (wL (cI .i64) r) :=
 FnG.frozen (C := LT.RL (cI .i64) r ∧ True) (Z3j a0 a1 a2 a3 a4 h) ⟨rfl, trivial⟩ (by kernel_rfl)
def Zoj (a0 : Zf) (b0 : Int) : LT Empty Bool :=
.lb 1002<|.rt (a0.Id == b0)
def Zok (b0 : Int) : LF Empty Bool := .z 114 [.t 3] true (fun r => [(0, .box (bx ((cI .i64) b0)))]) (fun r => (wB r))
def Zj6 (a0 : Zf) (b0 : Int) : Option Bool := (Zok b0).run (Zoj a0 b0)
theorem Zy5 (a0 : Zf) (b0 : Int) {r : Bool} (h : Zj6 a0 b0 = some r) : FnG PR 114 [(0, .box (bx ((cI .i64) b0)))] [(wA (Zh a0)), (.bptr 0 0)] [(0, .box (bx ((cI .i64) b0)))] (wB r) := (Zok b0).fn h
inductive Zaw where
 | L0 (v0 : (List Zf)) (b0 : Int) (v7 : Int) (v8 : Int)
def Zbf (v0 : (List Zf)) (b0 : Int) (v7 : Int) (v8 : Int) : LT Zaw (Int × Int) :=
.br (decide (v8 < v7)) (.idx Zh v0 v8 fun x2=>.callO (Zy5 x2 b0) [0] 170000 (fun x => []) fun x4=>.br x4 (.rt (v8, b0))<|.g0 (.L0 v0 b0 v7 (IntKind.wrap .i64 (v8 + 1))))<|.rt ((-1), b0)
def Zcm (a0 : (List Zf)) (b0 : Int) : LT Zaw (Int × Int) :=
.len Zh a0<|.g0 (.L0 a0 b0 (a0.length : Int) 0)
def Zcn : LF Zaw (Int × Int) := ⟨113, [.t 4], true, fun | .L0 .. => [1,0,1,4],
 fun | .L0 v0 b0 v7 v8 => ⟨19, [(0, (wL Zh v0)), (1, (.fn 114 [(.bptr 0 0)])), (7, (wI v7)), (8, (wI v8))], [(0, .box (bx ((cI .i64) b0)))]⟩,
 fun r => [(0, .box (bx ((cI .i64) r.2)))], fun r => (wI r.1), fun | .L0 v0 b0 v7 v8 => Zbf v0 b0 v7 v8⟩
def Zbk (a0 : (List Zf)) (b0 : Int) : Option (Int × Int) := Zcn.run (Zcm a0 b0)
theorem Zen (a0 : (List Zf)) (b0 : Int) {r : (Int × Int)} (h : Zbk a0 b0 = some r) : FnG PR 113 [(0, .box (bx ((cI .i64) b0)))] [(wL Zh a0), (.fn 114 [(.bptr 0 0)])] [(0, .box (bx ((cI .i64) r.2)))] (wI r.1) := Zcn.fn h
def Z3k (a0 : Zb) (a1 : (List Za)) (a2 : Int) : LT Empty (Za × Bool) :=
.lb 1003<|.lb 1005<|.lb 1006<|.callU (Zen a0.Objects a2) [1005] 130000 fun x1=>.br (decide (x1.1 < 0)) (.rt ((⟨([] : List UInt8), (⟨0, 0, (⟨0, 0, 0, 0, 0⟩ : (A5 Int))⟩ : Zp), 0, (⟨0, 0, ([] : (List (List UInt8)))⟩ : Zu), 0, 0, 0, ([] : (List Zk)), 0⟩ : Za), false))<|.len Zi a1<|.br (decide (x1.1 ≥ (a1.length : Int))) (.rt ((⟨([] : List UInt8), (⟨0, 0, (⟨0, 0, 0, 0, 0⟩ : (A5 Int))⟩ : Zp), 0, (⟨0, 0, ([] : (List (List UInt8)))⟩ : Zu), 0, 0, 0, ([] : (List Zk)), 0⟩ : Za), true))<|.idx Zi a1 x1.1 fun x6=>.rt (x6, true)
def Z3l : LF Empty (Za × Bool) := .z 72 [.c 6 81 true 17, .t 7] false (fun r => []) (fun r => (.tup [(wA (Zi r.1)), (wB r.2)]))
def Zxq (a0 : Zb) (a1 : (List Za)) (a2 : Int) : Option (Za × Bool) := Z3l.run (Z3k a0 a1 a2)
theorem Zz2 (a0 : Zb) (a1 : (List Za)) (a2 : Int) {r : (Za × Bool)} (h : Zxq a0 a1 a2 = some r) : Fn PR 72 [(wA (Zo a0)), (wL Zi a1), (wI a2)] (.tup [(wA (Zi r.1)), (wB r.2)]) := Z3l.fn h
def Zqq (a0 : Zf) (b0 : Int) : LT Empty Bool :=
.lb 1002<|.rt (a0.Id == b0)
def Zqr (b0 : Int) : LF Empty Bool := .z 130 [.t 3] true (fun r => [(0, .box (bx ((cI .i64) b0)))]) (fun r => (wB r))
def Zlx (a0 : Zf) (b0 : Int) : Option Bool := (Zqr b0).run (Zqq a0 b0)
theorem Z3m (a0 : Zf) (b0 : Int) {r : Bool} (h : Zlx a0 b0 = some r) : FnG PR 130 [(0, .box (bx ((cI .i64) b0)))] [(wA (Zh a0)), (.bptr 0 0)] [(0, .box (bx ((cI .i64) b0)))] (wB r) := (Zqr b0).fn h
inductive Zay where
 | L0 (v0 : (List Zf)) (b0 : Int) (v7 : Int) (v8 : Int)
def Zbi (v0 : (List Zf)) (b0 : Int) (v7 : Int) (v8 : Int) : LT Zay (Int × Int) :=
.br (decide (v8 < v7)) (.idx Zh v0 v8 fun x2=>.callO (Z3m x2 b0) [0] 170000 (fun x => []) fun x4=>.br x4 (.rt (v8, b0))<|.g0 (.L0 v0 b0 v7 (IntKind.wrap .i64 (v8 + 1))))<|.rt ((-1), b0)
def Zcv (a0 : (List Zf)) (b0 : Int) : LT Zay (Int × Int) :=
.len Zh a0<|.g0 (.L0 a0 b0 (a0.length : Int) 0)
def Zcw : LF Zay (Int × Int) := ⟨113, [.t 4], true, fun | .L0 .. => [1,0,1,4],
 fun | .L0 v0 b0 v7 v8 => ⟨19, [(0, (wL Zh v0)), (1, (.fn 130 [(.bptr 0 0)])), (7, (wI v7)), (8, (wI v8))], [(0, .box (bx ((cI .i64) b0)))]⟩,
 fun r => [(0, .box (bx ((cI .i64) r.2)))], fun r => (wI r.1), fun | .L0 v0 b0 v7 v8 => Zbi v0 b0 v7 v8⟩
def Zbm (a0 : (List Zf)) (b0 : Int) : Option (Int × Int) := Zcw.run (Zcv a0 b0)
theorem Ze1 (a0 : (List Zf)) (b0 : Int) {r : (Int × Int)} (h : Zbm a0 b0 = some r) : FnG PR 113 [(0, .box (bx ((cI .i64) b0)))] [(wL Zh a0), (.fn 130 [(.bptr 0 0)])] [(0, .box (bx ((cI .i64) r.2)))] (wI r.1) := Zcw.fn h
def Zaac (a0 : Zb) (a1 : Int) : LT Empty Int :=
.lb 1002<|.lb 1003<|.callU (Ze1 a0.Objects a1) [1003] 90000 fun x1=>.rt x1.1
def Zaad : LF Empty Int := .z 79 [.t 4] false (fun r => []) (fun r => (wI r))
def Z5d (a0 : Zb) (a1 : Int) : Option Int := Zaad.run (Zaac a0 a1)
theorem Zar2 (a0 : Zb) (a1 : Int) {r : Int} (h : Z5d a0 a1 = some r) : Fn PR 79 [(wA (Zo a0)), (wI a1)] (wI r) := Zaad.fn h
def Zaev (a0 : Zb) (a1 : Int) : LT Empty (Zf × Bool) :=
.lb 1002<|.lb 1004<|.call (Zar2 a0 a1) fun x1=>.br (decide (x1 < 0)) (.rt ((⟨0, 0, 0, 0, 0, false, false, false, false, 0, (⟨0, 0, 0⟩ : (A3 Int)), 0, 0, 0, false, 0, 0⟩ : Zf), false))<|.idx Zh a0.Objects x1 fun x4=>.rt (x4, true)
def Zaew : LF Empty (Zf × Bool) := .z 45 [.c 4 62 true 19, .t 5] false (fun r => []) (fun r => (.tup [(wA (Zh r.1)), (wB r.2)]))
def Zaae (a0 : Zb) (a1 : Int) : Option (Zf × Bool) := Zaew.run (Zaev a0 a1)
theorem Zaaf (a0 : Zb) (a1 : Int) {r : (Zf × Bool)} (h : Zaae a0 a1 = some r) : Fn PR 45 [(wA (Zo a0)), (wI a1)] (.tup [(wA (Zh r.1)), (wB r.2)]) := Zaew.fn h
def Zaex (a0 : Zb) (a1 : (List Za)) (a2 : Zs) (a3 : Zw) : LT Empty Int :=
.lb 1004<|.lb 1006<|.lb 1007<|.br (a3.Kind == 0) (.rt a3.N)<|.br (a3.Kind == 1) (.rt a2.X)<|.br (a3.Kind == 7) (.rt a2.Event.Amount)<|.br (a3.Kind == 2) (.call (Zar1 a0 a1 a2.You a2.Source a3.Filter) fun x5=>.len (cI .i64) x5<|.call (Zalr a3.N (x5.length : Int)) fun x8=>.rt x8)<|.br (a3.Kind == 3) (.call (Zz2 a0 a1 a2.Source) fun x11=>.lb 1009<|.rt x11.1.Power)<|.br (a3.Kind == 4) (.call (Zaaf a0 a2.Source) fun x14=>.lb 1011<|.idA (Zg.int .i64) (A3.list x14.1.Counters) a3.Counter (bx (Zh x14.1)) 10 13 fun x16=>.ldC (Zg.int .i64) 68 x16 0<|.rt x16)<|.cs (decide (a2.You < 0)) (.k5 6<|.k2 6<|.kn [0]<|.rt 0)<|.k5 6<|.len Z2 a0.Players<|.k2 6<|.br (decide (a2.You ≥ (a0.Players.length : Int))) (.rt 0)<|.br (a3.Kind == 5) (.idx Z2 a0.Players a2.You fun x22=>.rt x22.Life)<|.idx Z2 a0.Players a2.You fun x24=>.len (cI .i64) x24.Hand<|.rt (x24.Hand.length : Int)
def Zaey : LF Empty Int := .z 31 [.t 8] false (fun r => []) (fun r => (wI r))
def Zaag (a0 : Zb) (a1 : (List Za)) (a2 : Zs) (a3 : Zw) : Option Int := Zaey.run (Zaex a0 a1 a2 a3)
theorem Zaws (a0 : Zb) (a1 : (List Za)) (a2 : Zs) (a3 : Zw) {r : Int} (h : Zaag a0 a1 a2 a3 = some r) : Fn PR 31 [(wA (Zo a0)), (wL Zi a1), (wA (Zbd a2)), (wA (Zaf a3))] (wI r) := Zaey.fn h
def Zalt (a0 : Zb) (a1 : (List Za)) (a2 : Zs) (a3 : Zw) : LT Empty Int :=
.lb 1004<|.lb 1006<|.lb 1007<|.call (Zawr a3) fun x1=>.br (!x1) (.rt 0)<|.call (Zaws a0 a1 a2 a3) fun x4=>.call (Zg4 x4) fun x6=>.rt (Zdy x6 0)
def Zalu : LF Empty Int := .z 12 [.t 8] false (fun r => []) (fun r => (wI r))
def Zahf (a0 : Zb) (a1 : (List Za)) (a2 : Zs) (a3 : Zw) : Option Int := Zalu.run (Zalt a0 a1 a2 a3)
theorem Zfj (a0 : Zb) (a1 : (List Za)) (a2 : Zs) (a3 : Zw) {r : Int} (h : Zahf a0 a1 a2 a3 = some r) : Fn PR 12 [(wA (Zo a0)), (wL Zi a1), (wA (Zbd a2)), (wA (Zaf a3))] (wI r) := Zalu.fn h
inductive Zih where
 | L0 (v3 : (List Int)) (v7 : (List Za1)) (v8 : Int) (v9 : Int)
def Zpt (v3 : (List Int)) (v7 : (List Za1)) (v8 : Int) (v9 : Int) : LT Zih (List Int) :=
.br (decide (v9 < v8)) (.idx Z2 v7 v9 fun x2=>.lb 1005<|.br (!x2.Lost) (.dr [.lit]<|.apR (cI .i64) 8 v3 [v9] fun x6=>.g0 (.L0 x6 v7 v8 (IntKind.wrap .i64 (v9 + 1))))<|.g0 (.L0 v3 v7 v8 (IntKind.wrap .i64 (v9 + 1))))<|.ret v3 [.relab 20000003 5000]
def Z3n (a0 : Zb) : LT Zih (List Int) :=
.lb 1001<|.len Z2 a0.Players<|.go (.L0 ([] : (List Int)) a0.Players (a0.Players.length : Int) 0) [.own 3 20000003 1]
def Z3o : LF Zih (List Int) := ⟨122, [.t 2], true, fun | .L0 .. => [1,1,0,1,4],
 fun | .L0 v3 v7 v8 v9 => ⟨23, [(3, (wO (cI .i64) 20000003 v3)), (7, (wL Z2 v7)), (8, (wI v8)), (9, (wI v9))], [(20000003, wR (cI .i64) 1 v3)]⟩,
 fun r => [(5000, wR (cI .i64) 1 r)], fun r => (wO (cI .i64) 5000 r), fun | .L0 v3 v7 v8 v9 => Zpt v3 v7 v8 v9⟩
def Zpu (a0 : Zb) : Option (List Int) := Z3o.run (Z3n a0)
theorem Zahg (a0 : Zb) {r : (List Int)} (h : Zpu a0 = some r) : FnG PR 122 [] [(wA (Zo a0))] [(5000, wR (cI .i64) 1 r)] (wO (cI .i64) 5000 r) := Z3o.fn h
theorem Zalv (a0 : Zb) {r : (List Int)} (h : Zpu a0 = some r) : Fn PR 122 [(wA (Zo a0))] (wL (cI .i64) r) :=
 FnG.frozen (C := LT.RL (cI .i64) r ∧ True) (Zahg a0 h) ⟨rfl, trivial⟩ (by kernel_rfl)
def Zxr (a0 : Int) : LT Empty Bool :=
.rt (a0 != a0)
def Zxs : LF Empty Bool := .z 161 [.t 2] false (fun r => []) (fun r => (wB r))
def Zq9 (a0 : Int) : Option Bool := Zxs.run (Zxr a0)
theorem Zvi (a0 : Int) {r : Bool} (h : Zq9 a0 = some r) : Fn PR 161 [(wI a0)] (wB r) := Zxs.fn h
def Ztn (a0 : Int) (a1 : Int) : LT Empty Int :=
.call (Zvi a0) fun x1=>.call (Zvi a1) fun x3=>.br x1 (.br x3 (.rt 0)<|.rt (-1))<|.br x3 (.rt 1)<|.br (decide (a0 < a1)) (.rt (-1))<|.br (decide (a0 > a1)) (.rt 1)<|.rt 0
def Zto : LF Empty Int := .z 123 [.t 4] false (fun r => []) (fun r => (wI r))
def Znx (a0 : Int) (a1 : Int) : Option Int := Zto.run (Ztn a0 a1)
theorem Z75 (a0 : Int) (a1 : Int) {r : Int} (h : Znx a0 a1 = some r) : Fn PR 123 [(wI a0), (wI a1)] (wI r) := Zto.fn h
inductive Zgr where
 | L0 (v1 : Int) (E0 : Zb)
 | L1 (v1 : Int) (v5 : (List Int)) (v6 : (List Int)) (v19 : (List Int)) (v20 : Int) (v21 : Int)
def Zfx (v1 : Int) (E0 : Zb) : LT Zgr (List Int) :=
.call (Zalv E0) fun x1=>.len (cI .i64) x1<|.go (.L1 v1 ([] : (List Int)) ([] : (List Int)) x1 (x1.length : Int) 0) [.own 5 20000005 1, .own 6 20000006 1]
def Zpv (v1 : Int) (v5 : (List Int)) (v6 : (List Int)) (v19 : (List Int)) (v20 : Int) (v21 : Int) : LT Zgr (List Int) :=
.br (decide (v21 < v20)) (.idx (cI .i64) v19 v21 fun x2=>.call (Z75 x2 v1) fun x4=>.br (x4 == (-1)) (.dr [.lit]<|.apR (cI .i64) 8 v5 [x2] fun x8=>.g0 (.L1 v1 x8 v6 v19 v20 (IntKind.wrap .i64 (v21 + 1))))<|.br (x4 == 1) (.dr [.lit]<|.apR (cI .i64) 8 v6 [x2] fun x15=>.g0 (.L1 v1 v5 x15 v19 v20 (IntKind.wrap .i64 (v21 + 1))))<|.g0 (.L1 v1 v5 v6 v19 v20 (IntKind.wrap .i64 (v21 + 1))))<|.rl (cI .i64) v5<|.apR (cI .i64) 8 v6 v5 fun x22=>.ret x22 [.relab 20000006 5000]
def Z3p (a0 : Zb) (a1 : Int) : LT Zgr (List Int) :=
.lb 1002<|.cs (decide (a1 < 0)) (.k5 0<|.kg 0<|.kn [0]<|.jn 0 (.L0 (-1) a0) [.relab 1002 30000000] (Zfx (-1) a0))<|.k4 0<|.len Z2 a0.Players<|.k2 0<|.br (decide (a1 ≥ (a0.Players.length : Int))) (.jn 0 (.L0 (-1) a0) [.relab 1002 30000000] (Zfx (-1) a0))<|.jn 0 (.L0 a1 a0) [.relab 1002 30000000] (Zfx a1 a0)
def Z3q : LF Zgr (List Int) := ⟨77, [.t 4], true, fun | .L0 .. => [1,1] | .L1 .. => [1,1,1,0,1,4],
 fun | .L0 v1 E0 => ⟨44, [(1, (wI v1)), (2, (.bptr 30000000 0))], [(30000000, .box (bx (Zo E0)))]⟩ | .L1 v1 v5 v6 v19 v20 v21 => ⟨44, [(1, (wI v1)), (5, (wO (cI .i64) 20000005 v5)), (6, (wO (cI .i64) 20000006 v6)), (19, (wL (cI .i64) v19)), (20, (wI v20)), (21, (wI v21))], [(20000005, wR (cI .i64) 1 v5), (20000006, wR (cI .i64) 1 v6)]⟩,
 fun r => [(5000, wR (cI .i64) 1 r)], fun r => (wO (cI .i64) 5000 r), fun | .L0 v1 E0 => Zfx v1 E0 | .L1 v1 v5 v6 v19 v20 v21 => Zpv v1 v5 v6 v19 v20 v21⟩
def Zpw (a0 : Zb) (a1 : Int) : Option (List Int) := Z3q.run (Z3p a0 a1)
theorem Zxt (a0 : Zb) (a1 : Int) {r : (List Int)} (h : Zpw a0 a1 = some r) : FnG PR 77 [] [(wA (Zo a0)), (wI a1)] [(5000, wR (cI .i64) 1 r)] (wO (cI .i64) 5000 r) := Z3q.fn h
theorem Zalw (a0 : Zb) (a1 : Int) {r : (List Int)} (h : Zpw a0 a1 = some r) : Fn PR 77 [(wA (Zo a0)), (wI a1)] (wL (cI .i64) r) :=
 FnG.frozen (C := LT.RL (cI .i64) r ∧ True) (Zxt a0 a1 h) ⟨rfl, trivial⟩ (by kernel_rfl)
def Z3r (a0 : Zs) (a1 : Int) : LT Empty (Zaj × Bool) :=
.lb 1002<|.lb 1004<|.cs (decide (a1 < 1)) (.k5 0<|.kg 0<|.kn [0]<|.rt ((⟨0, 0⟩ : Zaj), false))<|.k4 0<|.len Zbj a0.Targets<|.k2 0<|.br (decide (a1 > (a0.Targets.length : Int))) (.rt ((⟨0, 0⟩ : Zaj), false))<|.idx Zbj a0.Targets (IntKind.wrap .i64 (a1 - 1)) fun x6=>.rt (x6, true)
def Z3s : LF Empty (Zaj × Bool) := .z 43 [.c 4 83 true 2, .t 5] false (fun r => []) (fun r => (.tup [(wA (Zbj r.1)), (wB r.2)]))
def Zxu (a0 : Zs) (a1 : Int) : Option (Zaj × Bool) := Z3s.run (Z3r a0 a1)
theorem Zz3 (a0 : Zs) (a1 : Int) {r : (Zaj × Bool)} (h : Zxu a0 a1 = some r) : Fn PR 43 [(wA (Zbd a0)), (wI a1)] (.tup [(wA (Zbj r.1)), (wB r.2)]) := Z3s.fn h
inductive Zfy where
 | L0 (v1 : (List Za)) (E0 : Zb) (E1 : Zs) (E2 : Zak) (v36 : Bool)
 | L1 (v1 : (List Za)) (E0 : Zb) (E1 : Zak) (E2 : Zaj) (v10 : Bool)
def Zg5 (v1 : (List Za)) (E0 : Zb) (E1 : Zak) (E2 : Zaj) (v10 : Bool) : LT Zfy (List Int) :=
.call (Zz2 E0 v1 E2.Object) fun x1=>.lb 1011<|.cs v10 (.k2 0<|.cs x1.2 (.k4 1<|.br (E1.Kind == 8) (.lb 1074<|.ret [x1.1.Control] [.relab 1074 5000])<|.ret ([] : (List Int)) [.own 8 5000 1])<|.k4 1<|.kn [0]<|.ret ([] : (List Int)) [.own 8 5000 1])<|.k2 0<|.b4 false<|.kn [0]<|.ret ([] : (List Int)) [.own 8 5000 1]
def Zg6 (v1 : (List Za)) (E0 : Zb) (E1 : Zs) (E2 : Zak) (v36 : Bool) : LT Zfy (List Int) :=
.br v36 (.call (Zz3 E1 E2.N) fun x2=>.lb 1009<|.cs x2.2 (.k4 1<|.br (x2.1.Object == 0) (.lb 1054<|.ret [x2.1.Player] [.relab 1054 5000])<|.jn 0 (.L1 v1 E0 E2 x2.1 x2.2) [.pick [1, 4, 7, 9, 10] [1009, 30000000, 30000002], .relab 30000002 30000001, .relab 1009 30000002] (Zg5 v1 E0 E2 x2.1 x2.2))<|.k4 1<|.kn [0]<|.jn 0 (.L1 v1 E0 E2 x2.1 x2.2) [.pick [1, 4, 7, 9, 10] [1009, 30000000, 30000002], .relab 30000002 30000001, .relab 1009 30000002] (Zg5 v1 E0 E2 x2.1 x2.2))<|.ret ([] : (List Int)) [.own 8 5000 1]
def Zz4 (a0 : Zb) (a1 : (List Za)) (a2 : Zs) (a3 : Zak) : LT Zfy (List Int) :=
.lb 1004<|.lb 1006<|.lb 1007<|.br (a3.Kind == 1) (.lb 1019<|.ret [a2.You] [.relab 1019 5000])<|.br (a3.Kind == 5) (.callF (Zxt a0 a2.You) 260000 fun x4=>.ret x4 [.relab 265000 5000])<|.br (a3.Kind == 6) (.lb 1030<|.call (Zalw a0 a2.You) fun x8=>.apR (cI .i64) 8 [a2.You] x8 fun x10=>.ret x10 [.relab 1030 5000])<|.br (a3.Kind == 3) (.jn 0 (.L0 a1 a0 a2 a3 (a3.Kind == 3)) [.relab 1004 30000000, .relab 1006 30000001, .relab 1007 30000002] (Zg6 a1 a0 a2 a3 (a3.Kind == 3)))<|.jn 0 (.L0 a1 a0 a2 a3 (a3.Kind == 8)) [.relab 1004 30000000, .relab 1006 30000001, .relab 1007 30000002] (Zg6 a1 a0 a2 a3 (a3.Kind == 8))
def Zz5 : LF Zfy (List Int) := ⟨37, [.t 8], true, fun | .L0 .. => [1,0,1,4,1,3,1,3,1,3,1] | .L1 .. => [1,0,1,4,1,3,1,3,1,3,1,2,1,1],
 fun | .L0 v1 E0 E1 E2 v36 => ⟨75, [(1, (wL Zi v1)), (4, (.bptr 30000000 0)), (6, (.bptr 30000001 0)), (7, (.bptr 30000002 0)), (36, (wB v36))], [(30000000, .box (bx (Zo E0))), (30000001, .box (bx (Zbd E1))), (30000002, .box (bx (Zbg E2)))]⟩ | .L1 v1 E0 E1 E2 v10 => ⟨75, [(1, (wL Zi v1)), (4, (.bptr 30000000 0)), (7, (.bptr 30000001 0)), (9, (.bptr 30000002 0)), (10, (wB v10))], [(30000000, .box (bx (Zo E0))), (30000001, .box (bx (Zbg E1))), (30000002, .box (bx (Zbj E2)))]⟩,
 fun r => [(5000, wR (cI .i64) 1 r)], fun r => (wO (cI .i64) 5000 r), fun | .L0 v1 E0 E1 E2 v36 => Zg6 v1 E0 E1 E2 v36 | .L1 v1 E0 E1 E2 v10 => Zg5 v1 E0 E1 E2 v10⟩
def Zud (a0 : Zb) (a1 : (List Za)) (a2 : Zs) (a3 : Zak) : Option (List Int) := Zz5.run (Zz4 a0 a1 a2 a3)
theorem Zac2 (a0 : Zb) (a1 : (List Za)) (a2 : Zs) (a3 : Zak) {r : (List Int)} (h : Zud a0 a1 a2 a3 = some r) : FnG PR 37 [] [(wA (Zo a0)), (wL Zi a1), (wA (Zbd a2)), (wA (Zbg a3))] [(5000, wR (cI .i64) 1 r)] (wO (cI .i64) 5000 r) := Zz5.fn h
def Zol (a0 : Int) (a1 : Zb) : LT Empty Bool :=
.cs (decide (a0 < 0)) (.k5 0<|.kg 0<|.b5 true<|.b2 true<|.rt true)<|.k4 0<|.len Z2 a1.Players<|.k2 0<|.cs (decide (a0 ≥ (a1.Players.length : Int))) (.k5 1<|.k2 1<|.rt true)<|.k4 1<|.idx Z2 a1.Players a0 fun x4=>.k3 1<|.rt x4.Lost
def Zom : LF Empty Bool := .z 38 [.t 3] false (fun r => []) (fun r => (wB r))
def Zj7 (a0 : Int) (a1 : Zb) : Option Bool := Zom.run (Zol a0 a1)
theorem Zmr (a0 : Int) (a1 : Zb) {r : Bool} (h : Zj7 a0 a1 = some r) : Fn PR 38 [(wI a0), (.vptr (Zo a1))] (wB r) := Zom.fn h
inductive Zba where
 | L0 (v0 : (List Int)) (w1_0 : Zb) (v7 : Int) (v8 : Int)
def Zb3 (v0 : (List Int)) (w1_0 : Zb) (v7 : Int) (v8 : Int) : LT Zba Int :=
.br (decide (v8 < v7)) (.idx (cI .i64) v0 v8 fun x2=>.call (Zmr x2 w1_0) fun x4=>.br x4 (.rt v8)<|.g0 (.L0 v0 w1_0 v7 (IntKind.wrap .i64 (v8 + 1))))<|.rt (-1)
def Zdo (a0 : (List Int)) (a1 : Zb) : LT Zba Int :=
.len (cI .i64) a0<|.g0 (.L0 a0 a1 (a0.length : Int) 0)
def Zdp : LF Zba Int := ⟨76, [.t 4], false, fun | .L0 .. => [1,0,1,4],
 fun | .L0 v0 w1_0 v7 v8 => ⟨19, [(0, (wL (cI .i64) v0)), (1, (.fn 38 [(.vptr (Zo w1_0))])), (7, (wI v7)), (8, (wI v8))], []⟩,
 fun r => [], fun r => (wI r), fun | .L0 v0 w1_0 v7 v8 => Zb3 v0 w1_0 v7 v8⟩
def Zci (a0 : (List Int)) (a1 : Zb) : Option Int := Zdp.run (Zdo a0 a1)
theorem Zg7 (a0 : (List Int)) (a1 : Zb) {r : Int} (h : Zci a0 a1 = some r) : Fn PR 76 [(wL (cI .i64) a0), (.fn 38 [(.vptr (Zo a1))])] (wI r) := Zdp.fn h
inductive Za3 where
 | L0 (v0 : (List Int)) (w1_0 : Zb) (v5 : Int) (v6 : Int)
def Zbn (v0 : (List Int)) (w1_0 : Zb) (v5 : Int) (v6 : Int) : LT Za3 (List Int) :=
.lenO (cI .i64) v0<|.br (decide (v6 < (v0.length : Int))) (.idxR (cI .i64) v0 v6 fun x3=>.ldR (cI .i64) v0 x3 2<|.call (Zmr x3 w1_0) fun x5=>.br (!x5) (.idxR (cI .i64) v0 v5 fun x8=>.setR (cI .i64) v0 v5 x8 x3 5 0 [(.int .i64 x3)] rfl fun x10=>.dr [.ahead 34, .relen 20000000, .stop]<|.us [6]<|.us [6]<|.us [6]<|.us [6]<|.us [6]<|.us [6]<|.g0 (.L0 x10 w1_0 (IntKind.wrap .i64 (v5 + 1)) (IntKind.wrap .i64 (v6 + 1))))<|.g0 (.L0 v0 w1_0 v5 (IntKind.wrap .i64 (v6 + 1))))<|.tlR (cI .i64) v0 v5 0 fun x18=>.clR (cI .i64) v0 x18 0<|.dr [.ahead 39, .relen 20000000, .stop]<|.us [2]<|.us [2]<|.us [2]<|.trR (cI .i64) x18 v5 fun x20=>.ret x20 [.relab 20000000 5000]
def Zc2 (b0 : (List Int)) (a1 : Zb) : LT Za3 (List Int) :=
.rl (cI .i64) b0<|.call (Zg7 b0 a1) fun x1=>.br (x1 == (-1)) (.ret b0 [.relab 0 5000])<|.go (.L0 b0 a1 x1 (IntKind.wrap .i64 (x1 + 1))) [.relab 0 20000000]
def Zc3 : LF Za3 (List Int) := ⟨36, [.t 4], true, fun | .L0 .. => [1,1,1,0,1,4],
 fun | .L0 v0 w1_0 v5 v6 => ⟨42, [(0, (wO (cI .i64) 20000000 v0)), (1, (.fn 38 [(.vptr (Zo w1_0))])), (5, (wI v5)), (6, (wI v6))], [(20000000, wR (cI .i64) 1 v0)]⟩,
 fun r => [(5000, wR (cI .i64) 1 r)], fun r => (wO (cI .i64) 5000 r), fun | .L0 v0 w1_0 v5 v6 => Zbn v0 w1_0 v5 v6⟩
def Zbu (b0 : (List Int)) (a1 : Zb) : Option (List Int) := Zc3.run (Zc2 b0 a1)
theorem Zfk (b0 : (List Int)) (a1 : Zb) {r : (List Int)} (h : Zbu b0 a1 = some r) : FnG PR 36 [(0, wR (cI .i64) 1 b0)] [(wO (cI .i64) 0 b0), (.fn 38 [(.vptr (Zo a1))])] [(5000, wR (cI .i64) 1 r)] (wO (cI .i64) 5000 r) := Zc3.fn h
def Zz6 (a0 : Zb) (a1 : (List Za)) (a2 : Zs) (a3 : Zak) : LT Empty (List Int) :=
.lb 1004<|.lb 1006<|.lb 1007<|.callF (Zac2 a0 a1 a2 a3) 140000 fun x1=>.callW (Zfk x1 a0) [145000] 160000 (fun _ => ⟨rfl, Ze9 (cI .i64) (fun _ => rfl) _, trivial⟩) fun x3=>.ret x3 [.relab 165000 5000]
def Zz7 : LF Empty (List Int) := .z 15 [.t 8] true (fun r => [(5000, wR (cI .i64) 1 r)]) (fun r => (wO (cI .i64) 5000 r))
def Zm7 (a0 : Zb) (a1 : (List Za)) (a2 : Zs) (a3 : Zak) : Option (List Int) := Zz7.run (Zz6 a0 a1 a2 a3)
theorem Zly (a0 : Zb) (a1 : (List Za)) (a2 : Zs) (a3 : Zak) {r : (List Int)} (h : Zm7 a0 a1 a2 a3 = some r) : FnG PR 15 [] [(wA (Zo a0)), (wL Zi a1), (wA (Zbd a2)), (wA (Zbg a3))] [(5000, wR (cI .i64) 1 r)] (wO (cI .i64) 5000 r) := Zz7.fn h
theorem Zahh (a0 : Zb) (a1 : (List Za)) (a2 : Zs) (a3 : Zak) {r : (List Int)} (h : Zm7 a0 a1 a2 a3 = some r) : Fn PR 15 [(wA (Zo a0)), (wL Zi a1), (wA (Zbd a2)), (wA (Zbg a3))] (wL (cI .i64) r) :=
 FnG.frozen (C := LT.RL (cI .i64) r ∧ True) (Zly a0 a1 a2 a3 h) ⟨rfl, trivial⟩ (by kernel_rfl)
inductive Zpx where
 | L0 (v0 : (List Int)) (v1 : (List Int)) (v5 : Int)
def Z1o (v0 : (List Int)) (v1 : (List Int)) (v5 : Int) : LT Zpx Bool :=
.len (cI .i64) v0<|.br (decide (v5 < (v0.length : Int))) (.idx (cI .i64) v0 v5 fun x3=>.idx (cI .i64) v1 v5 fun x5=>.br (x3 != x5) (.rt false)<|.g0 (.L0 v0 v1 (IntKind.wrap .i64 (v5 + 1))))<|.rt true
def Zalx (a0 : (List Int)) (a1 : (List Int)) : LT Zpx Bool :=
.len (cI .i64) a0<|.len (cI .i64) a1<|.br ((a0.length : Int) != (a1.length : Int)) (.rt false)<|.g0 (.L0 a0 a1 0)
def Zaly : LF Zpx Bool := ⟨14, [.t 4], false, fun | .L0 .. => [1,1,0,1,4],
 fun | .L0 v0 v1 v5 => ⟨26, [(0, (wL (cI .i64) v0)), (1, (wL (cI .i64) v1)), (5, (wI v5))], []⟩,
 fun r => [], fun r => (wB r), fun | .L0 v0 v1 v5 => Z1o v0 v1 v5⟩
def Zahi (a0 : (List Int)) (a1 : (List Int)) : Option Bool := Zaly.run (Zalx a0 a1)
theorem Zhz (a0 : (List Int)) (a1 : (List Int)) {r : Bool} (h : Zahi a0 a1 = some r) : Fn PR 14 [(wL (cI .i64) a0), (wL (cI .i64) a1)] (wB r) := Zaly.fn h
def Zon (a0 : Int) (a1 : Zb) : LT Empty Bool :=
.call (Zaaf a1 a0) fun x1=>.lb 1004<|.rt (!x1.2)
def Zoo : LF Empty Bool := .z 44 [.t 3] false (fun r => []) (fun r => (wB r))
def Zj8 (a0 : Int) (a1 : Zb) : Option Bool := Zoo.run (Zon a0 a1)
theorem Zms (a0 : Int) (a1 : Zb) {r : Bool} (h : Zj8 a0 a1 = some r) : Fn PR 44 [(wI a0), (.vptr (Zo a1))] (wB r) := Zoo.fn h
inductive Zbb where
 | L0 (v0 : (List Int)) (w1_0 : Zb) (v7 : Int) (v8 : Int)
def Zb4 (v0 : (List Int)) (w1_0 : Zb) (v7 : Int) (v8 : Int) : LT Zbb Int :=
.br (decide (v8 < v7)) (.idx (cI .i64) v0 v8 fun x2=>.call (Zms x2 w1_0) fun x4=>.br x4 (.rt v8)<|.g0 (.L0 v0 w1_0 v7 (IntKind.wrap .i64 (v8 + 1))))<|.rt (-1)
def Zdq (a0 : (List Int)) (a1 : Zb) : LT Zbb Int :=
.len (cI .i64) a0<|.g0 (.L0 a0 a1 (a0.length : Int) 0)
def Zdr : LF Zbb Int := ⟨76, [.t 4], false, fun | .L0 .. => [1,0,1,4],
 fun | .L0 v0 w1_0 v7 v8 => ⟨19, [(0, (wL (cI .i64) v0)), (1, (.fn 44 [(.vptr (Zo w1_0))])), (7, (wI v7)), (8, (wI v8))], []⟩,
 fun r => [], fun r => (wI r), fun | .L0 v0 w1_0 v7 v8 => Zb4 v0 w1_0 v7 v8⟩
def Zcj (a0 : (List Int)) (a1 : Zb) : Option Int := Zdr.run (Zdq a0 a1)
theorem Zg8 (a0 : (List Int)) (a1 : Zb) {r : Int} (h : Zcj a0 a1 = some r) : Fn PR 76 [(wL (cI .i64) a0), (.fn 44 [(.vptr (Zo a1))])] (wI r) := Zdr.fn h
inductive Za4 where
 | L0 (v0 : (List Int)) (w1_0 : Zb) (v5 : Int) (v6 : Int)
def Zbo (v0 : (List Int)) (w1_0 : Zb) (v5 : Int) (v6 : Int) : LT Za4 (List Int) :=
.lenO (cI .i64) v0<|.br (decide (v6 < (v0.length : Int))) (.idxR (cI .i64) v0 v6 fun x3=>.ldR (cI .i64) v0 x3 2<|.call (Zms x3 w1_0) fun x5=>.br (!x5) (.idxR (cI .i64) v0 v5 fun x8=>.setR (cI .i64) v0 v5 x8 x3 5 0 [(.int .i64 x3)] rfl fun x10=>.dr [.ahead 34, .relen 20000000, .stop]<|.us [6]<|.us [6]<|.us [6]<|.us [6]<|.us [6]<|.us [6]<|.g0 (.L0 x10 w1_0 (IntKind.wrap .i64 (v5 + 1)) (IntKind.wrap .i64 (v6 + 1))))<|.g0 (.L0 v0 w1_0 v5 (IntKind.wrap .i64 (v6 + 1))))<|.tlR (cI .i64) v0 v5 0 fun x18=>.clR (cI .i64) v0 x18 0<|.dr [.ahead 39, .relen 20000000, .stop]<|.us [2]<|.us [2]<|.us [2]<|.trR (cI .i64) x18 v5 fun x20=>.ret x20 [.relab 20000000 5000]
def Zc4 (b0 : (List Int)) (a1 : Zb) : LT Za4 (List Int) :=
.rl (cI .i64) b0<|.call (Zg8 b0 a1) fun x1=>.br (x1 == (-1)) (.ret b0 [.relab 0 5000])<|.go (.L0 b0 a1 x1 (IntKind.wrap .i64 (x1 + 1))) [.relab 0 20000000]
def Zc5 : LF Za4 (List Int) := ⟨36, [.t 4], true, fun | .L0 .. => [1,1,1,0,1,4],
 fun | .L0 v0 w1_0 v5 v6 => ⟨42, [(0, (wO (cI .i64) 20000000 v0)), (1, (.fn 44 [(.vptr (Zo w1_0))])), (5, (wI v5)), (6, (wI v6))], [(20000000, wR (cI .i64) 1 v0)]⟩,
 fun r => [(5000, wR (cI .i64) 1 r)], fun r => (wO (cI .i64) 5000 r), fun | .L0 v0 w1_0 v5 v6 => Zbo v0 w1_0 v5 v6⟩
def Zbv (b0 : (List Int)) (a1 : Zb) : Option (List Int) := Zc5.run (Zc4 b0 a1)
theorem Zah (b0 : (List Int)) (a1 : Zb) {r : (List Int)} (h : Zbv b0 a1 = some r) : FnG PR 36 [(0, wR (cI .i64) 1 b0)] [(wO (cI .i64) 0 b0), (.fn 44 [(.vptr (Zo a1))])] [(5000, wR (cI .i64) 1 r)] (wO (cI .i64) 5000 r) := Zc5.fn h
def Zz8 (a0 : Zb) (a1 : (List Za)) (a2 : Zs) (a3 : Zak) : LT Empty (List Int) :=
.lb 1004<|.lb 1006<|.lb 1007<|.br (a3.Kind == 2) (.lb 1018<|.callW (Zah [a2.Source] a0) [1018] 570000 (fun _ => ⟨rfl, Ze9 (cI .i64) (fun _ => rfl) _, trivial⟩) fun x3=>.ret x3 [.relab 575000 5000])<|.br (a3.Kind == 7) (.lb 1024<|.callW (Zah [a2.Event.Object] a0) [1024] 570000 (fun _ => ⟨rfl, Ze9 (cI .i64) (fun _ => rfl) _, trivial⟩) fun x7=>.ret x7 [.relab 575000 5000])<|.br (a3.Kind == 4) (.callF (Z3j a0 a1 a2.You a2.Source a3.Filter) 360000 fun x10=>.callW (Zah x10 a0) [365000] 570000 (fun _ => ⟨rfl, Ze9 (cI .i64) (fun _ => rfl) _, trivial⟩) fun x12=>.ret x12 [.relab 575000 5000])<|.br (a3.Kind == 3) (.call (Zz3 a2 a3.N) fun x15=>.lb 1010<|.cs x15.2 (.k4 4<|.br (x15.1.Object != 0) (.lb 1053<|.callW (Zah [x15.1.Object] a0) [1053] 570000 (fun _ => ⟨rfl, Ze9 (cI .i64) (fun _ => rfl) _, trivial⟩) fun x20=>.ret x20 [.relab 575000 5000])<|.dr [.ahead 56, .own 54 70000560 1, .stop]<|.callW (Zah ([] : (List Int)) a0) [70000560] 570000 (fun _ => ⟨rfl, Ze9 (cI .i64) (fun _ => rfl) _, trivial⟩) fun x22=>.ret x22 [.relab 575000 5000])<|.k4 4<|.kn [0]<|.dr [.ahead 56, .own 54 70000560 1, .stop]<|.callW (Zah ([] : (List Int)) a0) [70000560] 570000 (fun _ => ⟨rfl, Ze9 (cI .i64) (fun _ => rfl) _, trivial⟩) fun x24=>.ret x24 [.relab 575000 5000])<|.dr [.ahead 56, .own 54 70000560 1, .stop]<|.callW (Zah ([] : (List Int)) a0) [70000560] 570000 (fun _ => ⟨rfl, Ze9 (cI .i64) (fun _ => rfl) _, trivial⟩) fun x26=>.ret x26 [.relab 575000 5000]
def Zz9 : LF Empty (List Int) := .z 17 [.t 8] true (fun r => [(5000, wR (cI .i64) 1 r)]) (fun r => (wO (cI .i64) 5000 r))
def Zm8 (a0 : Zb) (a1 : (List Za)) (a2 : Zs) (a3 : Zak) : Option (List Int) := Zz9.run (Zz8 a0 a1 a2 a3)
theorem Zlz (a0 : Zb) (a1 : (List Za)) (a2 : Zs) (a3 : Zak) {r : (List Int)} (h : Zm8 a0 a1 a2 a3 = some r) : FnG PR 17 [] [(wA (Zo a0)), (wL Zi a1), (wA (Zbd a2)), (wA (Zbg a3))] [(5000, wR (cI .i64) 1 r)] (wO (cI .i64) 5000 r) := Zz9.fn h
theorem Zny (a0 : Zb) (a1 : (List Za)) (a2 : Zs) (a3 : Zak) {r : (List Int)} (h : Zm8 a0 a1 a2 a3 = some r) : Fn PR 17 [(wA (Zo a0)), (wL Zi a1), (wA (Zbd a2)), (wA (Zbg a3))] (wL (cI .i64) r) :=
 FnG.frozen (C := LT.RL (cI .i64) r ∧ True) (Zlz a0 a1 a2 a3 h) ⟨rfl, trivial⟩ (by kernel_rfl)
inductive Z1p where
 | L0 (E0 : Zb) (v2 : Int)
def Zxv (E0 : Zb) (v2 : Int) : LT Z1p Bool :=
.br (decide (v2 ≤ 3)) (.dr [.lit]<|.apR Zh 128 E0.Objects [(⟨v2, 0, 0, 0, 0, false, false, false, false, 0, (⟨0, 0, 0⟩ : (A3 Int)), 0, (-1), (-1), false, 0, 0⟩ : Zf)] fun x3=>.dr [.lit]<|.apR (cI .i64) 8 E0.Battlefield [v2] fun x7=>.g0 (.L0 (⟨E0.Players, x3, x7, E0.Exile, E0.Stack, E0.Waiting, E0.Conts, E0.Turn, E0.Active, E0.Step, E0.Begun, E0.Priority, E0.Passes, E0.NextId, E0.NextStamp, E0.Seed, E0.Extra, E0.Over, E0.Winner⟩ : Zb) (IntKind.wrap .i64 (v2 + 1))))<|.lb 1003<|.dr [.lit]<|.lb 1005<|.dr [.lit]<|.lb 1006<|.rl Zh E0.Objects<|.rl (cI .i64) E0.Battlefield<|.rl (cI .i64) E0.Exile<|.rl Zal E0.Stack<|.rl Zae E0.Waiting<|.rl Zaq E0.Conts<|.rl (cI .i64) E0.Extra<|.call (Zfj E0 [(⟨([] : List UInt8), (⟨0, 0, (⟨0, 0, 0, 0, 0⟩ : (A5 Int))⟩ : Zp), 0, (⟨0, 1, ([] : (List (List UInt8)))⟩ : Zu), 4, 0, 0, ([] : (List Zk)), 0⟩ : Za), (⟨([] : List UInt8), (⟨0, 0, (⟨0, 0, 0, 0, 0⟩ : (A5 Int))⟩ : Zp), 0, (⟨0, 1, ([] : (List (List UInt8)))⟩ : Zu), 4, 0, 0, ([] : (List Zk)), 0⟩ : Za), (⟨([] : List UInt8), (⟨0, 0, (⟨0, 0, 0, 0, 0⟩ : (A5 Int))⟩ : Zp), 0, (⟨0, 1, ([] : (List (List UInt8)))⟩ : Zu), 4, 0, 0, ([] : (List Zk)), 0⟩ : Za)] (⟨0, 2, (-3), [(⟨0, 1⟩ : Zaj), (⟨3, 0⟩ : Zaj)], (⟨0, 0, 0, 0, 0, 0, 0, 0, 0, 0, false, false, (⟨0, 0, 0⟩ : (A3 Int))⟩ : Zek)⟩ : Zs) (⟨2, 2, 0, (⟨0, 1, 0, 1, 0, 0, 0, ([] : List UInt8), 0, 0, (⟨0, 0⟩ : Zd), (⟨0, 0⟩ : Zd), (⟨0, 0⟩ : Zd)⟩ : Ze)⟩ : Zw)) fun x14=>.cs (x14 == 6) (.k5 1<|.rl Zh E0.Objects<|.rl (cI .i64) E0.Battlefield<|.rl (cI .i64) E0.Exile<|.rl Zal E0.Stack<|.rl Zae E0.Waiting<|.rl Zaq E0.Conts<|.rl (cI .i64) E0.Extra<|.call (Zfj E0 [(⟨([] : List UInt8), (⟨0, 0, (⟨0, 0, 0, 0, 0⟩ : (A5 Int))⟩ : Zp), 0, (⟨0, 1, ([] : (List (List UInt8)))⟩ : Zu), 4, 0, 0, ([] : (List Zk)), 0⟩ : Za), (⟨([] : List UInt8), (⟨0, 0, (⟨0, 0, 0, 0, 0⟩ : (A5 Int))⟩ : Zp), 0, (⟨0, 1, ([] : (List (List UInt8)))⟩ : Zu), 4, 0, 0, ([] : (List Zk)), 0⟩ : Za), (⟨([] : List UInt8), (⟨0, 0, (⟨0, 0, 0, 0, 0⟩ : (A5 Int))⟩ : Zp), 0, (⟨0, 1, ([] : (List (List UInt8)))⟩ : Zu), 4, 0, 0, ([] : (List Zk)), 0⟩ : Za)] (⟨0, 2, (-3), [(⟨0, 1⟩ : Zaj), (⟨3, 0⟩ : Zaj)], (⟨0, 0, 0, 0, 0, 0, 0, 0, 0, 0, false, false, (⟨0, 0, 0⟩ : (A3 Int))⟩ : Zek)⟩ : Zs) (⟨5, 0, 0, (⟨0, 0, 0, 0, 0, 0, 0, ([] : List UInt8), 0, 0, (⟨0, 0⟩ : Zd), (⟨0, 0⟩ : Zd), (⟨0, 0⟩ : Zd)⟩ : Ze)⟩ : Zw)) fun x17=>.k2 1<|.cs (x17 == 7) (.k5 2<|.rl Zh E0.Objects<|.rl (cI .i64) E0.Battlefield<|.rl (cI .i64) E0.Exile<|.rl Zal E0.Stack<|.rl Zae E0.Waiting<|.rl Zaq E0.Conts<|.rl (cI .i64) E0.Extra<|.call (Zfj E0 [(⟨([] : List UInt8), (⟨0, 0, (⟨0, 0, 0, 0, 0⟩ : (A5 Int))⟩ : Zp), 0, (⟨0, 1, ([] : (List (List UInt8)))⟩ : Zu), 4, 0, 0, ([] : (List Zk)), 0⟩ : Za), (⟨([] : List UInt8), (⟨0, 0, (⟨0, 0, 0, 0, 0⟩ : (A5 Int))⟩ : Zp), 0, (⟨0, 1, ([] : (List (List UInt8)))⟩ : Zu), 4, 0, 0, ([] : (List Zk)), 0⟩ : Za), (⟨([] : List UInt8), (⟨0, 0, (⟨0, 0, 0, 0, 0⟩ : (A5 Int))⟩ : Zp), 0, (⟨0, 1, ([] : (List (List UInt8)))⟩ : Zu), 4, 0, 0, ([] : (List Zk)), 0⟩ : Za)] (⟨0, 2, (-3), [(⟨0, 1⟩ : Zaj), (⟨3, 0⟩ : Zaj)], (⟨0, 0, 0, 0, 0, 0, 0, 0, 0, 0, false, false, (⟨0, 0, 0⟩ : (A3 Int))⟩ : Zek)⟩ : Zs) (⟨3, 0, 0, (⟨0, 0, 0, 0, 0, 0, 0, ([] : List UInt8), 0, 0, (⟨0, 0⟩ : Zd), (⟨0, 0⟩ : Zd), (⟨0, 0⟩ : Zd)⟩ : Ze)⟩ : Zw)) fun x20=>.k2 2<|.cs (x20 == 4) (.k5 3<|.rl Zh E0.Objects<|.rl (cI .i64) E0.Battlefield<|.rl (cI .i64) E0.Exile<|.rl Zal E0.Stack<|.rl Zae E0.Waiting<|.rl Zaq E0.Conts<|.rl (cI .i64) E0.Extra<|.call (Zfj E0 [(⟨([] : List UInt8), (⟨0, 0, (⟨0, 0, 0, 0, 0⟩ : (A5 Int))⟩ : Zp), 0, (⟨0, 1, ([] : (List (List UInt8)))⟩ : Zu), 4, 0, 0, ([] : (List Zk)), 0⟩ : Za), (⟨([] : List UInt8), (⟨0, 0, (⟨0, 0, 0, 0, 0⟩ : (A5 Int))⟩ : Zp), 0, (⟨0, 1, ([] : (List (List UInt8)))⟩ : Zu), 4, 0, 0, ([] : (List Zk)), 0⟩ : Za), (⟨([] : List UInt8), (⟨0, 0, (⟨0, 0, 0, 0, 0⟩ : (A5 Int))⟩ : Zp), 0, (⟨0, 1, ([] : (List (List UInt8)))⟩ : Zu), 4, 0, 0, ([] : (List Zk)), 0⟩ : Za)] (⟨0, 2, (-3), [(⟨0, 1⟩ : Zaj), (⟨3, 0⟩ : Zaj)], (⟨0, 0, 0, 0, 0, 0, 0, 0, 0, 0, false, false, (⟨0, 0, 0⟩ : (A3 Int))⟩ : Zek)⟩ : Zs) (⟨1, 0, 0, (⟨0, 0, 0, 0, 0, 0, 0, ([] : List UInt8), 0, 0, (⟨0, 0⟩ : Zd), (⟨0, 0⟩ : Zd), (⟨0, 0⟩ : Zd)⟩ : Ze)⟩ : Zw)) fun x23=>.k2 3<|.cs (x23 == 0) (.k5 4<|.rl Zh E0.Objects<|.rl (cI .i64) E0.Battlefield<|.rl (cI .i64) E0.Exile<|.rl Zal E0.Stack<|.rl Zae E0.Waiting<|.rl Zaq E0.Conts<|.rl (cI .i64) E0.Extra<|.callS (Zly E0 [(⟨([] : List UInt8), (⟨0, 0, (⟨0, 0, 0, 0, 0⟩ : (A5 Int))⟩ : Zp), 0, (⟨0, 1, ([] : (List (List UInt8)))⟩ : Zu), 4, 0, 0, ([] : (List Zk)), 0⟩ : Za), (⟨([] : List UInt8), (⟨0, 0, (⟨0, 0, 0, 0, 0⟩ : (A5 Int))⟩ : Zp), 0, (⟨0, 1, ([] : (List (List UInt8)))⟩ : Zu), 4, 0, 0, ([] : (List Zk)), 0⟩ : Za), (⟨([] : List UInt8), (⟨0, 0, (⟨0, 0, 0, 0, 0⟩ : (A5 Int))⟩ : Zp), 0, (⟨0, 1, ([] : (List (List UInt8)))⟩ : Zu), 4, 0, 0, ([] : (List Zk)), 0⟩ : Za)] (⟨0, 2, (-3), [(⟨0, 1⟩ : Zaj), (⟨3, 0⟩ : Zaj)], (⟨0, 0, 0, 0, 0, 0, 0, 0, 0, 0, false, false, (⟨0, 0, 0⟩ : (A3 Int))⟩ : Zek)⟩ : Zs) (⟨3, 1, (⟨0, 0, 0, 0, 0, 0, 0, ([] : List UInt8), 0, 0, (⟨0, 0⟩ : Zd), (⟨0, 0⟩ : Zd), (⟨0, 0⟩ : Zd)⟩ : Ze)⟩ : Zak)) 770000 (fun _ => ⟨rfl, Ze9 (cI .i64) (fun _ => rfl) _, trivial⟩) fun x26=>.kg 4<|.dr [.lit]<|.kg 4<|.rl (cI .i64) x26<|.call (Zhz x26 [1]) fun x29=>.kg 4<|.cs x29 (.k5 5<|.rl Zh E0.Objects<|.rl (cI .i64) E0.Battlefield<|.rl (cI .i64) E0.Exile<|.rl Zal E0.Stack<|.rl Zae E0.Waiting<|.rl Zaq E0.Conts<|.rl (cI .i64) E0.Extra<|.callS (Zly E0 [(⟨([] : List UInt8), (⟨0, 0, (⟨0, 0, 0, 0, 0⟩ : (A5 Int))⟩ : Zp), 0, (⟨0, 1, ([] : (List (List UInt8)))⟩ : Zu), 4, 0, 0, ([] : (List Zk)), 0⟩ : Za), (⟨([] : List UInt8), (⟨0, 0, (⟨0, 0, 0, 0, 0⟩ : (A5 Int))⟩ : Zp), 0, (⟨0, 1, ([] : (List (List UInt8)))⟩ : Zu), 4, 0, 0, ([] : (List Zk)), 0⟩ : Za), (⟨([] : List UInt8), (⟨0, 0, (⟨0, 0, 0, 0, 0⟩ : (A5 Int))⟩ : Zp), 0, (⟨0, 1, ([] : (List (List UInt8)))⟩ : Zu), 4, 0, 0, ([] : (List Zk)), 0⟩ : Za)] (⟨0, 2, (-3), [(⟨0, 1⟩ : Zaj), (⟨3, 0⟩ : Zaj)], (⟨0, 0, 0, 0, 0, 0, 0, 0, 0, 0, false, false, (⟨0, 0, 0⟩ : (A3 Int))⟩ : Zek)⟩ : Zs) (⟨6, 0, (⟨0, 0, 0, 0, 0, 0, 0, ([] : List UInt8), 0, 0, (⟨0, 0⟩ : Zd), (⟨0, 0⟩ : Zd), (⟨0, 0⟩ : Zd)⟩ : Ze)⟩ : Zak)) 860000 (fun _ => ⟨rfl, Ze9 (cI .i64) (fun _ => rfl) _, trivial⟩) fun x32=>.kg 5<|.dr [.lit]<|.kg 5<|.rl (cI .i64) x32<|.call (Zhz x32 [0, 1]) fun x35=>.kg 5<|.cs x35 (.k5 6<|.rl Zh E0.Objects<|.rl (cI .i64) E0.Battlefield<|.rl (cI .i64) E0.Exile<|.rl Zal E0.Stack<|.rl Zae E0.Waiting<|.rl Zaq E0.Conts<|.rl (cI .i64) E0.Extra<|.callS (Zlz E0 [(⟨([] : List UInt8), (⟨0, 0, (⟨0, 0, 0, 0, 0⟩ : (A5 Int))⟩ : Zp), 0, (⟨0, 1, ([] : (List (List UInt8)))⟩ : Zu), 4, 0, 0, ([] : (List Zk)), 0⟩ : Za), (⟨([] : List UInt8), (⟨0, 0, (⟨0, 0, 0, 0, 0⟩ : (A5 Int))⟩ : Zp), 0, (⟨0, 1, ([] : (List (List UInt8)))⟩ : Zu), 4, 0, 0, ([] : (List Zk)), 0⟩ : Za), (⟨([] : List UInt8), (⟨0, 0, (⟨0, 0, 0, 0, 0⟩ : (A5 Int))⟩ : Zp), 0, (⟨0, 1, ([] : (List (List UInt8)))⟩ : Zu), 4, 0, 0, ([] : (List Zk)), 0⟩ : Za)] (⟨0, 2, (-3), [(⟨0, 1⟩ : Zaj), (⟨3, 0⟩ : Zaj)], (⟨0, 0, 0, 0, 0, 0, 0, 0, 0, 0, false, false, (⟨0, 0, 0⟩ : (A3 Int))⟩ : Zek)⟩ : Zs) (⟨3, 2, (⟨0, 0, 0, 0, 0, 0, 0, ([] : List UInt8), 0, 0, (⟨0, 0⟩ : Zd), (⟨0, 0⟩ : Zd), (⟨0, 0⟩ : Zd)⟩ : Ze)⟩ : Zak)) 950000 (fun _ => ⟨rfl, Ze9 (cI .i64) (fun _ => rfl) _, trivial⟩) fun x38=>.kg 6<|.dr [.lit]<|.kg 6<|.rl (cI .i64) x38<|.call (Zhz x38 [3]) fun x41=>.kg 6<|.cs x41 (.k5 7<|.rl Zh E0.Objects<|.rl (cI .i64) E0.Battlefield<|.rl (cI .i64) E0.Exile<|.rl Zal E0.Stack<|.rl Zae E0.Waiting<|.rl Zaq E0.Conts<|.rl (cI .i64) E0.Extra<|.callS (Zlz E0 [(⟨([] : List UInt8), (⟨0, 0, (⟨0, 0, 0, 0, 0⟩ : (A5 Int))⟩ : Zp), 0, (⟨0, 1, ([] : (List (List UInt8)))⟩ : Zu), 4, 0, 0, ([] : (List Zk)), 0⟩ : Za), (⟨([] : List UInt8), (⟨0, 0, (⟨0, 0, 0, 0, 0⟩ : (A5 Int))⟩ : Zp), 0, (⟨0, 1, ([] : (List (List UInt8)))⟩ : Zu), 4, 0, 0, ([] : (List Zk)), 0⟩ : Za), (⟨([] : List UInt8), (⟨0, 0, (⟨0, 0, 0, 0, 0⟩ : (A5 Int))⟩ : Zp), 0, (⟨0, 1, ([] : (List (List UInt8)))⟩ : Zu), 4, 0, 0, ([] : (List Zk)), 0⟩ : Za)] (⟨0, 2, (-3), [(⟨0, 1⟩ : Zaj), (⟨3, 0⟩ : Zaj)], (⟨0, 0, 0, 0, 0, 0, 0, 0, 0, 0, false, false, (⟨0, 0, 0⟩ : (A3 Int))⟩ : Zek)⟩ : Zs) (⟨2, 0, (⟨0, 0, 0, 0, 0, 0, 0, ([] : List UInt8), 0, 0, (⟨0, 0⟩ : Zd), (⟨0, 0⟩ : Zd), (⟨0, 0⟩ : Zd)⟩ : Ze)⟩ : Zak)) 1040000 (fun _ => ⟨rfl, Ze9 (cI .i64) (fun _ => rfl) _, trivial⟩) fun x44=>.kg 7<|.dr [.lit]<|.kg 7<|.rl (cI .i64) x44<|.call (Zhz x44 [2]) fun x47=>.kg 7<|.rt x47)<|.k8 7<|.rt false)<|.k8 6<|.b8 false<|.rt false)<|.k8 5<|.b16 false<|.rt false)<|.k8 4<|.b16 false<|.b8 false<|.rt false)<|.k5 3<|.k2 3<|.b16 false<|.b16 false<|.rt false)<|.k5 2<|.k2 2<|.b16 false<|.b16 false<|.b5 false<|.b2 false<|.rt false)<|.k5 1<|.k2 1<|.b16 false<|.b16 false<|.b8 false<|.b5 false<|.kb false<|.rt false
def Zaez : LT Z1p Bool :=
.dr [.lit]<|.dr [.lit]<|.lb 1001<|.go (.L0 (⟨[(⟨7, 0, 0, (⟨0, 0, 0, 0, 0, 0⟩ : (A6 Int)), false, false, ([] : (List Int)), ([] : (List Int)), ([] : (List Int))⟩ : Za1), (⟨20, 0, 0, (⟨0, 0, 0, 0, 0, 0⟩ : (A6 Int)), false, false, ([] : (List Int)), [4], ([] : (List Int))⟩ : Za1)], ([] : (List Zf)), ([] : (List Int)), ([] : (List Int)), ([] : (List Zeg)), ([] : (List Zd8)), ([] : (List Zgz)), 0, 0, 0, false, 0, 0, 5, 0, 0, ([] : (List Int)), 0, 0⟩ : Zb) 1) [.relab 1001 30000000, .ownb 30000000 1 40000001 19, .ownb 30000000 2 40000002 1, .ownb 30000000 3 40000003 1, .ownb 30000000 4 40000004 94, .ownb 30000000 5 40000005 89, .ownb 30000000 6 40000006 6, .ownb 30000000 16 40000016 1]
def Z1q : LF Z1p Bool := ⟨10, [.t 0], false, fun | .L0 .. => [1,1,0,1,4],
 fun | .L0 E0 v2 => ⟨107, [(1, (.bptr 30000000 0)), (2, (wI v2))], [(30000000, .box [(wL Z2 E0.Players), (wO Zh 40000001 E0.Objects), (wO (cI .i64) 40000002 E0.Battlefield), (wO (cI .i64) 40000003 E0.Exile), (wO Zal 40000004 E0.Stack), (wO Zae 40000005 E0.Waiting), (wO Zaq 40000006 E0.Conts), (wI E0.Turn), (wI E0.Active), (wI E0.Step), (wB E0.Begun), (wI E0.Priority), (wI E0.Passes), (wI E0.NextId), (wI E0.NextStamp), (.t (.int .u64 E0.Seed)), (wO (cI .i64) 40000016 E0.Extra), (wI E0.Over), (wI E0.Winner)]), (40000001, wR Zh 19 E0.Objects), (40000002, wR (cI .i64) 1 E0.Battlefield), (40000003, wR (cI .i64) 1 E0.Exile), (40000004, wR Zal 94 E0.Stack), (40000005, wR Zae 89 E0.Waiting), (40000006, wR Zaq 6 E0.Conts), (40000016, wR (cI .i64) 1 E0.Extra)]⟩,
 fun r => [], fun r => (wB r), fun | .L0 E0 v2 => Zxv E0 v2⟩
def Zaah : Option Bool := Z1q.run (Zaez)
theorem Zck {r : Bool} (h : Zaah = some r) : Fn PR 10 [] (wB r) := Z1q.fn h
inductive Zkz where
 | L0 (E0 : Zp) (v3 : Int) (v4 : Int) (v5 : Int)
def Zue (E0 : Zp) (v3 : Int) (v4 : Int) (v5 : Int) : LT Zkz Int :=
.br (decide (v5 < 5)) (.idA (Zg.int .i64) (A5.list E0.Color) v5 (bx (Zas E0)) 2 7 fun x2=>.ldC (Zg.int .i64) 16 x2 0<|.br (decide (x2 > 0)) (.g0 (.L0 E0 (IntKind.wrap .i64 (v3 + v4)) (IntKind.wrap .i64 (2 * v4)) (IntKind.wrap .i64 (v5 + 1))))<|.g0 (.L0 E0 v3 (IntKind.wrap .i64 (2 * v4)) (IntKind.wrap .i64 (v5 + 1))))<|.rt v3
def Zaai (a0 : Zp) : LT Zkz Int :=
.lb 1001<|.call (Zsv a0) fun x1=>.br (!x1) (.rt 0)<|.go (.L0 a0 0 1 0) [.relab 1001 30000000]
def Zaaj : LF Zkz Int := ⟨148, [.t 2], false, fun | .L0 .. => [1,1,1,1,0,1,4],
 fun | .L0 E0 v3 v4 v5 => ⟨24, [(1, (.bptr 30000000 0)), (3, (wI v3)), (4, (wI v4)), (5, (wI v5))], [(30000000, .box (bx (Zas E0)))]⟩,
 fun r => [], fun r => (wI r), fun | .L0 E0 v3 v4 v5 => Zue E0 v3 v4 v5⟩
def Z5e (a0 : Zp) : Option Int := Zaaj.run (Zaai a0)
theorem Zar3 (a0 : Zp) {r : Int} (h : Z5e a0 = some r) : Fn PR 148 [(wA (Zas a0))] (wI r) := Zaaj.fn h
inductive Zjl where
 | L0 (E0 : Zk) (E1 : Zk) (E2 : Zk) (v4 : Int)
def Zra (E0 : Zk) (E1 : Zk) (E2 : Zk) (v4 : Int) : LT Zjl Zk :=
.len Z6 E0.Effects<|.br (decide (v4 < (E0.Effects.length : Int))) (.idx Z6 E0.Effects v4 fun x3=>.lb 1005<|.lb 1030<|.apR Z1 176 ([] : (List Zr)) x3.Mods fun x5=>.dr [.ahead 38, .pick [37, 36, 35, 34, 33, 32, 31, 5, 29, 28, 27, 26, 25, 22, 21, 20, 19, 18, 1, 2, 3, 4] [1005, 1030, 30000000, 30000001, 40000117, 40000148, 40000149, 30000002, 40000217, 40000248, 40000249], .frz 1030, .stop]<|.rl Z1 x5<|.rl Z1 x5<|.rl Z1 x5<|.dr [.lit]<|.apR Z6 560 E2.Effects [(⟨x3.Op, x3.Ref, x3.Amount, x3.Counter, x3.Zone, x3.Card, x3.Filter, x3.Pool, x5⟩ : Z0)] fun x9=>.g0 (.L0 E0 E1 (⟨E2.Kind, E2.Filter, E2.Mods, E2.Price, E2.Slow, E2.Trigger, E2.May, E2.Specs, x9, E2.Replace⟩ : Zk) (IntKind.wrap .i64 (v4 + 1))))<|.ret E2 [.relab 40000217 5017, .relab 40000248 5048, .relab 40000249 5049]
def Z63 (a0 : Zk) : LT Zjl Zk :=
.lb 1001<|.lb 1002<|.lb 1003<|.lb 1007<|.apR Z1 176 ([] : (List Zr)) a0.Mods fun x1=>.lb 1012<|.apR Za8 144 ([] : (List Zcy)) a0.Specs fun x4=>.go (.L0 a0 (⟨0, (⟨0, 0, 0, 0, 0, 0, 0, ([] : List UInt8), 0, 0, (⟨0, 0⟩ : Zd), (⟨0, 0⟩ : Zd), (⟨0, 0⟩ : Zd)⟩ : Ze), ([] : (List Zr)), (⟨(⟨0, 0, (⟨0, 0, 0, 0, 0⟩ : (A5 Int))⟩ : Zp), false, false, 0⟩ : Zfq), false, (⟨0, 0, (⟨0, 0, 0, 0, 0, 0, 0, ([] : List UInt8), 0, 0, (⟨0, 0⟩ : Zd), (⟨0, 0⟩ : Zd), (⟨0, 0⟩ : Zd)⟩ : Ze)⟩ : Zcb), false, ([] : (List Zcy)), ([] : (List Z0)), (⟨0, 0, (⟨0, 0, 0, 0, 0, 0, 0, ([] : List UInt8), 0, 0, (⟨0, 0⟩ : Zd), (⟨0, 0⟩ : Zd), (⟨0, 0⟩ : Zd)⟩ : Ze), 0, 0, 0, 0⟩ : Zaz)⟩ : Zk) (⟨a0.Kind, a0.Filter, x1, a0.Price, a0.Slow, a0.Trigger, a0.May, x4, ([] : (List Z0)), a0.Replace⟩ : Zk) 0) [.relab 1001 30000000, .relab 1002 30000001, .relab 1003 30000002, .ownb 30000001 17 40000117 20, .ownb 30000001 48 40000148 18, .ownb 30000001 49 40000149 64, .relab 1007 40000217, .relab 1012 40000248, .ownb 30000002 49 40000249 64]
def Z64 : LF Zjl Zk := ⟨149, [.c 2 144 true 72], true, fun | .L0 .. => [1,1,1,1,1,0,1,4],
 fun | .L0 E0 E1 E2 v4 => ⟨42, [(1, (.bptr 30000000 0)), (2, (.bptr 30000001 0)), (3, (.bptr 30000002 0)), (4, (wI v4))], [(30000000, .box (bx (Zx E0))), (30000001, .box [(wI E1.Kind), (wI E1.Filter.Zone), (wI E1.Filter.Who), (wI E1.Filter.Self), (wI E1.Filter.Types), (wI E1.Filter.NotTypes), (wI E1.Filter.Colors), (wI E1.Filter.NotColors), (wS E1.Filter.Sub), (wI E1.Filter.Keys), (wI E1.Filter.Tap), (wI E1.Filter.Power.Kind), (wI E1.Filter.Power.N), (wI E1.Filter.Tough.Kind), (wI E1.Filter.Tough.N), (wI E1.Filter.Value.Kind), (wI E1.Filter.Value.N), (wO Z1 40000117 E1.Mods), (wI E1.Price.Mana.Generic), (wI E1.Price.Mana.X), (wI E1.Price.Mana.Color.a0), (wI E1.Price.Mana.Color.a1), (wI E1.Price.Mana.Color.a2), (wI E1.Price.Mana.Color.a3), (wI E1.Price.Mana.Color.a4), (wB E1.Price.Tap), (wB E1.Price.Sacrifice), (wI E1.Price.Life), (wB E1.Slow), (wI E1.Trigger.When), (wI E1.Trigger.Who), (wI E1.Trigger.Filter.Zone), (wI E1.Trigger.Filter.Who), (wI E1.Trigger.Filter.Self), (wI E1.Trigger.Filter.Types), (wI E1.Trigger.Filter.NotTypes), (wI E1.Trigger.Filter.Colors), (wI E1.Trigger.Filter.NotColors), (wS E1.Trigger.Filter.Sub), (wI E1.Trigger.Filter.Keys), (wI E1.Trigger.Filter.Tap), (wI E1.Trigger.Filter.Power.Kind), (wI E1.Trigger.Filter.Power.N), (wI E1.Trigger.Filter.Tough.Kind), (wI E1.Trigger.Filter.Tough.N), (wI E1.Trigger.Filter.Value.Kind), (wI E1.Trigger.Filter.Value.N), (wB E1.May), (wO Za8 40000148 E1.Specs), (wO Z6 40000149 E1.Effects), (wI E1.Replace.On), (wI E1.Replace.Who), (wI E1.Replace.Filter.Zone), (wI E1.Replace.Filter.Who), (wI E1.Replace.Filter.Self), (wI E1.Replace.Filter.Types), (wI E1.Replace.Filter.NotTypes), (wI E1.Replace.Filter.Colors), (wI E1.Replace.Filter.NotColors), (wS E1.Replace.Filter.Sub), (wI E1.Replace.Filter.Keys), (wI E1.Replace.Filter.Tap), (wI E1.Replace.Filter.Power.Kind), (wI E1.Replace.Filter.Power.N), (wI E1.Replace.Filter.Tough.Kind), (wI E1.Replace.Filter.Tough.N), (wI E1.Replace.Filter.Value.Kind), (wI E1.Replace.Filter.Value.N), (wI E1.Replace.Do), (wI E1.Replace.N), (wI E1.Replace.Zone), (wI E1.Replace.Counter)]), (40000117, wR Z1 20 E1.Mods), (40000148, wR Za8 18 E1.Specs), (40000149, wR Z6 64 E1.Effects), (30000002, .box [(wI E2.Kind), (wI E2.Filter.Zone), (wI E2.Filter.Who), (wI E2.Filter.Self), (wI E2.Filter.Types), (wI E2.Filter.NotTypes), (wI E2.Filter.Colors), (wI E2.Filter.NotColors), (wS E2.Filter.Sub), (wI E2.Filter.Keys), (wI E2.Filter.Tap), (wI E2.Filter.Power.Kind), (wI E2.Filter.Power.N), (wI E2.Filter.Tough.Kind), (wI E2.Filter.Tough.N), (wI E2.Filter.Value.Kind), (wI E2.Filter.Value.N), (wO Z1 40000217 E2.Mods), (wI E2.Price.Mana.Generic), (wI E2.Price.Mana.X), (wI E2.Price.Mana.Color.a0), (wI E2.Price.Mana.Color.a1), (wI E2.Price.Mana.Color.a2), (wI E2.Price.Mana.Color.a3), (wI E2.Price.Mana.Color.a4), (wB E2.Price.Tap), (wB E2.Price.Sacrifice), (wI E2.Price.Life), (wB E2.Slow), (wI E2.Trigger.When), (wI E2.Trigger.Who), (wI E2.Trigger.Filter.Zone), (wI E2.Trigger.Filter.Who), (wI E2.Trigger.Filter.Self), (wI E2.Trigger.Filter.Types), (wI E2.Trigger.Filter.NotTypes), (wI E2.Trigger.Filter.Colors), (wI E2.Trigger.Filter.NotColors), (wS E2.Trigger.Filter.Sub), (wI E2.Trigger.Filter.Keys), (wI E2.Trigger.Filter.Tap), (wI E2.Trigger.Filter.Power.Kind), (wI E2.Trigger.Filter.Power.N), (wI E2.Trigger.Filter.Tough.Kind), (wI E2.Trigger.Filter.Tough.N), (wI E2.Trigger.Filter.Value.Kind), (wI E2.Trigger.Filter.Value.N), (wB E2.May), (wO Za8 40000248 E2.Specs), (wO Z6 40000249 E2.Effects), (wI E2.Replace.On), (wI E2.Replace.Who), (wI E2.Replace.Filter.Zone), (wI E2.Replace.Filter.Who), (wI E2.Replace.Filter.Self), (wI E2.Replace.Filter.Types), (wI E2.Replace.Filter.NotTypes), (wI E2.Replace.Filter.Colors), (wI E2.Replace.Filter.NotColors), (wS E2.Replace.Filter.Sub), (wI E2.Replace.Filter.Keys), (wI E2.Replace.Filter.Tap), (wI E2.Replace.Filter.Power.Kind), (wI E2.Replace.Filter.Power.N), (wI E2.Replace.Filter.Tough.Kind), (wI E2.Replace.Filter.Tough.N), (wI E2.Replace.Filter.Value.Kind), (wI E2.Replace.Filter.Value.N), (wI E2.Replace.Do), (wI E2.Replace.N), (wI E2.Replace.Zone), (wI E2.Replace.Counter)]), (40000217, wR Z1 20 E2.Mods), (40000248, wR Za8 18 E2.Specs), (40000249, wR Z6 64 E2.Effects)]⟩,
 fun r => [(5017, wR Z1 20 r.Mods), (5048, wR Za8 18 r.Specs), (5049, wR Z6 64 r.Effects)], fun r => (.agg [(wI r.Kind), (wI r.Filter.Zone), (wI r.Filter.Who), (wI r.Filter.Self), (wI r.Filter.Types), (wI r.Filter.NotTypes), (wI r.Filter.Colors), (wI r.Filter.NotColors), (wS r.Filter.Sub), (wI r.Filter.Keys), (wI r.Filter.Tap), (wI r.Filter.Power.Kind), (wI r.Filter.Power.N), (wI r.Filter.Tough.Kind), (wI r.Filter.Tough.N), (wI r.Filter.Value.Kind), (wI r.Filter.Value.N), (wO Z1 5017 r.Mods), (wI r.Price.Mana.Generic), (wI r.Price.Mana.X), (wI r.Price.Mana.Color.a0), (wI r.Price.Mana.Color.a1), (wI r.Price.Mana.Color.a2), (wI r.Price.Mana.Color.a3), (wI r.Price.Mana.Color.a4), (wB r.Price.Tap), (wB r.Price.Sacrifice), (wI r.Price.Life), (wB r.Slow), (wI r.Trigger.When), (wI r.Trigger.Who), (wI r.Trigger.Filter.Zone), (wI r.Trigger.Filter.Who), (wI r.Trigger.Filter.Self), (wI r.Trigger.Filter.Types), (wI r.Trigger.Filter.NotTypes), (wI r.Trigger.Filter.Colors), (wI r.Trigger.Filter.NotColors), (wS r.Trigger.Filter.Sub), (wI r.Trigger.Filter.Keys), (wI r.Trigger.Filter.Tap), (wI r.Trigger.Filter.Power.Kind), (wI r.Trigger.Filter.Power.N), (wI r.Trigger.Filter.Tough.Kind), (wI r.Trigger.Filter.Tough.N), (wI r.Trigger.Filter.Value.Kind), (wI r.Trigger.Filter.Value.N), (wB r.May), (wO Za8 5048 r.Specs), (wO Z6 5049 r.Effects), (wI r.Replace.On), (wI r.Replace.Who), (wI r.Replace.Filter.Zone), (wI r.Replace.Filter.Who), (wI r.Replace.Filter.Self), (wI r.Replace.Filter.Types), (wI r.Replace.Filter.NotTypes), (wI r.Replace.Filter.Colors), (wI r.Replace.Filter.NotColors), (wS r.Replace.Filter.Sub), (wI r.Replace.Filter.Keys), (wI r.Replace.Filter.Tap), (wI r.Replace.Filter.Power.Kind), (wI r.Replace.Filter.Power.N), (wI r.Replace.Filter.Tough.Kind), (wI r.Replace.Filter.Tough.N), (wI r.Replace.Filter.Value.Kind), (wI r.Replace.Filter.Value.N), (wI r.Replace.Do), (wI r.Replace.N), (wI r.Replace.Zone), (wI r.Replace.Counter)]), fun | .L0 E0 E1 E2 v4 => Zra E0 E1 E2 v4⟩
def Zsb (a0 : Zk) : Option Zk := Z64.run (Z63 a0)
theorem Zalz (a0 : Zk) {r : Zk} (h : Zsb a0 = some r) : FnG PR 149 [] [(wA (Zx a0))] [(5017, wR Z1 20 r.Mods), (5048, wR Za8 18 r.Specs), (5049, wR Z6 64 r.Effects)] (.agg [(wI r.Kind), (wI r.Filter.Zone), (wI r.Filter.Who), (wI r.Filter.Self), (wI r.Filter.Types), (wI r.Filter.NotTypes), (wI r.Filter.Colors), (wI r.Filter.NotColors), (wS r.Filter.Sub), (wI r.Filter.Keys), (wI r.Filter.Tap), (wI r.Filter.Power.Kind), (wI r.Filter.Power.N), (wI r.Filter.Tough.Kind), (wI r.Filter.Tough.N), (wI r.Filter.Value.Kind), (wI r.Filter.Value.N), (wO Z1 5017 r.Mods), (wI r.Price.Mana.Generic), (wI r.Price.Mana.X), (wI r.Price.Mana.Color.a0), (wI r.Price.Mana.Color.a1), (wI r.Price.Mana.Color.a2), (wI r.Price.Mana.Color.a3), (wI r.Price.Mana.Color.a4), (wB r.Price.Tap), (wB r.Price.Sacrifice), (wI r.Price.Life), (wB r.Slow), (wI r.Trigger.When), (wI r.Trigger.Who), (wI r.Trigger.Filter.Zone), (wI r.Trigger.Filter.Who), (wI r.Trigger.Filter.Self), (wI r.Trigger.Filter.Types), (wI r.Trigger.Filter.NotTypes), (wI r.Trigger.Filter.Colors), (wI r.Trigger.Filter.NotColors), (wS r.Trigger.Filter.Sub), (wI r.Trigger.Filter.Keys), (wI r.Trigger.Filter.Tap), (wI r.Trigger.Filter.Power.Kind), (wI r.Trigger.Filter.Power.N), (wI r.Trigger.Filter.Tough.Kind), (wI r.Trigger.Filter.Tough.N), (wI r.Trigger.Filter.Value.Kind), (wI r.Trigger.Filter.Value.N), (wB r.May), (wO Za8 5048 r.Specs), (wO Z6 5049 r.Effects), (wI r.Replace.On), (wI r.Replace.Who), (wI r.Replace.Filter.Zone), (wI r.Replace.Filter.Who), (wI r.Replace.Filter.Self), (wI r.Replace.Filter.Types), (wI r.Replace.Filter.NotTypes), (wI r.Replace.Filter.Colors), (wI r.Replace.Filter.NotColors), (wS r.Replace.Filter.Sub), (wI r.Replace.Filter.Keys), (wI r.Replace.Filter.Tap), (wI r.Replace.Filter.Power.Kind), (wI r.Replace.Filter.Power.N), (wI r.Replace.Filter.Tough.Kind), (wI r.Replace.Filter.Tough.N), (wI r.Replace.Filter.Value.Kind), (wI r.Replace.Filter.Value.N), (wI r.Replace.Do), (wI r.Replace.N), (wI r.Replace.Zone), (wI r.Replace.Counter)]) := Z64.fn h
theorem Zao1 (a0 : Zk) {r : Zk} (h : Zsb a0 = some r) : Fn PR 149 [(wA (Zx a0))] (wA (Zx r)) :=
 FnG.frozen (C := LT.RL Z1 r.Mods ∧ LT.RL Za8 r.Specs ∧ LT.RL Z6 r.Effects ∧ True) (Zalz a0 h) ⟨rfl, rfl, rfl, trivial⟩ (by kernel_rfl)
inductive Zjm where
 | L0 (E0 : Zl) (E1 : Za) (E2 : Za) (v4 : Int)
def Zrb (E0 : Zl) (E1 : Za) (E2 : Za) (v4 : Int) : LT Zjm Za :=
.len Zx E0.Abilities<|.br (decide (v4 < (E0.Abilities.length : Int))) (.idx Zx E0.Abilities v4 fun x3=>.call (Zao1 x3) fun x5=>.dr [.lit]<|.apR Zx 640 E2.Abilities [x5] fun x8=>.g0 (.L0 E0 E1 (⟨E2.Name, E2.Cost, E2.Colors, E2.Line, E2.Power, E2.Tough, E2.Keys, x8, E2.Control⟩ : Za) (IntKind.wrap .i64 (v4 + 1))))<|.ret E2 [.relab 40000211 5011, .relab 40000215 5015]
def Z65 (a0 : Zl) : LT Zjm Za :=
.lb 1001<|.lb 1002<|.call (Zar3 a0.Cost) fun x1=>.lb 1003<|.lb 1024<|.apR cS 16 ([] : (List (List UInt8))) a0.Line.Subs fun x3=>.go (.L0 a0 (⟨([] : List UInt8), (⟨0, 0, (⟨0, 0, 0, 0, 0⟩ : (A5 Int))⟩ : Zp), 0, (⟨0, 0, ([] : (List (List UInt8)))⟩ : Zu), 0, 0, 0, ([] : (List Zk)), 0⟩ : Za) (⟨a0.Name, a0.Cost, Zbc .or .i64 x1 a0.Color, (⟨a0.Line.Super, a0.Line.Types, x3⟩ : Zu), a0.Power, a0.Tough, a0.Keys, ([] : (List Zk)), 0⟩ : Za) 0) [.relab 1001 30000000, .relab 1002 30000001, .relab 1003 30000002, .ownb 30000001 11 40000111 1, .ownb 30000001 15 40000115 72, .relab 1024 40000211, .ownb 30000002 15 40000215 72]
def Z66 : LF Zjm Za := ⟨98, [.c 2 81 true 17], true, fun | .L0 .. => [1,1,1,0,1,4],
 fun | .L0 E0 E1 E2 v4 => ⟨50, [(1, (.bptr 30000000 0)), (2, (.bptr 30000001 0)), (3, (.bptr 30000002 0)), (4, (wI v4))], [(30000000, .box (bx (Z4 E0))), (30000001, .box [(wS E1.Name), (wI E1.Cost.Generic), (wI E1.Cost.X), (wI E1.Cost.Color.a0), (wI E1.Cost.Color.a1), (wI E1.Cost.Color.a2), (wI E1.Cost.Color.a3), (wI E1.Cost.Color.a4), (wI E1.Colors), (wI E1.Line.Super), (wI E1.Line.Types), (wO cS 40000111 E1.Line.Subs), (wI E1.Power), (wI E1.Tough), (wI E1.Keys), (wO Zx 40000115 E1.Abilities), (wI E1.Control)]), (40000111, wR cS 1 E1.Line.Subs), (40000115, wR Zx 72 E1.Abilities), (30000002, .box [(wS E2.Name), (wI E2.Cost.Generic), (wI E2.Cost.X), (wI E2.Cost.Color.a0), (wI E2.Cost.Color.a1), (wI E2.Cost.Color.a2), (wI E2.Cost.Color.a3), (wI E2.Cost.Color.a4), (wI E2.Colors), (wI E2.Line.Super), (wI E2.Line.Types), (wO cS 40000211 E2.Line.Subs), (wI E2.Power), (wI E2.Tough), (wI E2.Keys), (wO Zx 40000215 E2.Abilities), (wI E2.Control)]), (40000211, wR cS 1 E2.Line.Subs), (40000215, wR Zx 72 E2.Abilities)]⟩,
 fun r => [(5011, wR cS 1 r.Line.Subs), (5015, wR Zx 72 r.Abilities)], fun r => (.agg [(wS r.Name), (wI r.Cost.Generic), (wI r.Cost.X), (wI r.Cost.Color.a0), (wI r.Cost.Color.a1), (wI r.Cost.Color.a2), (wI r.Cost.Color.a3), (wI r.Cost.Color.a4), (wI r.Colors), (wI r.Line.Super), (wI r.Line.Types), (wO cS 5011 r.Line.Subs), (wI r.Power), (wI r.Tough), (wI r.Keys), (wO Zx 5015 r.Abilities), (wI r.Control)]), fun | .L0 E0 E1 E2 v4 => Zrb E0 E1 E2 v4⟩
def Z1r (a0 : Zl) : Option Za := Z66.run (Z65 a0)
theorem Zal0 (a0 : Zl) {r : Za} (h : Z1r a0 = some r) : FnG PR 98 [] [(wA (Z4 a0))] [(5011, wR cS 1 r.Line.Subs), (5015, wR Zx 72 r.Abilities)] (.agg [(wS r.Name), (wI r.Cost.Generic), (wI r.Cost.X), (wI r.Cost.Color.a0), (wI r.Cost.Color.a1), (wI r.Cost.Color.a2), (wI r.Cost.Color.a3), (wI r.Cost.Color.a4), (wI r.Colors), (wI r.Line.Super), (wI r.Line.Types), (wO cS 5011 r.Line.Subs), (wI r.Power), (wI r.Tough), (wI r.Keys), (wO Zx 5015 r.Abilities), (wI r.Control)]) := Z66.fn h
inductive Zrc where
 | L0 (v0 : (List Zl)) (E0 : Zf) (E1 : Za) (v5 : Int)
 | L1 (E0 : Zf) (E1 : Za) (E2 : Za)
def Zop (E0 : Zf) (E1 : Za) (E2 : Za) : LT Zrc Za :=
.cs (E0.Zone == 0) (.k4 0<|.kn [0]<|.ret (⟨E2.Name, E2.Cost, E2.Colors, E2.Line, E2.Power, E2.Tough, E2.Keys, E2.Abilities, E0.Control⟩ : Za) [.relab 40000211 5011, .relab 40000215 5015])<|.k4 0<|.br (E0.Zone == 5) (.ret (⟨E2.Name, E2.Cost, E2.Colors, E2.Line, E2.Power, E2.Tough, E2.Keys, E2.Abilities, E0.Control⟩ : Za) [.relab 40000211 5011, .relab 40000215 5015])<|.ret (⟨E2.Name, E2.Cost, E2.Colors, E2.Line, E2.Power, E2.Tough, E2.Keys, E2.Abilities, E0.Owner⟩ : Za) [.relab 40000211 5011, .relab 40000215 5015]
def Ztp (v0 : (List Zl)) (E0 : Zf) (E1 : Za) (v5 : Int) : LT Zrc Za :=
.lb 1006<|.cs (decide (v5 ≥ 0)) (.k3 0<|.len Z4 v0<|.k2 0<|.br (decide (v5 < (v0.length : Int))) (.idx Z4 v0 v5 fun x4=>.callF (Zal0 x4) 260000 fun x6=>.jn 0 (.L1 E0 E1 x6) [.relab 1006 30000002, .relab 265011 40000211, .relab 265015 40000215] (Zop E0 E1 x6))<|.jn 0 (.L1 E0 E1 (⟨([] : List UInt8), (⟨0, 0, (⟨0, 0, 0, 0, 0⟩ : (A5 Int))⟩ : Zp), 0, (⟨0, 0, ([] : (List (List UInt8)))⟩ : Zu), 0, 0, 0, ([] : (List Zk)), 0⟩ : Za)) [.relab 1006 30000002, .ownb 30000002 11 40000211 1, .ownb 30000002 15 40000215 72] (Zop E0 E1 (⟨([] : List UInt8), (⟨0, 0, (⟨0, 0, 0, 0, 0⟩ : (A5 Int))⟩ : Zp), 0, (⟨0, 0, ([] : (List (List UInt8)))⟩ : Zu), 0, 0, 0, ([] : (List Zk)), 0⟩ : Za)))<|.k5 0<|.kn [0]<|.jn 0 (.L1 E0 E1 (⟨([] : List UInt8), (⟨0, 0, (⟨0, 0, 0, 0, 0⟩ : (A5 Int))⟩ : Zp), 0, (⟨0, 0, ([] : (List (List UInt8)))⟩ : Zu), 0, 0, 0, ([] : (List Zk)), 0⟩ : Za)) [.relab 1006 30000002, .ownb 30000002 11 40000211 1, .ownb 30000002 15 40000215 72] (Zop E0 E1 (⟨([] : List UInt8), (⟨0, 0, (⟨0, 0, 0, 0, 0⟩ : (A5 Int))⟩ : Zp), 0, (⟨0, 0, ([] : (List (List UInt8)))⟩ : Zu), 0, 0, 0, ([] : (List Zk)), 0⟩ : Za))
def Zawt (a0 : (List Zl)) (a1 : Zf) : LT Zrc Za :=
.lb 1003<|.lb 1004<|.br (decide (a1.Copy < 0)) (.jn 0 (.L0 a0 a1 (⟨([] : List UInt8), (⟨0, 0, (⟨0, 0, 0, 0, 0⟩ : (A5 Int))⟩ : Zp), 0, (⟨0, 0, ([] : (List (List UInt8)))⟩ : Zu), 0, 0, 0, ([] : (List Zk)), 0⟩ : Za) a1.Card) [.relab 1003 30000000, .relab 1004 30000001, .ownb 30000001 11 40000111 1, .ownb 30000001 15 40000115 72] (Ztp a0 a1 (⟨([] : List UInt8), (⟨0, 0, (⟨0, 0, 0, 0, 0⟩ : (A5 Int))⟩ : Zp), 0, (⟨0, 0, ([] : (List (List UInt8)))⟩ : Zu), 0, 0, 0, ([] : (List Zk)), 0⟩ : Za) a1.Card))<|.jn 0 (.L0 a0 a1 (⟨([] : List UInt8), (⟨0, 0, (⟨0, 0, 0, 0, 0⟩ : (A5 Int))⟩ : Zp), 0, (⟨0, 0, ([] : (List (List UInt8)))⟩ : Zu), 0, 0, 0, ([] : (List Zk)), 0⟩ : Za) a1.Copy) [.relab 1003 30000000, .relab 1004 30000001, .ownb 30000001 11 40000111 1, .ownb 30000001 15 40000115 72] (Ztp a0 a1 (⟨([] : List UInt8), (⟨0, 0, (⟨0, 0, 0, 0, 0⟩ : (A5 Int))⟩ : Zp), 0, (⟨0, 0, ([] : (List (List UInt8)))⟩ : Zu), 0, 0, 0, ([] : (List Zk)), 0⟩ : Za) a1.Copy)
def Zawu : LF Zrc Za := ⟨62, [.c 4 81 true 17], true, fun | .L0 .. => [1,1,1] | .L1 .. => [1,1,1,1,1],
 fun | .L0 v0 E0 E1 v5 => ⟨41, [(0, (wL Z4 v0)), (3, (.bptr 30000000 0)), (4, (.bptr 30000001 0)), (5, (wI v5))], [(30000000, .box (bx (Zh E0))), (30000001, .box [(wS E1.Name), (wI E1.Cost.Generic), (wI E1.Cost.X), (wI E1.Cost.Color.a0), (wI E1.Cost.Color.a1), (wI E1.Cost.Color.a2), (wI E1.Cost.Color.a3), (wI E1.Cost.Color.a4), (wI E1.Colors), (wI E1.Line.Super), (wI E1.Line.Types), (wO cS 40000111 E1.Line.Subs), (wI E1.Power), (wI E1.Tough), (wI E1.Keys), (wO Zx 40000115 E1.Abilities), (wI E1.Control)]), (40000111, wR cS 1 E1.Line.Subs), (40000115, wR Zx 72 E1.Abilities)]⟩ | .L1 E0 E1 E2 => ⟨41, [(3, (.bptr 30000000 0)), (4, (.bptr 30000001 0)), (6, (.bptr 30000002 0))], [(30000000, .box (bx (Zh E0))), (30000001, .box [(wS E1.Name), (wI E1.Cost.Generic), (wI E1.Cost.X), (wI E1.Cost.Color.a0), (wI E1.Cost.Color.a1), (wI E1.Cost.Color.a2), (wI E1.Cost.Color.a3), (wI E1.Cost.Color.a4), (wI E1.Colors), (wI E1.Line.Super), (wI E1.Line.Types), (wO cS 40000111 E1.Line.Subs), (wI E1.Power), (wI E1.Tough), (wI E1.Keys), (wO Zx 40000115 E1.Abilities), (wI E1.Control)]), (40000111, wR cS 1 E1.Line.Subs), (40000115, wR Zx 72 E1.Abilities), (30000002, .box [(wS E2.Name), (wI E2.Cost.Generic), (wI E2.Cost.X), (wI E2.Cost.Color.a0), (wI E2.Cost.Color.a1), (wI E2.Cost.Color.a2), (wI E2.Cost.Color.a3), (wI E2.Cost.Color.a4), (wI E2.Colors), (wI E2.Line.Super), (wI E2.Line.Types), (wO cS 40000211 E2.Line.Subs), (wI E2.Power), (wI E2.Tough), (wI E2.Keys), (wO Zx 40000215 E2.Abilities), (wI E2.Control)]), (40000211, wR cS 1 E2.Line.Subs), (40000215, wR Zx 72 E2.Abilities)]⟩,
 fun r => [(5011, wR cS 1 r.Line.Subs), (5015, wR Zx 72 r.Abilities)], fun r => (.agg [(wS r.Name), (wI r.Cost.Generic), (wI r.Cost.X), (wI r.Cost.Color.a0), (wI r.Cost.Color.a1), (wI r.Cost.Color.a2), (wI r.Cost.Color.a3), (wI r.Cost.Color.a4), (wI r.Colors), (wI r.Line.Super), (wI r.Line.Types), (wO cS 5011 r.Line.Subs), (wI r.Power), (wI r.Tough), (wI r.Keys), (wO Zx 5015 r.Abilities), (wI r.Control)]), fun | .L0 v0 E0 E1 v5 => Ztp v0 E0 E1 v5 | .L1 E0 E1 E2 => Zop E0 E1 E2⟩
def Zal1 (a0 : (List Zl)) (a1 : Zf) : Option Za := Zawu.run (Zawt a0 a1)
theorem Za1r (a0 : (List Zl)) (a1 : Zf) {r : Za} (h : Zal1 a0 a1 = some r) : FnG PR 62 [] [(wL Z4 a0), (wA (Zh a1))] [(5011, wR cS 1 r.Line.Subs), (5015, wR Zx 72 r.Abilities)] (.agg [(wS r.Name), (wI r.Cost.Generic), (wI r.Cost.X), (wI r.Cost.Color.a0), (wI r.Cost.Color.a1), (wI r.Cost.Color.a2), (wI r.Cost.Color.a3), (wI r.Cost.Color.a4), (wI r.Colors), (wI r.Line.Super), (wI r.Line.Types), (wO cS 5011 r.Line.Subs), (wI r.Power), (wI r.Tough), (wI r.Keys), (wO Zx 5015 r.Abilities), (wI r.Control)]) := Zawu.fn h
theorem Zaq2 (a0 : (List Zl)) (a1 : Zf) {r : Za} (h : Zal1 a0 a1 = some r) : Fn PR 62 [(wL Z4 a0), (wA (Zh a1))] (wA (Zi r)) :=
 FnG.frozen (C := LT.RL cS r.Line.Subs ∧ LT.RL Zx r.Abilities ∧ True) (Za1r a0 a1 h) ⟨rfl, rfl, trivial⟩ (by kernel_rfl)
inductive Zg9 where
 | L0 (v0 : (List Zl)) (E0 : Zb) (v5 : (List Zm)) (v6 : Int)
 | L1 (v0 : (List Zl)) (E0 : Zb) (v5 : (List Zm)) (v6 : Int) (E1 : Zf) (E2 : Za) (v9 : Int)
 | L2 (E0 : Zb) (v5 : (List Zm)) (v11 : Int)
def Zuf (v0 : (List Zl)) (E0 : Zb) (v5 : (List Zm)) (v6 : Int) : LT Zg9 (List Zm) :=
.len Zh E0.Objects<|.br (decide (v6 < (E0.Objects.length : Int))) (.idx Zh E0.Objects v6 fun x3=>.lb 1007<|.br (x3.Zone != 0) (.g0 (.L0 v0 E0 v5 (IntKind.wrap .i64 (v6 + 1))))<|.call (Zaq2 v0 x3) fun x8=>.lb 1008<|.go (.L1 v0 E0 v5 v6 x3 x8 0) [.relab 1007 30000001, .relab 1008 30000002])<|.g0 (.L2 E0 v5 0)
def Zug (v0 : (List Zl)) (E0 : Zb) (v5 : (List Zm)) (v6 : Int) (E1 : Zf) (E2 : Za) (v9 : Int) : LT Zg9 (List Zm) :=
.len Zx E2.Abilities<|.br (decide (v9 < (E2.Abilities.length : Int))) (.idx Zx E2.Abilities v9 fun x3=>.lb 1010<|.br (x3.Kind == 1) (.dr [.lit]<|.apR Zj 224 v5 [(⟨E1.Id, v9, E1.Control, E1.Stamp, false, ([] : (List Int)), x3.Filter, x3.Mods⟩ : Zm)] fun x7=>.g0 (.L1 v0 E0 x7 v6 E1 E2 (IntKind.wrap .i64 (v9 + 1))))<|.g0 (.L1 v0 E0 v5 v6 E1 E2 (IntKind.wrap .i64 (v9 + 1))))<|.g0 (.L0 v0 E0 v5 (IntKind.wrap .i64 (v6 + 1)))
def Zuh (E0 : Zb) (v5 : (List Zm)) (v11 : Int) : LT Zg9 (List Zm) :=
.len Zaq E0.Conts<|.br (decide (v11 < (E0.Conts.length : Int))) (.idx Zaq E0.Conts v11 fun x3=>.lb 1012<|.dr [.lit]<|.apR Zj 224 v5 [(⟨x3.Source, (-1), x3.Control, x3.Stamp, true, x3.Objects, (⟨0, 0, 0, 0, 0, 0, 0, ([] : List UInt8), 0, 0, (⟨0, 0⟩ : Zd), (⟨0, 0⟩ : Zd), (⟨0, 0⟩ : Zd)⟩ : Ze), x3.Mods⟩ : Zm)] fun x6=>.g0 (.L2 E0 x6 (IntKind.wrap .i64 (v11 + 1))))<|.ret v5 [.relab 20000005 5000]
def Zaak (a0 : (List Zl)) (a1 : Zb) : LT Zg9 (List Zm) :=
.lb 1003<|.lb 1013<|.go (.L0 a0 a1 ([] : (List Zm)) 0) [.relab 1003 30000000, .relab 1013 20000005]
def Zaal : LF Zg9 (List Zm) := ⟨61, [.t 4], true, fun | .L0 .. => [1,1,0,1,4] | .L1 .. => [1,1,0,1,4,5,1,0,4,1,1,1,1,4] | .L2 .. => [1,1,1,0,1,4],
 fun | .L0 v0 E0 v5 v6 => ⟨89, [(0, (wL Z4 v0)), (3, (.bptr 30000000 0)), (5, (wO Zj 20000005 v5)), (6, (wI v6))], [(30000000, .box (bx (Zo E0))), (20000005, wR Zj 23 v5)]⟩ | .L1 v0 E0 v5 v6 E1 E2 v9 => ⟨89, [(0, (wL Z4 v0)), (3, (.bptr 30000000 0)), (5, (wO Zj 20000005 v5)), (6, (wI v6)), (7, (.bptr 30000001 0)), (8, (.bptr 30000002 0)), (9, (wI v9))], [(30000000, .box (bx (Zo E0))), (20000005, wR Zj 23 v5), (30000001, .box (bx (Zh E1))), (30000002, .box (bx (Zi E2)))]⟩ | .L2 E0 v5 v11 => ⟨89, [(3, (.bptr 30000000 0)), (5, (wO Zj 20000005 v5)), (11, (wI v11))], [(30000000, .box (bx (Zo E0))), (20000005, wR Zj 23 v5)]⟩,
 fun r => [(5000, wR Zj 23 r)], fun r => (wO Zj 5000 r), fun | .L0 v0 E0 v5 v6 => Zuf v0 E0 v5 v6 | .L1 v0 E0 v5 v6 E1 E2 v9 => Zug v0 E0 v5 v6 E1 E2 v9 | .L2 E0 v5 v11 => Zuh E0 v5 v11⟩
def Zvv (a0 : (List Zl)) (a1 : Zb) : Option (List Zm) := Zaal.run (Zaak a0 a1)
theorem Zao2 (a0 : (List Zl)) (a1 : Zb) {r : (List Zm)} (h : Zvv a0 a1 = some r) : FnG PR 61 [] [(wL Z4 a0), (wA (Zo a1))] [(5000, wR Zj 23 r)] (wO Zj 5000 r) := Zaal.fn h
theorem Zar4 (a0 : (List Zl)) (a1 : Zb) {r : (List Zm)} (h : Zvv a0 a1 = some r) : Fn PR 61 [(wL Z4 a0), (wA (Zo a1))] (wL Zj r) :=
 FnG.frozen (C := LT.RL Zj r ∧ True) (Zao2 a0 a1 h) ⟨rfl, trivial⟩ (by kernel_rfl)
inductive Zmt where
 | L0 (v0 : (List Zl)) (E0 : Zb) (E1 : Zc) (E2 : Zc) (v6 : Int)
def Zxw (v0 : (List Zl)) (E0 : Zb) (E1 : Zc) (E2 : Zc) (v6 : Int) : LT Zmt Zc :=
.len Zh E0.Objects<|.br (decide (v6 < (E0.Objects.length : Int))) (.idx Zh E0.Objects v6 fun x3=>.call (Zaq2 v0 x3) fun x5=>.dr [.lit]<|.apR Zi 176 E2.All [x5] fun x8=>.g0 (.L0 v0 E0 E1 (⟨E2.S, x8, E2.L, E2.Begun, E2.Sets, E2.Blank⟩ : Zc) (IntKind.wrap .i64 (v6 + 1))))<|.len Zj E2.L<|.mk cB 1034 1 false (E2.L.length : Int) (E2.L.length : Int) fun x14=>.len Zj E2.L<|.mk (cL (cI .i64)) 1039 24 [] (E2.L.length : Int) (E2.L.length : Int) fun x16=>.len Zh E0.Objects<|.mk cB 1044 1 false (E0.Objects.length : Int) (E0.Objects.length : Int) fun x18=>.ret (⟨E2.S, E2.All, E2.L, x14, x16, x18⟩ : Zc) [.relab 40000219 5019, .relab 1034 5021, .relab 1039 5022, .relab 1044 5023]
def Zae0 (a0 : (List Zl)) (a1 : Zb) : LT Zmt Zc :=
.lb 1003<|.lb 1004<|.call (Zar4 a0 a1) fun x1=>.lb 1005<|.go (.L0 a0 a1 (⟨(⟨([] : (List Za1)), ([] : (List Zf)), ([] : (List Int)), ([] : (List Int)), ([] : (List Zeg)), ([] : (List Zd8)), ([] : (List Zgz)), 0, 0, 0, false, 0, 0, 0, 0, 0, ([] : (List Int)), 0, 0⟩ : Zb), ([] : (List Za)), ([] : (List Zm)), ([] : (List Bool)), ([] : (List (List Int))), ([] : (List Bool))⟩ : Zc) (⟨a1, ([] : (List Za)), x1, ([] : (List Bool)), ([] : (List (List Int))), ([] : (List Bool))⟩ : Zc) 0) [.relab 1003 30000000, .relab 1004 30000001, .relab 1005 30000002, .ownb 30000001 0 40000100 14, .ownb 30000001 1 40000101 19, .ownb 30000001 2 40000102 1, .ownb 30000001 3 40000103 1, .ownb 30000001 4 40000104 94, .ownb 30000001 5 40000105 89, .ownb 30000001 6 40000106 6, .ownb 30000001 16 40000116 1, .ownb 30000001 19 40000119 17, .ownb 30000001 20 40000120 23, .ownb 30000001 21 40000121 1, .ownb 30000001 22 40000122 1, .ownb 30000001 23 40000123 1, .ownb 30000002 19 40000219 17, .ownb 30000002 21 40000221 1, .ownb 30000002 22 40000222 1, .ownb 30000002 23 40000223 1]
def Zae1 : LF Zmt Zc := ⟨27, [.c 4 88 true 24], true, fun | .L0 .. => [1,1,0,1,4],
 fun | .L0 v0 E0 E1 E2 v6 => ⟨47, [(0, (wL Z4 v0)), (3, (.bptr 30000000 0)), (4, (.bptr 30000001 0)), (5, (.bptr 30000002 0)), (6, (wI v6))], [(30000000, .box (bx (Zo E0))), (30000001, .box [(wO Z2 40000100 E1.S.Players), (wO Zh 40000101 E1.S.Objects), (wO (cI .i64) 40000102 E1.S.Battlefield), (wO (cI .i64) 40000103 E1.S.Exile), (wO Zal 40000104 E1.S.Stack), (wO Zae 40000105 E1.S.Waiting), (wO Zaq 40000106 E1.S.Conts), (wI E1.S.Turn), (wI E1.S.Active), (wI E1.S.Step), (wB E1.S.Begun), (wI E1.S.Priority), (wI E1.S.Passes), (wI E1.S.NextId), (wI E1.S.NextStamp), (.t (.int .u64 E1.S.Seed)), (wO (cI .i64) 40000116 E1.S.Extra), (wI E1.S.Over), (wI E1.S.Winner), (wO Zi 40000119 E1.All), (wO Zj 40000120 E1.L), (wO cB 40000121 E1.Begun), (wO (cL (cI .i64)) 40000122 E1.Sets), (wO cB 40000123 E1.Blank)]), (40000100, wR Z2 14 E1.S.Players), (40000101, wR Zh 19 E1.S.Objects), (40000102, wR (cI .i64) 1 E1.S.Battlefield), (40000103, wR (cI .i64) 1 E1.S.Exile), (40000104, wR Zal 94 E1.S.Stack), (40000105, wR Zae 89 E1.S.Waiting), (40000106, wR Zaq 6 E1.S.Conts), (40000116, wR (cI .i64) 1 E1.S.Extra), (40000119, wR Zi 17 E1.All), (40000120, wR Zj 23 E1.L), (40000121, wR cB 1 E1.Begun), (40000122, wR (cL (cI .i64)) 1 E1.Sets), (40000123, wR cB 1 E1.Blank), (30000002, .box [(wL Z2 E2.S.Players), (wL Zh E2.S.Objects), (wL (cI .i64) E2.S.Battlefield), (wL (cI .i64) E2.S.Exile), (wL Zal E2.S.Stack), (wL Zae E2.S.Waiting), (wL Zaq E2.S.Conts), (wI E2.S.Turn), (wI E2.S.Active), (wI E2.S.Step), (wB E2.S.Begun), (wI E2.S.Priority), (wI E2.S.Passes), (wI E2.S.NextId), (wI E2.S.NextStamp), (.t (.int .u64 E2.S.Seed)), (wL (cI .i64) E2.S.Extra), (wI E2.S.Over), (wI E2.S.Winner), (wO Zi 40000219 E2.All), (wL Zj E2.L), (wO cB 40000221 E2.Begun), (wO (cL (cI .i64)) 40000222 E2.Sets), (wO cB 40000223 E2.Blank)]), (40000219, wR Zi 17 E2.All), (40000221, wR cB 1 E2.Begun), (40000222, wR (cL (cI .i64)) 1 E2.Sets), (40000223, wR cB 1 E2.Blank)]⟩,
 fun r => [(5019, wR Zi 17 r.All), (5021, wR cB 1 r.Begun), (5022, wR (cL (cI .i64)) 1 r.Sets), (5023, wR cB 1 r.Blank)], fun r => (.agg [(wL Z2 r.S.Players), (wL Zh r.S.Objects), (wL (cI .i64) r.S.Battlefield), (wL (cI .i64) r.S.Exile), (wL Zal r.S.Stack), (wL Zae r.S.Waiting), (wL Zaq r.S.Conts), (wI r.S.Turn), (wI r.S.Active), (wI r.S.Step), (wB r.S.Begun), (wI r.S.Priority), (wI r.S.Passes), (wI r.S.NextId), (wI r.S.NextStamp), (.t (.int .u64 r.S.Seed)), (wL (cI .i64) r.S.Extra), (wI r.S.Over), (wI r.S.Winner), (wO Zi 5019 r.All), (wL Zj r.L), (wO cB 5021 r.Begun), (wO (cL (cI .i64)) 5022 r.Sets), (wO cB 5023 r.Blank)]), fun | .L0 v0 E0 E1 E2 v6 => Zxw v0 E0 E1 E2 v6⟩
def Zaam (a0 : (List Zl)) (a1 : Zb) : Option Zc := Zae1.run (Zae0 a0 a1)
theorem Zar5 (a0 : (List Zl)) (a1 : Zb) {r : Zc} (h : Zaam a0 a1 = some r) : FnG PR 27 [] [(wL Z4 a0), (wA (Zo a1))] [(5019, wR Zi 17 r.All), (5021, wR cB 1 r.Begun), (5022, wR (cL (cI .i64)) 1 r.Sets), (5023, wR cB 1 r.Blank)] (.agg [(wL Z2 r.S.Players), (wL Zh r.S.Objects), (wL (cI .i64) r.S.Battlefield), (wL (cI .i64) r.S.Exile), (wL Zal r.S.Stack), (wL Zae r.S.Waiting), (wL Zaq r.S.Conts), (wI r.S.Turn), (wI r.S.Active), (wI r.S.Step), (wB r.S.Begun), (wI r.S.Priority), (wI r.S.Passes), (wI r.S.NextId), (wI r.S.NextStamp), (.t (.int .u64 r.S.Seed)), (wL (cI .i64) r.S.Extra), (wI r.S.Over), (wI r.S.Winner), (wO Zi 5019 r.All), (wL Zj r.L), (wO cB 5021 r.Begun), (wO (cL (cI .i64)) 5022 r.Sets), (wO cB 5023 r.Blank)]) := Zae1.fn h
def Z1s (a0 : Int) : LT Empty Int :=
.br (decide (a0 > 1000000)) (.rt 1000000)<|.br (decide (a0 < (-1000000))) (.rt (-1000000))<|.rt a0
def Zae2 : LF Empty Int := .z 73 [.t 2] false (fun r => []) (fun r => (wI r))
def Ztq (a0 : Int) : Option Int := Zae2.run (Z1s a0)
theorem Zdi (a0 : Int) {r : Int} (h : Ztq a0 = some r) : Fn PR 73 [(wI a0)] (wI r) := Zae2.fn h
def Zaq3 (a0 : Int) (a1 : Int) : LT Empty Int :=
.call (Zdi a0) fun x1=>.call (Zdi a1) fun x3=>.call (Zdi (IntKind.wrap .i64 (x1 - x3))) fun x7=>.rt x7
def Zaq4 : LF Empty Int := .z 150 [.t 4] false (fun r => []) (fun r => (wI r))
def Zao3 (a0 : Int) (a1 : Int) : Option Int := Zaq4.run (Zaq3 a0 a1)
theorem Za1s (a0 : Int) (a1 : Int) {r : Int} (h : Zao3 a0 a1 = some r) : Fn PR 150 [(wI a0), (wI a1)] (wI r) := Zaq4.fn h
def Zae3 (a0 : (A3 Int)) : LT Empty Int :=
.lb 1001<|.idA (Zg.int .i64) (A3.list a0) 0 (bx ((cA3 (cI .i64)) a0)) 0 3 fun x1=>.ldC (Zg.int .i64) 4 x1 0<|.idA (Zg.int .i64) (A3.list a0) 1 (bx ((cA3 (cI .i64)) a0)) 0 3 fun x3=>.ldC (Zg.int .i64) 6 x3 1<|.call (Za1s x1 x3) fun x5=>.rt x5
def Zae4 : LF Empty Int := .z 99 [.t 2] false (fun r => []) (fun r => (wI r))
def Zaan (a0 : (A3 Int)) : Option Int := Zae4.run (Zae3 a0)
theorem Zawv (a0 : (A3 Int)) {r : Int} (h : Zaan a0 = some r) : Fn PR 99 [(wA ((cA3 (cI .i64)) a0))] (wI r) := Zae4.fn h
def Zaao (a0 : Int) (a1 : Int) : LT Empty Int :=
.call (Zdi a0) fun x1=>.call (Zdi a1) fun x3=>.call (Zdi (IntKind.wrap .i64 (x1 + x3))) fun x7=>.rt x7
def Zaq5 : LF Empty Int := .z 100 [.t 4] false (fun r => []) (fun r => (wI r))
def Z3t (a0 : Int) (a1 : Int) : Option Int := Zaq5.run (Zaao a0 a1)
theorem Zi5 (a0 : Int) (a1 : Int) {r : Int} (h : Z3t a0 a1 = some r) : Fn PR 100 [(wI a0), (wI a1)] (wI r) := Zaq5.fn h
inductive Zjn where
 | L0 (E0 : Zc) (E1 : Zc) (E2 : Zc) (v4 : Int)
def Zrd (E0 : Zc) (E1 : Zc) (E2 : Zc) (v4 : Int) : LT Zjn Zc :=
.len Zi E0.All<|.br (decide (v4 < (E0.All.length : Int))) (.idx Zi E0.All v4 fun x3=>.lb 1005<|.idx Zh E0.S.Objects v4 fun x5=>.lb 1006<|.cs (x5.Zone == 0) (.k4 1<|.dc ((1 : Int) ≠ 0) rfl<|.kg 1<|.dc ((2 : Int) ≠ 0) rfl<|.k2 1<|.br ((Int.tmod (Zko .i64 x3.Line.Types 1) 2) == 1) (.call (Zawv x5.Counters) fun x9=>.call (Zi5 x3.Power x9) fun x11=>.call (Zi5 x3.Tough x9) fun x13=>.dr [.lit]<|.apR Zi 176 E2.All [(⟨x3.Name, x3.Cost, x3.Colors, x3.Line, x11, x13, x3.Keys, x3.Abilities, x3.Control⟩ : Za)] fun x16=>.g0 (.L0 E0 E1 (⟨E2.S, x16, E2.L, E2.Begun, E2.Sets, E2.Blank⟩ : Zc) (IntKind.wrap .i64 (v4 + 1))))<|.dr [.lit]<|.apR Zi 176 E2.All [x3] fun x22=>.g0 (.L0 E0 E1 (⟨E2.S, x22, E2.L, E2.Begun, E2.Sets, E2.Blank⟩ : Zc) (IntKind.wrap .i64 (v4 + 1))))<|.k5 1<|.k2 1<|.kn [0]<|.dr [.lit]<|.apR Zi 176 E2.All [x3] fun x28=>.g0 (.L0 E0 E1 (⟨E2.S, x28, E2.L, E2.Begun, E2.Sets, E2.Blank⟩ : Zc) (IntKind.wrap .i64 (v4 + 1))))<|.ret E2 [.relab 40000219 5019]
def Z67 (a0 : Zc) : LT Zjn Zc :=
.lb 1001<|.lb 1002<|.lb 1003<|.go (.L0 a0 (⟨(⟨([] : (List Za1)), ([] : (List Zf)), ([] : (List Int)), ([] : (List Int)), ([] : (List Zeg)), ([] : (List Zd8)), ([] : (List Zgz)), 0, 0, 0, false, 0, 0, 0, 0, 0, ([] : (List Int)), 0, 0⟩ : Zb), ([] : (List Za)), ([] : (List Zm)), ([] : (List Bool)), ([] : (List (List Int))), ([] : (List Bool))⟩ : Zc) (⟨a0.S, ([] : (List Za)), a0.L, a0.Begun, a0.Sets, a0.Blank⟩ : Zc) 0) [.relab 1001 30000000, .relab 1002 30000001, .relab 1003 30000002, .ownb 30000001 0 40000100 14, .ownb 30000001 1 40000101 19, .ownb 30000001 2 40000102 1, .ownb 30000001 3 40000103 1, .ownb 30000001 4 40000104 94, .ownb 30000001 5 40000105 89, .ownb 30000001 6 40000106 6, .ownb 30000001 16 40000116 1, .ownb 30000001 19 40000119 17, .ownb 30000001 20 40000120 23, .ownb 30000001 21 40000121 1, .ownb 30000001 22 40000122 1, .ownb 30000001 23 40000123 1, .ownb 30000002 19 40000219 17]
def Z68 : LF Zjn Zc := ⟨63, [.c 2 88 true 24], true, fun | .L0 .. => [1,1,1,0,1,4],
 fun | .L0 E0 E1 E2 v4 => ⟨59, [(1, (.bptr 30000000 0)), (2, (.bptr 30000001 0)), (3, (.bptr 30000002 0)), (4, (wI v4))], [(30000000, .box (bx (Z5 E0))), (30000001, .box [(wO Z2 40000100 E1.S.Players), (wO Zh 40000101 E1.S.Objects), (wO (cI .i64) 40000102 E1.S.Battlefield), (wO (cI .i64) 40000103 E1.S.Exile), (wO Zal 40000104 E1.S.Stack), (wO Zae 40000105 E1.S.Waiting), (wO Zaq 40000106 E1.S.Conts), (wI E1.S.Turn), (wI E1.S.Active), (wI E1.S.Step), (wB E1.S.Begun), (wI E1.S.Priority), (wI E1.S.Passes), (wI E1.S.NextId), (wI E1.S.NextStamp), (.t (.int .u64 E1.S.Seed)), (wO (cI .i64) 40000116 E1.S.Extra), (wI E1.S.Over), (wI E1.S.Winner), (wO Zi 40000119 E1.All), (wO Zj 40000120 E1.L), (wO cB 40000121 E1.Begun), (wO (cL (cI .i64)) 40000122 E1.Sets), (wO cB 40000123 E1.Blank)]), (40000100, wR Z2 14 E1.S.Players), (40000101, wR Zh 19 E1.S.Objects), (40000102, wR (cI .i64) 1 E1.S.Battlefield), (40000103, wR (cI .i64) 1 E1.S.Exile), (40000104, wR Zal 94 E1.S.Stack), (40000105, wR Zae 89 E1.S.Waiting), (40000106, wR Zaq 6 E1.S.Conts), (40000116, wR (cI .i64) 1 E1.S.Extra), (40000119, wR Zi 17 E1.All), (40000120, wR Zj 23 E1.L), (40000121, wR cB 1 E1.Begun), (40000122, wR (cL (cI .i64)) 1 E1.Sets), (40000123, wR cB 1 E1.Blank), (30000002, .box [(wL Z2 E2.S.Players), (wL Zh E2.S.Objects), (wL (cI .i64) E2.S.Battlefield), (wL (cI .i64) E2.S.Exile), (wL Zal E2.S.Stack), (wL Zae E2.S.Waiting), (wL Zaq E2.S.Conts), (wI E2.S.Turn), (wI E2.S.Active), (wI E2.S.Step), (wB E2.S.Begun), (wI E2.S.Priority), (wI E2.S.Passes), (wI E2.S.NextId), (wI E2.S.NextStamp), (.t (.int .u64 E2.S.Seed)), (wL (cI .i64) E2.S.Extra), (wI E2.S.Over), (wI E2.S.Winner), (wO Zi 40000219 E2.All), (wL Zj E2.L), (wL cB E2.Begun), (wL (cL (cI .i64)) E2.Sets), (wL cB E2.Blank)]), (40000219, wR Zi 17 E2.All)]⟩,
 fun r => [(5019, wR Zi 17 r.All)], fun r => (.agg [(wL Z2 r.S.Players), (wL Zh r.S.Objects), (wL (cI .i64) r.S.Battlefield), (wL (cI .i64) r.S.Exile), (wL Zal r.S.Stack), (wL Zae r.S.Waiting), (wL Zaq r.S.Conts), (wI r.S.Turn), (wI r.S.Active), (wI r.S.Step), (wB r.S.Begun), (wI r.S.Priority), (wI r.S.Passes), (wI r.S.NextId), (wI r.S.NextStamp), (.t (.int .u64 r.S.Seed)), (wL (cI .i64) r.S.Extra), (wI r.S.Over), (wI r.S.Winner), (wO Zi 5019 r.All), (wL Zj r.L), (wL cB r.Begun), (wL (cL (cI .i64)) r.Sets), (wL cB r.Blank)]), fun | .L0 E0 E1 E2 v4 => Zrd E0 E1 E2 v4⟩
def Z1t (a0 : Zc) : Option Zc := Z68.run (Z67 a0)
theorem Zal2 (a0 : Zc) {r : Zc} (h : Z1t a0 = some r) : FnG PR 63 [] [(wA (Z5 a0))] [(5019, wR Zi 17 r.All)] (.agg [(wL Z2 r.S.Players), (wL Zh r.S.Objects), (wL (cI .i64) r.S.Battlefield), (wL (cI .i64) r.S.Exile), (wL Zal r.S.Stack), (wL Zae r.S.Waiting), (wL Zaq r.S.Conts), (wI r.S.Turn), (wI r.S.Active), (wI r.S.Step), (wB r.S.Begun), (wI r.S.Priority), (wI r.S.Passes), (wI r.S.NextId), (wI r.S.NextStamp), (.t (.int .u64 r.S.Seed)), (wL (cI .i64) r.S.Extra), (wI r.S.Over), (wI r.S.Winner), (wO Zi 5019 r.All), (wL Zj r.L), (wL cB r.Begun), (wL (cL (cI .i64)) r.Sets), (wL cB r.Blank)]) := Z68.fn h
inductive Zh0 where
 | L0 (v3 : Int) (v6 : Bool)
 | L1 (v3 : Int) (v11 : Bool)
 | L2 (v3 : Int) (v14 : Bool)
def Zii (v3 : Int) (v14 : Bool) : LT Zh0 Int :=
.br v14 (.rt 4)<|.br (v3 == 11) (.rt 5)<|.br (v3 == 12) (.rt 6)<|.br (v3 == 13) (.rt 7)<|.br (v3 == 14) (.rt 8)<|.rt 0
def Zk0 (v3 : Int) (v11 : Bool) : LT Zh0 Int :=
.br v11 (.rt 3)<|.br (v3 == 8) (.j0 (.L2 v3 (v3 == 8)) (Zii v3 (v3 == 8)))<|.br (v3 == 9) (.j0 (.L2 v3 (v3 == 9)) (Zii v3 (v3 == 9)))<|.j0 (.L2 v3 (v3 == 10)) (Zii v3 (v3 == 10))
def Zha (v3 : Int) (v6 : Bool) : LT Zh0 Int :=
.br v6 (.rt 2)<|.br (v3 == 6) (.j0 (.L1 v3 (v3 == 6)) (Zk0 v3 (v3 == 6)))<|.j0 (.L1 v3 (v3 == 7)) (Zk0 v3 (v3 == 7))
def Zae5 (a0 : Int) : LT Zh0 Int :=
.br (a0 == 1) (.rt 1)<|.br (a0 == 2) (.j0 (.L0 a0 (a0 == 2)) (Zha a0 (a0 == 2)))<|.br (a0 == 3) (.j0 (.L0 a0 (a0 == 3)) (Zha a0 (a0 == 3)))<|.br (a0 == 4) (.j0 (.L0 a0 (a0 == 4)) (Zha a0 (a0 == 4)))<|.j0 (.L0 a0 (a0 == 5)) (Zha a0 (a0 == 5))
def Zae6 : LF Zh0 Int := ⟨101, [.t 2], false, fun | .L0 .. => [1,0,1,4,1,3,1] | .L1 .. => [1,0,1,4,1,3,1,3,1] | .L2 .. => [1,0,1,4,1,3,1,3,1,3,1],
 fun | .L0 v3 v6 => ⟨26, [(3, (wI v3)), (6, (wB v6))], []⟩ | .L1 v3 v11 => ⟨26, [(3, (wI v3)), (11, (wB v11))], []⟩ | .L2 v3 v14 => ⟨26, [(3, (wI v3)), (14, (wB v14))], []⟩,
 fun r => [], fun r => (wI r), fun | .L0 v3 v6 => Zha v3 v6 | .L1 v3 v11 => Zk0 v3 v11 | .L2 v3 v14 => Zii v3 v14⟩
def Zb8 (a0 : Int) : Option Int := Zae6.run (Zae5 a0)
theorem Zpy (a0 : Int) {r : Int} (h : Zb8 a0 = some r) : Fn PR 101 [(wI a0)] (wI r) := Zae6.fn h
inductive Zjo where
 | L0 (v1 : Int) (E0 : Zm) (v5 : Int)
def Zre (v1 : Int) (E0 : Zm) (v5 : Int) : LT Zjo Bool :=
.len Z1 E0.Mods<|.br (decide (v5 < (E0.Mods.length : Int))) (.idx Z1 E0.Mods v5 fun x3=>.call (Zpy x3.Kind) fun x5=>.br (x5 == v1) (.rt true)<|.g0 (.L0 v1 E0 (IntKind.wrap .i64 (v5 + 1))))<|.rt false
def Z69 (a0 : Zm) (a1 : Int) : LT Zjo Bool :=
.lb 1002<|.go (.L0 a1 a0 0) [.relab 1002 30000000]
def Z7a : LF Zjo Bool := ⟨64, [.t 4], false, fun | .L0 .. => [1,0,1,4],
 fun | .L0 v1 E0 v5 => ⟨22, [(1, (wI v1)), (2, (.bptr 30000000 0)), (5, (wI v5))], [(30000000, .box (bx (Zj E0)))]⟩,
 fun r => [], fun r => (wB r), fun | .L0 v1 E0 v5 => Zre v1 E0 v5⟩
def Z1u (a0 : Zm) (a1 : Int) : Option Bool := Z7a.run (Z69 a0 a1)
theorem Zao4 (a0 : Zm) (a1 : Int) {r : Bool} (h : Z1u a0 a1 = some r) : Fn PR 64 [(wA (Zj a0)), (wI a1)] (wB r) := Z7a.fn h
inductive Zmu where
 | L0 (v1 : Int) (E0 : Zb) (v5 : Int)
def Zxx (v1 : Int) (E0 : Zb) (v5 : Int) : LT Zmu Int :=
.len Zh E0.Objects<|.br (decide (v5 < (E0.Objects.length : Int))) (.idx Zh E0.Objects v5 fun x3=>.br (x3.Id == v1) (.rt v5)<|.g0 (.L0 v1 E0 (IntKind.wrap .i64 (v5 + 1))))<|.rt (-1)
def Zae7 (a0 : Zb) (a1 : Int) : LT Zmu Int :=
.lb 1002<|.go (.L0 a1 a0 0) [.relab 1002 30000000]
def Zae8 : LF Zmu Int := ⟨153, [.t 4], false, fun | .L0 .. => [1,0,1,4],
 fun | .L0 v1 E0 v5 => ⟨22, [(1, (wI v1)), (2, (.bptr 30000000 0)), (5, (wI v5))], [(30000000, .box (bx (Zo E0)))]⟩,
 fun r => [], fun r => (wI r), fun | .L0 v1 E0 v5 => Zxx v1 E0 v5⟩
def Zaap (a0 : Zb) (a1 : Int) : Option Int := Zae8.run (Zae7 a0 a1)
theorem Zaaq (a0 : Zb) (a1 : Int) {r : Int} (h : Zaap a0 a1 = some r) : Fn PR 153 [(wA (Zo a0)), (wI a1)] (wI r) := Zae8.fn h
def Zaar (a0 : Zc) (a1 : Int) : LT Empty Bool :=
.lb 1002<|.idx Zj a0.L a1 fun x1=>.cs x1.Fixed (.k5 0<|.kg 0<|.kn [0]<|.rt true)<|.k4 0<|.idx cB a0.Begun a1 fun x4=>.k2 0<|.br x4 (.rt true)<|.ag Zj x1 0<|.call (Zaaq a0.S x1.Source) fun x7=>.cs (decide (x7 < 0)) (.k5 2<|.k2 2<|.rt true)<|.k4 2<|.idx cB a0.Blank x7 fun x10=>.k3 2<|.rt (!x10)
def Zaas : LF Empty Bool := .z 104 [.t 4] false (fun r => []) (fun r => (wB r))
def Z5f (a0 : Zc) (a1 : Int) : Option Bool := Zaas.run (Zaar a0 a1)
theorem Zm9 (a0 : Zc) (a1 : Int) {r : Bool} (h : Z5f a0 a1 = some r) : Fn PR 104 [(wA (Z5 a0)), (wI a1)] (wB r) := Zaas.fn h
inductive Zmv where
 | L0 (v0 : (List Int)) (v1 : Int) (v5 : Int)
def Zxy (v0 : (List Int)) (v1 : Int) (v5 : Int) : LT Zmv Int :=
.len (cI .i64) v0<|.br (decide (v5 < (v0.length : Int))) (.idx (cI .i64) v0 v5 fun x3=>.br (x3 == v1) (.rt v5)<|.g0 (.L0 v0 v1 (IntKind.wrap .i64 (v5 + 1))))<|.rt (-1)
def Zae9 (a0 : (List Int)) (a1 : Int) : LT Zmv Int :=
.g0 (.L0 a0 a1 0)
def Zafa : LF Zmv Int := ⟨52, [.t 4], false, fun | .L0 .. => [1,0,1,4],
 fun | .L0 v0 v1 v5 => ⟨19, [(0, (wL (cI .i64) v0)), (1, (wI v1)), (5, (wI v5))], []⟩,
 fun r => [], fun r => (wI r), fun | .L0 v0 v1 v5 => Zxy v0 v1 v5⟩
def Zaat (a0 : (List Int)) (a1 : Int) : Option Int := Zafa.run (Zae9 a0 a1)
theorem Zaww (a0 : (List Int)) (a1 : Int) {r : Int} (h : Zaat a0 a1 = some r) : Fn PR 52 [(wL (cI .i64) a0), (wI a1)] (wI r) := Zafa.fn h
def Zaq6 (a0 : (List Int)) (a1 : Int) : LT Empty Bool :=
.call (Zaww a0 a1) fun x1=>.rt (decide (x1 ≥ 0))
def Zaq7 : LF Empty Bool := .z 24 [.t 4] false (fun r => []) (fun r => (wB r))
def Zao5 (a0 : (List Int)) (a1 : Int) : Option Bool := Zaq7.run (Zaq6 a0 a1)
theorem Zal3 (a0 : (List Int)) (a1 : Int) {r : Bool} (h : Zao5 a0 a1 = some r) : Fn PR 24 [(wL (cI .i64) a0), (wI a1)] (wB r) := Zaq7.fn h
def Zaq8 (a0 : Zc) (a1 : Int) : LT Empty Int :=
.lb 1002<|.idx Zj a0.L a1 fun x1=>.call (Zaaq a0.S x1.Source) fun x3=>.ag Zj x1 0<|.cs x1.Fixed (.k3 0<|.kn [0]<|.ag Zj x1 0<|.rt x1.Control)<|.k3 0<|.br (decide (x3 < 0)) (.ag Zj x1 0<|.rt x1.Control)<|.idx Zi a0.All x3 fun x7=>.rt x7.Control
def Zaq9 : LF Empty Int := .z 107 [.t 4] false (fun r => []) (fun r => (wI r))
def Zao6 (a0 : Zc) (a1 : Int) : Option Int := Zaq9.run (Zaq8 a0 a1)
theorem Zvw (a0 : Zc) (a1 : Int) {r : Int} (h : Zao6 a0 a1 = some r) : Fn PR 107 [(wA (Z5 a0)), (wI a1)] (wI r) := Zaq9.fn h
def Zaau (a0 : Int) (a1 : Int) (a2 : Int) : LT Empty Bool :=
.br (a2 == 1) (.rt (a0 == a1))<|.cs (a2 != 2) (.k4 1<|.rt true)<|.k4 1<|.rt (a0 != a1)
def Zara : LF Empty Bool := .z 115 [.t 6] false (fun r => []) (fun r => (wB r))
def Z3u (a0 : Int) (a1 : Int) (a2 : Int) : Option Bool := Zara.run (Zaau a0 a1 a2)
theorem Za1t (a0 : Int) (a1 : Int) (a2 : Int) {r : Bool} (h : Z3u a0 a1 a2 = some r) : Fn PR 115 [(wI a0), (wI a1), (wI a2)] (wB r) := Zara.fn h
def Z5g (a0 : Int) (a1 : Int) (a2 : Int) : LT Empty Bool :=
.br (a2 == 1) (.rt (a0 == a1))<|.cs (a2 != 2) (.k4 1<|.rt true)<|.k4 1<|.rt (a0 != a1)
def Zal4 : LF Empty Bool := .z 116 [.t 6] false (fun r => []) (fun r => (wB r))
def Zxz (a0 : Int) (a1 : Int) (a2 : Int) : Option Bool := Zal4.run (Z5g a0 a1 a2)
theorem Zazb (a0 : Int) (a1 : Int) (a2 : Int) {r : Bool} (h : Zxz a0 a1 a2 = some r) : Fn PR 116 [(wI a0), (wI a1), (wI a2)] (wB r) := Zal4.fn h
def Zaav (a0 : Bool) (a1 : Int) : LT Empty Bool :=
.br (a1 == 1) (.rt a0)<|.cs (a1 != 2) (.k3 1<|.rt true)<|.k3 1<|.rt (!a0)
def Zarb : LF Empty Bool := .z 117 [.t 4] false (fun r => []) (fun r => (wB r))
def Z3v (a0 : Bool) (a1 : Int) : Option Bool := Zarb.run (Zaav a0 a1)
theorem Za1u (a0 : Bool) (a1 : Int) {r : Bool} (h : Z3v a0 a1 = some r) : Fn PR 117 [(wB a0), (wI a1)] (wB r) := Zarb.fn h
def Z7b (a0 : Int) (a1 : Int) : LT Empty Bool :=
.rt ((Zbc .and .i64 a0 a1) != 0)
def Z7c : LF Empty Bool := .z 118 [.t 4] false (fun r => []) (fun r => (wB r))
def Zmw (a0 : Int) (a1 : Int) : Option Bool := Z7c.run (Z7b a0 a1)
theorem Zfc (a0 : Int) (a1 : Int) {r : Bool} (h : Zmw a0 a1 = some r) : Fn PR 118 [(wI a0), (wI a1)] (wB r) := Z7c.fn h
def Zx0 (a0 : Zu) (a1 : (List UInt8)) : LT Empty Bool :=
.lb 1002<|.call (Zwk a0.Subs a1) fun x1=>.rt (decide (x1 ≥ 0))
def Zaaw : LF Empty Bool := .z 119 [.t 4] false (fun r => []) (fun r => (wB r))
def Zpz (a0 : Zu) (a1 : (List UInt8)) : Option Bool := Zaaw.run (Zx0 a0 a1)
theorem Z7d (a0 : Zu) (a1 : (List UInt8)) {r : Bool} (h : Zpz a0 a1 = some r) : Fn PR 119 [(wA (Zeb a0)), (wS a1)] (wB r) := Zaaw.fn h
def Zarc (a0 : Int) (a1 : Int) : LT Empty Bool :=
.rt ((Zbc .and .i64 a0 a1) == a1)
def Zard : LF Empty Bool := .z 120 [.t 4] false (fun r => []) (fun r => (wB r))
def Zacu (a0 : Int) (a1 : Int) : Option Bool := Zard.run (Zarc a0 a1)
theorem Zal5 (a0 : Int) (a1 : Int) {r : Bool} (h : Zacu a0 a1 = some r) : Fn PR 120 [(wI a0), (wI a1)] (wB r) := Zard.fn h
def Z1v (a0 : Zd) (a1 : Int) : LT Empty Bool :=
.lb 1002<|.br (a0.Kind == 0) (.rt true)<|.br (a0.Kind == 1) (.rt (decide (a1 ≥ a0.N)))<|.br (a0.Kind == 2) (.rt (decide (a1 ≤ a0.N)))<|.br (a0.Kind == 3) (.rt (a1 == a0.N))<|.rt false
def Zafb : LF Empty Bool := .z 159 [.t 4] false (fun r => []) (fun r => (wB r))
def Ztr (a0 : Zd) (a1 : Int) : Option Bool := Zafb.run (Z1v a0 a1)
theorem Zk1 (a0 : Zd) (a1 : Int) {r : Bool} (h : Ztr a0 a1 = some r) : Fn PR 159 [(wA (Zcq a0)), (wI a1)] (wB r) := Zafb.fn h
def Zaax (a0 : Int) (a1 : Int) : LT Empty Int :=
.call (Zdi a0) fun x1=>.call (Zdi a1) fun x3=>.call (Zdi (IntKind.wrap .i64 (x1 * x3))) fun x7=>.rt x7
def Zare : LF Empty Int := .z 33 [.t 4] false (fun r => []) (fun r => (wI r))
def Z3w (a0 : Int) (a1 : Int) : Option Int := Zare.run (Zaax a0 a1)
theorem Z5h (a0 : Int) (a1 : Int) {r : Int} (h : Z3w a0 a1 = some r) : Fn PR 33 [(wI a0), (wI a1)] (wI r) := Zare.fn h
inductive Zmx where
 | L0 (v1 : Int) (E0 : Zp) (v5 : Int) (v6 : Int)
def Zhb (v1 : Int) (E0 : Zp) (v5 : Int) (v6 : Int) : LT Zmx Int :=
.br (decide (v6 < 5)) (.idA (Zg.int .i64) (A5.list E0.Color) v6 (bx (Zas E0)) 2 7 fun x2=>.ldC (Zg.int .i64) 20 x2 0<|.call (Zi5 v5 x2) fun x4=>.g0 (.L0 v1 E0 x4 (IntKind.wrap .i64 (v6 + 1))))<|.br (decide (v1 < 0)) (.call (Z5h E0.X 0) fun x9=>.call (Zi5 v5 x9) fun x11=>.rt x11)<|.call (Z5h E0.X v1) fun x13=>.call (Zi5 v5 x13) fun x15=>.rt x15
def Z1w (a0 : Zp) (a1 : Int) : LT Zmx Int :=
.lb 1002<|.call (Zsv a0) fun x1=>.br (!x1) (.rt 0)<|.go (.L0 a1 a0 a0.Generic 0) [.relab 1002 30000000]
def Zsc : LF Zmx Int := ⟨160, [.t 4], false, fun | .L0 .. => [1,1,1,0,1,4],
 fun | .L0 v1 E0 v5 v6 => ⟨30, [(1, (wI v1)), (2, (.bptr 30000000 0)), (5, (wI v5)), (6, (wI v6))], [(30000000, .box (bx (Zas E0)))]⟩,
 fun r => [], fun r => (wI r), fun | .L0 v1 E0 v5 v6 => Zhb v1 E0 v5 v6⟩
def Zts (a0 : Zp) (a1 : Int) : Option Int := Zsc.run (Z1w a0 a1)
theorem Zx1 (a0 : Zp) (a1 : Int) {r : Int} (h : Zts a0 a1 = some r) : Fn PR 160 [(wA (Zas a0)), (wI a1)] (wI r) := Zsc.fn h
inductive Zk2 where
 | L0 (E0 : Za) (E1 : Ze) (v5 : Bool)
def Ze4 (E0 : Za) (E1 : Ze) (v5 : Bool) : LT Zk2 Bool :=
.cs (E1.Tough.Kind != 0) (.k2 0<|.cs v5 (.k5 1<|.call (Zk1 E1.Tough E0.Tough) fun x3=>.kg 0<|.kg 1<|.k2 0<|.br (!x3) (.rt false)<|.call (Zx1 E0.Cost 0) fun x6=>.call (Zk1 E1.Value x6) fun x8=>.rt x8)<|.k5 1<|.kg 0<|.kg 1<|.k2 0<|.br (!false) (.rt false)<|.call (Zx1 E0.Cost 0) fun x11=>.call (Zk1 E1.Value x11) fun x13=>.rt x13)<|.k5 0<|.kn [0]<|.call (Zx1 E0.Cost 0) fun x15=>.call (Zk1 E1.Value x15) fun x17=>.rt x17
def Zx2 (a0 : Za) (a1 : Ze) : LT Zk2 Bool :=
.lb 1002<|.lb 1003<|.call (Zfc a0.Line.Types 1) fun x1=>.cs (a1.Power.Kind != 0) (.k2 0<|.cs x1 (.k5 1<|.call (Zk1 a1.Power a0.Power) fun x5=>.kg 0<|.kg 1<|.k2 0<|.br (!x5) (.rt false)<|.jn 0 (.L0 a0 a1 x1) [.relab 1002 30000000, .relab 1003 30000001] (Ze4 a0 a1 x1))<|.k5 1<|.kg 0<|.kg 1<|.k2 0<|.br (!false) (.rt false)<|.jn 0 (.L0 a0 a1 x1) [.relab 1002 30000000, .relab 1003 30000001] (Ze4 a0 a1 x1))<|.k5 0<|.kn [0]<|.jn 0 (.L0 a0 a1 x1) [.relab 1002 30000000, .relab 1003 30000001] (Ze4 a0 a1 x1)
def Zx3 : LF Zk2 Bool := ⟨121, [.t 4], false, fun | .L0 .. => [1,1,1],
 fun | .L0 E0 E1 v5 => ⟨46, [(2, (.bptr 30000000 0)), (3, (.bptr 30000001 0)), (5, (wB v5))], [(30000000, .box (bx (Zi E0))), (30000001, .box (bx (Zn E1)))]⟩,
 fun r => [], fun r => (wB r), fun | .L0 E0 E1 v5 => Ze4 E0 E1 v5⟩
def Zp0 (a0 : Za) (a1 : Ze) : Option Bool := Zx3.run (Zx2 a0 a1)
theorem Z7e (a0 : Za) (a1 : Ze) {r : Bool} (h : Zp0 a0 a1 = some r) : Fn PR 121 [(wA (Zi a0)), (wA (Zn a1))] (wB r) := Zx3.fn h
inductive Zij where
 | L0 (E0 : Za) (E1 : Ze)
 | L1 (E0 : Za) (E1 : Ze)
def Zf6 (E0 : Za) (E1 : Ze) : LT Zij Bool :=
.cs (!(E1.Sub == ([] : List UInt8))) (.k5 0<|.call (Z7d E0.Line E1.Sub) fun x2=>.k2 0<|.cs (!x2) (.k5 1<|.k2 1<|.kn [0]<|.rt false)<|.k5 1<|.call (Zal5 E0.Keys E1.Keys) fun x5=>.k2 1<|.br (!x5) (.rt false)<|.call (Z7e E0 E1) fun x8=>.rt x8)<|.k5 0<|.k2 0<|.b5 false<|.call (Zal5 E0.Keys E1.Keys) fun x10=>.b2 false<|.br (!x10) (.rt false)<|.call (Z7e E0 E1) fun x13=>.rt x13
def Zf7 (E0 : Za) (E1 : Ze) : LT Zij Bool :=
.cs (E1.Colors != 0) (.k5 0<|.call (Zfc E0.Colors E1.Colors) fun x2=>.k2 0<|.cs (!x2) (.k5 1<|.kg 1<|.kn [0]<|.rt false)<|.k5 1<|.call (Zfc E0.Colors E1.NotColors) fun x5=>.kg 1<|.br x5 (.rt false)<|.j0 (.L1 E0 E1) (Zf6 E0 E1))<|.k5 0<|.k2 0<|.b5 false<|.call (Zfc E0.Colors E1.NotColors) fun x8=>.kb false<|.br x8 (.rt false)<|.j0 (.L1 E0 E1) (Zf6 E0 E1)
def Zx4 (a0 : Zf) (a1 : Za) (a2 : Int) (a3 : Int) (a4 : Ze) : LT Zij Bool :=
.lb 1005<|.lb 1006<|.lb 1009<|.call (Zel a4) fun x1=>.cs (!x1) (.k5 0<|.kg 0<|.b16 true<|.b5 true<|.b2 true<|.kn [0]<|.rt false)<|.k5 0<|.kg 0<|.cs (a0.Zone != a4.Zone) (.k8 1<|.b8 true<|.b5 true<|.b2 true<|.kn [0]<|.rt false)<|.k5 1<|.kg 1<|.call (Za1t a1.Control a2 a4.Who) fun x5=>.k2 1<|.cs (!x5) (.k8 2<|.b5 true<|.b2 true<|.kn [0]<|.rt false)<|.k5 2<|.kg 2<|.call (Zazb a0.Id a3 a4.Self) fun x8=>.k2 2<|.cs (!x8) (.k5 3<|.k2 3<|.kn [0]<|.rt false)<|.k5 3<|.call (Za1u a0.Tapped a4.Tap) fun x11=>.k2 3<|.br (!x11) (.rt false)<|.cs (a4.Types != 0) (.k5 5<|.kg 5<|.call (Zfc a1.Line.Types a4.Types) fun x15=>.k2 5<|.cs (!x15) (.k5 6<|.k2 6<|.kn [0]<|.rt false)<|.k5 6<|.kg 6<|.call (Zfc a1.Line.Types a4.NotTypes) fun x18=>.kg 6<|.br x18 (.rt false)<|.jn 0 (.L0 a1 a4) [.relab 1006 30000000, .relab 1009 30000001] (Zf7 a1 a4))<|.k8 5<|.b5 false<|.kb false<|.call (Zfc a1.Line.Types a4.NotTypes) fun x21=>.kb false<|.br x21 (.rt false)<|.jn 0 (.L0 a1 a4) [.relab 1006 30000000, .relab 1009 30000001] (Zf7 a1 a4)
def Zp1 : LF Zij Bool := ⟨74, [.t 10], false, fun | .L0 .. => [1,1,1] | .L1 .. => [1,1,1,1],
 fun | .L0 E0 E1 => ⟨107, [(6, (.bptr 30000000 0)), (9, (.bptr 30000001 0))], [(30000000, .box (bx (Zi E0))), (30000001, .box (bx (Zn E1)))]⟩ | .L1 E0 E1 => ⟨107, [(6, (.bptr 30000000 0)), (9, (.bptr 30000001 0))], [(30000000, .box (bx (Zi E0))), (30000001, .box (bx (Zn E1)))]⟩,
 fun r => [], fun r => (wB r), fun | .L0 E0 E1 => Zf7 E0 E1 | .L1 E0 E1 => Zf6 E0 E1⟩
def Zp2 (a0 : Zf) (a1 : Za) (a2 : Int) (a3 : Int) (a4 : Ze) : Option Bool := Zp1.run (Zx4 a0 a1 a2 a3 a4)
theorem Zui (a0 : Zf) (a1 : Za) (a2 : Int) (a3 : Int) (a4 : Ze) {r : Bool} (h : Zp2 a0 a1 a2 a3 a4 = some r) : Fn PR 74 [(wA (Zh a0)), (wA (Zi a1)), (wI a2), (wI a3), (wA (Zn a4))] (wB r) := Zp1.fn h
inductive Zjp where
 | L0 (v1 : Int) (E0 : Zc) (v5 : (List Int)) (E1 : Zm) (v7 : Int)
def Zrf (v1 : Int) (E0 : Zc) (v5 : (List Int)) (E1 : Zm) (v7 : Int) : LT Zjp (List Int) :=
.len Zh E0.S.Objects<|.br (decide (v7 < (E0.S.Objects.length : Int))) (.idx Zh E0.S.Objects v7 fun x3=>.lb 1008<|.br (x3.Zone != 0) (.g0 (.L0 v1 E0 v5 E1 (IntKind.wrap .i64 (v7 + 1))))<|.cs E1.Fixed (.k5 2<|.call (Zal3 E1.Objects x3.Id) fun x9=>.kg 2<|.cs x9 (.k5 3<|.kg 3<|.kn [0]<|.dr [.lit]<|.apR (cI .i64) 8 v5 [x3.Id] fun x13=>.g0 (.L0 v1 E0 x13 E1 (IntKind.wrap .i64 (v7 + 1))))<|.k4 3<|.cs (!E1.Fixed) (.k5 4<|.idx Zi E0.All v7 fun x19=>.k4 4<|.call (Zvw E0 v1) fun x21=>.k5 4<|.call (Zui x3 x19 x21 E1.Source E1.Filter) fun x23=>.kg 3<|.kg 4<|.kg 3<|.br x23 (.dr [.lit]<|.apR (cI .i64) 8 v5 [x3.Id] fun x27=>.g0 (.L0 v1 E0 x27 E1 (IntKind.wrap .i64 (v7 + 1))))<|.g0 (.L0 v1 E0 v5 E1 (IntKind.wrap .i64 (v7 + 1))))<|.k8 4<|.k5 4<|.kg 4<|.kg 3<|.kg 4<|.kg 3<|.kn [0]<|.g0 (.L0 v1 E0 v5 E1 (IntKind.wrap .i64 (v7 + 1))))<|.k5 2<|.kg 2<|.b4 false<|.cs (!E1.Fixed) (.k5 3<|.idx Zi E0.All v7 fun x37=>.k4 3<|.call (Zvw E0 v1) fun x39=>.k5 3<|.call (Zui x3 x37 x39 E1.Source E1.Filter) fun x41=>.kb false<|.kg 3<|.kb false<|.br x41 (.dr [.lit]<|.apR (cI .i64) 8 v5 [x3.Id] fun x45=>.g0 (.L0 v1 E0 x45 E1 (IntKind.wrap .i64 (v7 + 1))))<|.g0 (.L0 v1 E0 v5 E1 (IntKind.wrap .i64 (v7 + 1))))<|.k8 3<|.k5 3<|.kg 3<|.kb false<|.kg 3<|.kb false<|.kn [0]<|.g0 (.L0 v1 E0 v5 E1 (IntKind.wrap .i64 (v7 + 1))))<|.rl (cI .i64) v5<|.rt v5
def Z7f (a0 : Zc) (a1 : Int) : LT Zjp (List Int) :=
.lb 1002<|.idx cB a0.Begun a1 fun x1=>.br x1 (.idx (cL (cI .i64)) a0.Sets a1 fun x4=>.rt x4)<|.lb 1019<|.call (Zm9 a0 a1) fun x6=>.br (!x6) (.rl (cI .i64) ([] : (List Int))<|.rt ([] : (List Int)))<|.idx Zj a0.L a1 fun x9=>.lb 1006<|.go (.L0 a1 a0 ([] : (List Int)) x9 0) [.relab 1002 30000000, .relab 1006 30000001, .relab 1019 20000005]
def Z7g : LF Zjp (List Int) := ⟨105, [.t 4], false, fun | .L0 .. => [1,1,1,1,1,0,1,4],
 fun | .L0 v1 E0 v5 E1 v7 => ⟨83, [(1, (wI v1)), (2, (.bptr 30000000 0)), (5, (wO (cI .i64) 20000005 v5)), (6, (.bptr 30000001 0)), (7, (wI v7))], [(30000000, .box (bx (Z5 E0))), (20000005, wR (cI .i64) 1 v5), (30000001, .box (bx (Zj E1)))]⟩,
 fun r => [], fun r => (wL (cI .i64) r), fun | .L0 v1 E0 v5 E1 v7 => Zrf v1 E0 v5 E1 v7⟩
def Z1x (a0 : Zc) (a1 : Int) : Option (List Int) := Z7g.run (Z7f a0 a1)
theorem Zrg (a0 : Zc) (a1 : Int) {r : (List Int)} (h : Z1x a0 a1 = some r) : Fn PR 105 [(wA (Z5 a0)), (wI a1)] (wL (cI .i64) r) := Z7g.fn h
def Zawx (a0 : (List Za)) (a1 : Int) : LT Empty Za :=
.lb 1004<|.cs (decide (a1 < 0)) (.k5 0<|.kn [0]<|.rt (⟨([] : List UInt8), (⟨0, 0, (⟨0, 0, 0, 0, 0⟩ : (A5 Int))⟩ : Zp), 0, (⟨0, 0, ([] : (List (List UInt8)))⟩ : Zu), 0, 0, 0, ([] : (List Zk)), 0⟩ : Za))<|.k3 0<|.len Zi a0<|.k2 0<|.br (decide (a1 ≥ (a0.length : Int))) (.rt (⟨([] : List UInt8), (⟨0, 0, (⟨0, 0, 0, 0, 0⟩ : (A5 Int))⟩ : Zp), 0, (⟨0, 0, ([] : (List (List UInt8)))⟩ : Zu), 0, 0, 0, ([] : (List Zk)), 0⟩ : Za))<|.idx Zi a0 a1 fun x4=>.rt x4
def Zawy : LF Empty Za := .z 75 [.c 4 81 true 17] false (fun r => []) (fun r => (wA (Zi r)))
def Zawz (a0 : (List Za)) (a1 : Int) : Option Za := Zawy.run (Zawx a0 a1)
theorem Za4d (a0 : (List Za)) (a1 : Int) {r : Za} (h : Zawz a0 a1 = some r) : Fn PR 75 [(wL Zi a0), (wI a1)] (wA (Zi r)) := Zawy.fn h
inductive Z5i where
 | L0 (v1 : (List Za)) (v2 : Int) (v3 : Int) (E0 : Zb) (E1 : Ze) (v11 : (List Int)) (v12 : Int)
def Zmy (v1 : (List Za)) (v2 : Int) (v3 : Int) (E0 : Zb) (E1 : Ze) (v11 : (List Int)) (v12 : Int) : LT Z5i (List Int) :=
.len Zh E0.Objects<|.br (decide (v12 < (E0.Objects.length : Int))) (.idx Zh E0.Objects v12 fun x3=>.call (Za4d v1 v12) fun x5=>.call (Zui x3 x5 v2 v3 E1) fun x7=>.br x7 (.ag Zh x3 0<|.dr [.lit]<|.apR (cI .i64) 8 v11 [x3.Id] fun x11=>.g0 (.L0 v1 v2 v3 E0 E1 x11 (IntKind.wrap .i64 (v12 + 1))))<|.g0 (.L0 v1 v2 v3 E0 E1 v11 (IntKind.wrap .i64 (v12 + 1))))<|.ret v11 [.relab 20000011 5000]
def Zal6 (a0 : Zb) (a1 : (List Za)) (a2 : Int) (a3 : Int) (a4 : Ze) : LT Z5i (List Int) :=
.lb 1005<|.lb 1009<|.go (.L0 a1 a2 a3 a0 a4 ([] : (List Int)) 0) [.relab 1005 30000000, .relab 1009 30000001, .own 11 20000011 1]
def Z5j : LF Z5i (List Int) := ⟨34, [.t 10], true, fun | .L0 .. => [1,1,0,1,4],
 fun | .L0 v1 v2 v3 E0 E1 v11 v12 => ⟨42, [(1, (wL Zi v1)), (2, (wI v2)), (3, (wI v3)), (5, (.bptr 30000000 0)), (9, (.bptr 30000001 0)), (11, (wO (cI .i64) 20000011 v11)), (12, (wI v12))], [(30000000, .box (bx (Zo E0))), (30000001, .box (bx (Zn E1))), (20000011, wR (cI .i64) 1 v11)]⟩,
 fun r => [(5000, wR (cI .i64) 1 r)], fun r => (wO (cI .i64) 5000 r), fun | .L0 v1 v2 v3 E0 E1 v11 v12 => Zmy v1 v2 v3 E0 E1 v11 v12⟩
def Zx5 (a0 : Zb) (a1 : (List Za)) (a2 : Int) (a3 : Int) (a4 : Ze) : Option (List Int) := Z5j.run (Zal6 a0 a1 a2 a3 a4)
theorem Zaw0 (a0 : Zb) (a1 : (List Za)) (a2 : Int) (a3 : Int) (a4 : Ze) {r : (List Int)} (h : Zx5 a0 a1 a2 a3 a4 = some r) : FnG PR 34 [] [(wA (Zo a0)), (wL Zi a1), (wI a2), (wI a3), (wA (Zn a4))] [(5000, wR (cI .i64) 1 r)] (wO (cI .i64) 5000 r) := Z5j.fn h
theorem Z1y (a0 : Zb) (a1 : (List Za)) (a2 : Int) (a3 : Int) (a4 : Ze) {r : (List Int)} (h : Zx5 a0 a1 a2 a3 a4 = some r) : Fn PR 34 [(wA (Zo a0)), (wL Zi a1), (wI a2), (wI a3), (wA (Zn a4))] (wL (cI .i64) r) :=
 FnG.frozen (C := LT.RL (cI .i64) r ∧ True) (Zaw0 a0 a1 a2 a3 a4 h) ⟨rfl, trivial⟩ (by kernel_rfl)
inductive Zjq where
 | L0 (v1 : Int) (v2 : Int) (E0 : Zc) (v7 : (List Int)) (E1 : Zm) (v9 : Int)
def Zrh (v1 : Int) (v2 : Int) (E0 : Zc) (v7 : (List Int)) (E1 : Zm) (v9 : Int) : LT Zjq (List Int) :=
.len Z1 E1.Mods<|.br (decide (v9 < (E1.Mods.length : Int))) (.idx Z1 E1.Mods v9 fun x3=>.call (Zpy x3.Kind) fun x5=>.br (x5 != v2) (.g0 (.L0 v1 v2 E0 v7 E1 (IntKind.wrap .i64 (v9 + 1))))<|.ag Z1 x3 0<|.br (x3.Kind == 11) (.call (Zvw E0 v1) fun x11=>.ag Z1 x3 0<|.call (Z1y E0.S E0.All x11 E1.Source x3.Filter) fun x13=>.len (cI .i64) x13<|.dr [.lit]<|.apR (cI .i64) 8 v7 [(x13.length : Int)] fun x17=>.g0 (.L0 v1 v2 E0 x17 E1 (IntKind.wrap .i64 (v9 + 1))))<|.dr [.lit]<|.apR (cI .i64) 8 v7 [0] fun x23=>.g0 (.L0 v1 v2 E0 x23 E1 (IntKind.wrap .i64 (v9 + 1))))<|.ret v7 [.relab 20000007 5000]
def Z7h (a0 : Zc) (a1 : Int) (a2 : Int) : LT Zjq (List Int) :=
.lb 1003<|.lb 1011<|.idx Zj a0.L a1 fun x1=>.lb 1008<|.go (.L0 a1 a2 a0 ([] : (List Int)) x1 0) [.relab 1003 30000000, .relab 1008 30000001, .relab 1011 20000007]
def Z7i : LF Zjq (List Int) := ⟨106, [.t 6], true, fun | .L0 .. => [1,1,1,0,1,4],
 fun | .L0 v1 v2 E0 v7 E1 v9 => ⟨62, [(1, (wI v1)), (2, (wI v2)), (3, (.bptr 30000000 0)), (7, (wO (cI .i64) 20000007 v7)), (8, (.bptr 30000001 0)), (9, (wI v9))], [(30000000, .box (bx (Z5 E0))), (20000007, wR (cI .i64) 1 v7), (30000001, .box (bx (Zj E1)))]⟩,
 fun r => [(5000, wR (cI .i64) 1 r)], fun r => (wO (cI .i64) 5000 r), fun | .L0 v1 v2 E0 v7 E1 v9 => Zrh v1 v2 E0 v7 E1 v9⟩
def Zsd (a0 : Zc) (a1 : Int) (a2 : Int) : Option (List Int) := Z7i.run (Z7h a0 a1 a2)
theorem Zal7 (a0 : Zc) (a1 : Int) (a2 : Int) {r : (List Int)} (h : Zsd a0 a1 a2 = some r) : FnG PR 106 [] [(wA (Z5 a0)), (wI a1), (wI a2)] [(5000, wR (cI .i64) 1 r)] (wO (cI .i64) 5000 r) := Z7i.fn h
theorem Zri (a0 : Zc) (a1 : Int) (a2 : Int) {r : (List Int)} (h : Zsd a0 a1 a2 = some r) : Fn PR 106 [(wA (Z5 a0)), (wI a1), (wI a2)] (wL (cI .i64) r) :=
 FnG.frozen (C := LT.RL (cI .i64) r ∧ True) (Zal7 a0 a1 a2 h) ⟨rfl, trivial⟩ (by kernel_rfl)
inductive Zik where
 | L0 (v1 : (List UInt8)) (E0 : Zu) (E1 : Zu) (v5 : (List (List UInt8))) (v6 : Int)
 | L1 (v1 : (List UInt8)) (E0 : Zu) (E1 : Zu) (v5 : (List (List UInt8))) (v6 : Int)
def Zjr (v1 : (List UInt8)) (E0 : Zu) (E1 : Zu) (v5 : (List (List UInt8))) (v6 : Int) : LT Zik Zu :=
.lb 1045<|.dr [.ahead 48, .frz 20000005, .stop]<|.rl cS v5<|.rl cS v5<|.sl cS v5 0 v6 fun x1=>.apR cS 16 ([] : (List (List UInt8))) x1 fun x4=>.dr [.lit]<|.apR cS 16 x4 [v1] fun x8=>.slN cS v5 v6 fun x11=>.apR cS 16 x8 x11 fun x13=>.ret (⟨E0.Super, E0.Types, x13⟩ : Zu) [.relab 1045 5002]
def Zuj (v1 : (List UInt8)) (E0 : Zu) (E1 : Zu) (v5 : (List (List UInt8))) (v6 : Int) : LT Zik Zu :=
.lenO cS v5<|.cs (decide (v6 < (v5.length : Int))) (.k3 0<|.idxR cS v5 v6 fun x3=>.kg 0<|.ldR cS v5 x3 2<|.k3 0<|.br (Op.bytesLess x3 v1) (.g0 (.L0 v1 E0 E1 v5 (IntKind.wrap .i64 (v6 + 1))))<|.j0 (.L1 v1 E0 E1 v5 v6) (Zjr v1 E0 E1 v5 v6))<|.k5 0<|.k2 0<|.kn [0]<|.j0 (.L1 v1 E0 E1 v5 v6) (Zjr v1 E0 E1 v5 v6)
def Zaay (a0 : Zu) (a1 : (List UInt8)) : LT Zik Zu :=
.lb 1002<|.lb 1004<|.lb 1008<|.apR cS 16 ([] : (List (List UInt8))) a0.Subs fun x1=>.call (Zo3 a1) fun x4=>.cs (!x4) (.k4 0<|.b4 true<|.kn [0]<|.ret (⟨a0.Super, a0.Types, x1⟩ : Zu) [.relab 1008 5002])<|.k3 0<|.call (Z7d a0 a1) fun x7=>.kg 0<|.cs x7 (.k4 1<|.kn [0]<|.ret (⟨a0.Super, a0.Types, x1⟩ : Zu) [.relab 1008 5002])<|.k2 1<|.lenO cS x1<|.k2 1<|.br (decide ((x1.length : Int) ≥ 4)) (.ret (⟨a0.Super, a0.Types, x1⟩ : Zu) [.relab 1008 5002])<|.go (.L0 a1 a0 (⟨0, 0, ([] : (List (List UInt8)))⟩ : Zu) x1 0) [.relab 1002 30000000, .relab 1004 30000001, .relab 1008 20000005, .ownb 30000001 2 40000102 1]
def Zaaz : LF Zik Zu := ⟨187, [.c 4 75 true 3], true, fun | .L0 .. => [1,1,1,1,0,4] | .L1 .. => [1,1,1,1,1],
 fun | .L0 v1 E0 E1 v5 v6 => ⟨64, [(1, (wS v1)), (2, (.bptr 30000000 0)), (4, (.bptr 30000001 0)), (5, (wO cS 20000005 v5)), (6, (wI v6))], [(30000000, .box (bx (Zeb E0))), (30000001, .box [(wI E1.Super), (wI E1.Types), (wO cS 40000102 E1.Subs)]), (40000102, wR cS 1 E1.Subs), (20000005, wR cS 1 v5)]⟩ | .L1 v1 E0 E1 v5 v6 => ⟨64, [(1, (wS v1)), (2, (.bptr 30000000 0)), (4, (.bptr 30000001 0)), (5, (wO cS 20000005 v5)), (6, (wI v6))], [(30000000, .box (bx (Zeb E0))), (30000001, .box [(wI E1.Super), (wI E1.Types), (wO cS 40000102 E1.Subs)]), (40000102, wR cS 1 E1.Subs), (20000005, wR cS 1 v5)]⟩,
 fun r => [(5002, wR cS 1 r.Subs)], fun r => (.agg [(wI r.Super), (wI r.Types), (wO cS 5002 r.Subs)]), fun | .L0 v1 E0 E1 v5 v6 => Zuj v1 E0 E1 v5 v6 | .L1 v1 E0 E1 v5 v6 => Zjr v1 E0 E1 v5 v6⟩
def Z5k (a0 : Zu) (a1 : (List UInt8)) : Option Zu := Zaaz.run (Zaay a0 a1)
theorem Zao7 (a0 : Zu) (a1 : (List UInt8)) {r : Zu} (h : Z5k a0 a1 = some r) : FnG PR 187 [] [(wA (Zeb a0)), (wS a1)] [(5002, wR cS 1 r.Subs)] (.agg [(wI r.Super), (wI r.Types), (wO cS 5002 r.Subs)]) := Zaaz.fn h
def Zafc (a0 : Za) (a1 : Zr) (a2 : Int) (a3 : Int) : LT Empty Za :=
.lb 1004<|.lb 1005<|.lb 1008<|.call (Z85 a1) fun x1=>.br (!x1) (.rt a0)<|.br (a1.Kind == 1) (.rt (⟨a0.Name, a0.Cost, a0.Colors, a0.Line, a0.Power, a0.Tough, a0.Keys, a0.Abilities, a2⟩ : Za))<|.br (a1.Kind == 2) (.rt (⟨a0.Name, a0.Cost, a0.Colors, (⟨a0.Line.Super, a1.N, a0.Line.Subs⟩ : Zu), a0.Power, a0.Tough, a0.Keys, a0.Abilities, a0.Control⟩ : Za))<|.br (a1.Kind == 3) (.rt (⟨a0.Name, a0.Cost, a0.Colors, (⟨a0.Line.Super, Zbc .or .i64 a0.Line.Types a1.N, a0.Line.Subs⟩ : Zu), a0.Power, a0.Tough, a0.Keys, a0.Abilities, a0.Control⟩ : Za))<|.br (a1.Kind == 4) (.lb 1040<|.rl cS [a1.Sub]<|.rt (⟨a0.Name, a0.Cost, a0.Colors, (⟨a0.Line.Super, a0.Line.Types, [a1.Sub]⟩ : Zu), a0.Power, a0.Tough, a0.Keys, a0.Abilities, a0.Control⟩ : Za))<|.br (a1.Kind == 5) (.callF (Zao7 a0.Line a1.Sub) 500000 fun x10=>.rl cS x10.Subs<|.rt (⟨a0.Name, a0.Cost, a0.Colors, x10, a0.Power, a0.Tough, a0.Keys, a0.Abilities, a0.Control⟩ : Za))<|.br (a1.Kind == 6) (.rt (⟨a0.Name, a0.Cost, a1.N, a0.Line, a0.Power, a0.Tough, a0.Keys, a0.Abilities, a0.Control⟩ : Za))<|.br (a1.Kind == 7) (.rt (⟨a0.Name, a0.Cost, Zbc .or .i64 a0.Colors a1.N, a0.Line, a0.Power, a0.Tough, a0.Keys, a0.Abilities, a0.Control⟩ : Za))<|.br (a1.Kind == 8) (.rt (⟨a0.Name, a0.Cost, a0.Colors, a0.Line, a0.Power, a0.Tough, Zbc .or .i64 a0.Keys a1.N, a0.Abilities, a0.Control⟩ : Za))<|.br (a1.Kind == 9) (.rt (⟨a0.Name, a0.Cost, a0.Colors, a0.Line, a0.Power, a0.Tough, Zbc .andNot .i64 a0.Keys a1.N, a0.Abilities, a0.Control⟩ : Za))<|.br (a1.Kind == 10) (.rt (⟨a0.Name, a0.Cost, a0.Colors, a0.Line, a0.Power, a0.Tough, 0, ([] : (List Zk)), a0.Control⟩ : Za))<|.br (a1.Kind == 11) (.call (Zdi a3) fun x18=>.call (Zdi a3) fun x20=>.rt (⟨a0.Name, a0.Cost, a0.Colors, a0.Line, x18, x20, a0.Keys, a0.Abilities, a0.Control⟩ : Za))<|.br (a1.Kind == 12) (.rt (⟨a0.Name, a0.Cost, a0.Colors, a0.Line, a1.N, a1.M, a0.Keys, a0.Abilities, a0.Control⟩ : Za))<|.br (a1.Kind == 13) (.call (Zi5 a0.Power a1.N) fun x24=>.call (Zi5 a0.Tough a1.M) fun x26=>.rt (⟨a0.Name, a0.Cost, a0.Colors, a0.Line, x24, x26, a0.Keys, a0.Abilities, a0.Control⟩ : Za))<|.br (a1.Kind == 14) (.rt (⟨a0.Name, a0.Cost, a0.Colors, a0.Line, a0.Tough, a0.Power, a0.Keys, a0.Abilities, a0.Control⟩ : Za))<|.rt a0
def Zafd : LF Empty Za := .z 154 [.c 8 81 true 17] false (fun r => []) (fun r => (wA (Zi r)))
def Zaa0 (a0 : Za) (a1 : Zr) (a2 : Int) (a3 : Int) : Option Za := Zafd.run (Zafc a0 a1 a2 a3)
theorem Zaw1 (a0 : Za) (a1 : Zr) (a2 : Int) (a3 : Int) {r : Za} (h : Zaa0 a0 a1 a2 a3 = some r) : Fn PR 154 [(wA (Zi a0)), (wA (Z1 a1)), (wI a2), (wI a3)] (wA (Zi r)) := Zafd.fn h
inductive Zil where
 | L0 (v2 : Int) (v3 : Int) (v4 : (List Int)) (E0 : Za) (E1 : Zm) (E2 : Za) (v11 : Int) (v12 : Int)
def Zp3 (v2 : Int) (v3 : Int) (v4 : (List Int)) (E0 : Za) (E1 : Zm) (E2 : Za) (v11 : Int) (v12 : Int) : LT Zil Za :=
.len Z1 E1.Mods<|.br (decide (v12 < (E1.Mods.length : Int))) (.idx Z1 E1.Mods v12 fun x3=>.call (Zpy x3.Kind) fun x5=>.br (x5 == v2) (.ag Z1 x3 0<|.idx (cI .i64) v4 v11 fun x8=>.call (Zaw1 E0 x3 v3 x8) fun x10=>.g0 (.L0 v2 v3 v4 x10 E1 E2 (IntKind.wrap .i64 (v11 + 1)) (IntKind.wrap .i64 (v12 + 1))))<|.g0 (.L0 v2 v3 v4 E0 E1 E2 v11 (IntKind.wrap .i64 (v12 + 1))))<|.rt E0
def Z3x (a0 : Za) (a1 : Zm) (a2 : Int) (a3 : Int) (a4 : (List Int)) : LT Zil Za :=
.lb 1005<|.lb 1006<|.lb 1010<|.go (.L0 a2 a3 a4 a0 a1 (⟨([] : List UInt8), (⟨0, 0, (⟨0, 0, 0, 0, 0⟩ : (A5 Int))⟩ : Zp), 0, (⟨0, 0, ([] : (List (List UInt8)))⟩ : Zu), 0, 0, 0, ([] : (List Zk)), 0⟩ : Za) 0 0) [.relab 1005 30000000, .relab 1006 30000001, .relab 1010 30000002, .ownb 30000002 11 40000211 1, .ownb 30000002 15 40000215 72]
def Z3y : LF Zil Za := ⟨108, [.c 10 81 true 17], false, fun | .L0 .. => [1,1,0,1,4],
 fun | .L0 v2 v3 v4 E0 E1 E2 v11 v12 => ⟨44, [(2, (wI v2)), (3, (wI v3)), (4, (wL (cI .i64) v4)), (5, (.bptr 30000000 0)), (6, (.bptr 30000001 0)), (10, (.bptr 30000002 0)), (11, (wI v11)), (12, (wI v12))], [(30000000, .box (bx (Zi E0))), (30000001, .box (bx (Zj E1))), (30000002, .box [(wS E2.Name), (wI E2.Cost.Generic), (wI E2.Cost.X), (wI E2.Cost.Color.a0), (wI E2.Cost.Color.a1), (wI E2.Cost.Color.a2), (wI E2.Cost.Color.a3), (wI E2.Cost.Color.a4), (wI E2.Colors), (wI E2.Line.Super), (wI E2.Line.Types), (wO cS 40000211 E2.Line.Subs), (wI E2.Power), (wI E2.Tough), (wI E2.Keys), (wO Zx 40000215 E2.Abilities), (wI E2.Control)]), (40000211, wR cS 1 E2.Line.Subs), (40000215, wR Zx 72 E2.Abilities)]⟩,
 fun r => [], fun r => (wA (Zi r)), fun | .L0 v2 v3 v4 E0 E1 E2 v11 v12 => Zp3 v2 v3 v4 E0 E1 E2 v11 v12⟩
def Zx6 (a0 : Za) (a1 : Zm) (a2 : Int) (a3 : Int) (a4 : (List Int)) : Option Za := Z3y.run (Z3x a0 a1 a2 a3 a4)
theorem Zal8 (a0 : Za) (a1 : Zm) (a2 : Int) (a3 : Int) (a4 : (List Int)) {r : Za} (h : Zx6 a0 a1 a2 a3 a4 = some r) : Fn PR 108 [(wA (Zi a0)), (wA (Zj a1)), (wI a2), (wI a3), (wL (cI .i64) a4)] (wA (Zi r)) := Z3y.fn h
inductive Zmz where
 | L0 (v1 : Int) (E0 : Zm) (v5 : Int)
def Zx7 (v1 : Int) (E0 : Zm) (v5 : Int) : LT Zmz Bool :=
.len Z1 E0.Mods<|.br (decide (v5 < (E0.Mods.length : Int))) (.idx Z1 E0.Mods v5 fun x3=>.cs (x3.Kind == 10) (.k4 1<|.ag Z1 x3 0<|.k3 1<|.call (Zpy x3.Kind) fun x6=>.k3 1<|.br (x6 == v1) (.rt true)<|.g0 (.L0 v1 E0 (IntKind.wrap .i64 (v5 + 1))))<|.k8 1<|.k2 1<|.kn [0]<|.g0 (.L0 v1 E0 (IntKind.wrap .i64 (v5 + 1))))<|.rt false
def Zafe (a0 : Zm) (a1 : Int) : LT Zmz Bool :=
.lb 1002<|.go (.L0 a1 a0 0) [.relab 1002 30000000]
def Zaff : LF Zmz Bool := ⟨109, [.t 4], false, fun | .L0 .. => [1,0,1,4],
 fun | .L0 v1 E0 v5 => ⟨31, [(1, (wI v1)), (2, (.bptr 30000000 0)), (5, (wI v5))], [(30000000, .box (bx (Zj E0)))]⟩,
 fun r => [], fun r => (wB r), fun | .L0 v1 E0 v5 => Zx7 v1 E0 v5⟩
def Zaa1 (a0 : Zm) (a1 : Int) : Option Bool := Zaff.run (Zafe a0 a1)
theorem Zaw2 (a0 : Zm) (a1 : Int) {r : Bool} (h : Zaa1 a0 a1 = some r) : Fn PR 109 [(wA (Zj a0)), (wI a1)] (wB r) := Zaff.fn h
inductive Zjs where
 | L0 (v1 : Int) (v2 : Int) (E0 : Zc) (E1 : Zc) (v7 : (List Int)) (v8 : (List Int)) (v9 : Int) (E2 : Zc) (v11 : Int)
def Zrj (v1 : Int) (v2 : Int) (E0 : Zc) (E1 : Zc) (v7 : (List Int)) (v8 : (List Int)) (v9 : Int) (E2 : Zc) (v11 : Int) : LT Zjs Zc :=
.len Zh E0.S.Objects<|.br (decide (v11 < (E0.S.Objects.length : Int))) (.idx Zh E0.S.Objects v11 fun x3=>.call (Zal3 v7 x3.Id) fun x5=>.br (!x5) (.g0 (.L0 v1 v2 E0 E1 v7 v8 v9 E2 (IntKind.wrap .i64 (v11 + 1))))<|.idx Zi E0.All v11 fun x10=>.idx Zj E0.L v1 fun x12=>.call (Zal8 x10 x12 v2 v9 v8) fun x14=>.idxR Zi E2.All v11 fun x16=>.setR Zi E2.All v11 x16 x14 11 0 [(.str x14.Name), (.int .i64 x14.Cost.Generic), (.int .i64 x14.Cost.X), (.int .i64 x14.Cost.Color.a0), (.int .i64 x14.Cost.Color.a1), (.int .i64 x14.Cost.Color.a2), (.int .i64 x14.Cost.Color.a3), (.int .i64 x14.Cost.Color.a4), (.int .i64 x14.Colors), (.int .i64 x14.Line.Super), (.int .i64 x14.Line.Types), (.sl (List.map cS x14.Line.Subs)), (.int .i64 x14.Power), (.int .i64 x14.Tough), (.int .i64 x14.Keys), (.sl (List.map Zx x14.Abilities)), (.int .i64 x14.Control)] rfl fun x18=>.dr [.ahead 101, .relen 40000219, .stop]<|.us [12]<|.us [12]<|.us [12]<|.ag Zj x12 6<|.call (Zaw2 x12 v2) fun x20=>.br x20 (.idxR cB E2.Blank v11 fun x23=>.setR cB E2.Blank v11 x23 true 15 0 [(.bool true)] rfl fun x25=>.dr [.ahead 71, .relen 40000223, .stop]<|.us [16]<|.us [16]<|.us [16]<|.g0 (.L0 v1 v2 E0 E1 v7 v8 v9 (⟨E2.S, x18, E2.L, E2.Begun, E2.Sets, x25⟩ : Zc) (IntKind.wrap .i64 (v11 + 1))))<|.g0 (.L0 v1 v2 E0 E1 v7 v8 v9 (⟨E2.S, x18, E2.L, E2.Begun, E2.Sets, E2.Blank⟩ : Zc) (IntKind.wrap .i64 (v11 + 1))))<|.rl Zi E2.All<|.rl cB E2.Begun<|.rl (cL (cI .i64)) E2.Sets<|.rl cB E2.Blank<|.rt E2
def Z7j (a0 : Zc) (a1 : Int) (a2 : Int) : LT Zjs Zc :=
.lb 1003<|.lb 1006<|.call (Zm9 a0 a1) fun x1=>.br (!x1) (.rt a0)<|.call (Zrg a0 a1) fun x4=>.call (Zri a0 a1 a2) fun x6=>.call (Zvw a0 a1) fun x8=>.lb 1010<|.apN Zi 1036 176 a0.All fun x10=>.apN cB 1042 1 a0.Begun fun x13=>.apN (cL (cI .i64)) 1048 24 a0.Sets fun x16=>.apN cB 1054 1 a0.Blank fun x19=>.idxR cB x13 a1 fun x22=>.setR cB x13 a1 x22 true 2 0 [(.bool true)] rfl fun x24=>.dr [.ahead 60, .relen 1042, .stop]<|.us [3]<|.us [3]<|.us [3]<|.us [3]<|.idxR (cL (cI .i64)) x16 a1 fun x26=>.setR (cL (cI .i64)) x16 a1 x26 x4 6 0 [(.sl (List.map (cI .i64) x4))] rfl fun x28=>.dr [.ahead 11, .relen 1048, .stop]<|.us [7]<|.us [7]<|.us [7]<|.us [7]<|.go (.L0 a1 a2 a0 (⟨(⟨([] : (List Za1)), ([] : (List Zf)), ([] : (List Int)), ([] : (List Int)), ([] : (List Zeg)), ([] : (List Zd8)), ([] : (List Zgz)), 0, 0, 0, false, 0, 0, 0, 0, 0, ([] : (List Int)), 0, 0⟩ : Zb), ([] : (List Za)), ([] : (List Zm)), ([] : (List Bool)), ([] : (List (List Int))), ([] : (List Bool))⟩ : Zc) x4 x6 x8 (⟨a0.S, x10, a0.L, x24, x28, x19⟩ : Zc) 0) [.relab 1003 30000000, .relab 1006 30000001, .relab 1010 30000002, .ownb 30000001 0 40000100 14, .ownb 30000001 1 40000101 19, .ownb 30000001 2 40000102 1, .ownb 30000001 3 40000103 1, .ownb 30000001 4 40000104 94, .ownb 30000001 5 40000105 89, .ownb 30000001 6 40000106 6, .ownb 30000001 16 40000116 1, .ownb 30000001 19 40000119 17, .ownb 30000001 20 40000120 23, .ownb 30000001 21 40000121 1, .ownb 30000001 22 40000122 1, .ownb 30000001 23 40000123 1, .relab 1036 40000219, .relab 1042 40000221, .relab 1048 40000222, .relab 1054 40000223]
def Z7k : LF Zjs Zc := ⟨66, [.c 6 88 true 24], false, fun | .L0 .. => [1,1,1,1,1,1,1,1,1,1,1,1,0,1,4],
 fun | .L0 v1 v2 E0 E1 v7 v8 v9 E2 v11 => ⟨113, [(1, (wI v1)), (2, (wI v2)), (3, (.bptr 30000000 0)), (6, (.bptr 30000001 0)), (7, (wL (cI .i64) v7)), (8, (wL (cI .i64) v8)), (9, (wI v9)), (10, (.bptr 30000002 0)), (11, (wI v11))], [(30000000, .box (bx (Z5 E0))), (30000001, .box [(wO Z2 40000100 E1.S.Players), (wO Zh 40000101 E1.S.Objects), (wO (cI .i64) 40000102 E1.S.Battlefield), (wO (cI .i64) 40000103 E1.S.Exile), (wO Zal 40000104 E1.S.Stack), (wO Zae 40000105 E1.S.Waiting), (wO Zaq 40000106 E1.S.Conts), (wI E1.S.Turn), (wI E1.S.Active), (wI E1.S.Step), (wB E1.S.Begun), (wI E1.S.Priority), (wI E1.S.Passes), (wI E1.S.NextId), (wI E1.S.NextStamp), (.t (.int .u64 E1.S.Seed)), (wO (cI .i64) 40000116 E1.S.Extra), (wI E1.S.Over), (wI E1.S.Winner), (wO Zi 40000119 E1.All), (wO Zj 40000120 E1.L), (wO cB 40000121 E1.Begun), (wO (cL (cI .i64)) 40000122 E1.Sets), (wO cB 40000123 E1.Blank)]), (40000100, wR Z2 14 E1.S.Players), (40000101, wR Zh 19 E1.S.Objects), (40000102, wR (cI .i64) 1 E1.S.Battlefield), (40000103, wR (cI .i64) 1 E1.S.Exile), (40000104, wR Zal 94 E1.S.Stack), (40000105, wR Zae 89 E1.S.Waiting), (40000106, wR Zaq 6 E1.S.Conts), (40000116, wR (cI .i64) 1 E1.S.Extra), (40000119, wR Zi 17 E1.All), (40000120, wR Zj 23 E1.L), (40000121, wR cB 1 E1.Begun), (40000122, wR (cL (cI .i64)) 1 E1.Sets), (40000123, wR cB 1 E1.Blank), (30000002, .box [(wL Z2 E2.S.Players), (wL Zh E2.S.Objects), (wL (cI .i64) E2.S.Battlefield), (wL (cI .i64) E2.S.Exile), (wL Zal E2.S.Stack), (wL Zae E2.S.Waiting), (wL Zaq E2.S.Conts), (wI E2.S.Turn), (wI E2.S.Active), (wI E2.S.Step), (wB E2.S.Begun), (wI E2.S.Priority), (wI E2.S.Passes), (wI E2.S.NextId), (wI E2.S.NextStamp), (.t (.int .u64 E2.S.Seed)), (wL (cI .i64) E2.S.Extra), (wI E2.S.Over), (wI E2.S.Winner), (wO Zi 40000219 E2.All), (wL Zj E2.L), (wO cB 40000221 E2.Begun), (wO (cL (cI .i64)) 40000222 E2.Sets), (wO cB 40000223 E2.Blank)]), (40000219, wR Zi 17 E2.All), (40000221, wR cB 1 E2.Begun), (40000222, wR (cL (cI .i64)) 1 E2.Sets), (40000223, wR cB 1 E2.Blank)]⟩,
 fun r => [], fun r => (wA (Z5 r)), fun | .L0 v1 v2 E0 E1 v7 v8 v9 E2 v11 => Zrj v1 v2 E0 E1 v7 v8 v9 E2 v11⟩
def Z1z (a0 : Zc) (a1 : Int) (a2 : Int) : Option Zc := Z7k.run (Z7j a0 a1 a2)
theorem Z3z (a0 : Zc) (a1 : Int) (a2 : Int) {r : Zc} (h : Z1z a0 a1 a2 = some r) : Fn PR 66 [(wA (Z5 a0)), (wI a1), (wI a2)] (wA (Z5 r)) := Z7k.fn h
def Zafg (a0 : Zc) (a1 : Int) (a2 : Int) (a3 : Int) : LT Empty Bool :=
.lb 1004<|.br (a1 == a2) (.rt false)<|.call (Z3z a0 a2 a3) fun x2=>.lb 1009<|.call (Zm9 a0 a1) fun x4=>.call (Zm9 x2 a1) fun x6=>.cs (!(x4 == x6)) (.k8 1<|.kg 1<|.b8 true<|.b3 true<|.rt true)<|.k3 1<|.call (Zrg a0 a1) fun x9=>.k3 1<|.call (Zrg x2 a1) fun x11=>.kg 1<|.call (Zhz x9 x11) fun x13=>.k2 1<|.cs (!x13) (.k8 2<|.k3 2<|.rt true)<|.k4 2<|.call (Zri a0 a1 a3) fun x16=>.k4 2<|.call (Zri x2 a1 a3) fun x18=>.kg 2<|.call (Zhz x16 x18) fun x20=>.k2 2<|.rt (!x20)
def Zafh : LF Empty Bool := .z 102 [.t 8] false (fun r => []) (fun r => (wB r))
def Zaa2 (a0 : Zc) (a1 : Int) (a2 : Int) (a3 : Int) : Option Bool := Zafh.run (Zafg a0 a1 a2 a3)
theorem Zaw3 (a0 : Zc) (a1 : Int) (a2 : Int) (a3 : Int) {r : Bool} (h : Zaa2 a0 a1 a2 a3 = some r) : Fn PR 102 [(wA (Z5 a0)), (wI a1), (wI a2), (wI a3)] (wB r) := Zafh.fn h
inductive Ztt where
 | L0 (v0 : (List Int)) (v1 : Int) (v5 : Int)
def Z5l (v0 : (List Int)) (v1 : Int) (v5 : Int) : LT Ztt Bool :=
.len (cI .i64) v0<|.br (decide (v5 < (v0.length : Int))) (.idx (cI .i64) v0 v5 fun x3=>.br (x3 == v1) (.rt true)<|.g0 (.L0 v0 v1 (IntKind.wrap .i64 (v5 + 1))))<|.rt false
def Zarf (a0 : (List Int)) (a1 : Int) : LT Ztt Bool :=
.g0 (.L0 a0 a1 0)
def Zarg : LF Ztt Bool := ⟨185, [.t 4], false, fun | .L0 .. => [1,0,1,4],
 fun | .L0 v0 v1 v5 => ⟨18, [(0, (wL (cI .i64) v0)), (1, (wI v1)), (5, (wI v5))], []⟩,
 fun r => [], fun r => (wB r), fun | .L0 v0 v1 v5 => Z5l v0 v1 v5⟩
def Zao8 (a0 : (List Int)) (a1 : Int) : Option Bool := Zarg.run (Zarf a0 a1)
theorem Z5m (a0 : (List Int)) (a1 : Int) {r : Bool} (h : Zao8 a0 a1 = some r) : Fn PR 185 [(wL (cI .i64) a0), (wI a1)] (wB r) := Zarg.fn h
inductive Zim where
 | L0 (v0 : (List Int)) (v3 : (List Int)) (v4 : Int)
def Zp4 (v0 : (List Int)) (v3 : (List Int)) (v4 : Int) : LT Zim (List Int) :=
.len (cI .i64) v0<|.br (decide (v4 < (v0.length : Int))) (.idx (cI .i64) v0 v4 fun x3=>.cs (decide (x3 ≥ 0)) (.k4 1<|.ag (cI .i64) x3 0<|.k2 1<|.rl (cI .i64) v3<|.call (Z5m v3 x3) fun x6=>.k2 1<|.br (!x6) (.ag (cI .i64) x3 0<|.dr [.lit]<|.apR (cI .i64) 8 v3 [x3] fun x10=>.g0 (.L0 v0 x10 (IntKind.wrap .i64 (v4 + 1))))<|.g0 (.L0 v0 v3 (IntKind.wrap .i64 (v4 + 1))))<|.k8 1<|.kn [0]<|.g0 (.L0 v0 v3 (IntKind.wrap .i64 (v4 + 1))))<|.ret v3 [.relab 20000003 5000]
def Z30 (a0 : (List Int)) : LT Zim (List Int) :=
.go (.L0 a0 ([] : (List Int)) 0) [.own 3 20000003 1]
def Z31 : LF Zim (List Int) := ⟨183, [.t 2], true, fun | .L0 .. => [1,1,0,1,4],
 fun | .L0 v0 v3 v4 => ⟨33, [(0, (wL (cI .i64) v0)), (3, (wO (cI .i64) 20000003 v3)), (4, (wI v4))], [(20000003, wR (cI .i64) 1 v3)]⟩,
 fun r => [(5000, wR (cI .i64) 1 r)], fun r => (wO (cI .i64) 5000 r), fun | .L0 v0 v3 v4 => Zp4 v0 v3 v4⟩
def Zp5 (a0 : (List Int)) : Option (List Int) := Z31.run (Z30 a0)
theorem Zahj (a0 : (List Int)) {r : (List Int)} (h : Zp5 a0 = some r) : FnG PR 183 [] [(wL (cI .i64) a0)] [(5000, wR (cI .i64) 1 r)] (wO (cI .i64) 5000 r) := Z31.fn h
theorem Zal9 (a0 : (List Int)) {r : (List Int)} (h : Zp5 a0 = some r) : Fn PR 183 [(wL (cI .i64) a0)] (wL (cI .i64) r) :=
 FnG.frozen (C := LT.RL (cI .i64) r ∧ True) (Zahj a0 h) ⟨rfl, trivial⟩ (by kernel_rfl)
def Zama (a0 : (List (List Bool))) (a1 : Int) (a2 : Int) : LT Empty Bool :=
.len (cL cB) a0<|.cs (decide (a1 < (a0.length : Int))) (.k4 0<|.idx (cL cB) a0 a1 fun x3=>.k2 0<|.len cB x3<|.k2 0<|.cs (decide (a2 < (x3.length : Int))) (.k3 1<|.ag (cL cB) x3 0<|.k3 1<|.idx cB x3 a2 fun x7=>.k2 1<|.rt x7)<|.k8 1<|.rt false)<|.k8 0<|.b8 false<|.rt false
def Zamb : LF Empty Bool := .z 184 [.t 6] false (fun r => []) (fun r => (wB r))
def Zahk (a0 : (List (List Bool))) (a1 : Int) (a2 : Int) : Option Bool := Zamb.run (Zama a0 a1 a2)
theorem Z10 (a0 : (List (List Bool))) (a1 : Int) (a2 : Int) {r : Bool} (h : Zahk a0 a1 a2 = some r) : Fn PR 184 [(wL (cL cB) a0), (wI a1), (wI a2)] (wB r) := Zamb.fn h
inductive Zf8 where
 | L0 (v0 : (List Int)) (v1 : (List (List Bool))) (v2 : Int) (v7 : (List Int)) (v8 : Int)
 | L1 (v0 : (List Int)) (v1 : (List (List Bool))) (v7 : (List Int)) (v9 : Int)
 | L2 (v0 : (List Int)) (v1 : (List (List Bool))) (v7 : (List Int)) (v9 : Int) (v10 : Int)
def Zrk (v0 : (List Int)) (v1 : (List (List Bool))) (v2 : Int) (v7 : (List Int)) (v8 : Int) : LT Zf8 (List Int) :=
.len (cI .i64) v0<|.br (decide (v8 < (v0.length : Int))) (.idx (cI .i64) v0 v8 fun x3=>.call (Z10 v1 v2 x3) fun x5=>.br x5 (.ag (cI .i64) x3 0<|.dr [.lit]<|.apR (cI .i64) 8 v7 [x3] fun x9=>.g0 (.L0 v0 v1 v2 x9 (IntKind.wrap .i64 (v8 + 1))))<|.g0 (.L0 v0 v1 v2 v7 (IntKind.wrap .i64 (v8 + 1))))<|.g0 (.L1 v0 v1 v7 0)
def Zrl (v0 : (List Int)) (v1 : (List (List Bool))) (v7 : (List Int)) (v9 : Int) : LT Zf8 (List Int) :=
.lenO (cI .i64) v7<|.br (decide (v9 < (v7.length : Int))) (.g0 (.L2 v0 v1 v7 v9 0))<|.ret v7 [.relab 20000007 5000]
def Zrm (v0 : (List Int)) (v1 : (List (List Bool))) (v7 : (List Int)) (v9 : Int) (v10 : Int) : LT Zf8 (List Int) :=
.len (cI .i64) v0<|.br (decide (v10 < (v0.length : Int))) (.idxR (cI .i64) v7 v9 fun x3=>.ldR (cI .i64) v7 x3 2<|.idx (cI .i64) v0 v10 fun x5=>.call (Z10 v1 x3 x5) fun x7=>.cs x7 (.k4 1<|.ag (cI .i64) x5 3<|.k2 1<|.rl (cI .i64) v7<|.call (Z5m v7 x5) fun x10=>.k2 1<|.br (!x10) (.ag (cI .i64) x5 3<|.dr [.lit]<|.apR (cI .i64) 8 v7 [x5] fun x14=>.g0 (.L2 v0 v1 x14 v9 (IntKind.wrap .i64 (v10 + 1))))<|.g0 (.L2 v0 v1 v7 v9 (IntKind.wrap .i64 (v10 + 1))))<|.k8 1<|.kn [0]<|.g0 (.L2 v0 v1 v7 v9 (IntKind.wrap .i64 (v10 + 1))))<|.g0 (.L1 v0 v1 v7 (IntKind.wrap .i64 (v9 + 1)))
def Z7l (a0 : (List Int)) (a1 : (List (List Bool))) (a2 : Int) : LT Zf8 (List Int) :=
.go (.L0 a0 a1 a2 ([] : (List Int)) 0) [.own 7 20000007 1]
def Z7m : LF Zf8 (List Int) := ⟨186, [.t 6], true, fun | .L0 .. => [1,1,0,1,4] | .L1 .. => [1,1,1,0,1,4] | .L2 .. => [1,1,1,0,1,4,5,1,0,4,1,4],
 fun | .L0 v0 v1 v2 v7 v8 => ⟨70, [(0, (wL (cI .i64) v0)), (1, (wL (cL cB) v1)), (2, (wI v2)), (7, (wO (cI .i64) 20000007 v7)), (8, (wI v8))], [(20000007, wR (cI .i64) 1 v7)]⟩ | .L1 v0 v1 v7 v9 => ⟨70, [(0, (wL (cI .i64) v0)), (1, (wL (cL cB) v1)), (7, (wO (cI .i64) 20000007 v7)), (9, (wI v9))], [(20000007, wR (cI .i64) 1 v7)]⟩ | .L2 v0 v1 v7 v9 v10 => ⟨70, [(0, (wL (cI .i64) v0)), (1, (wL (cL cB) v1)), (7, (wO (cI .i64) 20000007 v7)), (9, (wI v9)), (10, (wI v10))], [(20000007, wR (cI .i64) 1 v7)]⟩,
 fun r => [(5000, wR (cI .i64) 1 r)], fun r => (wO (cI .i64) 5000 r), fun | .L0 v0 v1 v2 v7 v8 => Zrk v0 v1 v2 v7 v8 | .L1 v0 v1 v7 v9 => Zrl v0 v1 v7 v9 | .L2 v0 v1 v7 v9 v10 => Zrm v0 v1 v7 v9 v10⟩
def Zse (a0 : (List Int)) (a1 : (List (List Bool))) (a2 : Int) : Option (List Int) := Z7m.run (Z7l a0 a1 a2)
theorem Zamc (a0 : (List Int)) (a1 : (List (List Bool))) (a2 : Int) {r : (List Int)} (h : Zse a0 a1 a2 = some r) : FnG PR 186 [] [(wL (cI .i64) a0), (wL (cL cB) a1), (wI a2)] [(5000, wR (cI .i64) 1 r)] (wO (cI .i64) 5000 r) := Z7m.fn h
theorem Zao9 (a0 : (List Int)) (a1 : (List (List Bool))) (a2 : Int) {r : (List Int)} (h : Zse a0 a1 a2 = some r) : Fn PR 186 [(wL (cI .i64) a0), (wL (cL cB) a1), (wI a2)] (wL (cI .i64) r) :=
 FnG.frozen (C := LT.RL (cI .i64) r ∧ True) (Zamc a0 a1 a2 h) ⟨rfl, trivial⟩ (by kernel_rfl)
inductive Zj3 where
 | L0 (v1 : (List (List Bool))) (v5 : (List Int)) (v6 : (List Int)) (v7 : Int)
 | L1 (v1 : (List (List Bool))) (v5 : (List Int)) (v6 : (List Int)) (v7 : Int) (v8 : Bool) (v9 : Int)
def Zx8 (v1 : (List (List Bool))) (v5 : (List Int)) (v6 : (List Int)) (v7 : Int) : LT Zj3 (List Int) :=
.len (cI .i64) v5<|.br (decide (v7 < (v5.length : Int))) (.g0 (.L1 v1 v5 v6 v7 true 0))<|.ret v6 [.relab 20000006 5000]
def Zx9 (v1 : (List (List Bool))) (v5 : (List Int)) (v6 : (List Int)) (v7 : Int) (v8 : Bool) (v9 : Int) : LT Zj3 (List Int) :=
.len (cI .i64) v5<|.br (decide (v9 < (v5.length : Int))) (.cs (v9 != v7) (.k4 1<|.idx (cI .i64) v5 v7 fun x4=>.k4 1<|.idx (cI .i64) v5 v9 fun x6=>.k2 1<|.call (Z10 v1 x4 x6) fun x8=>.kg 1<|.cs x8 (.k5 2<|.ag (cI .i64) x6 3<|.k2 2<|.call (Zao9 v5 v1 x6) fun x11=>.k3 2<|.ag (cI .i64) x4 0<|.k2 2<|.call (Z5m x11 x4) fun x13=>.k2 2<|.br (!x13) (.g0 (.L1 v1 v5 v6 v7 false (IntKind.wrap .i64 (v9 + 1))))<|.g0 (.L1 v1 v5 v6 v7 v8 (IntKind.wrap .i64 (v9 + 1))))<|.k8 2<|.k5 2<|.kg 2<|.kn [0]<|.g0 (.L1 v1 v5 v6 v7 v8 (IntKind.wrap .i64 (v9 + 1))))<|.k8 1<|.k3 1<|.b8 false<|.b5 false<|.kb false<|.kn [0]<|.g0 (.L1 v1 v5 v6 v7 v8 (IntKind.wrap .i64 (v9 + 1))))<|.br v8 (.idx (cI .i64) v5 v7 fun x25=>.dr [.lit]<|.apR (cI .i64) 8 v6 [x25] fun x28=>.g0 (.L0 v1 v5 x28 (IntKind.wrap .i64 (v7 + 1))))<|.g0 (.L0 v1 v5 v6 (IntKind.wrap .i64 (v7 + 1)))
def Zafi (a0 : (List Int)) (a1 : (List (List Bool))) : LT Zj3 (List Int) :=
.call (Zal9 a0) fun x1=>.go (.L0 a1 x1 ([] : (List Int)) 0) [.own 6 20000006 1]
def Zafj : LF Zj3 (List Int) := ⟨151, [.t 4], true, fun | .L0 .. => [1,1,1,0,1,4] | .L1 .. => [1,1,1,0,1,4,5,1,0,4,1,0,1,4],
 fun | .L0 v1 v5 v6 v7 => ⟨63, [(1, (wL (cL cB) v1)), (5, (wL (cI .i64) v5)), (6, (wO (cI .i64) 20000006 v6)), (7, (wI v7))], [(20000006, wR (cI .i64) 1 v6)]⟩ | .L1 v1 v5 v6 v7 v8 v9 => ⟨63, [(1, (wL (cL cB) v1)), (5, (wL (cI .i64) v5)), (6, (wO (cI .i64) 20000006 v6)), (7, (wI v7)), (8, (wB v8)), (9, (wI v9))], [(20000006, wR (cI .i64) 1 v6)]⟩,
 fun r => [(5000, wR (cI .i64) 1 r)], fun r => (wO (cI .i64) 5000 r), fun | .L0 v1 v5 v6 v7 => Zx8 v1 v5 v6 v7 | .L1 v1 v5 v6 v7 v8 v9 => Zx9 v1 v5 v6 v7 v8 v9⟩
def Z0a (a0 : (List Int)) (a1 : (List (List Bool))) : Option (List Int) := Zafj.run (Zafi a0 a1)
theorem Zar6 (a0 : (List Int)) (a1 : (List (List Bool))) {r : (List Int)} (h : Z0a a0 a1 = some r) : FnG PR 151 [] [(wL (cI .i64) a0), (wL (cL cB) a1)] [(5000, wR (cI .i64) 1 r)] (wO (cI .i64) 5000 r) := Zafj.fn h
theorem Zaw4 (a0 : (List Int)) (a1 : (List (List Bool))) {r : (List Int)} (h : Z0a a0 a1 = some r) : Fn PR 151 [(wL (cI .i64) a0), (wL (cL cB) a1)] (wL (cI .i64) r) :=
 FnG.frozen (C := LT.RL (cI .i64) r ∧ True) (Zar6 a0 a1 h) ⟨rfl, trivial⟩ (by kernel_rfl)
def Zafk (a0 : (List Int)) (a1 : Int) : LT Empty Int :=
.len (cI .i64) a0<|.br (decide (a1 < (a0.length : Int))) (.idx (cI .i64) a0 a1 fun x3=>.rt x3)<|.rt 0
def Zafl : LF Empty Int := .z 152 [.t 4] false (fun r => []) (fun r => (wI r))
def Zaa3 (a0 : (List Int)) (a1 : Int) : Option Int := Zafl.run (Zafk a0 a1)
theorem Zya (a0 : (List Int)) (a1 : Int) {r : Int} (h : Zaa3 a0 a1 = some r) : Fn PR 152 [(wL (cI .i64) a0), (wI a1)] (wI r) := Zafl.fn h
inductive Zp6 where
 | L0 (v1 : (List Int)) (v7 : (List Int)) (v8 : Int) (v9 : Int)
def Z11 (v1 : (List Int)) (v7 : (List Int)) (v8 : Int) (v9 : Int) : LT Zp6 Int :=
.len (cI .i64) v7<|.br (decide (v9 < (v7.length : Int))) (.idx (cI .i64) v7 v9 fun x3=>.call (Zya v1 x3) fun x5=>.cs (decide (v8 < 0)) (.k5 1<|.kg 1<|.b8 true<|.kn [0]<|.ag (cI .i64) x3 0<|.g0 (.L0 v1 v7 x3 (IntKind.wrap .i64 (v9 + 1))))<|.k4 1<|.call (Zya v1 v8) fun x10=>.k2 1<|.cs (decide (x5 < x10)) (.k8 2<|.kn [0]<|.ag (cI .i64) x3 0<|.g0 (.L0 v1 v7 x3 (IntKind.wrap .i64 (v9 + 1))))<|.k4 2<|.call (Zya v1 v8) fun x15=>.k2 2<|.cs (x5 == x15) (.k3 3<|.ag (cI .i64) x3 0<|.k3 3<|.kg 2<|.kg 3<|.kg 2<|.br (decide (x3 < v8)) (.ag (cI .i64) x3 0<|.g0 (.L0 v1 v7 x3 (IntKind.wrap .i64 (v9 + 1))))<|.g0 (.L0 v1 v7 v8 (IntKind.wrap .i64 (v9 + 1))))<|.k5 3<|.kg 3<|.kg 2<|.kg 3<|.kg 2<|.kn [0]<|.g0 (.L0 v1 v7 v8 (IntKind.wrap .i64 (v9 + 1))))<|.rt v8
def Zamd (a0 : (List Int)) (a1 : (List Int)) (a2 : (List (List Bool))) : LT Zp6 Int :=
.call (Zaw4 a0 a2) fun x1=>.g0 (.L0 a1 x1 (-1) 0)
def Zame : LF Zp6 Int := ⟨103, [.t 6], false, fun | .L0 .. => [1,1,1,0,1,4],
 fun | .L0 v1 v7 v8 v9 => ⟨55, [(1, (wL (cI .i64) v1)), (7, (wL (cI .i64) v7)), (8, (wI v8)), (9, (wI v9))], []⟩,
 fun r => [], fun r => (wI r), fun | .L0 v1 v7 v8 v9 => Z11 v1 v7 v8 v9⟩
def Zahl (a0 : (List Int)) (a1 : (List Int)) (a2 : (List (List Bool))) : Option Int := Zame.run (Zamd a0 a1 a2)
theorem Zazc (a0 : (List Int)) (a1 : (List Int)) (a2 : (List (List Bool))) {r : Int} (h : Zahl a0 a1 a2 = some r) : Fn PR 103 [(wL (cI .i64) a0), (wL (cI .i64) a1), (wL (cL cB) a2)] (wI r) := Zame.fn h
inductive Zi6 where
 | L0 (v1 : (List Int)) (v2 : Int) (E0 : Zc) (v7 : (List Int)) (v8 : (List (List Bool))) (v9 : Int)
 | L1 (v1 : (List Int)) (v2 : Int) (E0 : Zc) (v7 : (List Int)) (v8 : (List (List Bool))) (v10 : Int)
 | L2 (v1 : (List Int)) (v2 : Int) (E0 : Zc) (v7 : (List Int)) (v8 : (List (List Bool))) (v10 : Int) (v11 : Int)
def Z12 (v1 : (List Int)) (v2 : Int) (E0 : Zc) (v7 : (List Int)) (v8 : (List (List Bool))) (v9 : Int) : LT Zi6 Int :=
.len Zj E0.L<|.br (decide (v9 < (E0.L.length : Int))) (.idx Zj E0.L v9 fun x3=>.dr [.lit]<|.apR (cI .i64) 8 v7 [x3.Stamp] fun x6=>.len Zj E0.L<|.mk cB 1034 1 false (E0.L.length : Int) (E0.L.length : Int) fun x9=>.mkM cB 1035 1034 x9<|.apM cB 24 v8 x9 fun x12=>.g0 (.L0 v1 v2 E0 x6 x12 (IntKind.wrap .i64 (v9 + 1))))<|.g0 (.L1 v1 v2 E0 v7 v8 0)
def Z13 (v1 : (List Int)) (v2 : Int) (E0 : Zc) (v7 : (List Int)) (v8 : (List (List Bool))) (v10 : Int) : LT Zi6 Int :=
.len (cI .i64) v1<|.br (decide (v10 < (v1.length : Int))) (.g0 (.L2 v1 v2 E0 v7 v8 v10 0))<|.rl (cI .i64) v7<|.rl (cL cB) v8<|.call (Zazc v1 v7 v8) fun x3=>.rt x3
def Z14 (v1 : (List Int)) (v2 : Int) (E0 : Zc) (v7 : (List Int)) (v8 : (List (List Bool))) (v10 : Int) (v11 : Int) : LT Zi6 Int :=
.len (cI .i64) v1<|.br (decide (v11 < (v1.length : Int))) (.idx (cI .i64) v1 v10 fun x3=>.idM cB v8 x3 fun x5=>.ldM cB v8 3<|.idx (cI .i64) v1 v11 fun x7=>.ag (cI .i64) x3 0<|.ag (cI .i64) x7 5<|.call (Zaw3 E0 x3 x7 v2) fun x9=>.idN cB v8 x5 x7 3 fun x11=>.stM cB v8 x3 x5 x7 x9 3 8 fun x13=>.dr [.ahead 47, .relen 20000008, .stop]<|.us [9]<|.us [9]<|.g0 (.L2 v1 v2 E0 v7 x13 v10 (IntKind.wrap .i64 (v11 + 1))))<|.g0 (.L1 v1 v2 E0 v7 v8 (IntKind.wrap .i64 (v10 + 1)))
def Zamf (a0 : Zc) (a1 : (List Int)) (a2 : Int) : LT Zi6 Int :=
.lb 1003<|.lb 1012<|.m0 1013<|.go (.L0 a1 a2 a0 ([] : (List Int)) ([] : (List (List Bool))) 0) [.relab 1003 30000000, .relab 1012 20000007, .relab 1013 20000008]
def Zamg : LF Zi6 Int := ⟨65, [.t 6], false, fun | .L0 .. => [1,1,1,0,1,4] | .L1 .. => [1,1,1,1,0,1,4] | .L2 .. => [1,1,1,1,0,1,4,5,1,0,4,1,4],
 fun | .L0 v1 v2 E0 v7 v8 v9 => ⟨76, [(1, (wL (cI .i64) v1)), (2, (wI v2)), (3, (.bptr 30000000 0)), (7, (wO (cI .i64) 20000007 v7)), (8, (wM (cL cB) 20000008 v8)), (9, (wI v9))], [(30000000, .box (bx (Z5 E0))), (20000007, wR (cI .i64) 1 v7), (20000008, wT (cL cB) v8)]⟩ | .L1 v1 v2 E0 v7 v8 v10 => ⟨76, [(1, (wL (cI .i64) v1)), (2, (wI v2)), (3, (.bptr 30000000 0)), (7, (wO (cI .i64) 20000007 v7)), (8, (wM (cL cB) 20000008 v8)), (10, (wI v10))], [(30000000, .box (bx (Z5 E0))), (20000007, wR (cI .i64) 1 v7), (20000008, wT (cL cB) v8)]⟩ | .L2 v1 v2 E0 v7 v8 v10 v11 => ⟨76, [(1, (wL (cI .i64) v1)), (2, (wI v2)), (3, (.bptr 30000000 0)), (7, (wO (cI .i64) 20000007 v7)), (8, (wM (cL cB) 20000008 v8)), (10, (wI v10)), (11, (wI v11))], [(30000000, .box (bx (Z5 E0))), (20000007, wR (cI .i64) 1 v7), (20000008, wT (cL cB) v8)]⟩,
 fun r => [], fun r => (wI r), fun | .L0 v1 v2 E0 v7 v8 v9 => Z12 v1 v2 E0 v7 v8 v9 | .L1 v1 v2 E0 v7 v8 v10 => Z13 v1 v2 E0 v7 v8 v10 | .L2 v1 v2 E0 v7 v8 v10 v11 => Z14 v1 v2 E0 v7 v8 v10 v11⟩
def Zahm (a0 : Zc) (a1 : (List Int)) (a2 : Int) : Option Int := Zamg.run (Zamf a0 a1 a2)
theorem Zazd (a0 : Zc) (a1 : (List Int)) (a2 : Int) {r : Int} (h : Zahm a0 a1 a2 = some r) : Fn PR 65 [(wA (Z5 a0)), (wL (cI .i64) a1), (wI a2)] (wI r) := Zamg.fn h
inductive Zjt where
 | L0 (v0 : (List Int)) (v1 : Int) (v5 : (List Int)) (v6 : Int)
def Zrn (v0 : (List Int)) (v1 : Int) (v5 : (List Int)) (v6 : Int) : LT Zjt (List Int) :=
.len (cI .i64) v0<|.br (decide (v6 < (v0.length : Int))) (.idx (cI .i64) v0 v6 fun x3=>.br (x3 != v1) (.ag (cI .i64) x3 0<|.dr [.lit]<|.apR (cI .i64) 8 v5 [x3] fun x7=>.g0 (.L0 v0 v1 x7 (IntKind.wrap .i64 (v6 + 1))))<|.g0 (.L0 v0 v1 v5 (IntKind.wrap .i64 (v6 + 1))))<|.ret v5 [.relab 20000005 5000]
def Z7n (a0 : (List Int)) (a1 : Int) : LT Zjt (List Int) :=
.go (.L0 a0 a1 ([] : (List Int)) 0) [.own 5 20000005 1]
def Z7o : LF Zjt (List Int) := ⟨67, [.t 4], true, fun | .L0 .. => [1,1,0,1,4],
 fun | .L0 v0 v1 v5 v6 => ⟨27, [(0, (wL (cI .i64) v0)), (1, (wI v1)), (5, (wO (cI .i64) 20000005 v5)), (6, (wI v6))], [(20000005, wR (cI .i64) 1 v5)]⟩,
 fun r => [(5000, wR (cI .i64) 1 r)], fun r => (wO (cI .i64) 5000 r), fun | .L0 v0 v1 v5 v6 => Zrn v0 v1 v5 v6⟩
def Z15 (a0 : (List Int)) (a1 : Int) : Option (List Int) := Z7o.run (Z7n a0 a1)
theorem Zamh (a0 : (List Int)) (a1 : Int) {r : (List Int)} (h : Z15 a0 a1 = some r) : FnG PR 67 [] [(wL (cI .i64) a0), (wI a1)] [(5000, wR (cI .i64) 1 r)] (wO (cI .i64) 5000 r) := Z7o.fn h
end
end Go.PW
