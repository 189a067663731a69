import Derived.Test.YtnoofnejcoadfaaGreatDoorQDa
set_option linter.all false
set_option maxRecDepth 100000
namespace Go.PW
open Go.RowKit
noncomputable section
def Zadr (a0 : Z3) : LT Empty Bool :=
.lb 1001<|.cs (decide (a0.Kind < 0)) (.k4 0<|.b5 true<|.kn [0]<|.rt false)<|.k4 0<|.cs (decide (a0.Kind > 7)) (.k5 1<|.kn [0]<|.rt false)<|.k2 1<|.call (Zam4 a0) fun x3=>.k3 1<|.br (!(Zas (Zah x3) (Zah (⟨0, 0, 0, (⟨0, 0, 0, 0, 0, 0, 0, ([] : List UInt8), 0, 0, (⟨0, 0⟩ : Zd), (⟨0, 0⟩ : Zd), (⟨0, 0⟩ : Zd)⟩ : Ze)⟩ : Z3)))) (.rt false)<|.br (a0.Kind == 0) (.cs (decide (a0.N ≥ 0)) (.k4 4<|.rt (decide (a0.N ≤ 1000000)))<|.k4 4<|.rt false)<|.br (a0.Kind == 2) (.cs (decide (a0.N ≥ 1)) (.k4 5<|.cs (decide (a0.N ≤ 99)) (.k3 6<|.call (Z9a a0.Filter) fun x11=>.kg 6<|.rt x11)<|.k4 6<|.rt false)<|.k4 5<|.b4 false<|.rt false)<|.br (a0.Kind == 4) (.call (Zakg a0.Counter) fun x14=>.rt (!(x14 == ([] : List UInt8))))<|.rt true
def Zads : LF Empty Bool := .z 29 [.t 2] false (fun r => []) (fun r => (wB r))
def Z9b (a0 : Z3) : Option Bool := Zads.run (Zadr a0)
theorem Zavb (a0 : Z3) {r : Bool} (h : Z9b a0 = some r) : Fn PR 29 [(wA (Zah a0))] (wB r) := Zads.fn h
def Zwz (a0 : Int) (a1 : Int) (a2 : Int) : LT Empty Bool :=
.cs (a1 == 0) (.k5 0<|.b5 true<|.rt ((Zba .and .i64 a0 a2) == 0))<|.k5 0<|.cs ((Zba .and .i64 a0 a1) != 0) (.k5 1<|.rt ((Zba .and .i64 a0 a2) == 0))<|.k5 1<|.rt false
def Zw0 : LF Empty Bool := .z 124 [.t 6] false (fun r => []) (fun r => (wB r))
def Zql (a0 : Int) (a1 : Int) (a2 : Int) : Option Bool := Zw0.run (Zwz a0 a1 a2)
theorem Zuv (a0 : Int) (a1 : Int) (a2 : Int) {r : Bool} (h : Zql a0 a1 a2 = some r) : Fn PR 124 [(wI a0), (wI a1), (wI a2)] (wB r) := Zw0.fn h
def Zadt (a0 : Zd) (a1 : Int) : LT Empty Bool :=
.lb 1002<|.br (a0.Kind == 0) (.rt true)<|.br (a0.Kind == 1) (.rt (decide (a1 ≥ a0.N)))<|.br (a0.Kind == 2) (.rt (decide (a1 ≤ a0.N)))<|.br (a0.Kind == 3) (.rt (a1 == a0.N))<|.rt false
def Zadu : LF Empty Bool := .z 126 [.t 4] false (fun r => []) (fun r => (wB r))
def Z9c (a0 : Zd) (a1 : Int) : Option Bool := Zadu.run (Zadt a0 a1)
theorem Z9d (a0 : Zd) (a1 : Int) {r : Bool} (h : Z9c a0 a1 = some r) : Fn PR 126 [(wA (Zck a0)), (wI a1)] (wB r) := Zadu.fn h
inductive Zb7 where
 | L0 (v0 : (List (List UInt8))) (v1 : (List UInt8)) (v7 : Int) (v8 : Int)
def Zbx (v0 : (List (List UInt8))) (v1 : (List UInt8)) (v7 : Int) (v8 : Int) : LT Zb7 Int :=
.br (decide (v8 < v7)) (.idx cS v0 v8 fun x2=>.br (v1 == x2) (.rt v8)<|.g0 (.L0 v0 v1 v7 (IntKind.wrap .i64 (v8 + 1))))<|.rt (-1)
def Zg8 (a0 : (List (List UInt8))) (a1 : (List UInt8)) : LT Zb7 Int :=
.len cS a0<|.g0 (.L0 a0 a1 (a0.length : Int) 0)
def Zc7 : LF Zb7 Int := ⟨189, [.t 4], false, fun | .L0 .. => [1,0,1,4],
 fun | .L0 v0 v1 v7 v8 => ⟨19, [(0, (wL cS v0)), (1, (wS v1)), (7, (wI v7)), (8, (wI v8))], []⟩,
 fun r => [], fun r => (wI r), fun | .L0 v0 v1 v7 v8 => Zbx v0 v1 v7 v8⟩
def Zhu (a0 : (List (List UInt8))) (a1 : (List UInt8)) : Option Int := Zc7.run (Zg8 a0 a1)
theorem Znc (a0 : (List (List UInt8))) (a1 : (List UInt8)) {r : Int} (h : Zhu a0 a1 = some r) : Fn PR 189 [(wL cS a0), (wS a1)] (wI r) := Zc7.fn h
def Zfz (a0 : (List (List UInt8))) (a1 : (List UInt8)) : LT Empty Bool :=
.call (Znc a0 a1) fun x1=>.rt (decide (x1 ≥ 0))
def Zf0 : LF Empty Bool := .z 162 [.t 4] false (fun r => []) (fun r => (wB r))
def Zgs (a0 : (List (List UInt8))) (a1 : (List UInt8)) : Option Bool := Zf0.run (Zfz a0 a1)
theorem Zk5 (a0 : (List (List UInt8))) (a1 : (List UInt8)) {r : Bool} (h : Zgs a0 a1 = some r) : Fn PR 162 [(wL cS a0), (wS a1)] (wB r) := Zf0.fn h
def Z57 (a0 : Zs) (a1 : (List UInt8)) : LT Empty Bool :=
.lb 1002<|.call (Zk5 a0.Subs a1) fun x1=>.rt x1
def Z58 : LF Empty Bool := .z 127 [.t 4] false (fun r => []) (fun r => (wB r))
def Z00 (a0 : Zs) (a1 : (List UInt8)) : Option Bool := Z58.run (Z57 a0 a1)
theorem Zam6 (a0 : Zs) (a1 : (List UInt8)) {r : Bool} (h : Z00 a0 a1 = some r) : Fn PR 127 [(wA (Zd6 a0)), (wS a1)] (wB r) := Z58.fn h
def Zaqd (a0 : Int) (a1 : Int) : LT Empty Bool :=
.rt ((Zba .and .i64 a0 a1) == a1)
def Z59 : LF Empty Bool := .z 128 [.t 4] false (fun r => []) (fun r => (wB r))
def Zadv (a0 : Int) (a1 : Int) : Option Bool := Z59.run (Zaqd a0 a1)
theorem Z2r (a0 : Int) (a1 : Int) {r : Bool} (h : Zadv a0 a1 = some r) : Fn PR 128 [(wI a0), (wI a1)] (wB r) := Z59.fn h
inductive Zsw where
 | L0 (E0 : Zp) (v6 : (A5 Int)) (v7 : Int)
def Zo1 (E0 : Zp) (v6 : (A5 Int)) (v7 : Int) : LT Zsw Bool :=
.br (decide (v7 < 5)) (.idX (Zf.int .i64) (A5.list v6) v7 fun x2=>.cs (decide (x2 < 0)) (.k3 1<|.kn [0]<|.rt false)<|.k3 1<|.br (decide (x2 > 9)) (.rt false)<|.g0 (.L0 E0 v6 (IntKind.wrap .i64 (v7 + 1))))<|.cs (decide (E0.Generic ≥ 0)) (.k4 1<|.cs (decide (E0.Generic ≤ 99)) (.k4 2<|.cs (decide (E0.X ≥ 0)) (.k4 3<|.rt (decide (E0.X ≤ 2)))<|.k4 3<|.rt false)<|.k4 2<|.b4 false<|.rt false)<|.k4 1<|.b8 false<|.rt false
def Zapd (a0 : Zp) : LT Zsw Bool :=
.lb 1001<|.go (.L0 a0 a0.Color 0) [.relab 1001 30000000]
def Zsx : LF Zsw Bool := ⟨163, [.t 2], false, fun | .L0 .. => [1,0,1,4],
 fun | .L0 E0 v6 v7 => ⟨35, [(1, (.bptr 30000000 0)), (6, (wA ((cA5 (cI .i64)) v6))), (7, (wI v7))], [(30000000, .box (bx (Zaq E0)))]⟩,
 fun r => [], fun r => (wB r), fun | .L0 E0 v6 v7 => Zo1 E0 v6 v7⟩
def Zam7 (a0 : Zp) : Option Bool := Zsx.run (Zapd a0)
theorem Za0a (a0 : Zp) {r : Bool} (h : Zam7 a0 = some r) : Fn PR 163 [(wA (Zaq a0))] (wB r) := Zsx.fn h
def Z01 (a0 : Int) : LT Empty Int :=
.rt (Z7q (Zte a0 (-1000000)) 1000000)
def Zadw : LF Empty Int := .z 30 [.t 2] false (fun r => []) (fun r => (wI r))
def Zsy (a0 : Int) : Option Int := Zadw.run (Z01 a0)
theorem Zgt (a0 : Int) {r : Int} (h : Zsy a0 = some r) : Fn PR 30 [(wI a0)] (wI r) := Zadw.fn h
def Z9e (a0 : Int) (a1 : Int) : LT Empty Int :=
.call (Zgt a0) fun x1=>.call (Zgt a1) fun x3=>.call (Zgt (IntKind.wrap .i64 (x1 * x3))) fun x7=>.rt x7
def Zape : LF Empty Int := .z 71 [.t 4] false (fun r => []) (fun r => (wI r))
def Z2s (a0 : Int) (a1 : Int) : Option Int := Zape.run (Z9e a0 a1)
theorem Zakh (a0 : Int) (a1 : Int) {r : Int} (h : Z2s a0 a1 = some r) : Fn PR 71 [(wI a0), (wI a1)] (wI r) := Zape.fn h
def Zapf (a0 : Int) (a1 : Int) : LT Empty Int :=
.call (Zgt a0) fun x1=>.call (Zgt a1) fun x3=>.call (Zgt (IntKind.wrap .i64 (x1 + x3))) fun x7=>.rt x7
def Zapg : LF Empty Int := .z 164 [.t 4] false (fun r => []) (fun r => (wI r))
def Zam8 (a0 : Int) (a1 : Int) : Option Int := Zapg.run (Zapf a0 a1)
theorem Za0b (a0 : Int) (a1 : Int) {r : Int} (h : Zam8 a0 a1 = some r) : Fn PR 164 [(wI a0), (wI a1)] (wI r) := Zapg.fn h
inductive Zw1 where
 | L0 (v1 : Int) (E0 : Zp) (v5 : Int) (v14 : (A5 Int)) (v15 : Int)
def Zi6 (v1 : Int) (E0 : Zp) (v5 : Int) (v14 : (A5 Int)) (v15 : Int) : LT Zw1 Int :=
.br (decide (v15 < 5)) (.idX (Zf.int .i64) (A5.list v14) v15 fun x2=>.g0 (.L0 v1 E0 (IntKind.wrap .i64 (v5 + x2)) v14 (IntKind.wrap .i64 (v15 + 1))))<|.call (Zakh E0.X (Zte 0 v1)) fun x8=>.call (Za0b v5 x8) fun x10=>.rt x10
def Z9f (a0 : Zp) (a1 : Int) : LT Zw1 Int :=
.lb 1002<|.call (Za0a a0) fun x1=>.br (!x1) (.rt 0)<|.go (.L0 a1 a0 a0.Generic a0.Color 0) [.relab 1002 30000000]
def Zo2 : LF Zw1 Int := ⟨129, [.t 4], false, fun | .L0 .. => [1,1,1,0,1,4],
 fun | .L0 v1 E0 v5 v14 v15 => ⟨29, [(1, (wI v1)), (2, (.bptr 30000000 0)), (5, (wI v5)), (14, (wA ((cA5 (cI .i64)) v14))), (15, (wI v15))], [(30000000, .box (bx (Zaq E0)))]⟩,
 fun r => [], fun r => (wI r), fun | .L0 v1 E0 v5 v14 v15 => Zi6 v1 E0 v5 v14 v15⟩
def Z4q (a0 : Zp) (a1 : Int) : Option Int := Zo2.run (Z9f a0 a1)
theorem Zaqe (a0 : Zp) (a1 : Int) {r : Int} (h : Z4q a0 a1 = some r) : Fn PR 129 [(wA (Zaq a0)), (wI a1)] (wI r) := Zo2.fn h
def Znu (a0 : Zd) (a1 : Int) (b0 : Bool) : LT Empty Bool :=
.lb 1003<|.cs (a0.Kind == 0) (.k4 0<|.rt true)<|.k2 0<|.cs b0 (.k3 1<|.call (Z9d a0 a1) fun x3=>.kg 0<|.kg 1<|.kg 0<|.rt x3)<|.k3 1<|.kg 0<|.kg 1<|.kg 0<|.rt false
def Znv (b0 : Bool) : LF Empty Bool := .z 125 [.t 5] true (fun r => [(0, .box (bx (cB b0)))]) (fun r => (wB r))
def Zjt (a0 : Zd) (a1 : Int) (b0 : Bool) : Option Bool := (Znv b0).run (Znu a0 a1 b0)
theorem Zk9 (a0 : Zd) (a1 : Int) (b0 : Bool) {r : Bool} (h : Zjt a0 a1 b0 = some r) : FnG PR 125 [(0, .box (bx (cB b0)))] [(wA (Zck a0)), (wI a1), (.bptr 0 0)] [(0, .box (bx (cB b0)))] (wB r) := (Znv b0).fn h
inductive Ze4 where
 | L0 (v3 : Int) (E0 : Zg) (E1 : Za) (E2 : Ze) (E3 : Bool) (v30 : Bool)
 | L1 (E0 : Zg) (E1 : Za) (E2 : Ze) (E3 : Bool) (v49 : Bool)
 | L2 (E0 : Zg) (E1 : Za) (E2 : Ze) (E3 : Bool) (v68 : Bool)
 | L3 (E0 : Zg) (E1 : Za) (E2 : Ze) (E3 : Bool) (v88 : Bool)
 | L4 (E0 : Za) (E1 : Ze) (E2 : Bool)
def Zeq (E0 : Za) (E1 : Ze) (E2 : Bool) : LT Ze4 Bool :=
.callO (Zk9 E1.Power E0.Power E2) [30000002] 1280000 (fun x => []) fun x1=>.cs x1 (.k5 0<|.kg 0<|.callO (Zk9 E1.Tough E0.Tough E2) [30000002] 1350000 (fun x => []) fun x4=>.kg 0<|.cs x4 (.k5 1<|.call (Zaqe E0.Cost 0) fun x7=>.kg 1<|.call (Z9d E1.Value x7) fun x9=>.kg 1<|.rt x9)<|.k5 1<|.k2 1<|.rt false)<|.k5 0<|.k2 0<|.b5 false<|.b2 false<|.rt false
def Zfo (E0 : Zg) (E1 : Za) (E2 : Ze) (E3 : Bool) (v88 : Bool) : LT Ze4 Bool :=
.br v88 (.rt false)<|.cs (E2.Tap == 1) (.k4 1<|.br (!E0.Tapped) (.kn [3]<|.rt false)<|.cs (E2.Tap == 2) (.k3 3<|.br E0.Tapped (.rt false)<|.jn 0 (.L4 E1 E2 E3) [.pick [6, 9, 13] [30000001, 30000002, 30000003], .relab 30000001 30000000, .relab 30000002 30000001, .relab 30000003 30000002] (Zeq E1 E2 E3))<|.k3 3<|.kn [0]<|.jn 0 (.L4 E1 E2 E3) [.pick [6, 9, 13] [30000001, 30000002, 30000003], .relab 30000001 30000000, .relab 30000002 30000001, .relab 30000003 30000002] (Zeq E1 E2 E3))<|.k4 1<|.kn [0]<|.cs (E2.Tap == 2) (.k3 2<|.br E0.Tapped (.rt false)<|.jn 0 (.L4 E1 E2 E3) [.pick [6, 9, 13] [30000001, 30000002, 30000003], .relab 30000001 30000000, .relab 30000002 30000001, .relab 30000003 30000002] (Zeq E1 E2 E3))<|.k3 2<|.kn [0]<|.jn 0 (.L4 E1 E2 E3) [.pick [6, 9, 13] [30000001, 30000002, 30000003], .relab 30000001 30000000, .relab 30000002 30000001, .relab 30000003 30000002] (Zeq E1 E2 E3)
def Zhl (E0 : Zg) (E1 : Za) (E2 : Ze) (E3 : Bool) (v68 : Bool) : LT Ze4 Bool :=
.br v68 (.rt false)<|.cs (!(E2.Sub == ([] : List UInt8))) (.k5 1<|.call (Zam6 E1.Line E2.Sub) fun x3=>.k2 1<|.br (!x3) (.j0 (.L3 E0 E1 E2 E3 (!x3)) (Zfo E0 E1 E2 E3 (!x3)))<|.call (Z2r E1.Keys E2.Keys) fun x6=>.j0 (.L3 E0 E1 E2 E3 (!x6)) (Zfo E0 E1 E2 E3 (!x6)))<|.k5 1<|.k2 1<|.kn [0]<|.call (Z2r E1.Keys E2.Keys) fun x8=>.j0 (.L3 E0 E1 E2 E3 (!x8)) (Zfo E0 E1 E2 E3 (!x8))
def Zdy (E0 : Zg) (E1 : Za) (E2 : Ze) (E3 : Bool) (v49 : Bool) : LT Ze4 Bool :=
.br v49 (.rt false)<|.call (Zuv E1.Line.Types E2.Types E2.NotTypes) fun x2=>.br (!x2) (.j0 (.L2 E0 E1 E2 E3 (!x2)) (Zhl E0 E1 E2 E3 (!x2)))<|.call (Zuv E1.Colors E2.Colors E2.NotColors) fun x5=>.j0 (.L2 E0 E1 E2 E3 (!x5)) (Zhl E0 E1 E2 E3 (!x5))
def Zbn (v3 : Int) (E0 : Zg) (E1 : Za) (E2 : Ze) (E3 : Bool) (v30 : Bool) : LT Ze4 Bool :=
.br v30 (.rt false)<|.cs (E2.Self == 1) (.k5 1<|.br (E0.Id != v3) (.j0 (.L1 E0 E1 E2 E3 (E0.Id != v3)) (Zdy E0 E1 E2 E3 (E0.Id != v3)))<|.cs (E2.Self == 2) (.k5 3<|.j0 (.L1 E0 E1 E2 E3 (E0.Id == v3)) (Zdy E0 E1 E2 E3 (E0.Id == v3)))<|.k5 3<|.j0 (.L1 E0 E1 E2 E3 false) (Zdy E0 E1 E2 E3 false))<|.k5 1<|.kn [0]<|.cs (E2.Self == 2) (.k5 2<|.j0 (.L1 E0 E1 E2 E3 (E0.Id == v3)) (Zdy E0 E1 E2 E3 (E0.Id == v3)))<|.k5 2<|.j0 (.L1 E0 E1 E2 E3 false) (Zdy E0 E1 E2 E3 false)
def Z2t (a0 : Zg) (a1 : Za) (a2 : Int) (a3 : Int) (a4 : Ze) : LT Ze4 Bool :=
.lb 1005<|.lb 1006<|.lb 1009<|.call (Z9a a4) fun x1=>.cs (!x1) (.k5 0<|.kg 0<|.kn [0]<|.rt false)<|.k5 0<|.kg 0<|.br (a0.Zone != a4.Zone) (.rt false)<|.lb 1011<|.cs (a4.Who == 1) (.k5 2<|.br (a1.Control != a2) (.jn 0 (.L0 a3 a0 a1 a4 ((Zba .and .i64 a1.Line.Types 1) != 0) (a1.Control != a2)) [.relab 1005 30000000, .relab 1006 30000001, .relab 1009 30000002, .relab 1011 30000003] (Zbn a3 a0 a1 a4 ((Zba .and .i64 a1.Line.Types 1) != 0) (a1.Control != a2)))<|.cs (a4.Who == 2) (.k5 4<|.jn 0 (.L0 a3 a0 a1 a4 ((Zba .and .i64 a1.Line.Types 1) != 0) (a1.Control == a2)) [.relab 1005 30000000, .relab 1006 30000001, .relab 1009 30000002, .relab 1011 30000003] (Zbn a3 a0 a1 a4 ((Zba .and .i64 a1.Line.Types 1) != 0) (a1.Control == a2)))<|.k5 4<|.jn 0 (.L0 a3 a0 a1 a4 ((Zba .and .i64 a1.Line.Types 1) != 0) false) [.relab 1005 30000000, .relab 1006 30000001, .relab 1009 30000002, .relab 1011 30000003] (Zbn a3 a0 a1 a4 ((Zba .and .i64 a1.Line.Types 1) != 0) false))<|.k5 2<|.kn [0]<|.cs (a4.Who == 2) (.k5 3<|.jn 0 (.L0 a3 a0 a1 a4 ((Zba .and .i64 a1.Line.Types 1) != 0) (a1.Control == a2)) [.relab 1005 30000000, .relab 1006 30000001, .relab 1009 30000002, .relab 1011 30000003] (Zbn a3 a0 a1 a4 ((Zba .and .i64 a1.Line.Types 1) != 0) (a1.Control == a2)))<|.k5 3<|.jn 0 (.L0 a3 a0 a1 a4 ((Zba .and .i64 a1.Line.Types 1) != 0) false) [.relab 1005 30000000, .relab 1006 30000001, .relab 1009 30000002, .relab 1011 30000003] (Zbn a3 a0 a1 a4 ((Zba .and .i64 a1.Line.Types 1) != 0) false)
def Ze5 : LF Ze4 Bool := ⟨78, [.t 10], false, fun | .L0 .. => [1,1,1,1,1,0,4,1] | .L1 .. => [1,1,1,1,1,0,4,1,3,1] | .L2 .. => [1,1,1,1,1,0,4,1,3,1,3,1] | .L3 .. => [1,1,1,1,1,0,4,1,3,1,3,1,3,1] | .L4 .. => [1,1,1,1,1,1],
 fun | .L0 v3 E0 E1 E2 E3 v30 => ⟨144, [(3, (wI v3)), (5, (.bptr 30000000 0)), (6, (.bptr 30000001 0)), (9, (.bptr 30000002 0)), (12, (.fn 124 [])), (13, (.fn 125 [(.bptr 30000003 0)])), (30, (wB v30))], [(30000000, .box (bx (Zh E0))), (30000001, .box (bx (Zk E1))), (30000002, .box (bx (Zm E2))), (30000003, .box (bx (cB E3)))]⟩ | .L1 E0 E1 E2 E3 v49 => ⟨144, [(5, (.bptr 30000000 0)), (6, (.bptr 30000001 0)), (9, (.bptr 30000002 0)), (12, (.fn 124 [])), (13, (.fn 125 [(.bptr 30000003 0)])), (49, (wB v49))], [(30000000, .box (bx (Zh E0))), (30000001, .box (bx (Zk E1))), (30000002, .box (bx (Zm E2))), (30000003, .box (bx (cB E3)))]⟩ | .L2 E0 E1 E2 E3 v68 => ⟨144, [(5, (.bptr 30000000 0)), (6, (.bptr 30000001 0)), (9, (.bptr 30000002 0)), (13, (.fn 125 [(.bptr 30000003 0)])), (68, (wB v68))], [(30000000, .box (bx (Zh E0))), (30000001, .box (bx (Zk E1))), (30000002, .box (bx (Zm E2))), (30000003, .box (bx (cB E3)))]⟩ | .L3 E0 E1 E2 E3 v88 => ⟨144, [(5, (.bptr 30000000 0)), (6, (.bptr 30000001 0)), (9, (.bptr 30000002 0)), (13, (.fn 125 [(.bptr 30000003 0)])), (88, (wB v88))], [(30000000, .box (bx (Zh E0))), (30000001, .box (bx (Zk E1))), (30000002, .box (bx (Zm E2))), (30000003, .box (bx (cB E3)))]⟩ | .L4 E0 E1 E2 => ⟨144, [(6, (.bptr 30000000 0)), (9, (.bptr 30000001 0)), (13, (.fn 125 [(.bptr 30000002 0)]))], [(30000000, .box (bx (Zk E0))), (30000001, .box (bx (Zm E1))), (30000002, .box (bx (cB E2)))]⟩,
 fun r => [], fun r => (wB r), fun | .L0 v3 E0 E1 E2 E3 v30 => Zbn v3 E0 E1 E2 E3 v30 | .L1 E0 E1 E2 E3 v49 => Zdy E0 E1 E2 E3 v49 | .L2 E0 E1 E2 E3 v68 => Zhl E0 E1 E2 E3 v68 | .L3 E0 E1 E2 E3 v88 => Zfo E0 E1 E2 E3 v88 | .L4 E0 E1 E2 => Zeq E0 E1 E2⟩
def Zw2 (a0 : Zg) (a1 : Za) (a2 : Int) (a3 : Int) (a4 : Ze) : Option Bool := Ze5.run (Z2t a0 a1 a2 a3 a4)
theorem Zaki (a0 : Zg) (a1 : Za) (a2 : Int) (a3 : Int) (a4 : Ze) {r : Bool} (h : Zw2 a0 a1 a2 a3 a4 = some r) : Fn PR 78 [(wA (Zh a0)), (wA (Zk a1)), (wI a2), (wI a3), (wA (Zm a4))] (wB r) := Ze5.fn h
inductive Zo3 where
 | L0 (v1 : (List Za)) (v2 : Int) (v3 : Int) (E0 : Ze) (v11 : (List Int)) (v16 : (List Zg)) (v17 : Int) (v18 : Int)
 | L1 (v1 : (List Za)) (v2 : Int) (v3 : Int) (E0 : Ze) (v11 : (List Int)) (E1 : Zg) (E2 : Za) (v16 : (List Zg)) (v17 : Int) (v18 : Int)
def Zi7 (v1 : (List Za)) (v2 : Int) (v3 : Int) (E0 : Ze) (v11 : (List Int)) (E1 : Zg) (E2 : Za) (v16 : (List Zg)) (v17 : Int) (v18 : Int) : LT Zo3 (List Int) :=
.call (Zaki E1 E2 v2 v3 E0) fun x1=>.br x1 (.dr [.lit]<|.apR (cI .i64) 8 v11 [E1.Id] fun x5=>.g0 (.L0 v1 v2 v3 E0 x5 v16 v17 (IntKind.wrap .i64 (v18 + 1))))<|.g0 (.L0 v1 v2 v3 E0 v11 v16 v17 (IntKind.wrap .i64 (v18 + 1)))
def Zi8 (v1 : (List Za)) (v2 : Int) (v3 : Int) (E0 : Ze) (v11 : (List Int)) (v16 : (List Zg)) (v17 : Int) (v18 : Int) : LT Zo3 (List Int) :=
.br (decide (v18 < v17)) (.idx Zh v16 v18 fun x2=>.lb 1013<|.lb 1014<|.len Zk v1<|.br (decide (v18 < (v1.length : Int))) (.idx Zk v1 v18 fun x6=>.jn 0 (.L1 v1 v2 v3 E0 v11 x2 x6 v16 v17 v18) [.relab 1013 30000001, .relab 1014 30000002] (Zi7 v1 v2 v3 E0 v11 x2 x6 v16 v17 v18))<|.jn 0 (.L1 v1 v2 v3 E0 v11 x2 (⟨([] : List UInt8), (⟨0, 0, (⟨0, 0, 0, 0, 0⟩ : (A5 Int))⟩ : Zp), 0, (⟨0, 0, ([] : (List (List UInt8)))⟩ : Zs), 0, 0, 0, ([] : (List Zj)), 0⟩ : Za) v16 v17 v18) [.relab 1013 30000001, .relab 1014 30000002, .niltb 30000002 11, .niltb 30000002 15] (Zi7 v1 v2 v3 E0 v11 x2 (⟨([] : List UInt8), (⟨0, 0, (⟨0, 0, 0, 0, 0⟩ : (A5 Int))⟩ : Zp), 0, (⟨0, 0, ([] : (List (List UInt8)))⟩ : Zs), 0, 0, 0, ([] : (List Zj)), 0⟩ : Za) v16 v17 v18))<|.ret v11 [.relab 20000011 5000]
def Z9g (a0 : Zb) (a1 : (List Za)) (a2 : Int) (a3 : Int) (a4 : Ze) : LT Zo3 (List Int) :=
.lb 1005<|.lb 1009<|.len Zh a0.Objects<|.go (.L0 a1 a2 a3 a4 ([] : (List Int)) a0.Objects (a0.Objects.length : Int) 0) [.relab 1009 30000000, .own 11 20000011 1]
def Zw3 : LF Zo3 (List Int) := ⟨42, [.t 10], true, fun | .L0 .. => [1,1,0,1,4] | .L1 .. => [1,1,0,1,4,5,1,1,0,4,1,1,1],
 fun | .L0 v1 v2 v3 E0 v11 v16 v17 v18 => ⟨44, [(1, (wL Zk v1)), (2, (wI v2)), (3, (wI v3)), (9, (.bptr 30000000 0)), (11, (wO (cI .i64) 20000011 v11)), (16, (wL Zh v16)), (17, (wI v17)), (18, (wI v18))], [(30000000, .box (bx (Zm E0))), (20000011, wR (cI .i64) 1 v11)]⟩ | .L1 v1 v2 v3 E0 v11 E1 E2 v16 v17 v18 => ⟨44, [(1, (wL Zk v1)), (2, (wI v2)), (3, (wI v3)), (9, (.bptr 30000000 0)), (11, (wO (cI .i64) 20000011 v11)), (13, (.bptr 30000001 0)), (14, (.bptr 30000002 0)), (16, (wL Zh v16)), (17, (wI v17)), (18, (wI v18))], [(30000000, .box (bx (Zm E0))), (20000011, wR (cI .i64) 1 v11), (30000001, .box (bx (Zh E1))), (30000002, .box (bx (Zk E2)))]⟩,
 fun r => [(5000, wR (cI .i64) 1 r)], fun r => (wO (cI .i64) 5000 r), fun | .L0 v1 v2 v3 E0 v11 v16 v17 v18 => Zi8 v1 v2 v3 E0 v11 v16 v17 v18 | .L1 v1 v2 v3 E0 v11 E1 E2 v16 v17 v18 => Zi7 v1 v2 v3 E0 v11 E1 E2 v16 v17 v18⟩
def Zo4 (a0 : Zb) (a1 : (List Za)) (a2 : Int) (a3 : Int) (a4 : Ze) : Option (List Int) := Zw3.run (Z9g a0 a1 a2 a3 a4)
theorem Z2u (a0 : Zb) (a1 : (List Za)) (a2 : Int) (a3 : Int) (a4 : Ze) {r : (List Int)} (h : Zo4 a0 a1 a2 a3 a4 = some r) : FnG PR 42 [] [(wA (Zo a0)), (wL Zk a1), (wI a2), (wI a3), (wA (Zm a4))] [(5000, wR (cI .i64) 1 r)] (wO (cI .i64) 5000 r) := Zw3.fn h
theorem Zaqf (a0 : Zb) (a1 : (List Za)) (a2 : Int) (a3 : Int) (a4 : Ze) {r : (List Int)} (h : Zo4 a0 a1 a2 a3 a4 = some r) : Fn PR 42 [(wA (Zo a0)), (wL Zk a1), (wI a2), (wI a3), (wA (Zm a4))] (wL (cI .i64) r) :=
 FnG.frozen (C := LT.RL (cI .i64) r ∧ True) (Z2u a0 a1 a2 a3 a4 h) ⟨rfl, trivial⟩ (by kernel_rfl)
def Znw (a0 : Zg) (b0 : Int) : LT Empty Bool :=
.lb 1002<|.rt (a0.Id == b0)
def Znx (b0 : Int) : LF Empty Bool := .z 114 [.t 3] true (fun r => [(0, .box (bx ((cI .i64) b0)))]) (fun r => (wB r))
def Zju (a0 : Zg) (b0 : Int) : Option Bool := (Znx b0).run (Znw a0 b0)
theorem Zyi (a0 : Zg) (b0 : Int) {r : Bool} (h : Zju a0 b0 = some r) : FnG PR 114 [(0, .box (bx ((cI .i64) b0)))] [(wA (Zh a0)), (.bptr 0 0)] [(0, .box (bx ((cI .i64) b0)))] (wB r) := (Znx b0).fn h
inductive Zav where
 | L0 (v0 : (List Zg)) (b0 : Int) (v7 : Int) (v8 : Int)
def Zbc (v0 : (List Zg)) (b0 : Int) (v7 : Int) (v8 : Int) : LT Zav (Int × Int) :=
.br (decide (v8 < v7)) (.idx Zh v0 v8 fun x2=>.callO (Zyi x2 b0) [0] 170000 (fun x => []) fun x4=>.br x4 (.rt (v8, b0))<|.g0 (.L0 v0 b0 v7 (IntKind.wrap .i64 (v8 + 1))))<|.rt ((-1), b0)
def Zcf (a0 : (List Zg)) (b0 : Int) : LT Zav (Int × Int) :=
.len Zh a0<|.g0 (.L0 a0 b0 (a0.length : Int) 0)
def Zcg : LF Zav (Int × Int) := ⟨113, [.t 4], true, fun | .L0 .. => [1,0,1,4],
 fun | .L0 v0 b0 v7 v8 => ⟨19, [(0, (wL Zh v0)), (1, (.fn 114 [(.bptr 0 0)])), (7, (wI v7)), (8, (wI v8))], [(0, .box (bx ((cI .i64) b0)))]⟩,
 fun r => [(0, .box (bx ((cI .i64) r.2)))], fun r => (wI r.1), fun | .L0 v0 b0 v7 v8 => Zbc v0 b0 v7 v8⟩
def Zbf (a0 : (List Zg)) (b0 : Int) : Option (Int × Int) := Zcg.run (Zcf a0 b0)
theorem Zek (a0 : (List Zg)) (b0 : Int) {r : (Int × Int)} (h : Zbf a0 b0 = some r) : FnG PR 113 [(0, .box (bx ((cI .i64) b0)))] [(wL Zh a0), (.fn 114 [(.bptr 0 0)])] [(0, .box (bx ((cI .i64) r.2)))] (wI r.1) := Zcg.fn h
def Z2v (a0 : Zb) (a1 : (List Za)) (a2 : Int) : LT Empty (Za × Bool) :=
.lb 1003<|.lb 1005<|.lb 1006<|.callU (Zek a0.Objects a2) [1005] 130000 fun x1=>.br (decide (x1.1 < 0)) (.rt ((⟨([] : List UInt8), (⟨0, 0, (⟨0, 0, 0, 0, 0⟩ : (A5 Int))⟩ : Zp), 0, (⟨0, 0, ([] : (List (List UInt8)))⟩ : Zs), 0, 0, 0, ([] : (List Zj)), 0⟩ : Za), false))<|.len Zk a1<|.br (decide (x1.1 ≥ (a1.length : Int))) (.rt ((⟨([] : List UInt8), (⟨0, 0, (⟨0, 0, 0, 0, 0⟩ : (A5 Int))⟩ : Zp), 0, (⟨0, 0, ([] : (List (List UInt8)))⟩ : Zs), 0, 0, 0, ([] : (List Zj)), 0⟩ : Za), true))<|.idx Zk a1 x1.1 fun x6=>.rt (x6, true)
def Z2w : LF Empty (Za × Bool) := .z 72 [.c 6 81 true 17, .t 7] false (fun r => []) (fun r => (.tup [(wA (Zk r.1)), (wB r.2)]))
def Zw4 (a0 : Zb) (a1 : (List Za)) (a2 : Int) : Option (Za × Bool) := Z2w.run (Z2v a0 a1 a2)
theorem Zze (a0 : Zb) (a1 : (List Za)) (a2 : Int) {r : (Za × Bool)} (h : Zw4 a0 a1 a2 = some r) : Fn PR 72 [(wA (Zo a0)), (wL Zk a1), (wI a2)] (.tup [(wA (Zk r.1)), (wB r.2)]) := Z2w.fn h
def Zp3 (a0 : Zg) (b0 : Int) : LT Empty Bool :=
.lb 1002<|.rt (a0.Id == b0)
def Zp4 (b0 : Int) : LF Empty Bool := .z 130 [.t 3] true (fun r => [(0, .box (bx ((cI .i64) b0)))]) (fun r => (wB r))
def Zlf (a0 : Zg) (b0 : Int) : Option Bool := (Zp4 b0).run (Zp3 a0 b0)
theorem Z2x (a0 : Zg) (b0 : Int) {r : Bool} (h : Zlf a0 b0 = some r) : FnG PR 130 [(0, .box (bx ((cI .i64) b0)))] [(wA (Zh a0)), (.bptr 0 0)] [(0, .box (bx ((cI .i64) b0)))] (wB r) := (Zp4 b0).fn h
inductive Zax where
 | L0 (v0 : (List Zg)) (b0 : Int) (v7 : Int) (v8 : Int)
def Zbe (v0 : (List Zg)) (b0 : Int) (v7 : Int) (v8 : Int) : LT Zax (Int × Int) :=
.br (decide (v8 < v7)) (.idx Zh v0 v8 fun x2=>.callO (Z2x x2 b0) [0] 170000 (fun x => []) fun x4=>.br x4 (.rt (v8, b0))<|.g0 (.L0 v0 b0 v7 (IntKind.wrap .i64 (v8 + 1))))<|.rt ((-1), b0)
def Zcp (a0 : (List Zg)) (b0 : Int) : LT Zax (Int × Int) :=
.len Zh a0<|.g0 (.L0 a0 b0 (a0.length : Int) 0)
def Zcq : LF Zax (Int × Int) := ⟨113, [.t 4], true, fun | .L0 .. => [1,0,1,4],
 fun | .L0 v0 b0 v7 v8 => ⟨19, [(0, (wL Zh v0)), (1, (.fn 130 [(.bptr 0 0)])), (7, (wI v7)), (8, (wI v8))], [(0, .box (bx ((cI .i64) b0)))]⟩,
 fun r => [(0, .box (bx ((cI .i64) r.2)))], fun r => (wI r.1), fun | .L0 v0 b0 v7 v8 => Zbe v0 b0 v7 v8⟩
def Zbi (a0 : (List Zg)) (b0 : Int) : Option (Int × Int) := Zcq.run (Zcp a0 b0)
theorem Zev (a0 : (List Zg)) (b0 : Int) {r : (Int × Int)} (h : Zbi a0 b0 = some r) : FnG PR 113 [(0, .box (bx ((cI .i64) b0)))] [(wL Zh a0), (.fn 130 [(.bptr 0 0)])] [(0, .box (bx ((cI .i64) r.2)))] (wI r.1) := Zcq.fn h
def Z9h (a0 : Zb) (a1 : Int) : LT Empty Int :=
.lb 1002<|.lb 1003<|.callU (Zev a0.Objects a1) [1003] 90000 fun x1=>.rt x1.1
def Z9i : LF Empty Int := .z 79 [.t 4] false (fun r => []) (fun r => (wI r))
def Z4r (a0 : Zb) (a1 : Int) : Option Int := Z9i.run (Z9h a0 a1)
theorem Zaqg (a0 : Zb) (a1 : Int) {r : Int} (h : Z4r a0 a1 = some r) : Fn PR 79 [(wA (Zo a0)), (wI a1)] (wI r) := Z9i.fn h
def Zadx (a0 : Zb) (a1 : Int) : LT Empty (Zg × Bool) :=
.lb 1002<|.lb 1004<|.call (Zaqg a0 a1) fun x1=>.br (decide (x1 < 0)) (.rt ((⟨0, 0, 0, 0, 0, false, false, false, false, 0, (⟨0, 0, 0⟩ : (A3 Int)), 0, 0, 0, false, 0, 0⟩ : Zg), false))<|.idx Zh a0.Objects x1 fun x4=>.rt (x4, true)
def Zady : LF Empty (Zg × Bool) := .z 45 [.c 4 62 true 19, .t 5] false (fun r => []) (fun r => (.tup [(wA (Zh r.1)), (wB r.2)]))
def Z9j (a0 : Zb) (a1 : Int) : Option (Zg × Bool) := Zady.run (Zadx a0 a1)
theorem Z9k (a0 : Zb) (a1 : Int) {r : (Zg × Bool)} (h : Z9j a0 a1 = some r) : Fn PR 45 [(wA (Zo a0)), (wI a1)] (.tup [(wA (Zh r.1)), (wB r.2)]) := Zady.fn h
def Zadz (a0 : Zb) (a1 : (List Za)) (a2 : Zy) (a3 : Z3) : LT Empty Int :=
.lb 1004<|.lb 1006<|.lb 1007<|.br (a3.Kind == 0) (.rt a3.N)<|.br (a3.Kind == 1) (.rt a2.X)<|.br (a3.Kind == 7) (.rt a2.Event.Amount)<|.br (a3.Kind == 2) (.call (Zaqf a0 a1 a2.You a2.Source a3.Filter) fun x5=>.len (cI .i64) x5<|.call (Zakh a3.N (x5.length : Int)) fun x8=>.rt x8)<|.br (a3.Kind == 3) (.call (Zze a0 a1 a2.Source) fun x11=>.lb 1009<|.rt x11.1.Power)<|.br (a3.Kind == 4) (.call (Z9k a0 a2.Source) fun x14=>.lb 1011<|.idA (Zf.int .i64) (A3.list x14.1.Counters) a3.Counter (bx (Zh x14.1)) 10 13 fun x16=>.ldC (Zf.int .i64) 68 x16 0<|.rt x16)<|.cs (decide (a2.You < 0)) (.k5 6<|.k2 6<|.kn [0]<|.rt 0)<|.k5 6<|.len Z2 a0.Players<|.k2 6<|.br (decide (a2.You ≥ (a0.Players.length : Int))) (.rt 0)<|.br (a3.Kind == 5) (.idx Z2 a0.Players a2.You fun x22=>.rt x22.Life)<|.idx Z2 a0.Players a2.You fun x24=>.len (cI .i64) x24.Hand<|.rt (x24.Hand.length : Int)
def Zad0 : LF Empty Int := .z 31 [.t 8] false (fun r => []) (fun r => (wI r))
def Z9l (a0 : Zb) (a1 : (List Za)) (a2 : Zy) (a3 : Z3) : Option Int := Zad0.run (Zadz a0 a1 a2 a3)
theorem Zavc (a0 : Zb) (a1 : (List Za)) (a2 : Zy) (a3 : Z3) {r : Int} (h : Z9l a0 a1 a2 a3 = some r) : Fn PR 31 [(wA (Zo a0)), (wL Zk a1), (wA (Zbo a2)), (wA (Zah a3))] (wI r) := Zad0.fn h
def Zakj (a0 : Zb) (a1 : (List Za)) (a2 : Zy) (a3 : Z3) : LT Empty Int :=
.lb 1004<|.lb 1006<|.lb 1007<|.call (Zavb a3) fun x1=>.br (!x1) (.rt 0)<|.call (Zavc a0 a1 a2 a3) fun x4=>.call (Zgt x4) fun x6=>.rt (Zte x6 0)
def Zakk : LF Empty Int := .z 12 [.t 8] false (fun r => []) (fun r => (wI r))
def Zagh (a0 : Zb) (a1 : (List Za)) (a2 : Zy) (a3 : Z3) : Option Int := Zakk.run (Zakj a0 a1 a2 a3)
theorem Zrn (a0 : Zb) (a1 : (List Za)) (a2 : Zy) (a3 : Z3) {r : Int} (h : Zagh a0 a1 a2 a3 = some r) : Fn PR 12 [(wA (Zo a0)), (wL Zk a1), (wA (Zbo a2)), (wA (Zah a3))] (wI r) := Zakk.fn h
inductive Zh6 where
 | L0 (v3 : (List Int)) (v7 : (List Zam)) (v8 : Int) (v9 : Int)
def Zo5 (v3 : (List Int)) (v7 : (List Zam)) (v8 : Int) (v9 : Int) : LT Zh6 (List Int) :=
.br (decide (v9 < v8)) (.idx Z2 v7 v9 fun x2=>.lb 1005<|.br (!x2.Lost) (.dr [.lit]<|.apR (cI .i64) 8 v3 [v9] fun x6=>.g0 (.L0 x6 v7 v8 (IntKind.wrap .i64 (v9 + 1))))<|.g0 (.L0 v3 v7 v8 (IntKind.wrap .i64 (v9 + 1))))<|.ret v3 [.relab 20000003 5000]
def Z2y (a0 : Zb) : LT Zh6 (List Int) :=
.lb 1001<|.len Z2 a0.Players<|.go (.L0 ([] : (List Int)) a0.Players (a0.Players.length : Int) 0) [.own 3 20000003 1]
def Z2z : LF Zh6 (List Int) := ⟨122, [.t 2], true, fun | .L0 .. => [1,1,0,1,4],
 fun | .L0 v3 v7 v8 v9 => ⟨23, [(3, (wO (cI .i64) 20000003 v3)), (7, (wL Z2 v7)), (8, (wI v8)), (9, (wI v9))], [(20000003, wR (cI .i64) 1 v3)]⟩,
 fun r => [(5000, wR (cI .i64) 1 r)], fun r => (wO (cI .i64) 5000 r), fun | .L0 v3 v7 v8 v9 => Zo5 v3 v7 v8 v9⟩
def Zo6 (a0 : Zb) : Option (List Int) := Z2z.run (Z2y a0)
theorem Zagi (a0 : Zb) {r : (List Int)} (h : Zo6 a0 = some r) : FnG PR 122 [] [(wA (Zo a0))] [(5000, wR (cI .i64) 1 r)] (wO (cI .i64) 5000 r) := Z2z.fn h
theorem Zakl (a0 : Zb) {r : (List Int)} (h : Zo6 a0 = some r) : Fn PR 122 [(wA (Zo a0))] (wL (cI .i64) r) :=
 FnG.frozen (C := LT.RL (cI .i64) r ∧ True) (Zagi a0 h) ⟨rfl, trivial⟩ (by kernel_rfl)
def Zw5 (a0 : Int) : LT Empty Bool :=
.rt (a0 != a0)
def Zw6 : LF Empty Bool := .z 161 [.t 2] false (fun r => []) (fun r => (wB r))
def Zqm (a0 : Int) : Option Bool := Zw6.run (Zw5 a0)
theorem Zuw (a0 : Int) {r : Bool} (h : Zqm a0 = some r) : Fn PR 161 [(wI a0)] (wB r) := Zw6.fn h
def Zsz (a0 : Int) (a1 : Int) : LT Empty Int :=
.call (Zuw a0) fun x1=>.call (Zuw a1) fun x3=>.br x1 (.br x3 (.rt 0)<|.rt (-1))<|.br x3 (.rt 1)<|.br (decide (a0 < a1)) (.rt (-1))<|.br (decide (a0 > a1)) (.rt 1)<|.rt 0
def Zs0 : LF Empty Int := .z 123 [.t 4] false (fun r => []) (fun r => (wI r))
def Znd (a0 : Int) (a1 : Int) : Option Int := Zs0.run (Zsz a0 a1)
theorem Z7f (a0 : Int) (a1 : Int) {r : Int} (h : Znd a0 a1 = some r) : Fn PR 123 [(wI a0), (wI a1)] (wI r) := Zs0.fn h
inductive Zgf where
 | L0 (v1 : Int) (E0 : Zb)
 | L1 (v1 : Int) (v5 : (List Int)) (v6 : (List Int)) (v19 : (List Int)) (v20 : Int) (v21 : Int)
def Zfp (v1 : Int) (E0 : Zb) : LT Zgf (List Int) :=
.call (Zakl E0) fun x1=>.len (cI .i64) x1<|.go (.L1 v1 ([] : (List Int)) ([] : (List Int)) x1 (x1.length : Int) 0) [.own 5 20000005 1, .own 6 20000006 1]
def Zo7 (v1 : Int) (v5 : (List Int)) (v6 : (List Int)) (v19 : (List Int)) (v20 : Int) (v21 : Int) : LT Zgf (List Int) :=
.br (decide (v21 < v20)) (.idx (cI .i64) v19 v21 fun x2=>.call (Z7f x2 v1) fun x4=>.br (x4 == (-1)) (.dr [.lit]<|.apR (cI .i64) 8 v5 [x2] fun x8=>.g0 (.L1 v1 x8 v6 v19 v20 (IntKind.wrap .i64 (v21 + 1))))<|.br (x4 == 1) (.dr [.lit]<|.apR (cI .i64) 8 v6 [x2] fun x15=>.g0 (.L1 v1 v5 x15 v19 v20 (IntKind.wrap .i64 (v21 + 1))))<|.g0 (.L1 v1 v5 v6 v19 v20 (IntKind.wrap .i64 (v21 + 1))))<|.rl (cI .i64) v5<|.apR (cI .i64) 8 v6 v5 fun x22=>.ret x22 [.relab 20000006 5000]
def Z20 (a0 : Zb) (a1 : Int) : LT Zgf (List Int) :=
.lb 1002<|.cs (decide (a1 < 0)) (.k5 0<|.kg 0<|.kn [0]<|.jn 0 (.L0 (-1) a0) [.relab 1002 30000000] (Zfp (-1) a0))<|.k4 0<|.len Z2 a0.Players<|.k2 0<|.br (decide (a1 ≥ (a0.Players.length : Int))) (.jn 0 (.L0 (-1) a0) [.relab 1002 30000000] (Zfp (-1) a0))<|.jn 0 (.L0 a1 a0) [.relab 1002 30000000] (Zfp a1 a0)
def Z21 : LF Zgf (List Int) := ⟨77, [.t 4], true, fun | .L0 .. => [1,1] | .L1 .. => [1,1,1,0,1,4],
 fun | .L0 v1 E0 => ⟨44, [(1, (wI v1)), (2, (.bptr 30000000 0))], [(30000000, .box (bx (Zo E0)))]⟩ | .L1 v1 v5 v6 v19 v20 v21 => ⟨44, [(1, (wI v1)), (5, (wO (cI .i64) 20000005 v5)), (6, (wO (cI .i64) 20000006 v6)), (19, (wL (cI .i64) v19)), (20, (wI v20)), (21, (wI v21))], [(20000005, wR (cI .i64) 1 v5), (20000006, wR (cI .i64) 1 v6)]⟩,
 fun r => [(5000, wR (cI .i64) 1 r)], fun r => (wO (cI .i64) 5000 r), fun | .L0 v1 E0 => Zfp v1 E0 | .L1 v1 v5 v6 v19 v20 v21 => Zo7 v1 v5 v6 v19 v20 v21⟩
def Zo8 (a0 : Zb) (a1 : Int) : Option (List Int) := Z21.run (Z20 a0 a1)
theorem Zw7 (a0 : Zb) (a1 : Int) {r : (List Int)} (h : Zo8 a0 a1 = some r) : FnG PR 77 [] [(wA (Zo a0)), (wI a1)] [(5000, wR (cI .i64) 1 r)] (wO (cI .i64) 5000 r) := Z21.fn h
theorem Zakm (a0 : Zb) (a1 : Int) {r : (List Int)} (h : Zo8 a0 a1 = some r) : Fn PR 77 [(wA (Zo a0)), (wI a1)] (wL (cI .i64) r) :=
 FnG.frozen (C := LT.RL (cI .i64) r ∧ True) (Zw7 a0 a1 h) ⟨rfl, trivial⟩ (by kernel_rfl)
def Z22 (a0 : Zy) (a1 : Int) : LT Empty (Zac × Bool) :=
.lb 1002<|.lb 1004<|.cs (decide (a1 < 1)) (.k5 0<|.kg 0<|.kn [0]<|.rt ((⟨0, 0⟩ : Zac), false))<|.k4 0<|.len Zbj a0.Targets<|.k2 0<|.br (decide (a1 > (a0.Targets.length : Int))) (.rt ((⟨0, 0⟩ : Zac), false))<|.idx Zbj a0.Targets (IntKind.wrap .i64 (a1 - 1)) fun x6=>.rt (x6, true)
def Z23 : LF Empty (Zac × Bool) := .z 43 [.c 4 83 true 2, .t 5] false (fun r => []) (fun r => (.tup [(wA (Zbj r.1)), (wB r.2)]))
def Zw8 (a0 : Zy) (a1 : Int) : Option (Zac × Bool) := Z23.run (Z22 a0 a1)
theorem Zzf (a0 : Zy) (a1 : Int) {r : (Zac × Bool)} (h : Zw8 a0 a1 = some r) : Fn PR 43 [(wA (Zbo a0)), (wI a1)] (.tup [(wA (Zbj r.1)), (wB r.2)]) := Z23.fn h
inductive Zfq where
 | L0 (v1 : (List Za)) (E0 : Zb) (E1 : Zy) (E2 : Zal) (v36 : Bool)
 | L1 (v1 : (List Za)) (E0 : Zb) (E1 : Zal) (E2 : Zac) (v10 : Bool)
def Zgu (v1 : (List Za)) (E0 : Zb) (E1 : Zal) (E2 : Zac) (v10 : Bool) : LT Zfq (List Int) :=
.call (Zze E0 v1 E2.Object) fun x1=>.lb 1011<|.cs v10 (.k2 0<|.cs x1.2 (.k4 1<|.br (E1.Kind == 8) (.lb 1074<|.ret [x1.1.Control] [.relab 1074 5000])<|.ret ([] : (List Int)) [.own 8 5000 1])<|.k4 1<|.kn [0]<|.ret ([] : (List Int)) [.own 8 5000 1])<|.k2 0<|.b4 false<|.kn [0]<|.ret ([] : (List Int)) [.own 8 5000 1]
def Zgv (v1 : (List Za)) (E0 : Zb) (E1 : Zy) (E2 : Zal) (v36 : Bool) : LT Zfq (List Int) :=
.br v36 (.call (Zzf E1 E2.N) fun x2=>.lb 1009<|.cs x2.2 (.k4 1<|.br (x2.1.Object == 0) (.lb 1054<|.ret [x2.1.Player] [.relab 1054 5000])<|.jn 0 (.L1 v1 E0 E2 x2.1 x2.2) [.pick [1, 4, 7, 9, 10] [1009, 30000000, 30000002], .relab 30000002 30000001, .relab 1009 30000002] (Zgu v1 E0 E2 x2.1 x2.2))<|.k4 1<|.kn [0]<|.jn 0 (.L1 v1 E0 E2 x2.1 x2.2) [.pick [1, 4, 7, 9, 10] [1009, 30000000, 30000002], .relab 30000002 30000001, .relab 1009 30000002] (Zgu v1 E0 E2 x2.1 x2.2))<|.ret ([] : (List Int)) [.own 8 5000 1]
def Zzg (a0 : Zb) (a1 : (List Za)) (a2 : Zy) (a3 : Zal) : LT Zfq (List Int) :=
.lb 1004<|.lb 1006<|.lb 1007<|.br (a3.Kind == 1) (.lb 1019<|.ret [a2.You] [.relab 1019 5000])<|.br (a3.Kind == 5) (.callF (Zw7 a0 a2.You) 260000 fun x4=>.ret x4 [.relab 265000 5000])<|.br (a3.Kind == 6) (.lb 1030<|.call (Zakm a0 a2.You) fun x8=>.apR (cI .i64) 8 [a2.You] x8 fun x10=>.ret x10 [.relab 1030 5000])<|.br (a3.Kind == 3) (.jn 0 (.L0 a1 a0 a2 a3 (a3.Kind == 3)) [.relab 1004 30000000, .relab 1006 30000001, .relab 1007 30000002] (Zgv a1 a0 a2 a3 (a3.Kind == 3)))<|.jn 0 (.L0 a1 a0 a2 a3 (a3.Kind == 8)) [.relab 1004 30000000, .relab 1006 30000001, .relab 1007 30000002] (Zgv a1 a0 a2 a3 (a3.Kind == 8))
def Zzh : LF Zfq (List Int) := ⟨37, [.t 8], true, fun | .L0 .. => [1,0,1,4,1,3,1,3,1,3,1] | .L1 .. => [1,0,1,4,1,3,1,3,1,3,1,2,1,1],
 fun | .L0 v1 E0 E1 E2 v36 => ⟨75, [(1, (wL Zk v1)), (4, (.bptr 30000000 0)), (6, (.bptr 30000001 0)), (7, (.bptr 30000002 0)), (36, (wB v36))], [(30000000, .box (bx (Zo E0))), (30000001, .box (bx (Zbo E1))), (30000002, .box (bx (Zbg E2)))]⟩ | .L1 v1 E0 E1 E2 v10 => ⟨75, [(1, (wL Zk v1)), (4, (.bptr 30000000 0)), (7, (.bptr 30000001 0)), (9, (.bptr 30000002 0)), (10, (wB v10))], [(30000000, .box (bx (Zo E0))), (30000001, .box (bx (Zbg E1))), (30000002, .box (bx (Zbj E2)))]⟩,
 fun r => [(5000, wR (cI .i64) 1 r)], fun r => (wO (cI .i64) 5000 r), fun | .L0 v1 E0 E1 E2 v36 => Zgv v1 E0 E1 E2 v36 | .L1 v1 E0 E1 E2 v10 => Zgu v1 E0 E1 E2 v10⟩
def Ztm (a0 : Zb) (a1 : (List Za)) (a2 : Zy) (a3 : Zal) : Option (List Int) := Zzh.run (Zzg a0 a1 a2 a3)
theorem Zab5 (a0 : Zb) (a1 : (List Za)) (a2 : Zy) (a3 : Zal) {r : (List Int)} (h : Ztm a0 a1 a2 a3 = some r) : FnG PR 37 [] [(wA (Zo a0)), (wL Zk a1), (wA (Zbo a2)), (wA (Zbg a3))] [(5000, wR (cI .i64) 1 r)] (wO (cI .i64) 5000 r) := Zzh.fn h
def Zny (a0 : Int) (a1 : Zb) : LT Empty Bool :=
.cs (decide (a0 < 0)) (.k5 0<|.kg 0<|.b5 true<|.b2 true<|.rt true)<|.k4 0<|.len Z2 a1.Players<|.k2 0<|.cs (decide (a0 ≥ (a1.Players.length : Int))) (.k5 1<|.k2 1<|.rt true)<|.k4 1<|.idx Z2 a1.Players a0 fun x4=>.k3 1<|.rt x4.Lost
def Znz : LF Empty Bool := .z 38 [.t 3] false (fun r => []) (fun r => (wB r))
def Zjv (a0 : Int) (a1 : Zb) : Option Bool := Znz.run (Zny a0 a1)
theorem Zl9 (a0 : Int) (a1 : Zb) {r : Bool} (h : Zjv a0 a1 = some r) : Fn PR 38 [(wI a0), (.vptr (Zo a1))] (wB r) := Znz.fn h
inductive Za8 where
 | L0 (v0 : (List Int)) (w1_0 : Zb) (v7 : Int) (v8 : Int)
def Zby (v0 : (List Int)) (w1_0 : Zb) (v7 : Int) (v8 : Int) : LT Za8 Int :=
.br (decide (v8 < v7)) (.idx (cI .i64) v0 v8 fun x2=>.call (Zl9 x2 w1_0) fun x4=>.br x4 (.rt v8)<|.g0 (.L0 v0 w1_0 v7 (IntKind.wrap .i64 (v8 + 1))))<|.rt (-1)
def Zdl (a0 : (List Int)) (a1 : Zb) : LT Za8 Int :=
.len (cI .i64) a0<|.g0 (.L0 a0 a1 (a0.length : Int) 0)
def Zdm : LF Za8 Int := ⟨76, [.t 4], false, fun | .L0 .. => [1,0,1,4],
 fun | .L0 v0 w1_0 v7 v8 => ⟨19, [(0, (wL (cI .i64) v0)), (1, (.fn 38 [(.vptr (Zo w1_0))])), (7, (wI v7)), (8, (wI v8))], []⟩,
 fun r => [], fun r => (wI r), fun | .L0 v0 w1_0 v7 v8 => Zby v0 w1_0 v7 v8⟩
def Zcc (a0 : (List Int)) (a1 : Zb) : Option Int := Zdm.run (Zdl a0 a1)
theorem Zgw (a0 : (List Int)) (a1 : Zb) {r : Int} (h : Zcc a0 a1 = some r) : Fn PR 76 [(wL (cI .i64) a0), (.fn 38 [(.vptr (Zo a1))])] (wI r) := Zdm.fn h
inductive Za1 where
 | L0 (v0 : (List Int)) (w1_0 : Zb) (v5 : Int) (v6 : Int)
def Zbk (v0 : (List Int)) (w1_0 : Zb) (v5 : Int) (v6 : Int) : LT Za1 (List Int) :=
.lenO (cI .i64) v0<|.br (decide (v6 < (v0.length : Int))) (.idxR (cI .i64) v0 v6 fun x3=>.ldR (cI .i64) v0 x3 2<|.call (Zl9 x3 w1_0) fun x5=>.br (!x5) (.idxR (cI .i64) v0 v5 fun x8=>.setR (cI .i64) v0 v5 x8 x3 5 0 [(.int .i64 x3)] rfl fun x10=>.dr [.ahead 34, .relen 20000000, .stop]<|.us [6]<|.us [6]<|.us [6]<|.us [6]<|.us [6]<|.us [6]<|.g0 (.L0 x10 w1_0 (IntKind.wrap .i64 (v5 + 1)) (IntKind.wrap .i64 (v6 + 1))))<|.g0 (.L0 v0 w1_0 v5 (IntKind.wrap .i64 (v6 + 1))))<|.tlR (cI .i64) v0 v5 0 fun x18=>.clR (cI .i64) v0 x18 0<|.dr [.ahead 39, .relen 20000000, .stop]<|.us [2]<|.us [2]<|.us [2]<|.trR (cI .i64) x18 v5 fun x20=>.ret x20 [.relab 20000000 5000]
def Zc0 (b0 : (List Int)) (a1 : Zb) : LT Za1 (List Int) :=
.rl (cI .i64) b0<|.call (Zgw b0 a1) fun x1=>.br (x1 == (-1)) (.ret b0 [.relab 0 5000])<|.go (.L0 b0 a1 x1 (IntKind.wrap .i64 (x1 + 1))) [.relab 0 20000000]
def Zc1 : LF Za1 (List Int) := ⟨36, [.t 4], true, fun | .L0 .. => [1,1,1,0,1,4],
 fun | .L0 v0 w1_0 v5 v6 => ⟨42, [(0, (wO (cI .i64) 20000000 v0)), (1, (.fn 38 [(.vptr (Zo w1_0))])), (5, (wI v5)), (6, (wI v6))], [(20000000, wR (cI .i64) 1 v0)]⟩,
 fun r => [(5000, wR (cI .i64) 1 r)], fun r => (wO (cI .i64) 5000 r), fun | .L0 v0 w1_0 v5 v6 => Zbk v0 w1_0 v5 v6⟩
def Zbq (b0 : (List Int)) (a1 : Zb) : Option (List Int) := Zc1.run (Zc0 b0 a1)
theorem Zfc (b0 : (List Int)) (a1 : Zb) {r : (List Int)} (h : Zbq b0 a1 = some r) : FnG PR 36 [(0, wR (cI .i64) 1 b0)] [(wO (cI .i64) 0 b0), (.fn 38 [(.vptr (Zo a1))])] [(5000, wR (cI .i64) 1 r)] (wO (cI .i64) 5000 r) := Zc1.fn h
def Zzi (a0 : Zb) (a1 : (List Za)) (a2 : Zy) (a3 : Zal) : LT Empty (List Int) :=
.lb 1004<|.lb 1006<|.lb 1007<|.callF (Zab5 a0 a1 a2 a3) 140000 fun x1=>.callW (Zfc x1 a0) [145000] 160000 (fun _ => ⟨rfl, Zcj (cI .i64) (fun _ => rfl) _, trivial⟩) fun x3=>.ret x3 [.relab 165000 5000]
def Zzj : LF Empty (List Int) := .z 15 [.t 8] true (fun r => [(5000, wR (cI .i64) 1 r)]) (fun r => (wO (cI .i64) 5000 r))
def Zmq (a0 : Zb) (a1 : (List Za)) (a2 : Zy) (a3 : Zal) : Option (List Int) := Zzj.run (Zzi a0 a1 a2 a3)
theorem Zlg (a0 : Zb) (a1 : (List Za)) (a2 : Zy) (a3 : Zal) {r : (List Int)} (h : Zmq a0 a1 a2 a3 = some r) : FnG PR 15 [] [(wA (Zo a0)), (wL Zk a1), (wA (Zbo a2)), (wA (Zbg a3))] [(5000, wR (cI .i64) 1 r)] (wO (cI .i64) 5000 r) := Zzj.fn h
theorem Zagj (a0 : Zb) (a1 : (List Za)) (a2 : Zy) (a3 : Zal) {r : (List Int)} (h : Zmq a0 a1 a2 a3 = some r) : Fn PR 15 [(wA (Zo a0)), (wL Zk a1), (wA (Zbo a2)), (wA (Zbg a3))] (wL (cI .i64) r) :=
 FnG.frozen (C := LT.RL (cI .i64) r ∧ True) (Zlg a0 a1 a2 a3 h) ⟨rfl, trivial⟩ (by kernel_rfl)
inductive Zo9 where
 | L0 (v0 : (List Int)) (v1 : (List Int)) (v5 : Int)
def Z02 (v0 : (List Int)) (v1 : (List Int)) (v5 : Int) : LT Zo9 Bool :=
.len (cI .i64) v0<|.br (decide (v5 < (v0.length : Int))) (.idx (cI .i64) v0 v5 fun x3=>.idx (cI .i64) v1 v5 fun x5=>.br (x3 != x5) (.rt false)<|.g0 (.L0 v0 v1 (IntKind.wrap .i64 (v5 + 1))))<|.rt true
def Zakn (a0 : (List Int)) (a1 : (List Int)) : LT Zo9 Bool :=
.len (cI .i64) a0<|.len (cI .i64) a1<|.br ((a0.length : Int) != (a1.length : Int)) (.rt false)<|.g0 (.L0 a0 a1 0)
def Zako : LF Zo9 Bool := ⟨14, [.t 4], false, fun | .L0 .. => [1,1,0,1,4],
 fun | .L0 v0 v1 v5 => ⟨26, [(0, (wL (cI .i64) v0)), (1, (wL (cI .i64) v1)), (5, (wI v5))], []⟩,
 fun r => [], fun r => (wB r), fun | .L0 v0 v1 v5 => Z02 v0 v1 v5⟩
def Zagk (a0 : (List Int)) (a1 : (List Int)) : Option Bool := Zako.run (Zakn a0 a1)
theorem Zhq (a0 : (List Int)) (a1 : (List Int)) {r : Bool} (h : Zagk a0 a1 = some r) : Fn PR 14 [(wL (cI .i64) a0), (wL (cI .i64) a1)] (wB r) := Zako.fn h
def Zn0 (a0 : Int) (a1 : Zb) : LT Empty Bool :=
.call (Z9k a1 a0) fun x1=>.lb 1004<|.rt (!x1.2)
def Zn1 : LF Empty Bool := .z 44 [.t 3] false (fun r => []) (fun r => (wB r))
def Zjw (a0 : Int) (a1 : Zb) : Option Bool := Zn1.run (Zn0 a0 a1)
theorem Zma (a0 : Int) (a1 : Zb) {r : Bool} (h : Zjw a0 a1 = some r) : Fn PR 44 [(wI a0), (.vptr (Zo a1))] (wB r) := Zn1.fn h
inductive Za9 where
 | L0 (v0 : (List Int)) (w1_0 : Zb) (v7 : Int) (v8 : Int)
def Zbz (v0 : (List Int)) (w1_0 : Zb) (v7 : Int) (v8 : Int) : LT Za9 Int :=
.br (decide (v8 < v7)) (.idx (cI .i64) v0 v8 fun x2=>.call (Zma x2 w1_0) fun x4=>.br x4 (.rt v8)<|.g0 (.L0 v0 w1_0 v7 (IntKind.wrap .i64 (v8 + 1))))<|.rt (-1)
def Zdn (a0 : (List Int)) (a1 : Zb) : LT Za9 Int :=
.len (cI .i64) a0<|.g0 (.L0 a0 a1 (a0.length : Int) 0)
def Zdo : LF Za9 Int := ⟨76, [.t 4], false, fun | .L0 .. => [1,0,1,4],
 fun | .L0 v0 w1_0 v7 v8 => ⟨19, [(0, (wL (cI .i64) v0)), (1, (.fn 44 [(.vptr (Zo w1_0))])), (7, (wI v7)), (8, (wI v8))], []⟩,
 fun r => [], fun r => (wI r), fun | .L0 v0 w1_0 v7 v8 => Zbz v0 w1_0 v7 v8⟩
def Zcd (a0 : (List Int)) (a1 : Zb) : Option Int := Zdo.run (Zdn a0 a1)
theorem Zgx (a0 : (List Int)) (a1 : Zb) {r : Int} (h : Zcd a0 a1 = some r) : Fn PR 76 [(wL (cI .i64) a0), (.fn 44 [(.vptr (Zo a1))])] (wI r) := Zdo.fn h
inductive Za2 where
 | L0 (v0 : (List Int)) (w1_0 : Zb) (v5 : Int) (v6 : Int)
def Zbl (v0 : (List Int)) (w1_0 : Zb) (v5 : Int) (v6 : Int) : LT Za2 (List Int) :=
.lenO (cI .i64) v0<|.br (decide (v6 < (v0.length : Int))) (.idxR (cI .i64) v0 v6 fun x3=>.ldR (cI .i64) v0 x3 2<|.call (Zma x3 w1_0) fun x5=>.br (!x5) (.idxR (cI .i64) v0 v5 fun x8=>.setR (cI .i64) v0 v5 x8 x3 5 0 [(.int .i64 x3)] rfl fun x10=>.dr [.ahead 34, .relen 20000000, .stop]<|.us [6]<|.us [6]<|.us [6]<|.us [6]<|.us [6]<|.us [6]<|.g0 (.L0 x10 w1_0 (IntKind.wrap .i64 (v5 + 1)) (IntKind.wrap .i64 (v6 + 1))))<|.g0 (.L0 v0 w1_0 v5 (IntKind.wrap .i64 (v6 + 1))))<|.tlR (cI .i64) v0 v5 0 fun x18=>.clR (cI .i64) v0 x18 0<|.dr [.ahead 39, .relen 20000000, .stop]<|.us [2]<|.us [2]<|.us [2]<|.trR (cI .i64) x18 v5 fun x20=>.ret x20 [.relab 20000000 5000]
def Zc2 (b0 : (List Int)) (a1 : Zb) : LT Za2 (List Int) :=
.rl (cI .i64) b0<|.call (Zgx b0 a1) fun x1=>.br (x1 == (-1)) (.ret b0 [.relab 0 5000])<|.go (.L0 b0 a1 x1 (IntKind.wrap .i64 (x1 + 1))) [.relab 0 20000000]
def Zc3 : LF Za2 (List Int) := ⟨36, [.t 4], true, fun | .L0 .. => [1,1,1,0,1,4],
 fun | .L0 v0 w1_0 v5 v6 => ⟨42, [(0, (wO (cI .i64) 20000000 v0)), (1, (.fn 44 [(.vptr (Zo w1_0))])), (5, (wI v5)), (6, (wI v6))], [(20000000, wR (cI .i64) 1 v0)]⟩,
 fun r => [(5000, wR (cI .i64) 1 r)], fun r => (wO (cI .i64) 5000 r), fun | .L0 v0 w1_0 v5 v6 => Zbl v0 w1_0 v5 v6⟩
def Zbr (b0 : (List Int)) (a1 : Zb) : Option (List Int) := Zc3.run (Zc2 b0 a1)
theorem Zae (b0 : (List Int)) (a1 : Zb) {r : (List Int)} (h : Zbr b0 a1 = some r) : FnG PR 36 [(0, wR (cI .i64) 1 b0)] [(wO (cI .i64) 0 b0), (.fn 44 [(.vptr (Zo a1))])] [(5000, wR (cI .i64) 1 r)] (wO (cI .i64) 5000 r) := Zc3.fn h
def Zzk (a0 : Zb) (a1 : (List Za)) (a2 : Zy) (a3 : Zal) : LT Empty (List Int) :=
.lb 1004<|.lb 1006<|.lb 1007<|.br (a3.Kind == 2) (.lb 1018<|.callW (Zae [a2.Source] a0) [1018] 570000 (fun _ => ⟨rfl, Zcj (cI .i64) (fun _ => rfl) _, trivial⟩) fun x3=>.ret x3 [.relab 575000 5000])<|.br (a3.Kind == 7) (.lb 1024<|.callW (Zae [a2.Event.Object] a0) [1024] 570000 (fun _ => ⟨rfl, Zcj (cI .i64) (fun _ => rfl) _, trivial⟩) fun x7=>.ret x7 [.relab 575000 5000])<|.br (a3.Kind == 4) (.callF (Z2u a0 a1 a2.You a2.Source a3.Filter) 360000 fun x10=>.callW (Zae x10 a0) [365000] 570000 (fun _ => ⟨rfl, Zcj (cI .i64) (fun _ => rfl) _, trivial⟩) fun x12=>.ret x12 [.relab 575000 5000])<|.br (a3.Kind == 3) (.call (Zzf a2 a3.N) fun x15=>.lb 1010<|.cs x15.2 (.k4 4<|.br (x15.1.Object != 0) (.lb 1053<|.callW (Zae [x15.1.Object] a0) [1053] 570000 (fun _ => ⟨rfl, Zcj (cI .i64) (fun _ => rfl) _, trivial⟩) fun x20=>.ret x20 [.relab 575000 5000])<|.dr [.ahead 56, .own 54 70000560 1, .stop]<|.callW (Zae ([] : (List Int)) a0) [70000560] 570000 (fun _ => ⟨rfl, Zcj (cI .i64) (fun _ => rfl) _, trivial⟩) fun x22=>.ret x22 [.relab 575000 5000])<|.k4 4<|.kn [0]<|.dr [.ahead 56, .own 54 70000560 1, .stop]<|.callW (Zae ([] : (List Int)) a0) [70000560] 570000 (fun _ => ⟨rfl, Zcj (cI .i64) (fun _ => rfl) _, trivial⟩) fun x24=>.ret x24 [.relab 575000 5000])<|.dr [.ahead 56, .own 54 70000560 1, .stop]<|.callW (Zae ([] : (List Int)) a0) [70000560] 570000 (fun _ => ⟨rfl, Zcj (cI .i64) (fun _ => rfl) _, trivial⟩) fun x26=>.ret x26 [.relab 575000 5000]
def Zzl : LF Empty (List Int) := .z 17 [.t 8] true (fun r => [(5000, wR (cI .i64) 1 r)]) (fun r => (wO (cI .i64) 5000 r))
def Ztn (a0 : Zb) (a1 : (List Za)) (a2 : Zy) (a3 : Zal) : Option (List Int) := Zzl.run (Zzk a0 a1 a2 a3)
theorem Zux (a0 : Zb) (a1 : (List Za)) (a2 : Zy) (a3 : Zal) {r : (List Int)} (h : Ztn a0 a1 a2 a3 = some r) : FnG PR 17 [] [(wA (Zo a0)), (wL Zk a1), (wA (Zbo a2)), (wA (Zbg a3))] [(5000, wR (cI .i64) 1 r)] (wO (cI .i64) 5000 r) := Zzl.fn h
inductive Z03 where
 | L0 (E0 : Zb) (v2 : Int)
def Zw9 (E0 : Zb) (v2 : Int) : LT Z03 Bool :=
.br (decide (v2 ≤ 3)) (.dr [.lit]<|.apR Zh 128 E0.Objects [(⟨v2, 0, 0, 0, 0, false, false, false, false, 0, (⟨0, 0, 0⟩ : (A3 Int)), 0, (-1), (-1), false, 0, 0⟩ : Zg)] fun x3=>.dr [.lit]<|.apR (cI .i64) 8 E0.Battlefield [v2] fun x7=>.g0 (.L0 (⟨E0.Players, x3, x7, E0.Exile, E0.Stack, E0.Waiting, E0.Conts, E0.Turn, E0.Active, E0.Step, E0.Begun, E0.Priority, E0.Passes, E0.NextId, E0.NextStamp, E0.Seed, E0.Extra, E0.Over, E0.Winner⟩ : Zb) (IntKind.wrap .i64 (v2 + 1))))<|.lb 1003<|.dr [.lit]<|.lb 1005<|.dr [.lit]<|.lb 1006<|.rl Zh E0.Objects<|.rl (cI .i64) E0.Battlefield<|.rl (cI .i64) E0.Exile<|.rl Zai E0.Stack<|.rl Zab E0.Waiting<|.rl Zap E0.Conts<|.rl (cI .i64) E0.Extra<|.call (Zrn E0 [(⟨([] : List UInt8), (⟨0, 0, (⟨0, 0, 0, 0, 0⟩ : (A5 Int))⟩ : Zp), 0, (⟨0, 1, ([] : (List (List UInt8)))⟩ : Zs), 4, 0, 0, ([] : (List Zj)), 0⟩ : Za), (⟨([] : List UInt8), (⟨0, 0, (⟨0, 0, 0, 0, 0⟩ : (A5 Int))⟩ : Zp), 0, (⟨0, 1, ([] : (List (List UInt8)))⟩ : Zs), 4, 0, 0, ([] : (List Zj)), 0⟩ : Za), (⟨([] : List UInt8), (⟨0, 0, (⟨0, 0, 0, 0, 0⟩ : (A5 Int))⟩ : Zp), 0, (⟨0, 1, ([] : (List (List UInt8)))⟩ : Zs), 4, 0, 0, ([] : (List Zj)), 0⟩ : Za)] (⟨0, 2, (-3), [(⟨0, 1⟩ : Zac), (⟨3, 0⟩ : Zac)], (⟨0, 0, 0, 0, 0, 0, 0, 0, 0, 0, false, false, (⟨0, 0, 0⟩ : (A3 Int))⟩ : Zej)⟩ : Zy) (⟨2, 2, 0, (⟨0, 1, 0, 1, 0, 0, 0, ([] : List UInt8), 0, 0, (⟨0, 0⟩ : Zd), (⟨0, 0⟩ : Zd), (⟨0, 0⟩ : Zd)⟩ : Ze)⟩ : Z3)) fun x14=>.cs (x14 == 6) (.k5 1<|.rl Zh E0.Objects<|.rl (cI .i64) E0.Battlefield<|.rl (cI .i64) E0.Exile<|.rl Zai E0.Stack<|.rl Zab E0.Waiting<|.rl Zap E0.Conts<|.rl (cI .i64) E0.Extra<|.call (Zrn E0 [(⟨([] : List UInt8), (⟨0, 0, (⟨0, 0, 0, 0, 0⟩ : (A5 Int))⟩ : Zp), 0, (⟨0, 1, ([] : (List (List UInt8)))⟩ : Zs), 4, 0, 0, ([] : (List Zj)), 0⟩ : Za), (⟨([] : List UInt8), (⟨0, 0, (⟨0, 0, 0, 0, 0⟩ : (A5 Int))⟩ : Zp), 0, (⟨0, 1, ([] : (List (List UInt8)))⟩ : Zs), 4, 0, 0, ([] : (List Zj)), 0⟩ : Za), (⟨([] : List UInt8), (⟨0, 0, (⟨0, 0, 0, 0, 0⟩ : (A5 Int))⟩ : Zp), 0, (⟨0, 1, ([] : (List (List UInt8)))⟩ : Zs), 4, 0, 0, ([] : (List Zj)), 0⟩ : Za)] (⟨0, 2, (-3), [(⟨0, 1⟩ : Zac), (⟨3, 0⟩ : Zac)], (⟨0, 0, 0, 0, 0, 0, 0, 0, 0, 0, false, false, (⟨0, 0, 0⟩ : (A3 Int))⟩ : Zej)⟩ : Zy) (⟨5, 0, 0, (⟨0, 0, 0, 0, 0, 0, 0, ([] : List UInt8), 0, 0, (⟨0, 0⟩ : Zd), (⟨0, 0⟩ : Zd), (⟨0, 0⟩ : Zd)⟩ : Ze)⟩ : Z3)) fun x17=>.k2 1<|.cs (x17 == 7) (.k5 2<|.rl Zh E0.Objects<|.rl (cI .i64) E0.Battlefield<|.rl (cI .i64) E0.Exile<|.rl Zai E0.Stack<|.rl Zab E0.Waiting<|.rl Zap E0.Conts<|.rl (cI .i64) E0.Extra<|.call (Zrn E0 [(⟨([] : List UInt8), (⟨0, 0, (⟨0, 0, 0, 0, 0⟩ : (A5 Int))⟩ : Zp), 0, (⟨0, 1, ([] : (List (List UInt8)))⟩ : Zs), 4, 0, 0, ([] : (List Zj)), 0⟩ : Za), (⟨([] : List UInt8), (⟨0, 0, (⟨0, 0, 0, 0, 0⟩ : (A5 Int))⟩ : Zp), 0, (⟨0, 1, ([] : (List (List UInt8)))⟩ : Zs), 4, 0, 0, ([] : (List Zj)), 0⟩ : Za), (⟨([] : List UInt8), (⟨0, 0, (⟨0, 0, 0, 0, 0⟩ : (A5 Int))⟩ : Zp), 0, (⟨0, 1, ([] : (List (List UInt8)))⟩ : Zs), 4, 0, 0, ([] : (List Zj)), 0⟩ : Za)] (⟨0, 2, (-3), [(⟨0, 1⟩ : Zac), (⟨3, 0⟩ : Zac)], (⟨0, 0, 0, 0, 0, 0, 0, 0, 0, 0, false, false, (⟨0, 0, 0⟩ : (A3 Int))⟩ : Zej)⟩ : Zy) (⟨3, 0, 0, (⟨0, 0, 0, 0, 0, 0, 0, ([] : List UInt8), 0, 0, (⟨0, 0⟩ : Zd), (⟨0, 0⟩ : Zd), (⟨0, 0⟩ : Zd)⟩ : Ze)⟩ : Z3)) fun x20=>.k2 2<|.cs (x20 == 4) (.k5 3<|.rl Zh E0.Objects<|.rl (cI .i64) E0.Battlefield<|.rl (cI .i64) E0.Exile<|.rl Zai E0.Stack<|.rl Zab E0.Waiting<|.rl Zap E0.Conts<|.rl (cI .i64) E0.Extra<|.call (Zrn E0 [(⟨([] : List UInt8), (⟨0, 0, (⟨0, 0, 0, 0, 0⟩ : (A5 Int))⟩ : Zp), 0, (⟨0, 1, ([] : (List (List UInt8)))⟩ : Zs), 4, 0, 0, ([] : (List Zj)), 0⟩ : Za), (⟨([] : List UInt8), (⟨0, 0, (⟨0, 0, 0, 0, 0⟩ : (A5 Int))⟩ : Zp), 0, (⟨0, 1, ([] : (List (List UInt8)))⟩ : Zs), 4, 0, 0, ([] : (List Zj)), 0⟩ : Za), (⟨([] : List UInt8), (⟨0, 0, (⟨0, 0, 0, 0, 0⟩ : (A5 Int))⟩ : Zp), 0, (⟨0, 1, ([] : (List (List UInt8)))⟩ : Zs), 4, 0, 0, ([] : (List Zj)), 0⟩ : Za)] (⟨0, 2, (-3), [(⟨0, 1⟩ : Zac), (⟨3, 0⟩ : Zac)], (⟨0, 0, 0, 0, 0, 0, 0, 0, 0, 0, false, false, (⟨0, 0, 0⟩ : (A3 Int))⟩ : Zej)⟩ : Zy) (⟨1, 0, 0, (⟨0, 0, 0, 0, 0, 0, 0, ([] : List UInt8), 0, 0, (⟨0, 0⟩ : Zd), (⟨0, 0⟩ : Zd), (⟨0, 0⟩ : Zd)⟩ : Ze)⟩ : Z3)) fun x23=>.k2 3<|.cs (x23 == 0) (.k5 4<|.rl Zh E0.Objects<|.rl (cI .i64) E0.Battlefield<|.rl (cI .i64) E0.Exile<|.rl Zai E0.Stack<|.rl Zab E0.Waiting<|.rl Zap E0.Conts<|.rl (cI .i64) E0.Extra<|.callS (Zlg E0 [(⟨([] : List UInt8), (⟨0, 0, (⟨0, 0, 0, 0, 0⟩ : (A5 Int))⟩ : Zp), 0, (⟨0, 1, ([] : (List (List UInt8)))⟩ : Zs), 4, 0, 0, ([] : (List Zj)), 0⟩ : Za), (⟨([] : List UInt8), (⟨0, 0, (⟨0, 0, 0, 0, 0⟩ : (A5 Int))⟩ : Zp), 0, (⟨0, 1, ([] : (List (List UInt8)))⟩ : Zs), 4, 0, 0, ([] : (List Zj)), 0⟩ : Za), (⟨([] : List UInt8), (⟨0, 0, (⟨0, 0, 0, 0, 0⟩ : (A5 Int))⟩ : Zp), 0, (⟨0, 1, ([] : (List (List UInt8)))⟩ : Zs), 4, 0, 0, ([] : (List Zj)), 0⟩ : Za)] (⟨0, 2, (-3), [(⟨0, 1⟩ : Zac), (⟨3, 0⟩ : Zac)], (⟨0, 0, 0, 0, 0, 0, 0, 0, 0, 0, false, false, (⟨0, 0, 0⟩ : (A3 Int))⟩ : Zej)⟩ : Zy) (⟨3, 1, (⟨0, 0, 0, 0, 0, 0, 0, ([] : List UInt8), 0, 0, (⟨0, 0⟩ : Zd), (⟨0, 0⟩ : Zd), (⟨0, 0⟩ : Zd)⟩ : Ze)⟩ : Zal)) 770000 (fun _ => ⟨rfl, Zcj (cI .i64) (fun _ => rfl) _, trivial⟩) fun x26=>.kg 4<|.dr [.lit]<|.kg 4<|.rl (cI .i64) x26<|.call (Zhq x26 [1]) fun x29=>.kg 4<|.cs x29 (.k5 5<|.rl Zh E0.Objects<|.rl (cI .i64) E0.Battlefield<|.rl (cI .i64) E0.Exile<|.rl Zai E0.Stack<|.rl Zab E0.Waiting<|.rl Zap E0.Conts<|.rl (cI .i64) E0.Extra<|.callS (Zlg E0 [(⟨([] : List UInt8), (⟨0, 0, (⟨0, 0, 0, 0, 0⟩ : (A5 Int))⟩ : Zp), 0, (⟨0, 1, ([] : (List (List UInt8)))⟩ : Zs), 4, 0, 0, ([] : (List Zj)), 0⟩ : Za), (⟨([] : List UInt8), (⟨0, 0, (⟨0, 0, 0, 0, 0⟩ : (A5 Int))⟩ : Zp), 0, (⟨0, 1, ([] : (List (List UInt8)))⟩ : Zs), 4, 0, 0, ([] : (List Zj)), 0⟩ : Za), (⟨([] : List UInt8), (⟨0, 0, (⟨0, 0, 0, 0, 0⟩ : (A5 Int))⟩ : Zp), 0, (⟨0, 1, ([] : (List (List UInt8)))⟩ : Zs), 4, 0, 0, ([] : (List Zj)), 0⟩ : Za)] (⟨0, 2, (-3), [(⟨0, 1⟩ : Zac), (⟨3, 0⟩ : Zac)], (⟨0, 0, 0, 0, 0, 0, 0, 0, 0, 0, false, false, (⟨0, 0, 0⟩ : (A3 Int))⟩ : Zej)⟩ : Zy) (⟨6, 0, (⟨0, 0, 0, 0, 0, 0, 0, ([] : List UInt8), 0, 0, (⟨0, 0⟩ : Zd), (⟨0, 0⟩ : Zd), (⟨0, 0⟩ : Zd)⟩ : Ze)⟩ : Zal)) 860000 (fun _ => ⟨rfl, Zcj (cI .i64) (fun _ => rfl) _, trivial⟩) fun x32=>.kg 5<|.dr [.lit]<|.kg 5<|.rl (cI .i64) x32<|.call (Zhq x32 [0, 1]) fun x35=>.kg 5<|.cs x35 (.k5 6<|.rl Zh E0.Objects<|.rl (cI .i64) E0.Battlefield<|.rl (cI .i64) E0.Exile<|.rl Zai E0.Stack<|.rl Zab E0.Waiting<|.rl Zap E0.Conts<|.rl (cI .i64) E0.Extra<|.callS (Zux E0 [(⟨([] : List UInt8), (⟨0, 0, (⟨0, 0, 0, 0, 0⟩ : (A5 Int))⟩ : Zp), 0, (⟨0, 1, ([] : (List (List UInt8)))⟩ : Zs), 4, 0, 0, ([] : (List Zj)), 0⟩ : Za), (⟨([] : List UInt8), (⟨0, 0, (⟨0, 0, 0, 0, 0⟩ : (A5 Int))⟩ : Zp), 0, (⟨0, 1, ([] : (List (List UInt8)))⟩ : Zs), 4, 0, 0, ([] : (List Zj)), 0⟩ : Za), (⟨([] : List UInt8), (⟨0, 0, (⟨0, 0, 0, 0, 0⟩ : (A5 Int))⟩ : Zp), 0, (⟨0, 1, ([] : (List (List UInt8)))⟩ : Zs), 4, 0, 0, ([] : (List Zj)), 0⟩ : Za)] (⟨0, 2, (-3), [(⟨0, 1⟩ : Zac), (⟨3, 0⟩ : Zac)], (⟨0, 0, 0, 0, 0, 0, 0, 0, 0, 0, false, false, (⟨0, 0, 0⟩ : (A3 Int))⟩ : Zej)⟩ : Zy) (⟨3, 2, (⟨0, 0, 0, 0, 0, 0, 0, ([] : List UInt8), 0, 0, (⟨0, 0⟩ : Zd), (⟨0, 0⟩ : Zd), (⟨0, 0⟩ : Zd)⟩ : Ze)⟩ : Zal)) 950000 (fun _ => ⟨rfl, Zcj (cI .i64) (fun _ => rfl) _, trivial⟩) fun x38=>.kg 6<|.dr [.lit]<|.kg 6<|.rl (cI .i64) x38<|.call (Zhq x38 [3]) fun x41=>.kg 6<|.cs x41 (.k5 7<|.rl Zh E0.Objects<|.rl (cI .i64) E0.Battlefield<|.rl (cI .i64) E0.Exile<|.rl Zai E0.Stack<|.rl Zab E0.Waiting<|.rl Zap E0.Conts<|.rl (cI .i64) E0.Extra<|.callS (Zux E0 [(⟨([] : List UInt8), (⟨0, 0, (⟨0, 0, 0, 0, 0⟩ : (A5 Int))⟩ : Zp), 0, (⟨0, 1, ([] : (List (List UInt8)))⟩ : Zs), 4, 0, 0, ([] : (List Zj)), 0⟩ : Za), (⟨([] : List UInt8), (⟨0, 0, (⟨0, 0, 0, 0, 0⟩ : (A5 Int))⟩ : Zp), 0, (⟨0, 1, ([] : (List (List UInt8)))⟩ : Zs), 4, 0, 0, ([] : (List Zj)), 0⟩ : Za), (⟨([] : List UInt8), (⟨0, 0, (⟨0, 0, 0, 0, 0⟩ : (A5 Int))⟩ : Zp), 0, (⟨0, 1, ([] : (List (List UInt8)))⟩ : Zs), 4, 0, 0, ([] : (List Zj)), 0⟩ : Za)] (⟨0, 2, (-3), [(⟨0, 1⟩ : Zac), (⟨3, 0⟩ : Zac)], (⟨0, 0, 0, 0, 0, 0, 0, 0, 0, 0, false, false, (⟨0, 0, 0⟩ : (A3 Int))⟩ : Zej)⟩ : Zy) (⟨2, 0, (⟨0, 0, 0, 0, 0, 0, 0, ([] : List UInt8), 0, 0, (⟨0, 0⟩ : Zd), (⟨0, 0⟩ : Zd), (⟨0, 0⟩ : Zd)⟩ : Ze)⟩ : Zal)) 1040000 (fun _ => ⟨rfl, Zcj (cI .i64) (fun _ => rfl) _, trivial⟩) fun x44=>.kg 7<|.dr [.lit]<|.kg 7<|.rl (cI .i64) x44<|.call (Zhq x44 [2]) fun x47=>.kg 7<|.rt x47)<|.k8 7<|.rt false)<|.k8 6<|.b8 false<|.rt false)<|.k8 5<|.b16 false<|.rt false)<|.k8 4<|.b16 false<|.b8 false<|.rt false)<|.k5 3<|.k2 3<|.b16 false<|.b16 false<|.rt false)<|.k5 2<|.k2 2<|.b16 false<|.b16 false<|.b5 false<|.b2 false<|.rt false)<|.k5 1<|.k2 1<|.b16 false<|.b16 false<|.b8 false<|.b5 false<|.kb false<|.rt false
def Zad1 : LT Z03 Bool :=
.dr [.lit]<|.dr [.lit]<|.lb 1001<|.go (.L0 (⟨[(⟨7, 0, 0, (⟨0, 0, 0, 0, 0, 0⟩ : (A6 Int)), false, false, ([] : (List Int)), ([] : (List Int)), ([] : (List Int))⟩ : Zam), (⟨20, 0, 0, (⟨0, 0, 0, 0, 0, 0⟩ : (A6 Int)), false, false, ([] : (List Int)), [4], ([] : (List Int))⟩ : Zam)], ([] : (List Zg)), ([] : (List Int)), ([] : (List Int)), ([] : (List Zee)), ([] : (List Zd4)), ([] : (List Zgo)), 0, 0, 0, false, 0, 0, 5, 0, 0, ([] : (List Int)), 0, 0⟩ : Zb) 1) [.relab 1001 30000000, .ownb 30000000 1 40000001 19, .ownb 30000000 2 40000002 1, .ownb 30000000 3 40000003 1, .ownb 30000000 4 40000004 94, .ownb 30000000 5 40000005 89, .ownb 30000000 6 40000006 6, .ownb 30000000 16 40000016 1]
def Z04 : LF Z03 Bool := ⟨10, [.t 0], false, fun | .L0 .. => [1,1,0,1,4],
 fun | .L0 E0 v2 => ⟨107, [(1, (.bptr 30000000 0)), (2, (wI v2))], [(30000000, .box [(wL Z2 E0.Players), (wO Zh 40000001 E0.Objects), (wO (cI .i64) 40000002 E0.Battlefield), (wO (cI .i64) 40000003 E0.Exile), (wO Zai 40000004 E0.Stack), (wO Zab 40000005 E0.Waiting), (wO Zap 40000006 E0.Conts), (wI E0.Turn), (wI E0.Active), (wI E0.Step), (wB E0.Begun), (wI E0.Priority), (wI E0.Passes), (wI E0.NextId), (wI E0.NextStamp), (.t (.int .u64 E0.Seed)), (wO (cI .i64) 40000016 E0.Extra), (wI E0.Over), (wI E0.Winner)]), (40000001, wR Zh 19 E0.Objects), (40000002, wR (cI .i64) 1 E0.Battlefield), (40000003, wR (cI .i64) 1 E0.Exile), (40000004, wR Zai 94 E0.Stack), (40000005, wR Zab 89 E0.Waiting), (40000006, wR Zap 6 E0.Conts), (40000016, wR (cI .i64) 1 E0.Extra)]⟩,
 fun r => [], fun r => (wB r), fun | .L0 E0 v2 => Zw9 E0 v2⟩
def Z9m : Option Bool := Z04.run (Zad1)
theorem Zxa {r : Bool} (h : Z9m = some r) : Fn PR 10 [] (wB r) := Z04.fn h
inductive Zkk where
 | L0 (E0 : Zp) (v3 : Int) (v4 : Int) (v5 : Int)
def Zto (E0 : Zp) (v3 : Int) (v4 : Int) (v5 : Int) : LT Zkk Int :=
.br (decide (v5 < 5)) (.idA (Zf.int .i64) (A5.list E0.Color) v5 (bx (Zaq E0)) 2 7 fun x2=>.ldC (Zf.int .i64) 16 x2 0<|.br (decide (x2 > 0)) (.g0 (.L0 E0 (IntKind.wrap .i64 (v3 + v4)) (IntKind.wrap .i64 (2 * v4)) (IntKind.wrap .i64 (v5 + 1))))<|.g0 (.L0 E0 v3 (IntKind.wrap .i64 (2 * v4)) (IntKind.wrap .i64 (v5 + 1))))<|.rt v3
def Z9n (a0 : Zp) : LT Zkk Int :=
.lb 1001<|.call (Zr7 a0) fun x1=>.br (!x1) (.rt 0)<|.go (.L0 a0 0 1 0) [.relab 1001 30000000]
def Z9o : LF Zkk Int := ⟨148, [.t 2], false, fun | .L0 .. => [1,1,1,1,0,1,4],
 fun | .L0 E0 v3 v4 v5 => ⟨24, [(1, (.bptr 30000000 0)), (3, (wI v3)), (4, (wI v4)), (5, (wI v5))], [(30000000, .box (bx (Zaq E0)))]⟩,
 fun r => [], fun r => (wI r), fun | .L0 E0 v3 v4 v5 => Zto E0 v3 v4 v5⟩
def Z4s (a0 : Zp) : Option Int := Z9o.run (Z9n a0)
theorem Zaqh (a0 : Zp) {r : Int} (h : Z4s a0 = some r) : Fn PR 148 [(wA (Zaq a0))] (wI r) := Z9o.fn h
inductive Zi9 where
 | L0 (E0 : Zj) (E1 : Zj) (E2 : Zj) (v4 : Int)
def Zqn (E0 : Zj) (E1 : Zj) (E2 : Zj) (v4 : Int) : LT Zi9 Zj :=
.len Z5 E0.Effects<|.br (decide (v4 < (E0.Effects.length : Int))) (.idx Z5 E0.Effects v4 fun x3=>.lb 1005<|.lb 1030<|.apR Z0 176 ([] : (List Zr)) x3.Mods fun x5=>.dr [.ahead 38, .pick [37, 36, 35, 34, 33, 32, 31, 5, 29, 28, 27, 26, 25, 22, 21, 20, 19, 18, 1, 2, 3, 4] [1005, 1030, 30000000, 30000001, 40000117, 40000148, 40000149, 30000002, 40000217, 40000248, 40000249], .frz 1030, .stop]<|.rl Z0 x5<|.rl Z0 x5<|.rl Z0 x5<|.dr [.lit]<|.apR Z5 560 E2.Effects [(⟨x3.Op, x3.Ref, x3.Amount, x3.Counter, x3.Zone, x3.Card, x3.Filter, x3.Pool, x5⟩ : Zz)] fun x9=>.g0 (.L0 E0 E1 (⟨E2.Kind, E2.Filter, E2.Mods, E2.Price, E2.Slow, E2.Trigger, E2.May, E2.Specs, x9, E2.Replace⟩ : Zj) (IntKind.wrap .i64 (v4 + 1))))<|.ret E2 [.relab 40000217 5017, .relab 40000248 5048, .relab 40000249 5049]
def Z6a (a0 : Zj) : LT Zi9 Zj :=
.lb 1001<|.lb 1002<|.lb 1003<|.lb 1007<|.apR Z0 176 ([] : (List Zr)) a0.Mods fun x1=>.lb 1012<|.apR Za6 144 ([] : (List Zcs)) a0.Specs fun x4=>.go (.L0 a0 (⟨0, (⟨0, 0, 0, 0, 0, 0, 0, ([] : List UInt8), 0, 0, (⟨0, 0⟩ : Zd), (⟨0, 0⟩ : Zd), (⟨0, 0⟩ : Zd)⟩ : Ze), ([] : (List Zr)), (⟨(⟨0, 0, (⟨0, 0, 0, 0, 0⟩ : (A5 Int))⟩ : Zp), false, false, 0⟩ : Zfj), false, (⟨0, 0, (⟨0, 0, 0, 0, 0, 0, 0, ([] : List UInt8), 0, 0, (⟨0, 0⟩ : Zd), (⟨0, 0⟩ : Zd), (⟨0, 0⟩ : Zd)⟩ : Ze)⟩ : Zb6), false, ([] : (List Zcs)), ([] : (List Zz)), (⟨0, 0, (⟨0, 0, 0, 0, 0, 0, 0, ([] : List UInt8), 0, 0, (⟨0, 0⟩ : Zd), (⟨0, 0⟩ : Zd), (⟨0, 0⟩ : Zd)⟩ : Ze), 0, 0, 0, 0⟩ : Zay)⟩ : Zj) (⟨a0.Kind, a0.Filter, x1, a0.Price, a0.Slow, a0.Trigger, a0.May, x4, ([] : (List Zz)), a0.Replace⟩ : Zj) 0) [.relab 1001 30000000, .relab 1002 30000001, .relab 1003 30000002, .ownb 30000001 17 40000117 20, .ownb 30000001 48 40000148 18, .ownb 30000001 49 40000149 64, .relab 1007 40000217, .relab 1012 40000248, .ownb 30000002 49 40000249 64]
def Z6b : LF Zi9 Zj := ⟨149, [.c 2 144 true 72], true, fun | .L0 .. => [1,1,1,1,1,0,1,4],
 fun | .L0 E0 E1 E2 v4 => ⟨42, [(1, (.bptr 30000000 0)), (2, (.bptr 30000001 0)), (3, (.bptr 30000002 0)), (4, (wI v4))], [(30000000, .box (bx (Zu E0))), (30000001, .box [(wI E1.Kind), (wI E1.Filter.Zone), (wI E1.Filter.Who), (wI E1.Filter.Self), (wI E1.Filter.Types), (wI E1.Filter.NotTypes), (wI E1.Filter.Colors), (wI E1.Filter.NotColors), (wS E1.Filter.Sub), (wI E1.Filter.Keys), (wI E1.Filter.Tap), (wI E1.Filter.Power.Kind), (wI E1.Filter.Power.N), (wI E1.Filter.Tough.Kind), (wI E1.Filter.Tough.N), (wI E1.Filter.Value.Kind), (wI E1.Filter.Value.N), (wO Z0 40000117 E1.Mods), (wI E1.Price.Mana.Generic), (wI E1.Price.Mana.X), (wI E1.Price.Mana.Color.a0), (wI E1.Price.Mana.Color.a1), (wI E1.Price.Mana.Color.a2), (wI E1.Price.Mana.Color.a3), (wI E1.Price.Mana.Color.a4), (wB E1.Price.Tap), (wB E1.Price.Sacrifice), (wI E1.Price.Life), (wB E1.Slow), (wI E1.Trigger.When), (wI E1.Trigger.Who), (wI E1.Trigger.Filter.Zone), (wI E1.Trigger.Filter.Who), (wI E1.Trigger.Filter.Self), (wI E1.Trigger.Filter.Types), (wI E1.Trigger.Filter.NotTypes), (wI E1.Trigger.Filter.Colors), (wI E1.Trigger.Filter.NotColors), (wS E1.Trigger.Filter.Sub), (wI E1.Trigger.Filter.Keys), (wI E1.Trigger.Filter.Tap), (wI E1.Trigger.Filter.Power.Kind), (wI E1.Trigger.Filter.Power.N), (wI E1.Trigger.Filter.Tough.Kind), (wI E1.Trigger.Filter.Tough.N), (wI E1.Trigger.Filter.Value.Kind), (wI E1.Trigger.Filter.Value.N), (wB E1.May), (wO Za6 40000148 E1.Specs), (wO Z5 40000149 E1.Effects), (wI E1.Replace.On), (wI E1.Replace.Who), (wI E1.Replace.Filter.Zone), (wI E1.Replace.Filter.Who), (wI E1.Replace.Filter.Self), (wI E1.Replace.Filter.Types), (wI E1.Replace.Filter.NotTypes), (wI E1.Replace.Filter.Colors), (wI E1.Replace.Filter.NotColors), (wS E1.Replace.Filter.Sub), (wI E1.Replace.Filter.Keys), (wI E1.Replace.Filter.Tap), (wI E1.Replace.Filter.Power.Kind), (wI E1.Replace.Filter.Power.N), (wI E1.Replace.Filter.Tough.Kind), (wI E1.Replace.Filter.Tough.N), (wI E1.Replace.Filter.Value.Kind), (wI E1.Replace.Filter.Value.N), (wI E1.Replace.Do), (wI E1.Replace.N), (wI E1.Replace.Zone), (wI E1.Replace.Counter)]), (40000117, wR Z0 20 E1.Mods), (40000148, wR Za6 18 E1.Specs), (40000149, wR Z5 64 E1.Effects), (30000002, .box [(wI E2.Kind), (wI E2.Filter.Zone), (wI E2.Filter.Who), (wI E2.Filter.Self), (wI E2.Filter.Types), (wI E2.Filter.NotTypes), (wI E2.Filter.Colors), (wI E2.Filter.NotColors), (wS E2.Filter.Sub), (wI E2.Filter.Keys), (wI E2.Filter.Tap), (wI E2.Filter.Power.Kind), (wI E2.Filter.Power.N), (wI E2.Filter.Tough.Kind), (wI E2.Filter.Tough.N), (wI E2.Filter.Value.Kind), (wI E2.Filter.Value.N), (wO Z0 40000217 E2.Mods), (wI E2.Price.Mana.Generic), (wI E2.Price.Mana.X), (wI E2.Price.Mana.Color.a0), (wI E2.Price.Mana.Color.a1), (wI E2.Price.Mana.Color.a2), (wI E2.Price.Mana.Color.a3), (wI E2.Price.Mana.Color.a4), (wB E2.Price.Tap), (wB E2.Price.Sacrifice), (wI E2.Price.Life), (wB E2.Slow), (wI E2.Trigger.When), (wI E2.Trigger.Who), (wI E2.Trigger.Filter.Zone), (wI E2.Trigger.Filter.Who), (wI E2.Trigger.Filter.Self), (wI E2.Trigger.Filter.Types), (wI E2.Trigger.Filter.NotTypes), (wI E2.Trigger.Filter.Colors), (wI E2.Trigger.Filter.NotColors), (wS E2.Trigger.Filter.Sub), (wI E2.Trigger.Filter.Keys), (wI E2.Trigger.Filter.Tap), (wI E2.Trigger.Filter.Power.Kind), (wI E2.Trigger.Filter.Power.N), (wI E2.Trigger.Filter.Tough.Kind), (wI E2.Trigger.Filter.Tough.N), (wI E2.Trigger.Filter.Value.Kind), (wI E2.Trigger.Filter.Value.N), (wB E2.May), (wO Za6 40000248 E2.Specs), (wO Z5 40000249 E2.Effects), (wI E2.Replace.On), (wI E2.Replace.Who), (wI E2.Replace.Filter.Zone), (wI E2.Replace.Filter.Who), (wI E2.Replace.Filter.Self), (wI E2.Replace.Filter.Types), (wI E2.Replace.Filter.NotTypes), (wI E2.Replace.Filter.Colors), (wI E2.Replace.Filter.NotColors), (wS E2.Replace.Filter.Sub), (wI E2.Replace.Filter.Keys), (wI E2.Replace.Filter.Tap), (wI E2.Replace.Filter.Power.Kind), (wI E2.Replace.Filter.Power.N), (wI E2.Replace.Filter.Tough.Kind), (wI E2.Replace.Filter.Tough.N), (wI E2.Replace.Filter.Value.Kind), (wI E2.Replace.Filter.Value.N), (wI E2.Replace.Do), (wI E2.Replace.N), (wI E2.Replace.Zone), (wI E2.Replace.Counter)]), (40000217, wR Z0 20 E2.Mods), (40000248, wR Za6 18 E2.Specs), (40000249, wR Z5 64 E2.Effects)]⟩,
 fun r => [(5017, wR Z0 20 r.Mods), (5048, wR Za6 18 r.Specs), (5049, wR Z5 64 r.Effects)], fun r => (.agg [(wI r.Kind), (wI r.Filter.Zone), (wI r.Filter.Who), (wI r.Filter.Self), (wI r.Filter.Types), (wI r.Filter.NotTypes), (wI r.Filter.Colors), (wI r.Filter.NotColors), (wS r.Filter.Sub), (wI r.Filter.Keys), (wI r.Filter.Tap), (wI r.Filter.Power.Kind), (wI r.Filter.Power.N), (wI r.Filter.Tough.Kind), (wI r.Filter.Tough.N), (wI r.Filter.Value.Kind), (wI r.Filter.Value.N), (wO Z0 5017 r.Mods), (wI r.Price.Mana.Generic), (wI r.Price.Mana.X), (wI r.Price.Mana.Color.a0), (wI r.Price.Mana.Color.a1), (wI r.Price.Mana.Color.a2), (wI r.Price.Mana.Color.a3), (wI r.Price.Mana.Color.a4), (wB r.Price.Tap), (wB r.Price.Sacrifice), (wI r.Price.Life), (wB r.Slow), (wI r.Trigger.When), (wI r.Trigger.Who), (wI r.Trigger.Filter.Zone), (wI r.Trigger.Filter.Who), (wI r.Trigger.Filter.Self), (wI r.Trigger.Filter.Types), (wI r.Trigger.Filter.NotTypes), (wI r.Trigger.Filter.Colors), (wI r.Trigger.Filter.NotColors), (wS r.Trigger.Filter.Sub), (wI r.Trigger.Filter.Keys), (wI r.Trigger.Filter.Tap), (wI r.Trigger.Filter.Power.Kind), (wI r.Trigger.Filter.Power.N), (wI r.Trigger.Filter.Tough.Kind), (wI r.Trigger.Filter.Tough.N), (wI r.Trigger.Filter.Value.Kind), (wI r.Trigger.Filter.Value.N), (wB r.May), (wO Za6 5048 r.Specs), (wO Z5 5049 r.Effects), (wI r.Replace.On), (wI r.Replace.Who), (wI r.Replace.Filter.Zone), (wI r.Replace.Filter.Who), (wI r.Replace.Filter.Self), (wI r.Replace.Filter.Types), (wI r.Replace.Filter.NotTypes), (wI r.Replace.Filter.Colors), (wI r.Replace.Filter.NotColors), (wS r.Replace.Filter.Sub), (wI r.Replace.Filter.Keys), (wI r.Replace.Filter.Tap), (wI r.Replace.Filter.Power.Kind), (wI r.Replace.Filter.Power.N), (wI r.Replace.Filter.Tough.Kind), (wI r.Replace.Filter.Tough.N), (wI r.Replace.Filter.Value.Kind), (wI r.Replace.Filter.Value.N), (wI r.Replace.Do), (wI r.Replace.N), (wI r.Replace.Zone), (wI r.Replace.Counter)]), fun | .L0 E0 E1 E2 v4 => Zqn E0 E1 E2 v4⟩
def Zro (a0 : Zj) : Option Zj := Z6b.run (Z6a a0)
theorem Zakp (a0 : Zj) {r : Zj} (h : Zro a0 = some r) : FnG PR 149 [] [(wA (Zu a0))] [(5017, wR Z0 20 r.Mods), (5048, wR Za6 18 r.Specs), (5049, wR Z5 64 r.Effects)] (.agg [(wI r.Kind), (wI r.Filter.Zone), (wI r.Filter.Who), (wI r.Filter.Self), (wI r.Filter.Types), (wI r.Filter.NotTypes), (wI r.Filter.Colors), (wI r.Filter.NotColors), (wS r.Filter.Sub), (wI r.Filter.Keys), (wI r.Filter.Tap), (wI r.Filter.Power.Kind), (wI r.Filter.Power.N), (wI r.Filter.Tough.Kind), (wI r.Filter.Tough.N), (wI r.Filter.Value.Kind), (wI r.Filter.Value.N), (wO Z0 5017 r.Mods), (wI r.Price.Mana.Generic), (wI r.Price.Mana.X), (wI r.Price.Mana.Color.a0), (wI r.Price.Mana.Color.a1), (wI r.Price.Mana.Color.a2), (wI r.Price.Mana.Color.a3), (wI r.Price.Mana.Color.a4), (wB r.Price.Tap), (wB r.Price.Sacrifice), (wI r.Price.Life), (wB r.Slow), (wI r.Trigger.When), (wI r.Trigger.Who), (wI r.Trigger.Filter.Zone), (wI r.Trigger.Filter.Who), (wI r.Trigger.Filter.Self), (wI r.Trigger.Filter.Types), (wI r.Trigger.Filter.NotTypes), (wI r.Trigger.Filter.Colors), (wI r.Trigger.Filter.NotColors), (wS r.Trigger.Filter.Sub), (wI r.Trigger.Filter.Keys), (wI r.Trigger.Filter.Tap), (wI r.Trigger.Filter.Power.Kind), (wI r.Trigger.Filter.Power.N), (wI r.Trigger.Filter.Tough.Kind), (wI r.Trigger.Filter.Tough.N), (wI r.Trigger.Filter.Value.Kind), (wI r.Trigger.Filter.Value.N), (wB r.May), (wO Za6 5048 r.Specs), (wO Z5 5049 r.Effects), (wI r.Replace.On), (wI r.Replace.Who), (wI r.Replace.Filter.Zone), (wI r.Replace.Filter.Who), (wI r.Replace.Filter.Self), (wI r.Replace.Filter.Types), (wI r.Replace.Filter.NotTypes), (wI r.Replace.Filter.Colors), (wI r.Replace.Filter.NotColors), (wS r.Replace.Filter.Sub), (wI r.Replace.Filter.Keys), (wI r.Replace.Filter.Tap), (wI r.Replace.Filter.Power.Kind), (wI r.Replace.Filter.Power.N), (wI r.Replace.Filter.Tough.Kind), (wI r.Replace.Filter.Tough.N), (wI r.Replace.Filter.Value.Kind), (wI r.Replace.Filter.Value.N), (wI r.Replace.Do), (wI r.Replace.N), (wI r.Replace.Zone), (wI r.Replace.Counter)]) := Z6b.fn h
theorem Zam9 (a0 : Zj) {r : Zj} (h : Zro a0 = some r) : Fn PR 149 [(wA (Zu a0))] (wA (Zu r)) :=
 FnG.frozen (C := LT.RL Z0 r.Mods ∧ LT.RL Za6 r.Specs ∧ LT.RL Z5 r.Effects ∧ True) (Zakp a0 h) ⟨rfl, rfl, rfl, trivial⟩ (by kernel_rfl)
inductive Zja where
 | L0 (E0 : Zn) (E1 : Za) (E2 : Za) (v4 : Int)
def Zqo (E0 : Zn) (E1 : Za) (E2 : Za) (v4 : Int) : LT Zja Za :=
.len Zu E0.Abilities<|.br (decide (v4 < (E0.Abilities.length : Int))) (.idx Zu E0.Abilities v4 fun x3=>.call (Zam9 x3) fun x5=>.dr [.lit]<|.apR Zu 640 E2.Abilities [x5] fun x8=>.g0 (.L0 E0 E1 (⟨E2.Name, E2.Cost, E2.Colors, E2.Line, E2.Power, E2.Tough, E2.Keys, x8, E2.Control⟩ : Za) (IntKind.wrap .i64 (v4 + 1))))<|.ret E2 [.relab 40000211 5011, .relab 40000215 5015]
def Z6c (a0 : Zn) : LT Zja Za :=
.lb 1001<|.lb 1002<|.call (Zaqh a0.Cost) fun x1=>.lb 1003<|.lb 1024<|.apR cS 16 ([] : (List (List UInt8))) a0.Line.Subs fun x3=>.go (.L0 a0 (⟨([] : List UInt8), (⟨0, 0, (⟨0, 0, 0, 0, 0⟩ : (A5 Int))⟩ : Zp), 0, (⟨0, 0, ([] : (List (List UInt8)))⟩ : Zs), 0, 0, 0, ([] : (List Zj)), 0⟩ : Za) (⟨a0.Name, a0.Cost, Zba .or .i64 x1 a0.Color, (⟨a0.Line.Super, a0.Line.Types, x3⟩ : Zs), a0.Power, a0.Tough, a0.Keys, ([] : (List Zj)), 0⟩ : Za) 0) [.relab 1001 30000000, .relab 1002 30000001, .relab 1003 30000002, .ownb 30000001 11 40000111 1, .ownb 30000001 15 40000115 72, .relab 1024 40000211, .ownb 30000002 15 40000215 72]
def Z6d : LF Zja Za := ⟨98, [.c 2 81 true 17], true, fun | .L0 .. => [1,1,1,0,1,4],
 fun | .L0 E0 E1 E2 v4 => ⟨50, [(1, (.bptr 30000000 0)), (2, (.bptr 30000001 0)), (3, (.bptr 30000002 0)), (4, (wI v4))], [(30000000, .box (bx (Z6 E0))), (30000001, .box [(wS E1.Name), (wI E1.Cost.Generic), (wI E1.Cost.X), (wI E1.Cost.Color.a0), (wI E1.Cost.Color.a1), (wI E1.Cost.Color.a2), (wI E1.Cost.Color.a3), (wI E1.Cost.Color.a4), (wI E1.Colors), (wI E1.Line.Super), (wI E1.Line.Types), (wO cS 40000111 E1.Line.Subs), (wI E1.Power), (wI E1.Tough), (wI E1.Keys), (wO Zu 40000115 E1.Abilities), (wI E1.Control)]), (40000111, wR cS 1 E1.Line.Subs), (40000115, wR Zu 72 E1.Abilities), (30000002, .box [(wS E2.Name), (wI E2.Cost.Generic), (wI E2.Cost.X), (wI E2.Cost.Color.a0), (wI E2.Cost.Color.a1), (wI E2.Cost.Color.a2), (wI E2.Cost.Color.a3), (wI E2.Cost.Color.a4), (wI E2.Colors), (wI E2.Line.Super), (wI E2.Line.Types), (wO cS 40000211 E2.Line.Subs), (wI E2.Power), (wI E2.Tough), (wI E2.Keys), (wO Zu 40000215 E2.Abilities), (wI E2.Control)]), (40000211, wR cS 1 E2.Line.Subs), (40000215, wR Zu 72 E2.Abilities)]⟩,
 fun r => [(5011, wR cS 1 r.Line.Subs), (5015, wR Zu 72 r.Abilities)], fun r => (.agg [(wS r.Name), (wI r.Cost.Generic), (wI r.Cost.X), (wI r.Cost.Color.a0), (wI r.Cost.Color.a1), (wI r.Cost.Color.a2), (wI r.Cost.Color.a3), (wI r.Cost.Color.a4), (wI r.Colors), (wI r.Line.Super), (wI r.Line.Types), (wO cS 5011 r.Line.Subs), (wI r.Power), (wI r.Tough), (wI r.Keys), (wO Zu 5015 r.Abilities), (wI r.Control)]), fun | .L0 E0 E1 E2 v4 => Zqo E0 E1 E2 v4⟩
def Z05 (a0 : Zn) : Option Za := Z6d.run (Z6c a0)
theorem Zakq (a0 : Zn) {r : Za} (h : Z05 a0 = some r) : FnG PR 98 [] [(wA (Z6 a0))] [(5011, wR cS 1 r.Line.Subs), (5015, wR Zu 72 r.Abilities)] (.agg [(wS r.Name), (wI r.Cost.Generic), (wI r.Cost.X), (wI r.Cost.Color.a0), (wI r.Cost.Color.a1), (wI r.Cost.Color.a2), (wI r.Cost.Color.a3), (wI r.Cost.Color.a4), (wI r.Colors), (wI r.Line.Super), (wI r.Line.Types), (wO cS 5011 r.Line.Subs), (wI r.Power), (wI r.Tough), (wI r.Keys), (wO Zu 5015 r.Abilities), (wI r.Control)]) := Z6d.fn h
inductive Zqp where
 | L0 (v0 : (List Zn)) (E0 : Zg) (E1 : Za) (v5 : Int)
 | L1 (E0 : Zg) (E1 : Za) (E2 : Za)
def Zn2 (E0 : Zg) (E1 : Za) (E2 : Za) : LT Zqp Za :=
.cs (E0.Zone == 0) (.k4 0<|.kn [0]<|.ret (⟨E2.Name, E2.Cost, E2.Colors, E2.Line, E2.Power, E2.Tough, E2.Keys, E2.Abilities, E0.Control⟩ : Za) [.relab 40000211 5011, .relab 40000215 5015])<|.k4 0<|.br (E0.Zone == 5) (.ret (⟨E2.Name, E2.Cost, E2.Colors, E2.Line, E2.Power, E2.Tough, E2.Keys, E2.Abilities, E0.Control⟩ : Za) [.relab 40000211 5011, .relab 40000215 5015])<|.ret (⟨E2.Name, E2.Cost, E2.Colors, E2.Line, E2.Power, E2.Tough, E2.Keys, E2.Abilities, E0.Owner⟩ : Za) [.relab 40000211 5011, .relab 40000215 5015]
def Zs1 (v0 : (List Zn)) (E0 : Zg) (E1 : Za) (v5 : Int) : LT Zqp Za :=
.lb 1006<|.cs (decide (v5 ≥ 0)) (.k3 0<|.len Z6 v0<|.k2 0<|.br (decide (v5 < (v0.length : Int))) (.idx Z6 v0 v5 fun x4=>.callF (Zakq x4) 260000 fun x6=>.jn 0 (.L1 E0 E1 x6) [.relab 1006 30000002, .relab 265011 40000211, .relab 265015 40000215] (Zn2 E0 E1 x6))<|.jn 0 (.L1 E0 E1 (⟨([] : List UInt8), (⟨0, 0, (⟨0, 0, 0, 0, 0⟩ : (A5 Int))⟩ : Zp), 0, (⟨0, 0, ([] : (List (List UInt8)))⟩ : Zs), 0, 0, 0, ([] : (List Zj)), 0⟩ : Za)) [.relab 1006 30000002, .ownb 30000002 11 40000211 1, .ownb 30000002 15 40000215 72] (Zn2 E0 E1 (⟨([] : List UInt8), (⟨0, 0, (⟨0, 0, 0, 0, 0⟩ : (A5 Int))⟩ : Zp), 0, (⟨0, 0, ([] : (List (List UInt8)))⟩ : Zs), 0, 0, 0, ([] : (List Zj)), 0⟩ : Za)))<|.k5 0<|.kn [0]<|.jn 0 (.L1 E0 E1 (⟨([] : List UInt8), (⟨0, 0, (⟨0, 0, 0, 0, 0⟩ : (A5 Int))⟩ : Zp), 0, (⟨0, 0, ([] : (List (List UInt8)))⟩ : Zs), 0, 0, 0, ([] : (List Zj)), 0⟩ : Za)) [.relab 1006 30000002, .ownb 30000002 11 40000211 1, .ownb 30000002 15 40000215 72] (Zn2 E0 E1 (⟨([] : List UInt8), (⟨0, 0, (⟨0, 0, 0, 0, 0⟩ : (A5 Int))⟩ : Zp), 0, (⟨0, 0, ([] : (List (List UInt8)))⟩ : Zs), 0, 0, 0, ([] : (List Zj)), 0⟩ : Za))
def Zavd (a0 : (List Zn)) (a1 : Zg) : LT Zqp Za :=
.lb 1003<|.lb 1004<|.br (decide (a1.Copy < 0)) (.jn 0 (.L0 a0 a1 (⟨([] : List UInt8), (⟨0, 0, (⟨0, 0, 0, 0, 0⟩ : (A5 Int))⟩ : Zp), 0, (⟨0, 0, ([] : (List (List UInt8)))⟩ : Zs), 0, 0, 0, ([] : (List Zj)), 0⟩ : Za) a1.Card) [.relab 1003 30000000, .relab 1004 30000001, .ownb 30000001 11 40000111 1, .ownb 30000001 15 40000115 72] (Zs1 a0 a1 (⟨([] : List UInt8), (⟨0, 0, (⟨0, 0, 0, 0, 0⟩ : (A5 Int))⟩ : Zp), 0, (⟨0, 0, ([] : (List (List UInt8)))⟩ : Zs), 0, 0, 0, ([] : (List Zj)), 0⟩ : Za) a1.Card))<|.jn 0 (.L0 a0 a1 (⟨([] : List UInt8), (⟨0, 0, (⟨0, 0, 0, 0, 0⟩ : (A5 Int))⟩ : Zp), 0, (⟨0, 0, ([] : (List (List UInt8)))⟩ : Zs), 0, 0, 0, ([] : (List Zj)), 0⟩ : Za) a1.Copy) [.relab 1003 30000000, .relab 1004 30000001, .ownb 30000001 11 40000111 1, .ownb 30000001 15 40000115 72] (Zs1 a0 a1 (⟨([] : List UInt8), (⟨0, 0, (⟨0, 0, 0, 0, 0⟩ : (A5 Int))⟩ : Zp), 0, (⟨0, 0, ([] : (List (List UInt8)))⟩ : Zs), 0, 0, 0, ([] : (List Zj)), 0⟩ : Za) a1.Copy)
def Zave : LF Zqp Za := ⟨62, [.c 4 81 true 17], true, fun | .L0 .. => [1,1,1] | .L1 .. => [1,1,1,1,1],
 fun | .L0 v0 E0 E1 v5 => ⟨41, [(0, (wL Z6 v0)), (3, (.bptr 30000000 0)), (4, (.bptr 30000001 0)), (5, (wI v5))], [(30000000, .box (bx (Zh E0))), (30000001, .box [(wS E1.Name), (wI E1.Cost.Generic), (wI E1.Cost.X), (wI E1.Cost.Color.a0), (wI E1.Cost.Color.a1), (wI E1.Cost.Color.a2), (wI E1.Cost.Color.a3), (wI E1.Cost.Color.a4), (wI E1.Colors), (wI E1.Line.Super), (wI E1.Line.Types), (wO cS 40000111 E1.Line.Subs), (wI E1.Power), (wI E1.Tough), (wI E1.Keys), (wO Zu 40000115 E1.Abilities), (wI E1.Control)]), (40000111, wR cS 1 E1.Line.Subs), (40000115, wR Zu 72 E1.Abilities)]⟩ | .L1 E0 E1 E2 => ⟨41, [(3, (.bptr 30000000 0)), (4, (.bptr 30000001 0)), (6, (.bptr 30000002 0))], [(30000000, .box (bx (Zh E0))), (30000001, .box [(wS E1.Name), (wI E1.Cost.Generic), (wI E1.Cost.X), (wI E1.Cost.Color.a0), (wI E1.Cost.Color.a1), (wI E1.Cost.Color.a2), (wI E1.Cost.Color.a3), (wI E1.Cost.Color.a4), (wI E1.Colors), (wI E1.Line.Super), (wI E1.Line.Types), (wO cS 40000111 E1.Line.Subs), (wI E1.Power), (wI E1.Tough), (wI E1.Keys), (wO Zu 40000115 E1.Abilities), (wI E1.Control)]), (40000111, wR cS 1 E1.Line.Subs), (40000115, wR Zu 72 E1.Abilities), (30000002, .box [(wS E2.Name), (wI E2.Cost.Generic), (wI E2.Cost.X), (wI E2.Cost.Color.a0), (wI E2.Cost.Color.a1), (wI E2.Cost.Color.a2), (wI E2.Cost.Color.a3), (wI E2.Cost.Color.a4), (wI E2.Colors), (wI E2.Line.Super), (wI E2.Line.Types), (wO cS 40000211 E2.Line.Subs), (wI E2.Power), (wI E2.Tough), (wI E2.Keys), (wO Zu 40000215 E2.Abilities), (wI E2.Control)]), (40000211, wR cS 1 E2.Line.Subs), (40000215, wR Zu 72 E2.Abilities)]⟩,
 fun r => [(5011, wR cS 1 r.Line.Subs), (5015, wR Zu 72 r.Abilities)], fun r => (.agg [(wS r.Name), (wI r.Cost.Generic), (wI r.Cost.X), (wI r.Cost.Color.a0), (wI r.Cost.Color.a1), (wI r.Cost.Color.a2), (wI r.Cost.Color.a3), (wI r.Cost.Color.a4), (wI r.Colors), (wI r.Line.Super), (wI r.Line.Types), (wO cS 5011 r.Line.Subs), (wI r.Power), (wI r.Tough), (wI r.Keys), (wO Zu 5015 r.Abilities), (wI r.Control)]), fun | .L0 v0 E0 E1 v5 => Zs1 v0 E0 E1 v5 | .L1 E0 E1 E2 => Zn2 E0 E1 E2⟩
def Zakr (a0 : (List Zn)) (a1 : Zg) : Option Za := Zave.run (Zavd a0 a1)
theorem Za0c (a0 : (List Zn)) (a1 : Zg) {r : Za} (h : Zakr a0 a1 = some r) : FnG PR 62 [] [(wL Z6 a0), (wA (Zh a1))] [(5011, wR cS 1 r.Line.Subs), (5015, wR Zu 72 r.Abilities)] (.agg [(wS r.Name), (wI r.Cost.Generic), (wI r.Cost.X), (wI r.Cost.Color.a0), (wI r.Cost.Color.a1), (wI r.Cost.Color.a2), (wI r.Cost.Color.a3), (wI r.Cost.Color.a4), (wI r.Colors), (wI r.Line.Super), (wI r.Line.Types), (wO cS 5011 r.Line.Subs), (wI r.Power), (wI r.Tough), (wI r.Keys), (wO Zu 5015 r.Abilities), (wI r.Control)]) := Zave.fn h
theorem Zaph (a0 : (List Zn)) (a1 : Zg) {r : Za} (h : Zakr a0 a1 = some r) : Fn PR 62 [(wL Z6 a0), (wA (Zh a1))] (wA (Zk r)) :=
 FnG.frozen (C := LT.RL cS r.Line.Subs ∧ LT.RL Zu r.Abilities ∧ True) (Za0c a0 a1 h) ⟨rfl, rfl, trivial⟩ (by kernel_rfl)
inductive Zgy where
 | L0 (v0 : (List Zn)) (E0 : Zb) (v5 : (List Zl)) (v6 : Int)
 | L1 (v0 : (List Zn)) (E0 : Zb) (v5 : (List Zl)) (v6 : Int) (E1 : Zg) (E2 : Za) (v9 : Int)
 | L2 (E0 : Zb) (v5 : (List Zl)) (v11 : Int)
def Ztp (v0 : (List Zn)) (E0 : Zb) (v5 : (List Zl)) (v6 : Int) : LT Zgy (List Zl) :=
.len Zh E0.Objects<|.br (decide (v6 < (E0.Objects.length : Int))) (.idx Zh E0.Objects v6 fun x3=>.lb 1007<|.br (x3.Zone != 0) (.g0 (.L0 v0 E0 v5 (IntKind.wrap .i64 (v6 + 1))))<|.call (Zaph v0 x3) fun x8=>.lb 1008<|.go (.L1 v0 E0 v5 v6 x3 x8 0) [.relab 1007 30000001, .relab 1008 30000002])<|.g0 (.L2 E0 v5 0)
def Ztq (v0 : (List Zn)) (E0 : Zb) (v5 : (List Zl)) (v6 : Int) (E1 : Zg) (E2 : Za) (v9 : Int) : LT Zgy (List Zl) :=
.len Zu E2.Abilities<|.br (decide (v9 < (E2.Abilities.length : Int))) (.idx Zu E2.Abilities v9 fun x3=>.lb 1010<|.br (x3.Kind == 1) (.dr [.lit]<|.apR Zi 224 v5 [(⟨E1.Id, v9, E1.Control, E1.Stamp, false, ([] : (List Int)), x3.Filter, x3.Mods⟩ : Zl)] fun x7=>.g0 (.L1 v0 E0 x7 v6 E1 E2 (IntKind.wrap .i64 (v9 + 1))))<|.g0 (.L1 v0 E0 v5 v6 E1 E2 (IntKind.wrap .i64 (v9 + 1))))<|.g0 (.L0 v0 E0 v5 (IntKind.wrap .i64 (v6 + 1)))
def Ztr (E0 : Zb) (v5 : (List Zl)) (v11 : Int) : LT Zgy (List Zl) :=
.len Zap E0.Conts<|.br (decide (v11 < (E0.Conts.length : Int))) (.idx Zap E0.Conts v11 fun x3=>.lb 1012<|.dr [.lit]<|.apR Zi 224 v5 [(⟨x3.Source, (-1), x3.Control, x3.Stamp, true, x3.Objects, (⟨0, 0, 0, 0, 0, 0, 0, ([] : List UInt8), 0, 0, (⟨0, 0⟩ : Zd), (⟨0, 0⟩ : Zd), (⟨0, 0⟩ : Zd)⟩ : Ze), x3.Mods⟩ : Zl)] fun x6=>.g0 (.L2 E0 x6 (IntKind.wrap .i64 (v11 + 1))))<|.ret v5 [.relab 20000005 5000]
def Z9p (a0 : (List Zn)) (a1 : Zb) : LT Zgy (List Zl) :=
.lb 1003<|.lb 1013<|.go (.L0 a0 a1 ([] : (List Zl)) 0) [.relab 1003 30000000, .relab 1013 20000005]
def Z9q : LF Zgy (List Zl) := ⟨61, [.t 4], true, fun | .L0 .. => [1,1,0,1,4] | .L1 .. => [1,1,0,1,4,5,1,0,4,1,1,1,1,4] | .L2 .. => [1,1,1,0,1,4],
 fun | .L0 v0 E0 v5 v6 => ⟨89, [(0, (wL Z6 v0)), (3, (.bptr 30000000 0)), (5, (wO Zi 20000005 v5)), (6, (wI v6))], [(30000000, .box (bx (Zo E0))), (20000005, wR Zi 23 v5)]⟩ | .L1 v0 E0 v5 v6 E1 E2 v9 => ⟨89, [(0, (wL Z6 v0)), (3, (.bptr 30000000 0)), (5, (wO Zi 20000005 v5)), (6, (wI v6)), (7, (.bptr 30000001 0)), (8, (.bptr 30000002 0)), (9, (wI v9))], [(30000000, .box (bx (Zo E0))), (20000005, wR Zi 23 v5), (30000001, .box (bx (Zh E1))), (30000002, .box (bx (Zk E2)))]⟩ | .L2 E0 v5 v11 => ⟨89, [(3, (.bptr 30000000 0)), (5, (wO Zi 20000005 v5)), (11, (wI v11))], [(30000000, .box (bx (Zo E0))), (20000005, wR Zi 23 v5)]⟩,
 fun r => [(5000, wR Zi 23 r)], fun r => (wO Zi 5000 r), fun | .L0 v0 E0 v5 v6 => Ztp v0 E0 v5 v6 | .L1 v0 E0 v5 v6 E1 E2 v9 => Ztq v0 E0 v5 v6 E1 E2 v9 | .L2 E0 v5 v11 => Ztr E0 v5 v11⟩
def Zu7 (a0 : (List Zn)) (a1 : Zb) : Option (List Zl) := Z9q.run (Z9p a0 a1)
theorem Zana (a0 : (List Zn)) (a1 : Zb) {r : (List Zl)} (h : Zu7 a0 a1 = some r) : FnG PR 61 [] [(wL Z6 a0), (wA (Zo a1))] [(5000, wR Zi 23 r)] (wO Zi 5000 r) := Z9q.fn h
theorem Zaqi (a0 : (List Zn)) (a1 : Zb) {r : (List Zl)} (h : Zu7 a0 a1 = some r) : Fn PR 61 [(wL Z6 a0), (wA (Zo a1))] (wL Zi r) :=
 FnG.frozen (C := LT.RL Zi r ∧ True) (Zana a0 a1 h) ⟨rfl, trivial⟩ (by kernel_rfl)
inductive Zmb where
 | L0 (v0 : (List Zn)) (E0 : Zb) (E1 : Zc) (E2 : Zc) (v6 : Int)
def Zxb (v0 : (List Zn)) (E0 : Zb) (E1 : Zc) (E2 : Zc) (v6 : Int) : LT Zmb Zc :=
.len Zh E0.Objects<|.br (decide (v6 < (E0.Objects.length : Int))) (.idx Zh E0.Objects v6 fun x3=>.call (Zaph v0 x3) fun x5=>.dr [.lit]<|.apR Zk 176 E2.All [x5] fun x8=>.g0 (.L0 v0 E0 E1 (⟨E2.S, x8, E2.L, E2.Begun, E2.Sets, E2.Blank⟩ : Zc) (IntKind.wrap .i64 (v6 + 1))))<|.len Zi E2.L<|.mk cB 1034 1 false (E2.L.length : Int) (E2.L.length : Int) fun x14=>.len Zi E2.L<|.mk (cL (cI .i64)) 1039 24 [] (E2.L.length : Int) (E2.L.length : Int) fun x16=>.len Zh E0.Objects<|.mk cB 1044 1 false (E0.Objects.length : Int) (E0.Objects.length : Int) fun x18=>.ret (⟨E2.S, E2.All, E2.L, x14, x16, x18⟩ : Zc) [.relab 40000219 5019, .relab 1034 5021, .relab 1039 5022, .relab 1044 5023]
def Zad2 (a0 : (List Zn)) (a1 : Zb) : LT Zmb Zc :=
.lb 1003<|.lb 1004<|.call (Zaqi a0 a1) fun x1=>.lb 1005<|.go (.L0 a0 a1 (⟨(⟨([] : (List Zam)), ([] : (List Zg)), ([] : (List Int)), ([] : (List Int)), ([] : (List Zee)), ([] : (List Zd4)), ([] : (List Zgo)), 0, 0, 0, false, 0, 0, 0, 0, 0, ([] : (List Int)), 0, 0⟩ : Zb), ([] : (List Za)), ([] : (List Zl)), ([] : (List Bool)), ([] : (List (List Int))), ([] : (List Bool))⟩ : Zc) (⟨a1, ([] : (List Za)), x1, ([] : (List Bool)), ([] : (List (List Int))), ([] : (List Bool))⟩ : Zc) 0) [.relab 1003 30000000, .relab 1004 30000001, .relab 1005 30000002, .ownb 30000001 0 40000100 14, .ownb 30000001 1 40000101 19, .ownb 30000001 2 40000102 1, .ownb 30000001 3 40000103 1, .ownb 30000001 4 40000104 94, .ownb 30000001 5 40000105 89, .ownb 30000001 6 40000106 6, .ownb 30000001 16 40000116 1, .ownb 30000001 19 40000119 17, .ownb 30000001 20 40000120 23, .ownb 30000001 21 40000121 1, .ownb 30000001 22 40000122 1, .ownb 30000001 23 40000123 1, .ownb 30000002 19 40000219 17, .ownb 30000002 21 40000221 1, .ownb 30000002 22 40000222 1, .ownb 30000002 23 40000223 1]
def Zad3 : LF Zmb Zc := ⟨27, [.c 4 88 true 24], true, fun | .L0 .. => [1,1,0,1,4],
 fun | .L0 v0 E0 E1 E2 v6 => ⟨47, [(0, (wL Z6 v0)), (3, (.bptr 30000000 0)), (4, (.bptr 30000001 0)), (5, (.bptr 30000002 0)), (6, (wI v6))], [(30000000, .box (bx (Zo E0))), (30000001, .box [(wO Z2 40000100 E1.S.Players), (wO Zh 40000101 E1.S.Objects), (wO (cI .i64) 40000102 E1.S.Battlefield), (wO (cI .i64) 40000103 E1.S.Exile), (wO Zai 40000104 E1.S.Stack), (wO Zab 40000105 E1.S.Waiting), (wO Zap 40000106 E1.S.Conts), (wI E1.S.Turn), (wI E1.S.Active), (wI E1.S.Step), (wB E1.S.Begun), (wI E1.S.Priority), (wI E1.S.Passes), (wI E1.S.NextId), (wI E1.S.NextStamp), (.t (.int .u64 E1.S.Seed)), (wO (cI .i64) 40000116 E1.S.Extra), (wI E1.S.Over), (wI E1.S.Winner), (wO Zk 40000119 E1.All), (wO Zi 40000120 E1.L), (wO cB 40000121 E1.Begun), (wO (cL (cI .i64)) 40000122 E1.Sets), (wO cB 40000123 E1.Blank)]), (40000100, wR Z2 14 E1.S.Players), (40000101, wR Zh 19 E1.S.Objects), (40000102, wR (cI .i64) 1 E1.S.Battlefield), (40000103, wR (cI .i64) 1 E1.S.Exile), (40000104, wR Zai 94 E1.S.Stack), (40000105, wR Zab 89 E1.S.Waiting), (40000106, wR Zap 6 E1.S.Conts), (40000116, wR (cI .i64) 1 E1.S.Extra), (40000119, wR Zk 17 E1.All), (40000120, wR Zi 23 E1.L), (40000121, wR cB 1 E1.Begun), (40000122, wR (cL (cI .i64)) 1 E1.Sets), (40000123, wR cB 1 E1.Blank), (30000002, .box [(wL Z2 E2.S.Players), (wL Zh E2.S.Objects), (wL (cI .i64) E2.S.Battlefield), (wL (cI .i64) E2.S.Exile), (wL Zai E2.S.Stack), (wL Zab E2.S.Waiting), (wL Zap E2.S.Conts), (wI E2.S.Turn), (wI E2.S.Active), (wI E2.S.Step), (wB E2.S.Begun), (wI E2.S.Priority), (wI E2.S.Passes), (wI E2.S.NextId), (wI E2.S.NextStamp), (.t (.int .u64 E2.S.Seed)), (wL (cI .i64) E2.S.Extra), (wI E2.S.Over), (wI E2.S.Winner), (wO Zk 40000219 E2.All), (wL Zi E2.L), (wO cB 40000221 E2.Begun), (wO (cL (cI .i64)) 40000222 E2.Sets), (wO cB 40000223 E2.Blank)]), (40000219, wR Zk 17 E2.All), (40000221, wR cB 1 E2.Begun), (40000222, wR (cL (cI .i64)) 1 E2.Sets), (40000223, wR cB 1 E2.Blank)]⟩,
 fun r => [(5019, wR Zk 17 r.All), (5021, wR cB 1 r.Begun), (5022, wR (cL (cI .i64)) 1 r.Sets), (5023, wR cB 1 r.Blank)], fun r => (.agg [(wL Z2 r.S.Players), (wL Zh r.S.Objects), (wL (cI .i64) r.S.Battlefield), (wL (cI .i64) r.S.Exile), (wL Zai r.S.Stack), (wL Zab r.S.Waiting), (wL Zap r.S.Conts), (wI r.S.Turn), (wI r.S.Active), (wI r.S.Step), (wB r.S.Begun), (wI r.S.Priority), (wI r.S.Passes), (wI r.S.NextId), (wI r.S.NextStamp), (.t (.int .u64 r.S.Seed)), (wL (cI .i64) r.S.Extra), (wI r.S.Over), (wI r.S.Winner), (wO Zk 5019 r.All), (wL Zi r.L), (wO cB 5021 r.Begun), (wO (cL (cI .i64)) 5022 r.Sets), (wO cB 5023 r.Blank)]), fun | .L0 v0 E0 E1 E2 v6 => Zxb v0 E0 E1 E2 v6⟩
def Z9r (a0 : (List Zn)) (a1 : Zb) : Option Zc := Zad3.run (Zad2 a0 a1)
theorem Zaqj (a0 : (List Zn)) (a1 : Zb) {r : Zc} (h : Z9r a0 a1 = some r) : FnG PR 27 [] [(wL Z6 a0), (wA (Zo a1))] [(5019, wR Zk 17 r.All), (5021, wR cB 1 r.Begun), (5022, wR (cL (cI .i64)) 1 r.Sets), (5023, wR cB 1 r.Blank)] (.agg [(wL Z2 r.S.Players), (wL Zh r.S.Objects), (wL (cI .i64) r.S.Battlefield), (wL (cI .i64) r.S.Exile), (wL Zai r.S.Stack), (wL Zab r.S.Waiting), (wL Zap r.S.Conts), (wI r.S.Turn), (wI r.S.Active), (wI r.S.Step), (wB r.S.Begun), (wI r.S.Priority), (wI r.S.Passes), (wI r.S.NextId), (wI r.S.NextStamp), (.t (.int .u64 r.S.Seed)), (wL (cI .i64) r.S.Extra), (wI r.S.Over), (wI r.S.Winner), (wO Zk 5019 r.All), (wL Zi r.L), (wO cB 5021 r.Begun), (wO (cL (cI .i64)) 5022 r.Sets), (wO cB 5023 r.Blank)]) := Zad3.fn h
def Z06 (a0 : Int) : LT Empty Int :=
.br (decide (a0 > 1000000)) (.rt 1000000)<|.br (decide (a0 < (-1000000))) (.rt (-1000000))<|.rt a0
def Zad4 : LF Empty Int := .z 73 [.t 2] false (fun r => []) (fun r => (wI r))
def Zs2 (a0 : Int) : Option Int := Zad4.run (Z06 a0)
theorem Zdf (a0 : Int) {r : Int} (h : Zs2 a0 = some r) : Fn PR 73 [(wI a0)] (wI r) := Zad4.fn h
def Zapi (a0 : Int) (a1 : Int) : LT Empty Int :=
.call (Zdf a0) fun x1=>.call (Zdf a1) fun x3=>.call (Zdf (IntKind.wrap .i64 (x1 - x3))) fun x7=>.rt x7
def Zapj : LF Empty Int := .z 150 [.t 4] false (fun r => []) (fun r => (wI r))
def Zanb (a0 : Int) (a1 : Int) : Option Int := Zapj.run (Zapi a0 a1)
theorem Za0d (a0 : Int) (a1 : Int) {r : Int} (h : Zanb a0 a1 = some r) : Fn PR 150 [(wI a0), (wI a1)] (wI r) := Zapj.fn h
def Zad5 (a0 : (A3 Int)) : LT Empty Int :=
.lb 1001<|.idA (Zf.int .i64) (A3.list a0) 0 (bx ((cA3 (cI .i64)) a0)) 0 3 fun x1=>.ldC (Zf.int .i64) 4 x1 0<|.idA (Zf.int .i64) (A3.list a0) 1 (bx ((cA3 (cI .i64)) a0)) 0 3 fun x3=>.ldC (Zf.int .i64) 6 x3 1<|.call (Za0d x1 x3) fun x5=>.rt x5
def Zad6 : LF Empty Int := .z 99 [.t 2] false (fun r => []) (fun r => (wI r))
def Z9s (a0 : (A3 Int)) : Option Int := Zad6.run (Zad5 a0)
theorem Zavf (a0 : (A3 Int)) {r : Int} (h : Z9s a0 = some r) : Fn PR 99 [(wA ((cA3 (cI .i64)) a0))] (wI r) := Zad6.fn h
def Z9t (a0 : Int) (a1 : Int) : LT Empty Int :=
.call (Zdf a0) fun x1=>.call (Zdf a1) fun x3=>.call (Zdf (IntKind.wrap .i64 (x1 + x3))) fun x7=>.rt x7
def Zapk : LF Empty Int := .z 100 [.t 4] false (fun r => []) (fun r => (wI r))
def Z24 (a0 : Int) (a1 : Int) : Option Int := Zapk.run (Z9t a0 a1)
theorem Ziu (a0 : Int) (a1 : Int) {r : Int} (h : Z24 a0 a1 = some r) : Fn PR 100 [(wI a0), (wI a1)] (wI r) := Zapk.fn h
inductive Zjb where
 | L0 (E0 : Zc) (E1 : Zc) (E2 : Zc) (v4 : Int)
def Zqq (E0 : Zc) (E1 : Zc) (E2 : Zc) (v4 : Int) : LT Zjb Zc :=
.len Zk E0.All<|.br (decide (v4 < (E0.All.length : Int))) (.idx Zk E0.All v4 fun x3=>.lb 1005<|.idx Zh E0.S.Objects v4 fun x5=>.lb 1006<|.cs (x5.Zone == 0) (.k4 1<|.dc ((1 : Int) ≠ 0) rfl<|.kg 1<|.dc ((2 : Int) ≠ 0) rfl<|.k2 1<|.br ((Int.tmod (Zka .i64 x3.Line.Types 1) 2) == 1) (.call (Zavf x5.Counters) fun x9=>.call (Ziu x3.Power x9) fun x11=>.call (Ziu x3.Tough x9) fun x13=>.dr [.lit]<|.apR Zk 176 E2.All [(⟨x3.Name, x3.Cost, x3.Colors, x3.Line, x11, x13, x3.Keys, x3.Abilities, x3.Control⟩ : Za)] fun x16=>.g0 (.L0 E0 E1 (⟨E2.S, x16, E2.L, E2.Begun, E2.Sets, E2.Blank⟩ : Zc) (IntKind.wrap .i64 (v4 + 1))))<|.dr [.lit]<|.apR Zk 176 E2.All [x3] fun x22=>.g0 (.L0 E0 E1 (⟨E2.S, x22, E2.L, E2.Begun, E2.Sets, E2.Blank⟩ : Zc) (IntKind.wrap .i64 (v4 + 1))))<|.k5 1<|.k2 1<|.kn [0]<|.dr [.lit]<|.apR Zk 176 E2.All [x3] fun x28=>.g0 (.L0 E0 E1 (⟨E2.S, x28, E2.L, E2.Begun, E2.Sets, E2.Blank⟩ : Zc) (IntKind.wrap .i64 (v4 + 1))))<|.ret E2 [.relab 40000219 5019]
def Z6e (a0 : Zc) : LT Zjb Zc :=
.lb 1001<|.lb 1002<|.lb 1003<|.go (.L0 a0 (⟨(⟨([] : (List Zam)), ([] : (List Zg)), ([] : (List Int)), ([] : (List Int)), ([] : (List Zee)), ([] : (List Zd4)), ([] : (List Zgo)), 0, 0, 0, false, 0, 0, 0, 0, 0, ([] : (List Int)), 0, 0⟩ : Zb), ([] : (List Za)), ([] : (List Zl)), ([] : (List Bool)), ([] : (List (List Int))), ([] : (List Bool))⟩ : Zc) (⟨a0.S, ([] : (List Za)), a0.L, a0.Begun, a0.Sets, a0.Blank⟩ : Zc) 0) [.relab 1001 30000000, .relab 1002 30000001, .relab 1003 30000002, .ownb 30000001 0 40000100 14, .ownb 30000001 1 40000101 19, .ownb 30000001 2 40000102 1, .ownb 30000001 3 40000103 1, .ownb 30000001 4 40000104 94, .ownb 30000001 5 40000105 89, .ownb 30000001 6 40000106 6, .ownb 30000001 16 40000116 1, .ownb 30000001 19 40000119 17, .ownb 30000001 20 40000120 23, .ownb 30000001 21 40000121 1, .ownb 30000001 22 40000122 1, .ownb 30000001 23 40000123 1, .ownb 30000002 19 40000219 17]
def Z6f : LF Zjb Zc := ⟨63, [.c 2 88 true 24], true, fun | .L0 .. => [1,1,1,0,1,4],
 fun | .L0 E0 E1 E2 v4 => ⟨59, [(1, (.bptr 30000000 0)), (2, (.bptr 30000001 0)), (3, (.bptr 30000002 0)), (4, (wI v4))], [(30000000, .box (bx (Z4 E0))), (30000001, .box [(wO Z2 40000100 E1.S.Players), (wO Zh 40000101 E1.S.Objects), (wO (cI .i64) 40000102 E1.S.Battlefield), (wO (cI .i64) 40000103 E1.S.Exile), (wO Zai 40000104 E1.S.Stack), (wO Zab 40000105 E1.S.Waiting), (wO Zap 40000106 E1.S.Conts), (wI E1.S.Turn), (wI E1.S.Active), (wI E1.S.Step), (wB E1.S.Begun), (wI E1.S.Priority), (wI E1.S.Passes), (wI E1.S.NextId), (wI E1.S.NextStamp), (.t (.int .u64 E1.S.Seed)), (wO (cI .i64) 40000116 E1.S.Extra), (wI E1.S.Over), (wI E1.S.Winner), (wO Zk 40000119 E1.All), (wO Zi 40000120 E1.L), (wO cB 40000121 E1.Begun), (wO (cL (cI .i64)) 40000122 E1.Sets), (wO cB 40000123 E1.Blank)]), (40000100, wR Z2 14 E1.S.Players), (40000101, wR Zh 19 E1.S.Objects), (40000102, wR (cI .i64) 1 E1.S.Battlefield), (40000103, wR (cI .i64) 1 E1.S.Exile), (40000104, wR Zai 94 E1.S.Stack), (40000105, wR Zab 89 E1.S.Waiting), (40000106, wR Zap 6 E1.S.Conts), (40000116, wR (cI .i64) 1 E1.S.Extra), (40000119, wR Zk 17 E1.All), (40000120, wR Zi 23 E1.L), (40000121, wR cB 1 E1.Begun), (40000122, wR (cL (cI .i64)) 1 E1.Sets), (40000123, wR cB 1 E1.Blank), (30000002, .box [(wL Z2 E2.S.Players), (wL Zh E2.S.Objects), (wL (cI .i64) E2.S.Battlefield), (wL (cI .i64) E2.S.Exile), (wL Zai E2.S.Stack), (wL Zab E2.S.Waiting), (wL Zap E2.S.Conts), (wI E2.S.Turn), (wI E2.S.Active), (wI E2.S.Step), (wB E2.S.Begun), (wI E2.S.Priority), (wI E2.S.Passes), (wI E2.S.NextId), (wI E2.S.NextStamp), (.t (.int .u64 E2.S.Seed)), (wL (cI .i64) E2.S.Extra), (wI E2.S.Over), (wI E2.S.Winner), (wO Zk 40000219 E2.All), (wL Zi E2.L), (wL cB E2.Begun), (wL (cL (cI .i64)) E2.Sets), (wL cB E2.Blank)]), (40000219, wR Zk 17 E2.All)]⟩,
 fun r => [(5019, wR Zk 17 r.All)], fun r => (.agg [(wL Z2 r.S.Players), (wL Zh r.S.Objects), (wL (cI .i64) r.S.Battlefield), (wL (cI .i64) r.S.Exile), (wL Zai r.S.Stack), (wL Zab r.S.Waiting), (wL Zap r.S.Conts), (wI r.S.Turn), (wI r.S.Active), (wI r.S.Step), (wB r.S.Begun), (wI r.S.Priority), (wI r.S.Passes), (wI r.S.NextId), (wI r.S.NextStamp), (.t (.int .u64 r.S.Seed)), (wL (cI .i64) r.S.Extra), (wI r.S.Over), (wI r.S.Winner), (wO Zk 5019 r.All), (wL Zi r.L), (wL cB r.Begun), (wL (cL (cI .i64)) r.Sets), (wL cB r.Blank)]), fun | .L0 E0 E1 E2 v4 => Zqq E0 E1 E2 v4⟩
def Z07 (a0 : Zc) : Option Zc := Z6f.run (Z6e a0)
theorem Zaks (a0 : Zc) {r : Zc} (h : Z07 a0 = some r) : FnG PR 63 [] [(wA (Z4 a0))] [(5019, wR Zk 17 r.All)] (.agg [(wL Z2 r.S.Players), (wL Zh r.S.Objects), (wL (cI .i64) r.S.Battlefield), (wL (cI .i64) r.S.Exile), (wL Zai r.S.Stack), (wL Zab r.S.Waiting), (wL Zap r.S.Conts), (wI r.S.Turn), (wI r.S.Active), (wI r.S.Step), (wB r.S.Begun), (wI r.S.Priority), (wI r.S.Passes), (wI r.S.NextId), (wI r.S.NextStamp), (.t (.int .u64 r.S.Seed)), (wL (cI .i64) r.S.Extra), (wI r.S.Over), (wI r.S.Winner), (wO Zk 5019 r.All), (wL Zi r.L), (wL cB r.Begun), (wL (cL (cI .i64)) r.Sets), (wL cB r.Blank)]) := Z6f.fn h
inductive Zhr where
 | L0 (v3 : Int) (v6 : Bool)
 | L1 (v3 : Int) (v11 : Bool)
 | L2 (v3 : Int) (v14 : Bool)
def Zh7 (v3 : Int) (v14 : Bool) : LT Zhr Int :=
.br v14 (.rt 4)<|.br (v3 == 11) (.rt 5)<|.br (v3 == 12) (.rt 6)<|.br (v3 == 13) (.rt 7)<|.br (v3 == 14) (.rt 8)<|.rt 0
def Zkl (v3 : Int) (v11 : Bool) : LT Zhr Int :=
.br v11 (.rt 3)<|.br (v3 == 8) (.j0 (.L2 v3 (v3 == 8)) (Zh7 v3 (v3 == 8)))<|.br (v3 == 9) (.j0 (.L2 v3 (v3 == 9)) (Zh7 v3 (v3 == 9)))<|.j0 (.L2 v3 (v3 == 10)) (Zh7 v3 (v3 == 10))
def Zgz (v3 : Int) (v6 : Bool) : LT Zhr Int :=
.br v6 (.rt 2)<|.br (v3 == 6) (.j0 (.L1 v3 (v3 == 6)) (Zkl v3 (v3 == 6)))<|.j0 (.L1 v3 (v3 == 7)) (Zkl v3 (v3 == 7))
def Zad7 (a0 : Int) : LT Zhr Int :=
.br (a0 == 1) (.rt 1)<|.br (a0 == 2) (.j0 (.L0 a0 (a0 == 2)) (Zgz a0 (a0 == 2)))<|.br (a0 == 3) (.j0 (.L0 a0 (a0 == 3)) (Zgz a0 (a0 == 3)))<|.br (a0 == 4) (.j0 (.L0 a0 (a0 == 4)) (Zgz a0 (a0 == 4)))<|.j0 (.L0 a0 (a0 == 5)) (Zgz a0 (a0 == 5))
def Zad8 : LF Zhr Int := ⟨101, [.t 2], false, fun | .L0 .. => [1,0,1,4,1,3,1] | .L1 .. => [1,0,1,4,1,3,1,3,1] | .L2 .. => [1,0,1,4,1,3,1,3,1,3,1],
 fun | .L0 v3 v6 => ⟨26, [(3, (wI v3)), (6, (wB v6))], []⟩ | .L1 v3 v11 => ⟨26, [(3, (wI v3)), (11, (wB v11))], []⟩ | .L2 v3 v14 => ⟨26, [(3, (wI v3)), (14, (wB v14))], []⟩,
 fun r => [], fun r => (wI r), fun | .L0 v3 v6 => Zgz v3 v6 | .L1 v3 v11 => Zkl v3 v11 | .L2 v3 v14 => Zh7 v3 v14⟩
def Zb3 (a0 : Int) : Option Int := Zad8.run (Zad7 a0)
theorem Zpa (a0 : Int) {r : Int} (h : Zb3 a0 = some r) : Fn PR 101 [(wI a0)] (wI r) := Zad8.fn h
inductive Zjc where
 | L0 (v1 : Int) (E0 : Zl) (v5 : Int)
def Zqr (v1 : Int) (E0 : Zl) (v5 : Int) : LT Zjc Bool :=
.len Z0 E0.Mods<|.br (decide (v5 < (E0.Mods.length : Int))) (.idx Z0 E0.Mods v5 fun x3=>.call (Zpa x3.Kind) fun x5=>.br (x5 == v1) (.rt true)<|.g0 (.L0 v1 E0 (IntKind.wrap .i64 (v5 + 1))))<|.rt false
def Z6g (a0 : Zl) (a1 : Int) : LT Zjc Bool :=
.lb 1002<|.go (.L0 a1 a0 0) [.relab 1002 30000000]
def Z6h : LF Zjc Bool := ⟨64, [.t 4], false, fun | .L0 .. => [1,0,1,4],
 fun | .L0 v1 E0 v5 => ⟨22, [(1, (wI v1)), (2, (.bptr 30000000 0)), (5, (wI v5))], [(30000000, .box (bx (Zi E0)))]⟩,
 fun r => [], fun r => (wB r), fun | .L0 v1 E0 v5 => Zqr v1 E0 v5⟩
def Z08 (a0 : Zl) (a1 : Int) : Option Bool := Z6h.run (Z6g a0 a1)
theorem Zanc (a0 : Zl) (a1 : Int) {r : Bool} (h : Z08 a0 a1 = some r) : Fn PR 64 [(wA (Zi a0)), (wI a1)] (wB r) := Z6h.fn h
inductive Zmc where
 | L0 (v1 : Int) (E0 : Zb) (v5 : Int)
def Zxc (v1 : Int) (E0 : Zb) (v5 : Int) : LT Zmc Int :=
.len Zh E0.Objects<|.br (decide (v5 < (E0.Objects.length : Int))) (.idx Zh E0.Objects v5 fun x3=>.br (x3.Id == v1) (.rt v5)<|.g0 (.L0 v1 E0 (IntKind.wrap .i64 (v5 + 1))))<|.rt (-1)
def Zad9 (a0 : Zb) (a1 : Int) : LT Zmc Int :=
.lb 1002<|.go (.L0 a1 a0 0) [.relab 1002 30000000]
def Zaea : LF Zmc Int := ⟨153, [.t 4], false, fun | .L0 .. => [1,0,1,4],
 fun | .L0 v1 E0 v5 => ⟨22, [(1, (wI v1)), (2, (.bptr 30000000 0)), (5, (wI v5))], [(30000000, .box (bx (Zo E0)))]⟩,
 fun r => [], fun r => (wI r), fun | .L0 v1 E0 v5 => Zxc v1 E0 v5⟩
def Z9u (a0 : Zb) (a1 : Int) : Option Int := Zaea.run (Zad9 a0 a1)
theorem Z9v (a0 : Zb) (a1 : Int) {r : Int} (h : Z9u a0 a1 = some r) : Fn PR 153 [(wA (Zo a0)), (wI a1)] (wI r) := Zaea.fn h
def Z9w (a0 : Zc) (a1 : Int) : LT Empty Bool :=
.lb 1002<|.idx Zi a0.L a1 fun x1=>.cs x1.Fixed (.k5 0<|.kg 0<|.kn [0]<|.rt true)<|.k4 0<|.idx cB a0.Begun a1 fun x4=>.k2 0<|.br x4 (.rt true)<|.ag Zi x1 0<|.call (Z9v a0.S x1.Source) fun x7=>.cs (decide (x7 < 0)) (.k5 2<|.k2 2<|.rt true)<|.k4 2<|.idx cB a0.Blank x7 fun x10=>.k3 2<|.rt (!x10)
def Z9x : LF Empty Bool := .z 104 [.t 4] false (fun r => []) (fun r => (wB r))
def Z4t (a0 : Zc) (a1 : Int) : Option Bool := Z9x.run (Z9w a0 a1)
theorem Zmr (a0 : Zc) (a1 : Int) {r : Bool} (h : Z4t a0 a1 = some r) : Fn PR 104 [(wA (Z4 a0)), (wI a1)] (wB r) := Z9x.fn h
inductive Zmd where
 | L0 (v0 : (List Int)) (v1 : Int) (v5 : Int)
def Zxd (v0 : (List Int)) (v1 : Int) (v5 : Int) : LT Zmd Int :=
.len (cI .i64) v0<|.br (decide (v5 < (v0.length : Int))) (.idx (cI .i64) v0 v5 fun x3=>.br (x3 == v1) (.rt v5)<|.g0 (.L0 v0 v1 (IntKind.wrap .i64 (v5 + 1))))<|.rt (-1)
def Zaeb (a0 : (List Int)) (a1 : Int) : LT Zmd Int :=
.g0 (.L0 a0 a1 0)
def Zaec : LF Zmd Int := ⟨52, [.t 4], false, fun | .L0 .. => [1,0,1,4],
 fun | .L0 v0 v1 v5 => ⟨19, [(0, (wL (cI .i64) v0)), (1, (wI v1)), (5, (wI v5))], []⟩,
 fun r => [], fun r => (wI r), fun | .L0 v0 v1 v5 => Zxd v0 v1 v5⟩
def Z9y (a0 : (List Int)) (a1 : Int) : Option Int := Zaec.run (Zaeb a0 a1)
theorem Zavg (a0 : (List Int)) (a1 : Int) {r : Int} (h : Z9y a0 a1 = some r) : Fn PR 52 [(wL (cI .i64) a0), (wI a1)] (wI r) := Zaec.fn h
def Zapl (a0 : (List Int)) (a1 : Int) : LT Empty Bool :=
.call (Zavg a0 a1) fun x1=>.rt (decide (x1 ≥ 0))
def Zapm : LF Empty Bool := .z 24 [.t 4] false (fun r => []) (fun r => (wB r))
def Zand (a0 : (List Int)) (a1 : Int) : Option Bool := Zapm.run (Zapl a0 a1)
theorem Zakt (a0 : (List Int)) (a1 : Int) {r : Bool} (h : Zand a0 a1 = some r) : Fn PR 24 [(wL (cI .i64) a0), (wI a1)] (wB r) := Zapm.fn h
def Zapn (a0 : Zc) (a1 : Int) : LT Empty Int :=
.lb 1002<|.idx Zi a0.L a1 fun x1=>.call (Z9v a0.S x1.Source) fun x3=>.ag Zi x1 0<|.cs x1.Fixed (.k3 0<|.kn [0]<|.ag Zi x1 0<|.rt x1.Control)<|.k3 0<|.br (decide (x3 < 0)) (.ag Zi x1 0<|.rt x1.Control)<|.idx Zk a0.All x3 fun x7=>.rt x7.Control
def Zapo : LF Empty Int := .z 107 [.t 4] false (fun r => []) (fun r => (wI r))
def Zane (a0 : Zc) (a1 : Int) : Option Int := Zapo.run (Zapn a0 a1)
theorem Zu8 (a0 : Zc) (a1 : Int) {r : Int} (h : Zane a0 a1 = some r) : Fn PR 107 [(wA (Z4 a0)), (wI a1)] (wI r) := Zapo.fn h
def Z9z (a0 : Int) (a1 : Int) (a2 : Int) : LT Empty Bool :=
.br (a2 == 1) (.rt (a0 == a1))<|.cs (a2 != 2) (.k4 1<|.rt true)<|.k4 1<|.rt (a0 != a1)
def Zapp : LF Empty Bool := .z 115 [.t 6] false (fun r => []) (fun r => (wB r))
def Z25 (a0 : Int) (a1 : Int) (a2 : Int) : Option Bool := Zapp.run (Z9z a0 a1 a2)
theorem Za0e (a0 : Int) (a1 : Int) (a2 : Int) {r : Bool} (h : Z25 a0 a1 a2 = some r) : Fn PR 115 [(wI a0), (wI a1), (wI a2)] (wB r) := Zapp.fn h
def Z4u (a0 : Int) (a1 : Int) (a2 : Int) : LT Empty Bool :=
.br (a2 == 1) (.rt (a0 == a1))<|.cs (a2 != 2) (.k4 1<|.rt true)<|.k4 1<|.rt (a0 != a1)
def Zaku : LF Empty Bool := .z 116 [.t 6] false (fun r => []) (fun r => (wB r))
def Zxe (a0 : Int) (a1 : Int) (a2 : Int) : Option Bool := Zaku.run (Z4u a0 a1 a2)
theorem Zaxw (a0 : Int) (a1 : Int) (a2 : Int) {r : Bool} (h : Zxe a0 a1 a2 = some r) : Fn PR 116 [(wI a0), (wI a1), (wI a2)] (wB r) := Zaku.fn h
def Z90 (a0 : Bool) (a1 : Int) : LT Empty Bool :=
.br (a1 == 1) (.rt a0)<|.cs (a1 != 2) (.k3 1<|.rt true)<|.k3 1<|.rt (!a0)
def Zapq : LF Empty Bool := .z 117 [.t 4] false (fun r => []) (fun r => (wB r))
def Z26 (a0 : Bool) (a1 : Int) : Option Bool := Zapq.run (Z90 a0 a1)
theorem Za0f (a0 : Bool) (a1 : Int) {r : Bool} (h : Z26 a0 a1 = some r) : Fn PR 117 [(wB a0), (wI a1)] (wB r) := Zapq.fn h
def Z6i (a0 : Int) (a1 : Int) : LT Empty Bool :=
.rt ((Zba .and .i64 a0 a1) != 0)
def Z6j : LF Empty Bool := .z 118 [.t 4] false (fun r => []) (fun r => (wB r))
def Zme (a0 : Int) (a1 : Int) : Option Bool := Z6j.run (Z6i a0 a1)
theorem Ze6 (a0 : Int) (a1 : Int) {r : Bool} (h : Zme a0 a1 = some r) : Fn PR 118 [(wI a0), (wI a1)] (wB r) := Z6j.fn h
def Zxf (a0 : Zs) (a1 : (List UInt8)) : LT Empty Bool :=
.lb 1002<|.call (Zvy a0.Subs a1) fun x1=>.rt (decide (x1 ≥ 0))
def Z91 : LF Empty Bool := .z 119 [.t 4] false (fun r => []) (fun r => (wB r))
def Zpb (a0 : Zs) (a1 : (List UInt8)) : Option Bool := Z91.run (Zxf a0 a1)
theorem Z6k (a0 : Zs) (a1 : (List UInt8)) {r : Bool} (h : Zpb a0 a1 = some r) : Fn PR 119 [(wA (Zd6 a0)), (wS a1)] (wB r) := Z91.fn h
def Zapr (a0 : Int) (a1 : Int) : LT Empty Bool :=
.rt ((Zba .and .i64 a0 a1) == a1)
def Zaps : LF Empty Bool := .z 120 [.t 4] false (fun r => []) (fun r => (wB r))
def Zaby (a0 : Int) (a1 : Int) : Option Bool := Zaps.run (Zapr a0 a1)
theorem Zakv (a0 : Int) (a1 : Int) {r : Bool} (h : Zaby a0 a1 = some r) : Fn PR 120 [(wI a0), (wI a1)] (wB r) := Zaps.fn h
def Z09 (a0 : Zd) (a1 : Int) : LT Empty Bool :=
.lb 1002<|.br (a0.Kind == 0) (.rt true)<|.br (a0.Kind == 1) (.rt (decide (a1 ≥ a0.N)))<|.br (a0.Kind == 2) (.rt (decide (a1 ≤ a0.N)))<|.br (a0.Kind == 3) (.rt (a1 == a0.N))<|.rt false
def Zaed : LF Empty Bool := .z 159 [.t 4] false (fun r => []) (fun r => (wB r))
def Zs3 (a0 : Zd) (a1 : Int) : Option Bool := Zaed.run (Z09 a0 a1)
theorem Zkm (a0 : Zd) (a1 : Int) {r : Bool} (h : Zs3 a0 a1 = some r) : Fn PR 159 [(wA (Zck a0)), (wI a1)] (wB r) := Zaed.fn h
def Z92 (a0 : Int) (a1 : Int) : LT Empty Int :=
.call (Zdf a0) fun x1=>.call (Zdf a1) fun x3=>.call (Zdf (IntKind.wrap .i64 (x1 * x3))) fun x7=>.rt x7
def Zapt : LF Empty Int := .z 33 [.t 4] false (fun r => []) (fun r => (wI r))
def Z27 (a0 : Int) (a1 : Int) : Option Int := Zapt.run (Z92 a0 a1)
theorem Zakw (a0 : Int) (a1 : Int) {r : Int} (h : Z27 a0 a1 = some r) : Fn PR 33 [(wI a0), (wI a1)] (wI r) := Zapt.fn h
inductive Zmf where
 | L0 (v1 : Int) (E0 : Zp) (v5 : Int) (v6 : Int)
def Zg0 (v1 : Int) (E0 : Zp) (v5 : Int) (v6 : Int) : LT Zmf Int :=
.br (decide (v6 < 5)) (.idA (Zf.int .i64) (A5.list E0.Color) v6 (bx (Zaq E0)) 2 7 fun x2=>.ldC (Zf.int .i64) 20 x2 0<|.call (Ziu v5 x2) fun x4=>.g0 (.L0 v1 E0 x4 (IntKind.wrap .i64 (v6 + 1))))<|.br (decide (v1 < 0)) (.call (Zakw E0.X 0) fun x9=>.call (Ziu v5 x9) fun x11=>.rt x11)<|.call (Zakw E0.X v1) fun x13=>.call (Ziu v5 x13) fun x15=>.rt x15
def Z1a (a0 : Zp) (a1 : Int) : LT Zmf Int :=
.lb 1002<|.call (Zr7 a0) fun x1=>.br (!x1) (.rt 0)<|.go (.L0 a1 a0 a0.Generic 0) [.relab 1002 30000000]
def Zrp : LF Zmf Int := ⟨160, [.t 4], false, fun | .L0 .. => [1,1,1,0,1,4],
 fun | .L0 v1 E0 v5 v6 => ⟨30, [(1, (wI v1)), (2, (.bptr 30000000 0)), (5, (wI v5)), (6, (wI v6))], [(30000000, .box (bx (Zaq E0)))]⟩,
 fun r => [], fun r => (wI r), fun | .L0 v1 E0 v5 v6 => Zg0 v1 E0 v5 v6⟩
def Zs4 (a0 : Zp) (a1 : Int) : Option Int := Zrp.run (Z1a a0 a1)
theorem Zxg (a0 : Zp) (a1 : Int) {r : Int} (h : Zs4 a0 a1 = some r) : Fn PR 160 [(wA (Zaq a0)), (wI a1)] (wI r) := Zrp.fn h
inductive Zkn where
 | L0 (E0 : Za) (E1 : Ze) (v5 : Bool)
def Zez (E0 : Za) (E1 : Ze) (v5 : Bool) : LT Zkn Bool :=
.cs (E1.Tough.Kind != 0) (.k2 0<|.cs v5 (.k5 1<|.call (Zkm E1.Tough E0.Tough) fun x3=>.kg 0<|.kg 1<|.k2 0<|.br (!x3) (.rt false)<|.call (Zxg E0.Cost 0) fun x6=>.call (Zkm E1.Value x6) fun x8=>.rt x8)<|.k5 1<|.kg 0<|.kg 1<|.k2 0<|.br (!false) (.rt false)<|.call (Zxg E0.Cost 0) fun x11=>.call (Zkm E1.Value x11) fun x13=>.rt x13)<|.k5 0<|.kn [0]<|.call (Zxg E0.Cost 0) fun x15=>.call (Zkm E1.Value x15) fun x17=>.rt x17
def Zxh (a0 : Za) (a1 : Ze) : LT Zkn Bool :=
.lb 1002<|.lb 1003<|.call (Ze6 a0.Line.Types 1) fun x1=>.cs (a1.Power.Kind != 0) (.k2 0<|.cs x1 (.k5 1<|.call (Zkm a1.Power a0.Power) fun x5=>.kg 0<|.kg 1<|.k2 0<|.br (!x5) (.rt false)<|.jn 0 (.L0 a0 a1 x1) [.relab 1002 30000000, .relab 1003 30000001] (Zez a0 a1 x1))<|.k5 1<|.kg 0<|.kg 1<|.k2 0<|.br (!false) (.rt false)<|.jn 0 (.L0 a0 a1 x1) [.relab 1002 30000000, .relab 1003 30000001] (Zez a0 a1 x1))<|.k5 0<|.kn [0]<|.jn 0 (.L0 a0 a1 x1) [.relab 1002 30000000, .relab 1003 30000001] (Zez a0 a1 x1)
def Zxi : LF Zkn Bool := ⟨121, [.t 4], false, fun | .L0 .. => [1,1,1],
 fun | .L0 E0 E1 v5 => ⟨46, [(2, (.bptr 30000000 0)), (3, (.bptr 30000001 0)), (5, (wB v5))], [(30000000, .box (bx (Zk E0))), (30000001, .box (bx (Zm E1)))]⟩,
 fun r => [], fun r => (wB r), fun | .L0 E0 E1 v5 => Zez E0 E1 v5⟩
def Zpc (a0 : Za) (a1 : Ze) : Option Bool := Zxi.run (Zxh a0 a1)
theorem Z6l (a0 : Za) (a1 : Ze) {r : Bool} (h : Zpc a0 a1 = some r) : Fn PR 121 [(wA (Zk a0)), (wA (Zm a1))] (wB r) := Zxi.fn h
inductive Zh8 where
 | L0 (E0 : Za) (E1 : Ze)
 | L1 (E0 : Za) (E1 : Ze)
def Zfw (E0 : Za) (E1 : Ze) : LT Zh8 Bool :=
.cs (!(E1.Sub == ([] : List UInt8))) (.k5 0<|.call (Z6k E0.Line E1.Sub) fun x2=>.k2 0<|.cs (!x2) (.k5 1<|.k2 1<|.kn [0]<|.rt false)<|.k5 1<|.call (Zakv E0.Keys E1.Keys) fun x5=>.k2 1<|.br (!x5) (.rt false)<|.call (Z6l E0 E1) fun x8=>.rt x8)<|.k5 0<|.k2 0<|.b5 false<|.call (Zakv E0.Keys E1.Keys) fun x10=>.b2 false<|.br (!x10) (.rt false)<|.call (Z6l E0 E1) fun x13=>.rt x13
def Zfx (E0 : Za) (E1 : Ze) : LT Zh8 Bool :=
.cs (E1.Colors != 0) (.k5 0<|.call (Ze6 E0.Colors E1.Colors) fun x2=>.k2 0<|.cs (!x2) (.k5 1<|.kg 1<|.kn [0]<|.rt false)<|.k5 1<|.call (Ze6 E0.Colors E1.NotColors) fun x5=>.kg 1<|.br x5 (.rt false)<|.j0 (.L1 E0 E1) (Zfw E0 E1))<|.k5 0<|.k2 0<|.b5 false<|.call (Ze6 E0.Colors E1.NotColors) fun x8=>.kb false<|.br x8 (.rt false)<|.j0 (.L1 E0 E1) (Zfw E0 E1)
def Zxj (a0 : Zg) (a1 : Za) (a2 : Int) (a3 : Int) (a4 : Ze) : LT Zh8 Bool :=
.lb 1005<|.lb 1006<|.lb 1009<|.call (Zey a4) fun x1=>.cs (!x1) (.k5 0<|.kg 0<|.b16 true<|.b5 true<|.b2 true<|.kn [0]<|.rt false)<|.k5 0<|.kg 0<|.cs (a0.Zone != a4.Zone) (.k8 1<|.b8 true<|.b5 true<|.b2 true<|.kn [0]<|.rt false)<|.k5 1<|.kg 1<|.call (Za0e a1.Control a2 a4.Who) fun x5=>.k2 1<|.cs (!x5) (.k8 2<|.b5 true<|.b2 true<|.kn [0]<|.rt false)<|.k5 2<|.kg 2<|.call (Zaxw a0.Id a3 a4.Self) fun x8=>.k2 2<|.cs (!x8) (.k5 3<|.k2 3<|.kn [0]<|.rt false)<|.k5 3<|.call (Za0f a0.Tapped a4.Tap) fun x11=>.k2 3<|.br (!x11) (.rt false)<|.cs (a4.Types != 0) (.k5 5<|.kg 5<|.call (Ze6 a1.Line.Types a4.Types) fun x15=>.k2 5<|.cs (!x15) (.k5 6<|.k2 6<|.kn [0]<|.rt false)<|.k5 6<|.kg 6<|.call (Ze6 a1.Line.Types a4.NotTypes) fun x18=>.kg 6<|.br x18 (.rt false)<|.jn 0 (.L0 a1 a4) [.relab 1006 30000000, .relab 1009 30000001] (Zfx a1 a4))<|.k8 5<|.b5 false<|.kb false<|.call (Ze6 a1.Line.Types a4.NotTypes) fun x21=>.kb false<|.br x21 (.rt false)<|.jn 0 (.L0 a1 a4) [.relab 1006 30000000, .relab 1009 30000001] (Zfx a1 a4)
def Zpd : LF Zh8 Bool := ⟨74, [.t 10], false, fun | .L0 .. => [1,1,1] | .L1 .. => [1,1,1,1],
 fun | .L0 E0 E1 => ⟨107, [(6, (.bptr 30000000 0)), (9, (.bptr 30000001 0))], [(30000000, .box (bx (Zk E0))), (30000001, .box (bx (Zm E1)))]⟩ | .L1 E0 E1 => ⟨107, [(6, (.bptr 30000000 0)), (9, (.bptr 30000001 0))], [(30000000, .box (bx (Zk E0))), (30000001, .box (bx (Zm E1)))]⟩,
 fun r => [], fun r => (wB r), fun | .L0 E0 E1 => Zfx E0 E1 | .L1 E0 E1 => Zfw E0 E1⟩
def Zpe (a0 : Zg) (a1 : Za) (a2 : Int) (a3 : Int) (a4 : Ze) : Option Bool := Zpd.run (Zxj a0 a1 a2 a3 a4)
theorem Zts (a0 : Zg) (a1 : Za) (a2 : Int) (a3 : Int) (a4 : Ze) {r : Bool} (h : Zpe a0 a1 a2 a3 a4 = some r) : Fn PR 74 [(wA (Zh a0)), (wA (Zk a1)), (wI a2), (wI a3), (wA (Zm a4))] (wB r) := Zpd.fn h
inductive Zjd where
 | L0 (v1 : Int) (E0 : Zc) (v5 : (List Int)) (E1 : Zl) (v7 : Int)
def Zqs (v1 : Int) (E0 : Zc) (v5 : (List Int)) (E1 : Zl) (v7 : Int) : LT Zjd (List Int) :=
.len Zh E0.S.Objects<|.br (decide (v7 < (E0.S.Objects.length : Int))) (.idx Zh E0.S.Objects v7 fun x3=>.lb 1008<|.br (x3.Zone != 0) (.g0 (.L0 v1 E0 v5 E1 (IntKind.wrap .i64 (v7 + 1))))<|.cs E1.Fixed (.k5 2<|.call (Zakt E1.Objects x3.Id) fun x9=>.kg 2<|.cs x9 (.k5 3<|.kg 3<|.kn [0]<|.dr [.lit]<|.apR (cI .i64) 8 v5 [x3.Id] fun x13=>.g0 (.L0 v1 E0 x13 E1 (IntKind.wrap .i64 (v7 + 1))))<|.k4 3<|.cs (!E1.Fixed) (.k5 4<|.idx Zk E0.All v7 fun x19=>.k4 4<|.call (Zu8 E0 v1) fun x21=>.k5 4<|.call (Zts x3 x19 x21 E1.Source E1.Filter) fun x23=>.kg 3<|.kg 4<|.kg 3<|.br x23 (.dr [.lit]<|.apR (cI .i64) 8 v5 [x3.Id] fun x27=>.g0 (.L0 v1 E0 x27 E1 (IntKind.wrap .i64 (v7 + 1))))<|.g0 (.L0 v1 E0 v5 E1 (IntKind.wrap .i64 (v7 + 1))))<|.k8 4<|.k5 4<|.kg 4<|.kg 3<|.kg 4<|.kg 3<|.kn [0]<|.g0 (.L0 v1 E0 v5 E1 (IntKind.wrap .i64 (v7 + 1))))<|.k5 2<|.kg 2<|.b4 false<|.cs (!E1.Fixed) (.k5 3<|.idx Zk E0.All v7 fun x37=>.k4 3<|.call (Zu8 E0 v1) fun x39=>.k5 3<|.call (Zts x3 x37 x39 E1.Source E1.Filter) fun x41=>.kb false<|.kg 3<|.kb false<|.br x41 (.dr [.lit]<|.apR (cI .i64) 8 v5 [x3.Id] fun x45=>.g0 (.L0 v1 E0 x45 E1 (IntKind.wrap .i64 (v7 + 1))))<|.g0 (.L0 v1 E0 v5 E1 (IntKind.wrap .i64 (v7 + 1))))<|.k8 3<|.k5 3<|.kg 3<|.kb false<|.kg 3<|.kb false<|.kn [0]<|.g0 (.L0 v1 E0 v5 E1 (IntKind.wrap .i64 (v7 + 1))))<|.rl (cI .i64) v5<|.rt v5
def Z6m (a0 : Zc) (a1 : Int) : LT Zjd (List Int) :=
.lb 1002<|.idx cB a0.Begun a1 fun x1=>.br x1 (.idx (cL (cI .i64)) a0.Sets a1 fun x4=>.rt x4)<|.lb 1019<|.call (Zmr a0 a1) fun x6=>.br (!x6) (.rl (cI .i64) ([] : (List Int))<|.rt ([] : (List Int)))<|.idx Zi a0.L a1 fun x9=>.lb 1006<|.go (.L0 a1 a0 ([] : (List Int)) x9 0) [.relab 1002 30000000, .relab 1006 30000001, .relab 1019 20000005]
def Z6n : LF Zjd (List Int) := ⟨105, [.t 4], false, fun | .L0 .. => [1,1,1,1,1,0,1,4],
 fun | .L0 v1 E0 v5 E1 v7 => ⟨83, [(1, (wI v1)), (2, (.bptr 30000000 0)), (5, (wO (cI .i64) 20000005 v5)), (6, (.bptr 30000001 0)), (7, (wI v7))], [(30000000, .box (bx (Z4 E0))), (20000005, wR (cI .i64) 1 v5), (30000001, .box (bx (Zi E1)))]⟩,
 fun r => [], fun r => (wL (cI .i64) r), fun | .L0 v1 E0 v5 E1 v7 => Zqs v1 E0 v5 E1 v7⟩
def Z1b (a0 : Zc) (a1 : Int) : Option (List Int) := Z6n.run (Z6m a0 a1)
theorem Zqt (a0 : Zc) (a1 : Int) {r : (List Int)} (h : Z1b a0 a1 = some r) : Fn PR 105 [(wA (Z4 a0)), (wI a1)] (wL (cI .i64) r) := Z6n.fn h
def Zavh (a0 : (List Za)) (a1 : Int) : LT Empty Za :=
.lb 1004<|.cs (decide (a1 < 0)) (.k5 0<|.kn [0]<|.rt (⟨([] : List UInt8), (⟨0, 0, (⟨0, 0, 0, 0, 0⟩ : (A5 Int))⟩ : Zp), 0, (⟨0, 0, ([] : (List (List UInt8)))⟩ : Zs), 0, 0, 0, ([] : (List Zj)), 0⟩ : Za))<|.k3 0<|.len Zk a0<|.k2 0<|.br (decide (a1 ≥ (a0.length : Int))) (.rt (⟨([] : List UInt8), (⟨0, 0, (⟨0, 0, 0, 0, 0⟩ : (A5 Int))⟩ : Zp), 0, (⟨0, 0, ([] : (List (List UInt8)))⟩ : Zs), 0, 0, 0, ([] : (List Zj)), 0⟩ : Za))<|.idx Zk a0 a1 fun x4=>.rt x4
def Zavi : LF Empty Za := .z 75 [.c 4 81 true 17] false (fun r => []) (fun r => (wA (Zk r)))
def Zavj (a0 : (List Za)) (a1 : Int) : Option Za := Zavi.run (Zavh a0 a1)
theorem Za21 (a0 : (List Za)) (a1 : Int) {r : Za} (h : Zavj a0 a1 = some r) : Fn PR 75 [(wL Zk a0), (wI a1)] (wA (Zk r)) := Zavi.fn h
inductive Z4v where
 | L0 (v1 : (List Za)) (v2 : Int) (v3 : Int) (E0 : Zb) (E1 : Ze) (v11 : (List Int)) (v12 : Int)
def Zmg (v1 : (List Za)) (v2 : Int) (v3 : Int) (E0 : Zb) (E1 : Ze) (v11 : (List Int)) (v12 : Int) : LT Z4v (List Int) :=
.len Zh E0.Objects<|.br (decide (v12 < (E0.Objects.length : Int))) (.idx Zh E0.Objects v12 fun x3=>.call (Za21 v1 v12) fun x5=>.call (Zts x3 x5 v2 v3 E1) fun x7=>.br x7 (.ag Zh x3 0<|.dr [.lit]<|.apR (cI .i64) 8 v11 [x3.Id] fun x11=>.g0 (.L0 v1 v2 v3 E0 E1 x11 (IntKind.wrap .i64 (v12 + 1))))<|.g0 (.L0 v1 v2 v3 E0 E1 v11 (IntKind.wrap .i64 (v12 + 1))))<|.ret v11 [.relab 20000011 5000]
def Zakx (a0 : Zb) (a1 : (List Za)) (a2 : Int) (a3 : Int) (a4 : Ze) : LT Z4v (List Int) :=
.lb 1005<|.lb 1009<|.go (.L0 a1 a2 a3 a0 a4 ([] : (List Int)) 0) [.relab 1005 30000000, .relab 1009 30000001, .own 11 20000011 1]
def Z4w : LF Z4v (List Int) := ⟨34, [.t 10], true, fun | .L0 .. => [1,1,0,1,4],
 fun | .L0 v1 v2 v3 E0 E1 v11 v12 => ⟨42, [(1, (wL Zk v1)), (2, (wI v2)), (3, (wI v3)), (5, (.bptr 30000000 0)), (9, (.bptr 30000001 0)), (11, (wO (cI .i64) 20000011 v11)), (12, (wI v12))], [(30000000, .box (bx (Zo E0))), (30000001, .box (bx (Zm E1))), (20000011, wR (cI .i64) 1 v11)]⟩,
 fun r => [(5000, wR (cI .i64) 1 r)], fun r => (wO (cI .i64) 5000 r), fun | .L0 v1 v2 v3 E0 E1 v11 v12 => Zmg v1 v2 v3 E0 E1 v11 v12⟩
def Zxk (a0 : Zb) (a1 : (List Za)) (a2 : Int) (a3 : Int) (a4 : Ze) : Option (List Int) := Z4w.run (Zakx a0 a1 a2 a3 a4)
theorem Zavk (a0 : Zb) (a1 : (List Za)) (a2 : Int) (a3 : Int) (a4 : Ze) {r : (List Int)} (h : Zxk a0 a1 a2 a3 a4 = some r) : FnG PR 34 [] [(wA (Zo a0)), (wL Zk a1), (wI a2), (wI a3), (wA (Zm a4))] [(5000, wR (cI .i64) 1 r)] (wO (cI .i64) 5000 r) := Z4w.fn h
theorem Zaxx (a0 : Zb) (a1 : (List Za)) (a2 : Int) (a3 : Int) (a4 : Ze) {r : (List Int)} (h : Zxk a0 a1 a2 a3 a4 = some r) : Fn PR 34 [(wA (Zo a0)), (wL Zk a1), (wI a2), (wI a3), (wA (Zm a4))] (wL (cI .i64) r) :=
 FnG.frozen (C := LT.RL (cI .i64) r ∧ True) (Zavk a0 a1 a2 a3 a4 h) ⟨rfl, trivial⟩ (by kernel_rfl)
inductive Zje where
 | L0 (v1 : Int) (v2 : Int) (E0 : Zc) (v7 : (List Int)) (E1 : Zl) (v9 : Int)
def Zqu (v1 : Int) (v2 : Int) (E0 : Zc) (v7 : (List Int)) (E1 : Zl) (v9 : Int) : LT Zje (List Int) :=
.len Z0 E1.Mods<|.br (decide (v9 < (E1.Mods.length : Int))) (.idx Z0 E1.Mods v9 fun x3=>.call (Zpa x3.Kind) fun x5=>.br (x5 != v2) (.g0 (.L0 v1 v2 E0 v7 E1 (IntKind.wrap .i64 (v9 + 1))))<|.ag Z0 x3 0<|.br (x3.Kind == 11) (.call (Zu8 E0 v1) fun x11=>.ag Z0 x3 0<|.call (Zaxx E0.S E0.All x11 E1.Source x3.Filter) fun x13=>.len (cI .i64) x13<|.dr [.lit]<|.apR (cI .i64) 8 v7 [(x13.length : Int)] fun x17=>.g0 (.L0 v1 v2 E0 x17 E1 (IntKind.wrap .i64 (v9 + 1))))<|.dr [.lit]<|.apR (cI .i64) 8 v7 [0] fun x23=>.g0 (.L0 v1 v2 E0 x23 E1 (IntKind.wrap .i64 (v9 + 1))))<|.ret v7 [.relab 20000007 5000]
def Z6o (a0 : Zc) (a1 : Int) (a2 : Int) : LT Zje (List Int) :=
.lb 1003<|.lb 1011<|.idx Zi a0.L a1 fun x1=>.lb 1008<|.go (.L0 a1 a2 a0 ([] : (List Int)) x1 0) [.relab 1003 30000000, .relab 1008 30000001, .relab 1011 20000007]
def Z6p : LF Zje (List Int) := ⟨106, [.t 6], true, fun | .L0 .. => [1,1,1,0,1,4],
 fun | .L0 v1 v2 E0 v7 E1 v9 => ⟨62, [(1, (wI v1)), (2, (wI v2)), (3, (.bptr 30000000 0)), (7, (wO (cI .i64) 20000007 v7)), (8, (.bptr 30000001 0)), (9, (wI v9))], [(30000000, .box (bx (Z4 E0))), (20000007, wR (cI .i64) 1 v7), (30000001, .box (bx (Zi E1)))]⟩,
 fun r => [(5000, wR (cI .i64) 1 r)], fun r => (wO (cI .i64) 5000 r), fun | .L0 v1 v2 E0 v7 E1 v9 => Zqu v1 v2 E0 v7 E1 v9⟩
def Zrq (a0 : Zc) (a1 : Int) (a2 : Int) : Option (List Int) := Z6p.run (Z6o a0 a1 a2)
theorem Zaky (a0 : Zc) (a1 : Int) (a2 : Int) {r : (List Int)} (h : Zrq a0 a1 a2 = some r) : FnG PR 106 [] [(wA (Z4 a0)), (wI a1), (wI a2)] [(5000, wR (cI .i64) 1 r)] (wO (cI .i64) 5000 r) := Z6p.fn h
theorem Zqv (a0 : Zc) (a1 : Int) (a2 : Int) {r : (List Int)} (h : Zrq a0 a1 a2 = some r) : Fn PR 106 [(wA (Z4 a0)), (wI a1), (wI a2)] (wL (cI .i64) r) :=
 FnG.frozen (C := LT.RL (cI .i64) r ∧ True) (Zaky a0 a1 a2 h) ⟨rfl, trivial⟩ (by kernel_rfl)
inductive Zh9 where
 | L0 (v1 : (List UInt8)) (E0 : Zs) (E1 : Zs) (v5 : (List (List UInt8))) (v6 : Int)
 | L1 (v1 : (List UInt8)) (E0 : Zs) (E1 : Zs) (v5 : (List (List UInt8))) (v6 : Int)
def Zjf (v1 : (List UInt8)) (E0 : Zs) (E1 : Zs) (v5 : (List (List UInt8))) (v6 : Int) : LT Zh9 Zs :=
.lb 1045<|.dr [.ahead 48, .frz 20000005, .stop]<|.rl cS v5<|.rl cS v5<|.sl cS v5 0 v6 fun x1=>.apR cS 16 ([] : (List (List UInt8))) x1 fun x4=>.dr [.lit]<|.apR cS 16 x4 [v1] fun x8=>.slN cS v5 v6 fun x11=>.apR cS 16 x8 x11 fun x13=>.ret (⟨E0.Super, E0.Types, x13⟩ : Zs) [.relab 1045 5002]
def Ztt (v1 : (List UInt8)) (E0 : Zs) (E1 : Zs) (v5 : (List (List UInt8))) (v6 : Int) : LT Zh9 Zs :=
.lenO cS v5<|.cs (decide (v6 < (v5.length : Int))) (.k3 0<|.idxR cS v5 v6 fun x3=>.kg 0<|.ldR cS v5 x3 2<|.k3 0<|.br (Op.bytesLess x3 v1) (.g0 (.L0 v1 E0 E1 v5 (IntKind.wrap .i64 (v6 + 1))))<|.j0 (.L1 v1 E0 E1 v5 v6) (Zjf v1 E0 E1 v5 v6))<|.k5 0<|.k2 0<|.kn [0]<|.j0 (.L1 v1 E0 E1 v5 v6) (Zjf v1 E0 E1 v5 v6)
def Z93 (a0 : Zs) (a1 : (List UInt8)) : LT Zh9 Zs :=
.lb 1002<|.lb 1004<|.lb 1008<|.apR cS 16 ([] : (List (List UInt8))) a0.Subs fun x1=>.call (Zog a1) fun x4=>.cs (!x4) (.k4 0<|.b4 true<|.kn [0]<|.ret (⟨a0.Super, a0.Types, x1⟩ : Zs) [.relab 1008 5002])<|.k3 0<|.call (Z6k a0 a1) fun x7=>.kg 0<|.cs x7 (.k4 1<|.kn [0]<|.ret (⟨a0.Super, a0.Types, x1⟩ : Zs) [.relab 1008 5002])<|.k2 1<|.lenO cS x1<|.k2 1<|.br (decide ((x1.length : Int) ≥ 4)) (.ret (⟨a0.Super, a0.Types, x1⟩ : Zs) [.relab 1008 5002])<|.go (.L0 a1 a0 (⟨0, 0, ([] : (List (List UInt8)))⟩ : Zs) x1 0) [.relab 1002 30000000, .relab 1004 30000001, .relab 1008 20000005, .ownb 30000001 2 40000102 1]
def Z94 : LF Zh9 Zs := ⟨187, [.c 4 75 true 3], true, fun | .L0 .. => [1,1,1,1,0,4] | .L1 .. => [1,1,1,1,1],
 fun | .L0 v1 E0 E1 v5 v6 => ⟨64, [(1, (wS v1)), (2, (.bptr 30000000 0)), (4, (.bptr 30000001 0)), (5, (wO cS 20000005 v5)), (6, (wI v6))], [(30000000, .box (bx (Zd6 E0))), (30000001, .box [(wI E1.Super), (wI E1.Types), (wO cS 40000102 E1.Subs)]), (40000102, wR cS 1 E1.Subs), (20000005, wR cS 1 v5)]⟩ | .L1 v1 E0 E1 v5 v6 => ⟨64, [(1, (wS v1)), (2, (.bptr 30000000 0)), (4, (.bptr 30000001 0)), (5, (wO cS 20000005 v5)), (6, (wI v6))], [(30000000, .box (bx (Zd6 E0))), (30000001, .box [(wI E1.Super), (wI E1.Types), (wO cS 40000102 E1.Subs)]), (40000102, wR cS 1 E1.Subs), (20000005, wR cS 1 v5)]⟩,
 fun r => [(5002, wR cS 1 r.Subs)], fun r => (.agg [(wI r.Super), (wI r.Types), (wO cS 5002 r.Subs)]), fun | .L0 v1 E0 E1 v5 v6 => Ztt v1 E0 E1 v5 v6 | .L1 v1 E0 E1 v5 v6 => Zjf v1 E0 E1 v5 v6⟩
def Z4x (a0 : Zs) (a1 : (List UInt8)) : Option Zs := Z94.run (Z93 a0 a1)
theorem Zanf (a0 : Zs) (a1 : (List UInt8)) {r : Zs} (h : Z4x a0 a1 = some r) : FnG PR 187 [] [(wA (Zd6 a0)), (wS a1)] [(5002, wR cS 1 r.Subs)] (.agg [(wI r.Super), (wI r.Types), (wO cS 5002 r.Subs)]) := Z94.fn h
def Zaee (a0 : Za) (a1 : Zr) (a2 : Int) (a3 : Int) : LT Empty Za :=
.lb 1004<|.lb 1005<|.lb 1008<|.call (Z8b a1) fun x1=>.br (!x1) (.rt a0)<|.br (a1.Kind == 1) (.rt (⟨a0.Name, a0.Cost, a0.Colors, a0.Line, a0.Power, a0.Tough, a0.Keys, a0.Abilities, a2⟩ : Za))<|.br (a1.Kind == 2) (.rt (⟨a0.Name, a0.Cost, a0.Colors, (⟨a0.Line.Super, a1.N, a0.Line.Subs⟩ : Zs), a0.Power, a0.Tough, a0.Keys, a0.Abilities, a0.Control⟩ : Za))<|.br (a1.Kind == 3) (.rt (⟨a0.Name, a0.Cost, a0.Colors, (⟨a0.Line.Super, Zba .or .i64 a0.Line.Types a1.N, a0.Line.Subs⟩ : Zs), a0.Power, a0.Tough, a0.Keys, a0.Abilities, a0.Control⟩ : Za))<|.br (a1.Kind == 4) (.lb 1040<|.rl cS [a1.Sub]<|.rt (⟨a0.Name, a0.Cost, a0.Colors, (⟨a0.Line.Super, a0.Line.Types, [a1.Sub]⟩ : Zs), a0.Power, a0.Tough, a0.Keys, a0.Abilities, a0.Control⟩ : Za))<|.br (a1.Kind == 5) (.callF (Zanf a0.Line a1.Sub) 500000 fun x10=>.rl cS x10.Subs<|.rt (⟨a0.Name, a0.Cost, a0.Colors, x10, a0.Power, a0.Tough, a0.Keys, a0.Abilities, a0.Control⟩ : Za))<|.br (a1.Kind == 6) (.rt (⟨a0.Name, a0.Cost, a1.N, a0.Line, a0.Power, a0.Tough, a0.Keys, a0.Abilities, a0.Control⟩ : Za))<|.br (a1.Kind == 7) (.rt (⟨a0.Name, a0.Cost, Zba .or .i64 a0.Colors a1.N, a0.Line, a0.Power, a0.Tough, a0.Keys, a0.Abilities, a0.Control⟩ : Za))<|.br (a1.Kind == 8) (.rt (⟨a0.Name, a0.Cost, a0.Colors, a0.Line, a0.Power, a0.Tough, Zba .or .i64 a0.Keys a1.N, a0.Abilities, a0.Control⟩ : Za))<|.br (a1.Kind == 9) (.rt (⟨a0.Name, a0.Cost, a0.Colors, a0.Line, a0.Power, a0.Tough, Zba .andNot .i64 a0.Keys a1.N, a0.Abilities, a0.Control⟩ : Za))<|.br (a1.Kind == 10) (.rt (⟨a0.Name, a0.Cost, a0.Colors, a0.Line, a0.Power, a0.Tough, 0, ([] : (List Zj)), a0.Control⟩ : Za))<|.br (a1.Kind == 11) (.call (Zdf a3) fun x18=>.call (Zdf a3) fun x20=>.rt (⟨a0.Name, a0.Cost, a0.Colors, a0.Line, x18, x20, a0.Keys, a0.Abilities, a0.Control⟩ : Za))<|.br (a1.Kind == 12) (.rt (⟨a0.Name, a0.Cost, a0.Colors, a0.Line, a1.N, a1.M, a0.Keys, a0.Abilities, a0.Control⟩ : Za))<|.br (a1.Kind == 13) (.call (Ziu a0.Power a1.N) fun x24=>.call (Ziu a0.Tough a1.M) fun x26=>.rt (⟨a0.Name, a0.Cost, a0.Colors, a0.Line, x24, x26, a0.Keys, a0.Abilities, a0.Control⟩ : Za))<|.br (a1.Kind == 14) (.rt (⟨a0.Name, a0.Cost, a0.Colors, a0.Line, a0.Tough, a0.Power, a0.Keys, a0.Abilities, a0.Control⟩ : Za))<|.rt a0
def Zaef : LF Empty Za := .z 154 [.c 8 81 true 17] false (fun r => []) (fun r => (wA (Zk r)))
def Z95 (a0 : Za) (a1 : Zr) (a2 : Int) (a3 : Int) : Option Za := Zaef.run (Zaee a0 a1 a2 a3)
theorem Zavl (a0 : Za) (a1 : Zr) (a2 : Int) (a3 : Int) {r : Za} (h : Z95 a0 a1 a2 a3 = some r) : Fn PR 154 [(wA (Zk a0)), (wA (Z0 a1)), (wI a2), (wI a3)] (wA (Zk r)) := Zaef.fn h
inductive Zia where
 | L0 (v2 : Int) (v3 : Int) (v4 : (List Int)) (E0 : Za) (E1 : Zl) (E2 : Za) (v11 : Int) (v12 : Int)
def Zpf (v2 : Int) (v3 : Int) (v4 : (List Int)) (E0 : Za) (E1 : Zl) (E2 : Za) (v11 : Int) (v12 : Int) : LT Zia Za :=
.len Z0 E1.Mods<|.br (decide (v12 < (E1.Mods.length : Int))) (.idx Z0 E1.Mods v12 fun x3=>.call (Zpa x3.Kind) fun x5=>.br (x5 == v2) (.ag Z0 x3 0<|.idx (cI .i64) v4 v11 fun x8=>.call (Zavl E0 x3 v3 x8) fun x10=>.g0 (.L0 v2 v3 v4 x10 E1 E2 (IntKind.wrap .i64 (v11 + 1)) (IntKind.wrap .i64 (v12 + 1))))<|.g0 (.L0 v2 v3 v4 E0 E1 E2 v11 (IntKind.wrap .i64 (v12 + 1))))<|.rt E0
def Z28 (a0 : Za) (a1 : Zl) (a2 : Int) (a3 : Int) (a4 : (List Int)) : LT Zia Za :=
.lb 1005<|.lb 1006<|.lb 1010<|.go (.L0 a2 a3 a4 a0 a1 (⟨([] : List UInt8), (⟨0, 0, (⟨0, 0, 0, 0, 0⟩ : (A5 Int))⟩ : Zp), 0, (⟨0, 0, ([] : (List (List UInt8)))⟩ : Zs), 0, 0, 0, ([] : (List Zj)), 0⟩ : Za) 0 0) [.relab 1005 30000000, .relab 1006 30000001, .relab 1010 30000002, .ownb 30000002 11 40000211 1, .ownb 30000002 15 40000215 72]
def Z29 : LF Zia Za := ⟨108, [.c 10 81 true 17], false, fun | .L0 .. => [1,1,0,1,4],
 fun | .L0 v2 v3 v4 E0 E1 E2 v11 v12 => ⟨44, [(2, (wI v2)), (3, (wI v3)), (4, (wL (cI .i64) v4)), (5, (.bptr 30000000 0)), (6, (.bptr 30000001 0)), (10, (.bptr 30000002 0)), (11, (wI v11)), (12, (wI v12))], [(30000000, .box (bx (Zk E0))), (30000001, .box (bx (Zi E1))), (30000002, .box [(wS E2.Name), (wI E2.Cost.Generic), (wI E2.Cost.X), (wI E2.Cost.Color.a0), (wI E2.Cost.Color.a1), (wI E2.Cost.Color.a2), (wI E2.Cost.Color.a3), (wI E2.Cost.Color.a4), (wI E2.Colors), (wI E2.Line.Super), (wI E2.Line.Types), (wO cS 40000211 E2.Line.Subs), (wI E2.Power), (wI E2.Tough), (wI E2.Keys), (wO Zu 40000215 E2.Abilities), (wI E2.Control)]), (40000211, wR cS 1 E2.Line.Subs), (40000215, wR Zu 72 E2.Abilities)]⟩,
 fun r => [], fun r => (wA (Zk r)), fun | .L0 v2 v3 v4 E0 E1 E2 v11 v12 => Zpf v2 v3 v4 E0 E1 E2 v11 v12⟩
def Zxl (a0 : Za) (a1 : Zl) (a2 : Int) (a3 : Int) (a4 : (List Int)) : Option Za := Z29.run (Z28 a0 a1 a2 a3 a4)
theorem Zakz (a0 : Za) (a1 : Zl) (a2 : Int) (a3 : Int) (a4 : (List Int)) {r : Za} (h : Zxl a0 a1 a2 a3 a4 = some r) : Fn PR 108 [(wA (Zk a0)), (wA (Zi a1)), (wI a2), (wI a3), (wL (cI .i64) a4)] (wA (Zk r)) := Z29.fn h
inductive Zmh where
 | L0 (v1 : Int) (E0 : Zl) (v5 : Int)
def Zxm (v1 : Int) (E0 : Zl) (v5 : Int) : LT Zmh Bool :=
.len Z0 E0.Mods<|.br (decide (v5 < (E0.Mods.length : Int))) (.idx Z0 E0.Mods v5 fun x3=>.cs (x3.Kind == 10) (.k4 1<|.ag Z0 x3 0<|.k3 1<|.call (Zpa x3.Kind) fun x6=>.k3 1<|.br (x6 == v1) (.rt true)<|.g0 (.L0 v1 E0 (IntKind.wrap .i64 (v5 + 1))))<|.k8 1<|.k2 1<|.kn [0]<|.g0 (.L0 v1 E0 (IntKind.wrap .i64 (v5 + 1))))<|.rt false
def Zaeg (a0 : Zl) (a1 : Int) : LT Zmh Bool :=
.lb 1002<|.go (.L0 a1 a0 0) [.relab 1002 30000000]
def Zaeh : LF Zmh Bool := ⟨109, [.t 4], false, fun | .L0 .. => [1,0,1,4],
 fun | .L0 v1 E0 v5 => ⟨31, [(1, (wI v1)), (2, (.bptr 30000000 0)), (5, (wI v5))], [(30000000, .box (bx (Zi E0)))]⟩,
 fun r => [], fun r => (wB r), fun | .L0 v1 E0 v5 => Zxm v1 E0 v5⟩
def Z96 (a0 : Zl) (a1 : Int) : Option Bool := Zaeh.run (Zaeg a0 a1)
theorem Zavm (a0 : Zl) (a1 : Int) {r : Bool} (h : Z96 a0 a1 = some r) : Fn PR 109 [(wA (Zi a0)), (wI a1)] (wB r) := Zaeh.fn h
inductive Zjg where
 | L0 (v1 : Int) (v2 : Int) (E0 : Zc) (E1 : Zc) (v7 : (List Int)) (v8 : (List Int)) (v9 : Int) (E2 : Zc) (v11 : Int)
def Zqw (v1 : Int) (v2 : Int) (E0 : Zc) (E1 : Zc) (v7 : (List Int)) (v8 : (List Int)) (v9 : Int) (E2 : Zc) (v11 : Int) : LT Zjg Zc :=
.len Zh E0.S.Objects<|.br (decide (v11 < (E0.S.Objects.length : Int))) (.idx Zh E0.S.Objects v11 fun x3=>.call (Zakt v7 x3.Id) fun x5=>.br (!x5) (.g0 (.L0 v1 v2 E0 E1 v7 v8 v9 E2 (IntKind.wrap .i64 (v11 + 1))))<|.idx Zk E0.All v11 fun x10=>.idx Zi E0.L v1 fun x12=>.call (Zakz x10 x12 v2 v9 v8) fun x14=>.idxR Zk E2.All v11 fun x16=>.setR Zk E2.All v11 x16 x14 11 0 [(.str x14.Name), (.int .i64 x14.Cost.Generic), (.int .i64 x14.Cost.X), (.int .i64 x14.Cost.Color.a0), (.int .i64 x14.Cost.Color.a1), (.int .i64 x14.Cost.Color.a2), (.int .i64 x14.Cost.Color.a3), (.int .i64 x14.Cost.Color.a4), (.int .i64 x14.Colors), (.int .i64 x14.Line.Super), (.int .i64 x14.Line.Types), (.sl (List.map cS x14.Line.Subs)), (.int .i64 x14.Power), (.int .i64 x14.Tough), (.int .i64 x14.Keys), (.sl (List.map Zu x14.Abilities)), (.int .i64 x14.Control)] rfl fun x18=>.dr [.ahead 101, .relen 40000219, .stop]<|.us [12]<|.us [12]<|.us [12]<|.ag Zi x12 6<|.call (Zavm x12 v2) fun x20=>.br x20 (.idxR cB E2.Blank v11 fun x23=>.setR cB E2.Blank v11 x23 true 15 0 [(.bool true)] rfl fun x25=>.dr [.ahead 71, .relen 40000223, .stop]<|.us [16]<|.us [16]<|.us [16]<|.g0 (.L0 v1 v2 E0 E1 v7 v8 v9 (⟨E2.S, x18, E2.L, E2.Begun, E2.Sets, x25⟩ : Zc) (IntKind.wrap .i64 (v11 + 1))))<|.g0 (.L0 v1 v2 E0 E1 v7 v8 v9 (⟨E2.S, x18, E2.L, E2.Begun, E2.Sets, E2.Blank⟩ : Zc) (IntKind.wrap .i64 (v11 + 1))))<|.rl Zk E2.All<|.rl cB E2.Begun<|.rl (cL (cI .i64)) E2.Sets<|.rl cB E2.Blank<|.rt E2
def Z6q (a0 : Zc) (a1 : Int) (a2 : Int) : LT Zjg Zc :=
.lb 1003<|.lb 1006<|.call (Zmr a0 a1) fun x1=>.br (!x1) (.rt a0)<|.call (Zqt a0 a1) fun x4=>.call (Zqv a0 a1 a2) fun x6=>.call (Zu8 a0 a1) fun x8=>.lb 1010<|.apN Zk 1036 176 a0.All fun x10=>.apN cB 1042 1 a0.Begun fun x13=>.apN (cL (cI .i64)) 1048 24 a0.Sets fun x16=>.apN cB 1054 1 a0.Blank fun x19=>.idxR cB x13 a1 fun x22=>.setR cB x13 a1 x22 true 2 0 [(.bool true)] rfl fun x24=>.dr [.ahead 60, .relen 1042, .stop]<|.us [3]<|.us [3]<|.us [3]<|.us [3]<|.idxR (cL (cI .i64)) x16 a1 fun x26=>.setR (cL (cI .i64)) x16 a1 x26 x4 6 0 [(.sl (List.map (cI .i64) x4))] rfl fun x28=>.dr [.ahead 11, .relen 1048, .stop]<|.us [7]<|.us [7]<|.us [7]<|.us [7]<|.go (.L0 a1 a2 a0 (⟨(⟨([] : (List Zam)), ([] : (List Zg)), ([] : (List Int)), ([] : (List Int)), ([] : (List Zee)), ([] : (List Zd4)), ([] : (List Zgo)), 0, 0, 0, false, 0, 0, 0, 0, 0, ([] : (List Int)), 0, 0⟩ : Zb), ([] : (List Za)), ([] : (List Zl)), ([] : (List Bool)), ([] : (List (List Int))), ([] : (List Bool))⟩ : Zc) x4 x6 x8 (⟨a0.S, x10, a0.L, x24, x28, x19⟩ : Zc) 0) [.relab 1003 30000000, .relab 1006 30000001, .relab 1010 30000002, .ownb 30000001 0 40000100 14, .ownb 30000001 1 40000101 19, .ownb 30000001 2 40000102 1, .ownb 30000001 3 40000103 1, .ownb 30000001 4 40000104 94, .ownb 30000001 5 40000105 89, .ownb 30000001 6 40000106 6, .ownb 30000001 16 40000116 1, .ownb 30000001 19 40000119 17, .ownb 30000001 20 40000120 23, .ownb 30000001 21 40000121 1, .ownb 30000001 22 40000122 1, .ownb 30000001 23 40000123 1, .relab 1036 40000219, .relab 1042 40000221, .relab 1048 40000222, .relab 1054 40000223]
def Z6r : LF Zjg Zc := ⟨66, [.c 6 88 true 24], false, fun | .L0 .. => [1,1,1,1,1,1,1,1,1,1,1,1,0,1,4],
 fun | .L0 v1 v2 E0 E1 v7 v8 v9 E2 v11 => ⟨113, [(1, (wI v1)), (2, (wI v2)), (3, (.bptr 30000000 0)), (6, (.bptr 30000001 0)), (7, (wL (cI .i64) v7)), (8, (wL (cI .i64) v8)), (9, (wI v9)), (10, (.bptr 30000002 0)), (11, (wI v11))], [(30000000, .box (bx (Z4 E0))), (30000001, .box [(wO Z2 40000100 E1.S.Players), (wO Zh 40000101 E1.S.Objects), (wO (cI .i64) 40000102 E1.S.Battlefield), (wO (cI .i64) 40000103 E1.S.Exile), (wO Zai 40000104 E1.S.Stack), (wO Zab 40000105 E1.S.Waiting), (wO Zap 40000106 E1.S.Conts), (wI E1.S.Turn), (wI E1.S.Active), (wI E1.S.Step), (wB E1.S.Begun), (wI E1.S.Priority), (wI E1.S.Passes), (wI E1.S.NextId), (wI E1.S.NextStamp), (.t (.int .u64 E1.S.Seed)), (wO (cI .i64) 40000116 E1.S.Extra), (wI E1.S.Over), (wI E1.S.Winner), (wO Zk 40000119 E1.All), (wO Zi 40000120 E1.L), (wO cB 40000121 E1.Begun), (wO (cL (cI .i64)) 40000122 E1.Sets), (wO cB 40000123 E1.Blank)]), (40000100, wR Z2 14 E1.S.Players), (40000101, wR Zh 19 E1.S.Objects), (40000102, wR (cI .i64) 1 E1.S.Battlefield), (40000103, wR (cI .i64) 1 E1.S.Exile), (40000104, wR Zai 94 E1.S.Stack), (40000105, wR Zab 89 E1.S.Waiting), (40000106, wR Zap 6 E1.S.Conts), (40000116, wR (cI .i64) 1 E1.S.Extra), (40000119, wR Zk 17 E1.All), (40000120, wR Zi 23 E1.L), (40000121, wR cB 1 E1.Begun), (40000122, wR (cL (cI .i64)) 1 E1.Sets), (40000123, wR cB 1 E1.Blank), (30000002, .box [(wL Z2 E2.S.Players), (wL Zh E2.S.Objects), (wL (cI .i64) E2.S.Battlefield), (wL (cI .i64) E2.S.Exile), (wL Zai E2.S.Stack), (wL Zab E2.S.Waiting), (wL Zap E2.S.Conts), (wI E2.S.Turn), (wI E2.S.Active), (wI E2.S.Step), (wB E2.S.Begun), (wI E2.S.Priority), (wI E2.S.Passes), (wI E2.S.NextId), (wI E2.S.NextStamp), (.t (.int .u64 E2.S.Seed)), (wL (cI .i64) E2.S.Extra), (wI E2.S.Over), (wI E2.S.Winner), (wO Zk 40000219 E2.All), (wL Zi E2.L), (wO cB 40000221 E2.Begun), (wO (cL (cI .i64)) 40000222 E2.Sets), (wO cB 40000223 E2.Blank)]), (40000219, wR Zk 17 E2.All), (40000221, wR cB 1 E2.Begun), (40000222, wR (cL (cI .i64)) 1 E2.Sets), (40000223, wR cB 1 E2.Blank)]⟩,
 fun r => [], fun r => (wA (Z4 r)), fun | .L0 v1 v2 E0 E1 v7 v8 v9 E2 v11 => Zqw v1 v2 E0 E1 v7 v8 v9 E2 v11⟩
def Z1c (a0 : Zc) (a1 : Int) (a2 : Int) : Option Zc := Z6r.run (Z6q a0 a1 a2)
theorem Z3a (a0 : Zc) (a1 : Int) (a2 : Int) {r : Zc} (h : Z1c a0 a1 a2 = some r) : Fn PR 66 [(wA (Z4 a0)), (wI a1), (wI a2)] (wA (Z4 r)) := Z6r.fn h
def Zaei (a0 : Zc) (a1 : Int) (a2 : Int) (a3 : Int) : LT Empty Bool :=
.lb 1004<|.br (a1 == a2) (.rt false)<|.call (Z3a a0 a2 a3) fun x2=>.lb 1009<|.call (Zmr a0 a1) fun x4=>.call (Zmr x2 a1) fun x6=>.cs (!(x4 == x6)) (.k8 1<|.kg 1<|.b8 true<|.b3 true<|.rt true)<|.k3 1<|.call (Zqt a0 a1) fun x9=>.k3 1<|.call (Zqt x2 a1) fun x11=>.kg 1<|.call (Zhq x9 x11) fun x13=>.k2 1<|.cs (!x13) (.k8 2<|.k3 2<|.rt true)<|.k4 2<|.call (Zqv a0 a1 a3) fun x16=>.k4 2<|.call (Zqv x2 a1 a3) fun x18=>.kg 2<|.call (Zhq x16 x18) fun x20=>.k2 2<|.rt (!x20)
def Zaej : LF Empty Bool := .z 102 [.t 8] false (fun r => []) (fun r => (wB r))
def Z97 (a0 : Zc) (a1 : Int) (a2 : Int) (a3 : Int) : Option Bool := Zaej.run (Zaei a0 a1 a2 a3)
theorem Zavn (a0 : Zc) (a1 : Int) (a2 : Int) (a3 : Int) {r : Bool} (h : Z97 a0 a1 a2 a3 = some r) : Fn PR 102 [(wA (Z4 a0)), (wI a1), (wI a2), (wI a3)] (wB r) := Zaej.fn h
inductive Zs5 where
 | L0 (v0 : (List Int)) (v1 : Int) (v5 : Int)
def Z4y (v0 : (List Int)) (v1 : Int) (v5 : Int) : LT Zs5 Bool :=
.len (cI .i64) v0<|.br (decide (v5 < (v0.length : Int))) (.idx (cI .i64) v0 v5 fun x3=>.br (x3 == v1) (.rt true)<|.g0 (.L0 v0 v1 (IntKind.wrap .i64 (v5 + 1))))<|.rt false
def Zapu (a0 : (List Int)) (a1 : Int) : LT Zs5 Bool :=
.g0 (.L0 a0 a1 0)
def Zapv : LF Zs5 Bool := ⟨185, [.t 4], false, fun | .L0 .. => [1,0,1,4],
 fun | .L0 v0 v1 v5 => ⟨18, [(0, (wL (cI .i64) v0)), (1, (wI v1)), (5, (wI v5))], []⟩,
 fun r => [], fun r => (wB r), fun | .L0 v0 v1 v5 => Z4y v0 v1 v5⟩
def Zang (a0 : (List Int)) (a1 : Int) : Option Bool := Zapv.run (Zapu a0 a1)
theorem Z4z (a0 : (List Int)) (a1 : Int) {r : Bool} (h : Zang a0 a1 = some r) : Fn PR 185 [(wL (cI .i64) a0), (wI a1)] (wB r) := Zapv.fn h
inductive Zib where
 | L0 (v0 : (List Int)) (v3 : (List Int)) (v4 : Int)
def Zpg (v0 : (List Int)) (v3 : (List Int)) (v4 : Int) : LT Zib (List Int) :=
.len (cI .i64) v0<|.br (decide (v4 < (v0.length : Int))) (.idx (cI .i64) v0 v4 fun x3=>.cs (decide (x3 ≥ 0)) (.k4 1<|.ag (cI .i64) x3 0<|.k2 1<|.rl (cI .i64) v3<|.call (Z4z v3 x3) fun x6=>.k2 1<|.br (!x6) (.ag (cI .i64) x3 0<|.dr [.lit]<|.apR (cI .i64) 8 v3 [x3] fun x10=>.g0 (.L0 v0 x10 (IntKind.wrap .i64 (v4 + 1))))<|.g0 (.L0 v0 v3 (IntKind.wrap .i64 (v4 + 1))))<|.k8 1<|.kn [0]<|.g0 (.L0 v0 v3 (IntKind.wrap .i64 (v4 + 1))))<|.ret v3 [.relab 20000003 5000]
def Z3b (a0 : (List Int)) : LT Zib (List Int) :=
.go (.L0 a0 ([] : (List Int)) 0) [.own 3 20000003 1]
def Z3c : LF Zib (List Int) := ⟨183, [.t 2], true, fun | .L0 .. => [1,1,0,1,4],
 fun | .L0 v0 v3 v4 => ⟨33, [(0, (wL (cI .i64) v0)), (3, (wO (cI .i64) 20000003 v3)), (4, (wI v4))], [(20000003, wR (cI .i64) 1 v3)]⟩,
 fun r => [(5000, wR (cI .i64) 1 r)], fun r => (wO (cI .i64) 5000 r), fun | .L0 v0 v3 v4 => Zpg v0 v3 v4⟩
def Zph (a0 : (List Int)) : Option (List Int) := Z3c.run (Z3b a0)
theorem Zagl (a0 : (List Int)) {r : (List Int)} (h : Zph a0 = some r) : FnG PR 183 [] [(wL (cI .i64) a0)] [(5000, wR (cI .i64) 1 r)] (wO (cI .i64) 5000 r) := Z3c.fn h
theorem Zak0 (a0 : (List Int)) {r : (List Int)} (h : Zph a0 = some r) : Fn PR 183 [(wL (cI .i64) a0)] (wL (cI .i64) r) :=
 FnG.frozen (C := LT.RL (cI .i64) r ∧ True) (Zagl a0 h) ⟨rfl, trivial⟩ (by kernel_rfl)
def Zak1 (a0 : (List (List Bool))) (a1 : Int) (a2 : Int) : LT Empty Bool :=
.len (cL cB) a0<|.cs (decide (a1 < (a0.length : Int))) (.k4 0<|.idx (cL cB) a0 a1 fun x3=>.k2 0<|.len cB x3<|.k2 0<|.cs (decide (a2 < (x3.length : Int))) (.k3 1<|.ag (cL cB) x3 0<|.k3 1<|.idx cB x3 a2 fun x7=>.k2 1<|.rt x7)<|.k8 1<|.rt false)<|.k8 0<|.b8 false<|.rt false
def Zak2 : LF Empty Bool := .z 184 [.t 6] false (fun r => []) (fun r => (wB r))
def Zagm (a0 : (List (List Bool))) (a1 : Int) (a2 : Int) : Option Bool := Zak2.run (Zak1 a0 a1 a2)
theorem Z1d (a0 : (List (List Bool))) (a1 : Int) (a2 : Int) {r : Bool} (h : Zagm a0 a1 a2 = some r) : Fn PR 184 [(wL (cL cB) a0), (wI a1), (wI a2)] (wB r) := Zak2.fn h
inductive Zfy where
 | L0 (v0 : (List Int)) (v1 : (List (List Bool))) (v2 : Int) (v7 : (List Int)) (v8 : Int)
 | L1 (v0 : (List Int)) (v1 : (List (List Bool))) (v7 : (List Int)) (v9 : Int)
 | L2 (v0 : (List Int)) (v1 : (List (List Bool))) (v7 : (List Int)) (v9 : Int) (v10 : Int)
def Zqx (v0 : (List Int)) (v1 : (List (List Bool))) (v2 : Int) (v7 : (List Int)) (v8 : Int) : LT Zfy (List Int) :=
.len (cI .i64) v0<|.br (decide (v8 < (v0.length : Int))) (.idx (cI .i64) v0 v8 fun x3=>.call (Z1d v1 v2 x3) fun x5=>.br x5 (.ag (cI .i64) x3 0<|.dr [.lit]<|.apR (cI .i64) 8 v7 [x3] fun x9=>.g0 (.L0 v0 v1 v2 x9 (IntKind.wrap .i64 (v8 + 1))))<|.g0 (.L0 v0 v1 v2 v7 (IntKind.wrap .i64 (v8 + 1))))<|.g0 (.L1 v0 v1 v7 0)
def Zqy (v0 : (List Int)) (v1 : (List (List Bool))) (v7 : (List Int)) (v9 : Int) : LT Zfy (List Int) :=
.lenO (cI .i64) v7<|.br (decide (v9 < (v7.length : Int))) (.g0 (.L2 v0 v1 v7 v9 0))<|.ret v7 [.relab 20000007 5000]
def Zqz (v0 : (List Int)) (v1 : (List (List Bool))) (v7 : (List Int)) (v9 : Int) (v10 : Int) : LT Zfy (List Int) :=
.len (cI .i64) v0<|.br (decide (v10 < (v0.length : Int))) (.idxR (cI .i64) v7 v9 fun x3=>.ldR (cI .i64) v7 x3 2<|.idx (cI .i64) v0 v10 fun x5=>.call (Z1d v1 x3 x5) fun x7=>.cs x7 (.k4 1<|.ag (cI .i64) x5 3<|.k2 1<|.rl (cI .i64) v7<|.call (Z4z v7 x5) fun x10=>.k2 1<|.br (!x10) (.ag (cI .i64) x5 3<|.dr [.lit]<|.apR (cI .i64) 8 v7 [x5] fun x14=>.g0 (.L2 v0 v1 x14 v9 (IntKind.wrap .i64 (v10 + 1))))<|.g0 (.L2 v0 v1 v7 v9 (IntKind.wrap .i64 (v10 + 1))))<|.k8 1<|.kn [0]<|.g0 (.L2 v0 v1 v7 v9 (IntKind.wrap .i64 (v10 + 1))))<|.g0 (.L1 v0 v1 v7 (IntKind.wrap .i64 (v9 + 1)))
def Z6s (a0 : (List Int)) (a1 : (List (List Bool))) (a2 : Int) : LT Zfy (List Int) :=
.go (.L0 a0 a1 a2 ([] : (List Int)) 0) [.own 7 20000007 1]
def Z6t : LF Zfy (List Int) := ⟨186, [.t 6], true, fun | .L0 .. => [1,1,0,1,4] | .L1 .. => [1,1,1,0,1,4] | .L2 .. => [1,1,1,0,1,4,5,1,0,4,1,4],
 fun | .L0 v0 v1 v2 v7 v8 => ⟨70, [(0, (wL (cI .i64) v0)), (1, (wL (cL cB) v1)), (2, (wI v2)), (7, (wO (cI .i64) 20000007 v7)), (8, (wI v8))], [(20000007, wR (cI .i64) 1 v7)]⟩ | .L1 v0 v1 v7 v9 => ⟨70, [(0, (wL (cI .i64) v0)), (1, (wL (cL cB) v1)), (7, (wO (cI .i64) 20000007 v7)), (9, (wI v9))], [(20000007, wR (cI .i64) 1 v7)]⟩ | .L2 v0 v1 v7 v9 v10 => ⟨70, [(0, (wL (cI .i64) v0)), (1, (wL (cL cB) v1)), (7, (wO (cI .i64) 20000007 v7)), (9, (wI v9)), (10, (wI v10))], [(20000007, wR (cI .i64) 1 v7)]⟩,
 fun r => [(5000, wR (cI .i64) 1 r)], fun r => (wO (cI .i64) 5000 r), fun | .L0 v0 v1 v2 v7 v8 => Zqx v0 v1 v2 v7 v8 | .L1 v0 v1 v7 v9 => Zqy v0 v1 v7 v9 | .L2 v0 v1 v7 v9 v10 => Zqz v0 v1 v7 v9 v10⟩
def Zrr (a0 : (List Int)) (a1 : (List (List Bool))) (a2 : Int) : Option (List Int) := Z6t.run (Z6s a0 a1 a2)
theorem Zak3 (a0 : (List Int)) (a1 : (List (List Bool))) (a2 : Int) {r : (List Int)} (h : Zrr a0 a1 a2 = some r) : FnG PR 186 [] [(wL (cI .i64) a0), (wL (cL cB) a1), (wI a2)] [(5000, wR (cI .i64) 1 r)] (wO (cI .i64) 5000 r) := Z6t.fn h
theorem Zanh (a0 : (List Int)) (a1 : (List (List Bool))) (a2 : Int) {r : (List Int)} (h : Zrr a0 a1 a2 = some r) : Fn PR 186 [(wL (cI .i64) a0), (wL (cL cB) a1), (wI a2)] (wL (cI .i64) r) :=
 FnG.frozen (C := LT.RL (cI .i64) r ∧ True) (Zak3 a0 a1 a2 h) ⟨rfl, trivial⟩ (by kernel_rfl)
inductive Zjr where
 | L0 (v1 : (List (List Bool))) (v5 : (List Int)) (v6 : (List Int)) (v7 : Int)
 | L1 (v1 : (List (List Bool))) (v5 : (List Int)) (v6 : (List Int)) (v7 : Int) (v8 : Bool) (v9 : Int)
def Zxn (v1 : (List (List Bool))) (v5 : (List Int)) (v6 : (List Int)) (v7 : Int) : LT Zjr (List Int) :=
.len (cI .i64) v5<|.br (decide (v7 < (v5.length : Int))) (.g0 (.L1 v1 v5 v6 v7 true 0))<|.ret v6 [.relab 20000006 5000]
def Zxo (v1 : (List (List Bool))) (v5 : (List Int)) (v6 : (List Int)) (v7 : Int) (v8 : Bool) (v9 : Int) : LT Zjr (List Int) :=
.len (cI .i64) v5<|.br (decide (v9 < (v5.length : Int))) (.cs (v9 != v7) (.k4 1<|.idx (cI .i64) v5 v7 fun x4=>.k4 1<|.idx (cI .i64) v5 v9 fun x6=>.k2 1<|.call (Z1d v1 x4 x6) fun x8=>.kg 1<|.cs x8 (.k5 2<|.ag (cI .i64) x6 3<|.k2 2<|.call (Zanh v5 v1 x6) fun x11=>.k3 2<|.ag (cI .i64) x4 0<|.k2 2<|.call (Z4z x11 x4) fun x13=>.k2 2<|.br (!x13) (.g0 (.L1 v1 v5 v6 v7 false (IntKind.wrap .i64 (v9 + 1))))<|.g0 (.L1 v1 v5 v6 v7 v8 (IntKind.wrap .i64 (v9 + 1))))<|.k8 2<|.k5 2<|.kg 2<|.kn [0]<|.g0 (.L1 v1 v5 v6 v7 v8 (IntKind.wrap .i64 (v9 + 1))))<|.k8 1<|.k3 1<|.b8 false<|.b5 false<|.kb false<|.kn [0]<|.g0 (.L1 v1 v5 v6 v7 v8 (IntKind.wrap .i64 (v9 + 1))))<|.br v8 (.idx (cI .i64) v5 v7 fun x25=>.dr [.lit]<|.apR (cI .i64) 8 v6 [x25] fun x28=>.g0 (.L0 v1 v5 x28 (IntKind.wrap .i64 (v7 + 1))))<|.g0 (.L0 v1 v5 v6 (IntKind.wrap .i64 (v7 + 1)))
def Zaek (a0 : (List Int)) (a1 : (List (List Bool))) : LT Zjr (List Int) :=
.call (Zak0 a0) fun x1=>.go (.L0 a1 x1 ([] : (List Int)) 0) [.own 6 20000006 1]
def Zael : LF Zjr (List Int) := ⟨151, [.t 4], true, fun | .L0 .. => [1,1,1,0,1,4] | .L1 .. => [1,1,1,0,1,4,5,1,0,4,1,0,1,4],
 fun | .L0 v1 v5 v6 v7 => ⟨63, [(1, (wL (cL cB) v1)), (5, (wL (cI .i64) v5)), (6, (wO (cI .i64) 20000006 v6)), (7, (wI v7))], [(20000006, wR (cI .i64) 1 v6)]⟩ | .L1 v1 v5 v6 v7 v8 v9 => ⟨63, [(1, (wL (cL cB) v1)), (5, (wL (cI .i64) v5)), (6, (wO (cI .i64) 20000006 v6)), (7, (wI v7)), (8, (wB v8)), (9, (wI v9))], [(20000006, wR (cI .i64) 1 v6)]⟩,
 fun r => [(5000, wR (cI .i64) 1 r)], fun r => (wO (cI .i64) 5000 r), fun | .L0 v1 v5 v6 v7 => Zxn v1 v5 v6 v7 | .L1 v1 v5 v6 v7 v8 v9 => Zxo v1 v5 v6 v7 v8 v9⟩
def Zzm (a0 : (List Int)) (a1 : (List (List Bool))) : Option (List Int) := Zael.run (Zaek a0 a1)
theorem Zaqk (a0 : (List Int)) (a1 : (List (List Bool))) {r : (List Int)} (h : Zzm a0 a1 = some r) : FnG PR 151 [] [(wL (cI .i64) a0), (wL (cL cB) a1)] [(5000, wR (cI .i64) 1 r)] (wO (cI .i64) 5000 r) := Zael.fn h
theorem Zavo (a0 : (List Int)) (a1 : (List (List Bool))) {r : (List Int)} (h : Zzm a0 a1 = some r) : Fn PR 151 [(wL (cI .i64) a0), (wL (cL cB) a1)] (wL (cI .i64) r) :=
 FnG.frozen (C := LT.RL (cI .i64) r ∧ True) (Zaqk a0 a1 h) ⟨rfl, trivial⟩ (by kernel_rfl)
def Zaem (a0 : (List Int)) (a1 : Int) : LT Empty Int :=
.len (cI .i64) a0<|.br (decide (a1 < (a0.length : Int))) (.idx (cI .i64) a0 a1 fun x3=>.rt x3)<|.rt 0
def Zaen : LF Empty Int := .z 152 [.t 4] false (fun r => []) (fun r => (wI r))
def Z98 (a0 : (List Int)) (a1 : Int) : Option Int := Zaen.run (Zaem a0 a1)
theorem Zxp (a0 : (List Int)) (a1 : Int) {r : Int} (h : Z98 a0 a1 = some r) : Fn PR 152 [(wL (cI .i64) a0), (wI a1)] (wI r) := Zaen.fn h
inductive Zpi where
 | L0 (v1 : (List Int)) (v7 : (List Int)) (v8 : Int) (v9 : Int)
def Z1e (v1 : (List Int)) (v7 : (List Int)) (v8 : Int) (v9 : Int) : LT Zpi Int :=
.len (cI .i64) v7<|.br (decide (v9 < (v7.length : Int))) (.idx (cI .i64) v7 v9 fun x3=>.call (Zxp v1 x3) fun x5=>.cs (decide (v8 < 0)) (.k5 1<|.kg 1<|.b8 true<|.kn [0]<|.ag (cI .i64) x3 0<|.g0 (.L0 v1 v7 x3 (IntKind.wrap .i64 (v9 + 1))))<|.k4 1<|.call (Zxp v1 v8) fun x10=>.k2 1<|.cs (decide (x5 < x10)) (.k8 2<|.kn [0]<|.ag (cI .i64) x3 0<|.g0 (.L0 v1 v7 x3 (IntKind.wrap .i64 (v9 + 1))))<|.k4 2<|.call (Zxp v1 v8) fun x15=>.k2 2<|.cs (x5 == x15) (.k3 3<|.ag (cI .i64) x3 0<|.k3 3<|.kg 2<|.kg 3<|.kg 2<|.br (decide (x3 < v8)) (.ag (cI .i64) x3 0<|.g0 (.L0 v1 v7 x3 (IntKind.wrap .i64 (v9 + 1))))<|.g0 (.L0 v1 v7 v8 (IntKind.wrap .i64 (v9 + 1))))<|.k5 3<|.kg 3<|.kg 2<|.kg 3<|.kg 2<|.kn [0]<|.g0 (.L0 v1 v7 v8 (IntKind.wrap .i64 (v9 + 1))))<|.rt v8
def Zak4 (a0 : (List Int)) (a1 : (List Int)) (a2 : (List (List Bool))) : LT Zpi Int :=
.call (Zavo a0 a2) fun x1=>.g0 (.L0 a1 x1 (-1) 0)
def Zak5 : LF Zpi Int := ⟨103, [.t 6], false, fun | .L0 .. => [1,1,1,0,1,4],
 fun | .L0 v1 v7 v8 v9 => ⟨55, [(1, (wL (cI .i64) v1)), (7, (wL (cI .i64) v7)), (8, (wI v8)), (9, (wI v9))], []⟩,
 fun r => [], fun r => (wI r), fun | .L0 v1 v7 v8 v9 => Z1e v1 v7 v8 v9⟩
def Zagn (a0 : (List Int)) (a1 : (List Int)) (a2 : (List (List Bool))) : Option Int := Zak5.run (Zak4 a0 a1 a2)
theorem Zaxy (a0 : (List Int)) (a1 : (List Int)) (a2 : (List (List Bool))) {r : Int} (h : Zagn a0 a1 a2 = some r) : Fn PR 103 [(wL (cI .i64) a0), (wL (cI .i64) a1), (wL (cL cB) a2)] (wI r) := Zak5.fn h
inductive Ziv where
 | L0 (v1 : (List Int)) (v2 : Int) (E0 : Zc) (v7 : (List Int)) (v8 : (List (List Bool))) (v9 : Int)
 | L1 (v1 : (List Int)) (v2 : Int) (E0 : Zc) (v7 : (List Int)) (v8 : (List (List Bool))) (v10 : Int)
 | L2 (v1 : (List Int)) (v2 : Int) (E0 : Zc) (v7 : (List Int)) (v8 : (List (List Bool))) (v10 : Int) (v11 : Int)
def Z1f (v1 : (List Int)) (v2 : Int) (E0 : Zc) (v7 : (List Int)) (v8 : (List (List Bool))) (v9 : Int) : LT Ziv Int :=
.len Zi E0.L<|.br (decide (v9 < (E0.L.length : Int))) (.idx Zi E0.L v9 fun x3=>.dr [.lit]<|.apR (cI .i64) 8 v7 [x3.Stamp] fun x6=>.len Zi E0.L<|.mk cB 1034 1 false (E0.L.length : Int) (E0.L.length : Int) fun x9=>.mkM cB 1035 1034 x9<|.apM cB 24 v8 x9 fun x12=>.g0 (.L0 v1 v2 E0 x6 x12 (IntKind.wrap .i64 (v9 + 1))))<|.g0 (.L1 v1 v2 E0 v7 v8 0)
def Z1g (v1 : (List Int)) (v2 : Int) (E0 : Zc) (v7 : (List Int)) (v8 : (List (List Bool))) (v10 : Int) : LT Ziv Int :=
.len (cI .i64) v1<|.br (decide (v10 < (v1.length : Int))) (.g0 (.L2 v1 v2 E0 v7 v8 v10 0))<|.rl (cI .i64) v7<|.rl (cL cB) v8<|.call (Zaxy v1 v7 v8) fun x3=>.rt x3
def Z1h (v1 : (List Int)) (v2 : Int) (E0 : Zc) (v7 : (List Int)) (v8 : (List (List Bool))) (v10 : Int) (v11 : Int) : LT Ziv Int :=
.len (cI .i64) v1<|.br (decide (v11 < (v1.length : Int))) (.idx (cI .i64) v1 v10 fun x3=>.idM cB v8 x3 fun x5=>.ldM cB v8 3<|.idx (cI .i64) v1 v11 fun x7=>.ag (cI .i64) x3 0<|.ag (cI .i64) x7 5<|.call (Zavn E0 x3 x7 v2) fun x9=>.idN cB v8 x5 x7 3 fun x11=>.stM cB v8 x3 x5 x7 x9 3 8 fun x13=>.dr [.ahead 47, .relen 20000008, .stop]<|.us [9]<|.us [9]<|.g0 (.L2 v1 v2 E0 v7 x13 v10 (IntKind.wrap .i64 (v11 + 1))))<|.g0 (.L1 v1 v2 E0 v7 v8 (IntKind.wrap .i64 (v10 + 1)))
def Zak6 (a0 : Zc) (a1 : (List Int)) (a2 : Int) : LT Ziv Int :=
.lb 1003<|.lb 1012<|.m0 1013<|.go (.L0 a1 a2 a0 ([] : (List Int)) ([] : (List (List Bool))) 0) [.relab 1003 30000000, .relab 1012 20000007, .relab 1013 20000008]
def Zak7 : LF Ziv Int := ⟨65, [.t 6], false, fun | .L0 .. => [1,1,1,0,1,4] | .L1 .. => [1,1,1,1,0,1,4] | .L2 .. => [1,1,1,1,0,1,4,5,1,0,4,1,4],
 fun | .L0 v1 v2 E0 v7 v8 v9 => ⟨76, [(1, (wL (cI .i64) v1)), (2, (wI v2)), (3, (.bptr 30000000 0)), (7, (wO (cI .i64) 20000007 v7)), (8, (wM (cL cB) 20000008 v8)), (9, (wI v9))], [(30000000, .box (bx (Z4 E0))), (20000007, wR (cI .i64) 1 v7), (20000008, wT (cL cB) v8)]⟩ | .L1 v1 v2 E0 v7 v8 v10 => ⟨76, [(1, (wL (cI .i64) v1)), (2, (wI v2)), (3, (.bptr 30000000 0)), (7, (wO (cI .i64) 20000007 v7)), (8, (wM (cL cB) 20000008 v8)), (10, (wI v10))], [(30000000, .box (bx (Z4 E0))), (20000007, wR (cI .i64) 1 v7), (20000008, wT (cL cB) v8)]⟩ | .L2 v1 v2 E0 v7 v8 v10 v11 => ⟨76, [(1, (wL (cI .i64) v1)), (2, (wI v2)), (3, (.bptr 30000000 0)), (7, (wO (cI .i64) 20000007 v7)), (8, (wM (cL cB) 20000008 v8)), (10, (wI v10)), (11, (wI v11))], [(30000000, .box (bx (Z4 E0))), (20000007, wR (cI .i64) 1 v7), (20000008, wT (cL cB) v8)]⟩,
 fun r => [], fun r => (wI r), fun | .L0 v1 v2 E0 v7 v8 v9 => Z1f v1 v2 E0 v7 v8 v9 | .L1 v1 v2 E0 v7 v8 v10 => Z1g v1 v2 E0 v7 v8 v10 | .L2 v1 v2 E0 v7 v8 v10 v11 => Z1h v1 v2 E0 v7 v8 v10 v11⟩
def Zago (a0 : Zc) (a1 : (List Int)) (a2 : Int) : Option Int := Zak7.run (Zak6 a0 a1 a2)
theorem Zaxz (a0 : Zc) (a1 : (List Int)) (a2 : Int) {r : Int} (h : Zago a0 a1 a2 = some r) : Fn PR 65 [(wA (Z4 a0)), (wL (cI .i64) a1), (wI a2)] (wI r) := Zak7.fn h
inductive Zjh where
 | L0 (v0 : (List Int)) (v1 : Int) (v5 : (List Int)) (v6 : Int)
def Zq0 (v0 : (List Int)) (v1 : Int) (v5 : (List Int)) (v6 : Int) : LT Zjh (List Int) :=
.len (cI .i64) v0<|.br (decide (v6 < (v0.length : Int))) (.idx (cI .i64) v0 v6 fun x3=>.br (x3 != v1) (.ag (cI .i64) x3 0<|.dr [.lit]<|.apR (cI .i64) 8 v5 [x3] fun x7=>.g0 (.L0 v0 v1 x7 (IntKind.wrap .i64 (v6 + 1))))<|.g0 (.L0 v0 v1 v5 (IntKind.wrap .i64 (v6 + 1))))<|.ret v5 [.relab 20000005 5000]
def Z6u (a0 : (List Int)) (a1 : Int) : LT Zjh (List Int) :=
.go (.L0 a0 a1 ([] : (List Int)) 0) [.own 5 20000005 1]
def Z6v : LF Zjh (List Int) := ⟨67, [.t 4], true, fun | .L0 .. => [1,1,0,1,4],
 fun | .L0 v0 v1 v5 v6 => ⟨27, [(0, (wL (cI .i64) v0)), (1, (wI v1)), (5, (wO (cI .i64) 20000005 v5)), (6, (wI v6))], [(20000005, wR (cI .i64) 1 v5)]⟩,
 fun r => [(5000, wR (cI .i64) 1 r)], fun r => (wO (cI .i64) 5000 r), fun | .L0 v0 v1 v5 v6 => Zq0 v0 v1 v5 v6⟩
def Z1i (a0 : (List Int)) (a1 : Int) : Option (List Int) := Z6v.run (Z6u a0 a1)
theorem Zak8 (a0 : (List Int)) (a1 : Int) {r : (List Int)} (h : Z1i a0 a1 = some r) : FnG PR 67 [] [(wL (cI .i64) a0), (wI a1)] [(5000, wR (cI .i64) 1 r)] (wO (cI .i64) 5000 r) := Z6v.fn h
end
end Go.PW
