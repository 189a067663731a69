import Derived.Test.YtnoofnejcoadfaaGreatDoorQDa
set_option linter.all false
set_option maxRecDepth 100000
namespace Go.PW
open Go.RowKit
noncomputable section
def Z6b (a0 : Zt) : LT Empty Bool :=
.lb 1001<|.cs (decide (a0.Kind < 0)) (.k4 0<|.b5 true<|.kn [0]<|.rt false)<|.k4 0<|.cs (decide (a0.Kind > 7)) (.k5 1<|.kn [0]<|.rt false)<|.k2 1<|.call (Zadb a0) fun x3=>.k3 1<|.br (!(Zab (Z1 x3) (Z1 (⟨0, 0, 0, (⟨0, 0, 0, 0, 0, 0, 0, ([] : List UInt8), 0, 0, (⟨0, 0⟩ : Za), (⟨0, 0⟩ : Za), (⟨0, 0⟩ : Za)⟩ : Zc)⟩ : Zt)))) (.rt false)<|.br (a0.Kind == 0) (.cs (decide (a0.N ≥ 0)) (.k4 4<|.rt (decide (a0.N ≤ 1000000)))<|.k4 4<|.rt false)<|.br (a0.Kind == 2) (.cs (decide (a0.N ≥ 1)) (.k4 5<|.cs (decide (a0.N ≤ 99)) (.k3 6<|.call (Z2g a0.Filter) fun x11=>.kg 6<|.rt x11)<|.k4 6<|.rt false)<|.k4 5<|.b4 false<|.rt false)<|.br (a0.Kind == 4) (.call (Zabr a0.Counter) fun x14=>.rt (!(x14 == ([] : List UInt8))))<|.rt true
def Z6c : LF Empty Bool := .z 29 [.t 2] false (fun r => []) (fun r => (wB r))
def Z2h (a0 : Zt) : Option Bool := Z6c.run (Z6b a0)
theorem Zaj4 (a0 : Zt) {r : Bool} (h : Z2h a0 = some r) : Fn PR 29 [(wA (Z1 a0))] (wB r) := Z6c.fn h
def Zs1 (a0 : Int) (a1 : Int) (a2 : Int) : LT Empty Bool :=
.cs (a1 == 0) (.k5 0<|.b5 true<|.rt ((Zbf .and .i64 a0 a2) == 0))<|.k5 0<|.cs ((Zbf .and .i64 a0 a1) != 0) (.k5 1<|.rt ((Zbf .and .i64 a0 a2) == 0))<|.k5 1<|.rt false
def Zs2 : LF Empty Bool := .z 124 [.t 6] false (fun r => []) (fun r => (wB r))
def Zn5 (a0 : Int) (a1 : Int) (a2 : Int) : Option Bool := Zs2.run (Zs1 a0 a1 a2)
theorem Zqz (a0 : Int) (a1 : Int) (a2 : Int) {r : Bool} (h : Zn5 a0 a1 a2 = some r) : Fn PR 124 [(wI a0), (wI a1), (wI a2)] (wB r) := Zs2.fn h
def Z6d (a0 : Za) (a1 : Int) : LT Empty Bool :=
.lb 1002<|.br (a0.Kind == 0) (.rt true)<|.br (a0.Kind == 1) (.rt (decide (a1 ≥ a0.N)))<|.br (a0.Kind == 2) (.rt (decide (a1 ≤ a0.N)))<|.br (a0.Kind == 3) (.rt (a1 == a0.N))<|.rt false
def Z6e : LF Empty Bool := .z 126 [.t 4] false (fun r => []) (fun r => (wB r))
def Z2i (a0 : Za) (a1 : Int) : Option Bool := Z6e.run (Z6d a0 a1)
theorem Z2j (a0 : Za) (a1 : Int) {r : Bool} (h : Z2i a0 a1 = some r) : Fn PR 126 [(wA (Zb8 a0)), (wI a1)] (wB r) := Z6e.fn h
inductive Zbv where
 | L0 (v0 : (List (List UInt8))) (v1 : (List UInt8)) (v7 : Int) (v8 : Int)
def Zbm (v0 : (List (List UInt8))) (v1 : (List UInt8)) (v7 : Int) (v8 : Int) : LT Zbv Int :=
.br (decide (v8 < v7)) (.idx cS v0 v8 fun x2=>.br (v1 == x2) (.rt v8)<|.g0 (.L0 v0 v1 v7 (IntKind.wrap .i64 (v8 + 1))))<|.rt (-1)
def Zgd (a0 : (List (List UInt8))) (a1 : (List UInt8)) : LT Zbv Int :=
.len cS a0<|.g0 (.L0 a0 a1 (a0.length : Int) 0)
def Zcp : LF Zbv Int := ⟨189, [.t 4], false, fun | .L0 .. => [1,0,1,4],
 fun | .L0 v0 v1 v7 v8 => ⟨19, [(0, (wL cS v0)), (1, (wS v1)), (7, (wI v7)), (8, (wI v8))], []⟩,
 fun r => [], fun r => (wI r), fun | .L0 v0 v1 v7 v8 => Zbm v0 v1 v7 v8⟩
def Zgy (a0 : (List (List UInt8))) (a1 : (List UInt8)) : Option Int := Zcp.run (Zgd a0 a1)
theorem Zld (a0 : (List (List UInt8))) (a1 : (List UInt8)) {r : Int} (h : Zgy a0 a1 = some r) : Fn PR 189 [(wL cS a0), (wS a1)] (wI r) := Zcp.fn h
def Zfa (a0 : (List (List UInt8))) (a1 : (List UInt8)) : LT Empty Bool :=
.call (Zld a0 a1) fun x1=>.rt (decide (x1 ≥ 0))
def Zfb : LF Empty Bool := .z 162 [.t 4] false (fun r => []) (fun r => (wB r))
def Zf2 (a0 : (List (List UInt8))) (a1 : (List UInt8)) : Option Bool := Zfb.run (Zfa a0 a1)
theorem Zjn (a0 : (List (List UInt8))) (a1 : (List UInt8)) {r : Bool} (h : Zf2 a0 a1 = some r) : Fn PR 162 [(wL cS a0), (wS a1)] (wB r) := Zfb.fn h
def Z0d (a0 : Z7) (a1 : (List UInt8)) : LT Empty Bool :=
.lb 1002<|.call (Zjn a0.Subs a1) fun x1=>.rt x1
def Z0e : LF Empty Bool := .z 127 [.t 4] false (fun r => []) (fun r => (wB r))
def Zwf (a0 : Z7) (a1 : (List UInt8)) : Option Bool := Z0e.run (Z0d a0 a1)
theorem Zadd (a0 : Z7) (a1 : (List UInt8)) {r : Bool} (h : Zwf a0 a1 = some r) : Fn PR 127 [(wA (Zff a0)), (wS a1)] (wB r) := Z0e.fn h
def Zafp (a0 : Int) (a1 : Int) : LT Empty Bool :=
.rt ((Zbf .and .i64 a0 a1) == a1)
def Z0f : LF Empty Bool := .z 128 [.t 4] false (fun r => []) (fun r => (wB r))
def Z6f (a0 : Int) (a1 : Int) : Option Bool := Z0f.run (Zafp a0 a1)
theorem Zxu (a0 : Int) (a1 : Int) {r : Bool} (h : Z6f a0 a1 = some r) : Fn PR 128 [(wI a0), (wI a1)] (wB r) := Z0f.fn h
inductive Zpo where
 | L0 (E0 : Zl) (v6 : (A5 Int)) (v7 : Int)
def Zmy (E0 : Zl) (v6 : (A5 Int)) (v7 : Int) : LT Zpo Bool :=
.br (decide (v7 < 5)) (.idX (Ze.int .i64) (A5.list v6) v7 fun x2=>.cs (decide (x2 < 0)) (.k3 1<|.kn [0]<|.rt false)<|.k3 1<|.br (decide (x2 > 9)) (.rt false)<|.g0 (.L0 E0 v6 (IntKind.wrap .i64 (v7 + 1))))<|.cs (decide (E0.Generic ≥ 0)) (.k4 1<|.cs (decide (E0.Generic ≤ 99)) (.k4 2<|.cs (decide (E0.X ≥ 0)) (.k4 3<|.rt (decide (E0.X ≤ 2)))<|.k4 3<|.rt false)<|.k4 2<|.b4 false<|.rt false)<|.k4 1<|.b8 false<|.rt false
def Zaez (a0 : Zl) : LT Zpo Bool :=
.lb 1001<|.go (.L0 a0 a0.Color 0) [.relab 1001 30000000]
def Zpp : LF Zpo Bool := ⟨163, [.t 2], false, fun | .L0 .. => [1,0,1,4],
 fun | .L0 E0 v6 v7 => ⟨35, [(1, (.bptr 30000000 0)), (6, (wA ((cA5 (cI .i64)) v6))), (7, (wI v7))], [(30000000, .box (bx (Zah E0)))]⟩,
 fun r => [], fun r => (wB r), fun | .L0 E0 v6 v7 => Zmy E0 v6 v7⟩
def Zade (a0 : Zl) : Option Bool := Zpp.run (Zaez a0)
theorem Zan9 (a0 : Zl) {r : Bool} (h : Zade a0 = some r) : Fn PR 163 [(wA (Zah a0))] (wB r) := Zpp.fn h
def Zwg (a0 : Int) : LT Empty Int :=
.rt (minI (Zyl a0 (-1000000)) 1000000)
def Z6g : LF Empty Int := .z 30 [.t 2] false (fun r => []) (fun r => (wI r))
def Zpq (a0 : Int) : Option Int := Z6g.run (Zwg a0)
theorem Zf3 (a0 : Int) {r : Int} (h : Zpq a0 = some r) : Fn PR 30 [(wI a0)] (wI r) := Z6g.fn h
def Z2k (a0 : Int) (a1 : Int) : LT Empty Int :=
.call (Zf3 a0) fun x1=>.call (Zf3 a1) fun x3=>.call (Zf3 (IntKind.wrap .i64 (x1 * x3))) fun x7=>.rt x7
def Zae0 : LF Empty Int := .z 71 [.t 4] false (fun r => []) (fun r => (wI r))
def Zxv (a0 : Int) (a1 : Int) : Option Int := Zae0.run (Z2k a0 a1)
theorem Zabs (a0 : Int) (a1 : Int) {r : Int} (h : Zxv a0 a1 = some r) : Fn PR 71 [(wI a0), (wI a1)] (wI r) := Zae0.fn h
def Zae1 (a0 : Int) (a1 : Int) : LT Empty Int :=
.call (Zf3 a0) fun x1=>.call (Zf3 a1) fun x3=>.call (Zf3 (IntKind.wrap .i64 (x1 + x3))) fun x7=>.rt x7
def Zae2 : LF Empty Int := .z 164 [.t 4] false (fun r => []) (fun r => (wI r))
def Zadf (a0 : Int) (a1 : Int) : Option Int := Zae2.run (Zae1 a0 a1)
theorem Zaoa (a0 : Int) (a1 : Int) {r : Int} (h : Zadf a0 a1 = some r) : Fn PR 164 [(wI a0), (wI a1)] (wI r) := Zae2.fn h
inductive Zs3 where
 | L0 (v1 : Int) (E0 : Zl) (v5 : Int) (v14 : (A5 Int)) (v15 : Int)
def Zh3 (v1 : Int) (E0 : Zl) (v5 : Int) (v14 : (A5 Int)) (v15 : Int) : LT Zs3 Int :=
.br (decide (v15 < 5)) (.idX (Ze.int .i64) (A5.list v14) v15 fun x2=>.g0 (.L0 v1 E0 (IntKind.wrap .i64 (v5 + x2)) v14 (IntKind.wrap .i64 (v15 + 1))))<|.call (Zabs E0.X (Zyl 0 v1)) fun x8=>.call (Zaoa v5 x8) fun x10=>.rt x10
def Z2l (a0 : Zl) (a1 : Int) : LT Zs3 Int :=
.lb 1002<|.call (Zan9 a0) fun x1=>.br (!x1) (.rt 0)<|.go (.L0 a1 a0 a0.Generic a0.Color 0) [.relab 1002 30000000]
def Zmz : LF Zs3 Int := ⟨129, [.t 4], false, fun | .L0 .. => [1,1,1,0,1,4],
 fun | .L0 v1 E0 v5 v14 v15 => ⟨29, [(1, (wI v1)), (2, (.bptr 30000000 0)), (5, (wI v5)), (14, (wA ((cA5 (cI .i64)) v14))), (15, (wI v15))], [(30000000, .box (bx (Zah E0)))]⟩,
 fun r => [], fun r => (wI r), fun | .L0 v1 E0 v5 v14 v15 => Zh3 v1 E0 v5 v14 v15⟩
def Zy9 (a0 : Zl) (a1 : Int) : Option Int := Zmz.run (Z2l a0 a1)
theorem Zafq (a0 : Zl) (a1 : Int) {r : Int} (h : Zy9 a0 a1 = some r) : Fn PR 129 [(wA (Zah a0)), (wI a1)] (wI r) := Zmz.fn h
def Zlu (a0 : Za) (a1 : Int) (b0 : Bool) : LT Empty Bool :=
.lb 1003<|.cs (a0.Kind == 0) (.k4 0<|.rt true)<|.k2 0<|.cs b0 (.k3 1<|.call (Z2j a0 a1) fun x3=>.kg 0<|.kg 1<|.kg 0<|.rt x3)<|.k3 1<|.kg 0<|.kg 1<|.kg 0<|.rt false
def Zlv (b0 : Bool) : LF Empty Bool := .z 125 [.t 5] true (fun r => [(0, .box (bx (cB b0)))]) (fun r => (wB r))
def Zig (a0 : Za) (a1 : Int) (b0 : Bool) : Option Bool := (Zlv b0).run (Zlu a0 a1 b0)
theorem Zjr (a0 : Za) (a1 : Int) (b0 : Bool) {r : Bool} (h : Zig a0 a1 b0 = some r) : FnG PR 125 [(0, .box (bx (cB b0)))] [(wA (Zb8 a0)), (wI a1), (.bptr 0 0)] [(0, .box (bx (cB b0)))] (wB r) := (Zlv b0).fn h
inductive Zee where
 | L0 (v3 : Int) (E0 : Zf) (E1 : Zd) (E2 : Zc) (E3 : Bool) (v30 : Bool)
 | L1 (E0 : Zf) (E1 : Zd) (E2 : Zc) (E3 : Bool) (v49 : Bool)
 | L2 (E0 : Zf) (E1 : Zd) (E2 : Zc) (E3 : Bool) (v68 : Bool)
 | L3 (E0 : Zf) (E1 : Zd) (E2 : Zc) (E3 : Bool) (v88 : Bool)
 | L4 (E0 : Zd) (E1 : Zc) (E2 : Bool)
def Zdz (E0 : Zd) (E1 : Zc) (E2 : Bool) : LT Zee Bool :=
.callO (Zjr E1.Power E0.Power E2) [30000002] 1280000 (fun x => []) fun x1=>.cs x1 (.k5 0<|.kg 0<|.callO (Zjr E1.Tough E0.Tough E2) [30000002] 1350000 (fun x => []) fun x4=>.kg 0<|.cs x4 (.k5 1<|.call (Zafq E0.Cost 0) fun x7=>.kg 1<|.call (Z2j E1.Value x7) fun x9=>.kg 1<|.rt x9)<|.k5 1<|.k2 1<|.rt false)<|.k5 0<|.k2 0<|.b5 false<|.b2 false<|.rt false
def Ze1 (E0 : Zf) (E1 : Zd) (E2 : Zc) (E3 : Bool) (v88 : Bool) : LT Zee Bool :=
.br v88 (.rt false)<|.cs (E2.Tap == 1) (.k4 1<|.br (!E0.Tapped) (.kn [3]<|.rt false)<|.cs (E2.Tap == 2) (.k3 3<|.br E0.Tapped (.rt false)<|.jn 0 (.L4 E1 E2 E3) [.pick [6, 9, 13] [30000001, 30000002, 30000003], .relab 30000001 30000000, .relab 30000002 30000001, .relab 30000003 30000002] (Zdz E1 E2 E3))<|.k3 3<|.kn [0]<|.jn 0 (.L4 E1 E2 E3) [.pick [6, 9, 13] [30000001, 30000002, 30000003], .relab 30000001 30000000, .relab 30000002 30000001, .relab 30000003 30000002] (Zdz E1 E2 E3))<|.k4 1<|.kn [0]<|.cs (E2.Tap == 2) (.k3 2<|.br E0.Tapped (.rt false)<|.jn 0 (.L4 E1 E2 E3) [.pick [6, 9, 13] [30000001, 30000002, 30000003], .relab 30000001 30000000, .relab 30000002 30000001, .relab 30000003 30000002] (Zdz E1 E2 E3))<|.k3 2<|.kn [0]<|.jn 0 (.L4 E1 E2 E3) [.pick [6, 9, 13] [30000001, 30000002, 30000003], .relab 30000001 30000000, .relab 30000002 30000001, .relab 30000003 30000002] (Zdz E1 E2 E3)
def Zgs (E0 : Zf) (E1 : Zd) (E2 : Zc) (E3 : Bool) (v68 : Bool) : LT Zee Bool :=
.br v68 (.rt false)<|.cs (!(E2.Sub == ([] : List UInt8))) (.k5 1<|.call (Zadd E1.Line E2.Sub) fun x3=>.k2 1<|.br (!x3) (.j0 (.L3 E0 E1 E2 E3 (!x3)) (Ze1 E0 E1 E2 E3 (!x3)))<|.call (Zxu E1.Keys E2.Keys) fun x6=>.j0 (.L3 E0 E1 E2 E3 (!x6)) (Ze1 E0 E1 E2 E3 (!x6)))<|.k5 1<|.k2 1<|.kn [0]<|.call (Zxu E1.Keys E2.Keys) fun x8=>.j0 (.L3 E0 E1 E2 E3 (!x8)) (Ze1 E0 E1 E2 E3 (!x8))
def Zdd (E0 : Zf) (E1 : Zd) (E2 : Zc) (E3 : Bool) (v49 : Bool) : LT Zee Bool :=
.br v49 (.rt false)<|.call (Zqz E1.Line.Types E2.Types E2.NotTypes) fun x2=>.br (!x2) (.j0 (.L2 E0 E1 E2 E3 (!x2)) (Zgs E0 E1 E2 E3 (!x2)))<|.call (Zqz E1.Colors E2.Colors E2.NotColors) fun x5=>.j0 (.L2 E0 E1 E2 E3 (!x5)) (Zgs E0 E1 E2 E3 (!x5))
def Zba (v3 : Int) (E0 : Zf) (E1 : Zd) (E2 : Zc) (E3 : Bool) (v30 : Bool) : LT Zee Bool :=
.br v30 (.rt false)<|.cs (E2.Self == 1) (.k5 1<|.br (E0.Id != v3) (.j0 (.L1 E0 E1 E2 E3 (E0.Id != v3)) (Zdd E0 E1 E2 E3 (E0.Id != v3)))<|.cs (E2.Self == 2) (.k5 3<|.j0 (.L1 E0 E1 E2 E3 (E0.Id == v3)) (Zdd E0 E1 E2 E3 (E0.Id == v3)))<|.k5 3<|.j0 (.L1 E0 E1 E2 E3 false) (Zdd E0 E1 E2 E3 false))<|.k5 1<|.kn [0]<|.cs (E2.Self == 2) (.k5 2<|.j0 (.L1 E0 E1 E2 E3 (E0.Id == v3)) (Zdd E0 E1 E2 E3 (E0.Id == v3)))<|.k5 2<|.j0 (.L1 E0 E1 E2 E3 false) (Zdd E0 E1 E2 E3 false)
def Zxw (a0 : Zf) (a1 : Zd) (a2 : Int) (a3 : Int) (a4 : Zc) : LT Zee Bool :=
.lb 1005<|.lb 1006<|.lb 1009<|.call (Z2g a4) fun x1=>.cs (!x1) (.k5 0<|.kg 0<|.kn [0]<|.rt false)<|.k5 0<|.kg 0<|.br (a0.Zone != a4.Zone) (.rt false)<|.lb 1011<|.cs (a4.Who == 1) (.k5 2<|.br (a1.Control != a2) (.jn 0 (.L0 a3 a0 a1 a4 ((Zbf .and .i64 a1.Line.Types 1) != 0) (a1.Control != a2)) [.relab 1005 30000000, .relab 1006 30000001, .relab 1009 30000002, .relab 1011 30000003] (Zba a3 a0 a1 a4 ((Zbf .and .i64 a1.Line.Types 1) != 0) (a1.Control != a2)))<|.cs (a4.Who == 2) (.k5 4<|.jn 0 (.L0 a3 a0 a1 a4 ((Zbf .and .i64 a1.Line.Types 1) != 0) (a1.Control == a2)) [.relab 1005 30000000, .relab 1006 30000001, .relab 1009 30000002, .relab 1011 30000003] (Zba a3 a0 a1 a4 ((Zbf .and .i64 a1.Line.Types 1) != 0) (a1.Control == a2)))<|.k5 4<|.jn 0 (.L0 a3 a0 a1 a4 ((Zbf .and .i64 a1.Line.Types 1) != 0) false) [.relab 1005 30000000, .relab 1006 30000001, .relab 1009 30000002, .relab 1011 30000003] (Zba a3 a0 a1 a4 ((Zbf .and .i64 a1.Line.Types 1) != 0) false))<|.k5 2<|.kn [0]<|.cs (a4.Who == 2) (.k5 3<|.jn 0 (.L0 a3 a0 a1 a4 ((Zbf .and .i64 a1.Line.Types 1) != 0) (a1.Control == a2)) [.relab 1005 30000000, .relab 1006 30000001, .relab 1009 30000002, .relab 1011 30000003] (Zba a3 a0 a1 a4 ((Zbf .and .i64 a1.Line.Types 1) != 0) (a1.Control == a2)))<|.k5 3<|.jn 0 (.L0 a3 a0 a1 a4 ((Zbf .and .i64 a1.Line.Types 1) != 0) false) [.relab 1005 30000000, .relab 1006 30000001, .relab 1009 30000002, .relab 1011 30000003] (Zba a3 a0 a1 a4 ((Zbf .and .i64 a1.Line.Types 1) != 0) false)
def Zef : LF Zee Bool := ⟨78, [.t 10], false, fun | .L0 .. => [1,1,1,1,1,0,4,1] | .L1 .. => [1,1,1,1,1,0,4,1,3,1] | .L2 .. => [1,1,1,1,1,0,4,1,3,1,3,1] | .L3 .. => [1,1,1,1,1,0,4,1,3,1,3,1,3,1] | .L4 .. => [1,1,1,1,1,1],
 fun | .L0 v3 E0 E1 E2 E3 v30 => ⟨144, [(3, (wI v3)), (5, (.bptr 30000000 0)), (6, (.bptr 30000001 0)), (9, (.bptr 30000002 0)), (12, (.fn 124 [])), (13, (.fn 125 [(.bptr 30000003 0)])), (30, (wB v30))], [(30000000, .box (bx (Zi E0))), (30000001, .box (bx (Zaa E1))), (30000002, .box (bx (Zg E2))), (30000003, .box (bx (cB E3)))]⟩ | .L1 E0 E1 E2 E3 v49 => ⟨144, [(5, (.bptr 30000000 0)), (6, (.bptr 30000001 0)), (9, (.bptr 30000002 0)), (12, (.fn 124 [])), (13, (.fn 125 [(.bptr 30000003 0)])), (49, (wB v49))], [(30000000, .box (bx (Zi E0))), (30000001, .box (bx (Zaa E1))), (30000002, .box (bx (Zg E2))), (30000003, .box (bx (cB E3)))]⟩ | .L2 E0 E1 E2 E3 v68 => ⟨144, [(5, (.bptr 30000000 0)), (6, (.bptr 30000001 0)), (9, (.bptr 30000002 0)), (13, (.fn 125 [(.bptr 30000003 0)])), (68, (wB v68))], [(30000000, .box (bx (Zi E0))), (30000001, .box (bx (Zaa E1))), (30000002, .box (bx (Zg E2))), (30000003, .box (bx (cB E3)))]⟩ | .L3 E0 E1 E2 E3 v88 => ⟨144, [(5, (.bptr 30000000 0)), (6, (.bptr 30000001 0)), (9, (.bptr 30000002 0)), (13, (.fn 125 [(.bptr 30000003 0)])), (88, (wB v88))], [(30000000, .box (bx (Zi E0))), (30000001, .box (bx (Zaa E1))), (30000002, .box (bx (Zg E2))), (30000003, .box (bx (cB E3)))]⟩ | .L4 E0 E1 E2 => ⟨144, [(6, (.bptr 30000000 0)), (9, (.bptr 30000001 0)), (13, (.fn 125 [(.bptr 30000002 0)]))], [(30000000, .box (bx (Zaa E0))), (30000001, .box (bx (Zg E1))), (30000002, .box (bx (cB E2)))]⟩,
 fun r => [], fun r => (wB r), fun | .L0 v3 E0 E1 E2 E3 v30 => Zba v3 E0 E1 E2 E3 v30 | .L1 E0 E1 E2 E3 v49 => Zdd E0 E1 E2 E3 v49 | .L2 E0 E1 E2 E3 v68 => Zgs E0 E1 E2 E3 v68 | .L3 E0 E1 E2 E3 v88 => Ze1 E0 E1 E2 E3 v88 | .L4 E0 E1 E2 => Zdz E0 E1 E2⟩
def Zs4 (a0 : Zf) (a1 : Zd) (a2 : Int) (a3 : Int) (a4 : Zc) : Option Bool := Zef.run (Zxw a0 a1 a2 a3 a4)
theorem Zabt (a0 : Zf) (a1 : Zd) (a2 : Int) (a3 : Int) (a4 : Zc) {r : Bool} (h : Zs4 a0 a1 a2 a3 a4 = some r) : Fn PR 78 [(wA (Zi a0)), (wA (Zaa a1)), (wI a2), (wI a3), (wA (Zg a4))] (wB r) := Zef.fn h
inductive Zm0 where
 | L0 (v1 : (List Zd)) (v2 : Int) (v3 : Int) (E0 : Zc) (v11 : (List Int)) (v16 : (List Zf)) (v17 : Int) (v18 : Int)
 | L1 (v1 : (List Zd)) (v2 : Int) (v3 : Int) (E0 : Zc) (v11 : (List Int)) (E1 : Zf) (E2 : Zd) (v16 : (List Zf)) (v17 : Int) (v18 : Int)
def Zh4 (v1 : (List Zd)) (v2 : Int) (v3 : Int) (E0 : Zc) (v11 : (List Int)) (E1 : Zf) (E2 : Zd) (v16 : (List Zf)) (v17 : Int) (v18 : Int) : LT Zm0 (List Int) :=
.call (Zabt E1 E2 v2 v3 E0) fun x1=>.br x1 (.dr [.lit]<|.apR (cI .i64) 8 v11 [E1.Id] fun x5=>.g0 (.L0 v1 v2 v3 E0 x5 v16 v17 (IntKind.wrap .i64 (v18 + 1))))<|.g0 (.L0 v1 v2 v3 E0 v11 v16 v17 (IntKind.wrap .i64 (v18 + 1)))
def Zh5 (v1 : (List Zd)) (v2 : Int) (v3 : Int) (E0 : Zc) (v11 : (List Int)) (v16 : (List Zf)) (v17 : Int) (v18 : Int) : LT Zm0 (List Int) :=
.br (decide (v18 < v17)) (.idx Zi v16 v18 fun x2=>.lb 1013<|.lb 1014<|.len Zaa v1<|.br (decide (v18 < (v1.length : Int))) (.idx Zaa v1 v18 fun x6=>.jn 0 (.L1 v1 v2 v3 E0 v11 x2 x6 v16 v17 v18) [.relab 1013 30000001, .relab 1014 30000002] (Zh4 v1 v2 v3 E0 v11 x2 x6 v16 v17 v18))<|.jn 0 (.L1 v1 v2 v3 E0 v11 x2 (⟨([] : List UInt8), (⟨0, 0, (⟨0, 0, 0, 0, 0⟩ : (A5 Int))⟩ : Zl), 0, (⟨0, 0, ([] : (List (List UInt8)))⟩ : Z7), 0, 0, 0, ([] : (List Zk)), 0⟩ : Zd) v16 v17 v18) [.relab 1013 30000001, .relab 1014 30000002, .niltb 30000002 11, .niltb 30000002 15] (Zh4 v1 v2 v3 E0 v11 x2 (⟨([] : List UInt8), (⟨0, 0, (⟨0, 0, 0, 0, 0⟩ : (A5 Int))⟩ : Zl), 0, (⟨0, 0, ([] : (List (List UInt8)))⟩ : Z7), 0, 0, 0, ([] : (List Zk)), 0⟩ : Zd) v16 v17 v18))<|.ret v11 [.relab 20000011 5000]
def Z2m (a0 : Zb) (a1 : (List Zd)) (a2 : Int) (a3 : Int) (a4 : Zc) : LT Zm0 (List Int) :=
.lb 1005<|.lb 1009<|.len Zi a0.Objects<|.go (.L0 a1 a2 a3 a4 ([] : (List Int)) a0.Objects (a0.Objects.length : Int) 0) [.relab 1009 30000000, .own 11 20000011 1]
def Zs5 : LF Zm0 (List Int) := ⟨42, [.t 10], true, fun | .L0 .. => [1,1,0,1,4] | .L1 .. => [1,1,0,1,4,5,1,1,0,4,1,1,1],
 fun | .L0 v1 v2 v3 E0 v11 v16 v17 v18 => ⟨44, [(1, (wL Zaa v1)), (2, (wI v2)), (3, (wI v3)), (9, (.bptr 30000000 0)), (11, (wO (cI .i64) 20000011 v11)), (16, (wL Zi v16)), (17, (wI v17)), (18, (wI v18))], [(30000000, .box (bx (Zg E0))), (20000011, wR (cI .i64) 1 v11)]⟩ | .L1 v1 v2 v3 E0 v11 E1 E2 v16 v17 v18 => ⟨44, [(1, (wL Zaa v1)), (2, (wI v2)), (3, (wI v3)), (9, (.bptr 30000000 0)), (11, (wO (cI .i64) 20000011 v11)), (13, (.bptr 30000001 0)), (14, (.bptr 30000002 0)), (16, (wL Zi v16)), (17, (wI v17)), (18, (wI v18))], [(30000000, .box (bx (Zg E0))), (20000011, wR (cI .i64) 1 v11), (30000001, .box (bx (Zi E1))), (30000002, .box (bx (Zaa E2)))]⟩,
 fun r => [(5000, wR (cI .i64) 1 r)], fun r => (wO (cI .i64) 5000 r), fun | .L0 v1 v2 v3 E0 v11 v16 v17 v18 => Zh5 v1 v2 v3 E0 v11 v16 v17 v18 | .L1 v1 v2 v3 E0 v11 E1 E2 v16 v17 v18 => Zh4 v1 v2 v3 E0 v11 E1 E2 v16 v17 v18⟩
def Zm1 (a0 : Zb) (a1 : (List Zd)) (a2 : Int) (a3 : Int) (a4 : Zc) : Option (List Int) := Zs5.run (Z2m a0 a1 a2 a3 a4)
theorem Zxx (a0 : Zb) (a1 : (List Zd)) (a2 : Int) (a3 : Int) (a4 : Zc) {r : (List Int)} (h : Zm1 a0 a1 a2 a3 a4 = some r) : FnG PR 42 [] [(wA (Zn a0)), (wL Zaa a1), (wI a2), (wI a3), (wA (Zg a4))] [(5000, wR (cI .i64) 1 r)] (wO (cI .i64) 5000 r) := Zs5.fn h
theorem Zafr (a0 : Zb) (a1 : (List Zd)) (a2 : Int) (a3 : Int) (a4 : Zc) {r : (List Int)} (h : Zm1 a0 a1 a2 a3 a4 = some r) : Fn PR 42 [(wA (Zn a0)), (wL Zaa a1), (wI a2), (wI a3), (wA (Zg a4))] (wL (cI .i64) r) :=
 FnG.frozen (C := LT.RL (cI .i64) r ∧ True) (Zxx a0 a1 a2 a3 a4 h) ⟨rfl, trivial⟩ (by kernel_rfl)
def Zlw (a0 : Zf) (b0 : Int) : LT Empty Bool :=
.lb 1002<|.rt (a0.Id == b0)
def Zlx (b0 : Int) : LF Empty Bool := .z 114 [.t 3] true (fun r => [(0, .box (bx ((cI .i64) b0)))]) (fun r => (wB r))
def Zih (a0 : Zf) (b0 : Int) : Option Bool := (Zlx b0).run (Zlw a0 b0)
theorem Zt2 (a0 : Zf) (b0 : Int) {r : Bool} (h : Zih a0 b0 = some r) : FnG PR 114 [(0, .box (bx ((cI .i64) b0)))] [(wA (Zi a0)), (.bptr 0 0)] [(0, .box (bx ((cI .i64) b0)))] (wB r) := (Zlx b0).fn h
inductive Zad where
 | L0 (v0 : (List Zf)) (b0 : Int) (v7 : Int) (v8 : Int)
def Za1 (v0 : (List Zf)) (b0 : Int) (v7 : Int) (v8 : Int) : LT Zad (Int × Int) :=
.br (decide (v8 < v7)) (.idx Zi v0 v8 fun x2=>.callO (Zt2 x2 b0) [0] 170000 (fun x => []) fun x4=>.br x4 (.rt (v8, b0))<|.g0 (.L0 v0 b0 v7 (IntKind.wrap .i64 (v8 + 1))))<|.rt ((-1), b0)
def Zb5 (a0 : (List Zf)) (b0 : Int) : LT Zad (Int × Int) :=
.len Zi a0<|.g0 (.L0 a0 b0 (a0.length : Int) 0)
def Zb6 : LF Zad (Int × Int) := ⟨113, [.t 4], true, fun | .L0 .. => [1,0,1,4],
 fun | .L0 v0 b0 v7 v8 => ⟨19, [(0, (wL Zi v0)), (1, (.fn 114 [(.bptr 0 0)])), (7, (wI v7)), (8, (wI v8))], [(0, .box (bx ((cI .i64) b0)))]⟩,
 fun r => [(0, .box (bx ((cI .i64) r.2)))], fun r => (wI r.1), fun | .L0 v0 b0 v7 v8 => Za1 v0 b0 v7 v8⟩
def Za4 (a0 : (List Zf)) (b0 : Int) : Option (Int × Int) := Zb6.run (Zb5 a0 b0)
theorem Zdt (a0 : (List Zf)) (b0 : Int) {r : (Int × Int)} (h : Za4 a0 b0 = some r) : FnG PR 113 [(0, .box (bx ((cI .i64) b0)))] [(wL Zi a0), (.fn 114 [(.bptr 0 0)])] [(0, .box (bx ((cI .i64) r.2)))] (wI r.1) := Zb6.fn h
def Zxy (a0 : Zb) (a1 : (List Zd)) (a2 : Int) : LT Empty (Zd × Bool) :=
.lb 1003<|.lb 1005<|.lb 1006<|.callU (Zdt a0.Objects a2) [1005] 130000 fun x1=>.br (decide (x1.1 < 0)) (.rt ((⟨([] : List UInt8), (⟨0, 0, (⟨0, 0, 0, 0, 0⟩ : (A5 Int))⟩ : Zl), 0, (⟨0, 0, ([] : (List (List UInt8)))⟩ : Z7), 0, 0, 0, ([] : (List Zk)), 0⟩ : Zd), false))<|.len Zaa a1<|.br (decide (x1.1 ≥ (a1.length : Int))) (.rt ((⟨([] : List UInt8), (⟨0, 0, (⟨0, 0, 0, 0, 0⟩ : (A5 Int))⟩ : Zl), 0, (⟨0, 0, ([] : (List (List UInt8)))⟩ : Z7), 0, 0, 0, ([] : (List Zk)), 0⟩ : Zd), true))<|.idx Zaa a1 x1.1 fun x6=>.rt (x6, true)
def Zxz : LF Empty (Zd × Bool) := .z 72 [.c 6 81 true 17, .t 7] false (fun r => []) (fun r => (.tup [(wA (Zaa r.1)), (wB r.2)]))
def Zs6 (a0 : Zb) (a1 : (List Zd)) (a2 : Int) : Option (Zd × Bool) := Zxz.run (Zxy a0 a1 a2)
theorem Zu0 (a0 : Zb) (a1 : (List Zd)) (a2 : Int) {r : (Zd × Bool)} (h : Zs6 a0 a1 a2 = some r) : Fn PR 72 [(wA (Zn a0)), (wL Zaa a1), (wI a2)] (.tup [(wA (Zaa r.1)), (wB r.2)]) := Zxz.fn h
def Znl (a0 : Zf) (b0 : Int) : LT Empty Bool :=
.lb 1002<|.rt (a0.Id == b0)
def Znm (b0 : Int) : LF Empty Bool := .z 130 [.t 3] true (fun r => [(0, .box (bx ((cI .i64) b0)))]) (fun r => (wB r))
def Zjy (a0 : Zf) (b0 : Int) : Option Bool := (Znm b0).run (Znl a0 b0)
theorem Zx0 (a0 : Zf) (b0 : Int) {r : Bool} (h : Zjy a0 b0 = some r) : FnG PR 130 [(0, .box (bx ((cI .i64) b0)))] [(wA (Zi a0)), (.bptr 0 0)] [(0, .box (bx ((cI .i64) b0)))] (wB r) := (Znm b0).fn h
inductive Zag where
 | L0 (v0 : (List Zf)) (b0 : Int) (v7 : Int) (v8 : Int)
def Za3 (v0 : (List Zf)) (b0 : Int) (v7 : Int) (v8 : Int) : LT Zag (Int × Int) :=
.br (decide (v8 < v7)) (.idx Zi v0 v8 fun x2=>.callO (Zx0 x2 b0) [0] 170000 (fun x => []) fun x4=>.br x4 (.rt (v8, b0))<|.g0 (.L0 v0 b0 v7 (IntKind.wrap .i64 (v8 + 1))))<|.rt ((-1), b0)
def Zcd (a0 : (List Zf)) (b0 : Int) : LT Zag (Int × Int) :=
.len Zi a0<|.g0 (.L0 a0 b0 (a0.length : Int) 0)
def Zce : LF Zag (Int × Int) := ⟨113, [.t 4], true, fun | .L0 .. => [1,0,1,4],
 fun | .L0 v0 b0 v7 v8 => ⟨19, [(0, (wL Zi v0)), (1, (.fn 130 [(.bptr 0 0)])), (7, (wI v7)), (8, (wI v8))], [(0, .box (bx ((cI .i64) b0)))]⟩,
 fun r => [(0, .box (bx ((cI .i64) r.2)))], fun r => (wI r.1), fun | .L0 v0 b0 v7 v8 => Za3 v0 b0 v7 v8⟩
def Za6 (a0 : (List Zf)) (b0 : Int) : Option (Int × Int) := Zce.run (Zcd a0 b0)
theorem Zd5 (a0 : (List Zf)) (b0 : Int) {r : (Int × Int)} (h : Za6 a0 b0 = some r) : FnG PR 113 [(0, .box (bx ((cI .i64) b0)))] [(wL Zi a0), (.fn 130 [(.bptr 0 0)])] [(0, .box (bx ((cI .i64) r.2)))] (wI r.1) := Zce.fn h
def Z2n (a0 : Zb) (a1 : Int) : LT Empty Int :=
.lb 1002<|.lb 1003<|.callU (Zd5 a0.Objects a1) [1003] 90000 fun x1=>.rt x1.1
def Z2o : LF Empty Int := .z 79 [.t 4] false (fun r => []) (fun r => (wI r))
def Zza (a0 : Zb) (a1 : Int) : Option Int := Z2o.run (Z2n a0 a1)
theorem Zafs (a0 : Zb) (a1 : Int) {r : Int} (h : Zza a0 a1 = some r) : Fn PR 79 [(wA (Zn a0)), (wI a1)] (wI r) := Z2o.fn h
def Z6h (a0 : Zb) (a1 : Int) : LT Empty (Zf × Bool) :=
.lb 1002<|.lb 1004<|.call (Zafs a0 a1) fun x1=>.br (decide (x1 < 0)) (.rt ((⟨0, 0, 0, 0, 0, false, false, false, false, 0, (⟨0, 0, 0⟩ : (A3 Int)), 0, 0, 0, false, 0, 0⟩ : Zf), false))<|.idx Zi a0.Objects x1 fun x4=>.rt (x4, true)
def Z6i : LF Empty (Zf × Bool) := .z 45 [.c 4 62 true 19, .t 5] false (fun r => []) (fun r => (.tup [(wA (Zi r.1)), (wB r.2)]))
def Z2p (a0 : Zb) (a1 : Int) : Option (Zf × Bool) := Z6i.run (Z6h a0 a1)
theorem Z2q (a0 : Zb) (a1 : Int) {r : (Zf × Bool)} (h : Z2p a0 a1 = some r) : Fn PR 45 [(wA (Zn a0)), (wI a1)] (.tup [(wA (Zi r.1)), (wB r.2)]) := Z6i.fn h
def Z6j (a0 : Zb) (a1 : (List Zd)) (a2 : Zo) (a3 : Zt) : LT Empty Int :=
.lb 1004<|.lb 1006<|.lb 1007<|.br (a3.Kind == 0) (.rt a3.N)<|.br (a3.Kind == 1) (.rt a2.X)<|.br (a3.Kind == 7) (.rt a2.Event.Amount)<|.br (a3.Kind == 2) (.call (Zafr a0 a1 a2.You a2.Source a3.Filter) fun x5=>.len (cI .i64) x5<|.call (Zabs a3.N (x5.length : Int)) fun x8=>.rt x8)<|.br (a3.Kind == 3) (.call (Zu0 a0 a1 a2.Source) fun x11=>.lb 1009<|.rt x11.1.Power)<|.br (a3.Kind == 4) (.call (Z2q a0 a2.Source) fun x14=>.lb 1011<|.idA (Ze.int .i64) (A3.list x14.1.Counters) a3.Counter (bx (Zi x14.1)) 10 13 fun x16=>.ldC (Ze.int .i64) 68 x16 0<|.rt x16)<|.cs (decide (a2.You < 0)) (.k5 6<|.k2 6<|.kn [0]<|.rt 0)<|.k5 6<|.len Z6 a0.Players<|.k2 6<|.br (decide (a2.You ≥ (a0.Players.length : Int))) (.rt 0)<|.br (a3.Kind == 5) (.idx Z6 a0.Players a2.You fun x22=>.rt x22.Life)<|.idx Z6 a0.Players a2.You fun x24=>.len (cI .i64) x24.Hand<|.rt (x24.Hand.length : Int)
def Z6k : LF Empty Int := .z 31 [.t 8] false (fun r => []) (fun r => (wI r))
def Z2r (a0 : Zb) (a1 : (List Zd)) (a2 : Zo) (a3 : Zt) : Option Int := Z6k.run (Z6j a0 a1 a2 a3)
theorem Zaj5 (a0 : Zb) (a1 : (List Zd)) (a2 : Zo) (a3 : Zt) {r : Int} (h : Z2r a0 a1 a2 a3 = some r) : Fn PR 31 [(wA (Zn a0)), (wL Zaa a1), (wA (Zdl a2)), (wA (Z1 a3))] (wI r) := Z6k.fn h
def Zabu (a0 : Zb) (a1 : (List Zd)) (a2 : Zo) (a3 : Zt) : LT Empty Int :=
.lb 1004<|.lb 1006<|.lb 1007<|.call (Zaj4 a3) fun x1=>.br (!x1) (.rt 0)<|.call (Zaj5 a0 a1 a2 a3) fun x4=>.call (Zf3 x4) fun x6=>.rt (Zyl x6 0)
def Zabv : LF Empty Int := .z 12 [.t 8] false (fun r => []) (fun r => (wI r))
def Z8f (a0 : Zb) (a1 : (List Zd)) (a2 : Zo) (a3 : Zt) : Option Int := Zabv.run (Zabu a0 a1 a2 a3)
theorem Zom (a0 : Zb) (a1 : (List Zd)) (a2 : Zo) (a3 : Zt) {r : Int} (h : Z8f a0 a1 a2 a3 = some r) : Fn PR 12 [(wA (Zn a0)), (wL Zaa a1), (wA (Zdl a2)), (wA (Z1 a3))] (wI r) := Zabv.fn h
inductive Zha where
 | L0 (v3 : (List Int)) (v7 : (List Zas)) (v8 : Int) (v9 : Int)
def Zm2 (v3 : (List Int)) (v7 : (List Zas)) (v8 : Int) (v9 : Int) : LT Zha (List Int) :=
.br (decide (v9 < v8)) (.idx Z6 v7 v9 fun x2=>.lb 1005<|.br (!x2.Lost) (.dr [.lit]<|.apR (cI .i64) 8 v3 [v9] fun x6=>.g0 (.L0 x6 v7 v8 (IntKind.wrap .i64 (v9 + 1))))<|.g0 (.L0 v3 v7 v8 (IntKind.wrap .i64 (v9 + 1))))<|.ret v3 [.relab 20000003 5000]
def Zx1 (a0 : Zb) : LT Zha (List Int) :=
.lb 1001<|.len Z6 a0.Players<|.go (.L0 ([] : (List Int)) a0.Players (a0.Players.length : Int) 0) [.own 3 20000003 1]
def Zx2 : LF Zha (List Int) := ⟨122, [.t 2], true, fun | .L0 .. => [1,1,0,1,4],
 fun | .L0 v3 v7 v8 v9 => ⟨23, [(3, (wO (cI .i64) 20000003 v3)), (7, (wL Z6 v7)), (8, (wI v8)), (9, (wI v9))], [(20000003, wR (cI .i64) 1 v3)]⟩,
 fun r => [(5000, wR (cI .i64) 1 r)], fun r => (wO (cI .i64) 5000 r), fun | .L0 v3 v7 v8 v9 => Zm2 v3 v7 v8 v9⟩
def Zm3 (a0 : Zb) : Option (List Int) := Zx2.run (Zx1 a0)
theorem Z8g (a0 : Zb) {r : (List Int)} (h : Zm3 a0 = some r) : FnG PR 122 [] [(wA (Zn a0))] [(5000, wR (cI .i64) 1 r)] (wO (cI .i64) 5000 r) := Zx2.fn h
theorem Zabw (a0 : Zb) {r : (List Int)} (h : Zm3 a0 = some r) : Fn PR 122 [(wA (Zn a0))] (wL (cI .i64) r) :=
 FnG.frozen (C := LT.RL (cI .i64) r ∧ True) (Z8g a0 h) ⟨rfl, trivial⟩ (by kernel_rfl)
def Zs7 (a0 : Int) : LT Empty Bool :=
.rt (a0 != a0)
def Zs8 : LF Empty Bool := .z 161 [.t 2] false (fun r => []) (fun r => (wB r))
def Zn6 (a0 : Int) : Option Bool := Zs8.run (Zs7 a0)
theorem Zq0 (a0 : Int) {r : Bool} (h : Zn6 a0 = some r) : Fn PR 161 [(wI a0)] (wB r) := Zs8.fn h
def Zpr (a0 : Int) (a1 : Int) : LT Empty Int :=
.call (Zq0 a0) fun x1=>.call (Zq0 a1) fun x3=>.br x1 (.br x3 (.rt 0)<|.rt (-1))<|.br x3 (.rt 1)<|.br (decide (a0 < a1)) (.rt (-1))<|.br (decide (a0 > a1)) (.rt 1)<|.rt 0
def Zps : LF Empty Int := .z 123 [.t 4] false (fun r => []) (fun r => (wI r))
def Zle (a0 : Int) (a1 : Int) : Option Int := Zps.run (Zpr a0 a1)
theorem Z0s (a0 : Int) (a1 : Int) {r : Int} (h : Zle a0 a1 = some r) : Fn PR 123 [(wI a0), (wI a1)] (wI r) := Zps.fn h
inductive Zfs where
 | L0 (v1 : Int) (E0 : Zb)
 | L1 (v1 : Int) (v5 : (List Int)) (v6 : (List Int)) (v19 : (List Int)) (v20 : Int) (v21 : Int)
def Ze2 (v1 : Int) (E0 : Zb) : LT Zfs (List Int) :=
.call (Zabw E0) fun x1=>.len (cI .i64) x1<|.go (.L1 v1 ([] : (List Int)) ([] : (List Int)) x1 (x1.length : Int) 0) [.own 5 20000005 1, .own 6 20000006 1]
def Zm4 (v1 : Int) (v5 : (List Int)) (v6 : (List Int)) (v19 : (List Int)) (v20 : Int) (v21 : Int) : LT Zfs (List Int) :=
.br (decide (v21 < v20)) (.idx (cI .i64) v19 v21 fun x2=>.call (Z0s x2 v1) fun x4=>.br (x4 == (-1)) (.dr [.lit]<|.apR (cI .i64) 8 v5 [x2] fun x8=>.g0 (.L1 v1 x8 v6 v19 v20 (IntKind.wrap .i64 (v21 + 1))))<|.br (x4 == 1) (.dr [.lit]<|.apR (cI .i64) 8 v6 [x2] fun x15=>.g0 (.L1 v1 v5 x15 v19 v20 (IntKind.wrap .i64 (v21 + 1))))<|.g0 (.L1 v1 v5 v6 v19 v20 (IntKind.wrap .i64 (v21 + 1))))<|.rl (cI .i64) v5<|.apR (cI .i64) 8 v6 v5 fun x22=>.ret x22 [.relab 20000006 5000]
def Zx3 (a0 : Zb) (a1 : Int) : LT Zfs (List Int) :=
.lb 1002<|.cs (decide (a1 < 0)) (.k5 0<|.kg 0<|.kn [0]<|.jn 0 (.L0 (-1) a0) [.relab 1002 30000000] (Ze2 (-1) a0))<|.k4 0<|.len Z6 a0.Players<|.k2 0<|.br (decide (a1 ≥ (a0.Players.length : Int))) (.jn 0 (.L0 (-1) a0) [.relab 1002 30000000] (Ze2 (-1) a0))<|.jn 0 (.L0 a1 a0) [.relab 1002 30000000] (Ze2 a1 a0)
def Zx4 : LF Zfs (List Int) := ⟨77, [.t 4], true, fun | .L0 .. => [1,1] | .L1 .. => [1,1,1,0,1,4],
 fun | .L0 v1 E0 => ⟨44, [(1, (wI v1)), (2, (.bptr 30000000 0))], [(30000000, .box (bx (Zn E0)))]⟩ | .L1 v1 v5 v6 v19 v20 v21 => ⟨44, [(1, (wI v1)), (5, (wO (cI .i64) 20000005 v5)), (6, (wO (cI .i64) 20000006 v6)), (19, (wL (cI .i64) v19)), (20, (wI v20)), (21, (wI v21))], [(20000005, wR (cI .i64) 1 v5), (20000006, wR (cI .i64) 1 v6)]⟩,
 fun r => [(5000, wR (cI .i64) 1 r)], fun r => (wO (cI .i64) 5000 r), fun | .L0 v1 E0 => Ze2 v1 E0 | .L1 v1 v5 v6 v19 v20 v21 => Zm4 v1 v5 v6 v19 v20 v21⟩
def Zm5 (a0 : Zb) (a1 : Int) : Option (List Int) := Zx4.run (Zx3 a0 a1)
theorem Zs9 (a0 : Zb) (a1 : Int) {r : (List Int)} (h : Zm5 a0 a1 = some r) : FnG PR 77 [] [(wA (Zn a0)), (wI a1)] [(5000, wR (cI .i64) 1 r)] (wO (cI .i64) 5000 r) := Zx4.fn h
theorem Zabx (a0 : Zb) (a1 : Int) {r : (List Int)} (h : Zm5 a0 a1 = some r) : Fn PR 77 [(wA (Zn a0)), (wI a1)] (wL (cI .i64) r) :=
 FnG.frozen (C := LT.RL (cI .i64) r ∧ True) (Zs9 a0 a1 h) ⟨rfl, trivial⟩ (by kernel_rfl)
def Zx5 (a0 : Zo) (a1 : Int) : LT Empty (Zx × Bool) :=
.lb 1002<|.lb 1004<|.cs (decide (a1 < 1)) (.k5 0<|.kg 0<|.kn [0]<|.rt ((⟨0, 0⟩ : Zx), false))<|.k4 0<|.len Zcx a0.Targets<|.k2 0<|.br (decide (a1 > (a0.Targets.length : Int))) (.rt ((⟨0, 0⟩ : Zx), false))<|.idx Zcx a0.Targets (IntKind.wrap .i64 (a1 - 1)) fun x6=>.rt (x6, true)
def Zx6 : LF Empty (Zx × Bool) := .z 43 [.c 4 83 true 2, .t 5] false (fun r => []) (fun r => (.tup [(wA (Zcx r.1)), (wB r.2)]))
def Zta (a0 : Zo) (a1 : Int) : Option (Zx × Bool) := Zx6.run (Zx5 a0 a1)
theorem Zu1 (a0 : Zo) (a1 : Int) {r : (Zx × Bool)} (h : Zta a0 a1 = some r) : Fn PR 43 [(wA (Zdl a0)), (wI a1)] (.tup [(wA (Zcx r.1)), (wB r.2)]) := Zx6.fn h
inductive Ze3 where
 | L0 (v1 : (List Zd)) (E0 : Zb) (E1 : Zo) (E2 : Z4) (v36 : Bool)
 | L1 (v1 : (List Zd)) (E0 : Zb) (E1 : Z4) (E2 : Zx) (v10 : Bool)
def Zf4 (v1 : (List Zd)) (E0 : Zb) (E1 : Z4) (E2 : Zx) (v10 : Bool) : LT Ze3 (List Int) :=
.call (Zu0 E0 v1 E2.Object) fun x1=>.lb 1011<|.cs v10 (.k2 0<|.cs x1.2 (.k4 1<|.br (E1.Kind == 8) (.lb 1074<|.ret [x1.1.Control] [.relab 1074 5000])<|.ret ([] : (List Int)) [.own 8 5000 1])<|.k4 1<|.kn [0]<|.ret ([] : (List Int)) [.own 8 5000 1])<|.k2 0<|.b4 false<|.kn [0]<|.ret ([] : (List Int)) [.own 8 5000 1]
def Zf5 (v1 : (List Zd)) (E0 : Zb) (E1 : Zo) (E2 : Z4) (v36 : Bool) : LT Ze3 (List Int) :=
.br v36 (.call (Zu1 E1 E2.N) fun x2=>.lb 1009<|.cs x2.2 (.k4 1<|.br (x2.1.Object == 0) (.lb 1054<|.ret [x2.1.Player] [.relab 1054 5000])<|.jn 0 (.L1 v1 E0 E2 x2.1 x2.2) [.pick [1, 4, 7, 9, 10] [1009, 30000000, 30000002], .relab 30000002 30000001, .relab 1009 30000002] (Zf4 v1 E0 E2 x2.1 x2.2))<|.k4 1<|.kn [0]<|.jn 0 (.L1 v1 E0 E2 x2.1 x2.2) [.pick [1, 4, 7, 9, 10] [1009, 30000000, 30000002], .relab 30000002 30000001, .relab 1009 30000002] (Zf4 v1 E0 E2 x2.1 x2.2))<|.ret ([] : (List Int)) [.own 8 5000 1]
def Zu2 (a0 : Zb) (a1 : (List Zd)) (a2 : Zo) (a3 : Z4) : LT Ze3 (List Int) :=
.lb 1004<|.lb 1006<|.lb 1007<|.br (a3.Kind == 1) (.lb 1019<|.ret [a2.You] [.relab 1019 5000])<|.br (a3.Kind == 5) (.callF (Zs9 a0 a2.You) 260000 fun x4=>.ret x4 [.relab 265000 5000])<|.br (a3.Kind == 6) (.lb 1030<|.call (Zabx a0 a2.You) fun x8=>.apR (cI .i64) 8 [a2.You] x8 fun x10=>.ret x10 [.relab 1030 5000])<|.br (a3.Kind == 3) (.jn 0 (.L0 a1 a0 a2 a3 (a3.Kind == 3)) [.relab 1004 30000000, .relab 1006 30000001, .relab 1007 30000002] (Zf5 a1 a0 a2 a3 (a3.Kind == 3)))<|.jn 0 (.L0 a1 a0 a2 a3 (a3.Kind == 8)) [.relab 1004 30000000, .relab 1006 30000001, .relab 1007 30000002] (Zf5 a1 a0 a2 a3 (a3.Kind == 8))
def Zu3 : LF Ze3 (List Int) := ⟨37, [.t 8], true, fun | .L0 .. => [1,0,1,4,1,3,1,3,1,3,1] | .L1 .. => [1,0,1,4,1,3,1,3,1,3,1,2,1,1],
 fun | .L0 v1 E0 E1 E2 v36 => ⟨75, [(1, (wL Zaa v1)), (4, (.bptr 30000000 0)), (6, (.bptr 30000001 0)), (7, (.bptr 30000002 0)), (36, (wB v36))], [(30000000, .box (bx (Zn E0))), (30000001, .box (bx (Zdl E1))), (30000002, .box (bx (Zbh E2)))]⟩ | .L1 v1 E0 E1 E2 v10 => ⟨75, [(1, (wL Zaa v1)), (4, (.bptr 30000000 0)), (7, (.bptr 30000001 0)), (9, (.bptr 30000002 0)), (10, (wB v10))], [(30000000, .box (bx (Zn E0))), (30000001, .box (bx (Zbh E1))), (30000002, .box (bx (Zcx E2)))]⟩,
 fun r => [(5000, wR (cI .i64) 1 r)], fun r => (wO (cI .i64) 5000 r), fun | .L0 v1 E0 E1 E2 v36 => Zf5 v1 E0 E1 E2 v36 | .L1 v1 E0 E1 E2 v10 => Zf4 v1 E0 E1 E2 v10⟩
def Zp5 (a0 : Zb) (a1 : (List Zd)) (a2 : Zo) (a3 : Z4) : Option (List Int) := Zu3.run (Zu2 a0 a1 a2 a3)
theorem Z4g (a0 : Zb) (a1 : (List Zd)) (a2 : Zo) (a3 : Z4) {r : (List Int)} (h : Zp5 a0 a1 a2 a3 = some r) : FnG PR 37 [] [(wA (Zn a0)), (wL Zaa a1), (wA (Zdl a2)), (wA (Zbh a3))] [(5000, wR (cI .i64) 1 r)] (wO (cI .i64) 5000 r) := Zu3.fn h
def Zly (a0 : Int) (a1 : Zb) : LT Empty Bool :=
.cs (decide (a0 < 0)) (.k5 0<|.kg 0<|.b5 true<|.b2 true<|.rt true)<|.k4 0<|.len Z6 a1.Players<|.k2 0<|.cs (decide (a0 ≥ (a1.Players.length : Int))) (.k5 1<|.k2 1<|.rt true)<|.k4 1<|.idx Z6 a1.Players a0 fun x4=>.k3 1<|.rt x4.Lost
def Zlz : LF Empty Bool := .z 38 [.t 3] false (fun r => []) (fun r => (wB r))
def Zii (a0 : Int) (a1 : Zb) : Option Bool := Zlz.run (Zly a0 a1)
theorem Zkn (a0 : Int) (a1 : Zb) {r : Bool} (h : Zii a0 a1 = some r) : Fn PR 38 [(wI a0), (.vptr (Zn a1))] (wB r) := Zlz.fn h
inductive Zav where
 | L0 (v0 : (List Int)) (w1_0 : Zb) (v7 : Int) (v8 : Int)
def Zbn (v0 : (List Int)) (w1_0 : Zb) (v7 : Int) (v8 : Int) : LT Zav Int :=
.br (decide (v8 < v7)) (.idx (cI .i64) v0 v8 fun x2=>.call (Zkn x2 w1_0) fun x4=>.br x4 (.rt v8)<|.g0 (.L0 v0 w1_0 v7 (IntKind.wrap .i64 (v8 + 1))))<|.rt (-1)
def Zc3 (a0 : (List Int)) (a1 : Zb) : LT Zav Int :=
.len (cI .i64) a0<|.g0 (.L0 a0 a1 (a0.length : Int) 0)
def Zc4 : LF Zav Int := ⟨76, [.t 4], false, fun | .L0 .. => [1,0,1,4],
 fun | .L0 v0 w1_0 v7 v8 => ⟨19, [(0, (wL (cI .i64) v0)), (1, (.fn 38 [(.vptr (Zn w1_0))])), (7, (wI v7)), (8, (wI v8))], []⟩,
 fun r => [], fun r => (wI r), fun | .L0 v0 w1_0 v7 v8 => Zbn v0 w1_0 v7 v8⟩
def Zb2 (a0 : (List Int)) (a1 : Zb) : Option Int := Zc4.run (Zc3 a0 a1)
theorem Zf6 (a0 : (List Int)) (a1 : Zb) {r : Int} (h : Zb2 a0 a1 = some r) : Fn PR 76 [(wL (cI .i64) a0), (.fn 38 [(.vptr (Zn a1))])] (wI r) := Zc4.fn h
inductive Zam where
 | L0 (v0 : (List Int)) (w1_0 : Zb) (v5 : Int) (v6 : Int)
def Za7 (v0 : (List Int)) (w1_0 : Zb) (v5 : Int) (v6 : Int) : LT Zam (List Int) :=
.lenO (cI .i64) v0<|.br (decide (v6 < (v0.length : Int))) (.idxR (cI .i64) v0 v6 fun x3=>.ldR (cI .i64) v0 x3 2<|.call (Zkn x3 w1_0) fun x5=>.br (!x5) (.idxR (cI .i64) v0 v5 fun x8=>.setR (cI .i64) v0 v5 x8 x3 5 0 [(.int .i64 x3)] rfl fun x10=>.dr [.ahead 34, .relen 20000000, .stop]<|.us [6]<|.us [6]<|.us [6]<|.us [6]<|.us [6]<|.us [6]<|.g0 (.L0 x10 w1_0 (IntKind.wrap .i64 (v5 + 1)) (IntKind.wrap .i64 (v6 + 1))))<|.g0 (.L0 v0 w1_0 v5 (IntKind.wrap .i64 (v6 + 1))))<|.tlR (cI .i64) v0 v5 0 fun x18=>.clR (cI .i64) v0 x18 0<|.dr [.ahead 39, .relen 20000000, .stop]<|.us [2]<|.us [2]<|.us [2]<|.trR (cI .i64) x18 v5 fun x20=>.ret x20 [.relab 20000000 5000]
def Zck (b0 : (List Int)) (a1 : Zb) : LT Zam (List Int) :=
.rl (cI .i64) b0<|.call (Zf6 b0 a1) fun x1=>.br (x1 == (-1)) (.ret b0 [.relab 0 5000])<|.go (.L0 b0 a1 x1 (IntKind.wrap .i64 (x1 + 1))) [.relab 0 20000000]
def Zcl : LF Zam (List Int) := ⟨36, [.t 4], true, fun | .L0 .. => [1,1,1,0,1,4],
 fun | .L0 v0 w1_0 v5 v6 => ⟨42, [(0, (wO (cI .i64) 20000000 v0)), (1, (.fn 38 [(.vptr (Zn w1_0))])), (5, (wI v5)), (6, (wI v6))], [(20000000, wR (cI .i64) 1 v0)]⟩,
 fun r => [(5000, wR (cI .i64) 1 r)], fun r => (wO (cI .i64) 5000 r), fun | .L0 v0 w1_0 v5 v6 => Za7 v0 w1_0 v5 v6⟩
def Zbc (b0 : (List Int)) (a1 : Zb) : Option (List Int) := Zcl.run (Zck b0 a1)
theorem Zeo (b0 : (List Int)) (a1 : Zb) {r : (List Int)} (h : Zbc b0 a1 = some r) : FnG PR 36 [(0, wR (cI .i64) 1 b0)] [(wO (cI .i64) 0 b0), (.fn 38 [(.vptr (Zn a1))])] [(5000, wR (cI .i64) 1 r)] (wO (cI .i64) 5000 r) := Zcl.fn h
def Zu4 (a0 : Zb) (a1 : (List Zd)) (a2 : Zo) (a3 : Z4) : LT Empty (List Int) :=
.lb 1004<|.lb 1006<|.lb 1007<|.callF (Z4g a0 a1 a2 a3) 140000 fun x1=>.callW (Zeo x1 a0) [145000] 160000 (fun _ => ⟨rfl, Zed (cI .i64) (fun _ => rfl) _, trivial⟩) fun x3=>.ret x3 [.relab 165000 5000]
def Zu5 : LF Empty (List Int) := .z 15 [.t 8] true (fun r => [(5000, wR (cI .i64) 1 r)]) (fun r => (wO (cI .i64) 5000 r))
def Zkw (a0 : Zb) (a1 : (List Zd)) (a2 : Zo) (a3 : Z4) : Option (List Int) := Zu5.run (Zu4 a0 a1 a2 a3)
theorem Zjz (a0 : Zb) (a1 : (List Zd)) (a2 : Zo) (a3 : Z4) {r : (List Int)} (h : Zkw a0 a1 a2 a3 = some r) : FnG PR 15 [] [(wA (Zn a0)), (wL Zaa a1), (wA (Zdl a2)), (wA (Zbh a3))] [(5000, wR (cI .i64) 1 r)] (wO (cI .i64) 5000 r) := Zu5.fn h
theorem Zht (a0 : Zb) (a1 : (List Zd)) (a2 : Zo) (a3 : Z4) {r : (List Int)} (h : Zkw a0 a1 a2 a3 = some r) : Fn PR 15 [(wA (Zn a0)), (wL Zaa a1), (wA (Zdl a2)), (wA (Zbh a3))] (wL (cI .i64) r) :=
 FnG.frozen (C := LT.RL (cI .i64) r ∧ True) (Zjz a0 a1 a2 a3 h) ⟨rfl, trivial⟩ (by kernel_rfl)
inductive Zm6 where
 | L0 (v0 : (List Int)) (v1 : (List Int)) (v5 : Int)
def Zwh (v0 : (List Int)) (v1 : (List Int)) (v5 : Int) : LT Zm6 Bool :=
.len (cI .i64) v0<|.br (decide (v5 < (v0.length : Int))) (.idx (cI .i64) v0 v5 fun x3=>.idx (cI .i64) v1 v5 fun x5=>.br (x3 != x5) (.rt false)<|.g0 (.L0 v0 v1 (IntKind.wrap .i64 (v5 + 1))))<|.rt true
def Zaby (a0 : (List Int)) (a1 : (List Int)) : LT Zm6 Bool :=
.len (cI .i64) a0<|.len (cI .i64) a1<|.br ((a0.length : Int) != (a1.length : Int)) (.rt false)<|.g0 (.L0 a0 a1 0)
def Zabz : LF Zm6 Bool := ⟨14, [.t 4], false, fun | .L0 .. => [1,1,0,1,4],
 fun | .L0 v0 v1 v5 => ⟨26, [(0, (wL (cI .i64) v0)), (1, (wL (cI .i64) v1)), (5, (wI v5))], []⟩,
 fun r => [], fun r => (wB r), fun | .L0 v0 v1 v5 => Zwh v0 v1 v5⟩
def Z8h (a0 : (List Int)) (a1 : (List Int)) : Option Bool := Zabz.run (Zaby a0 a1)
theorem Zie (a0 : (List Int)) (a1 : (List Int)) {r : Bool} (h : Z8h a0 a1 = some r) : Fn PR 14 [(wL (cI .i64) a0), (wL (cI .i64) a1)] (wB r) := Zabz.fn h
def Zl0 (a0 : Int) (a1 : Zb) : LT Empty Bool :=
.call (Z2q a1 a0) fun x1=>.lb 1004<|.rt (!x1.2)
def Zl1 : LF Empty Bool := .z 44 [.t 3] false (fun r => []) (fun r => (wB r))
def Zij (a0 : Int) (a1 : Zb) : Option Bool := Zl1.run (Zl0 a0 a1)
theorem Zko (a0 : Int) (a1 : Zb) {r : Bool} (h : Zij a0 a1 = some r) : Fn PR 44 [(wI a0), (.vptr (Zn a1))] (wB r) := Zl1.fn h
inductive Zaw where
 | L0 (v0 : (List Int)) (w1_0 : Zb) (v7 : Int) (v8 : Int)
def Zbo (v0 : (List Int)) (w1_0 : Zb) (v7 : Int) (v8 : Int) : LT Zaw Int :=
.br (decide (v8 < v7)) (.idx (cI .i64) v0 v8 fun x2=>.call (Zko x2 w1_0) fun x4=>.br x4 (.rt v8)<|.g0 (.L0 v0 w1_0 v7 (IntKind.wrap .i64 (v8 + 1))))<|.rt (-1)
def Zc5 (a0 : (List Int)) (a1 : Zb) : LT Zaw Int :=
.len (cI .i64) a0<|.g0 (.L0 a0 a1 (a0.length : Int) 0)
def Zc6 : LF Zaw Int := ⟨76, [.t 4], false, fun | .L0 .. => [1,0,1,4],
 fun | .L0 v0 w1_0 v7 v8 => ⟨19, [(0, (wL (cI .i64) v0)), (1, (.fn 44 [(.vptr (Zn w1_0))])), (7, (wI v7)), (8, (wI v8))], []⟩,
 fun r => [], fun r => (wI r), fun | .L0 v0 w1_0 v7 v8 => Zbo v0 w1_0 v7 v8⟩
def Zb3 (a0 : (List Int)) (a1 : Zb) : Option Int := Zc6.run (Zc5 a0 a1)
theorem Zf7 (a0 : (List Int)) (a1 : Zb) {r : Int} (h : Zb3 a0 a1 = some r) : Fn PR 76 [(wL (cI .i64) a0), (.fn 44 [(.vptr (Zn a1))])] (wI r) := Zc6.fn h
inductive Zan where
 | L0 (v0 : (List Int)) (w1_0 : Zb) (v5 : Int) (v6 : Int)
def Za8 (v0 : (List Int)) (w1_0 : Zb) (v5 : Int) (v6 : Int) : LT Zan (List Int) :=
.lenO (cI .i64) v0<|.br (decide (v6 < (v0.length : Int))) (.idxR (cI .i64) v0 v6 fun x3=>.ldR (cI .i64) v0 x3 2<|.call (Zko x3 w1_0) fun x5=>.br (!x5) (.idxR (cI .i64) v0 v5 fun x8=>.setR (cI .i64) v0 v5 x8 x3 5 0 [(.int .i64 x3)] rfl fun x10=>.dr [.ahead 34, .relen 20000000, .stop]<|.us [6]<|.us [6]<|.us [6]<|.us [6]<|.us [6]<|.us [6]<|.g0 (.L0 x10 w1_0 (IntKind.wrap .i64 (v5 + 1)) (IntKind.wrap .i64 (v6 + 1))))<|.g0 (.L0 v0 w1_0 v5 (IntKind.wrap .i64 (v6 + 1))))<|.tlR (cI .i64) v0 v5 0 fun x18=>.clR (cI .i64) v0 x18 0<|.dr [.ahead 39, .relen 20000000, .stop]<|.us [2]<|.us [2]<|.us [2]<|.trR (cI .i64) x18 v5 fun x20=>.ret x20 [.relab 20000000 5000]
def Zcm (b0 : (List Int)) (a1 : Zb) : LT Zan (List Int) :=
.rl (cI .i64) b0<|.call (Zf7 b0 a1) fun x1=>.br (x1 == (-1)) (.ret b0 [.relab 0 5000])<|.go (.L0 b0 a1 x1 (IntKind.wrap .i64 (x1 + 1))) [.relab 0 20000000]
def Zcn : LF Zan (List Int) := ⟨36, [.t 4], true, fun | .L0 .. => [1,1,1,0,1,4],
 fun | .L0 v0 w1_0 v5 v6 => ⟨42, [(0, (wO (cI .i64) 20000000 v0)), (1, (.fn 44 [(.vptr (Zn w1_0))])), (5, (wI v5)), (6, (wI v6))], [(20000000, wR (cI .i64) 1 v0)]⟩,
 fun r => [(5000, wR (cI .i64) 1 r)], fun r => (wO (cI .i64) 5000 r), fun | .L0 v0 w1_0 v5 v6 => Za8 v0 w1_0 v5 v6⟩
def Zbd (b0 : (List Int)) (a1 : Zb) : Option (List Int) := Zcn.run (Zcm b0 a1)
theorem Zz (b0 : (List Int)) (a1 : Zb) {r : (List Int)} (h : Zbd b0 a1 = some r) : FnG PR 36 [(0, wR (cI .i64) 1 b0)] [(wO (cI .i64) 0 b0), (.fn 44 [(.vptr (Zn a1))])] [(5000, wR (cI .i64) 1 r)] (wO (cI .i64) 5000 r) := Zcn.fn h
def Zu6 (a0 : Zb) (a1 : (List Zd)) (a2 : Zo) (a3 : Z4) : LT Empty (List Int) :=
.lb 1004<|.lb 1006<|.lb 1007<|.br (a3.Kind == 2) (.lb 1018<|.callW (Zz [a2.Source] a0) [1018] 570000 (fun _ => ⟨rfl, Zed (cI .i64) (fun _ => rfl) _, trivial⟩) fun x3=>.ret x3 [.relab 575000 5000])<|.br (a3.Kind == 7) (.lb 1024<|.callW (Zz [a2.Event.Object] a0) [1024] 570000 (fun _ => ⟨rfl, Zed (cI .i64) (fun _ => rfl) _, trivial⟩) fun x7=>.ret x7 [.relab 575000 5000])<|.br (a3.Kind == 4) (.callF (Zxx a0 a1 a2.You a2.Source a3.Filter) 360000 fun x10=>.callW (Zz x10 a0) [365000] 570000 (fun _ => ⟨rfl, Zed (cI .i64) (fun _ => rfl) _, trivial⟩) fun x12=>.ret x12 [.relab 575000 5000])<|.br (a3.Kind == 3) (.call (Zu1 a2 a3.N) fun x15=>.lb 1010<|.cs x15.2 (.k4 4<|.br (x15.1.Object != 0) (.lb 1053<|.callW (Zz [x15.1.Object] a0) [1053] 570000 (fun _ => ⟨rfl, Zed (cI .i64) (fun _ => rfl) _, trivial⟩) fun x20=>.ret x20 [.relab 575000 5000])<|.dr [.ahead 56, .own 54 70000560 1, .stop]<|.callW (Zz ([] : (List Int)) a0) [70000560] 570000 (fun _ => ⟨rfl, Zed (cI .i64) (fun _ => rfl) _, trivial⟩) fun x22=>.ret x22 [.relab 575000 5000])<|.k4 4<|.kn [0]<|.dr [.ahead 56, .own 54 70000560 1, .stop]<|.callW (Zz ([] : (List Int)) a0) [70000560] 570000 (fun _ => ⟨rfl, Zed (cI .i64) (fun _ => rfl) _, trivial⟩) fun x24=>.ret x24 [.relab 575000 5000])<|.dr [.ahead 56, .own 54 70000560 1, .stop]<|.callW (Zz ([] : (List Int)) a0) [70000560] 570000 (fun _ => ⟨rfl, Zed (cI .i64) (fun _ => rfl) _, trivial⟩) fun x26=>.ret x26 [.relab 575000 5000]
def Zu7 : LF Empty (List Int) := .z 17 [.t 8] true (fun r => [(5000, wR (cI .i64) 1 r)]) (fun r => (wO (cI .i64) 5000 r))
def Zp6 (a0 : Zb) (a1 : (List Zd)) (a2 : Zo) (a3 : Z4) : Option (List Int) := Zu7.run (Zu6 a0 a1 a2 a3)
theorem Zq1 (a0 : Zb) (a1 : (List Zd)) (a2 : Zo) (a3 : Z4) {r : (List Int)} (h : Zp6 a0 a1 a2 a3 = some r) : FnG PR 17 [] [(wA (Zn a0)), (wL Zaa a1), (wA (Zdl a2)), (wA (Zbh a3))] [(5000, wR (cI .i64) 1 r)] (wO (cI .i64) 5000 r) := Zu7.fn h
inductive Zwi where
 | L0 (E0 : Zb) (v2 : Int)
def Ztb (E0 : Zb) (v2 : Int) : LT Zwi Bool :=
.br (decide (v2 ≤ 3)) (.dr [.lit]<|.apR Zi 128 E0.Objects [(⟨v2, 0, 0, 0, 0, false, false, false, false, 0, (⟨0, 0, 0⟩ : (A3 Int)), 0, (-1), (-1), false, 0, 0⟩ : Zf)] fun x3=>.dr [.lit]<|.apR (cI .i64) 8 E0.Battlefield [v2] fun x7=>.g0 (.L0 (⟨E0.Players, x3, x7, E0.Exile, E0.Stack, E0.Waiting, E0.Conts, E0.Turn, E0.Active, E0.Step, E0.Begun, E0.Priority, E0.Passes, E0.NextId, E0.NextStamp, E0.Seed, E0.Extra, E0.Over, E0.Winner⟩ : Zb) (IntKind.wrap .i64 (v2 + 1))))<|.lb 1003<|.dr [.lit]<|.lb 1005<|.dr [.lit]<|.lb 1006<|.rl Zi E0.Objects<|.rl (cI .i64) E0.Battlefield<|.rl (cI .i64) E0.Exile<|.rl Zay E0.Stack<|.rl Zaz E0.Waiting<|.rl Zbr E0.Conts<|.rl (cI .i64) E0.Extra<|.call (Zom E0 [(⟨([] : List UInt8), (⟨0, 0, (⟨0, 0, 0, 0, 0⟩ : (A5 Int))⟩ : Zl), 0, (⟨0, 1, ([] : (List (List UInt8)))⟩ : Z7), 4, 0, 0, ([] : (List Zk)), 0⟩ : Zd), (⟨([] : List UInt8), (⟨0, 0, (⟨0, 0, 0, 0, 0⟩ : (A5 Int))⟩ : Zl), 0, (⟨0, 1, ([] : (List (List UInt8)))⟩ : Z7), 4, 0, 0, ([] : (List Zk)), 0⟩ : Zd), (⟨([] : List UInt8), (⟨0, 0, (⟨0, 0, 0, 0, 0⟩ : (A5 Int))⟩ : Zl), 0, (⟨0, 1, ([] : (List (List UInt8)))⟩ : Z7), 4, 0, 0, ([] : (List Zk)), 0⟩ : Zd)] (⟨0, 2, (-3), [(⟨0, 1⟩ : Zx), (⟨3, 0⟩ : Zx)], (⟨0, 0, 0, 0, 0, 0, 0, 0, 0, 0, false, false, (⟨0, 0, 0⟩ : (A3 Int))⟩ : Zbi)⟩ : Zo) (⟨2, 2, 0, (⟨0, 1, 0, 1, 0, 0, 0, ([] : List UInt8), 0, 0, (⟨0, 0⟩ : Za), (⟨0, 0⟩ : Za), (⟨0, 0⟩ : Za)⟩ : Zc)⟩ : Zt)) fun x14=>.cs (x14 == 6) (.k5 1<|.rl Zi E0.Objects<|.rl (cI .i64) E0.Battlefield<|.rl (cI .i64) E0.Exile<|.rl Zay E0.Stack<|.rl Zaz E0.Waiting<|.rl Zbr E0.Conts<|.rl (cI .i64) E0.Extra<|.call (Zom E0 [(⟨([] : List UInt8), (⟨0, 0, (⟨0, 0, 0, 0, 0⟩ : (A5 Int))⟩ : Zl), 0, (⟨0, 1, ([] : (List (List UInt8)))⟩ : Z7), 4, 0, 0, ([] : (List Zk)), 0⟩ : Zd), (⟨([] : List UInt8), (⟨0, 0, (⟨0, 0, 0, 0, 0⟩ : (A5 Int))⟩ : Zl), 0, (⟨0, 1, ([] : (List (List UInt8)))⟩ : Z7), 4, 0, 0, ([] : (List Zk)), 0⟩ : Zd), (⟨([] : List UInt8), (⟨0, 0, (⟨0, 0, 0, 0, 0⟩ : (A5 Int))⟩ : Zl), 0, (⟨0, 1, ([] : (List (List UInt8)))⟩ : Z7), 4, 0, 0, ([] : (List Zk)), 0⟩ : Zd)] (⟨0, 2, (-3), [(⟨0, 1⟩ : Zx), (⟨3, 0⟩ : Zx)], (⟨0, 0, 0, 0, 0, 0, 0, 0, 0, 0, false, false, (⟨0, 0, 0⟩ : (A3 Int))⟩ : Zbi)⟩ : Zo) (⟨5, 0, 0, (⟨0, 0, 0, 0, 0, 0, 0, ([] : List UInt8), 0, 0, (⟨0, 0⟩ : Za), (⟨0, 0⟩ : Za), (⟨0, 0⟩ : Za)⟩ : Zc)⟩ : Zt)) fun x17=>.k2 1<|.cs (x17 == 7) (.k5 2<|.rl Zi E0.Objects<|.rl (cI .i64) E0.Battlefield<|.rl (cI .i64) E0.Exile<|.rl Zay E0.Stack<|.rl Zaz E0.Waiting<|.rl Zbr E0.Conts<|.rl (cI .i64) E0.Extra<|.call (Zom E0 [(⟨([] : List UInt8), (⟨0, 0, (⟨0, 0, 0, 0, 0⟩ : (A5 Int))⟩ : Zl), 0, (⟨0, 1, ([] : (List (List UInt8)))⟩ : Z7), 4, 0, 0, ([] : (List Zk)), 0⟩ : Zd), (⟨([] : List UInt8), (⟨0, 0, (⟨0, 0, 0, 0, 0⟩ : (A5 Int))⟩ : Zl), 0, (⟨0, 1, ([] : (List (List UInt8)))⟩ : Z7), 4, 0, 0, ([] : (List Zk)), 0⟩ : Zd), (⟨([] : List UInt8), (⟨0, 0, (⟨0, 0, 0, 0, 0⟩ : (A5 Int))⟩ : Zl), 0, (⟨0, 1, ([] : (List (List UInt8)))⟩ : Z7), 4, 0, 0, ([] : (List Zk)), 0⟩ : Zd)] (⟨0, 2, (-3), [(⟨0, 1⟩ : Zx), (⟨3, 0⟩ : Zx)], (⟨0, 0, 0, 0, 0, 0, 0, 0, 0, 0, false, false, (⟨0, 0, 0⟩ : (A3 Int))⟩ : Zbi)⟩ : Zo) (⟨3, 0, 0, (⟨0, 0, 0, 0, 0, 0, 0, ([] : List UInt8), 0, 0, (⟨0, 0⟩ : Za), (⟨0, 0⟩ : Za), (⟨0, 0⟩ : Za)⟩ : Zc)⟩ : Zt)) fun x20=>.k2 2<|.cs (x20 == 4) (.k5 3<|.rl Zi E0.Objects<|.rl (cI .i64) E0.Battlefield<|.rl (cI .i64) E0.Exile<|.rl Zay E0.Stack<|.rl Zaz E0.Waiting<|.rl Zbr E0.Conts<|.rl (cI .i64) E0.Extra<|.call (Zom E0 [(⟨([] : List UInt8), (⟨0, 0, (⟨0, 0, 0, 0, 0⟩ : (A5 Int))⟩ : Zl), 0, (⟨0, 1, ([] : (List (List UInt8)))⟩ : Z7), 4, 0, 0, ([] : (List Zk)), 0⟩ : Zd), (⟨([] : List UInt8), (⟨0, 0, (⟨0, 0, 0, 0, 0⟩ : (A5 Int))⟩ : Zl), 0, (⟨0, 1, ([] : (List (List UInt8)))⟩ : Z7), 4, 0, 0, ([] : (List Zk)), 0⟩ : Zd), (⟨([] : List UInt8), (⟨0, 0, (⟨0, 0, 0, 0, 0⟩ : (A5 Int))⟩ : Zl), 0, (⟨0, 1, ([] : (List (List UInt8)))⟩ : Z7), 4, 0, 0, ([] : (List Zk)), 0⟩ : Zd)] (⟨0, 2, (-3), [(⟨0, 1⟩ : Zx), (⟨3, 0⟩ : Zx)], (⟨0, 0, 0, 0, 0, 0, 0, 0, 0, 0, false, false, (⟨0, 0, 0⟩ : (A3 Int))⟩ : Zbi)⟩ : Zo) (⟨1, 0, 0, (⟨0, 0, 0, 0, 0, 0, 0, ([] : List UInt8), 0, 0, (⟨0, 0⟩ : Za), (⟨0, 0⟩ : Za), (⟨0, 0⟩ : Za)⟩ : Zc)⟩ : Zt)) fun x23=>.k2 3<|.cs (x23 == 0) (.k5 4<|.rl Zi E0.Objects<|.rl (cI .i64) E0.Battlefield<|.rl (cI .i64) E0.Exile<|.rl Zay E0.Stack<|.rl Zaz E0.Waiting<|.rl Zbr E0.Conts<|.rl (cI .i64) E0.Extra<|.callS (Zjz E0 [(⟨([] : List UInt8), (⟨0, 0, (⟨0, 0, 0, 0, 0⟩ : (A5 Int))⟩ : Zl), 0, (⟨0, 1, ([] : (List (List UInt8)))⟩ : Z7), 4, 0, 0, ([] : (List Zk)), 0⟩ : Zd), (⟨([] : List UInt8), (⟨0, 0, (⟨0, 0, 0, 0, 0⟩ : (A5 Int))⟩ : Zl), 0, (⟨0, 1, ([] : (List (List UInt8)))⟩ : Z7), 4, 0, 0, ([] : (List Zk)), 0⟩ : Zd), (⟨([] : List UInt8), (⟨0, 0, (⟨0, 0, 0, 0, 0⟩ : (A5 Int))⟩ : Zl), 0, (⟨0, 1, ([] : (List (List UInt8)))⟩ : Z7), 4, 0, 0, ([] : (List Zk)), 0⟩ : Zd)] (⟨0, 2, (-3), [(⟨0, 1⟩ : Zx), (⟨3, 0⟩ : Zx)], (⟨0, 0, 0, 0, 0, 0, 0, 0, 0, 0, false, false, (⟨0, 0, 0⟩ : (A3 Int))⟩ : Zbi)⟩ : Zo) (⟨3, 1, (⟨0, 0, 0, 0, 0, 0, 0, ([] : List UInt8), 0, 0, (⟨0, 0⟩ : Za), (⟨0, 0⟩ : Za), (⟨0, 0⟩ : Za)⟩ : Zc)⟩ : Z4)) 770000 (fun _ => ⟨rfl, Zed (cI .i64) (fun _ => rfl) _, trivial⟩) fun x26=>.kg 4<|.dr [.lit]<|.kg 4<|.rl (cI .i64) x26<|.call (Zie x26 [1]) fun x29=>.kg 4<|.cs x29 (.k5 5<|.rl Zi E0.Objects<|.rl (cI .i64) E0.Battlefield<|.rl (cI .i64) E0.Exile<|.rl Zay E0.Stack<|.rl Zaz E0.Waiting<|.rl Zbr E0.Conts<|.rl (cI .i64) E0.Extra<|.callS (Zjz E0 [(⟨([] : List UInt8), (⟨0, 0, (⟨0, 0, 0, 0, 0⟩ : (A5 Int))⟩ : Zl), 0, (⟨0, 1, ([] : (List (List UInt8)))⟩ : Z7), 4, 0, 0, ([] : (List Zk)), 0⟩ : Zd), (⟨([] : List UInt8), (⟨0, 0, (⟨0, 0, 0, 0, 0⟩ : (A5 Int))⟩ : Zl), 0, (⟨0, 1, ([] : (List (List UInt8)))⟩ : Z7), 4, 0, 0, ([] : (List Zk)), 0⟩ : Zd), (⟨([] : List UInt8), (⟨0, 0, (⟨0, 0, 0, 0, 0⟩ : (A5 Int))⟩ : Zl), 0, (⟨0, 1, ([] : (List (List UInt8)))⟩ : Z7), 4, 0, 0, ([] : (List Zk)), 0⟩ : Zd)] (⟨0, 2, (-3), [(⟨0, 1⟩ : Zx), (⟨3, 0⟩ : Zx)], (⟨0, 0, 0, 0, 0, 0, 0, 0, 0, 0, false, false, (⟨0, 0, 0⟩ : (A3 Int))⟩ : Zbi)⟩ : Zo) (⟨6, 0, (⟨0, 0, 0, 0, 0, 0, 0, ([] : List UInt8), 0, 0, (⟨0, 0⟩ : Za), (⟨0, 0⟩ : Za), (⟨0, 0⟩ : Za)⟩ : Zc)⟩ : Z4)) 860000 (fun _ => ⟨rfl, Zed (cI .i64) (fun _ => rfl) _, trivial⟩) fun x32=>.kg 5<|.dr [.lit]<|.kg 5<|.rl (cI .i64) x32<|.call (Zie x32 [0, 1]) fun x35=>.kg 5<|.cs x35 (.k5 6<|.rl Zi E0.Objects<|.rl (cI .i64) E0.Battlefield<|.rl (cI .i64) E0.Exile<|.rl Zay E0.Stack<|.rl Zaz E0.Waiting<|.rl Zbr E0.Conts<|.rl (cI .i64) E0.Extra<|.callS (Zq1 E0 [(⟨([] : List UInt8), (⟨0, 0, (⟨0, 0, 0, 0, 0⟩ : (A5 Int))⟩ : Zl), 0, (⟨0, 1, ([] : (List (List UInt8)))⟩ : Z7), 4, 0, 0, ([] : (List Zk)), 0⟩ : Zd), (⟨([] : List UInt8), (⟨0, 0, (⟨0, 0, 0, 0, 0⟩ : (A5 Int))⟩ : Zl), 0, (⟨0, 1, ([] : (List (List UInt8)))⟩ : Z7), 4, 0, 0, ([] : (List Zk)), 0⟩ : Zd), (⟨([] : List UInt8), (⟨0, 0, (⟨0, 0, 0, 0, 0⟩ : (A5 Int))⟩ : Zl), 0, (⟨0, 1, ([] : (List (List UInt8)))⟩ : Z7), 4, 0, 0, ([] : (List Zk)), 0⟩ : Zd)] (⟨0, 2, (-3), [(⟨0, 1⟩ : Zx), (⟨3, 0⟩ : Zx)], (⟨0, 0, 0, 0, 0, 0, 0, 0, 0, 0, false, false, (⟨0, 0, 0⟩ : (A3 Int))⟩ : Zbi)⟩ : Zo) (⟨3, 2, (⟨0, 0, 0, 0, 0, 0, 0, ([] : List UInt8), 0, 0, (⟨0, 0⟩ : Za), (⟨0, 0⟩ : Za), (⟨0, 0⟩ : Za)⟩ : Zc)⟩ : Z4)) 950000 (fun _ => ⟨rfl, Zed (cI .i64) (fun _ => rfl) _, trivial⟩) fun x38=>.kg 6<|.dr [.lit]<|.kg 6<|.rl (cI .i64) x38<|.call (Zie x38 [3]) fun x41=>.kg 6<|.cs x41 (.k5 7<|.rl Zi E0.Objects<|.rl (cI .i64) E0.Battlefield<|.rl (cI .i64) E0.Exile<|.rl Zay E0.Stack<|.rl Zaz E0.Waiting<|.rl Zbr E0.Conts<|.rl (cI .i64) E0.Extra<|.callS (Zq1 E0 [(⟨([] : List UInt8), (⟨0, 0, (⟨0, 0, 0, 0, 0⟩ : (A5 Int))⟩ : Zl), 0, (⟨0, 1, ([] : (List (List UInt8)))⟩ : Z7), 4, 0, 0, ([] : (List Zk)), 0⟩ : Zd), (⟨([] : List UInt8), (⟨0, 0, (⟨0, 0, 0, 0, 0⟩ : (A5 Int))⟩ : Zl), 0, (⟨0, 1, ([] : (List (List UInt8)))⟩ : Z7), 4, 0, 0, ([] : (List Zk)), 0⟩ : Zd), (⟨([] : List UInt8), (⟨0, 0, (⟨0, 0, 0, 0, 0⟩ : (A5 Int))⟩ : Zl), 0, (⟨0, 1, ([] : (List (List UInt8)))⟩ : Z7), 4, 0, 0, ([] : (List Zk)), 0⟩ : Zd)] (⟨0, 2, (-3), [(⟨0, 1⟩ : Zx), (⟨3, 0⟩ : Zx)], (⟨0, 0, 0, 0, 0, 0, 0, 0, 0, 0, false, false, (⟨0, 0, 0⟩ : (A3 Int))⟩ : Zbi)⟩ : Zo) (⟨2, 0, (⟨0, 0, 0, 0, 0, 0, 0, ([] : List UInt8), 0, 0, (⟨0, 0⟩ : Za), (⟨0, 0⟩ : Za), (⟨0, 0⟩ : Za)⟩ : Zc)⟩ : Z4)) 1040000 (fun _ => ⟨rfl, Zed (cI .i64) (fun _ => rfl) _, trivial⟩) fun x44=>.kg 7<|.dr [.lit]<|.kg 7<|.rl (cI .i64) x44<|.call (Zie x44 [2]) fun x47=>.kg 7<|.rt x47)<|.k8 7<|.rt false)<|.k8 6<|.b8 false<|.rt false)<|.k8 5<|.b16 false<|.rt false)<|.k8 4<|.b16 false<|.b8 false<|.rt false)<|.k5 3<|.k2 3<|.b16 false<|.b16 false<|.rt false)<|.k5 2<|.k2 2<|.b16 false<|.b16 false<|.b5 false<|.b2 false<|.rt false)<|.k5 1<|.k2 1<|.b16 false<|.b16 false<|.b8 false<|.b5 false<|.kb false<|.rt false
def Z6l : LT Zwi Bool :=
.dr [.lit]<|.dr [.lit]<|.lb 1001<|.go (.L0 (⟨[(⟨7, 0, 0, (⟨0, 0, 0, 0, 0, 0⟩ : (A6 Int)), false, false, ([] : (List Int)), ([] : (List Int)), ([] : (List Int))⟩ : Zas), (⟨20, 0, 0, (⟨0, 0, 0, 0, 0, 0⟩ : (A6 Int)), false, false, ([] : (List Int)), [4], ([] : (List Int))⟩ : Zas)], ([] : (List Zf)), ([] : (List Int)), ([] : (List Int)), ([] : (List Zgv)), ([] : (List Zic)), ([] : (List Znu)), 0, 0, 0, false, 0, 0, 5, 0, 0, ([] : (List Int)), 0, 0⟩ : Zb) 1) [.relab 1001 30000000, .ownb 30000000 1 40000001 19, .ownb 30000000 2 40000002 1, .ownb 30000000 3 40000003 1, .ownb 30000000 4 40000004 94, .ownb 30000000 5 40000005 89, .ownb 30000000 6 40000006 6, .ownb 30000000 16 40000016 1]
def Zwj : LF Zwi Bool := ⟨10, [.t 0], false, fun | .L0 .. => [1,1,0,1,4],
 fun | .L0 E0 v2 => ⟨107, [(1, (.bptr 30000000 0)), (2, (wI v2))], [(30000000, .box [(wL Z6 E0.Players), (wO Zi 40000001 E0.Objects), (wO (cI .i64) 40000002 E0.Battlefield), (wO (cI .i64) 40000003 E0.Exile), (wO Zay 40000004 E0.Stack), (wO Zaz 40000005 E0.Waiting), (wO Zbr 40000006 E0.Conts), (wI E0.Turn), (wI E0.Active), (wI E0.Step), (wB E0.Begun), (wI E0.Priority), (wI E0.Passes), (wI E0.NextId), (wI E0.NextStamp), (.t (.int .u64 E0.Seed)), (wO (cI .i64) 40000016 E0.Extra), (wI E0.Over), (wI E0.Winner)]), (40000001, wR Zi 19 E0.Objects), (40000002, wR (cI .i64) 1 E0.Battlefield), (40000003, wR (cI .i64) 1 E0.Exile), (40000004, wR Zay 94 E0.Stack), (40000005, wR Zaz 89 E0.Waiting), (40000006, wR Zbr 6 E0.Conts), (40000016, wR (cI .i64) 1 E0.Extra)]⟩,
 fun r => [], fun r => (wB r), fun | .L0 E0 v2 => Ztb E0 v2⟩
def Z2s : Option Bool := Zwj.run (Z6l)
theorem Zm7 {r : Bool} (h : Z2s = some r) : Fn PR 10 [] (wB r) := Zwj.fn h
def Z6m (a0 : Int) : LT Empty Int :=
.br (decide (a0 > 1000000)) (.rt 1000000)<|.br (decide (a0 < (-1000000))) (.rt (-1000000))<|.rt a0
def Z6n : LF Empty Int := .z 73 [.t 2] false (fun r => []) (fun r => (wI r))
def Z2t (a0 : Int) : Option Int := Z6n.run (Z6m a0)
theorem Zhb (a0 : Int) {r : Int} (h : Z2t a0 = some r) : Fn PR 73 [(wI a0)] (wI r) := Z6n.fn h
def Zae3 (a0 : Int) (a1 : Int) : LT Empty Int :=
.call (Zhb a0) fun x1=>.call (Zhb a1) fun x3=>.call (Zhb (IntKind.wrap .i64 (x1 + x3))) fun x7=>.rt x7
def Zae4 : LF Empty Int := .z 100 [.t 4] false (fun r => []) (fun r => (wI r))
def Zadg (a0 : Int) (a1 : Int) : Option Int := Zae4.run (Zae3 a0 a1)
theorem Zzb (a0 : Int) (a1 : Int) {r : Int} (h : Zadg a0 a1 = some r) : Fn PR 100 [(wI a0), (wI a1)] (wI r) := Zae4.fn h
inductive Zkp where
 | L0 (v0 : (List Int)) (v1 : Int) (v5 : Int)
def Ztc (v0 : (List Int)) (v1 : Int) (v5 : Int) : LT Zkp Int :=
.len (cI .i64) v0<|.br (decide (v5 < (v0.length : Int))) (.idx (cI .i64) v0 v5 fun x3=>.br (x3 == v1) (.rt v5)<|.g0 (.L0 v0 v1 (IntKind.wrap .i64 (v5 + 1))))<|.rt (-1)
def Z6o (a0 : (List Int)) (a1 : Int) : LT Zkp Int :=
.g0 (.L0 a0 a1 0)
def Z6p : LF Zkp Int := ⟨52, [.t 4], false, fun | .L0 .. => [1,0,1,4],
 fun | .L0 v0 v1 v5 => ⟨19, [(0, (wL (cI .i64) v0)), (1, (wI v1)), (5, (wI v5))], []⟩,
 fun r => [], fun r => (wI r), fun | .L0 v0 v1 v5 => Ztc v0 v1 v5⟩
def Z2u (a0 : (List Int)) (a1 : Int) : Option Int := Z6p.run (Z6o a0 a1)
theorem Zaj6 (a0 : (List Int)) (a1 : Int) {r : Int} (h : Z2u a0 a1 = some r) : Fn PR 52 [(wL (cI .i64) a0), (wI a1)] (wI r) := Z6p.fn h
def Zae5 (a0 : (List Int)) (a1 : Int) : LT Empty Bool :=
.call (Zaj6 a0 a1) fun x1=>.rt (decide (x1 ≥ 0))
def Zae6 : LF Empty Bool := .z 24 [.t 4] false (fun r => []) (fun r => (wB r))
def Zadh (a0 : (List Int)) (a1 : Int) : Option Bool := Zae6.run (Zae5 a0 a1)
theorem Zaob (a0 : (List Int)) (a1 : Int) {r : Bool} (h : Zadh a0 a1 = some r) : Fn PR 24 [(wL (cI .i64) a0), (wI a1)] (wB r) := Zae6.fn h
def Zaft (a0 : Int) (a1 : Int) : LT Empty Bool :=
.rt ((Zbf .and .i64 a0 a1) != 0)
def Z0g : LF Empty Bool := .z 118 [.t 4] false (fun r => []) (fun r => (wB r))
def Z6q (a0 : Int) (a1 : Int) : Option Bool := Z0g.run (Zaft a0 a1)
theorem Zjo (a0 : Int) (a1 : Int) {r : Bool} (h : Z6q a0 a1 = some r) : Fn PR 118 [(wI a0), (wI a1)] (wB r) := Z0g.fn h
def Z2v (a0 : Z7) (a1 : (List UInt8)) : LT Empty Bool :=
.lb 1002<|.call (Zrz a0.Subs a1) fun x1=>.rt (decide (x1 ≥ 0))
def Z2w : LF Empty Bool := .z 119 [.t 4] false (fun r => []) (fun r => (wB r))
def Zzc (a0 : Z7) (a1 : (List UInt8)) : Option Bool := Z2w.run (Z2v a0 a1)
theorem Zafu (a0 : Z7) (a1 : (List UInt8)) {r : Bool} (h : Zzc a0 a1 = some r) : Fn PR 119 [(wA (Zff a0)), (wS a1)] (wB r) := Z2w.fn h
def Zaqu (a0 : Int) (a1 : Int) : LT Empty Bool :=
.rt ((Zbf .and .i64 a0 a1) == a1)
def Zae7 : LF Empty Bool := .z 120 [.t 4] false (fun r => []) (fun r => (wB r))
def Zamz (a0 : Int) (a1 : Int) : Option Bool := Zae7.run (Zaqu a0 a1)
theorem Zab0 (a0 : Int) (a1 : Int) {r : Bool} (h : Zamz a0 a1 = some r) : Fn PR 120 [(wI a0), (wI a1)] (wB r) := Zae7.fn h
def Z6r (a0 : Za) (a1 : Int) : LT Empty Bool :=
.lb 1002<|.br (a0.Kind == 0) (.rt true)<|.br (a0.Kind == 1) (.rt (decide (a1 ≥ a0.N)))<|.br (a0.Kind == 2) (.rt (decide (a1 ≤ a0.N)))<|.br (a0.Kind == 3) (.rt (a1 == a0.N))<|.rt false
def Z6s : LF Empty Bool := .z 159 [.t 4] false (fun r => []) (fun r => (wB r))
def Z2x (a0 : Za) (a1 : Int) : Option Bool := Z6s.run (Z6r a0 a1)
theorem Zi6 (a0 : Za) (a1 : Int) {r : Bool} (h : Z2x a0 a1 = some r) : Fn PR 159 [(wA (Zb8 a0)), (wI a1)] (wB r) := Z6s.fn h
def Zae8 (a0 : Int) (a1 : Int) : LT Empty Int :=
.call (Zhb a0) fun x1=>.call (Zhb a1) fun x3=>.call (Zhb (IntKind.wrap .i64 (x1 * x3))) fun x7=>.rt x7
def Zae9 : LF Empty Int := .z 33 [.t 4] false (fun r => []) (fun r => (wI r))
def Zadi (a0 : Int) (a1 : Int) : Option Int := Zae9.run (Zae8 a0 a1)
theorem Zab1 (a0 : Int) (a1 : Int) {r : Int} (h : Zadi a0 a1 = some r) : Fn PR 33 [(wI a0), (wI a1)] (wI r) := Zae9.fn h
inductive Zwk where
 | L0 (v1 : Int) (E0 : Zl) (v5 : Int) (v6 : Int)
def Zi7 (v1 : Int) (E0 : Zl) (v5 : Int) (v6 : Int) : LT Zwk Int :=
.br (decide (v6 < 5)) (.idA (Ze.int .i64) (A5.list E0.Color) v6 (bx (Zah E0)) 2 7 fun x2=>.ldC (Ze.int .i64) 20 x2 0<|.call (Zzb v5 x2) fun x4=>.g0 (.L0 v1 E0 x4 (IntKind.wrap .i64 (v6 + 1))))<|.br (decide (v1 < 0)) (.call (Zab1 E0.X 0) fun x9=>.call (Zzb v5 x9) fun x11=>.rt x11)<|.call (Zab1 E0.X v1) fun x13=>.call (Zzb v5 x13) fun x15=>.rt x15
def Z6t (a0 : Zl) (a1 : Int) : LT Zwk Int :=
.lb 1002<|.call (Zuf a0) fun x1=>.br (!x1) (.rt 0)<|.go (.L0 a1 a0 a0.Generic 0) [.relab 1002 30000000]
def Zon : LF Zwk Int := ⟨160, [.t 4], false, fun | .L0 .. => [1,1,1,0,1,4],
 fun | .L0 v1 E0 v5 v6 => ⟨30, [(1, (wI v1)), (2, (.bptr 30000000 0)), (5, (wI v5)), (6, (wI v6))], [(30000000, .box (bx (Zah E0)))]⟩,
 fun r => [], fun r => (wI r), fun | .L0 v1 E0 v5 v6 => Zi7 v1 E0 v5 v6⟩
def Z2y (a0 : Zl) (a1 : Int) : Option Int := Zon.run (Z6t a0 a1)
theorem Ztd (a0 : Zl) (a1 : Int) {r : Int} (h : Z2y a0 a1 = some r) : Fn PR 160 [(wA (Zah a0)), (wI a1)] (wI r) := Zon.fn h
inductive Zte where
 | L0 (E0 : Zd) (E1 : Zc) (v5 : Bool)
def Zgk (E0 : Zd) (E1 : Zc) (v5 : Bool) : LT Zte Bool :=
.cs (E1.Tough.Kind != 0) (.k2 0<|.cs v5 (.k5 1<|.call (Zi6 E1.Tough E0.Tough) fun x3=>.kg 0<|.kg 1<|.k2 0<|.br (!x3) (.rt false)<|.call (Ztd E0.Cost 0) fun x6=>.call (Zi6 E1.Value x6) fun x8=>.rt x8)<|.k5 1<|.kg 0<|.kg 1<|.k2 0<|.br (!false) (.rt false)<|.call (Ztd E0.Cost 0) fun x11=>.call (Zi6 E1.Value x11) fun x13=>.rt x13)<|.k5 0<|.kn [0]<|.call (Ztd E0.Cost 0) fun x15=>.call (Zi6 E1.Value x15) fun x17=>.rt x17
def Z2z (a0 : Zd) (a1 : Zc) : LT Zte Bool :=
.lb 1002<|.lb 1003<|.call (Zjo a0.Line.Types 1) fun x1=>.cs (a1.Power.Kind != 0) (.k2 0<|.cs x1 (.k5 1<|.call (Zi6 a1.Power a0.Power) fun x5=>.kg 0<|.kg 1<|.k2 0<|.br (!x5) (.rt false)<|.jn 0 (.L0 a0 a1 x1) [.relab 1002 30000000, .relab 1003 30000001] (Zgk a0 a1 x1))<|.k5 1<|.kg 0<|.kg 1<|.k2 0<|.br (!false) (.rt false)<|.jn 0 (.L0 a0 a1 x1) [.relab 1002 30000000, .relab 1003 30000001] (Zgk a0 a1 x1))<|.k5 0<|.kn [0]<|.jn 0 (.L0 a0 a1 x1) [.relab 1002 30000000, .relab 1003 30000001] (Zgk a0 a1 x1)
def Ztf : LF Zte Bool := ⟨121, [.t 4], false, fun | .L0 .. => [1,1,1],
 fun | .L0 E0 E1 v5 => ⟨46, [(2, (.bptr 30000000 0)), (3, (.bptr 30000001 0)), (5, (wB v5))], [(30000000, .box (bx (Zaa E0))), (30000001, .box (bx (Zg E1)))]⟩,
 fun r => [], fun r => (wB r), fun | .L0 E0 E1 v5 => Zgk E0 E1 v5⟩
def Zzd (a0 : Zd) (a1 : Zc) : Option Bool := Ztf.run (Z2z a0 a1)
theorem Z0h (a0 : Zd) (a1 : Zc) {r : Bool} (h : Zzd a0 a1 = some r) : Fn PR 121 [(wA (Zaa a0)), (wA (Zg a1))] (wB r) := Ztf.fn h
inductive Ztg where
 | L0 (E0 : Zd) (E1 : Zc)
 | L1 (E0 : Zd) (E1 : Zc)
def Zh6 (E0 : Zd) (E1 : Zc) : LT Ztg Bool :=
.cs (!(E1.Sub == ([] : List UInt8))) (.k5 0<|.call (Zafu E0.Line E1.Sub) fun x2=>.k2 0<|.cs (!x2) (.k5 1<|.k2 1<|.kn [0]<|.rt false)<|.k5 1<|.call (Zab0 E0.Keys E1.Keys) fun x5=>.k2 1<|.br (!x5) (.rt false)<|.call (Z0h E0 E1) fun x8=>.rt x8)<|.k5 0<|.k2 0<|.b5 false<|.call (Zab0 E0.Keys E1.Keys) fun x10=>.b2 false<|.br (!x10) (.rt false)<|.call (Z0h E0 E1) fun x13=>.rt x13
def Zafv (E0 : Zd) (E1 : Zc) : LT Ztg Bool :=
.cs (E1.Colors != 0) (.k5 0<|.call (Zjo E0.Colors E1.Colors) fun x2=>.k2 0<|.cs (!x2) (.k5 1<|.kg 1<|.kn [0]<|.rt false)<|.k5 1<|.call (Zjo E0.Colors E1.NotColors) fun x5=>.kg 1<|.br x5 (.rt false)<|.j0 (.L1 E0 E1) (Zh6 E0 E1))<|.k5 0<|.k2 0<|.b5 false<|.call (Zjo E0.Colors E1.NotColors) fun x8=>.kb false<|.br x8 (.rt false)<|.j0 (.L1 E0 E1) (Zh6 E0 E1)
def Zaj7 : LF Ztg Bool := ⟨74, [.t 10], false, fun | .L0 .. => [1,1,1] | .L1 .. => [1,1,1,1],
 fun | .L0 E0 E1 => ⟨107, [(6, (.bptr 30000000 0)), (9, (.bptr 30000001 0))], [(30000000, .box (bx (Zaa E0))), (30000001, .box (bx (Zg E1)))]⟩ | .L1 E0 E1 => ⟨107, [(6, (.bptr 30000000 0)), (9, (.bptr 30000001 0))], [(30000000, .box (bx (Zaa E0))), (30000001, .box (bx (Zg E1)))]⟩,
 fun r => [], fun r => (wB r), fun | .L0 E0 E1 => Zafv E0 E1 | .L1 E0 E1 => Zh6 E0 E1⟩
end
end Go.PW
