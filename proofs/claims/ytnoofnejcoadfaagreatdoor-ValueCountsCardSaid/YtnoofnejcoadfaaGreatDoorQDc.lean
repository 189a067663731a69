import Derived.Test.YtnoofnejcoadfaaGreatDoorQDb
set_option linter.all false
set_option maxRecDepth 100000
namespace Go.PW
open Go.RowKit
noncomputable section
inductive Zin where
 | L0 (v1 : Int) (E0 : Zc) (E1 : Zc) (v6 : (List Int)) (v7 : Int)
 | L1 (v1 : Int) (E0 : Zc) (E1 : Zc) (v6 : (List Int)) (v8 : (List Int)) (v9 : Int) (v10 : Int)
def Zuk (v1 : Int) (E0 : Zc) (E1 : Zc) (v6 : (List Int)) (v7 : Int) : LT Zin (Zc × (List Int)) :=
.len Zj E0.L<|.br (decide (v7 < (E0.L.length : Int))) (.idx Zj E0.L v7 fun x3=>.call (Zao4 x3 v1) fun x5=>.br x5 (.dr [.lit]<|.apR (cI .i64) 8 v6 [v7] fun x9=>.g0 (.L0 v1 E0 E1 x9 (IntKind.wrap .i64 (v7 + 1))))<|.g0 (.L0 v1 E0 E1 v6 (IntKind.wrap .i64 (v7 + 1))))<|.lb 1035<|.lenO (cI .i64) v6<|.go (.L1 v1 E0 E1 v6 ([] : (List Int)) (v6.length : Int) 0) [.relab 1035 20000008]
def Zul (v1 : Int) (E0 : Zc) (E1 : Zc) (v6 : (List Int)) (v8 : (List Int)) (v9 : Int) (v10 : Int) : LT Zin (Zc × (List Int)) :=
.br (decide (v10 < v9)) (.rl (cI .i64) v6<|.call (Zazd E0 v6 v1) fun x2=>.dr [.lit]<|.apR (cI .i64) 8 v8 [x2] fun x5=>.call (Z3z E0 x2 v1) fun x8=>.rl (cI .i64) v6<|.callS (Zamh v6 x2) 580000 (fun _ => ⟨rfl, Ze9 (cI .i64) (fun _ => rfl) _, trivial⟩) fun x10=>.go (.L1 v1 x8 E1 x10 x5 v9 (IntKind.wrap .i64 (v10 + 1))) [.pick [1, 2, 4, 6, 8, 9, 10] [585000, 30000000, 20000008, 30000001, 40000100, 40000101, 40000102, 40000103, 40000104, 40000105, 40000106, 40000116, 40000119, 40000120, 40000121, 40000122, 40000123], .relab 585000 20000006])<|.ret (E0, v8) [.relab 20000008 5100]
def Zaa4 (a0 : Zc) (a1 : Int) : LT Zin (Zc × (List Int)) :=
.lb 1002<|.lb 1004<|.br (a1 == 7) (.callF (Zal2 a0) 160000 fun x2=>.lb 1016<|.rl Zi x2.All<|.go (.L0 a1 x2 (⟨(⟨([] : (List Za1)), ([] : (List Zf)), ([] : (List Int)), ([] : (List Int)), ([] : (List Zeg)), ([] : (List Zd8)), ([] : (List Zgz)), 0, 0, 0, false, 0, 0, 0, 0, 0, ([] : (List Int)), 0, 0⟩ : Zb), ([] : (List Za)), ([] : (List Zm)), ([] : (List Bool)), ([] : (List (List Int))), ([] : (List Bool))⟩ : Zc) ([] : (List Int)) 0) [.relab 1002 30000000, .relab 1004 30000001, .relab 1016 20000006, .frz 165019, .ownb 30000001 0 40000100 14, .ownb 30000001 1 40000101 19, .ownb 30000001 2 40000102 1, .ownb 30000001 3 40000103 1, .ownb 30000001 4 40000104 94, .ownb 30000001 5 40000105 89, .ownb 30000001 6 40000106 6, .ownb 30000001 16 40000116 1, .ownb 30000001 19 40000119 17, .ownb 30000001 20 40000120 23, .ownb 30000001 21 40000121 1, .ownb 30000001 22 40000122 1, .ownb 30000001 23 40000123 1])<|.lb 1016<|.go (.L0 a1 a0 (⟨(⟨([] : (List Za1)), ([] : (List Zf)), ([] : (List Int)), ([] : (List Int)), ([] : (List Zeg)), ([] : (List Zd8)), ([] : (List Zgz)), 0, 0, 0, false, 0, 0, 0, 0, 0, ([] : (List Int)), 0, 0⟩ : Zb), ([] : (List Za)), ([] : (List Zm)), ([] : (List Bool)), ([] : (List (List Int))), ([] : (List Bool))⟩ : Zc) ([] : (List Int)) 0) [.relab 1002 30000000, .relab 1004 30000001, .relab 1016 20000006, .ownb 30000001 0 40000100 14, .ownb 30000001 1 40000101 19, .ownb 30000001 2 40000102 1, .ownb 30000001 3 40000103 1, .ownb 30000001 4 40000104 94, .ownb 30000001 5 40000105 89, .ownb 30000001 6 40000106 6, .ownb 30000001 16 40000116 1, .ownb 30000001 19 40000119 17, .ownb 30000001 20 40000120 23, .ownb 30000001 21 40000121 1, .ownb 30000001 22 40000122 1, .ownb 30000001 23 40000123 1]
def Zaa5 : LF Zin (Zc × (List Int)) := ⟨28, [.c 4 88 true 24, .t 5], true, fun | .L0 .. => [1,1,1,0,1,4] | .L1 .. => [1,1,1,1,1,1,0,1,4],
 fun | .L0 v1 E0 E1 v6 v7 => ⟨60, [(1, (wI v1)), (2, (.bptr 30000000 0)), (4, (.bptr 30000001 0)), (6, (wO (cI .i64) 20000006 v6)), (7, (wI v7))], [(30000000, .box (bx (Z5 E0))), (30000001, .box [(wO Z2 40000100 E1.S.Players), (wO Zh 40000101 E1.S.Objects), (wO (cI .i64) 40000102 E1.S.Battlefield), (wO (cI .i64) 40000103 E1.S.Exile), (wO Zal 40000104 E1.S.Stack), (wO Zae 40000105 E1.S.Waiting), (wO Zaq 40000106 E1.S.Conts), (wI E1.S.Turn), (wI E1.S.Active), (wI E1.S.Step), (wB E1.S.Begun), (wI E1.S.Priority), (wI E1.S.Passes), (wI E1.S.NextId), (wI E1.S.NextStamp), (.t (.int .u64 E1.S.Seed)), (wO (cI .i64) 40000116 E1.S.Extra), (wI E1.S.Over), (wI E1.S.Winner), (wO Zi 40000119 E1.All), (wO Zj 40000120 E1.L), (wO cB 40000121 E1.Begun), (wO (cL (cI .i64)) 40000122 E1.Sets), (wO cB 40000123 E1.Blank)]), (40000100, wR Z2 14 E1.S.Players), (40000101, wR Zh 19 E1.S.Objects), (40000102, wR (cI .i64) 1 E1.S.Battlefield), (40000103, wR (cI .i64) 1 E1.S.Exile), (40000104, wR Zal 94 E1.S.Stack), (40000105, wR Zae 89 E1.S.Waiting), (40000106, wR Zaq 6 E1.S.Conts), (40000116, wR (cI .i64) 1 E1.S.Extra), (40000119, wR Zi 17 E1.All), (40000120, wR Zj 23 E1.L), (40000121, wR cB 1 E1.Begun), (40000122, wR (cL (cI .i64)) 1 E1.Sets), (40000123, wR cB 1 E1.Blank), (20000006, wR (cI .i64) 1 v6)]⟩ | .L1 v1 E0 E1 v6 v8 v9 v10 => ⟨60, [(1, (wI v1)), (2, (.bptr 30000000 0)), (4, (.bptr 30000001 0)), (6, (wO (cI .i64) 20000006 v6)), (8, (wO (cI .i64) 20000008 v8)), (9, (wI v9)), (10, (wI v10))], [(30000000, .box (bx (Z5 E0))), (30000001, .box [(wO Z2 40000100 E1.S.Players), (wO Zh 40000101 E1.S.Objects), (wO (cI .i64) 40000102 E1.S.Battlefield), (wO (cI .i64) 40000103 E1.S.Exile), (wO Zal 40000104 E1.S.Stack), (wO Zae 40000105 E1.S.Waiting), (wO Zaq 40000106 E1.S.Conts), (wI E1.S.Turn), (wI E1.S.Active), (wI E1.S.Step), (wB E1.S.Begun), (wI E1.S.Priority), (wI E1.S.Passes), (wI E1.S.NextId), (wI E1.S.NextStamp), (.t (.int .u64 E1.S.Seed)), (wO (cI .i64) 40000116 E1.S.Extra), (wI E1.S.Over), (wI E1.S.Winner), (wO Zi 40000119 E1.All), (wO Zj 40000120 E1.L), (wO cB 40000121 E1.Begun), (wO (cL (cI .i64)) 40000122 E1.Sets), (wO cB 40000123 E1.Blank)]), (40000100, wR Z2 14 E1.S.Players), (40000101, wR Zh 19 E1.S.Objects), (40000102, wR (cI .i64) 1 E1.S.Battlefield), (40000103, wR (cI .i64) 1 E1.S.Exile), (40000104, wR Zal 94 E1.S.Stack), (40000105, wR Zae 89 E1.S.Waiting), (40000106, wR Zaq 6 E1.S.Conts), (40000116, wR (cI .i64) 1 E1.S.Extra), (40000119, wR Zi 17 E1.All), (40000120, wR Zj 23 E1.L), (40000121, wR cB 1 E1.Begun), (40000122, wR (cL (cI .i64)) 1 E1.Sets), (40000123, wR cB 1 E1.Blank), (20000006, wR (cI .i64) 1 v6), (20000008, wR (cI .i64) 1 v8)]⟩,
 fun r => [(5100, wR (cI .i64) 1 r.2)], fun r => (.tup [(wA (Z5 r.1)), (wO (cI .i64) 5100 r.2)]), fun | .L0 v1 E0 E1 v6 v7 => Zuk v1 E0 E1 v6 v7 | .L1 v1 E0 E1 v6 v8 v9 v10 => Zul v1 E0 E1 v6 v8 v9 v10⟩
def Z5n (a0 : Zc) (a1 : Int) : Option (Zc × (List Int)) := Zaa5.run (Zaa4 a0 a1)
theorem Zapa (a0 : Zc) (a1 : Int) {r : (Zc × (List Int))} (h : Z5n a0 a1 = some r) : FnG PR 28 [] [(wA (Z5 a0)), (wI a1)] [(5100, wR (cI .i64) 1 r.2)] (.tup [(wA (Z5 r.1)), (wO (cI .i64) 5100 r.2)]) := Zaa5.fn h
inductive Ztu where
 | L0 (E0 : Zc) (v6 : Int)
def Z5o (E0 : Zc) (v6 : Int) : LT Ztu (List Za) :=
.br (decide (v6 ≤ 8)) (.callF (Zapa E0 v6) 180000 fun x2=>.g0 (.L0 x2.1 (IntKind.wrap .i64 (v6 + 1))))<|.rt E0.All
def Zarh (a0 : (List Zl)) (a1 : Zb) : LT Ztu (List Za) :=
.lb 1003<|.callF (Zar5 a0 a1) 100000 fun x1=>.lb 1005<|.rl Zi x1.All<|.rl cB x1.Begun<|.rl (cL (cI .i64)) x1.Sets<|.rl cB x1.Blank<|.go (.L0 x1 1) [.relab 1005 30000000, .frz 105019, .frz 105021, .frz 105022, .frz 105023]
def Zari : LF Ztu (List Za) := ⟨11, [.t 4], false, fun | .L0 .. => [1,1,0,1,4],
 fun | .L0 E0 v6 => ⟨22, [(5, (.bptr 30000000 0)), (6, (wI v6))], [(30000000, .box (bx (Z5 E0)))]⟩,
 fun r => [], fun r => (wL Zi r), fun | .L0 E0 v6 => Z5o E0 v6⟩
def Zapb (a0 : (List Zl)) (a1 : Zb) : Option (List Za) := Zari.run (Zarh a0 a1)
theorem Zvx (a0 : (List Zl)) (a1 : Zb) {r : (List Za)} (h : Zapb a0 a1 = some r) : Fn PR 11 [(wL Z4 a0), (wA (Zo a1))] (wL Zi r) := Zari.fn h
inductive Zm0 where
 | L0 (v1 : Int) (E0 : Zb) (v5 : Int)
def Zyb (v1 : Int) (E0 : Zb) (v5 : Int) : LT Zm0 Int :=
.len Zh E0.Objects<|.br (decide (v5 < (E0.Objects.length : Int))) (.idx Zh E0.Objects v5 fun x3=>.br (x3.Id == v1) (.rt v5)<|.g0 (.L0 v1 E0 (IntKind.wrap .i64 (v5 + 1))))<|.rt (-1)
def Zafm (a0 : Zb) (a1 : Int) : LT Zm0 Int :=
.lb 1002<|.go (.L0 a1 a0 0) [.relab 1002 30000000]
def Zafn : LF Zm0 Int := ⟨32, [.t 4], false, fun | .L0 .. => [1,0,1,4],
 fun | .L0 v1 E0 v5 => ⟨22, [(1, (wI v1)), (2, (.bptr 30000000 0)), (5, (wI v5))], [(30000000, .box (bx (Zo E0)))]⟩,
 fun r => [], fun r => (wI r), fun | .L0 v1 E0 v5 => Zyb v1 E0 v5⟩
def Zaa6 (a0 : Zb) (a1 : Int) : Option Int := Zafn.run (Zafm a0 a1)
theorem Zaa7 (a0 : Zb) (a1 : Int) {r : Int} (h : Zaa6 a0 a1 = some r) : Fn PR 32 [(wA (Zo a0)), (wI a1)] (wI r) := Zafn.fn h
def Zafo (a0 : (List Za)) (a1 : Int) : LT Empty Za :=
.lb 1004<|.cs (decide (a1 < 0)) (.k5 0<|.kn [0]<|.rt (⟨([] : List UInt8), (⟨0, 0, (⟨0, 0, 0, 0, 0⟩ : (A5 Int))⟩ : Zp), 0, (⟨0, 0, ([] : (List (List UInt8)))⟩ : Zu), 0, 0, 0, ([] : (List Zk)), 0⟩ : Za))<|.k3 0<|.len Zi a0<|.k2 0<|.br (decide (a1 ≥ (a0.length : Int))) (.rt (⟨([] : List UInt8), (⟨0, 0, (⟨0, 0, 0, 0, 0⟩ : (A5 Int))⟩ : Zp), 0, (⟨0, 0, ([] : (List (List UInt8)))⟩ : Zu), 0, 0, 0, ([] : (List Zk)), 0⟩ : Za))<|.idx Zi a0 a1 fun x4=>.rt x4
def Zafp : LF Empty Za := .z 35 [.c 4 81 true 17] false (fun r => []) (fun r => (wA (Zi r)))
def Zaa8 (a0 : (List Za)) (a1 : Int) : Option Za := Zafp.run (Zafo a0 a1)
theorem Zaw5 (a0 : (List Za)) (a1 : Int) {r : Za} (h : Zaa8 a0 a1 = some r) : Fn PR 35 [(wL Zi a0), (wI a1)] (wA (Zi r)) := Zafp.fn h
inductive Zyc where
 | L0 (v1 : (List Za)) (E0 : Zb) (E1 : Zs) (E2 : Zw) (v9 : Int) (v10 : Int) (v11 : Bool)
def Ztv (v1 : (List Za)) (E0 : Zb) (E1 : Zs) (E2 : Zw) (v9 : Int) (v10 : Int) (v11 : Bool) : LT Zyc Int :=
.br (E2.Kind == 0) (.rt (Zdy 0 (Zge E2.N 1000000)))<|.br (E2.Kind == 1) (.rt (Zdy 0 (Zge E1.X 1000000)))<|.br (E2.Kind == 2) (.call (Z1y E0 v1 E1.You E1.Source E2.Filter) fun x4=>.len (cI .i64) x4<|.call (Z5h E2.N (x4.length : Int)) fun x7=>.rt (Zdy 0 (Zge x7 1000000)))<|.br (E2.Kind == 3) (.call (Zaw5 v1 v10) fun x10=>.rt (Zdy 0 (Zge x10.Power 1000000)))<|.br (E2.Kind == 4) (.br (decide (v10 ≥ 0)) (.idx Zh E0.Objects v10 fun x14=>.idV (Zg.int .i64) (A3.list x14.Counters) E2.Counter [(.int .i64 x14.Stamp), (.int .i64 x14.Copy), (.int .i64 x14.Attack), (.bool x14.Blocked), (.int .i64 x14.Blocks), (.int .i64 x14.Shield)] fun x16=>.ldC (Zg.int .i64) 73 x16 3<|.rt (Zdy 0 (Zge x16 1000000)))<|.rt (Zdy 0 (Zge v9 1000000)))<|.br (E2.Kind == 5) (.br v11 (.idx Z2 E0.Players E1.You fun x20=>.rt (Zdy 0 (Zge x20.Life 1000000)))<|.rt (Zdy 0 (Zge v9 1000000)))<|.br (E2.Kind == 6) (.br v11 (.idx Z2 E0.Players E1.You fun x24=>.len (cI .i64) x24.Hand<|.rt (Zdy 0 (Zge (x24.Hand.length : Int) 1000000)))<|.rt (Zdy 0 (Zge v9 1000000)))<|.br (E2.Kind == 7) (.rt (Zdy 0 (Zge E1.Event.Amount 1000000)))<|.rt (Zdy 0 (Zge v9 1000000))
def Zaw6 (a0 : Zb) (a1 : (List Za)) (a2 : Zs) (a3 : Zw) : LT Zyc Int :=
.lb 1004<|.lb 1006<|.lb 1007<|.call (Z9g a3) fun x1=>.br (!x1) (.rt 0)<|.call (Zaa7 a0 a2.Source) fun x4=>.cs (decide (a2.You ≥ 0)) (.k5 1<|.len Z2 a0.Players<|.k2 1<|.jn 0 (.L0 a1 a0 a2 a3 0 x4 (decide (a2.You < (a0.Players.length : Int)))) [.relab 1004 30000000, .relab 1006 30000001, .relab 1007 30000002] (Ztv a1 a0 a2 a3 0 x4 (decide (a2.You < (a0.Players.length : Int)))))<|.k5 1<|.k2 1<|.jn 0 (.L0 a1 a0 a2 a3 0 x4 false) [.relab 1004 30000000, .relab 1006 30000001, .relab 1007 30000002] (Ztv a1 a0 a2 a3 0 x4 false)
def Zaw7 : LF Zyc Int := ⟨13, [.t 8], false, fun | .L0 .. => [1,1,1,1,1],
 fun | .L0 v1 E0 E1 E2 v9 v10 v11 => ⟨103, [(1, (wL Zi v1)), (4, (.bptr 30000000 0)), (6, (.bptr 30000001 0)), (7, (.bptr 30000002 0)), (9, (wI v9)), (10, (wI v10)), (11, (wB v11))], [(30000000, .box (bx (Zo E0))), (30000001, .box (bx (Zbd E1))), (30000002, .box (bx (Zaf E2)))]⟩,
 fun r => [], fun r => (wI r), fun | .L0 v1 E0 E1 E2 v9 v10 v11 => Ztv v1 E0 E1 E2 v9 v10 v11⟩
def Zaw8 (a0 : Zb) (a1 : (List Za)) (a2 : Zs) (a3 : Zw) : Option Int := Zaw7.run (Zaw6 a0 a1 a2 a3)
theorem Za4e (a0 : Zb) (a1 : (List Za)) (a2 : Zs) (a3 : Zw) {r : Int} (h : Zaw8 a0 a1 a2 a3 = some r) : Fn PR 13 [(wA (Zo a0)), (wL Zi a1), (wA (Zbd a2)), (wA (Zaf a3))] (wI r) := Zaw7.fn h
def Ztw (a0 : (List Zl)) (a1 : Zb) (a2 : Zaa) : LT Empty Bool :=
.lb 1004<|.lb 1005<|.call (Zpm a0 a1) fun x1=>.cs (!x1) (.k5 0<|.kg 0<|.kn [0]<|.call (Zck) fun x4=>.rt x4)<|.k4 0<|.len Zbj a2.Ctx.Targets<|.k2 0<|.br (decide ((a2.Ctx.Targets.length : Int) > 8)) (.call (Zck) fun x8=>.rt x8)<|.call (Zvx a0 a1) fun x10=>.call (Zfj a1 x10 a2.Ctx a2.Amount) fun x12=>.call (Za4e a1 x10 a2.Ctx a2.Amount) fun x14=>.cs (x12 == x14) (.kg 2<|.call (Zck) fun x17=>.kg 2<|.rt x17)<|.k2 2<|.rt false
def Ztx : LF Empty Bool := .z 3 [.t 6] false (fun r => []) (fun r => (wB r))
def Znz (a0 : (List Zl)) (a1 : Zb) (a2 : Zaa) : Option Bool := Ztx.run (Ztw a0 a1 a2)
theorem Z76 (a0 : (List Zl)) (a1 : Zb) (a2 : Zaa) {r : Bool} (h : Znz a0 a1 a2 = some r) : Fn PR 3 [(wL Z4 a0), (wA (Zo a1)), (wA (Zbq a2))] (wB r) := Ztx.fn h
def Zaa9 (a0 : Zs) (a1 : Int) : LT Empty (Zaj × Bool) :=
.lb 1002<|.lb 1004<|.cs (decide (a1 < 1)) (.k5 0<|.kg 0<|.kn [0]<|.rt ((⟨0, 0⟩ : Zaj), false))<|.k4 0<|.len Zbj a0.Targets<|.k2 0<|.br (decide (a1 > (a0.Targets.length : Int))) (.rt ((⟨0, 0⟩ : Zaj), false))<|.idx Zbj a0.Targets (IntKind.wrap .i64 (a1 - 1)) fun x6=>.rt (x6, true)
def Zaba : LF Empty (Zaj × Bool) := .z 39 [.c 4 83 true 2, .t 5] false (fun r => []) (fun r => (.tup [(wA (Zbj r.1)), (wB r.2)]))
def Z5p (a0 : Zs) (a1 : Int) : Option (Zaj × Bool) := Zaba.run (Zaa9 a0 a1)
theorem Zar7 (a0 : Zs) (a1 : Int) {r : (Zaj × Bool)} (h : Z5p a0 a1 = some r) : Fn PR 39 [(wA (Zbd a0)), (wI a1)] (.tup [(wA (Zbj r.1)), (wB r.2)]) := Zaba.fn h
inductive Zju where
 | L0 (E0 : Zb) (v9 : (List Int)) (v12 : (List Int)) (v13 : Int)
def Zro (E0 : Zb) (v9 : (List Int)) (v12 : (List Int)) (v13 : Int) : LT Zju (List Int) :=
.len (cI .i64) v9<|.br (decide (v13 < (v9.length : Int))) (.idx (cI .i64) v9 v13 fun x3=>.call (Zaa7 E0 x3) fun x5=>.br (decide (x5 ≥ 0)) (.ag (cI .i64) x3 0<|.dr [.lit]<|.apR (cI .i64) 8 v12 [x3] fun x9=>.g0 (.L0 E0 v9 x9 (IntKind.wrap .i64 (v13 + 1))))<|.g0 (.L0 E0 v9 v12 (IntKind.wrap .i64 (v13 + 1))))<|.ret v12 [.relab 20000012 5000]
def Z7p (a0 : Zb) (a1 : (List Za)) (a2 : Zs) (a3 : Zak) : LT Zju (List Int) :=
.lb 1004<|.lb 1006<|.lb 1007<|.call (Zar7 a2 a3.N) fun x1=>.lb 1010<|.br (a3.Kind == 2) (.dr [.lit]<|.go (.L0 a0 [a2.Source] ([] : (List Int)) 0) [.relab 1004 30000000, .own 12 20000012 1])<|.br (a3.Kind == 3) (.cs x1.2 (.k4 2<|.br (x1.1.Object != 0) (.dr [.lit]<|.go (.L0 a0 [x1.1.Object] ([] : (List Int)) 0) [.relab 1004 30000000, .own 12 20000012 1])<|.go (.L0 a0 ([] : (List Int)) ([] : (List Int)) 0) [.relab 1004 30000000, .nilt 9, .own 12 20000012 1])<|.k4 2<|.kn [0]<|.go (.L0 a0 ([] : (List Int)) ([] : (List Int)) 0) [.relab 1004 30000000, .nilt 9, .own 12 20000012 1])<|.br (a3.Kind == 4) (.call (Z1y a0 a1 a2.You a2.Source a3.Filter) fun x10=>.go (.L0 a0 x10 ([] : (List Int)) 0) [.relab 1004 30000000, .own 12 20000012 1])<|.br (a3.Kind == 7) (.dr [.lit]<|.go (.L0 a0 [a2.Event.Object] ([] : (List Int)) 0) [.relab 1004 30000000, .own 12 20000012 1])<|.go (.L0 a0 ([] : (List Int)) ([] : (List Int)) 0) [.relab 1004 30000000, .nilt 9, .own 12 20000012 1]
def Z7q : LF Zju (List Int) := ⟨18, [.t 8], true, fun | .L0 .. => [1,1,1,1,1,0,1,4],
 fun | .L0 E0 v9 v12 v13 => ⟨77, [(4, (.bptr 30000000 0)), (9, (wL (cI .i64) v9)), (12, (wO (cI .i64) 20000012 v12)), (13, (wI v13))], [(30000000, .box (bx (Zo E0))), (20000012, wR (cI .i64) 1 v12)]⟩,
 fun r => [(5000, wR (cI .i64) 1 r)], fun r => (wO (cI .i64) 5000 r), fun | .L0 E0 v9 v12 v13 => Zro E0 v9 v12 v13⟩
def Zsf (a0 : Zb) (a1 : (List Za)) (a2 : Zs) (a3 : Zak) : Option (List Int) := Z7q.run (Z7p a0 a1 a2 a3)
theorem Zami (a0 : Zb) (a1 : (List Za)) (a2 : Zs) (a3 : Zak) {r : (List Int)} (h : Zsf a0 a1 a2 a3 = some r) : FnG PR 18 [] [(wA (Zo a0)), (wL Zi a1), (wA (Zbd a2)), (wA (Zbg a3))] [(5000, wR (cI .i64) 1 r)] (wO (cI .i64) 5000 r) := Z7q.fn h
theorem Zapc (a0 : Zb) (a1 : (List Za)) (a2 : Zs) (a3 : Zak) {r : (List Int)} (h : Zsf a0 a1 a2 a3 = some r) : Fn PR 18 [(wA (Zo a0)), (wL Zi a1), (wA (Zbd a2)), (wA (Zbg a3))] (wL (cI .i64) r) :=
 FnG.frozen (C := LT.RL (cI .i64) r ∧ True) (Zami a0 a1 a2 a3 h) ⟨rfl, trivial⟩ (by kernel_rfl)
def Zty (a0 : (List Zl)) (a1 : Zb) (a2 : Zaa) : LT Empty Bool :=
.lb 1004<|.lb 1005<|.call (Zpm a0 a1) fun x1=>.cs (!x1) (.k5 0<|.kg 0<|.kn [0]<|.call (Zck) fun x4=>.rt x4)<|.k4 0<|.len Zbj a2.Ctx.Targets<|.k2 0<|.br (decide ((a2.Ctx.Targets.length : Int) > 8)) (.call (Zck) fun x8=>.rt x8)<|.call (Zvx a0 a1) fun x10=>.call (Zny a1 x10 a2.Ctx a2.Ref) fun x12=>.call (Zapc a1 x10 a2.Ctx a2.Ref) fun x14=>.call (Zhz x12 x14) fun x16=>.cs x16 (.kg 2<|.call (Zck) fun x19=>.kg 2<|.rt x19)<|.k2 2<|.rt false
def Ztz : LF Empty Bool := .z 5 [.t 6] false (fun r => []) (fun r => (wB r))
def Zn0 (a0 : (List Zl)) (a1 : Zb) (a2 : Zaa) : Option Bool := Ztz.run (Zty a0 a1 a2)
theorem Z77 (a0 : (List Zl)) (a1 : Zb) (a2 : Zaa) {r : Bool} (h : Zn0 a0 a1 a2 = some r) : Fn PR 5 [(wL Z4 a0), (wA (Zo a1)), (wA (Zbq a2))] (wB r) := Ztz.fn h
inductive Zdz where
 | L0 (E0 : Zb) (E1 : Zaa) (v7 : (List Za))
 | L1 (E0 : Zb) (E1 : Zaa) (v7 : (List Za)) (v9 : (List Int)) (v10 : Int)
 | L2 (E0 : Zb) (v11 : (List Int)) (v12 : Int)
def Zfr (E0 : Zb) (E1 : Zaa) (v7 : (List Za)) : LT Zdz Bool :=
.call (Zahh E0 v7 E1.Ctx E1.Ref) fun x1=>.g0 (.L1 E0 E1 v7 x1 0)
def Zk3 (E0 : Zb) (E1 : Zaa) (v7 : (List Za)) (v9 : (List Int)) (v10 : Int) : LT Zdz Bool :=
.len (cI .i64) v9<|.br (decide (v10 < (v9.length : Int))) (.idx (cI .i64) v9 v10 fun x3=>.cs (decide (x3 < 0)) (.k8 1<|.kg 1<|.b8 true<|.b2 true<|.kn [0]<|.rt false)<|.k3 1<|.ag (cI .i64) x3 0<|.k4 1<|.len Z2 E0.Players<|.k2 1<|.cs (decide (x3 ≥ (E0.Players.length : Int))) (.k8 2<|.k2 2<|.kn [0]<|.rt false)<|.k5 2<|.ag (cI .i64) x3 0<|.k2 2<|.idx Z2 E0.Players x3 fun x8=>.k3 2<|.br x8.Lost (.rt false)<|.g0 (.L1 E0 E1 v7 v9 (IntKind.wrap .i64 (v10 + 1))))<|.call (Zny E0 v7 E1.Ctx E1.Ref) fun x13=>.g0 (.L2 E0 x13 0)
def Zk4 (E0 : Zb) (v11 : (List Int)) (v12 : Int) : LT Zdz Bool :=
.len (cI .i64) v11<|.br (decide (v12 < (v11.length : Int))) (.idx (cI .i64) v11 v12 fun x3=>.call (Zaef E0 x3) fun x5=>.lb 1013<|.br (!x5.2) (.rt false)<|.g0 (.L2 E0 v11 (IntKind.wrap .i64 (v12 + 1))))<|.call (Zck) fun x10=>.rt x10
def Zvj (a0 : (List Zl)) (a1 : Zb) (a2 : Zaa) : LT Zdz Bool :=
.lb 1004<|.lb 1005<|.call (Zpm a0 a1) fun x1=>.cs (!x1) (.k5 0<|.kg 0<|.kn [0]<|.call (Zck) fun x4=>.rt x4)<|.k4 0<|.len Zbj a2.Ctx.Targets<|.k2 0<|.br (decide ((a2.Ctx.Targets.length : Int) > 8)) (.call (Zck) fun x8=>.rt x8)<|.call (Zvx a0 a1) fun x10=>.call (Zfj a1 x10 a2.Ctx a2.Amount) fun x12=>.cs (decide (x12 < 0)) (.k3 2<|.b5 true<|.kn [0]<|.rt false)<|.k3 2<|.cs (decide (x12 > 1000000)) (.k5 3<|.kn [0]<|.rt false)<|.k3 3<|.cs (x12 != 0) (.k3 4<|.call (Z9g a2.Amount) fun x17=>.kg 4<|.kg 3<|.kg 4<|.kg 3<|.br (!x17) (.rt false)<|.jn 0 (.L0 a1 a2 x10) [.relab 1004 30000000, .relab 1005 30000001] (Zfr a1 a2 x10))<|.k4 4<|.kg 3<|.kg 4<|.kg 3<|.kn [0]<|.jn 0 (.L0 a1 a2 x10) [.relab 1004 30000000, .relab 1005 30000001] (Zfr a1 a2 x10)
def Zvk : LF Zdz Bool := ⟨6, [.t 6], false, fun | .L0 .. => [1,1,1,1,1] | .L1 .. => [1,1,1,1,1,1,0,1,4] | .L2 .. => [1,1,1,1,1,1,1,1,0,1,4],
 fun | .L0 E0 E1 v7 => ⟨117, [(4, (.bptr 30000000 0)), (5, (.bptr 30000001 0)), (7, (wL Zi v7))], [(30000000, .box (bx (Zo E0))), (30000001, .box (bx (Zbq E1)))]⟩ | .L1 E0 E1 v7 v9 v10 => ⟨117, [(4, (.bptr 30000000 0)), (5, (.bptr 30000001 0)), (7, (wL Zi v7)), (9, (wL (cI .i64) v9)), (10, (wI v10))], [(30000000, .box (bx (Zo E0))), (30000001, .box (bx (Zbq E1)))]⟩ | .L2 E0 v11 v12 => ⟨117, [(4, (.bptr 30000000 0)), (11, (wL (cI .i64) v11)), (12, (wI v12))], [(30000000, .box (bx (Zo E0)))]⟩,
 fun r => [], fun r => (wB r), fun | .L0 E0 E1 v7 => Zfr E0 E1 v7 | .L1 E0 E1 v7 v9 v10 => Zk3 E0 E1 v7 v9 v10 | .L2 E0 v11 v12 => Zk4 E0 v11 v12⟩
def Zp7 (a0 : (List Zl)) (a1 : Zb) (a2 : Zaa) : Option Bool := Zvk.run (Zvj a0 a1 a2)
theorem Zabb (a0 : (List Zl)) (a1 : Zb) (a2 : Zaa) {r : Bool} (h : Zp7 a0 a1 a2 = some r) : Fn PR 6 [(wL Z4 a0), (wA (Zo a1)), (wA (Zbq a2))] (wB r) := Zvk.fn h
def Zvl (a0 : (List Zl)) (a1 : Zb) (a2 : Zaa) : LT Empty Bool :=
.lb 1004<|.lb 1005<|.call (Zpm a0 a1) fun x1=>.cs (!x1) (.k5 0<|.kg 0<|.b8 true<|.b2 true<|.kn [0]<|.call (Zck) fun x4=>.rt x4)<|.k4 0<|.call (Zel a2.Amount.Filter) fun x6=>.k2 0<|.cs (!x6) (.k5 1<|.b5 true<|.kn [0]<|.call (Zck) fun x9=>.rt x9)<|.k5 1<|.cs (decide (a2.Amount.N < 1)) (.k5 2<|.kn [0]<|.call (Zck) fun x12=>.rt x12)<|.k5 2<|.br (decide (a2.Amount.N > 99)) (.call (Zck) fun x15=>.rt x15)<|.call (Zvx a0 a1) fun x17=>.call (Zfj a1 x17 a2.Ctx (⟨2, 1, 0, a2.Amount.Filter⟩ : Zw)) fun x19=>.call (Zfj a1 x17 a2.Ctx (⟨2, a2.Amount.N, 0, a2.Amount.Filter⟩ : Zw)) fun x21=>.cs (x21 == (IntKind.wrap .i64 (x19 * a2.Amount.N))) (.k8 4<|.k2 4<|.call (Zny a1 x17 a2.Ctx (⟨4, 0, a2.Amount.Filter⟩ : Zak)) fun x26=>.kg 4<|.len (cI .i64) x26<|.k2 4<|.cs (x19 == (x26.length : Int)) (.k8 5<|.kg 5<|.call (Zfj a1 x17 a2.Ctx (⟨0, a2.Amount.N, 0, (⟨0, 0, 0, 0, 0, 0, 0, ([] : List UInt8), 0, 0, (⟨0, 0⟩ : Zd), (⟨0, 0⟩ : Zd), (⟨0, 0⟩ : Zd)⟩ : Ze)⟩ : Zw)) fun x30=>.k5 5<|.cs (x30 == a2.Amount.N) (.kg 6<|.call (Zck) fun x33=>.kg 6<|.rt x33)<|.k2 6<|.rt false)<|.k8 5<|.k5 5<|.kg 5<|.b2 false<|.rt false)<|.k8 4<|.k5 4<|.b16 false<|.rt false
def Zvm : LF Empty Bool := .z 7 [.t 6] false (fun r => []) (fun r => (wB r))
def Zp8 (a0 : (List Zl)) (a1 : Zb) (a2 : Zaa) : Option Bool := Zvm.run (Zvl a0 a1 a2)
theorem Zabc (a0 : (List Zl)) (a1 : Zb) (a2 : Zaa) {r : Bool} (h : Zp8 a0 a1 a2 = some r) : Fn PR 7 [(wL Z4 a0), (wA (Zo a1)), (wA (Zbq a2))] (wB r) := Zvm.fn h
end
end Go.PW
