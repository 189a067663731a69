import Derived.Test.YtnoofnejcoadfaaGreatDoorQDb
set_option linter.all false
set_option maxRecDepth 100000
namespace Go.PW
open Go.RowKit
noncomputable section
inductive Zic where
 | L0 (v1 : Int) (E0 : Zc) (E1 : Zc) (v6 : (List Int)) (v7 : Int)
 | L1 (v1 : Int) (E0 : Zc) (E1 : Zc) (v6 : (List Int)) (v8 : (List Int)) (v9 : Int) (v10 : Int)
def Ztu (v1 : Int) (E0 : Zc) (E1 : Zc) (v6 : (List Int)) (v7 : Int) : LT Zic (Zc × (List Int)) :=
.len Zi E0.L<|.br (decide (v7 < (E0.L.length : Int))) (.idx Zi E0.L v7 fun x3=>.call (Zanc x3 v1) fun x5=>.br x5 (.dr [.lit]<|.apR (cI .i64) 8 v6 [v7] fun x9=>.g0 (.L0 v1 E0 E1 x9 (IntKind.wrap .i64 (v7 + 1))))<|.g0 (.L0 v1 E0 E1 v6 (IntKind.wrap .i64 (v7 + 1))))<|.lb 1035<|.lenO (cI .i64) v6<|.go (.L1 v1 E0 E1 v6 ([] : (List Int)) (v6.length : Int) 0) [.relab 1035 20000008]
def Ztv (v1 : Int) (E0 : Zc) (E1 : Zc) (v6 : (List Int)) (v8 : (List Int)) (v9 : Int) (v10 : Int) : LT Zic (Zc × (List Int)) :=
.br (decide (v10 < v9)) (.rl (cI .i64) v6<|.call (Zaxz E0 v6 v1) fun x2=>.dr [.lit]<|.apR (cI .i64) 8 v8 [x2] fun x5=>.call (Z3a E0 x2 v1) fun x8=>.rl (cI .i64) v6<|.callS (Zak8 v6 x2) 580000 (fun _ => ⟨rfl, Zcj (cI .i64) (fun _ => rfl) _, trivial⟩) fun x10=>.go (.L1 v1 x8 E1 x10 x5 v9 (IntKind.wrap .i64 (v10 + 1))) [.pick [1, 2, 4, 6, 8, 9, 10] [585000, 30000000, 20000008, 30000001, 40000100, 40000101, 40000102, 40000103, 40000104, 40000105, 40000106, 40000116, 40000119, 40000120, 40000121, 40000122, 40000123], .relab 585000 20000006])<|.ret (E0, v8) [.relab 20000008 5100]
def Z99 (a0 : Zc) (a1 : Int) : LT Zic (Zc × (List Int)) :=
.lb 1002<|.lb 1004<|.br (a1 == 7) (.callF (Zaks a0) 160000 fun x2=>.lb 1016<|.rl Zk x2.All<|.go (.L0 a1 x2 (⟨(⟨([] : (List Zam)), ([] : (List Zg)), ([] : (List Int)), ([] : (List Int)), ([] : (List Zee)), ([] : (List Zd4)), ([] : (List Zgo)), 0, 0, 0, false, 0, 0, 0, 0, 0, ([] : (List Int)), 0, 0⟩ : Zb), ([] : (List Za)), ([] : (List Zl)), ([] : (List Bool)), ([] : (List (List Int))), ([] : (List Bool))⟩ : Zc) ([] : (List Int)) 0) [.relab 1002 30000000, .relab 1004 30000001, .relab 1016 20000006, .frz 165019, .ownb 30000001 0 40000100 14, .ownb 30000001 1 40000101 19, .ownb 30000001 2 40000102 1, .ownb 30000001 3 40000103 1, .ownb 30000001 4 40000104 94, .ownb 30000001 5 40000105 89, .ownb 30000001 6 40000106 6, .ownb 30000001 16 40000116 1, .ownb 30000001 19 40000119 17, .ownb 30000001 20 40000120 23, .ownb 30000001 21 40000121 1, .ownb 30000001 22 40000122 1, .ownb 30000001 23 40000123 1])<|.lb 1016<|.go (.L0 a1 a0 (⟨(⟨([] : (List Zam)), ([] : (List Zg)), ([] : (List Int)), ([] : (List Int)), ([] : (List Zee)), ([] : (List Zd4)), ([] : (List Zgo)), 0, 0, 0, false, 0, 0, 0, 0, 0, ([] : (List Int)), 0, 0⟩ : Zb), ([] : (List Za)), ([] : (List Zl)), ([] : (List Bool)), ([] : (List (List Int))), ([] : (List Bool))⟩ : Zc) ([] : (List Int)) 0) [.relab 1002 30000000, .relab 1004 30000001, .relab 1016 20000006, .ownb 30000001 0 40000100 14, .ownb 30000001 1 40000101 19, .ownb 30000001 2 40000102 1, .ownb 30000001 3 40000103 1, .ownb 30000001 4 40000104 94, .ownb 30000001 5 40000105 89, .ownb 30000001 6 40000106 6, .ownb 30000001 16 40000116 1, .ownb 30000001 19 40000119 17, .ownb 30000001 20 40000120 23, .ownb 30000001 21 40000121 1, .ownb 30000001 22 40000122 1, .ownb 30000001 23 40000123 1]
def Zaaa : LF Zic (Zc × (List Int)) := ⟨28, [.c 4 88 true 24, .t 5], true, fun | .L0 .. => [1,1,1,0,1,4] | .L1 .. => [1,1,1,1,1,1,0,1,4],
 fun | .L0 v1 E0 E1 v6 v7 => ⟨60, [(1, (wI v1)), (2, (.bptr 30000000 0)), (4, (.bptr 30000001 0)), (6, (wO (cI .i64) 20000006 v6)), (7, (wI v7))], [(30000000, .box (bx (Z4 E0))), (30000001, .box [(wO Z2 40000100 E1.S.Players), (wO Zh 40000101 E1.S.Objects), (wO (cI .i64) 40000102 E1.S.Battlefield), (wO (cI .i64) 40000103 E1.S.Exile), (wO Zai 40000104 E1.S.Stack), (wO Zab 40000105 E1.S.Waiting), (wO Zap 40000106 E1.S.Conts), (wI E1.S.Turn), (wI E1.S.Active), (wI E1.S.Step), (wB E1.S.Begun), (wI E1.S.Priority), (wI E1.S.Passes), (wI E1.S.NextId), (wI E1.S.NextStamp), (.t (.int .u64 E1.S.Seed)), (wO (cI .i64) 40000116 E1.S.Extra), (wI E1.S.Over), (wI E1.S.Winner), (wO Zk 40000119 E1.All), (wO Zi 40000120 E1.L), (wO cB 40000121 E1.Begun), (wO (cL (cI .i64)) 40000122 E1.Sets), (wO cB 40000123 E1.Blank)]), (40000100, wR Z2 14 E1.S.Players), (40000101, wR Zh 19 E1.S.Objects), (40000102, wR (cI .i64) 1 E1.S.Battlefield), (40000103, wR (cI .i64) 1 E1.S.Exile), (40000104, wR Zai 94 E1.S.Stack), (40000105, wR Zab 89 E1.S.Waiting), (40000106, wR Zap 6 E1.S.Conts), (40000116, wR (cI .i64) 1 E1.S.Extra), (40000119, wR Zk 17 E1.All), (40000120, wR Zi 23 E1.L), (40000121, wR cB 1 E1.Begun), (40000122, wR (cL (cI .i64)) 1 E1.Sets), (40000123, wR cB 1 E1.Blank), (20000006, wR (cI .i64) 1 v6)]⟩ | .L1 v1 E0 E1 v6 v8 v9 v10 => ⟨60, [(1, (wI v1)), (2, (.bptr 30000000 0)), (4, (.bptr 30000001 0)), (6, (wO (cI .i64) 20000006 v6)), (8, (wO (cI .i64) 20000008 v8)), (9, (wI v9)), (10, (wI v10))], [(30000000, .box (bx (Z4 E0))), (30000001, .box [(wO Z2 40000100 E1.S.Players), (wO Zh 40000101 E1.S.Objects), (wO (cI .i64) 40000102 E1.S.Battlefield), (wO (cI .i64) 40000103 E1.S.Exile), (wO Zai 40000104 E1.S.Stack), (wO Zab 40000105 E1.S.Waiting), (wO Zap 40000106 E1.S.Conts), (wI E1.S.Turn), (wI E1.S.Active), (wI E1.S.Step), (wB E1.S.Begun), (wI E1.S.Priority), (wI E1.S.Passes), (wI E1.S.NextId), (wI E1.S.NextStamp), (.t (.int .u64 E1.S.Seed)), (wO (cI .i64) 40000116 E1.S.Extra), (wI E1.S.Over), (wI E1.S.Winner), (wO Zk 40000119 E1.All), (wO Zi 40000120 E1.L), (wO cB 40000121 E1.Begun), (wO (cL (cI .i64)) 40000122 E1.Sets), (wO cB 40000123 E1.Blank)]), (40000100, wR Z2 14 E1.S.Players), (40000101, wR Zh 19 E1.S.Objects), (40000102, wR (cI .i64) 1 E1.S.Battlefield), (40000103, wR (cI .i64) 1 E1.S.Exile), (40000104, wR Zai 94 E1.S.Stack), (40000105, wR Zab 89 E1.S.Waiting), (40000106, wR Zap 6 E1.S.Conts), (40000116, wR (cI .i64) 1 E1.S.Extra), (40000119, wR Zk 17 E1.All), (40000120, wR Zi 23 E1.L), (40000121, wR cB 1 E1.Begun), (40000122, wR (cL (cI .i64)) 1 E1.Sets), (40000123, wR cB 1 E1.Blank), (20000006, wR (cI .i64) 1 v6), (20000008, wR (cI .i64) 1 v8)]⟩,
 fun r => [(5100, wR (cI .i64) 1 r.2)], fun r => (.tup [(wA (Z4 r.1)), (wO (cI .i64) 5100 r.2)]), fun | .L0 v1 E0 E1 v6 v7 => Ztu v1 E0 E1 v6 v7 | .L1 v1 E0 E1 v6 v8 v9 v10 => Ztv v1 E0 E1 v6 v8 v9 v10⟩
def Z40 (a0 : Zc) (a1 : Int) : Option (Zc × (List Int)) := Zaaa.run (Z99 a0 a1)
theorem Zani (a0 : Zc) (a1 : Int) {r : (Zc × (List Int))} (h : Z40 a0 a1 = some r) : FnG PR 28 [] [(wA (Z4 a0)), (wI a1)] [(5100, wR (cI .i64) 1 r.2)] (.tup [(wA (Z4 r.1)), (wO (cI .i64) 5100 r.2)]) := Zaaa.fn h
inductive Zs6 where
 | L0 (E0 : Zc) (v6 : Int)
def Z41 (E0 : Zc) (v6 : Int) : LT Zs6 (List Za) :=
.br (decide (v6 ≤ 8)) (.callF (Zani E0 v6) 180000 fun x2=>.g0 (.L0 x2.1 (IntKind.wrap .i64 (v6 + 1))))<|.rt E0.All
def Zapw (a0 : (List Zn)) (a1 : Zb) : LT Zs6 (List Za) :=
.lb 1003<|.callF (Zaqj a0 a1) 100000 fun x1=>.lb 1005<|.rl Zk x1.All<|.rl cB x1.Begun<|.rl (cL (cI .i64)) x1.Sets<|.rl cB x1.Blank<|.go (.L0 x1 1) [.relab 1005 30000000, .frz 105019, .frz 105021, .frz 105022, .frz 105023]
def Zapx : LF Zs6 (List Za) := ⟨11, [.t 4], false, fun | .L0 .. => [1,1,0,1,4],
 fun | .L0 E0 v6 => ⟨22, [(5, (.bptr 30000000 0)), (6, (wI v6))], [(30000000, .box (bx (Z4 E0)))]⟩,
 fun r => [], fun r => (wL Zk r), fun | .L0 E0 v6 => Z41 E0 v6⟩
def Zanj (a0 : (List Zn)) (a1 : Zb) : Option (List Za) := Zapx.run (Zapw a0 a1)
theorem Za0g (a0 : (List Zn)) (a1 : Zb) {r : (List Za)} (h : Zanj a0 a1 = some r) : Fn PR 11 [(wL Z6 a0), (wA (Zo a1))] (wL Zk r) := Zapx.fn h
inductive Zmi where
 | L0 (v1 : Int) (E0 : Zb) (v5 : Int)
def Zxq (v1 : Int) (E0 : Zb) (v5 : Int) : LT Zmi Int :=
.len Zh E0.Objects<|.br (decide (v5 < (E0.Objects.length : Int))) (.idx Zh E0.Objects v5 fun x3=>.br (x3.Id == v1) (.rt v5)<|.g0 (.L0 v1 E0 (IntKind.wrap .i64 (v5 + 1))))<|.rt (-1)
def Zaeo (a0 : Zb) (a1 : Int) : LT Zmi Int :=
.lb 1002<|.go (.L0 a1 a0 0) [.relab 1002 30000000]
def Zaep : LF Zmi Int := ⟨32, [.t 4], false, fun | .L0 .. => [1,0,1,4],
 fun | .L0 v1 E0 v5 => ⟨22, [(1, (wI v1)), (2, (.bptr 30000000 0)), (5, (wI v5))], [(30000000, .box (bx (Zo E0)))]⟩,
 fun r => [], fun r => (wI r), fun | .L0 v1 E0 v5 => Zxq v1 E0 v5⟩
def Zaab (a0 : Zb) (a1 : Int) : Option Int := Zaep.run (Zaeo a0 a1)
theorem Zaac (a0 : Zb) (a1 : Int) {r : Int} (h : Zaab a0 a1 = some r) : Fn PR 32 [(wA (Zo a0)), (wI a1)] (wI r) := Zaep.fn h
def Zaeq (a0 : (List Za)) (a1 : Int) : LT Empty Za :=
.lb 1004<|.cs (decide (a1 < 0)) (.k5 0<|.kn [0]<|.rt (⟨([] : List UInt8), (⟨0, 0, (⟨0, 0, 0, 0, 0⟩ : (A5 Int))⟩ : Zp), 0, (⟨0, 0, ([] : (List (List UInt8)))⟩ : Zs), 0, 0, 0, ([] : (List Zj)), 0⟩ : Za))<|.k3 0<|.len Zk a0<|.k2 0<|.br (decide (a1 ≥ (a0.length : Int))) (.rt (⟨([] : List UInt8), (⟨0, 0, (⟨0, 0, 0, 0, 0⟩ : (A5 Int))⟩ : Zp), 0, (⟨0, 0, ([] : (List (List UInt8)))⟩ : Zs), 0, 0, 0, ([] : (List Zj)), 0⟩ : Za))<|.idx Zk a0 a1 fun x4=>.rt x4
def Zaer : LF Empty Za := .z 35 [.c 4 81 true 17] false (fun r => []) (fun r => (wA (Zk r)))
def Zaad (a0 : (List Za)) (a1 : Int) : Option Za := Zaer.run (Zaeq a0 a1)
theorem Zavp (a0 : (List Za)) (a1 : Int) {r : Za} (h : Zaad a0 a1 = some r) : Fn PR 35 [(wL Zk a0), (wI a1)] (wA (Zk r)) := Zaer.fn h
def Zaae (a0 : Zy) (a1 : Int) : LT Empty (Zac × Bool) :=
.lb 1002<|.lb 1004<|.cs (decide (a1 < 1)) (.k5 0<|.kg 0<|.kn [0]<|.rt ((⟨0, 0⟩ : Zac), false))<|.k4 0<|.len Zbj a0.Targets<|.k2 0<|.br (decide (a1 > (a0.Targets.length : Int))) (.rt ((⟨0, 0⟩ : Zac), false))<|.idx Zbj a0.Targets (IntKind.wrap .i64 (a1 - 1)) fun x6=>.rt (x6, true)
def Zaaf : LF Empty (Zac × Bool) := .z 39 [.c 4 83 true 2, .t 5] false (fun r => []) (fun r => (.tup [(wA (Zbj r.1)), (wB r.2)]))
def Z42 (a0 : Zy) (a1 : Int) : Option (Zac × Bool) := Zaaf.run (Zaae a0 a1)
theorem Zaql (a0 : Zy) (a1 : Int) {r : (Zac × Bool)} (h : Z42 a0 a1 = some r) : Fn PR 39 [(wA (Zbo a0)), (wI a1)] (.tup [(wA (Zbj r.1)), (wB r.2)]) := Zaaf.fn h
inductive Zko where
 | L0 (E0 : Zb) (v3 : (List Int)) (v4 : Int)
def Ztw (E0 : Zb) (v3 : (List Int)) (v4 : Int) : LT Zko (List Int) :=
.len Z2 E0.Players<|.br (decide (v4 < (E0.Players.length : Int))) (.idx Z2 E0.Players v4 fun x3=>.br (!x3.Lost) (.dr [.lit]<|.apR (cI .i64) 8 v3 [v4] fun x7=>.g0 (.L0 E0 x7 (IntKind.wrap .i64 (v4 + 1))))<|.g0 (.L0 E0 v3 (IntKind.wrap .i64 (v4 + 1))))<|.ret v3 [.relab 20000003 5000]
def Zaag (a0 : Zb) : LT Zko (List Int) :=
.lb 1001<|.go (.L0 a0 ([] : (List Int)) 0) [.relab 1001 30000000, .own 3 20000003 1]
def Zaah : LF Zko (List Int) := ⟨23, [.t 2], true, fun | .L0 .. => [1,1,0,1,4],
 fun | .L0 E0 v3 v4 => ⟨24, [(1, (.bptr 30000000 0)), (3, (wO (cI .i64) 20000003 v3)), (4, (wI v4))], [(30000000, .box (bx (Zo E0))), (20000003, wR (cI .i64) 1 v3)]⟩,
 fun r => [(5000, wR (cI .i64) 1 r)], fun r => (wO (cI .i64) 5000 r), fun | .L0 E0 v3 v4 => Ztw E0 v3 v4⟩
def Zu9 (a0 : Zb) : Option (List Int) := Zaah.run (Zaag a0)
theorem Zank (a0 : Zb) {r : (List Int)} (h : Zu9 a0 = some r) : FnG PR 23 [] [(wA (Zo a0))] [(5000, wR (cI .i64) 1 r)] (wO (cI .i64) 5000 r) := Zaah.fn h
theorem Zaqm (a0 : Zb) {r : (List Int)} (h : Zu9 a0 = some r) : Fn PR 23 [(wA (Zo a0))] (wL (cI .i64) r) :=
 FnG.frozen (C := LT.RL (cI .i64) r ∧ True) (Zank a0 h) ⟨rfl, trivial⟩ (by kernel_rfl)
inductive Zid where
 | L0 (v1 : Int) (E0 : Zb) (v5 : (List Int)) (v6 : (List Int)) (v7 : Int)
 | L1 (v1 : Int) (E0 : Zb) (v5 : (List Int)) (v6 : (List Int)) (v8 : Int)
def Ztx (v1 : Int) (E0 : Zb) (v5 : (List Int)) (v6 : (List Int)) (v7 : Int) : LT Zid (List Int) :=
.len (cI .i64) v5<|.br (decide (v7 < (v5.length : Int))) (.call (Zd7 E0 v1) fun x3=>.cs x3 (.k3 1<|.idx (cI .i64) v5 v7 fun x6=>.k4 1<|.br (decide (x6 > v1)) (.ag (cI .i64) x6 0<|.dr [.lit]<|.apR (cI .i64) 8 v6 [x6] fun x10=>.g0 (.L0 v1 E0 v5 x10 (IntKind.wrap .i64 (v7 + 1))))<|.g0 (.L0 v1 E0 v5 v6 (IntKind.wrap .i64 (v7 + 1))))<|.k5 1<|.k2 1<|.kn [0]<|.g0 (.L0 v1 E0 v5 v6 (IntKind.wrap .i64 (v7 + 1))))<|.g0 (.L1 v1 E0 v5 v6 0)
def Zty (v1 : Int) (E0 : Zb) (v5 : (List Int)) (v6 : (List Int)) (v8 : Int) : LT Zid (List Int) :=
.len (cI .i64) v5<|.br (decide (v8 < (v5.length : Int))) (.call (Zd7 E0 v1) fun x3=>.cs (!x3) (.k5 1<|.k2 1<|.kn [0]<|.idx (cI .i64) v5 v8 fun x6=>.dr [.lit]<|.apR (cI .i64) 8 v6 [x6] fun x9=>.g0 (.L1 v1 E0 v5 x9 (IntKind.wrap .i64 (v8 + 1))))<|.k3 1<|.idx (cI .i64) v5 v8 fun x14=>.k4 1<|.br (decide (x14 < v1)) (.ag (cI .i64) x14 0<|.dr [.lit]<|.apR (cI .i64) 8 v6 [x14] fun x18=>.g0 (.L1 v1 E0 v5 x18 (IntKind.wrap .i64 (v8 + 1))))<|.g0 (.L1 v1 E0 v5 v6 (IntKind.wrap .i64 (v8 + 1))))<|.ret v6 [.relab 20000006 5000]
def Zaai (a0 : Zb) (a1 : Int) : LT Zid (List Int) :=
.lb 1002<|.call (Zaqm a0) fun x1=>.go (.L0 a1 a0 x1 ([] : (List Int)) 0) [.relab 1002 30000000, .own 6 20000006 1]
def Zaaj : LF Zid (List Int) := ⟨40, [.t 4], true, fun | .L0 .. => [1,1,1,0,1,4] | .L1 .. => [1,1,1,1,0,1,4],
 fun | .L0 v1 E0 v5 v6 v7 => ⟨61, [(1, (wI v1)), (2, (.bptr 30000000 0)), (5, (wL (cI .i64) v5)), (6, (wO (cI .i64) 20000006 v6)), (7, (wI v7))], [(30000000, .box (bx (Zo E0))), (20000006, wR (cI .i64) 1 v6)]⟩ | .L1 v1 E0 v5 v6 v8 => ⟨61, [(1, (wI v1)), (2, (.bptr 30000000 0)), (5, (wL (cI .i64) v5)), (6, (wO (cI .i64) 20000006 v6)), (8, (wI v8))], [(30000000, .box (bx (Zo E0))), (20000006, wR (cI .i64) 1 v6)]⟩,
 fun r => [(5000, wR (cI .i64) 1 r)], fun r => (wO (cI .i64) 5000 r), fun | .L0 v1 E0 v5 v6 v7 => Ztx v1 E0 v5 v6 v7 | .L1 v1 E0 v5 v6 v8 => Zty v1 E0 v5 v6 v8⟩
def Zva (a0 : Zb) (a1 : Int) : Option (List Int) := Zaaj.run (Zaai a0 a1)
theorem Z3d (a0 : Zb) (a1 : Int) {r : (List Int)} (h : Zva a0 a1 = some r) : FnG PR 40 [] [(wA (Zo a0)), (wI a1)] [(5000, wR (cI .i64) 1 r)] (wO (cI .i64) 5000 r) := Zaaj.fn h
theorem Zaqn (a0 : Zb) (a1 : Int) {r : (List Int)} (h : Zva a0 a1 = some r) : Fn PR 40 [(wA (Zo a0)), (wI a1)] (wL (cI .i64) r) :=
 FnG.frozen (C := LT.RL (cI .i64) r ∧ True) (Z3d a0 a1 h) ⟨rfl, trivial⟩ (by kernel_rfl)
inductive Zkp where
 | L0 (v1 : (List Int)) (E0 : Zb) (v5 : (List Int)) (v6 : Int)
def Ztz (v1 : (List Int)) (E0 : Zb) (v5 : (List Int)) (v6 : Int) : LT Zkp (List Int) :=
.len (cI .i64) v1<|.br (decide (v6 < (v1.length : Int))) (.idx (cI .i64) v1 v6 fun x3=>.cs (decide (x3 ≥ 0)) (.k3 1<|.ag (cI .i64) x3 0<|.k4 1<|.len Z2 E0.Players<|.k2 1<|.cs (decide (x3 < (E0.Players.length : Int))) (.k5 2<|.ag (cI .i64) x3 0<|.k2 2<|.idx Z2 E0.Players x3 fun x8=>.k4 2<|.br (!x8.Lost) (.ag (cI .i64) x3 0<|.dr [.lit]<|.apR (cI .i64) 8 v5 [x3] fun x12=>.g0 (.L0 v1 E0 x12 (IntKind.wrap .i64 (v6 + 1))))<|.g0 (.L0 v1 E0 v5 (IntKind.wrap .i64 (v6 + 1))))<|.k8 2<|.k3 2<|.kn [0]<|.g0 (.L0 v1 E0 v5 (IntKind.wrap .i64 (v6 + 1))))<|.k8 1<|.kg 1<|.b8 false<|.b3 false<|.kn [0]<|.g0 (.L0 v1 E0 v5 (IntKind.wrap .i64 (v6 + 1))))<|.ret v5 [.relab 20000005 5000]
def Zaak (a0 : Zb) (a1 : (List Int)) : LT Zkp (List Int) :=
.lb 1002<|.go (.L0 a1 a0 ([] : (List Int)) 0) [.relab 1002 30000000, .own 5 20000005 1]
def Zaal : LF Zkp (List Int) := ⟨41, [.t 4], true, fun | .L0 .. => [1,1,0,1,4],
 fun | .L0 v1 E0 v5 v6 => ⟨48, [(1, (wL (cI .i64) v1)), (2, (.bptr 30000000 0)), (5, (wO (cI .i64) 20000005 v5)), (6, (wI v6))], [(30000000, .box (bx (Zo E0))), (20000005, wR (cI .i64) 1 v5)]⟩,
 fun r => [(5000, wR (cI .i64) 1 r)], fun r => (wO (cI .i64) 5000 r), fun | .L0 v1 E0 v5 v6 => Ztz v1 E0 v5 v6⟩
def Z43 (a0 : Zb) (a1 : (List Int)) : Option (List Int) := Zaal.run (Zaak a0 a1)
theorem Zct (a0 : Zb) (a1 : (List Int)) {r : (List Int)} (h : Z43 a0 a1 = some r) : FnG PR 41 [] [(wA (Zo a0)), (wL (cI .i64) a1)] [(5000, wR (cI .i64) 1 r)] (wO (cI .i64) 5000 r) := Zaal.fn h
inductive Zji where
 | L0 (v1 : (List Za)) (E0 : Zb) (v9 : (List Int)) (E1 : Zac) (v11 : Bool)
def Zgg (v1 : (List Za)) (E0 : Zb) (v9 : (List Int)) (E1 : Zac) (v11 : Bool) : LT Zji (List Int) :=
.cs v11 (.k4 0<|.cs (E1.Object != 0) (.k4 1<|.call (Zaac E0 E1.Object) fun x3=>.k2 1<|.br (decide (x3 ≥ 0)) (.call (Zaac E0 E1.Object) fun x6=>.call (Zavp v1 x6) fun x8=>.lb 1085<|.rl (cI .i64) [x8.Control]<|.callS (Zct E0 [x8.Control]) 890000 (fun _ => ⟨rfl, Zcj (cI .i64) (fun _ => rfl) _, trivial⟩) fun x11=>.ret x11 [.relab 895000 5000])<|.rl (cI .i64) v9<|.callS (Zct E0 v9) 890000 (fun _ => ⟨rfl, Zcj (cI .i64) (fun _ => rfl) _, trivial⟩) fun x13=>.ret x13 [.relab 895000 5000])<|.k5 1<|.kg 1<|.kn [0]<|.rl (cI .i64) v9<|.callS (Zct E0 v9) 890000 (fun _ => ⟨rfl, Zcj (cI .i64) (fun _ => rfl) _, trivial⟩) fun x15=>.ret x15 [.relab 895000 5000])<|.k4 0<|.b5 false<|.kb false<|.kn [0]<|.rl (cI .i64) v9<|.callS (Zct E0 v9) 890000 (fun _ => ⟨rfl, Zcj (cI .i64) (fun _ => rfl) _, trivial⟩) fun x17=>.ret x17 [.relab 895000 5000]
def Z6w (a0 : Zb) (a1 : (List Za)) (a2 : Zy) (a3 : Zal) : LT Zji (List Int) :=
.lb 1004<|.lb 1006<|.lb 1007<|.call (Zaql a2 a3.N) fun x1=>.lb 1010<|.br (a3.Kind == 1) (.lb 1025<|.rl (cI .i64) [a2.You]<|.callS (Zct a0 [a2.You]) 890000 (fun _ => ⟨rfl, Zcj (cI .i64) (fun _ => rfl) _, trivial⟩) fun x5=>.ret x5 [.relab 895000 5000])<|.br (a3.Kind == 5) (.callF (Z3d a0 a2.You) 320000 fun x8=>.rl (cI .i64) x8<|.callS (Zct a0 x8) 890000 (fun _ => ⟨rfl, Zcj (cI .i64) (fun _ => rfl) _, trivial⟩) fun x10=>.ret x10 [.relab 895000 5000])<|.br (a3.Kind == 6) (.lb 1036<|.call (Zaqn a0 a2.You) fun x14=>.apR (cI .i64) 8 [a2.You] x14 fun x16=>.rl (cI .i64) x16<|.callS (Zct a0 x16) 890000 (fun _ => ⟨rfl, Zcj (cI .i64) (fun _ => rfl) _, trivial⟩) fun x20=>.ret x20 [.relab 895000 5000])<|.br (a3.Kind == 3) (.cs x1.2 (.k4 4<|.br (x1.1.Object == 0) (.lb 1053<|.rl (cI .i64) [x1.1.Player]<|.callS (Zct a0 [x1.1.Player]) 890000 (fun _ => ⟨rfl, Zcj (cI .i64) (fun _ => rfl) _, trivial⟩) fun x26=>.ret x26 [.relab 895000 5000])<|.callF (Zct a0 ([] : (List Int))) 890000 fun x28=>.ret x28 [.relab 895000 5000])<|.k4 4<|.kn [0]<|.callF (Zct a0 ([] : (List Int))) 890000 fun x30=>.ret x30 [.relab 895000 5000])<|.br (a3.Kind == 8) (.cs x1.2 (.k4 5<|.br (x1.1.Object == 0) (.lb 1064<|.jn 0 (.L0 a1 a0 [x1.1.Player] x1.1 x1.2) [.relab 1004 30000000, .relab 1010 30000001, .relab 1064 20000009] (Zgg a1 a0 [x1.1.Player] x1.1 x1.2))<|.jn 0 (.L0 a1 a0 ([] : (List Int)) x1.1 x1.2) [.relab 1004 30000000, .relab 1010 30000001, .own 9 20000009 1] (Zgg a1 a0 ([] : (List Int)) x1.1 x1.2))<|.k4 5<|.kn [0]<|.jn 0 (.L0 a1 a0 ([] : (List Int)) x1.1 x1.2) [.relab 1004 30000000, .relab 1010 30000001, .own 9 20000009 1] (Zgg a1 a0 ([] : (List Int)) x1.1 x1.2))<|.callF (Zct a0 ([] : (List Int))) 890000 fun x36=>.ret x36 [.relab 895000 5000]
def Z6x : LF Zji (List Int) := ⟨16, [.t 8], true, fun | .L0 .. => [1,1,1,0,1,4,1,3,1,3,1,3,1,3,1,2,1],
 fun | .L0 v1 E0 v9 E1 v11 => ⟨89, [(1, (wL Zk v1)), (4, (.bptr 30000000 0)), (9, (wO (cI .i64) 20000009 v9)), (10, (.bptr 30000001 0)), (11, (wB v11))], [(30000000, .box (bx (Zo E0))), (20000009, wR (cI .i64) 1 v9), (30000001, .box (bx (Zbj E1)))]⟩,
 fun r => [(5000, wR (cI .i64) 1 r)], fun r => (wO (cI .i64) 5000 r), fun | .L0 v1 E0 v9 E1 v11 => Zgg v1 E0 v9 E1 v11⟩
def Zrs (a0 : Zb) (a1 : (List Za)) (a2 : Zy) (a3 : Zal) : Option (List Int) := Z6x.run (Z6w a0 a1 a2 a3)
theorem Zak9 (a0 : Zb) (a1 : (List Za)) (a2 : Zy) (a3 : Zal) {r : (List Int)} (h : Zrs a0 a1 a2 a3 = some r) : FnG PR 16 [] [(wA (Zo a0)), (wL Zk a1), (wA (Zbo a2)), (wA (Zbg a3))] [(5000, wR (cI .i64) 1 r)] (wO (cI .i64) 5000 r) := Z6x.fn h
theorem Zanl (a0 : Zb) (a1 : (List Za)) (a2 : Zy) (a3 : Zal) {r : (List Int)} (h : Zrs a0 a1 a2 a3 = some r) : Fn PR 16 [(wA (Zo a0)), (wL Zk a1), (wA (Zbo a2)), (wA (Zbg a3))] (wL (cI .i64) r) :=
 FnG.frozen (C := LT.RL (cI .i64) r ∧ True) (Zak9 a0 a1 a2 a3 h) ⟨rfl, trivial⟩ (by kernel_rfl)
def Zs7 (a0 : (List Zn)) (a1 : Zb) (a2 : Zco) : LT Empty Bool :=
.lb 1004<|.lb 1005<|.call (Zava a0 a1) fun x1=>.cs (!x1) (.k5 0<|.kg 0<|.kn [0]<|.call (Zxa) fun x4=>.rt x4)<|.k4 0<|.len Zbj a2.Ctx.Targets<|.k2 0<|.br (decide ((a2.Ctx.Targets.length : Int) > 8)) (.call (Zxa) fun x8=>.rt x8)<|.call (Za0g a0 a1) fun x10=>.call (Zagj a1 x10 a2.Ctx a2.Ref) fun x12=>.call (Zanl a1 x10 a2.Ctx a2.Ref) fun x14=>.call (Zhq x12 x14) fun x16=>.cs x16 (.kg 2<|.call (Zxa) fun x19=>.kg 2<|.rt x19)<|.k2 2<|.rt false
def Zs8 : LF Empty Bool := .z 4 [.t 6] false (fun r => []) (fun r => (wB r))
def Zne (a0 : (List Zn)) (a1 : Zb) (a2 : Zco) : Option Bool := Zs8.run (Zs7 a0 a1 a2)
theorem Z7g (a0 : (List Zn)) (a1 : Zb) (a2 : Zco) {r : Bool} (h : Zne a0 a1 a2 = some r) : Fn PR 4 [(wL Z6 a0), (wA (Zo a1)), (wA (Zfn a2))] (wB r) := Zs8.fn h
end
end Go.PW
