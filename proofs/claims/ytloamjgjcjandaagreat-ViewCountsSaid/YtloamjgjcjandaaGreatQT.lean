import Derived.Test.YtloamjgjcjandaaGreatPwR
import Derived.Test.YtloamjgjcjandaaGreatProg
import Derived.KernelRfl
set_option linter.all false
namespace Go.PW
open Go.RowKit
noncomputable abbrev PR := Go.Proofs.Tryz.prog
abbrev zi : PV := .t (.int .i64 0)
abbrev ki : LK := .i .i64
abbrev y3 : TInf := ⟨false, 1, 8, some [zi], .int .i64, none⟩
abbrev y4 : TInf := ⟨false, 1, 1, some [.t (.bool false)], .bool, none⟩
abbrev y5 : TInf := ⟨false, 1, 1, some [.t (.int .u8 0)], .int .u8, none⟩
abbrev y9 : TInf := ⟨false, 1, 16, some [.t (.str [])], .str, none⟩
abbrev y22 : TInf := ⟨false, 1, 24, some [.nils], .slice 127, none⟩
abbrev y23 : TInf := ⟨false, 1, 24, some [.nils], .slice 59, none⟩
abbrev y24 : TInf := ⟨false, 1, 24, some [.nils], .slice 44, none⟩
abbrev y25 : TInf := ⟨false, 1, 24, some [.nils], .slice 3, none⟩
abbrev y26 : TInf := ⟨false, 1, 24, some [.nils], .slice 99, none⟩
abbrev y27 : TInf := ⟨false, 1, 24, some [.nils], .slice 103, none⟩
abbrev y28 : TInf := ⟨false, 1, 24, some [.nils], .slice 107, none⟩
abbrev y29 : TInf := ⟨false, 1, 8, some [.t (.int .u64 0)], .int .u64, none⟩
abbrev y31 : TInf := ⟨true, 19, 280, some [.nils, .nils, .nils, .nils, .nils, .nils, .nils, zi, zi, zi, .t (.bool false), zi, zi, zi, zi, .t (.int .u64 0), .nils, zi, zi], .struct [(0, 23), (1, 24), (2, 25), (3, 25), (4, 26), (5, 27), (6, 28), (7, 3), (8, 3), (9, 3), (10, 4), (11, 3), (12, 3), (13, 3), (14, 3), (15, 29), (16, 25), (17, 3), (18, 3)], none⟩
abbrev y32 : TInf := ⟨false, 1, 24, some [.nils], .slice 25, none⟩
abbrev y33 : TInf := ⟨false, 1, 24, some [.nils], .slice 65, none⟩
abbrev y35 : TInf := ⟨true, 7, 72, some [zi, zi, zi, zi, zi, zi, .nils], .struct [(0, 3), (1, 3), (2, 3), (3, 3), (4, 3), (5, 3), (6, 33)], none⟩
abbrev y36 : TInf := ⟨false, 1, 24, some [.nils], .slice 31, none⟩
abbrev y38 : TInf := ⟨true, 30, 432, some [.nils, .nils, .nils, .nils, .nils, .nils, .nils, .nils, zi, zi, zi, .t (.bool false), zi, zi, zi, zi, .t (.int .u64 0), .nils, zi, zi, .nils, zi, zi, zi, zi, zi, zi, .nils, zi, .nils], .struct [(0, 22), (1, 31), (20, 32), (21, 35), (28, 3), (29, 36)], none⟩
abbrev y42 : TInf := ⟨true, 3, 24, some [zi, zi, zi], .arr 3 3, some (30, [ki, ki, ki])⟩
abbrev y44 : TInf := ⟨true, 19, 128, some [zi, zi, zi, zi, zi, .t (.bool false), .t (.bool false), .t (.bool false), .t (.bool false), zi, zi, zi, zi, zi, zi, zi, .t (.bool false), zi, zi], .struct [(0, 3), (1, 3), (2, 3), (3, 3), (4, 3), (5, 4), (6, 4), (7, 4), (8, 4), (9, 3), (10, 42), (13, 3), (14, 3), (15, 3), (16, 4), (17, 3), (18, 3)], some (30, [ki, ki, ki, ki, ki, .b, .b, .b, .b, ki, ki, ki, ki, ki, ki, ki, .b, ki, ki])⟩
abbrev y46 : TInf := ⟨true, 2, 16, some [zi, zi], .arr 2 3, some (30, [ki, ki])⟩
abbrev y47 : TInf := ⟨false, 1, 24, some [.nils], .slice 62, none⟩
abbrev y49 : TInf := ⟨true, 25, 360, some [zi, .nils, .nils, .nils, .nils, .nils, .nils, .nils, .nils, zi, zi, zi, zi, zi, zi, zi, zi, .nils, zi, zi, zi, zi, zi, zi, .nils], .struct [(0, 3), (1, 47), (2, 25), (3, 24), (4, 25), (5, 25), (6, 26), (7, 27), (8, 28), (9, 3), (10, 3), (11, 3), (12, 3), (13, 3), (14, 3), (15, 3), (16, 3), (17, 25), (18, 35)], none⟩
abbrev y57 : TInf := ⟨true, 6, 48, some [zi, zi, zi, zi, zi, zi], .arr 6 3, some (30, [ki, ki, ki, ki, ki, ki])⟩
abbrev y59 : TInf := ⟨true, 14, 152, some [zi, zi, zi, zi, zi, zi, zi, zi, zi, .t (.bool false), .t (.bool false), .nils, .nils, .nils], .struct [(0, 3), (1, 3), (2, 3), (3, 57), (9, 4), (10, 4), (11, 25), (12, 25), (13, 25)], none⟩
abbrev y62 : TInf := ⟨true, 13, 120, some [zi, zi, zi, zi, zi, zi, zi, zi, zi, zi, zi, .t (.bool false), .nils], .struct [(0, 3), (1, 3), (2, 3), (3, 3), (4, 3), (5, 57), (11, 4), (12, 25)], none⟩
abbrev y65 : TInf := ⟨true, 3, 24, some [zi, zi, zi], .struct [(0, 3), (1, 3), (2, 3)], some (30, [ki, ki, ki])⟩
abbrev y78 : TInf := ⟨true, 2, 16, some [zi, zi], .struct [(0, 3), (1, 3)], some (30, [ki, ki])⟩
abbrev y80 : TInf := ⟨true, 16, 136, some [zi, zi, zi, zi, zi, zi, zi, .t (.str []), zi, zi, zi, zi, zi, zi, zi, zi], .struct [(0, 3), (1, 3), (2, 3), (3, 3), (4, 3), (5, 3), (6, 3), (7, 9), (8, 3), (9, 3), (10, 78), (12, 78), (14, 78)], some (30, [ki, ki, ki, ki, ki, ki, ki, .s, ki, ki, ki, ki, ki, ki, ki, ki])⟩
abbrev y81 : TInf := ⟨false, 1, 24, some [.nils], .slice 136, none⟩
abbrev y82 : TInf := ⟨true, 5, 40, some [zi, zi, zi, zi, zi], .arr 5 3, some (30, [ki, ki, ki, ki, ki])⟩
abbrev y84 : TInf := ⟨true, 7, 56, some [zi, zi, zi, zi, zi, zi, zi], .struct [(0, 3), (1, 3), (2, 82)], some (30, [ki, ki, ki, ki, ki, ki, ki])⟩
abbrev y86 : TInf := ⟨true, 10, 72, some [zi, zi, zi, zi, zi, zi, zi, .t (.bool false), .t (.bool false), zi], .struct [(0, 84), (7, 4), (8, 4), (9, 3)], some (30, [ki, ki, ki, ki, ki, ki, ki, .b, .b, ki])⟩
abbrev y88 : TInf := ⟨true, 18, 152, some [zi, zi, zi, zi, zi, zi, zi, zi, zi, .t (.str []), zi, zi, zi, zi, zi, zi, zi, zi], .struct [(0, 3), (1, 3), (2, 80)], some (30, [ki, ki, ki, ki, ki, ki, ki, ki, ki, .s, ki, ki, ki, ki, ki, ki, ki, ki])⟩
abbrev y89 : TInf := ⟨false, 1, 24, some [.nils], .slice 166, none⟩
abbrev y90 : TInf := ⟨false, 1, 24, some [.nils], .slice 143, none⟩
abbrev y92 : TInf := ⟨true, 22, 184, some [zi, zi, zi, zi, zi, zi, zi, zi, zi, .t (.str []), zi, zi, zi, zi, zi, zi, zi, zi, zi, zi, zi, zi], .struct [(0, 3), (1, 3), (2, 80), (18, 3), (19, 3), (20, 3), (21, 3)], some (30, [ki, ki, ki, ki, ki, ki, ki, ki, ki, .s, ki, ki, ki, ki, ki, ki, ki, ki, ki, ki, ki, ki])⟩
abbrev y94 : TInf := ⟨true, 72, 640, some [zi, zi, zi, zi, zi, zi, zi, zi, .t (.str []), zi, zi, zi, zi, zi, zi, zi, zi, .nils, zi, zi, zi, zi, zi, zi, zi, .t (.bool false), .t (.bool false), zi, .t (.bool false), zi, zi, zi, zi, zi, zi, zi, zi, zi, .t (.str []), zi, zi, zi, zi, zi, zi, zi, zi, .t (.bool false), .nils, .nils, zi, zi, zi, zi, zi, zi, zi, zi, zi, .t (.str []), zi, zi, zi, zi, zi, zi, zi, zi, zi, zi, zi, zi], .struct [(0, 3), (1, 80), (17, 81), (18, 86), (28, 4), (29, 88), (47, 4), (48, 89), (49, 90), (50, 92)], none⟩
abbrev y95 : TInf := ⟨false, 1, 24, some [.nils], .slice 132, none⟩
abbrev y97 : TInf := ⟨true, 15, 112, some [zi, zi, zi, zi, zi, zi, zi, zi, zi, zi, .t (.bool false), .t (.bool false), zi, zi, zi], .struct [(0, 3), (1, 3), (2, 3), (3, 3), (4, 3), (5, 3), (6, 3), (7, 3), (8, 3), (9, 3), (10, 4), (11, 4), (12, 42)], some (30, [ki, ki, ki, ki, ki, ki, ki, ki, ki, ki, .b, .b, ki, ki, ki])⟩
abbrev y99 : TInf := ⟨true, 94, 824, some [zi, zi, zi, zi, zi, .t (.bool false), zi, zi, zi, zi, zi, zi, zi, zi, .t (.str []), zi, zi, zi, zi, zi, zi, zi, zi, .nils, zi, zi, zi, zi, zi, zi, zi, .t (.bool false), .t (.bool false), zi, .t (.bool false), zi, zi, zi, zi, zi, zi, zi, zi, zi, .t (.str []), zi, zi, zi, zi, zi, zi, zi, zi, .t (.bool false), .nils, .nils, zi, zi, zi, zi, zi, zi, zi, zi, zi, .t (.str []), zi, zi, zi, zi, zi, zi, zi, zi, zi, zi, zi, zi, .nils, zi, zi, zi, zi, zi, zi, zi, zi, zi, zi, .t (.bool false), .t (.bool false), zi, zi, zi], .struct [(0, 3), (1, 3), (2, 3), (3, 3), (4, 3), (5, 4), (6, 94), (78, 95), (79, 97)], none⟩
abbrev y103 : TInf := ⟨true, 89, 768, some [zi, zi, zi, zi, zi, zi, zi, zi, zi, zi, .t (.str []), zi, zi, zi, zi, zi, zi, zi, zi, .nils, zi, zi, zi, zi, zi, zi, zi, .t (.bool false), .t (.bool false), zi, .t (.bool false), zi, zi, zi, zi, zi, zi, zi, zi, zi, .t (.str []), zi, zi, zi, zi, zi, zi, zi, zi, .t (.bool false), .nils, .nils, zi, zi, zi, zi, zi, zi, zi, zi, zi, .t (.str []), zi, zi, zi, zi, zi, zi, zi, zi, zi, zi, zi, zi, zi, zi, zi, zi, zi, zi, zi, zi, zi, zi, .t (.bool false), .t (.bool false), zi, zi, zi], .struct [(0, 3), (1, 3), (2, 94), (74, 97)], none⟩
abbrev y107 : TInf := ⟨true, 6, 80, some [zi, zi, zi, zi, .nils, .nils], .struct [(0, 3), (1, 3), (2, 3), (3, 3), (4, 25), (5, 81)], none⟩
abbrev y119 : TInf := ⟨false, 1, 8, some [zi], .int .i64, none⟩
abbrev y122 : TInf := ⟨false, 1, 24, some [.nils], .slice 9, none⟩
abbrev y124 : TInf := ⟨true, 3, 40, some [zi, zi, .nils], .struct [(0, 3), (1, 3), (2, 122)], none⟩
abbrev y125 : TInf := ⟨false, 1, 24, some [.nils], .slice 94, none⟩
abbrev y127 : TInf := ⟨true, 17, 176, some [.t (.str []), .t (.bool false), zi, zi, zi, zi, zi, zi, zi, zi, zi, zi, .nils, zi, zi, zi, .nils], .struct [(0, 9), (1, 4), (2, 84), (9, 3), (10, 124), (13, 3), (14, 3), (15, 3), (16, 125)], none⟩
abbrev y132 : TInf := ⟨true, 2, 16, some [zi, zi], .struct [(0, 3), (1, 3)], some (30, [ki, ki])⟩
abbrev y136 : TInf := ⟨true, 20, 176, some [zi, zi, zi, .t (.str []), zi, zi, zi, zi, zi, zi, zi, .t (.str []), zi, zi, zi, zi, zi, zi, zi, zi], .struct [(0, 3), (1, 3), (2, 3), (3, 9), (4, 80)], some (30, [ki, ki, ki, .s, ki, ki, ki, ki, ki, ki, ki, .s, ki, ki, ki, ki, ki, ki, ki, ki])⟩
abbrev y139 : TInf := ⟨true, 18, 152, some [zi, zi, zi, zi, zi, zi, zi, zi, zi, .t (.str []), zi, zi, zi, zi, zi, zi, zi, zi], .struct [(0, 3), (1, 3), (2, 80)], some (30, [ki, ki, ki, ki, ki, ki, ki, ki, ki, .s, ki, ki, ki, ki, ki, ki, ki, ki])⟩
abbrev y141 : TInf := ⟨true, 19, 160, some [zi, zi, zi, zi, zi, zi, zi, zi, zi, zi, .t (.str []), zi, zi, zi, zi, zi, zi, zi, zi], .struct [(0, 3), (1, 3), (2, 3), (3, 80)], some (30, [ki, ki, ki, ki, ki, ki, ki, ki, ki, ki, .s, ki, ki, ki, ki, ki, ki, ki, ki])⟩
abbrev y143 : TInf := ⟨true, 64, 560, some [zi, zi, zi, zi, zi, zi, zi, zi, zi, zi, .t (.str []), zi, zi, zi, zi, zi, zi, zi, zi, zi, zi, zi, zi, zi, zi, zi, zi, zi, zi, .t (.str []), zi, zi, zi, zi, zi, zi, zi, zi, zi, zi, .t (.str []), zi, zi, zi, zi, zi, zi, zi, .t (.str []), zi, zi, zi, zi, zi, zi, zi, zi, zi, zi, zi, zi, zi, zi, .nils], .struct [(0, 3), (1, 139), (19, 141), (38, 3), (39, 3), (40, 9), (41, 80), (57, 57), (63, 81)], none⟩
abbrev y166 : TInf := ⟨true, 18, 144, some [.t (.bool false), .t (.bool false), zi, zi, zi, zi, zi, zi, zi, .t (.str []), zi, zi, zi, zi, zi, zi, zi, zi], .struct [(0, 4), (1, 4), (2, 80)], some (30, [.b, .b, ki, ki, ki, ki, ki, ki, ki, .s, ki, ki, ki, ki, ki, ki, ki, ki])⟩
abbrev y219 : TInf := ⟨false, 1, 24, some [.nils], .slice 5, none⟩
def T : TS := [
 (3, y3),
 (4, y4),
 (5, y5),
 (9, y9),
 (22, y22),
 (23, y23),
 (24, y24),
 (25, y25),
 (26, y26),
 (27, y27),
 (28, y28),
 (29, y29),
 (31, y31),
 (32, y32),
 (33, y33),
 (35, y35),
 (36, y36),
 (38, y38),
 (42, y42),
 (44, y44),
 (46, y46),
 (47, y47),
 (49, y49),
 (57, y57),
 (59, y59),
 (62, y62),
 (65, y65),
 (78, y78),
 (80, y80),
 (81, y81),
 (82, y82),
 (84, y84),
 (86, y86),
 (88, y88),
 (89, y89),
 (90, y90),
 (92, y92),
 (94, y94),
 (95, y95),
 (97, y97),
 (99, y99),
 (103, y103),
 (107, y107),
 (119, y119),
 (122, y122),
 (124, y124),
 (125, y125),
 (127, y127),
 (132, y132),
 (136, y136),
 (139, y139),
 (141, y141),
 (143, y143),
 (166, y166),
 (219, y219)]
theorem Zbry : Zb1 Go.Proofs.Tryz.prog 3 y3 where
 ty := ⟨⟨_, Go.Proofs.Tryz.underlying3, rfl⟩, by kernel_rfl⟩
 by_ := by kernel_rfl
 z := fun z hz => (by kernel_rfl : Zay Go.Proofs.Tryz.prog 3 = y3.zero).trans hz
 k := Go.Proofs.Tryz.underlying3
 fl := fun d ks h => nomatch h
theorem Zbrz : Zb1 Go.Proofs.Tryz.prog 4 y4 where
 ty := ⟨⟨_, Go.Proofs.Tryz.underlying4, rfl⟩, by kernel_rfl⟩
 by_ := by kernel_rfl
 z := fun z hz => (by kernel_rfl : Zay Go.Proofs.Tryz.prog 4 = y4.zero).trans hz
 k := Go.Proofs.Tryz.underlying4
 fl := fun d ks h => nomatch h
theorem Zbr0 : Zb1 Go.Proofs.Tryz.prog 5 y5 where
 ty := ⟨⟨_, Go.Proofs.Tryz.underlying5, rfl⟩, by kernel_rfl⟩
 by_ := by kernel_rfl
 z := fun z hz => (by kernel_rfl : Zay Go.Proofs.Tryz.prog 5 = y5.zero).trans hz
 k := Go.Proofs.Tryz.underlying5
 fl := fun d ks h => nomatch h
theorem Zbr1 : Zb1 Go.Proofs.Tryz.prog 9 y9 where
 ty := ⟨⟨_, Go.Proofs.Tryz.underlying9, rfl⟩, by kernel_rfl⟩
 by_ := by kernel_rfl
 z := fun z hz => (by kernel_rfl : Zay Go.Proofs.Tryz.prog 9 = y9.zero).trans hz
 k := Go.Proofs.Tryz.underlying9
 fl := fun d ks h => nomatch h
theorem Zbqq : Zb1 Go.Proofs.Tryz.prog 22 y22 where
 ty := ⟨⟨_, Go.Proofs.Tryz.underlying22, rfl⟩, by kernel_rfl⟩
 by_ := by kernel_rfl
 z := fun z hz => (by kernel_rfl : Zay Go.Proofs.Tryz.prog 22 = y22.zero).trans hz
 k := Go.Proofs.Tryz.underlying22
 fl := fun d ks h => nomatch h
theorem Zbqr : Zb1 Go.Proofs.Tryz.prog 23 y23 where
 ty := ⟨⟨_, Go.Proofs.Tryz.underlying23, rfl⟩, by kernel_rfl⟩
 by_ := by kernel_rfl
 z := fun z hz => (by kernel_rfl : Zay Go.Proofs.Tryz.prog 23 = y23.zero).trans hz
 k := Go.Proofs.Tryz.underlying23
 fl := fun d ks h => nomatch h
theorem Zbqs : Zb1 Go.Proofs.Tryz.prog 24 y24 where
 ty := ⟨⟨_, Go.Proofs.Tryz.underlying24, rfl⟩, by kernel_rfl⟩
 by_ := by kernel_rfl
 z := fun z hz => (by kernel_rfl : Zay Go.Proofs.Tryz.prog 24 = y24.zero).trans hz
 k := Go.Proofs.Tryz.underlying24
 fl := fun d ks h => nomatch h
theorem Zbqt : Zb1 Go.Proofs.Tryz.prog 25 y25 where
 ty := ⟨⟨_, Go.Proofs.Tryz.underlying25, rfl⟩, by kernel_rfl⟩
 by_ := by kernel_rfl
 z := fun z hz => (by kernel_rfl : Zay Go.Proofs.Tryz.prog 25 = y25.zero).trans hz
 k := Go.Proofs.Tryz.underlying25
 fl := fun d ks h => nomatch h
theorem Zbqu : Zb1 Go.Proofs.Tryz.prog 26 y26 where
 ty := ⟨⟨_, Go.Proofs.Tryz.underlying26, rfl⟩, by kernel_rfl⟩
 by_ := by kernel_rfl
 z := fun z hz => (by kernel_rfl : Zay Go.Proofs.Tryz.prog 26 = y26.zero).trans hz
 k := Go.Proofs.Tryz.underlying26
 fl := fun d ks h => nomatch h
theorem Zbqv : Zb1 Go.Proofs.Tryz.prog 27 y27 where
 ty := ⟨⟨_, Go.Proofs.Tryz.underlying27, rfl⟩, by kernel_rfl⟩
 by_ := by kernel_rfl
 z := fun z hz => (by kernel_rfl : Zay Go.Proofs.Tryz.prog 27 = y27.zero).trans hz
 k := Go.Proofs.Tryz.underlying27
 fl := fun d ks h => nomatch h
theorem Zbqw : Zb1 Go.Proofs.Tryz.prog 28 y28 where
 ty := ⟨⟨_, Go.Proofs.Tryz.underlying28, rfl⟩, by kernel_rfl⟩
 by_ := by kernel_rfl
 z := fun z hz => (by kernel_rfl : Zay Go.Proofs.Tryz.prog 28 = y28.zero).trans hz
 k := Go.Proofs.Tryz.underlying28
 fl := fun d ks h => nomatch h
theorem Zbqx : Zb1 Go.Proofs.Tryz.prog 29 y29 where
 ty := ⟨⟨_, Go.Proofs.Tryz.underlying29, rfl⟩, by kernel_rfl⟩
 by_ := by kernel_rfl
 z := fun z hz => (by kernel_rfl : Zay Go.Proofs.Tryz.prog 29 = y29.zero).trans hz
 k := Go.Proofs.Tryz.underlying29
 fl := fun d ks h => nomatch h
theorem Zbqy : Zb1 Go.Proofs.Tryz.prog 31 y31 where
 ty := ⟨⟨_, Go.Proofs.Tryz.underlying31, rfl⟩, by kernel_rfl⟩
 by_ := by kernel_rfl
 z := fun z hz => (by kernel_rfl : Zay Go.Proofs.Tryz.prog 31 = y31.zero).trans hz
 k := ⟨_, Go.Proofs.Tryz.underlying31, by kernel_rfl⟩
 fl := fun d ks h => nomatch h
theorem Zbqz : Zb1 Go.Proofs.Tryz.prog 32 y32 where
 ty := ⟨⟨_, Go.Proofs.Tryz.underlying32, rfl⟩, by kernel_rfl⟩
 by_ := by kernel_rfl
 z := fun z hz => (by kernel_rfl : Zay Go.Proofs.Tryz.prog 32 = y32.zero).trans hz
 k := Go.Proofs.Tryz.underlying32
 fl := fun d ks h => nomatch h
theorem Zbq0 : Zb1 Go.Proofs.Tryz.prog 33 y33 where
 ty := ⟨⟨_, Go.Proofs.Tryz.underlying33, rfl⟩, by kernel_rfl⟩
 by_ := by kernel_rfl
 z := fun z hz => (by kernel_rfl : Zay Go.Proofs.Tryz.prog 33 = y33.zero).trans hz
 k := Go.Proofs.Tryz.underlying33
 fl := fun d ks h => nomatch h
theorem Zbq1 : Zb1 Go.Proofs.Tryz.prog 35 y35 where
 ty := ⟨⟨_, Go.Proofs.Tryz.underlying35, rfl⟩, by kernel_rfl⟩
 by_ := by kernel_rfl
 z := fun z hz => (by kernel_rfl : Zay Go.Proofs.Tryz.prog 35 = y35.zero).trans hz
 k := ⟨_, Go.Proofs.Tryz.underlying35, by kernel_rfl⟩
 fl := fun d ks h => nomatch h
theorem Zbq2 : Zb1 Go.Proofs.Tryz.prog 36 y36 where
 ty := ⟨⟨_, Go.Proofs.Tryz.underlying36, rfl⟩, by kernel_rfl⟩
 by_ := by kernel_rfl
 z := fun z hz => (by kernel_rfl : Zay Go.Proofs.Tryz.prog 36 = y36.zero).trans hz
 k := Go.Proofs.Tryz.underlying36
 fl := fun d ks h => nomatch h
theorem Zbq3 : Zb1 Go.Proofs.Tryz.prog 38 y38 where
 ty := ⟨⟨_, Go.Proofs.Tryz.underlying38, rfl⟩, by kernel_rfl⟩
 by_ := by kernel_rfl
 z := fun z hz => (by kernel_rfl : Zay Go.Proofs.Tryz.prog 38 = y38.zero).trans hz
 k := ⟨_, Go.Proofs.Tryz.underlying38, by kernel_rfl⟩
 fl := fun d ks h => nomatch h
theorem Zbq4 : Zb1 Go.Proofs.Tryz.prog 42 y42 where
 ty := ⟨⟨_, Go.Proofs.Tryz.underlying42, rfl⟩, by kernel_rfl⟩
 by_ := by kernel_rfl
 z := fun z hz => (by kernel_rfl : Zay Go.Proofs.Tryz.prog 42 = y42.zero).trans hz
 k := Go.Proofs.Tryz.underlying42
 fl := fun d ks h => by cases h; exact ⟨by decide, by kernel_rfl, rfl, by kernel_rfl⟩
theorem Zbq5 : Zb1 Go.Proofs.Tryz.prog 44 y44 where
 ty := ⟨⟨_, Go.Proofs.Tryz.underlying44, rfl⟩, by kernel_rfl⟩
 by_ := by kernel_rfl
 z := fun z hz => (by kernel_rfl : Zay Go.Proofs.Tryz.prog 44 = y44.zero).trans hz
 k := ⟨_, Go.Proofs.Tryz.underlying44, by kernel_rfl⟩
 fl := fun d ks h => by cases h; exact ⟨by decide, by kernel_rfl, rfl, by kernel_rfl⟩
theorem Zbq6 : Zb1 Go.Proofs.Tryz.prog 46 y46 where
 ty := ⟨⟨_, Go.Proofs.Tryz.underlying46, rfl⟩, by kernel_rfl⟩
 by_ := by kernel_rfl
 z := fun z hz => (by kernel_rfl : Zay Go.Proofs.Tryz.prog 46 = y46.zero).trans hz
 k := Go.Proofs.Tryz.underlying46
 fl := fun d ks h => by cases h; exact ⟨by decide, by kernel_rfl, rfl, by kernel_rfl⟩
theorem Zbq7 : Zb1 Go.Proofs.Tryz.prog 47 y47 where
 ty := ⟨⟨_, Go.Proofs.Tryz.underlying47, rfl⟩, by kernel_rfl⟩
 by_ := by kernel_rfl
 z := fun z hz => (by kernel_rfl : Zay Go.Proofs.Tryz.prog 47 = y47.zero).trans hz
 k := Go.Proofs.Tryz.underlying47
 fl := fun d ks h => nomatch h
theorem Zbq8 : Zb1 Go.Proofs.Tryz.prog 49 y49 where
 ty := ⟨⟨_, Go.Proofs.Tryz.underlying49, rfl⟩, by kernel_rfl⟩
 by_ := by kernel_rfl
 z := fun z hz => (by kernel_rfl : Zay Go.Proofs.Tryz.prog 49 = y49.zero).trans hz
 k := ⟨_, Go.Proofs.Tryz.underlying49, by kernel_rfl⟩
 fl := fun d ks h => nomatch h
theorem Zbq9 : Zb1 Go.Proofs.Tryz.prog 57 y57 where
 ty := ⟨⟨_, Go.Proofs.Tryz.underlying57, rfl⟩, by kernel_rfl⟩
 by_ := by kernel_rfl
 z := fun z hz => (by kernel_rfl : Zay Go.Proofs.Tryz.prog 57 = y57.zero).trans hz
 k := Go.Proofs.Tryz.underlying57
 fl := fun d ks h => by cases h; exact ⟨by decide, by kernel_rfl, rfl, by kernel_rfl⟩
theorem Zbra : Zb1 Go.Proofs.Tryz.prog 59 y59 where
 ty := ⟨⟨_, Go.Proofs.Tryz.underlying59, rfl⟩, by kernel_rfl⟩
 by_ := by kernel_rfl
 z := fun z hz => (by kernel_rfl : Zay Go.Proofs.Tryz.prog 59 = y59.zero).trans hz
 k := ⟨_, Go.Proofs.Tryz.underlying59, by kernel_rfl⟩
 fl := fun d ks h => nomatch h
theorem Zbrb : Zb1 Go.Proofs.Tryz.prog 62 y62 where
 ty := ⟨⟨_, Go.Proofs.Tryz.underlying62, rfl⟩, by kernel_rfl⟩
 by_ := by kernel_rfl
 z := fun z hz => (by kernel_rfl : Zay Go.Proofs.Tryz.prog 62 = y62.zero).trans hz
 k := ⟨_, Go.Proofs.Tryz.underlying62, by kernel_rfl⟩
 fl := fun d ks h => nomatch h
theorem Zbrc : Zb1 Go.Proofs.Tryz.prog 65 y65 where
 ty := ⟨⟨_, Go.Proofs.Tryz.underlying65, rfl⟩, by kernel_rfl⟩
 by_ := by kernel_rfl
 z := fun z hz => (by kernel_rfl : Zay Go.Proofs.Tryz.prog 65 = y65.zero).trans hz
 k := ⟨_, Go.Proofs.Tryz.underlying65, by kernel_rfl⟩
 fl := fun d ks h => by cases h; exact ⟨by decide, by kernel_rfl, rfl, by kernel_rfl⟩
theorem Zbrd : Zb1 Go.Proofs.Tryz.prog 78 y78 where
 ty := ⟨⟨_, Go.Proofs.Tryz.underlying78, rfl⟩, by kernel_rfl⟩
 by_ := by kernel_rfl
 z := fun z hz => (by kernel_rfl : Zay Go.Proofs.Tryz.prog 78 = y78.zero).trans hz
 k := ⟨_, Go.Proofs.Tryz.underlying78, by kernel_rfl⟩
 fl := fun d ks h => by cases h; exact ⟨by decide, by kernel_rfl, rfl, by kernel_rfl⟩
theorem Zbre : Zb1 Go.Proofs.Tryz.prog 80 y80 where
 ty := ⟨⟨_, Go.Proofs.Tryz.underlying80, rfl⟩, by kernel_rfl⟩
 by_ := by kernel_rfl
 z := fun z hz => (by kernel_rfl : Zay Go.Proofs.Tryz.prog 80 = y80.zero).trans hz
 k := ⟨_, Go.Proofs.Tryz.underlying80, by kernel_rfl⟩
 fl := fun d ks h => by cases h; exact ⟨by decide, by kernel_rfl, rfl, by kernel_rfl⟩
theorem Zbrf : Zb1 Go.Proofs.Tryz.prog 81 y81 where
 ty := ⟨⟨_, Go.Proofs.Tryz.underlying81, rfl⟩, by kernel_rfl⟩
 by_ := by kernel_rfl
 z := fun z hz => (by kernel_rfl : Zay Go.Proofs.Tryz.prog 81 = y81.zero).trans hz
 k := Go.Proofs.Tryz.underlying81
 fl := fun d ks h => nomatch h
theorem Zbrg : Zb1 Go.Proofs.Tryz.prog 82 y82 where
 ty := ⟨⟨_, Go.Proofs.Tryz.underlying82, rfl⟩, by kernel_rfl⟩
 by_ := by kernel_rfl
 z := fun z hz => (by kernel_rfl : Zay Go.Proofs.Tryz.prog 82 = y82.zero).trans hz
 k := Go.Proofs.Tryz.underlying82
 fl := fun d ks h => by cases h; exact ⟨by decide, by kernel_rfl, rfl, by kernel_rfl⟩
theorem Zbrh : Zb1 Go.Proofs.Tryz.prog 84 y84 where
 ty := ⟨⟨_, Go.Proofs.Tryz.underlying84, rfl⟩, by kernel_rfl⟩
 by_ := by kernel_rfl
 z := fun z hz => (by kernel_rfl : Zay Go.Proofs.Tryz.prog 84 = y84.zero).trans hz
 k := ⟨_, Go.Proofs.Tryz.underlying84, by kernel_rfl⟩
 fl := fun d ks h => by cases h; exact ⟨by decide, by kernel_rfl, rfl, by kernel_rfl⟩
theorem Zbri : Zb1 Go.Proofs.Tryz.prog 86 y86 where
 ty := ⟨⟨_, Go.Proofs.Tryz.underlying86, rfl⟩, by kernel_rfl⟩
 by_ := by kernel_rfl
 z := fun z hz => (by kernel_rfl : Zay Go.Proofs.Tryz.prog 86 = y86.zero).trans hz
 k := ⟨_, Go.Proofs.Tryz.underlying86, by kernel_rfl⟩
 fl := fun d ks h => by cases h; exact ⟨by decide, by kernel_rfl, rfl, by kernel_rfl⟩
theorem Zbrj : Zb1 Go.Proofs.Tryz.prog 88 y88 where
 ty := ⟨⟨_, Go.Proofs.Tryz.underlying88, rfl⟩, by kernel_rfl⟩
 by_ := by kernel_rfl
 z := fun z hz => (by kernel_rfl : Zay Go.Proofs.Tryz.prog 88 = y88.zero).trans hz
 k := ⟨_, Go.Proofs.Tryz.underlying88, by kernel_rfl⟩
 fl := fun d ks h => by cases h; exact ⟨by decide, by kernel_rfl, rfl, by kernel_rfl⟩
theorem Zbrk : Zb1 Go.Proofs.Tryz.prog 89 y89 where
 ty := ⟨⟨_, Go.Proofs.Tryz.underlying89, rfl⟩, by kernel_rfl⟩
 by_ := by kernel_rfl
 z := fun z hz => (by kernel_rfl : Zay Go.Proofs.Tryz.prog 89 = y89.zero).trans hz
 k := Go.Proofs.Tryz.underlying89
 fl := fun d ks h => nomatch h
theorem Zbrl : Zb1 Go.Proofs.Tryz.prog 90 y90 where
 ty := ⟨⟨_, Go.Proofs.Tryz.underlying90, rfl⟩, by kernel_rfl⟩
 by_ := by kernel_rfl
 z := fun z hz => (by kernel_rfl : Zay Go.Proofs.Tryz.prog 90 = y90.zero).trans hz
 k := Go.Proofs.Tryz.underlying90
 fl := fun d ks h => nomatch h
theorem Zbrm : Zb1 Go.Proofs.Tryz.prog 92 y92 where
 ty := ⟨⟨_, Go.Proofs.Tryz.underlying92, rfl⟩, by kernel_rfl⟩
 by_ := by kernel_rfl
 z := fun z hz => (by kernel_rfl : Zay Go.Proofs.Tryz.prog 92 = y92.zero).trans hz
 k := ⟨_, Go.Proofs.Tryz.underlying92, by kernel_rfl⟩
 fl := fun d ks h => by cases h; exact ⟨by decide, by kernel_rfl, rfl, by kernel_rfl⟩
theorem Zbrn : Zb1 Go.Proofs.Tryz.prog 94 y94 where
 ty := ⟨⟨_, Go.Proofs.Tryz.underlying94, rfl⟩, by kernel_rfl⟩
 by_ := by kernel_rfl
 z := fun z hz => (by kernel_rfl : Zay Go.Proofs.Tryz.prog 94 = y94.zero).trans hz
 k := ⟨_, Go.Proofs.Tryz.underlying94, by kernel_rfl⟩
 fl := fun d ks h => nomatch h
theorem Zbro : Zb1 Go.Proofs.Tryz.prog 95 y95 where
 ty := ⟨⟨_, Go.Proofs.Tryz.underlying95, rfl⟩, by kernel_rfl⟩
 by_ := by kernel_rfl
 z := fun z hz => (by kernel_rfl : Zay Go.Proofs.Tryz.prog 95 = y95.zero).trans hz
 k := Go.Proofs.Tryz.underlying95
 fl := fun d ks h => nomatch h
theorem Zbrp : Zb1 Go.Proofs.Tryz.prog 97 y97 where
 ty := ⟨⟨_, Go.Proofs.Tryz.underlying97, rfl⟩, by kernel_rfl⟩
 by_ := by kernel_rfl
 z := fun z hz => (by kernel_rfl : Zay Go.Proofs.Tryz.prog 97 = y97.zero).trans hz
 k := ⟨_, Go.Proofs.Tryz.underlying97, by kernel_rfl⟩
 fl := fun d ks h => by cases h; exact ⟨by decide, by kernel_rfl, rfl, by kernel_rfl⟩
theorem Zbrq : Zb1 Go.Proofs.Tryz.prog 99 y99 where
 ty := ⟨⟨_, Go.Proofs.Tryz.underlying99, rfl⟩, by kernel_rfl⟩
 by_ := by kernel_rfl
 z := fun z hz => (by kernel_rfl : Zay Go.Proofs.Tryz.prog 99 = y99.zero).trans hz
 k := ⟨_, Go.Proofs.Tryz.underlying99, by kernel_rfl⟩
 fl := fun d ks h => nomatch h
theorem Zbpr : Zb1 Go.Proofs.Tryz.prog 103 y103 where
 ty := ⟨⟨_, Go.Proofs.Tryz.underlying103, rfl⟩, by kernel_rfl⟩
 by_ := by kernel_rfl
 z := fun z hz => (by kernel_rfl : Zay Go.Proofs.Tryz.prog 103 = y103.zero).trans hz
 k := ⟨_, Go.Proofs.Tryz.underlying103, by kernel_rfl⟩
 fl := fun d ks h => nomatch h
theorem Zbps : Zb1 Go.Proofs.Tryz.prog 107 y107 where
 ty := ⟨⟨_, Go.Proofs.Tryz.underlying107, rfl⟩, by kernel_rfl⟩
 by_ := by kernel_rfl
 z := fun z hz => (by kernel_rfl : Zay Go.Proofs.Tryz.prog 107 = y107.zero).trans hz
 k := ⟨_, Go.Proofs.Tryz.underlying107, by kernel_rfl⟩
 fl := fun d ks h => nomatch h
theorem Zbpt : Zb1 Go.Proofs.Tryz.prog 119 y119 where
 ty := ⟨⟨_, Go.Proofs.Tryz.underlying119, rfl⟩, by kernel_rfl⟩
 by_ := by kernel_rfl
 z := fun z hz => (by kernel_rfl : Zay Go.Proofs.Tryz.prog 119 = y119.zero).trans hz
 k := Go.Proofs.Tryz.underlying119
 fl := fun d ks h => nomatch h
theorem Zbpu : Zb1 Go.Proofs.Tryz.prog 122 y122 where
 ty := ⟨⟨_, Go.Proofs.Tryz.underlying122, rfl⟩, by kernel_rfl⟩
 by_ := by kernel_rfl
 z := fun z hz => (by kernel_rfl : Zay Go.Proofs.Tryz.prog 122 = y122.zero).trans hz
 k := Go.Proofs.Tryz.underlying122
 fl := fun d ks h => nomatch h
theorem Zbpv : Zb1 Go.Proofs.Tryz.prog 124 y124 where
 ty := ⟨⟨_, Go.Proofs.Tryz.underlying124, rfl⟩, by kernel_rfl⟩
 by_ := by kernel_rfl
 z := fun z hz => (by kernel_rfl : Zay Go.Proofs.Tryz.prog 124 = y124.zero).trans hz
 k := ⟨_, Go.Proofs.Tryz.underlying124, by kernel_rfl⟩
 fl := fun d ks h => nomatch h
theorem Zbpw : Zb1 Go.Proofs.Tryz.prog 125 y125 where
 ty := ⟨⟨_, Go.Proofs.Tryz.underlying125, rfl⟩, by kernel_rfl⟩
 by_ := by kernel_rfl
 z := fun z hz => (by kernel_rfl : Zay Go.Proofs.Tryz.prog 125 = y125.zero).trans hz
 k := Go.Proofs.Tryz.underlying125
 fl := fun d ks h => nomatch h
theorem Zbpx : Zb1 Go.Proofs.Tryz.prog 127 y127 where
 ty := ⟨⟨_, Go.Proofs.Tryz.underlying127, rfl⟩, by kernel_rfl⟩
 by_ := by kernel_rfl
 z := fun z hz => (by kernel_rfl : Zay Go.Proofs.Tryz.prog 127 = y127.zero).trans hz
 k := ⟨_, Go.Proofs.Tryz.underlying127, by kernel_rfl⟩
 fl := fun d ks h => nomatch h
theorem Zbpy : Zb1 Go.Proofs.Tryz.prog 132 y132 where
 ty := ⟨⟨_, Go.Proofs.Tryz.underlying132, rfl⟩, by kernel_rfl⟩
 by_ := by kernel_rfl
 z := fun z hz => (by kernel_rfl : Zay Go.Proofs.Tryz.prog 132 = y132.zero).trans hz
 k := ⟨_, Go.Proofs.Tryz.underlying132, by kernel_rfl⟩
 fl := fun d ks h => by cases h; exact ⟨by decide, by kernel_rfl, rfl, by kernel_rfl⟩
theorem Zbpz : Zb1 Go.Proofs.Tryz.prog 136 y136 where
 ty := ⟨⟨_, Go.Proofs.Tryz.underlying136, rfl⟩, by kernel_rfl⟩
 by_ := by kernel_rfl
 z := fun z hz => (by kernel_rfl : Zay Go.Proofs.Tryz.prog 136 = y136.zero).trans hz
 k := ⟨_, Go.Proofs.Tryz.underlying136, by kernel_rfl⟩
 fl := fun d ks h => by cases h; exact ⟨by decide, by kernel_rfl, rfl, by kernel_rfl⟩
theorem Zbp0 : Zb1 Go.Proofs.Tryz.prog 139 y139 where
 ty := ⟨⟨_, Go.Proofs.Tryz.underlying139, rfl⟩, by kernel_rfl⟩
 by_ := by kernel_rfl
 z := fun z hz => (by kernel_rfl : Zay Go.Proofs.Tryz.prog 139 = y139.zero).trans hz
 k := ⟨_, Go.Proofs.Tryz.underlying139, by kernel_rfl⟩
 fl := fun d ks h => by cases h; exact ⟨by decide, by kernel_rfl, rfl, by kernel_rfl⟩
theorem Zbp1 : Zb1 Go.Proofs.Tryz.prog 141 y141 where
 ty := ⟨⟨_, Go.Proofs.Tryz.underlying141, rfl⟩, by kernel_rfl⟩
 by_ := by kernel_rfl
 z := fun z hz => (by kernel_rfl : Zay Go.Proofs.Tryz.prog 141 = y141.zero).trans hz
 k := ⟨_, Go.Proofs.Tryz.underlying141, by kernel_rfl⟩
 fl := fun d ks h => by cases h; exact ⟨by decide, by kernel_rfl, rfl, by kernel_rfl⟩
theorem Zbp2 : Zb1 Go.Proofs.Tryz.prog 143 y143 where
 ty := ⟨⟨_, Go.Proofs.Tryz.underlying143, rfl⟩, by kernel_rfl⟩
 by_ := by kernel_rfl
 z := fun z hz => (by kernel_rfl : Zay Go.Proofs.Tryz.prog 143 = y143.zero).trans hz
 k := ⟨_, Go.Proofs.Tryz.underlying143, by kernel_rfl⟩
 fl := fun d ks h => nomatch h
theorem Zbp3 : Zb1 Go.Proofs.Tryz.prog 166 y166 where
 ty := ⟨⟨_, Go.Proofs.Tryz.underlying166, rfl⟩, by kernel_rfl⟩
 by_ := by kernel_rfl
 z := fun z hz => (by kernel_rfl : Zay Go.Proofs.Tryz.prog 166 = y166.zero).trans hz
 k := ⟨_, Go.Proofs.Tryz.underlying166, by kernel_rfl⟩
 fl := fun d ks h => by cases h; exact ⟨by decide, by kernel_rfl, rfl, by kernel_rfl⟩
theorem Zbp4 : Zb1 Go.Proofs.Tryz.prog 219 y219 where
 ty := ⟨⟨_, Go.Proofs.Tryz.underlying219, rfl⟩, by kernel_rfl⟩
 by_ := by kernel_rfl
 z := fun z hz => (by kernel_rfl : Zay Go.Proofs.Tryz.prog 219 = y219.zero).trans hz
 k := Go.Proofs.Tryz.underlying219
 fl := fun d ks h => nomatch h
theorem hT : TOK Go.Proofs.Tryz.prog T := TOK.of_all ⟨Zbry, Zbrz, Zbr0, Zbr1, Zbqq, Zbqr, Zbqs, Zbqt, Zbqu, Zbqv, Zbqw, Zbqx, Zbqy, Zbqz, Zbq0, Zbq1, Zbq2, Zbq3, Zbq4, Zbq5, Zbq6, Zbq7, Zbq8, Zbq9, Zbra, Zbrb, Zbrc, Zbrd, Zbre, Zbrf, Zbrg, Zbrh, Zbri, Zbrj, Zbrk, Zbrl, Zbrm, Zbrn, Zbro, Zbrp, Zbrq, Zbpr, Zbps, Zbpt, Zbpu, Zbpv, Zbpw, Zbpx, Zbpy, Zbpz, Zbp0, Zbp1, Zbp2, Zbp3, Zbp4, trivial⟩
theorem hm : Go.Proofs.Tryz.prog.follows .mixedOrders = true := by kernel_rfl
end Go.PW
