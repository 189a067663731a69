import Derived.Test.YtnoofnejcoadfaaGreatDoorPwYb
import Derived.Test.YtnoofnejcoadfaaGreatDoorProg
import Derived.KernelRfl
set_option linter.all false
set_option maxRecDepth 100000
namespace Go.PW
open Go.RowKit
noncomputable abbrev PR := Go.Proofs.Tryz.prog
abbrev zi : PV := .t (.int .i64 0)
abbrev zb : PV := .t (.bool false)
abbrev zs : PV := .t (.str [])
abbrev ki : LK := .i .i64
def T : TS := [
 (3, ⟨false, 1, 8, some [zi], .int .i64, none⟩),
 (4, ⟨false, 1, 1, some [zb], .bool, none⟩),
 (5, ⟨false, 1, 1, some [.t (.int .u8 0)], .int .u8, none⟩),
 (9, ⟨false, 1, 16, some [zs], .str, none⟩),
 (22, ⟨false, 1, 24, some [.nils], .slice 111, none⟩),
 (23, ⟨false, 1, 24, some [.nils], .slice 60, none⟩),
 (24, ⟨false, 1, 24, some [.nils], .slice 62, none⟩),
 (25, ⟨false, 1, 24, some [.nils], .slice 3, none⟩),
 (26, ⟨false, 1, 24, some [.nils], .slice 154, none⟩),
 (27, ⟨false, 1, 24, some [.nils], .slice 156, none⟩),
 (28, ⟨false, 1, 24, some [.nils], .slice 158, none⟩),
 (29, ⟨false, 1, 8, some [.t (.int .u64 0)], .int .u64, none⟩),
 (31, ⟨true, 19, 280, some [.nils, .nils, .nils, .nils, .nils, .nils, .nils, zi, zi, zi, zb, zi, zi, zi, zi, .t (.int .u64 0), .nils, zi, zi], .struct [(0, 23), (1, 24), (2, 25), (3, 25), (4, 26), (5, 27), (6, 28), (7, 3), (8, 3), (9, 3), (10, 4), (11, 3), (12, 3), (13, 3), (14, 3), (15, 29), (16, 25), (17, 3), (18, 3)], none⟩),
 (32, ⟨false, 1, 24, some [.nils], .slice 83, none⟩),
 (33, ⟨true, 3, 24, some [zi, zi, zi], .arr 3 3, some (30, [ki, ki, ki])⟩),
 (35, ⟨true, 15, 112, some [zi, zi, zi, zi, zi, zi, zi, zi, zi, zi, zb, zb, zi, zi, zi], .struct [(0, 3), (1, 3), (2, 3), (3, 3), (4, 3), (5, 3), (6, 3), (7, 3), (8, 3), (9, 3), (10, 4), (11, 4), (12, 33)], some (30, [ki, ki, ki, ki, ki, ki, ki, ki, ki, ki, .b, .b, ki, ki, ki])⟩),
 (37, ⟨true, 19, 160, some [zi, zi, zi, .nils, zi, zi, zi, zi, zi, zi, zi, zi, zi, zi, zb, zb, zi, zi, zi], .struct [(0, 3), (1, 3), (2, 3), (3, 32), (4, 35)], none⟩),
 (39, ⟨true, 2, 16, some [zi, zi], .struct [(0, 3), (1, 3)], some (30, [ki, ki])⟩),
 (41, ⟨true, 16, 136, some [zi, zi, zi, zi, zi, zi, zi, zs, zi, zi, zi, zi, zi, zi, zi, zi], .struct [(0, 3), (1, 3), (2, 3), (3, 3), (4, 3), (5, 3), (6, 3), (7, 9), (8, 3), (9, 3), (10, 39), (12, 39), (14, 39)], some (30, [ki, ki, ki, ki, ki, ki, ki, .s, ki, ki, ki, ki, ki, ki, ki, ki])⟩),
 (43, ⟨true, 19, 160, some [zi, zi, zi, zi, zi, zi, zi, zi, zi, zi, zs, zi, zi, zi, zi, zi, zi, zi, zi], .struct [(0, 3), (1, 3), (2, 3), (3, 41)], some (30, [ki, ki, ki, ki, ki, ki, ki, ki, ki, ki, .s, ki, ki, ki, ki, ki, ki, ki, ki])⟩),
 (45, ⟨true, 18, 152, some [zi, zi, zi, zi, zi, zi, zi, zi, zi, zs, zi, zi, zi, zi, zi, zi, zi, zi], .struct [(0, 3), (1, 3), (2, 41)], some (30, [ki, ki, ki, ki, ki, ki, ki, ki, ki, .s, ki, ki, ki, ki, ki, ki, ki, ki])⟩),
 (47, ⟨true, 56, 472, some [zi, zi, zi, .nils, zi, zi, zi, zi, zi, zi, zi, zi, zi, zi, zb, zb, zi, zi, zi, zi, zi, zi, zi, zi, zi, zi, zi, zi, zi, zs, zi, zi, zi, zi, zi, zi, zi, zi, zi, zi, zi, zi, zi, zi, zi, zi, zi, zs, zi, zi, zi, zi, zi, zi, zi, zi], .struct [(0, 37), (19, 43), (38, 45)], none⟩),
 (50, ⟨false, 1, 24, some [.nils], .slice 81, none⟩),
 (58, ⟨true, 6, 48, some [zi, zi, zi, zi, zi, zi], .arr 6 3, some (30, [ki, ki, ki, ki, ki, ki])⟩),
 (60, ⟨true, 14, 152, some [zi, zi, zi, zi, zi, zi, zi, zi, zi, zb, zb, .nils, .nils, .nils], .struct [(0, 3), (1, 3), (2, 3), (3, 58), (9, 4), (10, 4), (11, 25), (12, 25), (13, 25)], none⟩),
 (62, ⟨true, 19, 128, some [zi, zi, zi, zi, zi, zb, zb, zb, zb, zi, zi, zi, zi, zi, zi, zi, zb, zi, zi], .struct [(0, 3), (1, 3), (2, 3), (3, 3), (4, 3), (5, 4), (6, 4), (7, 4), (8, 4), (9, 3), (10, 33), (13, 3), (14, 3), (15, 3), (16, 4), (17, 3), (18, 3)], some (30, [ki, ki, ki, ki, ki, .b, .b, .b, .b, ki, ki, ki, ki, ki, ki, ki, .b, ki, ki])⟩),
 (70, ⟨false, 1, 8, some [zi], .int .i64, none⟩),
 (73, ⟨false, 1, 24, some [.nils], .slice 9, none⟩),
 (75, ⟨true, 3, 40, some [zi, zi, .nils], .struct [(0, 3), (1, 3), (2, 73)], none⟩),
 (76, ⟨true, 5, 40, some [zi, zi, zi, zi, zi], .arr 5 3, some (30, [ki, ki, ki, ki, ki])⟩),
 (78, ⟨true, 7, 56, some [zi, zi, zi, zi, zi, zi, zi], .struct [(0, 3), (1, 3), (2, 76)], some (30, [ki, ki, ki, ki, ki, ki, ki])⟩),
 (79, ⟨false, 1, 24, some [.nils], .slice 144, none⟩),
 (81, ⟨true, 17, 176, some [zs, zi, zi, zi, zi, zi, zi, zi, zi, zi, zi, .nils, zi, zi, zi, .nils, zi], .struct [(0, 9), (1, 78), (8, 3), (9, 75), (12, 3), (13, 3), (14, 3), (15, 79), (16, 3)], none⟩),
 (83, ⟨true, 2, 16, some [zi, zi], .struct [(0, 3), (1, 3)], some (30, [ki, ki])⟩),
 (84, ⟨false, 1, 24, some [.nils], .slice 122, none⟩),
 (85, ⟨false, 1, 24, some [.nils], .slice 4, none⟩),
 (86, ⟨false, 1, 24, some [.nils], .slice 25, none⟩),
 (88, ⟨true, 24, 400, some [.nils, .nils, .nils, .nils, .nils, .nils, .nils, zi, zi, zi, zb, zi, zi, zi, zi, .t (.int .u64 0), .nils, zi, zi, .nils, .nils, .nils, .nils, .nils], .struct [(0, 31), (19, 50), (20, 84), (21, 85), (22, 86), (23, 85)], none⟩),
 (111, ⟨true, 17, 176, some [zs, zb, zi, zi, zi, zi, zi, zi, zi, zi, zi, zi, .nils, zi, zi, zi, .nils], .struct [(0, 9), (1, 4), (2, 78), (9, 3), (10, 75), (13, 3), (14, 3), (15, 3), (16, 79)], none⟩),
 (120, ⟨false, 1, 24, some [.nils], .slice 164, none⟩),
 (122, ⟨true, 23, 224, some [zi, zi, zi, zi, zb, .nils, zi, zi, zi, zi, zi, zi, zi, zs, zi, zi, zi, zi, zi, zi, zi, zi, .nils], .struct [(0, 3), (1, 3), (2, 3), (3, 3), (4, 4), (5, 25), (6, 41), (22, 120)], none⟩),
 (136, ⟨true, 10, 72, some [zi, zi, zi, zi, zi, zi, zi, zb, zb, zi], .struct [(0, 78), (7, 4), (8, 4), (9, 3)], some (30, [ki, ki, ki, ki, ki, ki, ki, .b, .b, ki])⟩),
 (138, ⟨true, 18, 152, some [zi, zi, zi, zi, zi, zi, zi, zi, zi, zs, zi, zi, zi, zi, zi, zi, zi, zi], .struct [(0, 3), (1, 3), (2, 41)], some (30, [ki, ki, ki, ki, ki, ki, ki, ki, ki, .s, ki, ki, ki, ki, ki, ki, ki, ki])⟩),
 (139, ⟨false, 1, 24, some [.nils], .slice 202, none⟩),
 (140, ⟨false, 1, 24, some [.nils], .slice 146, none⟩),
 (142, ⟨true, 22, 184, some [zi, zi, zi, zi, zi, zi, zi, zi, zi, zs, zi, zi, zi, zi, zi, zi, zi, zi, zi, zi, zi, zi], .struct [(0, 3), (1, 3), (2, 41), (18, 3), (19, 3), (20, 3), (21, 3)], some (30, [ki, ki, ki, ki, ki, ki, ki, ki, ki, .s, ki, ki, ki, ki, ki, ki, ki, ki, ki, ki, ki, ki])⟩),
 (144, ⟨true, 72, 640, some [zi, zi, zi, zi, zi, zi, zi, zi, zs, zi, zi, zi, zi, zi, zi, zi, zi, .nils, zi, zi, zi, zi, zi, zi, zi, zb, zb, zi, zb, zi, zi, zi, zi, zi, zi, zi, zi, zi, zs, zi, zi, zi, zi, zi, zi, zi, zi, zb, .nils, .nils, zi, zi, zi, zi, zi, zi, zi, zi, zi, zs, zi, zi, zi, zi, zi, zi, zi, zi, zi, zi, zi, zi], .struct [(0, 3), (1, 41), (17, 120), (18, 136), (28, 4), (29, 138), (47, 4), (48, 139), (49, 140), (50, 142)], none⟩),
 (146, ⟨true, 64, 560, some [zi, zi, zi, zi, zi, zi, zi, zi, zi, zi, zs, zi, zi, zi, zi, zi, zi, zi, zi, zi, zi, zi, zi, zi, zi, zi, zi, zi, zi, zs, zi, zi, zi, zi, zi, zi, zi, zi, zi, zi, zs, zi, zi, zi, zi, zi, zi, zi, zs, zi, zi, zi, zi, zi, zi, zi, zi, zi, zi, zi, zi, zi, zi, .nils], .struct [(0, 3), (1, 45), (19, 43), (38, 3), (39, 3), (40, 9), (41, 41), (57, 58), (63, 120)], none⟩),
 (154, ⟨true, 94, 824, some [zi, zi, zi, zi, zi, zb, zi, zi, zi, zi, zi, zi, zi, zi, zs, zi, zi, zi, zi, zi, zi, zi, zi, .nils, zi, zi, zi, zi, zi, zi, zi, zb, zb, zi, zb, zi, zi, zi, zi, zi, zi, zi, zi, zi, zs, zi, zi, zi, zi, zi, zi, zi, zi, zb, .nils, .nils, zi, zi, zi, zi, zi, zi, zi, zi, zi, zs, zi, zi, zi, zi, zi, zi, zi, zi, zi, zi, zi, zi, .nils, zi, zi, zi, zi, zi, zi, zi, zi, zi, zi, zb, zb, zi, zi, zi], .struct [(0, 3), (1, 3), (2, 3), (3, 3), (4, 3), (5, 4), (6, 144), (78, 32), (79, 35)], none⟩),
 (156, ⟨true, 89, 768, some [zi, zi, zi, zi, zi, zi, zi, zi, zi, zi, zs, zi, zi, zi, zi, zi, zi, zi, zi, .nils, zi, zi, zi, zi, zi, zi, zi, zb, zb, zi, zb, zi, zi, zi, zi, zi, zi, zi, zi, zi, zs, zi, zi, zi, zi, zi, zi, zi, zi, zb, .nils, .nils, zi, zi, zi, zi, zi, zi, zi, zi, zi, zs, zi, zi, zi, zi, zi, zi, zi, zi, zi, zi, zi, zi, zi, zi, zi, zi, zi, zi, zi, zi, zi, zi, zb, zb, zi, zi, zi], .struct [(0, 3), (1, 3), (2, 144), (74, 35)], none⟩),
 (158, ⟨true, 6, 80, some [zi, zi, zi, zi, .nils, .nils], .struct [(0, 3), (1, 3), (2, 3), (3, 3), (4, 25), (5, 120)], none⟩),
 (164, ⟨true, 20, 176, some [zi, zi, zi, zs, zi, zi, zi, zi, zi, zi, zi, zs, zi, zi, zi, zi, zi, zi, zi, zi], .struct [(0, 3), (1, 3), (2, 3), (3, 9), (4, 41)], some (30, [ki, ki, ki, .s, ki, ki, ki, ki, ki, ki, ki, .s, ki, ki, ki, ki, ki, ki, ki, ki])⟩),
 (165, ⟨false, 1, 24, some [.nils], .slice 85, none⟩),
 (174, ⟨true, 3, 48, some [zs, zs, zs], .arr 3 9, some (30, [.s, .s, .s])⟩),
 (202, ⟨true, 18, 144, some [zb, zb, zi, zi, zi, zi, zi, zi, zi, zs, zi, zi, zi, zi, zi, zi, zi, zi], .struct [(0, 4), (1, 4), (2, 41)], some (30, [.b, .b, ki, ki, ki, ki, ki, ki, ki, .s, ki, ki, ki, ki, ki, ki, ki, ki])⟩),
 (212, ⟨false, 1, 24, some [.nils], .slice 5, none⟩),
 (213, ⟨true, 2, 32, some [zs, zs], .arr 2 9, some (30, [.s, .s])⟩),
 (214, ⟨true, 6, 96, some [zs, zs, zs, zs, zs, zs], .arr 6 9, some (30, [.s, .s, .s, .s, .s, .s])⟩),
 (231, ⟨false, 1, 4, some [.t (.int .u32 0)], .int .u32, none⟩)]
theorem hT : TOK PR T := TOK.of_eq (by kernel_rfl)
theorem hm : PR.follows .mixedOrders = true := by kernel_rfl
instance : Sd PR T := ⟨hm, hT⟩
end Go.PW
