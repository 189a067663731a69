import Derived.Test.YtdpiijfehkafnaaPwR
import Derived.Test.YtdpiijfehkafnaaProg
import Derived.KernelRfl
namespace Go.PW
open Go.RowKit
def T : TS := [
  (3, ⟨false, 1, 8, some [.t (.int .i64 0)], .int .i64, none⟩),
  (4, ⟨false, 1, 1, some [.t (.bool false)], .bool, none⟩),
  (5, ⟨false, 1, 1, some [.t (.int .u8 0)], .int .u8, none⟩),
  (9, ⟨false, 1, 16, some [.t (.str [])], .str, none⟩),
  (22, ⟨true, 3, 24, some [.t (.int .i64 0), .t (.int .i64 0), .t (.int .i64 0)], .arr 3 3, some (30, [.i .i64, .i .i64, .i .i64])⟩),
  (24, ⟨true, 19, 128, some [.t (.int .i64 0), .t (.int .i64 0), .t (.int .i64 0), .t (.int .i64 0), .t (.int .i64 0), .t (.bool false), .t (.bool false), .t (.bool false), .t (.bool false), .t (.int .i64 0), .t (.int .i64 0), .t (.int .i64 0), .t (.int .i64 0), .t (.int .i64 0), .t (.int .i64 0), .t (.int .i64 0), .t (.bool false), .t (.int .i64 0), .t (.int .i64 0)], .struct [(0, 3), (1, 3), (2, 3), (3, 3), (4, 3), (5, 4), (6, 4), (7, 4), (8, 4), (9, 3), (10, 22), (13, 3), (14, 3), (15, 3), (16, 4), (17, 3), (18, 3)], some (30, [.i .i64, .i .i64, .i .i64, .i .i64, .i .i64, .b, .b, .b, .b, .i .i64, .i .i64, .i .i64, .i .i64, .i .i64, .i .i64, .i .i64, .b, .i .i64, .i .i64])⟩),
  (25, ⟨true, 5, 40, some [.t (.int .i64 0), .t (.int .i64 0), .t (.int .i64 0), .t (.int .i64 0), .t (.int .i64 0)], .arr 5 3, some (30, [.i .i64, .i .i64, .i .i64, .i .i64, .i .i64])⟩),
  (27, ⟨true, 7, 56, some [.t (.int .i64 0), .t (.int .i64 0), .t (.int .i64 0), .t (.int .i64 0), .t (.int .i64 0), .t (.int .i64 0), .t (.int .i64 0)], .struct [(0, 3), (1, 3), (2, 25)], some (30, [.i .i64, .i .i64, .i .i64, .i .i64, .i .i64, .i .i64, .i .i64])⟩),
  (28, ⟨false, 1, 24, some [.nils], .slice 9, none⟩),
  (30, ⟨true, 3, 40, some [.t (.int .i64 0), .t (.int .i64 0), .nils], .struct [(0, 3), (1, 3), (2, 28)], none⟩),
  (31, ⟨false, 1, 24, some [.nils], .slice 88, none⟩),
  (33, ⟨true, 17, 176, some [.t (.str []), .t (.int .i64 0), .t (.int .i64 0), .t (.int .i64 0), .t (.int .i64 0), .t (.int .i64 0), .t (.int .i64 0), .t (.int .i64 0), .t (.int .i64 0), .t (.int .i64 0), .t (.int .i64 0), .nils, .t (.int .i64 0), .t (.int .i64 0), .t (.int .i64 0), .nils, .t (.int .i64 0)], .struct [(0, 9), (1, 27), (8, 3), (9, 30), (12, 3), (13, 3), (14, 3), (15, 31), (16, 3)], none⟩),
  (35, ⟨true, 38, 320, some [.t (.int .i64 0), .t (.int .i64 0), .t (.int .i64 0), .t (.int .i64 0), .t (.int .i64 0), .t (.bool false), .t (.bool false), .t (.bool false), .t (.bool false), .t (.int .i64 0), .t (.int .i64 0), .t (.int .i64 0), .t (.int .i64 0), .t (.int .i64 0), .t (.int .i64 0), .t (.int .i64 0), .t (.bool false), .t (.int .i64 0), .t (.int .i64 0), .t (.str []), .t (.int .i64 0), .t (.int .i64 0), .t (.int .i64 0), .t (.int .i64 0), .t (.int .i64 0), .t (.int .i64 0), .t (.int .i64 0), .t (.int .i64 0), .t (.int .i64 0), .t (.int .i64 0), .nils, .t (.int .i64 0), .t (.int .i64 0), .t (.int .i64 0), .nils, .t (.int .i64 0), .t (.int .i64 0), .t (.int .i64 0)], .struct [(0, 24), (19, 33), (36, 3), (37, 3)], none⟩),
  (37, ⟨true, 2, 16, some [.t (.int .i64 0), .t (.int .i64 0)], .struct [(0, 3), (1, 3)], some (30, [.i .i64, .i .i64])⟩),
  (39, ⟨true, 16, 136, some [.t (.int .i64 0), .t (.int .i64 0), .t (.int .i64 0), .t (.int .i64 0), .t (.int .i64 0), .t (.int .i64 0), .t (.int .i64 0), .t (.str []), .t (.int .i64 0), .t (.int .i64 0), .t (.int .i64 0), .t (.int .i64 0), .t (.int .i64 0), .t (.int .i64 0), .t (.int .i64 0), .t (.int .i64 0)], .struct [(0, 3), (1, 3), (2, 3), (3, 3), (4, 3), (5, 3), (6, 3), (7, 9), (8, 3), (9, 3), (10, 37), (12, 37), (14, 37)], some (30, [.i .i64, .i .i64, .i .i64, .i .i64, .i .i64, .i .i64, .i .i64, .s, .i .i64, .i .i64, .i .i64, .i .i64, .i .i64, .i .i64, .i .i64, .i .i64])⟩),
  (45, ⟨false, 1, 24, some [.nils], .slice 59, none⟩),
  (46, ⟨false, 1, 24, some [.nils], .slice 24, none⟩),
  (47, ⟨false, 1, 24, some [.nils], .slice 3, none⟩),
  (48, ⟨false, 1, 24, some [.nils], .slice 93, none⟩),
  (49, ⟨false, 1, 24, some [.nils], .slice 96, none⟩),
  (50, ⟨false, 1, 24, some [.nils], .slice 98, none⟩),
  (51, ⟨false, 1, 8, some [.t (.int .u64 0)], .int .u64, none⟩),
  (53, ⟨true, 19, 280, some [.nils, .nils, .nils, .nils, .nils, .nils, .nils, .t (.int .i64 0), .t (.int .i64 0), .t (.int .i64 0), .t (.bool false), .t (.int .i64 0), .t (.int .i64 0), .t (.int .i64 0), .t (.int .i64 0), .t (.int .u64 0), .nils, .t (.int .i64 0), .t (.int .i64 0)], .struct [(0, 45), (1, 46), (2, 47), (3, 47), (4, 48), (5, 49), (6, 50), (7, 3), (8, 3), (9, 3), (10, 4), (11, 3), (12, 3), (13, 3), (14, 3), (15, 51), (16, 47), (17, 3), (18, 3)], none⟩),
  (57, ⟨true, 6, 48, some [.t (.int .i64 0), .t (.int .i64 0), .t (.int .i64 0), .t (.int .i64 0), .t (.int .i64 0), .t (.int .i64 0)], .arr 6 3, some (30, [.i .i64, .i .i64, .i .i64, .i .i64, .i .i64, .i .i64])⟩),
  (59, ⟨true, 14, 152, some [.t (.int .i64 0), .t (.int .i64 0), .t (.int .i64 0), .t (.int .i64 0), .t (.int .i64 0), .t (.int .i64 0), .t (.int .i64 0), .t (.int .i64 0), .t (.int .i64 0), .t (.bool false), .t (.bool false), .nils, .nils, .nils], .struct [(0, 3), (1, 3), (2, 3), (3, 57), (9, 4), (10, 4), (11, 47), (12, 47), (13, 47)], none⟩),
  (61, ⟨false, 1, 24, some [.nils], .slice 33, none⟩),
  (63, ⟨true, 38, 456, some [.nils, .nils, .nils, .nils, .nils, .nils, .nils, .t (.int .i64 0), .t (.int .i64 0), .t (.int .i64 0), .t (.bool false), .t (.int .i64 0), .t (.int .i64 0), .t (.int .i64 0), .t (.int .i64 0), .t (.int .u64 0), .nils, .t (.int .i64 0), .t (.int .i64 0), .nils, .t (.int .i64 0), .t (.int .i64 0), .t (.int .i64 0), .t (.int .i64 0), .t (.int .i64 0), .t (.int .i64 0), .t (.int .i64 0), .t (.str []), .t (.int .i64 0), .t (.int .i64 0), .t (.int .i64 0), .t (.int .i64 0), .t (.int .i64 0), .t (.int .i64 0), .t (.int .i64 0), .t (.int .i64 0), .t (.int .i64 0), .t (.int .i64 0)], .struct [(0, 53), (19, 61), (20, 39), (36, 3), (37, 3)], none⟩),
  (78, ⟨false, 1, 24, some [.nils], .slice 106, none⟩),
  (80, ⟨true, 10, 72, some [.t (.int .i64 0), .t (.int .i64 0), .t (.int .i64 0), .t (.int .i64 0), .t (.int .i64 0), .t (.int .i64 0), .t (.int .i64 0), .t (.bool false), .t (.bool false), .t (.int .i64 0)], .struct [(0, 27), (7, 4), (8, 4), (9, 3)], some (30, [.i .i64, .i .i64, .i .i64, .i .i64, .i .i64, .i .i64, .i .i64, .b, .b, .i .i64])⟩),
  (82, ⟨true, 18, 152, some [.t (.int .i64 0), .t (.int .i64 0), .t (.int .i64 0), .t (.int .i64 0), .t (.int .i64 0), .t (.int .i64 0), .t (.int .i64 0), .t (.int .i64 0), .t (.int .i64 0), .t (.str []), .t (.int .i64 0), .t (.int .i64 0), .t (.int .i64 0), .t (.int .i64 0), .t (.int .i64 0), .t (.int .i64 0), .t (.int .i64 0), .t (.int .i64 0)], .struct [(0, 3), (1, 3), (2, 39)], some (30, [.i .i64, .i .i64, .i .i64, .i .i64, .i .i64, .i .i64, .i .i64, .i .i64, .i .i64, .s, .i .i64, .i .i64, .i .i64, .i .i64, .i .i64, .i .i64, .i .i64, .i .i64])⟩),
  (83, ⟨false, 1, 24, some [.nils], .slice 108, none⟩),
  (84, ⟨false, 1, 24, some [.nils], .slice 119, none⟩),
  (86, ⟨true, 22, 184, some [.t (.int .i64 0), .t (.int .i64 0), .t (.int .i64 0), .t (.int .i64 0), .t (.int .i64 0), .t (.int .i64 0), .t (.int .i64 0), .t (.int .i64 0), .t (.int .i64 0), .t (.str []), .t (.int .i64 0), .t (.int .i64 0), .t (.int .i64 0), .t (.int .i64 0), .t (.int .i64 0), .t (.int .i64 0), .t (.int .i64 0), .t (.int .i64 0), .t (.int .i64 0), .t (.int .i64 0), .t (.int .i64 0), .t (.int .i64 0)], .struct [(0, 3), (1, 3), (2, 39), (18, 3), (19, 3), (20, 3), (21, 3)], some (30, [.i .i64, .i .i64, .i .i64, .i .i64, .i .i64, .i .i64, .i .i64, .i .i64, .i .i64, .s, .i .i64, .i .i64, .i .i64, .i .i64, .i .i64, .i .i64, .i .i64, .i .i64, .i .i64, .i .i64, .i .i64, .i .i64])⟩),
  (88, ⟨true, 72, 640, some [.t (.int .i64 0), .t (.int .i64 0), .t (.int .i64 0), .t (.int .i64 0), .t (.int .i64 0), .t (.int .i64 0), .t (.int .i64 0), .t (.int .i64 0), .t (.str []), .t (.int .i64 0), .t (.int .i64 0), .t (.int .i64 0), .t (.int .i64 0), .t (.int .i64 0), .t (.int .i64 0), .t (.int .i64 0), .t (.int .i64 0), .nils, .t (.int .i64 0), .t (.int .i64 0), .t (.int .i64 0), .t (.int .i64 0), .t (.int .i64 0), .t (.int .i64 0), .t (.int .i64 0), .t (.bool false), .t (.bool false), .t (.int .i64 0), .t (.bool false), .t (.int .i64 0), .t (.int .i64 0), .t (.int .i64 0), .t (.int .i64 0), .t (.int .i64 0), .t (.int .i64 0), .t (.int .i64 0), .t (.int .i64 0), .t (.int .i64 0), .t (.str []), .t (.int .i64 0), .t (.int .i64 0), .t (.int .i64 0), .t (.int .i64 0), .t (.int .i64 0), .t (.int .i64 0), .t (.int .i64 0), .t (.int .i64 0), .t (.bool false), .nils, .nils, .t (.int .i64 0), .t (.int .i64 0), .t (.int .i64 0), .t (.int .i64 0), .t (.int .i64 0), .t (.int .i64 0), .t (.int .i64 0), .t (.int .i64 0), .t (.int .i64 0), .t (.str []), .t (.int .i64 0), .t (.int .i64 0), .t (.int .i64 0), .t (.int .i64 0), .t (.int .i64 0), .t (.int .i64 0), .t (.int .i64 0), .t (.int .i64 0), .t (.int .i64 0), .t (.int .i64 0), .t (.int .i64 0), .t (.int .i64 0)], .struct [(0, 3), (1, 39), (17, 78), (18, 80), (28, 4), (29, 82), (47, 4), (48, 83), (49, 84), (50, 86)], none⟩),
  (89, ⟨false, 1, 24, some [.nils], .slice 146, none⟩),
  (91, ⟨true, 15, 112, some [.t (.int .i64 0), .t (.int .i64 0), .t (.int .i64 0), .t (.int .i64 0), .t (.int .i64 0), .t (.int .i64 0), .t (.int .i64 0), .t (.int .i64 0), .t (.int .i64 0), .t (.int .i64 0), .t (.bool false), .t (.bool false), .t (.int .i64 0), .t (.int .i64 0), .t (.int .i64 0)], .struct [(0, 3), (1, 3), (2, 3), (3, 3), (4, 3), (5, 3), (6, 3), (7, 3), (8, 3), (9, 3), (10, 4), (11, 4), (12, 22)], some (30, [.i .i64, .i .i64, .i .i64, .i .i64, .i .i64, .i .i64, .i .i64, .i .i64, .i .i64, .i .i64, .b, .b, .i .i64, .i .i64, .i .i64])⟩),
  (93, ⟨true, 94, 824, some [.t (.int .i64 0), .t (.int .i64 0), .t (.int .i64 0), .t (.int .i64 0), .t (.int .i64 0), .t (.bool false), .t (.int .i64 0), .t (.int .i64 0), .t (.int .i64 0), .t (.int .i64 0), .t (.int .i64 0), .t (.int .i64 0), .t (.int .i64 0), .t (.int .i64 0), .t (.str []), .t (.int .i64 0), .t (.int .i64 0), .t (.int .i64 0), .t (.int .i64 0), .t (.int .i64 0), .t (.int .i64 0), .t (.int .i64 0), .t (.int .i64 0), .nils, .t (.int .i64 0), .t (.int .i64 0), .t (.int .i64 0), .t (.int .i64 0), .t (.int .i64 0), .t (.int .i64 0), .t (.int .i64 0), .t (.bool false), .t (.bool false), .t (.int .i64 0), .t (.bool false), .t (.int .i64 0), .t (.int .i64 0), .t (.int .i64 0), .t (.int .i64 0), .t (.int .i64 0), .t (.int .i64 0), .t (.int .i64 0), .t (.int .i64 0), .t (.int .i64 0), .t (.str []), .t (.int .i64 0), .t (.int .i64 0), .t (.int .i64 0), .t (.int .i64 0), .t (.int .i64 0), .t (.int .i64 0), .t (.int .i64 0), .t (.int .i64 0), .t (.bool false), .nils, .nils, .t (.int .i64 0), .t (.int .i64 0), .t (.int .i64 0), .t (.int .i64 0), .t (.int .i64 0), .t (.int .i64 0), .t (.int .i64 0), .t (.int .i64 0), .t (.int .i64 0), .t (.str []), .t (.int .i64 0), .t (.int .i64 0), .t (.int .i64 0), .t (.int .i64 0), .t (.int .i64 0), .t (.int .i64 0), .t (.int .i64 0), .t (.int .i64 0), .t (.int .i64 0), .t (.int .i64 0), .t (.int .i64 0), .t (.int .i64 0), .nils, .t (.int .i64 0), .t (.int .i64 0), .t (.int .i64 0), .t (.int .i64 0), .t (.int .i64 0), .t (.int .i64 0), .t (.int .i64 0), .t (.int .i64 0), .t (.int .i64 0), .t (.int .i64 0), .t (.bool false), .t (.bool false), .t (.int .i64 0), .t (.int .i64 0), .t (.int .i64 0)], .struct [(0, 3), (1, 3), (2, 3), (3, 3), (4, 3), (5, 4), (6, 88), (78, 89), (79, 91)], none⟩),
  (96, ⟨true, 89, 768, some [.t (.int .i64 0), .t (.int .i64 0), .t (.int .i64 0), .t (.int .i64 0), .t (.int .i64 0), .t (.int .i64 0), .t (.int .i64 0), .t (.int .i64 0), .t (.int .i64 0), .t (.int .i64 0), .t (.str []), .t (.int .i64 0), .t (.int .i64 0), .t (.int .i64 0), .t (.int .i64 0), .t (.int .i64 0), .t (.int .i64 0), .t (.int .i64 0), .t (.int .i64 0), .nils, .t (.int .i64 0), .t (.int .i64 0), .t (.int .i64 0), .t (.int .i64 0), .t (.int .i64 0), .t (.int .i64 0), .t (.int .i64 0), .t (.bool false), .t (.bool false), .t (.int .i64 0), .t (.bool false), .t (.int .i64 0), .t (.int .i64 0), .t (.int .i64 0), .t (.int .i64 0), .t (.int .i64 0), .t (.int .i64 0), .t (.int .i64 0), .t (.int .i64 0), .t (.int .i64 0), .t (.str []), .t (.int .i64 0), .t (.int .i64 0), .t (.int .i64 0), .t (.int .i64 0), .t (.int .i64 0), .t (.int .i64 0), .t (.int .i64 0), .t (.int .i64 0), .t (.bool false), .nils, .nils, .t (.int .i64 0), .t (.int .i64 0), .t (.int .i64 0), .t (.int .i64 0), .t (.int .i64 0), .t (.int .i64 0), .t (.int .i64 0), .t (.int .i64 0), .t (.int .i64 0), .t (.str []), .t (.int .i64 0), .t (.int .i64 0), .t (.int .i64 0), .t (.int .i64 0), .t (.int .i64 0), .t (.int .i64 0), .t (.int .i64 0), .t (.int .i64 0), .t (.int .i64 0), .t (.int .i64 0), .t (.int .i64 0), .t (.int .i64 0), .t (.int .i64 0), .t (.int .i64 0), .t (.int .i64 0), .t (.int .i64 0), .t (.int .i64 0), .t (.int .i64 0), .t (.int .i64 0), .t (.int .i64 0), .t (.int .i64 0), .t (.int .i64 0), .t (.bool false), .t (.bool false), .t (.int .i64 0), .t (.int .i64 0), .t (.int .i64 0)], .struct [(0, 3), (1, 3), (2, 88), (74, 91)], none⟩),
  (98, ⟨true, 6, 80, some [.t (.int .i64 0), .t (.int .i64 0), .t (.int .i64 0), .t (.int .i64 0), .nils, .nils], .struct [(0, 3), (1, 3), (2, 3), (3, 3), (4, 47), (5, 78)], none⟩),
  (106, ⟨true, 20, 176, some [.t (.int .i64 0), .t (.int .i64 0), .t (.int .i64 0), .t (.str []), .t (.int .i64 0), .t (.int .i64 0), .t (.int .i64 0), .t (.int .i64 0), .t (.int .i64 0), .t (.int .i64 0), .t (.int .i64 0), .t (.str []), .t (.int .i64 0), .t (.int .i64 0), .t (.int .i64 0), .t (.int .i64 0), .t (.int .i64 0), .t (.int .i64 0), .t (.int .i64 0), .t (.int .i64 0)], .struct [(0, 3), (1, 3), (2, 3), (3, 9), (4, 39)], some (30, [.i .i64, .i .i64, .i .i64, .s, .i .i64, .i .i64, .i .i64, .i .i64, .i .i64, .i .i64, .i .i64, .s, .i .i64, .i .i64, .i .i64, .i .i64, .i .i64, .i .i64, .i .i64, .i .i64])⟩),
  (108, ⟨true, 18, 144, some [.t (.bool false), .t (.bool false), .t (.int .i64 0), .t (.int .i64 0), .t (.int .i64 0), .t (.int .i64 0), .t (.int .i64 0), .t (.int .i64 0), .t (.int .i64 0), .t (.str []), .t (.int .i64 0), .t (.int .i64 0), .t (.int .i64 0), .t (.int .i64 0), .t (.int .i64 0), .t (.int .i64 0), .t (.int .i64 0), .t (.int .i64 0)], .struct [(0, 4), (1, 4), (2, 39)], some (30, [.b, .b, .i .i64, .i .i64, .i .i64, .i .i64, .i .i64, .i .i64, .i .i64, .s, .i .i64, .i .i64, .i .i64, .i .i64, .i .i64, .i .i64, .i .i64, .i .i64])⟩),
  (115, ⟨true, 18, 152, some [.t (.int .i64 0), .t (.int .i64 0), .t (.int .i64 0), .t (.int .i64 0), .t (.int .i64 0), .t (.int .i64 0), .t (.int .i64 0), .t (.int .i64 0), .t (.int .i64 0), .t (.str []), .t (.int .i64 0), .t (.int .i64 0), .t (.int .i64 0), .t (.int .i64 0), .t (.int .i64 0), .t (.int .i64 0), .t (.int .i64 0), .t (.int .i64 0)], .struct [(0, 3), (1, 3), (2, 39)], some (30, [.i .i64, .i .i64, .i .i64, .i .i64, .i .i64, .i .i64, .i .i64, .i .i64, .i .i64, .s, .i .i64, .i .i64, .i .i64, .i .i64, .i .i64, .i .i64, .i .i64, .i .i64])⟩),
  (117, ⟨true, 19, 160, some [.t (.int .i64 0), .t (.int .i64 0), .t (.int .i64 0), .t (.int .i64 0), .t (.int .i64 0), .t (.int .i64 0), .t (.int .i64 0), .t (.int .i64 0), .t (.int .i64 0), .t (.int .i64 0), .t (.str []), .t (.int .i64 0), .t (.int .i64 0), .t (.int .i64 0), .t (.int .i64 0), .t (.int .i64 0), .t (.int .i64 0), .t (.int .i64 0), .t (.int .i64 0)], .struct [(0, 3), (1, 3), (2, 3), (3, 39)], some (30, [.i .i64, .i .i64, .i .i64, .i .i64, .i .i64, .i .i64, .i .i64, .i .i64, .i .i64, .i .i64, .s, .i .i64, .i .i64, .i .i64, .i .i64, .i .i64, .i .i64, .i .i64, .i .i64])⟩),
  (119, ⟨true, 64, 560, some [.t (.int .i64 0), .t (.int .i64 0), .t (.int .i64 0), .t (.int .i64 0), .t (.int .i64 0), .t (.int .i64 0), .t (.int .i64 0), .t (.int .i64 0), .t (.int .i64 0), .t (.int .i64 0), .t (.str []), .t (.int .i64 0), .t (.int .i64 0), .t (.int .i64 0), .t (.int .i64 0), .t (.int .i64 0), .t (.int .i64 0), .t (.int .i64 0), .t (.int .i64 0), .t (.int .i64 0), .t (.int .i64 0), .t (.int .i64 0), .t (.int .i64 0), .t (.int .i64 0), .t (.int .i64 0), .t (.int .i64 0), .t (.int .i64 0), .t (.int .i64 0), .t (.int .i64 0), .t (.str []), .t (.int .i64 0), .t (.int .i64 0), .t (.int .i64 0), .t (.int .i64 0), .t (.int .i64 0), .t (.int .i64 0), .t (.int .i64 0), .t (.int .i64 0), .t (.int .i64 0), .t (.int .i64 0), .t (.str []), .t (.int .i64 0), .t (.int .i64 0), .t (.int .i64 0), .t (.int .i64 0), .t (.int .i64 0), .t (.int .i64 0), .t (.int .i64 0), .t (.str []), .t (.int .i64 0), .t (.int .i64 0), .t (.int .i64 0), .t (.int .i64 0), .t (.int .i64 0), .t (.int .i64 0), .t (.int .i64 0), .t (.int .i64 0), .t (.int .i64 0), .t (.int .i64 0), .t (.int .i64 0), .t (.int .i64 0), .t (.int .i64 0), .t (.int .i64 0), .nils], .struct [(0, 3), (1, 115), (19, 117), (38, 3), (39, 3), (40, 9), (41, 39), (57, 57), (63, 78)], none⟩),
  (121, ⟨false, 1, 24, some [.nils], .slice 5, none⟩),
  (122, ⟨true, 2, 32, some [.t (.str []), .t (.str [])], .arr 2 9, some (30, [.s, .s])⟩),
  (123, ⟨true, 6, 96, some [.t (.str []), .t (.str []), .t (.str []), .t (.str []), .t (.str []), .t (.str [])], .arr 6 9, some (30, [.s, .s, .s, .s, .s, .s])⟩),
  (127, ⟨false, 1, 4, some [.t (.int .u32 0)], .int .u32, none⟩),
  (146, ⟨true, 2, 16, some [.t (.int .i64 0), .t (.int .i64 0)], .struct [(0, 3), (1, 3)], some (30, [.i .i64, .i .i64])⟩)]
theorem T3_ok : TInfOK Go.Proofs.Try.prog 3 ⟨false, 1, 8, some [.t (.int .i64 0)], .int .i64, none⟩ where
  ty := ⟨⟨_, Go.Proofs.Try.underlying3, rfl⟩, by kernel_rfl⟩
  by_ := by kernel_rfl
  z := fun z hz => Option.some.inj hz ▸ (by kernel_rfl : zeroPVs Go.Proofs.Try.prog 3 = some [.t (.int .i64 0)])
  k := Go.Proofs.Try.underlying3
  fl := fun d ks h => nomatch h
theorem T4_ok : TInfOK Go.Proofs.Try.prog 4 ⟨false, 1, 1, some [.t (.bool false)], .bool, none⟩ where
  ty := ⟨⟨_, Go.Proofs.Try.underlying4, rfl⟩, by kernel_rfl⟩
  by_ := by kernel_rfl
  z := fun z hz => Option.some.inj hz ▸ (by kernel_rfl : zeroPVs Go.Proofs.Try.prog 4 = some [.t (.bool false)])
  k := Go.Proofs.Try.underlying4
  fl := fun d ks h => nomatch h
theorem T5_ok : TInfOK Go.Proofs.Try.prog 5 ⟨false, 1, 1, some [.t (.int .u8 0)], .int .u8, none⟩ where
  ty := ⟨⟨_, Go.Proofs.Try.underlying5, rfl⟩, by kernel_rfl⟩
  by_ := by kernel_rfl
  z := fun z hz => Option.some.inj hz ▸ (by kernel_rfl : zeroPVs Go.Proofs.Try.prog 5 = some [.t (.int .u8 0)])
  k := Go.Proofs.Try.underlying5
  fl := fun d ks h => nomatch h
theorem T9_ok : TInfOK Go.Proofs.Try.prog 9 ⟨false, 1, 16, some [.t (.str [])], .str, none⟩ where
  ty := ⟨⟨_, Go.Proofs.Try.underlying9, rfl⟩, by kernel_rfl⟩
  by_ := by kernel_rfl
  z := fun z hz => Option.some.inj hz ▸ (by kernel_rfl : zeroPVs Go.Proofs.Try.prog 9 = some [.t (.str [])])
  k := Go.Proofs.Try.underlying9
  fl := fun d ks h => nomatch h
theorem T22_ok : TInfOK Go.Proofs.Try.prog 22 ⟨true, 3, 24, some [.t (.int .i64 0), .t (.int .i64 0), .t (.int .i64 0)], .arr 3 3, some (30, [.i .i64, .i .i64, .i .i64])⟩ where
  ty := ⟨⟨_, Go.Proofs.Try.underlying22, rfl⟩, by kernel_rfl⟩
  by_ := by kernel_rfl
  z := fun z hz => Option.some.inj hz ▸ (by kernel_rfl : zeroPVs Go.Proofs.Try.prog 22 = some [.t (.int .i64 0), .t (.int .i64 0), .t (.int .i64 0)])
  k := Go.Proofs.Try.underlying22
  fl := fun d ks h => by cases h; exact ⟨by decide, by kernel_rfl, rfl, by kernel_rfl⟩
theorem T24_ok : TInfOK Go.Proofs.Try.prog 24 ⟨true, 19, 128, some [.t (.int .i64 0), .t (.int .i64 0), .t (.int .i64 0), .t (.int .i64 0), .t (.int .i64 0), .t (.bool false), .t (.bool false), .t (.bool false), .t (.bool false), .t (.int .i64 0), .t (.int .i64 0), .t (.int .i64 0), .t (.int .i64 0), .t (.int .i64 0), .t (.int .i64 0), .t (.int .i64 0), .t (.bool false), .t (.int .i64 0), .t (.int .i64 0)], .struct [(0, 3), (1, 3), (2, 3), (3, 3), (4, 3), (5, 4), (6, 4), (7, 4), (8, 4), (9, 3), (10, 22), (13, 3), (14, 3), (15, 3), (16, 4), (17, 3), (18, 3)], some (30, [.i .i64, .i .i64, .i .i64, .i .i64, .i .i64, .b, .b, .b, .b, .i .i64, .i .i64, .i .i64, .i .i64, .i .i64, .i .i64, .i .i64, .b, .i .i64, .i .i64])⟩ where
  ty := ⟨⟨_, Go.Proofs.Try.underlying24, rfl⟩, by kernel_rfl⟩
  by_ := by kernel_rfl
  z := fun z hz => Option.some.inj hz ▸ (by kernel_rfl : zeroPVs Go.Proofs.Try.prog 24 = some [.t (.int .i64 0), .t (.int .i64 0), .t (.int .i64 0), .t (.int .i64 0), .t (.int .i64 0), .t (.bool false), .t (.bool false), .t (.bool false), .t (.bool false), .t (.int .i64 0), .t (.int .i64 0), .t (.int .i64 0), .t (.int .i64 0), .t (.int .i64 0), .t (.int .i64 0), .t (.int .i64 0), .t (.bool false), .t (.int .i64 0), .t (.int .i64 0)])
  k := ⟨_, Go.Proofs.Try.underlying24, by kernel_rfl⟩
  fl := fun d ks h => by cases h; exact ⟨by decide, by kernel_rfl, rfl, by kernel_rfl⟩
theorem T25_ok : TInfOK Go.Proofs.Try.prog 25 ⟨true, 5, 40, some [.t (.int .i64 0), .t (.int .i64 0), .t (.int .i64 0), .t (.int .i64 0), .t (.int .i64 0)], .arr 5 3, some (30, [.i .i64, .i .i64, .i .i64, .i .i64, .i .i64])⟩ where
  ty := ⟨⟨_, Go.Proofs.Try.underlying25, rfl⟩, by kernel_rfl⟩
  by_ := by kernel_rfl
  z := fun z hz => Option.some.inj hz ▸ (by kernel_rfl : zeroPVs Go.Proofs.Try.prog 25 = some [.t (.int .i64 0), .t (.int .i64 0), .t (.int .i64 0), .t (.int .i64 0), .t (.int .i64 0)])
  k := Go.Proofs.Try.underlying25
  fl := fun d ks h => by cases h; exact ⟨by decide, by kernel_rfl, rfl, by kernel_rfl⟩
theorem T27_ok : TInfOK Go.Proofs.Try.prog 27 ⟨true, 7, 56, some [.t (.int .i64 0), .t (.int .i64 0), .t (.int .i64 0), .t (.int .i64 0), .t (.int .i64 0), .t (.int .i64 0), .t (.int .i64 0)], .struct [(0, 3), (1, 3), (2, 25)], some (30, [.i .i64, .i .i64, .i .i64, .i .i64, .i .i64, .i .i64, .i .i64])⟩ where
  ty := ⟨⟨_, Go.Proofs.Try.underlying27, rfl⟩, by kernel_rfl⟩
  by_ := by kernel_rfl
  z := fun z hz => Option.some.inj hz ▸ (by kernel_rfl : zeroPVs Go.Proofs.Try.prog 27 = some [.t (.int .i64 0), .t (.int .i64 0), .t (.int .i64 0), .t (.int .i64 0), .t (.int .i64 0), .t (.int .i64 0), .t (.int .i64 0)])
  k := ⟨_, Go.Proofs.Try.underlying27, by kernel_rfl⟩
  fl := fun d ks h => by cases h; exact ⟨by decide, by kernel_rfl, rfl, by kernel_rfl⟩
theorem T28_ok : TInfOK Go.Proofs.Try.prog 28 ⟨false, 1, 24, some [.nils], .slice 9, none⟩ where
  ty := ⟨⟨_, Go.Proofs.Try.underlying28, rfl⟩, by kernel_rfl⟩
  by_ := by kernel_rfl
  z := fun z hz => Option.some.inj hz ▸ (by kernel_rfl : zeroPVs Go.Proofs.Try.prog 28 = some [.nils])
  k := Go.Proofs.Try.underlying28
  fl := fun d ks h => nomatch h
theorem T30_ok : TInfOK Go.Proofs.Try.prog 30 ⟨true, 3, 40, some [.t (.int .i64 0), .t (.int .i64 0), .nils], .struct [(0, 3), (1, 3), (2, 28)], none⟩ where
  ty := ⟨⟨_, Go.Proofs.Try.underlying30, rfl⟩, by kernel_rfl⟩
  by_ := by kernel_rfl
  z := fun z hz => Option.some.inj hz ▸ (by kernel_rfl : zeroPVs Go.Proofs.Try.prog 30 = some [.t (.int .i64 0), .t (.int .i64 0), .nils])
  k := ⟨_, Go.Proofs.Try.underlying30, by kernel_rfl⟩
  fl := fun d ks h => nomatch h
theorem T31_ok : TInfOK Go.Proofs.Try.prog 31 ⟨false, 1, 24, some [.nils], .slice 88, none⟩ where
  ty := ⟨⟨_, Go.Proofs.Try.underlying31, rfl⟩, by kernel_rfl⟩
  by_ := by kernel_rfl
  z := fun z hz => Option.some.inj hz ▸ (by kernel_rfl : zeroPVs Go.Proofs.Try.prog 31 = some [.nils])
  k := Go.Proofs.Try.underlying31
  fl := fun d ks h => nomatch h
theorem T33_ok : TInfOK Go.Proofs.Try.prog 33 ⟨true, 17, 176, some [.t (.str []), .t (.int .i64 0), .t (.int .i64 0), .t (.int .i64 0), .t (.int .i64 0), .t (.int .i64 0), .t (.int .i64 0), .t (.int .i64 0), .t (.int .i64 0), .t (.int .i64 0), .t (.int .i64 0), .nils, .t (.int .i64 0), .t (.int .i64 0), .t (.int .i64 0), .nils, .t (.int .i64 0)], .struct [(0, 9), (1, 27), (8, 3), (9, 30), (12, 3), (13, 3), (14, 3), (15, 31), (16, 3)], none⟩ where
  ty := ⟨⟨_, Go.Proofs.Try.underlying33, rfl⟩, by kernel_rfl⟩
  by_ := by kernel_rfl
  z := fun z hz => Option.some.inj hz ▸ (by kernel_rfl : zeroPVs Go.Proofs.Try.prog 33 = some [.t (.str []), .t (.int .i64 0), .t (.int .i64 0), .t (.int .i64 0), .t (.int .i64 0), .t (.int .i64 0), .t (.int .i64 0), .t (.int .i64 0), .t (.int .i64 0), .t (.int .i64 0), .t (.int .i64 0), .nils, .t (.int .i64 0), .t (.int .i64 0), .t (.int .i64 0), .nils, .t (.int .i64 0)])
  k := ⟨_, Go.Proofs.Try.underlying33, by kernel_rfl⟩
  fl := fun d ks h => nomatch h
theorem T35_ok : TInfOK Go.Proofs.Try.prog 35 ⟨true, 38, 320, some [.t (.int .i64 0), .t (.int .i64 0), .t (.int .i64 0), .t (.int .i64 0), .t (.int .i64 0), .t (.bool false), .t (.bool false), .t (.bool false), .t (.bool false), .t (.int .i64 0), .t (.int .i64 0), .t (.int .i64 0), .t (.int .i64 0), .t (.int .i64 0), .t (.int .i64 0), .t (.int .i64 0), .t (.bool false), .t (.int .i64 0), .t (.int .i64 0), .t (.str []), .t (.int .i64 0), .t (.int .i64 0), .t (.int .i64 0), .t (.int .i64 0), .t (.int .i64 0), .t (.int .i64 0), .t (.int .i64 0), .t (.int .i64 0), .t (.int .i64 0), .t (.int .i64 0), .nils, .t (.int .i64 0), .t (.int .i64 0), .t (.int .i64 0), .nils, .t (.int .i64 0), .t (.int .i64 0), .t (.int .i64 0)], .struct [(0, 24), (19, 33), (36, 3), (37, 3)], none⟩ where
  ty := ⟨⟨_, Go.Proofs.Try.underlying35, rfl⟩, by kernel_rfl⟩
  by_ := by kernel_rfl
  z := fun z hz => Option.some.inj hz ▸ (by kernel_rfl : zeroPVs Go.Proofs.Try.prog 35 = some [.t (.int .i64 0), .t (.int .i64 0), .t (.int .i64 0), .t (.int .i64 0), .t (.int .i64 0), .t (.bool false), .t (.bool false), .t (.bool false), .t (.bool false), .t (.int .i64 0), .t (.int .i64 0), .t (.int .i64 0), .t (.int .i64 0), .t (.int .i64 0), .t (.int .i64 0), .t (.int .i64 0), .t (.bool false), .t (.int .i64 0), .t (.int .i64 0), .t (.str []), .t (.int .i64 0), .t (.int .i64 0), .t (.int .i64 0), .t (.int .i64 0), .t (.int .i64 0), .t (.int .i64 0), .t (.int .i64 0), .t (.int .i64 0), .t (.int .i64 0), .t (.int .i64 0), .nils, .t (.int .i64 0), .t (.int .i64 0), .t (.int .i64 0), .nils, .t (.int .i64 0), .t (.int .i64 0), .t (.int .i64 0)])
  k := ⟨_, Go.Proofs.Try.underlying35, by kernel_rfl⟩
  fl := fun d ks h => nomatch h
theorem T37_ok : TInfOK Go.Proofs.Try.prog 37 ⟨true, 2, 16, some [.t (.int .i64 0), .t (.int .i64 0)], .struct [(0, 3), (1, 3)], some (30, [.i .i64, .i .i64])⟩ where
  ty := ⟨⟨_, Go.Proofs.Try.underlying37, rfl⟩, by kernel_rfl⟩
  by_ := by kernel_rfl
  z := fun z hz => Option.some.inj hz ▸ (by kernel_rfl : zeroPVs Go.Proofs.Try.prog 37 = some [.t (.int .i64 0), .t (.int .i64 0)])
  k := ⟨_, Go.Proofs.Try.underlying37, by kernel_rfl⟩
  fl := fun d ks h => by cases h; exact ⟨by decide, by kernel_rfl, rfl, by kernel_rfl⟩
theorem T39_ok : TInfOK Go.Proofs.Try.prog 39 ⟨true, 16, 136, some [.t (.int .i64 0), .t (.int .i64 0), .t (.int .i64 0), .t (.int .i64 0), .t (.int .i64 0), .t (.int .i64 0), .t (.int .i64 0), .t (.str []), .t (.int .i64 0), .t (.int .i64 0), .t (.int .i64 0), .t (.int .i64 0), .t (.int .i64 0), .t (.int .i64 0), .t (.int .i64 0), .t (.int .i64 0)], .struct [(0, 3), (1, 3), (2, 3), (3, 3), (4, 3), (5, 3), (6, 3), (7, 9), (8, 3), (9, 3), (10, 37), (12, 37), (14, 37)], some (30, [.i .i64, .i .i64, .i .i64, .i .i64, .i .i64, .i .i64, .i .i64, .s, .i .i64, .i .i64, .i .i64, .i .i64, .i .i64, .i .i64, .i .i64, .i .i64])⟩ where
  ty := ⟨⟨_, Go.Proofs.Try.underlying39, rfl⟩, by kernel_rfl⟩
  by_ := by kernel_rfl
  z := fun z hz => Option.some.inj hz ▸ (by kernel_rfl : zeroPVs Go.Proofs.Try.prog 39 = some [.t (.int .i64 0), .t (.int .i64 0), .t (.int .i64 0), .t (.int .i64 0), .t (.int .i64 0), .t (.int .i64 0), .t (.int .i64 0), .t (.str []), .t (.int .i64 0), .t (.int .i64 0), .t (.int .i64 0), .t (.int .i64 0), .t (.int .i64 0), .t (.int .i64 0), .t (.int .i64 0), .t (.int .i64 0)])
  k := ⟨_, Go.Proofs.Try.underlying39, by kernel_rfl⟩
  fl := fun d ks h => by cases h; exact ⟨by decide, by kernel_rfl, rfl, by kernel_rfl⟩
theorem T45_ok : TInfOK Go.Proofs.Try.prog 45 ⟨false, 1, 24, some [.nils], .slice 59, none⟩ where
  ty := ⟨⟨_, Go.Proofs.Try.underlying45, rfl⟩, by kernel_rfl⟩
  by_ := by kernel_rfl
  z := fun z hz => Option.some.inj hz ▸ (by kernel_rfl : zeroPVs Go.Proofs.Try.prog 45 = some [.nils])
  k := Go.Proofs.Try.underlying45
  fl := fun d ks h => nomatch h
theorem T46_ok : TInfOK Go.Proofs.Try.prog 46 ⟨false, 1, 24, some [.nils], .slice 24, none⟩ where
  ty := ⟨⟨_, Go.Proofs.Try.underlying46, rfl⟩, by kernel_rfl⟩
  by_ := by kernel_rfl
  z := fun z hz => Option.some.inj hz ▸ (by kernel_rfl : zeroPVs Go.Proofs.Try.prog 46 = some [.nils])
  k := Go.Proofs.Try.underlying46
  fl := fun d ks h => nomatch h
theorem T47_ok : TInfOK Go.Proofs.Try.prog 47 ⟨false, 1, 24, some [.nils], .slice 3, none⟩ where
  ty := ⟨⟨_, Go.Proofs.Try.underlying47, rfl⟩, by kernel_rfl⟩
  by_ := by kernel_rfl
  z := fun z hz => Option.some.inj hz ▸ (by kernel_rfl : zeroPVs Go.Proofs.Try.prog 47 = some [.nils])
  k := Go.Proofs.Try.underlying47
  fl := fun d ks h => nomatch h
theorem T48_ok : TInfOK Go.Proofs.Try.prog 48 ⟨false, 1, 24, some [.nils], .slice 93, none⟩ where
  ty := ⟨⟨_, Go.Proofs.Try.underlying48, rfl⟩, by kernel_rfl⟩
  by_ := by kernel_rfl
  z := fun z hz => Option.some.inj hz ▸ (by kernel_rfl : zeroPVs Go.Proofs.Try.prog 48 = some [.nils])
  k := Go.Proofs.Try.underlying48
  fl := fun d ks h => nomatch h
theorem T49_ok : TInfOK Go.Proofs.Try.prog 49 ⟨false, 1, 24, some [.nils], .slice 96, none⟩ where
  ty := ⟨⟨_, Go.Proofs.Try.underlying49, rfl⟩, by kernel_rfl⟩
  by_ := by kernel_rfl
  z := fun z hz => Option.some.inj hz ▸ (by kernel_rfl : zeroPVs Go.Proofs.Try.prog 49 = some [.nils])
  k := Go.Proofs.Try.underlying49
  fl := fun d ks h => nomatch h
theorem T50_ok : TInfOK Go.Proofs.Try.prog 50 ⟨false, 1, 24, some [.nils], .slice 98, none⟩ where
  ty := ⟨⟨_, Go.Proofs.Try.underlying50, rfl⟩, by kernel_rfl⟩
  by_ := by kernel_rfl
  z := fun z hz => Option.some.inj hz ▸ (by kernel_rfl : zeroPVs Go.Proofs.Try.prog 50 = some [.nils])
  k := Go.Proofs.Try.underlying50
  fl := fun d ks h => nomatch h
theorem T51_ok : TInfOK Go.Proofs.Try.prog 51 ⟨false, 1, 8, some [.t (.int .u64 0)], .int .u64, none⟩ where
  ty := ⟨⟨_, Go.Proofs.Try.underlying51, rfl⟩, by kernel_rfl⟩
  by_ := by kernel_rfl
  z := fun z hz => Option.some.inj hz ▸ (by kernel_rfl : zeroPVs Go.Proofs.Try.prog 51 = some [.t (.int .u64 0)])
  k := Go.Proofs.Try.underlying51
  fl := fun d ks h => nomatch h
theorem T53_ok : TInfOK Go.Proofs.Try.prog 53 ⟨true, 19, 280, some [.nils, .nils, .nils, .nils, .nils, .nils, .nils, .t (.int .i64 0), .t (.int .i64 0), .t (.int .i64 0), .t (.bool false), .t (.int .i64 0), .t (.int .i64 0), .t (.int .i64 0), .t (.int .i64 0), .t (.int .u64 0), .nils, .t (.int .i64 0), .t (.int .i64 0)], .struct [(0, 45), (1, 46), (2, 47), (3, 47), (4, 48), (5, 49), (6, 50), (7, 3), (8, 3), (9, 3), (10, 4), (11, 3), (12, 3), (13, 3), (14, 3), (15, 51), (16, 47), (17, 3), (18, 3)], none⟩ where
  ty := ⟨⟨_, Go.Proofs.Try.underlying53, rfl⟩, by kernel_rfl⟩
  by_ := by kernel_rfl
  z := fun z hz => Option.some.inj hz ▸ (by kernel_rfl : zeroPVs Go.Proofs.Try.prog 53 = some [.nils, .nils, .nils, .nils, .nils, .nils, .nils, .t (.int .i64 0), .t (.int .i64 0), .t (.int .i64 0), .t (.bool false), .t (.int .i64 0), .t (.int .i64 0), .t (.int .i64 0), .t (.int .i64 0), .t (.int .u64 0), .nils, .t (.int .i64 0), .t (.int .i64 0)])
  k := ⟨_, Go.Proofs.Try.underlying53, by kernel_rfl⟩
  fl := fun d ks h => nomatch h
theorem T57_ok : TInfOK Go.Proofs.Try.prog 57 ⟨true, 6, 48, some [.t (.int .i64 0), .t (.int .i64 0), .t (.int .i64 0), .t (.int .i64 0), .t (.int .i64 0), .t (.int .i64 0)], .arr 6 3, some (30, [.i .i64, .i .i64, .i .i64, .i .i64, .i .i64, .i .i64])⟩ where
  ty := ⟨⟨_, Go.Proofs.Try.underlying57, rfl⟩, by kernel_rfl⟩
  by_ := by kernel_rfl
  z := fun z hz => Option.some.inj hz ▸ (by kernel_rfl : zeroPVs Go.Proofs.Try.prog 57 = some [.t (.int .i64 0), .t (.int .i64 0), .t (.int .i64 0), .t (.int .i64 0), .t (.int .i64 0), .t (.int .i64 0)])
  k := Go.Proofs.Try.underlying57
  fl := fun d ks h => by cases h; exact ⟨by decide, by kernel_rfl, rfl, by kernel_rfl⟩
theorem T59_ok : TInfOK Go.Proofs.Try.prog 59 ⟨true, 14, 152, some [.t (.int .i64 0), .t (.int .i64 0), .t (.int .i64 0), .t (.int .i64 0), .t (.int .i64 0), .t (.int .i64 0), .t (.int .i64 0), .t (.int .i64 0), .t (.int .i64 0), .t (.bool false), .t (.bool false), .nils, .nils, .nils], .struct [(0, 3), (1, 3), (2, 3), (3, 57), (9, 4), (10, 4), (11, 47), (12, 47), (13, 47)], none⟩ where
  ty := ⟨⟨_, Go.Proofs.Try.underlying59, rfl⟩, by kernel_rfl⟩
  by_ := by kernel_rfl
  z := fun z hz => Option.some.inj hz ▸ (by kernel_rfl : zeroPVs Go.Proofs.Try.prog 59 = some [.t (.int .i64 0), .t (.int .i64 0), .t (.int .i64 0), .t (.int .i64 0), .t (.int .i64 0), .t (.int .i64 0), .t (.int .i64 0), .t (.int .i64 0), .t (.int .i64 0), .t (.bool false), .t (.bool false), .nils, .nils, .nils])
  k := ⟨_, Go.Proofs.Try.underlying59, by kernel_rfl⟩
  fl := fun d ks h => nomatch h
theorem T61_ok : TInfOK Go.Proofs.Try.prog 61 ⟨false, 1, 24, some [.nils], .slice 33, none⟩ where
  ty := ⟨⟨_, Go.Proofs.Try.underlying61, rfl⟩, by kernel_rfl⟩
  by_ := by kernel_rfl
  z := fun z hz => Option.some.inj hz ▸ (by kernel_rfl : zeroPVs Go.Proofs.Try.prog 61 = some [.nils])
  k := Go.Proofs.Try.underlying61
  fl := fun d ks h => nomatch h
theorem T63_ok : TInfOK Go.Proofs.Try.prog 63 ⟨true, 38, 456, some [.nils, .nils, .nils, .nils, .nils, .nils, .nils, .t (.int .i64 0), .t (.int .i64 0), .t (.int .i64 0), .t (.bool false), .t (.int .i64 0), .t (.int .i64 0), .t (.int .i64 0), .t (.int .i64 0), .t (.int .u64 0), .nils, .t (.int .i64 0), .t (.int .i64 0), .nils, .t (.int .i64 0), .t (.int .i64 0), .t (.int .i64 0), .t (.int .i64 0), .t (.int .i64 0), .t (.int .i64 0), .t (.int .i64 0), .t (.str []), .t (.int .i64 0), .t (.int .i64 0), .t (.int .i64 0), .t (.int .i64 0), .t (.int .i64 0), .t (.int .i64 0), .t (.int .i64 0), .t (.int .i64 0), .t (.int .i64 0), .t (.int .i64 0)], .struct [(0, 53), (19, 61), (20, 39), (36, 3), (37, 3)], none⟩ where
  ty := ⟨⟨_, Go.Proofs.Try.underlying63, rfl⟩, by kernel_rfl⟩
  by_ := by kernel_rfl
  z := fun z hz => Option.some.inj hz ▸ (by kernel_rfl : zeroPVs Go.Proofs.Try.prog 63 = some [.nils, .nils, .nils, .nils, .nils, .nils, .nils, .t (.int .i64 0), .t (.int .i64 0), .t (.int .i64 0), .t (.bool false), .t (.int .i64 0), .t (.int .i64 0), .t (.int .i64 0), .t (.int .i64 0), .t (.int .u64 0), .nils, .t (.int .i64 0), .t (.int .i64 0), .nils, .t (.int .i64 0), .t (.int .i64 0), .t (.int .i64 0), .t (.int .i64 0), .t (.int .i64 0), .t (.int .i64 0), .t (.int .i64 0), .t (.str []), .t (.int .i64 0), .t (.int .i64 0), .t (.int .i64 0), .t (.int .i64 0), .t (.int .i64 0), .t (.int .i64 0), .t (.int .i64 0), .t (.int .i64 0), .t (.int .i64 0), .t (.int .i64 0)])
  k := ⟨_, Go.Proofs.Try.underlying63, by kernel_rfl⟩
  fl := fun d ks h => nomatch h
theorem T78_ok : TInfOK Go.Proofs.Try.prog 78 ⟨false, 1, 24, some [.nils], .slice 106, none⟩ where
  ty := ⟨⟨_, Go.Proofs.Try.underlying78, rfl⟩, by kernel_rfl⟩
  by_ := by kernel_rfl
  z := fun z hz => Option.some.inj hz ▸ (by kernel_rfl : zeroPVs Go.Proofs.Try.prog 78 = some [.nils])
  k := Go.Proofs.Try.underlying78
  fl := fun d ks h => nomatch h
theorem T80_ok : TInfOK Go.Proofs.Try.prog 80 ⟨true, 10, 72, some [.t (.int .i64 0), .t (.int .i64 0), .t (.int .i64 0), .t (.int .i64 0), .t (.int .i64 0), .t (.int .i64 0), .t (.int .i64 0), .t (.bool false), .t (.bool false), .t (.int .i64 0)], .struct [(0, 27), (7, 4), (8, 4), (9, 3)], some (30, [.i .i64, .i .i64, .i .i64, .i .i64, .i .i64, .i .i64, .i .i64, .b, .b, .i .i64])⟩ where
  ty := ⟨⟨_, Go.Proofs.Try.underlying80, rfl⟩, by kernel_rfl⟩
  by_ := by kernel_rfl
  z := fun z hz => Option.some.inj hz ▸ (by kernel_rfl : zeroPVs Go.Proofs.Try.prog 80 = some [.t (.int .i64 0), .t (.int .i64 0), .t (.int .i64 0), .t (.int .i64 0), .t (.int .i64 0), .t (.int .i64 0), .t (.int .i64 0), .t (.bool false), .t (.bool false), .t (.int .i64 0)])
  k := ⟨_, Go.Proofs.Try.underlying80, by kernel_rfl⟩
  fl := fun d ks h => by cases h; exact ⟨by decide, by kernel_rfl, rfl, by kernel_rfl⟩
theorem T82_ok : TInfOK Go.Proofs.Try.prog 82 ⟨true, 18, 152, some [.t (.int .i64 0), .t (.int .i64 0), .t (.int .i64 0), .t (.int .i64 0), .t (.int .i64 0), .t (.int .i64 0), .t (.int .i64 0), .t (.int .i64 0), .t (.int .i64 0), .t (.str []), .t (.int .i64 0), .t (.int .i64 0), .t (.int .i64 0), .t (.int .i64 0), .t (.int .i64 0), .t (.int .i64 0), .t (.int .i64 0), .t (.int .i64 0)], .struct [(0, 3), (1, 3), (2, 39)], some (30, [.i .i64, .i .i64, .i .i64, .i .i64, .i .i64, .i .i64, .i .i64, .i .i64, .i .i64, .s, .i .i64, .i .i64, .i .i64, .i .i64, .i .i64, .i .i64, .i .i64, .i .i64])⟩ where
  ty := ⟨⟨_, Go.Proofs.Try.underlying82, rfl⟩, by kernel_rfl⟩
  by_ := by kernel_rfl
  z := fun z hz => Option.some.inj hz ▸ (by kernel_rfl : zeroPVs Go.Proofs.Try.prog 82 = some [.t (.int .i64 0), .t (.int .i64 0), .t (.int .i64 0), .t (.int .i64 0), .t (.int .i64 0), .t (.int .i64 0), .t (.int .i64 0), .t (.int .i64 0), .t (.int .i64 0), .t (.str []), .t (.int .i64 0), .t (.int .i64 0), .t (.int .i64 0), .t (.int .i64 0), .t (.int .i64 0), .t (.int .i64 0), .t (.int .i64 0), .t (.int .i64 0)])
  k := ⟨_, Go.Proofs.Try.underlying82, by kernel_rfl⟩
  fl := fun d ks h => by cases h; exact ⟨by decide, by kernel_rfl, rfl, by kernel_rfl⟩
theorem T83_ok : TInfOK Go.Proofs.Try.prog 83 ⟨false, 1, 24, some [.nils], .slice 108, none⟩ where
  ty := ⟨⟨_, Go.Proofs.Try.underlying83, rfl⟩, by kernel_rfl⟩
  by_ := by kernel_rfl
  z := fun z hz => Option.some.inj hz ▸ (by kernel_rfl : zeroPVs Go.Proofs.Try.prog 83 = some [.nils])
  k := Go.Proofs.Try.underlying83
  fl := fun d ks h => nomatch h
theorem T84_ok : TInfOK Go.Proofs.Try.prog 84 ⟨false, 1, 24, some [.nils], .slice 119, none⟩ where
  ty := ⟨⟨_, Go.Proofs.Try.underlying84, rfl⟩, by kernel_rfl⟩
  by_ := by kernel_rfl
  z := fun z hz => Option.some.inj hz ▸ (by kernel_rfl : zeroPVs Go.Proofs.Try.prog 84 = some [.nils])
  k := Go.Proofs.Try.underlying84
  fl := fun d ks h => nomatch h
theorem T86_ok : TInfOK Go.Proofs.Try.prog 86 ⟨true, 22, 184, some [.t (.int .i64 0), .t (.int .i64 0), .t (.int .i64 0), .t (.int .i64 0), .t (.int .i64 0), .t (.int .i64 0), .t (.int .i64 0), .t (.int .i64 0), .t (.int .i64 0), .t (.str []), .t (.int .i64 0), .t (.int .i64 0), .t (.int .i64 0), .t (.int .i64 0), .t (.int .i64 0), .t (.int .i64 0), .t (.int .i64 0), .t (.int .i64 0), .t (.int .i64 0), .t (.int .i64 0), .t (.int .i64 0), .t (.int .i64 0)], .struct [(0, 3), (1, 3), (2, 39), (18, 3), (19, 3), (20, 3), (21, 3)], some (30, [.i .i64, .i .i64, .i .i64, .i .i64, .i .i64, .i .i64, .i .i64, .i .i64, .i .i64, .s, .i .i64, .i .i64, .i .i64, .i .i64, .i .i64, .i .i64, .i .i64, .i .i64, .i .i64, .i .i64, .i .i64, .i .i64])⟩ where
  ty := ⟨⟨_, Go.Proofs.Try.underlying86, rfl⟩, by kernel_rfl⟩
  by_ := by kernel_rfl
  z := fun z hz => Option.some.inj hz ▸ (by kernel_rfl : zeroPVs Go.Proofs.Try.prog 86 = some [.t (.int .i64 0), .t (.int .i64 0), .t (.int .i64 0), .t (.int .i64 0), .t (.int .i64 0), .t (.int .i64 0), .t (.int .i64 0), .t (.int .i64 0), .t (.int .i64 0), .t (.str []), .t (.int .i64 0), .t (.int .i64 0), .t (.int .i64 0), .t (.int .i64 0), .t (.int .i64 0), .t (.int .i64 0), .t (.int .i64 0), .t (.int .i64 0), .t (.int .i64 0), .t (.int .i64 0), .t (.int .i64 0), .t (.int .i64 0)])
  k := ⟨_, Go.Proofs.Try.underlying86, by kernel_rfl⟩
  fl := fun d ks h => by cases h; exact ⟨by decide, by kernel_rfl, rfl, by kernel_rfl⟩
theorem T88_ok : TInfOK Go.Proofs.Try.prog 88 ⟨true, 72, 640, some [.t (.int .i64 0), .t (.int .i64 0), .t (.int .i64 0), .t (.int .i64 0), .t (.int .i64 0), .t (.int .i64 0), .t (.int .i64 0), .t (.int .i64 0), .t (.str []), .t (.int .i64 0), .t (.int .i64 0), .t (.int .i64 0), .t (.int .i64 0), .t (.int .i64 0), .t (.int .i64 0), .t (.int .i64 0), .t (.int .i64 0), .nils, .t (.int .i64 0), .t (.int .i64 0), .t (.int .i64 0), .t (.int .i64 0), .t (.int .i64 0), .t (.int .i64 0), .t (.int .i64 0), .t (.bool false), .t (.bool false), .t (.int .i64 0), .t (.bool false), .t (.int .i64 0), .t (.int .i64 0), .t (.int .i64 0), .t (.int .i64 0), .t (.int .i64 0), .t (.int .i64 0), .t (.int .i64 0), .t (.int .i64 0), .t (.int .i64 0), .t (.str []), .t (.int .i64 0), .t (.int .i64 0), .t (.int .i64 0), .t (.int .i64 0), .t (.int .i64 0), .t (.int .i64 0), .t (.int .i64 0), .t (.int .i64 0), .t (.bool false), .nils, .nils, .t (.int .i64 0), .t (.int .i64 0), .t (.int .i64 0), .t (.int .i64 0), .t (.int .i64 0), .t (.int .i64 0), .t (.int .i64 0), .t (.int .i64 0), .t (.int .i64 0), .t (.str []), .t (.int .i64 0), .t (.int .i64 0), .t (.int .i64 0), .t (.int .i64 0), .t (.int .i64 0), .t (.int .i64 0), .t (.int .i64 0), .t (.int .i64 0), .t (.int .i64 0), .t (.int .i64 0), .t (.int .i64 0), .t (.int .i64 0)], .struct [(0, 3), (1, 39), (17, 78), (18, 80), (28, 4), (29, 82), (47, 4), (48, 83), (49, 84), (50, 86)], none⟩ where
  ty := ⟨⟨_, Go.Proofs.Try.underlying88, rfl⟩, by kernel_rfl⟩
  by_ := by kernel_rfl
  z := fun z hz => Option.some.inj hz ▸ (by kernel_rfl : zeroPVs Go.Proofs.Try.prog 88 = some [.t (.int .i64 0), .t (.int .i64 0), .t (.int .i64 0), .t (.int .i64 0), .t (.int .i64 0), .t (.int .i64 0), .t (.int .i64 0), .t (.int .i64 0), .t (.str []), .t (.int .i64 0), .t (.int .i64 0), .t (.int .i64 0), .t (.int .i64 0), .t (.int .i64 0), .t (.int .i64 0), .t (.int .i64 0), .t (.int .i64 0), .nils, .t (.int .i64 0), .t (.int .i64 0), .t (.int .i64 0), .t (.int .i64 0), .t (.int .i64 0), .t (.int .i64 0), .t (.int .i64 0), .t (.bool false), .t (.bool false), .t (.int .i64 0), .t (.bool false), .t (.int .i64 0), .t (.int .i64 0), .t (.int .i64 0), .t (.int .i64 0), .t (.int .i64 0), .t (.int .i64 0), .t (.int .i64 0), .t (.int .i64 0), .t (.int .i64 0), .t (.str []), .t (.int .i64 0), .t (.int .i64 0), .t (.int .i64 0), .t (.int .i64 0), .t (.int .i64 0), .t (.int .i64 0), .t (.int .i64 0), .t (.int .i64 0), .t (.bool false), .nils, .nils, .t (.int .i64 0), .t (.int .i64 0), .t (.int .i64 0), .t (.int .i64 0), .t (.int .i64 0), .t (.int .i64 0), .t (.int .i64 0), .t (.int .i64 0), .t (.int .i64 0), .t (.str []), .t (.int .i64 0), .t (.int .i64 0), .t (.int .i64 0), .t (.int .i64 0), .t (.int .i64 0), .t (.int .i64 0), .t (.int .i64 0), .t (.int .i64 0), .t (.int .i64 0), .t (.int .i64 0), .t (.int .i64 0), .t (.int .i64 0)])
  k := ⟨_, Go.Proofs.Try.underlying88, by kernel_rfl⟩
  fl := fun d ks h => nomatch h
theorem T89_ok : TInfOK Go.Proofs.Try.prog 89 ⟨false, 1, 24, some [.nils], .slice 146, none⟩ where
  ty := ⟨⟨_, Go.Proofs.Try.underlying89, rfl⟩, by kernel_rfl⟩
  by_ := by kernel_rfl
  z := fun z hz => Option.some.inj hz ▸ (by kernel_rfl : zeroPVs Go.Proofs.Try.prog 89 = some [.nils])
  k := Go.Proofs.Try.underlying89
  fl := fun d ks h => nomatch h
theorem T91_ok : TInfOK Go.Proofs.Try.prog 91 ⟨true, 15, 112, some [.t (.int .i64 0), .t (.int .i64 0), .t (.int .i64 0), .t (.int .i64 0), .t (.int .i64 0), .t (.int .i64 0), .t (.int .i64 0), .t (.int .i64 0), .t (.int .i64 0), .t (.int .i64 0), .t (.bool false), .t (.bool false), .t (.int .i64 0), .t (.int .i64 0), .t (.int .i64 0)], .struct [(0, 3), (1, 3), (2, 3), (3, 3), (4, 3), (5, 3), (6, 3), (7, 3), (8, 3), (9, 3), (10, 4), (11, 4), (12, 22)], some (30, [.i .i64, .i .i64, .i .i64, .i .i64, .i .i64, .i .i64, .i .i64, .i .i64, .i .i64, .i .i64, .b, .b, .i .i64, .i .i64, .i .i64])⟩ where
  ty := ⟨⟨_, Go.Proofs.Try.underlying91, rfl⟩, by kernel_rfl⟩
  by_ := by kernel_rfl
  z := fun z hz => Option.some.inj hz ▸ (by kernel_rfl : zeroPVs Go.Proofs.Try.prog 91 = some [.t (.int .i64 0), .t (.int .i64 0), .t (.int .i64 0), .t (.int .i64 0), .t (.int .i64 0), .t (.int .i64 0), .t (.int .i64 0), .t (.int .i64 0), .t (.int .i64 0), .t (.int .i64 0), .t (.bool false), .t (.bool false), .t (.int .i64 0), .t (.int .i64 0), .t (.int .i64 0)])
  k := ⟨_, Go.Proofs.Try.underlying91, by kernel_rfl⟩
  fl := fun d ks h => by cases h; exact ⟨by decide, by kernel_rfl, rfl, by kernel_rfl⟩
theorem T93_ok : TInfOK Go.Proofs.Try.prog 93 ⟨true, 94, 824, some [.t (.int .i64 0), .t (.int .i64 0), .t (.int .i64 0), .t (.int .i64 0), .t (.int .i64 0), .t (.bool false), .t (.int .i64 0), .t (.int .i64 0), .t (.int .i64 0), .t (.int .i64 0), .t (.int .i64 0), .t (.int .i64 0), .t (.int .i64 0), .t (.int .i64 0), .t (.str []), .t (.int .i64 0), .t (.int .i64 0), .t (.int .i64 0), .t (.int .i64 0), .t (.int .i64 0), .t (.int .i64 0), .t (.int .i64 0), .t (.int .i64 0), .nils, .t (.int .i64 0), .t (.int .i64 0), .t (.int .i64 0), .t (.int .i64 0), .t (.int .i64 0), .t (.int .i64 0), .t (.int .i64 0), .t (.bool false), .t (.bool false), .t (.int .i64 0), .t (.bool false), .t (.int .i64 0), .t (.int .i64 0), .t (.int .i64 0), .t (.int .i64 0), .t (.int .i64 0), .t (.int .i64 0), .t (.int .i64 0), .t (.int .i64 0), .t (.int .i64 0), .t (.str []), .t (.int .i64 0), .t (.int .i64 0), .t (.int .i64 0), .t (.int .i64 0), .t (.int .i64 0), .t (.int .i64 0), .t (.int .i64 0), .t (.int .i64 0), .t (.bool false), .nils, .nils, .t (.int .i64 0), .t (.int .i64 0), .t (.int .i64 0), .t (.int .i64 0), .t (.int .i64 0), .t (.int .i64 0), .t (.int .i64 0), .t (.int .i64 0), .t (.int .i64 0), .t (.str []), .t (.int .i64 0), .t (.int .i64 0), .t (.int .i64 0), .t (.int .i64 0), .t (.int .i64 0), .t (.int .i64 0), .t (.int .i64 0), .t (.int .i64 0), .t (.int .i64 0), .t (.int .i64 0), .t (.int .i64 0), .t (.int .i64 0), .nils, .t (.int .i64 0), .t (.int .i64 0), .t (.int .i64 0), .t (.int .i64 0), .t (.int .i64 0), .t (.int .i64 0), .t (.int .i64 0), .t (.int .i64 0), .t (.int .i64 0), .t (.int .i64 0), .t (.bool false), .t (.bool false), .t (.int .i64 0), .t (.int .i64 0), .t (.int .i64 0)], .struct [(0, 3), (1, 3), (2, 3), (3, 3), (4, 3), (5, 4), (6, 88), (78, 89), (79, 91)], none⟩ where
  ty := ⟨⟨_, Go.Proofs.Try.underlying93, rfl⟩, by kernel_rfl⟩
  by_ := by kernel_rfl
  z := fun z hz => Option.some.inj hz ▸ (by kernel_rfl : zeroPVs Go.Proofs.Try.prog 93 = some [.t (.int .i64 0), .t (.int .i64 0), .t (.int .i64 0), .t (.int .i64 0), .t (.int .i64 0), .t (.bool false), .t (.int .i64 0), .t (.int .i64 0), .t (.int .i64 0), .t (.int .i64 0), .t (.int .i64 0), .t (.int .i64 0), .t (.int .i64 0), .t (.int .i64 0), .t (.str []), .t (.int .i64 0), .t (.int .i64 0), .t (.int .i64 0), .t (.int .i64 0), .t (.int .i64 0), .t (.int .i64 0), .t (.int .i64 0), .t (.int .i64 0), .nils, .t (.int .i64 0), .t (.int .i64 0), .t (.int .i64 0), .t (.int .i64 0), .t (.int .i64 0), .t (.int .i64 0), .t (.int .i64 0), .t (.bool false), .t (.bool false), .t (.int .i64 0), .t (.bool false), .t (.int .i64 0), .t (.int .i64 0), .t (.int .i64 0), .t (.int .i64 0), .t (.int .i64 0), .t (.int .i64 0), .t (.int .i64 0), .t (.int .i64 0), .t (.int .i64 0), .t (.str []), .t (.int .i64 0), .t (.int .i64 0), .t (.int .i64 0), .t (.int .i64 0), .t (.int .i64 0), .t (.int .i64 0), .t (.int .i64 0), .t (.int .i64 0), .t (.bool false), .nils, .nils, .t (.int .i64 0), .t (.int .i64 0), .t (.int .i64 0), .t (.int .i64 0), .t (.int .i64 0), .t (.int .i64 0), .t (.int .i64 0), .t (.int .i64 0), .t (.int .i64 0), .t (.str []), .t (.int .i64 0), .t (.int .i64 0), .t (.int .i64 0), .t (.int .i64 0), .t (.int .i64 0), .t (.int .i64 0), .t (.int .i64 0), .t (.int .i64 0), .t (.int .i64 0), .t (.int .i64 0), .t (.int .i64 0), .t (.int .i64 0), .nils, .t (.int .i64 0), .t (.int .i64 0), .t (.int .i64 0), .t (.int .i64 0), .t (.int .i64 0), .t (.int .i64 0), .t (.int .i64 0), .t (.int .i64 0), .t (.int .i64 0), .t (.int .i64 0), .t (.bool false), .t (.bool false), .t (.int .i64 0), .t (.int .i64 0), .t (.int .i64 0)])
  k := ⟨_, Go.Proofs.Try.underlying93, by kernel_rfl⟩
  fl := fun d ks h => nomatch h
theorem T96_ok : TInfOK Go.Proofs.Try.prog 96 ⟨true, 89, 768, some [.t (.int .i64 0), .t (.int .i64 0), .t (.int .i64 0), .t (.int .i64 0), .t (.int .i64 0), .t (.int .i64 0), .t (.int .i64 0), .t (.int .i64 0), .t (.int .i64 0), .t (.int .i64 0), .t (.str []), .t (.int .i64 0), .t (.int .i64 0), .t (.int .i64 0), .t (.int .i64 0), .t (.int .i64 0), .t (.int .i64 0), .t (.int .i64 0), .t (.int .i64 0), .nils, .t (.int .i64 0), .t (.int .i64 0), .t (.int .i64 0), .t (.int .i64 0), .t (.int .i64 0), .t (.int .i64 0), .t (.int .i64 0), .t (.bool false), .t (.bool false), .t (.int .i64 0), .t (.bool false), .t (.int .i64 0), .t (.int .i64 0), .t (.int .i64 0), .t (.int .i64 0), .t (.int .i64 0), .t (.int .i64 0), .t (.int .i64 0), .t (.int .i64 0), .t (.int .i64 0), .t (.str []), .t (.int .i64 0), .t (.int .i64 0), .t (.int .i64 0), .t (.int .i64 0), .t (.int .i64 0), .t (.int .i64 0), .t (.int .i64 0), .t (.int .i64 0), .t (.bool false), .nils, .nils, .t (.int .i64 0), .t (.int .i64 0), .t (.int .i64 0), .t (.int .i64 0), .t (.int .i64 0), .t (.int .i64 0), .t (.int .i64 0), .t (.int .i64 0), .t (.int .i64 0), .t (.str []), .t (.int .i64 0), .t (.int .i64 0), .t (.int .i64 0), .t (.int .i64 0), .t (.int .i64 0), .t (.int .i64 0), .t (.int .i64 0), .t (.int .i64 0), .t (.int .i64 0), .t (.int .i64 0), .t (.int .i64 0), .t (.int .i64 0), .t (.int .i64 0), .t (.int .i64 0), .t (.int .i64 0), .t (.int .i64 0), .t (.int .i64 0), .t (.int .i64 0), .t (.int .i64 0), .t (.int .i64 0), .t (.int .i64 0), .t (.int .i64 0), .t (.bool false), .t (.bool false), .t (.int .i64 0), .t (.int .i64 0), .t (.int .i64 0)], .struct [(0, 3), (1, 3), (2, 88), (74, 91)], none⟩ where
  ty := ⟨⟨_, Go.Proofs.Try.underlying96, rfl⟩, by kernel_rfl⟩
  by_ := by kernel_rfl
  z := fun z hz => Option.some.inj hz ▸ (by kernel_rfl : zeroPVs Go.Proofs.Try.prog 96 = some [.t (.int .i64 0), .t (.int .i64 0), .t (.int .i64 0), .t (.int .i64 0), .t (.int .i64 0), .t (.int .i64 0), .t (.int .i64 0), .t (.int .i64 0), .t (.int .i64 0), .t (.int .i64 0), .t (.str []), .t (.int .i64 0), .t (.int .i64 0), .t (.int .i64 0), .t (.int .i64 0), .t (.int .i64 0), .t (.int .i64 0), .t (.int .i64 0), .t (.int .i64 0), .nils, .t (.int .i64 0), .t (.int .i64 0), .t (.int .i64 0), .t (.int .i64 0), .t (.int .i64 0), .t (.int .i64 0), .t (.int .i64 0), .t (.bool false), .t (.bool false), .t (.int .i64 0), .t (.bool false), .t (.int .i64 0), .t (.int .i64 0), .t (.int .i64 0), .t (.int .i64 0), .t (.int .i64 0), .t (.int .i64 0), .t (.int .i64 0), .t (.int .i64 0), .t (.int .i64 0), .t (.str []), .t (.int .i64 0), .t (.int .i64 0), .t (.int .i64 0), .t (.int .i64 0), .t (.int .i64 0), .t (.int .i64 0), .t (.int .i64 0), .t (.int .i64 0), .t (.bool false), .nils, .nils, .t (.int .i64 0), .t (.int .i64 0), .t (.int .i64 0), .t (.int .i64 0), .t (.int .i64 0), .t (.int .i64 0), .t (.int .i64 0), .t (.int .i64 0), .t (.int .i64 0), .t (.str []), .t (.int .i64 0), .t (.int .i64 0), .t (.int .i64 0), .t (.int .i64 0), .t (.int .i64 0), .t (.int .i64 0), .t (.int .i64 0), .t (.int .i64 0), .t (.int .i64 0), .t (.int .i64 0), .t (.int .i64 0), .t (.int .i64 0), .t (.int .i64 0), .t (.int .i64 0), .t (.int .i64 0), .t (.int .i64 0), .t (.int .i64 0), .t (.int .i64 0), .t (.int .i64 0), .t (.int .i64 0), .t (.int .i64 0), .t (.int .i64 0), .t (.bool false), .t (.bool false), .t (.int .i64 0), .t (.int .i64 0), .t (.int .i64 0)])
  k := ⟨_, Go.Proofs.Try.underlying96, by kernel_rfl⟩
  fl := fun d ks h => nomatch h
theorem T98_ok : TInfOK Go.Proofs.Try.prog 98 ⟨true, 6, 80, some [.t (.int .i64 0), .t (.int .i64 0), .t (.int .i64 0), .t (.int .i64 0), .nils, .nils], .struct [(0, 3), (1, 3), (2, 3), (3, 3), (4, 47), (5, 78)], none⟩ where
  ty := ⟨⟨_, Go.Proofs.Try.underlying98, rfl⟩, by kernel_rfl⟩
  by_ := by kernel_rfl
  z := fun z hz => Option.some.inj hz ▸ (by kernel_rfl : zeroPVs Go.Proofs.Try.prog 98 = some [.t (.int .i64 0), .t (.int .i64 0), .t (.int .i64 0), .t (.int .i64 0), .nils, .nils])
  k := ⟨_, Go.Proofs.Try.underlying98, by kernel_rfl⟩
  fl := fun d ks h => nomatch h
theorem T106_ok : TInfOK Go.Proofs.Try.prog 106 ⟨true, 20, 176, some [.t (.int .i64 0), .t (.int .i64 0), .t (.int .i64 0), .t (.str []), .t (.int .i64 0), .t (.int .i64 0), .t (.int .i64 0), .t (.int .i64 0), .t (.int .i64 0), .t (.int .i64 0), .t (.int .i64 0), .t (.str []), .t (.int .i64 0), .t (.int .i64 0), .t (.int .i64 0), .t (.int .i64 0), .t (.int .i64 0), .t (.int .i64 0), .t (.int .i64 0), .t (.int .i64 0)], .struct [(0, 3), (1, 3), (2, 3), (3, 9), (4, 39)], some (30, [.i .i64, .i .i64, .i .i64, .s, .i .i64, .i .i64, .i .i64, .i .i64, .i .i64, .i .i64, .i .i64, .s, .i .i64, .i .i64, .i .i64, .i .i64, .i .i64, .i .i64, .i .i64, .i .i64])⟩ where
  ty := ⟨⟨_, Go.Proofs.Try.underlying106, rfl⟩, by kernel_rfl⟩
  by_ := by kernel_rfl
  z := fun z hz => Option.some.inj hz ▸ (by kernel_rfl : zeroPVs Go.Proofs.Try.prog 106 = some [.t (.int .i64 0), .t (.int .i64 0), .t (.int .i64 0), .t (.str []), .t (.int .i64 0), .t (.int .i64 0), .t (.int .i64 0), .t (.int .i64 0), .t (.int .i64 0), .t (.int .i64 0), .t (.int .i64 0), .t (.str []), .t (.int .i64 0), .t (.int .i64 0), .t (.int .i64 0), .t (.int .i64 0), .t (.int .i64 0), .t (.int .i64 0), .t (.int .i64 0), .t (.int .i64 0)])
  k := ⟨_, Go.Proofs.Try.underlying106, by kernel_rfl⟩
  fl := fun d ks h => by cases h; exact ⟨by decide, by kernel_rfl, rfl, by kernel_rfl⟩
theorem T108_ok : TInfOK Go.Proofs.Try.prog 108 ⟨true, 18, 144, some [.t (.bool false), .t (.bool false), .t (.int .i64 0), .t (.int .i64 0), .t (.int .i64 0), .t (.int .i64 0), .t (.int .i64 0), .t (.int .i64 0), .t (.int .i64 0), .t (.str []), .t (.int .i64 0), .t (.int .i64 0), .t (.int .i64 0), .t (.int .i64 0), .t (.int .i64 0), .t (.int .i64 0), .t (.int .i64 0), .t (.int .i64 0)], .struct [(0, 4), (1, 4), (2, 39)], some (30, [.b, .b, .i .i64, .i .i64, .i .i64, .i .i64, .i .i64, .i .i64, .i .i64, .s, .i .i64, .i .i64, .i .i64, .i .i64, .i .i64, .i .i64, .i .i64, .i .i64])⟩ where
  ty := ⟨⟨_, Go.Proofs.Try.underlying108, rfl⟩, by kernel_rfl⟩
  by_ := by kernel_rfl
  z := fun z hz => Option.some.inj hz ▸ (by kernel_rfl : zeroPVs Go.Proofs.Try.prog 108 = some [.t (.bool false), .t (.bool false), .t (.int .i64 0), .t (.int .i64 0), .t (.int .i64 0), .t (.int .i64 0), .t (.int .i64 0), .t (.int .i64 0), .t (.int .i64 0), .t (.str []), .t (.int .i64 0), .t (.int .i64 0), .t (.int .i64 0), .t (.int .i64 0), .t (.int .i64 0), .t (.int .i64 0), .t (.int .i64 0), .t (.int .i64 0)])
  k := ⟨_, Go.Proofs.Try.underlying108, by kernel_rfl⟩
  fl := fun d ks h => by cases h; exact ⟨by decide, by kernel_rfl, rfl, by kernel_rfl⟩
theorem T115_ok : TInfOK Go.Proofs.Try.prog 115 ⟨true, 18, 152, some [.t (.int .i64 0), .t (.int .i64 0), .t (.int .i64 0), .t (.int .i64 0), .t (.int .i64 0), .t (.int .i64 0), .t (.int .i64 0), .t (.int .i64 0), .t (.int .i64 0), .t (.str []), .t (.int .i64 0), .t (.int .i64 0), .t (.int .i64 0), .t (.int .i64 0), .t (.int .i64 0), .t (.int .i64 0), .t (.int .i64 0), .t (.int .i64 0)], .struct [(0, 3), (1, 3), (2, 39)], some (30, [.i .i64, .i .i64, .i .i64, .i .i64, .i .i64, .i .i64, .i .i64, .i .i64, .i .i64, .s, .i .i64, .i .i64, .i .i64, .i .i64, .i .i64, .i .i64, .i .i64, .i .i64])⟩ where
  ty := ⟨⟨_, Go.Proofs.Try.underlying115, rfl⟩, by kernel_rfl⟩
  by_ := by kernel_rfl
  z := fun z hz => Option.some.inj hz ▸ (by kernel_rfl : zeroPVs Go.Proofs.Try.prog 115 = some [.t (.int .i64 0), .t (.int .i64 0), .t (.int .i64 0), .t (.int .i64 0), .t (.int .i64 0), .t (.int .i64 0), .t (.int .i64 0), .t (.int .i64 0), .t (.int .i64 0), .t (.str []), .t (.int .i64 0), .t (.int .i64 0), .t (.int .i64 0), .t (.int .i64 0), .t (.int .i64 0), .t (.int .i64 0), .t (.int .i64 0), .t (.int .i64 0)])
  k := ⟨_, Go.Proofs.Try.underlying115, by kernel_rfl⟩
  fl := fun d ks h => by cases h; exact ⟨by decide, by kernel_rfl, rfl, by kernel_rfl⟩
theorem T117_ok : TInfOK Go.Proofs.Try.prog 117 ⟨true, 19, 160, some [.t (.int .i64 0), .t (.int .i64 0), .t (.int .i64 0), .t (.int .i64 0), .t (.int .i64 0), .t (.int .i64 0), .t (.int .i64 0), .t (.int .i64 0), .t (.int .i64 0), .t (.int .i64 0), .t (.str []), .t (.int .i64 0), .t (.int .i64 0), .t (.int .i64 0), .t (.int .i64 0), .t (.int .i64 0), .t (.int .i64 0), .t (.int .i64 0), .t (.int .i64 0)], .struct [(0, 3), (1, 3), (2, 3), (3, 39)], some (30, [.i .i64, .i .i64, .i .i64, .i .i64, .i .i64, .i .i64, .i .i64, .i .i64, .i .i64, .i .i64, .s, .i .i64, .i .i64, .i .i64, .i .i64, .i .i64, .i .i64, .i .i64, .i .i64])⟩ where
  ty := ⟨⟨_, Go.Proofs.Try.underlying117, rfl⟩, by kernel_rfl⟩
  by_ := by kernel_rfl
  z := fun z hz => Option.some.inj hz ▸ (by kernel_rfl : zeroPVs Go.Proofs.Try.prog 117 = some [.t (.int .i64 0), .t (.int .i64 0), .t (.int .i64 0), .t (.int .i64 0), .t (.int .i64 0), .t (.int .i64 0), .t (.int .i64 0), .t (.int .i64 0), .t (.int .i64 0), .t (.int .i64 0), .t (.str []), .t (.int .i64 0), .t (.int .i64 0), .t (.int .i64 0), .t (.int .i64 0), .t (.int .i64 0), .t (.int .i64 0), .t (.int .i64 0), .t (.int .i64 0)])
  k := ⟨_, Go.Proofs.Try.underlying117, by kernel_rfl⟩
  fl := fun d ks h => by cases h; exact ⟨by decide, by kernel_rfl, rfl, by kernel_rfl⟩
theorem T119_ok : TInfOK Go.Proofs.Try.prog 119 ⟨true, 64, 560, some [.t (.int .i64 0), .t (.int .i64 0), .t (.int .i64 0), .t (.int .i64 0), .t (.int .i64 0), .t (.int .i64 0), .t (.int .i64 0), .t (.int .i64 0), .t (.int .i64 0), .t (.int .i64 0), .t (.str []), .t (.int .i64 0), .t (.int .i64 0), .t (.int .i64 0), .t (.int .i64 0), .t (.int .i64 0), .t (.int .i64 0), .t (.int .i64 0), .t (.int .i64 0), .t (.int .i64 0), .t (.int .i64 0), .t (.int .i64 0), .t (.int .i64 0), .t (.int .i64 0), .t (.int .i64 0), .t (.int .i64 0), .t (.int .i64 0), .t (.int .i64 0), .t (.int .i64 0), .t (.str []), .t (.int .i64 0), .t (.int .i64 0), .t (.int .i64 0), .t (.int .i64 0), .t (.int .i64 0), .t (.int .i64 0), .t (.int .i64 0), .t (.int .i64 0), .t (.int .i64 0), .t (.int .i64 0), .t (.str []), .t (.int .i64 0), .t (.int .i64 0), .t (.int .i64 0), .t (.int .i64 0), .t (.int .i64 0), .t (.int .i64 0), .t (.int .i64 0), .t (.str []), .t (.int .i64 0), .t (.int .i64 0), .t (.int .i64 0), .t (.int .i64 0), .t (.int .i64 0), .t (.int .i64 0), .t (.int .i64 0), .t (.int .i64 0), .t (.int .i64 0), .t (.int .i64 0), .t (.int .i64 0), .t (.int .i64 0), .t (.int .i64 0), .t (.int .i64 0), .nils], .struct [(0, 3), (1, 115), (19, 117), (38, 3), (39, 3), (40, 9), (41, 39), (57, 57), (63, 78)], none⟩ where
  ty := ⟨⟨_, Go.Proofs.Try.underlying119, rfl⟩, by kernel_rfl⟩
  by_ := by kernel_rfl
  z := fun z hz => Option.some.inj hz ▸ (by kernel_rfl : zeroPVs Go.Proofs.Try.prog 119 = some [.t (.int .i64 0), .t (.int .i64 0), .t (.int .i64 0), .t (.int .i64 0), .t (.int .i64 0), .t (.int .i64 0), .t (.int .i64 0), .t (.int .i64 0), .t (.int .i64 0), .t (.int .i64 0), .t (.str []), .t (.int .i64 0), .t (.int .i64 0), .t (.int .i64 0), .t (.int .i64 0), .t (.int .i64 0), .t (.int .i64 0), .t (.int .i64 0), .t (.int .i64 0), .t (.int .i64 0), .t (.int .i64 0), .t (.int .i64 0), .t (.int .i64 0), .t (.int .i64 0), .t (.int .i64 0), .t (.int .i64 0), .t (.int .i64 0), .t (.int .i64 0), .t (.int .i64 0), .t (.str []), .t (.int .i64 0), .t (.int .i64 0), .t (.int .i64 0), .t (.int .i64 0), .t (.int .i64 0), .t (.int .i64 0), .t (.int .i64 0), .t (.int .i64 0), .t (.int .i64 0), .t (.int .i64 0), .t (.str []), .t (.int .i64 0), .t (.int .i64 0), .t (.int .i64 0), .t (.int .i64 0), .t (.int .i64 0), .t (.int .i64 0), .t (.int .i64 0), .t (.str []), .t (.int .i64 0), .t (.int .i64 0), .t (.int .i64 0), .t (.int .i64 0), .t (.int .i64 0), .t (.int .i64 0), .t (.int .i64 0), .t (.int .i64 0), .t (.int .i64 0), .t (.int .i64 0), .t (.int .i64 0), .t (.int .i64 0), .t (.int .i64 0), .t (.int .i64 0), .nils])
  k := ⟨_, Go.Proofs.Try.underlying119, by kernel_rfl⟩
  fl := fun d ks h => nomatch h
theorem T121_ok : TInfOK Go.Proofs.Try.prog 121 ⟨false, 1, 24, some [.nils], .slice 5, none⟩ where
  ty := ⟨⟨_, Go.Proofs.Try.underlying121, rfl⟩, by kernel_rfl⟩
  by_ := by kernel_rfl
  z := fun z hz => Option.some.inj hz ▸ (by kernel_rfl : zeroPVs Go.Proofs.Try.prog 121 = some [.nils])
  k := Go.Proofs.Try.underlying121
  fl := fun d ks h => nomatch h
theorem T122_ok : TInfOK Go.Proofs.Try.prog 122 ⟨true, 2, 32, some [.t (.str []), .t (.str [])], .arr 2 9, some (30, [.s, .s])⟩ where
  ty := ⟨⟨_, Go.Proofs.Try.underlying122, rfl⟩, by kernel_rfl⟩
  by_ := by kernel_rfl
  z := fun z hz => Option.some.inj hz ▸ (by kernel_rfl : zeroPVs Go.Proofs.Try.prog 122 = some [.t (.str []), .t (.str [])])
  k := Go.Proofs.Try.underlying122
  fl := fun d ks h => by cases h; exact ⟨by decide, by kernel_rfl, rfl, by kernel_rfl⟩
theorem T123_ok : TInfOK Go.Proofs.Try.prog 123 ⟨true, 6, 96, some [.t (.str []), .t (.str []), .t (.str []), .t (.str []), .t (.str []), .t (.str [])], .arr 6 9, some (30, [.s, .s, .s, .s, .s, .s])⟩ where
  ty := ⟨⟨_, Go.Proofs.Try.underlying123, rfl⟩, by kernel_rfl⟩
  by_ := by kernel_rfl
  z := fun z hz => Option.some.inj hz ▸ (by kernel_rfl : zeroPVs Go.Proofs.Try.prog 123 = some [.t (.str []), .t (.str []), .t (.str []), .t (.str []), .t (.str []), .t (.str [])])
  k := Go.Proofs.Try.underlying123
  fl := fun d ks h => by cases h; exact ⟨by decide, by kernel_rfl, rfl, by kernel_rfl⟩
theorem T127_ok : TInfOK Go.Proofs.Try.prog 127 ⟨false, 1, 4, some [.t (.int .u32 0)], .int .u32, none⟩ where
  ty := ⟨⟨_, Go.Proofs.Try.underlying127, rfl⟩, by kernel_rfl⟩
  by_ := by kernel_rfl
  z := fun z hz => Option.some.inj hz ▸ (by kernel_rfl : zeroPVs Go.Proofs.Try.prog 127 = some [.t (.int .u32 0)])
  k := Go.Proofs.Try.underlying127
  fl := fun d ks h => nomatch h
theorem T146_ok : TInfOK Go.Proofs.Try.prog 146 ⟨true, 2, 16, some [.t (.int .i64 0), .t (.int .i64 0)], .struct [(0, 3), (1, 3)], some (30, [.i .i64, .i .i64])⟩ where
  ty := ⟨⟨_, Go.Proofs.Try.underlying146, rfl⟩, by kernel_rfl⟩
  by_ := by kernel_rfl
  z := fun z hz => Option.some.inj hz ▸ (by kernel_rfl : zeroPVs Go.Proofs.Try.prog 146 = some [.t (.int .i64 0), .t (.int .i64 0)])
  k := ⟨_, Go.Proofs.Try.underlying146, by kernel_rfl⟩
  fl := fun d ks h => by cases h; exact ⟨by decide, by kernel_rfl, rfl, by kernel_rfl⟩
theorem hT : TOK Go.Proofs.Try.prog T := TOK.of_all ⟨T3_ok, T4_ok, T5_ok, T9_ok, T22_ok, T24_ok, T25_ok, T27_ok, T28_ok, T30_ok, T31_ok, T33_ok, T35_ok, T37_ok, T39_ok, T45_ok, T46_ok, T47_ok, T48_ok, T49_ok, T50_ok, T51_ok, T53_ok, T57_ok, T59_ok, T61_ok, T63_ok, T78_ok, T80_ok, T82_ok, T83_ok, T84_ok, T86_ok, T88_ok, T89_ok, T91_ok, T93_ok, T96_ok, T98_ok, T106_ok, T108_ok, T115_ok, T117_ok, T119_ok, T121_ok, T122_ok, T123_ok, T127_ok, T146_ok, trivial⟩
theorem hm : Go.Proofs.Try.prog.follows .mixedOrders = true := by kernel_rfl
end Go.PW
