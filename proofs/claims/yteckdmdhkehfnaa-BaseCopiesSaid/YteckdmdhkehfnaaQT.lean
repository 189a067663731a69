import Derived.Test.YteckdmdhkehfnaaPwR
import Derived.Test.YteckdmdhkehfnaaProg
import Derived.KernelRfl
namespace Go.PW
open Go.RowKit
def T : TS := [
  (3, ⟨false, 1, 8, some [.t (.int .i64 0)], .int .i64, none⟩),
  (4, ⟨false, 1, 1, some [.t (.bool false)], .bool, none⟩),
  (9, ⟨false, 1, 16, some [.t (.str [])], .str, none⟩),
  (22, ⟨true, 5, 40, some [.t (.int .i64 0), .t (.int .i64 0), .t (.int .i64 0), .t (.int .i64 0), .t (.int .i64 0)], .arr 5 3, some (30, [.i .i64, .i .i64, .i .i64, .i .i64, .i .i64])⟩),
  (24, ⟨true, 7, 56, some [.t (.int .i64 0), .t (.int .i64 0), .t (.int .i64 0), .t (.int .i64 0), .t (.int .i64 0), .t (.int .i64 0), .t (.int .i64 0)], .struct [(0, 3), (1, 3), (2, 22)], some (30, [.i .i64, .i .i64, .i .i64, .i .i64, .i .i64, .i .i64, .i .i64])⟩),
  (25, ⟨false, 1, 24, some [.nils], .slice 9, none⟩),
  (27, ⟨true, 3, 40, some [.t (.int .i64 0), .t (.int .i64 0), .nils], .struct [(0, 3), (1, 3), (2, 25)], none⟩),
  (28, ⟨false, 1, 24, some [.nils], .slice 58, none⟩),
  (30, ⟨true, 17, 176, some [.t (.str []), .t (.bool false), .t (.int .i64 0), .t (.int .i64 0), .t (.int .i64 0), .t (.int .i64 0), .t (.int .i64 0), .t (.int .i64 0), .t (.int .i64 0), .t (.int .i64 0), .t (.int .i64 0), .t (.int .i64 0), .nils, .t (.int .i64 0), .t (.int .i64 0), .t (.int .i64 0), .nils], .struct [(0, 9), (1, 4), (2, 24), (9, 3), (10, 27), (13, 3), (14, 3), (15, 3), (16, 28)], none⟩),
  (35, ⟨true, 17, 176, some [.t (.str []), .t (.int .i64 0), .t (.int .i64 0), .t (.int .i64 0), .t (.int .i64 0), .t (.int .i64 0), .t (.int .i64 0), .t (.int .i64 0), .t (.int .i64 0), .t (.int .i64 0), .t (.int .i64 0), .nils, .t (.int .i64 0), .t (.int .i64 0), .t (.int .i64 0), .nils, .t (.int .i64 0)], .struct [(0, 9), (1, 24), (8, 3), (9, 27), (12, 3), (13, 3), (14, 3), (15, 28), (16, 3)], none⟩),
  (37, ⟨false, 1, 24, some [.nils], .slice 30, none⟩),
  (38, ⟨true, 3, 24, some [.t (.int .i64 0), .t (.int .i64 0), .t (.int .i64 0)], .arr 3 3, some (30, [.i .i64, .i .i64, .i .i64])⟩),
  (40, ⟨true, 19, 128, some [.t (.int .i64 0), .t (.int .i64 0), .t (.int .i64 0), .t (.int .i64 0), .t (.int .i64 0), .t (.bool false), .t (.bool false), .t (.bool false), .t (.bool false), .t (.int .i64 0), .t (.int .i64 0), .t (.int .i64 0), .t (.int .i64 0), .t (.int .i64 0), .t (.int .i64 0), .t (.int .i64 0), .t (.bool false), .t (.int .i64 0), .t (.int .i64 0)], .struct [(0, 3), (1, 3), (2, 3), (3, 3), (4, 3), (5, 4), (6, 4), (7, 4), (8, 4), (9, 3), (10, 38), (13, 3), (14, 3), (15, 3), (16, 4), (17, 3), (18, 3)], some (30, [.i .i64, .i .i64, .i .i64, .i .i64, .i .i64, .b, .b, .b, .b, .i .i64, .i .i64, .i .i64, .i .i64, .i .i64, .i .i64, .i .i64, .b, .i .i64, .i .i64])⟩),
  (45, ⟨true, 2, 16, some [.t (.int .i64 0), .t (.int .i64 0)], .struct [(0, 3), (1, 3)], some (30, [.i .i64, .i .i64])⟩),
  (47, ⟨true, 16, 136, some [.t (.int .i64 0), .t (.int .i64 0), .t (.int .i64 0), .t (.int .i64 0), .t (.int .i64 0), .t (.int .i64 0), .t (.int .i64 0), .t (.str []), .t (.int .i64 0), .t (.int .i64 0), .t (.int .i64 0), .t (.int .i64 0), .t (.int .i64 0), .t (.int .i64 0), .t (.int .i64 0), .t (.int .i64 0)], .struct [(0, 3), (1, 3), (2, 3), (3, 3), (4, 3), (5, 3), (6, 3), (7, 9), (8, 3), (9, 3), (10, 45), (12, 45), (14, 45)], some (30, [.i .i64, .i .i64, .i .i64, .i .i64, .i .i64, .i .i64, .i .i64, .s, .i .i64, .i .i64, .i .i64, .i .i64, .i .i64, .i .i64, .i .i64, .i .i64])⟩),
  (48, ⟨false, 1, 24, some [.nils], .slice 60, none⟩),
  (50, ⟨true, 10, 72, some [.t (.int .i64 0), .t (.int .i64 0), .t (.int .i64 0), .t (.int .i64 0), .t (.int .i64 0), .t (.int .i64 0), .t (.int .i64 0), .t (.bool false), .t (.bool false), .t (.int .i64 0)], .struct [(0, 24), (7, 4), (8, 4), (9, 3)], some (30, [.i .i64, .i .i64, .i .i64, .i .i64, .i .i64, .i .i64, .i .i64, .b, .b, .i .i64])⟩),
  (52, ⟨true, 18, 152, some [.t (.int .i64 0), .t (.int .i64 0), .t (.int .i64 0), .t (.int .i64 0), .t (.int .i64 0), .t (.int .i64 0), .t (.int .i64 0), .t (.int .i64 0), .t (.int .i64 0), .t (.str []), .t (.int .i64 0), .t (.int .i64 0), .t (.int .i64 0), .t (.int .i64 0), .t (.int .i64 0), .t (.int .i64 0), .t (.int .i64 0), .t (.int .i64 0)], .struct [(0, 3), (1, 3), (2, 47)], some (30, [.i .i64, .i .i64, .i .i64, .i .i64, .i .i64, .i .i64, .i .i64, .i .i64, .i .i64, .s, .i .i64, .i .i64, .i .i64, .i .i64, .i .i64, .i .i64, .i .i64, .i .i64])⟩),
  (53, ⟨false, 1, 24, some [.nils], .slice 62, none⟩),
  (54, ⟨false, 1, 24, some [.nils], .slice 70, none⟩),
  (56, ⟨true, 22, 184, some [.t (.int .i64 0), .t (.int .i64 0), .t (.int .i64 0), .t (.int .i64 0), .t (.int .i64 0), .t (.int .i64 0), .t (.int .i64 0), .t (.int .i64 0), .t (.int .i64 0), .t (.str []), .t (.int .i64 0), .t (.int .i64 0), .t (.int .i64 0), .t (.int .i64 0), .t (.int .i64 0), .t (.int .i64 0), .t (.int .i64 0), .t (.int .i64 0), .t (.int .i64 0), .t (.int .i64 0), .t (.int .i64 0), .t (.int .i64 0)], .struct [(0, 3), (1, 3), (2, 47), (18, 3), (19, 3), (20, 3), (21, 3)], some (30, [.i .i64, .i .i64, .i .i64, .i .i64, .i .i64, .i .i64, .i .i64, .i .i64, .i .i64, .s, .i .i64, .i .i64, .i .i64, .i .i64, .i .i64, .i .i64, .i .i64, .i .i64, .i .i64, .i .i64, .i .i64, .i .i64])⟩),
  (58, ⟨true, 72, 640, some [.t (.int .i64 0), .t (.int .i64 0), .t (.int .i64 0), .t (.int .i64 0), .t (.int .i64 0), .t (.int .i64 0), .t (.int .i64 0), .t (.int .i64 0), .t (.str []), .t (.int .i64 0), .t (.int .i64 0), .t (.int .i64 0), .t (.int .i64 0), .t (.int .i64 0), .t (.int .i64 0), .t (.int .i64 0), .t (.int .i64 0), .nils, .t (.int .i64 0), .t (.int .i64 0), .t (.int .i64 0), .t (.int .i64 0), .t (.int .i64 0), .t (.int .i64 0), .t (.int .i64 0), .t (.bool false), .t (.bool false), .t (.int .i64 0), .t (.bool false), .t (.int .i64 0), .t (.int .i64 0), .t (.int .i64 0), .t (.int .i64 0), .t (.int .i64 0), .t (.int .i64 0), .t (.int .i64 0), .t (.int .i64 0), .t (.int .i64 0), .t (.str []), .t (.int .i64 0), .t (.int .i64 0), .t (.int .i64 0), .t (.int .i64 0), .t (.int .i64 0), .t (.int .i64 0), .t (.int .i64 0), .t (.int .i64 0), .t (.bool false), .nils, .nils, .t (.int .i64 0), .t (.int .i64 0), .t (.int .i64 0), .t (.int .i64 0), .t (.int .i64 0), .t (.int .i64 0), .t (.int .i64 0), .t (.int .i64 0), .t (.int .i64 0), .t (.str []), .t (.int .i64 0), .t (.int .i64 0), .t (.int .i64 0), .t (.int .i64 0), .t (.int .i64 0), .t (.int .i64 0), .t (.int .i64 0), .t (.int .i64 0), .t (.int .i64 0), .t (.int .i64 0), .t (.int .i64 0), .t (.int .i64 0)], .struct [(0, 3), (1, 47), (17, 48), (18, 50), (28, 4), (29, 52), (47, 4), (48, 53), (49, 54), (50, 56)], none⟩),
  (60, ⟨true, 20, 176, some [.t (.int .i64 0), .t (.int .i64 0), .t (.int .i64 0), .t (.str []), .t (.int .i64 0), .t (.int .i64 0), .t (.int .i64 0), .t (.int .i64 0), .t (.int .i64 0), .t (.int .i64 0), .t (.int .i64 0), .t (.str []), .t (.int .i64 0), .t (.int .i64 0), .t (.int .i64 0), .t (.int .i64 0), .t (.int .i64 0), .t (.int .i64 0), .t (.int .i64 0), .t (.int .i64 0)], .struct [(0, 3), (1, 3), (2, 3), (3, 9), (4, 47)], some (30, [.i .i64, .i .i64, .i .i64, .s, .i .i64, .i .i64, .i .i64, .i .i64, .i .i64, .i .i64, .i .i64, .s, .i .i64, .i .i64, .i .i64, .i .i64, .i .i64, .i .i64, .i .i64, .i .i64])⟩),
  (62, ⟨true, 18, 144, some [.t (.bool false), .t (.bool false), .t (.int .i64 0), .t (.int .i64 0), .t (.int .i64 0), .t (.int .i64 0), .t (.int .i64 0), .t (.int .i64 0), .t (.int .i64 0), .t (.str []), .t (.int .i64 0), .t (.int .i64 0), .t (.int .i64 0), .t (.int .i64 0), .t (.int .i64 0), .t (.int .i64 0), .t (.int .i64 0), .t (.int .i64 0)], .struct [(0, 4), (1, 4), (2, 47)], some (30, [.b, .b, .i .i64, .i .i64, .i .i64, .i .i64, .i .i64, .i .i64, .i .i64, .s, .i .i64, .i .i64, .i .i64, .i .i64, .i .i64, .i .i64, .i .i64, .i .i64])⟩),
  (64, ⟨true, 18, 152, some [.t (.int .i64 0), .t (.int .i64 0), .t (.int .i64 0), .t (.int .i64 0), .t (.int .i64 0), .t (.int .i64 0), .t (.int .i64 0), .t (.int .i64 0), .t (.int .i64 0), .t (.str []), .t (.int .i64 0), .t (.int .i64 0), .t (.int .i64 0), .t (.int .i64 0), .t (.int .i64 0), .t (.int .i64 0), .t (.int .i64 0), .t (.int .i64 0)], .struct [(0, 3), (1, 3), (2, 47)], some (30, [.i .i64, .i .i64, .i .i64, .i .i64, .i .i64, .i .i64, .i .i64, .i .i64, .i .i64, .s, .i .i64, .i .i64, .i .i64, .i .i64, .i .i64, .i .i64, .i .i64, .i .i64])⟩),
  (66, ⟨true, 19, 160, some [.t (.int .i64 0), .t (.int .i64 0), .t (.int .i64 0), .t (.int .i64 0), .t (.int .i64 0), .t (.int .i64 0), .t (.int .i64 0), .t (.int .i64 0), .t (.int .i64 0), .t (.int .i64 0), .t (.str []), .t (.int .i64 0), .t (.int .i64 0), .t (.int .i64 0), .t (.int .i64 0), .t (.int .i64 0), .t (.int .i64 0), .t (.int .i64 0), .t (.int .i64 0)], .struct [(0, 3), (1, 3), (2, 3), (3, 47)], some (30, [.i .i64, .i .i64, .i .i64, .i .i64, .i .i64, .i .i64, .i .i64, .i .i64, .i .i64, .i .i64, .s, .i .i64, .i .i64, .i .i64, .i .i64, .i .i64, .i .i64, .i .i64, .i .i64])⟩),
  (68, ⟨true, 6, 48, some [.t (.int .i64 0), .t (.int .i64 0), .t (.int .i64 0), .t (.int .i64 0), .t (.int .i64 0), .t (.int .i64 0)], .arr 6 3, some (30, [.i .i64, .i .i64, .i .i64, .i .i64, .i .i64, .i .i64])⟩),
  (70, ⟨true, 64, 560, some [.t (.int .i64 0), .t (.int .i64 0), .t (.int .i64 0), .t (.int .i64 0), .t (.int .i64 0), .t (.int .i64 0), .t (.int .i64 0), .t (.int .i64 0), .t (.int .i64 0), .t (.int .i64 0), .t (.str []), .t (.int .i64 0), .t (.int .i64 0), .t (.int .i64 0), .t (.int .i64 0), .t (.int .i64 0), .t (.int .i64 0), .t (.int .i64 0), .t (.int .i64 0), .t (.int .i64 0), .t (.int .i64 0), .t (.int .i64 0), .t (.int .i64 0), .t (.int .i64 0), .t (.int .i64 0), .t (.int .i64 0), .t (.int .i64 0), .t (.int .i64 0), .t (.int .i64 0), .t (.str []), .t (.int .i64 0), .t (.int .i64 0), .t (.int .i64 0), .t (.int .i64 0), .t (.int .i64 0), .t (.int .i64 0), .t (.int .i64 0), .t (.int .i64 0), .t (.int .i64 0), .t (.int .i64 0), .t (.str []), .t (.int .i64 0), .t (.int .i64 0), .t (.int .i64 0), .t (.int .i64 0), .t (.int .i64 0), .t (.int .i64 0), .t (.int .i64 0), .t (.str []), .t (.int .i64 0), .t (.int .i64 0), .t (.int .i64 0), .t (.int .i64 0), .t (.int .i64 0), .t (.int .i64 0), .t (.int .i64 0), .t (.int .i64 0), .t (.int .i64 0), .t (.int .i64 0), .t (.int .i64 0), .t (.int .i64 0), .t (.int .i64 0), .t (.int .i64 0), .nils], .struct [(0, 3), (1, 64), (19, 66), (38, 3), (39, 3), (40, 9), (41, 47), (57, 68), (63, 48)], none⟩)]
theorem T3_ok : TInfOK Go.Proofs.Try.prog 3 ⟨false, 1, 8, some [.t (.int .i64 0)], .int .i64, none⟩ where
  ty := ⟨⟨_, Go.Proofs.Try.underlying3, rfl⟩, by kernel_rfl⟩
  by_ := by kernel_rfl
  z := fun z hz => Option.some.inj hz ▸ (by kernel_rfl : zeroPVs Go.Proofs.Try.prog 3 = some [.t (.int .i64 0)])
  k := Go.Proofs.Try.underlying3
  fl := fun d ks h => nomatch h
theorem T4_ok : TInfOK Go.Proofs.Try.prog 4 ⟨false, 1, 1, some [.t (.bool false)], .bool, none⟩ where
  ty := ⟨⟨_, Go.Proofs.Try.underlying4, rfl⟩, by kernel_rfl⟩
  by_ := by kernel_rfl
  z := fun z hz => Option.some.inj hz ▸ (by kernel_rfl : zeroPVs Go.Proofs.Try.prog 4 = some [.t (.bool false)])
  k := Go.Proofs.Try.underlying4
  fl := fun d ks h => nomatch h
theorem T9_ok : TInfOK Go.Proofs.Try.prog 9 ⟨false, 1, 16, some [.t (.str [])], .str, none⟩ where
  ty := ⟨⟨_, Go.Proofs.Try.underlying9, rfl⟩, by kernel_rfl⟩
  by_ := by kernel_rfl
  z := fun z hz => Option.some.inj hz ▸ (by kernel_rfl : zeroPVs Go.Proofs.Try.prog 9 = some [.t (.str [])])
  k := Go.Proofs.Try.underlying9
  fl := fun d ks h => nomatch h
theorem T22_ok : TInfOK Go.Proofs.Try.prog 22 ⟨true, 5, 40, some [.t (.int .i64 0), .t (.int .i64 0), .t (.int .i64 0), .t (.int .i64 0), .t (.int .i64 0)], .arr 5 3, some (30, [.i .i64, .i .i64, .i .i64, .i .i64, .i .i64])⟩ where
  ty := ⟨⟨_, Go.Proofs.Try.underlying22, rfl⟩, by kernel_rfl⟩
  by_ := by kernel_rfl
  z := fun z hz => Option.some.inj hz ▸ (by kernel_rfl : zeroPVs Go.Proofs.Try.prog 22 = some [.t (.int .i64 0), .t (.int .i64 0), .t (.int .i64 0), .t (.int .i64 0), .t (.int .i64 0)])
  k := Go.Proofs.Try.underlying22
  fl := fun d ks h => by cases h; exact ⟨by decide, by kernel_rfl, rfl, by kernel_rfl⟩
theorem T24_ok : TInfOK Go.Proofs.Try.prog 24 ⟨true, 7, 56, some [.t (.int .i64 0), .t (.int .i64 0), .t (.int .i64 0), .t (.int .i64 0), .t (.int .i64 0), .t (.int .i64 0), .t (.int .i64 0)], .struct [(0, 3), (1, 3), (2, 22)], some (30, [.i .i64, .i .i64, .i .i64, .i .i64, .i .i64, .i .i64, .i .i64])⟩ where
  ty := ⟨⟨_, Go.Proofs.Try.underlying24, rfl⟩, by kernel_rfl⟩
  by_ := by kernel_rfl
  z := fun z hz => Option.some.inj hz ▸ (by kernel_rfl : zeroPVs Go.Proofs.Try.prog 24 = some [.t (.int .i64 0), .t (.int .i64 0), .t (.int .i64 0), .t (.int .i64 0), .t (.int .i64 0), .t (.int .i64 0), .t (.int .i64 0)])
  k := ⟨_, Go.Proofs.Try.underlying24, by kernel_rfl⟩
  fl := fun d ks h => by cases h; exact ⟨by decide, by kernel_rfl, rfl, by kernel_rfl⟩
theorem T25_ok : TInfOK Go.Proofs.Try.prog 25 ⟨false, 1, 24, some [.nils], .slice 9, none⟩ where
  ty := ⟨⟨_, Go.Proofs.Try.underlying25, rfl⟩, by kernel_rfl⟩
  by_ := by kernel_rfl
  z := fun z hz => Option.some.inj hz ▸ (by kernel_rfl : zeroPVs Go.Proofs.Try.prog 25 = some [.nils])
  k := Go.Proofs.Try.underlying25
  fl := fun d ks h => nomatch h
theorem T27_ok : TInfOK Go.Proofs.Try.prog 27 ⟨true, 3, 40, some [.t (.int .i64 0), .t (.int .i64 0), .nils], .struct [(0, 3), (1, 3), (2, 25)], none⟩ where
  ty := ⟨⟨_, Go.Proofs.Try.underlying27, rfl⟩, by kernel_rfl⟩
  by_ := by kernel_rfl
  z := fun z hz => Option.some.inj hz ▸ (by kernel_rfl : zeroPVs Go.Proofs.Try.prog 27 = some [.t (.int .i64 0), .t (.int .i64 0), .nils])
  k := ⟨_, Go.Proofs.Try.underlying27, by kernel_rfl⟩
  fl := fun d ks h => nomatch h
theorem T28_ok : TInfOK Go.Proofs.Try.prog 28 ⟨false, 1, 24, some [.nils], .slice 58, none⟩ where
  ty := ⟨⟨_, Go.Proofs.Try.underlying28, rfl⟩, by kernel_rfl⟩
  by_ := by kernel_rfl
  z := fun z hz => Option.some.inj hz ▸ (by kernel_rfl : zeroPVs Go.Proofs.Try.prog 28 = some [.nils])
  k := Go.Proofs.Try.underlying28
  fl := fun d ks h => nomatch h
theorem T30_ok : TInfOK Go.Proofs.Try.prog 30 ⟨true, 17, 176, some [.t (.str []), .t (.bool false), .t (.int .i64 0), .t (.int .i64 0), .t (.int .i64 0), .t (.int .i64 0), .t (.int .i64 0), .t (.int .i64 0), .t (.int .i64 0), .t (.int .i64 0), .t (.int .i64 0), .t (.int .i64 0), .nils, .t (.int .i64 0), .t (.int .i64 0), .t (.int .i64 0), .nils], .struct [(0, 9), (1, 4), (2, 24), (9, 3), (10, 27), (13, 3), (14, 3), (15, 3), (16, 28)], none⟩ where
  ty := ⟨⟨_, Go.Proofs.Try.underlying30, rfl⟩, by kernel_rfl⟩
  by_ := by kernel_rfl
  z := fun z hz => Option.some.inj hz ▸ (by kernel_rfl : zeroPVs Go.Proofs.Try.prog 30 = some [.t (.str []), .t (.bool false), .t (.int .i64 0), .t (.int .i64 0), .t (.int .i64 0), .t (.int .i64 0), .t (.int .i64 0), .t (.int .i64 0), .t (.int .i64 0), .t (.int .i64 0), .t (.int .i64 0), .t (.int .i64 0), .nils, .t (.int .i64 0), .t (.int .i64 0), .t (.int .i64 0), .nils])
  k := ⟨_, Go.Proofs.Try.underlying30, by kernel_rfl⟩
  fl := fun d ks h => nomatch h
theorem T35_ok : TInfOK Go.Proofs.Try.prog 35 ⟨true, 17, 176, some [.t (.str []), .t (.int .i64 0), .t (.int .i64 0), .t (.int .i64 0), .t (.int .i64 0), .t (.int .i64 0), .t (.int .i64 0), .t (.int .i64 0), .t (.int .i64 0), .t (.int .i64 0), .t (.int .i64 0), .nils, .t (.int .i64 0), .t (.int .i64 0), .t (.int .i64 0), .nils, .t (.int .i64 0)], .struct [(0, 9), (1, 24), (8, 3), (9, 27), (12, 3), (13, 3), (14, 3), (15, 28), (16, 3)], none⟩ where
  ty := ⟨⟨_, Go.Proofs.Try.underlying35, rfl⟩, by kernel_rfl⟩
  by_ := by kernel_rfl
  z := fun z hz => Option.some.inj hz ▸ (by kernel_rfl : zeroPVs Go.Proofs.Try.prog 35 = some [.t (.str []), .t (.int .i64 0), .t (.int .i64 0), .t (.int .i64 0), .t (.int .i64 0), .t (.int .i64 0), .t (.int .i64 0), .t (.int .i64 0), .t (.int .i64 0), .t (.int .i64 0), .t (.int .i64 0), .nils, .t (.int .i64 0), .t (.int .i64 0), .t (.int .i64 0), .nils, .t (.int .i64 0)])
  k := ⟨_, Go.Proofs.Try.underlying35, by kernel_rfl⟩
  fl := fun d ks h => nomatch h
theorem T37_ok : TInfOK Go.Proofs.Try.prog 37 ⟨false, 1, 24, some [.nils], .slice 30, none⟩ where
  ty := ⟨⟨_, Go.Proofs.Try.underlying37, rfl⟩, by kernel_rfl⟩
  by_ := by kernel_rfl
  z := fun z hz => Option.some.inj hz ▸ (by kernel_rfl : zeroPVs Go.Proofs.Try.prog 37 = some [.nils])
  k := Go.Proofs.Try.underlying37
  fl := fun d ks h => nomatch h
theorem T38_ok : TInfOK Go.Proofs.Try.prog 38 ⟨true, 3, 24, some [.t (.int .i64 0), .t (.int .i64 0), .t (.int .i64 0)], .arr 3 3, some (30, [.i .i64, .i .i64, .i .i64])⟩ where
  ty := ⟨⟨_, Go.Proofs.Try.underlying38, rfl⟩, by kernel_rfl⟩
  by_ := by kernel_rfl
  z := fun z hz => Option.some.inj hz ▸ (by kernel_rfl : zeroPVs Go.Proofs.Try.prog 38 = some [.t (.int .i64 0), .t (.int .i64 0), .t (.int .i64 0)])
  k := Go.Proofs.Try.underlying38
  fl := fun d ks h => by cases h; exact ⟨by decide, by kernel_rfl, rfl, by kernel_rfl⟩
theorem T40_ok : TInfOK Go.Proofs.Try.prog 40 ⟨true, 19, 128, some [.t (.int .i64 0), .t (.int .i64 0), .t (.int .i64 0), .t (.int .i64 0), .t (.int .i64 0), .t (.bool false), .t (.bool false), .t (.bool false), .t (.bool false), .t (.int .i64 0), .t (.int .i64 0), .t (.int .i64 0), .t (.int .i64 0), .t (.int .i64 0), .t (.int .i64 0), .t (.int .i64 0), .t (.bool false), .t (.int .i64 0), .t (.int .i64 0)], .struct [(0, 3), (1, 3), (2, 3), (3, 3), (4, 3), (5, 4), (6, 4), (7, 4), (8, 4), (9, 3), (10, 38), (13, 3), (14, 3), (15, 3), (16, 4), (17, 3), (18, 3)], some (30, [.i .i64, .i .i64, .i .i64, .i .i64, .i .i64, .b, .b, .b, .b, .i .i64, .i .i64, .i .i64, .i .i64, .i .i64, .i .i64, .i .i64, .b, .i .i64, .i .i64])⟩ where
  ty := ⟨⟨_, Go.Proofs.Try.underlying40, rfl⟩, by kernel_rfl⟩
  by_ := by kernel_rfl
  z := fun z hz => Option.some.inj hz ▸ (by kernel_rfl : zeroPVs Go.Proofs.Try.prog 40 = some [.t (.int .i64 0), .t (.int .i64 0), .t (.int .i64 0), .t (.int .i64 0), .t (.int .i64 0), .t (.bool false), .t (.bool false), .t (.bool false), .t (.bool false), .t (.int .i64 0), .t (.int .i64 0), .t (.int .i64 0), .t (.int .i64 0), .t (.int .i64 0), .t (.int .i64 0), .t (.int .i64 0), .t (.bool false), .t (.int .i64 0), .t (.int .i64 0)])
  k := ⟨_, Go.Proofs.Try.underlying40, by kernel_rfl⟩
  fl := fun d ks h => by cases h; exact ⟨by decide, by kernel_rfl, rfl, by kernel_rfl⟩
theorem T45_ok : TInfOK Go.Proofs.Try.prog 45 ⟨true, 2, 16, some [.t (.int .i64 0), .t (.int .i64 0)], .struct [(0, 3), (1, 3)], some (30, [.i .i64, .i .i64])⟩ where
  ty := ⟨⟨_, Go.Proofs.Try.underlying45, rfl⟩, by kernel_rfl⟩
  by_ := by kernel_rfl
  z := fun z hz => Option.some.inj hz ▸ (by kernel_rfl : zeroPVs Go.Proofs.Try.prog 45 = some [.t (.int .i64 0), .t (.int .i64 0)])
  k := ⟨_, Go.Proofs.Try.underlying45, by kernel_rfl⟩
  fl := fun d ks h => by cases h; exact ⟨by decide, by kernel_rfl, rfl, by kernel_rfl⟩
theorem T47_ok : TInfOK Go.Proofs.Try.prog 47 ⟨true, 16, 136, some [.t (.int .i64 0), .t (.int .i64 0), .t (.int .i64 0), .t (.int .i64 0), .t (.int .i64 0), .t (.int .i64 0), .t (.int .i64 0), .t (.str []), .t (.int .i64 0), .t (.int .i64 0), .t (.int .i64 0), .t (.int .i64 0), .t (.int .i64 0), .t (.int .i64 0), .t (.int .i64 0), .t (.int .i64 0)], .struct [(0, 3), (1, 3), (2, 3), (3, 3), (4, 3), (5, 3), (6, 3), (7, 9), (8, 3), (9, 3), (10, 45), (12, 45), (14, 45)], some (30, [.i .i64, .i .i64, .i .i64, .i .i64, .i .i64, .i .i64, .i .i64, .s, .i .i64, .i .i64, .i .i64, .i .i64, .i .i64, .i .i64, .i .i64, .i .i64])⟩ where
  ty := ⟨⟨_, Go.Proofs.Try.underlying47, rfl⟩, by kernel_rfl⟩
  by_ := by kernel_rfl
  z := fun z hz => Option.some.inj hz ▸ (by kernel_rfl : zeroPVs Go.Proofs.Try.prog 47 = some [.t (.int .i64 0), .t (.int .i64 0), .t (.int .i64 0), .t (.int .i64 0), .t (.int .i64 0), .t (.int .i64 0), .t (.int .i64 0), .t (.str []), .t (.int .i64 0), .t (.int .i64 0), .t (.int .i64 0), .t (.int .i64 0), .t (.int .i64 0), .t (.int .i64 0), .t (.int .i64 0), .t (.int .i64 0)])
  k := ⟨_, Go.Proofs.Try.underlying47, by kernel_rfl⟩
  fl := fun d ks h => by cases h; exact ⟨by decide, by kernel_rfl, rfl, by kernel_rfl⟩
theorem T48_ok : TInfOK Go.Proofs.Try.prog 48 ⟨false, 1, 24, some [.nils], .slice 60, none⟩ where
  ty := ⟨⟨_, Go.Proofs.Try.underlying48, rfl⟩, by kernel_rfl⟩
  by_ := by kernel_rfl
  z := fun z hz => Option.some.inj hz ▸ (by kernel_rfl : zeroPVs Go.Proofs.Try.prog 48 = some [.nils])
  k := Go.Proofs.Try.underlying48
  fl := fun d ks h => nomatch h
theorem T50_ok : TInfOK Go.Proofs.Try.prog 50 ⟨true, 10, 72, some [.t (.int .i64 0), .t (.int .i64 0), .t (.int .i64 0), .t (.int .i64 0), .t (.int .i64 0), .t (.int .i64 0), .t (.int .i64 0), .t (.bool false), .t (.bool false), .t (.int .i64 0)], .struct [(0, 24), (7, 4), (8, 4), (9, 3)], some (30, [.i .i64, .i .i64, .i .i64, .i .i64, .i .i64, .i .i64, .i .i64, .b, .b, .i .i64])⟩ where
  ty := ⟨⟨_, Go.Proofs.Try.underlying50, rfl⟩, by kernel_rfl⟩
  by_ := by kernel_rfl
  z := fun z hz => Option.some.inj hz ▸ (by kernel_rfl : zeroPVs Go.Proofs.Try.prog 50 = some [.t (.int .i64 0), .t (.int .i64 0), .t (.int .i64 0), .t (.int .i64 0), .t (.int .i64 0), .t (.int .i64 0), .t (.int .i64 0), .t (.bool false), .t (.bool false), .t (.int .i64 0)])
  k := ⟨_, Go.Proofs.Try.underlying50, by kernel_rfl⟩
  fl := fun d ks h => by cases h; exact ⟨by decide, by kernel_rfl, rfl, by kernel_rfl⟩
theorem T52_ok : TInfOK Go.Proofs.Try.prog 52 ⟨true, 18, 152, some [.t (.int .i64 0), .t (.int .i64 0), .t (.int .i64 0), .t (.int .i64 0), .t (.int .i64 0), .t (.int .i64 0), .t (.int .i64 0), .t (.int .i64 0), .t (.int .i64 0), .t (.str []), .t (.int .i64 0), .t (.int .i64 0), .t (.int .i64 0), .t (.int .i64 0), .t (.int .i64 0), .t (.int .i64 0), .t (.int .i64 0), .t (.int .i64 0)], .struct [(0, 3), (1, 3), (2, 47)], some (30, [.i .i64, .i .i64, .i .i64, .i .i64, .i .i64, .i .i64, .i .i64, .i .i64, .i .i64, .s, .i .i64, .i .i64, .i .i64, .i .i64, .i .i64, .i .i64, .i .i64, .i .i64])⟩ where
  ty := ⟨⟨_, Go.Proofs.Try.underlying52, rfl⟩, by kernel_rfl⟩
  by_ := by kernel_rfl
  z := fun z hz => Option.some.inj hz ▸ (by kernel_rfl : zeroPVs Go.Proofs.Try.prog 52 = some [.t (.int .i64 0), .t (.int .i64 0), .t (.int .i64 0), .t (.int .i64 0), .t (.int .i64 0), .t (.int .i64 0), .t (.int .i64 0), .t (.int .i64 0), .t (.int .i64 0), .t (.str []), .t (.int .i64 0), .t (.int .i64 0), .t (.int .i64 0), .t (.int .i64 0), .t (.int .i64 0), .t (.int .i64 0), .t (.int .i64 0), .t (.int .i64 0)])
  k := ⟨_, Go.Proofs.Try.underlying52, by kernel_rfl⟩
  fl := fun d ks h => by cases h; exact ⟨by decide, by kernel_rfl, rfl, by kernel_rfl⟩
theorem T53_ok : TInfOK Go.Proofs.Try.prog 53 ⟨false, 1, 24, some [.nils], .slice 62, none⟩ where
  ty := ⟨⟨_, Go.Proofs.Try.underlying53, rfl⟩, by kernel_rfl⟩
  by_ := by kernel_rfl
  z := fun z hz => Option.some.inj hz ▸ (by kernel_rfl : zeroPVs Go.Proofs.Try.prog 53 = some [.nils])
  k := Go.Proofs.Try.underlying53
  fl := fun d ks h => nomatch h
theorem T54_ok : TInfOK Go.Proofs.Try.prog 54 ⟨false, 1, 24, some [.nils], .slice 70, none⟩ where
  ty := ⟨⟨_, Go.Proofs.Try.underlying54, rfl⟩, by kernel_rfl⟩
  by_ := by kernel_rfl
  z := fun z hz => Option.some.inj hz ▸ (by kernel_rfl : zeroPVs Go.Proofs.Try.prog 54 = some [.nils])
  k := Go.Proofs.Try.underlying54
  fl := fun d ks h => nomatch h
theorem T56_ok : TInfOK Go.Proofs.Try.prog 56 ⟨true, 22, 184, some [.t (.int .i64 0), .t (.int .i64 0), .t (.int .i64 0), .t (.int .i64 0), .t (.int .i64 0), .t (.int .i64 0), .t (.int .i64 0), .t (.int .i64 0), .t (.int .i64 0), .t (.str []), .t (.int .i64 0), .t (.int .i64 0), .t (.int .i64 0), .t (.int .i64 0), .t (.int .i64 0), .t (.int .i64 0), .t (.int .i64 0), .t (.int .i64 0), .t (.int .i64 0), .t (.int .i64 0), .t (.int .i64 0), .t (.int .i64 0)], .struct [(0, 3), (1, 3), (2, 47), (18, 3), (19, 3), (20, 3), (21, 3)], some (30, [.i .i64, .i .i64, .i .i64, .i .i64, .i .i64, .i .i64, .i .i64, .i .i64, .i .i64, .s, .i .i64, .i .i64, .i .i64, .i .i64, .i .i64, .i .i64, .i .i64, .i .i64, .i .i64, .i .i64, .i .i64, .i .i64])⟩ where
  ty := ⟨⟨_, Go.Proofs.Try.underlying56, rfl⟩, by kernel_rfl⟩
  by_ := by kernel_rfl
  z := fun z hz => Option.some.inj hz ▸ (by kernel_rfl : zeroPVs Go.Proofs.Try.prog 56 = some [.t (.int .i64 0), .t (.int .i64 0), .t (.int .i64 0), .t (.int .i64 0), .t (.int .i64 0), .t (.int .i64 0), .t (.int .i64 0), .t (.int .i64 0), .t (.int .i64 0), .t (.str []), .t (.int .i64 0), .t (.int .i64 0), .t (.int .i64 0), .t (.int .i64 0), .t (.int .i64 0), .t (.int .i64 0), .t (.int .i64 0), .t (.int .i64 0), .t (.int .i64 0), .t (.int .i64 0), .t (.int .i64 0), .t (.int .i64 0)])
  k := ⟨_, Go.Proofs.Try.underlying56, by kernel_rfl⟩
  fl := fun d ks h => by cases h; exact ⟨by decide, by kernel_rfl, rfl, by kernel_rfl⟩
theorem T58_ok : TInfOK Go.Proofs.Try.prog 58 ⟨true, 72, 640, some [.t (.int .i64 0), .t (.int .i64 0), .t (.int .i64 0), .t (.int .i64 0), .t (.int .i64 0), .t (.int .i64 0), .t (.int .i64 0), .t (.int .i64 0), .t (.str []), .t (.int .i64 0), .t (.int .i64 0), .t (.int .i64 0), .t (.int .i64 0), .t (.int .i64 0), .t (.int .i64 0), .t (.int .i64 0), .t (.int .i64 0), .nils, .t (.int .i64 0), .t (.int .i64 0), .t (.int .i64 0), .t (.int .i64 0), .t (.int .i64 0), .t (.int .i64 0), .t (.int .i64 0), .t (.bool false), .t (.bool false), .t (.int .i64 0), .t (.bool false), .t (.int .i64 0), .t (.int .i64 0), .t (.int .i64 0), .t (.int .i64 0), .t (.int .i64 0), .t (.int .i64 0), .t (.int .i64 0), .t (.int .i64 0), .t (.int .i64 0), .t (.str []), .t (.int .i64 0), .t (.int .i64 0), .t (.int .i64 0), .t (.int .i64 0), .t (.int .i64 0), .t (.int .i64 0), .t (.int .i64 0), .t (.int .i64 0), .t (.bool false), .nils, .nils, .t (.int .i64 0), .t (.int .i64 0), .t (.int .i64 0), .t (.int .i64 0), .t (.int .i64 0), .t (.int .i64 0), .t (.int .i64 0), .t (.int .i64 0), .t (.int .i64 0), .t (.str []), .t (.int .i64 0), .t (.int .i64 0), .t (.int .i64 0), .t (.int .i64 0), .t (.int .i64 0), .t (.int .i64 0), .t (.int .i64 0), .t (.int .i64 0), .t (.int .i64 0), .t (.int .i64 0), .t (.int .i64 0), .t (.int .i64 0)], .struct [(0, 3), (1, 47), (17, 48), (18, 50), (28, 4), (29, 52), (47, 4), (48, 53), (49, 54), (50, 56)], none⟩ where
  ty := ⟨⟨_, Go.Proofs.Try.underlying58, rfl⟩, by kernel_rfl⟩
  by_ := by kernel_rfl
  z := fun z hz => Option.some.inj hz ▸ (by kernel_rfl : zeroPVs Go.Proofs.Try.prog 58 = some [.t (.int .i64 0), .t (.int .i64 0), .t (.int .i64 0), .t (.int .i64 0), .t (.int .i64 0), .t (.int .i64 0), .t (.int .i64 0), .t (.int .i64 0), .t (.str []), .t (.int .i64 0), .t (.int .i64 0), .t (.int .i64 0), .t (.int .i64 0), .t (.int .i64 0), .t (.int .i64 0), .t (.int .i64 0), .t (.int .i64 0), .nils, .t (.int .i64 0), .t (.int .i64 0), .t (.int .i64 0), .t (.int .i64 0), .t (.int .i64 0), .t (.int .i64 0), .t (.int .i64 0), .t (.bool false), .t (.bool false), .t (.int .i64 0), .t (.bool false), .t (.int .i64 0), .t (.int .i64 0), .t (.int .i64 0), .t (.int .i64 0), .t (.int .i64 0), .t (.int .i64 0), .t (.int .i64 0), .t (.int .i64 0), .t (.int .i64 0), .t (.str []), .t (.int .i64 0), .t (.int .i64 0), .t (.int .i64 0), .t (.int .i64 0), .t (.int .i64 0), .t (.int .i64 0), .t (.int .i64 0), .t (.int .i64 0), .t (.bool false), .nils, .nils, .t (.int .i64 0), .t (.int .i64 0), .t (.int .i64 0), .t (.int .i64 0), .t (.int .i64 0), .t (.int .i64 0), .t (.int .i64 0), .t (.int .i64 0), .t (.int .i64 0), .t (.str []), .t (.int .i64 0), .t (.int .i64 0), .t (.int .i64 0), .t (.int .i64 0), .t (.int .i64 0), .t (.int .i64 0), .t (.int .i64 0), .t (.int .i64 0), .t (.int .i64 0), .t (.int .i64 0), .t (.int .i64 0), .t (.int .i64 0)])
  k := ⟨_, Go.Proofs.Try.underlying58, by kernel_rfl⟩
  fl := fun d ks h => nomatch h
theorem T60_ok : TInfOK Go.Proofs.Try.prog 60 ⟨true, 20, 176, some [.t (.int .i64 0), .t (.int .i64 0), .t (.int .i64 0), .t (.str []), .t (.int .i64 0), .t (.int .i64 0), .t (.int .i64 0), .t (.int .i64 0), .t (.int .i64 0), .t (.int .i64 0), .t (.int .i64 0), .t (.str []), .t (.int .i64 0), .t (.int .i64 0), .t (.int .i64 0), .t (.int .i64 0), .t (.int .i64 0), .t (.int .i64 0), .t (.int .i64 0), .t (.int .i64 0)], .struct [(0, 3), (1, 3), (2, 3), (3, 9), (4, 47)], some (30, [.i .i64, .i .i64, .i .i64, .s, .i .i64, .i .i64, .i .i64, .i .i64, .i .i64, .i .i64, .i .i64, .s, .i .i64, .i .i64, .i .i64, .i .i64, .i .i64, .i .i64, .i .i64, .i .i64])⟩ where
  ty := ⟨⟨_, Go.Proofs.Try.underlying60, rfl⟩, by kernel_rfl⟩
  by_ := by kernel_rfl
  z := fun z hz => Option.some.inj hz ▸ (by kernel_rfl : zeroPVs Go.Proofs.Try.prog 60 = some [.t (.int .i64 0), .t (.int .i64 0), .t (.int .i64 0), .t (.str []), .t (.int .i64 0), .t (.int .i64 0), .t (.int .i64 0), .t (.int .i64 0), .t (.int .i64 0), .t (.int .i64 0), .t (.int .i64 0), .t (.str []), .t (.int .i64 0), .t (.int .i64 0), .t (.int .i64 0), .t (.int .i64 0), .t (.int .i64 0), .t (.int .i64 0), .t (.int .i64 0), .t (.int .i64 0)])
  k := ⟨_, Go.Proofs.Try.underlying60, by kernel_rfl⟩
  fl := fun d ks h => by cases h; exact ⟨by decide, by kernel_rfl, rfl, by kernel_rfl⟩
theorem T62_ok : TInfOK Go.Proofs.Try.prog 62 ⟨true, 18, 144, some [.t (.bool false), .t (.bool false), .t (.int .i64 0), .t (.int .i64 0), .t (.int .i64 0), .t (.int .i64 0), .t (.int .i64 0), .t (.int .i64 0), .t (.int .i64 0), .t (.str []), .t (.int .i64 0), .t (.int .i64 0), .t (.int .i64 0), .t (.int .i64 0), .t (.int .i64 0), .t (.int .i64 0), .t (.int .i64 0), .t (.int .i64 0)], .struct [(0, 4), (1, 4), (2, 47)], some (30, [.b, .b, .i .i64, .i .i64, .i .i64, .i .i64, .i .i64, .i .i64, .i .i64, .s, .i .i64, .i .i64, .i .i64, .i .i64, .i .i64, .i .i64, .i .i64, .i .i64])⟩ where
  ty := ⟨⟨_, Go.Proofs.Try.underlying62, rfl⟩, by kernel_rfl⟩
  by_ := by kernel_rfl
  z := fun z hz => Option.some.inj hz ▸ (by kernel_rfl : zeroPVs Go.Proofs.Try.prog 62 = some [.t (.bool false), .t (.bool false), .t (.int .i64 0), .t (.int .i64 0), .t (.int .i64 0), .t (.int .i64 0), .t (.int .i64 0), .t (.int .i64 0), .t (.int .i64 0), .t (.str []), .t (.int .i64 0), .t (.int .i64 0), .t (.int .i64 0), .t (.int .i64 0), .t (.int .i64 0), .t (.int .i64 0), .t (.int .i64 0), .t (.int .i64 0)])
  k := ⟨_, Go.Proofs.Try.underlying62, by kernel_rfl⟩
  fl := fun d ks h => by cases h; exact ⟨by decide, by kernel_rfl, rfl, by kernel_rfl⟩
theorem T64_ok : TInfOK Go.Proofs.Try.prog 64 ⟨true, 18, 152, some [.t (.int .i64 0), .t (.int .i64 0), .t (.int .i64 0), .t (.int .i64 0), .t (.int .i64 0), .t (.int .i64 0), .t (.int .i64 0), .t (.int .i64 0), .t (.int .i64 0), .t (.str []), .t (.int .i64 0), .t (.int .i64 0), .t (.int .i64 0), .t (.int .i64 0), .t (.int .i64 0), .t (.int .i64 0), .t (.int .i64 0), .t (.int .i64 0)], .struct [(0, 3), (1, 3), (2, 47)], some (30, [.i .i64, .i .i64, .i .i64, .i .i64, .i .i64, .i .i64, .i .i64, .i .i64, .i .i64, .s, .i .i64, .i .i64, .i .i64, .i .i64, .i .i64, .i .i64, .i .i64, .i .i64])⟩ where
  ty := ⟨⟨_, Go.Proofs.Try.underlying64, rfl⟩, by kernel_rfl⟩
  by_ := by kernel_rfl
  z := fun z hz => Option.some.inj hz ▸ (by kernel_rfl : zeroPVs Go.Proofs.Try.prog 64 = some [.t (.int .i64 0), .t (.int .i64 0), .t (.int .i64 0), .t (.int .i64 0), .t (.int .i64 0), .t (.int .i64 0), .t (.int .i64 0), .t (.int .i64 0), .t (.int .i64 0), .t (.str []), .t (.int .i64 0), .t (.int .i64 0), .t (.int .i64 0), .t (.int .i64 0), .t (.int .i64 0), .t (.int .i64 0), .t (.int .i64 0), .t (.int .i64 0)])
  k := ⟨_, Go.Proofs.Try.underlying64, by kernel_rfl⟩
  fl := fun d ks h => by cases h; exact ⟨by decide, by kernel_rfl, rfl, by kernel_rfl⟩
theorem T66_ok : TInfOK Go.Proofs.Try.prog 66 ⟨true, 19, 160, some [.t (.int .i64 0), .t (.int .i64 0), .t (.int .i64 0), .t (.int .i64 0), .t (.int .i64 0), .t (.int .i64 0), .t (.int .i64 0), .t (.int .i64 0), .t (.int .i64 0), .t (.int .i64 0), .t (.str []), .t (.int .i64 0), .t (.int .i64 0), .t (.int .i64 0), .t (.int .i64 0), .t (.int .i64 0), .t (.int .i64 0), .t (.int .i64 0), .t (.int .i64 0)], .struct [(0, 3), (1, 3), (2, 3), (3, 47)], some (30, [.i .i64, .i .i64, .i .i64, .i .i64, .i .i64, .i .i64, .i .i64, .i .i64, .i .i64, .i .i64, .s, .i .i64, .i .i64, .i .i64, .i .i64, .i .i64, .i .i64, .i .i64, .i .i64])⟩ where
  ty := ⟨⟨_, Go.Proofs.Try.underlying66, rfl⟩, by kernel_rfl⟩
  by_ := by kernel_rfl
  z := fun z hz => Option.some.inj hz ▸ (by kernel_rfl : zeroPVs Go.Proofs.Try.prog 66 = some [.t (.int .i64 0), .t (.int .i64 0), .t (.int .i64 0), .t (.int .i64 0), .t (.int .i64 0), .t (.int .i64 0), .t (.int .i64 0), .t (.int .i64 0), .t (.int .i64 0), .t (.int .i64 0), .t (.str []), .t (.int .i64 0), .t (.int .i64 0), .t (.int .i64 0), .t (.int .i64 0), .t (.int .i64 0), .t (.int .i64 0), .t (.int .i64 0), .t (.int .i64 0)])
  k := ⟨_, Go.Proofs.Try.underlying66, by kernel_rfl⟩
  fl := fun d ks h => by cases h; exact ⟨by decide, by kernel_rfl, rfl, by kernel_rfl⟩
theorem T68_ok : TInfOK Go.Proofs.Try.prog 68 ⟨true, 6, 48, some [.t (.int .i64 0), .t (.int .i64 0), .t (.int .i64 0), .t (.int .i64 0), .t (.int .i64 0), .t (.int .i64 0)], .arr 6 3, some (30, [.i .i64, .i .i64, .i .i64, .i .i64, .i .i64, .i .i64])⟩ where
  ty := ⟨⟨_, Go.Proofs.Try.underlying68, rfl⟩, by kernel_rfl⟩
  by_ := by kernel_rfl
  z := fun z hz => Option.some.inj hz ▸ (by kernel_rfl : zeroPVs Go.Proofs.Try.prog 68 = some [.t (.int .i64 0), .t (.int .i64 0), .t (.int .i64 0), .t (.int .i64 0), .t (.int .i64 0), .t (.int .i64 0)])
  k := Go.Proofs.Try.underlying68
  fl := fun d ks h => by cases h; exact ⟨by decide, by kernel_rfl, rfl, by kernel_rfl⟩
theorem T70_ok : TInfOK Go.Proofs.Try.prog 70 ⟨true, 64, 560, some [.t (.int .i64 0), .t (.int .i64 0), .t (.int .i64 0), .t (.int .i64 0), .t (.int .i64 0), .t (.int .i64 0), .t (.int .i64 0), .t (.int .i64 0), .t (.int .i64 0), .t (.int .i64 0), .t (.str []), .t (.int .i64 0), .t (.int .i64 0), .t (.int .i64 0), .t (.int .i64 0), .t (.int .i64 0), .t (.int .i64 0), .t (.int .i64 0), .t (.int .i64 0), .t (.int .i64 0), .t (.int .i64 0), .t (.int .i64 0), .t (.int .i64 0), .t (.int .i64 0), .t (.int .i64 0), .t (.int .i64 0), .t (.int .i64 0), .t (.int .i64 0), .t (.int .i64 0), .t (.str []), .t (.int .i64 0), .t (.int .i64 0), .t (.int .i64 0), .t (.int .i64 0), .t (.int .i64 0), .t (.int .i64 0), .t (.int .i64 0), .t (.int .i64 0), .t (.int .i64 0), .t (.int .i64 0), .t (.str []), .t (.int .i64 0), .t (.int .i64 0), .t (.int .i64 0), .t (.int .i64 0), .t (.int .i64 0), .t (.int .i64 0), .t (.int .i64 0), .t (.str []), .t (.int .i64 0), .t (.int .i64 0), .t (.int .i64 0), .t (.int .i64 0), .t (.int .i64 0), .t (.int .i64 0), .t (.int .i64 0), .t (.int .i64 0), .t (.int .i64 0), .t (.int .i64 0), .t (.int .i64 0), .t (.int .i64 0), .t (.int .i64 0), .t (.int .i64 0), .nils], .struct [(0, 3), (1, 64), (19, 66), (38, 3), (39, 3), (40, 9), (41, 47), (57, 68), (63, 48)], none⟩ where
  ty := ⟨⟨_, Go.Proofs.Try.underlying70, rfl⟩, by kernel_rfl⟩
  by_ := by kernel_rfl
  z := fun z hz => Option.some.inj hz ▸ (by kernel_rfl : zeroPVs Go.Proofs.Try.prog 70 = some [.t (.int .i64 0), .t (.int .i64 0), .t (.int .i64 0), .t (.int .i64 0), .t (.int .i64 0), .t (.int .i64 0), .t (.int .i64 0), .t (.int .i64 0), .t (.int .i64 0), .t (.int .i64 0), .t (.str []), .t (.int .i64 0), .t (.int .i64 0), .t (.int .i64 0), .t (.int .i64 0), .t (.int .i64 0), .t (.int .i64 0), .t (.int .i64 0), .t (.int .i64 0), .t (.int .i64 0), .t (.int .i64 0), .t (.int .i64 0), .t (.int .i64 0), .t (.int .i64 0), .t (.int .i64 0), .t (.int .i64 0), .t (.int .i64 0), .t (.int .i64 0), .t (.int .i64 0), .t (.str []), .t (.int .i64 0), .t (.int .i64 0), .t (.int .i64 0), .t (.int .i64 0), .t (.int .i64 0), .t (.int .i64 0), .t (.int .i64 0), .t (.int .i64 0), .t (.int .i64 0), .t (.int .i64 0), .t (.str []), .t (.int .i64 0), .t (.int .i64 0), .t (.int .i64 0), .t (.int .i64 0), .t (.int .i64 0), .t (.int .i64 0), .t (.int .i64 0), .t (.str []), .t (.int .i64 0), .t (.int .i64 0), .t (.int .i64 0), .t (.int .i64 0), .t (.int .i64 0), .t (.int .i64 0), .t (.int .i64 0), .t (.int .i64 0), .t (.int .i64 0), .t (.int .i64 0), .t (.int .i64 0), .t (.int .i64 0), .t (.int .i64 0), .t (.int .i64 0), .nils])
  k := ⟨_, Go.Proofs.Try.underlying70, by kernel_rfl⟩
  fl := fun d ks h => nomatch h
theorem hT : TOK Go.Proofs.Try.prog T := TOK.of_all ⟨T3_ok, T4_ok, T9_ok, T22_ok, T24_ok, T25_ok, T27_ok, T28_ok, T30_ok, T35_ok, T37_ok, T38_ok, T40_ok, T45_ok, T47_ok, T48_ok, T50_ok, T52_ok, T53_ok, T54_ok, T56_ok, T58_ok, T60_ok, T62_ok, T64_ok, T66_ok, T68_ok, T70_ok, trivial⟩
theorem hm : Go.Proofs.Try.prog.follows .mixedOrders = true := by kernel_rfl
end Go.PW
