import Derived.Test.YthnagpmgjlnioaaPwR
import Derived.Test.YthnagpmgjlnioaaProg
import Derived.KernelRfl
namespace Go.PW
open Go.RowKit
def T : TS := [
  (3, ⟨false, 1, 8, some [.t (.int .i64 0)], .int .i64, none⟩),
  (4, ⟨false, 1, 1, some [.t (.bool false)], .bool, none⟩),
  (22, ⟨false, 1, 24, some [.nils], .slice 55, none⟩),
  (24, ⟨true, 7, 72, some [.t (.int .i64 0), .t (.int .i64 0), .t (.int .i64 0), .t (.int .i64 0), .t (.int .i64 0), .t (.int .i64 0), .nils], .struct [(0, 3), (1, 3), (2, 3), (3, 3), (4, 3), (5, 3), (6, 22)], none⟩),
  (25, ⟨false, 1, 24, some [.nils], .slice 3, none⟩),
  (27, ⟨false, 1, 24, some [.nils], .slice 24, none⟩),
  (28, ⟨false, 1, 24, some [.nils], .slice 25, none⟩),
  (34, ⟨false, 1, 8, some [.t (.con (.pointer none))], .ptr, none⟩),
  (36, ⟨false, 1, 8, some [.t (.con (.pointer none))], .ptr, none⟩),
  (49, ⟨true, 11, 112, some [.nils, .t (.int .i64 0), .t (.int .i64 0), .t (.int .i64 0), .t (.int .i64 0), .t (.int .i64 0), .t (.int .i64 0), .t (.int .i64 0), .nils, .t (.bool false), .t (.bool false)], .struct [(0, 28), (1, 3), (2, 24), (9, 4), (10, 4)], none⟩),
  (52, ⟨true, 11, 112, some [.nils, .t (.int .i64 0), .t (.int .i64 0), .t (.int .i64 0), .t (.int .i64 0), .t (.int .i64 0), .t (.int .i64 0), .nils, .t (.bool false), .t (.bool false), .t (.int .i64 0)], .struct [(0, 28), (1, 24), (8, 4), (9, 4), (10, 3)], none⟩),
  (55, ⟨true, 3, 24, some [.t (.int .i64 0), .t (.int .i64 0), .t (.int .i64 0)], .struct [(0, 3), (1, 3), (2, 3)], some (30, [.i .i64, .i .i64, .i .i64])⟩)]
theorem T3_ok : TInfOK Go.Proofs.Try.prog 3 ⟨false, 1, 8, some [.t (.int .i64 0)], .int .i64, none⟩ where
  ty := ⟨⟨_, Go.Proofs.Try.underlying3, rfl⟩, by kernel_rfl⟩
  by_ := by kernel_rfl
  z := fun z hz => Option.some.inj hz ▸ (by kernel_rfl : zeroPVs Go.Proofs.Try.prog 3 = some [.t (.int .i64 0)])
  k := Go.Proofs.Try.underlying3
  fl := fun d ks h => nomatch h
theorem T4_ok : TInfOK Go.Proofs.Try.prog 4 ⟨false, 1, 1, some [.t (.bool false)], .bool, none⟩ where
  ty := ⟨⟨_, Go.Proofs.Try.underlying4, rfl⟩, by kernel_rfl⟩
  by_ := by kernel_rfl
  z := fun z hz => Option.some.inj hz ▸ (by kernel_rfl : zeroPVs Go.Proofs.Try.prog 4 = some [.t (.bool false)])
  k := Go.Proofs.Try.underlying4
  fl := fun d ks h => nomatch h
theorem T22_ok : TInfOK Go.Proofs.Try.prog 22 ⟨false, 1, 24, some [.nils], .slice 55, none⟩ where
  ty := ⟨⟨_, Go.Proofs.Try.underlying22, rfl⟩, by kernel_rfl⟩
  by_ := by kernel_rfl
  z := fun z hz => Option.some.inj hz ▸ (by kernel_rfl : zeroPVs Go.Proofs.Try.prog 22 = some [.nils])
  k := Go.Proofs.Try.underlying22
  fl := fun d ks h => nomatch h
theorem T24_ok : TInfOK Go.Proofs.Try.prog 24 ⟨true, 7, 72, some [.t (.int .i64 0), .t (.int .i64 0), .t (.int .i64 0), .t (.int .i64 0), .t (.int .i64 0), .t (.int .i64 0), .nils], .struct [(0, 3), (1, 3), (2, 3), (3, 3), (4, 3), (5, 3), (6, 22)], none⟩ where
  ty := ⟨⟨_, Go.Proofs.Try.underlying24, rfl⟩, by kernel_rfl⟩
  by_ := by kernel_rfl
  z := fun z hz => Option.some.inj hz ▸ (by kernel_rfl : zeroPVs Go.Proofs.Try.prog 24 = some [.t (.int .i64 0), .t (.int .i64 0), .t (.int .i64 0), .t (.int .i64 0), .t (.int .i64 0), .t (.int .i64 0), .nils])
  k := ⟨_, Go.Proofs.Try.underlying24, by kernel_rfl⟩
  fl := fun d ks h => nomatch h
theorem T25_ok : TInfOK Go.Proofs.Try.prog 25 ⟨false, 1, 24, some [.nils], .slice 3, none⟩ where
  ty := ⟨⟨_, Go.Proofs.Try.underlying25, rfl⟩, by kernel_rfl⟩
  by_ := by kernel_rfl
  z := fun z hz => Option.some.inj hz ▸ (by kernel_rfl : zeroPVs Go.Proofs.Try.prog 25 = some [.nils])
  k := Go.Proofs.Try.underlying25
  fl := fun d ks h => nomatch h
theorem T27_ok : TInfOK Go.Proofs.Try.prog 27 ⟨false, 1, 24, some [.nils], .slice 24, none⟩ where
  ty := ⟨⟨_, Go.Proofs.Try.underlying27, rfl⟩, by kernel_rfl⟩
  by_ := by kernel_rfl
  z := fun z hz => Option.some.inj hz ▸ (by kernel_rfl : zeroPVs Go.Proofs.Try.prog 27 = some [.nils])
  k := Go.Proofs.Try.underlying27
  fl := fun d ks h => nomatch h
theorem T28_ok : TInfOK Go.Proofs.Try.prog 28 ⟨false, 1, 24, some [.nils], .slice 25, none⟩ where
  ty := ⟨⟨_, Go.Proofs.Try.underlying28, rfl⟩, by kernel_rfl⟩
  by_ := by kernel_rfl
  z := fun z hz => Option.some.inj hz ▸ (by kernel_rfl : zeroPVs Go.Proofs.Try.prog 28 = some [.nils])
  k := Go.Proofs.Try.underlying28
  fl := fun d ks h => nomatch h
theorem T34_ok : TInfOK Go.Proofs.Try.prog 34 ⟨false, 1, 8, some [.t (.con (.pointer none))], .ptr, none⟩ where
  ty := ⟨⟨_, Go.Proofs.Try.underlying34, rfl⟩, by kernel_rfl⟩
  by_ := by kernel_rfl
  z := fun z hz => Option.some.inj hz ▸ (by kernel_rfl : zeroPVs Go.Proofs.Try.prog 34 = some [.t (.con (.pointer none))])
  k := (by show _ = _; unfold Program.pointee; rw [Go.Proofs.Try.underlying34])
  fl := fun d ks h => nomatch h
theorem T36_ok : TInfOK Go.Proofs.Try.prog 36 ⟨false, 1, 8, some [.t (.con (.pointer none))], .ptr, none⟩ where
  ty := ⟨⟨_, Go.Proofs.Try.underlying36, rfl⟩, by kernel_rfl⟩
  by_ := by kernel_rfl
  z := fun z hz => Option.some.inj hz ▸ (by kernel_rfl : zeroPVs Go.Proofs.Try.prog 36 = some [.t (.con (.pointer none))])
  k := (by show _ = _; unfold Program.pointee; rw [Go.Proofs.Try.underlying36])
  fl := fun d ks h => nomatch h
theorem T49_ok : TInfOK Go.Proofs.Try.prog 49 ⟨true, 11, 112, some [.nils, .t (.int .i64 0), .t (.int .i64 0), .t (.int .i64 0), .t (.int .i64 0), .t (.int .i64 0), .t (.int .i64 0), .t (.int .i64 0), .nils, .t (.bool false), .t (.bool false)], .struct [(0, 28), (1, 3), (2, 24), (9, 4), (10, 4)], none⟩ where
  ty := ⟨⟨_, Go.Proofs.Try.underlying49, rfl⟩, by kernel_rfl⟩
  by_ := by kernel_rfl
  z := fun z hz => Option.some.inj hz ▸ (by kernel_rfl : zeroPVs Go.Proofs.Try.prog 49 = some [.nils, .t (.int .i64 0), .t (.int .i64 0), .t (.int .i64 0), .t (.int .i64 0), .t (.int .i64 0), .t (.int .i64 0), .t (.int .i64 0), .nils, .t (.bool false), .t (.bool false)])
  k := ⟨_, Go.Proofs.Try.underlying49, by kernel_rfl⟩
  fl := fun d ks h => nomatch h
theorem T52_ok : TInfOK Go.Proofs.Try.prog 52 ⟨true, 11, 112, some [.nils, .t (.int .i64 0), .t (.int .i64 0), .t (.int .i64 0), .t (.int .i64 0), .t (.int .i64 0), .t (.int .i64 0), .nils, .t (.bool false), .t (.bool false), .t (.int .i64 0)], .struct [(0, 28), (1, 24), (8, 4), (9, 4), (10, 3)], none⟩ where
  ty := ⟨⟨_, Go.Proofs.Try.underlying52, rfl⟩, by kernel_rfl⟩
  by_ := by kernel_rfl
  z := fun z hz => Option.some.inj hz ▸ (by kernel_rfl : zeroPVs Go.Proofs.Try.prog 52 = some [.nils, .t (.int .i64 0), .t (.int .i64 0), .t (.int .i64 0), .t (.int .i64 0), .t (.int .i64 0), .t (.int .i64 0), .nils, .t (.bool false), .t (.bool false), .t (.int .i64 0)])
  k := ⟨_, Go.Proofs.Try.underlying52, by kernel_rfl⟩
  fl := fun d ks h => nomatch h
theorem T55_ok : TInfOK Go.Proofs.Try.prog 55 ⟨true, 3, 24, some [.t (.int .i64 0), .t (.int .i64 0), .t (.int .i64 0)], .struct [(0, 3), (1, 3), (2, 3)], some (30, [.i .i64, .i .i64, .i .i64])⟩ where
  ty := ⟨⟨_, Go.Proofs.Try.underlying55, rfl⟩, by kernel_rfl⟩
  by_ := by kernel_rfl
  z := fun z hz => Option.some.inj hz ▸ (by kernel_rfl : zeroPVs Go.Proofs.Try.prog 55 = some [.t (.int .i64 0), .t (.int .i64 0), .t (.int .i64 0)])
  k := ⟨_, Go.Proofs.Try.underlying55, by kernel_rfl⟩
  fl := fun d ks h => by cases h; exact ⟨by decide, by kernel_rfl, rfl, by kernel_rfl⟩
theorem hT : TOK Go.Proofs.Try.prog T := TOK.of_all ⟨T3_ok, T4_ok, T22_ok, T24_ok, T25_ok, T27_ok, T28_ok, T34_ok, T36_ok, T49_ok, T52_ok, T55_ok, trivial⟩
theorem hm : Go.Proofs.Try.prog.follows .mixedOrders = true := by kernel_rfl
end Go.PW
