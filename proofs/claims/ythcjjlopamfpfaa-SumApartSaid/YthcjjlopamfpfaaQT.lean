import Derived.Test.YthcjjlopamfpfaaPwR
import Derived.Test.YthcjjlopamfpfaaProg
import Derived.KernelRfl
namespace Go.PW
open Go.RowKit
def T : TS := [
  (3, ⟨false, 1, 8, some [.t (.int .i64 0)], .int .i64, none⟩),
  (4, ⟨false, 1, 1, some [.t (.bool false)], .bool, none⟩),
  (5, ⟨false, 1, 1, some [.t (.int .u8 0)], .int .u8, none⟩),
  (22, ⟨false, 1, 24, some [.nils], .slice 5, none⟩),
  (24, ⟨false, 1, 4, some [.t (.int .u32 0)], .int .u32, none⟩),
  (29, ⟨false, 1, 8, some [.t (.int .i64 0)], .int .i64, none⟩),
  (32, ⟨false, 1, 2, some [.t (.int .u16 0)], .int .u16, none⟩)]
theorem T3_ok : TInfOK Go.Proofs.Try.prog 3 ⟨false, 1, 8, some [.t (.int .i64 0)], .int .i64, none⟩ where
  ty := ⟨⟨_, Go.Proofs.Try.underlying3, rfl⟩, by kernel_rfl⟩
  by_ := by kernel_rfl
  z := fun z hz => Option.some.inj hz ▸ (by kernel_rfl : zeroPVs Go.Proofs.Try.prog 3 = some [.t (.int .i64 0)])
  k := Go.Proofs.Try.underlying3
  fl := fun d ks h => nomatch h
theorem T4_ok : TInfOK Go.Proofs.Try.prog 4 ⟨false, 1, 1, some [.t (.bool false)], .bool, none⟩ where
  ty := ⟨⟨_, Go.Proofs.Try.underlying4, rfl⟩, by kernel_rfl⟩
  by_ := by kernel_rfl
  z := fun z hz => Option.some.inj hz ▸ (by kernel_rfl : zeroPVs Go.Proofs.Try.prog 4 = some [.t (.bool false)])
  k := Go.Proofs.Try.underlying4
  fl := fun d ks h => nomatch h
theorem T5_ok : TInfOK Go.Proofs.Try.prog 5 ⟨false, 1, 1, some [.t (.int .u8 0)], .int .u8, none⟩ where
  ty := ⟨⟨_, Go.Proofs.Try.underlying5, rfl⟩, by kernel_rfl⟩
  by_ := by kernel_rfl
  z := fun z hz => Option.some.inj hz ▸ (by kernel_rfl : zeroPVs Go.Proofs.Try.prog 5 = some [.t (.int .u8 0)])
  k := Go.Proofs.Try.underlying5
  fl := fun d ks h => nomatch h
theorem T22_ok : TInfOK Go.Proofs.Try.prog 22 ⟨false, 1, 24, some [.nils], .slice 5, none⟩ where
  ty := ⟨⟨_, Go.Proofs.Try.underlying22, rfl⟩, by kernel_rfl⟩
  by_ := by kernel_rfl
  z := fun z hz => Option.some.inj hz ▸ (by kernel_rfl : zeroPVs Go.Proofs.Try.prog 22 = some [.nils])
  k := Go.Proofs.Try.underlying22
  fl := fun d ks h => nomatch h
theorem T24_ok : TInfOK Go.Proofs.Try.prog 24 ⟨false, 1, 4, some [.t (.int .u32 0)], .int .u32, none⟩ where
  ty := ⟨⟨_, Go.Proofs.Try.underlying24, rfl⟩, by kernel_rfl⟩
  by_ := by kernel_rfl
  z := fun z hz => Option.some.inj hz ▸ (by kernel_rfl : zeroPVs Go.Proofs.Try.prog 24 = some [.t (.int .u32 0)])
  k := Go.Proofs.Try.underlying24
  fl := fun d ks h => nomatch h
theorem T29_ok : TInfOK Go.Proofs.Try.prog 29 ⟨false, 1, 8, some [.t (.int .i64 0)], .int .i64, none⟩ where
  ty := ⟨⟨_, Go.Proofs.Try.underlying29, rfl⟩, by kernel_rfl⟩
  by_ := by kernel_rfl
  z := fun z hz => Option.some.inj hz ▸ (by kernel_rfl : zeroPVs Go.Proofs.Try.prog 29 = some [.t (.int .i64 0)])
  k := Go.Proofs.Try.underlying29
  fl := fun d ks h => nomatch h
theorem T32_ok : TInfOK Go.Proofs.Try.prog 32 ⟨false, 1, 2, some [.t (.int .u16 0)], .int .u16, none⟩ where
  ty := ⟨⟨_, Go.Proofs.Try.underlying32, rfl⟩, by kernel_rfl⟩
  by_ := by kernel_rfl
  z := fun z hz => Option.some.inj hz ▸ (by kernel_rfl : zeroPVs Go.Proofs.Try.prog 32 = some [.t (.int .u16 0)])
  k := Go.Proofs.Try.underlying32
  fl := fun d ks h => nomatch h
theorem hT : TOK Go.Proofs.Try.prog T := TOK.of_all ⟨T3_ok, T4_ok, T5_ok, T22_ok, T24_ok, T29_ok, T32_ok, trivial⟩
theorem hm : Go.Proofs.Try.prog.follows .mixedOrders = true := by kernel_rfl
end Go.PW
