import Derived.Test.YtdpiijfehkafnaaQT
import Derived.Shelf.Strings.Search3
import Derived.Shelf.Vars
import Derived.HandedShaped
namespace Go.PW
open Go.RowKit Go.Proofs Go.Shelf

noncomputable def shelfRen : Ren := ⟨fun x => if x = 143 then 65 else if x = 144 then 63 else if x = 217 then 67 else if x = 219 then 66 else if x = 224 then 69 else if x = 225 then 68 else if x = 266 then 71 else if x = 267 then 70 else if x = 314 then 72 else x, fun x => if x = 3 then 3 else if x = 4 then 4 else if x = 5 then 5 else if x = 9 then 9 else if x = 46 then 126 else if x = 51 then 127 else if x = 146 then 128 else x, fun x => if x = 1 then 0 else x⟩
theorem shelfLays : Lays.n144 Go.Proofs.Try.prog shelfRen where
  mixed := by kernel_rfl
  f143 := Go.Proofs.Try.func65.trans (congrArg some (by kernel_rfl))
  f144 := Go.Proofs.Try.func63.trans (congrArg some (by kernel_rfl))
  f217 := Go.Proofs.Try.func67.trans (congrArg some (by kernel_rfl))
  f219 := Go.Proofs.Try.func66.trans (congrArg some (by kernel_rfl))
  f224 := Go.Proofs.Try.func69.trans (congrArg some (by kernel_rfl))
  f225 := Go.Proofs.Try.func68.trans (congrArg some (by kernel_rfl))
  f266 := Go.Proofs.Try.func71.trans (congrArg some (by kernel_rfl))
  f267 := Go.Proofs.Try.func70.trans (congrArg some (by kernel_rfl))
  f314 := Go.Proofs.Try.func72.trans (congrArg some (by kernel_rfl))
  t3 := Go.Proofs.Try.underlying3
  a3 := Go.Proofs.Try.isAgg3
  z3 := Go.Proofs.Try.sizeOf3
  v3 := Go.Proofs.Try.zeroValue3
  t4 := Go.Proofs.Try.underlying4
  a4 := Go.Proofs.Try.isAgg4
  z4 := Go.Proofs.Try.sizeOf4
  v4 := Go.Proofs.Try.zeroValue4
  t5 := Go.Proofs.Try.underlying5
  a5 := Go.Proofs.Try.isAgg5
  z5 := Go.Proofs.Try.sizeOf5
  v5 := Go.Proofs.Try.zeroValue5
  t9 := Go.Proofs.Try.underlying9
  a9 := Go.Proofs.Try.isAgg9
  z9 := Go.Proofs.Try.sizeOf9
  v9 := Go.Proofs.Try.zeroValue9
  t46 := Go.Proofs.Try.underlying126
  a46 := Go.Proofs.Try.isAgg126
  z46 := Go.Proofs.Try.sizeOf126
  v46 := Go.Proofs.Try.zeroValue126
  t51 := Go.Proofs.Try.underlying127
  a51 := Go.Proofs.Try.isAgg127
  z51 := Go.Proofs.Try.sizeOf127
  v51 := Go.Proofs.Try.zeroValue127
  t146 := Go.Proofs.Try.underlying128
  a146 := Go.Proofs.Try.isAgg128
  z146 := Go.Proofs.Try.sizeOf128
  v146 := Go.Proofs.Try.zeroValue128
  g1 := by kernel_rfl

theorem strings_Contains_ok (s sub : List UInt8) {r : Bool} (h : strings_Contains s sub = some r) : Fn Go.Proofs.Try.prog 63 [.t (.str s), .t (.str sub)] (.t (.bool r)) := by
  unfold strings_Contains at h
  split at h
  · rename_i hl
    cases h
    refine FnG.ofW ⟨_, (Go.Proofs.Try.f63.body).getD .skip, Go.Proofs.Try.func63, by kernel_rfl, by kernel_rfl⟩ fun w vals hgl hv => ?_
    obtain ⟨c, hv⟩ := hv
    simp only [VRs, VR, TRel] at hv
    obtain ⟨v1, r1, rfl, rfl, v2, r2, rfl, rfl, rfl⟩ := hv
    obtain ⟨_, m, hm⟩ := hgl 0 (by simp [gset])
    exact (Any.strings_Contains shelfLays ⟨s.toArray⟩ ⟨sub.toArray⟩ m w (by simpa [ByteArray.size] using hl) hm).mono fun e w' ⟨h1, h2⟩ => by
      subst h1 h2
      exact ⟨_, rfl, rfl, by simp [VR, TRel]⟩
  · cases h
theorem globW {W : World} (h : W.ShapedOpen Go.Proofs.Try.prog) : GlobW W := fun g hg => by
  have : g = 0 := by simpa [gset] using hg
  subst this
  obtain ⟨m, hm⟩ := Go.Proofs.cell_of_shapedOpen_int (zero := #[.int .i64 0]) (t := 3) (g := 0) h (of_decide_eq_true (by kernel_rfl)) (by kernel_rfl) rfl (by kernel_rfl) (by kernel_rfl) Go.Proofs.Try.underlying3
  refine ⟨?_, m, hm⟩
  unfold World.cell? at hm
  cases hx : W.heap[0]? with
  | none => simp [hx] at hm
  | some o => exact (Array.getElem?_eq_some_iff.1 hx).1
end Go.PW
