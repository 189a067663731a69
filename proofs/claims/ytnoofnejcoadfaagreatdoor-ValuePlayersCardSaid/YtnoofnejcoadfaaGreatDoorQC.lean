import Derived.Test.YtnoofnejcoadfaaGreatDoorQT
import Derived.Shelf.Strings.Search3
import Derived.Shelf.Vars
import Derived.HandedShaped
set_option linter.all false
namespace Go.PW
open Go.RowKit Go.Proofs Go.Shelf
noncomputable def Za42 : Ren := ⟨fun x => if x = 143 then 211 else if x = 144 then 188 else if x = 217 then 219 else if x = 219 then 218 else if x = 224 then 221 else if x = 225 then 220 else if x = 266 then 223 else if x = 267 then 222 else if x = 314 then 224 else x, fun x => if x = 3 then 3 else if x = 4 then 4 else if x = 5 then 5 else if x = 9 then 9 else if x = 46 then 230 else if x = 51 then 231 else if x = 146 then 232 else x, fun x => if x = 1 then 1 else x⟩
theorem Za2o : Lays.n144 Go.Proofs.Tryz.prog Za42 where
 mixed := by kernel_rfl
 f143 := Go.Proofs.Tryz.func211.trans (congrArg some (by kernel_rfl))
 f144 := Go.Proofs.Tryz.func188.trans (congrArg some (by kernel_rfl))
 f217 := Go.Proofs.Tryz.func219.trans (congrArg some (by kernel_rfl))
 f219 := Go.Proofs.Tryz.func218.trans (congrArg some (by kernel_rfl))
 f224 := Go.Proofs.Tryz.func221.trans (congrArg some (by kernel_rfl))
 f225 := Go.Proofs.Tryz.func220.trans (congrArg some (by kernel_rfl))
 f266 := Go.Proofs.Tryz.func223.trans (congrArg some (by kernel_rfl))
 f267 := Go.Proofs.Tryz.func222.trans (congrArg some (by kernel_rfl))
 f314 := Go.Proofs.Tryz.func224.trans (congrArg some (by kernel_rfl))
 t3 := Go.Proofs.Tryz.underlying3
 a3 := Go.Proofs.Tryz.isAgg3
 z3 := Go.Proofs.Tryz.sizeOf3
 v3 := Go.Proofs.Tryz.zeroValue3
 t4 := Go.Proofs.Tryz.underlying4
 a4 := Go.Proofs.Tryz.isAgg4
 z4 := Go.Proofs.Tryz.sizeOf4
 v4 := Go.Proofs.Tryz.zeroValue4
 t5 := Go.Proofs.Tryz.underlying5
 a5 := Go.Proofs.Tryz.isAgg5
 z5 := Go.Proofs.Tryz.sizeOf5
 v5 := Go.Proofs.Tryz.zeroValue5
 t9 := Go.Proofs.Tryz.underlying9
 a9 := Go.Proofs.Tryz.isAgg9
 z9 := Go.Proofs.Tryz.sizeOf9
 v9 := Go.Proofs.Tryz.zeroValue9
 t46 := Go.Proofs.Tryz.underlying230
 a46 := Go.Proofs.Tryz.isAgg230
 z46 := Go.Proofs.Tryz.sizeOf230
 v46 := Go.Proofs.Tryz.zeroValue230
 t51 := Go.Proofs.Tryz.underlying231
 a51 := Go.Proofs.Tryz.isAgg231
 z51 := Go.Proofs.Tryz.sizeOf231
 v51 := Go.Proofs.Tryz.zeroValue231
 t146 := Go.Proofs.Tryz.underlying232
 a146 := Go.Proofs.Tryz.isAgg232
 z146 := Go.Proofs.Tryz.sizeOf232
 v146 := Go.Proofs.Tryz.zeroValue232
 g1 := by kernel_rfl
theorem Z7e (s sub : List UInt8) {r : Bool} (h : strings_Contains s sub = some r) : Fn Go.Proofs.Tryz.prog 188 [.t (.str s), .t (.str sub)] (.t (.bool r)) := by
 unfold strings_Contains at h
 split at h
 ·rename_i hl
  cases h
  refine FnG.ofW ⟨_, (Go.Proofs.Tryz.f188.body).getD .skip, Go.Proofs.Tryz.func188, by kernel_rfl, by kernel_rfl⟩ fun w vals hgl hv => ?_
  obtain ⟨c, hv⟩ := hv
  simp only [VRs, VR, Zaa] at hv
  obtain ⟨v1, r1, rfl, rfl, v2, r2, rfl, rfl, rfl⟩ := hv
  obtain ⟨_, m, hm⟩ := hgl 1 .anyInt (by unfold gset; first | exact .head _ | exact .tail _ (.head _))
  exact (Any.strings_Contains Za2o ⟨s.toArray⟩ ⟨sub.toArray⟩ m w (by simpa [ByteArray.size] using hl) hm).mono fun e w' ⟨h1, h2⟩ => by
   subst h1 h2
   exact ⟨_, rfl, rfl, by simp [VR, Zaa]⟩
 ·cases h
end Go.PW
