/- SumBurst: whatever the byte string, the place and the mask, the law returns true, and the arguments read as before. No condition. -/
import Derived.Test.YthcjjlopamfpfaaQY
import Derived.Test.YthcjjlopamfpfaaQPb
namespace Go.Proofs.Ythcjjlopamfpfaa
open Go.ChangeShapes Go.WideShapes Go.ChangeAt Go.RowKit Go.PW

/-- an integer without sign, as an argument -/
theorem uint_arg {H : Type} {enc : TypeId × Value → H} {W : World} {base t m : Nat} {k : IntKind} {v : Value} {d : DataW H} {p : List MemPlace} (hu : Try.prog.underlying t = some (.int k)) (hp : plainT Try.prog 3 t = true) (h0 : k.min = 0) (hm : k.max = m)
    (hval : Value.okWide Try.prog W .any base t v) (hd : DataW.Trod enc Try.prog W 0 (fun _ => true) true t v d p) : ∃ n : Nat, n ≤ m ∧ VR (Rd W) (.t (.int k (n : Int))) v := by
  obtain ⟨ts, hv, hw⟩ := read_arg (D := 3) hval hd hp
  simp only [WT, hu] at hw
  obtain ⟨n, rfl, hwf⟩ := hw
  simp only [Lit.wf, Bool.and_eq_true, decide_eq_true_eq, h0, hm] at hwf
  refine ⟨n.toNat, by omega, ?_⟩
  rw [Int.toNat_of_nonneg hwf.1]
  simpa [pvArg, hu, oneT] using hv

set_option maxRecDepth 100000 in
theorem sumBurst_lifted (os : Os) (started : os.Started) (H : Type) (enc : TypeId × Value → H) :
    ReturnsInHanded {} Try.checked os 6 .any (Rows.sumBurstSpec.pre6 enc Try.prog Try.f6 Rows.sumBurstRow.domain false) (Rows.sumBurstSpec.post enc Try.prog Try.f6 false true false false) := by
  refine returnsInHanded_of_change (C := Try.checked) Try.own started (by kernel_rfl) Try.func6
    (ChangeSpec.witness6 (enc := enc) (C := Try.checked) false ⟨#[], #[.slice none 0 0, .int .u16 0, .int .u32 0], []⟩ 8 (by kernel_rfl) (by kernel_rfl) (by kernel_rfl) (by kernel_rfl)) ?_
  intro W base args ds gs before hval0 hW hcnd _
  have hval : ∀ (j : Nat) t v, Try.f6.params[j]? = some t → args[j]? = some v → Value.okWide Try.prog W .any base t v := hval0
  have hW' := hW
  obtain ⟨p, q, hA0, hV, rfl, hfz, hnd⟩ := hW
  have hA : DataW.TrodAll enc Try.prog W 0 (fun _ => true) true Try.f6.params.toList args.toList ds p := hA0
  rw [Try.params6] at hA hval
  obtain ⟨v0, v1, v2, d0, d1, d2, p0, p1, p2, rfl, rfl, rfl, h0, h1, h2⟩ := trodAll_three hA
  obtain ⟨rfl, rfl⟩ := trodVars_none hV
  obtain ⟨b, hb, hv⟩ := bytes_arg (hval 0 22 v0 rfl rfl) h0
  obtain ⟨n, hn, hv1⟩ := uint_arg Try.underlying32 (by kernel_rfl) rfl (m := 65535) rfl (hval 1 32 v1 rfl rfl) h1
  obtain ⟨m, hm, hv2⟩ := uint_arg Try.underlying24 (by kernel_rfl) rfl (m := 4294967295) rfl (hval 2 24 v2 rfl rfl) h2
  refine (calls_law (qs := [_, _, _]) (L05_SumBurst_ok (ints b) n m (law_SumBurst b hb n m (by omega) (by omega))) (by simp only [VRs]; exact ⟨v0, _, rfl, hv, v1, _, rfl, hv1, v2, [], rfl, hv2, rfl⟩)).mono fun e W' ⟨he, hB⟩ => ?_
  subst he
  have hlt : ∀ x ∈ p0 ++ (p1 ++ p2), x.block < W.heap.size := fun x hx => hW'.lt x (by simpa using hx)
  exact ⟨_, rfl, _, _, _, [], _, [], hW', trodAll_mk1 (shut_bool Try.underlying4 true), trodAll_mk3 (Below.trod Try.laidOut (by kernel_rfl) (of_decide_eq_true (by kernel_rfl)) h0 hB (fun x hx => hlt x (by simp [hx]))) (Below.trod Try.laidOut (by kernel_rfl) (of_decide_eq_true (by kernel_rfl)) h1 hB (fun x hx => hlt x (by simp [hx]))) (Below.trod Try.laidOut (by kernel_rfl) (of_decide_eq_true (by kernel_rfl)) h2 hB (fun x hx => hlt x (by simp [hx]))), rfl, hB.frame _, fun h => by cases h⟩

theorem sumBurst_holds : Rows.SumBurstSaid :=
  OpenClaim.holds_of_wide 6 Try.f6 rfl rfl rfl rfl rfl rfl rfl ⟨rfl, rfl, rfl, rfl, rfl⟩ rfl rfl rfl rfl rfl (by kernel_rfl) Try.func6 (by kernel_rfl)
    (of_decide_eq_true (by kernel_rfl)) (by unfold Func.isWrapper; first | (rw [if_pos (by decide +kernel)]; kernel_rfl) | (rw [if_neg (by decide +kernel)]; exact ⟨rfl, rfl⟩))
    (fun os started H enc _ => sumBurst_lifted os started H enc)
end Go.Proofs.Ythcjjlopamfpfaa
