/- SumOf: whatever the byte string, the law returns true, and the argument reads as before. No condition. -/
import Derived.Test.YthcjjlopamfpfaaRows
import Derived.Test.YthcjjlopamfpfaaPwW
import Derived.Test.YthcjjlopamfpfaaQW
import Derived.Test.YthcjjlopamfpfaaQP
namespace Go.Proofs.Ythcjjlopamfpfaa
open Go.ChangeShapes Go.WideShapes Go.ChangeAt Go.RowKit Go.PW

theorem Try.own : ownKnob Try.prog.godebug = none := by kernel_rfl
theorem Try.laidOut : laidOutB Try.prog = true := by kernel_rfl

/-- a byte string, as an argument -/
theorem bytes_arg {H : Type} {enc : TypeId × Value → H} {W : World} {base : Nat} {v : Value} {d : DataW H} {p : List MemPlace} (hval : Value.okWide Try.prog W .any base 22 v) (hd : DataW.Trod enc Try.prog W 0 (fun _ => true) true 22 v d p) :
    ∃ b : List Nat, (∀ x ∈ b, x < 256) ∧ VR (Rd W) (.t (.sl (List.map (cI .u8) (ints b)))) v := by
  obtain ⟨ts, hv, hw⟩ := read_arg (D := 3) hval hd (by kernel_rfl)
  simp only [WT, Try.underlying22] at hw
  obtain ⟨es, rfl, _, hes⟩ := hw
  have hd : ∀ es : List (List Tree), (∀ el ∈ es, ∃ n, el = [Tree.int .u8 n] ∧ (Lit.int .u8 n).wf = true) → ∃ b : List Nat, (∀ x ∈ b, x < 256) ∧ es = List.map (cI .u8) (ints b) := by
    intro es
    induction es with
    | nil => intro _; exact ⟨[], by simp, rfl⟩
    | cons el es ih =>
      intro h
      obtain ⟨b, hb, he⟩ := ih (fun x hx => h x (List.mem_cons_of_mem _ hx))
      obtain ⟨n, hn, hwf⟩ := h el (by simp)
      simp only [Lit.wf, Bool.and_eq_true, decide_eq_true_eq] at hwf
      have hmin : IntKind.min .u8 = 0 := rfl
      have hmax : IntKind.max .u8 = 255 := rfl
      rw [hmin, hmax] at hwf
      refine ⟨n.toNat :: b, ?_, ?_⟩
      · intro x hx
        rcases List.mem_cons.1 hx with h | h
        · omega
        · exact hb x h
      · rw [hn, he]
        simp only [ints, List.map_cons, cI]
        rw [Int.toNat_of_nonneg (by omega)]
  obtain ⟨b, hb, rfl⟩ := hd es (fun el hel => by
    have := hes el hel
    simp only [Try.underlying5] at this
    exact this)
  refine ⟨b, hb, ?_⟩
  simpa [pvArg, Try.underlying22, oneT] using hv

set_option maxRecDepth 100000 in
theorem sumOf_lifted (os : Os) (started : os.Started) (H : Type) (enc : TypeId × Value → H) :
    ReturnsInHanded {} Try.checked os 3 .any (Rows.sumOfSpec.pre6 enc Try.prog Try.f3 Rows.sumOfRow.domain false) (Rows.sumOfSpec.post enc Try.prog Try.f3 false true false false) := by
  refine returnsInHanded_of_change (C := Try.checked) Try.own started (by kernel_rfl) Try.func3
    (ChangeSpec.witness6 (enc := enc) (C := Try.checked) false ⟨#[], #[.slice none 0 0], []⟩ 8 (by kernel_rfl) (by kernel_rfl) (by kernel_rfl) (by kernel_rfl)) ?_
  intro W base args ds gs before hval0 hW hcnd _
  have hval : ∀ (j : Nat) t v, Try.f3.params[j]? = some t → args[j]? = some v → Value.okWide Try.prog W .any base t v := hval0
  have hW' := hW
  obtain ⟨p, q, hA0, hV, rfl, hfz, hnd⟩ := hW
  have hA : DataW.TrodAll enc Try.prog W 0 (fun _ => true) true Try.f3.params.toList args.toList ds p := hA0
  rw [Try.params3] at hA hval
  obtain ⟨v0, d0, rfl, rfl, h0⟩ := trodAll_one hA
  obtain ⟨rfl, rfl⟩ := trodVars_none hV
  obtain ⟨b, hb, hv⟩ := bytes_arg (hval 0 22 v0 rfl rfl) h0
  refine (calls_law (qs := [_]) (L05_SumOf_ok (ints b) (law_SumOf b hb)) (by simp only [VRs]; exact ⟨v0, [], rfl, hv, rfl⟩)).mono fun e W' ⟨he, hB⟩ => ?_
  subst he
  have hlt : ∀ x ∈ p, x.block < W.heap.size := fun x hx => hW'.lt x (by simpa using hx)
  exact ⟨_, rfl, _, _, _, [], p, [], hW', trodAll_mk1 (shut_bool Try.underlying4 true), trodAll_mk1 (Below.trod Try.laidOut (by kernel_rfl) (of_decide_eq_true (by kernel_rfl)) h0 hB hlt), rfl, hB.frame _, fun h => by cases h⟩

theorem sumOf_holds : Rows.SumOfSaid :=
  OpenClaim.holds_of_wide 3 Try.f3 rfl rfl rfl rfl rfl rfl rfl ⟨rfl, rfl, rfl, rfl, rfl⟩ rfl rfl rfl rfl rfl (by kernel_rfl) Try.func3 (by kernel_rfl)
    (of_decide_eq_true (by kernel_rfl)) (by unfold Func.isWrapper; first | (rw [if_pos (by decide +kernel)]; kernel_rfl) | (rw [if_neg (by decide +kernel)]; exact ⟨rfl, rfl⟩))
    (fun os started H enc _ => sumOf_lifted os started H enc)
#print axioms sumOf_holds
end Go.Proofs.Ythcjjlopamfpfaa
