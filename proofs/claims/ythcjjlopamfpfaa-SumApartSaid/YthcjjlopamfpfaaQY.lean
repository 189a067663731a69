import Derived.Test.YthcjjlopamfpfaaRows
import Derived.Test.YthcjjlopamfpfaaPwW
import Derived.Test.YthcjjlopamfpfaaQW
import Derived.Test.YthcjjlopamfpfaaQP
namespace Go.Proofs.Ythcjjlopamfpfaa
open Go.ChangeShapes Go.WideShapes Go.ChangeAt Go.RowKit Go.PW

theorem Try.own : ownKnob Try.prog.godebug = none := by kernel_rfl
theorem Try.laidOut : laidOutB Try.prog = true := by kernel_rfl

/-- a byte string, as an argument -/
theorem bytes_arg {H : Type} {enc : TypeId × Value → H} {W : World} {base : Nat} {v : Value} {d : DataW H} {p : List MemPlace} (hval : Value.okWide Try.prog W .any base 22 v) (hd : DataW.Trod enc Try.prog W 0 (fun _ => true) true 22 v d p) :
    ∃ b : List Nat, (∀ x ∈ b, x < 256) ∧ VR (Rd W) (.t (.sl (List.map (cI .u8) (ints b)))) v := by
  obtain ⟨ts, hv, hw⟩ := read_arg (D := 3) hval hd (by kernel_rfl)
  simp only [WT, Try.underlying22] at hw
  obtain ⟨es, rfl, _, hes⟩ := hw
  have hd : ∀ es : List (List Tree), (∀ el ∈ es, ∃ n, el = [Tree.int .u8 n] ∧ (Lit.int .u8 n).wf = true) → ∃ b : List Nat, (∀ x ∈ b, x < 256) ∧ es = List.map (cI .u8) (ints b) := by
    intro es
    induction es with
    | nil => intro _; exact ⟨[], by simp, rfl⟩
    | cons el es ih =>
      intro h
      obtain ⟨b, hb, he⟩ := ih (fun x hx => h x (List.mem_cons_of_mem _ hx))
      obtain ⟨n, hn, hwf⟩ := h el (by simp)
      simp only [Lit.wf, Bool.and_eq_true, decide_eq_true_eq] at hwf
      have hmin : IntKind.min .u8 = 0 := rfl
      have hmax : IntKind.max .u8 = 255 := rfl
      rw [hmin, hmax] at hwf
      refine ⟨n.toNat :: b, ?_, ?_⟩
      · intro x hx
        rcases List.mem_cons.1 hx with h | h
        · omega
        · exact hb x h
      · rw [hn, he]
        simp only [ints, List.map_cons, cI]
        rw [Int.toNat_of_nonneg (by omega)]
  obtain ⟨b, hb, rfl⟩ := hd es (fun el hel => by
    have := hes el hel
    simp only [Try.underlying5] at this
    exact this)
  refine ⟨b, hb, ?_⟩
  simpa [pvArg, Try.underlying22, oneT] using hv

end Go.Proofs.Ythcjjlopamfpfaa
