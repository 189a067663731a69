import Derived.Test.YtloamjgjcjandaaGreatPwS
import Derived.KernelRfl
set_option linter.all false
namespace Go.PW
theorem Zef {S R : Type} (step : S → Option (S ⊕ R)) (r : R) : Zlc step (.inr r) = some r := rfl
theorem Zbt {S R : Type} (step : S → Option (S ⊕ R)) (s : S) : Zlc step (.inl s) = Za4 step s := rfl
theorem Zg4 {α : Type} (b : Bool) (x y : α) : (bif !b then x else y) = bif b then y else x := by cases b <;> rfl
theorem Zgp (a b : Int) : (a == b) = decide (a = b) := rfl
theorem Zanz (a b : Int) : (a != b) = decide (a ≠ b) := by
 show (!(decide (a = b))) = _
 by_cases h : a = b <;> simp [h]
theorem Zie (a b : List UInt8) : (a == b) = decide (a = b) := by
 by_cases h : a = b
 ·subst h; simp
 ·rw [decide_eq_false h]; exact beq_eq_false_iff_ne.2 h
theorem Zf2 {α β : Type} (b : Bool) (x y : Option α) (f : α → Option β) : (bif b then x else y).bind f = bif b then x.bind f else y.bind f := by cases b <;> rfl
theorem Zalf {S R α : Type} {step : S → Option (S ⊕ R)} {st : Nat → S} {bad : R} : ∀ (xs : List α) (p : α → Bool) (_ : ∀ i x, xs[i]? = some x → step (st i) = some (bif p x then .inl (st (i + 1)) else .inr bad)),
 Za4 step (st 0) = bif xs.all p then Za4 step (st xs.length) else some bad
 | [], _, _ => rfl
 | x :: xs, p, h => by
  have h0 := h 0 x rfl
  cases hp : p x with
  | false =>
   simp only [hp, cond_false] at h0
   rw [Zbf h0]
   simp [hp]
  | true =>
   simp only [hp, cond_true] at h0
   rw [Zdg h0, Zalf (st := fun i => st (i + 1)) xs p (fun i y hy => h (i + 1) y (by simpa using hy))]
   simp [hp]
theorem Zsm {S R α : Type} {step : S → Option (S ⊕ R)} : ∀ (xs : List α) (st : Nat → S) (hit : Nat → R) (p : α → Bool) (_ : ∀ i x, xs[i]? = some x → step (st i) = some (bif p x then .inr (hit i) else .inl (st (i + 1)))),
 (xs.any p = true ∧ ∃ i, i < xs.length ∧ Za4 step (st 0) = some (hit i)) ∨ (xs.any p = false ∧ Za4 step (st 0) = Za4 step (st xs.length))
 | [], _, _, _, _ => .inr ⟨rfl, rfl⟩
 | x :: xs, st, hit, p, h => by
  have h0 := h 0 x rfl
  cases hp : p x with
  | true =>
   simp only [hp, cond_true] at h0
   exact .inl ⟨by simp [hp], 0, by simp, Zbf h0⟩
  | false =>
   simp only [hp, cond_false] at h0
   rcases Zsm xs (fun i => st (i + 1)) (fun i => hit (i + 1)) p (fun i y hy => h (i + 1) y (by simpa using hy)) with ⟨h1, i, h2, h3⟩ | ⟨h1, h2⟩
   ·exact .inl ⟨by simp [hp, h1], i + 1, by simpa using h2, by rw [Zdg h0]; exact h3⟩
   ·exact .inr ⟨by simp [hp, h1], by rw [Zdg h0]; exact h2⟩
theorem Zah2 {S R β : Type} {step : S → Option (S ⊕ R)} {st : Nat → β → S} {Q : Nat → β → Prop} {post : R → Prop} (n : Nat)
 (h : ∀ i b, i < n → Q i b → (∃ b', step (st i b) = some (.inl (st (i + 1) b')) ∧ Q (i + 1) b') ∨ ∃ r, step (st i b) = some (.inr r) ∧ post r)
 (hend : ∀ b, Q n b → ∃ r, Za4 step (st n b) = some r ∧ post r) : ∀ b, Q 0 b → ∃ r, Za4 step (st 0 b) = some r ∧ post r := by
 have key : ∀ d i b, i + d = n → Q i b → ∃ r, Za4 step (st i b) = some r ∧ post r := by
  intro d
  induction d with
  | zero => intro i b hi hq; obtain rfl : i = n := by omega
            exact hend b hq
  | succ d ih =>
   intro i b hi hq
   rcases h i b (by omega) hq with ⟨b', h1, h2⟩ | ⟨r, h1, h2⟩
   ·rw [Zdg h1]; exact ih (i + 1) b' (by omega) h2
   ·exact ⟨r, Zbf h1, h2⟩
 exact fun b hq => key n 0 b (by omega) hq
section
variable {S : Type} {step : S → Option (S ⊕ Bool)} {b r : Bool} {k : Option (S ⊕ Bool)}
theorem Zadf (h : b = false → k.bind (Zlc step) = some r) : (bif b then some (.inr false) else k).bind (Zlc step) = some (!b && r) := by
 cases b
 ·simpa using h rfl
 ·rfl
end
end Go.PW
