/- The engine, part X: plain laws: total correctness of partial functions, lists that loops build, equality of lists. -/
import Derived.Test.YtdpiijfehkafnaaPwU
namespace Go.PW

/-! ### Total correctness -/
def Tot {α : Type} (o : Option α) (Q : α → Prop) : Prop := ∃ a, o = some a ∧ Q a
theorem Tot.ret {α : Type} {a : α} {Q : α → Prop} (h : Q a) : Tot (some a) Q := ⟨a, rfl, h⟩
theorem Tot.mono {α : Type} {o : Option α} {P Q : α → Prop} (h : Tot o P) (f : ∀ a, P a → Q a) : Tot o Q := by
  obtain ⟨a, h1, h2⟩ := h
  exact ⟨a, h1, f a h2⟩
theorem Tot.bind {α β : Type} {o : Option α} {k : α → Option β} {P : α → Prop} {Q : β → Prop} (h : Tot o P) (f : ∀ a, P a → Tot (k a) Q) : Tot (o.bind k) Q := by
  obtain ⟨a, rfl, h2⟩ := h
  exact f a h2
theorem Tot.bif {α : Type} {b : Bool} {x y : Option α} {Q : α → Prop} (h : b = true → Tot x Q) (g : b = false → Tot y Q) : Tot (bif b then x else y) Q := by
  cases b
  · exact g rfl
  · exact h rfl
theorem Tot.of_eq {α : Type} {o : Option α} {a : α} {Q : α → Prop} (h : o = some a) (hq : Q a) : Tot o Q := ⟨a, h, hq⟩
theorem Tot.eq {α : Type} {o : Option α} {a : α} (h : Tot o (fun x => x = a)) : o = some a := by
  obtain ⟨x, h1, rfl⟩ := h
  exact h1
theorem Tot.idx {α : Type} {xs : List α} {i : Int} (h0 : 0 ≤ i) (h1 : i < xs.length) : Tot (idx? xs i) fun x => x ∈ xs ∧ xs[i.toNat]? = some x := by
  have h := List.getElem?_eq_getElem (show i.toNat < xs.length by omega)
  refine ⟨xs[i.toNat], ?_, List.getElem_mem _, h⟩
  unfold idx?
  rw [if_pos h0, h]
theorem Tot.app {α : Type} {k : Nat} {a b : List α} (h : (a.length + b.length) * k ≤ 140737488355328) (hk : 0 < k) : Tot (app? k a b) fun z => z = a ++ b := ⟨_, app_ok h hk, rfl⟩
theorem Tot.some {α : Type} {o : Option α} {Q : α → Prop} (h : Tot o Q) : ∃ a, o = some a := by
  obtain ⟨a, h, _⟩ := h
  exact ⟨a, h⟩

/-! ### Loops -/
/-- a loop with a measure -/
theorem Tot.loop {S R : Type} {step : S → Option (S ⊕ R)} {Inv : S → Prop} {μ : S → Nat} {Q : R → Prop} (h : ∀ s, Inv s → Tot (step s) fun y => (∃ s', y = .inl s' ∧ Inv s' ∧ μ s' < μ s) ∨ ∃ r, y = .inr r ∧ Q r) :
    ∀ s, Inv s → Tot (runO step s) Q := by
  have key : ∀ n s, μ s < n → Inv s → Tot (runO step s) Q := by
    intro n
    induction n with
    | zero => intro s hn; omega
    | succ n ih =>
      intro s hn hi
      obtain ⟨y, h1, h2⟩ := h s hi
      rcases h2 with ⟨s', rfl, h3, h4⟩ | ⟨r, rfl, h3⟩
      · rw [runO_inl h1]; exact ih s' (by omega) h3
      · exact ⟨r, runO_inr h1, h3⟩
  exact fun s hi => key (μ s + 1) s (by omega) hi
/-- a loop over numbers with values carried -/
theorem Tot.for {S R β : Type} {step : S → Option (S ⊕ R)} {st : Nat → β → S} (n : Nat) (Inv : Nat → β → Prop) {Q : R → Prop}
    (h : ∀ i b, i < n → Inv i b → Tot (step (st i b)) fun y => (∃ b', y = .inl (st (i + 1) b') ∧ Inv (i + 1) b') ∨ ∃ r, y = .inr r ∧ Q r)
    (hend : ∀ b, Inv n b → Tot (runO step (st n b)) Q) : ∀ b, Inv 0 b → Tot (runO step (st 0 b)) Q := by
  have key : ∀ d i b, i + d = n → Inv i b → Tot (runO step (st i b)) Q := by
    intro d
    induction d with
    | zero => intro i b hi hq; obtain rfl : i = n := by omega
              exact hend b hq
    | succ d ih =>
      intro i b hi hq
      obtain ⟨y, h1, h2⟩ := h i b (by omega) hq
      rcases h2 with ⟨b', rfl, h3⟩ | ⟨r, rfl, h3⟩
      · rw [runO_inl h1]; exact ih (i + 1) b' (by omega) h3
      · exact ⟨r, runO_inr h1, h3⟩
  exact fun b hq => key n 0 b (by omega) hq
theorem Tot.stop {S R : Type} {step : S → Option (S ⊕ R)} {s : S} {r : R} {Q : R → Prop} (h : step s = .some (.inr r)) (hq : Q r) : Tot (runO step s) Q := ⟨r, runO_inr h, hq⟩

/-! ### Totality, by program: a lifted function's steps, with an invariant and a measure -/
abbrev M6 := Nat × Nat × Nat × Nat × Nat × Nat
def lt6 (x y : M6) : Prop := x.1 < y.1 ∨ (x.1 = y.1 ∧ (x.2.1 < y.2.1 ∨ (x.2.1 = y.2.1 ∧ (x.2.2.1 < y.2.2.1 ∨ (x.2.2.1 = y.2.2.1 ∧ (x.2.2.2.1 < y.2.2.2.1 ∨ (x.2.2.2.1 = y.2.2.2.1 ∧ (x.2.2.2.2.1 < y.2.2.2.2.1 ∨ (x.2.2.2.2.1 = y.2.2.2.2.1 ∧ x.2.2.2.2.2 < y.2.2.2.2.2)))))))))
def le6 (x y : M6) : Prop := x = y ∨ lt6 x y
theorem lt6_trans {x y z : M6} (h : lt6 x y) (g : lt6 y z) : lt6 x z := by unfold lt6 at *; omega
theorem lt6_le {x y z : M6} (h : lt6 x y) (g : le6 y z) : lt6 x z := by
  rcases g with rfl | g
  · exact h
  · exact lt6_trans h g
theorem lt6_wf : WellFounded lt6 := by
  have h : WellFounded (Prod.Lex (fun a b : Nat => a < b) (Prod.Lex (fun a b : Nat => a < b) (Prod.Lex (fun a b : Nat => a < b) (Prod.Lex (fun a b : Nat => a < b) (Prod.Lex (fun a b : Nat => a < b) (fun a b : Nat => a < b)))))) :=
    (Prod.lex ⟨_, Nat.lt_wfRel.wf⟩ (Prod.lex ⟨_, Nat.lt_wfRel.wf⟩ (Prod.lex ⟨_, Nat.lt_wfRel.wf⟩ (Prod.lex ⟨_, Nat.lt_wfRel.wf⟩ (Prod.lex ⟨_, Nat.lt_wfRel.wf⟩ ⟨_, Nat.lt_wfRel.wf⟩))))).wf
  refine Subrelation.wf ?_ h
  rintro ⟨a1, a2, a3, a4, a5, a6⟩ ⟨b1, b2, b3, b4, b5, b6⟩ h
  unfold lt6 at h
  simp only at h
  rcases h with h | ⟨rfl, h | ⟨rfl, h | ⟨rfl, h | ⟨rfl, h | ⟨rfl, h⟩⟩⟩⟩⟩
  · exact .left _ _ h
  · exact .right _ (.left _ _ h)
  · exact .right _ (.right _ (.left _ _ h))
  · exact .right _ (.right _ (.right _ (.left _ _ h)))
  · exact .right _ (.right _ (.right _ (.right _ (.left _ _ h))))
  · exact .right _ (.right _ (.right _ (.right _ (.right _ h))))
/-- what a step's result must be -/
def Nx {S R : Type} (Inv : S → Prop) (μ : S → M6) (m : M6) (post : R → Prop) : S ⊕ R → Prop
  | .inl s => Inv s ∧ lt6 (μ s) m
  | .inr r => post r
section
variable {S R : Type} {Inv : S → Prop} {μ : S → M6} {m m' : M6} {post : R → Prop}
theorem Tot.inl {s : S} (h : Inv s) (hm : lt6 (μ s) m) : Tot (.some (.inl s)) (Nx Inv μ m post) := ⟨_, rfl, h, hm⟩
theorem Tot.inr {r : R} (h : post r) : Tot (.some (.inr r)) (Nx Inv μ m post) := ⟨_, rfl, h⟩
theorem Tot.join {o : Option (S ⊕ R)} (h : Tot o (Nx Inv μ m' post)) (hm : le6 m' m) : Tot o (Nx Inv μ m post) := h.mono fun y hy => by
  cases y with
  | inl s => exact ⟨hy.1, lt6_le hy.2 hm⟩
  | inr r => exact hy
theorem Tot.fin {step : S → Option (S ⊕ R)} {o : Option (S ⊕ R)} (h0 : Tot o (Nx Inv μ m post)) (hs : ∀ s, Inv s → Tot (step s) (Nx Inv μ (μ s) post)) : Tot (o.bind (endO step)) post := by
  have key : ∀ x : M6, ∀ s, μ s = x → Inv s → Tot (runO step s) post := fun x => lt6_wf.induction (C := fun x => ∀ s, μ s = x → Inv s → Tot (runO step s) post) x (fun x ih s hx hi => by
    subst hx
    obtain ⟨y, h1, h2⟩ := hs s hi
    cases y with
    | inl s' => rw [runO_inl h1]; exact ih _ h2.2 s' rfl h2.1
    | inr r => exact ⟨r, runO_inr h1, h2⟩)
  obtain ⟨y, rfl, h2⟩ := h0
  cases y with
  | inl s => exact key _ s rfl h2.1
  | inr r => exact ⟨r, rfl, h2⟩
end
theorem Tot.dif {α : Type} {p : Prop} [Decidable p] {x y : Option α} {Q : α → Prop} (h : p → Tot x Q) (g : ¬ p → Tot y Q) : Tot (bif decide p then x else y) Q := by
  by_cases hp : p
  · rw [decide_eq_true hp]; exact h hp
  · rw [decide_eq_false hp]; exact g hp
theorem Tot.ieq {α : Type} {a b : Int} {x y : Option α} {Q : α → Prop} (h : a = b → Tot x Q) (g : a ≠ b → Tot y Q) : Tot (bif (a == b) then x else y) Q := by
  rw [int_beq]; exact Tot.dif h g
theorem Tot.ine {α : Type} {a b : Int} {x y : Option α} {Q : α → Prop} (h : a ≠ b → Tot x Q) (g : a = b → Tot y Q) : Tot (bif (a != b) then x else y) Q := by
  rw [int_bne]; exact Tot.dif h (fun e => g (by omega))
theorem Tot.not {α : Type} {b : Bool} {x y : Option α} {Q : α → Prop} (h : b = false → Tot x Q) (g : b = true → Tot y Q) : Tot (bif !b then x else y) Q := by
  cases b
  · exact h rfl
  · exact g rfl
theorem Tot.ok {b : Bool} (h : b = true) : Tot (ok? b) fun _ => True := by subst h; exact ⟨(), rfl, trivial⟩
theorem Tot.okd {p : Prop} [Decidable p] (h : p) : Tot (ok? (decide p)) fun _ => p := ⟨(), by rw [decide_eq_true h]; rfl, h⟩
theorem Tot.slice {α : Type} {xs : List α} {l h : Int} (h0 : 0 ≤ l) (h1 : l ≤ h) (h2 : h ≤ xs.length) : Tot (slice? xs l h) fun z => (z.length : Int) = h - l ∧ ∀ x, x ∈ z → x ∈ xs := by
  refine ⟨(xs.take h.toNat).drop l.toNat, ?_, ?_, fun x hx => List.mem_of_mem_take (List.mem_of_mem_drop hx)⟩
  · unfold slice?; rw [if_pos ⟨h0, h1, h2⟩]
  · rw [List.length_drop, List.length_take]; omega
theorem Tot.make {α : Type} {b : Nat} {z : α} {m c : Int} (h : 0 ≤ m ∧ m ≤ c ∧ (b : Int) * c ≤ 281474976710656 ∧ c ≤ 9223372036854775807) : Tot (make? b z m c) fun x => (x.length : Int) = m ∧ ∀ y, y ∈ x → y = z := by
  refine ⟨List.replicate m.toNat z, ?_, ?_, fun y hy => (List.mem_replicate.1 hy).2⟩
  · unfold make?; rw [if_pos h]
  · rw [List.length_replicate]; omega
theorem Tot.copy {α : Type} {x y : List α} (h : y.length ≤ x.length) : Tot (copy? x y) fun z => z.length = x.length ∧ ∀ e, e ∈ z → e ∈ y ∨ e ∈ x := by
  refine ⟨y ++ x.drop y.length, ?_, ?_, fun e he => ?_⟩
  · unfold copy?; rw [if_pos h]
  · rw [List.length_append, List.length_drop]; omega
  · rcases List.mem_append.1 he with h | h
    · exact .inl h
    · exact .inr (List.mem_of_mem_drop h)
theorem Tot.set {α : Type} {z : List α} {i : Int} {x : α} (h0 : 0 ≤ i) (h1 : i < z.length) : Tot (set? z i x) fun y => y.length = z.length ∧ ∀ e, e ∈ y → e = x ∨ e ∈ z := by
  refine ⟨z.set i.toNat x, ?_, List.length_set .., fun e he => ?_⟩
  · unfold set?; rw [if_pos ⟨h0, by omega⟩]
  · rcases List.mem_or_eq_of_mem_set he with h | h
    · exact .inr h
    · exact .inl h
theorem Tot.bytes {s : List UInt8} (h : s.length ≤ 9223372036854775807) : Tot (bytes? s) fun z => z.length = s.length := by
  unfold bytes?
  rw [if_pos h]
  exact ⟨_, rfl, List.length_map ..⟩
theorem wrapf (n : Int) : (-9223372036854775808 ≤ n → n < 9223372036854775808 → IntKind.wrap .i64 n = n) := fun h1 h2 => wrap64 h1 h2
theorem wrapr (n : Int) : -9223372036854775808 ≤ IntKind.wrap .i64 n ∧ IntKind.wrap .i64 n < 9223372036854775808 := by
  simp only [IntKind.wrap, IntKind.bits, IntKind.signed, Bool.true_and, ge_iff_le, decide_eq_true_eq]
  have h1 := Int.emod_nonneg n (show (2 ^ 64 : Int) ≠ 0 by decide)
  have h2 := Int.emod_lt_of_pos n (show (0 : Int) < 2 ^ 64 by decide)
  split <;> omega
theorem wrapu64 (n : Int) : 0 ≤ IntKind.wrap .u64 n ∧ IntKind.wrap .u64 n < 18446744073709551616 := by
  simp only [IntKind.wrap, IntKind.bits, IntKind.signed]
  have h1 := Int.emod_nonneg n (show (2 ^ 64 : Int) ≠ 0 by decide)
  have h2 := Int.emod_lt_of_pos n (show (0 : Int) < 2 ^ 64 by decide)
  simp only [Bool.false_and, Bool.false_eq_true, if_false]
  omega
theorem wrapu8 (n : Int) : 0 ≤ IntKind.wrap .u8 n ∧ IntKind.wrap .u8 n < 256 := by
  simp only [IntKind.wrap, IntKind.bits, IntKind.signed]
  have h1 := Int.emod_nonneg n (show (2 ^ 8 : Int) ≠ 0 by decide)
  have h2 := Int.emod_lt_of_pos n (show (0 : Int) < 2 ^ 8 by decide)
  simp only [Bool.false_and, Bool.false_eq_true, if_false]
  omega
/-- strings in a struct; strings elsewhere -/
def SzS (s : List UInt8) : Prop := s.length ≤ 281474976710656
def SzT (s : List UInt8) : Prop := s.length ≤ 562949953421312
theorem SzS.t {s : List UInt8} (h : SzS s) : SzT s := Nat.le_trans h (by decide)
theorem SzS.nil : SzS [] := Nat.zero_le _
theorem SzT.nil : SzT [] := Nat.zero_le _
theorem SzS.lit {s : List UInt8} (h : s.length ≤ 1000) : SzS s := Nat.le_trans h (by decide)
theorem SzT.lit {s : List UInt8} (h : s.length ≤ 1000) : SzT s := Nat.le_trans h (by decide)
theorem mem_cons' {α : Type} {P : α → Prop} {a : α} {l : List α} (h : P a) (g : ∀ x, x ∈ l → P x) : ∀ x, x ∈ a :: l → P x := fun x hx => by
  rcases List.mem_cons.1 hx with h' | h'
  · rw [h']; exact h
  · exact g x h'
def SzL {α : Type} (k : Nat) (P : α → Prop) (xs : List α) : Prop := xs.length * k ≤ 140737488351232 ∧ ∀ x, x ∈ xs → P x
theorem SzL.nil {α : Type} {k : Nat} {P : α → Prop} : SzL k P ([] : List α) := ⟨by simp, fun x h => by cases h⟩
theorem SzL.app {α : Type} {k : Nat} {P : α → Prop} {a b z : List α} (h : z = a ++ b) (hl : z.length * k ≤ 140737488351232) (ha : ∀ x, x ∈ a → P x) (hb : ∀ x, x ∈ b → P x) : SzL k P z := ⟨hl, fun x hx => by
  subst h
  rcases List.mem_append.1 hx with h | h
  · exact ha x h
  · exact hb x h⟩

/-! ### Lists that a loop filters -/
def filt {α γ : Type} (p : Nat → α → Bool) (q : α → γ) : Nat → List α → List γ
  | _, [] => []
  | i, x :: xs => bif p i x then q x :: filt p q (i + 1) xs else filt p q (i + 1) xs
theorem filt_len {α γ : Type} (p : Nat → α → Bool) (q : α → γ) : ∀ (xs : List α) (i : Nat), (filt p q i xs).length ≤ xs.length
  | [], _ => Nat.le_refl _
  | x :: xs, i => by
    have := filt_len p q xs (i + 1)
    unfold filt
    cases p i x <;> simp <;> omega
theorem filt_loop {S R α γ : Type} {step : S → Option (S ⊕ R)} {st : Nat → List γ → S} (xs : List α) (p : Nat → α → Bool) (q : α → γ)
    (h : ∀ i x acc, xs[i]? = some x → acc.length ≤ i → step (st i acc) = some (.inl (st (i + 1) (bif p i x then acc ++ [q x] else acc)))) :
    runO step (st 0 []) = runO step (st xs.length (filt p q 0 xs)) := by
  have key : ∀ d i acc, i + d = xs.length → acc.length ≤ i → runO step (st i acc) = runO step (st xs.length (acc ++ filt p q i (xs.drop i))) := by
    intro d
    induction d with
    | zero =>
      intro i acc hi ha
      obtain rfl : i = xs.length := by omega
      rw [List.drop_length]
      simp [filt]
    | succ d ih =>
      intro i acc hi ha
      have hlt : i < xs.length := by omega
      rw [runO_inl (h i xs[i] acc (List.getElem?_eq_getElem hlt) ha), List.drop_eq_getElem_cons hlt]
      cases hp : p i xs[i] with
      | false =>
        rw [cond_false, ih (i + 1) acc (by omega) (by omega)]
        simp [filt, hp]
      | true =>
        rw [cond_true, ih (i + 1) (acc ++ [q xs[i]]) (by omega) (by simp; omega)]
        simp [filt, hp]
  have := key xs.length 0 [] (by omega) (by simp)
  simpa using this

/-! ### Equality of lists, element by element -/
theorem len_dec {α : Type} [DecidableEq α] {a b : List α} (h : a.length ≠ b.length) : decide (a = b) = false := decide_eq_false (fun e => h (by rw [e]))
theorem len_bne {α β : Type} (a : List α) (b : List β) : ((a.length : Int) != (b.length : Int)) = decide (a.length ≠ b.length) := by
  rw [int_bne, decide_eq_decide]; omega
theorem len_beq {α β : Type} (a : List α) (b : List β) : ((a.length : Int) == (b.length : Int)) = decide (a.length = b.length) := by
  rw [int_beq, decide_eq_decide]; omega
/-- a loop that compares two lists: whatever comes behind it -/
theorem eq_loop {S R α : Type} [DecidableEq α] {step : S → Option (S ⊕ R)} {st : Nat → S} {bad : R} (a b : List α) (hl : a.length = b.length)
    (h : ∀ i x y, a[i]? = some x → b[i]? = some y → step (st i) = some (bif decide (x = y) then .inl (st (i + 1)) else .inr bad)) :
    runO step (st 0) = bif decide (a = b) then runO step (st a.length) else some bad := by
  have hs := scan (st := st) (step := step) (bad := bad) a.length (fun i => decide (a[i]? = b[i]?)) (fun i hi => by
    have e1 := List.getElem?_eq_getElem hi
    have e2 := List.getElem?_eq_getElem (show i < b.length by omega)
    rw [h i _ _ e1 e2, e1, e2]
    simp only [Option.some.injEq])
  rw [hs, all_range_eq a b hl]
/-- the same, if the elements are compared by a function -/
theorem eqf_loop {S R α : Type} [DecidableEq α] {step : S → Option (S ⊕ R)} {st : Nat → S} {bad : R} (a b : List α) (hl : a.length = b.length)
    (h : ∀ i x y, a[i]? = some x → b[i]? = some y → x ∈ a → step (st i) = some (bif decide (x = y) then .inl (st (i + 1)) else .inr bad)) :
    runO step (st 0) = bif decide (a = b) then runO step (st a.length) else some bad :=
  eq_loop a b hl fun i x y hx hy => h i x y hx hy (List.mem_of_getElem? hx)
end Go.PW
