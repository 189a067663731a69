import Derived.Test.YthnagpmgjlnioaaQE
import Derived.KernelRfl
namespace Go.PW

/-! ### Loops again -/
theorem scanR {S R : Type} {step : S → Option (S ⊕ R)} {st : Nat → S} {bad : R} (n : Nat) (q : Nat → Bool) (h : ∀ i, i < n → runO step (st i) = bif q i then runO step (st (i + 1)) else some bad) :
    runO step (st 0) = bif (List.range n).all q then runO step (st n) else some bad := by
  have key : ∀ (d i : Nat), i + d = n → runO step (st i) = bif (List.range' i d).all q then runO step (st n) else some bad := by
    intro d
    induction d with
    | zero => intro i hi; rw [show i = n by omega]; rfl
    | succ d ih =>
      intro i hi
      rw [h i (by omega), List.range'_succ, List.all_cons]
      cases hq : q i with
      | true => simp only [cond_true, Bool.true_and]; exact ih (i + 1) (by omega)
      | false => rfl
  rw [key n 0 (by omega), List.range_eq_range']
theorem findR {S R : Type} {step : S → Option (S ⊕ R)} {st : Nat → S} {f : Nat → R} (n : Nat) (p : Nat → Bool) (h : ∀ i, i < n → step (st i) = some (bif p i then .inr (f i) else .inl (st (i + 1)))) :
    runO step (st 0) = match (List.range n).find? p with | some i => some (f i) | none => runO step (st n) := by
  have key : ∀ (d i : Nat), i + d = n → runO step (st i) = match (List.range' i d).find? p with | some i => some (f i) | none => runO step (st n) := by
    intro d
    induction d with
    | zero => intro i hi; rw [show i = n by omega]; rfl
    | succ d ih =>
      intro i hi
      rw [runO_eq, h i (by omega), List.range'_succ, List.find?_cons]
      cases hq : p i with
      | true => rfl
      | false => simp only [cond_false]; exact ih (i + 1) (by omega)
  rw [key n 0 (by omega), List.range_eq_range']
theorem bif_bind {α β : Type} (b : Bool) (x y : Option α) (f : α → Option β) : (bif b then x else y).bind f = bif b then x.bind f else y.bind f := by cases b <;> rfl
theorem endO_inr {S R : Type} (step : S → Option (S ⊕ R)) (r : R) : endO step (.inr r) = some r := rfl
theorem endO_inl {S R : Type} (step : S → Option (S ⊕ R)) (s : S) : endO step (.inl s) = runO step s := rfl
theorem not_cond {α : Type} (b : Bool) (x y : α) : (bif !b then x else y) = bif b then y else x := by cases b <;> rfl
theorem bif_some (b c : Bool) : (bif b then some c else some false) = some (b && c) := by cases b <;> rfl
theorem int_beq (a b : Int) : (a == b) = decide (a = b) := rfl

/-! ### Index, Has -/
def eqAt (a : List Int) (x : Int) (i : Nat) : Bool := decide (a[i]? = some x)
theorem Index_eq (a : List Int) (x : Int) (ha : a.length ≤ 4611686018427387904) : slices_Index___int_int_ a x = some (match (List.range a.length).find? (eqAt a x) with | some i => (i : Int) | none => -1) := by
  unfold slices_Index___int_int_ slices_Index___int_int__0
  rw [Option.bind_some, endO_inl]
  have r := findR (step := slices_Index___int_int__step) (st := fun i => slices_Index___int_int__S.L0 a x (a.length : Int) (i : Int)) (f := fun i => (i : Int)) a.length (eqAt a x) (fun i hi => by
    show slices_Index___int_int__L0 _ _ _ _ = _
    unfold slices_Index___int_int__L0
    have hx := List.getElem?_eq_getElem hi
    rw [decide_eq_true (show (i : Int) < (a.length : Int) by omega), idx_at hx]
    simp only [cond_true, Option.bind_some, wrap_succ hi ha, eqAt, hx, Option.some.injEq, int_beq]
    by_cases h : a[i] = x
    · rw [decide_eq_true h, decide_eq_true h.symm]; rfl
    · rw [decide_eq_false h, decide_eq_false (fun e => h e.symm)]; rfl)
  refine Eq.trans r ?_
  cases (List.range a.length).find? (eqAt a x) with
  | some i => rfl
  | none =>
    refine runO_inr ?_
    show slices_Index___int_int__L0 _ _ _ _ = _
    unfold slices_Index___int_int__L0
    rw [decide_eq_false (show ¬ (a.length : Int) < (a.length : Int) by omega)]
    rfl
theorem Has_eq (a : List Int) (x : Int) (ha : a.length ≤ 4611686018427387904) : idset_Has a x = some (decide (x ∈ a)) := by
  unfold idset_Has idset_Has_0 slices_Contains___int_int_ slices_Contains___int_int__0
  rw [Index_eq a x ha]
  simp only [Option.bind_some, endO_inr, Option.some.injEq]
  cases h : (List.range a.length).find? (eqAt a x) with
  | some i =>
    have hp := List.find?_some h
    simp only [eqAt, decide_eq_true_eq] at hp
    rw [decide_eq_true (List.mem_of_getElem? hp)]
    exact decide_eq_true (by show (i : Int) ≥ 0; omega)
  | none =>
    have hm : x ∉ a := by
      intro hx
      obtain ⟨i, hi⟩ := List.getElem?_of_mem hx
      have := List.find?_eq_none.1 h i (List.mem_range.2 (List.getElem?_eq_some_iff.1 hi).1)
      simp [eqAt, hi] at this
    rw [decide_eq_false hm]
    rfl
theorem Index_at (a : List Int) (x : Int) (i : Nat) (hi : a[i]? = some x) (ha : a.length ≤ 4611686018427387904) : ∃ j : Nat, idset_Index a x = some (j : Int) ∧ (j = i ↔ x ∉ a.take i) := by
  unfold idset_Index idset_Index_0
  rw [Index_eq a x ha]
  simp only [Option.bind_some, endO_inr, Option.some.injEq]
  cases h : (List.range a.length).find? (eqAt a x) with
  | none =>
    have := List.find?_eq_none.1 h i (List.mem_range.2 (List.getElem?_eq_some_iff.1 hi).1)
    simp [eqAt, hi] at this
  | some j =>
    refine ⟨j, rfl, ?_⟩
    have hp := List.find?_some h
    simp only [eqAt, decide_eq_true_eq] at hp
    have hle : ∀ k, k < j → a[k]? ≠ some x := by
      intro k hk he
      rw [List.find?_eq_some_iff_append] at h
      obtain ⟨_, as, bs, hs, hn⟩ := h
      have hj : as.length = j := by
        have h1 := congrArg (fun l => l[as.length]?) hs
        simp only [List.getElem?_append_right (Nat.le_refl _), Nat.sub_self, List.getElem?_cons_zero] at h1
        rw [List.getElem?_range (by have := congrArg List.length hs; simp at this; omega)] at h1
        simpa using h1
      have hkm : k ∈ as := by
        have h1 : (as ++ j :: bs)[k]? = some k := by rw [← hs, List.getElem?_range (by have := congrArg List.length hs; simp at this; omega)]
        rw [List.getElem?_append_left (by omega)] at h1
        exact List.mem_of_getElem? h1
      have := hn k hkm
      simp [eqAt, he] at this
    constructor
    · rintro rfl hm
      obtain ⟨k, hk⟩ := List.getElem?_of_mem hm
      rw [List.getElem?_take] at hk
      split at hk
      · rename_i hkj; exact hle k hkj hk
      · cases hk
    · intro hm
      rcases Nat.lt_trichotomy j i with hlt | heq | hgt
      · exfalso
        apply hm
        have : (a.take i)[j]? = some x := by rw [List.getElem?_take, if_pos hlt]; exact hp
        exact List.mem_of_getElem? this
      · exact heq
      · exact absurd hi (hle i hgt)

/-! ### indexes -/
def okI (a : List Int) (n : Int) (i : Nat) : Bool := match a[i]? with
  | some x => decide (0 ≤ x) && (decide (x < n) && decide (x ∉ a.take i))
  | none => true
def idxs (a : List Int) (n : Int) : Bool := (List.range a.length).all (okI a n)
theorem indexes_eq (c : api_Choice) (a : List Int) (ha : a.length ≤ 4611686018427387904) : ask_indexes c a = some (idxs a (c.Options.length : Int)) := by
  unfold ask_indexes ask_indexes_0
  rw [Option.bind_some, endO_inl]
  have r := scan (step := ask_indexes_step) (st := fun i => ask_indexes_S.L0 a c a (a.length : Int) (i : Int)) (bad := false) a.length (okI a (c.Options.length : Int)) (fun i hi => by
    show ask_indexes_L0 _ _ _ _ _ = _
    unfold ask_indexes_L0
    have hx := List.getElem?_eq_getElem hi
    obtain ⟨j, hj, hji⟩ := Index_at a _ i hx ha
    rw [decide_eq_true (show (i : Int) < (a.length : Int) by omega), idx_at hx]
    simp only [cond_true, Option.bind_some, hj, wrap_succ hi ha, okI, hx]
    by_cases h0 : a[i] < 0
    · have : ¬ 0 ≤ a[i] := by omega
      simp [h0, this]
    · have h0' : 0 ≤ a[i] := by omega
      by_cases h1 : a[i] ≥ (c.Options.length : Int)
      · have : ¬ a[i] < (c.Options.length : Int) := by omega
        simp [h0, h1, this]
      · have h1' : a[i] < (c.Options.length : Int) := by omega
        simp only [decide_eq_false h0, decide_eq_false h1, decide_eq_true h0', decide_eq_true h1', cond_false, Bool.true_and]
        by_cases h2 : a[i] ∈ a.take i
        · have hne : (j : Int) ≠ (i : Int) := fun e => (hji.1 (by omega)) h2
          rw [decide_eq_false (fun h : a[i] ∉ a.take i => h h2), bne, beq_eq_false_iff_ne.2 hne]; rfl
        · have : j = i := hji.2 h2
          subst this
          rw [decide_eq_true h2, bne, beq_self_eq_true]; rfl)
  refine r.trans ?_
  have e : runO ask_indexes_step (.L0 a c a (a.length : Int) (a.length : Int)) = some true := by
    refine runO_inr ?_
    show ask_indexes_L0 _ _ _ _ _ = _
    unfold ask_indexes_L0
    rw [decide_eq_false (show ¬ (a.length : Int) < (a.length : Int) by omega)]
    rfl
  rw [e, bif_some, Bool.and_true]; rfl
theorem mem_take_all (a : List Int) (i : Nat) (x : Int) (hi : i ≤ a.length) : ((List.range i).all fun k => !decide (a[k]? = some x)) = decide (x ∉ a.take i) := by
  rw [Bool.eq_iff_iff, List.all_eq_true, decide_eq_true_eq]
  constructor
  · intro h hm
    obtain ⟨k, hk⟩ := List.getElem?_of_mem hm
    rw [List.getElem?_take] at hk
    split at hk
    · rename_i hki
      have := h k (List.mem_range.2 hki)
      simp [hk] at this
    · cases hk
  · intro h k hk
    have hki := List.mem_range.1 hk
    simp only [Bool.not_eq_true', decide_eq_false_iff_not]
    intro he
    apply h
    have : (a.take i)[k]? = some x := by rw [List.getElem?_take, if_pos hki]; exact he
    exact List.mem_of_getElem? this
theorem ref_indexes_eq (a : List Int) (n : Int) (ha : a.length ≤ 4611686018427387904) : R36_indexes a n = some (idxs a n) := by
  unfold R36_indexes R36_indexes_0
  rw [Option.bind_some, endO_inl]
  have r := scanR (step := R36_indexes_step) (st := fun i => R36_indexes_S.L0 a n (i : Int)) (bad := false) a.length (okI a n) (fun i hi => by
    have hx := List.getElem?_eq_getElem hi
    have inner := scan (step := R36_indexes_step) (st := fun k => R36_indexes_S.L1 a n (i : Int) (k : Int)) (bad := false) i (fun k => !decide (a[k]? = some a[i])) (fun k hk => by
      show R36_indexes_L1 _ _ _ _ = _
      unfold R36_indexes_L1
      have hy := List.getElem?_eq_getElem (show k < a.length by omega)
      rw [decide_eq_true (show (k : Int) < (i : Int) by omega), idx_at hy, idx_at hx]
      simp only [cond_true, Option.bind_some, wrap_succ hk (show i ≤ 4611686018427387904 by omega), hy, Option.some.injEq, int_beq]
      cases decide (a[k] = a[i]) <;> rfl)
    rw [mem_take_all a i a[i] (by omega)] at inner
    have e1 : runO R36_indexes_step (.L1 a n (i : Int) (i : Int)) = runO R36_indexes_step (.L0 a n ((i + 1 : Nat) : Int)) := by
      refine runO_inl ?_
      show R36_indexes_L1 _ _ _ _ = _
      unfold R36_indexes_L1
      rw [decide_eq_false (show ¬ (i : Int) < (i : Int) by omega)]
      simp only [cond_false, wrap_succ hi ha]
    rw [e1] at inner
    rw [runO_eq]
    have e2 : R36_indexes_step (.L0 a n (i : Int)) = some (bif decide (0 ≤ a[i]) && decide (a[i] < n) then .inl (.L1 a n (i : Int) 0) else .inr false) := by
      show R36_indexes_L0 _ _ _ = _
      unfold R36_indexes_L0
      rw [decide_eq_true (show (i : Int) < (a.length : Int) by omega), idx_at hx]
      simp only [cond_true, Option.bind_some]
      by_cases h0 : a[i] < 0
      · have : ¬ 0 ≤ a[i] := by omega
        simp [h0, this]
      · have h0' : 0 ≤ a[i] := by omega
        by_cases h1 : a[i] ≥ n
        · have : ¬ a[i] < n := by omega
          simp [h0, h1, this]
        · have h1' : a[i] < n := by omega
          simp [h0, h1, h0', h1']
    rw [e2]
    simp only [okI, hx]
    cases hb : decide (0 ≤ a[i]) && decide (a[i] < n) with
    | false =>
      have : (decide (0 ≤ a[i]) && (decide (a[i] < n) && decide (a[i] ∉ a.take i))) = false := by rw [← Bool.and_assoc, hb]; rfl
      rw [this]; rfl
    | true =>
      have : (decide (0 ≤ a[i]) && (decide (a[i] < n) && decide (a[i] ∉ a.take i))) = decide (a[i] ∉ a.take i) := by rw [← Bool.and_assoc, hb]; rfl
      rw [this]; exact inner)
  refine r.trans ?_
  have e : runO R36_indexes_step (.L0 a n (a.length : Int)) = some true := by
    refine runO_inr ?_
    show R36_indexes_L0 _ _ _ = _
    unfold R36_indexes_L0
    rw [decide_eq_false (show ¬ (a.length : Int) < (a.length : Int) by omega)]
    rfl
  rw [e, bif_some, Bool.and_true]; rfl
end Go.PW
