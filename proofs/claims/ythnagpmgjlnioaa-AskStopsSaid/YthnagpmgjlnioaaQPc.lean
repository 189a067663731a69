import Derived.Test.YthnagpmgjlnioaaQPb
namespace Go.PW

/-! ### Default, Forced -/
def countV (n : Int) : List Int := (List.range n.toNat).map fun i : Nat => (i : Int)
theorem countV_len (n : Int) : (countV n).length = n.toNat := by simp [countV]
theorem count_app (i : Nat) (hi : i ≤ 10000000000000) : app? 8 ((List.range i).map fun j : Nat => (j : Int)) [(i : Int)] = some ((List.range (i + 1)).map fun j : Nat => (j : Int)) := by
  rw [app_ok (by simp; omega) (by decide), List.range_succ, List.map_append]; rfl
theorem first_eq (n : Int) (h0 : 0 ≤ n) (h1 : n ≤ 10000000000000) : ask_first n = some (countV n) := by
  unfold ask_first ask_first_0
  rw [Option.bind_some, endO_inl]
  obtain ⟨m, rfl⟩ := Int.eq_ofNat_of_zero_le h0
  have r := carry (step := ask_first_step) (st := fun i (v : List Int) => ask_first_S.L0 v (m : Int) (i : Int)) m (fun i => (List.range i).map fun j : Nat => (j : Int)) (fun i hi => by
    show ask_first_L0 _ _ _ = _
    unfold ask_first_L0
    rw [decide_eq_true (show (i : Int) < (m : Int) by omega)]
    simp only [cond_true, count_app i (by omega), Option.bind_some, wrap_succ hi (by omega)])
  refine r.trans (runO_inr ?_)
  show ask_first_L0 _ _ _ = _
  unfold ask_first_L0
  rw [decide_eq_false (show ¬ (m : Int) < (m : Int) by omega)]
  rfl
theorem ref_count_eq (n : Int) (h0 : 0 ≤ n) (h1 : n ≤ 10000000000000) : R36_count n = some (countV n) := by
  unfold R36_count R36_count_0
  rw [Option.bind_some, endO_inl]
  obtain ⟨m, rfl⟩ := Int.eq_ofNat_of_zero_le h0
  have r := carry (step := R36_count_step) (st := fun i (v : List Int) => R36_count_S.L0 (m : Int) v (i : Int)) m (fun i => (List.range i).map fun j : Nat => (j : Int)) (fun i hi => by
    show R36_count_L0 _ _ _ = _
    unfold R36_count_L0
    rw [decide_eq_true (show (i : Int) < (m : Int) by omega)]
    simp only [cond_true, count_app i (by omega), Option.bind_some, wrap_succ hi (by omega)])
  refine r.trans (runO_inr ?_)
  show R36_count_L0 _ _ _ = _
  unfold R36_count_L0
  rw [decide_eq_false (show ¬ (m : Int) < (m : Int) by omega)]
  rfl
def lim (l : Int) (n : Nat) : Int := minI (maxI l 0) n
theorem lim_ge (l : Int) (n : Nat) : 0 ≤ lim l n := by unfold lim minI maxI; split <;> split <;> omega
theorem lim_le (l : Int) (n : Nat) : lim l n ≤ n := by unfold lim minI maxI; split <;> split <;> omega
def asgV (n : Nat) (x : Int) : List Int := (List.replicate n (0 : Int)).set 0 x
def defV (c : api_Choice) : List Int :=
  bif single c.Kind then [0] else bif c.Kind == 3 then countV (lim c.Least c.Options.length) else bif c.Kind == 4 then countV c.Options.length else bif c.Kind == 5 then [c.Least]
  else bif c.Kind == 8 then asgV c.Options.length c.N else []
def small (c : api_Choice) : Prop := c.Options.length * 24 ≤ reachBytes
theorem small_le {c : api_Choice} (h : small c) : c.Options.length ≤ 10000000000000 := by
  unfold small at h
  have : reachBytes = 140737488351232 := rfl
  omega
theorem defV_len (c : api_Choice) (h : small c) : (defV c).length ≤ 10000000000000 := by
  have hl := small_le h
  have h1 := lim_le c.Least c.Options.length
  have h2 := lim_ge c.Least c.Options.length
  unfold defV asgV
  cases single c.Kind <;> cases c.Kind == 3 <;> cases c.Kind == 4 <;> cases c.Kind == 5 <;> cases c.Kind == 8 <;> simp [countV_len] <;> omega
theorem make_eq (n : Nat) (h : n ≤ 10000000000000) : make? 8 (0 : Int) (n : Int) (n : Int) = some (List.replicate n 0) := by
  unfold make?
  rw [if_pos ⟨by omega, by omega, by omega, by omega⟩]; rfl
theorem asg_set (n : Nat) (x : Int) (h : 0 < n) : set? (List.replicate n (0 : Int)) 0 x = some (asgV n x) := set_ok _ 0 x (by simpa using h)
theorem Default_eq (c : api_Choice) (h : small c) : ask_Default c = some (defV c) := by
  have hl := small_le h
  unfold ask_Default ask_Default_0 defV
  have f1 := first_eq (lim c.Least c.Options.length) (lim_ge _ _) (by have := lim_le c.Least c.Options.length; omega)
  have f2 := first_eq (c.Options.length : Int) (by omega) (by omega)
  have f3 := make_eq c.Options.length hl
  unfold lim at f1
  obtain ⟨k, p, so, le, mo, n, os⟩ := c
  simp only at f1 f2 f3 hl
  simp only [f1, f2, f3, Option.bind_some]
  rcases kinds k with rfl | rfl | rfl | rfl | rfl | rfl | rfl | rfl | rfl | rfl | rfl | ⟨e1, e2, e3, e4, e5, e6, e7, e8, e9, e10, e11⟩
  case inr.inr.inr.inr.inr.inr.inr.inl =>
    cases os with
    | nil => simp [single, endO_inr, asgV]
    | cons y ys =>
      have hy : ((y :: ys).length : Int) > 0 := by simp only [List.length_cons]; omega
      have hi : idx? (List.replicate (y :: ys).length (0 : Int)) 0 = some 0 := rfl
      have hs := asg_set (y :: ys).length n (by simp)
      rw [decide_eq_true hy]
      simp only [hs, hi]
      rfl
  case inr.inr.inr.inr.inr.inr.inr.inr.inr.inr.inr => simp [single, endO_inr, e1, e2, e3, e4, e5, e6, e7, e8, e9, e10, e11]
  all_goals simp [single, endO_inr, lim]
theorem ref_Default_eq (c : api_Choice) (h : small c) : R36_Default c = some (defV c) := by
  have hl := small_le h
  unfold R36_Default R36_Default_0 defV
  have f1 := ref_count_eq (lim c.Least c.Options.length) (lim_ge _ _) (by have := lim_le c.Least c.Options.length; omega)
  have f2 := ref_count_eq (c.Options.length : Int) (by omega) (by omega)
  have f3 := make_eq c.Options.length hl
  unfold lim at f1
  obtain ⟨k, p, so, le, mo, n, os⟩ := c
  simp only at f1 f2 f3 hl
  simp only [f1, f2, f3, single_eq, Option.bind_some]
  rcases kinds k with rfl | rfl | rfl | rfl | rfl | rfl | rfl | rfl | rfl | rfl | rfl | ⟨e1, e2, e3, e4, e5, e6, e7, e8, e9, e10, e11⟩
  case inr.inr.inr.inr.inr.inr.inr.inl =>
    cases os with
    | nil => simp [single, endO_inr, asgV]
    | cons y ys =>
      have hy : ((y :: ys).length : Int) > 0 := by simp only [List.length_cons]; omega
      have hi : idx? (List.replicate (y :: ys).length (0 : Int)) 0 = some 0 := rfl
      have hs := asg_set (y :: ys).length n (by simp)
      rw [decide_eq_true hy]
      simp only [hs, hi]
      rfl
  case inr.inr.inr.inr.inr.inr.inr.inr.inr.inr.inr => simp [single, endO_inr, e1, e2, e3, e4, e5, e6, e7, e8, e9, e10, e11]
  all_goals simp [single, endO_inr, lim]
def forcedV (c : api_Choice) : Bool :=
  bif single c.Kind || c.Kind == 4 || c.Kind == 8 then decide ((c.Options.length : Int) ≤ 1) else bif c.Kind == 6 || c.Kind == 7 then ((c.Options.length : Int) == 0)
  else bif c.Kind == 3 then (c.Least == c.Most) && ((c.Least == 0) || (c.Least == (c.Options.length : Int))) else bif c.Kind == 5 then c.Least == c.Most else true
theorem Forced_eq (c : api_Choice) : ask_Forced c = some (forcedV c) := by
  unfold ask_Forced ask_Forced_0 forcedV
  obtain ⟨k, p, so, le, mo, n, os⟩ := c
  simp only
  rcases kinds k with rfl | rfl | rfl | rfl | rfl | rfl | rfl | rfl | rfl | rfl | rfl | ⟨e1, e2, e3, e4, e5, e6, e7, e8, e9, e10, e11⟩
  case inr.inr.inl => cases h1 : le == mo <;> cases h2 : le == 0 <;> simp [single, endO_inr]
  case inr.inr.inr.inr.inr.inr.inr.inr.inr.inr.inr => simp [single, endO_inr, e1, e2, e3, e4, e5, e6, e7, e8, e9, e10, e11]
  all_goals simp [single, endO_inr]
theorem ref_Forced_eq (c : api_Choice) : R36_Forced c = some (forcedV c) := by
  unfold R36_Forced R36_Forced_0 forcedV
  obtain ⟨k, p, so, le, mo, n, os⟩ := c
  simp only [single_eq, Option.bind_some]
  rcases kinds k with rfl | rfl | rfl | rfl | rfl | rfl | rfl | rfl | rfl | rfl | rfl | ⟨e1, e2, e3, e4, e5, e6, e7, e8, e9, e10, e11⟩
  case inr.inr.inl => cases h1 : le == mo <;> cases h2 : le == 0 <;> simp [single, endO_inr]
  case inr.inr.inr.inr.inr.inr.inr.inr.inr.inr.inr => simp [single, endO_inr, e1, e2, e3, e4, e5, e6, e7, e8, e9, e10, e11]
  all_goals simp [single, endO_inr]

/-! ### Ints, SameChoice, light, New -/
theorem eq_scan {S α : Type} [DecidableEq α] {step : S → Option (S ⊕ Bool)} (a b : List α) (st : Nat → S) (hl : a.length = b.length) {next : Option Bool}
    (h : ∀ i x y, i < a.length → a[i]? = some x → b[i]? = some y → step (st i) = some (bif decide (x = y) then .inl (st (i + 1)) else .inr false)) (hend : runO step (st a.length) = next) :
    runO step (st 0) = bif decide (a = b) then next else some false := by
  rw [scan (bad := false) a.length (fun i => decide (a[i]? = b[i]?)) (fun i hi => ?_), all_range_eq a b hl, hend]
  have hx := List.getElem?_eq_getElem hi
  have hy := List.getElem?_eq_getElem (show i < b.length by omega)
  rw [h i _ _ hi hx hy, hx, hy]
  simp only [Option.some.injEq]
theorem len_dec {α : Type} [DecidableEq α] {a b : List α} (h : a.length ≠ b.length) : decide (a = b) = false := decide_eq_false (fun e => h (by rw [e]))
theorem Ints_eq (a b : List Int) (ha : a.length ≤ 4611686018427387904) : R36_Ints a b = some (decide (a = b)) := by
  unfold R36_Ints R36_Ints_0
  rw [int_len_ne]
  by_cases hl : a.length = b.length
  · simp only [hl, ne_eq, not_true, decide_false, cond_false, Option.bind_some, endO_inl]
    have := eq_scan a b (fun i => R36_Ints_S.L0 a b (i : Int)) hl (next := some true) (step := R36_Ints_step) (fun i x y hi hx hy => ?_) ?_
    · refine this.trans ?_
      cases decide (a = b) <;> rfl
    · show R36_Ints_L0 _ _ _ = _
      unfold R36_Ints_L0
      rw [decide_eq_true (show (i : Int) < (a.length : Int) by omega), idx_at hx, idx_at hy]
      simp only [cond_true, Option.bind_some, bne, int_beq, not_cond, wrap_succ hi ha]
      cases decide (x = y) <;> rfl
    · refine runO_inr ?_
      show R36_Ints_L0 _ _ _ = _
      unfold R36_Ints_L0
      rw [decide_eq_false (show ¬ (a.length : Int) < (a.length : Int) by omega)]
      rfl
  · rw [len_dec hl]
    simp only [hl, ne_eq, not_false_eq_true, decide_true, cond_true]
    rfl
theorem bif_and (p q : Prop) [Decidable p] [Decidable q] : (bif decide p then some (decide q) else some false) = some (decide (p ∧ q)) := by
  by_cases hp : p <;> by_cases hq : q <;> simp [hp, hq]
theorem bif_andr {S : Type} (p q : Prop) [Decidable p] [Decidable q] : (bif decide p then some (Sum.inr (decide q)) else some (Sum.inr false) : Option (S ⊕ Bool)) = some (Sum.inr (decide (p ∧ q))) := by
  by_cases hp : p <;> by_cases hq : q <;> simp [hp, hq]
theorem SameChoice_eq (x y : api_Choice) (hx : small x) : R36_SameChoice x y = some (decide (x = y)) := by
  have hl0 := small_le hx
  unfold R36_SameChoice R36_SameChoice_0
  rw [int_len_ne]
  by_cases hl : x.Options.length = y.Options.length
  · simp only [hl, ne_eq, not_true, decide_false, cond_false, Option.bind_some, endO_inl]
    have := eq_scan x.Options y.Options (fun i => R36_SameChoice_S.L0 x y (i : Int)) hl (next := some (decide (x.Kind = y.Kind ∧ x.Player = y.Player ∧ x.Source = y.Source ∧ x.Least = y.Least ∧ x.Most = y.Most ∧ x.N = y.N))) (step := R36_SameChoice_step) (fun i u v hi hu hv => ?_) ?_
    · refine this.trans ?_
      rw [bif_and]
      congr 1
      rw [decide_eq_decide]
      obtain ⟨a0, a1, a2, a3, a4, a5, a6⟩ := x
      obtain ⟨b0, b1, b2, b3, b4, b5, b6⟩ := y
      simp only [api_Choice.mk.injEq]
      constructor
      · rintro ⟨e6, e0, e1, e2, e3, e4, e5⟩; exact ⟨e0, e1, e2, e3, e4, e5, e6⟩
      · rintro ⟨e0, e1, e2, e3, e4, e5, e6⟩; exact ⟨e6, e0, e1, e2, e3, e4, e5⟩
    · show R36_SameChoice_L0 _ _ _ = _
      unfold R36_SameChoice_L0
      rw [decide_eq_true (show (i : Int) < (x.Options.length : Int) by omega), idx_at hu, idx_at hv]
      simp only [cond_true, Option.bind_some, eq_api_Option, not_cond, wrap_succ hi (by omega)]
      cases decide (u = v) <;> rfl
    · refine runO_inr ?_
      show R36_SameChoice_L0 _ _ _ = _
      unfold R36_SameChoice_L0
      rw [decide_eq_false (show ¬ (x.Options.length : Int) < (x.Options.length : Int) by omega)]
      simp only [cond_false, int_beq, bif_andr]
  · have hne : ¬ x = y := fun e => hl (by rw [e])
    rw [decide_eq_false hne]
    simp only [hl, ne_eq, not_false_eq_true, decide_true, cond_true]
    rfl
theorem light_some (cs : List api_Choice) (as : List (List Int)) (h1 : cs.length ≤ 4611686018427387904) (h2 : as.length ≤ 4611686018427387904) : ∃ b, L36_light cs as = some b := by
  unfold L36_light L36_light_0
  rw [Option.bind_some, endO_inl]
  let f : Nat → Int := fun i => Nat.rec 0 (fun j s => IntKind.wrap .i64 (s + (match cs[j]? with | some c => (c.Options.length : Int) | none => 0))) i
  have r := carry (step := L36_light_step) (st := fun i (v : Int) => L36_light_S.L0 cs as v cs (cs.length : Int) (i : Int)) cs.length f (fun i hi => by
    show L36_light_L0 _ _ _ _ _ _ = _
    unfold L36_light_L0
    have hx := List.getElem?_eq_getElem hi
    rw [decide_eq_true (show (i : Int) < (cs.length : Int) by omega), idx_at hx]
    have e : f (i + 1) = IntKind.wrap .i64 (f i + (cs[i].Options.length : Int)) := by simp only [f, hx]
    simp only [cond_true, Option.bind_some, wrap_succ hi h1, e])
  rw [show L36_light_S.L0 cs as 0 cs (cs.length : Int) 0 = L36_light_S.L0 cs as (f 0) cs (cs.length : Int) ((0 : Nat) : Int) from rfl, r]
  have e1 : L36_light_step (.L0 cs as (f cs.length) cs (cs.length : Int) (cs.length : Int)) = some (.inl (.L1 cs as (f cs.length) as (as.length : Int) 0)) := by
    show L36_light_L0 _ _ _ _ _ _ = _
    unfold L36_light_L0
    rw [decide_eq_false (show ¬ (cs.length : Int) < (cs.length : Int) by omega)]; rfl
  rw [runO_inl e1]
  let g : Nat → Int := fun i => Nat.rec (f cs.length) (fun j s => IntKind.wrap .i64 (s + (match as[j]? with | some c => (c.length : Int) | none => 0))) i
  have r2 := carry (step := L36_light_step) (st := fun i (v : Int) => L36_light_S.L1 cs as v as (as.length : Int) (i : Int)) as.length g (fun i hi => by
    show L36_light_L1 _ _ _ _ _ _ = _
    unfold L36_light_L1
    have hx := List.getElem?_eq_getElem hi
    rw [decide_eq_true (show (i : Int) < (as.length : Int) by omega), idx_at hx]
    have e : g (i + 1) = IntKind.wrap .i64 (g i + (as[i].length : Int)) := by simp only [g, hx]
    simp only [cond_true, Option.bind_some, wrap_succ hi h2, e])
  rw [show L36_light_S.L1 cs as (f cs.length) as (as.length : Int) 0 = L36_light_S.L1 cs as (g 0) as (as.length : Int) ((0 : Nat) : Int) from rfl, r2]
  have e2 : ∃ b, L36_light_step (.L1 cs as (g as.length) as (as.length : Int) (as.length : Int)) = some (.inr b) := by
    show ∃ b, L36_light_L1 _ _ _ _ _ _ = _
    unfold L36_light_L1
    rw [decide_eq_false (show ¬ (as.length : Int) < (as.length : Int) by omega)]
    by_cases c1 : (cs.length : Int) ≤ 50 <;> by_cases c2 : (as.length : Int) ≤ 50 <;> simp [c1, c2]
  obtain ⟨b, hb⟩ := e2
  exact ⟨b, runO_inr hb⟩
def zeroC : api_Choice := ⟨0, 0, 0, 0, 0, 0, []⟩
def okAs (as : List (List Int)) : Prop := as.length * 24 ≤ reachBytes ∧ ∀ a ∈ as, a.length * 8 ≤ reachBytes
theorem copied_eq (a : List Int) (h : a.length * 8 ≤ reachBytes) : ask_copied_int_ a = some a := by
  unfold ask_copied_int_ ask_copied_int__0
  rw [app_nil_ok h (by decide)]; rfl
theorem ref_copied_eq (a : List Int) (h : a.length * 8 ≤ reachBytes) : R36_copied a = some a := by
  unfold R36_copied R36_copied_0
  rw [app_nil_ok h (by decide)]; rfl
theorem copiedO_eq (c : api_Choice) (h : small c) : ask_copied_api_Option_ c.Options = some c.Options := by
  unfold ask_copied_api_Option_ ask_copied_api_Option__0
  rw [app_nil_ok h (by decide)]; rfl
theorem ref_Copy_eq (c : api_Choice) (h : small c) : R36_Copy c = some c := by
  unfold R36_Copy R36_Copy_0
  rw [app_nil_ok h (by decide)]; rfl
theorem take_app {α : Type} {b : List α} {i k : Nat} {x : α} (h : b[i]? = some x) (hb : b.length * k ≤ reachBytes) (hk : 0 < k) : app? k (b.take i) [x] = some (b.take (i + 1)) := by
  obtain ⟨hi, he⟩ := List.getElem?_eq_some_iff.1 h
  have hl : (b.take i).length = i := by simp; omega
  rw [app_ok (by
    rw [hl]
    have : (i + 1) * k ≤ b.length * k := Nat.mul_le_mul_right _ (by omega)
    have hr : reachBytes = 140737488351232 := rfl
    rw [hr] at hb
    simp only [List.length_cons, List.length_nil, Nat.zero_add]
    omega) hk]
  congr 1
  rw [List.take_add_one, h]; rfl
theorem New_eq (as : List (List Int)) (h : okAs as) : ask_New as = some ⟨as, 0, zeroC, false, false⟩ := by
  unfold ask_New ask_New_0
  rw [Option.bind_some, endO_inl]
  have hl := len_le h.1 (by decide)
  have r := carry (step := ask_New_step) (st := fun i (v : List (List Int)) => ask_New_S.L0 ⟨v, 0, zeroC, false, false⟩ as (as.length : Int) (i : Int)) as.length (fun i => as.take i) (fun i hi => by
    show ask_New_L0 _ _ _ _ = _
    unfold ask_New_L0
    have hx := List.getElem?_eq_getElem hi
    rw [decide_eq_true (show (i : Int) < (as.length : Int) by omega), idx_at hx]
    simp only [cond_true, Option.bind_some, copied_eq _ (h.2 _ (List.getElem_mem hi)), take_app hx h.1 (show 0 < 24 by decide), wrap_succ hi (by omega)])
  refine r.trans (runO_inr ?_)
  show ask_New_L0 _ _ _ _ = _
  unfold ask_New_L0
  rw [decide_eq_false (show ¬ (as.length : Int) < (as.length : Int) by omega), List.take_length]
  rfl
theorem ref_New_eq (as : List (List Int)) (h : okAs as) : R36_New as = some ⟨as, zeroC, false, false, 0⟩ := by
  unfold R36_New R36_New_0
  rw [Option.bind_some, endO_inl]
  have hl := len_le h.1 (by decide)
  have r := carry (step := R36_New_step) (st := fun i (v : List (List Int)) => R36_New_S.L0 as ⟨v, zeroC, false, false, 0⟩ (i : Int)) as.length (fun i => as.take i) (fun i hi => by
    show R36_New_L0 _ _ _ = _
    unfold R36_New_L0
    have hx := List.getElem?_eq_getElem hi
    rw [decide_eq_true (show (i : Int) < (as.length : Int) by omega), idx_at hx]
    simp only [cond_true, Option.bind_some, ref_copied_eq _ (h.2 _ (List.getElem_mem hi)), take_app hx h.1 (show 0 < 24 by decide), wrap_succ hi (by omega)])
  refine r.trans (runO_inr ?_)
  show R36_New_L0 _ _ _ = _
  unfold R36_New_L0
  rw [decide_eq_false (show ¬ (as.length : Int) < (as.length : Int) by omega), List.take_length]
  rfl

/-! ### Pick -/
def pickP (as : List (List Int)) (u : Nat) (p : api_Choice) (wt bad : Bool) (c : api_Choice) : List Int × Nat × api_Choice × Bool × Bool :=
  bif wt || (bad || forcedV c) then (defV c, u, p, wt, bad)
  else match as[u]? with
    | none => (defV c, u, c, true, bad)
    | some a => bif validV c a then (a, u + 1, p, wt, bad) else (defV c, u + 1, p, wt, true)
def mkA (as : List (List Int)) (s : Nat × api_Choice × Bool × Bool) : ask_Asker := ⟨as, s.1, s.2.1, s.2.2.1, s.2.2.2⟩
def mkR (as : List (List Int)) (s : Nat × api_Choice × Bool × Bool) : cardgameref36_Asker := ⟨as, s.2.1, s.2.2.1, s.2.2.2, s.1⟩
theorem Pick_eq (as : List (List Int)) (u : Nat) (p : api_Choice) (wt bad : Bool) (c : api_Choice) (ha : okAs as) (hu : u ≤ as.length) (hc : small c) :
    __ask_Asker__Pick__box (mkA as (u, p, wt, bad)) c = some ((pickP as u p wt bad c).1, mkA as (pickP as u p wt bad c).2) := by
  have hl := len_le ha.1 (by decide)
  unfold __ask_Asker__Pick__box __ask_Asker__Pick__box_0 mkA pickP
  simp only [Default_eq c hc, Forced_eq, Valid_eq, copiedO_eq c hc, Option.bind_some]
  cases wt
  case true => rfl
  cases bad
  case true => rfl
  cases hf : forcedV c
  case true => rfl
  simp only [cond_false, Bool.or_false]
  rcases Nat.lt_or_ge u as.length with hlt | hge
  · have hx := List.getElem?_eq_getElem hlt
    have hne : ((u : Int) == (as.length : Int)) = false := beq_eq_false_iff_ne.2 (by omega)
    simp only [hne, cond_false, idx_at hx, hx, Option.bind_some, copied_eq _ (ha.2 _ (List.getElem_mem hlt)), wrap_succ hlt (show as.length ≤ 4611686018427387904 by omega)]
    cases validV c as[u] <;> rfl
  · have : u = as.length := by omega
    subst this
    rw [List.getElem?_eq_none (Nat.le_refl _), beq_self_eq_true]
    have e : ask_Default (⟨c.Kind, c.Player, c.Source, c.Least, c.Most, c.N, c.Options⟩ : api_Choice) = some (defV c) := Default_eq c hc
    simp only [cond_true, e]
    rfl
theorem ref_Pick_eq (as : List (List Int)) (u : Nat) (p : api_Choice) (wt bad : Bool) (c : api_Choice) (ha : okAs as) (hu : u ≤ as.length) (hc : small c) :
    __R36_Asker__Pick__box (mkR as (u, p, wt, bad)) c = some ((pickP as u p wt bad c).1, mkR as (pickP as u p wt bad c).2) := by
  have hl := len_le ha.1 (by decide)
  unfold __R36_Asker__Pick__box __R36_Asker__Pick__box_0 mkR pickP
  simp only [ref_Default_eq c hc, ref_Forced_eq, ref_Valid_eq, ref_Copy_eq c hc, Option.bind_some]
  cases hf : forcedV c
  case true => cases wt <;> cases bad <;> rfl
  cases wt
  case true => rfl
  cases bad
  case true => rfl
  simp only [cond_false, Bool.or_false]
  rcases Nat.lt_or_ge u as.length with hlt | hge
  · have hx := List.getElem?_eq_getElem hlt
    rw [decide_eq_false (show ¬ (u : Int) ≥ (as.length : Int) by omega)]
    simp only [cond_false, idx_at hx, hx, Option.bind_some, ref_copied_eq _ (ha.2 _ (List.getElem_mem hlt)), wrap_succ hlt (show as.length ≤ 4611686018427387904 by omega)]
    cases validV c as[u] <;> rfl
  · rw [decide_eq_true (show (u : Int) ≥ (as.length : Int) by omega), List.getElem?_eq_none hge]
    rfl
theorem pickP_facts (as : List (List Int)) (u : Nat) (p : api_Choice) (wt bad : Bool) (c : api_Choice) (ha : okAs as) (hu : u ≤ as.length) (hc : small c) (hp : small p) (hn : (wt && bad) = false) :
    let r := pickP as u p wt bad c
    r.1.length ≤ 4611686018427387904 ∧ u ≤ r.2.1 ∧ r.2.1 ≤ u + 1 ∧ r.2.1 ≤ as.length ∧ small r.2.2.1 ∧ (r.2.2.2.1 && r.2.2.2.2) = false ∧ ((wt || bad) = true → r.2.1 = u ∧ r.1 = defV c) := by
  have hd := defV_len c hc
  simp only [pickP]
  cases wt
  case true => simp at hn; subst hn; exact ⟨by simpa using (by omega : (defV c).length ≤ 4611686018427387904), by simp, by simp, hu, hp, rfl, fun _ => ⟨rfl, rfl⟩⟩
  cases bad
  case true => exact ⟨by simpa using (by omega : (defV c).length ≤ 4611686018427387904), by simp, by simp, hu, hp, rfl, fun _ => ⟨rfl, rfl⟩⟩
  cases hf : forcedV c
  case true => exact ⟨by simpa using (by omega : (defV c).length ≤ 4611686018427387904), by simp, by simp, hu, hp, rfl, fun h => by cases h⟩
  simp only [Bool.or_false, cond_false]
  rcases Nat.lt_or_ge u as.length with hlt | hge
  · have hx := List.getElem?_eq_getElem hlt
    have h8 := len_le (ha.2 _ (List.getElem_mem hlt)) (show 0 < 8 by decide)
    simp only [hx]
    cases validV c as[u]
    · exact ⟨by simpa using (by omega : (defV c).length ≤ 4611686018427387904), by simp, by simp, hlt, hp, rfl, fun h => by cases h⟩
    · exact ⟨by simpa using (by omega : as[u].length ≤ 4611686018427387904), by simp, by simp, hlt, hp, rfl, fun h => by cases h⟩
  · rw [List.getElem?_eq_none hge]
    exact ⟨by simpa using (by omega : (defV c).length ≤ 4611686018427387904), by simp, by simp, hu, hc, rfl, fun h => by cases h⟩
end Go.PW
