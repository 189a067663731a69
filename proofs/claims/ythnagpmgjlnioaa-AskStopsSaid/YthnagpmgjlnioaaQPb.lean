import Derived.Test.YthnagpmgjlnioaaQP
namespace Go.PW

/-! ### distinct, apart -/
def optA (c : api_Choice) (x : Int) : Int := match idx? c.Options x with | some o => o.A | none => 0
theorem optA_at (c : api_Choice) (x : Int) (h0 : 0 ≤ x) (h1 : x < (c.Options.length : Int)) : ∃ o, idx? c.Options x = some o ∧ o.A = optA c x := by
  unfold optA idx?
  rw [if_pos h0]
  have : x.toNat < c.Options.length := by omega
  rw [List.getElem?_eq_getElem this]
  exact ⟨_, rfl, rfl⟩
def InR (c : api_Choice) (a : List Int) : Prop := ∀ x ∈ a, 0 ≤ x ∧ x < (c.Options.length : Int)
theorem idxs_InR {c : api_Choice} {a : List Int} (h : idxs a (c.Options.length : Int) = true) : InR c a := by
  intro x hx
  obtain ⟨i, hi⟩ := List.getElem?_of_mem hx
  have := List.all_eq_true.1 h i (List.mem_range.2 (List.getElem?_eq_some_iff.1 hi).1)
  simp only [okI, hi, Bool.and_eq_true, decide_eq_true_eq] at this
  exact ⟨this.1, this.2.1⟩
def okD (l : List Int) (i : Nat) : Bool := match l[i]? with
  | some x => decide (x ∉ l.take i)
  | none => true
def dist (l : List Int) : Bool := (List.range l.length).all (okD l)
theorem distinct_eq (c : api_Choice) (a : List Int) (ha : a.length ≤ 100000) (hr : InR c a) : ask_distinct c a = some (dist (a.map (optA c))) := by
  unfold ask_distinct ask_distinct_0
  rw [Option.bind_some, endO_inl]
  have r := scan (step := ask_distinct_step) (st := fun i => ask_distinct_S.L0 c ((a.map (optA c)).take i) a (a.length : Int) (i : Int)) (bad := false) a.length (okD (a.map (optA c))) (fun i hi => by
    show ask_distinct_L0 _ _ _ _ _ = _
    unfold ask_distinct_L0
    have hx := List.getElem?_eq_getElem hi
    obtain ⟨h0, h1⟩ := hr a[i] (List.getElem_mem hi)
    obtain ⟨o, ho, hA⟩ := optA_at c a[i] h0 h1
    have hm : (a.map (optA c))[i]? = some (optA c a[i]) := by rw [List.getElem?_map, hx]; rfl
    have hl : ((a.map (optA c)).take i).length = i := by simp; omega
    rw [decide_eq_true (show (i : Int) < (a.length : Int) by omega), idx_at hx]
    have happ : app? 8 ((a.map (optA c)).take i) [o.A] = some ((a.map (optA c)).take (i + 1)) := by
      rw [app_ok (by rw [hl]; simp only [List.length_cons, List.length_nil, Nat.zero_add]; omega) (by decide), List.take_add_one, hm, hA]; rfl
    rw [hA] at happ
    simp only [cond_true, Option.bind_some, ho, hA, Has_eq _ (optA c a[i]) (show ((a.map (optA c)).take i).length ≤ 4611686018427387904 by rw [hl]; omega), happ, wrap_succ hi (show a.length ≤ 4611686018427387904 by omega), okD, hm]
    by_cases h : optA c a[i] ∈ (a.map (optA c)).take i
    · rw [decide_eq_true h, decide_eq_false (fun h' : optA c a[i] ∉ (a.map (optA c)).take i => h' h)]; rfl
    · rw [decide_eq_false h, decide_eq_true h]; rfl)
  refine r.trans ?_
  have e : runO ask_distinct_step (.L0 c ((a.map (optA c)).take a.length) a (a.length : Int) (a.length : Int)) = some true := by
    refine runO_inr ?_
    show ask_distinct_L0 _ _ _ _ _ = _
    unfold ask_distinct_L0
    rw [decide_eq_false (show ¬ (a.length : Int) < (a.length : Int) by omega)]
    rfl
  rw [e, bif_some, Bool.and_true]
  unfold dist
  rw [List.length_map]
theorem apart_eq (c : api_Choice) (a : List Int) (ha : a.length ≤ 100000) (hr : InR c a) : R36_apart c a = some (dist (a.map (optA c))) := by
  unfold R36_apart R36_apart_0
  rw [Option.bind_some, endO_inl]
  have r := scanR (step := R36_apart_step) (st := fun i => R36_apart_S.L0 a c (i : Int)) (bad := false) a.length (okD (a.map (optA c))) (fun i hi => by
    have hx := List.getElem?_eq_getElem hi
    obtain ⟨h0, h1⟩ := hr a[i] (List.getElem_mem hi)
    obtain ⟨o, ho, hA⟩ := optA_at c a[i] h0 h1
    have hm : (a.map (optA c))[i]? = some (optA c a[i]) := by rw [List.getElem?_map, hx]; rfl
    have inner := scan (step := R36_apart_step) (st := fun k => R36_apart_S.L1 a c (i : Int) (k : Int)) (bad := false) i (fun k => !decide ((a.map (optA c))[k]? = some (optA c a[i]))) (fun k hk => by
      show R36_apart_L1 _ _ _ _ = _
      unfold R36_apart_L1
      have hk' : k < a.length := by omega
      have hy := List.getElem?_eq_getElem hk'
      obtain ⟨g0, g1⟩ := hr a[k] (List.getElem_mem hk')
      obtain ⟨u, hu, hB⟩ := optA_at c a[k] g0 g1
      rw [decide_eq_true (show (k : Int) < (i : Int) by omega), idx_at hy, idx_at hx]
      simp only [cond_true, Option.bind_some, hu, ho, wrap_succ hk (show i ≤ 4611686018427387904 by omega), List.getElem?_map, hy, Option.map_some, Option.some.injEq, int_beq, hA, hB]
      cases decide (optA c a[k] = optA c a[i]) <;> rfl)
    rw [mem_take_all (a.map (optA c)) i (optA c a[i]) (by simp; omega)] at inner
    have e1 : runO R36_apart_step (.L1 a c (i : Int) (i : Int)) = runO R36_apart_step (.L0 a c ((i + 1 : Nat) : Int)) := by
      refine runO_inl ?_
      show R36_apart_L1 _ _ _ _ = _
      unfold R36_apart_L1
      rw [decide_eq_false (show ¬ (i : Int) < (i : Int) by omega)]
      simp only [cond_false, wrap_succ hi (by omega)]
    rw [e1] at inner
    have e2 : R36_apart_step (.L0 a c (i : Int)) = some (.inl (.L1 a c (i : Int) 0)) := by
      show R36_apart_L0 _ _ _ = _
      unfold R36_apart_L0
      rw [decide_eq_true (show (i : Int) < (a.length : Int) by omega)]; rfl
    rw [runO_inl e2]
    simp only [okD, hm]
    exact inner)
  refine r.trans ?_
  have e : runO R36_apart_step (.L0 a c (a.length : Int)) = some true := by
    refine runO_inr ?_
    show R36_apart_L0 _ _ _ = _
    unfold R36_apart_L0
    rw [decide_eq_false (show ¬ (a.length : Int) < (a.length : Int) by omega)]
    rfl
  rw [e, bif_some, Bool.and_true]
  unfold dist
  rw [List.length_map]

/-! ### assigned -/
def sumW (a : List Int) : Nat → Int
  | 0 => 0
  | i + 1 => IntKind.wrap .i64 (sumW a i + (match a[i]? with | some x => x | none => 0))
def okN (a : List Int) (i : Nat) : Bool := match a[i]? with
  | some x => decide (0 ≤ x) && decide (x ≤ 1000000)
  | none => true
def asg (c : api_Choice) (a : List Int) : Bool := (List.range a.length).all (okN a) && (decide (a.length = c.Options.length) && decide (sumW a a.length = c.N))
theorem len_beq {α β : Type} (a : List α) (b : List β) : ((a.length : Int) == (b.length : Int)) = decide (a.length = b.length) := by
  by_cases h : a.length = b.length
  · rw [decide_eq_true h, h]; exact beq_self_eq_true _
  · rw [decide_eq_false h]; exact beq_eq_false_iff_ne.2 (by omega)
theorem assigned_eq (c : api_Choice) (a : List Int) (ha : a.length ≤ 100000) : ask_assigned c a = some (asg c a) := by
  unfold ask_assigned ask_assigned_0
  rw [Option.bind_some, endO_inl]
  have r := scan (step := ask_assigned_step) (st := fun i => ask_assigned_S.L0 a c (sumW a i) a (a.length : Int) (i : Int)) (bad := false) a.length (okN a) (fun i hi => by
    show ask_assigned_L0 _ _ _ _ _ _ = _
    unfold ask_assigned_L0
    have hx := List.getElem?_eq_getElem hi
    rw [decide_eq_true (show (i : Int) < (a.length : Int) by omega), idx_at hx]
    simp only [cond_true, Option.bind_some, wrap_succ hi (by omega), okN, hx, sumW]
    by_cases h0 : a[i] < 0
    · have : ¬ 0 ≤ a[i] := by omega
      simp [h0, this]
    · have h0' : 0 ≤ a[i] := by omega
      by_cases h1 : a[i] > 1000000
      · have : ¬ a[i] ≤ 1000000 := by omega
        simp [h0, h1, this]
      · have h1' : a[i] ≤ 1000000 := by omega
        simp [h0, h1, h0', h1'])
  refine r.trans ?_
  have e : runO ask_assigned_step (.L0 a c (sumW a a.length) a (a.length : Int) (a.length : Int)) = some (decide (a.length = c.Options.length) && decide (sumW a a.length = c.N)) := by
    refine runO_inr ?_
    show ask_assigned_L0 _ _ _ _ _ _ = _
    unfold ask_assigned_L0
    rw [decide_eq_false (show ¬ (a.length : Int) < (a.length : Int) by omega), len_beq]
    simp only [cond_false, int_beq]
    cases decide (a.length = c.Options.length) <;> rfl
  rw [e, bif_some]; rfl
theorem ref_assigned_run (c : api_Choice) (a : List Int) (ha : a.length ≤ 100000) : runO R36_Valid_step (.L0 a c (c.Options.length : Int) 0 0) = some (asg c a) := by
  have r := scan (step := R36_Valid_step) (st := fun i => R36_Valid_S.L0 a c (c.Options.length : Int) (sumW a i) (i : Int)) (bad := false) a.length (okN a) (fun i hi => by
    show R36_Valid_L0 _ _ _ _ _ = _
    unfold R36_Valid_L0
    have hx := List.getElem?_eq_getElem hi
    rw [decide_eq_true (show (i : Int) < (a.length : Int) by omega), idx_at hx]
    simp only [cond_true, Option.bind_some, wrap_succ hi (by omega), okN, hx, sumW]
    by_cases h0 : a[i] < 0
    · have : ¬ 0 ≤ a[i] := by omega
      simp [h0, this]
    · have h0' : 0 ≤ a[i] := by omega
      by_cases h1 : a[i] > 1000000
      · have : ¬ a[i] ≤ 1000000 := by omega
        simp [h0, h1, this]
      · have h1' : a[i] ≤ 1000000 := by omega
        simp [h0, h1, h0', h1'])
  refine r.trans ?_
  have e : runO R36_Valid_step (.L0 a c (c.Options.length : Int) (sumW a a.length) (a.length : Int)) = some (decide (a.length = c.Options.length) && decide (sumW a a.length = c.N)) := by
    refine runO_inr ?_
    show R36_Valid_L0 _ _ _ _ _ = _
    unfold R36_Valid_L0
    rw [decide_eq_false (show ¬ (a.length : Int) < (a.length : Int) by omega), len_beq]
    simp only [cond_false, int_beq]
    cases decide (a.length = c.Options.length) <;> rfl
  rw [e, bif_some]; rfl

/-! ### Valid -/
theorem kinds (k : Int) : k = 1 ∨ k = 2 ∨ k = 3 ∨ k = 4 ∨ k = 5 ∨ k = 6 ∨ k = 7 ∨ k = 8 ∨ k = 9 ∨ k = 10 ∨ k = 11 ∨ ((k == 1) = false ∧ (k == 2) = false ∧ (k == 3) = false ∧ (k == 4) = false ∧ (k == 5) = false ∧ (k == 6) = false ∧ (k == 7) = false ∧ (k == 8) = false ∧ (k == 9) = false ∧ (k == 10) = false ∧ (k == 11) = false) := by
  by_cases h : 1 ≤ k ∧ k ≤ 11
  · omega
  · have f : ∀ j : Int, 1 ≤ j → j ≤ 11 → (k == j) = false := fun j h1 h2 => beq_eq_false_iff_ne.2 (by omega)
    have := And.intro (f 1 (by omega) (by omega)) (And.intro (f 2 (by omega) (by omega)) (And.intro (f 3 (by omega) (by omega)) (And.intro (f 4 (by omega) (by omega)) (And.intro (f 5 (by omega) (by omega)) (And.intro (f 6 (by omega) (by omega)) (And.intro (f 7 (by omega) (by omega)) (And.intro (f 8 (by omega) (by omega)) (And.intro (f 9 (by omega) (by omega)) (And.intro (f 10 (by omega) (by omega)) (f 11 (by omega) (by omega)))))))))))
    simp only [this, and_self, or_true]
def single (k : Int) : Bool := k == 1 || k == 2 || k == 9 || k == 10 || k == 11
theorem single_eq (k : Int) : R36_single k = some (single k) := by
  unfold R36_single R36_single_0 single
  cases k == 1 <;> cases k == 2 <;> cases k == 9 <;> cases k == 10 <;> rfl
def validV (c : api_Choice) (a : List Int) : Bool :=
  decide (a.length ≤ 256) && bif single c.Kind then decide (a.length = 1) && idxs a c.Options.length
  else bif c.Kind == 3 then decide (c.Least ≤ a.length) && (decide ((a.length : Int) ≤ c.Most) && idxs a c.Options.length)
  else bif c.Kind == 4 then decide (a.length = c.Options.length) && idxs a c.Options.length
  else bif c.Kind == 5 then decide (a.length = 1) && (match a[0]? with | some x => decide (c.Least ≤ x) && decide (x ≤ c.Most) | none => false)
  else bif c.Kind == 6 || c.Kind == 7 then idxs a c.Options.length && dist (a.map (optA c))
  else bif c.Kind == 8 then asg c a
  else false
theorem one_beq (a : List Int) : ((a.length : Int) == 1) = decide (a.length = 1) := by
  by_cases h : a.length = 1
  · rw [decide_eq_true h, h]; rfl
  · rw [decide_eq_false h]; exact beq_eq_false_iff_ne.2 (by omega)
theorem dist_step {β : Type} (c : api_Choice) (a : List Int) (ha : a.length ≤ 256) (f : api_Choice → List Int → Option Bool) (hf : InR c a → f c a = some (dist (a.map (optA c)))) (k : Bool → Option β) (z : Option β) :
    (bif idxs a (c.Options.length : Int) then Option.bind (f c a) k else z) = bif idxs a (c.Options.length : Int) then k (dist (a.map (optA c))) else z := by
  cases h : idxs a (c.Options.length : Int) with
  | false => rfl
  | true => simp only [cond_true]; rw [hf (idxs_InR h)]; rfl
theorem idx0 (a : List Int) (h : a.length = 1) : ∃ x, a = [x] ∧ idx? a 0 = some x := by
  match a, h with
  | [x], _ => exact ⟨x, rfl, rfl⟩
theorem Valid_eq (c : api_Choice) (a : List Int) : ask_Valid c a = some (validV c a) := by
  unfold ask_Valid ask_Valid_0 validV
  by_cases hl : (a.length : Int) > 256
  · have : ¬ a.length ≤ 256 := by omega
    simp [hl, this, endO_inr]
  · have h2 : a.length ≤ 256 := by omega
    have hi := indexes_eq c a (by omega)
    have hs := assigned_eq c a (by omega)
    have hd : InR c a → ask_distinct c a = some (dist (a.map (optA c))) := distinct_eq c a (by omega)
    simp only [decide_eq_false hl, decide_eq_true h2, cond_false, Bool.true_and, hi, hs, Option.bind_some, one_beq, len_beq, dist_step c a h2 ask_distinct hd]
    obtain ⟨k, p, so, le, mo, n, os⟩ := c
    simp only
    rcases kinds k with rfl | rfl | rfl | rfl | rfl | rfl | rfl | rfl | rfl | rfl | rfl | ⟨e1, e2, e3, e4, e5, e6, e7, e8, e9, e10, e11⟩
    case inr.inr.inr.inr.inl =>
      by_cases h1 : a.length = 1
      · obtain ⟨x, rfl, hx⟩ := idx0 a h1
        by_cases hle : le ≤ x <;> simp [single, endO_inr, hx, hle]
      · simp [single, endO_inr, h1]
    case inr.inr.inr.inr.inr.inr.inr.inr.inr.inr.inr => simp [single, endO_inr, e1, e2, e3, e4, e5, e6, e7, e8, e9, e10, e11]
    case inr.inr.inl => by_cases hle : le ≤ (a.length : Int) <;> by_cases hmo : (a.length : Int) ≤ mo <;> simp [single, endO_inr, hle, hmo]
    case inr.inr.inr.inl => by_cases h1 : a.length = os.length <;> simp [single, endO_inr, h1]
    case inr.inr.inr.inr.inr.inl => cases h1 : idxs a (os.length : Int) <;> simp [single, endO_inr, h1]
    case inr.inr.inr.inr.inr.inr.inl => cases h1 : idxs a (os.length : Int) <;> simp [single, endO_inr, h1]
    case inr.inr.inr.inr.inr.inr.inr.inl => simp [single, endO_inr]
    all_goals by_cases h1 : a.length = 1 <;> simp [single, endO_inr, h1]
theorem ref_Valid_eq (c : api_Choice) (a : List Int) : R36_Valid c a = some (validV c a) := by
  unfold R36_Valid R36_Valid_0 validV
  by_cases hl : (a.length : Int) > 256
  · have : ¬ a.length ≤ 256 := by omega
    simp [hl, this, endO_inr]
  · have h2 : a.length ≤ 256 := by omega
    have hi := ref_indexes_eq a (c.Options.length : Int) (by omega)
    have hs := ref_assigned_run c a (by omega)
    have hd : InR c a → R36_apart c a = some (dist (a.map (optA c))) := apart_eq c a (by omega)
    simp only [decide_eq_false hl, decide_eq_true h2, cond_false, Bool.true_and, hi, single_eq, Option.bind_some, one_beq, len_beq, dist_step c a h2 R36_apart hd, bif_bind, endO_inl, endO_inr, hs]
    obtain ⟨k, p, so, le, mo, n, os⟩ := c
    simp only
    rcases kinds k with rfl | rfl | rfl | rfl | rfl | rfl | rfl | rfl | rfl | rfl | rfl | ⟨e1, e2, e3, e4, e5, e6, e7, e8, e9, e10, e11⟩
    case inr.inr.inr.inr.inl =>
      by_cases h1 : a.length = 1
      · obtain ⟨x, rfl, hx⟩ := idx0 a h1
        by_cases hle : le ≤ x <;> simp [single, hx, hle, endO_inr]
      · simp [single, h1]
    case inr.inr.inr.inr.inr.inr.inr.inr.inr.inr.inr => simp [single, e1, e2, e3, e4, e5, e6, e7, e8, e9, e10, e11]
    case inr.inr.inl => by_cases hle : le ≤ (a.length : Int) <;> by_cases hmo : (a.length : Int) ≤ mo <;> cases h1 : idxs a (os.length : Int) <;> simp [single, hle, hmo, h1]
    case inr.inr.inr.inl => by_cases h1 : a.length = os.length <;> cases h3 : idxs a (os.length : Int) <;> simp [single, h1, h3]
    case inr.inr.inr.inr.inr.inl => cases h1 : idxs a (os.length : Int) <;> simp [single, h1]
    case inr.inr.inr.inr.inr.inr.inl => cases h1 : idxs a (os.length : Int) <;> simp [single, h1]
    case inr.inr.inr.inr.inr.inr.inr.inl => simp [single]
    all_goals by_cases h1 : a.length = 1 <;> simp [single, h1]
end Go.PW
