import Derived.Test.YteckdmdhkehfnaaQP
namespace Go.PW

/-! ### Copies -/
theorem Clone_Mod (a : List api_Mod) (h : a.length * 176 ≤ reachBytes) : slices_Clone___api_Mod_api_Mod_ a = some a := by
  unfold slices_Clone___api_Mod_api_Mod_ slices_Clone___api_Mod_api_Mod__0
  rw [app_nil_ok h (by decide)]; rfl
theorem Clone_Spec (a : List api_Spec) (h : a.length * 144 ≤ reachBytes) : slices_Clone___api_Spec_api_Spec_ a = some a := by
  unfold slices_Clone___api_Spec_api_Spec_ slices_Clone___api_Spec_api_Spec__0
  rw [app_nil_ok h (by decide)]; rfl
theorem Clone_Effect (a : List api_Effect) (h : a.length * 560 ≤ reachBytes) : slices_Clone___api_Effect_api_Effect_ a = some a := by
  unfold slices_Clone___api_Effect_api_Effect_ slices_Clone___api_Effect_api_Effect__0
  rw [app_nil_ok h (by decide)]; rfl
theorem Clone_string (a : List (List UInt8)) (h : a.length * 16 ≤ reachBytes) : slices_Clone___string_string_ a = some a := by
  unfold slices_Clone___string_string_ slices_Clone___string_string__0
  rw [app_nil_ok h (by decide)]; rfl
theorem set_same {α : Type} {b : List α} {i : Nat} {x : α} (h : b[i]? = some x) : set? b (i : Int) x = some b := by
  obtain ⟨hi, he⟩ := List.getElem?_eq_some_iff.1 h
  rw [set_ok b i x hi]
  congr 1
  subst he
  exact List.set_getElem_self hi
theorem copyAbility_eq (a : api_Ability) (h : szA a) : base_copyAbility a = some a := by
  unfold base_copyAbility base_copyAbility_0
  rw [Clone_Mod _ h.1, Option.bind_some, Clone_Spec _ h.2.1, Option.bind_some, Clone_Effect _ h.2.2.1, Option.bind_some, Option.bind_some, endO_inl]
  have hl := len_le h.2.2.1 (by decide)
  generalize (⟨0, _, _, _, _, _, _, _, _, _⟩ : api_Ability) = z
  have r := carry (step := base_copyAbility_step) (st := fun i (_ : Unit) => base_copyAbility_S.L0 a z (a.Effects.length : Int) (i : Int)) a.Effects.length (fun _ => ()) (fun i hi => by
    show base_copyAbility_L0 _ _ _ _ = _
    unfold base_copyAbility_L0
    have hx := List.getElem?_eq_getElem hi
    rw [decide_eq_true (show (i : Int) < (a.Effects.length : Int) by omega), idx_at hx]
    simp only [cond_true, Option.bind_some, Clone_Mod _ (h.2.2.2 _ (List.getElem_mem hi)), wrap_succ hi (by omega)]
    rw [show (⟨a.Effects[i].Op, a.Effects[i].Ref, a.Effects[i].Amount, a.Effects[i].Counter, a.Effects[i].Zone, a.Effects[i].Card, a.Effects[i].Filter, a.Effects[i].Pool, a.Effects[i].Mods⟩ : api_Effect) = a.Effects[i] from rfl, set_same hx]
    rfl)
  refine r.trans (runO_inr ?_)
  show base_copyAbility_L0 _ _ _ _ = _
  unfold base_copyAbility_L0
  rw [decide_eq_false (show ¬ (a.Effects.length : Int) < (a.Effects.length : Int) by omega)]
  rfl
theorem take_app {α : Type} {b : List α} {i k : Nat} {x : α} (h : b[i]? = some x) (hb : b.length * k ≤ reachBytes) (hk : 0 < k) : app? k (b.take i) [x] = some (b.take (i + 1)) := by
  obtain ⟨hi, he⟩ := List.getElem?_eq_some_iff.1 h
  have hl : (b.take i).length = i := by simp; omega
  rw [app_ok (by
    rw [hl]
    have : (i + 1) * k ≤ b.length * k := Nat.mul_le_mul_right _ (by omega)
    rw [reach_val] at hb
    simp only [List.length_cons, List.length_nil, Nat.zero_add]
    omega) hk]
  congr 1
  rw [List.take_add_one, h]; rfl
theorem ability_eq (a : api_Ability) (h : szA a) : R28_ability a = some a := by
  unfold R28_ability R28_ability_0
  rw [app_nil_ok h.1 (by decide), Option.bind_some, app_nil_ok h.2.1 (by decide), Option.bind_some, Option.bind_some, endO_inl]
  have hl := len_le h.2.2.1 (by decide)
  generalize (⟨0, _, _, _, _, _, _, _, _, _⟩ : api_Ability) = z
  have r := carry (step := R28_ability_step) (st := fun i (v : api_Ability) => R28_ability_S.L0 a z v (i : Int)) a.Effects.length (fun i => (⟨a.Kind, a.Filter, a.Mods, a.Price, a.Slow, a.Trigger, a.May, a.Specs, a.Effects.take i, a.Replace⟩ : api_Ability)) (fun i hi => by
    show R28_ability_L0 _ _ _ _ = _
    unfold R28_ability_L0
    have hx := List.getElem?_eq_getElem hi
    rw [decide_eq_true (show (i : Int) < (a.Effects.length : Int) by omega), idx_at hx]
    simp only [cond_true, Option.bind_some, app_nil_ok (h.2.2.2 _ (List.getElem_mem hi)) (show 0 < 176 by decide), wrap_succ hi (by omega)]
    rw [show (⟨a.Effects[i].Op, a.Effects[i].Ref, a.Effects[i].Amount, a.Effects[i].Counter, a.Effects[i].Zone, a.Effects[i].Card, a.Effects[i].Filter, a.Effects[i].Pool, a.Effects[i].Mods⟩ : api_Effect) = a.Effects[i] from rfl, take_app hx h.2.2.1 (by decide)]
    rfl)
  refine r.trans (runO_inr ?_)
  show R28_ability_L0 _ _ _ _ = _
  unfold R28_ability_L0
  rw [decide_eq_false (show ¬ (a.Effects.length : Int) < (a.Effects.length : Int) by omega), List.take_length]
  rfl

/-! ### Colours -/
def okC (c : api_Cost) : Bool := decide (0 ≤ c.Generic ∧ c.Generic ≤ 99 ∧ 0 ≤ c.X ∧ c.X ≤ 2) && (A5.list c.Color).all fun n => decide (0 ≤ n ∧ n ≤ 9)
def bit (n : Int) (k : Nat) : Nat := if n > 0 then 2 ^ k else 0
def colV (c : api_Cost) : Nat := if okC c then bit c.Color.a0 0 + bit c.Color.a1 1 + bit c.Color.a2 2 + bit c.Color.a3 3 + bit c.Color.a4 4 else 0
theorem a5_get (x : A5 Int) : (A5.list x)[0]? = some x.a0 ∧ (A5.list x)[1]? = some x.a1 ∧ (A5.list x)[2]? = some x.a2 ∧ (A5.list x)[3]? = some x.a3 ∧ (A5.list x)[4]? = some x.a4 := ⟨rfl, rfl, rfl, rfl, rfl⟩
theorem a5_len (x : A5 Int) : (A5.list x).length = 5 := rfl
def atP {α : Type} (p : α → Bool) : Option α → Bool
  | some x => p x
  | none => true
theorem all_list {α : Type} (l : List α) (p : α → Bool) : (List.range l.length).all (fun i => atP p l[i]?) = l.all p := by
  rw [Bool.eq_iff_iff, List.all_eq_true, List.all_eq_true]
  constructor
  · intro h x hx
    obtain ⟨i, hi⟩ := List.getElem?_of_mem hx
    have := h i (List.mem_range.2 (List.getElem?_eq_some_iff.1 hi).1)
    simpa [hi, atP] using this
  · intro h i hi
    have := List.getElem?_eq_getElem (List.mem_range.1 hi)
    simp only [this, atP]
    exact h _ (List.getElem_mem _)
theorem range_dec {S : Type} {X : Option (S ⊕ Bool)} (n : Int) : (bif decide (n < 0) then some (Sum.inr false) else bif decide (n > 9) then some (Sum.inr false) else X) = (bif decide (0 ≤ n ∧ n ≤ 9) then X else (some (Sum.inr false) : Option (S ⊕ Bool))) := by
  by_cases h0 : n < 0
  · have : ¬ (0 ≤ n ∧ n ≤ 9) := by omega
    simp [h0, this]
  · by_cases h9 : n > 9
    · have : ¬ (0 ≤ n ∧ n ≤ 9) := by omega
      simp [h0, h9, this]
    · have : 0 ≤ n ∧ n ≤ 9 := by omega
      simp [h0, h9, this]
theorem mana_Is_eq (c : api_Cost) : mana_Is c = some (okC c) := by
  unfold mana_Is mana_Is_0
  rw [Option.bind_some, endO_inl]
  have r := scan (step := mana_Is_step) (st := fun i => mana_Is_S.L0 c c.Color (i : Int)) (bad := false) (A5.list c.Color).length (fun i => atP (fun x => decide (0 ≤ x ∧ x ≤ 9)) (A5.list c.Color)[i]?) (fun i hi => by
    have hi5 : i < 5 := hi
    show mana_Is_L0 _ _ _ = _
    unfold mana_Is_L0
    have hx := List.getElem?_eq_getElem hi
    rw [decide_eq_true (show (i : Int) < 5 by omega), idx_at hx, hx]
    simp only [cond_true, Option.bind_some, wrap_succ hi5 (by omega), range_dec, atP]
    cases decide (0 ≤ (A5.list c.Color)[i] ∧ (A5.list c.Color)[i] ≤ 9) <;> rfl)
  refine r.trans ?_
  rw [all_list]
  have e : runO mana_Is_step (.L0 c c.Color 5) = some (decide (0 ≤ c.Generic ∧ c.Generic ≤ 99 ∧ 0 ≤ c.X ∧ c.X ≤ 2)) := by
    refine runO_inr ?_
    show mana_Is_L0 _ _ _ = _
    unfold mana_Is_L0
    rw [decide_eq_false (show ¬ (5 : Int) < 5 by omega)]
    by_cases h1 : 0 ≤ c.Generic <;> by_cases h2 : c.Generic ≤ 99 <;> by_cases h3 : 0 ≤ c.X <;> simp [h1, h2, h3]
  show (bif (A5.list c.Color).all (fun x => decide (0 ≤ x ∧ x ≤ 9)) then runO mana_Is_step (.L0 c c.Color 5) else some false) = _
  rw [e]
  unfold okC
  cases (A5.list c.Color).all (fun x => decide (0 ≤ x ∧ x ≤ 9)) <;> simp
theorem ref_Is_eq (c : api_Cost) : R08_Is c = some (okC c) := by
  unfold R08_Is R08_Is_0
  have r := scan (step := R08_Is_step) (st := fun i => R08_Is_S.L0 c (i : Int)) (bad := false) (A5.list c.Color).length (fun i => atP (fun x => decide (0 ≤ x ∧ x ≤ 9)) (A5.list c.Color)[i]?) (fun i hi => by
    have hi5 : i < 5 := hi
    show R08_Is_L0 _ _ = _
    unfold R08_Is_L0
    have hx := List.getElem?_eq_getElem hi
    rw [decide_eq_true (show (i : Int) < 5 by omega), idx_at hx, hx]
    simp only [cond_true, Option.bind_some, wrap_succ hi5 (by omega), range_dec, atP]
    cases decide (0 ≤ (A5.list c.Color)[i] ∧ (A5.list c.Color)[i] ≤ 9) <;> rfl)
  rw [all_list] at r
  have e : runO R08_Is_step (.L0 c 5) = some true := by
    refine runO_inr ?_
    show R08_Is_L0 _ _ = _
    unfold R08_Is_L0
    rw [decide_eq_false (show ¬ (5 : Int) < 5 by omega)]
    rfl
  have r' : runO R08_Is_step (.L0 c 0) = bif (A5.list c.Color).all (fun x => decide (0 ≤ x ∧ x ≤ 9)) then runO R08_Is_step (.L0 c 5) else some false := r
  rw [e] at r'
  by_cases h1 : c.Generic < 0
  · have : ¬ 0 ≤ c.Generic := by omega
    simp [h1, okC, this, endO_inr]
  · by_cases h2 : c.Generic > 99
    · have : ¬ c.Generic ≤ 99 := by omega
      simp [h1, h2, okC, this, endO_inr]
    · by_cases h3 : c.X < 0
      · have : ¬ 0 ≤ c.X := by omega
        simp [h1, h2, h3, okC, this, endO_inr]
      · by_cases h4 : c.X > 2
        · have : ¬ c.X ≤ 2 := by omega
          simp [h1, h2, h3, h4, okC, this, endO_inr]
        · have g1 : 0 ≤ c.Generic := by omega
          have g2 : c.Generic ≤ 99 := by omega
          have g3 : 0 ≤ c.X := by omega
          have g4 : c.X ≤ 2 := by omega
          have hok : okC c = (A5.list c.Color).all (fun x => decide (0 ≤ x ∧ x ≤ 9)) := by
            unfold okC
            rw [decide_eq_true (show 0 ≤ c.Generic ∧ c.Generic ≤ 99 ∧ 0 ≤ c.X ∧ c.X ≤ 2 from ⟨g1, g2, g3, g4⟩), Bool.true_and]
          rw [hok, decide_eq_false h1, decide_eq_false h2, decide_eq_false h3, decide_eq_false h4]
          simp only [cond_false, Option.bind_some, endO_inl, r']
          cases (A5.list c.Color).all (fun x => decide (0 ≤ x ∧ x ≤ 9)) <;> rfl
theorem or_bit : ∀ i : Fin 5, ∀ v : Fin 16, v.val < 2 ^ i.val → bitOp .or .i64 (v.val : Int) (shlI .i64 1 (i.val : Int)) = ((v.val + 2 ^ i.val : Nat) : Int) := by decide +kernel
def part (x : A5 Int) : Nat → Nat
  | 0 => 0
  | 1 => bit x.a0 0
  | 2 => bit x.a0 0 + bit x.a1 1
  | 3 => bit x.a0 0 + bit x.a1 1 + bit x.a2 2
  | 4 => bit x.a0 0 + bit x.a1 1 + bit x.a2 2 + bit x.a3 3
  | _ => bit x.a0 0 + bit x.a1 1 + bit x.a2 2 + bit x.a3 3 + bit x.a4 4
theorem bit_le (n : Int) (k : Nat) : bit n k ≤ 2 ^ k := by
  unfold bit
  split
  · exact Nat.le_refl _
  · exact Nat.zero_le _
theorem part_lt (x : A5 Int) (i : Nat) (hi : i < 5) : part x i < 2 ^ i := by
  have h0 := bit_le x.a0 0
  have h1 := bit_le x.a1 1
  have h2 := bit_le x.a2 2
  have h3 := bit_le x.a3 3
  have : i = 0 ∨ i = 1 ∨ i = 2 ∨ i = 3 ∨ i = 4 := by omega
  rcases this with rfl | rfl | rfl | rfl | rfl <;> simp only [part] <;> omega
theorem part_succ (x : A5 Int) (i : Nat) (hi : i < 5) : ∃ n, (A5.list x)[i]? = some n ∧ part x (i + 1) = part x i + bit n i := by
  have : i = 0 ∨ i = 1 ∨ i = 2 ∨ i = 3 ∨ i = 4 := by omega
  rcases this with rfl | rfl | rfl | rfl | rfl
  · exact ⟨x.a0, rfl, by simp [part]⟩
  · exact ⟨x.a1, rfl, rfl⟩
  · exact ⟨x.a2, rfl, rfl⟩
  · exact ⟨x.a3, rfl, rfl⟩
  · exact ⟨x.a4, rfl, rfl⟩
theorem arr_eq (x y : A5 Int) : eqTs (cA5 (cI .i64) x) (cA5 (cI .i64) y) = decide (x = y) := eq_of_eqs (eqs_cA5 (eqs_cI .i64)) x y
theorem mana_Colors_eq (c : api_Cost) : mana_Colors c = some ((colV c : Nat) : Int) := by
  unfold mana_Colors mana_Colors_0
  rw [mana_Is_eq, Option.bind_some, arr_eq]
  unfold colV
  cases hk : okC c with
  | false => rfl
  | true =>
    simp only [Bool.not_true, cond_false, if_true]
    by_cases hz : c.Color = ⟨0, 0, 0, 0, 0⟩
    · rw [decide_eq_true hz, hz]; rfl
    · rw [decide_eq_false hz]
      simp only [cond_false, Option.bind_some, endO_inl]
      have r := carry (step := mana_Colors_step) (st := fun i (v : Nat) => mana_Colors_S.L0 (v : Int) c.Color (i : Int)) 5 (part c.Color) (fun i hi => by
        obtain ⟨n, hn, hp⟩ := part_succ c.Color i hi
        show mana_Colors_L0 _ _ _ = _
        unfold mana_Colors_L0
        rw [decide_eq_true (show (i : Int) < 5 by omega), idx_at hn]
        have hlt := part_lt c.Color i hi
        have h16 : part c.Color i < 16 := Nat.lt_of_lt_of_le hlt (by have : i ≤ 4 := by omega
                                                                     exact Nat.pow_le_pow_right (by decide) this)
        have ho := or_bit ⟨i, hi⟩ ⟨part c.Color i, h16⟩ hlt
        simp only at ho
        simp only [cond_true, Option.bind_some, wrap_succ hi (by omega), hp, bit]
        by_cases h : n > 0
        · rw [decide_eq_true h, if_pos h]
          simp only [cond_true, ok?, decide_eq_true (show ¬ (i : Int) < 0 by omega), if_true, Option.bind_some, ho]
        · rw [decide_eq_false h, if_neg h]
          simp only [cond_false, Nat.add_zero])
      refine r.trans (runO_inr ?_)
      show mana_Colors_L0 _ _ _ = _
      unfold mana_Colors_L0
      rw [decide_eq_false (show ¬ ((5 : Nat) : Int) < 5 by omega)]
      rfl
theorem ref_Colors_eq (c : api_Cost) : R08_Colors c = some ((colV c : Nat) : Int) := by
  unfold R08_Colors R08_Colors_0
  rw [ref_Is_eq, Option.bind_some]
  unfold colV
  cases hk : okC c with
  | false => rfl
  | true =>
    simp only [Bool.not_true, cond_false, if_true, Option.bind_some, endO_inl]
    have r := carry (step := R08_Colors_step) (st := fun i (v : Nat) => R08_Colors_S.L0 c (v : Int) ((2 ^ i : Nat) : Int) (i : Int)) 5 (part c.Color) (fun i hi => by
      obtain ⟨n, hn, hp⟩ := part_succ c.Color i hi
      show R08_Colors_L0 _ _ _ _ = _
      unfold R08_Colors_L0
      rw [decide_eq_true (show (i : Int) < 5 by omega), idx_at hn]
      have hlt := part_lt c.Color i hi
      have hpw : 2 ^ i ≤ 16 := by have : i ≤ 4 := by omega
                                  exact Nat.pow_le_pow_right (n := 2) (by decide) this
      have w1 : IntKind.wrap .i64 (((part c.Color i : Nat) : Int) + ((2 ^ i : Nat) : Int)) = ((part c.Color i + 2 ^ i : Nat) : Int) := by rw [wrap64 (by omega) (by omega)]; omega
      have w2 : IntKind.wrap .i64 (2 * ((2 ^ i : Nat) : Int)) = ((2 ^ (i + 1) : Nat) : Int) := by rw [wrap64 (by omega) (by omega), Nat.pow_succ]; omega
      simp only [cond_true, Option.bind_some, wrap_succ hi (by omega), hp, bit, w1, w2]
      by_cases h : n > 0
      · rw [decide_eq_true h, if_pos h]; rfl
      · rw [decide_eq_false h, if_neg h]; rfl)
    refine r.trans (runO_inr ?_)
    show R08_Colors_L0 _ _ _ _ = _
    unfold R08_Colors_L0
    rw [decide_eq_false (show ¬ ((5 : Nat) : Int) < 5 by omega)]
    rfl

/-! ### Printed, Of -/
def printV (c : api_Card) : api_Traits := ⟨c.Name, c.Cost, bitOp .or .i64 ((colV c.Cost : Nat) : Int) c.Color, c.Line, c.Power, c.Tough, c.Keys, c.Abilities, 0⟩
theorem szT_print {c : api_Card} (h : szC c) : szT (printV c) := h
theorem Printed_eq (c : api_Card) (h : szC c) : base_Printed c = some (printV c) := by
  unfold base_Printed base_Printed_0
  rw [mana_Colors_eq, Option.bind_some, Clone_string _ h.1, Option.bind_some, Option.bind_some, endO_inl]
  have hl := len_le h.2.1 (by decide)
  generalize (⟨([] : List UInt8), _, _, _, _, _, _, _, _⟩ : api_Traits) = z
  have r := carry (step := base_Printed_step) (st := fun i (v : api_Traits) => base_Printed_S.L0 z v c.Abilities (c.Abilities.length : Int) (i : Int)) c.Abilities.length (fun i => (⟨c.Name, c.Cost, bitOp .or .i64 ((colV c.Cost : Nat) : Int) c.Color, c.Line, c.Power, c.Tough, c.Keys, c.Abilities.take i, 0⟩ : api_Traits)) (fun i hi => by
    show base_Printed_L0 _ _ _ _ _ = _
    unfold base_Printed_L0
    have hx := List.getElem?_eq_getElem hi
    rw [decide_eq_true (show (i : Int) < (c.Abilities.length : Int) by omega), idx_at hx]
    simp only [cond_true, Option.bind_some, copyAbility_eq _ (h.2.2 _ (List.getElem_mem hi)), take_app hx h.2.1 (show 0 < 640 by decide), wrap_succ hi (by omega)])
  refine r.trans (runO_inr ?_)
  show base_Printed_L0 _ _ _ _ _ = _
  unfold base_Printed_L0
  rw [decide_eq_false (show ¬ (c.Abilities.length : Int) < (c.Abilities.length : Int) by omega), List.take_length]
  rfl
theorem ref_Printed_eq (c : api_Card) (h : szC c) : R28_Printed c = some (printV c) := by
  unfold R28_Printed R28_Printed_0
  rw [ref_Colors_eq, Option.bind_some, app_nil_ok h.1 (by decide), Option.bind_some, Option.bind_some, endO_inl]
  have hl := len_le h.2.1 (by decide)
  generalize (⟨([] : List UInt8), _, _, _, _, _, _, _, _⟩ : api_Traits) = z
  have r := carry (step := R28_Printed_step) (st := fun i (v : api_Traits) => R28_Printed_S.L0 c z v (i : Int)) c.Abilities.length (fun i => (⟨c.Name, c.Cost, bitOp .or .i64 ((colV c.Cost : Nat) : Int) c.Color, c.Line, c.Power, c.Tough, c.Keys, c.Abilities.take i, 0⟩ : api_Traits)) (fun i hi => by
    show R28_Printed_L0 _ _ _ _ = _
    unfold R28_Printed_L0
    have hx := List.getElem?_eq_getElem hi
    rw [decide_eq_true (show (i : Int) < (c.Abilities.length : Int) by omega), idx_at hx]
    simp only [cond_true, Option.bind_some, ability_eq _ (h.2.2 _ (List.getElem_mem hi)), take_app hx h.2.1 (show 0 < 640 by decide), wrap_succ hi (by omega)])
  refine r.trans (runO_inr ?_)
  show R28_Printed_L0 _ _ _ _ = _
  unfold R28_Printed_L0
  rw [decide_eq_false (show ¬ (c.Abilities.length : Int) < (c.Abilities.length : Int) by omega), List.take_length]
  rfl
def zeroT : api_Traits := ⟨[], ⟨0, 0, ⟨0, 0, 0, 0, 0⟩⟩, 0, ⟨0, 0, []⟩, 0, 0, 0, [], 0⟩
def withC (t : api_Traits) (n : Int) : api_Traits := ⟨t.Name, t.Cost, t.Colors, t.Line, t.Power, t.Tough, t.Keys, t.Abilities, n⟩
def cardAt (cs : List api_Card) (i : Int) : api_Traits := match idx? cs i with | some c => printV c | none => zeroT
def ofV (cs : List api_Card) (o : api_Object) : api_Traits := withC (cardAt cs (if o.Copy < 0 then o.Card else o.Copy)) (if o.Zone = 0 ∨ o.Zone = 5 then o.Control else o.Owner)
theorem idx_in {α : Type} (cs : List α) (i : Int) (h0 : 0 ≤ i) (h1 : i < cs.length) : ∃ x, idx? cs i = some x ∧ x ∈ cs := by
  unfold idx?
  rw [if_pos h0]
  have : i.toNat < cs.length := by omega
  exact ⟨cs[i.toNat], List.getElem?_eq_getElem this, List.getElem_mem this⟩
theorem idx_out {α : Type} (cs : List α) (i : Int) (h : ¬ (0 ≤ i ∧ i < cs.length)) : idx? cs i = none := by
  unfold idx?
  split
  · rw [List.getElem?_eq_none (by omega)]
  · rfl
theorem Of_eq (cs : List api_Card) (o : api_Object) (h : ∀ c ∈ cs, szC c) : base_Of cs o = some (ofV cs o) := by
  unfold base_Of base_Of_0 ofV cardAt
  simp only [ge_iff_le, int_beq]
  by_cases hc : o.Copy < 0 <;> simp only [hc, decide_true, decide_false, cond_true, cond_false, if_true, if_false]
  · by_cases h0 : 0 ≤ o.Card
    · by_cases h1 : o.Card < cs.length
      · obtain ⟨x, hx, hm⟩ := idx_in cs o.Card h0 h1
        by_cases z0 : o.Zone = 0 <;> by_cases z5 : o.Zone = 5 <;> simp [h0, h1, hx, Printed_eq x (h x hm), z0, z5, endO_inr, withC]
      · rw [idx_out cs o.Card (by omega)]
        by_cases z0 : o.Zone = 0 <;> by_cases z5 : o.Zone = 5 <;> simp [h0, h1, z0, z5, endO_inr, withC, zeroT]
    · rw [idx_out cs o.Card (by omega)]
      by_cases z0 : o.Zone = 0 <;> by_cases z5 : o.Zone = 5 <;> simp [h0, z0, z5, endO_inr, withC, zeroT]
  · by_cases h0 : 0 ≤ o.Copy
    · by_cases h1 : o.Copy < cs.length
      · obtain ⟨x, hx, hm⟩ := idx_in cs o.Copy h0 h1
        by_cases z0 : o.Zone = 0 <;> by_cases z5 : o.Zone = 5 <;> simp [h0, h1, hx, Printed_eq x (h x hm), z0, z5, endO_inr, withC]
      · rw [idx_out cs o.Copy (by omega)]
        by_cases z0 : o.Zone = 0 <;> by_cases z5 : o.Zone = 5 <;> simp [h0, h1, z0, z5, endO_inr, withC, zeroT]
    · omega
theorem ref_Of_eq (cs : List api_Card) (o : api_Object) (h : ∀ c ∈ cs, szC c) : R28_Of cs o = some (ofV cs o) := by
  unfold R28_Of R28_Of_0 ofV cardAt
  simp only [ge_iff_le, int_beq]
  by_cases hc : o.Copy < 0 <;> simp only [hc, decide_true, decide_false, cond_true, cond_false, if_true, if_false]
  · by_cases h0 : 0 ≤ o.Card
    · by_cases h1 : o.Card < cs.length
      · obtain ⟨x, hx, hm⟩ := idx_in cs o.Card h0 h1
        by_cases z0 : o.Zone = 0 <;> by_cases z5 : o.Zone = 5 <;> simp [h0, h1, hx, ref_Printed_eq x (h x hm), z0, z5, endO_inr, withC]
      · rw [idx_out cs o.Card (by omega)]
        by_cases z0 : o.Zone = 0 <;> by_cases z5 : o.Zone = 5 <;> simp [h0, h1, z0, z5, endO_inr, withC, zeroT]
    · rw [idx_out cs o.Card (by omega)]
      by_cases z0 : o.Zone = 0 <;> by_cases z5 : o.Zone = 5 <;> simp [h0, z0, z5, endO_inr, withC, zeroT]
  · by_cases h0 : 0 ≤ o.Copy
    · by_cases h1 : o.Copy < cs.length
      · obtain ⟨x, hx, hm⟩ := idx_in cs o.Copy h0 h1
        by_cases z0 : o.Zone = 0 <;> by_cases z5 : o.Zone = 5 <;> simp [h0, h1, hx, ref_Printed_eq x (h x hm), z0, z5, endO_inr, withC]
      · rw [idx_out cs o.Copy (by omega)]
        by_cases z0 : o.Zone = 0 <;> by_cases z5 : o.Zone = 5 <;> simp [h0, h1, z0, z5, endO_inr, withC, zeroT]
    · omega
theorem szT_zero : szT zeroT := ⟨by decide, by decide, fun a h => by cases h⟩
theorem szT_with {t : api_Traits} (n : Int) (h : szT t) : szT (withC t n) := h
theorem szT_at {cs : List api_Card} (h : ∀ c ∈ cs, szC c) (i : Int) : szT (cardAt cs i) := by
  unfold cardAt
  by_cases hi : 0 ≤ i ∧ i < cs.length
  · obtain ⟨x, hx, hm⟩ := idx_in cs i hi.1 hi.2
    rw [hx]; exact szT_print (h x hm)
  · rw [idx_out cs i hi]; exact szT_zero
theorem szT_of' {cs : List api_Card} (h : ∀ c ∈ cs, szC c) (o : api_Object) : szT (ofV cs o) := szT_with _ (szT_at h _)
end Go.PW
