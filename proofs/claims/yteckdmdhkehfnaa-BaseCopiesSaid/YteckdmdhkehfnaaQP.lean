import Derived.Test.YteckdmdhkehfnaaQE
import Derived.KernelRfl
namespace Go.PW

/-! ### Sizes -/
def szE (x : api_Effect) : Prop := x.Mods.length * 176 ≤ reachBytes
def szA (x : api_Ability) : Prop := x.Mods.length * 176 ≤ reachBytes ∧ x.Specs.length * 144 ≤ reachBytes ∧ x.Effects.length * 560 ≤ reachBytes ∧ ∀ e ∈ x.Effects, szE e
def szC (x : api_Card) : Prop := x.Line.Subs.length * 16 ≤ reachBytes ∧ x.Abilities.length * 640 ≤ reachBytes ∧ ∀ a ∈ x.Abilities, szA a
def szT (x : api_Traits) : Prop := x.Line.Subs.length * 16 ≤ reachBytes ∧ x.Abilities.length * 640 ≤ reachBytes ∧ ∀ a ∈ x.Abilities, szA a
theorem szE_of {x : api_Effect} (h : ok_api_Effect x) : szE x := by
  obtain ⟨_, _, _, _, _, _, _, _, h, _⟩ := h
  exact h
theorem szA_of {x : api_Ability} (h : ok_api_Ability x) : szA x := by
  obtain ⟨_, _, h1, _, _, _, _, h2, h3, _⟩ := h
  exact ⟨h1.1, h2.1, h3.1, fun e he => szE_of (h3.2 e he)⟩
theorem szC_of {x : api_Card} (h : ok_api_Card x) : szC x := by
  obtain ⟨_, _, _, _, h1, _, _, _, h2⟩ := h
  exact ⟨h1.2.2.1, h2.1, fun a ha => szA_of (h2.2 a ha)⟩
theorem szT_of {x : api_Traits} (h : ok_api_Traits x) : szT x := by
  obtain ⟨_, _, _, h1, _, _, _, h2, _⟩ := h
  exact ⟨h1.2.2.1, h2.1, fun a ha => szA_of (h2.2 a ha)⟩
theorem reach_val : reachBytes = 140737488351232 := rfl

/-! ### Equality of lists -/
theorem eq_scan {S α : Type} [DecidableEq α] {step : S → Option (S ⊕ Bool)} (a b : List α) (st : Nat → S) (hl : a.length = b.length) {next : Option Bool}
    (h : ∀ i x y, i < a.length → a[i]? = some x → b[i]? = some y → step (st i) = some (bif decide (x = y) then .inl (st (i + 1)) else .inr false)) (hend : runO step (st a.length) = next) :
    runO step (st 0) = bif decide (a = b) then next else some false := by
  rw [scan (bad := false) a.length (fun i => decide (a[i]? = b[i]?)) (fun i hi => ?_), all_range_eq a b hl, hend]
  have hx := List.getElem?_eq_getElem hi
  have hy := List.getElem?_eq_getElem (show i < b.length by omega)
  rw [h i _ _ hi hx hy, hx, hy]
  simp only [Option.some.injEq]
theorem len_dec {α : Type} [DecidableEq α] {a b : List α} (h : a.length ≠ b.length) : decide (a = b) = false := decide_eq_false (fun e => h (by rw [e]))
theorem bif_bind {α β : Type} (b : Bool) (x y : Option α) (f : α → Option β) : (bif b then x else y).bind f = bif b then x.bind f else y.bind f := by cases b <;> rfl
theorem endO_inr {S R : Type} (step : S → Option (S ⊕ R)) (r : R) : endO step (.inr r) = some r := rfl
theorem endO_inl {S R : Type} (step : S → Option (S ⊕ R)) (s : S) : endO step (.inl s) = runO step s := rfl
theorem bif_and (p q : Prop) [Decidable p] [Decidable q] : (bif decide p then some (decide q) else some false) = some (decide (p ∧ q)) := by
  by_cases hp : p <;> by_cases hq : q <;> simp [hp, hq]
theorem not_cond {α : Type} (b : Bool) (x y : α) : (bif !b then x else y) = bif b then y else x := by cases b <;> rfl

theorem Equal_Mod (a b : List api_Mod) (ha : a.length * 176 ≤ reachBytes) : slices_Equal___api_Mod_api_Mod_ a b = some (decide (a = b)) := by
  have hb := len_le ha (by decide)
  unfold slices_Equal___api_Mod_api_Mod_ slices_Equal___api_Mod_api_Mod__0
  rw [int_len_ne]
  by_cases hl : a.length = b.length
  · simp only [hl, ne_eq, not_true, decide_false, cond_false, Option.bind_some, endO_inl]
    have := eq_scan a b (fun i => slices_Equal___api_Mod_api_Mod__S.L0 a b (b.length : Int) (i : Int)) hl (next := some true) (step := slices_Equal___api_Mod_api_Mod__step) (fun i x y hi hx hy => ?_) ?_
    · refine this.trans ?_
      cases decide (a = b) <;> rfl
    · show slices_Equal___api_Mod_api_Mod__L0 _ _ _ _ = _
      unfold slices_Equal___api_Mod_api_Mod__L0
      rw [decide_eq_true (show (i : Int) < (b.length : Int) by omega), idx_at hx, idx_at hy]
      simp only [cond_true, Option.bind_some, eq_api_Mod, not_cond, wrap_succ hi (by omega)]
      cases decide (x = y) <;> rfl
    · refine runO_inr ?_
      show slices_Equal___api_Mod_api_Mod__L0 _ _ _ _ = _
      unfold slices_Equal___api_Mod_api_Mod__L0
      rw [decide_eq_false (show ¬ (a.length : Int) < (b.length : Int) by omega)]
      rfl
  · rw [len_dec hl]
    simp only [hl, ne_eq, not_false_eq_true, decide_true, cond_true]
    rfl
theorem Equal_Spec (a b : List api_Spec) (ha : a.length * 144 ≤ reachBytes) : slices_Equal___api_Spec_api_Spec_ a b = some (decide (a = b)) := by
  have hb := len_le ha (by decide)
  unfold slices_Equal___api_Spec_api_Spec_ slices_Equal___api_Spec_api_Spec__0
  rw [int_len_ne]
  by_cases hl : a.length = b.length
  · simp only [hl, ne_eq, not_true, decide_false, cond_false, Option.bind_some, endO_inl]
    have := eq_scan a b (fun i => slices_Equal___api_Spec_api_Spec__S.L0 a b (b.length : Int) (i : Int)) hl (next := some true) (step := slices_Equal___api_Spec_api_Spec__step) (fun i x y hi hx hy => ?_) ?_
    · refine this.trans ?_
      cases decide (a = b) <;> rfl
    · show slices_Equal___api_Spec_api_Spec__L0 _ _ _ _ = _
      unfold slices_Equal___api_Spec_api_Spec__L0
      rw [decide_eq_true (show (i : Int) < (b.length : Int) by omega), idx_at hx, idx_at hy]
      simp only [cond_true, Option.bind_some, eq_api_Spec, not_cond, wrap_succ hi (by omega)]
      cases decide (x = y) <;> rfl
    · refine runO_inr ?_
      show slices_Equal___api_Spec_api_Spec__L0 _ _ _ _ = _
      unfold slices_Equal___api_Spec_api_Spec__L0
      rw [decide_eq_false (show ¬ (a.length : Int) < (b.length : Int) by omega)]
      rfl
  · rw [len_dec hl]
    simp only [hl, ne_eq, not_false_eq_true, decide_true, cond_true]
    rfl
theorem Equal_string (a b : List (List UInt8)) (ha : a.length * 16 ≤ reachBytes) : slices_Equal___string_string_ a b = some (decide (a = b)) := by
  have hb := len_le ha (by decide)
  unfold slices_Equal___string_string_ slices_Equal___string_string__0
  rw [int_len_ne]
  by_cases hl : a.length = b.length
  · simp only [hl, ne_eq, not_true, decide_false, cond_false, Option.bind_some, endO_inl]
    have := eq_scan a b (fun i => slices_Equal___string_string__S.L0 a b (b.length : Int) (i : Int)) hl (next := some true) (step := slices_Equal___string_string__step) (fun i x y hi hx hy => ?_) ?_
    · refine this.trans ?_
      cases decide (a = b) <;> rfl
    · show slices_Equal___string_string__L0 _ _ _ _ = _
      unfold slices_Equal___string_string__L0
      rw [decide_eq_true (show (i : Int) < (b.length : Int) by omega), idx_at hx, idx_at hy]
      simp only [cond_true, Option.bind_some, not_cond, wrap_succ hi (by omega)]
      by_cases h : x = y
      · subst h; simp
      · rw [beq_eq_false_iff_ne.2 h, decide_eq_false h]; rfl
    · refine runO_inr ?_
      show slices_Equal___string_string__L0 _ _ _ _ = _
      unfold slices_Equal___string_string__L0
      rw [decide_eq_false (show ¬ (a.length : Int) < (b.length : Int) by omega)]
      rfl
  · rw [len_dec hl]
    simp only [hl, ne_eq, not_false_eq_true, decide_true, cond_true]
    rfl
theorem mods_eq (a b : List api_Mod) (ha : a.length * 176 ≤ reachBytes) : R28_mods a b = some (decide (a = b)) := by
  have hb := len_le ha (by decide)
  unfold R28_mods R28_mods_0
  rw [int_len_ne]
  by_cases hl : a.length = b.length
  · simp only [hl, ne_eq, not_true, decide_false, cond_false, Option.bind_some, endO_inl]
    have := eq_scan a b (fun i => R28_mods_S.L0 a b (i : Int)) hl (next := some true) (step := R28_mods_step) (fun i x y hi hx hy => ?_) ?_
    · refine this.trans ?_
      cases decide (a = b) <;> rfl
    · show R28_mods_L0 _ _ _ = _
      unfold R28_mods_L0
      rw [decide_eq_true (show (i : Int) < (a.length : Int) by omega), idx_at hx, idx_at hy]
      simp only [cond_true, Option.bind_some, eq_api_Mod, not_cond, wrap_succ hi (by omega)]
      cases decide (x = y) <;> rfl
    · refine runO_inr ?_
      show R28_mods_L0 _ _ _ = _
      unfold R28_mods_L0
      rw [decide_eq_false (show ¬ (a.length : Int) < (a.length : Int) by omega)]
      rfl
  · rw [len_dec hl]
    simp only [hl, ne_eq, not_false_eq_true, decide_true, cond_true]
    rfl

/-! ### Equality of effects and abilities -/
theorem int_beq (a b : Int) : (a == b) = decide (a = b) := rfl
theorem bool_beq (a b : Bool) : (a == b) = decide (a = b) := by cases a <;> cases b <;> rfl
theorem str_beq (a b : List UInt8) : (a == b) = decide (a = b) := by
  by_cases h : a = b
  · subst h; simp
  · rw [decide_eq_false h]; exact beq_eq_false_iff_ne.2 h
theorem pool_eq (x y : A6 Int) : eqTs (cA6 (cI .i64) x) (cA6 (cI .i64) y) = decide (x = y) := eq_of_eqs (eqs_cA6 (eqs_cI .i64)) x y
theorem sameEffect_eq (x y : api_Effect) (hx : szE x) : base_sameEffect x y = some (decide (x = y)) := by
  unfold base_sameEffect base_sameEffect_0
  simp only [Equal_Mod x.Mods y.Mods hx, int_beq, str_beq, eq_api_Ref, eq_api_Amount, eq_api_Filter, pool_eq, Option.bind_some, bif_bind, endO_inr, bif_and]
  congr 1
  rw [decide_eq_decide]
  obtain ⟨a0, a1, a2, a3, a4, a5, a6, a7, a8⟩ := x
  obtain ⟨b0, b1, b2, b3, b4, b5, b6, b7, b8⟩ := y
  simp only [api_Effect.mk.injEq]
theorem effects_eq (x y : api_Effect) (hx : szE x) : R28_effects x y = some (decide (x = y)) := by
  unfold R28_effects R28_effects_0
  simp only [mods_eq x.Mods y.Mods hx, int_beq, str_beq, eq_api_Ref, eq_api_Amount, eq_api_Filter, pool_eq, Option.bind_some, bif_bind, endO_inr, bif_and]
  congr 1
  rw [decide_eq_decide]
  obtain ⟨a0, a1, a2, a3, a4, a5, a6, a7, a8⟩ := x
  obtain ⟨b0, b1, b2, b3, b4, b5, b6, b7, b8⟩ := y
  simp only [api_Effect.mk.injEq]
theorem EqualFunc_Effect (a b : List api_Effect) (ha : a.length * 560 ≤ reachBytes) (he : ∀ x ∈ a, szE x) : slices_EqualFunc___api_Effect___api_Effect_api_Effect_api_Effect___base_sameEffect a b = some (decide (a = b)) := by
  have hb := len_le ha (by decide)
  unfold slices_EqualFunc___api_Effect___api_Effect_api_Effect_api_Effect___base_sameEffect slices_EqualFunc___api_Effect___api_Effect_api_Effect_api_Effect___base_sameEffect_0
  rw [int_len_ne]
  by_cases hl : a.length = b.length
  · simp only [hl, ne_eq, not_true, decide_false, cond_false, Option.bind_some, endO_inl]
    have := eq_scan a b (fun i => slices_EqualFunc___api_Effect___api_Effect_api_Effect_api_Effect___base_sameEffect_S.L0 b a (b.length : Int) (i : Int)) hl (next := some true) (step := slices_EqualFunc___api_Effect___api_Effect_api_Effect_api_Effect___base_sameEffect_step) (fun i x y hi hx hy => ?_) ?_
    · refine this.trans ?_
      cases decide (a = b) <;> rfl
    · show slices_EqualFunc___api_Effect___api_Effect_api_Effect_api_Effect___base_sameEffect_L0 _ _ _ _ = _
      unfold slices_EqualFunc___api_Effect___api_Effect_api_Effect_api_Effect___base_sameEffect_L0
      rw [decide_eq_true (show (i : Int) < (b.length : Int) by omega), idx_at hx, idx_at hy]
      simp only [cond_true, Option.bind_some, sameEffect_eq x y (he x (List.mem_of_getElem? hx)), not_cond, wrap_succ hi (by omega)]
      cases decide (x = y) <;> rfl
    · refine runO_inr ?_
      show slices_EqualFunc___api_Effect___api_Effect_api_Effect_api_Effect___base_sameEffect_L0 _ _ _ _ = _
      unfold slices_EqualFunc___api_Effect___api_Effect_api_Effect_api_Effect___base_sameEffect_L0
      rw [decide_eq_false (show ¬ (a.length : Int) < (b.length : Int) by omega)]
      rfl
  · rw [len_dec hl]
    simp only [hl, ne_eq, not_false_eq_true, decide_true, cond_true]
    rfl
theorem sameAbility_eq (x y : api_Ability) (hx : szA x) : base_sameAbility x y = some (decide (x = y)) := by
  unfold base_sameAbility base_sameAbility_0
  simp only [Equal_Mod x.Mods y.Mods hx.1, Equal_Spec x.Specs y.Specs hx.2.1, EqualFunc_Effect x.Effects y.Effects hx.2.2.1 hx.2.2.2, int_beq, bool_beq, eq_api_Filter, eq_api_Price, eq_api_Trigger, eq_api_Replace, Option.bind_some, bif_bind, endO_inr, bif_and]
  congr 1
  rw [decide_eq_decide]
  obtain ⟨a0, a1, a2, a3, a4, a5, a6, a7, a8, a9⟩ := x
  obtain ⟨b0, b1, b2, b3, b4, b5, b6, b7, b8, b9⟩ := y
  simp only [api_Ability.mk.injEq]
theorem bif_some {p : Prop} [Decidable p] : (bif decide p then some true else some false) = some (decide p) := by by_cases h : p <;> simp [h]
theorem SameAbility_run (x y : api_Ability) (hx : szA x) (h1 : x.Specs.length = y.Specs.length) (h2 : x.Effects.length = y.Effects.length) : runO R28_SameAbility_step (.L0 x y 0) = some (decide (x.Specs = y.Specs ∧ x.Effects = y.Effects)) := by
  have l1 := len_le hx.2.1 (by decide)
  have l2 := len_le hx.2.2.1 (by decide)
  have r2 := eq_scan x.Effects y.Effects (fun i => R28_SameAbility_S.L1 x y (i : Int)) h2 (next := some true) (step := R28_SameAbility_step) (fun i u v hi hu hv => by
    show R28_SameAbility_L1 _ _ _ = _
    unfold R28_SameAbility_L1
    rw [decide_eq_true (show (i : Int) < (x.Effects.length : Int) by omega), idx_at hu, idx_at hv]
    simp only [cond_true, Option.bind_some, effects_eq u v (hx.2.2.2 u (List.mem_of_getElem? hu)), not_cond, wrap_succ hi (by omega)]
    cases decide (u = v) <;> rfl) (runO_inr (by
    show R28_SameAbility_L1 _ _ _ = _
    unfold R28_SameAbility_L1
    rw [decide_eq_false (show ¬ (x.Effects.length : Int) < (x.Effects.length : Int) by omega)]
    rfl))
  have r1 := eq_scan x.Specs y.Specs (fun i => R28_SameAbility_S.L0 x y (i : Int)) h1 (next := some (decide (x.Effects = y.Effects))) (step := R28_SameAbility_step) (fun i u v hi hu hv => by
    show R28_SameAbility_L0 _ _ _ = _
    unfold R28_SameAbility_L0
    rw [decide_eq_true (show (i : Int) < (x.Specs.length : Int) by omega), idx_at hu, idx_at hv]
    simp only [cond_true, Option.bind_some, eq_api_Spec, not_cond, wrap_succ hi (by omega)]
    cases decide (u = v) <;> rfl) (by
    have e1 : R28_SameAbility_step (.L0 x y (x.Specs.length : Int)) = some (.inl (.L1 x y 0)) := by
      show R28_SameAbility_L0 _ _ _ = _
      unfold R28_SameAbility_L0
      rw [decide_eq_false (show ¬ (x.Specs.length : Int) < (x.Specs.length : Int) by omega)]
      rfl
    rw [runO_inl e1]
    exact r2.trans bif_some)
  exact r1.trans (bif_and _ _)
theorem SameAbility_eq (x y : api_Ability) (hx : szA x) : R28_SameAbility x y = some (decide (x = y)) := by
  unfold R28_SameAbility R28_SameAbility_0
  rw [int_len_ne, int_len_ne]
  by_cases h1 : x.Specs.length = y.Specs.length
  · by_cases h2 : x.Effects.length = y.Effects.length
    · simp only [h1, h2, ne_eq, not_true, decide_false, cond_false, mods_eq x.Mods y.Mods hx.1, bne, int_beq, bool_beq, eq_api_Filter, eq_api_Price, eq_api_Trigger, eq_api_Replace, Option.bind_some, not_cond, bif_bind, endO_inr, endO_inl, SameAbility_run x y hx h1 h2, bif_and]
      congr 1
      rw [decide_eq_decide]
      obtain ⟨a0, a1, a2, a3, a4, a5, a6, a7, a8, a9⟩ := x
      obtain ⟨b0, b1, b2, b3, b4, b5, b6, b7, b8, b9⟩ := y
      simp only [api_Ability.mk.injEq]
      constructor
      · rintro ⟨e0, e1, e2, e3, e4, e5, e6, e7, e8, e9⟩; exact ⟨e0, e1, e2, e3, e4, e5, e6, e8, e9, e7⟩
      · rintro ⟨e0, e1, e2, e3, e4, e5, e6, e8, e9, e7⟩; exact ⟨e0, e1, e2, e3, e4, e5, e6, e7, e8, e9⟩
    · have hne : ¬ x = y := fun e => h2 (by rw [e])
      rw [decide_eq_false hne]
      simp only [h1, h2, ne_eq, not_true, not_false_eq_true, decide_false, decide_true, cond_false, cond_true, mods_eq x.Mods y.Mods hx.1, Option.bind_some, bif_bind, endO_inr]
      simp
  · have hne : ¬ x = y := fun e => h1 (by rw [e])
    rw [decide_eq_false hne]
    simp only [h1, ne_eq, not_false_eq_true, decide_true, cond_true, mods_eq x.Mods y.Mods hx.1, Option.bind_some, bif_bind, endO_inr]
    simp
theorem EqualFunc_Ability (a b : List api_Ability) (ha : a.length * 640 ≤ reachBytes) (he : ∀ x ∈ a, szA x) : slices_EqualFunc___api_Ability___api_Ability_api_Ability_api_Ability___base_sameAbility a b = some (decide (a = b)) := by
  have hb := len_le ha (by decide)
  unfold slices_EqualFunc___api_Ability___api_Ability_api_Ability_api_Ability___base_sameAbility slices_EqualFunc___api_Ability___api_Ability_api_Ability_api_Ability___base_sameAbility_0
  rw [int_len_ne]
  by_cases hl : a.length = b.length
  · simp only [hl, ne_eq, not_true, decide_false, cond_false, Option.bind_some, endO_inl]
    have := eq_scan a b (fun i => slices_EqualFunc___api_Ability___api_Ability_api_Ability_api_Ability___base_sameAbility_S.L0 b a (b.length : Int) (i : Int)) hl (next := some true) (step := slices_EqualFunc___api_Ability___api_Ability_api_Ability_api_Ability___base_sameAbility_step) (fun i x y hi hx hy => ?_) ?_
    · refine this.trans ?_
      cases decide (a = b) <;> rfl
    · show slices_EqualFunc___api_Ability___api_Ability_api_Ability_api_Ability___base_sameAbility_L0 _ _ _ _ = _
      unfold slices_EqualFunc___api_Ability___api_Ability_api_Ability_api_Ability___base_sameAbility_L0
      rw [decide_eq_true (show (i : Int) < (b.length : Int) by omega), idx_at hx, idx_at hy]
      simp only [cond_true, Option.bind_some, sameAbility_eq x y (he x (List.mem_of_getElem? hx)), not_cond, wrap_succ hi (by omega)]
      cases decide (x = y) <;> rfl
    · refine runO_inr ?_
      show slices_EqualFunc___api_Ability___api_Ability_api_Ability_api_Ability___base_sameAbility_L0 _ _ _ _ = _
      unfold slices_EqualFunc___api_Ability___api_Ability_api_Ability_api_Ability___base_sameAbility_L0
      rw [decide_eq_false (show ¬ (a.length : Int) < (b.length : Int) by omega)]
      rfl
  · rw [len_dec hl]
    simp only [hl, ne_eq, not_false_eq_true, decide_true, cond_true]
    rfl
theorem traits_ext (x y : api_Traits) : x = y ↔ (x.Name = y.Name ∧ x.Cost = y.Cost ∧ x.Colors = y.Colors ∧ (x.Line.Super = y.Line.Super ∧ x.Line.Types = y.Line.Types ∧ x.Line.Subs = y.Line.Subs) ∧ x.Power = y.Power ∧ x.Tough = y.Tough ∧ x.Keys = y.Keys ∧ x.Abilities = y.Abilities ∧ x.Control = y.Control) := by
  obtain ⟨a0, a1, a2, ⟨c0, c1, c2⟩, a4, a5, a6, a7, a8⟩ := x
  obtain ⟨b0, b1, b2, ⟨d0, d1, d2⟩, b4, b5, b6, b7, b8⟩ := y
  simp only [api_Traits.mk.injEq, api_Line.mk.injEq]
theorem base_Same_eq (x y : api_Traits) (hx : szT x) : base_Same x y = some (decide (x = y)) := by
  unfold base_Same base_Same_0
  simp only [Equal_string x.Line.Subs y.Line.Subs hx.1, EqualFunc_Ability x.Abilities y.Abilities hx.2.1 hx.2.2, int_beq, str_beq, eq_api_Cost, Option.bind_some, bif_bind, endO_inr, bif_and]
  congr 1
  rw [decide_eq_decide, traits_ext]
  constructor
  · rintro ⟨e0, e1, e2, e3, e4, e5, e6, e7, e8, e9, e10⟩; exact ⟨e0, e1, e2, ⟨e3, e4, e5⟩, e6, e7, e8, e10, e9⟩
  · rintro ⟨e0, e1, e2, ⟨e3, e4, e5⟩, e6, e7, e8, e10, e9⟩; exact ⟨e0, e1, e2, e3, e4, e5, e6, e7, e8, e9, e10⟩
theorem Same_run (x y : api_Traits) (hx : szT x) (h1 : x.Line.Subs.length = y.Line.Subs.length) (h2 : x.Abilities.length = y.Abilities.length) : runO R28_Same_step (.L0 x y 0) = some (decide (x.Line.Subs = y.Line.Subs ∧ x.Abilities = y.Abilities)) := by
  have l1 := len_le hx.1 (by decide)
  have l2 := len_le hx.2.1 (by decide)
  have r2 := eq_scan x.Abilities y.Abilities (fun i => R28_Same_S.L1 x y (i : Int)) h2 (next := some true) (step := R28_Same_step) (fun i u v hi hu hv => by
    show R28_Same_L1 _ _ _ = _
    unfold R28_Same_L1
    rw [decide_eq_true (show (i : Int) < (x.Abilities.length : Int) by omega), idx_at hu, idx_at hv]
    simp only [cond_true, Option.bind_some, SameAbility_eq u v (hx.2.2 u (List.mem_of_getElem? hu)), not_cond, wrap_succ hi (by omega)]
    cases decide (u = v) <;> rfl) (runO_inr (by
    show R28_Same_L1 _ _ _ = _
    unfold R28_Same_L1
    rw [decide_eq_false (show ¬ (x.Abilities.length : Int) < (x.Abilities.length : Int) by omega)]
    rfl))
  have r1 := eq_scan x.Line.Subs y.Line.Subs (fun i => R28_Same_S.L0 x y (i : Int)) h1 (next := some (decide (x.Abilities = y.Abilities))) (step := R28_Same_step) (fun i u v hi hu hv => by
    show R28_Same_L0 _ _ _ = _
    unfold R28_Same_L0
    rw [decide_eq_true (show (i : Int) < (x.Line.Subs.length : Int) by omega), idx_at hu, idx_at hv]
    simp only [cond_true, Option.bind_some, str_beq, not_cond, wrap_succ hi (by omega)]
    cases decide (u = v) <;> rfl) (by
    have e1 : R28_Same_step (.L0 x y (x.Line.Subs.length : Int)) = some (.inl (.L1 x y 0)) := by
      show R28_Same_L0 _ _ _ = _
      unfold R28_Same_L0
      rw [decide_eq_false (show ¬ (x.Line.Subs.length : Int) < (x.Line.Subs.length : Int) by omega)]
      rfl
    rw [runO_inl e1]
    exact r2.trans bif_some)
  exact r1.trans (bif_and _ _)
theorem ref_Same_eq (x y : api_Traits) (hx : szT x) : R28_Same x y = some (decide (x = y)) := by
  unfold R28_Same R28_Same_0
  rw [int_len_ne, int_len_ne]
  by_cases h1 : x.Line.Subs.length = y.Line.Subs.length
  · by_cases h2 : x.Abilities.length = y.Abilities.length
    · simp only [h1, h2, ne_eq, not_true, decide_false, cond_false, bne, int_beq, str_beq, eq_api_Cost, Option.bind_some, not_cond, bif_bind, endO_inr, endO_inl, Same_run x y hx h1 h2, bif_and]
      congr 1
      rw [decide_eq_decide, traits_ext]
      constructor
      · rintro ⟨e0, e1, e2, e3, e4, e5, e6, e7, e8, e9, e10⟩; exact ⟨e0, e1, e2, ⟨e7, e8, e9⟩, e3, e4, e5, e10, e6⟩
      · rintro ⟨e0, e1, e2, ⟨e7, e8, e9⟩, e3, e4, e5, e10, e6⟩; exact ⟨e0, e1, e2, e3, e4, e5, e6, e7, e8, e9, e10⟩
    · have hne : ¬ x = y := fun e => h2 (by rw [e])
      rw [decide_eq_false hne]
      simp only [h1, h2, ne_eq, not_true, not_false_eq_true, decide_false, decide_true, cond_false, cond_true, Option.bind_some, bif_bind, endO_inr]
      simp
  · have hne : ¬ x = y := fun e => h1 (by rw [e])
    rw [decide_eq_false hne]
    simp only [h1, ne_eq, not_false_eq_true, decide_true, cond_true, Option.bind_some, bif_bind, endO_inr]
    simp
end Go.PW
