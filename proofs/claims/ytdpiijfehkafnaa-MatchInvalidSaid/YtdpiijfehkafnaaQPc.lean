import Derived.Test.YtdpiijfehkafnaaQPb
namespace Go.PW

/-! ### Small numbers -/
theorem clamp_small {n : Int} (h1 : -1000000 ≤ n) (h2 : n ≤ 1000000) : num_Clamp n = some n ∧ R01_Clamp n = some n := by
  constructor
  · unfold num_Clamp num_Clamp_0
    simp only [Option.bind_some, endO_inr]
    unfold minI maxI
    congr 1
    repeat' split
    all_goals omega
  · unfold R01_Clamp R01_Clamp_0
    rw [decide_eq_false (by omega), decide_eq_false (by omega)]; rfl
theorem add_small {a b : Int} (h1 : 0 ≤ a) (h2 : a ≤ 100000) (h3 : 0 ≤ b) (h4 : b ≤ 100000) : num_Add a b = some (a + b) ∧ R01_Add a b = some (a + b) := by
  obtain ⟨a1, a2⟩ := clamp_small (n := a) (by omega) (by omega)
  obtain ⟨b1, b2⟩ := clamp_small (n := b) (by omega) (by omega)
  obtain ⟨c1, c2⟩ := clamp_small (n := a + b) (by omega) (by omega)
  have hw : IntKind.wrap .i64 (a + b) = a + b := wrap64 (by omega) (by omega)
  constructor
  · unfold num_Add num_Add_0
    simp only [a1, b1, c1, hw, Option.bind_some]; rfl
  · unfold R01_Add R01_Add_0
    simp only [a2, b2, c2, hw, Option.bind_some]; rfl
theorem mul_zero {a : Int} (h1 : 0 ≤ a) (h2 : a ≤ 100000) : num_Mul a 0 = some 0 ∧ R01_Mul a 0 = some 0 := by
  obtain ⟨a1, a2⟩ := clamp_small (n := a) (by omega) (by omega)
  obtain ⟨b1, b2⟩ := clamp_small (n := 0) (by omega) (by omega)
  have hw : IntKind.wrap .i64 (a * 0) = 0 := by rw [Int.mul_zero]; rfl
  constructor
  · unfold num_Mul num_Mul_0
    simp only [a1, b1, hw, Option.bind_some]; rfl
  · unfold R01_Mul R01_Mul_0
    simp only [a2, b2, hw, Option.bind_some]; rfl

/-! ### Costs -/
def costV (c : api_Cost) : Bool := btw c.Generic 99 && (btw c.X 2 && c.Color.list.all fun n => btw n 9)
theorem mana_Is_eq (c : api_Cost) : mana_Is c = some (costV c) := by
  unfold mana_Is mana_Is_0
  simp only [Option.bind_some, endO_inl]
  have := all_list (st := fun i => mana_Is_S.L0 c c.Color (i : Int)) (step := mana_Is_step) (bad := false) c.Color.list (fun n => btw n 9) (fun i x hx => by
    have hi := (List.getElem?_eq_some_iff.1 hx).1
    have hi : i < 5 := hi
    show mana_Is_L0 _ _ _ = _
    unfold mana_Is_L0
    rw [decide_eq_true (by omega), idx_at hx, wrap64 (by omega) (by omega)]
    simp only [cond_true, Option.bind_some]
    unfold btw
    by_cases h1 : x < 0
    · rw [decide_eq_true h1, decide_eq_false (show ¬ x ≥ 0 by omega)]; rfl
    · rw [decide_eq_false h1, decide_eq_true (show x ≥ 0 by omega)]
      by_cases h2 : x > 9
      · rw [decide_eq_true h2, decide_eq_false (show ¬ x ≤ 9 by omega)]; rfl
      · rw [decide_eq_false h2, decide_eq_true (show x ≤ 9 by omega)]; rfl)
  rw [show (mana_Is_S.L0 c c.Color 0) = .L0 c c.Color ((0 : Nat) : Int) from rfl, this]
  have he : runO mana_Is_step (.L0 c c.Color ((c.Color.list.length : Nat) : Int)) = some (btw c.Generic 99 && btw c.X 2) := by
    have e : mana_Is_step (.L0 c c.Color ((c.Color.list.length : Nat) : Int)) = some (.inr (btw c.Generic 99 && btw c.X 2)) := by
      show mana_Is_L0 c c.Color 5 = _
      unfold mana_Is_L0 btw
      rw [decide_eq_false (by omega)]
      cases decide (c.Generic ≥ 0) <;> cases decide (c.Generic ≤ 99) <;> cases decide (c.X ≥ 0) <;> rfl
    exact runO_inr e
  rw [he]
  unfold costV
  cases c.Color.list.all fun n => btw n 9 <;> cases btw c.Generic 99 <;> cases btw c.X 2 <;> rfl
theorem ref_cost_eq (c : api_Cost) : R08_Is c = some (costV c) := by
  unfold R08_Is R08_Is_0
  have hl : runO R08_Is_step (.L0 c 0) = some (c.Color.list.all fun n => btw n 9) := by
    have := all_list (st := fun i => R08_Is_S.L0 c (i : Int)) (step := R08_Is_step) (bad := false) c.Color.list (fun n => btw n 9) (fun i x hx => by
      have hi := (List.getElem?_eq_some_iff.1 hx).1
      have hi : i < 5 := hi
      show R08_Is_L0 _ _ = _
      unfold R08_Is_L0
      rw [decide_eq_true (by omega), idx_at hx, wrap64 (by omega) (by omega)]
      simp only [cond_true, Option.bind_some]
      unfold btw
      by_cases h1 : x < 0
      · rw [decide_eq_true h1, decide_eq_false (show ¬ x ≥ 0 by omega)]; rfl
      · rw [decide_eq_false h1, decide_eq_true (show x ≥ 0 by omega)]
        by_cases h2 : x > 9
        · rw [decide_eq_true h2, decide_eq_false (show ¬ x ≤ 9 by omega)]; rfl
        · rw [decide_eq_false h2, decide_eq_true (show x ≤ 9 by omega)]; rfl)
    rw [show (R08_Is_S.L0 c 0) = .L0 c ((0 : Nat) : Int) from rfl, this]
    have he : runO R08_Is_step (.L0 c ((c.Color.list.length : Nat) : Int)) = some true := by
      refine runO_inr ?_
      show R08_Is_L0 c 5 = _
      rfl
    rw [he]
    cases c.Color.list.all fun n => btw n 9 <;> rfl
  refine (gate_x fun _ => gate_x fun _ => gate_x fun _ => gate_x fun _ => (show Option.bind (some (Sum.inl (R08_Is_S.L0 c 0))) (endO R08_Is_step) = some (c.Color.list.all fun n => btw n 9) from hl)).trans ?_
  congr 1
  unfold costV btw
  rw [Bool.eq_iff_iff]
  simp only [Bool.and_eq_true, Bool.not_eq_true', decide_eq_false_iff_not, decide_eq_true_eq, ge_iff_le, gt_iff_lt, Int.not_lt]
  constructor
  · rintro ⟨h1, h2, h3, h4, h5⟩; exact ⟨⟨h1, h2⟩, ⟨h3, h4⟩, h5⟩
  · rintro ⟨⟨h1, h2⟩, ⟨h3, h4⟩, h5⟩; exact ⟨h1, h2, h3, h4, h5⟩
def valV (c : api_Cost) : Int := bif costV c then c.Generic + c.Color.a0 + c.Color.a1 + c.Color.a2 + c.Color.a3 + c.Color.a4 else 0
theorem cost_bounds {c : api_Cost} (h : costV c = true) : (0 ≤ c.Generic ∧ c.Generic ≤ 99) ∧ (0 ≤ c.X ∧ c.X ≤ 2) ∧ (0 ≤ c.Color.a0 ∧ c.Color.a0 ≤ 9) ∧ (0 ≤ c.Color.a1 ∧ c.Color.a1 ≤ 9) ∧ (0 ≤ c.Color.a2 ∧ c.Color.a2 ≤ 9) ∧ (0 ≤ c.Color.a3 ∧ c.Color.a3 ≤ 9) ∧ (0 ≤ c.Color.a4 ∧ c.Color.a4 ≤ 9) := by
  simpa [costV, btw, A5.list] using h
theorem value_eq (c : api_Cost) : mana_Value c 0 = some (valV c) ∧ R08_Value c 0 = some (valV c) := by
  unfold mana_Value mana_Value_0 R08_Value R08_Value_0 valV
  rw [mana_Is_eq, ref_cost_eq]
  simp only [Option.bind_some]
  cases hc : costV c with
  | false => exact ⟨rfl, rfl⟩
  | true =>
    obtain ⟨g, x, h0, h1, h2, h3, h4⟩ := cost_bounds hc
    obtain ⟨gen, xx, ⟨a0, a1, a2, a3, a4⟩⟩ := c
    simp only at g x h0 h1 h2 h3 h4 ⊢
    simp only [Bool.not_true, cond_false, Option.bind_some, endO_inl, cond_true]
    constructor
    · have hw : ∀ {n : Int}, 0 ≤ n → n ≤ 1000 → IntKind.wrap .i64 n = n := fun h1 h2 => wrap64 (by omega) (by omega)
      have r : ∀ (v i y : Int), i < 5 → idx? [a0, a1, a2, a3, a4] i = some y → 0 ≤ v + y → v + y ≤ 1000 → 0 ≤ i → runO mana_Value_step (.L0 0 ⟨gen, xx, ⟨a0, a1, a2, a3, a4⟩⟩ v ⟨a0, a1, a2, a3, a4⟩ i) = runO mana_Value_step (.L0 0 ⟨gen, xx, ⟨a0, a1, a2, a3, a4⟩⟩ (v + y) ⟨a0, a1, a2, a3, a4⟩ (i + 1)) := fun v i y hi hy h1 h2 h0 => by
        refine runO_inl ?_
        show mana_Value_L0 _ _ _ _ _ = _
        unfold mana_Value_L0
        rw [decide_eq_true hi, show idx? (A5.list (⟨a0, a1, a2, a3, a4⟩ : A5 Int)) i = some y from hy, Option.bind_some, hw h1 h2, wrap64 (by omega) (by omega)]; rfl
      rw [r gen 0 a0 (by omega) rfl (by omega) (by omega) (by omega), r _ _ a1 (by omega) rfl (by omega) (by omega) (by omega), r _ _ a2 (by omega) rfl (by omega) (by omega) (by omega), r _ _ a3 (by omega) rfl (by omega) (by omega) (by omega), r _ _ a4 (by omega) rfl (by omega) (by omega) (by omega)]
      refine runO_inr ?_
      show mana_Value_L0 _ _ _ _ 5 = _
      unfold mana_Value_L0
      have e1 := (mul_zero (a := xx) (by omega) (by omega)).1
      have e2 := (add_small (a := gen + a0 + a1 + a2 + a3 + a4) (b := 0) (by omega) (by omega) (by omega) (by omega)).1
      rw [decide_eq_false (by omega)]
      simp only [cond_false, show maxI 0 0 = 0 from rfl, e1, e2, Option.bind_some, Int.add_zero]
    · have r : ∀ (v i y : Int), i < 5 → idx? [a0, a1, a2, a3, a4] i = some y → 0 ≤ v → v ≤ 1000 → 0 ≤ y → y ≤ 9 → 0 ≤ i → runO R08_Value_step (.L0 0 ⟨gen, xx, ⟨a0, a1, a2, a3, a4⟩⟩ v i) = runO R08_Value_step (.L0 0 ⟨gen, xx, ⟨a0, a1, a2, a3, a4⟩⟩ (v + y) (i + 1)) := fun v i y hi hy h1 h2 h3 h4 h0 => by
        refine runO_inl ?_
        show R08_Value_L0 _ _ _ _ = _
        unfold R08_Value_L0
        rw [decide_eq_true hi, show idx? (A5.list (⟨a0, a1, a2, a3, a4⟩ : A5 Int)) i = some y from hy, Option.bind_some, (add_small h1 (by omega) h3 (by omega)).2, Option.bind_some, wrap64 (by omega) (by omega)]; rfl
      rw [r gen 0 a0 (by omega) rfl (by omega) (by omega) (by omega) (by omega) (by omega), r _ _ a1 (by omega) rfl (by omega) (by omega) (by omega) (by omega) (by omega), r _ _ a2 (by omega) rfl (by omega) (by omega) (by omega) (by omega) (by omega), r _ _ a3 (by omega) rfl (by omega) (by omega) (by omega) (by omega) (by omega), r _ _ a4 (by omega) rfl (by omega) (by omega) (by omega) (by omega) (by omega)]
      refine runO_inr ?_
      show R08_Value_L0 _ _ _ 5 = _
      unfold R08_Value_L0
      have e1 := (mul_zero (a := xx) (by omega) (by omega)).2
      have e2 := (add_small (a := gen + a0 + a1 + a2 + a3 + a4) (b := 0) (by omega) (by omega) (by omega) (by omega)).2
      rw [decide_eq_false (by omega), decide_eq_false (by omega)]
      simp only [cond_false, e1, e2, Option.bind_some, Int.add_zero]

/-! ### Objects -/
def metV (b : api_Bound) (n : Int) : Bool := bif b.Kind == 0 then true else bif b.Kind == 1 then decide (n ≥ b.N) else bif b.Kind == 2 then decide (n ≤ b.N) else bif b.Kind == 3 then n == b.N else false
theorem meets_eq (b : api_Bound) (n : Int) : num_Meets b n = some (metV b n) ∧ R01_Meets b n = some (metV b n) := by
  unfold num_Meets num_Meets_0 R01_Meets R01_Meets_0 metV
  cases b.Kind == 0 <;> cases b.Kind == 1 <;> cases b.Kind == 2 <;> cases b.Kind == 3 <;> exact ⟨rfl, rfl⟩
def maskV (h s n : Int) : Bool := (s == 0 || bitOp .and .i64 h s != 0) && bitOp .and .i64 h n == 0
def oneV (a b w : Int) : Bool := bif w == 1 then a == b else bif w != 2 then true else a != b
def tapV (t : Bool) (w : Int) : Bool := bif w == 1 then t else bif w != 2 then true else !t
def creV (t : api_Traits) : Bool := bitOp .and .i64 t.Line.Types 1 != 0
def bouV (cr : Bool) (b : api_Bound) (n : Int) : Bool := b.Kind == 0 || (cr && metV b n)
def endV (t : api_Traits) (f : api_Filter) : Bool := bouV (creV t) f.Power t.Power && (bouV (creV t) f.Tough t.Tough && metV f.Value (valV t.Cost))
def keyV (t : api_Traits) (f : api_Filter) : Bool := bitOp .and .i64 t.Keys f.Keys == f.Keys
def subsV (t : api_Traits) (f : api_Filter) : Bool := f.Sub == [] || among t.Line.Subs f.Sub
def matV (o : api_Object) (t : api_Traits) (you source : Int) (f : api_Filter) : Bool :=
  filV f && (o.Zone == f.Zone && (oneV t.Control you f.Who && (oneV o.Id source f.Self && (maskV t.Line.Types f.Types f.NotTypes && (maskV t.Colors f.Colors f.NotColors &&
    (subsV t f && (keyV t f && (tapV o.Tapped f.Tap && endV t f))))))))
theorem masks_eq (h s n : Int) : match_Object_1 h s n = some (maskV h s n) := by
  unfold match_Object_1 match_Object_1_0 maskV
  cases s == 0 <;> cases bitOp .and .i64 h s != 0 <;> rfl
theorem bound_fn_eq (b : api_Bound) (n : Int) (cr : Bool) : match_Object_2__box b n cr = some (bouV cr b n) := by
  unfold match_Object_2__box match_Object_2__box_0 bouV
  rw [(meets_eq b n).1]
  cases b.Kind == 0 <;> cases cr <;> cases metV b n <;> rfl
theorem m4 (t : api_Traits) (f : api_Filter) : (match_Object_L4 t f (creV t)).bind (endO match_Object_step) = some (endV t f) := by
  unfold match_Object_L4 endV
  simp only [bound_fn_eq, (value_eq _).1, (meets_eq _ _).1, Option.bind_some]
  exact gate_p fun _ => gate_p fun _ => rfl
theorem two_ways (a b : Int) : (a == 1) = false ∨ (b = a → (b == 2) = false) := by
  by_cases h : a = 1
  · exact .inr fun e => by rw [e, h]; rfl
  · exact .inl (beq_eq_false_iff_ne.2 h)
theorem m3 (o : api_Object) (t : api_Traits) (f : api_Filter) (v : Bool) : (match_Object_L3 o t f (creV t) v).bind (endO match_Object_step) = some (!v && (tapV o.Tapped f.Tap && endV t f)) := by
  unfold match_Object_L3
  refine gate_x fun _ => ?_
  have hm := m4 t f
  unfold tapV
  by_cases h1 : f.Tap = 1
  · rw [show (f.Tap == 1) = true from by rw [h1]; rfl, show (f.Tap == 2) = false from by rw [h1]; rfl]
    cases o.Tapped
    · rfl
    · simpa using hm
  · rw [show (f.Tap == 1) = false from beq_eq_false_iff_ne.2 h1]
    cases h2 : f.Tap == 2 with
    | false => simpa [bne, h2] using hm
    | true =>
      cases o.Tapped
      · simpa [bne, h2] using hm
      · simp [bne, h2, endO_inr]
theorem m2 (o : api_Object) (t : api_Traits) (f : api_Filter) (v : Bool) (ht : t.Line.Subs.length ≤ 4611686018427387904) :
    (match_Object_L2 o t f (creV t) v).bind (endO match_Object_step) = some (!v && (subsV t f && (keyV t f && (tapV o.Tapped f.Tap && endV t f)))) := by
  unfold match_Object_L2
  refine gate_x fun _ => ?_
  have hk : keyword_Has t.Keys f.Keys = some (keyV t f) := rfl
  simp only [HasSub_eq _ _ ht, hk, Option.bind_some]
  unfold subsV
  cases f.Sub == [] with
  | true => simp only [Bool.not_true, cond_false, Bool.true_or, Bool.true_and]; rw [m3, Bool.not_not]
  | false =>
    simp only [Bool.not_false, cond_true, Bool.false_or]
    cases among t.Line.Subs f.Sub with
    | false => simp only [Bool.not_false, cond_true]; rw [m3]; rfl
    | true => simp only [Bool.not_true, cond_false]; rw [m3, Bool.not_not]; rfl
theorem m1 (o : api_Object) (t : api_Traits) (f : api_Filter) (v : Bool) (ht : t.Line.Subs.length ≤ 4611686018427387904) :
    (match_Object_L1 o t f (creV t) v).bind (endO match_Object_step) = some (!v && (maskV t.Line.Types f.Types f.NotTypes && (maskV t.Colors f.Colors f.NotColors && (subsV t f && (keyV t f && (tapV o.Tapped f.Tap && endV t f)))))) := by
  unfold match_Object_L1
  refine gate_x fun _ => ?_
  simp only [masks_eq, Option.bind_some]
  cases maskV t.Line.Types f.Types f.NotTypes with
  | false => simp only [Bool.not_false, cond_true]; rw [m2 o t f _ ht]; rfl
  | true => simp only [Bool.not_true, cond_false]; rw [m2 o t f _ ht, Bool.not_not]; rfl
theorem m0 (o : api_Object) (t : api_Traits) (source : Int) (f : api_Filter) (v : Bool) (ht : t.Line.Subs.length ≤ 4611686018427387904) :
    (match_Object_L0 source o t f (creV t) v).bind (endO match_Object_step) = some (!v && (oneV o.Id source f.Self && (maskV t.Line.Types f.Types f.NotTypes && (maskV t.Colors f.Colors f.NotColors && (subsV t f && (keyV t f && (tapV o.Tapped f.Tap && endV t f))))))) := by
  unfold match_Object_L0
  refine gate_x fun _ => ?_
  have hm := fun v => m1 o t f v ht
  unfold oneV
  by_cases h1 : f.Self = 1
  · rw [show (f.Self == 1) = true from by rw [h1]; rfl, show (f.Self == 2) = false from by rw [h1]; rfl]
    cases h : o.Id == source
    · simp only [cond_true, bne, h, Bool.not_false]; rw [hm]; rfl
    · simp only [cond_true, bne, h, Bool.not_true, cond_false]; rw [hm]; rfl
  · rw [show (f.Self == 1) = false from beq_eq_false_iff_ne.2 h1]
    cases h2 : f.Self == 2 with
    | false => simp only [cond_false, bne, h2, Bool.not_false, cond_true]; rw [hm]; rfl
    | true => simp only [cond_false, bne, h2, Bool.not_true, cond_true]; rw [hm]
theorem match_eq (o : api_Object) (t : api_Traits) (you source : Int) (f : api_Filter) (ht : t.Line.Subs.length ≤ 4611686018427387904) : match_Object o t you source f = some (matV o t you source f) := by
  unfold match_Object match_Object_0 matV
  rw [filter_Is_eq, Option.bind_some]
  refine gate_n fun _ => ?_
  have hz : (o.Zone != f.Zone) = !(o.Zone == f.Zone) := rfl
  rw [hz]
  refine gate_n fun _ => ?_
  have hm := fun v => m0 o t source f v ht
  show Option.bind (bif (f.Who == 1) then bif (t.Control != you) then match_Object_L0 source o t f (creV t) _ else bif (f.Who == 2) then match_Object_L0 source o t f (creV t) _ else match_Object_L0 source o t f (creV t) _ else bif (f.Who == 2) then match_Object_L0 source o t f (creV t) _ else match_Object_L0 source o t f (creV t) _) _ = _
  unfold oneV
  by_cases h1 : f.Who = 1
  · rw [show (f.Who == 1) = true from by rw [h1]; rfl, show (f.Who == 2) = false from by rw [h1]; rfl]
    cases h : t.Control == you
    · simp only [cond_true, bne, h, Bool.not_false]; rw [hm]; rfl
    · simp only [cond_true, bne, h, Bool.not_true, cond_false]; rw [hm]; rfl
  · rw [show (f.Who == 1) = false from beq_eq_false_iff_ne.2 h1]
    cases h2 : f.Who == 2 with
    | false => simp only [cond_false, bne, h2, Bool.not_false, cond_true]; rw [hm]; rfl
    | true => simp only [cond_false, bne, h2, Bool.not_true, cond_true]; rw [hm]; rfl

/-! ### The reference -/
theorem b0 (t : api_Traits) (f : api_Filter) : (R29_bounds_L0 t f (creV t)).bind (endO R29_bounds_step) = some (bouV (creV t) f.Tough t.Tough && metV f.Value (valV t.Cost)) := by
  unfold R29_bounds_L0 bouV
  simp only [(value_eq _).2, (meets_eq _ _).2, Option.bind_some, bne]
  cases f.Tough.Kind == 0 <;> cases creV t <;> cases metV f.Tough t.Tough <;> rfl
theorem bounds_eq (t : api_Traits) (f : api_Filter) : R29_bounds t f = some (endV t f) := by
  unfold R29_bounds R29_bounds_0 endV
  have hs : R29_sharing t.Line.Types 1 = some (creV t) := rfl
  rw [hs, Option.bind_some]
  simp only [(meets_eq _ _).2, Option.bind_some, bne]
  have hb := b0 t f
  unfold bouV at hb ⊢
  cases f.Power.Kind == 0 with
  | true => simpa using hb
  | false =>
    cases hc : creV t with
    | false => rfl
    | true =>
      rw [hc] at hb
      cases metV f.Power t.Power
      · rfl
      · simpa using hb
theorem sharing_eq (a b : Int) : R29_sharing a b = some (bitOp .and .i64 a b != 0) := rfl
theorem r1 (t : api_Traits) (f : api_Filter) (ht : t.Line.Subs.length ≤ 4611686018427387904) : (R29_Object_L1 t f).bind (endO R29_Object_step) = some (subsV t f && (keyV t f && endV t f)) := by
  unfold R29_Object_L1 subsV
  have hk : R11_Has t.Keys f.Keys = some (keyV t f) := rfl
  simp only [ref_HasSub_eq _ _ ht, hk, bounds_eq, Option.bind_some]
  cases f.Sub == [] with
  | true => simp only [Bool.not_true, cond_false, Bool.true_or, Bool.true_and]; exact gate_n fun _ => rfl
  | false => simp only [Bool.not_false, cond_true, Bool.false_or]; exact gate_n fun _ => gate_n fun _ => rfl
theorem mask_gate {S : Type} {step : S → Option (S ⊕ Bool)} {r : Bool} {k : Option (S ⊕ Bool)} (h s n : Int) (hk : k.bind (endO step) = some r) :
    (bif (s != 0) then bif (!(bitOp .and .i64 h s != 0)) then some (.inr false) else bif (bitOp .and .i64 h n != 0) then some (.inr false) else k else bif (bitOp .and .i64 h n != 0) then some (.inr false) else k).bind (endO step) = some (maskV h s n && r) := by
  unfold maskV
  simp only [bne]
  cases s == 0 <;> cases bitOp .and .i64 h s == 0 <;> cases bitOp .and .i64 h n == 0 <;> first | rfl | simpa using hk
theorem r0 (t : api_Traits) (f : api_Filter) (ht : t.Line.Subs.length ≤ 4611686018427387904) : (R29_Object_L0 t f).bind (endO R29_Object_step) = some (maskV t.Colors f.Colors f.NotColors && (subsV t f && (keyV t f && endV t f))) := by
  unfold R29_Object_L0
  simp only [sharing_eq, Option.bind_some]
  exact mask_gate _ _ _ (r1 t f ht)
theorem ref_match_eq (o : api_Object) (t : api_Traits) (you source : Int) (f : api_Filter) (ht : t.Line.Subs.length ≤ 4611686018427387904) : R29_Object o t you source f = some (matV o t you source f) := by
  unfold R29_Object R29_Object_0
  have h1 : ∀ a b w, R29_who a b w = some (oneV a b w) := fun a b w => by unfold R29_who R29_who_0 oneV; cases w == 1 <;> cases w != 2 <;> rfl
  have h2 : ∀ a b w, R29_self a b w = some (oneV a b w) := fun a b w => by unfold R29_self R29_self_0 oneV; cases w == 1 <;> cases w != 2 <;> rfl
  have h3 : ∀ a w, R29_tap a w = some (tapV a w) := fun a w => by unfold R29_tap R29_tap_0 tapV; cases w == 1 <;> cases w != 2 <;> rfl
  simp only [ref_Is_eq, h1, h2, h3, sharing_eq, Option.bind_some]
  have hz : (o.Zone != f.Zone) = !(o.Zone == f.Zone) := rfl
  rw [hz]
  refine (gate_n fun _ => gate_n fun _ => gate_n fun _ => gate_n fun _ => gate_n fun _ => mask_gate _ _ _ (r0 t f ht)).trans ?_
  congr 1
  unfold matV
  cases tapV o.Tapped f.Tap <;> simp
end Go.PW
