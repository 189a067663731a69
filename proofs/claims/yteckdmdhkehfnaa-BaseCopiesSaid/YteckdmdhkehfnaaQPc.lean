import Derived.Test.YteckdmdhkehfnaaQPb
namespace Go.PW

/-! ### The laws -/
def szAb (a : api_Ability) : Bool := decide (a.Mods.length * 176 ≤ reachBytes) && decide (a.Specs.length * 144 ≤ reachBytes) && decide (a.Effects.length * 560 ≤ reachBytes) && a.Effects.all fun e => decide (e.Mods.length * 176 ≤ reachBytes)
def szCb (c : api_Card) : Bool := decide (c.Line.Subs.length * 16 ≤ reachBytes) && decide (c.Abilities.length * 640 ≤ reachBytes) && c.Abilities.all szAb
theorem szA_b {a : api_Ability} (h : szAb a = true) : szA a := by
  simp only [szAb, Bool.and_eq_true, decide_eq_true_eq, List.all_eq_true] at h
  exact ⟨h.1.1.1, h.1.1.2, h.1.2, h.2⟩
theorem szC_b {cs : List api_Card} (h : cs.all szCb = true) : ∀ c ∈ cs, szC c := by
  intro c hc
  have := List.all_eq_true.1 h c hc
  simp only [szCb, Bool.and_eq_true, decide_eq_true_eq, List.all_eq_true] at this
  exact ⟨this.1.1, this.1.2, fun a ha => szA_b (this.2 a ha)⟩
theorem cond_t {α : Type} {b : Bool} {x y : α} (h : b = true) : (bif b then x else y) = x := by subst h; rfl
theorem alive_eq : L28_alive = some true := by
  unfold L28_alive L28_alive_0
  rw [Of_eq, Option.bind_some, Of_eq, Option.bind_some, Of_eq, Option.bind_some]
  rw [cond_t, cond_t, cond_t, cond_t, cond_t, cond_t, cond_t, cond_t, cond_t]
  · refine (congrArg (fun z => Option.bind (Option.bind z _) _) (by kernel_rfl : _ = some (⟨([97] : List UInt8), false, (⟨0, 0, (⟨1, 0, 0, 0, 0⟩ : (A5 Int))⟩ : api_Cost), 4, (⟨0, 0, ([] : (List (List UInt8)))⟩ : api_Line), 2, 0, 0, ([] : (List api_Ability))⟩ : api_Card))).trans ?_
    rw [Option.bind_some, Printed_eq, Option.bind_some, base_Same_eq, Option.bind_some, cond_t, base_Same_eq, Option.bind_some]
    · kernel_rfl
    · exact szT_of' (szC_b (by kernel_rfl)) _
    · kernel_rfl
    · exact szT_of' (szC_b (by kernel_rfl)) _
    · exact ⟨by decide, by decide, fun a h => by cases h⟩
  all_goals first | kernel_rfl | exact szC_b (by kernel_rfl)
theorem few_eq (c : api_Card) : L28_few c = some (decide ((c.Abilities.length : Int) ≤ 12)) := rfl
theorem law_BasePrints (c : api_Card) (h : szC c) : L28_BasePrints c = some true := by
  unfold L28_BasePrints L28_BasePrints_0
  rw [few_eq, Option.bind_some]
  by_cases hf : (c.Abilities.length : Int) ≤ 12
  · simp [hf, alive_eq, Printed_eq c h, ref_Printed_eq c h, ref_Same_eq _ _ (szT_print h), endO_inr]
  · simp [hf, endO_inr]
theorem law_BaseReads (cs : List api_Card) (o : api_Object) (h : ∀ c ∈ cs, szC c) : L28_BaseReads cs o = some true := by
  unfold L28_BaseReads L28_BaseReads_0
  by_cases hl : (cs.length : Int) > 40
  · simp [hl, endO_inr]
  · simp [hl, alive_eq, Of_eq cs o h, ref_Of_eq cs o h, ref_Same_eq _ _ (szT_of' h o), endO_inr]
theorem law_BaseSames (a b : api_Traits) (ha : szT a) (hb : szT b) : L28_BaseSames a b = some true := by
  unfold L28_BaseSames L28_BaseSames_0
  have e1 : ∀ y, base_Same a y = some (decide (a = y)) := fun y => base_Same_eq a y ha
  have e2 : ∀ y, R28_Same a y = some (decide (a = y)) := fun y => ref_Same_eq a y ha
  have e3 : ∀ y, base_Same b y = some (decide (b = y)) := fun y => base_Same_eq b y hb
  have hs : decide (b = a) = decide (a = b) := by rw [decide_eq_decide]; exact eq_comm
  obtain ⟨a0, a1, a2, ⟨c0, c1, c2⟩, a4, a5, a6, a7, a8⟩ := a
  by_cases h1 : (a7.length : Int) > 12
  · simp [h1, alive_eq, endO_inr]
  · by_cases h2 : (b.Abilities.length : Int) > 12
    · simp [h1, h2, alive_eq, endO_inr]
    · simp only [e1, e2, e3, hs, alive_eq, decide_eq_false h1, decide_eq_false h2, cond_false, cond_true, Option.bind_some, beq_self_eq_true, decide_true]
      have hd : ∀ z : api_Traits, decide (z = z) = true := fun z => decide_eq_true rfl
      cases a7 with
      | nil =>
        cases c2 with
        | nil => simp only [hd]; rfl
        | cons x xs =>
          have : (((x :: xs).length : Int) == 0) = false := beq_eq_false_iff_ne.2 (by simp; omega)
          simp only [this, hd]
          rfl
      | cons y ys =>
        have hy : (((y :: ys).length : Int) == 0) = false := beq_eq_false_iff_ne.2 (by simp; omega)
        cases c2 with
        | nil => simp only [hy, hd]; rfl
        | cons x xs =>
          have : (((x :: xs).length : Int) == 0) = false := beq_eq_false_iff_ne.2 (by simp; omega)
          simp only [this, hy, hd]
          rfl
theorem ofV_other (cs : List api_Card) (o p : api_Object) (h1 : o.Copy = p.Copy) (h2 : o.Copy < 0 → o.Card = p.Card) (h3 : o.Zone = p.Zone) (h4 : o.Control = p.Control) (h5 : o.Owner = p.Owner) : ofV cs p = ofV cs o := by
  unfold ofV
  rw [← h1, ← h3, ← h4, ← h5]
  by_cases hc : o.Copy < 0
  · rw [if_pos hc, if_pos hc, h2 hc]
  · rw [if_neg hc, if_neg hc]
theorem law_BaseCopies (cs : List api_Card) (o : api_Object) (h : ∀ c ∈ cs, szC c) : L28_BaseCopies cs o = some true := by
  have e1 : ∀ o, base_Of cs o = some (ofV cs o) := fun o => Of_eq cs o h
  have e2 : ∀ o y, base_Same (ofV cs o) y = some (decide (ofV cs o = y)) := fun o y => base_Same_eq _ y (szT_of' h o)
  unfold L28_BaseCopies L28_BaseCopies_0
  by_cases hl : (cs.length : Int) > 40
  · simp [hl, alive_eq, endO_inr]
  · simp only [decide_eq_false hl, cond_false, e1, e2, alive_eq, cond_true, Option.bind_some, ge_iff_le, int_beq]
    by_cases hc : 0 ≤ o.Copy
    · have hn : ¬ o.Copy < 0 := by omega
      simp only [decide_eq_true hc, cond_true]
      by_cases h1 : o.Copy < (cs.length : Int)
      · obtain ⟨x, hx, hm⟩ := idx_in cs o.Copy hc h1
        simp only [decide_eq_true h1, cond_true, hx, Option.bind_some, Printed_eq x (h x hm)]
        by_cases z0 : o.Zone = 0 <;> by_cases z5 : o.Zone = 5 <;> simp [z0, z5, ofV, cardAt, withC, hn, hx, endO_inr]
      · simp only [decide_eq_false h1, cond_false]
        have hx := idx_out cs o.Copy (by omega)
        by_cases z0 : o.Zone = 0 <;> by_cases z5 : o.Zone = 5 <;> simp [z0, z5, ofV, cardAt, withC, hn, hx, zeroT, endO_inr]
    · have hn : o.Copy < 0 := by omega
      simp only [decide_eq_false hc, cond_false]
      by_cases h0 : 0 ≤ o.Card
      · by_cases h1 : o.Card < (cs.length : Int)
        · obtain ⟨x, hx, hm⟩ := idx_in cs o.Card h0 h1
          simp only [decide_eq_true h0, decide_eq_true h1, cond_true, hx, Option.bind_some, Printed_eq x (h x hm)]
          by_cases z0 : o.Zone = 0 <;> by_cases z5 : o.Zone = 5 <;> simp [z0, z5, ofV, cardAt, withC, hn, hx, endO_inr]
        · simp only [decide_eq_true h0, decide_eq_false h1, cond_true, cond_false]
          have hx := idx_out cs o.Card (by omega)
          by_cases z0 : o.Zone = 0 <;> by_cases z5 : o.Zone = 5 <;> simp [z0, z5, ofV, cardAt, withC, hn, hx, zeroT, endO_inr]
      · simp only [decide_eq_false h0, cond_false]
        have hx := idx_out cs o.Card (by omega)
        by_cases z0 : o.Zone = 0 <;> by_cases z5 : o.Zone = 5 <;> simp [z0, z5, ofV, cardAt, withC, hn, hx, zeroT, endO_inr]
end Go.PW
