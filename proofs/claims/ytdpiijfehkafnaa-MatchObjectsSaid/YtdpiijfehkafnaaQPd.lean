import Derived.Test.YtdpiijfehkafnaaQPc
namespace Go.PW

/-! ### What only has to end -/
theorem ends_list {S R α : Type} {step : S → Option (S ⊕ R)} {st : Nat → S} (xs : List α) (h : ∀ i x, i < xs.length → xs[i]? = some x → step (st i) = some (.inl (st (i + 1))) ∨ ∃ r, step (st i) = some (.inr r))
    (hend : ∃ r, runO step (st xs.length) = some r) : ∃ r, runO step (st 0) = some r :=
  ends xs.length (fun i hi => h i _ hi (List.getElem?_eq_getElem hi)) hend
abbrev Bnd (n : Nat) : Prop := n ≤ 4611686018427387904
theorem bnd_of {s : Nat} {α : Type} {Q : α → Prop} {x : List α} (h : OkL s Q x) (hs : 0 < s) : Bnd x.length := by
  have := len_le h.1 hs
  omega
theorem light29_some (x : cardgamelaw29_Ask) (f : api_Filter) (h : Bnd x.Traits.Line.Subs.length) : ∃ b, L29_light x f = some b := by
  unfold L29_light L29_light_0
  cases decide ((f.Sub.length : Int) > 100)
  · cases decide ((x.Traits.Line.Subs.length : Int) > 20)
    · simp only [cond_false, Option.bind_some, endO_inl]
      refine ends_list (st := fun i => L29_light_S.L0 x.Traits.Line.Subs (x.Traits.Line.Subs.length : Int) (i : Int)) x.Traits.Line.Subs (fun i s hi hx => ?_) ⟨true, runO_inr ?_⟩
      · show L29_light_L0 _ _ _ = _ ∨ ∃ r, L29_light_L0 _ _ _ = _
        unfold L29_light_L0
        rw [decide_eq_true (by omega), idx_at hx, wrap_succ hi h]
        simp only [cond_true, Option.bind_some]
        cases decide ((s.length : Int) > 100)
        · exact .inl rfl
        · exact .inr ⟨_, rfl⟩
      · show L29_light_L0 _ _ _ = _
        unfold L29_light_L0
        rw [decide_eq_false (by omega)]; rfl
    · exact ⟨false, rfl⟩
  · exact ⟨false, rfl⟩
def szE (e : api_Effect) : Prop := Bnd e.Mods.length
def szA (a : api_Ability) : Prop := Bnd a.Mods.length ∧ Bnd a.Specs.length ∧ Bnd a.Effects.length ∧ ∀ e ∈ a.Effects, szE e
def szS (s : api_State) : Prop := Bnd s.Players.length ∧ Bnd s.Stack.length ∧ (∀ i ∈ s.Stack, szA i.Ability) ∧ Bnd s.Waiting.length ∧ (∀ i ∈ s.Waiting, szA i.Ability) ∧ Bnd s.Conts.length ∧ (∀ c ∈ s.Conts, Bnd c.Mods.length) ∧ s.Objects.length * 128 ≤ reachBytes
theorem szE_of {e : api_Effect} (h : ok_api_Effect e) : szE e := by
  obtain ⟨_, _, _, _, _, _, _, _, h⟩ := h
  exact bnd_of h (by decide)
theorem szA_of {a : api_Ability} (h : ok_api_Ability a) : szA a := by
  obtain ⟨_, _, h1, _, _, _, _, h2, h3, _⟩ := h
  exact ⟨bnd_of h1 (by decide), bnd_of h2 (by decide), bnd_of h3 (by decide), fun e he => szE_of (h3.2 e he)⟩
theorem szS_of {s : api_State} (h : ok_api_State s) : szS s := by
  obtain ⟨h1, h2, _, _, h3, h4, h5, _⟩ := h
  exact ⟨bnd_of h1 (by decide), bnd_of h3 (by decide), fun i hi => szA_of (h3.2 i hi).2.2.2.2.2.2.1, bnd_of h4 (by decide), fun i hi => szA_of (h4.2 i hi).2.2.1, bnd_of h5 (by decide), fun c hc => bnd_of (h5.2 c hc).2.2.2.2.2 (by decide), h2.1⟩
theorem light17_some (e : api_Effect) (h : szE e) : ∃ b, R17_Light e = some b := by
  unfold R17_Light R17_Light_0
  refine esc ?_
  refine esc ?_
  refine esc ?_
  refine esc ?_
  refine esc ?_
  simp only [cond_false, Option.bind_some, endO_inl]
  refine ends_list (st := fun i => R17_Light_S.L0 e (i : Int)) e.Mods (fun i s hi hx => ?_) ⟨true, runO_inr ?_⟩
  · show R17_Light_L0 _ _ = _ ∨ ∃ r, R17_Light_L0 _ _ = _
    unfold R17_Light_L0
    rw [decide_eq_true (by omega), idx_at hx, wrap_succ hi h]
    simp only [cond_true, Option.bind_some]
    cases decide ((s.Sub.length : Int) > 100) <;> cases decide ((s.Filter.Sub.length : Int) > 100) <;> first | exact .inl rfl | exact .inr ⟨_, rfl⟩
  · show R17_Light_L0 _ _ = _
    unfold R17_Light_L0
    rw [decide_eq_false (by omega)]; rfl
theorem lights17_some (l : List api_Effect) (h : Bnd l.length) (hl : ∀ e ∈ l, szE e) : ∃ b, R17_LightList l = some b := by
  unfold R17_LightList R17_LightList_0
  simp only [Option.bind_some, endO_inl]
  refine ends_list (st := fun i => R17_LightList_S.L0 l (i : Int)) l (fun i s hi hx => ?_) ⟨_, runO_inr (r := decide ((l.length : Int) ≤ 20)) ?_⟩
  · show R17_LightList_L0 _ _ = _ ∨ ∃ r, R17_LightList_L0 _ _ = _
    unfold R17_LightList_L0
    obtain ⟨b, hb⟩ := light17_some s (hl s (List.mem_of_getElem? hx))
    rw [decide_eq_true (by omega), idx_at hx, wrap_succ hi h]
    simp only [cond_true, Option.bind_some, hb]
    cases b
    · exact .inr ⟨_, rfl⟩
    · exact .inl rfl
  · show R17_LightList_L0 _ _ = _
    unfold R17_LightList_L0
    rw [decide_eq_false (by omega)]; rfl
theorem light20_some (a : api_Ability) (h : szA a) : ∃ b, R20_Light a = some b := by
  obtain ⟨h1, h2, h3, h4⟩ := h
  unfold R20_Light R20_Light_0
  obtain ⟨b, hb⟩ := lights17_some a.Effects h3 h4
  refine esc ?_
  refine esc ?_
  refine esc ?_
  refine esc ?_
  refine esc ?_
  rw [hb]
  cases b
  · exact ⟨false, rfl⟩
  simp only [Bool.not_true, cond_false, Option.bind_some, endO_inl]
  refine ends_list (st := fun i => R20_Light_S.L0 a (i : Int)) a.Mods (fun i s hi hx => ?_) ?_
  · show R20_Light_L0 _ _ = _ ∨ ∃ r, R20_Light_L0 _ _ = _
    unfold R20_Light_L0
    rw [decide_eq_true (by omega), idx_at hx, wrap_succ hi h1]
    simp only [cond_true, Option.bind_some]
    cases decide ((s.Sub.length : Int) > 100) <;> cases decide ((s.Filter.Sub.length : Int) > 100) <;> first | exact .inl rfl | exact .inr ⟨_, rfl⟩
  · have e : R20_Light_step (.L0 a (a.Mods.length : Int)) = some (.inl (.L1 a ((0 : Nat) : Int))) := by
      show R20_Light_L0 _ _ = _
      unfold R20_Light_L0
      rw [decide_eq_false (by omega)]; rfl
    show ∃ r, runO R20_Light_step (.L0 a (a.Mods.length : Int)) = some r
    rw [runO_inl e]
    refine ends_list (st := fun i => R20_Light_S.L1 a (i : Int)) a.Specs (fun i s hi hx => ?_) ⟨true, runO_inr ?_⟩
    · show R20_Light_L1 _ _ = _ ∨ ∃ r, R20_Light_L1 _ _ = _
      unfold R20_Light_L1
      rw [decide_eq_true (by omega), idx_at hx, wrap_succ hi h2]
      simp only [cond_true, Option.bind_some]
      cases decide ((s.Filter.Sub.length : Int) > 100)
      · exact .inl rfl
      · exact .inr ⟨_, rfl⟩
    · show R20_Light_L1 _ _ = _
      unfold R20_Light_L1
      rw [decide_eq_false (by omega)]; rfl
theorem with_some {α β : Type} {z : Option α} {k : α → Option β} {P : Option β → Prop} (hz : ∃ b, z = some b) (h : ∀ b, P (k b)) : P (z.bind k) := by
  obtain ⟨b, rfl⟩ := hz
  exact h b
theorem hA (a : api_Ability) (h1 : Bnd a.Mods.length) (h2 : a.Specs = []) (h3 : a.Effects = []) : ∃ b, R20_Light a = some b :=
  light20_some a ⟨h1, by rw [h2]; exact Nat.zero_le _, by rw [h3]; exact Nat.zero_le _, fun e he => by rw [h3] at he; cases he⟩
theorem small_some (s : api_State) (h : szS s) : ∃ b, R26_Small s = some b := by
  obtain ⟨h1, h2, h3, h4, h5, h6, h7, _⟩ := h
  unfold R26_Small R26_Small_0
  simp only [Option.bind_some, endO_inl]
  have e4 : ∃ r, runO R26_Small_step (.L4 s ((0 : Nat) : Int)) = some r := by
    refine ends_list (st := fun i => R26_Small_S.L4 s (i : Int)) s.Conts (fun i c hi hx => ?_) ⟨true, runO_inr ?_⟩
    · show R26_Small_L4 _ _ = _ ∨ ∃ r, R26_Small_L4 _ _ = _
      unfold R26_Small_L4
      rw [decide_eq_true (by omega), idx_at hx, wrap_succ hi h6]
      simp only [cond_true, Option.bind_some]
      cases decide ((c.Objects.length : Int) > 300)
      case true => exact .inr ⟨_, rfl⟩
      simp only [cond_false]
      refine with_some (P := fun (o : Option (R26_Small_S ⊕ Bool)) => o = some (Sum.inl (R26_Small_S.L4 s ((i + 1 : Nat) : Int))) ∨ ∃ r, o = some (Sum.inr r)) ?hz fun b => ?_
      case hz => exact hA _ (h7 c (List.mem_of_getElem? hx)) rfl rfl
      cases b
      · exact .inr ⟨_, rfl⟩
      · exact .inl rfl
    · show R26_Small_L4 _ _ = _
      unfold R26_Small_L4
      rw [decide_eq_false (by omega)]; rfl
  have e3 : ∃ r, runO R26_Small_step (.L3 s ((0 : Nat) : Int)) = some r := by
    refine ends_list (st := fun i => R26_Small_S.L3 s (i : Int)) s.Waiting (fun i c hi hx => ?_) ?_
    · show R26_Small_L3 _ _ = _ ∨ ∃ r, R26_Small_L3 _ _ = _
      unfold R26_Small_L3
      obtain ⟨b, hb⟩ := light20_some _ (h5 c (List.mem_of_getElem? hx))
      rw [decide_eq_true (by omega), idx_at hx, wrap_succ hi h4]
      simp only [cond_true, Option.bind_some, hb]
      cases b
      · exact .inr ⟨_, rfl⟩
      · exact .inl rfl
    · have e : R26_Small_step (.L3 s (s.Waiting.length : Int)) = some (.inl (.L4 s ((0 : Nat) : Int))) := by
        show R26_Small_L3 _ _ = _
        unfold R26_Small_L3
        rw [decide_eq_false (by omega)]; rfl
      show ∃ r, runO R26_Small_step (.L3 s (s.Waiting.length : Int)) = some r
      rw [runO_inl e]; exact e4
  have e2 : ∃ r, runO R26_Small_step (.L2 s ((0 : Nat) : Int)) = some r := by
    refine ends_list (st := fun i => R26_Small_S.L2 s (i : Int)) s.Stack (fun i c hi hx => ?_) ?_
    · show R26_Small_L2 _ _ = _ ∨ ∃ r, R26_Small_L2 _ _ = _
      unfold R26_Small_L2
      obtain ⟨b, hb⟩ := light20_some _ (h3 c (List.mem_of_getElem? hx))
      rw [decide_eq_true (by omega), idx_at hx, wrap_succ hi h2]
      simp only [cond_true, Option.bind_some, hb]
      cases decide ((c.Targets.length : Int) > 20) <;> cases b <;> first | exact .inl rfl | exact .inr ⟨_, rfl⟩
    · have e : R26_Small_step (.L2 s (s.Stack.length : Int)) = some (.inl (.L3 s ((0 : Nat) : Int))) := by
        show R26_Small_L2 _ _ = _
        unfold R26_Small_L2
        rw [decide_eq_false (by omega)]; rfl
      show ∃ r, runO R26_Small_step (.L2 s (s.Stack.length : Int)) = some r
      rw [runO_inl e]; exact e3
  have e1 : ∀ v : Int, ∀ g, R26_Small_step g = R26_Small_L1 s v → ∃ r, runO R26_Small_step g = some r := by
    intro v g hg
    unfold R26_Small_L1 at hg
    cases hb : decide (v > 300) <;> rw [hb] at hg
    · cases hc : decide ((s.Players.length : Int) > 10) <;> rw [hc] at hg
      · rw [runO_inl hg]; exact e2
      · exact ⟨_, runO_inr hg⟩
    · exact ⟨_, runO_inr hg⟩
  have key : ∀ (d i : Nat) (v : Int), i + d = s.Players.length → ∃ r, runO R26_Small_step (.L0 s v (i : Int)) = some r := by
    intro d
    induction d with
    | zero =>
      intro i v hi
      refine e1 v _ ?_
      show R26_Small_L0 _ _ _ = _
      unfold R26_Small_L0
      rw [decide_eq_false (by omega)]; rfl
    | succ d ih =>
      intro i v hi
      have hlt : i < s.Players.length := by omega
      cases h10 : decide ((i : Int) < 10) with
      | false =>
        refine e1 v _ ?_
        show R26_Small_L0 _ _ _ = _
        unfold R26_Small_L0
        rw [decide_eq_true (by omega), h10]; rfl
      | true =>
        have hx := List.getElem?_eq_getElem hlt
        have e : ∃ v', R26_Small_step (.L0 s v (i : Int)) = some (.inl (.L0 s v' ((i + 1 : Nat) : Int))) := by
          refine ⟨IntKind.wrap .i64 ((IntKind.wrap .i64 ((IntKind.wrap .i64 (v + (s.Players[i].Library.length : Int))) + (s.Players[i].Hand.length : Int))) + (s.Players[i].Graveyard.length : Int)), ?_⟩
          show R26_Small_L0 _ _ _ = _
          unfold R26_Small_L0
          rw [decide_eq_true (by omega), h10, idx_at hx, wrap_succ hlt h1]
          rfl
        obtain ⟨v', e⟩ := e
        rw [runO_inl e]
        exact ih (i + 1) v' (by omega)
  exact key s.Players.length 0 _ (by omega)
theorem short_some (l : List api_Traits) (h : Bnd l.length) (hl : ∀ t ∈ l, Bnd t.Line.Subs.length) : ∃ b, L29_short l = some b := by
  unfold L29_short L29_short_0
  simp only [Option.bind_some, endO_inl]
  refine ends_list (st := fun i => L29_short_S.L0 l l (l.length : Int) (i : Int)) l (fun i t hi hx => ?_) ⟨_, runO_inr (r := decide ((l.length : Int) ≤ 300)) ?_⟩
  · show L29_short_L0 _ _ _ _ = _ ∨ ∃ r, L29_short_L0 _ _ _ _ = _
    unfold L29_short_L0
    rw [decide_eq_true (by omega), idx_at hx, wrap_succ hi h]
    simp only [cond_true, Option.bind_some]
    obtain ⟨b, hb⟩ := light29_some _ _ (show Bnd (cardgamelaw29_Ask.mk _ t 0 0).Traits.Line.Subs.length from hl t (List.mem_of_getElem? hx))
    rw [hb]
    cases b
    · exact .inr ⟨_, rfl⟩
    · exact .inl rfl
  · show L29_short_L0 _ _ _ _ = _
    unfold L29_short_L0
    rw [decide_eq_false (by omega)]; rfl

/-! ### The examples -/
theorem alive29 : L29_alive = some true := by
  unfold L29_alive L29_alive_0
  rw [match_eq, match_eq, match_eq, match_eq]
  · kernel_rfl
  all_goals exact Nat.zero_le _

/-! ### The laws -/
theorem law_MatchObjects (x : cardgamelaw29_Ask) (f : api_Filter) (h : Bnd x.Traits.Line.Subs.length) : L29_MatchObjects x f = some true := by
  unfold L29_MatchObjects L29_MatchObjects_0
  obtain ⟨b, hb⟩ := light29_some x f h
  rw [hb, Option.bind_some, alive29, match_eq _ _ _ _ _ h, ref_match_eq _ _ _ _ _ h]
  cases b
  · rfl
  · simp [endO_inr]
theorem law_MatchInvalid (x : cardgamelaw29_Ask) (f : api_Filter) (h : Bnd x.Traits.Line.Subs.length) : L29_MatchInvalid x f = some true := by
  unfold L29_MatchInvalid L29_MatchInvalid_0
  obtain ⟨b, hb⟩ := light29_some x f h
  rw [hb, Option.bind_some, alive29, match_eq _ _ _ _ _ h, ref_Is_eq]
  cases b
  · rfl
  · cases hf : filV f with
    | true => rfl
    | false => simp [matV, hf, endO_inr]
end Go.PW
