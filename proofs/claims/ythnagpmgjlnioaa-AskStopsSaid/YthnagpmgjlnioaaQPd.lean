import Derived.Test.YthnagpmgjlnioaaQPc
namespace Go.PW

abbrev PS := Nat × api_Choice × Bool × Bool
theorem PickA (as : List (List Int)) (s : PS) (c : api_Choice) (ha : okAs as) (hu : s.1 ≤ as.length) (hc : small c) :
    __ask_Asker__Pick__box (mkA as s) c = some ((pickP as s.1 s.2.1 s.2.2.1 s.2.2.2 c).1, mkA as (pickP as s.1 s.2.1 s.2.2.1 s.2.2.2 c).2) := Pick_eq as s.1 s.2.1 s.2.2.1 s.2.2.2 c ha hu hc
theorem PickR (as : List (List Int)) (s : PS) (c : api_Choice) (ha : okAs as) (hu : s.1 ≤ as.length) (hc : small c) :
    __R36_Asker__Pick__box (mkR as s) c = some ((pickP as s.1 s.2.1 s.2.2.1 s.2.2.2 c).1, mkR as (pickP as s.1 s.2.1 s.2.2.1 s.2.2.2 c).2) := ref_Pick_eq as s.1 s.2.1 s.2.2.1 s.2.2.2 c ha hu hc
def pendV (s : PS) : api_Choice × Bool := bif s.2.2.1 then (s.2.1, true) else (zeroC, false)
theorem PendA (as : List (List Int)) (s : PS) (h : small s.2.1) : __ask_Asker__Pending__box (mkA as s) = some (pendV s) := by
  obtain ⟨u, p, wt, bad⟩ := s
  unfold __ask_Asker__Pending__box __ask_Asker__Pending__box_0 mkA pendV
  simp only [copiedO_eq p h]
  cases wt <;> rfl
theorem PendR (as : List (List Int)) (s : PS) (h : small s.2.1) : __R36_Asker__Pending__box (mkR as s) = some (pendV s) := by
  obtain ⟨u, p, wt, bad⟩ := s
  unfold __R36_Asker__Pending__box __R36_Asker__Pending__box_0 mkR pendV
  simp only [ref_Copy_eq p h]
  cases wt <;> rfl
theorem small_zero : small zeroC := by unfold small; decide
theorem small_pend (s : PS) (h : small s.2.1) : small (pendV s).1 := by
  unfold pendV
  cases s.2.2.1
  · exact small_zero
  · exact h
theorem BadA (as : List (List Int)) (s : PS) : __ask_Asker__Bad__box (mkA as s) = some s.2.2.2 := rfl
theorem BadR (as : List (List Int)) (s : PS) : __R36_Asker__Bad__box (mkR as s) = some s.2.2.2 := rfl
theorem UsedA (as : List (List Int)) (s : PS) : __ask_Asker__Used__box (mkA as s) = some (s.1 : Int) := rfl
theorem UsedR (as : List (List Int)) (s : PS) : __R36_Asker__Used__box (mkR as s) = some (s.1 : Int) := rfl

/-! ### alive -/
def oneC : api_Choice := ⟨2, 0, 0, 0, 0, 0, [⟨5, 1, 0⟩, ⟨5, 2, 0⟩, ⟨5, 3, 0⟩]⟩
theorem one_eq : L36_one = some oneC := rfl
theorem small_one : small oneC := by unfold small; decide
theorem okAs_0 : okAs [] := ⟨by decide, fun a h => by cases h⟩
theorem okAs_2 : okAs [[2], [3]] := ⟨by decide, fun a h => by
  simp only [List.mem_cons, List.not_mem_nil, or_false] at h
  rcases h with rfl | rfl <;> decide⟩
def sa1 : PS := (pickP [] 0 zeroC false false oneC).2
def sb1 : PS := (pickP [[2], [3]] 0 zeroC false false oneC).2
def sb2 : PS := (pickP [[2], [3]] sb1.1 sb1.2.1 sb1.2.2.1 sb1.2.2.2 oneC).2
theorem cond_t {α : Type} {b : Bool} {x y : α} (h : b = true) : (bif b then x else y) = x := by subst h; rfl
theorem alive_eq : L36_alive = some true := by
  unfold L36_alive L36_alive_0
  rw [New_eq [] okAs_0, New_eq [[2], [3]] okAs_2, one_eq]
  have a1 : __ask_Asker__Pick__box ⟨[], 0, zeroC, false, false⟩ oneC = some ((pickP [] 0 zeroC false false oneC).1, mkA [] sa1) := PickA [] (0, zeroC, false, false) oneC okAs_0 (Nat.le_refl _) small_one
  have b1 : __ask_Asker__Pick__box ⟨[[2], [3]], 0, zeroC, false, false⟩ oneC = some ((pickP [[2], [3]] 0 zeroC false false oneC).1, mkA [[2], [3]] sb1) := PickA [[2], [3]] (0, zeroC, false, false) oneC okAs_2 (by decide) small_one
  have b2 : __ask_Asker__Pick__box (mkA [[2], [3]] sb1) oneC = some ((pickP [[2], [3]] sb1.1 sb1.2.1 sb1.2.2.1 sb1.2.2.2 oneC).1, mkA [[2], [3]] sb2) := PickA [[2], [3]] sb1 oneC okAs_2 (Nat.le_of_ble_eq_true (by kernel_rfl)) small_one
  have ps : small sa1.2.1 := by
    have : sa1.2.1 = oneC := by kernel_rfl
    rw [this]; exact small_one
  have i1 : R36_Ints (pickP [] 0 zeroC false false oneC).1 [0] = some true := by
    rw [Ints_eq _ _ (Nat.le_of_ble_eq_true (by kernel_rfl))]; kernel_rfl
  have i2 : R36_Ints (pickP [[2], [3]] 0 zeroC false false oneC).1 [2] = some true := by
    rw [Ints_eq _ _ (Nat.le_of_ble_eq_true (by kernel_rfl))]; kernel_rfl
  have i3 : R36_Ints (pickP [[2], [3]] sb1.1 sb1.2.1 sb1.2.2.1 sb1.2.2.2 oneC).1 [0] = some true := by
    rw [Ints_eq _ _ (Nat.le_of_ble_eq_true (by kernel_rfl))]; kernel_rfl
  have c1 : R36_SameChoice (pendV sa1).1 oneC = some true := by
    rw [SameChoice_eq _ _ (small_pend _ ps)]; kernel_rfl
  simp only [Option.bind_some, a1, b1, b2, PendA [] sa1 ps, i1, i2, i3, cond_true, c1, UsedA, BadA]
  rw [cond_t, cond_t, cond_t]
  all_goals first | kernel_rfl | rfl | skip

/-! ### The laws -/
theorem law_AskValid (c : api_Choice) (a : List Int) (hc : small c) : L36_AskValid c a = some true := by
  unfold L36_AskValid L36_AskValid_0
  obtain ⟨b, hb⟩ := light_some [c] [a] (by simp) (by simp)
  rw [hb, Option.bind_some]
  have hd := defV_len c hc
  cases b
  · simp [alive_eq, endO_inr]
  · simp [Valid_eq, ref_Valid_eq, Default_eq c hc, ref_Default_eq c hc, Forced_eq, ref_Forced_eq, Ints_eq (defV c) (defV c) (by omega), alive_eq, endO_inr]
theorem law_AskNil (c : api_Choice) (hc : small c) : L36_AskNil c = some true := by
  unfold L36_AskNil L36_AskNil_0
  obtain ⟨b, hb⟩ := light_some [c] [] (by simp) (by simp)
  rw [hb, Option.bind_some]
  have hd := defV_len c hc
  have p1 : __ask_Asker__Pick__nilp c = some (defV c) := by
    unfold __ask_Asker__Pick__nilp __ask_Asker__Pick__nilp_0
    rw [Default_eq c hc]; rfl
  have p2 : __ask_Asker__Pending__nilp = some (zeroC, false) := rfl
  have p3 : __ask_Asker__Bad__nilp = some false := rfl
  have p4 : __ask_Asker__Used__nilp = some 0 := rfl
  have p5 : R36_SameChoice zeroC (⟨0, 0, 0, 0, 0, 0, ([] : (List api_Option))⟩ : api_Choice) = some true := by
    rw [SameChoice_eq _ _ small_zero]; kernel_rfl
  cases b
  · simp [alive_eq, endO_inr]
  · simp [p1, p2, p3, p4, p5, ref_Default_eq c hc, Ints_eq (defV c) (defV c) (by omega), alive_eq, endO_inr]
theorem picks_run (as : List (List Int)) (cs : List api_Choice) (ha : okAs as) (hcs : cs.length ≤ 4611686018427387904) (hs : ∀ c ∈ cs, small c) : ∀ (d i : Nat), i + d = cs.length → ∀ s : PS, s.1 ≤ as.length → small s.2.1 → (s.2.2.1 && s.2.2.2) = false →
    runO L36_AskPicks_step (.L0 (mkA as s) (mkR as s) cs (cs.length : Int) (i : Int)) = some true
  | 0, i, hi, s, _, _, _ => by
    refine runO_inr ?_
    show L36_AskPicks_L0 _ _ _ _ _ = _
    unfold L36_AskPicks_L0
    rw [decide_eq_false (show ¬ (i : Int) < (cs.length : Int) by omega), alive_eq]
    rfl
  | d + 1, i, hi, s, h1, h2, h3 => by
    have hlt : i < cs.length := by omega
    have hx := List.getElem?_eq_getElem hlt
    have hc := hs _ (List.getElem_mem hlt)
    obtain ⟨f1, f2, f3, f4, f5, f6, f7⟩ := pickP_facts as s.1 s.2.1 s.2.2.1 s.2.2.2 cs[i] ha h1 hc h2 h3
    have e : L36_AskPicks_step (.L0 (mkA as s) (mkR as s) cs (cs.length : Int) (i : Int)) = some (.inl (.L0 (mkA as (pickP as s.1 s.2.1 s.2.2.1 s.2.2.2 cs[i]).2) (mkR as (pickP as s.1 s.2.1 s.2.2.1 s.2.2.2 cs[i]).2) cs (cs.length : Int) ((i + 1 : Nat) : Int))) := by
      show L36_AskPicks_L0 _ _ _ _ _ = _
      unfold L36_AskPicks_L0
      rw [decide_eq_true (show (i : Int) < (cs.length : Int) by omega), idx_at hx]
      simp only [cond_true, Option.bind_some, PickA as s _ ha h1 hc, PickR as s _ ha h1 hc, Ints_eq _ _ f1, decide_true, Bool.not_true, cond_false, PendA as _ f5, PendR as _ f5, SameChoice_eq _ _ (small_pend _ f5), beq_self_eq_true, BadA, BadR, UsedA, UsedR, bne_self_eq_false, wrap_succ hlt hcs]
    rw [runO_inl e]
    exact picks_run as cs ha hcs hs d (i + 1) (by omega) _ f4 f5 f6
theorem law_AskPicks (as : List (List Int)) (cs : List api_Choice) (ha : okAs as) (hcs : cs.length ≤ 4611686018427387904) (hs : ∀ c ∈ cs, small c) : L36_AskPicks as cs = some true := by
  unfold L36_AskPicks L36_AskPicks_0
  have hl := len_le ha.1 (by decide)
  obtain ⟨b, hb⟩ := light_some cs as hcs (by omega)
  rw [hb, Option.bind_some]
  cases b
  · simp [alive_eq, endO_inr]
  · simp only [Bool.not_true, cond_false, New_eq as ha, ref_New_eq as ha, Option.bind_some, endO_inl]
    exact picks_run as cs ha hcs hs cs.length 0 (by omega) (0, zeroC, false, false) (Nat.zero_le _) small_zero rfl
theorem stops_run (as : List (List Int)) (cs : List api_Choice) (ha : okAs as) (hcs : cs.length ≤ 4611686018427387904) (hs : ∀ c ∈ cs, small c) : ∀ (d i : Nat), i + d = cs.length → ∀ s : PS, s.1 ≤ as.length → small s.2.1 → (s.2.2.1 && s.2.2.2) = false →
    runO L36_AskStops_step (.L0 as (mkA as s) cs (cs.length : Int) (i : Int)) = some true
  | 0, i, hi, s, _, h2, h3 => by
    refine runO_inr ?_
    show L36_AskStops_L0 _ _ _ _ _ = _
    unfold L36_AskStops_L0
    rw [decide_eq_false (show ¬ (i : Int) < (cs.length : Int) by omega), alive_eq]
    simp only [cond_false, PendA as s h2, BadA, Option.bind_some]
    obtain ⟨u, p, wt, bad⟩ := s
    cases wt
    · rfl
    · simp at h3; subst h3; rfl
  | d + 1, i, hi, s, h1, h2, h3 => by
    have hlt : i < cs.length := by omega
    have hl := len_le ha.1 (by decide)
    have hx := List.getElem?_eq_getElem hlt
    have hc := hs _ (List.getElem_mem hlt)
    obtain ⟨f1, f2, f3, f4, f5, f6, f7⟩ := pickP_facts as s.1 s.2.1 s.2.2.1 s.2.2.2 cs[i] ha h1 hc h2 h3
    have e : L36_AskStops_step (.L0 as (mkA as s) cs (cs.length : Int) (i : Int)) = some (.inl (.L0 as (mkA as (pickP as s.1 s.2.1 s.2.2.1 s.2.2.2 cs[i]).2) cs (cs.length : Int) ((i + 1 : Nat) : Int))) := by
      show L36_AskStops_L0 _ _ _ _ _ = _
      unfold L36_AskStops_L0
      rw [decide_eq_true (show (i : Int) < (cs.length : Int) by omega), idx_at hx]
      have w1 : IntKind.wrap .i64 ((s.1 : Int) + 1) = (s.1 : Int) + 1 := wrap64 (by omega) (by omega)
      simp only [cond_true, Option.bind_some, PickA as s _ ha h1 hc, PendA as s h2, Default_eq _ hc, BadA, UsedA, w1, wrap_succ hlt hcs, pendV]
      generalize hr : pickP as s.1 s.2.1 s.2.2.1 s.2.2.2 cs[i] = r at *
      have g1 : decide ((r.2.1 : Int) > (s.1 : Int) + 1) = false := decide_eq_false (by omega)
      have g2 : decide ((r.2.1 : Int) < (s.1 : Int)) = false := decide_eq_false (by omega)
      have g3 : decide ((r.2.1 : Int) > (as.length : Int)) = false := decide_eq_false (by omega)
      have g4 : (s.2.2.1 || s.2.2.2) = true → ((r.2.1 : Int) != (s.1 : Int)) = false ∧ R36_Ints r.1 (defV cs[i]) = some true := fun h => by
        obtain ⟨k1, k2⟩ := f7 h
        refine ⟨by rw [k1]; simp, ?_⟩
        rw [Ints_eq _ _ f1, decide_eq_true k2]
      cases hw : s.2.2.1
      · cases hbd : s.2.2.2
        · skip
          simp only [g1, g2, g3, cond_true, cond_false, Option.bind_some, Bool.not_true, Bool.not_false]
        · obtain ⟨k1, k2⟩ := g4 (by rw [hbd]; simp)
          simp only [g1, g2, g3, k1, k2, cond_true, cond_false, Option.bind_some, Bool.not_true, Bool.not_false]
      · obtain ⟨k1, k2⟩ := g4 (by rw [hw]; rfl)
        simp only [g1, g2, g3, k1, k2, cond_true, cond_false, Option.bind_some, Bool.not_true, Bool.not_false]
    rw [runO_inl e]
    exact stops_run as cs ha hcs hs d (i + 1) (by omega) _ f4 f5 f6
theorem law_AskStops (as : List (List Int)) (cs : List api_Choice) (ha : okAs as) (hcs : cs.length ≤ 4611686018427387904) (hs : ∀ c ∈ cs, small c) : L36_AskStops as cs = some true := by
  unfold L36_AskStops L36_AskStops_0
  have hl := len_le ha.1 (by decide)
  obtain ⟨b, hb⟩ := light_some cs as hcs (by omega)
  rw [hb, Option.bind_some]
  cases b
  · simp [alive_eq, endO_inr]
  · simp only [Bool.not_true, cond_false, New_eq as ha, Option.bind_some, endO_inl]
    exact stops_run as cs ha hcs hs cs.length 0 (by omega) (0, zeroC, false, false) (Nat.zero_le _) small_zero rfl

/-! ### The default answer is valid -/
theorem nodup_le : ∀ (n : Nat) (l : List Nat), l.Nodup → (∀ x ∈ l, x < n) → l.length ≤ n
  | 0, l, _, h => by
    cases l with
    | nil => simp
    | cons x l => exact absurd (h x (by simp)) (by omega)
  | n + 1, l, hn, h => by
    by_cases hm : n ∈ l
    · have := nodup_le n (l.erase n) (hn.erase n) (fun x hx => by
        have h1 := (hn.mem_erase_iff).1 hx
        have := h x h1.2
        have := h1.1
        omega)
      rw [List.length_erase_of_mem hm] at this
      omega
    · have := nodup_le n l hn (fun x hx => by
        have h1 := h x hx
        have : x ≠ n := fun e => hm (e ▸ hx)
        omega)
      omega
theorem idxs_len {a : List Int} {n : Nat} (h : idxs a (n : Int) = true) : a.length ≤ n := by
  have hget : ∀ i x, a[i]? = some x → 0 ≤ x ∧ x < (n : Int) ∧ x ∉ a.take i := fun i x hi => by
    have := List.all_eq_true.1 h i (List.mem_range.2 (List.getElem?_eq_some_iff.1 hi).1)
    simpa only [okI, hi, Bool.and_eq_true, decide_eq_true_eq] using this
  have := nodup_le n (a.map Int.toNat) (by
    unfold List.Nodup
    rw [List.pairwise_iff_getElem]
    intro i j hi hj hij he
    simp only [List.length_map] at hi hj
    simp only [List.getElem_map] at he
    obtain ⟨p1, p2, _⟩ := hget i a[i] (List.getElem?_eq_getElem hi)
    obtain ⟨q1, q2, q3⟩ := hget j a[j] (List.getElem?_eq_getElem hj)
    have : a[i] = a[j] := by omega
    apply q3
    have h1 : (a.take j)[i]? = some a[j] := by rw [List.getElem?_take, if_pos hij, List.getElem?_eq_getElem hi, this]
    exact List.mem_of_getElem? h1) (fun x hx => by
    obtain ⟨y, hy, rfl⟩ := List.mem_map.1 hx
    obtain ⟨i, hi⟩ := List.getElem?_of_mem hy
    obtain ⟨p1, p2, _⟩ := hget i y hi
    omega)
  simpa using this
theorem countV_get (n : Int) (i : Nat) (h : i < n.toNat) : (countV n)[i]? = some (i : Int) := by
  unfold countV
  rw [List.getElem?_map, List.getElem?_range h]; rfl
theorem idxs_count (m : Int) (n : Nat) (h : m ≤ n) : idxs (countV m) (n : Int) = true := by
  unfold idxs
  rw [List.all_eq_true]
  intro i hi
  have hi' := List.mem_range.1 hi
  rw [countV_len] at hi'
  simp only [okI, countV_get m i hi', Bool.and_eq_true, decide_eq_true_eq]
  refine ⟨by omega, by omega, fun hm => ?_⟩
  obtain ⟨k, hk⟩ := List.getElem?_of_mem hm
  rw [List.getElem?_take] at hk
  split at hk
  · rename_i hki
    rw [countV_get m k (by omega)] at hk
    simp only [Option.some.injEq] at hk
    omega
  · cases hk
theorem idxs_zero (n : Nat) (h : 0 < n) : idxs [0] (n : Int) = true := by
  simp [idxs, okI, h]
theorem sumW_bound (a : List Int) (h : (List.range a.length).all (okN a) = true) (ha : a.length ≤ 100000) : ∀ i, i ≤ a.length → 0 ≤ sumW a i ∧ sumW a i ≤ i * 1000000
  | 0, _ => by simp [sumW]
  | i + 1, hi => by
    obtain ⟨h1, h2⟩ := sumW_bound a h ha i (by omega)
    have hlt : i < a.length := by omega
    have hx := List.getElem?_eq_getElem hlt
    have ho := List.all_eq_true.1 h i (List.mem_range.2 hlt)
    simp only [okN, hx, Bool.and_eq_true, decide_eq_true_eq] at ho
    simp only [sumW, hx]
    rw [wrap64 (by omega) (by omega)]
    omega
theorem asgV_get (n : Nat) (x : Int) (i : Nat) (h : i < n) : (asgV n x)[i]? = some (if i = 0 then x else 0) := by
  unfold asgV
  rw [List.getElem?_set]
  by_cases hi : i = 0
  · subst hi; simp [h]
  · simp [hi, Ne.symm hi, h]
theorem asgV_len (n : Nat) (x : Int) : (asgV n x).length = n := by simp [asgV]
theorem sumW_asgV (n : Nat) (x : Int) (h0 : 0 ≤ x) (h1 : x ≤ 1000000) : ∀ i, i + 1 ≤ n → sumW (asgV n x) (i + 1) = x
  | 0, hi => by
    simp only [sumW, asgV_get n x 0 hi, if_true]
    rw [wrap64 (by omega) (by omega)]; omega
  | i + 1, hi => by
    have ih := sumW_asgV n x h0 h1 i (by omega)
    have e : sumW (asgV n x) (i + 1 + 1) = IntKind.wrap .i64 (sumW (asgV n x) (i + 1) + (match (asgV n x)[i + 1]? with | some x => x | none => 0)) := rfl
    rw [e, ih, asgV_get n x (i + 1) (by omega)]
    simp only [Nat.add_eq_zero_iff, Nat.one_ne_zero, and_false, if_false]
    rw [wrap64 (by omega) (by omega)]; omega
theorem default_valid (c : api_Choice) (a : List Int) (hv : validV c a = true) (hf : forcedV c = false) (hN : ¬ (c.Kind = 8 ∧ c.N > 1000000)) : validV c (defV c) = true := by
  unfold validV at hv ⊢
  unfold forcedV at hf
  unfold defV
  obtain ⟨k, p, so, le, mo, n, os⟩ := c
  simp only [Bool.and_eq_true, decide_eq_true_eq] at hv hf ⊢
  obtain ⟨hl, hv⟩ := hv
  have one : ∀ a : List Int, a.length = 1 → idxs a (os.length : Int) = true → 0 < os.length := fun a h1 h2 => by
    have := idxs_len h2
    omega
  rcases kinds k with rfl | rfl | rfl | rfl | rfl | rfl | rfl | rfl | rfl | rfl | rfl | ⟨e1, e2, e3, e4, e5, e6, e7, e8, e9, e10, e11⟩
  case inr.inr.inl =>
    simp [single] at hv ⊢
    obtain ⟨h1, h2, h3⟩ := hv
    have h4 := idxs_len h3
    have hlim : (countV (lim le os.length)).length = (lim le os.length).toNat := countV_len _
    have g1 := lim_ge le os.length
    have g2 := lim_le le os.length
    have g3 : lim le os.length ≤ (if 0 ≤ le then le else 0) := by unfold lim minI maxI; split <;> split <;> split <;> omega
    have g4 : le ≤ lim le os.length := by unfold lim minI maxI; split <;> split <;> omega
    rw [hlim]
    have g5 : (if 0 ≤ le then le else 0) ≤ (a.length : Int) := by split <;> omega
    refine ⟨by omega, by omega, by omega, idxs_count _ _ g2⟩
  case inr.inr.inr.inl =>
    simp [single] at hv ⊢
    obtain ⟨h1, h2⟩ := hv
    refine ⟨by rw [countV_len]; omega, by rw [countV_len]; omega, idxs_count _ _ (by omega)⟩
  case inr.inr.inr.inr.inl =>
    simp [single] at hv ⊢
    obtain ⟨h1, h2⟩ := hv
    obtain ⟨x, rfl, _⟩ := idx0 a h1
    simp at h2
    omega
  case inr.inr.inr.inr.inr.inl => simp [single]; exact ⟨rfl, rfl⟩
  case inr.inr.inr.inr.inr.inr.inl => simp [single]; exact ⟨rfl, rfl⟩
  case inr.inr.inr.inr.inr.inr.inr.inl =>
    simp [single] at hv hf ⊢
    simp only [asg, Bool.and_eq_true, decide_eq_true_eq] at hv ⊢
    obtain ⟨h1, h2, h3⟩ := hv
    have hb := sumW_bound a h1 (by omega) a.length (Nat.le_refl _)
    have hn1 : ¬ n > 1000000 := fun h => hN ⟨rfl, h⟩
    have hn0 : 0 ≤ n := by omega
    refine ⟨by rw [asgV_len]; omega, ?_, asgV_len _ _, ?_⟩
    · rw [List.all_eq_true]
      intro i hi
      have hi' := List.mem_range.1 hi
      rw [asgV_len] at hi'
      simp only [okN, asgV_get _ n i hi', Bool.and_eq_true, decide_eq_true_eq]
      split <;> omega
    · rw [asgV_len]
      have := sumW_asgV os.length n hn0 (by omega) (os.length - 1) (by omega)
      rw [show os.length - 1 + 1 = os.length by omega] at this
      exact this
  case inr.inr.inr.inr.inr.inr.inr.inr.inr.inr.inr =>
    simp [single, e1, e2, e3, e4, e5, e6, e7, e8, e9, e10, e11] at hv
  all_goals
    simp [single] at hv ⊢
    exact idxs_zero _ (one a hv.1 hv.2)
theorem law_AskDefaults (c : api_Choice) (a : List Int) (hc : small c) : L36_AskDefaults c a = some true := by
  unfold L36_AskDefaults L36_AskDefaults_0
  obtain ⟨b, hb⟩ := light_some [c] [a] (by simp) (by simp)
  rw [hb, Option.bind_some]
  cases b
  · simp [alive_eq, endO_inr]
  · simp only [Bool.not_true, cond_false, Forced_eq, Valid_eq, Default_eq c hc, Option.bind_some, alive_eq]
    cases hf : forcedV c
    case true => rfl
    cases hv : validV c a
    case false => rfl
    by_cases h8 : c.Kind = 8
    · by_cases hN : c.N > 1000000
      · simp [h8, hN, endO_inr]
      · have := default_valid c a hv hf (fun h => hN h.2)
        simp [h8, hN, this, endO_inr]
    · have := default_valid c a hv hf (fun h => h8 h.1)
      have h8' : (c.Kind == 8) = false := beq_eq_false_iff_ne.2 h8
      simp [h8', this, endO_inr]
end Go.PW
