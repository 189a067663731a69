import Derived.Test.YtdpiijfehkafnaaQPd
import Derived.Test.YtdpiijfehkafnaaPwX
namespace Go.PW

/-! ### Lists -/
def zeroTr : api_Traits := ⟨[], ⟨0, 0, ⟨0, 0, 0, 0, 0⟩⟩, 0, ⟨0, 0, []⟩, 0, 0, 0, [], 0⟩
def atV (all : List api_Traits) (i : Nat) : api_Traits := (all[i]?).getD zeroTr
theorem At_eq (all : List api_Traits) (i : Nat) : R29_At all (i : Int) = some (atV all i) := by
  unfold R29_At R29_At_0 atV
  rw [decide_eq_false (show ¬ (i : Int) < 0 by omega)]
  by_cases h : i < all.length
  · rw [decide_eq_false (show ¬ (i : Int) ≥ (all.length : Int) by omega), idx_get all h, List.getElem?_eq_getElem h]; rfl
  · rw [decide_eq_true (show (i : Int) ≥ (all.length : Int) by omega), List.getElem?_eq_none (show all.length ≤ i by omega)]; rfl
theorem at_bnd {all : List api_Traits} (ht : ∀ t ∈ all, Bnd t.Line.Subs.length) (i : Nat) : Bnd (atV all i).Line.Subs.length := by
  unfold atV
  by_cases h : i < all.length
  · rw [List.getElem?_eq_getElem h]; exact ht _ (List.getElem_mem h)
  · rw [List.getElem?_eq_none (show all.length ≤ i by omega)]; exact Nat.zero_le _
def mat (all : List api_Traits) (you src : Int) (f : api_Filter) (i : Nat) (o : api_Object) : Bool := matV o (atV all i) you src f
def listV (s : api_State) (all : List api_Traits) (you src : Int) (f : api_Filter) : List Int := filt (mat all you src f) (fun o => o.Id) 0 s.Objects
theorem List_eq (s : api_State) (all : List api_Traits) (you src : Int) (f : api_Filter) (hs : s.Objects.length * 128 ≤ reachBytes) (ht : ∀ t ∈ all, Bnd t.Line.Subs.length) : match_List s all you src f = some (listV s all you src f) := by
  have hs' : s.Objects.length * 128 ≤ 140737488351232 := hs
  unfold match_List match_List_0
  have h := filt_loop (step := match_List_step) (st := fun i acc => .L0 all you src f acc s.Objects (s.Objects.length : Int) (i : Int)) s.Objects (mat all you src f) (fun o => o.Id) (fun i x acc hx ha => by
    have hi := (List.getElem?_eq_some_iff.1 hx).1
    have l1 : ∀ t, t = atV all i → match_List_L1 all you src f acc x t s.Objects (s.Objects.length : Int) (i : Int) = some (.inl (.L0 all you src f (bif mat all you src f i x then acc ++ [x.Id] else acc) s.Objects (s.Objects.length : Int) ((i + 1 : Nat) : Int))) := by
      rintro t rfl
      unfold match_List_L1
      rw [match_eq _ _ _ _ _ (at_bnd ht i), Option.bind_some, wrap_succ hi (by omega)]
      show (bif mat all you src f i x then _ else _) = _
      cases mat all you src f i x with
      | true => rw [cond_true, app_ok (by simp; omega) (by decide)]; rfl
      | false => rfl
    show match_List_L0 _ _ _ _ _ _ _ _ = _
    unfold match_List_L0
    rw [decide_eq_true (show (i : Int) < (s.Objects.length : Int) by omega), cond_true, idx_at hx, Option.bind_some]
    by_cases hl : i < all.length
    · rw [decide_eq_true (show (i : Int) < (all.length : Int) by omega), cond_true, idx_get all hl, Option.bind_some]; exact l1 _ (by simp [atV, List.getElem?_eq_getElem hl])
    · rw [decide_eq_false (show ¬ (i : Int) < (all.length : Int) by omega), cond_false]; exact l1 _ (by simp [atV, List.getElem?_eq_none (show all.length ≤ i by omega), zeroTr]))
  refine Eq.trans h (runO_inr ?_)
  show match_List_L0 _ _ _ _ _ _ _ _ = _
  unfold match_List_L0
  rw [decide_eq_false (by omega)]; rfl
theorem ref_List_eq (s : api_State) (all : List api_Traits) (you src : Int) (f : api_Filter) (hs : s.Objects.length * 128 ≤ reachBytes) (ht : ∀ t ∈ all, Bnd t.Line.Subs.length) : R29_List s all you src f = some (listV s all you src f) := by
  have hs' : s.Objects.length * 128 ≤ 140737488351232 := hs
  unfold R29_List R29_List_0
  have h := filt_loop (step := R29_List_step) (st := fun i acc => .L0 all you src s f acc (i : Int)) s.Objects (mat all you src f) (fun o => o.Id) (fun i x acc hx ha => by
    have hi := (List.getElem?_eq_some_iff.1 hx).1
    show R29_List_L0 _ _ _ _ _ _ _ = _
    unfold R29_List_L0
    rw [decide_eq_true (show (i : Int) < (s.Objects.length : Int) by omega), cond_true, idx_at hx, Option.bind_some, At_eq, Option.bind_some, ref_match_eq _ _ _ _ _ (at_bnd ht i), Option.bind_some, wrap_succ hi (by omega)]
    show (bif mat all you src f i x then _ else _) = _
    cases mat all you src f i x with
    | true => rw [cond_true, Option.bind_some, app_ok (by simp; omega) (by decide)]; rfl
    | false => rfl)
  refine Eq.trans h (runO_inr ?_)
  show R29_List_L0 _ _ _ _ _ _ _ = _
  unfold R29_List_L0
  rw [decide_eq_false (by omega)]; rfl
theorem Same_ints (a b : List Int) (h : Bnd a.length) : R03_Same a b = some (decide (a = b)) := by
  unfold R03_Same R03_Same_0
  rw [len_bne]
  by_cases hl : a.length = b.length
  · rw [decide_eq_false (show ¬ a.length ≠ b.length from fun h => h hl), cond_false, Option.bind_some, endO_inl]
    have := eq_loop (step := R03_Same_step) (st := fun i => .L0 a b (i : Int)) (bad := false) a b hl (fun i x y hx hy => by
      have hi := (List.getElem?_eq_some_iff.1 hx).1
      show R03_Same_L0 _ _ _ = _
      unfold R03_Same_L0
      rw [decide_eq_true (show (i : Int) < (a.length : Int) by omega), cond_true, idx_at hx, Option.bind_some, idx_at hy, Option.bind_some, wrap_succ hi h, int_bne]
      by_cases hxy : x = y
      · rw [decide_eq_true hxy, decide_eq_false (show ¬ x ≠ y from fun e => e hxy)]; rfl
      · rw [decide_eq_false hxy, decide_eq_true (show x ≠ y from hxy)]; rfl)
    refine Eq.trans this ?_
    have he : runO R03_Same_step (.L0 a b (a.length : Int)) = some true := runO_inr (by
      show R03_Same_L0 _ _ _ = _
      unfold R03_Same_L0
      rw [decide_eq_false (by omega)]; rfl)
    rw [he]
    cases decide (a = b) <;> rfl
  · rw [decide_eq_true hl, len_dec hl]; rfl
theorem lists_run (all : List api_Traits) (f : api_Filter) (you src : Int) (l : List Int) (objs : List api_Object) (ho : objs.length * 128 ≤ reachBytes) (ht : ∀ t ∈ all, Bnd t.Line.Subs.length) (hl : Bnd l.length) :
    ∀ (d i k : Nat), i + d = objs.length → k ≤ l.length → l.drop k = filt (mat all you src f) (fun o => o.Id) i (objs.drop i) → runO L29_MatchLists_step (.L0 all f you src l (k : Int) objs (objs.length : Int) (i : Int)) = some true := by
  have ho' : objs.length * 128 ≤ 140737488351232 := ho
  intro d
  induction d with
  | zero =>
    intro i k hi hk h
    obtain rfl : i = objs.length := by omega
    rw [List.drop_length] at h
    have hk : k = l.length := by
      have := congrArg List.length h
      simp [filt] at this
      omega
    refine runO_inr ?_
    show L29_MatchLists_L0 _ _ _ _ _ _ _ _ _ = _
    unfold L29_MatchLists_L0
    rw [decide_eq_false (show ¬ (objs.length : Int) < (objs.length : Int) by omega), cond_false, hk, len_beq, decide_eq_true rfl, alive29]; rfl
  | succ d ih =>
    intro i k hi hk h
    have hlt : i < objs.length := by omega
    have hx := List.getElem?_eq_getElem hlt
    rw [List.drop_eq_getElem_cons hlt] at h
    have step : ∀ k' : Nat, (∀ r, L29_MatchLists_L0 all f you src l (k : Int) objs (objs.length : Int) (i : Int) = r → r = some (.inl (.L0 all f you src l (k' : Int) objs (objs.length : Int) ((i + 1 : Nat) : Int)))) → k' ≤ l.length →
        l.drop k' = filt (mat all you src f) (fun o => o.Id) (i + 1) (objs.drop (i + 1)) → runO L29_MatchLists_step (.L0 all f you src l (k : Int) objs (objs.length : Int) (i : Int)) = some true := by
      intro k' hs h1 h2
      rw [runO_inl (show L29_MatchLists_step (.L0 all f you src l (k : Int) objs (objs.length : Int) (i : Int)) = _ from hs _ rfl)]
      exact ih (i + 1) k' (by omega) h1 h2
    cases hp : mat all you src f i objs[i] with
    | false =>
      simp only [filt, hp, cond_false] at h
      refine step k (fun r hr => ?_) hk h
      rw [← hr]
      unfold L29_MatchLists_L0
      rw [decide_eq_true (show (i : Int) < (objs.length : Int) by omega), cond_true, idx_at hx, Option.bind_some, At_eq, Option.bind_some, match_eq _ _ _ _ _ (at_bnd ht i), Option.bind_some, wrap_succ hlt (by omega)]
      rw [show matV objs[i] (atV all i) you src f = false from hp]; rfl
    | true =>
      simp only [filt, hp, cond_true] at h
      have hk2 : k < l.length := by
        apply Classical.byContradiction
        intro hc
        rw [List.drop_eq_nil_of_le (by omega)] at h
        cases h
      rw [List.drop_eq_getElem_cons hk2] at h
      obtain ⟨h1, h2⟩ := List.cons.inj h
      refine step (k + 1) (fun r hr => ?_) (by omega) h2
      rw [← hr]
      unfold L29_MatchLists_L0
      rw [decide_eq_true (show (i : Int) < (objs.length : Int) by omega), cond_true, idx_at hx, Option.bind_some, At_eq, Option.bind_some, match_eq _ _ _ _ _ (at_bnd ht i), Option.bind_some, wrap_succ hlt (by omega)]
      rw [show matV objs[i] (atV all i) you src f = true from hp, cond_true, decide_eq_false (show ¬ (k : Int) ≥ (l.length : Int) by omega), cond_false, idx_get l hk2, Option.bind_some, h1, wrap_succ hk2 hl]
      simp
theorem law_MatchLists (x : cardgamelaw29_Lists) (h : szS x.S) (ht : ∀ t ∈ x.All, Bnd t.Line.Subs.length) (hn : Bnd x.All.length) : L29_MatchLists x = some true := by
  unfold L29_MatchLists L29_MatchLists_0
  obtain ⟨b, hb⟩ := small_some x.S h
  obtain ⟨c, hc⟩ := short_some x.All hn ht
  have ho := h.2.2.2.2.2.2.2
  have ho' : x.S.Objects.length * 128 ≤ 140737488351232 := ho
  have hlen := filt_len (mat x.All x.You x.Source x.F) (fun o => o.Id) x.S.Objects 0
  have hl : Bnd (listV x.S x.All x.You x.Source x.F).length := by
    show (filt _ _ _ _).length ≤ _
    omega
  rw [hb, Option.bind_some, alive29]
  cases b
  · rfl
  rw [Bool.not_true, cond_false, hc, Option.bind_some]
  cases c
  · rfl
  rw [Bool.not_true, cond_false, List_eq _ _ _ _ _ ho ht, ref_List_eq _ _ _ _ _ ho ht]
  cases decide ((x.F.Sub.length : Int) > 100)
  case true => rfl
  rw [cond_false, Option.bind_some, Option.bind_some, Same_ints _ _ hl, Option.bind_some, decide_eq_true rfl, Bool.not_true, cond_false, Option.bind_some, endO_inl]
  exact lists_run x.All x.F x.You x.Source _ x.S.Objects ho ht hl x.S.Objects.length 0 0 (by omega) (Nat.zero_le _) rfl

/-! ### Players -/
theorem law_MatchPlayers (s : api_State) (p you : Int) (h : szS s) : L29_MatchPlayers s p you = some true := by
  unfold L29_MatchPlayers L29_MatchPlayers_0
  obtain ⟨b, hb⟩ := small_some s h
  rw [hb, Option.bind_some]
  cases b
  · rw [alive29]; rfl
  simp only [Bool.not_true, cond_false]
  by_cases hp : 0 ≤ p ∧ p < s.Players.length
  · obtain ⟨x, hx, _⟩ := Tot.idx hp.1 hp.2
    have hw : ∀ w, match_Player s p you w = some (!x.Lost && (w == 0 || (bif w == 1 then p == you else w == 2 && p != you))) := by
      intro w
      unfold match_Player match_Player_0
      rw [decide_eq_false (show ¬ p < 0 by omega), decide_eq_false (show ¬ p ≥ (s.Players.length : Int) by omega), cond_false, cond_false, hx, Option.bind_some]
      cases x.Lost
      · cases w == 0
        · cases w == 1
          · cases w == 2 <;> rfl
          · rfl
        · rfl
      · rfl
    simp only [hw, Option.bind_some]
    rw [decide_eq_true (show p ≥ 0 by omega), decide_eq_true hp.2, cond_true, cond_true, hx, Option.bind_some]
    unfold L29_MatchPlayers_L0 L29_MatchPlayers_L1
    simp only [hw, Option.bind_some, alive29]
    cases x.Lost
    · rw [show (p != you) = !(p == you) from rfl]
      cases p == you <;> rfl
    · rfl
  · have hw : ∀ w, match_Player s p you w = some false := by
      intro w
      unfold match_Player match_Player_0
      by_cases h0 : p < 0
      · rw [decide_eq_true h0]; rfl
      · rw [decide_eq_false h0, decide_eq_true (show p ≥ (s.Players.length : Int) by omega)]; rfl
    simp only [hw, Option.bind_some]
    have e : (bif decide (p ≥ 0) then bif decide (p < (s.Players.length : Int)) then Option.bind (idx? s.Players p) fun x14 => L29_MatchPlayers_L0 p you s false false false (!x14.Lost) else L29_MatchPlayers_L0 p you s false false false false else L29_MatchPlayers_L0 p you s false false false false) = L29_MatchPlayers_L0 p you s false false false false := by
      by_cases h0 : p ≥ 0
      · rw [decide_eq_true h0, decide_eq_false (show ¬ p < (s.Players.length : Int) by omega)]; rfl
      · rw [decide_eq_false h0]; rfl
    rw [e]
    unfold L29_MatchPlayers_L0 L29_MatchPlayers_L1
    simp only [hw, Option.bind_some, alive29]
    rfl

/-! ### A condition more -/
theorem fin29 (a b c : Bool) : (L29_MatchNarrower_L1 a b c).bind (endO L29_MatchNarrower_step) = some (a == (b || c) && !(b && c)) := by
  unfold L29_MatchNarrower_L1
  rw [alive29]
  cases a <;> cases b <;> cases c <;> rfl
theorem and0 (h : Int) : bitOp .and .i64 h 0 = 0 := by
  unfold bitOp
  show IntKind.wrap .i64 (((BitVec.ofInt 64 h &&& BitVec.ofInt 64 0).toNat : Nat) : Int) = 0
  rw [show BitVec.ofInt 64 0 = 0#64 from rfl, BitVec.and_zero]; rfl
theorem fil_iff (f : api_Filter) : filV f = true ↔ btw f.Zone 5 = true ∧ btw f.Who 2 = true ∧ btw f.Self 2 = true ∧ btw f.Tap 2 = true ∧ btw f.Keys 131071 = true ∧ btw f.Types 63 = true ∧ btw f.NotTypes 63 = true ∧ disV f.Types f.NotTypes = true ∧
    btw f.Colors 31 = true ∧ btw f.NotColors 31 = true ∧ disV f.Colors f.NotColors = true ∧ (f.Sub == [] || subV f.Sub) = true ∧ bndV f.Power = true ∧ bndV f.Tough = true ∧ bndV f.Value = true := by
  simp only [filV, Bool.and_eq_true]
theorem narrow_L0 (v : Int) (x : cardgamelaw29_Ask) (f g h : api_Filter) (ht : Bnd x.Traits.Line.Subs.length) (hx : (matV x.Object x.Traits x.You x.Source g && matV x.Object x.Traits x.You x.Source h) = false)
    (hy : (v.tmod 4 = 0 → f.Tap = 0) → (v.tmod 4 = 1 → f.Who = 0) → (v.tmod 4 = 2 → f.Self = 0) → matV x.Object x.Traits x.You x.Source f = (matV x.Object x.Traits x.You x.Source g || matV x.Object x.Traits x.You x.Source h)) :
    (L29_MatchNarrower_L0 v x f g h).bind (endO L29_MatchNarrower_step) = some true := by
  unfold L29_MatchNarrower_L0
  simp only [match_eq _ _ _ _ _ ht, Option.bind_some]
  generalize matV x.Object x.Traits x.You x.Source f = a at hy ⊢
  generalize matV x.Object x.Traits x.You x.Source g = b at hx hy ⊢
  generalize matV x.Object x.Traits x.You x.Source h = c at hx hy ⊢
  have hbc : (bif b then (bif !c then Option.bind L29_alive fun x => some (.inr x) else some (.inr false)) else (bif !false then Option.bind L29_alive fun x => some (.inr x) else some (.inr false)) : Option (L29_MatchNarrower_S ⊕ Bool)) = some (.inr true) := by
    rw [alive29]
    cases b <;> cases c <;> first | rfl | cases hx
  rw [hbc]
  have fin : a = (b || c) → (L29_MatchNarrower_L1 a b c).bind (endO L29_MatchNarrower_step) = some true := by
    intro e
    rw [fin29, hx, e]
    cases b <;> cases c <;> rfl
  have ne {n m : Int} (h : (n != m) = false) : n = m := by
    rw [int_bne] at h
    have := of_decide_eq_false h
    omega
  have nq {n m : Int} (h : (n == m) = false) : n ≠ m := by
    rw [int_beq] at h
    exact of_decide_eq_false h
  cases h3 : (v.tmod 4 != 3) with
  | false => 
    have e := ne h3
    exact fin (hy (fun h => by omega) (fun h => by omega) (fun h => by omega))
  | true =>
    cases t1 : (f.Tap != 0) <;> cases t2 : (f.Who != 0) <;> cases t3 : (f.Self != 0) <;> cases k0 : (v.tmod 4 == 0) <;> cases k1 : (v.tmod 4 == 1) <;> cases k2 : (v.tmod 4 == 2) <;>
      simp only [cond_true, cond_false] <;>
      first
      | rfl
      | exact fin (hy (fun h => by first | exact ne t1 | exact absurd h (nq k0)) (fun h => by first | exact ne t2 | exact absurd h (nq k1)) (fun h => by first | exact ne t3 | exact absurd h (nq k2)))
theorem law_MatchNarrower (x : cardgamelaw29_Ask) (f : api_Filter) (n : Int) (ht : Bnd x.Traits.Line.Subs.length) : L29_MatchNarrower x f n = some true := by
  unfold L29_MatchNarrower L29_MatchNarrower_0
  obtain ⟨b, hb⟩ := light29_some x f ht
  rw [hb, Option.bind_some, ref_Is_eq]
  cases b
  · rw [alive29]; rfl
  rw [Bool.not_true, cond_false, Option.bind_some]
  cases hf : filV f with
  | false => rw [alive29]; rfl
  | true =>
    rw [Bool.not_true, cond_false]
    obtain ⟨h1, h2, h3, h4, h5, h6, h7, h8, h9, h10, h11, h12, h13⟩ := (fil_iff f).1 hf
    by_cases k0 : n.tmod 4 = 0
    · rw [show (n.tmod 4 == 0) = true from by rw [k0]; rfl, cond_true]
      have hg := (fil_iff ⟨f.Zone, f.Who, f.Self, f.Types, f.NotTypes, f.Colors, f.NotColors, f.Sub, f.Keys, 1, f.Power, f.Tough, f.Value⟩).2 ⟨h1, h2, h3, rfl, h5, h6, h7, h8, h9, h10, h11, h12, h13⟩
      have hh := (fil_iff ⟨f.Zone, f.Who, f.Self, f.Types, f.NotTypes, f.Colors, f.NotColors, f.Sub, f.Keys, 2, f.Power, f.Tough, f.Value⟩).2 ⟨h1, h2, h3, rfl, h5, h6, h7, h8, h9, h10, h11, h12, h13⟩
      refine narrow_L0 n x f _ _ ht ?_ (fun e0 _ _ => ?_)
      · unfold matV
        rw [hg, hh]
        simp only [oneV, subsV, keyV, endV, tapV]
        cases x.Object.Tapped <;> simp
      · have e0 := e0 k0
        unfold matV
        rw [hg, hh, hf]
        simp only [oneV, subsV, keyV, endV, tapV, e0]
        cases x.Object.Tapped <;> simp
    rw [show (n.tmod 4 == 0) = false from by rw [int_beq]; exact decide_eq_false k0, cond_false]
    by_cases k1 : n.tmod 4 = 1
    · rw [show (n.tmod 4 == 1) = true from by rw [k1]; rfl, cond_true]
      have hg := (fil_iff ⟨f.Zone, 1, f.Self, f.Types, f.NotTypes, f.Colors, f.NotColors, f.Sub, f.Keys, f.Tap, f.Power, f.Tough, f.Value⟩).2 ⟨h1, rfl, h3, h4, h5, h6, h7, h8, h9, h10, h11, h12, h13⟩
      have hh := (fil_iff ⟨f.Zone, 2, f.Self, f.Types, f.NotTypes, f.Colors, f.NotColors, f.Sub, f.Keys, f.Tap, f.Power, f.Tough, f.Value⟩).2 ⟨h1, rfl, h3, h4, h5, h6, h7, h8, h9, h10, h11, h12, h13⟩
      refine narrow_L0 n x f _ _ ht ?_ (fun _ e0 _ => ?_)
      · unfold matV
        rw [hg, hh]
        simp only [oneV, subsV, keyV, endV, show (x.Traits.Control != x.You) = !(x.Traits.Control == x.You) from rfl]
        cases x.Traits.Control == x.You <;> simp
      · have e0 := e0 k1
        unfold matV
        rw [hg, hh, hf]
        simp only [oneV, subsV, keyV, endV, e0, show (x.Traits.Control != x.You) = !(x.Traits.Control == x.You) from rfl]
        cases x.Traits.Control == x.You <;> simp
    rw [show (n.tmod 4 == 1) = false from by rw [int_beq]; exact decide_eq_false k1, cond_false]
    by_cases k2 : n.tmod 4 = 2
    · rw [show (n.tmod 4 == 2) = true from by rw [k2]; rfl, cond_true]
      have hg := (fil_iff ⟨f.Zone, f.Who, 1, f.Types, f.NotTypes, f.Colors, f.NotColors, f.Sub, f.Keys, f.Tap, f.Power, f.Tough, f.Value⟩).2 ⟨h1, h2, rfl, h4, h5, h6, h7, h8, h9, h10, h11, h12, h13⟩
      have hh := (fil_iff ⟨f.Zone, f.Who, 2, f.Types, f.NotTypes, f.Colors, f.NotColors, f.Sub, f.Keys, f.Tap, f.Power, f.Tough, f.Value⟩).2 ⟨h1, h2, rfl, h4, h5, h6, h7, h8, h9, h10, h11, h12, h13⟩
      refine narrow_L0 n x f _ _ ht ?_ (fun _ _ e0 => ?_)
      · unfold matV
        rw [hg, hh]
        simp only [oneV, subsV, keyV, endV, show (x.Object.Id != x.Source) = !(x.Object.Id == x.Source) from rfl]
        cases x.Object.Id == x.Source <;> simp
      · have e0 := e0 k2
        unfold matV
        rw [hg, hh, hf]
        simp only [oneV, subsV, keyV, endV, e0, show (x.Object.Id != x.Source) = !(x.Object.Id == x.Source) from rfl]
        cases x.Object.Id == x.Source <;> simp
    rw [show (n.tmod 4 == 2) = false from by rw [int_beq]; exact decide_eq_false k2, cond_false]
    have hF := (fil_iff ⟨f.Zone, f.Who, f.Self, 0, 0, f.Colors, f.NotColors, f.Sub, f.Keys, f.Tap, f.Power, f.Tough, f.Value⟩).2 ⟨h1, h2, h3, h4, h5, by kernel_rfl, by kernel_rfl, by kernel_rfl, h9, h10, h11, h12, h13⟩
    have hg := (fil_iff ⟨f.Zone, f.Who, f.Self, 1, 0, f.Colors, f.NotColors, f.Sub, f.Keys, f.Tap, f.Power, f.Tough, f.Value⟩).2 ⟨h1, h2, h3, h4, h5, by kernel_rfl, by kernel_rfl, by kernel_rfl, h9, h10, h11, h12, h13⟩
    have hh := (fil_iff ⟨f.Zone, f.Who, f.Self, 0, 1, f.Colors, f.NotColors, f.Sub, f.Keys, f.Tap, f.Power, f.Tough, f.Value⟩).2 ⟨h1, h2, h3, h4, h5, by kernel_rfl, by kernel_rfl, by kernel_rfl, h9, h10, h11, h12, h13⟩
    refine narrow_L0 n x _ _ _ ht ?_ (fun _ _ _ => ?_)
    · unfold matV
      rw [hg, hh]
      simp only [subsV, keyV, endV, maskV, and0, bne]
      cases bitOp .and .i64 x.Traits.Line.Types 1 == 0 <;> simp
    · unfold matV
      rw [hg, hh, hF]
      simp only [subsV, keyV, endV, maskV, and0, bne]
      cases bitOp .and .i64 x.Traits.Line.Types 1 == 0 <;> simp
end Go.PW
