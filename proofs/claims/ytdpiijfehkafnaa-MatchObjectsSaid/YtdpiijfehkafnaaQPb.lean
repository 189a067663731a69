import Derived.Test.YtdpiijfehkafnaaQP
namespace Go.PW

/-! ### Subtypes -/
def supW : List (List UInt8) := [[98, 97, 115, 105, 99], [117, 110, 105, 113, 117, 101]]
def typW : List (List UInt8) := [[99, 114, 101, 97, 116, 117, 114, 101], [105, 110, 115, 116, 97, 110, 116], [114, 105, 116, 117, 97, 108], [114, 101, 108, 105, 99], [99, 104, 97, 114, 109], [108, 97, 110, 100]]
def among (l : List (List UInt8)) (s : List UInt8) : Bool := l.any fun w => w == s
def subV (s : List UInt8) : Bool := wordV s && (!among supW s && !among typW s)

theorem shl_ne : ∀ i : Nat, i < 6 → (shlI .i64 1 (i : Int) == 0) = false
  | 0, _ => rfl
  | 1, _ => rfl
  | 2, _ => rfl
  | 3, _ => rfl
  | 4, _ => rfl
  | 5, _ => rfl
  | n + 6, h => absurd h (by omega)
theorem sup_bit (s : List UInt8) : ∃ x, line_bit__line_superWord s 2 = some x ∧ (x == 0) = !among supW s := by
  unfold line_bit__line_superWord line_bit__line_superWord_0
  simp only [Option.bind_some, endO_inl]
  have hfind := find_list (step := line_bit__line_superWord_step) supW (fun i => .L0 s 2 (i : Int)) (fun i => shlI .i64 1 (i : Int)) (fun w => w == s) (fun i x hx => by
    have hi := (List.getElem?_eq_some_iff.1 hx).1
    have hi : i < 2 := hi
    have hw : line_superWord (i : Int) = some x := by
      unfold line_superWord line_superWord_0
      show Option.bind (Option.bind (idx? supW (i : Int)) fun x1 => some (.inr x1)) (endO line_superWord_step) = _
      rw [idx_at hx]; rfl
    show line_bit__line_superWord_L0 s 2 (i : Int) = _
    unfold line_bit__line_superWord_L0
    rw [decide_eq_true (show (i : Int) < 2 by omega), hw, wrap64 (by omega) (by omega)]
    simp only [cond_true, Option.bind_some, not_cond]
    rw [show decide (¬ (i : Int) < 0) = true from decide_eq_true (by omega)]
    cases x == s <;> rfl)
  rcases hfind with ⟨h1, i, h2, h3⟩ | ⟨h1, h2⟩
  · exact ⟨_, h3, by rw [shl_ne i (Nat.lt_of_lt_of_le h2 (by decide))]; unfold among; rw [h1]; rfl⟩
  · refine ⟨0, h2.trans (runO_inr ?_), by unfold among; rw [h1]; rfl⟩
    show line_bit__line_superWord_L0 s 2 2 = _
    rfl
theorem typ_bit (s : List UInt8) : ∃ x, line_bit__line_typeWord s 6 = some x ∧ (x == 0) = !among typW s := by
  unfold line_bit__line_typeWord line_bit__line_typeWord_0
  simp only [Option.bind_some, endO_inl]
  have hfind := find_list (step := line_bit__line_typeWord_step) typW (fun i => .L0 s 6 (i : Int)) (fun i => shlI .i64 1 (i : Int)) (fun w => w == s) (fun i x hx => by
    have hi := (List.getElem?_eq_some_iff.1 hx).1
    have hi : i < 6 := hi
    have hw : line_typeWord (i : Int) = some x := by
      unfold line_typeWord line_typeWord_0
      show Option.bind (Option.bind (idx? typW (i : Int)) fun x1 => some (.inr x1)) (endO line_typeWord_step) = _
      rw [idx_at hx]; rfl
    show line_bit__line_typeWord_L0 s 6 (i : Int) = _
    unfold line_bit__line_typeWord_L0
    rw [decide_eq_true (show (i : Int) < 6 by omega), hw, wrap64 (by omega) (by omega)]
    simp only [cond_true, Option.bind_some, not_cond]
    rw [show decide (¬ (i : Int) < 0) = true from decide_eq_true (by omega)]
    cases x == s <;> rfl)
  rcases hfind with ⟨h1, i, h2, h3⟩ | ⟨h1, h2⟩
  · exact ⟨_, h3, by rw [shl_ne i (Nat.lt_of_lt_of_le h2 (by decide))]; unfold among; rw [h1]; rfl⟩
  · refine ⟨0, h2.trans (runO_inr ?_), by unfold among; rw [h1]; rfl⟩
    show line_bit__line_typeWord_L0 s 6 6 = _
    rfl
theorem IsSub_eq (s : List UInt8) : line_IsSub s = some (subV s) := by
  unfold line_IsSub line_IsSub_0 subV
  obtain ⟨x, hx, ex⟩ := sup_bit s
  obtain ⟨y, hy, ey⟩ := typ_bit s
  simp only [word_Is_eq, hx, hy, Option.bind_some, ex, ey]
  exact gate_p fun _ => gate_p fun _ => rfl

theorem index_eq (l : List (List UInt8)) (s : List UInt8) (hl : l.length ≤ 4611686018427387904) : ∃ x, R10_index l s = some x ∧ decide (x < 0) = !among l s ∧ decide (x ≥ 0) = among l s := by
  unfold R10_index R10_index_0
  simp only [Option.bind_some, endO_inl]
  have hfind := find_list (step := R10_index_step) l (fun i => .L0 l s (i : Int)) (fun i => (i : Int)) (fun w => w == s) (fun i x hx => by
    have hi := (List.getElem?_eq_some_iff.1 hx).1
    show R10_index_L0 _ _ _ = _
    unfold R10_index_L0
    rw [decide_eq_true (by omega), idx_at hx, wrap_succ hi hl]
    simp only [cond_true, Option.bind_some]
    cases x == s <;> rfl)
  rcases hfind with ⟨h1, i, h2, h3⟩ | ⟨h1, h2⟩
  · refine ⟨_, h3, ?_, ?_⟩ <;> unfold among <;> rw [h1]
    · exact decide_eq_false (by omega)
    · exact decide_eq_true (by omega)
  · refine ⟨-1, h2.trans (runO_inr ?_), ?_, ?_⟩
    · show R10_index_L0 _ _ _ = _
      unfold R10_index_L0
      rw [decide_eq_false (by omega)]; rfl
    · unfold among; rw [h1]; rfl
    · unfold among; rw [h1]; rfl
theorem ref_IsSub_eq (s : List UInt8) : R10_IsSub s = some (subV s) := by
  unfold R10_IsSub R10_IsSub_0 subV
  obtain ⟨x, hx, ex, _⟩ := index_eq supW s (by decide)
  obtain ⟨y, hy, ey, _⟩ := index_eq typW s (by decide)
  have h1 : R10_superWords = some supW := rfl
  have h2 : R10_typeWords = some typW := rfl
  simp only [ref_word_eq, h1, h2, hx, hy, Option.bind_some, ex, ey]
  exact gate_p fun _ => gate_p fun _ => rfl
theorem ref_HasSub_eq (l : api_Line) (s : List UInt8) (hl : l.Subs.length ≤ 4611686018427387904) : R10_HasSub l s = some (among l.Subs s) := by
  unfold R10_HasSub R10_HasSub_0
  obtain ⟨x, hx, _, ex⟩ := index_eq l.Subs s hl
  simp only [hx, Option.bind_some, ex]; rfl
theorem HasSub_eq (l : api_Line) (s : List UInt8) (hl : l.Subs.length ≤ 4611686018427387904) : line_HasSub l s = some (among l.Subs s) := by
  unfold line_HasSub line_HasSub_0 slices_Contains___string_string_ slices_Contains___string_string__0 slices_Index___string_string_ slices_Index___string_string__0
  simp only [Option.bind_some, endO_inl]
  have hfind := find_list (step := slices_Index___string_string__step) l.Subs (fun i => .L0 l.Subs s (l.Subs.length : Int) (i : Int)) (fun i => (i : Int)) (fun w => w == s) (fun i x hx => by
    have hi := (List.getElem?_eq_some_iff.1 hx).1
    show slices_Index___string_string__L0 _ _ _ _ = _
    unfold slices_Index___string_string__L0
    rw [decide_eq_true (by omega), idx_at hx, wrap_succ hi hl]
    simp only [cond_true, Option.bind_some]
    rw [show (s == x) = (x == s) from by rw [str_beq, str_beq]; simp [eq_comm]]
    cases x == s <;> rfl
)
  rcases hfind with ⟨h1, i, h2, h3⟩ | ⟨h1, h2⟩
  · rw [show (slices_Index___string_string__S.L0 l.Subs s (l.Subs.length : Int) 0) = .L0 l.Subs s (l.Subs.length : Int) ((0 : Nat) : Int) from rfl, h3]
    unfold among; rw [h1]
    simp only [Option.bind_some, endO_inr]
    rw [decide_eq_true (by omega)]
  · have he : runO slices_Index___string_string__step (.L0 l.Subs s (l.Subs.length : Int) (l.Subs.length : Int)) = some (-1) := by
      refine runO_inr ?_
      show slices_Index___string_string__L0 _ _ _ _ = _
      unfold slices_Index___string_string__L0
      rw [decide_eq_false (by omega)]; rfl
    rw [show (slices_Index___string_string__S.L0 l.Subs s (l.Subs.length : Int) 0) = .L0 l.Subs s (l.Subs.length : Int) ((0 : Nat) : Int) from rfl, h2, he]
    unfold among; rw [h1]; rfl
/-! ### Filters -/
def btw (n m : Int) : Bool := decide (n ≥ 0) && decide (n ≤ m)
def bndV (b : api_Bound) : Bool := btw b.Kind 3 && (btw b.N 1000000 && (b.Kind != 0 || b.N == 0))
def disV (a b : Int) : Bool := bitOp .and .i64 a b == 0
def filV (f : api_Filter) : Bool :=
  btw f.Zone 5 && (btw f.Who 2 && (btw f.Self 2 && (btw f.Tap 2 && (btw f.Keys 131071 && (btw f.Types 63 && (btw f.NotTypes 63 && (disV f.Types f.NotTypes &&
  (btw f.Colors 31 && (btw f.NotColors 31 && (disV f.Colors f.NotColors && ((f.Sub == [] || subV f.Sub) && (bndV f.Power && (bndV f.Tough && bndV f.Value)))))))))))))
theorem between_eq (n m : Int) : filter_between n m = some (btw n m) := by
  unfold filter_between filter_between_0 btw
  exact gate_p fun _ => rfl
theorem bounded_eq (b : api_Bound) : filter_bounded b = some (bndV b) := by
  unfold filter_bounded filter_bounded_0 bndV
  simp only [between_eq, Option.bind_some]
  refine gate_p fun _ => gate_p fun _ => ?_
  cases b.Kind != 0 <;> rfl
theorem Is_end (f : api_Filter) : (filter_Is_L0 f).bind (endO filter_Is_step) = some (bndV f.Power && (bndV f.Tough && bndV f.Value)) := by
  unfold filter_Is_L0
  simp only [bounded_eq, Option.bind_some]
  exact gate_p fun _ => gate_p fun _ => rfl
theorem filter_Is_eq (f : api_Filter) : filter_Is f = some (filV f) := by
  unfold filter_Is filter_Is_0 filV
  simp only [between_eq, Option.bind_some, IsSub_eq]
  refine gate_n fun _ => gate_n fun _ => gate_n fun _ => gate_n fun _ => gate_n fun _ => gate_n fun _ => gate_n fun _ => ?_
  have dis : ∀ {a b r : Bool} {c d : Int} {k : Option (filter_Is_S ⊕ Bool)}, k.bind (endO filter_Is_step) = some r → (bif (bitOp .and .i64 c d != 0) then some (.inr false) else k).bind (endO filter_Is_step) = some (disV c d && r) := by
    intro a b r c d k h
    unfold disV
    simp only [bne]
    exact gate_n fun _ => h
  refine dis (a := true) (b := true) (gate_n fun _ => gate_n fun _ => dis (a := true) (b := true) ?_)
  cases f.Sub == [] with
  | true => simp only [Bool.not_true, cond_false, Bool.true_or, Bool.true_and]; exact Is_end f
  | false => simp only [Bool.not_false, cond_true, Bool.false_or]; exact gate_n fun _ => Is_end f

theorem bound_eq (b : api_Bound) : R13_bound b = some (bndV b) := by
  unfold R13_bound R13_bound_0
  refine (gate_x fun _ => gate_x fun _ => gate_x fun _ => gate_x fun _ => (show _ = some (b.Kind != 0 || b.N == 0) from by cases b.Kind != 0 <;> rfl)).trans ?_
  congr 1
  unfold bndV btw
  rw [Bool.eq_iff_iff]
  simp only [Bool.and_eq_true, Bool.not_eq_true', decide_eq_false_iff_not, decide_eq_true_eq, ge_iff_le, gt_iff_lt, Int.not_lt]
  constructor
  · rintro ⟨h1, h2, h3, h4, h5⟩; exact ⟨⟨h1, h2⟩, ⟨h3, h4⟩, h5⟩
  · rintro ⟨⟨h1, h2⟩, ⟨h3, h4⟩, h5⟩; exact ⟨h1, h2, h3, h4, h5⟩
theorem apart_loop : ∀ (d i a b : Nat), i + d = 6 → a < 2 ^ 62 → b < 2 ^ 62 → runO R13_apart_step (.L0 (a : Int) (b : Int) (i : Int)) = some (apartN d a b)
  | 0, i, a, b, hi, _, _ => by
    refine runO_inr ?_
    show R13_apart_L0 _ _ _ = _
    unfold R13_apart_L0
    rw [decide_eq_false (by omega)]; rfl
  | d + 1, i, a, b, hi, ha, hb => by
    have hw : IntKind.wrap .i64 ((i : Int) + 1) = ((i + 1 : Nat) : Int) := wrap64 (by omega) (by omega)
    have hs : R13_apart_step (.L0 (a : Int) (b : Int) (i : Int)) = some (bif decide (a % 2 = 1) && decide (b % 2 = 1) then .inr false else .inl (.L0 ((a / 2 : Nat) : Int) ((b / 2 : Nat) : Int) ((i + 1 : Nat) : Int))) := by
      show R13_apart_L0 _ _ _ = _
      unfold R13_apart_L0
      rw [decide_eq_true (by omega), rem_two, rem_two, quo_two a ha, quo_two b hb, hw]
      cases decide (a % 2 = 1) <;> cases decide (b % 2 = 1) <;> rfl
    unfold apartN
    by_cases h : a % 2 = 1 ∧ b % 2 = 1
    · rw [if_pos h]
      rw [decide_eq_true h.1, decide_eq_true h.2] at hs
      exact runO_inr hs
    · rw [if_neg h]
      have : (decide (a % 2 = 1) && decide (b % 2 = 1)) = false := by
        rw [← Bool.decide_and]; exact decide_eq_false h
      rw [this] at hs
      rw [runO_inl hs]
      exact apart_loop d (i + 1) (a / 2) (b / 2) (by omega) (by omega) (by omega)
theorem apart_eq (a b m : Int) (hm : m < 64) : R13_apart a b m = some (btw a m && (btw b m && disV a b)) := by
  have key : ∀ {r : Bool}, (0 ≤ a → a ≤ m → 0 ≤ b → b ≤ m → r = disV a b) → (!decide (a < 0) && (!decide (a > m) && (!decide (b < 0) && (!decide (b > m) && r)))) = (btw a m && (btw b m && disV a b)) := by
    intro r hr
    unfold btw
    by_cases h1 : 0 ≤ a
    · by_cases h2 : a ≤ m
      · by_cases h3 : 0 ≤ b
        · by_cases h4 : b ≤ m
          · rw [hr h1 h2 h3 h4]
            simp [h1, h2, h3, h4, Int.not_lt.2]
          · simp [h4, Int.not_le.1 h4]
        · simp [h3, Int.not_le.1 h3]
      · simp [h2, Int.not_le.1 h2]
    · simp [h1, Int.not_le.1 h1]
  unfold R13_apart R13_apart_0
  by_cases hin : 0 ≤ a ∧ a ≤ m ∧ 0 ≤ b ∧ b ≤ m
  · obtain ⟨h1, h2, h3, h4⟩ := hin
    refine (gate_x (r := !decide (a > m) && (!decide (b < 0) && (!decide (b > m) && disV a b))) fun _ => gate_x fun _ => gate_x fun _ => gate_x fun _ => ?_).trans (congrArg some (key fun _ _ _ _ => rfl))
    obtain ⟨x, rfl⟩ := Int.eq_ofNat_of_zero_le h1
    obtain ⟨y, rfl⟩ := Int.eq_ofNat_of_zero_le h3
    show runO R13_apart_step (.L0 (x : Int) (y : Int) ((0 : Nat) : Int)) = _
    rw [apart_loop 6 0 x y rfl (by omega) (by omega), apartN_and (by omega)]
    unfold disV
    rw [and_nat (by omega) (by omega), int_beq]
    congr 1
    rw [decide_eq_decide]; omega
  · refine (gate_x (r := !decide (a > m) && (!decide (b < 0) && (!decide (b > m) && disV a b))) fun e1 => gate_x fun e2 => gate_x fun e3 => gate_x fun e4 => ?_).trans (congrArg some (key fun _ _ _ _ => rfl))
    simp only [decide_eq_false_iff_not] at e1 e2 e3 e4
    exact absurd ⟨by omega, by omega, by omega, by omega⟩ hin
theorem ref_end (f : api_Filter) : (R13_Is_L0 f).bind (endO R13_Is_step) = some (bndV f.Power && (bndV f.Tough && bndV f.Value)) := by
  unfold R13_Is_L0
  simp only [bound_eq, Option.bind_some]
  exact gate_p fun _ => gate_p fun _ => rfl
theorem ref_Is_eq (f : api_Filter) : R13_Is f = some (filV f) := by
  unfold R13_Is R13_Is_0
  simp only [apart_eq _ _ _ (by decide : (63 : Int) < 64), apart_eq _ _ _ (by decide : (31 : Int) < 64), Option.bind_some, ref_IsSub_eq]
  refine (gate_x fun _ => gate_x fun _ => gate_x fun _ => gate_x fun _ => gate_x fun _ => gate_x fun _ => gate_x fun _ => gate_x fun _ => gate_n fun _ => gate_n fun _ =>
    (show _ = some ((f.Sub == [] || subV f.Sub) && (!decide (f.Keys < 0) && (!decide (f.Keys > 131071) && (bndV f.Power && (bndV f.Tough && bndV f.Value))))) from ?_)).trans ?_
  · cases f.Sub == [] with
    | true => simp only [Bool.not_true, cond_false, Bool.true_or, Bool.true_and]; exact gate_x fun _ => gate_x fun _ => ref_end f
    | false => simp only [Bool.not_false, cond_true, Bool.false_or]; exact gate_n fun _ => gate_x fun _ => gate_x fun _ => ref_end f
  · congr 1
    unfold filV btw
    rw [Bool.eq_iff_iff]
    simp only [Bool.and_eq_true, Bool.not_eq_true', decide_eq_false_iff_not, decide_eq_true_eq, ge_iff_le, gt_iff_lt, Int.not_lt]
    constructor
    · rintro ⟨z1, z2, w1, w2, s1, s2, t1, t2, ⟨⟨a1, a2⟩, ⟨b1, b2⟩, d1⟩, ⟨⟨c1, c2⟩, ⟨e1, e2⟩, d2⟩, su, k1, k2, p, q, v⟩
      exact ⟨⟨z1, z2⟩, ⟨w1, w2⟩, ⟨s1, s2⟩, ⟨t1, t2⟩, ⟨k1, k2⟩, ⟨a1, a2⟩, ⟨b1, b2⟩, d1, ⟨c1, c2⟩, ⟨e1, e2⟩, d2, su, p, q, v⟩
    · rintro ⟨⟨z1, z2⟩, ⟨w1, w2⟩, ⟨s1, s2⟩, ⟨t1, t2⟩, ⟨k1, k2⟩, ⟨a1, a2⟩, ⟨b1, b2⟩, d1, ⟨c1, c2⟩, ⟨e1, e2⟩, d2, su, p, q, v⟩
      exact ⟨z1, z2, w1, w2, s1, s2, t1, t2, ⟨⟨a1, a2⟩, ⟨b1, b2⟩, d1⟩, ⟨⟨c1, c2⟩, ⟨e1, e2⟩, d2⟩, su, k1, k2, p, q, v⟩
end Go.PW
