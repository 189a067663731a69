import Derived.Test.YthcjjlopamfpfaaQD
import Derived.KernelRfl
namespace Go.PW

theorem wrap64 {n : Int} (h0 : 0 ≤ n) (h1 : n < 9223372036854775808) : IntKind.wrap .i64 n = n := by
  simp only [IntKind.wrap, IntKind.bits, IntKind.signed, Bool.true_and, ge_iff_le, decide_eq_true_eq]
  have : n % (2 ^ 64 : Int) = n := Int.emod_eq_of_lt h0 (by omega)
  rw [this, if_neg (by omega)]
theorem wrapu32 {n : Int} (h0 : 0 ≤ n) (h1 : n < 4294967296) : IntKind.wrap .u32 n = n := by
  simp only [IntKind.wrap, IntKind.bits, IntKind.signed, Bool.false_and, Bool.false_eq_true, if_false]
  exact Int.emod_eq_of_lt h0 (by omega)
theorem wrapu8 {n : Int} (h0 : 0 ≤ n) (h1 : n < 256) : IntKind.wrap .u8 n = n := by
  simp only [IntKind.wrap, IntKind.bits, IntKind.signed, Bool.false_and, Bool.false_eq_true, if_false]
  exact Int.emod_eq_of_lt h0 (by omega)

theorem and1_u32 (r : Nat) (h : r < 4294967296) : bitOp .and .u32 (r : Int) 1 = ((r % 2 : Nat) : Int) := by
  have e : (BitVec.ofInt 32 (r : Int) &&& BitVec.ofInt 32 1).toNat = r % 2 := by
    rw [BitVec.toNat_and, BitVec.ofInt_natCast, BitVec.toNat_ofNat]
    rw [show (BitVec.ofInt 32 1).toNat = 1 from rfl, Nat.and_one_is_mod]; omega
  show IntKind.wrap .u32 (((BitVec.ofInt 32 (r : Int) &&& BitVec.ofInt 32 1).toNat : Nat) : Int) = _
  rw [e]
  exact wrapu32 (by omega) (by omega)
theorem and1_u8 (r : Nat) (h : r < 256) : bitOp .and .u8 (r : Int) 1 = ((r % 2 : Nat) : Int) := by
  have e : (BitVec.ofInt 8 (r : Int) &&& BitVec.ofInt 8 1).toNat = r % 2 := by
    rw [BitVec.toNat_and, BitVec.ofInt_natCast, BitVec.toNat_ofNat]
    rw [show (BitVec.ofInt 8 1).toNat = 1 from rfl, Nat.and_one_is_mod]; omega
  show IntKind.wrap .u8 (((BitVec.ofInt 8 (r : Int) &&& BitVec.ofInt 8 1).toNat : Nat) : Int) = _
  rw [e]
  exact wrapu8 (by omega) (by omega)
theorem xor_u32 (a b : Nat) (h : a < 4294967296) (hb : b < 4294967296) : bitOp .xor .u32 (a : Int) (b : Int) = ((a ^^^ b : Nat) : Int) := by
  have e : (BitVec.ofInt 32 (a : Int) ^^^ BitVec.ofInt 32 (b : Int)).toNat = a ^^^ b := by
    rw [BitVec.toNat_xor, BitVec.ofInt_natCast, BitVec.ofInt_natCast, BitVec.toNat_ofNat, BitVec.toNat_ofNat, Nat.mod_eq_of_lt (by simpa using h), Nat.mod_eq_of_lt hb]
  have hlt : a ^^^ b < 2 ^ 32 := Nat.xor_lt_two_pow (by simpa using h) (by simpa using hb)
  show IntKind.wrap .u32 (((BitVec.ofInt 32 (a : Int) ^^^ BitVec.ofInt 32 (b : Int)).toNat : Nat) : Int) = _
  rw [e]
  exact wrapu32 (by omega) (by omega)
theorem com_u32 (r : Nat) (h : r < 4294967296) : comI .u32 (r : Int) = ((4294967295 - r : Nat) : Int) := by
  unfold comI
  simp only [IntKind.signed, Bool.false_eq_true, if_false]
  rw [show IntKind.max .u32 = ((4294967295 : Nat) : Int) from rfl, xor_u32 _ _ (by decide) h]
  congr 1
  have : (4294967295 ^^^ r) = (BitVec.allOnes 32 ^^^ BitVec.ofNat 32 r).toNat := by
    rw [BitVec.toNat_xor, BitVec.toNat_allOnes, BitVec.toNat_ofNat, Nat.mod_eq_of_lt (by simpa using h)]
  rw [this, BitVec.allOnes_xor, BitVec.toNat_not, BitVec.toNat_ofNat, Nat.mod_eq_of_lt (by simpa using h)]
theorem shr_u32 (r : Nat) : shrI .u32 (r : Int) 1 = ((r / 2 : Nat) : Int) := by
  unfold shrI
  simp only [IntKind.bits, show min (1 : Int).toNat 32 = 1 from rfl]
  rw [Int.fdiv_eq_ediv_of_nonneg _ (by decide)]; rfl
theorem shr_u8 (x k : Nat) (hk : k ≤ 8) : shrI .u8 (x : Int) (k : Int) = ((x / 2 ^ k : Nat) : Int) := by
  unfold shrI
  simp only [IntKind.bits, Int.toNat_natCast, Nat.min_eq_left hk]
  rw [Int.fdiv_eq_ediv_of_nonneg _ (Int.pow_nonneg (by decide)), Int.natCast_ediv, Int.natCast_pow]; rfl
theorem quo_u32 (r m : Nat) (h : r < 4294967296) : quoI .u32 (r : Int) (m : Int) = ((r / m : Nat) : Int) := by
  unfold quoI
  rw [show (r : Int).tdiv (m : Int) = ((r / m : Nat) : Int) from rfl]
  have := Nat.lt_of_le_of_lt (Nat.div_le_self r m) h
  generalize r / m = q at this
  exact wrapu32 (by omega) (by omega)
theorem tmod_nat (r m : Nat) : Int.tmod (r : Int) (m : Int) = ((r % m : Nat) : Int) := rfl

/-! ### The checksum -/
def cbit (r b : Nat) : Nat := if r % 2 ≠ b then (r / 2) ^^^ 3988292384 else r / 2
def cbits : Nat → Nat → Nat → Nat
  | 0, r, _ => r
  | n + 1, r, x => cbits n (cbit r (x % 2)) (x / 2)
def cbyte (r x : Nat) : Nat := cbits 8 r x
def creg (r : Nat) (b : List Nat) : Nat := b.foldl cbyte r
def crc (b : List Nat) : Nat := 4294967295 - creg 4294967295 b
def ints (b : List Nat) : List Int := b.map fun x : Nat => (x : Int)

theorem cbit_lt (r b : Nat) (h : r < 4294967296) : cbit r b < 4294967296 := by
  unfold cbit
  split
  · exact Nat.xor_lt_two_pow (n := 32) (by omega) (by decide)
  · omega
theorem cbits_lt : ∀ (n r x : Nat), r < 4294967296 → cbits n r x < 4294967296
  | 0, r, x, h => h
  | n + 1, r, x, h => cbits_lt n _ _ (cbit_lt r _ h)
theorem creg_lt : ∀ (b : List Nat) (r : Nat), r < 4294967296 → creg r b < 4294967296
  | [], r, h => h
  | x :: b, r, h => creg_lt b _ (cbits_lt 8 r x h)
theorem idx_nat (b : List Nat) (i : Nat) : idx? (ints b) (i : Int) = (b[i]?).map fun x : Nat => (x : Int) := by
  unfold idx? ints
  simp

theorem sum_Of_bits (b : List Nat) (n : Int) (i : Int) (x : Nat) (hx : x < 256) : ∀ (m k : Nat), k + m = 8 → ∀ r : Nat, r < 4294967296 →
    runO sum_Of_step (.L1 r x (ints b) n i k) = runO sum_Of_step (.L0 (cbits m r (x / 2 ^ k)) (ints b) n (IntKind.wrap .i64 (i + 1)))
  | 0, k, hk, r, hr => by
    apply runO_inl
    have : ¬ ((k : Int) < 8) := by omega
    simp [sum_Of_step, sum_Of_L1, this, cbits]
  | m + 1, k, hk, r, hr => by
    have h8 : (k : Int) < 8 := by omega
    have hk0 : ¬ (k : Int) < 0 := by omega
    have hxk : x / 2 ^ k < 256 := Nat.lt_of_le_of_lt (Nat.div_le_self _ _) hx
    have e1 : sum_Of_step (.L1 r x (ints b) n i k) = some (.inl (.L1 ((cbit r (x / 2 ^ k % 2) : Nat) : Int) x (ints b) n i ((k + 1 : Nat) : Int))) := by
      simp only [sum_Of_step, sum_Of_L1, decide_eq_true h8, cond_true, ok?, decide_eq_true hk0, if_true, Option.bind_some, and1_u32 r hr, shr_u8 x k (by omega), and1_u8 _ hxk, shr_u32]
      rw [wrapu32 (by omega) (by omega), wrap64 (by omega) (by omega)]
      have hne : ((((r % 2 : Nat) : Int) != ((x / 2 ^ k % 2 : Nat) : Int)) : Bool) = decide (r % 2 ≠ x / 2 ^ k % 2) := by
        by_cases h : r % 2 = x / 2 ^ k % 2
        · simp [h]
        · have : ((r % 2 : Nat) : Int) ≠ ((x / 2 ^ k % 2 : Nat) : Int) := by omega
          have h2 : ((((r % 2 : Nat) : Int) == ((x / 2 ^ k % 2 : Nat) : Int)) : Bool) = false := beq_eq_false_iff_ne.2 this
          rw [bne, h2, decide_eq_true h]; rfl
      rw [hne]
      have hxor := xor_u32 (r / 2) 3988292384 (by omega) (by decide)
      rw [show ((3988292384 : Nat) : Int) = 3988292384 from rfl] at hxor
      rw [hxor]
      unfold cbit
      by_cases h : r % 2 ≠ x / 2 ^ k % 2
      · simp [h]
      · simp [h]
    rw [runO_inl e1, sum_Of_bits b n i x hx m (k + 1) (by omega) _ (cbit_lt r _ hr)]
    simp only [cbits]
    rw [Nat.div_div_eq_div_mul, ← Nat.pow_succ]

theorem ref_Of_bits (b : List Nat) (i : Int) : ∀ (m k : Nat), k + m = 8 → ∀ r x : Nat, r < 4294967296 → x < 4294967296 →
    runO R05_Of_step (.L1 (ints b) r i x k) = runO R05_Of_step (.L0 (ints b) (cbits m r x) (IntKind.wrap .i64 (i + 1)))
  | 0, k, hk, r, x, hr, hx => by
    apply runO_inl
    have : ¬ ((k : Int) < 8) := by omega
    simp [R05_Of_step, R05_Of_L1, this, cbits]
  | m + 1, k, hk, r, x, hr, hx => by
    have h8 : (k : Int) < 8 := by omega
    have e1 : R05_Of_step (.L1 (ints b) r i x k) = some (.inl (.L1 (ints b) ((cbit r (x % 2) : Nat) : Int) i ((x / 2 : Nat) : Int) ((k + 1 : Nat) : Int))) := by
      have t1 : Int.tmod (r : Int) 2 = ((r % 2 : Nat) : Int) := rfl
      have t2 : Int.tmod (x : Int) 2 = ((x % 2 : Nat) : Int) := rfl
      have q1 : quoI .u32 (r : Int) 2 = ((r / 2 : Nat) : Int) := quo_u32 r 2 hr
      have q2 : quoI .u32 (x : Int) 2 = ((x / 2 : Nat) : Int) := quo_u32 x 2 hx
      simp only [R05_Of_step, R05_Of_L1, decide_eq_true h8, cond_true, t1, t2, q1, q2]
      rw [wrap64 (by omega) (by omega)]
      have hne : ((((r % 2 : Nat) : Int) != ((x % 2 : Nat) : Int)) : Bool) = decide (r % 2 ≠ x % 2) := by
        by_cases h : r % 2 = x % 2
        · simp [h]
        · have : ((r % 2 : Nat) : Int) ≠ ((x % 2 : Nat) : Int) := by omega
          have h2 : ((((r % 2 : Nat) : Int) == ((x % 2 : Nat) : Int)) : Bool) = false := beq_eq_false_iff_ne.2 this
          rw [bne, h2, decide_eq_true h]; rfl
      rw [hne]
      have hxor := xor_u32 (r / 2) 3988292384 (by omega) (by decide)
      rw [show ((3988292384 : Nat) : Int) = 3988292384 from rfl] at hxor
      rw [hxor]
      unfold cbit
      by_cases h : r % 2 ≠ x % 2
      · simp [h]
      · simp [h]
    rw [runO_inl e1, ref_Of_bits b i m (k + 1) (by omega) _ _ (cbit_lt r _ hr) (by omega)]
    simp only [cbits]

theorem drop_cons {b : List Nat} {j x : Nat} (h : b[j]? = some x) : b.drop j = x :: b.drop (j + 1) := by
  obtain ⟨hlt, he⟩ := List.getElem?_eq_some_iff.1 h
  rw [← he]; exact List.drop_eq_getElem_cons hlt

theorem sum_Of_run (b : List Nat) (hb : ∀ x ∈ b, x < 256) (hl : b.length < 9223372036854775808) : ∀ (m j : Nat), j + m = b.length → ∀ r : Nat, r < 4294967296 →
    runO sum_Of_step (.L0 r (ints b) b.length j) = some (((4294967295 - creg r (b.drop j) : Nat)) : Int)
  | 0, j, hj, r, hr => by
    apply runO_inr
    have h1 : ¬ ((j : Int) < (b.length : Int)) := by omega
    have h2 : b.drop j = [] := List.drop_eq_nil_of_le (by omega)
    simp only [sum_Of_step, sum_Of_L0, decide_eq_false h1, cond_false, h2, creg, List.foldl_nil, com_u32 r hr]
  | m + 1, j, hj, r, hr => by
    have hlt : j < b.length := by omega
    have h1 : (j : Int) < (b.length : Int) := by omega
    have hx : b[j]? = some b[j] := List.getElem?_eq_getElem hlt
    have e1 : sum_Of_step (.L0 r (ints b) b.length j) = some (.inl (.L1 r (b[j] : Nat) (ints b) b.length j ((0 : Nat) : Int))) := by
      simp only [sum_Of_step, sum_Of_L0, decide_eq_true h1, cond_true, idx_nat, hx, Option.map_some, Option.bind_some]
      rfl
    have hbx : b[j] < 256 := hb _ (List.getElem_mem hlt)
    rw [runO_inl e1, sum_Of_bits b _ _ _ hbx 8 0 rfl r hr, wrap64 (by omega) (by omega), drop_cons hx]
    have := sum_Of_run b hb hl m (j + 1) (by omega) (cbyte r b[j]) (cbits_lt 8 _ _ hr)
    rw [show (j : Int) + 1 = ((j + 1 : Nat) : Int) by omega, Nat.pow_zero, Nat.div_one]
    exact this
theorem ref_Of_run (b : List Nat) (hb : ∀ x ∈ b, x < 256) (hl : b.length < 9223372036854775808) : ∀ (m j : Nat), j + m = b.length → ∀ r : Nat, r < 4294967296 →
    runO R05_Of_step (.L0 (ints b) r j) = some (((4294967295 - creg r (b.drop j) : Nat)) : Int)
  | 0, j, hj, r, hr => by
    apply runO_inr
    have hlen : ((ints b).length : Int) = b.length := by simp [ints]
    have h1 : ¬ ((j : Int) < (b.length : Int)) := by omega
    have h2 : b.drop j = [] := List.drop_eq_nil_of_le (by omega)
    simp only [R05_Of_step, R05_Of_L0, hlen, decide_eq_false h1, cond_false, h2, creg, List.foldl_nil]
    rw [wrapu32 (by omega) (by omega)]
    congr 2; omega
  | m + 1, j, hj, r, hr => by
    have hlt : j < b.length := by omega
    have hlen : ((ints b).length : Int) = b.length := by simp [ints]
    have h1 : (j : Int) < (b.length : Int) := by omega
    have hx : b[j]? = some b[j] := List.getElem?_eq_getElem hlt
    have hbx : b[j] < 256 := hb _ (List.getElem_mem hlt)
    have e1 : R05_Of_step (.L0 (ints b) r j) = some (.inl (.L1 (ints b) r j (b[j] : Nat) ((0 : Nat) : Int))) := by
      simp only [R05_Of_step, R05_Of_L0, hlen, decide_eq_true h1, cond_true, idx_nat, hx, Option.map_some, Option.bind_some]
      rw [wrapu32 (by omega) (by omega)]; rfl
    rw [runO_inl e1, ref_Of_bits b _ 8 0 rfl r _ hr (by omega), wrap64 (by omega) (by omega), drop_cons hx]
    have := ref_Of_run b hb hl m (j + 1) (by omega) (cbyte r b[j]) (cbits_lt 8 _ _ hr)
    rw [show (j : Int) + 1 = ((j + 1 : Nat) : Int) by omega]
    exact this
theorem sum_Of_eq (b : List Nat) (hb : ∀ x ∈ b, x < 256) (hl : b.length < 9223372036854775808) : sum_Of (ints b) = some ((crc b : Nat) : Int) := by
  have := sum_Of_run b hb hl b.length 0 (by omega) 4294967295 (by decide)
  have hlen : ((ints b).length : Int) = b.length := by simp [ints]
  simpa [sum_Of, sum_Of_0, endO, hlen, crc] using this
theorem ref_Of_eq (b : List Nat) (hb : ∀ x ∈ b, x < 256) (hl : b.length < 9223372036854775808) : R05_Of (ints b) = some ((crc b : Nat) : Int) := by
  have := ref_Of_run b hb hl b.length 0 (by omega) 4294967295 (by decide)
  simpa [R05_Of, R05_Of_0, endO, crc] using this

/-! ### Sealing -/
def le4 (c : Nat) : List Nat := [c % 256, c / 256 % 256, c / 65536 % 256, c / 16777216 % 256]
def sealed (b : List Nat) : List Nat := b ++ le4 (crc b)
theorem ints_append (a b : List Nat) : ints (a ++ b) = ints a ++ ints b := by simp [ints]
theorem ints_length (b : List Nat) : (ints b).length = b.length := by simp [ints]
theorem crc_lt (b : List Nat) : crc b < 4294967296 := by unfold crc; omega
theorem app_ok {α : Type} {k : Nat} {a b : List α} (h : (a.length + b.length) * k ≤ 140737488355328) (hk : 0 < k) : app? k a b = some (a ++ b) := by
  have : a.length + b.length ≤ (a.length + b.length) * k := Nat.le_mul_of_pos_right _ hk
  unfold app?
  rw [if_pos ⟨h, by omega⟩]
theorem wrapu8_nat (n : Nat) : IntKind.wrap .u8 (n : Int) = ((n % 256 : Nat) : Int) := by
  simp only [IntKind.wrap, IntKind.bits, IntKind.signed, Bool.false_and, Bool.false_eq_true, if_false]
  rfl
theorem shr32 (c k : Nat) (hk : k ≤ 32) : shrI .u32 (c : Int) (k : Int) = ((c / 2 ^ k : Nat) : Int) := by
  unfold shrI
  simp only [IntKind.bits, Int.toNat_natCast, Nat.min_eq_left hk]
  rw [Int.fdiv_eq_ediv_of_nonneg _ (Int.pow_nonneg (by decide)), Int.natCast_ediv, Int.natCast_pow]; rfl

theorem sum_Seal_step_eq (l : List Nat) (c i : Nat) (hi : i < 4) (hl : l.length < 100000000000) :
    runO sum_Seal_step (.L0 (ints l) i c) = runO sum_Seal_step (.L0 (ints (l ++ [c / 2 ^ (8 * i) % 256])) ((i + 1 : Nat) : Int) c) := by
  apply runO_inl
  have h1 : (i : Int) < 4 := by omega
  have h2 : IntKind.wrap .i64 (8 * (i : Int)) = ((8 * i : Nat) : Int) := by rw [wrap64 (by omega) (by omega)]; omega
  have h3 : ¬ ((8 * i : Nat) : Int) < 0 := by omega
  have h4 : app? 1 (ints l) [((c / 2 ^ (8 * i) % 256 : Nat) : Int)] = some (ints (l ++ [c / 2 ^ (8 * i) % 256])) := by
    rw [app_ok (by simp [ints]; omega) (by decide), ints_append]; rfl
  simp only [sum_Seal_step, sum_Seal_L0, decide_eq_true h1, cond_true, h2, ok?, decide_eq_true h3, if_true, Option.bind_some, shr32 c (8 * i) (by omega), wrapu8_nat, h4]
  rw [wrap64 (by omega) (by omega)]; rfl
theorem sum_Seal_eq (b : List Nat) (hb : ∀ x ∈ b, x < 256) (hl : b.length ≤ 5000) : sum_Seal (ints b) = some (ints (sealed b)) := by
  have hlen : ((ints b).length : Int) = b.length := by simp [ints]
  have h1 : make? 1 (0 : Int) (b.length : Int) (IntKind.wrap .i64 ((b.length : Int) + 4)) = some (List.replicate b.length 0) := by
    rw [wrap64 (by omega) (by omega)]
    unfold make?
    rw [if_pos (by omega)]; simp
  have h2 : copy? (List.replicate b.length (0 : Int)) (ints b) = some (ints b) := by
    unfold copy?
    rw [if_pos (by simp [ints])]; simp [ints]
  have h3 := sum_Of_eq b hb (by omega)
  have hend : ∀ l c, runO sum_Seal_step (.L0 l ((4 : Nat) : Int) c) = some l := fun l c => runO_inr rfl
  simp only [sum_Seal, sum_Seal_0, hlen, h1, h2, h3, Option.bind_some, endO]
  rw [show (0 : Int) = ((0 : Nat) : Int) from rfl, sum_Seal_step_eq _ _ 0 (by decide) (by omega), sum_Seal_step_eq _ _ 1 (by decide) (by simp; omega), sum_Seal_step_eq _ _ 2 (by decide) (by simp; omega), sum_Seal_step_eq _ _ 3 (by decide) (by simp; omega), hend]
  simp [sealed, le4]
theorem ref_Seal_step_eq (l : List Nat) (c i : Nat) (hi : i < 4) (hl : l.length < 100000000000) (hc : c < 4294967296) :
    runO R05_Seal_step (.L0 (ints l) c i) = runO R05_Seal_step (.L0 (ints (l ++ [c % 256])) ((c / 256 : Nat) : Int) ((i + 1 : Nat) : Int)) := by
  apply runO_inl
  have h1 : (i : Int) < 4 := by omega
  have t1 : Int.tmod (c : Int) 256 = ((c % 256 : Nat) : Int) := rfl
  have q1 : quoI .u32 (c : Int) 256 = ((c / 256 : Nat) : Int) := quo_u32 c 256 hc
  have h4 : app? 1 (ints l) [((c % 256 % 256 : Nat) : Int)] = some (ints (l ++ [c % 256])) := by
    rw [app_ok (by simp [ints]; omega) (by decide), ints_append]; simp [ints]
  simp only [R05_Seal_step, R05_Seal_L0, decide_eq_true h1, cond_true, t1, q1, wrapu8_nat, h4, Option.bind_some]
  rw [wrap64 (by omega) (by omega)]; rfl
theorem ref_Seal_eq (b : List Nat) (hb : ∀ x ∈ b, x < 256) (hl : b.length ≤ 5000) : R05_Seal (ints b) = some (ints (sealed b)) := by
  have h1 : app? 1 [] (ints b) = some (ints b) := by rw [app_ok (by simp [ints]; omega) (by decide)]; rfl
  have h3 := ref_Of_eq b hb (by omega)
  have hend : ∀ l c, runO R05_Seal_step (.L0 l c ((4 : Nat) : Int)) = some l := fun l c => runO_inr rfl
  have hc := crc_lt b
  simp only [R05_Seal, R05_Seal_0, h1, h3, Option.bind_some, endO]
  rw [show (0 : Int) = ((0 : Nat) : Int) from rfl, ref_Seal_step_eq _ _ 0 (by decide) (by omega) hc, ref_Seal_step_eq _ _ 1 (by decide) (by simp; omega) (by omega), ref_Seal_step_eq _ _ 2 (by decide) (by simp; omega) (by omega), ref_Seal_step_eq _ _ 3 (by decide) (by simp; omega) (by omega), hend]
  simp [sealed, le4, Nat.div_div_eq_div_mul]

/-! ### Comparing -/
theorem drop_cons' {b : List Int} {j : Nat} {x : Int} (h : b[j]? = some x) : b.drop j = x :: b.drop (j + 1) := by
  obtain ⟨hlt, he⟩ := List.getElem?_eq_some_iff.1 h
  rw [← he]; exact List.drop_eq_getElem_cons hlt
theorem idx_at {b : List Int} {j : Nat} {x : Int} (h : b[j]? = some x) : idx? b (j : Int) = some x := by
  unfold idx?
  rw [if_pos (by omega), Int.toNat_natCast, h]
theorem same_run (a b : List Int) (hl : a.length = b.length) (h63 : a.length < 9223372036854775808) : ∀ (m j : Nat), j + m = a.length →
    runO R05_Same_step (.L0 a b j) = some (decide (a.drop j = b.drop j))
  | 0, j, hj => by
    apply runO_inr
    have h1 : ¬ ((j : Int) < (a.length : Int)) := by omega
    have e1 : a.drop j = [] := List.drop_eq_nil_of_le (by omega)
    have e2 : b.drop j = [] := List.drop_eq_nil_of_le (by omega)
    simp only [R05_Same_step, R05_Same_L0, decide_eq_false h1, cond_false, e1, e2, decide_true]
  | m + 1, j, hj => by
    have h1 : (j : Int) < (a.length : Int) := by omega
    have ha : a[j]? = some (a[j]'(by omega)) := List.getElem?_eq_getElem (by omega)
    have hb : b[j]? = some (b[j]'(by omega)) := List.getElem?_eq_getElem (by omega)
    generalize a[j]'(by omega) = x at ha
    generalize b[j]'(by omega) = y at hb
    rw [drop_cons' ha, drop_cons' hb]
    by_cases hxy : x = y
    · subst hxy
      have e1 : R05_Same_step (.L0 a b j) = some (.inl (.L0 a b ((j + 1 : Nat) : Int))) := by
        simp only [R05_Same_step, R05_Same_L0, decide_eq_true h1, cond_true, idx_at ha, idx_at hb, Option.bind_some, bne_self_eq_false, cond_false]
        rw [wrap64 (by omega) (by omega)]; rfl
      rw [runO_inl e1, same_run a b hl h63 m (j + 1) (by omega)]
      simp
    · have hne : (x != y) = true := by simp [bne, hxy]
      have e1 : R05_Same_step (.L0 a b j) = some (.inr false) := by
        simp only [R05_Same_step, R05_Same_L0, decide_eq_true h1, cond_true, idx_at ha, idx_at hb, Option.bind_some, hne]
      rw [runO_inr e1]
      simp [hxy]
theorem same_eq (a b : List Int) (h63 : a.length < 9223372036854775808) : R05_Same a b = some (decide (a = b)) := by
  by_cases hl : a.length = b.length
  · have hne : (((a.length : Int) != (b.length : Int)) : Bool) = false := by simp [hl]
    have := same_run a b hl h63 a.length 0 (by omega)
    simp only [R05_Same, R05_Same_0, hne, cond_false, Option.bind_some, endO]
    simpa using this
  · have hne : (((a.length : Int) != (b.length : Int)) : Bool) = true := by
      have : (a.length : Int) ≠ (b.length : Int) := by omega
      simp [bne, this]
    simp only [R05_Same, R05_Same_0, hne, cond_true, Option.bind_some, endO]
    have : a ≠ b := fun e => hl (by rw [e])
    simp [this]
theorem equal_run (a b : List Int) (hl : a.length = b.length) (h63 : a.length < 9223372036854775808) : ∀ (m j : Nat), j + m = a.length →
    runO slices_Equal___byte_byte__step (.L0 a b a.length j) = some (decide (a.drop j = b.drop j))
  | 0, j, hj => by
    apply runO_inr
    have h1 : ¬ ((j : Int) < (a.length : Int)) := by omega
    have e1 : a.drop j = [] := List.drop_eq_nil_of_le (by omega)
    have e2 : b.drop j = [] := List.drop_eq_nil_of_le (by omega)
    simp only [slices_Equal___byte_byte__step, slices_Equal___byte_byte__L0, decide_eq_false h1, cond_false, e1, e2, decide_true]
  | m + 1, j, hj => by
    have h1 : (j : Int) < (a.length : Int) := by omega
    have ha : a[j]? = some (a[j]'(by omega)) := List.getElem?_eq_getElem (by omega)
    have hb : b[j]? = some (b[j]'(by omega)) := List.getElem?_eq_getElem (by omega)
    generalize a[j]'(by omega) = x at ha
    generalize b[j]'(by omega) = y at hb
    rw [drop_cons' ha, drop_cons' hb]
    by_cases hxy : x = y
    · subst hxy
      have e1 : slices_Equal___byte_byte__step (.L0 a b a.length j) = some (.inl (.L0 a b a.length ((j + 1 : Nat) : Int))) := by
        simp only [slices_Equal___byte_byte__step, slices_Equal___byte_byte__L0, decide_eq_true h1, cond_true, idx_at ha, idx_at hb, Option.bind_some, bne_self_eq_false, cond_false]
        rw [wrap64 (by omega) (by omega)]; rfl
      rw [runO_inl e1, equal_run a b hl h63 m (j + 1) (by omega)]
      simp
    · have hne : (x != y) = true := by simp [bne, hxy]
      have e1 : slices_Equal___byte_byte__step (.L0 a b a.length j) = some (.inr false) := by
        simp only [slices_Equal___byte_byte__step, slices_Equal___byte_byte__L0, decide_eq_true h1, cond_true, idx_at ha, idx_at hb, Option.bind_some, hne]
      rw [runO_inr e1]
      simp [hxy]
theorem equal_eq (a b : List Int) (h63 : a.length < 9223372036854775808) : slices_Equal___byte_byte_ a b = some (decide (a = b)) := by
  by_cases hl : a.length = b.length
  · have hne : (((a.length : Int) != (b.length : Int)) : Bool) = false := by simp [hl]
    have := equal_run a b hl h63 a.length 0 (by omega)
    simp only [slices_Equal___byte_byte_, slices_Equal___byte_byte__0, hne, cond_false, Option.bind_some, endO]
    simpa using this
  · have hne : (((a.length : Int) != (b.length : Int)) : Bool) = true := by
      have : (a.length : Int) ≠ (b.length : Int) := by omega
      simp [bne, this]
    simp only [slices_Equal___byte_byte_, slices_Equal___byte_byte__0, hne, cond_true, Option.bind_some, endO]
    have : a ≠ b := fun e => hl (by rw [e])
    simp [this]

/-! ### The laws -/
def digits : List Nat := [49, 50, 51, 52, 53, 54, 55, 56, 57]
theorem crc_digits : crc digits = 3421780262 := by kernel_rfl
theorem alive_eq : L05_alive = some true := by
  have hd : ∀ x ∈ digits, x < 256 := by decide
  have h1 : sum_Seal [49, 50, 51, 52, 53, 54, 55, 56, 57] = some (ints (sealed digits)) := sum_Seal_eq digits hd (by decide)
  have h2 : sum_Of [49, 50, 51, 52, 53, 54, 55, 56, 57] = some 3421780262 := by
    have := sum_Of_eq digits hd (by decide)
    rw [crc_digits] at this; exact this
  have h3 : sum_Of ([] : List Int) = some 0 := by
    have := sum_Of_eq [] (by simp) (by decide)
    exact this
  have h4 : ints (sealed digits) = [49, 50, 51, 52, 53, 54, 55, 56, 57, 38, 57, 244, 203] := by
    unfold sealed; rw [crc_digits]; rfl
  simp only [L05_alive, L05_alive_0, h1, h2, h3, h4, Option.bind_some]
  rfl
theorem law_SumOf (b : List Nat) (hb : ∀ x ∈ b, x < 256) : L05_SumOf (ints b) = some true := by
  simp only [L05_SumOf, L05_SumOf_0, ints_length]
  by_cases h : (b.length : Int) > 4000
  · simp only [decide_eq_true h, cond_true, alive_eq, Option.bind_some, endO]
  · have hl : (ints (sealed b)).length < 9223372036854775808 := by simp [ints, sealed, le4]; omega
    simp only [decide_eq_false h, cond_false, sum_Of_eq b hb (by omega), ref_Of_eq b hb (by omega), sum_Seal_eq b hb (by omega), ref_Seal_eq b hb (by omega), same_eq _ _ hl, alive_eq, Option.bind_some, beq_self_eq_true, cond_true, decide_true, endO]

/-! ### Opening -/
def opened (b : List Nat) : List Nat × Nat := if b.length < 4 then ([], 4) else if sealed (b.take (b.length - 4)) = b then (b.take (b.length - 4), 0) else ([], 8)
theorem ints_take (b : List Nat) (n : Nat) : ints (b.take n) = (ints b).take n := by simp [ints, List.map_take]
theorem ints_inj {a b : List Nat} (h : ints a = ints b) : a = b := by
  have key : ∀ a : List Nat, (ints a).map Int.toNat = a := by
    intro a
    induction a with
    | nil => rfl
    | cons x a ih => simp only [ints, List.map_cons, Int.toNat_natCast] at ih ⊢; rw [ih]
  rw [← key a, ← key b, h]
theorem slice_ints (b : List Nat) (h : 4 ≤ b.length) (hl : b.length ≤ 5000) : slice? (ints b) 0 (IntKind.wrap .i64 ((b.length : Int) - 4)) = some (ints (b.take (b.length - 4))) := by
  rw [wrap64 (by omega) (by omega)]
  unfold slice?
  rw [if_pos ⟨by omega, by omega, by rw [ints_length]; omega⟩, ints_take]
  have : ((b.length : Int) - 4).toNat = b.length - 4 := by omega
  simp [this]
theorem clone_eq (b : List Nat) (hl : b.length ≤ 5000) : slices_Clone___byte_byte_ (ints b) = some (ints b) := by
  have h1 : app? 1 [] (ints b) = some (ints b) := by rw [app_ok (by simp [ints]; omega) (by decide)]; rfl
  simp only [slices_Clone___byte_byte_, slices_Clone___byte_byte__0, h1, Option.bind_some, endO]
theorem take_lt {b : List Nat} (hb : ∀ x ∈ b, x < 256) (n : Nat) : ∀ x ∈ b.take n, x < 256 := fun x hx => hb x (List.mem_of_mem_take hx)
theorem sealed_length (b : List Nat) : (sealed b).length = b.length + 4 := by simp [sealed, le4]
theorem sum_Open_eq (b : List Nat) (hb : ∀ x ∈ b, x < 256) (hl : b.length ≤ 5000) : sum_Open (ints b) = some (ints (opened b).1, (((opened b).2 : Nat) : Int)) := by
  unfold opened
  by_cases h : b.length < 4
  · have h1 : ((b.length : Int) < 4) := by omega
    simp only [sum_Open, sum_Open_0, ints_length, decide_eq_true h1, cond_true, Option.bind_some, endO, if_pos h]
    rfl
  · have h1 : ¬ ((b.length : Int) < 4) := by omega
    have ht : (b.take (b.length - 4)).length ≤ 5000 := by simp; omega
    have hs : (ints (sealed (b.take (b.length - 4)))).length < 9223372036854775808 := by rw [ints_length, sealed_length]; omega
    simp only [sum_Open, sum_Open_0, ints_length, decide_eq_false h1, cond_false, slice_ints b (by omega) hl, clone_eq _ ht, sum_Seal_eq _ (take_lt hb _) ht, equal_eq _ _ hs, Option.bind_some, if_neg h]
    by_cases he : sealed (b.take (b.length - 4)) = b
    · have e1 : ints (sealed (b.take (b.length - 4))) = ints b := by rw [he]
      simp only [decide_eq_true e1, Bool.not_true, cond_false, Option.bind_some, endO, if_pos he]
      rfl
    · have e1 : ¬ ints (sealed (b.take (b.length - 4))) = ints b := fun e => he (ints_inj e)
      simp only [decide_eq_false e1, Bool.not_false, cond_true, Option.bind_some, endO, if_neg he]
      rfl
theorem ref_Open_eq (b : List Nat) (hb : ∀ x ∈ b, x < 256) (hl : b.length ≤ 5000) : R05_Open (ints b) = some (ints (opened b).1, (((opened b).2 : Nat) : Int)) := by
  unfold opened
  by_cases h : b.length < 4
  · have h1 : ((b.length : Int) < 4) := by omega
    simp only [R05_Open, R05_Open_0, ints_length, decide_eq_true h1, cond_true, Option.bind_some, endO, if_pos h]
    rfl
  · have h1 : ¬ ((b.length : Int) < 4) := by omega
    have ht : (b.take (b.length - 4)).length ≤ 5000 := by simp; omega
    have hs : (ints (sealed (b.take (b.length - 4)))).length < 9223372036854775808 := by rw [ints_length, sealed_length]; omega
    have ha : app? 1 [] (ints (b.take (b.length - 4))) = some (ints (b.take (b.length - 4))) := by rw [app_ok (by rw [ints_length]; simp; omega) (by decide)]; rfl
    simp only [R05_Open, R05_Open_0, ints_length, decide_eq_false h1, cond_false, slice_ints b (by omega) hl, ha, ref_Seal_eq _ (take_lt hb _) ht, same_eq _ _ hs, Option.bind_some, if_neg h]
    by_cases he : sealed (b.take (b.length - 4)) = b
    · have e1 : ints (sealed (b.take (b.length - 4))) = ints b := by rw [he]
      simp only [decide_eq_true e1, Bool.not_true, cond_false, Option.bind_some, endO, if_pos he]
      rfl
    · have e1 : ¬ ints (sealed (b.take (b.length - 4))) = ints b := fun e => he (ints_inj e)
      simp only [decide_eq_false e1, Bool.not_false, cond_true, Option.bind_some, endO, if_neg he]
      rfl
theorem opened_sealed (b : List Nat) : opened (sealed b) = (b, 0) := by
  unfold opened
  have h : ¬ (sealed b).length < 4 := by rw [sealed_length]; omega
  have ht : (sealed b).take ((sealed b).length - 4) = b := by
    rw [sealed_length, Nat.add_sub_cancel]; simp [sealed]
  rw [if_neg h, ht, if_pos rfl]
theorem sealed_lt {b : List Nat} (hb : ∀ x ∈ b, x < 256) : ∀ x ∈ sealed b, x < 256 := by
  intro x hx
  rcases List.mem_append.1 hx with h | h
  · exact hb x h
  · simp [le4] at h; omega
theorem law_SumOpens (b : List Nat) (hb : ∀ x ∈ b, x < 256) : L05_SumOpens (ints b) = some true := by
  simp only [L05_SumOpens, L05_SumOpens_0, ints_length]
  by_cases h : (b.length : Int) > 4000
  · simp only [decide_eq_true h, cond_true, alive_eq, Option.bind_some, endO]
  · have ho : (ints (opened b).1).length < 9223372036854775808 := by
      rw [ints_length]; unfold opened; split
      · simp
      · split
        · simp; omega
        · simp
    simp only [decide_eq_false h, cond_false, sum_Open_eq b hb (by omega), ref_Open_eq b hb (by omega), same_eq _ _ ho, Option.bind_some, bne_self_eq_false, decide_true, Bool.not_true]
    by_cases h0 : (opened b).2 = 0
    · have h1 : ((((opened b).2 : Nat) : Int) != 0) = false := by rw [h0]; rfl
      have hs : sealed (opened b).1 = b := by
        unfold opened at h0 ⊢
        split at h0
        · cases h0
        · rename_i hn
          split at h0
          · rename_i he; rw [if_neg hn, if_pos he]; exact he
          · cases h0
      have hx : ∀ x ∈ (opened b).1, x < 256 := fun x hx => hb x (by rw [← hs]; exact List.mem_append_left _ hx)
      have hxl : (opened b).1.length ≤ 5000 := by have := congrArg List.length hs; rw [sealed_length] at this; omega
      have hlen : (ints b).length < 9223372036854775808 := by rw [ints_length]; omega
      simp only [h1, cond_false, sum_Seal_eq _ hx hxl, hs, same_eq _ _ hlen, Option.bind_some, decide_true, cond_true, alive_eq, endO]
    · have h1 : ((((opened b).2 : Nat) : Int) != 0) = true := by
        have : (((opened b).2 : Nat) : Int) ≠ 0 := by omega
        rw [bne, beq_eq_false_iff_ne.2 this]; rfl
      simp only [h1, cond_true, alive_eq, Option.bind_some, endO]
theorem law_SumBack (b : List Nat) (hb : ∀ x ∈ b, x < 256) : L05_SumBack (ints b) = some true := by
  simp only [L05_SumBack, L05_SumBack_0, ints_length]
  by_cases h : (b.length : Int) > 4000
  · simp only [decide_eq_true h, cond_true, alive_eq, Option.bind_some, endO]
  · have hs : (sealed b).length ≤ 5000 := by rw [sealed_length]; omega
    have hlen : (ints b).length < 9223372036854775808 := by rw [ints_length]; omega
    have h1 : (((0 : Nat) : Int) == 0) = true := rfl
    simp only [decide_eq_false h, cond_false, sum_Seal_eq b hb (by omega), sum_Open_eq _ (sealed_lt hb) hs, opened_sealed, same_eq _ _ hlen, Option.bind_some, h1, cond_true, decide_true, alive_eq, endO]
end Go.PW
