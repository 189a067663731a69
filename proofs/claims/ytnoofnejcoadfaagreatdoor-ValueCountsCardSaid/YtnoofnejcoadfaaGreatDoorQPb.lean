import Derived.Test.YtnoofnejcoadfaaGreatDoorQP
set_option linter.all false
set_option maxRecDepth 100000
namespace Go.PW
def supW : List (List UInt8) := [[98, 97, 115, 105, 99], [117, 110, 105, 113, 117, 101]]
def typW : List (List UInt8) := [[99, 114, 101, 97, 116, 117, 114, 101], [105, 110, 115, 116, 97, 110, 116], [114, 105, 116, 117, 97, 108], [114, 101, 108, 105, 99], [99, 104, 97, 114, 109], [108, 97, 110, 100]]
def Zgi (l : List (List UInt8)) (s : List UInt8) : Bool := l.any fun w => w == s
def subV (s : List UInt8) : Bool := Zamj s && (!Zgi supW s && !Zgi typW s)
theorem Za4i : ∀ i : Nat, i < 6 → (Z8t .i64 1 (i : Int) == 0) = false
 | 0, _ => rfl
 | 1, _ => rfl
 | 2, _ => rfl
 | 3, _ => rfl
 | 4, _ => rfl
 | 5, _ => rfl
 | n + 6, h => absurd h (by omega)
theorem Za8f (s : List UInt8) : ∃ x, Zg2 s 2 = some x ∧ (x == 0) = !Zgi supW s := by
 (unfold Zg2 LF.run; dsimp only [Zjh, LT.den])
 simp only [Option.bind_some, Zhx]
 have hfind := Zst (step := Zf5.step) supW (fun i => .L0 s 2 (i : Int)) (fun i => Z8t .i64 1 (i : Int)) (fun w => w == s) (fun i x hx => by
  have hi := (List.getElem?_eq_some_iff.1 hx).1
  have hi : i < 2 := hi
  have hw : Zq6 (i : Int) = some x := by
   (unfold Zq6 LF.run; dsimp only [Zxh, LT.den])
   show Option.bind (Option.bind (idx? supW (i : Int)) fun x1 => some (.inr x1)) (Zes Znv.step) = _
   rw [Zgy hx]; rfl
  show (Zd1 s 2 (i : Int)).den = _
  dsimp only [Zd1, LT.den]
  rw [decide_eq_true (show (i : Int) < 2 by omega), hw, Zet (by omega) (by omega)]
  simp only [cond_true, Option.bind_some, Zauu]
  rw [show decide (¬ (i : Int) < 0) = true from decide_eq_true (by omega)]
  cases x == s <;> rfl)
 rcases hfind with ⟨h1, i, h2, h3⟩ | ⟨h1, h2⟩
 ·exact ⟨_, h3, by rw [Za4i i (Nat.lt_of_lt_of_le h2 (by decide))]; unfold Zgi; rw [h1]; rfl⟩
 ·refine ⟨0, h2.trans (Zcp ?_), by unfold Zgi; rw [h1]; rfl⟩
  show (Zd1 s 2 2).den = _
  rfl
theorem Za8g (s : List UInt8) : ∃ x, Zhm s 6 = some x ∧ (x == 0) = !Zgi typW s := by
 (unfold Zhm LF.run; dsimp only [Zkd, LT.den])
 simp only [Option.bind_some, Zhx]
 have hfind := Zst (step := Zgh.step) typW (fun i => .L0 s 6 (i : Int)) (fun i => Z8t .i64 1 (i : Int)) (fun w => w == s) (fun i x hx => by
  have hi := (List.getElem?_eq_some_iff.1 hx).1
  have hi : i < 6 := hi
  have hw : Zub (i : Int) = some x := by
   (unfold Zub LF.run; dsimp only [Zz0, LT.den])
   show Option.bind (Option.bind (idx? typW (i : Int)) fun x1 => some (.inr x1)) (Zes Zpo.step) = _
   rw [Zgy hx]; rfl
  show (Zec s 6 (i : Int)).den = _
  dsimp only [Zec, LT.den]
  rw [decide_eq_true (show (i : Int) < 6 by omega), hw, Zet (by omega) (by omega)]
  simp only [cond_true, Option.bind_some, Zauu]
  rw [show decide (¬ (i : Int) < 0) = true from decide_eq_true (by omega)]
  cases x == s <;> rfl)
 rcases hfind with ⟨h1, i, h2, h3⟩ | ⟨h1, h2⟩
 ·exact ⟨_, h3, by rw [Za4i i (Nat.lt_of_lt_of_le h2 (by decide))]; unfold Zgi; rw [h1]; rfl⟩
 ·refine ⟨0, h2.trans (Zcp ?_), by unfold Zgi; rw [h1]; rfl⟩
  show (Zec s 6 6).den = _
  rfl
theorem Za6g (s : List UInt8) : Z5b s = some (subV s) := by
 (unfold Z5b LF.run; dsimp only [Z93, LT.den]; unfold subV)
 obtain ⟨x, hx, ex⟩ := Za8f s
 obtain ⟨y, hy, ey⟩ := Za8g s
 simp only [Za1w, hx, hy, Option.bind_some, ex, ey]
 exact Zib fun _ => Zib fun _ => rfl
theorem Zaho (l : List (List UInt8)) (s : List UInt8) (hl : l.length ≤ 4611686018427387904) : ∃ x, Zsw l s = some x ∧ decide (x < 0) = !Zgi l s ∧ decide (x ≥ 0) = Zgi l s := by
 (unfold Zsw LF.run; dsimp only [Z0v, LT.den])
 simp only [Option.bind_some, Zhx]
 have hfind := Zst (step := Z0w.step) l (fun i => .L0 l s (i : Int)) (fun i => (i : Int)) (fun w => w == s) (fun i x hx => by
  have hi := (List.getElem?_eq_some_iff.1 hx).1
  show (Zg0 _ _ _).den = _
  dsimp only [Zg0, LT.den]
  rw [decide_eq_true (by omega), Zgy hx, Zss hi hl]
  simp only [cond_true, Option.bind_some]
  cases x == s <;> rfl)
 rcases hfind with ⟨h1, i, h2, h3⟩ | ⟨h1, h2⟩
 ·refine ⟨_, h3, ?_, ?_⟩ <;> unfold Zgi <;> rw [h1]
  ·exact decide_eq_false (by omega)
  ·exact decide_eq_true (by omega)
 ·refine ⟨-1, h2.trans (Zcp ?_), ?_, ?_⟩
  ·show (Zg0 _ _ _).den = _
   dsimp only [Zg0, LT.den]
   rw [decide_eq_false (by omega)]; rfl
  ·unfold Zgi; rw [h1]; rfl
  ·unfold Zgi; rw [h1]; rfl
theorem Zaw9 (s : List UInt8) : Zsx s = some (subV s) := by
 (unfold Zsx LF.run; dsimp only [Z0x, LT.den]; unfold subV)
 obtain ⟨x, hx, ex, _⟩ := Zaho supW s (by decide)
 obtain ⟨y, hy, ey, _⟩ := Zaho typW s (by decide)
 have h1 : Zic = some supW := rfl
 have h2 : Zjd = some typW := rfl
 simp only [Zaze, h1, h2, hx, hy, Option.bind_some, ex, ey]
 exact Zib fun _ => Zib fun _ => rfl
theorem Zar9 (l : Zu) (s : List UInt8) (hl : l.Subs.length ≤ 4611686018427387904) : Zpz l s = some (Zgi l.Subs s) := by
 (unfold Zpz LF.run; dsimp only [Zx0, LT.den])
 obtain ⟨x, hx, _, ex⟩ := Zaho l.Subs s hl
 simp only [hx, Option.bind_some, ex]; rfl
theorem Za4j (l : Zu) (s : List UInt8) (hl : l.Subs.length ≤ 4611686018427387904) : Z1m l s = some (Zgi l.Subs s) := by
 (unfold Z1m LF.run; dsimp only [Z60, LT.den]; unfold Zg3 LF.run; dsimp only [Zf9, LT.den]; unfold Zh4 LF.run; dsimp only [Zhj, LT.den])
 simp only [Option.bind_some, Zhx]
 have hfind := Zst (step := Zda.step) l.Subs (fun i => .L0 l.Subs s (l.Subs.length : Int) (i : Int)) (fun i => (i : Int)) (fun w => w == s) (fun i x hx => by
  have hi := (List.getElem?_eq_some_iff.1 hx).1
  show (Zb2 _ _ _ _).den = _
  dsimp only [Zb2, LT.den]
  rw [decide_eq_true (by omega), Zgy hx, Zss hi hl]
  simp only [cond_true, Option.bind_some]
  rw [show (s == x) = (x == s) from by rw [Zaz6, Zaz6]; simp [eq_comm]]
  cases x == s <;> rfl
)
 rcases hfind with ⟨h1, i, h2, h3⟩ | ⟨h1, h2⟩
 ·rw [show (Zcc.L0 l.Subs s (l.Subs.length : Int) 0) = .L0 l.Subs s (l.Subs.length : Int) ((0 : Nat) : Int) from rfl, h3]
  unfold Zgi; rw [h1]
  simp only [Option.bind_some, Zef]
  rw [decide_eq_true (by omega)]
 ·have he : Zca Zda.step (.L0 l.Subs s (l.Subs.length : Int) (l.Subs.length : Int)) = some (-1) := by
   refine Zcp ?_
   show (Zb2 _ _ _ _).den = _
   dsimp only [Zb2, LT.den]
   rw [decide_eq_false (by omega)]; rfl
  rw [show (Zcc.L0 l.Subs s (l.Subs.length : Int) 0) = .L0 l.Subs s (l.Subs.length : Int) ((0 : Nat) : Int) from rfl, h2, he]
  unfold Zgi; rw [h1]; rfl
def btw (n m : Int) : Bool := decide (n ≥ 0) && decide (n ≤ m)
def Zl0 (b : Zd) : Bool := btw b.Kind 3 && (btw b.N 1000000 && (b.Kind != 0 || b.N == 0))
def Z2b (a b : Int) : Bool := Zbc .and .i64 a b == 0
def Z5q (f : Ze) : Bool :=
 btw f.Zone 5 && (btw f.Who 2 && (btw f.Self 2 && (btw f.Tap 2 && (btw f.Keys 131071 && (btw f.Types 63 && (btw f.NotTypes 63 && (Z2b f.Types f.NotTypes &&
 (btw f.Colors 31 && (btw f.NotColors 31 && (Z2b f.Colors f.NotColors && ((f.Sub == [] || subV f.Sub) && (Zl0 f.Power && (Zl0 f.Tough && Zl0 f.Value)))))))))))))
theorem Zamk (n m : Int) : Zq5 n m = some (btw n m) := by
 (unfold Zq5 LF.run; dsimp only [Zxf, LT.den]; unfold btw)
 exact Zib fun _ => rfl
theorem Za1x (b : Zd) : Zq7 b = some (Zl0 b) := by
 (unfold Zq7 LF.run; dsimp only [Zxi, LT.den]; unfold Zl0)
 simp only [Zamk, Option.bind_some]
 refine Zib fun _ => Zib fun _ => ?_
 cases b.Kind != 0 <;> rfl
theorem Za4k (f : Ze) : (Zky f).den.bind (Zes Zmq.step) = some (Zl0 f.Power && (Zl0 f.Tough && Zl0 f.Value)) := by
 dsimp only [Zky, LT.den]
 simp only [Za1x, Option.bind_some]
 exact Zib fun _ => Zib fun _ => rfl
theorem Zabf (f : Ze) : Zz1 f = some (Z5q f) := by
 (unfold Zz1 LF.run; dsimp only [Zaeo, LT.den]; unfold Z5q)
 simp only [Zamk, Option.bind_some, Za6g]
 refine Zde fun _ => Zde fun _ => Zde fun _ => Zde fun _ => Zde fun _ => Zde fun _ => Zde fun _ => ?_
 have dis : ∀ {a b r : Bool} {c d : Int} {k : Option (Zsa ⊕ Bool)}, k.bind (Zes Zmq.step) = some r → (bif (Zbc .and .i64 c d != 0) then some (.inr false) else k).bind (Zes Zmq.step) = some (Z2b c d && r) := by
  intro a b r c d k h
  unfold Z2b
  simp only [bne]
  exact Zde fun _ => h
 refine dis (a := true) (b := true) (Zde fun _ => Zde fun _ => dis (a := true) (b := true) ?_)
 cases f.Sub == [] with
 | true => simp only [Bool.not_true, cond_false, Bool.true_or, Bool.true_and]; exact Za4k f
 | false => simp only [Bool.not_false, cond_true, Bool.false_or]; exact Zde fun _ => Za4k f
theorem Za6h (b : Zd) : Zs0 b = some (Zl0 b) := by
 (unfold Zs0 LF.run; dsimp only [Z0z, LT.den])
 refine (Zbl fun _ => Zbl fun _ => Zbl fun _ => Zbl fun _ => (show _ = some (b.Kind != 0 || b.N == 0) from by cases b.Kind != 0 <;> rfl)).trans ?_
 congr 1
 (unfold Zl0; unfold btw)
 rw [Bool.eq_iff_iff]
 simp only [Bool.and_eq_true, Bool.not_eq_true', decide_eq_false_iff_not, decide_eq_true_eq, ge_iff_le, gt_iff_lt, Int.not_lt]
 constructor
 ·rintro ⟨h1, h2, h3, h4, h5⟩; exact ⟨⟨h1, h2⟩, ⟨h3, h4⟩, h5⟩
 ·rintro ⟨⟨h1, h2⟩, ⟨h3, h4⟩, h5⟩; exact ⟨h1, h2, h3, h4, h5⟩
theorem Zaml : ∀ (d i a b : Nat), i + d = 6 → a < 2 ^ 62 → b < 2 ^ 62 → Zca Zme.step (.L0 (a : Int) (b : Int) (i : Int)) = some (Zwg d a b)
 | 0, i, a, b, hi, _, _ => by
  refine Zcp ?_
  show (Zg1 _ _ _).den = _
  dsimp only [Zg1, LT.den]
  rw [decide_eq_false (by omega)]; rfl
 | d + 1, i, a, b, hi, ha, hb => by
  have hw : IntKind.wrap .i64 ((i : Int) + 1) = ((i + 1 : Nat) : Int) := Zet (by omega) (by omega)
  have hs : Zme.step (.L0 (a : Int) (b : Int) (i : Int)) = some (bif decide (a % 2 = 1) && decide (b % 2 = 1) then .inr false else .inl (.L0 ((a / 2 : Nat) : Int) ((b / 2 : Nat) : Int) ((i + 1 : Nat) : Int))) := by
   show (Zg1 _ _ _).den = _
   dsimp only [Zg1, LT.den]
   rw [decide_eq_true (by omega), Zaz8, Zaz8, Zaz7 a ha, Zaz7 b hb, hw]
   cases decide (a % 2 = 1) <;> cases decide (b % 2 = 1) <;> rfl
  unfold Zwg
  by_cases h : a % 2 = 1 ∧ b % 2 = 1
  ·rw [if_pos h]
   rw [decide_eq_true h.1, decide_eq_true h.2] at hs
   exact Zcp hs
  ·rw [if_neg h]
   have : (decide (a % 2 = 1) && decide (b % 2 = 1)) = false := by
    rw [← Bool.decide_and]; exact decide_eq_false h
   rw [this] at hs
   rw [Ze8 hs]
   exact Zaml d (i + 1) (a / 2) (b / 2) (by omega) (by omega) (by omega)
theorem Zaxa (a b m : Int) (hm : m < 64) : Zsz a b m = some (btw a m && (btw b m && Z2b a b)) := by
 have key : ∀ {r : Bool}, (0 ≤ a → a ≤ m → 0 ≤ b → b ≤ m → r = Z2b a b) → (!decide (a < 0) && (!decide (a > m) && (!decide (b < 0) && (!decide (b > m) && r)))) = (btw a m && (btw b m && Z2b a b)) := by
  intro r hr
  unfold btw
  by_cases h1 : 0 ≤ a
  ·by_cases h2 : a ≤ m
   ·by_cases h3 : 0 ≤ b
    ·by_cases h4 : b ≤ m
     ·rw [hr h1 h2 h3 h4]
      simp [h1, h2, h3, h4, Int.not_lt.2]
     ·simp [h4, Int.not_le.1 h4]
    ·simp [h3, Int.not_le.1 h3]
   ·simp [h2, Int.not_le.1 h2]
  ·simp [h1, Int.not_le.1 h1]
 (unfold Zsz LF.run; dsimp only [Z0y, LT.den])
 by_cases hin : 0 ≤ a ∧ a ≤ m ∧ 0 ≤ b ∧ b ≤ m
 ·obtain ⟨h1, h2, h3, h4⟩ := hin
  refine (Zbl (r := !decide (a > m) && (!decide (b < 0) && (!decide (b > m) && Z2b a b))) fun _ => Zbl fun _ => Zbl fun _ => Zbl fun _ => ?_).trans (congrArg some (key fun _ _ _ _ => rfl))
  obtain ⟨x, rfl⟩ := Int.eq_ofNat_of_zero_le h1
  obtain ⟨y, rfl⟩ := Int.eq_ofNat_of_zero_le h3
  show Zca Zme.step (.L0 (x : Int) (y : Int) ((0 : Nat) : Int)) = _
  rw [Zaml 6 0 x y rfl (by omega) (by omega), Za1h (by omega)]
  unfold Z2b
  rw [Za75 (by omega) (by omega), Zqx]
  congr 1
  rw [decide_eq_decide]; omega
 ·refine (Zbl (r := !decide (a > m) && (!decide (b < 0) && (!decide (b > m) && Z2b a b))) fun e1 => Zbl fun e2 => Zbl fun e3 => Zbl fun e4 => ?_).trans (congrArg some (key fun _ _ _ _ => rfl))
  simp only [decide_eq_false_iff_not] at e1 e2 e3 e4
  exact absurd ⟨by omega, by omega, by omega, by omega⟩ hin
theorem Za0c (f : Ze) : (Zks f).den.bind (Zes Zagh.step) = some (Zl0 f.Power && (Zl0 f.Tough && Zl0 f.Value)) := by
 dsimp only [Zks, LT.den]
 simp only [Za6h, Option.bind_some]
 exact Zib fun _ => Zib fun _ => rfl
theorem Zarj (f : Ze) : Z2v f = some (Z5q f) := by
 (unfold Z2v LF.run; dsimp only [Zagg, LT.den])
 simp only [Zaxa _ _ _ (by decide : (63 : Int) < 64), Zaxa _ _ _ (by decide : (31 : Int) < 64), Option.bind_some, Zaw9]
 refine (Zbl fun _ => Zbl fun _ => Zbl fun _ => Zbl fun _ => Zbl fun _ => Zbl fun _ => Zbl fun _ => Zbl fun _ => Zde fun _ => Zde fun _ =>
  (show _ = some ((f.Sub == [] || subV f.Sub) && (!decide (f.Keys < 0) && (!decide (f.Keys > 131071) && (Zl0 f.Power && (Zl0 f.Tough && Zl0 f.Value))))) from ?_)).trans ?_
 ·cases f.Sub == [] with
  | true => simp only [Bool.not_true, cond_false, Bool.true_or, Bool.true_and]; exact Zbl fun _ => Zbl fun _ => Za0c f
  | false => simp only [Bool.not_false, cond_true, Bool.false_or]; exact Zde fun _ => Zbl fun _ => Zbl fun _ => Za0c f
 ·congr 1
  (unfold Z5q; unfold btw)
  rw [Bool.eq_iff_iff]
  simp only [Bool.and_eq_true, Bool.not_eq_true', decide_eq_false_iff_not, decide_eq_true_eq, ge_iff_le, gt_iff_lt, Int.not_lt]
  constructor
  ·rintro ⟨z1, z2, w1, w2, s1, s2, t1, t2, ⟨⟨a1, a2⟩, ⟨b1, b2⟩, d1⟩, ⟨⟨c1, c2⟩, ⟨e1, e2⟩, d2⟩, su, k1, k2, p, q, v⟩
   exact ⟨⟨z1, z2⟩, ⟨w1, w2⟩, ⟨s1, s2⟩, ⟨t1, t2⟩, ⟨k1, k2⟩, ⟨a1, a2⟩, ⟨b1, b2⟩, d1, ⟨c1, c2⟩, ⟨e1, e2⟩, d2, su, p, q, v⟩
  ·rintro ⟨⟨z1, z2⟩, ⟨w1, w2⟩, ⟨s1, s2⟩, ⟨t1, t2⟩, ⟨k1, k2⟩, ⟨a1, a2⟩, ⟨b1, b2⟩, d1, ⟨c1, c2⟩, ⟨e1, e2⟩, d2, su, p, q, v⟩
   exact ⟨z1, z2, w1, w2, s1, s2, t1, t2, ⟨⟨a1, a2⟩, ⟨b1, b2⟩, d1⟩, ⟨⟨c1, c2⟩, ⟨e1, e2⟩, d2⟩, su, k1, k2, p, q, v⟩
end Go.PW
