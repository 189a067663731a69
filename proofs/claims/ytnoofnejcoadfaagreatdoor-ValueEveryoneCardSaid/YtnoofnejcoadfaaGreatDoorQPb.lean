import Derived.Test.YtnoofnejcoadfaaGreatDoorQP
set_option linter.all false
set_option maxRecDepth 100000
namespace Go.PW
def supW : List (List UInt8) := [[98, 97, 115, 105, 99], [117, 110, 105, 113, 117, 101]]
def typW : List (List UInt8) := [[99, 114, 101, 97, 116, 117, 114, 101], [105, 110, 115, 116, 97, 110, 116], [114, 105, 116, 117, 97, 108], [114, 101, 108, 105, 99], [99, 104, 97, 114, 109], [108, 97, 110, 100]]
def Zfi (l : List (List UInt8)) (s : List UInt8) : Bool := l.any fun w => w == s
def subV (s : List UInt8) : Bool := Zab3 s && (!Zfi supW s && !Zfi typW s)
theorem Zaqz : ∀ i : Nat, i < 6 → (Z07 .i64 1 (i : Int) == 0) = false
 | 0, _ => rfl
 | 1, _ => rfl
 | 2, _ => rfl
 | 3, _ => rfl
 | 4, _ => rfl
 | 5, _ => rfl
 | n + 6, h => absurd h (by omega)
theorem Zaus (s : List UInt8) : ∃ x, Zf1 s 2 = some x ∧ (x == 0) = !Zfi supW s := by
 (unfold Zf1 LF.run; dsimp only [Zh2, LT.den])
 simp only [Option.bind_some, Zgu]
 have hfind := Zoy (step := Ze9.step) supW (fun i => .L0 s 2 (i : Int)) (fun i => Z07 .i64 1 (i : Int)) (fun w => w == s) (fun i x hx => by
  have hi := (List.getElem?_eq_some_iff.1 hx).1
  have hi : i < 2 := hi
  have hw : Zn3 (i : Int) = some x := by
   (unfold Zn3 LF.run; dsimp only [Zsx, LT.den])
   show Option.bind (Option.bind (idx? supW (i : Int)) fun x1 => some (.inr x1)) (Zev Zlc.step) = _
   rw [Zgq hx]; rfl
  show (Zdc s 2 (i : Int)).den = _
  dsimp only [Zdc, LT.den]
  rw [decide_eq_true (show (i : Int) < 2 by omega), hw, Zew (by omega) (by omega)]
  simp only [cond_true, Option.bind_some, Zah7]
  rw [show decide (¬ (i : Int) < 0) = true from decide_eq_true (by omega)]
  cases x == s <;> rfl)
 rcases hfind with ⟨h1, i, h2, h3⟩ | ⟨h1, h2⟩
 ·exact ⟨_, h3, by rw [Zaqz i (Nat.lt_of_lt_of_le h2 (by decide))]; unfold Zfi; rw [h1]; rfl⟩
 ·refine ⟨0, h2.trans (Zcg ?_), by unfold Zfi; rw [h1]; rfl⟩
  show (Zdc s 2 2).den = _
  rfl
theorem Zaut (s : List UInt8) : ∃ x, Zgg s 6 = some x ∧ (x == 0) = !Zfi typW s := by
 (unfold Zgg LF.run; dsimp only [Zin, LT.den])
 simp only [Option.bind_some, Zgu]
 have hfind := Zoy (step := Zfh.step) typW (fun i => .L0 s 6 (i : Int)) (fun i => Z07 .i64 1 (i : Int)) (fun w => w == s) (fun i x hx => by
  have hi := (List.getElem?_eq_some_iff.1 hx).1
  have hi : i < 6 := hi
  have hw : Zp3 (i : Int) = some x := by
   (unfold Zp3 LF.run; dsimp only [Zuy, LT.den])
   show Option.bind (Option.bind (idx? typW (i : Int)) fun x1 => some (.inr x1)) (Zev Zmx.step) = _
   rw [Zgq hx]; rfl
  show (Zdm s 6 (i : Int)).den = _
  dsimp only [Zdm, LT.den]
  rw [decide_eq_true (show (i : Int) < 6 by omega), hw, Zew (by omega) (by omega)]
  simp only [cond_true, Option.bind_some, Zah7]
  rw [show decide (¬ (i : Int) < 0) = true from decide_eq_true (by omega)]
  cases x == s <;> rfl)
 rcases hfind with ⟨h1, i, h2, h3⟩ | ⟨h1, h2⟩
 ·exact ⟨_, h3, by rw [Zaqz i (Nat.lt_of_lt_of_le h2 (by decide))]; unfold Zfi; rw [h1]; rfl⟩
 ·refine ⟨0, h2.trans (Zcg ?_), by unfold Zfi; rw [h1]; rfl⟩
  show (Zdm s 6 6).den = _
  rfl
theorem Zast (s : List UInt8) : Zy8 s = some (subV s) := by
 (unfold Zy8 LF.run; dsimp only [Z2e, LT.den]; unfold subV)
 obtain ⟨x, hx, ex⟩ := Zaus s
 obtain ⟨y, hy, ey⟩ := Zaut s
 simp only [Zaoe, hx, hy, Option.bind_some, ex, ey]
 exact Zg4 fun _ => Zg4 fun _ => rfl
theorem Z8j (l : List (List UInt8)) (s : List UInt8) (hl : l.length ≤ 4611686018427387904) : ∃ x, Zo0 l s = some x ∧ decide (x < 0) = !Zfi l s ∧ decide (x ≥ 0) = Zfi l s := by
 (unfold Zo0 LF.run; dsimp only [Zvo, LT.den])
 simp only [Option.bind_some, Zgu]
 have hfind := Zoy (step := Zvp.step) l (fun i => .L0 l s (i : Int)) (fun i => (i : Int)) (fun w => w == s) (fun i x hx => by
  have hi := (List.getElem?_eq_some_iff.1 hx).1
  show (Zfz _ _ _).den = _
  dsimp only [Zfz, LT.den]
  rw [decide_eq_true (by omega), Zgq hx, Zue hi hl]
  simp only [cond_true, Option.bind_some]
  cases x == s <;> rfl)
 rcases hfind with ⟨h1, i, h2, h3⟩ | ⟨h1, h2⟩
 ·refine ⟨_, h3, ?_, ?_⟩ <;> unfold Zfi <;> rw [h1]
  ·exact decide_eq_false (by omega)
  ·exact decide_eq_true (by omega)
 ·refine ⟨-1, h2.trans (Zcg ?_), ?_, ?_⟩
  ·show (Zfz _ _ _).den = _
   dsimp only [Zfz, LT.den]
   rw [decide_eq_false (by omega)]; rfl
  ·unfold Zfi; rw [h1]; rfl
  ·unfold Zfi; rw [h1]; rfl
theorem Zaka (s : List UInt8) : Zo1 s = some (subV s) := by
 (unfold Zo1 LF.run; dsimp only [Zvq, LT.den]; unfold subV)
 obtain ⟨x, hx, ex, _⟩ := Z8j supW s (by decide)
 obtain ⟨y, hy, ey, _⟩ := Z8j typW s (by decide)
 have h1 : Zg5 = some supW := rfl
 have h2 : Zhy = some typW := rfl
 simp only [Zal6, h1, h2, hx, hy, Option.bind_some, ex, ey]
 exact Zg4 fun _ => Zg4 fun _ => rfl
theorem Zafy (l : Z7) (s : List UInt8) (hl : l.Subs.length ≤ 4611686018427387904) : Zzc l s = some (Zfi l.Subs s) := by
 (unfold Zzc LF.run; dsimp only [Z2v, LT.den])
 obtain ⟨x, hx, _, ex⟩ := Z8j l.Subs s hl
 simp only [hx, Option.bind_some, ex]; rfl
theorem Zaq0 (l : Z7) (s : List UInt8) (hl : l.Subs.length ≤ 4611686018427387904) : Zwf l s = some (Zfi l.Subs s) := by
 (unfold Zwf LF.run; dsimp only [Z0d, LT.den]; unfold Zf2 LF.run; dsimp only [Zfa, LT.den]; unfold Zgy LF.run; dsimp only [Zgd, LT.den])
 simp only [Option.bind_some, Zgu]
 have hfind := Zoy (step := Zcp.step) l.Subs (fun i => .L0 l.Subs s (l.Subs.length : Int) (i : Int)) (fun i => (i : Int)) (fun w => w == s) (fun i x hx => by
  have hi := (List.getElem?_eq_some_iff.1 hx).1
  show (Zbm _ _ _ _).den = _
  dsimp only [Zbm, LT.den]
  rw [decide_eq_true (by omega), Zgq hx, Zue hi hl]
  simp only [cond_true, Option.bind_some]
  rw [show (s == x) = (x == s) from by rw [Zamv, Zamv]; simp [eq_comm]]
  cases x == s <;> rfl
)
 rcases hfind with ⟨h1, i, h2, h3⟩ | ⟨h1, h2⟩
 ·rw [show (Zbv.L0 l.Subs s (l.Subs.length : Int) 0) = .L0 l.Subs s (l.Subs.length : Int) ((0 : Nat) : Int) from rfl, h3]
  unfold Zfi; rw [h1]
  simp only [Option.bind_some, Zdo]
  rw [decide_eq_true (by omega)]
 ·have he : Zbu Zcp.step (.L0 l.Subs s (l.Subs.length : Int) (l.Subs.length : Int)) = some (-1) := by
   refine Zcg ?_
   show (Zbm _ _ _ _).den = _
   dsimp only [Zbm, LT.den]
   rw [decide_eq_false (by omega)]; rfl
  rw [show (Zbv.L0 l.Subs s (l.Subs.length : Int) 0) = .L0 l.Subs s (l.Subs.length : Int) ((0 : Nat) : Int) from rfl, h2, he]
  unfold Zfi; rw [h1]; rfl
def btw (n m : Int) : Bool := decide (n ≥ 0) && decide (n ≤ m)
def Zj1 (b : Za) : Bool := btw b.Kind 3 && (btw b.N 1000000 && (b.Kind != 0 || b.N == 0))
def Zwq (a b : Int) : Bool := Zbf .and .i64 a b == 0
def Z27 (f : Zc) : Bool :=
 btw f.Zone 5 && (btw f.Who 2 && (btw f.Self 2 && (btw f.Tap 2 && (btw f.Keys 131071 && (btw f.Types 63 && (btw f.NotTypes 63 && (Zwq f.Types f.NotTypes &&
 (btw f.Colors 31 && (btw f.NotColors 31 && (Zwq f.Colors f.NotColors && ((f.Sub == [] || subV f.Sub) && (Zj1 f.Power && (Zj1 f.Tough && Zj1 f.Value)))))))))))))
theorem Zab4 (n m : Int) : Zn2 n m = some (btw n m) := by
 (unfold Zn2 LF.run; dsimp only [Zsv, LT.den]; unfold btw)
 exact Zg4 fun _ => rfl
theorem Zaof (b : Za) : Zn4 b = some (Zj1 b) := by
 (unfold Zn4 LF.run; dsimp only [Zsy, LT.den]; unfold Zj1)
 simp only [Zab4, Option.bind_some]
 refine Zg4 fun _ => Zg4 fun _ => ?_
 cases b.Kind != 0 <;> rfl
theorem Zaq1 (f : Zc) : (Zi5 f).den.bind (Zev Zkm.step) = some (Zj1 f.Power && (Zj1 f.Tough && Zj1 f.Value)) := by
 dsimp only [Zi5, LT.den]
 simp only [Zaof, Option.bind_some]
 exact Zg4 fun _ => Zg4 fun _ => rfl
theorem Z28 (f : Zc) : Zuz f = some (Z27 f) := by
 (unfold Zuz LF.run; dsimp only [Z6a, LT.den]; unfold Z27)
 simp only [Zab4, Option.bind_some, Zast]
 refine Zdy fun _ => Zdy fun _ => Zdy fun _ => Zdy fun _ => Zdy fun _ => Zdy fun _ => Zdy fun _ => ?_
 have dis : ∀ {a b r : Bool} {c d : Int} {k : Option (Zol ⊕ Bool)}, k.bind (Zev Zkm.step) = some r → (bif (Zbf .and .i64 c d != 0) then some (.inr false) else k).bind (Zev Zkm.step) = some (Zwq c d && r) := by
  intro a b r c d k h
  unfold Zwq
  simp only [bne]
  exact Zdy fun _ => h
 refine dis (a := true) (b := true) (Zdy fun _ => Zdy fun _ => dis (a := true) (b := true) ?_)
 cases f.Sub == [] with
 | true => simp only [Bool.not_true, cond_false, Bool.true_or, Bool.true_and]; exact Zaq1 f
 | false => simp only [Bool.not_false, cond_true, Bool.false_or]; exact Zdy fun _ => Zaq1 f
theorem Zasu (b : Za) : Zo4 b = some (Zj1 b) := by
 (unfold Zo4 LF.run; dsimp only [Zvs, LT.den])
 refine (Za5 fun _ => Za5 fun _ => Za5 fun _ => Za5 fun _ => (show _ = some (b.Kind != 0 || b.N == 0) from by cases b.Kind != 0 <;> rfl)).trans ?_
 congr 1
 (unfold Zj1; unfold btw)
 rw [Bool.eq_iff_iff]
 simp only [Bool.and_eq_true, Bool.not_eq_true', decide_eq_false_iff_not, decide_eq_true_eq, ge_iff_le, gt_iff_lt, Int.not_lt]
 constructor
 ·rintro ⟨h1, h2, h3, h4, h5⟩; exact ⟨⟨h1, h2⟩, ⟨h3, h4⟩, h5⟩
 ·rintro ⟨⟨h1, h2⟩, ⟨h3, h4⟩, h5⟩; exact ⟨h1, h2, h3, h4, h5⟩
theorem Zab5 : ∀ (d i a b : Nat), i + d = 6 → a < 2 ^ 62 → b < 2 ^ 62 → Zbu Zka.step (.L0 (a : Int) (b : Int) (i : Int)) = some (Zrv d a b)
 | 0, i, a, b, hi, _, _ => by
  refine Zcg ?_
  show (Zf0 _ _ _).den = _
  dsimp only [Zf0, LT.den]
  rw [decide_eq_false (by omega)]; rfl
 | d + 1, i, a, b, hi, ha, hb => by
  have hw : IntKind.wrap .i64 ((i : Int) + 1) = ((i + 1 : Nat) : Int) := Zew (by omega) (by omega)
  have hs : Zka.step (.L0 (a : Int) (b : Int) (i : Int)) = some (bif decide (a % 2 = 1) && decide (b % 2 = 1) then .inr false else .inl (.L0 ((a / 2 : Nat) : Int) ((b / 2 : Nat) : Int) ((i + 1 : Nat) : Int))) := by
   show (Zf0 _ _ _).den = _
   dsimp only [Zf0, LT.den]
   rw [decide_eq_true (by omega), Zamx, Zamx, Zamw a ha, Zamw b hb, hw]
   cases decide (a % 2 = 1) <;> cases decide (b % 2 = 1) <;> rfl
  unfold Zrv
  by_cases h : a % 2 = 1 ∧ b % 2 = 1
  ·rw [if_pos h]
   rw [decide_eq_true h.1, decide_eq_true h.2] at hs
   exact Zcg hs
  ·rw [if_neg h]
   have : (decide (a % 2 = 1) && decide (b % 2 = 1)) = false := by
    rw [← Bool.decide_and]; exact decide_eq_false h
   rw [this] at hs
   rw [Zec hs]
   exact Zab5 d (i + 1) (a / 2) (b / 2) (by omega) (by omega) (by omega)
theorem Zakb (a b m : Int) (hm : m < 64) : Zo3 a b m = some (btw a m && (btw b m && Zwq a b)) := by
 have key : ∀ {r : Bool}, (0 ≤ a → a ≤ m → 0 ≤ b → b ≤ m → r = Zwq a b) → (!decide (a < 0) && (!decide (a > m) && (!decide (b < 0) && (!decide (b > m) && r)))) = (btw a m && (btw b m && Zwq a b)) := by
  intro r hr
  unfold btw
  by_cases h1 : 0 ≤ a
  ·by_cases h2 : a ≤ m
   ·by_cases h3 : 0 ≤ b
    ·by_cases h4 : b ≤ m
     ·rw [hr h1 h2 h3 h4]
      simp [h1, h2, h3, h4, Int.not_lt.2]
     ·simp [h4, Int.not_le.1 h4]
    ·simp [h3, Int.not_le.1 h3]
   ·simp [h2, Int.not_le.1 h2]
  ·simp [h1, Int.not_le.1 h1]
 (unfold Zo3 LF.run; dsimp only [Zvr, LT.den])
 by_cases hin : 0 ≤ a ∧ a ≤ m ∧ 0 ≤ b ∧ b ≤ m
 ·obtain ⟨h1, h2, h3, h4⟩ := hin
  refine (Za5 (r := !decide (a > m) && (!decide (b < 0) && (!decide (b > m) && Zwq a b))) fun _ => Za5 fun _ => Za5 fun _ => Za5 fun _ => ?_).trans (congrArg some (key fun _ _ _ _ => rfl))
  obtain ⟨x, rfl⟩ := Int.eq_ofNat_of_zero_le h1
  obtain ⟨y, rfl⟩ := Int.eq_ofNat_of_zero_le h3
  show Zbu Zka.step (.L0 (x : Int) (y : Int) ((0 : Nat) : Int)) = _
  rw [Zab5 6 0 x y rfl (by omega) (by omega), Zan2 (by omega)]
  unfold Zwq
  rw [Zaui (by omega) (by omega), Znt]
  congr 1
  rw [decide_eq_decide]; omega
 ·refine (Za5 (r := !decide (a > m) && (!decide (b < 0) && (!decide (b > m) && Zwq a b))) fun e1 => Za5 fun e2 => Za5 fun e3 => Za5 fun e4 => ?_).trans (congrArg some (key fun _ _ _ _ => rfl))
  simp only [decide_eq_false_iff_not] at e1 e2 e3 e4
  exact absurd ⟨by omega, by omega, by omega, by omega⟩ hin
theorem Zam1 (f : Zc) : (Ziz f).den.bind (Zev Z7h.step) = some (Zj1 f.Power && (Zj1 f.Tough && Zj1 f.Value)) := by
 dsimp only [Ziz, LT.den]
 simp only [Zasu, Option.bind_some]
 exact Zg4 fun _ => Zg4 fun _ => rfl
theorem Zaq2 (f : Zc) : Zw9 f = some (Z27 f) := by
 (unfold Zw9 LF.run; dsimp only [Z7g, LT.den])
 simp only [Zakb _ _ _ (by decide : (63 : Int) < 64), Zakb _ _ _ (by decide : (31 : Int) < 64), Option.bind_some, Zaka]
 refine (Za5 fun _ => Za5 fun _ => Za5 fun _ => Za5 fun _ => Za5 fun _ => Za5 fun _ => Za5 fun _ => Za5 fun _ => Zdy fun _ => Zdy fun _ =>
  (show _ = some ((f.Sub == [] || subV f.Sub) && (!decide (f.Keys < 0) && (!decide (f.Keys > 131071) && (Zj1 f.Power && (Zj1 f.Tough && Zj1 f.Value))))) from ?_)).trans ?_
 ·cases f.Sub == [] with
  | true => simp only [Bool.not_true, cond_false, Bool.true_or, Bool.true_and]; exact Za5 fun _ => Za5 fun _ => Zam1 f
  | false => simp only [Bool.not_false, cond_true, Bool.false_or]; exact Zdy fun _ => Za5 fun _ => Za5 fun _ => Zam1 f
 ·congr 1
  (unfold Z27; unfold btw)
  rw [Bool.eq_iff_iff]
  simp only [Bool.and_eq_true, Bool.not_eq_true', decide_eq_false_iff_not, decide_eq_true_eq, ge_iff_le, gt_iff_lt, Int.not_lt]
  constructor
  ·rintro ⟨z1, z2, w1, w2, s1, s2, t1, t2, ⟨⟨a1, a2⟩, ⟨b1, b2⟩, d1⟩, ⟨⟨c1, c2⟩, ⟨e1, e2⟩, d2⟩, su, k1, k2, p, q, v⟩
   exact ⟨⟨z1, z2⟩, ⟨w1, w2⟩, ⟨s1, s2⟩, ⟨t1, t2⟩, ⟨k1, k2⟩, ⟨a1, a2⟩, ⟨b1, b2⟩, d1, ⟨c1, c2⟩, ⟨e1, e2⟩, d2, su, p, q, v⟩
  ·rintro ⟨⟨z1, z2⟩, ⟨w1, w2⟩, ⟨s1, s2⟩, ⟨t1, t2⟩, ⟨k1, k2⟩, ⟨a1, a2⟩, ⟨b1, b2⟩, d1, ⟨c1, c2⟩, ⟨e1, e2⟩, d2, su, p, q, v⟩
   exact ⟨z1, z2, w1, w2, s1, s2, t1, t2, ⟨⟨a1, a2⟩, ⟨b1, b2⟩, d1⟩, ⟨⟨c1, c2⟩, ⟨e1, e2⟩, d2⟩, su, k1, k2, p, q, v⟩
end Go.PW
