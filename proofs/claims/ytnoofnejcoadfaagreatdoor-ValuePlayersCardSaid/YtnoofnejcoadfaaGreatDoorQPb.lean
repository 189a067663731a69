import Derived.Test.YtnoofnejcoadfaaGreatDoorQP
set_option linter.all false
set_option maxRecDepth 100000
namespace Go.PW
def supW : List (List UInt8) := [[98, 97, 115, 105, 99], [117, 110, 105, 113, 117, 101]]
def typW : List (List UInt8) := [[99, 114, 101, 97, 116, 117, 114, 101], [105, 110, 115, 116, 97, 110, 116], [114, 105, 116, 117, 97, 108], [114, 101, 108, 105, 99], [99, 104, 97, 114, 109], [108, 97, 110, 100]]
def Zf6 (l : List (List UInt8)) (s : List UInt8) : Bool := l.any fun w => w == s
def subV (s : List UInt8) : Bool := Zala s && (!Zf6 supW s && !Zf6 typW s)
theorem Za25 : ∀ i : Nat, i < 6 → (Z7z .i64 1 (i : Int) == 0) = false
 | 0, _ => rfl
 | 1, _ => rfl
 | 2, _ => rfl
 | 3, _ => rfl
 | 4, _ => rfl
 | 5, _ => rfl
 | n + 6, h => absurd h (by omega)
theorem Za64 (s : List UInt8) : ∃ x, Zgr s 2 = some x ∧ (x == 0) = !Zf6 supW s := by
 (unfold Zgr LF.run; dsimp only [Zi5, LT.den])
 simp only [Option.bind_some, Zho]
 have hfind := Zr5 (step := Zfv.step) supW (fun i => .L0 s 2 (i : Int)) (fun i => Z7z .i64 1 (i : Int)) (fun w => w == s) (fun i x hx => by
  have hi := (List.getElem?_eq_some_iff.1 hx).1
  have hi : i < 2 := hi
  have hw : Zqj (i : Int) = some x := by
   (unfold Zqj LF.run; dsimp only [Zwv, LT.den])
   show Option.bind (Option.bind (idx? supW (i : Int)) fun x1 => some (.inr x1)) (Zep Znb.step) = _
   rw [Zgn hx]; rfl
  show (Zdx s 2 (i : Int)).den = _
  dsimp only [Zdx, LT.den]
  rw [decide_eq_true (show (i : Int) < 2 by omega), hw, Zfi (by omega) (by omega)]
  simp only [cond_true, Option.bind_some, Zatc]
  rw [show decide (¬ (i : Int) < 0) = true from decide_eq_true (by omega)]
  cases x == s <;> rfl)
 rcases hfind with ⟨h1, i, h2, h3⟩ | ⟨h1, h2⟩
 ·exact ⟨_, h3, by rw [Za25 i (Nat.lt_of_lt_of_le h2 (by decide))]; unfold Zf6; rw [h1]; rfl⟩
 ·refine ⟨0, h2.trans (Zci ?_), by unfold Zf6; rw [h1]; rfl⟩
  show (Zdx s 2 2).den = _
  rfl
theorem Za65 (s : List UInt8) : ∃ x, Zhb s 6 = some x ∧ (x == 0) = !Zf6 typW s := by
 (unfold Zhb LF.run; dsimp only [Zj0, LT.den])
 simp only [Option.bind_some, Zho]
 have hfind := Zr5 (step := Zf5.step) typW (fun i => .L0 s 6 (i : Int)) (fun i => Z7z .i64 1 (i : Int)) (fun w => w == s) (fun i x hx => by
  have hi := (List.getElem?_eq_some_iff.1 hx).1
  have hi : i < 6 := hi
  have hw : Ztk (i : Int) = some x := by
   (unfold Ztk LF.run; dsimp only [Zzc, LT.den])
   show Option.bind (Option.bind (idx? typW (i : Int)) fun x1 => some (.inr x1)) (Zep Zo0.step) = _
   rw [Zgn hx]; rfl
  show (Zd8 s 6 (i : Int)).den = _
  dsimp only [Zd8, LT.den]
  rw [decide_eq_true (show (i : Int) < 6 by omega), hw, Zfi (by omega) (by omega)]
  simp only [cond_true, Option.bind_some, Zatc]
  rw [show decide (¬ (i : Int) < 0) = true from decide_eq_true (by omega)]
  cases x == s <;> rfl)
 rcases hfind with ⟨h1, i, h2, h3⟩ | ⟨h1, h2⟩
 ·exact ⟨_, h3, by rw [Za25 i (Nat.lt_of_lt_of_le h2 (by decide))]; unfold Zf6; rw [h1]; rfl⟩
 ·refine ⟨0, h2.trans (Zci ?_), by unfold Zf6; rw [h1]; rfl⟩
  show (Zd8 s 6 6).den = _
  rfl
theorem Za45 (s : List UInt8) : Z4p s = some (subV s) := by
 (unfold Z4p LF.run; dsimp only [Z88, LT.den]; unfold subV)
 obtain ⟨x, hx, ex⟩ := Za64 s
 obtain ⟨y, hy, ey⟩ := Za65 s
 simp only [Za0i, hx, hy, Option.bind_some, ex, ey]
 exact Zh0 fun _ => Zh0 fun _ => rfl
theorem Zagq (l : List (List UInt8)) (s : List UInt8) (hl : l.length ≤ 4611686018427387904) : ∃ x, Zr8 l s = some x ∧ decide (x < 0) = !Zf6 l s ∧ decide (x ≥ 0) = Zf6 l s := by
 (unfold Zr8 LF.run; dsimp only [Zz9, LT.den])
 simp only [Option.bind_some, Zho]
 have hfind := Zr5 (step := Z0a.step) l (fun i => .L0 l s (i : Int)) (fun i => (i : Int)) (fun w => w == s) (fun i x hx => by
  have hi := (List.getElem?_eq_some_iff.1 hx).1
  show (Zgp _ _ _).den = _
  dsimp only [Zgp, LT.den]
  rw [decide_eq_true (by omega), Zgn hx, Zr4 hi hl]
  simp only [cond_true, Option.bind_some]
  cases x == s <;> rfl)
 rcases hfind with ⟨h1, i, h2, h3⟩ | ⟨h1, h2⟩
 ·refine ⟨_, h3, ?_, ?_⟩ <;> unfold Zf6 <;> rw [h1]
  ·exact decide_eq_false (by omega)
  ·exact decide_eq_true (by omega)
 ·refine ⟨-1, h2.trans (Zci ?_), ?_, ?_⟩
  ·show (Zgp _ _ _).den = _
   dsimp only [Zgp, LT.den]
   rw [decide_eq_false (by omega)]; rfl
  ·unfold Zf6; rw [h1]; rfl
  ·unfold Zf6; rw [h1]; rfl
theorem Zavq (s : List UInt8) : Zr9 s = some (subV s) := by
 (unfold Zr9 LF.run; dsimp only [Z0b, LT.den]; unfold subV)
 obtain ⟨x, hx, ex, _⟩ := Zagq supW s (by decide)
 obtain ⟨y, hy, ey, _⟩ := Zagq typW s (by decide)
 have h1 : Zh1 = some supW := rfl
 have h2 : Zi1 = some typW := rfl
 simp only [Zax0, h1, h2, hx, hy, Option.bind_some, ex, ey]
 exact Zh0 fun _ => Zh0 fun _ => rfl
theorem Zaqp (l : Zs) (s : List UInt8) (hl : l.Subs.length ≤ 4611686018427387904) : Zpb l s = some (Zf6 l.Subs s) := by
 (unfold Zpb LF.run; dsimp only [Zxf, LT.den])
 obtain ⟨x, hx, _, ex⟩ := Zagq l.Subs s hl
 simp only [hx, Option.bind_some, ex]; rfl
theorem Za26 (l : Zs) (s : List UInt8) (hl : l.Subs.length ≤ 4611686018427387904) : Z00 l s = some (Zf6 l.Subs s) := by
 (unfold Z00 LF.run; dsimp only [Z57, LT.den]; unfold Zgs LF.run; dsimp only [Zfz, LT.den]; unfold Zhu LF.run; dsimp only [Zg8, LT.den])
 simp only [Option.bind_some, Zho]
 have hfind := Zr5 (step := Zc7.step) l.Subs (fun i => .L0 l.Subs s (l.Subs.length : Int) (i : Int)) (fun i => (i : Int)) (fun w => w == s) (fun i x hx => by
  have hi := (List.getElem?_eq_some_iff.1 hx).1
  show (Zbx _ _ _ _).den = _
  dsimp only [Zbx, LT.den]
  rw [decide_eq_true (by omega), Zgn hx, Zr4 hi hl]
  simp only [cond_true, Option.bind_some]
  rw [show (s == x) = (x == s) from by rw [Zayt, Zayt]; simp [eq_comm]]
  cases x == s <;> rfl
)
 rcases hfind with ⟨h1, i, h2, h3⟩ | ⟨h1, h2⟩
 ·rw [show (Zb7.L0 l.Subs s (l.Subs.length : Int) 0) = .L0 l.Subs s (l.Subs.length : Int) ((0 : Nat) : Int) from rfl, h3]
  unfold Zf6; rw [h1]
  simp only [Option.bind_some, Zed]
  rw [decide_eq_true (by omega)]
 ·have he : Zb5 Zc7.step (.L0 l.Subs s (l.Subs.length : Int) (l.Subs.length : Int)) = some (-1) := by
   refine Zci ?_
   show (Zbx _ _ _ _).den = _
   dsimp only [Zbx, LT.den]
   rw [decide_eq_false (by omega)]; rfl
  rw [show (Zb7.L0 l.Subs s (l.Subs.length : Int) 0) = .L0 l.Subs s (l.Subs.length : Int) ((0 : Nat) : Int) from rfl, h2, he]
  unfold Zf6; rw [h1]; rfl
def btw (n m : Int) : Bool := decide (n ≥ 0) && decide (n ≤ m)
def Zlh (b : Zd) : Bool := btw b.Kind 3 && (btw b.N 1000000 && (b.Kind != 0 || b.N == 0))
def Z1o (a b : Int) : Bool := Zba .and .i64 a b == 0
def filV (f : Ze) : Bool :=
 btw f.Zone 5 && (btw f.Who 2 && (btw f.Self 2 && (btw f.Tap 2 && (btw f.Keys 131071 && (btw f.Types 63 && (btw f.NotTypes 63 && (Z1o f.Types f.NotTypes &&
 (btw f.Colors 31 && (btw f.NotColors 31 && (Z1o f.Colors f.NotColors && ((f.Sub == [] || subV f.Sub) && (Zlh f.Power && (Zlh f.Tough && Zlh f.Value)))))))))))))
theorem Zalb (n m : Int) : Zqi n m = some (btw n m) := by
 (unfold Zqi LF.run; dsimp only [Zwt, LT.den]; unfold btw)
 exact Zh0 fun _ => rfl
theorem Za0j (b : Zd) : Zqk b = some (Zlh b) := by
 (unfold Zqk LF.run; dsimp only [Zww, LT.den]; unfold Zlh)
 simp only [Zalb, Option.bind_some]
 refine Zh0 fun _ => Zh0 fun _ => ?_
 cases b.Kind != 0 <;> rfl
theorem Za27 (f : Ze) : (Zkj f).den.bind (Zep Zl8.step) = some (Zlh f.Power && (Zlh f.Tough && Zlh f.Value)) := by
 dsimp only [Zkj, LT.den]
 simp only [Za0j, Option.bind_some]
 exact Zh0 fun _ => Zh0 fun _ => rfl
theorem Zaap (f : Ze) : Zzd f = some (filV f) := by
 (unfold Zzd LF.run; dsimp only [Zadq, LT.den]; unfold filV)
 simp only [Zalb, Option.bind_some, Za45]
 refine Zdb fun _ => Zdb fun _ => Zdb fun _ => Zdb fun _ => Zdb fun _ => Zdb fun _ => Zdb fun _ => ?_
 have dis : ∀ {a b r : Bool} {c d : Int} {k : Option (Zrm ⊕ Bool)}, k.bind (Zep Zl8.step) = some r → (bif (Zba .and .i64 c d != 0) then some (.inr false) else k).bind (Zep Zl8.step) = some (Z1o c d && r) := by
  intro a b r c d k h
  unfold Z1o
  simp only [bne]
  exact Zdb fun _ => h
 refine dis (a := true) (b := true) (Zdb fun _ => Zdb fun _ => dis (a := true) (b := true) ?_)
 cases f.Sub == [] with
 | true => simp only [Bool.not_true, cond_false, Bool.true_or, Bool.true_and]; exact Za27 f
 | false => simp only [Bool.not_false, cond_true, Bool.false_or]; exact Zdb fun _ => Za27 f
theorem Za46 (b : Zd) : Zsc b = some (Zlh b) := by
 (unfold Zsc LF.run; dsimp only [Z0d, LT.den])
 refine (Zbh fun _ => Zbh fun _ => Zbh fun _ => Zbh fun _ => (show _ = some (b.Kind != 0 || b.N == 0) from by cases b.Kind != 0 <;> rfl)).trans ?_
 congr 1
 (unfold Zlh; unfold btw)
 rw [Bool.eq_iff_iff]
 simp only [Bool.and_eq_true, Bool.not_eq_true', decide_eq_false_iff_not, decide_eq_true_eq, ge_iff_le, gt_iff_lt, Int.not_lt]
 constructor
 ·rintro ⟨h1, h2, h3, h4, h5⟩; exact ⟨⟨h1, h2⟩, ⟨h3, h4⟩, h5⟩
 ·rintro ⟨⟨h1, h2⟩, ⟨h3, h4⟩, h5⟩; exact ⟨h1, h2, h3, h4, h5⟩
theorem Zalc : ∀ (d i a b : Nat), i + d = 6 → a < 2 ^ 62 → b < 2 ^ 62 → Zb5 Zlw.step (.L0 (a : Int) (b : Int) (i : Int)) = some (Zvu d a b)
 | 0, i, a, b, hi, _, _ => by
  refine Zci ?_
  show (Zgq _ _ _).den = _
  dsimp only [Zgq, LT.den]
  rw [decide_eq_false (by omega)]; rfl
 | d + 1, i, a, b, hi, ha, hb => by
  have hw : IntKind.wrap .i64 ((i : Int) + 1) = ((i + 1 : Nat) : Int) := Zfi (by omega) (by omega)
  have hs : Zlw.step (.L0 (a : Int) (b : Int) (i : Int)) = some (bif decide (a % 2 = 1) && decide (b % 2 = 1) then .inr false else .inl (.L0 ((a / 2 : Nat) : Int) ((b / 2 : Nat) : Int) ((i + 1 : Nat) : Int))) := by
   show (Zgq _ _ _).den = _
   dsimp only [Zgq, LT.den]
   rw [decide_eq_true (by omega), Zayv, Zayv, Zayu a ha, Zayu b hb, hw]
   cases decide (a % 2 = 1) <;> cases decide (b % 2 = 1) <;> rfl
  unfold Zvu
  by_cases h : a % 2 = 1 ∧ b % 2 = 1
  ·rw [if_pos h]
   rw [decide_eq_true h.1, decide_eq_true h.2] at hs
   exact Zci hs
  ·rw [if_neg h]
   have : (decide (a % 2 = 1) && decide (b % 2 = 1)) = false := by
    rw [← Bool.decide_and]; exact decide_eq_false h
   rw [this] at hs
   rw [Ze3 hs]
   exact Zalc d (i + 1) (a / 2) (b / 2) (by omega) (by omega) (by omega)
theorem Zavr (a b m : Int) (hm : m < 64) : Zsb a b m = some (btw a m && (btw b m && Z1o a b)) := by
 have key : ∀ {r : Bool}, (0 ≤ a → a ≤ m → 0 ≤ b → b ≤ m → r = Z1o a b) → (!decide (a < 0) && (!decide (a > m) && (!decide (b < 0) && (!decide (b > m) && r)))) = (btw a m && (btw b m && Z1o a b)) := by
  intro r hr
  unfold btw
  by_cases h1 : 0 ≤ a
  ·by_cases h2 : a ≤ m
   ·by_cases h3 : 0 ≤ b
    ·by_cases h4 : b ≤ m
     ·rw [hr h1 h2 h3 h4]
      simp [h1, h2, h3, h4, Int.not_lt.2]
     ·simp [h4, Int.not_le.1 h4]
    ·simp [h3, Int.not_le.1 h3]
   ·simp [h2, Int.not_le.1 h2]
  ·simp [h1, Int.not_le.1 h1]
 (unfold Zsb LF.run; dsimp only [Z0c, LT.den])
 by_cases hin : 0 ≤ a ∧ a ≤ m ∧ 0 ≤ b ∧ b ≤ m
 ·obtain ⟨h1, h2, h3, h4⟩ := hin
  refine (Zbh (r := !decide (a > m) && (!decide (b < 0) && (!decide (b > m) && Z1o a b))) fun _ => Zbh fun _ => Zbh fun _ => Zbh fun _ => ?_).trans (congrArg some (key fun _ _ _ _ => rfl))
  obtain ⟨x, rfl⟩ := Int.eq_ofNat_of_zero_le h1
  obtain ⟨y, rfl⟩ := Int.eq_ofNat_of_zero_le h3
  show Zb5 Zlw.step (.L0 (x : Int) (y : Int) ((0 : Nat) : Int)) = _
  rw [Zalc 6 0 x y rfl (by omega) (by omega), Zaz2 (by omega)]
  unfold Z1o
  rw [Za6u (by omega) (by omega), Zqa]
  congr 1
  rw [decide_eq_decide]; omega
 ·refine (Zbh (r := !decide (a > m) && (!decide (b < 0) && (!decide (b > m) && Z1o a b))) fun e1 => Zbh fun e2 => Zbh fun e3 => Zbh fun e4 => ?_).trans (congrArg some (key fun _ _ _ _ => rfl))
  simp only [decide_eq_false_iff_not] at e1 e2 e3 e4
  exact absurd ⟨by omega, by omega, by omega, by omega⟩ hin
theorem Zayy (f : Ze) : (Zkd f).den.bind (Zep Zafj.step) = some (Zlh f.Power && (Zlh f.Tough && Zlh f.Value)) := by
 dsimp only [Zkd, LT.den]
 simp only [Za46, Option.bind_some]
 exact Zh0 fun _ => Zh0 fun _ => rfl
theorem Zapy (f : Ze) : Z16 f = some (filV f) := by
 (unfold Z16 LF.run; dsimp only [Zafi, LT.den])
 simp only [Zavr _ _ _ (by decide : (63 : Int) < 64), Zavr _ _ _ (by decide : (31 : Int) < 64), Option.bind_some, Zavq]
 refine (Zbh fun _ => Zbh fun _ => Zbh fun _ => Zbh fun _ => Zbh fun _ => Zbh fun _ => Zbh fun _ => Zbh fun _ => Zdb fun _ => Zdb fun _ =>
  (show _ = some ((f.Sub == [] || subV f.Sub) && (!decide (f.Keys < 0) && (!decide (f.Keys > 131071) && (Zlh f.Power && (Zlh f.Tough && Zlh f.Value))))) from ?_)).trans ?_
 ·cases f.Sub == [] with
  | true => simp only [Bool.not_true, cond_false, Bool.true_or, Bool.true_and]; exact Zbh fun _ => Zbh fun _ => Zayy f
  | false => simp only [Bool.not_false, cond_true, Bool.false_or]; exact Zdb fun _ => Zbh fun _ => Zbh fun _ => Zayy f
 ·congr 1
  (unfold filV; unfold btw)
  rw [Bool.eq_iff_iff]
  simp only [Bool.and_eq_true, Bool.not_eq_true', decide_eq_false_iff_not, decide_eq_true_eq, ge_iff_le, gt_iff_lt, Int.not_lt]
  constructor
  ·rintro ⟨z1, z2, w1, w2, s1, s2, t1, t2, ⟨⟨a1, a2⟩, ⟨b1, b2⟩, d1⟩, ⟨⟨c1, c2⟩, ⟨e1, e2⟩, d2⟩, su, k1, k2, p, q, v⟩
   exact ⟨⟨z1, z2⟩, ⟨w1, w2⟩, ⟨s1, s2⟩, ⟨t1, t2⟩, ⟨k1, k2⟩, ⟨a1, a2⟩, ⟨b1, b2⟩, d1, ⟨c1, c2⟩, ⟨e1, e2⟩, d2, su, p, q, v⟩
  ·rintro ⟨⟨z1, z2⟩, ⟨w1, w2⟩, ⟨s1, s2⟩, ⟨t1, t2⟩, ⟨k1, k2⟩, ⟨a1, a2⟩, ⟨b1, b2⟩, d1, ⟨c1, c2⟩, ⟨e1, e2⟩, d2, su, p, q, v⟩
   exact ⟨z1, z2, w1, w2, s1, s2, t1, t2, ⟨⟨a1, a2⟩, ⟨b1, b2⟩, d1⟩, ⟨⟨c1, c2⟩, ⟨e1, e2⟩, d2⟩, su, k1, k2, p, q, v⟩
end Go.PW
