import Derived.Test.YtnoofnejcoadfaaGreatDoorQPb
set_option linter.all false
set_option maxRecDepth 100000
namespace Go.PW
theorem Zm2 {n : Int} (h1 : -1000000 ≤ n) (h2 : n ≤ 1000000) : Ztm n = some n ∧ Ztq n = some n := by
 constructor
 ·(unfold Ztm LF.run; dsimp only [Z1n, LT.den])
  simp only [Option.bind_some, Zef]
  (unfold Zge; unfold Zdy)
  congr 1
  repeat' split
  all_goals omega
 ·(unfold Ztq LF.run; dsimp only [Z1s, LT.den])
  rw [decide_eq_false (by omega), decide_eq_false (by omega)]; rfl
theorem Zabg {a b : Int} (h1 : 0 ≤ a) (h2 : a ≤ 100000) (h3 : 0 ≤ b) (h4 : b ≤ 100000) : Zao0 a b = some (a + b) ∧ Z3t a b = some (a + b) := by
 obtain ⟨a1, a2⟩ := Zm2 (n := a) (by omega) (by omega)
 obtain ⟨b1, b2⟩ := Zm2 (n := b) (by omega) (by omega)
 obtain ⟨c1, c2⟩ := Zm2 (n := a + b) (by omega) (by omega)
 have hw : IntKind.wrap .i64 (a + b) = a + b := Zet (by omega) (by omega)
 constructor
 ·(unfold Zao0 LF.run; dsimp only [Zaq0, LT.den])
  simp only [a1, b1, c1, hw, Option.bind_some]; rfl
 ·(unfold Z3t LF.run; dsimp only [Zaao, LT.den])
  simp only [a2, b2, c2, hw, Option.bind_some]; rfl
theorem mul_zero {a : Int} (h1 : 0 ≤ a) (h2 : a ≤ 100000) : Z3h a 0 = some 0 ∧ Z3w a 0 = some 0 := by
 obtain ⟨a1, a2⟩ := Zm2 (n := a) (by omega) (by omega)
 obtain ⟨b1, b2⟩ := Zm2 (n := 0) (by omega) (by omega)
 have hw : IntKind.wrap .i64 (a * 0) = 0 := by rw [Int.mul_zero]; rfl
 constructor
 ·(unfold Z3h LF.run; dsimp only [Z99, LT.den])
  simp only [a1, b1, hw, Option.bind_some]; rfl
 ·(unfold Z3w LF.run; dsimp only [Zaax, LT.den])
  simp only [a2, b2, hw, Option.bind_some]; rfl
def Z0b (c : Zp) : Bool := btw c.Generic 99 && (btw c.X 2 && c.Color.list.all fun n => btw n 9)
theorem Za1y (c : Zp) : Zaoz c = some (Z0b c) := by
 (unfold Zaoz LF.run; dsimp only [Zaqy, LT.den])
 simp only [Option.bind_some, Zhx]
 have := Zwf (st := fun i => Ztk.L0 c c.Color (i : Int)) (step := Ztl.step) (bad := false) c.Color.list (fun n => btw n 9) (fun i x hx => by
  have hi := (List.getElem?_eq_some_iff.1 hx).1
  have hi : i < 5 := hi
  show (Zpp _ _ _).den = _
  dsimp only [Zpp, LT.den]
  rw [decide_eq_true (by omega), Zgy hx, Zet (by omega) (by omega)]
  simp only [cond_true, Option.bind_some]
  unfold btw
  by_cases h1 : x < 0
  ·rw [decide_eq_true h1, decide_eq_false (show ¬ x ≥ 0 by omega)]; rfl
  ·rw [decide_eq_false h1, decide_eq_true (show x ≥ 0 by omega)]
   by_cases h2 : x > 9
   ·rw [decide_eq_true h2, decide_eq_false (show ¬ x ≤ 9 by omega)]; rfl
   ·rw [decide_eq_false h2, decide_eq_true (show x ≤ 9 by omega)]; rfl)
 rw [show (Ztk.L0 c c.Color 0) = .L0 c c.Color ((0 : Nat) : Int) from rfl, this]
 have he : Zca Ztl.step (.L0 c c.Color ((c.Color.list.length : Nat) : Int)) = some (btw c.Generic 99 && btw c.X 2) := by
  have e : Ztl.step (.L0 c c.Color ((c.Color.list.length : Nat) : Int)) = some (.inr (btw c.Generic 99 && btw c.X 2)) := by
   show (Zpp c c.Color 5).den = _
   (dsimp only [Zpp, LT.den]; unfold btw)
   rw [decide_eq_false (by omega)]
   cases decide (c.Generic ≥ 0) <;> cases decide (c.Generic ≤ 99) <;> cases decide (c.X ≥ 0) <;> rfl
  exact Zcp e
 rw [he]
 unfold Z0b
 cases c.Color.list.all fun n => btw n 9 <;> cases btw c.Generic 99 <;> cases btw c.X 2 <;> rfl
theorem Zazf (c : Zp) : Z2s c = some (Z0b c) := by
 (unfold Z2s LF.run; dsimp only [Zagf, LT.den])
 have hl : Zca Zhy.step (.L0 c 0) = some (c.Color.list.all fun n => btw n 9) := by
  have := Zwf (st := fun i => Zi2.L0 c (i : Int)) (step := Zhy.step) (bad := false) c.Color.list (fun n => btw n 9) (fun i x hx => by
   have hi := (List.getElem?_eq_some_iff.1 hx).1
   have hi : i < 5 := hi
   show (Zkr _ _).den = _
   dsimp only [Zkr, LT.den]
   rw [decide_eq_true (by omega), Zgy hx, Zet (by omega) (by omega)]
   simp only [cond_true, Option.bind_some]
   unfold btw
   by_cases h1 : x < 0
   ·rw [decide_eq_true h1, decide_eq_false (show ¬ x ≥ 0 by omega)]; rfl
   ·rw [decide_eq_false h1, decide_eq_true (show x ≥ 0 by omega)]
    by_cases h2 : x > 9
    ·rw [decide_eq_true h2, decide_eq_false (show ¬ x ≤ 9 by omega)]; rfl
    ·rw [decide_eq_false h2, decide_eq_true (show x ≤ 9 by omega)]; rfl)
  rw [show (Zi2.L0 c 0) = .L0 c ((0 : Nat) : Int) from rfl, this]
  have he : Zca Zhy.step (.L0 c ((c.Color.list.length : Nat) : Int)) = some true := by
   refine Zcp ?_
   show (Zkr c 5).den = _
   rfl
  rw [he]
  cases c.Color.list.all fun n => btw n 9 <;> rfl
 refine (Zbl fun _ => Zbl fun _ => Zbl fun _ => Zbl fun _ => (show Option.bind (some (Sum.inl (Zi2.L0 c 0))) (Zes Zhy.step) = some (c.Color.list.all fun n => btw n 9) from hl)).trans ?_
 congr 1
 (unfold Z0b; unfold btw)
 rw [Bool.eq_iff_iff]
 simp only [Bool.and_eq_true, Bool.not_eq_true', decide_eq_false_iff_not, decide_eq_true_eq, ge_iff_le, gt_iff_lt, Int.not_lt]
 constructor
 ·rintro ⟨h1, h2, h3, h4, h5⟩; exact ⟨⟨h1, h2⟩, ⟨h3, h4⟩, h5⟩
 ·rintro ⟨⟨h1, h2⟩, ⟨h3, h4⟩, h5⟩; exact ⟨h1, h2, h3, h4, h5⟩
def valV (c : Zp) : Int := bif Z0b c then c.Generic + c.Color.a0 + c.Color.a1 + c.Color.a2 + c.Color.a3 + c.Color.a4 else 0
theorem Zazg {c : Zp} (h : Z0b c = true) : (0 ≤ c.Generic ∧ c.Generic ≤ 99) ∧ (0 ≤ c.X ∧ c.X ≤ 2) ∧ (0 ≤ c.Color.a0 ∧ c.Color.a0 ≤ 9) ∧ (0 ≤ c.Color.a1 ∧ c.Color.a1 ≤ 9) ∧ (0 ≤ c.Color.a2 ∧ c.Color.a2 ≤ 9) ∧ (0 ≤ c.Color.a3 ∧ c.Color.a3 ≤ 9) ∧ (0 ≤ c.Color.a4 ∧ c.Color.a4 ≤ 9) := by
 simpa [Z0b, btw, A5.list] using h
theorem Zaxc (c : Zp) : Z5c c 0 = some (valV c) ∧ Zts c 0 = some (valV c) := by
 (unfold Z5c LF.run; dsimp only [Zaaa, LT.den]; unfold Zts LF.run; dsimp only [Z1w, LT.den]; unfold valV)
 rw [Za1y, Zazf]
 simp only [Option.bind_some]
 cases hc : Z0b c with
 | false => exact ⟨rfl, rfl⟩
 | true =>
  obtain ⟨g, x, h0, h1, h2, h3, h4⟩ := Zazg hc
  obtain ⟨gen, xx, ⟨a0, a1, a2, a3, a4⟩⟩ := c
  simp only at g x h0 h1 h2 h3 h4 ⊢
  simp only [Bool.not_true, cond_false, Option.bind_some, Zhx, cond_true]
  constructor
  ·have hw : ∀ {n : Int}, 0 ≤ n → n ≤ 1000 → IntKind.wrap .i64 n = n := fun h1 h2 => Zet (by omega) (by omega)
   have r : ∀ (v i y : Int), i < 5 → idx? [a0, a1, a2, a3, a4] i = some y → 0 ≤ v + y → v + y ≤ 1000 → 0 ≤ i → Zca Zpq.step (.L0 0 ⟨gen, xx, ⟨a0, a1, a2, a3, a4⟩⟩ v ⟨a0, a1, a2, a3, a4⟩ i) = Zca Zpq.step (.L0 0 ⟨gen, xx, ⟨a0, a1, a2, a3, a4⟩⟩ (v + y) ⟨a0, a1, a2, a3, a4⟩ (i + 1)) := fun v i y hi hy h1 h2 h0 => by
    refine Ze8 ?_
    show (Zji _ _ _ _ _).den = _
    dsimp only [Zji, LT.den]
    rw [decide_eq_true hi, show idx? (A5.list (⟨a0, a1, a2, a3, a4⟩ : A5 Int)) i = some y from hy, Option.bind_some, hw h1 h2, Zet (by omega) (by omega)]; rfl
   rw [r gen 0 a0 (by omega) rfl (by omega) (by omega) (by omega), r _ _ a1 (by omega) rfl (by omega) (by omega) (by omega), r _ _ a2 (by omega) rfl (by omega) (by omega) (by omega), r _ _ a3 (by omega) rfl (by omega) (by omega) (by omega), r _ _ a4 (by omega) rfl (by omega) (by omega) (by omega)]
   refine Zcp ?_
   show (Zji _ _ _ _ 5).den = _
   dsimp only [Zji, LT.den]
   have e1 := (mul_zero (a := xx) (by omega) (by omega)).1
   have e2 := (Zabg (a := gen + a0 + a1 + a2 + a3 + a4) (b := 0) (by omega) (by omega) (by omega) (by omega)).1
   rw [decide_eq_false (by omega)]
   simp only [cond_false, show Zdy 0 0 = 0 from rfl, e1, e2, Option.bind_some, Int.add_zero]
  ·have r : ∀ (v i y : Int), i < 5 → idx? [a0, a1, a2, a3, a4] i = some y → 0 ≤ v → v ≤ 1000 → 0 ≤ y → y ≤ 9 → 0 ≤ i → Zca Zsc.step (.L0 0 ⟨gen, xx, ⟨a0, a1, a2, a3, a4⟩⟩ v i) = Zca Zsc.step (.L0 0 ⟨gen, xx, ⟨a0, a1, a2, a3, a4⟩⟩ (v + y) (i + 1)) := fun v i y hi hy h1 h2 h3 h4 h0 => by
    refine Ze8 ?_
    show (Zhb _ _ _ _).den = _
    dsimp only [Zhb, LT.den]
    rw [decide_eq_true hi, show idx? (A5.list (⟨a0, a1, a2, a3, a4⟩ : A5 Int)) i = some y from hy, Option.bind_some, (Zabg h1 (by omega) h3 (by omega)).2, Option.bind_some, Zet (by omega) (by omega)]; rfl
   rw [r gen 0 a0 (by omega) rfl (by omega) (by omega) (by omega) (by omega) (by omega), r _ _ a1 (by omega) rfl (by omega) (by omega) (by omega) (by omega) (by omega), r _ _ a2 (by omega) rfl (by omega) (by omega) (by omega) (by omega) (by omega), r _ _ a3 (by omega) rfl (by omega) (by omega) (by omega) (by omega) (by omega), r _ _ a4 (by omega) rfl (by omega) (by omega) (by omega) (by omega) (by omega)]
   refine Zcp ?_
   show (Zhb _ _ _ 5).den = _
   dsimp only [Zhb, LT.den]
   have e1 := (mul_zero (a := xx) (by omega) (by omega)).2
   have e2 := (Zabg (a := gen + a0 + a1 + a2 + a3 + a4) (b := 0) (by omega) (by omega) (by omega) (by omega)).2
   rw [decide_eq_false (by omega), decide_eq_false (by omega)]
   simp only [cond_false, e1, e2, Option.bind_some, Int.add_zero]
def Z5r (b : Zd) (n : Int) : Bool := bif b.Kind == 0 then true else bif b.Kind == 1 then decide (n ≥ b.N) else bif b.Kind == 2 then decide (n ≤ b.N) else bif b.Kind == 3 then n == b.N else false
theorem Z5s (b : Zd) (n : Int) : Z97 b n = some (Z5r b n) ∧ Ztr b n = some (Z5r b n) := by
 (unfold Z97 LF.run; dsimp only [Zaer, LT.den]; unfold Ztr LF.run; dsimp only [Z1v, LT.den]; unfold Z5r)
 cases b.Kind == 0 <;> cases b.Kind == 1 <;> cases b.Kind == 2 <;> cases b.Kind == 3 <;> exact ⟨rfl, rfl⟩
def Znb (h s n : Int) : Bool := (s == 0 || Zbc .and .i64 h s != 0) && Zbc .and .i64 h n == 0
def Z5t (a b w : Int) : Bool := bif w == 1 then a == b else bif w != 2 then true else a != b
def Z5u (t : Bool) (w : Int) : Bool := bif w == 1 then t else bif w != 2 then true else !t
def Zk5 (t : Za) : Bool := Zbc .and .i64 t.Line.Types 1 != 0
def bouV (cr : Bool) (b : Zd) (n : Int) : Bool := b.Kind == 0 || (cr && Z5r b n)
def Zyd (t : Za) (f : Ze) : Bool := bouV (Zk5 t) f.Power t.Power && (bouV (Zk5 t) f.Tough t.Tough && Z5r f.Value (valV t.Cost))
def keyV (t : Za) (f : Ze) : Bool := Zbc .and .i64 t.Keys f.Keys == f.Keys
def Z0c (t : Za) (f : Ze) : Bool := f.Sub == [] || Zgi t.Line.Subs f.Sub
def matV (o : Zf) (t : Za) (you source : Int) (f : Ze) : Bool :=
 Z5q f && (o.Zone == f.Zone && (Z5t t.Control you f.Who && (Z5t o.Id source f.Self && (Znb t.Line.Types f.Types f.NotTypes && (Znb t.Colors f.Colors f.NotColors &&
  (Z0c t f && (keyV t f && (Z5u o.Tapped f.Tap && Zyd t f))))))))
theorem Za6i (h s n : Int) : Zq8 h s n = some (Znb h s n) := by
 (unfold Zq8 LF.run; dsimp only [Zxl, LT.den]; unfold Znb)
 cases s == 0 <;> cases Zbc .and .i64 h s != 0 <;> rfl
theorem Zazh (b : Zd) (n : Int) (cr : Bool) : Zj5 b n cr = some (bouV cr b n) := by
 (unfold Zj5 LF.run; dsimp only [Zoh, LT.den]; unfold bouV)
 rw [(Z5s b n).1]
 cases b.Kind == 0 <;> cases cr <;> cases Z5r b n <;> rfl
theorem m4 (t : Za) (f : Ze) : (Zeu t f (Zk5 t)).den.bind (Zes Zfb.step) = some (Zyd t f) := by
 (dsimp only [Zeu, LT.den]; unfold Zyd)
 simp only [Zazh, (Zaxc _).1, (Z5s _ _).1, Option.bind_some]
 exact Zib fun _ => Zib fun _ => rfl
theorem m3 (o : Zf) (t : Za) (f : Ze) (v : Bool) : (Zfw o t f (Zk5 t) v).den.bind (Zes Zfb.step) = some (!v && (Z5u o.Tapped f.Tap && Zyd t f)) := by
 dsimp only [Zfw, LT.den]
 refine Zbl fun _ => ?_
 have hm := m4 t f
 unfold Z5u
 by_cases h1 : f.Tap = 1
 ·rw [show (f.Tap == 1) = true from by rw [h1]; rfl, show (f.Tap == 2) = false from by rw [h1]; rfl]
  cases o.Tapped
  ·rfl
  ·simpa using hm
 ·rw [show (f.Tap == 1) = false from beq_eq_false_iff_ne.2 h1]
  cases h2 : f.Tap == 2 with
  | false => simpa [bne, h2] using hm
  | true =>
   cases o.Tapped
   ·simpa [bne, h2] using hm
   ·simp [bne, h2, Zef]
theorem m2 (o : Zf) (t : Za) (f : Ze) (v : Bool) (ht : t.Line.Subs.length ≤ 4611686018427387904) :
 (Zhv o t f (Zk5 t) v).den.bind (Zes Zfb.step) = some (!v && (Z0c t f && (keyV t f && (Z5u o.Tapped f.Tap && Zyd t f)))) := by
 dsimp only [Zhv, LT.den]
 refine Zbl fun _ => ?_
 have hk : Zaet t.Keys f.Keys = some (keyV t f) := rfl
 simp only [Za4j _ _ ht, hk, Option.bind_some]
 unfold Z0c
 cases f.Sub == [] with
 | true => simp only [Bool.not_true, cond_false, Bool.true_or, Bool.true_and]; rw [m3, Bool.not_not]
 | false =>
  simp only [Bool.not_false, cond_true, Bool.false_or]
  cases Zgi t.Line.Subs f.Sub with
  | false => simp only [Bool.not_false, cond_true]; rw [m3]; rfl
  | true => simp only [Bool.not_true, cond_false]; rw [m3, Bool.not_not]; rfl
theorem m1 (o : Zf) (t : Za) (f : Ze) (v : Bool) (ht : t.Line.Subs.length ≤ 4611686018427387904) :
 (Zd2 o t f (Zk5 t) v).den.bind (Zes Zfb.step) = some (!v && (Znb t.Line.Types f.Types f.NotTypes && (Znb t.Colors f.Colors f.NotColors && (Z0c t f && (keyV t f && (Z5u o.Tapped f.Tap && Zyd t f)))))) := by
 dsimp only [Zd2, LT.den]
 refine Zbl fun _ => ?_
 simp only [Za6i, Option.bind_some]
 cases Znb t.Line.Types f.Types f.NotTypes with
 | false => simp only [Bool.not_false, cond_true]; rw [m2 o t f _ ht]; rfl
 | true => simp only [Bool.not_true, cond_false]; rw [m2 o t f _ ht, Bool.not_not]; rfl
theorem m0 (o : Zf) (t : Za) (source : Int) (f : Ze) (v : Bool) (ht : t.Line.Subs.length ≤ 4611686018427387904) :
 (Zbr source o t f (Zk5 t) v).den.bind (Zes Zfb.step) = some (!v && (Z5t o.Id source f.Self && (Znb t.Line.Types f.Types f.NotTypes && (Znb t.Colors f.Colors f.NotColors && (Z0c t f && (keyV t f && (Z5u o.Tapped f.Tap && Zyd t f))))))) := by
 dsimp only [Zbr, LT.den]
 refine Zbl fun _ => ?_
 have hm := fun v => m1 o t f v ht
 unfold Z5t
 by_cases h1 : f.Self = 1
 ·rw [show (f.Self == 1) = true from by rw [h1]; rfl, show (f.Self == 2) = false from by rw [h1]; rfl]
  cases h : o.Id == source
  ·simp only [cond_true, bne, h, Bool.not_false]; rw [hm]; rfl
  ·simp only [cond_true, bne, h, Bool.not_true, cond_false]; rw [hm]; rfl
 ·rw [show (f.Self == 1) = false from beq_eq_false_iff_ne.2 h1]
  cases h2 : f.Self == 2 with
  | false => simp only [cond_false, bne, h2, Bool.not_false, cond_true]; rw [hm]; rfl
  | true => simp only [cond_false, bne, h2, Bool.not_true, cond_true]; rw [hm]
theorem Za6j (o : Zf) (t : Za) (you source : Int) (f : Ze) (ht : t.Line.Subs.length ≤ 4611686018427387904) : Zxo o t you source f = some (matV o t you source f) := by
 (unfold Zxo LF.run; dsimp only [Z3i, LT.den]; unfold matV)
 rw [Zabf, Option.bind_some]
 refine Zde fun _ => ?_
 have hz : (o.Zone != f.Zone) = !(o.Zone == f.Zone) := rfl
 rw [hz]
 refine Zde fun _ => ?_
 have hm := fun v => m0 o t source f v ht
 show Option.bind (bif (f.Who == 1) then bif (t.Control != you) then (Zbr source o t f (Zk5 t) _).den else bif (f.Who == 2) then (Zbr source o t f (Zk5 t) _).den else (Zbr source o t f (Zk5 t) _).den else bif (f.Who == 2) then (Zbr source o t f (Zk5 t) _).den else (Zbr source o t f (Zk5 t) _).den) _ = _
 unfold Z5t
 by_cases h1 : f.Who = 1
 ·rw [show (f.Who == 1) = true from by rw [h1]; rfl, show (f.Who == 2) = false from by rw [h1]; rfl]
  cases h : t.Control == you
  ·simp only [cond_true, bne, h, Bool.not_false]; rw [hm]; rfl
  ·simp only [cond_true, bne, h, Bool.not_true, cond_false]; rw [hm]; rfl
 ·rw [show (f.Who == 1) = false from beq_eq_false_iff_ne.2 h1]
  cases h2 : f.Who == 2 with
  | false => simp only [cond_false, bne, h2, Bool.not_false, cond_true]; rw [hm]; rfl
  | true => simp only [cond_false, bne, h2, Bool.not_true, cond_true]; rw [hm]; rfl
theorem b0 (t : Za) (f : Ze) : (Ze4 t f (Zk5 t)).den.bind (Zes Zx3.step) = some (bouV (Zk5 t) f.Tough t.Tough && Z5r f.Value (valV t.Cost)) := by
 (dsimp only [Ze4, LT.den]; unfold bouV)
 simp only [(Zaxc _).2, (Z5s _ _).2, Option.bind_some, bne]
 cases f.Tough.Kind == 0 <;> cases Zk5 t <;> cases Z5r f.Tough t.Tough <;> rfl
theorem Za4l (t : Za) (f : Ze) : Zp0 t f = some (Zyd t f) := by
 (unfold Zp0 LF.run; dsimp only [Zx2, LT.den]; unfold Zyd)
 have hs : Zmw t.Line.Types 1 = some (Zk5 t) := rfl
 rw [hs, Option.bind_some]
 simp only [(Z5s _ _).2, Option.bind_some, bne]
 have hb := b0 t f
 unfold bouV at hb ⊢
 cases f.Power.Kind == 0 with
 | true => simpa using hb
 | false =>
  cases hc : Zk5 t with
  | false => rfl
  | true =>
   rw [hc] at hb
   cases Z5r f.Power t.Power
   ·rfl
   ·simpa using hb
theorem Zamm (a b : Int) : Zmw a b = some (Zbc .and .i64 a b != 0) := rfl
theorem r1 (t : Za) (f : Ze) (ht : t.Line.Subs.length ≤ 4611686018427387904) : (Zf6 t f).den.bind (Zes Zp1.step) = some (Z0c t f && (keyV t f && Zyd t f)) := by
 (dsimp only [Zf6, LT.den]; unfold Z0c)
 have hk : Zacu t.Keys f.Keys = some (keyV t f) := rfl
 simp only [Zar9 _ _ ht, hk, Za4l, Option.bind_some]
 cases f.Sub == [] with
 | true => simp only [Bool.not_true, cond_false, Bool.true_or, Bool.true_and]; exact Zde fun _ => rfl
 | false => simp only [Bool.not_false, cond_true, Bool.false_or]; exact Zde fun _ => Zde fun _ => rfl
theorem Zark {S : Type} {step : S → Option (S ⊕ Bool)} {r : Bool} {k : Option (S ⊕ Bool)} (h s n : Int) (hk : k.bind (Zes step) = some r) :
 (bif (s != 0) then bif (!(Zbc .and .i64 h s != 0)) then some (.inr false) else bif (Zbc .and .i64 h n != 0) then some (.inr false) else k else bif (Zbc .and .i64 h n != 0) then some (.inr false) else k).bind (Zes step) = some (Znb h s n && r) := by
 unfold Znb
 simp only [bne]
 cases s == 0 <;> cases Zbc .and .i64 h s == 0 <;> cases Zbc .and .i64 h n == 0 <;> first | rfl | simpa using hk
theorem r0 (t : Za) (f : Ze) (ht : t.Line.Subs.length ≤ 4611686018427387904) : (Zf7 t f).den.bind (Zes Zp1.step) = some (Znb t.Colors f.Colors f.NotColors && (Z0c t f && (keyV t f && Zyd t f))) := by
 dsimp only [Zf7, LT.den]
 simp only [Zamm, Option.bind_some]
 exact Zark _ _ _ (r1 t f ht)
theorem Zaxe (o : Zf) (t : Za) (you source : Int) (f : Ze) (ht : t.Line.Subs.length ≤ 4611686018427387904) : Zp2 o t you source f = some (matV o t you source f) := by
 (unfold Zp2 LF.run; dsimp only [Zx4, LT.den])
 have h1 : ∀ a b w, Z3u a b w = some (Z5t a b w) := fun a b w => by (unfold Z3u LF.run; dsimp only [Zaau, LT.den]; unfold Z5t); cases w == 1 <;> cases w != 2 <;> rfl
 have h2 : ∀ a b w, Zxz a b w = some (Z5t a b w) := fun a b w => by (unfold Zxz LF.run; dsimp only [Z5g, LT.den]; unfold Z5t); cases w == 1 <;> cases w != 2 <;> rfl
 have h3 : ∀ a w, Z3v a w = some (Z5u a w) := fun a w => by (unfold Z3v LF.run; dsimp only [Zaav, LT.den]; unfold Z5u); cases w == 1 <;> cases w != 2 <;> rfl
 simp only [Zarj, h1, h2, h3, Zamm, Option.bind_some]
 have hz : (o.Zone != f.Zone) = !(o.Zone == f.Zone) := rfl
 rw [hz]
 refine (Zde fun _ => Zde fun _ => Zde fun _ => Zde fun _ => Zde fun _ => Zark _ _ _ (r0 t f ht)).trans ?_
 congr 1
 unfold matV
 cases Z5u o.Tapped f.Tap <;> simp
end Go.PW
