import Derived.Test.YtnoofnejcoadfaaGreatDoorQPb
set_option linter.all false
set_option maxRecDepth 100000
namespace Go.PW
theorem Zkq {n : Int} (h1 : -1000000 ≤ n) (h2 : n ≤ 1000000) : Zpq n = some n ∧ Z2t n = some n := by
 constructor
 ·(unfold Zpq LF.run; dsimp only [Zwg, LT.den])
  simp only [Option.bind_some, Zdo]
  (unfold minI; unfold Zyl)
  congr 1
  repeat' split
  all_goals omega
 ·(unfold Z2t LF.run; dsimp only [Z6m, LT.den])
  rw [decide_eq_false (by omega), decide_eq_false (by omega)]; rfl
theorem Z29 {a b : Int} (h1 : 0 ≤ a) (h2 : a ≤ 100000) (h3 : 0 ≤ b) (h4 : b ≤ 100000) : Zadf a b = some (a + b) ∧ Zadg a b = some (a + b) := by
 obtain ⟨a1, a2⟩ := Zkq (n := a) (by omega) (by omega)
 obtain ⟨b1, b2⟩ := Zkq (n := b) (by omega) (by omega)
 obtain ⟨c1, c2⟩ := Zkq (n := a + b) (by omega) (by omega)
 have hw : IntKind.wrap .i64 (a + b) = a + b := Zew (by omega) (by omega)
 constructor
 ·(unfold Zadf LF.run; dsimp only [Zae1, LT.den])
  simp only [a1, b1, c1, hw, Option.bind_some]; rfl
 ·(unfold Zadg LF.run; dsimp only [Zae3, LT.den])
  simp only [a2, b2, c2, hw, Option.bind_some]; rfl
theorem mul_zero {a : Int} (h1 : 0 ≤ a) (h2 : a ≤ 100000) : Zxv a 0 = some 0 ∧ Zadi a 0 = some 0 := by
 obtain ⟨a1, a2⟩ := Zkq (n := a) (by omega) (by omega)
 obtain ⟨b1, b2⟩ := Zkq (n := 0) (by omega) (by omega)
 have hw : IntKind.wrap .i64 (a * 0) = 0 := by rw [Int.mul_zero]; rfl
 constructor
 ·(unfold Zxv LF.run; dsimp only [Z2k, LT.den])
  simp only [a1, b1, hw, Option.bind_some]; rfl
 ·(unfold Zadi LF.run; dsimp only [Zae8, LT.den])
  simp only [a2, b2, hw, Option.bind_some]; rfl
def Zu8 (c : Zl) : Bool := btw c.Generic 99 && (btw c.X 2 && c.Color.list.all fun n => btw n 9)
theorem Zaog (c : Zl) : Zade c = some (Zu8 c) := by
 (unfold Zade LF.run; dsimp only [Zaez, LT.den])
 simp only [Option.bind_some, Zgu]
 have := Zru (st := fun i => Zpo.L0 c c.Color (i : Int)) (step := Zpp.step) (bad := false) c.Color.list (fun n => btw n 9) (fun i x hx => by
  have hi := (List.getElem?_eq_some_iff.1 hx).1
  have hi : i < 5 := hi
  show (Zmy _ _ _).den = _
  dsimp only [Zmy, LT.den]
  rw [decide_eq_true (by omega), Zgq hx, Zew (by omega) (by omega)]
  simp only [cond_true, Option.bind_some]
  unfold btw
  by_cases h1 : x < 0
  ·rw [decide_eq_true h1, decide_eq_false (show ¬ x ≥ 0 by omega)]; rfl
  ·rw [decide_eq_false h1, decide_eq_true (show x ≥ 0 by omega)]
   by_cases h2 : x > 9
   ·rw [decide_eq_true h2, decide_eq_false (show ¬ x ≤ 9 by omega)]; rfl
   ·rw [decide_eq_false h2, decide_eq_true (show x ≤ 9 by omega)]; rfl)
 rw [show (Zpo.L0 c c.Color 0) = .L0 c c.Color ((0 : Nat) : Int) from rfl, this]
 have he : Zbu Zpp.step (.L0 c c.Color ((c.Color.list.length : Nat) : Int)) = some (btw c.Generic 99 && btw c.X 2) := by
  have e : Zpp.step (.L0 c c.Color ((c.Color.list.length : Nat) : Int)) = some (.inr (btw c.Generic 99 && btw c.X 2)) := by
   show (Zmy c c.Color 5).den = _
   (dsimp only [Zmy, LT.den]; unfold btw)
   rw [decide_eq_false (by omega)]
   cases decide (c.Generic ≥ 0) <;> cases decide (c.Generic ≤ 99) <;> cases decide (c.X ≥ 0) <;> rfl
  exact Zcg e
 rw [he]
 unfold Zu8
 cases c.Color.list.all fun n => btw n 9 <;> cases btw c.Generic 99 <;> cases btw c.X 2 <;> rfl
theorem Zal7 (c : Zl) : Zw6 c = some (Zu8 c) := by
 (unfold Zw6 LF.run; dsimp only [Z7f, LT.den])
 have hl : Zbu Zgw.step (.L0 c 0) = some (c.Color.list.all fun n => btw n 9) := by
  have := Zru (st := fun i => Zhq.L0 c (i : Int)) (step := Zgw.step) (bad := false) c.Color.list (fun n => btw n 9) (fun i x hx => by
   have hi := (List.getElem?_eq_some_iff.1 hx).1
   have hi : i < 5 := hi
   show (Ziy _ _).den = _
   dsimp only [Ziy, LT.den]
   rw [decide_eq_true (by omega), Zgq hx, Zew (by omega) (by omega)]
   simp only [cond_true, Option.bind_some]
   unfold btw
   by_cases h1 : x < 0
   ·rw [decide_eq_true h1, decide_eq_false (show ¬ x ≥ 0 by omega)]; rfl
   ·rw [decide_eq_false h1, decide_eq_true (show x ≥ 0 by omega)]
    by_cases h2 : x > 9
    ·rw [decide_eq_true h2, decide_eq_false (show ¬ x ≤ 9 by omega)]; rfl
    ·rw [decide_eq_false h2, decide_eq_true (show x ≤ 9 by omega)]; rfl)
  rw [show (Zhq.L0 c 0) = .L0 c ((0 : Nat) : Int) from rfl, this]
  have he : Zbu Zgw.step (.L0 c ((c.Color.list.length : Nat) : Int)) = some true := by
   refine Zcg ?_
   show (Ziy c 5).den = _
   rfl
  rw [he]
  cases c.Color.list.all fun n => btw n 9 <;> rfl
 refine (Za5 fun _ => Za5 fun _ => Za5 fun _ => Za5 fun _ => (show Option.bind (some (Sum.inl (Zhq.L0 c 0))) (Zev Zgw.step) = some (c.Color.list.all fun n => btw n 9) from hl)).trans ?_
 congr 1
 (unfold Zu8; unfold btw)
 rw [Bool.eq_iff_iff]
 simp only [Bool.and_eq_true, Bool.not_eq_true', decide_eq_false_iff_not, decide_eq_true_eq, ge_iff_le, gt_iff_lt, Int.not_lt]
 constructor
 ·rintro ⟨h1, h2, h3, h4, h5⟩; exact ⟨⟨h1, h2⟩, ⟨h3, h4⟩, h5⟩
 ·rintro ⟨⟨h1, h2⟩, ⟨h3, h4⟩, h5⟩; exact ⟨h1, h2, h3, h4, h5⟩
def valV (c : Zl) : Int := bif Zu8 c then c.Generic + c.Color.a0 + c.Color.a1 + c.Color.a2 + c.Color.a3 + c.Color.a4 else 0
theorem Zal8 {c : Zl} (h : Zu8 c = true) : (0 ≤ c.Generic ∧ c.Generic ≤ 99) ∧ (0 ≤ c.X ∧ c.X ≤ 2) ∧ (0 ≤ c.Color.a0 ∧ c.Color.a0 ≤ 9) ∧ (0 ≤ c.Color.a1 ∧ c.Color.a1 ≤ 9) ∧ (0 ≤ c.Color.a2 ∧ c.Color.a2 ≤ 9) ∧ (0 ≤ c.Color.a3 ∧ c.Color.a3 ≤ 9) ∧ (0 ≤ c.Color.a4 ∧ c.Color.a4 ≤ 9) := by
 simpa [Zu8, btw, A5.list] using h
theorem Zakd (c : Zl) : Zy9 c 0 = some (valV c) ∧ Z2y c 0 = some (valV c) := by
 (unfold Zy9 LF.run; dsimp only [Z2l, LT.den]; unfold Z2y LF.run; dsimp only [Z6t, LT.den]; unfold valV)
 rw [Zaog, Zal7]
 simp only [Option.bind_some]
 cases hc : Zu8 c with
 | false => exact ⟨rfl, rfl⟩
 | true =>
  obtain ⟨g, x, h0, h1, h2, h3, h4⟩ := Zal8 hc
  obtain ⟨gen, xx, ⟨a0, a1, a2, a3, a4⟩⟩ := c
  simp only at g x h0 h1 h2 h3 h4 ⊢
  simp only [Bool.not_true, cond_false, Option.bind_some, Zgu, cond_true]
  constructor
  ·have hw : ∀ {n : Int}, 0 ≤ n → n ≤ 1000 → IntKind.wrap .i64 n = n := fun h1 h2 => Zew (by omega) (by omega)
   have r : ∀ (v i y : Int), i < 5 → idx? [a0, a1, a2, a3, a4] i = some y → 0 ≤ v + y → v + y ≤ 1000 → 0 ≤ i → Zbu Zmz.step (.L0 0 ⟨gen, xx, ⟨a0, a1, a2, a3, a4⟩⟩ v ⟨a0, a1, a2, a3, a4⟩ i) = Zbu Zmz.step (.L0 0 ⟨gen, xx, ⟨a0, a1, a2, a3, a4⟩⟩ (v + y) ⟨a0, a1, a2, a3, a4⟩ (i + 1)) := fun v i y hi hy h1 h2 h0 => by
    refine Zec ?_
    show (Zh3 _ _ _ _ _).den = _
    dsimp only [Zh3, LT.den]
    rw [decide_eq_true hi, show idx? (A5.list (⟨a0, a1, a2, a3, a4⟩ : A5 Int)) i = some y from hy, Option.bind_some, hw h1 h2, Zew (by omega) (by omega)]; rfl
   rw [r gen 0 a0 (by omega) rfl (by omega) (by omega) (by omega), r _ _ a1 (by omega) rfl (by omega) (by omega) (by omega), r _ _ a2 (by omega) rfl (by omega) (by omega) (by omega), r _ _ a3 (by omega) rfl (by omega) (by omega) (by omega), r _ _ a4 (by omega) rfl (by omega) (by omega) (by omega)]
   refine Zcg ?_
   show (Zh3 _ _ _ _ 5).den = _
   dsimp only [Zh3, LT.den]
   have e1 := (mul_zero (a := xx) (by omega) (by omega)).1
   have e2 := (Z29 (a := gen + a0 + a1 + a2 + a3 + a4) (b := 0) (by omega) (by omega) (by omega) (by omega)).1
   rw [decide_eq_false (by omega)]
   simp only [cond_false, show Zyl 0 0 = 0 from rfl, e1, e2, Option.bind_some, Int.add_zero]
  ·have r : ∀ (v i y : Int), i < 5 → idx? [a0, a1, a2, a3, a4] i = some y → 0 ≤ v → v ≤ 1000 → 0 ≤ y → y ≤ 9 → 0 ≤ i → Zbu Zon.step (.L0 0 ⟨gen, xx, ⟨a0, a1, a2, a3, a4⟩⟩ v i) = Zbu Zon.step (.L0 0 ⟨gen, xx, ⟨a0, a1, a2, a3, a4⟩⟩ (v + y) (i + 1)) := fun v i y hi hy h1 h2 h3 h4 h0 => by
    refine Zec ?_
    show (Zi7 _ _ _ _).den = _
    dsimp only [Zi7, LT.den]
    rw [decide_eq_true hi, show idx? (A5.list (⟨a0, a1, a2, a3, a4⟩ : A5 Int)) i = some y from hy, Option.bind_some, (Z29 h1 (by omega) h3 (by omega)).2, Option.bind_some, Zew (by omega) (by omega)]; rfl
   rw [r gen 0 a0 (by omega) rfl (by omega) (by omega) (by omega) (by omega) (by omega), r _ _ a1 (by omega) rfl (by omega) (by omega) (by omega) (by omega) (by omega), r _ _ a2 (by omega) rfl (by omega) (by omega) (by omega) (by omega) (by omega), r _ _ a3 (by omega) rfl (by omega) (by omega) (by omega) (by omega) (by omega), r _ _ a4 (by omega) rfl (by omega) (by omega) (by omega) (by omega) (by omega)]
   refine Zcg ?_
   show (Zi7 _ _ _ 5).den = _
   dsimp only [Zi7, LT.den]
   have e1 := (mul_zero (a := xx) (by omega) (by omega)).2
   have e2 := (Z29 (a := gen + a0 + a1 + a2 + a3 + a4) (b := 0) (by omega) (by omega) (by omega) (by omega)).2
   rw [decide_eq_false (by omega), decide_eq_false (by omega)]
   simp only [cond_false, e1, e2, Option.bind_some, Int.add_zero]
def Zzh (b : Za) (n : Int) : Bool := bif b.Kind == 0 then true else bif b.Kind == 1 then decide (n ≥ b.N) else bif b.Kind == 2 then decide (n ≤ b.N) else bif b.Kind == 3 then n == b.N else false
theorem Zzi (b : Za) (n : Int) : Z2i b n = some (Zzh b n) ∧ Z2x b n = some (Zzh b n) := by
 (unfold Z2i LF.run; dsimp only [Z6d, LT.den]; unfold Z2x LF.run; dsimp only [Z6r, LT.den]; unfold Zzh)
 cases b.Kind == 0 <;> cases b.Kind == 1 <;> cases b.Kind == 2 <;> cases b.Kind == 3 <;> exact ⟨rfl, rfl⟩
def Zrc (h s n : Int) : Bool := (s == 0 || Zbf .and .i64 h s != 0) && Zbf .and .i64 h n == 0
def oneV (a b w : Int) : Bool := bif w == 1 then a == b else bif w != 2 then true else a != b
def tapV (t : Bool) (w : Int) : Bool := bif w == 1 then t else bif w != 2 then true else !t
def Zi9 (t : Zd) : Bool := Zbf .and .i64 t.Line.Types 1 != 0
def Z8k (cr : Bool) (b : Za) (n : Int) : Bool := b.Kind == 0 || (cr && Zzh b n)
def Zwr (t : Zd) (f : Zc) : Bool := Z8k (Zi9 t) f.Power t.Power && (Z8k (Zi9 t) f.Tough t.Tough && Zzh f.Value (valV t.Cost))
def Z8l (t : Zd) (f : Zc) : Bool := Zbf .and .i64 t.Keys f.Keys == f.Keys
def Zzj (t : Zd) (f : Zc) : Bool := f.Sub == [] || Zfi t.Line.Subs f.Sub
def matV (o : Zf) (t : Zd) (you source : Int) (f : Zc) : Bool :=
 Z27 f && (o.Zone == f.Zone && (oneV t.Control you f.Who && (oneV o.Id source f.Self && (Zrc t.Line.Types f.Types f.NotTypes && (Zrc t.Colors f.Colors f.NotColors &&
  (Zzj t f && (Z8l t f && (tapV o.Tapped f.Tap && Zwr t f))))))))
theorem Zasw (h s n : Int) : Zn5 h s n = some (Zrc h s n) := by
 (unfold Zn5 LF.run; dsimp only [Zs1, LT.den]; unfold Zrc)
 cases s == 0 <;> cases Zbf .and .i64 h s != 0 <;> rfl
theorem Zal9 (b : Za) (n : Int) (cr : Bool) : Zig b n cr = some (Z8k cr b n) := by
 (unfold Zig LF.run; dsimp only [Zlu, LT.den]; unfold Z8k)
 rw [(Zzi b n).1]
 cases b.Kind == 0 <;> cases cr <;> cases Zzh b n <;> rfl
theorem m4 (t : Zd) (f : Zc) : (Zdz t f (Zi9 t)).den.bind (Zev Zef.step) = some (Zwr t f) := by
 (dsimp only [Zdz, LT.den]; unfold Zwr)
 simp only [Zal9, (Zakd _).1, (Zzi _ _).1, Option.bind_some]
 exact Zg4 fun _ => Zg4 fun _ => rfl
theorem m3 (o : Zf) (t : Zd) (f : Zc) (v : Bool) : (Ze1 o t f (Zi9 t) v).den.bind (Zev Zef.step) = some (!v && (tapV o.Tapped f.Tap && Zwr t f)) := by
 dsimp only [Ze1, LT.den]
 refine Za5 fun _ => ?_
 have hm := m4 t f
 unfold tapV
 by_cases h1 : f.Tap = 1
 ·rw [show (f.Tap == 1) = true from by rw [h1]; rfl, show (f.Tap == 2) = false from by rw [h1]; rfl]
  cases o.Tapped
  ·rfl
  ·simpa using hm
 ·rw [show (f.Tap == 1) = false from beq_eq_false_iff_ne.2 h1]
  cases h2 : f.Tap == 2 with
  | false => simpa [bne, h2] using hm
  | true =>
   cases o.Tapped
   ·simpa [bne, h2] using hm
   ·simp [bne, h2, Zdo]
theorem m2 (o : Zf) (t : Zd) (f : Zc) (v : Bool) (ht : t.Line.Subs.length ≤ 4611686018427387904) :
 (Zgs o t f (Zi9 t) v).den.bind (Zev Zef.step) = some (!v && (Zzj t f && (Z8l t f && (tapV o.Tapped f.Tap && Zwr t f)))) := by
 dsimp only [Zgs, LT.den]
 refine Za5 fun _ => ?_
 have hk : Z6f t.Keys f.Keys = some (Z8l t f) := rfl
 simp only [Zaq0 _ _ ht, hk, Option.bind_some]
 unfold Zzj
 cases f.Sub == [] with
 | true => simp only [Bool.not_true, cond_false, Bool.true_or, Bool.true_and]; rw [m3, Bool.not_not]
 | false =>
  simp only [Bool.not_false, cond_true, Bool.false_or]
  cases Zfi t.Line.Subs f.Sub with
  | false => simp only [Bool.not_false, cond_true]; rw [m3]; rfl
  | true => simp only [Bool.not_true, cond_false]; rw [m3, Bool.not_not]; rfl
theorem m1 (o : Zf) (t : Zd) (f : Zc) (v : Bool) (ht : t.Line.Subs.length ≤ 4611686018427387904) :
 (Zdd o t f (Zi9 t) v).den.bind (Zev Zef.step) = some (!v && (Zrc t.Line.Types f.Types f.NotTypes && (Zrc t.Colors f.Colors f.NotColors && (Zzj t f && (Z8l t f && (tapV o.Tapped f.Tap && Zwr t f)))))) := by
 dsimp only [Zdd, LT.den]
 refine Za5 fun _ => ?_
 simp only [Zasw, Option.bind_some]
 cases Zrc t.Line.Types f.Types f.NotTypes with
 | false => simp only [Bool.not_false, cond_true]; rw [m2 o t f _ ht]; rfl
 | true => simp only [Bool.not_true, cond_false]; rw [m2 o t f _ ht, Bool.not_not]; rfl
theorem m0 (o : Zf) (t : Zd) (source : Int) (f : Zc) (v : Bool) (ht : t.Line.Subs.length ≤ 4611686018427387904) :
 (Zba source o t f (Zi9 t) v).den.bind (Zev Zef.step) = some (!v && (oneV o.Id source f.Self && (Zrc t.Line.Types f.Types f.NotTypes && (Zrc t.Colors f.Colors f.NotColors && (Zzj t f && (Z8l t f && (tapV o.Tapped f.Tap && Zwr t f))))))) := by
 dsimp only [Zba, LT.den]
 refine Za5 fun _ => ?_
 have hm := fun v => m1 o t f v ht
 unfold oneV
 by_cases h1 : f.Self = 1
 ·rw [show (f.Self == 1) = true from by rw [h1]; rfl, show (f.Self == 2) = false from by rw [h1]; rfl]
  cases h : o.Id == source
  ·simp only [cond_true, bne, h, Bool.not_false]; rw [hm]; rfl
  ·simp only [cond_true, bne, h, Bool.not_true, cond_false]; rw [hm]; rfl
 ·rw [show (f.Self == 1) = false from beq_eq_false_iff_ne.2 h1]
  cases h2 : f.Self == 2 with
  | false => simp only [cond_false, bne, h2, Bool.not_false, cond_true]; rw [hm]; rfl
  | true => simp only [cond_false, bne, h2, Bool.not_true, cond_true]; rw [hm]
theorem Zasx (o : Zf) (t : Zd) (you source : Int) (f : Zc) (ht : t.Line.Subs.length ≤ 4611686018427387904) : Zs4 o t you source f = some (matV o t you source f) := by
 (unfold Zs4 LF.run; dsimp only [Zxw, LT.den]; unfold matV)
 rw [Z28, Option.bind_some]
 refine Zdy fun _ => ?_
 have hz : (o.Zone != f.Zone) = !(o.Zone == f.Zone) := rfl
 rw [hz]
 refine Zdy fun _ => ?_
 have hm := fun v => m0 o t source f v ht
 show Option.bind (bif (f.Who == 1) then bif (t.Control != you) then (Zba source o t f (Zi9 t) _).den else bif (f.Who == 2) then (Zba source o t f (Zi9 t) _).den else (Zba source o t f (Zi9 t) _).den else bif (f.Who == 2) then (Zba source o t f (Zi9 t) _).den else (Zba source o t f (Zi9 t) _).den) _ = _
 unfold oneV
 by_cases h1 : f.Who = 1
 ·rw [show (f.Who == 1) = true from by rw [h1]; rfl, show (f.Who == 2) = false from by rw [h1]; rfl]
  cases h : t.Control == you
  ·simp only [cond_true, bne, h, Bool.not_false]; rw [hm]; rfl
  ·simp only [cond_true, bne, h, Bool.not_true, cond_false]; rw [hm]; rfl
 ·rw [show (f.Who == 1) = false from beq_eq_false_iff_ne.2 h1]
  cases h2 : f.Who == 2 with
  | false => simp only [cond_false, bne, h2, Bool.not_false, cond_true]; rw [hm]; rfl
  | true => simp only [cond_false, bne, h2, Bool.not_true, cond_true]; rw [hm]; rfl
theorem b0 (t : Zd) (f : Zc) : (Zgk t f (Zi9 t)).den.bind (Zev Ztf.step) = some (Z8k (Zi9 t) f.Tough t.Tough && Zzh f.Value (valV t.Cost)) := by
 (dsimp only [Zgk, LT.den]; unfold Z8k)
 simp only [(Zakd _).2, (Zzi _ _).2, Option.bind_some, bne]
 cases f.Tough.Kind == 0 <;> cases Zi9 t <;> cases Zzh f.Tough t.Tough <;> rfl
theorem Zaq3 (t : Zd) (f : Zc) : Zzd t f = some (Zwr t f) := by
 (unfold Zzd LF.run; dsimp only [Z2z, LT.den]; unfold Zwr)
 have hs : Z6q t.Line.Types 1 = some (Zi9 t) := rfl
 rw [hs, Option.bind_some]
 simp only [(Zzi _ _).2, Option.bind_some, bne]
 have hb := b0 t f
 unfold Z8k at hb ⊢
 cases f.Power.Kind == 0 with
 | true => simpa using hb
 | false =>
  cases hc : Zi9 t with
  | false => rfl
  | true =>
   rw [hc] at hb
   cases Zzh f.Power t.Power
   ·rfl
   ·simpa using hb
theorem r1 (t : Zd) (f : Zc) (ht : t.Line.Subs.length ≤ 4611686018427387904) : (Zh6 t f).den.bind (Zev Zaj7.step) = some (Zzj t f && (Z8l t f && Zwr t f)) := by
 (dsimp only [Zh6, LT.den]; unfold Zzj)
 have hk : Zamz t.Keys f.Keys = some (Z8l t f) := rfl
 simp only [Zafy _ _ ht, hk, Zaq3, Option.bind_some]
 cases f.Sub == [] with
 | true => simp only [Bool.not_true, cond_false, Bool.true_or, Bool.true_and]; exact Zdy fun _ => rfl
 | false => simp only [Bool.not_false, cond_true, Bool.false_or]; exact Zdy fun _ => Zdy fun _ => rfl
end Go.PW
