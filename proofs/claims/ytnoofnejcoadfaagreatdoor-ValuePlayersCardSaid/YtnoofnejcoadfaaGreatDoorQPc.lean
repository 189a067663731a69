import Derived.Test.YtnoofnejcoadfaaGreatDoorQPb
set_option linter.all false
set_option maxRecDepth 100000
namespace Go.PW
theorem Zmk {n : Int} (h1 : -1000000 ≤ n) (h2 : n ≤ 1000000) : Zsy n = some n ∧ Zs2 n = some n := by
 constructor
 ·(unfold Zsy LF.run; dsimp only [Z01, LT.den])
  simp only [Option.bind_some, Zed]
  (unfold Z7q; unfold Zte)
  congr 1
  repeat' split
  all_goals omega
 ·(unfold Zs2 LF.run; dsimp only [Z06, LT.den])
  rw [decide_eq_false (by omega), decide_eq_false (by omega)]; rfl
theorem Zaaq {a b : Int} (h1 : 0 ≤ a) (h2 : a ≤ 100000) (h3 : 0 ≤ b) (h4 : b ≤ 100000) : Zam8 a b = some (a + b) ∧ Z24 a b = some (a + b) := by
 obtain ⟨a1, a2⟩ := Zmk (n := a) (by omega) (by omega)
 obtain ⟨b1, b2⟩ := Zmk (n := b) (by omega) (by omega)
 obtain ⟨c1, c2⟩ := Zmk (n := a + b) (by omega) (by omega)
 have hw : IntKind.wrap .i64 (a + b) = a + b := Zfi (by omega) (by omega)
 constructor
 ·(unfold Zam8 LF.run; dsimp only [Zapf, LT.den])
  simp only [a1, b1, c1, hw, Option.bind_some]; rfl
 ·(unfold Z24 LF.run; dsimp only [Z9t, LT.den])
  simp only [a2, b2, c2, hw, Option.bind_some]; rfl
theorem mul_zero {a : Int} (h1 : 0 ≤ a) (h2 : a ≤ 100000) : Z2s a 0 = some 0 ∧ Z27 a 0 = some 0 := by
 obtain ⟨a1, a2⟩ := Zmk (n := a) (by omega) (by omega)
 obtain ⟨b1, b2⟩ := Zmk (n := 0) (by omega) (by omega)
 have hw : IntKind.wrap .i64 (a * 0) = 0 := by rw [Int.mul_zero]; rfl
 constructor
 ·(unfold Z2s LF.run; dsimp only [Z9e, LT.den])
  simp only [a1, b1, hw, Option.bind_some]; rfl
 ·(unfold Z27 LF.run; dsimp only [Z92, LT.den])
  simp only [a2, b2, hw, Option.bind_some]; rfl
def Zzn (c : Zp) : Bool := btw c.Generic 99 && (btw c.X 2 && c.Color.list.all fun n => btw n 9)
theorem Za0k (c : Zp) : Zam7 c = some (Zzn c) := by
 (unfold Zam7 LF.run; dsimp only [Zapd, LT.den])
 simp only [Option.bind_some, Zho]
 have := Zvt (st := fun i => Zsw.L0 c c.Color (i : Int)) (step := Zsx.step) (bad := false) c.Color.list (fun n => btw n 9) (fun i x hx => by
  have hi := (List.getElem?_eq_some_iff.1 hx).1
  have hi : i < 5 := hi
  show (Zo1 _ _ _).den = _
  dsimp only [Zo1, LT.den]
  rw [decide_eq_true (by omega), Zgn hx, Zfi (by omega) (by omega)]
  simp only [cond_true, Option.bind_some]
  unfold btw
  by_cases h1 : x < 0
  ·rw [decide_eq_true h1, decide_eq_false (show ¬ x ≥ 0 by omega)]; rfl
  ·rw [decide_eq_false h1, decide_eq_true (show x ≥ 0 by omega)]
   by_cases h2 : x > 9
   ·rw [decide_eq_true h2, decide_eq_false (show ¬ x ≤ 9 by omega)]; rfl
   ·rw [decide_eq_false h2, decide_eq_true (show x ≤ 9 by omega)]; rfl)
 rw [show (Zsw.L0 c c.Color 0) = .L0 c c.Color ((0 : Nat) : Int) from rfl, this]
 have he : Zb5 Zsx.step (.L0 c c.Color ((c.Color.list.length : Nat) : Int)) = some (btw c.Generic 99 && btw c.X 2) := by
  have e : Zsx.step (.L0 c c.Color ((c.Color.list.length : Nat) : Int)) = some (.inr (btw c.Generic 99 && btw c.X 2)) := by
   show (Zo1 c c.Color 5).den = _
   (dsimp only [Zo1, LT.den]; unfold btw)
   rw [decide_eq_false (by omega)]
   cases decide (c.Generic ≥ 0) <;> cases decide (c.Generic ≤ 99) <;> cases decide (c.X ≥ 0) <;> rfl
  exact Zci e
 rw [he]
 unfold Zzn
 cases c.Color.list.all fun n => btw n 9 <;> cases btw c.Generic 99 <;> cases btw c.X 2 <;> rfl
theorem Zax1 (c : Zp) : Z13 c = some (Zzn c) := by
 (unfold Z13 LF.run; dsimp only [Zafh, LT.den])
 have hl : Zb5 Zhp.step (.L0 c 0) = some (c.Color.list.all fun n => btw n 9) := by
  have := Zvt (st := fun i => Zir.L0 c (i : Int)) (step := Zhp.step) (bad := false) c.Color.list (fun n => btw n 9) (fun i x hx => by
   have hi := (List.getElem?_eq_some_iff.1 hx).1
   have hi : i < 5 := hi
   show (Zkc _ _).den = _
   dsimp only [Zkc, LT.den]
   rw [decide_eq_true (by omega), Zgn hx, Zfi (by omega) (by omega)]
   simp only [cond_true, Option.bind_some]
   unfold btw
   by_cases h1 : x < 0
   ·rw [decide_eq_true h1, decide_eq_false (show ¬ x ≥ 0 by omega)]; rfl
   ·rw [decide_eq_false h1, decide_eq_true (show x ≥ 0 by omega)]
    by_cases h2 : x > 9
    ·rw [decide_eq_true h2, decide_eq_false (show ¬ x ≤ 9 by omega)]; rfl
    ·rw [decide_eq_false h2, decide_eq_true (show x ≤ 9 by omega)]; rfl)
  rw [show (Zir.L0 c 0) = .L0 c ((0 : Nat) : Int) from rfl, this]
  have he : Zb5 Zhp.step (.L0 c ((c.Color.list.length : Nat) : Int)) = some true := by
   refine Zci ?_
   show (Zkc c 5).den = _
   rfl
  rw [he]
  cases c.Color.list.all fun n => btw n 9 <;> rfl
 refine (Zbh fun _ => Zbh fun _ => Zbh fun _ => Zbh fun _ => (show Option.bind (some (Sum.inl (Zir.L0 c 0))) (Zep Zhp.step) = some (c.Color.list.all fun n => btw n 9) from hl)).trans ?_
 congr 1
 (unfold Zzn; unfold btw)
 rw [Bool.eq_iff_iff]
 simp only [Bool.and_eq_true, Bool.not_eq_true', decide_eq_false_iff_not, decide_eq_true_eq, ge_iff_le, gt_iff_lt, Int.not_lt]
 constructor
 ·rintro ⟨h1, h2, h3, h4, h5⟩; exact ⟨⟨h1, h2⟩, ⟨h3, h4⟩, h5⟩
 ·rintro ⟨⟨h1, h2⟩, ⟨h3, h4⟩, h5⟩; exact ⟨h1, h2, h3, h4, h5⟩
def valV (c : Zp) : Int := bif Zzn c then c.Generic + c.Color.a0 + c.Color.a1 + c.Color.a2 + c.Color.a3 + c.Color.a4 else 0
theorem Zax2 {c : Zp} (h : Zzn c = true) : (0 ≤ c.Generic ∧ c.Generic ≤ 99) ∧ (0 ≤ c.X ∧ c.X ≤ 2) ∧ (0 ≤ c.Color.a0 ∧ c.Color.a0 ≤ 9) ∧ (0 ≤ c.Color.a1 ∧ c.Color.a1 ≤ 9) ∧ (0 ≤ c.Color.a2 ∧ c.Color.a2 ≤ 9) ∧ (0 ≤ c.Color.a3 ∧ c.Color.a3 ≤ 9) ∧ (0 ≤ c.Color.a4 ∧ c.Color.a4 ≤ 9) := by
 simpa [Zzn, btw, A5.list] using h
theorem Zavt (c : Zp) : Z4q c 0 = some (valV c) ∧ Zs4 c 0 = some (valV c) := by
 (unfold Z4q LF.run; dsimp only [Z9f, LT.den]; unfold Zs4 LF.run; dsimp only [Z1a, LT.den]; unfold valV)
 rw [Za0k, Zax1]
 simp only [Option.bind_some]
 cases hc : Zzn c with
 | false => exact ⟨rfl, rfl⟩
 | true =>
  obtain ⟨g, x, h0, h1, h2, h3, h4⟩ := Zax2 hc
  obtain ⟨gen, xx, ⟨a0, a1, a2, a3, a4⟩⟩ := c
  simp only at g x h0 h1 h2 h3 h4 ⊢
  simp only [Bool.not_true, cond_false, Option.bind_some, Zho, cond_true]
  constructor
  ·have hw : ∀ {n : Int}, 0 ≤ n → n ≤ 1000 → IntKind.wrap .i64 n = n := fun h1 h2 => Zfi (by omega) (by omega)
   have r : ∀ (v i y : Int), i < 5 → idx? [a0, a1, a2, a3, a4] i = some y → 0 ≤ v + y → v + y ≤ 1000 → 0 ≤ i → Zb5 Zo2.step (.L0 0 ⟨gen, xx, ⟨a0, a1, a2, a3, a4⟩⟩ v ⟨a0, a1, a2, a3, a4⟩ i) = Zb5 Zo2.step (.L0 0 ⟨gen, xx, ⟨a0, a1, a2, a3, a4⟩⟩ (v + y) ⟨a0, a1, a2, a3, a4⟩ (i + 1)) := fun v i y hi hy h1 h2 h0 => by
    refine Ze3 ?_
    show (Zi6 _ _ _ _ _).den = _
    dsimp only [Zi6, LT.den]
    rw [decide_eq_true hi, show idx? (A5.list (⟨a0, a1, a2, a3, a4⟩ : A5 Int)) i = some y from hy, Option.bind_some, hw h1 h2, Zfi (by omega) (by omega)]; rfl
   rw [r gen 0 a0 (by omega) rfl (by omega) (by omega) (by omega), r _ _ a1 (by omega) rfl (by omega) (by omega) (by omega), r _ _ a2 (by omega) rfl (by omega) (by omega) (by omega), r _ _ a3 (by omega) rfl (by omega) (by omega) (by omega), r _ _ a4 (by omega) rfl (by omega) (by omega) (by omega)]
   refine Zci ?_
   show (Zi6 _ _ _ _ 5).den = _
   dsimp only [Zi6, LT.den]
   have e1 := (mul_zero (a := xx) (by omega) (by omega)).1
   have e2 := (Zaaq (a := gen + a0 + a1 + a2 + a3 + a4) (b := 0) (by omega) (by omega) (by omega) (by omega)).1
   rw [decide_eq_false (by omega)]
   simp only [cond_false, show Zte 0 0 = 0 from rfl, e1, e2, Option.bind_some, Int.add_zero]
  ·have r : ∀ (v i y : Int), i < 5 → idx? [a0, a1, a2, a3, a4] i = some y → 0 ≤ v → v ≤ 1000 → 0 ≤ y → y ≤ 9 → 0 ≤ i → Zb5 Zrp.step (.L0 0 ⟨gen, xx, ⟨a0, a1, a2, a3, a4⟩⟩ v i) = Zb5 Zrp.step (.L0 0 ⟨gen, xx, ⟨a0, a1, a2, a3, a4⟩⟩ (v + y) (i + 1)) := fun v i y hi hy h1 h2 h3 h4 h0 => by
    refine Ze3 ?_
    show (Zg0 _ _ _ _).den = _
    dsimp only [Zg0, LT.den]
    rw [decide_eq_true hi, show idx? (A5.list (⟨a0, a1, a2, a3, a4⟩ : A5 Int)) i = some y from hy, Option.bind_some, (Zaaq h1 (by omega) h3 (by omega)).2, Option.bind_some, Zfi (by omega) (by omega)]; rfl
   rw [r gen 0 a0 (by omega) rfl (by omega) (by omega) (by omega) (by omega) (by omega), r _ _ a1 (by omega) rfl (by omega) (by omega) (by omega) (by omega) (by omega), r _ _ a2 (by omega) rfl (by omega) (by omega) (by omega) (by omega) (by omega), r _ _ a3 (by omega) rfl (by omega) (by omega) (by omega) (by omega) (by omega), r _ _ a4 (by omega) rfl (by omega) (by omega) (by omega) (by omega) (by omega)]
   refine Zci ?_
   show (Zg0 _ _ _ 5).den = _
   dsimp only [Zg0, LT.den]
   have e1 := (mul_zero (a := xx) (by omega) (by omega)).2
   have e2 := (Zaaq (a := gen + a0 + a1 + a2 + a3 + a4) (b := 0) (by omega) (by omega) (by omega) (by omega)).2
   rw [decide_eq_false (by omega), decide_eq_false (by omega)]
   simp only [cond_false, e1, e2, Option.bind_some, Int.add_zero]
def Z44 (b : Zd) (n : Int) : Bool := bif b.Kind == 0 then true else bif b.Kind == 1 then decide (n ≥ b.N) else bif b.Kind == 2 then decide (n ≤ b.N) else bif b.Kind == 3 then n == b.N else false
theorem Z45 (b : Zd) (n : Int) : Z9c b n = some (Z44 b n) ∧ Zs3 b n = some (Z44 b n) := by
 (unfold Z9c LF.run; dsimp only [Zadt, LT.den]; unfold Zs3 LF.run; dsimp only [Z09, LT.den]; unfold Z44)
 cases b.Kind == 0 <;> cases b.Kind == 1 <;> cases b.Kind == 2 <;> cases b.Kind == 3 <;> exact ⟨rfl, rfl⟩
def Zmt (h s n : Int) : Bool := (s == 0 || Zba .and .i64 h s != 0) && Zba .and .i64 h n == 0
def Z46 (a b w : Int) : Bool := bif w == 1 then a == b else bif w != 2 then true else a != b
def Z47 (t : Bool) (w : Int) : Bool := bif w == 1 then t else bif w != 2 then true else !t
def Zkq (t : Za) : Bool := Zba .and .i64 t.Line.Types 1 != 0
def bouV (cr : Bool) (b : Zd) (n : Int) : Bool := b.Kind == 0 || (cr && Z44 b n)
def Zxr (t : Za) (f : Ze) : Bool := bouV (Zkq t) f.Power t.Power && (bouV (Zkq t) f.Tough t.Tough && Z44 f.Value (valV t.Cost))
def keyV (t : Za) (f : Ze) : Bool := Zba .and .i64 t.Keys f.Keys == f.Keys
def Zzo (t : Za) (f : Ze) : Bool := f.Sub == [] || Zf6 t.Line.Subs f.Sub
def matV (o : Zg) (t : Za) (you source : Int) (f : Ze) : Bool :=
 filV f && (o.Zone == f.Zone && (Z46 t.Control you f.Who && (Z46 o.Id source f.Self && (Zmt t.Line.Types f.Types f.NotTypes && (Zmt t.Colors f.Colors f.NotColors &&
  (Zzo t f && (keyV t f && (Z47 o.Tapped f.Tap && Zxr t f))))))))
theorem Za47 (h s n : Int) : Zql h s n = some (Zmt h s n) := by
 (unfold Zql LF.run; dsimp only [Zwz, LT.den]; unfold Zmt)
 cases s == 0 <;> cases Zba .and .i64 h s != 0 <;> rfl
theorem Zax3 (b : Zd) (n : Int) (cr : Bool) : Zjt b n cr = some (bouV cr b n) := by
 (unfold Zjt LF.run; dsimp only [Znu, LT.den]; unfold bouV)
 rw [(Z45 b n).1]
 cases b.Kind == 0 <;> cases cr <;> cases Z44 b n <;> rfl
theorem m4 (t : Za) (f : Ze) : (Zeq t f (Zkq t)).den.bind (Zep Ze5.step) = some (Zxr t f) := by
 (dsimp only [Zeq, LT.den]; unfold Zxr)
 simp only [Zax3, (Zavt _).1, (Z45 _ _).1, Option.bind_some]
 exact Zh0 fun _ => Zh0 fun _ => rfl
theorem m3 (o : Zg) (t : Za) (f : Ze) (v : Bool) : (Zfo o t f (Zkq t) v).den.bind (Zep Ze5.step) = some (!v && (Z47 o.Tapped f.Tap && Zxr t f)) := by
 dsimp only [Zfo, LT.den]
 refine Zbh fun _ => ?_
 have hm := m4 t f
 unfold Z47
 by_cases h1 : f.Tap = 1
 ·rw [show (f.Tap == 1) = true from by rw [h1]; rfl, show (f.Tap == 2) = false from by rw [h1]; rfl]
  cases o.Tapped
  ·rfl
  ·simpa using hm
 ·rw [show (f.Tap == 1) = false from beq_eq_false_iff_ne.2 h1]
  cases h2 : f.Tap == 2 with
  | false => simpa [bne, h2] using hm
  | true =>
   cases o.Tapped
   ·simpa [bne, h2] using hm
   ·simp [bne, h2, Zed]
theorem m2 (o : Zg) (t : Za) (f : Ze) (v : Bool) (ht : t.Line.Subs.length ≤ 4611686018427387904) :
 (Zhl o t f (Zkq t) v).den.bind (Zep Ze5.step) = some (!v && (Zzo t f && (keyV t f && (Z47 o.Tapped f.Tap && Zxr t f)))) := by
 dsimp only [Zhl, LT.den]
 refine Zbh fun _ => ?_
 have hk : Zadv t.Keys f.Keys = some (keyV t f) := rfl
 simp only [Za26 _ _ ht, hk, Option.bind_some]
 unfold Zzo
 cases f.Sub == [] with
 | true => simp only [Bool.not_true, cond_false, Bool.true_or, Bool.true_and]; rw [m3, Bool.not_not]
 | false =>
  simp only [Bool.not_false, cond_true, Bool.false_or]
  cases Zf6 t.Line.Subs f.Sub with
  | false => simp only [Bool.not_false, cond_true]; rw [m3]; rfl
  | true => simp only [Bool.not_true, cond_false]; rw [m3, Bool.not_not]; rfl
theorem m1 (o : Zg) (t : Za) (f : Ze) (v : Bool) (ht : t.Line.Subs.length ≤ 4611686018427387904) :
 (Zdy o t f (Zkq t) v).den.bind (Zep Ze5.step) = some (!v && (Zmt t.Line.Types f.Types f.NotTypes && (Zmt t.Colors f.Colors f.NotColors && (Zzo t f && (keyV t f && (Z47 o.Tapped f.Tap && Zxr t f)))))) := by
 dsimp only [Zdy, LT.den]
 refine Zbh fun _ => ?_
 simp only [Za47, Option.bind_some]
 cases Zmt t.Line.Types f.Types f.NotTypes with
 | false => simp only [Bool.not_false, cond_true]; rw [m2 o t f _ ht]; rfl
 | true => simp only [Bool.not_true, cond_false]; rw [m2 o t f _ ht, Bool.not_not]; rfl
theorem m0 (o : Zg) (t : Za) (source : Int) (f : Ze) (v : Bool) (ht : t.Line.Subs.length ≤ 4611686018427387904) :
 (Zbn source o t f (Zkq t) v).den.bind (Zep Ze5.step) = some (!v && (Z46 o.Id source f.Self && (Zmt t.Line.Types f.Types f.NotTypes && (Zmt t.Colors f.Colors f.NotColors && (Zzo t f && (keyV t f && (Z47 o.Tapped f.Tap && Zxr t f))))))) := by
 dsimp only [Zbn, LT.den]
 refine Zbh fun _ => ?_
 have hm := fun v => m1 o t f v ht
 unfold Z46
 by_cases h1 : f.Self = 1
 ·rw [show (f.Self == 1) = true from by rw [h1]; rfl, show (f.Self == 2) = false from by rw [h1]; rfl]
  cases h : o.Id == source
  ·simp only [cond_true, bne, h, Bool.not_false]; rw [hm]; rfl
  ·simp only [cond_true, bne, h, Bool.not_true, cond_false]; rw [hm]; rfl
 ·rw [show (f.Self == 1) = false from beq_eq_false_iff_ne.2 h1]
  cases h2 : f.Self == 2 with
  | false => simp only [cond_false, bne, h2, Bool.not_false, cond_true]; rw [hm]; rfl
  | true => simp only [cond_false, bne, h2, Bool.not_true, cond_true]; rw [hm]
theorem Za48 (o : Zg) (t : Za) (you source : Int) (f : Ze) (ht : t.Line.Subs.length ≤ 4611686018427387904) : Zw2 o t you source f = some (matV o t you source f) := by
 (unfold Zw2 LF.run; dsimp only [Z2t, LT.den]; unfold matV)
 rw [Zaap, Option.bind_some]
 refine Zdb fun _ => ?_
 have hz : (o.Zone != f.Zone) = !(o.Zone == f.Zone) := rfl
 rw [hz]
 refine Zdb fun _ => ?_
 have hm := fun v => m0 o t source f v ht
 show Option.bind (bif (f.Who == 1) then bif (t.Control != you) then (Zbn source o t f (Zkq t) _).den else bif (f.Who == 2) then (Zbn source o t f (Zkq t) _).den else (Zbn source o t f (Zkq t) _).den else bif (f.Who == 2) then (Zbn source o t f (Zkq t) _).den else (Zbn source o t f (Zkq t) _).den) _ = _
 unfold Z46
 by_cases h1 : f.Who = 1
 ·rw [show (f.Who == 1) = true from by rw [h1]; rfl, show (f.Who == 2) = false from by rw [h1]; rfl]
  cases h : t.Control == you
  ·simp only [cond_true, bne, h, Bool.not_false]; rw [hm]; rfl
  ·simp only [cond_true, bne, h, Bool.not_true, cond_false]; rw [hm]; rfl
 ·rw [show (f.Who == 1) = false from beq_eq_false_iff_ne.2 h1]
  cases h2 : f.Who == 2 with
  | false => simp only [cond_false, bne, h2, Bool.not_false, cond_true]; rw [hm]; rfl
  | true => simp only [cond_false, bne, h2, Bool.not_true, cond_true]; rw [hm]; rfl
theorem b0 (t : Za) (f : Ze) : (Zez t f (Zkq t)).den.bind (Zep Zxi.step) = some (bouV (Zkq t) f.Tough t.Tough && Z44 f.Value (valV t.Cost)) := by
 (dsimp only [Zez, LT.den]; unfold bouV)
 simp only [(Zavt _).2, (Z45 _ _).2, Option.bind_some, bne]
 cases f.Tough.Kind == 0 <;> cases Zkq t <;> cases Z44 f.Tough t.Tough <;> rfl
theorem Za28 (t : Za) (f : Ze) : Zpc t f = some (Zxr t f) := by
 (unfold Zpc LF.run; dsimp only [Zxh, LT.den]; unfold Zxr)
 have hs : Zme t.Line.Types 1 = some (Zkq t) := rfl
 rw [hs, Option.bind_some]
 simp only [(Z45 _ _).2, Option.bind_some, bne]
 have hb := b0 t f
 unfold bouV at hb ⊢
 cases f.Power.Kind == 0 with
 | true => simpa using hb
 | false =>
  cases hc : Zkq t with
  | false => rfl
  | true =>
   rw [hc] at hb
   cases Z44 f.Power t.Power
   ·rfl
   ·simpa using hb
theorem Zald (a b : Int) : Zme a b = some (Zba .and .i64 a b != 0) := rfl
theorem r1 (t : Za) (f : Ze) (ht : t.Line.Subs.length ≤ 4611686018427387904) : (Zfw t f).den.bind (Zep Zpd.step) = some (Zzo t f && (keyV t f && Zxr t f)) := by
 (dsimp only [Zfw, LT.den]; unfold Zzo)
 have hk : Zaby t.Keys f.Keys = some (keyV t f) := rfl
 simp only [Zaqp _ _ ht, hk, Za28, Option.bind_some]
 cases f.Sub == [] with
 | true => simp only [Bool.not_true, cond_false, Bool.true_or, Bool.true_and]; exact Zdb fun _ => rfl
 | false => simp only [Bool.not_false, cond_true, Bool.false_or]; exact Zdb fun _ => Zdb fun _ => rfl
theorem Zapz {S : Type} {step : S → Option (S ⊕ Bool)} {r : Bool} {k : Option (S ⊕ Bool)} (h s n : Int) (hk : k.bind (Zep step) = some r) :
 (bif (s != 0) then bif (!(Zba .and .i64 h s != 0)) then some (.inr false) else bif (Zba .and .i64 h n != 0) then some (.inr false) else k else bif (Zba .and .i64 h n != 0) then some (.inr false) else k).bind (Zep step) = some (Zmt h s n && r) := by
 unfold Zmt
 simp only [bne]
 cases s == 0 <;> cases Zba .and .i64 h s == 0 <;> cases Zba .and .i64 h n == 0 <;> first | rfl | simpa using hk
theorem r0 (t : Za) (f : Ze) (ht : t.Line.Subs.length ≤ 4611686018427387904) : (Zfx t f).den.bind (Zep Zpd.step) = some (Zmt t.Colors f.Colors f.NotColors && (Zzo t f && (keyV t f && Zxr t f))) := by
 dsimp only [Zfx, LT.den]
 simp only [Zald, Option.bind_some]
 exact Zapz _ _ _ (r1 t f ht)
theorem Zavv (o : Zg) (t : Za) (you source : Int) (f : Ze) (ht : t.Line.Subs.length ≤ 4611686018427387904) : Zpe o t you source f = some (matV o t you source f) := by
 (unfold Zpe LF.run; dsimp only [Zxj, LT.den])
 have h1 : ∀ a b w, Z25 a b w = some (Z46 a b w) := fun a b w => by (unfold Z25 LF.run; dsimp only [Z9z, LT.den]; unfold Z46); cases w == 1 <;> cases w != 2 <;> rfl
 have h2 : ∀ a b w, Zxe a b w = some (Z46 a b w) := fun a b w => by (unfold Zxe LF.run; dsimp only [Z4u, LT.den]; unfold Z46); cases w == 1 <;> cases w != 2 <;> rfl
 have h3 : ∀ a w, Z26 a w = some (Z47 a w) := fun a w => by (unfold Z26 LF.run; dsimp only [Z90, LT.den]; unfold Z47); cases w == 1 <;> cases w != 2 <;> rfl
 simp only [Zapy, h1, h2, h3, Zald, Option.bind_some]
 have hz : (o.Zone != f.Zone) = !(o.Zone == f.Zone) := rfl
 rw [hz]
 refine (Zdb fun _ => Zdb fun _ => Zdb fun _ => Zdb fun _ => Zdb fun _ => Zapz _ _ _ (r0 t f ht)).trans ?_
 congr 1
 unfold matV
 cases Z47 o.Tapped f.Tap <;> simp
end Go.PW
