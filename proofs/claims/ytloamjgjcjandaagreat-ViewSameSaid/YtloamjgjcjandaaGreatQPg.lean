import Derived.Test.YtloamjgjcjandaaGreatQPf
set_option linter.all false
set_option maxRecDepth 100000
namespace Go.PW
theorem Z5m (K : Za → Int → Int → Bool) (g : Z8) (p : Int) (h : Zgh g) : Zy7 (vOf K g p) := by
 have hs := h.2.1
 have hh : (SzL 8 (fun _ => True)) (Zon g.State.Players p g.State.Players.length) := by
  unfold Zon
  split
  ·cases hx : g.State.Players[p.toNat]? with
   | none => exact SzL.nil
   | some x => exact (hs.1.2 x (List.mem_of_getElem? hx)).2.1
  ·exact SzL.nil
 have hc : Zif (vC g p) := by
  unfold vC
  cases g.Pending.Player == p
  ·exact SzL.nil
  ·exact h.2.2.2.1
 refine ⟨⟨?_, ?_⟩, hh, ⟨?_, fun _ _ => trivial⟩, hs.2.2.1, hs.2.2.2.1, hs.2.2.2.2.1, hs.2.2.2.2.2.1, hs.2.2.2.2.2.2.1, hs.2.2.2.2.2.2.2, hc⟩
 ·show (g.State.Players.map Zh3).length * 120 ≤ 140737488351232
  rw [List.length_map]
  have := hs.1.1; omega
 ·intro x hx
  obtain ⟨y, hy, rfl⟩ := List.mem_map.1 hx
  exact (hs.1.2 y hy).2.2
 ·show (g.State.Objects.filter _).length * 128 ≤ 140737488351232
  have h1 := hs.2.1.1
  have h2 := List.length_filter_le (fun o : Zm => K g.State p o.Id || Zwm g p o.Id) g.State.Objects
  omega
def TO (i z c : Int) : Zm := ⟨i, 0, c, c, z, false, false, false, false, 0, ⟨0, 0, 0⟩, 0, -1, -1, false, 0, 0⟩
def TSt : Za := ⟨[⟨20, 0, 0, ⟨0, 0, 0, 0, 0, 0⟩, false, false, [3], [1], []⟩, ⟨18, 0, 0, ⟨0, 0, 0, 0, 0, 0⟩, false, false, [], [2], []⟩], [TO 1 1 0, TO 2 1 1, TO 3 2 0], [], [], [], [], [], 1, 0, 3, false, 0, 0, 4, 1, 0, [], 0, -1⟩
def TB : Z8 := ⟨[⟨[111, 97, 107], false, ⟨0, 0, ⟨0, 0, 0, 0, 0⟩⟩, 0, ⟨0, 8, []⟩, 0, 0, 0, []⟩], TSt, [], ⟨3, 0, 0, 0, 1, 0, [⟨5, 3, 0⟩]⟩, 0, []⟩
theorem Zal3 : Zxg = some TB := by
 (unfold Zxg LF.run; dsimp only [Z7y, LT.den])
 rw [Option.bind_some, Zbt]
 exact Zu2.2 ⟨4, rfl⟩
theorem Zatg : Zz TSt := by
 refine ⟨⟨by decide, fun x hx => ?_⟩, ⟨by decide, fun _ _ => trivial⟩, SzL.nil, SzL.nil, SzL.nil, SzL.nil, SzL.nil, SzL.nil⟩
 rcases List.mem_cons.1 hx with rfl | hx
 ·exact ⟨⟨by decide, fun _ _ => trivial⟩, ⟨by decide, fun _ _ => trivial⟩, SzL.nil⟩
 ·rcases List.mem_cons.1 hx with rfl | hx
  ·exact ⟨SzL.nil, ⟨by decide, fun _ _ => trivial⟩, SzL.nil⟩
  ·cases hx
theorem Z1k : Zgh TB := by
 refine ⟨⟨by decide, fun x hx => ?_⟩, Zatg, SzL.nil, ⟨by decide, fun _ _ => trivial⟩, SzL.nil⟩
 rcases List.mem_cons.1 hx with rfl | hx
 ·exact ⟨SzS.lit (by decide), SzL.nil, SzL.nil⟩
 ·cases hx
theorem Zasp : Z4p = some true := by
 (unfold Z4p LF.run; dsimp only [Z75, LT.den])
 rw [Zal3, Option.bind_some, Zad9 _ _ Z1k, Option.bind_some, Zad9 _ _ Z1k, Option.bind_some]
 rw [show (vOf vK TB 0).Objects = [TO 1 1 0, TO 3 2 0] from rfl, show (vOf vK TB 1).Objects = [TO 2 1 1] from rfl]
 rw [show idx? [TO 1 1 0, TO 3 2 0] 0 = some (TO 1 1 0) from rfl, show idx? [TO 1 1 0, TO 3 2 0] 1 = some (TO 3 2 0) from rfl, show idx? [TO 2 1 1] 0 = some (TO 2 1 1) from rfl]
 rw [show (vOf vK TB 0).Hand = [1] from rfl, Zgi _ _ (by decide)]
 rw [Zoa _ _ _ Z1k.2.1, Zoa _ _ _ Z1k.2.1, Zoa _ _ _ Z1k.2.1]
 rw [show vK TB.State 0 1 = true from rfl, show vK TB.State 1 1 = false from rfl, show vK TB.State 0 3 = false from rfl]
 rw [Zqf _ _ (Z5m _ _ _ Z1k), Zqf _ _ (Z5m _ _ _ Z1k), decide_eq_true rfl, decide_eq_false (fun e : vOf vK TB 0 = vOf vK TB 1 => absurd (congrArg Zs.Player e) (by decide))]
 rfl
theorem Zal4 (g1 g2 : Z8) (ps : A2 Int) (h1 : Zgh g1) (h2 : Zgh g2) : Zwa g1 g2 ps = some true := by
 (unfold Zwa LF.run; dsimp only [Zz2, LT.den])
 obtain ⟨b, hb, _⟩ := Z8g g1 h1
 obtain ⟨c, hc, _⟩ := Z8g g2 h2
 obtain ⟨p0, p1⟩ := ps
 rw [hb, Option.bind_some, Zasp, hc]
 cases b
 ·rfl
 cases c
 ·rfl
 rw [Option.bind_some, show idx? (A2.list ⟨p0, p1⟩) 0 = some p0 from rfl, show idx? (A2.list ⟨p0, p1⟩) 1 = some p1 from rfl]
 simp only [Option.bind_some, Bool.not_true, cond_false, Zagq _ _ h1, Zagq _ _ h2]
 have a0 := Z5m rK g1 p0 h1
 have a1 := Z5m rK g2 p1 h2
 have a2 := Z5m rK g1 p1 h1
 simp only [Zqf _ _ a0, Zqf _ _ a1, Zanj _ _ a0, Option.bind_some]
 rw [decide_eq_true trivial, show decide (vOf rK g2 p1 = vOf rK g1 p0) = decide (vOf rK g1 p0 = vOf rK g2 p1) from by rw [decide_eq_decide]; exact ⟨Eq.symm, Eq.symm⟩]
 simp only [beq_self_eq_true, cond_true]
 rfl
end Go.PW
