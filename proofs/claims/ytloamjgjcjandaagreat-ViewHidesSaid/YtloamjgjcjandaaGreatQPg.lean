import Derived.Test.YtloamjgjcjandaaGreatQPf
set_option linter.all false
set_option maxRecDepth 100000
namespace Go.PW
theorem Zaew (K : Za → Int → Int → Bool) (g : Z0) (p : Int) (h : Zfy g) : Zz5 (vOf K g p) := by
 have hs := h.2.1
 have hh : (SzL 8 (fun _ => True)) (Znn g.State.Players p g.State.Players.length) := by
  unfold Znn
  split
  ·cases hx : g.State.Players[p.toNat]? with
   | none => exact SzL.nil
   | some x => exact (hs.1.2 x (List.mem_of_getElem? hx)).2.1
  ·exact SzL.nil
 have hc : Zio (vC g p) := by
  unfold vC
  cases g.Pending.Player == p
  ·exact SzL.nil
  ·exact h.2.2.2.1
 refine ⟨⟨?_, ?_⟩, hh, ⟨?_, fun _ _ => trivial⟩, hs.2.2.1, hs.2.2.2.1, hs.2.2.2.2.1, hs.2.2.2.2.2.1, hs.2.2.2.2.2.2.1, hs.2.2.2.2.2.2.2, hc⟩
 ·show (g.State.Players.map Ziy).length * 120 ≤ 140737488351232
  rw [List.length_map]
  have := hs.1.1; omega
 ·intro x hx
  obtain ⟨y, hy, rfl⟩ := List.mem_map.1 hx
  exact (hs.1.2 y hy).2.2
 ·show (g.State.Objects.filter _).length * 128 ≤ 140737488351232
  have h1 := hs.2.1.1
  have h2 := List.length_filter_le (fun o : Zh => K g.State p o.Id || Zxe g p o.Id) g.State.Objects
  omega
def TO (i z c : Int) : Zh := ⟨i, 0, c, c, z, false, false, false, false, 0, ⟨0, 0, 0⟩, 0, -1, -1, false, 0, 0⟩
def TSt : Za := ⟨[⟨20, 0, 0, ⟨0, 0, 0, 0, 0, 0⟩, false, false, [3], [1], []⟩, ⟨18, 0, 0, ⟨0, 0, 0, 0, 0, 0⟩, false, false, [], [2], []⟩], [TO 1 1 0, TO 2 1 1, TO 3 2 0], [], [], [], [], [], 1, 0, 3, false, 0, 0, 4, 1, 0, [], 0, -1⟩
def TB : Z0 := ⟨[⟨[111, 97, 107], false, ⟨0, 0, ⟨0, 0, 0, 0, 0⟩⟩, 0, ⟨0, 8, []⟩, 0, 0, 0, []⟩], TSt, [], ⟨3, 0, 0, 0, 1, 0, [⟨5, 3, 0⟩]⟩, 0, []⟩
theorem Zamv : Zyb = some TB := by
 (unfold Zyb LF.run; dsimp only [Z8f, LT.den])
 rw [Option.bind_some, Zbb]
 exact Zra.2 ⟨4, rfl⟩
theorem Zauk : Zw TSt := by
 refine ⟨⟨by decide, fun x hx => ?_⟩, ⟨by decide, fun _ _ => trivial⟩, SzL.nil, SzL.nil, SzL.nil, SzL.nil, SzL.nil, SzL.nil⟩
 rcases List.mem_cons.1 hx with rfl | hx
 ·exact ⟨⟨by decide, fun _ _ => trivial⟩, ⟨by decide, fun _ _ => trivial⟩, SzL.nil⟩
 ·rcases List.mem_cons.1 hx with rfl | hx
  ·exact ⟨SzL.nil, ⟨by decide, fun _ _ => trivial⟩, SzL.nil⟩
  ·cases hx
theorem Z2h : Zfy TB := by
 refine ⟨⟨by decide, fun x hx => ?_⟩, Zauk, SzL.nil, ⟨by decide, fun _ _ => trivial⟩, SzL.nil⟩
 rcases List.mem_cons.1 hx with rfl | hx
 ·exact ⟨SzS.lit (by decide), SzL.nil, SzL.nil⟩
 ·cases hx
theorem Zaol : Z5b = some true := by
 (unfold Z5b LF.run; dsimp only [Z8m, LT.den])
 rw [Zamv, Option.bind_some, Zve _ _ Z2h, Option.bind_some, Zve _ _ Z2h, Option.bind_some]
 rw [show (vOf vK TB 0).Objects = [TO 1 1 0, TO 3 2 0] from rfl, show (vOf vK TB 1).Objects = [TO 2 1 1] from rfl]
 rw [show idx? [TO 1 1 0, TO 3 2 0] 0 = some (TO 1 1 0) from rfl, show idx? [TO 1 1 0, TO 3 2 0] 1 = some (TO 3 2 0) from rfl, show idx? [TO 2 1 1] 0 = some (TO 2 1 1) from rfl]
 rw [show (vOf vK TB 0).Hand = [1] from rfl, Zgi _ _ (by decide)]
 rw [Zox _ _ _ Z2h.2.1, Zox _ _ _ Z2h.2.1, Zox _ _ _ Z2h.2.1]
 rw [show vK TB.State 0 1 = true from rfl, show vK TB.State 1 1 = false from rfl, show vK TB.State 0 3 = false from rfl]
 rw [Zxf _ _ (Zaew _ _ _ Z2h), Zxf _ _ (Zaew _ _ _ Z2h), decide_eq_true rfl, decide_eq_false (fun e : vOf vK TB 0 = vOf vK TB 1 => absurd (congrArg Zab.Player e) (by decide))]
 rfl
end Go.PW
