import Derived.Test.YtloamjgjcjandaaGreatQPf
set_option linter.all false
set_option maxRecDepth 100000
namespace Go.PW
theorem Zbod (K : Zd → Int → Int → Bool) (g : Zab) (p : Int) (h : Znk g) : Zav4 (vOf K g p) := by
 have hs := h.2.1
 have hh : (SzL 8 (fun _ => True)) (hdAt g.State.Players p g.State.Players.length) := by
  unfold hdAt
  split
  ·cases hx : g.State.Players[p.toNat]? with
   | none => exact SzL.nil
   | some x => exact (hs.1.2 x (List.mem_of_getElem? hx)).2.1
  ·exact SzL.nil
 have hc : Zuw (vC g p) := by
  unfold vC
  cases g.Pending.Player == p
  ·exact SzL.nil
  ·exact h.2.2.2.1
 refine ⟨⟨?_, ?_⟩, hh, ⟨?_, fun _ _ => trivial⟩, hs.2.2.1, hs.2.2.2.1, hs.2.2.2.2.1, hs.2.2.2.2.2.1, hs.2.2.2.2.2.2.1, hs.2.2.2.2.2.2.2, hc⟩
 ·show (g.State.Players.map Zoj).length * 120 ≤ 140737488351232
  rw [List.length_map]
  have := hs.1.1; omega
 ·intro x hx
  obtain ⟨y, hy, rfl⟩ := List.mem_map.1 hx
  exact (hs.1.2 y hy).2.2
 ·show (g.State.Objects.filter _).length * 128 ≤ 140737488351232
  have h1 := hs.2.1.1
  have h2 := List.length_filter_le (fun o : Zf => K g.State p o.Id || offB g p o.Id) g.State.Objects
  omega
def TO (i z c : Int) : Zf := ⟨i, 0, c, c, z, false, false, false, false, 0, ⟨0, 0, 0⟩, 0, -1, -1, false, 0, 0⟩
def TSt : Zd := ⟨[⟨20, 0, 0, ⟨0, 0, 0, 0, 0, 0⟩, false, false, [3], [1], []⟩, ⟨18, 0, 0, ⟨0, 0, 0, 0, 0, 0⟩, false, false, [], [2], []⟩], [TO 1 1 0, TO 2 1 1, TO 3 2 0], [], [], [], [], [], 1, 0, 3, false, 0, 0, 4, 1, 0, [], 0, -1⟩
def TB : Zab := ⟨[⟨[111, 97, 107], false, ⟨0, 0, ⟨0, 0, 0, 0, 0⟩⟩, 0, ⟨0, 8, []⟩, 0, 0, 0, []⟩], TSt, [], ⟨3, 0, 0, 0, 1, 0, [⟨5, 3, 0⟩]⟩, 0, []⟩
theorem Zbhe : Z7t = some TB := by
 unfold Z7t Zagy
 rw [Option.bind_some, Zde]
 exact Z44.2 ⟨4, rfl⟩
theorem Zbru : Zap TSt := by
 refine ⟨⟨by decide, fun x hx => ?_⟩, ⟨by decide, fun _ _ => trivial⟩, SzL.nil, SzL.nil, SzL.nil, SzL.nil, SzL.nil, SzL.nil⟩
 rcases List.mem_cons.1 hx with rfl | hx
 ·exact ⟨⟨by decide, fun _ _ => trivial⟩, ⟨by decide, fun _ _ => trivial⟩, SzL.nil⟩
 ·rcases List.mem_cons.1 hx with rfl | hx
  ·exact ⟨SzL.nil, ⟨by decide, fun _ _ => trivial⟩, SzL.nil⟩
  ·cases hx
theorem Zamm : Znk TB := by
 refine ⟨⟨by decide, fun x hx => ?_⟩, Zbru, SzL.nil, ⟨by decide, fun _ _ => trivial⟩, SzL.nil⟩
 rcases List.mem_cons.1 hx with rfl | hx
 ·exact ⟨SzS.lit (by decide), SzL.nil, SzL.nil⟩
 ·cases hx
theorem Zbk2 : Z11 = some true := by
 unfold Z11 Zag3
 rw [Zbhe, Option.bind_some, Zaml _ _ Zamm, Option.bind_some, Zaml _ _ Zamm, Option.bind_some]
 rw [show (vOf vK TB 0).Objects = [TO 1 1 0, TO 3 2 0] from rfl, show (vOf vK TB 1).Objects = [TO 2 1 1] from rfl]
 rw [show idx? [TO 1 1 0, TO 3 2 0] 0 = some (TO 1 1 0) from rfl, show idx? [TO 1 1 0, TO 3 2 0] 1 = some (TO 3 2 0) from rfl, show idx? [TO 2 1 1] 0 = some (TO 2 1 1) from rfl]
 rw [show (vOf vK TB 0).Hand = [1] from rfl, Zbkn _ _ (by decide)]
 rw [Z0k _ _ _ Zamm.2.1, Z0k _ _ _ Zamm.2.1, Z0k _ _ _ Zamm.2.1]
 rw [show vK TB.State 0 1 = true from rfl, show vK TB.State 1 1 = false from rfl, show vK TB.State 0 3 = false from rfl]
 rw [Zasf _ _ (Zbod _ _ _ Zamm), Zasf _ _ (Zbod _ _ _ Zamm), decide_eq_true rfl, decide_eq_false (fun e : vOf vK TB 0 = vOf vK TB 1 => absurd (congrArg Zas.Player e) (by decide))]
 rfl
end Go.PW
