import Derived.Test.YtloamjgjcjandaaGreatQPf
set_option linter.all false
set_option maxRecDepth 100000
namespace Go.PW
theorem Zbnx (K : Zc → Int → Int → Bool) (g : Zan) (p : Int) (h : Zo7 g) : Zavp (vOf K g p) := by
 have hs := h.2.1
 have hh : (SzL 8 (fun _ => True)) (hdAt g.State.Players p g.State.Players.length) := by
  unfold hdAt
  split
  ·cases hx : g.State.Players[p.toNat]? with
   | none => exact SzL.nil
   | some x => exact (hs.1.2 x (List.mem_of_getElem? hx)).2.1
  ·exact SzL.nil
 have hc : Zur (vC g p) := by
  unfold vC
  cases g.Pending.Player == p
  ·exact SzL.nil
  ·exact h.2.2.2.1
 refine ⟨⟨?_, ?_⟩, hh, ⟨?_, fun _ _ => trivial⟩, hs.2.2.1, hs.2.2.2.1, hs.2.2.2.2.1, hs.2.2.2.2.2.1, hs.2.2.2.2.2.2.1, hs.2.2.2.2.2.2.2, hc⟩
 ·show (g.State.Players.map Zze).length * 120 ≤ 140737488351232
  rw [List.length_map]
  have := hs.1.1; omega
 ·intro x hx
  obtain ⟨y, hy, rfl⟩ := List.mem_map.1 hx
  exact (hs.1.2 y hy).2.2
 ·show (g.State.Objects.filter _).length * 128 ≤ 140737488351232
  have h1 := hs.2.1.1
  have h2 := List.length_filter_le (fun o : Zf => K g.State p o.Id || offB g p o.Id) g.State.Objects
  omega
def TO (i z c : Int) : Zf := ⟨i, 0, c, c, z, false, false, false, false, 0, ⟨0, 0, 0⟩, 0, -1, -1, false, 0, 0⟩
def TSt : Zc := ⟨[⟨20, 0, 0, ⟨0, 0, 0, 0, 0, 0⟩, false, false, [3], [1], []⟩, ⟨18, 0, 0, ⟨0, 0, 0, 0, 0, 0⟩, false, false, [], [2], []⟩], [TO 1 1 0, TO 2 1 1, TO 3 2 0], [], [], [], [], [], 1, 0, 3, false, 0, 0, 4, 1, 0, [], 0, -1⟩
def TB : Zan := ⟨[⟨[111, 97, 107], false, ⟨0, 0, ⟨0, 0, 0, 0, 0⟩⟩, 0, ⟨0, 8, []⟩, 0, 0, 0, []⟩], TSt, [], ⟨3, 0, 0, 0, 1, 0, [⟨5, 3, 0⟩]⟩, 0, []⟩
theorem Zbgx : Z7g = some TB := by
 unfold Z7g Zagq
 rw [Option.bind_some, Zdh]
 exact Z4u.2 ⟨4, rfl⟩
theorem Zbrb : Zap TSt := by
 refine ⟨⟨by decide, fun x hx => ?_⟩, ⟨by decide, fun _ _ => trivial⟩, SzL.nil, SzL.nil, SzL.nil, SzL.nil, SzL.nil, SzL.nil⟩
 rcases List.mem_cons.1 hx with rfl | hx
 ·exact ⟨⟨by decide, fun _ _ => trivial⟩, ⟨by decide, fun _ _ => trivial⟩, SzL.nil⟩
 ·rcases List.mem_cons.1 hx with rfl | hx
  ·exact ⟨SzL.nil, ⟨by decide, fun _ _ => trivial⟩, SzL.nil⟩
  ·cases hx
theorem Zal9 : Zo7 TB := by
 refine ⟨⟨by decide, fun x hx => ?_⟩, Zbrb, SzL.nil, ⟨by decide, fun _ _ => trivial⟩, SzL.nil⟩
 rcases List.mem_cons.1 hx with rfl | hx
 ·exact ⟨SzS.lit (by decide), SzL.nil, SzL.nil⟩
 ·cases hx
theorem Zbkk : Z7j = some true := by
 unfold Z7j Zagv
 rw [Zbgx, Option.bind_some, Za3j _ _ Zal9, Option.bind_some, Za3j _ _ Zal9, Option.bind_some]
 rw [show (vOf vK TB 0).Objects = [TO 1 1 0, TO 3 2 0] from rfl, show (vOf vK TB 1).Objects = [TO 2 1 1] from rfl]
 rw [show idx? [TO 1 1 0, TO 3 2 0] 0 = some (TO 1 1 0) from rfl, show idx? [TO 1 1 0, TO 3 2 0] 1 = some (TO 3 2 0) from rfl, show idx? [TO 2 1 1] 0 = some (TO 2 1 1) from rfl]
 rw [show (vOf vK TB 0).Hand = [1] from rfl, Zbj5 _ _ (by decide)]
 rw [Zp4 _ _ _ Zal9.2.1, Zp4 _ _ _ Zal9.2.1, Zp4 _ _ _ Zal9.2.1]
 rw [show vK TB.State 0 1 = true from rfl, show vK TB.State 1 1 = false from rfl, show vK TB.State 0 3 = false from rfl]
 rw [Zar2 _ _ (Zbnx _ _ _ Zal9), Zar2 _ _ (Zbnx _ _ _ Zal9), decide_eq_true rfl, decide_eq_false (fun e : vOf vK TB 0 = vOf vK TB 1 => absurd (congrArg Zaq.Player e) (by decide))]
 rfl
theorem Zbbu (g : Zan) (p id : Int) (h : Zo7 g) : Z74 g p id = some true := by
 unfold Z74 Z2v
 obtain ⟨b, hb, _⟩ := Zbj2 g h
 rw [hb, Option.bind_some, Zbkk]
 cases b
 ·rfl
 ·have hv := Zbra g h hb
  have hob : g.State.Objects.length * 128 ≤ 140737488351232 := h.2.1.2.1.1
  rw [Bool.not_true, cond_false, Option.bind_some, Zdh]
  have r := Zaep (step := Z7l) (st := fun (i : Nat) (_ : Unit) => .L0 p id g (i : Int)) g.State.Objects.length (fun _ => ()) (fun i hi => by
   have hx := List.getElem?_eq_getElem hi
   generalize g.State.Objects[i] = x at hx
   show Zmv _ _ _ _ = _
   unfold Zmv
   rw [decide_eq_true (show (i : Int) < (g.State.Objects.length : Int) by omega), cond_true, Zcs hx, Option.bind_some, Zp4 _ _ _ h.2.1, Option.bind_some, Zar1 _ _ _ h.2.1, Option.bind_some, Zbow hv, Zdk hi (by omega)]
   cases rK g.State p x.Id <;> rfl)
  refine Eq.trans r (Zdc ?_)
  show Zmv _ _ _ _ = _
  unfold Zmv
  rw [decide_eq_false (by omega), cond_false, Zp4 _ _ _ h.2.1, Option.bind_some, Zar1 _ _ _ h.2.1, Option.bind_some, Zbow hv, Zbkk]
  cases rK g.State p id <;> rfl
end Go.PW
