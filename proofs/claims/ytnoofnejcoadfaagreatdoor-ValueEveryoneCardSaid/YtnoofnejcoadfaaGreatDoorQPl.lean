import Derived.Test.YtnoofnejcoadfaaGreatDoorQPc
import Derived.Test.YtnoofnejcoadfaaGreatDoorPwX
set_option linter.all false
set_option maxRecDepth 100000
namespace Go.PW
abbrev Bnd (n : Nat) : Prop := n ≤ 4611686018427387904
def Ztj : Zd := ⟨[], ⟨0, 0, ⟨0, 0, 0, 0, 0⟩⟩, 0, ⟨0, 0, []⟩, 0, 0, 0, [], 0⟩
def atV (all : List Zd) (i : Nat) : Zd := (all[i]?).getD Ztj
theorem Zav1 {all : List Zd} (ht : ∀ t ∈ all, Bnd t.Line.Subs.length) (i : Nat) : Bnd (atV all i).Line.Subs.length := by
 unfold atV
 by_cases h : i < all.length
 ·rw [List.getElem?_eq_getElem h]; exact ht _ (List.getElem_mem h)
 ·rw [List.getElem?_eq_none (show all.length ≤ i by omega)]; exact Nat.zero_le _
def mat (all : List Zd) (you src : Int) (f : Zc) (i : Nat) (o : Zf) : Bool := matV o (atV all i) you src f
def Z38 (s : Zb) (all : List Zd) (you src : Int) (f : Zc) : List Int := Zvn (mat all you src f) (fun o => o.Id) 0 s.Objects
theorem Zauu (s : Zb) (all : List Zd) (you src : Int) (f : Zc) (hs : s.Objects.length * 128 ≤ reachBytes) (ht : ∀ t ∈ all, Bnd t.Line.Subs.length) : Zm1 s all you src f = some (Z38 s all you src f) := by
 have hs' : s.Objects.length * 128 ≤ 140737488351232 := hs
 (unfold Zm1 LF.run; dsimp only [Z2m, LT.den])
 have h := Zaqc (step := Zs5.step) (st := fun i acc => .L0 all you src f acc s.Objects (s.Objects.length : Int) (i : Int)) s.Objects (mat all you src f) (fun o => o.Id) (fun i x acc hx ha => by
  have hi := (List.getElem?_eq_some_iff.1 hx).1
  have l1 : ∀ t, t = atV all i → (Zh4 all you src f acc x t s.Objects (s.Objects.length : Int) (i : Int)).den = some (.inl (.L0 all you src f (bif mat all you src f i x then acc ++ [x.Id] else acc) s.Objects (s.Objects.length : Int) ((i + 1 : Nat) : Int))) := by
   rintro t rfl
   dsimp only [Zh4, LT.den]
   rw [Zasx _ _ _ _ _ (Zav1 ht i), Option.bind_some, Zue hi (by omega)]
   show (bif mat all you src f i x then _ else _) = _
   cases mat all you src f i x with
   | true => rw [cond_true, Zap9 (by simp; omega) (by decide)]; rfl
   | false => rfl
  show (Zh5 _ _ _ _ _ _ _ _).den = _
  dsimp only [Zh5, LT.den]
  rw [decide_eq_true (show (i : Int) < (s.Objects.length : Int) by omega), cond_true, Zgq hx, Option.bind_some]
  by_cases hl : i < all.length
  ·rw [decide_eq_true (show (i : Int) < (all.length : Int) by omega), cond_true, Zauh all hl, Option.bind_some]; exact l1 _ (by simp [atV, List.getElem?_eq_getElem hl])
  ·rw [decide_eq_false (show ¬ (i : Int) < (all.length : Int) by omega), cond_false]; exact l1 _ (by simp [atV, List.getElem?_eq_none (show all.length ≤ i by omega), Ztj]))
 refine Eq.trans h (Zcg ?_)
 show (Zh5 _ _ _ _ _ _ _ _).den = _
 dsimp only [Zh5, LT.den]
 rw [decide_eq_false (by omega)]; rfl
end Go.PW
