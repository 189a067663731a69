import Derived.Test.YtnoofnejcoadfaaGreatDoorQPc
import Derived.Test.YtnoofnejcoadfaaGreatDoorPwX
set_option linter.all false
set_option maxRecDepth 100000
namespace Go.PW
abbrev Bnd (n : Nat) : Prop := n ≤ 4611686018427387904
def Zye : Za := ⟨[], ⟨0, 0, ⟨0, 0, 0, 0, 0⟩⟩, 0, ⟨0, 0, []⟩, 0, 0, 0, [], 0⟩
def atV (all : List Za) (i : Nat) : Za := (all[i]?).getD Zye
theorem Zbah (all : List Za) (i : Nat) : Zawz all (i : Int) = some (atV all i) := by
 (unfold Zawz LF.run; dsimp only [Zawx, LT.den]; unfold atV)
 rw [decide_eq_false (show ¬ (i : Int) < 0 by omega)]
 by_cases h : i < all.length
 ·rw [decide_eq_false (show ¬ (i : Int) ≥ (all.length : Int) by omega), Zaz4 all h, List.getElem?_eq_getElem h]; rfl
 ·rw [decide_eq_true (show (i : Int) ≥ (all.length : Int) by omega), List.getElem?_eq_none (show all.length ≤ i by omega)]; rfl
theorem Za4m {all : List Za} (ht : ∀ t ∈ all, Bnd t.Line.Subs.length) (i : Nat) : Bnd (atV all i).Line.Subs.length := by
 unfold atV
 by_cases h : i < all.length
 ·rw [List.getElem?_eq_getElem h]; exact ht _ (List.getElem_mem h)
 ·rw [List.getElem?_eq_none (show all.length ≤ i by omega)]; exact Nat.zero_le _
def mat (all : List Za) (you src : Int) (f : Ze) (i : Nat) (o : Zf) : Bool := matV o (atV all i) you src f
def Zh7 (s : Zb) (all : List Za) (you src : Int) (f : Ze) : List Int := Zt5 (mat all you src f) (fun o => o.Id) 0 s.Objects
theorem Za8h (s : Zb) (all : List Za) (you src : Int) (f : Ze) (hs : s.Objects.length * 128 ≤ reachBytes) (ht : ∀ t ∈ all, Bnd t.Line.Subs.length) : Zps s all you src f = some (Zh7 s all you src f) := by
 have hs' : s.Objects.length * 128 ≤ 140737488351232 := hs
 (unfold Zps LF.run; dsimp only [Zaab, LT.den])
 have h := Zaqp (step := Zxp.step) (st := fun i acc => .L0 all you src f acc s.Objects (s.Objects.length : Int) (i : Int)) s.Objects (mat all you src f) (fun o => o.Id) (fun i x acc hx ha => by
  have hi := (List.getElem?_eq_some_iff.1 hx).1
  have l1 : ∀ t, t = atV all i → (Zjj all you src f acc x t s.Objects (s.Objects.length : Int) (i : Int)).den = some (.inl (.L0 all you src f (bif mat all you src f i x then acc ++ [x.Id] else acc) s.Objects (s.Objects.length : Int) ((i + 1 : Nat) : Int))) := by
   rintro t rfl
   dsimp only [Zjj, LT.den]
   rw [Za6j _ _ _ _ _ (Za4m ht i), Option.bind_some, Zss hi (by omega)]
   show (bif mat all you src f i x then _ else _) = _
   cases mat all you src f i x with
   | true => rw [cond_true, Zaus (by simp; omega) (by decide)]; rfl
   | false => rfl
  show (Zjk _ _ _ _ _ _ _ _).den = _
  dsimp only [Zjk, LT.den]
  rw [decide_eq_true (show (i : Int) < (s.Objects.length : Int) by omega), cond_true, Zgy hx, Option.bind_some]
  by_cases hl : i < all.length
  ·rw [decide_eq_true (show (i : Int) < (all.length : Int) by omega), cond_true, Zaz4 all hl, Option.bind_some]; exact l1 _ (by simp [atV, List.getElem?_eq_getElem hl])
  ·rw [decide_eq_false (show ¬ (i : Int) < (all.length : Int) by omega), cond_false]; exact l1 _ (by simp [atV, List.getElem?_eq_none (show all.length ≤ i by omega), Zye]))
 refine Eq.trans h (Zcp ?_)
 show (Zjk _ _ _ _ _ _ _ _).den = _
 dsimp only [Zjk, LT.den]
 rw [decide_eq_false (by omega)]; rfl
theorem Zazi (s : Zb) (all : List Za) (you src : Int) (f : Ze) (hs : s.Objects.length * 128 ≤ reachBytes) (ht : ∀ t ∈ all, Bnd t.Line.Subs.length) : Zx5 s all you src f = some (Zh7 s all you src f) := by
 have hs' : s.Objects.length * 128 ≤ 140737488351232 := hs
 (unfold Zx5 LF.run; dsimp only [Zal6, LT.den])
 have h := Zaqp (step := Z5j.step) (st := fun i acc => .L0 all you src s f acc (i : Int)) s.Objects (mat all you src f) (fun o => o.Id) (fun i x acc hx ha => by
  have hi := (List.getElem?_eq_some_iff.1 hx).1
  show (Zmy _ _ _ _ _ _ _).den = _
  dsimp only [Zmy, LT.den]
  rw [decide_eq_true (show (i : Int) < (s.Objects.length : Int) by omega), cond_true, Zgy hx, Option.bind_some, Zbah, Option.bind_some, Zaxe _ _ _ _ _ (Za4m ht i), Option.bind_some, Zss hi (by omega)]
  show (bif mat all you src f i x then _ else _) = _
  cases mat all you src f i x with
  | true => rw [cond_true, Zaus (by simp; omega) (by decide)]; rfl
  | false => rfl)
 refine Eq.trans h (Zcp ?_)
 show (Zmy _ _ _ _ _ _ _).den = _
 dsimp only [Zmy, LT.den]
 rw [decide_eq_false (by omega)]; rfl
end Go.PW
