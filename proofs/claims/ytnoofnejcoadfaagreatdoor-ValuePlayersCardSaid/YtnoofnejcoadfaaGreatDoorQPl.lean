import Derived.Test.YtnoofnejcoadfaaGreatDoorQPc
import Derived.Test.YtnoofnejcoadfaaGreatDoorPwX
set_option linter.all false
set_option maxRecDepth 100000
namespace Go.PW
abbrev Bnd (n : Nat) : Prop := n ≤ 4611686018427387904
def Zxs : Za := ⟨[], ⟨0, 0, ⟨0, 0, 0, 0, 0⟩⟩, 0, ⟨0, 0, []⟩, 0, 0, 0, [], 0⟩
def atV (all : List Za) (i : Nat) : Za := (all[i]?).getD Zxs
theorem Za83 (all : List Za) (i : Nat) : Zavj all (i : Int) = some (atV all i) := by
 (unfold Zavj LF.run; dsimp only [Zavh, LT.den]; unfold atV)
 rw [decide_eq_false (show ¬ (i : Int) < 0 by omega)]
 by_cases h : i < all.length
 ·rw [decide_eq_false (show ¬ (i : Int) ≥ (all.length : Int) by omega), Zayr all h, List.getElem?_eq_getElem h]; rfl
 ·rw [decide_eq_true (show (i : Int) ≥ (all.length : Int) by omega), List.getElem?_eq_none (show all.length ≤ i by omega)]; rfl
theorem Za29 {all : List Za} (ht : ∀ t ∈ all, Bnd t.Line.Subs.length) (i : Nat) : Bnd (atV all i).Line.Subs.length := by
 unfold atV
 by_cases h : i < all.length
 ·rw [List.getElem?_eq_getElem h]; exact ht _ (List.getElem_mem h)
 ·rw [List.getElem?_eq_none (show all.length ≤ i by omega)]; exact Nat.zero_le _
def mat (all : List Za) (you src : Int) (f : Ze) (i : Nat) (o : Zg) : Bool := matV o (atV all i) you src f
def Zzp (s : Zb) (all : List Za) (you src : Int) (f : Ze) : List Int := Zz8 (mat all you src f) (fun o => o.Id) 0 s.Objects
theorem Za66 (s : Zb) (all : List Za) (you src : Int) (f : Ze) (hs : s.Objects.length * 128 ≤ reachBytes) (ht : ∀ t ∈ all, Bnd t.Line.Subs.length) : Zo4 s all you src f = some (Zzp s all you src f) := by
 have hs' : s.Objects.length * 128 ≤ 140737488351232 := hs
 (unfold Zo4 LF.run; dsimp only [Z9g, LT.den])
 have h := Zao4 (step := Zw3.step) (st := fun i acc => .L0 all you src f acc s.Objects (s.Objects.length : Int) (i : Int)) s.Objects (mat all you src f) (fun o => o.Id) (fun i x acc hx ha => by
  have hi := (List.getElem?_eq_some_iff.1 hx).1
  have l1 : ∀ t, t = atV all i → (Zi7 all you src f acc x t s.Objects (s.Objects.length : Int) (i : Int)).den = some (.inl (.L0 all you src f (bif mat all you src f i x then acc ++ [x.Id] else acc) s.Objects (s.Objects.length : Int) ((i + 1 : Nat) : Int))) := by
   rintro t rfl
   dsimp only [Zi7, LT.den]
   rw [Za48 _ _ _ _ _ (Za29 ht i), Option.bind_some, Zr4 hi (by omega)]
   show (bif mat all you src f i x then _ else _) = _
   cases mat all you src f i x with
   | true => rw [cond_true, Zata (by simp; omega) (by decide)]; rfl
   | false => rfl
  show (Zi8 _ _ _ _ _ _ _ _).den = _
  dsimp only [Zi8, LT.den]
  rw [decide_eq_true (show (i : Int) < (s.Objects.length : Int) by omega), cond_true, Zgn hx, Option.bind_some]
  by_cases hl : i < all.length
  ·rw [decide_eq_true (show (i : Int) < (all.length : Int) by omega), cond_true, Zayr all hl, Option.bind_some]; exact l1 _ (by simp [atV, List.getElem?_eq_getElem hl])
  ·rw [decide_eq_false (show ¬ (i : Int) < (all.length : Int) by omega), cond_false]; exact l1 _ (by simp [atV, List.getElem?_eq_none (show all.length ≤ i by omega), Zxs]))
 refine Eq.trans h (Zci ?_)
 show (Zi8 _ _ _ _ _ _ _ _).den = _
 dsimp only [Zi8, LT.den]
 rw [decide_eq_false (by omega)]; rfl
theorem Zax4 (s : Zb) (all : List Za) (you src : Int) (f : Ze) (hs : s.Objects.length * 128 ≤ reachBytes) (ht : ∀ t ∈ all, Bnd t.Line.Subs.length) : Zxk s all you src f = some (Zzp s all you src f) := by
 have hs' : s.Objects.length * 128 ≤ 140737488351232 := hs
 (unfold Zxk LF.run; dsimp only [Zakx, LT.den])
 have h := Zao4 (step := Z4w.step) (st := fun i acc => .L0 all you src s f acc (i : Int)) s.Objects (mat all you src f) (fun o => o.Id) (fun i x acc hx ha => by
  have hi := (List.getElem?_eq_some_iff.1 hx).1
  show (Zmg _ _ _ _ _ _ _).den = _
  dsimp only [Zmg, LT.den]
  rw [decide_eq_true (show (i : Int) < (s.Objects.length : Int) by omega), cond_true, Zgn hx, Option.bind_some, Za83, Option.bind_some, Zavv _ _ _ _ _ (Za29 ht i), Option.bind_some, Zr4 hi (by omega)]
  show (bif mat all you src f i x then _ else _) = _
  cases mat all you src f i x with
  | true => rw [cond_true, Zata (by simp; omega) (by decide)]; rfl
  | false => rfl)
 refine Eq.trans h (Zci ?_)
 show (Zmg _ _ _ _ _ _ _).den = _
 dsimp only [Zmg, LT.den]
 rw [decide_eq_false (by omega)]; rfl
end Go.PW
