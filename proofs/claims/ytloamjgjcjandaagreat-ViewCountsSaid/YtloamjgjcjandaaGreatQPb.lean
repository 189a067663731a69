import Derived.Test.YtloamjgjcjandaaGreatQP
set_option linter.all false
set_option maxRecDepth 100000
namespace Go.PW
theorem Zase (x : Zaa) (h : Zmk x) : Zqf x = some x := by
 unfold Zqf Zyp
 rw [Zfj _ h.1.1, Option.bind_some, Zfj _ h.2.1.1, Option.bind_some, Zfj _ h.2.2.1]; rfl
theorem Zbkl (a : List Int) (h : a.length * 8 ≤ 140737488351232) : Zqs a = some a := by
 unfold Zqs Zaag
 rw [Zkq h (by decide)]; rfl
theorem Z43 (a : Zs) (h : Zdd a) : Zmw a = some a := by
 have key : ∀ Z, runO Zrv (.L0 a Z (a.Effects.length : Int) ((0 : Nat) : Int)) = some a := fun Z => by
  have hl : a.Effects.length * 560 ≤ 140737488351232 := h.2.2.2.2.1.1
  have r := Z98 (step := Zrv) (st := fun i (_ : Unit) => .L0 a Z (a.Effects.length : Int) (i : Int)) a.Effects.length (fun _ => ()) (fun i hi => by
   have hx := List.getElem?_eq_getElem hi
   have hp := h.2.2.2.2.1.2 _ (List.getElem_mem hi)
   generalize a.Effects[i] = x at hx hp
   obtain ⟨x0, x1, x2, x3, x4, x5, x6, x7, x8⟩ := x
   show Zj9 _ _ _ _ = _
   unfold Zj9
   rw [decide_eq_true (show (i : Int) < (a.Effects.length : Int) by omega), cond_true, Zb8 hx, Option.bind_some]
   try dsimp only
   rw [Zj1 _ hp.2.2.2.2.1, Option.bind_some, Z0o hx, Option.bind_some, Zc2 hi (by omega)])
  refine Eq.trans r (Zct ?_)
  show Zj9 _ _ _ _ = _
  unfold Zj9
  rw [decide_eq_false (show ¬ (a.Effects.length : Int) < (a.Effects.length : Int) by omega)]
  rfl
 unfold Zmw Zwt
 rw [Zj1 _ h.2.1.1, Option.bind_some, Zxv _ h.2.2.2.1.1, Option.bind_some, Zt9 _ h.2.2.2.2.1.1, Option.bind_some, Option.bind_some, Zde]
 exact key _
theorem Zbg7 (s : Zd) (h : Zap s) : Z7u s = some s := by
 have l3 : ∀ Z, runO Zfs (.L3 s Z (s.Conts.length : Int) ((0 : Nat) : Int)) = some s := fun Z => by
  have hl : s.Conts.length * 80 ≤ 140737488351232 := h.2.2.2.2.2.2.1.1
  have r := Z98 (step := Zfs) (st := fun (i : Nat) (_ : Unit) => .L3 s Z (s.Conts.length : Int) (i : Int)) s.Conts.length (fun _ => ()) (fun i hi => by
   have hx := List.getElem?_eq_getElem hi
   have hp := h.2.2.2.2.2.2.1.2 _ (List.getElem_mem hi)
   generalize s.Conts[i] = x at hx hp
   obtain ⟨x0, x1, x2, x3, x4, x5⟩ := x
   show Zr0 _ _ _ _ = _
   unfold Zr0
   rw [decide_eq_true (show (i : Int) < (s.Conts.length : Int) by omega), cond_true, Zb8 hx, Option.bind_some]
   try dsimp only
   rw [Zfj _ hp.1.1, Option.bind_some, Z0o hx, Option.bind_some, Zb8 hx, Option.bind_some]
   try dsimp only
   rw [Zj1 _ hp.2.1, Option.bind_some, Z0o hx, Option.bind_some, Zc2 hi (by omega)])
  refine Eq.trans r ?_
  have e : Zfs (.L3 s Z (s.Conts.length : Int) (s.Conts.length : Int)) = some (.inr s) := by
   show Zr0 _ _ _ _ = _
   unfold Zr0
   rw [decide_eq_false (show ¬ (s.Conts.length : Int) < (s.Conts.length : Int) by omega), cond_false]
   rw [Zfj _ h.2.2.2.2.2.2.2.1]
   rfl
  exact Zct e
 have l2 : ∀ Z, runO Zfs (.L2 s Z (s.Waiting.length : Int) ((0 : Nat) : Int)) = some s := fun Z => by
  have hl : s.Waiting.length * 768 ≤ 140737488351232 := h.2.2.2.2.2.1.1
  have r := Z98 (step := Zfs) (st := fun (i : Nat) (_ : Unit) => .L2 s Z (s.Waiting.length : Int) (i : Int)) s.Waiting.length (fun _ => ()) (fun i hi => by
   have hx := List.getElem?_eq_getElem hi
   have hp := h.2.2.2.2.2.1.2 _ (List.getElem_mem hi)
   generalize s.Waiting[i] = x at hx hp
   obtain ⟨x0, x1, x2, x3⟩ := x
   show Zrz _ _ _ _ = _
   unfold Zrz
   rw [decide_eq_true (show (i : Int) < (s.Waiting.length : Int) by omega), cond_true, Zb8 hx, Option.bind_some]
   try dsimp only
   rw [Z43 _ hp, Option.bind_some, Z0o hx, Option.bind_some, Zc2 hi (by omega)])
  refine Eq.trans r ?_
  have e : Zfs (.L2 s Z (s.Waiting.length : Int) (s.Waiting.length : Int)) = some (.inl (.L3 s Z (s.Conts.length : Int) ((0 : Nat) : Int))) := by
   show Zrz _ _ _ _ = _
   unfold Zrz
   rw [decide_eq_false (show ¬ (s.Waiting.length : Int) < (s.Waiting.length : Int) by omega), cond_false]
   rw [Zxw _ h.2.2.2.2.2.2.1.1]
   rfl
  exact (Zli e).trans (l3 Z)
 have l1 : ∀ Z, runO Zfs (.L1 s Z (s.Stack.length : Int) ((0 : Nat) : Int)) = some s := fun Z => by
  have hl : s.Stack.length * 824 ≤ 140737488351232 := h.2.2.2.2.1.1
  have r := Z98 (step := Zfs) (st := fun (i : Nat) (_ : Unit) => .L1 s Z (s.Stack.length : Int) (i : Int)) s.Stack.length (fun _ => ()) (fun i hi => by
   have hx := List.getElem?_eq_getElem hi
   have hp := h.2.2.2.2.1.2 _ (List.getElem_mem hi)
   generalize s.Stack[i] = x at hx hp
   obtain ⟨x0, x1, x2, x3, x4, x5, x6, x7, x8⟩ := x
   show Zry _ _ _ _ = _
   unfold Zry
   rw [decide_eq_true (show (i : Int) < (s.Stack.length : Int) by omega), cond_true, Zb8 hx, Option.bind_some]
   try dsimp only
   rw [Z43 _ hp.1, Option.bind_some, Z0o hx, Option.bind_some, Zb8 hx, Option.bind_some]
   try dsimp only
   rw [Zua _ hp.2.1, Option.bind_some, Z0o hx, Option.bind_some, Zc2 hi (by omega)])
  refine Eq.trans r ?_
  have e : Zfs (.L1 s Z (s.Stack.length : Int) (s.Stack.length : Int)) = some (.inl (.L2 s Z (s.Waiting.length : Int) ((0 : Nat) : Int))) := by
   show Zry _ _ _ _ = _
   unfold Zry
   rw [decide_eq_false (show ¬ (s.Stack.length : Int) < (s.Stack.length : Int) by omega), cond_false]
   rw [Zso _ h.2.2.2.2.2.1.1]
   rfl
  exact (Zli e).trans (l2 Z)
 have l0 : ∀ Z, runO Zfs (.L0 s Z (s.Players.length : Int) ((0 : Nat) : Int)) = some s := fun Z => by
  have hl : s.Players.length * 152 ≤ 140737488351232 := h.1.1
  have r := Z98 (step := Zfs) (st := fun (i : Nat) (_ : Unit) => .L0 s Z (s.Players.length : Int) (i : Int)) s.Players.length (fun _ => ()) (fun i hi => by
   have hx := List.getElem?_eq_getElem hi
   have hp := h.1.2 _ (List.getElem_mem hi)
   generalize s.Players[i] = x at hx hp
   obtain ⟨x0, x1, x2, x3, x4, x5, x6, x7, x8⟩ := x
   show Zrx _ _ _ _ = _
   unfold Zrx
   rw [decide_eq_true (show (i : Int) < (s.Players.length : Int) by omega), cond_true, Zb8 hx, Option.bind_some]
   try dsimp only
   rw [Zase _ hp, Option.bind_some, Z0o hx, Option.bind_some, Zc2 hi (by omega)])
  refine Eq.trans r ?_
  have e : Zfs (.L0 s Z (s.Players.length : Int) (s.Players.length : Int)) = some (.inl (.L1 s Z (s.Stack.length : Int) ((0 : Nat) : Int))) := by
   show Zrx _ _ _ _ = _
   unfold Zrx
   rw [decide_eq_false (show ¬ (s.Players.length : Int) < (s.Players.length : Int) by omega), cond_false]
   rw [Zt8 _ h.2.1.1, Option.bind_some, Zfj _ h.2.2.1.1, Option.bind_some, Zfj _ h.2.2.2.1.1, Option.bind_some, Zxu _ h.2.2.2.2.1.1]
   rfl
  exact (Zli e).trans (l1 Z)
 unfold Z7u Zagz
 rw [Zt7 _ h.1.1, Option.bind_some, Option.bind_some, Zde]
 exact l0 _
end Go.PW
