import Derived.Test.YtloamjgjcjandaaGreatQP
set_option linter.all false
set_option maxRecDepth 100000
namespace Go.PW
theorem Zar0 (x : Zaa) (h : Zmf x) : Zqd x = some x := by
 unfold Zqd Zyh
 rw [Zfi _ h.1.1, Option.bind_some, Zfi _ h.2.1.1, Option.bind_some, Zfi _ h.2.2.1]; rfl
theorem Zbj3 (a : List Int) (h : a.length * 8 ≤ 140737488351232) : Zqq a = some a := by
 unfold Zqq Z98
 rw [Zkp h (by decide)]; rfl
theorem Z4t (a : Zq) (h : Zdb a) : Zms a = some a := by
 have key : ∀ Z, runO Zrs (.L0 a Z (a.Effects.length : Int) ((0 : Nat) : Int)) = some a := fun Z => by
  have hl : a.Effects.length * 560 ≤ 140737488351232 := h.2.2.2.2.1.1
  have r := Zaep (step := Zrs) (st := fun i (_ : Unit) => .L0 a Z (a.Effects.length : Int) (i : Int)) a.Effects.length (fun _ => ()) (fun i hi => by
   have hx := List.getElem?_eq_getElem hi
   have hp := h.2.2.2.2.1.2 _ (List.getElem_mem hi)
   generalize a.Effects[i] = x at hx hp
   obtain ⟨x0, x1, x2, x3, x4, x5, x6, x7, x8⟩ := x
   show Zj9 _ _ _ _ = _
   unfold Zj9
   rw [decide_eq_true (show (i : Int) < (a.Effects.length : Int) by omega), cond_true, Zcs hx, Option.bind_some]
   try dsimp only
   rw [Zj1 _ hp.2.2.2.2.1, Option.bind_some, Z0d hx, Option.bind_some, Zdk hi (by omega)])
  refine Eq.trans r (Zdc ?_)
  show Zj9 _ _ _ _ = _
  unfold Zj9
  rw [decide_eq_false (show ¬ (a.Effects.length : Int) < (a.Effects.length : Int) by omega)]
  rfl
 unfold Zms Zwn
 rw [Zj1 _ h.2.1.1, Option.bind_some, Zxn _ h.2.2.2.1.1, Option.bind_some, Zt4 _ h.2.2.2.2.1.1, Option.bind_some, Option.bind_some, Zdh]
 exact key _
theorem Zbgr (s : Zc) (h : Zap s) : Z7h s = some s := by
 have l3 : ∀ Z, runO Zfr (.L3 s Z (s.Conts.length : Int) ((0 : Nat) : Int)) = some s := fun Z => by
  have hl : s.Conts.length * 80 ≤ 140737488351232 := h.2.2.2.2.2.2.1.1
  have r := Zaep (step := Zfr) (st := fun (i : Nat) (_ : Unit) => .L3 s Z (s.Conts.length : Int) (i : Int)) s.Conts.length (fun _ => ()) (fun i hi => by
   have hx := List.getElem?_eq_getElem hi
   have hp := h.2.2.2.2.2.2.1.2 _ (List.getElem_mem hi)
   generalize s.Conts[i] = x at hx hp
   obtain ⟨x0, x1, x2, x3, x4, x5⟩ := x
   show Zrx _ _ _ _ = _
   unfold Zrx
   rw [decide_eq_true (show (i : Int) < (s.Conts.length : Int) by omega), cond_true, Zcs hx, Option.bind_some]
   try dsimp only
   rw [Zfi _ hp.1.1, Option.bind_some, Z0d hx, Option.bind_some, Zcs hx, Option.bind_some]
   try dsimp only
   rw [Zj1 _ hp.2.1, Option.bind_some, Z0d hx, Option.bind_some, Zdk hi (by omega)])
  refine Eq.trans r ?_
  have e : Zfr (.L3 s Z (s.Conts.length : Int) (s.Conts.length : Int)) = some (.inr s) := by
   show Zrx _ _ _ _ = _
   unfold Zrx
   rw [decide_eq_false (show ¬ (s.Conts.length : Int) < (s.Conts.length : Int) by omega), cond_false]
   rw [Zfi _ h.2.2.2.2.2.2.2.1]
   rfl
  exact Zdc e
 have l2 : ∀ Z, runO Zfr (.L2 s Z (s.Waiting.length : Int) ((0 : Nat) : Int)) = some s := fun Z => by
  have hl : s.Waiting.length * 768 ≤ 140737488351232 := h.2.2.2.2.2.1.1
  have r := Zaep (step := Zfr) (st := fun (i : Nat) (_ : Unit) => .L2 s Z (s.Waiting.length : Int) (i : Int)) s.Waiting.length (fun _ => ()) (fun i hi => by
   have hx := List.getElem?_eq_getElem hi
   have hp := h.2.2.2.2.2.1.2 _ (List.getElem_mem hi)
   generalize s.Waiting[i] = x at hx hp
   obtain ⟨x0, x1, x2, x3⟩ := x
   show Zrw _ _ _ _ = _
   unfold Zrw
   rw [decide_eq_true (show (i : Int) < (s.Waiting.length : Int) by omega), cond_true, Zcs hx, Option.bind_some]
   try dsimp only
   rw [Z4t _ hp, Option.bind_some, Z0d hx, Option.bind_some, Zdk hi (by omega)])
  refine Eq.trans r ?_
  have e : Zfr (.L2 s Z (s.Waiting.length : Int) (s.Waiting.length : Int)) = some (.inl (.L3 s Z (s.Conts.length : Int) ((0 : Nat) : Int))) := by
   show Zrw _ _ _ _ = _
   unfold Zrw
   rw [decide_eq_false (show ¬ (s.Waiting.length : Int) < (s.Waiting.length : Int) by omega), cond_false]
   rw [Zxo _ h.2.2.2.2.2.2.1.1]
   rfl
  exact (Zmm e).trans (l3 Z)
 have l1 : ∀ Z, runO Zfr (.L1 s Z (s.Stack.length : Int) ((0 : Nat) : Int)) = some s := fun Z => by
  have hl : s.Stack.length * 824 ≤ 140737488351232 := h.2.2.2.2.1.1
  have r := Zaep (step := Zfr) (st := fun (i : Nat) (_ : Unit) => .L1 s Z (s.Stack.length : Int) (i : Int)) s.Stack.length (fun _ => ()) (fun i hi => by
   have hx := List.getElem?_eq_getElem hi
   have hp := h.2.2.2.2.1.2 _ (List.getElem_mem hi)
   generalize s.Stack[i] = x at hx hp
   obtain ⟨x0, x1, x2, x3, x4, x5, x6, x7, x8⟩ := x
   show Zrv _ _ _ _ = _
   unfold Zrv
   rw [decide_eq_true (show (i : Int) < (s.Stack.length : Int) by omega), cond_true, Zcs hx, Option.bind_some]
   try dsimp only
   rw [Z4t _ hp.1, Option.bind_some, Z0d hx, Option.bind_some, Zcs hx, Option.bind_some]
   try dsimp only
   rw [Zt5 _ hp.2.1, Option.bind_some, Z0d hx, Option.bind_some, Zdk hi (by omega)])
  refine Eq.trans r ?_
  have e : Zfr (.L1 s Z (s.Stack.length : Int) (s.Stack.length : Int)) = some (.inl (.L2 s Z (s.Waiting.length : Int) ((0 : Nat) : Int))) := by
   show Zrv _ _ _ _ = _
   unfold Zrv
   rw [decide_eq_false (show ¬ (s.Stack.length : Int) < (s.Stack.length : Int) by omega), cond_false]
   rw [Zsl _ h.2.2.2.2.2.1.1]
   rfl
  exact (Zmm e).trans (l2 Z)
 have l0 : ∀ Z, runO Zfr (.L0 s Z (s.Players.length : Int) ((0 : Nat) : Int)) = some s := fun Z => by
  have hl : s.Players.length * 152 ≤ 140737488351232 := h.1.1
  have r := Zaep (step := Zfr) (st := fun (i : Nat) (_ : Unit) => .L0 s Z (s.Players.length : Int) (i : Int)) s.Players.length (fun _ => ()) (fun i hi => by
   have hx := List.getElem?_eq_getElem hi
   have hp := h.1.2 _ (List.getElem_mem hi)
   generalize s.Players[i] = x at hx hp
   obtain ⟨x0, x1, x2, x3, x4, x5, x6, x7, x8⟩ := x
   show Zru _ _ _ _ = _
   unfold Zru
   rw [decide_eq_true (show (i : Int) < (s.Players.length : Int) by omega), cond_true, Zcs hx, Option.bind_some]
   try dsimp only
   rw [Zar0 _ hp, Option.bind_some, Z0d hx, Option.bind_some, Zdk hi (by omega)])
  refine Eq.trans r ?_
  have e : Zfr (.L0 s Z (s.Players.length : Int) (s.Players.length : Int)) = some (.inl (.L1 s Z (s.Stack.length : Int) ((0 : Nat) : Int))) := by
   show Zru _ _ _ _ = _
   unfold Zru
   rw [decide_eq_false (show ¬ (s.Players.length : Int) < (s.Players.length : Int) by omega), cond_false]
   rw [Zt3 _ h.2.1.1, Option.bind_some, Zfi _ h.2.2.1.1, Option.bind_some, Zfi _ h.2.2.2.1.1, Option.bind_some, Zxm _ h.2.2.2.2.1.1]
   rfl
  exact (Zmm e).trans (l1 Z)
 unfold Z7h Zagr
 rw [Zt2 _ h.1.1, Option.bind_some, Option.bind_some, Zdh]
 exact l0 _
end Go.PW
