import Derived.Test.YtloamjgjcjandaaGreatQPc
set_option linter.all false
set_option maxRecDepth 100000
namespace Go.PW
abbrev Keep {S R : Type} (Inv : S → Prop) (post : R → Prop) : S ⊕ R → Prop
 | .inl s => Inv s
 | .inr r => post r
theorem pc {S R : Type} {step : S → Option (S ⊕ R)} {Inv : S → Prop} {post : R → Prop} (h : ∀ s y, Inv s → step s = some y → Keep Inv post y) : ∀ s r, Inv s → Zaw step s = some r → post r := by
 intro s r hi hr
 obtain ⟨n, hn⟩ := Zra.1 hr
 clear hr
 induction n generalizing s with
 | zero => cases hn
 | succ n ih =>
  simp only [Zmy] at hn
  cases hs : step s with
  | none => rw [hs] at hn; cases hn
  | some y =>
   have hy := h s y hi hs
   rw [hs] at hn
   cases y with
   | inl s' => exact ih s' hy hn
   | inr r' => cases hn; exact hy
theorem Zgz {S : Type} {o : Option Bool} {k : Option (S ⊕ Bool)} {y : S ⊕ Bool} {C : Prop} (h : (o.bind fun b => bif !b then some (.inr false) else k) = some y) (f : y = .inr false → C) (g : o = some true → k = some y → C) : C := by
 cases o with
 | none => cases h
 | some b =>
  cases b
  ·exact f (Option.some.inj h).symm
  ·exact g rfl h
theorem Zapw {S : Type} {o : Option Bool} {k : Option (S ⊕ Bool)} {y : S ⊕ Bool} {C : Prop} (h : (o.bind fun b => bif b then k else some (.inr false)) = some y) (f : y = .inr false → C) (g : o = some true → k = some y → C) : C := by
 cases o with
 | none => cases h
 | some b =>
  cases b
  ·exact f (Option.some.inj h).symm
  ·exact g rfl h
theorem Zg0 {S : Type} {c : Bool} {k : Option (S ⊕ Bool)} {y : S ⊕ Bool} {C : Prop} (h : (bif c then some (.inr false) else k) = some y) (f : y = .inr false → C) (g : c = false → k = some y → C) : C := by
 cases c
 ·exact g rfl h
 ·exact f (Option.some.inj h).symm
theorem Zamq (s : Za) (id : Int) (h : Zw s) : ∃ r : Int, Zs1 s id = some r ∧ ((r < 0 ∧ fO s id = none) ∨ ∃ o, 0 ≤ r ∧ idx? s.Objects r = some o ∧ fO s id = some o) := by
 have hl : s.Objects.length * 128 ≤ 140737488351232 := h.2.1.1
 have hf := Zyv (step := Zr1.step) s.Objects (fun i : Nat => .L0 id s (i : Int)) (fun o => o.Id == id) (fun i o => some (i : Int)) (fun i x hx hp => by
  have hi := (List.getElem?_eq_some_iff.1 hx).1
  refine Za7 ?_
  show (Zgl _ _ _).den = _
  dsimp only [Zgl, LT.den]
  rw [decide_eq_true (show (i : Int) < (s.Objects.length : Int) by omega), cond_true, Z8 hx, Option.bind_some, hp]; rfl) (fun i x hx hp => by
  have hi := (List.getElem?_eq_some_iff.1 hx).1
  show (Zgl _ _ _).den = _
  dsimp only [Zgl, LT.den]
  rw [decide_eq_true (show (i : Int) < (s.Objects.length : Int) by omega), cond_true, Z8 hx, Option.bind_some, hp, Zat hi (by omega)]; rfl)
 (unfold Zs1 LF.run; dsimp only [Zzm, LT.den])
 rw [Option.bind_some, Zbb]
 rcases hf with ⟨i, x, hx, hfd, hr⟩ | ⟨hfd, hr⟩
 ·exact ⟨_, hr, .inr ⟨x, by omega, Z8 hx, hfd⟩⟩
 ·have he : Zaw Zr1.step (.L0 id s (s.Objects.length : Int)) = some (-1) := Za7 (by
   show (Zgl _ _ _).den = _
   dsimp only [Zgl, LT.den]
   rw [decide_eq_false (by omega)]; rfl)
  exact ⟨_, hr.trans he, .inl ⟨by omega, hfd⟩⟩
theorem Zah2 (s : Za) (id : Int) (h : Zw s) : Zqc s id = some (match fO s id with | some o => (o, true) | none => (zO, false)) := by
 (unfold Zqc LF.run; dsimp only [Zwi, LT.den]; unfold Z1u LF.run; dsimp only [Z1t, LT.den])
 obtain ⟨r, e, h1 | ⟨o, h1, h2, h3⟩⟩ := Zamq s id h
 ·rw [e, Option.bind_some, decide_eq_true h1.1, h1.2]; rfl
 ·rw [e, Option.bind_some, decide_eq_false (show ¬ r < 0 by omega), cond_false, h2, h3]; rfl
theorem Zaso (l : List Int) (n r : Int) (h : Zpm l n = some r) (h0 : r ≠ 0) : n ∈ l := by
 (unfold Zpm LF.run at h; dsimp only [Zzn, LT.den] at h)
 rw [Option.bind_some, Zbb] at h
 refine pc (step := Zzo.step) (Inv := fun g => match g with | .L0 l' n' k i => l' = l ∧ n' = n ∧ (k = 0 ∨ n ∈ l)) (post := fun r => r = 0 ∨ n ∈ l) ?_ _ _ ⟨rfl, rfl, .inl rfl⟩ h |>.resolve_left h0
 rintro ⟨l', n', k, i⟩ y ⟨rfl, rfl, hI⟩ hy
 change (Zly _ _ _ _).den = _ at hy
 dsimp only [Zly, LT.den] at hy
 refine Zmz hy (fun hc hy => ?_) (fun hc hy => ?_)
 ·refine Zhd hy (fun x hx hy => ?_)
  refine Zmz hy (fun h1 hy => ?_) (fun h1 hy => ?_)
  ·cases hy
   refine ⟨rfl, rfl, .inr ?_⟩
   have e : x = n' := by simpa using h1
   rw [← e]
   exact List.mem_of_getElem? (Z1l hx)
  ·cases hy; exact ⟨rfl, rfl, hI⟩
 ·cases hy; exact hI
def PL (s : Za) (z ow : Int) (x : Int) : Prop := ∃ o, fO s x = some o ∧ o.Zone = z ∧ (0 ≤ ow → o.Owner = ow)
theorem Zaa4 {α : Type} {l : List α} {i : Int} {x : α} {P : α → Prop} (h0 : 0 ≤ i) (hx : idx? l i = some x) (hI : ∀ (j : Nat) y, (j : Int) < i → l[j]? = some y → P y) (hp : P x) (hb : l.length ≤ 4611686018427387904) : 0 ≤ IntKind.wrap .i64 (i + 1) ∧ ∀ (j : Nat) y, (j : Int) < IntKind.wrap .i64 (i + 1) → l[j]? = some y → P y := by
 have h1 := Z1l hx
 have h2 := (List.getElem?_eq_some_iff.1 h1).1
 rw [Zqn (by omega) (by omega)]
 refine ⟨by omega, fun j y hj hy => ?_⟩
 by_cases e : (j : Int) = i
 ·subst e
  rw [Int.toNat_natCast] at h1
  rw [h1] at hy; cases hy; exact hp
 ·exact hI j y (by omega) hy
abbrev iL (l : List Int) (s : Za) (z ow : Int) : Zj1 → Prop
 | .L0 l' z' ow' s' i => l' = l ∧ z' = z ∧ ow' = ow ∧ s' = s ∧ 0 ≤ i ∧ ∀ (j : Nat) x, (j : Int) < i → l[j]? = some x → PL s z ow x
theorem Zaok (s : Za) (l : List Int) (z ow : Int) (hs : Zw s) (hl : l.length * 8 ≤ 140737488351232) (h : Zg5 s l z ow = some true) : ∀ x, x ∈ l → PL s z ow x := by
 (unfold Zg5 LF.run at h; dsimp only [Z1v, LT.den] at h)
 rw [Option.bind_some, Zbb] at h
 refine pc (step := Z1w.step) (Inv := iL l s z ow) (post := fun r => r = true → ∀ x, x ∈ l → PL s z ow x) ?_ _ _ ⟨rfl, rfl, rfl, rfl, Int.le_refl 0, fun j x (hj : (j : Int) < 0) => by omega⟩ h rfl
 rintro ⟨l', z', ow', s', i⟩ y ⟨rfl, rfl, rfl, rfl, h0, hI⟩ hy
 change (Zn2 _ _ _ _ _).den = _ at hy
 dsimp only [Zn2, LT.den] at hy
 refine Zmz hy (fun hc hy => ?_) (fun hc hy => ?_)
 ·refine Zhd hy (fun x hx hy => ?_)
  refine Zhd hy (fun q hq hy => ?_)
  rw [Zah2 _ _ hs] at hq
  refine Zg0 hy (fun e => by subst e; intro hr; cases hr) (fun h1 hy => ?_)
  refine Zg0 hy (fun e => by subst e; intro hr; cases hr) (fun h2 hy => ?_)
  have hq2 : fO s' x = some q.1 := by
   cases hf : fO s' x with
   | none => rw [hf] at hq; cases hq; simp at h1
   | some o => rw [hf] at hq; cases hq; rfl
  have hz : q.1.Zone = z' := by
   rw [int_bne'] at h2; simpa using h2
  have fin : (0 ≤ ow' → q.1.Owner = ow') → ∀ {y : Zj1 ⊕ Bool}, (Option.bind (Zpm l' x) fun x11 => bif (x11 != 1) then some (.inr false) else some (.inl (.L0 l' z' ow' s' (IntKind.wrap .i64 (i + 1))))) = some y → Keep (iL l' s' z' ow') (fun r => r = true → ∀ x, x ∈ l' → PL s' z' ow' x) y := by
   intro ho y hy
   refine Zhd hy (fun t ht hy => ?_)
   refine Zg0 hy (fun e => by subst e; intro hr; cases hr) (fun h3 hy => ?_)
   cases hy
   exact ⟨rfl, rfl, rfl, rfl, Zaa4 h0 hx hI ⟨q.1, hq2, hz, ho⟩ (by omega)⟩
  refine Zmz hy (fun h3 hy => ?_) (fun h3 hy => ?_)
  ·refine Zg0 hy (fun e => by subst e; intro hr; cases hr) (fun h4 hy => ?_)
   exact fin (fun _ => by rw [int_bne'] at h4; simpa using h4) hy
  ·exact fin (fun h => absurd h (by simpa using h3)) hy
 ·cases hy
  intro _ x hx
  obtain ⟨j, hj⟩ := List.mem_iff_getElem?.1 hx
  have := (List.getElem?_eq_some_iff.1 hj).1
  have hc' := of_decide_eq_false hc
  exact hI j x (by omega) hj
theorem Zapx (s : Za) (hs : Zw s) (h : Zkz s = some true) : ∀ (i : Nat) x, s.Players[i]? = some x → Zg5 s x.Library 2 (i : Int) = some true ∧ Zg5 s x.Hand 1 (i : Int) = some true := by
 have hl : s.Players.length * 152 ≤ 140737488351232 := hs.1.1
 (unfold Zkz LF.run at h; dsimp only [Ztm, LT.den] at h)
 refine Zhd h (fun g hg hr => ?_)
 refine Zgz hg (fun e => by subst e; cases hr) (fun _ hg => ?_)
 cases hg
 rw [Zbb] at hr
 refine pc (step := Ztn.step) (Inv := fun g => match g with | .L0 s' i => s' = s ∧ 0 ≤ i ∧ ∀ (j : Nat) x, (j : Int) < i → s.Players[j]? = some x → Zg5 s x.Library 2 (j : Int) = some true ∧ Zg5 s x.Hand 1 (j : Int) = some true) (post := fun r => r = true → ∀ (i : Nat) x, s.Players[i]? = some x → Zg5 s x.Library 2 (i : Int) = some true ∧ Zg5 s x.Hand 1 (i : Int) = some true) ?_ _ _ ⟨rfl, Int.le_refl 0, fun j x (hj : (j : Int) < 0) => by omega⟩ hr rfl
 rintro ⟨s', i⟩ y ⟨rfl, h0, hI⟩ hy
 change (Zja _ _).den = _ at hy
 dsimp only [Zja, LT.den] at hy
 refine Zmz hy (fun hc hy => ?_) (fun hc hy => ?_)
 ·refine Zhd hy (fun x hx hy => ?_)
  refine Zgz hy (fun e => by subst e; intro hr; cases hr) (fun _ hy => ?_)
  refine Zgz hy (fun e => by subst e; intro hr; cases hr) (fun _ hy => ?_)
  refine Zgz hy (fun e => by subst e; intro hr; cases hr) (fun _ hy => ?_)
  refine Zgz hy (fun e => by subst e; intro hr; cases hr) (fun _ hy => ?_)
  refine Zgz hy (fun e => by subst e; intro hr; cases hr) (fun e1 hy => ?_)
  refine Zgz hy (fun e => by subst e; intro hr; cases hr) (fun e2 hy => ?_)
  refine Zgz hy (fun e => by subst e; intro hr; cases hr) (fun _ hy => ?_)
  cases hy
  have h1 := Z1l hx
  have h2 := (List.getElem?_eq_some_iff.1 h1).1
  show _ ∧ _ ∧ _
  rw [Zqn (by omega) (by omega)]
  refine ⟨rfl, by omega, fun j z hj hz => ?_⟩
  by_cases e : (j : Int) = i
  ·subst e
   rw [Int.toNat_natCast] at h1
   rw [h1] at hz; cases hz; exact ⟨e1, e2⟩
  ·exact hI j z (by omega) hz
 ·have hc' := of_decide_eq_false hc
  have done : ∀ (j : Nat) x, s'.Players[j]? = some x → Zg5 s' x.Library 2 (j : Int) = some true ∧ Zg5 s' x.Hand 1 (j : Int) = some true := fun j x hj => hI j x (by have := (List.getElem?_eq_some_iff.1 hj).1; omega) hj
  refine Zapw hy (fun e => by subst e; intro hr; cases hr) (fun _ hy => ?_)
  refine Zhd hy (fun b hb hy => ?_)
  cases hy
  exact fun _ => done
theorem Zapy (cs : List Zs) (s : Za) (hs : Zw s) (h : Zhg cs s = some true) : ∀ o, o ∈ s.Objects → Zj2 s o = some true := by
 have hl : s.Objects.length * 128 ≤ 140737488351232 := hs.2.1.1
 (unfold Zhg LF.run at h; dsimp only [Ztp, LT.den] at h)
 refine Zhd h (fun g hg hr => ?_)
 refine Zg0 hg (fun e => by subst e; cases hr) (fun _ hg => ?_)
 cases hg
 rw [Zbb] at hr
 refine pc (step := Ztq.step) (Inv := fun g => match g with | .L0 c' s' i => s' = s ∧ 0 ≤ i ∧ ∀ (j : Nat) o, (j : Int) < i → s.Objects[j]? = some o → Zj2 s o = some true) (post := fun r => r = true → ∀ o, o ∈ s.Objects → Zj2 s o = some true) ?_ _ _ ⟨rfl, Int.le_refl 0, fun j x (hj : (j : Int) < 0) => by omega⟩ hr rfl
 rintro ⟨c', s', i⟩ y ⟨rfl, h0, hI⟩ hy
 change (Zjb _ _ _).den = _ at hy
 dsimp only [Zjb, LT.den] at hy
 refine Zmz hy (fun hc hy => ?_) (fun hc hy => ?_)
 ·refine Zhd hy (fun x hx hy => ?_)
  refine Zgz hy (fun e => by subst e; intro hr; cases hr) (fun _ hy => ?_)
  refine Zg0 hy (fun e => by subst e; intro hr; cases hr) (fun _ hy => ?_)
  refine Zg0 hy (fun e => by subst e; intro hr; cases hr) (fun _ hy => ?_)
  refine Zmz hy (fun _ hy => ?_) (fun _ hy => ?_)
  ·refine Zhd hy (fun q _ hy => ?_)
   refine Zg0 hy (fun e => by subst e; intro hr; cases hr) (fun _ hy => ?_)
   refine Zgz hy (fun e => by subst e; intro hr; cases hr) (fun e1 hy => ?_)
   cases hy
   exact ⟨rfl, Zaa4 h0 hx hI e1 (by omega)⟩
  ·refine Zgz hy (fun e => by subst e; intro hr; cases hr) (fun e1 hy => ?_)
   cases hy
   exact ⟨rfl, Zaa4 h0 hx hI e1 (by omega)⟩
 ·cases hy
  intro _ x hx
  obtain ⟨j, hj⟩ := List.mem_iff_getElem?.1 hx
  have := (List.getElem?_eq_some_iff.1 hj).1
  have hc' := of_decide_eq_false hc
  exact hI j x (by omega) hj
abbrev iI (cs : List Zs) (s : Za) : Zo6 → Prop
 | .L0 c' s' i => c' = cs ∧ s' = s
theorem Zaus (cs : List Zs) (s : Za) (h : Zwu cs s = some true) : Zkz s = some true ∧ Zhg cs s = some true := by
 (unfold Zwu LF.run at h; dsimp only [Z93, LT.den] at h)
 refine Zhd h (fun g hg hr => ?_)
 refine Zgz hg (fun e => by subst e; cases hr) (fun _ hg => ?_)
 refine Zgz hg (fun e => by subst e; cases hr) (fun _ hg => ?_)
 refine Zgz hg (fun e => by subst e; cases hr) (fun _ hg => ?_)
 refine Zgz hg (fun e => by subst e; cases hr) (fun _ hg => ?_)
 refine Zg0 hg (fun e => by subst e; cases hr) (fun _ hg => ?_)
 refine Zgz hg (fun e => by subst e; cases hr) (fun e1 hg => ?_)
 refine Zgz hg (fun e => by subst e; cases hr) (fun _ hg => ?_)
 refine Zgz hg (fun e => by subst e; cases hr) (fun _ hg => ?_)
 refine Zgz hg (fun e => by subst e; cases hr) (fun _ hg => ?_)
 refine Zg0 hg (fun e => by subst e; cases hr) (fun _ hg => ?_)
 refine Zgz hg (fun e => by subst e; cases hr) (fun _ hg => ?_)
 cases hg
 rw [Zbb] at hr
 refine ⟨e1, pc (step := Z94.step) (Inv := iI cs s) (post := fun r => r = true → Zhg cs s = some true) ?_ _ _ ⟨rfl, rfl⟩ hr rfl⟩
 rintro ⟨c', s', i⟩ y ⟨rfl, rfl⟩ hy
 change (Zs2 _ _ _).den = _ at hy
 dsimp only [Zs2, LT.den] at hy
 have fin : ∀ {y : Zo6 ⊕ Bool}, (Option.bind (Zhg c' s') fun x16 => bif x16 then Option.bind (Zx9 s') fun x19 => some (.inr x19) else some (.inr false)) = some y → Keep (iI c' s') (fun r => r = true → Zhg c' s' = some true) y := by
  intro y hy
  refine Zapw hy (fun e => by subst e; intro hr; cases hr) (fun e1 hy => ?_)
  refine Zhd hy (fun b _ hy => ?_)
  cases hy
  exact fun _ => e1
 refine Zmz hy (fun hc hy => ?_) (fun hc hy => ?_)
 ·refine Zhd hy (fun x hx hy => ?_)
  refine Zgz hy (fun e => by subst e; intro hr; cases hr) (fun _ hy => ?_)
  cases hy
  exact ⟨rfl, rfl⟩
 ·refine Zmz hy (fun _ hy => ?_) (fun _ hy => ?_)
  ·refine Zgz hy (fun e => by subst e; intro hr; cases hr) (fun _ hy => ?_)
   refine Zmz hy (fun _ hy => ?_) (fun _ hy => ?_)
   ·exact Zg0 hy (fun e => by subst e; intro hr; cases hr) (fun _ hy => fin hy)
   ·exact fin hy
  ·refine Zmz hy (fun _ hy => ?_) (fun _ hy => ?_)
   ·exact Zg0 hy (fun e => by subst e; intro hr; cases hr) (fun _ hy => fin hy)
   ·exact fin hy
theorem Zaui {s : Za} {id : Int} {o : Zh} (h : fO s id = some o) : o ∈ s.Objects ∧ o.Id = id := by
 unfold fO at h
 exact ⟨List.mem_of_find?_eq_some h, by simpa using List.find?_some h⟩
theorem Zaut (cs : List Zs) (s : Za) (hs : Zw s) (h : Zwu cs s = some true) : VS s := by
 obtain ⟨h1, h2⟩ := Zaus cs s h
 have hp := Zapx s hs h1
 have ho := Zapy cs s hs h2
 refine ⟨fun i x hx id hm => ?_, fun i x hx id hm => ?_, fun id o hf hz => ?_⟩
 ·have hsx := hs.1.2 x (List.mem_of_getElem? hx)
  obtain ⟨o, e1, e2, _⟩ := Zaok s _ _ _ hs hsx.1.1 (hp i x hx).1 id hm
  exact ⟨o, e1, e2⟩
 ·have hsx := hs.1.2 x (List.mem_of_getElem? hx)
  obtain ⟨o, e1, e2, e3⟩ := Zaok s _ _ _ hs hsx.2.1.1 (hp i x hx).2 id hm
  exact ⟨o, e1, e2, e3 (by omega)⟩
 ·obtain ⟨hm, hid⟩ := Zaui hf
  have hpl := ho o hm
  (unfold Zj2 LF.run at hpl; dsimp only [Zwm, LT.den] at hpl)
  rw [hz, show ((1 : Int) == 5) = false from rfl, cond_false] at hpl
  refine Zhd hpl (fun g hg hr => ?_)
  refine Zhd hg (fun l hl hg => ?_)
  refine Zhd hg (fun n hn hg => ?_)
  cases hg
  have hn1 : n = 1 := by simpa [Zcz] using hr
  have hmem := Zaso l o.Id n hn (by omega)
  (unfold Zwl LF.run at hl; dsimp only [Z10, LT.den] at hl)
  rw [show ((1 : Int) == 0) = false from rfl, show ((1 : Int) == 4) = false from rfl, show ((1 : Int) == 1) = true from rfl] at hl
  simp only [cond_false, cond_true] at hl
  by_cases h0 : o.Owner < 0
  ·rw [decide_eq_true h0] at hl
   have : l = [] := by simpa [Zcz] using hl.symm
   subst this; cases hmem
  ·rw [decide_eq_false h0, cond_false] at hl
   by_cases h3 : o.Owner ≥ (s.Players.length : Int)
   ·rw [decide_eq_true h3] at hl
    have : l = [] := by simpa [Zcz] using hl.symm
    subst this; cases hmem
   ·rw [decide_eq_false h3, cond_false] at hl
    obtain ⟨x, hx, hxm, hxg⟩ := tI (show 0 ≤ o.Owner by omega) (show o.Owner < (s.Players.length : Int) by omega)
    rw [hx, Option.bind_some, Zh7 _ (hs.1.2 x hxm).2.1.1] at hl
    have : l = x.Hand := by simpa [Zcz] using hl.symm
    subst this
    exact ⟨x, by omega, hxg, hid ▸ hmem⟩
theorem Zauj (g : Z0) (hg : Zfy g) (h : Z0u g = some true) : VS g.State := by
 (unfold Z0u LF.run at h; dsimp only [Z42, LT.den] at h)
 refine Zhd h (fun x hx hr => ?_)
 refine Zapw hx (fun e => by subst e; cases hr) (fun e1 _ => ?_)
 clear hr hx h
 (unfold Zya LF.run at e1; dsimp only [Zzq, LT.den] at e1)
 refine Zhd e1 (fun x hx hr => ?_)
 refine Zg0 hx (fun e => by subst e; cases hr) (fun _ hx => ?_)
 refine Zg0 hx (fun e => by subst e; cases hr) (fun _ hx => ?_)
 refine Zg0 hx (fun e => by subst e; cases hr) (fun _ hx => ?_)
 refine Zg0 hx (fun e => by subst e; cases hr) (fun _ hx => ?_)
 refine Zg0 hx (fun e => by subst e; cases hr) (fun _ hx => ?_)
 refine Zg0 hx (fun e => by subst e; cases hr) (fun _ hx => ?_)
 refine Zg0 hx (fun e => by subst e; cases hr) (fun _ hx => ?_)
 refine Zg0 hx (fun e => by subst e; cases hr) (fun _ hx => ?_)
 refine Zg0 hx (fun e => by subst e; cases hr) (fun _ hx => ?_)
 cases hx
 rw [Zbb] at hr
 refine Zaut g.Cards g.State hg.2.1 (pc (step := Zzr.step) (Inv := fun q => match q with | .L0 c' s' i => c' = g.Cards ∧ s' = g.State) (post := fun r => r = true → Zwu g.Cards g.State = some true) ?_ _ _ ⟨rfl, rfl⟩ hr rfl)
 rintro ⟨c', s', i⟩ y ⟨rfl, rfl⟩ hy
 change (Zl2 _ _ _).den = _ at hy
 dsimp only [Zl2, LT.den] at hy
 refine Zmz hy (fun hc hy => ?_) (fun hc hy => ?_)
 ·refine Zhd hy (fun x hx hy => ?_)
  refine Zg0 hy (fun e => by subst e; intro hr; cases hr) (fun _ hy => ?_)
  cases hy
  exact ⟨rfl, rfl⟩
 ·refine Zhd hy (fun x hx hy => ?_)
  refine Zmz hy (fun _ hy => ?_) (fun _ hy => ?_)
  ·refine Zhd hy (fun b hb hy => ?_)
   cases hy
   intro e
   have e : b = true := e
   subst e; exact hb
  ·cases hy; intro hr; cases hr
end Go.PW
