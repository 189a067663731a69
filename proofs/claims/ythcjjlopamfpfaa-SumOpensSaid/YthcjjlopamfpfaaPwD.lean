/- The engine, part D: a plan that is right in the text's order is right in every order that a region may draw. -/
import Derived.Test.YthcjjlopamfpfaaPwC
namespace Go.PW
open Go.RowKit

def directB (ops : Array Oper) (i j : Nat) : Bool :=
  match ops[i]? with
  | some o => o.after.toList.any fun e => Region.binds .any e && Nat.beq e.on j
  | none => false
def reachB (ops : Array Oper) : Nat → Nat → Nat → Bool
  | 0, _, _ => false
  | f + 1, i, j =>
    match ops[i]? with
    | some o => o.after.toList.any fun e => Region.binds .any e && (Nat.beq e.on j || reachB ops f e.on j)
    | none => false
def readsB (o : Oper) (t : Nat) : Bool := o.op.operands.toList.any fun x => match x with | .tmp u => Nat.beq u t | _ => false
def dstIs (o : Oper) (t : Nat) : Bool := match o.dst with | some d => Nat.beq d t | none => false
def newsHas (xs : List (Option Stp)) (j l : Nat) : Bool :=
  match xs[j]? with
  | some x => (resN x).any fun p => Nat.beq p.1 l
  | none => false

def edgesBack (o : Oper) (i : Nat) : Bool := o.after.toList.all fun e => !Region.binds .any e || Nat.blt e.on i
def drawAt (ops : Array Oper) (xs : List (Option Stp)) (tm : List (Nat × PV)) (σ : List (Nat × Blk)) (m : Nat) (i : Nat) (o : Oper) (x : Option Stp) (d : Nat) : Bool :=
  edgesBack o i && !readsB o d &&
  ((List.range m).all fun j => Nat.beq j i || match ops[j]? with
    | some oj => !dstIs oj d && (!readsB oj d || (bif Nat.blt i j then directB ops j i else directB ops i j))
    | none => true) &&
  (match o.guard with | none => true | some (g, _) => Nat.blt g i && directB ops i g) &&
  ((match x with | some s => s.need | none => []).all fun l => (List.range m).all fun j => !newsHas xs j l || (Nat.blt j i && reachB ops ops.size i j)) &&
  ((resN x).all fun p => (tm.all fun q => !q.2.has p.1) && (σ.all fun q => !Nat.beq q.1 p.1 && !q.2.has p.1) &&
    (List.range m).all fun j => Nat.beq j i || (!newsHas xs j p.1 && match xs[j]? with
      | some y => ((!(resP y).has p.1 && (resN y).all fun q => !q.2.has p.1) || reachB ops ops.size j i)
      | none => true))
def drawOK (ops : Array Oper) (xs : List (Option Stp)) (tm : List (Nat × PV)) (σ : List (Nat × Blk)) : Bool :=
  ((List.range xs.length).all fun i => match ops[i]?, xs[i]? with
    | some o, some x => match o.dst with
      | some d => drawAt ops xs tm σ xs.length i o x d
      | none => false
    | _, _ => false) &&
  ((List.range ops.size).all fun j => Nat.blt j xs.length || (match ops[j]? with
    | some o => edgesBack o j && (List.range j).all fun i => directB ops j i
    | none => false))

theorem blt_iff (a b : Nat) : Nat.blt a b = true ↔ a < b := by rw [Nat.blt_eq]

section
variable {P : Program} {ops : Array Oper}

theorem directB_spec {i j : Nat} (h : directB ops i j = true) : ∃ o, ops[i]? = some o ∧ ∃ e ∈ o.after, Region.binds .any e = true ∧ e.on = j := by
  unfold directB at h
  split at h
  · rename_i o ho
    obtain ⟨e, he, hb⟩ := List.any_eq_true.1 h
    simp only [Bool.and_eq_true, beq_iff] at hb
    exact ⟨o, ho, e, by simpa using he, hb.1, hb.2⟩
  · cases h

/-- what has been carried out is closed under the edges -/
def Closed (ops : Array Oper) (L : Nat → Prop) : Prop := ∀ i o, L i → ops[i]? = some o → ∀ e ∈ o.after, Region.binds .any e = true → L e.on

theorem reachB_mem {L : Nat → Prop} (hL : Closed ops L) : ∀ (f i j : Nat), (∀ o, ops[i]? = some o → ∀ e ∈ o.after, Region.binds .any e = true → L e.on) → reachB ops f i j = true → L j
  | 0, _, _, _, h => by simp [reachB] at h
  | f + 1, i, j, hi, h => by
    simp only [reachB] at h
    split at h
    · rename_i o ho
      obtain ⟨e, he, hb⟩ := List.any_eq_true.1 h
      simp only [Bool.and_eq_true, Bool.or_eq_true, beq_iff] at hb
      have hon : L e.on := hi o ho e (by simpa using he) hb.1
      rcases hb.2 with h | h
      · subst h; exact hon
      · exact reachB_mem hL f e.on j (fun o' ho' e' he' hb' => hL e.on o' hon ho' e' he' hb') h
    · cases h

theorem readsB_mem {o : Oper} {t : Nat} (h : Operand.tmp t ∈ o.op.operands) : readsB o t = true := by
  unfold readsB
  exact List.any_eq_true.2 ⟨.tmp t, by simpa using h, by simp⟩

theorem get_append {α : Type} (a b : List (Nat × α)) (i : Nat) : get (a ++ b) i = match get a i with | some x => some x | none => get b i := by
  induction a with
  | nil => rfl
  | cons p a ih =>
    obtain ⟨j, x⟩ := p
    simp only [List.cons_append, get]
    cases Nat.beq j i with
    | true => rfl
    | false => simpa using ih
theorem get_mem {α : Type} : ∀ {l : List (Nat × α)} {i : Nat} {x : α}, get l i = some x → (i, x) ∈ l
  | (j, y) :: l, i, x, h => by
    simp only [get] at h
    cases hb : Nat.beq j i with
    | true =>
      simp only [hb, cond_true, Option.some.injEq] at h
      rw [(beq_iff _ _).1 hb, h]
      exact List.mem_cons_self ..
    | false => simp only [hb, cond_false] at h; exact List.mem_cons_of_mem _ (get_mem h)

theorem planTm_get : ∀ (l : List Oper) (xs : List (Option Stp)) (tm : List (Nat × PV)) (t : Nat) (q : PV), l.length = xs.length → get (planTm l xs tm) t = some q →
    (∃ j : Nat, ∃ o x, l[j]? = some o ∧ xs[j]? = some x ∧ o.dst = some t ∧ q = resP x) ∨ (get tm t = some q ∧ ∀ (j : Nat) o, l[j]? = some o → o.dst ≠ some t)
  | [], [], tm, t, q, _, h => .inr ⟨by simpa [planTm] using h, by simp⟩
  | [], _ :: _, _, _, _, hl, _ => by simp at hl
  | _ :: _, [], _, _, _, hl, _ => by simp at hl
  | o :: l, x :: xs, tm, t, q, hl, h => by
    simp only [planTm] at h
    rcases planTm_get l xs _ t q (by simpa using hl) h with ⟨j, oj, xj, h1, h2, h3, h4⟩ | ⟨h1, h2⟩
    · exact .inl ⟨j + 1, oj, xj, by simpa using h1, by simpa using h2, h3, h4⟩
    · cases hd : o.dst with
      | none =>
        simp only [hd] at h1
        refine .inr ⟨h1, fun j oj hj => ?_⟩
        cases j with
        | zero => simp at hj; subst hj; simp [hd]
        | succ j => exact h2 j oj (by simpa using hj)
      | some d =>
        simp only [hd] at h1
        by_cases hdt : d = t
        · subst hdt
          rw [get_put_same] at h1
          exact .inl ⟨0, o, x, rfl, rfl, hd, by simpa using h1.symm⟩
        · rw [get_put_other _ _ hdt] at h1
          refine .inr ⟨h1, fun j oj hj => ?_⟩
          cases j with
          | zero => simp at hj; subst hj; simp [hd, hdt]
          | succ j => exact h2 j oj (by simpa using hj)
theorem planσ_get : ∀ (xs : List (Option Stp)) (σ : List (Nat × Blk)) (l : Nat) (y : Blk), get (planσ xs σ) l = some y → (∃ j : Nat, ∃ x, xs[j]? = some x ∧ get (resN x) l = some y) ∨ get σ l = some y
  | [], σ, l, y, h => .inr h
  | x :: xs, σ, l, y, h => by
    simp only [planσ] at h
    rcases planσ_get xs _ l y h with ⟨j, z, h1, h2⟩ | h1
    · exact .inl ⟨j + 1, z, by simpa using h1, h2⟩
    · rw [get_append] at h1
      cases hx : get (resN x) l with
      | some u => rw [hx] at h1; exact .inl ⟨0, x, rfl, by simpa [hx] using h1⟩
      | none => rw [hx] at h1; exact .inr h1
theorem planσ_none : ∀ (xs : List (Option Stp)) (σ : List (Nat × Blk)) (l : Nat), (∀ (j : Nat) x, xs[j]? = some x → get (resN x) l = none) → get (planσ xs σ) l = get σ l
  | [], _, _, _ => rfl
  | x :: xs, σ, l, h => by
    simp only [planσ]
    rw [planσ_none xs _ l (fun j y hj => h (j + 1) y (by simpa using hj)), get_append, h 0 x rfl]

theorem PlanOK.at_ {n : Nat} : ∀ (l : List Oper) (xs : List (Option Stp)) (tm : List (Nat × PV)) (σ : List (Nat × Blk)), PlanOK P ops n l xs tm σ → ∀ (i : Nat) o x, l[i]? = some o → xs[i]? = some x →
    ∃ d, o.dst = some d ∧ d < n ∧ guardIs ops (planTm (l.take i) (xs.take i) tm) o = some x.isSome ∧
      (∀ s, x = some s → OpOK P o (planTm (l.take i) (xs.take i) tm) (planσ (xs.take i) σ) s.need s.p s.news)
  | [], _, _, _, _, i, o, x, h, _ => by simp at h
  | _ :: _, [], _, _, hp, _, _, _, _, _ => by simp [PlanOK] at hp
  | o :: l, x :: xs, tm, σ, hp, i, o', x', ho, hx => by
    simp only [PlanOK] at hp
    obtain ⟨d, hd, hdn, hg, hop, hrest⟩ := hp
    cases i with
    | zero =>
      simp at ho hx
      subst ho; subst hx
      exact ⟨d, hd, hdn, by simpa [planTm] using hg, by simpa [planTm, planσ] using hop⟩
    | succ i =>
      have := PlanOK.at_ l xs _ _ hrest i o' x' (by simpa using ho) (by simpa using hx)
      simpa [planTm, planσ, hd] using this
theorem PlanOK.length {n : Nat} : ∀ (l : List Oper) (xs : List (Option Stp)) (tm : List (Nat × PV)) (σ : List (Nat × Blk)), PlanOK P ops n l xs tm σ → l.length = xs.length
  | [], [], _, _, _ => rfl
  | [], _ :: _, _, _, h => by simp [PlanOK] at h
  | _ :: _, [], _, _, h => by simp [PlanOK] at h
  | o :: l, x :: xs, tm, σ, hp => by
    simp only [PlanOK] at hp
    obtain ⟨d, _, _, _, _, hrest⟩ := hp
    simpa using PlanOK.length l xs _ _ hrest

/-- The state behind the operations of L, whatever the order. -/
structure Mid (ops : Array Oper) (xs : List (Option Stp)) (tm0 : List (Nat × PV)) (σ0 : List (Nat × Blk)) (L : Nat → Prop) (tm : List (Nat × PV)) (σ : List (Nat × Blk)) : Prop where
  closed : Closed ops L
  T1 : ∀ (j : Nat) o x d, L j → ops[j]? = some o → xs[j]? = some x → o.dst = some d → get tm d = some (resP x)
  T2 : ∀ t q, (∀ (j : Nat) o, L j → ops[j]? = some o → o.dst ≠ some t) → get tm0 t = some q → get tm t = some q
  T3 : ∀ t q, get tm t = some q → get tm0 t = some q ∨ ∃ j : Nat, ∃ x, L j ∧ xs[j]? = some x ∧ q = resP x
  S1 : ∀ l y, get σ0 l = some y → get σ l = some y
  S2 : ∀ (j : Nat) x l y, L j → xs[j]? = some x → get (resN x) l = some y → get σ l = some y
  S3 : ∀ l y, get σ l = some y → get σ0 l = some y ∨ ∃ j : Nat, ∃ x, L j ∧ xs[j]? = some x ∧ get (resN x) l = some y

theorem newsHas_false {xs : List (Option Stp)} {j l : Nat} {x : Option Stp} (hx : xs[j]? = some x) (h : newsHas xs j l = false) : get (resN x) l = none := by
  cases hg : get (resN x) l with
  | none => rfl
  | some y =>
    have := get_mem hg
    simp only [newsHas, hx, List.any_eq_false] at h
    have := h _ this
    simp at this

/-- One operation more. -/
theorem Mid.next {xs : List (Option Stp)} {tm0 : List (Nat × PV)} {σ0 : List (Nat × Blk)} {L : Nat → Prop} {tm : List (Nat × PV)} {σ : List (Nat × Blk)} {n : Nat} {pre : List Oper} {suf : List Oper}
    (hops : ops.toList = pre ++ suf) (hplan : PlanOK P ops n pre xs tm0 σ0) (hs : drawOK ops xs tm0 σ0 = true) (hm : Mid ops xs tm0 σ0 L tm σ)
    {i : Nat} {o : Oper} {x : Option Stp} (ho : ops[i]? = some o) (hx : xs[i]? = some x) (hi : ¬ L i) (hLm : ∀ j, L j → j < xs.length) (hready : ∀ e ∈ o.after, Region.binds .any e = true → L e.on)
    {G : Frm} {a : Act} {w : World} (hr : Rel G ⟨n, tm, σ⟩ a w) {K : Act → World → Prop} {Q : Exit → Act → World → Prop}
    (hK : ∀ a' w' tm' σ', Mid ops xs tm0 σ0 (fun j => L j ∨ j = i) tm' σ' → Rel G ⟨n, tm', σ'⟩ a' w' → K a' w') : wpOp P ops Q i K a w := by
  have hlen := PlanOK.length _ _ _ _ hplan
  have him : i < xs.length := (List.getElem?_eq_some_iff.1 hx).1
  have hpre : ∀ (j : Nat), j < xs.length → ops[j]? = pre[j]? := fun j hj => by
    rw [← Array.getElem?_toList, hops, List.getElem?_append_left (by omega)]
  obtain ⟨d, hd, hdn, hgd, hop⟩ := hplan.at_ _ _ _ _ i o x (by rw [← hpre i him]; exact ho) hx
  simp only [drawOK, Bool.and_eq_true] at hs
  have hat := List.all_eq_true.1 hs.1 i (by simpa using him)
  simp only [ho, hx, hd, drawAt, Bool.and_eq_true] at hat
  obtain ⟨⟨⟨⟨⟨hback, hself⟩, hall⟩, hguard⟩, hneed⟩, hnews⟩ := hat
  have hall' : ∀ (j : Nat) oj, j ≠ i → j < xs.length → ops[j]? = some oj → oj.dst ≠ some d ∧ (readsB oj d = true → (i < j → directB ops j i = true) ∧ (¬ i < j → directB ops i j = true)) := by
    intro j oj hji hj hoj
    have := List.all_eq_true.1 hall j (by simpa using hj)
    simp only [Bool.or_eq_true, beq_iff, hji, false_or, hoj, Bool.and_eq_true, Bool.not_eq_true'] at this
    obtain ⟨h1, h2⟩ := this
    refine ⟨fun e => by simp [dstIs, e] at h1, fun hrd => ?_⟩
    rcases h2 with h2 | h2
    · rw [hrd] at h2; cases h2
    · refine ⟨fun hij => ?_, fun hij => ?_⟩
      · rw [(blt_iff i j).2 hij] at h2; simpa using h2
      · have : Nat.blt i j = false := by
          cases hb : Nat.blt i j with
          | false => rfl
          | true => exact absurd ((blt_iff _ _).1 hb) hij
        rw [this] at h2; simpa using h2
  have hdir : ∀ j, directB ops i j = true → L j := by
    intro j hj
    obtain ⟨o', ho', e, he, hb, hon⟩ := directB_spec hj
    rw [ho] at ho'; cases ho'
    rw [← hon]; exact hready e he hb
  have hreach : ∀ f j, reachB ops f i j = true → L j := fun f j h => reachB_mem hm.closed f i j (fun o' ho' e he hb => by rw [ho] at ho'; cases ho'; exact hready e he hb) h
  -- the operands
  have hopnd : ∀ t q, Operand.tmp t ∈ o.op.operands → get (planTm (pre.take i) (xs.take i) tm0) t = some q → get tm t = some q := by
    intro t q ht hq
    have hrd := readsB_mem ht
    rcases planTm_get _ _ _ t q (by simp; omega) hq with ⟨j, oj, xj, h1, h2, h3, h4⟩ | ⟨h1, h2⟩
    · have hji : j < i := by
        have := (List.getElem?_eq_some_iff.1 h1).1
        simp at this; omega
      have hoj : ops[j]? = some oj := by rw [hpre j (by omega)]; rw [List.getElem?_take, if_pos hji] at h1; exact h1
      have hxj : xs[j]? = some xj := by rw [List.getElem?_take, if_pos hji] at h2; exact h2
      -- op i reads what op j writes: an edge
      have hatj := List.all_eq_true.1 hs.1 j (by simp; omega)
      simp only [hoj, hxj, h3, drawAt, Bool.and_eq_true] at hatj
      have hallj := List.all_eq_true.1 hatj.1.1.1.2 i (by simpa using him)
      simp only [Bool.or_eq_true, beq_iff, (Nat.ne_of_lt hji).symm, false_or, ho, Bool.and_eq_true, Bool.not_eq_true', hrd, Bool.true_eq_false, (blt_iff j i).2 hji, cond_true] at hallj
      subst h4
      exact hm.T1 j oj xj t (hdir j hallj.2) hoj hxj h3
    · refine hm.T2 t q (fun j oj hLj hoj hdst => ?_) h1
      have hjm := hLm j hLj
      have hji : j ≠ i := fun e => hi (e ▸ hLj)
      rcases Nat.lt_or_ge j i with hlt | hge
      · exact h2 j oj (by rw [List.getElem?_take, if_pos hlt, ← hpre j hjm]; exact hoj) hdst
      · -- a later writer must wait for i
        have hxj : xs[j]? = some xs[j] := List.getElem?_eq_getElem hjm
        have hatj := List.all_eq_true.1 hs.1 j (by simpa using hjm)
        simp only [hoj, hxj, hdst, drawAt, Bool.and_eq_true] at hatj
        have hallj := List.all_eq_true.1 hatj.1.1.1.2 i (by simpa using him)
        have hnb : Nat.blt j i = false := by
          cases hb : Nat.blt j i with
          | false => rfl
          | true => have := (blt_iff _ _).1 hb; omega
        simp only [Bool.or_eq_true, beq_iff, hji.symm, false_or, ho, Bool.and_eq_true, Bool.not_eq_true', hrd, Bool.true_eq_false, hnb, cond_false] at hallj
        obtain ⟨o', ho', e, he, hb, hon⟩ := directB_spec hallj.2
        exact hi (hon ▸ hm.closed j o' hLj ho' e he hb)
  -- the guard
  have hgd' : guardIs ops tm o = some x.isSome := by
    unfold guardIs at hgd ⊢
    cases hgu : o.guard with
    | none => simpa [hgu] using hgd
    | some gw =>
      obtain ⟨g, want⟩ := gw
      simp only [hgu] at hgd hguard ⊢
      simp only [Bool.and_eq_true, blt_iff] at hguard
      have hLg := hdir g hguard.2
      cases hgo : (ops[g]?).bind (·.dst) with
      | none => simp [hgo] at hgd
      | some dg =>
        simp only [hgo] at hgd ⊢
        obtain ⟨og, hog, hdg⟩ := Option.bind_eq_some_iff.1 hgo
        have hgm := hLm g hLg
        have hxg : xs[g]? = some xs[g] := List.getElem?_eq_getElem hgm
        have htm := hm.T1 g og _ dg hLg hog hxg hdg
        cases hq : get (planTm (pre.take i) (xs.take i) tm0) dg with
        | none => simp [hq] at hgd
        | some q =>
          rcases planTm_get _ _ _ dg q (by simp; omega) hq with ⟨j, oj, xj, h1, h2, h3, h4⟩ | ⟨h1, h2⟩
          · have hji : j < i := by
              have := (List.getElem?_eq_some_iff.1 h1).1
              simp at this; omega
            have hoj : ops[j]? = some oj := by rw [hpre j (by omega)]; rw [List.getElem?_take, if_pos hji] at h1; exact h1
            have hxj : xs[j]? = some xj := by rw [List.getElem?_take, if_pos hji] at h2; exact h2
            have hjg : j = g := by
              apply Decidable.byContradiction
              intro hne
              have hatj := List.all_eq_true.1 hs.1 j (by simp; omega)
              simp only [hoj, hxj, h3, drawAt, Bool.and_eq_true] at hatj
              have hallj := List.all_eq_true.1 hatj.1.1.1.2 g (by simpa using hgm)
              simp only [Bool.or_eq_true, beq_iff, Ne.symm hne, false_or, hog, Bool.and_eq_true, Bool.not_eq_true'] at hallj
              simp [dstIs, hdg] at hallj
            subst hjg
            rw [hxj] at hxg; cases hxg
            rw [hq, h4] at hgd
            rw [htm]; exact hgd
          · exact absurd hdg (h2 g og (by rw [List.getElem?_take, if_pos hguard.1, ← hpre g hgm]; exact hog))
  have hclosed : Closed ops (fun j => L j ∨ j = i) := by
    rintro j oj (hj | hj) hoj e he hb
    · exact .inl (hm.closed j oj hj hoj e he hb)
    · subst hj; rw [ho] at hoj; cases hoj; exact .inl (hready e he hb)
  -- the new state fits
  have hmid : Mid ops xs tm0 σ0 (fun j => L j ∨ j = i) (put tm d (resP x)) (resN x ++ σ) := by
    have hfresh : ∀ l y, get (resN x) l = some y → (∀ (j : Nat) z, L j → xs[j]? = some z → get (resN z) l = none) ∧ get σ0 l = none := by
      intro l y hl
      have hmem := get_mem hl
      have hn := List.all_eq_true.1 hnews _ hmem
      simp only [Bool.and_eq_true] at hn
      refine ⟨fun j z hLj hz => ?_, ?_⟩
      · have hji : j ≠ i := fun e => hi (e ▸ hLj)
        have := List.all_eq_true.1 hn.2 j (by simpa using hLm j hLj)
        simp only [Bool.or_eq_true, beq_iff, hji, false_or, Bool.and_eq_true, Bool.not_eq_true'] at this
        exact newsHas_false hz this.1
      · cases hg : get σ0 l with
        | none => rfl
        | some u =>
          have := List.all_eq_true.1 hn.1.2 _ (get_mem hg)
          simp at this
    refine ⟨hclosed, ?_, ?_, ?_, ?_, ?_, ?_⟩
    · rintro j oj xj dj (hj | hj) hoj hxj hdj
      · have hji : j ≠ i := fun e => hi (e ▸ hj)
        have := (hall' j oj hji (hLm j hj) hoj).1
        have hne : d ≠ dj := fun e => this (e ▸ hdj)
        rw [get_put_other _ _ hne]
        exact hm.T1 j oj xj dj hj hoj hxj hdj
      · subst hj
        rw [ho] at hoj; cases hoj
        rw [hx] at hxj; cases hxj
        rw [hd] at hdj; cases hdj
        exact get_put_same ..
    · intro t q hnw hq
      have hne : d ≠ t := fun e => hnw i o (.inr rfl) ho (e ▸ hd)
      rw [get_put_other _ _ hne]
      exact hm.T2 t q (fun j oj hj hoj => hnw j oj (.inl hj) hoj) hq
    · intro t q hq
      by_cases hdt : d = t
      · subst hdt
        rw [get_put_same] at hq; cases hq
        exact .inr ⟨i, x, .inr rfl, hx, rfl⟩
      · rw [get_put_other _ _ hdt] at hq
        rcases hm.T3 t q hq with h | ⟨j, z, h1, h2, h3⟩
        · exact .inl h
        · exact .inr ⟨j, z, .inl h1, h2, h3⟩
    · intro l y hl
      rw [get_append]
      cases hg : get (resN x) l with
      | none => exact hm.S1 l y hl
      | some u => rw [(hfresh l u hg).2] at hl; cases hl
    · rintro j z l y (hj | hj) hz hl
      · rw [get_append]
        cases hg : get (resN x) l with
        | none => exact hm.S2 j z l y hj hz hl
        | some u => rw [(hfresh l u hg).1 j z hj hz] at hl; cases hl
      · subst hj
        rw [hx] at hz; cases hz
        rw [get_append, hl]
    · intro l y hl
      rw [get_append] at hl
      cases hg : get (resN x) l with
      | none =>
        rw [hg] at hl
        rcases hm.S3 l y hl with h | ⟨j, z, h1, h2, h3⟩
        · exact .inl h
        · exact .inr ⟨j, z, .inl h1, h2, h3⟩
      | some u => rw [hg] at hl; exact .inr ⟨i, x, .inr rfl, hx, by simpa [hg] using hl⟩
  obtain ⟨β, hrr⟩ := hr
  unfold wpOp
  simp only [ho]
  rw [guard_sound hrr hgd']
  cases x with
  | none =>
    simp only [Option.isSome_none, Bool.false_eq_true, if_false]
    refine hK _ _ _ _ hmid ⟨β, ?_⟩
    rw [hd]
    simpa [resP, resN] using hrr.put (p := .tup []) hdn (v := undef) (by simp only [VR, VRs]; exact ⟨[], rfl, rfl⟩)
  | some s =>
    simp only [Option.isSome_some, if_true]
    refine .inl (hop s rfl G n tm σ a w K Q hopnd ?_ ?_ ⟨β, hrr⟩ ?_)
    · intro l hl
      have hnl := List.all_eq_true.1 hneed l (by simpa using hl)
      by_cases hex : ∃ j, j < xs.length ∧ newsHas xs j l = true
      · obtain ⟨j, hj, hnj⟩ := hex
        have := List.all_eq_true.1 hnl j (by simpa using hj)
        simp only [Bool.or_eq_true, Bool.not_eq_true', hnj, Bool.true_eq_false, false_or, Bool.and_eq_true, blt_iff] at this
        have hLj := hreach _ j this.2
        have hxj : xs[j]? = some xs[j] := List.getElem?_eq_getElem hj
        have hne : get (resN xs[j]) l ≠ none := by
          simp only [newsHas, hxj] at hnj
          obtain ⟨p, hp, hpl⟩ := List.any_eq_true.1 hnj
          have hpl' : p.1 = l := (beq_iff _ _).1 hpl
          intro hnone
          have : ∀ (L : List (Nat × Blk)), p ∈ L → get L l ≠ none := by
            intro L
            induction L with
            | nil => simp
            | cons r L ih =>
              obtain ⟨u, v⟩ := r
              intro hm
              simp only [get]
              cases hb : Nat.beq u l with
              | true => simp
              | false =>
                simp only [cond_false]
                rcases List.mem_cons.1 hm with h | h
                · subst h; simp at hpl'; subst hpl'; simp at hb
                · exact ih h
          exact this _ hp hnone
        cases hgy : get (resN xs[j]) l with
        | none => exact absurd hgy hne
        | some y =>
          rw [hm.S2 j _ l y hLj hxj hgy]
          -- in the text's order it is the same block: the labels of the news are all different
          cases hgs : get (planσ (xs.take i) σ0) l with
          | none =>
            exfalso
            have key : ∀ (ys : List (Option Stp)) (s0 : List (Nat × Blk)) (j : Nat) (z : Option Stp) (u : Blk), ys[j]? = some z → get (resN z) l = some u → get (planσ ys s0) l ≠ none := by
              intro ys
              induction ys with
              | nil => intro s0 j z u hz; simp at hz
              | cons y0 ys ih =>
                intro s0 j z u hz hu
                cases j with
                | succ j => simpa [planσ] using ih _ j z u (by simpa using hz) hu
                | zero =>
                  simp at hz; subst hz
                  simp only [planσ]
                  have mono : ∀ (ys : List (Option Stp)) (s1 : List (Nat × Blk)), get s1 l ≠ none → get (planσ ys s1) l ≠ none := by
                    intro ys
                    induction ys with
                    | nil => intro s1 h; exact h
                    | cons y1 ys ih2 =>
                      intro s1 h
                      simp only [planσ]
                      refine ih2 _ ?_
                      rw [get_append]
                      cases get (resN y1) l with
                      | none => exact h
                      | some _ => simp
                  refine mono ys _ ?_
                  rw [get_append, hu]; simp
            exact key (xs.take i) σ0 j xs[j] y (by rw [List.getElem?_take, if_pos this.1]; exact hxj) hgy hgs
          | some y' =>
            rcases planσ_get _ _ l y' hgs with ⟨j', z, h1, h2⟩ | h1
            · have hj'i : j' < i := by
                have := (List.getElem?_eq_some_iff.1 h1).1
                simp at this; omega
              have hxj' : xs[j']? = some z := by rw [List.getElem?_take, if_pos hj'i] at h1; exact h1
              have hjj : j' = j := by
                apply Decidable.byContradiction
                intro hne'
                have hoj : ∃ oj, ops[j]? = some oj := ⟨ops[j]'(by have := hpre j hj; have : j < pre.length := by omega
                                                                  have : pre[j]? = some pre[j] := List.getElem?_eq_getElem this
                                                                  rw [← hpre j hj] at this
                                                                  exact (Array.getElem?_eq_some_iff.1 this).1), by simp⟩
                obtain ⟨oj, hoj⟩ := hoj
                have hatj := List.all_eq_true.1 hs.1 j (by simpa using hj)
                simp only [hoj, hxj] at hatj
                split at hatj
                · simp only [drawAt, Bool.and_eq_true] at hatj
                  have hn := List.all_eq_true.1 hatj.2 _ (get_mem hgy)
                  simp only [Bool.and_eq_true] at hn
                  have := List.all_eq_true.1 hn.2 j' (by simp; omega)
                  simp only [Bool.or_eq_true, beq_iff, hne', false_or, Bool.and_eq_true, Bool.not_eq_true'] at this
                  rw [newsHas_false hxj' this.1] at h2
                  cases h2
                · cases hatj
              subst hjj
              rw [hxj] at hxj'; cases hxj'
              rw [hgy] at h2; exact h2
            · exfalso
              have hoj : ∃ oj, ops[j]? = some oj := ⟨ops[j]'(by have : j < pre.length := by omega
                                                                have : pre[j]? = some pre[j] := List.getElem?_eq_getElem this
                                                                rw [← hpre j hj] at this
                                                                exact (Array.getElem?_eq_some_iff.1 this).1), by simp⟩
              obtain ⟨oj, hoj⟩ := hoj
              have hatj := List.all_eq_true.1 hs.1 j (by simpa using hj)
              simp only [hoj, hxj] at hatj
              split at hatj
              · simp only [drawAt, Bool.and_eq_true] at hatj
                have hn := List.all_eq_true.1 hatj.2 _ (get_mem hgy)
                simp only [Bool.and_eq_true] at hn
                have := List.all_eq_true.1 hn.1.2 _ (get_mem h1)
                simp at this
              · cases hatj
      · have hno : ∀ (j : Nat) z, xs[j]? = some z → get (resN z) l = none := fun j z hz => newsHas_false hz (by
          cases hb : newsHas xs j l with
          | false => rfl
          | true => exact absurd ⟨j, (List.getElem?_eq_some_iff.1 hz).1, hb⟩ hex)
        rw [planσ_none _ _ _ (fun j z hz => hno j z (by rw [List.getElem?_take] at hz; split at hz <;> simp_all))]
        cases hg : get σ0 l with
        | some y => exact hm.S1 l y hg
        | none =>
          cases hg' : get σ l with
          | none => rfl
          | some y =>
            rcases hm.S3 l y hg' with h | ⟨j, z, _, h2, h3⟩
            · rw [hg] at h; cases h
            · rw [hno j z h2] at h3; cases h3
    · intro l y hly
      have hn := List.all_eq_true.1 hnews (l, y) hly
      simp only [Bool.and_eq_true] at hn
      have hj' : ∀ (j : Nat) z, L j → xs[j]? = some z → (resP z).has l = false ∧ (∀ q ∈ resN z, q.2.has l = false) ∧ get (resN z) l = none := by
        intro j z hLj hz
        have hji : j ≠ i := fun e => hi (e ▸ hLj)
        have := List.all_eq_true.1 hn.2 j (by simpa using hLm j hLj)
        simp only [Bool.or_eq_true, beq_iff, hji, false_or, Bool.and_eq_true, Bool.not_eq_true', hz] at this
        rcases this.2 with h | h
        · refine ⟨h.1, fun q hq => ?_, newsHas_false hz this.1⟩
          simpa using List.all_eq_true.1 h.2 q hq
        · exact absurd (reachB_mem hm.closed _ j i (fun o' ho' e he hb => hm.closed j o' hLj ho' e he hb) h) hi
      refine ⟨fun t q hq => ?_, fun m z hz => ?_⟩
      · rcases hm.T3 t q hq with h | ⟨j, z, h1, h2, h3⟩
        · simpa using List.all_eq_true.1 hn.1.1 _ (get_mem h)
        · subst h3; exact (hj' j z h1 h2).1
      · rcases hm.S3 m z hz with h | ⟨j, u, h1, h2, h3⟩
        · have := List.all_eq_true.1 hn.1.2 _ (get_mem h)
          simp only [Bool.and_eq_true, Bool.not_eq_true'] at this
          exact ⟨fun e => by rw [e] at this; simp at this, this.2⟩
        · refine ⟨fun e => ?_, (hj' j u h1 h2).2.1 _ (get_mem h3)⟩
          subst e
          rw [(hj' j u h1 h2).2.2] at h3; cases h3
    · rintro v w' ⟨β', hβ', hv⟩
      refine hK _ _ _ _ hmid ⟨β', ?_⟩
      rw [hd]
      exact hβ'.put hdn hv
end
end Go.PW
