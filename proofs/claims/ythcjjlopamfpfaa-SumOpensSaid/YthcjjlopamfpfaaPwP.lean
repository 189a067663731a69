/- The engine, part P: steps in order, directives, regions. -/
import Derived.Test.YthcjjlopamfpfaaPwO
namespace Go.PW
open Go.RowKit

abbrev Es := Option (List Prop × List Orc × St)

/-! ### Directives -/
mutual
def frz1 (l : Nat) (es : List (List Tree)) : PV → List Prop × PV
  | .t x => ([], .t x)
  | .nils => ([], .nils)
  | .osl m n => bif Nat.beq m l then ([es.length = n], .t (.sl es)) else ([], .osl m n)
  | .bptr m o => ([], .bptr m o)
  | .rptr m n i o => ([], .rptr m n i o)
  | .vptr cs => ([], .vptr cs)
  | .agg cs => ((frz1s l es cs).1, .agg (frz1s l es cs).2)
  | .tup cs => ((frz1s l es cs).1, .tup (frz1s l es cs).2)
  | .fn f cs => ((frz1s l es cs).1, .fn f (frz1s l es cs).2)
def frz1s (l : Nat) (es : List (List Tree)) : List PV → List Prop × List PV
  | [] => ([], [])
  | c :: cs => ((frz1 l es c).1 ++ (frz1s l es cs).1, (frz1 l es c).2 :: (frz1s l es cs).2)
end
def frz1tm (l : Nat) (es : List (List Tree)) : List (Nat × PV) → List Prop × List (Nat × PV)
  | [] => ([], [])
  | (i, p) :: r => ((frz1 l es p).1 ++ (frz1tm l es r).1, (i, (frz1 l es p).2) :: (frz1tm l es r).2)
def frz1σ (l : Nat) (es : List (List Tree)) : List (Nat × Blk) → List Prop × List (Nat × Blk)
  | [] => ([], [])
  | (m, b) :: r =>
    bif Nat.beq m l then frz1σ l es r else
    match b with
    | .row k es' => ((frz1σ l es r).1, (m, .row k es') :: (frz1σ l es r).2)
    | .box cs => ((frz1s l es cs).1 ++ (frz1σ l es r).1, (m, .box (frz1s l es cs).2) :: (frz1σ l es r).2)

mutual
theorem frz1_ok {σ σ' : List (Nat × Blk)} {l k : Nat} {es : List (List Tree)} (hg : get σ l = some (.row k es)) (h0 : get σ' l = none) : ∀ (p : PV), conj (frz1 l es p).1 → Frz σ σ' p (frz1 l es p).2
  | .t _, _ => by simp [frz1, Frz]
  | .nils, _ => by simp [frz1, Frz]
  | .osl m n, h => by
    simp only [frz1] at h ⊢
    cases hb : Nat.beq m l with
    | true =>
      have : m = l := (beq_iff _ _).1 hb
      subst this
      simp only [hb, cond_true] at h ⊢
      simp only [Frz]
      exact .inr ⟨k, es, hg, h.1, h0, rfl⟩
    | false => simp only [cond_false, Frz]; exact .inl trivial
  | .bptr _ _, _ => by simp [frz1, Frz]
  | .rptr _ _ _ _, _ => by simp [frz1, Frz]
  | .vptr _, _ => by simp [frz1, Frz]
  | .agg cs, h => by simp only [frz1, Frz] at h ⊢; exact ⟨_, rfl, frz1s_ok hg h0 cs h⟩
  | .tup cs, h => by simp only [frz1, Frz] at h ⊢; exact ⟨_, rfl, frz1s_ok hg h0 cs h⟩
  | .fn _ cs, h => by simp only [frz1, Frz] at h ⊢; exact ⟨_, rfl, frz1s_ok hg h0 cs h⟩
theorem frz1s_ok {σ σ' : List (Nat × Blk)} {l k : Nat} {es : List (List Tree)} (hg : get σ l = some (.row k es)) (h0 : get σ' l = none) : ∀ (cs : List PV), conj (frz1s l es cs).1 → Frzs σ σ' cs (frz1s l es cs).2
  | [], _ => by simp [frz1s, Frzs]
  | c :: cs, h => by
    simp only [frz1s, Frzs] at h ⊢
    obtain ⟨h1, h2⟩ := conj_append.1 h
    exact ⟨_, _, rfl, frz1_ok hg h0 c h1, frz1s_ok hg h0 cs h2⟩
end
theorem frz1tm_ok {σ σ' : List (Nat × Blk)} {l k : Nat} {es : List (List Tree)} (hg : get σ l = some (.row k es)) (h0 : get σ' l = none) : ∀ (tm : List (Nat × PV)), conj (frz1tm l es tm).1 → ∀ i q, get (frz1tm l es tm).2 i = some q → ∃ p, get tm i = some p ∧ Frz σ σ' p q
  | [], _, i, q, hq => by cases hq
  | (j, p) :: r, h, i, q, hq => by
    simp only [frz1tm] at h hq
    obtain ⟨h1, h2⟩ := conj_append.1 h
    simp only [PW.get] at hq ⊢
    cases hb : Nat.beq j i with
    | true => simp only [hb, cond_true, Option.some.injEq] at hq ⊢; subst hq; exact ⟨p, rfl, frz1_ok hg h0 p h1⟩
    | false => simp only [hb, cond_false] at hq ⊢; exact frz1tm_ok hg h0 r h2 i q hq
theorem frz1σ_none {l : Nat} {es : List (List Tree)} : ∀ (σ : List (Nat × Blk)), get (frz1σ l es σ).2 l = none
  | [] => rfl
  | (m, b) :: r => by
    simp only [frz1σ]
    cases hb : Nat.beq m l with
    | true => simp only [cond_true]; exact frz1σ_none r
    | false =>
      simp only [cond_false]
      cases b <;> simp only [PW.get, hb, cond_false] <;> exact frz1σ_none r
theorem frz1σ_ok {σ0 σ0' : List (Nat × Blk)} {l k : Nat} {es : List (List Tree)} (hg : get σ0 l = some (.row k es)) (h0 : get σ0' l = none) : ∀ (σ : List (Nat × Blk)), conj (frz1σ l es σ).1 → ∀ m o', get (frz1σ l es σ).2 m = some o' → ∃ o, get σ m = some o ∧ FrzB σ0 σ0' o o'
  | [], _, m, o', ho => by cases ho
  | (j, b) :: r, h, m, o', ho => by
    simp only [frz1σ] at h ho
    cases hb : Nat.beq j l with
    | true =>
      simp only [hb, cond_true] at h ho
      have : j = l := (beq_iff _ _).1 hb
      subst this
      have hjm : j ≠ m := fun e => by subst e; rw [frz1σ_none] at ho; cases ho
      simp only [PW.get, beq_ff hjm, cond_false]
      exact frz1σ_ok hg h0 r h m o' ho
    | false =>
      simp only [hb, cond_false] at h ho
      cases b with
      | row k' es' =>
        simp only [PW.get] at ho ⊢
        cases hm : Nat.beq j m with
        | true => simp only [hm, cond_true, Option.some.injEq] at ho ⊢; subst ho; exact ⟨_, rfl, rfl⟩
        | false => simp only [hm, cond_false] at ho ⊢; exact frz1σ_ok hg h0 r h m o' ho
      | box cs =>
        obtain ⟨h1, h2⟩ := conj_append.1 h
        simp only [PW.get] at ho ⊢
        cases hm : Nat.beq j m with
        | true => simp only [hm, cond_true, Option.some.injEq] at ho ⊢; subst ho; exact ⟨_, rfl, _, rfl, frz1s_ok hg h0 cs h1⟩
        | false => simp only [hm, cond_false] at ho ⊢; exact frz1σ_ok hg h0 r h2 m o' ho

/-- known slots and blocks, in the order of a list -/
def pickL {α : Type} (l : List (Nat × α)) : List Nat → Option (List (Nat × α))
  | [] => some []
  | k :: ks =>
    match get l k, pickL l ks with
    | some x, some r => some ((k, x) :: r)
    | _, _ => none
theorem pickL_get {α : Type} {l : List (Nat × α)} : ∀ {ks : List Nat} {r : List (Nat × α)}, pickL l ks = some r → ∀ i x, get r i = some x → get l i = some x
  | [], r, h, i, x, hx => by simp only [pickL, Option.some.injEq] at h; subst h; cases hx
  | k :: ks, r, h, i, x, hx => by
    simp only [pickL] at h
    split at h
    · rename_i y r' hy hr
      cases h
      simp only [PW.get] at hx
      cases hb : Nat.beq k i with
      | true => have : k = i := (beq_iff _ _).1 hb; subst this; simp only [hb, cond_true, Option.some.injEq] at hx; subst hx; exact hy
      | false => simp only [hb, cond_false] at hx; exact pickL_get hr i x hx
    · cases h

def freshB (l : Nat) (tm : List (Nat × PV)) (σ : List (Nat × Blk)) : Bool := (tm.all fun q => !q.2.has l) && σ.all fun q => !Nat.beq q.1 l && !q.2.has l
theorem freshB_ok {l : Nat} {tm : List (Nat × PV)} {σ : List (Nat × Blk)} (h : freshB l tm σ = true) : (∀ i q, get tm i = some q → q.has l = false) ∧ (∀ m y, get σ m = some y → m ≠ l ∧ y.has l = false) := by
  simp only [freshB, Bool.and_eq_true, List.all_eq_true] at h
  refine ⟨fun i q hq => ?_, fun m y hy => ?_⟩
  · have := h.1 _ (get_mem hq); simpa using this
  · have := h.2 _ (get_mem hy)
    simp only [Bool.not_eq_true'] at this
    exact ⟨fun e => by subst e; have := this.1; simp at this, this.2⟩

/-- the length that slices of a row have, written anew -/
def relenTm (l n : Nat) : List (Nat × PV) → List Prop × List (Nat × PV)
  | [] => ([], [])
  | (i, p) :: r =>
    match p with
    | .osl m k => bif Nat.beq m l then ((k = n) :: (relenTm l n r).1, (i, .osl m n) :: (relenTm l n r).2) else ((relenTm l n r).1, (i, .osl m k) :: (relenTm l n r).2)
    | p => ((relenTm l n r).1, (i, p) :: (relenTm l n r).2)
theorem relenTm_eq {l n : Nat} : ∀ (tm : List (Nat × PV)), conj (relenTm l n tm).1 → (relenTm l n tm).2 = tm
  | [], _ => rfl
  | (i, p) :: r, h => by
    unfold relenTm at h ⊢
    split
    · rename_i m k
      cases hb : Nat.beq m l with
      | true =>
        simp only [hb, cond_true] at h ⊢
        obtain ⟨h1, h2⟩ := h
        subst h1
        rw [relenTm_eq r h2]
      | false =>
        simp only [hb, cond_false] at h ⊢
        rw [relenTm_eq r h]
    · rename_i p2 hp
      have : conj (relenTm l n r).1 := by
        split at h
        · exact absurd rfl (hp _ _)
        · exact h
      rw [relenTm_eq r this]

/-- directives ahead of an operation -/
def evDirs : List Orc → St → Es
  | .frz l :: xs, st =>
    match get st.σ l with
    | some (.row _ es) =>
      match evDirs xs ⟨st.n, (frz1tm l es st.tm).2, (frz1σ l es st.σ).2⟩ with
      | some (ps, xs', st') => some ((frz1tm l es st.tm).1 ++ ((frz1σ l es st.σ).1 ++ ps), xs', st')
      | none => none
    | _ => none
  | .relen l :: xs, st =>
    match get st.σ l with
    | some (.row _ es) =>
      match evDirs xs ⟨st.n, (relenTm l es.length st.tm).2, st.σ⟩ with
      | some (ps, xs', st') => some ((relenTm l es.length st.tm).1 ++ ps, xs', st')
      | none => none
    | _ => none
  | .pick ks ls :: xs, st =>
    match pickL st.tm ks, pickL st.σ ls with
    | some tm, some σ => evDirs xs ⟨st.n, tm, σ⟩
    | _, _ => none
  | .own t l k :: xs, st =>
    match get st.tm t with
    | some .nils => bif Nat.blt 0 k && Nat.ble 1000 l && freshB l st.tm st.σ && Nat.blt t st.n then evDirs xs ⟨st.n, put st.tm t (.osl l 0), (l, .row k []) :: st.σ⟩ else none
    | _ => none
  | xs, st => some ([], xs, st)

theorem Wk.pick {st : St} {tm : List (Nat × PV)} {σ : List (Nat × Blk)} {ks ls : List Nat} (h1 : pickL st.tm ks = some tm) (h2 : pickL st.σ ls = some σ) : Wk st ⟨st.n, tm, σ⟩ :=
  fun _ _ _ ⟨β, h⟩ => ⟨β, h.sub (Nat.le_refl _) (fun i p hp => ⟨pickL_get h1 i p hp, (h.tm i p (pickL_get h1 i p hp)).1⟩) (fun l o ho => pickL_get h2 l o ho)⟩
theorem Wk.own {st : St} {t l k : Nat} (hg : get st.tm t = some .nils) (hk : 0 < k) (hl : 1000 ≤ l) (hf : freshB l st.tm st.σ = true) : Wk st ⟨st.n, put st.tm t (.osl l 0), (l, .row k []) :: st.σ⟩ := by
  rintro G a w ⟨β, h⟩
  obtain ⟨f1, f2⟩ := freshB_ok hf
  have h' := relNil (n := st.n) (tm := st.tm) (σ := st.σ) h l k hk hl f1 f2
  refine ⟨clrβ β l, ?_⟩
  have hv := (h.tm t _ hg)
  simp only [VR] at hv
  obtain ⟨hlt, a0, hv⟩ := hv
  exact { defers := h'.defers, sz := h'.sz, base := h'.base, os := h'.os, tape := h'.tape, output := h'.output, old := h'.old, A := h'.A, inj := h'.inj, sep := h'.sep, fix := h'.fix, blk := h'.blk,
          tm := fun i p hp => by
            by_cases hi : t = i
            · subst hi
              rw [get_put_same] at hp
              cases hp
              refine ⟨hlt, ?_⟩
              simp only [VR]
              refine ⟨fun k' es' hes' => ?_, a0, 0, 0, hv⟩
              have hgs : get ((l, Blk.row k []) :: st.σ) l = some (.row k []) := by simp [PW.get]
              have : some (Blk.row k' es') = some (.row k []) := Eq.trans (Eq.symm hes') hgs
              cases this
              exact ⟨Nat.le_refl _, fun _ => ⟨a0, 0, hv, Nat.le_refl _, by simp [maxLen], .inl ⟨rfl, by simp [ctx, clrβ]⟩⟩⟩
            · rw [get_put_other _ _ hi] at hp
              exact h'.tm i p hp }

theorem evDirs_ok : ∀ (xs : List Orc) (st : St) {ps : List Prop} {xs' : List Orc} {st' : St}, evDirs xs st = some (ps, xs', st') → conj ps → Wk st st'
  | [], st, ps, xs', st', h, _ => by simp only [evDirs, Option.some.injEq, Prod.mk.injEq] at h; rw [h.2.2]; exact Wk.refl _
  | x :: xs, st, ps, xs', st', h, hc => by
    cases x
    case frz l =>
      simp only [evDirs] at h
      split at h
      · rename_i k es hg
        split at h
        · rename_i ps' xs2 st2 h2
          cases h
          obtain ⟨h3, h4⟩ := conj_append.1 hc
          obtain ⟨h4, h5⟩ := conj_append.1 h4
          have h0 := frz1σ_none (l := l) (es := es) st.σ
          exact (Wk.frz (frz1σ_ok hg h0 st.σ h4) (frz1tm_ok hg h0 st.tm h3)).trans (evDirs_ok xs _ h2 h5)
        · cases h
      · cases h
    case relen l =>
      simp only [evDirs] at h
      split at h
      · rename_i k es hg
        split at h
        · rename_i ps' xs2 st2 h2
          cases h
          obtain ⟨h3, h4⟩ := conj_append.1 hc
          have := evDirs_ok xs _ h2 h4
          rw [relenTm_eq _ h3] at this
          exact this
        · cases h
      · cases h
    case pick ks ls =>
      simp only [evDirs] at h
      split at h
      · rename_i tm σ h1 h2
        exact (Wk.pick h1 h2).trans (evDirs_ok xs _ h hc)
      · cases h
    case own t l k =>
      simp only [evDirs] at h
      split at h
      · rename_i hg
        obtain ⟨hb, h⟩ := condNone h
        simp only [Bool.and_eq_true, Nat.blt_eq, ble_iff] at hb
        exact (Wk.own hg hb.1.1.1 hb.1.1.2 hb.1.2).trans (evDirs_ok xs _ h hc)
      · cases h
    all_goals
      simp only [evDirs, Option.some.injEq, Prod.mk.injEq] at h
      rw [h.2.2]; exact Wk.refl _

/-- directives ahead of the operation that writes slot d (of region d, if it draws) -/
def evAt (d : Option Nat) (xs : List Orc) (st : St) : Es :=
  match xs, d with
  | .ahead i :: xs', some j => bif Nat.beq i j then evDirs xs' st else some ([], xs, st)
  | _, _ => some ([], xs, st)
theorem evAt_ok {d : Option Nat} {xs : List Orc} {st : St} {ps : List Prop} {xs' : List Orc} {st' : St} (h : evAt d xs st = some (ps, xs', st')) (hc : conj ps) : Wk st st' := by
  have triv : ∀ ys : List Orc, (some ([], ys, st) : Es) = some (ps, xs', st') → Wk st st' := fun ys h => by cases h; exact Wk.refl _
  unfold evAt at h
  split at h
  · rename_i i xs2 j
    cases hb : Nat.beq i j with
    | true => simp only [hb, cond_true] at h; exact evDirs_ok _ _ h hc
    | false => simp only [hb, cond_false] at h; exact triv _ h
  · exact triv _ h

/-! ### Operations that write -/
def evUp (T : TS) (o : Oper) (st : St) (xs : List Orc) : Es :=
  match o.op with
  | .store t x y =>
    match o.dst, get T t, opnd st.tm x, opnd st.tm y with
    | none, some i, some (.bptr l q), some p =>
      match get st.σ l with
      | some (.box cs) => bif Nat.beq (cellsOfPV p).length i.size && (cellsOfPV p).all PV.one && Nat.ble (q + i.size) cs.length then some ([], xs, ⟨st.n, st.tm, put st.σ l (.box (splice cs q (cellsOfPV p)))⟩) else none
      | _ => none
    | none, some i, some (.rptr l m j q), some p =>
      match get st.σ l, xs, toTs (cellsOfPV p) with
      | some (.row k es), .cs e :: .es es' :: xs, some ts =>
        bif Nat.beq ts.length i.size && Nat.ble (q + i.size) k then some ([es.length = m, es[j]? = some e, es.set j (splice e q ts) = es'], xs, ⟨st.n, st.tm, put st.σ l (.row k es')⟩) else none
      | _, _, _ => none
    | _, _, _, _ => none
  | .call c =>
    match c.callee, opnds st.tm c.args.toList, c.argTypes.toList, xs, o.dst with
    | .builtin .append, some [.osl l m, y], [t, tx], .es es :: xs, some d =>
      match elemOf T t, elemOf T tx, srcOf st.σ y, get st.σ l with
      | some (_, ⟨_, k, bytes, some z, _, _⟩), some _, some (cs, ys, _), some (.row k' es0) =>
        bif Nat.blt 0 k && Nat.beq z.length k && Nat.beq k k' && Nat.blt d st.n then
          some (cs ++ [es0.length = m, es0 ++ ys = es, ∀ el, el ∈ ys → el.length = k, es.length ≤ 9223372036854775807, es.length * bytes ≤ 140737488355328], xs, ⟨st.n, put st.tm d (.osl l es.length), put st.σ l (.row k es)⟩)
        else none
      | _, _, _, _ => none
    | .builtin .copy, some [.osl l m, y], [t, tx], .num q :: .es es :: xs, some d =>
      match elemOf T t, elemOf T tx, srcOf st.σ y, get st.σ l with
      | some (_, ⟨_, k, bytes, some z, _, _⟩), some _, some (cs, ys, _), some (.row k' es0) =>
        bif Nat.blt 0 k && Nat.beq z.length k && Nat.beq k k' && Nat.blt d st.n then
          some (cs ++ [es0.length = m, (ys.length : Int) = q, ys.length ≤ m, ∀ el, el ∈ ys → el.length = k, ys ++ es0.drop ys.length = es], xs, ⟨st.n, put st.tm d (.t (.int .i64 q)), put st.σ l (.row k es)⟩)
        else none
      | _, _, _, _ => none
    | _, _, _, _, _ => none
  | .convert s t x =>
    match elemOf T t, opnd st.tm x, o.dst with
    | some (_, ⟨_, _, _, _, .int .u8, _⟩), some (.osl l m), some d =>
      match get st.σ l with
      | some (.row _ es) => bif Nat.beq s t && Nat.blt d st.n then some ([es.length = m, es ≠ []], xs, ⟨st.n, put st.tm d (.osl l m), st.σ⟩) else none
      | _ => none
    | _, _, _ => none
  | _ => none

section
variable {P : Program} {T : TS} {o : Oper} {xs xs' : List Orc} {ps : List Prop}

theorem evUp_ok (hT : TOK P T) {st st' : St} (h : evUp T o st xs = some (ps, xs', st')) (hc : conj ps) : OpUp P o st st' := by
  obtain ⟨n, tm, σ⟩ := st
  unfold evUp at h
  split at h
  · rename_i t x y ho
    split at h
    · rename_i i l q p hd hi hx hy
      split at h
      · rename_i cs hg
        have hbh := condNone h; clear h; obtain ⟨hb, h⟩ := hbh
        simp only [Bool.and_eq_true, beq_iff, ble_iff] at hb
        cases h
        exact up_storeB ho hd (hT _ _ hi).ty hx hy hg hb.1.1 hb.1.2 hb.2
      · cases h
    · rename_i i l m j q p hd hi hx hy
      split at h
      · rename_i k es e es' xs2 ts hg hts
        have hbh := condNone h; clear h; obtain ⟨hb, h⟩ := hbh
        simp only [Bool.and_eq_true, beq_iff, ble_iff] at hb
        cases h
        obtain ⟨h1, h2, h3, _⟩ := hc
        subst h3
        exact up_storeR ho hd (hT _ _ hi).ty hx hy hg h1 h2 hts hb.1 hb.2
      · cases h
    · cases h
  · rename_i c ho
    split at h
    · rename_i l m y t tx es xs2 d hce hps hat hd
      obtain ⟨x, y', hax, hx, hy⟩ := opnds_two hps
      have hceq := call_eq hce hax hat
      rw [hceq] at ho
      split at h
      · rename_i e k bytes z kk fl ex cs ys ls k' es0 he hex hsrc hg
        have hbh := condNone h; clear h; obtain ⟨hb, h⟩ := hbh
        simp only [Bool.and_eq_true, beq_iff, Nat.blt_eq] at hb
        obtain ⟨⟨⟨hb1, hb2⟩, hb3⟩, hb4⟩ := hb
        subst hb3
        have hE := elemF (z := z) hT he rfl (by rw [Nat.blt_eq]; exact hb1) ((beq_iff _ _).2 hb2)
        cases h
        obtain ⟨hc1, hc2⟩ := conj_append.1 hc
        obtain ⟨h1, h2, h3, h4, h5, _⟩ := hc2
        obtain ⟨hs, _⟩ := srcOf_ok hsrc hc1
        obtain ⟨i1, hi1, hk1, _⟩ := elemOf_inv hex
        have hu1 := (hT _ _ hi1).k
        rw [hk1] at hu1
        subst h2
        have hl : (es0 ++ ys).length = m + ys.length := by rw [List.length_append, h1]
        rw [hl] at h4 h5 ⊢
        exact up_append ho hd hb4 hE ⟨_, hu1⟩ hx hg h1 hy hs h3 h4 h5
      · cases h
    · rename_i l m y t tx q es xs2 d hce hps hat hd
      obtain ⟨x, y', hax, hx, hy⟩ := opnds_two hps
      have hceq := call_eq hce hax hat
      rw [hceq] at ho
      split at h
      · rename_i e k bytes z kk fl ex cs ys ls k' es0 he hex hsrc hg
        have hbh := condNone h; clear h; obtain ⟨hb, h⟩ := hbh
        simp only [Bool.and_eq_true, beq_iff, Nat.blt_eq] at hb
        obtain ⟨⟨⟨hb1, hb2⟩, hb3⟩, hb4⟩ := hb
        subst hb3
        have hE := elemF (z := z) hT he rfl (by rw [Nat.blt_eq]; exact hb1) ((beq_iff _ _).2 hb2)
        cases h
        obtain ⟨hc1, hc2⟩ := conj_append.1 hc
        obtain ⟨h1, h2, h3, h4, h5, _⟩ := hc2
        obtain ⟨hs, _⟩ := srcOf_ok hsrc hc1
        obtain ⟨i1, hi1, hk1, _⟩ := elemOf_inv hex
        have hu1 := (hT _ _ hi1).k
        rw [hk1] at hu1
        subst h5
        rw [← h2]
        exact up_copy ho hd hb4 hE ⟨_, hu1⟩ hx hg h1 hy hs h4 h3
      · cases h
    · cases h
  · rename_i s t x ho
    split at h
    · rename_i e agg sz by_ z fl l m d he hx hd
      split at h
      · rename_i k es hg
        have hbh := condNone h; clear h; obtain ⟨hb, h⟩ := hbh
        simp only [Bool.and_eq_true, beq_iff, Nat.blt_eq] at hb
        obtain ⟨rfl, hb2⟩ := hb
        cases h
        obtain ⟨i, hi, hk, hj⟩ := elemOf_inv he
        have hu := (hT _ _ hi).k
        rw [hk] at hu
        have hu2 : P.underlying e = some (.int .u8) := (hT _ _ hj).k
        exact up_convB ho hd hb2 hu hu2 hx hg hc.1 hc.2.1
      · cases h
    · cases h
  · cases h

/-! ### Guards and steps -/
def evGuard (ops : Array Oper) (tm : List (Nat × PV)) (o : Oper) (xs : List Orc) : Option (List Prop × List Orc × Bool) :=
  match o.guard with
  | none => some ([], xs, true)
  | some (g, want) =>
    match (ops[g]?).bind (·.dst) with
    | none => none
    | some d =>
      match get tm d, xs with
      | some (.t (.bool e)), .br b :: xs => some ([e = b], xs, b == want)
      | some (.tup []), xs => some ([], xs, false)
      | _, _ => none
theorem evGuard_ok {ops : Array Oper} {tm : List (Nat × PV)} {r : Bool} (h : evGuard ops tm o xs = some (ps, xs', r)) (hc : conj ps) : guardIs ops tm o = some r := by
  unfold evGuard at h
  unfold guardIs
  split at h
  · rename_i hg; cases h; rw [hg]
  · rename_i g want hg
    rw [hg]
    simp only
    split at h
    · cases h
    · rename_i d hd
      simp only [hd]
      split at h
      · rename_i e b xs2 he
        cases h
        have := hc.1
        subst this
        simp [he]
      · rename_i he; cases h; simp [he]
      · cases h

def freshNews (tm : List (Nat × PV)) (σ : List (Nat × Blk)) : List (Nat × Blk) → Bool
  | [] => true
  | (l, _) :: r => freshB l tm σ && freshNews tm σ r
theorem freshNews_ok {tm : List (Nat × PV)} {σ : List (Nat × Blk)} : ∀ {news : List (Nat × Blk)}, freshNews tm σ news = true → ∀ l x, (l, x) ∈ news → (∀ i q, get tm i = some q → q.has l = false) ∧ (∀ m y, get σ m = some y → m ≠ l ∧ y.has l = false)
  | [], _, l, x, hm => by cases hm
  | (m, y) :: r, h, l, x, hm => by
    simp only [freshNews, Bool.and_eq_true] at h
    rcases List.mem_cons.1 hm with hm | hm
    · cases hm; exact freshB_ok h.1
    · exact freshNews_ok h.2 l x hm

def evStep (P : Program) (T : TS) (ops : Array Oper) (o : Oper) (xs : List Orc) (st : St) : Es :=
  match evAt o.dst xs st with
  | some (ps0, xs0, st0) =>
    match evGuard ops st0.tm o xs0 with
    | some (ps1, xs1, true) =>
      match evOp P T o st0.tm st0.σ xs1 with
      | some (ps2, xs2, s) =>
        match o.dst with
        | some d => bif Nat.blt d st0.n && freshNews st0.tm st0.σ s.news then some (ps0 ++ (ps1 ++ ps2), xs2, ⟨st0.n, put st0.tm d s.p, s.news ++ st0.σ⟩) else none
        | none => bif freshNews st0.tm st0.σ s.news then some (ps0 ++ (ps1 ++ ps2), xs2, ⟨st0.n, st0.tm, s.news ++ st0.σ⟩) else none
      | none =>
        match evUp T o st0 xs1 with
        | some (ps2, xs2, st2) => some (ps0 ++ (ps1 ++ ps2), xs2, st2)
        | none => none
    | some (ps1, xs1, false) =>
      match o.dst with
      | some d => bif Nat.blt d st0.n then some (ps0 ++ ps1, xs1, ⟨st0.n, put st0.tm d (.tup []), st0.σ⟩) else none
      | none => some (ps0 ++ ps1, xs1, st0)
    | none => none
  | none => none

theorem evStep_ok (hT : TOK P T) {ops : Array Oper} {R : St → Prop} {l : List Oper} {st st' : St} (h : evStep P T ops o xs st = some (ps, xs', st')) (hc : conj ps) (hk : PWops P ops R l st') : PWops P ops R (o :: l) st := by
  unfold evStep at h
  split at h
  · rename_i ps0 xs0 st0 h0
    suffices hs : conj ps0 ∧ PWops P ops R (o :: l) st0 from PWops.weaken (evAt_ok h0 hs.1) hs.2
    split at h
    · rename_i ps1 xs1 h1
      split at h
      · rename_i ps2 xs2 s h2
        split at h
        · rename_i d hd
          have hbh := condNone h; clear h; obtain ⟨hb, h⟩ := hbh
          simp only [Bool.and_eq_true, Nat.blt_eq] at hb
          cases h
          obtain ⟨c0, c1⟩ := conj_append.1 hc
          obtain ⟨c1, c2⟩ := conj_append.1 c1
          refine ⟨c0, PWops.step (evGuard_ok h1 c1) ?_ hk⟩
          intro G a w K Q hr hK
          refine evOp_ok hT h2 c2 G st0.n st0.tm st0.σ a w K Q (fun _ _ _ h => h) (fun _ _ => rfl) (freshNews_ok hb.2) hr ?_
          rintro v w' ⟨β, hβ, hv⟩
          exact hK _ _ ⟨β, by rw [hd]; exact hβ.put hb.1 hv⟩
        · rename_i hd
          have hbh := condNone h; clear h; obtain ⟨hb, h⟩ := hbh
          cases h
          obtain ⟨c0, c1⟩ := conj_append.1 hc
          obtain ⟨c1, c2⟩ := conj_append.1 c1
          refine ⟨c0, PWops.step (evGuard_ok h1 c1) ?_ hk⟩
          intro G a w K Q hr hK
          refine evOp_ok hT h2 c2 G st0.n st0.tm st0.σ a w K Q (fun _ _ _ h => h) (fun _ _ => rfl) (freshNews_ok hb) hr ?_
          rintro v w' ⟨β, hβ, hv⟩
          exact hK _ _ ⟨β, by rw [hd]; exact hβ⟩
      · split at h
        · rename_i ps2 xs2 st2 h2
          cases h
          obtain ⟨c0, c1⟩ := conj_append.1 hc
          obtain ⟨c1, c2⟩ := conj_append.1 c1
          exact ⟨c0, PWops.step (evGuard_ok h1 c1) (evUp_ok hT h2 c2) hk⟩
        · cases h
    · rename_i ps1 xs1 h1
      split at h
      · rename_i d hd
        have hbh := condNone h; clear h; obtain ⟨hb, h⟩ := hbh
        simp only [Nat.blt_eq] at hb
        cases h
        obtain ⟨c0, c1⟩ := conj_append.1 hc
        exact ⟨c0, PWops.skip hd hb (evGuard_ok h1 c1) hk⟩
      · rename_i hd
        cases h
        obtain ⟨c0, c1⟩ := conj_append.1 hc
        exact ⟨c0, PWops.skipNone hd (evGuard_ok h1 c1) hk⟩
    · cases h
  · cases h

def evOps (P : Program) (T : TS) (ops : Array Oper) : List Oper → List Orc → St → Es
  | [], xs, st => some ([], xs, st)
  | o :: l, xs, st =>
    match evStep P T ops o xs st with
    | some (ps, xs1, st1) =>
      match evOps P T ops l xs1 st1 with
      | some (qs, xs2, st2) => some (ps ++ qs, xs2, st2)
      | none => none
    | none => none
theorem evOps_ok (hT : TOK P T) {ops : Array Oper} {R : St → Prop} : ∀ (l : List Oper) {xs xs' : List Orc} {st st' : St} {ps : List Prop}, evOps P T ops l xs st = some (ps, xs', st') → conj ps → R st' → PWops P ops R l st
  | [], xs, xs', st, st', ps, h, _, hr => by
    simp only [evOps, Option.some.injEq, Prod.mk.injEq] at h
    rw [← h.2.2] at hr
    exact PWops.nil hr
  | o :: l, xs, xs', st, st', ps, h, hc, hr => by
    simp only [evOps] at h
    split at h
    · rename_i ps1 xs1 st1 h1
      split at h
      · rename_i qs xs2 st2 h2
        cases h
        obtain ⟨c1, c2⟩ := conj_append.1 hc
        exact evStep_ok hT h1 c1 (evOps_ok hT l h2 c2 hr)
      · cases h
    · cases h

/-! ### Regions that draw their order -/
structure PlanR where
  ps : List Prop
  xs : List Orc
  plan : List (Option Stp)
  rest : List Oper
  tm : List (Nat × PV)
  σ : List (Nat × Blk)
def evPlan (P : Program) (T : TS) (ops : Array Oper) (n : Nat) : List Oper → List Orc → List (Nat × PV) → List (Nat × Blk) → PlanR
  | [], xs, tm, σ => ⟨[], xs, [], [], tm, σ⟩
  | o :: l, xs, tm, σ =>
    match evGuard ops tm o xs, o.dst with
    | some (ps1, xs1, true), some d =>
      match evOp P T o tm σ xs1 with
      | some (ps2, xs2, s) =>
        bif Nat.blt d n then
          match evPlan P T ops n l xs2 (put tm d s.p) (s.news ++ σ) with
          | ⟨ps, xs, plan, rest, tm, σ⟩ => ⟨ps1 ++ (ps2 ++ ps), xs, some s :: plan, rest, tm, σ⟩
        else ⟨[], xs, [], o :: l, tm, σ⟩
      | none => ⟨[], xs, [], o :: l, tm, σ⟩
    | some (ps1, xs1, false), some d =>
      bif Nat.blt d n then
        match evPlan P T ops n l xs1 (put tm d (.tup [])) σ with
        | ⟨ps, xs, plan, rest, tm, σ⟩ => ⟨ps1 ++ ps, xs, none :: plan, rest, tm, σ⟩
      else ⟨[], xs, [], o :: l, tm, σ⟩
    | _, _ => ⟨[], xs, [], o :: l, tm, σ⟩
theorem evPlan_ok (hT : TOK P T) {ops : Array Oper} {n : Nat} : ∀ (l : List Oper) (xs : List Orc) (tm : List (Nat × PV)) (σ : List (Nat × Blk)), conj (evPlan P T ops n l xs tm σ).ps →
    ∃ pre, l = pre ++ (evPlan P T ops n l xs tm σ).rest ∧ PlanOK P ops n pre (evPlan P T ops n l xs tm σ).plan tm σ ∧
      planTm pre (evPlan P T ops n l xs tm σ).plan tm = (evPlan P T ops n l xs tm σ).tm ∧ planσ (evPlan P T ops n l xs tm σ).plan σ = (evPlan P T ops n l xs tm σ).σ
  | [], xs, tm, σ, _ => ⟨[], rfl, trivial, rfl, rfl⟩
  | o :: l, xs, tm, σ, hc => by
    have triv : ∀ r : PlanR, r = ⟨[], xs, [], o :: l, tm, σ⟩ → ∃ pre, o :: l = pre ++ r.rest ∧ PlanOK P ops n pre r.plan tm σ ∧ planTm pre r.plan tm = r.tm ∧ planσ r.plan σ = r.σ := by
      rintro r rfl
      exact ⟨[], rfl, trivial, rfl, rfl⟩
    rw [evPlan] at hc ⊢
    split at hc
    · rename_i ps1 xs1 d hg hd
      split at hc
      · rename_i ps2 xs2 s h2
        cases hb : Nat.blt d n with
        | true =>
          simp only [hb, cond_true] at hc ⊢
          obtain ⟨c1, c2⟩ := conj_append.1 hc
          obtain ⟨c2, c3⟩ := conj_append.1 c2
          obtain ⟨pre, h1, h3, h4, h5⟩ := evPlan_ok hT l xs2 (put tm d s.p) (s.news ++ σ) c3
          rw [Nat.blt_eq] at hb
          refine ⟨o :: pre, by rw [List.cons_append, ← h1], ?_, ?_, ?_⟩
          · simp only [PlanOK]
            exact ⟨d, hd, hb, evGuard_ok hg c1, fun s' hs' => by cases hs'; exact evOp_ok hT h2 c2, h3⟩
          · simp only [planTm, hd]; exact h4
          · simp only [planσ]; exact h5
        | false => exact triv _ rfl
      · exact triv _ rfl
    · rename_i ps1 xs1 d hg hd
      cases hb : Nat.blt d n with
      | true =>
        simp only [hb, cond_true] at hc ⊢
        obtain ⟨c1, c3⟩ := conj_append.1 hc
        obtain ⟨pre, h1, h3, h4, h5⟩ := evPlan_ok hT l xs1 (put tm d (.tup [])) σ c3
        rw [Nat.blt_eq] at hb
        refine ⟨o :: pre, by rw [List.cons_append, ← h1], ?_, ?_, ?_⟩
        · simp only [PlanOK]
          exact ⟨d, hd, hb, evGuard_ok hg c1, (fun s' hs' => by cases hs'), h3⟩
        · simp only [planTm, hd]; exact h4
        · simp only [planσ]; exact h5
      | false => exact triv _ rfl
    · exact triv _ rfl

def evDraw (P : Program) (T : TS) (ops : Array Oper) (st : St) (r : PlanR) : Es :=
  bif drawOK ops r.plan st.tm st.σ then
    match evOps P T ops r.rest r.xs ⟨st.n, r.tm, r.σ⟩ with
    | some (qs, xs2, st2) => some (r.ps ++ qs, xs2, st2)
    | none => none
  else none
def evRegion (P : Program) (T : TS) (id : Nat) (ops : Array Oper) (draw : Bool) (xs : List Orc) (st : St) : Es :=
  bif draw then
    match evAt (some id) xs st with
    | some (ps0, xs0, st0) =>
      match evDraw P T ops st0 (evPlan P T ops st0.n ops.toList xs0 st0.tm st0.σ) with
      | some (ps, xs, st) => some (ps0 ++ ps, xs, st)
      | none => none
    | none => none
  else evOps P T ops ops.toList xs st

theorem evRegion_ok (hm : P.follows .mixedOrders = true) (hT : TOK P T) {ops : Array Oper} {draw : Bool} {id : Nat} {Q : Exit → St → Prop} {st st' : St} (h : evRegion P T id ops draw xs st = some (ps, xs', st')) (hc : conj ps) (hq : Q .normal st') :
    PW P (.region id ops draw) Q st := by
  unfold evRegion at h
  cases draw with
  | false =>
    simp only [cond_false] at h
    exact PW.region (evOps_ok hT _ h hc hq)
  | true =>
    simp only [cond_true] at h
    split at h
    · rename_i ps0 xs0 st0 h0
      split at h
      · rename_i ps1 xs1 st1 h1
        cases h
        obtain ⟨c0, c1⟩ := conj_append.1 hc
        refine PW.weaken (evAt_ok h0 c0) ?_
        unfold evDraw at h1
        have hbh := condNone h1; clear h1; obtain ⟨hb, h1⟩ := hbh
        split at h1
        · rename_i qs xs2 st2 h2
          cases h1
          obtain ⟨c1, c2⟩ := conj_append.1 c1
          obtain ⟨pre, e1, e2, e3, e4⟩ := evPlan_ok hT ops.toList xs0 st0.tm st0.σ c1
          exact PW.region_draw hm _ pre _ e1 e2 hb (by rw [e3, e4]; exact evOps_ok hT _ h2 c2 hq)
        · cases h1
      · cases h
    · cases h
end
end Go.PW
