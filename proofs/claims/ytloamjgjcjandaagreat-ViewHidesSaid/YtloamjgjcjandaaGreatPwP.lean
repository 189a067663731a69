import Derived.Test.YtloamjgjcjandaaGreatPwO
set_option linter.all false
namespace Go.PW
open Go.RowKit
abbrev Es := Option (List Prop × List Orc × St)
mutual
def Zo0 (l : Nat) (es : List (List Zg)) : PV → List Prop × PV
 | .t x => ([], .t x)
 | .nils => ([], .nils)
 | .osl m n => bif Nat.beq m l then ([es.length = n], .t (.sl es)) else ([], .osl m n)
 | .bptr m o => ([], .bptr m o)
 | .rptr m n i o => ([], .rptr m n i o)
 | .vptr cs => ([], .vptr cs)
 | .agg cs => ((Zk9 l es cs).1, .agg (Zk9 l es cs).2)
 | .tup cs => ((Zk9 l es cs).1, .tup (Zk9 l es cs).2)
 | .fn f cs => ((Zk9 l es cs).1, .fn f (Zk9 l es cs).2)
def Zk9 (l : Nat) (es : List (List Zg)) : List PV → List Prop × List PV
 | [] => ([], [])
 | c :: cs => ((Zo0 l es c).1 ++ (Zk9 l es cs).1, (Zo0 l es c).2 :: (Zk9 l es cs).2)
end
def Zvt (l : Nat) (es : List (List Zg)) : List (Nat × PV) → List Prop × List (Nat × PV)
 | [] => ([], [])
 | (i, p) :: r => ((Zo0 l es p).1 ++ (Zvt l es r).1, (i, (Zo0 l es p).2) :: (Zvt l es r).2)
def Zoi (l : Nat) (es : List (List Zg)) : List (Nat × Blk) → List Prop × List (Nat × Blk)
 | [] => ([], [])
 | (m, b) :: r =>
  bif Nat.beq m l then Zoi l es r else
  match b with
  | .row k es' => ((Zoi l es r).1, (m, .row k es') :: (Zoi l es r).2)
  | .box cs => ((Zk9 l es cs).1 ++ (Zoi l es r).1, (m, .box (Zk9 l es cs).2) :: (Zoi l es r).2)
mutual
theorem Zaoc {σ σ' : List (Nat × Blk)} {l k : Nat} {es : List (List Zg)} (hg : get σ l = some (.row k es)) (h0 : get σ' l = none) : ∀ (p : PV), Zby (Zo0 l es p).1 → Frz σ σ' p (Zo0 l es p).2
 | .t _, _ => by simp [Zo0, Frz]
 | .nils, _ => by simp [Zo0, Frz]
 | .osl m n, h => by
  simp only [Zo0] at h ⊢
  cases hb : Nat.beq m l with
  | true =>
   have : m = l := (Zbc _ _).1 hb
   subst this
   simp only [hb, cond_true] at h ⊢
   simp only [Frz]
   exact .inr ⟨k, es, hg, h.1, h0, rfl⟩
  | false => simp only [cond_false, Frz]; exact .inl trivial
 | .bptr _ _, _ => by simp [Zo0, Frz]
 | .rptr _ _ _ _, _ => by simp [Zo0, Frz]
 | .vptr _, _ => by simp [Zo0, Frz]
 | .agg cs, h => by simp only [Zo0, Frz] at h ⊢; exact ⟨_, rfl, Zvu hg h0 cs h⟩
 | .tup cs, h => by simp only [Zo0, Frz] at h ⊢; exact ⟨_, rfl, Zvu hg h0 cs h⟩
 | .fn _ cs, h => by simp only [Zo0, Frz] at h ⊢; exact ⟨_, rfl, Zvu hg h0 cs h⟩
theorem Zvu {σ σ' : List (Nat × Blk)} {l k : Nat} {es : List (List Zg)} (hg : get σ l = some (.row k es)) (h0 : get σ' l = none) : ∀ (cs : List PV), Zby (Zk9 l es cs).1 → Zcc σ σ' cs (Zk9 l es cs).2
 | [], _ => by simp [Zk9, Zcc]
 | c :: cs, h => by
  simp only [Zk9, Zcc] at h ⊢
  obtain ⟨h1, h2⟩ := Zav.1 h
  exact ⟨_, _, rfl, Zaoc hg h0 c h1, Zvu hg h0 cs h2⟩
end
theorem Zagl {σ σ' : List (Nat × Blk)} {l k : Nat} {es : List (List Zg)} (hg : get σ l = some (.row k es)) (h0 : get σ' l = none) : ∀ (tm : List (Nat × PV)), Zby (Zvt l es tm).1 → ∀ i q, get (Zvt l es tm).2 i = some q → ∃ p, get tm i = some p ∧ Frz σ σ' p q
 | [], _, i, q, hq => by cases hq
 | (j, p) :: r, h, i, q, hq => by
  simp only [Zvt] at h hq
  obtain ⟨h1, h2⟩ := Zav.1 h
  simp only [PW.get] at hq ⊢
  cases hb : Nat.beq j i with
  | true => simp only [hb, cond_true, Option.some.injEq] at hq ⊢; subst hq; exact ⟨p, rfl, Zaoc hg h0 p h1⟩
  | false => simp only [hb, cond_false] at hq ⊢; exact Zagl hg h0 r h2 i q hq
theorem Zu3 {l : Nat} {es : List (List Zg)} : ∀ (σ : List (Nat × Blk)), get (Zoi l es σ).2 l = none
 | [] => rfl
 | (m, b) :: r => by
  simp only [Zoi]
  cases hb : Nat.beq m l with
  | true => simp only [cond_true]; exact Zu3 r
  | false =>
   simp only [cond_false]
   cases b <;> simp only [PW.get, hb, cond_false] <;> exact Zu3 r
theorem Z1j {σ0 σ0' : List (Nat × Blk)} {l k : Nat} {es : List (List Zg)} (hg : get σ0 l = some (.row k es)) (h0 : get σ0' l = none) : ∀ (σ : List (Nat × Blk)), Zby (Zoi l es σ).1 → ∀ m o', get (Zoi l es σ).2 m = some o' → ∃ o, get σ m = some o ∧ Zy1 σ0 σ0' o o'
 | [], _, m, o', ho => by cases ho
 | (j, b) :: r, h, m, o', ho => by
  simp only [Zoi] at h ho
  cases hb : Nat.beq j l with
  | true =>
   simp only [hb, cond_true] at h ho
   have : j = l := (Zbc _ _).1 hb
   subst this
   have hjm : j ≠ m := fun e => by subst e; rw [Zu3] at ho; cases ho
   simp only [PW.get, Zir hjm, cond_false]
   exact Z1j hg h0 r h m o' ho
  | false =>
   simp only [hb, cond_false] at h ho
   cases b with
   | row k' es' =>
    simp only [PW.get] at ho ⊢
    cases hm : Nat.beq j m with
    | true => simp only [hm, cond_true, Option.some.injEq] at ho ⊢; subst ho; exact ⟨_, rfl, rfl⟩
    | false => simp only [hm, cond_false] at ho ⊢; exact Z1j hg h0 r h m o' ho
   | box cs =>
    obtain ⟨h1, h2⟩ := Zav.1 h
    simp only [PW.get] at ho ⊢
    cases hm : Nat.beq j m with
    | true => simp only [hm, cond_true, Option.some.injEq] at ho ⊢; subst ho; exact ⟨_, rfl, _, rfl, Zvu hg h0 cs h1⟩
    | false => simp only [hm, cond_false] at ho ⊢; exact Z1j hg h0 r h2 m o' ho
def Zla {α : Type} (l : List (Nat × α)) : List Nat → Option (List (Nat × α))
 | [] => some []
 | k :: ks =>
  match get l k, Zla l ks with
  | some x, some r => some ((k, x) :: r)
  | _, _ => none
theorem Zju {α : Type} {l : List (Nat × α)} : ∀ {ks : List Nat} {r : List (Nat × α)}, Zla l ks = some r → ∀ i x, get r i = some x → get l i = some x
 | [], r, h, i, x, hx => by simp only [Zla, Option.some.injEq] at h; subst h; cases hx
 | k :: ks, r, h, i, x, hx => by
  simp only [Zla] at h
  split at h
  ·rename_i y r' hy hr
   cases h
   simp only [PW.get] at hx
   cases hb : Nat.beq k i with
   | true => have : k = i := (Zbc _ _).1 hb; subst this; simp only [hb, cond_true, Option.some.injEq] at hx; subst hx; exact hy
   | false => simp only [hb, cond_false] at hx; exact Zju hr i x hx
  ·cases h
def Zlq (l : Nat) (tm : List (Nat × PV)) (σ : List (Nat × Blk)) : Bool := (tm.all fun q => !q.2.has l) && σ.all fun q => !Nat.beq q.1 l && !q.2.has l
theorem Zsd {l : Nat} {tm : List (Nat × PV)} {σ : List (Nat × Blk)} (h : Zlq l tm σ = true) : (∀ i q, get tm i = some q → q.has l = false) ∧ (∀ m y, get σ m = some y → m ≠ l ∧ y.has l = false) := by
 simp only [Zlq, Bool.and_eq_true, List.all_eq_true] at h
 refine ⟨fun i q hq => ?_, fun m y hy => ?_⟩
 ·have := h.1 _ (Zi5 hq); simpa using this
 ·have := h.2 _ (Zi5 hy)
  simp only [Bool.not_eq_true'] at this
  exact ⟨fun e => by subst e; have := this.1; simp at this, this.2⟩
def Zf8 (l n : Nat) : List (Nat × PV) → List Prop × List (Nat × PV)
 | [] => ([], [])
 | (i, p) :: r =>
  match p with
  | .osl m k => bif Nat.beq m l then ((k = n) :: (Zf8 l n r).1, (i, .osl m n) :: (Zf8 l n r).2) else ((Zf8 l n r).1, (i, .osl m k) :: (Zf8 l n r).2)
  | .rptr m k j o => bif Nat.beq m l then ((k = n) :: (Zf8 l n r).1, (i, .rptr m n j o) :: (Zf8 l n r).2) else ((Zf8 l n r).1, (i, .rptr m k j o) :: (Zf8 l n r).2)
  | p => ((Zf8 l n r).1, (i, p) :: (Zf8 l n r).2)
theorem Zmx {l n : Nat} : ∀ (tm : List (Nat × PV)), Zby (Zf8 l n tm).1 → (Zf8 l n tm).2 = tm
 | [], _ => rfl
 | (i, p) :: r, h => by
  cases p
  case osl m k =>
   simp only [Zf8] at h ⊢
   cases hb : Nat.beq m l with
   | true =>
    simp only [hb, cond_true] at h ⊢
    obtain ⟨h1, h2⟩ := h
    subst h1
    rw [Zmx r h2]
   | false =>
    simp only [hb, cond_false] at h ⊢
    rw [Zmx r h]
  case rptr m k j o =>
   simp only [Zf8] at h ⊢
   cases hb : Nat.beq m l with
   | true =>
    simp only [hb, cond_true] at h ⊢
    obtain ⟨h1, h2⟩ := h
    subst h1
    rw [Zmx r h2]
   | false =>
    simp only [hb, cond_false] at h ⊢
    rw [Zmx r h]
  all_goals
   simp only [Zf8] at h ⊢
   rw [Zmx r h]
def Zil (l n : Nat) : List PV → List Prop × List PV
 | [] => ([], [])
 | .osl m k :: r => bif Nat.beq m l then ((k = n) :: (Zil l n r).1, .osl m n :: (Zil l n r).2) else ((Zil l n r).1, .osl m k :: (Zil l n r).2)
 | p :: r => ((Zil l n r).1, p :: (Zil l n r).2)
theorem Zu4 {l n : Nat} : ∀ (cs : List PV), Zby (Zil l n cs).1 → (Zil l n cs).2 = cs
 | [], _ => rfl
 | p :: r, h => by
  cases p
  case osl m k =>
   simp only [Zil] at h ⊢
   cases hb : Nat.beq m l with
   | true =>
    simp only [hb, cond_true] at h ⊢
    obtain ⟨h1, h2⟩ := h
    subst h1
    rw [Zu4 r h2]
   | false =>
    simp only [hb, cond_false] at h ⊢
    rw [Zu4 r h]
  all_goals
   simp only [Zil] at h ⊢
   rw [Zu4 r h]
def Znq (l n : Nat) : List (Nat × Blk) → List Prop × List (Nat × Blk)
 | [] => ([], [])
 | (m, .box cs) :: r => ((Zil l n cs).1 ++ (Znq l n r).1, (m, .box (Zil l n cs).2) :: (Znq l n r).2)
 | (m, .row k es) :: r => ((Znq l n r).1, (m, .row k es) :: (Znq l n r).2)
theorem Z3w {l n : Nat} : ∀ (σ : List (Nat × Blk)), Zby (Znq l n σ).1 → (Znq l n σ).2 = σ
 | [], _ => rfl
 | (m, b) :: r, h => by
  cases b with
  | box cs =>
   simp only [Znq] at h ⊢
   obtain ⟨h1, h2⟩ := Zav.1 h
   rw [Zu4 cs h1, Z3w r h2]
  | row k es =>
   simp only [Znq] at h ⊢
   rw [Z3w r h]
theorem Zabp {G : Frm} {β : Nat → Option Nat} {n : Nat} {tm tm' : List (Nat × PV)} {σ σ' : List (Nat × Blk)} {a : Act} {w : World} (h : Zbq G β ⟨n, tm, σ⟩ a w)
 (hσ : ∀ l o', get σ' l = some o' → ∃ o, get σ l = some o ∧ (o' = o ∨ ∃ cs cs', o = .box cs ∧ o' = .box cs' ∧ cs'.length = cs.length ∧ cs'.all PV.one = true ∧ ∀ vs, VRs (ctx G β w σ) cs vs → VRs (ctx G β w σ) cs' vs))
 (ht : ∀ i q, get tm' i = some q → ∃ p, get tm i = some p ∧ ∀ v, VR (ctx G β w σ) p v → VR (ctx G β w σ) q v) : Zbq G β ⟨n, tm', σ'⟩ a w := by
 have hI : ∀ b, (ctx G β w σ).I b → (ctx G β w σ').I b ∧ (ctx G β w σ').w.heap[b]? = (ctx G β w σ).w.heap[b]? := fun b hb => ⟨⟨hb.1, hb.2.1, fun l o hl => by obtain ⟨o2, ho2, _⟩ := hσ l o hl; exact hb.2.2 l o2 ho2⟩, rfl⟩
 have hL : ∀ l, Zer (ctx G β w σ) (ctx G β w σ') l := fun l => by
  refine ⟨fun k es' hg => ?_, fun cs' hg => ?_⟩
  ·obtain ⟨o, ho, h1⟩ := hσ l _ hg
   rcases h1 with rfl | ⟨cs, cs', _, h2, _⟩
   ·exact ⟨es', ho, Nat.le_refl _, fun _ => ⟨rfl, fun _ _ _ h => h⟩⟩
   ·cases h2
  ·obtain ⟨o, ho, h1⟩ := hσ l _ hg
   rcases h1 with rfl | ⟨cs, cs', rfl, h2, _⟩
   ·exact ⟨cs', ho, rfl⟩
   ·exact ⟨cs, ho, rfl⟩
 exact { defers := h.defers, sz := h.sz, base := h.base, os := h.os, tape := h.tape, output := h.output, old := h.old, A := h.A, gl := h.gl,
         inj := fun l l' o o' b hl hl' => by
          obtain ⟨o1, h1, _⟩ := hσ l o hl
          obtain ⟨o2, h2, _⟩ := hσ l' o' hl'
          exact h.inj l l' o1 o2 b h1 h2,
         sep := fun l o b hl => by obtain ⟨o1, h1, _⟩ := hσ l o hl; exact h.sep l o1 b h1,
         fix := fun l cs h1 hl => by
          obtain ⟨o, ho, h2⟩ := hσ l _ hl
          rcases h2 with rfl | ⟨cs0, cs', rfl, _⟩
          ·exact h.fix l cs h1 ho
          ·exact h.fix l cs0 h1 ho,
         blk := fun l o' hl => by
          obtain ⟨o, ho, h2⟩ := hσ l o' hl
          have hb := h.blk l o ho
          rcases h2 with rfl | ⟨cs, cs', rfl, rfl, h3, h4, h5⟩
          ·exact BR.step hI rfl (fun _ _ => rfl) (fun m _ => hL m) hb
          ·obtain ⟨b, vs, f1, f2, f3, f4, f5⟩ := hb
           exact ⟨b, vs, f1, by rw [h3]; exact f2, f3, VRs.step hI _ _ (fun m _ => hL m) (h5 vs f4), h4⟩,
         tm := fun i q hq => by
          obtain ⟨p, hp, hf⟩ := ht i q hq
          exact ⟨(h.tm i p hp).1, VR.step hI q _ (fun m _ => hL m) (hf _ (h.tm i p hp).2)⟩ }
theorem VRs.set {c : Ctx} {p q : PV} : ∀ {cs : List PV} {vs : List Value} {j : Nat}, cs[j]? = some p → (∀ v, VR c p v → VR c q v) → VRs c cs vs → VRs c (cs.set j q) vs
 | [], vs, j, h, _, _ => by simp at h
 | x :: cs, vs, 0, h, hq, hv => by
  simp only [List.getElem?_cons_zero, Option.some.injEq] at h
  subst h
  simp only [List.set_cons_zero, VRs] at hv ⊢
  obtain ⟨v, rest, rfl, hv, hr⟩ := hv
  exact ⟨v, rest, rfl, hq v hv, hr⟩
 | x :: cs, vs, j + 1, h, hq, hv => by
  simp only [List.set_cons_succ, VRs] at hv ⊢
  obtain ⟨v, rest, rfl, hv, hr⟩ := hv
  exact ⟨v, rest, rfl, hv, VRs.set (by simpa using h) hq hr⟩
theorem Zaod {q : PV} (hq : q.one = true) : ∀ {cs : List PV} {j : Nat}, cs.all PV.one = true → (cs.set j q).all PV.one = true
 | [], _, h => h
 | x :: cs, 0, h => by simp only [List.set_cons_zero, List.all_cons, Bool.and_eq_true] at h ⊢; exact ⟨hq, h.2⟩
 | x :: cs, j + 1, h => by simp only [List.set_cons_succ, List.all_cons, Bool.and_eq_true] at h ⊢; exact ⟨h.1, Zaod hq h.2⟩
theorem VR.nilt {c : Ctx} (v : Value) (h : VR c .nils v) : VR c (.t (.sl [])) v := by
 simp only [VR] at h ⊢
 obtain ⟨a, rfl⟩ := h
 simp only [Zax]
 exact ⟨a, 0, rfl, by simp, by simp [maxLen], .inl trivial⟩
theorem VR.nilOwn {c : Ctx} {l k : Nat} (hg : get c.σ l = some (.row k [])) (hb : c.β l = none) (v : Value) (h : VR c .nils v) : VR c (.osl l 0) v := by
 simp only [VR] at h ⊢
 obtain ⟨a, rfl⟩ := h
 refine ⟨fun k' es' hg' => ?_, a, 0, 0, rfl⟩
 rw [hg] at hg'
 cases hg'
 exact ⟨Nat.le_refl _, fun _ => ⟨a, 0, rfl, Nat.le_refl _, by simp [maxLen], .inl ⟨rfl, hb⟩⟩⟩
theorem Zabq {G : Frm} {β : Nat → Option Nat} {w : World} {tm : List (Nat × PV)} {σ : List (Nat × Blk)} {t : Nat} {p q : PV} (hg : get tm t = some p) (hq : ∀ v, VR (ctx G β w σ) p v → VR (ctx G β w σ) q v) :
 ∀ i r, get (put tm t q) i = some r → ∃ p, get tm i = some p ∧ ∀ v, VR (ctx G β w σ) p v → VR (ctx G β w σ) r v := fun i r hr => by
 by_cases hi : t = i
 ·subst hi
  rw [Zdx] at hr
  cases hr
  exact ⟨p, hg, hq⟩
 ·rw [Zdw _ _ hi] at hr
  exact ⟨r, hr, fun _ h => h⟩
theorem Zabr {G : Frm} {β : Nat → Option Nat} {w : World} {σ : List (Nat × Blk)} {b j : Nat} {cs : List PV} {p q : PV} (hg : get σ b = some (.box cs)) (hj : cs[j]? = some p) (h1 : cs.all PV.one = true) (h2 : q.one = true) (hq : ∀ v, VR (ctx G β w σ) p v → VR (ctx G β w σ) q v) :
 ∀ l o', get (put σ b (.box (cs.set j q))) l = some o' → ∃ o, get σ l = some o ∧ (o' = o ∨ ∃ cs cs', o = .box cs ∧ o' = .box cs' ∧ cs'.length = cs.length ∧ cs'.all PV.one = true ∧ ∀ vs, VRs (ctx G β w σ) cs vs → VRs (ctx G β w σ) cs' vs) := fun l o' ho => by
 by_cases hi : b = l
 ·subst hi
  rw [Zdx] at ho
  cases ho
  exact ⟨_, hg, .inr ⟨cs, _, rfl, rfl, by simp, Zaod h2 h1, fun vs hv => VRs.set hj hq hv⟩⟩
 ·rw [Zdw _ _ hi] at ho
  exact ⟨o', ho, .inl rfl⟩
def f1 (l m : Nat) (j : Nat) : Nat := bif Nat.beq j l then m else j
def Zabs (f : Nat → Nat) : List (Nat × PV) → List (Nat × PV)
 | [] => []
 | (i, p) :: r => (i, p.ren f) :: Zabs f r
theorem Zajn (f : Nat → Nat) : ∀ tm : List (Nat × PV), Zabs f tm = tm.map fun x => (x.1, x.2.ren f)
 | [] => rfl
 | (i, p) :: r => by simp only [Zabs, List.map_cons, Zajn f r]
theorem Wk.relab {st : St} {l m : Nat} (hm : 1000 ≤ m) (hf : Zlq m st.tm st.σ = true) : Wk st ⟨st.n, Zabs (f1 l m) st.tm, Zdl (f1 l m) st.σ⟩ := by
 rintro G a w ⟨β, h⟩
 obtain ⟨g1, g2⟩ := Zsd hf
 rw [Zajn]
 exact Zat8 (n := st.n) (tm := st.tm) (σ := st.σ) h l m hm g1 g2
theorem Wk.slot {st : St} {t : Nat} {p q : PV} (hg : get st.tm t = some p) (hq : ∀ c v, VR c p v → VR c q v) : Wk st ⟨st.n, put st.tm t q, st.σ⟩ :=
 fun _ _ _ ⟨β, h⟩ => ⟨β, Zabp (n := st.n) (tm := st.tm) (σ := st.σ) h (fun _ o ho => ⟨o, ho, .inl rfl⟩) (Zabq hg (hq _))⟩
theorem Zaoe {G : Frm} {st : St} {β : Nat → Option Nat} {a : Act} {w : World} (h : Zbq G β st a w) {b : Nat} {cs : List PV} (hg : get st.σ b = some (.box cs)) : cs.all PV.one = true := by
 obtain ⟨_, _, _, _, _, _, h⟩ := h.blk b _ hg
 exact h
theorem Wk.cell {st : St} {b j : Nat} {cs : List PV} {p q : PV} (hg : get st.σ b = some (.box cs)) (hj : cs[j]? = some p) (h2 : q.one = true) (hq : ∀ c v, VR c p v → VR c q v) : Wk st ⟨st.n, st.tm, put st.σ b (.box (cs.set j q))⟩ :=
 fun _ _ _ ⟨β, h⟩ => ⟨β, Zabp (n := st.n) (tm := st.tm) (σ := st.σ) h (Zabr hg hj (Zaoe h hg) h2 (hq _)) (fun _ q hq => ⟨q, hq, fun _ h => h⟩)⟩
theorem Wk.ownc {st : St} {t j l k : Nat} {cs : List PV} (hg : get st.tm t = some (.agg cs)) (hj : cs[j]? = some .nils) (hk : 0 < k) (hl : 1000 ≤ l) (hf : Zlq l st.tm st.σ = true) : Wk st ⟨st.n, put st.tm t (.agg (cs.set j (.osl l 0))), (l, .row k []) :: st.σ⟩ := by
 rintro G a w ⟨β, h⟩
 obtain ⟨g1, g2⟩ := Zsd hf
 have h' := Zabf (n := st.n) (tm := st.tm) (σ := st.σ) h l k hk hl g1 g2
 refine ⟨Zng β l, Zabp h' (fun _ o ho => ⟨o, ho, .inl rfl⟩) (Zabq hg fun v hv => ?_)⟩
 simp only [VR] at hv ⊢
 obtain ⟨vs, hv, hs⟩ := hv
 exact ⟨vs, hv, VRs.set hj (VR.nilOwn (l := l) (k := k) (by simp [ctx, PW.get]) (by simp [ctx, Zng])) hs⟩
theorem Wk.ownb {st : St} {b j l k : Nat} {cs : List PV} (hg : get st.σ b = some (.box cs)) (hj : cs[j]? = some .nils) (hk : 0 < k) (hl : 1000 ≤ l) (hf : Zlq l st.tm st.σ = true) : Wk st ⟨st.n, st.tm, put ((l, .row k []) :: st.σ) b (.box (cs.set j (.osl l 0)))⟩ := by
 rintro G a w ⟨β, h⟩
 obtain ⟨g1, g2⟩ := Zsd hf
 have h' := Zabf (n := st.n) (tm := st.tm) (σ := st.σ) h l k hk hl g1 g2
 have hbl : b ≠ l := (g2 b _ hg).1
 exact ⟨Zng β l, Zabp h' (Zabr (by simp only [PW.get, Zir (Ne.symm hbl), cond_false]; exact hg) hj (Zaoe h hg) rfl (VR.nilOwn (l := l) (k := k) (by simp [ctx, PW.get]) (by simp [ctx, Zng]))) (fun _ q hq => ⟨q, hq, fun _ h => h⟩)⟩
def Zd9 : List Orc → St → Es
 | .frz l :: xs, st =>
  match get st.σ l with
  | some (.row _ es) =>
   match Zd9 xs ⟨st.n, (Zvt l es st.tm).2, (Zoi l es st.σ).2⟩ with
   | some (ps, xs', st') => some ((Zvt l es st.tm).1 ++ ((Zoi l es st.σ).1 ++ ps), xs', st')
   | none => none
  | _ => none
 | .relen l :: xs, st =>
  match get st.σ l with
  | some (.row _ es) =>
   match Zd9 xs ⟨st.n, (Zf8 l es.length st.tm).2, (Znq l es.length st.σ).2⟩ with
   | some (ps, xs', st') => some ((Zf8 l es.length st.tm).1 ++ ((Znq l es.length st.σ).1 ++ ps), xs', st')
   | none => none
  | _ => none
 | .pick ks ls :: xs, st =>
  match Zla st.tm ks, Zla st.σ ls with
  | some tm, some σ => Zd9 xs ⟨st.n, tm, σ⟩
  | _, _ => none
 | .own t l k :: xs, st =>
  match get st.tm t with
  | some .nils => bif Nat.blt 0 k && Nat.ble 1000 l && Zlq l st.tm st.σ && Nat.blt t st.n then Zd9 xs ⟨st.n, put st.tm t (.osl l 0), (l, .row k []) :: st.σ⟩ else none
  | _ => none
 | .relab l m :: xs, st => bif Nat.ble 1000 m && Zlq m st.tm st.σ then Zd9 xs ⟨st.n, Zabs (f1 l m) st.tm, Zdl (f1 l m) st.σ⟩ else none
 | .nilt t :: xs, st => match get st.tm t with | some .nils => Zd9 xs ⟨st.n, put st.tm t (.t (.sl [])), st.σ⟩ | _ => none
 | .niltc t j :: xs, st =>
  match get st.tm t with
  | some (.agg cs) => match cs[j]? with | some .nils => Zd9 xs ⟨st.n, put st.tm t (.agg (cs.set j (.t (.sl [])))), st.σ⟩ | _ => none
  | _ => none
 | .niltb b j :: xs, st =>
  match get st.σ b with
  | some (.box cs) => match cs[j]? with | some .nils => Zd9 xs ⟨st.n, st.tm, put st.σ b (.box (cs.set j (.t (.sl []))))⟩ | _ => none
  | _ => none
 | .ownc t j l k :: xs, st =>
  match get st.tm t with
  | some (.agg cs) => match cs[j]? with | some .nils => bif Nat.blt 0 k && Nat.ble 1000 l && Zlq l st.tm st.σ then Zd9 xs ⟨st.n, put st.tm t (.agg (cs.set j (.osl l 0))), (l, .row k []) :: st.σ⟩ else none | _ => none
  | _ => none
 | .ownb b j l k :: xs, st =>
  match get st.σ b with
  | some (.box cs) => match cs[j]? with | some .nils => bif Nat.blt 0 k && Nat.ble 1000 l && Zlq l st.tm st.σ then Zd9 xs ⟨st.n, st.tm, put ((l, .row k []) :: st.σ) b (.box (cs.set j (.osl l 0)))⟩ else none | _ => none
  | _ => none
 | xs, st => some ([], xs, st)
theorem Wk.pick {st : St} {tm : List (Nat × PV)} {σ : List (Nat × Blk)} {ks ls : List Nat} (h1 : Zla st.tm ks = some tm) (h2 : Zla st.σ ls = some σ) : Wk st ⟨st.n, tm, σ⟩ :=
 fun _ _ _ ⟨β, h⟩ => ⟨β, h.sub (Nat.le_refl _) (fun i p hp => ⟨Zju h1 i p hp, (h.tm i p (Zju h1 i p hp)).1⟩) (fun l o ho => Zju h2 l o ho)⟩
theorem Wk.own {st : St} {t l k : Nat} (hg : get st.tm t = some .nils) (hk : 0 < k) (hl : 1000 ≤ l) (hf : Zlq l st.tm st.σ = true) : Wk st ⟨st.n, put st.tm t (.osl l 0), (l, .row k []) :: st.σ⟩ := by
 rintro G a w ⟨β, h⟩
 obtain ⟨f1, f2⟩ := Zsd hf
 have h' := Zabf (n := st.n) (tm := st.tm) (σ := st.σ) h l k hk hl f1 f2
 refine ⟨Zng β l, ?_⟩
 have hv := (h.tm t _ hg)
 simp only [VR] at hv
 obtain ⟨hlt, a0, hv⟩ := hv
 exact { defers := h'.defers, sz := h'.sz, base := h'.base, os := h'.os, tape := h'.tape, output := h'.output, old := h'.old, A := h'.A, gl := h'.gl, inj := h'.inj, sep := h'.sep, fix := h'.fix, blk := h'.blk,
         tm := fun i p hp => by
          by_cases hi : t = i
          ·subst hi
           rw [Zdx] at hp
           cases hp
           refine ⟨hlt, ?_⟩
           simp only [VR]
           refine ⟨fun k' es' hes' => ?_, a0, 0, 0, hv⟩
           have hgs : get ((l, Blk.row k []) :: st.σ) l = some (.row k []) := by simp [PW.get]
           have : some (Blk.row k' es') = some (.row k []) := Eq.trans (Eq.symm hes') hgs
           cases this
           exact ⟨Nat.le_refl _, fun _ => ⟨a0, 0, hv, Nat.le_refl _, by simp [maxLen], .inl ⟨rfl, by simp [ctx, Zng]⟩⟩⟩
          ·rw [Zdw _ _ hi] at hp
           exact h'.tm i p hp }
theorem Zf9 : ∀ (xs : List Orc) (st : St) {ps : List Prop} {xs' : List Orc} {st' : St}, Zd9 xs st = some (ps, xs', st') → Zby ps → Wk st st'
 | [], st, ps, xs', st', h, _ => by simp only [Zd9, Option.some.injEq, Prod.mk.injEq] at h; rw [h.2.2]; exact Wk.refl _
 | x :: xs, st, ps, xs', st', h, hc => by
  cases x
  case frz l =>
   simp only [Zd9] at h
   split at h
   ·rename_i k es hg
    split at h
    ·rename_i ps' xs2 st2 h2
     cases h
     obtain ⟨h3, h4⟩ := Zav.1 hc
     obtain ⟨h4, h5⟩ := Zav.1 h4
     have h0 := Zu3 (l := l) (es := es) st.σ
     exact (Wk.frz (Z1j hg h0 st.σ h4) (Zagl hg h0 st.tm h3)).trans (Zf9 xs _ h2 h5)
    ·cases h
   ·cases h
  case relen l =>
   simp only [Zd9] at h
   split at h
   ·rename_i k es hg
    split at h
    ·rename_i ps' xs2 st2 h2
     cases h
     obtain ⟨h3, h4⟩ := Zav.1 hc
     obtain ⟨h4, h5⟩ := Zav.1 h4
     have := Zf9 xs _ h2 h5
     rw [Zmx _ h3, Z3w _ h4] at this
     exact this
    ·cases h
   ·cases h
  case pick ks ls =>
   simp only [Zd9] at h
   split at h
   ·rename_i tm σ h1 h2
    exact (Wk.pick h1 h2).trans (Zf9 xs _ h hc)
   ·cases h
  case own t l k =>
   simp only [Zd9] at h
   split at h
   ·rename_i hg
    obtain ⟨hb, h⟩ := Zcd h
    simp only [Bool.and_eq_true, Nat.blt_eq, Zf7] at hb
    exact (Wk.own hg hb.1.1.1 hb.1.1.2 hb.1.2).trans (Zf9 xs _ h hc)
   ·cases h
  case relab l m =>
   simp only [Zd9] at h
   obtain ⟨hb, h⟩ := Zcd h
   simp only [Bool.and_eq_true, Zf7] at hb
   exact (Wk.relab hb.1 hb.2).trans (Zf9 xs _ h hc)
  case nilt t =>
   simp only [Zd9] at h
   split at h
   ·rename_i hg; exact (Wk.slot hg fun _ v hv => VR.nilt v hv).trans (Zf9 xs _ h hc)
   ·cases h
  case niltc t j =>
   simp only [Zd9] at h
   split at h
   ·rename_i cs hg
    split at h
    ·rename_i hj
     refine (Wk.slot hg fun c v hv => ?_).trans (Zf9 xs _ h hc)
     simp only [VR] at hv ⊢
     obtain ⟨vs, hv, hs⟩ := hv
     exact ⟨vs, hv, VRs.set hj VR.nilt hs⟩
    ·cases h
   ·cases h
  case niltb b j =>
   simp only [Zd9] at h
   split at h
   ·rename_i cs hg
    split at h
    ·rename_i hj; exact (Wk.cell hg hj rfl fun _ v hv => VR.nilt v hv).trans (Zf9 xs _ h hc)
    ·cases h
   ·cases h
  case ownc t j l k =>
   simp only [Zd9] at h
   split at h
   ·rename_i cs hg
    split at h
    ·rename_i hj
     obtain ⟨hb, h⟩ := Zcd h
     simp only [Bool.and_eq_true, Nat.blt_eq, Zf7] at hb
     exact (Wk.ownc hg hj hb.1.1 hb.1.2 hb.2).trans (Zf9 xs _ h hc)
    ·cases h
   ·cases h
  case ownb b j l k =>
   simp only [Zd9] at h
   split at h
   ·rename_i cs hg
    split at h
    ·rename_i hj
     obtain ⟨hb, h⟩ := Zcd h
     simp only [Bool.and_eq_true, Nat.blt_eq, Zf7] at hb
     exact (Wk.ownb hg hj hb.1.1 hb.1.2 hb.2).trans (Zf9 xs _ h hc)
    ·cases h
   ·cases h
  all_goals
   simp only [Zd9, Option.some.injEq, Prod.mk.injEq] at h
   rw [h.2.2]; exact Wk.refl _
def Zajo : Es → Es
 | some (ps, .stop :: xs, st) => some (ps, xs, st)
 | r => r
theorem Zao6 {r : Es} {ps : List Prop} {xs : List Orc} {st : St} (h : Zajo r = some (ps, xs, st)) : ∃ xs', r = some (ps, xs', st) := by
 unfold Zajo at h
 split at h
 ·cases h; exact ⟨_, rfl⟩
 ·exact ⟨_, h⟩
def evAt (d : Option Nat) (xs : List Orc) (st : St) : Es :=
 match xs, d with
 | .ahead i :: xs', some j => bif Nat.beq i j then Zajo (Zd9 xs' st) else some ([], xs, st)
 | _, _ => some ([], xs, st)
theorem Zaof {d : Option Nat} {xs : List Orc} {st : St} {ps : List Prop} {xs' : List Orc} {st' : St} (h : evAt d xs st = some (ps, xs', st')) (hc : Zby ps) : Wk st st' := by
 have triv : ∀ ys : List Orc, (some ([], ys, st) : Es) = some (ps, xs', st') → Wk st st' := fun ys h => by cases h; exact Wk.refl _
 unfold evAt at h
 split at h
 ·rename_i i xs2 j
  cases hb : Nat.beq i j with
  | true =>
   simp only [hb, cond_true] at h
   obtain ⟨ys, h⟩ := Zao6 h
   exact Zf9 _ _ h hc
  | false => simp only [hb, cond_false] at h; exact triv _ h
 ·exact triv _ h
def evUp (T : TS) (o : Oper) (st : St) (xs : List Orc) : Es :=
 match o.op with
 | .store t x y =>
  match o.dst, get T t, Zu st.tm x, Zu st.tm y with
  | none, some i, some (.bptr l q), some p =>
   match get st.σ l, xs with
   | some (.box cs), .sp cs' :: xs => bif Nat.beq (Za6 p).length i.size && (Za6 p).all PV.one then some ([q + i.size ≤ cs.length, splice cs q (Za6 p) = cs'], xs, ⟨st.n, st.tm, put st.σ l (.box cs')⟩) else none
   | some (.box cs), xs => bif Nat.beq (Za6 p).length i.size && (Za6 p).all PV.one && Nat.ble (q + i.size) cs.length then some ([], xs, ⟨st.n, st.tm, put st.σ l (.box (splice cs q (Za6 p)))⟩) else none
   | _, _ => none
  | none, some i, some (.rptr l m j q), some p =>
   match get st.σ l, xs, Zgx (Za6 p) with
   | some (.row k es), .cs e :: .es es' :: xs, some ts =>
    bif Nat.beq ts.length i.size && Nat.ble (q + i.size) k then some ([es.length = m, es[j]? = some e, es.set j (splice e q ts) = es'], xs, ⟨st.n, st.tm, put st.σ l (.row k es')⟩) else none
   | _, _, _ => none
  | _, _, _, _ => none
 | .convert s t x =>
  match Zhk T t, Zu st.tm x, o.dst with
  | some (_, ⟨_, _, _, _, .int .u8, _⟩), some (.osl l m), some d =>
   match get st.σ l with
   | some (.row _ es) => bif Nat.beq s t && Nat.blt d st.n then some ([es.length = m, es ≠ []], xs, ⟨st.n, put st.tm d (.osl l m), st.σ⟩) else none
   | _ => none
  | _, _, _ => none
 | _ => none
section
variable {P : Program} {T : TS} {o : Oper} {xs xs' : List Orc} {ps : List Prop}
theorem Zas8 (hT : TOK P T) {st st' : St} (h : evUp T o st xs = some (ps, xs', st')) (hc : Zby ps) : OpUp P o st st' := by
 obtain ⟨n, tm, σ⟩ := st
 unfold evUp at h
 split at h
 ·rename_i t x y ho
  split at h
  ·rename_i i l q p hd hi hx hy
   split at h
   ·rename_i cs cs' xs2 hg
    have hbh := Zcd h; clear h; obtain ⟨hb, h⟩ := hbh
    simp only [Bool.and_eq_true, Zbc] at hb
    cases h
    obtain ⟨h1, h2, _⟩ := hc
    subst h2
    exact Zagd ho hd (hT _ _ hi).ty hx hy hg hb.1 hb.2 h1
   ·rename_i cs hg _
    have hbh := Zcd h; clear h; obtain ⟨hb, h⟩ := hbh
    simp only [Bool.and_eq_true, Zbc, Zf7] at hb
    cases h
    exact Zagd ho hd (hT _ _ hi).ty hx hy hg hb.1.1 hb.1.2 hb.2
   ·cases h
  ·rename_i i l m j q p hd hi hx hy
   split at h
   ·rename_i k es e es' xs2 ts hg hts
    have hbh := Zcd h; clear h; obtain ⟨hb, h⟩ := hbh
    simp only [Bool.and_eq_true, Zbc, Zf7] at hb
    cases h
    obtain ⟨h1, h2, h3, _⟩ := hc
    subst h3
    exact Zaqc ho hd (hT _ _ hi).ty hx hy hg h1 h2 hts hb.1 hb.2
   ·cases h
  ·cases h
 ·rename_i s t x ho
  split at h
  ·rename_i e agg sz by_ z fl l m d he hx hd
   split at h
   ·rename_i k es hg
    have hbh := Zcd h; clear h; obtain ⟨hb, h⟩ := hbh
    simp only [Bool.and_eq_true, Zbc, Nat.blt_eq] at hb
    obtain ⟨rfl, hb2⟩ := hb
    cases h
    obtain ⟨i, hi, hk, hj⟩ := Zfd he
    have hu := (hT _ _ hi).k
    rw [hk] at hu
    have hu2 : P.underlying e = some (.int .u8) := (hT _ _ hj).k
    exact Zars ho hd hb2 hu hu2 hx hg hc.1 hc.2.1
   ·cases h
  ·cases h
 ·cases h
def Z6k (ops : Array Oper) (tm : List (Nat × PV)) (o : Oper) (xs : List Orc) : Option (List Prop × List Orc × Bool) :=
 match o.guard with
 | none => some ([], xs, true)
 | some (g, want) =>
  match (ops[g]?).bind (·.dst) with
  | none => none
  | some d =>
   match get tm d, xs with
   | some (.t (.bool e)), .br b :: xs => some ([e = b], xs, b == want)
   | some (.tup []), xs => some ([], xs, false)
   | _, _ => none
theorem Zjy {ops : Array Oper} {tm : List (Nat × PV)} {r : Bool} (h : Z6k ops tm o xs = some (ps, xs', r)) (hc : Zby ps) : Zi4 ops tm o = some r := by
 unfold Z6k at h
 unfold Zi4
 split at h
 ·rename_i hg; cases h; rw [hg]
 ·rename_i g want hg
  rw [hg]
  simp only
  split at h
  ·cases h
  ·rename_i d hd
   simp only [hd]
   split at h
   ·rename_i e b xs2 he
    cases h
    have := hc.1
    subst this
    simp [he]
   ·rename_i he; cases h; simp [he]
   ·cases h
def Zse (rm : List Nat) (tm : List (Nat × PV)) (σ : List (Nat × Blk)) : List (Nat × Blk) → Bool
 | [] => true
 | (l, _) :: r => (Zvh rm l || Zlq l tm σ) && Zse rm tm σ r
theorem Zvv {rm : List Nat} {tm : List (Nat × PV)} {σ : List (Nat × Blk)} : ∀ {news : List (Nat × Blk)}, Zse rm tm σ news = true → ∀ l x, (l, x) ∈ news → l ∉ rm → (∀ i q, get tm i = some q → q.has l = false) ∧ (∀ m y, get σ m = some y → m ≠ l ∧ y.has l = false)
 | [], _, l, x, hm, _ => by cases hm
 | (m, y) :: r, h, l, x, hm, hr => by
  simp only [Zse, Bool.and_eq_true, Bool.or_eq_true] at h
  rcases List.mem_cons.1 hm with hm | hm
  ·cases hm
   rcases h.1 with h1 | h1
   ·exact absurd (Z1e.1 h1) hr
   ·exact Zsd h1
  ·exact Zvv h.2 l x hm hr
def dstN (o : Oper) : Nat := match o.dst with | some d => d | none => 1000000
def Zajp (P : Program) (T : TS) (ops : Array Oper) (o : Oper) (xs : List Orc) (st : St) : Es :=
 match evAt (some (dstN o)) xs st with
 | some (ps0, xs0, st0) =>
  match Z6k ops st0.tm o xs0 with
  | some (ps1, xs1, true) =>
   match Zais P T o st0.tm st0.σ xs1 with
   | some (ps2, xs2, x) =>
    match o.dst with
    | some d => bif Nat.blt d st0.n && Zse x.rm st0.tm st0.σ x.s.news then some (ps0 ++ (ps1 ++ ps2), xs2, ⟨st0.n, put st0.tm d x.s.p, x.s.news ++ Zhi x.rm st0.σ⟩) else none
    | none => bif Zse x.rm st0.tm st0.σ x.s.news then some (ps0 ++ (ps1 ++ ps2), xs2, ⟨st0.n, st0.tm, x.s.news ++ Zhi x.rm st0.σ⟩) else none
   | none =>
    match evUp T o st0 xs1 with
    | some (ps2, xs2, st2) => some (ps0 ++ (ps1 ++ ps2), xs2, st2)
    | none => none
  | some (ps1, xs1, false) =>
   match o.dst with
   | some d => bif Nat.blt d st0.n then some (ps0 ++ ps1, xs1, ⟨st0.n, put st0.tm d (.tup []), st0.σ⟩) else none
   | none => some (ps0 ++ ps1, xs1, st0)
  | none => none
 | none => none
theorem Zaqn (hT : TOK P T) {ops : Array Oper} {R : St → Prop} {l : List Oper} {st st' : St} (h : Zajp P T ops o xs st = some (ps, xs', st')) (hc : Zby ps) (hk : Zdk P ops R l st') : Zdk P ops R (o :: l) st := by
 unfold Zajp at h
 split at h
 ·rename_i ps0 xs0 st0 h0
  suffices hs : Zby ps0 ∧ Zdk P ops R (o :: l) st0 from Zdk.weaken (Zaof h0 hs.1) hs.2
  split at h
  ·rename_i ps1 xs1 h1
   split at h
   ·rename_i ps2 xs2 s h2
    split at h
    ·rename_i d hd
     have hbh := Zcd h; clear h; obtain ⟨hb, h⟩ := hbh
     simp only [Bool.and_eq_true, Nat.blt_eq] at hb
     cases h
     obtain ⟨c0, c1⟩ := Zav.1 hc
     obtain ⟨c1, c2⟩ := Zav.1 c1
     refine ⟨c0, Zdk.step (Zjy h1 c1) ?_ hk⟩
     intro G a w K Q hr hK
     refine Z86 hT h2 c2 G st0.n st0.tm st0.σ a w K Q (fun _ _ _ h => h) (fun _ _ => rfl) (Zvv hb.2) hr ?_
     rintro v w' ⟨β, hβ, hv⟩
     exact hK _ _ ⟨β, by rw [hd]; exact hβ.put hb.1 hv⟩
    ·rename_i hd
     have hbh := Zcd h; clear h; obtain ⟨hb, h⟩ := hbh
     cases h
     obtain ⟨c0, c1⟩ := Zav.1 hc
     obtain ⟨c1, c2⟩ := Zav.1 c1
     refine ⟨c0, Zdk.step (Zjy h1 c1) ?_ hk⟩
     intro G a w K Q hr hK
     refine Z86 hT h2 c2 G st0.n st0.tm st0.σ a w K Q (fun _ _ _ h => h) (fun _ _ => rfl) (Zvv hb) hr ?_
     rintro v w' ⟨β, hβ, hv⟩
     exact hK _ _ ⟨β, by rw [hd]; exact hβ⟩
   ·split at h
    ·rename_i ps2 xs2 st2 h2
     cases h
     obtain ⟨c0, c1⟩ := Zav.1 hc
     obtain ⟨c1, c2⟩ := Zav.1 c1
     exact ⟨c0, Zdk.step (Zjy h1 c1) (Zas8 hT h2 c2) hk⟩
    ·cases h
  ·rename_i ps1 xs1 h1
   split at h
   ·rename_i d hd
    have hbh := Zcd h; clear h; obtain ⟨hb, h⟩ := hbh
    simp only [Nat.blt_eq] at hb
    cases h
    obtain ⟨c0, c1⟩ := Zav.1 hc
    exact ⟨c0, Zdk.skip hd hb (Zjy h1 c1) hk⟩
   ·rename_i hd
    cases h
    obtain ⟨c0, c1⟩ := Zav.1 hc
    exact ⟨c0, Zdk.skipNone hd (Zjy h1 c1) hk⟩
  ·cases h
 ·cases h
def Z6l (P : Program) (T : TS) (ops : Array Oper) : List Oper → List Orc → St → Es
 | [], xs, st => some ([], xs, st)
 | o :: l, xs, st =>
  match Zajp P T ops o xs st with
  | some (ps, xs1, st1) =>
   match Z6l P T ops l xs1 st1 with
   | some (qs, xs2, st2) => some (ps ++ qs, xs2, st2)
   | none => none
  | none => none
theorem Z87 (hT : TOK P T) {ops : Array Oper} {R : St → Prop} : ∀ (l : List Oper) {xs xs' : List Orc} {st st' : St} {ps : List Prop}, Z6l P T ops l xs st = some (ps, xs', st') → Zby ps → R st' → Zdk P ops R l st
 | [], xs, xs', st, st', ps, h, _, hr => by
  simp only [Z6l, Option.some.injEq, Prod.mk.injEq] at h
  rw [← h.2.2] at hr
  exact Zdk.nil hr
 | o :: l, xs, xs', st, st', ps, h, hc, hr => by
  simp only [Z6l] at h
  split at h
  ·rename_i ps1 xs1 st1 h1
   split at h
   ·rename_i qs xs2 st2 h2
    cases h
    obtain ⟨c1, c2⟩ := Zav.1 hc
    exact Zaqn hT h1 c1 (Z87 hT l h2 c2 hr)
   ·cases h
  ·cases h
structure Zao8 where
 ps : List Prop
 xs : List Orc
 plan : List (Option Stm)
 rest : List Oper
 tm : List (Nat × PV)
 σ : List (Nat × Blk)
def Zait (n : Nat) : Option Nat → Bool
 | some d => Nat.blt d n
 | none => true
theorem Zar5 {n : Nat} {d : Option Nat} (h : Zait n d = true) : ∀ e, d = some e → e < n := by
 rintro e rfl
 simpa only [Zait, Nat.blt_eq] using h
def Zlr (P : Program) (T : TS) (ops : Array Oper) (n : Nat) : List Oper → List Orc → List (Nat × PV) → List (Nat × Blk) → Zao8
 | [], xs, tm, σ => ⟨[], xs, [], [], tm, σ⟩
 | o :: l, xs, tm, σ =>
  bif Zait n o.dst then
   match Z6k ops tm o xs with
   | some (ps1, xs1, true) =>
    match Zais P T o tm σ xs1 with
    | some (ps2, xs2, x) =>
     match Zlr P T ops n l xs2 (Ztf tm o.dst x.s.p) (x.s.news ++ Zhi x.rm σ) with
     | ⟨ps, xs, plan, rest, tm, σ⟩ => ⟨ps1 ++ (ps2 ++ ps), xs, some x :: plan, rest, tm, σ⟩
    | none => ⟨[], xs, [], o :: l, tm, σ⟩
   | some (ps1, xs1, false) =>
    match Zlr P T ops n l xs1 (Ztf tm o.dst (.tup [])) σ with
    | ⟨ps, xs, plan, rest, tm, σ⟩ => ⟨ps1 ++ ps, xs, none :: plan, rest, tm, σ⟩
   | none => ⟨[], xs, [], o :: l, tm, σ⟩
  else ⟨[], xs, [], o :: l, tm, σ⟩
theorem Z3x (hT : TOK P T) {ops : Array Oper} {n : Nat} : ∀ (l : List Oper) (xs : List Orc) (tm : List (Nat × PV)) (σ : List (Nat × Blk)), Zby (Zlr P T ops n l xs tm σ).ps →
 ∃ pre, l = pre ++ (Zlr P T ops n l xs tm σ).rest ∧ Zfi P ops n pre (Zlr P T ops n l xs tm σ).plan tm σ ∧
  Zg1 pre (Zlr P T ops n l xs tm σ).plan tm = (Zlr P T ops n l xs tm σ).tm ∧ Zjv (Zlr P T ops n l xs tm σ).plan σ = (Zlr P T ops n l xs tm σ).σ
 | [], xs, tm, σ, _ => ⟨[], rfl, trivial, rfl, rfl⟩
 | o :: l, xs, tm, σ, hc => by
  have triv : ∀ r : Zao8, r = ⟨[], xs, [], o :: l, tm, σ⟩ → ∃ pre, o :: l = pre ++ r.rest ∧ Zfi P ops n pre r.plan tm σ ∧ Zg1 pre r.plan tm = r.tm ∧ Zjv r.plan σ = r.σ := by
   rintro r rfl
   exact ⟨[], rfl, trivial, rfl, rfl⟩
  rw [Zlr] at hc ⊢
  cases hd : Zait n o.dst with
  | false => exact triv _ rfl
  | true =>
   have hdn := Zar5 hd
   simp only [hd, cond_true] at hc ⊢
   split at hc
   ·rename_i ps1 xs1 hg
    split at hc
    ·rename_i ps2 xs2 s h2
     obtain ⟨c1, c2⟩ := Zav.1 hc
     obtain ⟨c2, c3⟩ := Zav.1 c2
     obtain ⟨pre, h1, h3, h4, h5⟩ := Z3x hT l xs2 (Ztf tm o.dst s.s.p) (s.s.news ++ Zhi s.rm σ) c3
     refine ⟨o :: pre, by rw [List.cons_append, ← h1], ?_, ?_, ?_⟩
     ·simp only [Zfi]
      exact ⟨hdn, Zjy hg c1, fun s' hs' => by cases hs'; exact Z86 hT h2 c2, h3⟩
     ·simp only [Zg1]; exact h4
     ·simp only [Zjv]; exact h5
    ·exact triv _ rfl
   ·rename_i ps1 xs1 hg
    obtain ⟨c1, c3⟩ := Zav.1 hc
    obtain ⟨pre, h1, h3, h4, h5⟩ := Z3x hT l xs1 (Ztf tm o.dst (.tup [])) σ c3
    refine ⟨o :: pre, by rw [List.cons_append, ← h1], ?_, ?_, ?_⟩
    ·simp only [Zfi]
     exact ⟨hdn, Zjy hg c1, (fun s' hs' => by cases hs'), h3⟩
    ·simp only [Zg1]; exact h4
    ·simp only [Zjv]; exact h5
   ·exact triv _ rfl
def Zaqo (P : Program) (T : TS) (ops : Array Oper) (st : St) (r : Zao8) : Es :=
 bif Zsa ops r.plan st.tm st.σ then
  match Z6l P T ops r.rest r.xs ⟨st.n, r.tm, r.σ⟩ with
  | some (qs, xs2, st2) => some (r.ps ++ qs, xs2, st2)
  | none => none
 else none
def Z88 (P : Program) (T : TS) (id : Nat) (ops : Array Oper) (draw : Bool) (xs : List Orc) (st : St) : Es :=
 bif draw then
  match evAt (some id) xs st with
  | some (ps0, xs0, st0) =>
   match Zaqo P T ops st0 (Zlr P T ops st0.n ops.toList xs0 st0.tm st0.σ) with
   | some (ps, xs, st) => some (ps0 ++ ps, xs, st)
   | none => none
  | none => none
 else Z6l P T ops ops.toList xs st
theorem Zand (hm : P.follows .mixedOrders = true) (hT : TOK P T) {ops : Array Oper} {draw : Bool} {id : Nat} {Q : Exit → St → Prop} {st st' : St} (h : Z88 P T id ops draw xs st = some (ps, xs', st')) (hc : Zby ps) (hq : Q .normal st') :
 PW P (.region id ops draw) Q st := by
 unfold Z88 at h
 cases draw with
 | false =>
  simp only [cond_false] at h
  exact PW.region (Z87 hT _ h hc hq)
 | true =>
  simp only [cond_true] at h
  split at h
  ·rename_i ps0 xs0 st0 h0
   split at h
   ·rename_i ps1 xs1 st1 h1
    cases h
    obtain ⟨c0, c1⟩ := Zav.1 hc
    refine PW.weaken (Zaof h0 c0) ?_
    unfold Zaqo at h1
    have hbh := Zcd h1; clear h1; obtain ⟨hb, h1⟩ := hbh
    split at h1
    ·rename_i qs xs2 st2 h2
     cases h1
     obtain ⟨c1, c2⟩ := Zav.1 c1
     obtain ⟨pre, e1, e2, e3, e4⟩ := Z3x hT ops.toList xs0 st0.tm st0.σ c1
     exact PW.region_draw hm _ pre _ e1 e2 hb (by rw [e3, e4]; exact Z87 hT _ h2 c2 hq)
    ·cases h1
   ·cases h
  ·cases h
end
end Go.PW
