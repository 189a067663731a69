import Derived.Test.YtnoofnejcoadfaaGreatDoorPwN
set_option linter.all false
namespace Go.PW
open Go.RowKit
section
variable {P : Program} {T : TS} {o : Oper} {tm : List (Nat × PV)} {σ : List (Nat × Blk)} {xs xs' : List Orc} {ps : List Prop} {s : Stp}
theorem Zfl {qs : List Prop} {need : List Nat} {p : PV} (h : ev2 qs xs need p = some (ps, xs', s)) : ps = qs ∧ xs' = xs ∧ s = ⟨need, p, []⟩ := by
 simp only [ev2, Option.some.injEq, Prod.mk.injEq] at h
 exact ⟨h.1.symm, h.2.1.symm, h.2.2.symm⟩
theorem Zabt {qs : List Prop} {p : PV} {l : Nat} {b : Blk} (h : ev3 qs xs p l b = some (ps, xs', s)) : ps = qs ∧ xs' = xs ∧ s = ⟨[], p, [(l, b)]⟩ := by
 simp only [ev3, Option.some.injEq, Prod.mk.injEq] at h
 exact ⟨h.1.symm, h.2.1.symm, h.2.2.symm⟩
theorem Zd1 (a b : Nat) : Nat.ble a b = true ↔ a ≤ b := by rw [Nat.ble_eq]
theorem Za4 {α : Type} {b : Bool} {x : Option α} {y : α} (h : (bif b then x else none) = some y) : b = true ∧ x = some y := by cases b <;> simp_all
theorem condNone' {α : Type} {b : Bool} {x : Option α} {y : α} (h : (bif b then none else x) = some y) : b = false ∧ x = some y := by cases b <;> simp_all
theorem Zaie (hT : TOK P T) {t : Nat} {i : Zld} {fs : List (Nat × Nat)} (h : get T t = some i) (hk : i.k = .struct fs) {pl : List (Nat × Nat)} (hp : Zvq T fs = some pl) : Zn6 P t = some pl := by
 have := (hT t i h).k
 rw [hk] at this
 obtain ⟨fs', hu, rfl⟩ := this
 simp only [Zn6, hu]
 generalize fs'.toList = l at hp
 clear hu hk h i
 induction l generalizing pl with
 | nil => simp only [List.map_nil, Zvq, Option.some.injEq] at hp; subst hp; rfl
 | cons f l ih =>
  simp only [List.map_cons, Zvq] at hp
  split at hp
  ·rename_i i ps hi hps
   cases hp
   obtain ⟨inf, hinf, hs⟩ := hT.size hi
   rw [List.mapM_cons, ih hps, hinf]
   simp [hs]
  ·cases hp
theorem Zazo (hT : TOK P T) {t : Nat} {parts : Array (Nat × Operand)} {qs : List (Nat × PV)} (ho : o.op = .build t parts) (hp : Ze2 tm parts.toList = some qs) (h : Zaml T t qs xs = some (ps, xs', s)) : Zaz P o tm σ s.need s.p s.news := by
 unfold Zaml at h
 split at h
 ·rename_i z fs _ hi
  split at h
  ·rename_i pl hpl
   split at h
   ·rename_i out hf
    obtain ⟨rfl, rfl, rfl⟩ := Zbs h
    exact Zasj ho ⟨.inl (Zaie hT hi rfl hpl), (hT t _ hi).z z rfl⟩ hp hf
   ·cases h
  ·cases h
 ·rename_i z n e _ hi
  split at h
  ·rename_i j hj
   split at h
   ·rename_i out hf
    obtain ⟨rfl, rfl, rfl⟩ := Zbs h
    refine Zasj ho ⟨.inr ?_, (hT t _ hi).z z rfl⟩ hp hf
    have hu : P.underlying t = some (.array n e) := (hT t _ hi).k
    obtain ⟨inf, hinf, hs⟩ := hT.size hj
    simp [Z7o, hu, hinf, hs]
   ·cases h
  ·cases h
 ·cases h
theorem Za36 (hT : TOK P T) {t len : Nat} {parts : Array (Nat × Operand)} {qs : List (Nat × PV)} (ho : o.op = .buildSlice t len parts) (hp : Ze2 tm parts.toList = some qs) (h : Zazj T t len qs xs = some (ps, xs', s)) : Zaz P o tm σ s.need s.p s.news := by
 unfold Zazj at h
 split at h
 ·rename_i e agg k by_ z kk fl he
  have hbh := Za4 h; clear h; obtain ⟨hb, h⟩ := hbh
  simp only [Bool.and_eq_true] at hb
  have hE := Zu2 (z := z) hT he rfl hb.1.1 hb.1.2
  have hsm := (Zd1 _ _).1 hb.2
  split at h
  ·rename_i out hf
   split at h
   ·rename_i ts xs2 hts
    obtain ⟨rfl, rfl, rfl⟩ := Zbs h
    exact Za6e ho hE hp hsm hf hts
   ·rename_i ts l xs2 hts
    have hbh := Za4 h; clear h; obtain ⟨hb2, h⟩ := hbh
    simp only [Bool.and_eq_true] at hb2
    obtain ⟨rfl, rfl, rfl⟩ := Zabt h
    exact Za7n l ((Zd1 _ _).1 hb2.1) ho hE hp hsm hf hts ((Zad _ _).1 hb2.2)
   ·cases h
  ·cases h
 ·cases h
theorem Za18 (hT : TOK P T) {t : Nat} {x y : Operand} {px py : PV} (ho : o.op = .makeSlice t x y) (hx : Zt tm x = some px) (hy : Zt tm y = some py) (h : Zasz T t px py xs = some (ps, xs', s)) (hc : Za7 ps) : Zaz P o tm σ s.need s.p s.news := by
 unfold Zasz at h
 split at h
 ·rename_i e agg k bytes z kk fl _ m _ c l n es xs2 he
  have hbh := Za4 h; clear h; obtain ⟨hb, h⟩ := hbh
  simp only [Bool.and_eq_true] at hb
  have hE := Zu2 (z := z) hT he rfl hb.1.1 hb.1.2
  split at h
  ·rename_i zs hzs
   obtain ⟨rfl, rfl, rfl⟩ := Zabt h
   obtain ⟨h1, h2, h3, h4, h5, h6, _⟩ := hc
   subst h5
   subst h6
   exact Za6f l ((Zd1 _ _).1 hb.2) ho hE hzs hx hy h1 h2 h3 h4
  ·cases h
 ·cases h
theorem Zamp (hT : TOK P T) {t i : Nat} {x : Operand} {px : PV} (ho : o.op = .fieldAddr t x i) (hx : Zt tm x = some px) (h : Zz6 T σ t i px xs = some (ps, xs', s)) (hc : Za7 ps) : Zaz P o tm σ s.need s.p s.news := by
 unfold Zz6 at h
 split at h
 ·rename_i q j hf
  have hbh := condNone' h; clear h; obtain ⟨hb, h⟩ := hbh
  have hs : j.size ≠ 0 := fun e => by rw [e] at hb; cases hb
  obtain ⟨i0, fs, fT, hi0, hk0, hfs, hj⟩ := Zacm hf
  have hfi := hT.fieldInfo hi0 hk0 hfs hj
  split at h
  ·split at h
   ·rename_i hg
    obtain ⟨rfl, rfl, rfl⟩ := Zfl h
    exact Za1u ho hfi hs hx hg
   ·cases h
  ·split at h
   ·rename_i hg
    obtain ⟨rfl, rfl, rfl⟩ := Zfl h
    exact Za1v ho hfi hs hx hg hc.1
   ·cases h
  ·obtain ⟨rfl, rfl, rfl⟩ := Zbs h
   exact Za1w ho hfi hs hx
  ·cases h
 ·cases h
theorem Zamq (hT : TOK P T) {t : Nat} {x y : Operand} {px py : PV} (ho : o.op = .indexAddr t x y) (hx : Zt tm x = some px) (hy : Zt tm y = some py) (h : Zz7 T σ t px py xs = some (ps, xs', s)) (hc : Za7 ps) : Zaz P o tm σ s.need s.p s.news := by
 unfold Zz7 at h
 split at h
 ·split at h
  ·split at h
   ·rename_i e j c xs2 he
    obtain ⟨rfl, rfl, rfl⟩ := Zc8 h
    obtain ⟨i0, hi0, hk0, hj⟩ := Zb1 he
    exact Za1y ho (hT.slInfo hi0 hk0 hj) hx hy hc.1 hc.2.1 hc.2.2.1
   ·cases h
  ·split at h
   ·rename_i e j k es n xs2 he hg
    have hbh := Za4 h; clear h; obtain ⟨hb, h⟩ := hbh
    have hb := (Zad _ _).1 hb
    obtain ⟨rfl, rfl, rfl⟩ := Zfl h
    obtain ⟨i0, hi0, hk0, hj⟩ := Zb1 he
    obtain ⟨h1, h2, h3, h4, _⟩ := hc
    subst h4
    exact Za1z ho (hT.slInfo hi0 hk0 hj) hx hy (by rw [hb]; exact hg) h1 h2 h3
   ·cases h
  ·split at h
   ·rename_i len e j cs n xs2 he hg
    obtain ⟨rfl, rfl, rfl⟩ := Zfl h
    obtain ⟨i0, hi0, hk0, hj⟩ := Zys he
    obtain ⟨h2, h3, h4, _⟩ := hc
    subst h4
    exact Za1x ho (hT.arrInfo hi0 hk0 hj) hx hy hg h2 h3
   ·cases h
  ·split at h
   ·rename_i len e j k els n xs2 he hg
    obtain ⟨rfl, rfl, rfl⟩ := Zfl h
    obtain ⟨i0, hi0, hk0, hj⟩ := Zys he
    obtain ⟨h1, h2, h3, h4, _⟩ := hc
    subst h4
    exact Zay9 ho (hT.arrInfo hi0 hk0 hj) hx hy hg h1 h2 h3
   ·cases h
  ·split at h
   ·rename_i len e j n xs2 he
    obtain ⟨rfl, rfl, rfl⟩ := Zc8 h
    obtain ⟨i0, hi0, hk0, hj⟩ := Zys he
    obtain ⟨h2, h3, h4, _⟩ := hc
    subst h4
    exact Zaza ho (hT.arrInfo hi0 hk0 hj) hx hy h2 h3
   ·cases h
  ·cases h
 ·cases h
theorem Zazp (hT : TOK P T) {t : Nat} {x y : Operand} {px py : PV} (ho : o.op = .index t x y) (hx : Zt tm x = some px) (hy : Zt tm y = some py) (h : Zamm T t px py xs = some (ps, xs', s)) (hc : Za7 ps) : Zaz P o tm σ s.need s.p s.news := by
 unfold Zamm at h
 split at h
 ·split at h
  ·split at h
   ·rename_i hk
    obtain ⟨rfl, rfl, rfl⟩ := Zc8 h
    simp only [Option.map_eq_some_iff] at hk
    obtain ⟨i0, hi0, hk⟩ := hk
    have hu := (hT _ _ hi0).k
    rw [hk] at hu
    exact Zaw4 ho hu hx hy hc.1 hc.2.1
   ·cases h
  ·split at h
   ·rename_i len e j c xs2 he
    obtain ⟨rfl, rfl, rfl⟩ := Zc8 h
    obtain ⟨i0, hi0, hk0, hj⟩ := Zys he
    have hu := (hT _ _ hi0).k
    rw [hk0] at hu
    exact Zaw3 ho hu (hT _ _ hj).ty hx hy hc.1 hc.2.1 hc.2.2.1
   ·cases h
  ·cases h
 ·cases h
theorem Zaox (hT : TOK P T) {t : Nat} {x : Operand} {px : PV} (ho : o.op = .load t x) (hx : Zt tm x = some px) (h : Zaia T σ t px xs = some (ps, xs', s)) (hc : Za7 ps) : Zaz P o tm σ s.need s.p s.news := by
 unfold Zaia at h
 split at h
 ·rename_i i hi
  have hty := (hT t i hi).ty
  split at h
  ·split at h
   ·rename_i hg
    split at h
    ·rename_i p hp
     obtain ⟨rfl, rfl, rfl⟩ := Zfl h
     exact Zasl ho hty hx hg hp
    ·cases h
   ·cases h
  ·split at h
   ·rename_i hg
    split at h
    ·rename_i p hp
     obtain ⟨rfl, rfl, rfl⟩ := Zfl h
     exact Za3o ho hty hx hg hc.1 hc.2.1 hp
    ·cases h
   ·cases h
  ·split at h
   ·rename_i p hp
    obtain ⟨rfl, rfl, rfl⟩ := Zbs h
    exact Zasm ho hty hx hp
   ·cases h
  ·cases h
 ·cases h
theorem Zaxc (hT : TOK P T) {t : Nat} {x : Operand} {px : PV} {c : List Zf} (ho : o.op = .load t x) (hx : Zt tm x = some px) (h : Zae8 T σ t px c xs = some (ps, xs', s)) (hc : Za7 ps) : Zaz P o tm σ s.need s.p s.news := by
 unfold Zae8 at h
 split at h
 ·rename_i i l q hi
  split at h
  ·rename_i cs hg
   obtain ⟨rfl, rfl, rfl⟩ := Zfl h
   exact Zasl ho (hT t i hi).ty hx hg hc.1
  ·cases h
 ·rename_i i cs hi
  obtain ⟨rfl, rfl, rfl⟩ := Zc8 h
  exact Zasm ho (hT t i hi).ty hx hc.1
 ·cases h
theorem Zjo {c : Call} {ce : Callee} {as : List Operand} {ts : List Nat} (hc : c.callee = ce) (ha : c.args.toList = as) (ht : c.argTypes.toList = ts) : c = { callee := ce, args := as.toArray, argTypes := ts.toArray } := by
 cases c
 subst hc ha ht
 simp
theorem Z7u {tm : List (Nat × PV)} {l : List Operand} {p : PV} (h : Zhv tm l = some [p]) : ∃ x, l = [x] ∧ Zt tm x = some p := by
 match l, h with
 | [x], h =>
  simp only [Zhv] at h
  split at h
  ·rename_i q qs hq hqs
   cases h
   cases hqs
   exact ⟨x, rfl, hq⟩
  ·cases h
 | x :: y :: l, h =>
  simp only [Zhv] at h
  split at h
  ·rename_i q qs hq hqs
   cases h
   split at hqs
   ·cases hqs
   ·cases hqs
  ·cases h
theorem Zno {tm : List (Nat × PV)} {l : List Operand} {p q : PV} (h : Zhv tm l = some [p, q]) : ∃ x y, l = [x, y] ∧ Zt tm x = some p ∧ Zt tm y = some q := by
 match l, h with
 | x :: l, h =>
  simp only [Zhv] at h
  split at h
  ·rename_i r rs hr hrs
   cases h
   obtain ⟨y, rfl, hy⟩ := Z7u hrs
   exact ⟨x, y, rfl, hr, hy⟩
  ·cases h
theorem Zae9 {p : PV} {cs : List Prop} {es : List (List Zf)} {ls : List Nat} (h : Zaib σ p = some (cs, es, ls)) (hc : Za7 cs) : Zn9 σ p es ∧ ∀ m, p.has m = true → m ∈ ls := by
 unfold Zaib at h
 split at h
 ·cases h; exact ⟨.tree _, fun m hm => by simp [PV.has] at hm⟩
 ·cases h; exact ⟨.nils, fun m hm => by simp [PV.has] at hm⟩
 ·cases h; exact ⟨.con _ _, fun m hm => by simp [PV.has] at hm⟩
 ·split at h
  ·rename_i hg
   cases h
   exact ⟨.own _ _ _ _ hg hc.1, fun m hm => by simp only [PV.has, Zad] at hm; subst hm; simp⟩
  ·cases h
 ·cases h
theorem Zaoy : ∀ {ls : List Nat}, Zaic ls = true → ∀ (i j L : Nat), ls[i]? = some L → ls[j]? = some L → i = j
 | [], _, i, j, L, h, _ => by simp at h
 | l :: r, h, i, j, L, h1, h2 => by
  simp only [Zaic, Bool.and_eq_true, Bool.not_eq_true'] at h
  have hmem : ∀ {r : List Nat} {L : Nat}, L ∈ r → Zvh r L = true := by
   intro r L
   induction r with
   | nil => intro h; cases h
   | cons x r ih =>
    intro h
    simp only [Zvh]
    cases hb : Nat.beq x L with
    | true => rfl
    | false =>
     rcases List.mem_cons.1 h with e | e
     ·subst e; simp at hb
     ·exact ih e
  cases i with
  | zero =>
   cases j with
   | zero => rfl
   | succ j =>
    simp only [List.getElem?_cons_zero, Option.some.injEq] at h1
    subst h1
    have := hmem (List.mem_of_getElem? (by simpa using h2 : r[j]? = some l))
    rw [h.1] at this; cases this
  | succ i =>
   cases j with
   | zero =>
    simp only [List.getElem?_cons_zero, Option.some.injEq] at h2
    subst h2
    have := hmem (List.mem_of_getElem? (by simpa using h1 : r[i]? = some l))
    rw [h.1] at this; cases this
   | succ j => rw [Zaoy h.2 i j L (by simpa using h1) (by simpa using h2)]
theorem Zas2 {m l : Nat} {o : Blk} : ∀ {σ : List (Nat × Blk)}, get σ m = some o → o.has l = true → l ∈ Zar4 σ
 | [], h, _ => by cases h
 | (j, b) :: r, h, hl => by
  simp only [Zar4, List.mem_append]
  simp only [PW.get] at h
  cases hb : Nat.beq j m with
  | true =>
   simp only [hb, cond_true, Option.some.injEq] at h
   subst h
   cases b with
   | box cs => exact .inl (Zij cs hl)
   | row k es => simp [Blk.has] at hl
   | mat k q es => simp [Blk.has] at hl
  | false => simp only [hb, cond_false] at h; exact .inr (Zas2 h hl)
theorem Zaoz {ls : List Nat} {d : Nat} {σa σ1 : List (Nat × Blk)} {res : PV} (h : Zaid ls d σa σ1 res = true) : Zar3 ls d σa σ1 res := by
 simp only [Zaid, Bool.and_eq_true, List.all_eq_true] at h
 obtain ⟨⟨⟨h1, h2⟩, h3⟩, h4⟩ := h
 refine { nd := Zaoy h1, len := (Zd1 _ _).1 h2, box := fun l o hg L hL => ?_, ge := fun l o hg hn => ?_, cl := fun l hl => ?_ }
 ·have := h3 _ (Zgd hg)
  simp only [hL, Bool.and_eq_true] at this
  cases o with
  | box cs =>
   refine ⟨cs, ?_⟩
   have h5 := this.2
   split at h5
   ·rename_i cs0 hc0
    exact ⟨cs0, rfl, hc0⟩
   ·cases h5
  | row k es => simp [Zazk] at this
  | mat k q es => simp [Zazk] at this
 ·have := h3 _ (Zgd hg)
  simp only [hn] at this
  exact (Zd1 _ _).1 this
 ·have hk : hasK σ1 l = true := by
   rcases hl with hl | ⟨m, o, hg, hl⟩
   ·exact h4 l (List.mem_append.2 (.inl (Zasy res hl)))
   ·exact h4 l (List.mem_append.2 (.inr (Zas2 hg hl)))
  unfold hasK at hk
  split at hk
  ·exact ⟨_, by assumption⟩
  ·cases hk
theorem Za19 : ∀ {σ1 : List (Nat × Blk)}, Za7 (scB σ1) → ∀ l o, get σ1 l = some o → o.SC
 | [], _, l, o, h => by cases h
 | (j, b) :: r, hc, l, o, h => by
  simp only [PW.get] at h
  cases hb : Nat.beq j l with
  | true =>
   simp only [hb, cond_true, Option.some.injEq] at h
   subst h
   cases b <;> exact hc.1
  | false =>
   simp only [hb, cond_false] at h
   cases b <;> exact Za19 hc.2 l o h
theorem Za2a {S : Bool} {σ1 : List (Nat × Blk)} {res : PV} (hc : Za7 (scC S σ1 res)) : S = true → res.sc = true ∧ ∀ l o, get σ1 l = some o → o.SC := by
 rintro rfl
 exact ⟨hc.1, Za19 hc.2⟩
theorem Za2b (hT : TOK P T) {c : Call} {qs : List PV} (ho : o.op = .call c) (hq : Zhv tm c.args.toList = some qs) (h : Zas0 T P tm σ c.callee qs c.argTypes.toList xs = some (ps, xs', s)) (hc : Za7 ps) : Zaz P o tm σ s.need s.p s.news := by
 unfold Zas0 at h
 split at h
 ·rename_i fo hce
  have hceq := Zjo hce rfl rfl
  rw [hceq] at ho
  split at h
  ·rename_i f caps res xs2 hfo
   split at h
   ·rename_i cs fs hfz
    have hbh := Za4 h; clear h; obtain ⟨hb, h⟩ := hbh
    obtain ⟨rfl, rfl, rfl⟩ := Zc8 h
    refine Za3s hc.1 ho hfo (by rw [Zk0 hq]; rfl) (Zm6 (fun _ => rfl) hfz ?_) hb
    have : ∀ {qs fs : List PV} {cs : List Prop}, Zg6 [] qs = some (cs, fs) → Za7 cs := by
     have hv : (∀ p : PV, ∀ {q : PV} {cs : List Prop}, Zda [] p = some (cs, q) → cs = []) ∧ (∀ qs : List PV, ∀ {fs : List PV} {cs : List Prop}, Zg6 [] qs = some (cs, fs) → cs = []) := by
      constructor
      ·intro p
       refine PV.rec (motive_1 := fun p => ∀ {q : PV} {cs : List Prop}, Zda [] p = some (cs, q) → cs = []) (motive_2 := fun qs => ∀ {fs : List PV} {cs : List Prop}, Zg6 [] qs = some (cs, fs) → cs = []) ?_ ?_ ?_ ?_ ?_ ?_ ?_ ?_ ?_ ?_ ?_ ?_ p
       ·intro x q cs h; simp only [Zda, Option.some.injEq, Prod.mk.injEq] at h; exact h.1.symm
       ·intro q cs h; simp only [Zda, Option.some.injEq, Prod.mk.injEq] at h; exact h.1.symm
       ·intro l n q cs h; simp [Zda, PW.get] at h
       ·intro l n q cs h; simp [Zda, PW.get] at h
       ·intro l n i j q cs h; simp [Zda] at h
       ·intro ts q cs h; simp only [Zda, Option.some.injEq, Prod.mk.injEq] at h; exact h.1.symm
       ·intro cs ih q ps h; simp only [Zda] at h; split at h
        ·rename_i h2; cases h; exact ih h2
        ·cases h
       ·intro cs ih q ps h; simp only [Zda] at h; split at h
        ·rename_i h2; cases h; exact ih h2
        ·cases h
       ·intro f cs ih q ps h; simp only [Zda] at h; split at h
        ·rename_i h2; cases h; exact ih h2
        ·cases h
       ·intro l d q cs h; simp [Zda, PW.get] at h
       ·intro fs cs h; simp only [Zg6, Option.some.injEq, Prod.mk.injEq] at h; exact h.1.symm
       ·intro p ps ih1 ih2 fs cs h; simp only [Zg6] at h; split at h
        ·rename_i h1 h2; cases h; rw [ih1 h1, ih2 h2]; rfl
        ·cases h
      ·intro qs
       refine PV.rec_1 (motive_1 := fun p => ∀ {q : PV} {cs : List Prop}, Zda [] p = some (cs, q) → cs = []) (motive_2 := fun qs => ∀ {fs : List PV} {cs : List Prop}, Zg6 [] qs = some (cs, fs) → cs = []) ?_ ?_ ?_ ?_ ?_ ?_ ?_ ?_ ?_ ?_ ?_ ?_ qs
       ·intro x q cs h; simp only [Zda, Option.some.injEq, Prod.mk.injEq] at h; exact h.1.symm
       ·intro q cs h; simp only [Zda, Option.some.injEq, Prod.mk.injEq] at h; exact h.1.symm
       ·intro l n q cs h; simp [Zda, PW.get] at h
       ·intro l n q cs h; simp [Zda, PW.get] at h
       ·intro l n i j q cs h; simp [Zda] at h
       ·intro ts q cs h; simp only [Zda, Option.some.injEq, Prod.mk.injEq] at h; exact h.1.symm
       ·intro cs ih q ps h; simp only [Zda] at h; split at h
        ·rename_i h2; cases h; exact ih h2
        ·cases h
       ·intro cs ih q ps h; simp only [Zda] at h; split at h
        ·rename_i h2; cases h; exact ih h2
        ·cases h
       ·intro f cs ih q ps h; simp only [Zda] at h; split at h
        ·rename_i h2; cases h; exact ih h2
        ·cases h
       ·intro l d q cs h; simp [Zda, PW.get] at h
       ·intro fs cs h; simp only [Zg6, Option.some.injEq, Prod.mk.injEq] at h; exact h.1.symm
       ·intro p ps ih1 ih2 fs cs h; simp only [Zg6] at h; split at h
        ·rename_i h1 h2; cases h; rw [ih1 h1, ih2 h2]; rfl
        ·cases h
     intro qs fs cs h
     rw [hv.2 qs h]; trivial
    exact this hfz
   ·split at h
    ·rename_i cs fs hfz
     have hbh := Za4 h; clear h; obtain ⟨hb, h⟩ := hbh
     obtain ⟨rfl, rfl, rfl⟩ := Zfl h
     obtain ⟨hc1, hc2⟩ := Z9.1 hc
     exact Za3r hc2.1 ho hfo (by rw [Zk0 hq]; rfl) (Zm6 (fun _ => rfl) hfz hc1) (fun m hm => Zij _ hm) hb
    ·cases h
  ·rename_i f caps S ls d fr res xs2 hfo
   split at h
   ·rename_i cs qs' σa hav hpa
    have hbh := Za4 h; clear h; obtain ⟨hb, h⟩ := hbh
    cases h
    obtain ⟨c1, c2⟩ := Z9.1 hc
    obtain ⟨c2, c3⟩ := Z9.1 c2
    exact Za3w c3.1 ho hfo (by rw [Zk0 hq]; rfl) hav c1 hpa (Zaoz hb) (Za2a c2) (fun m hm => by
     rcases hm with hm | hm
     ·exact List.mem_append.2 (.inl hm)
     ·exact List.mem_append.2 (.inr (Zij _ hm)))
   ·cases h
  ·cases h
 ·rename_i hce
  split at h
  ·rename_i p t n xs2 hat
   obtain ⟨x, hax, hx⟩ := Z7u hq
   have hceq := Zjo hce hax hat
   rw [hceq] at ho
   split at h
   ·rename_i e es hk
    obtain ⟨rfl, rfl, rfl⟩ := Zc8 h
    simp only [Option.map_eq_some_iff] at hk
    obtain ⟨i0, hi0, hk⟩ := hk
    have hu := (hT _ _ hi0).k
    rw [hk] at hu
    have := Za7l (σ := σ) ho hu hx
    rw [hc.1] at this
    exact this
   ·rename_i e hk
    obtain ⟨rfl, rfl, rfl⟩ := Zc8 h
    simp only [Option.map_eq_some_iff] at hk
    obtain ⟨i0, hi0, hk⟩ := hk
    have hu := (hT _ _ hi0).k
    rw [hk] at hu
    have := Za1r (σ := σ) ho hu hx
    rw [hc.1] at this
    exact this
   ·rename_i e l m hk
    split at h
    ·rename_i k es hg
     obtain ⟨rfl, rfl, rfl⟩ := Zfl h
     simp only [Option.map_eq_some_iff] at hk
     obtain ⟨i0, hi0, hk⟩ := hk
     have hu := (hT _ _ hi0).k
     rw [hk] at hu
     have := Za1s ho hu hx hg hc.1
     rw [hc.2.1] at this
     exact this
    ·cases h
   ·rename_i st hk
    obtain ⟨rfl, rfl, rfl⟩ := Zc8 h
    simp only [Option.map_eq_some_iff] at hk
    obtain ⟨i0, hi0, hk⟩ := hk
    have hu := (hT _ _ hi0).k
    rw [hk] at hu
    have := Za1t (σ := σ) ho hu hx
    rw [hc.1] at this
    exact this
   ·cases h
  ·cases h
 ·rename_i hce
  split at h
  ·rename_i k a k' b
   obtain ⟨x, y', hax, hx, hy⟩ := Zno hq
   have hceq := Zjo hce hax rfl
   rw [hceq] at ho
   obtain ⟨rfl, rfl, rfl⟩ := Zbs h
   exact Za7p ho hx hy
  ·cases h
 ·rename_i hce
  split at h
  ·rename_i k a k' b
   obtain ⟨x, y', hax, hx, hy⟩ := Zno hq
   have hceq := Zjo hce hax rfl
   rw [hceq] at ho
   obtain ⟨rfl, rfl, rfl⟩ := Zbs h
   exact Za7q ho hx hy
  ·cases h
 ·rename_i hce
  split at h
  ·rename_i y t tx l es xs2 hat
   obtain ⟨x, y', hax, hx, hy⟩ := Zno hq
   have hceq := Zjo hce hax hat
   rw [hceq] at ho
   split at h
   ·rename_i e k bytes z kk fl ex cs ys ls he hex hsrc
    have hbh := Za4 h; clear h; obtain ⟨hb, h⟩ := hbh
    simp only [Bool.and_eq_true] at hb
    have hE := Zu2 (z := z) hT he rfl hb.1.1 hb.1.2
    simp only [Option.some.injEq, Prod.mk.injEq] at h
    obtain ⟨rfl, rfl, rfl⟩ := h
    obtain ⟨hc1, hc2⟩ := Z9.1 hc
    obtain ⟨h1, h2, h3, h4, _⟩ := hc2
    subst h1
    obtain ⟨hs, hn⟩ := Zae9 hsrc hc1
    obtain ⟨i1, hi1, hk1, _⟩ := Zb1 hex
    have hu1 := (hT _ _ hi1).k
    rw [hk1] at hu1
    exact Zaso l ((Zd1 _ _).1 hb.2) ho hE ⟨_, hu1⟩ hx hy hs hn h2 h3 h4
   ·cases h
  ·cases h
 ·cases h
theorem Zazq {y : Operand} (h : Zabr y = true) : y = .const (.slice none 0 0) := by
 unfold Zabr at h
 split at h
 ·rfl
 ·cases h
theorem Za37 (hT : TOK P T) {op : BinOp} {t : Nat} {x : Operand} {px : PV} {yT : TypeId} (ho : o.op = .binOp op t x (.const (.slice none 0 0)) yT) (hx : Zt tm x = some px) (h : Zazl T op t px xs = some (ps, xs', s)) (hc : Za7 ps) : Zaz P o tm σ s.need s.p s.news := by
 unfold Zazl at h
 split at h
 ·rename_i e he
  obtain ⟨rfl, rfl, rfl⟩ := Zc8 h
  obtain ⟨i, hi, hk, hj⟩ := Zb1 he
  have hu := (hT _ _ hi).k
  rw [hk] at hu
  exact Zayh hu ho (.inl rfl) hx hc.1
 ·rename_i e he
  obtain ⟨rfl, rfl, rfl⟩ := Zc8 h
  obtain ⟨i, hi, hk, hj⟩ := Zb1 he
  have hu := (hT _ _ hi).k
  rw [hk] at hu
  exact Zayh hu ho (.inr rfl) hx hc.1
 ·rename_i e he
  obtain ⟨rfl, rfl, rfl⟩ := Zbs h
  obtain ⟨i, hi, hk, hj⟩ := Zb1 he
  have hu := (hT _ _ hi).k
  rw [hk] at hu
  exact Zayi hu ho (.inl rfl) hx
 ·rename_i e he
  obtain ⟨rfl, rfl, rfl⟩ := Zbs h
  obtain ⟨i, hi, hk, hj⟩ := Zb1 he
  have hu := (hT _ _ hi).k
  rw [hk] at hu
  exact Zayi hu ho (.inr rfl) hx
 ·cases h
theorem Zazr {y : Operand} (h : Zabs y = true) : y = .const (.pointer none) := by
 unfold Zabs at h
 split at h
 ·rfl
 ·cases h
theorem Za2c {op : BinOp} {t : Nat} {x : Operand} {px : PV} {yT : TypeId} (hu : P.underlying t = some (.pointer (P.pointee t))) (ho : o.op = .binOp op t x (.const (.pointer none)) yT) (hx : Zt tm x = some px) (h : Zas1 σ op px xs = some (ps, xs', s)) : Zaz P o tm σ s.need s.p s.news := by
 unfold Zas1 at h
 split at h
 ·obtain ⟨rfl, rfl, rfl⟩ := Zbs h; exact Zast hu ho (.inl rfl) hx
 ·obtain ⟨rfl, rfl, rfl⟩ := Zbs h; exact Zast hu ho (.inr rfl) hx
 ·split at h
  ·rename_i hg; obtain ⟨rfl, rfl, rfl⟩ := Zfl h; exact Zasu hu ho (.inl rfl) hx hg
  ·cases h
 ·split at h
  ·rename_i hg; obtain ⟨rfl, rfl, rfl⟩ := Zfl h; exact Zasu hu ho (.inr rfl) hx hg
  ·cases h
 ·cases h
theorem Zazs (hT : TOK P T) {t : Nat} {x : Operand} {lo hi : Option Operand} {px : PV} (ho : o.op = .slice t x lo hi none) (hx : Zt tm x = some px) (h : Zamn T tm t px lo hi xs = some (ps, xs', s)) (hc : Za7 ps) : Zaz P o tm σ s.need s.p s.news := by
 unfold Zamn at h
 split at h
 ·rename_i sv z xs2 he
  split at h
  ·rename_i l hh h3 h1 h2
   obtain ⟨rfl, rfl, rfl⟩ := Zc8 h
   simp only [Option.map_eq_some_iff] at h3
   obtain ⟨i3, hi3, hk3⟩ := h3
   have hu3 := (hT _ _ hi3).k
   rw [hk3] at hu3
   obtain ⟨c1, c2, c3, c4, _⟩ := hc
   subst c4
   exact Za13 ho hu3 hx h1 h2 c1 c2 c3
  ·cases h
 ·rename_i e j es es' xs2 he
  split at h
  ·rename_i l hh h1 h2
   obtain ⟨rfl, rfl, rfl⟩ := Zc8 h
   obtain ⟨i, hi, hk, hj⟩ := Zb1 he
   obtain ⟨c1, c2, c3, c4, c5, _⟩ := hc
   subst c5
   exact Za12 ho (hT.slInfo hi hk hj) hx h1 h2 c1 c2 c3 c4
  ·cases h
 ·cases h
theorem Za6k (hT : TOK P T) (h : evOp P T o tm σ xs = some (ps, xs', s)) (hc : Za7 ps) : Zaz P o tm σ s.need s.p s.news := by
 unfold evOp at h
 split at h
 ·rename_i x ho
  split at h
  ·rename_i p hp; obtain ⟨rfl, rfl, rfl⟩ := Zbs h; exact Za6c ho hp
  ·cases h
 ·rename_i x ho
  split at h
  ·rename_i p hp; obtain ⟨rfl, rfl, rfl⟩ := Zbs h; exact Za1p ho hp
  ·cases h
 ·rename_i c x y ho
  split at h
  ·rename_i e b xs2 he
   split at h
   ·rename_i p hp
    obtain ⟨rfl, rfl, rfl⟩ := Zc8 h
    have := hc.1
    subst this
    exact Za6d ho he hp
   ·cases h
  ·cases h
 ·rename_i op xT x y yT ho
  cases hn : Zabr y with
  | true =>
   rw [Zazq hn] at ho
   simp only [hn, cond_true] at h
   split at h
   ·rename_i px hx; exact Za37 hT ho hx h hc
   ·cases h
  | false =>
   simp only [hn, cond_false] at h
   cases hn2 : Zabs y with
   | true =>
    rw [Zazr hn2] at ho
    simp only [hn2, cond_true] at h
    split at h
    ·rename_i px hx hk
     simp only [Option.map_eq_some_iff] at hk
     obtain ⟨i0, hi0, hk⟩ := hk
     have hu := (hT _ _ hi0).k
     rw [hk] at hu
     exact Za2c hu ho hx h
    ·cases h
   | false =>
    simp only [hn2, cond_false] at h
    split at h
    ·rename_i px py hx hy; exact Za33 hT ho hx hy h hc
    ·cases h
 ·rename_i op t x ho
  split at h
  ·rename_i b hb; obtain ⟨rfl, rfl, rfl⟩ := Zbs h; exact Za7j ho hb
  ·rename_i k a hb; obtain ⟨rfl, rfl, rfl⟩ := Zbs h; exact Za7k ho hb
  ·rename_i k a hb; obtain ⟨rfl, rfl, rfl⟩ := Zbs h; exact Za3l ho hb
  ·cases h
 ·rename_i sT dT x ho
  split at h
  ·rename_i k k' k2 a h1 h2 hx
   obtain ⟨rfl, rfl, rfl⟩ := Zbs h
   simp only [Option.map_eq_some_iff] at h1 h2
   obtain ⟨i1, hi1, hk1⟩ := h1
   obtain ⟨i2, hi2, hk2⟩ := h2
   have hu1 := (hT _ _ hi1).k
   have hu2 := (hT _ _ hi2).k
   rw [hk1] at hu1
   rw [hk2] at hu2
   exact Zay6 ho ⟨_, hu1⟩ hu2 hx
  ·rename_i a h1 h2 hx
   obtain ⟨rfl, rfl, rfl⟩ := Zbs h
   simp only [Option.map_eq_some_iff] at h1 h2
   obtain ⟨i1, hi1, hk1⟩ := h1
   obtain ⟨i2, hi2, hk2⟩ := h2
   have hu1 := (hT _ _ hi1).k
   have hu2 := (hT _ _ hi2).k
   rw [hk1] at hu1
   rw [hk2] at hu2
   exact Zay7 ho hu1 hu2 hx
  ·rename_i e a h1 h2 hx
   split at h
   ·rename_i es xs2 h3
    obtain ⟨rfl, rfl, rfl⟩ := Zc8 h
    simp only [Option.map_eq_some_iff] at h1 h2 h3
    obtain ⟨i1, hi1, hk1⟩ := h1
    obtain ⟨i2, hi2, hk2⟩ := h2
    obtain ⟨i3, hi3, hk3⟩ := h3
    have hu1 := (hT _ _ hi1).k
    have hu2 := (hT _ _ hi2).k
    have hu3 := (hT _ _ hi3).k
    rw [hk1] at hu1
    rw [hk2] at hu2
    rw [hk3] at hu3
    obtain ⟨rfl, hl, _⟩ := hc
    exact Za3u ho hu1 hu2 hu3 hx hl
   ·cases h
  ·rename_i e es h1 h2 hx
   split at h
   ·rename_i s xs2 h3
    obtain ⟨rfl, rfl, rfl⟩ := Zc8 h
    simp only [Option.map_eq_some_iff] at h1 h2 h3
    obtain ⟨i1, hi1, hk1⟩ := h1
    obtain ⟨i2, hi2, hk2⟩ := h2
    obtain ⟨i3, hi3, hk3⟩ := h3
    have hu1 := (hT _ _ hi1).k
    have hu2 := (hT _ _ hi2).k
    have hu3 := (hT _ _ hi3).k
    rw [hk1] at hu1
    rw [hk2] at hu2
    rw [hk3] at hu3
    obtain ⟨rfl, hl, _⟩ := hc
    exact Za3v ho hu1 hu2 hu3 hx hl
   ·cases h
  ·cases h
 ·rename_i xT x i ho
  split at h
  ·rename_i q j cs hf hx
   split at h
   ·rename_i p hp
    obtain ⟨rfl, rfl, rfl⟩ := Zbs h
    obtain ⟨i0, fs, fT, hi0, hk0, hfs, hj⟩ := Zacm hf
    have hu := (hT _ _ hi0).k
    rw [hk0] at hu
    obtain ⟨fs', hu, rfl⟩ := hu
    simp only [List.getElem?_map, Option.map_eq_some_iff] at hfs
    obtain ⟨fl, hfl, he⟩ := hfs
    cases he
    exact Za3m fs' fl ho hu (by simpa using hfl) rfl rfl (hT _ _ hj).ty hx hp
   ·cases h
  ·cases h
 ·rename_i x i ho
  split at h
  ·rename_i cs hx
   split at h
   ·rename_i p hp; obtain ⟨rfl, rfl, rfl⟩ := Zbs h; exact Zay8 ho hx hp
   ·cases h
  ·cases h
 ·rename_i x ho
  split at h
  ·rename_i cs hx; obtain ⟨rfl, rfl, rfl⟩ := Zbs h; exact Zaw0 ho hx trivial
  ·rename_i l q hx
   split at h
   ·rename_i hg; obtain ⟨rfl, rfl, rfl⟩ := Zfl h; exact Zasv ho hx hg
   ·cases h
  ·rename_i l m i q hx
   split at h
   ·rename_i hg; obtain ⟨rfl, rfl, rfl⟩ := Zfl h; exact Zasw ho hx hg hc.1
   ·cases h
  ·cases h
 ·rename_i f first caps ho
  have hbh := Za4 h; clear h; obtain ⟨hb, h⟩ := hbh
  have hb := (Zad _ _).1 hb
  have : first = #[] := Array.size_eq_zero_iff.1 hb
  subst this
  split at h
  ·rename_i qs hq; obtain ⟨rfl, rfl, rfl⟩ := Zbs h; exact Zaw1 (t := 0) ho (Zk0 hq)
  ·cases h
 ·rename_i t parts ho
  split at h
  ·rename_i qs hq; exact Zazo hT ho hq h
  ·cases h
 ·rename_i t len parts ho
  split at h
  ·rename_i qs hq; exact Za36 hT ho hq h
  ·cases h
 ·rename_i t x ho
  split at h
  ·rename_i p l xs2 hx
   have hbh := Za4 h; clear h; obtain ⟨hb, h⟩ := hbh
   simp only [Bool.and_eq_true] at hb
   obtain ⟨rfl, rfl, rfl⟩ := Zabt h
   exact Za7m l ((Zd1 _ _).1 hb.2) ho hx hb.1
  ·cases h
 ·rename_i t ho
  split at h
  ·rename_i z l xs2 hz
   have hbh := Za4 h; clear h; obtain ⟨hb, h⟩ := hbh
   obtain ⟨rfl, rfl, rfl⟩ := Zabt h
   simp only [Option.bind_eq_some_iff] at hz
   obtain ⟨i0, hi0, hz⟩ := hz
   exact Za3n l ((Zd1 _ _).1 hb) ho ((hT _ _ hi0).z z hz)
  ·cases h
 ·rename_i t x y ho
  split at h
  ·rename_i px py hx hy; exact Za18 hT ho hx hy h hc
  ·cases h
 ·rename_i t x i ho
  split at h
  ·rename_i px hx; exact Zamp hT ho hx h hc
  ·cases h
 ·rename_i t x y ho
  split at h
  ·rename_i px py hx hy; exact Zamq hT ho hx hy h hc
  ·cases h
 ·rename_i t x y ho
  split at h
  ·rename_i px py hx hy; exact Zazp hT ho hx hy h hc
  ·cases h
 ·rename_i t x ho
  split at h
  ·rename_i px hx
   split at h
   ·rename_i d c xs2 d' hd
    cases hb : Nat.beq d d' with
    | true => simp only [hb, cond_true] at h; exact Zaxc hT ho hx h hc
    | false => simp only [hb, cond_false] at h; exact Zaox hT ho hx h hc
   ·exact Zaox hT ho hx h hc
  ·cases h
 ·rename_i t x y z ho
  split at h
  ·rename_i ej es k1 k2 he hx hy hz
   obtain ⟨rfl, rfl, rfl⟩ := Zbs h
   obtain ⟨i, hi, hk, hj⟩ := Zb1 he
   exact Zaze ho (hT.slInfo hi hk hj) hx hy hz
  ·cases h
 ·rename_i t x lo hi ho
  split at h
  ·rename_i px hx; exact Zazs hT ho hx h hc
  ·cases h
 ·rename_i c ho
  split at h
  ·rename_i qs hq; exact Za2b hT ho hq h hc
  ·cases h
 ·cases h
theorem Zazt {x : Stm} {c : Call} {fo : Operand} (hce : c.callee = .value fo) (ho : o.op = .call c) (h : Zamo P tm σ fo c.args.toList xs = some (ps, xs', x)) (hc : Za7 ps) : OpF P o tm σ x.s.need x.rm x.s.p x.s.news := by
 have hceq := Zjo hce rfl rfl
 rw [hceq] at ho
 unfold Zamo at h
 split at h
 ·rename_i f caps qs0 S ls d σ1 res xs2 hfo hps
  split at h
  ·rename_i cs qs σa hav hpa
   have hbh := Za4 h; clear h; obtain ⟨hb, h⟩ := hbh
   simp only [Bool.and_eq_true] at hb
   cases h
   obtain ⟨c1, c2⟩ := Z9.1 hc
   obtain ⟨c2, c3⟩ := Z9.1 c2
   refine Za7r c3.1 ho hfo (by rw [Zk0 hps]; rfl) hav c1 hpa (Zaoz hb.1) (Za2a c2) (fun m hm => ?_) (fun l o hg hn hmem => ?_)
   ·rcases hm with hm | hm
    ·exact List.mem_append.2 (.inl hm)
    ·exact List.mem_append.2 (.inr (Zij _ hm))
   ·have := List.all_eq_true.1 hb.2 _ (Zgd hg)
    simp only [hn, Bool.not_eq_true'] at this
    rw [Z3y.2 hmem] at this; cases this
  ·cases h
 ·cases h
theorem Za38 (hT : TOK P T) {x : Stm} (h : Zazm P T o tm σ xs = some (ps, xs', x)) (hc : Za7 ps) : OpF P o tm σ x.s.need x.rm x.s.p x.s.news := by
 unfold Zazm at h
 split at h
 ·rename_i c ho
  split at h
  ·rename_i fo xs2 hce; exact Zazt hce ho h hc
  ·rename_i l m y t tx es xs2 hce hps hat
   obtain ⟨x, y', hax, hx, hy⟩ := Zno hps
   have hceq := Zjo hce hax hat
   rw [hceq] at ho
   split at h
   ·rename_i e agg k bytes z kk fl ex cs ys ls k' es0 he hex hsrc hg
    have hbh := Za4 h; clear h; obtain ⟨hb, h⟩ := hbh
    simp only [Bool.and_eq_true, Zad] at hb
    obtain ⟨⟨hb1, hb2⟩, hb3⟩ := hb
    subst hb3
    have hE := Zu2 (z := z) hT he rfl hb1 ((Zad _ _).2 hb2)
    cases h
    obtain ⟨hc1, hc2⟩ := Z9.1 hc
    obtain ⟨h1, h2, h3, h4, h5, _⟩ := hc2
    obtain ⟨hs, hn⟩ := Zae9 hsrc hc1
    obtain ⟨i1, hi1, hk1, _⟩ := Zb1 hex
    have hu1 := (hT _ _ hi1).k
    rw [hk1] at hu1
    subst h2
    have hl : (es0 ++ ys).length = m + ys.length := by rw [List.length_append, h1]
    rw [hl] at h4 h5
    show OpF P o tm σ (l :: ls) [l] (.osl l (es0 ++ ys).length) [(l, .row k (es0 ++ ys))]
    rw [hl]
    refine Za3p ho hE ⟨_, hu1⟩ hx hg h1 hy hs (fun q hq => ?_) h3 h4 h5
    rcases hq with rfl | hq
    ·exact List.mem_cons_self ..
    ·exact List.mem_cons_of_mem _ (hn q hq)
   ·cases h
  ·rename_i l m y t tx q es xs2 hce hps hat
   obtain ⟨x, y', hax, hx, hy⟩ := Zno hps
   have hceq := Zjo hce hax hat
   rw [hceq] at ho
   split at h
   ·rename_i e agg k bytes z kk fl ex cs ys ls k' es0 he hex hsrc hg
    have hbh := Za4 h; clear h; obtain ⟨hb, h⟩ := hbh
    simp only [Bool.and_eq_true, Zad] at hb
    obtain ⟨⟨hb1, hb2⟩, hb3⟩ := hb
    subst hb3
    have hE := Zu2 (z := z) hT he rfl hb1 ((Zad _ _).2 hb2)
    cases h
    obtain ⟨hc1, hc2⟩ := Z9.1 hc
    obtain ⟨h1, h2, h3, h4, h5, _⟩ := hc2
    obtain ⟨hs, hn⟩ := Zae9 hsrc hc1
    obtain ⟨i1, hi1, hk1, _⟩ := Zb1 hex
    have hu1 := (hT _ _ hi1).k
    rw [hk1] at hu1
    subst h5
    rw [← h2]
    refine Za7o ho hE ⟨_, hu1⟩ hx hg h1 hy hs (fun q hq => ?_) h4 h3
    rcases hq with rfl | hq
    ·exact List.mem_cons_self ..
    ·exact List.mem_cons_of_mem _ (hn q hq)
   ·cases h
  ·cases h
 ·rename_i t x y ho
  split at h
  ·rename_i i l q p hd hi hx hy
   split at h
   ·rename_i cs cs' xs2 hg
    have hbh := Za4 h; clear h; obtain ⟨hb, h⟩ := hbh
    simp only [Bool.and_eq_true, Zad] at hb
    cases h
    obtain ⟨h1, h2, _⟩ := hc
    subst h2
    exact Zasn ho hd (hT _ _ hi).ty hx hy hg hb.1 hb.2 h1
   ·rename_i cs hg _
    have hbh := Za4 h; clear h; obtain ⟨hb, h⟩ := hbh
    simp only [Bool.and_eq_true, Zad, Zd1] at hb
    cases h
    exact Zasn ho hd (hT _ _ hi).ty hx hy hg hb.1.1 hb.1.2 hb.2
   ·cases h
  ·cases h
 ·cases h
theorem Za39 (hT : TOK P T) {x : Stm} (h : Zazn T o tm σ xs = some (ps, xs', x)) (hc : Za7 ps) : OpF P o tm σ x.s.need x.rm x.s.p x.s.news := by
 unfold Zazn at h
 split at h
 ·rename_i t x y ho
  split at h
  ·rename_i e j l m ki i n xs2 he hx hy
   split at h
   ·rename_i k es hg
    have hbh := Za4 h; clear h; obtain ⟨hb, h⟩ := hbh
    rw [Zad] at hb
    cases h
    obtain ⟨h1, h2, h3, h4, _⟩ := hc
    subst h4
    obtain ⟨i0, hi0, hk0, hj⟩ := Zb1 he
    exact (Za6i ho (hb ▸ hT.slInfo hi0 hk0 hj) hx hy hg h1 h2 h3).toF
   ·cases h
  ·cases h
 ·rename_i t x y ho
  split at h
  ·rename_i e j l m ki i n xs2 he hx hy
   split at h
   ·rename_i es hg
    have hbh := Za4 h; clear h; obtain ⟨hb, h⟩ := hbh
    rw [Zad] at hb
    cases h
    obtain ⟨h1, h2, h3, h4, _⟩ := hc
    subst h4
    obtain ⟨i0, hi0, hk0, hj⟩ := Zb1 he
    exact (Za17 ho (hb ▸ hT.slInfo hi0 hk0 hj) hx hy hg h1 h2 h3).toF
   ·cases h
  ·rename_i e j l m jj ki i inner n xs2 he hx hy
   split at h
   ·rename_i es hg
    have hbh := Za4 h; clear h; obtain ⟨hb, h⟩ := hbh
    rw [Zad] at hb
    cases h
    obtain ⟨h1, h2, h3, h4, h5, _⟩ := hc
    subst h5
    obtain ⟨i0, hi0, hk0, hj⟩ := Zb1 he
    exact (Zazg ho (hb ▸ hT.slInfo hi0 hk0 hj) hx hy hg h1 h2 h3 h4).toF
   ·cases h
  ·cases h
 ·rename_i t x ho
  split at h
  ·rename_i i l m j hi hx
   split at h
   ·rename_i es hg
    have hbh := Za4 h; clear h; obtain ⟨hb, h⟩ := hbh
    simp only [Bool.and_eq_true, Bool.not_eq_true', Zad] at hb
    cases h
    have hty := (hT t i hi).ty
    rw [hb.1, hb.2] at hty
    exact (Za3z ho hty hx hg hc.1 hc.2.1).toF
   ·cases h
  ·cases h
 ·rename_i t parts ho
  split at h
  ·rename_i e agg by_ z kk fl l2 n2 L xs2 he hp
   split at h
   ·rename_i es2 out hg hf
    have hbh := Za4 h; clear h; obtain ⟨hb, h⟩ := hbh
    simp only [Bool.and_eq_true, Bool.not_eq_true', Zd1] at hb
    cases h
    obtain ⟨h1, h2, h3, _⟩ := hc
    subst h1
    exact Za6j L hb.1.2 ho (Zu2 (z := z) hT he rfl rfl hb.1.1) hp hf hg h2 h3 (fun e => by subst e; simp at hb)
   ·cases h
  ·cases h
 ·rename_i t parts ho
  split at h
  ·rename_i e agg by_ z kk fl L xs2 he hp
   have hbh := Za4 h; clear h; obtain ⟨hb, h⟩ := hbh
   cases h
   exact Za30 L ho (Zu2 (z := z) hT he rfl rfl hb) hp
  ·cases h
 ·rename_i c ho
  split at h
  ·rename_i l m l3 m3 t tx es xs2 hce hps hat
   obtain ⟨x, y', hax, hx, hy⟩ := Zno hps
   have hceq := Zjo hce hax hat
   rw [hceq] at ho
   split at h
   ·rename_i e agg bytes z kk fl ex es0 es3 he hex hg hg3
    have hbh := Za4 h; clear h; obtain ⟨hb, h⟩ := hbh
    simp only [Bool.and_eq_true, Bool.not_eq_true', Nat.blt_eq] at hb
    cases h
    obtain ⟨h1, h2, h3, h4, h5, _⟩ := hc
    subst h3
    obtain ⟨i1, hi1, hk1, _⟩ := Zb1 hex
    have hu1 := (hT _ _ hi1).k
    rw [hk1] at hu1
    show OpF P o tm σ [l, l3] [l, l3] (.own l (.msl (es0 ++ es3).length)) [(l, .mat 1 0 (es0 ++ es3))]
    rw [List.length_append, h1, h2]
    exact Za7u ho (Zu2 (z := z) hT he rfl rfl hb.1.1) ⟨_, hu1⟩ hx hg h1 hy hg3 h2 hb.1.2 (fun e => by subst e; simp at hb) h4 h5
   ·cases h
  ·cases h
 ·cases h
theorem Zafa (hT : TOK P T) {x : Stm} (h : Zar5 P T o tm σ xs = some (ps, xs', x)) (hc : Za7 ps) : OpF P o tm σ x.s.need x.rm x.s.p x.s.news := by
 unfold Zar5 at h
 split at h
 ·rename_i he
  cases h
  exact (Za6k hT he hc).toF
 ·split at h
  ·rename_i hm; cases h; exact Za38 hT hm hc
  ·exact Za39 hT h hc
end
end Go.PW
