import Derived.Test.YtnoofnejcoadfaaGreatDoorQPl
set_option linter.all false
set_option maxRecDepth 100000
namespace Go.PW
def ixO (l : List Zf) (id : Int) : Int := match l.findIdx? fun o => o.Id == id with
 | some k => k
 | none => -1
abbrev Z3a (l : List Zf) (id v : Int) : Prop := ∀ (k : Nat) x, (k : Int) < v → l[k]? = some x → x.Id ≠ id
theorem Zav2 {l : List Zf} {id : Int} : Z3a l id 0 := fun k x hk => by omega
theorem Zaq4 {l : List Zf} {id v w : Int} {x : Zf} (hx : l[v.toNat]? = some x) (h : Z3a l id v) (h0 : 0 ≤ v) (hn : x.Id ≠ id) (hw : w = v + 1) : Z3a l id w := fun k y hk hy => by
 rcases Zan3 h0 hw hk hy hx with hk | rfl
 ·exact h k y hk hy
 ·exact hn
theorem Zauv {l : List Zf} {id v : Int} {x : Zf} (hx : l[v.toNat]? = some x) (h : Z3a l id v) (h0 : 0 ≤ v) (hn : x.Id = id) : v = ixO l id := by
 unfold ixO
 obtain ⟨hi, he⟩ := List.getElem?_eq_some_iff.1 hx
 rw [List.findIdx?_eq_some_iff_getElem.2 ⟨hi, by rw [he]; exact beq_iff_eq.2 hn, fun j hj => by
  have := h j l[j] (by omega) (List.getElem?_eq_getElem (by omega))
  simpa using this⟩]
 show v = ((v.toNat : Nat) : Int)
 omega
theorem Zasy {l : List Zf} {id v : Int} (h : Z3a l id v) (hv : (l.length : Int) ≤ v) : -1 = ixO l id := by
 unfold ixO
 rw [List.findIdx?_eq_none_iff.2 fun x hx => by
  obtain ⟨k, hk, he⟩ := List.mem_iff_getElem.1 hx
  have := h k x (by omega) (by rw [List.getElem?_eq_getElem hk, he])
  simpa using this]
theorem Zafa (l : List Zf) (id : Int) : (ixO l id = -1 ∧ ∀ x, x ∈ l → x.Id ≠ id) ∨ ∃ x, 0 ≤ ixO l id ∧ ixO l id < l.length ∧ l[(ixO l id).toNat]? = some x ∧ x.Id = id := by
 unfold ixO
 cases h : l.findIdx? fun o => o.Id == id with
 | none =>
  left
  refine ⟨rfl, fun x hx => ?_⟩
  have := List.findIdx?_eq_none_iff.1 h x hx
  simpa using this
 | some k =>
  right
  obtain ⟨hi, he, _⟩ := List.findIdx?_eq_some_iff_getElem.1 h
  refine ⟨l[k], by show 0 ≤ (k : Int); omega, by show (k : Int) < _; omega, ?_, by simpa using he⟩
  show l[(k : Int).toNat]? = _
  rw [Int.toNat_natCast, List.getElem?_eq_getElem hi]
theorem Zab6 (l : List Zf) (id : Int) : -1 ≤ ixO l id ∧ ixO l id < l.length := by
 rcases Zafa l id with ⟨h, _⟩ | ⟨x, h1, h2, _⟩ <;> omega
abbrev Zaoh : Zf := ⟨0, 0, 0, 0, 0, false, false, false, false, 0, ⟨0, 0, 0⟩, 0, 0, 0, false, 0, 0⟩
def fdV (l : List Zf) (id : Int) : Zf × Bool := match l.find? fun o => o.Id == id with
 | some o => (o, true)
 | none => (Zaoh, false)
theorem Zaq5 {l : List Zf} {id : Int} (h : ixO l id < 0) : (Zaoh, false) = fdV l id := by
 unfold fdV
 rcases Zafa l id with ⟨_, hn⟩ | ⟨x, h1, _⟩
 ·rw [List.find?_eq_none.2 fun x hx => by simpa using hn x hx]
 ·omega
theorem Zam2 {l : List Zf} {id : Int} {x : Zf} (hx : l[(ixO l id).toNat]? = some x) (h : ¬ ixO l id < 0) : (x, true) = fdV l id := by
 unfold fdV
 have hf : l.find? (fun o => o.Id == id) = some x := by
  unfold ixO at hx h
  cases he : l.findIdx? fun o => o.Id == id with
  | none => rw [he] at h; exact absurd (by decide) h
  | some k =>
   rw [he] at hx
   obtain ⟨hi, h1, h2⟩ := List.findIdx?_eq_some_iff_getElem.1 he
   have hx : l[k]? = some x := hx
   rw [List.getElem?_eq_getElem hi] at hx
   have e := Option.some.inj hx
   exact List.find?_eq_some_iff_getElem.2 ⟨by rw [← e]; exact h1, k, hi, e, fun j hj => by simpa using h2 j hj⟩
 rw [hf]
theorem Zav3 (l : List Zf) (id : Int) : (fdV l id).2 = decide (0 ≤ ixO l id) := by
 by_cases h : ixO l id < 0
 ·rw [← Zaq5 h, decide_eq_false (by omega)]
 ·have := (Zab6 l id).2
  rw [← Zam2 (List.getElem?_eq_getElem (show (ixO l id).toNat < l.length by omega)) h, decide_eq_true (by omega)]
def trV (all : List Zd) (i : Int) : Zd := (if i < 0 then none else all[i.toNat]?).getD Ztj
theorem Zauw {all : List Zd} {i : Int} (h : i < 0) : Ztj = trV all i := by unfold trV; rw [if_pos h]; rfl
theorem Zaux {all : List Zd} {i : Int} (h : i ≥ (all.length : Int)) : Ztj = trV all i := by
 unfold trV
 rw [if_neg (by omega), List.getElem?_eq_none (by omega)]; rfl
theorem Zav4 {all : List Zd} {i : Int} {x : Zd} (hx : all[i.toNat]? = some x) (h : ¬ i < 0) : x = trV all i := by unfold trV; rw [if_neg h, hx]; rfl
def tgV (l : List Zx) (n : Int) : Zx × Bool := match (if n < 1 then none else l[(n - 1).toNat]?) with
 | some t => (t, true)
 | none => (⟨0, 0⟩, false)
theorem Zauy {l : List Zx} {n : Int} (h : n < 1 ∨ n > (l.length : Int)) : ((⟨0, 0⟩ : Zx), false) = tgV l n := by
 unfold tgV
 by_cases h1 : n < 1
 ·rw [if_pos h1]
 ·rw [if_neg h1, List.getElem?_eq_none (by omega)]
theorem Zav5 {l : List Zx} {n m : Int} {x : Zx} (hx : l[m.toNat]? = some x) (hm : m = n - 1) (h : ¬ n < 1) : (x, true) = tgV l n := by
 unfold tgV
 rw [if_neg h, ← hm, hx]
def Zhu (ps : List Zas) (p : Int) : Bool := decide (0 ≤ p) && ((ps[p.toNat]?).map fun x => !x.Lost).getD false
def Zna (ps : List Zas) (v : Int) : List Int := ((List.range v.toNat).map fun i : Nat => (i : Int)).filter (Zhu ps)
theorem Z8m {ps : List Zas} {p : Int} (h : p < 0 ∨ p ≥ (ps.length : Int)) : Zhu ps p = false := by
 unfold Zhu
 by_cases h1 : 0 ≤ p
 ·rw [List.getElem?_eq_none (by omega)]; simp
 ·rw [decide_eq_false h1]; rfl
theorem Zadr {ps : List Zas} {p : Int} {x : Zas} (hx : ps[p.toNat]? = some x) (h : 0 ≤ p) : Zhu ps p = !x.Lost := by
 unfold Zhu
 rw [decide_eq_true h, hx]; rfl
theorem Zafb {ps : List Zas} {v w : Int} (h0 : 0 ≤ v) (hw : w = v + 1) : Zna ps w = Zna ps v ++ (if Zhu ps v then [v] else []) := by
 unfold Zna
 have : w.toNat = v.toNat + 1 := by omega
 rw [this, List.range_succ, List.map_append, List.filter_append]
 congr 1
 show List.filter (Zhu ps) [((v.toNat : Nat) : Int)] = _
 rw [Int.toNat_of_nonneg h0, List.filter_cons]
 rfl
theorem Zasz {ps : List Zas} {acc z : List Int} {v w : Int} {x : Zas} (hz : z = acc ++ [v]) (hx : ps[v.toNat]? = some x) (h : acc = Zna ps v) (h0 : 0 ≤ v) (hl : x.Lost = false) (hw : w = v + 1) : z = Zna ps w := by
 rw [Zafb h0 hw, Zadr hx h0, hl, hz, h]; rfl
theorem Zaq6 {ps : List Zas} {acc : List Int} {v w : Int} {x : Zas} (hx : ps[v.toNat]? = some x) (h : acc = Zna ps v) (h0 : 0 ≤ v) (hl : x.Lost = true) (hw : w = v + 1) : acc = Zna ps w := by
 rw [Zafb h0 hw, Zadr hx h0, hl, h]; exact (List.append_nil _).symm
def Zeg (ps : List Zas) : List Int := Zna ps ps.length
theorem Zakf {ps : List Zas} {acc : List Int} {v : Int} (h : acc = Zna ps v) (hv : v ≤ (ps.length : Int)) (hl : (ps.length : Int) ≤ v) : acc = Zeg ps := by
 unfold Zeg; rw [h]; congr 1; omega
def Ztk (ps : List Zas) (p : Int) : List Int :=
 if p < 0 ∨ p ≥ (ps.length : Int) then Zeg ps else (Zeg ps).filter (fun x => decide (p < x)) ++ (Zeg ps).filter (fun x => decide (x < p))
theorem Z8n {ps : List Zas} {x : Int} : x ∈ Zeg ps ↔ Zhu ps x = true := by
 unfold Zeg Zna
 rw [List.mem_filter]
 refine ⟨fun h => h.2, fun h => ⟨?_, h⟩⟩
 have h1 : 0 ≤ x ∧ x < ps.length := by
  refine Classical.byContradiction fun hn => ?_
  rw [Z8m (by omega)] at h; cases h
 exact List.mem_map.2 ⟨x.toNat, List.mem_range.2 (by omega), by omega⟩
theorem Z6v {ps : List Zas} {x : Int} (h : x ∈ Zeg ps) : 0 ≤ x := by
 refine Classical.byContradiction fun hn => ?_
 have := Z8n.1 h
 rw [Z8m (by omega)] at this; cases this
theorem Zas0 (ps : List Zas) : (Zeg ps).length ≤ ps.length := by
 unfold Zeg Zna
 refine Nat.le_trans (List.length_filter_le ..) ?_
 simp
theorem Zauz {ps : List Zas} {p : Int} : (Zeg ps).filter (fun x => decide ((-1 : Int) < x)) ++ (Zeg ps).filter (fun x => decide (x < (-1 : Int))) = Zeg ps := by
 rw [List.filter_eq_self.2 fun x hx => decide_eq_true (show (-1 : Int) < x by have := Z6v hx; omega), List.filter_eq_nil_iff.2 fun x hx => by have := Z6v hx; simp; omega, List.append_nil]
abbrev Zag5 : Zc := ⟨0, 0, 0, 0, 0, 0, 0, [], 0, 0, ⟨0, 0⟩, ⟨0, 0⟩, ⟨0, 0⟩⟩
def clV (n : Int) : Int := minI (Zyl n (-1000000)) 1000000
def muV (a b : Int) : Int := clV (IntKind.wrap .i64 (clV a * clV b))
def amV (a : Zt) : Bool :=
 if a.Kind = 0 then decide (0 ≤ a.N ∧ a.N ≤ 1000000 ∧ a.Counter = 0 ∧ a.Filter = Zag5)
 else if a.Kind = 2 then decide (1 ≤ a.N ∧ a.N ≤ 99 ∧ a.Counter = 0) && Z27 a.Filter
 else if a.Kind = 4 then decide (0 ≤ a.Counter ∧ a.Counter ≤ 2 ∧ a.N = 0 ∧ a.Filter = Zag5)
 else decide (0 ≤ a.Kind ∧ a.Kind ≤ 7 ∧ a.N = 0 ∧ a.Counter = 0 ∧ a.Filter = Zag5)
def usV (a : Zt) : Zt := if a.Kind = 2 then ⟨0, 0, a.Counter, Zag5⟩ else if a.Kind = 0 then ⟨0, 0, a.Counter, a.Filter⟩ else if a.Kind = 4 then ⟨0, a.N, 0, a.Filter⟩ else ⟨0, a.N, a.Counter, a.Filter⟩
theorem Zawt (x y : Zt) : Zab (Z1 x) (Z1 y) = decide (x = y) := Zaqa Zadm x y
theorem Zawu {a : Zt} (h : amV a = true) : a.Kind = 4 → 0 ≤ a.Counter ∧ a.Counter ≤ 2 := fun hk => by
 unfold amV at h
 rw [if_neg (by omega), if_neg (by omega), if_pos hk] at h
 have := of_decide_eq_true h
 exact ⟨this.1, this.2.1⟩
def cnV (l : List Zf) (id c : Int) : Int := ((fdV l id).1.Counters.list[c.toNat]?).getD 0
def raV (s : Zb) (all : List Zd) (c : Zo) (a : Zt) : Int :=
 if a.Kind = 0 then a.N else if a.Kind = 1 then c.X else if a.Kind = 7 then c.Event.Amount
 else if a.Kind = 2 then muV a.N (Z38 s all c.You c.Source a.Filter).length
 else if a.Kind = 3 then (trV all (ixO s.Objects c.Source)).Power
 else if a.Kind = 4 then cnV s.Objects c.Source a.Counter
 else if c.You < 0 ∨ c.You ≥ (s.Players.length : Int) then 0
 else if a.Kind = 5 then ((s.Players[c.You.toNat]?).map fun p => p.Life).getD 0
 else ((s.Players[c.You.toNat]?).map fun p => (p.Hand.length : Int)).getD 0
def ofV (s : Zb) (all : List Zd) (c : Zo) (a : Zt) : Int := if amV a then Zyl (clV (raV s all c a)) 0 else 0
def tlV (s : Zb) (all : List Zd) (c : Zo) (r : Z4) : List Int :=
 if r.Kind = 1 then [c.You] else if r.Kind = 5 then Ztk s.Players c.You else if r.Kind = 6 then [c.You] ++ Ztk s.Players c.You
 else if r.Kind = 3 ∨ r.Kind = 8 then
  (if (tgV c.Targets r.N).2 then
   (if (tgV c.Targets r.N).1.Object = 0 then [(tgV c.Targets r.N).1.Player]
    else if r.Kind = 8 ∧ 0 ≤ ixO s.Objects (tgV c.Targets r.N).1.Object then [(trV all (ixO s.Objects (tgV c.Targets r.N).1.Object)).Control] else [])
  else [])
 else []
def plV (s : Zb) (all : List Zd) (c : Zo) (r : Z4) : List Int := (tlV s all c r).filter (Zhu s.Players)
def exB (s : Zb) (id : Int) : Bool := decide (0 ≤ ixO s.Objects id)
def obV (s : Zb) (all : List Zd) (c : Zo) (r : Z4) : List Int :=
 (if r.Kind = 2 then [c.Source] else if r.Kind = 7 then [c.Event.Object] else if r.Kind = 4 then Z38 s all c.You c.Source r.Filter
  else if r.Kind = 3 then (if (tgV c.Targets r.N).2 = true ∧ (tgV c.Targets r.N).1.Object ≠ 0 then [(tgV c.Targets r.N).1.Object] else []) else []).filter (exB s)
theorem Zau0 {all : List Zd} {l : List Zf} {id i : Int} (hi : i = ixO l id) (h : i < 0) : (Ztj, false) = (trV all (ixO l id), decide (0 ≤ ixO l id)) := by
 rw [← hi, ← Zauw h, decide_eq_false (by omega)]
theorem Zau1 {all : List Zd} {l : List Zf} {id i : Int} (hi : i = ixO l id) (h : ¬ i < 0) (h2 : i ≥ (all.length : Int)) : (Ztj, true) = (trV all (ixO l id), decide (0 ≤ ixO l id)) := by
 rw [← hi, ← Zaux h2, decide_eq_true (by omega)]
theorem Zav6 {all : List Zd} {l : List Zf} {id i : Int} {x : Zd} (hx : all[i.toNat]? = some x) (hi : i = ixO l id) (h : ¬ i < 0) : (x, true) = (trV all (ixO l id), decide (0 ≤ ixO l id)) := by
 rw [← hi, ← Zav4 hx h, decide_eq_true (by omega)]
theorem Zav7 {l : List Zf} {id i : Int} (hi : i = ixO l id) (h : i < 0) : (Zaoh, false) = fdV l id := Zaq5 (hi ▸ h)
theorem Zau2 {l : List Zf} {id i : Int} {x : Zf} (hx : l[i.toNat]? = some x) (hi : i = ixO l id) (h : ¬ i < 0) : (x, true) = fdV l id := by subst hi; exact Zam2 hx h
theorem Zau3 {ps : List Zas} {p q : Int} {a b z : List Int} {v : Int} (hz : z = b ++ a) (ha : a = ((Zeg ps).take v.toNat).filter fun x => decide (x < q)) (hb : b = ((Zeg ps).take v.toNat).filter fun x => decide (q < x)) (hq : (q = -1 ∧ (p < 0 ∨ p ≥ (ps.length : Int))) ∨ (q = p ∧ 0 ≤ p ∧ p < (ps.length : Int))) (hv : ((Zeg ps).length : Int) ≤ v) : z = Ztk ps p := by
 rw [List.take_of_length_le (by omega)] at ha hb
 rw [hz, ha, hb]
 unfold Ztk
 rcases hq with ⟨rfl, h⟩ | ⟨rfl, h1, h2⟩
 ·rw [if_pos h]; exact Zauz (p := p)
 ·rw [if_neg (by omega)]
def Zhv : List Int → Int → Bool → List Int
 | [], n, d => if d then [] else [n]
 | x :: xs, n, d => (if d = false ∧ n ≤ x then [n] else []) ++ ((if x ≠ n then [x] else []) ++ Zhv xs n (d || decide (n ≤ x)))
theorem Zafc : ∀ (l : List Int) (n : Int), (∀ x, x ∈ l → n < x) → Zhv l n true = l
 | [], _, _ => rfl
 | x :: xs, n, h => by
  have h1 := h x (List.mem_cons_self ..)
  unfold Zhv
  rw [if_neg (by simp), if_pos (by omega), Bool.true_or, Zafc xs n fun y hy => h y (List.mem_cons_of_mem _ hy)]; rfl
theorem Zafd : ∀ (l : List Int) (n : Int), l.Pairwise (· < ·) → (Zhv l n false).Pairwise (· < ·) ∧ ∀ y, y ∈ Zhv l n false ↔ y = n ∨ y ∈ l
 | [], n, _ => by simp [Zhv]
 | x :: xs, n, h => by
  obtain ⟨hx, hs⟩ := List.pairwise_cons.1 h
  unfold Zhv
  by_cases hn : n ≤ x
  ·rw [if_pos ⟨rfl, hn⟩, decide_eq_true hn, Bool.or_true, Zafc xs n fun y hy => by have := hx y hy; omega]
   by_cases he : x = n
   ·subst he
    rw [if_neg (by simp)]
    refine ⟨by simpa using ⟨hx, hs⟩, fun y => by simp⟩
   ·rw [if_pos he]
    refine ⟨?_, fun y => by simp⟩
    simp only [List.cons_append, List.nil_append, List.pairwise_cons, List.mem_cons]
    exact ⟨fun y hy => by rcases hy with rfl | hy
                          ·omega
                          ·have := hx y hy; omega, hx, hs⟩
  ·rw [if_neg (fun e => hn e.2), if_pos (by omega), decide_eq_false hn, Bool.or_false]
   obtain ⟨h1, h2⟩ := Zafd xs n hs
   refine ⟨?_, fun y => ?_⟩
   ·simp only [List.nil_append, List.cons_append, List.pairwise_cons]
    exact ⟨fun y hy => by rcases (h2 y).1 hy with rfl | hy
                          ·omega
                          ·exact hx y hy, h1⟩
   ·simp only [List.nil_append, List.cons_append, List.mem_cons, h2]
    constructor
    ·rintro (h | h | h)
     ·exact .inr (.inl h)
     ·exact .inl h
     ·exact .inr (.inr h)
    ·rintro (h | h | h)
     ·exact .inr (.inl h)
     ·exact .inl h
     ·exact .inr (.inr h)
def setV (l : List Int) : List Int := l.foldl (fun a n => Zhv a n false) []
theorem Zaq7 (l : List Int) : (setV l).Pairwise (· < ·) ∧ ∀ y, y ∈ setV l ↔ y ∈ l := by
 have key : ∀ (l acc : List Int), acc.Pairwise (· < ·) → (l.foldl (fun a n => Zhv a n false) acc).Pairwise (· < ·) ∧ ∀ y, y ∈ l.foldl (fun a n => Zhv a n false) acc ↔ y ∈ acc ∨ y ∈ l := by
  intro l
  induction l with
  | nil => intro acc h; exact ⟨h, fun y => by simp⟩
  | cons x xs ih =>
   intro acc h
   obtain ⟨h1, h2⟩ := Zafd acc x h
   obtain ⟨h3, h4⟩ := ih _ h1
   refine ⟨h3, fun y => ?_⟩
   rw [List.foldl_cons, h4, h2, List.mem_cons]
   constructor
   ·rintro ((h | h) | h)
    ·exact .inr (.inl h)
    ·exact .inl h
    ·exact .inr (.inr h)
   ·rintro (h | h | h)
    ·exact .inl (.inr h)
    ·exact .inl (.inl h)
    ·exact .inr h
 obtain ⟨h1, h2⟩ := key l [] List.Pairwise.nil
 exact ⟨h1, fun y => by rw [setV, h2]; simp⟩
theorem Z6w : ∀ {a b : List Int}, a.Pairwise (· < ·) → b.Pairwise (· < ·) → (∀ x, x ∈ a ↔ x ∈ b) → a = b
 | [], [], _, _, _ => rfl
 | [], y :: _, _, _, h => absurd ((h y).2 (List.mem_cons_self ..)) (List.not_mem_nil)
 | x :: _, [], _, _, h => absurd ((h x).1 (List.mem_cons_self ..)) (List.not_mem_nil)
 | x :: xs, y :: ys, ha, hb, h => by
  obtain ⟨h1, h2⟩ := List.pairwise_cons.1 ha
  obtain ⟨h3, h4⟩ := List.pairwise_cons.1 hb
  have e : x = y := by
   rcases List.mem_cons.1 ((h x).1 (List.mem_cons_self ..)) with e | e
   ·exact e
   ·rcases List.mem_cons.1 ((h y).2 (List.mem_cons_self ..)) with f | f
    ·exact f.symm
    ·have := h3 x e; have := h1 y f; omega
  subst e
  rw [Z6w h2 h4 fun z => ⟨fun hz => by
   rcases List.mem_cons.1 ((h z).1 (List.mem_cons_of_mem _ hz)) with e | e
   ·have := h1 z hz; omega
   ·exact e, fun hz => by
   rcases List.mem_cons.1 ((h z).2 (List.mem_cons_of_mem _ hz)) with e | e
   ·have := h3 z hz; omega
   ·exact e⟩]
theorem Zama (ps : List Zas) : (Zeg ps).Pairwise (· < ·) := by
 unfold Zeg Zna
 refine List.Pairwise.filter _ ?_
 rw [List.pairwise_map]
 exact List.pairwise_lt_range.imp fun h => by omega
theorem Zas1 {l : List Int} {n v : Int} (d : Bool) (h : (l.length : Int) ≤ v) : Zhv (l.drop v.toNat) n d = if d then [] else [n] := by
 rw [List.drop_eq_nil_of_le (by omega)]; rfl
theorem Zau4 {l : List Int} {n v : Int} {d : Bool} {x : Int} (hx : l[v.toNat]? = some x) (h0 : 0 ≤ v) : Zhv (l.drop v.toNat) n d = (if d = false ∧ n ≤ x then [n] else []) ++ ((if x ≠ n then [x] else []) ++ Zhv (l.drop (v + 1).toNat) n (d || decide (n ≤ x))) := by
 obtain ⟨hi, he⟩ := List.getElem?_eq_some_iff.1 hx
 rw [List.drop_eq_getElem_cons hi, he, show (v + 1).toNat = v.toNat + 1 by omega]
 rfl
theorem Zaq8 {α : Type} {a b : List α} {v w : Int} {x y : α} (hx : a[v.toNat]? = some x) (hy : b[v.toNat]? = some y) (h : ∀ k : Nat, (k : Int) < v → a[k]? = b[k]?) (h0 : 0 ≤ v) (e : x = y) (hw : w = v + 1) : ∀ k : Nat, (k : Int) < w → a[k]? = b[k]? := fun k hk => by
 by_cases hk' : (k : Int) < v
 ·exact h k hk'
 ·have : k = v.toNat := by omega
  subst this
  rw [hx, hy, e]
theorem Z8o {α : Type} {a b : List α} {v : Int} (h : ∀ k : Nat, (k : Int) < v → a[k]? = b[k]?) (hl : a.length = b.length) (hv : (a.length : Int) ≤ v) : a = b :=
 List.ext_getElem? fun k => by
  by_cases hk : (k : Int) < v
  ·exact h k hk
  ·rw [List.getElem?_eq_none (by omega), List.getElem?_eq_none (by omega)]
theorem Zam3 {ps : List Zas} {p x : Int} (h1 : 0 ≤ p) (h2 : p < (ps.length : Int)) : x ∈ Ztk ps p ↔ Zhu ps x = true ∧ x ≠ p := by
 unfold Ztk
 rw [if_neg (by omega), List.mem_append, List.mem_filter, List.mem_filter, Z8n, decide_eq_true_eq, decide_eq_true_eq]
 constructor
 ·rintro (⟨a, b⟩ | ⟨a, b⟩) <;> exact ⟨a, by omega⟩
 ·rintro ⟨a, b⟩
  rcases Int.lt_or_gt_of_ne b with h | h
  ·exact .inr ⟨a, h⟩
  ·exact .inl ⟨a, h⟩
theorem tl_1 (s : Zb) (all : List Zd) (c : Zo) (n : Int) (f : Zc) : plV s all c ⟨1, n, f⟩ = [c.You].filter (Zhu s.Players) := by unfold plV tlV; rw [if_pos rfl]
theorem tl_5 (s : Zb) (all : List Zd) (c : Zo) (n : Int) (f : Zc) : plV s all c ⟨5, n, f⟩ = (Ztk s.Players c.You).filter (Zhu s.Players) := by unfold plV tlV; rw [if_neg (by simp), if_pos rfl]
theorem tl_6 (s : Zb) (all : List Zd) (c : Zo) (n : Int) (f : Zc) : plV s all c ⟨6, n, f⟩ = [c.You].filter (Zhu s.Players) ++ (Ztk s.Players c.You).filter (Zhu s.Players) := by
 unfold plV tlV; rw [if_neg (by simp), if_neg (by simp), if_pos rfl, List.filter_append]
theorem tl_2 (s : Zb) (all : List Zd) (c : Zo) (n : Int) (f : Zc) : plV s all c ⟨2, n, f⟩ = [] := by
 unfold plV tlV; rw [if_neg (by simp), if_neg (by simp), if_neg (by simp), if_neg (by simp)]; rfl
theorem Zau5 (ps : List Zas) (p : Int) : (Ztk ps p).length ≤ 2 * ps.length := by
 have := Zas0 ps
 unfold Ztk
 split
 ·omega
 ·rw [List.length_append]
  have h1 := List.length_filter_le (fun x : Int => decide (p < x)) (Zeg ps)
  have h2 := List.length_filter_le (fun x : Int => decide (x < p)) (Zeg ps)
  omega
theorem Z39 (s : Zb) (all : List Zd) (c : Zo) (r : Z4) : (plV s all c r).length ≤ 1 + 2 * s.Players.length := by
 refine Nat.le_trans (List.length_filter_le ..) ?_
 have h3 := Zau5 s.Players c.You
 unfold tlV
 repeat' split
 all_goals first | (simp only [List.length_append, List.length_cons, List.length_nil]; omega) | (simp; done) | omega
theorem Zaq9 {s : Zb} {all : List Zd} {c : Zo} {n : Int} {f : Zc} (h1 : 0 ≤ c.You) (h2 : c.You < (s.Players.length : Int)) : setV (plV s all c ⟨6, n, f⟩) = Zeg s.Players := by
 obtain ⟨h3, h4⟩ := Zaq7 (plV s all c ⟨6, n, f⟩)
 refine Z6w h3 (Zama _) fun x => ?_
 rw [h4, tl_6, List.mem_append, List.mem_filter, List.mem_filter, Zam3 h1 h2, Z8n, List.mem_singleton]
 constructor
 ·rintro (⟨_, h⟩ | ⟨_, h⟩) <;> exact h
 ·intro h
  by_cases e : x = c.You
  ·exact .inl ⟨e, h⟩
  ·exact .inr ⟨⟨h, e⟩, h⟩
theorem Zara {s : Zb} {all : List Zd} {c : Zo} {n : Int} {f : Zc} (h1 : 0 ≤ c.You) (h2 : c.You < (s.Players.length : Int)) : ¬ c.You ∈ plV s all c ⟨5, n, f⟩ := by
 rw [tl_5, List.mem_filter, Zam3 h1 h2]
 exact fun h => h.1.2 rfl
end Go.PW
