import Derived.Test.YtnoofnejcoadfaaGreatDoorQPl
set_option linter.all false
set_option maxRecDepth 100000
namespace Go.PW
def ixO (l : List Zf) (id : Int) : Int := match l.findIdx? fun o => o.Id == id with
 | some k => k
 | none => -1
abbrev Z5v (l : List Zf) (id v : Int) : Prop := ∀ (k : Nat) x, (k : Int) < v → l[k]? = some x → x.Id ≠ id
theorem Za9n {l : List Zf} {id : Int} : Z5v l id 0 := fun k x hk => by omega
theorem Za4n {l : List Zf} {id v w : Int} {x : Zf} (hx : l[v.toNat]? = some x) (h : Z5v l id v) (h0 : 0 ≤ v) (hn : x.Id ≠ id) (hw : w = v + 1) : Z5v l id w := fun k y hk hy => by
 rcases Zvu h0 hw hk hy hx with hk | rfl
 ·exact h k y hk hy
 ·exact hn
theorem Za8i {l : List Zf} {id v : Int} {x : Zf} (hx : l[v.toNat]? = some x) (h : Z5v l id v) (h0 : 0 ≤ v) (hn : x.Id = id) : v = ixO l id := by
 unfold ixO
 obtain ⟨hi, he⟩ := List.getElem?_eq_some_iff.1 hx
 rw [List.findIdx?_eq_some_iff_getElem.2 ⟨hi, by rw [he]; exact beq_iff_eq.2 hn, fun j hj => by
  have := h j l[j] (by omega) (List.getElem?_eq_getElem (by omega))
  simpa using this⟩]
 show v = ((v.toNat : Nat) : Int)
 omega
theorem Za6k {l : List Zf} {id v : Int} (h : Z5v l id v) (hv : (l.length : Int) ≤ v) : -1 = ixO l id := by
 unfold ixO
 rw [List.findIdx?_eq_none_iff.2 fun x hx => by
  obtain ⟨k, hk, he⟩ := List.mem_iff_getElem.1 hx
  have := h k x (by omega) (by rw [List.getElem?_eq_getElem hk, he])
  simpa using this]
theorem Zabi (l : List Zf) (id : Int) : (ixO l id = -1 ∧ ∀ x, x ∈ l → x.Id ≠ id) ∨ ∃ x, 0 ≤ ixO l id ∧ ixO l id < l.length ∧ l[(ixO l id).toNat]? = some x ∧ x.Id = id := by
 unfold ixO
 cases h : l.findIdx? fun o => o.Id == id with
 | none =>
  left
  refine ⟨rfl, fun x hx => ?_⟩
  have := List.findIdx?_eq_none_iff.1 h x hx
  simpa using this
 | some k =>
  right
  obtain ⟨hi, he, _⟩ := List.findIdx?_eq_some_iff_getElem.1 h
  refine ⟨l[k], by show 0 ≤ (k : Int); omega, by show (k : Int) < _; omega, ?_, by simpa using he⟩
  show l[(k : Int).toNat]? = _
  rw [Int.toNat_natCast, List.getElem?_eq_getElem hi]
theorem Zabj (l : List Zf) (id : Int) : -1 ≤ ixO l id ∧ ixO l id < l.length := by
 rcases Zabi l id with ⟨h, _⟩ | ⟨x, h1, h2, _⟩ <;> omega
abbrev Za1z : Zf := ⟨0, 0, 0, 0, 0, false, false, false, false, 0, ⟨0, 0, 0⟩, 0, 0, 0, false, 0, 0⟩
def fdV (l : List Zf) (id : Int) : Zf × Bool := match l.find? fun o => o.Id == id with
 | some o => (o, true)
 | none => (Za1z, false)
theorem Zaxf {l : List Zf} {id : Int} (h : ixO l id < 0) : (Za1z, false) = fdV l id := by
 unfold fdV
 rcases Zabi l id with ⟨_, hn⟩ | ⟨x, h1, _⟩
 ·rw [List.find?_eq_none.2 fun x hx => by simpa using hn x hx]
 ·omega
theorem Zapi {l : List Zf} {id : Int} {x : Zf} (hx : l[(ixO l id).toNat]? = some x) (h : ¬ ixO l id < 0) : (x, true) = fdV l id := by
 unfold fdV
 have hf : l.find? (fun o => o.Id == id) = some x := by
  unfold ixO at hx h
  cases he : l.findIdx? fun o => o.Id == id with
  | none => rw [he] at h; exact absurd (by decide) h
  | some k =>
   rw [he] at hx
   obtain ⟨hi, h1, h2⟩ := List.findIdx?_eq_some_iff_getElem.1 he
   have hx : l[k]? = some x := hx
   rw [List.getElem?_eq_getElem hi] at hx
   have e := Option.some.inj hx
   exact List.find?_eq_some_iff_getElem.2 ⟨by rw [← e]; exact h1, k, hi, e, fun j hj => by simpa using h2 j hj⟩
 rw [hf]
theorem Za4o (l : List Zf) (id : Int) : (fdV l id).2 = decide (0 ≤ ixO l id) := by
 by_cases h : ixO l id < 0
 ·rw [← Zaxf h, decide_eq_false (by omega)]
 ·have := (Zabj l id).2
  rw [← Zapi (List.getElem?_eq_getElem (show (ixO l id).toNat < l.length by omega)) h, decide_eq_true (by omega)]
def trV (all : List Za) (i : Int) : Za := (if i < 0 then none else all[i.toNat]?).getD Zye
theorem Za0d {all : List Za} {i : Int} (h : i < 0) : Zye = trV all i := by unfold trV; rw [if_pos h]; rfl
theorem Za0e {all : List Za} {i : Int} (h : i ≥ (all.length : Int)) : Zye = trV all i := by
 unfold trV
 rw [if_neg (by omega), List.getElem?_eq_none (by omega)]; rfl
theorem Za4p {all : List Za} {i : Int} {x : Za} (hx : all[i.toNat]? = some x) (h : ¬ i < 0) : x = trV all i := by unfold trV; rw [if_neg h, hx]; rfl
def tgV (l : List Zaj) (n : Int) : Zaj × Bool := match (if n < 1 then none else l[(n - 1).toNat]?) with
 | some t => (t, true)
 | none => (⟨0, 0⟩, false)
theorem Za8j {l : List Zaj} {n : Int} (h : n < 1 ∨ n > (l.length : Int)) : ((⟨0, 0⟩ : Zaj), false) = tgV l n := by
 unfold tgV
 by_cases h1 : n < 1
 ·rw [if_pos h1]
 ·rw [if_neg h1, List.getElem?_eq_none (by omega)]
theorem Za9o {l : List Zaj} {n m : Int} {x : Zaj} (hx : l[m.toNat]? = some x) (hm : m = n - 1) (h : ¬ n < 1) : (x, true) = tgV l n := by
 unfold tgV
 rw [if_neg h, ← hm, hx]
def Zk6 (ps : List Za1) (p : Int) : Bool := decide (0 ≤ p) && ((ps[p.toNat]?).map fun x => !x.Lost).getD false
def Zyf (ps : List Za1) (v : Int) : List Int := ((List.range v.toNat).map fun i : Nat => (i : Int)).filter (Zk6 ps)
theorem Z5w {ps : List Za1} {p : Int} (h : p < 0 ∨ p ≥ (ps.length : Int)) : Zk6 ps p = false := by
 unfold Zk6
 by_cases h1 : 0 ≤ p
 ·rw [List.getElem?_eq_none (by omega)]; simp
 ·rw [decide_eq_false h1]; rfl
theorem Zacv {ps : List Za1} {p : Int} {x : Za1} (hx : ps[p.toNat]? = some x) (h : 0 ≤ p) : Zk6 ps p = !x.Lost := by
 unfold Zk6
 rw [decide_eq_true h, hx]; rfl
theorem Zarl {ps : List Za1} {v w : Int} (h0 : 0 ≤ v) (hw : w = v + 1) : Zyf ps w = Zyf ps v ++ (if Zk6 ps v then [v] else []) := by
 unfold Zyf
 have : w.toNat = v.toNat + 1 := by omega
 rw [this, List.range_succ, List.map_append, List.filter_append]
 congr 1
 show List.filter (Zk6 ps) [((v.toNat : Nat) : Int)] = _
 rw [Int.toNat_of_nonneg h0, List.filter_cons]
 rfl
theorem Za6l {ps : List Za1} {acc z : List Int} {v w : Int} {x : Za1} (hz : z = acc ++ [v]) (hx : ps[v.toNat]? = some x) (h : acc = Zyf ps v) (h0 : 0 ≤ v) (hl : x.Lost = false) (hw : w = v + 1) : z = Zyf ps w := by
 rw [Zarl h0 hw, Zacv hx h0, hl, hz, h]; rfl
theorem Za4q {ps : List Za1} {acc : List Int} {v w : Int} {x : Za1} (hx : ps[v.toNat]? = some x) (h : acc = Zyf ps v) (h0 : 0 ≤ v) (hl : x.Lost = true) (hw : w = v + 1) : acc = Zyf ps w := by
 rw [Zarl h0 hw, Zacv hx h0, hl, h]; exact (List.append_nil _).symm
def Zi7 (ps : List Za1) : List Int := Zyf ps ps.length
theorem Za6m {ps : List Za1} {acc : List Int} {v : Int} (h : acc = Zyf ps v) (hv : v ≤ (ps.length : Int)) (hl : (ps.length : Int) ≤ v) : acc = Zi7 ps := by
 unfold Zi7; rw [h]; congr 1; omega
def othV (ps : List Za1) (p : Int) : List Int :=
 if p < 0 ∨ p ≥ (ps.length : Int) then Zi7 ps else (Zi7 ps).filter (fun x => decide (p < x)) ++ (Zi7 ps).filter (fun x => decide (x < p))
theorem Za6n {ps : List Za1} {x : Int} : x ∈ Zi7 ps ↔ Zk6 ps x = true := by
 unfold Zi7 Zyf
 rw [List.mem_filter]
 refine ⟨fun h => h.2, fun h => ⟨?_, h⟩⟩
 have h1 : 0 ≤ x ∧ x < ps.length := by
  refine Classical.byContradiction fun hn => ?_
  rw [Z5w (by omega)] at h; cases h
 exact List.mem_map.2 ⟨x.toNat, List.mem_range.2 (by omega), by omega⟩
theorem Zafr {ps : List Za1} {x : Int} (h : x ∈ Zi7 ps) : 0 ≤ x := by
 refine Classical.byContradiction fun hn => ?_
 have := Za6n.1 h
 rw [Z5w (by omega)] at this; cases this
theorem Za8k {ps : List Za1} {p : Int} : (Zi7 ps).filter (fun x => decide ((-1 : Int) < x)) ++ (Zi7 ps).filter (fun x => decide (x < (-1 : Int))) = Zi7 ps := by
 rw [List.filter_eq_self.2 fun x hx => decide_eq_true (show (-1 : Int) < x by have := Zafr hx; omega), List.filter_eq_nil_iff.2 fun x hx => by have := Zafr hx; simp; omega, List.append_nil]
abbrev Zacw : Ze := ⟨0, 0, 0, 0, 0, 0, 0, [], 0, 0, ⟨0, 0⟩, ⟨0, 0⟩, ⟨0, 0⟩⟩
def clV (n : Int) : Int := Zge (Zdy n (-1000000)) 1000000
theorem Zbai (n : Int) : -1000000 ≤ clV n ∧ clV n ≤ 1000000 := by unfold clV Zge Zdy; constructor <;> split <;> (try split) <;> omega
theorem Zabk {n : Int} (h : -1000000 ≤ n) (g : n ≤ 1000000) : clV n = n := by unfold clV Zge Zdy; split <;> split <;> omega
def muV (a b : Int) : Int := clV (IntKind.wrap .i64 (clV a * clV b))
def amV (a : Zw) : Bool :=
 if a.Kind = 0 then decide (0 ≤ a.N ∧ a.N ≤ 1000000 ∧ a.Counter = 0 ∧ a.Filter = Zacw)
 else if a.Kind = 2 then decide (1 ≤ a.N ∧ a.N ≤ 99 ∧ a.Counter = 0) && Z5q a.Filter
 else if a.Kind = 4 then decide (0 ≤ a.Counter ∧ a.Counter ≤ 2 ∧ a.N = 0 ∧ a.Filter = Zacw)
 else decide (0 ≤ a.Kind ∧ a.Kind ≤ 7 ∧ a.N = 0 ∧ a.Counter = 0 ∧ a.Filter = Zacw)
def usV (a : Zw) : Zw := if a.Kind = 2 then ⟨0, 0, a.Counter, Zacw⟩ else if a.Kind = 0 then ⟨0, 0, a.Counter, a.Filter⟩ else if a.Kind = 4 then ⟨0, a.N, 0, a.Filter⟩ else ⟨0, a.N, a.Counter, a.Filter⟩
theorem Zbaj (x y : Zw) : Zau (Zaf x) (Zaf y) = decide (x = y) := Za3w Zape x y
theorem Za7k {a : Zw} (h : amV a = true) : a.Kind = 4 → 0 ≤ a.Counter ∧ a.Counter ≤ 2 := fun hk => by
 unfold amV at h
 rw [if_neg (by omega), if_neg (by omega), if_pos hk] at h
 have := of_decide_eq_true h
 exact ⟨this.1, this.2.1⟩
def cnV (l : List Zf) (id c : Int) : Int := ((fdV l id).1.Counters.list[c.toNat]?).getD 0
theorem Za9p {l : List Zf} {id i c y : Int} {x : Zf} (hx : l[i.toNat]? = some x) (hi : i = ixO l id) (h : 0 ≤ i) (hc : x.Counters.list[c.toNat]? = some y) : y = cnV l id c := by
 unfold cnV
 subst hi
 rw [← Zapi hx (by omega), hc]; rfl
theorem Za9q {l : List Zf} {id i c : Int} (hi : i = ixO l id) (h : i < 0) : 0 = cnV l id c := by
 unfold cnV
 rw [← Zaxf (hi ▸ h)]
 show 0 = (([0, 0, 0] : List Int)[c.toNat]?).getD 0
 rcases hk : c.toNat with _ | _ | _ | k <;> rfl
def raV (s : Zb) (all : List Za) (c : Zs) (a : Zw) : Int :=
 if a.Kind = 0 then a.N else if a.Kind = 1 then c.X else if a.Kind = 7 then c.Event.Amount
 else if a.Kind = 2 then muV a.N (Zh7 s all c.You c.Source a.Filter).length
 else if a.Kind = 3 then (trV all (ixO s.Objects c.Source)).Power
 else if a.Kind = 4 then cnV s.Objects c.Source a.Counter
 else if c.You < 0 ∨ c.You ≥ (s.Players.length : Int) then 0
 else if a.Kind = 5 then ((s.Players[c.You.toNat]?).map fun p => p.Life).getD 0
 else ((s.Players[c.You.toNat]?).map fun p => (p.Hand.length : Int)).getD 0
def ofV (s : Zb) (all : List Za) (c : Zs) (a : Zw) : Int := if amV a then Zdy (clV (raV s all c a)) 0 else 0
def tlV (s : Zb) (all : List Za) (c : Zs) (r : Zak) : List Int :=
 if r.Kind = 1 then [c.You] else if r.Kind = 5 then othV s.Players c.You else if r.Kind = 6 then [c.You] ++ othV s.Players c.You
 else if r.Kind = 3 ∨ r.Kind = 8 then
  (if (tgV c.Targets r.N).2 then
   (if (tgV c.Targets r.N).1.Object = 0 then [(tgV c.Targets r.N).1.Player]
    else if r.Kind = 8 ∧ 0 ≤ ixO s.Objects (tgV c.Targets r.N).1.Object then [(trV all (ixO s.Objects (tgV c.Targets r.N).1.Object)).Control] else [])
  else [])
 else []
def plV (s : Zb) (all : List Za) (c : Zs) (r : Zak) : List Int := (tlV s all c r).filter (Zk6 s.Players)
def exB (s : Zb) (id : Int) : Bool := decide (0 ≤ ixO s.Objects id)
def obV (s : Zb) (all : List Za) (c : Zs) (r : Zak) : List Int :=
 (if r.Kind = 2 then [c.Source] else if r.Kind = 7 then [c.Event.Object] else if r.Kind = 4 then Zh7 s all c.You c.Source r.Filter
  else if r.Kind = 3 then (if (tgV c.Targets r.N).2 = true ∧ (tgV c.Targets r.N).1.Object ≠ 0 then [(tgV c.Targets r.N).1.Object] else []) else []).filter (exB s)
theorem Za8l {all : List Za} {l : List Zf} {id i : Int} (hi : i = ixO l id) (h : i < 0) : (Zye, false) = (trV all (ixO l id), decide (0 ≤ ixO l id)) := by
 rw [← hi, ← Za0d h, decide_eq_false (by omega)]
theorem Za8m {all : List Za} {l : List Zf} {id i : Int} (hi : i = ixO l id) (h : ¬ i < 0) (h2 : i ≥ (all.length : Int)) : (Zye, true) = (trV all (ixO l id), decide (0 ≤ ixO l id)) := by
 rw [← hi, ← Za0e h2, decide_eq_true (by omega)]
theorem Za9r {all : List Za} {l : List Zf} {id i : Int} {x : Za} (hx : all[i.toNat]? = some x) (hi : i = ixO l id) (h : ¬ i < 0) : (x, true) = (trV all (ixO l id), decide (0 ≤ ixO l id)) := by
 rw [← hi, ← Za4p hx h, decide_eq_true (by omega)]
theorem Za9s {l : List Zf} {id i : Int} (hi : i = ixO l id) (h : i < 0) : (Za1z, false) = fdV l id := Zaxf (hi ▸ h)
theorem Za8n {l : List Zf} {id i : Int} {x : Zf} (hx : l[i.toNat]? = some x) (hi : i = ixO l id) (h : ¬ i < 0) : (x, true) = fdV l id := by subst hi; exact Zapi hx h
theorem Zbak (n : Int) : Zdy 0 (Zge n 1000000) = Zdy (clV n) 0 := by unfold clV Zdy Zge; grind
theorem Za8o {ps : List Za1} {p q : Int} {a b z : List Int} {v : Int} (hz : z = b ++ a) (ha : a = ((Zi7 ps).take v.toNat).filter fun x => decide (x < q)) (hb : b = ((Zi7 ps).take v.toNat).filter fun x => decide (q < x)) (hq : (q = -1 ∧ (p < 0 ∨ p ≥ (ps.length : Int))) ∨ (q = p ∧ 0 ≤ p ∧ p < (ps.length : Int))) (hv : ((Zi7 ps).length : Int) ≤ v) : z = othV ps p := by
 rw [List.take_of_length_le (by omega)] at ha hb
 rw [hz, ha, hb]
 unfold othV
 rcases hq with ⟨rfl, h⟩ | ⟨rfl, h1, h2⟩
 ·rw [if_pos h]; exact Za8k (p := p)
 ·rw [if_neg (by omega)]
theorem Za4r {α : Type} {a b : List α} {v w : Int} {x y : α} (hx : a[v.toNat]? = some x) (hy : b[v.toNat]? = some y) (h : ∀ k : Nat, (k : Int) < v → a[k]? = b[k]?) (h0 : 0 ≤ v) (e : x = y) (hw : w = v + 1) : ∀ k : Nat, (k : Int) < w → a[k]? = b[k]? := fun k hk => by
 by_cases hk' : (k : Int) < v
 ·exact h k hk'
 ·have : k = v.toNat := by omega
  subst this
  rw [hx, hy, e]
theorem Zahq {α : Type} {a b : List α} {v : Int} (h : ∀ k : Nat, (k : Int) < v → a[k]? = b[k]?) (hl : a.length = b.length) (hv : (a.length : Int) ≤ v) : a = b :=
 List.ext_getElem? fun k => by
  by_cases hk : (k : Int) < v
  ·exact h k hk
  ·rw [List.getElem?_eq_none (by omega), List.getElem?_eq_none (by omega)]
theorem Zbal (s : Zb) (all : List Za) (c : Zs) (a : Zw) : 0 ≤ ofV s all c a ∧ ofV s all c a ≤ 1000000 := by
 unfold ofV
 have := Zbai (raV s all c a)
 split
 ·unfold Zdy; split <;> omega
 ·omega
theorem Za9t {s : Zb} {all : List Za} {c : Zs} {a : Zw} (h : ofV s all c a ≠ 0) : amV a = true := by
 unfold ofV at h
 cases ha : amV a with
 | true => rfl
 | false => rw [ha] at h; simp at h
theorem Za6o {ps : List Za1} {p : Int} (h : Zk6 ps p = true) : 0 ≤ p ∧ p < (ps.length : Int) := by
 refine Classical.byContradiction fun hn => ?_
 rw [Z5w (by omega)] at h; cases h
theorem Za0f {s : Zb} {all : List Za} {c : Zs} {r : Zak} : ∀ x, x ∈ plV s all c r → Zk6 s.Players x = true := fun x hx => (List.mem_filter.1 hx).2
theorem Za0g {s : Zb} {all : List Za} {c : Zs} {r : Zak} : ∀ x, x ∈ obV s all c r → exB s x = true := fun x hx => (List.mem_filter.1 hx).2
theorem Zarm (s : Zb) (all : List Za) (you src : Int) (f : Ze) : (Zh7 s all you src f).length ≤ s.Objects.length := Zagc ..
theorem Zahr {α γ : Type} (p : Nat → α → Bool) (q : α → γ) : ∀ (xs : List α) (i : Nat) (y : γ), y ∈ Zt5 p q i xs → ∃ x, x ∈ xs ∧ q x = y
 | x :: xs, i, y, h => by
  unfold Zt5 at h
  cases hp : p i x with
  | false =>
   rw [hp] at h
   obtain ⟨z, h1, h2⟩ := Zahr p q xs (i + 1) y h
   exact ⟨z, List.mem_cons_of_mem _ h1, h2⟩
  | true =>
   rw [hp] at h
   rcases List.mem_cons.1 h with rfl | h
   ·exact ⟨x, List.mem_cons_self .., rfl⟩
   ·obtain ⟨z, h1, h2⟩ := Zahr p q xs (i + 1) y h
    exact ⟨z, List.mem_cons_of_mem _ h1, h2⟩
theorem Za9u {s : Zb} {o : Zf} (h : o ∈ s.Objects) : exB s o.Id = true := by
 unfold exB
 rcases Zabi s.Objects o.Id with ⟨_, hn⟩ | ⟨x, h1, _⟩
 ·exact absurd rfl (hn o h)
 ·exact decide_eq_true h1
theorem Za6p (s : Zb) (all : List Za) (you src : Int) (f : Ze) : (Zh7 s all you src f).filter (exB s) = Zh7 s all you src f := List.filter_eq_self.2 fun x hx => by
 obtain ⟨o, h1, rfl⟩ := Zahr _ _ _ _ _ hx
 exact Za9u h1
theorem Za9v (s : Zb) (all : List Za) (c : Zs) (f : Ze) : obV s all c ⟨4, 0, f⟩ = Zh7 s all c.You c.Source f := by
 unfold obV
 rw [if_neg (by simp), if_neg (by simp), if_pos rfl]
 exact Za6p ..
theorem Za0h {s : Zb} {all : List Za} {c : Zs} {n : Int} {f : Ze} (hf : Z5q f = true) (h1 : 1 ≤ n) (h2 : n ≤ 99) (hs : s.Objects.length ≤ 60) : ofV s all c ⟨2, n, 0, f⟩ = n * (Zh7 s all c.You c.Source f).length := by
 have hl := Zarm s all c.You c.Source f
 generalize hk : (Zh7 s all c.You c.Source f).length = k at hl
 have ha : amV ⟨2, n, 0, f⟩ = true := by
  unfold amV
  rw [if_neg (by simp), if_pos rfl, hf, decide_eq_true ⟨h1, h2, rfl⟩]; rfl
 have hm : 0 ≤ n * (k : Int) ∧ n * (k : Int) ≤ 99 * 60 := ⟨Int.mul_nonneg (by omega) (by omega), Int.mul_le_mul h2 (by omega) (by omega) (by omega)⟩
 unfold ofV
 rw [if_pos ha]
 have hr : raV s all c ⟨2, n, 0, f⟩ = n * (k : Int) := by
  unfold raV
  rw [if_neg (by simp), if_neg (by simp), if_neg (by simp), if_pos rfl]
  show muV n ((Zh7 s all c.You c.Source f).length : Int) = _
  rw [hk]
  unfold muV
  rw [Zabk (n := n) (by omega) (by omega), Zabk (n := (k : Int)) (by omega) (by omega), Zet (by omega) (by omega), Zabk (by omega) (by omega)]
 rw [hr, Zabk (by omega) (by omega)]
 unfold Zdy; split <;> omega
theorem Za8p {n : Int} {k : Nat} (h1 : 1 ≤ n) (h2 : n ≤ 99) (hk : k ≤ 60) : n * (k : Int) = IntKind.wrap .i64 ((1 * (k : Int)) * n) := by
 have hm : 0 ≤ n * (k : Int) ∧ n * (k : Int) ≤ 99 * 60 := ⟨Int.mul_nonneg (by omega) (by omega), Int.mul_le_mul h2 (by omega) (by omega) (by omega)⟩
 rw [Int.one_mul, Int.mul_comm (k : Int) n, Zet (by omega) (by omega)]
theorem Za8q {s : Zb} {all : List Za} {c : Zs} {n : Int} (h1 : 1 ≤ n) (h2 : n ≤ 99) : ofV s all c ⟨0, n, 0, Zacw⟩ = n := by
 have ha : amV ⟨0, n, 0, Zacw⟩ = true := by
  unfold amV
  rw [if_pos rfl]
  exact decide_eq_true ⟨by show 0 ≤ n; omega, by show n ≤ 1000000; omega, rfl, rfl⟩
 unfold ofV raV
 rw [if_pos ha, if_pos rfl]
 show Zdy (clV n) 0 = n
 rw [Zabk (by omega) (by omega)]
 unfold Zdy; split <;> omega
end Go.PW
