import Derived.Test.YtnoofnejcoadfaaGreatDoorQPl
set_option linter.all false
set_option maxRecDepth 100000
namespace Go.PW
def ixO (l : List Zg) (id : Int) : Int := match l.findIdx? fun o => o.Id == id with
 | some k => k
 | none => -1
abbrev Z48 (l : List Zg) (id v : Int) : Prop := ∀ (k : Nat) x, (k : Int) < v → l[k]? = some x → x.Id ≠ id
theorem Za8c {l : List Zg} {id : Int} : Z48 l id 0 := fun k x hk => by omega
theorem Za3a {l : List Zg} {id v w : Int} {x : Zg} (hx : l[v.toNat]? = some x) (h : Z48 l id v) (h0 : 0 ≤ v) (hn : x.Id ≠ id) (hw : w = v + 1) : Z48 l id w := fun k y hk hy => by
 rcases Zu6 h0 hw hk hy hx with hk | rfl
 ·exact h k y hk hy
 ·exact hn
theorem Za67 {l : List Zg} {id v : Int} {x : Zg} (hx : l[v.toNat]? = some x) (h : Z48 l id v) (h0 : 0 ≤ v) (hn : x.Id = id) : v = ixO l id := by
 unfold ixO
 obtain ⟨hi, he⟩ := List.getElem?_eq_some_iff.1 hx
 rw [List.findIdx?_eq_some_iff_getElem.2 ⟨hi, by rw [he]; exact beq_iff_eq.2 hn, fun j hj => by
  have := h j l[j] (by omega) (List.getElem?_eq_getElem (by omega))
  simpa using this⟩]
 show v = ((v.toNat : Nat) : Int)
 omega
theorem Za49 {l : List Zg} {id v : Int} (h : Z48 l id v) (hv : (l.length : Int) ≤ v) : -1 = ixO l id := by
 unfold ixO
 rw [List.findIdx?_eq_none_iff.2 fun x hx => by
  obtain ⟨k, hk, he⟩ := List.mem_iff_getElem.1 hx
  have := h k x (by omega) (by rw [List.getElem?_eq_getElem hk, he])
  simpa using this]
theorem Zap0 (l : List Zg) (id : Int) : (ixO l id = -1 ∧ ∀ x, x ∈ l → x.Id ≠ id) ∨ ∃ x, 0 ≤ ixO l id ∧ ixO l id < l.length ∧ l[(ixO l id).toNat]? = some x ∧ x.Id = id := by
 unfold ixO
 cases h : l.findIdx? fun o => o.Id == id with
 | none =>
  left
  refine ⟨rfl, fun x hx => ?_⟩
  have := List.findIdx?_eq_none_iff.1 h x hx
  simpa using this
 | some k =>
  right
  obtain ⟨hi, he, _⟩ := List.findIdx?_eq_some_iff_getElem.1 h
  refine ⟨l[k], by show 0 ≤ (k : Int); omega, by show (k : Int) < _; omega, ?_, by simpa using he⟩
  show l[(k : Int).toNat]? = _
  rw [Int.toNat_natCast, List.getElem?_eq_getElem hi]
theorem Zale (l : List Zg) (id : Int) : -1 ≤ ixO l id ∧ ixO l id < l.length := by
 rcases Zap0 l id with ⟨h, _⟩ | ⟨x, h1, h2, _⟩ <;> omega
abbrev Za0l : Zg := ⟨0, 0, 0, 0, 0, false, false, false, false, 0, ⟨0, 0, 0⟩, 0, 0, 0, false, 0, 0⟩
def fdV (l : List Zg) (id : Int) : Zg × Bool := match l.find? fun o => o.Id == id with
 | some o => (o, true)
 | none => (Za0l, false)
theorem Za3b {l : List Zg} {id : Int} (h : ixO l id < 0) : (Za0l, false) = fdV l id := by
 unfold fdV
 rcases Zap0 l id with ⟨_, hn⟩ | ⟨x, h1, _⟩
 ·rw [List.find?_eq_none.2 fun x hx => by simpa using hn x hx]
 ·omega
theorem Zayz {l : List Zg} {id : Int} {x : Zg} (hx : l[(ixO l id).toNat]? = some x) (h : ¬ ixO l id < 0) : (x, true) = fdV l id := by
 unfold fdV
 have hf : l.find? (fun o => o.Id == id) = some x := by
  unfold ixO at hx h
  cases he : l.findIdx? fun o => o.Id == id with
  | none => rw [he] at h; exact absurd (by decide) h
  | some k =>
   rw [he] at hx
   obtain ⟨hi, h1, h2⟩ := List.findIdx?_eq_some_iff_getElem.1 he
   have hx : l[k]? = some x := hx
   rw [List.getElem?_eq_getElem hi] at hx
   have e := Option.some.inj hx
   exact List.find?_eq_some_iff_getElem.2 ⟨by rw [← e]; exact h1, k, hi, e, fun j hj => by simpa using h2 j hj⟩
 rw [hf]
theorem Za8d (l : List Zg) (id : Int) : (fdV l id).2 = decide (0 ≤ ixO l id) := by
 by_cases h : ixO l id < 0
 ·rw [← Za3b h, decide_eq_false (by omega)]
 ·have := (Zale l id).2
  rw [← Zayz (List.getElem?_eq_getElem (show (ixO l id).toNat < l.length by omega)) h, decide_eq_true (by omega)]
def trV (all : List Za) (i : Int) : Za := (if i < 0 then none else all[i.toNat]?).getD Zxs
theorem Zay0 {all : List Za} {i : Int} (h : i < 0) : Zxs = trV all i := by unfold trV; rw [if_pos h]; rfl
theorem Zay1 {all : List Za} {i : Int} (h : i ≥ (all.length : Int)) : Zxs = trV all i := by
 unfold trV
 rw [if_neg (by omega), List.getElem?_eq_none (by omega)]; rfl
theorem Za3c {all : List Za} {i : Int} {x : Za} (hx : all[i.toNat]? = some x) (h : ¬ i < 0) : x = trV all i := by unfold trV; rw [if_neg h, hx]; rfl
def tgV (l : List Zac) (n : Int) : Zac × Bool := match (if n < 1 then none else l[(n - 1).toNat]?) with
 | some t => (t, true)
 | none => (⟨0, 0⟩, false)
theorem Za68 {l : List Zac} {n : Int} (h : n < 1 ∨ n > (l.length : Int)) : ((⟨0, 0⟩ : Zac), false) = tgV l n := by
 unfold tgV
 by_cases h1 : n < 1
 ·rw [if_pos h1]
 ·rw [if_neg h1, List.getElem?_eq_none (by omega)]
theorem Za8e {l : List Zac} {n m : Int} {x : Zac} (hx : l[m.toNat]? = some x) (hm : m = n - 1) (h : ¬ n < 1) : (x, true) = tgV l n := by
 unfold tgV
 rw [if_neg h, ← hm, hx]
def Zli (ps : List Zam) (p : Int) : Bool := decide (0 ≤ p) && ((ps[p.toNat]?).map fun x => !x.Lost).getD false
def Zq5 (ps : List Zam) (v : Int) : List Int := ((List.range v.toNat).map fun i : Nat => (i : Int)).filter (Zli ps)
theorem Z49 {ps : List Zam} {p : Int} (h : p < 0 ∨ p ≥ (ps.length : Int)) : Zli ps p = false := by
 unfold Zli
 by_cases h1 : 0 ≤ p
 ·rw [List.getElem?_eq_none (by omega)]; simp
 ·rw [decide_eq_false h1]; rfl
theorem Zabz {ps : List Zam} {p : Int} {x : Zam} (hx : ps[p.toNat]? = some x) (h : 0 ≤ p) : Zli ps p = !x.Lost := by
 unfold Zli
 rw [decide_eq_true h, hx]; rfl
theorem Zap1 {ps : List Zam} {v w : Int} (h0 : 0 ≤ v) (hw : w = v + 1) : Zq5 ps w = Zq5 ps v ++ (if Zli ps v then [v] else []) := by
 unfold Zq5
 have : w.toNat = v.toNat + 1 := by omega
 rw [this, List.range_succ, List.map_append, List.filter_append]
 congr 1
 show List.filter (Zli ps) [((v.toNat : Nat) : Int)] = _
 rw [Int.toNat_of_nonneg h0, List.filter_cons]
 rfl
theorem Za5a {ps : List Zam} {acc z : List Int} {v w : Int} {x : Zam} (hz : z = acc ++ [v]) (hx : ps[v.toNat]? = some x) (h : acc = Zq5 ps v) (h0 : 0 ≤ v) (hl : x.Lost = false) (hw : w = v + 1) : z = Zq5 ps w := by
 rw [Zap1 h0 hw, Zabz hx h0, hl, hz, h]; rfl
theorem Za3d {ps : List Zam} {acc : List Int} {v w : Int} {x : Zam} (hx : ps[v.toNat]? = some x) (h : acc = Zq5 ps v) (h0 : 0 ≤ v) (hl : x.Lost = true) (hw : w = v + 1) : acc = Zq5 ps w := by
 rw [Zap1 h0 hw, Zabz hx h0, hl, h]; exact (List.append_nil _).symm
def Zdq (ps : List Zam) : List Int := Zq5 ps ps.length
theorem Zavw {ps : List Zam} {acc : List Int} {v : Int} (h : acc = Zq5 ps v) (hv : v ≤ (ps.length : Int)) (hl : (ps.length : Int) ≤ v) : acc = Zdq ps := by
 unfold Zdq; rw [h]; congr 1; omega
def Z5a (ps : List Zam) (p : Int) : List Int :=
 if p < 0 ∨ p ≥ (ps.length : Int) then Zdq ps else (Zdq ps).filter (fun x => decide (p < x)) ++ (Zdq ps).filter (fun x => decide (x < p))
theorem Za5b {ps : List Zam} {x : Int} : x ∈ Zdq ps ↔ Zli ps x = true := by
 unfold Zdq Zq5
 rw [List.mem_filter]
 refine ⟨fun h => h.2, fun h => ⟨?_, h⟩⟩
 have h1 : 0 ≤ x ∧ x < ps.length := by
  refine Classical.byContradiction fun hn => ?_
  rw [Z49 (by omega)] at h; cases h
 exact List.mem_map.2 ⟨x.toNat, List.mem_range.2 (by omega), by omega⟩
theorem Zaet {ps : List Zam} {x : Int} (h : x ∈ Zdq ps) : 0 ≤ x := by
 refine Classical.byContradiction fun hn => ?_
 have := Za5b.1 h
 rw [Z49 (by omega)] at this; cases this
theorem Zavx (ps : List Zam) : (Zdq ps).length ≤ ps.length := by
 unfold Zdq Zq5
 refine Nat.le_trans (List.length_filter_le ..) ?_
 simp
theorem Za69 {ps : List Zam} {p : Int} : (Zdq ps).filter (fun x => decide ((-1 : Int) < x)) ++ (Zdq ps).filter (fun x => decide (x < (-1 : Int))) = Zdq ps := by
 rw [List.filter_eq_self.2 fun x hx => decide_eq_true (show (-1 : Int) < x by have := Zaet hx; omega), List.filter_eq_nil_iff.2 fun x hx => by have := Zaet hx; simp; omega, List.append_nil]
abbrev Zar8 : Ze := ⟨0, 0, 0, 0, 0, 0, 0, [], 0, 0, ⟨0, 0⟩, ⟨0, 0⟩, ⟨0, 0⟩⟩
def clV (n : Int) : Int := Z7q (Zte n (-1000000)) 1000000
def muV (a b : Int) : Int := clV (IntKind.wrap .i64 (clV a * clV b))
def amV (a : Z3) : Bool :=
 if a.Kind = 0 then decide (0 ≤ a.N ∧ a.N ≤ 1000000 ∧ a.Counter = 0 ∧ a.Filter = Zar8)
 else if a.Kind = 2 then decide (1 ≤ a.N ∧ a.N ≤ 99 ∧ a.Counter = 0) && filV a.Filter
 else if a.Kind = 4 then decide (0 ≤ a.Counter ∧ a.Counter ≤ 2 ∧ a.N = 0 ∧ a.Filter = Zar8)
 else decide (0 ≤ a.Kind ∧ a.Kind ≤ 7 ∧ a.N = 0 ∧ a.Counter = 0 ∧ a.Filter = Zar8)
def usV (a : Z3) : Z3 := if a.Kind = 2 then ⟨0, 0, a.Counter, Zar8⟩ else if a.Kind = 0 then ⟨0, 0, a.Counter, a.Filter⟩ else if a.Kind = 4 then ⟨0, a.N, 0, a.Filter⟩ else ⟨0, a.N, a.Counter, a.Filter⟩
theorem Za84 (x y : Z3) : Zas (Zah x) (Zah y) = decide (x = y) := Za2j Zann x y
theorem Za85 {a : Z3} (h : amV a = true) : a.Kind = 4 → 0 ≤ a.Counter ∧ a.Counter ≤ 2 := fun hk => by
 unfold amV at h
 rw [if_neg (by omega), if_neg (by omega), if_pos hk] at h
 have := of_decide_eq_true h
 exact ⟨this.1, this.2.1⟩
def cnV (l : List Zg) (id c : Int) : Int := ((fdV l id).1.Counters.list[c.toNat]?).getD 0
def raV (s : Zb) (all : List Za) (c : Zy) (a : Z3) : Int :=
 if a.Kind = 0 then a.N else if a.Kind = 1 then c.X else if a.Kind = 7 then c.Event.Amount
 else if a.Kind = 2 then muV a.N (Zzp s all c.You c.Source a.Filter).length
 else if a.Kind = 3 then (trV all (ixO s.Objects c.Source)).Power
 else if a.Kind = 4 then cnV s.Objects c.Source a.Counter
 else if c.You < 0 ∨ c.You ≥ (s.Players.length : Int) then 0
 else if a.Kind = 5 then ((s.Players[c.You.toNat]?).map fun p => p.Life).getD 0
 else ((s.Players[c.You.toNat]?).map fun p => (p.Hand.length : Int)).getD 0
def ofV (s : Zb) (all : List Za) (c : Zy) (a : Z3) : Int := if amV a then Zte (clV (raV s all c a)) 0 else 0
def tlV (s : Zb) (all : List Za) (c : Zy) (r : Zal) : List Int :=
 if r.Kind = 1 then [c.You] else if r.Kind = 5 then Z5a s.Players c.You else if r.Kind = 6 then [c.You] ++ Z5a s.Players c.You
 else if r.Kind = 3 ∨ r.Kind = 8 then
  (if (tgV c.Targets r.N).2 then
   (if (tgV c.Targets r.N).1.Object = 0 then [(tgV c.Targets r.N).1.Player]
    else if r.Kind = 8 ∧ 0 ≤ ixO s.Objects (tgV c.Targets r.N).1.Object then [(trV all (ixO s.Objects (tgV c.Targets r.N).1.Object)).Control] else [])
  else [])
 else []
def plV (s : Zb) (all : List Za) (c : Zy) (r : Zal) : List Int := (tlV s all c r).filter (Zli s.Players)
def exB (s : Zb) (id : Int) : Bool := decide (0 ≤ ixO s.Objects id)
def obV (s : Zb) (all : List Za) (c : Zy) (r : Zal) : List Int :=
 (if r.Kind = 2 then [c.Source] else if r.Kind = 7 then [c.Event.Object] else if r.Kind = 4 then Zzp s all c.You c.Source r.Filter
  else if r.Kind = 3 then (if (tgV c.Targets r.N).2 = true ∧ (tgV c.Targets r.N).1.Object ≠ 0 then [(tgV c.Targets r.N).1.Object] else []) else []).filter (exB s)
theorem Za7a {all : List Za} {l : List Zg} {id i : Int} (hi : i = ixO l id) (h : i < 0) : (Zxs, false) = (trV all (ixO l id), decide (0 ≤ ixO l id)) := by
 rw [← hi, ← Zay0 h, decide_eq_false (by omega)]
theorem Za7b {all : List Za} {l : List Zg} {id i : Int} (hi : i = ixO l id) (h : ¬ i < 0) (h2 : i ≥ (all.length : Int)) : (Zxs, true) = (trV all (ixO l id), decide (0 ≤ ixO l id)) := by
 rw [← hi, ← Zay1 h2, decide_eq_true (by omega)]
theorem Za8f {all : List Za} {l : List Zg} {id i : Int} {x : Za} (hx : all[i.toNat]? = some x) (hi : i = ixO l id) (h : ¬ i < 0) : (x, true) = (trV all (ixO l id), decide (0 ≤ ixO l id)) := by
 rw [← hi, ← Za3c hx h, decide_eq_true (by omega)]
theorem Za8g {l : List Zg} {id i : Int} (hi : i = ixO l id) (h : i < 0) : (Za0l, false) = fdV l id := Za3b (hi ▸ h)
theorem Za7c {l : List Zg} {id i : Int} {x : Zg} (hx : l[i.toNat]? = some x) (hi : i = ixO l id) (h : ¬ i < 0) : (x, true) = fdV l id := by subst hi; exact Zayz hx h
theorem Za5c {α : Type} {p : α → Bool} {l acc z c : List α} {v w : Int} {x : α} (hz : z = acc ++ [x]) (hx : l[v.toNat]? = some x) (h : acc = c ++ (l.take v.toNat).filter p) (h0 : 0 ≤ v) (hp : p x = true) (hw : w = v + 1) : z = c ++ (l.take w.toNat).filter p := by
 rw [hz, h, Zhj hx h0 hw, List.filter_append, List.filter_cons, if_pos hp, List.append_assoc]; rfl
theorem Za3e {α : Type} {p : α → Bool} {l acc c : List α} {v w : Int} {x : α} (hx : l[v.toNat]? = some x) (h : acc = c ++ (l.take v.toNat).filter p) (h0 : 0 ≤ v) (hp : p x = false) (hw : w = v + 1) : acc = c ++ (l.take w.toNat).filter p := by
 rw [h, Zhj hx h0 hw, List.filter_append, List.filter_cons, if_neg (by rw [hp]; decide), List.filter_nil, List.append_nil]
abbrev oA (ps : List Zam) (p x : Int) : Bool := decide (0 ≤ p ∧ p < (ps.length : Int) ∧ p < x)
abbrev oB (ps : List Zam) (p x : Int) : Bool := decide (¬ (0 ≤ p ∧ p < (ps.length : Int)) ∨ x < p)
theorem Zay2 {ps : List Zam} {p : Int} {l : List Int} (h : ¬ (0 ≤ p ∧ p < (ps.length : Int))) : l.filter (oA ps p) = [] := List.filter_eq_nil_iff.2 fun x _ => by simp only [oA, decide_eq_true_eq]; omega
theorem Za7d {ps : List Zam} {p v w : Int} {l acc : List Int} (hx : acc = (l.take v.toNat).filter (oA ps p)) (h : ¬ (0 ≤ p ∧ p < (ps.length : Int))) : acc = (l.take w.toNat).filter (oA ps p) := by rw [hx, Zay2 h, Zay2 h]
theorem Za8h (ps : List Zam) (p : Int) : (Zdq ps).filter (oA ps p) ++ (Zdq ps).filter (oB ps p) = Z5a ps p := by
 unfold Z5a
 by_cases h : p < 0 ∨ p ≥ (ps.length : Int)
 ·rw [if_pos h, List.filter_eq_nil_iff.2 fun x hx => by simp [oA]; omega, List.filter_eq_self.2 fun x hx => by simp [oB]; omega, List.nil_append]
 ·rw [if_neg h]
  congr 1
  ·refine List.filter_congr fun x hx => ?_
   simp only [oA]; rw [decide_eq_decide]; omega
  ·refine List.filter_congr fun x hx => ?_
   simp only [oB]; rw [decide_eq_decide]; omega
theorem Za7e {ps : List Zam} {p : Int} {acc : List Int} {v : Int} (h : acc = (Zdq ps).filter (oA ps p) ++ ((Zdq ps).take v.toNat).filter (oB ps p)) (hv : ((Zdq ps).length : Int) ≤ v) : acc = Z5a ps p := by
 rw [h, List.take_of_length_le (by omega)]; exact Za8h ps p
theorem Za7f {ps : List Zam} {p q : Int} {a b z : List Int} {v : Int} (hz : z = b ++ a) (ha : a = ((Zdq ps).take v.toNat).filter fun x => decide (x < q)) (hb : b = ((Zdq ps).take v.toNat).filter fun x => decide (q < x)) (hq : (q = -1 ∧ (p < 0 ∨ p ≥ (ps.length : Int))) ∨ (q = p ∧ 0 ≤ p ∧ p < (ps.length : Int))) (hv : ((Zdq ps).length : Int) ≤ v) : z = Z5a ps p := by
 rw [List.take_of_length_le (by omega)] at ha hb
 rw [hz, ha, hb]
 unfold Z5a
 rcases hq with ⟨rfl, h⟩ | ⟨rfl, h1, h2⟩
 ·rw [if_pos h]; exact Za69 (p := p)
 ·rw [if_neg (by omega)]
theorem Za3f {α : Type} {a b : List α} {v w : Int} {x y : α} (hx : a[v.toNat]? = some x) (hy : b[v.toNat]? = some y) (h : ∀ k : Nat, (k : Int) < v → a[k]? = b[k]?) (h0 : 0 ≤ v) (e : x = y) (hw : w = v + 1) : ∀ k : Nat, (k : Int) < w → a[k]? = b[k]? := fun k hk => by
 by_cases hk' : (k : Int) < v
 ·exact h k hk'
 ·have : k = v.toNat := by omega
  subst this
  rw [hx, hy, e]
theorem Zags {α : Type} {a b : List α} {v : Int} (h : ∀ k : Nat, (k : Int) < v → a[k]? = b[k]?) (hl : a.length = b.length) (hv : (a.length : Int) ≤ v) : a = b :=
 List.ext_getElem? fun k => by
  by_cases hk : (k : Int) < v
  ·exact h k hk
  ·rw [List.getElem?_eq_none (by omega), List.getElem?_eq_none (by omega)]
end Go.PW
