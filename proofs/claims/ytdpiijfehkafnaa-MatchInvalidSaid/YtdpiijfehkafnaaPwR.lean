/- The engine, part R: lifted functions: running a step function; partial operations on pure data, and what the evaluator's conditions make of them. -/
import Derived.Test.YtdpiijfehkafnaaPwQ
import Derived.Lib.IndexMore
namespace Go.PW
open Go.RowKit

/-! ### Loops without fuel -/
def iterO {S R : Type} (step : S → Option (S ⊕ R)) : Nat → S → Option R
  | 0, _ => none
  | n + 1, s =>
    match step s with
    | none => none
    | some (.inl s') => iterO step n s'
    | some (.inr r) => some r
theorem iterO_mono {S R : Type} {step : S → Option (S ⊕ R)} : ∀ {n m : Nat} {s : S} {r : R}, n ≤ m → iterO step n s = some r → iterO step m s = some r
  | 0, m, s, r, _, h => by cases h
  | n + 1, 0, s, r, hl, h => by omega
  | n + 1, m + 1, s, r, hl, h => by
    simp only [iterO] at h ⊢
    split at h
    · cases h
    · exact iterO_mono (by omega) h
    · exact h
open Classical in
/-- the result, if the steps end -/
noncomputable def runO {S R : Type} (step : S → Option (S ⊕ R)) (s : S) : Option R :=
  if h : ∃ r, ∃ n, iterO step n s = some r then some (Classical.choose h) else none
theorem runO_iff {S R : Type} {step : S → Option (S ⊕ R)} {s : S} {r : R} : runO step s = some r ↔ ∃ n, iterO step n s = some r := by
  unfold runO
  constructor
  · intro h
    split at h
    · rename_i hx
      cases h
      exact Classical.choose_spec hx
    · cases h
  · rintro ⟨n, hn⟩
    have hx : ∃ r, ∃ n, iterO step n s = some r := ⟨r, n, hn⟩
    rw [dif_pos hx]
    obtain ⟨m, hm⟩ := Classical.choose_spec hx
    have h1 := iterO_mono (Nat.le_max_left n m) hn
    have h2 := iterO_mono (Nat.le_max_right n m) hm
    rw [← h2, h1]
/-- one step -/
theorem runO_eq {S R : Type} (step : S → Option (S ⊕ R)) (s : S) : runO step s = match step s with
    | none => none
    | some (.inl s') => runO step s'
    | some (.inr r) => some r := by
  apply Option.ext
  intro r
  rw [runO_iff]
  constructor
  · rintro ⟨n, hn⟩
    cases n with
    | zero => cases hn
    | succ n =>
      simp only [iterO] at hn
      split at hn
      · cases hn
      · exact runO_iff.2 ⟨n, hn⟩
      · exact hn
  · intro h
    split at h
    · cases h
    · rename_i s' hs
      obtain ⟨n, hn⟩ := runO_iff.1 h
      exact ⟨n + 1, by simp only [iterO, hs]; exact hn⟩
    · rename_i r' hs
      exact ⟨1, by simp only [iterO, hs]; exact h⟩
theorem runO_inl {S R : Type} {step : S → Option (S ⊕ R)} {s s' : S} (h : step s = some (.inl s')) : runO step s = runO step s' := by rw [runO_eq, h]
theorem runO_inr {S R : Type} {step : S → Option (S ⊕ R)} {s : S} {r : R} (h : step s = some (.inr r)) : runO step s = some r := by rw [runO_eq, h]
noncomputable def endO {S R : Type} (step : S → Option (S ⊕ R)) : S ⊕ R → Option R
  | .inl s => runO step s
  | .inr r => some r

/-! ### Eliminations, for the scripts -/
theorem bindE {α β : Type} {o : Option α} {k : α → Option β} {r : β} {C : Prop} (h : o.bind k = some r) (f : ∀ x, o = some x → k x = some r → C) : C := by
  cases o with
  | none => cases h
  | some x => exact f x rfl h
theorem condE {β : Type} {b : Bool} {x y : Option β} {r : β} {C : Prop} (h : (bif b then x else y) = some r) (f : b = true → x = some r → C) (g : b = false → y = some r → C) : C := by
  cases b with
  | true => exact f rfl h
  | false => exact g rfl h
theorem someE {β : Type} {x r : β} {C : Prop} (h : some x = some r) (f : x = r → C) : C := f (Option.some.inj h)

/-! ### Partial operations -/
def idx? {α : Type} (xs : List α) (i : Int) : Option α := if 0 ≤ i then xs[i.toNat]? else none
def app? {α : Type} (bytes : Nat) (xs ys : List α) : Option (List α) := if (xs.length + ys.length) * bytes ≤ 140737488355328 ∧ xs.length + ys.length ≤ 9223372036854775807 then some (xs ++ ys) else none
def ok? (b : Bool) : Option Unit := if b then some () else none

theorem len_map {α β : Type} (f : α → β) (xs : List α) : (((xs.map f).length : Nat) : Int) = (xs.length : Int) := by rw [List.length_map]
theorem all_map {α : Type} (f : α → List Tree) (k : Nat) (h : ∀ x, (f x).length = k) (xs : List α) : ∀ el, el ∈ xs.map f → el.length = k := by
  intro el hel
  obtain ⟨x, _, rfl⟩ := List.mem_map.1 hel
  exact h x
theorem idx_nn {α : Type} {xs : List α} {i : Int} {x : α} (h : idx? xs i = some x) : 0 ≤ i := by
  unfold idx? at h
  split at h
  · assumption
  · cases h
theorem idx_map {α β : Type} {xs : List α} {i : Int} {x : α} (f : α → β) (h : idx? xs i = some x) : (xs.map f)[i.toNat]? = some (f x) := by
  unfold idx? at h
  split at h
  · simp [h]
  · cases h
theorem idx_lt {α β : Type} {xs : List α} {i : Int} {x : α} (f : α → β) (h : idx? xs i = some x) : i < ((xs.map f).length : Nat) := by
  unfold idx? at h
  split at h
  · have := (List.getElem?_eq_some_iff.1 h).1
    rw [List.length_map]; omega
  · cases h
theorem app_map {α β : Type} {b : Nat} {xs ys zs : List α} (f : α → β) (h : app? b xs ys = some zs) : xs.map f ++ ys.map f = zs.map f := by
  unfold app? at h
  split at h
  · cases h; simp
  · cases h
theorem app_nil {α β : Type} {b : Nat} {ys zs : List α} (f : α → β) (h : app? b [] ys = some zs) : ys.map f = zs.map f := by simpa using app_map f h
theorem app_len {α β : Type} {b : Nat} {xs ys zs : List α} (f : α → β) (h : app? b xs ys = some zs) : (zs.map f).length ≤ 9223372036854775807 := by
  unfold app? at h
  split at h
  · cases h; simp; omega
  · cases h
theorem app_bytes {α β : Type} {b : Nat} {xs ys zs : List α} (f : α → β) (h : app? b xs ys = some zs) : (zs.map f).length * b ≤ 140737488355328 := by
  unfold app? at h
  split at h
  · cases h; simp; omega
  · cases h
theorem ok_of {b : Bool} {u : Unit} (h : ok? b = some u) : b = true := by
  unfold ok? at h
  split at h
  · assumption
  · cases h
theorem ok_prop {p : Prop} [Decidable p] {u : Unit} (h : ok? (decide p) = some u) : p := of_decide_eq_true (ok_of h)

def slice? {α : Type} (xs : List α) (l h : Int) : Option (List α) := if 0 ≤ l ∧ l ≤ h ∧ h ≤ xs.length then some ((xs.take h.toNat).drop l.toNat) else none
def copy? {α : Type} (dst src : List α) : Option (List α) := if src.length ≤ dst.length then some (src ++ dst.drop src.length) else none
def make? {α : Type} (bytes : Nat) (z : α) (m c : Int) : Option (List α) := if 0 ≤ m ∧ m ≤ c ∧ (bytes : Int) * c ≤ 281474976710656 ∧ c ≤ 9223372036854775807 then some (List.replicate m.toNat z) else none
theorem slice_0 {α : Type} {xs zs : List α} {l h : Int} (e : slice? xs l h = some zs) : 0 ≤ l := by
  unfold slice? at e; split at e
  · rename_i c; exact c.1
  · cases e
theorem slice_1 {α : Type} {xs zs : List α} {l h : Int} (e : slice? xs l h = some zs) : l ≤ h := by
  unfold slice? at e; split at e
  · rename_i c; exact c.2.1
  · cases e
theorem slice_2 {α β : Type} {xs zs : List α} {l h : Int} (f : α → β) (e : slice? xs l h = some zs) : h ≤ ((xs.map f).length : Nat) := by
  unfold slice? at e; split at e
  · rename_i c; rw [List.length_map]; exact c.2.2
  · cases e
theorem slice_map {α β : Type} {xs zs : List α} {l h : Int} (f : α → β) (e : slice? xs l h = some zs) : ((xs.map f).take h.toNat).drop l.toNat = zs.map f := by
  unfold slice? at e; split at e
  · cases e; simp [List.map_drop, List.map_take]
  · cases e
theorem slice_1n {α β : Type} {xs zs : List α} {l : Int} (f : α → β) (e : slice? xs l xs.length = some zs) : l ≤ ((xs.map f).length : Nat) := by rw [List.length_map]; exact slice_1 e
theorem slice_mapn {α β : Type} {xs zs : List α} {l : Int} (f : α → β) (e : slice? xs l xs.length = some zs) : ((xs.map f).take (((xs.map f).length : Nat) : Int).toNat).drop l.toNat = zs.map f := by
  rw [show (((xs.map f).length : Nat) : Int) = (xs.length : Int) by rw [List.length_map]]; exact slice_map f e
theorem copy_le {α β : Type} {xs ys zs : List α} (f : α → β) (e : copy? xs ys = some zs) : (ys.map f).length ≤ (xs.map f).length := by
  unfold copy? at e; split at e
  · rw [List.length_map, List.length_map]; assumption
  · cases e
theorem copy_map {α β : Type} {xs ys zs : List α} (f : α → β) (e : copy? xs ys = some zs) : ys.map f ++ (xs.map f).drop (ys.map f).length = zs.map f := by
  unfold copy? at e; split at e
  · cases e; simp [List.map_drop]
  · cases e
theorem copy_len {α β : Type} {xs ys zs : List α} (f : α → β) (e : copy? xs ys = some zs) : (xs.map f).length = (zs.map f).length := by
  unfold copy? at e; split at e
  · cases e; simp; omega
  · cases e
theorem make_facts {α : Type} {b : Nat} {z : α} {m c : Int} {zs : List α} (e : make? b z m c = some zs) : 0 ≤ m ∧ m ≤ c ∧ (b : Int) * c ≤ 281474976710656 ∧ c ≤ 9223372036854775807 := by
  unfold make? at e; split at e
  · assumption
  · cases e
theorem make_len {α β : Type} {b : Nat} {z : α} {m c : Int} {zs : List α} (f : α → β) (e : make? b z m c = some zs) : m.toNat = (zs.map f).length := by
  unfold make? at e; split at e
  · cases e; simp
  · cases e
theorem make_map {α β : Type} {b : Nat} {z : α} {m c : Int} {zs : List α} (f : α → β) (e : make? b z m c = some zs) : List.replicate (zs.map f).length (f z) = zs.map f := by
  unfold make? at e; split at e
  · cases e; simp
  · cases e
theorem ne_map {α β : Type} (f : α → β) {xs : List α} (h : xs ≠ []) : xs.map f ≠ [] := by simpa using h
theorem app_nn {α : Type} {b : Nat} {z : List α} (h : app? b [] [] = some z) : [] = z := by
  unfold app? at h; split at h
  · simpa using h
  · cases h

/-- a slice that is empty may be nil or not -/
theorem Fn.split0 {P : Program} {f : FuncId} {es : List (List Tree)} {rest : List PV} {res : PV} (h1 : es ≠ [] → Fn P f (.t (.sl es) :: rest) res) (h2 : es = [] → ∀ a c, Fn P f (.t (.con (.slice a 0 c)) :: rest) res) : Fn P f (.t (.sl es) :: rest) res := by
  by_cases he : es = []
  · refine ⟨(h2 he none 0).1, fun A β w vals hl hr => ?_⟩
    have hv := (hr.tm 0 (.t (.sl es)) (by simp [idx, PW.get])).2
    subst he
    simp only [VR, TRel] at hv
    obtain ⟨a, cap, hv, _⟩ := hv
    refine (h2 rfl a cap).2 A β w vals hl ?_
    exact { defers := hr.defers, sz := hr.sz, base := hr.base, os := hr.os, tape := hr.tape, output := hr.output, old := hr.old, A := hr.A, gl := hr.gl, inj := hr.inj, sep := hr.sep, fix := hr.fix, blk := hr.blk,
            tm := fun i p hp => by
              by_cases hi : i = 0
              · subst hi
                simp only [idx, PW.get, Nat.beq_eq, cond_true, Option.some.injEq] at hp
                have hp : PV.t (.con (.slice a 0 cap)) = p := by simpa using hp
                subst hp
                exact ⟨by simp, by simp only [VR, TRel]; exact ⟨hv, rfl⟩⟩
              · refine hr.tm i p ?_
                simp only [idx, PW.get, beq_ff (Ne.symm hi), cond_false] at hp ⊢
                exact hp }
  · exact h1 he

theorem FnG.split0 {P : Program} {f : FuncId} {es : List (List Tree)} {rest : List PV} {res : PV} {σ σ' : List (Nat × Blk)} (h1 : es ≠ [] → FnG P f σ (.t (.sl es) :: rest) σ' res) (h2 : es = [] → ∀ a c, FnG P f σ (.t (.con (.slice a 0 c)) :: rest) σ' res) : FnG P f σ (.t (.sl es) :: rest) σ' res := by
  by_cases he : es = []
  · refine ⟨(h2 he none 0).1, fun A β w vals hl hr => ?_⟩
    have hv := (hr.tm 0 (.t (.sl es)) (by simp [idx, PW.get])).2
    subst he
    simp only [VR, TRel] at hv
    obtain ⟨a, cap, hv, _⟩ := hv
    refine (h2 rfl a cap).2 A β w vals hl ?_
    exact { defers := hr.defers, sz := hr.sz, base := hr.base, os := hr.os, tape := hr.tape, output := hr.output, old := hr.old, A := hr.A, gl := hr.gl, inj := hr.inj, sep := hr.sep, fix := hr.fix, blk := hr.blk,
            tm := fun i p hp => by
              by_cases hi : i = 0
              · subst hi
                simp only [idx, PW.get, Nat.beq_eq, cond_true, Option.some.injEq] at hp
                have hp : PV.t (.con (.slice a 0 cap)) = p := by simpa using hp
                subst hp
                exact ⟨by simp, by simp only [VR, TRel]; exact ⟨hv, rfl⟩⟩
              · refine hr.tm i p ?_
                simp only [idx, PW.get, beq_ff (Ne.symm hi), cond_false] at hp ⊢
                exact hp }
  · exact h1 he

/-! ### Elements that are written in place -/
def set? {α : Type} (xs : List α) (i : Int) (x : α) : Option (List α) := if 0 ≤ i ∧ i.toNat < xs.length then some (xs.set i.toNat x) else none
theorem set_es {α : Type} {z z2 : List α} {i : Int} {x x' : α} {q : Nat} {ts : List Tree} (f : α → List Tree) (h : set? z i x' = some z2) (hs : splice (f x) q ts = f x') : (List.map f z).set i.toNat (splice (f x) q ts) = List.map f z2 := by
  unfold set? at h
  split at h
  · cases h; rw [hs, List.map_set]
  · cases h
theorem set_len {α β : Type} {z z2 : List α} {i : Int} {x' : α} (f : α → β) (h : set? z i x' = some z2) : (List.map f z).length = (List.map f z2).length := by
  unfold set? at h
  split at h
  · cases h; simp
  · cases h
theorem scal_map {α : Type} (f : α → List Tree) (h : ∀ x, (f x).all Tree.scal = true) (z : List α) : ∀ el, el ∈ List.map f z → ∀ x, x ∈ el → Tree.scal x = true := by
  intro el hel x hx
  obtain ⟨y, _, rfl⟩ := List.mem_map.1 hel
  exact List.all_eq_true.1 (h y) x hx

/-! ### Contracts of the library's, over pure data -/
theorem VRs.of_getD {c : Ctx} : ∀ {args : List PV} {vals : List Value}, vals.length = args.length → (∀ i p, args[i]? = some p → VR c p (vals.getD i undef)) → VRs c args vals
  | [], [], _, _ => by simp [VRs]
  | p :: args, v :: vals, hl, h => by
    simp only [VRs]
    exact ⟨v, vals, rfl, by simpa using h 0 p rfl, VRs.of_getD (by simpa using hl) (fun i q hq => by simpa using h (i + 1) q (by simpa using hq))⟩
  | [], _ :: _, hl, _ => by simp at hl
  | _ :: _, [], hl, _ => by simp at hl
theorem FnG.ofW {P : Program} {f : FuncId} {args : List PV} {res : PV} (hok : FnOk P f)
    (h : ∀ (w : World) (vals : List Value), GlobW w → (∃ c : Ctx, VRs c args vals) → Calls P f vals.toArray w fun e w' => ∃ v, e = .returned v ∧ w' = w ∧ ∀ c, VR c res v) : Fn P f args res := by
  refine ⟨hok, fun A β w vals hlen hr => ?_⟩
  have hv : VRs (ctx (callFrm β [] A w) β w []) args vals := VRs.of_getD hlen (fun i p hp => by
    have := (hr.tm i p (by rw [get_idx]; simpa using hp)).2
    simpa [List.getD_eq_getElem?_getD, Array.getD_eq_getD_getElem?] using this)
  refine (h w vals hr.glw ⟨_, hv⟩).mono ?_
  rintro e w' ⟨v, rfl, rfl, hres⟩
  refine ⟨v, β, rfl, { defers := rfl, sz := by simp, base := hr.base, os := hr.os, tape := hr.tape, output := hr.output, old := hr.old, A := hr.A, gl := hr.gl, inj := hr.inj, sep := hr.sep, fix := hr.fix, blk := hr.blk, tm := fun i p hp => ?_ }⟩
  simp only [PW.get] at hp
  cases hb : Nat.beq 0 i with
  | true =>
    have : 0 = i := (beq_iff _ _).1 hb
    subst this
    simp only [hb, cond_true, Option.some.injEq] at hp
    subst hp
    exact ⟨by simp, by simpa using hres _⟩
  | false => simp [hb] at hp
def strings_Contains (s sub : List UInt8) : Option Bool := if s.length < 4294967281 then some (Lib.contains s sub) else none
/-! ### Fn out of lifted code -/
/-! ### Cells of pure data -/
def cB (b : Bool) : List Tree := [.bool b]
def cI (k : IntKind) (n : Int) : List Tree := [.int k n]
def cS (s : List UInt8) : List Tree := [.str s]
def cL {α : Type} (f : α → List Tree) (xs : List α) : List Tree := [.sl (xs.map f)]
structure A2 (α : Type) where
  (a0 a1 : α)
  deriving DecidableEq, Inhabited
structure A3 (α : Type) where
  (a0 a1 a2 : α)
  deriving DecidableEq, Inhabited
structure A4 (α : Type) where
  (a0 a1 a2 a3 : α)
  deriving DecidableEq, Inhabited
structure A5 (α : Type) where
  (a0 a1 a2 a3 a4 : α)
  deriving DecidableEq, Inhabited
structure A6 (α : Type) where
  (a0 a1 a2 a3 a4 a5 : α)
  deriving DecidableEq, Inhabited
structure A7 (α : Type) where
  (a0 a1 a2 a3 a4 a5 a6 : α)
  deriving DecidableEq, Inhabited
structure A8 (α : Type) where
  (a0 a1 a2 a3 a4 a5 a6 a7 : α)
  deriving DecidableEq, Inhabited
def cA2 {α : Type} (f : α → List Tree) (x : A2 α) : List Tree := f x.a0 ++ f x.a1
def A2.list {α : Type} (x : A2 α) : List α := [x.a0, x.a1]
theorem A2_idx {α : Type} (f : α → Tree) (x : A2 α) {i : Int} {v : α} (h : idx? x.list i = some v) : 0 ≤ i ∧ i < 2 ∧ partOf false 1 (i.toNat * 1) ((cA2 (fun a => [f a]) x).map .t) = some (pvOfCells false [f v]) := by
  have h0 := idx_nn h
  have hm := idx_map f h
  have hl := idx_lt f h
  simp only [A2.list, List.map_cons, List.map_nil, List.length_cons, List.length_nil] at hl
  refine ⟨h0, by omega, ?_⟩
  have e : (cA2 (fun a => [f a]) x).map PV.t = (x.list.map f).map PV.t := rfl
  simp only [partOf, cond_false, Nat.mul_one, e, List.getElem?_map (f := PV.t), hm, Option.map_some]
  rfl
def cA3 {α : Type} (f : α → List Tree) (x : A3 α) : List Tree := f x.a0 ++ (f x.a1 ++ f x.a2)
def A3.list {α : Type} (x : A3 α) : List α := [x.a0, x.a1, x.a2]
theorem A3_idx {α : Type} (f : α → Tree) (x : A3 α) {i : Int} {v : α} (h : idx? x.list i = some v) : 0 ≤ i ∧ i < 3 ∧ partOf false 1 (i.toNat * 1) ((cA3 (fun a => [f a]) x).map .t) = some (pvOfCells false [f v]) := by
  have h0 := idx_nn h
  have hm := idx_map f h
  have hl := idx_lt f h
  simp only [A3.list, List.map_cons, List.map_nil, List.length_cons, List.length_nil] at hl
  refine ⟨h0, by omega, ?_⟩
  have e : (cA3 (fun a => [f a]) x).map PV.t = (x.list.map f).map PV.t := rfl
  simp only [partOf, cond_false, Nat.mul_one, e, List.getElem?_map (f := PV.t), hm, Option.map_some]
  rfl
def cA4 {α : Type} (f : α → List Tree) (x : A4 α) : List Tree := f x.a0 ++ (f x.a1 ++ (f x.a2 ++ f x.a3))
def A4.list {α : Type} (x : A4 α) : List α := [x.a0, x.a1, x.a2, x.a3]
theorem A4_idx {α : Type} (f : α → Tree) (x : A4 α) {i : Int} {v : α} (h : idx? x.list i = some v) : 0 ≤ i ∧ i < 4 ∧ partOf false 1 (i.toNat * 1) ((cA4 (fun a => [f a]) x).map .t) = some (pvOfCells false [f v]) := by
  have h0 := idx_nn h
  have hm := idx_map f h
  have hl := idx_lt f h
  simp only [A4.list, List.map_cons, List.map_nil, List.length_cons, List.length_nil] at hl
  refine ⟨h0, by omega, ?_⟩
  have e : (cA4 (fun a => [f a]) x).map PV.t = (x.list.map f).map PV.t := rfl
  simp only [partOf, cond_false, Nat.mul_one, e, List.getElem?_map (f := PV.t), hm, Option.map_some]
  rfl
def cA5 {α : Type} (f : α → List Tree) (x : A5 α) : List Tree := f x.a0 ++ (f x.a1 ++ (f x.a2 ++ (f x.a3 ++ f x.a4)))
def A5.list {α : Type} (x : A5 α) : List α := [x.a0, x.a1, x.a2, x.a3, x.a4]
theorem A5_idx {α : Type} (f : α → Tree) (x : A5 α) {i : Int} {v : α} (h : idx? x.list i = some v) : 0 ≤ i ∧ i < 5 ∧ partOf false 1 (i.toNat * 1) ((cA5 (fun a => [f a]) x).map .t) = some (pvOfCells false [f v]) := by
  have h0 := idx_nn h
  have hm := idx_map f h
  have hl := idx_lt f h
  simp only [A5.list, List.map_cons, List.map_nil, List.length_cons, List.length_nil] at hl
  refine ⟨h0, by omega, ?_⟩
  have e : (cA5 (fun a => [f a]) x).map PV.t = (x.list.map f).map PV.t := rfl
  simp only [partOf, cond_false, Nat.mul_one, e, List.getElem?_map (f := PV.t), hm, Option.map_some]
  rfl
def cA6 {α : Type} (f : α → List Tree) (x : A6 α) : List Tree := f x.a0 ++ (f x.a1 ++ (f x.a2 ++ (f x.a3 ++ (f x.a4 ++ f x.a5))))
def A6.list {α : Type} (x : A6 α) : List α := [x.a0, x.a1, x.a2, x.a3, x.a4, x.a5]
theorem A6_idx {α : Type} (f : α → Tree) (x : A6 α) {i : Int} {v : α} (h : idx? x.list i = some v) : 0 ≤ i ∧ i < 6 ∧ partOf false 1 (i.toNat * 1) ((cA6 (fun a => [f a]) x).map .t) = some (pvOfCells false [f v]) := by
  have h0 := idx_nn h
  have hm := idx_map f h
  have hl := idx_lt f h
  simp only [A6.list, List.map_cons, List.map_nil, List.length_cons, List.length_nil] at hl
  refine ⟨h0, by omega, ?_⟩
  have e : (cA6 (fun a => [f a]) x).map PV.t = (x.list.map f).map PV.t := rfl
  simp only [partOf, cond_false, Nat.mul_one, e, List.getElem?_map (f := PV.t), hm, Option.map_some]
  rfl
def cA7 {α : Type} (f : α → List Tree) (x : A7 α) : List Tree := f x.a0 ++ (f x.a1 ++ (f x.a2 ++ (f x.a3 ++ (f x.a4 ++ (f x.a5 ++ f x.a6)))))
def A7.list {α : Type} (x : A7 α) : List α := [x.a0, x.a1, x.a2, x.a3, x.a4, x.a5, x.a6]
theorem A7_idx {α : Type} (f : α → Tree) (x : A7 α) {i : Int} {v : α} (h : idx? x.list i = some v) : 0 ≤ i ∧ i < 7 ∧ partOf false 1 (i.toNat * 1) ((cA7 (fun a => [f a]) x).map .t) = some (pvOfCells false [f v]) := by
  have h0 := idx_nn h
  have hm := idx_map f h
  have hl := idx_lt f h
  simp only [A7.list, List.map_cons, List.map_nil, List.length_cons, List.length_nil] at hl
  refine ⟨h0, by omega, ?_⟩
  have e : (cA7 (fun a => [f a]) x).map PV.t = (x.list.map f).map PV.t := rfl
  simp only [partOf, cond_false, Nat.mul_one, e, List.getElem?_map (f := PV.t), hm, Option.map_some]
  rfl
def cA8 {α : Type} (f : α → List Tree) (x : A8 α) : List Tree := f x.a0 ++ (f x.a1 ++ (f x.a2 ++ (f x.a3 ++ (f x.a4 ++ (f x.a5 ++ (f x.a6 ++ f x.a7))))))
def A8.list {α : Type} (x : A8 α) : List α := [x.a0, x.a1, x.a2, x.a3, x.a4, x.a5, x.a6, x.a7]
theorem A8_idx {α : Type} (f : α → Tree) (x : A8 α) {i : Int} {v : α} (h : idx? x.list i = some v) : 0 ≤ i ∧ i < 8 ∧ partOf false 1 (i.toNat * 1) ((cA8 (fun a => [f a]) x).map .t) = some (pvOfCells false [f v]) := by
  have h0 := idx_nn h
  have hm := idx_map f h
  have hl := idx_lt f h
  simp only [A8.list, List.map_cons, List.map_nil, List.length_cons, List.length_nil] at hl
  refine ⟨h0, by omega, ?_⟩
  have e : (cA8 (fun a => [f a]) x).map PV.t = (x.list.map f).map PV.t := rfl
  simp only [partOf, cond_false, Nat.mul_one, e, List.getElem?_map (f := PV.t), hm, Option.map_some]
  rfl

theorem part_off {k : Nat} {mid : List PV} {p : PV} (pre post : List PV) (h : partOf false 1 k mid = some p) : partOf false 1 (pre.length + k) (pre ++ (mid ++ post)) = some p := by
  simp only [partOf, cond_false] at h ⊢
  rw [List.getElem?_append_right (by omega), Nat.add_sub_cancel_left, List.getElem?_append_left (List.getElem?_eq_some_iff.1 h).1]
  exact h

/-! ### Strings -/
theorem idx_some {α : Type} {xs : List α} {i : Int} {x : α} (h : idx? xs i = some x) : xs[i.toNat]? = some x := by
  have := idx_map id h
  simpa using this
def bytes? (s : List UInt8) : Option (List Int) := if s.length ≤ 9223372036854775807 then some (s.map fun b => (b.toNat : Int)) else none
theorem bytes_map {s : List UInt8} {z : List Int} (h : bytes? s = some z) : bytesT s = List.map (cI .u8) z := by
  unfold bytes? at h
  split at h
  · cases h; simp [bytesT, cI]
  · cases h
theorem bytes_len {s : List UInt8} {z : List Int} (h : bytes? s = some z) : s.length ≤ 9223372036854775807 := by
  unfold bytes? at h
  split at h
  · rename_i hl; exact hl
  · cases h
/-! ### Integer operations, named -/
def shlI (k : IntKind) (a b : Int) : Int := k.wrap (a * 2 ^ (min b.toNat k.bits))
def shrI (k : IntKind) (a b : Int) : Int := a.fdiv (2 ^ (min b.toNat k.bits))
def quoI (k : IntKind) (a b : Int) : Int := k.wrap (a.tdiv b)
def comI (k : IntKind) (a : Int) : Int := bitOp .xor k (if k.signed then -1 else k.max) a

/-! ### Leaves of scripts -/
def Ok {S R : Type} (P : Program) (rs : List RV) (sr : R → List (Nat × Blk)) (res : R → PV) (cfg : S → Cfg) (stf : S → PW.St) (r : R) : S ⊕ R → Prop
  | .inl s => (cfg s).holds P (Upto (RetQ rs (sr r) (res r))) (stf s)
  | .inr r' => r' = r
theorem okEnd {S R : Type} {P : Program} {rs : List RV} {sr : R → List (Nat × Blk)} {res : R → PV} {cfg : S → Cfg} {stf : S → PW.St} {r : R} {step : S → Option (S ⊕ R)} (hstep : ∀ s y, step s = some y → Ok P rs sr res cfg stf r y → (cfg s).holds P (Upto (RetQ rs (sr r) (res r))) (stf s)) {y : S ⊕ R}
    (h : endO step y = some r) : Ok P rs sr res cfg stf r y := by
  have key : ∀ (n : Nat) (s : S), iterO step n s = some r → (cfg s).holds P (Upto (RetQ rs (sr r) (res r))) (stf s) := by
    intro n
    induction n with
    | zero => intro s h; cases h
    | succ n ih =>
      intro s h
      simp only [iterO] at h
      split at h
      · cases h
      · rename_i s' hs; exact hstep s _ hs (ih s' h)
      · rename_i r' hs; cases h; exact hstep s _ hs (show Ok P rs sr res cfg stf r (.inr r) from rfl)
  cases y with
  | inl s => obtain ⟨n, hn⟩ := runO_iff.1 h; exact key n s hn
  | inr r' => have : some r' = some r := h; cases this; exact (show Ok P rs sr res cfg stf r (.inr r) from rfl)
def evGo (P : Program) (T : TS) (n : Nat) (g : Cfg) (xs : List Orc) (st : PW.St) : Option (Prop × Cfg × PW.St) :=
  match evFrom P T n g xs st with
  | some (ps, g, st) => some (conj ps, g, st)
  | none => none
def evDone (P : Program) (T : TS) (n : Nat) (g : Cfg) (xs : List Orc) (rs : List RV) (st : PW.St) : Option (Prop × List (Nat × Blk) × PV) :=
  match evFrom P T n g xs st with
  | some (ps, .done .ret, st') =>
    match evRet rs st' with
    | some (qs, p) => some (conj (ps ++ qs), [], p)
    | none => none
  | _ => none
def evDoneO (P : Program) (T : TS) (n : Nat) (g : Cfg) (xs : List Orc) (rs : List RV) (ls : List Nat) (st : PW.St) : Option (Prop × List (Nat × Blk) × PV) :=
  match evFrom P T n g xs st with
  | some (ps, .done .ret, st') =>
    match evRetO rs ls st' with
    | some (s2, p) => some (conj ps, s2, p)
    | none => none
  | _ => none
section
variable {P : Program} {T : TS} {S R : Type} {rs : List RV} {sr : R → List (Nat × Blk)} {res : R → PV} {cfg : S → Cfg} {stf : S → PW.St} {r : R} {y : S ⊕ R} {g : Cfg} {st : PW.St} {C : Prop}
theorem leafGo (hm : P.follows .mixedOrders = true) (hT : TOK P T) {s' : S} (h : some (Sum.inl s') = some y) (hk : Ok P rs sr res cfg stf r y) (n : Nat) (xs : List Orc) (c : C) (hp : evGo P T n g xs st = some (C, cfg s', stf s')) :
    g.holds P (Upto (RetQ rs (sr r) (res r))) st := by
  cases h
  unfold evGo at hp
  split at hp
  · rename_i ps g2 st2 he
    cases hp
    exact Cfg.path hm hT he c hk
  · cases hp
theorem leafJoin (hm : P.follows .mixedOrders = true) (hT : TOK P T) {g' : Cfg} {st' : PW.St} (hg : g'.holds P (Upto (RetQ rs (sr r) (res r))) st') (n : Nat) (xs : List Orc) (c : C) (hp : evGo P T n g xs st = some (C, g', st')) :
    g.holds P (Upto (RetQ rs (sr r) (res r))) st := by
  unfold evGo at hp
  split at hp
  · rename_i ps g2 st2 he
    cases hp
    exact Cfg.path hm hT he c hg
  · cases hp
theorem leafRet (hm : P.follows .mixedOrders = true) (hT : TOK P T) {r' : R} (h : some (Sum.inr r') = some y) (hk : Ok P rs sr res cfg stf r y) (n : Nat) (xs : List Orc) (c : C) (hp : evDone P T n g xs rs st = some (C, sr r', res r')) :
    g.holds P (Upto (RetQ rs (sr r) (res r))) st := by
  cases h
  have hk : r' = r := hk
  subst hk
  unfold evDone at hp
  split at hp
  · rename_i ps st2 he
    split at hp
    · rename_i qs p hr
      simp only [Option.some.injEq, Prod.mk.injEq] at hp
      obtain ⟨rfl, h2, rfl⟩ := hp
      obtain ⟨c1, c2⟩ := conj_append.1 c
      rw [← h2]
      exact Cfg.ret hm hT he (.inl rfl) hr c1 c2
    · cases hp
  · cases hp
theorem leafRetO (hm : P.follows .mixedOrders = true) (hT : TOK P T) {r' : R} (h : some (Sum.inr r') = some y) (hk : Ok P rs sr res cfg stf r y) (n : Nat) (xs : List Orc) (ls : List Nat) (c : C) (hp : evDoneO P T n g xs rs ls st = some (C, sr r', res r')) :
    g.holds P (Upto (RetQ rs (sr r) (res r))) st := by
  cases h
  have hk : r' = r := hk
  subst hk
  unfold evDoneO at hp
  split at hp
  · rename_i ps st2 he
    split at hp
    · rename_i s2 p hr
      simp only [Option.some.injEq, Prod.mk.injEq] at hp
      obtain ⟨rfl, rfl, rfl⟩ := hp
      exact Cfg.retO hm hT he (.inl rfl) hr c
    · cases hp
  · cases hp
end
def rvOK (T : TS) : List RV → Bool
  | [] => true
  | .t _ :: r => rvOK T r
  | .c _ t ag sz :: r => (match get T t with | some i => (i.agg == ag) && Nat.beq i.size sz | none => false) && rvOK T r
theorem rvOK_ok {P : Program} {T : TS} (hT : TOK P T) : ∀ (rs : List RV), rvOK T rs = true → ∀ x t ag sz, RV.c x t ag sz ∈ rs → TyF P t ag sz
  | [], _, x, t, ag, sz, h => by cases h
  | .t i :: r, hb, x, t, ag, sz, h => by
    simp only [rvOK] at hb
    rcases List.mem_cons.1 h with h | h
    · cases h
    · exact rvOK_ok hT r hb x t ag sz h
  | .c x0 t0 ag0 sz0 :: r, hb, x, t, ag, sz, h => by
    simp only [rvOK, Bool.and_eq_true] at hb
    rcases List.mem_cons.1 h with h | h
    · cases h
      have h1 := hb.1
      split at h1
      · rename_i i hi
        simp only [Bool.and_eq_true, beq_iff, beq_iff_eq] at h1
        have := (hT _ i hi).ty
        rw [h1.1, h1.2] at this
        exact this
      · cases h1
    · exact rvOK_ok hT r hb.2 x t ag sz h
theorem FnG.of_cfg {P : Program} {T : TS} (hT : TOK P T) {f : FuncId} {args : List PV} {σ σ' : List (Nat × Blk)} {res : PV} {fn : Func} {c : Code} (hf : P.funcs[f]? = some fn) (hb : fn.body = some c) (hname : (fn.name == "runtime.NumGoroutine") = false)
    (n : Nat) (hn : fn.ntmps = n) (hna : args.length ≤ n) (rs : List RV) (hres : fn.results = (rs.map RV.to).toArray) (hrv : rvOK T rs = true) (h : (Cfg.code c []).holds P (Upto (RetQ rs σ' res)) ⟨n, idx 0 args, σ⟩) : FnG P f σ args σ' res :=
  FnG.of_pw hf hb hname n hn hna rs hres (rvOK_ok hT rs hrv) (PW.upto h)
/-- frozen -/
theorem FnG.frozen {P : Program} {f : FuncId} {args : List PV} {σ1 : List (Nat × Blk)} {res q : PV} {C : Prop} (h : FnG P f [] args σ1 res) (c : C) (hq : (frzV σ1 res).map (fun x => (conj x.1, x.2)) = some (C, q)) : Fn P f args q := by
  simp only [Option.map_eq_some_iff, Prod.mk.injEq] at hq
  obtain ⟨⟨cs, p⟩, h1, h2, h3⟩ := hq
  simp only at h2 h3
  subst h3
  exact h.toFn (frzV_ok (fun _ => rfl) h1 (by rw [h2]; exact c))
theorem FnG.toFn' {P : Program} {f : FuncId} {args : List PV} {σ1 : List (Nat × Blk)} {res q : PV} {cs : List Prop} (h : FnG P f [] args σ1 res) (hq : frzV σ1 res = some (cs, q)) (hc : conj cs) : Fn P f args q :=
  h.toFn (frzV_ok (fun _ => rfl) hq hc)
theorem FnG.keep {P : Program} {f : FuncId} {args : List PV} {σ σ1 σ2 : List (Nat × Blk)} {res q : PV} (h : FnG P f σ args σ1 res) (hσ : σ1 = σ2) (hq : res = q) : FnG P f σ args σ2 q := by subst hσ; subst hq; exact h
end Go.PW
