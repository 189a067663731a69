import Derived.Test.YtloamjgjcjandaaGreatQPh
set_option linter.all false
set_option maxRecDepth 100000
namespace Go.PW
theorem Zamx (v : Int) : ∃ a b, Zalz v = some (a, b) ∧ 0 ≤ a := ⟨_, _, rfl, (Z6p _).1⟩
theorem Zah3 (v n : Int) (h : 1 ≤ n) (h2 : n < 9223372036854775808) : ∃ a b, Z5h v n = some (a, b) ∧ 0 ≤ a ∧ a < n := by
 obtain ⟨a, b, e, ha⟩ := Zamx v
 have hw : IntKind.wrap .u64 n = n := by
  show n % 18446744073709551616 = n
  omega
 refine ⟨Int.tmod a n, b, ?_, ?_⟩
 ·(unfold Z5h LF.run; dsimp only [Z8s, LT.den])
  rw [decide_eq_false (by omega), cond_false, e, Option.bind_some, hw, decide_eq_true (show n ≠ 0 by omega), show ok? true = some () from rfl, Option.bind_some, Option.bind_some, Zcz]
  have h3 : 0 ≤ Int.tmod a n := Int.tmod_nonneg _ ha
  have h4 : Int.tmod a n < n := Int.tmod_lt_of_pos _ (by omega)
  dsimp only
  rw [Zqn (by omega) (by omega)]
 ·exact ⟨Int.tmod_nonneg _ ha, Int.tmod_lt_of_pos _ (by omega)⟩
theorem Zarc {α : Type} {b : List α} {i : Int} {x : α} (h0 : 0 ≤ i) (h : i.toNat < b.length) : set? b i x = some (b.set i.toNat x) := by
 have := Zadt b i.toNat x h
 rwa [Int.toNat_of_nonneg h0] at this
abbrev shI (a : List Int) : Zkt → Prop
 | .L0 v xs k => xs.Perm a ∧ -1 ≤ k ∧ k < a.length
abbrev shM : Zkt → Nat
 | .L0 v xs k => (k + 1).toNat
theorem Zaex (v : Int) (a : List Int) (h : a.length * 8 ≤ 140737488351232) : Tot (Zr5 v a) fun r => r.1.Perm a := by
 (unfold Zr5 LF.run; dsimp only [Z2w, LT.den])
 have h1 : make? 8 (0 : Int) (a.length : Int) (a.length : Int) = some (List.replicate a.length 0) := by
  unfold make?; rw [if_pos (by omega), Int.toNat_natCast]
 have h2 : copy? (List.replicate a.length (0 : Int)) a = some a := by
  unfold copy?; rw [if_pos (by rw [List.length_replicate]; exact Nat.le_refl _), List.drop_of_length_le (by rw [List.length_replicate]; exact Nat.le_refl _), List.append_nil]
 rw [h1, Option.bind_some, h2, Option.bind_some, Option.bind_some, Zbb, Zqn (by omega) (by omega)]
 refine Tot.loop (step := Zty.step) (Inv := shI a) (μ := shM) ?_ _ ⟨List.Perm.refl _, by omega, by omega⟩
 rintro ⟨w, xs, k⟩ ⟨hp, hk0, hk1⟩
 have hlen := hp.length_eq
 show Tot (Zro _ _ _).den _
 dsimp only [Zro, LT.den]
 refine tD (fun hc => ?_) (fun hc => ?_)
 ·rw [Zqn (by omega) (by omega), Zqn (by omega) (by omega)]
  obtain ⟨r, w', e, hr0, hr1⟩ := Zah3 w (k + 1) (by omega) (by omega)
  have hki : k.toNat < xs.length := by omega
  have hri : r.toNat < xs.length := by omega
  have hik := Zaoh xs hki
  have hir := Zaoh xs hri
  rw [Int.toNat_of_nonneg (by omega)] at hik hir
  obtain ⟨z, hz, _⟩ := tI (xs := xs.set k.toNat xs[r.toNat]) hr0 (by rw [List.length_set]; omega)
  rw [e, Option.bind_some]
  dsimp only
  rw [hik, Option.bind_some, hir, Option.bind_some, Zarc (by omega) hki, Option.bind_some, hz, Option.bind_some, Zarc hr0 (by rw [List.length_set]; exact hri), Option.bind_some]
  refine Tot.ret (.inl ⟨_, rfl, ⟨(List.set_set_perm hki hri).trans hp, by omega, by omega⟩, ?_⟩)
  show (k - 1 + 1).toNat < (k + 1).toNat
  omega
 ·exact Tot.ret (.inr ⟨_, rfl, hp⟩)
def Zk4 (x : Zh) (c : Int) : Zh := { x with Card := c }
def Zamy (x : Zv) (l : List Int) : Zv := { x with Library := l }
def ObR (g : Z0) (p : Int) (os : List Zh) : Prop := os.length = g.State.Objects.length ∧ ∀ (j : Nat) x, g.State.Objects[j]? = some x → ∃ c, os[j]? = some (Zk4 x c) ∧ (oP rK g p x = true → c = x.Card)
def PlR (g : Z0) (ps : List Zv) : Prop := ps.length = g.State.Players.length ∧ ∀ (j : Nat) x, g.State.Players[j]? = some x → ∃ l, ps[j]? = some (Zamy x l) ∧ l.Perm x.Library
abbrev Zru (g : Z0) (seed : Int) (ps : List Zv) (os : List Zh) : Z0 := ⟨g.Cards, ⟨ps, os, g.State.Battlefield, g.State.Exile, g.State.Stack, g.State.Waiting, g.State.Conts, g.State.Turn, g.State.Active, g.State.Step, g.State.Begun, g.State.Priority, g.State.Passes, g.State.NextId, g.State.NextStamp, seed, g.State.Extra, g.State.Over, g.State.Winner⟩, g.Answers, g.Pending, g.Forced, g.Seen⟩
theorem Zasp (g : Z0) (p : Int) : ObR g p g.State.Objects := ⟨rfl, fun j x h => ⟨x.Card, h, fun _ => rfl⟩⟩
theorem Zasq (g : Z0) : PlR g g.State.Players := ⟨rfl, fun j x h => ⟨x.Library, h, List.Perm.refl _⟩⟩
theorem Zaul {g : Z0} {p seed : Int} {ps : List Zv} {os : List Zh} (h : Zfy g) (ho : ObR g p os) (hp : PlR g ps) : Zfy (Zru g seed ps os) := by
 have hs := h.2.1
 refine ⟨h.1, ⟨⟨?_, fun x hx => ?_⟩, ⟨?_, fun _ _ => trivial⟩, hs.2.2⟩, h.2.2⟩
 ·rw [hp.1]; exact hs.1.1
 ·obtain ⟨j, hj⟩ := List.mem_iff_getElem?.1 hx
  have hlt := (List.getElem?_eq_some_iff.1 hj).1
  rw [hp.1] at hlt
  have hy := List.getElem?_eq_getElem hlt
  obtain ⟨l, h1, h2⟩ := hp.2 j _ hy
  rw [hj] at h1; cases h1
  have hz := hs.1.2 _ (List.getElem_mem hlt)
  refine ⟨⟨?_, fun _ _ => trivial⟩, hz.2⟩
  show l.length * 8 ≤ _
  rw [h2.length_eq]; exact hz.1.1
 ·rw [ho.1]; exact hs.2.1.1
theorem Zag4 {P : Zh → Bool} (hP : ∀ x c, P (Zk4 x c) = P x) : ∀ (xs ys : List Zh), xs.length = ys.length → (∀ (j : Nat) x, xs[j]? = some x → ∃ c, ys[j]? = some (Zk4 x c)) → (match xs.find? P with | some x => ∃ c, ys.find? P = some (Zk4 x c) | none => ys.find? P = none)
 | [], ys, hl, _ => by
  have : ys = [] := List.eq_nil_of_length_eq_zero hl.symm
  subst this; rfl
 | x :: xs, [], hl, _ => by cases hl
 | x :: xs, y :: ys, hl, h => by
  obtain ⟨c, hc⟩ := h 0 x rfl
  have hy : y = Zk4 x c := by simpa using hc
  subst hy
  have ih := Zag4 hP xs ys (by simpa using hl) (fun j z hz => by simpa using h (j + 1) z (by simpa using hz))
  rw [List.find?_cons, List.find?_cons, hP]
  cases hx : P x
  ·exact ih
  ·exact ⟨c, rfl⟩
theorem Zag5 {P : Zh → Bool} (hP : ∀ x c, P (Zk4 x c) = P x) : ∀ (xs ys : List Zh), xs.length = ys.length → (∀ (j : Nat) x, xs[j]? = some x → ∃ c, ys[j]? = some (Zk4 x c) ∧ (P x = true → c = x.Card)) → ys.filter P = xs.filter P
 | [], ys, hl, _ => by
  have : ys = [] := List.eq_nil_of_length_eq_zero hl.symm
  subst this; rfl
 | x :: xs, [], hl, _ => by cases hl
 | x :: xs, y :: ys, hl, h => by
  obtain ⟨c, hc, hk⟩ := h 0 x rfl
  have hy : y = Zk4 x c := by simpa using hc
  subst hy
  have ih := Zag5 hP xs ys (by simpa using hl) (fun j z hz => by simpa using h (j + 1) z (by simpa using hz))
  rw [List.filter_cons, List.filter_cons, hP, ih]
  cases hx : P x
  ·rfl
  ·rw [hk hx]; rfl
theorem Zaum {g : Z0} {p seed : Int} {ps : List Zv} {os : List Zh} (ho : ObR g p os) (hp : PlR g ps) (id : Int) : vK (Zru g seed ps os).State p id = vK g.State p id := by
 have hf := Zag4 (P := fun o => o.Id == id) (fun x c => rfl) g.State.Objects os ho.1.symm (fun j x hx => by obtain ⟨c, h1, _⟩ := ho.2 j x hx; exact ⟨c, h1⟩)
 have hz : ∀ o, zK (Zru g seed ps os).State p o = zK g.State p o := fun o => by
  show (o.Zone != 2 && (o.Zone != 1 || (decide (p ≥ 0) && decide (p < (ps.length : Int))))) = _
  rw [hp.1]; rfl
 have hk : okP (Zru g seed ps os).State p id = okP g.State p id := funext fun i => by
  unfold okP
  show (match ps[i]? with | some x => _ | none => _) = _
  cases hx : g.State.Players[i]? with
  | none =>
   rw [List.getElem?_eq_none (by rw [hp.1]; exact List.getElem?_eq_none_iff.1 hx)]
  | some x =>
   obtain ⟨l, h1, h2⟩ := hp.2 i x hx
   rw [h1]
   show (!decide (id ∈ l) && _) = (!decide (id ∈ x.Library) && _)
   rw [show decide (id ∈ l) = decide (id ∈ x.Library) from by rw [decide_eq_decide]; exact h2.mem_iff]; rfl
 have hr : (Zru g seed ps os).State.Players.length = g.State.Players.length := hp.1
 (unfold vK; unfold fO)
 show (match os.find? _ with | some o => _ | none => _) = _
 rw [hk, hr]
 cases hx : g.State.Objects.find? (fun o => o.Id == id) with
 | none => rw [hx] at hf; rw [hf]
 | some x =>
  rw [hx] at hf
  obtain ⟨c, hc⟩ := hf
  rw [hc]
  show (_ && zK _ p (Zk4 x c)) = (_ && zK _ p x)
  rw [hz]; rfl
theorem Zatr {g : Z0} {p seed : Int} {ps : List Zv} {os : List Zh} (hv : VS g.State) (ho : ObR g p os) (hp : PlR g ps) : vOf vK (Zru g seed ps os) p = vOf vK g p := by
 have e1 : ps.map Ziy = g.State.Players.map Ziy := by
  refine List.ext_getElem? fun i => ?_
  rw [List.getElem?_map, List.getElem?_map]
  cases hx : g.State.Players[i]? with
  | none => rw [List.getElem?_eq_none (by rw [hp.1]; exact List.getElem?_eq_none_iff.1 hx)]
  | some x =>
   obtain ⟨l, h1, h2⟩ := hp.2 i x hx
   rw [h1]
   simp only [Option.map_some, Ziy, Zamy, h2.length_eq]
 have e2 : Znn ps p ps.length = Znn g.State.Players p g.State.Players.length := by
  unfold Znn
  rw [hp.1]
  cases hx : g.State.Players[p.toNat]? with
  | none => rw [List.getElem?_eq_none (by rw [hp.1]; exact List.getElem?_eq_none_iff.1 hx)]
  | some x =>
   obtain ⟨l, h1, h2⟩ := hp.2 _ x hx
   rw [h1]; rfl
 have e3 : os.filter (fun o => vK (Zru g seed ps os).State p o.Id || Zxe (Zru g seed ps os) p o.Id) = g.State.Objects.filter (fun o => vK g.State p o.Id || Zxe g p o.Id) := by
  rw [show (fun o : Zh => vK (Zru g seed ps os).State p o.Id || Zxe (Zru g seed ps os) p o.Id) = oP vK g p from funext fun o => by rw [Zaum ho hp]; rfl]
  refine Zag5 (fun x c => rfl) _ _ ho.1.symm fun j x hx => ?_
  obtain ⟨c, h1, h2⟩ := ho.2 j x hx
  exact ⟨c, h1, fun h => h2 (by rw [← h]; unfold oP; rw [Zaur hv])⟩
 show vB _ p (ps.map Ziy) (Znn ps p ps.length) (os.filter _) _ = _
 rw [e1, e2, e3]; rfl
theorem Zats {g : Z0} {p : Int} {os : List Zh} {i : Nat} {x : Zh} (c : Int) (ho : ObR g p os) (hx : g.State.Objects[i]? = some x) (hn : oP rK g p x = false) : ObR g p (os.set i (Zk4 x c)) := by
 refine ⟨by rw [List.length_set]; exact ho.1, fun j y hy => ?_⟩
 by_cases e : i = j
 ·subst e
  rw [hx] at hy; cases hy
  have := (List.getElem?_eq_some_iff.1 hx).1
  exact ⟨c, by rw [List.getElem?_set_self (by rw [ho.1]; exact this)], fun h => by rw [hn] at h; cases h⟩
 ·obtain ⟨d, h1, h2⟩ := ho.2 j y hy
  exact ⟨d, by rw [List.getElem?_set_ne e]; exact h1, h2⟩
theorem Zatt {g : Z0} {ps : List Zv} {i : Nat} {x : Zv} {l : List Int} (hp : PlR g ps) (hx : g.State.Players[i]? = some x) (hl : l.Perm x.Library) : PlR g (ps.set i (Zamy x l)) := by
 refine ⟨by rw [List.length_set]; exact hp.1, fun j y hy => ?_⟩
 by_cases e : i = j
 ·subst e
  rw [hx] at hy; cases hy
  have := (List.getElem?_eq_some_iff.1 hx).1
  exact ⟨l, by rw [List.getElem?_set_self (by rw [hp.1]; exact this)], hl⟩
 ·obtain ⟨d, h1, h2⟩ := hp.2 j y hy
  exact ⟨d, by rw [List.getElem?_set_ne e]; exact h1, h2⟩
theorem Zah4 (g : Z0) (p seed : Int) (h : Zfy g) : Ztz g p seed = some true := by
 (unfold Ztz LF.run; dsimp only [Zyk, LT.den])
 obtain ⟨b, hb, _⟩ := Zan0 g h
 rw [hb, Option.bind_some, Zaol]
 cases b
 ·rfl
 have hv := Zauj g h hb
 have hob : g.State.Objects.length * 128 ≤ 140737488351232 := h.2.1.2.1.1
 have hpl : g.State.Players.length * 152 ≤ 140737488351232 := h.2.1.1.1
 have hcl : g.Cards.length * 176 ≤ 140737488351232 := h.1.1
 rw [Bool.not_true, cond_false, Zgb]
 by_cases hc : (g.Cards.length : Int) = 0
 ·rw [decide_eq_true hc]; rfl
 rw [decide_eq_false hc, cond_false, Zan1 _ h.2.1, Option.bind_some, Option.bind_some, Zbb]
 have hw : IntKind.wrap .u64 (g.Cards.length : Int) = (g.Cards.length : Int) := by
  show (g.Cards.length : Int) % 18446744073709551616 = _
  omega
 refine Tot.eq (Tot.for (step := Zlf.step) (st := fun (i : Nat) (b : Int × List Zh) => .L0 p b.1 g (Zru g seed g.State.Players b.2) (i : Int)) g.State.Objects.length (fun _ b => ObR g p b.2) (fun i b hi ho => ?_) (fun b ho => ?_) (seed, g.State.Objects) (Zasp g p))
 ·obtain ⟨w, os⟩ := b
  have ho : ObR g p os := ho
  have hx := List.getElem?_eq_getElem hi
  generalize g.State.Objects[i] = x at hx
  obtain ⟨c, h1, h2⟩ := ho.2 i x hx
  have hlt := (List.getElem?_eq_some_iff.1 h1).1
  show Tot (Zia _ _ _ _ _).den _
  dsimp only [Zia, LT.den]
  rw [decide_eq_true (show (i : Int) < (os.length : Int) by omega), cond_true, Zamw g p i x h hx, Option.bind_some, Zat hi (by omega), hw]
  cases hk : oP rK g p x
  ·rw [Bool.not_false, cond_true, decide_eq_true (show (g.Cards.length : Int) ≠ 0 from hc), show ok? true = some () from rfl, Option.bind_some]
   show Tot (Option.bind (idx? os (i : Int)) _) _
   rw [Z8 h1, Option.bind_some]
   show Tot (Option.bind (set? os (i : Int) _) _) _
   rw [Zadt _ _ _ hlt, Option.bind_some]
   exact Tot.ret (.inl ⟨(_, _), rfl, Zats (x := x) _ ho hx hk⟩)
  ·rw [Bool.not_true, cond_false]
   exact Tot.ret (.inl ⟨(w, os), rfl, ho⟩)
 ·obtain ⟨w, os⟩ := b
  have ho : ObR g p os := ho
  rw [Zcw (s' := .L1 p w g (Zru g seed g.State.Players os) 0) (by
   show (Zia _ _ _ _ _).den = _
   dsimp only [Zia, LT.den]
   rw [decide_eq_false (show ¬ (g.State.Objects.length : Int) < (os.length : Int) by rw [ho.1]; omega)]; rfl)]
  refine Tot.for (step := Zlf.step) (st := fun (i : Nat) (b : Int × List Zv) => .L1 p b.1 g (Zru g seed b.2 os) (i : Int)) g.State.Players.length (fun _ b => PlR g b.2) (fun i b hi hp => ?_) (fun b hp => ?_) (w, g.State.Players) (Zasq g)
  ·obtain ⟨w, ps⟩ := b
   have hp : PlR g ps := hp
   have hx := List.getElem?_eq_getElem hi
   have hsx := h.2.1.1.2 _ (List.getElem_mem hi)
   generalize g.State.Players[i] = x at hx hsx
   obtain ⟨l, h1, h2⟩ := hp.2 i x hx
   have hlt := (List.getElem?_eq_some_iff.1 h1).1
   have hll : l.length * 8 ≤ 140737488351232 := by rw [h2.length_eq]; exact hsx.1.1
   show Tot (Zib _ _ _ _ _).den _
   dsimp only [Zib, LT.den]
   rw [decide_eq_true (show (i : Int) < (ps.length : Int) by omega), cond_true]
   show Tot (Option.bind (idx? ps (i : Int)) _) _
   rw [Z8 h1, Option.bind_some, Zat hi (by omega)]
   refine tB (Zaex w l hll) fun r hr => ?_
   cases p != g.Pending.Player
   ·rw [cond_false]
    exact Tot.ret (.inl ⟨(r.2, ps), rfl, hp⟩)
   ·rw [cond_true]
    show Tot (Option.bind (set? ps (i : Int) _) _) _
    rw [Zadt _ _ _ hlt, Option.bind_some]
    exact Tot.ret (.inl ⟨(r.2, _), rfl, Zatt (x := x) hp hx (List.Perm.trans hr h2)⟩)
  ·obtain ⟨w, ps⟩ := b
   have hp : PlR g ps := hp
   refine Tot.stop (r := true) ?_ rfl
   show (Zib _ _ _ _ _).den = _
   dsimp only [Zib, LT.den]
   rw [decide_eq_false (show ¬ (g.State.Players.length : Int) < (ps.length : Int) by rw [hp.1]; omega), cond_false, Zve _ _ h, Option.bind_some, Zve _ _ (Zaul h ho hp), Option.bind_some, Zatr hv ho hp, Zxf _ _ (Zaew _ _ _ h), decide_eq_true rfl, Zaol]
   simp only [Option.bind_some, cond_true]
   rw [Zan5 _ _ (Zaew _ _ _ h), decide_eq_true rfl]
   rfl
end Go.PW
