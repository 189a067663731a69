import Derived.Test.YtnoofnejcoadfaaGreatDoorRows
import Derived.Test.YtnoofnejcoadfaaGreatDoorQO
import Derived.Test.YtnoofnejcoadfaaGreatDoorQC
import Derived.Test.YtnoofnejcoadfaaGreatDoorQXc
import Derived.Test.YtnoofnejcoadfaaGreatDoorPwW
import Derived.HandedShaped
import Derived.LaidMore
import Derived.LaidLaws
import Derived.ProofKit
import Derived.OpenShut
set_option linter.all false
namespace Go.Proofs.YtnoofnejcoadfaaGreatDoor
open Go.ChangeShapes Go.WideShapes Go.ChangeAt Go.RowKit Go.PW
theorem Tryz.own : ownKnob Tryz.prog.godebug = none := by kernel_rfl
theorem Tryz.laidOut : laidOutB Tryz.prog = true := by kernel_rfl
abbrev LD : List (String × DataW Unit) := [("cardgame/counter.names", Rows.laid_cardgame_counter_names)]
theorem Za5y (os : Os) (args : Array Value) : laidMetH Tryz.prog LD ((World.doorLaid Tryz.prog 400 os).forCall (fun _ _ => 0) ⟨#[], args, []⟩).memory :=
 laidMetH_of_parts3 (fuel := 8) (laidMet_of_run' 8 (by kernel_rfl) (by kernel_rfl)) (by kernel_rfl) (by kernel_rfl)
theorem Za8t : Tryz.prog.globalNamed "cardgame/counter.names" = some 0 := by kernel_rfl
theorem Za8u : (Tryz.prog.globals[0]?).map (·.type) = some 174 := by kernel_rfl
theorem c9 : Tryz.prog.cellsOf 9 = 1 := by kernel_rfl
theorem Za7g {W : World} (h : laidMetH Tryz.prog LD W) : Z8 (fun _ => False) W 0 [.str [112, 108, 117, 115], .str [109, 105, 110, 117, 115], .str [99, 104, 97, 114, 103, 101]] 0 := by
 rw [MakeChecks.laidMetH_plain _ _ _ (by kernel_rfl)] at h
 obtain ⟨ps, ⟨g0, t0, cs0, f0, p0, q0, hg0, ht0, hv0, hd0, _, _⟩, _, _⟩ := h
 obtain rfl := Option.some.inj (Za8t.symm.trans hg0)
 obtain rfl := Option.some.inj (Za8u.symm.trans ht0)
 obtain ⟨xs, m1, rfl, hx1, hlen, hn3, hel⟩ := DataW.trod_array Tryz.underlying174 hd0
 simp only [Rows.laid_cardgame_counter_names, Prod.mk.injEq, DataW.agg.injEq] at hx1
 match xs, hn3, hx1, hel with
 | [x0, x1, x2], _, hx1, hel =>
  simp only [List.map_cons, List.map_nil, List.cons.injEq, and_true] at hx1
  obtain ⟨⟨e0, e1, e2⟩, _⟩ := hx1
  have key : ∀ (i : Nat) (x : DataW Unit × List MemPlace) (l : List UInt8), i < 3 → [x0, x1, x2][i]? = some x → DataW.lit (.string l) = x.1 → W.cell? ⟨0, i, none⟩ = some (.string ⟨l.toArray⟩) := by
   intro i x l hi hx hl
   have h0 := hel i hi
   rw [hx, c9, Nat.mul_one] at h0
   obtain ⟨s, e1, e2, _⟩ := DataW.trod_string Tryz.underlying9 h0
   have hc := World.var?_cell hg0 hv0 i
   obtain ⟨l1⟩ := cs0
   have hd : (l1.drop i)[0]? = some (.string s) := by
    have : ((l1.drop i).take 1)[0]? = some (.string s) := by rw [show (l1.drop i).take 1 = [.string s] from e1]; rfl
    simpa [List.getElem?_take] using this
   have hl1 : l1[i]? = some (.string s) := by simpa [List.getElem?_drop] using hd
   rw [hc]
   have h' : DataW.lit (.string l) = (DataW.lit (.string s.data.toList) : DataW Unit) := by rw [hl, e2]
   have hs : l = s.data.toList := by
    cases h'
    rfl
   have hb : (⟨l.toArray⟩ : ByteArray) = s := by rw [hs]
   rw [hb]
   simpa using hl1
  exact ⟨⟨_, key 0 x0 _ (by decide) rfl e0, rfl⟩, ⟨_, key 1 x1 _ (by decide) rfl e1, rfl⟩, ⟨_, key 2 x2 _ (by decide) rfl e2, rfl⟩, trivial⟩
theorem Zay4 {W : World} {g : Nat} {v : Value} (h : W.cell? ⟨g, 0, none⟩ = some v) : g < W.heap.size := by
 unfold World.cell? at h
 cases hx : W.heap[g]? with
 | none => simp [hx] at h
 | some o => exact (Array.getElem?_eq_some_iff.1 hx).1
theorem Za86 {W : World} (h : W.ShapedOpen Tryz.prog) (hl : laidMetH Tryz.prog LD W) : Zahy W := fun g k hg => by
 have hc := Za7g hl
 have hg : (g, k) = (0, .cells [.str [112, 108, 117, 115], .str [109, 105, 110, 117, 115], .str [99, 104, 97, 114, 103, 101]]) ∨ (g, k) = (1, .anyInt) := by
  have hg : (g, k) ∈ [((0 : Nat), GK.cells [.str [112, 108, 117, 115], .str [109, 105, 110, 117, 115], .str [99, 104, 97, 114, 103, 101]]), (1, .anyInt)] := hg
  rcases List.mem_cons.1 hg with h | hg
  ·exact .inl h
  ·exact .inr (List.mem_singleton.1 hg)
 rcases hg with hg | hg
 ·cases hg
  obtain ⟨⟨c, h1, _⟩, _⟩ := id hc
  exact ⟨Zay4 h1, hc⟩
 ·cases hg
  obtain ⟨m, hm⟩ := Go.Proofs.cell_of_shapedOpen_int (zero := #[.int .i64 0]) (t := 3) (g := 1) h (of_decide_eq_true (by kernel_rfl)) (by kernel_rfl) rfl (by kernel_rfl) (by kernel_rfl) Tryz.underlying3
  exact ⟨Zay4 hm, m, hm⟩
theorem Za5z {H : Type} {enc : TypeId × Value → H} {a : Assume} {C : Checked} {os : Os} {f : FuncId} {fn : Func} {s : ChangeSpec} {conds : List PathCond} {apart fresh handsOn again : Bool} {X : World → Array Value → Prop}
 (hX : ∀ (w w' : World) (args : Array Value), w.heap = w'.heap → X w args → X w' args)
 (own : ownKnob C.prog.godebug = none) (started : os.Started) (noInit : C.prog.inits.idxOf? f = none) (hfn : C.prog.funcs[f]? = some fn)
 (witness : ∃ (w : World) (tape : Tape) (i : Input), w.os = os ∧ (w.forCall tape i).Shaped C.prog ∧ i.vars = [] ∧ Input.okWide C.prog (w.forCall tape i) .any w.heap.size f i ∧
  ((s.pre enc C.prog fn conds apart (w.forCall tape i).memory i.args ∧ X (w.forCall tape i).memory i.args) ∧ sizedMet enc C.prog fn (OpenSpec.ofChange s) apart (w.forCall tape i).memory i.args) ∧ a.holds C.prog (lone (Frame.enter C.prog f i.args .normal) [] (w.forCall tape i)))
 (contract : ∀ (W : World) (base : Nat) (args : Array Value) (ds gs : List (DataW H)) (before : List MemPlace),
  (∀ (j : Nat) t v, fn.params[j]? = some t → args[j]? = some v → Value.okWide C.prog W .any base t v) →
  DataW.Whole enc C.prog fn.params.toList s.vars apart W args.toList ds gs before →
  (DataW.weightsEach C.prog (fn.params.toList ++ s.plain.varTypes C.prog) (ds ++ gs)).all (· ≤ reachBytes) = true → X W args → W.ShapedOpen C.prog →
  Calls C.prog f args W fun e W' => ∃ v, e = .returned v ∧ s.post enc C.prog fn apart fresh handsOn again W args v W') :
 ReturnsInHanded a C os f .any (fun w args => (s.pre enc C.prog fn conds apart w args ∧ X w args) ∧ sizedMet enc C.prog fn (OpenSpec.ofChange s) apart w args) (s.post enc C.prog fn apart fresh handsOn again) := by
 refine returnsInHanded_of_calls own started noInit witness ?_
 intro w tape i _ hsh _ hok hpre hholds
 obtain ⟨_, _, _, fn', hfn', _, _, _, _, hval⟩ := hok
 have e : fn' = fn := Option.some.inj (hfn'.symm.trans hfn)
 subst e
 obtain ⟨⟨⟨ds, gs, before, hw, hc⟩, hx⟩, hz⟩ := hpre
 have hw' := DataW.Whole.of_heap (w' := w.forCall tape i) (by rfl) hw
 refine (contract (w.forCall tape i) w.heap.size i.args ds gs before hval hw' (hz.weights hw) (hX _ _ _ (by rfl) hx) hsh).mono fun e W' ⟨v, he, hp⟩ => ?_
 subst he
 exact ChangeSpec.post_blind hp
end Go.Proofs.YtnoofnejcoadfaaGreatDoor
