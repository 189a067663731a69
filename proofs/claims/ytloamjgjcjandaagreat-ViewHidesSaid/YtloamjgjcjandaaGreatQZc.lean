import Derived.Test.YtloamjgjcjandaaGreatQY
set_option linter.all false
namespace Go.Proofs.YtloamjgjcjandaaGreat
open Go.ChangeShapes Go.WideShapes Go.ChangeAt Go.RowKit Go.PW
set_option maxRecDepth 100000 in
theorem Zaa8 (os : Os) (started : os.Started) (H : Type) (enc : TypeId × Value → H) :
 ReturnsInHanded {} Tryz.checked os 5 .any (Rows.viewHidesSpec.pre6 enc Tryz.prog Tryz.f5 Rows.viewHidesRow.domain false) (Rows.viewHidesSpec.post enc Tryz.prog Tryz.f5 false true false false) := by
 refine returnsInHanded_of_change_shaped (C := Tryz.checked) Tryz.own started (by kernel_rfl) Tryz.func5
  (ChangeSpec.witness6 (enc := enc) (C := Tryz.checked) false ⟨#[], #[.agg #[.slice none 0 0, .slice none 0 0, .slice none 0 0, .slice none 0 0, .slice none 0 0, .slice none 0 0, .slice none 0 0, .slice none 0 0, .int .i64 0, .int .i64 0, .int .i64 0, .bool false, .int .i64 0, .int .i64 0, .int .i64 0, .int .i64 0, .int .u64 0, .slice none 0 0, .int .i64 0, .int .i64 0, .slice none 0 0, .int .i64 0, .int .i64 0, .int .i64 0, .int .i64 0, .int .i64 0, .int .i64 0, .slice none 0 0, .int .i64 0, .slice none 0 0], .int .i64 0, .int .u64 0], []⟩ 8 (by kernel_rfl) (by kernel_rfl) (by kernel_rfl) (by kernel_rfl)) ?_
 intro W base args ds gs before hval0 hW hcnd hwt hsh _
 have hval : ∀ (j : Nat) t v, Tryz.f5.params[j]? = some t → args[j]? = some v → Value.okWide Tryz.prog W .any base t v := hval0
 have hW' := hW
 obtain ⟨p, q, hA0, hV, rfl, hfz, hnd⟩ := hW
 have hA : DataW.TrodAll enc Tryz.prog W 0 (fun _ => true) true Tryz.f5.params.toList args.toList ds p := hA0
 have hwt' : (DataW.weightsEach Tryz.prog (Tryz.f5.params.toList ++ _) (ds ++ gs)).all (· ≤ reachBytes) = true := hwt
 rw [Tryz.params5] at hA hval hwt'
 obtain ⟨v0, v1, v2, d0, d1, d2, p0, p1, p2, rfl, rfl, rfl, h0, h1, h2⟩ := trodAll_three hA
 obtain ⟨rfl, rfl⟩ := trodVars_none hV
 obtain ⟨x0, hx0, hv0⟩ := Zaad (D := 30) Zaia (by kernel_rfl) (hval 0 38 v0 rfl rfl) h0 (Z19 hwt' (i := 0) (t := 38) (d := d0) rfl rfl)
 rw [Zaq8 Go.Proofs.Tryz.underlying38] at hv0
 obtain ⟨x1, hx1, hv1⟩ := Zaad (D := 30) (Zt Go.Proofs.Tryz.underlying3) (by kernel_rfl) (hval 1 3 v1 rfl rfl) h1 (Z19 hwt' (i := 1) (t := 3) (d := d1) rfl rfl)
 rw [Zaq9 Go.Proofs.Tryz.underlying3] at hv1
 obtain ⟨x2, hx2, hv2⟩ := Zaad (D := 30) (Zt Go.Proofs.Tryz.underlying29) (by kernel_rfl) (hval 2 29 v2 rfl rfl) h2 (Z19 hwt' (i := 2) (t := 29) (d := d2) rfl rfl)
 rw [Zaq9 Go.Proofs.Tryz.underlying29] at hv2
 refine (Zaq6 (Zauu W) (qs := [_, _, _]) (Zaac x0 x1 x2 (Zah4 x0 x1 x2 (Zaf1 hx0))) (by simp only [VRs]; exact ⟨v0, _, rfl, hv0, v1, _, rfl, hv1, v2, [], rfl, hv2, rfl⟩)).mono fun e W' ⟨he, hB⟩ => ?_
 subst he
 have hlt : ∀ x ∈ p0 ++ (p1 ++ p2), x.block < W.heap.size := fun x hx => hW'.lt x (by simpa using hx)
 exact ⟨_, rfl, _, _, _, [], _, [], hW', trodAll_mk1 (shut_bool Tryz.underlying4 true), trodAll_mk3 (Below.trod Tryz.laidOut (by kernel_rfl) (of_decide_eq_true (by kernel_rfl)) h0 hB (fun x hx => hlt x (by simp [hx]))) (Below.trod Tryz.laidOut (by kernel_rfl) (of_decide_eq_true (by kernel_rfl)) h1 hB (fun x hx => hlt x (by simp [hx]))) (Below.trod Tryz.laidOut (by kernel_rfl) (of_decide_eq_true (by kernel_rfl)) h2 hB (fun x hx => hlt x (by simp [hx]))), rfl, hB.frame _, fun h => by cases h⟩
theorem Zf5 {a b : Bool} (h : a = true) (g : b = true) : (a && b) = true := by subst h; subst g; rfl
theorem Zaib : (Rows.viewHidesRow.inPlace == Tryz.prog.inPlace 5) = true := by kernel_rfl
theorem Zaic : (Rows.viewHidesRow.unfollowed == Tryz.prog.unfollowed 5) = true := by kernel_rfl
theorem Zaid : (Rows.viewHidesRow.recurses == Tryz.prog.recurses 5) = true := by kernel_rfl
theorem Zaie : (Rows.viewHidesRow.named == Tryz.prog.varsNamed 5) = true := by kernel_rfl
theorem Zaif : (Rows.viewHidesRow.maps == (Tryz.f5.params.toList ++ Rows.viewHidesSpec.plain.varTypes Tryz.prog).any (Tryz.prog.mapsRec ·)) = true := by kernel_rfl
theorem Zaig : (Rows.viewHidesRow.ifaces == (Tryz.f5.params.toList ++ Rows.viewHidesSpec.plain.varTypes Tryz.prog).any (Tryz.prog.ifacesRec ·)) = true := by kernel_rfl
theorem Zaih : (Rows.viewHidesRow.loops == (Tryz.f5.params.toList ++ Rows.viewHidesSpec.plain.varTypes Tryz.prog).any (Tryz.prog.loopsFrom ·)) = true := by kernel_rfl
theorem Zaii : (Rows.viewHidesRow.wideKeys == (Tryz.f5.params.toList ++ Rows.viewHidesSpec.plain.varTypes Tryz.prog ++ Tryz.f5.resultTypes.toList).any (Tryz.prog.wideKeysFrom ·)) = true := by kernel_rfl
theorem Zaij : (Rows.viewHidesRow.veiled == (Tryz.f5.params.toList ++ Rows.viewHidesSpec.plain.varTypes Tryz.prog ++ Tryz.f5.resultTypes.toList).any (Tryz.prog.veiledRec ·)) = true := by kernel_rfl
theorem Zaik : Rows.viewHidesRow.veiledFits Tryz.prog Tryz.f5.params.toList (Tryz.f5.params.toList ++ Rows.viewHidesSpec.plain.varTypes Tryz.prog ++ Tryz.f5.resultTypes.toList) = true := by kernel_rfl
theorem Zaa9 : joinedFacts Tryz.pinned.checked.prog 5 Tryz.f5 Rows.viewHidesSpec Rows.viewHidesRow = true :=
 Zf5 (Zf5 (Zf5 (Zf5 (Zf5 (Zf5 (Zf5 (Zf5 (Zf5 (Zf5 (Zf5 (Zf5 (Zf5 (Zf5 (Zf5 (Zf5 (Zf5 (Zf5 (Zf5 (Zf5 (Zf5 (Zf5 (Zf5 (Zf5 (Zf5 (Zf5 (Zf5 (Zf5 (Zf5 (Zf5 (Zf5 (by kernel_rfl) (by kernel_rfl)) (by kernel_rfl)) (by kernel_rfl)) (by kernel_rfl)) (by kernel_rfl)) (by kernel_rfl)) (by kernel_rfl)) (by kernel_rfl)) Zaib) Zaic) Zaid) Zaie) Zaif) Zaig) (by kernel_rfl)) Zaih) Zaii) (by kernel_rfl)) (by kernel_rfl)) (by kernel_rfl)) (by kernel_rfl)) (by kernel_rfl)) (by kernel_rfl)) (by kernel_rfl)) (by kernel_rfl)) (by kernel_rfl)) (by kernel_rfl)) (by kernel_rfl)) (by kernel_rfl)) Zaij) Zaik
theorem viewHides_holds : Rows.ViewHidesSaid :=
 OpenClaim.holds_of_wide 5 Tryz.f5 rfl rfl rfl rfl rfl rfl rfl ⟨rfl, rfl, rfl, rfl, rfl⟩ rfl rfl rfl rfl rfl (by kernel_rfl) Tryz.func5 Zaa9
  (of_decide_eq_true (by kernel_rfl)) (by unfold Func.isWrapper; first | (rw [if_pos (by decide +kernel)]; kernel_rfl) | (rw [if_neg (by decide +kernel)]; exact ⟨rfl, rfl⟩))
  (fun os started H enc _ => Zaa8 os started H enc)
end Go.Proofs.YtloamjgjcjandaaGreat
