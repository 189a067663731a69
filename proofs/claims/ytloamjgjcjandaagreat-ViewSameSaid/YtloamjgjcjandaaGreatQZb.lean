import Derived.Test.YtloamjgjcjandaaGreatQY
set_option linter.all false
namespace Go.Proofs.YtloamjgjcjandaaGreat
open Go.ChangeShapes Go.WideShapes Go.ChangeAt Go.RowKit Go.PW
set_option maxRecDepth 100000 in
theorem Zael (os : Os) (started : os.Started) (H : Type) (enc : TypeId × Value → H) :
 ReturnsInHanded {} Tryz.checked os 4 .any (Rows.viewSameSpec.pre6 enc Tryz.prog Tryz.f4 Rows.viewSameRow.domain false) (Rows.viewSameSpec.post enc Tryz.prog Tryz.f4 false true false false) := by
 refine returnsInHanded_of_change_shaped (C := Tryz.checked) Tryz.own started (by kernel_rfl) Tryz.func4
  (ChangeSpec.witness6 (enc := enc) (C := Tryz.checked) false ⟨#[], #[.agg #[.slice none 0 0, .slice none 0 0, .slice none 0 0, .slice none 0 0, .slice none 0 0, .slice none 0 0, .slice none 0 0, .slice none 0 0, .int .i64 0, .int .i64 0, .int .i64 0, .bool false, .int .i64 0, .int .i64 0, .int .i64 0, .int .i64 0, .int .u64 0, .slice none 0 0, .int .i64 0, .int .i64 0, .slice none 0 0, .int .i64 0, .int .i64 0, .int .i64 0, .int .i64 0, .int .i64 0, .int .i64 0, .slice none 0 0, .int .i64 0, .slice none 0 0], .agg #[.slice none 0 0, .slice none 0 0, .slice none 0 0, .slice none 0 0, .slice none 0 0, .slice none 0 0, .slice none 0 0, .slice none 0 0, .int .i64 0, .int .i64 0, .int .i64 0, .bool false, .int .i64 0, .int .i64 0, .int .i64 0, .int .i64 0, .int .u64 0, .slice none 0 0, .int .i64 0, .int .i64 0, .slice none 0 0, .int .i64 0, .int .i64 0, .int .i64 0, .int .i64 0, .int .i64 0, .int .i64 0, .slice none 0 0, .int .i64 0, .slice none 0 0], .agg #[.int .i64 0, .int .i64 0]], []⟩ 8 (by kernel_rfl) (by kernel_rfl) (by kernel_rfl) (by kernel_rfl)) ?_
 intro W base args ds gs before hval0 hW hcnd hwt hsh _
 have hval : ∀ (j : Nat) t v, Tryz.f4.params[j]? = some t → args[j]? = some v → Value.okWide Tryz.prog W .any base t v := hval0
 have hW' := hW
 obtain ⟨p, q, hA0, hV, rfl, hfz, hnd⟩ := hW
 have hA : DataW.TrodAll enc Tryz.prog W 0 (fun _ => true) true Tryz.f4.params.toList args.toList ds p := hA0
 have hwt' : (DataW.weightsEach Tryz.prog (Tryz.f4.params.toList ++ _) (ds ++ gs)).all (· ≤ reachBytes) = true := hwt
 rw [Tryz.params4] at hA hval hwt'
 obtain ⟨v0, v1, v2, d0, d1, d2, p0, p1, p2, rfl, rfl, rfl, h0, h1, h2⟩ := trodAll_three hA
 obtain ⟨rfl, rfl⟩ := trodVars_none hV
 obtain ⟨x0, hx0, hv0⟩ := Z9s (D := 30) Z2n (by kernel_rfl) (hval 0 38 v0 rfl rfl) h0 (Z1b hwt' (i := 0) (t := 38) (d := d0) rfl rfl)
 rw [Zagm Go.Proofs.Tryz.underlying38] at hv0
 obtain ⟨x1, hx1, hv1⟩ := Z9s (D := 30) Z2n (by kernel_rfl) (hval 1 38 v1 rfl rfl) h1 (Z1b hwt' (i := 1) (t := 38) (d := d1) rfl rfl)
 rw [Zagm Go.Proofs.Tryz.underlying38] at hv1
 obtain ⟨x2, hx2, hv2⟩ := Z9s (D := 30) (Zatl Go.Proofs.Tryz.underlying46 (Zv Go.Proofs.Tryz.underlying3)) (by kernel_rfl) (hval 2 46 v2 rfl rfl) h2 (Z1b hwt' (i := 2) (t := 46) (d := d2) rfl rfl)
 rw [Zath Go.Proofs.Tryz.underlying46] at hv2
 refine (Zaqg (Zatn W) (qs := [_, _, _]) (Zac8 x0 x1 x2 (Zal4 x0 x1 x2 (Zz7 hx0) (Zz7 hx1))) (by simp only [VRs]; exact ⟨v0, _, rfl, hv0, v1, _, rfl, hv1, v2, [], rfl, hv2, rfl⟩)).mono fun e W' ⟨he, hB⟩ => ?_
 subst he
 have hlt : ∀ x ∈ p0 ++ (p1 ++ p2), x.block < W.heap.size := fun x hx => hW'.lt x (by simpa using hx)
 exact ⟨_, rfl, _, _, _, [], _, [], hW', trodAll_mk1 (shut_bool Tryz.underlying4 true), trodAll_mk3 (Below.trod Tryz.laidOut (by kernel_rfl) (of_decide_eq_true (by kernel_rfl)) h0 hB (fun x hx => hlt x (by simp [hx]))) (Below.trod Tryz.laidOut (by kernel_rfl) (of_decide_eq_true (by kernel_rfl)) h1 hB (fun x hx => hlt x (by simp [hx]))) (Below.trod Tryz.laidOut (by kernel_rfl) (of_decide_eq_true (by kernel_rfl)) h2 hB (fun x hx => hlt x (by simp [hx]))), rfl, hB.frame _, fun h => by cases h⟩
theorem Zf5 {a b : Bool} (h : a = true) (g : b = true) : (a && b) = true := by subst h; subst g; rfl
theorem Zal6 : (Rows.viewSameRow.inPlace == Tryz.prog.inPlace 4) = true := by kernel_rfl
theorem Zal7 : (Rows.viewSameRow.unfollowed == Tryz.prog.unfollowed 4) = true := by kernel_rfl
theorem Zal8 : (Rows.viewSameRow.recurses == Tryz.prog.recurses 4) = true := by kernel_rfl
theorem Zal9 : (Rows.viewSameRow.named == Tryz.prog.varsNamed 4) = true := by kernel_rfl
theorem Zama : (Rows.viewSameRow.maps == (Tryz.f4.params.toList ++ Rows.viewSameSpec.plain.varTypes Tryz.prog).any (Tryz.prog.mapsRec ·)) = true := by kernel_rfl
theorem Zamb : (Rows.viewSameRow.ifaces == (Tryz.f4.params.toList ++ Rows.viewSameSpec.plain.varTypes Tryz.prog).any (Tryz.prog.ifacesRec ·)) = true := by kernel_rfl
theorem Zamc : (Rows.viewSameRow.loops == (Tryz.f4.params.toList ++ Rows.viewSameSpec.plain.varTypes Tryz.prog).any (Tryz.prog.loopsFrom ·)) = true := by kernel_rfl
theorem Zamd : (Rows.viewSameRow.wideKeys == (Tryz.f4.params.toList ++ Rows.viewSameSpec.plain.varTypes Tryz.prog ++ Tryz.f4.resultTypes.toList).any (Tryz.prog.wideKeysFrom ·)) = true := by kernel_rfl
theorem Zame : (Rows.viewSameRow.veiled == (Tryz.f4.params.toList ++ Rows.viewSameSpec.plain.varTypes Tryz.prog ++ Tryz.f4.resultTypes.toList).any (Tryz.prog.veiledRec ·)) = true := by kernel_rfl
theorem Zamf : Rows.viewSameRow.veiledFits Tryz.prog Tryz.f4.params.toList (Tryz.f4.params.toList ++ Rows.viewSameSpec.plain.varTypes Tryz.prog ++ Tryz.f4.resultTypes.toList) = true := by kernel_rfl
theorem Zaem : joinedFacts Tryz.pinned.checked.prog 4 Tryz.f4 Rows.viewSameSpec Rows.viewSameRow = true :=
 Zf5 (Zf5 (Zf5 (Zf5 (Zf5 (Zf5 (Zf5 (Zf5 (Zf5 (Zf5 (Zf5 (Zf5 (Zf5 (Zf5 (Zf5 (Zf5 (Zf5 (Zf5 (Zf5 (Zf5 (Zf5 (Zf5 (Zf5 (Zf5 (Zf5 (Zf5 (Zf5 (Zf5 (Zf5 (Zf5 (Zf5 (by kernel_rfl) (by kernel_rfl)) (by kernel_rfl)) (by kernel_rfl)) (by kernel_rfl)) (by kernel_rfl)) (by kernel_rfl)) (by kernel_rfl)) (by kernel_rfl)) Zal6) Zal7) Zal8) Zal9) Zama) Zamb) (by kernel_rfl)) Zamc) Zamd) (by kernel_rfl)) (by kernel_rfl)) (by kernel_rfl)) (by kernel_rfl)) (by kernel_rfl)) (by kernel_rfl)) (by kernel_rfl)) (by kernel_rfl)) (by kernel_rfl)) (by kernel_rfl)) (by kernel_rfl)) (by kernel_rfl)) Zame) Zamf
theorem viewSame_holds : Rows.ViewSameSaid :=
 OpenClaim.holds_of_wide 4 Tryz.f4 rfl rfl rfl rfl rfl rfl rfl ⟨rfl, rfl, rfl, rfl, rfl⟩ rfl rfl rfl rfl rfl (by kernel_rfl) Tryz.func4 Zaem
  (of_decide_eq_true (by kernel_rfl)) (by unfold Func.isWrapper; first | (rw [if_pos (by decide +kernel)]; kernel_rfl) | (rw [if_neg (by decide +kernel)]; exact ⟨rfl, rfl⟩))
  (fun os started H enc _ => Zael os started H enc)
end Go.Proofs.YtloamjgjcjandaaGreat
