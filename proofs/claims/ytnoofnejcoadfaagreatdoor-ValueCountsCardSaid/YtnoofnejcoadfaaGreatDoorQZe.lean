import Derived.Test.YtnoofnejcoadfaaGreatDoorQY
import Derived.Test.YtnoofnejcoadfaaGreatDoorTie
import Derived.Test.YtnoofnejcoadfaaGreatDoorCards
set_option linter.all false
namespace Go.Proofs.YtnoofnejcoadfaaGreatDoor
open Go.ChangeShapes Go.WideShapes Go.ChangeAt Go.RowKit Go.PW
set_option maxRecDepth 100000 in
theorem Zacb (os : Os) (started : os.Started) (H : Type) (enc : TypeId × Value → H) :
 ReturnsInHanded {} Tryz.checked os 7 .any (fun w args => (Rows.valueCountsSpec.pre enc Tryz.prog Tryz.f7 [] false w args ∧ laidMetH Tryz.prog LD w) ∧ sizedMet enc Tryz.prog Tryz.f7 (OpenSpec.ofChange Rows.valueCountsSpec) false w args) (Rows.valueCountsSpec.post enc Tryz.prog Tryz.f7 false true false false) := by
 refine Z6i (C := Tryz.checked) (X := fun w _ => laidMetH Tryz.prog LD w) (fun _ _ _ hh h => h.of_heap hh) Tryz.own started (by kernel_rfl) Tryz.func7
  (ChangeSpec.witness_shaped (enc := enc) (C := Tryz.checked) (os := os) (X := fun w _ => laidMetH Tryz.prog LD w) false (World.doorLaid Tryz.prog 400 os) #[.slice none 0 0, .agg #[.slice none 0 0, .slice none 0 0, .slice none 0 0, .slice none 0 0, .slice none 0 0, .slice none 0 0, .slice none 0 0, .int .i64 0, .int .i64 0, .int .i64 0, .bool false, .int .i64 0, .int .i64 0, .int .i64 0, .int .i64 0, .int .u64 0, .slice none 0 0, .int .i64 0, .int .i64 0], .agg #[.int .i64 0, .int .i64 0, .int .i64 0, .slice none 0 0, .int .i64 0, .int .i64 0, .int .i64 0, .int .i64 0, .int .i64 0, .int .i64 0, .int .i64 0, .int .i64 0, .int .i64 0, .int .i64 0, .bool false, .bool false, .int .i64 0, .int .i64 0, .int .i64 0, .int .i64 0, .int .i64 0, .int .i64 0, .int .i64 0, .int .i64 0, .int .i64 0, .int .i64 0, .int .i64 0, .int .i64 0, .int .i64 0, .string ⟨#[]⟩, .int .i64 0, .int .i64 0, .int .i64 0, .int .i64 0, .int .i64 0, .int .i64 0, .int .i64 0, .int .i64 0, .int .i64 0, .int .i64 0, .int .i64 0, .int .i64 0, .int .i64 0, .int .i64 0, .int .i64 0, .int .i64 0, .int .i64 0, .string ⟨#[]⟩, .int .i64 0, .int .i64 0, .int .i64 0, .int .i64 0, .int .i64 0, .int .i64 0, .int .i64 0, .int .i64 0]] 8 rfl (World.shaped_of_RefB (by kernel_rfl) (by kernel_rfl)) (by kernel_rfl) (by kernel_rfl) (by kernel_rfl) (Z6h os _)) ?_
 intro W base args ds gs before hval0 hW hwt hL hsh
 have hval : ∀ (j : Nat) t v, Tryz.f7.params[j]? = some t → args[j]? = some v → Value.okWide Tryz.prog W .any base t v := hval0
 have hW' := hW
 obtain ⟨p, q, hA0, hV, rfl, hfz, hnd⟩ := hW
 have hA : DataW.TrodAll enc Tryz.prog W 0 (fun _ => true) true Tryz.f7.params.toList args.toList ds p := hA0
 have hwt' : (DataW.weightsEach Tryz.prog (Tryz.f7.params.toList ++ _) (ds ++ gs)).all (· ≤ reachBytes) = true := hwt
 rw [Tryz.params7] at hA hval hwt'
 obtain ⟨v0, v1, v2, d0, d1, d2, p0, p1, p2, rfl, rfl, rfl, h0, h1, h2⟩ := trodAll_three hA
 obtain ⟨rfl, rfl⟩ := trodVars_none hV
 obtain ⟨x0, hx0, hv0⟩ := Zf0 (D := 30) (Zce Go.Proofs.Tryz.underlying22 (by kernel_rfl : Go.Proofs.Tryz.prog.bytesOf 111 = 176) Zno) (by kernel_rfl) (hval 0 22 v0 rfl rfl) h0 (Zea hwt' (i := 0) (t := 22) (d := d0) rfl rfl)
 rw [Z4x Go.Proofs.Tryz.underlying22] at hv0
 obtain ⟨x1, hx1, hv1⟩ := Zf0 (D := 30) Zlq (by kernel_rfl) (hval 1 31 v1 rfl rfl) h1 (Zea hwt' (i := 1) (t := 31) (d := d1) rfl rfl)
 rw [Ziu Go.Proofs.Tryz.underlying31] at hv1
 obtain ⟨x2, hx2, hv2⟩ := Zf0 (D := 30) Ze0 (by kernel_rfl) (hval 2 47 v2 rfl rfl) h2 (Zea hwt' (i := 2) (t := 47) (d := d2) rfl rfl)
 rw [Ziu Go.Proofs.Tryz.underlying47] at hv2
 refine (Zzh (Zats hsh hL) (qs := [_, _, _]) (Zabc x0 x1 x2 ((Z8a x0 x1 x2 (Zc7 hx0 (fun _ h => Zln h)) (Zke hx1) (Zem hx2)).eq)) (by simp only [VRs]; exact ⟨v0, _, rfl, hv0, v1, _, rfl, hv1, v2, [], rfl, hv2, rfl⟩)).mono fun e W' ⟨he, hB⟩ => ?_
 subst he
 have hlt : ∀ x ∈ p0 ++ (p1 ++ p2), x.block < W.heap.size := fun x hx => hW'.lt x (by simpa using hx)
 exact ⟨_, rfl, _, _, _, [], _, [], hW', trodAll_mk1 (shut_bool Tryz.underlying4 true), trodAll_mk3 (Below.trod Tryz.laidOut (by kernel_rfl) (of_decide_eq_true (by kernel_rfl)) h0 hB (fun x hx => hlt x (by simp [hx]))) (Below.trod Tryz.laidOut (by kernel_rfl) (of_decide_eq_true (by kernel_rfl)) h1 hB (fun x hx => hlt x (by simp [hx]))) (Below.trod Tryz.laidOut (by kernel_rfl) (of_decide_eq_true (by kernel_rfl)) h2 hB (fun x hx => hlt x (by simp [hx]))), rfl, hB.frame _, fun h => by cases h⟩
theorem Z9 {a b : Bool} (h : a = true) (g : b = true) : (a && b) = true := by subst h; subst g; rfl
theorem Zant : (Rows.valueCountsRow.inPlace == Tryz.pinned.checked.prog.inPlace 7) = true := by kernel_rfl
theorem Zanu : (Rows.valueCountsRow.unfollowed == Tryz.pinned.checked.prog.unfollowed 7) = true := by kernel_rfl
theorem Zanv : (Rows.valueCountsRow.recurses == Tryz.pinned.checked.prog.recurses 7) = true := by kernel_rfl
theorem Zanw : (Rows.valueCountsRow.named == Tryz.pinned.checked.prog.varsNamed 7) = true := by kernel_rfl
theorem Zanx : (Rows.valueCountsRow.maps == (Tryz.f7.params.toList ++ Rows.valueCountsSpec.plain.varTypes Tryz.pinned.checked.prog).any (Tryz.pinned.checked.prog.mapsRec ·)) = true := by kernel_rfl
theorem Zany : (Rows.valueCountsRow.ifaces == (Tryz.f7.params.toList ++ Rows.valueCountsSpec.plain.varTypes Tryz.pinned.checked.prog).any (Tryz.pinned.checked.prog.ifacesRec ·)) = true := by kernel_rfl
theorem Zanz : (Rows.valueCountsRow.loops == (Tryz.f7.params.toList ++ Rows.valueCountsSpec.plain.varTypes Tryz.pinned.checked.prog).any (Tryz.pinned.checked.prog.loopsFrom ·)) = true := by kernel_rfl
theorem Zan0 : (Rows.valueCountsRow.wideKeys == (Tryz.f7.params.toList ++ Rows.valueCountsSpec.plain.varTypes Tryz.pinned.checked.prog ++ Tryz.f7.resultTypes.toList).any (Tryz.pinned.checked.prog.wideKeysFrom ·)) = true := by kernel_rfl
theorem Zan1 : (Rows.valueCountsRow.veiled == (Tryz.f7.params.toList ++ Rows.valueCountsSpec.plain.varTypes Tryz.pinned.checked.prog ++ Tryz.f7.resultTypes.toList).any (Tryz.pinned.checked.prog.veiledRec ·)) = true := by kernel_rfl
theorem Zan2 : Rows.valueCountsRow.veiledFits Tryz.pinned.checked.prog Tryz.f7.params.toList (Tryz.f7.params.toList ++ Rows.valueCountsSpec.plain.varTypes Tryz.pinned.checked.prog ++ Tryz.f7.resultTypes.toList) = true := by kernel_rfl
set_option maxRecDepth 100000 in
theorem Zacc : joinedFacts Tryz.pinned.checked.prog 7 Tryz.f7 Rows.valueCountsSpec Rows.valueCountsRow = true := by
 unfold joinedFacts
 exact Z9 (Z9 (Z9 (Z9 (Z9 (Z9 (Z9 (Z9 (Z9 (Z9 (Z9 (Z9 (Z9 (Z9 (Z9 (Z9 (Z9 (Z9 (Z9 (Z9 (Z9 (Z9 (Z9 (Z9 (Z9 (Z9 (Z9 (Z9 (Z9 (Z9 (Z9 (by kernel_rfl) (by kernel_rfl)) (by kernel_rfl)) (by kernel_rfl)) (by kernel_rfl)) (by kernel_rfl)) (by kernel_rfl)) (by kernel_rfl)) (by kernel_rfl)) Zant) Zanu) Zanv) Zanw) Zanx) Zany) (by kernel_rfl)) Zanz) Zan0) (by kernel_rfl)) (by kernel_rfl)) (by kernel_rfl)) (by kernel_rfl)) (by kernel_rfl)) (by kernel_rfl)) (by kernel_rfl)) (by kernel_rfl)) (by kernel_rfl)) (by kernel_rfl)) (by kernel_rfl)) (by kernel_rfl)) Zan1) Zan2
theorem Zan3 : Rows.ValueCountsSaid :=
 OpenClaim.holds_of_wide 7 Tryz.f7 rfl rfl rfl rfl rfl rfl rfl ⟨rfl, rfl, rfl, rfl, rfl⟩ rfl rfl rfl rfl rfl (by kernel_rfl) Tryz.func7 Zacc
  (of_decide_eq_true (by kernel_rfl)) (by unfold Func.isWrapper; first | (rw [if_pos (by decide +kernel)]; kernel_rfl) | (rw [if_neg (by decide +kernel)]; exact ⟨rfl, rfl⟩))
  (fun os started H enc _ => Zacb os started H enc)
theorem valueCounts_holds : Rows.ValueCountsCardSaid :=
 Claim7.holds_tied_plain_at .later [] [.widerDeep] true (true, "10c2d0e67542d80448181e48baba62012d55b5d8c47a007a83022e3fe277eda9") false
  Zan3 (fun _ h => by cases h) (by kernel_rfl) (fun _ h => by cases h) valueCounts_row_tie rfl ⟨rfl, rfl⟩ (by kernel_rfl) rfl
  (fun f fn hf hfn => by
   obtain rfl : f = 7 := Option.some.inj ((show Tryz.prog.funcNamed "cardgame/cardgamelaw31.ValueCounts" = some 7 by kernel_rfl).symm.trans hf) |>.symm
   obtain rfl : fn = Tryz.f7 := (Option.some.inj (Tryz.func7.symm.trans hfn)).symm
   exact ⟨by kernel_rfl, fun j t ht => by
    rw [Tryz.params7] at ht
    have hm : t ∈ [22, 31, 47] := by simpa using Array.mem_of_getElem? ht
    have hall : ([22, 31, 47].all fun u => !Tryz.prog.wantsStandIn u) = true := by kernel_rfl
    exact (show Tryz.prog.wantsStandIn t = false by simpa using List.all_eq_true.1 hall t hm)⟩)
  (by kernel_rfl)
end Go.Proofs.YtnoofnejcoadfaaGreatDoor
