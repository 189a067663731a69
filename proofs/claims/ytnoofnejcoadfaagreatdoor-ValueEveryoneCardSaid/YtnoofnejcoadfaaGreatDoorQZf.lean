import Derived.Test.YtnoofnejcoadfaaGreatDoorQY
import Derived.Test.YtnoofnejcoadfaaGreatDoorTie
import Derived.Test.YtnoofnejcoadfaaGreatDoorCards
set_option linter.all false
namespace Go.Proofs.YtnoofnejcoadfaaGreatDoor
open Go.ChangeShapes Go.WideShapes Go.ChangeAt Go.RowKit Go.PW
set_option maxRecDepth 100000 in
theorem Zzu (os : Os) (started : os.Started) (H : Type) (enc : TypeId × Value → H) :
 ReturnsInHanded {} Tryz.checked os 8 .any (fun w args => (Rows.valueEveryoneSpec.pre enc Tryz.prog Tryz.f8 [] false w args ∧ laidMetH Tryz.prog LD w) ∧ sizedMet enc Tryz.prog Tryz.f8 (OpenSpec.ofChange Rows.valueEveryoneSpec) false w args) (Rows.valueEveryoneSpec.post enc Tryz.prog Tryz.f8 false true false false) := by
 refine Zatl (C := Tryz.checked) (X := fun w _ => laidMetH Tryz.prog LD w) (fun _ _ _ hh h => h.of_heap hh) Tryz.own started (by kernel_rfl) Tryz.func8
  (ChangeSpec.witness_shaped (enc := enc) (C := Tryz.checked) (os := os) (X := fun w _ => laidMetH Tryz.prog LD w) false (World.doorLaid Tryz.prog 400 os) #[.slice none 0 0, .agg #[.slice none 0 0, .slice none 0 0, .slice none 0 0, .slice none 0 0, .slice none 0 0, .slice none 0 0, .slice none 0 0, .int .i64 0, .int .i64 0, .int .i64 0, .bool false, .int .i64 0, .int .i64 0, .int .i64 0, .int .i64 0, .int .u64 0, .slice none 0 0, .int .i64 0, .int .i64 0], .int .i64 0] 8 rfl (World.shaped_of_RefB (by kernel_rfl) (by kernel_rfl)) (by kernel_rfl) (by kernel_rfl) (by kernel_rfl) (Zatk os _)) ?_
 intro W base args ds gs before hval0 hW hwt hL hsh
 have hval : ∀ (j : Nat) t v, Tryz.f8.params[j]? = some t → args[j]? = some v → Value.okWide Tryz.prog W .any base t v := hval0
 have hW' := hW
 obtain ⟨p, q, hA0, hV, rfl, hfz, hnd⟩ := hW
 have hA : DataW.TrodAll enc Tryz.prog W 0 (fun _ => true) true Tryz.f8.params.toList args.toList ds p := hA0
 have hwt' : (DataW.weightsEach Tryz.prog (Tryz.f8.params.toList ++ _) (ds ++ gs)).all (· ≤ reachBytes) = true := hwt
 rw [Tryz.params8] at hA hval hwt'
 obtain ⟨v0, v1, v2, d0, d1, d2, p0, p1, p2, rfl, rfl, rfl, h0, h1, h2⟩ := trodAll_three hA
 obtain ⟨rfl, rfl⟩ := trodVars_none hV
 obtain ⟨x0, hx0, hv0⟩ := Z7d (D := 30) (Zcr Go.Proofs.Tryz.underlying22 (by kernel_rfl : Go.Proofs.Tryz.prog.bytesOf 111 = 176) Zagu) (by kernel_rfl) (hval 0 22 v0 rfl rfl) h0 (Zyu hwt' (i := 0) (t := 22) (d := d0) rfl rfl)
 rw [Zash Go.Proofs.Tryz.underlying22] at hv0
 obtain ⟨x1, hx1, hv1⟩ := Z7d (D := 30) Zaed (by kernel_rfl) (hval 1 31 v1 rfl rfl) h1 (Zyu hwt' (i := 1) (t := 31) (d := d1) rfl rfl)
 rw [Zaqb Go.Proofs.Tryz.underlying31] at hv1
 obtain ⟨x2, hx2, hv2⟩ := Z7d (D := 30) (Zr Go.Proofs.Tryz.underlying3) (by kernel_rfl) (hval 2 3 v2 rfl rfl) h2 (Zyu hwt' (i := 2) (t := 3) (d := d2) rfl rfl)
 rw [Zavs Go.Proofs.Tryz.underlying3] at hv2
 refine (Zap8 (Zawv hsh hL) (qs := [_, _, _]) (Zzf x0 x1 x2 ((Zyf x0 x1 x2 (Zdj hx0 (fun _ h => Zadz h)) (Zab7 hx1) ).eq)) (by simp only [VRs]; exact ⟨v0, _, rfl, hv0, v1, _, rfl, hv1, v2, [], rfl, hv2, rfl⟩)).mono fun e W' ⟨he, hB⟩ => ?_
 subst he
 have hlt : ∀ x ∈ p0 ++ (p1 ++ p2), x.block < W.heap.size := fun x hx => hW'.lt x (by simpa using hx)
 exact ⟨_, rfl, _, _, _, [], _, [], hW', trodAll_mk1 (shut_bool Tryz.underlying4 true), trodAll_mk3 (Below.trod Tryz.laidOut (by kernel_rfl) (of_decide_eq_true (by kernel_rfl)) h0 hB (fun x hx => hlt x (by simp [hx]))) (Below.trod Tryz.laidOut (by kernel_rfl) (of_decide_eq_true (by kernel_rfl)) h1 hB (fun x hx => hlt x (by simp [hx]))) (Below.trod Tryz.laidOut (by kernel_rfl) (of_decide_eq_true (by kernel_rfl)) h2 hB (fun x hx => hlt x (by simp [hx]))), rfl, hB.frame _, fun h => by cases h⟩
theorem Zdr {a b : Bool} (h : a = true) (g : b = true) : (a && b) = true := by subst h; subst g; rfl
theorem Z4p : (Rows.valueEveryoneRow.inPlace == Tryz.pinned.checked.prog.inPlace 8) = true := by kernel_rfl
theorem Z4q : (Rows.valueEveryoneRow.unfollowed == Tryz.pinned.checked.prog.unfollowed 8) = true := by kernel_rfl
theorem Z4r : (Rows.valueEveryoneRow.recurses == Tryz.pinned.checked.prog.recurses 8) = true := by kernel_rfl
theorem Z4s : (Rows.valueEveryoneRow.named == Tryz.pinned.checked.prog.varsNamed 8) = true := by kernel_rfl
theorem Z4t : (Rows.valueEveryoneRow.maps == (Tryz.f8.params.toList ++ Rows.valueEveryoneSpec.plain.varTypes Tryz.pinned.checked.prog).any (Tryz.pinned.checked.prog.mapsRec ·)) = true := by kernel_rfl
theorem Z4u : (Rows.valueEveryoneRow.ifaces == (Tryz.f8.params.toList ++ Rows.valueEveryoneSpec.plain.varTypes Tryz.pinned.checked.prog).any (Tryz.pinned.checked.prog.ifacesRec ·)) = true := by kernel_rfl
theorem Z4v : (Rows.valueEveryoneRow.loops == (Tryz.f8.params.toList ++ Rows.valueEveryoneSpec.plain.varTypes Tryz.pinned.checked.prog).any (Tryz.pinned.checked.prog.loopsFrom ·)) = true := by kernel_rfl
theorem Z4w : (Rows.valueEveryoneRow.wideKeys == (Tryz.f8.params.toList ++ Rows.valueEveryoneSpec.plain.varTypes Tryz.pinned.checked.prog ++ Tryz.f8.resultTypes.toList).any (Tryz.pinned.checked.prog.wideKeysFrom ·)) = true := by kernel_rfl
theorem Z4x : (Rows.valueEveryoneRow.veiled == (Tryz.f8.params.toList ++ Rows.valueEveryoneSpec.plain.varTypes Tryz.pinned.checked.prog ++ Tryz.f8.resultTypes.toList).any (Tryz.pinned.checked.prog.veiledRec ·)) = true := by kernel_rfl
theorem Z4y : Rows.valueEveryoneRow.veiledFits Tryz.pinned.checked.prog Tryz.f8.params.toList (Tryz.f8.params.toList ++ Rows.valueEveryoneSpec.plain.varTypes Tryz.pinned.checked.prog ++ Tryz.f8.resultTypes.toList) = true := by kernel_rfl
set_option maxRecDepth 100000 in
theorem Zzv : joinedFacts Tryz.pinned.checked.prog 8 Tryz.f8 Rows.valueEveryoneSpec Rows.valueEveryoneRow = true := by
 unfold joinedFacts
 exact Zdr (Zdr (Zdr (Zdr (Zdr (Zdr (Zdr (Zdr (Zdr (Zdr (Zdr (Zdr (Zdr (Zdr (Zdr (Zdr (Zdr (Zdr (Zdr (Zdr (Zdr (Zdr (Zdr (Zdr (Zdr (Zdr (Zdr (Zdr (Zdr (Zdr (Zdr (by kernel_rfl) (by kernel_rfl)) (by kernel_rfl)) (by kernel_rfl)) (by kernel_rfl)) (by kernel_rfl)) (by kernel_rfl)) (by kernel_rfl)) (by kernel_rfl)) Z4p) Z4q) Z4r) Z4s) Z4t) Z4u) (by kernel_rfl)) Z4v) Z4w) (by kernel_rfl)) (by kernel_rfl)) (by kernel_rfl)) (by kernel_rfl)) (by kernel_rfl)) (by kernel_rfl)) (by kernel_rfl)) (by kernel_rfl)) (by kernel_rfl)) (by kernel_rfl)) (by kernel_rfl)) (by kernel_rfl)) Z4x) Z4y
theorem Z4z : Rows.ValueEveryoneSaid :=
 OpenClaim.holds_of_wide 8 Tryz.f8 rfl rfl rfl rfl rfl rfl rfl ⟨rfl, rfl, rfl, rfl, rfl⟩ rfl rfl rfl rfl rfl (by kernel_rfl) Tryz.func8 Zzv
  (of_decide_eq_true (by kernel_rfl)) (by unfold Func.isWrapper; first | (rw [if_pos (by decide +kernel)]; kernel_rfl) | (rw [if_neg (by decide +kernel)]; exact ⟨rfl, rfl⟩))
  (fun os started H enc _ => Zzu os started H enc)
theorem valueEveryone_holds : Rows.ValueEveryoneCardSaid :=
 Claim7.holds_tied_plain_at .later [] [.widerDeep] true (true, "10c2d0e67542d80448181e48baba62012d55b5d8c47a007a83022e3fe277eda9") false
  Z4z (fun _ h => by cases h) (by kernel_rfl) (fun _ h => by cases h) valueEveryone_row_tie rfl ⟨rfl, rfl⟩ (by kernel_rfl) rfl
  (fun f fn hf hfn => by
   obtain rfl : f = 8 := Option.some.inj ((show Tryz.prog.funcNamed "cardgame/cardgamelaw31.ValueEveryone" = some 8 by kernel_rfl).symm.trans hf) |>.symm
   obtain rfl : fn = Tryz.f8 := (Option.some.inj (Tryz.func8.symm.trans hfn)).symm
   exact ⟨by kernel_rfl, fun j t ht => by
    rw [Tryz.params8] at ht
    have hm : t ∈ [22, 31, 3] := by simpa using Array.mem_of_getElem? ht
    have hall : ([22, 31, 3].all fun u => !Tryz.prog.wantsStandIn u) = true := by kernel_rfl
    exact (show Tryz.prog.wantsStandIn t = false by simpa using List.all_eq_true.1 hall t hm)⟩)
  (by kernel_rfl)
end Go.Proofs.YtnoofnejcoadfaaGreatDoor
