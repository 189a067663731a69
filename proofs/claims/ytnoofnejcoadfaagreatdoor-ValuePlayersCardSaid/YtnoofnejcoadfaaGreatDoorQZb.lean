import Derived.Test.YtnoofnejcoadfaaGreatDoorQY
import Derived.Test.YtnoofnejcoadfaaGreatDoorTie
import Derived.Test.YtnoofnejcoadfaaGreatDoorCards
set_option linter.all false
namespace Go.Proofs.YtnoofnejcoadfaaGreatDoor
open Go.ChangeShapes Go.WideShapes Go.ChangeAt Go.RowKit Go.PW
set_option maxRecDepth 100000 in
theorem Z7i (os : Os) (started : os.Started) (H : Type) (enc : TypeId × Value → H) :
 ReturnsInHanded {} Tryz.checked os 4 .any (fun w args => (Rows.valuePlayersSpec.pre enc Tryz.prog Tryz.f4 [] false w args ∧ laidMetH Tryz.prog LD w) ∧ sizedMet enc Tryz.prog Tryz.f4 (OpenSpec.ofChange Rows.valuePlayersSpec) false w args) (Rows.valuePlayersSpec.post enc Tryz.prog Tryz.f4 false true false false) := by
 refine Za5z (C := Tryz.checked) (X := fun w _ => laidMetH Tryz.prog LD w) (fun _ _ _ hh h => h.of_heap hh) Tryz.own started (by kernel_rfl) Tryz.func4
  (ChangeSpec.witness_shaped (enc := enc) (C := Tryz.checked) (os := os) (X := fun w _ => laidMetH Tryz.prog LD w) false (World.doorLaid Tryz.prog 400 os) #[.slice none 0 0, .agg #[.slice none 0 0, .slice none 0 0, .slice none 0 0, .slice none 0 0, .slice none 0 0, .slice none 0 0, .slice none 0 0, .int .i64 0, .int .i64 0, .int .i64 0, .bool false, .int .i64 0, .int .i64 0, .int .i64 0, .int .i64 0, .int .u64 0, .slice none 0 0, .int .i64 0, .int .i64 0], .agg #[.int .i64 0, .int .i64 0, .int .i64 0, .slice none 0 0, .int .i64 0, .int .i64 0, .int .i64 0, .int .i64 0, .int .i64 0, .int .i64 0, .int .i64 0, .int .i64 0, .int .i64 0, .int .i64 0, .bool false, .bool false, .int .i64 0, .int .i64 0, .int .i64 0, .int .i64 0, .int .i64 0, .int .i64 0, .int .i64 0, .int .i64 0, .int .i64 0, .int .i64 0, .int .i64 0, .int .i64 0, .int .i64 0, .string ⟨#[]⟩, .int .i64 0, .int .i64 0, .int .i64 0, .int .i64 0, .int .i64 0, .int .i64 0, .int .i64 0, .int .i64 0, .int .i64 0, .int .i64 0, .int .i64 0, .int .i64 0, .int .i64 0, .int .i64 0, .int .i64 0, .int .i64 0, .int .i64 0, .string ⟨#[]⟩, .int .i64 0, .int .i64 0, .int .i64 0, .int .i64 0, .int .i64 0, .int .i64 0, .int .i64 0, .int .i64 0]] 8 rfl (World.shaped_of_RefB (by kernel_rfl) (by kernel_rfl)) (by kernel_rfl) (by kernel_rfl) (by kernel_rfl) (Za5y os _)) ?_
 intro W base args ds gs before hval0 hW hwt hL hsh
 have hval : ∀ (j : Nat) t v, Tryz.f4.params[j]? = some t → args[j]? = some v → Value.okWide Tryz.prog W .any base t v := hval0
 have hW' := hW
 obtain ⟨p, q, hA0, hV, rfl, hfz, hnd⟩ := hW
 have hA : DataW.TrodAll enc Tryz.prog W 0 (fun _ => true) true Tryz.f4.params.toList args.toList ds p := hA0
 have hwt' : (DataW.weightsEach Tryz.prog (Tryz.f4.params.toList ++ _) (ds ++ gs)).all (· ≤ reachBytes) = true := hwt
 rw [Tryz.params4] at hA hval hwt'
 obtain ⟨v0, v1, v2, d0, d1, d2, p0, p1, p2, rfl, rfl, rfl, h0, h1, h2⟩ := trodAll_three hA
 obtain ⟨rfl, rfl⟩ := trodVars_none hV
 obtain ⟨x0, hx0, hv0⟩ := Zaff (D := 30) (Zcz Go.Proofs.Tryz.underlying22 (by kernel_rfl : Go.Proofs.Tryz.prog.bytesOf 111 = 176) Zarx) (by kernel_rfl) (hval 0 22 v0 rfl rfl) h0 (Z4a hwt' (i := 0) (t := 22) (d := d0) rfl rfl)
 rw [Za4q Go.Proofs.Tryz.underlying22] at hv0
 obtain ⟨x1, hx1, hv1⟩ := Zaff (D := 30) Zaoq (by kernel_rfl) (hval 1 31 v1 rfl rfl) h1 (Z4a hwt' (i := 1) (t := 31) (d := d1) rfl rfl)
 rw [Zao3 Go.Proofs.Tryz.underlying31] at hv1
 obtain ⟨x2, hx2, hv2⟩ := Zaff (D := 30) Zyh (by kernel_rfl) (hval 2 47 v2 rfl rfl) h2 (Z4a hwt' (i := 2) (t := 47) (d := d2) rfl rfl)
 rw [Zao3 Go.Proofs.Tryz.underlying47] at hv2
 refine (Za2i (Za86 hsh hL) (qs := [_, _, _]) (Z7g x0 x1 x2 ((Z5p x0 x1 x2 (Zdu hx0 (fun _ h => Zan0 h)) (Zalf hx1) (Zvd hx2)).eq)) (by simp only [VRs]; exact ⟨v0, _, rfl, hv0, v1, _, rfl, hv1, v2, [], rfl, hv2, rfl⟩)).mono fun e W' ⟨he, hB⟩ => ?_
 subst he
 have hlt : ∀ x ∈ p0 ++ (p1 ++ p2), x.block < W.heap.size := fun x hx => hW'.lt x (by simpa using hx)
 exact ⟨_, rfl, _, _, _, [], _, [], hW', trodAll_mk1 (shut_bool Tryz.underlying4 true), trodAll_mk3 (Below.trod Tryz.laidOut (by kernel_rfl) (of_decide_eq_true (by kernel_rfl)) h0 hB (fun x hx => hlt x (by simp [hx]))) (Below.trod Tryz.laidOut (by kernel_rfl) (of_decide_eq_true (by kernel_rfl)) h1 hB (fun x hx => hlt x (by simp [hx]))) (Below.trod Tryz.laidOut (by kernel_rfl) (of_decide_eq_true (by kernel_rfl)) h2 hB (fun x hx => hlt x (by simp [hx]))), rfl, hB.frame _, fun h => by cases h⟩
theorem Zeh {a b : Bool} (h : a = true) (g : b = true) : (a && b) = true := by subst h; subst g; rfl
theorem Zahn : (Rows.valuePlayersRow.inPlace == Tryz.pinned.checked.prog.inPlace 4) = true := by kernel_rfl
theorem Zaho : (Rows.valuePlayersRow.unfollowed == Tryz.pinned.checked.prog.unfollowed 4) = true := by kernel_rfl
theorem Zahp : (Rows.valuePlayersRow.recurses == Tryz.pinned.checked.prog.recurses 4) = true := by kernel_rfl
theorem Zahq : (Rows.valuePlayersRow.named == Tryz.pinned.checked.prog.varsNamed 4) = true := by kernel_rfl
theorem Zahr : (Rows.valuePlayersRow.maps == (Tryz.f4.params.toList ++ Rows.valuePlayersSpec.plain.varTypes Tryz.pinned.checked.prog).any (Tryz.pinned.checked.prog.mapsRec ·)) = true := by kernel_rfl
theorem Zahs : (Rows.valuePlayersRow.ifaces == (Tryz.f4.params.toList ++ Rows.valuePlayersSpec.plain.varTypes Tryz.pinned.checked.prog).any (Tryz.pinned.checked.prog.ifacesRec ·)) = true := by kernel_rfl
theorem Zaht : (Rows.valuePlayersRow.loops == (Tryz.f4.params.toList ++ Rows.valuePlayersSpec.plain.varTypes Tryz.pinned.checked.prog).any (Tryz.pinned.checked.prog.loopsFrom ·)) = true := by kernel_rfl
theorem Zahu : (Rows.valuePlayersRow.wideKeys == (Tryz.f4.params.toList ++ Rows.valuePlayersSpec.plain.varTypes Tryz.pinned.checked.prog ++ Tryz.f4.resultTypes.toList).any (Tryz.pinned.checked.prog.wideKeysFrom ·)) = true := by kernel_rfl
theorem Zahv : (Rows.valuePlayersRow.veiled == (Tryz.f4.params.toList ++ Rows.valuePlayersSpec.plain.varTypes Tryz.pinned.checked.prog ++ Tryz.f4.resultTypes.toList).any (Tryz.pinned.checked.prog.veiledRec ·)) = true := by kernel_rfl
theorem Zahw : Rows.valuePlayersRow.veiledFits Tryz.pinned.checked.prog Tryz.f4.params.toList (Tryz.f4.params.toList ++ Rows.valuePlayersSpec.plain.varTypes Tryz.pinned.checked.prog ++ Tryz.f4.resultTypes.toList) = true := by kernel_rfl
set_option maxRecDepth 100000 in
theorem Z7j : joinedFacts Tryz.pinned.checked.prog 4 Tryz.f4 Rows.valuePlayersSpec Rows.valuePlayersRow = true := by
 unfold joinedFacts
 exact Zeh (Zeh (Zeh (Zeh (Zeh (Zeh (Zeh (Zeh (Zeh (Zeh (Zeh (Zeh (Zeh (Zeh (Zeh (Zeh (Zeh (Zeh (Zeh (Zeh (Zeh (Zeh (Zeh (Zeh (Zeh (Zeh (Zeh (Zeh (Zeh (Zeh (Zeh (by kernel_rfl) (by kernel_rfl)) (by kernel_rfl)) (by kernel_rfl)) (by kernel_rfl)) (by kernel_rfl)) (by kernel_rfl)) (by kernel_rfl)) (by kernel_rfl)) Zahn) Zaho) Zahp) Zahq) Zahr) Zahs) (by kernel_rfl)) Zaht) Zahu) (by kernel_rfl)) (by kernel_rfl)) (by kernel_rfl)) (by kernel_rfl)) (by kernel_rfl)) (by kernel_rfl)) (by kernel_rfl)) (by kernel_rfl)) (by kernel_rfl)) (by kernel_rfl)) (by kernel_rfl)) (by kernel_rfl)) Zahv) Zahw
theorem Zahx : Rows.ValuePlayersSaid :=
 OpenClaim.holds_of_wide 4 Tryz.f4 rfl rfl rfl rfl rfl rfl rfl ⟨rfl, rfl, rfl, rfl, rfl⟩ rfl rfl rfl rfl rfl (by kernel_rfl) Tryz.func4 Z7j
  (of_decide_eq_true (by kernel_rfl)) (by unfold Func.isWrapper; first | (rw [if_pos (by decide +kernel)]; kernel_rfl) | (rw [if_neg (by decide +kernel)]; exact ⟨rfl, rfl⟩))
  (fun os started H enc _ => Z7i os started H enc)
theorem valuePlayers_holds : Rows.ValuePlayersCardSaid :=
 Claim7.holds_tied_plain_at .later [] [.widerDeep] true (true, "10c2d0e67542d80448181e48baba62012d55b5d8c47a007a83022e3fe277eda9") false
  Zahx (fun _ h => by cases h) (by kernel_rfl) (fun _ h => by cases h) valuePlayers_row_tie rfl ⟨rfl, rfl⟩ (by kernel_rfl) rfl
  (fun f fn hf hfn => by
   obtain rfl : f = 4 := Option.some.inj ((show Tryz.prog.funcNamed "cardgame/cardgamelaw31.ValuePlayers" = some 4 by kernel_rfl).symm.trans hf) |>.symm
   obtain rfl : fn = Tryz.f4 := (Option.some.inj (Tryz.func4.symm.trans hfn)).symm
   exact ⟨by kernel_rfl, fun j t ht => by
    rw [Tryz.params4] at ht
    have hm : t ∈ [22, 31, 47] := by simpa using Array.mem_of_getElem? ht
    have hall : ([22, 31, 47].all fun u => !Tryz.prog.wantsStandIn u) = true := by kernel_rfl
    exact (show Tryz.prog.wantsStandIn t = false by simpa using List.all_eq_true.1 hall t hm)⟩)
  (by kernel_rfl)
end Go.Proofs.YtnoofnejcoadfaaGreatDoor
