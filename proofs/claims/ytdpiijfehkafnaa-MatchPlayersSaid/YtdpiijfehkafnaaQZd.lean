/- MatchPlayers: whatever the arguments, the law returns true, and they read as before. No condition. -/
import Derived.Test.YtdpiijfehkafnaaQY
import Derived.Test.YtdpiijfehkafnaaQWg
namespace Go.Proofs.Ytdpiijfehkafnaa
open Go.ChangeShapes Go.WideShapes Go.ChangeAt Go.RowKit Go.PW

set_option maxRecDepth 100000 in
theorem matchPlayers_lifted (os : Os) (started : os.Started) (H : Type) (enc : TypeId × Value → H) :
    ReturnsInHanded {} Try.checked os 6 .any (Rows.matchPlayersSpec.pre6 enc Try.prog Try.f6 Rows.matchPlayersRow.domain false) (Rows.matchPlayersSpec.post enc Try.prog Try.f6 false true false false) := by
  refine returnsInHanded_of_change_shaped (C := Try.checked) Try.own started (by kernel_rfl) Try.func6
    (ChangeSpec.witness6 (enc := enc) (C := Try.checked) false ⟨#[], #[.agg #[.slice none 0 0, .slice none 0 0, .slice none 0 0, .slice none 0 0, .slice none 0 0, .slice none 0 0, .slice none 0 0, .int .i64 0, .int .i64 0, .int .i64 0, .bool false, .int .i64 0, .int .i64 0, .int .i64 0, .int .i64 0, .int .u64 0, .slice none 0 0, .int .i64 0, .int .i64 0], .int .i64 0, .int .i64 0], []⟩ 8 (by kernel_rfl) (by kernel_rfl) (by kernel_rfl) (by kernel_rfl)) ?_
  intro W base args ds gs before hval0 hW hcnd hwt hsh _
  have hval : ∀ (j : Nat) t v, Try.f6.params[j]? = some t → args[j]? = some v → Value.okWide Try.prog W .any base t v := hval0
  have hW' := hW
  obtain ⟨p, q, hA0, hV, rfl, hfz, hnd⟩ := hW
  have hA : DataW.TrodAll enc Try.prog W 0 (fun _ => true) true Try.f6.params.toList args.toList ds p := hA0
  have hwt' : (DataW.weightsEach Try.prog (Try.f6.params.toList ++ _) (ds ++ gs)).all (· ≤ reachBytes) = true := hwt
  rw [Try.params6] at hA hval hwt'
  obtain ⟨v0, v1, v2, d0, d1, d2, p0, p1, p2, rfl, rfl, rfl, h0, h1, h2⟩ := trodAll_three hA
  obtain ⟨rfl, rfl⟩ := trodVars_none hV
  obtain ⟨x0, hx0, hv0⟩ := open_arg (D := 30) open_api_State (by kernel_rfl) (hval 0 53 v0 rfl rfl) h0 (weights_at hwt' (i := 0) (t := 53) (d := d0) rfl rfl)
  rw [pv_struct Go.Proofs.Try.underlying53] at hv0
  obtain ⟨x1, hx1, hv1⟩ := open_arg (D := 30) (WT_int Go.Proofs.Try.underlying3) (by kernel_rfl) (hval 1 3 v1 rfl rfl) h1 (weights_at hwt' (i := 1) (t := 3) (d := d1) rfl rfl)
  rw [pv_int Go.Proofs.Try.underlying3] at hv1
  obtain ⟨x2, hx2, hv2⟩ := open_arg (D := 30) (WT_int Go.Proofs.Try.underlying3) (by kernel_rfl) (hval 2 3 v2 rfl rfl) h2 (weights_at hwt' (i := 2) (t := 3) (d := d2) rfl rfl)
  rw [pv_int Go.Proofs.Try.underlying3] at hv2
  refine (calls_law (globW hsh) (qs := [_, _, _]) (L29_MatchPlayers_ok x0 x1 x2 (law_MatchPlayers x0 x1 x2 (szS_of hx0))) (by simp only [VRs]; exact ⟨v0, _, rfl, hv0, v1, _, rfl, hv1, v2, [], rfl, hv2, rfl⟩)).mono fun e W' ⟨he, hB⟩ => ?_
  subst he
  have hlt : ∀ x ∈ p0 ++ (p1 ++ p2), x.block < W.heap.size := fun x hx => hW'.lt x (by simpa using hx)
  exact ⟨_, rfl, _, _, _, [], _, [], hW', trodAll_mk1 (shut_bool Try.underlying4 true), trodAll_mk3 (Below.trod Try.laidOut (by kernel_rfl) (of_decide_eq_true (by kernel_rfl)) h0 hB (fun x hx => hlt x (by simp [hx]))) (Below.trod Try.laidOut (by kernel_rfl) (of_decide_eq_true (by kernel_rfl)) h1 hB (fun x hx => hlt x (by simp [hx]))) (Below.trod Try.laidOut (by kernel_rfl) (of_decide_eq_true (by kernel_rfl)) h2 hB (fun x hx => hlt x (by simp [hx]))), rfl, hB.frame _, fun h => by cases h⟩

theorem matchPlayers_holds : Rows.MatchPlayersSaid :=
  OpenClaim.holds_of_wide 6 Try.f6 rfl rfl rfl rfl rfl rfl rfl ⟨rfl, rfl, rfl, rfl, rfl⟩ rfl rfl rfl rfl rfl (by kernel_rfl) Try.func6 (by kernel_rfl)
    (of_decide_eq_true (by kernel_rfl)) (by unfold Func.isWrapper; first | (rw [if_pos (by decide +kernel)]; kernel_rfl) | (rw [if_neg (by decide +kernel)]; exact ⟨rfl, rfl⟩))
    (fun os started H enc _ => matchPlayers_lifted os started H enc)
end Go.Proofs.Ytdpiijfehkafnaa
