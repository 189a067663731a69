import Derived.Test.YtdpiijfehkafnaaQWb
set_option maxRecDepth 100000
namespace Go.PW
open Go.RowKit
noncomputable section
noncomputable def L29_MatchInvalid_c : Code := (Go.Proofs.Try.f5.body).getD .skip
noncomputable def L29_MatchInvalid_res (r : Bool) : PV := (.t (.bool r))
noncomputable def L29_MatchInvalid_sr (r : Bool) : List (Nat × Blk) := []
noncomputable def L29_MatchInvalid_cfg : L29_MatchInvalid_S → Cfg := fun s => nomatch s
noncomputable def L29_MatchInvalid_st : L29_MatchInvalid_S → PW.St := fun s => nomatch s
abbrev L29_MatchInvalid_ok1 (r : Bool) (y : L29_MatchInvalid_S ⊕ Bool) : Prop := Ok Go.Proofs.Try.prog [.t 4] (L29_MatchInvalid_sr) L29_MatchInvalid_res L29_MatchInvalid_cfg L29_MatchInvalid_st r y
theorem L29_MatchInvalid_0_ok (r : Bool) (a0 : cardgamelaw29_Ask) (a1 : api_Filter) (y : L29_MatchInvalid_S ⊕ Bool) (h : L29_MatchInvalid_0 a0 a1 = some y) (hk : L29_MatchInvalid_ok1 r y) : (Cfg.code L29_MatchInvalid_c []).holds Go.Proofs.Try.prog (Upto (RetQ [.t 4] ((L29_MatchInvalid_sr) r) (L29_MatchInvalid_res r))) ⟨28, idx 0 [(.agg (List.map .t (c_cardgamelaw29_Ask a0))), (.agg (List.map .t (c_api_Filter a1)))], []⟩ :=
  bindE h fun x1 h2 h =>
    condE h (fun h3 h =>
      bindE h fun x4 h5 h =>
        leafRet hm hT (r' := x4) h hk 400 [.lab 1002, .lab 1003, .call (.t (.bool x1)), .br true, .br true, .br true, .br true, .call (.t (.bool x4))] (And.intro (L29_light_ok a0 a1 h2) (And.intro h3 (And.intro h3 (And.intro h3 (And.intro (Eq.refl true) (And.intro (L29_alive_ok h5) trivial)))))) (by kernel_rfl)) (fun h3 h =>
      bindE h fun x6 h7 h =>
        condE h (fun h8 h =>
          bindE h fun x9 h10 h =>
            leafRet hm hT (r' := x9) h hk 400 [.lab 1002, .lab 1003, .call (.t (.bool x1)), .br false, .br false, .call (.t (.bool x6)), .br false, .br true, .call (.t (.bool x9))] (And.intro (L29_light_ok a0 a1 h2) (And.intro h3 (And.intro h3 (And.intro (R13_Is_ok a1 h7) (And.intro h3 (And.intro h8 (And.intro (L29_alive_ok h10) trivial))))))) (by kernel_rfl)) (fun h8 h =>
          bindE h fun x11 h12 h =>
            condE h (fun h13 h =>
              bindE h fun x14 h15 h =>
                leafRet hm hT (r' := x14) h hk 400 [.lab 1002, .lab 1003, .call (.t (.bool x1)), .br false, .br false, .call (.t (.bool x6)), .br false, .br false, .call (.t (.bool x11)), .br true, .call (.t (.bool x14)), .br true] (And.intro (L29_light_ok a0 a1 h2) (And.intro h3 (And.intro h3 (And.intro (R13_Is_ok a1 h7) (And.intro h3 (And.intro h8 (And.intro (match_Object_ok a0.Object a0.Traits a0.You a0.Source a1 h12) (And.intro h13 (And.intro (L29_alive_ok h15) (And.intro h13 trivial)))))))))) (by kernel_rfl)) (fun h13 h =>
              leafRet hm hT (r' := false) h hk 400 [.lab 1002, .lab 1003, .call (.t (.bool x1)), .br false, .br false, .call (.t (.bool x6)), .br false, .br false, .call (.t (.bool x11)), .br false, .br false] (And.intro (L29_light_ok a0 a1 h2) (And.intro h3 (And.intro h3 (And.intro (R13_Is_ok a1 h7) (And.intro h3 (And.intro h8 (And.intro (match_Object_ok a0.Object a0.Traits a0.You a0.Source a1 h12) (And.intro h13 (And.intro h13 trivial))))))))) (by kernel_rfl))))
theorem L29_MatchInvalid_ok (a0 : cardgamelaw29_Ask) (a1 : api_Filter) {r : Bool} (h : L29_MatchInvalid a0 a1 = some r) : Fn Go.Proofs.Try.prog 5 [(.agg (List.map .t (c_cardgamelaw29_Ask a0))), (.agg (List.map .t (c_api_Filter a1)))] (L29_MatchInvalid_res r) :=
  bindE h fun y h0 h1 => FnG.of_cfg hT Go.Proofs.Try.func5 (by kernel_rfl : _ = some L29_MatchInvalid_c) (by kernel_rfl) 28 (by kernel_rfl) (Nat.le_of_ble_eq_true rfl) [.t 4] (by kernel_rfl) (by kernel_rfl) (L29_MatchInvalid_0_ok r a0 a1 y h0 (okEnd (fun s _ _ _ => nomatch s) h1))

end
end Go.PW
