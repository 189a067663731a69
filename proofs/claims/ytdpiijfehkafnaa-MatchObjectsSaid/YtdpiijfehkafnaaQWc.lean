import Derived.Test.YtdpiijfehkafnaaQWb
set_option maxRecDepth 100000
namespace Go.PW
open Go.RowKit
noncomputable section
noncomputable def L29_MatchObjects_c : Code := (Go.Proofs.Try.f3.body).getD .skip
noncomputable def L29_MatchObjects_res (r : Bool) : PV := (.t (.bool r))
noncomputable def L29_MatchObjects_sr (r : Bool) : List (Nat × Blk) := []
noncomputable def L29_MatchObjects_cfg : L29_MatchObjects_S → Cfg := fun s => nomatch s
noncomputable def L29_MatchObjects_st : L29_MatchObjects_S → PW.St := fun s => nomatch s
abbrev L29_MatchObjects_ok1 (r : Bool) (y : L29_MatchObjects_S ⊕ Bool) : Prop := Ok Go.Proofs.Try.prog [.t 4] (L29_MatchObjects_sr) L29_MatchObjects_res L29_MatchObjects_cfg L29_MatchObjects_st r y
theorem L29_MatchObjects_0_ok (r : Bool) (a0 : cardgamelaw29_Ask) (a1 : api_Filter) (y : L29_MatchObjects_S ⊕ Bool) (h : L29_MatchObjects_0 a0 a1 = some y) (hk : L29_MatchObjects_ok1 r y) : (Cfg.code L29_MatchObjects_c []).holds Go.Proofs.Try.prog (Upto (RetQ [.t 4] ((L29_MatchObjects_sr) r) (L29_MatchObjects_res r))) ⟨34, idx 0 [(.agg (List.map .t (c_cardgamelaw29_Ask a0))), (.agg (List.map .t (c_api_Filter a1)))], []⟩ :=
  bindE h fun x1 h2 h =>
    condE h (fun h3 h =>
      bindE h fun x4 h5 h =>
        leafRet hm hT (r' := x4) h hk 400 [.lab 1002, .lab 1003, .call (.t (.bool x1)), .br true, .call (.t (.bool x4))] (And.intro (L29_light_ok a0 a1 h2) (And.intro h3 (And.intro (L29_alive_ok h5) trivial))) (by kernel_rfl)) (fun h3 h =>
        bindE h fun x6 h7 h =>
          bindE h fun x8 h9 h =>
            condE h (fun h10 h =>
              bindE h fun x11 h12 h =>
                leafRet hm hT (r' := x11) h hk 400 [.lab 1002, .lab 1003, .call (.t (.bool x1)), .br false, .call (.t (.bool x6)), .call (.t (.bool x8)), .br true, .call (.t (.bool x11)), .br true] (And.intro (L29_light_ok a0 a1 h2) (And.intro h3 (And.intro (match_Object_ok a0.Object a0.Traits a0.You a0.Source a1 h7) (And.intro (R29_Object_ok a0.Object a0.Traits a0.You a0.Source a1 h9) (And.intro h10 (And.intro (L29_alive_ok h12) (And.intro h10 trivial))))))) (by kernel_rfl)) (fun h10 h =>
              leafRet hm hT (r' := false) h hk 400 [.lab 1002, .lab 1003, .call (.t (.bool x1)), .br false, .call (.t (.bool x6)), .call (.t (.bool x8)), .br false, .br false] (And.intro (L29_light_ok a0 a1 h2) (And.intro h3 (And.intro (match_Object_ok a0.Object a0.Traits a0.You a0.Source a1 h7) (And.intro (R29_Object_ok a0.Object a0.Traits a0.You a0.Source a1 h9) (And.intro h10 (And.intro h10 trivial)))))) (by kernel_rfl)))
theorem L29_MatchObjects_ok (a0 : cardgamelaw29_Ask) (a1 : api_Filter) {r : Bool} (h : L29_MatchObjects a0 a1 = some r) : Fn Go.Proofs.Try.prog 3 [(.agg (List.map .t (c_cardgamelaw29_Ask a0))), (.agg (List.map .t (c_api_Filter a1)))] (L29_MatchObjects_res r) :=
  bindE h fun y h0 h1 => FnG.of_cfg hT Go.Proofs.Try.func3 (by kernel_rfl : _ = some L29_MatchObjects_c) (by kernel_rfl) 34 (by kernel_rfl) (Nat.le_of_ble_eq_true rfl) [.t 4] (by kernel_rfl) (by kernel_rfl) (L29_MatchObjects_0_ok r a0 a1 y h0 (okEnd (fun s _ _ _ => nomatch s) h1))

end
end Go.PW
