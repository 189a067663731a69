import Derived.Test.YteckdmdhkehfnaaQWb
set_option maxRecDepth 100000
namespace Go.PW
open Go.RowKit
noncomputable section
noncomputable def L28_BaseReads_c : Code := (Go.Proofs.Try.f4.body).getD .skip
noncomputable def L28_BaseReads_res (r : Bool) : PV := (.t (.bool r))
noncomputable def L28_BaseReads_sr (r : Bool) : List (Nat × Blk) := []
noncomputable def L28_BaseReads_cfg : L28_BaseReads_S → Cfg := fun s => nomatch s
noncomputable def L28_BaseReads_st : L28_BaseReads_S → PW.St := fun s => nomatch s
abbrev L28_BaseReads_ok1 (r : Bool) (y : L28_BaseReads_S ⊕ Bool) : Prop := Ok Go.Proofs.Try.prog [.t 4] (L28_BaseReads_sr) L28_BaseReads_res L28_BaseReads_cfg L28_BaseReads_st r y
theorem L28_BaseReads_0_ok (r : Bool) (a0 : (List api_Card)) (a1 : api_Object) (y : L28_BaseReads_S ⊕ Bool) (h : L28_BaseReads_0 a0 a1 = some y) (hk : L28_BaseReads_ok1 r y) : (Cfg.code L28_BaseReads_c []).holds Go.Proofs.Try.prog (Upto (RetQ [.t 4] ((L28_BaseReads_sr) r) (L28_BaseReads_res r))) ⟨20, idx 0 [(.t (.sl (List.map c_api_Card a0))), (.agg (List.map .t (c_api_Object a1)))], []⟩ :=
    condE h (fun h1 h =>
      leafRet hm hT (r' := true) h hk 400 [.lab 1003, .num (a0.length : Int), .br true, .br true, .br true, .br true] (And.intro (len_map c_api_Card a0) (And.intro h1 (And.intro h1 (And.intro h1 (And.intro h1 trivial))))) (by kernel_rfl)) (fun h1 h =>
      bindE h fun x2 h3 h =>
        condE h (fun h4 h =>
          bindE h fun x5 h6 h =>
            bindE h fun x7 h8 h =>
              bindE h fun x9 h10 h =>
                leafRet hm hT (r' := x9) h hk 400 [.lab 1003, .num (a0.length : Int), .br false, .call (.t (.bool x2)), .br false, .br true, .br true, .br true, .call (.agg (List.map .t (c_api_Traits x5))), .br true, .br true, .br true, .call (.agg (List.map .t (c_api_Traits x7))), .br true, .call (.t (.bool x9)), .br false, .br true, .br false] (And.intro (len_map c_api_Card a0) (And.intro h1 (And.intro (L28_alive_ok h3) (And.intro h1 (And.intro h4 (And.intro h4 (And.intro h4 (And.intro (base_Of_ok a0 a1 h6) (And.intro h4 (And.intro h4 (And.intro h4 (And.intro (R28_Of_ok a0 a1 h8) (And.intro h4 (And.intro (R28_Same_ok x5 x7 h10) (And.intro h1 (And.intro h4 (And.intro h1 trivial))))))))))))))))) (by kernel_rfl)) (fun h4 h =>
          leafRet hm hT (r' := false) h hk 400 [.lab 1003, .num (a0.length : Int), .br false, .call (.t (.bool x2)), .br false, .br false, .br false, .br false, .br false, .br false, .br false, .br false, .br false, .br false, .br false] (And.intro (len_map c_api_Card a0) (And.intro h1 (And.intro (L28_alive_ok h3) (And.intro h1 (And.intro h4 (And.intro h4 (And.intro h4 (And.intro h4 (And.intro h4 (And.intro h4 (And.intro h4 (And.intro h1 (And.intro h4 (And.intro h1 trivial)))))))))))))) (by kernel_rfl)))
theorem L28_BaseReads_ok (a0 : (List api_Card)) (a1 : api_Object) {r : Bool} (h : L28_BaseReads a0 a1 = some r) : Fn Go.Proofs.Try.prog 4 [(.t (.sl (List.map c_api_Card a0))), (.agg (List.map .t (c_api_Object a1)))] (L28_BaseReads_res r) :=
  bindE h fun y h0 h1 => FnG.of_cfg hT Go.Proofs.Try.func4 (by kernel_rfl : _ = some L28_BaseReads_c) (by kernel_rfl) 20 (by kernel_rfl) (Nat.le_of_ble_eq_true rfl) [.t 4] (by kernel_rfl) (by kernel_rfl) (L28_BaseReads_0_ok r a0 a1 y h0 (okEnd (fun s _ _ _ => nomatch s) h1))

end
end Go.PW
