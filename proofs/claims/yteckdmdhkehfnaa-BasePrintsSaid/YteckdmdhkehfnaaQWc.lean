import Derived.Test.YteckdmdhkehfnaaQWb
set_option maxRecDepth 100000
namespace Go.PW
open Go.RowKit
noncomputable section
noncomputable def L28_BasePrints_c : Code := (Go.Proofs.Try.f3.body).getD .skip
noncomputable def L28_BasePrints_res (r : Bool) : PV := (.t (.bool r))
noncomputable def L28_BasePrints_sr (r : Bool) : List (Nat × Blk) := []
noncomputable def L28_BasePrints_cfg : L28_BasePrints_S → Cfg := fun s => nomatch s
noncomputable def L28_BasePrints_st : L28_BasePrints_S → PW.St := fun s => nomatch s
abbrev L28_BasePrints_ok1 (r : Bool) (y : L28_BasePrints_S ⊕ Bool) : Prop := Ok Go.Proofs.Try.prog [.t 2] (L28_BasePrints_sr) L28_BasePrints_res L28_BasePrints_cfg L28_BasePrints_st r y
theorem L28_BasePrints_0_ok (r : Bool) (a0 : api_Card) (y : L28_BasePrints_S ⊕ Bool) (h : L28_BasePrints_0 a0 = some y) (hk : L28_BasePrints_ok1 r y) : (Cfg.code L28_BasePrints_c []).holds Go.Proofs.Try.prog (Upto (RetQ [.t 2] ((L28_BasePrints_sr) r) (L28_BasePrints_res r))) ⟨16, idx 0 [(.agg (List.map .t (c_api_Card a0)))], []⟩ :=
    bindE h fun x1 h2 h =>
      condE h (fun h3 h =>
        leafRet hm hT (r' := true) h hk 400 [.lab 1001, .call (.t (.bool x1)), .br true, .br true, .br true, .br true] (And.intro (L28_few_ok a0 h2) (And.intro h3 (And.intro h3 (And.intro h3 (And.intro h3 trivial))))) (by kernel_rfl)) (fun h3 h =>
        bindE h fun x4 h5 h =>
          condE h (fun h6 h =>
            bindE h fun x7 h8 h =>
              bindE h fun x9 h10 h =>
                bindE h fun x11 h12 h =>
                  leafRet hm hT (r' := x11) h hk 400 [.lab 1001, .call (.t (.bool x1)), .br false, .call (.t (.bool x4)), .br false, .br true, .br true, .call (.agg (List.map .t (c_api_Traits x7))), .br true, .br true, .call (.agg (List.map .t (c_api_Traits x9))), .br true, .call (.t (.bool x11)), .br false, .br true, .br false] (And.intro (L28_few_ok a0 h2) (And.intro h3 (And.intro (L28_alive_ok h5) (And.intro h3 (And.intro h6 (And.intro h6 (And.intro (base_Printed_ok a0 h8) (And.intro h6 (And.intro h6 (And.intro (R28_Printed_ok a0 h10) (And.intro h6 (And.intro (R28_Same_ok x7 x9 h12) (And.intro h3 (And.intro h6 (And.intro h3 trivial))))))))))))))) (by kernel_rfl)) (fun h6 h =>
            leafRet hm hT (r' := false) h hk 400 [.lab 1001, .call (.t (.bool x1)), .br false, .call (.t (.bool x4)), .br false, .br false, .br false, .br false, .br false, .br false, .br false, .br false, .br false] (And.intro (L28_few_ok a0 h2) (And.intro h3 (And.intro (L28_alive_ok h5) (And.intro h3 (And.intro h6 (And.intro h6 (And.intro h6 (And.intro h6 (And.intro h6 (And.intro h3 (And.intro h6 (And.intro h3 trivial)))))))))))) (by kernel_rfl)))
theorem L28_BasePrints_ok (a0 : api_Card) {r : Bool} (h : L28_BasePrints a0 = some r) : Fn Go.Proofs.Try.prog 3 [(.agg (List.map .t (c_api_Card a0)))] (L28_BasePrints_res r) :=
  bindE h fun y h0 h1 => FnG.of_cfg hT Go.Proofs.Try.func3 (by kernel_rfl : _ = some L28_BasePrints_c) (by kernel_rfl) 16 (by kernel_rfl) (Nat.le_of_ble_eq_true rfl) [.t 2] (by kernel_rfl) (by kernel_rfl) (L28_BasePrints_0_ok r a0 y h0 (okEnd (fun s _ _ _ => nomatch s) h1))

end
end Go.PW
