import Derived.Test.YthnagpmgjlnioaaQWb
set_option maxRecDepth 100000
namespace Go.PW
open Go.RowKit
noncomputable section
noncomputable def L36_AskValid_c : Code := (Go.Proofs.Try.f3.body).getD .skip
noncomputable def L36_AskValid_res (r : Bool) : PV := (.t (.bool r))
noncomputable def L36_AskValid_sr (r : Bool) : List (Nat × Blk) := []
noncomputable def L36_AskValid_cfg : L36_AskValid_S → Cfg := fun s => nomatch s
noncomputable def L36_AskValid_st : L36_AskValid_S → PW.St := fun s => nomatch s
abbrev L36_AskValid_ok1 (r : Bool) (y : L36_AskValid_S ⊕ Bool) : Prop := Ok Go.Proofs.Try.prog [.t 4] (L36_AskValid_sr) L36_AskValid_res L36_AskValid_cfg L36_AskValid_st r y
theorem L36_AskValid_0_ok (r : Bool) (a0 : api_Choice) (a1 : (List Int)) (y : L36_AskValid_S ⊕ Bool) (h : L36_AskValid_0 a0 a1 = some y) (hk : L36_AskValid_ok1 r y) : (Cfg.code L36_AskValid_c []).holds Go.Proofs.Try.prog (Upto (RetQ [.t 4] ((L36_AskValid_sr) r) (L36_AskValid_res r))) ⟨36, idx 0 [(.agg (List.map .t (c_api_Choice a0))), (.t (.sl (List.map (cI .i64) a1)))], []⟩ :=
  bindE h fun x1 h2 h =>
    condE h (fun h3 h =>
      bindE h fun x4 h5 h =>
        leafRet hm hT (r' := x4) h hk 400 [.lab 1002, .lit, .lit, .call (.t (.bool x1)), .br true, .call (.t (.bool x4))] (And.intro (L36_light_ok [a0] [a1] h2) (And.intro h3 (And.intro (L36_alive_ok h5) trivial))) (by kernel_rfl)) (fun h3 h =>
        bindE h fun x6 h7 h =>
          bindE h fun x8 h9 h =>
            condE h (fun h10 h =>
              bindE h fun x11 h12 h =>
                bindE h fun x13 h14 h =>
                  bindE h fun x15 h16 h =>
                    condE h (fun h17 h =>
                      bindE h fun x18 h19 h =>
                        bindE h fun x20 h21 h =>
                          condE h (fun h22 h =>
                            bindE h fun x23 h24 h =>
                              leafRet hm hT (r' := x23) h hk 400 [.lab 1002, .lit, .lit, .call (.t (.bool x1)), .br false, .call (.t (.bool x6)), .call (.t (.bool x8)), .br true, .br true, .call (.t (.sl (List.map (cI .i64) x11))), .br true, .br true, .call (.t (.sl (List.map (cI .i64) x13))), .br true, .call (.t (.bool x15)), .br true, .br true, .br true, .call (.t (.bool x18)), .br true, .br true, .call (.t (.bool x20)), .br true, .br true, .br true, .call (.t (.bool x23)), .br true] (And.intro (L36_light_ok [a0] [a1] h2) (And.intro h3 (And.intro (ask_Valid_ok a0 a1 h7) (And.intro (R36_Valid_ok a0 a1 h9) (And.intro h10 (And.intro h10 (And.intro (ask_Default_ok a0 h12) (And.intro h10 (And.intro h10 (And.intro (R36_Default_ok a0 h14) (And.intro h10 (And.intro (R36_Ints_ok x11 x13 h16) (And.intro h10 (And.intro h17 (And.intro h17 (And.intro (ask_Forced_ok a0 h19) (And.intro h17 (And.intro h17 (And.intro (R36_Forced_ok a0 h21) (And.intro h17 (And.intro h17 (And.intro h22 (And.intro (L36_alive_ok h24) (And.intro h22 trivial)))))))))))))))))))))))) (by kernel_rfl)) (fun h22 h =>
                            leafRet hm hT (r' := false) h hk 400 [.lab 1002, .lit, .lit, .call (.t (.bool x1)), .br false, .call (.t (.bool x6)), .call (.t (.bool x8)), .br true, .br true, .call (.t (.sl (List.map (cI .i64) x11))), .br true, .br true, .call (.t (.sl (List.map (cI .i64) x13))), .br true, .call (.t (.bool x15)), .br true, .br true, .br true, .call (.t (.bool x18)), .br true, .br true, .call (.t (.bool x20)), .br true, .br true, .br false, .br false] (And.intro (L36_light_ok [a0] [a1] h2) (And.intro h3 (And.intro (ask_Valid_ok a0 a1 h7) (And.intro (R36_Valid_ok a0 a1 h9) (And.intro h10 (And.intro h10 (And.intro (ask_Default_ok a0 h12) (And.intro h10 (And.intro h10 (And.intro (R36_Default_ok a0 h14) (And.intro h10 (And.intro (R36_Ints_ok x11 x13 h16) (And.intro h10 (And.intro h17 (And.intro h17 (And.intro (ask_Forced_ok a0 h19) (And.intro h17 (And.intro h17 (And.intro (R36_Forced_ok a0 h21) (And.intro h17 (And.intro h17 (And.intro h22 (And.intro h22 trivial))))))))))))))))))))))) (by kernel_rfl))) (fun h17 h =>
                      leafRet hm hT (r' := false) h hk 400 [.lab 1002, .lit, .lit, .call (.t (.bool x1)), .br false, .call (.t (.bool x6)), .call (.t (.bool x8)), .br true, .br true, .call (.t (.sl (List.map (cI .i64) x11))), .br true, .br true, .call (.t (.sl (List.map (cI .i64) x13))), .br true, .call (.t (.bool x15)), .br true, .br false, .br false, .br false, .br false, .br false, .br false, .br false, .br false] (And.intro (L36_light_ok [a0] [a1] h2) (And.intro h3 (And.intro (ask_Valid_ok a0 a1 h7) (And.intro (R36_Valid_ok a0 a1 h9) (And.intro h10 (And.intro h10 (And.intro (ask_Default_ok a0 h12) (And.intro h10 (And.intro h10 (And.intro (R36_Default_ok a0 h14) (And.intro h10 (And.intro (R36_Ints_ok x11 x13 h16) (And.intro h10 (And.intro h17 (And.intro h17 (And.intro h17 (And.intro h17 (And.intro h17 (And.intro h17 (And.intro (Eq.refl false) (And.intro (Eq.refl false) trivial))))))))))))))))))))) (by kernel_rfl))) (fun h10 h =>
              leafRet hm hT (r' := false) h hk 400 [.lab 1002, .lit, .lit, .call (.t (.bool x1)), .br false, .call (.t (.bool x6)), .call (.t (.bool x8)), .br false, .br false, .br false, .br false, .br false, .br false, .br false, .br false, .br false, .br false, .br false, .br false, .br false, .br false] (And.intro (L36_light_ok [a0] [a1] h2) (And.intro h3 (And.intro (ask_Valid_ok a0 a1 h7) (And.intro (R36_Valid_ok a0 a1 h9) (And.intro h10 (And.intro h10 (And.intro h10 (And.intro h10 (And.intro h10 (And.intro h10 (And.intro (Eq.refl false) (And.intro (Eq.refl false) (And.intro (Eq.refl false) (And.intro (Eq.refl false) (And.intro (Eq.refl false) (And.intro (Eq.refl false) (And.intro (Eq.refl false) (And.intro (Eq.refl false) trivial)))))))))))))))))) (by kernel_rfl)))
theorem L36_AskValid_ok (a0 : api_Choice) (a1 : (List Int)) {r : Bool} (h : L36_AskValid a0 a1 = some r) : Fn Go.Proofs.Try.prog 3 [(.agg (List.map .t (c_api_Choice a0))), (.t (.sl (List.map (cI .i64) a1)))] (L36_AskValid_res r) :=
  bindE h fun y h0 h1 => FnG.of_cfg hT Go.Proofs.Try.func3 (by kernel_rfl : _ = some L36_AskValid_c) (by kernel_rfl) 36 (by kernel_rfl) (Nat.le_of_ble_eq_true rfl) [.t 4] (by kernel_rfl) (by kernel_rfl) (L36_AskValid_0_ok r a0 a1 y h0 (okEnd (fun s _ _ _ => nomatch s) h1))

end
end Go.PW
