import Derived.Test.YthnagpmgjlnioaaQWd
set_option maxRecDepth 100000
namespace Go.PW
open Go.RowKit
noncomputable section
noncomputable def __ask_Asker__Pending__nilp_c : Code := (Go.Proofs.Try.f22.body).getD .skip
noncomputable def __ask_Asker__Pending__nilp_res (r : (api_Choice × Bool)) : PV := (.tup [(.agg (List.map .t (c_api_Choice r.1))), (.t (.bool r.2))])
noncomputable def __ask_Asker__Pending__nilp_sr (r : (api_Choice × Bool)) : List (Nat × Blk) := []
noncomputable def __ask_Asker__Pending__nilp_cfg : __ask_Asker__Pending__nilp_S → Cfg := fun s => nomatch s
noncomputable def __ask_Asker__Pending__nilp_st : __ask_Asker__Pending__nilp_S → PW.St := fun s => nomatch s
abbrev __ask_Asker__Pending__nilp_ok1 (r : (api_Choice × Bool)) (y : __ask_Asker__Pending__nilp_S ⊕ (api_Choice × Bool)) : Prop := Ok Go.Proofs.Try.prog [.c 2 24 true 7, .t 3] (__ask_Asker__Pending__nilp_sr) __ask_Asker__Pending__nilp_res __ask_Asker__Pending__nilp_cfg __ask_Asker__Pending__nilp_st r y
theorem __ask_Asker__Pending__nilp_0_ok (r : (api_Choice × Bool)) (y : __ask_Asker__Pending__nilp_S ⊕ (api_Choice × Bool)) (h : __ask_Asker__Pending__nilp_0 = some y) (hk : __ask_Asker__Pending__nilp_ok1 r y) : (Cfg.code __ask_Asker__Pending__nilp_c []).holds Go.Proofs.Try.prog (Upto (RetQ [.c 2 24 true 7, .t 3] ((__ask_Asker__Pending__nilp_sr) r) (__ask_Asker__Pending__nilp_res r))) ⟨24, idx 0 [(.t (.con (.pointer none)))], []⟩ :=
  leafRet hm hT (r' := ((⟨0, 0, 0, 0, 0, 0, ([] : (List api_Option))⟩ : api_Choice), false)) h hk 400 [.lab 1002, .br true, .br true, .br true, .br true, .br true, .br true, .br true] (And.intro (Eq.refl true) (And.intro (Eq.refl true) (And.intro (Eq.refl true) (And.intro (Eq.refl true) (And.intro (Eq.refl true) (And.intro (Eq.refl true) (And.intro (Eq.refl true) trivial))))))) (by kernel_rfl)
theorem __ask_Asker__Pending__nilp_ok {r : (api_Choice × Bool)} (h : __ask_Asker__Pending__nilp = some r) : Fn Go.Proofs.Try.prog 22 [(.t (.con (.pointer none)))] (__ask_Asker__Pending__nilp_res r) :=
  bindE h fun y h0 h1 => FnG.of_cfg hT Go.Proofs.Try.func22 (by kernel_rfl : _ = some __ask_Asker__Pending__nilp_c) (by kernel_rfl) 24 (by kernel_rfl) (Nat.le_of_ble_eq_true rfl) [.c 2 24 true 7, .t 3] (by kernel_rfl) (by kernel_rfl) (__ask_Asker__Pending__nilp_0_ok r y h0 (okEnd (fun s _ _ _ => nomatch s) h1))
noncomputable def __ask_Asker__Pick__nilp_c : Code := (Go.Proofs.Try.f20.body).getD .skip
noncomputable def __ask_Asker__Pick__nilp_res (r : (List Int)) : PV := (.osl 5000 (List.map (cI .i64) r).length)
noncomputable def __ask_Asker__Pick__nilp_sr (r : (List Int)) : List (Nat × Blk) := [(5000, .row 1 (List.map (cI .i64) r))]
noncomputable def __ask_Asker__Pick__nilp_cfg : __ask_Asker__Pick__nilp_S → Cfg := fun s => nomatch s
noncomputable def __ask_Asker__Pick__nilp_st : __ask_Asker__Pick__nilp_S → PW.St := fun s => nomatch s
abbrev __ask_Asker__Pick__nilp_ok1 (r : (List Int)) (y : __ask_Asker__Pick__nilp_S ⊕ (List Int)) : Prop := Ok Go.Proofs.Try.prog [.t 4] (__ask_Asker__Pick__nilp_sr) __ask_Asker__Pick__nilp_res __ask_Asker__Pick__nilp_cfg __ask_Asker__Pick__nilp_st r y
theorem __ask_Asker__Pick__nilp_0_ok (r : (List Int)) (a1 : api_Choice) (y : __ask_Asker__Pick__nilp_S ⊕ (List Int)) (h : __ask_Asker__Pick__nilp_0 a1 = some y) (hk : __ask_Asker__Pick__nilp_ok1 r y) : (Cfg.code __ask_Asker__Pick__nilp_c []).holds Go.Proofs.Try.prog (Upto (RetQ [.t 4] ((__ask_Asker__Pick__nilp_sr) r) (__ask_Asker__Pick__nilp_res r))) ⟨77, idx 0 [(.t (.con (.pointer none))), (.agg (List.map .t (c_api_Choice a1)))], []⟩ :=
  bindE h fun x1 h2 h =>
    leafRetO hm hT (r' := x1) h hk 400 [.lab 1003, .br true, .br true, .br true, .br true, .br true, .br true, .br true, .br true, .br true, .br true, .br true, .br true, .br true, .br true, .callO false [] 260000 [(5000, .row 1 (List.map (cI .i64) x1))] (.osl 5000 (List.map (cI .i64) x1).length), .relab 265000 5000] [5000] (And.intro (Eq.refl true) (And.intro (Eq.refl true) (And.intro (Eq.refl true) (And.intro (Eq.refl true) (And.intro (Eq.refl true) (And.intro (Eq.refl true) (And.intro (Eq.refl true) (And.intro (Eq.refl true) (And.intro (Eq.refl true) (And.intro (Eq.refl true) (And.intro (Eq.refl true) (And.intro (Eq.refl true) (And.intro (Eq.refl true) (And.intro (Eq.refl true) (And.intro (ask_Default_okO a1 h2) trivial))))))))))))))) (by kernel_rfl)
theorem __ask_Asker__Pick__nilp_okO (a1 : api_Choice) {r : (List Int)} (h : __ask_Asker__Pick__nilp a1 = some r) : FnG Go.Proofs.Try.prog 20 [] [(.t (.con (.pointer none))), (.agg (List.map .t (c_api_Choice a1)))] ((__ask_Asker__Pick__nilp_sr) r) (__ask_Asker__Pick__nilp_res r) :=
  bindE h fun y h0 h1 => FnG.of_cfg hT Go.Proofs.Try.func20 (by kernel_rfl : _ = some __ask_Asker__Pick__nilp_c) (by kernel_rfl) 77 (by kernel_rfl) (Nat.le_of_ble_eq_true rfl) [.t 4] (by kernel_rfl) (by kernel_rfl) (__ask_Asker__Pick__nilp_0_ok r a1 y h0 (okEnd (fun s _ _ _ => nomatch s) h1))
theorem __ask_Asker__Pick__nilp_ok (a1 : api_Choice) {r : (List Int)} (h : __ask_Asker__Pick__nilp a1 = some r) : Fn Go.Proofs.Try.prog 20 [(.t (.con (.pointer none))), (.agg (List.map .t (c_api_Choice a1)))] (.t (.sl (List.map (cI .i64) r))) :=
  FnG.frozen (__ask_Asker__Pick__nilp_okO a1 h) (And.intro (Eq.refl (List.map (cI .i64) r).length) trivial) (by kernel_rfl)
noncomputable def __ask_Asker__Bad__nilp_c : Code := (Go.Proofs.Try.f25.body).getD .skip
noncomputable def __ask_Asker__Bad__nilp_res (r : Bool) : PV := (.t (.bool r))
noncomputable def __ask_Asker__Bad__nilp_sr (r : Bool) : List (Nat × Blk) := []
noncomputable def __ask_Asker__Bad__nilp_cfg : __ask_Asker__Bad__nilp_S → Cfg := fun s => nomatch s
noncomputable def __ask_Asker__Bad__nilp_st : __ask_Asker__Bad__nilp_S → PW.St := fun s => nomatch s
abbrev __ask_Asker__Bad__nilp_ok1 (r : Bool) (y : __ask_Asker__Bad__nilp_S ⊕ Bool) : Prop := Ok Go.Proofs.Try.prog [.t 2] (__ask_Asker__Bad__nilp_sr) __ask_Asker__Bad__nilp_res __ask_Asker__Bad__nilp_cfg __ask_Asker__Bad__nilp_st r y
theorem __ask_Asker__Bad__nilp_0_ok (r : Bool) (y : __ask_Asker__Bad__nilp_S ⊕ Bool) (h : __ask_Asker__Bad__nilp_0 = some y) (hk : __ask_Asker__Bad__nilp_ok1 r y) : (Cfg.code __ask_Asker__Bad__nilp_c []).holds Go.Proofs.Try.prog (Upto (RetQ [.t 2] ((__ask_Asker__Bad__nilp_sr) r) (__ask_Asker__Bad__nilp_res r))) ⟨11, idx 0 [(.t (.con (.pointer none)))], []⟩ :=
  leafRet hm hT (r' := false) h hk 400 [.br false, .br false, .br false, .br false, .br false] (And.intro (Eq.refl false) (And.intro (Eq.refl false) (And.intro (Eq.refl false) (And.intro (Eq.refl false) (And.intro (Eq.refl false) trivial))))) (by kernel_rfl)
theorem __ask_Asker__Bad__nilp_ok {r : Bool} (h : __ask_Asker__Bad__nilp = some r) : Fn Go.Proofs.Try.prog 25 [(.t (.con (.pointer none)))] (__ask_Asker__Bad__nilp_res r) :=
  bindE h fun y h0 h1 => FnG.of_cfg hT Go.Proofs.Try.func25 (by kernel_rfl : _ = some __ask_Asker__Bad__nilp_c) (by kernel_rfl) 11 (by kernel_rfl) (Nat.le_of_ble_eq_true rfl) [.t 2] (by kernel_rfl) (by kernel_rfl) (__ask_Asker__Bad__nilp_0_ok r y h0 (okEnd (fun s _ _ _ => nomatch s) h1))
noncomputable def __ask_Asker__Used__nilp_c : Code := (Go.Proofs.Try.f27.body).getD .skip
noncomputable def __ask_Asker__Used__nilp_res (r : Int) : PV := (.t (.int .i64 r))
noncomputable def __ask_Asker__Used__nilp_sr (r : Int) : List (Nat × Blk) := []
noncomputable def __ask_Asker__Used__nilp_cfg : __ask_Asker__Used__nilp_S → Cfg := fun s => nomatch s
noncomputable def __ask_Asker__Used__nilp_st : __ask_Asker__Used__nilp_S → PW.St := fun s => nomatch s
abbrev __ask_Asker__Used__nilp_ok1 (r : Int) (y : __ask_Asker__Used__nilp_S ⊕ Int) : Prop := Ok Go.Proofs.Try.prog [.t 2] (__ask_Asker__Used__nilp_sr) __ask_Asker__Used__nilp_res __ask_Asker__Used__nilp_cfg __ask_Asker__Used__nilp_st r y
theorem __ask_Asker__Used__nilp_0_ok (r : Int) (y : __ask_Asker__Used__nilp_S ⊕ Int) (h : __ask_Asker__Used__nilp_0 = some y) (hk : __ask_Asker__Used__nilp_ok1 r y) : (Cfg.code __ask_Asker__Used__nilp_c []).holds Go.Proofs.Try.prog (Upto (RetQ [.t 2] ((__ask_Asker__Used__nilp_sr) r) (__ask_Asker__Used__nilp_res r))) ⟨9, idx 0 [(.t (.con (.pointer none)))], []⟩ :=
  leafRet hm hT (r' := 0) h hk 400 [.br true] (And.intro (Eq.refl true) trivial) (by kernel_rfl)
theorem __ask_Asker__Used__nilp_ok {r : Int} (h : __ask_Asker__Used__nilp = some r) : Fn Go.Proofs.Try.prog 27 [(.t (.con (.pointer none)))] (__ask_Asker__Used__nilp_res r) :=
  bindE h fun y h0 h1 => FnG.of_cfg hT Go.Proofs.Try.func27 (by kernel_rfl : _ = some __ask_Asker__Used__nilp_c) (by kernel_rfl) 9 (by kernel_rfl) (Nat.le_of_ble_eq_true rfl) [.t 2] (by kernel_rfl) (by kernel_rfl) (__ask_Asker__Used__nilp_0_ok r y h0 (okEnd (fun s _ _ _ => nomatch s) h1))

end
end Go.PW
