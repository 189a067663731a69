import Derived.Test.YthcjjlopamfpfaaQT
import Derived.Test.YthcjjlopamfpfaaQD
namespace Go.PW
open Go.RowKit
set_option maxRecDepth 100000
noncomputable section
def R05_Same_c : Code := (Go.Proofs.Try.f11.body).getD .skip
def R05_Same_res (r : Bool) : PV := (.t (.bool r))
def R05_Same_cfg : R05_Same_S → Cfg
  | .L0 _ _ _ => (nav [1, 1, 0, 1, 4] R05_Same_c []).getD (.done .normal)
def R05_Same_st : R05_Same_S → PW.St
  | .L0 v0 v1 v5 => ⟨26, [(0, (.t (.sl (List.map (cI .u8) v0)))), (1, (.t (.sl (List.map (cI .u8) v1)))), (5, (.t (.int .i64 v5)))], []⟩
abbrev R05_Same_ok1 (r : Bool) (y : R05_Same_S ⊕ Bool) : Prop := Ok Go.Proofs.Try.prog [4] R05_Same_res R05_Same_cfg R05_Same_st r y
theorem R05_Same_L0_ok (r : Bool) (v0 : (List Int)) (v1 : (List Int)) (v5 : Int) (y : R05_Same_S ⊕ Bool) (h : R05_Same_L0 v0 v1 v5 = some y) (hk : R05_Same_ok1 r y) : (R05_Same_cfg (.L0 v0 v1 v5)).holds Go.Proofs.Try.prog (Upto (RetQ [4] [] (R05_Same_res r))) (R05_Same_st (.L0 v0 v1 v5)) :=
  condE h (fun h2 h =>
    bindE h fun x3 h4 h =>
      bindE h fun x5 h6 h =>
        condE h (fun h7 h =>
          leafRet hm hT (r' := false) h hk 400 [.num (v0.length : Int), .br true, .cs ((cI .u8) x3), .cs ((cI .u8) x5), .br true] (And.intro (len_map (cI .u8) v0) (And.intro h2 (And.intro (all_map (cI .u8) 1 (fun _ => rfl) v0) (And.intro (idx_nn h4) (And.intro (idx_map (cI .u8) h4) (And.intro (all_map (cI .u8) 1 (fun _ => rfl) v1) (And.intro (idx_nn h6) (And.intro (idx_map (cI .u8) h6) (And.intro h7 trivial))))))))) (by kernel_rfl)) (fun h7 h =>
          leafGo hm hT (s' := R05_Same_S.L0 v0 v1 (IntKind.wrap .i64 (v5 + 1))) h hk 400 [.num (v0.length : Int), .br true, .cs ((cI .u8) x3), .cs ((cI .u8) x5), .br false, .pick [0, 1, 5] []] (And.intro (len_map (cI .u8) v0) (And.intro h2 (And.intro (all_map (cI .u8) 1 (fun _ => rfl) v0) (And.intro (idx_nn h4) (And.intro (idx_map (cI .u8) h4) (And.intro (all_map (cI .u8) 1 (fun _ => rfl) v1) (And.intro (idx_nn h6) (And.intro (idx_map (cI .u8) h6) (And.intro h7 trivial))))))))) (by kernel_rfl))) (fun h2 h =>
    leafRet hm hT (r' := true) h hk 400 [.num (v0.length : Int), .br false] (And.intro (len_map (cI .u8) v0) (And.intro h2 trivial)) (by kernel_rfl))
theorem R05_Same_0_ok (r : Bool) (a0 : (List Int)) (a1 : (List Int)) (y : R05_Same_S ⊕ Bool) (h : R05_Same_0 a0 a1 = some y) (hk : R05_Same_ok1 r y) : (Cfg.code R05_Same_c []).holds Go.Proofs.Try.prog (Upto (RetQ [4] [] (R05_Same_res r))) ⟨26, idx 0 [(.t (.sl (List.map (cI .u8) a0))), (.t (.sl (List.map (cI .u8) a1)))], []⟩ :=
  condE h (fun h1 h =>
    leafRet hm hT (r' := false) h hk 400 [.num (a0.length : Int), .num (a1.length : Int), .br true] (And.intro (len_map (cI .u8) a0) (And.intro (len_map (cI .u8) a1) (And.intro h1 trivial))) (by kernel_rfl)) (fun h1 h =>
    leafGo hm hT (s' := R05_Same_S.L0 a0 a1 0) h hk 400 [.num (a0.length : Int), .num (a1.length : Int), .br false, .pick [0, 1, 5] []] (And.intro (len_map (cI .u8) a0) (And.intro (len_map (cI .u8) a1) (And.intro h1 trivial))) (by kernel_rfl))
theorem R05_Same_ok (a0 : (List Int)) (a1 : (List Int)) {r : Bool} (h : R05_Same a0 a1 = some r) : Fn Go.Proofs.Try.prog 11 [(.t (.sl (List.map (cI .u8) a0))), (.t (.sl (List.map (cI .u8) a1)))] (R05_Same_res r) :=
  bindE h fun y h0 h1 => Fn.of_cfg Go.Proofs.Try.func11 (by kernel_rfl : _ = some R05_Same_c) (by kernel_rfl) 26 (by kernel_rfl) (Nat.le_of_ble_eq_true rfl) [4] (by kernel_rfl) (R05_Same_0_ok r a0 a1 y h0 (okEnd (fun s y h hk => match s with
    | .L0 v0 v1 v5 => R05_Same_L0_ok r v0 v1 v5 y h hk) h1))
def sum_Of_c : Code := (Go.Proofs.Try.f9.body).getD .skip
def sum_Of_res (r : Int) : PV := (.t (.int .u32 r))
def sum_Of_cfg : sum_Of_S → Cfg
  | .L0 _ _ _ _ => (nav [1, 1, 0, 1, 4] sum_Of_c []).getD (.done .normal)
  | .L1 _ _ _ _ _ _ => (nav [1, 1, 0, 1, 4, 5, 1, 1, 0, 4, 1, 1, 4] sum_Of_c []).getD (.done .normal)
def sum_Of_st : sum_Of_S → PW.St
  | .L0 v3 v8 v9 v10 => ⟨34, [(3, (.t (.int .u32 v3))), (8, (.t (.sl (List.map (cI .u8) v8)))), (9, (.t (.int .i64 v9))), (10, (.t (.int .i64 v10)))], []⟩
  | .L1 v3 v5 v8 v9 v10 v14 => ⟨34, [(3, (.t (.int .u32 v3))), (5, (.t (.int .u8 v5))), (8, (.t (.sl (List.map (cI .u8) v8)))), (9, (.t (.int .i64 v9))), (10, (.t (.int .i64 v10))), (14, (.t (.int .i64 v14)))], []⟩
abbrev sum_Of_ok1 (r : Int) (y : sum_Of_S ⊕ Int) : Prop := Ok Go.Proofs.Try.prog [2] sum_Of_res sum_Of_cfg sum_Of_st r y
theorem sum_Of_L0_ok (r : Int) (v3 : Int) (v8 : (List Int)) (v9 : Int) (v10 : Int) (y : sum_Of_S ⊕ Int) (h : sum_Of_L0 v3 v8 v9 v10 = some y) (hk : sum_Of_ok1 r y) : (sum_Of_cfg (.L0 v3 v8 v9 v10)).holds Go.Proofs.Try.prog (Upto (RetQ [2] [] (sum_Of_res r))) (sum_Of_st (.L0 v3 v8 v9 v10)) :=
  condE h (fun h1 h =>
    bindE h fun x2 h3 h =>
      leafGo hm hT (s' := sum_Of_S.L1 v3 x2 v8 v9 v10 0) h hk 400 [.br true, .cs ((cI .u8) x2), .pick [3, 5, 8, 9, 10, 14] []] (And.intro h1 (And.intro (all_map (cI .u8) 1 (fun _ => rfl) v8) (And.intro (idx_nn h3) (And.intro (idx_map (cI .u8) h3) trivial)))) (by kernel_rfl)) (fun h1 h =>
    leafRet hm hT (r' := comI .u32 v3) h hk 400 [.br false] (And.intro h1 trivial) (by kernel_rfl))
theorem sum_Of_L1_ok (r : Int) (v3 : Int) (v5 : Int) (v8 : (List Int)) (v9 : Int) (v10 : Int) (v14 : Int) (y : sum_Of_S ⊕ Int) (h : sum_Of_L1 v3 v5 v8 v9 v10 v14 = some y) (hk : sum_Of_ok1 r y) : (sum_Of_cfg (.L1 v3 v5 v8 v9 v10 v14)).holds Go.Proofs.Try.prog (Upto (RetQ [2] [] (sum_Of_res r))) (sum_Of_st (.L1 v3 v5 v8 v9 v10 v14)) :=
  condE h (fun h4 h =>
    bindE h fun x5 h6 h =>
      condE h (fun h7 h =>
        leafGo hm hT (s' := sum_Of_S.L1 (bitOp .xor .u32 (shrI .u32 v3 1) 3988292384) v5 v8 v9 v10 (IntKind.wrap .i64 (v14 + 1))) h hk 400 [.br true, .br true, .pick [3, 5, 8, 9, 10, 14] []] (And.intro h4 (And.intro (ok_prop h6) (And.intro (show ¬ (1 : Int) < 0 by decide) (And.intro h7 trivial)))) (by kernel_rfl)) (fun h7 h =>
        leafGo hm hT (s' := sum_Of_S.L1 (shrI .u32 v3 1) v5 v8 v9 v10 (IntKind.wrap .i64 (v14 + 1))) h hk 400 [.br true, .br false, .pick [3, 5, 8, 9, 10, 14] []] (And.intro h4 (And.intro (ok_prop h6) (And.intro (show ¬ (1 : Int) < 0 by decide) (And.intro h7 trivial)))) (by kernel_rfl))) (fun h4 h =>
    leafGo hm hT (s' := sum_Of_S.L0 v3 v8 v9 (IntKind.wrap .i64 (v10 + 1))) h hk 400 [.br false, .pick [3, 8, 9, 10] []] (And.intro h4 trivial) (by kernel_rfl))
theorem sum_Of_0_ok (r : Int) (a0 : (List Int)) (y : sum_Of_S ⊕ Int) (h : sum_Of_0 a0 = some y) (hk : sum_Of_ok1 r y) : (Cfg.code sum_Of_c []).holds Go.Proofs.Try.prog (Upto (RetQ [2] [] (sum_Of_res r))) ⟨34, idx 0 [(.t (.sl (List.map (cI .u8) a0)))], []⟩ :=
  leafGo hm hT (s' := sum_Of_S.L0 4294967295 a0 (a0.length : Int) 0) h hk 400 [.num (a0.length : Int), .pick [3, 8, 9, 10] []] (And.intro (len_map (cI .u8) a0) trivial) (by kernel_rfl)
theorem sum_Of_ok (a0 : (List Int)) {r : Int} (h : sum_Of a0 = some r) : Fn Go.Proofs.Try.prog 9 [(.t (.sl (List.map (cI .u8) a0)))] (sum_Of_res r) :=
  bindE h fun y h0 h1 => Fn.of_cfg Go.Proofs.Try.func9 (by kernel_rfl : _ = some sum_Of_c) (by kernel_rfl) 34 (by kernel_rfl) (Nat.le_of_ble_eq_true rfl) [2] (by kernel_rfl) (sum_Of_0_ok r a0 y h0 (okEnd (fun s y h hk => match s with
    | .L0 v3 v8 v9 v10 => sum_Of_L0_ok r v3 v8 v9 v10 y h hk
    | .L1 v3 v5 v8 v9 v10 v14 => sum_Of_L1_ok r v3 v5 v8 v9 v10 v14 y h hk) h1))
def R05_Of_c : Code := (Go.Proofs.Try.f10.body).getD .skip
def R05_Of_res (r : Int) : PV := (.t (.int .u32 r))
def R05_Of_cfg : R05_Of_S → Cfg
  | .L0 _ _ _ => (nav [1, 1, 0, 1, 4] R05_Of_c []).getD (.done .normal)
  | .L1 _ _ _ _ _ => (nav [1, 1, 0, 1, 4, 5, 1, 0, 4, 1, 1, 4] R05_Of_c []).getD (.done .normal)
def R05_Of_st : R05_Of_S → PW.St
  | .L0 v0 v3 v4 => ⟨37, [(0, (.t (.sl (List.map (cI .u8) v0)))), (3, (.t (.int .u32 v3))), (4, (.t (.int .i64 v4)))], []⟩
  | .L1 v0 v3 v4 v5 v6 => ⟨37, [(0, (.t (.sl (List.map (cI .u8) v0)))), (3, (.t (.int .u32 v3))), (4, (.t (.int .i64 v4))), (5, (.t (.int .u32 v5))), (6, (.t (.int .i64 v6)))], []⟩
abbrev R05_Of_ok1 (r : Int) (y : R05_Of_S ⊕ Int) : Prop := Ok Go.Proofs.Try.prog [2] R05_Of_res R05_Of_cfg R05_Of_st r y
theorem R05_Of_L0_ok (r : Int) (v0 : (List Int)) (v3 : Int) (v4 : Int) (y : R05_Of_S ⊕ Int) (h : R05_Of_L0 v0 v3 v4 = some y) (hk : R05_Of_ok1 r y) : (R05_Of_cfg (.L0 v0 v3 v4)).holds Go.Proofs.Try.prog (Upto (RetQ [2] [] (R05_Of_res r))) (R05_Of_st (.L0 v0 v3 v4)) :=
  condE h (fun h1 h =>
    bindE h fun x2 h3 h =>
      leafGo hm hT (s' := R05_Of_S.L1 v0 v3 v4 (IntKind.wrap .u32 x2) 0) h hk 400 [.num (v0.length : Int), .br true, .cs ((cI .u8) x2), .pick [0, 3, 4, 5, 6] []] (And.intro (len_map (cI .u8) v0) (And.intro h1 (And.intro (all_map (cI .u8) 1 (fun _ => rfl) v0) (And.intro (idx_nn h3) (And.intro (idx_map (cI .u8) h3) trivial))))) (by kernel_rfl)) (fun h1 h =>
    leafRet hm hT (r' := IntKind.wrap .u32 (4294967295 - v3)) h hk 400 [.num (v0.length : Int), .br false] (And.intro (len_map (cI .u8) v0) (And.intro h1 trivial)) (by kernel_rfl))
theorem R05_Of_L1_ok (r : Int) (v0 : (List Int)) (v3 : Int) (v4 : Int) (v5 : Int) (v6 : Int) (y : R05_Of_S ⊕ Int) (h : R05_Of_L1 v0 v3 v4 v5 v6 = some y) (hk : R05_Of_ok1 r y) : (R05_Of_cfg (.L1 v0 v3 v4 v5 v6)).holds Go.Proofs.Try.prog (Upto (RetQ [2] [] (R05_Of_res r))) (R05_Of_st (.L1 v0 v3 v4 v5 v6)) :=
  condE h (fun h4 h =>
    condE h (fun h5 h =>
      leafGo hm hT (s' := R05_Of_S.L1 v0 (bitOp .xor .u32 (quoI .u32 v3 2) 3988292384) v4 (quoI .u32 v5 2) (IntKind.wrap .i64 (v6 + 1))) h hk 400 [.br true, .br true, .pick [0, 3, 4, 5, 6] []] (And.intro h4 (And.intro (show (2 : Int) ≠ 0 by decide) (And.intro (show (2 : Int) ≠ 0 by decide) (And.intro (show (2 : Int) ≠ 0 by decide) (And.intro h5 (And.intro (show (2 : Int) ≠ 0 by decide) trivial)))))) (by kernel_rfl)) (fun h5 h =>
      leafGo hm hT (s' := R05_Of_S.L1 v0 (quoI .u32 v3 2) v4 (quoI .u32 v5 2) (IntKind.wrap .i64 (v6 + 1))) h hk 400 [.br true, .br false, .pick [0, 3, 4, 5, 6] []] (And.intro h4 (And.intro (show (2 : Int) ≠ 0 by decide) (And.intro (show (2 : Int) ≠ 0 by decide) (And.intro (show (2 : Int) ≠ 0 by decide) (And.intro h5 (And.intro (show (2 : Int) ≠ 0 by decide) trivial)))))) (by kernel_rfl))) (fun h4 h =>
    leafGo hm hT (s' := R05_Of_S.L0 v0 v3 (IntKind.wrap .i64 (v4 + 1))) h hk 400 [.br false, .pick [0, 3, 4] []] (And.intro h4 trivial) (by kernel_rfl))
theorem R05_Of_0_ok (r : Int) (a0 : (List Int)) (y : R05_Of_S ⊕ Int) (h : R05_Of_0 a0 = some y) (hk : R05_Of_ok1 r y) : (Cfg.code R05_Of_c []).holds Go.Proofs.Try.prog (Upto (RetQ [2] [] (R05_Of_res r))) ⟨37, idx 0 [(.t (.sl (List.map (cI .u8) a0)))], []⟩ :=
  leafGo hm hT (s' := R05_Of_S.L0 a0 4294967295 0) h hk 400 [.pick [0, 3, 4] []] trivial (by kernel_rfl)
theorem R05_Of_ok (a0 : (List Int)) {r : Int} (h : R05_Of a0 = some r) : Fn Go.Proofs.Try.prog 10 [(.t (.sl (List.map (cI .u8) a0)))] (R05_Of_res r) :=
  bindE h fun y h0 h1 => Fn.of_cfg Go.Proofs.Try.func10 (by kernel_rfl : _ = some R05_Of_c) (by kernel_rfl) 37 (by kernel_rfl) (Nat.le_of_ble_eq_true rfl) [2] (by kernel_rfl) (R05_Of_0_ok r a0 y h0 (okEnd (fun s y h hk => match s with
    | .L0 v0 v3 v4 => R05_Of_L0_ok r v0 v3 v4 y h hk
    | .L1 v0 v3 v4 v5 v6 => R05_Of_L1_ok r v0 v3 v4 v5 v6 y h hk) h1))
def sum_Seal_c : Code := (Go.Proofs.Try.f12.body).getD .skip
def sum_Seal_res (r : (List Int)) : PV := (.t (.sl (List.map (cI .u8) r)))
def sum_Seal_cfg : sum_Seal_S → Cfg
  | .L0 _ _ _ => (nav [1, 1, 1, 0, 1, 4] sum_Seal_c []).getD (.done .normal)
def sum_Seal_st : sum_Seal_S → PW.St
  | .L0 v3 v4 v5 => ⟨30, [(3, (.osl 1011 (List.map (cI .u8) v3).length)), (4, (.t (.int .i64 v4))), (5, (.t (.int .u32 v5)))], [(1011, .row 1 (List.map (cI .u8) v3))]⟩
abbrev sum_Seal_ok1 (r : (List Int)) (y : sum_Seal_S ⊕ (List Int)) : Prop := Ok Go.Proofs.Try.prog [2] sum_Seal_res sum_Seal_cfg sum_Seal_st r y
theorem sum_Seal_L0_ok (r : (List Int)) (v3 : (List Int)) (v4 : Int) (v5 : Int) (y : sum_Seal_S ⊕ (List Int)) (h : sum_Seal_L0 v3 v4 v5 = some y) (hk : sum_Seal_ok1 r y) : (sum_Seal_cfg (.L0 v3 v4 v5)).holds Go.Proofs.Try.prog (Upto (RetQ [2] [] (sum_Seal_res r))) (sum_Seal_st (.L0 v3 v4 v5)) :=
  condE h (fun h7 h =>
    bindE h fun x8 h9 h =>
      bindE h fun x10 h11 h =>
        leafGo hm hT (s' := sum_Seal_S.L0 x10 (IntKind.wrap .i64 (v4 + 1)) v5) h hk 400 [.br true, .lit, .es (List.map (cI .u8) x10), .pick [3, 4, 5] [1011]] (And.intro h7 (And.intro (ok_prop h9) (And.intro (Eq.refl (List.map (cI .u8) v3).length) (And.intro (app_map (cI .u8) h11) (And.intro (all_map (cI .u8) 1 (fun _ => rfl) [IntKind.wrap .u8 (shrI .u32 v5 (IntKind.wrap .i64 (8 * v4)))]) (And.intro (app_len (cI .u8) h11) (And.intro (app_bytes (cI .u8) h11) trivial))))))) (by kernel_rfl)) (fun h7 h =>
    leafRet hm hT (r' := v3) h hk 400 [.br false] (And.intro h7 (And.intro (Eq.refl (List.map (cI .u8) v3).length) trivial)) (by kernel_rfl))
theorem sum_Seal_0_ok (r : (List Int)) (a0 : (List Int)) (y : sum_Seal_S ⊕ (List Int)) (h : sum_Seal_0 a0 = some y) (hk : sum_Seal_ok1 r y) : (Cfg.code sum_Seal_c []).holds Go.Proofs.Try.prog (Upto (RetQ [2] [] (sum_Seal_res r))) ⟨30, idx 0 [(.t (.sl (List.map (cI .u8) a0)))], []⟩ :=
  bindE h fun x1 h2 h =>
    bindE h fun x3 h4 h =>
      bindE h fun x5 h6 h =>
        leafGo hm hT (s' := sum_Seal_S.L0 x3 0 x5) h hk 400 [.num (a0.length : Int), .num (a0.length : Int), .lab 1011, .nat (List.map (cI .u8) x1).length, .es (List.map (cI .u8) x1), .num (a0.length : Int), .es (List.map (cI .u8) x3), .ahead 15, .relen 1011, .call (.t (.int .u32 x5)), .pick [3, 4, 5] [1011]] (And.intro (len_map (cI .u8) a0) (And.intro (len_map (cI .u8) a0) (And.intro (make_facts h2).1 (And.intro (make_facts h2).2.1 (And.intro (make_facts h2).2.2.1 (And.intro (make_facts h2).2.2.2 (And.intro (make_len (cI .u8) h2) (And.intro (make_map (cI .u8) h2) (And.intro (Eq.refl (List.map (cI .u8) x1).length) (And.intro (len_map (cI .u8) a0) (And.intro (copy_le (cI .u8) h4) (And.intro (all_map (cI .u8) 1 (fun _ => rfl) a0) (And.intro (copy_map (cI .u8) h4) (And.intro (copy_len (cI .u8) h4) (And.intro (copy_len (cI .u8) h4) (And.intro (copy_len (cI .u8) h4) (And.intro (sum_Of_ok a0 h6) trivial))))))))))))))))) (by kernel_rfl)
theorem sum_Seal_ok (a0 : (List Int)) {r : (List Int)} (h : sum_Seal a0 = some r) : Fn Go.Proofs.Try.prog 12 [(.t (.sl (List.map (cI .u8) a0)))] (sum_Seal_res r) :=
  bindE h fun y h0 h1 => Fn.of_cfg Go.Proofs.Try.func12 (by kernel_rfl : _ = some sum_Seal_c) (by kernel_rfl) 30 (by kernel_rfl) (Nat.le_of_ble_eq_true rfl) [2] (by kernel_rfl) (sum_Seal_0_ok r a0 y h0 (okEnd (fun s y h hk => match s with
    | .L0 v3 v4 v5 => sum_Seal_L0_ok r v3 v4 v5 y h hk) h1))
def R05_Seal_c : Code := (Go.Proofs.Try.f13.body).getD .skip
def R05_Seal_res (r : (List Int)) : PV := (.t (.sl (List.map (cI .u8) r)))
def R05_Seal_cfg : R05_Seal_S → Cfg
  | .L0 _ _ _ => (nav [1, 1, 1, 1, 0, 1, 4] R05_Seal_c []).getD (.done .normal)
def R05_Seal_st : R05_Seal_S → PW.St
  | .L0 v3 v4 v5 => ⟨24, [(3, (.osl 1008 (List.map (cI .u8) v3).length)), (4, (.t (.int .u32 v4))), (5, (.t (.int .i64 v5)))], [(1008, .row 1 (List.map (cI .u8) v3))]⟩
abbrev R05_Seal_ok1 (r : (List Int)) (y : R05_Seal_S ⊕ (List Int)) : Prop := Ok Go.Proofs.Try.prog [2] R05_Seal_res R05_Seal_cfg R05_Seal_st r y
theorem R05_Seal_L0_ok (r : (List Int)) (v3 : (List Int)) (v4 : Int) (v5 : Int) (y : R05_Seal_S ⊕ (List Int)) (h : R05_Seal_L0 v3 v4 v5 = some y) (hk : R05_Seal_ok1 r y) : (R05_Seal_cfg (.L0 v3 v4 v5)).holds Go.Proofs.Try.prog (Upto (RetQ [2] [] (R05_Seal_res r))) (R05_Seal_st (.L0 v3 v4 v5)) :=
  condE h (fun h5 h =>
    bindE h fun x6 h7 h =>
      leafGo hm hT (s' := R05_Seal_S.L0 x6 (quoI .u32 v4 256) (IntKind.wrap .i64 (v5 + 1))) h hk 400 [.br true, .lit, .es (List.map (cI .u8) x6), .pick [3, 4, 5] [1008]] (And.intro h5 (And.intro (show (256 : Int) ≠ 0 by decide) (And.intro (Eq.refl (List.map (cI .u8) v3).length) (And.intro (app_map (cI .u8) h7) (And.intro (all_map (cI .u8) 1 (fun _ => rfl) [IntKind.wrap .u8 (Int.tmod v4 256)]) (And.intro (app_len (cI .u8) h7) (And.intro (app_bytes (cI .u8) h7) (And.intro (show (256 : Int) ≠ 0 by decide) trivial)))))))) (by kernel_rfl)) (fun h5 h =>
    leafRet hm hT (r' := v3) h hk 400 [.br false] (And.intro h5 (And.intro (Eq.refl (List.map (cI .u8) v3).length) trivial)) (by kernel_rfl))
theorem R05_Seal_0_ok (r : (List Int)) (a0 : (List Int)) (y : R05_Seal_S ⊕ (List Int)) (h : R05_Seal_0 a0 = some y) (hk : R05_Seal_ok1 r y) : (Cfg.code R05_Seal_c []).holds Go.Proofs.Try.prog (Upto (RetQ [2] [] (R05_Seal_res r))) ⟨24, idx 0 [(.t (.sl (List.map (cI .u8) a0)))], []⟩ :=
  bindE h fun x1 h2 h =>
    bindE h fun x3 h4 h =>
      leafGo hm hT (s' := R05_Seal_S.L0 x1 x3 0) h hk 400 [.lab 1008, .es (List.map (cI .u8) x1), .call (.t (.int .u32 x3)), .pick [3, 4, 5] [1008]] (And.intro (app_nil (cI .u8) h2) (And.intro (all_map (cI .u8) 1 (fun _ => rfl) x1) (And.intro (app_len (cI .u8) h2) (And.intro (app_bytes (cI .u8) h2) (And.intro (R05_Of_ok a0 h4) trivial))))) (by kernel_rfl)
theorem R05_Seal_ok (a0 : (List Int)) {r : (List Int)} (h : R05_Seal a0 = some r) : Fn Go.Proofs.Try.prog 13 [(.t (.sl (List.map (cI .u8) a0)))] (R05_Seal_res r) :=
  bindE h fun y h0 h1 => Fn.of_cfg Go.Proofs.Try.func13 (by kernel_rfl : _ = some R05_Seal_c) (by kernel_rfl) 24 (by kernel_rfl) (Nat.le_of_ble_eq_true rfl) [2] (by kernel_rfl) (R05_Seal_0_ok r a0 y h0 (okEnd (fun s y h hk => match s with
    | .L0 v3 v4 v5 => R05_Seal_L0_ok r v3 v4 v5 y h hk) h1))
def slices_Clone___byte_byte__c : Code := (Go.Proofs.Try.f16.body).getD .skip
def slices_Clone___byte_byte__res (r : (List Int)) : PV := (.t (.sl (List.map (cI .u8) r)))
def slices_Clone___byte_byte__cfg : slices_Clone___byte_byte__S → Cfg := fun s => nomatch s
def slices_Clone___byte_byte__st : slices_Clone___byte_byte__S → PW.St := fun s => nomatch s
abbrev slices_Clone___byte_byte__ok1 (r : (List Int)) (y : slices_Clone___byte_byte__S ⊕ (List Int)) : Prop := Ok Go.Proofs.Try.prog [2] slices_Clone___byte_byte__res slices_Clone___byte_byte__cfg slices_Clone___byte_byte__st r y
theorem slices_Clone___byte_byte__0_ok (r : (List Int)) (a0 : (List Int)) (hne : a0 ≠ []) (y : slices_Clone___byte_byte__S ⊕ (List Int)) (h : slices_Clone___byte_byte__0 a0 = some y) (hk : slices_Clone___byte_byte__ok1 r y) : (Cfg.code slices_Clone___byte_byte__c []).holds Go.Proofs.Try.prog (Upto (RetQ [2] [] (slices_Clone___byte_byte__res r))) ⟨8, idx 0 [(.t (.sl (List.map (cI .u8) a0)))], []⟩ :=
  bindE h fun x1 h2 h =>
    leafRet hm hT (r' := x1) h hk 400 [.br false, .lab 1005, .es (List.map (cI .u8) x1)] (And.intro (ne_map (cI .u8) hne) (And.intro (Eq.refl false) (And.intro (Eq.refl (List.map (cI .u8) ([] : (List Int))).length) (And.intro (app_map (cI .u8) h2) (And.intro (all_map (cI .u8) 1 (fun _ => rfl) a0) (And.intro (app_len (cI .u8) h2) (And.intro (app_bytes (cI .u8) h2) (And.intro (Eq.refl (List.map (cI .u8) x1).length) trivial)))))))) (by kernel_rfl)
theorem slices_Clone___byte_byte__0_ok0 (r : (List Int)) (c : Nat) (y : slices_Clone___byte_byte__S ⊕ (List Int)) (h : slices_Clone___byte_byte__0 [] = some y) (hk : slices_Clone___byte_byte__ok1 r y) : (Cfg.code slices_Clone___byte_byte__c []).holds Go.Proofs.Try.prog (Upto (RetQ [2] [] (slices_Clone___byte_byte__res r))) ⟨8, idx 0 [(.t (.con (.slice none 0 c)))], []⟩ :=
  bindE h fun x1 h2 h => by
    cases app_nn h2
    exact leafRet hm hT (r' := ([] : (List Int))) h hk 400 [.br true] (And.intro (Eq.refl true) trivial) (by kernel_rfl)
theorem slices_Clone___byte_byte__0_ok1 (r : (List Int)) (c : Nat) (ad : Addr) (y : slices_Clone___byte_byte__S ⊕ (List Int)) (h : slices_Clone___byte_byte__0 [] = some y) (hk : slices_Clone___byte_byte__ok1 r y) : (Cfg.code slices_Clone___byte_byte__c []).holds Go.Proofs.Try.prog (Upto (RetQ [2] [] (slices_Clone___byte_byte__res r))) ⟨8, idx 0 [(.t (.con (.slice (some ad) 0 c)))], []⟩ :=
  bindE h fun x1 h2 h =>
    leafRet hm hT (r' := x1) h hk 400 [.br false, .lab 1005, .es (List.map (cI .u8) x1)] (And.intro (Eq.refl false) (And.intro (Eq.refl (List.map (cI .u8) ([] : (List Int))).length) (And.intro (app_map (cI .u8) h2) (And.intro (all_map (cI .u8) 1 (fun _ => rfl) ([] : (List Int))) (And.intro (app_len (cI .u8) h2) (And.intro (app_bytes (cI .u8) h2) (And.intro (Eq.refl (List.map (cI .u8) x1).length) trivial))))))) (by kernel_rfl)
theorem slices_Clone___byte_byte__ok (a0 : (List Int)) {r : (List Int)} (h : slices_Clone___byte_byte_ a0 = some r) : Fn Go.Proofs.Try.prog 16 [(.t (.sl (List.map (cI .u8) a0)))] (slices_Clone___byte_byte__res r) :=
  bindE h fun y h0 h1 => Fn.split0 (fun hne => Fn.of_cfg Go.Proofs.Try.func16 (by kernel_rfl : _ = some slices_Clone___byte_byte__c) (by kernel_rfl) 8 (by kernel_rfl) (Nat.le_of_ble_eq_true rfl) [2] (by kernel_rfl) (slices_Clone___byte_byte__0_ok r a0 (fun e => hne (by rw [e]; rfl)) y h0 (okEnd (fun s _ _ _ => nomatch s) h1)))
  (fun he a c => by
    have ha : a0 = [] := by simpa using he
    subst ha
    cases a with
    | none => exact Fn.of_cfg Go.Proofs.Try.func16 (by kernel_rfl : _ = some slices_Clone___byte_byte__c) (by kernel_rfl) 8 (by kernel_rfl) (Nat.le_of_ble_eq_true rfl) [2] (by kernel_rfl) (slices_Clone___byte_byte__0_ok0 r c y h0 (okEnd (fun s _ _ _ => nomatch s) h1))
    | some ad => exact Fn.of_cfg Go.Proofs.Try.func16 (by kernel_rfl : _ = some slices_Clone___byte_byte__c) (by kernel_rfl) 8 (by kernel_rfl) (Nat.le_of_ble_eq_true rfl) [2] (by kernel_rfl) (slices_Clone___byte_byte__0_ok1 r c ad y h0 (okEnd (fun s _ _ _ => nomatch s) h1)))
def slices_Equal___byte_byte__c : Code := (Go.Proofs.Try.f17.body).getD .skip
def slices_Equal___byte_byte__res (r : Bool) : PV := (.t (.bool r))
def slices_Equal___byte_byte__cfg : slices_Equal___byte_byte__S → Cfg
  | .L0 _ _ _ _ => (nav [1, 1, 0, 1, 4] slices_Equal___byte_byte__c []).getD (.done .normal)
def slices_Equal___byte_byte__st : slices_Equal___byte_byte__S → PW.St
  | .L0 v0 v1 v12 v13 => ⟨26, [(0, (.t (.sl (List.map (cI .u8) v0)))), (1, (.t (.sl (List.map (cI .u8) v1)))), (12, (.t (.int .i64 v12))), (13, (.t (.int .i64 v13)))], []⟩
abbrev slices_Equal___byte_byte__ok1 (r : Bool) (y : slices_Equal___byte_byte__S ⊕ Bool) : Prop := Ok Go.Proofs.Try.prog [4] slices_Equal___byte_byte__res slices_Equal___byte_byte__cfg slices_Equal___byte_byte__st r y
theorem slices_Equal___byte_byte__L0_ok (r : Bool) (v0 : (List Int)) (v1 : (List Int)) (v12 : Int) (v13 : Int) (y : slices_Equal___byte_byte__S ⊕ Bool) (h : slices_Equal___byte_byte__L0 v0 v1 v12 v13 = some y) (hk : slices_Equal___byte_byte__ok1 r y) : (slices_Equal___byte_byte__cfg (.L0 v0 v1 v12 v13)).holds Go.Proofs.Try.prog (Upto (RetQ [4] [] (slices_Equal___byte_byte__res r))) (slices_Equal___byte_byte__st (.L0 v0 v1 v12 v13)) :=
  condE h (fun h2 h =>
    bindE h fun x3 h4 h =>
      bindE h fun x5 h6 h =>
        condE h (fun h7 h =>
          leafRet hm hT (r' := false) h hk 400 [.br true, .cs ((cI .u8) x3), .cs ((cI .u8) x5), .br true] (And.intro h2 (And.intro (all_map (cI .u8) 1 (fun _ => rfl) v0) (And.intro (idx_nn h4) (And.intro (idx_map (cI .u8) h4) (And.intro (all_map (cI .u8) 1 (fun _ => rfl) v1) (And.intro (idx_nn h6) (And.intro (idx_map (cI .u8) h6) (And.intro h7 trivial)))))))) (by kernel_rfl)) (fun h7 h =>
          leafGo hm hT (s' := slices_Equal___byte_byte__S.L0 v0 v1 v12 (IntKind.wrap .i64 (v13 + 1))) h hk 400 [.br true, .cs ((cI .u8) x3), .cs ((cI .u8) x5), .br false, .pick [0, 1, 12, 13] []] (And.intro h2 (And.intro (all_map (cI .u8) 1 (fun _ => rfl) v0) (And.intro (idx_nn h4) (And.intro (idx_map (cI .u8) h4) (And.intro (all_map (cI .u8) 1 (fun _ => rfl) v1) (And.intro (idx_nn h6) (And.intro (idx_map (cI .u8) h6) (And.intro h7 trivial)))))))) (by kernel_rfl))) (fun h2 h =>
    leafRet hm hT (r' := true) h hk 400 [.br false] (And.intro h2 trivial) (by kernel_rfl))
theorem slices_Equal___byte_byte__0_ok (r : Bool) (a0 : (List Int)) (a1 : (List Int)) (y : slices_Equal___byte_byte__S ⊕ Bool) (h : slices_Equal___byte_byte__0 a0 a1 = some y) (hk : slices_Equal___byte_byte__ok1 r y) : (Cfg.code slices_Equal___byte_byte__c []).holds Go.Proofs.Try.prog (Upto (RetQ [4] [] (slices_Equal___byte_byte__res r))) ⟨26, idx 0 [(.t (.sl (List.map (cI .u8) a0))), (.t (.sl (List.map (cI .u8) a1)))], []⟩ :=
  condE h (fun h1 h =>
    leafRet hm hT (r' := false) h hk 400 [.num (a0.length : Int), .num (a1.length : Int), .br true] (And.intro (len_map (cI .u8) a0) (And.intro (len_map (cI .u8) a1) (And.intro h1 trivial))) (by kernel_rfl)) (fun h1 h =>
    leafGo hm hT (s' := slices_Equal___byte_byte__S.L0 a0 a1 (a0.length : Int) 0) h hk 400 [.num (a0.length : Int), .num (a1.length : Int), .br false, .num (a0.length : Int), .pick [0, 1, 12, 13] []] (And.intro (len_map (cI .u8) a0) (And.intro (len_map (cI .u8) a1) (And.intro h1 (And.intro (len_map (cI .u8) a0) trivial)))) (by kernel_rfl))
theorem slices_Equal___byte_byte__ok (a0 : (List Int)) (a1 : (List Int)) {r : Bool} (h : slices_Equal___byte_byte_ a0 a1 = some r) : Fn Go.Proofs.Try.prog 17 [(.t (.sl (List.map (cI .u8) a0))), (.t (.sl (List.map (cI .u8) a1)))] (slices_Equal___byte_byte__res r) :=
  bindE h fun y h0 h1 => Fn.of_cfg Go.Proofs.Try.func17 (by kernel_rfl : _ = some slices_Equal___byte_byte__c) (by kernel_rfl) 26 (by kernel_rfl) (Nat.le_of_ble_eq_true rfl) [4] (by kernel_rfl) (slices_Equal___byte_byte__0_ok r a0 a1 y h0 (okEnd (fun s y h hk => match s with
    | .L0 v0 v1 v12 v13 => slices_Equal___byte_byte__L0_ok r v0 v1 v12 v13 y h hk) h1))
def sum_Open_c : Code := (Go.Proofs.Try.f14.body).getD .skip
def sum_Open_res (r : ((List Int) × Int)) : PV := (.tup [(.t (.sl (List.map (cI .u8) r.1))), (.t (.int .i64 r.2))])
def sum_Open_cfg : sum_Open_S → Cfg := fun s => nomatch s
def sum_Open_st : sum_Open_S → PW.St := fun s => nomatch s
abbrev sum_Open_ok1 (r : ((List Int) × Int)) (y : sum_Open_S ⊕ ((List Int) × Int)) : Prop := Ok Go.Proofs.Try.prog [2, 3] sum_Open_res sum_Open_cfg sum_Open_st r y
theorem sum_Open_0_ok (r : ((List Int) × Int)) (a0 : (List Int)) (y : sum_Open_S ⊕ ((List Int) × Int)) (h : sum_Open_0 a0 = some y) (hk : sum_Open_ok1 r y) : (Cfg.code sum_Open_c []).holds Go.Proofs.Try.prog (Upto (RetQ [2, 3] [] (sum_Open_res r))) ⟨20, idx 0 [(.t (.sl (List.map (cI .u8) a0)))], []⟩ :=
  condE h (fun h1 h =>
    leafRet hm hT (r' := (([] : (List Int)), 4)) h hk 400 [.num (a0.length : Int), .br true] (And.intro (len_map (cI .u8) a0) (And.intro h1 trivial)) (by kernel_rfl)) (fun h1 h =>
    bindE h fun x2 h3 h =>
      bindE h fun x4 h5 h =>
        bindE h fun x6 h7 h =>
          bindE h fun x8 h9 h =>
            condE h (fun h10 h =>
              leafRet hm hT (r' := (([] : (List Int)), 8)) h hk 400 [.num (a0.length : Int), .br false, .num (a0.length : Int), .es (List.map (cI .u8) x2), .call (.t (.sl (List.map (cI .u8) x4))), .call (.t (.sl (List.map (cI .u8) x6))), .call (.t (.bool x8)), .br true] (And.intro (len_map (cI .u8) a0) (And.intro h1 (And.intro (len_map (cI .u8) a0) (And.intro (all_map (cI .u8) 1 (fun _ => rfl) a0) (And.intro (slice_0 h3) (And.intro (slice_1 h3) (And.intro (slice_2 (cI .u8) h3) (And.intro (slice_map (cI .u8) h3) (And.intro (slices_Clone___byte_byte__ok x2 h5) (And.intro (sum_Seal_ok x4 h7) (And.intro (slices_Equal___byte_byte__ok x6 a0 h9) (And.intro h10 trivial)))))))))))) (by kernel_rfl)) (fun h10 h =>
              leafRet hm hT (r' := (x4, 0)) h hk 400 [.num (a0.length : Int), .br false, .num (a0.length : Int), .es (List.map (cI .u8) x2), .call (.t (.sl (List.map (cI .u8) x4))), .call (.t (.sl (List.map (cI .u8) x6))), .call (.t (.bool x8)), .br false] (And.intro (len_map (cI .u8) a0) (And.intro h1 (And.intro (len_map (cI .u8) a0) (And.intro (all_map (cI .u8) 1 (fun _ => rfl) a0) (And.intro (slice_0 h3) (And.intro (slice_1 h3) (And.intro (slice_2 (cI .u8) h3) (And.intro (slice_map (cI .u8) h3) (And.intro (slices_Clone___byte_byte__ok x2 h5) (And.intro (sum_Seal_ok x4 h7) (And.intro (slices_Equal___byte_byte__ok x6 a0 h9) (And.intro h10 trivial)))))))))))) (by kernel_rfl)))
theorem sum_Open_ok (a0 : (List Int)) {r : ((List Int) × Int)} (h : sum_Open a0 = some r) : Fn Go.Proofs.Try.prog 14 [(.t (.sl (List.map (cI .u8) a0)))] (sum_Open_res r) :=
  bindE h fun y h0 h1 => Fn.of_cfg Go.Proofs.Try.func14 (by kernel_rfl : _ = some sum_Open_c) (by kernel_rfl) 20 (by kernel_rfl) (Nat.le_of_ble_eq_true rfl) [2, 3] (by kernel_rfl) (sum_Open_0_ok r a0 y h0 (okEnd (fun s _ _ _ => nomatch s) h1))
def R05_Open_c : Code := (Go.Proofs.Try.f15.body).getD .skip
def R05_Open_res (r : ((List Int) × Int)) : PV := (.tup [(.t (.sl (List.map (cI .u8) r.1))), (.t (.int .i64 r.2))])
def R05_Open_cfg : R05_Open_S → Cfg := fun s => nomatch s
def R05_Open_st : R05_Open_S → PW.St := fun s => nomatch s
abbrev R05_Open_ok1 (r : ((List Int) × Int)) (y : R05_Open_S ⊕ ((List Int) × Int)) : Prop := Ok Go.Proofs.Try.prog [2, 3] R05_Open_res R05_Open_cfg R05_Open_st r y
theorem R05_Open_0_ok (r : ((List Int) × Int)) (a0 : (List Int)) (y : R05_Open_S ⊕ ((List Int) × Int)) (h : R05_Open_0 a0 = some y) (hk : R05_Open_ok1 r y) : (Cfg.code R05_Open_c []).holds Go.Proofs.Try.prog (Upto (RetQ [2, 3] [] (R05_Open_res r))) ⟨21, idx 0 [(.t (.sl (List.map (cI .u8) a0)))], []⟩ :=
  condE h (fun h1 h =>
    leafRet hm hT (r' := (([] : (List Int)), 4)) h hk 400 [.num (a0.length : Int), .br true] (And.intro (len_map (cI .u8) a0) (And.intro h1 trivial)) (by kernel_rfl)) (fun h1 h =>
    bindE h fun x2 h3 h =>
      bindE h fun x4 h5 h =>
        bindE h fun x6 h7 h =>
          bindE h fun x8 h9 h =>
            condE h (fun h10 h =>
              leafRet hm hT (r' := (([] : (List Int)), 8)) h hk 400 [.num (a0.length : Int), .br false, .num (a0.length : Int), .es (List.map (cI .u8) x2), .lab 1014, .es (List.map (cI .u8) x4), .ahead 16, .frz 1014, .call (.t (.sl (List.map (cI .u8) x6))), .call (.t (.bool x8)), .br true] (And.intro (len_map (cI .u8) a0) (And.intro h1 (And.intro (len_map (cI .u8) a0) (And.intro (all_map (cI .u8) 1 (fun _ => rfl) a0) (And.intro (slice_0 h3) (And.intro (slice_1 h3) (And.intro (slice_2 (cI .u8) h3) (And.intro (slice_map (cI .u8) h3) (And.intro (app_nil (cI .u8) h5) (And.intro (all_map (cI .u8) 1 (fun _ => rfl) x4) (And.intro (app_len (cI .u8) h5) (And.intro (app_bytes (cI .u8) h5) (And.intro (Eq.refl (List.map (cI .u8) x4).length) (And.intro (Eq.refl (List.map (cI .u8) x4).length) (And.intro (Eq.refl (List.map (cI .u8) x4).length) (And.intro (R05_Seal_ok x4 h7) (And.intro (R05_Same_ok x6 a0 h9) (And.intro h10 trivial)))))))))))))))))) (by kernel_rfl)) (fun h10 h =>
              leafRet hm hT (r' := (x4, 0)) h hk 400 [.num (a0.length : Int), .br false, .num (a0.length : Int), .es (List.map (cI .u8) x2), .lab 1014, .es (List.map (cI .u8) x4), .ahead 16, .frz 1014, .call (.t (.sl (List.map (cI .u8) x6))), .call (.t (.bool x8)), .br false] (And.intro (len_map (cI .u8) a0) (And.intro h1 (And.intro (len_map (cI .u8) a0) (And.intro (all_map (cI .u8) 1 (fun _ => rfl) a0) (And.intro (slice_0 h3) (And.intro (slice_1 h3) (And.intro (slice_2 (cI .u8) h3) (And.intro (slice_map (cI .u8) h3) (And.intro (app_nil (cI .u8) h5) (And.intro (all_map (cI .u8) 1 (fun _ => rfl) x4) (And.intro (app_len (cI .u8) h5) (And.intro (app_bytes (cI .u8) h5) (And.intro (Eq.refl (List.map (cI .u8) x4).length) (And.intro (Eq.refl (List.map (cI .u8) x4).length) (And.intro (Eq.refl (List.map (cI .u8) x4).length) (And.intro (R05_Seal_ok x4 h7) (And.intro (R05_Same_ok x6 a0 h9) (And.intro h10 trivial)))))))))))))))))) (by kernel_rfl)))
theorem R05_Open_ok (a0 : (List Int)) {r : ((List Int) × Int)} (h : R05_Open a0 = some r) : Fn Go.Proofs.Try.prog 15 [(.t (.sl (List.map (cI .u8) a0)))] (R05_Open_res r) :=
  bindE h fun y h0 h1 => Fn.of_cfg Go.Proofs.Try.func15 (by kernel_rfl : _ = some R05_Open_c) (by kernel_rfl) 21 (by kernel_rfl) (Nat.le_of_ble_eq_true rfl) [2, 3] (by kernel_rfl) (R05_Open_0_ok r a0 y h0 (okEnd (fun s _ _ _ => nomatch s) h1))
def L05_alive_c : Code := (Go.Proofs.Try.f8.body).getD .skip
def L05_alive_res (r : Bool) : PV := (.t (.bool r))
def L05_alive_cfg : L05_alive_S → Cfg := fun s => nomatch s
def L05_alive_st : L05_alive_S → PW.St := fun s => nomatch s
abbrev L05_alive_ok1 (r : Bool) (y : L05_alive_S ⊕ Bool) : Prop := Ok Go.Proofs.Try.prog [0] L05_alive_res L05_alive_cfg L05_alive_st r y
theorem L05_alive_0_ok (r : Bool) (y : L05_alive_S ⊕ Bool) (h : L05_alive_0 = some y) (hk : L05_alive_ok1 r y) : (Cfg.code L05_alive_c []).holds Go.Proofs.Try.prog (Upto (RetQ [0] [] (L05_alive_res r))) ⟨30, idx 0 [], []⟩ :=
  bindE h fun x1 h2 h =>
    bindE h fun x3 h4 h =>
      condE h (fun h5 h =>
        bindE h fun x6 h7 h =>
          condE h (fun h8 h =>
            condE h (fun h9 h =>
              bindE h fun x10 h11 h =>
                condE h (fun h12 h =>
                  bindE h fun x13 h14 h =>
                    leafRet hm hT (r' := (x13 == 203)) h hk 400 [.lab 1002, .ahead 4, .frz 1002, .call (.t (.sl (List.map (cI .u8) x1))), .lab 1005, .call (.t (.int .u32 x3)), .br true, .call (.t (.int .u32 x6)), .br true, .br true, .br true, .br true, .num (x1.length : Int), .br true, .br true, .br true, .br true, .cs ((cI .u8) x10), .br true, .br true, .br true, .br true, .br true, .cs ((cI .u8) x13), .br true, .br true, .br true] (And.intro (Eq.refl (List.map (cI .u8) [49, 50, 51, 52, 53, 54, 55, 56, 57]).length) (And.intro (ne_map (xs := [49, 50, 51, 52, 53, 54, 55, 56, 57]) (cI .u8) (List.cons_ne_nil _ _)) (And.intro (Eq.refl (List.map (cI .u8) [49, 50, 51, 52, 53, 54, 55, 56, 57]).length) (And.intro (Eq.refl (List.map (cI .u8) [49, 50, 51, 52, 53, 54, 55, 56, 57]).length) (And.intro (sum_Seal_ok [49, 50, 51, 52, 53, 54, 55, 56, 57] h2) (And.intro (Eq.refl (List.map (cI .u8) [49, 50, 51, 52, 53, 54, 55, 56, 57]).length) (And.intro (ne_map (xs := [49, 50, 51, 52, 53, 54, 55, 56, 57]) (cI .u8) (List.cons_ne_nil _ _)) (And.intro (Eq.refl (List.map (cI .u8) [49, 50, 51, 52, 53, 54, 55, 56, 57]).length) (And.intro (sum_Of_ok [49, 50, 51, 52, 53, 54, 55, 56, 57] h4) (And.intro h5 (And.intro (sum_Of_ok ([] : (List Int)) h7) (And.intro h5 (And.intro h5 (And.intro h8 (And.intro h8 (And.intro (len_map (cI .u8) x1) (And.intro h8 (And.intro h8 (And.intro h9 (And.intro h9 (And.intro (all_map (cI .u8) 1 (fun _ => rfl) x1) (And.intro (idx_nn h11) (And.intro (idx_map (cI .u8) h11) (And.intro h9 (And.intro h9 (And.intro h9 (And.intro h12 (And.intro h12 (And.intro (all_map (cI .u8) 1 (fun _ => rfl) x1) (And.intro (idx_nn h14) (And.intro (idx_map (cI .u8) h14) (And.intro h12 (And.intro h12 (And.intro h12 trivial)))))))))))))))))))))))))))))))))) (by kernel_rfl)) (fun h12 h =>
                  leafRet hm hT (r' := false) h hk 400 [.lab 1002, .ahead 4, .frz 1002, .call (.t (.sl (List.map (cI .u8) x1))), .lab 1005, .call (.t (.int .u32 x3)), .br true, .call (.t (.int .u32 x6)), .br true, .br true, .br true, .br true, .num (x1.length : Int), .br true, .br true, .br true, .br true, .cs ((cI .u8) x10), .br true, .br true, .br true, .br false, .br false, .br false, .br false, .br false] (And.intro (Eq.refl (List.map (cI .u8) [49, 50, 51, 52, 53, 54, 55, 56, 57]).length) (And.intro (ne_map (xs := [49, 50, 51, 52, 53, 54, 55, 56, 57]) (cI .u8) (List.cons_ne_nil _ _)) (And.intro (Eq.refl (List.map (cI .u8) [49, 50, 51, 52, 53, 54, 55, 56, 57]).length) (And.intro (Eq.refl (List.map (cI .u8) [49, 50, 51, 52, 53, 54, 55, 56, 57]).length) (And.intro (sum_Seal_ok [49, 50, 51, 52, 53, 54, 55, 56, 57] h2) (And.intro (Eq.refl (List.map (cI .u8) [49, 50, 51, 52, 53, 54, 55, 56, 57]).length) (And.intro (ne_map (xs := [49, 50, 51, 52, 53, 54, 55, 56, 57]) (cI .u8) (List.cons_ne_nil _ _)) (And.intro (Eq.refl (List.map (cI .u8) [49, 50, 51, 52, 53, 54, 55, 56, 57]).length) (And.intro (sum_Of_ok [49, 50, 51, 52, 53, 54, 55, 56, 57] h4) (And.intro h5 (And.intro (sum_Of_ok ([] : (List Int)) h7) (And.intro h5 (And.intro h5 (And.intro h8 (And.intro h8 (And.intro (len_map (cI .u8) x1) (And.intro h8 (And.intro h8 (And.intro h9 (And.intro h9 (And.intro (all_map (cI .u8) 1 (fun _ => rfl) x1) (And.intro (idx_nn h11) (And.intro (idx_map (cI .u8) h11) (And.intro h9 (And.intro h9 (And.intro h9 (And.intro h12 (And.intro h12 (And.intro h12 (And.intro h12 (And.intro h12 trivial))))))))))))))))))))))))))))))) (by kernel_rfl))) (fun h9 h =>
              leafRet hm hT (r' := false) h hk 400 [.lab 1002, .ahead 4, .frz 1002, .call (.t (.sl (List.map (cI .u8) x1))), .lab 1005, .call (.t (.int .u32 x3)), .br true, .call (.t (.int .u32 x6)), .br true, .br true, .br true, .br true, .num (x1.length : Int), .br true, .br true, .br false, .br false, .br false, .br false, .br false, .br false, .br false, .br false, .br false, .br false] (And.intro (Eq.refl (List.map (cI .u8) [49, 50, 51, 52, 53, 54, 55, 56, 57]).length) (And.intro (ne_map (xs := [49, 50, 51, 52, 53, 54, 55, 56, 57]) (cI .u8) (List.cons_ne_nil _ _)) (And.intro (Eq.refl (List.map (cI .u8) [49, 50, 51, 52, 53, 54, 55, 56, 57]).length) (And.intro (Eq.refl (List.map (cI .u8) [49, 50, 51, 52, 53, 54, 55, 56, 57]).length) (And.intro (sum_Seal_ok [49, 50, 51, 52, 53, 54, 55, 56, 57] h2) (And.intro (Eq.refl (List.map (cI .u8) [49, 50, 51, 52, 53, 54, 55, 56, 57]).length) (And.intro (ne_map (xs := [49, 50, 51, 52, 53, 54, 55, 56, 57]) (cI .u8) (List.cons_ne_nil _ _)) (And.intro (Eq.refl (List.map (cI .u8) [49, 50, 51, 52, 53, 54, 55, 56, 57]).length) (And.intro (sum_Of_ok [49, 50, 51, 52, 53, 54, 55, 56, 57] h4) (And.intro h5 (And.intro (sum_Of_ok ([] : (List Int)) h7) (And.intro h5 (And.intro h5 (And.intro h8 (And.intro h8 (And.intro (len_map (cI .u8) x1) (And.intro h8 (And.intro h8 (And.intro h9 (And.intro h9 (And.intro h9 (And.intro h9 (And.intro h9 (And.intro (Eq.refl false) (And.intro (Eq.refl false) (And.intro (Eq.refl false) (And.intro (Eq.refl false) (And.intro (Eq.refl false) trivial)))))))))))))))))))))))))))) (by kernel_rfl))) (fun h8 h =>
            leafRet hm hT (r' := false) h hk 400 [.lab 1002, .ahead 4, .frz 1002, .call (.t (.sl (List.map (cI .u8) x1))), .lab 1005, .call (.t (.int .u32 x3)), .br true, .call (.t (.int .u32 x6)), .br true, .br true, .br false, .br false, .br false, .br false, .br false, .br false, .br false, .br false, .br false, .br false, .br false, .br false, .br false, .br false] (And.intro (Eq.refl (List.map (cI .u8) [49, 50, 51, 52, 53, 54, 55, 56, 57]).length) (And.intro (ne_map (xs := [49, 50, 51, 52, 53, 54, 55, 56, 57]) (cI .u8) (List.cons_ne_nil _ _)) (And.intro (Eq.refl (List.map (cI .u8) [49, 50, 51, 52, 53, 54, 55, 56, 57]).length) (And.intro (Eq.refl (List.map (cI .u8) [49, 50, 51, 52, 53, 54, 55, 56, 57]).length) (And.intro (sum_Seal_ok [49, 50, 51, 52, 53, 54, 55, 56, 57] h2) (And.intro (Eq.refl (List.map (cI .u8) [49, 50, 51, 52, 53, 54, 55, 56, 57]).length) (And.intro (ne_map (xs := [49, 50, 51, 52, 53, 54, 55, 56, 57]) (cI .u8) (List.cons_ne_nil _ _)) (And.intro (Eq.refl (List.map (cI .u8) [49, 50, 51, 52, 53, 54, 55, 56, 57]).length) (And.intro (sum_Of_ok [49, 50, 51, 52, 53, 54, 55, 56, 57] h4) (And.intro h5 (And.intro (sum_Of_ok ([] : (List Int)) h7) (And.intro h5 (And.intro h5 (And.intro h8 (And.intro h8 (And.intro h8 (And.intro h8 (And.intro (Eq.refl false) (And.intro (Eq.refl false) (And.intro (Eq.refl false) (And.intro (Eq.refl false) (And.intro (Eq.refl false) (And.intro (Eq.refl false) (And.intro (Eq.refl false) (And.intro (Eq.refl false) (And.intro (Eq.refl false) (And.intro (Eq.refl false) trivial))))))))))))))))))))))))))) (by kernel_rfl))) (fun h5 h =>
        leafRet hm hT (r' := false) h hk 400 [.lab 1002, .ahead 4, .frz 1002, .call (.t (.sl (List.map (cI .u8) x1))), .lab 1005, .call (.t (.int .u32 x3)), .br false, .br false, .br false, .br false, .br false, .br false, .br false, .br false, .br false, .br false, .br false, .br false, .br false, .br false, .br false, .br false, .br false] (And.intro (Eq.refl (List.map (cI .u8) [49, 50, 51, 52, 53, 54, 55, 56, 57]).length) (And.intro (ne_map (xs := [49, 50, 51, 52, 53, 54, 55, 56, 57]) (cI .u8) (List.cons_ne_nil _ _)) (And.intro (Eq.refl (List.map (cI .u8) [49, 50, 51, 52, 53, 54, 55, 56, 57]).length) (And.intro (Eq.refl (List.map (cI .u8) [49, 50, 51, 52, 53, 54, 55, 56, 57]).length) (And.intro (sum_Seal_ok [49, 50, 51, 52, 53, 54, 55, 56, 57] h2) (And.intro (Eq.refl (List.map (cI .u8) [49, 50, 51, 52, 53, 54, 55, 56, 57]).length) (And.intro (ne_map (xs := [49, 50, 51, 52, 53, 54, 55, 56, 57]) (cI .u8) (List.cons_ne_nil _ _)) (And.intro (Eq.refl (List.map (cI .u8) [49, 50, 51, 52, 53, 54, 55, 56, 57]).length) (And.intro (sum_Of_ok [49, 50, 51, 52, 53, 54, 55, 56, 57] h4) (And.intro h5 (And.intro h5 (And.intro h5 (And.intro (Eq.refl false) (And.intro (Eq.refl false) (And.intro (Eq.refl false) (And.intro (Eq.refl false) (And.intro (Eq.refl false) (And.intro (Eq.refl false) (And.intro (Eq.refl false) (And.intro (Eq.refl false) (And.intro (Eq.refl false) (And.intro (Eq.refl false) (And.intro (Eq.refl false) (And.intro (Eq.refl false) (And.intro (Eq.refl false) (And.intro (Eq.refl false) trivial)))))))))))))))))))))))))) (by kernel_rfl))
theorem L05_alive_ok {r : Bool} (h : L05_alive = some r) : Fn Go.Proofs.Try.prog 8 [] (L05_alive_res r) :=
  bindE h fun y h0 h1 => Fn.of_cfg Go.Proofs.Try.func8 (by kernel_rfl : _ = some L05_alive_c) (by kernel_rfl) 30 (by kernel_rfl) (Nat.le_of_ble_eq_true rfl) [0] (by kernel_rfl) (L05_alive_0_ok r y h0 (okEnd (fun s _ _ _ => nomatch s) h1))
def L05_SumOf_c : Code := (Go.Proofs.Try.f3.body).getD .skip
def L05_SumOf_res (r : Bool) : PV := (.t (.bool r))
def L05_SumOf_cfg : L05_SumOf_S → Cfg := fun s => nomatch s
def L05_SumOf_st : L05_SumOf_S → PW.St := fun s => nomatch s
abbrev L05_SumOf_ok1 (r : Bool) (y : L05_SumOf_S ⊕ Bool) : Prop := Ok Go.Proofs.Try.prog [2] L05_SumOf_res L05_SumOf_cfg L05_SumOf_st r y
theorem L05_SumOf_0_ok (r : Bool) (a0 : (List Int)) (y : L05_SumOf_S ⊕ Bool) (h : L05_SumOf_0 a0 = some y) (hk : L05_SumOf_ok1 r y) : (Cfg.code L05_SumOf_c []).holds Go.Proofs.Try.prog (Upto (RetQ [2] [] (L05_SumOf_res r))) ⟨22, idx 0 [(.t (.sl (List.map (cI .u8) a0)))], []⟩ :=
  condE h (fun h1 h =>
    bindE h fun x2 h3 h =>
      leafRet hm hT (r' := x2) h hk 400 [.num (a0.length : Int), .br true, .call (.t (.bool x2))] (And.intro (len_map (cI .u8) a0) (And.intro h1 (And.intro (L05_alive_ok  h3) trivial))) (by kernel_rfl)) (fun h1 h =>
    bindE h fun x4 h5 h =>
      bindE h fun x6 h7 h =>
        condE h (fun h8 h =>
          bindE h fun x9 h10 h =>
            bindE h fun x11 h12 h =>
              bindE h fun x13 h14 h =>
                condE h (fun h15 h =>
                  bindE h fun x16 h17 h =>
                    leafRet hm hT (r' := x16) h hk 400 [.num (a0.length : Int), .br false, .call (.t (.int .u32 x4)), .call (.t (.int .u32 x6)), .br true, .br true, .call (.t (.sl (List.map (cI .u8) x9))), .br true, .br true, .call (.t (.sl (List.map (cI .u8) x11))), .br true, .call (.t (.bool x13)), .br true, .br true, .call (.t (.bool x16)), .br true] (And.intro (len_map (cI .u8) a0) (And.intro h1 (And.intro (sum_Of_ok a0 h5) (And.intro (R05_Of_ok a0 h7) (And.intro h8 (And.intro h8 (And.intro (sum_Seal_ok a0 h10) (And.intro h8 (And.intro h8 (And.intro (R05_Seal_ok a0 h12) (And.intro h8 (And.intro (R05_Same_ok x9 x11 h14) (And.intro h8 (And.intro h15 (And.intro (L05_alive_ok  h17) (And.intro h15 trivial)))))))))))))))) (by kernel_rfl)) (fun h15 h =>
                  leafRet hm hT (r' := false) h hk 400 [.num (a0.length : Int), .br false, .call (.t (.int .u32 x4)), .call (.t (.int .u32 x6)), .br true, .br true, .call (.t (.sl (List.map (cI .u8) x9))), .br true, .br true, .call (.t (.sl (List.map (cI .u8) x11))), .br true, .call (.t (.bool x13)), .br true, .br false, .br false] (And.intro (len_map (cI .u8) a0) (And.intro h1 (And.intro (sum_Of_ok a0 h5) (And.intro (R05_Of_ok a0 h7) (And.intro h8 (And.intro h8 (And.intro (sum_Seal_ok a0 h10) (And.intro h8 (And.intro h8 (And.intro (R05_Seal_ok a0 h12) (And.intro h8 (And.intro (R05_Same_ok x9 x11 h14) (And.intro h8 (And.intro h15 (And.intro h15 trivial))))))))))))))) (by kernel_rfl))) (fun h8 h =>
          leafRet hm hT (r' := false) h hk 400 [.num (a0.length : Int), .br false, .call (.t (.int .u32 x4)), .call (.t (.int .u32 x6)), .br false, .br false, .br false, .br false, .br false, .br false, .br false, .br false] (And.intro (len_map (cI .u8) a0) (And.intro h1 (And.intro (sum_Of_ok a0 h5) (And.intro (R05_Of_ok a0 h7) (And.intro h8 (And.intro h8 (And.intro h8 (And.intro h8 (And.intro h8 (And.intro h8 (And.intro (Eq.refl false) (And.intro (Eq.refl false) trivial)))))))))))) (by kernel_rfl)))
theorem L05_SumOf_ok (a0 : (List Int)) {r : Bool} (h : L05_SumOf a0 = some r) : Fn Go.Proofs.Try.prog 3 [(.t (.sl (List.map (cI .u8) a0)))] (L05_SumOf_res r) :=
  bindE h fun y h0 h1 => Fn.of_cfg Go.Proofs.Try.func3 (by kernel_rfl : _ = some L05_SumOf_c) (by kernel_rfl) 22 (by kernel_rfl) (Nat.le_of_ble_eq_true rfl) [2] (by kernel_rfl) (L05_SumOf_0_ok r a0 y h0 (okEnd (fun s _ _ _ => nomatch s) h1))
def L05_SumOpens_c : Code := (Go.Proofs.Try.f4.body).getD .skip
def L05_SumOpens_res (r : Bool) : PV := (.t (.bool r))
def L05_SumOpens_cfg : L05_SumOpens_S → Cfg := fun s => nomatch s
def L05_SumOpens_st : L05_SumOpens_S → PW.St := fun s => nomatch s
abbrev L05_SumOpens_ok1 (r : Bool) (y : L05_SumOpens_S ⊕ Bool) : Prop := Ok Go.Proofs.Try.prog [2] L05_SumOpens_res L05_SumOpens_cfg L05_SumOpens_st r y
theorem L05_SumOpens_0_ok (r : Bool) (a0 : (List Int)) (y : L05_SumOpens_S ⊕ Bool) (h : L05_SumOpens_0 a0 = some y) (hk : L05_SumOpens_ok1 r y) : (Cfg.code L05_SumOpens_c []).holds Go.Proofs.Try.prog (Upto (RetQ [2] [] (L05_SumOpens_res r))) ⟨41, idx 0 [(.t (.sl (List.map (cI .u8) a0)))], []⟩ :=
  condE h (fun h1 h =>
    bindE h fun x2 h3 h =>
      leafRet hm hT (r' := x2) h hk 400 [.num (a0.length : Int), .br true, .call (.t (.bool x2))] (And.intro (len_map (cI .u8) a0) (And.intro h1 (And.intro (L05_alive_ok  h3) trivial))) (by kernel_rfl)) (fun h1 h =>
    bindE h fun x4 h5 h =>
      bindE h fun x6 h7 h =>
        condE h (fun h8 h =>
          leafRet hm hT (r' := false) h hk 400 [.num (a0.length : Int), .br false, .call (.tup [(.t (.sl (List.map (cI .u8) x4.1))), (.t (.int .i64 x4.2))]), .call (.tup [(.t (.sl (List.map (cI .u8) x6.1))), (.t (.int .i64 x6.2))]), .br true, .br true, .br true, .br true, .br true, .br true] (And.intro (len_map (cI .u8) a0) (And.intro h1 (And.intro (sum_Open_ok a0 h5) (And.intro (R05_Open_ok a0 h7) (And.intro h8 (And.intro h8 (And.intro h8 (And.intro h8 (And.intro h8 (And.intro (Eq.refl true) trivial)))))))))) (by kernel_rfl)) (fun h8 h =>
          bindE h fun x9 h10 h =>
            condE h (fun h11 h =>
              leafRet hm hT (r' := false) h hk 400 [.num (a0.length : Int), .br false, .call (.tup [(.t (.sl (List.map (cI .u8) x4.1))), (.t (.int .i64 x4.2))]), .call (.tup [(.t (.sl (List.map (cI .u8) x6.1))), (.t (.int .i64 x6.2))]), .br false, .br false, .br false, .call (.t (.bool x9)), .br false, .br false, .br true] (And.intro (len_map (cI .u8) a0) (And.intro h1 (And.intro (sum_Open_ok a0 h5) (And.intro (R05_Open_ok a0 h7) (And.intro h8 (And.intro h8 (And.intro h8 (And.intro (R05_Same_ok x4.1 x6.1 h10) (And.intro h8 (And.intro h8 (And.intro h11 trivial))))))))))) (by kernel_rfl)) (fun h11 h =>
              condE h (fun h12 h =>
                bindE h fun x13 h14 h =>
                  leafRet hm hT (r' := x13) h hk 400 [.num (a0.length : Int), .br false, .call (.tup [(.t (.sl (List.map (cI .u8) x4.1))), (.t (.int .i64 x4.2))]), .call (.tup [(.t (.sl (List.map (cI .u8) x6.1))), (.t (.int .i64 x6.2))]), .br false, .br false, .br false, .call (.t (.bool x9)), .br false, .br false, .br false, .br true, .br true, .br true, .br true, .br true, .br true, .call (.t (.bool x13)), .br true] (And.intro (len_map (cI .u8) a0) (And.intro h1 (And.intro (sum_Open_ok a0 h5) (And.intro (R05_Open_ok a0 h7) (And.intro h8 (And.intro h8 (And.intro h8 (And.intro (R05_Same_ok x4.1 x6.1 h10) (And.intro h8 (And.intro h8 (And.intro h11 (And.intro h12 (And.intro h12 (And.intro h12 (And.intro h12 (And.intro h12 (And.intro (Eq.refl true) (And.intro (L05_alive_ok  h14) (And.intro (Eq.refl true) trivial))))))))))))))))))) (by kernel_rfl)) (fun h12 h =>
                bindE h fun x15 h16 h =>
                  bindE h fun x17 h18 h =>
                    condE h (fun h19 h =>
                      bindE h fun x20 h21 h =>
                        leafRet hm hT (r' := x20) h hk 400 [.num (a0.length : Int), .br false, .call (.tup [(.t (.sl (List.map (cI .u8) x4.1))), (.t (.int .i64 x4.2))]), .call (.tup [(.t (.sl (List.map (cI .u8) x6.1))), (.t (.int .i64 x6.2))]), .br false, .br false, .br false, .call (.t (.bool x9)), .br false, .br false, .br false, .br false, .br false, .call (.t (.sl (List.map (cI .u8) x15))), .br false, .br false, .call (.t (.bool x17)), .br false, .br true, .call (.t (.bool x20)), .br true] (And.intro (len_map (cI .u8) a0) (And.intro h1 (And.intro (sum_Open_ok a0 h5) (And.intro (R05_Open_ok a0 h7) (And.intro h8 (And.intro h8 (And.intro h8 (And.intro (R05_Same_ok x4.1 x6.1 h10) (And.intro h8 (And.intro h8 (And.intro h11 (And.intro h12 (And.intro h12 (And.intro (sum_Seal_ok x4.1 h16) (And.intro h12 (And.intro h12 (And.intro (R05_Same_ok x15 a0 h18) (And.intro h12 (And.intro h19 (And.intro (L05_alive_ok  h21) (And.intro h19 trivial))))))))))))))))))))) (by kernel_rfl)) (fun h19 h =>
                      leafRet hm hT (r' := false) h hk 400 [.num (a0.length : Int), .br false, .call (.tup [(.t (.sl (List.map (cI .u8) x4.1))), (.t (.int .i64 x4.2))]), .call (.tup [(.t (.sl (List.map (cI .u8) x6.1))), (.t (.int .i64 x6.2))]), .br false, .br false, .br false, .call (.t (.bool x9)), .br false, .br false, .br false, .br false, .br false, .call (.t (.sl (List.map (cI .u8) x15))), .br false, .br false, .call (.t (.bool x17)), .br false, .br false, .br false] (And.intro (len_map (cI .u8) a0) (And.intro h1 (And.intro (sum_Open_ok a0 h5) (And.intro (R05_Open_ok a0 h7) (And.intro h8 (And.intro h8 (And.intro h8 (And.intro (R05_Same_ok x4.1 x6.1 h10) (And.intro h8 (And.intro h8 (And.intro h11 (And.intro h12 (And.intro h12 (And.intro (sum_Seal_ok x4.1 h16) (And.intro h12 (And.intro h12 (And.intro (R05_Same_ok x15 a0 h18) (And.intro h12 (And.intro h19 (And.intro h19 trivial)))))))))))))))))))) (by kernel_rfl))))))
theorem L05_SumOpens_ok (a0 : (List Int)) {r : Bool} (h : L05_SumOpens a0 = some r) : Fn Go.Proofs.Try.prog 4 [(.t (.sl (List.map (cI .u8) a0)))] (L05_SumOpens_res r) :=
  bindE h fun y h0 h1 => Fn.of_cfg Go.Proofs.Try.func4 (by kernel_rfl : _ = some L05_SumOpens_c) (by kernel_rfl) 41 (by kernel_rfl) (Nat.le_of_ble_eq_true rfl) [2] (by kernel_rfl) (L05_SumOpens_0_ok r a0 y h0 (okEnd (fun s _ _ _ => nomatch s) h1))
def L05_SumBack_c : Code := (Go.Proofs.Try.f5.body).getD .skip
def L05_SumBack_res (r : Bool) : PV := (.t (.bool r))
def L05_SumBack_cfg : L05_SumBack_S → Cfg := fun s => nomatch s
def L05_SumBack_st : L05_SumBack_S → PW.St := fun s => nomatch s
abbrev L05_SumBack_ok1 (r : Bool) (y : L05_SumBack_S ⊕ Bool) : Prop := Ok Go.Proofs.Try.prog [2] L05_SumBack_res L05_SumBack_cfg L05_SumBack_st r y
theorem L05_SumBack_0_ok (r : Bool) (a0 : (List Int)) (y : L05_SumBack_S ⊕ Bool) (h : L05_SumBack_0 a0 = some y) (hk : L05_SumBack_ok1 r y) : (Cfg.code L05_SumBack_c []).holds Go.Proofs.Try.prog (Upto (RetQ [2] [] (L05_SumBack_res r))) ⟨25, idx 0 [(.t (.sl (List.map (cI .u8) a0)))], []⟩ :=
  condE h (fun h1 h =>
    bindE h fun x2 h3 h =>
      leafRet hm hT (r' := x2) h hk 400 [.num (a0.length : Int), .br true, .call (.t (.bool x2))] (And.intro (len_map (cI .u8) a0) (And.intro h1 (And.intro (L05_alive_ok  h3) trivial))) (by kernel_rfl)) (fun h1 h =>
    bindE h fun x4 h5 h =>
      bindE h fun x6 h7 h =>
        condE h (fun h8 h =>
          bindE h fun x9 h10 h =>
            condE h (fun h11 h =>
              bindE h fun x12 h13 h =>
                leafRet hm hT (r' := x12) h hk 400 [.num (a0.length : Int), .br false, .call (.t (.sl (List.map (cI .u8) x4))), .call (.tup [(.t (.sl (List.map (cI .u8) x6.1))), (.t (.int .i64 x6.2))]), .br true, .br true, .br true, .call (.t (.bool x9)), .br true, .br true, .call (.t (.bool x12)), .br true] (And.intro (len_map (cI .u8) a0) (And.intro h1 (And.intro (sum_Seal_ok a0 h5) (And.intro (sum_Open_ok x4 h7) (And.intro h8 (And.intro h8 (And.intro h8 (And.intro (R05_Same_ok x6.1 a0 h10) (And.intro h8 (And.intro h11 (And.intro (L05_alive_ok  h13) (And.intro h11 trivial)))))))))))) (by kernel_rfl)) (fun h11 h =>
              leafRet hm hT (r' := false) h hk 400 [.num (a0.length : Int), .br false, .call (.t (.sl (List.map (cI .u8) x4))), .call (.tup [(.t (.sl (List.map (cI .u8) x6.1))), (.t (.int .i64 x6.2))]), .br true, .br true, .br true, .call (.t (.bool x9)), .br true, .br false, .br false] (And.intro (len_map (cI .u8) a0) (And.intro h1 (And.intro (sum_Seal_ok a0 h5) (And.intro (sum_Open_ok x4 h7) (And.intro h8 (And.intro h8 (And.intro h8 (And.intro (R05_Same_ok x6.1 a0 h10) (And.intro h8 (And.intro h11 (And.intro h11 trivial))))))))))) (by kernel_rfl))) (fun h8 h =>
          leafRet hm hT (r' := false) h hk 400 [.num (a0.length : Int), .br false, .call (.t (.sl (List.map (cI .u8) x4))), .call (.tup [(.t (.sl (List.map (cI .u8) x6.1))), (.t (.int .i64 x6.2))]), .br false, .br false, .br false, .br false, .br false, .br false] (And.intro (len_map (cI .u8) a0) (And.intro h1 (And.intro (sum_Seal_ok a0 h5) (And.intro (sum_Open_ok x4 h7) (And.intro h8 (And.intro h8 (And.intro h8 (And.intro h8 (And.intro (Eq.refl false) (And.intro (Eq.refl false) trivial)))))))))) (by kernel_rfl)))
theorem L05_SumBack_ok (a0 : (List Int)) {r : Bool} (h : L05_SumBack a0 = some r) : Fn Go.Proofs.Try.prog 5 [(.t (.sl (List.map (cI .u8) a0)))] (L05_SumBack_res r) :=
  bindE h fun y h0 h1 => Fn.of_cfg Go.Proofs.Try.func5 (by kernel_rfl : _ = some L05_SumBack_c) (by kernel_rfl) 25 (by kernel_rfl) (Nat.le_of_ble_eq_true rfl) [2] (by kernel_rfl) (L05_SumBack_0_ok r a0 y h0 (okEnd (fun s _ _ _ => nomatch s) h1))
end
end Go.PW
