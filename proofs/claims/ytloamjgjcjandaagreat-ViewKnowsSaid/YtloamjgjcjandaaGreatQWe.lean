import Derived.Test.YtloamjgjcjandaaGreatQWd
set_option linter.all false
set_option maxRecDepth 100000
namespace Go.PW
open Go.RowKit
noncomputable section
noncomputable def Zc7 : Code := (Go.Proofs.Tryz.f47.body).getD .skip
noncomputable def Zdv (r : (List Z5)) : PV := (.osl 5000 (List.map Z1 r).length)
noncomputable def Zd8 (r : (List Z5)) : List (Nat × Blk) := [(5000, .row 3 (List.map Z1 r))]
noncomputable def Zsu : Zbk → Cfg := fun s => nomatch s
noncomputable def Ztt : Zbk → PW.St := fun s => nomatch s
abbrev Zhl (r : (List Z5)) (y : Zbk ⊕ (List Z5)) : Prop := Ok PR [.t 2] (Zd8) Zdv Zsu Ztt r y
theorem Zsb (r : (List Z5)) (a0 : (List Z5)) (hne : a0 ≠ []) (y : Zbk ⊕ (List Z5)) (h : Zeg a0 = some y) (hk : Zhl r y) : (Cfg.code Zc7 []).HH PR [.t 2] Zd8 Zdv r ⟨8, idx 0 [(wL Z1 a0)], []⟩ :=
 Zb h fun x1 h2 h => lO h hk [5000] ((((((((q0.f 1 (Zv8 Z1 hne)).o [.lab 1005, .es (List.map Z1 x1), .relab 1005 5000]).b (Eq.refl false)).b (Eq.refl (List.map Z1 ([] : (List Z5))).length)).b (Zdw Z1 h2)).b (Zs Z1 3 (fun _ => rfl) a0)).b (Zdx Z1 h2)).b (Zca Z1 h2))
theorem Zrc (r : (List Z5)) (c : Nat) (y : Zbk ⊕ (List Z5)) (h : Zeg [] = some y) (hk : Zhl r y) : (Cfg.code Zc7 []).HH PR [.t 2] Zd8 Zdv r ⟨8, idx 0 [(.t (.con (.slice none 0 c)))], []⟩ :=
 Zb h fun x1 h2 h => by
 cases Zv9 h2
 exact Zfv hm hT (r' := ([] : (List Z5))) h hk 400 [.br true, .own 2 5000 3] [5000] (And.intro (Eq.refl true) trivial) (by kernel_rfl)
theorem Zrd (r : (List Z5)) (c : Nat) (ad : Addr) (y : Zbk ⊕ (List Z5)) (h : Zeg [] = some y) (hk : Zhl r y) : (Cfg.code Zc7 []).HH PR [.t 2] Zd8 Zdv r ⟨8, idx 0 [(.t (.con (.slice (some ad) 0 c)))], []⟩ :=
 Zb h fun x1 h2 h =>
 Zfv hm hT (r' := x1) h hk 400 [.br false, .lab 1005, .es (List.map Z1 x1), .relab 1005 5000] [5000] (And.intro (Eq.refl false) (And.intro (Eq.refl (List.map Z1 ([] : (List Z5))).length) (And.intro (Zdw Z1 h2) (And.intro (Zs Z1 3 (fun _ => rfl) ([] : (List Z5))) (And.intro (Zdx Z1 h2) (And.intro (Zca Z1 h2) trivial)))))) (by kernel_rfl)
theorem Zsv (a0 : (List Z5)) {r : (List Z5)} (h : Zf1 a0 = some r) : FnG PR 47 [] [(wL Z1 a0)] ((Zd8) r) (Zdv r) :=
 Zb h fun y h0 h1 => FnG.split0 (fun hne => FnG.of_cfg hT Go.Proofs.Tryz.func47 (by kernel_rfl : _ = some Zc7) (by kernel_rfl) 8 (by kernel_rfl) (Nat.le_of_ble_eq_true rfl) [.t 2] (by kernel_rfl) (by kernel_rfl) (Zsb r a0 (fun e => hne (by rw [e]; rfl)) y h0 (Z0 (fun s _ _ _ => nomatch s) h1)))
 (fun he a c => by
 have ha : a0 = [] := by simpa using he
 subst ha
 cases a with
 | none => exact FnG.of_cfg hT Go.Proofs.Tryz.func47 (by kernel_rfl : _ = some Zc7) (by kernel_rfl) 8 (by kernel_rfl) (Nat.le_of_ble_eq_true rfl) [.t 2] (by kernel_rfl) (by kernel_rfl) (Zrc r c y h0 (Z0 (fun s _ _ _ => nomatch s) h1))
 | some ad => exact FnG.of_cfg hT Go.Proofs.Tryz.func47 (by kernel_rfl : _ = some Zc7) (by kernel_rfl) 8 (by kernel_rfl) (Nat.le_of_ble_eq_true rfl) [.t 2] (by kernel_rfl) (by kernel_rfl) (Zrd r c ad y h0 (Z0 (fun s _ _ _ => nomatch s) h1)))
noncomputable def Z7p : Code := (Go.Proofs.Tryz.f46.body).getD .skip
noncomputable def Ztu (r : Bool) : PV := (wB r)
noncomputable def Zvd (b0 : Int) (r : Bool) : List (Nat × Blk) := [(0, .box (List.map .t ((cI .i64) b0)))]
noncomputable def Zalr : Zi7 → Cfg := fun s => nomatch s
noncomputable def Zanv : Zi7 → PW.St := fun s => nomatch s
abbrev Zals (b0 : Int) (r : Bool) (y : Zi7 ⊕ Bool) : Prop := Ok PR [.t 3] (Zvd b0) Ztu Zalr Zanv r y
theorem Zai6 (r : Bool) (a0 : Z5) (b0 : Int) (y : Zi7 ⊕ Bool) (h : Zwo a0 b0 = some y) (hk : Zals b0 r y) : (Cfg.code Z7p []).holds PR (Upto (RetQ [.t 3] ((Zvd b0) r) (Ztu r))) ⟨13, idx 0 [(.agg (bx (Z1 a0))), (.bptr 0 0)], [(0, .box (List.map .t ((cI .i64) b0)))]⟩ := have q := q0.o [.lab 1002];
 Za h (fun h1 h => lO h hk [0] (q.t 5 h1)) (fun h1 h => lO h hk [0] (q.f 5 h1))
theorem Zalt (a0 : Z5) (b0 : Int) {r : Bool} (h : Zth a0 b0 = some r) : FnG PR 46 [(0, .box (List.map .t ((cI .i64) b0)))] [(.agg (bx (Z1 a0))), (.bptr 0 0)] ((Zvd b0) r) (Ztu r) :=
 Zb h fun y h0 h1 => FnG.of_cfg hT Go.Proofs.Tryz.func46 (by kernel_rfl : _ = some Z7p) (by kernel_rfl) 13 (by kernel_rfl) (Nat.le_of_ble_eq_true rfl) [.t 3] (by kernel_rfl) (by kernel_rfl) (Zai6 r a0 b0 y h0 (Z0 (fun s _ _ _ => nomatch s) h1))
noncomputable def Zex : Code := (Go.Proofs.Tryz.f69.body).getD .skip
noncomputable def Zcr (r : (Int × Int)) : PV := (wI r.1)
noncomputable def Zcx (r : (Int × Int)) : List (Nat × Blk) := [(0, .box (List.map .t ((cI .i64) r.2)))]
noncomputable def Zgt : Zaf → Cfg
 | .L0 _ _ _ _ => (nav [1, 0, 1, 4] Zex []).getD (.done .normal)
noncomputable def Zgx : Zaf → PW.St
 | .L0 v0 b0 v7 v8 => ⟨19, [(0, (wL Z1 v0)), (1, (.fn 46 [(.bptr 0 0)])), (7, (wI v7)), (8, (wI v8))], [(0, .box [(wI b0)])]⟩
abbrev Zgu (r : (Int × Int)) (y : Zaf ⊕ (Int × Int)) : Prop := Ok PR [.t 4] (Zcx) Zcr Zgt Zgx r y
theorem Zl3 (r : (Int × Int)) (v0 : (List Z5)) (b0 : Int) (v7 : Int) (v8 : Int) (y : Zaf ⊕ (Int × Int)) (h : Zbd v0 b0 v7 v8 = some y) (hk : Zgu r y) : (Zgt (.L0 v0 b0 v7 v8)).HH PR [.t 4] Zcx Zcr r (Zgx (.L0 v0 b0 v7 v8)) :=
 Za h (fun h1 h => have q := (q0.t 1 h1).b (Zs Z1 3 (fun _ => rfl) v0);
 Zb h fun x2 h3 h => have q := ((q.o [.cs (Z1 x2)]).b (Z2 h3)).b (Zz Z1 h3);
 Zb h fun x4 h5 h => have q := (q.o [.callO false [0] 170000 [] (wB x4)]).b (Zalt x2 b0 h5);
 Za h (fun h6 h => lO h hk [0] (q.t 1 h6)) (fun h6 h => lG h hk ((q.f 1 h6).o [.pick [8, 0, 1, 7] [0], .pick [0, 1, 7, 8] [0]]))) (fun h1 h => lO h hk [0] (q0.f 1 h1))
theorem Zmc (r : (Int × Int)) (a0 : (List Z5)) (b0 : Int) (y : Zaf ⊕ (Int × Int)) (h : Zew a0 b0 = some y) (hk : Zgu r y) : (Cfg.code Zex []).HH PR [.t 4] Zcx Zcr r ⟨19, idx 0 [(wL Z1 a0), (.fn 46 [(.bptr 0 0)])], [(0, .box (List.map .t ((cI .i64) b0)))]⟩ :=
 lG h hk ((q0.o [.num (a0.length : Int), .pick [8, 7, 1, 0] [0], .pick [0, 1, 7, 8] [0]]).b (Zt Z1 a0))
theorem Zmg (a0 : (List Z5)) (b0 : Int) {r : (Int × Int)} (h : Ze6 a0 b0 = some r) : FnG PR 69 [(0, .box (List.map .t ((cI .i64) b0)))] [(wL Z1 a0), (.fn 46 [(.bptr 0 0)])] ((Zcx) r) (Zcr r) :=
 Zb h fun y h0 h1 => FnG.of_cfg hT Go.Proofs.Tryz.func69 (by kernel_rfl : _ = some Zex) (by kernel_rfl) 19 (by kernel_rfl) (Nat.le_of_ble_eq_true rfl) [.t 4] (by kernel_rfl) (by kernel_rfl) (Zmc r a0 b0 y h0 (Z0 (fun s y h hk => match s with
 | .L0 v0 b0 v7 v8 => Zl3 r v0 b0 v7 v8 y h hk) h1))
noncomputable def Zgl : Code := (Go.Proofs.Tryz.f45.body).getD .skip
noncomputable def Zd1 (r : (Bool × Int)) : PV := (wB r.1)
noncomputable def Zd9 (r : (Bool × Int)) : List (Nat × Blk) := [(0, .box (List.map .t ((cI .i64) r.2)))]
noncomputable def Zk9 : Zas → Cfg := fun s => nomatch s
noncomputable def Zl4 : Zas → PW.St := fun s => nomatch s
abbrev Zla (r : (Bool × Int)) (y : Zas ⊕ (Bool × Int)) : Prop := Ok PR [.t 4] (Zd9) Zd1 Zk9 Zl4 r y
theorem Zk1 (r : (Bool × Int)) (a0 : (List Z5)) (b0 : Int) (y : Zas ⊕ (Bool × Int)) (h : Zeb a0 b0 = some y) (hk : Zla r y) : (Cfg.code Zgl []).HH PR [.t 4] Zd9 Zd1 r ⟨9, idx 0 [(wL Z1 a0), (.fn 46 [(.bptr 0 0)])], [(0, .box (List.map .t ((cI .i64) b0)))]⟩ :=
 Zb h fun x1 h2 h => lO h hk [0] ((q0.o [.callU false [0] 80000 [(0, .box (List.map .t ((cI .i64) x1.2)))] (wI x1.1)]).b (Zmg a0 b0 h2))
theorem Zlb (a0 : (List Z5)) (b0 : Int) {r : (Bool × Int)} (h : Zcw a0 b0 = some r) : FnG PR 45 [(0, .box (List.map .t ((cI .i64) b0)))] [(wL Z1 a0), (.fn 46 [(.bptr 0 0)])] ((Zd9) r) (Zd1 r) :=
 Zb h fun y h0 h1 => FnG.of_cfg hT Go.Proofs.Tryz.func45 (by kernel_rfl : _ = some Zgl) (by kernel_rfl) 9 (by kernel_rfl) (Nat.le_of_ble_eq_true rfl) [.t 4] (by kernel_rfl) (by kernel_rfl) (Zk1 r a0 b0 y h0 (Z0 (fun s _ _ _ => nomatch s) h1))
noncomputable def Z1r : Code := (Go.Proofs.Tryz.f44.body).getD .skip
noncomputable def Zpv (r : Bool) : PV := (wB r)
noncomputable def Zqx (b0 : Zan) (b1 : Int) (r : Bool) : List (Nat × Blk) := [(0, .box (bx (Zge b0))), (1, .box (List.map .t ((cI .i64) b1)))]
noncomputable def Zaec : Zg6 → Cfg := fun s => nomatch s
noncomputable def Zahv : Zg6 → PW.St := fun s => nomatch s
abbrev Zaed (b0 : Zan) (b1 : Int) (r : Bool) (y : Zg6 ⊕ Bool) : Prop := Ok PR [.t 4] (Zqx b0 b1) Zpv Zaec Zahv r y
theorem Zadt (r : Bool) (a0 : Int) (b0 : Zan) (b1 : Int) (y : Zg6 ⊕ Bool) (h : Zrz a0 b0 b1 = some y) (hk : Zaed b0 b1 r y) : (Cfg.code Z1r []).holds PR (Upto (RetQ [.t 4] ((Zqx b0 b1) r) (Zpv r))) ⟨23, idx 0 [(wI a0), (.bptr 0 0), (.bptr 1 0)], [(0, .box (bx (Zge b0))), (1, .box (List.map .t ((cI .i64) b1)))]⟩ := have q := q0.o [.lab 1003];
 Za h (fun h1 h => have q := q.t 6 h1;
 Za h (fun h2 h => Zb h fun x3 h4 h => lO h hk [0, 1] ((((q.t 5 h2).o [.callU false [1003] 220000 [(0, .box (List.map .t ((cI .i64) x3.2)))] (wB x3.1)]).t 1 (Zlb b0.Pending.Options a0 h4)).b h2)) (fun h2 h => lO h hk [0, 1] (q.f 6 h2))) (fun h1 h => lO h hk [0, 1] (((q.ff 12).a 6 h1).a 6 (Eq.refl false)))
theorem Zaee (a0 : Int) (b0 : Zan) (b1 : Int) {r : Bool} (h : Zps a0 b0 b1 = some r) : FnG PR 44 [(0, .box (bx (Zge b0))), (1, .box (List.map .t ((cI .i64) b1)))] [(wI a0), (.bptr 0 0), (.bptr 1 0)] ((Zqx b0 b1) r) (Zpv r) :=
 Zb h fun y h0 h1 => FnG.of_cfg hT Go.Proofs.Tryz.func44 (by kernel_rfl : _ = some Z1r) (by kernel_rfl) 23 (by kernel_rfl) (Nat.le_of_ble_eq_true rfl) [.t 4] (by kernel_rfl) (by kernel_rfl) (Zadt r a0 b0 b1 y h0 (Z0 (fun s _ _ _ => nomatch s) h1))
noncomputable def Zafy : Code := (Go.Proofs.Tryz.f18.body).getD .skip
noncomputable def Zy6 (r : Zaq) : PV := (.agg [(wI r.Player), (.osl 5001 (List.map Za2 r.Players).length), (wL (cI .i64) r.Hand), (.osl 5003 (List.map Zd r.Objects).length), (wL (cI .i64) r.Battlefield), (wL (cI .i64) r.Exile), (wL Zl r.Stack), (wL Zm r.Waiting), (wL Zn r.Conts), (wI r.Turn), (wI r.Active), (wI r.Step), (wI r.Priority), (wI r.Passes), (wI r.NextId), (wI r.Over), (wI r.Winner), (wL (cI .i64) r.Extra), (wI r.Pending.Kind), (wI r.Pending.Player), (wI r.Pending.Source), (wI r.Pending.Least), (wI r.Pending.Most), (wI r.Pending.N), (.osl 5024 (List.map Z1 r.Pending.Options).length)])
noncomputable def Z3z (r : Zaq) : List (Nat × Blk) := [(5001, .row 13 (List.map Za2 r.Players)), (5003, .row 19 (List.map Zd r.Objects)), (5024, .row 3 (List.map Z1 r.Pending.Options))]
noncomputable def Zahw : Znm → Cfg
 | .L0 _ _ _ _ _ _ _ _ => (nav [1, 1, 1, 1, 0, 1, 4] Zafy []).getD (.done .normal)
 | .L1 _ _ _ _ _ _ _ _ => (nav [1, 1, 1, 1, 1, 0, 1, 4] Zafy []).getD (.done .normal)
noncomputable def Zalu : Znm → PW.St
 | .L0 E0 E1 E2 E3 E4 v47 v48 v49 => ⟨133, [(2, (.bptr 30000000 0)), (3, (.bptr 30000001 0)), (4, (.bptr 30000002 0)), (5, (.bptr 30000003 0)), (6, (.fn 44 [(.bptr 30000000 0), (.bptr 30000001 0)])), (7, (.bptr 30000004 0)), (47, (wL Zh v47)), (48, (wI v48)), (49, (wI v49))], [(30000000, .box (bx (Zge E0))), (30000001, .box [(wI E1)]), (30000002, .box [(wI E2.Player), (.osl 40000201 (List.map Za2 E2.Players).length), (.osl 40000202 (List.map (cI .i64) E2.Hand).length), (.osl 40000203 (List.map Zd E2.Objects).length), (.osl 40000204 (List.map (cI .i64) E2.Battlefield).length), (.osl 40000205 (List.map (cI .i64) E2.Exile).length), (.osl 40000206 (List.map Zl E2.Stack).length), (.osl 40000207 (List.map Zm E2.Waiting).length), (.osl 40000208 (List.map Zn E2.Conts).length), (wI E2.Turn), (wI E2.Active), (wI E2.Step), (wI E2.Priority), (wI E2.Passes), (wI E2.NextId), (wI E2.Over), (wI E2.Winner), (.osl 40000217 (List.map (cI .i64) E2.Extra).length), (wI E2.Pending.Kind), (wI E2.Pending.Player), (wI E2.Pending.Source), (wI E2.Pending.Least), (wI E2.Pending.Most), (wI E2.Pending.N), (.osl 40000224 (List.map Z1 E2.Pending.Options).length)]), (40000201, .row 13 (List.map Za2 E2.Players)), (40000202, .row 1 (List.map (cI .i64) E2.Hand)), (40000203, .row 19 (List.map Zd E2.Objects)), (40000204, .row 1 (List.map (cI .i64) E2.Battlefield)), (40000205, .row 1 (List.map (cI .i64) E2.Exile)), (40000206, .row 94 (List.map Zl E2.Stack)), (40000207, .row 89 (List.map Zm E2.Waiting)), (40000208, .row 6 (List.map Zn E2.Conts)), (40000217, .row 1 (List.map (cI .i64) E2.Extra)), (40000224, .row 3 (List.map Z1 E2.Pending.Options)), (30000003, .box (bx (Z4 E3))), (30000004, .box [(wI E4.Player), (.osl 40000401 (List.map Za2 E4.Players).length), (wL (cI .i64) E4.Hand), (.osl 40000403 (List.map Zd E4.Objects).length), (wL (cI .i64) E4.Battlefield), (wL (cI .i64) E4.Exile), (wL Zl E4.Stack), (wL Zm E4.Waiting), (wL Zn E4.Conts), (wI E4.Turn), (wI E4.Active), (wI E4.Step), (wI E4.Priority), (wI E4.Passes), (wI E4.NextId), (wI E4.Over), (wI E4.Winner), (wL (cI .i64) E4.Extra), (wI E4.Pending.Kind), (wI E4.Pending.Player), (wI E4.Pending.Source), (wI E4.Pending.Least), (wI E4.Pending.Most), (wI E4.Pending.N), (.osl 40000424 (List.map Z1 E4.Pending.Options).length)]), (40000401, .row 13 (List.map Za2 E4.Players)), (40000403, .row 19 (List.map Zd E4.Objects)), (40000424, .row 3 (List.map Z1 E4.Pending.Options))]⟩
 | .L1 E0 E1 E2 E3 E4 v86 v87 v88 => ⟨133, [(2, (.bptr 30000000 0)), (3, (.bptr 30000001 0)), (4, (.bptr 30000002 0)), (5, (.bptr 30000003 0)), (6, (.fn 44 [(.bptr 30000000 0), (.bptr 30000001 0)])), (7, (.bptr 30000004 0)), (86, (wL Zd v86)), (87, (wI v87)), (88, (wI v88))], [(30000000, .box (bx (Zge E0))), (30000001, .box [(wI E1)]), (30000002, .box [(wI E2.Player), (.osl 40000201 (List.map Za2 E2.Players).length), (.osl 40000202 (List.map (cI .i64) E2.Hand).length), (.osl 40000203 (List.map Zd E2.Objects).length), (.osl 40000204 (List.map (cI .i64) E2.Battlefield).length), (.osl 40000205 (List.map (cI .i64) E2.Exile).length), (.osl 40000206 (List.map Zl E2.Stack).length), (.osl 40000207 (List.map Zm E2.Waiting).length), (.osl 40000208 (List.map Zn E2.Conts).length), (wI E2.Turn), (wI E2.Active), (wI E2.Step), (wI E2.Priority), (wI E2.Passes), (wI E2.NextId), (wI E2.Over), (wI E2.Winner), (.osl 40000217 (List.map (cI .i64) E2.Extra).length), (wI E2.Pending.Kind), (wI E2.Pending.Player), (wI E2.Pending.Source), (wI E2.Pending.Least), (wI E2.Pending.Most), (wI E2.Pending.N), (.osl 40000224 (List.map Z1 E2.Pending.Options).length)]), (40000201, .row 13 (List.map Za2 E2.Players)), (40000202, .row 1 (List.map (cI .i64) E2.Hand)), (40000203, .row 19 (List.map Zd E2.Objects)), (40000204, .row 1 (List.map (cI .i64) E2.Battlefield)), (40000205, .row 1 (List.map (cI .i64) E2.Exile)), (40000206, .row 94 (List.map Zl E2.Stack)), (40000207, .row 89 (List.map Zm E2.Waiting)), (40000208, .row 6 (List.map Zn E2.Conts)), (40000217, .row 1 (List.map (cI .i64) E2.Extra)), (40000224, .row 3 (List.map Z1 E2.Pending.Options)), (30000003, .box (bx (Z4 E3))), (30000004, .box [(wI E4.Player), (.osl 40000401 (List.map Za2 E4.Players).length), (wL (cI .i64) E4.Hand), (.osl 40000403 (List.map Zd E4.Objects).length), (wL (cI .i64) E4.Battlefield), (wL (cI .i64) E4.Exile), (wL Zl E4.Stack), (wL Zm E4.Waiting), (wL Zn E4.Conts), (wI E4.Turn), (wI E4.Active), (wI E4.Step), (wI E4.Priority), (wI E4.Passes), (wI E4.NextId), (wI E4.Over), (wI E4.Winner), (wL (cI .i64) E4.Extra), (wI E4.Pending.Kind), (wI E4.Pending.Player), (wI E4.Pending.Source), (wI E4.Pending.Least), (wI E4.Pending.Most), (wI E4.Pending.N), (.osl 40000424 (List.map Z1 E4.Pending.Options).length)]), (40000401, .row 13 (List.map Za2 E4.Players)), (40000403, .row 19 (List.map Zd E4.Objects)), (40000424, .row 3 (List.map Z1 E4.Pending.Options))]⟩
abbrev Zahx (r : Zaq) (y : Znm ⊕ Zaq) : Prop := Ok PR [.c 4 49 true 25] (Z3z) Zy6 Zahw Zalu r y
theorem Zbap (r : Zaq) (E0 : Zan) (E1 : Int) (E2 : Zaq) (E3 : Zc) (E4 : Zaq) (v47 : (List Zaa)) (v48 : Int) (v49 : Int) (y : Znm ⊕ Zaq) (h : Zx3 E0 E1 E2 E3 E4 v47 v48 v49 = some y) (hk : Zahx r y) : (Zahw (.L0 E0 E1 E2 E3 E4 v47 v48 v49)).HH PR [.c 4 49 true 25] Z3z Zy6 r (Zalu (.L0 E0 E1 E2 E3 E4 v47 v48 v49)) :=
 Za h (fun h1 h => have q := (q0.t 1 h1).b (Zs Zh 14 (fun _ => rfl) v47);
 Zb h fun x2 h3 h => have q := (((((q.o [.cs (Zh x2), .lab 1009, .num (x2.Library.length : Int), .num (x2.Hand.length : Int), .lit]).b (Z2 h3)).b (Zz Zh h3)).b (Zt (cI .i64) x2.Library)).b (Zt (cI .i64) x2.Hand)).b (Eq.refl (List.map Za2 E4.Players).length);
 Zb h fun x7 h8 h => have q := ((((q.o [.es (List.map Za2 x7)]).b (Zdw Za2 h8)).b (Zs Za2 13 (fun _ => rfl) [(⟨x2.Life, x2.Venom, x2.Lands, (x2.Library.length : Int), (x2.Hand.length : Int), x2.Pool, x2.Lost, x2.Graveyard⟩ : Zct)])).b (Zdx Za2 h8)).b (Zca Za2 h8);
 Za h (fun h11 h => lG h hk ((q.t 1 h11).o [.pick [49, 2, 3, 4, 5, 6, 7, 47, 48] [30000004, 40000401, 30000000, 30000001, 30000002, 40000201, 40000202, 40000203, 40000204, 40000205, 40000206, 40000207, 40000208, 40000217, 40000224, 30000003, 40000403, 40000424], .pick [2, 3, 4, 5, 6, 7, 47, 48, 49] [30000000, 30000001, 30000002, 40000201, 40000202, 40000203, 40000204, 40000205, 40000206, 40000207, 40000208, 40000217, 40000224, 30000003, 30000004, 40000401, 40000403, 40000424]])) (fun h11 h => lG h hk ((q.f 1 h11).o [.pick [49, 2, 3, 4, 5, 6, 7, 47, 48] [30000004, 40000401, 30000000, 30000001, 30000002, 40000201, 40000202, 40000203, 40000204, 40000205, 40000206, 40000207, 40000208, 40000217, 40000224, 30000003, 40000403, 40000424], .pick [2, 3, 4, 5, 6, 7, 47, 48, 49] [30000000, 30000001, 30000002, 40000201, 40000202, 40000203, 40000204, 40000205, 40000206, 40000207, 40000208, 40000217, 40000224, 30000003, 30000004, 40000401, 40000403, 40000424]]))) (fun h1 h => lG h hk (((q0.f 1 h1).o [.num (E3.Objects.length : Int), .pick [88, 87, 86, 2, 3, 4, 5, 6, 7] [30000000, 30000001, 30000002, 40000201, 40000202, 40000203, 40000204, 40000205, 40000206, 40000207, 40000208, 40000217, 40000224, 30000003, 30000004, 40000401, 40000403, 40000424], .pick [2, 3, 4, 5, 6, 7, 86, 87, 88] [30000000, 30000001, 30000002, 40000201, 40000202, 40000203, 40000204, 40000205, 40000206, 40000207, 40000208, 40000217, 40000224, 30000003, 30000004, 40000401, 40000403, 40000424]]).b (Zt Zd E3.Objects)))
theorem Zbaq (r : Zaq) (E0 : Zan) (E1 : Int) (E2 : Zaq) (E3 : Zc) (E4 : Zaq) (v86 : (List Zf)) (v87 : Int) (v88 : Int) (y : Znm ⊕ Zaq) (h : Zx4 E0 E1 E2 E3 E4 v86 v87 v88 = some y) (hk : Zahx r y) : (Zahw (.L1 E0 E1 E2 E3 E4 v86 v87 v88)).HH PR [.c 4 49 true 25] Z3z Zy6 r (Zalu (.L1 E0 E1 E2 E3 E4 v86 v87 v88)) :=
 Za h (fun h1 h => have q := (q0.t 1 h1).b (Zs Zd 19 (fun _ => rfl) v86);
 Zb h fun x2 h3 h => have q := ((q.o [.cs (Zd x2), .lab 1011]).b (Z2 h3)).b (Zz Zd h3);
 Zb h fun x4 h5 h => have q := (q.k x4).b (Zp3 E3 E1 x2.Id h5);
 Za h (fun h6 h => Zb h fun x8 h9 h => lG h hk (((((((((q.tt 6).o [.lit, .es (List.map Zd x8), .pick [88, 2, 3, 4, 5, 6, 7, 86, 87] [30000004, 40000403, 30000000, 30000001, 30000002, 40000201, 40000202, 40000203, 40000204, 40000205, 40000206, 40000207, 40000208, 40000217, 40000224, 30000003, 40000401, 40000424], .pick [2, 3, 4, 5, 6, 7, 86, 87, 88] [30000000, 30000001, 30000002, 40000201, 40000202, 40000203, 40000204, 40000205, 40000206, 40000207, 40000208, 40000217, 40000224, 30000003, 30000004, 40000401, 40000403, 40000424]]).a 5 h6).b (Eq.refl true)).b (Eq.refl (List.map Zd E4.Objects).length)).b (Zdw Zd h9)).b (Zs Zd 19 (fun _ => rfl) [x2])).b (Zdx Zd h9)).b (Zca Zd h9))) (fun h6 h => have q := q.f 4 h6;
 Zb h fun x14 h15 h => have q := ((q.o [.callO false [30000000, 30000001] 1020000 [] (wB x14)]).f 1 (Zaee x2.Id E0 E1 h15)).b h6;
 Za h (fun h16 h => Zb h fun x18 h19 h => lG h hk (((((((q.t 1 h16).o [.lit, .es (List.map Zd x18), .pick [88, 2, 3, 4, 5, 6, 7, 86, 87] [30000004, 40000403, 30000000, 30000001, 30000002, 40000201, 40000202, 40000203, 40000204, 40000205, 40000206, 40000207, 40000208, 40000217, 40000224, 30000003, 40000401, 40000424], .pick [2, 3, 4, 5, 6, 7, 86, 87, 88] [30000000, 30000001, 30000002, 40000201, 40000202, 40000203, 40000204, 40000205, 40000206, 40000207, 40000208, 40000217, 40000224, 30000003, 30000004, 40000401, 40000403, 40000424]]).b (Eq.refl (List.map Zd E4.Objects).length)).b (Zdw Zd h19)).b (Zs Zd 19 (fun _ => rfl) [x2])).b (Zdx Zd h19)).b (Zca Zd h19))) (fun h16 h => lG h hk ((q.f 1 h16).o [.pick [88, 2, 3, 4, 5, 6, 7, 86, 87] [30000000, 30000001, 30000002, 40000201, 40000202, 40000203, 40000204, 40000205, 40000206, 40000207, 40000208, 40000217, 40000224, 30000003, 30000004, 40000401, 40000403, 40000424], .pick [2, 3, 4, 5, 6, 7, 86, 87, 88] [30000000, 30000001, 30000002, 40000201, 40000202, 40000203, 40000204, 40000205, 40000206, 40000207, 40000208, 40000217, 40000224, 30000003, 30000004, 40000401, 40000403, 40000424]])))) (fun h1 h => have q := q0.f 1 h1;
 Za h (fun h26 h => Zb h fun x27 h28 h => lO h hk [5001, 5003, 5024] (((q.t 1 h26).o [.callO false [] 1300000 [(5000, .row 3 (List.map Z1 x27))] (.osl 5000 (List.map Z1 x27).length), .relab 40000401 5001, .relab 40000403 5003, .relab 1305000 5024]).b (Zsv E0.Pending.Options h28))) (fun h26 h => lO h hk [5001, 5003, 5024] ((q.f 1 h26).o [.relab 40000401 5001, .relab 40000403 5003, .ownb 30000002 24 5024 3])))
theorem Zbfg (r : Zaq) (a0 : Zan) (a1 : Int) (y : Znm ⊕ Zaq) (h : Zaow a0 a1 = some y) (hk : Zahx r y) : (Cfg.code Zafy []).HH PR [.c 4 49 true 25] Z3z Zy6 r ⟨133, idx 0 [(.agg (bx (Zge a0))), (wI a1)], []⟩ :=
 Zb h fun x1 h2 h => lG h hk (((q0.o [.lab 1002, .lab 1003, .lab 1004, .call (.agg (bx (Z4 x1))), .lab 1005, .lab 1007, .num (x1.Players.length : Int), .pick [49, 48, 47, 7, 6, 5, 4, 3, 2] [1007, 1005, 1004, 1003, 1002], .relab 1002 30000000, .relab 1003 30000001, .relab 1004 30000002, .relab 1005 30000003, .relab 1007 30000004, .ownb 30000002 1 40000201 13, .ownb 30000002 2 40000202 1, .ownb 30000002 3 40000203 19, .ownb 30000002 4 40000204 1, .ownb 30000002 5 40000205 1, .ownb 30000002 6 40000206 94, .ownb 30000002 7 40000207 89, .ownb 30000002 8 40000208 6, .ownb 30000002 17 40000217 1, .ownb 30000002 24 40000224 3, .ownb 30000004 1 40000401 13, .niltb 30000004 2, .ownb 30000004 3 40000403 19, .ownb 30000004 24 40000424 3, .pick [2, 3, 4, 5, 6, 7, 47, 48, 49] [30000000, 30000001, 30000002, 40000201, 40000202, 40000203, 40000204, 40000205, 40000206, 40000207, 40000208, 40000217, 40000224, 30000003, 30000004, 40000401, 40000403, 40000424]]).b (Zbfd a0.State h2)).b (Zt Zh x1.Players))
theorem Zbjg (a0 : Zan) (a1 : Int) {r : Zaq} (h : Zaas a0 a1 = some r) : FnG PR 18 [] [(.agg (bx (Zge a0))), (wI a1)] ((Z3z) r) (Zy6 r) :=
 Zb h fun y h0 h1 => FnG.of_cfg hT Go.Proofs.Tryz.func18 (by kernel_rfl : _ = some Zafy) (by kernel_rfl) 133 (by kernel_rfl) (Nat.le_of_ble_eq_true rfl) [.c 4 49 true 25] (by kernel_rfl) (by kernel_rfl) (Zbfg r a0 a1 y h0 (Z0 (fun s y h hk => match s with
 | .L0 E0 E1 E2 E3 E4 v47 v48 v49 => Zbap r E0 E1 E2 E3 E4 v47 v48 v49 y h hk
 | .L1 E0 E1 E2 E3 E4 v86 v87 v88 => Zbaq r E0 E1 E2 E3 E4 v86 v87 v88 y h hk) h1))
theorem Za2m (a0 : Zan) (a1 : Int) {r : Zaq} (h : Zaas a0 a1 = some r) : Fn PR 18 [(.agg (bx (Zge a0))), (wI a1)] (.agg (bx (Zod r))) :=
 FnG.frozen (Zbjg a0 a1 h) (And.intro (Eq.refl (List.map Za2 r.Players).length) (And.intro (Eq.refl (List.map Zd r.Objects).length) (And.intro (Eq.refl (List.map Z1 r.Pending.Options).length) trivial))) (by kernel_rfl)
noncomputable def Zalv : Code := (Go.Proofs.Tryz.f22.body).getD .skip
noncomputable def Z30 (r : Bool) : PV := (wB r)
noncomputable def Zahy (r : Bool) : List (Nat × Blk) := []
noncomputable def Zaq4 : Zlv → Cfg
 | .L0 _ _ _ => (nav [1, 1, 0, 1, 4] Zalv []).getD (.done .normal)
noncomputable def Zavn : Zlv → PW.St
 | .L0 v0 v1 v5 => ⟨26, [(0, (wL (cI .i64) v0)), (1, (wL (cI .i64) v1)), (5, (wI v5))], []⟩
abbrev Zaq5 (r : Bool) (y : Zlv ⊕ Bool) : Prop := Ok PR [.t 4] (Zahy) Z30 Zaq4 Zavn r y
theorem Za58 (r : Bool) (v0 : (List Int)) (v1 : (List Int)) (v5 : Int) (y : Zlv ⊕ Bool) (h : Zuz v0 v1 v5 = some y) (hk : Zaq5 r y) : (Zaq4 (.L0 v0 v1 v5)).HH PR [.t 4] Zahy Z30 r (Zavn (.L0 v0 v1 v5)) := have q := (q0.n (v0.length : Int)).b (Zt (cI .i64) v0);
 Za h (fun h2 h => have q := (q.t 1 h2).b (Zs (cI .i64) 1 (fun _ => rfl) v0);
 Zb h fun x3 h4 h => have q := (((q.o [.cs ((cI .i64) x3)]).b (Z2 h4)).b (Zz (cI .i64) h4)).b (Zs (cI .i64) 1 (fun _ => rfl) v1);
 Zb h fun x5 h6 h => have q := ((q.o [.cs ((cI .i64) x5)]).b (Z2 h6)).b (Zz (cI .i64) h6);
 Za h (fun h7 h => lR h hk (q.t 1 h7)) (fun h7 h => lG h hk ((q.f 1 h7).o [.pick [5, 0, 1] [], .pick [0, 1, 5] []]))) (fun h2 h => lR h hk (q.f 1 h2))
theorem Zbar (r : Bool) (a0 : (List Int)) (a1 : (List Int)) (y : Zlv ⊕ Bool) (h : Zaku a0 a1 = some y) (hk : Zaq5 r y) : (Cfg.code Zalv []).HH PR [.t 4] Zahy Z30 r ⟨26, idx 0 [(wL (cI .i64) a0), (wL (cI .i64) a1)], []⟩ := have q := ((q0.o [.num (a0.length : Int), .num (a1.length : Int)]).b (Zt (cI .i64) a0)).b (Zt (cI .i64) a1);
 Za h (fun h3 h => lR h hk (q.t 1 h3)) (fun h3 h => lG h hk ((q.f 1 h3).o [.pick [5, 1, 0] [], .pick [0, 1, 5] []]))
theorem Zbjh (a0 : (List Int)) (a1 : (List Int)) {r : Bool} (h : Zakv a0 a1 = some r) : Fn PR 22 [(wL (cI .i64) a0), (wL (cI .i64) a1)] (Z30 r) :=
 Zb h fun y h0 h1 => FnG.of_cfg hT Go.Proofs.Tryz.func22 (by kernel_rfl : _ = some Zalv) (by kernel_rfl) 26 (by kernel_rfl) (Nat.le_of_ble_eq_true rfl) [.t 4] (by kernel_rfl) (by kernel_rfl) (Zbar r a0 a1 y h0 (Z0 (fun s y h hk => match s with
 | .L0 v0 v1 v5 => Za58 r v0 v1 v5 y h hk) h1))
noncomputable def Zo2 : Code := (Go.Proofs.Tryz.f27.body).getD .skip
noncomputable def Zj6 (r : Bool) : PV := (wB r)
noncomputable def Zn7 (r : Bool) : List (Nat × Blk) := []
noncomputable def Zs3 : Zcf → Cfg
 | .L0 _ _ _ _ => (nav [1, 1, 0, 1, 4] Zo2 []).getD (.done .normal)
noncomputable def Zup : Zcf → PW.St
 | .L0 v0 v1 v12 v13 => ⟨26, [(0, (wL (cI .i64) v0)), (1, (wL (cI .i64) v1)), (12, (wI v12)), (13, (wI v13))], []⟩
abbrev Zs4 (r : Bool) (y : Zcf ⊕ Bool) : Prop := Ok PR [.t 4] (Zn7) Zj6 Zs3 Zup r y
theorem Z4k (r : Bool) (v0 : (List Int)) (v1 : (List Int)) (v12 : Int) (v13 : Int) (y : Zcf ⊕ Bool) (h : Zga v0 v1 v12 v13 = some y) (hk : Zs4 r y) : (Zs3 (.L0 v0 v1 v12 v13)).HH PR [.t 4] Zn7 Zj6 r (Zup (.L0 v0 v1 v12 v13)) :=
 Za h (fun h1 h => have q := (q0.t 1 h1).b (Zs (cI .i64) 1 (fun _ => rfl) v0);
 Zb h fun x2 h3 h => have q := (((q.o [.cs ((cI .i64) x2)]).b (Z2 h3)).b (Zz (cI .i64) h3)).b (Zs (cI .i64) 1 (fun _ => rfl) v1);
 Zb h fun x4 h5 h => have q := ((q.o [.cs ((cI .i64) x4)]).b (Z2 h5)).b (Zz (cI .i64) h5);
 Za h (fun h6 h => lR h hk (q.t 1 h6)) (fun h6 h => lG h hk ((q.f 1 h6).o [.pick [13, 0, 1, 12] [], .pick [0, 1, 12, 13] []]))) (fun h1 h => lR h hk (q0.f 1 h1))
theorem Z50 (r : Bool) (a0 : (List Int)) (a1 : (List Int)) (y : Zcf ⊕ Bool) (h : Zox a0 a1 = some y) (hk : Zs4 r y) : (Cfg.code Zo2 []).HH PR [.t 4] Zn7 Zj6 r ⟨26, idx 0 [(wL (cI .i64) a0), (wL (cI .i64) a1)], []⟩ := have q := ((q0.o [.num (a0.length : Int), .num (a1.length : Int)]).b (Zt (cI .i64) a0)).b (Zt (cI .i64) a1);
 Za h (fun h3 h => lR h hk (q.t 1 h3)) (fun h3 h => lG h hk (((q.f 1 h3).o [.num (a0.length : Int), .pick [13, 12, 1, 0] [], .pick [0, 1, 12, 13] []]).b (Zt (cI .i64) a0)))
theorem Zgb (a0 : (List Int)) (a1 : (List Int)) {r : Bool} (h : Zej a0 a1 = some r) : Fn PR 27 [(wL (cI .i64) a0), (wL (cI .i64) a1)] (Zj6 r) :=
 Zb h fun y h0 h1 => FnG.of_cfg hT Go.Proofs.Tryz.func27 (by kernel_rfl : _ = some Zo2) (by kernel_rfl) 26 (by kernel_rfl) (Nat.le_of_ble_eq_true rfl) [.t 4] (by kernel_rfl) (by kernel_rfl) (Z50 r a0 a1 y h0 (Z0 (fun s y h hk => match s with
 | .L0 v0 v1 v12 v13 => Z4k r v0 v1 v12 v13 y h hk) h1))
noncomputable def Zh4 : Code := (Go.Proofs.Tryz.f28.body).getD .skip
noncomputable def Zfk (r : Bool) : PV := (wB r)
noncomputable def Zhr (r : Bool) : List (Nat × Blk) := []
noncomputable def Zk2 : Zau → Cfg
 | .L0 _ _ _ _ => (nav [1, 1, 0, 1, 4] Zh4 []).getD (.done .normal)
noncomputable def Zl5 : Zau → PW.St
 | .L0 v0 v1 v12 v13 => ⟨26, [(0, (wL Zd v0)), (1, (wL Zd v1)), (12, (wI v12)), (13, (wI v13))], []⟩
abbrev Zk3 (r : Bool) (y : Zau ⊕ Bool) : Prop := Ok PR [.t 4] (Zhr) Zfk Zk2 Zl5 r y
theorem Zre (r : Bool) (v0 : (List Zf)) (v1 : (List Zf)) (v12 : Int) (v13 : Int) (y : Zau ⊕ Bool) (h : Zcy v0 v1 v12 v13 = some y) (hk : Zk3 r y) : (Zk2 (.L0 v0 v1 v12 v13)).HH PR [.t 4] Zhr Zfk r (Zl5 (.L0 v0 v1 v12 v13)) :=
 Za h (fun h1 h => have q := (q0.t 1 h1).b (Zs Zd 19 (fun _ => rfl) v0);
 Zb h fun x2 h3 h => have q := (((q.o [.cs (Zd x2)]).b (Z2 h3)).b (Zz Zd h3)).b (Zs Zd 19 (fun _ => rfl) v1);
 Zb h fun x4 h5 h => have q := ((q.o [.cs (Zd x4)]).b (Z2 h5)).b (Zz Zd h5);
 Za h (fun h6 h => lR h hk (q.t 1 h6)) (fun h6 h => lG h hk ((q.f 1 h6).o [.pick [13, 0, 1, 12] [], .pick [0, 1, 12, 13] []]))) (fun h1 h => lR h hk (q0.f 1 h1))
theorem Zsc (r : Bool) (a0 : (List Zf)) (a1 : (List Zf)) (y : Zau ⊕ Bool) (h : Zh0 a0 a1 = some y) (hk : Zk3 r y) : (Cfg.code Zh4 []).HH PR [.t 4] Zhr Zfk r ⟨26, idx 0 [(wL Zd a0), (wL Zd a1)], []⟩ := have q := ((q0.o [.num (a0.length : Int), .num (a1.length : Int)]).b (Zt Zd a0)).b (Zt Zd a1);
 Za h (fun h3 h => lR h hk (q.t 1 h3)) (fun h3 h => lG h hk (((q.f 1 h3).o [.num (a0.length : Int), .pick [13, 12, 1, 0] [], .pick [0, 1, 12, 13] []]).b (Zt Zd a0)))
theorem Ztv (a0 : (List Zf)) (a1 : (List Zf)) {r : Bool} (h : Zf2 a0 a1 = some r) : Fn PR 28 [(wL Zd a0), (wL Zd a1)] (Zfk r) :=
 Zb h fun y h0 h1 => FnG.of_cfg hT Go.Proofs.Tryz.func28 (by kernel_rfl : _ = some Zh4) (by kernel_rfl) 26 (by kernel_rfl) (Nat.le_of_ble_eq_true rfl) [.t 4] (by kernel_rfl) (by kernel_rfl) (Zsc r a0 a1 y h0 (Z0 (fun s y h hk => match s with
 | .L0 v0 v1 v12 v13 => Zre r v0 v1 v12 v13 y h hk) h1))
noncomputable def Zafz : Code := (Go.Proofs.Tryz.f30.body).getD .skip
noncomputable def Zyt (r : Bool) : PV := (wB r)
noncomputable def Zadu (r : Bool) : List (Nat × Blk) := []
noncomputable def Zatn : Zlw → Cfg := fun s => nomatch s
noncomputable def Zaxq : Zlw → PW.St := fun s => nomatch s
abbrev Zato (r : Bool) (y : Zlw ⊕ Bool) : Prop := Ok PR [.t 4] (Zadu) Zyt Zatn Zaxq r y
theorem Zaq6 (r : Bool) (a0 : Zct) (a1 : Zct) (y : Zlw ⊕ Bool) (h : Z2s a0 a1 = some y) (hk : Zato r y) : (Cfg.code Zafz []).HH PR [.t 4] Zadu Zyt r ⟨59, idx 0 [(.agg (bx (Za2 a0))), (.agg (bx (Za2 a1)))], []⟩ := have q := q0.o [.lab 1002, .lab 1003];
 Za h (fun h1 h => have q := q.t 6 h1;
 Za h (fun h2 h => have q := q.t 6 h2;
 Za h (fun h3 h => have q := q.t 6 h3;
 Za h (fun h4 h => have q := q.t 6 h4;
 Za h (fun h5 h => have q := q.t 6 h5;
 Za h (fun h6 h => have q := q.t 6 h6;
 Za h (fun h7 h => Zb h fun x8 h9 h => lR h hk ((((q.t 5 h7).k x8).t 1 (Zgb a0.Graveyard a1.Graveyard h9)).b h7)) (fun h7 h => lR h hk (q.f 6 h7))) (fun h6 h => lR h hk (((q.ff 12).a 6 h6).a 6 (Eq.refl false)))) (fun h5 h => lR h hk (((q.ff 18).a 6 h5).a 12 (Eq.refl false)))) (fun h4 h => lR h hk (((q.ff 24).a 6 h4).a 18 (Eq.refl false)))) (fun h3 h => lR h hk (((q.ff 30).a 6 h3).a 24 (Eq.refl false)))) (fun h2 h => lR h hk (((q.ff 36).a 6 h2).a 30 (Eq.refl false)))) (fun h1 h => lR h hk (((q.ff 42).a 6 h1).a 36 (Eq.refl false)))
theorem Zaxr (a0 : Zct) (a1 : Zct) {r : Bool} (h : Zzn a0 a1 = some r) : Fn PR 30 [(.agg (bx (Za2 a0))), (.agg (bx (Za2 a1)))] (Zyt r) :=
 Zb h fun y h0 h1 => FnG.of_cfg hT Go.Proofs.Tryz.func30 (by kernel_rfl : _ = some Zafz) (by kernel_rfl) 59 (by kernel_rfl) (Nat.le_of_ble_eq_true rfl) [.t 4] (by kernel_rfl) (by kernel_rfl) (Zaq6 r a0 a1 y h0 (Z0 (fun s _ _ _ => nomatch s) h1))
noncomputable def Zh5 : Code := (Go.Proofs.Tryz.f54.body).getD .skip
noncomputable def Zfl (r : Bool) : PV := (wB r)
noncomputable def Zhs (r : Bool) : List (Nat × Blk) := []
noncomputable def Zk4 : Zav → Cfg
 | .L0 _ _ _ _ => (nav [1, 1, 0, 1, 4] Zh5 []).getD (.done .normal)
noncomputable def Zl6 : Zav → PW.St
 | .L0 v0 v1 v12 v13 => ⟨26, [(0, (wL Zad v0)), (1, (wL Zad v1)), (12, (wI v12)), (13, (wI v13))], []⟩
abbrev Zk5 (r : Bool) (y : Zav ⊕ Bool) : Prop := Ok PR [.t 4] (Zhs) Zfl Zk4 Zl6 r y
theorem Zrf (r : Bool) (v0 : (List Zar)) (v1 : (List Zar)) (v12 : Int) (v13 : Int) (y : Zav ⊕ Bool) (h : Zcz v0 v1 v12 v13 = some y) (hk : Zk5 r y) : (Zk4 (.L0 v0 v1 v12 v13)).HH PR [.t 4] Zhs Zfl r (Zl6 (.L0 v0 v1 v12 v13)) :=
 Za h (fun h1 h => have q := (q0.t 1 h1).b (Zs Zad 2 (fun _ => rfl) v0);
 Zb h fun x2 h3 h => have q := (((q.o [.cs (Zad x2)]).b (Z2 h3)).b (Zz Zad h3)).b (Zs Zad 2 (fun _ => rfl) v1);
 Zb h fun x4 h5 h => have q := ((q.o [.cs (Zad x4)]).b (Z2 h5)).b (Zz Zad h5);
 Za h (fun h6 h => lR h hk (q.t 1 h6)) (fun h6 h => lG h hk ((q.f 1 h6).o [.pick [13, 0, 1, 12] [], .pick [0, 1, 12, 13] []]))) (fun h1 h => lR h hk (q0.f 1 h1))
theorem Zsd (r : Bool) (a0 : (List Zar)) (a1 : (List Zar)) (y : Zav ⊕ Bool) (h : Zh1 a0 a1 = some y) (hk : Zk5 r y) : (Cfg.code Zh5 []).HH PR [.t 4] Zhs Zfl r ⟨26, idx 0 [(wL Zad a0), (wL Zad a1)], []⟩ := have q := ((q0.o [.num (a0.length : Int), .num (a1.length : Int)]).b (Zt Zad a0)).b (Zt Zad a1);
 Za h (fun h3 h => lR h hk (q.t 1 h3)) (fun h3 h => lG h hk (((q.f 1 h3).o [.num (a0.length : Int), .pick [13, 12, 1, 0] [], .pick [0, 1, 12, 13] []]).b (Zt Zad a0)))
theorem Ztw (a0 : (List Zar)) (a1 : (List Zar)) {r : Bool} (h : Zf3 a0 a1 = some r) : Fn PR 54 [(wL Zad a0), (wL Zad a1)] (Zfl r) :=
 Zb h fun y h0 h1 => FnG.of_cfg hT Go.Proofs.Tryz.func54 (by kernel_rfl : _ = some Zh5) (by kernel_rfl) 26 (by kernel_rfl) (Nat.le_of_ble_eq_true rfl) [.t 4] (by kernel_rfl) (by kernel_rfl) (Zsd r a0 a1 y h0 (Z0 (fun s y h hk => match s with
 | .L0 v0 v1 v12 v13 => Zrf r v0 v1 v12 v13 y h hk) h1))
noncomputable def Zko : Code := (Go.Proofs.Tryz.f56.body).getD .skip
noncomputable def Zgq (r : Bool) : PV := (wB r)
noncomputable def Zjz (r : Bool) : List (Nat × Blk) := []
noncomputable def Znw : Zbf → Cfg
 | .L0 _ _ _ _ => (nav [1, 1, 0, 1, 4] Zko []).getD (.done .normal)
noncomputable def Zoc : Zbf → PW.St
 | .L0 v0 v1 v12 v13 => ⟨26, [(0, (wL Zp v0)), (1, (wL Zp v1)), (12, (wI v12)), (13, (wI v13))], []⟩
abbrev Znx (r : Bool) (y : Zbf ⊕ Bool) : Prop := Ok PR [.t 4] (Zjz) Zgq Znw Zoc r y
theorem Zv2 (r : Bool) (v0 : (List Zg)) (v1 : (List Zg)) (v12 : Int) (v13 : Int) (y : Zbf ⊕ Bool) (h : Zea v0 v1 v12 v13 = some y) (hk : Znx r y) : (Znw (.L0 v0 v1 v12 v13)).HH PR [.t 4] Zjz Zgq r (Zoc (.L0 v0 v1 v12 v13)) :=
 Za h (fun h1 h => have q := (q0.t 1 h1).b (Zs Zp 20 (fun _ => rfl) v0);
 Zb h fun x2 h3 h => have q := (((q.o [.cs (Zp x2)]).b (Z2 h3)).b (Zz Zp h3)).b (Zs Zp 20 (fun _ => rfl) v1);
 Zb h fun x4 h5 h => have q := ((q.o [.cs (Zp x4)]).b (Z2 h5)).b (Zz Zp h5);
 Za h (fun h6 h => lR h hk (q.t 1 h6)) (fun h6 h => lG h hk ((q.f 1 h6).o [.pick [13, 0, 1, 12] [], .pick [0, 1, 12, 13] []]))) (fun h1 h => lR h hk (q0.f 1 h1))
theorem Zw9 (r : Bool) (a0 : (List Zg)) (a1 : (List Zg)) (y : Zbf ⊕ Bool) (h : Zkn a0 a1 = some y) (hk : Znx r y) : (Cfg.code Zko []).HH PR [.t 4] Zjz Zgq r ⟨26, idx 0 [(wL Zp a0), (wL Zp a1)], []⟩ := have q := ((q0.o [.num (a0.length : Int), .num (a1.length : Int)]).b (Zt Zp a0)).b (Zt Zp a1);
 Za h (fun h3 h => lR h hk (q.t 1 h3)) (fun h3 h => lG h hk (((q.f 1 h3).o [.num (a0.length : Int), .pick [13, 12, 1, 0] [], .pick [0, 1, 12, 13] []]).b (Zt Zp a0)))
theorem Zj0 (a0 : (List Zg)) (a1 : (List Zg)) {r : Bool} (h : Ze5 a0 a1 = some r) : Fn PR 56 [(wL Zp a0), (wL Zp a1)] (Zgq r) :=
 Zb h fun y h0 h1 => FnG.of_cfg hT Go.Proofs.Tryz.func56 (by kernel_rfl : _ = some Zko) (by kernel_rfl) 26 (by kernel_rfl) (Nat.le_of_ble_eq_true rfl) [.t 4] (by kernel_rfl) (by kernel_rfl) (Zw9 r a0 a1 y h0 (Z0 (fun s y h hk => match s with
 | .L0 v0 v1 v12 v13 => Zv2 r v0 v1 v12 v13 y h hk) h1))
noncomputable def Zjs : Code := (Go.Proofs.Tryz.f84.body).getD .skip
noncomputable def Zf5 (r : Bool) : PV := (wB r)
noncomputable def Zjb (r : Bool) : List (Nat × Blk) := []
noncomputable def Zmz : Za9 → Cfg
 | .L0 _ _ _ _ => (nav [1, 1, 0, 1, 4] Zjs []).getD (.done .normal)
noncomputable def Znr : Za9 → PW.St
 | .L0 v0 v1 v12 v13 => ⟨26, [(0, (wL Z3 v0)), (1, (wL Z3 v1)), (12, (wI v12)), (13, (wI v13))], []⟩
abbrev Zm0 (r : Bool) (y : Za9 ⊕ Bool) : Prop := Ok PR [.t 4] (Zjb) Zf5 Zmz Znr r y
theorem Zuq (r : Bool) (v0 : (List Zai)) (v1 : (List Zai)) (v12 : Int) (v13 : Int) (y : Za9 ⊕ Bool) (h : Zdl v0 v1 v12 v13 = some y) (hk : Zm0 r y) : (Zmz (.L0 v0 v1 v12 v13)).HH PR [.t 4] Zjb Zf5 r (Znr (.L0 v0 v1 v12 v13)) :=
 Za h (fun h1 h => have q := (q0.t 1 h1).b (Zs Z3 18 (fun _ => rfl) v0);
 Zb h fun x2 h3 h => have q := (((q.o [.cs (Z3 x2)]).b (Z2 h3)).b (Zz Z3 h3)).b (Zs Z3 18 (fun _ => rfl) v1);
 Zb h fun x4 h5 h => have q := ((q.o [.cs (Z3 x4)]).b (Z2 h5)).b (Zz Z3 h5);
 Za h (fun h6 h => lR h hk (q.t 1 h6)) (fun h6 h => lG h hk ((q.f 1 h6).o [.pick [13, 0, 1, 12] [], .pick [0, 1, 12, 13] []]))) (fun h1 h => lR h hk (q0.f 1 h1))
theorem Zve (r : Bool) (a0 : (List Zai)) (a1 : (List Zai)) (y : Za9 ⊕ Bool) (h : Zjq a0 a1 = some y) (hk : Zm0 r y) : (Cfg.code Zjs []).HH PR [.t 4] Zjb Zf5 r ⟨26, idx 0 [(wL Z3 a0), (wL Z3 a1)], []⟩ := have q := ((q0.o [.num (a0.length : Int), .num (a1.length : Int)]).b (Zt Z3 a0)).b (Zt Z3 a1);
 Za h (fun h3 h => lR h hk (q.t 1 h3)) (fun h3 h => lG h hk (((q.f 1 h3).o [.num (a0.length : Int), .pick [13, 12, 1, 0] [], .pick [0, 1, 12, 13] []]).b (Zt Z3 a0)))
theorem Zxa (a0 : (List Zai)) (a1 : (List Zai)) {r : Bool} (h : Zhf a0 a1 = some r) : Fn PR 84 [(wL Z3 a0), (wL Z3 a1)] (Zf5 r) :=
 Zb h fun y h0 h1 => FnG.of_cfg hT Go.Proofs.Tryz.func84 (by kernel_rfl : _ = some Zjs) (by kernel_rfl) 26 (by kernel_rfl) (Nat.le_of_ble_eq_true rfl) [.t 4] (by kernel_rfl) (by kernel_rfl) (Zve r a0 a1 y h0 (Z0 (fun s y h hk => match s with
 | .L0 v0 v1 v12 v13 => Zuq r v0 v1 v12 v13 y h hk) h1))
noncomputable def Z9r : Code := (Go.Proofs.Tryz.f86.body).getD .skip
noncomputable def Zvf (r : Bool) : PV := (wB r)
noncomputable def Z7q (r : Bool) : List (Nat × Blk) := []
noncomputable def Zanw : Zjx → Cfg := fun s => nomatch s
noncomputable def Zaq7 : Zjx → PW.St := fun s => nomatch s
abbrev Zanx (r : Bool) (y : Zjx ⊕ Bool) : Prop := Ok PR [.t 4] (Z7q) Zvf Zanw Zaq7 r y
theorem Zalw (r : Bool) (a0 : Zj) (a1 : Zj) (y : Zjx ⊕ Bool) (h : Zyj a0 a1 = some y) (hk : Zanx r y) : (Cfg.code Z9r []).HH PR [.t 4] Z7q Zvf r ⟨66, idx 0 [(.agg (bx (Zk a0))), (.agg (bx (Zk a1)))], []⟩ := have q := q0.o [.lab 1002, .lab 1003];
 Za h (fun h1 h => have q := q.t 6 h1;
 Za h (fun h2 h => have q := q.t 6 h2;
 Za h (fun h3 h => have q := q.t 6 h3;
 Za h (fun h4 h => have q := q.t 6 h4;
 Za h (fun h5 h => have q := q.t 6 h5;
 Za h (fun h6 h => have q := q.t 6 h6;
 Za h (fun h7 h => have q := q.t 6 h7;
 Za h (fun h8 h => Zb h fun x9 h10 h => lR h hk ((((q.t 5 h8).k x9).t 1 (Zj0 a0.Mods a1.Mods h10)).b h8)) (fun h8 h => lR h hk (q.f 6 h8))) (fun h7 h => lR h hk (((q.ff 12).a 6 h7).a 6 (Eq.refl false)))) (fun h6 h => lR h hk (((q.ff 18).a 6 h6).a 12 (Eq.refl false)))) (fun h5 h => lR h hk (((q.ff 24).a 6 h5).a 18 (Eq.refl false)))) (fun h4 h => lR h hk (((q.ff 30).a 6 h4).a 24 (Eq.refl false)))) (fun h3 h => lR h hk (((q.ff 36).a 6 h3).a 30 (Eq.refl false)))) (fun h2 h => lR h hk (((q.ff 42).a 6 h2).a 36 (Eq.refl false)))) (fun h1 h => lR h hk (((q.ff 48).a 6 h1).a 42 (Eq.refl false)))
theorem Zaq8 (a0 : Zj) (a1 : Zj) {r : Bool} (h : Zvo a0 a1 = some r) : Fn PR 86 [(.agg (bx (Zk a0))), (.agg (bx (Zk a1)))] (Zvf r) :=
 Zb h fun y h0 h1 => FnG.of_cfg hT Go.Proofs.Tryz.func86 (by kernel_rfl : _ = some Z9r) (by kernel_rfl) 66 (by kernel_rfl) (Nat.le_of_ble_eq_true rfl) [.t 4] (by kernel_rfl) (by kernel_rfl) (Zalw r a0 a1 y h0 (Z0 (fun s _ _ _ => nomatch s) h1))
noncomputable def Zb6 : Code := (Go.Proofs.Tryz.f85.body).getD .skip
noncomputable def Za6 (r : Bool) : PV := (wB r)
noncomputable def Zb4 (r : Bool) : List (Nat × Blk) := []
noncomputable def Zdf : Zr → Cfg
 | .L0 _ _ _ _ => (nav [1, 1, 0, 1, 4] Zb6 []).getD (.done .normal)
noncomputable def Zdi : Zr → PW.St
 | .L0 v1 v15 v16 v17 => ⟨32, [(1, (wL Zk v1)), (2, (.fn 86 [])), (15, (wL Zk v15)), (16, (wI v16)), (17, (wI v17))], []⟩
abbrev Zdg (r : Bool) (y : Zr ⊕ Bool) : Prop := Ok PR [.t 6] (Zb4) Za6 Zdf Zdi r y
theorem Zgn (r : Bool) (v1 : (List Zj)) (v15 : (List Zj)) (v16 : Int) (v17 : Int) (y : Zr ⊕ Bool) (h : Zac v1 v15 v16 v17 = some y) (hk : Zdg r y) : (Zdf (.L0 v1 v15 v16 v17)).HH PR [.t 6] Zb4 Za6 r (Zdi (.L0 v1 v15 v16 v17)) :=
 Za h (fun h1 h => have q := (q0.t 1 h1).b (Zs Zk 64 (fun _ => rfl) v15);
 Zb h fun x2 h3 h => have q := (((q.o [.cs (Zk x2), .lab 1008]).b (Z2 h3)).b (Zz Zk h3)).b (Zs Zk 64 (fun _ => rfl) v1);
 Zb h fun x4 h5 h => have q := ((q.o [.cs (Zk x4), .lab 1009]).b (Z2 h5)).b (Zz Zk h5);
 Zb h fun x6 h7 h => have q := (q.k x6).b (Zaq8 x2 x4 h7);
 Za h (fun h8 h => lR h hk (q.t 1 h8)) (fun h8 h => lG h hk ((q.f 1 h8).o [.pick [17, 1, 2, 15, 16] [], .pick [1, 2, 15, 16, 17] []]))) (fun h1 h => lR h hk (q0.f 1 h1))
theorem Zgv (r : Bool) (a0 : (List Zj)) (a1 : (List Zj)) (y : Zr ⊕ Bool) (h : Zb5 a0 a1 = some y) (hk : Zdg r y) : (Cfg.code Zb6 []).HH PR [.t 6] Zb4 Za6 r ⟨32, idx 0 [(wL Zk a0), (wL Zk a1), (.fn 86 [])], []⟩ := have q := ((q0.o [.num (a0.length : Int), .num (a1.length : Int)]).b (Zt Zk a0)).b (Zt Zk a1);
 Za h (fun h3 h => lR h hk (q.t 1 h3)) (fun h3 h => lG h hk (((q.f 1 h3).o [.num (a0.length : Int), .pick [17, 16, 15, 2, 1] [], .pick [1, 2, 15, 16, 17] []]).b (Zt Zk a0)))
theorem Zgy (a0 : (List Zj)) (a1 : (List Zj)) {r : Bool} (h : Zbc a0 a1 = some r) : Fn PR 85 [(wL Zk a0), (wL Zk a1), (.fn 86 [])] (Za6 r) :=
 Zb h fun y h0 h1 => FnG.of_cfg hT Go.Proofs.Tryz.func85 (by kernel_rfl : _ = some Zb6) (by kernel_rfl) 32 (by kernel_rfl) (Nat.le_of_ble_eq_true rfl) [.t 6] (by kernel_rfl) (by kernel_rfl) (Zgv r a0 a1 y h0 (Z0 (fun s y h hk => match s with
 | .L0 v1 v15 v16 v17 => Zgn r v1 v15 v16 v17 y h hk) h1))
noncomputable def Z7r : Code := (Go.Proofs.Tryz.f55.body).getD .skip
noncomputable def Ztx (r : Bool) : PV := (wB r)
noncomputable def Z4p (r : Bool) : List (Nat × Blk) := []
noncomputable def Zalx : Zi9 → Cfg := fun s => nomatch s
noncomputable def Zany : Zi9 → PW.St := fun s => nomatch s
abbrev Zaly (r : Bool) (y : Zi9 ⊕ Bool) : Prop := Ok PR [.t 4] (Z4p) Ztx Zalx Zany r y
theorem Zai7 (r : Bool) (a0 : Zq) (a1 : Zq) (y : Zi9 ⊕ Bool) (h : Zwq a0 a1 = some y) (hk : Zaly r y) : (Cfg.code Z7r []).HH PR [.t 4] Z4p Ztx r ⟨73, idx 0 [(.agg (bx (Zab a0))), (.agg (bx (Zab a1)))], []⟩ := have q := q0.o [.lab 1002, .lab 1003];
 Za h (fun h1 h => have q := q.t 6 h1;
 Za h (fun h2 h => have q := q.t 5 h2;
 Zb h fun x3 h4 h => have q := ((q.k x3).t 1 (Zj0 a0.Mods a1.Mods h4)).b h2;
 Za h (fun h5 h => have q := q.t 6 h5;
 Za h (fun h6 h => have q := q.t 6 h6;
 Za h (fun h7 h => have q := q.t 6 h7;
 Za h (fun h8 h => have q := q.t 6 h8;
 Za h (fun h9 h => have q := q.t 5 h9;
 Zb h fun x10 h11 h => have q := ((q.k x10).t 1 (Zxa a0.Specs a1.Specs h11)).b h9;
 Za h (fun h12 h => have q := q.t 5 h12;
 Zb h fun x13 h14 h => have q := ((q.k x13).t 1 (Zgy a0.Effects a1.Effects h14)).b h12;
 Za h (fun h15 h => lR h hk (q.t 6 h15)) (fun h15 h => lR h hk (q.f 6 h15))) (fun h12 h => lR h hk (((q.ff 12).a 6 h12).a 6 (Eq.refl false)))) (fun h9 h => lR h hk (((q.ff 18).a 6 h9).a 12 (Eq.refl false)))) (fun h8 h => lR h hk (((q.ff 24).a 6 h8).a 18 (Eq.refl false)))) (fun h7 h => lR h hk (((q.ff 30).a 6 h7).a 24 (Eq.refl false)))) (fun h6 h => lR h hk (((q.ff 36).a 6 h6).a 30 (Eq.refl false)))) (fun h5 h => lR h hk (((q.ff 42).a 6 h5).a 36 (Eq.refl false)))) (fun h2 h => lR h hk (((q.ff 48).a 6 h2).a 42 (Eq.refl false)))) (fun h1 h => lR h hk (((q.ff 54).a 6 h1).a 48 (Eq.refl false)))
theorem Z4q (a0 : Zq) (a1 : Zq) {r : Bool} (h : Zpk a0 a1 = some r) : Fn PR 55 [(.agg (bx (Zab a0))), (.agg (bx (Zab a1)))] (Ztx r) :=
 Zb h fun y h0 h1 => FnG.of_cfg hT Go.Proofs.Tryz.func55 (by kernel_rfl : _ = some Z7r) (by kernel_rfl) 73 (by kernel_rfl) (Nat.le_of_ble_eq_true rfl) [.t 4] (by kernel_rfl) (by kernel_rfl) (Zai7 r a0 a1 y h0 (Z0 (fun s _ _ _ => nomatch s) h1))
noncomputable def Zaf0 : Code := (Go.Proofs.Tryz.f32.body).getD .skip
noncomputable def Zyu (r : Bool) : PV := (wB r)
noncomputable def Zadv (r : Bool) : List (Nat × Blk) := []
noncomputable def Zatp : Zlx → Cfg := fun s => nomatch s
noncomputable def Zaxs : Zlx → PW.St := fun s => nomatch s
abbrev Zatq (r : Bool) (y : Zlx ⊕ Bool) : Prop := Ok PR [.t 4] (Zadv) Zyu Zatp Zaxs r y
theorem Zaq9 (r : Bool) (a0 : Zag) (a1 : Zag) (y : Zlx ⊕ Bool) (h : Z2t a0 a1 = some y) (hk : Zatq r y) : (Cfg.code Zaf0 []).HH PR [.t 4] Zadv Zyu r ⟨66, idx 0 [(.agg (bx (Zl a0))), (.agg (bx (Zl a1)))], []⟩ := have q := q0.o [.lab 1002, .lab 1003];
 Za h (fun h1 h => have q := q.t 6 h1;
 Za h (fun h2 h => have q := q.t 6 h2;
 Za h (fun h3 h => have q := q.t 6 h3;
 Za h (fun h4 h => have q := q.t 6 h4;
 Za h (fun h5 h => have q := q.t 6 h5;
 Za h (fun h6 h => have q := q.t 6 h6;
 Za h (fun h7 h => have q := q.t 5 h7;
 Zb h fun x8 h9 h => have q := ((q.k x8).t 1 (Ztw a0.Targets a1.Targets h9)).b h7;
 Za h (fun h10 h => Zb h fun x11 h12 h => lR h hk ((((q.t 5 h10).k x11).t 1 (Z4q a0.Ability a1.Ability h12)).b h10)) (fun h10 h => lR h hk (q.f 6 h10))) (fun h7 h => lR h hk (((q.ff 12).a 6 h7).a 6 (Eq.refl false)))) (fun h6 h => lR h hk (((q.ff 18).a 6 h6).a 12 (Eq.refl false)))) (fun h5 h => lR h hk (((q.ff 24).a 6 h5).a 18 (Eq.refl false)))) (fun h4 h => lR h hk (((q.ff 30).a 6 h4).a 24 (Eq.refl false)))) (fun h3 h => lR h hk (((q.ff 36).a 6 h3).a 30 (Eq.refl false)))) (fun h2 h => lR h hk (((q.ff 42).a 6 h2).a 36 (Eq.refl false)))) (fun h1 h => lR h hk (((q.ff 48).a 6 h1).a 42 (Eq.refl false)))
theorem Zaxt (a0 : Zag) (a1 : Zag) {r : Bool} (h : Zzo a0 a1 = some r) : Fn PR 32 [(.agg (bx (Zl a0))), (.agg (bx (Zl a1)))] (Zyu r) :=
 Zb h fun y h0 h1 => FnG.of_cfg hT Go.Proofs.Tryz.func32 (by kernel_rfl : _ = some Zaf0) (by kernel_rfl) 66 (by kernel_rfl) (Nat.le_of_ble_eq_true rfl) [.t 4] (by kernel_rfl) (by kernel_rfl) (Zaq9 r a0 a1 y h0 (Z0 (fun s _ _ _ => nomatch s) h1))
noncomputable def Z7s : Code := (Go.Proofs.Tryz.f34.body).getD .skip
noncomputable def Zty (r : Bool) : PV := (wB r)
noncomputable def Z4r (r : Bool) : List (Nat × Blk) := []
noncomputable def Zalz : Zja → Cfg := fun s => nomatch s
noncomputable def Zanz : Zja → PW.St := fun s => nomatch s
abbrev Zal0 (r : Bool) (y : Zja ⊕ Bool) : Prop := Ok PR [.t 4] (Z4r) Zty Zalz Zanz r y
theorem Zai8 (r : Bool) (a0 : Z7) (a1 : Z7) (y : Zja ⊕ Bool) (h : Zwr a0 a1 = some y) (hk : Zal0 r y) : (Cfg.code Z7s []).HH PR [.t 4] Z4r Zty r ⟨31, idx 0 [(.agg (bx (Zm a0))), (.agg (bx (Zm a1)))], []⟩ := have q := q0.o [.lab 1002, .lab 1003];
 Za h (fun h1 h => have q := q.t 6 h1;
 Za h (fun h2 h => have q := q.t 6 h2;
 Za h (fun h3 h => Zb h fun x4 h5 h => lR h hk ((((q.t 5 h3).k x4).t 1 (Z4q a0.Ability a1.Ability h5)).b h3)) (fun h3 h => lR h hk (q.f 6 h3))) (fun h2 h => lR h hk (((q.ff 12).a 6 h2).a 6 (Eq.refl false)))) (fun h1 h => lR h hk (((q.ff 18).a 6 h1).a 12 (Eq.refl false)))
theorem Zan0 (a0 : Z7) (a1 : Z7) {r : Bool} (h : Zti a0 a1 = some r) : Fn PR 34 [(.agg (bx (Zm a0))), (.agg (bx (Zm a1)))] (Zty r) :=
 Zb h fun y h0 h1 => FnG.of_cfg hT Go.Proofs.Tryz.func34 (by kernel_rfl : _ = some Z7s) (by kernel_rfl) 31 (by kernel_rfl) (Nat.le_of_ble_eq_true rfl) [.t 4] (by kernel_rfl) (by kernel_rfl) (Zai8 r a0 a1 y h0 (Z0 (fun s _ _ _ => nomatch s) h1))
noncomputable def Zaf1 : Code := (Go.Proofs.Tryz.f36.body).getD .skip
noncomputable def Zyv (r : Bool) : PV := (wB r)
noncomputable def Zadw (r : Bool) : List (Nat × Blk) := []
noncomputable def Zatr : Zly → Cfg := fun s => nomatch s
noncomputable def Zaxu : Zly → PW.St := fun s => nomatch s
abbrev Zats (r : Bool) (y : Zly ⊕ Bool) : Prop := Ok PR [.t 4] (Zadw) Zyv Zatr Zaxu r y
theorem Zara (r : Bool) (a0 : Zao) (a1 : Zao) (y : Zly ⊕ Bool) (h : Z2u a0 a1 = some y) (hk : Zats r y) : (Cfg.code Zaf1 []).HH PR [.t 4] Zadw Zyv r ⟨45, idx 0 [(.agg (bx (Zn a0))), (.agg (bx (Zn a1)))], []⟩ := have q := q0.o [.lab 1002, .lab 1003];
 Za h (fun h1 h => have q := q.t 6 h1;
 Za h (fun h2 h => have q := q.t 6 h2;
 Za h (fun h3 h => have q := q.t 6 h3;
 Za h (fun h4 h => have q := q.t 5 h4;
 Zb h fun x5 h6 h => have q := ((q.k x5).t 1 (Zgb a0.Objects a1.Objects h6)).b h4;
 Za h (fun h7 h => Zb h fun x8 h9 h => lR h hk ((((q.t 5 h7).k x8).t 1 (Zj0 a0.Mods a1.Mods h9)).b h7)) (fun h7 h => lR h hk (q.f 6 h7))) (fun h4 h => lR h hk (((q.ff 12).a 6 h4).a 6 (Eq.refl false)))) (fun h3 h => lR h hk (((q.ff 18).a 6 h3).a 12 (Eq.refl false)))) (fun h2 h => lR h hk (((q.ff 24).a 6 h2).a 18 (Eq.refl false)))) (fun h1 h => lR h hk (((q.ff 30).a 6 h1).a 24 (Eq.refl false)))
theorem Zaxv (a0 : Zao) (a1 : Zao) {r : Bool} (h : Zzp a0 a1 = some r) : Fn PR 36 [(.agg (bx (Zn a0))), (.agg (bx (Zn a1)))] (Zyv r) :=
 Zb h fun y h0 h1 => FnG.of_cfg hT Go.Proofs.Tryz.func36 (by kernel_rfl : _ = some Zaf1) (by kernel_rfl) 45 (by kernel_rfl) (Nat.le_of_ble_eq_true rfl) [.t 4] (by kernel_rfl) (by kernel_rfl) (Zara r a0 a1 y h0 (Z0 (fun s _ _ _ => nomatch s) h1))
noncomputable def Zh6 : Code := (Go.Proofs.Tryz.f57.body).getD .skip
noncomputable def Zfm (r : Bool) : PV := (wB r)
noncomputable def Zht (r : Bool) : List (Nat × Blk) := []
noncomputable def Zk6 : Zaw → Cfg
 | .L0 _ _ _ _ => (nav [1, 1, 0, 1, 4] Zh6 []).getD (.done .normal)
noncomputable def Zl7 : Zaw → PW.St
 | .L0 v0 v1 v12 v13 => ⟨26, [(0, (wL Z1 v0)), (1, (wL Z1 v1)), (12, (wI v12)), (13, (wI v13))], []⟩
abbrev Zk7 (r : Bool) (y : Zaw ⊕ Bool) : Prop := Ok PR [.t 4] (Zht) Zfm Zk6 Zl7 r y
theorem Zrg (r : Bool) (v0 : (List Z5)) (v1 : (List Z5)) (v12 : Int) (v13 : Int) (y : Zaw ⊕ Bool) (h : Zc0 v0 v1 v12 v13 = some y) (hk : Zk7 r y) : (Zk6 (.L0 v0 v1 v12 v13)).HH PR [.t 4] Zht Zfm r (Zl7 (.L0 v0 v1 v12 v13)) :=
 Za h (fun h1 h => have q := (q0.t 1 h1).b (Zs Z1 3 (fun _ => rfl) v0);
 Zb h fun x2 h3 h => have q := (((q.o [.cs (Z1 x2)]).b (Z2 h3)).b (Zz Z1 h3)).b (Zs Z1 3 (fun _ => rfl) v1);
 Zb h fun x4 h5 h => have q := ((q.o [.cs (Z1 x4)]).b (Z2 h5)).b (Zz Z1 h5);
 Za h (fun h6 h => lR h hk (q.t 1 h6)) (fun h6 h => lG h hk ((q.f 1 h6).o [.pick [13, 0, 1, 12] [], .pick [0, 1, 12, 13] []]))) (fun h1 h => lR h hk (q0.f 1 h1))
theorem Zse (r : Bool) (a0 : (List Z5)) (a1 : (List Z5)) (y : Zaw ⊕ Bool) (h : Zh2 a0 a1 = some y) (hk : Zk7 r y) : (Cfg.code Zh6 []).HH PR [.t 4] Zht Zfm r ⟨26, idx 0 [(wL Z1 a0), (wL Z1 a1)], []⟩ := have q := ((q0.o [.num (a0.length : Int), .num (a1.length : Int)]).b (Zt Z1 a0)).b (Zt Z1 a1);
 Za h (fun h3 h => lR h hk (q.t 1 h3)) (fun h3 h => lG h hk (((q.f 1 h3).o [.num (a0.length : Int), .pick [13, 12, 1, 0] [], .pick [0, 1, 12, 13] []]).b (Zt Z1 a0)))
theorem Ztz (a0 : (List Z5)) (a1 : (List Z5)) {r : Bool} (h : Zf4 a0 a1 = some r) : Fn PR 57 [(wL Z1 a0), (wL Z1 a1)] (Zfm r) :=
 Zb h fun y h0 h1 => FnG.of_cfg hT Go.Proofs.Tryz.func57 (by kernel_rfl : _ = some Zh6) (by kernel_rfl) 26 (by kernel_rfl) (Nat.le_of_ble_eq_true rfl) [.t 4] (by kernel_rfl) (by kernel_rfl) (Zse r a0 a1 y h0 (Z0 (fun s y h hk => match s with
 | .L0 v0 v1 v12 v13 => Zrg r v0 v1 v12 v13 y h hk) h1))
noncomputable def Z9s : Code := (Go.Proofs.Tryz.f37.body).getD .skip
noncomputable def Zvg (r : Bool) : PV := (wB r)
noncomputable def Z7t (r : Bool) : List (Nat × Blk) := []
noncomputable def Zan1 : Zjy → Cfg := fun s => nomatch s
noncomputable def Zarb : Zjy → PW.St := fun s => nomatch s
abbrev Zan2 (r : Bool) (y : Zjy ⊕ Bool) : Prop := Ok PR [.t 4] (Z7t) Zvg Zan1 Zarb r y
theorem Zal1 (r : Bool) (a0 : Zdd) (a1 : Zdd) (y : Zjy ⊕ Bool) (h : Zyk a0 a1 = some y) (hk : Zan2 r y) : (Cfg.code Z9s []).HH PR [.t 4] Z7t Zvg r ⟨52, idx 0 [(.agg (bx (Zlg a0))), (.agg (bx (Zlg a1)))], []⟩ := have q := q0.o [.lab 1002, .lab 1003];
 Za h (fun h1 h => have q := q.t 6 h1;
 Za h (fun h2 h => have q := q.t 6 h2;
 Za h (fun h3 h => have q := q.t 6 h3;
 Za h (fun h4 h => have q := q.t 6 h4;
 Za h (fun h5 h => have q := q.t 6 h5;
 Za h (fun h6 h => Zb h fun x7 h8 h => lR h hk ((((q.t 5 h6).k x7).t 1 (Ztz a0.Options a1.Options h8)).b h6)) (fun h6 h => lR h hk (q.f 6 h6))) (fun h5 h => lR h hk (((q.ff 12).a 6 h5).a 6 (Eq.refl false)))) (fun h4 h => lR h hk (((q.ff 18).a 6 h4).a 12 (Eq.refl false)))) (fun h3 h => lR h hk (((q.ff 24).a 6 h3).a 18 (Eq.refl false)))) (fun h2 h => lR h hk (((q.ff 30).a 6 h2).a 24 (Eq.refl false)))) (fun h1 h => lR h hk (((q.ff 36).a 6 h1).a 30 (Eq.refl false)))
theorem Zarc (a0 : Zdd) (a1 : Zdd) {r : Bool} (h : Zvp a0 a1 = some r) : Fn PR 37 [(.agg (bx (Zlg a0))), (.agg (bx (Zlg a1)))] (Zvg r) :=
 Zb h fun y h0 h1 => FnG.of_cfg hT Go.Proofs.Tryz.func37 (by kernel_rfl : _ = some Z9s) (by kernel_rfl) 52 (by kernel_rfl) (Nat.le_of_ble_eq_true rfl) [.t 4] (by kernel_rfl) (by kernel_rfl) (Zal1 r a0 a1 y h0 (Z0 (fun s _ _ _ => nomatch s) h1))
noncomputable def Zcm : Code := (Go.Proofs.Tryz.f29.body).getD .skip
noncomputable def Zbl (r : Bool) : PV := (wB r)
noncomputable def Zcg (r : Bool) : List (Nat × Blk) := []
noncomputable def Zem : Zw → Cfg
 | .L0 _ _ _ _ => (nav [1, 1, 0, 1, 4] Zcm []).getD (.done .normal)
noncomputable def Zes : Zw → PW.St
 | .L0 v1 v15 v16 v17 => ⟨32, [(1, (wL Za2 v1)), (2, (.fn 30 [])), (15, (wL Za2 v15)), (16, (wI v16)), (17, (wI v17))], []⟩
abbrev Zen (r : Bool) (y : Zw ⊕ Bool) : Prop := Ok PR [.t 6] (Zcg) Zbl Zem Zes r y
theorem Zh7 (r : Bool) (v1 : (List Zct)) (v15 : (List Zct)) (v16 : Int) (v17 : Int) (y : Zw ⊕ Bool) (h : Zaj v1 v15 v16 v17 = some y) (hk : Zen r y) : (Zem (.L0 v1 v15 v16 v17)).HH PR [.t 6] Zcg Zbl r (Zes (.L0 v1 v15 v16 v17)) :=
 Za h (fun h1 h => have q := (q0.t 1 h1).b (Zs Za2 13 (fun _ => rfl) v15);
 Zb h fun x2 h3 h => have q := (((q.o [.cs (Za2 x2), .lab 1008]).b (Z2 h3)).b (Zz Za2 h3)).b (Zs Za2 13 (fun _ => rfl) v1);
 Zb h fun x4 h5 h => have q := ((q.o [.cs (Za2 x4), .lab 1009]).b (Z2 h5)).b (Zz Za2 h5);
 Zb h fun x6 h7 h => have q := (q.k x6).b (Zaxr x2 x4 h7);
 Za h (fun h8 h => lR h hk (q.t 1 h8)) (fun h8 h => lG h hk ((q.f 1 h8).o [.pick [17, 1, 2, 15, 16] [], .pick [1, 2, 15, 16, 17] []]))) (fun h1 h => lR h hk (q0.f 1 h1))
theorem Zid (r : Bool) (a0 : (List Zct)) (a1 : (List Zct)) (y : Zw ⊕ Bool) (h : Zcj a0 a1 = some y) (hk : Zen r y) : (Cfg.code Zcm []).HH PR [.t 6] Zcg Zbl r ⟨32, idx 0 [(wL Za2 a0), (wL Za2 a1), (.fn 30 [])], []⟩ := have q := ((q0.o [.num (a0.length : Int), .num (a1.length : Int)]).b (Zt Za2 a0)).b (Zt Za2 a1);
 Za h (fun h3 h => lR h hk (q.t 1 h3)) (fun h3 h => lG h hk (((q.f 1 h3).o [.num (a0.length : Int), .pick [17, 16, 15, 2, 1] [], .pick [1, 2, 15, 16, 17] []]).b (Zt Za2 a0)))
theorem Ziu (a0 : (List Zct)) (a1 : (List Zct)) {r : Bool} (h : Zbq a0 a1 = some r) : Fn PR 29 [(wL Za2 a0), (wL Za2 a1), (.fn 30 [])] (Zbl r) :=
 Zb h fun y h0 h1 => FnG.of_cfg hT Go.Proofs.Tryz.func29 (by kernel_rfl : _ = some Zcm) (by kernel_rfl) 32 (by kernel_rfl) (Nat.le_of_ble_eq_true rfl) [.t 6] (by kernel_rfl) (by kernel_rfl) (Zid r a0 a1 y h0 (Z0 (fun s y h hk => match s with
 | .L0 v1 v15 v16 v17 => Zh7 r v1 v15 v16 v17 y h hk) h1))
noncomputable def Zcn : Code := (Go.Proofs.Tryz.f31.body).getD .skip
noncomputable def Zbm (r : Bool) : PV := (wB r)
noncomputable def Zch (r : Bool) : List (Nat × Blk) := []
noncomputable def Zeo : Zx → Cfg
 | .L0 _ _ _ _ => (nav [1, 1, 0, 1, 4] Zcn []).getD (.done .normal)
noncomputable def Zet : Zx → PW.St
 | .L0 v1 v15 v16 v17 => ⟨32, [(1, (wL Zl v1)), (2, (.fn 32 [])), (15, (wL Zl v15)), (16, (wI v16)), (17, (wI v17))], []⟩
abbrev Zep (r : Bool) (y : Zx ⊕ Bool) : Prop := Ok PR [.t 6] (Zch) Zbm Zeo Zet r y
theorem Zh8 (r : Bool) (v1 : (List Zag)) (v15 : (List Zag)) (v16 : Int) (v17 : Int) (y : Zx ⊕ Bool) (h : Zak v1 v15 v16 v17 = some y) (hk : Zep r y) : (Zeo (.L0 v1 v15 v16 v17)).HH PR [.t 6] Zch Zbm r (Zet (.L0 v1 v15 v16 v17)) :=
 Za h (fun h1 h => have q := (q0.t 1 h1).b (Zs Zl 94 (fun _ => rfl) v15);
 Zb h fun x2 h3 h => have q := (((q.o [.cs (Zl x2), .lab 1008]).b (Z2 h3)).b (Zz Zl h3)).b (Zs Zl 94 (fun _ => rfl) v1);
 Zb h fun x4 h5 h => have q := ((q.o [.cs (Zl x4), .lab 1009]).b (Z2 h5)).b (Zz Zl h5);
 Zb h fun x6 h7 h => have q := (q.k x6).b (Zaxt x2 x4 h7);
 Za h (fun h8 h => lR h hk (q.t 1 h8)) (fun h8 h => lG h hk ((q.f 1 h8).o [.pick [17, 1, 2, 15, 16] [], .pick [1, 2, 15, 16, 17] []]))) (fun h1 h => lR h hk (q0.f 1 h1))
theorem Zie (r : Bool) (a0 : (List Zag)) (a1 : (List Zag)) (y : Zx ⊕ Bool) (h : Zck a0 a1 = some y) (hk : Zep r y) : (Cfg.code Zcn []).HH PR [.t 6] Zch Zbm r ⟨32, idx 0 [(wL Zl a0), (wL Zl a1), (.fn 32 [])], []⟩ := have q := ((q0.o [.num (a0.length : Int), .num (a1.length : Int)]).b (Zt Zl a0)).b (Zt Zl a1);
 Za h (fun h3 h => lR h hk (q.t 1 h3)) (fun h3 h => lG h hk (((q.f 1 h3).o [.num (a0.length : Int), .pick [17, 16, 15, 2, 1] [], .pick [1, 2, 15, 16, 17] []]).b (Zt Zl a0)))
theorem Ziv (a0 : (List Zag)) (a1 : (List Zag)) {r : Bool} (h : Zbr a0 a1 = some r) : Fn PR 31 [(wL Zl a0), (wL Zl a1), (.fn 32 [])] (Zbm r) :=
 Zb h fun y h0 h1 => FnG.of_cfg hT Go.Proofs.Tryz.func31 (by kernel_rfl : _ = some Zcn) (by kernel_rfl) 32 (by kernel_rfl) (Nat.le_of_ble_eq_true rfl) [.t 6] (by kernel_rfl) (by kernel_rfl) (Zie r a0 a1 y h0 (Z0 (fun s y h hk => match s with
 | .L0 v1 v15 v16 v17 => Zh8 r v1 v15 v16 v17 y h hk) h1))
noncomputable def Zbv : Code := (Go.Proofs.Tryz.f33.body).getD .skip
noncomputable def Za0 (r : Bool) : PV := (wB r)
noncomputable def Zbt (r : Bool) : List (Nat × Blk) := []
noncomputable def Zc8 : Zo → Cfg
 | .L0 _ _ _ _ => (nav [1, 1, 0, 1, 4] Zbv []).getD (.done .normal)
noncomputable def Zda : Zo → PW.St
 | .L0 v1 v15 v16 v17 => ⟨32, [(1, (wL Zm v1)), (2, (.fn 34 [])), (15, (wL Zm v15)), (16, (wI v16)), (17, (wI v17))], []⟩
abbrev Zc9 (r : Bool) (y : Zo ⊕ Bool) : Prop := Ok PR [.t 6] (Zbt) Za0 Zc8 Zda r y
theorem Zfx (r : Bool) (v1 : (List Z7)) (v15 : (List Z7)) (v16 : Int) (v17 : Int) (y : Zo ⊕ Bool) (h : Z9 v1 v15 v16 v17 = some y) (hk : Zc9 r y) : (Zc8 (.L0 v1 v15 v16 v17)).HH PR [.t 6] Zbt Za0 r (Zda (.L0 v1 v15 v16 v17)) :=
 Za h (fun h1 h => have q := (q0.t 1 h1).b (Zs Zm 89 (fun _ => rfl) v15);
 Zb h fun x2 h3 h => have q := (((q.o [.cs (Zm x2), .lab 1008]).b (Z2 h3)).b (Zz Zm h3)).b (Zs Zm 89 (fun _ => rfl) v1);
 Zb h fun x4 h5 h => have q := ((q.o [.cs (Zm x4), .lab 1009]).b (Z2 h5)).b (Zz Zm h5);
 Zb h fun x6 h7 h => have q := (q.k x6).b (Zan0 x2 x4 h7);
 Za h (fun h8 h => lR h hk (q.t 1 h8)) (fun h8 h => lG h hk ((q.f 1 h8).o [.pick [17, 1, 2, 15, 16] [], .pick [1, 2, 15, 16, 17] []]))) (fun h1 h => lR h hk (q0.f 1 h1))
theorem Zf6 (r : Bool) (a0 : (List Z7)) (a1 : (List Z7)) (y : Zo ⊕ Bool) (h : Zbu a0 a1 = some y) (hk : Zc9 r y) : (Cfg.code Zbv []).HH PR [.t 6] Zbt Za0 r ⟨32, idx 0 [(wL Zm a0), (wL Zm a1), (.fn 34 [])], []⟩ := have q := ((q0.o [.num (a0.length : Int), .num (a1.length : Int)]).b (Zt Zm a0)).b (Zt Zm a1);
 Za h (fun h3 h => lR h hk (q.t 1 h3)) (fun h3 h => lG h hk (((q.f 1 h3).o [.num (a0.length : Int), .pick [17, 16, 15, 2, 1] [], .pick [1, 2, 15, 16, 17] []]).b (Zt Zm a0)))
theorem Zgg (a0 : (List Z7)) (a1 : (List Z7)) {r : Bool} (h : Za5 a0 a1 = some r) : Fn PR 33 [(wL Zm a0), (wL Zm a1), (.fn 34 [])] (Za0 r) :=
 Zb h fun y h0 h1 => FnG.of_cfg hT Go.Proofs.Tryz.func33 (by kernel_rfl : _ = some Zbv) (by kernel_rfl) 32 (by kernel_rfl) (Nat.le_of_ble_eq_true rfl) [.t 6] (by kernel_rfl) (by kernel_rfl) (Zf6 r a0 a1 y h0 (Z0 (fun s y h hk => match s with
 | .L0 v1 v15 v16 v17 => Zfx r v1 v15 v16 v17 y h hk) h1))
noncomputable def Zco : Code := (Go.Proofs.Tryz.f35.body).getD .skip
noncomputable def Zbn (r : Bool) : PV := (wB r)
noncomputable def Zci (r : Bool) : List (Nat × Blk) := []
noncomputable def Zeq : Zy → Cfg
 | .L0 _ _ _ _ => (nav [1, 1, 0, 1, 4] Zco []).getD (.done .normal)
noncomputable def Zeu : Zy → PW.St
 | .L0 v1 v15 v16 v17 => ⟨32, [(1, (wL Zn v1)), (2, (.fn 36 [])), (15, (wL Zn v15)), (16, (wI v16)), (17, (wI v17))], []⟩
abbrev Zer (r : Bool) (y : Zy ⊕ Bool) : Prop := Ok PR [.t 6] (Zci) Zbn Zeq Zeu r y
theorem Zh9 (r : Bool) (v1 : (List Zao)) (v15 : (List Zao)) (v16 : Int) (v17 : Int) (y : Zy ⊕ Bool) (h : Zal v1 v15 v16 v17 = some y) (hk : Zer r y) : (Zeq (.L0 v1 v15 v16 v17)).HH PR [.t 6] Zci Zbn r (Zeu (.L0 v1 v15 v16 v17)) :=
 Za h (fun h1 h => have q := (q0.t 1 h1).b (Zs Zn 6 (fun _ => rfl) v15);
 Zb h fun x2 h3 h => have q := (((q.o [.cs (Zn x2), .lab 1008]).b (Z2 h3)).b (Zz Zn h3)).b (Zs Zn 6 (fun _ => rfl) v1);
 Zb h fun x4 h5 h => have q := ((q.o [.cs (Zn x4), .lab 1009]).b (Z2 h5)).b (Zz Zn h5);
 Zb h fun x6 h7 h => have q := (q.k x6).b (Zaxv x2 x4 h7);
 Za h (fun h8 h => lR h hk (q.t 1 h8)) (fun h8 h => lG h hk ((q.f 1 h8).o [.pick [17, 1, 2, 15, 16] [], .pick [1, 2, 15, 16, 17] []]))) (fun h1 h => lR h hk (q0.f 1 h1))
theorem Zif (r : Bool) (a0 : (List Zao)) (a1 : (List Zao)) (y : Zy ⊕ Bool) (h : Zcl a0 a1 = some y) (hk : Zer r y) : (Cfg.code Zco []).HH PR [.t 6] Zci Zbn r ⟨32, idx 0 [(wL Zn a0), (wL Zn a1), (.fn 36 [])], []⟩ := have q := ((q0.o [.num (a0.length : Int), .num (a1.length : Int)]).b (Zt Zn a0)).b (Zt Zn a1);
 Za h (fun h3 h => lR h hk (q.t 1 h3)) (fun h3 h => lG h hk (((q.f 1 h3).o [.num (a0.length : Int), .pick [17, 16, 15, 2, 1] [], .pick [1, 2, 15, 16, 17] []]).b (Zt Zn a0)))
theorem Ziw (a0 : (List Zao)) (a1 : (List Zao)) {r : Bool} (h : Zbs a0 a1 = some r) : Fn PR 35 [(wL Zn a0), (wL Zn a1), (.fn 36 [])] (Zbn r) :=
 Zb h fun y h0 h1 => FnG.of_cfg hT Go.Proofs.Tryz.func35 (by kernel_rfl : _ = some Zco) (by kernel_rfl) 32 (by kernel_rfl) (Nat.le_of_ble_eq_true rfl) [.t 6] (by kernel_rfl) (by kernel_rfl) (Zif r a0 a1 y h0 (Z0 (fun s y h hk => match s with
 | .L0 v1 v15 v16 v17 => Zh9 r v1 v15 v16 v17 y h hk) h1))
end
end Go.PW
