import Derived.Test.YtloamjgjcjandaaGreatQWd
set_option linter.all false
set_option maxRecDepth 100000
namespace Go.PW
open Go.RowKit
noncomputable section
noncomputable def Zc9 : Code := (Go.Proofs.Tryz.f47.body).getD .skip
noncomputable def Zdv (r : (List Z5)) : PV := (.osl 5000 (List.map Zu r).length)
noncomputable def Zd8 (r : (List Z5)) : List (Nat × Blk) := [(5000, .row 3 (List.map Zu r))]
noncomputable def Zsx : Zbk → Cfg := fun s => nomatch s
noncomputable def Ztx : Zbk → PW.St := fun s => nomatch s
abbrev Zhm (r : (List Z5)) (y : Zbk ⊕ (List Z5)) : Prop := Ok PR [.t 2] (Zd8) Zdv Zsx Ztx r y
theorem Zse (r : (List Z5)) (a0 : (List Z5)) (hne : a0 ≠ []) (y : Zbk ⊕ (List Z5)) (h : Zeg a0 = some y) (hk : Zhm r y) : (Cfg.code Zc9 []).HH PR [.t 2] Zd8 Zdv r ⟨8, idx 0 [(wL Zu a0)], []⟩ :=
 Zb h fun x1 h2 h => lO h hk [5000] ((((((((q0.f 1 (Zwe Zu hne)).o [.lab 1005, .es (List.map Zu x1), .relab 1005 5000]).b (Eq.refl false)).b (Eq.refl (List.map Zu ([] : (List Z5))).length)).b (Zdw Zu h2)).b (Zq Zu 3 (fun _ => rfl) a0)).b (Zdx Zu h2)).b (Zcb Zu h2))
theorem Zre (r : (List Z5)) (c : Nat) (y : Zbk ⊕ (List Z5)) (h : Zeg [] = some y) (hk : Zhm r y) : (Cfg.code Zc9 []).HH PR [.t 2] Zd8 Zdv r ⟨8, idx 0 [(.t (.con (.slice none 0 c)))], []⟩ :=
 Zb h fun x1 h2 h => by
 cases Zwf h2
 exact Zfw hm hT (r' := ([] : (List Z5))) h hk 400 [.br true, .own 2 5000 3] [5000] (And.intro (Eq.refl true) trivial) (by kernel_rfl)
theorem Zrf (r : (List Z5)) (c : Nat) (ad : Addr) (y : Zbk ⊕ (List Z5)) (h : Zeg [] = some y) (hk : Zhm r y) : (Cfg.code Zc9 []).HH PR [.t 2] Zd8 Zdv r ⟨8, idx 0 [(.t (.con (.slice (some ad) 0 c)))], []⟩ :=
 Zb h fun x1 h2 h =>
 Zfw hm hT (r' := x1) h hk 400 [.br false, .lab 1005, .es (List.map Zu x1), .relab 1005 5000] [5000] (And.intro (Eq.refl false) (And.intro (Eq.refl (List.map Zu ([] : (List Z5))).length) (And.intro (Zdw Zu h2) (And.intro (Zq Zu 3 (fun _ => rfl) ([] : (List Z5))) (And.intro (Zdx Zu h2) (And.intro (Zcb Zu h2) trivial)))))) (by kernel_rfl)
theorem Zsy (a0 : (List Z5)) {r : (List Z5)} (h : Zf3 a0 = some r) : FnG PR 47 [] [(wL Zu a0)] ((Zd8) r) (Zdv r) :=
 Zb h fun y h0 h1 => FnG.split0 (fun hne => FnG.of_cfg hT Go.Proofs.Tryz.func47 (by kernel_rfl : _ = some Zc9) (by kernel_rfl) 8 (by kernel_rfl) (Nat.le_of_ble_eq_true rfl) [.t 2] (by kernel_rfl) (by kernel_rfl) (Zse r a0 (fun e => hne (by rw [e]; rfl)) y h0 (Z1 (fun s _ _ _ => nomatch s) h1)))
 (fun he a c => by
 have ha : a0 = [] := by simpa using he
 subst ha
 cases a with
 | none => exact FnG.of_cfg hT Go.Proofs.Tryz.func47 (by kernel_rfl : _ = some Zc9) (by kernel_rfl) 8 (by kernel_rfl) (Nat.le_of_ble_eq_true rfl) [.t 2] (by kernel_rfl) (by kernel_rfl) (Zre r c y h0 (Z1 (fun s _ _ _ => nomatch s) h1))
 | some ad => exact FnG.of_cfg hT Go.Proofs.Tryz.func47 (by kernel_rfl : _ = some Zc9) (by kernel_rfl) 8 (by kernel_rfl) (Nat.le_of_ble_eq_true rfl) [.t 2] (by kernel_rfl) (by kernel_rfl) (Zrf r c ad y h0 (Z1 (fun s _ _ _ => nomatch s) h1)))
noncomputable def Z7z : Code := (Go.Proofs.Tryz.f46.body).getD .skip
noncomputable def Zty (r : Bool) : PV := (wB r)
noncomputable def Zvj (b0 : Int) (r : Bool) : List (Nat × Blk) := [(0, .box (List.map .t ((cI .i64) b0)))]
noncomputable def Zal0 : Zi7 → Cfg := fun s => nomatch s
noncomputable def Zaob : Zi7 → PW.St := fun s => nomatch s
abbrev Zal1 (b0 : Int) (r : Bool) (y : Zi7 ⊕ Bool) : Prop := Ok PR [.t 3] (Zvj b0) Zty Zal0 Zaob r y
theorem Zajg (r : Bool) (a0 : Z5) (b0 : Int) (y : Zi7 ⊕ Bool) (h : Zwu a0 b0 = some y) (hk : Zal1 b0 r y) : (Cfg.code Z7z []).holds PR (Upto (RetQ [.t 3] ((Zvj b0) r) (Zty r))) ⟨13, idx 0 [(.agg (bx (Zu a0))), (.bptr 0 0)], [(0, .box (List.map .t ((cI .i64) b0)))]⟩ := have q := q0.o [.lab 1002];
 Za h (fun h1 h => lO h hk [0] (q.t 5 h1)) (fun h1 h => lO h hk [0] (q.f 5 h1))
theorem Zal2 (a0 : Z5) (b0 : Int) {r : Bool} (h : Ztl a0 b0 = some r) : FnG PR 46 [(0, .box (List.map .t ((cI .i64) b0)))] [(.agg (bx (Zu a0))), (.bptr 0 0)] ((Zvj b0) r) (Zty r) :=
 Zb h fun y h0 h1 => FnG.of_cfg hT Go.Proofs.Tryz.func46 (by kernel_rfl : _ = some Z7z) (by kernel_rfl) 13 (by kernel_rfl) (Nat.le_of_ble_eq_true rfl) [.t 3] (by kernel_rfl) (by kernel_rfl) (Zajg r a0 b0 y h0 (Z1 (fun s _ _ _ => nomatch s) h1))
noncomputable def Zex : Code := (Go.Proofs.Tryz.f69.body).getD .skip
noncomputable def Zcs (r : (Int × Int)) : PV := (wI r.1)
noncomputable def Zcx (r : (Int × Int)) : List (Nat × Blk) := [(0, .box (List.map .t ((cI .i64) r.2)))]
noncomputable def Zgu : Zah → Cfg
 | .L0 _ _ _ _ => (nav [1, 0, 1, 4] Zex []).getD (.done .normal)
noncomputable def Zgy : Zah → PW.St
 | .L0 v0 b0 v7 v8 => ⟨19, [(0, (wL Zu v0)), (1, (.fn 46 [(.bptr 0 0)])), (7, (wI v7)), (8, (wI v8))], [(0, .box [(wI b0)])]⟩
abbrev Zgv (r : (Int × Int)) (y : Zah ⊕ (Int × Int)) : Prop := Ok PR [.t 4] (Zcx) Zcs Zgu Zgy r y
theorem Zl6 (r : (Int × Int)) (v0 : (List Z5)) (b0 : Int) (v7 : Int) (v8 : Int) (y : Zah ⊕ (Int × Int)) (h : Zbd v0 b0 v7 v8 = some y) (hk : Zgv r y) : (Zgu (.L0 v0 b0 v7 v8)).HH PR [.t 4] Zcx Zcs r (Zgy (.L0 v0 b0 v7 v8)) :=
 Za h (fun h1 h => have q := (q0.t 1 h1).b (Zq Zu 3 (fun _ => rfl) v0);
 Zb h fun x2 h3 h => have q := ((q.o [.cs (Zu x2)]).b (Z2 h3)).b (Zv Zu h3);
 Zb h fun x4 h5 h => have q := (q.o [.callO false [0] 170000 [] (wB x4)]).b (Zal2 x2 b0 h5);
 Za h (fun h6 h => lO h hk [0] (q.t 1 h6)) (fun h6 h => lG h hk ((q.f 1 h6).o [.pick [8, 0, 1, 7] [0], .pick [0, 1, 7, 8] [0]]))) (fun h1 h => lO h hk [0] (q0.f 1 h1))
theorem Zmh (r : (Int × Int)) (a0 : (List Z5)) (b0 : Int) (y : Zah ⊕ (Int × Int)) (h : Zew a0 b0 = some y) (hk : Zgv r y) : (Cfg.code Zex []).HH PR [.t 4] Zcx Zcs r ⟨19, idx 0 [(wL Zu a0), (.fn 46 [(.bptr 0 0)])], [(0, .box (List.map .t ((cI .i64) b0)))]⟩ :=
 lG h hk ((q0.o [.num (a0.length : Int), .pick [8, 7, 1, 0] [0], .pick [0, 1, 7, 8] [0]]).b (Zr Zu a0))
theorem Zml (a0 : (List Z5)) (b0 : Int) {r : (Int × Int)} (h : Ze7 a0 b0 = some r) : FnG PR 69 [(0, .box (List.map .t ((cI .i64) b0)))] [(wL Zu a0), (.fn 46 [(.bptr 0 0)])] ((Zcx) r) (Zcs r) :=
 Zb h fun y h0 h1 => FnG.of_cfg hT Go.Proofs.Tryz.func69 (by kernel_rfl : _ = some Zex) (by kernel_rfl) 19 (by kernel_rfl) (Nat.le_of_ble_eq_true rfl) [.t 4] (by kernel_rfl) (by kernel_rfl) (Zmh r a0 b0 y h0 (Z1 (fun s y h hk => match s with
 | .L0 v0 b0 v7 v8 => Zl6 r v0 b0 v7 v8 y h hk) h1))
noncomputable def Zgm : Code := (Go.Proofs.Tryz.f45.body).getD .skip
noncomputable def Zd1 (r : (Bool × Int)) : PV := (wB r.1)
noncomputable def Zd9 (r : (Bool × Int)) : List (Nat × Blk) := [(0, .box (List.map .t ((cI .i64) r.2)))]
noncomputable def Zlb : Zat → Cfg := fun s => nomatch s
noncomputable def Zl7 : Zat → PW.St := fun s => nomatch s
abbrev Zlc (r : (Bool × Int)) (y : Zat ⊕ (Bool × Int)) : Prop := Ok PR [.t 4] (Zd9) Zd1 Zlb Zl7 r y
theorem Zk3 (r : (Bool × Int)) (a0 : (List Z5)) (b0 : Int) (y : Zat ⊕ (Bool × Int)) (h : Zeb a0 b0 = some y) (hk : Zlc r y) : (Cfg.code Zgm []).HH PR [.t 4] Zd9 Zd1 r ⟨9, idx 0 [(wL Zu a0), (.fn 46 [(.bptr 0 0)])], [(0, .box (List.map .t ((cI .i64) b0)))]⟩ :=
 Zb h fun x1 h2 h => lO h hk [0] ((q0.o [.callU false [0] 80000 [(0, .box (List.map .t ((cI .i64) x1.2)))] (wI x1.1)]).b (Zml a0 b0 h2))
theorem Zld (a0 : (List Z5)) (b0 : Int) {r : (Bool × Int)} (h : Zcw a0 b0 = some r) : FnG PR 45 [(0, .box (List.map .t ((cI .i64) b0)))] [(wL Zu a0), (.fn 46 [(.bptr 0 0)])] ((Zd9) r) (Zd1 r) :=
 Zb h fun y h0 h1 => FnG.of_cfg hT Go.Proofs.Tryz.func45 (by kernel_rfl : _ = some Zgm) (by kernel_rfl) 9 (by kernel_rfl) (Nat.le_of_ble_eq_true rfl) [.t 4] (by kernel_rfl) (by kernel_rfl) (Zk3 r a0 b0 y h0 (Z1 (fun s _ _ _ => nomatch s) h1))
noncomputable def Z13 : Code := (Go.Proofs.Tryz.f44.body).getD .skip
noncomputable def Zpz (r : Bool) : PV := (wB r)
noncomputable def Zqz (b0 : Zab) (b1 : Int) (r : Bool) : List (Nat × Blk) := [(0, .box (bx (Ze3 b0))), (1, .box (List.map .t ((cI .i64) b1)))]
noncomputable def Zaek : Zg7 → Cfg := fun s => nomatch s
noncomputable def Zah4 : Zg7 → PW.St := fun s => nomatch s
abbrev Zael (b0 : Zab) (b1 : Int) (r : Bool) (y : Zg7 ⊕ Bool) : Prop := Ok PR [.t 4] (Zqz b0 b1) Zpz Zaek Zah4 r y
theorem Zad0 (r : Bool) (a0 : Int) (b0 : Zab) (b1 : Int) (y : Zg7 ⊕ Bool) (h : Zr2 a0 b0 b1 = some y) (hk : Zael b0 b1 r y) : (Cfg.code Z13 []).holds PR (Upto (RetQ [.t 4] ((Zqz b0 b1) r) (Zpz r))) ⟨23, idx 0 [(wI a0), (.bptr 0 0), (.bptr 1 0)], [(0, .box (bx (Ze3 b0))), (1, .box (List.map .t ((cI .i64) b1)))]⟩ := have q := q0.o [.lab 1003];
 Za h (fun h1 h => have q := q.t 6 h1;
 Za h (fun h2 h => Zb h fun x3 h4 h => lO h hk [0, 1] ((((q.t 5 h2).o [.callU false [1003] 220000 [(0, .box (List.map .t ((cI .i64) x3.2)))] (wB x3.1)]).t 1 (Zld b0.Pending.Options a0 h4)).b h2)) (fun h2 h => lO h hk [0, 1] (q.f 6 h2))) (fun h1 h => lO h hk [0, 1] (((q.ff 12).a 6 h1).a 6 (Eq.refl false)))
theorem Zaem (a0 : Int) (b0 : Zab) (b1 : Int) {r : Bool} (h : Zpw a0 b0 b1 = some r) : FnG PR 44 [(0, .box (bx (Ze3 b0))), (1, .box (List.map .t ((cI .i64) b1)))] [(wI a0), (.bptr 0 0), (.bptr 1 0)] ((Zqz b0 b1) r) (Zpz r) :=
 Zb h fun y h0 h1 => FnG.of_cfg hT Go.Proofs.Tryz.func44 (by kernel_rfl : _ = some Z13) (by kernel_rfl) 23 (by kernel_rfl) (Nat.le_of_ble_eq_true rfl) [.t 4] (by kernel_rfl) (by kernel_rfl) (Zad0 r a0 b0 b1 y h0 (Z1 (fun s _ _ _ => nomatch s) h1))
noncomputable def Zaf6 : Code := (Go.Proofs.Tryz.f18.body).getD .skip
noncomputable def Zzf (r : Zas) : PV := (.agg [(wI r.Player), (.osl 5001 (List.map Zag r.Players).length), (wL (cI .i64) r.Hand), (.osl 5003 (List.map Zc r.Objects).length), (wL (cI .i64) r.Battlefield), (wL (cI .i64) r.Exile), (wL Zl r.Stack), (wL Zm r.Waiting), (wL Zn r.Conts), (wI r.Turn), (wI r.Active), (wI r.Step), (wI r.Priority), (wI r.Passes), (wI r.NextId), (wI r.Over), (wI r.Winner), (wL (cI .i64) r.Extra), (wI r.Pending.Kind), (wI r.Pending.Player), (wI r.Pending.Source), (wI r.Pending.Least), (wI r.Pending.Most), (wI r.Pending.N), (.osl 5024 (List.map Zu r.Pending.Options).length)])
noncomputable def Z4a (r : Zas) : List (Nat × Blk) := [(5001, .row 13 (List.map Zag r.Players)), (5003, .row 19 (List.map Zc r.Objects)), (5024, .row 3 (List.map Zu r.Pending.Options))]
noncomputable def Zah5 : Znr → Cfg
 | .L0 _ _ _ _ _ _ _ _ => (nav [1, 1, 1, 1, 0, 1, 4] Zaf6 []).getD (.done .normal)
 | .L1 _ _ _ _ _ _ _ _ => (nav [1, 1, 1, 1, 1, 0, 1, 4] Zaf6 []).getD (.done .normal)
noncomputable def Zal3 : Znr → PW.St
 | .L0 E0 E1 E2 E3 E4 v47 v48 v49 => ⟨133, [(2, (.bptr 30000000 0)), (3, (.bptr 30000001 0)), (4, (.bptr 30000002 0)), (5, (.bptr 30000003 0)), (6, (.fn 44 [(.bptr 30000000 0), (.bptr 30000001 0)])), (7, (.bptr 30000004 0)), (47, (wL Zg v47)), (48, (wI v48)), (49, (wI v49))], [(30000000, .box (bx (Ze3 E0))), (30000001, .box [(wI E1)]), (30000002, .box [(wI E2.Player), (.osl 40000201 (List.map Zag E2.Players).length), (.osl 40000202 (List.map (cI .i64) E2.Hand).length), (.osl 40000203 (List.map Zc E2.Objects).length), (.osl 40000204 (List.map (cI .i64) E2.Battlefield).length), (.osl 40000205 (List.map (cI .i64) E2.Exile).length), (.osl 40000206 (List.map Zl E2.Stack).length), (.osl 40000207 (List.map Zm E2.Waiting).length), (.osl 40000208 (List.map Zn E2.Conts).length), (wI E2.Turn), (wI E2.Active), (wI E2.Step), (wI E2.Priority), (wI E2.Passes), (wI E2.NextId), (wI E2.Over), (wI E2.Winner), (.osl 40000217 (List.map (cI .i64) E2.Extra).length), (wI E2.Pending.Kind), (wI E2.Pending.Player), (wI E2.Pending.Source), (wI E2.Pending.Least), (wI E2.Pending.Most), (wI E2.Pending.N), (.osl 40000224 (List.map Zu E2.Pending.Options).length)]), (40000201, .row 13 (List.map Zag E2.Players)), (40000202, .row 1 (List.map (cI .i64) E2.Hand)), (40000203, .row 19 (List.map Zc E2.Objects)), (40000204, .row 1 (List.map (cI .i64) E2.Battlefield)), (40000205, .row 1 (List.map (cI .i64) E2.Exile)), (40000206, .row 94 (List.map Zl E2.Stack)), (40000207, .row 89 (List.map Zm E2.Waiting)), (40000208, .row 6 (List.map Zn E2.Conts)), (40000217, .row 1 (List.map (cI .i64) E2.Extra)), (40000224, .row 3 (List.map Zu E2.Pending.Options)), (30000003, .box (bx (Z4 E3))), (30000004, .box [(wI E4.Player), (.osl 40000401 (List.map Zag E4.Players).length), (wL (cI .i64) E4.Hand), (.osl 40000403 (List.map Zc E4.Objects).length), (wL (cI .i64) E4.Battlefield), (wL (cI .i64) E4.Exile), (wL Zl E4.Stack), (wL Zm E4.Waiting), (wL Zn E4.Conts), (wI E4.Turn), (wI E4.Active), (wI E4.Step), (wI E4.Priority), (wI E4.Passes), (wI E4.NextId), (wI E4.Over), (wI E4.Winner), (wL (cI .i64) E4.Extra), (wI E4.Pending.Kind), (wI E4.Pending.Player), (wI E4.Pending.Source), (wI E4.Pending.Least), (wI E4.Pending.Most), (wI E4.Pending.N), (.osl 40000424 (List.map Zu E4.Pending.Options).length)]), (40000401, .row 13 (List.map Zag E4.Players)), (40000403, .row 19 (List.map Zc E4.Objects)), (40000424, .row 3 (List.map Zu E4.Pending.Options))]⟩
 | .L1 E0 E1 E2 E3 E4 v86 v87 v88 => ⟨133, [(2, (.bptr 30000000 0)), (3, (.bptr 30000001 0)), (4, (.bptr 30000002 0)), (5, (.bptr 30000003 0)), (6, (.fn 44 [(.bptr 30000000 0), (.bptr 30000001 0)])), (7, (.bptr 30000004 0)), (86, (wL Zc v86)), (87, (wI v87)), (88, (wI v88))], [(30000000, .box (bx (Ze3 E0))), (30000001, .box [(wI E1)]), (30000002, .box [(wI E2.Player), (.osl 40000201 (List.map Zag E2.Players).length), (.osl 40000202 (List.map (cI .i64) E2.Hand).length), (.osl 40000203 (List.map Zc E2.Objects).length), (.osl 40000204 (List.map (cI .i64) E2.Battlefield).length), (.osl 40000205 (List.map (cI .i64) E2.Exile).length), (.osl 40000206 (List.map Zl E2.Stack).length), (.osl 40000207 (List.map Zm E2.Waiting).length), (.osl 40000208 (List.map Zn E2.Conts).length), (wI E2.Turn), (wI E2.Active), (wI E2.Step), (wI E2.Priority), (wI E2.Passes), (wI E2.NextId), (wI E2.Over), (wI E2.Winner), (.osl 40000217 (List.map (cI .i64) E2.Extra).length), (wI E2.Pending.Kind), (wI E2.Pending.Player), (wI E2.Pending.Source), (wI E2.Pending.Least), (wI E2.Pending.Most), (wI E2.Pending.N), (.osl 40000224 (List.map Zu E2.Pending.Options).length)]), (40000201, .row 13 (List.map Zag E2.Players)), (40000202, .row 1 (List.map (cI .i64) E2.Hand)), (40000203, .row 19 (List.map Zc E2.Objects)), (40000204, .row 1 (List.map (cI .i64) E2.Battlefield)), (40000205, .row 1 (List.map (cI .i64) E2.Exile)), (40000206, .row 94 (List.map Zl E2.Stack)), (40000207, .row 89 (List.map Zm E2.Waiting)), (40000208, .row 6 (List.map Zn E2.Conts)), (40000217, .row 1 (List.map (cI .i64) E2.Extra)), (40000224, .row 3 (List.map Zu E2.Pending.Options)), (30000003, .box (bx (Z4 E3))), (30000004, .box [(wI E4.Player), (.osl 40000401 (List.map Zag E4.Players).length), (wL (cI .i64) E4.Hand), (.osl 40000403 (List.map Zc E4.Objects).length), (wL (cI .i64) E4.Battlefield), (wL (cI .i64) E4.Exile), (wL Zl E4.Stack), (wL Zm E4.Waiting), (wL Zn E4.Conts), (wI E4.Turn), (wI E4.Active), (wI E4.Step), (wI E4.Priority), (wI E4.Passes), (wI E4.NextId), (wI E4.Over), (wI E4.Winner), (wL (cI .i64) E4.Extra), (wI E4.Pending.Kind), (wI E4.Pending.Player), (wI E4.Pending.Source), (wI E4.Pending.Least), (wI E4.Pending.Most), (wI E4.Pending.N), (.osl 40000424 (List.map Zu E4.Pending.Options).length)]), (40000401, .row 13 (List.map Zag E4.Players)), (40000403, .row 19 (List.map Zc E4.Objects)), (40000424, .row 3 (List.map Zu E4.Pending.Options))]⟩
abbrev Zah6 (r : Zas) (y : Znr ⊕ Zas) : Prop := Ok PR [.c 4 49 true 25] (Z4a) Zzf Zah5 Zal3 r y
theorem Zba3 (r : Zas) (E0 : Zab) (E1 : Int) (E2 : Zas) (E3 : Zd) (E4 : Zas) (v47 : (List Zaa)) (v48 : Int) (v49 : Int) (y : Znr ⊕ Zas) (h : Zya E0 E1 E2 E3 E4 v47 v48 v49 = some y) (hk : Zah6 r y) : (Zah5 (.L0 E0 E1 E2 E3 E4 v47 v48 v49)).HH PR [.c 4 49 true 25] Z4a Zzf r (Zal3 (.L0 E0 E1 E2 E3 E4 v47 v48 v49)) :=
 Za h (fun h1 h => have q := (q0.t 1 h1).b (Zq Zg 14 (fun _ => rfl) v47);
 Zb h fun x2 h3 h => have q := (((((q.o [.cs (Zg x2), .lab 1009, .num (x2.Library.length : Int), .num (x2.Hand.length : Int), .lit]).b (Z2 h3)).b (Zv Zg h3)).b (Zr (cI .i64) x2.Library)).b (Zr (cI .i64) x2.Hand)).b (Eq.refl (List.map Zag E4.Players).length);
 Zb h fun x7 h8 h => have q := ((((q.o [.es (List.map Zag x7)]).b (Zdw Zag h8)).b (Zq Zag 13 (fun _ => rfl) [(⟨x2.Life, x2.Venom, x2.Lands, (x2.Library.length : Int), (x2.Hand.length : Int), x2.Pool, x2.Lost, x2.Graveyard⟩ : Zcy)])).b (Zdx Zag h8)).b (Zcb Zag h8);
 Za h (fun h11 h => lG h hk ((q.t 1 h11).o [.pick [49, 2, 3, 4, 5, 6, 7, 47, 48] [30000004, 40000401, 30000000, 30000001, 30000002, 40000201, 40000202, 40000203, 40000204, 40000205, 40000206, 40000207, 40000208, 40000217, 40000224, 30000003, 40000403, 40000424], .pick [2, 3, 4, 5, 6, 7, 47, 48, 49] [30000000, 30000001, 30000002, 40000201, 40000202, 40000203, 40000204, 40000205, 40000206, 40000207, 40000208, 40000217, 40000224, 30000003, 30000004, 40000401, 40000403, 40000424]])) (fun h11 h => lG h hk ((q.f 1 h11).o [.pick [49, 2, 3, 4, 5, 6, 7, 47, 48] [30000004, 40000401, 30000000, 30000001, 30000002, 40000201, 40000202, 40000203, 40000204, 40000205, 40000206, 40000207, 40000208, 40000217, 40000224, 30000003, 40000403, 40000424], .pick [2, 3, 4, 5, 6, 7, 47, 48, 49] [30000000, 30000001, 30000002, 40000201, 40000202, 40000203, 40000204, 40000205, 40000206, 40000207, 40000208, 40000217, 40000224, 30000003, 30000004, 40000401, 40000403, 40000424]]))) (fun h1 h => lG h hk (((q0.f 1 h1).o [.num (E3.Objects.length : Int), .pick [88, 87, 86, 2, 3, 4, 5, 6, 7] [30000000, 30000001, 30000002, 40000201, 40000202, 40000203, 40000204, 40000205, 40000206, 40000207, 40000208, 40000217, 40000224, 30000003, 30000004, 40000401, 40000403, 40000424], .pick [2, 3, 4, 5, 6, 7, 86, 87, 88] [30000000, 30000001, 30000002, 40000201, 40000202, 40000203, 40000204, 40000205, 40000206, 40000207, 40000208, 40000217, 40000224, 30000003, 30000004, 40000401, 40000403, 40000424]]).b (Zr Zc E3.Objects)))
theorem Zba4 (r : Zas) (E0 : Zab) (E1 : Int) (E2 : Zas) (E3 : Zd) (E4 : Zas) (v86 : (List Zf)) (v87 : Int) (v88 : Int) (y : Znr ⊕ Zas) (h : Zyb E0 E1 E2 E3 E4 v86 v87 v88 = some y) (hk : Zah6 r y) : (Zah5 (.L1 E0 E1 E2 E3 E4 v86 v87 v88)).HH PR [.c 4 49 true 25] Z4a Zzf r (Zal3 (.L1 E0 E1 E2 E3 E4 v86 v87 v88)) :=
 Za h (fun h1 h => have q := (q0.t 1 h1).b (Zq Zc 19 (fun _ => rfl) v86);
 Zb h fun x2 h3 h => have q := ((q.o [.cs (Zc x2), .lab 1011]).b (Z2 h3)).b (Zv Zc h3);
 Zb h fun x4 h5 h => have q := (q.k x4).b (Zz9 E3 E1 x2.Id h5);
 Za h (fun h6 h => Zb h fun x8 h9 h => lG h hk (((((((((q.tt 6).o [.lit, .es (List.map Zc x8), .pick [88, 2, 3, 4, 5, 6, 7, 86, 87] [30000004, 40000403, 30000000, 30000001, 30000002, 40000201, 40000202, 40000203, 40000204, 40000205, 40000206, 40000207, 40000208, 40000217, 40000224, 30000003, 40000401, 40000424], .pick [2, 3, 4, 5, 6, 7, 86, 87, 88] [30000000, 30000001, 30000002, 40000201, 40000202, 40000203, 40000204, 40000205, 40000206, 40000207, 40000208, 40000217, 40000224, 30000003, 30000004, 40000401, 40000403, 40000424]]).a 5 h6).b (Eq.refl true)).b (Eq.refl (List.map Zc E4.Objects).length)).b (Zdw Zc h9)).b (Zq Zc 19 (fun _ => rfl) [x2])).b (Zdx Zc h9)).b (Zcb Zc h9))) (fun h6 h => have q := q.f 4 h6;
 Zb h fun x14 h15 h => have q := ((q.o [.callO false [30000000, 30000001] 1020000 [] (wB x14)]).f 1 (Zaem x2.Id E0 E1 h15)).b h6;
 Za h (fun h16 h => Zb h fun x18 h19 h => lG h hk (((((((q.t 1 h16).o [.lit, .es (List.map Zc x18), .pick [88, 2, 3, 4, 5, 6, 7, 86, 87] [30000004, 40000403, 30000000, 30000001, 30000002, 40000201, 40000202, 40000203, 40000204, 40000205, 40000206, 40000207, 40000208, 40000217, 40000224, 30000003, 40000401, 40000424], .pick [2, 3, 4, 5, 6, 7, 86, 87, 88] [30000000, 30000001, 30000002, 40000201, 40000202, 40000203, 40000204, 40000205, 40000206, 40000207, 40000208, 40000217, 40000224, 30000003, 30000004, 40000401, 40000403, 40000424]]).b (Eq.refl (List.map Zc E4.Objects).length)).b (Zdw Zc h19)).b (Zq Zc 19 (fun _ => rfl) [x2])).b (Zdx Zc h19)).b (Zcb Zc h19))) (fun h16 h => lG h hk ((q.f 1 h16).o [.pick [88, 2, 3, 4, 5, 6, 7, 86, 87] [30000000, 30000001, 30000002, 40000201, 40000202, 40000203, 40000204, 40000205, 40000206, 40000207, 40000208, 40000217, 40000224, 30000003, 30000004, 40000401, 40000403, 40000424], .pick [2, 3, 4, 5, 6, 7, 86, 87, 88] [30000000, 30000001, 30000002, 40000201, 40000202, 40000203, 40000204, 40000205, 40000206, 40000207, 40000208, 40000217, 40000224, 30000003, 30000004, 40000401, 40000403, 40000424]])))) (fun h1 h => have q := q0.f 1 h1;
 Za h (fun h26 h => Zb h fun x27 h28 h => lO h hk [5001, 5003, 5024] (((q.t 1 h26).o [.callO false [] 1300000 [(5000, .row 3 (List.map Zu x27))] (.osl 5000 (List.map Zu x27).length), .relab 40000401 5001, .relab 40000403 5003, .relab 1305000 5024]).b (Zsy E0.Pending.Options h28))) (fun h26 h => lO h hk [5001, 5003, 5024] ((q.f 1 h26).o [.relab 40000401 5001, .relab 40000403 5003, .ownb 30000002 24 5024 3])))
theorem Zbfu (r : Zas) (a0 : Zab) (a1 : Int) (y : Znr ⊕ Zas) (h : Zapc a0 a1 = some y) (hk : Zah6 r y) : (Cfg.code Zaf6 []).HH PR [.c 4 49 true 25] Z4a Zzf r ⟨133, idx 0 [(.agg (bx (Ze3 a0))), (wI a1)], []⟩ :=
 Zb h fun x1 h2 h => lG h hk (((q0.o [.lab 1002, .lab 1003, .lab 1004, .call (.agg (bx (Z4 x1))), .lab 1005, .lab 1007, .num (x1.Players.length : Int), .pick [49, 48, 47, 7, 6, 5, 4, 3, 2] [1007, 1005, 1004, 1003, 1002], .relab 1002 30000000, .relab 1003 30000001, .relab 1004 30000002, .relab 1005 30000003, .relab 1007 30000004, .ownb 30000002 1 40000201 13, .ownb 30000002 2 40000202 1, .ownb 30000002 3 40000203 19, .ownb 30000002 4 40000204 1, .ownb 30000002 5 40000205 1, .ownb 30000002 6 40000206 94, .ownb 30000002 7 40000207 89, .ownb 30000002 8 40000208 6, .ownb 30000002 17 40000217 1, .ownb 30000002 24 40000224 3, .ownb 30000004 1 40000401 13, .niltb 30000004 2, .ownb 30000004 3 40000403 19, .ownb 30000004 24 40000424 3, .pick [2, 3, 4, 5, 6, 7, 47, 48, 49] [30000000, 30000001, 30000002, 40000201, 40000202, 40000203, 40000204, 40000205, 40000206, 40000207, 40000208, 40000217, 40000224, 30000003, 30000004, 40000401, 40000403, 40000424]]).b (Zbfr a0.State h2)).b (Zr Zg x1.Players))
theorem Zbjy (a0 : Zab) (a1 : Int) {r : Zas} (h : Z5m a0 a1 = some r) : FnG PR 18 [] [(.agg (bx (Ze3 a0))), (wI a1)] ((Z4a) r) (Zzf r) :=
 Zb h fun y h0 h1 => FnG.of_cfg hT Go.Proofs.Tryz.func18 (by kernel_rfl : _ = some Zaf6) (by kernel_rfl) 133 (by kernel_rfl) (Nat.le_of_ble_eq_true rfl) [.c 4 49 true 25] (by kernel_rfl) (by kernel_rfl) (Zbfu r a0 a1 y h0 (Z1 (fun s y h hk => match s with
 | .L0 E0 E1 E2 E3 E4 v47 v48 v49 => Zba3 r E0 E1 E2 E3 E4 v47 v48 v49 y h hk
 | .L1 E0 E1 E2 E3 E4 v86 v87 v88 => Zba4 r E0 E1 E2 E3 E4 v86 v87 v88 y h hk) h1))
theorem Zal4 (a0 : Zab) (a1 : Int) {r : Zas} (h : Z5m a0 a1 = some r) : Fn PR 18 [(.agg (bx (Ze3 a0))), (wI a1)] (.agg (bx (Zkr r))) :=
 FnG.frozen (Zbjy a0 a1 h) (And.intro (Eq.refl (List.map Zag r.Players).length) (And.intro (Eq.refl (List.map Zc r.Objects).length) (And.intro (Eq.refl (List.map Zu r.Pending.Options).length) trivial))) (by kernel_rfl)
noncomputable def Zal5 : Code := (Go.Proofs.Tryz.f22.body).getD .skip
noncomputable def Z4b (r : Bool) : PV := (wB r)
noncomputable def Zah7 (r : Bool) : List (Nat × Blk) := []
noncomputable def Zark : Zly → Cfg
 | .L0 _ _ _ => (nav [1, 1, 0, 1, 4] Zal5 []).getD (.done .normal)
noncomputable def Zav2 : Zly → PW.St
 | .L0 v0 v1 v5 => ⟨26, [(0, (wL (cI .i64) v0)), (1, (wL (cI .i64) v1)), (5, (wI v5))], []⟩
abbrev Zarl (r : Bool) (y : Zly ⊕ Bool) : Prop := Ok PR [.t 4] (Zah7) Z4b Zark Zav2 r y
theorem Za6k (r : Bool) (v0 : (List Int)) (v1 : (List Int)) (v5 : Int) (y : Zly ⊕ Bool) (h : Zu4 v0 v1 v5 = some y) (hk : Zarl r y) : (Zark (.L0 v0 v1 v5)).HH PR [.t 4] Zah7 Z4b r (Zav2 (.L0 v0 v1 v5)) := have q := (q0.n (v0.length : Int)).b (Zr (cI .i64) v0);
 Za h (fun h2 h => have q := (q.t 1 h2).b (Zq (cI .i64) 1 (fun _ => rfl) v0);
 Zb h fun x3 h4 h => have q := (((q.o [.cs ((cI .i64) x3)]).b (Z2 h4)).b (Zv (cI .i64) h4)).b (Zq (cI .i64) 1 (fun _ => rfl) v1);
 Zb h fun x5 h6 h => have q := ((q.o [.cs ((cI .i64) x5)]).b (Z2 h6)).b (Zv (cI .i64) h6);
 Za h (fun h7 h => lR h hk (q.t 1 h7)) (fun h7 h => lG h hk ((q.f 1 h7).o [.pick [5, 0, 1] [], .pick [0, 1, 5] []]))) (fun h2 h => lR h hk (q.f 1 h2))
theorem Zba5 (r : Bool) (a0 : (List Int)) (a1 : (List Int)) (y : Zly ⊕ Bool) (h : Zak3 a0 a1 = some y) (hk : Zarl r y) : (Cfg.code Zal5 []).HH PR [.t 4] Zah7 Z4b r ⟨26, idx 0 [(wL (cI .i64) a0), (wL (cI .i64) a1)], []⟩ := have q := ((q0.o [.num (a0.length : Int), .num (a1.length : Int)]).b (Zr (cI .i64) a0)).b (Zr (cI .i64) a1);
 Za h (fun h3 h => lR h hk (q.t 1 h3)) (fun h3 h => lG h hk ((q.f 1 h3).o [.pick [5, 1, 0] [], .pick [0, 1, 5] []]))
theorem Zbjz (a0 : (List Int)) (a1 : (List Int)) {r : Bool} (h : Zak4 a0 a1 = some r) : Fn PR 22 [(wL (cI .i64) a0), (wL (cI .i64) a1)] (Z4b r) :=
 Zb h fun y h0 h1 => FnG.of_cfg hT Go.Proofs.Tryz.func22 (by kernel_rfl : _ = some Zal5) (by kernel_rfl) 26 (by kernel_rfl) (Nat.le_of_ble_eq_true rfl) [.t 4] (by kernel_rfl) (by kernel_rfl) (Zba5 r a0 a1 y h0 (Z1 (fun s y h hk => match s with
 | .L0 v0 v1 v5 => Za6k r v0 v1 v5 y h hk) h1))
noncomputable def Zo7 : Code := (Go.Proofs.Tryz.f27.body).getD .skip
noncomputable def Zj6 (r : Bool) : PV := (wB r)
noncomputable def Zod (r : Bool) : List (Nat × Blk) := []
noncomputable def Zs6 : Zcg → Cfg
 | .L0 _ _ _ _ => (nav [1, 1, 0, 1, 4] Zo7 []).getD (.done .normal)
noncomputable def Zuu : Zcg → PW.St
 | .L0 v0 v1 v12 v13 => ⟨26, [(0, (wL (cI .i64) v0)), (1, (wL (cI .i64) v1)), (12, (wI v12)), (13, (wI v13))], []⟩
abbrev Zs7 (r : Bool) (y : Zcg ⊕ Bool) : Prop := Ok PR [.t 4] (Zod) Zj6 Zs6 Zuu r y
theorem Z4u (r : Bool) (v0 : (List Int)) (v1 : (List Int)) (v12 : Int) (v13 : Int) (y : Zcg ⊕ Bool) (h : Zgc v0 v1 v12 v13 = some y) (hk : Zs7 r y) : (Zs6 (.L0 v0 v1 v12 v13)).HH PR [.t 4] Zod Zj6 r (Zuu (.L0 v0 v1 v12 v13)) :=
 Za h (fun h1 h => have q := (q0.t 1 h1).b (Zq (cI .i64) 1 (fun _ => rfl) v0);
 Zb h fun x2 h3 h => have q := (((q.o [.cs ((cI .i64) x2)]).b (Z2 h3)).b (Zv (cI .i64) h3)).b (Zq (cI .i64) 1 (fun _ => rfl) v1);
 Zb h fun x4 h5 h => have q := ((q.o [.cs ((cI .i64) x4)]).b (Z2 h5)).b (Zv (cI .i64) h5);
 Za h (fun h6 h => lR h hk (q.t 1 h6)) (fun h6 h => lG h hk ((q.f 1 h6).o [.pick [13, 0, 1, 12] [], .pick [0, 1, 12, 13] []]))) (fun h1 h => lR h hk (q0.f 1 h1))
theorem Z6c (r : Bool) (a0 : (List Int)) (a1 : (List Int)) (y : Zcg ⊕ Bool) (h : Zo2 a0 a1 = some y) (hk : Zs7 r y) : (Cfg.code Zo7 []).HH PR [.t 4] Zod Zj6 r ⟨26, idx 0 [(wL (cI .i64) a0), (wL (cI .i64) a1)], []⟩ := have q := ((q0.o [.num (a0.length : Int), .num (a1.length : Int)]).b (Zr (cI .i64) a0)).b (Zr (cI .i64) a1);
 Za h (fun h3 h => lR h hk (q.t 1 h3)) (fun h3 h => lG h hk (((q.f 1 h3).o [.num (a0.length : Int), .pick [13, 12, 1, 0] [], .pick [0, 1, 12, 13] []]).b (Zr (cI .i64) a0)))
theorem Zgd (a0 : (List Int)) (a1 : (List Int)) {r : Bool} (h : Zej a0 a1 = some r) : Fn PR 27 [(wL (cI .i64) a0), (wL (cI .i64) a1)] (Zj6 r) :=
 Zb h fun y h0 h1 => FnG.of_cfg hT Go.Proofs.Tryz.func27 (by kernel_rfl : _ = some Zo7) (by kernel_rfl) 26 (by kernel_rfl) (Nat.le_of_ble_eq_true rfl) [.t 4] (by kernel_rfl) (by kernel_rfl) (Z6c r a0 a1 y h0 (Z1 (fun s y h hk => match s with
 | .L0 v0 v1 v12 v13 => Z4u r v0 v1 v12 v13 y h hk) h1))
noncomputable def Zh5 : Code := (Go.Proofs.Tryz.f28.body).getD .skip
noncomputable def Zfl (r : Bool) : PV := (wB r)
noncomputable def Zhs (r : Bool) : List (Nat × Blk) := []
noncomputable def Zk4 : Zav → Cfg
 | .L0 _ _ _ _ => (nav [1, 1, 0, 1, 4] Zh5 []).getD (.done .normal)
noncomputable def Zl8 : Zav → PW.St
 | .L0 v0 v1 v12 v13 => ⟨26, [(0, (wL Zc v0)), (1, (wL Zc v1)), (12, (wI v12)), (13, (wI v13))], []⟩
abbrev Zk5 (r : Bool) (y : Zav ⊕ Bool) : Prop := Ok PR [.t 4] (Zhs) Zfl Zk4 Zl8 r y
theorem Zrg (r : Bool) (v0 : (List Zf)) (v1 : (List Zf)) (v12 : Int) (v13 : Int) (y : Zav ⊕ Bool) (h : Zcz v0 v1 v12 v13 = some y) (hk : Zk5 r y) : (Zk4 (.L0 v0 v1 v12 v13)).HH PR [.t 4] Zhs Zfl r (Zl8 (.L0 v0 v1 v12 v13)) :=
 Za h (fun h1 h => have q := (q0.t 1 h1).b (Zq Zc 19 (fun _ => rfl) v0);
 Zb h fun x2 h3 h => have q := (((q.o [.cs (Zc x2)]).b (Z2 h3)).b (Zv Zc h3)).b (Zq Zc 19 (fun _ => rfl) v1);
 Zb h fun x4 h5 h => have q := ((q.o [.cs (Zc x4)]).b (Z2 h5)).b (Zv Zc h5);
 Za h (fun h6 h => lR h hk (q.t 1 h6)) (fun h6 h => lG h hk ((q.f 1 h6).o [.pick [13, 0, 1, 12] [], .pick [0, 1, 12, 13] []]))) (fun h1 h => lR h hk (q0.f 1 h1))
theorem Zsf (r : Bool) (a0 : (List Zf)) (a1 : (List Zf)) (y : Zav ⊕ Bool) (h : Zh1 a0 a1 = some y) (hk : Zk5 r y) : (Cfg.code Zh5 []).HH PR [.t 4] Zhs Zfl r ⟨26, idx 0 [(wL Zc a0), (wL Zc a1)], []⟩ := have q := ((q0.o [.num (a0.length : Int), .num (a1.length : Int)]).b (Zr Zc a0)).b (Zr Zc a1);
 Za h (fun h3 h => lR h hk (q.t 1 h3)) (fun h3 h => lG h hk (((q.f 1 h3).o [.num (a0.length : Int), .pick [13, 12, 1, 0] [], .pick [0, 1, 12, 13] []]).b (Zr Zc a0)))
theorem Ztz (a0 : (List Zf)) (a1 : (List Zf)) {r : Bool} (h : Zf4 a0 a1 = some r) : Fn PR 28 [(wL Zc a0), (wL Zc a1)] (Zfl r) :=
 Zb h fun y h0 h1 => FnG.of_cfg hT Go.Proofs.Tryz.func28 (by kernel_rfl : _ = some Zh5) (by kernel_rfl) 26 (by kernel_rfl) (Nat.le_of_ble_eq_true rfl) [.t 4] (by kernel_rfl) (by kernel_rfl) (Zsf r a0 a1 y h0 (Z1 (fun s y h hk => match s with
 | .L0 v0 v1 v12 v13 => Zrg r v0 v1 v12 v13 y h hk) h1))
noncomputable def Zaf7 : Code := (Go.Proofs.Tryz.f30.body).getD .skip
noncomputable def Zy1 (r : Bool) : PV := (wB r)
noncomputable def Zad1 (r : Bool) : List (Nat × Blk) := []
noncomputable def Zat0 : Zlz → Cfg := fun s => nomatch s
noncomputable def Zax4 : Zlz → PW.St := fun s => nomatch s
abbrev Zat1 (r : Bool) (y : Zlz ⊕ Bool) : Prop := Ok PR [.t 4] (Zad1) Zy1 Zat0 Zax4 r y
theorem Zarm (r : Bool) (a0 : Zcy) (a1 : Zcy) (y : Zlz ⊕ Bool) (h : Z24 a0 a1 = some y) (hk : Zat1 r y) : (Cfg.code Zaf7 []).HH PR [.t 4] Zad1 Zy1 r ⟨59, idx 0 [(.agg (bx (Zag a0))), (.agg (bx (Zag a1)))], []⟩ := have q := q0.o [.lab 1002, .lab 1003];
 Za h (fun h1 h => have q := q.t 6 h1;
 Za h (fun h2 h => have q := q.t 6 h2;
 Za h (fun h3 h => have q := q.t 6 h3;
 Za h (fun h4 h => have q := q.t 6 h4;
 Za h (fun h5 h => have q := q.t 6 h5;
 Za h (fun h6 h => have q := q.t 6 h6;
 Za h (fun h7 h => Zb h fun x8 h9 h => lR h hk ((((q.t 5 h7).k x8).t 1 (Zgd a0.Graveyard a1.Graveyard h9)).b h7)) (fun h7 h => lR h hk (q.f 6 h7))) (fun h6 h => lR h hk (((q.ff 12).a 6 h6).a 6 (Eq.refl false)))) (fun h5 h => lR h hk (((q.ff 18).a 6 h5).a 12 (Eq.refl false)))) (fun h4 h => lR h hk (((q.ff 24).a 6 h4).a 18 (Eq.refl false)))) (fun h3 h => lR h hk (((q.ff 30).a 6 h3).a 24 (Eq.refl false)))) (fun h2 h => lR h hk (((q.ff 36).a 6 h2).a 30 (Eq.refl false)))) (fun h1 h => lR h hk (((q.ff 42).a 6 h1).a 36 (Eq.refl false)))
theorem Zax5 (a0 : Zcy) (a1 : Zcy) {r : Bool} (h : Zzv a0 a1 = some r) : Fn PR 30 [(.agg (bx (Zag a0))), (.agg (bx (Zag a1)))] (Zy1 r) :=
 Zb h fun y h0 h1 => FnG.of_cfg hT Go.Proofs.Tryz.func30 (by kernel_rfl : _ = some Zaf7) (by kernel_rfl) 59 (by kernel_rfl) (Nat.le_of_ble_eq_true rfl) [.t 4] (by kernel_rfl) (by kernel_rfl) (Zarm r a0 a1 y h0 (Z1 (fun s _ _ _ => nomatch s) h1))
noncomputable def Zh6 : Code := (Go.Proofs.Tryz.f54.body).getD .skip
noncomputable def Zfm (r : Bool) : PV := (wB r)
noncomputable def Zht (r : Bool) : List (Nat × Blk) := []
noncomputable def Zk6 : Zaw → Cfg
 | .L0 _ _ _ _ => (nav [1, 1, 0, 1, 4] Zh6 []).getD (.done .normal)
noncomputable def Zl9 : Zaw → PW.St
 | .L0 v0 v1 v12 v13 => ⟨26, [(0, (wL Zae v0)), (1, (wL Zae v1)), (12, (wI v12)), (13, (wI v13))], []⟩
abbrev Zk7 (r : Bool) (y : Zaw ⊕ Bool) : Prop := Ok PR [.t 4] (Zht) Zfm Zk6 Zl9 r y
theorem Zrh (r : Bool) (v0 : (List Zaq)) (v1 : (List Zaq)) (v12 : Int) (v13 : Int) (y : Zaw ⊕ Bool) (h : Zc0 v0 v1 v12 v13 = some y) (hk : Zk7 r y) : (Zk6 (.L0 v0 v1 v12 v13)).HH PR [.t 4] Zht Zfm r (Zl9 (.L0 v0 v1 v12 v13)) :=
 Za h (fun h1 h => have q := (q0.t 1 h1).b (Zq Zae 2 (fun _ => rfl) v0);
 Zb h fun x2 h3 h => have q := (((q.o [.cs (Zae x2)]).b (Z2 h3)).b (Zv Zae h3)).b (Zq Zae 2 (fun _ => rfl) v1);
 Zb h fun x4 h5 h => have q := ((q.o [.cs (Zae x4)]).b (Z2 h5)).b (Zv Zae h5);
 Za h (fun h6 h => lR h hk (q.t 1 h6)) (fun h6 h => lG h hk ((q.f 1 h6).o [.pick [13, 0, 1, 12] [], .pick [0, 1, 12, 13] []]))) (fun h1 h => lR h hk (q0.f 1 h1))
theorem Zsg (r : Bool) (a0 : (List Zaq)) (a1 : (List Zaq)) (y : Zaw ⊕ Bool) (h : Zh2 a0 a1 = some y) (hk : Zk7 r y) : (Cfg.code Zh6 []).HH PR [.t 4] Zht Zfm r ⟨26, idx 0 [(wL Zae a0), (wL Zae a1)], []⟩ := have q := ((q0.o [.num (a0.length : Int), .num (a1.length : Int)]).b (Zr Zae a0)).b (Zr Zae a1);
 Za h (fun h3 h => lR h hk (q.t 1 h3)) (fun h3 h => lG h hk (((q.f 1 h3).o [.num (a0.length : Int), .pick [13, 12, 1, 0] [], .pick [0, 1, 12, 13] []]).b (Zr Zae a0)))
theorem Zt0 (a0 : (List Zaq)) (a1 : (List Zaq)) {r : Bool} (h : Zf5 a0 a1 = some r) : Fn PR 54 [(wL Zae a0), (wL Zae a1)] (Zfm r) :=
 Zb h fun y h0 h1 => FnG.of_cfg hT Go.Proofs.Tryz.func54 (by kernel_rfl : _ = some Zh6) (by kernel_rfl) 26 (by kernel_rfl) (Nat.le_of_ble_eq_true rfl) [.t 4] (by kernel_rfl) (by kernel_rfl) (Zsg r a0 a1 y h0 (Z1 (fun s y h hk => match s with
 | .L0 v0 v1 v12 v13 => Zrh r v0 v1 v12 v13 y h hk) h1))
noncomputable def Zkp : Code := (Go.Proofs.Tryz.f56.body).getD .skip
noncomputable def Zgr (r : Bool) : PV := (wB r)
noncomputable def Zjz (r : Bool) : List (Nat × Blk) := []
noncomputable def Zn2 : Zbf → Cfg
 | .L0 _ _ _ _ => (nav [1, 1, 0, 1, 4] Zkp []).getD (.done .normal)
noncomputable def Zoi : Zbf → PW.St
 | .L0 v0 v1 v12 v13 => ⟨26, [(0, (wL Zp v0)), (1, (wL Zp v1)), (12, (wI v12)), (13, (wI v13))], []⟩
abbrev Zn3 (r : Bool) (y : Zbf ⊕ Bool) : Prop := Ok PR [.t 4] (Zjz) Zgr Zn2 Zoi r y
theorem Zv8 (r : Bool) (v0 : (List Zh)) (v1 : (List Zh)) (v12 : Int) (v13 : Int) (y : Zbf ⊕ Bool) (h : Zea v0 v1 v12 v13 = some y) (hk : Zn3 r y) : (Zn2 (.L0 v0 v1 v12 v13)).HH PR [.t 4] Zjz Zgr r (Zoi (.L0 v0 v1 v12 v13)) :=
 Za h (fun h1 h => have q := (q0.t 1 h1).b (Zq Zp 20 (fun _ => rfl) v0);
 Zb h fun x2 h3 h => have q := (((q.o [.cs (Zp x2)]).b (Z2 h3)).b (Zv Zp h3)).b (Zq Zp 20 (fun _ => rfl) v1);
 Zb h fun x4 h5 h => have q := ((q.o [.cs (Zp x4)]).b (Z2 h5)).b (Zv Zp h5);
 Za h (fun h6 h => lR h hk (q.t 1 h6)) (fun h6 h => lG h hk ((q.f 1 h6).o [.pick [13, 0, 1, 12] [], .pick [0, 1, 12, 13] []]))) (fun h1 h => lR h hk (q0.f 1 h1))
theorem Zxf (r : Bool) (a0 : (List Zh)) (a1 : (List Zh)) (y : Zbf ⊕ Bool) (h : Zkn a0 a1 = some y) (hk : Zn3 r y) : (Cfg.code Zkp []).HH PR [.t 4] Zjz Zgr r ⟨26, idx 0 [(wL Zp a0), (wL Zp a1)], []⟩ := have q := ((q0.o [.num (a0.length : Int), .num (a1.length : Int)]).b (Zr Zp a0)).b (Zr Zp a1);
 Za h (fun h3 h => lR h hk (q.t 1 h3)) (fun h3 h => lG h hk (((q.f 1 h3).o [.num (a0.length : Int), .pick [13, 12, 1, 0] [], .pick [0, 1, 12, 13] []]).b (Zr Zp a0)))
theorem Zj0 (a0 : (List Zh)) (a1 : (List Zh)) {r : Bool} (h : Ze6 a0 a1 = some r) : Fn PR 56 [(wL Zp a0), (wL Zp a1)] (Zgr r) :=
 Zb h fun y h0 h1 => FnG.of_cfg hT Go.Proofs.Tryz.func56 (by kernel_rfl : _ = some Zkp) (by kernel_rfl) 26 (by kernel_rfl) (Nat.le_of_ble_eq_true rfl) [.t 4] (by kernel_rfl) (by kernel_rfl) (Zxf r a0 a1 y h0 (Z1 (fun s y h hk => match s with
 | .L0 v0 v1 v12 v13 => Zv8 r v0 v1 v12 v13 y h hk) h1))
noncomputable def Zjs : Code := (Go.Proofs.Tryz.f84.body).getD .skip
noncomputable def Zf7 (r : Bool) : PV := (wB r)
noncomputable def Zjb (r : Bool) : List (Nat × Blk) := []
noncomputable def Zm2 : Za9 → Cfg
 | .L0 _ _ _ _ => (nav [1, 1, 0, 1, 4] Zjs []).getD (.done .normal)
noncomputable def Znw : Za9 → PW.St
 | .L0 v0 v1 v12 v13 => ⟨26, [(0, (wL Z3 v0)), (1, (wL Z3 v1)), (12, (wI v12)), (13, (wI v13))], []⟩
abbrev Zm3 (r : Bool) (y : Za9 ⊕ Bool) : Prop := Ok PR [.t 4] (Zjb) Zf7 Zm2 Znw r y
theorem Zuv (r : Bool) (v0 : (List Zaj)) (v1 : (List Zaj)) (v12 : Int) (v13 : Int) (y : Za9 ⊕ Bool) (h : Zdl v0 v1 v12 v13 = some y) (hk : Zm3 r y) : (Zm2 (.L0 v0 v1 v12 v13)).HH PR [.t 4] Zjb Zf7 r (Znw (.L0 v0 v1 v12 v13)) :=
 Za h (fun h1 h => have q := (q0.t 1 h1).b (Zq Z3 18 (fun _ => rfl) v0);
 Zb h fun x2 h3 h => have q := (((q.o [.cs (Z3 x2)]).b (Z2 h3)).b (Zv Z3 h3)).b (Zq Z3 18 (fun _ => rfl) v1);
 Zb h fun x4 h5 h => have q := ((q.o [.cs (Z3 x4)]).b (Z2 h5)).b (Zv Z3 h5);
 Za h (fun h6 h => lR h hk (q.t 1 h6)) (fun h6 h => lG h hk ((q.f 1 h6).o [.pick [13, 0, 1, 12] [], .pick [0, 1, 12, 13] []]))) (fun h1 h => lR h hk (q0.f 1 h1))
theorem Zvk (r : Bool) (a0 : (List Zaj)) (a1 : (List Zaj)) (y : Za9 ⊕ Bool) (h : Zjq a0 a1 = some y) (hk : Zm3 r y) : (Cfg.code Zjs []).HH PR [.t 4] Zjb Zf7 r ⟨26, idx 0 [(wL Z3 a0), (wL Z3 a1)], []⟩ := have q := ((q0.o [.num (a0.length : Int), .num (a1.length : Int)]).b (Zr Z3 a0)).b (Zr Z3 a1);
 Za h (fun h3 h => lR h hk (q.t 1 h3)) (fun h3 h => lG h hk (((q.f 1 h3).o [.num (a0.length : Int), .pick [13, 12, 1, 0] [], .pick [0, 1, 12, 13] []]).b (Zr Z3 a0)))
theorem Zxg (a0 : (List Zaj)) (a1 : (List Zaj)) {r : Bool} (h : Zhg a0 a1 = some r) : Fn PR 84 [(wL Z3 a0), (wL Z3 a1)] (Zf7 r) :=
 Zb h fun y h0 h1 => FnG.of_cfg hT Go.Proofs.Tryz.func84 (by kernel_rfl : _ = some Zjs) (by kernel_rfl) 26 (by kernel_rfl) (Nat.le_of_ble_eq_true rfl) [.t 4] (by kernel_rfl) (by kernel_rfl) (Zvk r a0 a1 y h0 (Z1 (fun s y h hk => match s with
 | .L0 v0 v1 v12 v13 => Zuv r v0 v1 v12 v13 y h hk) h1))
noncomputable def Z90 : Code := (Go.Proofs.Tryz.f86.body).getD .skip
noncomputable def Zvl (r : Bool) : PV := (wB r)
noncomputable def Z70 (r : Bool) : List (Nat × Blk) := []
noncomputable def Zaoc : Zjx → Cfg := fun s => nomatch s
noncomputable def Zarn : Zjx → PW.St := fun s => nomatch s
abbrev Zaod (r : Bool) (y : Zjx ⊕ Bool) : Prop := Ok PR [.t 4] (Z70) Zvl Zaoc Zarn r y
theorem Zal6 (r : Bool) (a0 : Zk) (a1 : Zk) (y : Zjx ⊕ Bool) (h : Zyr a0 a1 = some y) (hk : Zaod r y) : (Cfg.code Z90 []).HH PR [.t 4] Z70 Zvl r ⟨66, idx 0 [(.agg (bx (Zj a0))), (.agg (bx (Zj a1)))], []⟩ := have q := q0.o [.lab 1002, .lab 1003];
 Za h (fun h1 h => have q := q.t 6 h1;
 Za h (fun h2 h => have q := q.t 6 h2;
 Za h (fun h3 h => have q := q.t 6 h3;
 Za h (fun h4 h => have q := q.t 6 h4;
 Za h (fun h5 h => have q := q.t 6 h5;
 Za h (fun h6 h => have q := q.t 6 h6;
 Za h (fun h7 h => have q := q.t 6 h7;
 Za h (fun h8 h => Zb h fun x9 h10 h => lR h hk ((((q.t 5 h8).k x9).t 1 (Zj0 a0.Mods a1.Mods h10)).b h8)) (fun h8 h => lR h hk (q.f 6 h8))) (fun h7 h => lR h hk (((q.ff 12).a 6 h7).a 6 (Eq.refl false)))) (fun h6 h => lR h hk (((q.ff 18).a 6 h6).a 12 (Eq.refl false)))) (fun h5 h => lR h hk (((q.ff 24).a 6 h5).a 18 (Eq.refl false)))) (fun h4 h => lR h hk (((q.ff 30).a 6 h4).a 24 (Eq.refl false)))) (fun h3 h => lR h hk (((q.ff 36).a 6 h3).a 30 (Eq.refl false)))) (fun h2 h => lR h hk (((q.ff 42).a 6 h2).a 36 (Eq.refl false)))) (fun h1 h => lR h hk (((q.ff 48).a 6 h1).a 42 (Eq.refl false)))
theorem Zaro (a0 : Zk) (a1 : Zk) {r : Bool} (h : Zvu a0 a1 = some r) : Fn PR 86 [(.agg (bx (Zj a0))), (.agg (bx (Zj a1)))] (Zvl r) :=
 Zb h fun y h0 h1 => FnG.of_cfg hT Go.Proofs.Tryz.func86 (by kernel_rfl : _ = some Z90) (by kernel_rfl) 66 (by kernel_rfl) (Nat.le_of_ble_eq_true rfl) [.t 4] (by kernel_rfl) (by kernel_rfl) (Zal6 r a0 a1 y h0 (Z1 (fun s _ _ _ => nomatch s) h1))
noncomputable def Zb6 : Code := (Go.Proofs.Tryz.f85.body).getD .skip
noncomputable def Za6 (r : Bool) : PV := (wB r)
noncomputable def Zb4 (r : Bool) : List (Nat × Blk) := []
noncomputable def Zdh : Zt → Cfg
 | .L0 _ _ _ _ => (nav [1, 1, 0, 1, 4] Zb6 []).getD (.done .normal)
noncomputable def Zdj : Zt → PW.St
 | .L0 v1 v15 v16 v17 => ⟨32, [(1, (wL Zj v1)), (2, (.fn 86 [])), (15, (wL Zj v15)), (16, (wI v16)), (17, (wI v17))], []⟩
abbrev Zdi (r : Bool) (y : Zt ⊕ Bool) : Prop := Ok PR [.t 6] (Zb4) Za6 Zdh Zdj r y
theorem Zgo (r : Bool) (v1 : (List Zk)) (v15 : (List Zk)) (v16 : Int) (v17 : Int) (y : Zt ⊕ Bool) (h : Zad v1 v15 v16 v17 = some y) (hk : Zdi r y) : (Zdh (.L0 v1 v15 v16 v17)).HH PR [.t 6] Zb4 Za6 r (Zdj (.L0 v1 v15 v16 v17)) :=
 Za h (fun h1 h => have q := (q0.t 1 h1).b (Zq Zj 64 (fun _ => rfl) v15);
 Zb h fun x2 h3 h => have q := (((q.o [.cs (Zj x2), .lab 1008]).b (Z2 h3)).b (Zv Zj h3)).b (Zq Zj 64 (fun _ => rfl) v1);
 Zb h fun x4 h5 h => have q := ((q.o [.cs (Zj x4), .lab 1009]).b (Z2 h5)).b (Zv Zj h5);
 Zb h fun x6 h7 h => have q := (q.k x6).b (Zaro x2 x4 h7);
 Za h (fun h8 h => lR h hk (q.t 1 h8)) (fun h8 h => lG h hk ((q.f 1 h8).o [.pick [17, 1, 2, 15, 16] [], .pick [1, 2, 15, 16, 17] []]))) (fun h1 h => lR h hk (q0.f 1 h1))
theorem Zgw (r : Bool) (a0 : (List Zk)) (a1 : (List Zk)) (y : Zt ⊕ Bool) (h : Zb5 a0 a1 = some y) (hk : Zdi r y) : (Cfg.code Zb6 []).HH PR [.t 6] Zb4 Za6 r ⟨32, idx 0 [(wL Zj a0), (wL Zj a1), (.fn 86 [])], []⟩ := have q := ((q0.o [.num (a0.length : Int), .num (a1.length : Int)]).b (Zr Zj a0)).b (Zr Zj a1);
 Za h (fun h3 h => lR h hk (q.t 1 h3)) (fun h3 h => lG h hk (((q.f 1 h3).o [.num (a0.length : Int), .pick [17, 16, 15, 2, 1] [], .pick [1, 2, 15, 16, 17] []]).b (Zr Zj a0)))
theorem Zgz (a0 : (List Zk)) (a1 : (List Zk)) {r : Bool} (h : Zbc a0 a1 = some r) : Fn PR 85 [(wL Zj a0), (wL Zj a1), (.fn 86 [])] (Za6 r) :=
 Zb h fun y h0 h1 => FnG.of_cfg hT Go.Proofs.Tryz.func85 (by kernel_rfl : _ = some Zb6) (by kernel_rfl) 32 (by kernel_rfl) (Nat.le_of_ble_eq_true rfl) [.t 6] (by kernel_rfl) (by kernel_rfl) (Zgw r a0 a1 y h0 (Z1 (fun s y h hk => match s with
 | .L0 v1 v15 v16 v17 => Zgo r v1 v15 v16 v17 y h hk) h1))
noncomputable def Z71 : Code := (Go.Proofs.Tryz.f55.body).getD .skip
noncomputable def Zt1 (r : Bool) : PV := (wB r)
noncomputable def Z4z (r : Bool) : List (Nat × Blk) := []
noncomputable def Zal7 : Zi9 → Cfg := fun s => nomatch s
noncomputable def Zaoe : Zi9 → PW.St := fun s => nomatch s
abbrev Zal8 (r : Bool) (y : Zi9 ⊕ Bool) : Prop := Ok PR [.t 4] (Z4z) Zt1 Zal7 Zaoe r y
theorem Zajh (r : Bool) (a0 : Zs) (a1 : Zs) (y : Zi9 ⊕ Bool) (h : Zww a0 a1 = some y) (hk : Zal8 r y) : (Cfg.code Z71 []).HH PR [.t 4] Z4z Zt1 r ⟨73, idx 0 [(.agg (bx (Zac a0))), (.agg (bx (Zac a1)))], []⟩ := have q := q0.o [.lab 1002, .lab 1003];
 Za h (fun h1 h => have q := q.t 6 h1;
 Za h (fun h2 h => have q := q.t 5 h2;
 Zb h fun x3 h4 h => have q := ((q.k x3).t 1 (Zj0 a0.Mods a1.Mods h4)).b h2;
 Za h (fun h5 h => have q := q.t 6 h5;
 Za h (fun h6 h => have q := q.t 6 h6;
 Za h (fun h7 h => have q := q.t 6 h7;
 Za h (fun h8 h => have q := q.t 6 h8;
 Za h (fun h9 h => have q := q.t 5 h9;
 Zb h fun x10 h11 h => have q := ((q.k x10).t 1 (Zxg a0.Specs a1.Specs h11)).b h9;
 Za h (fun h12 h => have q := q.t 5 h12;
 Zb h fun x13 h14 h => have q := ((q.k x13).t 1 (Zgz a0.Effects a1.Effects h14)).b h12;
 Za h (fun h15 h => lR h hk (q.t 6 h15)) (fun h15 h => lR h hk (q.f 6 h15))) (fun h12 h => lR h hk (((q.ff 12).a 6 h12).a 6 (Eq.refl false)))) (fun h9 h => lR h hk (((q.ff 18).a 6 h9).a 12 (Eq.refl false)))) (fun h8 h => lR h hk (((q.ff 24).a 6 h8).a 18 (Eq.refl false)))) (fun h7 h => lR h hk (((q.ff 30).a 6 h7).a 24 (Eq.refl false)))) (fun h6 h => lR h hk (((q.ff 36).a 6 h6).a 30 (Eq.refl false)))) (fun h5 h => lR h hk (((q.ff 42).a 6 h5).a 36 (Eq.refl false)))) (fun h2 h => lR h hk (((q.ff 48).a 6 h2).a 42 (Eq.refl false)))) (fun h1 h => lR h hk (((q.ff 54).a 6 h1).a 48 (Eq.refl false)))
theorem Z40 (a0 : Zs) (a1 : Zs) {r : Bool} (h : Zpo a0 a1 = some r) : Fn PR 55 [(.agg (bx (Zac a0))), (.agg (bx (Zac a1)))] (Zt1 r) :=
 Zb h fun y h0 h1 => FnG.of_cfg hT Go.Proofs.Tryz.func55 (by kernel_rfl : _ = some Z71) (by kernel_rfl) 73 (by kernel_rfl) (Nat.le_of_ble_eq_true rfl) [.t 4] (by kernel_rfl) (by kernel_rfl) (Zajh r a0 a1 y h0 (Z1 (fun s _ _ _ => nomatch s) h1))
noncomputable def Zaf8 : Code := (Go.Proofs.Tryz.f32.body).getD .skip
noncomputable def Zy2 (r : Bool) : PV := (wB r)
noncomputable def Zad2 (r : Bool) : List (Nat × Blk) := []
noncomputable def Zat2 : Zl0 → Cfg := fun s => nomatch s
noncomputable def Zax6 : Zl0 → PW.St := fun s => nomatch s
abbrev Zat3 (r : Bool) (y : Zl0 ⊕ Bool) : Prop := Ok PR [.t 4] (Zad2) Zy2 Zat2 Zax6 r y
theorem Zarp (r : Bool) (a0 : Zao) (a1 : Zao) (y : Zl0 ⊕ Bool) (h : Z25 a0 a1 = some y) (hk : Zat3 r y) : (Cfg.code Zaf8 []).HH PR [.t 4] Zad2 Zy2 r ⟨66, idx 0 [(.agg (bx (Zl a0))), (.agg (bx (Zl a1)))], []⟩ := have q := q0.o [.lab 1002, .lab 1003];
 Za h (fun h1 h => have q := q.t 6 h1;
 Za h (fun h2 h => have q := q.t 6 h2;
 Za h (fun h3 h => have q := q.t 6 h3;
 Za h (fun h4 h => have q := q.t 6 h4;
 Za h (fun h5 h => have q := q.t 6 h5;
 Za h (fun h6 h => have q := q.t 6 h6;
 Za h (fun h7 h => have q := q.t 5 h7;
 Zb h fun x8 h9 h => have q := ((q.k x8).t 1 (Zt0 a0.Targets a1.Targets h9)).b h7;
 Za h (fun h10 h => Zb h fun x11 h12 h => lR h hk ((((q.t 5 h10).k x11).t 1 (Z40 a0.Ability a1.Ability h12)).b h10)) (fun h10 h => lR h hk (q.f 6 h10))) (fun h7 h => lR h hk (((q.ff 12).a 6 h7).a 6 (Eq.refl false)))) (fun h6 h => lR h hk (((q.ff 18).a 6 h6).a 12 (Eq.refl false)))) (fun h5 h => lR h hk (((q.ff 24).a 6 h5).a 18 (Eq.refl false)))) (fun h4 h => lR h hk (((q.ff 30).a 6 h4).a 24 (Eq.refl false)))) (fun h3 h => lR h hk (((q.ff 36).a 6 h3).a 30 (Eq.refl false)))) (fun h2 h => lR h hk (((q.ff 42).a 6 h2).a 36 (Eq.refl false)))) (fun h1 h => lR h hk (((q.ff 48).a 6 h1).a 42 (Eq.refl false)))
theorem Zax7 (a0 : Zao) (a1 : Zao) {r : Bool} (h : Zzw a0 a1 = some r) : Fn PR 32 [(.agg (bx (Zl a0))), (.agg (bx (Zl a1)))] (Zy2 r) :=
 Zb h fun y h0 h1 => FnG.of_cfg hT Go.Proofs.Tryz.func32 (by kernel_rfl : _ = some Zaf8) (by kernel_rfl) 66 (by kernel_rfl) (Nat.le_of_ble_eq_true rfl) [.t 4] (by kernel_rfl) (by kernel_rfl) (Zarp r a0 a1 y h0 (Z1 (fun s _ _ _ => nomatch s) h1))
noncomputable def Z72 : Code := (Go.Proofs.Tryz.f34.body).getD .skip
noncomputable def Zt2 (r : Bool) : PV := (wB r)
noncomputable def Z41 (r : Bool) : List (Nat × Blk) := []
noncomputable def Zal9 : Zja → Cfg := fun s => nomatch s
noncomputable def Zaof : Zja → PW.St := fun s => nomatch s
abbrev Zama (r : Bool) (y : Zja ⊕ Bool) : Prop := Ok PR [.t 4] (Z41) Zt2 Zal9 Zaof r y
theorem Zaji (r : Bool) (a0 : Z7) (a1 : Z7) (y : Zja ⊕ Bool) (h : Zwx a0 a1 = some y) (hk : Zama r y) : (Cfg.code Z72 []).HH PR [.t 4] Z41 Zt2 r ⟨31, idx 0 [(.agg (bx (Zm a0))), (.agg (bx (Zm a1)))], []⟩ := have q := q0.o [.lab 1002, .lab 1003];
 Za h (fun h1 h => have q := q.t 6 h1;
 Za h (fun h2 h => have q := q.t 6 h2;
 Za h (fun h3 h => Zb h fun x4 h5 h => lR h hk ((((q.t 5 h3).k x4).t 1 (Z40 a0.Ability a1.Ability h5)).b h3)) (fun h3 h => lR h hk (q.f 6 h3))) (fun h2 h => lR h hk (((q.ff 12).a 6 h2).a 6 (Eq.refl false)))) (fun h1 h => lR h hk (((q.ff 18).a 6 h1).a 12 (Eq.refl false)))
theorem Zaog (a0 : Z7) (a1 : Z7) {r : Bool} (h : Ztm a0 a1 = some r) : Fn PR 34 [(.agg (bx (Zm a0))), (.agg (bx (Zm a1)))] (Zt2 r) :=
 Zb h fun y h0 h1 => FnG.of_cfg hT Go.Proofs.Tryz.func34 (by kernel_rfl : _ = some Z72) (by kernel_rfl) 31 (by kernel_rfl) (Nat.le_of_ble_eq_true rfl) [.t 4] (by kernel_rfl) (by kernel_rfl) (Zaji r a0 a1 y h0 (Z1 (fun s _ _ _ => nomatch s) h1))
noncomputable def Zaf9 : Code := (Go.Proofs.Tryz.f36.body).getD .skip
noncomputable def Zy3 (r : Bool) : PV := (wB r)
noncomputable def Zad3 (r : Bool) : List (Nat × Blk) := []
noncomputable def Zat4 : Zl1 → Cfg := fun s => nomatch s
noncomputable def Zax8 : Zl1 → PW.St := fun s => nomatch s
abbrev Zat5 (r : Bool) (y : Zl1 ⊕ Bool) : Prop := Ok PR [.t 4] (Zad3) Zy3 Zat4 Zax8 r y
theorem Zarq (r : Bool) (a0 : Zar) (a1 : Zar) (y : Zl1 ⊕ Bool) (h : Z26 a0 a1 = some y) (hk : Zat5 r y) : (Cfg.code Zaf9 []).HH PR [.t 4] Zad3 Zy3 r ⟨45, idx 0 [(.agg (bx (Zn a0))), (.agg (bx (Zn a1)))], []⟩ := have q := q0.o [.lab 1002, .lab 1003];
 Za h (fun h1 h => have q := q.t 6 h1;
 Za h (fun h2 h => have q := q.t 6 h2;
 Za h (fun h3 h => have q := q.t 6 h3;
 Za h (fun h4 h => have q := q.t 5 h4;
 Zb h fun x5 h6 h => have q := ((q.k x5).t 1 (Zgd a0.Objects a1.Objects h6)).b h4;
 Za h (fun h7 h => Zb h fun x8 h9 h => lR h hk ((((q.t 5 h7).k x8).t 1 (Zj0 a0.Mods a1.Mods h9)).b h7)) (fun h7 h => lR h hk (q.f 6 h7))) (fun h4 h => lR h hk (((q.ff 12).a 6 h4).a 6 (Eq.refl false)))) (fun h3 h => lR h hk (((q.ff 18).a 6 h3).a 12 (Eq.refl false)))) (fun h2 h => lR h hk (((q.ff 24).a 6 h2).a 18 (Eq.refl false)))) (fun h1 h => lR h hk (((q.ff 30).a 6 h1).a 24 (Eq.refl false)))
theorem Zax9 (a0 : Zar) (a1 : Zar) {r : Bool} (h : Zzx a0 a1 = some r) : Fn PR 36 [(.agg (bx (Zn a0))), (.agg (bx (Zn a1)))] (Zy3 r) :=
 Zb h fun y h0 h1 => FnG.of_cfg hT Go.Proofs.Tryz.func36 (by kernel_rfl : _ = some Zaf9) (by kernel_rfl) 45 (by kernel_rfl) (Nat.le_of_ble_eq_true rfl) [.t 4] (by kernel_rfl) (by kernel_rfl) (Zarq r a0 a1 y h0 (Z1 (fun s _ _ _ => nomatch s) h1))
noncomputable def Zh7 : Code := (Go.Proofs.Tryz.f57.body).getD .skip
noncomputable def Zfn (r : Bool) : PV := (wB r)
noncomputable def Zhu (r : Bool) : List (Nat × Blk) := []
noncomputable def Zk8 : Zax → Cfg
 | .L0 _ _ _ _ => (nav [1, 1, 0, 1, 4] Zh7 []).getD (.done .normal)
noncomputable def Zma : Zax → PW.St
 | .L0 v0 v1 v12 v13 => ⟨26, [(0, (wL Zu v0)), (1, (wL Zu v1)), (12, (wI v12)), (13, (wI v13))], []⟩
abbrev Zk9 (r : Bool) (y : Zax ⊕ Bool) : Prop := Ok PR [.t 4] (Zhu) Zfn Zk8 Zma r y
theorem Zri (r : Bool) (v0 : (List Z5)) (v1 : (List Z5)) (v12 : Int) (v13 : Int) (y : Zax ⊕ Bool) (h : Zc1 v0 v1 v12 v13 = some y) (hk : Zk9 r y) : (Zk8 (.L0 v0 v1 v12 v13)).HH PR [.t 4] Zhu Zfn r (Zma (.L0 v0 v1 v12 v13)) :=
 Za h (fun h1 h => have q := (q0.t 1 h1).b (Zq Zu 3 (fun _ => rfl) v0);
 Zb h fun x2 h3 h => have q := (((q.o [.cs (Zu x2)]).b (Z2 h3)).b (Zv Zu h3)).b (Zq Zu 3 (fun _ => rfl) v1);
 Zb h fun x4 h5 h => have q := ((q.o [.cs (Zu x4)]).b (Z2 h5)).b (Zv Zu h5);
 Za h (fun h6 h => lR h hk (q.t 1 h6)) (fun h6 h => lG h hk ((q.f 1 h6).o [.pick [13, 0, 1, 12] [], .pick [0, 1, 12, 13] []]))) (fun h1 h => lR h hk (q0.f 1 h1))
theorem Zsh (r : Bool) (a0 : (List Z5)) (a1 : (List Z5)) (y : Zax ⊕ Bool) (h : Zh3 a0 a1 = some y) (hk : Zk9 r y) : (Cfg.code Zh7 []).HH PR [.t 4] Zhu Zfn r ⟨26, idx 0 [(wL Zu a0), (wL Zu a1)], []⟩ := have q := ((q0.o [.num (a0.length : Int), .num (a1.length : Int)]).b (Zr Zu a0)).b (Zr Zu a1);
 Za h (fun h3 h => lR h hk (q.t 1 h3)) (fun h3 h => lG h hk (((q.f 1 h3).o [.num (a0.length : Int), .pick [13, 12, 1, 0] [], .pick [0, 1, 12, 13] []]).b (Zr Zu a0)))
theorem Zt3 (a0 : (List Z5)) (a1 : (List Z5)) {r : Bool} (h : Zf6 a0 a1 = some r) : Fn PR 57 [(wL Zu a0), (wL Zu a1)] (Zfn r) :=
 Zb h fun y h0 h1 => FnG.of_cfg hT Go.Proofs.Tryz.func57 (by kernel_rfl : _ = some Zh7) (by kernel_rfl) 26 (by kernel_rfl) (Nat.le_of_ble_eq_true rfl) [.t 4] (by kernel_rfl) (by kernel_rfl) (Zsh r a0 a1 y h0 (Z1 (fun s y h hk => match s with
 | .L0 v0 v1 v12 v13 => Zri r v0 v1 v12 v13 y h hk) h1))
noncomputable def Z91 : Code := (Go.Proofs.Tryz.f37.body).getD .skip
noncomputable def Zvm (r : Bool) : PV := (wB r)
noncomputable def Z73 (r : Bool) : List (Nat × Blk) := []
noncomputable def Zaoh : Zjy → Cfg := fun s => nomatch s
noncomputable def Zarr : Zjy → PW.St := fun s => nomatch s
abbrev Zaoi (r : Bool) (y : Zjy ⊕ Bool) : Prop := Ok PR [.t 4] (Z73) Zvm Zaoh Zarr r y
theorem Zamb (r : Bool) (a0 : Zdf) (a1 : Zdf) (y : Zjy ⊕ Bool) (h : Zys a0 a1 = some y) (hk : Zaoi r y) : (Cfg.code Z91 []).HH PR [.t 4] Z73 Zvm r ⟨52, idx 0 [(.agg (bx (Zlj a0))), (.agg (bx (Zlj a1)))], []⟩ := have q := q0.o [.lab 1002, .lab 1003];
 Za h (fun h1 h => have q := q.t 6 h1;
 Za h (fun h2 h => have q := q.t 6 h2;
 Za h (fun h3 h => have q := q.t 6 h3;
 Za h (fun h4 h => have q := q.t 6 h4;
 Za h (fun h5 h => have q := q.t 6 h5;
 Za h (fun h6 h => Zb h fun x7 h8 h => lR h hk ((((q.t 5 h6).k x7).t 1 (Zt3 a0.Options a1.Options h8)).b h6)) (fun h6 h => lR h hk (q.f 6 h6))) (fun h5 h => lR h hk (((q.ff 12).a 6 h5).a 6 (Eq.refl false)))) (fun h4 h => lR h hk (((q.ff 18).a 6 h4).a 12 (Eq.refl false)))) (fun h3 h => lR h hk (((q.ff 24).a 6 h3).a 18 (Eq.refl false)))) (fun h2 h => lR h hk (((q.ff 30).a 6 h2).a 24 (Eq.refl false)))) (fun h1 h => lR h hk (((q.ff 36).a 6 h1).a 30 (Eq.refl false)))
theorem Zars (a0 : Zdf) (a1 : Zdf) {r : Bool} (h : Zvv a0 a1 = some r) : Fn PR 37 [(.agg (bx (Zlj a0))), (.agg (bx (Zlj a1)))] (Zvm r) :=
 Zb h fun y h0 h1 => FnG.of_cfg hT Go.Proofs.Tryz.func37 (by kernel_rfl : _ = some Z91) (by kernel_rfl) 52 (by kernel_rfl) (Nat.le_of_ble_eq_true rfl) [.t 4] (by kernel_rfl) (by kernel_rfl) (Zamb r a0 a1 y h0 (Z1 (fun s _ _ _ => nomatch s) h1))
noncomputable def Zcn : Code := (Go.Proofs.Tryz.f29.body).getD .skip
noncomputable def Zbl (r : Bool) : PV := (wB r)
noncomputable def Zch (r : Bool) : List (Nat × Blk) := []
noncomputable def Zem : Zy → Cfg
 | .L0 _ _ _ _ => (nav [1, 1, 0, 1, 4] Zcn []).getD (.done .normal)
noncomputable def Zes : Zy → PW.St
 | .L0 v1 v15 v16 v17 => ⟨32, [(1, (wL Zag v1)), (2, (.fn 30 [])), (15, (wL Zag v15)), (16, (wI v16)), (17, (wI v17))], []⟩
abbrev Zen (r : Bool) (y : Zy ⊕ Bool) : Prop := Ok PR [.t 6] (Zch) Zbl Zem Zes r y
theorem Zh8 (r : Bool) (v1 : (List Zcy)) (v15 : (List Zcy)) (v16 : Int) (v17 : Int) (y : Zy ⊕ Bool) (h : Zak v1 v15 v16 v17 = some y) (hk : Zen r y) : (Zem (.L0 v1 v15 v16 v17)).HH PR [.t 6] Zch Zbl r (Zes (.L0 v1 v15 v16 v17)) :=
 Za h (fun h1 h => have q := (q0.t 1 h1).b (Zq Zag 13 (fun _ => rfl) v15);
 Zb h fun x2 h3 h => have q := (((q.o [.cs (Zag x2), .lab 1008]).b (Z2 h3)).b (Zv Zag h3)).b (Zq Zag 13 (fun _ => rfl) v1);
 Zb h fun x4 h5 h => have q := ((q.o [.cs (Zag x4), .lab 1009]).b (Z2 h5)).b (Zv Zag h5);
 Zb h fun x6 h7 h => have q := (q.k x6).b (Zax5 x2 x4 h7);
 Za h (fun h8 h => lR h hk (q.t 1 h8)) (fun h8 h => lG h hk ((q.f 1 h8).o [.pick [17, 1, 2, 15, 16] [], .pick [1, 2, 15, 16, 17] []]))) (fun h1 h => lR h hk (q0.f 1 h1))
theorem Zie (r : Bool) (a0 : (List Zcy)) (a1 : (List Zcy)) (y : Zy ⊕ Bool) (h : Zck a0 a1 = some y) (hk : Zen r y) : (Cfg.code Zcn []).HH PR [.t 6] Zch Zbl r ⟨32, idx 0 [(wL Zag a0), (wL Zag a1), (.fn 30 [])], []⟩ := have q := ((q0.o [.num (a0.length : Int), .num (a1.length : Int)]).b (Zr Zag a0)).b (Zr Zag a1);
 Za h (fun h3 h => lR h hk (q.t 1 h3)) (fun h3 h => lG h hk (((q.f 1 h3).o [.num (a0.length : Int), .pick [17, 16, 15, 2, 1] [], .pick [1, 2, 15, 16, 17] []]).b (Zr Zag a0)))
theorem Ziu (a0 : (List Zcy)) (a1 : (List Zcy)) {r : Bool} (h : Zbq a0 a1 = some r) : Fn PR 29 [(wL Zag a0), (wL Zag a1), (.fn 30 [])] (Zbl r) :=
 Zb h fun y h0 h1 => FnG.of_cfg hT Go.Proofs.Tryz.func29 (by kernel_rfl : _ = some Zcn) (by kernel_rfl) 32 (by kernel_rfl) (Nat.le_of_ble_eq_true rfl) [.t 6] (by kernel_rfl) (by kernel_rfl) (Zie r a0 a1 y h0 (Z1 (fun s y h hk => match s with
 | .L0 v1 v15 v16 v17 => Zh8 r v1 v15 v16 v17 y h hk) h1))
noncomputable def Zco : Code := (Go.Proofs.Tryz.f31.body).getD .skip
noncomputable def Zbm (r : Bool) : PV := (wB r)
noncomputable def Zci (r : Bool) : List (Nat × Blk) := []
noncomputable def Zeo : Zz → Cfg
 | .L0 _ _ _ _ => (nav [1, 1, 0, 1, 4] Zco []).getD (.done .normal)
noncomputable def Zet : Zz → PW.St
 | .L0 v1 v15 v16 v17 => ⟨32, [(1, (wL Zl v1)), (2, (.fn 32 [])), (15, (wL Zl v15)), (16, (wI v16)), (17, (wI v17))], []⟩
abbrev Zep (r : Bool) (y : Zz ⊕ Bool) : Prop := Ok PR [.t 6] (Zci) Zbm Zeo Zet r y
theorem Zh9 (r : Bool) (v1 : (List Zao)) (v15 : (List Zao)) (v16 : Int) (v17 : Int) (y : Zz ⊕ Bool) (h : Zal v1 v15 v16 v17 = some y) (hk : Zep r y) : (Zeo (.L0 v1 v15 v16 v17)).HH PR [.t 6] Zci Zbm r (Zet (.L0 v1 v15 v16 v17)) :=
 Za h (fun h1 h => have q := (q0.t 1 h1).b (Zq Zl 94 (fun _ => rfl) v15);
 Zb h fun x2 h3 h => have q := (((q.o [.cs (Zl x2), .lab 1008]).b (Z2 h3)).b (Zv Zl h3)).b (Zq Zl 94 (fun _ => rfl) v1);
 Zb h fun x4 h5 h => have q := ((q.o [.cs (Zl x4), .lab 1009]).b (Z2 h5)).b (Zv Zl h5);
 Zb h fun x6 h7 h => have q := (q.k x6).b (Zax7 x2 x4 h7);
 Za h (fun h8 h => lR h hk (q.t 1 h8)) (fun h8 h => lG h hk ((q.f 1 h8).o [.pick [17, 1, 2, 15, 16] [], .pick [1, 2, 15, 16, 17] []]))) (fun h1 h => lR h hk (q0.f 1 h1))
theorem Zif (r : Bool) (a0 : (List Zao)) (a1 : (List Zao)) (y : Zz ⊕ Bool) (h : Zcl a0 a1 = some y) (hk : Zep r y) : (Cfg.code Zco []).HH PR [.t 6] Zci Zbm r ⟨32, idx 0 [(wL Zl a0), (wL Zl a1), (.fn 32 [])], []⟩ := have q := ((q0.o [.num (a0.length : Int), .num (a1.length : Int)]).b (Zr Zl a0)).b (Zr Zl a1);
 Za h (fun h3 h => lR h hk (q.t 1 h3)) (fun h3 h => lG h hk (((q.f 1 h3).o [.num (a0.length : Int), .pick [17, 16, 15, 2, 1] [], .pick [1, 2, 15, 16, 17] []]).b (Zr Zl a0)))
theorem Ziv (a0 : (List Zao)) (a1 : (List Zao)) {r : Bool} (h : Zbr a0 a1 = some r) : Fn PR 31 [(wL Zl a0), (wL Zl a1), (.fn 32 [])] (Zbm r) :=
 Zb h fun y h0 h1 => FnG.of_cfg hT Go.Proofs.Tryz.func31 (by kernel_rfl : _ = some Zco) (by kernel_rfl) 32 (by kernel_rfl) (Nat.le_of_ble_eq_true rfl) [.t 6] (by kernel_rfl) (by kernel_rfl) (Zif r a0 a1 y h0 (Z1 (fun s y h hk => match s with
 | .L0 v1 v15 v16 v17 => Zh9 r v1 v15 v16 v17 y h hk) h1))
noncomputable def Zbv : Code := (Go.Proofs.Tryz.f33.body).getD .skip
noncomputable def Za1 (r : Bool) : PV := (wB r)
noncomputable def Zbt (r : Bool) : List (Nat × Blk) := []
noncomputable def Zda : Zo → Cfg
 | .L0 _ _ _ _ => (nav [1, 1, 0, 1, 4] Zbv []).getD (.done .normal)
noncomputable def Zdc : Zo → PW.St
 | .L0 v1 v15 v16 v17 => ⟨32, [(1, (wL Zm v1)), (2, (.fn 34 [])), (15, (wL Zm v15)), (16, (wI v16)), (17, (wI v17))], []⟩
abbrev Zdb (r : Bool) (y : Zo ⊕ Bool) : Prop := Ok PR [.t 6] (Zbt) Za1 Zda Zdc r y
theorem Zfz (r : Bool) (v1 : (List Z7)) (v15 : (List Z7)) (v16 : Int) (v17 : Int) (y : Zo ⊕ Bool) (h : Z9 v1 v15 v16 v17 = some y) (hk : Zdb r y) : (Zda (.L0 v1 v15 v16 v17)).HH PR [.t 6] Zbt Za1 r (Zdc (.L0 v1 v15 v16 v17)) :=
 Za h (fun h1 h => have q := (q0.t 1 h1).b (Zq Zm 89 (fun _ => rfl) v15);
 Zb h fun x2 h3 h => have q := (((q.o [.cs (Zm x2), .lab 1008]).b (Z2 h3)).b (Zv Zm h3)).b (Zq Zm 89 (fun _ => rfl) v1);
 Zb h fun x4 h5 h => have q := ((q.o [.cs (Zm x4), .lab 1009]).b (Z2 h5)).b (Zv Zm h5);
 Zb h fun x6 h7 h => have q := (q.k x6).b (Zaog x2 x4 h7);
 Za h (fun h8 h => lR h hk (q.t 1 h8)) (fun h8 h => lG h hk ((q.f 1 h8).o [.pick [17, 1, 2, 15, 16] [], .pick [1, 2, 15, 16, 17] []]))) (fun h1 h => lR h hk (q0.f 1 h1))
theorem Zf8 (r : Bool) (a0 : (List Z7)) (a1 : (List Z7)) (y : Zo ⊕ Bool) (h : Zbu a0 a1 = some y) (hk : Zdb r y) : (Cfg.code Zbv []).HH PR [.t 6] Zbt Za1 r ⟨32, idx 0 [(wL Zm a0), (wL Zm a1), (.fn 34 [])], []⟩ := have q := ((q0.o [.num (a0.length : Int), .num (a1.length : Int)]).b (Zr Zm a0)).b (Zr Zm a1);
 Za h (fun h3 h => lR h hk (q.t 1 h3)) (fun h3 h => lG h hk (((q.f 1 h3).o [.num (a0.length : Int), .pick [17, 16, 15, 2, 1] [], .pick [1, 2, 15, 16, 17] []]).b (Zr Zm a0)))
theorem Zgh (a0 : (List Z7)) (a1 : (List Z7)) {r : Bool} (h : Za5 a0 a1 = some r) : Fn PR 33 [(wL Zm a0), (wL Zm a1), (.fn 34 [])] (Za1 r) :=
 Zb h fun y h0 h1 => FnG.of_cfg hT Go.Proofs.Tryz.func33 (by kernel_rfl : _ = some Zbv) (by kernel_rfl) 32 (by kernel_rfl) (Nat.le_of_ble_eq_true rfl) [.t 6] (by kernel_rfl) (by kernel_rfl) (Zf8 r a0 a1 y h0 (Z1 (fun s y h hk => match s with
 | .L0 v1 v15 v16 v17 => Zfz r v1 v15 v16 v17 y h hk) h1))
noncomputable def Zcp : Code := (Go.Proofs.Tryz.f35.body).getD .skip
noncomputable def Zbn (r : Bool) : PV := (wB r)
noncomputable def Zcj (r : Bool) : List (Nat × Blk) := []
noncomputable def Zeq : Z0 → Cfg
 | .L0 _ _ _ _ => (nav [1, 1, 0, 1, 4] Zcp []).getD (.done .normal)
noncomputable def Zeu : Z0 → PW.St
 | .L0 v1 v15 v16 v17 => ⟨32, [(1, (wL Zn v1)), (2, (.fn 36 [])), (15, (wL Zn v15)), (16, (wI v16)), (17, (wI v17))], []⟩
abbrev Zer (r : Bool) (y : Z0 ⊕ Bool) : Prop := Ok PR [.t 6] (Zcj) Zbn Zeq Zeu r y
theorem Zia (r : Bool) (v1 : (List Zar)) (v15 : (List Zar)) (v16 : Int) (v17 : Int) (y : Z0 ⊕ Bool) (h : Zam v1 v15 v16 v17 = some y) (hk : Zer r y) : (Zeq (.L0 v1 v15 v16 v17)).HH PR [.t 6] Zcj Zbn r (Zeu (.L0 v1 v15 v16 v17)) :=
 Za h (fun h1 h => have q := (q0.t 1 h1).b (Zq Zn 6 (fun _ => rfl) v15);
 Zb h fun x2 h3 h => have q := (((q.o [.cs (Zn x2), .lab 1008]).b (Z2 h3)).b (Zv Zn h3)).b (Zq Zn 6 (fun _ => rfl) v1);
 Zb h fun x4 h5 h => have q := ((q.o [.cs (Zn x4), .lab 1009]).b (Z2 h5)).b (Zv Zn h5);
 Zb h fun x6 h7 h => have q := (q.k x6).b (Zax9 x2 x4 h7);
 Za h (fun h8 h => lR h hk (q.t 1 h8)) (fun h8 h => lG h hk ((q.f 1 h8).o [.pick [17, 1, 2, 15, 16] [], .pick [1, 2, 15, 16, 17] []]))) (fun h1 h => lR h hk (q0.f 1 h1))
theorem Zig (r : Bool) (a0 : (List Zar)) (a1 : (List Zar)) (y : Z0 ⊕ Bool) (h : Zcm a0 a1 = some y) (hk : Zer r y) : (Cfg.code Zcp []).HH PR [.t 6] Zcj Zbn r ⟨32, idx 0 [(wL Zn a0), (wL Zn a1), (.fn 36 [])], []⟩ := have q := ((q0.o [.num (a0.length : Int), .num (a1.length : Int)]).b (Zr Zn a0)).b (Zr Zn a1);
 Za h (fun h3 h => lR h hk (q.t 1 h3)) (fun h3 h => lG h hk (((q.f 1 h3).o [.num (a0.length : Int), .pick [17, 16, 15, 2, 1] [], .pick [1, 2, 15, 16, 17] []]).b (Zr Zn a0)))
theorem Ziw (a0 : (List Zar)) (a1 : (List Zar)) {r : Bool} (h : Zbs a0 a1 = some r) : Fn PR 35 [(wL Zn a0), (wL Zn a1), (.fn 36 [])] (Zbn r) :=
 Zb h fun y h0 h1 => FnG.of_cfg hT Go.Proofs.Tryz.func35 (by kernel_rfl : _ = some Zcp) (by kernel_rfl) 32 (by kernel_rfl) (Nat.le_of_ble_eq_true rfl) [.t 6] (by kernel_rfl) (by kernel_rfl) (Zig r a0 a1 y h0 (Z1 (fun s y h hk => match s with
 | .L0 v1 v15 v16 v17 => Zia r v1 v15 v16 v17 y h hk) h1))
end
end Go.PW
