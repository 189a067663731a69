import Derived.Test.YtloamjgjcjandaaGreatQWe
set_option linter.all false
set_option maxRecDepth 100000
namespace Go.PW
open Go.RowKit
noncomputable section
noncomputable def Zah8 : Code := (Go.Proofs.Tryz.f13.body).getD .skip
noncomputable def Z0a (r : Bool) : PV := (wB r)
noncomputable def Zad4 (r : Bool) : List (Nat × Blk) := []
noncomputable def Zanv : Zng → Cfg
 | .L0 _ _ _ => (nav [1, 1, 1] Zah8 []).getD (.done .normal)
noncomputable def Zart : Zng → PW.St
 | .L0 E0 E1 v5 => ⟨136, [(2, (.bptr 30000000 0)), (3, (.bptr 30000001 0)), (5, (wB v5))], [(30000000, .box (bx (Zkr E0))), (30000001, .box (bx (Zkr E1)))]⟩
abbrev Zanw (r : Bool) (y : Zng ⊕ Bool) : Prop := Ok PR [.t 4] (Zad4) Z0a Zanv Zart r y
theorem Zn4 (r : Bool) (E0 : Zas) (E1 : Zas) (v5 : Bool) (y : Zng ⊕ Bool) (h : Zns E0 E1 v5 = some y) (hk : Zanw r y) : (Zanv (.L0 E0 E1 v5)).HH PR [.t 4] Zad4 Z0a r (Zart (.L0 E0 E1 v5)) :=
 Za h (fun h1 h => have q := q0.t 5 h1;
 Zb h fun x2 h3 h => have q := ((q.k x2).t 1 (Ziu E0.Players E1.Players h3)).b h1;
 Za h (fun h4 h => have q := q.t 5 h4;
 Zb h fun x5 h6 h => have q := ((q.k x5).t 1 (Ziv E0.Stack E1.Stack h6)).b h4;
 Za h (fun h7 h => have q := q.t 5 h7;
 Zb h fun x8 h9 h => have q := ((q.k x8).t 1 (Zgh E0.Waiting E1.Waiting h9)).b h7;
 Za h (fun h10 h => have q := q.t 5 h10;
 Zb h fun x11 h12 h => have q := ((q.k x11).t 1 (Ziw E0.Conts E1.Conts h12)).b h10;
 Za h (fun h13 h => Zb h fun x14 h15 h => lR h hk ((((q.t 5 h13).k x14).t 1 (Zars E0.Pending E1.Pending h15)).b h13)) (fun h13 h => lR h hk (q.f 6 h13))) (fun h10 h => lR h hk (((q.ff 12).a 6 h10).a 6 (Eq.refl false)))) (fun h7 h => lR h hk (((q.ff 18).a 6 h7).a 12 (Eq.refl false)))) (fun h4 h => lR h hk (((q.ff 24).a 6 h4).a 18 (Eq.refl false)))) (fun h1 h => lR h hk (((q0.ff 30).a 6 h1).a 24 (Eq.refl false)))
theorem Za6l (r : Bool) (a0 : Zas) (a1 : Zas) (y : Zng ⊕ Bool) (h : Zag2 a0 a1 = some y) (hk : Zanw r y) : (Cfg.code Zah8 []).HH PR [.t 4] Zad4 Z0a r ⟨136, idx 0 [(.agg (bx (Zkr a0))), (.agg (bx (Zkr a1)))], []⟩ := have q := q0.o [.lab 1002, .lab 1003];
 Za h (fun h1 h => lR h hk (((q.tt 49).a 6 h1).a 43 (Eq.refl true))) (fun h1 h => have q := q.f 6 h1;
 Za h (fun h2 h => lR h hk (((q.tt 43).a 6 h2).a 37 (Eq.refl true))) (fun h2 h => have q := q.f 6 h2;
 Za h (fun h3 h => lR h hk (((q.tt 37).a 6 h3).a 31 (Eq.refl true))) (fun h3 h => have q := q.f 6 h3;
 Za h (fun h4 h => lR h hk (((q.tt 31).a 6 h4).a 25 (Eq.refl true))) (fun h4 h => have q := q.f 6 h4;
 Za h (fun h5 h => lR h hk (((q.tt 25).a 6 h5).a 19 (Eq.refl true))) (fun h5 h => have q := q.f 6 h5;
 Za h (fun h6 h => lR h hk (((q.tt 19).a 6 h6).a 13 (Eq.refl true))) (fun h6 h => have q := q.f 6 h6;
 Za h (fun h7 h => lR h hk (((q.tt 13).a 6 h7).a 7 (Eq.refl true))) (fun h7 h => have q := q.f 6 h7;
 Za h (fun h8 h => lR h hk (((q.tt 7).a 6 h8).b (Eq.refl true))) (fun h8 h => have q := q.f 6 h8;
 Za h (fun h9 h => lR h hk (q.t 1 h9)) (fun h9 h => have q := q.f 1 h9;
 Zb h fun x10 h11 h => have q := (q.k x10).b (Zgd a0.Hand a1.Hand h11);
 Za h (fun h12 h => have q := q.t 5 h12;
 Zb h fun x13 h14 h => have q := ((q.k x13).t 1 (Ztz a0.Objects a1.Objects h14)).b h12;
 Za h (fun h15 h => have q := q.t 5 h15;
 Zb h fun x16 h17 h => have q := ((q.k x16).t 1 (Zgd a0.Battlefield a1.Battlefield h17)).b h15;
 Za h (fun h18 h => have q := q.t 5 h18;
 Zb h fun x19 h20 h => have q := ((q.k x19).t 1 (Zgd a0.Exile a1.Exile h20)).b h18;
 Za h (fun h21 h => Zb h fun x22 h23 h => lJ (Zn4 r a0 a1 x22 _ h hk) (((((q.t 5 h21).k x22).t 1 (Zgd a0.Extra a1.Extra h23)).o [.stopAt 0, .pick [5, 3, 2] [1003, 1002], .relab 1002 30000000, .relab 1003 30000001, .pick [2, 3, 5] [30000000, 30000001]]).b h21)) (fun h21 h => lJ (Zn4 r a0 a1 false _ h hk) ((q.f 6 h21).o [.stopAt 0, .pick [5, 3, 2] [1003, 1002], .relab 1002 30000000, .relab 1003 30000001, .pick [2, 3, 5] [30000000, 30000001]]))) (fun h18 h => lJ (Zn4 r a0 a1 false _ h hk) ((((q.ff 12).o [.stopAt 0, .pick [5, 3, 2] [1003, 1002], .relab 1002 30000000, .relab 1003 30000001, .pick [2, 3, 5] [30000000, 30000001]]).a 6 h18).a 6 (Eq.refl false)))) (fun h15 h => lJ (Zn4 r a0 a1 false _ h hk) ((((q.ff 18).o [.stopAt 0, .pick [5, 3, 2] [1003, 1002], .relab 1002 30000000, .relab 1003 30000001, .pick [2, 3, 5] [30000000, 30000001]]).a 6 h15).a 12 (Eq.refl false)))) (fun h12 h => lJ (Zn4 r a0 a1 false _ h hk) ((((q.ff 24).o [.stopAt 0, .pick [5, 3, 2] [1003, 1002], .relab 1002 30000000, .relab 1003 30000001, .pick [2, 3, 5] [30000000, 30000001]]).a 6 h12).a 18 (Eq.refl false))))))))))))
theorem Zaru (a0 : Zas) (a1 : Zas) {r : Bool} (h : Z7v a0 a1 = some r) : Fn PR 13 [(.agg (bx (Zkr a0))), (.agg (bx (Zkr a1)))] (Z0a r) :=
 Zb h fun y h0 h1 => FnG.of_cfg hT Go.Proofs.Tryz.func13 (by kernel_rfl : _ = some Zah8) (by kernel_rfl) 136 (by kernel_rfl) (Nat.le_of_ble_eq_true rfl) [.t 4] (by kernel_rfl) (by kernel_rfl) (Za6l r a0 a1 y h0 (Z1 (fun s y h hk => match s with
 | .L0 E0 E1 v5 => Zn4 r E0 E1 v5 y h hk) h1))
noncomputable def Zav3 : Code := (Go.Proofs.Tryz.f9.body).getD .skip
noncomputable def Z83 (r : Bool) : PV := (wB r)
noncomputable def Zarv (r : Bool) : List (Nat × Blk) := []
noncomputable def Zba6 : Zqv → Cfg := fun s => nomatch s
noncomputable def Zbfv : Zqv → PW.St := fun s => nomatch s
abbrev Zba7 (r : Bool) (y : Zqv ⊕ Bool) : Prop := Ok PR [.t 0] (Zarv) Z83 Zba6 Zbfv r y
theorem Za6m (r : Bool) (y : Zqv ⊕ Bool) (h : Zag3 = some y) (hk : Zba7 r y) : (Cfg.code Zav3 []).HH PR [.t 0] Zarv Z83 r ⟨119, idx 0 [], []⟩ :=
 Zb h fun x1 h2 h => have q := (q0.o [.call (.agg (bx (Ze3 x1))), .lab 1001]).b (Zbfq h2);
 Zb h fun x3 h4 h => have q := (q.o [.call (.agg (bx (Zkr x3)))]).b (Zal4 x1 0 h4);
 Zb h fun x5 h6 h => have q := ((q.o [.call (.agg (bx (Zkr x5))), .lab 1002, .lab 1003, .num (x3.Objects.length : Int)]).b (Zal4 x1 1 h6)).b (Zr Zc x3.Objects);
 Za h (fun h8 h => have q := (q.t 3 h8).b (Zq Zc 19 (fun _ => rfl) x3.Objects);
 Zb h fun x9 h10 h => have q := ((((q.o [.cs (Zc x9)]).tt 4).b (Z2 h10)).b (Zv Zc h10)).a 4 h8;
 Za h (fun h11 h => have q := (q.t 3 h11).b (Zq Zc 19 (fun _ => rfl) x3.Objects);
 Zb h fun x12 h13 h => have q := ((((q.o [.cs (Zc x12)]).tt 4).b (Z2 h13)).b (Zv Zc h13)).a 4 h11;
 Za h (fun h14 h => have q := ((((q.t 4 h14).n (x3.Pending.Options.length : Int)).tt 2).b (Zr Zu x3.Pending.Options)).a 2 h14;
 Za h (fun h16 h => have q := (((q.tt 3).o [.lit]).tt 1).a 4 h16;
 Zb h fun x18 h19 h => have q := ((q.k x18).t 1 (Zbjz x3.Hand [1] h19)).b h16;
 Za h (fun h20 h => have q := ((((q.t 3 h20).n (x5.Objects.length : Int)).tt 2).b (Zr Zc x5.Objects)).a 2 h20;
 Za h (fun h22 h => have q := (q.t 3 h22).b (Zq Zc 19 (fun _ => rfl) x5.Objects);
 Zb h fun x23 h24 h => have q := ((((q.o [.cs (Zc x23)]).tt 4).b (Z2 h24)).b (Zv Zc h24)).a 4 h22;
 Za h (fun h25 h => have q := ((((q.t 4 h25).n (x5.Pending.Options.length : Int)).tt 2).b (Zr Zu x5.Pending.Options)).a 2 h25;
 Za h (fun h27 h => have q := q.t 5 h27;
 Za h (fun h28 h => have q := ((((q.t 3 h28).n (x5.Players.length : Int)).tt 2).b (Zr Zag x5.Players)).a 2 h28;
 Za h (fun h30 h => have q := (q.t 3 h30).b (Zq Zag 13 (fun _ => rfl) x5.Players);
 Zb h fun x31 h32 h => have q := ((((q.o [.cs (Zag x31)]).tt 4).b (Z2 h32)).b (Zv Zag h32)).a 4 h30;
 Za h (fun h33 h => have q := ((((((q.t 3 h33).o [.cs (Zag x31)]).tt 4).b (Zq Zag 13 (fun _ => rfl) x5.Players)).b (Z2 h32)).b (Zv Zag h32)).a 4 h33;
 Za h (fun h34 h => have q := q.t 3 h34;
 Zb h fun x35 h36 h => have q := ((q.k x35).t 1 (Zz9 x1.State 0 1 h36)).b h34;
 Za h (fun h37 h => have q := q.t 3 h37;
 Zb h fun x38 h39 h => have q := (((q.k x38).tt 2).b (Zz9 x1.State 1 1 h39)).a 2 h37;
 Za h (fun h40 h => have q := q.t 3 h40;
 Zb h fun x41 h42 h => have q := (((q.k x41).tt 2).b (Zz9 x1.State 0 3 h42)).a 2 h40;
 Za h (fun h43 h => have q := q.t 3 h43;
 Zb h fun x44 h45 h => have q := ((q.k x44).t 1 (Zaru x3 x3 h45)).b h43;
 Za h (fun h46 h => Zb h fun x47 h48 h => lR h hk (((((q.t 3 h46).k x47).tt 2).b (Zaru x3 x5 h48)).a 2 h46)) (fun h46 h => lR h hk (q.f 5 h46))) (fun h43 h => lR h hk (((q.ff 9).a 4 h43).a 5 (Eq.refl false)))) (fun h40 h => lR h hk (((q.ff 14).a 5 h40).a 9 (Eq.refl false)))) (fun h37 h => lR h hk (((q.ff 19).a 5 h37).a 14 (Eq.refl false)))) (fun h34 h => lR h hk (((q.ff 23).a 4 h34).a 19 (Eq.refl false)))) (fun h33 h => lR h hk (((q.ff 30).a 7 h33).a 23 (Eq.refl false)))) (fun h30 h => lR h hk (((q.ff 37).a 7 h30).a 30 (Eq.refl false)))) (fun h28 h => lR h hk (((q.ff 42).a 5 h28).a 37 (Eq.refl false)))) (fun h27 h => lR h hk (((q.ff 47).a 5 h27).a 42 (Eq.refl false)))) (fun h25 h => lR h hk (((q.ff 53).a 6 h25).a 47 (Eq.refl false)))) (fun h22 h => lR h hk (((q.ff 60).a 7 h22).a 53 (Eq.refl false)))) (fun h20 h => lR h hk (((q.ff 65).a 5 h20).a 60 (Eq.refl false)))) (fun h16 h => lR h hk (((q.ff 70).a 5 h16).a 65 (Eq.refl false)))) (fun h14 h => lR h hk (((q.ff 76).a 6 h14).a 70 (Eq.refl false)))) (fun h11 h => lR h hk (((q.ff 83).a 7 h11).a 76 (Eq.refl false)))) (fun h8 h => lR h hk (((q.ff 90).a 7 h8).a 83 (Eq.refl false)))
theorem Zad5 {r : Bool} (h : Z11 = some r) : Fn PR 9 [] (Z83 r) :=
 Zb h fun y h0 h1 => FnG.of_cfg hT Go.Proofs.Tryz.func9 (by kernel_rfl : _ = some Zav3) (by kernel_rfl) 119 (by kernel_rfl) (Nat.le_of_ble_eq_true rfl) [.t 0] (by kernel_rfl) (by kernel_rfl) (Za6m r y h0 (Z1 (fun s _ _ _ => nomatch s) h1))
noncomputable def Zah9 : Code := (Go.Proofs.Tryz.f53.body).getD .skip
noncomputable def Z0b (r : Int) : PV := (wI r)
noncomputable def Zad6 (r : Int) : List (Nat × Blk) := []
noncomputable def Zanx : Znh → Cfg
 | .L0 _ _ _ => (nav [1, 0, 1, 4] Zah9 []).getD (.done .normal)
noncomputable def Zarw : Znh → PW.St
 | .L0 v0 v1 v5 => ⟨19, [(0, (wL (cI .i64) v0)), (1, (wI v1)), (5, (wI v5))], []⟩
abbrev Zany (r : Int) (y : Znh ⊕ Int) : Prop := Ok PR [.t 4] (Zad6) Z0b Zanx Zarw r y
theorem Za2z (r : Int) (v0 : (List Int)) (v1 : Int) (v5 : Int) (y : Znh ⊕ Int) (h : Zr3 v0 v1 v5 = some y) (hk : Zany r y) : (Zanx (.L0 v0 v1 v5)).HH PR [.t 4] Zad6 Z0b r (Zarw (.L0 v0 v1 v5)) := have q := (q0.n (v0.length : Int)).b (Zr (cI .i64) v0);
 Za h (fun h2 h => have q := (q.t 1 h2).b (Zq (cI .i64) 1 (fun _ => rfl) v0);
 Zb h fun x3 h4 h => have q := ((q.o [.cs ((cI .i64) x3)]).b (Z2 h4)).b (Zv (cI .i64) h4);
 Za h (fun h5 h => lR h hk (q.t 1 h5)) (fun h5 h => lG h hk ((q.f 1 h5).o [.pick [5, 0, 1] [], .pick [0, 1, 5] []]))) (fun h2 h => lR h hk (q.f 1 h2))
theorem Za6n (r : Int) (a0 : (List Int)) (a1 : Int) (y : Znh ⊕ Int) (h : Zag4 a0 a1 = some y) (hk : Zany r y) : (Cfg.code Zah9 []).HH PR [.t 4] Zad6 Z0b r ⟨19, idx 0 [(wL (cI .i64) a0), (wI a1)], []⟩ :=
 lG h hk (q0.o [.pick [5, 1, 0] [], .pick [0, 1, 5] []])
theorem Zbfw (a0 : (List Int)) (a1 : Int) {r : Int} (h : Zapg a0 a1 = some r) : Fn PR 53 [(wL (cI .i64) a0), (wI a1)] (Z0b r) :=
 Zb h fun y h0 h1 => FnG.of_cfg hT Go.Proofs.Tryz.func53 (by kernel_rfl : _ = some Zah9) (by kernel_rfl) 19 (by kernel_rfl) (Nat.le_of_ble_eq_true rfl) [.t 4] (by kernel_rfl) (by kernel_rfl) (Za6n r a0 a1 y h0 (Z1 (fun s y h hk => match s with
 | .L0 v0 v1 v5 => Za2z r v0 v1 v5 y h hk) h1))
noncomputable def Za72 : Code := (Go.Proofs.Tryz.f25.body).getD .skip
noncomputable def Zaia (r : Bool) : PV := (wB r)
noncomputable def Za20 (r : Bool) : List (Nat × Blk) := []
noncomputable def Zbj0 : Zwy → Cfg := fun s => nomatch s
noncomputable def Zbl5 : Zwy → PW.St := fun s => nomatch s
abbrev Zbj1 (r : Bool) (y : Zwy ⊕ Bool) : Prop := Ok PR [.t 4] (Za20) Zaia Zbj0 Zbl5 r y
theorem Zbfx (r : Bool) (a0 : (List Int)) (a1 : Int) (y : Zwy ⊕ Bool) (h : Zaph a0 a1 = some y) (hk : Zbj1 r y) : (Cfg.code Za72 []).HH PR [.t 4] Za20 Zaia r ⟨9, idx 0 [(wL (cI .i64) a0), (wI a1)], []⟩ :=
 Zb h fun x1 h2 h => lR h hk ((q0.o [.call (wI x1)]).b (Zbfw a0 a1 h2))
theorem Zbl6 (a0 : (List Int)) (a1 : Int) {r : Bool} (h : Zast a0 a1 = some r) : Fn PR 25 [(wL (cI .i64) a0), (wI a1)] (Zaia r) :=
 Zb h fun y h0 h1 => FnG.of_cfg hT Go.Proofs.Tryz.func25 (by kernel_rfl : _ = some Za72) (by kernel_rfl) 9 (by kernel_rfl) (Nat.le_of_ble_eq_true rfl) [.t 4] (by kernel_rfl) (by kernel_rfl) (Zbfx r a0 a1 y h0 (Z1 (fun s _ _ _ => nomatch s) h1))
noncomputable def Zaib : Code := (Go.Proofs.Tryz.f11.body).getD .skip
noncomputable def Z0c (r : Bool) : PV := (wB r)
noncomputable def Zad7 (r : Bool) : List (Nat × Blk) := []
noncomputable def Zanz : Zni → Cfg
 | .L0 _ _ _ _ => (nav [1, 0, 1, 4] Zaib []).getD (.done .normal)
noncomputable def Zarx : Zni → PW.St
 | .L0 v1 v2 E0 v7 => ⟨57, [(1, (wI v1)), (2, (wI v2)), (3, (.bptr 30000000 0)), (7, (wI v7))], [(30000000, .box (bx (Z4 E0)))]⟩
abbrev Zan0 (r : Bool) (y : Zni ⊕ Bool) : Prop := Ok PR [.t 6] (Zad7) Z0c Zanz Zarx r y
theorem Za21 (r : Bool) (v1 : Int) (v2 : Int) (E0 : Zd) (v7 : Int) (y : Zni ⊕ Bool) (h : Znt v1 v2 E0 v7 = some y) (hk : Zan0 r y) : (Zanz (.L0 v1 v2 E0 v7)).HH PR [.t 6] Zad7 Z0c r (Zarx (.L0 v1 v2 E0 v7)) := have q := (q0.n (E0.Objects.length : Int)).b (Zr Zc E0.Objects);
 Za h (fun h2 h => have q := (q.t 1 h2).b (Zq Zc 19 (fun _ => rfl) E0.Objects);
 Zb h fun x3 h4 h => have q := ((q.o [.cs (Zc x3)]).b (Z2 h4)).b (Zv Zc h4);
 Za h (fun h5 h => have q := ((((q.t 1 h5).o [.cs (Zc x3)]).b (Zq Zc 19 (fun _ => rfl) E0.Objects)).b (Z2 h4)).b (Zv Zc h4);
 Za h (fun h6 h => have q := q.t 3 h6;
 Za h (fun h7 h => lR h hk (((((q.tt 9).a 6 h7).b h6).b h7).b h6)) (fun h7 h => have q := q.f 3 h7;
 Za h (fun h8 h => have q := ((((((q.t 4 h8).n (E0.Players.length : Int)).t 1 (Zr Zg E0.Players)).f 1 h8).t 1 h7).f 1 h8).b h7;
 Za h (fun h10 h => Zb h fun x11 h12 h => Zb h fun x13 h14 h => lR h hk (((((((((((((((q.t 4 h10).o [.cs (Zg x11)]).tt 4).k x13).f 1 (Zq Zg 14 (fun _ => rfl) E0.Players)).tt 2).f 1 (Z2 h12)).t 1 (Zv Zg h12)).a 4 h10).b (Zbl6 x11.Hand v2 h14)).b h7).b h10).b h6).b h7).b h6)) (fun h10 h => lR h hk ((((((((((q.ff 10).tt 1).ff 1).tt 1).a 8 h10).b h7).b h10).b h6).b h7).b h6))) (fun h8 h => lR h hk ((((((((((((((q.ff 18).tt 1).ff 1).tt 1).a 5 h8).b h7).b h8).b h7).a 8 (Eq.refl false)).b h7).b (Eq.refl false)).b h6).b h7).b h6)))) (fun h6 h => lR h hk (q.f 5 h6))) (fun h5 h => lG h hk ((q.f 1 h5).o [.pick [7, 1, 2, 3] [30000000], .pick [1, 2, 3, 7] [30000000]]))) (fun h2 h => lR h hk (q.f 1 h2))
theorem Za6o (r : Bool) (a0 : Zd) (a1 : Int) (a2 : Int) (y : Zni ⊕ Bool) (h : Zag5 a0 a1 a2 = some y) (hk : Zan0 r y) : (Cfg.code Zaib []).HH PR [.t 6] Zad7 Z0c r ⟨57, idx 0 [(.agg (bx (Z4 a0))), (wI a1), (wI a2)], []⟩ :=
 lG h hk (q0.o [.lab 1003, .pick [7, 3, 2, 1] [1003], .relab 1003 30000000, .pick [1, 2, 3, 7] [30000000]])
theorem Zbfy (a0 : Zd) (a1 : Int) (a2 : Int) {r : Bool} (h : Zafd a0 a1 a2 = some r) : Fn PR 11 [(.agg (bx (Z4 a0))), (wI a1), (wI a2)] (Z0c r) :=
 Zb h fun y h0 h1 => FnG.of_cfg hT Go.Proofs.Tryz.func11 (by kernel_rfl : _ = some Zaib) (by kernel_rfl) 57 (by kernel_rfl) (Nat.le_of_ble_eq_true rfl) [.t 6] (by kernel_rfl) (by kernel_rfl) (Za6o r a0 a1 a2 y h0 (Z1 (fun s y h hk => match s with
 | .L0 v1 v2 E0 v7 => Za21 r v1 v2 E0 v7 y h hk) h1))
end
end Go.PW
