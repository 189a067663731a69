import Derived.Test.YtloamjgjcjandaaGreatQWk
set_option linter.all false
set_option maxRecDepth 100000
namespace Go.PW
open Go.RowKit
noncomputable section
noncomputable def Zt4 : Code := (Go.Proofs.Tryz.f6.body).getD .skip
noncomputable def Znx (r : Bool) : PV := (wB r)
noncomputable def Zrj (r : Bool) : List (Nat × Blk) := []
noncomputable def Zxh : Zfx → Cfg
 | .L0 _ _ _ _ => (nav [1, 1, 1, 1, 0, 1, 4] Zt4 []).getD (.done .normal)
 | .L1 _ _ _ _ _ => (nav [1, 1, 1, 1, 1, 1, 0, 1, 4] Zt4 []).getD (.done .normal)
noncomputable def Zy4 : Zfx → PW.St
 | .L0 v1 E0 E1 v6 => ⟨126, [(1, (wI v1)), (2, (.bptr 30000000 0)), (5, (.bptr 30000001 0)), (6, (wI v6))], [(30000000, .box (bx (Ze3 E0))), (30000001, .box (bx (Zkr E1)))]⟩
 | .L1 v1 E0 E1 v8 v9 => ⟨126, [(1, (wI v1)), (2, (.bptr 30000000 0)), (5, (.bptr 30000001 0)), (8, (wI v8)), (9, (wI v9))], [(30000000, .box (bx (Ze3 E0))), (30000001, .box (bx (Zkr E1)))]⟩
abbrev Zxi (r : Bool) (y : Zfx ⊕ Bool) : Prop := Ok PR [.t 4] (Zrj) Znx Zxh Zy4 r y
theorem Zamc (r : Bool) (v1 : Int) (E0 : Zab) (E1 : Zas) (v6 : Int) (y : Zfx ⊕ Bool) (h : Zme v1 E0 E1 v6 = some y) (hk : Zxi r y) : (Zxh (.L0 v1 E0 E1 v6)).HH PR [.t 4] Zrj Znx r (Zy4 (.L0 v1 E0 E1 v6)) := have q := (q0.n (E1.Players.length : Int)).b (Zr Zag E1.Players);
 Za h (fun h2 h => have q := (q.t 1 h2).b (Zq Zg 14 (fun _ => rfl) E0.State.Players);
 Zb h fun x3 h4 h => have q := (((q.o [.cs (Zg x3), .lab 1007]).b (Z2 h4)).b (Zv Zg h4)).b (Zq Zag 13 (fun _ => rfl) E1.Players);
 Zb h fun x5 h6 h => have q := (((q.o [.cs (Zag x5), .num (x3.Library.length : Int)]).b (Z2 h6)).b (Zv Zag h6)).b (Zr (cI .i64) x3.Library);
 Za h (fun h8 h => lR h hk (((q.tt 22).a 11 h8).a 11 (Eq.refl true))) (fun h8 h => have q := ((((((((((q.f 4 h8).o [.cs (Zag x5)]).ff 5).n (x3.Hand.length : Int)).ff 2).b (Zq Zag 13 (fun _ => rfl) E1.Players)).b (Z2 h6)).b (Zv Zag h6)).a 5 h8).b (Zr (cI .i64) x3.Hand)).a 2 h8;
 Za h (fun h10 h => lR h hk (((q.tt 11).a 10 h10).b (Eq.refl true))) (fun h10 h => have q := ((((((q.f 4 h10).o [.cs (Zag x5)]).ff 6).b (Zq Zag 13 (fun _ => rfl) E1.Players)).b (Z2 h6)).b (Zv Zag h6)).a 6 h10;
 Za h (fun h11 h => lR h hk (q.t 1 h11)) (fun h11 h => lG h hk ((q.f 1 h11).o [.pick [6, 1, 2, 5] [30000000, 30000001], .pick [1, 2, 5, 6] [30000000, 30000001]]))))) (fun h2 h => lG h hk ((q.f 1 h2).o [.pick [9, 8, 1, 2, 5] [30000000, 30000001], .pick [1, 2, 5, 8, 9] [30000000, 30000001]]))
theorem Zamd (r : Bool) (v1 : Int) (E0 : Zab) (E1 : Zas) (v8 : Int) (v9 : Int) (y : Zfx ⊕ Bool) (h : Zmf v1 E0 E1 v8 v9 = some y) (hk : Zxi r y) : (Zxh (.L1 v1 E0 E1 v8 v9)).HH PR [.t 4] Zrj Znx r (Zy4 (.L1 v1 E0 E1 v8 v9)) := have q := (q0.n (E0.State.Objects.length : Int)).b (Zr Zc E0.State.Objects);
 Za h (fun h2 h => have q := q.t 1 h2;
 Zb h fun x3 h4 h => have q := (q.k x3).b (Zbfz E0 v1 v9 h4);
 Za h (fun h5 h => have q := ((q.t 1 h5).n (E1.Objects.length : Int)).b (Zr Zc E1.Objects);
 Za h (fun h7 h => lR h hk (((q.tt 14).a 13 h7).b (Eq.refl true))) (fun h7 h => have q := (q.f 4 h7).b (Zq Zc 19 (fun _ => rfl) E1.Objects);
 Zb h fun x8 h9 h => have q := (((((q.o [.cs (Zc x8)]).ff 6).b (Z2 h9)).b (Zv Zc h9)).a 6 h7).b (Zq Zc 19 (fun _ => rfl) E0.State.Objects);
 Zb h fun x10 h11 h => have q := ((((q.o [.cs (Zc x10)]).ff 3).b (Z2 h11)).b (Zv Zc h11)).a 3 h7;
 Za h (fun h12 h => lR h hk (q.t 1 h12)) (fun h12 h => lG h hk ((q.f 1 h12).o [.pick [9, 8, 1, 2, 5] [30000000, 30000001], .pick [1, 2, 5, 8, 9] [30000000, 30000001]])))) (fun h5 h => lG h hk ((q.f 1 h5).o [.pick [9, 1, 2, 5, 8] [30000000, 30000001], .pick [1, 2, 5, 8, 9] [30000000, 30000001]]))) (fun h2 h => have q := ((q.f 1 h2).n (E1.Objects.length : Int)).b (Zr Zc E1.Objects);
 Za h (fun h20 h => have q := q.t 6 h20;
 Za h (fun h21 h => Zb h fun x22 h23 h => lR h hk ((((((((((q.tt 9).k x22).tt 1).a 5 h21).b h20).b h21).b h20).b (Eq.refl true)).b (Zad5 h23)).b (Eq.refl true))) (fun h21 h => have q := ((((((q.f 4 h21).n (E1.Pending.Options.length : Int)).f 1 (Zr Zu E1.Pending.Options)).t 1 h21).f 1 h20).t 1 h21).b h20;
 Za h (fun h25 h => Zb h fun x26 h27 h => lR h hk ((((q.t 1 h25).k x26).t 1 (Zad5 h27)).b h25)) (fun h25 h => lR h hk (q.f 2 h25)))) (fun h20 h => lR h hk (((q.ff 10).a 8 h20).a 2 (Eq.refl false))))
theorem Zaoj (r : Bool) (a0 : Zab) (a1 : Int) (y : Zfx ⊕ Bool) (h : Z0r a0 a1 = some y) (hk : Zxi r y) : (Cfg.code Zt4 []).HH PR [.t 4] Zrj Znx r ⟨126, idx 0 [(.agg (bx (Ze3 a0))), (wI a1)], []⟩ := have q := q0.o [.lab 1002];
 Zb h fun x1 h2 h => have q := (q.k x1).b (Zbl4 a0 h2);
 Za h (fun h3 h => Zb h fun x4 h5 h => lR h hk (((q.t 1 h3).k x4).b (Zad5 h5))) (fun h3 h => have q := q.f 1 h3;
 Zb h fun x6 h7 h => have q := (((q.o [.call (.agg (bx (Zkr x6))), .lab 1005, .num (x6.Players.length : Int), .num (a0.State.Players.length : Int)]).b (Zal4 a0 a1 h7)).b (Zr Zag x6.Players)).b (Zr Zg a0.State.Players);
 Za h (fun h10 h => lR h hk (q.t 1 h10)) (fun h10 h => lG h hk ((q.f 1 h10).o [.pick [6, 5, 2, 1] [1005, 1002], .relab 1002 30000000, .relab 1005 30000001, .pick [1, 2, 5, 6] [30000000, 30000001]])))
theorem Zat6 (a0 : Zab) (a1 : Int) {r : Bool} (h : Z5o a0 a1 = some r) : Fn PR 6 [(.agg (bx (Ze3 a0))), (wI a1)] (Znx r) :=
 Zb h fun y h0 h1 => FnG.of_cfg hT Go.Proofs.Tryz.func6 (by kernel_rfl : _ = some Zt4) (by kernel_rfl) 126 (by kernel_rfl) (Nat.le_of_ble_eq_true rfl) [.t 4] (by kernel_rfl) (by kernel_rfl) (Zaoj r a0 a1 y h0 (Z1 (fun s y h hk => match s with
 | .L0 v1 E0 E1 v6 => Zamc r v1 E0 E1 v6 y h hk
 | .L1 v1 E0 E1 v8 v9 => Zamd r v1 E0 E1 v8 v9 y h hk) h1))
end
end Go.PW
