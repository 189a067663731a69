import Derived.Test.YtloamjgjcjandaaGreatQWf
set_option linter.all false
set_option maxRecDepth 100000
namespace Go.PW
open Go.RowKit
noncomputable section
noncomputable def Zaic : Code := (Go.Proofs.Tryz.f16.body).getD .skip
noncomputable def Z0d (r : Bool) : PV := (wB r)
noncomputable def Zad8 (r : Bool) : List (Nat × Blk) := []
noncomputable def Zan1 : Znj → Cfg
 | .L0 _ _ _ _ => (nav [1, 1, 0, 1, 4] Zaic []).getD (.done .normal)
noncomputable def Zary : Znj → PW.St
 | .L0 v1 v2 E0 v7 => ⟨65, [(1, (wI v1)), (2, (wI v2)), (3, (.bptr 30000000 0)), (7, (wI v7))], [(30000000, .box (bx (Ze3 E0)))]⟩
abbrev Zan2 (r : Bool) (y : Znj ⊕ Bool) : Prop := Ok PR [.t 6] (Zad8) Z0d Zan1 Zary r y
theorem Za22 (r : Bool) (v1 : Int) (v2 : Int) (E0 : Zab) (v7 : Int) (y : Znj ⊕ Bool) (h : Zko v1 v2 E0 v7 = some y) (hk : Zan2 r y) : (Zan1 (.L0 v1 v2 E0 v7)).HH PR [.t 6] Zad8 Z0d r (Zary (.L0 v1 v2 E0 v7)) := have q := (q0.n (E0.Pending.Options.length : Int)).b (Zr Zu E0.Pending.Options);
 Za h (fun h2 h => have q := q.t 5 h2;
 Za h (fun h3 h => have q := q.t 6 h3;
 Za h (fun h4 h => have q := (q.t 1 h4).b (Zq Zu 3 (fun _ => rfl) E0.Pending.Options);
 Zb h fun x5 h6 h => have q := ((q.o [.cs (Zu x5)]).b (Z2 h6)).b (Zv Zu h6);
 Za h (fun h7 h => have q := (((((((q.t 5 h7).o [.cs (Zu x5)]).tt 7).b (Zq Zu 3 (fun _ => rfl) E0.Pending.Options)).b (Z2 h6)).b (Zv Zu h6)).a 7 h7).b (Zq Zc 19 (fun _ => rfl) E0.State.Objects);
 Zb h fun x8 h9 h => have q := ((((q.o [.cs (Zc x8)]).tt 4).b (Z2 h9)).b (Zv Zc h9)).a 4 h7;
 Za h (fun h10 h => lR h hk (q.t 1 h10)) (fun h10 h => lG h hk ((q.f 1 h10).o [.pick [7, 1, 2, 3] [30000000], .pick [1, 2, 3, 7] [30000000]]))) (fun h7 h => lG h hk ((((q.ff 17).o [.pick [7, 1, 2, 3] [30000000], .pick [1, 2, 3, 7] [30000000]]).a 16 h7).b (Eq.refl false)))) (fun h4 h => lR h hk (q.f 1 h4))) (fun h3 h => lR h hk (((q.ff 7).a 6 h3).b (Eq.refl false)))) (fun h2 h => lR h hk (((q.ff 12).a 5 h2).a 7 (Eq.refl false)))
theorem Za6p (r : Bool) (a0 : Zab) (a1 : Int) (a2 : Int) (y : Znj ⊕ Bool) (h : Zag6 a0 a1 a2 = some y) (hk : Zan2 r y) : (Cfg.code Zaic []).HH PR [.t 6] Zad8 Z0d r ⟨65, idx 0 [(.agg (bx (Ze3 a0))), (wI a1), (wI a2)], []⟩ := have q := (q0.o [.lab 1003]).b (Zq Zc 19 (fun _ => rfl) a0.State.Objects);
 Zb h fun x1 h2 h => have q := ((q.o [.cs (Zc x1)]).b (Z2 h2)).b (Zv Zc h2);
 Zb h fun x3 h4 h => have q := (q.k x3).b (Zbfy a0.State a1 x1.Id h4);
 Za h (fun h5 h => lR h hk (q.t 1 h5)) (fun h5 h => lG h hk ((q.f 1 h5).o [.pick [7, 3, 2, 1] [1003], .relab 1003 30000000, .pick [1, 2, 3, 7] [30000000]]))
theorem Zbfz (a0 : Zab) (a1 : Int) (a2 : Int) {r : Bool} (h : Zafe a0 a1 a2 = some r) : Fn PR 16 [(.agg (bx (Ze3 a0))), (wI a1), (wI a2)] (Z0d r) :=
 Zb h fun y h0 h1 => FnG.of_cfg hT Go.Proofs.Tryz.func16 (by kernel_rfl : _ = some Zaic) (by kernel_rfl) 65 (by kernel_rfl) (Nat.le_of_ble_eq_true rfl) [.t 6] (by kernel_rfl) (by kernel_rfl) (Za6p r a0 a1 a2 y h0 (Z1 (fun s y h hk => match s with
 | .L0 v1 v2 E0 v7 => Za22 r v1 v2 E0 v7 y h hk) h1))
end
end Go.PW
