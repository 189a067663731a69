import Derived.Test.YtloamjgjcjandaaGreatQWf
set_option linter.all false
set_option maxRecDepth 100000
namespace Go.PW
open Go.RowKit
noncomputable section
noncomputable def Z31 : Code := (Go.Proofs.Tryz.f3.body).getD .skip
noncomputable def Zrh (r : Bool) : PV := (wB r)
noncomputable def Z0t (r : Bool) : List (Nat × Blk) := []
noncomputable def Z9t : Zit → Cfg
 | .L0 _ _ _ _ => (nav [1, 1, 0, 1, 4] Z31 []).getD (.done .normal)
noncomputable def Zad0 : Zit → PW.St
 | .L0 v1 v2 E0 v7 => ⟨57, [(1, (wI v1)), (2, (wI v2)), (3, (.bptr 30000000 0)), (7, (wI v7))], [(30000000, .box (bx (Zge E0)))]⟩
abbrev Z9u (r : Bool) (y : Zit ⊕ Bool) : Prop := Ok PR [.t 6] (Z0t) Zrh Z9t Zad0 r y
theorem Zan3 (r : Bool) (v1 : Int) (v2 : Int) (E0 : Zan) (v7 : Int) (y : Zit ⊕ Bool) (h : Zmv v1 v2 E0 v7 = some y) (hk : Z9u r y) : (Z9t (.L0 v1 v2 E0 v7)).HH PR [.t 6] Z0t Zrh r (Zad0 (.L0 v1 v2 E0 v7)) := have q := (q0.n (E0.State.Objects.length : Int)).b (Zt Zd E0.State.Objects);
 Za h (fun h2 h => have q := (q.t 1 h2).b (Zs Zd 19 (fun _ => rfl) E0.State.Objects);
 Zb h fun x3 h4 h => have q := ((q.o [.cs (Zd x3)]).b (Z2 h4)).b (Zz Zd h4);
 Zb h fun x5 h6 h => have q := ((((q.o [.call (wB x5), .cs (Zd x3)]).b (Zp3 E0.State v1 x3.Id h6)).b (Zs Zd 19 (fun _ => rfl) E0.State.Objects)).b (Z2 h4)).b (Zz Zd h4);
 Zb h fun x7 h8 h => have q := (q.k x7).b (Zarj E0.State v1 x3.Id h8);
 Za h (fun h9 h => lR h hk (q.t 1 h9)) (fun h9 h => lG h hk ((q.f 1 h9).o [.pick [7, 1, 2, 3] [30000000], .pick [1, 2, 3, 7] [30000000]]))) (fun h2 h => have q := q.f 1 h2;
 Zb h fun x12 h13 h => have q := (q.k x12).b (Zp3 E0.State v1 v2 h13);
 Zb h fun x14 h15 h => have q := (q.k x14).b (Zarj E0.State v1 v2 h15);
 Za h (fun h16 h => Zb h fun x17 h18 h => lR h hk ((((q.t 1 h16).k x17).t 1 (Zarg h18)).b h16)) (fun h16 h => lR h hk (q.f 2 h16)))
theorem Zark (r : Bool) (a0 : Zan) (a1 : Int) (a2 : Int) (y : Zit ⊕ Bool) (h : Z2v a0 a1 a2 = some y) (hk : Z9u r y) : (Cfg.code Z31 []).HH PR [.t 6] Z0t Zrh r ⟨57, idx 0 [(.agg (bx (Zge a0))), (wI a1), (wI a2)], []⟩ := have q := q0.o [.lab 1003];
 Zb h fun x1 h2 h => have q := (q.k x1).b (Zblm a0 h2);
 Za h (fun h3 h => Zb h fun x4 h5 h => lR h hk (((q.t 1 h3).k x4).b (Zarg h5))) (fun h3 h => lG h hk ((q.f 1 h3).o [.pick [7, 3, 2, 1] [1003], .relab 1003 30000000, .pick [1, 2, 3, 7] [30000000]]))
theorem Zaxw (a0 : Zan) (a1 : Int) (a2 : Int) {r : Bool} (h : Z74 a0 a1 a2 = some r) : Fn PR 3 [(.agg (bx (Zge a0))), (wI a1), (wI a2)] (Zrh r) :=
 Zb h fun y h0 h1 => FnG.of_cfg hT Go.Proofs.Tryz.func3 (by kernel_rfl : _ = some Z31) (by kernel_rfl) 57 (by kernel_rfl) (Nat.le_of_ble_eq_true rfl) [.t 6] (by kernel_rfl) (by kernel_rfl) (Zark r a0 a1 a2 y h0 (Z0 (fun s y h hk => match s with
 | .L0 v1 v2 E0 v7 => Zan3 r v1 v2 E0 v7 y h hk) h1))
end
end Go.PW
