import Derived.Test.YtloamjgjcjandaaGreatQWb
set_option linter.all false
set_option maxRecDepth 100000
namespace Go.PW
open Go.RowKit
noncomputable section
noncomputable def Zahi : Code := (Go.Proofs.Tryz.f49.body).getD .skip
noncomputable def Zzv (r : (Int × Int)) : PV := (.tup [(wI r.1), (wI r.2)])
noncomputable def Zadb (r : (Int × Int)) : List (Nat × Blk) := []
noncomputable def Zamx : Zkh → Cfg
 | .L0 _ _ => (nav [1, 1, 0, 1, 4] Zahi []).getD (.done .normal)
noncomputable def Zaqh : Zkh → PW.St
 | .L0 v0 v4 => ⟨39, [(0, (wL Z8 v0)), (4, (wI v4))], []⟩
abbrev Zamy (r : (Int × Int)) (y : Zkh ⊕ (Int × Int)) : Prop := Ok PR [.t 2, .t 3] (Zadb) Zzv Zamx Zaqh r y
theorem Za1o (r : (Int × Int)) (v0 : (List Zu)) (v4 : Int) (y : Zkh ⊕ (Int × Int)) (h : Z2i v0 v4 = some y) (hk : Zamy r y) : (Zamx (.L0 v0 v4)).HH PR [.t 2, .t 3] Zadb Zzv r (Zaqh (.L0 v0 v4)) := have q := (q0.n (v0.length : Int)).b (Zt Z8 v0);
 Za h (fun h2 h => have q := (q.t 1 h2).b (Zs Z8 17 (fun _ => rfl) v0);
 Zb h fun x3 h4 h => have q := ((q.o [.cs (Z8 x3)]).b (Z2 h4)).b (Zz Z8 h4);
 Zb h fun x5 h6 h => have q := (q.k x5).b (Zbnk x3 h6);
 Za h (fun h7 h => lR h hk (q.t 1 h7)) (fun h7 h => have q := ((((q.f 1 h7).o [.cs (Z8 x3)]).b (Zs Z8 17 (fun _ => rfl) v0)).b (Z2 h4)).b (Zz Z8 h4);
 Zb h fun x8 h9 h => have q := (q.o [.call (wI x8)]).b (Zbiw v0 x3.Name h9);
 Za h (fun h10 h => lR h hk (q.t 1 h10)) (fun h10 h => have q := ((((q.f 1 h10).o [.cs (Z8 x3)]).b (Zs Z8 17 (fun _ => rfl) v0)).b (Z2 h4)).b (Zz Z8 h4);
 Zb h fun x11 h12 h => have q := (q.k x11).b (Za5m v0 x3 h12);
 Za h (fun h13 h => lR h hk (q.t 1 h13)) (fun h13 h => lG h hk ((q.f 1 h13).o [.pick [4, 0] [], .pick [0, 4] []]))))) (fun h2 h => lR h hk (q.f 1 h2))
theorem Za5n (r : (Int × Int)) (a0 : (List Zu)) (y : Zkh ⊕ (Int × Int)) (h : Zagm a0 = some y) (hk : Zamy r y) : (Cfg.code Zahi []).HH PR [.t 2, .t 3] Zadb Zzv r ⟨39, idx 0 [(wL Z8 a0)], []⟩ := have q := (q0.n (a0.length : Int)).b (Zt Z8 a0);
 Za h (fun h2 h => lR h hk (q.t 1 h2)) (fun h2 h => lG h hk ((q.f 1 h2).o [.pick [4, 0] [], .pick [0, 4] []]))
theorem Zben (a0 : (List Zu)) {r : (Int × Int)} (h : Zae0 a0 = some r) : Fn PR 49 [(wL Z8 a0)] (Zzv r) :=
 Zb h fun y h0 h1 => FnG.of_cfg hT Go.Proofs.Tryz.func49 (by kernel_rfl : _ = some Zahi) (by kernel_rfl) 39 (by kernel_rfl) (Nat.le_of_ble_eq_true rfl) [.t 2, .t 3] (by kernel_rfl) (by kernel_rfl) (Za5n r a0 y h0 (Z0 (fun s y h hk => match s with
 | .L0 v0 v4 => Za1o r v0 v4 y h hk) h1))
noncomputable def Zbeo : Code := (Go.Proofs.Tryz.f77.body).getD .skip
noncomputable def Zalk (r : Bool) : PV := (wB r)
noncomputable def Za7i (r : Bool) : List (Nat × Blk) := []
noncomputable def Zblh : Zte → Cfg := fun s => nomatch s
noncomputable def Zbnl : Zte → PW.St := fun s => nomatch s
abbrev Zbli (r : Bool) (y : Zte ⊕ Bool) : Prop := Ok PR [.t 6] (Za7i) Zalk Zblh Zbnl r y
theorem Zbix (r : Bool) (a0 : Int) (a1 : Int) (a2 : Int) (y : Zte ⊕ Bool) (h : Zawh a0 a1 a2 = some y) (hk : Zbli r y) : (Cfg.code Zbeo []).HH PR [.t 6] Za7i Zalk r ⟨15, idx 0 [(wI a0), (wI a1), (wI a2)], []⟩ :=
 Za h (fun h1 h => lR h hk (q0.t 4 h1)) (fun h1 h => lR h hk (q0.f 4 h1))
theorem Zj4 (a0 : Int) (a1 : Int) (a2 : Int) {r : Bool} (h : Znl a0 a1 a2 = some r) : Fn PR 77 [(wI a0), (wI a1), (wI a2)] (Zalk r) :=
 Zb h fun y h0 h1 => FnG.of_cfg hT Go.Proofs.Tryz.func77 (by kernel_rfl : _ = some Zbeo) (by kernel_rfl) 15 (by kernel_rfl) (Nat.le_of_ble_eq_true rfl) [.t 6] (by kernel_rfl) (by kernel_rfl) (Zbix r a0 a1 a2 y h0 (Z0 (fun s _ _ _ => nomatch s) h1))
noncomputable def Zahj : Code := (Go.Proofs.Tryz.f99.body).getD .skip
noncomputable def Zzw (r : Bool) : PV := (wB r)
noncomputable def Zadc (r : Bool) : List (Nat × Blk) := []
noncomputable def Zamz : Zki → Cfg
 | .L0 _ _ => (nav [1, 0, 1, 4] Zahj []).getD (.done .normal)
noncomputable def Zaqi : Zki → PW.St
 | .L0 E0 v3 => ⟨18, [(1, (.bptr 30000000 0)), (3, (wI v3))], [(30000000, .box [(wI E0.a0), (wI E0.a1), (wI E0.a2), (wI E0.a3), (wI E0.a4), (wI E0.a5)])]⟩
abbrev Zam0 (r : Bool) (y : Zki ⊕ Bool) : Prop := Ok PR [.t 2] (Zadc) Zzw Zamz Zaqi r y
theorem Za1p (r : Bool) (E0 : (A6 Int)) (v3 : Int) (y : Zki ⊕ Bool) (h : Z2j E0 v3 = some y) (hk : Zam0 r y) : (Zamz (.L0 E0 v3)).HH PR [.t 2] Zadc Zzw r (Zaqi (.L0 E0 v3)) :=
 Za h (fun h1 h => have q := (q0.t 1 h1).o [.nat (Int.toNat v3)];
 Zb h fun x2 h3 h => have q := ((((q.o [.cell 10 ((cI .i64) x2)]).b (Zub (Tree.int .i64) E0 h3).1).b (Zub (Tree.int .i64) E0 h3).2.1).b (Eq.refl (Int.toNat v3))).b (Zs9 [] [] (Zub (Tree.int .i64) E0 h3).2.2);
 Za h (fun h4 h => lR h hk (((q.tt 6).a 5 h4).b (Eq.refl true))) (fun h4 h => have q := ((q.f 2 h4).o [.nat (Int.toNat v3)]).ff 1;
 Zb h fun x5 h6 h => have q := (((((((q.o [.cell 15 ((cI .i64) x5)]).ff 2).b (Zub (Tree.int .i64) E0 h6).1).b (Zub (Tree.int .i64) E0 h6).2.1).b (Eq.refl (Int.toNat v3))).b h4).b (Zs9 [] [] (Zub (Tree.int .i64) E0 h6).2.2)).a 2 h4;
 Za h (fun h7 h => lR h hk (q.t 1 h7)) (fun h7 h => lG h hk ((q.f 1 h7).o [.pick [3, 1] [30000000], .pick [1, 3] [30000000]])))) (fun h1 h => lR h hk (q0.f 1 h1))
theorem Za5o (r : Bool) (a0 : (A6 Int)) (y : Zki ⊕ Bool) (h : Zagn a0 = some y) (hk : Zam0 r y) : (Cfg.code Zahj []).HH PR [.t 2] Zadc Zzw r ⟨18, idx 0 [(.agg (List.map .t ((cA6 (cI .i64)) a0)))], []⟩ :=
 lG h hk (q0.o [.lab 1001, .pick [3, 1] [1001], .relab 1001 30000000, .pick [1, 3] [30000000]])
theorem Zbep (a0 : (A6 Int)) {r : Bool} (h : Zae1 a0 = some r) : Fn PR 99 [(.agg (List.map .t ((cA6 (cI .i64)) a0)))] (Zzw r) :=
 Zb h fun y h0 h1 => FnG.of_cfg hT Go.Proofs.Tryz.func99 (by kernel_rfl : _ = some Zahj) (by kernel_rfl) 18 (by kernel_rfl) (Nat.le_of_ble_eq_true rfl) [.t 2] (by kernel_rfl) (by kernel_rfl) (Za5o r a0 y h0 (Z0 (fun s y h hk => match s with
 | .L0 E0 v3 => Za1p r E0 v3 y h hk) h1))
noncomputable def Zahk : Code := (Go.Proofs.Tryz.f156.body).getD .skip
noncomputable def Zzx (r : Int) : PV := (wI r)
noncomputable def Zadd (r : Int) : List (Nat × Blk) := []
noncomputable def Zam1 : Zkj → Cfg
 | .L0 _ _ _ => (nav [1, 0, 1, 4] Zahk []).getD (.done .normal)
noncomputable def Zaqj : Zkj → PW.St
 | .L0 v1 E0 v5 => ⟨22, [(1, (wI v1)), (2, (.bptr 30000000 0)), (5, (wI v5))], [(30000000, .box (bx (Z4 E0)))]⟩
abbrev Zam2 (r : Int) (y : Zkj ⊕ Int) : Prop := Ok PR [.t 4] (Zadd) Zzx Zam1 Zaqj r y
theorem Za1q (r : Int) (v1 : Int) (E0 : Zc) (v5 : Int) (y : Zkj ⊕ Int) (h : Zkk v1 E0 v5 = some y) (hk : Zam2 r y) : (Zam1 (.L0 v1 E0 v5)).HH PR [.t 4] Zadd Zzx r (Zaqj (.L0 v1 E0 v5)) := have q := (q0.n (E0.Objects.length : Int)).b (Zt Zd E0.Objects);
 Za h (fun h2 h => have q := (q.t 1 h2).b (Zs Zd 19 (fun _ => rfl) E0.Objects);
 Zb h fun x3 h4 h => have q := ((q.o [.cs (Zd x3)]).b (Z2 h4)).b (Zz Zd h4);
 Za h (fun h5 h => lR h hk (q.t 1 h5)) (fun h5 h => lG h hk ((q.f 1 h5).o [.pick [5, 1, 2] [30000000], .pick [1, 2, 5] [30000000]]))) (fun h2 h => lR h hk (q.f 1 h2))
theorem Za5p (r : Int) (a0 : Zc) (a1 : Int) (y : Zkj ⊕ Int) (h : Z6o a0 a1 = some y) (hk : Zam2 r y) : (Cfg.code Zahk []).HH PR [.t 4] Zadd Zzx r ⟨22, idx 0 [(.agg (bx (Z4 a0))), (wI a1)], []⟩ :=
 lG h hk (q0.o [.lab 1002, .pick [5, 2, 1] [1002], .relab 1002 30000000, .pick [1, 2, 5] [30000000]])
theorem Zbeq (a0 : Zc) (a1 : Int) {r : Int} (h : Z1o a0 a1 = some r) : Fn PR 156 [(.agg (bx (Z4 a0))), (wI a1)] (Zzx r) :=
 Zb h fun y h0 h1 => FnG.of_cfg hT Go.Proofs.Tryz.func156 (by kernel_rfl : _ = some Zahk) (by kernel_rfl) 22 (by kernel_rfl) (Nat.le_of_ble_eq_true rfl) [.t 4] (by kernel_rfl) (by kernel_rfl) (Za5p r a0 a1 y h0 (Z0 (fun s y h hk => match s with
 | .L0 v1 E0 v5 => Za1q r v1 E0 v5 y h hk) h1))
noncomputable def Za1r : Code := (Go.Proofs.Tryz.f140.body).getD .skip
noncomputable def Zade (r : (Zf × Bool)) : PV := (.tup [(.agg (bx (Zd r.1))), (wB r.2)])
noncomputable def Zavf (r : (Zf × Bool)) : List (Nat × Blk) := []
noncomputable def Zber : Zoo → Cfg := fun s => nomatch s
noncomputable def Zbiy : Zoo → PW.St := fun s => nomatch s
abbrev Zbes (r : (Zf × Bool)) (y : Zoo ⊕ (Zf × Bool)) : Prop := Ok PR [.c 4 44 true 19, .t 5] (Zavf) Zade Zber Zbiy r y
theorem Za95 (r : (Zf × Bool)) (a0 : Zc) (a1 : Int) (y : Zoo ⊕ (Zf × Bool)) (h : Z95 a0 a1 = some y) (hk : Zbes r y) : (Cfg.code Za1r []).HH PR [.c 4 44 true 19, .t 5] Zavf Zade r ⟨18, idx 0 [(.agg (bx (Z4 a0))), (wI a1)], []⟩ := have q := q0.o [.lab 1002, .lab 1004];
 Zb h fun x1 h2 h => have q := (q.o [.call (wI x1)]).b (Zbeq a0 a1 h2);
 Za h (fun h3 h => lR h hk (q.t 1 h3)) (fun h3 h => Zb h fun x4 h5 h => lR h hk (((((q.f 1 h3).o [.cs (Zd x4)]).b (Zs Zd 19 (fun _ => rfl) a0.Objects)).b (Z2 h5)).b (Zz Zd h5)))
theorem Zbiz (a0 : Zc) (a1 : Int) {r : (Zf × Bool)} (h : Zabk a0 a1 = some r) : Fn PR 140 [(.agg (bx (Z4 a0))), (wI a1)] (Zade r) :=
 Zb h fun y h0 h1 => FnG.of_cfg hT Go.Proofs.Tryz.func140 (by kernel_rfl : _ = some Za1r) (by kernel_rfl) 18 (by kernel_rfl) (Nat.le_of_ble_eq_true rfl) [.c 4 44 true 19, .t 5] (by kernel_rfl) (by kernel_rfl) (Za95 r a0 a1 y h0 (Z0 (fun s _ _ _ => nomatch s) h1))
noncomputable def Zaqk : Code := (Go.Proofs.Tryz.f117.body).getD .skip
noncomputable def Z5q (r : (Zf × Bool)) : PV := (.tup [(.agg (bx (Zd r.1))), (wB r.2)])
noncomputable def Zam3 (r : (Zf × Bool)) : List (Nat × Blk) := []
noncomputable def Za5q : Zlq → Cfg := fun s => nomatch s
noncomputable def Za96 : Zlq → PW.St := fun s => nomatch s
abbrev Za5r (r : (Zf × Bool)) (y : Zlq ⊕ (Zf × Bool)) : Prop := Ok PR [.c 4 44 true 19, .t 5] (Zam3) Z5q Za5q Za96 r y
theorem Za1s (r : (Zf × Bool)) (a0 : Zc) (a1 : Int) (y : Zlq ⊕ (Zf × Bool)) (h : Z2k a0 a1 = some y) (hk : Za5r r y) : (Cfg.code Zaqk []).HH PR [.c 4 44 true 19, .t 5] Zam3 Z5q r ⟨11, idx 0 [(.agg (bx (Z4 a0))), (wI a1)], []⟩ :=
 Zb h fun x1 h2 h => lR h hk ((q0.o [.lab 1002, .lab 1004, .call (.tup [(.agg (bx (Zd x1.1))), (wB x1.2)])]).b (Zbiz a0 a1 h2))
theorem Zam4 (a0 : Zc) (a1 : Int) {r : (Zf × Bool)} (h : Ztf a0 a1 = some r) : Fn PR 117 [(.agg (bx (Z4 a0))), (wI a1)] (Z5q r) :=
 Zb h fun y h0 h1 => FnG.of_cfg hT Go.Proofs.Tryz.func117 (by kernel_rfl : _ = some Zaqk) (by kernel_rfl) 11 (by kernel_rfl) (Nat.le_of_ble_eq_true rfl) [.c 4 44 true 19, .t 5] (by kernel_rfl) (by kernel_rfl) (Za1s r a0 a1 y h0 (Z0 (fun s _ _ _ => nomatch s) h1))
noncomputable def Zahl : Code := (Go.Proofs.Tryz.f118.body).getD .skip
noncomputable def Zzy (r : Int) : PV := (wI r)
noncomputable def Zadf (r : Int) : List (Nat × Blk) := []
noncomputable def Zam5 : Zkl → Cfg
 | .L0 _ _ _ _ => (nav [1, 1, 0, 1, 4] Zahl []).getD (.done .normal)
noncomputable def Zaql : Zkl → PW.St
 | .L0 v0 v1 v5 v6 => ⟨22, [(0, (wL (cI .i64) v0)), (1, (wI v1)), (5, (wI v5)), (6, (wI v6))], []⟩
abbrev Zam6 (r : Int) (y : Zkl ⊕ Int) : Prop := Ok PR [.t 4] (Zadf) Zzy Zam5 Zaql r y
theorem Za1t (r : Int) (v0 : (List Int)) (v1 : Int) (v5 : Int) (v6 : Int) (y : Zkl ⊕ Int) (h : Zrn v0 v1 v5 v6 = some y) (hk : Zam6 r y) : (Zam5 (.L0 v0 v1 v5 v6)).HH PR [.t 4] Zadf Zzy r (Zaql (.L0 v0 v1 v5 v6)) := have q := (q0.n (v0.length : Int)).b (Zt (cI .i64) v0);
 Za h (fun h2 h => have q := (q.t 1 h2).b (Zs (cI .i64) 1 (fun _ => rfl) v0);
 Zb h fun x3 h4 h => have q := ((q.o [.cs ((cI .i64) x3)]).b (Z2 h4)).b (Zz (cI .i64) h4);
 Za h (fun h5 h => lG h hk ((q.t 1 h5).o [.pick [6, 5, 0, 1] [], .pick [0, 1, 5, 6] []])) (fun h5 h => lG h hk ((q.f 1 h5).o [.pick [6, 0, 1, 5] [], .pick [0, 1, 5, 6] []]))) (fun h2 h => lR h hk (q.f 1 h2))
theorem Za5s (r : Int) (a0 : (List Int)) (a1 : Int) (y : Zkl ⊕ Int) (h : Z6p a0 a1 = some y) (hk : Zam6 r y) : (Cfg.code Zahl []).HH PR [.t 4] Zadf Zzy r ⟨22, idx 0 [(wL (cI .i64) a0), (wI a1)], []⟩ :=
 lG h hk (q0.o [.pick [6, 5, 1, 0] [], .pick [0, 1, 5, 6] []])
theorem Zadg (a0 : (List Int)) (a1 : Int) {r : Int} (h : Zqb a0 a1 = some r) : Fn PR 118 [(wL (cI .i64) a0), (wI a1)] (Zzy r) :=
 Zb h fun y h0 h1 => FnG.of_cfg hT Go.Proofs.Tryz.func118 (by kernel_rfl : _ = some Zahl) (by kernel_rfl) 22 (by kernel_rfl) (Nat.le_of_ble_eq_true rfl) [.t 4] (by kernel_rfl) (by kernel_rfl) (Za5s r a0 a1 y h0 (Z0 (fun s y h hk => match s with
 | .L0 v0 v1 v5 v6 => Za1t r v0 v1 v5 v6 y h hk) h1))
noncomputable def Zall : Code := (Go.Proofs.Tryz.f100.body).getD .skip
noncomputable def Z3p (r : Bool) : PV := (wB r)
noncomputable def Zahm (r : Bool) : List (Nat × Blk) := []
noncomputable def Zaqm : Zjp → Cfg
 | .L0 _ _ _ _ _ => (nav [1, 0, 1, 4] Zall []).getD (.done .normal)
noncomputable def Zavg : Zjp → PW.St
 | .L0 v1 v2 v3 E0 v9 => ⟨54, [(1, (wL (cI .i64) v1)), (2, (wI v2)), (3, (wI v3)), (4, (.bptr 30000000 0)), (9, (wI v9))], [(30000000, .box (bx (Z4 E0)))]⟩
abbrev Zaqn (r : Bool) (y : Zjp ⊕ Bool) : Prop := Ok PR [.t 8] (Zahm) Z3p Zaqm Zavg r y
theorem Za5t (r : Bool) (v1 : (List Int)) (v2 : Int) (v3 : Int) (E0 : Zc) (v9 : Int) (y : Zjp ⊕ Bool) (h : Zuy v1 v2 v3 E0 v9 = some y) (hk : Zaqn r y) : (Zaqm (.L0 v1 v2 v3 E0 v9)).HH PR [.t 8] Zahm Z3p r (Zavg (.L0 v1 v2 v3 E0 v9)) := have q := (q0.n (v1.length : Int)).b (Zt (cI .i64) v1);
 Za h (fun h2 h => have q := (q.t 1 h2).b (Zs (cI .i64) 1 (fun _ => rfl) v1);
 Zb h fun x3 h4 h => have q := ((q.o [.cs ((cI .i64) x3)]).b (Z2 h4)).b (Zz (cI .i64) h4);
 Zb h fun x5 h6 h => have q := (q.o [.call (.tup [(.agg (bx (Zd x5.1))), (wB x5.2)]), .lab 1010]).b (Zam4 E0 x3 h6);
 Za h (fun h7 h => lR h hk (((q.tt 19).a 5 h7).a 14 (Eq.refl true))) (fun h7 h => have q := q.f 5 h7;
 Za h (fun h8 h => lR h hk (((q.tt 14).a 5 h8).a 9 (Eq.refl true))) (fun h8 h => have q := q.f 3 h8;
 Za h (fun h9 h => have q := (((q.t 4 h9).f 1 h8).t 1 h9).f 1 h8;
 Za h (fun h10 h => lR h hk (((q.tt 9).a 8 h10).b (Eq.refl true))) (fun h10 h => have q := ((((((q.f 4 h10).o [.cs ((cI .i64) x3)]).ff 2).b (Zs (cI .i64) 1 (fun _ => rfl) v1)).b (Z2 h4)).b (Zz (cI .i64) h4)).a 2 h10;
 Zb h fun x11 h12 h => have q := (((q.o [.call (wI x11)]).ff 2).b (Zadg v1 x3 h12)).a 2 h10;
 Za h (fun h13 h => lR h hk (q.t 1 h13)) (fun h13 h => lG h hk ((q.f 1 h13).o [.pick [9, 1, 2, 3, 4] [30000000], .pick [1, 2, 3, 4, 9] [30000000]])))) (fun h9 h => have q := (((((((((((q.ff 11).o [.cs ((cI .i64) x3)]).ff 2).a 4 h9).b h8).b h9).b h8).a 4 (Eq.refl false)).b (Zs (cI .i64) 1 (fun _ => rfl) v1)).b (Z2 h4)).b (Zz (cI .i64) h4)).a 2 (Eq.refl false);
 Zb h fun x16 h17 h => have q := (((q.o [.call (wI x16)]).ff 2).b (Zadg v1 x3 h17)).a 2 (Eq.refl false);
 Za h (fun h18 h => lR h hk (q.t 1 h18)) (fun h18 h => lG h hk ((q.f 1 h18).o [.pick [9, 1, 2, 3, 4] [30000000], .pick [1, 2, 3, 4, 9] [30000000]])))))) (fun h2 h => lR h hk (q.f 1 h2))
theorem Za97 (r : Bool) (a0 : Zc) (a1 : (List Int)) (a2 : Int) (a3 : Int) (y : Zjp ⊕ Bool) (h : Z96 a0 a1 a2 a3 = some y) (hk : Zaqn r y) : (Cfg.code Zall []).HH PR [.t 8] Zahm Z3p r ⟨54, idx 0 [(.agg (bx (Z4 a0))), (wL (cI .i64) a1), (wI a2), (wI a3)], []⟩ :=
 lG h hk (q0.o [.lab 1004, .pick [9, 4, 3, 2, 1] [1004], .relab 1004 30000000, .pick [1, 2, 3, 4, 9] [30000000]])
theorem Zy5 (a0 : Zc) (a1 : (List Int)) (a2 : Int) (a3 : Int) {r : Bool} (h : Zii a0 a1 a2 a3 = some r) : Fn PR 100 [(.agg (bx (Z4 a0))), (wL (cI .i64) a1), (wI a2), (wI a3)] (Z3p r) :=
 Zb h fun y h0 h1 => FnG.of_cfg hT Go.Proofs.Tryz.func100 (by kernel_rfl : _ = some Zall) (by kernel_rfl) 54 (by kernel_rfl) (Nat.le_of_ble_eq_true rfl) [.t 8] (by kernel_rfl) (by kernel_rfl) (Za97 r a0 a1 a2 a3 y h0 (Z0 (fun s y h hk => match s with
 | .L0 v1 v2 v3 E0 v9 => Za5t r v1 v2 v3 E0 v9 y h hk) h1))
noncomputable def Z8l : Code := (Go.Proofs.Tryz.f78.body).getD .skip
noncomputable def Zvr (r : Bool) : PV := (wB r)
noncomputable def Z5r (r : Bool) : List (Nat × Blk) := []
noncomputable def Zafr : Zhx → Cfg
 | .L0 _ _ => (nav [1, 1, 0, 1, 4] Z8l []).getD (.done .normal)
noncomputable def Zaiw : Zhx → PW.St
 | .L0 E0 v3 => ⟨76, [(1, (.bptr 30000000 0)), (3, (wI v3))], [(30000000, .box (bx (Z4 E0)))]⟩
abbrev Zafs (r : Bool) (y : Zhx ⊕ Bool) : Prop := Ok PR [.t 2] (Z5r) Zvr Zafr Zaiw r y
theorem Zatj (r : Bool) (E0 : Zc) (v3 : Int) (y : Zhx ⊕ Bool) (h : Zo8 E0 v3 = some y) (hk : Zafs r y) : (Zafr (.L0 E0 v3)).HH PR [.t 2] Z5r Zvr r (Zaiw (.L0 E0 v3)) := have q := (q0.n (E0.Players.length : Int)).b (Zt Zh E0.Players);
 Za h (fun h2 h => have q := (q.t 1 h2).b (Zs Zh 14 (fun _ => rfl) E0.Players);
 Zb h fun x3 h4 h => have q := ((q.o [.cs (Zh x3), .lab 1004]).b (Z2 h4)).b (Zz Zh h4);
 Zb h fun x5 h6 h => have q := (q.k x5).b (Zj4 x3.Life (-1000000) 1000000 h6);
 Za h (fun h7 h => lR h hk (((q.tt 16).a 5 h7).a 11 (Eq.refl true))) (fun h7 h => have q := q.f 3 h7;
 Zb h fun x8 h9 h => have q := (((q.k x8).ff 2).b (Zj4 x3.Venom 0 1000000 h9)).a 2 h7;
 Za h (fun h10 h => lR h hk (((q.tt 11).a 5 h10).a 6 (Eq.refl true))) (fun h10 h => have q := q.f 3 h10;
 Zb h fun x11 h12 h => have q := (((q.k x11).ff 2).b (Zj4 x3.Lands 0 1000000 h12)).a 2 h10;
 Za h (fun h13 h => lR h hk (((q.tt 6).a 5 h13).b (Eq.refl true))) (fun h13 h => have q := q.f 3 h13;
 Zb h fun x14 h15 h => have q := (((q.k x14).ff 2).b (Zbep x3.Pool h15)).a 2 h13;
 Za h (fun h16 h => lR h hk (q.t 1 h16)) (fun h16 h => have q := q.f 1 h16;
 Zb h fun x17 h18 h => have q := (q.k x17).b (Zy5 E0 x3.Library 2 v3 h18);
 Za h (fun h19 h => lR h hk (((q.tt 15).a 7 h19).a 8 (Eq.refl true))) (fun h19 h => have q := q.f 5 h19;
 Zb h fun x20 h21 h => have q := (((q.k x20).ff 2).b (Zy5 E0 x3.Hand 1 v3 h21)).a 2 h19;
 Za h (fun h22 h => lR h hk (((q.tt 8).a 7 h22).b (Eq.refl true))) (fun h22 h => have q := q.f 5 h22;
 Zb h fun x23 h24 h => have q := (((q.k x23).ff 2).b (Zy5 E0 x3.Graveyard 3 v3 h24)).a 2 h22;
 Za h (fun h25 h => lR h hk (q.t 1 h25)) (fun h25 h => lG h hk ((q.f 1 h25).o [.pick [3, 1] [30000000], .pick [1, 3] [30000000]]))))))))) (fun h2 h => have q := q.f 1 h2;
 Zb h fun x28 h29 h => have q := (q.k x28).b (Zy5 E0 E0.Battlefield 0 (-1) h29);
 Za h (fun h30 h => Zb h fun x31 h32 h => lR h hk ((((q.t 4 h30).k x31).t 1 (Zy5 E0 E0.Exile 4 (-1) h32)).b h30)) (fun h30 h => lR h hk (q.f 5 h30)))
theorem Zaxj (r : Bool) (a0 : Zc) (y : Zhx ⊕ Bool) (h : Zzk a0 = some y) (hk : Zafs r y) : (Cfg.code Z8l []).HH PR [.t 2] Z5r Zvr r ⟨76, idx 0 [(.agg (bx (Z4 a0)))], []⟩ := have q := (q0.o [.lab 1001, .num (a0.Players.length : Int)]).b (Zt Zh a0.Players);
 Zb h fun x2 h3 h => have q := (q.k x2).b (Zj4 (a0.Players.length : Int) 2 4 h3);
 Za h (fun h4 h => lR h hk (q.t 1 h4)) (fun h4 h => lG h hk ((q.f 1 h4).o [.pick [3, 1] [1001], .relab 1001 30000000, .pick [1, 3] [30000000]]))
theorem Za5u (a0 : Zc) {r : Bool} (h : Zqp a0 = some r) : Fn PR 78 [(.agg (bx (Z4 a0)))] (Zvr r) :=
 Zb h fun y h0 h1 => FnG.of_cfg hT Go.Proofs.Tryz.func78 (by kernel_rfl : _ = some Z8l) (by kernel_rfl) 76 (by kernel_rfl) (Nat.le_of_ble_eq_true rfl) [.t 2] (by kernel_rfl) (by kernel_rfl) (Zaxj r a0 y h0 (Z0 (fun s y h hk => match s with
 | .L0 E0 v3 => Zatj r E0 v3 y h hk) h1))
noncomputable def Zaqo : Code := (Go.Proofs.Tryz.f79.body).getD .skip
noncomputable def Z5s (r : Bool) : PV := (wB r)
noncomputable def Zam7 (r : Bool) : List (Nat × Blk) := []
noncomputable def Za5v : Zlr → Cfg := fun s => nomatch s
noncomputable def Za98 : Zlr → PW.St := fun s => nomatch s
abbrev Za5w (r : Bool) (y : Zlr ⊕ Bool) : Prop := Ok PR [.t 4] (Zam7) Z5s Za5v Za98 r y
theorem Za1u (r : Bool) (a0 : Zc) (a1 : Int) (y : Zlr ⊕ Bool) (h : Zabm a0 a1 = some y) (hk : Za5w r y) : (Cfg.code Zaqo []).HH PR [.t 4] Zam7 Z5s r ⟨11, idx 0 [(.agg (bx (Z4 a0))), (wI a1)], []⟩ :=
 Zb h fun x4 h5 h => lR h hk (((q0.o [.lab 1002, .num (a0.Players.length : Int), .call (wB x4)]).b (Zt Zh a0.Players)).b (Zj4 a1 0 (IntKind.wrap .i64 ((a0.Players.length : Int) - 1)) h5))
theorem Zn3 (a0 : Zc) (a1 : Int) {r : Bool} (h : Zna a0 a1 = some r) : Fn PR 79 [(.agg (bx (Z4 a0))), (wI a1)] (Z5s r) :=
 Zb h fun y h0 h1 => FnG.of_cfg hT Go.Proofs.Tryz.func79 (by kernel_rfl : _ = some Zaqo) (by kernel_rfl) 11 (by kernel_rfl) (Nat.le_of_ble_eq_true rfl) [.t 4] (by kernel_rfl) (by kernel_rfl) (Za1u r a0 a1 y h0 (Z0 (fun s _ _ _ => nomatch s) h1))
noncomputable def Zaxk : Code := (Go.Proofs.Tryz.f119.body).getD .skip
noncomputable def Zaak (r : Bool) : PV := (wB r)
noncomputable def Zaqp (r : Bool) : List (Nat × Blk) := []
noncomputable def Za1v : Zph → Cfg
 | .L0 _ _ => (nav [1, 0, 1, 4] Zaxk []).getD (.done .normal)
noncomputable def Za7j : Zph → PW.St
 | .L0 E0 v3 => ⟨18, [(1, (.bptr 30000000 0)), (3, (wI v3))], [(30000000, .box [(wI E0.a0), (wI E0.a1), (wI E0.a2)])]⟩
abbrev Za1w (r : Bool) (y : Zph ⊕ Bool) : Prop := Ok PR [.t 2] (Zaqp) Zaak Za1v Za7j r y
theorem Zbet (r : Bool) (E0 : (A3 Int)) (v3 : Int) (y : Zph ⊕ Bool) (h : Zae2 E0 v3 = some y) (hk : Za1w r y) : (Za1v (.L0 E0 v3)).HH PR [.t 2] Zaqp Zaak r (Za7j (.L0 E0 v3)) :=
 Za h (fun h1 h => have q := (q0.t 1 h1).o [.nat (Int.toNat v3)];
 Zb h fun x2 h3 h => have q := ((((q.o [.cell 10 ((cI .i64) x2)]).b (Zaia (Tree.int .i64) E0 h3).1).b (Zaia (Tree.int .i64) E0 h3).2.1).b (Eq.refl (Int.toNat v3))).b (Zs9 [] [] (Zaia (Tree.int .i64) E0 h3).2.2);
 Za h (fun h4 h => lR h hk (((q.tt 6).a 5 h4).b (Eq.refl true))) (fun h4 h => have q := ((q.f 2 h4).o [.nat (Int.toNat v3)]).ff 1;
 Zb h fun x5 h6 h => have q := (((((((q.o [.cell 15 ((cI .i64) x5)]).ff 2).b (Zaia (Tree.int .i64) E0 h6).1).b (Zaia (Tree.int .i64) E0 h6).2.1).b (Eq.refl (Int.toNat v3))).b h4).b (Zs9 [] [] (Zaia (Tree.int .i64) E0 h6).2.2)).a 2 h4;
 Za h (fun h7 h => lR h hk (q.t 1 h7)) (fun h7 h => lG h hk ((q.f 1 h7).o [.pick [3, 1] [30000000], .pick [1, 3] [30000000]])))) (fun h1 h => lR h hk (q0.f 1 h1))
theorem Zbi0 (r : Bool) (a0 : (A3 Int)) (y : Zph ⊕ Bool) (h : Zawi a0 = some y) (hk : Za1w r y) : (Cfg.code Zaxk []).HH PR [.t 2] Zaqp Zaak r ⟨18, idx 0 [(.agg (List.map .t ((cA3 (cI .i64)) a0)))], []⟩ :=
 lG h hk (q0.o [.lab 1001, .pick [3, 1] [1001], .relab 1001 30000000, .pick [1, 3] [30000000]])
theorem Zbnm (a0 : (A3 Int)) {r : Bool} (h : Zaz4 a0 = some r) : Fn PR 119 [(.agg (List.map .t ((cA3 (cI .i64)) a0)))] (Zaak r) :=
 Zb h fun y h0 h1 => FnG.of_cfg hT Go.Proofs.Tryz.func119 (by kernel_rfl : _ = some Zaxk) (by kernel_rfl) 18 (by kernel_rfl) (Nat.le_of_ble_eq_true rfl) [.t 2] (by kernel_rfl) (by kernel_rfl) (Zbi0 r a0 y h0 (Z0 (fun s y h hk => match s with
 | .L0 E0 v3 => Zbet r E0 v3 y h hk) h1))
noncomputable def Za1x : Code := (Go.Proofs.Tryz.f120.body).getD .skip
noncomputable def Zadh (r : Zf) : PV := (.agg (bx (Zd r)))
noncomputable def Zavh (r : Zf) : List (Nat × Blk) := []
noncomputable def Zbeu : Zop → Cfg := fun s => nomatch s
noncomputable def Zbi1 : Zop → PW.St := fun s => nomatch s
abbrev Zbev (r : Zf) (y : Zop ⊕ Zf) : Prop := Ok PR [.c 2 44 true 19] (Zavh) Zadh Zbeu Zbi1 r y
theorem Za99 (r : Zf) (a0 : Zf) (y : Zop ⊕ Zf) (h : Zakj a0 = some y) (hk : Zbev r y) : (Cfg.code Za1x []).HH PR [.c 2 44 true 19] Zavh Zadh r ⟨7, idx 0 [(.agg (bx (Zd a0)))], []⟩ :=
 lR h hk (q0.o [.lab 1001, .lab 1002])
theorem Zbi2 (a0 : Zf) {r : Zf} (h : Zakk a0 = some r) : Fn PR 120 [(.agg (bx (Zd a0)))] (Zadh r) :=
 Zb h fun y h0 h1 => FnG.of_cfg hT Go.Proofs.Tryz.func120 (by kernel_rfl : _ = some Za1x) (by kernel_rfl) 7 (by kernel_rfl) (Nat.le_of_ble_eq_true rfl) [.c 2 44 true 19] (by kernel_rfl) (by kernel_rfl) (Za99 r a0 y h0 (Z0 (fun s _ _ _ => nomatch s) h1))
noncomputable def Zavi : Code := (Go.Proofs.Tryz.f121.body).getD .skip
noncomputable def Z8m (r : Zf) : PV := (.agg (bx (Zd r)))
noncomputable def Zaqq (r : Zf) : List (Nat × Blk) := []
noncomputable def Zbaa : Znb → Cfg := fun s => nomatch s
noncomputable def Zbew : Znb → PW.St := fun s => nomatch s
abbrev Zbab (r : Zf) (y : Znb ⊕ Zf) : Prop := Ok PR [.c 2 44 true 19] (Zaqq) Z8m Zbaa Zbew r y
theorem Za5x (r : Zf) (a0 : Zf) (y : Znb ⊕ Zf) (h : Zago a0 = some y) (hk : Zbab r y) : (Cfg.code Zavi []).HH PR [.c 2 44 true 19] Zaqq Z8m r ⟨7, idx 0 [(.agg (bx (Zd a0)))], []⟩ :=
 lR h hk (q0.o [.lab 1001, .lab 1002])
theorem Zbex (a0 : Zf) {r : Zf} (h : Zae3 a0 = some r) : Fn PR 121 [(.agg (bx (Zd a0)))] (Z8m r) :=
 Zb h fun y h0 h1 => FnG.of_cfg hT Go.Proofs.Tryz.func121 (by kernel_rfl : _ = some Zavi) (by kernel_rfl) 7 (by kernel_rfl) (Nat.le_of_ble_eq_true rfl) [.c 2 44 true 19] (by kernel_rfl) (by kernel_rfl) (Za5x r a0 y h0 (Z0 (fun s _ _ _ => nomatch s) h1))
noncomputable def Zbey : Code := (Go.Proofs.Tryz.f101.body).getD .skip
noncomputable def Zalm (r : Bool) : PV := (wB r)
noncomputable def Za7k (r : Bool) : List (Nat × Blk) := []
noncomputable def Zblj : Ztg → Cfg := fun s => nomatch s
noncomputable def Zbnn : Ztg → PW.St := fun s => nomatch s
abbrev Zblk (r : Bool) (y : Ztg ⊕ Bool) : Prop := Ok PR [.t 6] (Za7k) Zalm Zblj Zbnn r y
theorem Zbi3 (r : Bool) (a0 : Zf) (a1 : Int) (a2 : Int) (y : Ztg ⊕ Bool) (h : Zawj a0 a1 a2 = some y) (hk : Zblk r y) : (Cfg.code Zbey []).HH PR [.t 6] Za7k Zalm r ⟨148, idx 0 [(.agg (bx (Zd a0))), (wI a1), (wI a2)], []⟩ := have q := q0.o [.lab 1003];
 Za h (fun h1 h => lR h hk (((q.tt 36).a 4 h1).a 32 (Eq.refl true))) (fun h1 h => have q := q.f 4 h1;
 Za h (fun h2 h => lR h hk (((q.tt 32).a 5 h2).a 27 (Eq.refl true))) (fun h2 h => have q := q.f 5 h2;
 Za h (fun h3 h => lR h hk (((q.tt 27).a 4 h3).a 23 (Eq.refl true))) (fun h3 h => have q := q.f 4 h3;
 Za h (fun h4 h => lR h hk (((q.tt 23).a 5 h4).a 18 (Eq.refl true))) (fun h4 h => have q := q.f 5 h4;
 Za h (fun h5 h => lR h hk (((q.tt 18).a 4 h5).a 14 (Eq.refl true))) (fun h5 h => have q := q.f 4 h5;
 Za h (fun h6 h => lR h hk (((q.tt 14).a 5 h6).a 9 (Eq.refl true))) (fun h6 h => have q := q.f 5 h6;
 Za h (fun h7 h => lR h hk (((q.tt 9).a 4 h7).a 5 (Eq.refl true))) (fun h7 h => have q := q.f 4 h7;
 Za h (fun h8 h => lR h hk (((q.tt 5).a 4 h8).b (Eq.refl true))) (fun h8 h => have q := q.f 4 h8;
 Za h (fun h9 h => lR h hk (q.t 1 h9)) (fun h9 h => have q := q.f 1 h9;
 Za h (fun h10 h => lR h hk (((q.tt 29).a 4 h10).a 25 (Eq.refl true))) (fun h10 h => have q := q.f 4 h10;
 Za h (fun h11 h => lR h hk (((q.tt 25).a 4 h11).a 21 (Eq.refl true))) (fun h11 h => have q := q.f 4 h11;
 Za h (fun h12 h => lR h hk (((q.tt 21).a 4 h12).a 17 (Eq.refl true))) (fun h12 h => have q := q.f 4 h12;
 Za h (fun h13 h => lR h hk (((q.tt 17).a 4 h13).a 13 (Eq.refl true))) (fun h13 h => have q := q.f 4 h13;
 Za h (fun h14 h => lR h hk (((q.tt 13).a 4 h14).a 9 (Eq.refl true))) (fun h14 h => have q := q.f 4 h14;
 Za h (fun h15 h => lR h hk (((q.tt 9).a 4 h15).a 5 (Eq.refl true))) (fun h15 h => have q := q.f 4 h15;
 Za h (fun h16 h => lR h hk (((q.tt 5).a 4 h16).b (Eq.refl true))) (fun h16 h => have q := q.f 4 h16;
 Za h (fun h17 h => lR h hk (q.t 1 h17)) (fun h17 h => have q := q.f 1 h17;
 Zb h fun x18 h19 h => have q := (q.k x18).b (Zbnm a0.Counters h19);
 Za h (fun h20 h => lR h hk (((q.tt 19).a 4 h20).a 15 (Eq.refl true))) (fun h20 h => have q := q.f 4 h20;
 Za h (fun h21 h => lR h hk (((q.tt 15).a 5 h21).a 10 (Eq.refl true))) (fun h21 h => have q := q.f 5 h21;
 Za h (fun h22 h => lR h hk (((q.tt 10).a 4 h22).a 6 (Eq.refl true))) (fun h22 h => have q := q.f 4 h22;
 Za h (fun h23 h => lR h hk (((q.tt 6).a 5 h23).b (Eq.refl true))) (fun h23 h => have q := q.f 5 h23;
 Za h (fun h24 h => lR h hk (q.t 1 h24)) (fun h24 h => have q := q.f 1 h24;
 Za h (fun h25 h => lR h hk (q.t 13 h25)) (fun h25 h => have q := q.f 3 h25;
 Zb h fun x26 h27 h => have q := (((q.o [.call (.agg (bx (Zd x26)))]).ff 2).b (Zbi2 a0 h27)).a 2 h25;
 Za h (fun h28 h => have q := q.t 3 h28;
 Zb h fun x29 h30 h => have q := (((((q.o [.call (.agg (bx (Zd x29)))]).t 1 (Zbex a0 h30)).f 1 h28).t 1 h25).f 1 h28).b h25;
 Za h (fun h31 h => have q := (((q.t 3 h31).f 1 h25).t 1 h31).f 1 h25;
 Za h (fun h32 h => have q := (((q.t 3 h32).f 1 h25).t 1 h32).f 1 h25;
 Za h (fun h33 h => lR h hk ((((q.t 4 h33).f 1 h25).t 1 h33).f 1 h25)) (fun h33 h => lR h hk (((((q.ff 7).a 4 h33).b h25).b h33).b h25))) (fun h32 h => lR h hk (((((((((q.ff 13).a 3 h32).b h25).b h32).b h25).a 4 (Eq.refl false)).b h25).b (Eq.refl false)).b h25))) (fun h31 h => lR h hk (((((((((((((q.ff 19).a 3 h31).b h25).b h31).b h25).a 3 (Eq.refl false)).b h25).b (Eq.refl false)).b h25).a 4 (Eq.refl false)).b h25).b (Eq.refl false)).b h25))) (fun h28 h => lR h hk (((((((((((((((((q.ff 26).a 4 h28).b h25).b h28).b h25).a 3 (Eq.refl false)).b h25).b (Eq.refl false)).b h25).a 3 (Eq.refl false)).b h25).b (Eq.refl false)).b h25).a 4 (Eq.refl false)).b h25).b (Eq.refl false)).b h25)))))))))))))))))))))))))
theorem Zbno (a0 : Zf) (a1 : Int) (a2 : Int) {r : Bool} (h : Zaz5 a0 a1 a2 = some r) : Fn PR 101 [(.agg (bx (Zd a0))), (wI a1), (wI a2)] (Zalm r) :=
 Zb h fun y h0 h1 => FnG.of_cfg hT Go.Proofs.Tryz.func101 (by kernel_rfl : _ = some Zbey) (by kernel_rfl) 148 (by kernel_rfl) (Nat.le_of_ble_eq_true rfl) [.t 6] (by kernel_rfl) (by kernel_rfl) (Zbi3 r a0 a1 a2 y h0 (Z0 (fun s _ _ _ => nomatch s) h1))
noncomputable def Zadi : Code := (Go.Proofs.Tryz.f122.body).getD .skip
noncomputable def Zyc (r : Int) : PV := (wI r)
noncomputable def Z8n (r : Int) : List (Nat × Blk) := []
noncomputable def Zaix : Zi6 → Cfg
 | .L0 _ _ _ _ => (nav [1, 1, 0, 1, 4] Zadi []).getD (.done .normal)
noncomputable def Zam8 : Zi6 → PW.St
 | .L0 v1 E0 v5 v6 => ⟨34, [(1, (wI v1)), (2, (.bptr 30000000 0)), (5, (wI v5)), (6, (wI v6))], [(30000000, .box (bx (Z4 E0)))]⟩
abbrev Zaiy (r : Int) (y : Zi6 ⊕ Int) : Prop := Ok PR [.t 4] (Z8n) Zyc Zaix Zam8 r y
theorem Zaxl (r : Int) (v1 : Int) (E0 : Zc) (v5 : Int) (v6 : Int) (y : Zi6 ⊕ Int) (h : Zzl v1 E0 v5 v6 = some y) (hk : Zaiy r y) : (Zaix (.L0 v1 E0 v5 v6)).HH PR [.t 4] Z8n Zyc r (Zam8 (.L0 v1 E0 v5 v6)) := have q := (q0.n (E0.Stack.length : Int)).b (Zt Zl E0.Stack);
 Za h (fun h2 h => have q := (q.t 1 h2).b (Zs Zl 94 (fun _ => rfl) E0.Stack);
 Zb h fun x3 h4 h => have q := ((q.o [.cs (Zl x3)]).b (Z2 h4)).b (Zz Zl h4);
 Za h (fun h5 h => have q := ((((((q.t 4 h5).o [.cs (Zl x3)]).tt 5).b (Zs Zl 94 (fun _ => rfl) E0.Stack)).b (Z2 h4)).b (Zz Zl h4)).a 5 h5;
 Za h (fun h6 h => lG h hk ((q.t 1 h6).o [.pick [6, 5, 1, 2] [30000000], .pick [1, 2, 5, 6] [30000000]])) (fun h6 h => lG h hk ((q.f 1 h6).o [.pick [6, 1, 2, 5] [30000000], .pick [1, 2, 5, 6] [30000000]]))) (fun h5 h => lG h hk ((((q.ff 10).o [.pick [6, 1, 2, 5] [30000000], .pick [1, 2, 5, 6] [30000000]]).a 9 h5).b (Eq.refl false)))) (fun h2 h => lR h hk (q.f 1 h2))
theorem Za1y (r : Int) (a0 : Zc) (a1 : Int) (y : Zi6 ⊕ Int) (h : Zabn a0 a1 = some y) (hk : Zaiy r y) : (Cfg.code Zadi []).HH PR [.t 4] Z8n Zyc r ⟨34, idx 0 [(.agg (bx (Z4 a0))), (wI a1)], []⟩ :=
 lG h hk (q0.o [.lab 1002, .pick [6, 5, 2, 1] [1002], .relab 1002 30000000, .pick [1, 2, 5, 6] [30000000]])
theorem Zbac (a0 : Zc) (a1 : Int) {r : Int} (h : Z97 a0 a1 = some r) : Fn PR 122 [(.agg (bx (Z4 a0))), (wI a1)] (Zyc r) :=
 Zb h fun y h0 h1 => FnG.of_cfg hT Go.Proofs.Tryz.func122 (by kernel_rfl : _ = some Zadi) (by kernel_rfl) 34 (by kernel_rfl) (Nat.le_of_ble_eq_true rfl) [.t 4] (by kernel_rfl) (by kernel_rfl) (Za1y r a0 a1 y h0 (Z0 (fun s y h hk => match s with
 | .L0 v1 E0 v5 v6 => Zaxl r v1 E0 v5 v6 y h hk) h1))
noncomputable def Za1z : Code := (Go.Proofs.Tryz.f40.body).getD .skip
noncomputable def Zadj (r : (List Int)) : PV := (.osl 5000 (List.map (cI .i64) r).length)
noncomputable def Zahn (r : (List Int)) : List (Nat × Blk) := [(5000, .row 1 (List.map (cI .i64) r))]
noncomputable def Zbez : Zoq → Cfg := fun s => nomatch s
noncomputable def Zbi4 : Zoq → PW.St := fun s => nomatch s
abbrev Zbe0 (r : (List Int)) (y : Zoq ⊕ (List Int)) : Prop := Ok PR [.t 2] (Zahn) Zadj Zbez Zbi4 r y
theorem Zbad (r : (List Int)) (a0 : (List Int)) (y : Zoq ⊕ (List Int)) (h : Z98 a0 = some y) (hk : Zbe0 r y) : (Cfg.code Za1z []).HH PR [.t 2] Zahn Zadj r ⟨6, idx 0 [(wL (cI .i64) a0)], []⟩ :=
 Zb h fun x1 h2 h => lO h hk [5000] ((((((q0.o [.lab 1003, .es (List.map (cI .i64) x1), .relab 1003 5000]).b (Eq.refl (List.map (cI .i64) ([] : (List Int))).length)).b (Zdw (cI .i64) h2)).b (Zs (cI .i64) 1 (fun _ => rfl) a0)).b (Zdx (cI .i64) h2)).b (Zca (cI .i64) h2))
theorem Zw0 (a0 : (List Int)) {r : (List Int)} (h : Zqq a0 = some r) : FnG PR 40 [] [(wL (cI .i64) a0)] ((Zahn) r) (Zadj r) :=
 Zb h fun y h0 h1 => FnG.of_cfg hT Go.Proofs.Tryz.func40 (by kernel_rfl : _ = some Za1z) (by kernel_rfl) 6 (by kernel_rfl) (Nat.le_of_ble_eq_true rfl) [.t 2] (by kernel_rfl) (by kernel_rfl) (Zbad r a0 y h0 (Z0 (fun s _ _ _ => nomatch s) h1))
noncomputable def Za10 : Code := (Go.Proofs.Tryz.f123.body).getD .skip
noncomputable def Zadk (r : (List Int)) : PV := (.osl 5000 (List.map (cI .i64) r).length)
noncomputable def Zaho (r : (List Int)) : List (Nat × Blk) := [(5000, .row 1 (List.map (cI .i64) r))]
noncomputable def Zbe1 : Zor → Cfg := fun s => nomatch s
noncomputable def Zbi5 : Zor → PW.St := fun s => nomatch s
abbrev Zbe2 (r : (List Int)) (y : Zor ⊕ (List Int)) : Prop := Ok PR [.t 6] (Zaho) Zadk Zbe1 Zbi5 r y
theorem Zbae (r : (List Int)) (a0 : Zc) (a1 : Int) (a2 : Int) (y : Zor ⊕ (List Int)) (h : Z99 a0 a1 a2 = some y) (hk : Zbe2 r y) : (Cfg.code Za10 []).HH PR [.t 6] Zaho Zadk r ⟨55, idx 0 [(.agg (bx (Z4 a0))), (wI a1), (wI a2)], []⟩ := have q := q0.o [.lab 1003];
 Za h (fun h1 h => Zb h fun x2 h3 h => lO h hk [5000] (((q.t 1 h1).o [.callO false [] 130000 [(5000, .row 1 (List.map (cI .i64) x2))] (.osl 5000 (List.map (cI .i64) x2).length), .relab 135000 5000]).b (Zw0 a0.Battlefield h3))) (fun h1 h => have q := q.f 1 h1;
 Za h (fun h4 h => Zb h fun x5 h6 h => lO h hk [5000] (((q.t 1 h4).o [.callO false [] 180000 [(5000, .row 1 (List.map (cI .i64) x5))] (.osl 5000 (List.map (cI .i64) x5).length), .relab 185000 5000]).b (Zw0 a0.Exile h6))) (fun h4 h => have q := q.f 1 h4;
 Za h (fun h7 h => lO h hk [5000] ((((q.tt 7).o [.own 6 5000 1]).a 6 h7).b (Eq.refl true))) (fun h7 h => have q := ((((q.f 4 h7).n (a0.Players.length : Int)).ff 2).b (Zt Zh a0.Players)).a 2 h7;
 Za h (fun h9 h => lO h hk [5000] ((q.t 1 h9).o [.own 6 5000 1])) (fun h9 h => have q := q.f 1 h9;
 Za h (fun h10 h => Zb h fun x11 h12 h => Zb h fun x13 h14 h => lO h hk [5000] ((((((q.t 1 h10).o [.cs (Zh x11), .callO false [] 370000 [(5000, .row 1 (List.map (cI .i64) x13))] (.osl 5000 (List.map (cI .i64) x13).length), .relab 375000 5000]).b (Zs Zh 14 (fun _ => rfl) a0.Players)).b (Z2 h12)).b (Zz Zh h12)).b (Zw0 x11.Hand h14))) (fun h10 h => have q := q.f 1 h10;
 Za h (fun h15 h => Zb h fun x16 h17 h => Zb h fun x18 h19 h => lO h hk [5000] ((((((q.t 1 h15).o [.cs (Zh x16), .callO false [] 460000 [(5000, .row 1 (List.map (cI .i64) x18))] (.osl 5000 (List.map (cI .i64) x18).length), .relab 465000 5000]).b (Zs Zh 14 (fun _ => rfl) a0.Players)).b (Z2 h17)).b (Zz Zh h17)).b (Zw0 x16.Library h19))) (fun h15 h => have q := q.f 1 h15;
 Za h (fun h20 h => Zb h fun x21 h22 h => Zb h fun x23 h24 h => lO h hk [5000] ((((((q.t 1 h20).o [.cs (Zh x21), .callO false [] 550000 [(5000, .row 1 (List.map (cI .i64) x23))] (.osl 5000 (List.map (cI .i64) x23).length), .relab 555000 5000]).b (Zs Zh 14 (fun _ => rfl) a0.Players)).b (Z2 h22)).b (Zz Zh h22)).b (Zw0 x21.Graveyard h24))) (fun h20 h => lO h hk [5000] ((q.f 1 h20).o [.own 6 5000 1]))))))))
theorem Zbe3 (a0 : Zc) (a1 : Int) (a2 : Int) {r : (List Int)} (h : Z48 a0 a1 a2 = some r) : FnG PR 123 [] [(.agg (bx (Z4 a0))), (wI a1), (wI a2)] ((Zaho) r) (Zadk r) :=
 Zb h fun y h0 h1 => FnG.of_cfg hT Go.Proofs.Tryz.func123 (by kernel_rfl : _ = some Za10) (by kernel_rfl) 55 (by kernel_rfl) (Nat.le_of_ble_eq_true rfl) [.t 6] (by kernel_rfl) (by kernel_rfl) (Zbae r a0 a1 a2 y h0 (Z0 (fun s _ _ _ => nomatch s) h1))
theorem Zbi6 (a0 : Zc) (a1 : Int) (a2 : Int) {r : (List Int)} (h : Z48 a0 a1 a2 = some r) : Fn PR 123 [(.agg (bx (Z4 a0))), (wI a1), (wI a2)] (wL (cI .i64) r) :=
 FnG.frozen (Zbe3 a0 a1 a2 h) (And.intro (Eq.refl (List.map (cI .i64) r).length) trivial) (by kernel_rfl)
noncomputable def Zaqr : Code := (Go.Proofs.Tryz.f102.body).getD .skip
noncomputable def Z5t (r : Bool) : PV := (wB r)
noncomputable def Zam9 (r : Bool) : List (Nat × Blk) := []
noncomputable def Za5y : Zls → Cfg := fun s => nomatch s
noncomputable def Zbaf : Zls → PW.St := fun s => nomatch s
abbrev Za5z (r : Bool) (y : Zls ⊕ Bool) : Prop := Ok PR [.t 4] (Zam9) Z5t Za5y Zbaf r y
theorem Za11 (r : Bool) (a0 : Zc) (a1 : Zf) (y : Zls ⊕ Bool) (h : Z2l a0 a1 = some y) (hk : Za5z r y) : (Cfg.code Zaqr []).HH PR [.t 4] Zam9 Z5t r ⟨23, idx 0 [(.agg (bx (Z4 a0))), (.agg (bx (Zd a1)))], []⟩ := have q := q0.o [.lab 1002, .lab 1003];
 Za h (fun h1 h => Zb h fun x2 h3 h => lR h hk (((q.t 1 h1).o [.call (wI x2)]).b (Zbac a0 a1.Id h3))) (fun h1 h => Zb h fun x4 h5 h => Zb h fun x6 h7 h => lR h hk ((((q.f 1 h1).o [.call (wL (cI .i64) x4), .call (wI x6)]).b (Zbi6 a0 a1.Zone a1.Owner h5)).b (Zadg x4 a1.Id h7)))
theorem Zana (a0 : Zc) (a1 : Zf) {r : Bool} (h : Zos a0 a1 = some r) : Fn PR 102 [(.agg (bx (Z4 a0))), (.agg (bx (Zd a1)))] (Z5t r) :=
 Zb h fun y h0 h1 => FnG.of_cfg hT Go.Proofs.Tryz.func102 (by kernel_rfl : _ = some Zaqr) (by kernel_rfl) 23 (by kernel_rfl) (Nat.le_of_ble_eq_true rfl) [.t 4] (by kernel_rfl) (by kernel_rfl) (Za11 r a0 a1 y h0 (Z0 (fun s _ _ _ => nomatch s) h1))
noncomputable def Z8o : Code := (Go.Proofs.Tryz.f80.body).getD .skip
noncomputable def Zvs (r : Bool) : PV := (wB r)
noncomputable def Z5u (r : Bool) : List (Nat × Blk) := []
noncomputable def Zaft : Zhy → Cfg
 | .L0 _ _ _ => (nav [1, 1, 0, 1, 4] Z8o []).getD (.done .normal)
noncomputable def Zaiz : Zhy → PW.St
 | .L0 v0 E0 v5 => ⟨65, [(0, (wL Z8 v0)), (3, (.bptr 30000000 0)), (5, (wI v5))], [(30000000, .box (bx (Z4 E0)))]⟩
abbrev Zafu (r : Bool) (y : Zhy ⊕ Bool) : Prop := Ok PR [.t 4] (Z5u) Zvs Zaft Zaiz r y
theorem Zatk (r : Bool) (v0 : (List Zu)) (E0 : Zc) (v5 : Int) (y : Zhy ⊕ Bool) (h : Zo9 v0 E0 v5 = some y) (hk : Zafu r y) : (Zaft (.L0 v0 E0 v5)).HH PR [.t 4] Z5u Zvs r (Zaiz (.L0 v0 E0 v5)) := have q := (q0.n (E0.Objects.length : Int)).b (Zt Zd E0.Objects);
 Za h (fun h2 h => have q := (q.t 1 h2).b (Zs Zd 19 (fun _ => rfl) E0.Objects);
 Zb h fun x3 h4 h => have q := ((((q.o [.cs (Zd x3), .lab 1006, .num (v0.length : Int), .num (E0.Players.length : Int)]).b (Z2 h4)).b (Zz Zd h4)).b (Zt Z8 v0)).b (Zt Zh E0.Players);
 Zb h fun x7 h8 h => have q := (q.k x7).b (Zbno x3 (v0.length : Int) (E0.Players.length : Int) h8);
 Za h (fun h9 h => lR h hk (((q.tt 18).a 6 h9).a 12 (Eq.refl true))) (fun h9 h => have q := q.f 6 h9;
 Za h (fun h10 h => lR h hk (((q.tt 12).a 6 h10).a 6 (Eq.refl true))) (fun h10 h => have q := q.f 6 h10;
 Za h (fun h11 h => lR h hk (((q.tt 6).a 5 h11).b (Eq.refl true))) (fun h11 h => have q := q.f 3 h11;
 Za h (fun h12 h => have q := (q.t 5 h12).b (Zs Zd 19 (fun _ => rfl) E0.Objects);
 Zb h fun x15 h16 h => have q := ((((((((q.o [.cs (Zd x15)]).tt 5).f 1 (Z2 h16)).t 1 (Zz Zd h16)).ff 1).a 5 h12).b h11).b h12).b h11;
 Za h (fun h17 h => lR h hk (q.t 1 h17)) (fun h17 h => have q := q.f 1 h17;
 Zb h fun x18 h19 h => have q := (q.k x18).b (Zana E0 x3 h19);
 Za h (fun h20 h => lR h hk (q.t 1 h20)) (fun h20 h => lG h hk ((q.f 1 h20).o [.pick [5, 0, 3] [30000000], .pick [0, 3, 5] [30000000]])))) (fun h12 h => have q := (((((q.ff 14).a 10 h12).b h11).b h12).b h11).b (Eq.refl false);
 Zb h fun x23 h24 h => have q := (q.k x23).b (Zana E0 x3 h24);
 Za h (fun h25 h => lR h hk (q.t 1 h25)) (fun h25 h => lG h hk ((q.f 1 h25).o [.pick [5, 0, 3] [30000000], .pick [0, 3, 5] [30000000]]))))))) (fun h2 h => lR h hk (q.f 1 h2))
theorem Zaxm (r : Bool) (a0 : (List Zu)) (a1 : Zc) (y : Zhy ⊕ Bool) (h : Zzm a0 a1 = some y) (hk : Zafu r y) : (Cfg.code Z8o []).HH PR [.t 4] Z5u Zvs r ⟨65, idx 0 [(wL Z8 a0), (.agg (bx (Z4 a1)))], []⟩ := have q := (q0.o [.lab 1003, .num (a1.Objects.length : Int)]).b (Zt Zd a1.Objects);
 Za h (fun h2 h => lR h hk (q.t 1 h2)) (fun h2 h => lG h hk ((q.f 1 h2).o [.pick [5, 3, 0] [1003], .relab 1003 30000000, .pick [0, 3, 5] [30000000]]))
theorem Zyd (a0 : (List Zu)) (a1 : Zc) {r : Bool} (h : Zic a0 a1 = some r) : Fn PR 80 [(wL Z8 a0), (.agg (bx (Z4 a1)))] (Zvs r) :=
 Zb h fun y h0 h1 => FnG.of_cfg hT Go.Proofs.Tryz.func80 (by kernel_rfl : _ = some Z8o) (by kernel_rfl) 65 (by kernel_rfl) (Nat.le_of_ble_eq_true rfl) [.t 4] (by kernel_rfl) (by kernel_rfl) (Zaxm r a0 a1 y h0 (Z0 (fun s y h hk => match s with
 | .L0 v0 E0 v5 => Zatk r v0 E0 v5 y h hk) h1))
noncomputable def Z5v : Code := (Go.Proofs.Tryz.f106.body).getD .skip
noncomputable def Ztl (r : Bool) : PV := (wB r)
noncomputable def Z3q (r : Bool) : List (Nat × Blk) := []
noncomputable def Zadl : Zg4 → Cfg
 | .L0 _ _ _ => (nav [1, 1, 0, 1, 4] Z5v []).getD (.done .normal)
noncomputable def Zafv : Zg4 → PW.St
 | .L0 v0 v1 v5 => ⟨26, [(0, (wL Zp v0)), (1, (wL Zp v1)), (5, (wI v5))], []⟩
abbrev Zadm (r : Bool) (y : Zg4 ⊕ Bool) : Prop := Ok PR [.t 4] (Z3q) Ztl Zadl Zafv r y
theorem Zaqs (r : Bool) (v0 : (List Zg)) (v1 : (List Zg)) (v5 : Int) (y : Zg4 ⊕ Bool) (h : Zvm v0 v1 v5 = some y) (hk : Zadm r y) : (Zadl (.L0 v0 v1 v5)).HH PR [.t 4] Z3q Ztl r (Zafv (.L0 v0 v1 v5)) := have q := (q0.n (v0.length : Int)).b (Zt Zp v0);
 Za h (fun h2 h => have q := (q.t 1 h2).b (Zs Zp 20 (fun _ => rfl) v0);
 Zb h fun x3 h4 h => have q := (((q.o [.cs (Zp x3)]).b (Z2 h4)).b (Zz Zp h4)).b (Zs Zp 20 (fun _ => rfl) v1);
 Zb h fun x5 h6 h => have q := ((q.o [.cs (Zp x5)]).b (Z2 h6)).b (Zz Zp h6);
 Za h (fun h7 h => lR h hk (q.t 1 h7)) (fun h7 h => lG h hk ((q.f 1 h7).o [.pick [5, 0, 1] [], .pick [0, 1, 5] []]))) (fun h2 h => lR h hk (q.f 1 h2))
theorem Zatl (r : Bool) (a0 : (List Zg)) (a1 : (List Zg)) (y : Zg4 ⊕ Bool) (h : Z49 a0 a1 = some y) (hk : Zadm r y) : (Cfg.code Z5v []).HH PR [.t 4] Z3q Ztl r ⟨26, idx 0 [(wL Zp a0), (wL Zp a1)], []⟩ := have q := ((q0.o [.num (a0.length : Int), .num (a1.length : Int)]).b (Zt Zp a0)).b (Zt Zp a1);
 Za h (fun h3 h => lR h hk (q.t 1 h3)) (fun h3 h => lG h hk ((q.f 1 h3).o [.pick [5, 1, 0] [], .pick [0, 1, 5] []]))
theorem Zafw (a0 : (List Zg)) (a1 : (List Zg)) {r : Bool} (h : Zwl a0 a1 = some r) : Fn PR 106 [(wL Zp a0), (wL Zp a1)] (Ztl r) :=
 Zb h fun y h0 h1 => FnG.of_cfg hT Go.Proofs.Tryz.func106 (by kernel_rfl : _ = some Z5v) (by kernel_rfl) 26 (by kernel_rfl) (Nat.le_of_ble_eq_true rfl) [.t 4] (by kernel_rfl) (by kernel_rfl) (Zatl r a0 a1 y h0 (Z0 (fun s y h hk => match s with
 | .L0 v0 v1 v5 => Zaqs r v0 v1 v5 y h hk) h1))
noncomputable def Za12 : Code := (Go.Proofs.Tryz.f126.body).getD .skip
noncomputable def Zadn (r : Bool) : PV := (wB r)
noncomputable def Zavj (r : Bool) : List (Nat × Blk) := []
noncomputable def Zbe4 : Zot → Cfg := fun s => nomatch s
noncomputable def Zbi7 : Zot → PW.St := fun s => nomatch s
abbrev Zbe5 (r : Bool) (y : Zot ⊕ Bool) : Prop := Ok PR [.t 4] (Zavj) Zadn Zbe4 Zbi7 r y
theorem Zbag (r : Bool) (a0 : Zj) (a1 : Zj) (y : Zot ⊕ Bool) (h : Zakl a0 a1 = some y) (hk : Zbe5 r y) : (Cfg.code Za12 []).HH PR [.t 4] Zavj Zadn r ⟨66, idx 0 [(.agg (bx (Zk a0))), (.agg (bx (Zk a1)))], []⟩ := have q := q0.o [.lab 1002, .lab 1003];
 Za h (fun h1 h => have q := q.t 6 h1;
 Za h (fun h2 h => have q := q.t 6 h2;
 Za h (fun h3 h => have q := q.t 6 h3;
 Za h (fun h4 h => have q := q.t 6 h4;
 Za h (fun h5 h => have q := q.t 6 h5;
 Za h (fun h6 h => have q := q.t 6 h6;
 Za h (fun h7 h => have q := q.t 6 h7;
 Za h (fun h8 h => Zb h fun x9 h10 h => lR h hk ((((q.t 5 h8).k x9).t 1 (Zafw a0.Mods a1.Mods h10)).b h8)) (fun h8 h => lR h hk (q.f 6 h8))) (fun h7 h => lR h hk (((q.ff 12).a 6 h7).a 6 (Eq.refl false)))) (fun h6 h => lR h hk (((q.ff 18).a 6 h6).a 12 (Eq.refl false)))) (fun h5 h => lR h hk (((q.ff 24).a 6 h5).a 18 (Eq.refl false)))) (fun h4 h => lR h hk (((q.ff 30).a 6 h4).a 24 (Eq.refl false)))) (fun h3 h => lR h hk (((q.ff 36).a 6 h3).a 30 (Eq.refl false)))) (fun h2 h => lR h hk (((q.ff 42).a 6 h2).a 36 (Eq.refl false)))) (fun h1 h => lR h hk (((q.ff 48).a 6 h1).a 42 (Eq.refl false)))
theorem Zbi8 (a0 : Zj) (a1 : Zj) {r : Bool} (h : Zakm a0 a1 = some r) : Fn PR 126 [(.agg (bx (Zk a0))), (.agg (bx (Zk a1)))] (Zadn r) :=
 Zb h fun y h0 h1 => FnG.of_cfg hT Go.Proofs.Tryz.func126 (by kernel_rfl : _ = some Za12) (by kernel_rfl) 66 (by kernel_rfl) (Nat.le_of_ble_eq_true rfl) [.t 4] (by kernel_rfl) (by kernel_rfl) (Zbag r a0 a1 y h0 (Z0 (fun s _ _ _ => nomatch s) h1))
noncomputable def Z5w : Code := (Go.Proofs.Tryz.f107.body).getD .skip
noncomputable def Ztm (r : Bool) : PV := (wB r)
noncomputable def Z3r (r : Bool) : List (Nat × Blk) := []
noncomputable def Zado : Zg5 → Cfg
 | .L0 _ _ _ => (nav [1, 1, 0, 1, 4] Z5w []).getD (.done .normal)
noncomputable def Zafx : Zg5 → PW.St
 | .L0 v0 v1 v5 => ⟨27, [(0, (wL Zk v0)), (1, (wL Zk v1)), (5, (wI v5))], []⟩
abbrev Zadp (r : Bool) (y : Zg5 ⊕ Bool) : Prop := Ok PR [.t 4] (Z3r) Ztm Zado Zafx r y
theorem Zaqt (r : Bool) (v0 : (List Zj)) (v1 : (List Zj)) (v5 : Int) (y : Zg5 ⊕ Bool) (h : Zvn v0 v1 v5 = some y) (hk : Zadp r y) : (Zado (.L0 v0 v1 v5)).HH PR [.t 4] Z3r Ztm r (Zafx (.L0 v0 v1 v5)) := have q := (q0.n (v0.length : Int)).b (Zt Zk v0);
 Za h (fun h2 h => have q := (q.t 1 h2).b (Zs Zk 64 (fun _ => rfl) v0);
 Zb h fun x3 h4 h => have q := (((q.o [.cs (Zk x3)]).b (Z2 h4)).b (Zz Zk h4)).b (Zs Zk 64 (fun _ => rfl) v1);
 Zb h fun x5 h6 h => have q := ((q.o [.cs (Zk x5)]).b (Z2 h6)).b (Zz Zk h6);
 Zb h fun x7 h8 h => have q := (q.k x7).b (Zbi8 x3 x5 h8);
 Za h (fun h9 h => lR h hk (q.t 1 h9)) (fun h9 h => lG h hk ((q.f 1 h9).o [.pick [5, 0, 1] [], .pick [0, 1, 5] []]))) (fun h2 h => lR h hk (q.f 1 h2))
theorem Zatm (r : Bool) (a0 : (List Zj)) (a1 : (List Zj)) (y : Zg5 ⊕ Bool) (h : Z5a a0 a1 = some y) (hk : Zadp r y) : (Cfg.code Z5w []).HH PR [.t 4] Z3r Ztm r ⟨27, idx 0 [(wL Zk a0), (wL Zk a1)], []⟩ := have q := ((q0.o [.num (a0.length : Int), .num (a1.length : Int)]).b (Zt Zk a0)).b (Zt Zk a1);
 Za h (fun h3 h => lR h hk (q.t 1 h3)) (fun h3 h => lG h hk ((q.f 1 h3).o [.pick [5, 1, 0] [], .pick [0, 1, 5] []]))
theorem Za13 (a0 : (List Zj)) (a1 : (List Zj)) {r : Bool} (h : Z2m a0 a1 = some r) : Fn PR 107 [(wL Zk a0), (wL Zk a1)] (Ztm r) :=
 Zb h fun y h0 h1 => FnG.of_cfg hT Go.Proofs.Tryz.func107 (by kernel_rfl : _ = some Z5w) (by kernel_rfl) 27 (by kernel_rfl) (Nat.le_of_ble_eq_true rfl) [.t 4] (by kernel_rfl) (by kernel_rfl) (Zatm r a0 a1 y h0 (Z0 (fun s y h hk => match s with
 | .L0 v0 v1 v5 => Zaqt r v0 v1 v5 y h hk) h1))
noncomputable def Zaln : Code := (Go.Proofs.Tryz.f89.body).getD .skip
noncomputable def Z3s (r : Bool) : PV := (wB r)
noncomputable def Zahp (r : Bool) : List (Nat × Blk) := []
noncomputable def Zaqu : Zlt → Cfg
 | .L0 _ _ _ => (nav [1, 1, 0, 1, 4] Zaln []).getD (.done .normal)
noncomputable def Zavk : Zlt → PW.St
 | .L0 E0 E1 v5 => ⟨92, [(2, (.bptr 30000000 0)), (3, (.bptr 30000001 0)), (5, (wI v5))], [(30000000, .box (bx (Zab E0))), (30000001, .box (bx (Zab E1)))]⟩
abbrev Zaqv (r : Bool) (y : Zlt ⊕ Bool) : Prop := Ok PR [.t 4] (Zahp) Z3s Zaqu Zavk r y
theorem Za50 (r : Bool) (E0 : Zq) (E1 : Zq) (v5 : Int) (y : Zlt ⊕ Bool) (h : Z6q E0 E1 v5 = some y) (hk : Zaqv r y) : (Zaqu (.L0 E0 E1 v5)).HH PR [.t 4] Zahp Z3s r (Zavk (.L0 E0 E1 v5)) := have q := (q0.n (E0.Specs.length : Int)).b (Zt Z3 E0.Specs);
 Za h (fun h2 h => have q := (q.t 1 h2).b (Zs Z3 18 (fun _ => rfl) E0.Specs);
 Zb h fun x3 h4 h => have q := (((q.o [.cs (Z3 x3)]).b (Z2 h4)).b (Zz Z3 h4)).b (Zs Z3 18 (fun _ => rfl) E1.Specs);
 Zb h fun x5 h6 h => have q := ((q.o [.cs (Z3 x5)]).b (Z2 h6)).b (Zz Z3 h6);
 Za h (fun h7 h => lR h hk (q.t 1 h7)) (fun h7 h => lG h hk ((q.f 1 h7).o [.pick [5, 2, 3] [30000000, 30000001], .pick [2, 3, 5] [30000000, 30000001]]))) (fun h2 h => have q := q.f 1 h2;
 Za h (fun h10 h => have q := q.t 6 h10;
 Za h (fun h11 h => have q := q.t 5 h11;
 Zb h fun x12 h13 h => have q := ((q.k x12).t 1 (Zafw E0.Mods E1.Mods h13)).b h11;
 Za h (fun h14 h => have q := q.t 6 h14;
 Za h (fun h15 h => have q := q.t 6 h15;
 Za h (fun h16 h => have q := q.t 6 h16;
 Za h (fun h17 h => have q := q.t 6 h17;
 Za h (fun h18 h => have q := q.t 5 h18;
 Zb h fun x19 h20 h => have q := ((q.k x19).t 1 (Za13 E0.Effects E1.Effects h20)).b h18;
 Za h (fun h21 h => lR h hk (q.t 6 h21)) (fun h21 h => lR h hk (q.f 6 h21))) (fun h18 h => lR h hk (((q.ff 12).a 6 h18).a 6 (Eq.refl false)))) (fun h17 h => lR h hk (((q.ff 18).a 6 h17).a 12 (Eq.refl false)))) (fun h16 h => lR h hk (((q.ff 24).a 6 h16).a 18 (Eq.refl false)))) (fun h15 h => lR h hk (((q.ff 30).a 6 h15).a 24 (Eq.refl false)))) (fun h14 h => lR h hk (((q.ff 36).a 6 h14).a 30 (Eq.refl false)))) (fun h11 h => lR h hk (((q.ff 42).a 6 h11).a 36 (Eq.refl false)))) (fun h10 h => lR h hk (((q.ff 48).a 6 h10).a 42 (Eq.refl false))))
theorem Zbah (r : Bool) (a0 : Zq) (a1 : Zq) (y : Zlt ⊕ Bool) (h : Zakn a0 a1 = some y) (hk : Zaqv r y) : (Cfg.code Zaln []).HH PR [.t 4] Zahp Z3s r ⟨92, idx 0 [(.agg (bx (Zab a0))), (.agg (bx (Zab a1)))], []⟩ := have q := ((q0.o [.lab 1002, .lab 1003, .num (a0.Specs.length : Int), .num (a1.Specs.length : Int)]).b (Zt Z3 a0.Specs)).b (Zt Z3 a1.Specs);
 Za h (fun h3 h => lR h hk (q.t 1 h3)) (fun h3 h => lG h hk ((q.f 1 h3).o [.pick [5, 3, 2] [1003, 1002], .relab 1002 30000000, .relab 1003 30000001, .pick [2, 3, 5] [30000000, 30000001]]))
theorem Zbi9 (a0 : Zq) (a1 : Zq) {r : Bool} (h : Zako a0 a1 = some r) : Fn PR 89 [(.agg (bx (Zab a0))), (.agg (bx (Zab a1)))] (Z3s r) :=
 Zb h fun y h0 h1 => FnG.of_cfg hT Go.Proofs.Tryz.func89 (by kernel_rfl : _ = some Zaln) (by kernel_rfl) 92 (by kernel_rfl) (Nat.le_of_ble_eq_true rfl) [.t 4] (by kernel_rfl) (by kernel_rfl) (Zbah r a0 a1 y h0 (Z0 (fun s y h hk => match s with
 | .L0 E0 E1 v5 => Za50 r E0 E1 v5 y h hk) h1))
noncomputable def Za14 : Code := (Go.Proofs.Tryz.f103.body).getD .skip
noncomputable def Zadq (r : Bool) : PV := (wB r)
noncomputable def Zavl (r : Bool) : List (Nat × Blk) := []
noncomputable def Zbe6 : Zou → Cfg := fun s => nomatch s
noncomputable def Zbja : Zou → PW.St := fun s => nomatch s
abbrev Zbe7 (r : Bool) (y : Zou ⊕ Bool) : Prop := Ok PR [.t 4] (Zavl) Zadq Zbe6 Zbja r y
theorem Zbai (r : Bool) (a0 : Zc) (a1 : Zag) (y : Zou ⊕ Bool) (h : Zakp a0 a1 = some y) (hk : Zbe7 r y) : (Cfg.code Za14 []).HH PR [.t 4] Zavl Zadq r ⟨81, idx 0 [(.agg (bx (Z4 a0))), (.agg (bx (Zl a1)))], []⟩ := have q := q0.o [.lab 1002, .lab 1003];
 Zb h fun x3 h4 h => have q := (q.k x3).b (Zj4 a1.Id 1 (IntKind.wrap .i64 (a0.NextId - 1)) h4);
 Za h (fun h5 h => lR h hk (((q.tt 17).a 5 h5).a 12 (Eq.refl true))) (fun h5 h => have q := q.f 3 h5;
 Zb h fun x6 h7 h => have q := (((q.k x6).ff 2).b (Zj4 a1.X 0 1000000 h7)).a 2 h5;
 Za h (fun h8 h => lR h hk (((q.tt 12).a 5 h8).a 7 (Eq.refl true))) (fun h8 h => have q := ((((q.f 3 h8).n (a1.Targets.length : Int)).ff 2).b (Zt Zad a1.Targets)).a 2 h8;
 Za h (fun h10 h => lR h hk (((q.tt 7).a 6 h10).b (Eq.refl true))) (fun h10 h => have q := q.f 4 h10;
 Zb h fun x11 h12 h => have q := (((q.k x11).ff 2).b (Zn3 a0 a1.Control h12)).a 2 h10;
 Za h (fun h13 h => lR h hk (q.t 1 h13)) (fun h13 h => have q := q.f 1 h13;
 Zb h fun x14 h15 h => have q := (q.o [.call (.tup [(.agg (bx (Zd x14.1))), (wB x14.2)]), .lab 1005]).b (Zam4 a0 a1.Id h15);
 Za h (fun h16 h => have q := q.t 1 h16;
 Zb h fun x17 h18 h => have q := (q.k x17).b (Zbi9 a1.Ability (⟨0, (⟨0, 0, 0, 0, 0, 0, 0, ([] : List UInt8), 0, 0, (⟨0, 0⟩ : Ze), (⟨0, 0⟩ : Ze), (⟨0, 0⟩ : Ze)⟩ : Zi), ([] : (List Zg)), (⟨(⟨0, 0, (⟨0, 0, 0, 0, 0⟩ : (A5 Int))⟩ : Zah), false, false, 0⟩ : Zih), false, (⟨0, 0, (⟨0, 0, 0, 0, 0, 0, 0, ([] : List UInt8), 0, 0, (⟨0, 0⟩ : Ze), (⟨0, 0⟩ : Ze), (⟨0, 0⟩ : Ze)⟩ : Zi)⟩ : Zdj), false, ([] : (List Zai)), ([] : (List Zj)), (⟨0, 0, (⟨0, 0, 0, 0, 0, 0, 0, ([] : List UInt8), 0, 0, (⟨0, 0⟩ : Ze), (⟨0, 0⟩ : Ze), (⟨0, 0⟩ : Ze)⟩ : Zi), 0, 0, 0, 0⟩ : Za1)⟩ : Zq) h18);
 Za h (fun h19 h => have q := q.t 2 h19;
 Za h (fun h20 h => have q := q.t 4 h20;
 Za h (fun h21 h => have q := q.t 2 h21;
 Za h (fun h22 h => lR h hk (((((q.tt 6).a 3 h22).b h21).b h22).b h21)) (fun h22 h => Zb h fun x23 h24 h => lR h hk ((((((q.f 3 h22).k x23).t 1 (Zafp a1.Ability h24)).f 1 h21).t 1 h22).b h21))) (fun h21 h => lR h hk (q.f 4 h21))) (fun h20 h => lR h hk (((q.ff 8).a 4 h20).a 4 (Eq.refl false)))) (fun h19 h => lR h hk (((q.ff 10).a 2 h19).a 8 (Eq.refl false)))) (fun h16 h => have q := q.f 1 h16;
 Za h (fun h25 h => have q := q.t 3 h25;
 Za h (fun h26 h => Zb h fun x27 h28 h => lR h hk ((((q.t 3 h26).k x27).t 1 (Zafp a1.Ability h28)).b h26)) (fun h26 h => lR h hk (q.f 4 h26))) (fun h25 h => lR h hk (((q.ff 7).a 3 h25).a 4 (Eq.refl false))))))))
theorem Zbjb (a0 : Zc) (a1 : Zag) {r : Bool} (h : Zakq a0 a1 = some r) : Fn PR 103 [(.agg (bx (Z4 a0))), (.agg (bx (Zl a1)))] (Zadq r) :=
 Zb h fun y h0 h1 => FnG.of_cfg hT Go.Proofs.Tryz.func103 (by kernel_rfl : _ = some Za14) (by kernel_rfl) 81 (by kernel_rfl) (Nat.le_of_ble_eq_true rfl) [.t 4] (by kernel_rfl) (by kernel_rfl) (Zbai r a0 a1 y h0 (Z0 (fun s _ _ _ => nomatch s) h1))
noncomputable def Zaxn : Code := (Go.Proofs.Tryz.f104.body).getD .skip
noncomputable def Zaal (r : Bool) : PV := (wB r)
noncomputable def Zaqw (r : Bool) : List (Nat × Blk) := []
noncomputable def Za15 : Zpi → Cfg
 | .L0 _ _ => (nav [1, 0, 1, 4] Zaxn []).getD (.done .normal)
noncomputable def Za7l : Zpi → PW.St
 | .L0 v0 v3 => ⟨20, [(0, (wL (cI .i64) v0)), (3, (wI v3))], []⟩
abbrev Za16 (r : Bool) (y : Zpi ⊕ Bool) : Prop := Ok PR [.t 2] (Zaqw) Zaal Za15 Za7l r y
theorem Zbe8 (r : Bool) (v0 : (List Int)) (v3 : Int) (y : Zpi ⊕ Bool) (h : Zae4 v0 v3 = some y) (hk : Za16 r y) : (Za15 (.L0 v0 v3)).HH PR [.t 2] Zaqw Zaal r (Za7l (.L0 v0 v3)) := have q := (q0.n (v0.length : Int)).b (Zt (cI .i64) v0);
 Za h (fun h2 h => have q := (q.t 1 h2).b (Zs (cI .i64) 1 (fun _ => rfl) v0);
 Zb h fun x5 h6 h => have q := (((q.o [.cs ((cI .i64) x5)]).b (Z2 h6)).b (Zz (cI .i64) h6)).b (Zs (cI .i64) 1 (fun _ => rfl) v0);
 Zb h fun x7 h8 h => have q := ((q.o [.cs ((cI .i64) x7)]).b (Z2 h8)).b (Zz (cI .i64) h8);
 Za h (fun h9 h => lR h hk (q.t 1 h9)) (fun h9 h => lG h hk ((q.f 1 h9).o [.pick [3, 0] [], .pick [0, 3] []]))) (fun h2 h => lR h hk (q.f 1 h2))
theorem Zbjc (r : Bool) (a0 : (List Int)) (y : Zpi ⊕ Bool) (h : Zawk a0 = some y) (hk : Za16 r y) : (Cfg.code Zaxn []).HH PR [.t 2] Zaqw Zaal r ⟨20, idx 0 [(wL (cI .i64) a0)], []⟩ :=
 lG h hk (q0.o [.pick [3, 0] [], .pick [0, 3] []])
theorem Zbnp (a0 : (List Int)) {r : Bool} (h : Zaz8 a0 = some r) : Fn PR 104 [(wL (cI .i64) a0)] (Zaal r) :=
 Zb h fun y h0 h1 => FnG.of_cfg hT Go.Proofs.Tryz.func104 (by kernel_rfl : _ = some Zaxn) (by kernel_rfl) 20 (by kernel_rfl) (Nat.le_of_ble_eq_true rfl) [.t 2] (by kernel_rfl) (by kernel_rfl) (Zbjc r a0 y h0 (Z0 (fun s y h hk => match s with
 | .L0 v0 v3 => Zbe8 r v0 v3 y h hk) h1))
end
end Go.PW
