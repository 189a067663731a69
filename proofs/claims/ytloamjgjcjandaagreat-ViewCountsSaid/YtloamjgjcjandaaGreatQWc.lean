import Derived.Test.YtloamjgjcjandaaGreatQWb
set_option linter.all false
set_option maxRecDepth 100000
namespace Go.PW
open Go.RowKit
noncomputable section
noncomputable def Zahr : Code := (Go.Proofs.Tryz.f49.body).getD .skip
noncomputable def Zz3 (r : (Int × Int)) : PV := (.tup [(wI r.1), (wI r.2)])
noncomputable def Zadi (r : (Int × Int)) : List (Nat × Blk) := []
noncomputable def Zanb : Zkh → Cfg
 | .L0 _ _ => (nav [1, 1, 0, 1, 4] Zahr []).getD (.done .normal)
noncomputable def Zaqx : Zkh → PW.St
 | .L0 v0 v4 => ⟨39, [(0, (wL Z8 v0)), (4, (wI v4))], []⟩
abbrev Zanc (r : (Int × Int)) (y : Zkh ⊕ (Int × Int)) : Prop := Ok PR [.t 2, .t 3] (Zadi) Zz3 Zanb Zaqx r y
theorem Za11 (r : (Int × Int)) (v0 : (List Zw)) (v4 : Int) (y : Zkh ⊕ (Int × Int)) (h : Z2u v0 v4 = some y) (hk : Zanc r y) : (Zanb (.L0 v0 v4)).HH PR [.t 2, .t 3] Zadi Zz3 r (Zaqx (.L0 v0 v4)) := have q := (q0.n (v0.length : Int)).b (Zr Z8 v0);
 Za h (fun h2 h => have q := (q.t 1 h2).b (Zq Z8 17 (fun _ => rfl) v0);
 Zb h fun x3 h4 h => have q := ((q.o [.cs (Z8 x3)]).b (Z2 h4)).b (Zv Z8 h4);
 Zb h fun x5 h6 h => have q := (q.k x5).b (Zbn1 x3 h6);
 Za h (fun h7 h => lR h hk (q.t 1 h7)) (fun h7 h => have q := ((((q.f 1 h7).o [.cs (Z8 x3)]).b (Zq Z8 17 (fun _ => rfl) v0)).b (Z2 h4)).b (Zv Z8 h4);
 Zb h fun x8 h9 h => have q := (q.o [.call (wI x8)]).b (Zbje v0 x3.Name h9);
 Za h (fun h10 h => lR h hk (q.t 1 h10)) (fun h10 h => have q := ((((q.f 1 h10).o [.cs (Z8 x3)]).b (Zq Z8 17 (fun _ => rfl) v0)).b (Z2 h4)).b (Zv Z8 h4);
 Zb h fun x11 h12 h => have q := (q.k x11).b (Za5y v0 x3 h12);
 Za h (fun h13 h => lR h hk (q.t 1 h13)) (fun h13 h => lG h hk ((q.f 1 h13).o [.pick [4, 0] [], .pick [0, 4] []]))))) (fun h2 h => lR h hk (q.f 1 h2))
theorem Za5z (r : (Int × Int)) (a0 : (List Zw)) (y : Zkh ⊕ (Int × Int)) (h : Zagu a0 = some y) (hk : Zanc r y) : (Cfg.code Zahr []).HH PR [.t 2, .t 3] Zadi Zz3 r ⟨39, idx 0 [(wL Z8 a0)], []⟩ := have q := (q0.n (a0.length : Int)).b (Zr Z8 a0);
 Za h (fun h2 h => lR h hk (q.t 1 h2)) (fun h2 h => lG h hk ((q.f 1 h2).o [.pick [4, 0] [], .pick [0, 4] []]))
theorem Zbe1 (a0 : (List Zw)) {r : (Int × Int)} (h : Zae6 a0 = some r) : Fn PR 49 [(wL Z8 a0)] (Zz3 r) :=
 Zb h fun y h0 h1 => FnG.of_cfg hT Go.Proofs.Tryz.func49 (by kernel_rfl : _ = some Zahr) (by kernel_rfl) 39 (by kernel_rfl) (Nat.le_of_ble_eq_true rfl) [.t 2, .t 3] (by kernel_rfl) (by kernel_rfl) (Za5z r a0 y h0 (Z1 (fun s y h hk => match s with
 | .L0 v0 v4 => Za11 r v0 v4 y h hk) h1))
noncomputable def Zbe2 : Code := (Go.Proofs.Tryz.f77.body).getD .skip
noncomputable def Zalt (r : Bool) : PV := (wB r)
noncomputable def Za7w (r : Bool) : List (Nat × Blk) := []
noncomputable def Zblz : Zth → Cfg := fun s => nomatch s
noncomputable def Zbn2 : Zth → PW.St := fun s => nomatch s
abbrev Zbl0 (r : Bool) (y : Zth ⊕ Bool) : Prop := Ok PR [.t 6] (Za7w) Zalt Zblz Zbn2 r y
theorem Zbjf (r : Bool) (a0 : Int) (a1 : Int) (a2 : Int) (y : Zth ⊕ Bool) (h : Zawv a0 a1 a2 = some y) (hk : Zbl0 r y) : (Cfg.code Zbe2 []).HH PR [.t 6] Za7w Zalt r ⟨15, idx 0 [(wI a0), (wI a1), (wI a2)], []⟩ :=
 Za h (fun h1 h => lR h hk (q0.t 4 h1)) (fun h1 h => lR h hk (q0.f 4 h1))
theorem Zj4 (a0 : Int) (a1 : Int) (a2 : Int) {r : Bool} (h : Znq a0 a1 a2 = some r) : Fn PR 77 [(wI a0), (wI a1), (wI a2)] (Zalt r) :=
 Zb h fun y h0 h1 => FnG.of_cfg hT Go.Proofs.Tryz.func77 (by kernel_rfl : _ = some Zbe2) (by kernel_rfl) 15 (by kernel_rfl) (Nat.le_of_ble_eq_true rfl) [.t 6] (by kernel_rfl) (by kernel_rfl) (Zbjf r a0 a1 a2 y h0 (Z1 (fun s _ _ _ => nomatch s) h1))
noncomputable def Zahs : Code := (Go.Proofs.Tryz.f99.body).getD .skip
noncomputable def Zz4 (r : Bool) : PV := (wB r)
noncomputable def Zadj (r : Bool) : List (Nat × Blk) := []
noncomputable def Zand : Zki → Cfg
 | .L0 _ _ => (nav [1, 0, 1, 4] Zahs []).getD (.done .normal)
noncomputable def Zaqy : Zki → PW.St
 | .L0 E0 v3 => ⟨18, [(1, (.bptr 30000000 0)), (3, (wI v3))], [(30000000, .box [(wI E0.a0), (wI E0.a1), (wI E0.a2), (wI E0.a3), (wI E0.a4), (wI E0.a5)])]⟩
abbrev Zane (r : Bool) (y : Zki ⊕ Bool) : Prop := Ok PR [.t 2] (Zadj) Zz4 Zand Zaqy r y
theorem Za12 (r : Bool) (E0 : (A6 Int)) (v3 : Int) (y : Zki ⊕ Bool) (h : Z2v E0 v3 = some y) (hk : Zane r y) : (Zand (.L0 E0 v3)).HH PR [.t 2] Zadj Zz4 r (Zaqy (.L0 E0 v3)) :=
 Za h (fun h1 h => have q := (q0.t 1 h1).o [.nat (Int.toNat v3)];
 Zb h fun x2 h3 h => have q := ((((q.o [.cell 10 ((cI .i64) x2)]).b (Zug (Tree.int .i64) E0 h3).1).b (Zug (Tree.int .i64) E0 h3).2.1).b (Eq.refl (Int.toNat v3))).b (Ztc [] [] (Zug (Tree.int .i64) E0 h3).2.2);
 Za h (fun h4 h => lR h hk (((q.tt 6).a 5 h4).b (Eq.refl true))) (fun h4 h => have q := ((q.f 2 h4).o [.nat (Int.toNat v3)]).ff 1;
 Zb h fun x5 h6 h => have q := (((((((q.o [.cell 15 ((cI .i64) x5)]).ff 2).b (Zug (Tree.int .i64) E0 h6).1).b (Zug (Tree.int .i64) E0 h6).2.1).b (Eq.refl (Int.toNat v3))).b h4).b (Ztc [] [] (Zug (Tree.int .i64) E0 h6).2.2)).a 2 h4;
 Za h (fun h7 h => lR h hk (q.t 1 h7)) (fun h7 h => lG h hk ((q.f 1 h7).o [.pick [3, 1] [30000000], .pick [1, 3] [30000000]])))) (fun h1 h => lR h hk (q0.f 1 h1))
theorem Za50 (r : Bool) (a0 : (A6 Int)) (y : Zki ⊕ Bool) (h : Zagv a0 = some y) (hk : Zane r y) : (Cfg.code Zahs []).HH PR [.t 2] Zadj Zz4 r ⟨18, idx 0 [(.agg (List.map .t ((cA6 (cI .i64)) a0)))], []⟩ :=
 lG h hk (q0.o [.lab 1001, .pick [3, 1] [1001], .relab 1001 30000000, .pick [1, 3] [30000000]])
theorem Zbe3 (a0 : (A6 Int)) {r : Bool} (h : Zae7 a0 = some r) : Fn PR 99 [(.agg (List.map .t ((cA6 (cI .i64)) a0)))] (Zz4 r) :=
 Zb h fun y h0 h1 => FnG.of_cfg hT Go.Proofs.Tryz.func99 (by kernel_rfl : _ = some Zahs) (by kernel_rfl) 18 (by kernel_rfl) (Nat.le_of_ble_eq_true rfl) [.t 2] (by kernel_rfl) (by kernel_rfl) (Za50 r a0 y h0 (Z1 (fun s y h hk => match s with
 | .L0 E0 v3 => Za12 r E0 v3 y h hk) h1))
noncomputable def Zaht : Code := (Go.Proofs.Tryz.f156.body).getD .skip
noncomputable def Zz5 (r : Int) : PV := (wI r)
noncomputable def Zadk (r : Int) : List (Nat × Blk) := []
noncomputable def Zanf : Zkj → Cfg
 | .L0 _ _ _ => (nav [1, 0, 1, 4] Zaht []).getD (.done .normal)
noncomputable def Zaqz : Zkj → PW.St
 | .L0 v1 E0 v5 => ⟨22, [(1, (wI v1)), (2, (.bptr 30000000 0)), (5, (wI v5))], [(30000000, .box (bx (Z4 E0)))]⟩
abbrev Zang (r : Int) (y : Zkj ⊕ Int) : Prop := Ok PR [.t 4] (Zadk) Zz5 Zanf Zaqz r y
theorem Za13 (r : Int) (v1 : Int) (E0 : Zd) (v5 : Int) (y : Zkj ⊕ Int) (h : Zkk v1 E0 v5 = some y) (hk : Zang r y) : (Zanf (.L0 v1 E0 v5)).HH PR [.t 4] Zadk Zz5 r (Zaqz (.L0 v1 E0 v5)) := have q := (q0.n (E0.Objects.length : Int)).b (Zr Zc E0.Objects);
 Za h (fun h2 h => have q := (q.t 1 h2).b (Zq Zc 19 (fun _ => rfl) E0.Objects);
 Zb h fun x3 h4 h => have q := ((q.o [.cs (Zc x3)]).b (Z2 h4)).b (Zv Zc h4);
 Za h (fun h5 h => lR h hk (q.t 1 h5)) (fun h5 h => lG h hk ((q.f 1 h5).o [.pick [5, 1, 2] [30000000], .pick [1, 2, 5] [30000000]]))) (fun h2 h => lR h hk (q.f 1 h2))
theorem Za51 (r : Int) (a0 : Zd) (a1 : Int) (y : Zkj ⊕ Int) (h : Z60 a0 a1 = some y) (hk : Zang r y) : (Cfg.code Zaht []).HH PR [.t 4] Zadk Zz5 r ⟨22, idx 0 [(.agg (bx (Z4 a0))), (wI a1)], []⟩ :=
 lG h hk (q0.o [.lab 1002, .pick [5, 2, 1] [1002], .relab 1002 30000000, .pick [1, 2, 5] [30000000]])
theorem Zbe4 (a0 : Zd) (a1 : Int) {r : Int} (h : Z1z a0 a1 = some r) : Fn PR 156 [(.agg (bx (Z4 a0))), (wI a1)] (Zz5 r) :=
 Zb h fun y h0 h1 => FnG.of_cfg hT Go.Proofs.Tryz.func156 (by kernel_rfl : _ = some Zaht) (by kernel_rfl) 22 (by kernel_rfl) (Nat.le_of_ble_eq_true rfl) [.t 4] (by kernel_rfl) (by kernel_rfl) (Za51 r a0 a1 y h0 (Z1 (fun s y h hk => match s with
 | .L0 v1 E0 v5 => Za13 r v1 E0 v5 y h hk) h1))
noncomputable def Za14 : Code := (Go.Proofs.Tryz.f140.body).getD .skip
noncomputable def Zadl (r : (Zf × Bool)) : PV := (.tup [(.agg (bx (Zc r.1))), (wB r.2)])
noncomputable def Zavu (r : (Zf × Bool)) : List (Nat × Blk) := []
noncomputable def Zbe5 : Zou → Cfg := fun s => nomatch s
noncomputable def Zbjg : Zou → PW.St := fun s => nomatch s
abbrev Zbe6 (r : (Zf × Bool)) (y : Zou ⊕ (Zf × Bool)) : Prop := Ok PR [.c 4 44 true 19, .t 5] (Zavu) Zadl Zbe5 Zbjg r y
theorem Zbaj (r : (Zf × Bool)) (a0 : Zd) (a1 : Int) (y : Zou ⊕ (Zf × Bool)) (h : Zaad a0 a1 = some y) (hk : Zbe6 r y) : (Cfg.code Za14 []).HH PR [.c 4 44 true 19, .t 5] Zavu Zadl r ⟨18, idx 0 [(.agg (bx (Z4 a0))), (wI a1)], []⟩ := have q := q0.o [.lab 1002, .lab 1004];
 Zb h fun x1 h2 h => have q := (q.o [.call (wI x1)]).b (Zbe4 a0 a1 h2);
 Za h (fun h3 h => lR h hk (q.t 1 h3)) (fun h3 h => Zb h fun x4 h5 h => lR h hk (((((q.f 1 h3).o [.cs (Zc x4)]).b (Zq Zc 19 (fun _ => rfl) a0.Objects)).b (Z2 h5)).b (Zv Zc h5)))
theorem Zbjh (a0 : Zd) (a1 : Int) {r : (Zf × Bool)} (h : Zabr a0 a1 = some r) : Fn PR 140 [(.agg (bx (Z4 a0))), (wI a1)] (Zadl r) :=
 Zb h fun y h0 h1 => FnG.of_cfg hT Go.Proofs.Tryz.func140 (by kernel_rfl : _ = some Za14) (by kernel_rfl) 18 (by kernel_rfl) (Nat.le_of_ble_eq_true rfl) [.c 4 44 true 19, .t 5] (by kernel_rfl) (by kernel_rfl) (Zbaj r a0 a1 y h0 (Z1 (fun s _ _ _ => nomatch s) h1))
noncomputable def Zaq0 : Code := (Go.Proofs.Tryz.f117.body).getD .skip
noncomputable def Z52 (r : (Zf × Bool)) : PV := (.tup [(.agg (bx (Zc r.1))), (wB r.2)])
noncomputable def Zanh (r : (Zf × Bool)) : List (Nat × Blk) := []
noncomputable def Za52 : Zlt → Cfg := fun s => nomatch s
noncomputable def Zbak : Zlt → PW.St := fun s => nomatch s
abbrev Za53 (r : (Zf × Bool)) (y : Zlt ⊕ (Zf × Bool)) : Prop := Ok PR [.c 4 44 true 19, .t 5] (Zanh) Z52 Za52 Zbak r y
theorem Za15 (r : (Zf × Bool)) (a0 : Zd) (a1 : Int) (y : Zlt ⊕ (Zf × Bool)) (h : Z2w a0 a1 = some y) (hk : Za53 r y) : (Cfg.code Zaq0 []).HH PR [.c 4 44 true 19, .t 5] Zanh Z52 r ⟨11, idx 0 [(.agg (bx (Z4 a0))), (wI a1)], []⟩ :=
 Zb h fun x1 h2 h => lR h hk ((q0.o [.lab 1002, .lab 1004, .call (.tup [(.agg (bx (Zc x1.1))), (wB x1.2)])]).b (Zbjh a0 a1 h2))
theorem Zani (a0 : Zd) (a1 : Int) {r : (Zf × Bool)} (h : Zti a0 a1 = some r) : Fn PR 117 [(.agg (bx (Z4 a0))), (wI a1)] (Z52 r) :=
 Zb h fun y h0 h1 => FnG.of_cfg hT Go.Proofs.Tryz.func117 (by kernel_rfl : _ = some Zaq0) (by kernel_rfl) 11 (by kernel_rfl) (Nat.le_of_ble_eq_true rfl) [.c 4 44 true 19, .t 5] (by kernel_rfl) (by kernel_rfl) (Za15 r a0 a1 y h0 (Z1 (fun s _ _ _ => nomatch s) h1))
noncomputable def Zahu : Code := (Go.Proofs.Tryz.f118.body).getD .skip
noncomputable def Zz6 (r : Int) : PV := (wI r)
noncomputable def Zadm (r : Int) : List (Nat × Blk) := []
noncomputable def Zanj : Zkl → Cfg
 | .L0 _ _ _ _ => (nav [1, 1, 0, 1, 4] Zahu []).getD (.done .normal)
noncomputable def Zaq1 : Zkl → PW.St
 | .L0 v0 v1 v5 v6 => ⟨22, [(0, (wL (cI .i64) v0)), (1, (wI v1)), (5, (wI v5)), (6, (wI v6))], []⟩
abbrev Zank (r : Int) (y : Zkl ⊕ Int) : Prop := Ok PR [.t 4] (Zadm) Zz6 Zanj Zaq1 r y
theorem Za16 (r : Int) (v0 : (List Int)) (v1 : Int) (v5 : Int) (v6 : Int) (y : Zkl ⊕ Int) (h : Zrq v0 v1 v5 v6 = some y) (hk : Zank r y) : (Zanj (.L0 v0 v1 v5 v6)).HH PR [.t 4] Zadm Zz6 r (Zaq1 (.L0 v0 v1 v5 v6)) := have q := (q0.n (v0.length : Int)).b (Zr (cI .i64) v0);
 Za h (fun h2 h => have q := (q.t 1 h2).b (Zq (cI .i64) 1 (fun _ => rfl) v0);
 Zb h fun x3 h4 h => have q := ((q.o [.cs ((cI .i64) x3)]).b (Z2 h4)).b (Zv (cI .i64) h4);
 Za h (fun h5 h => lG h hk ((q.t 1 h5).o [.pick [6, 5, 0, 1] [], .pick [0, 1, 5, 6] []])) (fun h5 h => lG h hk ((q.f 1 h5).o [.pick [6, 0, 1, 5] [], .pick [0, 1, 5, 6] []]))) (fun h2 h => lR h hk (q.f 1 h2))
theorem Za54 (r : Int) (a0 : (List Int)) (a1 : Int) (y : Zkl ⊕ Int) (h : Z61 a0 a1 = some y) (hk : Zank r y) : (Cfg.code Zahu []).HH PR [.t 4] Zadm Zz6 r ⟨22, idx 0 [(wL (cI .i64) a0), (wI a1)], []⟩ :=
 lG h hk (q0.o [.pick [6, 5, 1, 0] [], .pick [0, 1, 5, 6] []])
theorem Zadn (a0 : (List Int)) (a1 : Int) {r : Int} (h : Zqd a0 a1 = some r) : Fn PR 118 [(wL (cI .i64) a0), (wI a1)] (Zz6 r) :=
 Zb h fun y h0 h1 => FnG.of_cfg hT Go.Proofs.Tryz.func118 (by kernel_rfl : _ = some Zahu) (by kernel_rfl) 22 (by kernel_rfl) (Nat.le_of_ble_eq_true rfl) [.t 4] (by kernel_rfl) (by kernel_rfl) (Za54 r a0 a1 y h0 (Z1 (fun s y h hk => match s with
 | .L0 v0 v1 v5 v6 => Za16 r v0 v1 v5 v6 y h hk) h1))
noncomputable def Zalu : Code := (Go.Proofs.Tryz.f100.body).getD .skip
noncomputable def Z30 (r : Bool) : PV := (wB r)
noncomputable def Zahv (r : Bool) : List (Nat × Blk) := []
noncomputable def Zaq2 : Zjp → Cfg
 | .L0 _ _ _ _ _ => (nav [1, 0, 1, 4] Zalu []).getD (.done .normal)
noncomputable def Zavv : Zjp → PW.St
 | .L0 v1 v2 v3 E0 v9 => ⟨54, [(1, (wL (cI .i64) v1)), (2, (wI v2)), (3, (wI v3)), (4, (.bptr 30000000 0)), (9, (wI v9))], [(30000000, .box (bx (Z4 E0)))]⟩
abbrev Zaq3 (r : Bool) (y : Zjp ⊕ Bool) : Prop := Ok PR [.t 8] (Zahv) Z30 Zaq2 Zavv r y
theorem Za55 (r : Bool) (v1 : (List Int)) (v2 : Int) (v3 : Int) (E0 : Zd) (v9 : Int) (y : Zjp ⊕ Bool) (h : Zu3 v1 v2 v3 E0 v9 = some y) (hk : Zaq3 r y) : (Zaq2 (.L0 v1 v2 v3 E0 v9)).HH PR [.t 8] Zahv Z30 r (Zavv (.L0 v1 v2 v3 E0 v9)) := have q := (q0.n (v1.length : Int)).b (Zr (cI .i64) v1);
 Za h (fun h2 h => have q := (q.t 1 h2).b (Zq (cI .i64) 1 (fun _ => rfl) v1);
 Zb h fun x3 h4 h => have q := ((q.o [.cs ((cI .i64) x3)]).b (Z2 h4)).b (Zv (cI .i64) h4);
 Zb h fun x5 h6 h => have q := (q.o [.call (.tup [(.agg (bx (Zc x5.1))), (wB x5.2)]), .lab 1010]).b (Zani E0 x3 h6);
 Za h (fun h7 h => lR h hk (((q.tt 19).a 5 h7).a 14 (Eq.refl true))) (fun h7 h => have q := q.f 5 h7;
 Za h (fun h8 h => lR h hk (((q.tt 14).a 5 h8).a 9 (Eq.refl true))) (fun h8 h => have q := q.f 3 h8;
 Za h (fun h9 h => have q := (((q.t 4 h9).f 1 h8).t 1 h9).f 1 h8;
 Za h (fun h10 h => lR h hk (((q.tt 9).a 8 h10).b (Eq.refl true))) (fun h10 h => have q := ((((((q.f 4 h10).o [.cs ((cI .i64) x3)]).ff 2).b (Zq (cI .i64) 1 (fun _ => rfl) v1)).b (Z2 h4)).b (Zv (cI .i64) h4)).a 2 h10;
 Zb h fun x11 h12 h => have q := (((q.o [.call (wI x11)]).ff 2).b (Zadn v1 x3 h12)).a 2 h10;
 Za h (fun h13 h => lR h hk (q.t 1 h13)) (fun h13 h => lG h hk ((q.f 1 h13).o [.pick [9, 1, 2, 3, 4] [30000000], .pick [1, 2, 3, 4, 9] [30000000]])))) (fun h9 h => have q := (((((((((((q.ff 11).o [.cs ((cI .i64) x3)]).ff 2).a 4 h9).b h8).b h9).b h8).a 4 (Eq.refl false)).b (Zq (cI .i64) 1 (fun _ => rfl) v1)).b (Z2 h4)).b (Zv (cI .i64) h4)).a 2 (Eq.refl false);
 Zb h fun x16 h17 h => have q := (((q.o [.call (wI x16)]).ff 2).b (Zadn v1 x3 h17)).a 2 (Eq.refl false);
 Za h (fun h18 h => lR h hk (q.t 1 h18)) (fun h18 h => lG h hk ((q.f 1 h18).o [.pick [9, 1, 2, 3, 4] [30000000], .pick [1, 2, 3, 4, 9] [30000000]])))))) (fun h2 h => lR h hk (q.f 1 h2))
theorem Zbal (r : Bool) (a0 : Zd) (a1 : (List Int)) (a2 : Int) (a3 : Int) (y : Zjp ⊕ Bool) (h : Zaae a0 a1 a2 a3 = some y) (hk : Zaq3 r y) : (Cfg.code Zalu []).HH PR [.t 8] Zahv Z30 r ⟨54, idx 0 [(.agg (bx (Z4 a0))), (wL (cI .i64) a1), (wI a2), (wI a3)], []⟩ :=
 lG h hk (q0.o [.lab 1004, .pick [9, 4, 3, 2, 1] [1004], .relab 1004 30000000, .pick [1, 2, 3, 4, 9] [30000000]])
theorem Zze (a0 : Zd) (a1 : (List Int)) (a2 : Int) (a3 : Int) {r : Bool} (h : Zij a0 a1 a2 a3 = some r) : Fn PR 100 [(.agg (bx (Z4 a0))), (wL (cI .i64) a1), (wI a2), (wI a3)] (Z30 r) :=
 Zb h fun y h0 h1 => FnG.of_cfg hT Go.Proofs.Tryz.func100 (by kernel_rfl : _ = some Zalu) (by kernel_rfl) 54 (by kernel_rfl) (Nat.le_of_ble_eq_true rfl) [.t 8] (by kernel_rfl) (by kernel_rfl) (Zbal r a0 a1 a2 a3 y h0 (Z1 (fun s y h hk => match s with
 | .L0 v1 v2 v3 E0 v9 => Za55 r v1 v2 v3 E0 v9 y h hk) h1))
noncomputable def Z8u : Code := (Go.Proofs.Tryz.f78.body).getD .skip
noncomputable def Zvx (r : Bool) : PV := (wB r)
noncomputable def Z53 (r : Bool) : List (Nat × Blk) := []
noncomputable def Zafz : Zhy → Cfg
 | .L0 _ _ => (nav [1, 1, 0, 1, 4] Z8u []).getD (.done .normal)
noncomputable def Zai6 : Zhy → PW.St
 | .L0 E0 v3 => ⟨76, [(1, (.bptr 30000000 0)), (3, (wI v3))], [(30000000, .box (bx (Z4 E0)))]⟩
abbrev Zaf0 (r : Bool) (y : Zhy ⊕ Bool) : Prop := Ok PR [.t 2] (Z53) Zvx Zafz Zai6 r y
theorem Zatw (r : Bool) (E0 : Zd) (v3 : Int) (y : Zhy ⊕ Bool) (h : Zpc E0 v3 = some y) (hk : Zaf0 r y) : (Zafz (.L0 E0 v3)).HH PR [.t 2] Z53 Zvx r (Zai6 (.L0 E0 v3)) := have q := (q0.n (E0.Players.length : Int)).b (Zr Zg E0.Players);
 Za h (fun h2 h => have q := (q.t 1 h2).b (Zq Zg 14 (fun _ => rfl) E0.Players);
 Zb h fun x3 h4 h => have q := ((q.o [.cs (Zg x3), .lab 1004]).b (Z2 h4)).b (Zv Zg h4);
 Zb h fun x5 h6 h => have q := (q.k x5).b (Zj4 x3.Life (-1000000) 1000000 h6);
 Za h (fun h7 h => lR h hk (((q.tt 16).a 5 h7).a 11 (Eq.refl true))) (fun h7 h => have q := q.f 3 h7;
 Zb h fun x8 h9 h => have q := (((q.k x8).ff 2).b (Zj4 x3.Venom 0 1000000 h9)).a 2 h7;
 Za h (fun h10 h => lR h hk (((q.tt 11).a 5 h10).a 6 (Eq.refl true))) (fun h10 h => have q := q.f 3 h10;
 Zb h fun x11 h12 h => have q := (((q.k x11).ff 2).b (Zj4 x3.Lands 0 1000000 h12)).a 2 h10;
 Za h (fun h13 h => lR h hk (((q.tt 6).a 5 h13).b (Eq.refl true))) (fun h13 h => have q := q.f 3 h13;
 Zb h fun x14 h15 h => have q := (((q.k x14).ff 2).b (Zbe3 x3.Pool h15)).a 2 h13;
 Za h (fun h16 h => lR h hk (q.t 1 h16)) (fun h16 h => have q := q.f 1 h16;
 Zb h fun x17 h18 h => have q := (q.k x17).b (Zze E0 x3.Library 2 v3 h18);
 Za h (fun h19 h => lR h hk (((q.tt 15).a 7 h19).a 8 (Eq.refl true))) (fun h19 h => have q := q.f 5 h19;
 Zb h fun x20 h21 h => have q := (((q.k x20).ff 2).b (Zze E0 x3.Hand 1 v3 h21)).a 2 h19;
 Za h (fun h22 h => lR h hk (((q.tt 8).a 7 h22).b (Eq.refl true))) (fun h22 h => have q := q.f 5 h22;
 Zb h fun x23 h24 h => have q := (((q.k x23).ff 2).b (Zze E0 x3.Graveyard 3 v3 h24)).a 2 h22;
 Za h (fun h25 h => lR h hk (q.t 1 h25)) (fun h25 h => lG h hk ((q.f 1 h25).o [.pick [3, 1] [30000000], .pick [1, 3] [30000000]]))))))))) (fun h2 h => have q := q.f 1 h2;
 Zb h fun x28 h29 h => have q := (q.k x28).b (Zze E0 E0.Battlefield 0 (-1) h29);
 Za h (fun h30 h => Zb h fun x31 h32 h => lR h hk ((((q.t 4 h30).k x31).t 1 (Zze E0 E0.Exile 4 (-1) h32)).b h30)) (fun h30 h => lR h hk (q.f 5 h30)))
theorem Zaxx (r : Bool) (a0 : Zd) (y : Zhy ⊕ Bool) (h : Zzs a0 = some y) (hk : Zaf0 r y) : (Cfg.code Z8u []).HH PR [.t 2] Z53 Zvx r ⟨76, idx 0 [(.agg (bx (Z4 a0)))], []⟩ := have q := (q0.o [.lab 1001, .num (a0.Players.length : Int)]).b (Zr Zg a0.Players);
 Zb h fun x2 h3 h => have q := (q.k x2).b (Zj4 (a0.Players.length : Int) 2 4 h3);
 Za h (fun h4 h => lR h hk (q.t 1 h4)) (fun h4 h => lG h hk ((q.f 1 h4).o [.pick [3, 1] [1001], .relab 1001 30000000, .pick [1, 3] [30000000]]))
theorem Za56 (a0 : Zd) {r : Bool} (h : Zqr a0 = some r) : Fn PR 78 [(.agg (bx (Z4 a0)))] (Zvx r) :=
 Zb h fun y h0 h1 => FnG.of_cfg hT Go.Proofs.Tryz.func78 (by kernel_rfl : _ = some Z8u) (by kernel_rfl) 76 (by kernel_rfl) (Nat.le_of_ble_eq_true rfl) [.t 2] (by kernel_rfl) (by kernel_rfl) (Zaxx r a0 y h0 (Z1 (fun s y h hk => match s with
 | .L0 E0 v3 => Zatw r E0 v3 y h hk) h1))
noncomputable def Zaq4 : Code := (Go.Proofs.Tryz.f79.body).getD .skip
noncomputable def Z54 (r : Bool) : PV := (wB r)
noncomputable def Zanl (r : Bool) : List (Nat × Blk) := []
noncomputable def Za57 : Zlu → Cfg := fun s => nomatch s
noncomputable def Zbam : Zlu → PW.St := fun s => nomatch s
abbrev Za58 (r : Bool) (y : Zlu ⊕ Bool) : Prop := Ok PR [.t 4] (Zanl) Z54 Za57 Zbam r y
theorem Za17 (r : Bool) (a0 : Zd) (a1 : Int) (y : Zlu ⊕ Bool) (h : Zabt a0 a1 = some y) (hk : Za58 r y) : (Cfg.code Zaq4 []).HH PR [.t 4] Zanl Z54 r ⟨11, idx 0 [(.agg (bx (Z4 a0))), (wI a1)], []⟩ :=
 Zb h fun x4 h5 h => lR h hk (((q0.o [.lab 1002, .num (a0.Players.length : Int), .call (wB x4)]).b (Zr Zg a0.Players)).b (Zj4 a1 0 (IntKind.wrap .i64 ((a0.Players.length : Int) - 1)) h5))
theorem Zn9 (a0 : Zd) (a1 : Int) {r : Bool} (h : Znd a0 a1 = some r) : Fn PR 79 [(.agg (bx (Z4 a0))), (wI a1)] (Z54 r) :=
 Zb h fun y h0 h1 => FnG.of_cfg hT Go.Proofs.Tryz.func79 (by kernel_rfl : _ = some Zaq4) (by kernel_rfl) 11 (by kernel_rfl) (Nat.le_of_ble_eq_true rfl) [.t 4] (by kernel_rfl) (by kernel_rfl) (Za17 r a0 a1 y h0 (Z1 (fun s _ _ _ => nomatch s) h1))
noncomputable def Zaxy : Code := (Go.Proofs.Tryz.f119.body).getD .skip
noncomputable def Zaas (r : Bool) : PV := (wB r)
noncomputable def Zaq5 (r : Bool) : List (Nat × Blk) := []
noncomputable def Za18 : Zpl → Cfg
 | .L0 _ _ => (nav [1, 0, 1, 4] Zaxy []).getD (.done .normal)
noncomputable def Za7x : Zpl → PW.St
 | .L0 E0 v3 => ⟨18, [(1, (.bptr 30000000 0)), (3, (wI v3))], [(30000000, .box [(wI E0.a0), (wI E0.a1), (wI E0.a2)])]⟩
abbrev Za19 (r : Bool) (y : Zpl ⊕ Bool) : Prop := Ok PR [.t 2] (Zaq5) Zaas Za18 Za7x r y
theorem Zbe7 (r : Bool) (E0 : (A3 Int)) (v3 : Int) (y : Zpl ⊕ Bool) (h : Zae8 E0 v3 = some y) (hk : Za19 r y) : (Za18 (.L0 E0 v3)).HH PR [.t 2] Zaq5 Zaas r (Za7x (.L0 E0 v3)) :=
 Za h (fun h1 h => have q := (q0.t 1 h1).o [.nat (Int.toNat v3)];
 Zb h fun x2 h3 h => have q := ((((q.o [.cell 10 ((cI .i64) x2)]).b (Zaik (Tree.int .i64) E0 h3).1).b (Zaik (Tree.int .i64) E0 h3).2.1).b (Eq.refl (Int.toNat v3))).b (Ztc [] [] (Zaik (Tree.int .i64) E0 h3).2.2);
 Za h (fun h4 h => lR h hk (((q.tt 6).a 5 h4).b (Eq.refl true))) (fun h4 h => have q := ((q.f 2 h4).o [.nat (Int.toNat v3)]).ff 1;
 Zb h fun x5 h6 h => have q := (((((((q.o [.cell 15 ((cI .i64) x5)]).ff 2).b (Zaik (Tree.int .i64) E0 h6).1).b (Zaik (Tree.int .i64) E0 h6).2.1).b (Eq.refl (Int.toNat v3))).b h4).b (Ztc [] [] (Zaik (Tree.int .i64) E0 h6).2.2)).a 2 h4;
 Za h (fun h7 h => lR h hk (q.t 1 h7)) (fun h7 h => lG h hk ((q.f 1 h7).o [.pick [3, 1] [30000000], .pick [1, 3] [30000000]])))) (fun h1 h => lR h hk (q0.f 1 h1))
theorem Zbji (r : Bool) (a0 : (A3 Int)) (y : Zpl ⊕ Bool) (h : Zaww a0 = some y) (hk : Za19 r y) : (Cfg.code Zaxy []).HH PR [.t 2] Zaq5 Zaas r ⟨18, idx 0 [(.agg (List.map .t ((cA3 (cI .i64)) a0)))], []⟩ :=
 lG h hk (q0.o [.lab 1001, .pick [3, 1] [1001], .relab 1001 30000000, .pick [1, 3] [30000000]])
theorem Zbn3 (a0 : (A3 Int)) {r : Bool} (h : Za0h a0 = some r) : Fn PR 119 [(.agg (List.map .t ((cA3 (cI .i64)) a0)))] (Zaas r) :=
 Zb h fun y h0 h1 => FnG.of_cfg hT Go.Proofs.Tryz.func119 (by kernel_rfl : _ = some Zaxy) (by kernel_rfl) 18 (by kernel_rfl) (Nat.le_of_ble_eq_true rfl) [.t 2] (by kernel_rfl) (by kernel_rfl) (Zbji r a0 y h0 (Z1 (fun s y h hk => match s with
 | .L0 E0 v3 => Zbe7 r E0 v3 y h hk) h1))
noncomputable def Za2a : Code := (Go.Proofs.Tryz.f120.body).getD .skip
noncomputable def Zado (r : Zf) : PV := (.agg (bx (Zc r)))
noncomputable def Zavw (r : Zf) : List (Nat × Blk) := []
noncomputable def Zbe8 : Zov → Cfg := fun s => nomatch s
noncomputable def Zbjj : Zov → PW.St := fun s => nomatch s
abbrev Zbe9 (r : Zf) (y : Zov ⊕ Zf) : Prop := Ok PR [.c 2 44 true 19] (Zavw) Zado Zbe8 Zbjj r y
theorem Zban (r : Zf) (a0 : Zf) (y : Zov ⊕ Zf) (h : Zaks a0 = some y) (hk : Zbe9 r y) : (Cfg.code Za2a []).HH PR [.c 2 44 true 19] Zavw Zado r ⟨7, idx 0 [(.agg (bx (Zc a0)))], []⟩ :=
 lR h hk (q0.o [.lab 1001, .lab 1002])
theorem Zbjk (a0 : Zf) {r : Zf} (h : Zakt a0 = some r) : Fn PR 120 [(.agg (bx (Zc a0)))] (Zado r) :=
 Zb h fun y h0 h1 => FnG.of_cfg hT Go.Proofs.Tryz.func120 (by kernel_rfl : _ = some Za2a) (by kernel_rfl) 7 (by kernel_rfl) (Nat.le_of_ble_eq_true rfl) [.c 2 44 true 19] (by kernel_rfl) (by kernel_rfl) (Zban r a0 y h0 (Z1 (fun s _ _ _ => nomatch s) h1))
noncomputable def Zavx : Code := (Go.Proofs.Tryz.f121.body).getD .skip
noncomputable def Z8v (r : Zf) : PV := (.agg (bx (Zc r)))
noncomputable def Zaq6 (r : Zf) : List (Nat × Blk) := []
noncomputable def Zbao : Zne → Cfg := fun s => nomatch s
noncomputable def Zbfa : Zne → PW.St := fun s => nomatch s
abbrev Zbap (r : Zf) (y : Zne ⊕ Zf) : Prop := Ok PR [.c 2 44 true 19] (Zaq6) Z8v Zbao Zbfa r y
theorem Za59 (r : Zf) (a0 : Zf) (y : Zne ⊕ Zf) (h : Zagw a0 = some y) (hk : Zbap r y) : (Cfg.code Zavx []).HH PR [.c 2 44 true 19] Zaq6 Z8v r ⟨7, idx 0 [(.agg (bx (Zc a0)))], []⟩ :=
 lR h hk (q0.o [.lab 1001, .lab 1002])
theorem Zbfb (a0 : Zf) {r : Zf} (h : Zae9 a0 = some r) : Fn PR 121 [(.agg (bx (Zc a0)))] (Z8v r) :=
 Zb h fun y h0 h1 => FnG.of_cfg hT Go.Proofs.Tryz.func121 (by kernel_rfl : _ = some Zavx) (by kernel_rfl) 7 (by kernel_rfl) (Nat.le_of_ble_eq_true rfl) [.c 2 44 true 19] (by kernel_rfl) (by kernel_rfl) (Za59 r a0 y h0 (Z1 (fun s _ _ _ => nomatch s) h1))
noncomputable def Zbfc : Code := (Go.Proofs.Tryz.f101.body).getD .skip
noncomputable def Zalv (r : Bool) : PV := (wB r)
noncomputable def Za7y (r : Bool) : List (Nat × Blk) := []
noncomputable def Zbl1 : Ztj → Cfg := fun s => nomatch s
noncomputable def Zbn4 : Ztj → PW.St := fun s => nomatch s
abbrev Zbl2 (r : Bool) (y : Ztj ⊕ Bool) : Prop := Ok PR [.t 6] (Za7y) Zalv Zbl1 Zbn4 r y
theorem Zbjl (r : Bool) (a0 : Zf) (a1 : Int) (a2 : Int) (y : Ztj ⊕ Bool) (h : Zawx a0 a1 a2 = some y) (hk : Zbl2 r y) : (Cfg.code Zbfc []).HH PR [.t 6] Za7y Zalv r ⟨148, idx 0 [(.agg (bx (Zc a0))), (wI a1), (wI a2)], []⟩ := have q := q0.o [.lab 1003];
 Za h (fun h1 h => lR h hk (((q.tt 36).a 4 h1).a 32 (Eq.refl true))) (fun h1 h => have q := q.f 4 h1;
 Za h (fun h2 h => lR h hk (((q.tt 32).a 5 h2).a 27 (Eq.refl true))) (fun h2 h => have q := q.f 5 h2;
 Za h (fun h3 h => lR h hk (((q.tt 27).a 4 h3).a 23 (Eq.refl true))) (fun h3 h => have q := q.f 4 h3;
 Za h (fun h4 h => lR h hk (((q.tt 23).a 5 h4).a 18 (Eq.refl true))) (fun h4 h => have q := q.f 5 h4;
 Za h (fun h5 h => lR h hk (((q.tt 18).a 4 h5).a 14 (Eq.refl true))) (fun h5 h => have q := q.f 4 h5;
 Za h (fun h6 h => lR h hk (((q.tt 14).a 5 h6).a 9 (Eq.refl true))) (fun h6 h => have q := q.f 5 h6;
 Za h (fun h7 h => lR h hk (((q.tt 9).a 4 h7).a 5 (Eq.refl true))) (fun h7 h => have q := q.f 4 h7;
 Za h (fun h8 h => lR h hk (((q.tt 5).a 4 h8).b (Eq.refl true))) (fun h8 h => have q := q.f 4 h8;
 Za h (fun h9 h => lR h hk (q.t 1 h9)) (fun h9 h => have q := q.f 1 h9;
 Za h (fun h10 h => lR h hk (((q.tt 29).a 4 h10).a 25 (Eq.refl true))) (fun h10 h => have q := q.f 4 h10;
 Za h (fun h11 h => lR h hk (((q.tt 25).a 4 h11).a 21 (Eq.refl true))) (fun h11 h => have q := q.f 4 h11;
 Za h (fun h12 h => lR h hk (((q.tt 21).a 4 h12).a 17 (Eq.refl true))) (fun h12 h => have q := q.f 4 h12;
 Za h (fun h13 h => lR h hk (((q.tt 17).a 4 h13).a 13 (Eq.refl true))) (fun h13 h => have q := q.f 4 h13;
 Za h (fun h14 h => lR h hk (((q.tt 13).a 4 h14).a 9 (Eq.refl true))) (fun h14 h => have q := q.f 4 h14;
 Za h (fun h15 h => lR h hk (((q.tt 9).a 4 h15).a 5 (Eq.refl true))) (fun h15 h => have q := q.f 4 h15;
 Za h (fun h16 h => lR h hk (((q.tt 5).a 4 h16).b (Eq.refl true))) (fun h16 h => have q := q.f 4 h16;
 Za h (fun h17 h => lR h hk (q.t 1 h17)) (fun h17 h => have q := q.f 1 h17;
 Zb h fun x18 h19 h => have q := (q.k x18).b (Zbn3 a0.Counters h19);
 Za h (fun h20 h => lR h hk (((q.tt 19).a 4 h20).a 15 (Eq.refl true))) (fun h20 h => have q := q.f 4 h20;
 Za h (fun h21 h => lR h hk (((q.tt 15).a 5 h21).a 10 (Eq.refl true))) (fun h21 h => have q := q.f 5 h21;
 Za h (fun h22 h => lR h hk (((q.tt 10).a 4 h22).a 6 (Eq.refl true))) (fun h22 h => have q := q.f 4 h22;
 Za h (fun h23 h => lR h hk (((q.tt 6).a 5 h23).b (Eq.refl true))) (fun h23 h => have q := q.f 5 h23;
 Za h (fun h24 h => lR h hk (q.t 1 h24)) (fun h24 h => have q := q.f 1 h24;
 Za h (fun h25 h => lR h hk (q.t 13 h25)) (fun h25 h => have q := q.f 3 h25;
 Zb h fun x26 h27 h => have q := (((q.o [.call (.agg (bx (Zc x26)))]).ff 2).b (Zbjk a0 h27)).a 2 h25;
 Za h (fun h28 h => have q := q.t 3 h28;
 Zb h fun x29 h30 h => have q := (((((q.o [.call (.agg (bx (Zc x29)))]).t 1 (Zbfb a0 h30)).f 1 h28).t 1 h25).f 1 h28).b h25;
 Za h (fun h31 h => have q := (((q.t 3 h31).f 1 h25).t 1 h31).f 1 h25;
 Za h (fun h32 h => have q := (((q.t 3 h32).f 1 h25).t 1 h32).f 1 h25;
 Za h (fun h33 h => lR h hk ((((q.t 4 h33).f 1 h25).t 1 h33).f 1 h25)) (fun h33 h => lR h hk (((((q.ff 7).a 4 h33).b h25).b h33).b h25))) (fun h32 h => lR h hk (((((((((q.ff 13).a 3 h32).b h25).b h32).b h25).a 4 (Eq.refl false)).b h25).b (Eq.refl false)).b h25))) (fun h31 h => lR h hk (((((((((((((q.ff 19).a 3 h31).b h25).b h31).b h25).a 3 (Eq.refl false)).b h25).b (Eq.refl false)).b h25).a 4 (Eq.refl false)).b h25).b (Eq.refl false)).b h25))) (fun h28 h => lR h hk (((((((((((((((((q.ff 26).a 4 h28).b h25).b h28).b h25).a 3 (Eq.refl false)).b h25).b (Eq.refl false)).b h25).a 3 (Eq.refl false)).b h25).b (Eq.refl false)).b h25).a 4 (Eq.refl false)).b h25).b (Eq.refl false)).b h25)))))))))))))))))))))))))
theorem Zbn5 (a0 : Zf) (a1 : Int) (a2 : Int) {r : Bool} (h : Za0i a0 a1 a2 = some r) : Fn PR 101 [(.agg (bx (Zc a0))), (wI a1), (wI a2)] (Zalv r) :=
 Zb h fun y h0 h1 => FnG.of_cfg hT Go.Proofs.Tryz.func101 (by kernel_rfl : _ = some Zbfc) (by kernel_rfl) 148 (by kernel_rfl) (Nat.le_of_ble_eq_true rfl) [.t 6] (by kernel_rfl) (by kernel_rfl) (Zbjl r a0 a1 a2 y h0 (Z1 (fun s _ _ _ => nomatch s) h1))
noncomputable def Zadp : Code := (Go.Proofs.Tryz.f122.body).getD .skip
noncomputable def Zyk (r : Int) : PV := (wI r)
noncomputable def Z8w (r : Int) : List (Nat × Blk) := []
noncomputable def Zai7 : Zi6 → Cfg
 | .L0 _ _ _ _ => (nav [1, 1, 0, 1, 4] Zadp []).getD (.done .normal)
noncomputable def Zanm : Zi6 → PW.St
 | .L0 v1 E0 v5 v6 => ⟨34, [(1, (wI v1)), (2, (.bptr 30000000 0)), (5, (wI v5)), (6, (wI v6))], [(30000000, .box (bx (Z4 E0)))]⟩
abbrev Zai8 (r : Int) (y : Zi6 ⊕ Int) : Prop := Ok PR [.t 4] (Z8w) Zyk Zai7 Zanm r y
theorem Zaxz (r : Int) (v1 : Int) (E0 : Zd) (v5 : Int) (v6 : Int) (y : Zi6 ⊕ Int) (h : Zzt v1 E0 v5 v6 = some y) (hk : Zai8 r y) : (Zai7 (.L0 v1 E0 v5 v6)).HH PR [.t 4] Z8w Zyk r (Zanm (.L0 v1 E0 v5 v6)) := have q := (q0.n (E0.Stack.length : Int)).b (Zr Zl E0.Stack);
 Za h (fun h2 h => have q := (q.t 1 h2).b (Zq Zl 94 (fun _ => rfl) E0.Stack);
 Zb h fun x3 h4 h => have q := ((q.o [.cs (Zl x3)]).b (Z2 h4)).b (Zv Zl h4);
 Za h (fun h5 h => have q := ((((((q.t 4 h5).o [.cs (Zl x3)]).tt 5).b (Zq Zl 94 (fun _ => rfl) E0.Stack)).b (Z2 h4)).b (Zv Zl h4)).a 5 h5;
 Za h (fun h6 h => lG h hk ((q.t 1 h6).o [.pick [6, 5, 1, 2] [30000000], .pick [1, 2, 5, 6] [30000000]])) (fun h6 h => lG h hk ((q.f 1 h6).o [.pick [6, 1, 2, 5] [30000000], .pick [1, 2, 5, 6] [30000000]]))) (fun h5 h => lG h hk ((((q.ff 10).o [.pick [6, 1, 2, 5] [30000000], .pick [1, 2, 5, 6] [30000000]]).a 9 h5).b (Eq.refl false)))) (fun h2 h => lR h hk (q.f 1 h2))
theorem Za2b (r : Int) (a0 : Zd) (a1 : Int) (y : Zi6 ⊕ Int) (h : Zabu a0 a1 = some y) (hk : Zai8 r y) : (Cfg.code Zadp []).HH PR [.t 4] Z8w Zyk r ⟨34, idx 0 [(.agg (bx (Z4 a0))), (wI a1)], []⟩ :=
 lG h hk (q0.o [.lab 1002, .pick [6, 5, 2, 1] [1002], .relab 1002 30000000, .pick [1, 2, 5, 6] [30000000]])
theorem Zbaq (a0 : Zd) (a1 : Int) {r : Int} (h : Zaaf a0 a1 = some r) : Fn PR 122 [(.agg (bx (Z4 a0))), (wI a1)] (Zyk r) :=
 Zb h fun y h0 h1 => FnG.of_cfg hT Go.Proofs.Tryz.func122 (by kernel_rfl : _ = some Zadp) (by kernel_rfl) 34 (by kernel_rfl) (Nat.le_of_ble_eq_true rfl) [.t 4] (by kernel_rfl) (by kernel_rfl) (Za2b r a0 a1 y h0 (Z1 (fun s y h hk => match s with
 | .L0 v1 E0 v5 v6 => Zaxz r v1 E0 v5 v6 y h hk) h1))
noncomputable def Za2c : Code := (Go.Proofs.Tryz.f40.body).getD .skip
noncomputable def Zadq (r : (List Int)) : PV := (.osl 5000 (List.map (cI .i64) r).length)
noncomputable def Zahw (r : (List Int)) : List (Nat × Blk) := [(5000, .row 1 (List.map (cI .i64) r))]
noncomputable def Zbfd : Zow → Cfg := fun s => nomatch s
noncomputable def Zbjm : Zow → PW.St := fun s => nomatch s
abbrev Zbfe (r : (List Int)) (y : Zow ⊕ (List Int)) : Prop := Ok PR [.t 2] (Zahw) Zadq Zbfd Zbjm r y
theorem Zbar (r : (List Int)) (a0 : (List Int)) (y : Zow ⊕ (List Int)) (h : Zaag a0 = some y) (hk : Zbfe r y) : (Cfg.code Za2c []).HH PR [.t 2] Zahw Zadq r ⟨6, idx 0 [(wL (cI .i64) a0)], []⟩ :=
 Zb h fun x1 h2 h => lO h hk [5000] ((((((q0.o [.lab 1003, .es (List.map (cI .i64) x1), .relab 1003 5000]).b (Eq.refl (List.map (cI .i64) ([] : (List Int))).length)).b (Zdw (cI .i64) h2)).b (Zq (cI .i64) 1 (fun _ => rfl) a0)).b (Zdx (cI .i64) h2)).b (Zcb (cI .i64) h2))
theorem Zw6 (a0 : (List Int)) {r : (List Int)} (h : Zqs a0 = some r) : FnG PR 40 [] [(wL (cI .i64) a0)] ((Zahw) r) (Zadq r) :=
 Zb h fun y h0 h1 => FnG.of_cfg hT Go.Proofs.Tryz.func40 (by kernel_rfl : _ = some Za2c) (by kernel_rfl) 6 (by kernel_rfl) (Nat.le_of_ble_eq_true rfl) [.t 2] (by kernel_rfl) (by kernel_rfl) (Zbar r a0 y h0 (Z1 (fun s _ _ _ => nomatch s) h1))
noncomputable def Za2d : Code := (Go.Proofs.Tryz.f123.body).getD .skip
noncomputable def Zadr (r : (List Int)) : PV := (.osl 5000 (List.map (cI .i64) r).length)
noncomputable def Zahx (r : (List Int)) : List (Nat × Blk) := [(5000, .row 1 (List.map (cI .i64) r))]
noncomputable def Zbff : Zox → Cfg := fun s => nomatch s
noncomputable def Zbjn : Zox → PW.St := fun s => nomatch s
abbrev Zbfg (r : (List Int)) (y : Zox ⊕ (List Int)) : Prop := Ok PR [.t 6] (Zahx) Zadr Zbff Zbjn r y
theorem Zbas (r : (List Int)) (a0 : Zd) (a1 : Int) (a2 : Int) (y : Zox ⊕ (List Int)) (h : Zaah a0 a1 a2 = some y) (hk : Zbfg r y) : (Cfg.code Za2d []).HH PR [.t 6] Zahx Zadr r ⟨55, idx 0 [(.agg (bx (Z4 a0))), (wI a1), (wI a2)], []⟩ := have q := q0.o [.lab 1003];
 Za h (fun h1 h => Zb h fun x2 h3 h => lO h hk [5000] (((q.t 1 h1).o [.callO false [] 130000 [(5000, .row 1 (List.map (cI .i64) x2))] (.osl 5000 (List.map (cI .i64) x2).length), .relab 135000 5000]).b (Zw6 a0.Battlefield h3))) (fun h1 h => have q := q.f 1 h1;
 Za h (fun h4 h => Zb h fun x5 h6 h => lO h hk [5000] (((q.t 1 h4).o [.callO false [] 180000 [(5000, .row 1 (List.map (cI .i64) x5))] (.osl 5000 (List.map (cI .i64) x5).length), .relab 185000 5000]).b (Zw6 a0.Exile h6))) (fun h4 h => have q := q.f 1 h4;
 Za h (fun h7 h => lO h hk [5000] ((((q.tt 7).o [.own 6 5000 1]).a 6 h7).b (Eq.refl true))) (fun h7 h => have q := ((((q.f 4 h7).n (a0.Players.length : Int)).ff 2).b (Zr Zg a0.Players)).a 2 h7;
 Za h (fun h9 h => lO h hk [5000] ((q.t 1 h9).o [.own 6 5000 1])) (fun h9 h => have q := q.f 1 h9;
 Za h (fun h10 h => Zb h fun x11 h12 h => Zb h fun x13 h14 h => lO h hk [5000] ((((((q.t 1 h10).o [.cs (Zg x11), .callO false [] 370000 [(5000, .row 1 (List.map (cI .i64) x13))] (.osl 5000 (List.map (cI .i64) x13).length), .relab 375000 5000]).b (Zq Zg 14 (fun _ => rfl) a0.Players)).b (Z2 h12)).b (Zv Zg h12)).b (Zw6 x11.Hand h14))) (fun h10 h => have q := q.f 1 h10;
 Za h (fun h15 h => Zb h fun x16 h17 h => Zb h fun x18 h19 h => lO h hk [5000] ((((((q.t 1 h15).o [.cs (Zg x16), .callO false [] 460000 [(5000, .row 1 (List.map (cI .i64) x18))] (.osl 5000 (List.map (cI .i64) x18).length), .relab 465000 5000]).b (Zq Zg 14 (fun _ => rfl) a0.Players)).b (Z2 h17)).b (Zv Zg h17)).b (Zw6 x16.Library h19))) (fun h15 h => have q := q.f 1 h15;
 Za h (fun h20 h => Zb h fun x21 h22 h => Zb h fun x23 h24 h => lO h hk [5000] ((((((q.t 1 h20).o [.cs (Zg x21), .callO false [] 550000 [(5000, .row 1 (List.map (cI .i64) x23))] (.osl 5000 (List.map (cI .i64) x23).length), .relab 555000 5000]).b (Zq Zg 14 (fun _ => rfl) a0.Players)).b (Z2 h22)).b (Zv Zg h22)).b (Zw6 x21.Graveyard h24))) (fun h20 h => lO h hk [5000] ((q.f 1 h20).o [.own 6 5000 1]))))))))
theorem Zbfh (a0 : Zd) (a1 : Int) (a2 : Int) {r : (List Int)} (h : Z5i a0 a1 a2 = some r) : FnG PR 123 [] [(.agg (bx (Z4 a0))), (wI a1), (wI a2)] ((Zahx) r) (Zadr r) :=
 Zb h fun y h0 h1 => FnG.of_cfg hT Go.Proofs.Tryz.func123 (by kernel_rfl : _ = some Za2d) (by kernel_rfl) 55 (by kernel_rfl) (Nat.le_of_ble_eq_true rfl) [.t 6] (by kernel_rfl) (by kernel_rfl) (Zbas r a0 a1 a2 y h0 (Z1 (fun s _ _ _ => nomatch s) h1))
theorem Zbjo (a0 : Zd) (a1 : Int) (a2 : Int) {r : (List Int)} (h : Z5i a0 a1 a2 = some r) : Fn PR 123 [(.agg (bx (Z4 a0))), (wI a1), (wI a2)] (wL (cI .i64) r) :=
 FnG.frozen (Zbfh a0 a1 a2 h) (And.intro (Eq.refl (List.map (cI .i64) r).length) trivial) (by kernel_rfl)
noncomputable def Zaq7 : Code := (Go.Proofs.Tryz.f102.body).getD .skip
noncomputable def Z55 (r : Bool) : PV := (wB r)
noncomputable def Zann (r : Bool) : List (Nat × Blk) := []
noncomputable def Za6a : Zlv → Cfg := fun s => nomatch s
noncomputable def Zbat : Zlv → PW.St := fun s => nomatch s
abbrev Za6b (r : Bool) (y : Zlv ⊕ Bool) : Prop := Ok PR [.t 4] (Zann) Z55 Za6a Zbat r y
theorem Za2e (r : Bool) (a0 : Zd) (a1 : Zf) (y : Zlv ⊕ Bool) (h : Z2x a0 a1 = some y) (hk : Za6b r y) : (Cfg.code Zaq7 []).HH PR [.t 4] Zann Z55 r ⟨23, idx 0 [(.agg (bx (Z4 a0))), (.agg (bx (Zc a1)))], []⟩ := have q := q0.o [.lab 1002, .lab 1003];
 Za h (fun h1 h => Zb h fun x2 h3 h => lR h hk (((q.t 1 h1).o [.call (wI x2)]).b (Zbaq a0 a1.Id h3))) (fun h1 h => Zb h fun x4 h5 h => Zb h fun x6 h7 h => lR h hk ((((q.f 1 h1).o [.call (wL (cI .i64) x4), .call (wI x6)]).b (Zbjo a0 a1.Zone a1.Owner h5)).b (Zadn x4 a1.Id h7)))
theorem Zano (a0 : Zd) (a1 : Zf) {r : Bool} (h : Zoy a0 a1 = some r) : Fn PR 102 [(.agg (bx (Z4 a0))), (.agg (bx (Zc a1)))] (Z55 r) :=
 Zb h fun y h0 h1 => FnG.of_cfg hT Go.Proofs.Tryz.func102 (by kernel_rfl : _ = some Zaq7) (by kernel_rfl) 23 (by kernel_rfl) (Nat.le_of_ble_eq_true rfl) [.t 4] (by kernel_rfl) (by kernel_rfl) (Za2e r a0 a1 y h0 (Z1 (fun s _ _ _ => nomatch s) h1))
noncomputable def Z8x : Code := (Go.Proofs.Tryz.f80.body).getD .skip
noncomputable def Zvy (r : Bool) : PV := (wB r)
noncomputable def Z56 (r : Bool) : List (Nat × Blk) := []
noncomputable def Zaf1 : Zhz → Cfg
 | .L0 _ _ _ => (nav [1, 1, 0, 1, 4] Z8x []).getD (.done .normal)
noncomputable def Zai9 : Zhz → PW.St
 | .L0 v0 E0 v5 => ⟨65, [(0, (wL Z8 v0)), (3, (.bptr 30000000 0)), (5, (wI v5))], [(30000000, .box (bx (Z4 E0)))]⟩
abbrev Zaf2 (r : Bool) (y : Zhz ⊕ Bool) : Prop := Ok PR [.t 4] (Z56) Zvy Zaf1 Zai9 r y
theorem Zatx (r : Bool) (v0 : (List Zw)) (E0 : Zd) (v5 : Int) (y : Zhz ⊕ Bool) (h : Zpd v0 E0 v5 = some y) (hk : Zaf2 r y) : (Zaf1 (.L0 v0 E0 v5)).HH PR [.t 4] Z56 Zvy r (Zai9 (.L0 v0 E0 v5)) := have q := (q0.n (E0.Objects.length : Int)).b (Zr Zc E0.Objects);
 Za h (fun h2 h => have q := (q.t 1 h2).b (Zq Zc 19 (fun _ => rfl) E0.Objects);
 Zb h fun x3 h4 h => have q := ((((q.o [.cs (Zc x3), .lab 1006, .num (v0.length : Int), .num (E0.Players.length : Int)]).b (Z2 h4)).b (Zv Zc h4)).b (Zr Z8 v0)).b (Zr Zg E0.Players);
 Zb h fun x7 h8 h => have q := (q.k x7).b (Zbn5 x3 (v0.length : Int) (E0.Players.length : Int) h8);
 Za h (fun h9 h => lR h hk (((q.tt 18).a 6 h9).a 12 (Eq.refl true))) (fun h9 h => have q := q.f 6 h9;
 Za h (fun h10 h => lR h hk (((q.tt 12).a 6 h10).a 6 (Eq.refl true))) (fun h10 h => have q := q.f 6 h10;
 Za h (fun h11 h => lR h hk (((q.tt 6).a 5 h11).b (Eq.refl true))) (fun h11 h => have q := q.f 3 h11;
 Za h (fun h12 h => have q := (q.t 5 h12).b (Zq Zc 19 (fun _ => rfl) E0.Objects);
 Zb h fun x15 h16 h => have q := ((((((((q.o [.cs (Zc x15)]).tt 5).f 1 (Z2 h16)).t 1 (Zv Zc h16)).ff 1).a 5 h12).b h11).b h12).b h11;
 Za h (fun h17 h => lR h hk (q.t 1 h17)) (fun h17 h => have q := q.f 1 h17;
 Zb h fun x18 h19 h => have q := (q.k x18).b (Zano E0 x3 h19);
 Za h (fun h20 h => lR h hk (q.t 1 h20)) (fun h20 h => lG h hk ((q.f 1 h20).o [.pick [5, 0, 3] [30000000], .pick [0, 3, 5] [30000000]])))) (fun h12 h => have q := (((((q.ff 14).a 10 h12).b h11).b h12).b h11).b (Eq.refl false);
 Zb h fun x23 h24 h => have q := (q.k x23).b (Zano E0 x3 h24);
 Za h (fun h25 h => lR h hk (q.t 1 h25)) (fun h25 h => lG h hk ((q.f 1 h25).o [.pick [5, 0, 3] [30000000], .pick [0, 3, 5] [30000000]]))))))) (fun h2 h => lR h hk (q.f 1 h2))
theorem Zax0 (r : Bool) (a0 : (List Zw)) (a1 : Zd) (y : Zhz ⊕ Bool) (h : Zzu a0 a1 = some y) (hk : Zaf2 r y) : (Cfg.code Z8x []).HH PR [.t 4] Z56 Zvy r ⟨65, idx 0 [(wL Z8 a0), (.agg (bx (Z4 a1)))], []⟩ := have q := (q0.o [.lab 1003, .num (a1.Objects.length : Int)]).b (Zr Zc a1.Objects);
 Za h (fun h2 h => lR h hk (q.t 1 h2)) (fun h2 h => lG h hk ((q.f 1 h2).o [.pick [5, 3, 0] [1003], .relab 1003 30000000, .pick [0, 3, 5] [30000000]]))
theorem Zyl (a0 : (List Zw)) (a1 : Zd) {r : Bool} (h : Zid a0 a1 = some r) : Fn PR 80 [(wL Z8 a0), (.agg (bx (Z4 a1)))] (Zvy r) :=
 Zb h fun y h0 h1 => FnG.of_cfg hT Go.Proofs.Tryz.func80 (by kernel_rfl : _ = some Z8x) (by kernel_rfl) 65 (by kernel_rfl) (Nat.le_of_ble_eq_true rfl) [.t 4] (by kernel_rfl) (by kernel_rfl) (Zax0 r a0 a1 y h0 (Z1 (fun s y h hk => match s with
 | .L0 v0 E0 v5 => Zatx r v0 E0 v5 y h hk) h1))
noncomputable def Z57 : Code := (Go.Proofs.Tryz.f106.body).getD .skip
noncomputable def Ztp (r : Bool) : PV := (wB r)
noncomputable def Z31 (r : Bool) : List (Nat × Blk) := []
noncomputable def Zads : Zg5 → Cfg
 | .L0 _ _ _ => (nav [1, 1, 0, 1, 4] Z57 []).getD (.done .normal)
noncomputable def Zaf3 : Zg5 → PW.St
 | .L0 v0 v1 v5 => ⟨26, [(0, (wL Zp v0)), (1, (wL Zp v1)), (5, (wI v5))], []⟩
abbrev Zadt (r : Bool) (y : Zg5 ⊕ Bool) : Prop := Ok PR [.t 4] (Z31) Ztp Zads Zaf3 r y
theorem Zaq8 (r : Bool) (v0 : (List Zh)) (v1 : (List Zh)) (v5 : Int) (y : Zg5 ⊕ Bool) (h : Zvs v0 v1 v5 = some y) (hk : Zadt r y) : (Zads (.L0 v0 v1 v5)).HH PR [.t 4] Z31 Ztp r (Zaf3 (.L0 v0 v1 v5)) := have q := (q0.n (v0.length : Int)).b (Zr Zp v0);
 Za h (fun h2 h => have q := (q.t 1 h2).b (Zq Zp 20 (fun _ => rfl) v0);
 Zb h fun x3 h4 h => have q := (((q.o [.cs (Zp x3)]).b (Z2 h4)).b (Zv Zp h4)).b (Zq Zp 20 (fun _ => rfl) v1);
 Zb h fun x5 h6 h => have q := ((q.o [.cs (Zp x5)]).b (Z2 h6)).b (Zv Zp h6);
 Za h (fun h7 h => lR h hk (q.t 1 h7)) (fun h7 h => lG h hk ((q.f 1 h7).o [.pick [5, 0, 1] [], .pick [0, 1, 5] []]))) (fun h2 h => lR h hk (q.f 1 h2))
theorem Zaty (r : Bool) (a0 : (List Zh)) (a1 : (List Zh)) (y : Zg5 ⊕ Bool) (h : Z5j a0 a1 = some y) (hk : Zadt r y) : (Cfg.code Z57 []).HH PR [.t 4] Z31 Ztp r ⟨26, idx 0 [(wL Zp a0), (wL Zp a1)], []⟩ := have q := ((q0.o [.num (a0.length : Int), .num (a1.length : Int)]).b (Zr Zp a0)).b (Zr Zp a1);
 Za h (fun h3 h => lR h hk (q.t 1 h3)) (fun h3 h => lG h hk ((q.f 1 h3).o [.pick [5, 1, 0] [], .pick [0, 1, 5] []]))
theorem Zaf4 (a0 : (List Zh)) (a1 : (List Zh)) {r : Bool} (h : Zwr a0 a1 = some r) : Fn PR 106 [(wL Zp a0), (wL Zp a1)] (Ztp r) :=
 Zb h fun y h0 h1 => FnG.of_cfg hT Go.Proofs.Tryz.func106 (by kernel_rfl : _ = some Z57) (by kernel_rfl) 26 (by kernel_rfl) (Nat.le_of_ble_eq_true rfl) [.t 4] (by kernel_rfl) (by kernel_rfl) (Zaty r a0 a1 y h0 (Z1 (fun s y h hk => match s with
 | .L0 v0 v1 v5 => Zaq8 r v0 v1 v5 y h hk) h1))
noncomputable def Za2f : Code := (Go.Proofs.Tryz.f126.body).getD .skip
noncomputable def Zadu (r : Bool) : PV := (wB r)
noncomputable def Zavy (r : Bool) : List (Nat × Blk) := []
noncomputable def Zbfi : Zoz → Cfg := fun s => nomatch s
noncomputable def Zbjp : Zoz → PW.St := fun s => nomatch s
abbrev Zbfj (r : Bool) (y : Zoz ⊕ Bool) : Prop := Ok PR [.t 4] (Zavy) Zadu Zbfi Zbjp r y
theorem Zbau (r : Bool) (a0 : Zk) (a1 : Zk) (y : Zoz ⊕ Bool) (h : Zaku a0 a1 = some y) (hk : Zbfj r y) : (Cfg.code Za2f []).HH PR [.t 4] Zavy Zadu r ⟨66, idx 0 [(.agg (bx (Zj a0))), (.agg (bx (Zj a1)))], []⟩ := have q := q0.o [.lab 1002, .lab 1003];
 Za h (fun h1 h => have q := q.t 6 h1;
 Za h (fun h2 h => have q := q.t 6 h2;
 Za h (fun h3 h => have q := q.t 6 h3;
 Za h (fun h4 h => have q := q.t 6 h4;
 Za h (fun h5 h => have q := q.t 6 h5;
 Za h (fun h6 h => have q := q.t 6 h6;
 Za h (fun h7 h => have q := q.t 6 h7;
 Za h (fun h8 h => Zb h fun x9 h10 h => lR h hk ((((q.t 5 h8).k x9).t 1 (Zaf4 a0.Mods a1.Mods h10)).b h8)) (fun h8 h => lR h hk (q.f 6 h8))) (fun h7 h => lR h hk (((q.ff 12).a 6 h7).a 6 (Eq.refl false)))) (fun h6 h => lR h hk (((q.ff 18).a 6 h6).a 12 (Eq.refl false)))) (fun h5 h => lR h hk (((q.ff 24).a 6 h5).a 18 (Eq.refl false)))) (fun h4 h => lR h hk (((q.ff 30).a 6 h4).a 24 (Eq.refl false)))) (fun h3 h => lR h hk (((q.ff 36).a 6 h3).a 30 (Eq.refl false)))) (fun h2 h => lR h hk (((q.ff 42).a 6 h2).a 36 (Eq.refl false)))) (fun h1 h => lR h hk (((q.ff 48).a 6 h1).a 42 (Eq.refl false)))
theorem Zbjq (a0 : Zk) (a1 : Zk) {r : Bool} (h : Zakv a0 a1 = some r) : Fn PR 126 [(.agg (bx (Zj a0))), (.agg (bx (Zj a1)))] (Zadu r) :=
 Zb h fun y h0 h1 => FnG.of_cfg hT Go.Proofs.Tryz.func126 (by kernel_rfl : _ = some Za2f) (by kernel_rfl) 66 (by kernel_rfl) (Nat.le_of_ble_eq_true rfl) [.t 4] (by kernel_rfl) (by kernel_rfl) (Zbau r a0 a1 y h0 (Z1 (fun s _ _ _ => nomatch s) h1))
noncomputable def Z58 : Code := (Go.Proofs.Tryz.f107.body).getD .skip
noncomputable def Ztq (r : Bool) : PV := (wB r)
noncomputable def Z32 (r : Bool) : List (Nat × Blk) := []
noncomputable def Zadv : Zg6 → Cfg
 | .L0 _ _ _ => (nav [1, 1, 0, 1, 4] Z58 []).getD (.done .normal)
noncomputable def Zaf5 : Zg6 → PW.St
 | .L0 v0 v1 v5 => ⟨27, [(0, (wL Zj v0)), (1, (wL Zj v1)), (5, (wI v5))], []⟩
abbrev Zadw (r : Bool) (y : Zg6 ⊕ Bool) : Prop := Ok PR [.t 4] (Z32) Ztq Zadv Zaf5 r y
theorem Zaq9 (r : Bool) (v0 : (List Zk)) (v1 : (List Zk)) (v5 : Int) (y : Zg6 ⊕ Bool) (h : Zvt v0 v1 v5 = some y) (hk : Zadw r y) : (Zadv (.L0 v0 v1 v5)).HH PR [.t 4] Z32 Ztq r (Zaf5 (.L0 v0 v1 v5)) := have q := (q0.n (v0.length : Int)).b (Zr Zj v0);
 Za h (fun h2 h => have q := (q.t 1 h2).b (Zq Zj 64 (fun _ => rfl) v0);
 Zb h fun x3 h4 h => have q := (((q.o [.cs (Zj x3)]).b (Z2 h4)).b (Zv Zj h4)).b (Zq Zj 64 (fun _ => rfl) v1);
 Zb h fun x5 h6 h => have q := ((q.o [.cs (Zj x5)]).b (Z2 h6)).b (Zv Zj h6);
 Zb h fun x7 h8 h => have q := (q.k x7).b (Zbjq x3 x5 h8);
 Za h (fun h9 h => lR h hk (q.t 1 h9)) (fun h9 h => lG h hk ((q.f 1 h9).o [.pick [5, 0, 1] [], .pick [0, 1, 5] []]))) (fun h2 h => lR h hk (q.f 1 h2))
theorem Zatz (r : Bool) (a0 : (List Zk)) (a1 : (List Zk)) (y : Zg6 ⊕ Bool) (h : Z5k a0 a1 = some y) (hk : Zadw r y) : (Cfg.code Z58 []).HH PR [.t 4] Z32 Ztq r ⟨27, idx 0 [(wL Zj a0), (wL Zj a1)], []⟩ := have q := ((q0.o [.num (a0.length : Int), .num (a1.length : Int)]).b (Zr Zj a0)).b (Zr Zj a1);
 Za h (fun h3 h => lR h hk (q.t 1 h3)) (fun h3 h => lG h hk ((q.f 1 h3).o [.pick [5, 1, 0] [], .pick [0, 1, 5] []]))
theorem Za2g (a0 : (List Zk)) (a1 : (List Zk)) {r : Bool} (h : Z2y a0 a1 = some r) : Fn PR 107 [(wL Zj a0), (wL Zj a1)] (Ztq r) :=
 Zb h fun y h0 h1 => FnG.of_cfg hT Go.Proofs.Tryz.func107 (by kernel_rfl : _ = some Z58) (by kernel_rfl) 27 (by kernel_rfl) (Nat.le_of_ble_eq_true rfl) [.t 4] (by kernel_rfl) (by kernel_rfl) (Zatz r a0 a1 y h0 (Z1 (fun s y h hk => match s with
 | .L0 v0 v1 v5 => Zaq9 r v0 v1 v5 y h hk) h1))
noncomputable def Zalw : Code := (Go.Proofs.Tryz.f89.body).getD .skip
noncomputable def Z33 (r : Bool) : PV := (wB r)
noncomputable def Zahy (r : Bool) : List (Nat × Blk) := []
noncomputable def Zara : Zlw → Cfg
 | .L0 _ _ _ => (nav [1, 1, 0, 1, 4] Zalw []).getD (.done .normal)
noncomputable def Zavz : Zlw → PW.St
 | .L0 E0 E1 v5 => ⟨92, [(2, (.bptr 30000000 0)), (3, (.bptr 30000001 0)), (5, (wI v5))], [(30000000, .box (bx (Zac E0))), (30000001, .box (bx (Zac E1)))]⟩
abbrev Zarb (r : Bool) (y : Zlw ⊕ Bool) : Prop := Ok PR [.t 4] (Zahy) Z33 Zara Zavz r y
theorem Za6c (r : Bool) (E0 : Zs) (E1 : Zs) (v5 : Int) (y : Zlw ⊕ Bool) (h : Z62 E0 E1 v5 = some y) (hk : Zarb r y) : (Zara (.L0 E0 E1 v5)).HH PR [.t 4] Zahy Z33 r (Zavz (.L0 E0 E1 v5)) := have q := (q0.n (E0.Specs.length : Int)).b (Zr Z3 E0.Specs);
 Za h (fun h2 h => have q := (q.t 1 h2).b (Zq Z3 18 (fun _ => rfl) E0.Specs);
 Zb h fun x3 h4 h => have q := (((q.o [.cs (Z3 x3)]).b (Z2 h4)).b (Zv Z3 h4)).b (Zq Z3 18 (fun _ => rfl) E1.Specs);
 Zb h fun x5 h6 h => have q := ((q.o [.cs (Z3 x5)]).b (Z2 h6)).b (Zv Z3 h6);
 Za h (fun h7 h => lR h hk (q.t 1 h7)) (fun h7 h => lG h hk ((q.f 1 h7).o [.pick [5, 2, 3] [30000000, 30000001], .pick [2, 3, 5] [30000000, 30000001]]))) (fun h2 h => have q := q.f 1 h2;
 Za h (fun h10 h => have q := q.t 6 h10;
 Za h (fun h11 h => have q := q.t 5 h11;
 Zb h fun x12 h13 h => have q := ((q.k x12).t 1 (Zaf4 E0.Mods E1.Mods h13)).b h11;
 Za h (fun h14 h => have q := q.t 6 h14;
 Za h (fun h15 h => have q := q.t 6 h15;
 Za h (fun h16 h => have q := q.t 6 h16;
 Za h (fun h17 h => have q := q.t 6 h17;
 Za h (fun h18 h => have q := q.t 5 h18;
 Zb h fun x19 h20 h => have q := ((q.k x19).t 1 (Za2g E0.Effects E1.Effects h20)).b h18;
 Za h (fun h21 h => lR h hk (q.t 6 h21)) (fun h21 h => lR h hk (q.f 6 h21))) (fun h18 h => lR h hk (((q.ff 12).a 6 h18).a 6 (Eq.refl false)))) (fun h17 h => lR h hk (((q.ff 18).a 6 h17).a 12 (Eq.refl false)))) (fun h16 h => lR h hk (((q.ff 24).a 6 h16).a 18 (Eq.refl false)))) (fun h15 h => lR h hk (((q.ff 30).a 6 h15).a 24 (Eq.refl false)))) (fun h14 h => lR h hk (((q.ff 36).a 6 h14).a 30 (Eq.refl false)))) (fun h11 h => lR h hk (((q.ff 42).a 6 h11).a 36 (Eq.refl false)))) (fun h10 h => lR h hk (((q.ff 48).a 6 h10).a 42 (Eq.refl false))))
theorem Zbav (r : Bool) (a0 : Zs) (a1 : Zs) (y : Zlw ⊕ Bool) (h : Zakw a0 a1 = some y) (hk : Zarb r y) : (Cfg.code Zalw []).HH PR [.t 4] Zahy Z33 r ⟨92, idx 0 [(.agg (bx (Zac a0))), (.agg (bx (Zac a1)))], []⟩ := have q := ((q0.o [.lab 1002, .lab 1003, .num (a0.Specs.length : Int), .num (a1.Specs.length : Int)]).b (Zr Z3 a0.Specs)).b (Zr Z3 a1.Specs);
 Za h (fun h3 h => lR h hk (q.t 1 h3)) (fun h3 h => lG h hk ((q.f 1 h3).o [.pick [5, 3, 2] [1003, 1002], .relab 1002 30000000, .relab 1003 30000001, .pick [2, 3, 5] [30000000, 30000001]]))
theorem Zbjr (a0 : Zs) (a1 : Zs) {r : Bool} (h : Zakx a0 a1 = some r) : Fn PR 89 [(.agg (bx (Zac a0))), (.agg (bx (Zac a1)))] (Z33 r) :=
 Zb h fun y h0 h1 => FnG.of_cfg hT Go.Proofs.Tryz.func89 (by kernel_rfl : _ = some Zalw) (by kernel_rfl) 92 (by kernel_rfl) (Nat.le_of_ble_eq_true rfl) [.t 4] (by kernel_rfl) (by kernel_rfl) (Zbav r a0 a1 y h0 (Z1 (fun s y h hk => match s with
 | .L0 E0 E1 v5 => Za6c r E0 E1 v5 y h hk) h1))
noncomputable def Za2h : Code := (Go.Proofs.Tryz.f103.body).getD .skip
noncomputable def Zadx (r : Bool) : PV := (wB r)
noncomputable def Zav0 (r : Bool) : List (Nat × Blk) := []
noncomputable def Zbfk : Zo0 → Cfg := fun s => nomatch s
noncomputable def Zbjs : Zo0 → PW.St := fun s => nomatch s
abbrev Zbfl (r : Bool) (y : Zo0 ⊕ Bool) : Prop := Ok PR [.t 4] (Zav0) Zadx Zbfk Zbjs r y
theorem Zbaw (r : Bool) (a0 : Zd) (a1 : Zao) (y : Zo0 ⊕ Bool) (h : Zaky a0 a1 = some y) (hk : Zbfl r y) : (Cfg.code Za2h []).HH PR [.t 4] Zav0 Zadx r ⟨81, idx 0 [(.agg (bx (Z4 a0))), (.agg (bx (Zl a1)))], []⟩ := have q := q0.o [.lab 1002, .lab 1003];
 Zb h fun x3 h4 h => have q := (q.k x3).b (Zj4 a1.Id 1 (IntKind.wrap .i64 (a0.NextId - 1)) h4);
 Za h (fun h5 h => lR h hk (((q.tt 17).a 5 h5).a 12 (Eq.refl true))) (fun h5 h => have q := q.f 3 h5;
 Zb h fun x6 h7 h => have q := (((q.k x6).ff 2).b (Zj4 a1.X 0 1000000 h7)).a 2 h5;
 Za h (fun h8 h => lR h hk (((q.tt 12).a 5 h8).a 7 (Eq.refl true))) (fun h8 h => have q := ((((q.f 3 h8).n (a1.Targets.length : Int)).ff 2).b (Zr Zae a1.Targets)).a 2 h8;
 Za h (fun h10 h => lR h hk (((q.tt 7).a 6 h10).b (Eq.refl true))) (fun h10 h => have q := q.f 4 h10;
 Zb h fun x11 h12 h => have q := (((q.k x11).ff 2).b (Zn9 a0 a1.Control h12)).a 2 h10;
 Za h (fun h13 h => lR h hk (q.t 1 h13)) (fun h13 h => have q := q.f 1 h13;
 Zb h fun x14 h15 h => have q := (q.o [.call (.tup [(.agg (bx (Zc x14.1))), (wB x14.2)]), .lab 1005]).b (Zani a0 a1.Id h15);
 Za h (fun h16 h => have q := q.t 1 h16;
 Zb h fun x17 h18 h => have q := (q.k x17).b (Zbjr a1.Ability (⟨0, (⟨0, 0, 0, 0, 0, 0, 0, ([] : List UInt8), 0, 0, (⟨0, 0⟩ : Ze), (⟨0, 0⟩ : Ze), (⟨0, 0⟩ : Ze)⟩ : Zi), ([] : (List Zh)), (⟨(⟨0, 0, (⟨0, 0, 0, 0, 0⟩ : (A5 Int))⟩ : Zai), false, false, 0⟩ : Zii), false, (⟨0, 0, (⟨0, 0, 0, 0, 0, 0, 0, ([] : List UInt8), 0, 0, (⟨0, 0⟩ : Ze), (⟨0, 0⟩ : Ze), (⟨0, 0⟩ : Ze)⟩ : Zi)⟩ : Zdk), false, ([] : (List Zaj)), ([] : (List Zk)), (⟨0, 0, (⟨0, 0, 0, 0, 0, 0, 0, ([] : List UInt8), 0, 0, (⟨0, 0⟩ : Ze), (⟨0, 0⟩ : Ze), (⟨0, 0⟩ : Ze)⟩ : Zi), 0, 0, 0, 0⟩ : Za2)⟩ : Zs) h18);
 Za h (fun h19 h => have q := q.t 2 h19;
 Za h (fun h20 h => have q := q.t 4 h20;
 Za h (fun h21 h => have q := q.t 2 h21;
 Za h (fun h22 h => lR h hk (((((q.tt 6).a 3 h22).b h21).b h22).b h21)) (fun h22 h => Zb h fun x23 h24 h => lR h hk ((((((q.f 3 h22).k x23).t 1 (Zafx a1.Ability h24)).f 1 h21).t 1 h22).b h21))) (fun h21 h => lR h hk (q.f 4 h21))) (fun h20 h => lR h hk (((q.ff 8).a 4 h20).a 4 (Eq.refl false)))) (fun h19 h => lR h hk (((q.ff 10).a 2 h19).a 8 (Eq.refl false)))) (fun h16 h => have q := q.f 1 h16;
 Za h (fun h25 h => have q := q.t 3 h25;
 Za h (fun h26 h => Zb h fun x27 h28 h => lR h hk ((((q.t 3 h26).k x27).t 1 (Zafx a1.Ability h28)).b h26)) (fun h26 h => lR h hk (q.f 4 h26))) (fun h25 h => lR h hk (((q.ff 7).a 3 h25).a 4 (Eq.refl false))))))))
theorem Zbjt (a0 : Zd) (a1 : Zao) {r : Bool} (h : Zakz a0 a1 = some r) : Fn PR 103 [(.agg (bx (Z4 a0))), (.agg (bx (Zl a1)))] (Zadx r) :=
 Zb h fun y h0 h1 => FnG.of_cfg hT Go.Proofs.Tryz.func103 (by kernel_rfl : _ = some Za2h) (by kernel_rfl) 81 (by kernel_rfl) (Nat.le_of_ble_eq_true rfl) [.t 4] (by kernel_rfl) (by kernel_rfl) (Zbaw r a0 a1 y h0 (Z1 (fun s _ _ _ => nomatch s) h1))
noncomputable def Zax1 : Code := (Go.Proofs.Tryz.f104.body).getD .skip
noncomputable def Zaat (r : Bool) : PV := (wB r)
noncomputable def Zarc (r : Bool) : List (Nat × Blk) := []
noncomputable def Za2i : Zpm → Cfg
 | .L0 _ _ => (nav [1, 0, 1, 4] Zax1 []).getD (.done .normal)
noncomputable def Za7z : Zpm → PW.St
 | .L0 v0 v3 => ⟨20, [(0, (wL (cI .i64) v0)), (3, (wI v3))], []⟩
abbrev Za2j (r : Bool) (y : Zpm ⊕ Bool) : Prop := Ok PR [.t 2] (Zarc) Zaat Za2i Za7z r y
theorem Zbfm (r : Bool) (v0 : (List Int)) (v3 : Int) (y : Zpm ⊕ Bool) (h : Zafa v0 v3 = some y) (hk : Za2j r y) : (Za2i (.L0 v0 v3)).HH PR [.t 2] Zarc Zaat r (Za7z (.L0 v0 v3)) := have q := (q0.n (v0.length : Int)).b (Zr (cI .i64) v0);
 Za h (fun h2 h => have q := (q.t 1 h2).b (Zq (cI .i64) 1 (fun _ => rfl) v0);
 Zb h fun x5 h6 h => have q := (((q.o [.cs ((cI .i64) x5)]).b (Z2 h6)).b (Zv (cI .i64) h6)).b (Zq (cI .i64) 1 (fun _ => rfl) v0);
 Zb h fun x7 h8 h => have q := ((q.o [.cs ((cI .i64) x7)]).b (Z2 h8)).b (Zv (cI .i64) h8);
 Za h (fun h9 h => lR h hk (q.t 1 h9)) (fun h9 h => lG h hk ((q.f 1 h9).o [.pick [3, 0] [], .pick [0, 3] []]))) (fun h2 h => lR h hk (q.f 1 h2))
theorem Zbju (r : Bool) (a0 : (List Int)) (y : Zpm ⊕ Bool) (h : Zawy a0 = some y) (hk : Za2j r y) : (Cfg.code Zax1 []).HH PR [.t 2] Zarc Zaat r ⟨20, idx 0 [(wL (cI .i64) a0)], []⟩ :=
 lG h hk (q0.o [.pick [3, 0] [], .pick [0, 3] []])
theorem Zbn6 (a0 : (List Int)) {r : Bool} (h : Za0l a0 = some r) : Fn PR 104 [(wL (cI .i64) a0)] (Zaat r) :=
 Zb h fun y h0 h1 => FnG.of_cfg hT Go.Proofs.Tryz.func104 (by kernel_rfl : _ = some Zax1) (by kernel_rfl) 20 (by kernel_rfl) (Nat.le_of_ble_eq_true rfl) [.t 2] (by kernel_rfl) (by kernel_rfl) (Zbju r a0 y h0 (Z1 (fun s y h hk => match s with
 | .L0 v0 v3 => Zbfm r v0 v3 y h hk) h1))
end
end Go.PW
