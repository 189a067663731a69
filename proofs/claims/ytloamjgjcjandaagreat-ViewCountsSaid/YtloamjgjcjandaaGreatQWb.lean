import Derived.Test.YtloamjgjcjandaaGreatQW
set_option linter.all false
set_option maxRecDepth 100000
namespace Go.PW
open Go.RowKit
noncomputable section
noncomputable def Zavj : Code := (Go.Proofs.Tryz.f135.body).getD .skip
noncomputable def Z8r (r : Bool) : PV := (wB r)
noncomputable def Zaqk (r : Bool) : List (Nat × Blk) := []
noncomputable def Za93 : Znb → Cfg := fun s => nomatch s
noncomputable def Zbej : Znb → PW.St := fun s => nomatch s
abbrev Za94 (r : Bool) (y : Znb ⊕ Bool) : Prop := Ok PR [.t 2] (Zaqk) Z8r Za93 Zbej r y
theorem Za5l (r : Bool) (a0 : Za2) (y : Znb ⊕ Bool) (h : Zagq a0 = some y) (hk : Za94 r y) : (Cfg.code Zavj []).HH PR [.t 2] Zaqk Z8r r ⟨79, idx 0 [(.agg (bx (Zbw a0)))], []⟩ := have q := q0.o [.lab 1001];
 Za h (fun h1 h => lR h hk (((q.tt 6).a 5 h1).b (Eq.refl true))) (fun h1 h => have q := q.f 3 h1;
 Zb h fun x2 h3 h => have q := (((q.k x2).ff 2).b (Zacv a0.Filter h3)).a 2 h1;
 Za h (fun h4 h => lR h hk (q.t 1 h4)) (fun h4 h => have q := q.f 1 h4;
 Za h (fun h5 h => have q := q.t 1 h5;
 Za h (fun h6 h => have q := q.t 4 h6;
 Za h (fun h7 h => have q := q.t 4 h7;
 Za h (fun h8 h => lR h hk (((((((((q.tt 12).a 3 h8).b h7).b h8).b h7).a 3 (Eq.refl true)).b h7).b (Eq.refl true)).b h7)) (fun h8 h => have q := (((q.f 3 h8).t 1 h7).f 1 h8).t 1 h7;
 Za h (fun h9 h => lR h hk (((((q.tt 6).a 3 h9).b h7).b h9).b h7)) (fun h9 h => lR h hk ((((q.f 3 h9).t 1 h7).f 1 h9).t 1 h7)))) (fun h7 h => lR h hk (q.f 8 h7))) (fun h6 h => lR h hk (((q.ff 12).a 4 h6).a 8 (Eq.refl false)))) (fun h5 h => have q := q.f 1 h5;
 Za h (fun h10 h => have q := q.t 1 h10;
 Za h (fun h11 h => have q := q.t 4 h11;
 Za h (fun h12 h => lR h hk (q.t 4 h12)) (fun h12 h => lR h hk (q.f 4 h12))) (fun h11 h => lR h hk (((q.ff 8).a 4 h11).a 4 (Eq.refl false)))) (fun h10 h => have q := q.f 1 h10;
 Za h (fun h13 h => have q := q.t 1 h13;
 Za h (fun h14 h => have q := q.t 4 h14;
 Za h (fun h15 h => have q := q.t 4 h15;
 Za h (fun h16 h => have q := q.t 4 h16;
 Za h (fun h17 h => lR h hk (q.t 4 h17)) (fun h17 h => lR h hk (q.f 4 h17))) (fun h16 h => lR h hk (((q.ff 8).a 4 h16).a 4 (Eq.refl false)))) (fun h15 h => lR h hk (((q.ff 12).a 4 h15).a 8 (Eq.refl false)))) (fun h14 h => lR h hk (((q.ff 16).a 4 h14).a 12 (Eq.refl false)))) (fun h13 h => lR h hk (q.f 1 h13))))))
theorem Zbek (a0 : Za2) {r : Bool} (h : Zae1 a0 = some r) : Fn PR 135 [(.agg (bx (Zbw a0)))] (Z8r r) :=
 Zb h fun y h0 h1 => FnG.of_cfg hT Go.Proofs.Tryz.func135 (by kernel_rfl : _ = some Zavj) (by kernel_rfl) 79 (by kernel_rfl) (Nat.le_of_ble_eq_true rfl) [.t 2] (by kernel_rfl) (by kernel_rfl) (Za5l r a0 y h0 (Z1 (fun s _ _ _ => nomatch s) h1))
noncomputable def Zavk : Code := (Go.Proofs.Tryz.f136.body).getD .skip
noncomputable def Z8s (r : Bool) : PV := (wB r)
noncomputable def Zaql (r : Bool) : List (Nat × Blk) := []
noncomputable def Za95 : Znc → Cfg := fun s => nomatch s
noncomputable def Zbel : Znc → PW.St := fun s => nomatch s
abbrev Za96 (r : Bool) (y : Znc ⊕ Bool) : Prop := Ok PR [.t 2] (Zaql) Z8s Za95 Zbel r y
theorem Za5m (r : Bool) (a0 : Za2) (y : Znc ⊕ Bool) (h : Zagr a0 = some y) (hk : Za96 r y) : (Cfg.code Zavk []).HH PR [.t 2] Zaql Z8s r ⟨30, idx 0 [(.agg (bx (Zbw a0)))], []⟩ := have q := q0.o [.lab 1001];
 Za h (fun h1 h => lR h hk (((q.tt 5).a 4 h1).b (Eq.refl true))) (fun h1 h => have q := q.f 4 h1;
 Za h (fun h2 h => lR h hk (q.t 1 h2)) (fun h2 h => have q := q.f 1 h2;
 Za h (fun h3 h => have q := ((q.tt 5).a 4 h3).b (Eq.refl true);
 Za h (fun h4 h => lR h hk (q.t 4 h4)) (fun h4 h => lR h hk (q.f 4 h4))) (fun h3 h => have q := q.f 4 h3;
 Za h (fun h5 h => have q := q.t 1 h5;
 Za h (fun h6 h => lR h hk (q.t 4 h6)) (fun h6 h => lR h hk (q.f 4 h6))) (fun h5 h => lR h hk (q.f 1 h5)))))
theorem Zbem (a0 : Za2) {r : Bool} (h : Zae2 a0 = some r) : Fn PR 136 [(.agg (bx (Zbw a0)))] (Z8s r) :=
 Zb h fun y h0 h1 => FnG.of_cfg hT Go.Proofs.Tryz.func136 (by kernel_rfl : _ = some Zavk) (by kernel_rfl) 30 (by kernel_rfl) (Nat.le_of_ble_eq_true rfl) [.t 2] (by kernel_rfl) (by kernel_rfl) (Za5m r a0 y h0 (Z1 (fun s _ _ _ => nomatch s) h1))
noncomputable def Zacw : Code := (Go.Proofs.Tryz.f114.body).getD .skip
noncomputable def Zyg (r : Bool) : PV := (wB r)
noncomputable def Z7x (r : Bool) : List (Nat × Blk) := []
noncomputable def Zaap : Zkv → Cfg
 | .L0 _ _ _ => (nav [1, 1, 1, 1, 1] Zacw []).getD (.done .normal)
 | .L1 _ _ => (nav [1, 1, 1, 1, 1, 0, 1, 4, 1, 2, 1] Zacw []).getD (.done .normal)
 | .L2 _ _ _ _ => (nav [1, 1, 1, 1, 1, 0, 1, 4, 1, 3, 1, 3, 1, 3, 1] Zacw []).getD (.done .normal)
noncomputable def Zafr : Zkv → PW.St
 | .L0 E0 v3 v4 => ⟨127, [(1, (.bptr 30000000 0)), (3, (wB v3)), (4, (wB v4))], [(30000000, .box (bx (Zbw E0)))]⟩
 | .L1 E0 v3 => ⟨127, [(1, (.bptr 30000000 0)), (3, (wB v3))], [(30000000, .box (bx (Zbw E0)))]⟩
 | .L2 E0 v3 v4 v109 => ⟨127, [(1, (.bptr 30000000 0)), (3, (wB v3)), (4, (wB v4)), (109, (wB v109))], [(30000000, .box (bx (Zbw E0)))]⟩
abbrev Zaaq (r : Bool) (y : Zkv ⊕ Bool) : Prop := Ok PR [.t 2] (Z7x) Zyg Zaap Zafr r y
theorem Z3l (r : Bool) (E0 : Za2) (v3 : Bool) (v4 : Bool) (v109 : Bool) (y : Zkv ⊕ Bool) (h : Zwm E0 v3 v4 v109 = some y) (hk : Zaaq r y) : (Zaap (.L2 E0 v3 v4 v109)).HH PR [.t 2] Z7x Zyg r (Zafr (.L2 E0 v3 v4 v109)) :=
 Za h (fun h1 h => have q := q0.t 1 h1;
 Za h (fun h2 h => have q := q.t 4 h2;
 Za h (fun h3 h => have q := q.t 4 h3;
 Za h (fun h4 h => lR h hk (q.t 2 h4)) (fun h4 h => lR h hk (q.f 2 h4))) (fun h3 h => lR h hk (((q.ff 6).a 4 h3).a 2 (Eq.refl false)))) (fun h2 h => lR h hk (((q.ff 10).a 4 h2).a 6 (Eq.refl false)))) (fun h1 h => lR h hk (q0.f 1 h1))
theorem Zw2 (r : Bool) (E0 : Za2) (v3 : Bool) (y : Zkv ⊕ Bool) (h : Zs1 E0 v3 = some y) (hk : Zaaq r y) : (Zaap (.L1 E0 v3)).HH PR [.t 2] Z7x Zyg r (Zafr (.L1 E0 v3)) :=
 Za h (fun h1 h => have q := q0.t 3 h1;
 Zb h fun x2 h3 h => have q := ((q.k x2).t 1 (Zacv E0.Filter h3)).b h1;
 Za h (fun h4 h => lR h hk (q.t 8 h4)) (fun h4 h => have q := q.f 4 h4;
 Za h (fun h5 h => lR h hk ((((((((q.t 3 h5).f 1 h4).t 1 h5).f 1 h4).t 1 (Eq.refl true)).f 1 h4).t 1 (Eq.refl true)).f 1 h4)) (fun h5 h => have q := ((((q.ff 6).a 3 h5).b h4).b h5).b h4;
 Za h (fun h6 h => lR h hk ((((q.t 1 h6).f 1 h4).t 1 h6).f 1 h4)) (fun h6 h => lR h hk (((((q.ff 4).b h6).b h4).b h6).b h4))))) (fun h1 h => have q := ((q0.ff 8).a 4 h1).a 4 (Eq.refl false);
 Za h (fun h7 h => lR h hk ((((((((q.t 3 h7).f 1 (Eq.refl false)).t 1 h7).f 1 (Eq.refl false)).t 1 (Eq.refl true)).f 1 (Eq.refl false)).t 1 (Eq.refl true)).f 1 (Eq.refl false))) (fun h7 h => have q := ((((q.ff 6).a 3 h7).b (Eq.refl false)).b h7).b (Eq.refl false);
 Za h (fun h8 h => lR h hk ((((q.t 1 h8).f 1 (Eq.refl false)).t 1 h8).f 1 (Eq.refl false))) (fun h8 h => lR h hk (((((q.ff 4).b h8).b (Eq.refl false)).b h8).b (Eq.refl false)))))
theorem Z3m (r : Bool) (E0 : Za2) (v3 : Bool) (v4 : Bool) (y : Zkv ⊕ Bool) (h : Zwn E0 v3 v4 = some y) (hk : Zaaq r y) : (Zaap (.L0 E0 v3 v4)).HH PR [.t 2] Z7x Zyg r (Zafr (.L0 E0 v3 v4)) :=
 Za h (fun h1 h => have q := q0.t 1 h1;
 Za h (fun h2 h => have q := q.t 4 h2;
 Za h (fun h3 h => have q := q.t 4 h3;
 Za h (fun h4 h => have q := q.t 4 h4;
 Za h (fun h5 h => lR h hk (q.t 1 h5)) (fun h5 h => lJ (Zw2 r E0 v3 _ h hk) ((q.f 1 h5).o [.stopAt 0, .pick [1, 3] [30000000], .pick [1, 3] [30000000]]))) (fun h4 h => lJ (Zw2 r E0 v3 _ h hk) ((((q.ff 5).o [.stopAt 0, .pick [1, 3] [30000000], .pick [1, 3] [30000000]]).a 4 h4).b (Eq.refl false)))) (fun h3 h => lJ (Zw2 r E0 v3 _ h hk) ((((q.ff 9).o [.stopAt 0, .pick [1, 3] [30000000], .pick [1, 3] [30000000]]).a 4 h3).a 5 (Eq.refl false)))) (fun h2 h => lJ (Zw2 r E0 v3 _ h hk) ((((q.ff 13).o [.stopAt 0, .pick [1, 3] [30000000], .pick [1, 3] [30000000]]).a 4 h2).a 9 (Eq.refl false)))) (fun h1 h => have q := q0.f 1 h1;
 Za h (fun h6 h => have q := q.t 1 h6;
 Za h (fun h7 h => have q := q.t 4 h7;
 Za h (fun h8 h => Zb h fun x9 h10 h => lR h hk ((((q.t 3 h8).k x9).t 1 (Zacv E0.Filter h10)).b h8)) (fun h8 h => lR h hk (q.f 4 h8))) (fun h7 h => lR h hk (((q.ff 8).a 4 h7).a 4 (Eq.refl false)))) (fun h6 h => have q := q.f 1 h6;
 Za h (fun h11 h => have q := q.t 1 h11;
 Za h (fun h12 h => have q := ((q.tt 8).a 4 h12).a 4 (Eq.refl true);
 Za h (fun h13 h => have q := q.t 4 h13;
 Za h (fun h14 h => lR h hk (q.t 2 h14)) (fun h14 h => lR h hk (q.f 2 h14))) (fun h13 h => lR h hk (((q.ff 6).a 4 h13).a 2 (Eq.refl false)))) (fun h12 h => have q := q.f 4 h12;
 Za h (fun h15 h => have q := q.t 4 h15;
 Za h (fun h16 h => have q := q.t 4 h16;
 Za h (fun h17 h => lR h hk (q.t 2 h17)) (fun h17 h => lR h hk (q.f 2 h17))) (fun h16 h => lR h hk (((q.ff 6).a 4 h16).a 2 (Eq.refl false)))) (fun h15 h => lR h hk (((q.ff 10).a 4 h15).a 6 (Eq.refl false))))) (fun h11 h => have q := q.f 1 h11;
 Za h (fun h18 h => lJ (Z3l r E0 v3 v4 (E0.On == 4) _ h hk) ((q.t 1 h18).o [.stopAt 0, .pick [109, 1, 3, 4] [30000000], .pick [1, 3, 4, 109] [30000000]])) (fun h18 h => have q := q.f 1 h18;
 Za h (fun h19 h => lJ (Z3l r E0 v3 v4 (E0.On == 5) _ h hk) ((q.t 1 h19).o [.stopAt 0, .pick [109, 1, 3, 4] [30000000], .pick [1, 3, 4, 109] [30000000]])) (fun h19 h => lJ (Z3l r E0 v3 v4 (E0.On == 10) _ h hk) ((q.f 1 h19).o [.stopAt 0, .pick [109, 1, 3, 4] [30000000], .pick [1, 3, 4, 109] [30000000]]))))))
theorem Zbiw (r : Bool) (a0 : Za2) (y : Zkv ⊕ Bool) (h : Zawn a0 = some y) (hk : Zaaq r y) : (Cfg.code Zacw []).HH PR [.t 2] Z7x Zyg r ⟨127, idx 0 [(.agg (bx (Zbw a0)))], []⟩ := have q := q0.o [.lab 1001];
 Za h (fun h1 h => Zb h fun x2 h3 h => lR h hk (((q.t 1 h1).k x2).b (Zbek a0 h3))) (fun h1 h => have q := q.f 1 h1;
 Zb h fun x4 h5 h => have q := (q.k x4).b (Zbem a0 h5);
 Za h (fun h6 h => lR h hk (q.t 1 h6)) (fun h6 h => have q := q.f 1 h6;
 Za h (fun h7 h => lJ (Z3m r a0 (eqTs (Zx a0.Filter) (Zx (⟨0, 0, 0, 0, 0, 0, 0, ([] : List UInt8), 0, 0, (⟨0, 0⟩ : Ze), (⟨0, 0⟩ : Ze), (⟨0, 0⟩ : Ze)⟩ : Zi))) true _ h hk) ((((q.tt 8).o [.stopAt 0, .pick [4, 3, 1] [1001], .relab 1001 30000000, .pick [1, 3, 4] [30000000]]).a 4 h7).a 4 (Eq.refl true))) (fun h7 h => have q := q.f 4 h7;
 Za h (fun h8 h => lJ (Z3m r a0 (eqTs (Zx a0.Filter) (Zx (⟨0, 0, 0, 0, 0, 0, 0, ([] : List UInt8), 0, 0, (⟨0, 0⟩ : Ze), (⟨0, 0⟩ : Ze), (⟨0, 0⟩ : Ze)⟩ : Zi))) true _ h hk) ((q.t 4 h8).o [.stopAt 0, .pick [4, 3, 1] [1001], .relab 1001 30000000, .pick [1, 3, 4] [30000000]])) (fun h8 h => lJ (Z3m r a0 (eqTs (Zx a0.Filter) (Zx (⟨0, 0, 0, 0, 0, 0, 0, ([] : List UInt8), 0, 0, (⟨0, 0⟩ : Ze), (⟨0, 0⟩ : Ze), (⟨0, 0⟩ : Ze)⟩ : Zi))) (a0.Do == 8) _ h hk) ((q.f 4 h8).o [.stopAt 0, .pick [4, 3, 1] [1001], .relab 1001 30000000, .pick [1, 3, 4] [30000000]])))))
theorem Zbnw (a0 : Za2) {r : Bool} (h : Zaz9 a0 = some r) : Fn PR 114 [(.agg (bx (Zbw a0)))] (Zyg r) :=
 Zb h fun y h0 h1 => FnG.of_cfg hT Go.Proofs.Tryz.func114 (by kernel_rfl : _ = some Zacw) (by kernel_rfl) 127 (by kernel_rfl) (Nat.le_of_ble_eq_true rfl) [.t 2] (by kernel_rfl) (by kernel_rfl) (Zbiw r a0 y h0 (Z1 (fun s y h hk => match s with
 | .L0 E0 v3 v4 => Z3m r E0 v3 v4 y h hk
 | .L1 E0 v3 => Zw2 r E0 v3 y h hk
 | .L2 E0 v3 v4 v109 => Z3l r E0 v3 v4 v109 y h hk) h1))
noncomputable def Za1p : Code := (Go.Proofs.Tryz.f138.body).getD .skip
noncomputable def Zacx (r : Bool) : PV := (wB r)
noncomputable def Zavl (r : Bool) : List (Nat × Blk) := []
noncomputable def Zben : Zop → Cfg := fun s => nomatch s
noncomputable def Zbix : Zop → PW.St := fun s => nomatch s
abbrev Zbeo (r : Bool) (y : Zop ⊕ Bool) : Prop := Ok PR [.t 2] (Zavl) Zacx Zben Zbix r y
theorem Za97 (r : Bool) (a0 : Zaj) (y : Zop ⊕ Bool) (h : Zaka a0 = some y) (hk : Zbeo r y) : (Cfg.code Za1p []).HH PR [.t 2] Zavl Zacx r ⟨33, idx 0 [(.agg (bx (Z3 a0)))], []⟩ := have q := q0.o [.lab 1001];
 Za h (fun h1 h => have q := q.t 1 h1;
 Za h (fun h2 h => lR h hk (q.t 5 h2)) (fun h2 h => lR h hk (q.f 5 h2))) (fun h1 h => have q := q.f 1 h1;
 Zb h fun x3 h4 h => have q := (q.k x3).b (Znu a0.Filter h4);
 Za h (fun h5 h => have q := q.t 3 h5;
 Za h (fun h6 h => lR h hk (((((((((q.tt 10).a 2 h6).b h5).b h6).b h5).a 2 (Eq.refl true)).b h5).b (Eq.refl true)).b h5)) (fun h6 h => have q := (((q.f 2 h6).t 1 h5).f 1 h6).t 1 h5;
 Za h (fun h7 h => lR h hk (((((q.tt 5).a 2 h7).b h5).b h7).b h5)) (fun h7 h => lR h hk ((((q.f 2 h7).t 1 h5).f 1 h7).t 1 h5)))) (fun h5 h => lR h hk (q.f 7 h5)))
theorem Zbiy (a0 : Zaj) {r : Bool} (h : Zakb a0 = some r) : Fn PR 138 [(.agg (bx (Z3 a0)))] (Zacx r) :=
 Zb h fun y h0 h1 => FnG.of_cfg hT Go.Proofs.Tryz.func138 (by kernel_rfl : _ = some Za1p) (by kernel_rfl) 33 (by kernel_rfl) (Nat.le_of_ble_eq_true rfl) [.t 2] (by kernel_rfl) (by kernel_rfl) (Za97 r a0 y h0 (Z1 (fun s _ _ _ => nomatch s) h1))
noncomputable def Zahl : Code := (Go.Proofs.Tryz.f115.body).getD .skip
noncomputable def Zz0 (r : Bool) : PV := (wB r)
noncomputable def Zacy (r : Bool) : List (Nat × Blk) := []
noncomputable def Zam6 : Zke → Cfg
 | .L0 _ _ => (nav [1, 0, 1, 4] Zahl []).getD (.done .normal)
noncomputable def Zaqm : Zke → PW.St
 | .L0 v0 v3 => ⟨19, [(0, (wL Z3 v0)), (3, (wI v3))], []⟩
abbrev Zam7 (r : Bool) (y : Zke ⊕ Bool) : Prop := Ok PR [.t 2] (Zacy) Zz0 Zam6 Zaqm r y
theorem Za1q (r : Bool) (v0 : (List Zaj)) (v3 : Int) (y : Zke ⊕ Bool) (h : Z2q v0 v3 = some y) (hk : Zam7 r y) : (Zam6 (.L0 v0 v3)).HH PR [.t 2] Zacy Zz0 r (Zaqm (.L0 v0 v3)) := have q := (q0.n (v0.length : Int)).b (Zr Z3 v0);
 Za h (fun h2 h => have q := (q.t 1 h2).b (Zq Z3 18 (fun _ => rfl) v0);
 Zb h fun x3 h4 h => have q := ((q.o [.cs (Z3 x3)]).b (Z2 h4)).b (Zv Z3 h4);
 Zb h fun x5 h6 h => have q := (q.k x5).b (Zbiy x3 h6);
 Za h (fun h7 h => lR h hk (q.t 1 h7)) (fun h7 h => lG h hk ((q.f 1 h7).o [.pick [3, 0] [], .pick [0, 3] []]))) (fun h2 h => lR h hk (((q.f 1 h2).n (v0.length : Int)).b (Zr Z3 v0)))
theorem Za5n (r : Bool) (a0 : (List Zaj)) (y : Zke ⊕ Bool) (h : Zags a0 = some y) (hk : Zam7 r y) : (Cfg.code Zahl []).HH PR [.t 2] Zacy Zz0 r ⟨19, idx 0 [(wL Z3 a0)], []⟩ :=
 lG h hk (q0.o [.pick [3, 0] [], .pick [0, 3] []])
theorem Zbep (a0 : (List Zaj)) {r : Bool} (h : Zae3 a0 = some r) : Fn PR 115 [(wL Z3 a0)] (Zz0 r) :=
 Zb h fun y h0 h1 => FnG.of_cfg hT Go.Proofs.Tryz.func115 (by kernel_rfl : _ = some Zahl) (by kernel_rfl) 19 (by kernel_rfl) (Nat.le_of_ble_eq_true rfl) [.t 2] (by kernel_rfl) (by kernel_rfl) (Za5n r a0 y h0 (Z1 (fun s y h hk => match s with
 | .L0 v0 v3 => Za1q r v0 v3 y h hk) h1))
noncomputable def Za1r : Code := (Go.Proofs.Tryz.f148.body).getD .skip
noncomputable def Zacz (r : (List UInt8)) : PV := (wS r)
noncomputable def Zavm (r : (List UInt8)) : List (Nat × Blk) := []
noncomputable def Zbeq : Zoq → Cfg := fun s => nomatch s
noncomputable def Zbiz : Zoq → PW.St := fun s => nomatch s
abbrev Zber (r : (List UInt8)) (y : Zoq ⊕ (List UInt8)) : Prop := Ok PR [.t 2] (Zavm) Zacz Zbeq Zbiz r y
theorem Za98 (r : (List UInt8)) (a0 : Int) (y : Zoq ⊕ (List UInt8)) (h : Zakc a0 = some y) (hk : Zber r y) : (Cfg.code Za1r []).HH PR [.t 2] Zavm Zacz r ⟨16, idx 0 [(wI a0)], []⟩ :=
 Za h (fun h1 h => lR h hk (((q0.tt 4).a 3 h1).b (Eq.refl true))) (fun h1 h => have q := q0.f 3 h1;
 Za h (fun h2 h => lR h hk (q.t 1 h2)) (fun h2 h => Zb h fun x6 h7 h => lR h hk (((((q.f 1 h2).o [.lit, .cs (cS x6)]).b (Zq cS 1 (fun _ => rfl) [([100, 97, 109, 97, 103, 101] : List UInt8), ([100, 101, 115, 116, 114, 111, 121] : List UInt8), ([109, 111, 118, 101] : List UInt8), ([100, 114, 97, 119] : List UInt8), ([100, 105, 115, 99, 97, 114, 100] : List UInt8), ([103, 97, 105, 110] : List UInt8), ([108, 111, 115, 101] : List UInt8), ([116, 97, 112] : List UInt8), ([117, 110, 116, 97, 112] : List UInt8), ([112, 117, 116] : List UInt8), ([116, 97, 107, 101] : List UInt8), ([99, 114, 101, 97, 116, 101] : List UInt8), ([109, 111, 100] : List UInt8), ([109, 97, 110, 97] : List UInt8), ([99, 111, 117, 110, 116, 101, 114] : List UInt8), ([99, 111, 112, 121] : List UInt8), ([98, 101, 99, 111, 109, 101] : List UInt8), ([115, 97, 99, 114, 105, 102, 105, 99, 101] : List UInt8), ([109, 105, 108, 108] : List UInt8), ([115, 99, 114, 121] : List UInt8), ([115, 101, 97, 114, 99, 104] : List UInt8), ([115, 104, 105, 101, 108, 100] : List UInt8), ([116, 117, 114, 110] : List UInt8), ([119, 105, 110] : List UInt8), ([100, 101, 102, 101, 97, 116] : List UInt8), ([118, 101, 110, 111, 109] : List UInt8)])).b (Z2 h7)).b (Zv cS h7))))
theorem Zbi0 (a0 : Int) {r : (List UInt8)} (h : Zakd a0 = some r) : Fn PR 148 [(wI a0)] (Zacz r) :=
 Zb h fun y h0 h1 => FnG.of_cfg hT Go.Proofs.Tryz.func148 (by kernel_rfl : _ = some Za1r) (by kernel_rfl) 16 (by kernel_rfl) (Nat.le_of_ble_eq_true rfl) [.t 2] (by kernel_rfl) (by kernel_rfl) (Za98 r a0 y h0 (Z1 (fun s _ _ _ => nomatch s) h1))
noncomputable def Zaar : Code := (Go.Proofs.Tryz.f171.body).getD .skip
noncomputable def Zw3 (r : (List UInt8)) : PV := (wS r)
noncomputable def Z68 (r : (List UInt8)) : List (Nat × Blk) := []
noncomputable def Zac0 : Zjm → Cfg
 | .L0 _ _ => (nav [1, 0, 1, 4, 1] Zaar []).getD (.done .normal)
 | .L1 _ _ => (nav [1, 0, 1, 4, 1, 3, 1, 3, 1] Zaar []).getD (.done .normal)
noncomputable def Zahm : Zjm → PW.St
 | .L0 v3 v4 => ⟨32, [(3, (wI v3)), (4, (wB v4))], []⟩
 | .L1 v3 v14 => ⟨32, [(3, (wI v3)), (14, (wB v14))], []⟩
abbrev Zac1 (r : (List UInt8)) (y : Zjm ⊕ (List UInt8)) : Prop := Ok PR [.t 2] (Z68) Zw3 Zac0 Zahm r y
theorem Z5y (r : (List UInt8)) (v3 : Int) (v14 : Bool) (y : Zjm ⊕ (List UInt8)) (h : Zu2 v3 v14 = some y) (hk : Zac1 r y) : (Zac0 (.L1 v3 v14)).HH PR [.t 2] Z68 Zw3 r (Zahm (.L1 v3 v14)) :=
 Za h (fun h1 h => lR h hk (q0.t 1 h1)) (fun h1 h => have q := q0.f 1 h1;
 Za h (fun h2 h => lR h hk (q.t 1 h2)) (fun h2 h => have q := q.f 1 h2;
 Za h (fun h3 h => lR h hk (q.t 1 h3)) (fun h3 h => have q := q.f 1 h3;
 Za h (fun h4 h => lR h hk (q.t 1 h4)) (fun h4 h => have q := q.f 1 h4;
 Za h (fun h5 h => lR h hk (q.t 1 h5)) (fun h5 h => have q := q.f 1 h5;
 Za h (fun h6 h => lR h hk (q.t 1 h6)) (fun h6 h => have q := q.f 1 h6;
 Za h (fun h7 h => lR h hk (q.t 1 h7)) (fun h7 h => have q := q.f 1 h7;
 Za h (fun h8 h => lR h hk (q.t 2 h8)) (fun h8 h => have q := q.f 1 h8;
 Za h (fun h9 h => lR h hk (q.t 1 h9)) (fun h9 h => lR h hk (q.f 1 h9))))))))))
theorem Zk1 (r : (List UInt8)) (v3 : Int) (v4 : Bool) (y : Zjm ⊕ (List UInt8)) (h : Zkf v3 v4 = some y) (hk : Zac1 r y) : (Zac0 (.L0 v3 v4)).HH PR [.t 2] Z68 Zw3 r (Zahm (.L0 v3 v4)) :=
 Za h (fun h1 h => lR h hk (q0.t 1 h1)) (fun h1 h => have q := q0.f 1 h1;
 Za h (fun h2 h => lR h hk (q.t 1 h2)) (fun h2 h => have q := q.f 1 h2;
 Za h (fun h3 h => lJ (Z5y r v3 (v3 == 10) _ h hk) ((q.t 1 h3).o [.stopAt 0, .pick [14, 3] [], .pick [3, 14] []])) (fun h3 h => lJ (Z5y r v3 (v3 == 11) _ h hk) ((q.f 1 h3).o [.stopAt 0, .pick [14, 3] [], .pick [3, 14] []]))))
theorem Za99 (r : (List UInt8)) (a0 : Int) (y : Zjm ⊕ (List UInt8)) (h : Zake a0 = some y) (hk : Zac1 r y) : (Cfg.code Zaar []).HH PR [.t 2] Z68 Zw3 r ⟨32, idx 0 [(wI a0)], []⟩ :=
 Za h (fun h1 h => lJ (Zk1 r a0 (a0 == 2) _ h hk) ((q0.t 1 h1).o [.stopAt 0, .pick [4, 3] [], .pick [3, 4] []])) (fun h1 h => have q := q0.f 1 h1;
 Za h (fun h2 h => lJ (Zk1 r a0 (a0 == 8) _ h hk) ((q.t 1 h2).o [.stopAt 0, .pick [4, 3] [], .pick [3, 4] []])) (fun h2 h => have q := q.f 1 h2;
 Za h (fun h3 h => lJ (Zk1 r a0 (a0 == 9) _ h hk) ((q.t 1 h3).o [.stopAt 0, .pick [4, 3] [], .pick [3, 4] []])) (fun h3 h => have q := q.f 1 h3;
 Za h (fun h4 h => lJ (Zk1 r a0 (a0 == 15) _ h hk) ((q.t 1 h4).o [.stopAt 0, .pick [4, 3] [], .pick [3, 4] []])) (fun h4 h => have q := q.f 1 h4;
 Za h (fun h5 h => lJ (Zk1 r a0 (a0 == 16) _ h hk) ((q.t 1 h5).o [.stopAt 0, .pick [4, 3] [], .pick [3, 4] []])) (fun h5 h => have q := q.f 1 h5;
 Za h (fun h6 h => lJ (Zk1 r a0 (a0 == 17) _ h hk) ((q.t 1 h6).o [.stopAt 0, .pick [4, 3] [], .pick [3, 4] []])) (fun h6 h => lJ (Zk1 r a0 (a0 == 25) _ h hk) ((q.f 1 h6).o [.stopAt 0, .pick [4, 3] [], .pick [3, 4] []])))))))
theorem Zbi1 (a0 : Int) {r : (List UInt8)} (h : Zakf a0 = some r) : Fn PR 171 [(wI a0)] (Zw3 r) :=
 Zb h fun y h0 h1 => FnG.of_cfg hT Go.Proofs.Tryz.func171 (by kernel_rfl : _ = some Zaar) (by kernel_rfl) 32 (by kernel_rfl) (Nat.le_of_ble_eq_true rfl) [.t 2] (by kernel_rfl) (by kernel_rfl) (Za99 r a0 y h0 (Z1 (fun s y h hk => match s with
 | .L0 v3 v4 => Zk1 r v3 v4 y h hk
 | .L1 v3 v14 => Z5y r v3 v14 y h hk) h1))
noncomputable def Zalj : Code := (Go.Proofs.Tryz.f149.body).getD .skip
noncomputable def Z3n (r : Bool) : PV := (wB r)
noncomputable def Zahn (r : Bool) : List (Nat × Blk) := []
noncomputable def Zaqn : Zlp → Cfg
 | .L0 _ _ _ => (nav [1, 1, 0, 1, 4] Zalj []).getD (.done .normal)
noncomputable def Zavn : Zlp → PW.St
 | .L0 v1 v5 v6 => ⟨20, [(1, (.t (.int .u8 v1))), (5, (wS v5)), (6, (wI v6))], []⟩
abbrev Zaqo (r : Bool) (y : Zlp ⊕ Bool) : Prop := Ok PR [.t 4] (Zahn) Z3n Zaqn Zavn r y
theorem Za5o (r : Bool) (v1 : Int) (v5 : (List UInt8)) (v6 : Int) (y : Zlp ⊕ Bool) (h : Z6s v1 v5 v6 = some y) (hk : Zaqo r y) : (Zaqn (.L0 v1 v5 v6)).HH PR [.t 4] Zahn Z3n r (Zavn (.L0 v1 v5 v6)) := have q := (q0.n (v5.length : Int)).b (Eq.refl (v5.length : Int));
 Za h (fun h2 h => have q := q.t 1 h2;
 Zb h fun x3 h4 h => have q := ((q.o [.byte x3]).b (Z2 h4)).b (Zmr h4);
 Za h (fun h5 h => lR h hk (q.t 1 h5)) (fun h5 h => lG h hk ((q.f 1 h5).o [.pick [6, 1, 5] [], .pick [1, 5, 6] []]))) (fun h2 h => lR h hk (q.f 1 h2))
theorem Zbaa (r : Bool) (a0 : Int) (a1 : Int) (y : Zlp ⊕ Bool) (h : Zakg a0 a1 = some y) (hk : Zaqo r y) : (Cfg.code Zalj []).HH PR [.t 4] Zahn Z3n r ⟨20, idx 0 [(wI a0), (.t (.int .u8 a1))], []⟩ :=
 Zb h fun x1 h2 h => lG h hk ((q0.o [.call (wS x1), .pick [6, 5, 1] [], .pick [1, 5, 6] []]).b (Zbi1 a0 h2))
theorem Zo9 (a0 : Int) (a1 : Int) {r : Bool} (h : Zpk a0 a1 = some r) : Fn PR 149 [(wI a0), (.t (.int .u8 a1))] (Z3n r) :=
 Zb h fun y h0 h1 => FnG.of_cfg hT Go.Proofs.Tryz.func149 (by kernel_rfl : _ = some Zalj) (by kernel_rfl) 20 (by kernel_rfl) (Nat.le_of_ble_eq_true rfl) [.t 4] (by kernel_rfl) (by kernel_rfl) (Zbaa r a0 a1 y h0 (Z1 (fun s y h hk => match s with
 | .L0 v1 v5 v6 => Za5o r v1 v5 v6 y h hk) h1))
noncomputable def Zai3 : Code := (Go.Proofs.Tryz.f172.body).getD .skip
noncomputable def Z02 (r : Bool) : PV := (wB r)
noncomputable def Zafs (r : Bool) : List (Nat × Blk) := []
noncomputable def Zaxr : Zjn → Cfg := fun s => nomatch s
noncomputable def Za1s : Zjn → PW.St := fun s => nomatch s
abbrev Zaxs (r : Bool) (y : Zjn ⊕ Bool) : Prop := Ok PR [.t 2] (Zafs) Z02 Zaxr Za1s r y
theorem Zatr (r : Bool) (a0 : Int) (y : Zjn ⊕ Bool) (h : Z5f a0 = some y) (hk : Zaxs r y) : (Cfg.code Zai3 []).HH PR [.t 2] Zafs Z02 r ⟨9, idx 0 [(wI a0)], []⟩ :=
 Za h (fun h1 h => lR h hk (q0.t 3 h1)) (fun h1 h => lR h hk (q0.f 3 h1))
theorem Za1t (a0 : Int) {r : Bool} (h : Z2r a0 = some r) : Fn PR 172 [(wI a0)] (Z02 r) :=
 Zb h fun y h0 h1 => FnG.of_cfg hT Go.Proofs.Tryz.func172 (by kernel_rfl : _ = some Zai3) (by kernel_rfl) 9 (by kernel_rfl) (Nat.le_of_ble_eq_true rfl) [.t 2] (by kernel_rfl) (by kernel_rfl) (Zatr r a0 y h0 (Z1 (fun s _ _ _ => nomatch s) h1))
noncomputable def Zalk : Code := (Go.Proofs.Tryz.f150.body).getD .skip
noncomputable def Z3o (r : Bool) : PV := (wB r)
noncomputable def Zaft (r : Bool) : List (Nat × Blk) := []
noncomputable def Zall : Zmt → Cfg
 | .L0 _ _ => (nav [1, 1] Zalk []).getD (.done .normal)
 | .L1 _ => (nav [1, 1, 1, 1] Zalk []).getD (.done .normal)
noncomputable def Zaqp : Zmt → PW.St
 | .L0 v1 E0 => ⟨40, [(1, (wI v1)), (2, (.bptr 30000000 0))], [(30000000, .box (bx (Zfk E0)))]⟩
 | .L1 E0 => ⟨40, [(2, (.bptr 30000000 0))], [(30000000, .box (bx (Zfk E0)))]⟩
abbrev Zalm (r : Bool) (y : Zmt ⊕ Bool) : Prop := Ok PR [.t 4] (Zaft) Z3o Zall Zaqp r y
theorem Zac2 (r : Bool) (E0 : Zgp) (y : Zmt ⊕ Bool) (h : Z1n E0 = some y) (hk : Zalm r y) : (Zall (.L1 E0)).HH PR [.t 4] Zaft Z3o r (Zaqp (.L1 E0)) :=
 Za h (fun h1 h => Zb h fun x2 h3 h => lR h hk (((q0.t 1 h1).k x2).b (Znu E0.Filter h3))) (fun h1 h => lR h hk (q0.f 1 h1))
theorem Zac3 (r : Bool) (v1 : Int) (E0 : Zgp) (y : Zmt ⊕ Bool) (h : Z1o v1 E0 = some y) (hk : Zalm r y) : (Zall (.L0 v1 E0)).HH PR [.t 4] Zaft Z3o r (Zaqp (.L0 v1 E0)) :=
 Za h (fun h1 h => lR h hk (((q0.tt 5).a 4 h1).b (Eq.refl true))) (fun h1 h => have q := q0.f 4 h1;
 Za h (fun h2 h => lR h hk (q.t 1 h2)) (fun h2 h => have q := q.f 1 h2;
 Zb h fun x3 h4 h => have q := (q.k x3).b (Za1t E0.Kind h4);
 Za h (fun h5 h => have q := q.t 1 h5;
 Za h (fun h6 h => lR h hk (((q.tt 6).a 5 h6).b (Eq.refl true))) (fun h6 h => have q := q.f 5 h6;
 Za h (fun h7 h => lR h hk (q.t 1 h7)) (fun h7 h => lJ (Zac2 r E0 _ h hk) ((q.f 1 h7).o [.stopAt 0, .pick [2] [30000000], .pick [2] [30000000]])))) (fun h5 h => have q := q.f 1 h5;
 Za h (fun h8 h => lR h hk (q.t 1 h8)) (fun h8 h => lJ (Zac2 r E0 _ h hk) ((q.f 1 h8).o [.stopAt 0, .pick [2] [30000000], .pick [2] [30000000]])))))
theorem Zbi2 (r : Bool) (a0 : Zgp) (a1 : Int) (y : Zmt ⊕ Bool) (h : Zawo a0 a1 = some y) (hk : Zalm r y) : (Cfg.code Zalk []).HH PR [.t 4] Zaft Z3o r ⟨40, idx 0 [(.agg (bx (Zfk a0))), (wI a1)], []⟩ := have q := q0.o [.lab 1002];
 Za h (fun h1 h => lJ (Zac3 r 4 a0 _ h hk) ((q.t 1 h1).o [.stopAt 0, .pick [1, 2] [1002], .relab 1002 30000000, .pick [1, 2] [30000000]])) (fun h1 h => lJ (Zac3 r a1 a0 _ h hk) ((q.f 1 h1).o [.stopAt 0, .pick [2, 1] [1002], .relab 1002 30000000, .pick [1, 2] [30000000]]))
theorem Zbnx (a0 : Zgp) (a1 : Int) {r : Bool} (h : Za0a a0 a1 = some r) : Fn PR 150 [(.agg (bx (Zfk a0))), (wI a1)] (Z3o r) :=
 Zb h fun y h0 h1 => FnG.of_cfg hT Go.Proofs.Tryz.func150 (by kernel_rfl : _ = some Zalk) (by kernel_rfl) 40 (by kernel_rfl) (Nat.le_of_ble_eq_true rfl) [.t 4] (by kernel_rfl) (by kernel_rfl) (Zbi2 r a0 a1 y h0 (Z1 (fun s y h hk => match s with
 | .L0 v1 E0 => Zac3 r v1 E0 y h hk
 | .L1 E0 => Zac2 r E0 y h hk) h1))
noncomputable def Za1u : Code := (Go.Proofs.Tryz.f151.body).getD .skip
noncomputable def Zac4 (r : (List UInt8)) : PV := (wS r)
noncomputable def Zavo (r : (List UInt8)) : List (Nat × Blk) := []
noncomputable def Zbes : Zor → Cfg := fun s => nomatch s
noncomputable def Zbi3 : Zor → PW.St := fun s => nomatch s
abbrev Zbet (r : (List UInt8)) (y : Zor ⊕ (List UInt8)) : Prop := Ok PR [.t 2] (Zavo) Zac4 Zbes Zbi3 r y
theorem Zbab (r : (List UInt8)) (a0 : Int) (y : Zor ⊕ (List UInt8)) (h : Zakh a0 = some y) (hk : Zbet r y) : (Cfg.code Za1u []).HH PR [.t 2] Zavo Zac4 r ⟨10, idx 0 [(wI a0)], []⟩ :=
 Za h (fun h1 h => lR h hk (q0.t 1 h1)) (fun h1 h => have q := q0.f 1 h1;
 Za h (fun h2 h => lR h hk (q.t 1 h2)) (fun h2 h => have q := q.f 1 h2;
 Za h (fun h3 h => lR h hk (q.t 1 h3)) (fun h3 h => lR h hk (q.f 1 h3))))
theorem Zavp (a0 : Int) {r : (List UInt8)} (h : Zabo a0 = some r) : Fn PR 151 [(wI a0)] (Zac4 r) :=
 Zb h fun y h0 h1 => FnG.of_cfg hT Go.Proofs.Tryz.func151 (by kernel_rfl : _ = some Za1u) (by kernel_rfl) 10 (by kernel_rfl) (Nat.le_of_ble_eq_true rfl) [.t 2] (by kernel_rfl) (by kernel_rfl) (Zbab r a0 y h0 (Z1 (fun s _ _ _ => nomatch s) h1))
noncomputable def Zbeu : Code := (Go.Proofs.Tryz.f152.body).getD .skip
noncomputable def Zaln (r : Bool) : PV := (wB r)
noncomputable def Za7v (r : Bool) : List (Nat × Blk) := []
noncomputable def Zblx : Ztg → Cfg := fun s => nomatch s
noncomputable def Zbny : Ztg → PW.St := fun s => nomatch s
abbrev Zbly (r : Bool) (y : Ztg ⊕ Bool) : Prop := Ok PR [.t 2] (Za7v) Zaln Zblx Zbny r y
theorem Zbi4 (r : Bool) (a0 : Zd3) (y : Ztg ⊕ Bool) (h : Zawp a0 = some y) (hk : Zbly r y) : (Cfg.code Zbeu []).HH PR [.t 2] Za7v Zaln r ⟨59, idx 0 [(.agg (bx (Zb2 a0)))], []⟩ := have q := q0.o [.lab 1001, .lab 1003];
 Za h (fun h1 h => have q := q.t 1 h1;
 Za h (fun h2 h => lR h hk (((q.tt 5).a 4 h2).b (Eq.refl true))) (fun h2 h => have q := q.f 4 h2;
 Za h (fun h3 h => lR h hk (q.t 1 h3)) (fun h3 h => have q := q.f 1 h3;
 Za h (fun h4 h => have q := q.t 4 h4;
 Za h (fun h5 h => lR h hk (q.t 6 h5)) (fun h5 h => lR h hk (q.f 6 h5))) (fun h4 h => lR h hk (((q.ff 10).a 4 h4).a 6 (Eq.refl false)))))) (fun h1 h => have q := q.f 1 h1;
 Za h (fun h6 h => have q := q.t 1 h6;
 Za h (fun h7 h => lR h hk (((q.tt 10).a 4 h7).a 6 (Eq.refl true))) (fun h7 h => have q := q.f 4 h7;
 Za h (fun h8 h => lR h hk (((q.tt 6).a 5 h8).b (Eq.refl true))) (fun h8 h => have q := q.f 3 h8;
 Zb h fun x9 h10 h => have q := (((q.k x9).ff 2).b (Znu a0.Filter h10)).a 2 h8;
 Za h (fun h11 h => lR h hk (q.t 1 h11)) (fun h11 h => have q := q.f 1 h11;
 Za h (fun h12 h => have q := q.t 4 h12;
 Za h (fun h13 h => lR h hk (q.t 6 h13)) (fun h13 h => lR h hk (q.f 6 h13))) (fun h12 h => lR h hk (((q.ff 10).a 4 h12).a 6 (Eq.refl false))))))) (fun h6 h => have q := q.f 1 h6;
 Za h (fun h14 h => have q := q.t 1 h14;
 Zb h fun x15 h16 h => have q := (q.o [.call (wS x15)]).b (Zavp a0.Counter h16);
 Za h (fun h17 h => lR h hk (q.t 1 h17)) (fun h17 h => have q := q.f 1 h17;
 Za h (fun h18 h => have q := q.t 4 h18;
 Za h (fun h19 h => lR h hk (q.t 6 h19)) (fun h19 h => lR h hk (q.f 6 h19))) (fun h18 h => lR h hk (((q.ff 10).a 4 h18).a 6 (Eq.refl false))))) (fun h14 h => have q := q.f 1 h14;
 Za h (fun h20 h => have q := q.t 4 h20;
 Za h (fun h21 h => lR h hk (q.t 6 h21)) (fun h21 h => lR h hk (q.f 6 h21))) (fun h20 h => lR h hk (((q.ff 10).a 4 h20).a 6 (Eq.refl false))))))
theorem Zbnz (a0 : Zd3) {r : Bool} (h : Za0b a0 = some r) : Fn PR 152 [(.agg (bx (Zb2 a0)))] (Zaln r) :=
 Zb h fun y h0 h1 => FnG.of_cfg hT Go.Proofs.Tryz.func152 (by kernel_rfl : _ = some Zbeu) (by kernel_rfl) 59 (by kernel_rfl) (Nat.le_of_ble_eq_true rfl) [.t 2] (by kernel_rfl) (by kernel_rfl) (Zbi4 r a0 y h0 (Z1 (fun s _ _ _ => nomatch s) h1))
noncomputable def Za1v : Code := (Go.Proofs.Tryz.f153.body).getD .skip
noncomputable def Zac5 (r : Bool) : PV := (wB r)
noncomputable def Zavq (r : Bool) : List (Nat × Blk) := []
noncomputable def Zbev : Zos → Cfg := fun s => nomatch s
noncomputable def Zbi5 : Zos → PW.St := fun s => nomatch s
abbrev Zbew (r : Bool) (y : Zos ⊕ Bool) : Prop := Ok PR [.t 2] (Zavq) Zac5 Zbev Zbi5 r y
theorem Zbac (r : Bool) (a0 : (List Zh)) (y : Zos ⊕ Bool) (h : Zaki a0 = some y) (hk : Zbew r y) : (Cfg.code Za1v []).HH PR [.t 2] Zavq Zac5 r ⟨6, idx 0 [(wL Zp a0)], []⟩ :=
 Zb h fun x1 h2 h => lR h hk ((q0.o [.call (wS x1)]).b (Z3k a0 h2))
theorem Zbi6 (a0 : (List Zh)) {r : Bool} (h : Zakj a0 = some r) : Fn PR 153 [(wL Zp a0)] (Zac5 r) :=
 Zb h fun y h0 h1 => FnG.of_cfg hT Go.Proofs.Tryz.func153 (by kernel_rfl : _ = some Za1v) (by kernel_rfl) 6 (by kernel_rfl) (Nat.le_of_ble_eq_true rfl) [.t 2] (by kernel_rfl) (by kernel_rfl) (Zbac r a0 y h0 (Z1 (fun s _ _ _ => nomatch s) h1))
noncomputable def Zalo : Code := (Go.Proofs.Tryz.f174.body).getD .skip
noncomputable def Z3p (r : Zai) : PV := (.agg (bx (Zd2 r)))
noncomputable def Zaho (r : Zai) : List (Nat × Blk) := []
noncomputable def Zaqq : Zlq → Cfg
 | .L0 _ _ _ _ => (nav [1, 1, 0, 1, 4] Zalo []).getD (.done .normal)
noncomputable def Zavr : Zlq → PW.St
 | .L0 E0 E1 E2 v4 => ⟨20, [(1, (.bptr 30000000 0)), (2, (.bptr 30000001 0)), (3, (.bptr 30000002 0)), (4, (wI v4))], [(30000000, .box [(wI E0.a0), (wI E0.a1), (wI E0.a2), (wI E0.a3), (wI E0.a4), (wI E0.a5)]), (30000001, .box (bx (Zd2 E1))), (30000002, .box (bx (Zd2 E2)))]⟩
abbrev Zaqr (r : Zai) (y : Zlq ⊕ Zai) : Prop := Ok PR [.c 2 84 true 7] (Zaho) Z3p Zaqq Zavr r y
theorem Za5p (r : Zai) (E0 : (A6 Int)) (E1 : Zai) (E2 : Zai) (v4 : Int) (y : Zlq ⊕ Zai) (h : Z6t E0 E1 E2 v4 = some y) (hk : Zaqr r y) : (Zaqq (.L0 E0 E1 E2 v4)).HH PR [.c 2 84 true 7] Zaho Z3p r (Zavr (.L0 E0 E1 E2 v4)) :=
 Za h (fun h1 h => Zb h fun x4 h5 h => Zb h fun x6 h7 h => Zb h fun x8 h9 h => lG h hk (((((((((((q0.t 1 h1).o [.nat (Int.toNat (IntKind.wrap .i64 (v4 + 1))), .cell 16 ((cI .i64) x4), .nat (Int.toNat v4), .sp [(wI E2.Generic), (wI E2.X), (wI x8.a0), (wI x8.a1), (wI x8.a2), (wI x8.a3), (wI x8.a4)], .pick [4, 1, 2, 3] [30000002, 30000000, 30000001], .pick [1, 2, 3, 4] [30000000, 30000001, 30000002]]).b (Zug (Tree.int .i64) E0 h5).1).b (Zug (Tree.int .i64) E0 h5).2.1).b (Eq.refl (Int.toNat (IntKind.wrap .i64 (v4 + 1))))).b (Ztc [] [] (Zug (Tree.int .i64) E0 h5).2.2)).b (Zwg (Tree.int .i64) E2.Color h7).1).b (Zwg (Tree.int .i64) E2.Color h7).2.1).b (Eq.refl (Int.toNat v4))).b (Zbnm (Tree.int .i64) [(wI E2.Generic), (wI E2.X)] [] h9).1).b (Zbnm (Tree.int .i64) [(wI E2.Generic), (wI E2.X)] [] h9).2)) (fun h1 h => lR h hk (q0.f 1 h1))
theorem Zbad (r : Zai) (a0 : (A6 Int)) (y : Zlq ⊕ Zai) (h : Zakk a0 = some y) (hk : Zaqr r y) : (Cfg.code Zalo []).HH PR [.c 2 84 true 7] Zaho Z3p r ⟨20, idx 0 [(.agg (List.map .t ((cA6 (cI .i64)) a0)))], []⟩ :=
 Zb h fun x1 h2 h => lG h hk (((((q0.o [.lab 1001, .lab 1002, .nat (Int.toNat 0), .cell 6 ((cI .i64) x1), .lab 1003, .pick [4, 3, 2, 1] [1003, 1002, 1001], .relab 1001 30000000, .relab 1002 30000001, .relab 1003 30000002, .pick [1, 2, 3, 4] [30000000, 30000001, 30000002]]).b (Zug (Tree.int .i64) a0 h2).1).b (Zug (Tree.int .i64) a0 h2).2.1).b (Eq.refl (Int.toNat 0))).b (Ztc [] [] (Zug (Tree.int .i64) a0 h2).2.2))
theorem Zbi7 (a0 : (A6 Int)) {r : Zai} (h : Zakl a0 = some r) : Fn PR 174 [(.agg (List.map .t ((cA6 (cI .i64)) a0)))] (Z3p r) :=
 Zb h fun y h0 h1 => FnG.of_cfg hT Go.Proofs.Tryz.func174 (by kernel_rfl : _ = some Zalo) (by kernel_rfl) 20 (by kernel_rfl) (Nat.le_of_ble_eq_true rfl) [.c 2 84 true 7] (by kernel_rfl) (by kernel_rfl) (Zbad r a0 y h0 (Z1 (fun s y h hk => match s with
 | .L0 E0 E1 E2 v4 => Za5p r E0 E1 E2 v4 y h hk) h1))
noncomputable def Z3q : Code := (Go.Proofs.Tryz.f173.body).getD .skip
noncomputable def Zr5 (r : (List UInt8)) : PV := (wS r)
noncomputable def Zzd (r : (List UInt8)) : List (Nat × Blk) := []
noncomputable def Z3r : Zhq → Cfg
 | .L0 _ _ _ => (nav [1, 1, 1, 0, 1, 4] Z3q []).getD (.done .normal)
 | .L1 _ _ _ => (nav [1, 1, 1, 1, 1, 0, 1, 4] Z3q []).getD (.done .normal)
 | .L2 _ _ _ _ => (nav [1, 1, 1, 1, 1, 0, 1, 4, 5, 1, 0, 4, 1, 4] Z3q []).getD (.done .normal)
noncomputable def Z69 : Zhq → PW.St
 | .L0 E0 v3 v4 => ⟨47, [(1, (.bptr 30000000 0)), (3, (wS v3)), (4, (wI v4))], [(30000000, .box (bx (Zd2 E0)))]⟩
 | .L1 E0 v3 v5 => ⟨47, [(1, (.bptr 30000000 0)), (3, (wS v3)), (5, (wI v5))], [(30000000, .box (bx (Zd2 E0)))]⟩
 | .L2 E0 v3 v5 v6 => ⟨47, [(1, (.bptr 30000000 0)), (3, (wS v3)), (5, (wI v5)), (6, (wI v6))], [(30000000, .box (bx (Zd2 E0)))]⟩
abbrev Z3s (r : (List UInt8)) (y : Zhq ⊕ (List UInt8)) : Prop := Ok PR [.t 2] (Zzd) Zr5 Z3r Z69 r y
theorem Za5q (r : (List UInt8)) (E0 : Zai) (v3 : (List UInt8)) (v4 : Int) (y : Zhq ⊕ (List UInt8)) (h : Z6u E0 v3 v4 = some y) (hk : Z3s r y) : (Z3r (.L0 E0 v3 v4)).HH PR [.t 2] Zzd Zr5 r (Z69 (.L0 E0 v3 v4)) :=
 Za h (fun h1 h => Zb h fun x2 h3 h => lG h hk (((q0.t 1 h1).o [.pick [4, 3, 1] [30000000], .pick [1, 3, 4] [30000000]]).b (Zcc h3))) (fun h1 h => have q := q0.f 1 h1;
 Za h (fun h6 h => Zb h fun x7 h8 h => Zb h fun x10 h11 h => lG h hk ((((q.t 1 h6).o [.call (wS x7), .pick [5, 3, 1] [30000000], .pick [1, 3, 5] [30000000]]).b (Zu5 E0.Generic h8)).b (Zcc h11))) (fun h6 h => lG h hk ((q.f 1 h6).o [.pick [5, 1, 3] [30000000], .pick [1, 3, 5] [30000000]])))
theorem Za5r (r : (List UInt8)) (E0 : Zai) (v3 : (List UInt8)) (v5 : Int) (y : Zhq ⊕ (List UInt8)) (h : Z6v E0 v3 v5 = some y) (hk : Z3s r y) : (Z3r (.L1 E0 v3 v5)).HH PR [.t 2] Zzd Zr5 r (Z69 (.L1 E0 v3 v5)) :=
 Za h (fun h1 h => lG h hk ((q0.t 1 h1).o [.pick [6, 1, 3, 5] [30000000], .pick [1, 3, 5, 6] [30000000]])) (fun h1 h => have q := q0.f 1 h1;
 Za h (fun h2 h => lR h hk (q.t 1 h2)) (fun h2 h => lR h hk (q.f 1 h2)))
theorem Za5s (r : (List UInt8)) (E0 : Zai) (v3 : (List UInt8)) (v5 : Int) (v6 : Int) (y : Zhq ⊕ (List UInt8)) (h : Z6w E0 v3 v5 v6 = some y) (hk : Z3s r y) : (Z3r (.L2 E0 v3 v5 v6)).HH PR [.t 2] Zzd Zr5 r (Z69 (.L2 E0 v3 v5 v6)) := have q := q0.o [.nat (Int.toNat v5)];
 Zb h fun x1 h2 h => have q := ((((q.o [.cell 34 ((cI .i64) x1)]).b (Zwg (Tree.int .i64) E0.Color h2).1).b (Zwg (Tree.int .i64) E0.Color h2).2.1).b (Eq.refl (Int.toNat v5))).b (Ztc [(wI E0.Generic), (wI E0.X)] [] (Zwg (Tree.int .i64) E0.Color h2).2.2);
 Za h (fun h3 h => Zb h fun x6 h7 h => Zb h fun x8 h9 h => lG h hk (((((((q.t 1 h3).o [.cs [.str x6], .pick [6, 3, 1, 5] [30000000], .pick [1, 3, 5, 6] [30000000]]).b (Zaew h7).1).b (Zaew h7).2.1).b (Zaew h7).2.2.1).b (Zaew h7).2.2.2).b (Zcc h9))) (fun h3 h => lG h hk ((q.f 1 h3).o [.pick [5, 1, 3] [30000000], .pick [1, 3, 5] [30000000]]))
theorem Zbae (r : (List UInt8)) (a0 : Zai) (y : Zhq ⊕ (List UInt8)) (h : Zakm a0 = some y) (hk : Z3s r y) : (Cfg.code Z3q []).HH PR [.t 2] Zzd Zr5 r ⟨47, idx 0 [(.agg (bx (Zd2 a0)))], []⟩ := have q := q0.o [.lab 1001];
 Zb h fun x1 h2 h => have q := (q.k x1).b (Zapn a0 h2);
 Za h (fun h3 h => lR h hk (q.t 1 h3)) (fun h3 h => lG h hk ((q.f 1 h3).o [.pick [4, 3, 1] [1001], .relab 1001 30000000, .pick [1, 3, 4] [30000000]]))
theorem Zbi8 (a0 : Zai) {r : (List UInt8)} (h : Zakn a0 = some r) : Fn PR 173 [(.agg (bx (Zd2 a0)))] (Zr5 r) :=
 Zb h fun y h0 h1 => FnG.of_cfg hT Go.Proofs.Tryz.func173 (by kernel_rfl : _ = some Z3q) (by kernel_rfl) 47 (by kernel_rfl) (Nat.le_of_ble_eq_true rfl) [.t 2] (by kernel_rfl) (by kernel_rfl) (Zbae r a0 y h0 (Z1 (fun s y h hk => match s with
 | .L0 E0 v3 v4 => Za5q r E0 v3 v4 y h hk
 | .L1 E0 v3 v5 => Za5r r E0 v3 v5 y h hk
 | .L2 E0 v3 v5 v6 => Za5s r E0 v3 v5 v6 y h hk) h1))
noncomputable def Zai4 : Code := (Go.Proofs.Tryz.f154.body).getD .skip
noncomputable def Z03 (r : (List UInt8)) : PV := (wS r)
noncomputable def Zafu (r : (List UInt8)) : List (Nat × Blk) := []
noncomputable def Zaxt : Zjo → Cfg := fun s => nomatch s
noncomputable def Za1w : Zjo → PW.St := fun s => nomatch s
abbrev Zaxu (r : (List UInt8)) (y : Zjo ⊕ (List UInt8)) : Prop := Ok PR [.t 2] (Zafu) Z03 Zaxt Za1w r y
theorem Zats (r : (List UInt8)) (a0 : (A6 Int)) (y : Zjo ⊕ (List UInt8)) (h : Z5g a0 = some y) (hk : Zaxu r y) : (Cfg.code Zai4 []).HH PR [.t 2] Zafu Z03 r ⟨6, idx 0 [(.agg (List.map .t ((cA6 (cI .i64)) a0)))], []⟩ :=
 Zb h fun x1 h2 h => Zb h fun x3 h4 h => lR h hk (((q0.o [.lab 1001, .call (.agg (bx (Zd2 x1))), .call (wS x3)]).b (Zbi7 a0 h2)).b (Zbi8 x1 h4))
theorem Za1x (a0 : (A6 Int)) {r : (List UInt8)} (h : Z2s a0 = some r) : Fn PR 154 [(.agg (List.map .t ((cA6 (cI .i64)) a0)))] (Z03 r) :=
 Zb h fun y h0 h1 => FnG.of_cfg hT Go.Proofs.Tryz.func154 (by kernel_rfl : _ = some Zai4) (by kernel_rfl) 6 (by kernel_rfl) (Nat.le_of_ble_eq_true rfl) [.t 2] (by kernel_rfl) (by kernel_rfl) (Zats r a0 y h0 (Z1 (fun s _ _ _ => nomatch s) h1))
noncomputable def Zaqs : Code := (Go.Proofs.Tryz.f155.body).getD .skip
noncomputable def Z5z (r : Bool) : PV := (wB r)
noncomputable def Zam8 (r : Bool) : List (Nat × Blk) := []
noncomputable def Za5t : Zlr → Cfg := fun s => nomatch s
noncomputable def Zbaf : Zlr → PW.St := fun s => nomatch s
abbrev Za5u (r : Bool) (y : Zlr ⊕ Bool) : Prop := Ok PR [.t 4] (Zam8) Z5z Za5t Zbaf r y
theorem Za1y (r : Bool) (a0 : Int) (a1 : Zi) (y : Zlr ⊕ Bool) (h : Zabp a0 a1 = some y) (hk : Za5u r y) : (Cfg.code Zaqs []).HH PR [.t 4] Zam8 Z5z r ⟨16, idx 0 [(wI a0), (.agg (bx (Zx a1)))], []⟩ := have q := q0.o [.lab 1003];
 Za h (fun h1 h => have q := q.t 1 h1;
 Zb h fun x2 h3 h => have q := (q.k x2).b (Znu a1 h3);
 Za h (fun h4 h => lR h hk (q.t 5 h4)) (fun h4 h => lR h hk (q.f 5 h4))) (fun h1 h => have q := q.f 1 h1;
 Zb h fun x5 h6 h => have q := (q.k x5).b (Znu a1 h6);
 Za h (fun h7 h => lR h hk (q.t 5 h7)) (fun h7 h => lR h hk (q.f 5 h7)))
theorem Zbag (a0 : Int) (a1 : Zi) {r : Bool} (h : Zaac a0 a1 = some r) : Fn PR 155 [(wI a0), (.agg (bx (Zx a1)))] (Z5z r) :=
 Zb h fun y h0 h1 => FnG.of_cfg hT Go.Proofs.Tryz.func155 (by kernel_rfl : _ = some Zaqs) (by kernel_rfl) 16 (by kernel_rfl) (Nat.le_of_ble_eq_true rfl) [.t 4] (by kernel_rfl) (by kernel_rfl) (Za1y r a0 a1 y h0 (Z1 (fun s _ _ _ => nomatch s) h1))
noncomputable def Zqx : Code := (Go.Proofs.Tryz.f139.body).getD .skip
noncomputable def Zl3 (r : Bool) : PV := (wB r)
noncomputable def Zpa (r : Bool) : List (Nat × Blk) := []
noncomputable def Zo3 : Zfi → Cfg
 | .L0 _ _ => (nav [1, 1, 1, 1] Zqx []).getD (.done .normal)
 | .L1 _ _ _ => (nav [1, 1, 1, 1, 1] Zqx []).getD (.done .normal)
 | .L2 _ _ _ _ => (nav [1, 1, 1, 1, 1, 1] Zqx []).getD (.done .normal)
 | .L3 _ _ _ _ _ => (nav [1, 1, 1, 1, 1, 1, 1, 1] Zqx []).getD (.done .normal)
 | .L4 _ _ _ _ _ _ => (nav [1, 1, 1, 1, 1, 1, 1, 1, 1, 1] Zqx []).getD (.done .normal)
 | .L5 _ _ _ _ _ _ _ => (nav [1, 1, 1, 1, 1, 1, 1, 1, 1, 1, 1, 1] Zqx []).getD (.done .normal)
 | .L6 _ _ _ _ _ _ _ _ => (nav [1, 1, 1, 1, 1, 1, 1, 1, 1, 1, 1, 1, 1, 1] Zqx []).getD (.done .normal)
 | .L7 _ _ _ _ _ _ _ _ => (nav [1, 1, 1, 1, 1, 1, 1, 1, 1, 1, 1, 1, 1, 1, 1, 1] Zqx []).getD (.done .normal)
noncomputable def Zqh : Zfi → PW.St
 | .L0 E0 v5 => ⟨138, [(2, (.bptr 30000000 0)), (5, (wB v5))], [(30000000, .box (bx (Zj E0)))]⟩
 | .L1 E0 v5 v6 => ⟨138, [(2, (.bptr 30000000 0)), (5, (wB v5)), (6, (wB v6))], [(30000000, .box (bx (Zj E0)))]⟩
 | .L2 E0 v5 v6 v7 => ⟨138, [(2, (.bptr 30000000 0)), (5, (wB v5)), (6, (wB v6)), (7, (wB v7))], [(30000000, .box (bx (Zj E0)))]⟩
 | .L3 E0 v5 v6 v7 v8 => ⟨138, [(2, (.bptr 30000000 0)), (5, (wB v5)), (6, (wB v6)), (7, (wB v7)), (8, (wB v8))], [(30000000, .box (bx (Zj E0)))]⟩
 | .L4 E0 v5 v6 v7 v8 v9 => ⟨138, [(2, (.bptr 30000000 0)), (5, (wB v5)), (6, (wB v6)), (7, (wB v7)), (8, (wB v8)), (9, (wB v9))], [(30000000, .box (bx (Zj E0)))]⟩
 | .L5 E0 v5 v6 v7 v8 v9 v10 => ⟨138, [(2, (.bptr 30000000 0)), (5, (wB v5)), (6, (wB v6)), (7, (wB v7)), (8, (wB v8)), (9, (wB v9)), (10, (wB v10))], [(30000000, .box (bx (Zj E0)))]⟩
 | .L6 E0 v5 v6 v7 v8 v9 v10 v11 => ⟨138, [(2, (.bptr 30000000 0)), (5, (wB v5)), (6, (wB v6)), (7, (wB v7)), (8, (wB v8)), (9, (wB v9)), (10, (wB v10)), (11, (wB v11))], [(30000000, .box (bx (Zj E0)))]⟩
 | .L7 v5 v6 v7 v8 v9 v10 v11 v12 => ⟨138, [(5, (wB v5)), (6, (wB v6)), (7, (wB v7)), (8, (wB v8)), (9, (wB v9)), (10, (wB v10)), (11, (wB v11)), (12, (wB v12))], []⟩
abbrev Zo4 (r : Bool) (y : Zfi ⊕ Bool) : Prop := Ok PR [.t 4] (Zpa) Zl3 Zo3 Zqh r y
theorem Zac6 (r : Bool) (v5 : Bool) (v6 : Bool) (v7 : Bool) (v8 : Bool) (v9 : Bool) (v10 : Bool) (v11 : Bool) (v12 : Bool) (y : Zfi ⊕ Bool) (h : Z1p v5 v6 v7 v8 v9 v10 v11 v12 = some y) (hk : Zo4 r y) : (Zo3 (.L7 v5 v6 v7 v8 v9 v10 v11 v12)).HH PR [.t 4] Zpa Zl3 r (Zqh (.L7 v5 v6 v7 v8 v9 v10 v11 v12)) :=
 Za h (fun h1 h => have q := q0.t 2 h1;
 Za h (fun h2 h => have q := q.t 2 h2;
 Za h (fun h3 h => have q := q.t 2 h3;
 Za h (fun h4 h => have q := q.t 2 h4;
 Za h (fun h5 h => have q := q.t 2 h5;
 Za h (fun h6 h => have q := q.t 2 h6;
 Za h (fun h7 h => lR h hk (q.t 2 h7)) (fun h7 h => lR h hk (q.f 2 h7))) (fun h6 h => lR h hk (((q.ff 4).a 2 h6).a 2 (Eq.refl false)))) (fun h5 h => lR h hk (((q.ff 6).a 2 h5).a 4 (Eq.refl false)))) (fun h4 h => lR h hk (((q.ff 8).a 2 h4).a 6 (Eq.refl false)))) (fun h3 h => lR h hk (((q.ff 10).a 2 h3).a 8 (Eq.refl false)))) (fun h2 h => lR h hk (((q.ff 12).a 2 h2).a 10 (Eq.refl false)))) (fun h1 h => lR h hk (((q0.ff 14).a 2 h1).a 12 (Eq.refl false)))
theorem Z3t (r : Bool) (E0 : Zk) (v5 : Bool) (v6 : Bool) (v7 : Bool) (v8 : Bool) (v9 : Bool) (v10 : Bool) (v11 : Bool) (y : Zfi ⊕ Bool) (h : Zwo E0 v5 v6 v7 v8 v9 v10 v11 = some y) (hk : Zo4 r y) : (Zo3 (.L6 E0 v5 v6 v7 v8 v9 v10 v11)).HH PR [.t 4] Zpa Zl3 r (Zqh (.L6 E0 v5 v6 v7 v8 v9 v10 v11)) :=
 Zb h fun x1 h2 h => have q := (q0.k x1).b (Zo9 E0.Op 102 h2);
 Za h (fun h3 h => Zb h fun x4 h5 h => lJ (Zac6 r v5 v6 v7 v8 v9 v10 v11 x4 _ h hk) (((q.t 1 h3).o [.call (wB x4), .stopAt 0, .pick [12, 5, 6, 7, 8, 9, 10, 11] [], .pick [5, 6, 7, 8, 9, 10, 11, 12] []]).b (Zbag E0.Op E0.Filter h5))) (fun h3 h => lJ (Zac6 r v5 v6 v7 v8 v9 v10 v11 (eqTs (Zx E0.Filter) (Zx (⟨0, 0, 0, 0, 0, 0, 0, ([] : List UInt8), 0, 0, (⟨0, 0⟩ : Ze), (⟨0, 0⟩ : Ze), (⟨0, 0⟩ : Ze)⟩ : Zi))) _ h hk) ((q.f 1 h3).o [.stopAt 0, .pick [12, 5, 6, 7, 8, 9, 10, 11] [], .pick [5, 6, 7, 8, 9, 10, 11, 12] []]))
theorem Zac7 (r : Bool) (E0 : Zk) (v5 : Bool) (v6 : Bool) (v7 : Bool) (v8 : Bool) (v9 : Bool) (v10 : Bool) (y : Zfi ⊕ Bool) (h : Z1q E0 v5 v6 v7 v8 v9 v10 = some y) (hk : Zo4 r y) : (Zo3 (.L5 E0 v5 v6 v7 v8 v9 v10)).HH PR [.t 4] Zpa Zl3 r (Zqh (.L5 E0 v5 v6 v7 v8 v9 v10)) :=
 Zb h fun x1 h2 h => have q := (q0.k x1).b (Zo9 E0.Op 112 h2);
 Za h (fun h3 h => have q := q.t 1 h3;
 Za h (fun h4 h => Zb h fun x5 h6 h => lJ (Z3t r E0 v5 v6 v7 v8 v9 v10 (!(x5 == ([] : List UInt8))) _ h hk) ((((((q.t 3 h4).o [.call (wS x5)]).tt 2).o [.stopAt 0, .pick [11, 2, 5, 6, 7, 8, 9, 10] [30000000], .pick [2, 5, 6, 7, 8, 9, 10, 11] [30000000]]).b (Za1x E0.Pool h6)).a 2 h4)) (fun h4 h => lJ (Z3t r E0 v5 v6 v7 v8 v9 v10 false _ h hk) ((q.f 5 h4).o [.stopAt 0, .pick [11, 2, 5, 6, 7, 8, 9, 10] [30000000], .pick [2, 5, 6, 7, 8, 9, 10, 11] [30000000]]))) (fun h3 h => lJ (Z3t r E0 v5 v6 v7 v8 v9 v10 (eqTs ((cA6 (cI .i64)) E0.Pool) ((cA6 (cI .i64)) (⟨0, 0, 0, 0, 0, 0⟩ : (A6 Int)))) _ h hk) ((q.f 1 h3).o [.stopAt 0, .pick [11, 2, 5, 6, 7, 8, 9, 10] [30000000], .pick [2, 5, 6, 7, 8, 9, 10, 11] [30000000]]))
theorem Zac8 (r : Bool) (E0 : Zk) (v5 : Bool) (v6 : Bool) (v7 : Bool) (v8 : Bool) (v9 : Bool) (y : Zfi ⊕ Bool) (h : Z1r E0 v5 v6 v7 v8 v9 = some y) (hk : Zo4 r y) : (Zo3 (.L4 E0 v5 v6 v7 v8 v9)).HH PR [.t 4] Zpa Zl3 r (Zqh (.L4 E0 v5 v6 v7 v8 v9)) := have q := (q0.n (E0.Mods.length : Int)).b (Zr Zp E0.Mods);
 Zb h fun x2 h3 h => have q := (q.k x2).b (Zo9 E0.Op 109 h3);
 Za h (fun h4 h => Zb h fun x5 h6 h => lJ (Zac7 r E0 v5 v6 v7 v8 v9 x5 _ h hk) (((q.t 1 h4).o [.call (wB x5), .stopAt 0, .pick [10, 2, 5, 6, 7, 8, 9] [30000000], .pick [2, 5, 6, 7, 8, 9, 10] [30000000]]).b (Zbi6 E0.Mods h6))) (fun h4 h => lJ (Zac7 r E0 v5 v6 v7 v8 v9 ((E0.Mods.length : Int) == 0) _ h hk) ((q.f 1 h4).o [.stopAt 0, .pick [10, 2, 5, 6, 7, 8, 9] [30000000], .pick [2, 5, 6, 7, 8, 9, 10] [30000000]]))
theorem Zac9 (r : Bool) (E0 : Zk) (v5 : Bool) (v6 : Bool) (v7 : Bool) (v8 : Bool) (y : Zfi ⊕ Bool) (h : Z1s E0 v5 v6 v7 v8 = some y) (hk : Zo4 r y) : (Zo3 (.L3 E0 v5 v6 v7 v8)).HH PR [.t 4] Zpa Zl3 r (Zqh (.L3 E0 v5 v6 v7 v8)) :=
 Zb h fun x1 h2 h => have q := (q0.k x1).b (Zo9 E0.Op 97 h2);
 Za h (fun h3 h => Zb h fun x4 h5 h => lJ (Zac8 r E0 v5 v6 v7 v8 x4 _ h hk) (((q.t 1 h3).o [.call (wB x4), .stopAt 0, .pick [9, 2, 5, 6, 7, 8] [30000000], .pick [2, 5, 6, 7, 8, 9] [30000000]]).b (Zbnz E0.Amount h5))) (fun h3 h => lJ (Zac8 r E0 v5 v6 v7 v8 (eqTs (Zb2 E0.Amount) (Zb2 (⟨0, 0, 0, (⟨0, 0, 0, 0, 0, 0, 0, ([] : List UInt8), 0, 0, (⟨0, 0⟩ : Ze), (⟨0, 0⟩ : Ze), (⟨0, 0⟩ : Ze)⟩ : Zi)⟩ : Zd3))) _ h hk) ((q.f 1 h3).o [.stopAt 0, .pick [9, 2, 5, 6, 7, 8] [30000000], .pick [2, 5, 6, 7, 8, 9] [30000000]]))
theorem Z3u (r : Bool) (E0 : Zk) (v5 : Bool) (v6 : Bool) (v7 : Bool) (y : Zfi ⊕ Bool) (h : Zwp E0 v5 v6 v7 = some y) (hk : Zo4 r y) : (Zo3 (.L2 E0 v5 v6 v7)).HH PR [.t 4] Zpa Zl3 r (Zqh (.L2 E0 v5 v6 v7)) :=
 Zb h fun x1 h2 h => have q := (q0.k x1).b (Zo9 E0.Op 99 h2);
 Za h (fun h3 h => Zb h fun x4 h5 h => lJ (Zac9 r E0 v5 v6 v7 x4 _ h hk) (((q.t 1 h3).o [.call (wB x4), .stopAt 0, .pick [8, 2, 5, 6, 7] [30000000], .pick [2, 5, 6, 7, 8] [30000000]]).b (Zapl E0.Card h5))) (fun h3 h => lJ (Zac9 r E0 v5 v6 v7 (E0.Card == ([] : List UInt8)) _ h hk) ((q.f 1 h3).o [.stopAt 0, .pick [8, 2, 5, 6, 7] [30000000], .pick [2, 5, 6, 7, 8] [30000000]]))
theorem Zw4 (r : Bool) (E0 : Zk) (v5 : Bool) (v6 : Bool) (y : Zfi ⊕ Bool) (h : Zs2 E0 v5 v6 = some y) (hk : Zo4 r y) : (Zo3 (.L1 E0 v5 v6)).HH PR [.t 4] Zpa Zl3 r (Zqh (.L1 E0 v5 v6)) :=
 Za h (fun h1 h => lJ (Z3u r E0 v5 v6 true _ h hk) ((q0.t 6 h1).o [.stopAt 0, .pick [7, 2, 5, 6] [30000000], .pick [2, 5, 6, 7] [30000000]])) (fun h1 h => have q := q0.f 3 h1;
 Zb h fun x2 h3 h => have q := ((q.k x2).f 1 (Zo9 E0.Op 107 h3)).b h1;
 Za h (fun h4 h => Zb h fun x5 h6 h => lJ (Z3u r E0 v5 v6 (!(x5 == ([] : List UInt8))) _ h hk) ((((((((q.t 3 h4).o [.call (wS x5)]).t 1 (Zavp E0.Counter h6)).f 1 h4).t 1 h1).f 1 h4).o [.stopAt 0, .pick [7, 2, 5, 6] [30000000], .pick [2, 5, 6, 7] [30000000]]).b h1)) (fun h4 h => lJ (Z3u r E0 v5 v6 false _ h hk) ((((((q.ff 7).o [.stopAt 0, .pick [7, 2, 5, 6] [30000000], .pick [2, 5, 6, 7] [30000000]]).a 4 h4).b h1).b h4).b h1)))
theorem Zada (r : Bool) (E0 : Zk) (v5 : Bool) (y : Zfi ⊕ Bool) (h : Z1t E0 v5 = some y) (hk : Zo4 r y) : (Zo3 (.L0 E0 v5)).HH PR [.t 4] Zpa Zl3 r (Zqh (.L0 E0 v5)) :=
 Za h (fun h1 h => lJ (Zw4 r E0 v5 true _ h hk) ((q0.t 8 h1).o [.stopAt 0, .pick [6, 2, 5] [30000000], .pick [2, 5, 6] [30000000]])) (fun h1 h => have q := q0.f 3 h1;
 Zb h fun x2 h3 h => have q := ((q.k x2).f 1 (Zo9 E0.Op 122 h3)).b h1;
 Za h (fun h4 h => have q := (((q.t 3 h4).f 1 h1).t 1 h4).f 1 h1;
 Za h (fun h5 h => lJ (Zw4 r E0 v5 (decide (E0.Zone ≤ 4)) _ h hk) (((((q.t 3 h5).f 1 h1).t 1 h5).f 1 h1).o [.stopAt 0, .pick [6, 2, 5] [30000000], .pick [2, 5, 6] [30000000]])) (fun h5 h => lJ (Zw4 r E0 v5 false _ h hk) ((((((q.ff 6).o [.stopAt 0, .pick [6, 2, 5] [30000000], .pick [2, 5, 6] [30000000]]).a 3 h5).b h1).b h5).b h1))) (fun h4 h => lJ (Zw4 r E0 v5 false _ h hk) ((((((((((q.ff 12).o [.stopAt 0, .pick [6, 2, 5] [30000000], .pick [2, 5, 6] [30000000]]).a 3 h4).b h1).b h4).b h1).a 3 (Eq.refl false)).b h1).b (Eq.refl false)).b h1)))
theorem Zbi9 (r : Bool) (a0 : Zk) (a1 : Int) (y : Zfi ⊕ Bool) (h : Zawq a0 a1 = some y) (hk : Zo4 r y) : (Cfg.code Zqx []).HH PR [.t 4] Zpa Zl3 r ⟨138, idx 0 [(.agg (bx (Zj a0))), (wI a1)], []⟩ := have q := q0.o [.lab 1002];
 Zb h fun x1 h2 h => have q := (q.o [.call (wS x1)]).b (Zbi0 a0.Op h2);
 Za h (fun h3 h => lR h hk (q.t 1 h3)) (fun h3 h => have q := q.f 1 h3;
 Zb h fun x4 h5 h => have q := (q.k x4).b (Zo9 a0.Op 114 h5);
 Za h (fun h6 h => Zb h fun x7 h8 h => lJ (Zada r a0 x7 _ h hk) (((q.t 1 h6).o [.call (wB x7), .stopAt 0, .pick [5, 2] [1002], .relab 1002 30000000, .pick [2, 5] [30000000]]).b (Zbnx a0.Ref a1 h8))) (fun h6 h => lJ (Zada r a0 (eqTs (Zfk a0.Ref) (Zfk (⟨0, 0, (⟨0, 0, 0, 0, 0, 0, 0, ([] : List UInt8), 0, 0, (⟨0, 0⟩ : Ze), (⟨0, 0⟩ : Ze), (⟨0, 0⟩ : Ze)⟩ : Zi)⟩ : Zgp))) _ h hk) ((q.f 1 h6).o [.stopAt 0, .pick [5, 2] [1002], .relab 1002 30000000, .pick [2, 5] [30000000]])))
theorem Zbn0 (a0 : Zk) (a1 : Int) {r : Bool} (h : Za0d a0 a1 = some r) : Fn PR 139 [(.agg (bx (Zj a0))), (wI a1)] (Zl3 r) :=
 Zb h fun y h0 h1 => FnG.of_cfg hT Go.Proofs.Tryz.func139 (by kernel_rfl : _ = some Zqx) (by kernel_rfl) 138 (by kernel_rfl) (Nat.le_of_ble_eq_true rfl) [.t 4] (by kernel_rfl) (by kernel_rfl) (Zbi9 r a0 a1 y h0 (Z1 (fun s y h hk => match s with
 | .L0 E0 v5 => Zada r E0 v5 y h hk
 | .L1 E0 v5 v6 => Zw4 r E0 v5 v6 y h hk
 | .L2 E0 v5 v6 v7 => Z3u r E0 v5 v6 v7 y h hk
 | .L3 E0 v5 v6 v7 v8 => Zac9 r E0 v5 v6 v7 v8 y h hk
 | .L4 E0 v5 v6 v7 v8 v9 => Zac8 r E0 v5 v6 v7 v8 v9 y h hk
 | .L5 E0 v5 v6 v7 v8 v9 v10 => Zac7 r E0 v5 v6 v7 v8 v9 v10 y h hk
 | .L6 E0 v5 v6 v7 v8 v9 v10 v11 => Z3t r E0 v5 v6 v7 v8 v9 v10 v11 y h hk
 | .L7 v5 v6 v7 v8 v9 v10 v11 v12 => Zac6 r v5 v6 v7 v8 v9 v10 v11 v12 y h hk) h1))
noncomputable def Z8t : Code := (Go.Proofs.Tryz.f116.body).getD .skip
noncomputable def Zvw (r : Bool) : PV := (wB r)
noncomputable def Z50 (r : Bool) : List (Nat × Blk) := []
noncomputable def Zafv : Zhx → Cfg
 | .L0 _ _ _ => (nav [1, 0, 1, 4] Z8t []).getD (.done .normal)
noncomputable def Zai5 : Zhx → PW.St
 | .L0 v0 v1 v5 => ⟨27, [(0, (wL Zj v0)), (1, (wI v1)), (5, (wI v5))], []⟩
abbrev Zafw (r : Bool) (y : Zhx ⊕ Bool) : Prop := Ok PR [.t 4] (Z50) Zvw Zafv Zai5 r y
theorem Zatt (r : Bool) (v0 : (List Zk)) (v1 : Int) (v5 : Int) (y : Zhx ⊕ Bool) (h : Zx7 v0 v1 v5 = some y) (hk : Zafw r y) : (Zafv (.L0 v0 v1 v5)).HH PR [.t 4] Z50 Zvw r (Zai5 (.L0 v0 v1 v5)) := have q := (q0.n (v0.length : Int)).b (Zr Zj v0);
 Za h (fun h2 h => have q := (q.t 1 h2).b (Zq Zj 64 (fun _ => rfl) v0);
 Zb h fun x3 h4 h => have q := ((q.o [.cs (Zj x3)]).b (Z2 h4)).b (Zv Zj h4);
 Zb h fun x5 h6 h => have q := (q.k x5).b (Zbn0 x3 v1 h6);
 Za h (fun h7 h => lR h hk (q.t 1 h7)) (fun h7 h => lG h hk ((q.f 1 h7).o [.pick [5, 0, 1] [], .pick [0, 1, 5] []]))) (fun h2 h => have q := ((q.f 1 h2).n (v0.length : Int)).b (Zr Zj v0);
 Za h (fun h10 h => lR h hk (((((q.t 2 h10).n (v0.length : Int)).tt 2).b (Zr Zj v0)).a 2 h10)) (fun h10 h => lR h hk (q.f 4 h10)))
theorem Zaxv (r : Bool) (a0 : (List Zk)) (a1 : Int) (y : Zhx ⊕ Bool) (h : Z8b a0 a1 = some y) (hk : Zafw r y) : (Cfg.code Z8t []).HH PR [.t 4] Z50 Zvw r ⟨27, idx 0 [(wL Zj a0), (wI a1)], []⟩ :=
 lG h hk (q0.o [.pick [5, 1, 0] [], .pick [0, 1, 5] []])
theorem Za5v (a0 : (List Zk)) (a1 : Int) {r : Bool} (h : Z6x a0 a1 = some r) : Fn PR 116 [(wL Zj a0), (wI a1)] (Zvw r) :=
 Zb h fun y h0 h1 => FnG.of_cfg hT Go.Proofs.Tryz.func116 (by kernel_rfl : _ = some Z8t) (by kernel_rfl) 27 (by kernel_rfl) (Nat.le_of_ble_eq_true rfl) [.t 4] (by kernel_rfl) (by kernel_rfl) (Zaxv r a0 a1 y h0 (Z1 (fun s y h hk => match s with
 | .L0 v0 v1 v5 => Zatt r v0 v1 v5 y h hk) h1))
noncomputable def Z04 : Code := (Go.Proofs.Tryz.f96.body).getD .skip
noncomputable def Zqi (r : Bool) : PV := (wB r)
noncomputable def Zw5 (r : Bool) : List (Nat × Blk) := []
noncomputable def Zyh : Zhr → Cfg
 | .L0 _ _ => (nav [1, 1, 1] Z04 []).getD (.done .normal)
 | .L1 _ _ => (nav [1, 1, 1, 1] Z04 []).getD (.done .normal)
 | .L2 _ _ => (nav [1, 1, 1, 1, 1] Z04 []).getD (.done .normal)
 | .L3 _ _ => (nav [1, 1, 1, 1, 1, 1] Z04 []).getD (.done .normal)
 | .L4 _ _ => (nav [1, 1, 1, 1, 1, 1, 1] Z04 []).getD (.done .normal)
noncomputable def Z12 : Zhr → PW.St
 | .L0 E0 v3 => ⟨117, [(1, (.bptr 30000000 0)), (3, (wB v3))], [(30000000, .box (bx (Zac E0)))]⟩
 | .L1 E0 v3 => ⟨117, [(1, (.bptr 30000000 0)), (3, (wB v3))], [(30000000, .box (bx (Zac E0)))]⟩
 | .L2 E0 v3 => ⟨117, [(1, (.bptr 30000000 0)), (3, (wB v3))], [(30000000, .box (bx (Zac E0)))]⟩
 | .L3 E0 v3 => ⟨117, [(1, (.bptr 30000000 0)), (3, (wB v3))], [(30000000, .box (bx (Zac E0)))]⟩
 | .L4 E0 v3 => ⟨117, [(1, (.bptr 30000000 0)), (3, (wB v3))], [(30000000, .box (bx (Zac E0)))]⟩
abbrev Zyi (r : Bool) (y : Zhr ⊕ Bool) : Prop := Ok PR [.t 2] (Zw5) Zqi Zyh Z12 r y
theorem Zadb (r : Bool) (E0 : Zs) (v3 : Bool) (y : Zhr ⊕ Bool) (h : Z1u E0 v3 = some y) (hk : Zyi r y) : (Zyh (.L4 E0 v3)).HH PR [.t 2] Zw5 Zqi r (Z12 (.L4 E0 v3)) :=
 Za h (fun h1 h => have q := q0.t 1 h1;
 Zb h fun x2 h3 h => have q := (q.k x2).b (Zbep E0.Specs h3);
 Za h (fun h4 h => Zb h fun x6 h7 h => lR h hk (((((((q.t 5 h4).n (E0.Specs.length : Int)).t 1 (Zr Z3 E0.Specs)).k x6).t 1 h4).b (Za5v E0.Effects (E0.Specs.length : Int) h7)).b h4)) (fun h4 h => lR h hk (q.f 7 h4))) (fun h1 h => have q := ((q0.f 1 h1).n (E0.Specs.length : Int)).b (Zr Z3 E0.Specs);
 Za h (fun h9 h => lR h hk (((((q.t 3 h9).n (E0.Effects.length : Int)).tt 2).b (Zr Zj E0.Effects)).a 2 h9)) (fun h9 h => lR h hk (q.f 5 h9)))
theorem Zadc (r : Bool) (E0 : Zs) (v3 : Bool) (y : Zhr ⊕ Bool) (h : Z1v E0 v3 = some y) (hk : Zyi r y) : (Zyh (.L3 E0 v3)).HH PR [.t 2] Zw5 Zqi r (Z12 (.L3 E0 v3)) :=
 Za h (fun h1 h => have q := q0.t 1 h1;
 Zb h fun x2 h3 h => have q := (q.k x2).b (Zbnw E0.Replace h3);
 Za h (fun h4 h => lR h hk (q.t 1 h4)) (fun h4 h => lJ (Zadb r E0 v3 _ h hk) ((q.f 1 h4).o [.stopAt 0, .pick [1, 3] [30000000], .pick [1, 3] [30000000]]))) (fun h1 h => have q := q0.f 1 h1;
 Za h (fun h5 h => lR h hk (q.t 1 h5)) (fun h5 h => lJ (Zadb r E0 v3 _ h hk) ((q.f 1 h5).o [.stopAt 0, .pick [1, 3] [30000000], .pick [1, 3] [30000000]])))
theorem Zadd (r : Bool) (E0 : Zs) (v3 : Bool) (y : Zhr ⊕ Bool) (h : Z1w E0 v3 = some y) (hk : Zyi r y) : (Zyh (.L2 E0 v3)).HH PR [.t 2] Zw5 Zqi r (Z12 (.L2 E0 v3)) :=
 Za h (fun h1 h => have q := q0.t 1 h1;
 Zb h fun x2 h3 h => have q := (q.k x2).b (Zbnv E0.Trigger h3);
 Za h (fun h4 h => lR h hk (q.t 1 h4)) (fun h4 h => lJ (Zadc r E0 v3 _ h hk) ((q.f 1 h4).o [.stopAt 0, .pick [1, 3] [30000000], .pick [1, 3] [30000000]]))) (fun h1 h => have q := q0.f 1 h1;
 Za h (fun h5 h => lR h hk (((q.tt 4).a 3 h5).b (Eq.refl true))) (fun h5 h => have q := q.f 3 h5;
 Za h (fun h6 h => lR h hk (q.t 1 h6)) (fun h6 h => lJ (Zadc r E0 v3 _ h hk) ((q.f 1 h6).o [.stopAt 0, .pick [1, 3] [30000000], .pick [1, 3] [30000000]]))))
theorem Zade (r : Bool) (E0 : Zs) (v3 : Bool) (y : Zhr ⊕ Bool) (h : Z1x E0 v3 = some y) (hk : Zyi r y) : (Zyh (.L1 E0 v3)).HH PR [.t 2] Zw5 Zqi r (Z12 (.L1 E0 v3)) :=
 Za h (fun h1 h => have q := q0.t 1 h1;
 Zb h fun x2 h3 h => have q := (q.k x2).b (Zbef E0.Price h3);
 Za h (fun h4 h => lR h hk (q.t 1 h4)) (fun h4 h => lJ (Zadd r E0 v3 _ h hk) ((q.f 1 h4).o [.stopAt 0, .pick [1, 3] [30000000], .pick [1, 3] [30000000]]))) (fun h1 h => have q := q0.f 1 h1;
 Za h (fun h5 h => lR h hk (((q.tt 4).a 3 h5).b (Eq.refl true))) (fun h5 h => have q := q.f 3 h5;
 Za h (fun h6 h => lR h hk (q.t 1 h6)) (fun h6 h => lJ (Zadd r E0 v3 _ h hk) ((q.f 1 h6).o [.stopAt 0, .pick [1, 3] [30000000], .pick [1, 3] [30000000]]))))
theorem Z3v (r : Bool) (E0 : Zs) (v3 : Bool) (y : Zhr ⊕ Bool) (h : Zwq E0 v3 = some y) (hk : Zyi r y) : (Zyh (.L0 E0 v3)).HH PR [.t 2] Zw5 Zqi r (Z12 (.L0 E0 v3)) :=
 Za h (fun h1 h => have q := q0.t 1 h1;
 Zb h fun x2 h3 h => have q := (q.k x2).b (Znu E0.Filter h3);
 Za h (fun h4 h => lR h hk (((q.tt 11).a 5 h4).a 6 (Eq.refl true))) (fun h4 h => have q := q.f 5 h4;
 Za h (fun h5 h => lR h hk (((q.tt 6).a 5 h5).b (Eq.refl true))) (fun h5 h => have q := q.f 3 h5;
 Zb h fun x6 h7 h => have q := (((q.o [.call (wS x6)]).ff 2).b (Z3k E0.Mods h7)).a 2 h5;
 Za h (fun h8 h => lR h hk (q.t 1 h8)) (fun h8 h => lJ (Zade r E0 v3 _ h hk) ((q.f 1 h8).o [.stopAt 0, .pick [1, 3] [30000000], .pick [1, 3] [30000000]]))))) (fun h1 h => have q := q0.f 1 h1;
 Za h (fun h9 h => lR h hk (((q.tt 6).a 5 h9).b (Eq.refl true))) (fun h9 h => have q := ((((q.f 3 h9).n (E0.Mods.length : Int)).ff 2).b (Zr Zp E0.Mods)).a 2 h9;
 Za h (fun h11 h => lR h hk (q.t 1 h11)) (fun h11 h => lJ (Zade r E0 v3 _ h hk) ((q.f 1 h11).o [.stopAt 0, .pick [1, 3] [30000000], .pick [1, 3] [30000000]]))))
theorem Zbja (r : Bool) (a0 : Zs) (y : Zhr ⊕ Bool) (h : Zaws a0 = some y) (hk : Zyi r y) : (Cfg.code Z04 []).HH PR [.t 2] Zw5 Zqi r ⟨117, idx 0 [(.agg (bx (Zac a0)))], []⟩ := have q := q0.o [.lab 1001];
 Za h (fun h1 h => lR h hk (((q.tt 5).a 4 h1).b (Eq.refl true))) (fun h1 h => have q := q.f 4 h1;
 Za h (fun h2 h => lR h hk (q.t 1 h2)) (fun h2 h => have q := q.f 1 h2;
 Za h (fun h3 h => lJ (Z3v r a0 true _ h hk) ((((q.tt 8).o [.stopAt 0, .pick [3, 1] [1001], .relab 1001 30000000, .pick [1, 3] [30000000]]).a 4 h3).a 4 (Eq.refl true))) (fun h3 h => have q := q.f 4 h3;
 Za h (fun h4 h => lJ (Z3v r a0 true _ h hk) ((q.t 4 h4).o [.stopAt 0, .pick [3, 1] [1001], .relab 1001 30000000, .pick [1, 3] [30000000]])) (fun h4 h => lJ (Z3v r a0 (a0.Kind == 4) _ h hk) ((q.f 4 h4).o [.stopAt 0, .pick [3, 1] [1001], .relab 1001 30000000, .pick [1, 3] [30000000]])))))
theorem Zafx (a0 : Zs) {r : Bool} (h : Zabq a0 = some r) : Fn PR 96 [(.agg (bx (Zac a0)))] (Zqi r) :=
 Zb h fun y h0 h1 => FnG.of_cfg hT Go.Proofs.Tryz.func96 (by kernel_rfl : _ = some Z04) (by kernel_rfl) 117 (by kernel_rfl) (Nat.le_of_ble_eq_true rfl) [.t 2] (by kernel_rfl) (by kernel_rfl) (Zbja r a0 y h0 (Z1 (fun s y h hk => match s with
 | .L0 E0 v3 => Z3v r E0 v3 y h hk
 | .L1 E0 v3 => Zade r E0 v3 y h hk
 | .L2 E0 v3 => Zadd r E0 v3 y h hk
 | .L3 E0 v3 => Zadc r E0 v3 y h hk
 | .L4 E0 v3 => Zadb r E0 v3 y h hk) h1))
noncomputable def Za1z : Code := (Go.Proofs.Tryz.f97.body).getD .skip
noncomputable def Zadf (r : Bool) : PV := (wB r)
noncomputable def Zavs (r : Bool) : List (Nat × Blk) := []
noncomputable def Zbex : Zot → Cfg := fun s => nomatch s
noncomputable def Zbjb : Zot → PW.St := fun s => nomatch s
abbrev Zbey (r : Bool) (y : Zot ⊕ Bool) : Prop := Ok PR [.t 2] (Zavs) Zadf Zbex Zbjb r y
theorem Zbah (r : Bool) (a0 : Zw) (y : Zot ⊕ Bool) (h : Zako a0 = some y) (hk : Zbey r y) : (Cfg.code Za1z []).HH PR [.t 2] Zavs Zadf r ⟨13, idx 0 [(.agg (bx (Z8 a0)))], []⟩ := have q := q0.o [.lab 1001];
 Za h (fun h1 h => lR h hk (q.t 5 h1)) (fun h1 h => lR h hk (q.f 5 h1))
theorem Zbjc (a0 : Zw) {r : Bool} (h : Zakp a0 = some r) : Fn PR 97 [(.agg (bx (Z8 a0)))] (Zadf r) :=
 Zb h fun y h0 h1 => FnG.of_cfg hT Go.Proofs.Tryz.func97 (by kernel_rfl : _ = some Za1z) (by kernel_rfl) 13 (by kernel_rfl) (Nat.le_of_ble_eq_true rfl) [.t 2] (by kernel_rfl) (by kernel_rfl) (Zbah r a0 y h0 (Z1 (fun s _ _ _ => nomatch s) h1))
noncomputable def Zalp : Code := (Go.Proofs.Tryz.f74.body).getD .skip
noncomputable def Z3w (r : Bool) : PV := (wB r)
noncomputable def Zafy (r : Bool) : List (Nat × Blk) := []
noncomputable def Zalq : Zmu → Cfg
 | .L0 _ => (nav [1, 1, 1] Zalp []).getD (.done .normal)
 | .L1 _ _ _ => (nav [1, 1, 1, 1, 0, 1, 4] Zalp []).getD (.done .normal)
noncomputable def Zaqt : Zmu → PW.St
 | .L0 E0 => ⟨139, [(1, (.bptr 30000000 0))], [(30000000, .box (bx (Z8 E0)))]⟩
 | .L1 E0 v3 v4 => ⟨139, [(1, (.bptr 30000000 0)), (3, (wI v3)), (4, (wI v4))], [(30000000, .box (bx (Z8 E0)))]⟩
abbrev Zalr (r : Bool) (y : Zmu ⊕ Bool) : Prop := Ok PR [.t 2] (Zafy) Z3w Zalq Zaqt r y
theorem Zadg (r : Bool) (E0 : Zw) (y : Zmu ⊕ Bool) (h : Z1y E0 = some y) (hk : Zalr r y) : (Zalq (.L0 E0)).HH PR [.t 2] Zafy Z3w r (Zaqt (.L0 E0)) :=
 lG h hk (q0.o [.pick [4, 3, 1] [30000000], .pick [1, 3, 4] [30000000]])
theorem Zbez (r : Bool) (E0 : Zw) (v3 : Int) (v4 : Int) (y : Zmu ⊕ Bool) (h : Zae4 E0 v3 v4 = some y) (hk : Zalr r y) : (Zalq (.L1 E0 v3 v4)).HH PR [.t 2] Zafy Z3w r (Zaqt (.L1 E0 v3 v4)) := have q := (q0.n (E0.Abilities.length : Int)).b (Zr Zac E0.Abilities);
 Za h (fun h2 h => have q := (q.t 1 h2).b (Zq Zac 72 (fun _ => rfl) E0.Abilities);
 Zb h fun x3 h4 h => have q := ((q.o [.cs (Zac x3)]).b (Z2 h4)).b (Zv Zac h4);
 Zb h fun x5 h6 h => have q := (q.k x5).b (Zafx x3 h6);
 Za h (fun h7 h => lR h hk (q.t 1 h7)) (fun h7 h => have q := ((((q.f 1 h7).o [.cs (Zac x3)]).b (Zq Zac 72 (fun _ => rfl) E0.Abilities)).b (Z2 h4)).b (Zv Zac h4);
 Za h (fun h8 h => lG h hk ((q.t 1 h8).o [.pick [4, 3, 1] [30000000], .pick [1, 3, 4] [30000000]])) (fun h8 h => lG h hk ((q.f 1 h8).o [.pick [4, 1, 3] [30000000], .pick [1, 3, 4] [30000000]])))) (fun h2 h => have q := q.f 1 h2;
 Zb h fun x15 h16 h => have q := (q.k x15).b (Zbjc E0 h16);
 Za h (fun h17 h => have q := q.t 1 h17;
 Za h (fun h18 h => have q := q.t 4 h18;
 Za h (fun h19 h => have q := ((((q.t 3 h19).n (E0.Abilities.length : Int)).tt 2).b (Zr Zac E0.Abilities)).a 2 h19;
 Za h (fun h20 h => lR h hk (q.t 3 h20)) (fun h20 h => lR h hk (q.f 3 h20))) (fun h19 h => lR h hk (((q.ff 8).a 5 h19).a 3 (Eq.refl false)))) (fun h18 h => lR h hk (((q.ff 12).a 4 h18).a 8 (Eq.refl false)))) (fun h17 h => have q := q.f 1 h17;
 Za h (fun h21 h => have q := q.t 4 h21;
 Za h (fun h22 h => have q := ((((q.tt 8).a 5 h22).b h21).b h22).b h21;
 Za h (fun h23 h => lR h hk (((((q.tt 7).a 4 h23).b h21).b h23).b h21)) (fun h23 h => lR h hk ((((q.f 4 h23).t 1 h21).f 1 h23).t 1 h21))) (fun h22 h => lR h hk ((((((((q.f 5 h22).t 1 h21).f 1 h22).t 1 h21).f 4 (Eq.refl false)).t 1 h21).f 1 (Eq.refl false)).t 1 h21))) (fun h21 h => lR h hk (q.f 8 h21))))
theorem Zbjd (r : Bool) (a0 : Zw) (y : Zmu ⊕ Bool) (h : Zawt a0 = some y) (hk : Zalr r y) : (Cfg.code Zalp []).HH PR [.t 2] Zafy Z3w r ⟨139, idx 0 [(.agg (bx (Z8 a0)))], []⟩ := have q := q0.o [.lab 1001];
 Zb h fun x1 h2 h => have q := (q.k x1).b (Zapl a0.Name h2);
 Za h (fun h3 h => lR h hk (((q.tt 24).a 5 h3).a 19 (Eq.refl true))) (fun h3 h => have q := q.f 3 h3;
 Zb h fun x4 h5 h => have q := (((q.k x4).ff 2).b (Zapn a0.Cost h5)).a 2 h3;
 Za h (fun h6 h => lR h hk (((q.tt 19).a 5 h6).a 14 (Eq.refl true))) (fun h6 h => have q := q.f 3 h6;
 Zb h fun x7 h8 h => have q := (((q.k x7).ff 2).b (Zbnr a0.Line h8)).a 2 h6;
 Za h (fun h9 h => lR h hk (((q.tt 14).a 5 h9).a 9 (Eq.refl true))) (fun h9 h => have q := q.f 3 h9;
 Zb h fun x10 h11 h => have q := (((q.k x10).ff 2).b (Za7q a0.Keys h11)).a 2 h9;
 Za h (fun h12 h => lR h hk (((q.tt 9).a 4 h12).a 5 (Eq.refl true))) (fun h12 h => have q := q.f 4 h12;
 Za h (fun h13 h => lR h hk (((q.tt 5).a 4 h13).b (Eq.refl true))) (fun h13 h => have q := q.f 4 h13;
 Za h (fun h14 h => lR h hk (q.t 1 h14)) (fun h14 h => have q := q.f 1 h14;
 Za h (fun h15 h => lR h hk (((q.tt 24).a 4 h15).a 20 (Eq.refl true))) (fun h15 h => have q := q.f 4 h15;
 Za h (fun h16 h => lR h hk (((q.tt 20).a 4 h16).a 16 (Eq.refl true))) (fun h16 h => have q := q.f 4 h16;
 Za h (fun h17 h => lR h hk (((q.tt 16).a 4 h17).a 12 (Eq.refl true))) (fun h17 h => have q := q.f 4 h17;
 Za h (fun h18 h => lR h hk (((q.tt 12).a 6 h18).a 6 (Eq.refl true))) (fun h18 h => have q := q.f 2 h18;
 Zb h fun x19 h20 h => have q := (((q.k x19).ff 2).b (Za05 a0 h20)).a 2 h18;
 Za h (fun h21 h => have q := q.t 4 h21;
 Za h (fun h22 h => lR h hk ((((((((((((q.tt 5).ff 1).tt 1).ff 1).tt 6).a 3 h22).b h21).b h22).b h18).b h21).b h18).a 6 (Eq.refl true))) (fun h22 h => have q := ((((((q.f 3 h22).t 1 h21).ff 2).t 1 h22).f 1 h18).b h21).b h18;
 Za h (fun h23 h => lR h hk (((q.tt 6).a 5 h23).b (Eq.refl true))) (fun h23 h => have q := ((((q.f 3 h23).n (a0.Abilities.length : Int)).ff 2).b (Zr Zac a0.Abilities)).a 2 h23;
 Za h (fun h25 h => lR h hk (q.t 1 h25)) (fun h25 h => lJ (Zadg r a0 _ h hk) ((q.f 1 h25).o [.stopAt 0, .pick [1] [1001], .relab 1001 30000000, .pick [1] [30000000]]))))) (fun h21 h => have q := (((((((((q.ff 11).n (a0.Abilities.length : Int)).ff 2).a 5 h21).b h18).b h21).b h18).a 3 (Eq.refl false)).b (Zr Zac a0.Abilities)).a 2 (Eq.refl false);
 Za h (fun h27 h => lR h hk (q.t 1 h27)) (fun h27 h => lJ (Zadg r a0 _ h hk) ((q.f 1 h27).o [.stopAt 0, .pick [1] [1001], .relab 1001 30000000, .pick [1] [30000000]])))))))))))))
theorem Zbn1 (a0 : Zw) {r : Bool} (h : Za0e a0 = some r) : Fn PR 74 [(.agg (bx (Z8 a0)))] (Z3w r) :=
 Zb h fun y h0 h1 => FnG.of_cfg hT Go.Proofs.Tryz.func74 (by kernel_rfl : _ = some Zalp) (by kernel_rfl) 139 (by kernel_rfl) (Nat.le_of_ble_eq_true rfl) [.t 2] (by kernel_rfl) (by kernel_rfl) (Zbjd r a0 y h0 (Z1 (fun s y h hk => match s with
 | .L0 E0 => Zadg r E0 y h hk
 | .L1 E0 v3 v4 => Zbez r E0 v3 v4 y h hk) h1))
noncomputable def Zals : Code := (Go.Proofs.Tryz.f75.body).getD .skip
noncomputable def Z3x (r : Int) : PV := (wI r)
noncomputable def Zahp (r : Int) : List (Nat × Blk) := []
noncomputable def Zaqu : Zls → Cfg
 | .L0 _ _ _ => (nav [1, 0, 1, 4] Zals []).getD (.done .normal)
noncomputable def Zavt : Zls → PW.St
 | .L0 v0 v1 v5 => ⟨20, [(0, (wL Z8 v0)), (1, (wS v1)), (5, (wI v5))], []⟩
abbrev Zaqv (r : Int) (y : Zls ⊕ Int) : Prop := Ok PR [.t 4] (Zahp) Z3x Zaqu Zavt r y
theorem Za5w (r : Int) (v0 : (List Zw)) (v1 : (List UInt8)) (v5 : Int) (y : Zls ⊕ Int) (h : Z6y v0 v1 v5 = some y) (hk : Zaqv r y) : (Zaqu (.L0 v0 v1 v5)).HH PR [.t 4] Zahp Z3x r (Zavt (.L0 v0 v1 v5)) := have q := (q0.n (v0.length : Int)).b (Zr Z8 v0);
 Za h (fun h2 h => have q := (q.t 1 h2).b (Zq Z8 17 (fun _ => rfl) v0);
 Zb h fun x3 h4 h => have q := ((q.o [.cs (Z8 x3)]).b (Z2 h4)).b (Zv Z8 h4);
 Za h (fun h5 h => lR h hk (q.t 1 h5)) (fun h5 h => lG h hk ((q.f 1 h5).o [.pick [5, 0, 1] [], .pick [0, 1, 5] []]))) (fun h2 h => lR h hk (q.f 1 h2))
theorem Zbai (r : Int) (a0 : (List Zw)) (a1 : (List UInt8)) (y : Zls ⊕ Int) (h : Zakq a0 a1 = some y) (hk : Zaqv r y) : (Cfg.code Zals []).HH PR [.t 4] Zahp Z3x r ⟨20, idx 0 [(wL Z8 a0), (wS a1)], []⟩ :=
 lG h hk (q0.o [.pick [5, 1, 0] [], .pick [0, 1, 5] []])
theorem Zbje (a0 : (List Zw)) (a1 : (List UInt8)) {r : Int} (h : Zakr a0 a1 = some r) : Fn PR 75 [(wL Z8 a0), (wS a1)] (Z3x r) :=
 Zb h fun y h0 h1 => FnG.of_cfg hT Go.Proofs.Tryz.func75 (by kernel_rfl : _ = some Zals) (by kernel_rfl) 20 (by kernel_rfl) (Nat.le_of_ble_eq_true rfl) [.t 4] (by kernel_rfl) (by kernel_rfl) (Zbai r a0 a1 y h0 (Z1 (fun s y h hk => match s with
 | .L0 v0 v1 v5 => Za5w r v0 v1 v5 y h hk) h1))
noncomputable def Zahq : Code := (Go.Proofs.Tryz.f98.body).getD .skip
noncomputable def Zz1 (r : Bool) : PV := (wB r)
noncomputable def Zadh (r : Bool) : List (Nat × Blk) := []
noncomputable def Zam9 : Zkg → Cfg
 | .L0 _ _ _ => (nav [1, 0, 1, 4] Zahq []).getD (.done .normal)
noncomputable def Zaqw : Zkg → PW.St
 | .L0 v0 v1 v5 => ⟨26, [(0, (wL Z8 v0)), (1, (wS v1)), (5, (wI v5))], []⟩
abbrev Zana (r : Bool) (y : Zkg ⊕ Bool) : Prop := Ok PR [.t 4] (Zadh) Zz1 Zam9 Zaqw r y
theorem Za10 (r : Bool) (v0 : (List Zw)) (v1 : (List UInt8)) (v5 : Int) (y : Zkg ⊕ Bool) (h : Z2t v0 v1 v5 = some y) (hk : Zana r y) : (Zam9 (.L0 v0 v1 v5)).HH PR [.t 4] Zadh Zz1 r (Zaqw (.L0 v0 v1 v5)) := have q := (q0.n (v0.length : Int)).b (Zr Z8 v0);
 Za h (fun h2 h => have q := (q.t 1 h2).b (Zq Z8 17 (fun _ => rfl) v0);
 Zb h fun x3 h4 h => have q := ((q.o [.cs (Z8 x3)]).b (Z2 h4)).b (Zv Z8 h4);
 Za h (fun h5 h => have q := ((((((q.t 3 h5).o [.cs (Z8 x3)]).tt 3).b (Zq Z8 17 (fun _ => rfl) v0)).b (Z2 h4)).b (Zv Z8 h4)).a 3 h5;
 Za h (fun h6 h => lR h hk (q.t 1 h6)) (fun h6 h => lG h hk ((q.f 1 h6).o [.pick [5, 0, 1] [], .pick [0, 1, 5] []]))) (fun h5 h => lG h hk ((((q.ff 7).o [.pick [5, 0, 1] [], .pick [0, 1, 5] []]).a 6 h5).b (Eq.refl false)))) (fun h2 h => lR h hk (q.f 1 h2))
theorem Za5x (r : Bool) (a0 : (List Zw)) (a1 : (List UInt8)) (y : Zkg ⊕ Bool) (h : Zagt a0 a1 = some y) (hk : Zana r y) : (Cfg.code Zahq []).HH PR [.t 4] Zadh Zz1 r ⟨26, idx 0 [(wL Z8 a0), (wS a1)], []⟩ :=
 lG h hk (q0.o [.pick [5, 1, 0] [], .pick [0, 1, 5] []])
theorem Zbe0 (a0 : (List Zw)) (a1 : (List UInt8)) {r : Bool} (h : Zae5 a0 a1 = some r) : Fn PR 98 [(wL Z8 a0), (wS a1)] (Zz1 r) :=
 Zb h fun y h0 h1 => FnG.of_cfg hT Go.Proofs.Tryz.func98 (by kernel_rfl : _ = some Zahq) (by kernel_rfl) 26 (by kernel_rfl) (Nat.le_of_ble_eq_true rfl) [.t 4] (by kernel_rfl) (by kernel_rfl) (Za5x r a0 a1 y h0 (Z1 (fun s y h hk => match s with
 | .L0 v0 v1 v5 => Za10 r v0 v1 v5 y h hk) h1))
noncomputable def Zz2 : Code := (Go.Proofs.Tryz.f76.body).getD .skip
noncomputable def Zqj (r : Bool) : PV := (wB r)
noncomputable def Zyj (r : Bool) : List (Nat × Blk) := []
noncomputable def Z3y : Zga → Cfg
 | .L0 _ _ _ => (nav [1, 0, 1, 4] Zz2 []).getD (.done .normal)
 | .L1 _ _ _ _ => (nav [1, 0, 1, 4, 5, 1, 0, 4, 1, 4] Zz2 []).getD (.done .normal)
noncomputable def Z51 : Zga → PW.St
 | .L0 v0 E0 v5 => ⟨45, [(0, (wL Z8 v0)), (3, (.bptr 30000000 0)), (5, (wI v5))], [(30000000, .box (bx (Z8 E0)))]⟩
 | .L1 v0 E0 v5 v6 => ⟨45, [(0, (wL Z8 v0)), (3, (.bptr 30000000 0)), (5, (wI v5)), (6, (wI v6))], [(30000000, .box (bx (Z8 E0)))]⟩
abbrev Z3z (r : Bool) (y : Zga ⊕ Bool) : Prop := Ok PR [.t 4] (Zyj) Zqj Z3y Z51 r y
theorem Zatu (r : Bool) (v0 : (List Zw)) (E0 : Zw) (v5 : Int) (y : Zga ⊕ Bool) (h : Zx8 v0 E0 v5 = some y) (hk : Z3z r y) : (Z3y (.L0 v0 E0 v5)).HH PR [.t 4] Zyj Zqj r (Z51 (.L0 v0 E0 v5)) := have q := (q0.n (E0.Abilities.length : Int)).b (Zr Zac E0.Abilities);
 Za h (fun h2 h => lG h hk ((q.t 1 h2).o [.pick [6, 0, 3, 5] [30000000], .pick [0, 3, 5, 6] [30000000]])) (fun h2 h => lR h hk (q.f 1 h2))
theorem Zatv (r : Bool) (v0 : (List Zw)) (E0 : Zw) (v5 : Int) (v6 : Int) (y : Zga ⊕ Bool) (h : Zx9 v0 E0 v5 v6 = some y) (hk : Z3z r y) : (Z3y (.L1 v0 E0 v5 v6)).HH PR [.t 4] Zyj Zqj r (Z51 (.L1 v0 E0 v5 v6)) := have q := q0.b (Zq Zac 72 (fun _ => rfl) E0.Abilities);
 Zb h fun x1 h2 h => have q := (((q.o [.cs (Zac x1), .num (x1.Effects.length : Int)]).b (Z2 h2)).b (Zv Zac h2)).b (Zr Zj x1.Effects);
 Za h (fun h4 h => have q := (((((q.t 1 h4).o [.cs (Zac x1)]).b (Zq Zac 72 (fun _ => rfl) E0.Abilities)).b (Z2 h2)).b (Zv Zac h2)).b (Zq Zj 64 (fun _ => rfl) x1.Effects);
 Zb h fun x5 h6 h => have q := ((q.o [.cs (Zj x5), .lab 1007]).b (Z2 h6)).b (Zv Zj h6);
 Za h (fun h7 h => have q := q.t 4 h7;
 Zb h fun x8 h9 h => have q := (((q.k x8).tt 2).b (Zbe0 v0 x5.Card h9)).a 2 h7;
 Za h (fun h10 h => lR h hk (q.t 1 h10)) (fun h10 h => lG h hk ((q.f 1 h10).o [.pick [6, 0, 3, 5] [30000000], .pick [0, 3, 5, 6] [30000000]]))) (fun h7 h => lG h hk ((((q.ff 7).o [.pick [6, 0, 3, 5] [30000000], .pick [0, 3, 5, 6] [30000000]]).a 6 h7).b (Eq.refl false)))) (fun h4 h => lG h hk ((q.f 1 h4).o [.pick [5, 0, 3] [30000000], .pick [0, 3, 5] [30000000]]))
theorem Zaxw (r : Bool) (a0 : (List Zw)) (a1 : Zw) (y : Zga ⊕ Bool) (h : Z8c a0 a1 = some y) (hk : Z3z r y) : (Cfg.code Zz2 []).HH PR [.t 4] Zyj Zqj r ⟨45, idx 0 [(wL Z8 a0), (.agg (bx (Z8 a1)))], []⟩ :=
 lG h hk (q0.o [.lab 1003, .pick [5, 3, 0] [1003], .relab 1003 30000000, .pick [0, 3, 5] [30000000]])
theorem Za5y (a0 : (List Zw)) (a1 : Zw) {r : Bool} (h : Z6z a0 a1 = some r) : Fn PR 76 [(wL Z8 a0), (.agg (bx (Z8 a1)))] (Zqj r) :=
 Zb h fun y h0 h1 => FnG.of_cfg hT Go.Proofs.Tryz.func76 (by kernel_rfl : _ = some Zz2) (by kernel_rfl) 45 (by kernel_rfl) (Nat.le_of_ble_eq_true rfl) [.t 4] (by kernel_rfl) (by kernel_rfl) (Zaxw r a0 a1 y h0 (Z1 (fun s y h hk => match s with
 | .L0 v0 E0 v5 => Zatu r v0 E0 v5 y h hk
 | .L1 v0 E0 v5 v6 => Zatv r v0 E0 v5 v6 y h hk) h1))
end
end Go.PW
