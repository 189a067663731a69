import Derived.Test.YtloamjgjcjandaaGreatQW
set_option linter.all false
set_option maxRecDepth 100000
namespace Go.PW
open Go.RowKit
noncomputable section
noncomputable def Zau4 : Code := (Go.Proofs.Tryz.f135.body).getD .skip
noncomputable def Z8i (r : Bool) : PV := (wB r)
noncomputable def Zap4 (r : Bool) : List (Nat × Blk) := []
noncomputable def Za9p : Zm8 → Cfg := fun s => nomatch s
noncomputable def Zbd5 : Zm8 → PW.St := fun s => nomatch s
abbrev Za9q (r : Bool) (y : Zm8 ⊕ Bool) : Prop := Ok PR [.t 2] (Zap4) Z8i Za9p Zbd5 r y
theorem Za49 (r : Bool) (a0 : Za1) (y : Zm8 ⊕ Bool) (h : Zagi a0 = some y) (hk : Za9q r y) : (Cfg.code Zau4 []).HH PR [.t 2] Zap4 Z8i r ⟨79, idx 0 [(.agg (bx (Zbw a0)))], []⟩ := have q := q0.o [.lab 1001];
 Za h (fun h1 h => lR h hk (((q.tt 6).a 5 h1).b (Eq.refl true))) (fun h1 h => have q := q.f 3 h1;
 Zb h fun x2 h3 h => have q := (((q.k x2).ff 2).b (Zaco a0.Filter h3)).a 2 h1;
 Za h (fun h4 h => lR h hk (q.t 1 h4)) (fun h4 h => have q := q.f 1 h4;
 Za h (fun h5 h => have q := q.t 1 h5;
 Za h (fun h6 h => have q := q.t 4 h6;
 Za h (fun h7 h => have q := q.t 4 h7;
 Za h (fun h8 h => lR h hk (((((((((q.tt 12).a 3 h8).b h7).b h8).b h7).a 3 (Eq.refl true)).b h7).b (Eq.refl true)).b h7)) (fun h8 h => have q := (((q.f 3 h8).t 1 h7).f 1 h8).t 1 h7;
 Za h (fun h9 h => lR h hk (((((q.tt 6).a 3 h9).b h7).b h9).b h7)) (fun h9 h => lR h hk ((((q.f 3 h9).t 1 h7).f 1 h9).t 1 h7)))) (fun h7 h => lR h hk (q.f 8 h7))) (fun h6 h => lR h hk (((q.ff 12).a 4 h6).a 8 (Eq.refl false)))) (fun h5 h => have q := q.f 1 h5;
 Za h (fun h10 h => have q := q.t 1 h10;
 Za h (fun h11 h => have q := q.t 4 h11;
 Za h (fun h12 h => lR h hk (q.t 4 h12)) (fun h12 h => lR h hk (q.f 4 h12))) (fun h11 h => lR h hk (((q.ff 8).a 4 h11).a 4 (Eq.refl false)))) (fun h10 h => have q := q.f 1 h10;
 Za h (fun h13 h => have q := q.t 1 h13;
 Za h (fun h14 h => have q := q.t 4 h14;
 Za h (fun h15 h => have q := q.t 4 h15;
 Za h (fun h16 h => have q := q.t 4 h16;
 Za h (fun h17 h => lR h hk (q.t 4 h17)) (fun h17 h => lR h hk (q.f 4 h17))) (fun h16 h => lR h hk (((q.ff 8).a 4 h16).a 4 (Eq.refl false)))) (fun h15 h => lR h hk (((q.ff 12).a 4 h15).a 8 (Eq.refl false)))) (fun h14 h => lR h hk (((q.ff 16).a 4 h14).a 12 (Eq.refl false)))) (fun h13 h => lR h hk (q.f 1 h13))))))
theorem Zbd6 (a0 : Za1) {r : Bool} (h : Zaev a0 = some r) : Fn PR 135 [(.agg (bx (Zbw a0)))] (Z8i r) :=
 Zb h fun y h0 h1 => FnG.of_cfg hT Go.Proofs.Tryz.func135 (by kernel_rfl : _ = some Zau4) (by kernel_rfl) 79 (by kernel_rfl) (Nat.le_of_ble_eq_true rfl) [.t 2] (by kernel_rfl) (by kernel_rfl) (Za49 r a0 y h0 (Z0 (fun s _ _ _ => nomatch s) h1))
noncomputable def Zau5 : Code := (Go.Proofs.Tryz.f136.body).getD .skip
noncomputable def Z8j (r : Bool) : PV := (wB r)
noncomputable def Zap5 (r : Bool) : List (Nat × Blk) := []
noncomputable def Za9r : Zm9 → Cfg := fun s => nomatch s
noncomputable def Zbd7 : Zm9 → PW.St := fun s => nomatch s
abbrev Za9s (r : Bool) (y : Zm9 ⊕ Bool) : Prop := Ok PR [.t 2] (Zap5) Z8j Za9r Zbd7 r y
theorem Za5a (r : Bool) (a0 : Za1) (y : Zm9 ⊕ Bool) (h : Zagj a0 = some y) (hk : Za9s r y) : (Cfg.code Zau5 []).HH PR [.t 2] Zap5 Z8j r ⟨30, idx 0 [(.agg (bx (Zbw a0)))], []⟩ := have q := q0.o [.lab 1001];
 Za h (fun h1 h => lR h hk (((q.tt 5).a 4 h1).b (Eq.refl true))) (fun h1 h => have q := q.f 4 h1;
 Za h (fun h2 h => lR h hk (q.t 1 h2)) (fun h2 h => have q := q.f 1 h2;
 Za h (fun h3 h => have q := ((q.tt 5).a 4 h3).b (Eq.refl true);
 Za h (fun h4 h => lR h hk (q.t 4 h4)) (fun h4 h => lR h hk (q.f 4 h4))) (fun h3 h => have q := q.f 4 h3;
 Za h (fun h5 h => have q := q.t 1 h5;
 Za h (fun h6 h => lR h hk (q.t 4 h6)) (fun h6 h => lR h hk (q.f 4 h6))) (fun h5 h => lR h hk (q.f 1 h5)))))
theorem Zbd8 (a0 : Za1) {r : Bool} (h : Zaew a0 = some r) : Fn PR 136 [(.agg (bx (Zbw a0)))] (Z8j r) :=
 Zb h fun y h0 h1 => FnG.of_cfg hT Go.Proofs.Tryz.func136 (by kernel_rfl : _ = some Zau5) (by kernel_rfl) 30 (by kernel_rfl) (Nat.le_of_ble_eq_true rfl) [.t 2] (by kernel_rfl) (by kernel_rfl) (Za5a r a0 y h0 (Z0 (fun s _ _ _ => nomatch s) h1))
noncomputable def Zacp : Code := (Go.Proofs.Tryz.f114.body).getD .skip
noncomputable def Zx8 (r : Bool) : PV := (wB r)
noncomputable def Z7n (r : Bool) : List (Nat × Blk) := []
noncomputable def Zaah : Zkt → Cfg
 | .L0 _ _ _ => (nav [1, 1, 1, 1, 1] Zacp []).getD (.done .normal)
 | .L1 _ _ => (nav [1, 1, 1, 1, 1, 0, 1, 4, 1, 2, 1] Zacp []).getD (.done .normal)
 | .L2 _ _ _ _ => (nav [1, 1, 1, 1, 1, 0, 1, 4, 1, 3, 1, 3, 1, 3, 1] Zacp []).getD (.done .normal)
noncomputable def Zafj : Zkt → PW.St
 | .L0 E0 v3 v4 => ⟨127, [(1, (.bptr 30000000 0)), (3, (wB v3)), (4, (wB v4))], [(30000000, .box (bx (Zbw E0)))]⟩
 | .L1 E0 v3 => ⟨127, [(1, (.bptr 30000000 0)), (3, (wB v3))], [(30000000, .box (bx (Zbw E0)))]⟩
 | .L2 E0 v3 v4 v109 => ⟨127, [(1, (.bptr 30000000 0)), (3, (wB v3)), (4, (wB v4)), (109, (wB v109))], [(30000000, .box (bx (Zbw E0)))]⟩
abbrev Zaai (r : Bool) (y : Zkt ⊕ Bool) : Prop := Ok PR [.t 2] (Z7n) Zx8 Zaah Zafj r y
theorem Z3a (r : Bool) (E0 : Za1) (v3 : Bool) (v4 : Bool) (v109 : Bool) (y : Zkt ⊕ Bool) (h : Zwg E0 v3 v4 v109 = some y) (hk : Zaai r y) : (Zaah (.L2 E0 v3 v4 v109)).HH PR [.t 2] Z7n Zx8 r (Zafj (.L2 E0 v3 v4 v109)) :=
 Za h (fun h1 h => have q := q0.t 1 h1;
 Za h (fun h2 h => have q := q.t 4 h2;
 Za h (fun h3 h => have q := q.t 4 h3;
 Za h (fun h4 h => lR h hk (q.t 2 h4)) (fun h4 h => lR h hk (q.f 2 h4))) (fun h3 h => lR h hk (((q.ff 6).a 4 h3).a 2 (Eq.refl false)))) (fun h2 h => lR h hk (((q.ff 10).a 4 h2).a 6 (Eq.refl false)))) (fun h1 h => lR h hk (q0.f 1 h1))
theorem Zww (r : Bool) (E0 : Za1) (v3 : Bool) (y : Zkt ⊕ Bool) (h : Zsy E0 v3 = some y) (hk : Zaai r y) : (Zaah (.L1 E0 v3)).HH PR [.t 2] Z7n Zx8 r (Zafj (.L1 E0 v3)) :=
 Za h (fun h1 h => have q := q0.t 3 h1;
 Zb h fun x2 h3 h => have q := ((q.k x2).t 1 (Zaco E0.Filter h3)).b h1;
 Za h (fun h4 h => lR h hk (q.t 8 h4)) (fun h4 h => have q := q.f 4 h4;
 Za h (fun h5 h => lR h hk ((((((((q.t 3 h5).f 1 h4).t 1 h5).f 1 h4).t 1 (Eq.refl true)).f 1 h4).t 1 (Eq.refl true)).f 1 h4)) (fun h5 h => have q := ((((q.ff 6).a 3 h5).b h4).b h5).b h4;
 Za h (fun h6 h => lR h hk ((((q.t 1 h6).f 1 h4).t 1 h6).f 1 h4)) (fun h6 h => lR h hk (((((q.ff 4).b h6).b h4).b h6).b h4))))) (fun h1 h => have q := ((q0.ff 8).a 4 h1).a 4 (Eq.refl false);
 Za h (fun h7 h => lR h hk ((((((((q.t 3 h7).f 1 (Eq.refl false)).t 1 h7).f 1 (Eq.refl false)).t 1 (Eq.refl true)).f 1 (Eq.refl false)).t 1 (Eq.refl true)).f 1 (Eq.refl false))) (fun h7 h => have q := ((((q.ff 6).a 3 h7).b (Eq.refl false)).b h7).b (Eq.refl false);
 Za h (fun h8 h => lR h hk ((((q.t 1 h8).f 1 (Eq.refl false)).t 1 h8).f 1 (Eq.refl false))) (fun h8 h => lR h hk (((((q.ff 4).b h8).b (Eq.refl false)).b h8).b (Eq.refl false)))))
theorem Z3b (r : Bool) (E0 : Za1) (v3 : Bool) (v4 : Bool) (y : Zkt ⊕ Bool) (h : Zwh E0 v3 v4 = some y) (hk : Zaai r y) : (Zaah (.L0 E0 v3 v4)).HH PR [.t 2] Z7n Zx8 r (Zafj (.L0 E0 v3 v4)) :=
 Za h (fun h1 h => have q := q0.t 1 h1;
 Za h (fun h2 h => have q := q.t 4 h2;
 Za h (fun h3 h => have q := q.t 4 h3;
 Za h (fun h4 h => have q := q.t 4 h4;
 Za h (fun h5 h => lR h hk (q.t 1 h5)) (fun h5 h => lJ (Zww r E0 v3 _ h hk) ((q.f 1 h5).o [.stopAt 0, .pick [1, 3] [30000000], .pick [1, 3] [30000000]]))) (fun h4 h => lJ (Zww r E0 v3 _ h hk) ((((q.ff 5).o [.stopAt 0, .pick [1, 3] [30000000], .pick [1, 3] [30000000]]).a 4 h4).b (Eq.refl false)))) (fun h3 h => lJ (Zww r E0 v3 _ h hk) ((((q.ff 9).o [.stopAt 0, .pick [1, 3] [30000000], .pick [1, 3] [30000000]]).a 4 h3).a 5 (Eq.refl false)))) (fun h2 h => lJ (Zww r E0 v3 _ h hk) ((((q.ff 13).o [.stopAt 0, .pick [1, 3] [30000000], .pick [1, 3] [30000000]]).a 4 h2).a 9 (Eq.refl false)))) (fun h1 h => have q := q0.f 1 h1;
 Za h (fun h6 h => have q := q.t 1 h6;
 Za h (fun h7 h => have q := q.t 4 h7;
 Za h (fun h8 h => Zb h fun x9 h10 h => lR h hk ((((q.t 3 h8).k x9).t 1 (Zaco E0.Filter h10)).b h8)) (fun h8 h => lR h hk (q.f 4 h8))) (fun h7 h => lR h hk (((q.ff 8).a 4 h7).a 4 (Eq.refl false)))) (fun h6 h => have q := q.f 1 h6;
 Za h (fun h11 h => have q := q.t 1 h11;
 Za h (fun h12 h => have q := ((q.tt 8).a 4 h12).a 4 (Eq.refl true);
 Za h (fun h13 h => have q := q.t 4 h13;
 Za h (fun h14 h => lR h hk (q.t 2 h14)) (fun h14 h => lR h hk (q.f 2 h14))) (fun h13 h => lR h hk (((q.ff 6).a 4 h13).a 2 (Eq.refl false)))) (fun h12 h => have q := q.f 4 h12;
 Za h (fun h15 h => have q := q.t 4 h15;
 Za h (fun h16 h => have q := q.t 4 h16;
 Za h (fun h17 h => lR h hk (q.t 2 h17)) (fun h17 h => lR h hk (q.f 2 h17))) (fun h16 h => lR h hk (((q.ff 6).a 4 h16).a 2 (Eq.refl false)))) (fun h15 h => lR h hk (((q.ff 10).a 4 h15).a 6 (Eq.refl false))))) (fun h11 h => have q := q.f 1 h11;
 Za h (fun h18 h => lJ (Z3a r E0 v3 v4 (E0.On == 4) _ h hk) ((q.t 1 h18).o [.stopAt 0, .pick [109, 1, 3, 4] [30000000], .pick [1, 3, 4, 109] [30000000]])) (fun h18 h => have q := q.f 1 h18;
 Za h (fun h19 h => lJ (Z3a r E0 v3 v4 (E0.On == 5) _ h hk) ((q.t 1 h19).o [.stopAt 0, .pick [109, 1, 3, 4] [30000000], .pick [1, 3, 4, 109] [30000000]])) (fun h19 h => lJ (Z3a r E0 v3 v4 (E0.On == 10) _ h hk) ((q.f 1 h19).o [.stopAt 0, .pick [109, 1, 3, 4] [30000000], .pick [1, 3, 4, 109] [30000000]]))))))
theorem Zbie (r : Bool) (a0 : Za1) (y : Zkt ⊕ Bool) (h : Zav9 a0 = some y) (hk : Zaai r y) : (Cfg.code Zacp []).HH PR [.t 2] Z7n Zx8 r ⟨127, idx 0 [(.agg (bx (Zbw a0)))], []⟩ := have q := q0.o [.lab 1001];
 Za h (fun h1 h => Zb h fun x2 h3 h => lR h hk (((q.t 1 h1).k x2).b (Zbd6 a0 h3))) (fun h1 h => have q := q.f 1 h1;
 Zb h fun x4 h5 h => have q := (q.k x4).b (Zbd8 a0 h5);
 Za h (fun h6 h => lR h hk (q.t 1 h6)) (fun h6 h => have q := q.f 1 h6;
 Za h (fun h7 h => lJ (Z3b r a0 (eqTs (Zv a0.Filter) (Zv (⟨0, 0, 0, 0, 0, 0, 0, ([] : List UInt8), 0, 0, (⟨0, 0⟩ : Ze), (⟨0, 0⟩ : Ze), (⟨0, 0⟩ : Ze)⟩ : Zi))) true _ h hk) ((((q.tt 8).o [.stopAt 0, .pick [4, 3, 1] [1001], .relab 1001 30000000, .pick [1, 3, 4] [30000000]]).a 4 h7).a 4 (Eq.refl true))) (fun h7 h => have q := q.f 4 h7;
 Za h (fun h8 h => lJ (Z3b r a0 (eqTs (Zv a0.Filter) (Zv (⟨0, 0, 0, 0, 0, 0, 0, ([] : List UInt8), 0, 0, (⟨0, 0⟩ : Ze), (⟨0, 0⟩ : Ze), (⟨0, 0⟩ : Ze)⟩ : Zi))) true _ h hk) ((q.t 4 h8).o [.stopAt 0, .pick [4, 3, 1] [1001], .relab 1001 30000000, .pick [1, 3, 4] [30000000]])) (fun h8 h => lJ (Z3b r a0 (eqTs (Zv a0.Filter) (Zv (⟨0, 0, 0, 0, 0, 0, 0, ([] : List UInt8), 0, 0, (⟨0, 0⟩ : Ze), (⟨0, 0⟩ : Ze), (⟨0, 0⟩ : Ze)⟩ : Zi))) (a0.Do == 8) _ h hk) ((q.f 4 h8).o [.stopAt 0, .pick [4, 3, 1] [1001], .relab 1001 30000000, .pick [1, 3, 4] [30000000]])))))
theorem Zbnf (a0 : Za1) {r : Bool} (h : Zazw a0 = some r) : Fn PR 114 [(.agg (bx (Zbw a0)))] (Zx8 r) :=
 Zb h fun y h0 h1 => FnG.of_cfg hT Go.Proofs.Tryz.func114 (by kernel_rfl : _ = some Zacp) (by kernel_rfl) 127 (by kernel_rfl) (Nat.le_of_ble_eq_true rfl) [.t 2] (by kernel_rfl) (by kernel_rfl) (Zbie r a0 y h0 (Z0 (fun s y h hk => match s with
 | .L0 E0 v3 v4 => Z3b r E0 v3 v4 y h hk
 | .L1 E0 v3 => Zww r E0 v3 y h hk
 | .L2 E0 v3 v4 v109 => Z3a r E0 v3 v4 v109 y h hk) h1))
noncomputable def Za1c : Code := (Go.Proofs.Tryz.f138.body).getD .skip
noncomputable def Zacq (r : Bool) : PV := (wB r)
noncomputable def Zau6 (r : Bool) : List (Nat × Blk) := []
noncomputable def Zbd9 : Zoj → Cfg := fun s => nomatch s
noncomputable def Zbif : Zoj → PW.St := fun s => nomatch s
abbrev Zbea (r : Bool) (y : Zoj ⊕ Bool) : Prop := Ok PR [.t 2] (Zau6) Zacq Zbd9 Zbif r y
theorem Za9t (r : Bool) (a0 : Zai) (y : Zoj ⊕ Bool) (h : Zaj1 a0 = some y) (hk : Zbea r y) : (Cfg.code Za1c []).HH PR [.t 2] Zau6 Zacq r ⟨33, idx 0 [(.agg (bx (Z3 a0)))], []⟩ := have q := q0.o [.lab 1001];
 Za h (fun h1 h => have q := q.t 1 h1;
 Za h (fun h2 h => lR h hk (q.t 5 h2)) (fun h2 h => lR h hk (q.f 5 h2))) (fun h1 h => have q := q.f 1 h1;
 Zb h fun x3 h4 h => have q := (q.k x3).b (Znp a0.Filter h4);
 Za h (fun h5 h => have q := q.t 3 h5;
 Za h (fun h6 h => lR h hk (((((((((q.tt 10).a 2 h6).b h5).b h6).b h5).a 2 (Eq.refl true)).b h5).b (Eq.refl true)).b h5)) (fun h6 h => have q := (((q.f 2 h6).t 1 h5).f 1 h6).t 1 h5;
 Za h (fun h7 h => lR h hk (((((q.tt 5).a 2 h7).b h5).b h7).b h5)) (fun h7 h => lR h hk ((((q.f 2 h7).t 1 h5).f 1 h7).t 1 h5)))) (fun h5 h => lR h hk (q.f 7 h5)))
theorem Zbig (a0 : Zai) {r : Bool} (h : Zaj2 a0 = some r) : Fn PR 138 [(.agg (bx (Z3 a0)))] (Zacq r) :=
 Zb h fun y h0 h1 => FnG.of_cfg hT Go.Proofs.Tryz.func138 (by kernel_rfl : _ = some Za1c) (by kernel_rfl) 33 (by kernel_rfl) (Nat.le_of_ble_eq_true rfl) [.t 2] (by kernel_rfl) (by kernel_rfl) (Za9t r a0 y h0 (Z0 (fun s _ _ _ => nomatch s) h1))
noncomputable def Zahc : Code := (Go.Proofs.Tryz.f115.body).getD .skip
noncomputable def Zzs (r : Bool) : PV := (wB r)
noncomputable def Zacr (r : Bool) : List (Nat × Blk) := []
noncomputable def Zams : Zke → Cfg
 | .L0 _ _ => (nav [1, 0, 1, 4] Zahc []).getD (.done .normal)
noncomputable def Zap6 : Zke → PW.St
 | .L0 v0 v3 => ⟨19, [(0, (wL Z3 v0)), (3, (wI v3))], []⟩
abbrev Zamt (r : Bool) (y : Zke ⊕ Bool) : Prop := Ok PR [.t 2] (Zacr) Zzs Zams Zap6 r y
theorem Za1d (r : Bool) (v0 : (List Zai)) (v3 : Int) (y : Zke ⊕ Bool) (h : Z2e v0 v3 = some y) (hk : Zamt r y) : (Zams (.L0 v0 v3)).HH PR [.t 2] Zacr Zzs r (Zap6 (.L0 v0 v3)) := have q := (q0.n (v0.length : Int)).b (Zt Z3 v0);
 Za h (fun h2 h => have q := (q.t 1 h2).b (Zs Z3 18 (fun _ => rfl) v0);
 Zb h fun x3 h4 h => have q := ((q.o [.cs (Z3 x3)]).b (Z2 h4)).b (Zz Z3 h4);
 Zb h fun x5 h6 h => have q := (q.k x5).b (Zbig x3 h6);
 Za h (fun h7 h => lR h hk (q.t 1 h7)) (fun h7 h => lG h hk ((q.f 1 h7).o [.pick [3, 0] [], .pick [0, 3] []]))) (fun h2 h => lR h hk (((q.f 1 h2).n (v0.length : Int)).b (Zt Z3 v0)))
theorem Za5b (r : Bool) (a0 : (List Zai)) (y : Zke ⊕ Bool) (h : Zagk a0 = some y) (hk : Zamt r y) : (Cfg.code Zahc []).HH PR [.t 2] Zacr Zzs r ⟨19, idx 0 [(wL Z3 a0)], []⟩ :=
 lG h hk (q0.o [.pick [3, 0] [], .pick [0, 3] []])
theorem Zbeb (a0 : (List Zai)) {r : Bool} (h : Zaex a0 = some r) : Fn PR 115 [(wL Z3 a0)] (Zzs r) :=
 Zb h fun y h0 h1 => FnG.of_cfg hT Go.Proofs.Tryz.func115 (by kernel_rfl : _ = some Zahc) (by kernel_rfl) 19 (by kernel_rfl) (Nat.le_of_ble_eq_true rfl) [.t 2] (by kernel_rfl) (by kernel_rfl) (Za5b r a0 y h0 (Z0 (fun s y h hk => match s with
 | .L0 v0 v3 => Za1d r v0 v3 y h hk) h1))
noncomputable def Za1e : Code := (Go.Proofs.Tryz.f148.body).getD .skip
noncomputable def Zacs (r : (List UInt8)) : PV := (wS r)
noncomputable def Zau7 (r : (List UInt8)) : List (Nat × Blk) := []
noncomputable def Zbec : Zok → Cfg := fun s => nomatch s
noncomputable def Zbih : Zok → PW.St := fun s => nomatch s
abbrev Zbed (r : (List UInt8)) (y : Zok ⊕ (List UInt8)) : Prop := Ok PR [.t 2] (Zau7) Zacs Zbec Zbih r y
theorem Za9u (r : (List UInt8)) (a0 : Int) (y : Zok ⊕ (List UInt8)) (h : Zaj3 a0 = some y) (hk : Zbed r y) : (Cfg.code Za1e []).HH PR [.t 2] Zau7 Zacs r ⟨16, idx 0 [(wI a0)], []⟩ :=
 Za h (fun h1 h => lR h hk (((q0.tt 4).a 3 h1).b (Eq.refl true))) (fun h1 h => have q := q0.f 3 h1;
 Za h (fun h2 h => lR h hk (q.t 1 h2)) (fun h2 h => Zb h fun x6 h7 h => lR h hk (((((q.f 1 h2).o [.lit, .cs (cS x6)]).b (Zs cS 1 (fun _ => rfl) [([100, 97, 109, 97, 103, 101] : List UInt8), ([100, 101, 115, 116, 114, 111, 121] : List UInt8), ([109, 111, 118, 101] : List UInt8), ([100, 114, 97, 119] : List UInt8), ([100, 105, 115, 99, 97, 114, 100] : List UInt8), ([103, 97, 105, 110] : List UInt8), ([108, 111, 115, 101] : List UInt8), ([116, 97, 112] : List UInt8), ([117, 110, 116, 97, 112] : List UInt8), ([112, 117, 116] : List UInt8), ([116, 97, 107, 101] : List UInt8), ([99, 114, 101, 97, 116, 101] : List UInt8), ([109, 111, 100] : List UInt8), ([109, 97, 110, 97] : List UInt8), ([99, 111, 117, 110, 116, 101, 114] : List UInt8), ([99, 111, 112, 121] : List UInt8), ([98, 101, 99, 111, 109, 101] : List UInt8), ([115, 97, 99, 114, 105, 102, 105, 99, 101] : List UInt8), ([109, 105, 108, 108] : List UInt8), ([115, 99, 114, 121] : List UInt8), ([115, 101, 97, 114, 99, 104] : List UInt8), ([115, 104, 105, 101, 108, 100] : List UInt8), ([116, 117, 114, 110] : List UInt8), ([119, 105, 110] : List UInt8), ([100, 101, 102, 101, 97, 116] : List UInt8), ([118, 101, 110, 111, 109] : List UInt8)])).b (Z2 h7)).b (Zz cS h7))))
theorem Zbii (a0 : Int) {r : (List UInt8)} (h : Zaj4 a0 = some r) : Fn PR 148 [(wI a0)] (Zacs r) :=
 Zb h fun y h0 h1 => FnG.of_cfg hT Go.Proofs.Tryz.func148 (by kernel_rfl : _ = some Za1e) (by kernel_rfl) 16 (by kernel_rfl) (Nat.le_of_ble_eq_true rfl) [.t 2] (by kernel_rfl) (by kernel_rfl) (Za9u r a0 y h0 (Z0 (fun s _ _ _ => nomatch s) h1))
noncomputable def Zaaj : Code := (Go.Proofs.Tryz.f171.body).getD .skip
noncomputable def Zwx (r : (List UInt8)) : PV := (wS r)
noncomputable def Z6w (r : (List UInt8)) : List (Nat × Blk) := []
noncomputable def Zact : Zjm → Cfg
 | .L0 _ _ => (nav [1, 0, 1, 4, 1] Zaaj []).getD (.done .normal)
 | .L1 _ _ => (nav [1, 0, 1, 4, 1, 3, 1, 3, 1] Zaaj []).getD (.done .normal)
noncomputable def Zahd : Zjm → PW.St
 | .L0 v3 v4 => ⟨32, [(3, (wI v3)), (4, (wB v4))], []⟩
 | .L1 v3 v14 => ⟨32, [(3, (wI v3)), (14, (wB v14))], []⟩
abbrev Zacu (r : (List UInt8)) (y : Zjm ⊕ (List UInt8)) : Prop := Ok PR [.t 2] (Z6w) Zwx Zact Zahd r y
theorem Z5m (r : (List UInt8)) (v3 : Int) (v14 : Bool) (y : Zjm ⊕ (List UInt8)) (h : Zux v3 v14 = some y) (hk : Zacu r y) : (Zact (.L1 v3 v14)).HH PR [.t 2] Z6w Zwx r (Zahd (.L1 v3 v14)) :=
 Za h (fun h1 h => lR h hk (q0.t 1 h1)) (fun h1 h => have q := q0.f 1 h1;
 Za h (fun h2 h => lR h hk (q.t 1 h2)) (fun h2 h => have q := q.f 1 h2;
 Za h (fun h3 h => lR h hk (q.t 1 h3)) (fun h3 h => have q := q.f 1 h3;
 Za h (fun h4 h => lR h hk (q.t 1 h4)) (fun h4 h => have q := q.f 1 h4;
 Za h (fun h5 h => lR h hk (q.t 1 h5)) (fun h5 h => have q := q.f 1 h5;
 Za h (fun h6 h => lR h hk (q.t 1 h6)) (fun h6 h => have q := q.f 1 h6;
 Za h (fun h7 h => lR h hk (q.t 1 h7)) (fun h7 h => have q := q.f 1 h7;
 Za h (fun h8 h => lR h hk (q.t 2 h8)) (fun h8 h => have q := q.f 1 h8;
 Za h (fun h9 h => lR h hk (q.t 1 h9)) (fun h9 h => lR h hk (q.f 1 h9))))))))))
theorem Zkz (r : (List UInt8)) (v3 : Int) (v4 : Bool) (y : Zjm ⊕ (List UInt8)) (h : Zkf v3 v4 = some y) (hk : Zacu r y) : (Zact (.L0 v3 v4)).HH PR [.t 2] Z6w Zwx r (Zahd (.L0 v3 v4)) :=
 Za h (fun h1 h => lR h hk (q0.t 1 h1)) (fun h1 h => have q := q0.f 1 h1;
 Za h (fun h2 h => lR h hk (q.t 1 h2)) (fun h2 h => have q := q.f 1 h2;
 Za h (fun h3 h => lJ (Z5m r v3 (v3 == 10) _ h hk) ((q.t 1 h3).o [.stopAt 0, .pick [14, 3] [], .pick [3, 14] []])) (fun h3 h => lJ (Z5m r v3 (v3 == 11) _ h hk) ((q.f 1 h3).o [.stopAt 0, .pick [14, 3] [], .pick [3, 14] []]))))
theorem Za9v (r : (List UInt8)) (a0 : Int) (y : Zjm ⊕ (List UInt8)) (h : Zaj5 a0 = some y) (hk : Zacu r y) : (Cfg.code Zaaj []).HH PR [.t 2] Z6w Zwx r ⟨32, idx 0 [(wI a0)], []⟩ :=
 Za h (fun h1 h => lJ (Zkz r a0 (a0 == 2) _ h hk) ((q0.t 1 h1).o [.stopAt 0, .pick [4, 3] [], .pick [3, 4] []])) (fun h1 h => have q := q0.f 1 h1;
 Za h (fun h2 h => lJ (Zkz r a0 (a0 == 8) _ h hk) ((q.t 1 h2).o [.stopAt 0, .pick [4, 3] [], .pick [3, 4] []])) (fun h2 h => have q := q.f 1 h2;
 Za h (fun h3 h => lJ (Zkz r a0 (a0 == 9) _ h hk) ((q.t 1 h3).o [.stopAt 0, .pick [4, 3] [], .pick [3, 4] []])) (fun h3 h => have q := q.f 1 h3;
 Za h (fun h4 h => lJ (Zkz r a0 (a0 == 15) _ h hk) ((q.t 1 h4).o [.stopAt 0, .pick [4, 3] [], .pick [3, 4] []])) (fun h4 h => have q := q.f 1 h4;
 Za h (fun h5 h => lJ (Zkz r a0 (a0 == 16) _ h hk) ((q.t 1 h5).o [.stopAt 0, .pick [4, 3] [], .pick [3, 4] []])) (fun h5 h => have q := q.f 1 h5;
 Za h (fun h6 h => lJ (Zkz r a0 (a0 == 17) _ h hk) ((q.t 1 h6).o [.stopAt 0, .pick [4, 3] [], .pick [3, 4] []])) (fun h6 h => lJ (Zkz r a0 (a0 == 25) _ h hk) ((q.f 1 h6).o [.stopAt 0, .pick [4, 3] [], .pick [3, 4] []])))))))
theorem Zbij (a0 : Int) {r : (List UInt8)} (h : Zaj6 a0 = some r) : Fn PR 171 [(wI a0)] (Zwx r) :=
 Zb h fun y h0 h1 => FnG.of_cfg hT Go.Proofs.Tryz.func171 (by kernel_rfl : _ = some Zaaj) (by kernel_rfl) 32 (by kernel_rfl) (Nat.le_of_ble_eq_true rfl) [.t 2] (by kernel_rfl) (by kernel_rfl) (Za9v r a0 y h0 (Z0 (fun s y h hk => match s with
 | .L0 v3 v4 => Zkz r v3 v4 y h hk
 | .L1 v3 v14 => Z5m r v3 v14 y h hk) h1))
noncomputable def Zala : Code := (Go.Proofs.Tryz.f149.body).getD .skip
noncomputable def Z3c (r : Bool) : PV := (wB r)
noncomputable def Zahe (r : Bool) : List (Nat × Blk) := []
noncomputable def Zap7 : Zlm → Cfg
 | .L0 _ _ _ => (nav [1, 1, 0, 1, 4] Zala []).getD (.done .normal)
noncomputable def Zau8 : Zlm → PW.St
 | .L0 v1 v5 v6 => ⟨20, [(1, (.t (.int .u8 v1))), (5, (wS v5)), (6, (wI v6))], []⟩
abbrev Zap8 (r : Bool) (y : Zlm ⊕ Bool) : Prop := Ok PR [.t 4] (Zahe) Z3c Zap7 Zau8 r y
theorem Za5c (r : Bool) (v1 : Int) (v5 : (List UInt8)) (v6 : Int) (y : Zlm ⊕ Bool) (h : Z6g v1 v5 v6 = some y) (hk : Zap8 r y) : (Zap7 (.L0 v1 v5 v6)).HH PR [.t 4] Zahe Z3c r (Zau8 (.L0 v1 v5 v6)) := have q := (q0.n (v5.length : Int)).b (Eq.refl (v5.length : Int));
 Za h (fun h2 h => have q := q.t 1 h2;
 Zb h fun x3 h4 h => have q := ((q.o [.byte x3]).b (Z2 h4)).b (Zmn h4);
 Za h (fun h5 h => lR h hk (q.t 1 h5)) (fun h5 h => lG h hk ((q.f 1 h5).o [.pick [6, 1, 5] [], .pick [1, 5, 6] []]))) (fun h2 h => lR h hk (q.f 1 h2))
theorem Za9w (r : Bool) (a0 : Int) (a1 : Int) (y : Zlm ⊕ Bool) (h : Zaj7 a0 a1 = some y) (hk : Zap8 r y) : (Cfg.code Zala []).HH PR [.t 4] Zahe Z3c r ⟨20, idx 0 [(wI a0), (.t (.int .u8 a1))], []⟩ :=
 Zb h fun x1 h2 h => lG h hk ((q0.o [.call (wS x1), .pick [6, 5, 1] [], .pick [1, 5, 6] []]).b (Zbij a0 h2))
theorem Zo4 (a0 : Int) (a1 : Int) {r : Bool} (h : Zpg a0 a1 = some r) : Fn PR 149 [(wI a0), (.t (.int .u8 a1))] (Z3c r) :=
 Zb h fun y h0 h1 => FnG.of_cfg hT Go.Proofs.Tryz.func149 (by kernel_rfl : _ = some Zala) (by kernel_rfl) 20 (by kernel_rfl) (Nat.le_of_ble_eq_true rfl) [.t 4] (by kernel_rfl) (by kernel_rfl) (Za9w r a0 a1 y h0 (Z0 (fun s y h hk => match s with
 | .L0 v1 v5 v6 => Za5c r v1 v5 v6 y h hk) h1))
noncomputable def Zait : Code := (Go.Proofs.Tryz.f172.body).getD .skip
noncomputable def Z0q (r : Bool) : PV := (wB r)
noncomputable def Zafk (r : Bool) : List (Nat × Blk) := []
noncomputable def Zaxd : Zjn → Cfg := fun s => nomatch s
noncomputable def Za1f : Zjn → PW.St := fun s => nomatch s
abbrev Zaxe (r : Bool) (y : Zjn ⊕ Bool) : Prop := Ok PR [.t 2] (Zafk) Z0q Zaxd Za1f r y
theorem Zate (r : Bool) (a0 : Int) (y : Zjn ⊕ Bool) (h : Z45 a0 = some y) (hk : Zaxe r y) : (Cfg.code Zait []).HH PR [.t 2] Zafk Z0q r ⟨9, idx 0 [(wI a0)], []⟩ :=
 Za h (fun h1 h => lR h hk (q0.t 3 h1)) (fun h1 h => lR h hk (q0.f 3 h1))
theorem Za1g (a0 : Int) {r : Bool} (h : Z2f a0 = some r) : Fn PR 172 [(wI a0)] (Z0q r) :=
 Zb h fun y h0 h1 => FnG.of_cfg hT Go.Proofs.Tryz.func172 (by kernel_rfl : _ = some Zait) (by kernel_rfl) 9 (by kernel_rfl) (Nat.le_of_ble_eq_true rfl) [.t 2] (by kernel_rfl) (by kernel_rfl) (Zate r a0 y h0 (Z0 (fun s _ _ _ => nomatch s) h1))
noncomputable def Zalb : Code := (Go.Proofs.Tryz.f150.body).getD .skip
noncomputable def Z3d (r : Bool) : PV := (wB r)
noncomputable def Zafl (r : Bool) : List (Nat × Blk) := []
noncomputable def Zalc : Zmp → Cfg
 | .L0 _ _ => (nav [1, 1] Zalb []).getD (.done .normal)
 | .L1 _ => (nav [1, 1, 1, 1] Zalb []).getD (.done .normal)
noncomputable def Zap9 : Zmp → PW.St
 | .L0 v1 E0 => ⟨40, [(1, (wI v1)), (2, (.bptr 30000000 0))], [(30000000, .box (bx (Zfj E0)))]⟩
 | .L1 E0 => ⟨40, [(2, (.bptr 30000000 0))], [(30000000, .box (bx (Zfj E0)))]⟩
abbrev Zald (r : Bool) (y : Zmp ⊕ Bool) : Prop := Ok PR [.t 4] (Zafl) Z3d Zalc Zap9 r y
theorem Zacv (r : Bool) (E0 : Zgo) (y : Zmp ⊕ Bool) (h : Z1c E0 = some y) (hk : Zald r y) : (Zalc (.L1 E0)).HH PR [.t 4] Zafl Z3d r (Zap9 (.L1 E0)) :=
 Za h (fun h1 h => Zb h fun x2 h3 h => lR h hk (((q0.t 1 h1).k x2).b (Znp E0.Filter h3))) (fun h1 h => lR h hk (q0.f 1 h1))
theorem Zacw (r : Bool) (v1 : Int) (E0 : Zgo) (y : Zmp ⊕ Bool) (h : Z1d v1 E0 = some y) (hk : Zald r y) : (Zalc (.L0 v1 E0)).HH PR [.t 4] Zafl Z3d r (Zap9 (.L0 v1 E0)) :=
 Za h (fun h1 h => lR h hk (((q0.tt 5).a 4 h1).b (Eq.refl true))) (fun h1 h => have q := q0.f 4 h1;
 Za h (fun h2 h => lR h hk (q.t 1 h2)) (fun h2 h => have q := q.f 1 h2;
 Zb h fun x3 h4 h => have q := (q.k x3).b (Za1g E0.Kind h4);
 Za h (fun h5 h => have q := q.t 1 h5;
 Za h (fun h6 h => lR h hk (((q.tt 6).a 5 h6).b (Eq.refl true))) (fun h6 h => have q := q.f 5 h6;
 Za h (fun h7 h => lR h hk (q.t 1 h7)) (fun h7 h => lJ (Zacv r E0 _ h hk) ((q.f 1 h7).o [.stopAt 0, .pick [2] [30000000], .pick [2] [30000000]])))) (fun h5 h => have q := q.f 1 h5;
 Za h (fun h8 h => lR h hk (q.t 1 h8)) (fun h8 h => lJ (Zacv r E0 _ h hk) ((q.f 1 h8).o [.stopAt 0, .pick [2] [30000000], .pick [2] [30000000]])))))
theorem Zbik (r : Bool) (a0 : Zgo) (a1 : Int) (y : Zmp ⊕ Bool) (h : Zawa a0 a1 = some y) (hk : Zald r y) : (Cfg.code Zalb []).HH PR [.t 4] Zafl Z3d r ⟨40, idx 0 [(.agg (bx (Zfj a0))), (wI a1)], []⟩ := have q := q0.o [.lab 1002];
 Za h (fun h1 h => lJ (Zacw r 4 a0 _ h hk) ((q.t 1 h1).o [.stopAt 0, .pick [1, 2] [1002], .relab 1002 30000000, .pick [1, 2] [30000000]])) (fun h1 h => lJ (Zacw r a1 a0 _ h hk) ((q.f 1 h1).o [.stopAt 0, .pick [2, 1] [1002], .relab 1002 30000000, .pick [1, 2] [30000000]]))
theorem Zbng (a0 : Zgo) (a1 : Int) {r : Bool} (h : Zazx a0 a1 = some r) : Fn PR 150 [(.agg (bx (Zfj a0))), (wI a1)] (Z3d r) :=
 Zb h fun y h0 h1 => FnG.of_cfg hT Go.Proofs.Tryz.func150 (by kernel_rfl : _ = some Zalb) (by kernel_rfl) 40 (by kernel_rfl) (Nat.le_of_ble_eq_true rfl) [.t 4] (by kernel_rfl) (by kernel_rfl) (Zbik r a0 a1 y h0 (Z0 (fun s y h hk => match s with
 | .L0 v1 E0 => Zacw r v1 E0 y h hk
 | .L1 E0 => Zacv r E0 y h hk) h1))
noncomputable def Za1h : Code := (Go.Proofs.Tryz.f151.body).getD .skip
noncomputable def Zacx (r : (List UInt8)) : PV := (wS r)
noncomputable def Zau9 (r : (List UInt8)) : List (Nat × Blk) := []
noncomputable def Zbee : Zol → Cfg := fun s => nomatch s
noncomputable def Zbil : Zol → PW.St := fun s => nomatch s
abbrev Zbef (r : (List UInt8)) (y : Zol ⊕ (List UInt8)) : Prop := Ok PR [.t 2] (Zau9) Zacx Zbee Zbil r y
theorem Za9x (r : (List UInt8)) (a0 : Int) (y : Zol ⊕ (List UInt8)) (h : Zaj8 a0 = some y) (hk : Zbef r y) : (Cfg.code Za1h []).HH PR [.t 2] Zau9 Zacx r ⟨10, idx 0 [(wI a0)], []⟩ :=
 Za h (fun h1 h => lR h hk (q0.t 1 h1)) (fun h1 h => have q := q0.f 1 h1;
 Za h (fun h2 h => lR h hk (q.t 1 h2)) (fun h2 h => have q := q.f 1 h2;
 Za h (fun h3 h => lR h hk (q.t 1 h3)) (fun h3 h => lR h hk (q.f 1 h3))))
theorem Zava (a0 : Int) {r : (List UInt8)} (h : Zabh a0 = some r) : Fn PR 151 [(wI a0)] (Zacx r) :=
 Zb h fun y h0 h1 => FnG.of_cfg hT Go.Proofs.Tryz.func151 (by kernel_rfl : _ = some Za1h) (by kernel_rfl) 10 (by kernel_rfl) (Nat.le_of_ble_eq_true rfl) [.t 2] (by kernel_rfl) (by kernel_rfl) (Za9x r a0 y h0 (Z0 (fun s _ _ _ => nomatch s) h1))
noncomputable def Zbeg : Code := (Go.Proofs.Tryz.f152.body).getD .skip
noncomputable def Zale (r : Bool) : PV := (wB r)
noncomputable def Za7h (r : Bool) : List (Nat × Blk) := []
noncomputable def Zblf : Ztd → Cfg := fun s => nomatch s
noncomputable def Zbnh : Ztd → PW.St := fun s => nomatch s
abbrev Zblg (r : Bool) (y : Ztd ⊕ Bool) : Prop := Ok PR [.t 2] (Za7h) Zale Zblf Zbnh r y
theorem Zbim (r : Bool) (a0 : Zd3) (y : Ztd ⊕ Bool) (h : Zawb a0 = some y) (hk : Zblg r y) : (Cfg.code Zbeg []).HH PR [.t 2] Za7h Zale r ⟨59, idx 0 [(.agg (bx (Zb2 a0)))], []⟩ := have q := q0.o [.lab 1001, .lab 1003];
 Za h (fun h1 h => have q := q.t 1 h1;
 Za h (fun h2 h => lR h hk (((q.tt 5).a 4 h2).b (Eq.refl true))) (fun h2 h => have q := q.f 4 h2;
 Za h (fun h3 h => lR h hk (q.t 1 h3)) (fun h3 h => have q := q.f 1 h3;
 Za h (fun h4 h => have q := q.t 4 h4;
 Za h (fun h5 h => lR h hk (q.t 6 h5)) (fun h5 h => lR h hk (q.f 6 h5))) (fun h4 h => lR h hk (((q.ff 10).a 4 h4).a 6 (Eq.refl false)))))) (fun h1 h => have q := q.f 1 h1;
 Za h (fun h6 h => have q := q.t 1 h6;
 Za h (fun h7 h => lR h hk (((q.tt 10).a 4 h7).a 6 (Eq.refl true))) (fun h7 h => have q := q.f 4 h7;
 Za h (fun h8 h => lR h hk (((q.tt 6).a 5 h8).b (Eq.refl true))) (fun h8 h => have q := q.f 3 h8;
 Zb h fun x9 h10 h => have q := (((q.k x9).ff 2).b (Znp a0.Filter h10)).a 2 h8;
 Za h (fun h11 h => lR h hk (q.t 1 h11)) (fun h11 h => have q := q.f 1 h11;
 Za h (fun h12 h => have q := q.t 4 h12;
 Za h (fun h13 h => lR h hk (q.t 6 h13)) (fun h13 h => lR h hk (q.f 6 h13))) (fun h12 h => lR h hk (((q.ff 10).a 4 h12).a 6 (Eq.refl false))))))) (fun h6 h => have q := q.f 1 h6;
 Za h (fun h14 h => have q := q.t 1 h14;
 Zb h fun x15 h16 h => have q := (q.o [.call (wS x15)]).b (Zava a0.Counter h16);
 Za h (fun h17 h => lR h hk (q.t 1 h17)) (fun h17 h => have q := q.f 1 h17;
 Za h (fun h18 h => have q := q.t 4 h18;
 Za h (fun h19 h => lR h hk (q.t 6 h19)) (fun h19 h => lR h hk (q.f 6 h19))) (fun h18 h => lR h hk (((q.ff 10).a 4 h18).a 6 (Eq.refl false))))) (fun h14 h => have q := q.f 1 h14;
 Za h (fun h20 h => have q := q.t 4 h20;
 Za h (fun h21 h => lR h hk (q.t 6 h21)) (fun h21 h => lR h hk (q.f 6 h21))) (fun h20 h => lR h hk (((q.ff 10).a 4 h20).a 6 (Eq.refl false))))))
theorem Zbni (a0 : Zd3) {r : Bool} (h : Zazy a0 = some r) : Fn PR 152 [(.agg (bx (Zb2 a0)))] (Zale r) :=
 Zb h fun y h0 h1 => FnG.of_cfg hT Go.Proofs.Tryz.func152 (by kernel_rfl : _ = some Zbeg) (by kernel_rfl) 59 (by kernel_rfl) (Nat.le_of_ble_eq_true rfl) [.t 2] (by kernel_rfl) (by kernel_rfl) (Zbim r a0 y h0 (Z0 (fun s _ _ _ => nomatch s) h1))
noncomputable def Za1i : Code := (Go.Proofs.Tryz.f153.body).getD .skip
noncomputable def Zacy (r : Bool) : PV := (wB r)
noncomputable def Zavb (r : Bool) : List (Nat × Blk) := []
noncomputable def Zbeh : Zom → Cfg := fun s => nomatch s
noncomputable def Zbin : Zom → PW.St := fun s => nomatch s
abbrev Zbei (r : Bool) (y : Zom ⊕ Bool) : Prop := Ok PR [.t 2] (Zavb) Zacy Zbeh Zbin r y
theorem Za9y (r : Bool) (a0 : (List Zg)) (y : Zom ⊕ Bool) (h : Zaj9 a0 = some y) (hk : Zbei r y) : (Cfg.code Za1i []).HH PR [.t 2] Zavb Zacy r ⟨6, idx 0 [(wL Zp a0)], []⟩ :=
 Zb h fun x1 h2 h => lR h hk ((q0.o [.call (wS x1)]).b (Z29 a0 h2))
theorem Zbio (a0 : (List Zg)) {r : Bool} (h : Zaka a0 = some r) : Fn PR 153 [(wL Zp a0)] (Zacy r) :=
 Zb h fun y h0 h1 => FnG.of_cfg hT Go.Proofs.Tryz.func153 (by kernel_rfl : _ = some Za1i) (by kernel_rfl) 6 (by kernel_rfl) (Nat.le_of_ble_eq_true rfl) [.t 2] (by kernel_rfl) (by kernel_rfl) (Za9y r a0 y h0 (Z0 (fun s _ _ _ => nomatch s) h1))
noncomputable def Zalf : Code := (Go.Proofs.Tryz.f174.body).getD .skip
noncomputable def Z3e (r : Zah) : PV := (.agg (bx (Zd2 r)))
noncomputable def Zahf (r : Zah) : List (Nat × Blk) := []
noncomputable def Zaqa : Zln → Cfg
 | .L0 _ _ _ _ => (nav [1, 1, 0, 1, 4] Zalf []).getD (.done .normal)
noncomputable def Zavc : Zln → PW.St
 | .L0 E0 E1 E2 v4 => ⟨20, [(1, (.bptr 30000000 0)), (2, (.bptr 30000001 0)), (3, (.bptr 30000002 0)), (4, (wI v4))], [(30000000, .box [(wI E0.a0), (wI E0.a1), (wI E0.a2), (wI E0.a3), (wI E0.a4), (wI E0.a5)]), (30000001, .box (bx (Zd2 E1))), (30000002, .box (bx (Zd2 E2)))]⟩
abbrev Zaqb (r : Zah) (y : Zln ⊕ Zah) : Prop := Ok PR [.c 2 84 true 7] (Zahf) Z3e Zaqa Zavc r y
theorem Za5d (r : Zah) (E0 : (A6 Int)) (E1 : Zah) (E2 : Zah) (v4 : Int) (y : Zln ⊕ Zah) (h : Z6h E0 E1 E2 v4 = some y) (hk : Zaqb r y) : (Zaqa (.L0 E0 E1 E2 v4)).HH PR [.c 2 84 true 7] Zahf Z3e r (Zavc (.L0 E0 E1 E2 v4)) :=
 Za h (fun h1 h => Zb h fun x4 h5 h => Zb h fun x6 h7 h => Zb h fun x8 h9 h => lG h hk (((((((((((q0.t 1 h1).o [.nat (Int.toNat (IntKind.wrap .i64 (v4 + 1))), .cell 16 ((cI .i64) x4), .nat (Int.toNat v4), .sp [(wI E2.Generic), (wI E2.X), (wI x8.a0), (wI x8.a1), (wI x8.a2), (wI x8.a3), (wI x8.a4)], .pick [4, 1, 2, 3] [30000002, 30000000, 30000001], .pick [1, 2, 3, 4] [30000000, 30000001, 30000002]]).b (Zub (Tree.int .i64) E0 h5).1).b (Zub (Tree.int .i64) E0 h5).2.1).b (Eq.refl (Int.toNat (IntKind.wrap .i64 (v4 + 1))))).b (Zs9 [] [] (Zub (Tree.int .i64) E0 h5).2.2)).b (Zwa (Tree.int .i64) E2.Color h7).1).b (Zwa (Tree.int .i64) E2.Color h7).2.1).b (Eq.refl (Int.toNat v4))).b (Zbm4 (Tree.int .i64) [(wI E2.Generic), (wI E2.X)] [] h9).1).b (Zbm4 (Tree.int .i64) [(wI E2.Generic), (wI E2.X)] [] h9).2)) (fun h1 h => lR h hk (q0.f 1 h1))
theorem Za9z (r : Zah) (a0 : (A6 Int)) (y : Zln ⊕ Zah) (h : Zakb a0 = some y) (hk : Zaqb r y) : (Cfg.code Zalf []).HH PR [.c 2 84 true 7] Zahf Z3e r ⟨20, idx 0 [(.agg (List.map .t ((cA6 (cI .i64)) a0)))], []⟩ :=
 Zb h fun x1 h2 h => lG h hk (((((q0.o [.lab 1001, .lab 1002, .nat (Int.toNat 0), .cell 6 ((cI .i64) x1), .lab 1003, .pick [4, 3, 2, 1] [1003, 1002, 1001], .relab 1001 30000000, .relab 1002 30000001, .relab 1003 30000002, .pick [1, 2, 3, 4] [30000000, 30000001, 30000002]]).b (Zub (Tree.int .i64) a0 h2).1).b (Zub (Tree.int .i64) a0 h2).2.1).b (Eq.refl (Int.toNat 0))).b (Zs9 [] [] (Zub (Tree.int .i64) a0 h2).2.2))
theorem Zbip (a0 : (A6 Int)) {r : Zah} (h : Zakc a0 = some r) : Fn PR 174 [(.agg (List.map .t ((cA6 (cI .i64)) a0)))] (Z3e r) :=
 Zb h fun y h0 h1 => FnG.of_cfg hT Go.Proofs.Tryz.func174 (by kernel_rfl : _ = some Zalf) (by kernel_rfl) 20 (by kernel_rfl) (Nat.le_of_ble_eq_true rfl) [.c 2 84 true 7] (by kernel_rfl) (by kernel_rfl) (Za9z r a0 y h0 (Z0 (fun s y h hk => match s with
 | .L0 E0 E1 E2 v4 => Za5d r E0 E1 E2 v4 y h hk) h1))
noncomputable def Z3f : Code := (Go.Proofs.Tryz.f173.body).getD .skip
noncomputable def Zr2 (r : (List UInt8)) : PV := (wS r)
noncomputable def Zy4 (r : (List UInt8)) : List (Nat × Blk) := []
noncomputable def Z3g : Zhp → Cfg
 | .L0 _ _ _ => (nav [1, 1, 1, 0, 1, 4] Z3f []).getD (.done .normal)
 | .L1 _ _ _ => (nav [1, 1, 1, 1, 1, 0, 1, 4] Z3f []).getD (.done .normal)
 | .L2 _ _ _ _ => (nav [1, 1, 1, 1, 1, 0, 1, 4, 5, 1, 0, 4, 1, 4] Z3f []).getD (.done .normal)
noncomputable def Z6x : Zhp → PW.St
 | .L0 E0 v3 v4 => ⟨47, [(1, (.bptr 30000000 0)), (3, (wS v3)), (4, (wI v4))], [(30000000, .box (bx (Zd2 E0)))]⟩
 | .L1 E0 v3 v5 => ⟨47, [(1, (.bptr 30000000 0)), (3, (wS v3)), (5, (wI v5))], [(30000000, .box (bx (Zd2 E0)))]⟩
 | .L2 E0 v3 v5 v6 => ⟨47, [(1, (.bptr 30000000 0)), (3, (wS v3)), (5, (wI v5)), (6, (wI v6))], [(30000000, .box (bx (Zd2 E0)))]⟩
abbrev Z3h (r : (List UInt8)) (y : Zhp ⊕ (List UInt8)) : Prop := Ok PR [.t 2] (Zy4) Zr2 Z3g Z6x r y
theorem Za5e (r : (List UInt8)) (E0 : Zah) (v3 : (List UInt8)) (v4 : Int) (y : Zhp ⊕ (List UInt8)) (h : Z6i E0 v3 v4 = some y) (hk : Z3h r y) : (Z3g (.L0 E0 v3 v4)).HH PR [.t 2] Zy4 Zr2 r (Z6x (.L0 E0 v3 v4)) :=
 Za h (fun h1 h => Zb h fun x2 h3 h => lG h hk (((q0.t 1 h1).o [.pick [4, 3, 1] [30000000], .pick [1, 3, 4] [30000000]]).b (Zcb h3))) (fun h1 h => have q := q0.f 1 h1;
 Za h (fun h6 h => Zb h fun x7 h8 h => Zb h fun x10 h11 h => lG h hk ((((q.t 1 h6).o [.call (wS x7), .pick [5, 3, 1] [30000000], .pick [1, 3, 5] [30000000]]).b (Zu0 E0.Generic h8)).b (Zcb h11))) (fun h6 h => lG h hk ((q.f 1 h6).o [.pick [5, 1, 3] [30000000], .pick [1, 3, 5] [30000000]])))
theorem Za5f (r : (List UInt8)) (E0 : Zah) (v3 : (List UInt8)) (v5 : Int) (y : Zhp ⊕ (List UInt8)) (h : Z6j E0 v3 v5 = some y) (hk : Z3h r y) : (Z3g (.L1 E0 v3 v5)).HH PR [.t 2] Zy4 Zr2 r (Z6x (.L1 E0 v3 v5)) :=
 Za h (fun h1 h => lG h hk ((q0.t 1 h1).o [.pick [6, 1, 3, 5] [30000000], .pick [1, 3, 5, 6] [30000000]])) (fun h1 h => have q := q0.f 1 h1;
 Za h (fun h2 h => lR h hk (q.t 1 h2)) (fun h2 h => lR h hk (q.f 1 h2)))
theorem Za5g (r : (List UInt8)) (E0 : Zah) (v3 : (List UInt8)) (v5 : Int) (v6 : Int) (y : Zhp ⊕ (List UInt8)) (h : Z6k E0 v3 v5 v6 = some y) (hk : Z3h r y) : (Z3g (.L2 E0 v3 v5 v6)).HH PR [.t 2] Zy4 Zr2 r (Z6x (.L2 E0 v3 v5 v6)) := have q := q0.o [.nat (Int.toNat v5)];
 Zb h fun x1 h2 h => have q := ((((q.o [.cell 34 ((cI .i64) x1)]).b (Zwa (Tree.int .i64) E0.Color h2).1).b (Zwa (Tree.int .i64) E0.Color h2).2.1).b (Eq.refl (Int.toNat v5))).b (Zs9 [(wI E0.Generic), (wI E0.X)] [] (Zwa (Tree.int .i64) E0.Color h2).2.2);
 Za h (fun h3 h => Zb h fun x6 h7 h => Zb h fun x8 h9 h => lG h hk (((((((q.t 1 h3).o [.cs [.str x6], .pick [6, 3, 1, 5] [30000000], .pick [1, 3, 5, 6] [30000000]]).b (Zaeo h7).1).b (Zaeo h7).2.1).b (Zaeo h7).2.2.1).b (Zaeo h7).2.2.2).b (Zcb h9))) (fun h3 h => lG h hk ((q.f 1 h3).o [.pick [5, 1, 3] [30000000], .pick [1, 3, 5] [30000000]]))
theorem Za90 (r : (List UInt8)) (a0 : Zah) (y : Zhp ⊕ (List UInt8)) (h : Zakd a0 = some y) (hk : Z3h r y) : (Cfg.code Z3f []).HH PR [.t 2] Zy4 Zr2 r ⟨47, idx 0 [(.agg (bx (Zd2 a0)))], []⟩ := have q := q0.o [.lab 1001];
 Zb h fun x1 h2 h => have q := (q.k x1).b (Zao7 a0 h2);
 Za h (fun h3 h => lR h hk (q.t 1 h3)) (fun h3 h => lG h hk ((q.f 1 h3).o [.pick [4, 3, 1] [1001], .relab 1001 30000000, .pick [1, 3, 4] [30000000]]))
theorem Zbiq (a0 : Zah) {r : (List UInt8)} (h : Zake a0 = some r) : Fn PR 173 [(.agg (bx (Zd2 a0)))] (Zr2 r) :=
 Zb h fun y h0 h1 => FnG.of_cfg hT Go.Proofs.Tryz.func173 (by kernel_rfl : _ = some Z3f) (by kernel_rfl) 47 (by kernel_rfl) (Nat.le_of_ble_eq_true rfl) [.t 2] (by kernel_rfl) (by kernel_rfl) (Za90 r a0 y h0 (Z0 (fun s y h hk => match s with
 | .L0 E0 v3 v4 => Za5e r E0 v3 v4 y h hk
 | .L1 E0 v3 v5 => Za5f r E0 v3 v5 y h hk
 | .L2 E0 v3 v5 v6 => Za5g r E0 v3 v5 v6 y h hk) h1))
noncomputable def Zaiu : Code := (Go.Proofs.Tryz.f154.body).getD .skip
noncomputable def Z0r (r : (List UInt8)) : PV := (wS r)
noncomputable def Zafm (r : (List UInt8)) : List (Nat × Blk) := []
noncomputable def Zaxf : Zjo → Cfg := fun s => nomatch s
noncomputable def Za1j : Zjo → PW.St := fun s => nomatch s
abbrev Zaxg (r : (List UInt8)) (y : Zjo ⊕ (List UInt8)) : Prop := Ok PR [.t 2] (Zafm) Z0r Zaxf Za1j r y
theorem Zatf (r : (List UInt8)) (a0 : (A6 Int)) (y : Zjo ⊕ (List UInt8)) (h : Z46 a0 = some y) (hk : Zaxg r y) : (Cfg.code Zaiu []).HH PR [.t 2] Zafm Z0r r ⟨6, idx 0 [(.agg (List.map .t ((cA6 (cI .i64)) a0)))], []⟩ :=
 Zb h fun x1 h2 h => Zb h fun x3 h4 h => lR h hk (((q0.o [.lab 1001, .call (.agg (bx (Zd2 x1))), .call (wS x3)]).b (Zbip a0 h2)).b (Zbiq x1 h4))
theorem Za1k (a0 : (A6 Int)) {r : (List UInt8)} (h : Z2g a0 = some r) : Fn PR 154 [(.agg (List.map .t ((cA6 (cI .i64)) a0)))] (Z0r r) :=
 Zb h fun y h0 h1 => FnG.of_cfg hT Go.Proofs.Tryz.func154 (by kernel_rfl : _ = some Zaiu) (by kernel_rfl) 6 (by kernel_rfl) (Nat.le_of_ble_eq_true rfl) [.t 2] (by kernel_rfl) (by kernel_rfl) (Zatf r a0 y h0 (Z0 (fun s _ _ _ => nomatch s) h1))
noncomputable def Zaqc : Code := (Go.Proofs.Tryz.f155.body).getD .skip
noncomputable def Z5n (r : Bool) : PV := (wB r)
noncomputable def Zamu (r : Bool) : List (Nat × Blk) := []
noncomputable def Za5h : Zlo → Cfg := fun s => nomatch s
noncomputable def Za91 : Zlo → PW.St := fun s => nomatch s
abbrev Za5i (r : Bool) (y : Zlo ⊕ Bool) : Prop := Ok PR [.t 4] (Zamu) Z5n Za5h Za91 r y
theorem Za1l (r : Bool) (a0 : Int) (a1 : Zi) (y : Zlo ⊕ Bool) (h : Zabi a0 a1 = some y) (hk : Za5i r y) : (Cfg.code Zaqc []).HH PR [.t 4] Zamu Z5n r ⟨16, idx 0 [(wI a0), (.agg (bx (Zv a1)))], []⟩ := have q := q0.o [.lab 1003];
 Za h (fun h1 h => have q := q.t 1 h1;
 Zb h fun x2 h3 h => have q := (q.k x2).b (Znp a1 h3);
 Za h (fun h4 h => lR h hk (q.t 5 h4)) (fun h4 h => lR h hk (q.f 5 h4))) (fun h1 h => have q := q.f 1 h1;
 Zb h fun x5 h6 h => have q := (q.k x5).b (Znp a1 h6);
 Za h (fun h7 h => lR h hk (q.t 5 h7)) (fun h7 h => lR h hk (q.f 5 h7)))
theorem Za92 (a0 : Int) (a1 : Zi) {r : Bool} (h : Z94 a0 a1 = some r) : Fn PR 155 [(wI a0), (.agg (bx (Zv a1)))] (Z5n r) :=
 Zb h fun y h0 h1 => FnG.of_cfg hT Go.Proofs.Tryz.func155 (by kernel_rfl : _ = some Zaqc) (by kernel_rfl) 16 (by kernel_rfl) (Nat.le_of_ble_eq_true rfl) [.t 4] (by kernel_rfl) (by kernel_rfl) (Za1l r a0 a1 y h0 (Z0 (fun s _ _ _ => nomatch s) h1))
noncomputable def Zqv : Code := (Go.Proofs.Tryz.f139.body).getD .skip
noncomputable def Zl0 (r : Bool) : PV := (wB r)
noncomputable def Zo5 (r : Bool) : List (Nat × Blk) := []
noncomputable def Zoy : Zfh → Cfg
 | .L0 _ _ => (nav [1, 1, 1, 1] Zqv []).getD (.done .normal)
 | .L1 _ _ _ => (nav [1, 1, 1, 1, 1] Zqv []).getD (.done .normal)
 | .L2 _ _ _ _ => (nav [1, 1, 1, 1, 1, 1] Zqv []).getD (.done .normal)
 | .L3 _ _ _ _ _ => (nav [1, 1, 1, 1, 1, 1, 1, 1] Zqv []).getD (.done .normal)
 | .L4 _ _ _ _ _ _ => (nav [1, 1, 1, 1, 1, 1, 1, 1, 1, 1] Zqv []).getD (.done .normal)
 | .L5 _ _ _ _ _ _ _ => (nav [1, 1, 1, 1, 1, 1, 1, 1, 1, 1, 1, 1] Zqv []).getD (.done .normal)
 | .L6 _ _ _ _ _ _ _ _ => (nav [1, 1, 1, 1, 1, 1, 1, 1, 1, 1, 1, 1, 1, 1] Zqv []).getD (.done .normal)
 | .L7 _ _ _ _ _ _ _ _ => (nav [1, 1, 1, 1, 1, 1, 1, 1, 1, 1, 1, 1, 1, 1, 1, 1] Zqv []).getD (.done .normal)
noncomputable def Zqf : Zfh → PW.St
 | .L0 E0 v5 => ⟨138, [(2, (.bptr 30000000 0)), (5, (wB v5))], [(30000000, .box (bx (Zk E0)))]⟩
 | .L1 E0 v5 v6 => ⟨138, [(2, (.bptr 30000000 0)), (5, (wB v5)), (6, (wB v6))], [(30000000, .box (bx (Zk E0)))]⟩
 | .L2 E0 v5 v6 v7 => ⟨138, [(2, (.bptr 30000000 0)), (5, (wB v5)), (6, (wB v6)), (7, (wB v7))], [(30000000, .box (bx (Zk E0)))]⟩
 | .L3 E0 v5 v6 v7 v8 => ⟨138, [(2, (.bptr 30000000 0)), (5, (wB v5)), (6, (wB v6)), (7, (wB v7)), (8, (wB v8))], [(30000000, .box (bx (Zk E0)))]⟩
 | .L4 E0 v5 v6 v7 v8 v9 => ⟨138, [(2, (.bptr 30000000 0)), (5, (wB v5)), (6, (wB v6)), (7, (wB v7)), (8, (wB v8)), (9, (wB v9))], [(30000000, .box (bx (Zk E0)))]⟩
 | .L5 E0 v5 v6 v7 v8 v9 v10 => ⟨138, [(2, (.bptr 30000000 0)), (5, (wB v5)), (6, (wB v6)), (7, (wB v7)), (8, (wB v8)), (9, (wB v9)), (10, (wB v10))], [(30000000, .box (bx (Zk E0)))]⟩
 | .L6 E0 v5 v6 v7 v8 v9 v10 v11 => ⟨138, [(2, (.bptr 30000000 0)), (5, (wB v5)), (6, (wB v6)), (7, (wB v7)), (8, (wB v8)), (9, (wB v9)), (10, (wB v10)), (11, (wB v11))], [(30000000, .box (bx (Zk E0)))]⟩
 | .L7 v5 v6 v7 v8 v9 v10 v11 v12 => ⟨138, [(5, (wB v5)), (6, (wB v6)), (7, (wB v7)), (8, (wB v8)), (9, (wB v9)), (10, (wB v10)), (11, (wB v11)), (12, (wB v12))], []⟩
abbrev Zoz (r : Bool) (y : Zfh ⊕ Bool) : Prop := Ok PR [.t 4] (Zo5) Zl0 Zoy Zqf r y
theorem Zacz (r : Bool) (v5 : Bool) (v6 : Bool) (v7 : Bool) (v8 : Bool) (v9 : Bool) (v10 : Bool) (v11 : Bool) (v12 : Bool) (y : Zfh ⊕ Bool) (h : Z1e v5 v6 v7 v8 v9 v10 v11 v12 = some y) (hk : Zoz r y) : (Zoy (.L7 v5 v6 v7 v8 v9 v10 v11 v12)).HH PR [.t 4] Zo5 Zl0 r (Zqf (.L7 v5 v6 v7 v8 v9 v10 v11 v12)) :=
 Za h (fun h1 h => have q := q0.t 2 h1;
 Za h (fun h2 h => have q := q.t 2 h2;
 Za h (fun h3 h => have q := q.t 2 h3;
 Za h (fun h4 h => have q := q.t 2 h4;
 Za h (fun h5 h => have q := q.t 2 h5;
 Za h (fun h6 h => have q := q.t 2 h6;
 Za h (fun h7 h => lR h hk (q.t 2 h7)) (fun h7 h => lR h hk (q.f 2 h7))) (fun h6 h => lR h hk (((q.ff 4).a 2 h6).a 2 (Eq.refl false)))) (fun h5 h => lR h hk (((q.ff 6).a 2 h5).a 4 (Eq.refl false)))) (fun h4 h => lR h hk (((q.ff 8).a 2 h4).a 6 (Eq.refl false)))) (fun h3 h => lR h hk (((q.ff 10).a 2 h3).a 8 (Eq.refl false)))) (fun h2 h => lR h hk (((q.ff 12).a 2 h2).a 10 (Eq.refl false)))) (fun h1 h => lR h hk (((q0.ff 14).a 2 h1).a 12 (Eq.refl false)))
theorem Z3i (r : Bool) (E0 : Zj) (v5 : Bool) (v6 : Bool) (v7 : Bool) (v8 : Bool) (v9 : Bool) (v10 : Bool) (v11 : Bool) (y : Zfh ⊕ Bool) (h : Zwi E0 v5 v6 v7 v8 v9 v10 v11 = some y) (hk : Zoz r y) : (Zoy (.L6 E0 v5 v6 v7 v8 v9 v10 v11)).HH PR [.t 4] Zo5 Zl0 r (Zqf (.L6 E0 v5 v6 v7 v8 v9 v10 v11)) :=
 Zb h fun x1 h2 h => have q := (q0.k x1).b (Zo4 E0.Op 102 h2);
 Za h (fun h3 h => Zb h fun x4 h5 h => lJ (Zacz r v5 v6 v7 v8 v9 v10 v11 x4 _ h hk) (((q.t 1 h3).o [.call (wB x4), .stopAt 0, .pick [12, 5, 6, 7, 8, 9, 10, 11] [], .pick [5, 6, 7, 8, 9, 10, 11, 12] []]).b (Za92 E0.Op E0.Filter h5))) (fun h3 h => lJ (Zacz r v5 v6 v7 v8 v9 v10 v11 (eqTs (Zv E0.Filter) (Zv (⟨0, 0, 0, 0, 0, 0, 0, ([] : List UInt8), 0, 0, (⟨0, 0⟩ : Ze), (⟨0, 0⟩ : Ze), (⟨0, 0⟩ : Ze)⟩ : Zi))) _ h hk) ((q.f 1 h3).o [.stopAt 0, .pick [12, 5, 6, 7, 8, 9, 10, 11] [], .pick [5, 6, 7, 8, 9, 10, 11, 12] []]))
theorem Zac0 (r : Bool) (E0 : Zj) (v5 : Bool) (v6 : Bool) (v7 : Bool) (v8 : Bool) (v9 : Bool) (v10 : Bool) (y : Zfh ⊕ Bool) (h : Z1f E0 v5 v6 v7 v8 v9 v10 = some y) (hk : Zoz r y) : (Zoy (.L5 E0 v5 v6 v7 v8 v9 v10)).HH PR [.t 4] Zo5 Zl0 r (Zqf (.L5 E0 v5 v6 v7 v8 v9 v10)) :=
 Zb h fun x1 h2 h => have q := (q0.k x1).b (Zo4 E0.Op 112 h2);
 Za h (fun h3 h => have q := q.t 1 h3;
 Za h (fun h4 h => Zb h fun x5 h6 h => lJ (Z3i r E0 v5 v6 v7 v8 v9 v10 (!(x5 == ([] : List UInt8))) _ h hk) ((((((q.t 3 h4).o [.call (wS x5)]).tt 2).o [.stopAt 0, .pick [11, 2, 5, 6, 7, 8, 9, 10] [30000000], .pick [2, 5, 6, 7, 8, 9, 10, 11] [30000000]]).b (Za1k E0.Pool h6)).a 2 h4)) (fun h4 h => lJ (Z3i r E0 v5 v6 v7 v8 v9 v10 false _ h hk) ((q.f 5 h4).o [.stopAt 0, .pick [11, 2, 5, 6, 7, 8, 9, 10] [30000000], .pick [2, 5, 6, 7, 8, 9, 10, 11] [30000000]]))) (fun h3 h => lJ (Z3i r E0 v5 v6 v7 v8 v9 v10 (eqTs ((cA6 (cI .i64)) E0.Pool) ((cA6 (cI .i64)) (⟨0, 0, 0, 0, 0, 0⟩ : (A6 Int)))) _ h hk) ((q.f 1 h3).o [.stopAt 0, .pick [11, 2, 5, 6, 7, 8, 9, 10] [30000000], .pick [2, 5, 6, 7, 8, 9, 10, 11] [30000000]]))
theorem Zac1 (r : Bool) (E0 : Zj) (v5 : Bool) (v6 : Bool) (v7 : Bool) (v8 : Bool) (v9 : Bool) (y : Zfh ⊕ Bool) (h : Z1g E0 v5 v6 v7 v8 v9 = some y) (hk : Zoz r y) : (Zoy (.L4 E0 v5 v6 v7 v8 v9)).HH PR [.t 4] Zo5 Zl0 r (Zqf (.L4 E0 v5 v6 v7 v8 v9)) := have q := (q0.n (E0.Mods.length : Int)).b (Zt Zp E0.Mods);
 Zb h fun x2 h3 h => have q := (q.k x2).b (Zo4 E0.Op 109 h3);
 Za h (fun h4 h => Zb h fun x5 h6 h => lJ (Zac0 r E0 v5 v6 v7 v8 v9 x5 _ h hk) (((q.t 1 h4).o [.call (wB x5), .stopAt 0, .pick [10, 2, 5, 6, 7, 8, 9] [30000000], .pick [2, 5, 6, 7, 8, 9, 10] [30000000]]).b (Zbio E0.Mods h6))) (fun h4 h => lJ (Zac0 r E0 v5 v6 v7 v8 v9 ((E0.Mods.length : Int) == 0) _ h hk) ((q.f 1 h4).o [.stopAt 0, .pick [10, 2, 5, 6, 7, 8, 9] [30000000], .pick [2, 5, 6, 7, 8, 9, 10] [30000000]]))
theorem Zac2 (r : Bool) (E0 : Zj) (v5 : Bool) (v6 : Bool) (v7 : Bool) (v8 : Bool) (y : Zfh ⊕ Bool) (h : Z1h E0 v5 v6 v7 v8 = some y) (hk : Zoz r y) : (Zoy (.L3 E0 v5 v6 v7 v8)).HH PR [.t 4] Zo5 Zl0 r (Zqf (.L3 E0 v5 v6 v7 v8)) :=
 Zb h fun x1 h2 h => have q := (q0.k x1).b (Zo4 E0.Op 97 h2);
 Za h (fun h3 h => Zb h fun x4 h5 h => lJ (Zac1 r E0 v5 v6 v7 v8 x4 _ h hk) (((q.t 1 h3).o [.call (wB x4), .stopAt 0, .pick [9, 2, 5, 6, 7, 8] [30000000], .pick [2, 5, 6, 7, 8, 9] [30000000]]).b (Zbni E0.Amount h5))) (fun h3 h => lJ (Zac1 r E0 v5 v6 v7 v8 (eqTs (Zb2 E0.Amount) (Zb2 (⟨0, 0, 0, (⟨0, 0, 0, 0, 0, 0, 0, ([] : List UInt8), 0, 0, (⟨0, 0⟩ : Ze), (⟨0, 0⟩ : Ze), (⟨0, 0⟩ : Ze)⟩ : Zi)⟩ : Zd3))) _ h hk) ((q.f 1 h3).o [.stopAt 0, .pick [9, 2, 5, 6, 7, 8] [30000000], .pick [2, 5, 6, 7, 8, 9] [30000000]]))
theorem Z3j (r : Bool) (E0 : Zj) (v5 : Bool) (v6 : Bool) (v7 : Bool) (y : Zfh ⊕ Bool) (h : Zwj E0 v5 v6 v7 = some y) (hk : Zoz r y) : (Zoy (.L2 E0 v5 v6 v7)).HH PR [.t 4] Zo5 Zl0 r (Zqf (.L2 E0 v5 v6 v7)) :=
 Zb h fun x1 h2 h => have q := (q0.k x1).b (Zo4 E0.Op 99 h2);
 Za h (fun h3 h => Zb h fun x4 h5 h => lJ (Zac2 r E0 v5 v6 v7 x4 _ h hk) (((q.t 1 h3).o [.call (wB x4), .stopAt 0, .pick [8, 2, 5, 6, 7] [30000000], .pick [2, 5, 6, 7, 8] [30000000]]).b (Zao5 E0.Card h5))) (fun h3 h => lJ (Zac2 r E0 v5 v6 v7 (E0.Card == ([] : List UInt8)) _ h hk) ((q.f 1 h3).o [.stopAt 0, .pick [8, 2, 5, 6, 7] [30000000], .pick [2, 5, 6, 7, 8] [30000000]]))
theorem Zwy (r : Bool) (E0 : Zj) (v5 : Bool) (v6 : Bool) (y : Zfh ⊕ Bool) (h : Zsz E0 v5 v6 = some y) (hk : Zoz r y) : (Zoy (.L1 E0 v5 v6)).HH PR [.t 4] Zo5 Zl0 r (Zqf (.L1 E0 v5 v6)) :=
 Za h (fun h1 h => lJ (Z3j r E0 v5 v6 true _ h hk) ((q0.t 6 h1).o [.stopAt 0, .pick [7, 2, 5, 6] [30000000], .pick [2, 5, 6, 7] [30000000]])) (fun h1 h => have q := q0.f 3 h1;
 Zb h fun x2 h3 h => have q := ((q.k x2).f 1 (Zo4 E0.Op 107 h3)).b h1;
 Za h (fun h4 h => Zb h fun x5 h6 h => lJ (Z3j r E0 v5 v6 (!(x5 == ([] : List UInt8))) _ h hk) ((((((((q.t 3 h4).o [.call (wS x5)]).t 1 (Zava E0.Counter h6)).f 1 h4).t 1 h1).f 1 h4).o [.stopAt 0, .pick [7, 2, 5, 6] [30000000], .pick [2, 5, 6, 7] [30000000]]).b h1)) (fun h4 h => lJ (Z3j r E0 v5 v6 false _ h hk) ((((((q.ff 7).o [.stopAt 0, .pick [7, 2, 5, 6] [30000000], .pick [2, 5, 6, 7] [30000000]]).a 4 h4).b h1).b h4).b h1)))
theorem Zac3 (r : Bool) (E0 : Zj) (v5 : Bool) (y : Zfh ⊕ Bool) (h : Z1i E0 v5 = some y) (hk : Zoz r y) : (Zoy (.L0 E0 v5)).HH PR [.t 4] Zo5 Zl0 r (Zqf (.L0 E0 v5)) :=
 Za h (fun h1 h => lJ (Zwy r E0 v5 true _ h hk) ((q0.t 8 h1).o [.stopAt 0, .pick [6, 2, 5] [30000000], .pick [2, 5, 6] [30000000]])) (fun h1 h => have q := q0.f 3 h1;
 Zb h fun x2 h3 h => have q := ((q.k x2).f 1 (Zo4 E0.Op 122 h3)).b h1;
 Za h (fun h4 h => have q := (((q.t 3 h4).f 1 h1).t 1 h4).f 1 h1;
 Za h (fun h5 h => lJ (Zwy r E0 v5 (decide (E0.Zone ≤ 4)) _ h hk) (((((q.t 3 h5).f 1 h1).t 1 h5).f 1 h1).o [.stopAt 0, .pick [6, 2, 5] [30000000], .pick [2, 5, 6] [30000000]])) (fun h5 h => lJ (Zwy r E0 v5 false _ h hk) ((((((q.ff 6).o [.stopAt 0, .pick [6, 2, 5] [30000000], .pick [2, 5, 6] [30000000]]).a 3 h5).b h1).b h5).b h1))) (fun h4 h => lJ (Zwy r E0 v5 false _ h hk) ((((((((((q.ff 12).o [.stopAt 0, .pick [6, 2, 5] [30000000], .pick [2, 5, 6] [30000000]]).a 3 h4).b h1).b h4).b h1).a 3 (Eq.refl false)).b h1).b (Eq.refl false)).b h1)))
theorem Zbir (r : Bool) (a0 : Zj) (a1 : Int) (y : Zfh ⊕ Bool) (h : Zawc a0 a1 = some y) (hk : Zoz r y) : (Cfg.code Zqv []).HH PR [.t 4] Zo5 Zl0 r ⟨138, idx 0 [(.agg (bx (Zk a0))), (wI a1)], []⟩ := have q := q0.o [.lab 1002];
 Zb h fun x1 h2 h => have q := (q.o [.call (wS x1)]).b (Zbii a0.Op h2);
 Za h (fun h3 h => lR h hk (q.t 1 h3)) (fun h3 h => have q := q.f 1 h3;
 Zb h fun x4 h5 h => have q := (q.k x4).b (Zo4 a0.Op 114 h5);
 Za h (fun h6 h => Zb h fun x7 h8 h => lJ (Zac3 r a0 x7 _ h hk) (((q.t 1 h6).o [.call (wB x7), .stopAt 0, .pick [5, 2] [1002], .relab 1002 30000000, .pick [2, 5] [30000000]]).b (Zbng a0.Ref a1 h8))) (fun h6 h => lJ (Zac3 r a0 (eqTs (Zfj a0.Ref) (Zfj (⟨0, 0, (⟨0, 0, 0, 0, 0, 0, 0, ([] : List UInt8), 0, 0, (⟨0, 0⟩ : Ze), (⟨0, 0⟩ : Ze), (⟨0, 0⟩ : Ze)⟩ : Zi)⟩ : Zgo))) _ h hk) ((q.f 1 h6).o [.stopAt 0, .pick [5, 2] [1002], .relab 1002 30000000, .pick [2, 5] [30000000]])))
theorem Zbnj (a0 : Zj) (a1 : Int) {r : Bool} (h : Zaz0 a0 a1 = some r) : Fn PR 139 [(.agg (bx (Zk a0))), (wI a1)] (Zl0 r) :=
 Zb h fun y h0 h1 => FnG.of_cfg hT Go.Proofs.Tryz.func139 (by kernel_rfl : _ = some Zqv) (by kernel_rfl) 138 (by kernel_rfl) (Nat.le_of_ble_eq_true rfl) [.t 4] (by kernel_rfl) (by kernel_rfl) (Zbir r a0 a1 y h0 (Z0 (fun s y h hk => match s with
 | .L0 E0 v5 => Zac3 r E0 v5 y h hk
 | .L1 E0 v5 v6 => Zwy r E0 v5 v6 y h hk
 | .L2 E0 v5 v6 v7 => Z3j r E0 v5 v6 v7 y h hk
 | .L3 E0 v5 v6 v7 v8 => Zac2 r E0 v5 v6 v7 v8 y h hk
 | .L4 E0 v5 v6 v7 v8 v9 => Zac1 r E0 v5 v6 v7 v8 v9 y h hk
 | .L5 E0 v5 v6 v7 v8 v9 v10 => Zac0 r E0 v5 v6 v7 v8 v9 v10 y h hk
 | .L6 E0 v5 v6 v7 v8 v9 v10 v11 => Z3i r E0 v5 v6 v7 v8 v9 v10 v11 y h hk
 | .L7 v5 v6 v7 v8 v9 v10 v11 v12 => Zacz r v5 v6 v7 v8 v9 v10 v11 v12 y h hk) h1))
noncomputable def Z8k : Code := (Go.Proofs.Tryz.f116.body).getD .skip
noncomputable def Zvq (r : Bool) : PV := (wB r)
noncomputable def Z5o (r : Bool) : List (Nat × Blk) := []
noncomputable def Zafn : Zhw → Cfg
 | .L0 _ _ _ => (nav [1, 0, 1, 4] Z8k []).getD (.done .normal)
noncomputable def Zaiv : Zhw → PW.St
 | .L0 v0 v1 v5 => ⟨27, [(0, (wL Zk v0)), (1, (wI v1)), (5, (wI v5))], []⟩
abbrev Zafo (r : Bool) (y : Zhw ⊕ Bool) : Prop := Ok PR [.t 4] (Z5o) Zvq Zafn Zaiv r y
theorem Zatg (r : Bool) (v0 : (List Zj)) (v1 : Int) (v5 : Int) (y : Zhw ⊕ Bool) (h : Zx0 v0 v1 v5 = some y) (hk : Zafo r y) : (Zafn (.L0 v0 v1 v5)).HH PR [.t 4] Z5o Zvq r (Zaiv (.L0 v0 v1 v5)) := have q := (q0.n (v0.length : Int)).b (Zt Zk v0);
 Za h (fun h2 h => have q := (q.t 1 h2).b (Zs Zk 64 (fun _ => rfl) v0);
 Zb h fun x3 h4 h => have q := ((q.o [.cs (Zk x3)]).b (Z2 h4)).b (Zz Zk h4);
 Zb h fun x5 h6 h => have q := (q.k x5).b (Zbnj x3 v1 h6);
 Za h (fun h7 h => lR h hk (q.t 1 h7)) (fun h7 h => lG h hk ((q.f 1 h7).o [.pick [5, 0, 1] [], .pick [0, 1, 5] []]))) (fun h2 h => have q := ((q.f 1 h2).n (v0.length : Int)).b (Zt Zk v0);
 Za h (fun h10 h => lR h hk (((((q.t 2 h10).n (v0.length : Int)).tt 2).b (Zt Zk v0)).a 2 h10)) (fun h10 h => lR h hk (q.f 4 h10)))
theorem Zaxh (r : Bool) (a0 : (List Zj)) (a1 : Int) (y : Zhw ⊕ Bool) (h : Z71 a0 a1 = some y) (hk : Zafo r y) : (Cfg.code Z8k []).HH PR [.t 4] Z5o Zvq r ⟨27, idx 0 [(wL Zk a0), (wI a1)], []⟩ :=
 lG h hk (q0.o [.pick [5, 1, 0] [], .pick [0, 1, 5] []])
theorem Za5j (a0 : (List Zj)) (a1 : Int) {r : Bool} (h : Z6l a0 a1 = some r) : Fn PR 116 [(wL Zk a0), (wI a1)] (Zvq r) :=
 Zb h fun y h0 h1 => FnG.of_cfg hT Go.Proofs.Tryz.func116 (by kernel_rfl : _ = some Z8k) (by kernel_rfl) 27 (by kernel_rfl) (Nat.le_of_ble_eq_true rfl) [.t 4] (by kernel_rfl) (by kernel_rfl) (Zaxh r a0 a1 y h0 (Z0 (fun s y h hk => match s with
 | .L0 v0 v1 v5 => Zatg r v0 v1 v5 y h hk) h1))
noncomputable def Z0s : Code := (Go.Proofs.Tryz.f96.body).getD .skip
noncomputable def Zqg (r : Bool) : PV := (wB r)
noncomputable def Zwz (r : Bool) : List (Nat × Blk) := []
noncomputable def Zx9 : Zhq → Cfg
 | .L0 _ _ => (nav [1, 1, 1] Z0s []).getD (.done .normal)
 | .L1 _ _ => (nav [1, 1, 1, 1] Z0s []).getD (.done .normal)
 | .L2 _ _ => (nav [1, 1, 1, 1, 1] Z0s []).getD (.done .normal)
 | .L3 _ _ => (nav [1, 1, 1, 1, 1, 1] Z0s []).getD (.done .normal)
 | .L4 _ _ => (nav [1, 1, 1, 1, 1, 1, 1] Z0s []).getD (.done .normal)
noncomputable def Z1q : Zhq → PW.St
 | .L0 E0 v3 => ⟨117, [(1, (.bptr 30000000 0)), (3, (wB v3))], [(30000000, .box (bx (Zab E0)))]⟩
 | .L1 E0 v3 => ⟨117, [(1, (.bptr 30000000 0)), (3, (wB v3))], [(30000000, .box (bx (Zab E0)))]⟩
 | .L2 E0 v3 => ⟨117, [(1, (.bptr 30000000 0)), (3, (wB v3))], [(30000000, .box (bx (Zab E0)))]⟩
 | .L3 E0 v3 => ⟨117, [(1, (.bptr 30000000 0)), (3, (wB v3))], [(30000000, .box (bx (Zab E0)))]⟩
 | .L4 E0 v3 => ⟨117, [(1, (.bptr 30000000 0)), (3, (wB v3))], [(30000000, .box (bx (Zab E0)))]⟩
abbrev Zya (r : Bool) (y : Zhq ⊕ Bool) : Prop := Ok PR [.t 2] (Zwz) Zqg Zx9 Z1q r y
theorem Zac4 (r : Bool) (E0 : Zq) (v3 : Bool) (y : Zhq ⊕ Bool) (h : Z1j E0 v3 = some y) (hk : Zya r y) : (Zx9 (.L4 E0 v3)).HH PR [.t 2] Zwz Zqg r (Z1q (.L4 E0 v3)) :=
 Za h (fun h1 h => have q := q0.t 1 h1;
 Zb h fun x2 h3 h => have q := (q.k x2).b (Zbeb E0.Specs h3);
 Za h (fun h4 h => Zb h fun x6 h7 h => lR h hk (((((((q.t 5 h4).n (E0.Specs.length : Int)).t 1 (Zt Z3 E0.Specs)).k x6).t 1 h4).b (Za5j E0.Effects (E0.Specs.length : Int) h7)).b h4)) (fun h4 h => lR h hk (q.f 7 h4))) (fun h1 h => have q := ((q0.f 1 h1).n (E0.Specs.length : Int)).b (Zt Z3 E0.Specs);
 Za h (fun h9 h => lR h hk (((((q.t 3 h9).n (E0.Effects.length : Int)).tt 2).b (Zt Zk E0.Effects)).a 2 h9)) (fun h9 h => lR h hk (q.f 5 h9)))
theorem Zac5 (r : Bool) (E0 : Zq) (v3 : Bool) (y : Zhq ⊕ Bool) (h : Z1k E0 v3 = some y) (hk : Zya r y) : (Zx9 (.L3 E0 v3)).HH PR [.t 2] Zwz Zqg r (Z1q (.L3 E0 v3)) :=
 Za h (fun h1 h => have q := q0.t 1 h1;
 Zb h fun x2 h3 h => have q := (q.k x2).b (Zbnf E0.Replace h3);
 Za h (fun h4 h => lR h hk (q.t 1 h4)) (fun h4 h => lJ (Zac4 r E0 v3 _ h hk) ((q.f 1 h4).o [.stopAt 0, .pick [1, 3] [30000000], .pick [1, 3] [30000000]]))) (fun h1 h => have q := q0.f 1 h1;
 Za h (fun h5 h => lR h hk (q.t 1 h5)) (fun h5 h => lJ (Zac4 r E0 v3 _ h hk) ((q.f 1 h5).o [.stopAt 0, .pick [1, 3] [30000000], .pick [1, 3] [30000000]])))
theorem Zac6 (r : Bool) (E0 : Zq) (v3 : Bool) (y : Zhq ⊕ Bool) (h : Z1l E0 v3 = some y) (hk : Zya r y) : (Zx9 (.L2 E0 v3)).HH PR [.t 2] Zwz Zqg r (Z1q (.L2 E0 v3)) :=
 Za h (fun h1 h => have q := q0.t 1 h1;
 Zb h fun x2 h3 h => have q := (q.k x2).b (Zbne E0.Trigger h3);
 Za h (fun h4 h => lR h hk (q.t 1 h4)) (fun h4 h => lJ (Zac5 r E0 v3 _ h hk) ((q.f 1 h4).o [.stopAt 0, .pick [1, 3] [30000000], .pick [1, 3] [30000000]]))) (fun h1 h => have q := q0.f 1 h1;
 Za h (fun h5 h => lR h hk (((q.tt 4).a 3 h5).b (Eq.refl true))) (fun h5 h => have q := q.f 3 h5;
 Za h (fun h6 h => lR h hk (q.t 1 h6)) (fun h6 h => lJ (Zac5 r E0 v3 _ h hk) ((q.f 1 h6).o [.stopAt 0, .pick [1, 3] [30000000], .pick [1, 3] [30000000]]))))
theorem Zac7 (r : Bool) (E0 : Zq) (v3 : Bool) (y : Zhq ⊕ Bool) (h : Z1m E0 v3 = some y) (hk : Zya r y) : (Zx9 (.L1 E0 v3)).HH PR [.t 2] Zwz Zqg r (Z1q (.L1 E0 v3)) :=
 Za h (fun h1 h => have q := q0.t 1 h1;
 Zb h fun x2 h3 h => have q := (q.k x2).b (Zbd1 E0.Price h3);
 Za h (fun h4 h => lR h hk (q.t 1 h4)) (fun h4 h => lJ (Zac6 r E0 v3 _ h hk) ((q.f 1 h4).o [.stopAt 0, .pick [1, 3] [30000000], .pick [1, 3] [30000000]]))) (fun h1 h => have q := q0.f 1 h1;
 Za h (fun h5 h => lR h hk (((q.tt 4).a 3 h5).b (Eq.refl true))) (fun h5 h => have q := q.f 3 h5;
 Za h (fun h6 h => lR h hk (q.t 1 h6)) (fun h6 h => lJ (Zac6 r E0 v3 _ h hk) ((q.f 1 h6).o [.stopAt 0, .pick [1, 3] [30000000], .pick [1, 3] [30000000]]))))
theorem Z3k (r : Bool) (E0 : Zq) (v3 : Bool) (y : Zhq ⊕ Bool) (h : Zwk E0 v3 = some y) (hk : Zya r y) : (Zx9 (.L0 E0 v3)).HH PR [.t 2] Zwz Zqg r (Z1q (.L0 E0 v3)) :=
 Za h (fun h1 h => have q := q0.t 1 h1;
 Zb h fun x2 h3 h => have q := (q.k x2).b (Znp E0.Filter h3);
 Za h (fun h4 h => lR h hk (((q.tt 11).a 5 h4).a 6 (Eq.refl true))) (fun h4 h => have q := q.f 5 h4;
 Za h (fun h5 h => lR h hk (((q.tt 6).a 5 h5).b (Eq.refl true))) (fun h5 h => have q := q.f 3 h5;
 Zb h fun x6 h7 h => have q := (((q.o [.call (wS x6)]).ff 2).b (Z29 E0.Mods h7)).a 2 h5;
 Za h (fun h8 h => lR h hk (q.t 1 h8)) (fun h8 h => lJ (Zac7 r E0 v3 _ h hk) ((q.f 1 h8).o [.stopAt 0, .pick [1, 3] [30000000], .pick [1, 3] [30000000]]))))) (fun h1 h => have q := q0.f 1 h1;
 Za h (fun h9 h => lR h hk (((q.tt 6).a 5 h9).b (Eq.refl true))) (fun h9 h => have q := ((((q.f 3 h9).n (E0.Mods.length : Int)).ff 2).b (Zt Zp E0.Mods)).a 2 h9;
 Za h (fun h11 h => lR h hk (q.t 1 h11)) (fun h11 h => lJ (Zac7 r E0 v3 _ h hk) ((q.f 1 h11).o [.stopAt 0, .pick [1, 3] [30000000], .pick [1, 3] [30000000]]))))
theorem Zbis (r : Bool) (a0 : Zq) (y : Zhq ⊕ Bool) (h : Zawe a0 = some y) (hk : Zya r y) : (Cfg.code Z0s []).HH PR [.t 2] Zwz Zqg r ⟨117, idx 0 [(.agg (bx (Zab a0)))], []⟩ := have q := q0.o [.lab 1001];
 Za h (fun h1 h => lR h hk (((q.tt 5).a 4 h1).b (Eq.refl true))) (fun h1 h => have q := q.f 4 h1;
 Za h (fun h2 h => lR h hk (q.t 1 h2)) (fun h2 h => have q := q.f 1 h2;
 Za h (fun h3 h => lJ (Z3k r a0 true _ h hk) ((((q.tt 8).o [.stopAt 0, .pick [3, 1] [1001], .relab 1001 30000000, .pick [1, 3] [30000000]]).a 4 h3).a 4 (Eq.refl true))) (fun h3 h => have q := q.f 4 h3;
 Za h (fun h4 h => lJ (Z3k r a0 true _ h hk) ((q.t 4 h4).o [.stopAt 0, .pick [3, 1] [1001], .relab 1001 30000000, .pick [1, 3] [30000000]])) (fun h4 h => lJ (Z3k r a0 (a0.Kind == 4) _ h hk) ((q.f 4 h4).o [.stopAt 0, .pick [3, 1] [1001], .relab 1001 30000000, .pick [1, 3] [30000000]])))))
theorem Zafp (a0 : Zq) {r : Bool} (h : Zabj a0 = some r) : Fn PR 96 [(.agg (bx (Zab a0)))] (Zqg r) :=
 Zb h fun y h0 h1 => FnG.of_cfg hT Go.Proofs.Tryz.func96 (by kernel_rfl : _ = some Z0s) (by kernel_rfl) 117 (by kernel_rfl) (Nat.le_of_ble_eq_true rfl) [.t 2] (by kernel_rfl) (by kernel_rfl) (Zbis r a0 y h0 (Z0 (fun s y h hk => match s with
 | .L0 E0 v3 => Z3k r E0 v3 y h hk
 | .L1 E0 v3 => Zac7 r E0 v3 y h hk
 | .L2 E0 v3 => Zac6 r E0 v3 y h hk
 | .L3 E0 v3 => Zac5 r E0 v3 y h hk
 | .L4 E0 v3 => Zac4 r E0 v3 y h hk) h1))
noncomputable def Za1m : Code := (Go.Proofs.Tryz.f97.body).getD .skip
noncomputable def Zac8 (r : Bool) : PV := (wB r)
noncomputable def Zavd (r : Bool) : List (Nat × Blk) := []
noncomputable def Zbej : Zon → Cfg := fun s => nomatch s
noncomputable def Zbit : Zon → PW.St := fun s => nomatch s
abbrev Zbek (r : Bool) (y : Zon ⊕ Bool) : Prop := Ok PR [.t 2] (Zavd) Zac8 Zbej Zbit r y
theorem Za93 (r : Bool) (a0 : Zu) (y : Zon ⊕ Bool) (h : Zakf a0 = some y) (hk : Zbek r y) : (Cfg.code Za1m []).HH PR [.t 2] Zavd Zac8 r ⟨13, idx 0 [(.agg (bx (Z8 a0)))], []⟩ := have q := q0.o [.lab 1001];
 Za h (fun h1 h => lR h hk (q.t 5 h1)) (fun h1 h => lR h hk (q.f 5 h1))
theorem Zbiu (a0 : Zu) {r : Bool} (h : Zakg a0 = some r) : Fn PR 97 [(.agg (bx (Z8 a0)))] (Zac8 r) :=
 Zb h fun y h0 h1 => FnG.of_cfg hT Go.Proofs.Tryz.func97 (by kernel_rfl : _ = some Za1m) (by kernel_rfl) 13 (by kernel_rfl) (Nat.le_of_ble_eq_true rfl) [.t 2] (by kernel_rfl) (by kernel_rfl) (Za93 r a0 y h0 (Z0 (fun s _ _ _ => nomatch s) h1))
noncomputable def Zalg : Code := (Go.Proofs.Tryz.f74.body).getD .skip
noncomputable def Z3l (r : Bool) : PV := (wB r)
noncomputable def Zafq (r : Bool) : List (Nat × Blk) := []
noncomputable def Zalh : Zmq → Cfg
 | .L0 _ => (nav [1, 1, 1] Zalg []).getD (.done .normal)
 | .L1 _ _ _ => (nav [1, 1, 1, 1, 0, 1, 4] Zalg []).getD (.done .normal)
noncomputable def Zaqd : Zmq → PW.St
 | .L0 E0 => ⟨139, [(1, (.bptr 30000000 0))], [(30000000, .box (bx (Z8 E0)))]⟩
 | .L1 E0 v3 v4 => ⟨139, [(1, (.bptr 30000000 0)), (3, (wI v3)), (4, (wI v4))], [(30000000, .box (bx (Z8 E0)))]⟩
abbrev Zali (r : Bool) (y : Zmq ⊕ Bool) : Prop := Ok PR [.t 2] (Zafq) Z3l Zalh Zaqd r y
theorem Zac9 (r : Bool) (E0 : Zu) (y : Zmq ⊕ Bool) (h : Z1n E0 = some y) (hk : Zali r y) : (Zalh (.L0 E0)).HH PR [.t 2] Zafq Z3l r (Zaqd (.L0 E0)) :=
 lG h hk (q0.o [.pick [4, 3, 1] [30000000], .pick [1, 3, 4] [30000000]])
theorem Zbel (r : Bool) (E0 : Zu) (v3 : Int) (v4 : Int) (y : Zmq ⊕ Bool) (h : Zaey E0 v3 v4 = some y) (hk : Zali r y) : (Zalh (.L1 E0 v3 v4)).HH PR [.t 2] Zafq Z3l r (Zaqd (.L1 E0 v3 v4)) := have q := (q0.n (E0.Abilities.length : Int)).b (Zt Zab E0.Abilities);
 Za h (fun h2 h => have q := (q.t 1 h2).b (Zs Zab 72 (fun _ => rfl) E0.Abilities);
 Zb h fun x3 h4 h => have q := ((q.o [.cs (Zab x3)]).b (Z2 h4)).b (Zz Zab h4);
 Zb h fun x5 h6 h => have q := (q.k x5).b (Zafp x3 h6);
 Za h (fun h7 h => lR h hk (q.t 1 h7)) (fun h7 h => have q := ((((q.f 1 h7).o [.cs (Zab x3)]).b (Zs Zab 72 (fun _ => rfl) E0.Abilities)).b (Z2 h4)).b (Zz Zab h4);
 Za h (fun h8 h => lG h hk ((q.t 1 h8).o [.pick [4, 3, 1] [30000000], .pick [1, 3, 4] [30000000]])) (fun h8 h => lG h hk ((q.f 1 h8).o [.pick [4, 1, 3] [30000000], .pick [1, 3, 4] [30000000]])))) (fun h2 h => have q := q.f 1 h2;
 Zb h fun x15 h16 h => have q := (q.k x15).b (Zbiu E0 h16);
 Za h (fun h17 h => have q := q.t 1 h17;
 Za h (fun h18 h => have q := q.t 4 h18;
 Za h (fun h19 h => have q := ((((q.t 3 h19).n (E0.Abilities.length : Int)).tt 2).b (Zt Zab E0.Abilities)).a 2 h19;
 Za h (fun h20 h => lR h hk (q.t 3 h20)) (fun h20 h => lR h hk (q.f 3 h20))) (fun h19 h => lR h hk (((q.ff 8).a 5 h19).a 3 (Eq.refl false)))) (fun h18 h => lR h hk (((q.ff 12).a 4 h18).a 8 (Eq.refl false)))) (fun h17 h => have q := q.f 1 h17;
 Za h (fun h21 h => have q := q.t 4 h21;
 Za h (fun h22 h => have q := ((((q.tt 8).a 5 h22).b h21).b h22).b h21;
 Za h (fun h23 h => lR h hk (((((q.tt 7).a 4 h23).b h21).b h23).b h21)) (fun h23 h => lR h hk ((((q.f 4 h23).t 1 h21).f 1 h23).t 1 h21))) (fun h22 h => lR h hk ((((((((q.f 5 h22).t 1 h21).f 1 h22).t 1 h21).f 4 (Eq.refl false)).t 1 h21).f 1 (Eq.refl false)).t 1 h21))) (fun h21 h => lR h hk (q.f 8 h21))))
theorem Zbiv (r : Bool) (a0 : Zu) (y : Zmq ⊕ Bool) (h : Zawf a0 = some y) (hk : Zali r y) : (Cfg.code Zalg []).HH PR [.t 2] Zafq Z3l r ⟨139, idx 0 [(.agg (bx (Z8 a0)))], []⟩ := have q := q0.o [.lab 1001];
 Zb h fun x1 h2 h => have q := (q.k x1).b (Zao5 a0.Name h2);
 Za h (fun h3 h => lR h hk (((q.tt 24).a 5 h3).a 19 (Eq.refl true))) (fun h3 h => have q := q.f 3 h3;
 Zb h fun x4 h5 h => have q := (((q.k x4).ff 2).b (Zao7 a0.Cost h5)).a 2 h3;
 Za h (fun h6 h => lR h hk (((q.tt 19).a 5 h6).a 14 (Eq.refl true))) (fun h6 h => have q := q.f 3 h6;
 Zb h fun x7 h8 h => have q := (((q.k x7).ff 2).b (Zbna a0.Line h8)).a 2 h6;
 Za h (fun h9 h => lR h hk (((q.tt 14).a 5 h9).a 9 (Eq.refl true))) (fun h9 h => have q := q.f 3 h9;
 Zb h fun x10 h11 h => have q := (((q.k x10).ff 2).b (Za7c a0.Keys h11)).a 2 h9;
 Za h (fun h12 h => lR h hk (((q.tt 9).a 4 h12).a 5 (Eq.refl true))) (fun h12 h => have q := q.f 4 h12;
 Za h (fun h13 h => lR h hk (((q.tt 5).a 4 h13).b (Eq.refl true))) (fun h13 h => have q := q.f 4 h13;
 Za h (fun h14 h => lR h hk (q.t 1 h14)) (fun h14 h => have q := q.f 1 h14;
 Za h (fun h15 h => lR h hk (((q.tt 24).a 4 h15).a 20 (Eq.refl true))) (fun h15 h => have q := q.f 4 h15;
 Za h (fun h16 h => lR h hk (((q.tt 20).a 4 h16).a 16 (Eq.refl true))) (fun h16 h => have q := q.f 4 h16;
 Za h (fun h17 h => lR h hk (((q.tt 16).a 4 h17).a 12 (Eq.refl true))) (fun h17 h => have q := q.f 4 h17;
 Za h (fun h18 h => lR h hk (((q.tt 12).a 6 h18).a 6 (Eq.refl true))) (fun h18 h => have q := q.f 2 h18;
 Zb h fun x19 h20 h => have q := (((q.k x19).ff 2).b (Za0s a0 h20)).a 2 h18;
 Za h (fun h21 h => have q := q.t 4 h21;
 Za h (fun h22 h => lR h hk ((((((((((((q.tt 5).ff 1).tt 1).ff 1).tt 6).a 3 h22).b h21).b h22).b h18).b h21).b h18).a 6 (Eq.refl true))) (fun h22 h => have q := ((((((q.f 3 h22).t 1 h21).ff 2).t 1 h22).f 1 h18).b h21).b h18;
 Za h (fun h23 h => lR h hk (((q.tt 6).a 5 h23).b (Eq.refl true))) (fun h23 h => have q := ((((q.f 3 h23).n (a0.Abilities.length : Int)).ff 2).b (Zt Zab a0.Abilities)).a 2 h23;
 Za h (fun h25 h => lR h hk (q.t 1 h25)) (fun h25 h => lJ (Zac9 r a0 _ h hk) ((q.f 1 h25).o [.stopAt 0, .pick [1] [1001], .relab 1001 30000000, .pick [1] [30000000]]))))) (fun h21 h => have q := (((((((((q.ff 11).n (a0.Abilities.length : Int)).ff 2).a 5 h21).b h18).b h21).b h18).a 3 (Eq.refl false)).b (Zt Zab a0.Abilities)).a 2 (Eq.refl false);
 Za h (fun h27 h => lR h hk (q.t 1 h27)) (fun h27 h => lJ (Zac9 r a0 _ h hk) ((q.f 1 h27).o [.stopAt 0, .pick [1] [1001], .relab 1001 30000000, .pick [1] [30000000]])))))))))))))
theorem Zbnk (a0 : Zu) {r : Bool} (h : Zaz1 a0 = some r) : Fn PR 74 [(.agg (bx (Z8 a0)))] (Z3l r) :=
 Zb h fun y h0 h1 => FnG.of_cfg hT Go.Proofs.Tryz.func74 (by kernel_rfl : _ = some Zalg) (by kernel_rfl) 139 (by kernel_rfl) (Nat.le_of_ble_eq_true rfl) [.t 2] (by kernel_rfl) (by kernel_rfl) (Zbiv r a0 y h0 (Z0 (fun s y h hk => match s with
 | .L0 E0 => Zac9 r E0 y h hk
 | .L1 E0 v3 v4 => Zbel r E0 v3 v4 y h hk) h1))
noncomputable def Zalj : Code := (Go.Proofs.Tryz.f75.body).getD .skip
noncomputable def Z3m (r : Int) : PV := (wI r)
noncomputable def Zahg (r : Int) : List (Nat × Blk) := []
noncomputable def Zaqe : Zlp → Cfg
 | .L0 _ _ _ => (nav [1, 0, 1, 4] Zalj []).getD (.done .normal)
noncomputable def Zave : Zlp → PW.St
 | .L0 v0 v1 v5 => ⟨20, [(0, (wL Z8 v0)), (1, (wS v1)), (5, (wI v5))], []⟩
abbrev Zaqf (r : Int) (y : Zlp ⊕ Int) : Prop := Ok PR [.t 4] (Zahg) Z3m Zaqe Zave r y
theorem Za5k (r : Int) (v0 : (List Zu)) (v1 : (List UInt8)) (v5 : Int) (y : Zlp ⊕ Int) (h : Z6m v0 v1 v5 = some y) (hk : Zaqf r y) : (Zaqe (.L0 v0 v1 v5)).HH PR [.t 4] Zahg Z3m r (Zave (.L0 v0 v1 v5)) := have q := (q0.n (v0.length : Int)).b (Zt Z8 v0);
 Za h (fun h2 h => have q := (q.t 1 h2).b (Zs Z8 17 (fun _ => rfl) v0);
 Zb h fun x3 h4 h => have q := ((q.o [.cs (Z8 x3)]).b (Z2 h4)).b (Zz Z8 h4);
 Za h (fun h5 h => lR h hk (q.t 1 h5)) (fun h5 h => lG h hk ((q.f 1 h5).o [.pick [5, 0, 1] [], .pick [0, 1, 5] []]))) (fun h2 h => lR h hk (q.f 1 h2))
theorem Za94 (r : Int) (a0 : (List Zu)) (a1 : (List UInt8)) (y : Zlp ⊕ Int) (h : Zakh a0 a1 = some y) (hk : Zaqf r y) : (Cfg.code Zalj []).HH PR [.t 4] Zahg Z3m r ⟨20, idx 0 [(wL Z8 a0), (wS a1)], []⟩ :=
 lG h hk (q0.o [.pick [5, 1, 0] [], .pick [0, 1, 5] []])
theorem Zbiw (a0 : (List Zu)) (a1 : (List UInt8)) {r : Int} (h : Zaki a0 a1 = some r) : Fn PR 75 [(wL Z8 a0), (wS a1)] (Z3m r) :=
 Zb h fun y h0 h1 => FnG.of_cfg hT Go.Proofs.Tryz.func75 (by kernel_rfl : _ = some Zalj) (by kernel_rfl) 20 (by kernel_rfl) (Nat.le_of_ble_eq_true rfl) [.t 4] (by kernel_rfl) (by kernel_rfl) (Za94 r a0 a1 y h0 (Z0 (fun s y h hk => match s with
 | .L0 v0 v1 v5 => Za5k r v0 v1 v5 y h hk) h1))
noncomputable def Zahh : Code := (Go.Proofs.Tryz.f98.body).getD .skip
noncomputable def Zzt (r : Bool) : PV := (wB r)
noncomputable def Zada (r : Bool) : List (Nat × Blk) := []
noncomputable def Zamv : Zkg → Cfg
 | .L0 _ _ _ => (nav [1, 0, 1, 4] Zahh []).getD (.done .normal)
noncomputable def Zaqg : Zkg → PW.St
 | .L0 v0 v1 v5 => ⟨26, [(0, (wL Z8 v0)), (1, (wS v1)), (5, (wI v5))], []⟩
abbrev Zamw (r : Bool) (y : Zkg ⊕ Bool) : Prop := Ok PR [.t 4] (Zada) Zzt Zamv Zaqg r y
theorem Za1n (r : Bool) (v0 : (List Zu)) (v1 : (List UInt8)) (v5 : Int) (y : Zkg ⊕ Bool) (h : Z2h v0 v1 v5 = some y) (hk : Zamw r y) : (Zamv (.L0 v0 v1 v5)).HH PR [.t 4] Zada Zzt r (Zaqg (.L0 v0 v1 v5)) := have q := (q0.n (v0.length : Int)).b (Zt Z8 v0);
 Za h (fun h2 h => have q := (q.t 1 h2).b (Zs Z8 17 (fun _ => rfl) v0);
 Zb h fun x3 h4 h => have q := ((q.o [.cs (Z8 x3)]).b (Z2 h4)).b (Zz Z8 h4);
 Za h (fun h5 h => have q := ((((((q.t 3 h5).o [.cs (Z8 x3)]).tt 3).b (Zs Z8 17 (fun _ => rfl) v0)).b (Z2 h4)).b (Zz Z8 h4)).a 3 h5;
 Za h (fun h6 h => lR h hk (q.t 1 h6)) (fun h6 h => lG h hk ((q.f 1 h6).o [.pick [5, 0, 1] [], .pick [0, 1, 5] []]))) (fun h5 h => lG h hk ((((q.ff 7).o [.pick [5, 0, 1] [], .pick [0, 1, 5] []]).a 6 h5).b (Eq.refl false)))) (fun h2 h => lR h hk (q.f 1 h2))
theorem Za5l (r : Bool) (a0 : (List Zu)) (a1 : (List UInt8)) (y : Zkg ⊕ Bool) (h : Zagl a0 a1 = some y) (hk : Zamw r y) : (Cfg.code Zahh []).HH PR [.t 4] Zada Zzt r ⟨26, idx 0 [(wL Z8 a0), (wS a1)], []⟩ :=
 lG h hk (q0.o [.pick [5, 1, 0] [], .pick [0, 1, 5] []])
theorem Zbem (a0 : (List Zu)) (a1 : (List UInt8)) {r : Bool} (h : Zaez a0 a1 = some r) : Fn PR 98 [(wL Z8 a0), (wS a1)] (Zzt r) :=
 Zb h fun y h0 h1 => FnG.of_cfg hT Go.Proofs.Tryz.func98 (by kernel_rfl : _ = some Zahh) (by kernel_rfl) 26 (by kernel_rfl) (Nat.le_of_ble_eq_true rfl) [.t 4] (by kernel_rfl) (by kernel_rfl) (Za5l r a0 a1 y h0 (Z0 (fun s y h hk => match s with
 | .L0 v0 v1 v5 => Za1n r v0 v1 v5 y h hk) h1))
noncomputable def Zzu : Code := (Go.Proofs.Tryz.f76.body).getD .skip
noncomputable def Zqh (r : Bool) : PV := (wB r)
noncomputable def Zyb (r : Bool) : List (Nat × Blk) := []
noncomputable def Z3n : Zf8 → Cfg
 | .L0 _ _ _ => (nav [1, 0, 1, 4] Zzu []).getD (.done .normal)
 | .L1 _ _ _ _ => (nav [1, 0, 1, 4, 5, 1, 0, 4, 1, 4] Zzu []).getD (.done .normal)
noncomputable def Z5p : Zf8 → PW.St
 | .L0 v0 E0 v5 => ⟨45, [(0, (wL Z8 v0)), (3, (.bptr 30000000 0)), (5, (wI v5))], [(30000000, .box (bx (Z8 E0)))]⟩
 | .L1 v0 E0 v5 v6 => ⟨45, [(0, (wL Z8 v0)), (3, (.bptr 30000000 0)), (5, (wI v5)), (6, (wI v6))], [(30000000, .box (bx (Z8 E0)))]⟩
abbrev Z3o (r : Bool) (y : Zf8 ⊕ Bool) : Prop := Ok PR [.t 4] (Zyb) Zqh Z3n Z5p r y
theorem Zath (r : Bool) (v0 : (List Zu)) (E0 : Zu) (v5 : Int) (y : Zf8 ⊕ Bool) (h : Zx1 v0 E0 v5 = some y) (hk : Z3o r y) : (Z3n (.L0 v0 E0 v5)).HH PR [.t 4] Zyb Zqh r (Z5p (.L0 v0 E0 v5)) := have q := (q0.n (E0.Abilities.length : Int)).b (Zt Zab E0.Abilities);
 Za h (fun h2 h => lG h hk ((q.t 1 h2).o [.pick [6, 0, 3, 5] [30000000], .pick [0, 3, 5, 6] [30000000]])) (fun h2 h => lR h hk (q.f 1 h2))
theorem Zati (r : Bool) (v0 : (List Zu)) (E0 : Zu) (v5 : Int) (v6 : Int) (y : Zf8 ⊕ Bool) (h : Zx2 v0 E0 v5 v6 = some y) (hk : Z3o r y) : (Z3n (.L1 v0 E0 v5 v6)).HH PR [.t 4] Zyb Zqh r (Z5p (.L1 v0 E0 v5 v6)) := have q := q0.b (Zs Zab 72 (fun _ => rfl) E0.Abilities);
 Zb h fun x1 h2 h => have q := (((q.o [.cs (Zab x1), .num (x1.Effects.length : Int)]).b (Z2 h2)).b (Zz Zab h2)).b (Zt Zk x1.Effects);
 Za h (fun h4 h => have q := (((((q.t 1 h4).o [.cs (Zab x1)]).b (Zs Zab 72 (fun _ => rfl) E0.Abilities)).b (Z2 h2)).b (Zz Zab h2)).b (Zs Zk 64 (fun _ => rfl) x1.Effects);
 Zb h fun x5 h6 h => have q := ((q.o [.cs (Zk x5), .lab 1007]).b (Z2 h6)).b (Zz Zk h6);
 Za h (fun h7 h => have q := q.t 4 h7;
 Zb h fun x8 h9 h => have q := (((q.k x8).tt 2).b (Zbem v0 x5.Card h9)).a 2 h7;
 Za h (fun h10 h => lR h hk (q.t 1 h10)) (fun h10 h => lG h hk ((q.f 1 h10).o [.pick [6, 0, 3, 5] [30000000], .pick [0, 3, 5, 6] [30000000]]))) (fun h7 h => lG h hk ((((q.ff 7).o [.pick [6, 0, 3, 5] [30000000], .pick [0, 3, 5, 6] [30000000]]).a 6 h7).b (Eq.refl false)))) (fun h4 h => lG h hk ((q.f 1 h4).o [.pick [5, 0, 3] [30000000], .pick [0, 3, 5] [30000000]]))
theorem Zaxi (r : Bool) (a0 : (List Zu)) (a1 : Zu) (y : Zf8 ⊕ Bool) (h : Z72 a0 a1 = some y) (hk : Z3o r y) : (Cfg.code Zzu []).HH PR [.t 4] Zyb Zqh r ⟨45, idx 0 [(wL Z8 a0), (.agg (bx (Z8 a1)))], []⟩ :=
 lG h hk (q0.o [.lab 1003, .pick [5, 3, 0] [1003], .relab 1003 30000000, .pick [0, 3, 5] [30000000]])
theorem Za5m (a0 : (List Zu)) (a1 : Zu) {r : Bool} (h : Z6n a0 a1 = some r) : Fn PR 76 [(wL Z8 a0), (.agg (bx (Z8 a1)))] (Zqh r) :=
 Zb h fun y h0 h1 => FnG.of_cfg hT Go.Proofs.Tryz.func76 (by kernel_rfl : _ = some Zzu) (by kernel_rfl) 45 (by kernel_rfl) (Nat.le_of_ble_eq_true rfl) [.t 4] (by kernel_rfl) (by kernel_rfl) (Zaxi r a0 a1 y h0 (Z0 (fun s y h hk => match s with
 | .L0 v0 E0 v5 => Zath r v0 E0 v5 y h hk
 | .L1 v0 E0 v5 v6 => Zati r v0 E0 v5 v6 y h hk) h1))
end
end Go.PW
