import Derived.Test.YtloamjgjcjandaaGreatQT
import Derived.Test.YtloamjgjcjandaaGreatQD
import Derived.Test.YtloamjgjcjandaaGreatPwRz
set_option linter.all false
set_option maxRecDepth 100000
namespace Go.PW
open Go.RowKit
instance : Sd PR T := ⟨hm, hT⟩
noncomputable section
noncomputable def Za7m : Code := (Go.Proofs.Tryz.f108.body).getD .skip
noncomputable def Zahd (r : Bool) : PV := (wB r)
noncomputable def Za0w (r : Bool) : List (Nat × Blk) := []
noncomputable def Zbie : Zqb → Cfg := fun s => nomatch s
noncomputable def Zbls : Zqb → PW.St := fun s => nomatch s
abbrev Zbif (r : Bool) (y : Zqb ⊕ Bool) : Prop := Ok PR [.t 2] (Za0w) Zahd Zbie Zbls r y
theorem Zbdq (r : Bool) (a0 : Int) (y : Zqb ⊕ Bool) (h : Zao0 a0 = some y) (hk : Zbif r y) : (Cfg.code Za7m []).HH PR [.t 2] Za0w Zahd r ⟨9, idx 0 [(.t (.int .u8 a0))], []⟩ :=
 Za h (fun h1 h => lR h hk (q0.t 3 h1)) (fun h1 h => lR h hk (q0.f 3 h1))
theorem Za0x (a0 : Int) {r : Bool} (h : Zaim a0 = some r) : Fn PR 108 [(.t (.int .u8 a0))] (Zahd r) :=
 Zb h fun y h0 h1 => FnG.of_cfg hT Go.Proofs.Tryz.func108 (by kernel_rfl : _ = some Za7m) (by kernel_rfl) 9 (by kernel_rfl) (Nat.le_of_ble_eq_true rfl) [.t 2] (by kernel_rfl) (by kernel_rfl) (Zbdq r a0 y h0 (Z1 (fun s _ _ _ => nomatch s) h1))
noncomputable def Zak8 : Code := (Go.Proofs.Tryz.f91.body).getD .skip
noncomputable def Z3a (r : Bool) : PV := (wB r)
noncomputable def Zaff (r : Bool) : List (Nat × Blk) := []
noncomputable def Zak9 : Zms → Cfg
 | .L0 _ _ => (nav [1, 1, 0, 1, 4] Zak8 []).getD (.done .normal)
 | .L1 _ _ => (nav [1, 1, 0, 1, 4, 5, 1, 0, 4, 1] Zak8 []).getD (.done .normal)
noncomputable def Zapk : Zms → PW.St
 | .L0 v0 v3 => ⟨70, [(0, (wS v0)), (3, (wI v3))], []⟩
 | .L1 v0 v3 => ⟨70, [(0, (wS v0)), (3, (wI v3))], []⟩
abbrev Zala (r : Bool) (y : Zms ⊕ Bool) : Prop := Ok PR [.t 2] (Zaff) Z3a Zak9 Zapk r y
theorem Zwz (r : Bool) (v0 : (List UInt8)) (v3 : Int) (y : Zms ⊕ Bool) (h : Zs0 v0 v3 = some y) (hk : Zala r y) : (Zak9 (.L1 v0 v3)).HH PR [.t 2] Zaff Z3a r (Zapk (.L1 v0 v3)) :=
 Za h (fun h1 h => have q := q0.t 3 h1;
 Zb h fun x2 h3 h => have q := ((((q.o [.byte x2]).tt 2).b (Z2 h3)).b (Zmr h3)).a 2 h1;
 Za h (fun h4 h => have q := q.t 4 h4;
 Zb h fun x7 h8 h => have q := ((((q.o [.byte x7]).tt 2).b (Z2 h8)).b (Zmr h8)).a 2 h4;
 Za h (fun h9 h => lR h hk (q.t 1 h9)) (fun h9 h => lG h hk ((q.f 1 h9).o [.pick [3, 0] [], .pick [0, 3] []]))) (fun h4 h => lG h hk ((((q.ff 7).o [.pick [3, 0] [], .pick [0, 3] []]).a 6 h4).b (Eq.refl false)))) (fun h1 h => lG h hk ((((q0.ff 12).o [.pick [3, 0] [], .pick [0, 3] []]).a 5 h1).a 7 (Eq.refl false)))
theorem Zbdr (r : Bool) (v0 : (List UInt8)) (v3 : Int) (y : Zms ⊕ Bool) (h : Zaex v0 v3 = some y) (hk : Zala r y) : (Zak9 (.L0 v0 v3)).HH PR [.t 2] Zaff Z3a r (Zapk (.L0 v0 v3)) := have q := (q0.n (v0.length : Int)).b (Eq.refl (v0.length : Int));
 Za h (fun h2 h => have q := q.t 1 h2;
 Zb h fun x3 h4 h => have q := ((q.o [.byte x3]).b (Z2 h4)).b (Zmr h4);
 Zb h fun x5 h6 h => have q := (q.k x5).b (Za0x (UInt8.toNat x3 : Int) h6);
 Za h (fun h7 h => have q := q.t 3 h7;
 Zb h fun x8 h9 h => have q := ((((q.o [.byte x8]).tt 2).b (Z2 h9)).b (Zmr h9)).a 2 h7;
 Za h (fun h10 h => have q := (((((q.tt 10).a 4 h10).b h7).b h10).b h7).a 3 (Eq.refl true);
 Zb h fun x11 h12 h => have q := ((((q.o [.byte x11]).tt 2).b (Z2 h12)).b (Zmr h12)).a 2 (Eq.refl true);
 Za h (fun h13 h => lR h hk (q.t 1 h13)) (fun h13 h => lJ (Zwz r v0 v3 _ h hk) ((q.f 1 h13).o [.stopAt 0, .pick [0, 3] [], .pick [0, 3] []]))) (fun h10 h => have q := q.f 3 h10;
 Zb h fun x14 h15 h => have q := ((((((q.o [.byte x14]).f 1 (Z2 h15)).t 1 (Zmr h15)).f 1 h10).t 1 h7).b h10).b h7;
 Za h (fun h16 h => have q := q.t 3 h16;
 Zb h fun x17 h18 h => have q := ((((q.o [.byte x17]).tt 2).b (Z2 h18)).b (Zmr h18)).a 2 h16;
 Za h (fun h19 h => lR h hk (q.t 1 h19)) (fun h19 h => lJ (Zwz r v0 v3 _ h hk) ((q.f 1 h19).o [.stopAt 0, .pick [0, 3] [], .pick [0, 3] []]))) (fun h16 h => lJ (Zwz r v0 v3 _ h hk) ((((q.ff 6).o [.stopAt 0, .pick [0, 3] [], .pick [0, 3] []]).a 5 h16).b (Eq.refl false))))) (fun h7 h => lJ (Zwz r v0 v3 _ h hk) ((((q.ff 13).o [.stopAt 0, .pick [0, 3] [], .pick [0, 3] []]).a 7 h7).a 6 (Eq.refl false)))) (fun h2 h => lR h hk (q.f 1 h2))
theorem Zbig (r : Bool) (a0 : (List UInt8)) (y : Zms ⊕ Bool) (h : Zawf a0 = some y) (hk : Zala r y) : (Cfg.code Zak8 []).HH PR [.t 2] Zaff Z3a r ⟨70, idx 0 [(wS a0)], []⟩ := have q := (q0.n (a0.length : Int)).b (Eq.refl (a0.length : Int));
 Za h (fun h2 h => lR h hk (((q.tt 17).a 4 h2).a 13 (Eq.refl true))) (fun h2 h => have q := ((((q.f 2 h2).n (a0.length : Int)).ff 2).b (Eq.refl (a0.length : Int))).a 2 h2;
 Za h (fun h3 h => lR h hk (((q.tt 13).a 5 h3).a 8 (Eq.refl true))) (fun h3 h => have q := q.f 2 h3;
 Zb h fun x4 h5 h => have q := (((q.o [.byte x4]).f 1 (Z2 h5)).b (Zmr h5)).b h3;
 Zb h fun x6 h7 h => have q := (((q.k x6).ff 2).b (Za0x (UInt8.toNat x4 : Int) h7)).a 2 h3;
 Za h (fun h8 h => lR h hk (((q.tt 8).a 7 h8).b (Eq.refl true))) (fun h8 h => have q := ((((q.f 3 h8).n (a0.length : Int)).ff 2).b (Eq.refl (a0.length : Int))).a 2 h8;
 Zb h fun x11 h12 h => have q := ((((q.o [.byte x11]).ff 2).b (Z2 h12)).b (Zmr h12)).a 2 h8;
 Za h (fun h13 h => lR h hk (q.t 1 h13)) (fun h13 h => lG h hk ((q.f 1 h13).o [.pick [3, 0] [], .pick [0, 3] []])))))
theorem Zapl (a0 : (List UInt8)) {r : Bool} (h : Zain a0 = some r) : Fn PR 91 [(wS a0)] (Z3a r) :=
 Zb h fun y h0 h1 => FnG.of_cfg hT Go.Proofs.Tryz.func91 (by kernel_rfl : _ = some Zak8) (by kernel_rfl) 70 (by kernel_rfl) (Nat.le_of_ble_eq_true rfl) [.t 2] (by kernel_rfl) (by kernel_rfl) (Zbig r a0 y h0 (Z1 (fun s y h hk => match s with
 | .L0 v0 v3 => Zbdr r v0 v3 y h hk
 | .L1 v0 v3 => Zwz r v0 v3 y h hk) h1))
noncomputable def Zaw2 : Code := (Go.Proofs.Tryz.f92.body).getD .skip
noncomputable def Zaai (r : Bool) : PV := (wB r)
noncomputable def Zapm (r : Bool) : List (Nat × Blk) := []
noncomputable def Za0y : Zn8 → Cfg
 | .L0 _ _ => (nav [1, 1, 0, 1, 4] Zaw2 []).getD (.done .normal)
noncomputable def Za7n : Zn8 → PW.St
 | .L0 E0 v3 => ⟨38, [(1, (.bptr 30000000 0)), (3, (wI v3))], [(30000000, .box (bx (Zd2 E0)))]⟩
abbrev Za0z (r : Bool) (y : Zn8 ⊕ Bool) : Prop := Ok PR [.t 2] (Zapm) Zaai Za0y Za7n r y
theorem Zbds (r : Bool) (E0 : Zai) (v3 : Int) (y : Zn8 ⊕ Bool) (h : Z7m E0 v3 = some y) (hk : Za0z r y) : (Za0y (.L0 E0 v3)).HH PR [.t 2] Zapm Zaai r (Za7n (.L0 E0 v3)) :=
 Za h (fun h1 h => have q := (q0.t 1 h1).o [.nat (Int.toNat v3)];
 Zb h fun x2 h3 h => have q := ((((q.o [.cell 29 ((cI .i64) x2)]).b (Zwg (Tree.int .i64) E0.Color h3).1).b (Zwg (Tree.int .i64) E0.Color h3).2.1).b (Eq.refl (Int.toNat v3))).b (Ztc [(wI E0.Generic), (wI E0.X)] [] (Zwg (Tree.int .i64) E0.Color h3).2.2);
 Za h (fun h4 h => lR h hk (((q.tt 7).a 6 h4).b (Eq.refl true))) (fun h4 h => have q := ((q.f 3 h4).o [.nat (Int.toNat v3)]).ff 1;
 Zb h fun x5 h6 h => have q := (((((((q.o [.cell 35 ((cI .i64) x5)]).ff 2).b (Zwg (Tree.int .i64) E0.Color h6).1).b (Zwg (Tree.int .i64) E0.Color h6).2.1).b (Eq.refl (Int.toNat v3))).b h4).b (Ztc [(wI E0.Generic), (wI E0.X)] [] (Zwg (Tree.int .i64) E0.Color h6).2.2)).a 2 h4;
 Za h (fun h7 h => lR h hk (q.t 1 h7)) (fun h7 h => lG h hk ((q.f 1 h7).o [.pick [3, 1] [30000000], .pick [1, 3] [30000000]])))) (fun h1 h => lR h hk (q0.f 1 h1))
theorem Zbih (r : Bool) (a0 : Zai) (y : Zn8 ⊕ Bool) (h : Zawg a0 = some y) (hk : Za0z r y) : (Cfg.code Zaw2 []).HH PR [.t 2] Zapm Zaai r ⟨38, idx 0 [(.agg (bx (Zd2 a0)))], []⟩ := have q := q0.o [.lab 1001];
 Za h (fun h1 h => lR h hk (((q.tt 13).a 4 h1).a 9 (Eq.refl true))) (fun h1 h => have q := q.f 4 h1;
 Za h (fun h2 h => lR h hk (((q.tt 9).a 4 h2).a 5 (Eq.refl true))) (fun h2 h => have q := q.f 4 h2;
 Za h (fun h3 h => lR h hk (((q.tt 5).a 4 h3).b (Eq.refl true))) (fun h3 h => have q := q.f 4 h3;
 Za h (fun h4 h => lR h hk (q.t 1 h4)) (fun h4 h => lG h hk ((q.f 1 h4).o [.pick [3, 1] [1001], .relab 1001 30000000, .pick [1, 3] [30000000]])))))
theorem Zapn (a0 : Zai) {r : Bool} (h : Zabg a0 = some r) : Fn PR 92 [(.agg (bx (Zd2 a0)))] (Zaai r) :=
 Zb h fun y h0 h1 => FnG.of_cfg hT Go.Proofs.Tryz.func92 (by kernel_rfl : _ = some Zaw2) (by kernel_rfl) 38 (by kernel_rfl) (Nat.le_of_ble_eq_true rfl) [.t 2] (by kernel_rfl) (by kernel_rfl) (Zbih r a0 y h0 (Z1 (fun s y h hk => match s with
 | .L0 E0 v3 => Zbds r E0 v3 y h hk) h1))
noncomputable def Zab1 : Code := (Go.Proofs.Tryz.f128.body).getD .skip
noncomputable def Zw0 (r : (List (List UInt8))) : PV := (.osl 5000 (List.map cS r).length)
noncomputable def Zyt (r : (List (List UInt8))) : List (Nat × Blk) := [(5000, .row 1 (List.map cS r))]
noncomputable def Zapo : Zhp → Cfg := fun s => nomatch s
noncomputable def Zas4 : Zhp → PW.St := fun s => nomatch s
abbrev Zapp (r : (List (List UInt8))) (y : Zhp ⊕ (List (List UInt8))) : Prop := Ok PR [.t 0] (Zyt) Zw0 Zapo Zas4 r y
theorem Zan7 (r : (List (List UInt8))) (y : Zhp ⊕ (List (List UInt8))) (h : Z0p = some y) (hk : Zapp r y) : (Cfg.code Zab1 []).HH PR [.t 0] Zyt Zw0 r ⟨2, idx 0 [], []⟩ :=
 lO h hk [5000] (q0.o [.lab 1001, .relab 1001 5000])
theorem Zapq {r : (List (List UInt8))} (h : Zro = some r) : FnG PR 128 [] [] ((Zyt) r) (Zw0 r) :=
 Zb h fun y h0 h1 => FnG.of_cfg hT Go.Proofs.Tryz.func128 (by kernel_rfl : _ = some Zab1) (by kernel_rfl) 2 (by kernel_rfl) (Nat.le_of_ble_eq_true rfl) [.t 0] (by kernel_rfl) (by kernel_rfl) (Zan7 r y h0 (Z1 (fun s _ _ _ => nomatch s) h1))
theorem Zas5 {r : (List (List UInt8))} (h : Zro = some r) : Fn PR 128 [] (wL cS r) :=
 FnG.frozen (Zapq h) (And.intro (Eq.refl (List.map cS r).length) trivial) (by kernel_rfl)
noncomputable def Zahe : Code := (Go.Proofs.Tryz.f127.body).getD .skip
noncomputable def Zzy (r : Int) : PV := (wI r)
noncomputable def Zab2 (r : Int) : List (Nat × Blk) := []
noncomputable def Zamx : Zkb → Cfg
 | .L0 _ _ _ => (nav [1, 0, 1, 4] Zahe []).getD (.done .normal)
noncomputable def Zapr : Zkb → PW.St
 | .L0 v0 v1 v5 => ⟨19, [(0, (wL cS v0)), (1, (wS v1)), (5, (wI v5))], []⟩
abbrev Zamy (r : Int) (y : Zkb ⊕ Int) : Prop := Ok PR [.t 4] (Zab2) Zzy Zamx Zapr r y
theorem Za00 (r : Int) (v0 : (List (List UInt8))) (v1 : (List UInt8)) (v5 : Int) (y : Zkb ⊕ Int) (h : Z2e v0 v1 v5 = some y) (hk : Zamy r y) : (Zamx (.L0 v0 v1 v5)).HH PR [.t 4] Zab2 Zzy r (Zapr (.L0 v0 v1 v5)) := have q := (q0.n (v0.length : Int)).b (Zr cS v0);
 Za h (fun h2 h => have q := (q.t 1 h2).b (Zq cS 1 (fun _ => rfl) v0);
 Zb h fun x3 h4 h => have q := ((q.o [.cs (cS x3)]).b (Z2 h4)).b (Zv cS h4);
 Za h (fun h5 h => lR h hk (q.t 1 h5)) (fun h5 h => lG h hk ((q.f 1 h5).o [.pick [5, 0, 1] [], .pick [0, 1, 5] []]))) (fun h2 h => lR h hk (q.f 1 h2))
theorem Za42 (r : Int) (a0 : (List (List UInt8))) (a1 : (List UInt8)) (y : Zkb ⊕ Int) (h : Zagh a0 a1 = some y) (hk : Zamy r y) : (Cfg.code Zahe []).HH PR [.t 4] Zab2 Zzy r ⟨19, idx 0 [(wL cS a0), (wS a1)], []⟩ :=
 lG h hk (q0.o [.pick [5, 1, 0] [], .pick [0, 1, 5] []])
theorem Zaps (a0 : (List (List UInt8))) (a1 : (List UInt8)) {r : Int} (h : Z7n a0 a1 = some r) : Fn PR 127 [(wL cS a0), (wS a1)] (Zzy r) :=
 Zb h fun y h0 h1 => FnG.of_cfg hT Go.Proofs.Tryz.func127 (by kernel_rfl : _ = some Zahe) (by kernel_rfl) 19 (by kernel_rfl) (Nat.le_of_ble_eq_true rfl) [.t 4] (by kernel_rfl) (by kernel_rfl) (Za42 r a0 a1 y h0 (Z1 (fun s y h hk => match s with
 | .L0 v0 v1 v5 => Za00 r v0 v1 v5 y h hk) h1))
noncomputable def Zafg : Code := (Go.Proofs.Tryz.f129.body).getD .skip
noncomputable def Zyu (r : (List (List UInt8))) : PV := (.osl 5000 (List.map cS r).length)
noncomputable def Z0t (r : (List (List UInt8))) : List (Nat × Blk) := [(5000, .row 1 (List.map cS r))]
noncomputable def Zas6 : Zin → Cfg := fun s => nomatch s
noncomputable def Zaw3 : Zin → PW.St := fun s => nomatch s
abbrev Zas7 (r : (List (List UInt8))) (y : Zin ⊕ (List (List UInt8))) : Prop := Ok PR [.t 0] (Z0t) Zyu Zas6 Zaw3 r y
theorem Zapt (r : (List (List UInt8))) (y : Zin ⊕ (List (List UInt8))) (h : Z2f = some y) (hk : Zas7 r y) : (Cfg.code Zafg []).HH PR [.t 0] Z0t Zyu r ⟨2, idx 0 [], []⟩ :=
 lO h hk [5000] (q0.o [.lab 1001, .relab 1001 5000])
theorem Zas8 {r : (List (List UInt8))} (h : Zp3 = some r) : FnG PR 129 [] [] ((Z0t) r) (Zyu r) :=
 Zb h fun y h0 h1 => FnG.of_cfg hT Go.Proofs.Tryz.func129 (by kernel_rfl : _ = some Zafg) (by kernel_rfl) 2 (by kernel_rfl) (Nat.le_of_ble_eq_true rfl) [.t 0] (by kernel_rfl) (by kernel_rfl) (Zapt r y h0 (Z1 (fun s _ _ _ => nomatch s) h1))
theorem Zab3 {r : (List (List UInt8))} (h : Zp3 = some r) : Fn PR 129 [] (wL cS r) :=
 FnG.frozen (Zas8 h) (And.intro (Eq.refl (List.map cS r).length) trivial) (by kernel_rfl)
noncomputable def Zauw : Code := (Go.Proofs.Tryz.f109.body).getD .skip
noncomputable def Z8i (r : Bool) : PV := (wB r)
noncomputable def Zapu (r : Bool) : List (Nat × Blk) := []
noncomputable def Za89 : Zm4 → Cfg := fun s => nomatch s
noncomputable def Zbdt : Zm4 → PW.St := fun s => nomatch s
abbrev Za9a (r : Bool) (y : Zm4 ⊕ Bool) : Prop := Ok PR [.t 2] (Zapu) Z8i Za89 Zbdt r y
theorem Za43 (r : Bool) (a0 : (List UInt8)) (y : Zm4 ⊕ Bool) (h : Zagi a0 = some y) (hk : Za9a r y) : (Cfg.code Zauw []).HH PR [.t 2] Zapu Z8i r ⟨17, idx 0 [(wS a0)], []⟩ :=
 Zb h fun x1 h2 h => have q := (q0.k x1).b (Zapl a0 h2);
 Za h (fun h3 h => have q := q.t 1 h3;
 Zb h fun x4 h5 h => have q := (((q.o [.call (wL cS x4)]).tt 2).b (Zas5 h5)).a 2 h3;
 Zb h fun x6 h7 h => have q := (((q.o [.call (wI x6)]).tt 2).b (Zaps x4 a0 h7)).a 2 h3;
 Za h (fun h8 h => Zb h fun x9 h10 h => Zb h fun x11 h12 h => lR h hk (((((((((q.t 1 h8).o [.call (wL cS x9)]).tt 2).o [.call (wI x11)]).tt 2).b (Zab3 h10)).a 2 h8).b (Zaps x9 a0 h12)).a 2 h8)) (fun h8 h => lR h hk (q.f 5 h8))) (fun h3 h => lR h hk (((q.ff 10).a 5 h3).a 5 (Eq.refl false)))
theorem Zab4 (a0 : (List UInt8)) {r : Bool} (h : Z1e a0 = some r) : Fn PR 109 [(wS a0)] (Z8i r) :=
 Zb h fun y h0 h1 => FnG.of_cfg hT Go.Proofs.Tryz.func109 (by kernel_rfl : _ = some Zauw) (by kernel_rfl) 17 (by kernel_rfl) (Nat.le_of_ble_eq_true rfl) [.t 2] (by kernel_rfl) (by kernel_rfl) (Za43 r a0 y h0 (Z1 (fun s _ _ _ => nomatch s) h1))
noncomputable def Zapv : Code := (Go.Proofs.Tryz.f110.body).getD .skip
noncomputable def Z64 (r : Bool) : PV := (wB r)
noncomputable def Zalb (r : Bool) : List (Nat × Blk) := []
noncomputable def Zaux : Zno → Cfg
 | .L0 _ _ _ => (nav [1, 0, 1, 4] Zapv []).getD (.done .normal)
noncomputable def Za01 : Zno → PW.St
 | .L0 v0 v1 v5 => ⟨16, [(0, (wI v0)), (1, (wI v1)), (5, (wI v5))], []⟩
abbrev Zauy (r : Bool) (y : Zno ⊕ Bool) : Prop := Ok PR [.t 4] (Zalb) Z64 Zaux Za01 r y
theorem Za9b (r : Bool) (v0 : Int) (v1 : Int) (v5 : Int) (y : Zno ⊕ Bool) (h : Z99 v0 v1 v5 = some y) (hk : Zauy r y) : (Zaux (.L0 v0 v1 v5)).HH PR [.t 4] Zalb Z64 r (Za01 (.L0 v0 v1 v5)) :=
 Za h (fun h1 h => lG h hk (((q0.t 1 h1).o [.pick [5, 0, 1] [], .pick [0, 1, 5] []]).b (show (2 : Int) ≠ 0 by decide))) (fun h1 h => lR h hk ((q0.f 1 h1).b (show (2 : Int) ≠ 0 by decide)))
theorem Zbdu (r : Bool) (a0 : Int) (a1 : Int) (y : Zno ⊕ Bool) (h : Zao2 a0 a1 = some y) (hk : Zauy r y) : (Cfg.code Zapv []).HH PR [.t 4] Zalb Z64 r ⟨16, idx 0 [(wI a0), (wI a1)], []⟩ :=
 lG h hk (q0.o [.pick [5, 1, 0] [], .pick [0, 1, 5] []])
theorem Zalc (a0 : Int) (a1 : Int) {r : Bool} (h : Zaay a0 a1 = some r) : Fn PR 110 [(wI a0), (wI a1)] (Z64 r) :=
 Zb h fun y h0 h1 => FnG.of_cfg hT Go.Proofs.Tryz.func110 (by kernel_rfl : _ = some Zapv) (by kernel_rfl) 16 (by kernel_rfl) (Nat.le_of_ble_eq_true rfl) [.t 4] (by kernel_rfl) (by kernel_rfl) (Zbdu r a0 a1 y h0 (Z1 (fun s y h hk => match s with
 | .L0 v0 v1 v5 => Za9b r v0 v1 v5 y h hk) h1))
noncomputable def Zaw4 : Code := (Go.Proofs.Tryz.f93.body).getD .skip
noncomputable def Zaaj (r : Bool) : PV := (wB r)
noncomputable def Zapw (r : Bool) : List (Nat × Blk) := []
noncomputable def Za02 : Zph → Cfg
 | .L0 _ _ => (nav [1, 1, 0, 1, 4] Zaw4 []).getD (.done .normal)
noncomputable def Za7o : Zph → PW.St
 | .L0 E0 v3 => ⟨80, [(1, (.bptr 30000000 0)), (3, (wI v3))], [(30000000, .box (bx (Zx6 E0)))]⟩
abbrev Za03 (r : Bool) (y : Zph ⊕ Bool) : Prop := Ok PR [.t 2] (Zapw) Zaaj Za02 Za7o r y
theorem Zbdv (r : Bool) (E0 : Zkt) (v3 : Int) (y : Zph ⊕ Bool) (h : Zaey E0 v3 = some y) (hk : Za03 r y) : (Za02 (.L0 E0 v3)).HH PR [.t 2] Zapw Zaaj r (Za7o (.L0 E0 v3)) := have q := (q0.n (E0.Subs.length : Int)).b (Zr cS E0.Subs);
 Za h (fun h2 h => have q := (q.t 1 h2).b (Zq cS 1 (fun _ => rfl) E0.Subs);
 Zb h fun x3 h4 h => have q := ((q.o [.cs (cS x3)]).b (Z2 h4)).b (Zv cS h4);
 Zb h fun x5 h6 h => have q := (q.k x5).b (Zab4 x3 h6);
 Za h (fun h7 h => lR h hk (((q.tt 6).a 5 h7).b (Eq.refl true))) (fun h7 h => have q := q.f 3 h7;
 Za h (fun h8 h => have q := (q.t 5 h8).b (Zq cS 1 (fun _ => rfl) E0.Subs);
 Zb h fun x11 h12 h => have q := ((((((((((((((q.o [.cs (cS x11)]).tt 5).o [.cs (cS x3)]).tt 2).f 1 (Z2 h12)).t 1 (Zv cS h12)).ff 1).a 5 h8).b (Zq cS 1 (fun _ => rfl) E0.Subs)).b (Z2 h4)).b (Zv cS h4)).a 2 h8).b h7).b h8).b h7;
 Za h (fun h13 h => lR h hk (q.t 1 h13)) (fun h13 h => lG h hk ((q.f 1 h13).o [.pick [3, 1] [30000000], .pick [1, 3] [30000000]]))) (fun h8 h => lG h hk (((((((q.ff 16).o [.pick [3, 1] [30000000], .pick [1, 3] [30000000]]).a 12 h8).b h7).b h8).b h7).b (Eq.refl false))))) (fun h2 h => have q := q.f 1 h2;
 Za h (fun h18 h => lR h hk (((q.tt 11).a 4 h18).a 7 (Eq.refl true))) (fun h18 h => have q := q.f 4 h18;
 Za h (fun h19 h => lR h hk (q.t 7 h19)) (fun h19 h => have q := q.f 3 h19;
 Zb h fun x20 h21 h => have q := (((q.k x20).ff 2).b (Zalc E0.Types 1 h21)).a 2 h19;
 Za h (fun h22 h => Zb h fun x23 h24 h => lR h hk (((((((q.t 3 h22).k x23).t 1 (Zalc E0.Types 2 h24)).f 1 h22).t 1 h19).f 1 h22).b h19)) (fun h22 h => lR h hk (((((q.ff 7).a 4 h22).b h19).b h22).b h19)))))
theorem Zbii (r : Bool) (a0 : Zkt) (y : Zph ⊕ Bool) (h : Zawh a0 = some y) (hk : Za03 r y) : (Cfg.code Zaw4 []).HH PR [.t 2] Zapw Zaaj r ⟨80, idx 0 [(.agg (bx (Zx6 a0)))], []⟩ := have q := q0.o [.lab 1001];
 Za h (fun h1 h => lR h hk (((q.tt 18).a 4 h1).a 14 (Eq.refl true))) (fun h1 h => have q := q.f 4 h1;
 Za h (fun h2 h => lR h hk (((q.tt 14).a 4 h2).a 10 (Eq.refl true))) (fun h2 h => have q := q.f 4 h2;
 Za h (fun h3 h => lR h hk (((q.tt 10).a 4 h3).a 6 (Eq.refl true))) (fun h3 h => have q := q.f 4 h3;
 Za h (fun h4 h => lR h hk (((q.tt 6).a 5 h4).b (Eq.refl true))) (fun h4 h => have q := ((((q.f 3 h4).n (a0.Subs.length : Int)).ff 2).b (Zr cS a0.Subs)).a 2 h4;
 Za h (fun h6 h => lR h hk (q.t 1 h6)) (fun h6 h => lG h hk ((q.f 1 h6).o [.pick [3, 1] [1001], .relab 1001 30000000, .pick [1, 3] [30000000]]))))))
theorem Zbnr (a0 : Zkt) {r : Bool} (h : Zaz4 a0 = some r) : Fn PR 93 [(.agg (bx (Zx6 a0)))] (Zaaj r) :=
 Zb h fun y h0 h1 => FnG.of_cfg hT Go.Proofs.Tryz.func93 (by kernel_rfl : _ = some Zaw4) (by kernel_rfl) 80 (by kernel_rfl) (Nat.le_of_ble_eq_true rfl) [.t 2] (by kernel_rfl) (by kernel_rfl) (Zbii r a0 y h0 (Z1 (fun s y h hk => match s with
 | .L0 E0 v3 => Zbdv r E0 v3 y h hk) h1))
noncomputable def Zbdw : Code := (Go.Proofs.Tryz.f94.body).getD .skip
noncomputable def Zald (r : Bool) : PV := (wB r)
noncomputable def Za7p (r : Bool) : List (Nat × Blk) := []
noncomputable def Zblt : Ztd → Cfg := fun s => nomatch s
noncomputable def Zbns : Ztd → PW.St := fun s => nomatch s
abbrev Zblu (r : Bool) (y : Ztd ⊕ Bool) : Prop := Ok PR [.t 2] (Za7p) Zald Zblt Zbns r y
theorem Zbij (r : Bool) (a0 : Int) (y : Ztd ⊕ Bool) (h : Zawi a0 = some y) (hk : Zblu r y) : (Cfg.code Zbdw []).HH PR [.t 2] Za7p Zald r ⟨9, idx 0 [(wI a0)], []⟩ :=
 Za h (fun h1 h => lR h hk (q0.t 3 h1)) (fun h1 h => lR h hk (q0.f 3 h1))
theorem Za7q (a0 : Int) {r : Bool} (h : Zao3 a0 = some r) : Fn PR 94 [(wI a0)] (Zald r) :=
 Zb h fun y h0 h1 => FnG.of_cfg hT Go.Proofs.Tryz.func94 (by kernel_rfl : _ = some Zbdw) (by kernel_rfl) 9 (by kernel_rfl) (Nat.le_of_ble_eq_true rfl) [.t 2] (by kernel_rfl) (by kernel_rfl) (Zbij r a0 y h0 (Z1 (fun s _ _ _ => nomatch s) h1))
noncomputable def Zaiv : Code := (Go.Proofs.Tryz.f95.body).getD .skip
noncomputable def Z0u (r : Bool) : PV := (wB r)
noncomputable def Zafh (r : Bool) : List (Nat × Blk) := []
noncomputable def Zaw5 : Zjh → Cfg := fun s => nomatch s
noncomputable def Za04 : Zjh → PW.St := fun s => nomatch s
abbrev Zaw6 (r : Bool) (y : Zjh ⊕ Bool) : Prop := Ok PR [.t 2] (Zafh) Z0u Zaw5 Za04 r y
theorem Zas9 (r : Bool) (a0 : Zw) (y : Zjh ⊕ Bool) (h : Z48 a0 = some y) (hk : Zaw6 r y) : (Cfg.code Zaiv []).HH PR [.t 2] Zafh Z0u r ⟨8, idx 0 [(.agg (bx (Z8 a0)))], []⟩ :=
 lR h hk (q0.o [.lab 1001])
theorem Za05 (a0 : Zw) {r : Bool} (h : Z2g a0 = some r) : Fn PR 95 [(.agg (bx (Z8 a0)))] (Z0u r) :=
 Zb h fun y h0 h1 => FnG.of_cfg hT Go.Proofs.Tryz.func95 (by kernel_rfl : _ = some Zaiv) (by kernel_rfl) 8 (by kernel_rfl) (Nat.le_of_ble_eq_true rfl) [.t 2] (by kernel_rfl) (by kernel_rfl) (Zas9 r a0 y h0 (Z1 (fun s _ _ _ => nomatch s) h1))
noncomputable def Zahf : Code := (Go.Proofs.Tryz.f130.body).getD .skip
noncomputable def Zzz (r : Bool) : PV := (wB r)
noncomputable def Zab5 (r : Bool) : List (Nat × Blk) := []
noncomputable def Zamz : Zkc → Cfg
 | .L0 _ _ _ => (nav [1, 1, 0, 1, 4] Zahf []).getD (.done .normal)
noncomputable def Zapx : Zkc → PW.St
 | .L0 v0 v1 v7 => ⟨40, [(0, (wI v0)), (1, (wI v1)), (7, (wI v7))], []⟩
abbrev Zam0 (r : Bool) (y : Zkc ⊕ Bool) : Prop := Ok PR [.t 6] (Zab5) Zzz Zamz Zapx r y
theorem Za06 (r : Bool) (v0 : Int) (v1 : Int) (v7 : Int) (y : Zkc ⊕ Bool) (h : Z2h v0 v1 v7 = some y) (hk : Zam0 r y) : (Zamz (.L0 v0 v1 v7)).HH PR [.t 6] Zab5 Zzz r (Zapx (.L0 v0 v1 v7)) :=
 Za h (fun h1 h => have q := (q0.t 1 h1).b (show (2 : Int) ≠ 0 by decide);
 Za h (fun h2 h => have q := (((q.tt 4).a 2 h2).b (show (2 : Int) ≠ 0 by decide)).a 2 h2;
 Za h (fun h3 h => lR h hk (q.t 1 h3)) (fun h3 h => lG h hk (((q.f 1 h3).o [.pick [7, 1, 0] [], .pick [0, 1, 7] []]).a 2 (show (2 : Int) ≠ 0 by decide)))) (fun h2 h => lG h hk (((((q.ff 5).o [.pick [7, 1, 0] [], .pick [0, 1, 7] []]).a 4 h2).b (Eq.refl false)).a 2 (show (2 : Int) ≠ 0 by decide)))) (fun h1 h => lR h hk (q0.f 1 h1))
theorem Za44 (r : Bool) (a0 : Int) (a1 : Int) (a2 : Int) (y : Zkc ⊕ Bool) (h : Zagj a0 a1 a2 = some y) (hk : Zam0 r y) : (Cfg.code Zahf []).HH PR [.t 6] Zab5 Zzz r ⟨40, idx 0 [(wI a0), (wI a1), (wI a2)], []⟩ :=
 Za h (fun h1 h => lR h hk (((q0.tt 12).a 4 h1).a 8 (Eq.refl true))) (fun h1 h => have q := q0.f 4 h1;
 Za h (fun h2 h => lR h hk (((q.tt 8).a 3 h2).a 5 (Eq.refl true))) (fun h2 h => have q := q.f 3 h2;
 Za h (fun h3 h => lR h hk (((q.tt 5).a 4 h3).b (Eq.refl true))) (fun h3 h => have q := q.f 4 h3;
 Za h (fun h4 h => lR h hk (q.t 1 h4)) (fun h4 h => lG h hk ((q.f 1 h4).o [.pick [7, 1, 0] [], .pick [0, 1, 7] []])))))
theorem Zapy (a0 : Int) (a1 : Int) (a2 : Int) {r : Bool} (h : Z7o a0 a1 a2 = some r) : Fn PR 130 [(wI a0), (wI a1), (wI a2)] (Zzz r) :=
 Zb h fun y h0 h1 => FnG.of_cfg hT Go.Proofs.Tryz.func130 (by kernel_rfl : _ = some Zahf) (by kernel_rfl) 40 (by kernel_rfl) (Nat.le_of_ble_eq_true rfl) [.t 6] (by kernel_rfl) (by kernel_rfl) (Za44 r a0 a1 a2 y h0 (Z1 (fun s y h hk => match s with
 | .L0 v0 v1 v7 => Za06 r v0 v1 v7 y h hk) h1))
noncomputable def Zauz : Code := (Go.Proofs.Tryz.f131.body).getD .skip
noncomputable def Z8j (r : Bool) : PV := (wB r)
noncomputable def Zapz (r : Bool) : List (Nat × Blk) := []
noncomputable def Za9c : Zm5 → Cfg := fun s => nomatch s
noncomputable def Zbdx : Zm5 → PW.St := fun s => nomatch s
abbrev Za9d (r : Bool) (y : Zm5 ⊕ Bool) : Prop := Ok PR [.t 2] (Zapz) Z8j Za9c Zbdx r y
theorem Za45 (r : Bool) (a0 : Ze) (y : Zm5 ⊕ Bool) (h : Zagk a0 = some y) (hk : Za9d r y) : (Cfg.code Zauz []).HH PR [.t 2] Zapz Z8j r ⟨29, idx 0 [(.agg (bx (Zjd a0)))], []⟩ := have q := q0.o [.lab 1001];
 Za h (fun h1 h => lR h hk (((q.tt 13).a 4 h1).a 9 (Eq.refl true))) (fun h1 h => have q := q.f 4 h1;
 Za h (fun h2 h => lR h hk (((q.tt 9).a 4 h2).a 5 (Eq.refl true))) (fun h2 h => have q := q.f 4 h2;
 Za h (fun h3 h => lR h hk (((q.tt 5).a 4 h3).b (Eq.refl true))) (fun h3 h => have q := q.f 4 h3;
 Za h (fun h4 h => lR h hk (q.t 1 h4)) (fun h4 h => have q := q.f 1 h4;
 Za h (fun h5 h => lR h hk (q.t 4 h5)) (fun h5 h => lR h hk (q.f 4 h5))))))
theorem Zab6 (a0 : Ze) {r : Bool} (h : Z1f a0 = some r) : Fn PR 131 [(.agg (bx (Zjd a0)))] (Z8j r) :=
 Zb h fun y h0 h1 => FnG.of_cfg hT Go.Proofs.Tryz.func131 (by kernel_rfl : _ = some Zauz) (by kernel_rfl) 29 (by kernel_rfl) (Nat.le_of_ble_eq_true rfl) [.t 2] (by kernel_rfl) (by kernel_rfl) (Za45 r a0 y h0 (Z1 (fun s _ _ _ => nomatch s) h1))
noncomputable def Zaw7 : Code := (Go.Proofs.Tryz.f111.body).getD .skip
noncomputable def Zaak (r : Bool) : PV := (wB r)
noncomputable def Zap0 (r : Bool) : List (Nat × Blk) := []
noncomputable def Za07 : Zpi → Cfg
 | .L0 _ => (nav [1, 1, 1, 1] Zaw7 []).getD (.done .normal)
noncomputable def Za7r : Zpi → PW.St
 | .L0 E0 => ⟨87, [(1, (.bptr 30000000 0))], [(30000000, .box (bx (Zx E0)))]⟩
abbrev Za08 (r : Bool) (y : Zpi ⊕ Bool) : Prop := Ok PR [.t 2] (Zap0) Zaak Za07 Za7r r y
theorem Zab7 (r : Bool) (E0 : Zi) (y : Zpi ⊕ Bool) (h : Z1g E0 = some y) (hk : Za08 r y) : (Za07 (.L0 E0)).HH PR [.t 2] Zap0 Zaak r (Za7r (.L0 E0)) :=
 Zb h fun x1 h2 h => have q := (q0.k x1).b (Zab6 E0.Power h2);
 Za h (fun h3 h => have q := q.t 3 h3;
 Zb h fun x4 h5 h => have q := ((q.k x4).t 1 (Zab6 E0.Tough h5)).b h3;
 Za h (fun h6 h => Zb h fun x7 h8 h => lR h hk ((((q.t 3 h6).k x7).t 1 (Zab6 E0.Value h8)).b h6)) (fun h6 h => lR h hk (q.f 4 h6))) (fun h3 h => lR h hk (((q.ff 8).a 4 h3).a 4 (Eq.refl false)))
theorem Zbik (r : Bool) (a0 : Zi) (y : Zpi ⊕ Bool) (h : Zawj a0 = some y) (hk : Za08 r y) : (Cfg.code Zaw7 []).HH PR [.t 2] Zap0 Zaak r ⟨87, idx 0 [(.agg (bx (Zx a0)))], []⟩ := have q := q0.o [.lab 1001];
 Za h (fun h1 h => lR h hk (((q.tt 29).a 4 h1).a 25 (Eq.refl true))) (fun h1 h => have q := q.f 4 h1;
 Za h (fun h2 h => lR h hk (((q.tt 25).a 4 h2).a 21 (Eq.refl true))) (fun h2 h => have q := q.f 4 h2;
 Za h (fun h3 h => lR h hk (((q.tt 21).a 4 h3).a 17 (Eq.refl true))) (fun h3 h => have q := q.f 4 h3;
 Za h (fun h4 h => lR h hk (((q.tt 17).a 4 h4).a 13 (Eq.refl true))) (fun h4 h => have q := q.f 4 h4;
 Za h (fun h5 h => lR h hk (((q.tt 13).a 4 h5).a 9 (Eq.refl true))) (fun h5 h => have q := q.f 4 h5;
 Za h (fun h6 h => lR h hk (((q.tt 9).a 4 h6).a 5 (Eq.refl true))) (fun h6 h => have q := q.f 4 h6;
 Za h (fun h7 h => lR h hk (((q.tt 5).a 4 h7).b (Eq.refl true))) (fun h7 h => have q := q.f 4 h7;
 Za h (fun h8 h => lR h hk (q.t 1 h8)) (fun h8 h => have q := q.f 1 h8;
 Zb h fun x9 h10 h => have q := (q.k x9).b (Zapy a0.Types a0.NotTypes 63 h10);
 Za h (fun h11 h => lR h hk (((q.tt 8).a 7 h11).b (Eq.refl true))) (fun h11 h => have q := q.f 5 h11;
 Zb h fun x12 h13 h => have q := (((q.k x12).ff 2).b (Zapy a0.Colors a0.NotColors 31 h13)).a 2 h11;
 Za h (fun h14 h => lR h hk (q.t 1 h14)) (fun h14 h => have q := q.f 1 h14;
 Za h (fun h15 h => have q := q.t 3 h15;
 Zb h fun x16 h17 h => have q := (((q.k x16).tt 2).b (Zab4 a0.Sub h17)).a 2 h15;
 Za h (fun h18 h => lR h hk (((q.tt 9).a 4 h18).a 5 (Eq.refl true))) (fun h18 h => have q := q.f 4 h18;
 Za h (fun h19 h => lR h hk (((q.tt 5).a 4 h19).b (Eq.refl true))) (fun h19 h => have q := q.f 4 h19;
 Za h (fun h20 h => lR h hk (q.t 1 h20)) (fun h20 h => lJ (Zab7 r a0 _ h hk) ((q.f 1 h20).o [.stopAt 0, .pick [1] [1001], .relab 1001 30000000, .pick [1] [30000000]]))))) (fun h15 h => have q := ((q.ff 9).a 5 h15).a 4 (Eq.refl false);
 Za h (fun h21 h => lR h hk (((q.tt 5).a 4 h21).b (Eq.refl true))) (fun h21 h => have q := q.f 4 h21;
 Za h (fun h22 h => lR h hk (q.t 1 h22)) (fun h22 h => lJ (Zab7 r a0 _ h hk) ((q.f 1 h22).o [.stopAt 0, .pick [1] [1001], .relab 1001 30000000, .pick [1] [30000000]]))))))))))))))
theorem Znu (a0 : Zi) {r : Bool} (h : Zqc a0 = some r) : Fn PR 111 [(.agg (bx (Zx a0)))] (Zaak r) :=
 Zb h fun y h0 h1 => FnG.of_cfg hT Go.Proofs.Tryz.func111 (by kernel_rfl : _ = some Zaw7) (by kernel_rfl) 87 (by kernel_rfl) (Nat.le_of_ble_eq_true rfl) [.t 2] (by kernel_rfl) (by kernel_rfl) (Zbik r a0 y h0 (Z1 (fun s y h hk => match s with
 | .L0 E0 => Zab7 r E0 y h hk) h1))
noncomputable def Zaal : Code := (Go.Proofs.Tryz.f141.body).getD .skip
noncomputable def Zw1 (r : Zh) : PV := (.agg (bx (Zp r)))
noncomputable def Z65 (r : Zh) : List (Nat × Blk) := []
noncomputable def Zab8 : Zji → Cfg
 | .L0 _ _ _ _ => (nav [1, 1, 1, 0, 1, 4, 1] Zaal []).getD (.done .normal)
 | .L1 _ _ _ _ => (nav [1, 1, 1, 0, 1, 4, 1, 3, 1] Zaal []).getD (.done .normal)
noncomputable def Zahg : Zji → PW.St
 | .L0 E0 E1 v7 v8 => ⟨30, [(1, (.bptr 30000000 0)), (2, (.bptr 30000001 0)), (7, (wI v7)), (8, (wB v8))], [(30000000, .box (bx (Zp E0))), (30000001, .box (bx (Zp E1)))]⟩
 | .L1 E0 E1 v7 v16 => ⟨30, [(1, (.bptr 30000000 0)), (2, (.bptr 30000001 0)), (7, (wI v7)), (16, (wB v16))], [(30000000, .box (bx (Zp E0))), (30000001, .box (bx (Zp E1)))]⟩
abbrev Zab9 (r : Zh) (y : Zji ⊕ Zh) : Prop := Ok PR [.c 2 136 true 20] (Z65) Zw1 Zab8 Zahg r y
theorem Z5t (r : Zh) (E0 : Zh) (E1 : Zh) (v7 : Int) (v16 : Bool) (y : Zji ⊕ Zh) (h : Zu0 E0 E1 v7 v16 = some y) (hk : Zab9 r y) : (Zab8 (.L1 E0 E1 v7 v16)).HH PR [.c 2 136 true 20] Z65 Zw1 r (Zahg (.L1 E0 E1 v7 v16)) :=
 Za h (fun h1 h => lR h hk (q0.t 1 h1)) (fun h1 h => have q := q0.f 1 h1;
 Za h (fun h2 h => lR h hk (q.t 1 h2)) (fun h2 h => have q := q.f 1 h2;
 Za h (fun h3 h => lR h hk (q.t 2 h3)) (fun h3 h => have q := q.f 1 h3;
 Za h (fun h4 h => lR h hk (q.t 1 h4)) (fun h4 h => lR h hk (q.f 1 h4)))))
theorem Zm0 (r : Zh) (E0 : Zh) (E1 : Zh) (v7 : Int) (v8 : Bool) (y : Zji ⊕ Zh) (h : Zle E0 E1 v7 v8 = some y) (hk : Zab9 r y) : (Zab8 (.L0 E0 E1 v7 v8)).HH PR [.c 2 136 true 20] Z65 Zw1 r (Zahg (.L0 E0 E1 v7 v8)) :=
 Za h (fun h1 h => lR h hk (q0.t 1 h1)) (fun h1 h => have q := q0.f 1 h1;
 Za h (fun h2 h => lJ (Z5t r E0 E1 v7 (v7 == 4) _ h hk) ((q.t 1 h2).o [.stopAt 0, .pick [16, 1, 2, 7] [30000000, 30000001], .pick [1, 2, 7, 16] [30000000, 30000001]])) (fun h2 h => lJ (Z5t r E0 E1 v7 (v7 == 5) _ h hk) ((q.f 1 h2).o [.stopAt 0, .pick [16, 1, 2, 7] [30000000, 30000001], .pick [1, 2, 7, 16] [30000000, 30000001]])))
theorem Za9e (r : Zh) (a0 : Zh) (y : Zji ⊕ Zh) (h : Zajx a0 = some y) (hk : Zab9 r y) : (Cfg.code Zaal []).HH PR [.c 2 136 true 20] Z65 Zw1 r ⟨30, idx 0 [(.agg (bx (Zp a0)))], []⟩ := have q := q0.o [.lab 1001, .lab 1002];
 Za h (fun h1 h => lJ (Zm0 r (⟨0, a0.N, a0.M, a0.Sub, a0.Filter⟩ : Zh) (⟨0, 0, 0, ([] : List UInt8), (⟨0, 0, 0, 0, 0, 0, 0, ([] : List UInt8), 0, 0, (⟨0, 0⟩ : Ze), (⟨0, 0⟩ : Ze), (⟨0, 0⟩ : Ze)⟩ : Zi)⟩ : Zh) a0.Kind (a0.Kind == 2) _ h hk) ((q.t 1 h1).o [.stopAt 0, .pick [8, 7, 2, 1] [1001, 1002], .relab 1001 30000000, .relab 1002 30000001, .pick [1, 2, 7, 8] [30000000, 30000001]])) (fun h1 h => have q := q.f 1 h1;
 Za h (fun h2 h => lJ (Zm0 r (⟨0, a0.N, a0.M, a0.Sub, a0.Filter⟩ : Zh) (⟨0, 0, 0, ([] : List UInt8), (⟨0, 0, 0, 0, 0, 0, 0, ([] : List UInt8), 0, 0, (⟨0, 0⟩ : Ze), (⟨0, 0⟩ : Ze), (⟨0, 0⟩ : Ze)⟩ : Zi)⟩ : Zh) a0.Kind (a0.Kind == 3) _ h hk) ((q.t 1 h2).o [.stopAt 0, .pick [8, 7, 2, 1] [1001, 1002], .relab 1001 30000000, .relab 1002 30000001, .pick [1, 2, 7, 8] [30000000, 30000001]])) (fun h2 h => have q := q.f 1 h2;
 Za h (fun h3 h => lJ (Zm0 r (⟨0, a0.N, a0.M, a0.Sub, a0.Filter⟩ : Zh) (⟨0, 0, 0, ([] : List UInt8), (⟨0, 0, 0, 0, 0, 0, 0, ([] : List UInt8), 0, 0, (⟨0, 0⟩ : Ze), (⟨0, 0⟩ : Ze), (⟨0, 0⟩ : Ze)⟩ : Zi)⟩ : Zh) a0.Kind (a0.Kind == 6) _ h hk) ((q.t 1 h3).o [.stopAt 0, .pick [8, 7, 2, 1] [1001, 1002], .relab 1001 30000000, .relab 1002 30000001, .pick [1, 2, 7, 8] [30000000, 30000001]])) (fun h3 h => have q := q.f 1 h3;
 Za h (fun h4 h => lJ (Zm0 r (⟨0, a0.N, a0.M, a0.Sub, a0.Filter⟩ : Zh) (⟨0, 0, 0, ([] : List UInt8), (⟨0, 0, 0, 0, 0, 0, 0, ([] : List UInt8), 0, 0, (⟨0, 0⟩ : Ze), (⟨0, 0⟩ : Ze), (⟨0, 0⟩ : Ze)⟩ : Zi)⟩ : Zh) a0.Kind (a0.Kind == 7) _ h hk) ((q.t 1 h4).o [.stopAt 0, .pick [8, 7, 2, 1] [1001, 1002], .relab 1001 30000000, .relab 1002 30000001, .pick [1, 2, 7, 8] [30000000, 30000001]])) (fun h4 h => have q := q.f 1 h4;
 Za h (fun h5 h => lJ (Zm0 r (⟨0, a0.N, a0.M, a0.Sub, a0.Filter⟩ : Zh) (⟨0, 0, 0, ([] : List UInt8), (⟨0, 0, 0, 0, 0, 0, 0, ([] : List UInt8), 0, 0, (⟨0, 0⟩ : Ze), (⟨0, 0⟩ : Ze), (⟨0, 0⟩ : Ze)⟩ : Zi)⟩ : Zh) a0.Kind (a0.Kind == 8) _ h hk) ((q.t 1 h5).o [.stopAt 0, .pick [8, 7, 2, 1] [1001, 1002], .relab 1001 30000000, .relab 1002 30000001, .pick [1, 2, 7, 8] [30000000, 30000001]])) (fun h5 h => lJ (Zm0 r (⟨0, a0.N, a0.M, a0.Sub, a0.Filter⟩ : Zh) (⟨0, 0, 0, ([] : List UInt8), (⟨0, 0, 0, 0, 0, 0, 0, ([] : List UInt8), 0, 0, (⟨0, 0⟩ : Ze), (⟨0, 0⟩ : Ze), (⟨0, 0⟩ : Ze)⟩ : Zi)⟩ : Zh) a0.Kind (a0.Kind == 9) _ h hk) ((q.f 1 h5).o [.stopAt 0, .pick [8, 7, 2, 1] [1001, 1002], .relab 1001 30000000, .relab 1002 30000001, .pick [1, 2, 7, 8] [30000000, 30000001]]))))))
theorem Zbil (a0 : Zh) {r : Zh} (h : Zajy a0 = some r) : Fn PR 141 [(.agg (bx (Zp a0)))] (Zw1 r) :=
 Zb h fun y h0 h1 => FnG.of_cfg hT Go.Proofs.Tryz.func141 (by kernel_rfl : _ = some Zaal) (by kernel_rfl) 30 (by kernel_rfl) (Nat.le_of_ble_eq_true rfl) [.c 2 136 true 20] (by kernel_rfl) (by kernel_rfl) (Za9e r a0 y h0 (Z1 (fun s y h hk => match s with
 | .L0 E0 E1 v7 v8 => Zm0 r E0 E1 v7 v8 y h hk
 | .L1 E0 E1 v7 v16 => Z5t r E0 E1 v7 v16 y h hk) h1))
noncomputable def Zau0 : Code := (Go.Proofs.Tryz.f142.body).getD .skip
noncomputable def Z8k (r : Bool) : PV := (wB r)
noncomputable def Zap1 (r : Bool) : List (Nat × Blk) := []
noncomputable def Za9f : Zm6 → Cfg := fun s => nomatch s
noncomputable def Zbdy : Zm6 → PW.St := fun s => nomatch s
abbrev Za9g (r : Bool) (y : Zm6 ⊕ Bool) : Prop := Ok PR [.t 2] (Zap1) Z8k Za9f Zbdy r y
theorem Za46 (r : Bool) (a0 : Int) (y : Zm6 ⊕ Bool) (h : Zagl a0 = some y) (hk : Za9g r y) : (Cfg.code Zau0 []).HH PR [.t 2] Zap1 Z8k r ⟨14, idx 0 [(wI a0)], []⟩ :=
 Za h (fun h1 h => have q := q0.t 3 h1;
 Za h (fun h2 h => lR h hk (q.t 4 h2)) (fun h2 h => lR h hk (q.f 4 h2))) (fun h1 h => lR h hk (((q0.ff 7).a 3 h1).a 4 (Eq.refl false)))
theorem Zbdz (a0 : Int) {r : Bool} (h : Zaez a0 = some r) : Fn PR 142 [(wI a0)] (Z8k r) :=
 Zb h fun y h0 h1 => FnG.of_cfg hT Go.Proofs.Tryz.func142 (by kernel_rfl : _ = some Zau0) (by kernel_rfl) 14 (by kernel_rfl) (Nat.le_of_ble_eq_true rfl) [.t 2] (by kernel_rfl) (by kernel_rfl) (Za46 r a0 y h0 (Z1 (fun s _ _ _ => nomatch s) h1))
noncomputable def Zaca : Code := (Go.Proofs.Tryz.f124.body).getD .skip
noncomputable def Zyd (r : Bool) : PV := (wB r)
noncomputable def Z7w (r : Bool) : List (Nat × Blk) := []
noncomputable def Zaam : Zku → Cfg
 | .L0 _ _ _ => (nav [1, 1, 0, 1, 4, 1] Zaca []).getD (.done .normal)
 | .L1 _ _ _ => (nav [1, 1, 0, 1, 4, 1, 3, 1] Zaca []).getD (.done .normal)
 | .L2 _ _ _ => (nav [1, 1, 0, 1, 4, 1, 3, 1, 3, 1, 3, 1, 3, 1] Zaca []).getD (.done .normal)
noncomputable def Zafi : Zku → PW.St
 | .L0 E0 v18 v19 => ⟨107, [(1, (.bptr 30000000 0)), (18, (wI v18)), (19, (wB v19))], [(30000000, .box (bx (Zp E0)))]⟩
 | .L1 E0 v18 v25 => ⟨107, [(1, (.bptr 30000000 0)), (18, (wI v18)), (25, (wB v25))], [(30000000, .box (bx (Zp E0)))]⟩
 | .L2 E0 v18 v51 => ⟨107, [(1, (.bptr 30000000 0)), (18, (wI v18)), (51, (wB v51))], [(30000000, .box (bx (Zp E0)))]⟩
abbrev Zaan (r : Bool) (y : Zku ⊕ Bool) : Prop := Ok PR [.t 2] (Z7w) Zyd Zaam Zafi r y
theorem Zacb (r : Bool) (E0 : Zh) (v18 : Int) (v51 : Bool) (y : Zku ⊕ Bool) (h : Z1h E0 v18 v51 = some y) (hk : Zaan r y) : (Zaam (.L2 E0 v18 v51)).HH PR [.t 2] Z7w Zyd r (Zafi (.L2 E0 v18 v51)) :=
 Za h (fun h1 h => have q := q0.t 1 h1;
 Za h (fun h2 h => lR h hk (q.t 4 h2)) (fun h2 h => lR h hk (q.f 4 h2))) (fun h1 h => have q := q0.f 1 h1;
 Za h (fun h3 h => Zb h fun x4 h5 h => lR h hk (((q.t 1 h3).k x4).b (Znu E0.Filter h5))) (fun h3 h => have q := q.f 1 h3;
 Za h (fun h6 h => have q := q.t 1 h6;
 Za h (fun h7 h => have q := q.t 4 h7;
 Za h (fun h8 h => have q := q.t 4 h8;
 Za h (fun h9 h => lR h hk (q.t 4 h9)) (fun h9 h => lR h hk (q.f 4 h9))) (fun h8 h => lR h hk (((q.ff 8).a 4 h8).a 4 (Eq.refl false)))) (fun h7 h => lR h hk (((q.ff 12).a 4 h7).a 8 (Eq.refl false)))) (fun h6 h => have q := q.f 1 h6;
 Za h (fun h10 h => have q := q.t 1 h10;
 Za h (fun h11 h => have q := q.t 4 h11;
 Za h (fun h12 h => have q := q.t 4 h12;
 Za h (fun h13 h => lR h hk (q.t 4 h13)) (fun h13 h => lR h hk (q.f 4 h13))) (fun h12 h => lR h hk (((q.ff 8).a 4 h12).a 4 (Eq.refl false)))) (fun h11 h => lR h hk (((q.ff 12).a 4 h11).a 8 (Eq.refl false)))) (fun h10 h => lR h hk (q.f 1 h10)))))
theorem Zacc (r : Bool) (E0 : Zh) (v18 : Int) (v25 : Bool) (y : Zku ⊕ Bool) (h : Z1i E0 v18 v25 = some y) (hk : Zaan r y) : (Zaam (.L1 E0 v18 v25)).HH PR [.t 2] Z7w Zyd r (Zafi (.L1 E0 v18 v25)) :=
 Za h (fun h1 h => Zb h fun x2 h3 h => lR h hk (((q0.t 1 h1).k x2).b (Zab4 E0.Sub h3))) (fun h1 h => have q := q0.f 1 h1;
 Za h (fun h4 h => have q := q.t 1 h4;
 Za h (fun h5 h => lR h hk (q.t 4 h5)) (fun h5 h => lR h hk (q.f 4 h5))) (fun h4 h => have q := q.f 1 h4;
 Za h (fun h6 h => have q := q.t 1 h6;
 Za h (fun h7 h => lR h hk (q.t 4 h7)) (fun h7 h => lR h hk (q.f 4 h7))) (fun h6 h => have q := q.f 1 h6;
 Za h (fun h8 h => lJ (Zacb r E0 v18 (v18 == 8) _ h hk) ((q.t 1 h8).o [.stopAt 0, .pick [51, 1, 18] [30000000], .pick [1, 18, 51] [30000000]])) (fun h8 h => lJ (Zacb r E0 v18 (v18 == 9) _ h hk) ((q.f 1 h8).o [.stopAt 0, .pick [51, 1, 18] [30000000], .pick [1, 18, 51] [30000000]])))))
theorem Zacd (r : Bool) (E0 : Zh) (v18 : Int) (v19 : Bool) (y : Zku ⊕ Bool) (h : Z1j E0 v18 v19 = some y) (hk : Zaan r y) : (Zaam (.L0 E0 v18 v19)).HH PR [.t 2] Z7w Zyd r (Zafi (.L0 E0 v18 v19)) :=
 Za h (fun h1 h => Zb h fun x2 h3 h => lR h hk (((q0.t 1 h1).k x2).b (Zbdz E0.N h3))) (fun h1 h => have q := q0.f 1 h1;
 Za h (fun h4 h => lJ (Zacc r E0 v18 (v18 == 4) _ h hk) ((q.t 1 h4).o [.stopAt 0, .pick [25, 1, 18] [30000000], .pick [1, 18, 25] [30000000]])) (fun h4 h => lJ (Zacc r E0 v18 (v18 == 5) _ h hk) ((q.f 1 h4).o [.stopAt 0, .pick [25, 1, 18] [30000000], .pick [1, 18, 25] [30000000]])))
theorem Zbim (r : Bool) (a0 : Zh) (y : Zku ⊕ Bool) (h : Zawk a0 = some y) (hk : Zaan r y) : (Cfg.code Zaca []).HH PR [.t 2] Z7w Zyd r ⟨107, idx 0 [(.agg (bx (Zp a0)))], []⟩ := have q := q0.o [.lab 1001];
 Za h (fun h1 h => lR h hk (((q.tt 10).a 4 h1).a 6 (Eq.refl true))) (fun h1 h => have q := q.f 4 h1;
 Za h (fun h2 h => lR h hk (((q.tt 6).a 5 h2).b (Eq.refl true))) (fun h2 h => have q := q.f 2 h2;
 Zb h fun x3 h4 h => have q := (((q.o [.call (.agg (bx (Zp x3)))]).ff 3).b (Zbil a0 h4)).a 3 h2;
 Za h (fun h5 h => lR h hk (q.t 1 h5)) (fun h5 h => have q := q.f 1 h5;
 Za h (fun h6 h => lJ (Zacd r a0 a0.Kind (a0.Kind == 2) _ h hk) ((q.t 1 h6).o [.stopAt 0, .pick [19, 18, 1] [1001], .relab 1001 30000000, .pick [1, 18, 19] [30000000]])) (fun h6 h => lJ (Zacd r a0 a0.Kind (a0.Kind == 3) _ h hk) ((q.f 1 h6).o [.stopAt 0, .pick [19, 18, 1] [1001], .relab 1001 30000000, .pick [1, 18, 19] [30000000]])))))
theorem Za7s (a0 : Zh) {r : Bool} (h : Zao4 a0 = some r) : Fn PR 124 [(.agg (bx (Zp a0)))] (Zyd r) :=
 Zb h fun y h0 h1 => FnG.of_cfg hT Go.Proofs.Tryz.func124 (by kernel_rfl : _ = some Zaca) (by kernel_rfl) 107 (by kernel_rfl) (Nat.le_of_ble_eq_true rfl) [.t 2] (by kernel_rfl) (by kernel_rfl) (Zbim r a0 y h0 (Z1 (fun s y h hk => match s with
 | .L0 E0 v18 v19 => Zacd r E0 v18 v19 y h hk
 | .L1 E0 v18 v25 => Zacc r E0 v18 v25 y h hk
 | .L2 E0 v18 v51 => Zacb r E0 v18 v51 y h hk) h1))
noncomputable def Zace : Code := (Go.Proofs.Tryz.f157.body).getD .skip
noncomputable def Zye (r : (List UInt8)) : PV := (wS r)
noncomputable def Z8l (r : (List UInt8)) : List (Nat × Blk) := []
noncomputable def Zaiw : Zi5 → Cfg
 | .L0 _ _ _ _ _ => (nav [1, 1, 0, 1, 4] Zace []).getD (.done .normal)
noncomputable def Zam1 : Zi5 → PW.St
 | .L0 v0 v1 v2 v7 v8 => ⟨30, [(0, (wL cS v0)), (1, (wI v1)), (2, (wS v2)), (7, (wS v7)), (8, (wI v8))], []⟩
abbrev Zaix (r : (List UInt8)) (y : Zi5 ⊕ (List UInt8)) : Prop := Ok PR [.t 6] (Z8l) Zye Zaiw Zam1 r y
theorem Zaw8 (r : (List UInt8)) (v0 : (List (List UInt8))) (v1 : Int) (v2 : (List UInt8)) (v7 : (List UInt8)) (v8 : Int) (y : Zi5 ⊕ (List UInt8)) (h : Zzq v0 v1 v2 v7 v8 = some y) (hk : Zaix r y) : (Zaiw (.L0 v0 v1 v2 v7 v8)).HH PR [.t 6] Z8l Zye r (Zam1 (.L0 v0 v1 v2 v7 v8)) := have q := (q0.n (v0.length : Int)).b (Zr cS v0);
 Za h (fun h2 h => have q := q.t 1 h2;
 Zb h fun x3 h4 h => have q := (q.k x3).b (Zalc v1 v8 h4);
 Za h (fun h5 h => have q := q.t 1 h5;
 Za h (fun h6 h => Zb h fun x8 h9 h => Zb h fun x10 h11 h => Zb h fun x13 h14 h => lG h hk (((((((q.t 1 h6).o [.cs (cS x10), .pick [8, 7, 0, 1, 2] [], .pick [0, 1, 2, 7, 8] []]).b (Zcc h9)).b (Zq cS 1 (fun _ => rfl) v0)).b (Z2 h11)).b (Zv cS h11)).b (Zcc h14))) (fun h6 h => Zb h fun x17 h18 h => Zb h fun x20 h21 h => lG h hk ((((((q.f 1 h6).o [.cs (cS x17), .pick [8, 7, 0, 1, 2] [], .pick [0, 1, 2, 7, 8] []]).b (Zq cS 1 (fun _ => rfl) v0)).b (Z2 h18)).b (Zv cS h18)).b (Zcc h21)))) (fun h5 h => lG h hk ((q.f 1 h5).o [.pick [8, 0, 1, 2, 7] [], .pick [0, 1, 2, 7, 8] []]))) (fun h2 h => lR h hk (q.f 1 h2))
theorem Za09 (r : (List UInt8)) (a0 : (List (List UInt8))) (a1 : Int) (a2 : (List UInt8)) (y : Zi5 ⊕ (List UInt8)) (h : Zabh a0 a1 a2 = some y) (hk : Zaix r y) : (Cfg.code Zace []).HH PR [.t 6] Z8l Zye r ⟨30, idx 0 [(wL cS a0), (wI a1), (wS a2)], []⟩ :=
 lG h hk (q0.o [.pick [8, 7, 2, 1, 0] [], .pick [0, 1, 2, 7, 8] []])
theorem Za9h (a0 : (List (List UInt8))) (a1 : Int) (a2 : (List UInt8)) {r : (List UInt8)} (h : Zaaa a0 a1 a2 = some r) : Fn PR 157 [(wL cS a0), (wI a1), (wS a2)] (Zye r) :=
 Zb h fun y h0 h1 => FnG.of_cfg hT Go.Proofs.Tryz.func157 (by kernel_rfl : _ = some Zace) (by kernel_rfl) 30 (by kernel_rfl) (Nat.le_of_ble_eq_true rfl) [.t 6] (by kernel_rfl) (by kernel_rfl) (Za09 r a0 a1 a2 y h0 (Z1 (fun s y h hk => match s with
 | .L0 v0 v1 v2 v7 v8 => Zaw8 r v0 v1 v2 v7 v8 y h hk) h1))
noncomputable def Zafj : Code := (Go.Proofs.Tryz.f143.body).getD .skip
noncomputable def Zyv (r : (List UInt8)) : PV := (wS r)
noncomputable def Zacf (r : (List UInt8)) : List (Nat × Blk) := []
noncomputable def Zata : Zio → Cfg := fun s => nomatch s
noncomputable def Zaw9 : Zio → PW.St := fun s => nomatch s
abbrev Zatb (r : (List UInt8)) (y : Zio ⊕ (List UInt8)) : Prop := Ok PR [.t 2] (Zacf) Zyv Zata Zaw9 r y
theorem Zap2 (r : (List UInt8)) (a0 : Int) (y : Zio ⊕ (List UInt8)) (h : Z2i a0 = some y) (hk : Zatb r y) : (Cfg.code Zafj []).HH PR [.t 2] Zacf Zyv r ⟨12, idx 0 [(wI a0)], []⟩ :=
 Za h (fun h1 h => lR h hk (((q0.tt 4).a 3 h1).b (Eq.refl true))) (fun h1 h => have q := q0.f 3 h1;
 Za h (fun h2 h => lR h hk (q.t 1 h2)) (fun h2 h => Zb h fun x3 h4 h => Zb h fun x5 h6 h => lR h hk ((((q.f 1 h2).o [.call (wL cS x3), .call (wS x5)]).b (Zab3 h4)).b (Za9h x3 a0 ([43] : List UInt8) h6))))
theorem Z0v (a0 : Int) {r : (List UInt8)} (h : Zp4 a0 = some r) : Fn PR 143 [(wI a0)] (Zyv r) :=
 Zb h fun y h0 h1 => FnG.of_cfg hT Go.Proofs.Tryz.func143 (by kernel_rfl : _ = some Zafj) (by kernel_rfl) 12 (by kernel_rfl) (Nat.le_of_ble_eq_true rfl) [.t 2] (by kernel_rfl) (by kernel_rfl) (Zap2 r a0 y h0 (Z1 (fun s _ _ _ => nomatch s) h1))
noncomputable def Zbd0 : Code := (Go.Proofs.Tryz.f158.body).getD .skip
noncomputable def Zale (r : Bool) : PV := (wB r)
noncomputable def Za7t (r : Bool) : List (Nat × Blk) := []
noncomputable def Zblv : Zte → Cfg := fun s => nomatch s
noncomputable def Zbnt : Zte → PW.St := fun s => nomatch s
abbrev Zblw (r : Bool) (y : Zte ⊕ Bool) : Prop := Ok PR [.t 2] (Za7t) Zale Zblv Zbnt r y
theorem Zbin (r : Bool) (a0 : Int) (y : Zte ⊕ Bool) (h : Zawl a0 = some y) (hk : Zblw r y) : (Cfg.code Zbd0 []).HH PR [.t 2] Za7t Zale r ⟨9, idx 0 [(wI a0)], []⟩ :=
 Za h (fun h1 h => lR h hk (q0.t 3 h1)) (fun h1 h => lR h hk (q0.f 3 h1))
theorem Zbnu (a0 : Int) {r : Bool} (h : Zaz6 a0 = some r) : Fn PR 158 [(wI a0)] (Zale r) :=
 Zb h fun y h0 h1 => FnG.of_cfg hT Go.Proofs.Tryz.func158 (by kernel_rfl : _ = some Zbd0) (by kernel_rfl) 9 (by kernel_rfl) (Nat.le_of_ble_eq_true rfl) [.t 2] (by kernel_rfl) (by kernel_rfl) (Zbin r a0 y h0 (Z1 (fun s _ _ _ => nomatch s) h1))
noncomputable def Za1a : Code := (Go.Proofs.Tryz.f159.body).getD .skip
noncomputable def Zacg (r : (List UInt8)) : PV := (wS r)
noncomputable def Zau1 (r : (List UInt8)) : List (Nat × Blk) := []
noncomputable def Zbd1 : Zok → Cfg := fun s => nomatch s
noncomputable def Zbio : Zok → PW.St := fun s => nomatch s
abbrev Zbd2 (r : (List UInt8)) (y : Zok ⊕ (List UInt8)) : Prop := Ok PR [.t 2] (Zau1) Zacg Zbd1 Zbio r y
theorem Za9i (r : (List UInt8)) (a0 : Int) (y : Zok ⊕ (List UInt8)) (h : Zajz a0 = some y) (hk : Zbd2 r y) : (Cfg.code Za1a []).HH PR [.t 2] Zau1 Zacg r ⟨14, idx 0 [(wI a0)], []⟩ :=
 Za h (fun h1 h => lR h hk (q0.t 1 h1)) (fun h1 h => have q := q0.f 1 h1;
 Za h (fun h2 h => lR h hk (q.t 1 h2)) (fun h2 h => have q := q.f 1 h2;
 Za h (fun h3 h => lR h hk (q.t 1 h3)) (fun h3 h => have q := q.f 1 h3;
 Za h (fun h4 h => lR h hk (q.t 1 h4)) (fun h4 h => have q := q.f 1 h4;
 Za h (fun h5 h => lR h hk (q.t 1 h5)) (fun h5 h => lR h hk (q.f 1 h5))))))
theorem Z66 (a0 : Int) {r : (List UInt8)} (h : Z0q a0 = some r) : Fn PR 159 [(wI a0)] (Zacg r) :=
 Zb h fun y h0 h1 => FnG.of_cfg hT Go.Proofs.Tryz.func159 (by kernel_rfl : _ = some Za1a) (by kernel_rfl) 14 (by kernel_rfl) (Nat.le_of_ble_eq_true rfl) [.t 2] (by kernel_rfl) (by kernel_rfl) (Za9i r a0 y h0 (Z1 (fun s _ _ _ => nomatch s) h1))
noncomputable def Zalf : Code := (Go.Proofs.Tryz.f144.body).getD .skip
noncomputable def Z3b (r : (List UInt8)) : PV := (wS r)
noncomputable def Zahh (r : (List UInt8)) : List (Nat × Blk) := []
noncomputable def Zap3 : Zlk → Cfg
 | .L0 _ _ _ => (nav [1, 1, 1, 1, 0, 1, 4] Zalf []).getD (.done .normal)
noncomputable def Zau2 : Zlk → PW.St
 | .L0 v0 v3 v4 => ⟨29, [(0, (wI v0)), (3, (wS v3)), (4, (wI v4))], []⟩
abbrev Zap4 (r : (List UInt8)) (y : Zlk ⊕ (List UInt8)) : Prop := Ok PR [.t 2] (Zahh) Z3b Zap3 Zau2 r y
theorem Za47 (r : (List UInt8)) (v0 : Int) (v3 : (List UInt8)) (v4 : Int) (y : Zlk ⊕ (List UInt8)) (h : Z6k v0 v3 v4 = some y) (hk : Zap4 r y) : (Zap3 (.L0 v0 v3 v4)).HH PR [.t 2] Zahh Z3b r (Zau2 (.L0 v0 v3 v4)) :=
 Za h (fun h1 h => have q := q0.t 1 h1;
 Zb h fun x2 h3 h => have q := q.b (Zcc h3);
 Zb h fun x4 h5 h => have q := (q.b (Zcc h5)).b (show (2 : Int) ≠ 0 by decide);
 Za h (fun h6 h => have q := q.t 1 h6;
 Za h (fun h7 h => Zb h fun x8 h9 h => Zb h fun x10 h11 h => Zb h fun x13 h14 h => lG h hk (((((q.t 1 h7).o [.call (wS x10), .pick [4, 3, 0] [], .pick [0, 3, 4] []]).b (Zcc h9)).b (Z66 v4 h11)).b (Zcc h14))) (fun h7 h => Zb h fun x17 h18 h => Zb h fun x20 h21 h => lG h hk ((((q.f 1 h7).o [.call (wS x17), .pick [4, 3, 0] [], .pick [0, 3, 4] []]).b (Z66 v4 h18)).b (Zcc h21)))) (fun h6 h => lG h hk ((q.f 1 h6).o [.pick [4, 0, 3] [], .pick [0, 3, 4] []]))) (fun h1 h => lR h hk (q0.f 1 h1))
theorem Za9j (r : (List UInt8)) (a0 : Int) (y : Zlk ⊕ (List UInt8)) (h : Zaj0 a0 = some y) (hk : Zap4 r y) : (Cfg.code Zalf []).HH PR [.t 2] Zahh Z3b r ⟨29, idx 0 [(wI a0)], []⟩ :=
 Zb h fun x1 h2 h => have q := (q0.k x1).b (Zbnu a0 h2);
 Za h (fun h3 h => lR h hk (q.t 1 h3)) (fun h3 h => have q := q.f 1 h3;
 Za h (fun h4 h => lR h hk (q.t 1 h4)) (fun h4 h => lG h hk ((q.f 1 h4).o [.pick [4, 3, 0] [], .pick [0, 3, 4] []])))
theorem Zau3 (a0 : Int) {r : (List UInt8)} (h : Zabi a0 = some r) : Fn PR 144 [(wI a0)] (Z3b r) :=
 Zb h fun y h0 h1 => FnG.of_cfg hT Go.Proofs.Tryz.func144 (by kernel_rfl : _ = some Zalf) (by kernel_rfl) 29 (by kernel_rfl) (Nat.le_of_ble_eq_true rfl) [.t 2] (by kernel_rfl) (by kernel_rfl) (Za9j r a0 y h0 (Z1 (fun s y h hk => match s with
 | .L0 v0 v3 v4 => Za47 r v0 v3 v4 y h hk) h1))
noncomputable def Zau4 : Code := (Go.Proofs.Tryz.f175.body).getD .skip
noncomputable def Z8m (r : (List (List UInt8))) : PV := (.osl 5000 (List.map cS r).length)
noncomputable def Zach (r : (List (List UInt8))) : List (Nat × Blk) := [(5000, .row 1 (List.map cS r))]
noncomputable def Za9k : Zm7 → Cfg := fun s => nomatch s
noncomputable def Zbd3 : Zm7 → PW.St := fun s => nomatch s
abbrev Za9l (r : (List (List UInt8))) (y : Zm7 ⊕ (List (List UInt8))) : Prop := Ok PR [.t 0] (Zach) Z8m Za9k Zbd3 r y
theorem Za48 (r : (List (List UInt8))) (y : Zm7 ⊕ (List (List UInt8))) (h : Zagm = some y) (hk : Za9l r y) : (Cfg.code Zau4 []).HH PR [.t 0] Zach Z8m r ⟨2, idx 0 [], []⟩ :=
 lO h hk [5000] (q0.o [.lab 1001, .relab 1001 5000])
theorem Za9m {r : (List (List UInt8))} (h : Z7p = some r) : FnG PR 175 [] [] ((Zach) r) (Z8m r) :=
 Zb h fun y h0 h1 => FnG.of_cfg hT Go.Proofs.Tryz.func175 (by kernel_rfl : _ = some Zau4) (by kernel_rfl) 2 (by kernel_rfl) (Nat.le_of_ble_eq_true rfl) [.t 0] (by kernel_rfl) (by kernel_rfl) (Za48 r y h0 (Z1 (fun s _ _ _ => nomatch s) h1))
theorem Zbd4 {r : (List (List UInt8))} (h : Z7p = some r) : Fn PR 175 [] (wL cS r) :=
 FnG.frozen (Za9m h) (And.intro (Eq.refl (List.map cS r).length) trivial) (by kernel_rfl)
noncomputable def Za1b : Code := (Go.Proofs.Tryz.f160.body).getD .skip
noncomputable def Zaci (r : (List UInt8)) : PV := (wS r)
noncomputable def Zau5 (r : (List UInt8)) : List (Nat × Blk) := []
noncomputable def Zbd5 : Zol → Cfg := fun s => nomatch s
noncomputable def Zbip : Zol → PW.St := fun s => nomatch s
abbrev Zbd6 (r : (List UInt8)) (y : Zol ⊕ (List UInt8)) : Prop := Ok PR [.t 2] (Zau5) Zaci Zbd5 Zbip r y
theorem Za9n (r : (List UInt8)) (a0 : Int) (y : Zol ⊕ (List UInt8)) (h : Zaj1 a0 = some y) (hk : Zbd6 r y) : (Cfg.code Za1b []).HH PR [.t 2] Zau5 Zaci r ⟨13, idx 0 [(wI a0)], []⟩ :=
 Za h (fun h1 h => lR h hk (((q0.tt 4).a 3 h1).b (Eq.refl true))) (fun h1 h => have q := q0.f 3 h1;
 Za h (fun h2 h => lR h hk (q.t 1 h2)) (fun h2 h => Zb h fun x3 h4 h => Zb h fun x5 h6 h => lR h hk ((((((q.f 1 h2).o [.call (wL cS x3), .cs (cS x5)]).b (Zbd4 h4)).b (Zq cS 1 (fun _ => rfl) x3)).b (Z2 h6)).b (Zv cS h6))))
theorem Zahi (a0 : Int) {r : (List UInt8)} (h : Z49 a0 = some r) : Fn PR 160 [(wI a0)] (Zaci r) :=
 Zb h fun y h0 h1 => FnG.of_cfg hT Go.Proofs.Tryz.func160 (by kernel_rfl : _ = some Za1b) (by kernel_rfl) 13 (by kernel_rfl) (Nat.le_of_ble_eq_true rfl) [.t 2] (by kernel_rfl) (by kernel_rfl) (Za9n r a0 y h0 (Z1 (fun s _ _ _ => nomatch s) h1))
noncomputable def Zalg : Code := (Go.Proofs.Tryz.f145.body).getD .skip
noncomputable def Z3c (r : (List UInt8)) : PV := (wS r)
noncomputable def Zahj (r : (List UInt8)) : List (Nat × Blk) := []
noncomputable def Zap5 : Zll → Cfg
 | .L0 _ _ _ => (nav [1, 1, 1, 0, 1, 4] Zalg []).getD (.done .normal)
noncomputable def Zau6 : Zll → PW.St
 | .L0 v0 v3 v4 => ⟨28, [(0, (wI v0)), (3, (wS v3)), (4, (wI v4))], []⟩
abbrev Zap6 (r : (List UInt8)) (y : Zll ⊕ (List UInt8)) : Prop := Ok PR [.t 2] (Zahj) Z3c Zap5 Zau6 r y
theorem Za49 (r : (List UInt8)) (v0 : Int) (v3 : (List UInt8)) (v4 : Int) (y : Zll ⊕ (List UInt8)) (h : Z6l v0 v3 v4 = some y) (hk : Zap6 r y) : (Zap5 (.L0 v0 v3 v4)).HH PR [.t 2] Zahj Z3c r (Zau6 (.L0 v0 v3 v4)) :=
 Za h (fun h1 h => have q := (q0.t 1 h1).b (show (2 : Int) ≠ 0 by decide);
 Za h (fun h2 h => have q := q.t 1 h2;
 Za h (fun h3 h => Zb h fun x4 h5 h => Zb h fun x6 h7 h => Zb h fun x9 h10 h => lG h hk ((((((q.t 1 h3).o [.call (wS x6), .pick [4, 0, 3] [], .pick [0, 3, 4] []]).b (Zcc h5)).b (Zahi v4 h7)).b (Zcc h10)).b (show (2 : Int) ≠ 0 by decide))) (fun h3 h => Zb h fun x13 h14 h => Zb h fun x16 h17 h => lG h hk (((((q.f 1 h3).o [.call (wS x13), .pick [4, 0, 3] [], .pick [0, 3, 4] []]).b (Zahi v4 h14)).b (Zcc h17)).b (show (2 : Int) ≠ 0 by decide)))) (fun h2 h => lG h hk (((q.f 1 h2).o [.pick [4, 0, 3] [], .pick [0, 3, 4] []]).b (show (2 : Int) ≠ 0 by decide)))) (fun h1 h => have q := q0.f 1 h1;
 Za h (fun h22 h => lR h hk (q.t 1 h22)) (fun h22 h => lR h hk (q.f 1 h22)))
theorem Za9o (r : (List UInt8)) (a0 : Int) (y : Zll ⊕ (List UInt8)) (h : Zaj2 a0 = some y) (hk : Zap6 r y) : (Cfg.code Zalg []).HH PR [.t 2] Zahj Z3c r ⟨28, idx 0 [(wI a0)], []⟩ :=
 Zb h fun x1 h2 h => have q := (q0.k x1).b (Za7q a0 h2);
 Za h (fun h3 h => lR h hk (q.t 1 h3)) (fun h3 h => lG h hk ((q.f 1 h3).o [.pick [4, 3, 0] [], .pick [0, 3, 4] []]))
theorem Zau7 (a0 : Int) {r : (List UInt8)} (h : Zabj a0 = some r) : Fn PR 145 [(wI a0)] (Z3c r) :=
 Zb h fun y h0 h1 => FnG.of_cfg hT Go.Proofs.Tryz.func145 (by kernel_rfl : _ = some Zalg) (by kernel_rfl) 28 (by kernel_rfl) (Nat.le_of_ble_eq_true rfl) [.t 2] (by kernel_rfl) (by kernel_rfl) (Za9o r a0 y h0 (Z1 (fun s y h hk => match s with
 | .L0 v0 v3 v4 => Za49 r v0 v3 v4 y h hk) h1))
noncomputable def Zafk : Code := (Go.Proofs.Tryz.f161.body).getD .skip
noncomputable def Zyw (r : (List (List UInt8))) : PV := (.osl 5000 (List.map cS r).length)
noncomputable def Z0w (r : (List (List UInt8))) : List (Nat × Blk) := [(5000, .row 1 (List.map cS r))]
noncomputable def Zatc : Zip → Cfg := fun s => nomatch s
noncomputable def Zaxa : Zip → PW.St := fun s => nomatch s
abbrev Zatd (r : (List (List UInt8))) (y : Zip ⊕ (List (List UInt8))) : Prop := Ok PR [.t 0] (Z0w) Zyw Zatc Zaxa r y
theorem Zap7 (r : (List (List UInt8))) (y : Zip ⊕ (List (List UInt8))) (h : Z2j = some y) (hk : Zatd r y) : (Cfg.code Zafk []).HH PR [.t 0] Z0w Zyw r ⟨2, idx 0 [], []⟩ :=
 lO h hk [5000] (q0.o [.lab 1001, .relab 1001 5000])
theorem Zate {r : (List (List UInt8))} (h : Zuh = some r) : FnG PR 161 [] [] ((Z0w) r) (Zyw r) :=
 Zb h fun y h0 h1 => FnG.of_cfg hT Go.Proofs.Tryz.func161 (by kernel_rfl : _ = some Zafk) (by kernel_rfl) 2 (by kernel_rfl) (Nat.le_of_ble_eq_true rfl) [.t 0] (by kernel_rfl) (by kernel_rfl) (Zap7 r y h0 (Z1 (fun s _ _ _ => nomatch s) h1))
theorem Zaxb {r : (List (List UInt8))} (h : Zuh = some r) : Fn PR 161 [] (wL cS r) :=
 FnG.frozen (Zate h) (And.intro (Eq.refl (List.map cS r).length) trivial) (by kernel_rfl)
noncomputable def Zaiy : Code := (Go.Proofs.Tryz.f162.body).getD .skip
noncomputable def Z0x (r : (List (List UInt8))) : PV := (.osl 5000 (List.map cS r).length)
noncomputable def Z3d (r : (List (List UInt8))) : List (Nat × Blk) := [(5000, .row 1 (List.map cS r))]
noncomputable def Zaxc : Zjj → Cfg := fun s => nomatch s
noncomputable def Za1c : Zjj → PW.St := fun s => nomatch s
abbrev Zaxd (r : (List (List UInt8))) (y : Zjj ⊕ (List (List UInt8))) : Prop := Ok PR [.t 0] (Z3d) Z0x Zaxc Za1c r y
theorem Zatf (r : (List (List UInt8))) (y : Zjj ⊕ (List (List UInt8))) (h : Z5a = some y) (hk : Zaxd r y) : (Cfg.code Zaiy []).HH PR [.t 0] Z3d Z0x r ⟨2, idx 0 [], []⟩ :=
 lO h hk [5000] (q0.o [.lab 1001, .relab 1001 5000])
theorem Zaxe {r : (List (List UInt8))} (h : Zwj = some r) : FnG PR 162 [] [] ((Z3d) r) (Z0x r) :=
 Zb h fun y h0 h1 => FnG.of_cfg hT Go.Proofs.Tryz.func162 (by kernel_rfl : _ = some Zaiy) (by kernel_rfl) 2 (by kernel_rfl) (Nat.le_of_ble_eq_true rfl) [.t 0] (by kernel_rfl) (by kernel_rfl) (Zatf r y h0 (Z1 (fun s _ _ _ => nomatch s) h1))
theorem Za1d {r : (List (List UInt8))} (h : Zwj = some r) : Fn PR 162 [] (wL cS r) :=
 FnG.frozen (Zaxe h) (And.intro (Eq.refl (List.map cS r).length) trivial) (by kernel_rfl)
noncomputable def Zafl : Code := (Go.Proofs.Tryz.f163.body).getD .skip
noncomputable def Zyx (r : (List (List UInt8))) : PV := (.osl 5000 (List.map cS r).length)
noncomputable def Z0y (r : (List (List UInt8))) : List (Nat × Blk) := [(5000, .row 1 (List.map cS r))]
noncomputable def Zatg : Ziq → Cfg := fun s => nomatch s
noncomputable def Zaxf : Ziq → PW.St := fun s => nomatch s
abbrev Zath (r : (List (List UInt8))) (y : Ziq ⊕ (List (List UInt8))) : Prop := Ok PR [.t 0] (Z0y) Zyx Zatg Zaxf r y
theorem Zap8 (r : (List (List UInt8))) (y : Ziq ⊕ (List (List UInt8))) (h : Z2k = some y) (hk : Zath r y) : (Cfg.code Zafl []).HH PR [.t 0] Z0y Zyx r ⟨2, idx 0 [], []⟩ :=
 lO h hk [5000] (q0.o [.lab 1001, .relab 1001 5000])
theorem Zati {r : (List (List UInt8))} (h : Zui = some r) : FnG PR 163 [] [] ((Z0y) r) (Zyx r) :=
 Zb h fun y h0 h1 => FnG.of_cfg hT Go.Proofs.Tryz.func163 (by kernel_rfl : _ = some Zafl) (by kernel_rfl) 2 (by kernel_rfl) (Nat.le_of_ble_eq_true rfl) [.t 0] (by kernel_rfl) (by kernel_rfl) (Zap8 r y h0 (Z1 (fun s _ _ _ => nomatch s) h1))
theorem Zaxg {r : (List (List UInt8))} (h : Zui = some r) : Fn PR 163 [] (wL cS r) :=
 FnG.frozen (Zati h) (And.intro (Eq.refl (List.map cS r).length) trivial) (by kernel_rfl)
noncomputable def Zaiz : Code := (Go.Proofs.Tryz.f164.body).getD .skip
noncomputable def Z0z (r : (List (List UInt8))) : PV := (.osl 5000 (List.map cS r).length)
noncomputable def Z3e (r : (List (List UInt8))) : List (Nat × Blk) := [(5000, .row 1 (List.map cS r))]
noncomputable def Zaxh : Zjk → Cfg := fun s => nomatch s
noncomputable def Za1e : Zjk → PW.St := fun s => nomatch s
abbrev Zaxi (r : (List (List UInt8))) (y : Zjk ⊕ (List (List UInt8))) : Prop := Ok PR [.t 0] (Z3e) Z0z Zaxh Za1e r y
theorem Zatj (r : (List (List UInt8))) (y : Zjk ⊕ (List (List UInt8))) (h : Z5b = some y) (hk : Zaxi r y) : (Cfg.code Zaiz []).HH PR [.t 0] Z3e Z0z r ⟨2, idx 0 [], []⟩ :=
 lO h hk [5000] (q0.o [.lab 1001, .relab 1001 5000])
theorem Zaxj {r : (List (List UInt8))} (h : Zwk = some r) : FnG PR 164 [] [] ((Z3e) r) (Z0z r) :=
 Zb h fun y h0 h1 => FnG.of_cfg hT Go.Proofs.Tryz.func164 (by kernel_rfl : _ = some Zaiz) (by kernel_rfl) 2 (by kernel_rfl) (Nat.le_of_ble_eq_true rfl) [.t 0] (by kernel_rfl) (by kernel_rfl) (Zatj r y h0 (Z1 (fun s _ _ _ => nomatch s) h1))
theorem Za1f {r : (List (List UInt8))} (h : Zwk = some r) : Fn PR 164 [] (wL cS r) :=
 FnG.frozen (Zaxj h) (And.intro (Eq.refl (List.map cS r).length) trivial) (by kernel_rfl)
noncomputable def Zap9 : Code := (Go.Proofs.Tryz.f166.body).getD .skip
noncomputable def Z67 (r : Bool) : PV := (wB r)
noncomputable def Zalh (r : Bool) : List (Nat × Blk) := []
noncomputable def Zau8 : Znp → Cfg
 | .L0 _ _ _ => (nav [1, 0, 1, 4] Zap9 []).getD (.done .normal)
noncomputable def Za1g : Znp → PW.St
 | .L0 v0 v1 v5 => ⟨16, [(0, (wI v0)), (1, (wI v1)), (5, (wI v5))], []⟩
abbrev Zau9 (r : Bool) (y : Znp ⊕ Bool) : Prop := Ok PR [.t 4] (Zalh) Z67 Zau8 Za1g r y
theorem Za9p (r : Bool) (v0 : Int) (v1 : Int) (v5 : Int) (y : Znp ⊕ Bool) (h : Zaab v0 v1 v5 = some y) (hk : Zau9 r y) : (Zau8 (.L0 v0 v1 v5)).HH PR [.t 4] Zalh Z67 r (Za1g (.L0 v0 v1 v5)) :=
 Za h (fun h1 h => lG h hk (((q0.t 1 h1).o [.pick [5, 0, 1] [], .pick [0, 1, 5] []]).b (show (2 : Int) ≠ 0 by decide))) (fun h1 h => lR h hk ((q0.f 1 h1).b (show (2 : Int) ≠ 0 by decide)))
theorem Zbd7 (r : Bool) (a0 : Int) (a1 : Int) (y : Znp ⊕ Bool) (h : Zao8 a0 a1 = some y) (hk : Zau9 r y) : (Cfg.code Zap9 []).HH PR [.t 4] Zalh Z67 r ⟨16, idx 0 [(wI a0), (wI a1)], []⟩ :=
 lG h hk (q0.o [.pick [5, 1, 0] [], .pick [0, 1, 5] []])
theorem Z3f (a0 : Int) (a1 : Int) {r : Bool} (h : Z1k a0 a1 = some r) : Fn PR 166 [(wI a0), (wI a1)] (Z67 r) :=
 Zb h fun y h0 h1 => FnG.of_cfg hT Go.Proofs.Tryz.func166 (by kernel_rfl : _ = some Zap9) (by kernel_rfl) 16 (by kernel_rfl) (Nat.le_of_ble_eq_true rfl) [.t 4] (by kernel_rfl) (by kernel_rfl) (Zbd7 r a0 a1 y h0 (Z1 (fun s y h hk => match s with
 | .L0 v0 v1 v5 => Za9p r v0 v1 v5 y h hk) h1))
noncomputable def Z5u : Code := (Go.Proofs.Tryz.f167.body).getD .skip
noncomputable def Ztn (r : (List UInt8)) : PV := (wS r)
noncomputable def Z3g (r : (List UInt8)) : List (Nat × Blk) := []
noncomputable def Zacj : Zg3 → Cfg
 | .L0 _ _ _ => (nav [1, 1, 0, 1, 4] Z5u []).getD (.done .normal)
noncomputable def Zafm : Zg3 → PW.St
 | .L0 v0 v3 v4 => ⟨14, [(0, (wI v0)), (3, (wI v3)), (4, (wI v4))], []⟩
abbrev Zack (r : (List UInt8)) (y : Zg3 ⊕ (List UInt8)) : Prop := Ok PR [.t 2] (Z3g) Ztn Zacj Zafm r y
theorem Zaqa (r : (List UInt8)) (v0 : Int) (v3 : Int) (v4 : Int) (y : Zg3 ⊕ (List UInt8)) (h : Zvq v0 v3 v4 = some y) (hk : Zack r y) : (Zacj (.L0 v0 v3 v4)).HH PR [.t 2] Z3g Ztn r (Zafm (.L0 v0 v3 v4)) :=
 Za h (fun h1 h => lG h hk ((q0.t 1 h1).o [.pick [4, 3, 0] [], .pick [0, 3, 4] []])) (fun h1 h => Zb h fun x6 h7 h => lR h hk (((q0.f 1 h1).o [.call (wS x6)]).b (Z0v v3 h7)))
theorem Zatk (r : (List UInt8)) (a0 : Int) (y : Zg3 ⊕ (List UInt8)) (h : Z5c a0 = some y) (hk : Zack r y) : (Cfg.code Z5u []).HH PR [.t 2] Z3g Ztn r ⟨14, idx 0 [(wI a0)], []⟩ :=
 lG h hk (q0.o [.pick [4, 3, 0] [], .pick [0, 3, 4] []])
theorem Zafn (a0 : Int) {r : (List UInt8)} (h : Zwl a0 = some r) : Fn PR 167 [(wI a0)] (Ztn r) :=
 Zb h fun y h0 h1 => FnG.of_cfg hT Go.Proofs.Tryz.func167 (by kernel_rfl : _ = some Z5u) (by kernel_rfl) 14 (by kernel_rfl) (Nat.le_of_ble_eq_true rfl) [.t 2] (by kernel_rfl) (by kernel_rfl) (Zatk r a0 y h0 (Z1 (fun s y h hk => match s with
 | .L0 v0 v3 v4 => Zaqa r v0 v3 v4 y h hk) h1))
noncomputable def Zava : Code := (Go.Proofs.Tryz.f176.body).getD .skip
noncomputable def Z8n (r : (List (List UInt8))) : PV := (.osl 5000 (List.map cS r).length)
noncomputable def Zacl (r : (List (List UInt8))) : List (Nat × Blk) := [(5000, .row 1 (List.map cS r))]
noncomputable def Za9q : Zm8 → Cfg := fun s => nomatch s
noncomputable def Zbd8 : Zm8 → PW.St := fun s => nomatch s
abbrev Za9r (r : (List (List UInt8))) (y : Zm8 ⊕ (List (List UInt8))) : Prop := Ok PR [.t 0] (Zacl) Z8n Za9q Zbd8 r y
theorem Za5a (r : (List (List UInt8))) (y : Zm8 ⊕ (List (List UInt8))) (h : Zagn = some y) (hk : Za9r r y) : (Cfg.code Zava []).HH PR [.t 0] Zacl Z8n r ⟨2, idx 0 [], []⟩ :=
 lO h hk [5000] (q0.o [.lab 1001, .relab 1001 5000])
theorem Za9s {r : (List (List UInt8))} (h : Z7q = some r) : FnG PR 176 [] [] ((Zacl) r) (Z8n r) :=
 Zb h fun y h0 h1 => FnG.of_cfg hT Go.Proofs.Tryz.func176 (by kernel_rfl : _ = some Zava) (by kernel_rfl) 2 (by kernel_rfl) (Nat.le_of_ble_eq_true rfl) [.t 0] (by kernel_rfl) (by kernel_rfl) (Za5a r y h0 (Z1 (fun s _ _ _ => nomatch s) h1))
theorem Zbd9 {r : (List (List UInt8))} (h : Z7q = some r) : Fn PR 176 [] (wL cS r) :=
 FnG.frozen (Za9s h) (And.intro (Eq.refl (List.map cS r).length) trivial) (by kernel_rfl)
noncomputable def Zacm : Code := (Go.Proofs.Tryz.f170.body).getD .skip
noncomputable def Zyf (r : (List UInt8)) : PV := (wS r)
noncomputable def Z8o (r : (List UInt8)) : List (Nat × Blk) := []
noncomputable def Zai0 : Zlm → Cfg
 | .L0 _ _ => (nav [1, 1, 0, 1, 4] Zacm []).getD (.done .normal)
noncomputable def Zam2 : Zlm → PW.St
 | .L0 v0 v3 => ⟨25, [(0, (.t (.int .u64 v0))), (3, (wS v3))], []⟩
abbrev Zai1 (r : (List UInt8)) (y : Zlm ⊕ (List UInt8)) : Prop := Ok PR [.t 2] (Z8o) Zyf Zai0 Zam2 r y
theorem Zaxk (r : (List UInt8)) (v0 : Int) (v3 : (List UInt8)) (y : Zlm ⊕ (List UInt8)) (h : Zmj v0 v3 = some y) (hk : Zai1 r y) : (Zai0 (.L0 v0 v3)).HH PR [.t 2] Z8o Zyf r (Zam2 (.L0 v0 v3)) :=
 Za h (fun h1 h => Zb h fun x5 h6 h => Zb h fun x9 h10 h => lG h hk (((((((q0.t 1 h1).o [.lit, .cs [.str x5], .pick [0, 3] [], .pick [0, 3] []]).b (show (10 : Int) ≠ 0 by decide)).b (Zaev h6).1).b (Zaev h6).2).b (Zcc h10)).b (show (10 : Int) ≠ 0 by decide))) (fun h1 h => lR h hk (q0.f 1 h1))
theorem Za1h (r : (List UInt8)) (a0 : Int) (y : Zlm ⊕ (List UInt8)) (h : Zabk a0 = some y) (hk : Zai1 r y) : (Cfg.code Zacm []).HH PR [.t 2] Z8o Zyf r ⟨25, idx 0 [(.t (.int .u64 a0))], []⟩ :=
 Zb h fun x4 h5 h => lG h hk (((((q0.o [.lit, .cs [.str x4], .pick [0, 3] [], .pick [0, 3] []]).b (show (10 : Int) ≠ 0 by decide)).b (Zaev h5).1).b (Zaev h5).2).b (show (10 : Int) ≠ 0 by decide))
theorem Zam3 (a0 : Int) {r : (List UInt8)} (h : Z2m a0 = some r) : Fn PR 170 [(.t (.int .u64 a0))] (Zyf r) :=
 Zb h fun y h0 h1 => FnG.of_cfg hT Go.Proofs.Tryz.func170 (by kernel_rfl : _ = some Zacm) (by kernel_rfl) 25 (by kernel_rfl) (Nat.le_of_ble_eq_true rfl) [.t 2] (by kernel_rfl) (by kernel_rfl) (Za1h r a0 y h0 (Z1 (fun s y h hk => match s with
 | .L0 v0 v3 => Zaxk r v0 v3 y h hk) h1))
noncomputable def Za1i : Code := (Go.Proofs.Tryz.f147.body).getD .skip
noncomputable def Zacn (r : (List UInt8)) : PV := (wS r)
noncomputable def Zavb (r : (List UInt8)) : List (Nat × Blk) := []
noncomputable def Zbea : Zom → Cfg := fun s => nomatch s
noncomputable def Zbiq : Zom → PW.St := fun s => nomatch s
abbrev Zbeb (r : (List UInt8)) (y : Zom ⊕ (List UInt8)) : Prop := Ok PR [.t 2] (Zavb) Zacn Zbea Zbiq r y
theorem Za9t (r : (List UInt8)) (a0 : Int) (y : Zom ⊕ (List UInt8)) (h : Zaj3 a0 = some y) (hk : Zbeb r y) : (Cfg.code Za1i []).HH PR [.t 2] Zavb Zacn r ⟨13, idx 0 [(wI a0)], []⟩ :=
 Za h (fun h1 h => Zb h fun x4 h5 h => Zb h fun x7 h8 h => lR h hk ((((q0.t 1 h1).o [.call (wS x4)]).b (Zam3 (IntKind.wrap .u64 (0 - (IntKind.wrap .u64 a0))) h5)).b (Zcc h8))) (fun h1 h => Zb h fun x10 h11 h => lR h hk (((q0.f 1 h1).o [.call (wS x10)]).b (Zam3 (IntKind.wrap .u64 a0) h11)))
theorem Zu5 (a0 : Int) {r : (List UInt8)} (h : Ztf a0 = some r) : Fn PR 147 [(wI a0)] (Zacn r) :=
 Zb h fun y h0 h1 => FnG.of_cfg hT Go.Proofs.Tryz.func147 (by kernel_rfl : _ = some Za1i) (by kernel_rfl) 13 (by kernel_rfl) (Nat.le_of_ble_eq_true rfl) [.t 2] (by kernel_rfl) (by kernel_rfl) (Za9t r a0 y h0 (Z1 (fun s _ _ _ => nomatch s) h1))
noncomputable def Zafo : Code := (Go.Proofs.Tryz.f168.body).getD .skip
noncomputable def Zyy (r : (List UInt8)) : PV := (wS r)
noncomputable def Zaco (r : (List UInt8)) : List (Nat × Blk) := []
noncomputable def Zatl : Zir → Cfg := fun s => nomatch s
noncomputable def Zaxl : Zir → PW.St := fun s => nomatch s
abbrev Zatm (r : (List UInt8)) (y : Zir ⊕ (List UInt8)) : Prop := Ok PR [.t 4] (Zaco) Zyy Zatl Zaxl r y
theorem Zaqb (r : (List UInt8)) (a0 : (List UInt8)) (a1 : Ze) (y : Zir ⊕ (List UInt8)) (h : Z2n a0 a1 = some y) (hk : Zatm r y) : (Cfg.code Zafo []).HH PR [.t 4] Zaco Zyy r ⟨21, idx 0 [(wS a0), (.agg (bx (Zjd a1)))], []⟩ := have q := q0.o [.lab 1003];
 Za h (fun h1 h => lR h hk (q.t 1 h1)) (fun h1 h => Zb h fun x2 h3 h => Zb h fun x4 h5 h => Zb h fun x8 h9 h => Zb h fun x10 h11 h => Zb h fun x13 h14 h => lR h hk (((((((((q.f 1 h1).o [.call (wL cS x2), .cs (cS x4), .call (wS x10)]).b (Zbd9 h3)).b (Zq cS 1 (fun _ => rfl) x2)).b (Z2 h5)).b (Zv cS h5)).b (Zcc h9)).b (Zu5 a1.N h11)).b (Zcc h14)))
theorem Z00 (a0 : (List UInt8)) (a1 : Ze) {r : (List UInt8)} (h : Zp5 a0 a1 = some r) : Fn PR 168 [(wS a0), (.agg (bx (Zjd a1)))] (Zyy r) :=
 Zb h fun y h0 h1 => FnG.of_cfg hT Go.Proofs.Tryz.func168 (by kernel_rfl : _ = some Zafo) (by kernel_rfl) 21 (by kernel_rfl) (Nat.le_of_ble_eq_true rfl) [.t 4] (by kernel_rfl) (by kernel_rfl) (Zaqb r a0 a1 y h0 (Z1 (fun s _ _ _ => nomatch s) h1))
noncomputable def Zali : Code := (Go.Proofs.Tryz.f169.body).getD .skip
noncomputable def Z3h (r : (List UInt8)) : PV := (wS r)
noncomputable def Zahk (r : (List UInt8)) : List (Nat × Blk) := []
noncomputable def Zaqc : Zln → Cfg
 | .L0 _ _ _ _ => (nav [1, 1, 0, 1, 4] Zali []).getD (.done .normal)
noncomputable def Zavc : Zln → PW.St
 | .L0 v0 v1 v5 v6 => ⟨25, [(0, (wL cS v0)), (1, (wS v1)), (5, (wS v5)), (6, (wI v6))], []⟩
abbrev Zaqd (r : (List UInt8)) (y : Zln ⊕ (List UInt8)) : Prop := Ok PR [.t 4] (Zahk) Z3h Zaqc Zavc r y
theorem Za5b (r : (List UInt8)) (v0 : (List (List UInt8))) (v1 : (List UInt8)) (v5 : (List UInt8)) (v6 : Int) (y : Zln ⊕ (List UInt8)) (h : Z6m v0 v1 v5 v6 = some y) (hk : Zaqd r y) : (Zaqc (.L0 v0 v1 v5 v6)).HH PR [.t 4] Zahk Z3h r (Zavc (.L0 v0 v1 v5 v6)) := have q := (q0.n (v0.length : Int)).b (Zr cS v0);
 Za h (fun h2 h => have q := q.t 1 h2;
 Za h (fun h3 h => Zb h fun x5 h6 h => Zb h fun x7 h8 h => Zb h fun x10 h11 h => lG h hk (((((((q.t 1 h3).o [.cs (cS x7), .pick [6, 5, 0, 1] [], .pick [0, 1, 5, 6] []]).b (Zcc h6)).b (Zq cS 1 (fun _ => rfl) v0)).b (Z2 h8)).b (Zv cS h8)).b (Zcc h11))) (fun h3 h => Zb h fun x14 h15 h => Zb h fun x17 h18 h => lG h hk ((((((q.f 1 h3).o [.cs (cS x14), .pick [6, 5, 0, 1] [], .pick [0, 1, 5, 6] []]).b (Zq cS 1 (fun _ => rfl) v0)).b (Z2 h15)).b (Zv cS h15)).b (Zcc h18)))) (fun h2 h => lR h hk (q.f 1 h2))
theorem Za9u (r : (List UInt8)) (a0 : (List (List UInt8))) (a1 : (List UInt8)) (y : Zln ⊕ (List UInt8)) (h : Zaj4 a0 a1 = some y) (hk : Zaqd r y) : (Cfg.code Zali []).HH PR [.t 4] Zahk Z3h r ⟨25, idx 0 [(wL cS a0), (wS a1)], []⟩ :=
 lG h hk (q0.o [.pick [6, 5, 1, 0] [], .pick [0, 1, 5, 6] []])
theorem Zbir (a0 : (List (List UInt8))) (a1 : (List UInt8)) {r : (List UInt8)} (h : Zaj5 a0 a1 = some r) : Fn PR 169 [(wL cS a0), (wS a1)] (Z3h r) :=
 Zb h fun y h0 h1 => FnG.of_cfg hT Go.Proofs.Tryz.func169 (by kernel_rfl : _ = some Zali) (by kernel_rfl) 25 (by kernel_rfl) (Nat.le_of_ble_eq_true rfl) [.t 4] (by kernel_rfl) (by kernel_rfl) (Za9u r a0 a1 y h0 (Z1 (fun s y h hk => match s with
 | .L0 v0 v1 v5 v6 => Za5b r v0 v1 v5 v6 y h hk) h1))
noncomputable def Zai2 : Code := (Go.Proofs.Tryz.f165.body).getD .skip
noncomputable def Z01 (r : (List (List UInt8))) : PV := (.osl 5000 (List.map cS r).length)
noncomputable def Z3i (r : (List (List UInt8))) : List (Nat × Blk) := [(5000, .row 1 (List.map cS r))]
noncomputable def Zaxm : Zjl → Cfg := fun s => nomatch s
noncomputable def Za1j : Zjl → PW.St := fun s => nomatch s
abbrev Zaxn (r : (List (List UInt8))) (y : Zjl ⊕ (List (List UInt8))) : Prop := Ok PR [.t 4] (Z3i) Z01 Zaxm Za1j r y
theorem Zatn (r : (List (List UInt8))) (b0 : (List (List UInt8))) (a1 : (List UInt8)) (y : Zjl ⊕ (List (List UInt8))) (h : Z5d b0 a1 = some y) (hk : Zaxn r y) : (Cfg.code Zai2 []).HH PR [.t 4] Z3i Z01 r ⟨12, idx 0 [(.osl 0 (List.map cS b0).length), (wS a1)], [(0, .row 1 (List.map cS b0))]⟩ :=
 Za h (fun h1 h => lO h hk [5000] ((q0.t 1 h1).o [.relab 0 5000])) (fun h1 h => Zb h fun x3 h4 h => lO h hk [5000] (((((((q0.f 1 h1).o [.lit, .es (List.map cS x3), .relab 0 5000]).b (Eq.refl (List.map cS b0).length)).b (Zdw cS h4)).b (Zq cS 1 (fun _ => rfl) [a1])).b (Zdx cS h4)).b (Zcb cS h4)))
theorem Zkw (b0 : (List (List UInt8))) (a1 : (List UInt8)) {r : (List (List UInt8))} (h : Zkd b0 a1 = some r) : FnG PR 165 [(0, .row 1 (List.map cS b0))] [(.osl 0 (List.map cS b0).length), (wS a1)] ((Z3i) r) (Z01 r) :=
 Zb h fun y h0 h1 => FnG.of_cfg hT Go.Proofs.Tryz.func165 (by kernel_rfl : _ = some Zai2) (by kernel_rfl) 12 (by kernel_rfl) (Nat.le_of_ble_eq_true rfl) [.t 4] (by kernel_rfl) (by kernel_rfl) (Zatn r b0 a1 y h0 (Z1 (fun s _ _ _ => nomatch s) h1))
noncomputable def Zqg : Code := (Go.Proofs.Tryz.f146.body).getD .skip
noncomputable def Zl2 (r : (List UInt8)) : PV := (wS r)
noncomputable def Zo8 (r : (List UInt8)) : List (Nat × Blk) := []
noncomputable def Zpp : Ze4 → Cfg
 | .L0 _ _ _ _ => (nav [1, 1, 1, 1, 1, 1, 1, 1, 1, 1, 0, 1, 4] Zqg []).getD (.done .normal)
 | .L1 _ _ _ _ => (nav [1, 1, 1, 1, 1, 1, 1, 1, 1, 1, 1, 0, 1, 4] Zqg []).getD (.done .normal)
 | .L2 _ _ _ _ => (nav [1, 1, 1, 1, 1, 1, 1, 1, 1, 1, 1, 1, 0, 1, 4] Zqg []).getD (.done .normal)
 | .L3 _ _ _ _ => (nav [1, 1, 1, 1, 1, 1, 1, 1, 1, 1, 1, 1, 1, 0, 1, 4] Zqg []).getD (.done .normal)
 | .L4 _ _ _ => (nav [1, 1, 1, 1, 1, 1, 1, 1, 1, 1, 1, 1, 1, 1, 1] Zqg []).getD (.done .normal)
 | .L5 _ _ _ _ => (nav [1, 1, 1, 1, 1, 1, 1, 1, 1, 1, 1, 1, 1, 1, 1, 0, 1, 4] Zqg []).getD (.done .normal)
noncomputable def Zqw : Ze4 → PW.St
 | .L0 E0 v6 v7 v8 => ⟨145, [(1, (.bptr 30000000 0)), (6, (wL cS v6)), (7, (.osl 20000007 (List.map cS v7).length)), (8, (wI v8))], [(30000000, .box (bx (Zx E0))), (20000007, .row 1 (List.map cS v7))]⟩
 | .L1 E0 v6 v7 v9 => ⟨145, [(1, (.bptr 30000000 0)), (6, (wL cS v6)), (7, (.osl 20000007 (List.map cS v7).length)), (9, (wI v9))], [(30000000, .box (bx (Zx E0))), (20000007, .row 1 (List.map cS v7))]⟩
 | .L2 E0 v6 v7 v10 => ⟨145, [(1, (.bptr 30000000 0)), (6, (wL cS v6)), (7, (.osl 20000007 (List.map cS v7).length)), (10, (wI v10))], [(30000000, .box (bx (Zx E0))), (20000007, .row 1 (List.map cS v7))]⟩
 | .L3 E0 v6 v7 v11 => ⟨145, [(1, (.bptr 30000000 0)), (6, (wL cS v6)), (7, (.osl 20000007 (List.map cS v7).length)), (11, (wI v11))], [(30000000, .box (bx (Zx E0))), (20000007, .row 1 (List.map cS v7))]⟩
 | .L4 E0 v6 v7 => ⟨145, [(1, (.bptr 30000000 0)), (6, (wL cS v6)), (7, (.osl 20000007 (List.map cS v7).length))], [(30000000, .box (bx (Zx E0))), (20000007, .row 1 (List.map cS v7))]⟩
 | .L5 E0 v6 v7 v12 => ⟨145, [(1, (.bptr 30000000 0)), (6, (wL cS v6)), (7, (.osl 20000007 (List.map cS v7).length)), (12, (wI v12))], [(30000000, .box (bx (Zx E0))), (20000007, .row 1 (List.map cS v7))]⟩
abbrev Zpq (r : (List UInt8)) (y : Ze4 ⊕ (List UInt8)) : Prop := Ok PR [.t 2] (Zo8) Zl2 Zpp Zqw r y
theorem Z5v (r : (List UInt8)) (E0 : Zi) (v6 : (List (List UInt8))) (v7 : (List (List UInt8))) (y : Ze4 ⊕ (List UInt8)) (h : Zu1 E0 v6 v7 = some y) (hk : Zpq r y) : (Zpp (.L4 E0 v6 v7)).HH PR [.t 2] Zo8 Zl2 r (Zqw (.L4 E0 v6 v7)) :=
 lG h hk (q0.o [.pick [12, 1, 6, 7] [30000000, 20000007], .pick [1, 6, 7, 12] [30000000, 20000007]])
theorem Za5c (r : (List UInt8)) (E0 : Zi) (v6 : (List (List UInt8))) (v7 : (List (List UInt8))) (v8 : Int) (y : Ze4 ⊕ (List UInt8)) (h : Z6n E0 v6 v7 v8 = some y) (hk : Zpq r y) : (Zpp (.L0 E0 v6 v7 v8)).HH PR [.t 2] Zo8 Zl2 r (Zqw (.L0 E0 v6 v7 v8)) :=
 Za h (fun h1 h => have q := q0.t 1 h1;
 Zb h fun x2 h3 h => have q := (q.k x2).b (Z3f E0.Types v8 h3);
 Za h (fun h4 h => Zb h fun x5 h6 h => Zb h fun x8 h9 h => lG h hk ((((((((q.t 1 h4).o [.call (wS x5), .lit, .es (List.map cS x8), .pick [8, 7, 1, 6] [20000007, 30000000], .pick [1, 6, 7, 8] [30000000, 20000007]]).b (Zafn v8 h6)).b (Eq.refl (List.map cS v7).length)).b (Zdw cS h9)).b (Zq cS 1 (fun _ => rfl) [x5])).b (Zdx cS h9)).b (Zcb cS h9))) (fun h4 h => lG h hk ((q.f 1 h4).o [.pick [8, 1, 6, 7] [30000000, 20000007], .pick [1, 6, 7, 8] [30000000, 20000007]]))) (fun h1 h => lG h hk ((q0.f 1 h1).o [.pick [9, 1, 6, 7] [30000000, 20000007], .pick [1, 6, 7, 9] [30000000, 20000007]]))
theorem Za5d (r : (List UInt8)) (E0 : Zi) (v6 : (List (List UInt8))) (v7 : (List (List UInt8))) (v9 : Int) (y : Ze4 ⊕ (List UInt8)) (h : Z6o E0 v6 v7 v9 = some y) (hk : Zpq r y) : (Zpp (.L1 E0 v6 v7 v9)).HH PR [.t 2] Zo8 Zl2 r (Zqw (.L1 E0 v6 v7 v9)) :=
 Za h (fun h1 h => have q := q0.t 1 h1;
 Zb h fun x2 h3 h => have q := (q.k x2).b (Z3f E0.NotTypes v9 h3);
 Za h (fun h4 h => Zb h fun x5 h6 h => Zb h fun x8 h9 h => Zb h fun x11 h12 h => lG h hk (((((((((q.t 1 h4).o [.call (wS x5), .lit, .es (List.map cS x11), .pick [9, 7, 1, 6] [20000007, 30000000], .pick [1, 6, 7, 9] [30000000, 20000007]]).b (Zafn v9 h6)).b (Zcc h9)).b (Eq.refl (List.map cS v7).length)).b (Zdw cS h12)).b (Zq cS 1 (fun _ => rfl) [(([110, 111, 110, 45] : List UInt8) ++ x5)])).b (Zdx cS h12)).b (Zcb cS h12))) (fun h4 h => lG h hk ((q.f 1 h4).o [.pick [9, 1, 6, 7] [30000000, 20000007], .pick [1, 6, 7, 9] [30000000, 20000007]]))) (fun h1 h => lG h hk ((q0.f 1 h1).o [.pick [10, 1, 6, 7] [30000000, 20000007], .pick [1, 6, 7, 10] [30000000, 20000007]]))
theorem Za5e (r : (List UInt8)) (E0 : Zi) (v6 : (List (List UInt8))) (v7 : (List (List UInt8))) (v10 : Int) (y : Ze4 ⊕ (List UInt8)) (h : Z6p E0 v6 v7 v10 = some y) (hk : Zpq r y) : (Zpp (.L2 E0 v6 v7 v10)).HH PR [.t 2] Zo8 Zl2 r (Zqw (.L2 E0 v6 v7 v10)) :=
 Za h (fun h1 h => have q := q0.t 1 h1;
 Zb h fun x2 h3 h => have q := (q.k x2).b (Z3f E0.Colors v10 h3);
 Za h (fun h4 h => Zb h fun x5 h6 h => Zb h fun x8 h9 h => lG h hk ((((((((q.t 1 h4).o [.call (wS x5), .lit, .es (List.map cS x8), .pick [10, 7, 1, 6] [20000007, 30000000], .pick [1, 6, 7, 10] [30000000, 20000007]]).b (Z66 v10 h6)).b (Eq.refl (List.map cS v7).length)).b (Zdw cS h9)).b (Zq cS 1 (fun _ => rfl) [x5])).b (Zdx cS h9)).b (Zcb cS h9))) (fun h4 h => lG h hk ((q.f 1 h4).o [.pick [10, 1, 6, 7] [30000000, 20000007], .pick [1, 6, 7, 10] [30000000, 20000007]]))) (fun h1 h => lG h hk ((q0.f 1 h1).o [.pick [11, 1, 6, 7] [30000000, 20000007], .pick [1, 6, 7, 11] [30000000, 20000007]]))
theorem Za5f (r : (List UInt8)) (E0 : Zi) (v6 : (List (List UInt8))) (v7 : (List (List UInt8))) (v11 : Int) (y : Ze4 ⊕ (List UInt8)) (h : Z6q E0 v6 v7 v11 = some y) (hk : Zpq r y) : (Zpp (.L3 E0 v6 v7 v11)).HH PR [.t 2] Zo8 Zl2 r (Zqw (.L3 E0 v6 v7 v11)) :=
 Za h (fun h1 h => have q := q0.t 1 h1;
 Zb h fun x2 h3 h => have q := (q.k x2).b (Z3f E0.NotColors v11 h3);
 Za h (fun h4 h => Zb h fun x5 h6 h => Zb h fun x8 h9 h => Zb h fun x11 h12 h => lG h hk (((((((((q.t 1 h4).o [.call (wS x5), .lit, .es (List.map cS x11), .pick [11, 7, 1, 6] [20000007, 30000000], .pick [1, 6, 7, 11] [30000000, 20000007]]).b (Z66 v11 h6)).b (Zcc h9)).b (Eq.refl (List.map cS v7).length)).b (Zdw cS h12)).b (Zq cS 1 (fun _ => rfl) [(([110, 111, 110, 45] : List UInt8) ++ x5)])).b (Zdx cS h12)).b (Zcb cS h12))) (fun h4 h => lG h hk ((q.f 1 h4).o [.pick [11, 1, 6, 7] [30000000, 20000007], .pick [1, 6, 7, 11] [30000000, 20000007]]))) (fun h1 h => have q := q0.f 1 h1;
 Za h (fun h19 h => Zb h fun x21 h22 h => Zb h fun x24 h25 h => lJ (Z5v r E0 v6 x24 _ h hk) ((((((((q.t 1 h19).o [.lit, .es (List.map cS x24), .stopAt 0, .pick [7, 1, 6] [20000007, 30000000], .pick [1, 6, 7] [30000000, 20000007]]).b (Zcc h22)).b (Eq.refl (List.map cS v7).length)).b (Zdw cS h25)).b (Zq cS 1 (fun _ => rfl) [(([115, 117, 98, 58] : List UInt8) ++ E0.Sub)])).b (Zdx cS h25)).b (Zcb cS h25))) (fun h19 h => lJ (Z5v r E0 v6 v7 _ h hk) ((q.f 1 h19).o [.stopAt 0, .pick [1, 6, 7] [30000000, 20000007], .pick [1, 6, 7] [30000000, 20000007]])))
theorem Za5g (r : (List UInt8)) (E0 : Zi) (v6 : (List (List UInt8))) (v7 : (List (List UInt8))) (v12 : Int) (y : Ze4 ⊕ (List UInt8)) (h : Z6r E0 v6 v7 v12 = some y) (hk : Zpq r y) : (Zpp (.L5 E0 v6 v7 v12)).HH PR [.t 2] Zo8 Zl2 r (Zqw (.L5 E0 v6 v7 v12)) :=
 Za h (fun h1 h => have q := q0.t 1 h1;
 Zb h fun x2 h3 h => have q := (q.k x2).b (Z3f E0.Keys v12 h3);
 Za h (fun h4 h => Zb h fun x5 h6 h => Zb h fun x8 h9 h => Zb h fun x11 h12 h => lG h hk (((((((((q.t 1 h4).o [.call (wS x5), .lit, .es (List.map cS x11), .pick [12, 7, 1, 6] [20000007, 30000000], .pick [1, 6, 7, 12] [30000000, 20000007]]).b (Zahi v12 h6)).b (Zcc h9)).b (Eq.refl (List.map cS v7).length)).b (Zdw cS h12)).b (Zq cS 1 (fun _ => rfl) [(([119, 105, 116, 104, 58] : List UInt8) ++ x5)])).b (Zdx cS h12)).b (Zcb cS h12))) (fun h4 h => lG h hk ((q.f 1 h4).o [.pick [12, 1, 6, 7] [30000000, 20000007], .pick [1, 6, 7, 12] [30000000, 20000007]]))) (fun h1 h => have q := (q0.f 1 h1).b (Zq cS 1 (fun _ => rfl) v6);
 Zb h fun x19 h20 h => have q := ((q.o [.cs (cS x19)]).b (Z2 h20)).b (Zv cS h20);
 Zb h fun x21 h22 h => have q := (q.o [.callU false [20000007] 1250000 [(5000, .row 1 (List.map cS x21))] (.osl 5000 (List.map cS x21).length)]).b (Zkw v7 x19 h22);
 Zb h fun x23 h24 h => have q := (q.o [.call (wS x23)]).b (Z00 ([112, 111, 119, 101, 114] : List UInt8) E0.Power h24);
 Zb h fun x25 h26 h => have q := (q.o [.callU false [1255000] 1300000 [(5000, .row 1 (List.map cS x25))] (.osl 5000 (List.map cS x25).length)]).b (Zkw x21 x23 h26);
 Zb h fun x27 h28 h => have q := (q.o [.call (wS x27)]).b (Z00 ([116, 111, 117, 103, 104] : List UInt8) E0.Tough h28);
 Zb h fun x29 h30 h => have q := (q.o [.callU false [1305000] 1350000 [(5000, .row 1 (List.map cS x29))] (.osl 5000 (List.map cS x29).length)]).b (Zkw x25 x27 h30);
 Zb h fun x31 h32 h => have q := (q.o [.call (wS x31)]).b (Z00 ([118, 97, 108, 117, 101] : List UInt8) E0.Value h32);
 Zb h fun x33 h34 h => have q := (((q.o [.callU false [1355000] 1400000 [(5000, .row 1 (List.map cS x33))] (.osl 5000 (List.map cS x33).length), .num (x33.length : Int)]).b (Zkw x29 x31 h34)).b (Eq.refl (List.map cS x33).length)).b (Zr cS x33);
 Za h (fun h36 h => lR h hk (q.t 1 h36)) (fun h36 h => Zb h fun x37 h38 h => lR h hk ((((q.f 1 h36).o [.call (wS x37)]).b (Eq.refl (List.map cS x33).length)).b (Zbir x33 ([32] : List UInt8) h38))))
theorem Za9v (r : (List UInt8)) (a0 : Zi) (y : Ze4 ⊕ (List UInt8)) (h : Zaj6 a0 = some y) (hk : Zpq r y) : (Cfg.code Zqg []).HH PR [.t 2] Zo8 Zl2 r ⟨145, idx 0 [(.agg (bx (Zx a0)))], []⟩ := have q := q0.o [.lab 1001];
 Zb h fun x1 h2 h => have q := (q.k x1).b (Znu a0 h2);
 Za h (fun h3 h => lR h hk (q.t 1 h3)) (fun h3 h => Zb h fun x4 h5 h => Zb h fun x6 h7 h => Zb h fun x8 h9 h => Zb h fun x10 h11 h => Zb h fun x12 h13 h => Zb h fun x14 h15 h => Zb h fun x16 h17 h => Zb h fun x18 h19 h => Zb h fun x20 h21 h => Zb h fun x22 h23 h => lG h hk ((((((((((((((((((q.f 1 h3).o [.call (wL cS x4), .call (wL cS x6), .call (wL cS x8), .call (wL cS x10), .cs (cS x12), .ahead 26, .own 20 70000260 1, .stop, .callU false [70000260] 270000 [(5000, .row 1 (List.map cS x14))] (.osl 5000 (List.map cS x14).length), .cs (cS x16), .callU false [275000] 340000 [(5000, .row 1 (List.map cS x18))] (.osl 5000 (List.map cS x18).length), .cs (cS x20), .callU false [345000] 410000 [(5000, .row 1 (List.map cS x22))] (.osl 5000 (List.map cS x22).length), .pick [8, 7, 6, 1] [415000, 1001], .relab 1001 30000000, .relab 415000 20000007, .pick [1, 6, 7, 8] [30000000, 20000007]]).b (Zaxb h5)).b (Za1d h7)).b (Zaxg h9)).b (Za1f h11)).b (Zq cS 1 (fun _ => rfl) x4)).b (Z2 h13)).b (Zv cS h13)).b (Zkw ([] : (List (List UInt8))) x12 h15)).b (Zq cS 1 (fun _ => rfl) x6)).b (Z2 h17)).b (Zv cS h17)).b (Zkw x14 x16 h19)).b (Zq cS 1 (fun _ => rfl) x8)).b (Z2 h21)).b (Zv cS h21)).b (Zkw x18 x20 h23)))
theorem Zbis (a0 : Zi) {r : (List UInt8)} (h : Zaj7 a0 = some r) : Fn PR 146 [(.agg (bx (Zx a0)))] (Zl2 r) :=
 Zb h fun y h0 h1 => FnG.of_cfg hT Go.Proofs.Tryz.func146 (by kernel_rfl : _ = some Zqg) (by kernel_rfl) 145 (by kernel_rfl) (Nat.le_of_ble_eq_true rfl) [.t 2] (by kernel_rfl) (by kernel_rfl) (Za9v r a0 y h0 (Z1 (fun s y h hk => match s with
 | .L0 E0 v6 v7 v8 => Za5c r E0 v6 v7 v8 y h hk
 | .L1 E0 v6 v7 v9 => Za5d r E0 v6 v7 v9 y h hk
 | .L2 E0 v6 v7 v10 => Za5e r E0 v6 v7 v10 y h hk
 | .L3 E0 v6 v7 v11 => Za5f r E0 v6 v7 v11 y h hk
 | .L4 E0 v6 v7 => Z5v r E0 v6 v7 y h hk
 | .L5 E0 v6 v7 v12 => Za5g r E0 v6 v7 v12 y h hk) h1))
noncomputable def Za1k : Code := (Go.Proofs.Tryz.f125.body).getD .skip
noncomputable def Zacp (r : (List UInt8)) : PV := (wS r)
noncomputable def Zavd (r : (List UInt8)) : List (Nat × Blk) := []
noncomputable def Zbec : Zon → Cfg := fun s => nomatch s
noncomputable def Zbit : Zon → PW.St := fun s => nomatch s
abbrev Zbed (r : (List UInt8)) (y : Zon ⊕ (List UInt8)) : Prop := Ok PR [.t 2] (Zavd) Zacp Zbec Zbit r y
theorem Za9w (r : (List UInt8)) (a0 : Zh) (y : Zon ⊕ (List UInt8)) (h : Zaj8 a0 = some y) (hk : Zbed r y) : (Cfg.code Za1k []).HH PR [.t 2] Zavd Zacp r ⟨87, idx 0 [(.agg (bx (Zp a0)))], []⟩ := have q := q0.o [.lab 1001];
 Zb h fun x1 h2 h => have q := (q.k x1).b (Za7s a0 h2);
 Za h (fun h3 h => lR h hk (q.t 1 h3)) (fun h3 h => have q := q.f 1 h3;
 Za h (fun h4 h => lR h hk (q.t 1 h4)) (fun h4 h => have q := q.f 1 h4;
 Za h (fun h5 h => Zb h fun x6 h7 h => Zb h fun x9 h10 h => lR h hk ((((q.t 1 h5).o [.call (wS x6)]).b (Z0v a0.N h7)).b (Zcc h10))) (fun h5 h => have q := q.f 1 h5;
 Za h (fun h11 h => Zb h fun x12 h13 h => Zb h fun x15 h16 h => lR h hk ((((q.t 1 h11).o [.call (wS x12)]).b (Z0v a0.N h13)).b (Zcc h16))) (fun h11 h => have q := q.f 1 h11;
 Za h (fun h17 h => Zb h fun x19 h20 h => lR h hk ((q.t 1 h17).b (Zcc h20))) (fun h17 h => have q := q.f 1 h17;
 Za h (fun h21 h => Zb h fun x23 h24 h => lR h hk ((q.t 1 h21).b (Zcc h24))) (fun h21 h => have q := q.f 1 h21;
 Za h (fun h25 h => Zb h fun x26 h27 h => Zb h fun x29 h30 h => lR h hk ((((q.t 1 h25).o [.call (wS x26)]).b (Zau3 a0.N h27)).b (Zcc h30))) (fun h25 h => have q := q.f 1 h25;
 Za h (fun h31 h => Zb h fun x32 h33 h => Zb h fun x35 h36 h => lR h hk ((((q.t 1 h31).o [.call (wS x32)]).b (Zau3 a0.N h33)).b (Zcc h36))) (fun h31 h => have q := q.f 1 h31;
 Za h (fun h37 h => Zb h fun x38 h39 h => Zb h fun x41 h42 h => lR h hk ((((q.t 1 h37).o [.call (wS x38)]).b (Zau7 a0.N h39)).b (Zcc h42))) (fun h37 h => have q := q.f 1 h37;
 Za h (fun h43 h => Zb h fun x44 h45 h => Zb h fun x47 h48 h => lR h hk ((((q.t 1 h43).o [.call (wS x44)]).b (Zau7 a0.N h45)).b (Zcc h48))) (fun h43 h => have q := q.f 1 h43;
 Za h (fun h49 h => lR h hk (q.t 1 h49)) (fun h49 h => have q := q.f 1 h49;
 Za h (fun h50 h => Zb h fun x51 h52 h => Zb h fun x53 h54 h => Zb h fun x55 h56 h => lR h hk (((((q.t 1 h50).o [.call (wS x51)]).b (Zbis a0.Filter h52)).b (Zcc h54)).b (Zcc h56))) (fun h50 h => have q := q.f 1 h50;
 Za h (fun h57 h => Zb h fun x58 h59 h => Zb h fun x61 h62 h => Zb h fun x63 h64 h => Zb h fun x65 h66 h => Zb h fun x68 h69 h => lR h hk (((((((q.t 1 h57).o [.call (wS x58), .call (wS x65)]).b (Zu5 a0.N h59)).b (Zcc h62)).b (Zcc h64)).b (Zu5 a0.M h66)).b (Zcc h69))) (fun h57 h => have q := q.f 1 h57;
 Za h (fun h70 h => Zb h fun x71 h72 h => Zb h fun x74 h75 h => Zb h fun x76 h77 h => Zb h fun x78 h79 h => Zb h fun x81 h82 h => lR h hk (((((((q.t 1 h70).o [.call (wS x71), .call (wS x78)]).b (Zu5 a0.N h72)).b (Zcc h75)).b (Zcc h77)).b (Zu5 a0.M h79)).b (Zcc h82))) (fun h70 h => lR h hk (q.f 1 h70)))))))))))))))
theorem Zave (a0 : Zh) {r : (List UInt8)} (h : Zabl a0 = some r) : Fn PR 125 [(.agg (bx (Zp a0)))] (Zacp r) :=
 Zb h fun y h0 h1 => FnG.of_cfg hT Go.Proofs.Tryz.func125 (by kernel_rfl : _ = some Za1k) (by kernel_rfl) 87 (by kernel_rfl) (Nat.le_of_ble_eq_true rfl) [.t 2] (by kernel_rfl) (by kernel_rfl) (Za9w r a0 y h0 (Z1 (fun s _ _ _ => nomatch s) h1))
noncomputable def Z5w : Code := (Go.Proofs.Tryz.f105.body).getD .skip
noncomputable def Zto (r : (List UInt8)) : PV := (wS r)
noncomputable def Z3j (r : (List UInt8)) : List (Nat × Blk) := []
noncomputable def Zacq : Zg4 → Cfg
 | .L0 _ _ _ => (nav [1, 1, 1, 0, 1, 4] Z5w []).getD (.done .normal)
noncomputable def Zafp : Zg4 → PW.St
 | .L0 v0 v3 v4 => ⟨37, [(0, (wL Zp v0)), (3, (wS v3)), (4, (wI v4))], []⟩
abbrev Zacr (r : (List UInt8)) (y : Zg4 ⊕ (List UInt8)) : Prop := Ok PR [.t 2] (Z3j) Zto Zacq Zafp r y
theorem Zaqe (r : (List UInt8)) (v0 : (List Zh)) (v3 : (List UInt8)) (v4 : Int) (y : Zg4 ⊕ (List UInt8)) (h : Zvr v0 v3 v4 = some y) (hk : Zacr r y) : (Zacq (.L0 v0 v3 v4)).HH PR [.t 2] Z3j Zto r (Zafp (.L0 v0 v3 v4)) := have q := (q0.n (v0.length : Int)).b (Zr Zp v0);
 Za h (fun h2 h => have q := (q.t 1 h2).b (Zq Zp 20 (fun _ => rfl) v0);
 Zb h fun x3 h4 h => have q := ((q.o [.cs (Zp x3)]).b (Z2 h4)).b (Zv Zp h4);
 Zb h fun x5 h6 h => have q := (q.k x5).b (Za7s x3 h6);
 Za h (fun h7 h => lR h hk (q.t 1 h7)) (fun h7 h => have q := q.f 1 h7;
 Za h (fun h8 h => Zb h fun x9 h10 h => Zb h fun x11 h12 h => Zb h fun x13 h14 h => lG h hk ((((((((q.t 1 h8).o [.cs (Zp x3), .call (wS x11), .pick [4, 3, 0] [], .pick [0, 3, 4] []]).b (Zcc h10)).b (Zq Zp 20 (fun _ => rfl) v0)).b (Z2 h4)).b (Zv Zp h4)).b (Zave x3 h12)).b (Zcc h14))) (fun h8 h => Zb h fun x17 h18 h => Zb h fun x19 h20 h => lG h hk (((((((q.f 1 h8).o [.cs (Zp x3), .call (wS x17), .pick [4, 3, 0] [], .pick [0, 3, 4] []]).b (Zq Zp 20 (fun _ => rfl) v0)).b (Z2 h4)).b (Zv Zp h4)).b (Zave x3 h18)).b (Zcc h20))))) (fun h2 h => lR h hk (q.f 1 h2))
theorem Zato (r : (List UInt8)) (a0 : (List Zh)) (y : Zg4 ⊕ (List UInt8)) (h : Z5e a0 = some y) (hk : Zacr r y) : (Cfg.code Z5w []).HH PR [.t 2] Z3j Zto r ⟨37, idx 0 [(wL Zp a0)], []⟩ := have q := (q0.n (a0.length : Int)).b (Zr Zp a0);
 Za h (fun h2 h => lR h hk (((q.tt 5).a 4 h2).b (Eq.refl true))) (fun h2 h => have q := ((((q.f 2 h2).n (a0.length : Int)).ff 2).b (Zr Zp a0)).a 2 h2;
 Za h (fun h3 h => lR h hk (q.t 1 h3)) (fun h3 h => lG h hk ((q.f 1 h3).o [.pick [4, 3, 0] [], .pick [0, 3, 4] []])))
theorem Z3k (a0 : (List Zh)) {r : (List UInt8)} (h : Zrp a0 = some r) : Fn PR 105 [(wL Zp a0)] (Zto r) :=
 Zb h fun y h0 h1 => FnG.of_cfg hT Go.Proofs.Tryz.func105 (by kernel_rfl : _ = some Z5w) (by kernel_rfl) 37 (by kernel_rfl) (Nat.le_of_ble_eq_true rfl) [.t 2] (by kernel_rfl) (by kernel_rfl) (Zato r a0 y h0 (Z1 (fun s y h hk => match s with
 | .L0 v0 v3 v4 => Zaqe r v0 v3 v4 y h hk) h1))
noncomputable def Zavf : Code := (Go.Proofs.Tryz.f112.body).getD .skip
noncomputable def Z8p (r : Bool) : PV := (wB r)
noncomputable def Zaqf (r : Bool) : List (Nat × Blk) := []
noncomputable def Za9x : Zm9 → Cfg := fun s => nomatch s
noncomputable def Zbee : Zm9 → PW.St := fun s => nomatch s
abbrev Za9y (r : Bool) (y : Zm9 ⊕ Bool) : Prop := Ok PR [.t 2] (Zaqf) Z8p Za9x Zbee r y
theorem Za5h (r : Bool) (a0 : Zii) (y : Zm9 ⊕ Bool) (h : Zago a0 = some y) (hk : Za9y r y) : (Cfg.code Zavf []).HH PR [.t 2] Zaqf Z8p r ⟨22, idx 0 [(.agg (bx (Ze2 a0)))], []⟩ := have q := q0.o [.lab 1001];
 Zb h fun x1 h2 h => have q := (q.k x1).b (Zapn a0.Mana h2);
 Za h (fun h3 h => have q := q.t 5 h3;
 Za h (fun h4 h => have q := q.t 4 h4;
 Za h (fun h5 h => lR h hk (q.t 4 h5)) (fun h5 h => lR h hk (q.f 4 h5))) (fun h4 h => lR h hk (((q.ff 8).a 4 h4).a 4 (Eq.refl false)))) (fun h3 h => lR h hk (((q.ff 13).a 5 h3).a 8 (Eq.refl false)))
theorem Zbef (a0 : Zii) {r : Bool} (h : Zae0 a0 = some r) : Fn PR 112 [(.agg (bx (Ze2 a0)))] (Z8p r) :=
 Zb h fun y h0 h1 => FnG.of_cfg hT Go.Proofs.Tryz.func112 (by kernel_rfl : _ = some Zavf) (by kernel_rfl) 22 (by kernel_rfl) (Nat.le_of_ble_eq_true rfl) [.t 2] (by kernel_rfl) (by kernel_rfl) (Za5h r a0 y h0 (Z1 (fun s _ _ _ => nomatch s) h1))
noncomputable def Za1l : Code := (Go.Proofs.Tryz.f132.body).getD .skip
noncomputable def Zacs (r : (List UInt8)) : PV := (wS r)
noncomputable def Zavg (r : (List UInt8)) : List (Nat × Blk) := []
noncomputable def Zbeg : Zoo → Cfg := fun s => nomatch s
noncomputable def Zbiu : Zoo → PW.St := fun s => nomatch s
abbrev Zbeh (r : (List UInt8)) (y : Zoo ⊕ (List UInt8)) : Prop := Ok PR [.t 2] (Zavg) Zacs Zbeg Zbiu r y
theorem Za9z (r : (List UInt8)) (a0 : Int) (y : Zoo ⊕ (List UInt8)) (h : Zaj9 a0 = some y) (hk : Zbeh r y) : (Cfg.code Za1l []).HH PR [.t 2] Zavg Zacs r ⟨32, idx 0 [(wI a0)], []⟩ :=
 Za h (fun h1 h => lR h hk (q0.t 1 h1)) (fun h1 h => have q := q0.f 1 h1;
 Za h (fun h2 h => lR h hk (q.t 1 h2)) (fun h2 h => have q := q.f 1 h2;
 Za h (fun h3 h => lR h hk (q.t 1 h3)) (fun h3 h => have q := q.f 1 h3;
 Za h (fun h4 h => lR h hk (q.t 1 h4)) (fun h4 h => have q := q.f 1 h4;
 Za h (fun h5 h => lR h hk (q.t 1 h5)) (fun h5 h => have q := q.f 1 h5;
 Za h (fun h6 h => lR h hk (q.t 1 h6)) (fun h6 h => have q := q.f 1 h6;
 Za h (fun h7 h => lR h hk (q.t 1 h7)) (fun h7 h => have q := q.f 1 h7;
 Za h (fun h8 h => lR h hk (q.t 1 h8)) (fun h8 h => have q := q.f 1 h8;
 Za h (fun h9 h => lR h hk (q.t 1 h9)) (fun h9 h => have q := q.f 1 h9;
 Za h (fun h10 h => lR h hk (q.t 1 h10)) (fun h10 h => have q := q.f 1 h10;
 Za h (fun h11 h => lR h hk (q.t 1 h11)) (fun h11 h => have q := q.f 1 h11;
 Za h (fun h12 h => lR h hk (q.t 1 h12)) (fun h12 h => have q := q.f 1 h12;
 Za h (fun h13 h => lR h hk (q.t 1 h13)) (fun h13 h => have q := q.f 1 h13;
 Za h (fun h14 h => lR h hk (q.t 1 h14)) (fun h14 h => lR h hk (q.f 1 h14)))))))))))))))
theorem Zavh (a0 : Int) {r : (List UInt8)} (h : Zabm a0 = some r) : Fn PR 132 [(wI a0)] (Zacs r) :=
 Zb h fun y h0 h1 => FnG.of_cfg hT Go.Proofs.Tryz.func132 (by kernel_rfl : _ = some Za1l) (by kernel_rfl) 32 (by kernel_rfl) (Nat.le_of_ble_eq_true rfl) [.t 2] (by kernel_rfl) (by kernel_rfl) (Za9z r a0 y h0 (Z1 (fun s _ _ _ => nomatch s) h1))
noncomputable def Zaqg : Code := (Go.Proofs.Tryz.f133.body).getD .skip
noncomputable def Z5x (r : Bool) : PV := (wB r)
noncomputable def Zam4 (r : Bool) : List (Nat × Blk) := []
noncomputable def Za5i : Zlo → Cfg := fun s => nomatch s
noncomputable def Za90 : Zlo → PW.St := fun s => nomatch s
abbrev Za5j (r : Bool) (y : Zlo ⊕ Bool) : Prop := Ok PR [.t 2] (Zam4) Z5x Za5i Za90 r y
theorem Za1m (r : Bool) (a0 : Int) (y : Zlo ⊕ Bool) (h : Zabn a0 = some y) (hk : Za5j r y) : (Cfg.code Zaqg []).HH PR [.t 2] Zam4 Z5x r ⟨25, idx 0 [(wI a0)], []⟩ :=
 Za h (fun h1 h => lR h hk (((q0.tt 15).a 3 h1).a 12 (Eq.refl true))) (fun h1 h => have q := q0.f 3 h1;
 Za h (fun h2 h => lR h hk (((q.tt 12).a 3 h2).a 9 (Eq.refl true))) (fun h2 h => have q := q.f 3 h2;
 Za h (fun h3 h => lR h hk (((q.tt 9).a 3 h3).a 6 (Eq.refl true))) (fun h3 h => have q := q.f 3 h3;
 Za h (fun h4 h => lR h hk (((q.tt 6).a 3 h4).a 3 (Eq.refl true))) (fun h4 h => have q := q.f 3 h4;
 Za h (fun h5 h => lR h hk (q.t 3 h5)) (fun h5 h => lR h hk (q.f 3 h5))))))
theorem Zam5 (a0 : Int) {r : Bool} (h : Z2o a0 = some r) : Fn PR 133 [(wI a0)] (Z5x r) :=
 Zb h fun y h0 h1 => FnG.of_cfg hT Go.Proofs.Tryz.func133 (by kernel_rfl : _ = some Zaqg) (by kernel_rfl) 25 (by kernel_rfl) (Nat.le_of_ble_eq_true rfl) [.t 2] (by kernel_rfl) (by kernel_rfl) (Za1m r a0 y h0 (Z1 (fun s _ _ _ => nomatch s) h1))
noncomputable def Zafq : Code := (Go.Proofs.Tryz.f134.body).getD .skip
noncomputable def Zyz (r : Bool) : PV := (wB r)
noncomputable def Zact (r : Bool) : List (Nat × Blk) := []
noncomputable def Zatp : Zis → Cfg := fun s => nomatch s
noncomputable def Zaxo : Zis → PW.St := fun s => nomatch s
abbrev Zatq (r : Bool) (y : Zis ⊕ Bool) : Prop := Ok PR [.t 2] (Zact) Zyz Zatp Zaxo r y
theorem Zaqh (r : Bool) (a0 : Int) (y : Zis ⊕ Bool) (h : Z2p a0 = some y) (hk : Zatq r y) : (Cfg.code Zafq []).HH PR [.t 2] Zact Zyz r ⟨15, idx 0 [(wI a0)], []⟩ :=
 Zb h fun x1 h2 h => have q := (q0.o [.call (wS x1)]).b (Zavh a0 h2);
 Za h (fun h3 h => have q := q.t 2 h3;
 Zb h fun x4 h5 h => have q := (((q.k x4).tt 2).b (Zam5 a0 h5)).a 2 h3;
 Za h (fun h6 h => lR h hk (((((q.tt 5).a 2 h6).b h3).b h6).b h3)) (fun h6 h => lR h hk ((((q.f 2 h6).t 1 h3).f 1 h6).t 1 h3))) (fun h3 h => lR h hk (q.f 6 h3))
theorem Zaxp (a0 : Int) {r : Bool} (h : Zzr a0 = some r) : Fn PR 134 [(wI a0)] (Zyz r) :=
 Zb h fun y h0 h1 => FnG.of_cfg hT Go.Proofs.Tryz.func134 (by kernel_rfl : _ = some Zafq) (by kernel_rfl) 15 (by kernel_rfl) (Nat.le_of_ble_eq_true rfl) [.t 2] (by kernel_rfl) (by kernel_rfl) (Zaqh r a0 y h0 (Z1 (fun s _ _ _ => nomatch s) h1))
noncomputable def Zaxq : Code := (Go.Proofs.Tryz.f113.body).getD .skip
noncomputable def Zaao (r : Bool) : PV := (wB r)
noncomputable def Zaqi (r : Bool) : List (Nat × Blk) := []
noncomputable def Za1n : Zpj → Cfg
 | .L0 _ => (nav [1, 1] Zaxq []).getD (.done .normal)
noncomputable def Za7u : Zpj → PW.St
 | .L0 E0 => ⟨50, [(1, (.bptr 30000000 0))], [(30000000, .box (bx (Zc4 E0)))]⟩
abbrev Za1o (r : Bool) (y : Zpj ⊕ Bool) : Prop := Ok PR [.t 2] (Zaqi) Zaao Za1n Za7u r y
theorem Zacu (r : Bool) (E0 : Zdk) (y : Zpj ⊕ Bool) (h : Z1l E0 = some y) (hk : Za1o r y) : (Za1n (.L0 E0)).HH PR [.t 2] Zaqi Zaao r (Za7u (.L0 E0)) :=
 Zb h fun x1 h2 h => have q := (q0.k x1).b (Zaxp E0.When h2);
 Za h (fun h3 h => lR h hk (q.t 1 h3)) (fun h3 h => have q := q.f 1 h3;
 Za h (fun h4 h => have q := q.t 1 h4;
 Zb h fun x5 h6 h => have q := (q.k x5).b (Znu E0.Filter h6);
 Za h (fun h7 h => lR h hk (q.t 6 h7)) (fun h7 h => lR h hk (q.f 6 h7))) (fun h4 h => have q := q.f 1 h4;
 Zb h fun x8 h9 h => have q := (q.k x8).b (Znu E0.Filter h9);
 Za h (fun h10 h => lR h hk (q.t 6 h10)) (fun h10 h => lR h hk (q.f 6 h10))))
theorem Zbiv (r : Bool) (a0 : Zdk) (y : Zpj ⊕ Bool) (h : Zawm a0 = some y) (hk : Za1o r y) : (Cfg.code Zaxq []).HH PR [.t 2] Zaqi Zaao r ⟨50, idx 0 [(.agg (bx (Zc4 a0)))], []⟩ := have q := q0.o [.lab 1001];
 Zb h fun x1 h2 h => have q := (q.o [.call (wS x1)]).b (Zavh a0.When h2);
 Za h (fun h3 h => lR h hk (((q.tt 16).a 4 h3).a 12 (Eq.refl true))) (fun h3 h => have q := q.f 4 h3;
 Za h (fun h4 h => lR h hk (((q.tt 12).a 4 h4).a 8 (Eq.refl true))) (fun h4 h => have q := q.f 4 h4;
 Za h (fun h5 h => lR h hk (((q.tt 8).a 7 h5).b (Eq.refl true))) (fun h5 h => have q := q.f 3 h5;
 Zb h fun x6 h7 h => have q := (((q.k x6).ff 2).b (Zam5 a0.When h7)).a 2 h5;
 Za h (fun h8 h => have q := (((q.t 3 h8).f 1 h5).t 1 h8).f 1 h5;
 Za h (fun h9 h => lR h hk (q.t 1 h9)) (fun h9 h => lJ (Zacu r a0 _ h hk) ((q.f 1 h9).o [.stopAt 0, .pick [1] [1001], .relab 1001 30000000, .pick [1] [30000000]]))) (fun h8 h => lJ (Zacu r a0 _ h hk) (((((((q.ff 7).o [.stopAt 0, .pick [1] [1001], .relab 1001 30000000, .pick [1] [30000000]]).a 3 h8).b h5).b h8).b h5).b (Eq.refl false))))))
theorem Zbnv (a0 : Zdk) {r : Bool} (h : Zaz8 a0 = some r) : Fn PR 113 [(.agg (bx (Zc4 a0)))] (Zaao r) :=
 Zb h fun y h0 h1 => FnG.of_cfg hT Go.Proofs.Tryz.func113 (by kernel_rfl : _ = some Zaxq) (by kernel_rfl) 50 (by kernel_rfl) (Nat.le_of_ble_eq_true rfl) [.t 2] (by kernel_rfl) (by kernel_rfl) (Zbiv r a0 y h0 (Z1 (fun s y h hk => match s with
 | .L0 E0 => Zacu r E0 y h hk) h1))
noncomputable def Zavi : Code := (Go.Proofs.Tryz.f137.body).getD .skip
noncomputable def Z8q (r : Bool) : PV := (wB r)
noncomputable def Zaqj (r : Bool) : List (Nat × Blk) := []
noncomputable def Za91 : Zna → Cfg := fun s => nomatch s
noncomputable def Zbei : Zna → PW.St := fun s => nomatch s
abbrev Za92 (r : Bool) (y : Zna ⊕ Bool) : Prop := Ok PR [.t 2] (Zaqj) Z8q Za91 Zbei r y
theorem Za5k (r : Bool) (a0 : Zi) (y : Zna ⊕ Bool) (h : Zagp a0 = some y) (hk : Za92 r y) : (Cfg.code Zavi []).HH PR [.t 2] Zaqj Z8q r ⟨10, idx 0 [(.agg (bx (Zx a0)))], []⟩ := have q := q0.o [.lab 1001];
 Zb h fun x1 h2 h => have q := (q.k x1).b (Znu a0 h2);
 Za h (fun h3 h => lR h hk (q.t 4 h3)) (fun h3 h => lR h hk (q.f 4 h3))
theorem Zacv (a0 : Zi) {r : Bool} (h : Z1m a0 = some r) : Fn PR 137 [(.agg (bx (Zx a0)))] (Z8q r) :=
 Zb h fun y h0 h1 => FnG.of_cfg hT Go.Proofs.Tryz.func137 (by kernel_rfl : _ = some Zavi) (by kernel_rfl) 10 (by kernel_rfl) (Nat.le_of_ble_eq_true rfl) [.t 2] (by kernel_rfl) (by kernel_rfl) (Za5k r a0 y h0 (Z1 (fun s _ _ _ => nomatch s) h1))
end
end Go.PW
