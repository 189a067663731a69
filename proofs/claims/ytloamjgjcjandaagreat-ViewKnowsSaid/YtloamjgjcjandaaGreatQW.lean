import Derived.Test.YtloamjgjcjandaaGreatQT
import Derived.Test.YtloamjgjcjandaaGreatQD
import Derived.Test.YtloamjgjcjandaaGreatPwRz
set_option linter.all false
set_option maxRecDepth 100000
namespace Go.PW
open Go.RowKit
instance : Sd PR T := ⟨hm, hT⟩
noncomputable section
noncomputable def Za68 : Code := (Go.Proofs.Tryz.f108.body).getD .skip
noncomputable def Zag4 (r : Bool) : PV := (wB r)
noncomputable def Za0j (r : Bool) : List (Nat × Blk) := []
noncomputable def Zbhw : Zp9 → Cfg := fun s => nomatch s
noncomputable def Zbla : Zp9 → PW.St := fun s => nomatch s
abbrev Zbhx (r : Bool) (y : Zp9 ⊕ Bool) : Prop := Ok PR [.t 2] (Za0j) Zag4 Zbhw Zbla r y
theorem Zbdc (r : Bool) (a0 : Int) (y : Zp9 ⊕ Bool) (h : Zaok a0 = some y) (hk : Zbhx r y) : (Cfg.code Za68 []).HH PR [.t 2] Za0j Zag4 r ⟨9, idx 0 [(.t (.int .u8 a0))], []⟩ :=
 Za h (fun h1 h => lR h hk (q0.t 3 h1)) (fun h1 h => lR h hk (q0.f 3 h1))
theorem Za0k (a0 : Int) {r : Bool} (h : Zaic a0 = some r) : Fn PR 108 [(.t (.int .u8 a0))] (Zag4 r) :=
 Zb h fun y h0 h1 => FnG.of_cfg hT Go.Proofs.Tryz.func108 (by kernel_rfl : _ = some Za68) (by kernel_rfl) 9 (by kernel_rfl) (Nat.le_of_ble_eq_true rfl) [.t 2] (by kernel_rfl) (by kernel_rfl) (Zbdc r a0 y h0 (Z0 (fun s _ _ _ => nomatch s) h1))
noncomputable def Zakz : Code := (Go.Proofs.Tryz.f91.body).getD .skip
noncomputable def Z2z (r : Bool) : PV := (wB r)
noncomputable def Zae7 (r : Bool) : List (Nat × Blk) := []
noncomputable def Zak0 : Zmo → Cfg
 | .L0 _ _ => (nav [1, 1, 0, 1, 4] Zakz []).getD (.done .normal)
 | .L1 _ _ => (nav [1, 1, 0, 1, 4, 5, 1, 0, 4, 1] Zakz []).getD (.done .normal)
noncomputable def Zao4 : Zmo → PW.St
 | .L0 v0 v3 => ⟨70, [(0, (wS v0)), (3, (wI v3))], []⟩
 | .L1 v0 v3 => ⟨70, [(0, (wS v0)), (3, (wI v3))], []⟩
abbrev Zak1 (r : Bool) (y : Zmo ⊕ Bool) : Prop := Ok PR [.t 2] (Zae7) Z2z Zak0 Zao4 r y
theorem Zwt (r : Bool) (v0 : (List UInt8)) (v3 : Int) (y : Zmo ⊕ Bool) (h : Zsx v0 v3 = some y) (hk : Zak1 r y) : (Zak0 (.L1 v0 v3)).HH PR [.t 2] Zae7 Z2z r (Zao4 (.L1 v0 v3)) :=
 Za h (fun h1 h => have q := q0.t 3 h1;
 Zb h fun x2 h3 h => have q := ((((q.o [.byte x2]).tt 2).b (Z2 h3)).b (Zmn h3)).a 2 h1;
 Za h (fun h4 h => have q := q.t 4 h4;
 Zb h fun x7 h8 h => have q := ((((q.o [.byte x7]).tt 2).b (Z2 h8)).b (Zmn h8)).a 2 h4;
 Za h (fun h9 h => lR h hk (q.t 1 h9)) (fun h9 h => lG h hk ((q.f 1 h9).o [.pick [3, 0] [], .pick [0, 3] []]))) (fun h4 h => lG h hk ((((q.ff 7).o [.pick [3, 0] [], .pick [0, 3] []]).a 6 h4).b (Eq.refl false)))) (fun h1 h => lG h hk ((((q0.ff 12).o [.pick [3, 0] [], .pick [0, 3] []]).a 5 h1).a 7 (Eq.refl false)))
theorem Zbdd (r : Bool) (v0 : (List UInt8)) (v3 : Int) (y : Zmo ⊕ Bool) (h : Zaer v0 v3 = some y) (hk : Zak1 r y) : (Zak0 (.L0 v0 v3)).HH PR [.t 2] Zae7 Z2z r (Zao4 (.L0 v0 v3)) := have q := (q0.n (v0.length : Int)).b (Eq.refl (v0.length : Int));
 Za h (fun h2 h => have q := q.t 1 h2;
 Zb h fun x3 h4 h => have q := ((q.o [.byte x3]).b (Z2 h4)).b (Zmn h4);
 Zb h fun x5 h6 h => have q := (q.k x5).b (Za0k (UInt8.toNat x3 : Int) h6);
 Za h (fun h7 h => have q := q.t 3 h7;
 Zb h fun x8 h9 h => have q := ((((q.o [.byte x8]).tt 2).b (Z2 h9)).b (Zmn h9)).a 2 h7;
 Za h (fun h10 h => have q := (((((q.tt 10).a 4 h10).b h7).b h10).b h7).a 3 (Eq.refl true);
 Zb h fun x11 h12 h => have q := ((((q.o [.byte x11]).tt 2).b (Z2 h12)).b (Zmn h12)).a 2 (Eq.refl true);
 Za h (fun h13 h => lR h hk (q.t 1 h13)) (fun h13 h => lJ (Zwt r v0 v3 _ h hk) ((q.f 1 h13).o [.stopAt 0, .pick [0, 3] [], .pick [0, 3] []]))) (fun h10 h => have q := q.f 3 h10;
 Zb h fun x14 h15 h => have q := ((((((q.o [.byte x14]).f 1 (Z2 h15)).t 1 (Zmn h15)).f 1 h10).t 1 h7).b h10).b h7;
 Za h (fun h16 h => have q := q.t 3 h16;
 Zb h fun x17 h18 h => have q := ((((q.o [.byte x17]).tt 2).b (Z2 h18)).b (Zmn h18)).a 2 h16;
 Za h (fun h19 h => lR h hk (q.t 1 h19)) (fun h19 h => lJ (Zwt r v0 v3 _ h hk) ((q.f 1 h19).o [.stopAt 0, .pick [0, 3] [], .pick [0, 3] []]))) (fun h16 h => lJ (Zwt r v0 v3 _ h hk) ((((q.ff 6).o [.stopAt 0, .pick [0, 3] [], .pick [0, 3] []]).a 5 h16).b (Eq.refl false))))) (fun h7 h => lJ (Zwt r v0 v3 _ h hk) ((((q.ff 13).o [.stopAt 0, .pick [0, 3] [], .pick [0, 3] []]).a 7 h7).a 6 (Eq.refl false)))) (fun h2 h => lR h hk (q.f 1 h2))
theorem Zbhy (r : Bool) (a0 : (List UInt8)) (y : Zmo ⊕ Bool) (h : Zav1 a0 = some y) (hk : Zak1 r y) : (Cfg.code Zakz []).HH PR [.t 2] Zae7 Z2z r ⟨70, idx 0 [(wS a0)], []⟩ := have q := (q0.n (a0.length : Int)).b (Eq.refl (a0.length : Int));
 Za h (fun h2 h => lR h hk (((q.tt 17).a 4 h2).a 13 (Eq.refl true))) (fun h2 h => have q := ((((q.f 2 h2).n (a0.length : Int)).ff 2).b (Eq.refl (a0.length : Int))).a 2 h2;
 Za h (fun h3 h => lR h hk (((q.tt 13).a 5 h3).a 8 (Eq.refl true))) (fun h3 h => have q := q.f 2 h3;
 Zb h fun x4 h5 h => have q := (((q.o [.byte x4]).f 1 (Z2 h5)).b (Zmn h5)).b h3;
 Zb h fun x6 h7 h => have q := (((q.k x6).ff 2).b (Za0k (UInt8.toNat x4 : Int) h7)).a 2 h3;
 Za h (fun h8 h => lR h hk (((q.tt 8).a 7 h8).b (Eq.refl true))) (fun h8 h => have q := ((((q.f 3 h8).n (a0.length : Int)).ff 2).b (Eq.refl (a0.length : Int))).a 2 h8;
 Zb h fun x11 h12 h => have q := ((((q.o [.byte x11]).ff 2).b (Z2 h12)).b (Zmn h12)).a 2 h8;
 Za h (fun h13 h => lR h hk (q.t 1 h13)) (fun h13 h => lG h hk ((q.f 1 h13).o [.pick [3, 0] [], .pick [0, 3] []])))))
theorem Zao5 (a0 : (List UInt8)) {r : Bool} (h : Zaid a0 = some r) : Fn PR 91 [(wS a0)] (Z2z r) :=
 Zb h fun y h0 h1 => FnG.of_cfg hT Go.Proofs.Tryz.func91 (by kernel_rfl : _ = some Zakz) (by kernel_rfl) 70 (by kernel_rfl) (Nat.le_of_ble_eq_true rfl) [.t 2] (by kernel_rfl) (by kernel_rfl) (Zbhy r a0 y h0 (Z0 (fun s y h hk => match s with
 | .L0 v0 v3 => Zbdd r v0 v3 y h hk
 | .L1 v0 v3 => Zwt r v0 v3 y h hk) h1))
noncomputable def Zawo : Code := (Go.Proofs.Tryz.f92.body).getD .skip
noncomputable def Zaaa (r : Bool) : PV := (wB r)
noncomputable def Zao6 (r : Bool) : List (Nat × Blk) := []
noncomputable def Za0l : Zn2 → Cfg
 | .L0 _ _ => (nav [1, 1, 0, 1, 4] Zawo []).getD (.done .normal)
noncomputable def Za69 : Zn2 → PW.St
 | .L0 E0 v3 => ⟨38, [(1, (.bptr 30000000 0)), (3, (wI v3))], [(30000000, .box (bx (Zd2 E0)))]⟩
abbrev Za0m (r : Bool) (y : Zn2 ⊕ Bool) : Prop := Ok PR [.t 2] (Zao6) Zaaa Za0l Za69 r y
theorem Zbde (r : Bool) (E0 : Zah) (v3 : Int) (y : Zn2 ⊕ Bool) (h : Z69 E0 v3 = some y) (hk : Za0m r y) : (Za0l (.L0 E0 v3)).HH PR [.t 2] Zao6 Zaaa r (Za69 (.L0 E0 v3)) :=
 Za h (fun h1 h => have q := (q0.t 1 h1).o [.nat (Int.toNat v3)];
 Zb h fun x2 h3 h => have q := ((((q.o [.cell 29 ((cI .i64) x2)]).b (Zwa (Tree.int .i64) E0.Color h3).1).b (Zwa (Tree.int .i64) E0.Color h3).2.1).b (Eq.refl (Int.toNat v3))).b (Zs9 [(wI E0.Generic), (wI E0.X)] [] (Zwa (Tree.int .i64) E0.Color h3).2.2);
 Za h (fun h4 h => lR h hk (((q.tt 7).a 6 h4).b (Eq.refl true))) (fun h4 h => have q := ((q.f 3 h4).o [.nat (Int.toNat v3)]).ff 1;
 Zb h fun x5 h6 h => have q := (((((((q.o [.cell 35 ((cI .i64) x5)]).ff 2).b (Zwa (Tree.int .i64) E0.Color h6).1).b (Zwa (Tree.int .i64) E0.Color h6).2.1).b (Eq.refl (Int.toNat v3))).b h4).b (Zs9 [(wI E0.Generic), (wI E0.X)] [] (Zwa (Tree.int .i64) E0.Color h6).2.2)).a 2 h4;
 Za h (fun h7 h => lR h hk (q.t 1 h7)) (fun h7 h => lG h hk ((q.f 1 h7).o [.pick [3, 1] [30000000], .pick [1, 3] [30000000]])))) (fun h1 h => lR h hk (q0.f 1 h1))
theorem Zbhz (r : Bool) (a0 : Zah) (y : Zn2 ⊕ Bool) (h : Zav2 a0 = some y) (hk : Za0m r y) : (Cfg.code Zawo []).HH PR [.t 2] Zao6 Zaaa r ⟨38, idx 0 [(.agg (bx (Zd2 a0)))], []⟩ := have q := q0.o [.lab 1001];
 Za h (fun h1 h => lR h hk (((q.tt 13).a 4 h1).a 9 (Eq.refl true))) (fun h1 h => have q := q.f 4 h1;
 Za h (fun h2 h => lR h hk (((q.tt 9).a 4 h2).a 5 (Eq.refl true))) (fun h2 h => have q := q.f 4 h2;
 Za h (fun h3 h => lR h hk (((q.tt 5).a 4 h3).b (Eq.refl true))) (fun h3 h => have q := q.f 4 h3;
 Za h (fun h4 h => lR h hk (q.t 1 h4)) (fun h4 h => lG h hk ((q.f 1 h4).o [.pick [3, 1] [1001], .relab 1001 30000000, .pick [1, 3] [30000000]])))))
theorem Zao7 (a0 : Zah) {r : Bool} (h : Zaa9 a0 = some r) : Fn PR 92 [(.agg (bx (Zd2 a0)))] (Zaaa r) :=
 Zb h fun y h0 h1 => FnG.of_cfg hT Go.Proofs.Tryz.func92 (by kernel_rfl : _ = some Zawo) (by kernel_rfl) 38 (by kernel_rfl) (Nat.le_of_ble_eq_true rfl) [.t 2] (by kernel_rfl) (by kernel_rfl) (Zbhz r a0 y h0 (Z0 (fun s y h hk => match s with
 | .L0 E0 v3 => Zbde r E0 v3 y h hk) h1))
noncomputable def Zabu : Code := (Go.Proofs.Tryz.f128.body).getD .skip
noncomputable def Zwu (r : (List (List UInt8))) : PV := (.osl 5000 (List.map cS r).length)
noncomputable def Zyl (r : (List (List UInt8))) : List (Nat × Blk) := [(5000, .row 1 (List.map cS r))]
noncomputable def Zao8 : Zho → Cfg := fun s => nomatch s
noncomputable def Zasr : Zho → PW.St := fun s => nomatch s
abbrev Zao9 (r : (List (List UInt8))) (y : Zho ⊕ (List (List UInt8))) : Prop := Ok PR [.t 0] (Zyl) Zwu Zao8 Zasr r y
theorem Zanr (r : (List (List UInt8))) (y : Zho ⊕ (List (List UInt8))) (h : Z0e = some y) (hk : Zao9 r y) : (Cfg.code Zabu []).HH PR [.t 0] Zyl Zwu r ⟨2, idx 0 [], []⟩ :=
 lO h hk [5000] (q0.o [.lab 1001, .relab 1001 5000])
theorem Zapa {r : (List (List UInt8))} (h : Zrl = some r) : FnG PR 128 [] [] ((Zyl) r) (Zwu r) :=
 Zb h fun y h0 h1 => FnG.of_cfg hT Go.Proofs.Tryz.func128 (by kernel_rfl : _ = some Zabu) (by kernel_rfl) 2 (by kernel_rfl) (Nat.le_of_ble_eq_true rfl) [.t 0] (by kernel_rfl) (by kernel_rfl) (Zanr r y h0 (Z0 (fun s _ _ _ => nomatch s) h1))
theorem Zass {r : (List (List UInt8))} (h : Zrl = some r) : Fn PR 128 [] (wL cS r) :=
 FnG.frozen (Zapa h) (And.intro (Eq.refl (List.map cS r).length) trivial) (by kernel_rfl)
noncomputable def Zag5 : Code := (Go.Proofs.Tryz.f127.body).getD .skip
noncomputable def Zzq (r : Int) : PV := (wI r)
noncomputable def Zabv (r : Int) : List (Nat × Blk) := []
noncomputable def Zamj : Zkb → Cfg
 | .L0 _ _ _ => (nav [1, 0, 1, 4] Zag5 []).getD (.done .normal)
noncomputable def Zapb : Zkb → PW.St
 | .L0 v0 v1 v5 => ⟨19, [(0, (wL cS v0)), (1, (wS v1)), (5, (wI v5))], []⟩
abbrev Zamk (r : Int) (y : Zkb ⊕ Int) : Prop := Ok PR [.t 4] (Zabv) Zzq Zamj Zapb r y
theorem Za0n (r : Int) (v0 : (List (List UInt8))) (v1 : (List UInt8)) (v5 : Int) (y : Zkb ⊕ Int) (h : Z12 v0 v1 v5 = some y) (hk : Zamk r y) : (Zamj (.L0 v0 v1 v5)).HH PR [.t 4] Zabv Zzq r (Zapb (.L0 v0 v1 v5)) := have q := (q0.n (v0.length : Int)).b (Zt cS v0);
 Za h (fun h2 h => have q := (q.t 1 h2).b (Zs cS 1 (fun _ => rfl) v0);
 Zb h fun x3 h4 h => have q := ((q.o [.cs (cS x3)]).b (Z2 h4)).b (Zz cS h4);
 Za h (fun h5 h => lR h hk (q.t 1 h5)) (fun h5 h => lG h hk ((q.f 1 h5).o [.pick [5, 0, 1] [], .pick [0, 1, 5] []]))) (fun h2 h => lR h hk (q.f 1 h2))
theorem Za4q (r : Int) (a0 : (List (List UInt8))) (a1 : (List UInt8)) (y : Zkb ⊕ Int) (h : Zaf9 a0 a1 = some y) (hk : Zamk r y) : (Cfg.code Zag5 []).HH PR [.t 4] Zabv Zzq r ⟨19, idx 0 [(wL cS a0), (wS a1)], []⟩ :=
 lG h hk (q0.o [.pick [5, 1, 0] [], .pick [0, 1, 5] []])
theorem Zapc (a0 : (List (List UInt8))) (a1 : (List UInt8)) {r : Int} (h : Z7a a0 a1 = some r) : Fn PR 127 [(wL cS a0), (wS a1)] (Zzq r) :=
 Zb h fun y h0 h1 => FnG.of_cfg hT Go.Proofs.Tryz.func127 (by kernel_rfl : _ = some Zag5) (by kernel_rfl) 19 (by kernel_rfl) (Nat.le_of_ble_eq_true rfl) [.t 4] (by kernel_rfl) (by kernel_rfl) (Za4q r a0 a1 y h0 (Z0 (fun s y h hk => match s with
 | .L0 v0 v1 v5 => Za0n r v0 v1 v5 y h hk) h1))
noncomputable def Zae8 : Code := (Go.Proofs.Tryz.f129.body).getD .skip
noncomputable def Zym (r : (List (List UInt8))) : PV := (.osl 5000 (List.map cS r).length)
noncomputable def Z0h (r : (List (List UInt8))) : List (Nat × Blk) := [(5000, .row 1 (List.map cS r))]
noncomputable def Zast : Zim → Cfg := fun s => nomatch s
noncomputable def Zawp : Zim → PW.St := fun s => nomatch s
abbrev Zasu (r : (List (List UInt8))) (y : Zim ⊕ (List (List UInt8))) : Prop := Ok PR [.t 0] (Z0h) Zym Zast Zawp r y
theorem Zapd (r : (List (List UInt8))) (y : Zim ⊕ (List (List UInt8))) (h : Z13 = some y) (hk : Zasu r y) : (Cfg.code Zae8 []).HH PR [.t 0] Z0h Zym r ⟨2, idx 0 [], []⟩ :=
 lO h hk [5000] (q0.o [.lab 1001, .relab 1001 5000])
theorem Zasv {r : (List (List UInt8))} (h : Zpz = some r) : FnG PR 129 [] [] ((Z0h) r) (Zym r) :=
 Zb h fun y h0 h1 => FnG.of_cfg hT Go.Proofs.Tryz.func129 (by kernel_rfl : _ = some Zae8) (by kernel_rfl) 2 (by kernel_rfl) (Nat.le_of_ble_eq_true rfl) [.t 0] (by kernel_rfl) (by kernel_rfl) (Zapd r y h0 (Z0 (fun s _ _ _ => nomatch s) h1))
theorem Zabw {r : (List (List UInt8))} (h : Zpz = some r) : Fn PR 129 [] (wL cS r) :=
 FnG.frozen (Zasv h) (And.intro (Eq.refl (List.map cS r).length) trivial) (by kernel_rfl)
noncomputable def Zauh : Code := (Go.Proofs.Tryz.f109.body).getD .skip
noncomputable def Z79 (r : Bool) : PV := (wB r)
noncomputable def Zape (r : Bool) : List (Nat × Blk) := []
noncomputable def Za8v : Zm1 → Cfg := fun s => nomatch s
noncomputable def Zbdf : Zm1 → PW.St := fun s => nomatch s
abbrev Za8w (r : Bool) (y : Zm1 ⊕ Bool) : Prop := Ok PR [.t 2] (Zape) Z79 Za8v Zbdf r y
theorem Za4r (r : Bool) (a0 : (List UInt8)) (y : Zm1 ⊕ Bool) (h : Zaga a0 = some y) (hk : Za8w r y) : (Cfg.code Zauh []).HH PR [.t 2] Zape Z79 r ⟨17, idx 0 [(wS a0)], []⟩ :=
 Zb h fun x1 h2 h => have q := (q0.k x1).b (Zao5 a0 h2);
 Za h (fun h3 h => have q := q.t 1 h3;
 Zb h fun x4 h5 h => have q := (((q.o [.call (wL cS x4)]).tt 2).b (Zass h5)).a 2 h3;
 Zb h fun x6 h7 h => have q := (((q.o [.call (wI x6)]).tt 2).b (Zapc x4 a0 h7)).a 2 h3;
 Za h (fun h8 h => Zb h fun x9 h10 h => Zb h fun x11 h12 h => lR h hk (((((((((q.t 1 h8).o [.call (wL cS x9)]).tt 2).o [.call (wI x11)]).tt 2).b (Zabw h10)).a 2 h8).b (Zapc x9 a0 h12)).a 2 h8)) (fun h8 h => lR h hk (q.f 5 h8))) (fun h3 h => lR h hk (((q.ff 10).a 5 h3).a 5 (Eq.refl false)))
theorem Zabx (a0 : (List UInt8)) {r : Bool} (h : Z03 a0 = some r) : Fn PR 109 [(wS a0)] (Z79 r) :=
 Zb h fun y h0 h1 => FnG.of_cfg hT Go.Proofs.Tryz.func109 (by kernel_rfl : _ = some Zauh) (by kernel_rfl) 17 (by kernel_rfl) (Nat.le_of_ble_eq_true rfl) [.t 2] (by kernel_rfl) (by kernel_rfl) (Za4r r a0 y h0 (Z0 (fun s _ _ _ => nomatch s) h1))
noncomputable def Zapf : Code := (Go.Proofs.Tryz.f110.body).getD .skip
noncomputable def Z6s (r : Bool) : PV := (wB r)
noncomputable def Zak2 (r : Bool) : List (Nat × Blk) := []
noncomputable def Zaui : Znj → Cfg
 | .L0 _ _ _ => (nav [1, 0, 1, 4] Zapf []).getD (.done .normal)
noncomputable def Za0o : Znj → PW.St
 | .L0 v0 v1 v5 => ⟨16, [(0, (wI v0)), (1, (wI v1)), (5, (wI v5))], []⟩
abbrev Zauj (r : Bool) (y : Znj ⊕ Bool) : Prop := Ok PR [.t 4] (Zak2) Z6s Zaui Za0o r y
theorem Za8x (r : Bool) (v0 : Int) (v1 : Int) (v5 : Int) (y : Znj ⊕ Bool) (h : Z91 v0 v1 v5 = some y) (hk : Zauj r y) : (Zaui (.L0 v0 v1 v5)).HH PR [.t 4] Zak2 Z6s r (Za0o (.L0 v0 v1 v5)) :=
 Za h (fun h1 h => lG h hk (((q0.t 1 h1).o [.pick [5, 0, 1] [], .pick [0, 1, 5] []]).b (show (2 : Int) ≠ 0 by decide))) (fun h1 h => lR h hk ((q0.f 1 h1).b (show (2 : Int) ≠ 0 by decide)))
theorem Zbdg (r : Bool) (a0 : Int) (a1 : Int) (y : Znj ⊕ Bool) (h : Zaom a0 a1 = some y) (hk : Zauj r y) : (Cfg.code Zapf []).HH PR [.t 4] Zak2 Z6s r ⟨16, idx 0 [(wI a0), (wI a1)], []⟩ :=
 lG h hk (q0.o [.pick [5, 1, 0] [], .pick [0, 1, 5] []])
theorem Zak3 (a0 : Int) (a1 : Int) {r : Bool} (h : Zaaq a0 a1 = some r) : Fn PR 110 [(wI a0), (wI a1)] (Z6s r) :=
 Zb h fun y h0 h1 => FnG.of_cfg hT Go.Proofs.Tryz.func110 (by kernel_rfl : _ = some Zapf) (by kernel_rfl) 16 (by kernel_rfl) (Nat.le_of_ble_eq_true rfl) [.t 4] (by kernel_rfl) (by kernel_rfl) (Zbdg r a0 a1 y h0 (Z0 (fun s y h hk => match s with
 | .L0 v0 v1 v5 => Za8x r v0 v1 v5 y h hk) h1))
noncomputable def Zawq : Code := (Go.Proofs.Tryz.f93.body).getD .skip
noncomputable def Zaab (r : Bool) : PV := (wB r)
noncomputable def Zapg (r : Bool) : List (Nat × Blk) := []
noncomputable def Za0p : Zpd → Cfg
 | .L0 _ _ => (nav [1, 1, 0, 1, 4] Zawq []).getD (.done .normal)
noncomputable def Za7a : Zpd → PW.St
 | .L0 E0 v3 => ⟨80, [(1, (.bptr 30000000 0)), (3, (wI v3))], [(30000000, .box (bx (Zxz E0)))]⟩
abbrev Za0q (r : Bool) (y : Zpd ⊕ Bool) : Prop := Ok PR [.t 2] (Zapg) Zaab Za0p Za7a r y
theorem Zbdh (r : Bool) (E0 : Zkr) (v3 : Int) (y : Zpd ⊕ Bool) (h : Zaes E0 v3 = some y) (hk : Za0q r y) : (Za0p (.L0 E0 v3)).HH PR [.t 2] Zapg Zaab r (Za7a (.L0 E0 v3)) := have q := (q0.n (E0.Subs.length : Int)).b (Zt cS E0.Subs);
 Za h (fun h2 h => have q := (q.t 1 h2).b (Zs cS 1 (fun _ => rfl) E0.Subs);
 Zb h fun x3 h4 h => have q := ((q.o [.cs (cS x3)]).b (Z2 h4)).b (Zz cS h4);
 Zb h fun x5 h6 h => have q := (q.k x5).b (Zabx x3 h6);
 Za h (fun h7 h => lR h hk (((q.tt 6).a 5 h7).b (Eq.refl true))) (fun h7 h => have q := q.f 3 h7;
 Za h (fun h8 h => have q := (q.t 5 h8).b (Zs cS 1 (fun _ => rfl) E0.Subs);
 Zb h fun x11 h12 h => have q := ((((((((((((((q.o [.cs (cS x11)]).tt 5).o [.cs (cS x3)]).tt 2).f 1 (Z2 h12)).t 1 (Zz cS h12)).ff 1).a 5 h8).b (Zs cS 1 (fun _ => rfl) E0.Subs)).b (Z2 h4)).b (Zz cS h4)).a 2 h8).b h7).b h8).b h7;
 Za h (fun h13 h => lR h hk (q.t 1 h13)) (fun h13 h => lG h hk ((q.f 1 h13).o [.pick [3, 1] [30000000], .pick [1, 3] [30000000]]))) (fun h8 h => lG h hk (((((((q.ff 16).o [.pick [3, 1] [30000000], .pick [1, 3] [30000000]]).a 12 h8).b h7).b h8).b h7).b (Eq.refl false))))) (fun h2 h => have q := q.f 1 h2;
 Za h (fun h18 h => lR h hk (((q.tt 11).a 4 h18).a 7 (Eq.refl true))) (fun h18 h => have q := q.f 4 h18;
 Za h (fun h19 h => lR h hk (q.t 7 h19)) (fun h19 h => have q := q.f 3 h19;
 Zb h fun x20 h21 h => have q := (((q.k x20).ff 2).b (Zak3 E0.Types 1 h21)).a 2 h19;
 Za h (fun h22 h => Zb h fun x23 h24 h => lR h hk (((((((q.t 3 h22).k x23).t 1 (Zak3 E0.Types 2 h24)).f 1 h22).t 1 h19).f 1 h22).b h19)) (fun h22 h => lR h hk (((((q.ff 7).a 4 h22).b h19).b h22).b h19)))))
theorem Zbh0 (r : Bool) (a0 : Zkr) (y : Zpd ⊕ Bool) (h : Zav3 a0 = some y) (hk : Za0q r y) : (Cfg.code Zawq []).HH PR [.t 2] Zapg Zaab r ⟨80, idx 0 [(.agg (bx (Zxz a0)))], []⟩ := have q := q0.o [.lab 1001];
 Za h (fun h1 h => lR h hk (((q.tt 18).a 4 h1).a 14 (Eq.refl true))) (fun h1 h => have q := q.f 4 h1;
 Za h (fun h2 h => lR h hk (((q.tt 14).a 4 h2).a 10 (Eq.refl true))) (fun h2 h => have q := q.f 4 h2;
 Za h (fun h3 h => lR h hk (((q.tt 10).a 4 h3).a 6 (Eq.refl true))) (fun h3 h => have q := q.f 4 h3;
 Za h (fun h4 h => lR h hk (((q.tt 6).a 5 h4).b (Eq.refl true))) (fun h4 h => have q := ((((q.f 3 h4).n (a0.Subs.length : Int)).ff 2).b (Zt cS a0.Subs)).a 2 h4;
 Za h (fun h6 h => lR h hk (q.t 1 h6)) (fun h6 h => lG h hk ((q.f 1 h6).o [.pick [3, 1] [1001], .relab 1001 30000000, .pick [1, 3] [30000000]]))))))
theorem Zbna (a0 : Zkr) {r : Bool} (h : Zazr a0 = some r) : Fn PR 93 [(.agg (bx (Zxz a0)))] (Zaab r) :=
 Zb h fun y h0 h1 => FnG.of_cfg hT Go.Proofs.Tryz.func93 (by kernel_rfl : _ = some Zawq) (by kernel_rfl) 80 (by kernel_rfl) (Nat.le_of_ble_eq_true rfl) [.t 2] (by kernel_rfl) (by kernel_rfl) (Zbh0 r a0 y h0 (Z0 (fun s y h hk => match s with
 | .L0 E0 v3 => Zbdh r E0 v3 y h hk) h1))
noncomputable def Zbdi : Code := (Go.Proofs.Tryz.f94.body).getD .skip
noncomputable def Zak4 (r : Bool) : PV := (wB r)
noncomputable def Za7b (r : Bool) : List (Nat × Blk) := []
noncomputable def Zblb : Zta → Cfg := fun s => nomatch s
noncomputable def Zbnb : Zta → PW.St := fun s => nomatch s
abbrev Zblc (r : Bool) (y : Zta ⊕ Bool) : Prop := Ok PR [.t 2] (Za7b) Zak4 Zblb Zbnb r y
theorem Zbh1 (r : Bool) (a0 : Int) (y : Zta ⊕ Bool) (h : Zav4 a0 = some y) (hk : Zblc r y) : (Cfg.code Zbdi []).HH PR [.t 2] Za7b Zak4 r ⟨9, idx 0 [(wI a0)], []⟩ :=
 Za h (fun h1 h => lR h hk (q0.t 3 h1)) (fun h1 h => lR h hk (q0.f 3 h1))
theorem Za7c (a0 : Int) {r : Bool} (h : Zaon a0 = some r) : Fn PR 94 [(wI a0)] (Zak4 r) :=
 Zb h fun y h0 h1 => FnG.of_cfg hT Go.Proofs.Tryz.func94 (by kernel_rfl : _ = some Zbdi) (by kernel_rfl) 9 (by kernel_rfl) (Nat.le_of_ble_eq_true rfl) [.t 2] (by kernel_rfl) (by kernel_rfl) (Zbh1 r a0 y h0 (Z0 (fun s _ _ _ => nomatch s) h1))
noncomputable def Zail : Code := (Go.Proofs.Tryz.f95.body).getD .skip
noncomputable def Z0i (r : Bool) : PV := (wB r)
noncomputable def Zae9 (r : Bool) : List (Nat × Blk) := []
noncomputable def Zawr : Zjh → Cfg := fun s => nomatch s
noncomputable def Za0r : Zjh → PW.St := fun s => nomatch s
abbrev Zaws (r : Bool) (y : Zjh ⊕ Bool) : Prop := Ok PR [.t 2] (Zae9) Z0i Zawr Za0r r y
theorem Zasw (r : Bool) (a0 : Zu) (y : Zjh ⊕ Bool) (h : Z4y a0 = some y) (hk : Zaws r y) : (Cfg.code Zail []).HH PR [.t 2] Zae9 Z0i r ⟨8, idx 0 [(.agg (bx (Z8 a0)))], []⟩ :=
 lR h hk (q0.o [.lab 1001])
theorem Za0s (a0 : Zu) {r : Bool} (h : Z14 a0 = some r) : Fn PR 95 [(.agg (bx (Z8 a0)))] (Z0i r) :=
 Zb h fun y h0 h1 => FnG.of_cfg hT Go.Proofs.Tryz.func95 (by kernel_rfl : _ = some Zail) (by kernel_rfl) 8 (by kernel_rfl) (Nat.le_of_ble_eq_true rfl) [.t 2] (by kernel_rfl) (by kernel_rfl) (Zasw r a0 y h0 (Z0 (fun s _ _ _ => nomatch s) h1))
noncomputable def Zag6 : Code := (Go.Proofs.Tryz.f130.body).getD .skip
noncomputable def Zzr (r : Bool) : PV := (wB r)
noncomputable def Zaby (r : Bool) : List (Nat × Blk) := []
noncomputable def Zaml : Zkc → Cfg
 | .L0 _ _ _ => (nav [1, 1, 0, 1, 4] Zag6 []).getD (.done .normal)
noncomputable def Zaph : Zkc → PW.St
 | .L0 v0 v1 v7 => ⟨40, [(0, (wI v0)), (1, (wI v1)), (7, (wI v7))], []⟩
abbrev Zamm (r : Bool) (y : Zkc ⊕ Bool) : Prop := Ok PR [.t 6] (Zaby) Zzr Zaml Zaph r y
theorem Za0t (r : Bool) (v0 : Int) (v1 : Int) (v7 : Int) (y : Zkc ⊕ Bool) (h : Z15 v0 v1 v7 = some y) (hk : Zamm r y) : (Zaml (.L0 v0 v1 v7)).HH PR [.t 6] Zaby Zzr r (Zaph (.L0 v0 v1 v7)) :=
 Za h (fun h1 h => have q := (q0.t 1 h1).b (show (2 : Int) ≠ 0 by decide);
 Za h (fun h2 h => have q := (((q.tt 4).a 2 h2).b (show (2 : Int) ≠ 0 by decide)).a 2 h2;
 Za h (fun h3 h => lR h hk (q.t 1 h3)) (fun h3 h => lG h hk (((q.f 1 h3).o [.pick [7, 1, 0] [], .pick [0, 1, 7] []]).a 2 (show (2 : Int) ≠ 0 by decide)))) (fun h2 h => lG h hk (((((q.ff 5).o [.pick [7, 1, 0] [], .pick [0, 1, 7] []]).a 4 h2).b (Eq.refl false)).a 2 (show (2 : Int) ≠ 0 by decide)))) (fun h1 h => lR h hk (q0.f 1 h1))
theorem Za4s (r : Bool) (a0 : Int) (a1 : Int) (a2 : Int) (y : Zkc ⊕ Bool) (h : Zagb a0 a1 a2 = some y) (hk : Zamm r y) : (Cfg.code Zag6 []).HH PR [.t 6] Zaby Zzr r ⟨40, idx 0 [(wI a0), (wI a1), (wI a2)], []⟩ :=
 Za h (fun h1 h => lR h hk (((q0.tt 12).a 4 h1).a 8 (Eq.refl true))) (fun h1 h => have q := q0.f 4 h1;
 Za h (fun h2 h => lR h hk (((q.tt 8).a 3 h2).a 5 (Eq.refl true))) (fun h2 h => have q := q.f 3 h2;
 Za h (fun h3 h => lR h hk (((q.tt 5).a 4 h3).b (Eq.refl true))) (fun h3 h => have q := q.f 4 h3;
 Za h (fun h4 h => lR h hk (q.t 1 h4)) (fun h4 h => lG h hk ((q.f 1 h4).o [.pick [7, 1, 0] [], .pick [0, 1, 7] []])))))
theorem Zapi (a0 : Int) (a1 : Int) (a2 : Int) {r : Bool} (h : Z7b a0 a1 a2 = some r) : Fn PR 130 [(wI a0), (wI a1), (wI a2)] (Zzr r) :=
 Zb h fun y h0 h1 => FnG.of_cfg hT Go.Proofs.Tryz.func130 (by kernel_rfl : _ = some Zag6) (by kernel_rfl) 40 (by kernel_rfl) (Nat.le_of_ble_eq_true rfl) [.t 6] (by kernel_rfl) (by kernel_rfl) (Za4s r a0 a1 a2 y h0 (Z0 (fun s y h hk => match s with
 | .L0 v0 v1 v7 => Za0t r v0 v1 v7 y h hk) h1))
noncomputable def Zauk : Code := (Go.Proofs.Tryz.f131.body).getD .skip
noncomputable def Z8a (r : Bool) : PV := (wB r)
noncomputable def Zapj (r : Bool) : List (Nat × Blk) := []
noncomputable def Za8y : Zm2 → Cfg := fun s => nomatch s
noncomputable def Zbdj : Zm2 → PW.St := fun s => nomatch s
abbrev Za8z (r : Bool) (y : Zm2 ⊕ Bool) : Prop := Ok PR [.t 2] (Zapj) Z8a Za8y Zbdj r y
theorem Za4t (r : Bool) (a0 : Ze) (y : Zm2 ⊕ Bool) (h : Zagc a0 = some y) (hk : Za8z r y) : (Cfg.code Zauk []).HH PR [.t 2] Zapj Z8a r ⟨29, idx 0 [(.agg (bx (Zjd a0)))], []⟩ := have q := q0.o [.lab 1001];
 Za h (fun h1 h => lR h hk (((q.tt 13).a 4 h1).a 9 (Eq.refl true))) (fun h1 h => have q := q.f 4 h1;
 Za h (fun h2 h => lR h hk (((q.tt 9).a 4 h2).a 5 (Eq.refl true))) (fun h2 h => have q := q.f 4 h2;
 Za h (fun h3 h => lR h hk (((q.tt 5).a 4 h3).b (Eq.refl true))) (fun h3 h => have q := q.f 4 h3;
 Za h (fun h4 h => lR h hk (q.t 1 h4)) (fun h4 h => have q := q.f 1 h4;
 Za h (fun h5 h => lR h hk (q.t 4 h5)) (fun h5 h => lR h hk (q.f 4 h5))))))
theorem Zabz (a0 : Ze) {r : Bool} (h : Z04 a0 = some r) : Fn PR 131 [(.agg (bx (Zjd a0)))] (Z8a r) :=
 Zb h fun y h0 h1 => FnG.of_cfg hT Go.Proofs.Tryz.func131 (by kernel_rfl : _ = some Zauk) (by kernel_rfl) 29 (by kernel_rfl) (Nat.le_of_ble_eq_true rfl) [.t 2] (by kernel_rfl) (by kernel_rfl) (Za4t r a0 y h0 (Z0 (fun s _ _ _ => nomatch s) h1))
noncomputable def Zawt : Code := (Go.Proofs.Tryz.f111.body).getD .skip
noncomputable def Zaac (r : Bool) : PV := (wB r)
noncomputable def Zapk (r : Bool) : List (Nat × Blk) := []
noncomputable def Za0u : Zpe → Cfg
 | .L0 _ => (nav [1, 1, 1, 1] Zawt []).getD (.done .normal)
noncomputable def Za7d : Zpe → PW.St
 | .L0 E0 => ⟨87, [(1, (.bptr 30000000 0))], [(30000000, .box (bx (Zv E0)))]⟩
abbrev Za0v (r : Bool) (y : Zpe ⊕ Bool) : Prop := Ok PR [.t 2] (Zapk) Zaac Za0u Za7d r y
theorem Zab0 (r : Bool) (E0 : Zi) (y : Zpe ⊕ Bool) (h : Z05 E0 = some y) (hk : Za0v r y) : (Za0u (.L0 E0)).HH PR [.t 2] Zapk Zaac r (Za7d (.L0 E0)) :=
 Zb h fun x1 h2 h => have q := (q0.k x1).b (Zabz E0.Power h2);
 Za h (fun h3 h => have q := q.t 3 h3;
 Zb h fun x4 h5 h => have q := ((q.k x4).t 1 (Zabz E0.Tough h5)).b h3;
 Za h (fun h6 h => Zb h fun x7 h8 h => lR h hk ((((q.t 3 h6).k x7).t 1 (Zabz E0.Value h8)).b h6)) (fun h6 h => lR h hk (q.f 4 h6))) (fun h3 h => lR h hk (((q.ff 8).a 4 h3).a 4 (Eq.refl false)))
theorem Zbh2 (r : Bool) (a0 : Zi) (y : Zpe ⊕ Bool) (h : Zav5 a0 = some y) (hk : Za0v r y) : (Cfg.code Zawt []).HH PR [.t 2] Zapk Zaac r ⟨87, idx 0 [(.agg (bx (Zv a0)))], []⟩ := have q := q0.o [.lab 1001];
 Za h (fun h1 h => lR h hk (((q.tt 29).a 4 h1).a 25 (Eq.refl true))) (fun h1 h => have q := q.f 4 h1;
 Za h (fun h2 h => lR h hk (((q.tt 25).a 4 h2).a 21 (Eq.refl true))) (fun h2 h => have q := q.f 4 h2;
 Za h (fun h3 h => lR h hk (((q.tt 21).a 4 h3).a 17 (Eq.refl true))) (fun h3 h => have q := q.f 4 h3;
 Za h (fun h4 h => lR h hk (((q.tt 17).a 4 h4).a 13 (Eq.refl true))) (fun h4 h => have q := q.f 4 h4;
 Za h (fun h5 h => lR h hk (((q.tt 13).a 4 h5).a 9 (Eq.refl true))) (fun h5 h => have q := q.f 4 h5;
 Za h (fun h6 h => lR h hk (((q.tt 9).a 4 h6).a 5 (Eq.refl true))) (fun h6 h => have q := q.f 4 h6;
 Za h (fun h7 h => lR h hk (((q.tt 5).a 4 h7).b (Eq.refl true))) (fun h7 h => have q := q.f 4 h7;
 Za h (fun h8 h => lR h hk (q.t 1 h8)) (fun h8 h => have q := q.f 1 h8;
 Zb h fun x9 h10 h => have q := (q.k x9).b (Zapi a0.Types a0.NotTypes 63 h10);
 Za h (fun h11 h => lR h hk (((q.tt 8).a 7 h11).b (Eq.refl true))) (fun h11 h => have q := q.f 5 h11;
 Zb h fun x12 h13 h => have q := (((q.k x12).ff 2).b (Zapi a0.Colors a0.NotColors 31 h13)).a 2 h11;
 Za h (fun h14 h => lR h hk (q.t 1 h14)) (fun h14 h => have q := q.f 1 h14;
 Za h (fun h15 h => have q := q.t 3 h15;
 Zb h fun x16 h17 h => have q := (((q.k x16).tt 2).b (Zabx a0.Sub h17)).a 2 h15;
 Za h (fun h18 h => lR h hk (((q.tt 9).a 4 h18).a 5 (Eq.refl true))) (fun h18 h => have q := q.f 4 h18;
 Za h (fun h19 h => lR h hk (((q.tt 5).a 4 h19).b (Eq.refl true))) (fun h19 h => have q := q.f 4 h19;
 Za h (fun h20 h => lR h hk (q.t 1 h20)) (fun h20 h => lJ (Zab0 r a0 _ h hk) ((q.f 1 h20).o [.stopAt 0, .pick [1] [1001], .relab 1001 30000000, .pick [1] [30000000]]))))) (fun h15 h => have q := ((q.ff 9).a 5 h15).a 4 (Eq.refl false);
 Za h (fun h21 h => lR h hk (((q.tt 5).a 4 h21).b (Eq.refl true))) (fun h21 h => have q := q.f 4 h21;
 Za h (fun h22 h => lR h hk (q.t 1 h22)) (fun h22 h => lJ (Zab0 r a0 _ h hk) ((q.f 1 h22).o [.stopAt 0, .pick [1] [1001], .relab 1001 30000000, .pick [1] [30000000]]))))))))))))))
theorem Znp (a0 : Zi) {r : Bool} (h : Zqa a0 = some r) : Fn PR 111 [(.agg (bx (Zv a0)))] (Zaac r) :=
 Zb h fun y h0 h1 => FnG.of_cfg hT Go.Proofs.Tryz.func111 (by kernel_rfl : _ = some Zawt) (by kernel_rfl) 87 (by kernel_rfl) (Nat.le_of_ble_eq_true rfl) [.t 2] (by kernel_rfl) (by kernel_rfl) (Zbh2 r a0 y h0 (Z0 (fun s y h hk => match s with
 | .L0 E0 => Zab0 r E0 y h hk) h1))
noncomputable def Zaad : Code := (Go.Proofs.Tryz.f141.body).getD .skip
noncomputable def Zwv (r : Zg) : PV := (.agg (bx (Zp r)))
noncomputable def Z6t (r : Zg) : List (Nat × Blk) := []
noncomputable def Zab1 : Zji → Cfg
 | .L0 _ _ _ _ => (nav [1, 1, 1, 0, 1, 4, 1] Zaad []).getD (.done .normal)
 | .L1 _ _ _ _ => (nav [1, 1, 1, 0, 1, 4, 1, 3, 1] Zaad []).getD (.done .normal)
noncomputable def Zag7 : Zji → PW.St
 | .L0 E0 E1 v7 v8 => ⟨30, [(1, (.bptr 30000000 0)), (2, (.bptr 30000001 0)), (7, (wI v7)), (8, (wB v8))], [(30000000, .box (bx (Zp E0))), (30000001, .box (bx (Zp E1)))]⟩
 | .L1 E0 E1 v7 v16 => ⟨30, [(1, (.bptr 30000000 0)), (2, (.bptr 30000001 0)), (7, (wI v7)), (16, (wB v16))], [(30000000, .box (bx (Zp E0))), (30000001, .box (bx (Zp E1)))]⟩
abbrev Zab2 (r : Zg) (y : Zji ⊕ Zg) : Prop := Ok PR [.c 2 136 true 20] (Z6t) Zwv Zab1 Zag7 r y
theorem Z5h (r : Zg) (E0 : Zg) (E1 : Zg) (v7 : Int) (v16 : Bool) (y : Zji ⊕ Zg) (h : Zuv E0 E1 v7 v16 = some y) (hk : Zab2 r y) : (Zab1 (.L1 E0 E1 v7 v16)).HH PR [.c 2 136 true 20] Z6t Zwv r (Zag7 (.L1 E0 E1 v7 v16)) :=
 Za h (fun h1 h => lR h hk (q0.t 1 h1)) (fun h1 h => have q := q0.f 1 h1;
 Za h (fun h2 h => lR h hk (q.t 1 h2)) (fun h2 h => have q := q.f 1 h2;
 Za h (fun h3 h => lR h hk (q.t 2 h3)) (fun h3 h => have q := q.f 1 h3;
 Za h (fun h4 h => lR h hk (q.t 1 h4)) (fun h4 h => lR h hk (q.f 1 h4)))))
theorem Zmx (r : Zg) (E0 : Zg) (E1 : Zg) (v7 : Int) (v8 : Bool) (y : Zji ⊕ Zg) (h : Zlc E0 E1 v7 v8 = some y) (hk : Zab2 r y) : (Zab1 (.L0 E0 E1 v7 v8)).HH PR [.c 2 136 true 20] Z6t Zwv r (Zag7 (.L0 E0 E1 v7 v8)) :=
 Za h (fun h1 h => lR h hk (q0.t 1 h1)) (fun h1 h => have q := q0.f 1 h1;
 Za h (fun h2 h => lJ (Z5h r E0 E1 v7 (v7 == 4) _ h hk) ((q.t 1 h2).o [.stopAt 0, .pick [16, 1, 2, 7] [30000000, 30000001], .pick [1, 2, 7, 16] [30000000, 30000001]])) (fun h2 h => lJ (Z5h r E0 E1 v7 (v7 == 5) _ h hk) ((q.f 1 h2).o [.stopAt 0, .pick [16, 1, 2, 7] [30000000, 30000001], .pick [1, 2, 7, 16] [30000000, 30000001]])))
theorem Za80 (r : Zg) (a0 : Zg) (y : Zji ⊕ Zg) (h : Zajo a0 = some y) (hk : Zab2 r y) : (Cfg.code Zaad []).HH PR [.c 2 136 true 20] Z6t Zwv r ⟨30, idx 0 [(.agg (bx (Zp a0)))], []⟩ := have q := q0.o [.lab 1001, .lab 1002];
 Za h (fun h1 h => lJ (Zmx r (⟨0, a0.N, a0.M, a0.Sub, a0.Filter⟩ : Zg) (⟨0, 0, 0, ([] : List UInt8), (⟨0, 0, 0, 0, 0, 0, 0, ([] : List UInt8), 0, 0, (⟨0, 0⟩ : Ze), (⟨0, 0⟩ : Ze), (⟨0, 0⟩ : Ze)⟩ : Zi)⟩ : Zg) a0.Kind (a0.Kind == 2) _ h hk) ((q.t 1 h1).o [.stopAt 0, .pick [8, 7, 2, 1] [1001, 1002], .relab 1001 30000000, .relab 1002 30000001, .pick [1, 2, 7, 8] [30000000, 30000001]])) (fun h1 h => have q := q.f 1 h1;
 Za h (fun h2 h => lJ (Zmx r (⟨0, a0.N, a0.M, a0.Sub, a0.Filter⟩ : Zg) (⟨0, 0, 0, ([] : List UInt8), (⟨0, 0, 0, 0, 0, 0, 0, ([] : List UInt8), 0, 0, (⟨0, 0⟩ : Ze), (⟨0, 0⟩ : Ze), (⟨0, 0⟩ : Ze)⟩ : Zi)⟩ : Zg) a0.Kind (a0.Kind == 3) _ h hk) ((q.t 1 h2).o [.stopAt 0, .pick [8, 7, 2, 1] [1001, 1002], .relab 1001 30000000, .relab 1002 30000001, .pick [1, 2, 7, 8] [30000000, 30000001]])) (fun h2 h => have q := q.f 1 h2;
 Za h (fun h3 h => lJ (Zmx r (⟨0, a0.N, a0.M, a0.Sub, a0.Filter⟩ : Zg) (⟨0, 0, 0, ([] : List UInt8), (⟨0, 0, 0, 0, 0, 0, 0, ([] : List UInt8), 0, 0, (⟨0, 0⟩ : Ze), (⟨0, 0⟩ : Ze), (⟨0, 0⟩ : Ze)⟩ : Zi)⟩ : Zg) a0.Kind (a0.Kind == 6) _ h hk) ((q.t 1 h3).o [.stopAt 0, .pick [8, 7, 2, 1] [1001, 1002], .relab 1001 30000000, .relab 1002 30000001, .pick [1, 2, 7, 8] [30000000, 30000001]])) (fun h3 h => have q := q.f 1 h3;
 Za h (fun h4 h => lJ (Zmx r (⟨0, a0.N, a0.M, a0.Sub, a0.Filter⟩ : Zg) (⟨0, 0, 0, ([] : List UInt8), (⟨0, 0, 0, 0, 0, 0, 0, ([] : List UInt8), 0, 0, (⟨0, 0⟩ : Ze), (⟨0, 0⟩ : Ze), (⟨0, 0⟩ : Ze)⟩ : Zi)⟩ : Zg) a0.Kind (a0.Kind == 7) _ h hk) ((q.t 1 h4).o [.stopAt 0, .pick [8, 7, 2, 1] [1001, 1002], .relab 1001 30000000, .relab 1002 30000001, .pick [1, 2, 7, 8] [30000000, 30000001]])) (fun h4 h => have q := q.f 1 h4;
 Za h (fun h5 h => lJ (Zmx r (⟨0, a0.N, a0.M, a0.Sub, a0.Filter⟩ : Zg) (⟨0, 0, 0, ([] : List UInt8), (⟨0, 0, 0, 0, 0, 0, 0, ([] : List UInt8), 0, 0, (⟨0, 0⟩ : Ze), (⟨0, 0⟩ : Ze), (⟨0, 0⟩ : Ze)⟩ : Zi)⟩ : Zg) a0.Kind (a0.Kind == 8) _ h hk) ((q.t 1 h5).o [.stopAt 0, .pick [8, 7, 2, 1] [1001, 1002], .relab 1001 30000000, .relab 1002 30000001, .pick [1, 2, 7, 8] [30000000, 30000001]])) (fun h5 h => lJ (Zmx r (⟨0, a0.N, a0.M, a0.Sub, a0.Filter⟩ : Zg) (⟨0, 0, 0, ([] : List UInt8), (⟨0, 0, 0, 0, 0, 0, 0, ([] : List UInt8), 0, 0, (⟨0, 0⟩ : Ze), (⟨0, 0⟩ : Ze), (⟨0, 0⟩ : Ze)⟩ : Zi)⟩ : Zg) a0.Kind (a0.Kind == 9) _ h hk) ((q.f 1 h5).o [.stopAt 0, .pick [8, 7, 2, 1] [1001, 1002], .relab 1001 30000000, .relab 1002 30000001, .pick [1, 2, 7, 8] [30000000, 30000001]]))))))
theorem Zbh3 (a0 : Zg) {r : Zg} (h : Zajp a0 = some r) : Fn PR 141 [(.agg (bx (Zp a0)))] (Zwv r) :=
 Zb h fun y h0 h1 => FnG.of_cfg hT Go.Proofs.Tryz.func141 (by kernel_rfl : _ = some Zaad) (by kernel_rfl) 30 (by kernel_rfl) (Nat.le_of_ble_eq_true rfl) [.c 2 136 true 20] (by kernel_rfl) (by kernel_rfl) (Za80 r a0 y h0 (Z0 (fun s y h hk => match s with
 | .L0 E0 E1 v7 v8 => Zmx r E0 E1 v7 v8 y h hk
 | .L1 E0 E1 v7 v16 => Z5h r E0 E1 v7 v16 y h hk) h1))
noncomputable def Zaul : Code := (Go.Proofs.Tryz.f142.body).getD .skip
noncomputable def Z8b (r : Bool) : PV := (wB r)
noncomputable def Zapl (r : Bool) : List (Nat × Blk) := []
noncomputable def Za81 : Zm3 → Cfg := fun s => nomatch s
noncomputable def Zbdk : Zm3 → PW.St := fun s => nomatch s
abbrev Za82 (r : Bool) (y : Zm3 ⊕ Bool) : Prop := Ok PR [.t 2] (Zapl) Z8b Za81 Zbdk r y
theorem Za4u (r : Bool) (a0 : Int) (y : Zm3 ⊕ Bool) (h : Zagd a0 = some y) (hk : Za82 r y) : (Cfg.code Zaul []).HH PR [.t 2] Zapl Z8b r ⟨14, idx 0 [(wI a0)], []⟩ :=
 Za h (fun h1 h => have q := q0.t 3 h1;
 Za h (fun h2 h => lR h hk (q.t 4 h2)) (fun h2 h => lR h hk (q.f 4 h2))) (fun h1 h => lR h hk (((q0.ff 7).a 3 h1).a 4 (Eq.refl false)))
theorem Zbdl (a0 : Int) {r : Bool} (h : Zaet a0 = some r) : Fn PR 142 [(wI a0)] (Z8b r) :=
 Zb h fun y h0 h1 => FnG.of_cfg hT Go.Proofs.Tryz.func142 (by kernel_rfl : _ = some Zaul) (by kernel_rfl) 14 (by kernel_rfl) (Nat.le_of_ble_eq_true rfl) [.t 2] (by kernel_rfl) (by kernel_rfl) (Za4u r a0 y h0 (Z0 (fun s _ _ _ => nomatch s) h1))
noncomputable def Zab3 : Code := (Go.Proofs.Tryz.f124.body).getD .skip
noncomputable def Zx5 (r : Bool) : PV := (wB r)
noncomputable def Z7m (r : Bool) : List (Nat × Blk) := []
noncomputable def Zaae : Zks → Cfg
 | .L0 _ _ _ => (nav [1, 1, 0, 1, 4, 1] Zab3 []).getD (.done .normal)
 | .L1 _ _ _ => (nav [1, 1, 0, 1, 4, 1, 3, 1] Zab3 []).getD (.done .normal)
 | .L2 _ _ _ => (nav [1, 1, 0, 1, 4, 1, 3, 1, 3, 1, 3, 1, 3, 1] Zab3 []).getD (.done .normal)
noncomputable def Zafa : Zks → PW.St
 | .L0 E0 v18 v19 => ⟨107, [(1, (.bptr 30000000 0)), (18, (wI v18)), (19, (wB v19))], [(30000000, .box (bx (Zp E0)))]⟩
 | .L1 E0 v18 v25 => ⟨107, [(1, (.bptr 30000000 0)), (18, (wI v18)), (25, (wB v25))], [(30000000, .box (bx (Zp E0)))]⟩
 | .L2 E0 v18 v51 => ⟨107, [(1, (.bptr 30000000 0)), (18, (wI v18)), (51, (wB v51))], [(30000000, .box (bx (Zp E0)))]⟩
abbrev Zaaf (r : Bool) (y : Zks ⊕ Bool) : Prop := Ok PR [.t 2] (Z7m) Zx5 Zaae Zafa r y
theorem Zab4 (r : Bool) (E0 : Zg) (v18 : Int) (v51 : Bool) (y : Zks ⊕ Bool) (h : Z06 E0 v18 v51 = some y) (hk : Zaaf r y) : (Zaae (.L2 E0 v18 v51)).HH PR [.t 2] Z7m Zx5 r (Zafa (.L2 E0 v18 v51)) :=
 Za h (fun h1 h => have q := q0.t 1 h1;
 Za h (fun h2 h => lR h hk (q.t 4 h2)) (fun h2 h => lR h hk (q.f 4 h2))) (fun h1 h => have q := q0.f 1 h1;
 Za h (fun h3 h => Zb h fun x4 h5 h => lR h hk (((q.t 1 h3).k x4).b (Znp E0.Filter h5))) (fun h3 h => have q := q.f 1 h3;
 Za h (fun h6 h => have q := q.t 1 h6;
 Za h (fun h7 h => have q := q.t 4 h7;
 Za h (fun h8 h => have q := q.t 4 h8;
 Za h (fun h9 h => lR h hk (q.t 4 h9)) (fun h9 h => lR h hk (q.f 4 h9))) (fun h8 h => lR h hk (((q.ff 8).a 4 h8).a 4 (Eq.refl false)))) (fun h7 h => lR h hk (((q.ff 12).a 4 h7).a 8 (Eq.refl false)))) (fun h6 h => have q := q.f 1 h6;
 Za h (fun h10 h => have q := q.t 1 h10;
 Za h (fun h11 h => have q := q.t 4 h11;
 Za h (fun h12 h => have q := q.t 4 h12;
 Za h (fun h13 h => lR h hk (q.t 4 h13)) (fun h13 h => lR h hk (q.f 4 h13))) (fun h12 h => lR h hk (((q.ff 8).a 4 h12).a 4 (Eq.refl false)))) (fun h11 h => lR h hk (((q.ff 12).a 4 h11).a 8 (Eq.refl false)))) (fun h10 h => lR h hk (q.f 1 h10)))))
theorem Zab5 (r : Bool) (E0 : Zg) (v18 : Int) (v25 : Bool) (y : Zks ⊕ Bool) (h : Z07 E0 v18 v25 = some y) (hk : Zaaf r y) : (Zaae (.L1 E0 v18 v25)).HH PR [.t 2] Z7m Zx5 r (Zafa (.L1 E0 v18 v25)) :=
 Za h (fun h1 h => Zb h fun x2 h3 h => lR h hk (((q0.t 1 h1).k x2).b (Zabx E0.Sub h3))) (fun h1 h => have q := q0.f 1 h1;
 Za h (fun h4 h => have q := q.t 1 h4;
 Za h (fun h5 h => lR h hk (q.t 4 h5)) (fun h5 h => lR h hk (q.f 4 h5))) (fun h4 h => have q := q.f 1 h4;
 Za h (fun h6 h => have q := q.t 1 h6;
 Za h (fun h7 h => lR h hk (q.t 4 h7)) (fun h7 h => lR h hk (q.f 4 h7))) (fun h6 h => have q := q.f 1 h6;
 Za h (fun h8 h => lJ (Zab4 r E0 v18 (v18 == 8) _ h hk) ((q.t 1 h8).o [.stopAt 0, .pick [51, 1, 18] [30000000], .pick [1, 18, 51] [30000000]])) (fun h8 h => lJ (Zab4 r E0 v18 (v18 == 9) _ h hk) ((q.f 1 h8).o [.stopAt 0, .pick [51, 1, 18] [30000000], .pick [1, 18, 51] [30000000]])))))
theorem Zab6 (r : Bool) (E0 : Zg) (v18 : Int) (v19 : Bool) (y : Zks ⊕ Bool) (h : Z08 E0 v18 v19 = some y) (hk : Zaaf r y) : (Zaae (.L0 E0 v18 v19)).HH PR [.t 2] Z7m Zx5 r (Zafa (.L0 E0 v18 v19)) :=
 Za h (fun h1 h => Zb h fun x2 h3 h => lR h hk (((q0.t 1 h1).k x2).b (Zbdl E0.N h3))) (fun h1 h => have q := q0.f 1 h1;
 Za h (fun h4 h => lJ (Zab5 r E0 v18 (v18 == 4) _ h hk) ((q.t 1 h4).o [.stopAt 0, .pick [25, 1, 18] [30000000], .pick [1, 18, 25] [30000000]])) (fun h4 h => lJ (Zab5 r E0 v18 (v18 == 5) _ h hk) ((q.f 1 h4).o [.stopAt 0, .pick [25, 1, 18] [30000000], .pick [1, 18, 25] [30000000]])))
theorem Zbh4 (r : Bool) (a0 : Zg) (y : Zks ⊕ Bool) (h : Zav6 a0 = some y) (hk : Zaaf r y) : (Cfg.code Zab3 []).HH PR [.t 2] Z7m Zx5 r ⟨107, idx 0 [(.agg (bx (Zp a0)))], []⟩ := have q := q0.o [.lab 1001];
 Za h (fun h1 h => lR h hk (((q.tt 10).a 4 h1).a 6 (Eq.refl true))) (fun h1 h => have q := q.f 4 h1;
 Za h (fun h2 h => lR h hk (((q.tt 6).a 5 h2).b (Eq.refl true))) (fun h2 h => have q := q.f 2 h2;
 Zb h fun x3 h4 h => have q := (((q.o [.call (.agg (bx (Zp x3)))]).ff 3).b (Zbh3 a0 h4)).a 3 h2;
 Za h (fun h5 h => lR h hk (q.t 1 h5)) (fun h5 h => have q := q.f 1 h5;
 Za h (fun h6 h => lJ (Zab6 r a0 a0.Kind (a0.Kind == 2) _ h hk) ((q.t 1 h6).o [.stopAt 0, .pick [19, 18, 1] [1001], .relab 1001 30000000, .pick [1, 18, 19] [30000000]])) (fun h6 h => lJ (Zab6 r a0 a0.Kind (a0.Kind == 3) _ h hk) ((q.f 1 h6).o [.stopAt 0, .pick [19, 18, 1] [1001], .relab 1001 30000000, .pick [1, 18, 19] [30000000]])))))
theorem Za7e (a0 : Zg) {r : Bool} (h : Zaoo a0 = some r) : Fn PR 124 [(.agg (bx (Zp a0)))] (Zx5 r) :=
 Zb h fun y h0 h1 => FnG.of_cfg hT Go.Proofs.Tryz.func124 (by kernel_rfl : _ = some Zab3) (by kernel_rfl) 107 (by kernel_rfl) (Nat.le_of_ble_eq_true rfl) [.t 2] (by kernel_rfl) (by kernel_rfl) (Zbh4 r a0 y h0 (Z0 (fun s y h hk => match s with
 | .L0 E0 v18 v19 => Zab6 r E0 v18 v19 y h hk
 | .L1 E0 v18 v25 => Zab5 r E0 v18 v25 y h hk
 | .L2 E0 v18 v51 => Zab4 r E0 v18 v51 y h hk) h1))
noncomputable def Zab7 : Code := (Go.Proofs.Tryz.f157.body).getD .skip
noncomputable def Zx6 (r : (List UInt8)) : PV := (wS r)
noncomputable def Z8c (r : (List UInt8)) : List (Nat × Blk) := []
noncomputable def Zaim : Zi5 → Cfg
 | .L0 _ _ _ _ _ => (nav [1, 1, 0, 1, 4] Zab7 []).getD (.done .normal)
noncomputable def Zamn : Zi5 → PW.St
 | .L0 v0 v1 v2 v7 v8 => ⟨30, [(0, (wL cS v0)), (1, (wI v1)), (2, (wS v2)), (7, (wS v7)), (8, (wI v8))], []⟩
abbrev Zain (r : (List UInt8)) (y : Zi5 ⊕ (List UInt8)) : Prop := Ok PR [.t 6] (Z8c) Zx6 Zaim Zamn r y
theorem Zawu (r : (List UInt8)) (v0 : (List (List UInt8))) (v1 : Int) (v2 : (List UInt8)) (v7 : (List UInt8)) (v8 : Int) (y : Zi5 ⊕ (List UInt8)) (h : Zzi v0 v1 v2 v7 v8 = some y) (hk : Zain r y) : (Zaim (.L0 v0 v1 v2 v7 v8)).HH PR [.t 6] Z8c Zx6 r (Zamn (.L0 v0 v1 v2 v7 v8)) := have q := (q0.n (v0.length : Int)).b (Zt cS v0);
 Za h (fun h2 h => have q := q.t 1 h2;
 Zb h fun x3 h4 h => have q := (q.k x3).b (Zak3 v1 v8 h4);
 Za h (fun h5 h => have q := q.t 1 h5;
 Za h (fun h6 h => Zb h fun x8 h9 h => Zb h fun x10 h11 h => Zb h fun x13 h14 h => lG h hk (((((((q.t 1 h6).o [.cs (cS x10), .pick [8, 7, 0, 1, 2] [], .pick [0, 1, 2, 7, 8] []]).b (Zcb h9)).b (Zs cS 1 (fun _ => rfl) v0)).b (Z2 h11)).b (Zz cS h11)).b (Zcb h14))) (fun h6 h => Zb h fun x17 h18 h => Zb h fun x20 h21 h => lG h hk ((((((q.f 1 h6).o [.cs (cS x17), .pick [8, 7, 0, 1, 2] [], .pick [0, 1, 2, 7, 8] []]).b (Zs cS 1 (fun _ => rfl) v0)).b (Z2 h18)).b (Zz cS h18)).b (Zcb h21)))) (fun h5 h => lG h hk ((q.f 1 h5).o [.pick [8, 0, 1, 2, 7] [], .pick [0, 1, 2, 7, 8] []]))) (fun h2 h => lR h hk (q.f 1 h2))
theorem Za0w (r : (List UInt8)) (a0 : (List (List UInt8))) (a1 : Int) (a2 : (List UInt8)) (y : Zi5 ⊕ (List UInt8)) (h : Zaba a0 a1 a2 = some y) (hk : Zain r y) : (Cfg.code Zab7 []).HH PR [.t 6] Z8c Zx6 r ⟨30, idx 0 [(wL cS a0), (wI a1), (wS a2)], []⟩ :=
 lG h hk (q0.o [.pick [8, 7, 2, 1, 0] [], .pick [0, 1, 2, 7, 8] []])
theorem Za83 (a0 : (List (List UInt8))) (a1 : Int) (a2 : (List UInt8)) {r : (List UInt8)} (h : Z92 a0 a1 a2 = some r) : Fn PR 157 [(wL cS a0), (wI a1), (wS a2)] (Zx6 r) :=
 Zb h fun y h0 h1 => FnG.of_cfg hT Go.Proofs.Tryz.func157 (by kernel_rfl : _ = some Zab7) (by kernel_rfl) 30 (by kernel_rfl) (Nat.le_of_ble_eq_true rfl) [.t 6] (by kernel_rfl) (by kernel_rfl) (Za0w r a0 a1 a2 y h0 (Z0 (fun s y h hk => match s with
 | .L0 v0 v1 v2 v7 v8 => Zawu r v0 v1 v2 v7 v8 y h hk) h1))
noncomputable def Zafb : Code := (Go.Proofs.Tryz.f143.body).getD .skip
noncomputable def Zyn (r : (List UInt8)) : PV := (wS r)
noncomputable def Zab8 (r : (List UInt8)) : List (Nat × Blk) := []
noncomputable def Zasx : Zin → Cfg := fun s => nomatch s
noncomputable def Zawv : Zin → PW.St := fun s => nomatch s
abbrev Zasy (r : (List UInt8)) (y : Zin ⊕ (List UInt8)) : Prop := Ok PR [.t 2] (Zab8) Zyn Zasx Zawv r y
theorem Zapm (r : (List UInt8)) (a0 : Int) (y : Zin ⊕ (List UInt8)) (h : Z16 a0 = some y) (hk : Zasy r y) : (Cfg.code Zafb []).HH PR [.t 2] Zab8 Zyn r ⟨12, idx 0 [(wI a0)], []⟩ :=
 Za h (fun h1 h => lR h hk (((q0.tt 4).a 3 h1).b (Eq.refl true))) (fun h1 h => have q := q0.f 3 h1;
 Za h (fun h2 h => lR h hk (q.t 1 h2)) (fun h2 h => Zb h fun x3 h4 h => Zb h fun x5 h6 h => lR h hk ((((q.f 1 h2).o [.call (wL cS x3), .call (wS x5)]).b (Zabw h4)).b (Za83 x3 a0 ([43] : List UInt8) h6))))
theorem Z0j (a0 : Int) {r : (List UInt8)} (h : Zp0 a0 = some r) : Fn PR 143 [(wI a0)] (Zyn r) :=
 Zb h fun y h0 h1 => FnG.of_cfg hT Go.Proofs.Tryz.func143 (by kernel_rfl : _ = some Zafb) (by kernel_rfl) 12 (by kernel_rfl) (Nat.le_of_ble_eq_true rfl) [.t 2] (by kernel_rfl) (by kernel_rfl) (Zapm r a0 y h0 (Z0 (fun s _ _ _ => nomatch s) h1))
noncomputable def Zbdm : Code := (Go.Proofs.Tryz.f158.body).getD .skip
noncomputable def Zak5 (r : Bool) : PV := (wB r)
noncomputable def Za7f (r : Bool) : List (Nat × Blk) := []
noncomputable def Zbld : Ztb → Cfg := fun s => nomatch s
noncomputable def Zbnc : Ztb → PW.St := fun s => nomatch s
abbrev Zble (r : Bool) (y : Ztb ⊕ Bool) : Prop := Ok PR [.t 2] (Za7f) Zak5 Zbld Zbnc r y
theorem Zbh5 (r : Bool) (a0 : Int) (y : Ztb ⊕ Bool) (h : Zav7 a0 = some y) (hk : Zble r y) : (Cfg.code Zbdm []).HH PR [.t 2] Za7f Zak5 r ⟨9, idx 0 [(wI a0)], []⟩ :=
 Za h (fun h1 h => lR h hk (q0.t 3 h1)) (fun h1 h => lR h hk (q0.f 3 h1))
theorem Zbnd (a0 : Int) {r : Bool} (h : Zazt a0 = some r) : Fn PR 158 [(wI a0)] (Zak5 r) :=
 Zb h fun y h0 h1 => FnG.of_cfg hT Go.Proofs.Tryz.func158 (by kernel_rfl : _ = some Zbdm) (by kernel_rfl) 9 (by kernel_rfl) (Nat.le_of_ble_eq_true rfl) [.t 2] (by kernel_rfl) (by kernel_rfl) (Zbh5 r a0 y h0 (Z0 (fun s _ _ _ => nomatch s) h1))
noncomputable def Za0x : Code := (Go.Proofs.Tryz.f159.body).getD .skip
noncomputable def Zab9 (r : (List UInt8)) : PV := (wS r)
noncomputable def Zaum (r : (List UInt8)) : List (Nat × Blk) := []
noncomputable def Zbdn : Zoe → Cfg := fun s => nomatch s
noncomputable def Zbh6 : Zoe → PW.St := fun s => nomatch s
abbrev Zbdo (r : (List UInt8)) (y : Zoe ⊕ (List UInt8)) : Prop := Ok PR [.t 2] (Zaum) Zab9 Zbdn Zbh6 r y
theorem Za84 (r : (List UInt8)) (a0 : Int) (y : Zoe ⊕ (List UInt8)) (h : Zajq a0 = some y) (hk : Zbdo r y) : (Cfg.code Za0x []).HH PR [.t 2] Zaum Zab9 r ⟨14, idx 0 [(wI a0)], []⟩ :=
 Za h (fun h1 h => lR h hk (q0.t 1 h1)) (fun h1 h => have q := q0.f 1 h1;
 Za h (fun h2 h => lR h hk (q.t 1 h2)) (fun h2 h => have q := q.f 1 h2;
 Za h (fun h3 h => lR h hk (q.t 1 h3)) (fun h3 h => have q := q.f 1 h3;
 Za h (fun h4 h => lR h hk (q.t 1 h4)) (fun h4 h => have q := q.f 1 h4;
 Za h (fun h5 h => lR h hk (q.t 1 h5)) (fun h5 h => lR h hk (q.f 1 h5))))))
theorem Z6u (a0 : Int) {r : (List UInt8)} (h : Z0f a0 = some r) : Fn PR 159 [(wI a0)] (Zab9 r) :=
 Zb h fun y h0 h1 => FnG.of_cfg hT Go.Proofs.Tryz.func159 (by kernel_rfl : _ = some Za0x) (by kernel_rfl) 14 (by kernel_rfl) (Nat.le_of_ble_eq_true rfl) [.t 2] (by kernel_rfl) (by kernel_rfl) (Za84 r a0 y h0 (Z0 (fun s _ _ _ => nomatch s) h1))
noncomputable def Zak6 : Code := (Go.Proofs.Tryz.f144.body).getD .skip
noncomputable def Z20 (r : (List UInt8)) : PV := (wS r)
noncomputable def Zag8 (r : (List UInt8)) : List (Nat × Blk) := []
noncomputable def Zapn : Zlh → Cfg
 | .L0 _ _ _ => (nav [1, 1, 1, 1, 0, 1, 4] Zak6 []).getD (.done .normal)
noncomputable def Zaun : Zlh → PW.St
 | .L0 v0 v3 v4 => ⟨29, [(0, (wI v0)), (3, (wS v3)), (4, (wI v4))], []⟩
abbrev Zapo (r : (List UInt8)) (y : Zlh ⊕ (List UInt8)) : Prop := Ok PR [.t 2] (Zag8) Z20 Zapn Zaun r y
theorem Za4v (r : (List UInt8)) (v0 : Int) (v3 : (List UInt8)) (v4 : Int) (y : Zlh ⊕ (List UInt8)) (h : Z58 v0 v3 v4 = some y) (hk : Zapo r y) : (Zapn (.L0 v0 v3 v4)).HH PR [.t 2] Zag8 Z20 r (Zaun (.L0 v0 v3 v4)) :=
 Za h (fun h1 h => have q := q0.t 1 h1;
 Zb h fun x2 h3 h => have q := q.b (Zcb h3);
 Zb h fun x4 h5 h => have q := (q.b (Zcb h5)).b (show (2 : Int) ≠ 0 by decide);
 Za h (fun h6 h => have q := q.t 1 h6;
 Za h (fun h7 h => Zb h fun x8 h9 h => Zb h fun x10 h11 h => Zb h fun x13 h14 h => lG h hk (((((q.t 1 h7).o [.call (wS x10), .pick [4, 3, 0] [], .pick [0, 3, 4] []]).b (Zcb h9)).b (Z6u v4 h11)).b (Zcb h14))) (fun h7 h => Zb h fun x17 h18 h => Zb h fun x20 h21 h => lG h hk ((((q.f 1 h7).o [.call (wS x17), .pick [4, 3, 0] [], .pick [0, 3, 4] []]).b (Z6u v4 h18)).b (Zcb h21)))) (fun h6 h => lG h hk ((q.f 1 h6).o [.pick [4, 0, 3] [], .pick [0, 3, 4] []]))) (fun h1 h => lR h hk (q0.f 1 h1))
theorem Za85 (r : (List UInt8)) (a0 : Int) (y : Zlh ⊕ (List UInt8)) (h : Zajr a0 = some y) (hk : Zapo r y) : (Cfg.code Zak6 []).HH PR [.t 2] Zag8 Z20 r ⟨29, idx 0 [(wI a0)], []⟩ :=
 Zb h fun x1 h2 h => have q := (q0.k x1).b (Zbnd a0 h2);
 Za h (fun h3 h => lR h hk (q.t 1 h3)) (fun h3 h => have q := q.f 1 h3;
 Za h (fun h4 h => lR h hk (q.t 1 h4)) (fun h4 h => lG h hk ((q.f 1 h4).o [.pick [4, 3, 0] [], .pick [0, 3, 4] []])))
theorem Zauo (a0 : Int) {r : (List UInt8)} (h : Zabb a0 = some r) : Fn PR 144 [(wI a0)] (Z20 r) :=
 Zb h fun y h0 h1 => FnG.of_cfg hT Go.Proofs.Tryz.func144 (by kernel_rfl : _ = some Zak6) (by kernel_rfl) 29 (by kernel_rfl) (Nat.le_of_ble_eq_true rfl) [.t 2] (by kernel_rfl) (by kernel_rfl) (Za85 r a0 y h0 (Z0 (fun s y h hk => match s with
 | .L0 v0 v3 v4 => Za4v r v0 v3 v4 y h hk) h1))
noncomputable def Zaup : Code := (Go.Proofs.Tryz.f175.body).getD .skip
noncomputable def Z8d (r : (List (List UInt8))) : PV := (.osl 5000 (List.map cS r).length)
noncomputable def Zaca (r : (List (List UInt8))) : List (Nat × Blk) := [(5000, .row 1 (List.map cS r))]
noncomputable def Za86 : Zm4 → Cfg := fun s => nomatch s
noncomputable def Zbdp : Zm4 → PW.St := fun s => nomatch s
abbrev Za87 (r : (List (List UInt8))) (y : Zm4 ⊕ (List (List UInt8))) : Prop := Ok PR [.t 0] (Zaca) Z8d Za86 Zbdp r y
theorem Za4w (r : (List (List UInt8))) (y : Zm4 ⊕ (List (List UInt8))) (h : Zage = some y) (hk : Za87 r y) : (Cfg.code Zaup []).HH PR [.t 0] Zaca Z8d r ⟨2, idx 0 [], []⟩ :=
 lO h hk [5000] (q0.o [.lab 1001, .relab 1001 5000])
theorem Za88 {r : (List (List UInt8))} (h : Z7c = some r) : FnG PR 175 [] [] ((Zaca) r) (Z8d r) :=
 Zb h fun y h0 h1 => FnG.of_cfg hT Go.Proofs.Tryz.func175 (by kernel_rfl : _ = some Zaup) (by kernel_rfl) 2 (by kernel_rfl) (Nat.le_of_ble_eq_true rfl) [.t 0] (by kernel_rfl) (by kernel_rfl) (Za4w r y h0 (Z0 (fun s _ _ _ => nomatch s) h1))
theorem Zbdq {r : (List (List UInt8))} (h : Z7c = some r) : Fn PR 175 [] (wL cS r) :=
 FnG.frozen (Za88 h) (And.intro (Eq.refl (List.map cS r).length) trivial) (by kernel_rfl)
noncomputable def Za0y : Code := (Go.Proofs.Tryz.f160.body).getD .skip
noncomputable def Zacb (r : (List UInt8)) : PV := (wS r)
noncomputable def Zauq (r : (List UInt8)) : List (Nat × Blk) := []
noncomputable def Zbdr : Zof → Cfg := fun s => nomatch s
noncomputable def Zbh7 : Zof → PW.St := fun s => nomatch s
abbrev Zbds (r : (List UInt8)) (y : Zof ⊕ (List UInt8)) : Prop := Ok PR [.t 2] (Zauq) Zacb Zbdr Zbh7 r y
theorem Za89 (r : (List UInt8)) (a0 : Int) (y : Zof ⊕ (List UInt8)) (h : Zajs a0 = some y) (hk : Zbds r y) : (Cfg.code Za0y []).HH PR [.t 2] Zauq Zacb r ⟨13, idx 0 [(wI a0)], []⟩ :=
 Za h (fun h1 h => lR h hk (((q0.tt 4).a 3 h1).b (Eq.refl true))) (fun h1 h => have q := q0.f 3 h1;
 Za h (fun h2 h => lR h hk (q.t 1 h2)) (fun h2 h => Zb h fun x3 h4 h => Zb h fun x5 h6 h => lR h hk ((((((q.f 1 h2).o [.call (wL cS x3), .cs (cS x5)]).b (Zbdq h4)).b (Zs cS 1 (fun _ => rfl) x3)).b (Z2 h6)).b (Zz cS h6))))
theorem Zag9 (a0 : Int) {r : (List UInt8)} (h : Z4z a0 = some r) : Fn PR 160 [(wI a0)] (Zacb r) :=
 Zb h fun y h0 h1 => FnG.of_cfg hT Go.Proofs.Tryz.func160 (by kernel_rfl : _ = some Za0y) (by kernel_rfl) 13 (by kernel_rfl) (Nat.le_of_ble_eq_true rfl) [.t 2] (by kernel_rfl) (by kernel_rfl) (Za89 r a0 y h0 (Z0 (fun s _ _ _ => nomatch s) h1))
noncomputable def Zak7 : Code := (Go.Proofs.Tryz.f145.body).getD .skip
noncomputable def Z21 (r : (List UInt8)) : PV := (wS r)
noncomputable def Zaha (r : (List UInt8)) : List (Nat × Blk) := []
noncomputable def Zapp : Zli → Cfg
 | .L0 _ _ _ => (nav [1, 1, 1, 0, 1, 4] Zak7 []).getD (.done .normal)
noncomputable def Zaur : Zli → PW.St
 | .L0 v0 v3 v4 => ⟨28, [(0, (wI v0)), (3, (wS v3)), (4, (wI v4))], []⟩
abbrev Zapq (r : (List UInt8)) (y : Zli ⊕ (List UInt8)) : Prop := Ok PR [.t 2] (Zaha) Z21 Zapp Zaur r y
theorem Za4x (r : (List UInt8)) (v0 : Int) (v3 : (List UInt8)) (v4 : Int) (y : Zli ⊕ (List UInt8)) (h : Z59 v0 v3 v4 = some y) (hk : Zapq r y) : (Zapp (.L0 v0 v3 v4)).HH PR [.t 2] Zaha Z21 r (Zaur (.L0 v0 v3 v4)) :=
 Za h (fun h1 h => have q := (q0.t 1 h1).b (show (2 : Int) ≠ 0 by decide);
 Za h (fun h2 h => have q := q.t 1 h2;
 Za h (fun h3 h => Zb h fun x4 h5 h => Zb h fun x6 h7 h => Zb h fun x9 h10 h => lG h hk ((((((q.t 1 h3).o [.call (wS x6), .pick [4, 0, 3] [], .pick [0, 3, 4] []]).b (Zcb h5)).b (Zag9 v4 h7)).b (Zcb h10)).b (show (2 : Int) ≠ 0 by decide))) (fun h3 h => Zb h fun x13 h14 h => Zb h fun x16 h17 h => lG h hk (((((q.f 1 h3).o [.call (wS x13), .pick [4, 0, 3] [], .pick [0, 3, 4] []]).b (Zag9 v4 h14)).b (Zcb h17)).b (show (2 : Int) ≠ 0 by decide)))) (fun h2 h => lG h hk (((q.f 1 h2).o [.pick [4, 0, 3] [], .pick [0, 3, 4] []]).b (show (2 : Int) ≠ 0 by decide)))) (fun h1 h => have q := q0.f 1 h1;
 Za h (fun h22 h => lR h hk (q.t 1 h22)) (fun h22 h => lR h hk (q.f 1 h22)))
theorem Za9a (r : (List UInt8)) (a0 : Int) (y : Zli ⊕ (List UInt8)) (h : Zajt a0 = some y) (hk : Zapq r y) : (Cfg.code Zak7 []).HH PR [.t 2] Zaha Z21 r ⟨28, idx 0 [(wI a0)], []⟩ :=
 Zb h fun x1 h2 h => have q := (q0.k x1).b (Za7c a0 h2);
 Za h (fun h3 h => lR h hk (q.t 1 h3)) (fun h3 h => lG h hk ((q.f 1 h3).o [.pick [4, 3, 0] [], .pick [0, 3, 4] []]))
theorem Zaus (a0 : Int) {r : (List UInt8)} (h : Zabc a0 = some r) : Fn PR 145 [(wI a0)] (Z21 r) :=
 Zb h fun y h0 h1 => FnG.of_cfg hT Go.Proofs.Tryz.func145 (by kernel_rfl : _ = some Zak7) (by kernel_rfl) 28 (by kernel_rfl) (Nat.le_of_ble_eq_true rfl) [.t 2] (by kernel_rfl) (by kernel_rfl) (Za9a r a0 y h0 (Z0 (fun s y h hk => match s with
 | .L0 v0 v3 v4 => Za4x r v0 v3 v4 y h hk) h1))
noncomputable def Zafc : Code := (Go.Proofs.Tryz.f161.body).getD .skip
noncomputable def Zyo (r : (List (List UInt8))) : PV := (.osl 5000 (List.map cS r).length)
noncomputable def Z0k (r : (List (List UInt8))) : List (Nat × Blk) := [(5000, .row 1 (List.map cS r))]
noncomputable def Zasz : Zio → Cfg := fun s => nomatch s
noncomputable def Zaww : Zio → PW.St := fun s => nomatch s
abbrev Zas0 (r : (List (List UInt8))) (y : Zio ⊕ (List (List UInt8))) : Prop := Ok PR [.t 0] (Z0k) Zyo Zasz Zaww r y
theorem Zapr (r : (List (List UInt8))) (y : Zio ⊕ (List (List UInt8))) (h : Z17 = some y) (hk : Zas0 r y) : (Cfg.code Zafc []).HH PR [.t 0] Z0k Zyo r ⟨2, idx 0 [], []⟩ :=
 lO h hk [5000] (q0.o [.lab 1001, .relab 1001 5000])
theorem Zas1 {r : (List (List UInt8))} (h : Zuc = some r) : FnG PR 161 [] [] ((Z0k) r) (Zyo r) :=
 Zb h fun y h0 h1 => FnG.of_cfg hT Go.Proofs.Tryz.func161 (by kernel_rfl : _ = some Zafc) (by kernel_rfl) 2 (by kernel_rfl) (Nat.le_of_ble_eq_true rfl) [.t 0] (by kernel_rfl) (by kernel_rfl) (Zapr r y h0 (Z0 (fun s _ _ _ => nomatch s) h1))
theorem Zawx {r : (List (List UInt8))} (h : Zuc = some r) : Fn PR 161 [] (wL cS r) :=
 FnG.frozen (Zas1 h) (And.intro (Eq.refl (List.map cS r).length) trivial) (by kernel_rfl)
noncomputable def Zaio : Code := (Go.Proofs.Tryz.f162.body).getD .skip
noncomputable def Z0l (r : (List (List UInt8))) : PV := (.osl 5000 (List.map cS r).length)
noncomputable def Z22 (r : (List (List UInt8))) : List (Nat × Blk) := [(5000, .row 1 (List.map cS r))]
noncomputable def Zawy : Zjj → Cfg := fun s => nomatch s
noncomputable def Za0z : Zjj → PW.St := fun s => nomatch s
abbrev Zawz (r : (List (List UInt8))) (y : Zjj ⊕ (List (List UInt8))) : Prop := Ok PR [.t 0] (Z22) Z0l Zawy Za0z r y
theorem Zas2 (r : (List (List UInt8))) (y : Zjj ⊕ (List (List UInt8))) (h : Z40 = some y) (hk : Zawz r y) : (Cfg.code Zaio []).HH PR [.t 0] Z22 Z0l r ⟨2, idx 0 [], []⟩ :=
 lO h hk [5000] (q0.o [.lab 1001, .relab 1001 5000])
theorem Zaw0 {r : (List (List UInt8))} (h : Zwd = some r) : FnG PR 162 [] [] ((Z22) r) (Z0l r) :=
 Zb h fun y h0 h1 => FnG.of_cfg hT Go.Proofs.Tryz.func162 (by kernel_rfl : _ = some Zaio) (by kernel_rfl) 2 (by kernel_rfl) (Nat.le_of_ble_eq_true rfl) [.t 0] (by kernel_rfl) (by kernel_rfl) (Zas2 r y h0 (Z0 (fun s _ _ _ => nomatch s) h1))
theorem Za00 {r : (List (List UInt8))} (h : Zwd = some r) : Fn PR 162 [] (wL cS r) :=
 FnG.frozen (Zaw0 h) (And.intro (Eq.refl (List.map cS r).length) trivial) (by kernel_rfl)
noncomputable def Zafd : Code := (Go.Proofs.Tryz.f163.body).getD .skip
noncomputable def Zyp (r : (List (List UInt8))) : PV := (.osl 5000 (List.map cS r).length)
noncomputable def Z0m (r : (List (List UInt8))) : List (Nat × Blk) := [(5000, .row 1 (List.map cS r))]
noncomputable def Zas3 : Zip → Cfg := fun s => nomatch s
noncomputable def Zaw1 : Zip → PW.St := fun s => nomatch s
abbrev Zas4 (r : (List (List UInt8))) (y : Zip ⊕ (List (List UInt8))) : Prop := Ok PR [.t 0] (Z0m) Zyp Zas3 Zaw1 r y
theorem Zaps (r : (List (List UInt8))) (y : Zip ⊕ (List (List UInt8))) (h : Z18 = some y) (hk : Zas4 r y) : (Cfg.code Zafd []).HH PR [.t 0] Z0m Zyp r ⟨2, idx 0 [], []⟩ :=
 lO h hk [5000] (q0.o [.lab 1001, .relab 1001 5000])
theorem Zas5 {r : (List (List UInt8))} (h : Zud = some r) : FnG PR 163 [] [] ((Z0m) r) (Zyp r) :=
 Zb h fun y h0 h1 => FnG.of_cfg hT Go.Proofs.Tryz.func163 (by kernel_rfl : _ = some Zafd) (by kernel_rfl) 2 (by kernel_rfl) (Nat.le_of_ble_eq_true rfl) [.t 0] (by kernel_rfl) (by kernel_rfl) (Zaps r y h0 (Z0 (fun s _ _ _ => nomatch s) h1))
theorem Zaw2 {r : (List (List UInt8))} (h : Zud = some r) : Fn PR 163 [] (wL cS r) :=
 FnG.frozen (Zas5 h) (And.intro (Eq.refl (List.map cS r).length) trivial) (by kernel_rfl)
noncomputable def Zaip : Code := (Go.Proofs.Tryz.f164.body).getD .skip
noncomputable def Z0n (r : (List (List UInt8))) : PV := (.osl 5000 (List.map cS r).length)
noncomputable def Z23 (r : (List (List UInt8))) : List (Nat × Blk) := [(5000, .row 1 (List.map cS r))]
noncomputable def Zaw3 : Zjk → Cfg := fun s => nomatch s
noncomputable def Za01 : Zjk → PW.St := fun s => nomatch s
abbrev Zaw4 (r : (List (List UInt8))) (y : Zjk ⊕ (List (List UInt8))) : Prop := Ok PR [.t 0] (Z23) Z0n Zaw3 Za01 r y
theorem Zas6 (r : (List (List UInt8))) (y : Zjk ⊕ (List (List UInt8))) (h : Z41 = some y) (hk : Zaw4 r y) : (Cfg.code Zaip []).HH PR [.t 0] Z23 Z0n r ⟨2, idx 0 [], []⟩ :=
 lO h hk [5000] (q0.o [.lab 1001, .relab 1001 5000])
theorem Zaw5 {r : (List (List UInt8))} (h : Zwe = some r) : FnG PR 164 [] [] ((Z23) r) (Z0n r) :=
 Zb h fun y h0 h1 => FnG.of_cfg hT Go.Proofs.Tryz.func164 (by kernel_rfl : _ = some Zaip) (by kernel_rfl) 2 (by kernel_rfl) (Nat.le_of_ble_eq_true rfl) [.t 0] (by kernel_rfl) (by kernel_rfl) (Zas6 r y h0 (Z0 (fun s _ _ _ => nomatch s) h1))
theorem Za02 {r : (List (List UInt8))} (h : Zwe = some r) : Fn PR 164 [] (wL cS r) :=
 FnG.frozen (Zaw5 h) (And.intro (Eq.refl (List.map cS r).length) trivial) (by kernel_rfl)
noncomputable def Zapt : Code := (Go.Proofs.Tryz.f166.body).getD .skip
noncomputable def Z6v (r : Bool) : PV := (wB r)
noncomputable def Zak8 (r : Bool) : List (Nat × Blk) := []
noncomputable def Zaut : Znk → Cfg
 | .L0 _ _ _ => (nav [1, 0, 1, 4] Zapt []).getD (.done .normal)
noncomputable def Za03 : Znk → PW.St
 | .L0 v0 v1 v5 => ⟨16, [(0, (wI v0)), (1, (wI v1)), (5, (wI v5))], []⟩
abbrev Zauu (r : Bool) (y : Znk ⊕ Bool) : Prop := Ok PR [.t 4] (Zak8) Z6v Zaut Za03 r y
theorem Za9b (r : Bool) (v0 : Int) (v1 : Int) (v5 : Int) (y : Znk ⊕ Bool) (h : Z93 v0 v1 v5 = some y) (hk : Zauu r y) : (Zaut (.L0 v0 v1 v5)).HH PR [.t 4] Zak8 Z6v r (Za03 (.L0 v0 v1 v5)) :=
 Za h (fun h1 h => lG h hk (((q0.t 1 h1).o [.pick [5, 0, 1] [], .pick [0, 1, 5] []]).b (show (2 : Int) ≠ 0 by decide))) (fun h1 h => lR h hk ((q0.f 1 h1).b (show (2 : Int) ≠ 0 by decide)))
theorem Zbdt (r : Bool) (a0 : Int) (a1 : Int) (y : Znk ⊕ Bool) (h : Zaos a0 a1 = some y) (hk : Zauu r y) : (Cfg.code Zapt []).HH PR [.t 4] Zak8 Z6v r ⟨16, idx 0 [(wI a0), (wI a1)], []⟩ :=
 lG h hk (q0.o [.pick [5, 1, 0] [], .pick [0, 1, 5] []])
theorem Z24 (a0 : Int) (a1 : Int) {r : Bool} (h : Z09 a0 a1 = some r) : Fn PR 166 [(wI a0), (wI a1)] (Z6v r) :=
 Zb h fun y h0 h1 => FnG.of_cfg hT Go.Proofs.Tryz.func166 (by kernel_rfl : _ = some Zapt) (by kernel_rfl) 16 (by kernel_rfl) (Nat.le_of_ble_eq_true rfl) [.t 4] (by kernel_rfl) (by kernel_rfl) (Zbdt r a0 a1 y h0 (Z0 (fun s y h hk => match s with
 | .L0 v0 v1 v5 => Za9b r v0 v1 v5 y h hk) h1))
noncomputable def Z5i : Code := (Go.Proofs.Tryz.f167.body).getD .skip
noncomputable def Ztj (r : (List UInt8)) : PV := (wS r)
noncomputable def Z25 (r : (List UInt8)) : List (Nat × Blk) := []
noncomputable def Zacc : Zg2 → Cfg
 | .L0 _ _ _ => (nav [1, 1, 0, 1, 4] Z5i []).getD (.done .normal)
noncomputable def Zafe : Zg2 → PW.St
 | .L0 v0 v3 v4 => ⟨14, [(0, (wI v0)), (3, (wI v3)), (4, (wI v4))], []⟩
abbrev Zacd (r : (List UInt8)) (y : Zg2 ⊕ (List UInt8)) : Prop := Ok PR [.t 2] (Z25) Ztj Zacc Zafe r y
theorem Zapu (r : (List UInt8)) (v0 : Int) (v3 : Int) (v4 : Int) (y : Zg2 ⊕ (List UInt8)) (h : Zvk v0 v3 v4 = some y) (hk : Zacd r y) : (Zacc (.L0 v0 v3 v4)).HH PR [.t 2] Z25 Ztj r (Zafe (.L0 v0 v3 v4)) :=
 Za h (fun h1 h => lG h hk ((q0.t 1 h1).o [.pick [4, 3, 0] [], .pick [0, 3, 4] []])) (fun h1 h => Zb h fun x6 h7 h => lR h hk (((q0.f 1 h1).o [.call (wS x6)]).b (Z0j v3 h7)))
theorem Zas7 (r : (List UInt8)) (a0 : Int) (y : Zg2 ⊕ (List UInt8)) (h : Z42 a0 = some y) (hk : Zacd r y) : (Cfg.code Z5i []).HH PR [.t 2] Z25 Ztj r ⟨14, idx 0 [(wI a0)], []⟩ :=
 lG h hk (q0.o [.pick [4, 3, 0] [], .pick [0, 3, 4] []])
theorem Zaff (a0 : Int) {r : (List UInt8)} (h : Zwf a0 = some r) : Fn PR 167 [(wI a0)] (Ztj r) :=
 Zb h fun y h0 h1 => FnG.of_cfg hT Go.Proofs.Tryz.func167 (by kernel_rfl : _ = some Z5i) (by kernel_rfl) 14 (by kernel_rfl) (Nat.le_of_ble_eq_true rfl) [.t 2] (by kernel_rfl) (by kernel_rfl) (Zas7 r a0 y h0 (Z0 (fun s y h hk => match s with
 | .L0 v0 v3 v4 => Zapu r v0 v3 v4 y h hk) h1))
noncomputable def Zauv : Code := (Go.Proofs.Tryz.f176.body).getD .skip
noncomputable def Z8e (r : (List (List UInt8))) : PV := (.osl 5000 (List.map cS r).length)
noncomputable def Zace (r : (List (List UInt8))) : List (Nat × Blk) := [(5000, .row 1 (List.map cS r))]
noncomputable def Za9c : Zm5 → Cfg := fun s => nomatch s
noncomputable def Zbdu : Zm5 → PW.St := fun s => nomatch s
abbrev Za9d (r : (List (List UInt8))) (y : Zm5 ⊕ (List (List UInt8))) : Prop := Ok PR [.t 0] (Zace) Z8e Za9c Zbdu r y
theorem Za4y (r : (List (List UInt8))) (y : Zm5 ⊕ (List (List UInt8))) (h : Zagf = some y) (hk : Za9d r y) : (Cfg.code Zauv []).HH PR [.t 0] Zace Z8e r ⟨2, idx 0 [], []⟩ :=
 lO h hk [5000] (q0.o [.lab 1001, .relab 1001 5000])
theorem Za9e {r : (List (List UInt8))} (h : Z7d = some r) : FnG PR 176 [] [] ((Zace) r) (Z8e r) :=
 Zb h fun y h0 h1 => FnG.of_cfg hT Go.Proofs.Tryz.func176 (by kernel_rfl : _ = some Zauv) (by kernel_rfl) 2 (by kernel_rfl) (Nat.le_of_ble_eq_true rfl) [.t 0] (by kernel_rfl) (by kernel_rfl) (Za4y r y h0 (Z0 (fun s _ _ _ => nomatch s) h1))
theorem Zbdv {r : (List (List UInt8))} (h : Z7d = some r) : Fn PR 176 [] (wL cS r) :=
 FnG.frozen (Za9e h) (And.intro (Eq.refl (List.map cS r).length) trivial) (by kernel_rfl)
noncomputable def Zacf : Code := (Go.Proofs.Tryz.f170.body).getD .skip
noncomputable def Zx7 (r : (List UInt8)) : PV := (wS r)
noncomputable def Z8f (r : (List UInt8)) : List (Nat × Blk) := []
noncomputable def Zaiq : Zlj → Cfg
 | .L0 _ _ => (nav [1, 1, 0, 1, 4] Zacf []).getD (.done .normal)
noncomputable def Zamo : Zlj → PW.St
 | .L0 v0 v3 => ⟨25, [(0, (.t (.int .u64 v0))), (3, (wS v3))], []⟩
abbrev Zair (r : (List UInt8)) (y : Zlj ⊕ (List UInt8)) : Prop := Ok PR [.t 2] (Z8f) Zx7 Zaiq Zamo r y
theorem Zaw6 (r : (List UInt8)) (v0 : Int) (v3 : (List UInt8)) (y : Zlj ⊕ (List UInt8)) (h : Zme v0 v3 = some y) (hk : Zair r y) : (Zaiq (.L0 v0 v3)).HH PR [.t 2] Z8f Zx7 r (Zamo (.L0 v0 v3)) :=
 Za h (fun h1 h => Zb h fun x5 h6 h => Zb h fun x9 h10 h => lG h hk (((((((q0.t 1 h1).o [.lit, .cs [.str x5], .pick [0, 3] [], .pick [0, 3] []]).b (show (10 : Int) ≠ 0 by decide)).b (Zaen h6).1).b (Zaen h6).2).b (Zcb h10)).b (show (10 : Int) ≠ 0 by decide))) (fun h1 h => lR h hk (q0.f 1 h1))
theorem Za04 (r : (List UInt8)) (a0 : Int) (y : Zlj ⊕ (List UInt8)) (h : Zabd a0 = some y) (hk : Zair r y) : (Cfg.code Zacf []).HH PR [.t 2] Z8f Zx7 r ⟨25, idx 0 [(.t (.int .u64 a0))], []⟩ :=
 Zb h fun x4 h5 h => lG h hk (((((q0.o [.lit, .cs [.str x4], .pick [0, 3] [], .pick [0, 3] []]).b (show (10 : Int) ≠ 0 by decide)).b (Zaen h5).1).b (Zaen h5).2).b (show (10 : Int) ≠ 0 by decide))
theorem Zamp (a0 : Int) {r : (List UInt8)} (h : Z2a a0 = some r) : Fn PR 170 [(.t (.int .u64 a0))] (Zx7 r) :=
 Zb h fun y h0 h1 => FnG.of_cfg hT Go.Proofs.Tryz.func170 (by kernel_rfl : _ = some Zacf) (by kernel_rfl) 25 (by kernel_rfl) (Nat.le_of_ble_eq_true rfl) [.t 2] (by kernel_rfl) (by kernel_rfl) (Za04 r a0 y h0 (Z0 (fun s y h hk => match s with
 | .L0 v0 v3 => Zaw6 r v0 v3 y h hk) h1))
noncomputable def Za05 : Code := (Go.Proofs.Tryz.f147.body).getD .skip
noncomputable def Zacg (r : (List UInt8)) : PV := (wS r)
noncomputable def Zauw (r : (List UInt8)) : List (Nat × Blk) := []
noncomputable def Zbdw : Zog → Cfg := fun s => nomatch s
noncomputable def Zbh8 : Zog → PW.St := fun s => nomatch s
abbrev Zbdx (r : (List UInt8)) (y : Zog ⊕ (List UInt8)) : Prop := Ok PR [.t 2] (Zauw) Zacg Zbdw Zbh8 r y
theorem Za9f (r : (List UInt8)) (a0 : Int) (y : Zog ⊕ (List UInt8)) (h : Zaju a0 = some y) (hk : Zbdx r y) : (Cfg.code Za05 []).HH PR [.t 2] Zauw Zacg r ⟨13, idx 0 [(wI a0)], []⟩ :=
 Za h (fun h1 h => Zb h fun x4 h5 h => Zb h fun x7 h8 h => lR h hk ((((q0.t 1 h1).o [.call (wS x4)]).b (Zamp (IntKind.wrap .u64 (0 - (IntKind.wrap .u64 a0))) h5)).b (Zcb h8))) (fun h1 h => Zb h fun x10 h11 h => lR h hk (((q0.f 1 h1).o [.call (wS x10)]).b (Zamp (IntKind.wrap .u64 a0) h11)))
theorem Zu0 (a0 : Int) {r : (List UInt8)} (h : Ztc a0 = some r) : Fn PR 147 [(wI a0)] (Zacg r) :=
 Zb h fun y h0 h1 => FnG.of_cfg hT Go.Proofs.Tryz.func147 (by kernel_rfl : _ = some Za05) (by kernel_rfl) 13 (by kernel_rfl) (Nat.le_of_ble_eq_true rfl) [.t 2] (by kernel_rfl) (by kernel_rfl) (Za9f r a0 y h0 (Z0 (fun s _ _ _ => nomatch s) h1))
noncomputable def Zafg : Code := (Go.Proofs.Tryz.f168.body).getD .skip
noncomputable def Zyq (r : (List UInt8)) : PV := (wS r)
noncomputable def Zach (r : (List UInt8)) : List (Nat × Blk) := []
noncomputable def Zas8 : Ziq → Cfg := fun s => nomatch s
noncomputable def Zaw7 : Ziq → PW.St := fun s => nomatch s
abbrev Zas9 (r : (List UInt8)) (y : Ziq ⊕ (List UInt8)) : Prop := Ok PR [.t 4] (Zach) Zyq Zas8 Zaw7 r y
theorem Zapv (r : (List UInt8)) (a0 : (List UInt8)) (a1 : Ze) (y : Ziq ⊕ (List UInt8)) (h : Z2b a0 a1 = some y) (hk : Zas9 r y) : (Cfg.code Zafg []).HH PR [.t 4] Zach Zyq r ⟨21, idx 0 [(wS a0), (.agg (bx (Zjd a1)))], []⟩ := have q := q0.o [.lab 1003];
 Za h (fun h1 h => lR h hk (q.t 1 h1)) (fun h1 h => Zb h fun x2 h3 h => Zb h fun x4 h5 h => Zb h fun x8 h9 h => Zb h fun x10 h11 h => Zb h fun x13 h14 h => lR h hk (((((((((q.f 1 h1).o [.call (wL cS x2), .cs (cS x4), .call (wS x10)]).b (Zbdv h3)).b (Zs cS 1 (fun _ => rfl) x2)).b (Z2 h5)).b (Zz cS h5)).b (Zcb h9)).b (Zu0 a1.N h11)).b (Zcb h14)))
theorem Z0o (a0 : (List UInt8)) (a1 : Ze) {r : (List UInt8)} (h : Zp1 a0 a1 = some r) : Fn PR 168 [(wS a0), (.agg (bx (Zjd a1)))] (Zyq r) :=
 Zb h fun y h0 h1 => FnG.of_cfg hT Go.Proofs.Tryz.func168 (by kernel_rfl : _ = some Zafg) (by kernel_rfl) 21 (by kernel_rfl) (Nat.le_of_ble_eq_true rfl) [.t 4] (by kernel_rfl) (by kernel_rfl) (Zapv r a0 a1 y h0 (Z0 (fun s _ _ _ => nomatch s) h1))
noncomputable def Zak9 : Code := (Go.Proofs.Tryz.f169.body).getD .skip
noncomputable def Z26 (r : (List UInt8)) : PV := (wS r)
noncomputable def Zahb (r : (List UInt8)) : List (Nat × Blk) := []
noncomputable def Zapw : Zlk → Cfg
 | .L0 _ _ _ _ => (nav [1, 1, 0, 1, 4] Zak9 []).getD (.done .normal)
noncomputable def Zaux : Zlk → PW.St
 | .L0 v0 v1 v5 v6 => ⟨25, [(0, (wL cS v0)), (1, (wS v1)), (5, (wS v5)), (6, (wI v6))], []⟩
abbrev Zapx (r : (List UInt8)) (y : Zlk ⊕ (List UInt8)) : Prop := Ok PR [.t 4] (Zahb) Z26 Zapw Zaux r y
theorem Za4z (r : (List UInt8)) (v0 : (List (List UInt8))) (v1 : (List UInt8)) (v5 : (List UInt8)) (v6 : Int) (y : Zlk ⊕ (List UInt8)) (h : Z6a v0 v1 v5 v6 = some y) (hk : Zapx r y) : (Zapw (.L0 v0 v1 v5 v6)).HH PR [.t 4] Zahb Z26 r (Zaux (.L0 v0 v1 v5 v6)) := have q := (q0.n (v0.length : Int)).b (Zt cS v0);
 Za h (fun h2 h => have q := q.t 1 h2;
 Za h (fun h3 h => Zb h fun x5 h6 h => Zb h fun x7 h8 h => Zb h fun x10 h11 h => lG h hk (((((((q.t 1 h3).o [.cs (cS x7), .pick [6, 5, 0, 1] [], .pick [0, 1, 5, 6] []]).b (Zcb h6)).b (Zs cS 1 (fun _ => rfl) v0)).b (Z2 h8)).b (Zz cS h8)).b (Zcb h11))) (fun h3 h => Zb h fun x14 h15 h => Zb h fun x17 h18 h => lG h hk ((((((q.f 1 h3).o [.cs (cS x14), .pick [6, 5, 0, 1] [], .pick [0, 1, 5, 6] []]).b (Zs cS 1 (fun _ => rfl) v0)).b (Z2 h15)).b (Zz cS h15)).b (Zcb h18)))) (fun h2 h => lR h hk (q.f 1 h2))
theorem Za9g (r : (List UInt8)) (a0 : (List (List UInt8))) (a1 : (List UInt8)) (y : Zlk ⊕ (List UInt8)) (h : Zajv a0 a1 = some y) (hk : Zapx r y) : (Cfg.code Zak9 []).HH PR [.t 4] Zahb Z26 r ⟨25, idx 0 [(wL cS a0), (wS a1)], []⟩ :=
 lG h hk (q0.o [.pick [6, 5, 1, 0] [], .pick [0, 1, 5, 6] []])
theorem Zbh9 (a0 : (List (List UInt8))) (a1 : (List UInt8)) {r : (List UInt8)} (h : Zajw a0 a1 = some r) : Fn PR 169 [(wL cS a0), (wS a1)] (Z26 r) :=
 Zb h fun y h0 h1 => FnG.of_cfg hT Go.Proofs.Tryz.func169 (by kernel_rfl : _ = some Zak9) (by kernel_rfl) 25 (by kernel_rfl) (Nat.le_of_ble_eq_true rfl) [.t 4] (by kernel_rfl) (by kernel_rfl) (Za9g r a0 a1 y h0 (Z0 (fun s y h hk => match s with
 | .L0 v0 v1 v5 v6 => Za4z r v0 v1 v5 v6 y h hk) h1))
noncomputable def Zais : Code := (Go.Proofs.Tryz.f165.body).getD .skip
noncomputable def Z0p (r : (List (List UInt8))) : PV := (.osl 5000 (List.map cS r).length)
noncomputable def Z27 (r : (List (List UInt8))) : List (Nat × Blk) := [(5000, .row 1 (List.map cS r))]
noncomputable def Zaw8 : Zjl → Cfg := fun s => nomatch s
noncomputable def Za06 : Zjl → PW.St := fun s => nomatch s
abbrev Zaw9 (r : (List (List UInt8))) (y : Zjl ⊕ (List (List UInt8))) : Prop := Ok PR [.t 4] (Z27) Z0p Zaw8 Za06 r y
theorem Zata (r : (List (List UInt8))) (b0 : (List (List UInt8))) (a1 : (List UInt8)) (y : Zjl ⊕ (List (List UInt8))) (h : Z43 b0 a1 = some y) (hk : Zaw9 r y) : (Cfg.code Zais []).HH PR [.t 4] Z27 Z0p r ⟨12, idx 0 [(.osl 0 (List.map cS b0).length), (wS a1)], [(0, .row 1 (List.map cS b0))]⟩ :=
 Za h (fun h1 h => lO h hk [5000] ((q0.t 1 h1).o [.relab 0 5000])) (fun h1 h => Zb h fun x3 h4 h => lO h hk [5000] (((((((q0.f 1 h1).o [.lit, .es (List.map cS x3), .relab 0 5000]).b (Eq.refl (List.map cS b0).length)).b (Zdw cS h4)).b (Zs cS 1 (fun _ => rfl) [a1])).b (Zdx cS h4)).b (Zca cS h4)))
theorem Zku (b0 : (List (List UInt8))) (a1 : (List UInt8)) {r : (List (List UInt8))} (h : Zkd b0 a1 = some r) : FnG PR 165 [(0, .row 1 (List.map cS b0))] [(.osl 0 (List.map cS b0).length), (wS a1)] ((Z27) r) (Z0p r) :=
 Zb h fun y h0 h1 => FnG.of_cfg hT Go.Proofs.Tryz.func165 (by kernel_rfl : _ = some Zais) (by kernel_rfl) 12 (by kernel_rfl) (Nat.le_of_ble_eq_true rfl) [.t 4] (by kernel_rfl) (by kernel_rfl) (Zata r b0 a1 y h0 (Z0 (fun s _ _ _ => nomatch s) h1))
noncomputable def Zqe : Code := (Go.Proofs.Tryz.f146.body).getD .skip
noncomputable def Zlz (r : (List UInt8)) : PV := (wS r)
noncomputable def Zo3 (r : (List UInt8)) : List (Nat × Blk) := []
noncomputable def Zpl : Ze3 → Cfg
 | .L0 _ _ _ _ => (nav [1, 1, 1, 1, 1, 1, 1, 1, 1, 1, 0, 1, 4] Zqe []).getD (.done .normal)
 | .L1 _ _ _ _ => (nav [1, 1, 1, 1, 1, 1, 1, 1, 1, 1, 1, 0, 1, 4] Zqe []).getD (.done .normal)
 | .L2 _ _ _ _ => (nav [1, 1, 1, 1, 1, 1, 1, 1, 1, 1, 1, 1, 0, 1, 4] Zqe []).getD (.done .normal)
 | .L3 _ _ _ _ => (nav [1, 1, 1, 1, 1, 1, 1, 1, 1, 1, 1, 1, 1, 0, 1, 4] Zqe []).getD (.done .normal)
 | .L4 _ _ _ => (nav [1, 1, 1, 1, 1, 1, 1, 1, 1, 1, 1, 1, 1, 1, 1] Zqe []).getD (.done .normal)
 | .L5 _ _ _ _ => (nav [1, 1, 1, 1, 1, 1, 1, 1, 1, 1, 1, 1, 1, 1, 1, 0, 1, 4] Zqe []).getD (.done .normal)
noncomputable def Zqu : Ze3 → PW.St
 | .L0 E0 v6 v7 v8 => ⟨145, [(1, (.bptr 30000000 0)), (6, (wL cS v6)), (7, (.osl 20000007 (List.map cS v7).length)), (8, (wI v8))], [(30000000, .box (bx (Zv E0))), (20000007, .row 1 (List.map cS v7))]⟩
 | .L1 E0 v6 v7 v9 => ⟨145, [(1, (.bptr 30000000 0)), (6, (wL cS v6)), (7, (.osl 20000007 (List.map cS v7).length)), (9, (wI v9))], [(30000000, .box (bx (Zv E0))), (20000007, .row 1 (List.map cS v7))]⟩
 | .L2 E0 v6 v7 v10 => ⟨145, [(1, (.bptr 30000000 0)), (6, (wL cS v6)), (7, (.osl 20000007 (List.map cS v7).length)), (10, (wI v10))], [(30000000, .box (bx (Zv E0))), (20000007, .row 1 (List.map cS v7))]⟩
 | .L3 E0 v6 v7 v11 => ⟨145, [(1, (.bptr 30000000 0)), (6, (wL cS v6)), (7, (.osl 20000007 (List.map cS v7).length)), (11, (wI v11))], [(30000000, .box (bx (Zv E0))), (20000007, .row 1 (List.map cS v7))]⟩
 | .L4 E0 v6 v7 => ⟨145, [(1, (.bptr 30000000 0)), (6, (wL cS v6)), (7, (.osl 20000007 (List.map cS v7).length))], [(30000000, .box (bx (Zv E0))), (20000007, .row 1 (List.map cS v7))]⟩
 | .L5 E0 v6 v7 v12 => ⟨145, [(1, (.bptr 30000000 0)), (6, (wL cS v6)), (7, (.osl 20000007 (List.map cS v7).length)), (12, (wI v12))], [(30000000, .box (bx (Zv E0))), (20000007, .row 1 (List.map cS v7))]⟩
abbrev Zpm (r : (List UInt8)) (y : Ze3 ⊕ (List UInt8)) : Prop := Ok PR [.t 2] (Zo3) Zlz Zpl Zqu r y
theorem Z5j (r : (List UInt8)) (E0 : Zi) (v6 : (List (List UInt8))) (v7 : (List (List UInt8))) (y : Ze3 ⊕ (List UInt8)) (h : Zuw E0 v6 v7 = some y) (hk : Zpm r y) : (Zpl (.L4 E0 v6 v7)).HH PR [.t 2] Zo3 Zlz r (Zqu (.L4 E0 v6 v7)) :=
 lG h hk (q0.o [.pick [12, 1, 6, 7] [30000000, 20000007], .pick [1, 6, 7, 12] [30000000, 20000007]])
theorem Za40 (r : (List UInt8)) (E0 : Zi) (v6 : (List (List UInt8))) (v7 : (List (List UInt8))) (v8 : Int) (y : Ze3 ⊕ (List UInt8)) (h : Z6b E0 v6 v7 v8 = some y) (hk : Zpm r y) : (Zpl (.L0 E0 v6 v7 v8)).HH PR [.t 2] Zo3 Zlz r (Zqu (.L0 E0 v6 v7 v8)) :=
 Za h (fun h1 h => have q := q0.t 1 h1;
 Zb h fun x2 h3 h => have q := (q.k x2).b (Z24 E0.Types v8 h3);
 Za h (fun h4 h => Zb h fun x5 h6 h => Zb h fun x8 h9 h => lG h hk ((((((((q.t 1 h4).o [.call (wS x5), .lit, .es (List.map cS x8), .pick [8, 7, 1, 6] [20000007, 30000000], .pick [1, 6, 7, 8] [30000000, 20000007]]).b (Zaff v8 h6)).b (Eq.refl (List.map cS v7).length)).b (Zdw cS h9)).b (Zs cS 1 (fun _ => rfl) [x5])).b (Zdx cS h9)).b (Zca cS h9))) (fun h4 h => lG h hk ((q.f 1 h4).o [.pick [8, 1, 6, 7] [30000000, 20000007], .pick [1, 6, 7, 8] [30000000, 20000007]]))) (fun h1 h => lG h hk ((q0.f 1 h1).o [.pick [9, 1, 6, 7] [30000000, 20000007], .pick [1, 6, 7, 9] [30000000, 20000007]]))
theorem Za41 (r : (List UInt8)) (E0 : Zi) (v6 : (List (List UInt8))) (v7 : (List (List UInt8))) (v9 : Int) (y : Ze3 ⊕ (List UInt8)) (h : Z6c E0 v6 v7 v9 = some y) (hk : Zpm r y) : (Zpl (.L1 E0 v6 v7 v9)).HH PR [.t 2] Zo3 Zlz r (Zqu (.L1 E0 v6 v7 v9)) :=
 Za h (fun h1 h => have q := q0.t 1 h1;
 Zb h fun x2 h3 h => have q := (q.k x2).b (Z24 E0.NotTypes v9 h3);
 Za h (fun h4 h => Zb h fun x5 h6 h => Zb h fun x8 h9 h => Zb h fun x11 h12 h => lG h hk (((((((((q.t 1 h4).o [.call (wS x5), .lit, .es (List.map cS x11), .pick [9, 7, 1, 6] [20000007, 30000000], .pick [1, 6, 7, 9] [30000000, 20000007]]).b (Zaff v9 h6)).b (Zcb h9)).b (Eq.refl (List.map cS v7).length)).b (Zdw cS h12)).b (Zs cS 1 (fun _ => rfl) [(([110, 111, 110, 45] : List UInt8) ++ x5)])).b (Zdx cS h12)).b (Zca cS h12))) (fun h4 h => lG h hk ((q.f 1 h4).o [.pick [9, 1, 6, 7] [30000000, 20000007], .pick [1, 6, 7, 9] [30000000, 20000007]]))) (fun h1 h => lG h hk ((q0.f 1 h1).o [.pick [10, 1, 6, 7] [30000000, 20000007], .pick [1, 6, 7, 10] [30000000, 20000007]]))
theorem Za42 (r : (List UInt8)) (E0 : Zi) (v6 : (List (List UInt8))) (v7 : (List (List UInt8))) (v10 : Int) (y : Ze3 ⊕ (List UInt8)) (h : Z6d E0 v6 v7 v10 = some y) (hk : Zpm r y) : (Zpl (.L2 E0 v6 v7 v10)).HH PR [.t 2] Zo3 Zlz r (Zqu (.L2 E0 v6 v7 v10)) :=
 Za h (fun h1 h => have q := q0.t 1 h1;
 Zb h fun x2 h3 h => have q := (q.k x2).b (Z24 E0.Colors v10 h3);
 Za h (fun h4 h => Zb h fun x5 h6 h => Zb h fun x8 h9 h => lG h hk ((((((((q.t 1 h4).o [.call (wS x5), .lit, .es (List.map cS x8), .pick [10, 7, 1, 6] [20000007, 30000000], .pick [1, 6, 7, 10] [30000000, 20000007]]).b (Z6u v10 h6)).b (Eq.refl (List.map cS v7).length)).b (Zdw cS h9)).b (Zs cS 1 (fun _ => rfl) [x5])).b (Zdx cS h9)).b (Zca cS h9))) (fun h4 h => lG h hk ((q.f 1 h4).o [.pick [10, 1, 6, 7] [30000000, 20000007], .pick [1, 6, 7, 10] [30000000, 20000007]]))) (fun h1 h => lG h hk ((q0.f 1 h1).o [.pick [11, 1, 6, 7] [30000000, 20000007], .pick [1, 6, 7, 11] [30000000, 20000007]]))
theorem Za43 (r : (List UInt8)) (E0 : Zi) (v6 : (List (List UInt8))) (v7 : (List (List UInt8))) (v11 : Int) (y : Ze3 ⊕ (List UInt8)) (h : Z6e E0 v6 v7 v11 = some y) (hk : Zpm r y) : (Zpl (.L3 E0 v6 v7 v11)).HH PR [.t 2] Zo3 Zlz r (Zqu (.L3 E0 v6 v7 v11)) :=
 Za h (fun h1 h => have q := q0.t 1 h1;
 Zb h fun x2 h3 h => have q := (q.k x2).b (Z24 E0.NotColors v11 h3);
 Za h (fun h4 h => Zb h fun x5 h6 h => Zb h fun x8 h9 h => Zb h fun x11 h12 h => lG h hk (((((((((q.t 1 h4).o [.call (wS x5), .lit, .es (List.map cS x11), .pick [11, 7, 1, 6] [20000007, 30000000], .pick [1, 6, 7, 11] [30000000, 20000007]]).b (Z6u v11 h6)).b (Zcb h9)).b (Eq.refl (List.map cS v7).length)).b (Zdw cS h12)).b (Zs cS 1 (fun _ => rfl) [(([110, 111, 110, 45] : List UInt8) ++ x5)])).b (Zdx cS h12)).b (Zca cS h12))) (fun h4 h => lG h hk ((q.f 1 h4).o [.pick [11, 1, 6, 7] [30000000, 20000007], .pick [1, 6, 7, 11] [30000000, 20000007]]))) (fun h1 h => have q := q0.f 1 h1;
 Za h (fun h19 h => Zb h fun x21 h22 h => Zb h fun x24 h25 h => lJ (Z5j r E0 v6 x24 _ h hk) ((((((((q.t 1 h19).o [.lit, .es (List.map cS x24), .stopAt 0, .pick [7, 1, 6] [20000007, 30000000], .pick [1, 6, 7] [30000000, 20000007]]).b (Zcb h22)).b (Eq.refl (List.map cS v7).length)).b (Zdw cS h25)).b (Zs cS 1 (fun _ => rfl) [(([115, 117, 98, 58] : List UInt8) ++ E0.Sub)])).b (Zdx cS h25)).b (Zca cS h25))) (fun h19 h => lJ (Z5j r E0 v6 v7 _ h hk) ((q.f 1 h19).o [.stopAt 0, .pick [1, 6, 7] [30000000, 20000007], .pick [1, 6, 7] [30000000, 20000007]])))
theorem Za44 (r : (List UInt8)) (E0 : Zi) (v6 : (List (List UInt8))) (v7 : (List (List UInt8))) (v12 : Int) (y : Ze3 ⊕ (List UInt8)) (h : Z6f E0 v6 v7 v12 = some y) (hk : Zpm r y) : (Zpl (.L5 E0 v6 v7 v12)).HH PR [.t 2] Zo3 Zlz r (Zqu (.L5 E0 v6 v7 v12)) :=
 Za h (fun h1 h => have q := q0.t 1 h1;
 Zb h fun x2 h3 h => have q := (q.k x2).b (Z24 E0.Keys v12 h3);
 Za h (fun h4 h => Zb h fun x5 h6 h => Zb h fun x8 h9 h => Zb h fun x11 h12 h => lG h hk (((((((((q.t 1 h4).o [.call (wS x5), .lit, .es (List.map cS x11), .pick [12, 7, 1, 6] [20000007, 30000000], .pick [1, 6, 7, 12] [30000000, 20000007]]).b (Zag9 v12 h6)).b (Zcb h9)).b (Eq.refl (List.map cS v7).length)).b (Zdw cS h12)).b (Zs cS 1 (fun _ => rfl) [(([119, 105, 116, 104, 58] : List UInt8) ++ x5)])).b (Zdx cS h12)).b (Zca cS h12))) (fun h4 h => lG h hk ((q.f 1 h4).o [.pick [12, 1, 6, 7] [30000000, 20000007], .pick [1, 6, 7, 12] [30000000, 20000007]]))) (fun h1 h => have q := (q0.f 1 h1).b (Zs cS 1 (fun _ => rfl) v6);
 Zb h fun x19 h20 h => have q := ((q.o [.cs (cS x19)]).b (Z2 h20)).b (Zz cS h20);
 Zb h fun x21 h22 h => have q := (q.o [.callU false [20000007] 1250000 [(5000, .row 1 (List.map cS x21))] (.osl 5000 (List.map cS x21).length)]).b (Zku v7 x19 h22);
 Zb h fun x23 h24 h => have q := (q.o [.call (wS x23)]).b (Z0o ([112, 111, 119, 101, 114] : List UInt8) E0.Power h24);
 Zb h fun x25 h26 h => have q := (q.o [.callU false [1255000] 1300000 [(5000, .row 1 (List.map cS x25))] (.osl 5000 (List.map cS x25).length)]).b (Zku x21 x23 h26);
 Zb h fun x27 h28 h => have q := (q.o [.call (wS x27)]).b (Z0o ([116, 111, 117, 103, 104] : List UInt8) E0.Tough h28);
 Zb h fun x29 h30 h => have q := (q.o [.callU false [1305000] 1350000 [(5000, .row 1 (List.map cS x29))] (.osl 5000 (List.map cS x29).length)]).b (Zku x25 x27 h30);
 Zb h fun x31 h32 h => have q := (q.o [.call (wS x31)]).b (Z0o ([118, 97, 108, 117, 101] : List UInt8) E0.Value h32);
 Zb h fun x33 h34 h => have q := (((q.o [.callU false [1355000] 1400000 [(5000, .row 1 (List.map cS x33))] (.osl 5000 (List.map cS x33).length), .num (x33.length : Int)]).b (Zku x29 x31 h34)).b (Eq.refl (List.map cS x33).length)).b (Zt cS x33);
 Za h (fun h36 h => lR h hk (q.t 1 h36)) (fun h36 h => Zb h fun x37 h38 h => lR h hk ((((q.f 1 h36).o [.call (wS x37)]).b (Eq.refl (List.map cS x33).length)).b (Zbh9 x33 ([32] : List UInt8) h38))))
theorem Za9h (r : (List UInt8)) (a0 : Zi) (y : Ze3 ⊕ (List UInt8)) (h : Zajx a0 = some y) (hk : Zpm r y) : (Cfg.code Zqe []).HH PR [.t 2] Zo3 Zlz r ⟨145, idx 0 [(.agg (bx (Zv a0)))], []⟩ := have q := q0.o [.lab 1001];
 Zb h fun x1 h2 h => have q := (q.k x1).b (Znp a0 h2);
 Za h (fun h3 h => lR h hk (q.t 1 h3)) (fun h3 h => Zb h fun x4 h5 h => Zb h fun x6 h7 h => Zb h fun x8 h9 h => Zb h fun x10 h11 h => Zb h fun x12 h13 h => Zb h fun x14 h15 h => Zb h fun x16 h17 h => Zb h fun x18 h19 h => Zb h fun x20 h21 h => Zb h fun x22 h23 h => lG h hk ((((((((((((((((((q.f 1 h3).o [.call (wL cS x4), .call (wL cS x6), .call (wL cS x8), .call (wL cS x10), .cs (cS x12), .ahead 26, .own 20 70000260 1, .stop, .callU false [70000260] 270000 [(5000, .row 1 (List.map cS x14))] (.osl 5000 (List.map cS x14).length), .cs (cS x16), .callU false [275000] 340000 [(5000, .row 1 (List.map cS x18))] (.osl 5000 (List.map cS x18).length), .cs (cS x20), .callU false [345000] 410000 [(5000, .row 1 (List.map cS x22))] (.osl 5000 (List.map cS x22).length), .pick [8, 7, 6, 1] [415000, 1001], .relab 1001 30000000, .relab 415000 20000007, .pick [1, 6, 7, 8] [30000000, 20000007]]).b (Zawx h5)).b (Za00 h7)).b (Zaw2 h9)).b (Za02 h11)).b (Zs cS 1 (fun _ => rfl) x4)).b (Z2 h13)).b (Zz cS h13)).b (Zku ([] : (List (List UInt8))) x12 h15)).b (Zs cS 1 (fun _ => rfl) x6)).b (Z2 h17)).b (Zz cS h17)).b (Zku x14 x16 h19)).b (Zs cS 1 (fun _ => rfl) x8)).b (Z2 h21)).b (Zz cS h21)).b (Zku x18 x20 h23)))
theorem Zbia (a0 : Zi) {r : (List UInt8)} (h : Zajy a0 = some r) : Fn PR 146 [(.agg (bx (Zv a0)))] (Zlz r) :=
 Zb h fun y h0 h1 => FnG.of_cfg hT Go.Proofs.Tryz.func146 (by kernel_rfl : _ = some Zqe) (by kernel_rfl) 145 (by kernel_rfl) (Nat.le_of_ble_eq_true rfl) [.t 2] (by kernel_rfl) (by kernel_rfl) (Za9h r a0 y h0 (Z0 (fun s y h hk => match s with
 | .L0 E0 v6 v7 v8 => Za40 r E0 v6 v7 v8 y h hk
 | .L1 E0 v6 v7 v9 => Za41 r E0 v6 v7 v9 y h hk
 | .L2 E0 v6 v7 v10 => Za42 r E0 v6 v7 v10 y h hk
 | .L3 E0 v6 v7 v11 => Za43 r E0 v6 v7 v11 y h hk
 | .L4 E0 v6 v7 => Z5j r E0 v6 v7 y h hk
 | .L5 E0 v6 v7 v12 => Za44 r E0 v6 v7 v12 y h hk) h1))
noncomputable def Za07 : Code := (Go.Proofs.Tryz.f125.body).getD .skip
noncomputable def Zaci (r : (List UInt8)) : PV := (wS r)
noncomputable def Zauy (r : (List UInt8)) : List (Nat × Blk) := []
noncomputable def Zbdy : Zoh → Cfg := fun s => nomatch s
noncomputable def Zbib : Zoh → PW.St := fun s => nomatch s
abbrev Zbdz (r : (List UInt8)) (y : Zoh ⊕ (List UInt8)) : Prop := Ok PR [.t 2] (Zauy) Zaci Zbdy Zbib r y
theorem Za9i (r : (List UInt8)) (a0 : Zg) (y : Zoh ⊕ (List UInt8)) (h : Zajz a0 = some y) (hk : Zbdz r y) : (Cfg.code Za07 []).HH PR [.t 2] Zauy Zaci r ⟨87, idx 0 [(.agg (bx (Zp a0)))], []⟩ := have q := q0.o [.lab 1001];
 Zb h fun x1 h2 h => have q := (q.k x1).b (Za7e a0 h2);
 Za h (fun h3 h => lR h hk (q.t 1 h3)) (fun h3 h => have q := q.f 1 h3;
 Za h (fun h4 h => lR h hk (q.t 1 h4)) (fun h4 h => have q := q.f 1 h4;
 Za h (fun h5 h => Zb h fun x6 h7 h => Zb h fun x9 h10 h => lR h hk ((((q.t 1 h5).o [.call (wS x6)]).b (Z0j a0.N h7)).b (Zcb h10))) (fun h5 h => have q := q.f 1 h5;
 Za h (fun h11 h => Zb h fun x12 h13 h => Zb h fun x15 h16 h => lR h hk ((((q.t 1 h11).o [.call (wS x12)]).b (Z0j a0.N h13)).b (Zcb h16))) (fun h11 h => have q := q.f 1 h11;
 Za h (fun h17 h => Zb h fun x19 h20 h => lR h hk ((q.t 1 h17).b (Zcb h20))) (fun h17 h => have q := q.f 1 h17;
 Za h (fun h21 h => Zb h fun x23 h24 h => lR h hk ((q.t 1 h21).b (Zcb h24))) (fun h21 h => have q := q.f 1 h21;
 Za h (fun h25 h => Zb h fun x26 h27 h => Zb h fun x29 h30 h => lR h hk ((((q.t 1 h25).o [.call (wS x26)]).b (Zauo a0.N h27)).b (Zcb h30))) (fun h25 h => have q := q.f 1 h25;
 Za h (fun h31 h => Zb h fun x32 h33 h => Zb h fun x35 h36 h => lR h hk ((((q.t 1 h31).o [.call (wS x32)]).b (Zauo a0.N h33)).b (Zcb h36))) (fun h31 h => have q := q.f 1 h31;
 Za h (fun h37 h => Zb h fun x38 h39 h => Zb h fun x41 h42 h => lR h hk ((((q.t 1 h37).o [.call (wS x38)]).b (Zaus a0.N h39)).b (Zcb h42))) (fun h37 h => have q := q.f 1 h37;
 Za h (fun h43 h => Zb h fun x44 h45 h => Zb h fun x47 h48 h => lR h hk ((((q.t 1 h43).o [.call (wS x44)]).b (Zaus a0.N h45)).b (Zcb h48))) (fun h43 h => have q := q.f 1 h43;
 Za h (fun h49 h => lR h hk (q.t 1 h49)) (fun h49 h => have q := q.f 1 h49;
 Za h (fun h50 h => Zb h fun x51 h52 h => Zb h fun x53 h54 h => Zb h fun x55 h56 h => lR h hk (((((q.t 1 h50).o [.call (wS x51)]).b (Zbia a0.Filter h52)).b (Zcb h54)).b (Zcb h56))) (fun h50 h => have q := q.f 1 h50;
 Za h (fun h57 h => Zb h fun x58 h59 h => Zb h fun x61 h62 h => Zb h fun x63 h64 h => Zb h fun x65 h66 h => Zb h fun x68 h69 h => lR h hk (((((((q.t 1 h57).o [.call (wS x58), .call (wS x65)]).b (Zu0 a0.N h59)).b (Zcb h62)).b (Zcb h64)).b (Zu0 a0.M h66)).b (Zcb h69))) (fun h57 h => have q := q.f 1 h57;
 Za h (fun h70 h => Zb h fun x71 h72 h => Zb h fun x74 h75 h => Zb h fun x76 h77 h => Zb h fun x78 h79 h => Zb h fun x81 h82 h => lR h hk (((((((q.t 1 h70).o [.call (wS x71), .call (wS x78)]).b (Zu0 a0.N h72)).b (Zcb h75)).b (Zcb h77)).b (Zu0 a0.M h79)).b (Zcb h82))) (fun h70 h => lR h hk (q.f 1 h70)))))))))))))))
theorem Zauz (a0 : Zg) {r : (List UInt8)} (h : Zabe a0 = some r) : Fn PR 125 [(.agg (bx (Zp a0)))] (Zaci r) :=
 Zb h fun y h0 h1 => FnG.of_cfg hT Go.Proofs.Tryz.func125 (by kernel_rfl : _ = some Za07) (by kernel_rfl) 87 (by kernel_rfl) (Nat.le_of_ble_eq_true rfl) [.t 2] (by kernel_rfl) (by kernel_rfl) (Za9i r a0 y h0 (Z0 (fun s _ _ _ => nomatch s) h1))
noncomputable def Z5k : Code := (Go.Proofs.Tryz.f105.body).getD .skip
noncomputable def Ztk (r : (List UInt8)) : PV := (wS r)
noncomputable def Z28 (r : (List UInt8)) : List (Nat × Blk) := []
noncomputable def Zacj : Zg3 → Cfg
 | .L0 _ _ _ => (nav [1, 1, 1, 0, 1, 4] Z5k []).getD (.done .normal)
noncomputable def Zafh : Zg3 → PW.St
 | .L0 v0 v3 v4 => ⟨37, [(0, (wL Zp v0)), (3, (wS v3)), (4, (wI v4))], []⟩
abbrev Zack (r : (List UInt8)) (y : Zg3 ⊕ (List UInt8)) : Prop := Ok PR [.t 2] (Z28) Ztk Zacj Zafh r y
theorem Zapy (r : (List UInt8)) (v0 : (List Zg)) (v3 : (List UInt8)) (v4 : Int) (y : Zg3 ⊕ (List UInt8)) (h : Zvl v0 v3 v4 = some y) (hk : Zack r y) : (Zacj (.L0 v0 v3 v4)).HH PR [.t 2] Z28 Ztk r (Zafh (.L0 v0 v3 v4)) := have q := (q0.n (v0.length : Int)).b (Zt Zp v0);
 Za h (fun h2 h => have q := (q.t 1 h2).b (Zs Zp 20 (fun _ => rfl) v0);
 Zb h fun x3 h4 h => have q := ((q.o [.cs (Zp x3)]).b (Z2 h4)).b (Zz Zp h4);
 Zb h fun x5 h6 h => have q := (q.k x5).b (Za7e x3 h6);
 Za h (fun h7 h => lR h hk (q.t 1 h7)) (fun h7 h => have q := q.f 1 h7;
 Za h (fun h8 h => Zb h fun x9 h10 h => Zb h fun x11 h12 h => Zb h fun x13 h14 h => lG h hk ((((((((q.t 1 h8).o [.cs (Zp x3), .call (wS x11), .pick [4, 3, 0] [], .pick [0, 3, 4] []]).b (Zcb h10)).b (Zs Zp 20 (fun _ => rfl) v0)).b (Z2 h4)).b (Zz Zp h4)).b (Zauz x3 h12)).b (Zcb h14))) (fun h8 h => Zb h fun x17 h18 h => Zb h fun x19 h20 h => lG h hk (((((((q.f 1 h8).o [.cs (Zp x3), .call (wS x17), .pick [4, 3, 0] [], .pick [0, 3, 4] []]).b (Zs Zp 20 (fun _ => rfl) v0)).b (Z2 h4)).b (Zz Zp h4)).b (Zauz x3 h18)).b (Zcb h20))))) (fun h2 h => lR h hk (q.f 1 h2))
theorem Zatb (r : (List UInt8)) (a0 : (List Zg)) (y : Zg3 ⊕ (List UInt8)) (h : Z44 a0 = some y) (hk : Zack r y) : (Cfg.code Z5k []).HH PR [.t 2] Z28 Ztk r ⟨37, idx 0 [(wL Zp a0)], []⟩ := have q := (q0.n (a0.length : Int)).b (Zt Zp a0);
 Za h (fun h2 h => lR h hk (((q.tt 5).a 4 h2).b (Eq.refl true))) (fun h2 h => have q := ((((q.f 2 h2).n (a0.length : Int)).ff 2).b (Zt Zp a0)).a 2 h2;
 Za h (fun h3 h => lR h hk (q.t 1 h3)) (fun h3 h => lG h hk ((q.f 1 h3).o [.pick [4, 3, 0] [], .pick [0, 3, 4] []])))
theorem Z29 (a0 : (List Zg)) {r : (List UInt8)} (h : Zrm a0 = some r) : Fn PR 105 [(wL Zp a0)] (Ztk r) :=
 Zb h fun y h0 h1 => FnG.of_cfg hT Go.Proofs.Tryz.func105 (by kernel_rfl : _ = some Z5k) (by kernel_rfl) 37 (by kernel_rfl) (Nat.le_of_ble_eq_true rfl) [.t 2] (by kernel_rfl) (by kernel_rfl) (Zatb r a0 y h0 (Z0 (fun s y h hk => match s with
 | .L0 v0 v3 v4 => Zapy r v0 v3 v4 y h hk) h1))
noncomputable def Zau0 : Code := (Go.Proofs.Tryz.f112.body).getD .skip
noncomputable def Z8g (r : Bool) : PV := (wB r)
noncomputable def Zapz (r : Bool) : List (Nat × Blk) := []
noncomputable def Za9j : Zm6 → Cfg := fun s => nomatch s
noncomputable def Zbd0 : Zm6 → PW.St := fun s => nomatch s
abbrev Za9k (r : Bool) (y : Zm6 ⊕ Bool) : Prop := Ok PR [.t 2] (Zapz) Z8g Za9j Zbd0 r y
theorem Za45 (r : Bool) (a0 : Zih) (y : Zm6 ⊕ Bool) (h : Zagg a0 = some y) (hk : Za9k r y) : (Cfg.code Zau0 []).HH PR [.t 2] Zapz Z8g r ⟨22, idx 0 [(.agg (bx (Ze2 a0)))], []⟩ := have q := q0.o [.lab 1001];
 Zb h fun x1 h2 h => have q := (q.k x1).b (Zao7 a0.Mana h2);
 Za h (fun h3 h => have q := q.t 5 h3;
 Za h (fun h4 h => have q := q.t 4 h4;
 Za h (fun h5 h => lR h hk (q.t 4 h5)) (fun h5 h => lR h hk (q.f 4 h5))) (fun h4 h => lR h hk (((q.ff 8).a 4 h4).a 4 (Eq.refl false)))) (fun h3 h => lR h hk (((q.ff 13).a 5 h3).a 8 (Eq.refl false)))
theorem Zbd1 (a0 : Zih) {r : Bool} (h : Zaeu a0 = some r) : Fn PR 112 [(.agg (bx (Ze2 a0)))] (Z8g r) :=
 Zb h fun y h0 h1 => FnG.of_cfg hT Go.Proofs.Tryz.func112 (by kernel_rfl : _ = some Zau0) (by kernel_rfl) 22 (by kernel_rfl) (Nat.le_of_ble_eq_true rfl) [.t 2] (by kernel_rfl) (by kernel_rfl) (Za45 r a0 y h0 (Z0 (fun s _ _ _ => nomatch s) h1))
noncomputable def Za08 : Code := (Go.Proofs.Tryz.f132.body).getD .skip
noncomputable def Zacl (r : (List UInt8)) : PV := (wS r)
noncomputable def Zau1 (r : (List UInt8)) : List (Nat × Blk) := []
noncomputable def Zbd2 : Zoi → Cfg := fun s => nomatch s
noncomputable def Zbic : Zoi → PW.St := fun s => nomatch s
abbrev Zbd3 (r : (List UInt8)) (y : Zoi ⊕ (List UInt8)) : Prop := Ok PR [.t 2] (Zau1) Zacl Zbd2 Zbic r y
theorem Za9l (r : (List UInt8)) (a0 : Int) (y : Zoi ⊕ (List UInt8)) (h : Zaj0 a0 = some y) (hk : Zbd3 r y) : (Cfg.code Za08 []).HH PR [.t 2] Zau1 Zacl r ⟨32, idx 0 [(wI a0)], []⟩ :=
 Za h (fun h1 h => lR h hk (q0.t 1 h1)) (fun h1 h => have q := q0.f 1 h1;
 Za h (fun h2 h => lR h hk (q.t 1 h2)) (fun h2 h => have q := q.f 1 h2;
 Za h (fun h3 h => lR h hk (q.t 1 h3)) (fun h3 h => have q := q.f 1 h3;
 Za h (fun h4 h => lR h hk (q.t 1 h4)) (fun h4 h => have q := q.f 1 h4;
 Za h (fun h5 h => lR h hk (q.t 1 h5)) (fun h5 h => have q := q.f 1 h5;
 Za h (fun h6 h => lR h hk (q.t 1 h6)) (fun h6 h => have q := q.f 1 h6;
 Za h (fun h7 h => lR h hk (q.t 1 h7)) (fun h7 h => have q := q.f 1 h7;
 Za h (fun h8 h => lR h hk (q.t 1 h8)) (fun h8 h => have q := q.f 1 h8;
 Za h (fun h9 h => lR h hk (q.t 1 h9)) (fun h9 h => have q := q.f 1 h9;
 Za h (fun h10 h => lR h hk (q.t 1 h10)) (fun h10 h => have q := q.f 1 h10;
 Za h (fun h11 h => lR h hk (q.t 1 h11)) (fun h11 h => have q := q.f 1 h11;
 Za h (fun h12 h => lR h hk (q.t 1 h12)) (fun h12 h => have q := q.f 1 h12;
 Za h (fun h13 h => lR h hk (q.t 1 h13)) (fun h13 h => have q := q.f 1 h13;
 Za h (fun h14 h => lR h hk (q.t 1 h14)) (fun h14 h => lR h hk (q.f 1 h14)))))))))))))))
theorem Zau2 (a0 : Int) {r : (List UInt8)} (h : Zabf a0 = some r) : Fn PR 132 [(wI a0)] (Zacl r) :=
 Zb h fun y h0 h1 => FnG.of_cfg hT Go.Proofs.Tryz.func132 (by kernel_rfl : _ = some Za08) (by kernel_rfl) 32 (by kernel_rfl) (Nat.le_of_ble_eq_true rfl) [.t 2] (by kernel_rfl) (by kernel_rfl) (Za9l r a0 y h0 (Z0 (fun s _ _ _ => nomatch s) h1))
noncomputable def Zap0 : Code := (Go.Proofs.Tryz.f133.body).getD .skip
noncomputable def Z5l (r : Bool) : PV := (wB r)
noncomputable def Zamq (r : Bool) : List (Nat × Blk) := []
noncomputable def Za46 : Zll → Cfg := fun s => nomatch s
noncomputable def Za9m : Zll → PW.St := fun s => nomatch s
abbrev Za47 (r : Bool) (y : Zll ⊕ Bool) : Prop := Ok PR [.t 2] (Zamq) Z5l Za46 Za9m r y
theorem Za09 (r : Bool) (a0 : Int) (y : Zll ⊕ Bool) (h : Zabg a0 = some y) (hk : Za47 r y) : (Cfg.code Zap0 []).HH PR [.t 2] Zamq Z5l r ⟨25, idx 0 [(wI a0)], []⟩ :=
 Za h (fun h1 h => lR h hk (((q0.tt 15).a 3 h1).a 12 (Eq.refl true))) (fun h1 h => have q := q0.f 3 h1;
 Za h (fun h2 h => lR h hk (((q.tt 12).a 3 h2).a 9 (Eq.refl true))) (fun h2 h => have q := q.f 3 h2;
 Za h (fun h3 h => lR h hk (((q.tt 9).a 3 h3).a 6 (Eq.refl true))) (fun h3 h => have q := q.f 3 h3;
 Za h (fun h4 h => lR h hk (((q.tt 6).a 3 h4).a 3 (Eq.refl true))) (fun h4 h => have q := q.f 3 h4;
 Za h (fun h5 h => lR h hk (q.t 3 h5)) (fun h5 h => lR h hk (q.f 3 h5))))))
theorem Zamr (a0 : Int) {r : Bool} (h : Z2c a0 = some r) : Fn PR 133 [(wI a0)] (Z5l r) :=
 Zb h fun y h0 h1 => FnG.of_cfg hT Go.Proofs.Tryz.func133 (by kernel_rfl : _ = some Zap0) (by kernel_rfl) 25 (by kernel_rfl) (Nat.le_of_ble_eq_true rfl) [.t 2] (by kernel_rfl) (by kernel_rfl) (Za09 r a0 y h0 (Z0 (fun s _ _ _ => nomatch s) h1))
noncomputable def Zafi : Code := (Go.Proofs.Tryz.f134.body).getD .skip
noncomputable def Zyr (r : Bool) : PV := (wB r)
noncomputable def Zacm (r : Bool) : List (Nat × Blk) := []
noncomputable def Zatc : Zir → Cfg := fun s => nomatch s
noncomputable def Zaxa : Zir → PW.St := fun s => nomatch s
abbrev Zatd (r : Bool) (y : Zir ⊕ Bool) : Prop := Ok PR [.t 2] (Zacm) Zyr Zatc Zaxa r y
theorem Zap1 (r : Bool) (a0 : Int) (y : Zir ⊕ Bool) (h : Z2d a0 = some y) (hk : Zatd r y) : (Cfg.code Zafi []).HH PR [.t 2] Zacm Zyr r ⟨15, idx 0 [(wI a0)], []⟩ :=
 Zb h fun x1 h2 h => have q := (q0.o [.call (wS x1)]).b (Zau2 a0 h2);
 Za h (fun h3 h => have q := q.t 2 h3;
 Zb h fun x4 h5 h => have q := (((q.k x4).tt 2).b (Zamr a0 h5)).a 2 h3;
 Za h (fun h6 h => lR h hk (((((q.tt 5).a 2 h6).b h3).b h6).b h3)) (fun h6 h => lR h hk ((((q.f 2 h6).t 1 h3).f 1 h6).t 1 h3))) (fun h3 h => lR h hk (q.f 6 h3))
theorem Zaxb (a0 : Int) {r : Bool} (h : Zzj a0 = some r) : Fn PR 134 [(wI a0)] (Zyr r) :=
 Zb h fun y h0 h1 => FnG.of_cfg hT Go.Proofs.Tryz.func134 (by kernel_rfl : _ = some Zafi) (by kernel_rfl) 15 (by kernel_rfl) (Nat.le_of_ble_eq_true rfl) [.t 2] (by kernel_rfl) (by kernel_rfl) (Zap1 r a0 y h0 (Z0 (fun s _ _ _ => nomatch s) h1))
noncomputable def Zaxc : Code := (Go.Proofs.Tryz.f113.body).getD .skip
noncomputable def Zaag (r : Bool) : PV := (wB r)
noncomputable def Zap2 (r : Bool) : List (Nat × Blk) := []
noncomputable def Za1a : Zpf → Cfg
 | .L0 _ => (nav [1, 1] Zaxc []).getD (.done .normal)
noncomputable def Za7g : Zpf → PW.St
 | .L0 E0 => ⟨50, [(1, (.bptr 30000000 0))], [(30000000, .box (bx (Zc2 E0)))]⟩
abbrev Za1b (r : Bool) (y : Zpf ⊕ Bool) : Prop := Ok PR [.t 2] (Zap2) Zaag Za1a Za7g r y
theorem Zacn (r : Bool) (E0 : Zdj) (y : Zpf ⊕ Bool) (h : Z1a E0 = some y) (hk : Za1b r y) : (Za1a (.L0 E0)).HH PR [.t 2] Zap2 Zaag r (Za7g (.L0 E0)) :=
 Zb h fun x1 h2 h => have q := (q0.k x1).b (Zaxb E0.When h2);
 Za h (fun h3 h => lR h hk (q.t 1 h3)) (fun h3 h => have q := q.f 1 h3;
 Za h (fun h4 h => have q := q.t 1 h4;
 Zb h fun x5 h6 h => have q := (q.k x5).b (Znp E0.Filter h6);
 Za h (fun h7 h => lR h hk (q.t 6 h7)) (fun h7 h => lR h hk (q.f 6 h7))) (fun h4 h => have q := q.f 1 h4;
 Zb h fun x8 h9 h => have q := (q.k x8).b (Znp E0.Filter h9);
 Za h (fun h10 h => lR h hk (q.t 6 h10)) (fun h10 h => lR h hk (q.f 6 h10))))
theorem Zbid (r : Bool) (a0 : Zdj) (y : Zpf ⊕ Bool) (h : Zav8 a0 = some y) (hk : Za1b r y) : (Cfg.code Zaxc []).HH PR [.t 2] Zap2 Zaag r ⟨50, idx 0 [(.agg (bx (Zc2 a0)))], []⟩ := have q := q0.o [.lab 1001];
 Zb h fun x1 h2 h => have q := (q.o [.call (wS x1)]).b (Zau2 a0.When h2);
 Za h (fun h3 h => lR h hk (((q.tt 16).a 4 h3).a 12 (Eq.refl true))) (fun h3 h => have q := q.f 4 h3;
 Za h (fun h4 h => lR h hk (((q.tt 12).a 4 h4).a 8 (Eq.refl true))) (fun h4 h => have q := q.f 4 h4;
 Za h (fun h5 h => lR h hk (((q.tt 8).a 7 h5).b (Eq.refl true))) (fun h5 h => have q := q.f 3 h5;
 Zb h fun x6 h7 h => have q := (((q.k x6).ff 2).b (Zamr a0.When h7)).a 2 h5;
 Za h (fun h8 h => have q := (((q.t 3 h8).f 1 h5).t 1 h8).f 1 h5;
 Za h (fun h9 h => lR h hk (q.t 1 h9)) (fun h9 h => lJ (Zacn r a0 _ h hk) ((q.f 1 h9).o [.stopAt 0, .pick [1] [1001], .relab 1001 30000000, .pick [1] [30000000]]))) (fun h8 h => lJ (Zacn r a0 _ h hk) (((((((q.ff 7).o [.stopAt 0, .pick [1] [1001], .relab 1001 30000000, .pick [1] [30000000]]).a 3 h8).b h5).b h8).b h5).b (Eq.refl false))))))
theorem Zbne (a0 : Zdj) {r : Bool} (h : Zazv a0 = some r) : Fn PR 113 [(.agg (bx (Zc2 a0)))] (Zaag r) :=
 Zb h fun y h0 h1 => FnG.of_cfg hT Go.Proofs.Tryz.func113 (by kernel_rfl : _ = some Zaxc) (by kernel_rfl) 50 (by kernel_rfl) (Nat.le_of_ble_eq_true rfl) [.t 2] (by kernel_rfl) (by kernel_rfl) (Zbid r a0 y h0 (Z0 (fun s y h hk => match s with
 | .L0 E0 => Zacn r E0 y h hk) h1))
noncomputable def Zau3 : Code := (Go.Proofs.Tryz.f137.body).getD .skip
noncomputable def Z8h (r : Bool) : PV := (wB r)
noncomputable def Zap3 (r : Bool) : List (Nat × Blk) := []
noncomputable def Za9n : Zm7 → Cfg := fun s => nomatch s
noncomputable def Zbd4 : Zm7 → PW.St := fun s => nomatch s
abbrev Za9o (r : Bool) (y : Zm7 ⊕ Bool) : Prop := Ok PR [.t 2] (Zap3) Z8h Za9n Zbd4 r y
theorem Za48 (r : Bool) (a0 : Zi) (y : Zm7 ⊕ Bool) (h : Zagh a0 = some y) (hk : Za9o r y) : (Cfg.code Zau3 []).HH PR [.t 2] Zap3 Z8h r ⟨10, idx 0 [(.agg (bx (Zv a0)))], []⟩ := have q := q0.o [.lab 1001];
 Zb h fun x1 h2 h => have q := (q.k x1).b (Znp a0 h2);
 Za h (fun h3 h => lR h hk (q.t 4 h3)) (fun h3 h => lR h hk (q.f 4 h3))
theorem Zaco (a0 : Zi) {r : Bool} (h : Z1b a0 = some r) : Fn PR 137 [(.agg (bx (Zv a0)))] (Z8h r) :=
 Zb h fun y h0 h1 => FnG.of_cfg hT Go.Proofs.Tryz.func137 (by kernel_rfl : _ = some Zau3) (by kernel_rfl) 10 (by kernel_rfl) (Nat.le_of_ble_eq_true rfl) [.t 2] (by kernel_rfl) (by kernel_rfl) (Za48 r a0 y h0 (Z0 (fun s _ _ _ => nomatch s) h1))
end
end Go.PW
