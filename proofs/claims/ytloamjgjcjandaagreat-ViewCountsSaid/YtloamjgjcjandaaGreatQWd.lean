import Derived.Test.YtloamjgjcjandaaGreatQWc
set_option linter.all false
set_option maxRecDepth 100000
namespace Go.PW
open Go.RowKit
noncomputable section
noncomputable def Zu6 : Code := (Go.Proofs.Tryz.f81.body).getD .skip
noncomputable def Zoa (r : Bool) : PV := (wB r)
noncomputable def Zr6 (r : Bool) : List (Nat × Blk) := []
noncomputable def Zuj : Zfq → Cfg
 | .L0 _ _ => (nav [1, 1, 0, 1, 4] Zu6 []).getD (.done .normal)
 | .L1 _ _ _ => (nav [1, 1, 0, 1, 4, 5, 1, 0, 4, 1, 1, 4] Zu6 []).getD (.done .normal)
 | .L2 _ _ => (nav [1, 1, 1, 0, 1, 4] Zu6 []).getD (.done .normal)
 | .L3 _ _ => (nav [1, 1, 1, 1, 0, 1, 4] Zu6 []).getD (.done .normal)
noncomputable def Zw7 : Zfq → PW.St
 | .L0 E0 v3 => ⟨129, [(1, (.bptr 30000000 0)), (3, (wI v3))], [(30000000, .box (bx (Z4 E0)))]⟩
 | .L1 E0 v3 v4 => ⟨129, [(1, (.bptr 30000000 0)), (3, (wI v3)), (4, (wI v4))], [(30000000, .box (bx (Z4 E0)))]⟩
 | .L2 E0 v5 => ⟨129, [(1, (.bptr 30000000 0)), (5, (wI v5))], [(30000000, .box (bx (Z4 E0)))]⟩
 | .L3 E0 v7 => ⟨129, [(1, (.bptr 30000000 0)), (7, (wI v7))], [(30000000, .box (bx (Z4 E0)))]⟩
abbrev Zuk (r : Bool) (y : Zfq ⊕ Bool) : Prop := Ok PR [.t 2] (Zr6) Zoa Zuj Zw7 r y
theorem Za2k (r : Bool) (E0 : Zd) (v3 : Int) (y : Zfq ⊕ Bool) (h : Z2z E0 v3 = some y) (hk : Zuk r y) : (Zuj (.L0 E0 v3)).HH PR [.t 2] Zr6 Zoa r (Zw7 (.L0 E0 v3)) := have q := (q0.n (E0.Stack.length : Int)).b (Zr Zl E0.Stack);
 Za h (fun h2 h => have q := (q.t 1 h2).b (Zq Zl 94 (fun _ => rfl) E0.Stack);
 Zb h fun x3 h4 h => have q := ((q.o [.cs (Zl x3)]).b (Z2 h4)).b (Zv Zl h4);
 Zb h fun x5 h6 h => have q := (q.k x5).b (Zbjt E0 x3 h6);
 Za h (fun h7 h => lR h hk (q.t 1 h7)) (fun h7 h => lG h hk ((q.f 1 h7).o [.pick [4, 1, 3] [30000000], .pick [1, 3, 4] [30000000]]))) (fun h2 h => lG h hk ((q.f 1 h2).o [.pick [5, 1] [30000000], .pick [1, 5] [30000000]]))
theorem Za2l (r : Bool) (E0 : Zd) (v3 : Int) (v4 : Int) (y : Zfq ⊕ Bool) (h : Z20 E0 v3 v4 = some y) (hk : Zuk r y) : (Zuj (.L1 E0 v3 v4)).HH PR [.t 2] Zr6 Zoa r (Zw7 (.L1 E0 v3 v4)) :=
 Za h (fun h1 h => have q := (q0.t 1 h1).b (Zq Zl 94 (fun _ => rfl) E0.Stack);
 Zb h fun x2 h3 h => have q := (((q.o [.cs (Zl x2)]).b (Z2 h3)).b (Zv Zl h3)).b (Zq Zl 94 (fun _ => rfl) E0.Stack);
 Zb h fun x4 h5 h => have q := ((q.o [.cs (Zl x4)]).b (Z2 h5)).b (Zv Zl h5);
 Za h (fun h6 h => lR h hk (q.t 1 h6)) (fun h6 h => lG h hk ((q.f 1 h6).o [.pick [4, 1, 3] [30000000], .pick [1, 3, 4] [30000000]]))) (fun h1 h => lG h hk ((q0.f 1 h1).o [.pick [3, 1] [30000000], .pick [1, 3] [30000000]]))
theorem Za2m (r : Bool) (E0 : Zd) (v5 : Int) (y : Zfq ⊕ Bool) (h : Z21 E0 v5 = some y) (hk : Zuk r y) : (Zuj (.L2 E0 v5)).HH PR [.t 2] Zr6 Zoa r (Zw7 (.L2 E0 v5)) := have q := (q0.n (E0.Waiting.length : Int)).b (Zr Zm E0.Waiting);
 Za h (fun h2 h => have q := (q.t 1 h2).b (Zq Zm 89 (fun _ => rfl) E0.Waiting);
 Zb h fun x3 h4 h => have q := ((q.o [.cs (Zm x3), .lab 1006]).b (Z2 h4)).b (Zv Zm h4);
 Zb h fun x5 h6 h => have q := (q.k x5).b (Zn9 E0 x3.Control h6);
 Za h (fun h7 h => lR h hk (((q.tt 11).a 5 h7).a 6 (Eq.refl true))) (fun h7 h => have q := q.f 5 h7;
 Za h (fun h8 h => lR h hk (((q.tt 6).a 5 h8).b (Eq.refl true))) (fun h8 h => have q := q.f 3 h8;
 Zb h fun x9 h10 h => have q := (((q.k x9).ff 2).b (Zafx x3.Ability h10)).a 2 h8;
 Za h (fun h11 h => lR h hk (q.t 1 h11)) (fun h11 h => lG h hk ((q.f 1 h11).o [.pick [5, 1] [30000000], .pick [1, 5] [30000000]]))))) (fun h2 h => lG h hk ((q.f 1 h2).o [.pick [7, 1] [30000000], .pick [1, 7] [30000000]]))
theorem Za2n (r : Bool) (E0 : Zd) (v7 : Int) (y : Zfq ⊕ Bool) (h : Z22 E0 v7 = some y) (hk : Zuk r y) : (Zuj (.L3 E0 v7)).HH PR [.t 2] Zr6 Zoa r (Zw7 (.L3 E0 v7)) := have q := (q0.n (E0.Conts.length : Int)).b (Zr Zn E0.Conts);
 Za h (fun h2 h => have q := (q.t 1 h2).b (Zq Zn 6 (fun _ => rfl) E0.Conts);
 Zb h fun x3 h4 h => have q := ((q.o [.cs (Zn x3), .lab 1008]).b (Z2 h4)).b (Zv Zn h4);
 Zb h fun x5 h6 h => have q := (q.k x5).b (Zn9 E0 x3.Control h6);
 Za h (fun h7 h => lR h hk (((q.tt 22).a 6 h7).a 16 (Eq.refl true))) (fun h7 h => have q := q.f 6 h7;
 Za h (fun h8 h => lR h hk (((q.tt 16).a 5 h8).a 11 (Eq.refl true))) (fun h8 h => have q := q.f 3 h8;
 Zb h fun x9 h10 h => have q := (((q.k x9).ff 2).b (Zj4 x3.Until 1 2 h10)).a 2 h8;
 Za h (fun h11 h => lR h hk (((q.tt 11).a 5 h11).a 6 (Eq.refl true))) (fun h11 h => have q := q.f 3 h11;
 Zb h fun x12 h13 h => have q := (((q.k x12).ff 2).b (Zbn6 x3.Objects h13)).a 2 h11;
 Za h (fun h14 h => lR h hk (((q.tt 6).a 5 h14).b (Eq.refl true))) (fun h14 h => have q := q.f 3 h14;
 Zb h fun x15 h16 h => have q := (((q.o [.call (wS x15)]).ff 2).b (Z3k x3.Mods h16)).a 2 h14;
 Za h (fun h17 h => lR h hk (q.t 1 h17)) (fun h17 h => lG h hk ((q.f 1 h17).o [.pick [7, 1] [30000000], .pick [1, 7] [30000000]]))))))) (fun h2 h => lR h hk (q.f 1 h2))
theorem Za6d (r : Bool) (a0 : Zd) (y : Zfq ⊕ Bool) (h : Zagx a0 = some y) (hk : Zuk r y) : (Cfg.code Zu6 []).HH PR [.t 2] Zr6 Zoa r ⟨129, idx 0 [(.agg (bx (Z4 a0)))], []⟩ := have q := (q0.o [.lab 1001, .num (a0.Stack.length : Int)]).b (Zr Zl a0.Stack);
 Za h (fun h2 h => lR h hk (((q.tt 11).a 5 h2).a 6 (Eq.refl true))) (fun h2 h => have q := ((((q.f 3 h2).n (a0.Waiting.length : Int)).ff 2).b (Zr Zm a0.Waiting)).a 2 h2;
 Za h (fun h4 h => lR h hk (((q.tt 6).a 5 h4).b (Eq.refl true))) (fun h4 h => have q := ((((q.f 3 h4).n (a0.Conts.length : Int)).ff 2).b (Zr Zn a0.Conts)).a 2 h4;
 Za h (fun h6 h => lR h hk (q.t 1 h6)) (fun h6 h => lG h hk ((q.f 1 h6).o [.pick [3, 1] [1001], .relab 1001 30000000, .pick [1, 3] [30000000]]))))
theorem Z34 (a0 : Zd) {r : Bool} (h : Zs3 a0 = some r) : Fn PR 81 [(.agg (bx (Z4 a0)))] (Zoa r) :=
 Zb h fun y h0 h1 => FnG.of_cfg hT Go.Proofs.Tryz.func81 (by kernel_rfl : _ = some Zu6) (by kernel_rfl) 129 (by kernel_rfl) (Nat.le_of_ble_eq_true rfl) [.t 2] (by kernel_rfl) (by kernel_rfl) (Za6d r a0 y h0 (Z1 (fun s y h hk => match s with
 | .L0 E0 v3 => Za2k r E0 v3 y h hk
 | .L1 E0 v3 v4 => Za2l r E0 v3 v4 y h hk
 | .L2 E0 v5 => Za2m r E0 v5 y h hk
 | .L3 E0 v7 => Za2n r E0 v7 y h hk) h1))
noncomputable def Zax2 : Code := (Go.Proofs.Tryz.f50.body).getD .skip
noncomputable def Zaau (r : Bool) : PV := (wB r)
noncomputable def Zard (r : Bool) : List (Nat × Blk) := []
noncomputable def Za2o : Zmv → Cfg
 | .L0 _ _ _ => (nav [1, 1, 1, 0, 1, 4] Zax2 []).getD (.done .normal)
noncomputable def Za70 : Zmv → PW.St
 | .L0 v0 E0 v5 => ⟨114, [(0, (wL Z8 v0)), (3, (.bptr 30000000 0)), (5, (wI v5))], [(30000000, .box (bx (Z4 E0)))]⟩
abbrev Za2p (r : Bool) (y : Zmv ⊕ Bool) : Prop := Ok PR [.t 4] (Zard) Zaau Za2o Za70 r y
theorem Zbfn (r : Bool) (v0 : (List Zw)) (E0 : Zd) (v5 : Int) (y : Zmv ⊕ Bool) (h : Z10 v0 E0 v5 = some y) (hk : Za2p r y) : (Za2o (.L0 v0 E0 v5)).HH PR [.t 4] Zard Zaau r (Za70 (.L0 v0 E0 v5)) := have q := (q0.n (E0.Extra.length : Int)).b (Zr (cI .i64) E0.Extra);
 Za h (fun h2 h => have q := (q.t 1 h2).b (Zq (cI .i64) 1 (fun _ => rfl) E0.Extra);
 Zb h fun x3 h4 h => have q := ((q.o [.cs ((cI .i64) x3)]).b (Z2 h4)).b (Zv (cI .i64) h4);
 Zb h fun x5 h6 h => have q := (q.k x5).b (Zn9 E0 x3 h6);
 Za h (fun h7 h => lR h hk (q.t 1 h7)) (fun h7 h => lG h hk ((q.f 1 h7).o [.pick [5, 0, 3] [30000000], .pick [0, 3, 5] [30000000]]))) (fun h2 h => have q := q.f 1 h2;
 Za h (fun h10 h => have q := q.t 4 h10;
 Zb h fun x11 h12 h => have q := (((q.k x11).tt 2).b (Zn9 E0 E0.Winner h12)).a 2 h10;
 Za h (fun h13 h => lR h hk (((q.tt 7).a 6 h13).b (Eq.refl true))) (fun h13 h => have q := q.f 4 h13;
 Za h (fun h14 h => have q := (((q.t 3 h14).f 1 h13).t 1 h14).f 1 h13;
 Za h (fun h15 h => lR h hk (q.t 1 h15)) (fun h15 h => have q := q.f 1 h15;
 Zb h fun x16 h17 h => have q := (q.k x16).b (Zyl v0 E0 h17);
 Za h (fun h18 h => Zb h fun x19 h20 h => lR h hk ((((q.t 2 h18).k x19).t 1 (Z34 E0 h20)).b h18)) (fun h18 h => lR h hk (q.f 3 h18)))) (fun h14 h => have q := (((((q.ff 7).a 3 h14).b h13).b h14).b h13).b (Eq.refl false);
 Zb h fun x21 h22 h => have q := (q.k x21).b (Zyl v0 E0 h22);
 Za h (fun h23 h => Zb h fun x24 h25 h => lR h hk ((((q.t 2 h23).k x24).t 1 (Z34 E0 h25)).b h23)) (fun h23 h => lR h hk (q.f 3 h23))))) (fun h10 h => have q := ((q.ff 10).a 6 h10).a 4 (Eq.refl false);
 Za h (fun h26 h => have q := (((q.t 3 h26).f 1 (Eq.refl false)).t 1 h26).f 1 (Eq.refl false);
 Za h (fun h27 h => lR h hk (q.t 1 h27)) (fun h27 h => have q := q.f 1 h27;
 Zb h fun x28 h29 h => have q := (q.k x28).b (Zyl v0 E0 h29);
 Za h (fun h30 h => Zb h fun x31 h32 h => lR h hk ((((q.t 2 h30).k x31).t 1 (Z34 E0 h32)).b h30)) (fun h30 h => lR h hk (q.f 3 h30)))) (fun h26 h => have q := ((((q.ff 7).a 3 h26).b (Eq.refl false)).b h26).a 2 (Eq.refl false);
 Zb h fun x33 h34 h => have q := (q.k x33).b (Zyl v0 E0 h34);
 Za h (fun h35 h => Zb h fun x36 h37 h => lR h hk ((((q.t 2 h35).k x36).t 1 (Z34 E0 h37)).b h35)) (fun h35 h => lR h hk (q.f 3 h35)))))
theorem Zbjv (r : Bool) (a0 : (List Zw)) (a1 : Zd) (y : Zmv ⊕ Bool) (h : Zak0 a0 a1 = some y) (hk : Za2p r y) : (Cfg.code Zax2 []).HH PR [.t 4] Zard Zaau r ⟨114, idx 0 [(wL Z8 a0), (.agg (bx (Z4 a1)))], []⟩ := have q := q0.o [.lab 1003];
 Zb h fun x1 h2 h => have q := (q.k x1).b (Zj4 a1.NextId 1 1000000 h2);
 Za h (fun h3 h => lR h hk (((q.tt 21).a 5 h3).a 16 (Eq.refl true))) (fun h3 h => have q := q.f 3 h3;
 Zb h fun x4 h5 h => have q := (((q.k x4).ff 2).b (Zj4 a1.NextStamp 1 1000000 h5)).a 2 h3;
 Za h (fun h6 h => lR h hk (((q.tt 16).a 5 h6).a 11 (Eq.refl true))) (fun h6 h => have q := q.f 3 h6;
 Zb h fun x7 h8 h => have q := (((q.k x7).ff 2).b (Zj4 a1.Turn 0 500 h8)).a 2 h6;
 Za h (fun h9 h => lR h hk (((q.tt 11).a 5 h9).a 6 (Eq.refl true))) (fun h9 h => have q := q.f 3 h9;
 Zb h fun x10 h11 h => have q := (((q.k x10).ff 2).b (Zj4 a1.Step 0 10 h11)).a 2 h9;
 Za h (fun h12 h => lR h hk (((q.tt 6).a 5 h12).b (Eq.refl true))) (fun h12 h => have q := ((((q.f 3 h12).n (a1.Objects.length : Int)).ff 2).b (Zr Zc a1.Objects)).a 2 h12;
 Za h (fun h14 h => lR h hk (q.t 1 h14)) (fun h14 h => have q := q.f 1 h14;
 Zb h fun x15 h16 h => have q := (q.k x15).b (Za56 a1 h16);
 Za h (fun h17 h => lR h hk (((q.tt 31).a 6 h17).a 25 (Eq.refl true))) (fun h17 h => have q := q.f 4 h17;
 Zb h fun x18 h19 h => have q := (((q.k x18).ff 2).b (Zn9 a1 a1.Active h19)).a 2 h17;
 Za h (fun h20 h => lR h hk (((q.tt 25).a 6 h20).a 19 (Eq.refl true))) (fun h20 h => have q := q.f 4 h20;
 Zb h fun x21 h22 h => have q := (((q.k x21).ff 2).b (Zn9 a1 a1.Priority h22)).a 2 h20;
 Za h (fun h23 h => lR h hk (((q.tt 19).a 8 h23).a 11 (Eq.refl true))) (fun h23 h => have q := (((q.f 5 h23).n (a1.Players.length : Int)).f 1 (Zr Zg a1.Players)).b h23;
 Zb h fun x25 h26 h => have q := (((q.k x25).ff 2).b (Zj4 a1.Passes 0 (a1.Players.length : Int) h26)).a 2 h23;
 Za h (fun h27 h => lR h hk (((q.tt 11).a 5 h27).a 6 (Eq.refl true))) (fun h27 h => have q := ((((q.f 3 h27).n (a1.Extra.length : Int)).ff 2).b (Zr (cI .i64) a1.Extra)).a 2 h27;
 Za h (fun h29 h => lR h hk (((q.tt 6).a 5 h29).b (Eq.refl true))) (fun h29 h => have q := q.f 3 h29;
 Zb h fun x30 h31 h => have q := (((q.k x30).ff 2).b (Zj4 a1.Over 0 2 h31)).a 2 h29;
 Za h (fun h32 h => lR h hk (q.t 1 h32)) (fun h32 h => lG h hk ((q.f 1 h32).o [.pick [5, 3, 0] [1003], .relab 1003 30000000, .pick [0, 3, 5] [30000000]]))))))))))))
theorem Zbn7 (a0 : (List Zw)) (a1 : Zd) {r : Bool} (h : Z7r a0 a1 = some r) : Fn PR 50 [(wL Z8 a0), (.agg (bx (Z4 a1)))] (Zaau r) :=
 Zb h fun y h0 h1 => FnG.of_cfg hT Go.Proofs.Tryz.func50 (by kernel_rfl : _ = some Zax2) (by kernel_rfl) 114 (by kernel_rfl) (Nat.le_of_ble_eq_true rfl) [.t 4] (by kernel_rfl) (by kernel_rfl) (Zbjv r a0 a1 y h0 (Z1 (fun s y h hk => match s with
 | .L0 v0 E0 v5 => Zbfn r v0 E0 v5 y h hk) h1))
noncomputable def Zahz : Code := (Go.Proofs.Tryz.f20.body).getD .skip
noncomputable def Zz7 (r : Bool) : PV := (wB r)
noncomputable def Zady (r : Bool) : List (Nat × Blk) := []
noncomputable def Zanp : Zkm → Cfg
 | .L0 _ _ _ => (nav [1, 1, 0, 1, 4] Zahz []).getD (.done .normal)
noncomputable def Zare : Zkm → PW.St
 | .L0 v0 E0 v5 => ⟨102, [(0, (wL Z8 v0)), (3, (.bptr 30000000 0)), (5, (wI v5))], [(30000000, .box (bx (Z4 E0)))]⟩
abbrev Zanq (r : Bool) (y : Zkm ⊕ Bool) : Prop := Ok PR [.t 4] (Zady) Zz7 Zanp Zare r y
theorem Za2q (r : Bool) (v0 : (List Zw)) (E0 : Zd) (v5 : Int) (y : Zkm ⊕ Bool) (h : Zrr v0 E0 v5 = some y) (hk : Zanq r y) : (Zanp (.L0 v0 E0 v5)).HH PR [.t 4] Zady Zz7 r (Zare (.L0 v0 E0 v5)) := have q := (q0.n (E0.Players.length : Int)).b (Zr Zg E0.Players);
 Za h (fun h2 h => have q := (q.t 1 h2).b (Zq Zg 14 (fun _ => rfl) E0.Players);
 Zb h fun x3 h4 h => have q := (((((((((((q.o [.cs (Zg x3), .num (x3.Library.length : Int), .cs (Zg x3), .num (x3.Hand.length : Int), .cs (Zg x3), .num (x3.Graveyard.length : Int)]).b (Z2 h4)).b (Zv Zg h4)).b (Zr (cI .i64) x3.Library)).b (Zq Zg 14 (fun _ => rfl) E0.Players)).b (Z2 h4)).b (Zv Zg h4)).b (Zr (cI .i64) x3.Hand)).b (Zq Zg 14 (fun _ => rfl) E0.Players)).b (Z2 h4)).b (Zv Zg h4)).b (Zr (cI .i64) x3.Graveyard);
 Za h (fun h12 h => lR h hk (q.t 1 h12)) (fun h12 h => lG h hk ((q.f 1 h12).o [.pick [5, 0, 3] [30000000], .pick [0, 3, 5] [30000000]]))) (fun h2 h => have q := q.f 1 h2;
 Zb h fun x15 h16 h => have q := (q.o [.call (.tup [(wI x15.1), (wI x15.2)])]).b (Zbe1 v0 h16);
 Za h (fun h17 h => Zb h fun x18 h19 h => lR h hk ((((q.t 3 h17).k x18).t 1 (Zbn7 v0 E0 h19)).b h17)) (fun h17 h => lR h hk (q.f 4 h17)))
theorem Za6e (r : Bool) (a0 : (List Zw)) (a1 : Zd) (y : Zkm ⊕ Bool) (h : Z63 a0 a1 = some y) (hk : Zanq r y) : (Cfg.code Zahz []).HH PR [.t 4] Zady Zz7 r ⟨102, idx 0 [(wL Z8 a0), (.agg (bx (Z4 a1)))], []⟩ := have q := (q0.o [.lab 1003, .num (a0.length : Int)]).b (Zr Z8 a0);
 Za h (fun h2 h => lR h hk (((q.tt 41).a 5 h2).a 36 (Eq.refl true))) (fun h2 h => have q := ((((q.f 3 h2).n (a1.Players.length : Int)).ff 2).b (Zr Zg a1.Players)).a 2 h2;
 Za h (fun h4 h => lR h hk (((q.tt 36).a 5 h4).a 31 (Eq.refl true))) (fun h4 h => have q := ((((q.f 3 h4).n (a1.Objects.length : Int)).ff 2).b (Zr Zc a1.Objects)).a 2 h4;
 Za h (fun h6 h => lR h hk (((q.tt 31).a 5 h6).a 26 (Eq.refl true))) (fun h6 h => have q := ((((q.f 3 h6).n (a1.Battlefield.length : Int)).ff 2).b (Zr (cI .i64) a1.Battlefield)).a 2 h6;
 Za h (fun h8 h => lR h hk (((q.tt 26).a 5 h8).a 21 (Eq.refl true))) (fun h8 h => have q := ((((q.f 3 h8).n (a1.Exile.length : Int)).ff 2).b (Zr (cI .i64) a1.Exile)).a 2 h8;
 Za h (fun h10 h => lR h hk (((q.tt 21).a 5 h10).a 16 (Eq.refl true))) (fun h10 h => have q := ((((q.f 3 h10).n (a1.Stack.length : Int)).ff 2).b (Zr Zl a1.Stack)).a 2 h10;
 Za h (fun h12 h => lR h hk (((q.tt 16).a 5 h12).a 11 (Eq.refl true))) (fun h12 h => have q := ((((q.f 3 h12).n (a1.Waiting.length : Int)).ff 2).b (Zr Zm a1.Waiting)).a 2 h12;
 Za h (fun h14 h => lR h hk (((q.tt 11).a 5 h14).a 6 (Eq.refl true))) (fun h14 h => have q := ((((q.f 3 h14).n (a1.Conts.length : Int)).ff 2).b (Zr Zn a1.Conts)).a 2 h14;
 Za h (fun h16 h => lR h hk (((q.tt 6).a 5 h16).b (Eq.refl true))) (fun h16 h => have q := ((((q.f 3 h16).n (a1.Extra.length : Int)).ff 2).b (Zr (cI .i64) a1.Extra)).a 2 h16;
 Za h (fun h18 h => lR h hk (q.t 1 h18)) (fun h18 h => lG h hk ((q.f 1 h18).o [.pick [5, 3, 0] [1003], .relab 1003 30000000, .pick [0, 3, 5] [30000000]]))))))))))
theorem Zbfo (a0 : (List Zw)) (a1 : Zd) {r : Bool} (h : Z7s a0 a1 = some r) : Fn PR 20 [(wL Z8 a0), (.agg (bx (Z4 a1)))] (Zz7 r) :=
 Zb h fun y h0 h1 => FnG.of_cfg hT Go.Proofs.Tryz.func20 (by kernel_rfl : _ = some Zahz) (by kernel_rfl) 102 (by kernel_rfl) (Nat.le_of_ble_eq_true rfl) [.t 4] (by kernel_rfl) (by kernel_rfl) (Za6e r a0 a1 y h0 (Z1 (fun s y h hk => match s with
 | .L0 v0 E0 v5 => Za2q r v0 E0 v5 y h hk) h1))
noncomputable def Za71 : Code := (Go.Proofs.Tryz.f8.body).getD .skip
noncomputable def Zah0 (r : Bool) : PV := (wB r)
noncomputable def Za2r (r : Bool) : List (Nat × Blk) := []
noncomputable def Zbjw : Zqe → Cfg := fun s => nomatch s
noncomputable def Zbl3 : Zqe → PW.St := fun s => nomatch s
abbrev Zbjx (r : Bool) (y : Zqe ⊕ Bool) : Prop := Ok PR [.t 2] (Za2r) Zah0 Zbjw Zbl3 r y
theorem Zbfp (r : Bool) (a0 : Zab) (y : Zqe ⊕ Bool) (h : Zafb a0 = some y) (hk : Zbjx r y) : (Cfg.code Za71 []).HH PR [.t 2] Za2r Zah0 r ⟨15, idx 0 [(.agg (bx (Ze3 a0)))], []⟩ := have q := q0.o [.lab 1001];
 Zb h fun x1 h2 h => have q := (q.k x1).b (Zbfo a0.Cards a0.State h2);
 Za h (fun h3 h => lR h hk (((((q.t 4 h3).n (a0.Pending.Options.length : Int)).tt 2).b (Zr Zu a0.Pending.Options)).a 2 h3)) (fun h3 h => lR h hk (q.f 6 h3))
theorem Zbl4 (a0 : Zab) {r : Bool} (h : Zaaz a0 = some r) : Fn PR 8 [(.agg (bx (Ze3 a0)))] (Zah0 r) :=
 Zb h fun y h0 h1 => FnG.of_cfg hT Go.Proofs.Tryz.func8 (by kernel_rfl : _ = some Za71) (by kernel_rfl) 15 (by kernel_rfl) (Nat.le_of_ble_eq_true rfl) [.t 2] (by kernel_rfl) (by kernel_rfl) (Zbfp r a0 y h0 (Z1 (fun s _ _ _ => nomatch s) h1))
noncomputable def Zah1 : Code := (Go.Proofs.Tryz.f21.body).getD .skip
noncomputable def Zz8 (r : Zab) : PV := (.agg ([(wL Z8 r.Cards), (wL Zg r.State.Players), (.osl 5002 (List.map Zc r.State.Objects).length), (.osl 5003 (List.map (cI .i64) r.State.Battlefield).length), (.osl 5004 (List.map (cI .i64) r.State.Exile).length), (.osl 5005 (List.map Zl r.State.Stack).length), (.osl 5006 (List.map Zm r.State.Waiting).length), (.osl 5007 (List.map Zn r.State.Conts).length), (wI r.State.Turn), (wI r.State.Active), (wI r.State.Step), (wB r.State.Begun), (wI r.State.Priority), (wI r.State.Passes), (wI r.State.NextId), (wI r.State.NextStamp), (.t (.int .u64 r.State.Seed)), (.osl 5017 (List.map (cI .i64) r.State.Extra).length), (wI r.State.Over), (wI r.State.Winner), (wL (cL (cI .i64)) r.Answers)] ++ (bx (Zlj r.Pending) ++ ([(wI r.Forced), (wL Z4 r.Seen)]))))
noncomputable def Z35 (r : Zab) : List (Nat × Blk) := [(5002, .row 19 (List.map Zc r.State.Objects)), (5003, .row 1 (List.map (cI .i64) r.State.Battlefield)), (5004, .row 1 (List.map (cI .i64) r.State.Exile)), (5005, .row 94 (List.map Zl r.State.Stack)), (5006, .row 89 (List.map Zm r.State.Waiting)), (5007, .row 6 (List.map Zn r.State.Conts)), (5017, .row 1 (List.map (cI .i64) r.State.Extra))]
noncomputable def Zanr : Znf → Cfg
 | .L0 _ _ _ _ => (nav [1, 1, 1, 0, 1, 4] Zah1 []).getD (.done .normal)
noncomputable def Zarf : Znf → PW.St
 | .L0 E0 E1 v2 v3 => ⟨40, [(0, (.bptr 30000000 0)), (1, (.bptr 30000001 0)), (2, (wL (cI .i64) v2)), (3, (wI v3))], [(30000000, .box [(.osl 40000000 (List.map Z8 E0.Cards).length), (.osl 40000001 (List.map Zg E0.State.Players).length), (.osl 40000002 (List.map Zc E0.State.Objects).length), (.osl 40000003 (List.map (cI .i64) E0.State.Battlefield).length), (.osl 40000004 (List.map (cI .i64) E0.State.Exile).length), (.osl 40000005 (List.map Zl E0.State.Stack).length), (.osl 40000006 (List.map Zm E0.State.Waiting).length), (.osl 40000007 (List.map Zn E0.State.Conts).length), (wI E0.State.Turn), (wI E0.State.Active), (wI E0.State.Step), (wB E0.State.Begun), (wI E0.State.Priority), (wI E0.State.Passes), (wI E0.State.NextId), (wI E0.State.NextStamp), (.t (.int .u64 E0.State.Seed)), (.osl 40000017 (List.map (cI .i64) E0.State.Extra).length), (wI E0.State.Over), (wI E0.State.Winner), (.osl 40000020 (List.map (cL (cI .i64)) E0.Answers).length), (wI E0.Pending.Kind), (wI E0.Pending.Player), (wI E0.Pending.Source), (wI E0.Pending.Least), (wI E0.Pending.Most), (wI E0.Pending.N), (.osl 40000027 (List.map Zu E0.Pending.Options).length), (wI E0.Forced), (.osl 40000029 (List.map Z4 E0.Seen).length)]), (40000000, .row 17 (List.map Z8 E0.Cards)), (40000001, .row 14 (List.map Zg E0.State.Players)), (40000002, .row 19 (List.map Zc E0.State.Objects)), (40000003, .row 1 (List.map (cI .i64) E0.State.Battlefield)), (40000004, .row 1 (List.map (cI .i64) E0.State.Exile)), (40000005, .row 94 (List.map Zl E0.State.Stack)), (40000006, .row 89 (List.map Zm E0.State.Waiting)), (40000007, .row 6 (List.map Zn E0.State.Conts)), (40000017, .row 1 (List.map (cI .i64) E0.State.Extra)), (40000020, .row 1 (List.map (cL (cI .i64)) E0.Answers)), (40000027, .row 3 (List.map Zu E0.Pending.Options)), (40000029, .row 19 (List.map Z4 E0.Seen)), (30000001, .box [(wL Zg E1.Players), (.osl 40000101 (List.map Zc E1.Objects).length), (.osl 40000102 (List.map (cI .i64) E1.Battlefield).length), (.osl 40000103 (List.map (cI .i64) E1.Exile).length), (.osl 40000104 (List.map Zl E1.Stack).length), (.osl 40000105 (List.map Zm E1.Waiting).length), (.osl 40000106 (List.map Zn E1.Conts).length), (wI E1.Turn), (wI E1.Active), (wI E1.Step), (wB E1.Begun), (wI E1.Priority), (wI E1.Passes), (wI E1.NextId), (wI E1.NextStamp), (.t (.int .u64 E1.Seed)), (.osl 40000116 (List.map (cI .i64) E1.Extra).length), (wI E1.Over), (wI E1.Winner)]), (40000101, .row 19 (List.map Zc E1.Objects)), (40000102, .row 1 (List.map (cI .i64) E1.Battlefield)), (40000103, .row 1 (List.map (cI .i64) E1.Exile)), (40000104, .row 94 (List.map Zl E1.Stack)), (40000105, .row 89 (List.map Zm E1.Waiting)), (40000106, .row 6 (List.map Zn E1.Conts)), (40000116, .row 1 (List.map (cI .i64) E1.Extra))]⟩
abbrev Zans (r : Zab) (y : Znf ⊕ Zab) : Prop := Ok PR [.c 0 38 true 30] (Z35) Zz8 Zanr Zarf r y
theorem Za2s (r : Zab) (E0 : Zab) (E1 : Zd) (v2 : (List Int)) (v3 : Int) (y : Znf ⊕ Zab) (h : Zapb E0 E1 v2 v3 = some y) (hk : Zans r y) : (Zanr (.L0 E0 E1 v2 v3)).HH PR [.c 0 38 true 30] Z35 Zz8 r (Zarf (.L0 E0 E1 v2 v3)) :=
 Za h (fun h1 h => Zb h fun x4 h5 h => Zb h fun x7 h8 h => lG h hk (((((((((((q0.t 1 h1).o [.cs ((cI .i64) x4), .lit, .es (List.map Zc x7), .pick [3, 0, 1, 2] [30000001, 40000101, 30000000, 40000000, 40000001, 40000002, 40000003, 40000004, 40000005, 40000006, 40000007, 40000017, 40000020, 40000027, 40000029, 40000102, 40000103, 40000104, 40000105, 40000106, 40000116], .pick [0, 1, 2, 3] [30000000, 40000000, 40000001, 40000002, 40000003, 40000004, 40000005, 40000006, 40000007, 40000017, 40000020, 40000027, 40000029, 30000001, 40000101, 40000102, 40000103, 40000104, 40000105, 40000106, 40000116]]).a 2 (show (2 : Int) ≠ 0 by decide)).b (Zq (cI .i64) 1 (fun _ => rfl) v2)).b (Z2 h5)).b (Zv (cI .i64) h5)).b (Eq.refl (List.map Zc E1.Objects).length)).b (Zdw Zc h8)).b (Zq Zc 19 (fun _ => rfl) [(⟨IntKind.wrap .i64 (v3 + 1), 0, Int.tmod v3 2, Int.tmod v3 2, x4, false, false, false, false, 0, (⟨0, 0, 0⟩ : (A3 Int)), 0, (-1), (-1), false, 0, 0⟩ : Zf)])).b (Zdx Zc h8)).b (Zcb Zc h8))) (fun h1 h => lO h hk [5002, 5003, 5004, 5005, 5006, 5007, 5017] ((q0.f 1 h1).o [.lit, .lit, .relab 40000101 5002, .relab 40000102 5003, .relab 40000103 5004, .relab 40000104 5005, .relab 40000105 5006, .relab 40000106 5007, .relab 40000116 5017, .niltb 30000000 20, .niltb 30000000 29]))
theorem Za6f (r : Zab) (y : Znf ⊕ Zab) (h : Zagy = some y) (hk : Zans r y) : (Cfg.code Zah1 []).HH PR [.c 0 38 true 30] Z35 Zz8 r ⟨40, idx 0 [], []⟩ :=
 lG h hk (q0.o [.lab 1000, .lit, .lit, .lit, .lit, .lab 1001, .lit, .pick [3, 2, 1, 0] [1001, 1000], .relab 1000 30000000, .relab 1001 30000001, .ownb 30000000 0 40000000 17, .ownb 30000000 1 40000001 14, .ownb 30000000 2 40000002 19, .ownb 30000000 3 40000003 1, .ownb 30000000 4 40000004 1, .ownb 30000000 5 40000005 94, .ownb 30000000 6 40000006 89, .ownb 30000000 7 40000007 6, .ownb 30000000 17 40000017 1, .ownb 30000000 20 40000020 1, .ownb 30000000 27 40000027 3, .ownb 30000000 29 40000029 19, .ownb 30000001 1 40000101 19, .ownb 30000001 2 40000102 1, .ownb 30000001 3 40000103 1, .ownb 30000001 4 40000104 94, .ownb 30000001 5 40000105 89, .ownb 30000001 6 40000106 6, .ownb 30000001 16 40000116 1, .pick [0, 1, 2, 3] [30000000, 40000000, 40000001, 40000002, 40000003, 40000004, 40000005, 40000006, 40000007, 40000017, 40000020, 40000027, 40000029, 30000001, 40000101, 40000102, 40000103, 40000104, 40000105, 40000106, 40000116]])
theorem Zbax {r : Zab} (h : Z7t = some r) : FnG PR 21 [] [] ((Z35) r) (Zz8 r) :=
 Zb h fun y h0 h1 => FnG.of_cfg hT Go.Proofs.Tryz.func21 (by kernel_rfl : _ = some Zah1) (by kernel_rfl) 40 (by kernel_rfl) (Nat.le_of_ble_eq_true rfl) [.c 0 38 true 30] (by kernel_rfl) (by kernel_rfl) (Za6f r y h0 (Z1 (fun s y h hk => match s with
 | .L0 E0 E1 v2 v3 => Za2s r E0 E1 v2 v3 y h hk) h1))
theorem Zbfq {r : Zab} (h : Z7t = some r) : Fn PR 21 [] (.agg (bx (Ze3 r))) :=
 FnG.frozen (Zbax h) (And.intro (Eq.refl (List.map Zc r.State.Objects).length) (And.intro (Eq.refl (List.map (cI .i64) r.State.Battlefield).length) (And.intro (Eq.refl (List.map (cI .i64) r.State.Exile).length) (And.intro (Eq.refl (List.map Zl r.State.Stack).length) (And.intro (Eq.refl (List.map Zm r.State.Waiting).length) (And.intro (Eq.refl (List.map Zn r.State.Conts).length) (And.intro (Eq.refl (List.map (cI .i64) r.State.Extra).length) trivial))))))) (by kernel_rfl)
noncomputable def Zc5 : Code := (Go.Proofs.Tryz.f59.body).getD .skip
noncomputable def Zdr (r : (List Zaa)) : PV := (.osl 5000 (List.map Zg r).length)
noncomputable def Zd4 (r : (List Zaa)) : List (Nat × Blk) := [(5000, .row 14 (List.map Zg r))]
noncomputable def Zsp : Zbg → Cfg := fun s => nomatch s
noncomputable def Ztr : Zbg → PW.St := fun s => nomatch s
abbrev Zhi (r : (List Zaa)) (y : Zbg ⊕ (List Zaa)) : Prop := Ok PR [.t 2] (Zd4) Zdr Zsp Ztr r y
theorem Zr7 (r : (List Zaa)) (a0 : (List Zaa)) (hne : a0 ≠ []) (y : Zbg ⊕ (List Zaa)) (h : Zec a0 = some y) (hk : Zhi r y) : (Cfg.code Zc5 []).HH PR [.t 2] Zd4 Zdr r ⟨8, idx 0 [(wL Zg a0)], []⟩ :=
 Zb h fun x1 h2 h => lO h hk [5000] ((((((((q0.f 1 (Zwe Zg hne)).o [.lab 1005, .es (List.map Zg x1), .relab 1005 5000]).b (Eq.refl false)).b (Eq.refl (List.map Zg ([] : (List Zaa))).length)).b (Zdw Zg h2)).b (Zq Zg 14 (fun _ => rfl) a0)).b (Zdx Zg h2)).b (Zcb Zg h2))
theorem Zq4 (r : (List Zaa)) (c : Nat) (y : Zbg ⊕ (List Zaa)) (h : Zec [] = some y) (hk : Zhi r y) : (Cfg.code Zc5 []).HH PR [.t 2] Zd4 Zdr r ⟨8, idx 0 [(.t (.con (.slice none 0 c)))], []⟩ :=
 Zb h fun x1 h2 h => by
 cases Zwf h2
 exact Zfw hm hT (r' := ([] : (List Zaa))) h hk 400 [.br true, .own 2 5000 14] [5000] (And.intro (Eq.refl true) trivial) (by kernel_rfl)
theorem Zq5 (r : (List Zaa)) (c : Nat) (ad : Addr) (y : Zbg ⊕ (List Zaa)) (h : Zec [] = some y) (hk : Zhi r y) : (Cfg.code Zc5 []).HH PR [.t 2] Zd4 Zdr r ⟨8, idx 0 [(.t (.con (.slice (some ad) 0 c)))], []⟩ :=
 Zb h fun x1 h2 h =>
 Zfw hm hT (r' := x1) h hk 400 [.br false, .lab 1005, .es (List.map Zg x1), .relab 1005 5000] [5000] (And.intro (Eq.refl false) (And.intro (Eq.refl (List.map Zg ([] : (List Zaa))).length) (And.intro (Zdw Zg h2) (And.intro (Zq Zg 14 (fun _ => rfl) ([] : (List Zaa))) (And.intro (Zdx Zg h2) (And.intro (Zcb Zg h2) trivial)))))) (by kernel_rfl)
theorem Zsq (a0 : (List Zaa)) {r : (List Zaa)} (h : Zf0 a0 = some r) : FnG PR 59 [] [(wL Zg a0)] ((Zd4) r) (Zdr r) :=
 Zb h fun y h0 h1 => FnG.split0 (fun hne => FnG.of_cfg hT Go.Proofs.Tryz.func59 (by kernel_rfl : _ = some Zc5) (by kernel_rfl) 8 (by kernel_rfl) (Nat.le_of_ble_eq_true rfl) [.t 2] (by kernel_rfl) (by kernel_rfl) (Zr7 r a0 (fun e => hne (by rw [e]; rfl)) y h0 (Z1 (fun s _ _ _ => nomatch s) h1)))
 (fun he a c => by
 have ha : a0 = [] := by simpa using he
 subst ha
 cases a with
 | none => exact FnG.of_cfg hT Go.Proofs.Tryz.func59 (by kernel_rfl : _ = some Zc5) (by kernel_rfl) 8 (by kernel_rfl) (Nat.le_of_ble_eq_true rfl) [.t 2] (by kernel_rfl) (by kernel_rfl) (Zq4 r c y h0 (Z1 (fun s _ _ _ => nomatch s) h1))
 | some ad => exact FnG.of_cfg hT Go.Proofs.Tryz.func59 (by kernel_rfl : _ = some Zc5) (by kernel_rfl) 8 (by kernel_rfl) (Nat.le_of_ble_eq_true rfl) [.t 2] (by kernel_rfl) (by kernel_rfl) (Zq5 r c ad y h0 (Z1 (fun s _ _ _ => nomatch s) h1)))
noncomputable def Zgq : Code := (Go.Proofs.Tryz.f62.body).getD .skip
noncomputable def Zhn (r : (List Int)) : PV := (.osl 5000 (List.map (cI .i64) r).length)
noncomputable def Zh4 (r : (List Int)) : List (Nat × Blk) := [(5000, .row 1 (List.map (cI .i64) r))]
noncomputable def Z7y : Zdn → Cfg := fun s => nomatch s
noncomputable def Z8y : Zdn → PW.St := fun s => nomatch s
abbrev Znv (r : (List Int)) (y : Zdn ⊕ (List Int)) : Prop := Ok PR [.t 2] (Zh4) Zhn Z7y Z8y r y
theorem Z59 (r : (List Int)) (a0 : (List Int)) (hne : a0 ≠ []) (y : Zdn ⊕ (List Int)) (h : Zit a0 = some y) (hk : Znv r y) : (Cfg.code Zgq []).HH PR [.t 2] Zh4 Zhn r ⟨8, idx 0 [(wL (cI .i64) a0)], []⟩ :=
 Zb h fun x1 h2 h => lO h hk [5000] ((((((((q0.f 1 (Zwe (cI .i64) hne)).o [.lab 1005, .es (List.map (cI .i64) x1), .relab 1005 5000]).b (Eq.refl false)).b (Eq.refl (List.map (cI .i64) ([] : (List Int))).length)).b (Zdw (cI .i64) h2)).b (Zq (cI .i64) 1 (fun _ => rfl) a0)).b (Zdx (cI .i64) h2)).b (Zcb (cI .i64) h2))
theorem Z4q (r : (List Int)) (c : Nat) (y : Zdn ⊕ (List Int)) (h : Zit [] = some y) (hk : Znv r y) : (Cfg.code Zgq []).HH PR [.t 2] Zh4 Zhn r ⟨8, idx 0 [(.t (.con (.slice none 0 c)))], []⟩ :=
 Zb h fun x1 h2 h => by
 cases Zwf h2
 exact Zfw hm hT (r' := ([] : (List Int))) h hk 400 [.br true, .own 2 5000 1] [5000] (And.intro (Eq.refl true) trivial) (by kernel_rfl)
theorem Z4r (r : (List Int)) (c : Nat) (ad : Addr) (y : Zdn ⊕ (List Int)) (h : Zit [] = some y) (hk : Znv r y) : (Cfg.code Zgq []).HH PR [.t 2] Zh4 Zhn r ⟨8, idx 0 [(.t (.con (.slice (some ad) 0 c)))], []⟩ :=
 Zb h fun x1 h2 h =>
 Zfw hm hT (r' := x1) h hk 400 [.br false, .lab 1005, .es (List.map (cI .i64) x1), .relab 1005 5000] [5000] (And.intro (Eq.refl false) (And.intro (Eq.refl (List.map (cI .i64) ([] : (List Int))).length) (And.intro (Zdw (cI .i64) h2) (And.intro (Zq (cI .i64) 1 (fun _ => rfl) ([] : (List Int))) (And.intro (Zdx (cI .i64) h2) (And.intro (Zcb (cI .i64) h2) trivial)))))) (by kernel_rfl)
theorem Ze8 (a0 : (List Int)) {r : (List Int)} (h : Zc3 a0 = some r) : FnG PR 62 [] [(wL (cI .i64) a0)] ((Zh4) r) (Zhn r) :=
 Zb h fun y h0 h1 => FnG.split0 (fun hne => FnG.of_cfg hT Go.Proofs.Tryz.func62 (by kernel_rfl : _ = some Zgq) (by kernel_rfl) 8 (by kernel_rfl) (Nat.le_of_ble_eq_true rfl) [.t 2] (by kernel_rfl) (by kernel_rfl) (Z59 r a0 (fun e => hne (by rw [e]; rfl)) y h0 (Z1 (fun s _ _ _ => nomatch s) h1)))
 (fun he a c => by
 have ha : a0 = [] := by simpa using he
 subst ha
 cases a with
 | none => exact FnG.of_cfg hT Go.Proofs.Tryz.func62 (by kernel_rfl : _ = some Zgq) (by kernel_rfl) 8 (by kernel_rfl) (Nat.le_of_ble_eq_true rfl) [.t 2] (by kernel_rfl) (by kernel_rfl) (Z4q r c y h0 (Z1 (fun s _ _ _ => nomatch s) h1))
 | some ad => exact FnG.of_cfg hT Go.Proofs.Tryz.func62 (by kernel_rfl : _ = some Zgq) (by kernel_rfl) 8 (by kernel_rfl) (Nat.le_of_ble_eq_true rfl) [.t 2] (by kernel_rfl) (by kernel_rfl) (Z4r r c ad y h0 (Z1 (fun s _ _ _ => nomatch s) h1)))
theorem Z8z (a0 : (List Int)) {r : (List Int)} (h : Zc3 a0 = some r) : Fn PR 62 [(wL (cI .i64) a0)] (wL (cI .i64) r) :=
 FnG.frozen (Ze8 a0 h) (And.intro (Eq.refl (List.map (cI .i64) r).length) trivial) (by kernel_rfl)
noncomputable def Z9z : Code := (Go.Proofs.Tryz.f60.body).getD .skip
noncomputable def Zvf (r : Zaa) : PV := (.agg [(wI r.Life), (wI r.Venom), (wI r.Lands), (wI r.Pool.a0), (wI r.Pool.a1), (wI r.Pool.a2), (wI r.Pool.a3), (wI r.Pool.a4), (wI r.Pool.a5), (wB r.Failed), (wB r.Lost), (.osl 5011 (List.map (cI .i64) r.Library).length), (.osl 5012 (List.map (cI .i64) r.Hand).length), (.osl 5013 (List.map (cI .i64) r.Graveyard).length)])
noncomputable def Zw8 (r : Zaa) : List (Nat × Blk) := [(5011, .row 1 (List.map (cI .i64) r.Library)), (5012, .row 1 (List.map (cI .i64) r.Hand)), (5013, .row 1 (List.map (cI .i64) r.Graveyard))]
noncomputable def Zan8 : Zjw → Cfg := fun s => nomatch s
noncomputable def Zarg : Zjw → PW.St := fun s => nomatch s
abbrev Zan9 (r : Zaa) (y : Zjw ⊕ Zaa) : Prop := Ok PR [.c 2 59 true 14] (Zw8) Zvf Zan8 Zarg r y
theorem Zalx (r : Zaa) (a0 : Zaa) (y : Zjw ⊕ Zaa) (h : Zyp a0 = some y) (hk : Zan9 r y) : (Cfg.code Z9z []).HH PR [.c 2 59 true 14] Zw8 Zvf r ⟨16, idx 0 [(.agg (bx (Zg a0)))], []⟩ :=
 Zb h fun x1 h2 h => Zb h fun x3 h4 h => Zb h fun x5 h6 h => lO h hk [5011, 5012, 5013] ((((q0.o [.lab 1001, .lab 1002, .callO false [] 60000 [(5000, .row 1 (List.map (cI .i64) x1))] (.osl 5000 (List.map (cI .i64) x1).length), .callO false [] 100000 [(5000, .row 1 (List.map (cI .i64) x3))] (.osl 5000 (List.map (cI .i64) x3).length), .callO false [] 140000 [(5000, .row 1 (List.map (cI .i64) x5))] (.osl 5000 (List.map (cI .i64) x5).length), .relab 65000 5011, .relab 105000 5012, .relab 145000 5013]).b (Ze8 a0.Library h2)).b (Ze8 a0.Hand h4)).b (Ze8 a0.Graveyard h6))
theorem Zaoa (a0 : Zaa) {r : Zaa} (h : Zqf a0 = some r) : FnG PR 60 [] [(.agg (bx (Zg a0)))] ((Zw8) r) (Zvf r) :=
 Zb h fun y h0 h1 => FnG.of_cfg hT Go.Proofs.Tryz.func60 (by kernel_rfl : _ = some Z9z) (by kernel_rfl) 16 (by kernel_rfl) (Nat.le_of_ble_eq_true rfl) [.c 2 59 true 14] (by kernel_rfl) (by kernel_rfl) (Zalx r a0 y h0 (Z1 (fun s _ _ _ => nomatch s) h1))
theorem Zarh (a0 : Zaa) {r : Zaa} (h : Zqf a0 = some r) : Fn PR 60 [(.agg (bx (Zg a0)))] (.agg (bx (Zg r))) :=
 FnG.frozen (Zaoa a0 h) (And.intro (Eq.refl (List.map (cI .i64) r.Library).length) (And.intro (Eq.refl (List.map (cI .i64) r.Hand).length) (And.intro (Eq.refl (List.map (cI .i64) r.Graveyard).length) trivial))) (by kernel_rfl)
noncomputable def Zc6 : Code := (Go.Proofs.Tryz.f61.body).getD .skip
noncomputable def Zds (r : (List Zf)) : PV := (.osl 5000 (List.map Zc r).length)
noncomputable def Zd5 (r : (List Zf)) : List (Nat × Blk) := [(5000, .row 19 (List.map Zc r))]
noncomputable def Zsr : Zbh → Cfg := fun s => nomatch s
noncomputable def Zts : Zbh → PW.St := fun s => nomatch s
abbrev Zhj (r : (List Zf)) (y : Zbh ⊕ (List Zf)) : Prop := Ok PR [.t 2] (Zd5) Zds Zsr Zts r y
theorem Zr8 (r : (List Zf)) (a0 : (List Zf)) (hne : a0 ≠ []) (y : Zbh ⊕ (List Zf)) (h : Zed a0 = some y) (hk : Zhj r y) : (Cfg.code Zc6 []).HH PR [.t 2] Zd5 Zds r ⟨8, idx 0 [(wL Zc a0)], []⟩ :=
 Zb h fun x1 h2 h => lO h hk [5000] ((((((((q0.f 1 (Zwe Zc hne)).o [.lab 1005, .es (List.map Zc x1), .relab 1005 5000]).b (Eq.refl false)).b (Eq.refl (List.map Zc ([] : (List Zf))).length)).b (Zdw Zc h2)).b (Zq Zc 19 (fun _ => rfl) a0)).b (Zdx Zc h2)).b (Zcb Zc h2))
theorem Zq6 (r : (List Zf)) (c : Nat) (y : Zbh ⊕ (List Zf)) (h : Zed [] = some y) (hk : Zhj r y) : (Cfg.code Zc6 []).HH PR [.t 2] Zd5 Zds r ⟨8, idx 0 [(.t (.con (.slice none 0 c)))], []⟩ :=
 Zb h fun x1 h2 h => by
 cases Zwf h2
 exact Zfw hm hT (r' := ([] : (List Zf))) h hk 400 [.br true, .own 2 5000 19] [5000] (And.intro (Eq.refl true) trivial) (by kernel_rfl)
theorem Zq7 (r : (List Zf)) (c : Nat) (ad : Addr) (y : Zbh ⊕ (List Zf)) (h : Zed [] = some y) (hk : Zhj r y) : (Cfg.code Zc6 []).HH PR [.t 2] Zd5 Zds r ⟨8, idx 0 [(.t (.con (.slice (some ad) 0 c)))], []⟩ :=
 Zb h fun x1 h2 h =>
 Zfw hm hT (r' := x1) h hk 400 [.br false, .lab 1005, .es (List.map Zc x1), .relab 1005 5000] [5000] (And.intro (Eq.refl false) (And.intro (Eq.refl (List.map Zc ([] : (List Zf))).length) (And.intro (Zdw Zc h2) (And.intro (Zq Zc 19 (fun _ => rfl) ([] : (List Zf))) (And.intro (Zdx Zc h2) (And.intro (Zcb Zc h2) trivial)))))) (by kernel_rfl)
theorem Zss (a0 : (List Zf)) {r : (List Zf)} (h : Zf1 a0 = some r) : FnG PR 61 [] [(wL Zc a0)] ((Zd5) r) (Zds r) :=
 Zb h fun y h0 h1 => FnG.split0 (fun hne => FnG.of_cfg hT Go.Proofs.Tryz.func61 (by kernel_rfl : _ = some Zc6) (by kernel_rfl) 8 (by kernel_rfl) (Nat.le_of_ble_eq_true rfl) [.t 2] (by kernel_rfl) (by kernel_rfl) (Zr8 r a0 (fun e => hne (by rw [e]; rfl)) y h0 (Z1 (fun s _ _ _ => nomatch s) h1)))
 (fun he a c => by
 have ha : a0 = [] := by simpa using he
 subst ha
 cases a with
 | none => exact FnG.of_cfg hT Go.Proofs.Tryz.func61 (by kernel_rfl : _ = some Zc6) (by kernel_rfl) 8 (by kernel_rfl) (Nat.le_of_ble_eq_true rfl) [.t 2] (by kernel_rfl) (by kernel_rfl) (Zq6 r c y h0 (Z1 (fun s _ _ _ => nomatch s) h1))
 | some ad => exact FnG.of_cfg hT Go.Proofs.Tryz.func61 (by kernel_rfl : _ = some Zc6) (by kernel_rfl) 8 (by kernel_rfl) (Nat.le_of_ble_eq_true rfl) [.t 2] (by kernel_rfl) (by kernel_rfl) (Zq7 r c ad y h0 (Z1 (fun s _ _ _ => nomatch s) h1)))
noncomputable def Zdy : Code := (Go.Proofs.Tryz.f63.body).getD .skip
noncomputable def Zez (r : (List Zao)) : PV := (.osl 5000 (List.map Zl r).length)
noncomputable def Ze9 (r : (List Zao)) : List (Nat × Blk) := [(5000, .row 94 (List.map Zl r))]
noncomputable def Zv0 : Zby → Cfg := fun s => nomatch s
noncomputable def Zw9 : Zby → PW.St := fun s => nomatch s
abbrev Zi1 (r : (List Zao)) (y : Zby ⊕ (List Zao)) : Prop := Ok PR [.t 2] (Ze9) Zez Zv0 Zw9 r y
theorem Zvg (r : (List Zao)) (a0 : (List Zao)) (hne : a0 ≠ []) (y : Zby ⊕ (List Zao)) (h : Zfe a0 = some y) (hk : Zi1 r y) : (Cfg.code Zdy []).HH PR [.t 2] Ze9 Zez r ⟨8, idx 0 [(wL Zl a0)], []⟩ :=
 Zb h fun x1 h2 h => lO h hk [5000] ((((((((q0.f 1 (Zwe Zl hne)).o [.lab 1005, .es (List.map Zl x1), .relab 1005 5000]).b (Eq.refl false)).b (Eq.refl (List.map Zl ([] : (List Zao))).length)).b (Zdw Zl h2)).b (Zq Zl 94 (fun _ => rfl) a0)).b (Zdx Zl h2)).b (Zcb Zl h2))
theorem Zul (r : (List Zao)) (c : Nat) (y : Zby ⊕ (List Zao)) (h : Zfe [] = some y) (hk : Zi1 r y) : (Cfg.code Zdy []).HH PR [.t 2] Ze9 Zez r ⟨8, idx 0 [(.t (.con (.slice none 0 c)))], []⟩ :=
 Zb h fun x1 h2 h => by
 cases Zwf h2
 exact Zfw hm hT (r' := ([] : (List Zao))) h hk 400 [.br true, .own 2 5000 94] [5000] (And.intro (Eq.refl true) trivial) (by kernel_rfl)
theorem Zum (r : (List Zao)) (c : Nat) (ad : Addr) (y : Zby ⊕ (List Zao)) (h : Zfe [] = some y) (hk : Zi1 r y) : (Cfg.code Zdy []).HH PR [.t 2] Ze9 Zez r ⟨8, idx 0 [(.t (.con (.slice (some ad) 0 c)))], []⟩ :=
 Zb h fun x1 h2 h =>
 Zfw hm hT (r' := x1) h hk 400 [.br false, .lab 1005, .es (List.map Zl x1), .relab 1005 5000] [5000] (And.intro (Eq.refl false) (And.intro (Eq.refl (List.map Zl ([] : (List Zao))).length) (And.intro (Zdw Zl h2) (And.intro (Zq Zl 94 (fun _ => rfl) ([] : (List Zao))) (And.intro (Zdx Zl h2) (And.intro (Zcb Zl h2) trivial)))))) (by kernel_rfl)
theorem Zv1 (a0 : (List Zao)) {r : (List Zao)} (h : Zhd a0 = some r) : FnG PR 63 [] [(wL Zl a0)] ((Ze9) r) (Zez r) :=
 Zb h fun y h0 h1 => FnG.split0 (fun hne => FnG.of_cfg hT Go.Proofs.Tryz.func63 (by kernel_rfl : _ = some Zdy) (by kernel_rfl) 8 (by kernel_rfl) (Nat.le_of_ble_eq_true rfl) [.t 2] (by kernel_rfl) (by kernel_rfl) (Zvg r a0 (fun e => hne (by rw [e]; rfl)) y h0 (Z1 (fun s _ _ _ => nomatch s) h1)))
 (fun he a c => by
 have ha : a0 = [] := by simpa using he
 subst ha
 cases a with
 | none => exact FnG.of_cfg hT Go.Proofs.Tryz.func63 (by kernel_rfl : _ = some Zdy) (by kernel_rfl) 8 (by kernel_rfl) (Nat.le_of_ble_eq_true rfl) [.t 2] (by kernel_rfl) (by kernel_rfl) (Zul r c y h0 (Z1 (fun s _ _ _ => nomatch s) h1))
 | some ad => exact FnG.of_cfg hT Go.Proofs.Tryz.func63 (by kernel_rfl : _ = some Zdy) (by kernel_rfl) 8 (by kernel_rfl) (Nat.le_of_ble_eq_true rfl) [.t 2] (by kernel_rfl) (by kernel_rfl) (Zum r c ad y h0 (Z1 (fun s _ _ _ => nomatch s) h1)))
noncomputable def Zei : Code := (Go.Proofs.Tryz.f68.body).getD .skip
noncomputable def Zfh (r : (List Zh)) : PV := (.osl 5000 (List.map Zp r).length)
noncomputable def Zfo (r : (List Zh)) : List (Nat × Blk) := [(5000, .row 20 (List.map Zp r))]
noncomputable def Zym : Zb7 → Cfg := fun s => nomatch s
noncomputable def Zy0 : Zb7 → PW.St := fun s => nomatch s
abbrev Zjr (r : (List Zh)) (y : Zb7 ⊕ (List Zh)) : Prop := Ok PR [.t 2] (Zfo) Zfh Zym Zy0 r y
theorem Zxa (r : (List Zh)) (a0 : (List Zh)) (hne : a0 ≠ []) (y : Zb7 ⊕ (List Zh)) (h : Zfr a0 = some y) (hk : Zjr r y) : (Cfg.code Zei []).HH PR [.t 2] Zfo Zfh r ⟨8, idx 0 [(wL Zp a0)], []⟩ :=
 Zb h fun x1 h2 h => lO h hk [5000] ((((((((q0.f 1 (Zwe Zp hne)).o [.lab 1005, .es (List.map Zp x1), .relab 1005 5000]).b (Eq.refl false)).b (Eq.refl (List.map Zp ([] : (List Zh))).length)).b (Zdw Zp h2)).b (Zq Zp 20 (fun _ => rfl) a0)).b (Zdx Zp h2)).b (Zcb Zp h2))
theorem Zv2 (r : (List Zh)) (c : Nat) (y : Zb7 ⊕ (List Zh)) (h : Zfr [] = some y) (hk : Zjr r y) : (Cfg.code Zei []).HH PR [.t 2] Zfo Zfh r ⟨8, idx 0 [(.t (.con (.slice none 0 c)))], []⟩ :=
 Zb h fun x1 h2 h => by
 cases Zwf h2
 exact Zfw hm hT (r' := ([] : (List Zh))) h hk 400 [.br true, .own 2 5000 20] [5000] (And.intro (Eq.refl true) trivial) (by kernel_rfl)
theorem Zv3 (r : (List Zh)) (c : Nat) (ad : Addr) (y : Zb7 ⊕ (List Zh)) (h : Zfr [] = some y) (hk : Zjr r y) : (Cfg.code Zei []).HH PR [.t 2] Zfo Zfh r ⟨8, idx 0 [(.t (.con (.slice (some ad) 0 c)))], []⟩ :=
 Zb h fun x1 h2 h =>
 Zfw hm hT (r' := x1) h hk 400 [.br false, .lab 1005, .es (List.map Zp x1), .relab 1005 5000] [5000] (And.intro (Eq.refl false) (And.intro (Eq.refl (List.map Zp ([] : (List Zh))).length) (And.intro (Zdw Zp h2) (And.intro (Zq Zp 20 (fun _ => rfl) ([] : (List Zh))) (And.intro (Zdx Zp h2) (And.intro (Zcb Zp h2) trivial)))))) (by kernel_rfl)
theorem Zn1 (a0 : (List Zh)) {r : (List Zh)} (h : Zdp a0 = some r) : FnG PR 68 [] [(wL Zp a0)] ((Zfo) r) (Zfh r) :=
 Zb h fun y h0 h1 => FnG.split0 (fun hne => FnG.of_cfg hT Go.Proofs.Tryz.func68 (by kernel_rfl : _ = some Zei) (by kernel_rfl) 8 (by kernel_rfl) (Nat.le_of_ble_eq_true rfl) [.t 2] (by kernel_rfl) (by kernel_rfl) (Zxa r a0 (fun e => hne (by rw [e]; rfl)) y h0 (Z1 (fun s _ _ _ => nomatch s) h1)))
 (fun he a c => by
 have ha : a0 = [] := by simpa using he
 subst ha
 cases a with
 | none => exact FnG.of_cfg hT Go.Proofs.Tryz.func68 (by kernel_rfl : _ = some Zei) (by kernel_rfl) 8 (by kernel_rfl) (Nat.le_of_ble_eq_true rfl) [.t 2] (by kernel_rfl) (by kernel_rfl) (Zv2 r c y h0 (Z1 (fun s _ _ _ => nomatch s) h1))
 | some ad => exact FnG.of_cfg hT Go.Proofs.Tryz.func68 (by kernel_rfl : _ = some Zei) (by kernel_rfl) 8 (by kernel_rfl) (Nat.le_of_ble_eq_true rfl) [.t 2] (by kernel_rfl) (by kernel_rfl) (Zv3 r c ad y h0 (Z1 (fun s _ _ _ => nomatch s) h1)))
theorem Zoh (a0 : (List Zh)) {r : (List Zh)} (h : Zdp a0 = some r) : Fn PR 68 [(wL Zp a0)] (wL Zp r) :=
 FnG.frozen (Zn1 a0 h) (And.intro (Eq.refl (List.map Zp r).length) trivial) (by kernel_rfl)
noncomputable def Zdz : Code := (Go.Proofs.Tryz.f87.body).getD .skip
noncomputable def Ze0 (r : (List Zaj)) : PV := (.osl 5000 (List.map Z3 r).length)
noncomputable def Zfa (r : (List Zaj)) : List (Nat × Blk) := [(5000, .row 18 (List.map Z3 r))]
noncomputable def Zv4 : Zbz → Cfg := fun s => nomatch s
noncomputable def Zxb : Zbz → PW.St := fun s => nomatch s
abbrev Zi2 (r : (List Zaj)) (y : Zbz ⊕ (List Zaj)) : Prop := Ok PR [.t 2] (Zfa) Ze0 Zv4 Zxb r y
theorem Zvh (r : (List Zaj)) (a0 : (List Zaj)) (hne : a0 ≠ []) (y : Zbz ⊕ (List Zaj)) (h : Zff a0 = some y) (hk : Zi2 r y) : (Cfg.code Zdz []).HH PR [.t 2] Zfa Ze0 r ⟨8, idx 0 [(wL Z3 a0)], []⟩ :=
 Zb h fun x1 h2 h => lO h hk [5000] ((((((((q0.f 1 (Zwe Z3 hne)).o [.lab 1005, .es (List.map Z3 x1), .relab 1005 5000]).b (Eq.refl false)).b (Eq.refl (List.map Z3 ([] : (List Zaj))).length)).b (Zdw Z3 h2)).b (Zq Z3 18 (fun _ => rfl) a0)).b (Zdx Z3 h2)).b (Zcb Z3 h2))
theorem Zun (r : (List Zaj)) (c : Nat) (y : Zbz ⊕ (List Zaj)) (h : Zff [] = some y) (hk : Zi2 r y) : (Cfg.code Zdz []).HH PR [.t 2] Zfa Ze0 r ⟨8, idx 0 [(.t (.con (.slice none 0 c)))], []⟩ :=
 Zb h fun x1 h2 h => by
 cases Zwf h2
 exact Zfw hm hT (r' := ([] : (List Zaj))) h hk 400 [.br true, .own 2 5000 18] [5000] (And.intro (Eq.refl true) trivial) (by kernel_rfl)
theorem Zuo (r : (List Zaj)) (c : Nat) (ad : Addr) (y : Zbz ⊕ (List Zaj)) (h : Zff [] = some y) (hk : Zi2 r y) : (Cfg.code Zdz []).HH PR [.t 2] Zfa Ze0 r ⟨8, idx 0 [(.t (.con (.slice (some ad) 0 c)))], []⟩ :=
 Zb h fun x1 h2 h =>
 Zfw hm hT (r' := x1) h hk 400 [.br false, .lab 1005, .es (List.map Z3 x1), .relab 1005 5000] [5000] (And.intro (Eq.refl false) (And.intro (Eq.refl (List.map Z3 ([] : (List Zaj))).length) (And.intro (Zdw Z3 h2) (And.intro (Zq Z3 18 (fun _ => rfl) ([] : (List Zaj))) (And.intro (Zdx Z3 h2) (And.intro (Zcb Z3 h2) trivial)))))) (by kernel_rfl)
theorem Zv5 (a0 : (List Zaj)) {r : (List Zaj)} (h : Zhe a0 = some r) : FnG PR 87 [] [(wL Z3 a0)] ((Zfa) r) (Ze0 r) :=
 Zb h fun y h0 h1 => FnG.split0 (fun hne => FnG.of_cfg hT Go.Proofs.Tryz.func87 (by kernel_rfl : _ = some Zdz) (by kernel_rfl) 8 (by kernel_rfl) (Nat.le_of_ble_eq_true rfl) [.t 2] (by kernel_rfl) (by kernel_rfl) (Zvh r a0 (fun e => hne (by rw [e]; rfl)) y h0 (Z1 (fun s _ _ _ => nomatch s) h1)))
 (fun he a c => by
 have ha : a0 = [] := by simpa using he
 subst ha
 cases a with
 | none => exact FnG.of_cfg hT Go.Proofs.Tryz.func87 (by kernel_rfl : _ = some Zdz) (by kernel_rfl) 8 (by kernel_rfl) (Nat.le_of_ble_eq_true rfl) [.t 2] (by kernel_rfl) (by kernel_rfl) (Zun r c y h0 (Z1 (fun s _ _ _ => nomatch s) h1))
 | some ad => exact FnG.of_cfg hT Go.Proofs.Tryz.func87 (by kernel_rfl : _ = some Zdz) (by kernel_rfl) 8 (by kernel_rfl) (Nat.le_of_ble_eq_true rfl) [.t 2] (by kernel_rfl) (by kernel_rfl) (Zuo r c ad y h0 (Z1 (fun s _ _ _ => nomatch s) h1)))
noncomputable def Zc7 : Code := (Go.Proofs.Tryz.f88.body).getD .skip
noncomputable def Zdt (r : (List Zk)) : PV := (.osl 5000 (List.map Zj r).length)
noncomputable def Zd6 (r : (List Zk)) : List (Nat × Blk) := [(5000, .row 64 (List.map Zj r))]
noncomputable def Zst : Zbi → Cfg := fun s => nomatch s
noncomputable def Ztt : Zbi → PW.St := fun s => nomatch s
abbrev Zhk (r : (List Zk)) (y : Zbi ⊕ (List Zk)) : Prop := Ok PR [.t 2] (Zd6) Zdt Zst Ztt r y
theorem Zr9 (r : (List Zk)) (a0 : (List Zk)) (hne : a0 ≠ []) (y : Zbi ⊕ (List Zk)) (h : Zee a0 = some y) (hk : Zhk r y) : (Cfg.code Zc7 []).HH PR [.t 2] Zd6 Zdt r ⟨8, idx 0 [(wL Zj a0)], []⟩ :=
 Zb h fun x1 h2 h => lO h hk [5000] ((((((((q0.f 1 (Zwe Zj hne)).o [.lab 1005, .es (List.map Zj x1), .relab 1005 5000]).b (Eq.refl false)).b (Eq.refl (List.map Zj ([] : (List Zk))).length)).b (Zdw Zj h2)).b (Zq Zj 64 (fun _ => rfl) a0)).b (Zdx Zj h2)).b (Zcb Zj h2))
theorem Zq8 (r : (List Zk)) (c : Nat) (y : Zbi ⊕ (List Zk)) (h : Zee [] = some y) (hk : Zhk r y) : (Cfg.code Zc7 []).HH PR [.t 2] Zd6 Zdt r ⟨8, idx 0 [(.t (.con (.slice none 0 c)))], []⟩ :=
 Zb h fun x1 h2 h => by
 cases Zwf h2
 exact Zfw hm hT (r' := ([] : (List Zk))) h hk 400 [.br true, .own 2 5000 64] [5000] (And.intro (Eq.refl true) trivial) (by kernel_rfl)
theorem Zq9 (r : (List Zk)) (c : Nat) (ad : Addr) (y : Zbi ⊕ (List Zk)) (h : Zee [] = some y) (hk : Zhk r y) : (Cfg.code Zc7 []).HH PR [.t 2] Zd6 Zdt r ⟨8, idx 0 [(.t (.con (.slice (some ad) 0 c)))], []⟩ :=
 Zb h fun x1 h2 h =>
 Zfw hm hT (r' := x1) h hk 400 [.br false, .lab 1005, .es (List.map Zj x1), .relab 1005 5000] [5000] (And.intro (Eq.refl false) (And.intro (Eq.refl (List.map Zj ([] : (List Zk))).length) (And.intro (Zdw Zj h2) (And.intro (Zq Zj 64 (fun _ => rfl) ([] : (List Zk))) (And.intro (Zdx Zj h2) (And.intro (Zcb Zj h2) trivial)))))) (by kernel_rfl)
theorem Zsu (a0 : (List Zk)) {r : (List Zk)} (h : Zf2 a0 = some r) : FnG PR 88 [] [(wL Zj a0)] ((Zd6) r) (Zdt r) :=
 Zb h fun y h0 h1 => FnG.split0 (fun hne => FnG.of_cfg hT Go.Proofs.Tryz.func88 (by kernel_rfl : _ = some Zc7) (by kernel_rfl) 8 (by kernel_rfl) (Nat.le_of_ble_eq_true rfl) [.t 2] (by kernel_rfl) (by kernel_rfl) (Zr9 r a0 (fun e => hne (by rw [e]; rfl)) y h0 (Z1 (fun s _ _ _ => nomatch s) h1)))
 (fun he a c => by
 have ha : a0 = [] := by simpa using he
 subst ha
 cases a with
 | none => exact FnG.of_cfg hT Go.Proofs.Tryz.func88 (by kernel_rfl : _ = some Zc7) (by kernel_rfl) 8 (by kernel_rfl) (Nat.le_of_ble_eq_true rfl) [.t 2] (by kernel_rfl) (by kernel_rfl) (Zq8 r c y h0 (Z1 (fun s _ _ _ => nomatch s) h1))
 | some ad => exact FnG.of_cfg hT Go.Proofs.Tryz.func88 (by kernel_rfl : _ = some Zc7) (by kernel_rfl) 8 (by kernel_rfl) (Nat.le_of_ble_eq_true rfl) [.t 2] (by kernel_rfl) (by kernel_rfl) (Zq9 r c ad y h0 (Z1 (fun s _ _ _ => nomatch s) h1)))
noncomputable def Zxc : Code := (Go.Proofs.Tryz.f64.body).getD .skip
noncomputable def Zo5 (r : Zs) : PV := (.agg ([(wI r.Kind)] ++ (bx (Zx r.Filter) ++ ([(.osl 5017 (List.map Zp r.Mods).length)] ++ (bx (Ze2 r.Price) ++ ([(wB r.Slow)] ++ (bx (Zc4 r.Trigger) ++ ([(wB r.May), (.osl 5048 (List.map Z3 r.Specs).length), (.osl 5049 (List.map Zj r.Effects).length)] ++ (bx (Zbw r.Replace))))))))))
noncomputable def Zpx (r : Zs) : List (Nat × Blk) := [(5017, .row 20 (List.map Zp r.Mods)), (5048, .row 18 (List.map Z3 r.Specs)), (5049, .row 64 (List.map Zj r.Effects))]
noncomputable def Z36 : Zgg → Cfg
 | .L0 _ _ _ _ => (nav [1, 1, 1, 1, 0, 1, 4] Zxc []).getD (.done .normal)
noncomputable def Z4w : Zgg → PW.St
 | .L0 E0 E1 v18 v19 => ⟨36, [(1, (.bptr 30000000 0)), (2, (.bptr 30000001 0)), (18, (wI v18)), (19, (wI v19))], [(30000000, .box ([(wI E0.Kind)] ++ (bx (Zx E0.Filter) ++ ([(.osl 40000017 (List.map Zp E0.Mods).length)] ++ (bx (Ze2 E0.Price) ++ ([(wB E0.Slow)] ++ (bx (Zc4 E0.Trigger) ++ ([(wB E0.May), (.osl 40000048 (List.map Z3 E0.Specs).length), (.osl 40000049 (List.map Zj E0.Effects).length)] ++ (bx (Zbw E0.Replace)))))))))), (40000017, .row 20 (List.map Zp E0.Mods)), (40000048, .row 18 (List.map Z3 E0.Specs)), (40000049, .row 64 (List.map Zj E0.Effects)), (30000001, .box ([(wI E1.Kind)] ++ (bx (Zx E1.Filter) ++ ([(.osl 40000117 (List.map Zp E1.Mods).length)] ++ (bx (Ze2 E1.Price) ++ ([(wB E1.Slow)] ++ (bx (Zc4 E1.Trigger) ++ ([(wB E1.May), (.osl 40000148 (List.map Z3 E1.Specs).length), (.osl 40000149 (List.map Zj E1.Effects).length)] ++ (bx (Zbw E1.Replace)))))))))), (40000117, .row 20 (List.map Zp E1.Mods)), (40000148, .row 18 (List.map Z3 E1.Specs)), (40000149, .row 64 (List.map Zj E1.Effects))]⟩
abbrev Z37 (r : Zs) (y : Zgg ⊕ Zs) : Prop := Ok PR [.c 2 94 true 72] (Zpx) Zo5 Z36 Z4w r y
theorem Zah2 (r : Zs) (E0 : Zs) (E1 : Zs) (v18 : Int) (v19 : Int) (y : Zgg ⊕ Zs) (h : Zj9 E0 E1 v18 v19 = some y) (hk : Z37 r y) : (Z36 (.L0 E0 E1 v18 v19)).HH PR [.c 2 94 true 72] Zpx Zo5 r (Z4w (.L0 E0 E1 v18 v19)) :=
 Za h (fun h1 h => Zb h fun x2 h3 h => Zb h fun x4 h5 h => Zb h fun x6 h7 h => lG h hk (((((((((((((((((q0.t 1 h1).o [.nat (Int.toNat v19), .cs (Zj x2), .call (wL Zp x4), .nat (Int.toNat v19), .cs (Zj x2), .es (List.map Zj x6), .ahead 34, .relen 40000049, .stop, .pick [19, 1, 2, 18] [40000049, 30000000, 40000017, 40000048, 30000001, 40000117, 40000148, 40000149], .pick [1, 2, 18, 19] [30000000, 40000017, 40000048, 40000049, 30000001, 40000117, 40000148, 40000149]]).b (Eq.refl (List.map Zj E0.Effects).length)).b (Z2 h3)).b (Znm Zj h3)).b (Eq.refl (Int.toNat v19))).a 2 (Eq.refl (List.map Zj E0.Effects).length)).b (Zv Zj h3)).b (Zoh x2.Mods h5)).b (Eq.refl (List.map Zj E0.Effects).length)).b (Z2 h3)).b (Znm Zj h3)).b (Eq.refl (Int.toNat v19))).a 2 (Eq.refl (List.map Zj E0.Effects).length)).b (Zv Zj h3)).b (Zabf (x := x2) (q := 63) (ts := [(.sl (List.map Zp x4))]) Zj h7 rfl)).a 7 (Z45 Zj h7))) (fun h1 h => lO h hk [5017, 5048, 5049] ((q0.f 1 h1).o [.relab 40000017 5017, .relab 40000048 5048, .relab 40000049 5049]))
theorem Zaja (r : Zs) (a0 : Zs) (y : Zgg ⊕ Zs) (h : Zwt a0 = some y) (hk : Z37 r y) : (Cfg.code Zxc []).HH PR [.c 2 94 true 72] Zpx Zo5 r ⟨36, idx 0 [(.agg (bx (Zac a0)))], []⟩ :=
 Zb h fun x1 h2 h => Zb h fun x3 h4 h => Zb h fun x5 h6 h => lG h hk ((((((q0.o [.lab 1001, .lab 1002, .callO false [] 70000 [(5000, .row 20 (List.map Zp x1))] (.osl 5000 (List.map Zp x1).length), .callO false [] 110000 [(5000, .row 18 (List.map Z3 x3))] (.osl 5000 (List.map Z3 x3).length), .callO false [] 150000 [(5000, .row 64 (List.map Zj x5))] (.osl 5000 (List.map Zj x5).length), .num (x5.length : Int), .pick [19, 18, 2, 1] [1001, 155000, 115000, 75000, 1002], .relab 1001 30000000, .relab 1002 30000001, .relab 75000 40000017, .relab 115000 40000048, .relab 155000 40000049, .ownb 30000001 17 40000117 20, .ownb 30000001 48 40000148 18, .ownb 30000001 49 40000149 64, .pick [1, 2, 18, 19] [30000000, 40000017, 40000048, 40000049, 30000001, 40000117, 40000148, 40000149]]).b (Zn1 a0.Mods h2)).b (Zv5 a0.Specs h4)).b (Zsu a0.Effects h6)).b (Eq.refl (List.map Zj x5).length)).b (Zr Zj x5))
theorem Zaly (a0 : Zs) {r : Zs} (h : Zmw a0 = some r) : FnG PR 64 [] [(.agg (bx (Zac a0)))] ((Zpx) r) (Zo5 r) :=
 Zb h fun y h0 h1 => FnG.of_cfg hT Go.Proofs.Tryz.func64 (by kernel_rfl : _ = some Zxc) (by kernel_rfl) 36 (by kernel_rfl) (Nat.le_of_ble_eq_true rfl) [.c 2 94 true 72] (by kernel_rfl) (by kernel_rfl) (Zaja r a0 y h0 (Z1 (fun s y h hk => match s with
 | .L0 E0 E1 v18 v19 => Zah2 r E0 E1 v18 v19 y h hk) h1))
theorem Z4x (a0 : Zs) {r : Zs} (h : Zmw a0 = some r) : Fn PR 64 [(.agg (bx (Zac a0)))] (.agg (bx (Zac r))) :=
 FnG.frozen (Zaly a0 h) (And.intro (Eq.refl (List.map Zp r.Mods).length) (And.intro (Eq.refl (List.map Z3 r.Specs).length) (And.intro (Eq.refl (List.map Zj r.Effects).length) trivial))) (by kernel_rfl)
noncomputable def Zc8 : Code := (Go.Proofs.Tryz.f65.body).getD .skip
noncomputable def Zdu (r : (List Zaq)) : PV := (.osl 5000 (List.map Zae r).length)
noncomputable def Zd7 (r : (List Zaq)) : List (Nat × Blk) := [(5000, .row 2 (List.map Zae r))]
noncomputable def Zsv : Zbj → Cfg := fun s => nomatch s
noncomputable def Ztu : Zbj → PW.St := fun s => nomatch s
abbrev Zhl (r : (List Zaq)) (y : Zbj ⊕ (List Zaq)) : Prop := Ok PR [.t 2] (Zd7) Zdu Zsv Ztu r y
theorem Zsa (r : (List Zaq)) (a0 : (List Zaq)) (hne : a0 ≠ []) (y : Zbj ⊕ (List Zaq)) (h : Zef a0 = some y) (hk : Zhl r y) : (Cfg.code Zc8 []).HH PR [.t 2] Zd7 Zdu r ⟨8, idx 0 [(wL Zae a0)], []⟩ :=
 Zb h fun x1 h2 h => lO h hk [5000] ((((((((q0.f 1 (Zwe Zae hne)).o [.lab 1005, .es (List.map Zae x1), .relab 1005 5000]).b (Eq.refl false)).b (Eq.refl (List.map Zae ([] : (List Zaq))).length)).b (Zdw Zae h2)).b (Zq Zae 2 (fun _ => rfl) a0)).b (Zdx Zae h2)).b (Zcb Zae h2))
theorem Zra (r : (List Zaq)) (c : Nat) (y : Zbj ⊕ (List Zaq)) (h : Zef [] = some y) (hk : Zhl r y) : (Cfg.code Zc8 []).HH PR [.t 2] Zd7 Zdu r ⟨8, idx 0 [(.t (.con (.slice none 0 c)))], []⟩ :=
 Zb h fun x1 h2 h => by
 cases Zwf h2
 exact Zfw hm hT (r' := ([] : (List Zaq))) h hk 400 [.br true, .own 2 5000 2] [5000] (And.intro (Eq.refl true) trivial) (by kernel_rfl)
theorem Zrb (r : (List Zaq)) (c : Nat) (ad : Addr) (y : Zbj ⊕ (List Zaq)) (h : Zef [] = some y) (hk : Zhl r y) : (Cfg.code Zc8 []).HH PR [.t 2] Zd7 Zdu r ⟨8, idx 0 [(.t (.con (.slice (some ad) 0 c)))], []⟩ :=
 Zb h fun x1 h2 h =>
 Zfw hm hT (r' := x1) h hk 400 [.br false, .lab 1005, .es (List.map Zae x1), .relab 1005 5000] [5000] (And.intro (Eq.refl false) (And.intro (Eq.refl (List.map Zae ([] : (List Zaq))).length) (And.intro (Zdw Zae h2) (And.intro (Zq Zae 2 (fun _ => rfl) ([] : (List Zaq))) (And.intro (Zdx Zae h2) (And.intro (Zcb Zae h2) trivial)))))) (by kernel_rfl)
theorem Zsw (a0 : (List Zaq)) {r : (List Zaq)} (h : Zey a0 = some r) : FnG PR 65 [] [(wL Zae a0)] ((Zd7) r) (Zdu r) :=
 Zb h fun y h0 h1 => FnG.split0 (fun hne => FnG.of_cfg hT Go.Proofs.Tryz.func65 (by kernel_rfl : _ = some Zc8) (by kernel_rfl) 8 (by kernel_rfl) (Nat.le_of_ble_eq_true rfl) [.t 2] (by kernel_rfl) (by kernel_rfl) (Zsa r a0 (fun e => hne (by rw [e]; rfl)) y h0 (Z1 (fun s _ _ _ => nomatch s) h1)))
 (fun he a c => by
 have ha : a0 = [] := by simpa using he
 subst ha
 cases a with
 | none => exact FnG.of_cfg hT Go.Proofs.Tryz.func65 (by kernel_rfl : _ = some Zc8) (by kernel_rfl) 8 (by kernel_rfl) (Nat.le_of_ble_eq_true rfl) [.t 2] (by kernel_rfl) (by kernel_rfl) (Zra r c y h0 (Z1 (fun s _ _ _ => nomatch s) h1))
 | some ad => exact FnG.of_cfg hT Go.Proofs.Tryz.func65 (by kernel_rfl : _ = some Zc8) (by kernel_rfl) 8 (by kernel_rfl) (Nat.le_of_ble_eq_true rfl) [.t 2] (by kernel_rfl) (by kernel_rfl) (Zrb r c ad y h0 (Z1 (fun s _ _ _ => nomatch s) h1)))
theorem Ztv (a0 : (List Zaq)) {r : (List Zaq)} (h : Zey a0 = some r) : Fn PR 65 [(wL Zae a0)] (wL Zae r) :=
 FnG.frozen (Zsw a0 h) (And.intro (Eq.refl (List.map Zae r).length) trivial) (by kernel_rfl)
noncomputable def Zcu : Code := (Go.Proofs.Tryz.f66.body).getD .skip
noncomputable def Zdg (r : (List Z7)) : PV := (.osl 5000 (List.map Zm r).length)
noncomputable def Zdm (r : (List Z7)) : List (Nat × Blk) := [(5000, .row 89 (List.map Zm r))]
noncomputable def Zrc : Zbb → Cfg := fun s => nomatch s
noncomputable def Zsb : Zbb → PW.St := fun s => nomatch s
abbrev Zgx (r : (List Z7)) (y : Zbb ⊕ (List Z7)) : Prop := Ok PR [.t 2] (Zdm) Zdg Zrc Zsb r y
theorem Zqy (r : (List Z7)) (a0 : (List Z7)) (hne : a0 ≠ []) (y : Zbb ⊕ (List Z7)) (h : Zdq a0 = some y) (hk : Zgx r y) : (Cfg.code Zcu []).HH PR [.t 2] Zdm Zdg r ⟨8, idx 0 [(wL Zm a0)], []⟩ :=
 Zb h fun x1 h2 h => lO h hk [5000] ((((((((q0.f 1 (Zwe Zm hne)).o [.lab 1005, .es (List.map Zm x1), .relab 1005 5000]).b (Eq.refl false)).b (Eq.refl (List.map Zm ([] : (List Z7))).length)).b (Zdw Zm h2)).b (Zq Zm 89 (fun _ => rfl) a0)).b (Zdx Zm h2)).b (Zcb Zm h2))
theorem Zqk (r : (List Z7)) (c : Nat) (y : Zbb ⊕ (List Z7)) (h : Zdq [] = some y) (hk : Zgx r y) : (Cfg.code Zcu []).HH PR [.t 2] Zdm Zdg r ⟨8, idx 0 [(.t (.con (.slice none 0 c)))], []⟩ :=
 Zb h fun x1 h2 h => by
 cases Zwf h2
 exact Zfw hm hT (r' := ([] : (List Z7))) h hk 400 [.br true, .own 2 5000 89] [5000] (And.intro (Eq.refl true) trivial) (by kernel_rfl)
theorem Zql (r : (List Z7)) (c : Nat) (ad : Addr) (y : Zbb ⊕ (List Z7)) (h : Zdq [] = some y) (hk : Zgx r y) : (Cfg.code Zcu []).HH PR [.t 2] Zdm Zdg r ⟨8, idx 0 [(.t (.con (.slice (some ad) 0 c)))], []⟩ :=
 Zb h fun x1 h2 h =>
 Zfw hm hT (r' := x1) h hk 400 [.br false, .lab 1005, .es (List.map Zm x1), .relab 1005 5000] [5000] (And.intro (Eq.refl false) (And.intro (Eq.refl (List.map Zm ([] : (List Z7))).length) (And.intro (Zdw Zm h2) (And.intro (Zq Zm 89 (fun _ => rfl) ([] : (List Z7))) (And.intro (Zdx Zm h2) (And.intro (Zcb Zm h2) trivial)))))) (by kernel_rfl)
theorem Zrd (a0 : (List Z7)) {r : (List Z7)} (h : Zfv a0 = some r) : FnG PR 66 [] [(wL Zm a0)] ((Zdm) r) (Zdg r) :=
 Zb h fun y h0 h1 => FnG.split0 (fun hne => FnG.of_cfg hT Go.Proofs.Tryz.func66 (by kernel_rfl : _ = some Zcu) (by kernel_rfl) 8 (by kernel_rfl) (Nat.le_of_ble_eq_true rfl) [.t 2] (by kernel_rfl) (by kernel_rfl) (Zqy r a0 (fun e => hne (by rw [e]; rfl)) y h0 (Z1 (fun s _ _ _ => nomatch s) h1)))
 (fun he a c => by
 have ha : a0 = [] := by simpa using he
 subst ha
 cases a with
 | none => exact FnG.of_cfg hT Go.Proofs.Tryz.func66 (by kernel_rfl : _ = some Zcu) (by kernel_rfl) 8 (by kernel_rfl) (Nat.le_of_ble_eq_true rfl) [.t 2] (by kernel_rfl) (by kernel_rfl) (Zqk r c y h0 (Z1 (fun s _ _ _ => nomatch s) h1))
 | some ad => exact FnG.of_cfg hT Go.Proofs.Tryz.func66 (by kernel_rfl : _ = some Zcu) (by kernel_rfl) 8 (by kernel_rfl) (Nat.le_of_ble_eq_true rfl) [.t 2] (by kernel_rfl) (by kernel_rfl) (Zql r c ad y h0 (Z1 (fun s _ _ _ => nomatch s) h1)))
noncomputable def Zd0 : Code := (Go.Proofs.Tryz.f67.body).getD .skip
noncomputable def Ze1 (r : (List Zar)) : PV := (.osl 5000 (List.map Zn r).length)
noncomputable def Zfb (r : (List Zar)) : List (Nat × Blk) := [(5000, .row 6 (List.map Zn r))]
noncomputable def Zv6 : Zb0 → Cfg := fun s => nomatch s
noncomputable def Zxd : Zb0 → PW.St := fun s => nomatch s
abbrev Zi3 (r : (List Zar)) (y : Zb0 ⊕ (List Zar)) : Prop := Ok PR [.t 2] (Zfb) Ze1 Zv6 Zxd r y
theorem Zvi (r : (List Zar)) (a0 : (List Zar)) (hne : a0 ≠ []) (y : Zb0 ⊕ (List Zar)) (h : Zfg a0 = some y) (hk : Zi3 r y) : (Cfg.code Zd0 []).HH PR [.t 2] Zfb Ze1 r ⟨8, idx 0 [(wL Zn a0)], []⟩ :=
 Zb h fun x1 h2 h => lO h hk [5000] ((((((((q0.f 1 (Zwe Zn hne)).o [.lab 1005, .es (List.map Zn x1), .relab 1005 5000]).b (Eq.refl false)).b (Eq.refl (List.map Zn ([] : (List Zar))).length)).b (Zdw Zn h2)).b (Zq Zn 6 (fun _ => rfl) a0)).b (Zdx Zn h2)).b (Zcb Zn h2))
theorem Zup (r : (List Zar)) (c : Nat) (y : Zb0 ⊕ (List Zar)) (h : Zfg [] = some y) (hk : Zi3 r y) : (Cfg.code Zd0 []).HH PR [.t 2] Zfb Ze1 r ⟨8, idx 0 [(.t (.con (.slice none 0 c)))], []⟩ :=
 Zb h fun x1 h2 h => by
 cases Zwf h2
 exact Zfw hm hT (r' := ([] : (List Zar))) h hk 400 [.br true, .own 2 5000 6] [5000] (And.intro (Eq.refl true) trivial) (by kernel_rfl)
theorem Zuq (r : (List Zar)) (c : Nat) (ad : Addr) (y : Zb0 ⊕ (List Zar)) (h : Zfg [] = some y) (hk : Zi3 r y) : (Cfg.code Zd0 []).HH PR [.t 2] Zfb Ze1 r ⟨8, idx 0 [(.t (.con (.slice (some ad) 0 c)))], []⟩ :=
 Zb h fun x1 h2 h =>
 Zfw hm hT (r' := x1) h hk 400 [.br false, .lab 1005, .es (List.map Zn x1), .relab 1005 5000] [5000] (And.intro (Eq.refl false) (And.intro (Eq.refl (List.map Zn ([] : (List Zar))).length) (And.intro (Zdw Zn h2) (And.intro (Zq Zn 6 (fun _ => rfl) ([] : (List Zar))) (And.intro (Zdx Zn h2) (And.intro (Zcb Zn h2) trivial)))))) (by kernel_rfl)
theorem Zv7 (a0 : (List Zar)) {r : (List Zar)} (h : Zhf a0 = some r) : FnG PR 67 [] [(wL Zn a0)] ((Zfb) r) (Ze1 r) :=
 Zb h fun y h0 h1 => FnG.split0 (fun hne => FnG.of_cfg hT Go.Proofs.Tryz.func67 (by kernel_rfl : _ = some Zd0) (by kernel_rfl) 8 (by kernel_rfl) (Nat.le_of_ble_eq_true rfl) [.t 2] (by kernel_rfl) (by kernel_rfl) (Zvi r a0 (fun e => hne (by rw [e]; rfl)) y h0 (Z1 (fun s _ _ _ => nomatch s) h1)))
 (fun he a c => by
 have ha : a0 = [] := by simpa using he
 subst ha
 cases a with
 | none => exact FnG.of_cfg hT Go.Proofs.Tryz.func67 (by kernel_rfl : _ = some Zd0) (by kernel_rfl) 8 (by kernel_rfl) (Nat.le_of_ble_eq_true rfl) [.t 2] (by kernel_rfl) (by kernel_rfl) (Zup r c y h0 (Z1 (fun s _ _ _ => nomatch s) h1))
 | some ad => exact FnG.of_cfg hT Go.Proofs.Tryz.func67 (by kernel_rfl : _ = some Zd0) (by kernel_rfl) 8 (by kernel_rfl) (Nat.le_of_ble_eq_true rfl) [.t 2] (by kernel_rfl) (by kernel_rfl) (Zuq r c ad y h0 (Z1 (fun s _ _ _ => nomatch s) h1)))
noncomputable def Zu7 : Code := (Go.Proofs.Tryz.f43.body).getD .skip
noncomputable def Zob (r : Zd) : PV := (.agg [(.osl 5000 (List.map Zg r.Players).length), (.osl 5001 (List.map Zc r.Objects).length), (.osl 5002 (List.map (cI .i64) r.Battlefield).length), (.osl 5003 (List.map (cI .i64) r.Exile).length), (.osl 5004 (List.map Zl r.Stack).length), (.osl 5005 (List.map Zm r.Waiting).length), (.osl 5006 (List.map Zn r.Conts).length), (wI r.Turn), (wI r.Active), (wI r.Step), (wB r.Begun), (wI r.Priority), (wI r.Passes), (wI r.NextId), (wI r.NextStamp), (.t (.int .u64 r.Seed)), (.osl 5016 (List.map (cI .i64) r.Extra).length), (wI r.Over), (wI r.Winner)])
noncomputable def Zpr (r : Zd) : List (Nat × Blk) := [(5000, .row 14 (List.map Zg r.Players)), (5001, .row 19 (List.map Zc r.Objects)), (5002, .row 1 (List.map (cI .i64) r.Battlefield)), (5003, .row 1 (List.map (cI .i64) r.Exile)), (5004, .row 94 (List.map Zl r.Stack)), (5005, .row 89 (List.map Zm r.Waiting)), (5006, .row 6 (List.map Zn r.Conts)), (5016, .row 1 (List.map (cI .i64) r.Extra))]
noncomputable def Zur : Zgn → Cfg
 | .L0 _ _ _ _ => (nav [1, 1, 0, 1, 4] Zu7 []).getD (.done .normal)
 | .L1 _ _ _ _ => (nav [1, 1, 1, 1, 1, 1, 1, 0, 1, 4] Zu7 []).getD (.done .normal)
 | .L2 _ _ _ _ => (nav [1, 1, 1, 1, 1, 1, 1, 1, 1, 0, 1, 4] Zu7 []).getD (.done .normal)
 | .L3 _ _ _ _ => (nav [1, 1, 1, 1, 1, 1, 1, 1, 1, 1, 1, 0, 1, 4] Zu7 []).getD (.done .normal)
noncomputable def Zxe : Zgn → PW.St
 | .L0 E0 E1 v13 v14 => ⟨138, [(1, (.bptr 30000000 0)), (2, (.bptr 30000001 0)), (13, (wI v13)), (14, (wI v14))], [(30000000, .box [(.osl 40000000 (List.map Zg E0.Players).length), (wL Zc E0.Objects), (wL (cI .i64) E0.Battlefield), (wL (cI .i64) E0.Exile), (wL Zl E0.Stack), (wL Zm E0.Waiting), (wL Zn E0.Conts), (wI E0.Turn), (wI E0.Active), (wI E0.Step), (wB E0.Begun), (wI E0.Priority), (wI E0.Passes), (wI E0.NextId), (wI E0.NextStamp), (.t (.int .u64 E0.Seed)), (wL (cI .i64) E0.Extra), (wI E0.Over), (wI E0.Winner)]), (40000000, .row 14 (List.map Zg E0.Players)), (30000001, .box [(.osl 40000100 (List.map Zg E1.Players).length), (.osl 40000101 (List.map Zc E1.Objects).length), (.osl 40000102 (List.map (cI .i64) E1.Battlefield).length), (.osl 40000103 (List.map (cI .i64) E1.Exile).length), (.osl 40000104 (List.map Zl E1.Stack).length), (.osl 40000105 (List.map Zm E1.Waiting).length), (.osl 40000106 (List.map Zn E1.Conts).length), (wI E1.Turn), (wI E1.Active), (wI E1.Step), (wB E1.Begun), (wI E1.Priority), (wI E1.Passes), (wI E1.NextId), (wI E1.NextStamp), (.t (.int .u64 E1.Seed)), (.osl 40000116 (List.map (cI .i64) E1.Extra).length), (wI E1.Over), (wI E1.Winner)]), (40000100, .row 14 (List.map Zg E1.Players)), (40000101, .row 19 (List.map Zc E1.Objects)), (40000102, .row 1 (List.map (cI .i64) E1.Battlefield)), (40000103, .row 1 (List.map (cI .i64) E1.Exile)), (40000104, .row 94 (List.map Zl E1.Stack)), (40000105, .row 89 (List.map Zm E1.Waiting)), (40000106, .row 6 (List.map Zn E1.Conts)), (40000116, .row 1 (List.map (cI .i64) E1.Extra))]⟩
 | .L1 E0 E1 v46 v47 => ⟨138, [(1, (.bptr 30000000 0)), (2, (.bptr 30000001 0)), (46, (wI v46)), (47, (wI v47))], [(30000000, .box [(.osl 40000000 (List.map Zg E0.Players).length), (.osl 40000001 (List.map Zc E0.Objects).length), (.osl 40000002 (List.map (cI .i64) E0.Battlefield).length), (.osl 40000003 (List.map (cI .i64) E0.Exile).length), (.osl 40000004 (List.map Zl E0.Stack).length), (wL Zm E0.Waiting), (wL Zn E0.Conts), (wI E0.Turn), (wI E0.Active), (wI E0.Step), (wB E0.Begun), (wI E0.Priority), (wI E0.Passes), (wI E0.NextId), (wI E0.NextStamp), (.t (.int .u64 E0.Seed)), (wL (cI .i64) E0.Extra), (wI E0.Over), (wI E0.Winner)]), (40000000, .row 14 (List.map Zg E0.Players)), (40000001, .row 19 (List.map Zc E0.Objects)), (40000002, .row 1 (List.map (cI .i64) E0.Battlefield)), (40000003, .row 1 (List.map (cI .i64) E0.Exile)), (40000004, .row 94 (List.map Zl E0.Stack)), (30000001, .box [(.osl 40000100 (List.map Zg E1.Players).length), (.osl 40000101 (List.map Zc E1.Objects).length), (.osl 40000102 (List.map (cI .i64) E1.Battlefield).length), (.osl 40000103 (List.map (cI .i64) E1.Exile).length), (.osl 40000104 (List.map Zl E1.Stack).length), (.osl 40000105 (List.map Zm E1.Waiting).length), (.osl 40000106 (List.map Zn E1.Conts).length), (wI E1.Turn), (wI E1.Active), (wI E1.Step), (wB E1.Begun), (wI E1.Priority), (wI E1.Passes), (wI E1.NextId), (wI E1.NextStamp), (.t (.int .u64 E1.Seed)), (.osl 40000116 (List.map (cI .i64) E1.Extra).length), (wI E1.Over), (wI E1.Winner)]), (40000100, .row 14 (List.map Zg E1.Players)), (40000101, .row 19 (List.map Zc E1.Objects)), (40000102, .row 1 (List.map (cI .i64) E1.Battlefield)), (40000103, .row 1 (List.map (cI .i64) E1.Exile)), (40000104, .row 94 (List.map Zl E1.Stack)), (40000105, .row 89 (List.map Zm E1.Waiting)), (40000106, .row 6 (List.map Zn E1.Conts)), (40000116, .row 1 (List.map (cI .i64) E1.Extra))]⟩
 | .L2 E0 E1 v81 v82 => ⟨138, [(1, (.bptr 30000000 0)), (2, (.bptr 30000001 0)), (81, (wI v81)), (82, (wI v82))], [(30000000, .box [(.osl 40000000 (List.map Zg E0.Players).length), (.osl 40000001 (List.map Zc E0.Objects).length), (.osl 40000002 (List.map (cI .i64) E0.Battlefield).length), (.osl 40000003 (List.map (cI .i64) E0.Exile).length), (.osl 40000004 (List.map Zl E0.Stack).length), (.osl 40000005 (List.map Zm E0.Waiting).length), (wL Zn E0.Conts), (wI E0.Turn), (wI E0.Active), (wI E0.Step), (wB E0.Begun), (wI E0.Priority), (wI E0.Passes), (wI E0.NextId), (wI E0.NextStamp), (.t (.int .u64 E0.Seed)), (wL (cI .i64) E0.Extra), (wI E0.Over), (wI E0.Winner)]), (40000000, .row 14 (List.map Zg E0.Players)), (40000001, .row 19 (List.map Zc E0.Objects)), (40000002, .row 1 (List.map (cI .i64) E0.Battlefield)), (40000003, .row 1 (List.map (cI .i64) E0.Exile)), (40000004, .row 94 (List.map Zl E0.Stack)), (40000005, .row 89 (List.map Zm E0.Waiting)), (30000001, .box [(.osl 40000100 (List.map Zg E1.Players).length), (.osl 40000101 (List.map Zc E1.Objects).length), (.osl 40000102 (List.map (cI .i64) E1.Battlefield).length), (.osl 40000103 (List.map (cI .i64) E1.Exile).length), (.osl 40000104 (List.map Zl E1.Stack).length), (.osl 40000105 (List.map Zm E1.Waiting).length), (.osl 40000106 (List.map Zn E1.Conts).length), (wI E1.Turn), (wI E1.Active), (wI E1.Step), (wB E1.Begun), (wI E1.Priority), (wI E1.Passes), (wI E1.NextId), (wI E1.NextStamp), (.t (.int .u64 E1.Seed)), (.osl 40000116 (List.map (cI .i64) E1.Extra).length), (wI E1.Over), (wI E1.Winner)]), (40000100, .row 14 (List.map Zg E1.Players)), (40000101, .row 19 (List.map Zc E1.Objects)), (40000102, .row 1 (List.map (cI .i64) E1.Battlefield)), (40000103, .row 1 (List.map (cI .i64) E1.Exile)), (40000104, .row 94 (List.map Zl E1.Stack)), (40000105, .row 89 (List.map Zm E1.Waiting)), (40000106, .row 6 (List.map Zn E1.Conts)), (40000116, .row 1 (List.map (cI .i64) E1.Extra))]⟩
 | .L3 E0 E1 v104 v105 => ⟨138, [(1, (.bptr 30000000 0)), (2, (.bptr 30000001 0)), (104, (wI v104)), (105, (wI v105))], [(30000000, .box [(.osl 40000000 (List.map Zg E0.Players).length), (.osl 40000001 (List.map Zc E0.Objects).length), (.osl 40000002 (List.map (cI .i64) E0.Battlefield).length), (.osl 40000003 (List.map (cI .i64) E0.Exile).length), (.osl 40000004 (List.map Zl E0.Stack).length), (.osl 40000005 (List.map Zm E0.Waiting).length), (.osl 40000006 (List.map Zn E0.Conts).length), (wI E0.Turn), (wI E0.Active), (wI E0.Step), (wB E0.Begun), (wI E0.Priority), (wI E0.Passes), (wI E0.NextId), (wI E0.NextStamp), (.t (.int .u64 E0.Seed)), (wL (cI .i64) E0.Extra), (wI E0.Over), (wI E0.Winner)]), (40000000, .row 14 (List.map Zg E0.Players)), (40000001, .row 19 (List.map Zc E0.Objects)), (40000002, .row 1 (List.map (cI .i64) E0.Battlefield)), (40000003, .row 1 (List.map (cI .i64) E0.Exile)), (40000004, .row 94 (List.map Zl E0.Stack)), (40000005, .row 89 (List.map Zm E0.Waiting)), (40000006, .row 6 (List.map Zn E0.Conts)), (30000001, .box [(.osl 40000100 (List.map Zg E1.Players).length), (.osl 40000101 (List.map Zc E1.Objects).length), (.osl 40000102 (List.map (cI .i64) E1.Battlefield).length), (.osl 40000103 (List.map (cI .i64) E1.Exile).length), (.osl 40000104 (List.map Zl E1.Stack).length), (.osl 40000105 (List.map Zm E1.Waiting).length), (.osl 40000106 (List.map Zn E1.Conts).length), (wI E1.Turn), (wI E1.Active), (wI E1.Step), (wB E1.Begun), (wI E1.Priority), (wI E1.Passes), (wI E1.NextId), (wI E1.NextStamp), (.t (.int .u64 E1.Seed)), (.osl 40000116 (List.map (cI .i64) E1.Extra).length), (wI E1.Over), (wI E1.Winner)]), (40000100, .row 14 (List.map Zg E1.Players)), (40000101, .row 19 (List.map Zc E1.Objects)), (40000102, .row 1 (List.map (cI .i64) E1.Battlefield)), (40000103, .row 1 (List.map (cI .i64) E1.Exile)), (40000104, .row 94 (List.map Zl E1.Stack)), (40000105, .row 89 (List.map Zm E1.Waiting)), (40000106, .row 6 (List.map Zn E1.Conts)), (40000116, .row 1 (List.map (cI .i64) E1.Extra))]⟩
abbrev Zus (r : Zd) (y : Zgn ⊕ Zd) : Prop := Ok PR [.c 2 31 true 19] (Zpr) Zob Zur Zxe r y
theorem Za2t (r : Zd) (E0 : Zd) (E1 : Zd) (v13 : Int) (v14 : Int) (y : Zgn ⊕ Zd) (h : Zrx E0 E1 v13 v14 = some y) (hk : Zus r y) : (Zur (.L0 E0 E1 v13 v14)).HH PR [.c 2 31 true 19] Zpr Zob r (Zxe (.L0 E0 E1 v13 v14)) :=
 Za h (fun h1 h => Zb h fun x2 h3 h => Zb h fun x4 h5 h => Zb h fun x6 h7 h => lG h hk (((((((((((((((((q0.t 1 h1).o [.nat (Int.toNat v14), .cs (Zg x2), .call (.agg (bx (Zg x4))), .nat (Int.toNat v14), .cs (Zg x2), .es (List.map Zg x6), .ahead 27, .relen 40000000, .stop, .pick [14, 1, 2, 13] [40000000, 30000000, 30000001, 40000100, 40000101, 40000102, 40000103, 40000104, 40000105, 40000106, 40000116], .pick [1, 2, 13, 14] [30000000, 40000000, 30000001, 40000100, 40000101, 40000102, 40000103, 40000104, 40000105, 40000106, 40000116]]).b (Eq.refl (List.map Zg E0.Players).length)).b (Z2 h3)).b (Znm Zg h3)).b (Eq.refl (Int.toNat v14))).b (Eq.refl (List.map Zg E0.Players).length)).b (Zv Zg h3)).b (Zarh x2 h5)).b (Eq.refl (List.map Zg E0.Players).length)).b (Z2 h3)).b (Znm Zg h3)).b (Eq.refl (Int.toNat v14))).b (Eq.refl (List.map Zg E0.Players).length)).b (Zv Zg h3)).b (Zabf (x := x2) (q := 0) (ts := [(.int .i64 x4.Life), (.int .i64 x4.Venom), (.int .i64 x4.Lands), (.int .i64 x4.Pool.a0), (.int .i64 x4.Pool.a1), (.int .i64 x4.Pool.a2), (.int .i64 x4.Pool.a3), (.int .i64 x4.Pool.a4), (.int .i64 x4.Pool.a5), (.bool x4.Failed), (.bool x4.Lost), (.sl (List.map (cI .i64) x4.Library)), (.sl (List.map (cI .i64) x4.Hand)), (.sl (List.map (cI .i64) x4.Graveyard))]) Zg h7 rfl)).a 5 (Z45 Zg h7))) (fun h1 h => Zb h fun x10 h11 h => Zb h fun x12 h13 h => Zb h fun x14 h15 h => Zb h fun x16 h17 h => lG h hk ((((((((q0.f 1 h1).o [.callO false [] 310000 [(5000, .row 19 (List.map Zc x10))] (.osl 5000 (List.map Zc x10).length), .callO false [] 350000 [(5000, .row 1 (List.map (cI .i64) x12))] (.osl 5000 (List.map (cI .i64) x12).length), .callO false [] 390000 [(5000, .row 1 (List.map (cI .i64) x14))] (.osl 5000 (List.map (cI .i64) x14).length), .callO false [] 430000 [(5000, .row 94 (List.map Zl x16))] (.osl 5000 (List.map Zl x16).length), .num (x16.length : Int), .pick [47, 46, 1, 2] [30000000, 435000, 395000, 355000, 315000, 40000000, 30000001, 40000100, 40000101, 40000102, 40000103, 40000104, 40000105, 40000106, 40000116], .relab 315000 40000001, .relab 355000 40000002, .relab 395000 40000003, .relab 435000 40000004, .pick [1, 2, 46, 47] [30000000, 40000000, 40000001, 40000002, 40000003, 40000004, 30000001, 40000100, 40000101, 40000102, 40000103, 40000104, 40000105, 40000106, 40000116]]).b (Zss E0.Objects h11)).b (Ze8 E0.Battlefield h13)).b (Ze8 E0.Exile h15)).b (Zv1 E0.Stack h17)).b (Eq.refl (List.map Zl x16).length)).b (Zr Zl x16)))
theorem Za2u (r : Zd) (E0 : Zd) (E1 : Zd) (v46 : Int) (v47 : Int) (y : Zgn ⊕ Zd) (h : Zry E0 E1 v46 v47 = some y) (hk : Zus r y) : (Zur (.L1 E0 E1 v46 v47)).HH PR [.c 2 31 true 19] Zpr Zob r (Zxe (.L1 E0 E1 v46 v47)) :=
 Za h (fun h1 h => Zb h fun x2 h3 h => Zb h fun x4 h5 h => Zb h fun x6 h7 h => Zb h fun x8 h9 h => Zb h fun x10 h11 h => Zb h fun x12 h13 h => lG h hk ((((((((((((((((((((((((((((((((q0.t 1 h1).o [.nat (Int.toNat v47), .cs (Zl x2), .call (.agg (bx (Zac x4))), .nat (Int.toNat v47), .cs (Zl x2), .es (List.map Zl x6), .ahead 15, .relen 40000004, .stop, .nat (Int.toNat v47), .cs (Zl x8), .call (wL Zae x10), .nat (Int.toNat v47), .cs (Zl x8), .es (List.map Zl x12), .ahead 74, .relen 40000004, .stop, .pick [47, 1, 2, 46] [40000004, 30000000, 40000000, 40000001, 40000002, 40000003, 30000001, 40000100, 40000101, 40000102, 40000103, 40000104, 40000105, 40000106, 40000116], .pick [1, 2, 46, 47] [30000000, 40000000, 40000001, 40000002, 40000003, 40000004, 30000001, 40000100, 40000101, 40000102, 40000103, 40000104, 40000105, 40000106, 40000116]]).b (Eq.refl (List.map Zl E0.Stack).length)).b (Z2 h3)).b (Znm Zl h3)).b (Eq.refl (Int.toNat v47))).a 2 (Eq.refl (List.map Zl E0.Stack).length)).b (Zv Zl h3)).b (Z4x x2.Ability h5)).b (Eq.refl (List.map Zl E0.Stack).length)).b (Z2 h3)).b (Znm Zl h3)).b (Eq.refl (Int.toNat v47))).a 2 (Eq.refl (List.map Zl E0.Stack).length)).b (Zv Zl h3)).b (Zabf (x := x2) (q := 6) (ts := [(.int .i64 x4.Kind), (.int .i64 x4.Filter.Zone), (.int .i64 x4.Filter.Who), (.int .i64 x4.Filter.Self), (.int .i64 x4.Filter.Types), (.int .i64 x4.Filter.NotTypes), (.int .i64 x4.Filter.Colors), (.int .i64 x4.Filter.NotColors), (.str x4.Filter.Sub), (.int .i64 x4.Filter.Keys), (.int .i64 x4.Filter.Tap), (.int .i64 x4.Filter.Power.Kind), (.int .i64 x4.Filter.Power.N), (.int .i64 x4.Filter.Tough.Kind), (.int .i64 x4.Filter.Tough.N), (.int .i64 x4.Filter.Value.Kind), (.int .i64 x4.Filter.Value.N), (.sl (List.map Zp x4.Mods)), (.int .i64 x4.Price.Mana.Generic), (.int .i64 x4.Price.Mana.X), (.int .i64 x4.Price.Mana.Color.a0), (.int .i64 x4.Price.Mana.Color.a1), (.int .i64 x4.Price.Mana.Color.a2), (.int .i64 x4.Price.Mana.Color.a3), (.int .i64 x4.Price.Mana.Color.a4), (.bool x4.Price.Tap), (.bool x4.Price.Sacrifice), (.int .i64 x4.Price.Life), (.bool x4.Slow), (.int .i64 x4.Trigger.When), (.int .i64 x4.Trigger.Who), (.int .i64 x4.Trigger.Filter.Zone), (.int .i64 x4.Trigger.Filter.Who), (.int .i64 x4.Trigger.Filter.Self), (.int .i64 x4.Trigger.Filter.Types), (.int .i64 x4.Trigger.Filter.NotTypes), (.int .i64 x4.Trigger.Filter.Colors), (.int .i64 x4.Trigger.Filter.NotColors), (.str x4.Trigger.Filter.Sub), (.int .i64 x4.Trigger.Filter.Keys), (.int .i64 x4.Trigger.Filter.Tap), (.int .i64 x4.Trigger.Filter.Power.Kind), (.int .i64 x4.Trigger.Filter.Power.N), (.int .i64 x4.Trigger.Filter.Tough.Kind), (.int .i64 x4.Trigger.Filter.Tough.N), (.int .i64 x4.Trigger.Filter.Value.Kind), (.int .i64 x4.Trigger.Filter.Value.N), (.bool x4.May), (.sl (List.map Z3 x4.Specs)), (.sl (List.map Zj x4.Effects)), (.int .i64 x4.Replace.On), (.int .i64 x4.Replace.Who), (.int .i64 x4.Replace.Filter.Zone), (.int .i64 x4.Replace.Filter.Who), (.int .i64 x4.Replace.Filter.Self), (.int .i64 x4.Replace.Filter.Types), (.int .i64 x4.Replace.Filter.NotTypes), (.int .i64 x4.Replace.Filter.Colors), (.int .i64 x4.Replace.Filter.NotColors), (.str x4.Replace.Filter.Sub), (.int .i64 x4.Replace.Filter.Keys), (.int .i64 x4.Replace.Filter.Tap), (.int .i64 x4.Replace.Filter.Power.Kind), (.int .i64 x4.Replace.Filter.Power.N), (.int .i64 x4.Replace.Filter.Tough.Kind), (.int .i64 x4.Replace.Filter.Tough.N), (.int .i64 x4.Replace.Filter.Value.Kind), (.int .i64 x4.Replace.Filter.Value.N), (.int .i64 x4.Replace.Do), (.int .i64 x4.Replace.N), (.int .i64 x4.Replace.Zone), (.int .i64 x4.Replace.Counter)]) Zl h7 rfl)).a 7 (Z45 Zl h7)).b (Eq.refl (List.map Zl x6).length)).b (Z2 h9)).b (Znm Zl h9)).b (Eq.refl (Int.toNat v47))).a 2 (Eq.refl (List.map Zl x6).length)).b (Zv Zl h9)).b (Ztv x8.Targets h11)).b (Eq.refl (List.map Zl x6).length)).b (Z2 h9)).b (Znm Zl h9)).b (Eq.refl (Int.toNat v47))).a 2 (Eq.refl (List.map Zl x6).length)).b (Zv Zl h9)).b (Zabf (x := x8) (q := 78) (ts := [(.sl (List.map Zae x10))]) Zl h13 rfl)).a 13 (Z45 Zl h13))) (fun h1 h => Zb h fun x16 h17 h => lG h hk (((((q0.f 1 h1).o [.callO false [] 780000 [(5000, .row 89 (List.map Zm x16))] (.osl 5000 (List.map Zm x16).length), .num (x16.length : Int), .pick [82, 81, 1, 2] [30000000, 785000, 40000000, 40000001, 40000002, 40000003, 40000004, 30000001, 40000100, 40000101, 40000102, 40000103, 40000104, 40000105, 40000106, 40000116], .relab 785000 40000005, .pick [1, 2, 81, 82] [30000000, 40000000, 40000001, 40000002, 40000003, 40000004, 40000005, 30000001, 40000100, 40000101, 40000102, 40000103, 40000104, 40000105, 40000106, 40000116]]).b (Zrd E0.Waiting h17)).b (Eq.refl (List.map Zm x16).length)).b (Zr Zm x16)))
theorem Za2v (r : Zd) (E0 : Zd) (E1 : Zd) (v81 : Int) (v82 : Int) (y : Zgn ⊕ Zd) (h : Zrz E0 E1 v81 v82 = some y) (hk : Zus r y) : (Zur (.L2 E0 E1 v81 v82)).HH PR [.c 2 31 true 19] Zpr Zob r (Zxe (.L2 E0 E1 v81 v82)) :=
 Za h (fun h1 h => Zb h fun x2 h3 h => Zb h fun x4 h5 h => Zb h fun x6 h7 h => lG h hk (((((((((((((((((q0.t 1 h1).o [.nat (Int.toNat v82), .cs (Zm x2), .call (.agg (bx (Zac x4))), .nat (Int.toNat v82), .cs (Zm x2), .es (List.map Zm x6), .ahead 97, .relen 40000005, .stop, .pick [82, 1, 2, 81] [40000005, 30000000, 40000000, 40000001, 40000002, 40000003, 40000004, 30000001, 40000100, 40000101, 40000102, 40000103, 40000104, 40000105, 40000106, 40000116], .pick [1, 2, 81, 82] [30000000, 40000000, 40000001, 40000002, 40000003, 40000004, 40000005, 30000001, 40000100, 40000101, 40000102, 40000103, 40000104, 40000105, 40000106, 40000116]]).b (Eq.refl (List.map Zm E0.Waiting).length)).b (Z2 h3)).b (Znm Zm h3)).b (Eq.refl (Int.toNat v82))).a 2 (Eq.refl (List.map Zm E0.Waiting).length)).b (Zv Zm h3)).b (Z4x x2.Ability h5)).b (Eq.refl (List.map Zm E0.Waiting).length)).b (Z2 h3)).b (Znm Zm h3)).b (Eq.refl (Int.toNat v82))).a 2 (Eq.refl (List.map Zm E0.Waiting).length)).b (Zv Zm h3)).b (Zabf (x := x2) (q := 2) (ts := [(.int .i64 x4.Kind), (.int .i64 x4.Filter.Zone), (.int .i64 x4.Filter.Who), (.int .i64 x4.Filter.Self), (.int .i64 x4.Filter.Types), (.int .i64 x4.Filter.NotTypes), (.int .i64 x4.Filter.Colors), (.int .i64 x4.Filter.NotColors), (.str x4.Filter.Sub), (.int .i64 x4.Filter.Keys), (.int .i64 x4.Filter.Tap), (.int .i64 x4.Filter.Power.Kind), (.int .i64 x4.Filter.Power.N), (.int .i64 x4.Filter.Tough.Kind), (.int .i64 x4.Filter.Tough.N), (.int .i64 x4.Filter.Value.Kind), (.int .i64 x4.Filter.Value.N), (.sl (List.map Zp x4.Mods)), (.int .i64 x4.Price.Mana.Generic), (.int .i64 x4.Price.Mana.X), (.int .i64 x4.Price.Mana.Color.a0), (.int .i64 x4.Price.Mana.Color.a1), (.int .i64 x4.Price.Mana.Color.a2), (.int .i64 x4.Price.Mana.Color.a3), (.int .i64 x4.Price.Mana.Color.a4), (.bool x4.Price.Tap), (.bool x4.Price.Sacrifice), (.int .i64 x4.Price.Life), (.bool x4.Slow), (.int .i64 x4.Trigger.When), (.int .i64 x4.Trigger.Who), (.int .i64 x4.Trigger.Filter.Zone), (.int .i64 x4.Trigger.Filter.Who), (.int .i64 x4.Trigger.Filter.Self), (.int .i64 x4.Trigger.Filter.Types), (.int .i64 x4.Trigger.Filter.NotTypes), (.int .i64 x4.Trigger.Filter.Colors), (.int .i64 x4.Trigger.Filter.NotColors), (.str x4.Trigger.Filter.Sub), (.int .i64 x4.Trigger.Filter.Keys), (.int .i64 x4.Trigger.Filter.Tap), (.int .i64 x4.Trigger.Filter.Power.Kind), (.int .i64 x4.Trigger.Filter.Power.N), (.int .i64 x4.Trigger.Filter.Tough.Kind), (.int .i64 x4.Trigger.Filter.Tough.N), (.int .i64 x4.Trigger.Filter.Value.Kind), (.int .i64 x4.Trigger.Filter.Value.N), (.bool x4.May), (.sl (List.map Z3 x4.Specs)), (.sl (List.map Zj x4.Effects)), (.int .i64 x4.Replace.On), (.int .i64 x4.Replace.Who), (.int .i64 x4.Replace.Filter.Zone), (.int .i64 x4.Replace.Filter.Who), (.int .i64 x4.Replace.Filter.Self), (.int .i64 x4.Replace.Filter.Types), (.int .i64 x4.Replace.Filter.NotTypes), (.int .i64 x4.Replace.Filter.Colors), (.int .i64 x4.Replace.Filter.NotColors), (.str x4.Replace.Filter.Sub), (.int .i64 x4.Replace.Filter.Keys), (.int .i64 x4.Replace.Filter.Tap), (.int .i64 x4.Replace.Filter.Power.Kind), (.int .i64 x4.Replace.Filter.Power.N), (.int .i64 x4.Replace.Filter.Tough.Kind), (.int .i64 x4.Replace.Filter.Tough.N), (.int .i64 x4.Replace.Filter.Value.Kind), (.int .i64 x4.Replace.Filter.Value.N), (.int .i64 x4.Replace.Do), (.int .i64 x4.Replace.N), (.int .i64 x4.Replace.Zone), (.int .i64 x4.Replace.Counter)]) Zm h7 rfl)).a 7 (Z45 Zm h7))) (fun h1 h => Zb h fun x10 h11 h => lG h hk (((((q0.f 1 h1).o [.callO false [] 1010000 [(5000, .row 6 (List.map Zn x10))] (.osl 5000 (List.map Zn x10).length), .num (x10.length : Int), .pick [105, 104, 1, 2] [30000000, 1015000, 40000000, 40000001, 40000002, 40000003, 40000004, 40000005, 30000001, 40000100, 40000101, 40000102, 40000103, 40000104, 40000105, 40000106, 40000116], .relab 1015000 40000006, .pick [1, 2, 104, 105] [30000000, 40000000, 40000001, 40000002, 40000003, 40000004, 40000005, 40000006, 30000001, 40000100, 40000101, 40000102, 40000103, 40000104, 40000105, 40000106, 40000116]]).b (Zv7 E0.Conts h11)).b (Eq.refl (List.map Zn x10).length)).b (Zr Zn x10)))
theorem Za2w (r : Zd) (E0 : Zd) (E1 : Zd) (v104 : Int) (v105 : Int) (y : Zgn ⊕ Zd) (h : Zr0 E0 E1 v104 v105 = some y) (hk : Zus r y) : (Zur (.L3 E0 E1 v104 v105)).HH PR [.c 2 31 true 19] Zpr Zob r (Zxe (.L3 E0 E1 v104 v105)) :=
 Za h (fun h1 h => Zb h fun x2 h3 h => Zb h fun x4 h5 h => Zb h fun x6 h7 h => Zb h fun x8 h9 h => Zb h fun x10 h11 h => Zb h fun x12 h13 h => lG h hk ((((((((((((((((((((((((((((((((q0.t 1 h1).o [.nat (Int.toNat v105), .cs (Zn x2), .call (wL (cI .i64) x4), .nat (Int.toNat v105), .cs (Zn x2), .es (List.map Zn x6), .ahead 28, .relen 40000006, .stop, .nat (Int.toNat v105), .cs (Zn x8), .call (wL Zp x10), .nat (Int.toNat v105), .cs (Zn x8), .es (List.map Zn x12), .ahead 132, .relen 40000006, .stop, .pick [105, 1, 2, 104] [40000006, 30000000, 40000000, 40000001, 40000002, 40000003, 40000004, 40000005, 30000001, 40000100, 40000101, 40000102, 40000103, 40000104, 40000105, 40000106, 40000116], .pick [1, 2, 104, 105] [30000000, 40000000, 40000001, 40000002, 40000003, 40000004, 40000005, 40000006, 30000001, 40000100, 40000101, 40000102, 40000103, 40000104, 40000105, 40000106, 40000116]]).b (Eq.refl (List.map Zn E0.Conts).length)).b (Z2 h3)).b (Znm Zn h3)).b (Eq.refl (Int.toNat v105))).a 2 (Eq.refl (List.map Zn E0.Conts).length)).b (Zv Zn h3)).b (Z8z x2.Objects h5)).b (Eq.refl (List.map Zn E0.Conts).length)).b (Z2 h3)).b (Znm Zn h3)).b (Eq.refl (Int.toNat v105))).a 2 (Eq.refl (List.map Zn E0.Conts).length)).b (Zv Zn h3)).b (Zabf (x := x2) (q := 4) (ts := [(.sl (List.map (cI .i64) x4))]) Zn h7 rfl)).a 7 (Z45 Zn h7)).b (Eq.refl (List.map Zn x6).length)).b (Z2 h9)).b (Znm Zn h9)).b (Eq.refl (Int.toNat v105))).a 2 (Eq.refl (List.map Zn x6).length)).b (Zv Zn h9)).b (Zoh x8.Mods h11)).b (Eq.refl (List.map Zn x6).length)).b (Z2 h9)).b (Znm Zn h9)).b (Eq.refl (Int.toNat v105))).a 2 (Eq.refl (List.map Zn x6).length)).b (Zv Zn h9)).b (Zabf (x := x8) (q := 5) (ts := [(.sl (List.map Zp x10))]) Zn h13 rfl)).a 13 (Z45 Zn h13))) (fun h1 h => Zb h fun x16 h17 h => lO h hk [5000, 5001, 5002, 5003, 5004, 5005, 5006, 5016] (((q0.f 1 h1).o [.callO false [] 1360000 [(5000, .row 1 (List.map (cI .i64) x16))] (.osl 5000 (List.map (cI .i64) x16).length), .relab 40000000 5000, .relab 40000001 5001, .relab 40000002 5002, .relab 40000003 5003, .relab 40000004 5004, .relab 40000005 5005, .relab 40000006 5006, .relab 1365000 5016]).b (Ze8 E0.Extra h17)))
theorem Za6g (r : Zd) (a0 : Zd) (y : Zgn ⊕ Zd) (h : Zagz a0 = some y) (hk : Zus r y) : (Cfg.code Zu7 []).HH PR [.c 2 31 true 19] Zpr Zob r ⟨138, idx 0 [(.agg (bx (Z4 a0)))], []⟩ :=
 Zb h fun x1 h2 h => lG h hk ((((q0.o [.lab 1001, .lab 1002, .callO false [] 100000 [(5000, .row 14 (List.map Zg x1))] (.osl 5000 (List.map Zg x1).length), .num (x1.length : Int), .pick [14, 13, 2, 1] [1001, 105000, 1002], .relab 1001 30000000, .relab 1002 30000001, .relab 105000 40000000, .ownb 30000001 0 40000100 14, .ownb 30000001 1 40000101 19, .ownb 30000001 2 40000102 1, .ownb 30000001 3 40000103 1, .ownb 30000001 4 40000104 94, .ownb 30000001 5 40000105 89, .ownb 30000001 6 40000106 6, .ownb 30000001 16 40000116 1, .pick [1, 2, 13, 14] [30000000, 40000000, 30000001, 40000100, 40000101, 40000102, 40000103, 40000104, 40000105, 40000106, 40000116]]).b (Zsq a0.Players h2)).b (Eq.refl (List.map Zg x1).length)).b (Zr Zg x1))
theorem Zbay (a0 : Zd) {r : Zd} (h : Z7u a0 = some r) : FnG PR 43 [] [(.agg (bx (Z4 a0)))] ((Zpr) r) (Zob r) :=
 Zb h fun y h0 h1 => FnG.of_cfg hT Go.Proofs.Tryz.func43 (by kernel_rfl : _ = some Zu7) (by kernel_rfl) 138 (by kernel_rfl) (Nat.le_of_ble_eq_true rfl) [.c 2 31 true 19] (by kernel_rfl) (by kernel_rfl) (Za6g r a0 y h0 (Z1 (fun s y h hk => match s with
 | .L0 E0 E1 v13 v14 => Za2t r E0 E1 v13 v14 y h hk
 | .L1 E0 E1 v46 v47 => Za2u r E0 E1 v46 v47 y h hk
 | .L2 E0 E1 v81 v82 => Za2v r E0 E1 v81 v82 y h hk
 | .L3 E0 E1 v104 v105 => Za2w r E0 E1 v104 v105 y h hk) h1))
theorem Zbfr (a0 : Zd) {r : Zd} (h : Z7u a0 = some r) : Fn PR 43 [(.agg (bx (Z4 a0)))] (.agg (bx (Z4 r))) :=
 FnG.frozen (Zbay a0 h) (And.intro (Eq.refl (List.map Zg r.Players).length) (And.intro (Eq.refl (List.map Zc r.Objects).length) (And.intro (Eq.refl (List.map (cI .i64) r.Battlefield).length) (And.intro (Eq.refl (List.map (cI .i64) r.Exile).length) (And.intro (Eq.refl (List.map Zl r.Stack).length) (And.intro (Eq.refl (List.map Zm r.Waiting).length) (And.intro (Eq.refl (List.map Zn r.Conts).length) (And.intro (Eq.refl (List.map (cI .i64) r.Extra).length) trivial)))))))) (by kernel_rfl)
noncomputable def Z4y : Code := (Go.Proofs.Tryz.f83.body).getD .skip
noncomputable def Zsc (r : Bool) : PV := (wB r)
noncomputable def Ztw (b0 : Int) (r : Bool) : List (Nat × Blk) := [(0, .box (List.map .t ((cI .i64) b0)))]
noncomputable def Zajb : Zik → Cfg := fun s => nomatch s
noncomputable def Zalz : Zik → PW.St := fun s => nomatch s
abbrev Zajc (b0 : Int) (r : Bool) (y : Zik ⊕ Bool) : Prop := Ok PR [.t 3] (Ztw b0) Zsc Zajb Zalz r y
theorem Zah3 (r : Bool) (a0 : Zf) (b0 : Int) (y : Zik ⊕ Bool) (h : Z4v a0 b0 = some y) (hk : Zajc b0 r y) : (Cfg.code Z4y []).holds PR (Upto (RetQ [.t 3] ((Ztw b0) r) (Zsc r))) ⟨8, idx 0 [(.agg (bx (Zc a0))), (.bptr 0 0)], [(0, .box (List.map .t ((cI .i64) b0)))]⟩ :=
 lO h hk [0] (q0.o [.lab 1002])
theorem Zajd (a0 : Zf) (b0 : Int) {r : Bool} (h : Zyq a0 b0 = some r) : FnG PR 83 [(0, .box (List.map .t ((cI .i64) b0)))] [(.agg (bx (Zc a0))), (.bptr 0 0)] ((Ztw b0) r) (Zsc r) :=
 Zb h fun y h0 h1 => FnG.of_cfg hT Go.Proofs.Tryz.func83 (by kernel_rfl : _ = some Z4y) (by kernel_rfl) 8 (by kernel_rfl) (Nat.le_of_ble_eq_true rfl) [.t 3] (by kernel_rfl) (by kernel_rfl) (Zah3 r a0 b0 y h0 (Z1 (fun s _ _ _ => nomatch s) h1))
noncomputable def Zel : Code := (Go.Proofs.Tryz.f82.body).getD .skip
noncomputable def Zcq (r : (Int × Int)) : PV := (wI r.1)
noncomputable def Zcr (r : (Int × Int)) : List (Nat × Blk) := [(0, .box (List.map .t ((cI .i64) r.2)))]
noncomputable def Zgk : Zaf → Cfg
 | .L0 _ _ _ _ => (nav [1, 0, 1, 4] Zel []).getD (.done .normal)
noncomputable def Zgt : Zaf → PW.St
 | .L0 v0 b0 v7 v8 => ⟨19, [(0, (wL Zc v0)), (1, (.fn 83 [(.bptr 0 0)])), (7, (wI v7)), (8, (wI v8))], [(0, .box [(wI b0)])]⟩
abbrev Zgl (r : (Int × Int)) (y : Zaf ⊕ (Int × Int)) : Prop := Ok PR [.t 4] (Zcr) Zcq Zgk Zgt r y
theorem Zla (r : (Int × Int)) (v0 : (List Zf)) (b0 : Int) (v7 : Int) (v8 : Int) (y : Zaf ⊕ (Int × Int)) (h : Zan v0 b0 v7 v8 = some y) (hk : Zgl r y) : (Zgk (.L0 v0 b0 v7 v8)).HH PR [.t 4] Zcr Zcq r (Zgt (.L0 v0 b0 v7 v8)) :=
 Za h (fun h1 h => have q := (q0.t 1 h1).b (Zq Zc 19 (fun _ => rfl) v0);
 Zb h fun x2 h3 h => have q := ((q.o [.cs (Zc x2)]).b (Z2 h3)).b (Zv Zc h3);
 Zb h fun x4 h5 h => have q := (q.o [.callO false [0] 170000 [] (wB x4)]).b (Zajd x2 b0 h5);
 Za h (fun h6 h => lO h hk [0] (q.t 1 h6)) (fun h6 h => lG h hk ((q.f 1 h6).o [.pick [8, 0, 1, 7] [0], .pick [0, 1, 7, 8] [0]]))) (fun h1 h => lO h hk [0] (q0.f 1 h1))
theorem Zl4 (r : (Int × Int)) (a0 : (List Zf)) (b0 : Int) (y : Zaf ⊕ (Int × Int)) (h : Zek a0 b0 = some y) (hk : Zgl r y) : (Cfg.code Zel []).HH PR [.t 4] Zcr Zcq r ⟨19, idx 0 [(wL Zc a0), (.fn 83 [(.bptr 0 0)])], [(0, .box (List.map .t ((cI .i64) b0)))]⟩ :=
 lG h hk ((q0.o [.num (a0.length : Int), .pick [8, 7, 1, 0] [0], .pick [0, 1, 7, 8] [0]]).b (Zr Zc a0))
theorem Zmg (a0 : (List Zf)) (b0 : Int) {r : (Int × Int)} (h : Ze5 a0 b0 = some r) : FnG PR 82 [(0, .box (List.map .t ((cI .i64) b0)))] [(wL Zc a0), (.fn 83 [(.bptr 0 0)])] ((Zcr) r) (Zcq r) :=
 Zb h fun y h0 h1 => FnG.of_cfg hT Go.Proofs.Tryz.func82 (by kernel_rfl : _ = some Zel) (by kernel_rfl) 19 (by kernel_rfl) (Nat.le_of_ble_eq_true rfl) [.t 4] (by kernel_rfl) (by kernel_rfl) (Zl4 r a0 b0 y h0 (Z1 (fun s y h hk => match s with
 | .L0 v0 b0 v7 v8 => Zla r v0 b0 v7 v8 y h hk) h1))
noncomputable def Zari : Code := (Go.Proofs.Tryz.f51.body).getD .skip
noncomputable def Z6a (r : Int) : PV := (wI r)
noncomputable def Zant (r : Int) : List (Nat × Blk) := []
noncomputable def Za6h : Zpn → Cfg := fun s => nomatch s
noncomputable def Zbaz : Zpn → PW.St := fun s => nomatch s
abbrev Za6i (r : Int) (y : Zpn ⊕ Int) : Prop := Ok PR [.t 4] (Zant) Z6a Za6h Zbaz r y
theorem Za2x (r : Int) (a0 : Zd) (a1 : Int) (y : Zpn ⊕ Int) (h : Zabw a0 a1 = some y) (hk : Za6i r y) : (Cfg.code Zari []).HH PR [.t 4] Zant Z6a r ⟨9, idx 0 [(.agg (bx (Z4 a0))), (wI a1)], []⟩ :=
 Zb h fun x1 h2 h => lR h hk ((q0.o [.lab 1002, .lab 1003, .callU false [1003] 90000 [(0, .box (List.map .t ((cI .i64) x1.2)))] (wI x1.1)]).b (Zmg a0.Objects a1 h2))
theorem Zba0 (a0 : Zd) (a1 : Int) {r : Int} (h : Zak2 a0 a1 = some r) : Fn PR 51 [(.agg (bx (Z4 a0))), (wI a1)] (Z6a r) :=
 Zb h fun y h0 h1 => FnG.of_cfg hT Go.Proofs.Tryz.func51 (by kernel_rfl : _ = some Zari) (by kernel_rfl) 9 (by kernel_rfl) (Nat.le_of_ble_eq_true rfl) [.t 4] (by kernel_rfl) (by kernel_rfl) (Za2x r a0 a1 y h0 (Z1 (fun s _ _ _ => nomatch s) h1))
noncomputable def Zav1 : Code := (Go.Proofs.Tryz.f23.body).getD .skip
noncomputable def Z80 (r : (Zf × Bool)) : PV := (.tup [(.agg (bx (Zc r.1))), (wB r.2)])
noncomputable def Zarj (r : (Zf × Bool)) : List (Nat × Blk) := []
noncomputable def Zba1 : Zqu → Cfg := fun s => nomatch s
noncomputable def Zbfs : Zqu → PW.St := fun s => nomatch s
abbrev Zba2 (r : (Zf × Bool)) (y : Zqu ⊕ (Zf × Bool)) : Prop := Ok PR [.c 4 44 true 19, .t 5] (Zarj) Z80 Zba1 Zbfs r y
theorem Za6j (r : (Zf × Bool)) (a0 : Zd) (a1 : Int) (y : Zqu ⊕ (Zf × Bool)) (h : Zag1 a0 a1 = some y) (hk : Zba2 r y) : (Cfg.code Zav1 []).HH PR [.c 4 44 true 19, .t 5] Zarj Z80 r ⟨18, idx 0 [(.agg (bx (Z4 a0))), (wI a1)], []⟩ := have q := q0.o [.lab 1002, .lab 1004];
 Zb h fun x1 h2 h => have q := (q.o [.call (wI x1)]).b (Zba0 a0 a1 h2);
 Za h (fun h3 h => lR h hk (q.t 1 h3)) (fun h3 h => Zb h fun x4 h5 h => lR h hk (((((q.f 1 h3).o [.cs (Zc x4)]).b (Zq Zc 19 (fun _ => rfl) a0.Objects)).b (Z2 h5)).b (Zv Zc h5)))
theorem Zbft (a0 : Zd) (a1 : Int) {r : (Zf × Bool)} (h : Zafc a0 a1 = some r) : Fn PR 23 [(.agg (bx (Z4 a0))), (wI a1)] (Z80 r) :=
 Zb h fun y h0 h1 => FnG.of_cfg hT Go.Proofs.Tryz.func23 (by kernel_rfl : _ = some Zav1) (by kernel_rfl) 18 (by kernel_rfl) (Nat.le_of_ble_eq_true rfl) [.c 4 44 true 19, .t 5] (by kernel_rfl) (by kernel_rfl) (Za6j r a0 a1 y h0 (Z1 (fun s _ _ _ => nomatch s) h1))
noncomputable def Zo6 : Code := (Go.Proofs.Tryz.f52.body).getD .skip
noncomputable def Zj5 (r : Int) : PV := (wI r)
noncomputable def Zoc (r : Int) : List (Nat × Blk) := []
noncomputable def Zs4 : Zdo → Cfg
 | .L0 _ _ _ _ => (nav [1, 0, 1, 4] Zo6 []).getD (.done .normal)
noncomputable def Zut : Zdo → PW.St
 | .L0 v0 v1 v7 v8 => ⟨19, [(0, (wL (cI .i64) v0)), (1, (wI v1)), (7, (wI v7)), (8, (wI v8))], []⟩
abbrev Zs5 (r : Int) (y : Zdo ⊕ Int) : Prop := Ok PR [.t 4] (Zoc) Zj5 Zs4 Zut r y
theorem Z4s (r : Int) (v0 : (List Int)) (v1 : Int) (v7 : Int) (v8 : Int) (y : Zdo ⊕ Int) (h : Zgb v0 v1 v7 v8 = some y) (hk : Zs5 r y) : (Zs4 (.L0 v0 v1 v7 v8)).HH PR [.t 4] Zoc Zj5 r (Zut (.L0 v0 v1 v7 v8)) :=
 Za h (fun h1 h => have q := (q0.t 1 h1).b (Zq (cI .i64) 1 (fun _ => rfl) v0);
 Zb h fun x2 h3 h => have q := ((q.o [.cs ((cI .i64) x2)]).b (Z2 h3)).b (Zv (cI .i64) h3);
 Za h (fun h4 h => lR h hk (q.t 1 h4)) (fun h4 h => lG h hk ((q.f 1 h4).o [.pick [8, 0, 1, 7] [], .pick [0, 1, 7, 8] []]))) (fun h1 h => lR h hk (q0.f 1 h1))
theorem Z6b (r : Int) (a0 : (List Int)) (a1 : Int) (y : Zdo ⊕ Int) (h : Zo1 a0 a1 = some y) (hk : Zs5 r y) : (Cfg.code Zo6 []).HH PR [.t 4] Zoc Zj5 r ⟨19, idx 0 [(wL (cI .i64) a0), (wI a1)], []⟩ :=
 lG h hk ((q0.o [.num (a0.length : Int), .pick [8, 7, 1, 0] [], .pick [0, 1, 7, 8] []]).b (Zr (cI .i64) a0))
theorem Z81 (a0 : (List Int)) (a1 : Int) {r : Int} (h : Zpy a0 a1 = some r) : Fn PR 52 [(wL (cI .i64) a0), (wI a1)] (Zj5 r) :=
 Zb h fun y h0 h1 => FnG.of_cfg hT Go.Proofs.Tryz.func52 (by kernel_rfl : _ = some Zo6) (by kernel_rfl) 19 (by kernel_rfl) (Nat.le_of_ble_eq_true rfl) [.t 4] (by kernel_rfl) (by kernel_rfl) (Z6b r a0 a1 y h0 (Z1 (fun s y h hk => match s with
 | .L0 v0 v1 v7 v8 => Z4s r v0 v1 v7 v8 y h hk) h1))
noncomputable def Zsd : Code := (Go.Proofs.Tryz.f24.body).getD .skip
noncomputable def Zl5 (r : Bool) : PV := (wB r)
noncomputable def Zq2 (r : Bool) : List (Nat × Blk) := []
noncomputable def Z38 : Zev → Cfg := fun s => nomatch s
noncomputable def Z4t : Zev → PW.St := fun s => nomatch s
abbrev Z39 (r : Bool) (y : Zev ⊕ Bool) : Prop := Ok PR [.t 4] (Zq2) Zl5 Z38 Z4t r y
theorem Z16 (r : Bool) (a0 : (List Int)) (a1 : Int) (y : Zev ⊕ Bool) (h : Zmx a0 a1 = some y) (hk : Z39 r y) : (Cfg.code Zsd []).HH PR [.t 4] Zq2 Zl5 r ⟨9, idx 0 [(wL (cI .i64) a0), (wI a1)], []⟩ :=
 Zb h fun x1 h2 h => lR h hk ((q0.o [.call (wI x1)]).b (Z81 a0 a1 h2))
theorem Zq3 (a0 : (List Int)) (a1 : Int) {r : Bool} (h : Zh0 a0 a1 = some r) : Fn PR 24 [(wL (cI .i64) a0), (wI a1)] (Zl5 r) :=
 Zb h fun y h0 h1 => FnG.of_cfg hT Go.Proofs.Tryz.func24 (by kernel_rfl : _ = some Zsd) (by kernel_rfl) 9 (by kernel_rfl) (Nat.le_of_ble_eq_true rfl) [.t 4] (by kernel_rfl) (by kernel_rfl) (Z16 r a0 a1 y h0 (Z1 (fun s _ _ _ => nomatch s) h1))
noncomputable def Zadz : Code := (Go.Proofs.Tryz.f10.body).getD .skip
noncomputable def Zyn (r : Bool) : PV := (wB r)
noncomputable def Z82 (r : Bool) : List (Nat × Blk) := []
noncomputable def Zaje : Zlx → Cfg
 | .L0 _ _ _ _ _ _ => (nav [1, 1, 1, 0, 1, 4] Zadz []).getD (.done .normal)
noncomputable def Zanu : Zlx → PW.St
 | .L0 v1 v2 E0 E1 v20 v21 => ⟨67, [(1, (wI v1)), (2, (wI v2)), (3, (.bptr 30000000 0)), (7, (.bptr 30000001 0)), (20, (wI v20)), (21, (wI v21))], [(30000000, .box (bx (Z4 E0))), (30000001, .box (bx (Zc E1)))]⟩
abbrev Zajf (r : Bool) (y : Zlx ⊕ Bool) : Prop := Ok PR [.t 6] (Z82) Zyn Zaje Zanu r y
theorem Zax3 (r : Bool) (v1 : Int) (v2 : Int) (E0 : Zd) (E1 : Zf) (v20 : Int) (v21 : Int) (y : Zlx ⊕ Bool) (h : Zp6 v1 v2 E0 E1 v20 v21 = some y) (hk : Zajf r y) : (Zaje (.L0 v1 v2 E0 E1 v20 v21)).HH PR [.t 6] Z82 Zyn r (Zanu (.L0 v1 v2 E0 E1 v20 v21)) :=
 Za h (fun h1 h => have q := (q0.t 1 h1).b (Zq Zg 14 (fun _ => rfl) E0.Players);
 Zb h fun x2 h3 h => have q := ((q.o [.cs (Zg x2)]).b (Z2 h3)).b (Zv Zg h3);
 Zb h fun x4 h5 h => have q := (q.k x4).b (Zq3 x2.Library v2 h5);
 Za h (fun h6 h => lR h hk (((q.tt 7).a 6 h6).b (Eq.refl true))) (fun h6 h => have q := q.f 4 h6;
 Za h (fun h7 h => have q := ((((((q.t 4 h7).o [.cs (Zg x2)]).tt 4).b (Zq Zg 14 (fun _ => rfl) E0.Players)).b (Z2 h3)).b (Zv Zg h3)).a 4 h7;
 Zb h fun x8 h9 h => have q := ((((q.k x8).f 1 (Zq3 x2.Hand v2 h9)).t 1 h6).f 1 h7).b h6;
 Za h (fun h10 h => lR h hk (q.t 1 h10)) (fun h10 h => lG h hk ((q.f 1 h10).o [.pick [21, 1, 2, 3, 7, 20] [30000000, 30000001], .pick [1, 2, 3, 7, 20, 21] [30000000, 30000001]]))) (fun h7 h => lG h hk (((((((q.ff 12).o [.pick [21, 1, 2, 3, 7, 20] [30000000, 30000001], .pick [1, 2, 3, 7, 20, 21] [30000000, 30000001]]).a 8 h7).b h6).b h7).b h6).b (Eq.refl false))))) (fun h1 h => have q := q0.f 1 h1;
 Za h (fun h15 h => have q := q.t 4 h15;
 Za h (fun h16 h => lR h hk (((((q.tt 7).a 4 h16).b h15).b h16).b h15)) (fun h16 h => have q := q.f 3 h16;
 Za h (fun h17 h => lR h hk ((((((((((q.t 4 h17).n (E0.Players.length : Int)).t 1 (Zr Zg E0.Players)).f 1 h17).tt 2).f 1 h16).t 1 h17).b h15).b h16).b h15)) (fun h17 h => lR h hk ((((((((((q.ff 7).tt 1).ff 1).tt 1).a 5 h17).b h16).b h17).b h15).b h16).b h15)))) (fun h15 h => lR h hk (q.f 6 h15)))
theorem Za2y (r : Bool) (a0 : Zd) (a1 : Int) (a2 : Int) (y : Zlx ⊕ Bool) (h : Zabx a0 a1 a2 = some y) (hk : Zajf r y) : (Cfg.code Zadz []).HH PR [.t 6] Z82 Zyn r ⟨67, idx 0 [(.agg (bx (Z4 a0))), (wI a1), (wI a2)], []⟩ := have q := q0.o [.lab 1003];
 Zb h fun x1 h2 h => have q := (q.o [.call (.tup [(.agg (bx (Zc x1.1))), (wB x1.2)]), .lab 1007]).b (Zbft a0 a2 h2);
 Za h (fun h3 h => lR h hk (q.t 1 h3)) (fun h3 h => lG h hk (((q.f 1 h3).o [.num (a0.Players.length : Int), .pick [21, 20, 7, 3, 2, 1] [1007, 1003], .relab 1003 30000000, .relab 1007 30000001, .pick [1, 2, 3, 7, 20, 21] [30000000, 30000001]]).b (Zr Zg a0.Players)))
theorem Zz9 (a0 : Zd) (a1 : Int) (a2 : Int) {r : Bool} (h : Ztk a0 a1 a2 = some r) : Fn PR 10 [(.agg (bx (Z4 a0))), (wI a1), (wI a2)] (Zyn r) :=
 Zb h fun y h0 h1 => FnG.of_cfg hT Go.Proofs.Tryz.func10 (by kernel_rfl : _ = some Zadz) (by kernel_rfl) 67 (by kernel_rfl) (Nat.le_of_ble_eq_true rfl) [.t 6] (by kernel_rfl) (by kernel_rfl) (Za2y r a0 a1 a2 y h0 (Z1 (fun s y h hk => match s with
 | .L0 v1 v2 E0 E1 v20 v21 => Zax3 r v1 v2 E0 E1 v20 v21 y h hk) h1))
end
end Go.PW
