import Derived.Test.YtloamjgjcjandaaGreatQWc
set_option linter.all false
set_option maxRecDepth 100000
namespace Go.PW
open Go.RowKit
noncomputable section
noncomputable def Zu1 : Code := (Go.Proofs.Tryz.f81.body).getD .skip
noncomputable def Zn4 (r : Bool) : PV := (wB r)
noncomputable def Zr3 (r : Bool) : List (Nat × Blk) := []
noncomputable def Zue : Zfp → Cfg
 | .L0 _ _ => (nav [1, 1, 0, 1, 4] Zu1 []).getD (.done .normal)
 | .L1 _ _ _ => (nav [1, 1, 0, 1, 4, 5, 1, 0, 4, 1, 1, 4] Zu1 []).getD (.done .normal)
 | .L2 _ _ => (nav [1, 1, 1, 0, 1, 4] Zu1 []).getD (.done .normal)
 | .L3 _ _ => (nav [1, 1, 1, 1, 0, 1, 4] Zu1 []).getD (.done .normal)
noncomputable def Zw1 : Zfp → PW.St
 | .L0 E0 v3 => ⟨129, [(1, (.bptr 30000000 0)), (3, (wI v3))], [(30000000, .box (bx (Z4 E0)))]⟩
 | .L1 E0 v3 v4 => ⟨129, [(1, (.bptr 30000000 0)), (3, (wI v3)), (4, (wI v4))], [(30000000, .box (bx (Z4 E0)))]⟩
 | .L2 E0 v5 => ⟨129, [(1, (.bptr 30000000 0)), (5, (wI v5))], [(30000000, .box (bx (Z4 E0)))]⟩
 | .L3 E0 v7 => ⟨129, [(1, (.bptr 30000000 0)), (7, (wI v7))], [(30000000, .box (bx (Z4 E0)))]⟩
abbrev Zuf (r : Bool) (y : Zfp ⊕ Bool) : Prop := Ok PR [.t 2] (Zr3) Zn4 Zue Zw1 r y
theorem Za17 (r : Bool) (E0 : Zc) (v3 : Int) (y : Zfp ⊕ Bool) (h : Z2n E0 v3 = some y) (hk : Zuf r y) : (Zue (.L0 E0 v3)).HH PR [.t 2] Zr3 Zn4 r (Zw1 (.L0 E0 v3)) := have q := (q0.n (E0.Stack.length : Int)).b (Zt Zl E0.Stack);
 Za h (fun h2 h => have q := (q.t 1 h2).b (Zs Zl 94 (fun _ => rfl) E0.Stack);
 Zb h fun x3 h4 h => have q := ((q.o [.cs (Zl x3)]).b (Z2 h4)).b (Zz Zl h4);
 Zb h fun x5 h6 h => have q := (q.k x5).b (Zbjb E0 x3 h6);
 Za h (fun h7 h => lR h hk (q.t 1 h7)) (fun h7 h => lG h hk ((q.f 1 h7).o [.pick [4, 1, 3] [30000000], .pick [1, 3, 4] [30000000]]))) (fun h2 h => lG h hk ((q.f 1 h2).o [.pick [5, 1] [30000000], .pick [1, 5] [30000000]]))
theorem Za18 (r : Bool) (E0 : Zc) (v3 : Int) (v4 : Int) (y : Zfp ⊕ Bool) (h : Z2o E0 v3 v4 = some y) (hk : Zuf r y) : (Zue (.L1 E0 v3 v4)).HH PR [.t 2] Zr3 Zn4 r (Zw1 (.L1 E0 v3 v4)) :=
 Za h (fun h1 h => have q := (q0.t 1 h1).b (Zs Zl 94 (fun _ => rfl) E0.Stack);
 Zb h fun x2 h3 h => have q := (((q.o [.cs (Zl x2)]).b (Z2 h3)).b (Zz Zl h3)).b (Zs Zl 94 (fun _ => rfl) E0.Stack);
 Zb h fun x4 h5 h => have q := ((q.o [.cs (Zl x4)]).b (Z2 h5)).b (Zz Zl h5);
 Za h (fun h6 h => lR h hk (q.t 1 h6)) (fun h6 h => lG h hk ((q.f 1 h6).o [.pick [4, 1, 3] [30000000], .pick [1, 3, 4] [30000000]]))) (fun h1 h => lG h hk ((q0.f 1 h1).o [.pick [3, 1] [30000000], .pick [1, 3] [30000000]]))
theorem Za19 (r : Bool) (E0 : Zc) (v5 : Int) (y : Zfp ⊕ Bool) (h : Z2p E0 v5 = some y) (hk : Zuf r y) : (Zue (.L2 E0 v5)).HH PR [.t 2] Zr3 Zn4 r (Zw1 (.L2 E0 v5)) := have q := (q0.n (E0.Waiting.length : Int)).b (Zt Zm E0.Waiting);
 Za h (fun h2 h => have q := (q.t 1 h2).b (Zs Zm 89 (fun _ => rfl) E0.Waiting);
 Zb h fun x3 h4 h => have q := ((q.o [.cs (Zm x3), .lab 1006]).b (Z2 h4)).b (Zz Zm h4);
 Zb h fun x5 h6 h => have q := (q.k x5).b (Zn3 E0 x3.Control h6);
 Za h (fun h7 h => lR h hk (((q.tt 11).a 5 h7).a 6 (Eq.refl true))) (fun h7 h => have q := q.f 5 h7;
 Za h (fun h8 h => lR h hk (((q.tt 6).a 5 h8).b (Eq.refl true))) (fun h8 h => have q := q.f 3 h8;
 Zb h fun x9 h10 h => have q := (((q.k x9).ff 2).b (Zafp x3.Ability h10)).a 2 h8;
 Za h (fun h11 h => lR h hk (q.t 1 h11)) (fun h11 h => lG h hk ((q.f 1 h11).o [.pick [5, 1] [30000000], .pick [1, 5] [30000000]]))))) (fun h2 h => lG h hk ((q.f 1 h2).o [.pick [7, 1] [30000000], .pick [1, 7] [30000000]]))
theorem Za2a (r : Bool) (E0 : Zc) (v7 : Int) (y : Zfp ⊕ Bool) (h : Z2q E0 v7 = some y) (hk : Zuf r y) : (Zue (.L3 E0 v7)).HH PR [.t 2] Zr3 Zn4 r (Zw1 (.L3 E0 v7)) := have q := (q0.n (E0.Conts.length : Int)).b (Zt Zn E0.Conts);
 Za h (fun h2 h => have q := (q.t 1 h2).b (Zs Zn 6 (fun _ => rfl) E0.Conts);
 Zb h fun x3 h4 h => have q := ((q.o [.cs (Zn x3), .lab 1008]).b (Z2 h4)).b (Zz Zn h4);
 Zb h fun x5 h6 h => have q := (q.k x5).b (Zn3 E0 x3.Control h6);
 Za h (fun h7 h => lR h hk (((q.tt 22).a 6 h7).a 16 (Eq.refl true))) (fun h7 h => have q := q.f 6 h7;
 Za h (fun h8 h => lR h hk (((q.tt 16).a 5 h8).a 11 (Eq.refl true))) (fun h8 h => have q := q.f 3 h8;
 Zb h fun x9 h10 h => have q := (((q.k x9).ff 2).b (Zj4 x3.Until 1 2 h10)).a 2 h8;
 Za h (fun h11 h => lR h hk (((q.tt 11).a 5 h11).a 6 (Eq.refl true))) (fun h11 h => have q := q.f 3 h11;
 Zb h fun x12 h13 h => have q := (((q.k x12).ff 2).b (Zbnp x3.Objects h13)).a 2 h11;
 Za h (fun h14 h => lR h hk (((q.tt 6).a 5 h14).b (Eq.refl true))) (fun h14 h => have q := q.f 3 h14;
 Zb h fun x15 h16 h => have q := (((q.o [.call (wS x15)]).ff 2).b (Z29 x3.Mods h16)).a 2 h14;
 Za h (fun h17 h => lR h hk (q.t 1 h17)) (fun h17 h => lG h hk ((q.f 1 h17).o [.pick [7, 1] [30000000], .pick [1, 7] [30000000]]))))))) (fun h2 h => lR h hk (q.f 1 h2))
theorem Za51 (r : Bool) (a0 : Zc) (y : Zfp ⊕ Bool) (h : Zagp a0 = some y) (hk : Zuf r y) : (Cfg.code Zu1 []).HH PR [.t 2] Zr3 Zn4 r ⟨129, idx 0 [(.agg (bx (Z4 a0)))], []⟩ := have q := (q0.o [.lab 1001, .num (a0.Stack.length : Int)]).b (Zt Zl a0.Stack);
 Za h (fun h2 h => lR h hk (((q.tt 11).a 5 h2).a 6 (Eq.refl true))) (fun h2 h => have q := ((((q.f 3 h2).n (a0.Waiting.length : Int)).ff 2).b (Zt Zm a0.Waiting)).a 2 h2;
 Za h (fun h4 h => lR h hk (((q.tt 6).a 5 h4).b (Eq.refl true))) (fun h4 h => have q := ((((q.f 3 h4).n (a0.Conts.length : Int)).ff 2).b (Zt Zn a0.Conts)).a 2 h4;
 Za h (fun h6 h => lR h hk (q.t 1 h6)) (fun h6 h => lG h hk ((q.f 1 h6).o [.pick [3, 1] [1001], .relab 1001 30000000, .pick [1, 3] [30000000]]))))
theorem Z3t (a0 : Zc) {r : Bool} (h : Zs0 a0 = some r) : Fn PR 81 [(.agg (bx (Z4 a0)))] (Zn4 r) :=
 Zb h fun y h0 h1 => FnG.of_cfg hT Go.Proofs.Tryz.func81 (by kernel_rfl : _ = some Zu1) (by kernel_rfl) 129 (by kernel_rfl) (Nat.le_of_ble_eq_true rfl) [.t 2] (by kernel_rfl) (by kernel_rfl) (Za51 r a0 y h0 (Z0 (fun s y h hk => match s with
 | .L0 E0 v3 => Za17 r E0 v3 y h hk
 | .L1 E0 v3 v4 => Za18 r E0 v3 v4 y h hk
 | .L2 E0 v5 => Za19 r E0 v5 y h hk
 | .L3 E0 v7 => Za2a r E0 v7 y h hk) h1))
noncomputable def Zaxo : Code := (Go.Proofs.Tryz.f50.body).getD .skip
noncomputable def Zaam (r : Bool) : PV := (wB r)
noncomputable def Zaqx (r : Bool) : List (Nat × Blk) := []
noncomputable def Za2b : Zmr → Cfg
 | .L0 _ _ _ => (nav [1, 1, 1, 0, 1, 4] Zaxo []).getD (.done .normal)
noncomputable def Za7m : Zmr → PW.St
 | .L0 v0 E0 v5 => ⟨114, [(0, (wL Z8 v0)), (3, (.bptr 30000000 0)), (5, (wI v5))], [(30000000, .box (bx (Z4 E0)))]⟩
abbrev Za2c (r : Bool) (y : Zmr ⊕ Bool) : Prop := Ok PR [.t 4] (Zaqx) Zaam Za2b Za7m r y
theorem Zbe9 (r : Bool) (v0 : (List Zu)) (E0 : Zc) (v5 : Int) (y : Zmr ⊕ Bool) (h : Z1p v0 E0 v5 = some y) (hk : Za2c r y) : (Za2b (.L0 v0 E0 v5)).HH PR [.t 4] Zaqx Zaam r (Za7m (.L0 v0 E0 v5)) := have q := (q0.n (E0.Extra.length : Int)).b (Zt (cI .i64) E0.Extra);
 Za h (fun h2 h => have q := (q.t 1 h2).b (Zs (cI .i64) 1 (fun _ => rfl) E0.Extra);
 Zb h fun x3 h4 h => have q := ((q.o [.cs ((cI .i64) x3)]).b (Z2 h4)).b (Zz (cI .i64) h4);
 Zb h fun x5 h6 h => have q := (q.k x5).b (Zn3 E0 x3 h6);
 Za h (fun h7 h => lR h hk (q.t 1 h7)) (fun h7 h => lG h hk ((q.f 1 h7).o [.pick [5, 0, 3] [30000000], .pick [0, 3, 5] [30000000]]))) (fun h2 h => have q := q.f 1 h2;
 Za h (fun h10 h => have q := q.t 4 h10;
 Zb h fun x11 h12 h => have q := (((q.k x11).tt 2).b (Zn3 E0 E0.Winner h12)).a 2 h10;
 Za h (fun h13 h => lR h hk (((q.tt 7).a 6 h13).b (Eq.refl true))) (fun h13 h => have q := q.f 4 h13;
 Za h (fun h14 h => have q := (((q.t 3 h14).f 1 h13).t 1 h14).f 1 h13;
 Za h (fun h15 h => lR h hk (q.t 1 h15)) (fun h15 h => have q := q.f 1 h15;
 Zb h fun x16 h17 h => have q := (q.k x16).b (Zyd v0 E0 h17);
 Za h (fun h18 h => Zb h fun x19 h20 h => lR h hk ((((q.t 2 h18).k x19).t 1 (Z3t E0 h20)).b h18)) (fun h18 h => lR h hk (q.f 3 h18)))) (fun h14 h => have q := (((((q.ff 7).a 3 h14).b h13).b h14).b h13).b (Eq.refl false);
 Zb h fun x21 h22 h => have q := (q.k x21).b (Zyd v0 E0 h22);
 Za h (fun h23 h => Zb h fun x24 h25 h => lR h hk ((((q.t 2 h23).k x24).t 1 (Z3t E0 h25)).b h23)) (fun h23 h => lR h hk (q.f 3 h23))))) (fun h10 h => have q := ((q.ff 10).a 6 h10).a 4 (Eq.refl false);
 Za h (fun h26 h => have q := (((q.t 3 h26).f 1 (Eq.refl false)).t 1 h26).f 1 (Eq.refl false);
 Za h (fun h27 h => lR h hk (q.t 1 h27)) (fun h27 h => have q := q.f 1 h27;
 Zb h fun x28 h29 h => have q := (q.k x28).b (Zyd v0 E0 h29);
 Za h (fun h30 h => Zb h fun x31 h32 h => lR h hk ((((q.t 2 h30).k x31).t 1 (Z3t E0 h32)).b h30)) (fun h30 h => lR h hk (q.f 3 h30)))) (fun h26 h => have q := ((((q.ff 7).a 3 h26).b (Eq.refl false)).b h26).a 2 (Eq.refl false);
 Zb h fun x33 h34 h => have q := (q.k x33).b (Zyd v0 E0 h34);
 Za h (fun h35 h => Zb h fun x36 h37 h => lR h hk ((((q.t 2 h35).k x36).t 1 (Z3t E0 h37)).b h35)) (fun h35 h => lR h hk (q.f 3 h35)))))
theorem Zbjd (r : Bool) (a0 : (List Zu)) (a1 : Zc) (y : Zmr ⊕ Bool) (h : Zakr a0 a1 = some y) (hk : Za2c r y) : (Cfg.code Zaxo []).HH PR [.t 4] Zaqx Zaam r ⟨114, idx 0 [(wL Z8 a0), (.agg (bx (Z4 a1)))], []⟩ := have q := q0.o [.lab 1003];
 Zb h fun x1 h2 h => have q := (q.k x1).b (Zj4 a1.NextId 1 1000000 h2);
 Za h (fun h3 h => lR h hk (((q.tt 21).a 5 h3).a 16 (Eq.refl true))) (fun h3 h => have q := q.f 3 h3;
 Zb h fun x4 h5 h => have q := (((q.k x4).ff 2).b (Zj4 a1.NextStamp 1 1000000 h5)).a 2 h3;
 Za h (fun h6 h => lR h hk (((q.tt 16).a 5 h6).a 11 (Eq.refl true))) (fun h6 h => have q := q.f 3 h6;
 Zb h fun x7 h8 h => have q := (((q.k x7).ff 2).b (Zj4 a1.Turn 0 500 h8)).a 2 h6;
 Za h (fun h9 h => lR h hk (((q.tt 11).a 5 h9).a 6 (Eq.refl true))) (fun h9 h => have q := q.f 3 h9;
 Zb h fun x10 h11 h => have q := (((q.k x10).ff 2).b (Zj4 a1.Step 0 10 h11)).a 2 h9;
 Za h (fun h12 h => lR h hk (((q.tt 6).a 5 h12).b (Eq.refl true))) (fun h12 h => have q := ((((q.f 3 h12).n (a1.Objects.length : Int)).ff 2).b (Zt Zd a1.Objects)).a 2 h12;
 Za h (fun h14 h => lR h hk (q.t 1 h14)) (fun h14 h => have q := q.f 1 h14;
 Zb h fun x15 h16 h => have q := (q.k x15).b (Za5u a1 h16);
 Za h (fun h17 h => lR h hk (((q.tt 31).a 6 h17).a 25 (Eq.refl true))) (fun h17 h => have q := q.f 4 h17;
 Zb h fun x18 h19 h => have q := (((q.k x18).ff 2).b (Zn3 a1 a1.Active h19)).a 2 h17;
 Za h (fun h20 h => lR h hk (((q.tt 25).a 6 h20).a 19 (Eq.refl true))) (fun h20 h => have q := q.f 4 h20;
 Zb h fun x21 h22 h => have q := (((q.k x21).ff 2).b (Zn3 a1 a1.Priority h22)).a 2 h20;
 Za h (fun h23 h => lR h hk (((q.tt 19).a 8 h23).a 11 (Eq.refl true))) (fun h23 h => have q := (((q.f 5 h23).n (a1.Players.length : Int)).f 1 (Zt Zh a1.Players)).b h23;
 Zb h fun x25 h26 h => have q := (((q.k x25).ff 2).b (Zj4 a1.Passes 0 (a1.Players.length : Int) h26)).a 2 h23;
 Za h (fun h27 h => lR h hk (((q.tt 11).a 5 h27).a 6 (Eq.refl true))) (fun h27 h => have q := ((((q.f 3 h27).n (a1.Extra.length : Int)).ff 2).b (Zt (cI .i64) a1.Extra)).a 2 h27;
 Za h (fun h29 h => lR h hk (((q.tt 6).a 5 h29).b (Eq.refl true))) (fun h29 h => have q := q.f 3 h29;
 Zb h fun x30 h31 h => have q := (((q.k x30).ff 2).b (Zj4 a1.Over 0 2 h31)).a 2 h29;
 Za h (fun h32 h => lR h hk (q.t 1 h32)) (fun h32 h => lG h hk ((q.f 1 h32).o [.pick [5, 3, 0] [1003], .relab 1003 30000000, .pick [0, 3, 5] [30000000]]))))))))))))
theorem Zbnq (a0 : (List Zu)) (a1 : Zc) {r : Bool} (h : Z7e a0 a1 = some r) : Fn PR 50 [(wL Z8 a0), (.agg (bx (Z4 a1)))] (Zaam r) :=
 Zb h fun y h0 h1 => FnG.of_cfg hT Go.Proofs.Tryz.func50 (by kernel_rfl : _ = some Zaxo) (by kernel_rfl) 114 (by kernel_rfl) (Nat.le_of_ble_eq_true rfl) [.t 4] (by kernel_rfl) (by kernel_rfl) (Zbjd r a0 a1 y h0 (Z0 (fun s y h hk => match s with
 | .L0 v0 E0 v5 => Zbe9 r v0 E0 v5 y h hk) h1))
noncomputable def Zahq : Code := (Go.Proofs.Tryz.f20.body).getD .skip
noncomputable def Zzz (r : Bool) : PV := (wB r)
noncomputable def Zadr (r : Bool) : List (Nat × Blk) := []
noncomputable def Zanb : Zkm → Cfg
 | .L0 _ _ _ => (nav [1, 1, 0, 1, 4] Zahq []).getD (.done .normal)
noncomputable def Zaqy : Zkm → PW.St
 | .L0 v0 E0 v5 => ⟨102, [(0, (wL Z8 v0)), (3, (.bptr 30000000 0)), (5, (wI v5))], [(30000000, .box (bx (Z4 E0)))]⟩
abbrev Zanc (r : Bool) (y : Zkm ⊕ Bool) : Prop := Ok PR [.t 4] (Zadr) Zzz Zanb Zaqy r y
theorem Za2d (r : Bool) (v0 : (List Zu)) (E0 : Zc) (v5 : Int) (y : Zkm ⊕ Bool) (h : Zro v0 E0 v5 = some y) (hk : Zanc r y) : (Zanb (.L0 v0 E0 v5)).HH PR [.t 4] Zadr Zzz r (Zaqy (.L0 v0 E0 v5)) := have q := (q0.n (E0.Players.length : Int)).b (Zt Zh E0.Players);
 Za h (fun h2 h => have q := (q.t 1 h2).b (Zs Zh 14 (fun _ => rfl) E0.Players);
 Zb h fun x3 h4 h => have q := (((((((((((q.o [.cs (Zh x3), .num (x3.Library.length : Int), .cs (Zh x3), .num (x3.Hand.length : Int), .cs (Zh x3), .num (x3.Graveyard.length : Int)]).b (Z2 h4)).b (Zz Zh h4)).b (Zt (cI .i64) x3.Library)).b (Zs Zh 14 (fun _ => rfl) E0.Players)).b (Z2 h4)).b (Zz Zh h4)).b (Zt (cI .i64) x3.Hand)).b (Zs Zh 14 (fun _ => rfl) E0.Players)).b (Z2 h4)).b (Zz Zh h4)).b (Zt (cI .i64) x3.Graveyard);
 Za h (fun h12 h => lR h hk (q.t 1 h12)) (fun h12 h => lG h hk ((q.f 1 h12).o [.pick [5, 0, 3] [30000000], .pick [0, 3, 5] [30000000]]))) (fun h2 h => have q := q.f 1 h2;
 Zb h fun x15 h16 h => have q := (q.o [.call (.tup [(wI x15.1), (wI x15.2)])]).b (Zben v0 h16);
 Za h (fun h17 h => Zb h fun x18 h19 h => lR h hk ((((q.t 3 h17).k x18).t 1 (Zbnq v0 E0 h19)).b h17)) (fun h17 h => lR h hk (q.f 4 h17)))
theorem Za52 (r : Bool) (a0 : (List Zu)) (a1 : Zc) (y : Zkm ⊕ Bool) (h : Z6r a0 a1 = some y) (hk : Zanc r y) : (Cfg.code Zahq []).HH PR [.t 4] Zadr Zzz r ⟨102, idx 0 [(wL Z8 a0), (.agg (bx (Z4 a1)))], []⟩ := have q := (q0.o [.lab 1003, .num (a0.length : Int)]).b (Zt Z8 a0);
 Za h (fun h2 h => lR h hk (((q.tt 41).a 5 h2).a 36 (Eq.refl true))) (fun h2 h => have q := ((((q.f 3 h2).n (a1.Players.length : Int)).ff 2).b (Zt Zh a1.Players)).a 2 h2;
 Za h (fun h4 h => lR h hk (((q.tt 36).a 5 h4).a 31 (Eq.refl true))) (fun h4 h => have q := ((((q.f 3 h4).n (a1.Objects.length : Int)).ff 2).b (Zt Zd a1.Objects)).a 2 h4;
 Za h (fun h6 h => lR h hk (((q.tt 31).a 5 h6).a 26 (Eq.refl true))) (fun h6 h => have q := ((((q.f 3 h6).n (a1.Battlefield.length : Int)).ff 2).b (Zt (cI .i64) a1.Battlefield)).a 2 h6;
 Za h (fun h8 h => lR h hk (((q.tt 26).a 5 h8).a 21 (Eq.refl true))) (fun h8 h => have q := ((((q.f 3 h8).n (a1.Exile.length : Int)).ff 2).b (Zt (cI .i64) a1.Exile)).a 2 h8;
 Za h (fun h10 h => lR h hk (((q.tt 21).a 5 h10).a 16 (Eq.refl true))) (fun h10 h => have q := ((((q.f 3 h10).n (a1.Stack.length : Int)).ff 2).b (Zt Zl a1.Stack)).a 2 h10;
 Za h (fun h12 h => lR h hk (((q.tt 16).a 5 h12).a 11 (Eq.refl true))) (fun h12 h => have q := ((((q.f 3 h12).n (a1.Waiting.length : Int)).ff 2).b (Zt Zm a1.Waiting)).a 2 h12;
 Za h (fun h14 h => lR h hk (((q.tt 11).a 5 h14).a 6 (Eq.refl true))) (fun h14 h => have q := ((((q.f 3 h14).n (a1.Conts.length : Int)).ff 2).b (Zt Zn a1.Conts)).a 2 h14;
 Za h (fun h16 h => lR h hk (((q.tt 6).a 5 h16).b (Eq.refl true))) (fun h16 h => have q := ((((q.f 3 h16).n (a1.Extra.length : Int)).ff 2).b (Zt (cI .i64) a1.Extra)).a 2 h16;
 Za h (fun h18 h => lR h hk (q.t 1 h18)) (fun h18 h => lG h hk ((q.f 1 h18).o [.pick [5, 3, 0] [1003], .relab 1003 30000000, .pick [0, 3, 5] [30000000]]))))))))))
theorem Zbfa (a0 : (List Zu)) (a1 : Zc) {r : Bool} (h : Z7f a0 a1 = some r) : Fn PR 20 [(wL Z8 a0), (.agg (bx (Z4 a1)))] (Zzz r) :=
 Zb h fun y h0 h1 => FnG.of_cfg hT Go.Proofs.Tryz.func20 (by kernel_rfl : _ = some Zahq) (by kernel_rfl) 102 (by kernel_rfl) (Nat.le_of_ble_eq_true rfl) [.t 4] (by kernel_rfl) (by kernel_rfl) (Za52 r a0 a1 y h0 (Z0 (fun s y h hk => match s with
 | .L0 v0 E0 v5 => Za2d r v0 E0 v5 y h hk) h1))
noncomputable def Za7n : Code := (Go.Proofs.Tryz.f8.body).getD .skip
noncomputable def Zahr (r : Bool) : PV := (wB r)
noncomputable def Za2e (r : Bool) : List (Nat × Blk) := []
noncomputable def Zbje : Zqc → Cfg := fun s => nomatch s
noncomputable def Zbll : Zqc → PW.St := fun s => nomatch s
abbrev Zbjf (r : Bool) (y : Zqc ⊕ Bool) : Prop := Ok PR [.t 2] (Za2e) Zahr Zbje Zbll r y
theorem Zbfb (r : Bool) (a0 : Zan) (y : Zqc ⊕ Bool) (h : Zae5 a0 = some y) (hk : Zbjf r y) : (Cfg.code Za7n []).HH PR [.t 2] Za2e Zahr r ⟨15, idx 0 [(.agg (bx (Zge a0)))], []⟩ := have q := q0.o [.lab 1001];
 Zb h fun x1 h2 h => have q := (q.k x1).b (Zbfa a0.Cards a0.State h2);
 Za h (fun h3 h => lR h hk (((((q.t 4 h3).n (a0.Pending.Options.length : Int)).tt 2).b (Zt Z1 a0.Pending.Options)).a 2 h3)) (fun h3 h => lR h hk (q.f 6 h3))
theorem Zblm (a0 : Zan) {r : Bool} (h : Zaar a0 = some r) : Fn PR 8 [(.agg (bx (Zge a0)))] (Zahr r) :=
 Zb h fun y h0 h1 => FnG.of_cfg hT Go.Proofs.Tryz.func8 (by kernel_rfl : _ = some Za7n) (by kernel_rfl) 15 (by kernel_rfl) (Nat.le_of_ble_eq_true rfl) [.t 2] (by kernel_rfl) (by kernel_rfl) (Zbfb r a0 y h0 (Z0 (fun s _ _ _ => nomatch s) h1))
noncomputable def Zahs : Code := (Go.Proofs.Tryz.f21.body).getD .skip
noncomputable def Zz0 (r : Zan) : PV := (.agg ([(wL Z8 r.Cards), (wL Zh r.State.Players), (.osl 5002 (List.map Zd r.State.Objects).length), (.osl 5003 (List.map (cI .i64) r.State.Battlefield).length), (.osl 5004 (List.map (cI .i64) r.State.Exile).length), (.osl 5005 (List.map Zl r.State.Stack).length), (.osl 5006 (List.map Zm r.State.Waiting).length), (.osl 5007 (List.map Zn r.State.Conts).length), (wI r.State.Turn), (wI r.State.Active), (wI r.State.Step), (wB r.State.Begun), (wI r.State.Priority), (wI r.State.Passes), (wI r.State.NextId), (wI r.State.NextStamp), (.t (.int .u64 r.State.Seed)), (.osl 5017 (List.map (cI .i64) r.State.Extra).length), (wI r.State.Over), (wI r.State.Winner), (wL (cL (cI .i64)) r.Answers)] ++ (bx (Zlg r.Pending) ++ ([(wI r.Forced), (wL Z4 r.Seen)]))))
noncomputable def Z3u (r : Zan) : List (Nat × Blk) := [(5002, .row 19 (List.map Zd r.State.Objects)), (5003, .row 1 (List.map (cI .i64) r.State.Battlefield)), (5004, .row 1 (List.map (cI .i64) r.State.Exile)), (5005, .row 94 (List.map Zl r.State.Stack)), (5006, .row 89 (List.map Zm r.State.Waiting)), (5007, .row 6 (List.map Zn r.State.Conts)), (5017, .row 1 (List.map (cI .i64) r.State.Extra))]
noncomputable def Zand : Znc → Cfg
 | .L0 _ _ _ _ => (nav [1, 1, 1, 0, 1, 4] Zahs []).getD (.done .normal)
noncomputable def Zaqz : Znc → PW.St
 | .L0 E0 E1 v2 v3 => ⟨40, [(0, (.bptr 30000000 0)), (1, (.bptr 30000001 0)), (2, (wL (cI .i64) v2)), (3, (wI v3))], [(30000000, .box [(.osl 40000000 (List.map Z8 E0.Cards).length), (.osl 40000001 (List.map Zh E0.State.Players).length), (.osl 40000002 (List.map Zd E0.State.Objects).length), (.osl 40000003 (List.map (cI .i64) E0.State.Battlefield).length), (.osl 40000004 (List.map (cI .i64) E0.State.Exile).length), (.osl 40000005 (List.map Zl E0.State.Stack).length), (.osl 40000006 (List.map Zm E0.State.Waiting).length), (.osl 40000007 (List.map Zn E0.State.Conts).length), (wI E0.State.Turn), (wI E0.State.Active), (wI E0.State.Step), (wB E0.State.Begun), (wI E0.State.Priority), (wI E0.State.Passes), (wI E0.State.NextId), (wI E0.State.NextStamp), (.t (.int .u64 E0.State.Seed)), (.osl 40000017 (List.map (cI .i64) E0.State.Extra).length), (wI E0.State.Over), (wI E0.State.Winner), (.osl 40000020 (List.map (cL (cI .i64)) E0.Answers).length), (wI E0.Pending.Kind), (wI E0.Pending.Player), (wI E0.Pending.Source), (wI E0.Pending.Least), (wI E0.Pending.Most), (wI E0.Pending.N), (.osl 40000027 (List.map Z1 E0.Pending.Options).length), (wI E0.Forced), (.osl 40000029 (List.map Z4 E0.Seen).length)]), (40000000, .row 17 (List.map Z8 E0.Cards)), (40000001, .row 14 (List.map Zh E0.State.Players)), (40000002, .row 19 (List.map Zd E0.State.Objects)), (40000003, .row 1 (List.map (cI .i64) E0.State.Battlefield)), (40000004, .row 1 (List.map (cI .i64) E0.State.Exile)), (40000005, .row 94 (List.map Zl E0.State.Stack)), (40000006, .row 89 (List.map Zm E0.State.Waiting)), (40000007, .row 6 (List.map Zn E0.State.Conts)), (40000017, .row 1 (List.map (cI .i64) E0.State.Extra)), (40000020, .row 1 (List.map (cL (cI .i64)) E0.Answers)), (40000027, .row 3 (List.map Z1 E0.Pending.Options)), (40000029, .row 19 (List.map Z4 E0.Seen)), (30000001, .box [(wL Zh E1.Players), (.osl 40000101 (List.map Zd E1.Objects).length), (.osl 40000102 (List.map (cI .i64) E1.Battlefield).length), (.osl 40000103 (List.map (cI .i64) E1.Exile).length), (.osl 40000104 (List.map Zl E1.Stack).length), (.osl 40000105 (List.map Zm E1.Waiting).length), (.osl 40000106 (List.map Zn E1.Conts).length), (wI E1.Turn), (wI E1.Active), (wI E1.Step), (wB E1.Begun), (wI E1.Priority), (wI E1.Passes), (wI E1.NextId), (wI E1.NextStamp), (.t (.int .u64 E1.Seed)), (.osl 40000116 (List.map (cI .i64) E1.Extra).length), (wI E1.Over), (wI E1.Winner)]), (40000101, .row 19 (List.map Zd E1.Objects)), (40000102, .row 1 (List.map (cI .i64) E1.Battlefield)), (40000103, .row 1 (List.map (cI .i64) E1.Exile)), (40000104, .row 94 (List.map Zl E1.Stack)), (40000105, .row 89 (List.map Zm E1.Waiting)), (40000106, .row 6 (List.map Zn E1.Conts)), (40000116, .row 1 (List.map (cI .i64) E1.Extra))]⟩
abbrev Zane (r : Zan) (y : Znc ⊕ Zan) : Prop := Ok PR [.c 0 38 true 30] (Z3u) Zz0 Zand Zaqz r y
theorem Za2f (r : Zan) (E0 : Zan) (E1 : Zc) (v2 : (List Int)) (v3 : Int) (y : Znc ⊕ Zan) (h : Zaov E0 E1 v2 v3 = some y) (hk : Zane r y) : (Zand (.L0 E0 E1 v2 v3)).HH PR [.c 0 38 true 30] Z3u Zz0 r (Zaqz (.L0 E0 E1 v2 v3)) :=
 Za h (fun h1 h => Zb h fun x4 h5 h => Zb h fun x7 h8 h => lG h hk (((((((((((q0.t 1 h1).o [.cs ((cI .i64) x4), .lit, .es (List.map Zd x7), .pick [3, 0, 1, 2] [30000001, 40000101, 30000000, 40000000, 40000001, 40000002, 40000003, 40000004, 40000005, 40000006, 40000007, 40000017, 40000020, 40000027, 40000029, 40000102, 40000103, 40000104, 40000105, 40000106, 40000116], .pick [0, 1, 2, 3] [30000000, 40000000, 40000001, 40000002, 40000003, 40000004, 40000005, 40000006, 40000007, 40000017, 40000020, 40000027, 40000029, 30000001, 40000101, 40000102, 40000103, 40000104, 40000105, 40000106, 40000116]]).a 2 (show (2 : Int) ≠ 0 by decide)).b (Zs (cI .i64) 1 (fun _ => rfl) v2)).b (Z2 h5)).b (Zz (cI .i64) h5)).b (Eq.refl (List.map Zd E1.Objects).length)).b (Zdw Zd h8)).b (Zs Zd 19 (fun _ => rfl) [(⟨IntKind.wrap .i64 (v3 + 1), 0, Int.tmod v3 2, Int.tmod v3 2, x4, false, false, false, false, 0, (⟨0, 0, 0⟩ : (A3 Int)), 0, (-1), (-1), false, 0, 0⟩ : Zf)])).b (Zdx Zd h8)).b (Zca Zd h8))) (fun h1 h => lO h hk [5002, 5003, 5004, 5005, 5006, 5007, 5017] ((q0.f 1 h1).o [.lit, .lit, .relab 40000101 5002, .relab 40000102 5003, .relab 40000103 5004, .relab 40000104 5005, .relab 40000105 5006, .relab 40000106 5007, .relab 40000116 5017, .niltb 30000000 20, .niltb 30000000 29]))
theorem Za53 (r : Zan) (y : Znc ⊕ Zan) (h : Zagq = some y) (hk : Zane r y) : (Cfg.code Zahs []).HH PR [.c 0 38 true 30] Z3u Zz0 r ⟨40, idx 0 [], []⟩ :=
 lG h hk (q0.o [.lab 1000, .lit, .lit, .lit, .lit, .lab 1001, .lit, .pick [3, 2, 1, 0] [1001, 1000], .relab 1000 30000000, .relab 1001 30000001, .ownb 30000000 0 40000000 17, .ownb 30000000 1 40000001 14, .ownb 30000000 2 40000002 19, .ownb 30000000 3 40000003 1, .ownb 30000000 4 40000004 1, .ownb 30000000 5 40000005 94, .ownb 30000000 6 40000006 89, .ownb 30000000 7 40000007 6, .ownb 30000000 17 40000017 1, .ownb 30000000 20 40000020 1, .ownb 30000000 27 40000027 3, .ownb 30000000 29 40000029 19, .ownb 30000001 1 40000101 19, .ownb 30000001 2 40000102 1, .ownb 30000001 3 40000103 1, .ownb 30000001 4 40000104 94, .ownb 30000001 5 40000105 89, .ownb 30000001 6 40000106 6, .ownb 30000001 16 40000116 1, .pick [0, 1, 2, 3] [30000000, 40000000, 40000001, 40000002, 40000003, 40000004, 40000005, 40000006, 40000007, 40000017, 40000020, 40000027, 40000029, 30000001, 40000101, 40000102, 40000103, 40000104, 40000105, 40000106, 40000116]])
theorem Zbaj {r : Zan} (h : Z7g = some r) : FnG PR 21 [] [] ((Z3u) r) (Zz0 r) :=
 Zb h fun y h0 h1 => FnG.of_cfg hT Go.Proofs.Tryz.func21 (by kernel_rfl : _ = some Zahs) (by kernel_rfl) 40 (by kernel_rfl) (Nat.le_of_ble_eq_true rfl) [.c 0 38 true 30] (by kernel_rfl) (by kernel_rfl) (Za53 r y h0 (Z0 (fun s y h hk => match s with
 | .L0 E0 E1 v2 v3 => Za2f r E0 E1 v2 v3 y h hk) h1))
theorem Zbfc {r : Zan} (h : Z7g = some r) : Fn PR 21 [] (.agg (bx (Zge r))) :=
 FnG.frozen (Zbaj h) (And.intro (Eq.refl (List.map Zd r.State.Objects).length) (And.intro (Eq.refl (List.map (cI .i64) r.State.Battlefield).length) (And.intro (Eq.refl (List.map (cI .i64) r.State.Exile).length) (And.intro (Eq.refl (List.map Zl r.State.Stack).length) (And.intro (Eq.refl (List.map Zm r.State.Waiting).length) (And.intro (Eq.refl (List.map Zn r.State.Conts).length) (And.intro (Eq.refl (List.map (cI .i64) r.State.Extra).length) trivial))))))) (by kernel_rfl)
noncomputable def Zc3 : Code := (Go.Proofs.Tryz.f59.body).getD .skip
noncomputable def Zdr (r : (List Zaa)) : PV := (.osl 5000 (List.map Zh r).length)
noncomputable def Zd4 (r : (List Zaa)) : List (Nat × Blk) := [(5000, .row 14 (List.map Zh r))]
noncomputable def Zsm : Zbg → Cfg := fun s => nomatch s
noncomputable def Ztn : Zbg → PW.St := fun s => nomatch s
abbrev Zhh (r : (List Zaa)) (y : Zbg ⊕ (List Zaa)) : Prop := Ok PR [.t 2] (Zd4) Zdr Zsm Ztn r y
theorem Zr4 (r : (List Zaa)) (a0 : (List Zaa)) (hne : a0 ≠ []) (y : Zbg ⊕ (List Zaa)) (h : Zec a0 = some y) (hk : Zhh r y) : (Cfg.code Zc3 []).HH PR [.t 2] Zd4 Zdr r ⟨8, idx 0 [(wL Zh a0)], []⟩ :=
 Zb h fun x1 h2 h => lO h hk [5000] ((((((((q0.f 1 (Zv8 Zh hne)).o [.lab 1005, .es (List.map Zh x1), .relab 1005 5000]).b (Eq.refl false)).b (Eq.refl (List.map Zh ([] : (List Zaa))).length)).b (Zdw Zh h2)).b (Zs Zh 14 (fun _ => rfl) a0)).b (Zdx Zh h2)).b (Zca Zh h2))
theorem Zq2 (r : (List Zaa)) (c : Nat) (y : Zbg ⊕ (List Zaa)) (h : Zec [] = some y) (hk : Zhh r y) : (Cfg.code Zc3 []).HH PR [.t 2] Zd4 Zdr r ⟨8, idx 0 [(.t (.con (.slice none 0 c)))], []⟩ :=
 Zb h fun x1 h2 h => by
 cases Zv9 h2
 exact Zfv hm hT (r' := ([] : (List Zaa))) h hk 400 [.br true, .own 2 5000 14] [5000] (And.intro (Eq.refl true) trivial) (by kernel_rfl)
theorem Zq3 (r : (List Zaa)) (c : Nat) (ad : Addr) (y : Zbg ⊕ (List Zaa)) (h : Zec [] = some y) (hk : Zhh r y) : (Cfg.code Zc3 []).HH PR [.t 2] Zd4 Zdr r ⟨8, idx 0 [(.t (.con (.slice (some ad) 0 c)))], []⟩ :=
 Zb h fun x1 h2 h =>
 Zfv hm hT (r' := x1) h hk 400 [.br false, .lab 1005, .es (List.map Zh x1), .relab 1005 5000] [5000] (And.intro (Eq.refl false) (And.intro (Eq.refl (List.map Zh ([] : (List Zaa))).length) (And.intro (Zdw Zh h2) (And.intro (Zs Zh 14 (fun _ => rfl) ([] : (List Zaa))) (And.intro (Zdx Zh h2) (And.intro (Zca Zh h2) trivial)))))) (by kernel_rfl)
theorem Zsn (a0 : (List Zaa)) {r : (List Zaa)} (h : Zfy a0 = some r) : FnG PR 59 [] [(wL Zh a0)] ((Zd4) r) (Zdr r) :=
 Zb h fun y h0 h1 => FnG.split0 (fun hne => FnG.of_cfg hT Go.Proofs.Tryz.func59 (by kernel_rfl : _ = some Zc3) (by kernel_rfl) 8 (by kernel_rfl) (Nat.le_of_ble_eq_true rfl) [.t 2] (by kernel_rfl) (by kernel_rfl) (Zr4 r a0 (fun e => hne (by rw [e]; rfl)) y h0 (Z0 (fun s _ _ _ => nomatch s) h1)))
 (fun he a c => by
 have ha : a0 = [] := by simpa using he
 subst ha
 cases a with
 | none => exact FnG.of_cfg hT Go.Proofs.Tryz.func59 (by kernel_rfl : _ = some Zc3) (by kernel_rfl) 8 (by kernel_rfl) (Nat.le_of_ble_eq_true rfl) [.t 2] (by kernel_rfl) (by kernel_rfl) (Zq2 r c y h0 (Z0 (fun s _ _ _ => nomatch s) h1))
 | some ad => exact FnG.of_cfg hT Go.Proofs.Tryz.func59 (by kernel_rfl : _ = some Zc3) (by kernel_rfl) 8 (by kernel_rfl) (Nat.le_of_ble_eq_true rfl) [.t 2] (by kernel_rfl) (by kernel_rfl) (Zq3 r c ad y h0 (Z0 (fun s _ _ _ => nomatch s) h1)))
noncomputable def Zgp : Code := (Go.Proofs.Tryz.f62.body).getD .skip
noncomputable def Zhm (r : (List Int)) : PV := (.osl 5000 (List.map (cI .i64) r).length)
noncomputable def Zh3 (r : (List Int)) : List (Nat × Blk) := [(5000, .row 1 (List.map (cI .i64) r))]
noncomputable def Z7o : Zdn → Cfg := fun s => nomatch s
noncomputable def Z8p : Zdn → PW.St := fun s => nomatch s
abbrev Znq (r : (List Int)) (y : Zdn ⊕ (List Int)) : Prop := Ok PR [.t 2] (Zh3) Zhm Z7o Z8p r y
theorem Z5x (r : (List Int)) (a0 : (List Int)) (hne : a0 ≠ []) (y : Zdn ⊕ (List Int)) (h : Zis a0 = some y) (hk : Znq r y) : (Cfg.code Zgp []).HH PR [.t 2] Zh3 Zhm r ⟨8, idx 0 [(wL (cI .i64) a0)], []⟩ :=
 Zb h fun x1 h2 h => lO h hk [5000] ((((((((q0.f 1 (Zv8 (cI .i64) hne)).o [.lab 1005, .es (List.map (cI .i64) x1), .relab 1005 5000]).b (Eq.refl false)).b (Eq.refl (List.map (cI .i64) ([] : (List Int))).length)).b (Zdw (cI .i64) h2)).b (Zs (cI .i64) 1 (fun _ => rfl) a0)).b (Zdx (cI .i64) h2)).b (Zca (cI .i64) h2))
theorem Z4g (r : (List Int)) (c : Nat) (y : Zdn ⊕ (List Int)) (h : Zis [] = some y) (hk : Znq r y) : (Cfg.code Zgp []).HH PR [.t 2] Zh3 Zhm r ⟨8, idx 0 [(.t (.con (.slice none 0 c)))], []⟩ :=
 Zb h fun x1 h2 h => by
 cases Zv9 h2
 exact Zfv hm hT (r' := ([] : (List Int))) h hk 400 [.br true, .own 2 5000 1] [5000] (And.intro (Eq.refl true) trivial) (by kernel_rfl)
theorem Z4h (r : (List Int)) (c : Nat) (ad : Addr) (y : Zdn ⊕ (List Int)) (h : Zis [] = some y) (hk : Znq r y) : (Cfg.code Zgp []).HH PR [.t 2] Zh3 Zhm r ⟨8, idx 0 [(.t (.con (.slice (some ad) 0 c)))], []⟩ :=
 Zb h fun x1 h2 h =>
 Zfv hm hT (r' := x1) h hk 400 [.br false, .lab 1005, .es (List.map (cI .i64) x1), .relab 1005 5000] [5000] (And.intro (Eq.refl false) (And.intro (Eq.refl (List.map (cI .i64) ([] : (List Int))).length) (And.intro (Zdw (cI .i64) h2) (And.intro (Zs (cI .i64) 1 (fun _ => rfl) ([] : (List Int))) (And.intro (Zdx (cI .i64) h2) (And.intro (Zca (cI .i64) h2) trivial)))))) (by kernel_rfl)
theorem Ze7 (a0 : (List Int)) {r : (List Int)} (h : Zc1 a0 = some r) : FnG PR 62 [] [(wL (cI .i64) a0)] ((Zh3) r) (Zhm r) :=
 Zb h fun y h0 h1 => FnG.split0 (fun hne => FnG.of_cfg hT Go.Proofs.Tryz.func62 (by kernel_rfl : _ = some Zgp) (by kernel_rfl) 8 (by kernel_rfl) (Nat.le_of_ble_eq_true rfl) [.t 2] (by kernel_rfl) (by kernel_rfl) (Z5x r a0 (fun e => hne (by rw [e]; rfl)) y h0 (Z0 (fun s _ _ _ => nomatch s) h1)))
 (fun he a c => by
 have ha : a0 = [] := by simpa using he
 subst ha
 cases a with
 | none => exact FnG.of_cfg hT Go.Proofs.Tryz.func62 (by kernel_rfl : _ = some Zgp) (by kernel_rfl) 8 (by kernel_rfl) (Nat.le_of_ble_eq_true rfl) [.t 2] (by kernel_rfl) (by kernel_rfl) (Z4g r c y h0 (Z0 (fun s _ _ _ => nomatch s) h1))
 | some ad => exact FnG.of_cfg hT Go.Proofs.Tryz.func62 (by kernel_rfl : _ = some Zgp) (by kernel_rfl) 8 (by kernel_rfl) (Nat.le_of_ble_eq_true rfl) [.t 2] (by kernel_rfl) (by kernel_rfl) (Z4h r c ad y h0 (Z0 (fun s _ _ _ => nomatch s) h1)))
theorem Z8q (a0 : (List Int)) {r : (List Int)} (h : Zc1 a0 = some r) : Fn PR 62 [(wL (cI .i64) a0)] (wL (cI .i64) r) :=
 FnG.frozen (Ze7 a0 h) (And.intro (Eq.refl (List.map (cI .i64) r).length) trivial) (by kernel_rfl)
noncomputable def Z9q : Code := (Go.Proofs.Tryz.f60.body).getD .skip
noncomputable def Zu9 (r : Zaa) : PV := (.agg [(wI r.Life), (wI r.Venom), (wI r.Lands), (wI r.Pool.a0), (wI r.Pool.a1), (wI r.Pool.a2), (wI r.Pool.a3), (wI r.Pool.a4), (wI r.Pool.a5), (wB r.Failed), (wB r.Lost), (.osl 5011 (List.map (cI .i64) r.Library).length), (.osl 5012 (List.map (cI .i64) r.Hand).length), (.osl 5013 (List.map (cI .i64) r.Graveyard).length)])
noncomputable def Zw2 (r : Zaa) : List (Nat × Blk) := [(5011, .row 1 (List.map (cI .i64) r.Library)), (5012, .row 1 (List.map (cI .i64) r.Hand)), (5013, .row 1 (List.map (cI .i64) r.Graveyard))]
noncomputable def Zans : Zjw → Cfg := fun s => nomatch s
noncomputable def Zaq0 : Zjw → PW.St := fun s => nomatch s
abbrev Zant (r : Zaa) (y : Zjw ⊕ Zaa) : Prop := Ok PR [.c 2 59 true 14] (Zw2) Zu9 Zans Zaq0 r y
theorem Zalo (r : Zaa) (a0 : Zaa) (y : Zjw ⊕ Zaa) (h : Zyh a0 = some y) (hk : Zant r y) : (Cfg.code Z9q []).HH PR [.c 2 59 true 14] Zw2 Zu9 r ⟨16, idx 0 [(.agg (bx (Zh a0)))], []⟩ :=
 Zb h fun x1 h2 h => Zb h fun x3 h4 h => Zb h fun x5 h6 h => lO h hk [5011, 5012, 5013] ((((q0.o [.lab 1001, .lab 1002, .callO false [] 60000 [(5000, .row 1 (List.map (cI .i64) x1))] (.osl 5000 (List.map (cI .i64) x1).length), .callO false [] 100000 [(5000, .row 1 (List.map (cI .i64) x3))] (.osl 5000 (List.map (cI .i64) x3).length), .callO false [] 140000 [(5000, .row 1 (List.map (cI .i64) x5))] (.osl 5000 (List.map (cI .i64) x5).length), .relab 65000 5011, .relab 105000 5012, .relab 145000 5013]).b (Ze7 a0.Library h2)).b (Ze7 a0.Hand h4)).b (Ze7 a0.Graveyard h6))
theorem Zanu (a0 : Zaa) {r : Zaa} (h : Zqd a0 = some r) : FnG PR 60 [] [(.agg (bx (Zh a0)))] ((Zw2) r) (Zu9 r) :=
 Zb h fun y h0 h1 => FnG.of_cfg hT Go.Proofs.Tryz.func60 (by kernel_rfl : _ = some Z9q) (by kernel_rfl) 16 (by kernel_rfl) (Nat.le_of_ble_eq_true rfl) [.c 2 59 true 14] (by kernel_rfl) (by kernel_rfl) (Zalo r a0 y h0 (Z0 (fun s _ _ _ => nomatch s) h1))
theorem Zaq1 (a0 : Zaa) {r : Zaa} (h : Zqd a0 = some r) : Fn PR 60 [(.agg (bx (Zh a0)))] (.agg (bx (Zh r))) :=
 FnG.frozen (Zanu a0 h) (And.intro (Eq.refl (List.map (cI .i64) r.Library).length) (And.intro (Eq.refl (List.map (cI .i64) r.Hand).length) (And.intro (Eq.refl (List.map (cI .i64) r.Graveyard).length) trivial))) (by kernel_rfl)
noncomputable def Zc4 : Code := (Go.Proofs.Tryz.f61.body).getD .skip
noncomputable def Zds (r : (List Zf)) : PV := (.osl 5000 (List.map Zd r).length)
noncomputable def Zd5 (r : (List Zf)) : List (Nat × Blk) := [(5000, .row 19 (List.map Zd r))]
noncomputable def Zso : Zbh → Cfg := fun s => nomatch s
noncomputable def Zto : Zbh → PW.St := fun s => nomatch s
abbrev Zhi (r : (List Zf)) (y : Zbh ⊕ (List Zf)) : Prop := Ok PR [.t 2] (Zd5) Zds Zso Zto r y
theorem Zr5 (r : (List Zf)) (a0 : (List Zf)) (hne : a0 ≠ []) (y : Zbh ⊕ (List Zf)) (h : Zed a0 = some y) (hk : Zhi r y) : (Cfg.code Zc4 []).HH PR [.t 2] Zd5 Zds r ⟨8, idx 0 [(wL Zd a0)], []⟩ :=
 Zb h fun x1 h2 h => lO h hk [5000] ((((((((q0.f 1 (Zv8 Zd hne)).o [.lab 1005, .es (List.map Zd x1), .relab 1005 5000]).b (Eq.refl false)).b (Eq.refl (List.map Zd ([] : (List Zf))).length)).b (Zdw Zd h2)).b (Zs Zd 19 (fun _ => rfl) a0)).b (Zdx Zd h2)).b (Zca Zd h2))
theorem Zq4 (r : (List Zf)) (c : Nat) (y : Zbh ⊕ (List Zf)) (h : Zed [] = some y) (hk : Zhi r y) : (Cfg.code Zc4 []).HH PR [.t 2] Zd5 Zds r ⟨8, idx 0 [(.t (.con (.slice none 0 c)))], []⟩ :=
 Zb h fun x1 h2 h => by
 cases Zv9 h2
 exact Zfv hm hT (r' := ([] : (List Zf))) h hk 400 [.br true, .own 2 5000 19] [5000] (And.intro (Eq.refl true) trivial) (by kernel_rfl)
theorem Zq5 (r : (List Zf)) (c : Nat) (ad : Addr) (y : Zbh ⊕ (List Zf)) (h : Zed [] = some y) (hk : Zhi r y) : (Cfg.code Zc4 []).HH PR [.t 2] Zd5 Zds r ⟨8, idx 0 [(.t (.con (.slice (some ad) 0 c)))], []⟩ :=
 Zb h fun x1 h2 h =>
 Zfv hm hT (r' := x1) h hk 400 [.br false, .lab 1005, .es (List.map Zd x1), .relab 1005 5000] [5000] (And.intro (Eq.refl false) (And.intro (Eq.refl (List.map Zd ([] : (List Zf))).length) (And.intro (Zdw Zd h2) (And.intro (Zs Zd 19 (fun _ => rfl) ([] : (List Zf))) (And.intro (Zdx Zd h2) (And.intro (Zca Zd h2) trivial)))))) (by kernel_rfl)
theorem Zsp (a0 : (List Zf)) {r : (List Zf)} (h : Zfz a0 = some r) : FnG PR 61 [] [(wL Zd a0)] ((Zd5) r) (Zds r) :=
 Zb h fun y h0 h1 => FnG.split0 (fun hne => FnG.of_cfg hT Go.Proofs.Tryz.func61 (by kernel_rfl : _ = some Zc4) (by kernel_rfl) 8 (by kernel_rfl) (Nat.le_of_ble_eq_true rfl) [.t 2] (by kernel_rfl) (by kernel_rfl) (Zr5 r a0 (fun e => hne (by rw [e]; rfl)) y h0 (Z0 (fun s _ _ _ => nomatch s) h1)))
 (fun he a c => by
 have ha : a0 = [] := by simpa using he
 subst ha
 cases a with
 | none => exact FnG.of_cfg hT Go.Proofs.Tryz.func61 (by kernel_rfl : _ = some Zc4) (by kernel_rfl) 8 (by kernel_rfl) (Nat.le_of_ble_eq_true rfl) [.t 2] (by kernel_rfl) (by kernel_rfl) (Zq4 r c y h0 (Z0 (fun s _ _ _ => nomatch s) h1))
 | some ad => exact FnG.of_cfg hT Go.Proofs.Tryz.func61 (by kernel_rfl : _ = some Zc4) (by kernel_rfl) 8 (by kernel_rfl) (Nat.le_of_ble_eq_true rfl) [.t 2] (by kernel_rfl) (by kernel_rfl) (Zq5 r c ad y h0 (Z0 (fun s _ _ _ => nomatch s) h1)))
noncomputable def Zdy : Code := (Go.Proofs.Tryz.f63.body).getD .skip
noncomputable def Zez (r : (List Zag)) : PV := (.osl 5000 (List.map Zl r).length)
noncomputable def Ze8 (r : (List Zag)) : List (Nat × Blk) := [(5000, .row 94 (List.map Zl r))]
noncomputable def Zvu : Zby → Cfg := fun s => nomatch s
noncomputable def Zw3 : Zby → PW.St := fun s => nomatch s
abbrev Zi1 (r : (List Zag)) (y : Zby ⊕ (List Zag)) : Prop := Ok PR [.t 2] (Ze8) Zez Zvu Zw3 r y
theorem Zva (r : (List Zag)) (a0 : (List Zag)) (hne : a0 ≠ []) (y : Zby ⊕ (List Zag)) (h : Zfd a0 = some y) (hk : Zi1 r y) : (Cfg.code Zdy []).HH PR [.t 2] Ze8 Zez r ⟨8, idx 0 [(wL Zl a0)], []⟩ :=
 Zb h fun x1 h2 h => lO h hk [5000] ((((((((q0.f 1 (Zv8 Zl hne)).o [.lab 1005, .es (List.map Zl x1), .relab 1005 5000]).b (Eq.refl false)).b (Eq.refl (List.map Zl ([] : (List Zag))).length)).b (Zdw Zl h2)).b (Zs Zl 94 (fun _ => rfl) a0)).b (Zdx Zl h2)).b (Zca Zl h2))
theorem Zug (r : (List Zag)) (c : Nat) (y : Zby ⊕ (List Zag)) (h : Zfd [] = some y) (hk : Zi1 r y) : (Cfg.code Zdy []).HH PR [.t 2] Ze8 Zez r ⟨8, idx 0 [(.t (.con (.slice none 0 c)))], []⟩ :=
 Zb h fun x1 h2 h => by
 cases Zv9 h2
 exact Zfv hm hT (r' := ([] : (List Zag))) h hk 400 [.br true, .own 2 5000 94] [5000] (And.intro (Eq.refl true) trivial) (by kernel_rfl)
theorem Zuh (r : (List Zag)) (c : Nat) (ad : Addr) (y : Zby ⊕ (List Zag)) (h : Zfd [] = some y) (hk : Zi1 r y) : (Cfg.code Zdy []).HH PR [.t 2] Ze8 Zez r ⟨8, idx 0 [(.t (.con (.slice (some ad) 0 c)))], []⟩ :=
 Zb h fun x1 h2 h =>
 Zfv hm hT (r' := x1) h hk 400 [.br false, .lab 1005, .es (List.map Zl x1), .relab 1005 5000] [5000] (And.intro (Eq.refl false) (And.intro (Eq.refl (List.map Zl ([] : (List Zag))).length) (And.intro (Zdw Zl h2) (And.intro (Zs Zl 94 (fun _ => rfl) ([] : (List Zag))) (And.intro (Zdx Zl h2) (And.intro (Zca Zl h2) trivial)))))) (by kernel_rfl)
theorem Zvv (a0 : (List Zag)) {r : (List Zag)} (h : Zhc a0 = some r) : FnG PR 63 [] [(wL Zl a0)] ((Ze8) r) (Zez r) :=
 Zb h fun y h0 h1 => FnG.split0 (fun hne => FnG.of_cfg hT Go.Proofs.Tryz.func63 (by kernel_rfl : _ = some Zdy) (by kernel_rfl) 8 (by kernel_rfl) (Nat.le_of_ble_eq_true rfl) [.t 2] (by kernel_rfl) (by kernel_rfl) (Zva r a0 (fun e => hne (by rw [e]; rfl)) y h0 (Z0 (fun s _ _ _ => nomatch s) h1)))
 (fun he a c => by
 have ha : a0 = [] := by simpa using he
 subst ha
 cases a with
 | none => exact FnG.of_cfg hT Go.Proofs.Tryz.func63 (by kernel_rfl : _ = some Zdy) (by kernel_rfl) 8 (by kernel_rfl) (Nat.le_of_ble_eq_true rfl) [.t 2] (by kernel_rfl) (by kernel_rfl) (Zug r c y h0 (Z0 (fun s _ _ _ => nomatch s) h1))
 | some ad => exact FnG.of_cfg hT Go.Proofs.Tryz.func63 (by kernel_rfl : _ = some Zdy) (by kernel_rfl) 8 (by kernel_rfl) (Nat.le_of_ble_eq_true rfl) [.t 2] (by kernel_rfl) (by kernel_rfl) (Zuh r c ad y h0 (Z0 (fun s _ _ _ => nomatch s) h1)))
noncomputable def Zei : Code := (Go.Proofs.Tryz.f68.body).getD .skip
noncomputable def Zfg (r : (List Zg)) : PV := (.osl 5000 (List.map Zp r).length)
noncomputable def Zfn (r : (List Zg)) : List (Nat × Blk) := [(5000, .row 20 (List.map Zp r))]
noncomputable def Zye : Zb7 → Cfg := fun s => nomatch s
noncomputable def Zys : Zb7 → PW.St := fun s => nomatch s
abbrev Zjr (r : (List Zg)) (y : Zb7 ⊕ (List Zg)) : Prop := Ok PR [.t 2] (Zfn) Zfg Zye Zys r y
theorem Zw4 (r : (List Zg)) (a0 : (List Zg)) (hne : a0 ≠ []) (y : Zb7 ⊕ (List Zg)) (h : Zfq a0 = some y) (hk : Zjr r y) : (Cfg.code Zei []).HH PR [.t 2] Zfn Zfg r ⟨8, idx 0 [(wL Zp a0)], []⟩ :=
 Zb h fun x1 h2 h => lO h hk [5000] ((((((((q0.f 1 (Zv8 Zp hne)).o [.lab 1005, .es (List.map Zp x1), .relab 1005 5000]).b (Eq.refl false)).b (Eq.refl (List.map Zp ([] : (List Zg))).length)).b (Zdw Zp h2)).b (Zs Zp 20 (fun _ => rfl) a0)).b (Zdx Zp h2)).b (Zca Zp h2))
theorem Zvw (r : (List Zg)) (c : Nat) (y : Zb7 ⊕ (List Zg)) (h : Zfq [] = some y) (hk : Zjr r y) : (Cfg.code Zei []).HH PR [.t 2] Zfn Zfg r ⟨8, idx 0 [(.t (.con (.slice none 0 c)))], []⟩ :=
 Zb h fun x1 h2 h => by
 cases Zv9 h2
 exact Zfv hm hT (r' := ([] : (List Zg))) h hk 400 [.br true, .own 2 5000 20] [5000] (And.intro (Eq.refl true) trivial) (by kernel_rfl)
theorem Zvx (r : (List Zg)) (c : Nat) (ad : Addr) (y : Zb7 ⊕ (List Zg)) (h : Zfq [] = some y) (hk : Zjr r y) : (Cfg.code Zei []).HH PR [.t 2] Zfn Zfg r ⟨8, idx 0 [(.t (.con (.slice (some ad) 0 c)))], []⟩ :=
 Zb h fun x1 h2 h =>
 Zfv hm hT (r' := x1) h hk 400 [.br false, .lab 1005, .es (List.map Zp x1), .relab 1005 5000] [5000] (And.intro (Eq.refl false) (And.intro (Eq.refl (List.map Zp ([] : (List Zg))).length) (And.intro (Zdw Zp h2) (And.intro (Zs Zp 20 (fun _ => rfl) ([] : (List Zg))) (And.intro (Zdx Zp h2) (And.intro (Zca Zp h2) trivial)))))) (by kernel_rfl)
theorem Znv (a0 : (List Zg)) {r : (List Zg)} (h : Zdp a0 = some r) : FnG PR 68 [] [(wL Zp a0)] ((Zfn) r) (Zfg r) :=
 Zb h fun y h0 h1 => FnG.split0 (fun hne => FnG.of_cfg hT Go.Proofs.Tryz.func68 (by kernel_rfl : _ = some Zei) (by kernel_rfl) 8 (by kernel_rfl) (Nat.le_of_ble_eq_true rfl) [.t 2] (by kernel_rfl) (by kernel_rfl) (Zw4 r a0 (fun e => hne (by rw [e]; rfl)) y h0 (Z0 (fun s _ _ _ => nomatch s) h1)))
 (fun he a c => by
 have ha : a0 = [] := by simpa using he
 subst ha
 cases a with
 | none => exact FnG.of_cfg hT Go.Proofs.Tryz.func68 (by kernel_rfl : _ = some Zei) (by kernel_rfl) 8 (by kernel_rfl) (Nat.le_of_ble_eq_true rfl) [.t 2] (by kernel_rfl) (by kernel_rfl) (Zvw r c y h0 (Z0 (fun s _ _ _ => nomatch s) h1))
 | some ad => exact FnG.of_cfg hT Go.Proofs.Tryz.func68 (by kernel_rfl : _ = some Zei) (by kernel_rfl) 8 (by kernel_rfl) (Nat.le_of_ble_eq_true rfl) [.t 2] (by kernel_rfl) (by kernel_rfl) (Zvx r c ad y h0 (Z0 (fun s _ _ _ => nomatch s) h1)))
theorem Zob (a0 : (List Zg)) {r : (List Zg)} (h : Zdp a0 = some r) : Fn PR 68 [(wL Zp a0)] (wL Zp r) :=
 FnG.frozen (Znv a0 h) (And.intro (Eq.refl (List.map Zp r).length) trivial) (by kernel_rfl)
noncomputable def Zdz : Code := (Go.Proofs.Tryz.f87.body).getD .skip
noncomputable def Ze0 (r : (List Zai)) : PV := (.osl 5000 (List.map Z3 r).length)
noncomputable def Ze9 (r : (List Zai)) : List (Nat × Blk) := [(5000, .row 18 (List.map Z3 r))]
noncomputable def Zvy : Zbz → Cfg := fun s => nomatch s
noncomputable def Zw5 : Zbz → PW.St := fun s => nomatch s
abbrev Zi2 (r : (List Zai)) (y : Zbz ⊕ (List Zai)) : Prop := Ok PR [.t 2] (Ze9) Ze0 Zvy Zw5 r y
theorem Zvb (r : (List Zai)) (a0 : (List Zai)) (hne : a0 ≠ []) (y : Zbz ⊕ (List Zai)) (h : Zfe a0 = some y) (hk : Zi2 r y) : (Cfg.code Zdz []).HH PR [.t 2] Ze9 Ze0 r ⟨8, idx 0 [(wL Z3 a0)], []⟩ :=
 Zb h fun x1 h2 h => lO h hk [5000] ((((((((q0.f 1 (Zv8 Z3 hne)).o [.lab 1005, .es (List.map Z3 x1), .relab 1005 5000]).b (Eq.refl false)).b (Eq.refl (List.map Z3 ([] : (List Zai))).length)).b (Zdw Z3 h2)).b (Zs Z3 18 (fun _ => rfl) a0)).b (Zdx Z3 h2)).b (Zca Z3 h2))
theorem Zui (r : (List Zai)) (c : Nat) (y : Zbz ⊕ (List Zai)) (h : Zfe [] = some y) (hk : Zi2 r y) : (Cfg.code Zdz []).HH PR [.t 2] Ze9 Ze0 r ⟨8, idx 0 [(.t (.con (.slice none 0 c)))], []⟩ :=
 Zb h fun x1 h2 h => by
 cases Zv9 h2
 exact Zfv hm hT (r' := ([] : (List Zai))) h hk 400 [.br true, .own 2 5000 18] [5000] (And.intro (Eq.refl true) trivial) (by kernel_rfl)
theorem Zuj (r : (List Zai)) (c : Nat) (ad : Addr) (y : Zbz ⊕ (List Zai)) (h : Zfe [] = some y) (hk : Zi2 r y) : (Cfg.code Zdz []).HH PR [.t 2] Ze9 Ze0 r ⟨8, idx 0 [(.t (.con (.slice (some ad) 0 c)))], []⟩ :=
 Zb h fun x1 h2 h =>
 Zfv hm hT (r' := x1) h hk 400 [.br false, .lab 1005, .es (List.map Z3 x1), .relab 1005 5000] [5000] (And.intro (Eq.refl false) (And.intro (Eq.refl (List.map Z3 ([] : (List Zai))).length) (And.intro (Zdw Z3 h2) (And.intro (Zs Z3 18 (fun _ => rfl) ([] : (List Zai))) (And.intro (Zdx Z3 h2) (And.intro (Zca Z3 h2) trivial)))))) (by kernel_rfl)
theorem Zvz (a0 : (List Zai)) {r : (List Zai)} (h : Zhd a0 = some r) : FnG PR 87 [] [(wL Z3 a0)] ((Ze9) r) (Ze0 r) :=
 Zb h fun y h0 h1 => FnG.split0 (fun hne => FnG.of_cfg hT Go.Proofs.Tryz.func87 (by kernel_rfl : _ = some Zdz) (by kernel_rfl) 8 (by kernel_rfl) (Nat.le_of_ble_eq_true rfl) [.t 2] (by kernel_rfl) (by kernel_rfl) (Zvb r a0 (fun e => hne (by rw [e]; rfl)) y h0 (Z0 (fun s _ _ _ => nomatch s) h1)))
 (fun he a c => by
 have ha : a0 = [] := by simpa using he
 subst ha
 cases a with
 | none => exact FnG.of_cfg hT Go.Proofs.Tryz.func87 (by kernel_rfl : _ = some Zdz) (by kernel_rfl) 8 (by kernel_rfl) (Nat.le_of_ble_eq_true rfl) [.t 2] (by kernel_rfl) (by kernel_rfl) (Zui r c y h0 (Z0 (fun s _ _ _ => nomatch s) h1))
 | some ad => exact FnG.of_cfg hT Go.Proofs.Tryz.func87 (by kernel_rfl : _ = some Zdz) (by kernel_rfl) 8 (by kernel_rfl) (Nat.le_of_ble_eq_true rfl) [.t 2] (by kernel_rfl) (by kernel_rfl) (Zuj r c ad y h0 (Z0 (fun s _ _ _ => nomatch s) h1)))
noncomputable def Zc5 : Code := (Go.Proofs.Tryz.f88.body).getD .skip
noncomputable def Zdt (r : (List Zj)) : PV := (.osl 5000 (List.map Zk r).length)
noncomputable def Zd6 (r : (List Zj)) : List (Nat × Blk) := [(5000, .row 64 (List.map Zk r))]
noncomputable def Zsq : Zbi → Cfg := fun s => nomatch s
noncomputable def Ztp : Zbi → PW.St := fun s => nomatch s
abbrev Zhj (r : (List Zj)) (y : Zbi ⊕ (List Zj)) : Prop := Ok PR [.t 2] (Zd6) Zdt Zsq Ztp r y
theorem Zr6 (r : (List Zj)) (a0 : (List Zj)) (hne : a0 ≠ []) (y : Zbi ⊕ (List Zj)) (h : Zee a0 = some y) (hk : Zhj r y) : (Cfg.code Zc5 []).HH PR [.t 2] Zd6 Zdt r ⟨8, idx 0 [(wL Zk a0)], []⟩ :=
 Zb h fun x1 h2 h => lO h hk [5000] ((((((((q0.f 1 (Zv8 Zk hne)).o [.lab 1005, .es (List.map Zk x1), .relab 1005 5000]).b (Eq.refl false)).b (Eq.refl (List.map Zk ([] : (List Zj))).length)).b (Zdw Zk h2)).b (Zs Zk 64 (fun _ => rfl) a0)).b (Zdx Zk h2)).b (Zca Zk h2))
theorem Zq6 (r : (List Zj)) (c : Nat) (y : Zbi ⊕ (List Zj)) (h : Zee [] = some y) (hk : Zhj r y) : (Cfg.code Zc5 []).HH PR [.t 2] Zd6 Zdt r ⟨8, idx 0 [(.t (.con (.slice none 0 c)))], []⟩ :=
 Zb h fun x1 h2 h => by
 cases Zv9 h2
 exact Zfv hm hT (r' := ([] : (List Zj))) h hk 400 [.br true, .own 2 5000 64] [5000] (And.intro (Eq.refl true) trivial) (by kernel_rfl)
theorem Zq7 (r : (List Zj)) (c : Nat) (ad : Addr) (y : Zbi ⊕ (List Zj)) (h : Zee [] = some y) (hk : Zhj r y) : (Cfg.code Zc5 []).HH PR [.t 2] Zd6 Zdt r ⟨8, idx 0 [(.t (.con (.slice (some ad) 0 c)))], []⟩ :=
 Zb h fun x1 h2 h =>
 Zfv hm hT (r' := x1) h hk 400 [.br false, .lab 1005, .es (List.map Zk x1), .relab 1005 5000] [5000] (And.intro (Eq.refl false) (And.intro (Eq.refl (List.map Zk ([] : (List Zj))).length) (And.intro (Zdw Zk h2) (And.intro (Zs Zk 64 (fun _ => rfl) ([] : (List Zj))) (And.intro (Zdx Zk h2) (And.intro (Zca Zk h2) trivial)))))) (by kernel_rfl)
theorem Zsr (a0 : (List Zj)) {r : (List Zj)} (h : Zf0 a0 = some r) : FnG PR 88 [] [(wL Zk a0)] ((Zd6) r) (Zdt r) :=
 Zb h fun y h0 h1 => FnG.split0 (fun hne => FnG.of_cfg hT Go.Proofs.Tryz.func88 (by kernel_rfl : _ = some Zc5) (by kernel_rfl) 8 (by kernel_rfl) (Nat.le_of_ble_eq_true rfl) [.t 2] (by kernel_rfl) (by kernel_rfl) (Zr6 r a0 (fun e => hne (by rw [e]; rfl)) y h0 (Z0 (fun s _ _ _ => nomatch s) h1)))
 (fun he a c => by
 have ha : a0 = [] := by simpa using he
 subst ha
 cases a with
 | none => exact FnG.of_cfg hT Go.Proofs.Tryz.func88 (by kernel_rfl : _ = some Zc5) (by kernel_rfl) 8 (by kernel_rfl) (Nat.le_of_ble_eq_true rfl) [.t 2] (by kernel_rfl) (by kernel_rfl) (Zq6 r c y h0 (Z0 (fun s _ _ _ => nomatch s) h1))
 | some ad => exact FnG.of_cfg hT Go.Proofs.Tryz.func88 (by kernel_rfl : _ = some Zc5) (by kernel_rfl) 8 (by kernel_rfl) (Nat.le_of_ble_eq_true rfl) [.t 2] (by kernel_rfl) (by kernel_rfl) (Zq7 r c ad y h0 (Z0 (fun s _ _ _ => nomatch s) h1)))
noncomputable def Zw6 : Code := (Go.Proofs.Tryz.f64.body).getD .skip
noncomputable def Zo0 (r : Zq) : PV := (.agg ([(wI r.Kind)] ++ (bx (Zv r.Filter) ++ ([(.osl 5017 (List.map Zp r.Mods).length)] ++ (bx (Ze2 r.Price) ++ ([(wB r.Slow)] ++ (bx (Zc2 r.Trigger) ++ ([(wB r.May), (.osl 5048 (List.map Z3 r.Specs).length), (.osl 5049 (List.map Zk r.Effects).length)] ++ (bx (Zbw r.Replace))))))))))
noncomputable def Zpt (r : Zq) : List (Nat × Blk) := [(5017, .row 20 (List.map Zp r.Mods)), (5048, .row 18 (List.map Z3 r.Specs)), (5049, .row 64 (List.map Zk r.Effects))]
noncomputable def Z3v : Zgf → Cfg
 | .L0 _ _ _ _ => (nav [1, 1, 1, 1, 0, 1, 4] Zw6 []).getD (.done .normal)
noncomputable def Z4m : Zgf → PW.St
 | .L0 E0 E1 v18 v19 => ⟨36, [(1, (.bptr 30000000 0)), (2, (.bptr 30000001 0)), (18, (wI v18)), (19, (wI v19))], [(30000000, .box ([(wI E0.Kind)] ++ (bx (Zv E0.Filter) ++ ([(.osl 40000017 (List.map Zp E0.Mods).length)] ++ (bx (Ze2 E0.Price) ++ ([(wB E0.Slow)] ++ (bx (Zc2 E0.Trigger) ++ ([(wB E0.May), (.osl 40000048 (List.map Z3 E0.Specs).length), (.osl 40000049 (List.map Zk E0.Effects).length)] ++ (bx (Zbw E0.Replace)))))))))), (40000017, .row 20 (List.map Zp E0.Mods)), (40000048, .row 18 (List.map Z3 E0.Specs)), (40000049, .row 64 (List.map Zk E0.Effects)), (30000001, .box ([(wI E1.Kind)] ++ (bx (Zv E1.Filter) ++ ([(.osl 40000117 (List.map Zp E1.Mods).length)] ++ (bx (Ze2 E1.Price) ++ ([(wB E1.Slow)] ++ (bx (Zc2 E1.Trigger) ++ ([(wB E1.May), (.osl 40000148 (List.map Z3 E1.Specs).length), (.osl 40000149 (List.map Zk E1.Effects).length)] ++ (bx (Zbw E1.Replace)))))))))), (40000117, .row 20 (List.map Zp E1.Mods)), (40000148, .row 18 (List.map Z3 E1.Specs)), (40000149, .row 64 (List.map Zk E1.Effects))]⟩
abbrev Z3w (r : Zq) (y : Zgf ⊕ Zq) : Prop := Ok PR [.c 2 94 true 72] (Zpt) Zo0 Z3v Z4m r y
theorem Zaht (r : Zq) (E0 : Zq) (E1 : Zq) (v18 : Int) (v19 : Int) (y : Zgf ⊕ Zq) (h : Zj9 E0 E1 v18 v19 = some y) (hk : Z3w r y) : (Z3v (.L0 E0 E1 v18 v19)).HH PR [.c 2 94 true 72] Zpt Zo0 r (Z4m (.L0 E0 E1 v18 v19)) :=
 Za h (fun h1 h => Zb h fun x2 h3 h => Zb h fun x4 h5 h => Zb h fun x6 h7 h => lG h hk (((((((((((((((((q0.t 1 h1).o [.nat (Int.toNat v19), .cs (Zk x2), .call (wL Zp x4), .nat (Int.toNat v19), .cs (Zk x2), .es (List.map Zk x6), .ahead 34, .relen 40000049, .stop, .pick [19, 1, 2, 18] [40000049, 30000000, 40000017, 40000048, 30000001, 40000117, 40000148, 40000149], .pick [1, 2, 18, 19] [30000000, 40000017, 40000048, 40000049, 30000001, 40000117, 40000148, 40000149]]).b (Eq.refl (List.map Zk E0.Effects).length)).b (Z2 h3)).b (Znh Zk h3)).b (Eq.refl (Int.toNat v19))).a 2 (Eq.refl (List.map Zk E0.Effects).length)).b (Zz Zk h3)).b (Zob x2.Mods h5)).b (Eq.refl (List.map Zk E0.Effects).length)).b (Z2 h3)).b (Znh Zk h3)).b (Eq.refl (Int.toNat v19))).a 2 (Eq.refl (List.map Zk E0.Effects).length)).b (Zz Zk h3)).b (Zaa8 (x := x2) (q := 63) (ts := [(.sl (List.map Zp x4))]) Zk h7 rfl)).a 7 (Z4v Zk h7))) (fun h1 h => lO h hk [5017, 5048, 5049] ((q0.f 1 h1).o [.relab 40000017 5017, .relab 40000048 5048, .relab 40000049 5049]))
theorem Zai0 (r : Zq) (a0 : Zq) (y : Zgf ⊕ Zq) (h : Zwn a0 = some y) (hk : Z3w r y) : (Cfg.code Zw6 []).HH PR [.c 2 94 true 72] Zpt Zo0 r ⟨36, idx 0 [(.agg (bx (Zab a0)))], []⟩ :=
 Zb h fun x1 h2 h => Zb h fun x3 h4 h => Zb h fun x5 h6 h => lG h hk ((((((q0.o [.lab 1001, .lab 1002, .callO false [] 70000 [(5000, .row 20 (List.map Zp x1))] (.osl 5000 (List.map Zp x1).length), .callO false [] 110000 [(5000, .row 18 (List.map Z3 x3))] (.osl 5000 (List.map Z3 x3).length), .callO false [] 150000 [(5000, .row 64 (List.map Zk x5))] (.osl 5000 (List.map Zk x5).length), .num (x5.length : Int), .pick [19, 18, 2, 1] [1001, 155000, 115000, 75000, 1002], .relab 1001 30000000, .relab 1002 30000001, .relab 75000 40000017, .relab 115000 40000048, .relab 155000 40000049, .ownb 30000001 17 40000117 20, .ownb 30000001 48 40000148 18, .ownb 30000001 49 40000149 64, .pick [1, 2, 18, 19] [30000000, 40000017, 40000048, 40000049, 30000001, 40000117, 40000148, 40000149]]).b (Znv a0.Mods h2)).b (Zvz a0.Specs h4)).b (Zsr a0.Effects h6)).b (Eq.refl (List.map Zk x5).length)).b (Zt Zk x5))
theorem Zalp (a0 : Zq) {r : Zq} (h : Zms a0 = some r) : FnG PR 64 [] [(.agg (bx (Zab a0)))] ((Zpt) r) (Zo0 r) :=
 Zb h fun y h0 h1 => FnG.of_cfg hT Go.Proofs.Tryz.func64 (by kernel_rfl : _ = some Zw6) (by kernel_rfl) 36 (by kernel_rfl) (Nat.le_of_ble_eq_true rfl) [.c 2 94 true 72] (by kernel_rfl) (by kernel_rfl) (Zai0 r a0 y h0 (Z0 (fun s y h hk => match s with
 | .L0 E0 E1 v18 v19 => Zaht r E0 E1 v18 v19 y h hk) h1))
theorem Z4n (a0 : Zq) {r : Zq} (h : Zms a0 = some r) : Fn PR 64 [(.agg (bx (Zab a0)))] (.agg (bx (Zab r))) :=
 FnG.frozen (Zalp a0 h) (And.intro (Eq.refl (List.map Zp r.Mods).length) (And.intro (Eq.refl (List.map Z3 r.Specs).length) (And.intro (Eq.refl (List.map Zk r.Effects).length) trivial))) (by kernel_rfl)
noncomputable def Zc6 : Code := (Go.Proofs.Tryz.f65.body).getD .skip
noncomputable def Zdu (r : (List Zar)) : PV := (.osl 5000 (List.map Zad r).length)
noncomputable def Zd7 (r : (List Zar)) : List (Nat × Blk) := [(5000, .row 2 (List.map Zad r))]
noncomputable def Zss : Zbj → Cfg := fun s => nomatch s
noncomputable def Ztq : Zbj → PW.St := fun s => nomatch s
abbrev Zhk (r : (List Zar)) (y : Zbj ⊕ (List Zar)) : Prop := Ok PR [.t 2] (Zd7) Zdu Zss Ztq r y
theorem Zr7 (r : (List Zar)) (a0 : (List Zar)) (hne : a0 ≠ []) (y : Zbj ⊕ (List Zar)) (h : Zef a0 = some y) (hk : Zhk r y) : (Cfg.code Zc6 []).HH PR [.t 2] Zd7 Zdu r ⟨8, idx 0 [(wL Zad a0)], []⟩ :=
 Zb h fun x1 h2 h => lO h hk [5000] ((((((((q0.f 1 (Zv8 Zad hne)).o [.lab 1005, .es (List.map Zad x1), .relab 1005 5000]).b (Eq.refl false)).b (Eq.refl (List.map Zad ([] : (List Zar))).length)).b (Zdw Zad h2)).b (Zs Zad 2 (fun _ => rfl) a0)).b (Zdx Zad h2)).b (Zca Zad h2))
theorem Zq8 (r : (List Zar)) (c : Nat) (y : Zbj ⊕ (List Zar)) (h : Zef [] = some y) (hk : Zhk r y) : (Cfg.code Zc6 []).HH PR [.t 2] Zd7 Zdu r ⟨8, idx 0 [(.t (.con (.slice none 0 c)))], []⟩ :=
 Zb h fun x1 h2 h => by
 cases Zv9 h2
 exact Zfv hm hT (r' := ([] : (List Zar))) h hk 400 [.br true, .own 2 5000 2] [5000] (And.intro (Eq.refl true) trivial) (by kernel_rfl)
theorem Zq9 (r : (List Zar)) (c : Nat) (ad : Addr) (y : Zbj ⊕ (List Zar)) (h : Zef [] = some y) (hk : Zhk r y) : (Cfg.code Zc6 []).HH PR [.t 2] Zd7 Zdu r ⟨8, idx 0 [(.t (.con (.slice (some ad) 0 c)))], []⟩ :=
 Zb h fun x1 h2 h =>
 Zfv hm hT (r' := x1) h hk 400 [.br false, .lab 1005, .es (List.map Zad x1), .relab 1005 5000] [5000] (And.intro (Eq.refl false) (And.intro (Eq.refl (List.map Zad ([] : (List Zar))).length) (And.intro (Zdw Zad h2) (And.intro (Zs Zad 2 (fun _ => rfl) ([] : (List Zar))) (And.intro (Zdx Zad h2) (And.intro (Zca Zad h2) trivial)))))) (by kernel_rfl)
theorem Zst (a0 : (List Zar)) {r : (List Zar)} (h : Zey a0 = some r) : FnG PR 65 [] [(wL Zad a0)] ((Zd7) r) (Zdu r) :=
 Zb h fun y h0 h1 => FnG.split0 (fun hne => FnG.of_cfg hT Go.Proofs.Tryz.func65 (by kernel_rfl : _ = some Zc6) (by kernel_rfl) 8 (by kernel_rfl) (Nat.le_of_ble_eq_true rfl) [.t 2] (by kernel_rfl) (by kernel_rfl) (Zr7 r a0 (fun e => hne (by rw [e]; rfl)) y h0 (Z0 (fun s _ _ _ => nomatch s) h1)))
 (fun he a c => by
 have ha : a0 = [] := by simpa using he
 subst ha
 cases a with
 | none => exact FnG.of_cfg hT Go.Proofs.Tryz.func65 (by kernel_rfl : _ = some Zc6) (by kernel_rfl) 8 (by kernel_rfl) (Nat.le_of_ble_eq_true rfl) [.t 2] (by kernel_rfl) (by kernel_rfl) (Zq8 r c y h0 (Z0 (fun s _ _ _ => nomatch s) h1))
 | some ad => exact FnG.of_cfg hT Go.Proofs.Tryz.func65 (by kernel_rfl : _ = some Zc6) (by kernel_rfl) 8 (by kernel_rfl) (Nat.le_of_ble_eq_true rfl) [.t 2] (by kernel_rfl) (by kernel_rfl) (Zq9 r c ad y h0 (Z0 (fun s _ _ _ => nomatch s) h1)))
theorem Ztr (a0 : (List Zar)) {r : (List Zar)} (h : Zey a0 = some r) : Fn PR 65 [(wL Zad a0)] (wL Zad r) :=
 FnG.frozen (Zst a0 h) (And.intro (Eq.refl (List.map Zad r).length) trivial) (by kernel_rfl)
noncomputable def Zcu : Code := (Go.Proofs.Tryz.f66.body).getD .skip
noncomputable def Zde (r : (List Z7)) : PV := (.osl 5000 (List.map Zm r).length)
noncomputable def Zdm (r : (List Z7)) : List (Nat × Blk) := [(5000, .row 89 (List.map Zm r))]
noncomputable def Zra : Zbb → Cfg := fun s => nomatch s
noncomputable def Zr8 : Zbb → PW.St := fun s => nomatch s
abbrev Zgw (r : (List Z7)) (y : Zbb ⊕ (List Z7)) : Prop := Ok PR [.t 2] (Zdm) Zde Zra Zr8 r y
theorem Zqw (r : (List Z7)) (a0 : (List Z7)) (hne : a0 ≠ []) (y : Zbb ⊕ (List Z7)) (h : Zdq a0 = some y) (hk : Zgw r y) : (Cfg.code Zcu []).HH PR [.t 2] Zdm Zde r ⟨8, idx 0 [(wL Zm a0)], []⟩ :=
 Zb h fun x1 h2 h => lO h hk [5000] ((((((((q0.f 1 (Zv8 Zm hne)).o [.lab 1005, .es (List.map Zm x1), .relab 1005 5000]).b (Eq.refl false)).b (Eq.refl (List.map Zm ([] : (List Z7))).length)).b (Zdw Zm h2)).b (Zs Zm 89 (fun _ => rfl) a0)).b (Zdx Zm h2)).b (Zca Zm h2))
theorem Zqi (r : (List Z7)) (c : Nat) (y : Zbb ⊕ (List Z7)) (h : Zdq [] = some y) (hk : Zgw r y) : (Cfg.code Zcu []).HH PR [.t 2] Zdm Zde r ⟨8, idx 0 [(.t (.con (.slice none 0 c)))], []⟩ :=
 Zb h fun x1 h2 h => by
 cases Zv9 h2
 exact Zfv hm hT (r' := ([] : (List Z7))) h hk 400 [.br true, .own 2 5000 89] [5000] (And.intro (Eq.refl true) trivial) (by kernel_rfl)
theorem Zqj (r : (List Z7)) (c : Nat) (ad : Addr) (y : Zbb ⊕ (List Z7)) (h : Zdq [] = some y) (hk : Zgw r y) : (Cfg.code Zcu []).HH PR [.t 2] Zdm Zde r ⟨8, idx 0 [(.t (.con (.slice (some ad) 0 c)))], []⟩ :=
 Zb h fun x1 h2 h =>
 Zfv hm hT (r' := x1) h hk 400 [.br false, .lab 1005, .es (List.map Zm x1), .relab 1005 5000] [5000] (And.intro (Eq.refl false) (And.intro (Eq.refl (List.map Zm ([] : (List Z7))).length) (And.intro (Zdw Zm h2) (And.intro (Zs Zm 89 (fun _ => rfl) ([] : (List Z7))) (And.intro (Zdx Zm h2) (And.intro (Zca Zm h2) trivial)))))) (by kernel_rfl)
theorem Zrb (a0 : (List Z7)) {r : (List Z7)} (h : Zfu a0 = some r) : FnG PR 66 [] [(wL Zm a0)] ((Zdm) r) (Zde r) :=
 Zb h fun y h0 h1 => FnG.split0 (fun hne => FnG.of_cfg hT Go.Proofs.Tryz.func66 (by kernel_rfl : _ = some Zcu) (by kernel_rfl) 8 (by kernel_rfl) (Nat.le_of_ble_eq_true rfl) [.t 2] (by kernel_rfl) (by kernel_rfl) (Zqw r a0 (fun e => hne (by rw [e]; rfl)) y h0 (Z0 (fun s _ _ _ => nomatch s) h1)))
 (fun he a c => by
 have ha : a0 = [] := by simpa using he
 subst ha
 cases a with
 | none => exact FnG.of_cfg hT Go.Proofs.Tryz.func66 (by kernel_rfl : _ = some Zcu) (by kernel_rfl) 8 (by kernel_rfl) (Nat.le_of_ble_eq_true rfl) [.t 2] (by kernel_rfl) (by kernel_rfl) (Zqi r c y h0 (Z0 (fun s _ _ _ => nomatch s) h1))
 | some ad => exact FnG.of_cfg hT Go.Proofs.Tryz.func66 (by kernel_rfl : _ = some Zcu) (by kernel_rfl) 8 (by kernel_rfl) (Nat.le_of_ble_eq_true rfl) [.t 2] (by kernel_rfl) (by kernel_rfl) (Zqj r c ad y h0 (Z0 (fun s _ _ _ => nomatch s) h1)))
noncomputable def Zd0 : Code := (Go.Proofs.Tryz.f67.body).getD .skip
noncomputable def Ze1 (r : (List Zao)) : PV := (.osl 5000 (List.map Zn r).length)
noncomputable def Zfa (r : (List Zao)) : List (Nat × Blk) := [(5000, .row 6 (List.map Zn r))]
noncomputable def Zv0 : Zb0 → Cfg := fun s => nomatch s
noncomputable def Zw7 : Zb0 → PW.St := fun s => nomatch s
abbrev Zi3 (r : (List Zao)) (y : Zb0 ⊕ (List Zao)) : Prop := Ok PR [.t 2] (Zfa) Ze1 Zv0 Zw7 r y
theorem Zvc (r : (List Zao)) (a0 : (List Zao)) (hne : a0 ≠ []) (y : Zb0 ⊕ (List Zao)) (h : Zff a0 = some y) (hk : Zi3 r y) : (Cfg.code Zd0 []).HH PR [.t 2] Zfa Ze1 r ⟨8, idx 0 [(wL Zn a0)], []⟩ :=
 Zb h fun x1 h2 h => lO h hk [5000] ((((((((q0.f 1 (Zv8 Zn hne)).o [.lab 1005, .es (List.map Zn x1), .relab 1005 5000]).b (Eq.refl false)).b (Eq.refl (List.map Zn ([] : (List Zao))).length)).b (Zdw Zn h2)).b (Zs Zn 6 (fun _ => rfl) a0)).b (Zdx Zn h2)).b (Zca Zn h2))
theorem Zuk (r : (List Zao)) (c : Nat) (y : Zb0 ⊕ (List Zao)) (h : Zff [] = some y) (hk : Zi3 r y) : (Cfg.code Zd0 []).HH PR [.t 2] Zfa Ze1 r ⟨8, idx 0 [(.t (.con (.slice none 0 c)))], []⟩ :=
 Zb h fun x1 h2 h => by
 cases Zv9 h2
 exact Zfv hm hT (r' := ([] : (List Zao))) h hk 400 [.br true, .own 2 5000 6] [5000] (And.intro (Eq.refl true) trivial) (by kernel_rfl)
theorem Zul (r : (List Zao)) (c : Nat) (ad : Addr) (y : Zb0 ⊕ (List Zao)) (h : Zff [] = some y) (hk : Zi3 r y) : (Cfg.code Zd0 []).HH PR [.t 2] Zfa Ze1 r ⟨8, idx 0 [(.t (.con (.slice (some ad) 0 c)))], []⟩ :=
 Zb h fun x1 h2 h =>
 Zfv hm hT (r' := x1) h hk 400 [.br false, .lab 1005, .es (List.map Zn x1), .relab 1005 5000] [5000] (And.intro (Eq.refl false) (And.intro (Eq.refl (List.map Zn ([] : (List Zao))).length) (And.intro (Zdw Zn h2) (And.intro (Zs Zn 6 (fun _ => rfl) ([] : (List Zao))) (And.intro (Zdx Zn h2) (And.intro (Zca Zn h2) trivial)))))) (by kernel_rfl)
theorem Zv1 (a0 : (List Zao)) {r : (List Zao)} (h : Zhe a0 = some r) : FnG PR 67 [] [(wL Zn a0)] ((Zfa) r) (Ze1 r) :=
 Zb h fun y h0 h1 => FnG.split0 (fun hne => FnG.of_cfg hT Go.Proofs.Tryz.func67 (by kernel_rfl : _ = some Zd0) (by kernel_rfl) 8 (by kernel_rfl) (Nat.le_of_ble_eq_true rfl) [.t 2] (by kernel_rfl) (by kernel_rfl) (Zvc r a0 (fun e => hne (by rw [e]; rfl)) y h0 (Z0 (fun s _ _ _ => nomatch s) h1)))
 (fun he a c => by
 have ha : a0 = [] := by simpa using he
 subst ha
 cases a with
 | none => exact FnG.of_cfg hT Go.Proofs.Tryz.func67 (by kernel_rfl : _ = some Zd0) (by kernel_rfl) 8 (by kernel_rfl) (Nat.le_of_ble_eq_true rfl) [.t 2] (by kernel_rfl) (by kernel_rfl) (Zuk r c y h0 (Z0 (fun s _ _ _ => nomatch s) h1))
 | some ad => exact FnG.of_cfg hT Go.Proofs.Tryz.func67 (by kernel_rfl : _ = some Zd0) (by kernel_rfl) 8 (by kernel_rfl) (Nat.le_of_ble_eq_true rfl) [.t 2] (by kernel_rfl) (by kernel_rfl) (Zul r c ad y h0 (Z0 (fun s _ _ _ => nomatch s) h1)))
noncomputable def Zu2 : Code := (Go.Proofs.Tryz.f43.body).getD .skip
noncomputable def Zn5 (r : Zc) : PV := (.agg [(.osl 5000 (List.map Zh r.Players).length), (.osl 5001 (List.map Zd r.Objects).length), (.osl 5002 (List.map (cI .i64) r.Battlefield).length), (.osl 5003 (List.map (cI .i64) r.Exile).length), (.osl 5004 (List.map Zl r.Stack).length), (.osl 5005 (List.map Zm r.Waiting).length), (.osl 5006 (List.map Zn r.Conts).length), (wI r.Turn), (wI r.Active), (wI r.Step), (wB r.Begun), (wI r.Priority), (wI r.Passes), (wI r.NextId), (wI r.NextStamp), (.t (.int .u64 r.Seed)), (.osl 5016 (List.map (cI .i64) r.Extra).length), (wI r.Over), (wI r.Winner)])
noncomputable def Zpn (r : Zc) : List (Nat × Blk) := [(5000, .row 14 (List.map Zh r.Players)), (5001, .row 19 (List.map Zd r.Objects)), (5002, .row 1 (List.map (cI .i64) r.Battlefield)), (5003, .row 1 (List.map (cI .i64) r.Exile)), (5004, .row 94 (List.map Zl r.Stack)), (5005, .row 89 (List.map Zm r.Waiting)), (5006, .row 6 (List.map Zn r.Conts)), (5016, .row 1 (List.map (cI .i64) r.Extra))]
noncomputable def Zum : Zgm → Cfg
 | .L0 _ _ _ _ => (nav [1, 1, 0, 1, 4] Zu2 []).getD (.done .normal)
 | .L1 _ _ _ _ => (nav [1, 1, 1, 1, 1, 1, 1, 0, 1, 4] Zu2 []).getD (.done .normal)
 | .L2 _ _ _ _ => (nav [1, 1, 1, 1, 1, 1, 1, 1, 1, 0, 1, 4] Zu2 []).getD (.done .normal)
 | .L3 _ _ _ _ => (nav [1, 1, 1, 1, 1, 1, 1, 1, 1, 1, 1, 0, 1, 4] Zu2 []).getD (.done .normal)
noncomputable def Zw8 : Zgm → PW.St
 | .L0 E0 E1 v13 v14 => ⟨138, [(1, (.bptr 30000000 0)), (2, (.bptr 30000001 0)), (13, (wI v13)), (14, (wI v14))], [(30000000, .box [(.osl 40000000 (List.map Zh E0.Players).length), (wL Zd E0.Objects), (wL (cI .i64) E0.Battlefield), (wL (cI .i64) E0.Exile), (wL Zl E0.Stack), (wL Zm E0.Waiting), (wL Zn E0.Conts), (wI E0.Turn), (wI E0.Active), (wI E0.Step), (wB E0.Begun), (wI E0.Priority), (wI E0.Passes), (wI E0.NextId), (wI E0.NextStamp), (.t (.int .u64 E0.Seed)), (wL (cI .i64) E0.Extra), (wI E0.Over), (wI E0.Winner)]), (40000000, .row 14 (List.map Zh E0.Players)), (30000001, .box [(.osl 40000100 (List.map Zh E1.Players).length), (.osl 40000101 (List.map Zd E1.Objects).length), (.osl 40000102 (List.map (cI .i64) E1.Battlefield).length), (.osl 40000103 (List.map (cI .i64) E1.Exile).length), (.osl 40000104 (List.map Zl E1.Stack).length), (.osl 40000105 (List.map Zm E1.Waiting).length), (.osl 40000106 (List.map Zn E1.Conts).length), (wI E1.Turn), (wI E1.Active), (wI E1.Step), (wB E1.Begun), (wI E1.Priority), (wI E1.Passes), (wI E1.NextId), (wI E1.NextStamp), (.t (.int .u64 E1.Seed)), (.osl 40000116 (List.map (cI .i64) E1.Extra).length), (wI E1.Over), (wI E1.Winner)]), (40000100, .row 14 (List.map Zh E1.Players)), (40000101, .row 19 (List.map Zd E1.Objects)), (40000102, .row 1 (List.map (cI .i64) E1.Battlefield)), (40000103, .row 1 (List.map (cI .i64) E1.Exile)), (40000104, .row 94 (List.map Zl E1.Stack)), (40000105, .row 89 (List.map Zm E1.Waiting)), (40000106, .row 6 (List.map Zn E1.Conts)), (40000116, .row 1 (List.map (cI .i64) E1.Extra))]⟩
 | .L1 E0 E1 v46 v47 => ⟨138, [(1, (.bptr 30000000 0)), (2, (.bptr 30000001 0)), (46, (wI v46)), (47, (wI v47))], [(30000000, .box [(.osl 40000000 (List.map Zh E0.Players).length), (.osl 40000001 (List.map Zd E0.Objects).length), (.osl 40000002 (List.map (cI .i64) E0.Battlefield).length), (.osl 40000003 (List.map (cI .i64) E0.Exile).length), (.osl 40000004 (List.map Zl E0.Stack).length), (wL Zm E0.Waiting), (wL Zn E0.Conts), (wI E0.Turn), (wI E0.Active), (wI E0.Step), (wB E0.Begun), (wI E0.Priority), (wI E0.Passes), (wI E0.NextId), (wI E0.NextStamp), (.t (.int .u64 E0.Seed)), (wL (cI .i64) E0.Extra), (wI E0.Over), (wI E0.Winner)]), (40000000, .row 14 (List.map Zh E0.Players)), (40000001, .row 19 (List.map Zd E0.Objects)), (40000002, .row 1 (List.map (cI .i64) E0.Battlefield)), (40000003, .row 1 (List.map (cI .i64) E0.Exile)), (40000004, .row 94 (List.map Zl E0.Stack)), (30000001, .box [(.osl 40000100 (List.map Zh E1.Players).length), (.osl 40000101 (List.map Zd E1.Objects).length), (.osl 40000102 (List.map (cI .i64) E1.Battlefield).length), (.osl 40000103 (List.map (cI .i64) E1.Exile).length), (.osl 40000104 (List.map Zl E1.Stack).length), (.osl 40000105 (List.map Zm E1.Waiting).length), (.osl 40000106 (List.map Zn E1.Conts).length), (wI E1.Turn), (wI E1.Active), (wI E1.Step), (wB E1.Begun), (wI E1.Priority), (wI E1.Passes), (wI E1.NextId), (wI E1.NextStamp), (.t (.int .u64 E1.Seed)), (.osl 40000116 (List.map (cI .i64) E1.Extra).length), (wI E1.Over), (wI E1.Winner)]), (40000100, .row 14 (List.map Zh E1.Players)), (40000101, .row 19 (List.map Zd E1.Objects)), (40000102, .row 1 (List.map (cI .i64) E1.Battlefield)), (40000103, .row 1 (List.map (cI .i64) E1.Exile)), (40000104, .row 94 (List.map Zl E1.Stack)), (40000105, .row 89 (List.map Zm E1.Waiting)), (40000106, .row 6 (List.map Zn E1.Conts)), (40000116, .row 1 (List.map (cI .i64) E1.Extra))]⟩
 | .L2 E0 E1 v81 v82 => ⟨138, [(1, (.bptr 30000000 0)), (2, (.bptr 30000001 0)), (81, (wI v81)), (82, (wI v82))], [(30000000, .box [(.osl 40000000 (List.map Zh E0.Players).length), (.osl 40000001 (List.map Zd E0.Objects).length), (.osl 40000002 (List.map (cI .i64) E0.Battlefield).length), (.osl 40000003 (List.map (cI .i64) E0.Exile).length), (.osl 40000004 (List.map Zl E0.Stack).length), (.osl 40000005 (List.map Zm E0.Waiting).length), (wL Zn E0.Conts), (wI E0.Turn), (wI E0.Active), (wI E0.Step), (wB E0.Begun), (wI E0.Priority), (wI E0.Passes), (wI E0.NextId), (wI E0.NextStamp), (.t (.int .u64 E0.Seed)), (wL (cI .i64) E0.Extra), (wI E0.Over), (wI E0.Winner)]), (40000000, .row 14 (List.map Zh E0.Players)), (40000001, .row 19 (List.map Zd E0.Objects)), (40000002, .row 1 (List.map (cI .i64) E0.Battlefield)), (40000003, .row 1 (List.map (cI .i64) E0.Exile)), (40000004, .row 94 (List.map Zl E0.Stack)), (40000005, .row 89 (List.map Zm E0.Waiting)), (30000001, .box [(.osl 40000100 (List.map Zh E1.Players).length), (.osl 40000101 (List.map Zd E1.Objects).length), (.osl 40000102 (List.map (cI .i64) E1.Battlefield).length), (.osl 40000103 (List.map (cI .i64) E1.Exile).length), (.osl 40000104 (List.map Zl E1.Stack).length), (.osl 40000105 (List.map Zm E1.Waiting).length), (.osl 40000106 (List.map Zn E1.Conts).length), (wI E1.Turn), (wI E1.Active), (wI E1.Step), (wB E1.Begun), (wI E1.Priority), (wI E1.Passes), (wI E1.NextId), (wI E1.NextStamp), (.t (.int .u64 E1.Seed)), (.osl 40000116 (List.map (cI .i64) E1.Extra).length), (wI E1.Over), (wI E1.Winner)]), (40000100, .row 14 (List.map Zh E1.Players)), (40000101, .row 19 (List.map Zd E1.Objects)), (40000102, .row 1 (List.map (cI .i64) E1.Battlefield)), (40000103, .row 1 (List.map (cI .i64) E1.Exile)), (40000104, .row 94 (List.map Zl E1.Stack)), (40000105, .row 89 (List.map Zm E1.Waiting)), (40000106, .row 6 (List.map Zn E1.Conts)), (40000116, .row 1 (List.map (cI .i64) E1.Extra))]⟩
 | .L3 E0 E1 v104 v105 => ⟨138, [(1, (.bptr 30000000 0)), (2, (.bptr 30000001 0)), (104, (wI v104)), (105, (wI v105))], [(30000000, .box [(.osl 40000000 (List.map Zh E0.Players).length), (.osl 40000001 (List.map Zd E0.Objects).length), (.osl 40000002 (List.map (cI .i64) E0.Battlefield).length), (.osl 40000003 (List.map (cI .i64) E0.Exile).length), (.osl 40000004 (List.map Zl E0.Stack).length), (.osl 40000005 (List.map Zm E0.Waiting).length), (.osl 40000006 (List.map Zn E0.Conts).length), (wI E0.Turn), (wI E0.Active), (wI E0.Step), (wB E0.Begun), (wI E0.Priority), (wI E0.Passes), (wI E0.NextId), (wI E0.NextStamp), (.t (.int .u64 E0.Seed)), (wL (cI .i64) E0.Extra), (wI E0.Over), (wI E0.Winner)]), (40000000, .row 14 (List.map Zh E0.Players)), (40000001, .row 19 (List.map Zd E0.Objects)), (40000002, .row 1 (List.map (cI .i64) E0.Battlefield)), (40000003, .row 1 (List.map (cI .i64) E0.Exile)), (40000004, .row 94 (List.map Zl E0.Stack)), (40000005, .row 89 (List.map Zm E0.Waiting)), (40000006, .row 6 (List.map Zn E0.Conts)), (30000001, .box [(.osl 40000100 (List.map Zh E1.Players).length), (.osl 40000101 (List.map Zd E1.Objects).length), (.osl 40000102 (List.map (cI .i64) E1.Battlefield).length), (.osl 40000103 (List.map (cI .i64) E1.Exile).length), (.osl 40000104 (List.map Zl E1.Stack).length), (.osl 40000105 (List.map Zm E1.Waiting).length), (.osl 40000106 (List.map Zn E1.Conts).length), (wI E1.Turn), (wI E1.Active), (wI E1.Step), (wB E1.Begun), (wI E1.Priority), (wI E1.Passes), (wI E1.NextId), (wI E1.NextStamp), (.t (.int .u64 E1.Seed)), (.osl 40000116 (List.map (cI .i64) E1.Extra).length), (wI E1.Over), (wI E1.Winner)]), (40000100, .row 14 (List.map Zh E1.Players)), (40000101, .row 19 (List.map Zd E1.Objects)), (40000102, .row 1 (List.map (cI .i64) E1.Battlefield)), (40000103, .row 1 (List.map (cI .i64) E1.Exile)), (40000104, .row 94 (List.map Zl E1.Stack)), (40000105, .row 89 (List.map Zm E1.Waiting)), (40000106, .row 6 (List.map Zn E1.Conts)), (40000116, .row 1 (List.map (cI .i64) E1.Extra))]⟩
abbrev Zun (r : Zc) (y : Zgm ⊕ Zc) : Prop := Ok PR [.c 2 31 true 19] (Zpn) Zn5 Zum Zw8 r y
theorem Za2g (r : Zc) (E0 : Zc) (E1 : Zc) (v13 : Int) (v14 : Int) (y : Zgm ⊕ Zc) (h : Zru E0 E1 v13 v14 = some y) (hk : Zun r y) : (Zum (.L0 E0 E1 v13 v14)).HH PR [.c 2 31 true 19] Zpn Zn5 r (Zw8 (.L0 E0 E1 v13 v14)) :=
 Za h (fun h1 h => Zb h fun x2 h3 h => Zb h fun x4 h5 h => Zb h fun x6 h7 h => lG h hk (((((((((((((((((q0.t 1 h1).o [.nat (Int.toNat v14), .cs (Zh x2), .call (.agg (bx (Zh x4))), .nat (Int.toNat v14), .cs (Zh x2), .es (List.map Zh x6), .ahead 27, .relen 40000000, .stop, .pick [14, 1, 2, 13] [40000000, 30000000, 30000001, 40000100, 40000101, 40000102, 40000103, 40000104, 40000105, 40000106, 40000116], .pick [1, 2, 13, 14] [30000000, 40000000, 30000001, 40000100, 40000101, 40000102, 40000103, 40000104, 40000105, 40000106, 40000116]]).b (Eq.refl (List.map Zh E0.Players).length)).b (Z2 h3)).b (Znh Zh h3)).b (Eq.refl (Int.toNat v14))).b (Eq.refl (List.map Zh E0.Players).length)).b (Zz Zh h3)).b (Zaq1 x2 h5)).b (Eq.refl (List.map Zh E0.Players).length)).b (Z2 h3)).b (Znh Zh h3)).b (Eq.refl (Int.toNat v14))).b (Eq.refl (List.map Zh E0.Players).length)).b (Zz Zh h3)).b (Zaa8 (x := x2) (q := 0) (ts := [(.int .i64 x4.Life), (.int .i64 x4.Venom), (.int .i64 x4.Lands), (.int .i64 x4.Pool.a0), (.int .i64 x4.Pool.a1), (.int .i64 x4.Pool.a2), (.int .i64 x4.Pool.a3), (.int .i64 x4.Pool.a4), (.int .i64 x4.Pool.a5), (.bool x4.Failed), (.bool x4.Lost), (.sl (List.map (cI .i64) x4.Library)), (.sl (List.map (cI .i64) x4.Hand)), (.sl (List.map (cI .i64) x4.Graveyard))]) Zh h7 rfl)).a 5 (Z4v Zh h7))) (fun h1 h => Zb h fun x10 h11 h => Zb h fun x12 h13 h => Zb h fun x14 h15 h => Zb h fun x16 h17 h => lG h hk ((((((((q0.f 1 h1).o [.callO false [] 310000 [(5000, .row 19 (List.map Zd x10))] (.osl 5000 (List.map Zd x10).length), .callO false [] 350000 [(5000, .row 1 (List.map (cI .i64) x12))] (.osl 5000 (List.map (cI .i64) x12).length), .callO false [] 390000 [(5000, .row 1 (List.map (cI .i64) x14))] (.osl 5000 (List.map (cI .i64) x14).length), .callO false [] 430000 [(5000, .row 94 (List.map Zl x16))] (.osl 5000 (List.map Zl x16).length), .num (x16.length : Int), .pick [47, 46, 1, 2] [30000000, 435000, 395000, 355000, 315000, 40000000, 30000001, 40000100, 40000101, 40000102, 40000103, 40000104, 40000105, 40000106, 40000116], .relab 315000 40000001, .relab 355000 40000002, .relab 395000 40000003, .relab 435000 40000004, .pick [1, 2, 46, 47] [30000000, 40000000, 40000001, 40000002, 40000003, 40000004, 30000001, 40000100, 40000101, 40000102, 40000103, 40000104, 40000105, 40000106, 40000116]]).b (Zsp E0.Objects h11)).b (Ze7 E0.Battlefield h13)).b (Ze7 E0.Exile h15)).b (Zvv E0.Stack h17)).b (Eq.refl (List.map Zl x16).length)).b (Zt Zl x16)))
theorem Za2h (r : Zc) (E0 : Zc) (E1 : Zc) (v46 : Int) (v47 : Int) (y : Zgm ⊕ Zc) (h : Zrv E0 E1 v46 v47 = some y) (hk : Zun r y) : (Zum (.L1 E0 E1 v46 v47)).HH PR [.c 2 31 true 19] Zpn Zn5 r (Zw8 (.L1 E0 E1 v46 v47)) :=
 Za h (fun h1 h => Zb h fun x2 h3 h => Zb h fun x4 h5 h => Zb h fun x6 h7 h => Zb h fun x8 h9 h => Zb h fun x10 h11 h => Zb h fun x12 h13 h => lG h hk ((((((((((((((((((((((((((((((((q0.t 1 h1).o [.nat (Int.toNat v47), .cs (Zl x2), .call (.agg (bx (Zab x4))), .nat (Int.toNat v47), .cs (Zl x2), .es (List.map Zl x6), .ahead 15, .relen 40000004, .stop, .nat (Int.toNat v47), .cs (Zl x8), .call (wL Zad x10), .nat (Int.toNat v47), .cs (Zl x8), .es (List.map Zl x12), .ahead 74, .relen 40000004, .stop, .pick [47, 1, 2, 46] [40000004, 30000000, 40000000, 40000001, 40000002, 40000003, 30000001, 40000100, 40000101, 40000102, 40000103, 40000104, 40000105, 40000106, 40000116], .pick [1, 2, 46, 47] [30000000, 40000000, 40000001, 40000002, 40000003, 40000004, 30000001, 40000100, 40000101, 40000102, 40000103, 40000104, 40000105, 40000106, 40000116]]).b (Eq.refl (List.map Zl E0.Stack).length)).b (Z2 h3)).b (Znh Zl h3)).b (Eq.refl (Int.toNat v47))).a 2 (Eq.refl (List.map Zl E0.Stack).length)).b (Zz Zl h3)).b (Z4n x2.Ability h5)).b (Eq.refl (List.map Zl E0.Stack).length)).b (Z2 h3)).b (Znh Zl h3)).b (Eq.refl (Int.toNat v47))).a 2 (Eq.refl (List.map Zl E0.Stack).length)).b (Zz Zl h3)).b (Zaa8 (x := x2) (q := 6) (ts := [(.int .i64 x4.Kind), (.int .i64 x4.Filter.Zone), (.int .i64 x4.Filter.Who), (.int .i64 x4.Filter.Self), (.int .i64 x4.Filter.Types), (.int .i64 x4.Filter.NotTypes), (.int .i64 x4.Filter.Colors), (.int .i64 x4.Filter.NotColors), (.str x4.Filter.Sub), (.int .i64 x4.Filter.Keys), (.int .i64 x4.Filter.Tap), (.int .i64 x4.Filter.Power.Kind), (.int .i64 x4.Filter.Power.N), (.int .i64 x4.Filter.Tough.Kind), (.int .i64 x4.Filter.Tough.N), (.int .i64 x4.Filter.Value.Kind), (.int .i64 x4.Filter.Value.N), (.sl (List.map Zp x4.Mods)), (.int .i64 x4.Price.Mana.Generic), (.int .i64 x4.Price.Mana.X), (.int .i64 x4.Price.Mana.Color.a0), (.int .i64 x4.Price.Mana.Color.a1), (.int .i64 x4.Price.Mana.Color.a2), (.int .i64 x4.Price.Mana.Color.a3), (.int .i64 x4.Price.Mana.Color.a4), (.bool x4.Price.Tap), (.bool x4.Price.Sacrifice), (.int .i64 x4.Price.Life), (.bool x4.Slow), (.int .i64 x4.Trigger.When), (.int .i64 x4.Trigger.Who), (.int .i64 x4.Trigger.Filter.Zone), (.int .i64 x4.Trigger.Filter.Who), (.int .i64 x4.Trigger.Filter.Self), (.int .i64 x4.Trigger.Filter.Types), (.int .i64 x4.Trigger.Filter.NotTypes), (.int .i64 x4.Trigger.Filter.Colors), (.int .i64 x4.Trigger.Filter.NotColors), (.str x4.Trigger.Filter.Sub), (.int .i64 x4.Trigger.Filter.Keys), (.int .i64 x4.Trigger.Filter.Tap), (.int .i64 x4.Trigger.Filter.Power.Kind), (.int .i64 x4.Trigger.Filter.Power.N), (.int .i64 x4.Trigger.Filter.Tough.Kind), (.int .i64 x4.Trigger.Filter.Tough.N), (.int .i64 x4.Trigger.Filter.Value.Kind), (.int .i64 x4.Trigger.Filter.Value.N), (.bool x4.May), (.sl (List.map Z3 x4.Specs)), (.sl (List.map Zk x4.Effects)), (.int .i64 x4.Replace.On), (.int .i64 x4.Replace.Who), (.int .i64 x4.Replace.Filter.Zone), (.int .i64 x4.Replace.Filter.Who), (.int .i64 x4.Replace.Filter.Self), (.int .i64 x4.Replace.Filter.Types), (.int .i64 x4.Replace.Filter.NotTypes), (.int .i64 x4.Replace.Filter.Colors), (.int .i64 x4.Replace.Filter.NotColors), (.str x4.Replace.Filter.Sub), (.int .i64 x4.Replace.Filter.Keys), (.int .i64 x4.Replace.Filter.Tap), (.int .i64 x4.Replace.Filter.Power.Kind), (.int .i64 x4.Replace.Filter.Power.N), (.int .i64 x4.Replace.Filter.Tough.Kind), (.int .i64 x4.Replace.Filter.Tough.N), (.int .i64 x4.Replace.Filter.Value.Kind), (.int .i64 x4.Replace.Filter.Value.N), (.int .i64 x4.Replace.Do), (.int .i64 x4.Replace.N), (.int .i64 x4.Replace.Zone), (.int .i64 x4.Replace.Counter)]) Zl h7 rfl)).a 7 (Z4v Zl h7)).b (Eq.refl (List.map Zl x6).length)).b (Z2 h9)).b (Znh Zl h9)).b (Eq.refl (Int.toNat v47))).a 2 (Eq.refl (List.map Zl x6).length)).b (Zz Zl h9)).b (Ztr x8.Targets h11)).b (Eq.refl (List.map Zl x6).length)).b (Z2 h9)).b (Znh Zl h9)).b (Eq.refl (Int.toNat v47))).a 2 (Eq.refl (List.map Zl x6).length)).b (Zz Zl h9)).b (Zaa8 (x := x8) (q := 78) (ts := [(.sl (List.map Zad x10))]) Zl h13 rfl)).a 13 (Z4v Zl h13))) (fun h1 h => Zb h fun x16 h17 h => lG h hk (((((q0.f 1 h1).o [.callO false [] 780000 [(5000, .row 89 (List.map Zm x16))] (.osl 5000 (List.map Zm x16).length), .num (x16.length : Int), .pick [82, 81, 1, 2] [30000000, 785000, 40000000, 40000001, 40000002, 40000003, 40000004, 30000001, 40000100, 40000101, 40000102, 40000103, 40000104, 40000105, 40000106, 40000116], .relab 785000 40000005, .pick [1, 2, 81, 82] [30000000, 40000000, 40000001, 40000002, 40000003, 40000004, 40000005, 30000001, 40000100, 40000101, 40000102, 40000103, 40000104, 40000105, 40000106, 40000116]]).b (Zrb E0.Waiting h17)).b (Eq.refl (List.map Zm x16).length)).b (Zt Zm x16)))
theorem Za2i (r : Zc) (E0 : Zc) (E1 : Zc) (v81 : Int) (v82 : Int) (y : Zgm ⊕ Zc) (h : Zrw E0 E1 v81 v82 = some y) (hk : Zun r y) : (Zum (.L2 E0 E1 v81 v82)).HH PR [.c 2 31 true 19] Zpn Zn5 r (Zw8 (.L2 E0 E1 v81 v82)) :=
 Za h (fun h1 h => Zb h fun x2 h3 h => Zb h fun x4 h5 h => Zb h fun x6 h7 h => lG h hk (((((((((((((((((q0.t 1 h1).o [.nat (Int.toNat v82), .cs (Zm x2), .call (.agg (bx (Zab x4))), .nat (Int.toNat v82), .cs (Zm x2), .es (List.map Zm x6), .ahead 97, .relen 40000005, .stop, .pick [82, 1, 2, 81] [40000005, 30000000, 40000000, 40000001, 40000002, 40000003, 40000004, 30000001, 40000100, 40000101, 40000102, 40000103, 40000104, 40000105, 40000106, 40000116], .pick [1, 2, 81, 82] [30000000, 40000000, 40000001, 40000002, 40000003, 40000004, 40000005, 30000001, 40000100, 40000101, 40000102, 40000103, 40000104, 40000105, 40000106, 40000116]]).b (Eq.refl (List.map Zm E0.Waiting).length)).b (Z2 h3)).b (Znh Zm h3)).b (Eq.refl (Int.toNat v82))).a 2 (Eq.refl (List.map Zm E0.Waiting).length)).b (Zz Zm h3)).b (Z4n x2.Ability h5)).b (Eq.refl (List.map Zm E0.Waiting).length)).b (Z2 h3)).b (Znh Zm h3)).b (Eq.refl (Int.toNat v82))).a 2 (Eq.refl (List.map Zm E0.Waiting).length)).b (Zz Zm h3)).b (Zaa8 (x := x2) (q := 2) (ts := [(.int .i64 x4.Kind), (.int .i64 x4.Filter.Zone), (.int .i64 x4.Filter.Who), (.int .i64 x4.Filter.Self), (.int .i64 x4.Filter.Types), (.int .i64 x4.Filter.NotTypes), (.int .i64 x4.Filter.Colors), (.int .i64 x4.Filter.NotColors), (.str x4.Filter.Sub), (.int .i64 x4.Filter.Keys), (.int .i64 x4.Filter.Tap), (.int .i64 x4.Filter.Power.Kind), (.int .i64 x4.Filter.Power.N), (.int .i64 x4.Filter.Tough.Kind), (.int .i64 x4.Filter.Tough.N), (.int .i64 x4.Filter.Value.Kind), (.int .i64 x4.Filter.Value.N), (.sl (List.map Zp x4.Mods)), (.int .i64 x4.Price.Mana.Generic), (.int .i64 x4.Price.Mana.X), (.int .i64 x4.Price.Mana.Color.a0), (.int .i64 x4.Price.Mana.Color.a1), (.int .i64 x4.Price.Mana.Color.a2), (.int .i64 x4.Price.Mana.Color.a3), (.int .i64 x4.Price.Mana.Color.a4), (.bool x4.Price.Tap), (.bool x4.Price.Sacrifice), (.int .i64 x4.Price.Life), (.bool x4.Slow), (.int .i64 x4.Trigger.When), (.int .i64 x4.Trigger.Who), (.int .i64 x4.Trigger.Filter.Zone), (.int .i64 x4.Trigger.Filter.Who), (.int .i64 x4.Trigger.Filter.Self), (.int .i64 x4.Trigger.Filter.Types), (.int .i64 x4.Trigger.Filter.NotTypes), (.int .i64 x4.Trigger.Filter.Colors), (.int .i64 x4.Trigger.Filter.NotColors), (.str x4.Trigger.Filter.Sub), (.int .i64 x4.Trigger.Filter.Keys), (.int .i64 x4.Trigger.Filter.Tap), (.int .i64 x4.Trigger.Filter.Power.Kind), (.int .i64 x4.Trigger.Filter.Power.N), (.int .i64 x4.Trigger.Filter.Tough.Kind), (.int .i64 x4.Trigger.Filter.Tough.N), (.int .i64 x4.Trigger.Filter.Value.Kind), (.int .i64 x4.Trigger.Filter.Value.N), (.bool x4.May), (.sl (List.map Z3 x4.Specs)), (.sl (List.map Zk x4.Effects)), (.int .i64 x4.Replace.On), (.int .i64 x4.Replace.Who), (.int .i64 x4.Replace.Filter.Zone), (.int .i64 x4.Replace.Filter.Who), (.int .i64 x4.Replace.Filter.Self), (.int .i64 x4.Replace.Filter.Types), (.int .i64 x4.Replace.Filter.NotTypes), (.int .i64 x4.Replace.Filter.Colors), (.int .i64 x4.Replace.Filter.NotColors), (.str x4.Replace.Filter.Sub), (.int .i64 x4.Replace.Filter.Keys), (.int .i64 x4.Replace.Filter.Tap), (.int .i64 x4.Replace.Filter.Power.Kind), (.int .i64 x4.Replace.Filter.Power.N), (.int .i64 x4.Replace.Filter.Tough.Kind), (.int .i64 x4.Replace.Filter.Tough.N), (.int .i64 x4.Replace.Filter.Value.Kind), (.int .i64 x4.Replace.Filter.Value.N), (.int .i64 x4.Replace.Do), (.int .i64 x4.Replace.N), (.int .i64 x4.Replace.Zone), (.int .i64 x4.Replace.Counter)]) Zm h7 rfl)).a 7 (Z4v Zm h7))) (fun h1 h => Zb h fun x10 h11 h => lG h hk (((((q0.f 1 h1).o [.callO false [] 1010000 [(5000, .row 6 (List.map Zn x10))] (.osl 5000 (List.map Zn x10).length), .num (x10.length : Int), .pick [105, 104, 1, 2] [30000000, 1015000, 40000000, 40000001, 40000002, 40000003, 40000004, 40000005, 30000001, 40000100, 40000101, 40000102, 40000103, 40000104, 40000105, 40000106, 40000116], .relab 1015000 40000006, .pick [1, 2, 104, 105] [30000000, 40000000, 40000001, 40000002, 40000003, 40000004, 40000005, 40000006, 30000001, 40000100, 40000101, 40000102, 40000103, 40000104, 40000105, 40000106, 40000116]]).b (Zv1 E0.Conts h11)).b (Eq.refl (List.map Zn x10).length)).b (Zt Zn x10)))
theorem Za2j (r : Zc) (E0 : Zc) (E1 : Zc) (v104 : Int) (v105 : Int) (y : Zgm ⊕ Zc) (h : Zrx E0 E1 v104 v105 = some y) (hk : Zun r y) : (Zum (.L3 E0 E1 v104 v105)).HH PR [.c 2 31 true 19] Zpn Zn5 r (Zw8 (.L3 E0 E1 v104 v105)) :=
 Za h (fun h1 h => Zb h fun x2 h3 h => Zb h fun x4 h5 h => Zb h fun x6 h7 h => Zb h fun x8 h9 h => Zb h fun x10 h11 h => Zb h fun x12 h13 h => lG h hk ((((((((((((((((((((((((((((((((q0.t 1 h1).o [.nat (Int.toNat v105), .cs (Zn x2), .call (wL (cI .i64) x4), .nat (Int.toNat v105), .cs (Zn x2), .es (List.map Zn x6), .ahead 28, .relen 40000006, .stop, .nat (Int.toNat v105), .cs (Zn x8), .call (wL Zp x10), .nat (Int.toNat v105), .cs (Zn x8), .es (List.map Zn x12), .ahead 132, .relen 40000006, .stop, .pick [105, 1, 2, 104] [40000006, 30000000, 40000000, 40000001, 40000002, 40000003, 40000004, 40000005, 30000001, 40000100, 40000101, 40000102, 40000103, 40000104, 40000105, 40000106, 40000116], .pick [1, 2, 104, 105] [30000000, 40000000, 40000001, 40000002, 40000003, 40000004, 40000005, 40000006, 30000001, 40000100, 40000101, 40000102, 40000103, 40000104, 40000105, 40000106, 40000116]]).b (Eq.refl (List.map Zn E0.Conts).length)).b (Z2 h3)).b (Znh Zn h3)).b (Eq.refl (Int.toNat v105))).a 2 (Eq.refl (List.map Zn E0.Conts).length)).b (Zz Zn h3)).b (Z8q x2.Objects h5)).b (Eq.refl (List.map Zn E0.Conts).length)).b (Z2 h3)).b (Znh Zn h3)).b (Eq.refl (Int.toNat v105))).a 2 (Eq.refl (List.map Zn E0.Conts).length)).b (Zz Zn h3)).b (Zaa8 (x := x2) (q := 4) (ts := [(.sl (List.map (cI .i64) x4))]) Zn h7 rfl)).a 7 (Z4v Zn h7)).b (Eq.refl (List.map Zn x6).length)).b (Z2 h9)).b (Znh Zn h9)).b (Eq.refl (Int.toNat v105))).a 2 (Eq.refl (List.map Zn x6).length)).b (Zz Zn h9)).b (Zob x8.Mods h11)).b (Eq.refl (List.map Zn x6).length)).b (Z2 h9)).b (Znh Zn h9)).b (Eq.refl (Int.toNat v105))).a 2 (Eq.refl (List.map Zn x6).length)).b (Zz Zn h9)).b (Zaa8 (x := x8) (q := 5) (ts := [(.sl (List.map Zp x10))]) Zn h13 rfl)).a 13 (Z4v Zn h13))) (fun h1 h => Zb h fun x16 h17 h => lO h hk [5000, 5001, 5002, 5003, 5004, 5005, 5006, 5016] (((q0.f 1 h1).o [.callO false [] 1360000 [(5000, .row 1 (List.map (cI .i64) x16))] (.osl 5000 (List.map (cI .i64) x16).length), .relab 40000000 5000, .relab 40000001 5001, .relab 40000002 5002, .relab 40000003 5003, .relab 40000004 5004, .relab 40000005 5005, .relab 40000006 5006, .relab 1365000 5016]).b (Ze7 E0.Extra h17)))
theorem Za54 (r : Zc) (a0 : Zc) (y : Zgm ⊕ Zc) (h : Zagr a0 = some y) (hk : Zun r y) : (Cfg.code Zu2 []).HH PR [.c 2 31 true 19] Zpn Zn5 r ⟨138, idx 0 [(.agg (bx (Z4 a0)))], []⟩ :=
 Zb h fun x1 h2 h => lG h hk ((((q0.o [.lab 1001, .lab 1002, .callO false [] 100000 [(5000, .row 14 (List.map Zh x1))] (.osl 5000 (List.map Zh x1).length), .num (x1.length : Int), .pick [14, 13, 2, 1] [1001, 105000, 1002], .relab 1001 30000000, .relab 1002 30000001, .relab 105000 40000000, .ownb 30000001 0 40000100 14, .ownb 30000001 1 40000101 19, .ownb 30000001 2 40000102 1, .ownb 30000001 3 40000103 1, .ownb 30000001 4 40000104 94, .ownb 30000001 5 40000105 89, .ownb 30000001 6 40000106 6, .ownb 30000001 16 40000116 1, .pick [1, 2, 13, 14] [30000000, 40000000, 30000001, 40000100, 40000101, 40000102, 40000103, 40000104, 40000105, 40000106, 40000116]]).b (Zsn a0.Players h2)).b (Eq.refl (List.map Zh x1).length)).b (Zt Zh x1))
theorem Zbak (a0 : Zc) {r : Zc} (h : Z7h a0 = some r) : FnG PR 43 [] [(.agg (bx (Z4 a0)))] ((Zpn) r) (Zn5 r) :=
 Zb h fun y h0 h1 => FnG.of_cfg hT Go.Proofs.Tryz.func43 (by kernel_rfl : _ = some Zu2) (by kernel_rfl) 138 (by kernel_rfl) (Nat.le_of_ble_eq_true rfl) [.c 2 31 true 19] (by kernel_rfl) (by kernel_rfl) (Za54 r a0 y h0 (Z0 (fun s y h hk => match s with
 | .L0 E0 E1 v13 v14 => Za2g r E0 E1 v13 v14 y h hk
 | .L1 E0 E1 v46 v47 => Za2h r E0 E1 v46 v47 y h hk
 | .L2 E0 E1 v81 v82 => Za2i r E0 E1 v81 v82 y h hk
 | .L3 E0 E1 v104 v105 => Za2j r E0 E1 v104 v105 y h hk) h1))
theorem Zbfd (a0 : Zc) {r : Zc} (h : Z7h a0 = some r) : Fn PR 43 [(.agg (bx (Z4 a0)))] (.agg (bx (Z4 r))) :=
 FnG.frozen (Zbak a0 h) (And.intro (Eq.refl (List.map Zh r.Players).length) (And.intro (Eq.refl (List.map Zd r.Objects).length) (And.intro (Eq.refl (List.map (cI .i64) r.Battlefield).length) (And.intro (Eq.refl (List.map (cI .i64) r.Exile).length) (And.intro (Eq.refl (List.map Zl r.Stack).length) (And.intro (Eq.refl (List.map Zm r.Waiting).length) (And.intro (Eq.refl (List.map Zn r.Conts).length) (And.intro (Eq.refl (List.map (cI .i64) r.Extra).length) trivial)))))))) (by kernel_rfl)
noncomputable def Z4o : Code := (Go.Proofs.Tryz.f83.body).getD .skip
noncomputable def Zr9 (r : Bool) : PV := (wB r)
noncomputable def Zts (b0 : Int) (r : Bool) : List (Nat × Blk) := [(0, .box (List.map .t ((cI .i64) b0)))]
noncomputable def Zai1 : Zij → Cfg := fun s => nomatch s
noncomputable def Zalq : Zij → PW.St := fun s => nomatch s
abbrev Zai2 (b0 : Int) (r : Bool) (y : Zij ⊕ Bool) : Prop := Ok PR [.t 3] (Zts b0) Zr9 Zai1 Zalq r y
theorem Zahu (r : Bool) (a0 : Zf) (b0 : Int) (y : Zij ⊕ Bool) (h : Z4l a0 b0 = some y) (hk : Zai2 b0 r y) : (Cfg.code Z4o []).holds PR (Upto (RetQ [.t 3] ((Zts b0) r) (Zr9 r))) ⟨8, idx 0 [(.agg (bx (Zd a0))), (.bptr 0 0)], [(0, .box (List.map .t ((cI .i64) b0)))]⟩ :=
 lO h hk [0] (q0.o [.lab 1002])
theorem Zai3 (a0 : Zf) (b0 : Int) {r : Bool} (h : Zyi a0 b0 = some r) : FnG PR 83 [(0, .box (List.map .t ((cI .i64) b0)))] [(.agg (bx (Zd a0))), (.bptr 0 0)] ((Zts b0) r) (Zr9 r) :=
 Zb h fun y h0 h1 => FnG.of_cfg hT Go.Proofs.Tryz.func83 (by kernel_rfl : _ = some Z4o) (by kernel_rfl) 8 (by kernel_rfl) (Nat.le_of_ble_eq_true rfl) [.t 3] (by kernel_rfl) (by kernel_rfl) (Zahu r a0 b0 y h0 (Z0 (fun s _ _ _ => nomatch s) h1))
noncomputable def Zel : Code := (Go.Proofs.Tryz.f82.body).getD .skip
noncomputable def Zcp (r : (Int × Int)) : PV := (wI r.1)
noncomputable def Zcq (r : (Int × Int)) : List (Nat × Blk) := [(0, .box (List.map .t ((cI .i64) r.2)))]
noncomputable def Zgj : Zae → Cfg
 | .L0 _ _ _ _ => (nav [1, 0, 1, 4] Zel []).getD (.done .normal)
noncomputable def Zgs : Zae → PW.St
 | .L0 v0 b0 v7 v8 => ⟨19, [(0, (wL Zd v0)), (1, (.fn 83 [(.bptr 0 0)])), (7, (wI v7)), (8, (wI v8))], [(0, .box [(wI b0)])]⟩
abbrev Zgk (r : (Int × Int)) (y : Zae ⊕ (Int × Int)) : Prop := Ok PR [.t 4] (Zcq) Zcp Zgj Zgs r y
theorem Zk8 (r : (Int × Int)) (v0 : (List Zf)) (b0 : Int) (v7 : Int) (v8 : Int) (y : Zae ⊕ (Int × Int)) (h : Zam v0 b0 v7 v8 = some y) (hk : Zgk r y) : (Zgj (.L0 v0 b0 v7 v8)).HH PR [.t 4] Zcq Zcp r (Zgs (.L0 v0 b0 v7 v8)) :=
 Za h (fun h1 h => have q := (q0.t 1 h1).b (Zs Zd 19 (fun _ => rfl) v0);
 Zb h fun x2 h3 h => have q := ((q.o [.cs (Zd x2)]).b (Z2 h3)).b (Zz Zd h3);
 Zb h fun x4 h5 h => have q := (q.o [.callO false [0] 170000 [] (wB x4)]).b (Zai3 x2 b0 h5);
 Za h (fun h6 h => lO h hk [0] (q.t 1 h6)) (fun h6 h => lG h hk ((q.f 1 h6).o [.pick [8, 0, 1, 7] [0], .pick [0, 1, 7, 8] [0]]))) (fun h1 h => lO h hk [0] (q0.f 1 h1))
theorem Zl1 (r : (Int × Int)) (a0 : (List Zf)) (b0 : Int) (y : Zae ⊕ (Int × Int)) (h : Zek a0 b0 = some y) (hk : Zgk r y) : (Cfg.code Zel []).HH PR [.t 4] Zcq Zcp r ⟨19, idx 0 [(wL Zd a0), (.fn 83 [(.bptr 0 0)])], [(0, .box (List.map .t ((cI .i64) b0)))]⟩ :=
 lG h hk ((q0.o [.num (a0.length : Int), .pick [8, 7, 1, 0] [0], .pick [0, 1, 7, 8] [0]]).b (Zt Zd a0))
theorem Zmb (a0 : (List Zf)) (b0 : Int) {r : (Int × Int)} (h : Ze4 a0 b0 = some r) : FnG PR 82 [(0, .box (List.map .t ((cI .i64) b0)))] [(wL Zd a0), (.fn 83 [(.bptr 0 0)])] ((Zcq) r) (Zcp r) :=
 Zb h fun y h0 h1 => FnG.of_cfg hT Go.Proofs.Tryz.func82 (by kernel_rfl : _ = some Zel) (by kernel_rfl) 19 (by kernel_rfl) (Nat.le_of_ble_eq_true rfl) [.t 4] (by kernel_rfl) (by kernel_rfl) (Zl1 r a0 b0 y h0 (Z0 (fun s y h hk => match s with
 | .L0 v0 b0 v7 v8 => Zk8 r v0 b0 v7 v8 y h hk) h1))
noncomputable def Zaq2 : Code := (Go.Proofs.Tryz.f51.body).getD .skip
noncomputable def Z5y (r : Int) : PV := (wI r)
noncomputable def Zanf (r : Int) : List (Nat × Blk) := []
noncomputable def Za55 : Zpj → Cfg := fun s => nomatch s
noncomputable def Zbal : Zpj → PW.St := fun s => nomatch s
abbrev Za56 (r : Int) (y : Zpj ⊕ Int) : Prop := Ok PR [.t 4] (Zanf) Z5y Za55 Zbal r y
theorem Za2k (r : Int) (a0 : Zc) (a1 : Int) (y : Zpj ⊕ Int) (h : Zabp a0 a1 = some y) (hk : Za56 r y) : (Cfg.code Zaq2 []).HH PR [.t 4] Zanf Z5y r ⟨9, idx 0 [(.agg (bx (Z4 a0))), (wI a1)], []⟩ :=
 Zb h fun x1 h2 h => lR h hk ((q0.o [.lab 1002, .lab 1003, .callU false [1003] 90000 [(0, .box (List.map .t ((cI .i64) x1.2)))] (wI x1.1)]).b (Zmb a0.Objects a1 h2))
theorem Zbam (a0 : Zc) (a1 : Int) {r : Int} (h : Zakt a0 a1 = some r) : Fn PR 51 [(.agg (bx (Z4 a0))), (wI a1)] (Z5y r) :=
 Zb h fun y h0 h1 => FnG.of_cfg hT Go.Proofs.Tryz.func51 (by kernel_rfl : _ = some Zaq2) (by kernel_rfl) 9 (by kernel_rfl) (Nat.le_of_ble_eq_true rfl) [.t 4] (by kernel_rfl) (by kernel_rfl) (Za2k r a0 a1 y h0 (Z0 (fun s _ _ _ => nomatch s) h1))
noncomputable def Zavm : Code := (Go.Proofs.Tryz.f23.body).getD .skip
noncomputable def Z8r (r : (Zf × Bool)) : PV := (.tup [(.agg (bx (Zd r.1))), (wB r.2)])
noncomputable def Zaq3 (r : (Zf × Bool)) : List (Nat × Blk) := []
noncomputable def Zban : Zqs → Cfg := fun s => nomatch s
noncomputable def Zbfe : Zqs → PW.St := fun s => nomatch s
abbrev Zbao (r : (Zf × Bool)) (y : Zqs ⊕ (Zf × Bool)) : Prop := Ok PR [.c 4 44 true 19, .t 5] (Zaq3) Z8r Zban Zbfe r y
theorem Za57 (r : (Zf × Bool)) (a0 : Zc) (a1 : Int) (y : Zqs ⊕ (Zf × Bool)) (h : Zagt a0 a1 = some y) (hk : Zbao r y) : (Cfg.code Zavm []).HH PR [.c 4 44 true 19, .t 5] Zaq3 Z8r r ⟨18, idx 0 [(.agg (bx (Z4 a0))), (wI a1)], []⟩ := have q := q0.o [.lab 1002, .lab 1004];
 Zb h fun x1 h2 h => have q := (q.o [.call (wI x1)]).b (Zbam a0 a1 h2);
 Za h (fun h3 h => lR h hk (q.t 1 h3)) (fun h3 h => Zb h fun x4 h5 h => lR h hk (((((q.f 1 h3).o [.cs (Zd x4)]).b (Zs Zd 19 (fun _ => rfl) a0.Objects)).b (Z2 h5)).b (Zz Zd h5)))
theorem Zbff (a0 : Zc) (a1 : Int) {r : (Zf × Bool)} (h : Zae6 a0 a1 = some r) : Fn PR 23 [(.agg (bx (Z4 a0))), (wI a1)] (Z8r r) :=
 Zb h fun y h0 h1 => FnG.of_cfg hT Go.Proofs.Tryz.func23 (by kernel_rfl : _ = some Zavm) (by kernel_rfl) 18 (by kernel_rfl) (Nat.le_of_ble_eq_true rfl) [.c 4 44 true 19, .t 5] (by kernel_rfl) (by kernel_rfl) (Za57 r a0 a1 y h0 (Z0 (fun s _ _ _ => nomatch s) h1))
noncomputable def Zo1 : Code := (Go.Proofs.Tryz.f52.body).getD .skip
noncomputable def Zj5 (r : Int) : PV := (wI r)
noncomputable def Zn6 (r : Int) : List (Nat × Blk) := []
noncomputable def Zs1 : Zdo → Cfg
 | .L0 _ _ _ _ => (nav [1, 0, 1, 4] Zo1 []).getD (.done .normal)
noncomputable def Zuo : Zdo → PW.St
 | .L0 v0 v1 v7 v8 => ⟨19, [(0, (wL (cI .i64) v0)), (1, (wI v1)), (7, (wI v7)), (8, (wI v8))], []⟩
abbrev Zs2 (r : Int) (y : Zdo ⊕ Int) : Prop := Ok PR [.t 4] (Zn6) Zj5 Zs1 Zuo r y
theorem Z4i (r : Int) (v0 : (List Int)) (v1 : Int) (v7 : Int) (v8 : Int) (y : Zdo ⊕ Int) (h : Zf9 v0 v1 v7 v8 = some y) (hk : Zs2 r y) : (Zs1 (.L0 v0 v1 v7 v8)).HH PR [.t 4] Zn6 Zj5 r (Zuo (.L0 v0 v1 v7 v8)) :=
 Za h (fun h1 h => have q := (q0.t 1 h1).b (Zs (cI .i64) 1 (fun _ => rfl) v0);
 Zb h fun x2 h3 h => have q := ((q.o [.cs ((cI .i64) x2)]).b (Z2 h3)).b (Zz (cI .i64) h3);
 Za h (fun h4 h => lR h hk (q.t 1 h4)) (fun h4 h => lG h hk ((q.f 1 h4).o [.pick [8, 0, 1, 7] [], .pick [0, 1, 7, 8] []]))) (fun h1 h => lR h hk (q0.f 1 h1))
theorem Z5z (r : Int) (a0 : (List Int)) (a1 : Int) (y : Zdo ⊕ Int) (h : Zov a0 a1 = some y) (hk : Zs2 r y) : (Cfg.code Zo1 []).HH PR [.t 4] Zn6 Zj5 r ⟨19, idx 0 [(wL (cI .i64) a0), (wI a1)], []⟩ :=
 lG h hk ((q0.o [.num (a0.length : Int), .pick [8, 7, 1, 0] [], .pick [0, 1, 7, 8] []]).b (Zt (cI .i64) a0))
theorem Z8s (a0 : (List Int)) (a1 : Int) {r : Int} (h : Zpu a0 a1 = some r) : Fn PR 52 [(wL (cI .i64) a0), (wI a1)] (Zj5 r) :=
 Zb h fun y h0 h1 => FnG.of_cfg hT Go.Proofs.Tryz.func52 (by kernel_rfl : _ = some Zo1) (by kernel_rfl) 19 (by kernel_rfl) (Nat.le_of_ble_eq_true rfl) [.t 4] (by kernel_rfl) (by kernel_rfl) (Z5z r a0 a1 y h0 (Z0 (fun s y h hk => match s with
 | .L0 v0 v1 v7 v8 => Z4i r v0 v1 v7 v8 y h hk) h1))
noncomputable def Zsa : Code := (Go.Proofs.Tryz.f24.body).getD .skip
noncomputable def Zl2 (r : Bool) : PV := (wB r)
noncomputable def Zq0 (r : Bool) : List (Nat × Blk) := []
noncomputable def Z3x : Zev → Cfg := fun s => nomatch s
noncomputable def Z4j : Zev → PW.St := fun s => nomatch s
abbrev Z3y (r : Bool) (y : Zev ⊕ Bool) : Prop := Ok PR [.t 4] (Zq0) Zl2 Z3x Z4j r y
theorem Z1u (r : Bool) (a0 : (List Int)) (a1 : Int) (y : Zev ⊕ Bool) (h : Zmt a0 a1 = some y) (hk : Z3y r y) : (Cfg.code Zsa []).HH PR [.t 4] Zq0 Zl2 r ⟨9, idx 0 [(wL (cI .i64) a0), (wI a1)], []⟩ :=
 Zb h fun x1 h2 h => lR h hk ((q0.o [.call (wI x1)]).b (Z8s a0 a1 h2))
theorem Zq1 (a0 : (List Int)) (a1 : Int) {r : Bool} (h : Zhz a0 a1 = some r) : Fn PR 24 [(wL (cI .i64) a0), (wI a1)] (Zl2 r) :=
 Zb h fun y h0 h1 => FnG.of_cfg hT Go.Proofs.Tryz.func24 (by kernel_rfl : _ = some Zsa) (by kernel_rfl) 9 (by kernel_rfl) (Nat.le_of_ble_eq_true rfl) [.t 4] (by kernel_rfl) (by kernel_rfl) (Z1u r a0 a1 y h0 (Z0 (fun s _ _ _ => nomatch s) h1))
noncomputable def Zads : Code := (Go.Proofs.Tryz.f10.body).getD .skip
noncomputable def Zyf (r : Bool) : PV := (wB r)
noncomputable def Z8t (r : Bool) : List (Nat × Blk) := []
noncomputable def Zai4 : Zlu → Cfg
 | .L0 _ _ _ _ _ _ => (nav [1, 1, 1, 0, 1, 4] Zads []).getD (.done .normal)
noncomputable def Zang : Zlu → PW.St
 | .L0 v1 v2 E0 E1 v20 v21 => ⟨67, [(1, (wI v1)), (2, (wI v2)), (3, (.bptr 30000000 0)), (7, (.bptr 30000001 0)), (20, (wI v20)), (21, (wI v21))], [(30000000, .box (bx (Z4 E0))), (30000001, .box (bx (Zd E1)))]⟩
abbrev Zai5 (r : Bool) (y : Zlu ⊕ Bool) : Prop := Ok PR [.t 6] (Z8t) Zyf Zai4 Zang r y
theorem Zaxp (r : Bool) (v1 : Int) (v2 : Int) (E0 : Zc) (E1 : Zf) (v20 : Int) (v21 : Int) (y : Zlu ⊕ Bool) (h : Zp2 v1 v2 E0 E1 v20 v21 = some y) (hk : Zai5 r y) : (Zai4 (.L0 v1 v2 E0 E1 v20 v21)).HH PR [.t 6] Z8t Zyf r (Zang (.L0 v1 v2 E0 E1 v20 v21)) :=
 Za h (fun h1 h => have q := (q0.t 1 h1).b (Zs Zh 14 (fun _ => rfl) E0.Players);
 Zb h fun x2 h3 h => have q := ((q.o [.cs (Zh x2)]).b (Z2 h3)).b (Zz Zh h3);
 Zb h fun x4 h5 h => have q := (q.k x4).b (Zq1 x2.Library v2 h5);
 Za h (fun h6 h => lR h hk (((q.tt 7).a 6 h6).b (Eq.refl true))) (fun h6 h => have q := q.f 4 h6;
 Za h (fun h7 h => have q := ((((((q.t 4 h7).o [.cs (Zh x2)]).tt 4).b (Zs Zh 14 (fun _ => rfl) E0.Players)).b (Z2 h3)).b (Zz Zh h3)).a 4 h7;
 Zb h fun x8 h9 h => have q := ((((q.k x8).f 1 (Zq1 x2.Hand v2 h9)).t 1 h6).f 1 h7).b h6;
 Za h (fun h10 h => lR h hk (q.t 1 h10)) (fun h10 h => lG h hk ((q.f 1 h10).o [.pick [21, 1, 2, 3, 7, 20] [30000000, 30000001], .pick [1, 2, 3, 7, 20, 21] [30000000, 30000001]]))) (fun h7 h => lG h hk (((((((q.ff 12).o [.pick [21, 1, 2, 3, 7, 20] [30000000, 30000001], .pick [1, 2, 3, 7, 20, 21] [30000000, 30000001]]).a 8 h7).b h6).b h7).b h6).b (Eq.refl false))))) (fun h1 h => have q := q0.f 1 h1;
 Za h (fun h15 h => have q := q.t 4 h15;
 Za h (fun h16 h => lR h hk (((((q.tt 7).a 4 h16).b h15).b h16).b h15)) (fun h16 h => have q := q.f 3 h16;
 Za h (fun h17 h => lR h hk ((((((((((q.t 4 h17).n (E0.Players.length : Int)).t 1 (Zt Zh E0.Players)).f 1 h17).tt 2).f 1 h16).t 1 h17).b h15).b h16).b h15)) (fun h17 h => lR h hk ((((((((((q.ff 7).tt 1).ff 1).tt 1).a 5 h17).b h16).b h17).b h15).b h16).b h15)))) (fun h15 h => lR h hk (q.f 6 h15)))
theorem Za2l (r : Bool) (a0 : Zc) (a1 : Int) (a2 : Int) (y : Zlu ⊕ Bool) (h : Zabq a0 a1 a2 = some y) (hk : Zai5 r y) : (Cfg.code Zads []).HH PR [.t 6] Z8t Zyf r ⟨67, idx 0 [(.agg (bx (Z4 a0))), (wI a1), (wI a2)], []⟩ := have q := q0.o [.lab 1003];
 Zb h fun x1 h2 h => have q := (q.o [.call (.tup [(.agg (bx (Zd x1.1))), (wB x1.2)]), .lab 1007]).b (Zbff a0 a2 h2);
 Za h (fun h3 h => lR h hk (q.t 1 h3)) (fun h3 h => lG h hk (((q.f 1 h3).o [.num (a0.Players.length : Int), .pick [21, 20, 7, 3, 2, 1] [1007, 1003], .relab 1003 30000000, .relab 1007 30000001, .pick [1, 2, 3, 7, 20, 21] [30000000, 30000001]]).b (Zt Zh a0.Players)))
theorem Zp3 (a0 : Zc) (a1 : Int) (a2 : Int) {r : Bool} (h : Zow a0 a1 a2 = some r) : Fn PR 10 [(.agg (bx (Z4 a0))), (wI a1), (wI a2)] (Zyf r) :=
 Zb h fun y h0 h1 => FnG.of_cfg hT Go.Proofs.Tryz.func10 (by kernel_rfl : _ = some Zads) (by kernel_rfl) 67 (by kernel_rfl) (Nat.le_of_ble_eq_true rfl) [.t 6] (by kernel_rfl) (by kernel_rfl) (Za2l r a0 a1 a2 y h0 (Z0 (fun s y h hk => match s with
 | .L0 v1 v2 E0 E1 v20 v21 => Zaxp r v1 v2 E0 E1 v20 v21 y h hk) h1))
end
end Go.PW
