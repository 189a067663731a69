import Derived.Test.YtiglnkgoicjjfaaGreatQDa
set_option linter.all false
set_option maxRecDepth 100000
namespace Go.PW
open Go.RowKit
noncomputable section
def Zdo(a0:List Zab)(hne:a0≠[]):LT Empty (List Zab):=
.ne Zd hne<|.kn [0]<|.lb 1005<|.apR Zd 768 ([]:List Zab) a0 fun x1=>.ret x1 [.relab 1005 5000]
def Zbl:LF Empty (List Zab) := .z 51 [.t 2] true (fun r=>[(5000,wR Zd 89 r)]) (fun r=>(wO Zd 5000 r))
def Zdk(c:Nat):LT Empty (List Zab):=
.kn [0]<|.ret ([]:List Zab) [.own 2 5000 89]
def Zkw(c:Nat)(ad:Addr):LT Empty (List Zab):=
.kn [0]<|.lb 1005<|.apR Zd 768 ([]:List Zab) ([]:List Zab) fun x1=>.ret x1 [.relab 1005 5000]
open Classical in
def Zcg(a0:List Zab):Option (List Zab):=if h:a0≠[] then Zbl.run (Zdo a0 h) else Zbl.run (Zdk 0)
theorem Zg2(a0:List Zab){r:List Zab}(h:Zcg a0=some r):FnG PR 51 [] [wL Zd a0] [(5000,wR Zd 89 r)] (wO Zd 5000 r):=by
 by_cases hne:a0=[]
 .subst hne
  have h0:Zbl.run (Zdk 0)=some r:=h
  exact FnG.split0 (fun e=>absurd rfl e) (fun _ a c=>by
   cases a with
   | none=>exact Zbl.fn (t:=Zdk c) h0
   | some ad=>exact Zbl.fn (t:=Zkw c ad) h0)
 .have h0:Zbl.run (Zdo a0 hne)=some r:=by unfold Zcg at h;rwa [dif_pos hne] at h
  exact FnG.split0 (fun _=>Zbl.fn h0) (fun e=>absurd (List.map_eq_nil_iff.1 e) hne)
def Ze0(a0:List Za1)(hne:a0≠[]):LT Empty (List Za1):=
.ne Zh hne<|.kn [0]<|.lb 1005<|.apR Zh 80 ([]:List Za1) a0 fun x1=>.ret x1 [.relab 1005 5000]
def Zcd:LF Empty (List Za1) := .z 52 [.t 2] true (fun r=>[(5000,wR Zh 6 r)]) (fun r=>(wO Zh 5000 r))
def Zet(c:Nat):LT Empty (List Za1):=
.kn [0]<|.ret ([]:List Za1) [.own 2 5000 6]
def Znr(c:Nat)(ad:Addr):LT Empty (List Za1):=
.kn [0]<|.lb 1005<|.apR Zh 80 ([]:List Za1) ([]:List Za1) fun x1=>.ret x1 [.relab 1005 5000]
open Classical in
def Zc5(a0:List Za1):Option (List Za1):=if h:a0≠[] then Zcd.run (Ze0 a0 h) else Zcd.run (Zet 0)
theorem Ziq(a0:List Za1){r:List Za1}(h:Zc5 a0=some r):FnG PR 52 [] [wL Zh a0] [(5000,wR Zh 6 r)] (wO Zh 5000 r):=by
 by_cases hne:a0=[]
 .subst hne
  have h0:Zcd.run (Zet 0)=some r:=h
  exact FnG.split0 (fun e=>absurd rfl e) (fun _ a c=>by
   cases a with
   | none=>exact Zcd.fn (t:=Zet c) h0
   | some ad=>exact Zcd.fn (t:=Znr c ad) h0)
 .have h0:Zcd.run (Ze0 a0 hne)=some r:=by unfold Zc5 at h;rwa [dif_pos hne] at h
  exact FnG.split0 (fun _=>Zcd.fn h0) (fun e=>absurd (List.map_eq_nil_iff.1 e) hne)
inductive Zmq where
 | L0 (E0:Za) (E1:Za) (v13:Int) (v14:Int)
 | L1 (E0:Za) (E1:Za) (v46:Int) (v47:Int)
 | L2 (E0:Za) (E1:Za) (v81:Int) (v82:Int)
 | L3 (E0:Za) (E1:Za) (v104:Int) (v105:Int)
def Zns(E0:Za)(E1:Za)(v13:Int)(v14:Int):LT Zmq Za:=
.br (decide (v14 < v13)) (.idxR Ze E0.Players v14 fun x2=>.ldR Ze E0.Players x2 2<|.call (Z75 x2) fun x4=>.plR Ze E0.Players v14 0<|.setD Ze E0.Players v14 x2 x4 2 0 [.int .i64 x4.Life,.int .i64 x4.Venom,.int .i64 x4.Lands,.int .i64 x4.Pool.a0,.int .i64 x4.Pool.a1,.int .i64 x4.Pool.a2,.int .i64 x4.Pool.a3,.int .i64 x4.Pool.a4,.int .i64 x4.Pool.a5,.bool x4.Failed,.bool x4.Lost,.sl (List.map (cI .i64) x4.Library),.sl (List.map (cI .i64) x4.Hand),.sl (List.map (cI .i64) x4.Graveyard)] rfl fun x6=>.dr [.ahead 27,.relen 40000,.stop]<|.us [3]<|.us [3]<|.us [3]<|.us [3]<|.us [3]<|.g0 (.L0 (⟨x6,E0.Objects,E0.Battlefield,E0.Exile,E0.Stack,E0.Waiting,E0.Conts,E0.Turn,E0.Active,E0.Step,E0.Begun,E0.Priority,E0.Passes,E0.NextId,E0.NextStamp,E0.Seed,E0.Extra,E0.Over,E0.Winner⟩:Za) E1 v13 (IntKind.wrap .i64 (v14+1))))<|.callF (Zhi E0.Objects) 310000 fun x10=>.callF (Za8 E0.Battlefield) 350000 fun x12=>.callF (Za8 E0.Exile) 390000 fun x14=>.callF (Zip E0.Stack) 430000 fun x16=>.lenO Zf x16<|.go (.L1 (⟨E0.Players,x10,x12,x14,x16,E0.Waiting,E0.Conts,E0.Turn,E0.Active,E0.Step,E0.Begun,E0.Priority,E0.Passes,E0.NextId,E0.NextStamp,E0.Seed,E0.Extra,E0.Over,E0.Winner⟩:Za) E1 (x16.length:Int) 0) [.relab 315000 40001,.relab 355000 40002,.relab 395000 40003,.relab 435000 40004]
def Znt(E0:Za)(E1:Za)(v46:Int)(v47:Int):LT Zmq Za:=
.br (decide (v47 < v46)) (.idxR Zf E0.Stack v47 fun x2=>.rl Zf E0.Stack<|.ldR Zf E0.Stack x2 2<|.call (Zjz x2.Ability) fun x4=>.plR Zf E0.Stack v47 0<|.rl Zf E0.Stack<|.setD Zf E0.Stack v47 x2 (⟨x2.Id,x2.Kind,x2.Source,x2.Control,x2.X,x2.Copy,x4,x2.Targets,x2.Event⟩:Zal) 2 6 (tm1 x4) rfl fun x6=>.dr [.ahead 15,.relen 40004,.stop]<|.us [3]<|.us [3]<|.us [3]<|.us [3]<|.us [3]<|.us [3]<|.us [3]<|.idxR Zf x6 v47 fun x8=>.rl Zf x6<|.ldR Zf x6 x8 8<|.call (Zhv x8.Targets) fun x10=>.plR Zf x6 v47 6<|.rl Zf x6<|.setD Zf x6 v47 x8 (⟨x8.Id,x8.Kind,x8.Source,x8.Control,x8.X,x8.Copy,x8.Ability,x10,x8.Event⟩:Zal) 8 78 [.sl (List.map Zaa x10)] rfl fun x12=>.dr [.ahead 74,.relen 40004,.stop]<|.us [9]<|.us [9]<|.us [9]<|.us [9]<|.us [9]<|.us [9]<|.us [9]<|.us [9]<|.us [9]<|.us [9]<|.us [9]<|.us [9]<|.us [9]<|.g0 (.L1 (⟨E0.Players,E0.Objects,E0.Battlefield,E0.Exile,x12,E0.Waiting,E0.Conts,E0.Turn,E0.Active,E0.Step,E0.Begun,E0.Priority,E0.Passes,E0.NextId,E0.NextStamp,E0.Seed,E0.Extra,E0.Over,E0.Winner⟩:Za) E1 v46 (IntKind.wrap .i64 (v47+1))))<|.callF (Zg2 E0.Waiting) 780000 fun x16=>.lenO Zd x16<|.go (.L2 (⟨E0.Players,E0.Objects,E0.Battlefield,E0.Exile,E0.Stack,x16,E0.Conts,E0.Turn,E0.Active,E0.Step,E0.Begun,E0.Priority,E0.Passes,E0.NextId,E0.NextStamp,E0.Seed,E0.Extra,E0.Over,E0.Winner⟩:Za) E1 (x16.length:Int) 0) [.relab 785000 40005]
def Znu(E0:Za)(E1:Za)(v81:Int)(v82:Int):LT Zmq Za:=
.br (decide (v82 < v81)) (.idxR Zd E0.Waiting v82 fun x2=>.rl Zd E0.Waiting<|.ldR Zd E0.Waiting x2 2<|.call (Zjz x2.Ability) fun x4=>.plR Zd E0.Waiting v82 0<|.rl Zd E0.Waiting<|.setD Zd E0.Waiting v82 x2 (⟨x2.Source,x2.Control,x4,x2.Event⟩:Zab) 2 2 (tm1 x4) rfl fun x6=>.dr [.ahead 97,.relen 40005,.stop]<|.us [3]<|.us [3]<|.us [3]<|.us [3]<|.us [3]<|.us [3]<|.us [3]<|.g0 (.L2 (⟨E0.Players,E0.Objects,E0.Battlefield,E0.Exile,E0.Stack,x6,E0.Conts,E0.Turn,E0.Active,E0.Step,E0.Begun,E0.Priority,E0.Passes,E0.NextId,E0.NextStamp,E0.Seed,E0.Extra,E0.Over,E0.Winner⟩:Za) E1 v81 (IntKind.wrap .i64 (v82+1))))<|.callF (Ziq E0.Conts) 1010000 fun x10=>.lenO Zh x10<|.go (.L3 (⟨E0.Players,E0.Objects,E0.Battlefield,E0.Exile,E0.Stack,E0.Waiting,x10,E0.Turn,E0.Active,E0.Step,E0.Begun,E0.Priority,E0.Passes,E0.NextId,E0.NextStamp,E0.Seed,E0.Extra,E0.Over,E0.Winner⟩:Za) E1 (x10.length:Int) 0) [.relab 1015000 40006]
def Znv(E0:Za)(E1:Za)(v104:Int)(v105:Int):LT Zmq Za:=
.br (decide (v105 < v104)) (.idxR Zh E0.Conts v105 fun x2=>.rl Zh E0.Conts<|.ldR Zh E0.Conts x2 2<|.call (Zmd x2.Objects) fun x4=>.plR Zh E0.Conts v105 0<|.rl Zh E0.Conts<|.setD Zh E0.Conts v105 x2 (⟨x2.Stamp,x2.Control,x2.Source,x2.Until,x4,x2.Mods⟩:Za1) 2 4 [.sl (List.map (cI .i64) x4)] rfl fun x6=>.dr [.ahead 28,.relen 40006,.stop]<|.us [3]<|.us [3]<|.us [3]<|.us [3]<|.us [3]<|.us [3]<|.us [3]<|.idxR Zh x6 v105 fun x8=>.rl Zh x6<|.ldR Zh x6 x8 8<|.call (Zgk x8.Mods) fun x10=>.plR Zh x6 v105 6<|.rl Zh x6<|.setD Zh x6 v105 x8 (⟨x8.Stamp,x8.Control,x8.Source,x8.Until,x8.Objects,x10⟩:Za1) 8 5 [.sl (List.map Zk x10)] rfl fun x12=>.dr [.ahead 132,.relen 40006,.stop]<|.us [9]<|.us [9]<|.us [9]<|.us [9]<|.us [9]<|.us [9]<|.us [9]<|.us [9]<|.us [9]<|.us [9]<|.us [9]<|.us [9]<|.us [9]<|.g0 (.L3 (⟨E0.Players,E0.Objects,E0.Battlefield,E0.Exile,E0.Stack,E0.Waiting,x12,E0.Turn,E0.Active,E0.Step,E0.Begun,E0.Priority,E0.Passes,E0.NextId,E0.NextStamp,E0.Seed,E0.Extra,E0.Over,E0.Winner⟩:Za) E1 v104 (IntKind.wrap .i64 (v105+1))))<|.callF (Za8 E0.Extra) 1360000 fun x16=>.ret (⟨E0.Players,E0.Objects,E0.Battlefield,E0.Exile,E0.Stack,E0.Waiting,E0.Conts,E0.Turn,E0.Active,E0.Step,E0.Begun,E0.Priority,E0.Passes,E0.NextId,E0.NextStamp,E0.Seed,x16,E0.Over,E0.Winner⟩:Za) (tm15 40000 5000 1365000)
def Zaa9(a0:Za):LT Zmq Za:=
.lb 1001<|.lb 1002<|.callF (Zhh a0.Players) 100000 fun x1=>.lenO Ze x1<|.go (.L0 (⟨x1,a0.Objects,a0.Battlefield,a0.Exile,a0.Stack,a0.Waiting,a0.Conts,a0.Turn,a0.Active,a0.Step,a0.Begun,a0.Priority,a0.Passes,a0.NextId,a0.NextStamp,a0.Seed,a0.Extra,a0.Over,a0.Winner⟩:Za) (⟨([]:List Z5),([]:List Zp),([]:List Int),([]:List Int),([]:List Zal),([]:List Zab),([]:List Za1),0,0,0,false,0,0,0,0,0,([]:List Int),0,0⟩:Za) (x1.length:Int) 0) [.relab 1001 3000,.relab 1002 3001,.relab 105000 40000,.ownb 3001 0 40100 14,.ownb 3001 1 40101 19,.ownb 3001 2 40102 1,.ownb 3001 3 40103 1,.ownb 3001 4 40104 94,.ownb 3001 5 40105 89,.ownb 3001 6 40106 6,.ownb 3001 16 40116 1]
def Ze9:LF Zmq Za := .m 20 [.c 2 31 true 19] true (fun r=>[(5000,wR Ze 14 r.Players),(5001,wR Zc 19 r.Objects),(5002,wR (cI .i64) 1 r.Battlefield),(5003,wR (cI .i64) 1 r.Exile),(5004,wR Zf 94 r.Stack),(5005,wR Zd 89 r.Waiting),(5006,wR Zh 6 r.Conts),(5016,wR (cI .i64) 1 r.Extra)]) (fun r=>(.agg (tm2 r 5000))) fun | .L0 E0 E1 v13 v14=>([1,1,0,1,4],⟨138,[(1,.bptr 3000 0),(2,.bptr 3001 0),(13,wI v13),(14,wI v14)],[(3000,.box (tm11 E0 40000)),(40000,wR Ze 14 E0.Players),(3001,.box (tm2 E1 40100)),(40100,wR Ze 14 E1.Players),(40101,wR Zc 19 E1.Objects),(40102,wR (cI .i64) 1 E1.Battlefield),(40103,wR (cI .i64) 1 E1.Exile),(40104,wR Zf 94 E1.Stack),(40105,wR Zd 89 E1.Waiting),(40106,wR Zh 6 E1.Conts),(40116,wR (cI .i64) 1 E1.Extra)]⟩,Zns E0 E1 v13 v14) | .L1 E0 E1 v46 v47=>([1,1,1,1,1,1,1,0,1,4],⟨138,[(1,.bptr 3000 0),(2,.bptr 3001 0),(46,wI v46),(47,wI v47)],[(3000,.box (tm10 E0 40000)),(40000,wR Ze 14 E0.Players),(40001,wR Zc 19 E0.Objects),(40002,wR (cI .i64) 1 E0.Battlefield),(40003,wR (cI .i64) 1 E0.Exile),(40004,wR Zf 94 E0.Stack),(3001,.box (tm2 E1 40100)),(40100,wR Ze 14 E1.Players),(40101,wR Zc 19 E1.Objects),(40102,wR (cI .i64) 1 E1.Battlefield),(40103,wR (cI .i64) 1 E1.Exile),(40104,wR Zf 94 E1.Stack),(40105,wR Zd 89 E1.Waiting),(40106,wR Zh 6 E1.Conts),(40116,wR (cI .i64) 1 E1.Extra)]⟩,Znt E0 E1 v46 v47) | .L2 E0 E1 v81 v82=>([1,1,1,1,1,1,1,1,1,0,1,4],⟨138,[(1,.bptr 3000 0),(2,.bptr 3001 0),(81,wI v81),(82,wI v82)],[(3000,.box (tm9 E0 40000)),(40000,wR Ze 14 E0.Players),(40001,wR Zc 19 E0.Objects),(40002,wR (cI .i64) 1 E0.Battlefield),(40003,wR (cI .i64) 1 E0.Exile),(40004,wR Zf 94 E0.Stack),(40005,wR Zd 89 E0.Waiting),(3001,.box (tm2 E1 40100)),(40100,wR Ze 14 E1.Players),(40101,wR Zc 19 E1.Objects),(40102,wR (cI .i64) 1 E1.Battlefield),(40103,wR (cI .i64) 1 E1.Exile),(40104,wR Zf 94 E1.Stack),(40105,wR Zd 89 E1.Waiting),(40106,wR Zh 6 E1.Conts),(40116,wR (cI .i64) 1 E1.Extra)]⟩,Znu E0 E1 v81 v82) | .L3 E0 E1 v104 v105=>([1,1,1,1,1,1,1,1,1,1,1,0,1,4],⟨138,[(1,.bptr 3000 0),(2,.bptr 3001 0),(104,wI v104),(105,wI v105)],[(3000,.box (tm8 E0 40000)),(40000,wR Ze 14 E0.Players),(40001,wR Zc 19 E0.Objects),(40002,wR (cI .i64) 1 E0.Battlefield),(40003,wR (cI .i64) 1 E0.Exile),(40004,wR Zf 94 E0.Stack),(40005,wR Zd 89 E0.Waiting),(40006,wR Zh 6 E0.Conts),(3001,.box (tm2 E1 40100)),(40100,wR Ze 14 E1.Players),(40101,wR Zc 19 E1.Objects),(40102,wR (cI .i64) 1 E1.Battlefield),(40103,wR (cI .i64) 1 E1.Exile),(40104,wR Zf 94 E1.Stack),(40105,wR Zd 89 E1.Waiting),(40106,wR Zh 6 E1.Conts),(40116,wR (cI .i64) 1 E1.Extra)]⟩,Znv E0 E1 v104 v105)
def Z0o:=fun a0=>Ze9.run (Zaa9 a0)
theorem Zaj9(a0){r}(h:Z0o a0=some r):FnG PR 20 [] [wA (Zr a0)] [(5000,wR Ze 14 r.Players),(5001,wR Zc 19 r.Objects),(5002,wR (cI .i64) 1 r.Battlefield),(5003,wR (cI .i64) 1 r.Exile),(5004,wR Zf 94 r.Stack),(5005,wR Zd 89 r.Waiting),(5006,wR Zh 6 r.Conts),(5016,wR (cI .i64) 1 r.Extra)] (.agg (tm2 r 5000)):=Ze9.fn h
theorem Zaoz(a0:Za){r:Za}(h:Z0o a0=some r):Fn PR 20 [wA (Zr a0)] (wA (Zr r)):=
 FnG.frozen (C:=LT.RL Ze r.Players/\LT.RL Zc r.Objects/\LT.RL (cI .i64) r.Battlefield/\LT.RL (cI .i64) r.Exile/\LT.RL Zf r.Stack/\LT.RL Zd r.Waiting/\LT.RL Zh r.Conts/\LT.RL (cI .i64) r.Extra/\True) (Zaj9 a0 h) ⟨rfl,rfl,rfl,rfl,rfl,rfl,rfl,rfl,trivial⟩ (by kernel_rfl)
def Z6d(a0:Zp)(b0:Int):LT Empty Bool:=
.lb 1002<|.rt (a0.Id==b0)
def Zsv(b0:Int):LF Empty Bool := .z 94 [.t 3] true (fun r=>[(0,.box (bx ((cI .i64) b0)))]) (fun r=>(wB r))
def Zw6(a0:Zp)(b0:Int):Option Bool:=(Zsv b0).run (Z6d a0 b0)
theorem Z3h(a0:Zp)(b0:Int){r:Bool}(h:Zw6 a0 b0=some r):FnG PR 94 [(0,.box (bx ((cI .i64) b0)))] [wA (Zc a0),.bptr 0 0] [(0,.box (bx ((cI .i64) b0)))] (wB r):=(Zsv b0).fn h
inductive Zc8 where
 | L0 (v0:List Zp) (c0:Int) (v7:Int) (v8:Int)
def Zam(v0:List Zp)(c0:Int)(v7:Int)(v8:Int):LT Zc8 (Int×Int):=
.br (decide (v8 < v7)) (.idx Zc v0 v8 fun x2=>.callO (Z3h x2 c0) [0] 170000 (fun x=>[]) fun x4=>.br x4 (.rt (v8,c0))<|.g0 (.L0 v0 c0 v7 (IntKind.wrap .i64 (v8+1))))<|.rt ((-1),c0)
def Ze2(a0:List Zp)(b0:Int):LT Zc8 (Int×Int):=
.len Zc a0<|.g0 (.L0 a0 b0 (a0.length:Int) 0)
def Zan:LF Zc8 (Int×Int) := .m 93 [.t 4] true (fun r=>[(0,.box (bx ((cI .i64) r.2)))]) (fun r=>(wI r.1)) fun | .L0 v0 c0 v7 v8=>([1,0,1,4],⟨19,[(0,wL Zc v0),(1,.fn 94 [.bptr 0 0]),(7,wI v7),(8,wI v8)],[(0,.box (bx ((cI .i64) c0)))]⟩,Zam v0 c0 v7 v8)
def Zfa:=fun a0 b0=>Zan.run (Ze2 a0 b0)
theorem Zh5(a0)(b0){r}(h:Zfa a0 b0=some r):FnG PR 93 [(0,.box (bx ((cI .i64) b0)))] [wL Zc a0,.fn 94 [.bptr 0 0]] [(0,.box (bx ((cI .i64) r.2)))] (wI r.1):=Zan.fn h
def Z76(a0:Za)(a1:Int):LT Empty Int:=
.lb 1002<|.lb 1003<|.callU (Zh5 a0.Objects a1) [1003] 90000 fun x1=>.rt x1.1
def Z77:LF Empty Int := .z0 67 [.t 4] wI
def Zage:=fun a0 a1=>Z77.run (Z76 a0 a1)
theorem Zaka(a0)(a1){r}(h:Zage a0 a1=some r):Fn PR 67 [wA (Zr a0),wI a1] (wI r):=Z77.fn h
def Zaba(a0:Za)(a1:Int):LT Empty (Zp×Bool):=
.lb 1002<|.lb 1004<|.call (Zaka a0 a1) fun x1=>.br (decide (x1 < 0)) (.rt ((⟨0,0,0,0,0,false,false,false,false,0,(⟨0,0,0⟩:A3 Int),0,0,0,false,0,0⟩:Zp),false))<|.idx Zc a0.Objects x1 fun x4=>.rt (x4,true)
def Zabb:LF Empty (Zp×Bool) := .z0 30 [.c 4 48 true 19,.t 5] (fun r=>(.tup [wA (Zc r.1),wB r.2]))
def Z78:=fun a0 a1=>Zabb.run (Zaba a0 a1)
theorem Zao0(a0)(a1){r}(h:Z78 a0 a1=some r):Fn PR 30 [wA (Zr a0),wI a1] (.tup [wA (Zc r.1),wB r.2]):=Zabb.fn h
inductive Zje where
 | L0 (v0:List Int) (v1:Int) (v7:Int) (v8:Int)
def Zfj(v0:List Int)(v1:Int)(v7:Int)(v8:Int):LT Zje Int:=
.br (decide (v8 < v7)) (.idx (cI .i64) v0 v8 fun x2=>.br (v1==x2) (.rt v8)<|.g0 (.L0 v0 v1 v7 (IntKind.wrap .i64 (v8+1))))<|.rt (-1)
def Zmz(a0:List Int)(a1:Int):LT Zje Int:=
.len (cI .i64) a0<|.g0 (.L0 a0 a1 (a0.length:Int) 0)
def Zdy:LF Zje Int := .m0 68 [.t 4] wI fun | .L0 v0 v1 v7 v8=>([1,0,1,4],⟨19,[(0,wL (cI .i64) v0),(1,wI v1),(7,wI v7),(8,wI v8)],[]⟩,Zfj v0 v1 v7 v8)
def Zoy:=fun a0 a1=>Zdy.run (Zmz a0 a1)
theorem Zv5(a0)(a1){r}(h:Zoy a0 a1=some r):Fn PR 68 [wL (cI .i64) a0,wI a1] (wI r):=Zdy.fn h
def Zkx(a0:List Int)(a1:Int):LT Empty Bool:=
.call (Zv5 a0 a1) fun x1=>.rt (decide (x1>=0))
def Zky:LF Empty Bool := .z0 31 [.t 4] wB
def Zjb:=fun a0 a1=>Zky.run (Zkx a0 a1)
theorem Zkl(a0)(a1){r}(h:Zjb a0 a1=some r):Fn PR 31 [wL (cI .i64) a0,wI a1] (wB r):=Zky.fn h
inductive Zy4 where
 | L0 (v1:Int) (v2:Int) (E0:Za) (E1:Zp) (v20:Int) (v21:Int)
def Zme(v1:Int)(v2:Int)(E0:Za)(E1:Zp)(v20:Int)(v21:Int):LT Zy4 Bool:=
.br (decide (v21 < v20)) (.idx Ze E0.Players v21 fun x2=>.call (Zkl x2.Library v2) fun x4=>.cs x4 (.k5 1<|.kg 1<|.kn [0]<|.rt false)<|.k4 1<|.cs (v21 != v1) (.k4 2<|.ag Ze x2 0<|.k4 2<|.call (Zkl x2.Hand v2) fun x8=>.kg 1<|.kg 2<|.kg 1<|.br x8 (.rt false)<|.g0 (.L0 v1 v2 E0 E1 v20 (IntKind.wrap .i64 (v21+1))))<|.k8 2<|.kg 1<|.kg 2<|.kg 1<|.kn [0]<|.g0 (.L0 v1 v2 E0 E1 v20 (IntKind.wrap .i64 (v21+1))))<|.cs (E1.Zone != 2) (.k4 1<|.cs (E1.Zone != 1) (.k4 2<|.kg 1<|.kg 2<|.kg 1<|.rt true)<|.k3 2<|.cs (decide (v1>=0)) (.k4 3<|.len Ze E0.Players<|.kg 3<|.kg 2<|.kg 3<|.kg 1<|.kg 2<|.kg 1<|.rt (decide (v1 < (E0.Players.length:Int))))<|.k5 3<|.kg 2<|.kg 3<|.kg 1<|.kg 2<|.kg 1<|.rt false)<|.k5 1<|.kg 1<|.rt false
def Z79(a0:Za)(a1:Int)(a2:Int):LT Zy4 Bool:=
.lb 1003<|.call (Zao0 a0 a2) fun x1=>.lb 1007<|.br (!x1.2) (.rt false)<|.len Ze a0.Players<|.go (.L0 a1 a2 a0 x1.1 (a0.Players.length:Int) 0) [.relab 1003 3000,.relab 1007 3001]
def Zr6:LF Zy4 Bool := .m0 14 [.t 6] wB fun | .L0 v1 v2 E0 E1 v20 v21=>([1,1,1,0,1,4],⟨67,[(1,wI v1),(2,wI v2),(3,.bptr 3000 0),(7,.bptr 3001 0),(20,wI v20),(21,wI v21)],[(3000,.box (bx (Zr E0))),(3001,.box (bx (Zc E1)))]⟩,Zme v1 v2 E0 E1 v20 v21)
def Zxj:=fun a0 a1 a2=>Zr6.run (Z79 a0 a1 a2)
theorem Zmf(a0)(a1)(a2){r}(h:Zxj a0 a1 a2=some r):Fn PR 14 [wA (Zr a0),wI a1,wI a2] (wB r):=Zr6.fn h
def Zd8(a0:List Zaf)(hne:a0≠[]):LT Empty (List Zaf):=
.ne Zl hne<|.kn [0]<|.lb 1005<|.apR Zl 24 ([]:List Zaf) a0 fun x1=>.ret x1 [.relab 1005 5000]
def Zbw:LF Empty (List Zaf) := .z 24 [.t 2] true (fun r=>[(5000,wR Zl 3 r)]) (fun r=>(wO Zl 5000 r))
def Zdz(c:Nat):LT Empty (List Zaf):=
.kn [0]<|.ret ([]:List Zaf) [.own 2 5000 3]
def Zlv(c:Nat)(ad:Addr):LT Empty (List Zaf):=
.kn [0]<|.lb 1005<|.apR Zl 24 ([]:List Zaf) ([]:List Zaf) fun x1=>.ret x1 [.relab 1005 5000]
open Classical in
def Zcq(a0:List Zaf):Option (List Zaf):=if h:a0≠[] then Zbw.run (Zd8 a0 h) else Zbw.run (Zdz 0)
theorem Zhj(a0:List Zaf){r:List Zaf}(h:Zcq a0=some r):FnG PR 24 [] [wL Zl a0] [(5000,wR Zl 3 r)] (wO Zl 5000 r):=by
 by_cases hne:a0=[]
 .subst hne
  have h0:Zbw.run (Zdz 0)=some r:=h
  exact FnG.split0 (fun e=>absurd rfl e) (fun _ a c=>by
   cases a with
   | none=>exact Zbw.fn (t:=Zdz c) h0
   | some ad=>exact Zbw.fn (t:=Zlv c ad) h0)
 .have h0:Zbw.run (Zd8 a0 hne)=some r:=by unfold Zcq at h;rwa [dif_pos hne] at h
  exact FnG.split0 (fun _=>Zbw.fn h0) (fun e=>absurd (List.map_eq_nil_iff.1 e) hne)
def Zvg(a0:Zaf)(b0:Int):LT Empty Bool:=
.lb 1002<|.cs (a0.Kind==5) (.k5 0<|.rt (a0.A==b0))<|.k5 0<|.rt false
def Zvh(b0:Int):LF Empty Bool := .z 23 [.t 3] true (fun r=>[(0,.box (bx ((cI .i64) b0)))]) (fun r=>(wB r))
def Zqm(a0:Zaf)(b0:Int):Option Bool:=(Zvh b0).run (Zvg a0 b0)
theorem Z40(a0:Zaf)(b0:Int){r:Bool}(h:Zqm a0 b0=some r):FnG PR 23 [(0,.box (bx ((cI .i64) b0)))] [wA (Zl a0),.bptr 0 0] [(0,.box (bx ((cI .i64) b0)))] (wB r):=(Zvh b0).fn h
inductive Zda where
 | L0 (v0:List Zaf) (c0:Int) (v7:Int) (v8:Int)
def Zbg(v0:List Zaf)(c0:Int)(v7:Int)(v8:Int):LT Zda (Int×Int):=
.br (decide (v8 < v7)) (.idx Zl v0 v8 fun x2=>.callO (Z40 x2 c0) [0] 170000 (fun x=>[]) fun x4=>.br x4 (.rt (v8,c0))<|.g0 (.L0 v0 c0 v7 (IntKind.wrap .i64 (v8+1))))<|.rt ((-1),c0)
def Ze6(a0:List Zaf)(b0:Int):LT Zda (Int×Int):=
.len Zl a0<|.g0 (.L0 a0 b0 (a0.length:Int) 0)
def Zar:LF Zda (Int×Int) := .m 54 [.t 4] true (fun r=>[(0,.box (bx ((cI .i64) r.2)))]) (fun r=>(wI r.1)) fun | .L0 v0 c0 v7 v8=>([1,0,1,4],⟨19,[(0,wL Zl v0),(1,.fn 23 [.bptr 0 0]),(7,wI v7),(8,wI v8)],[(0,.box (bx ((cI .i64) c0)))]⟩,Zbg v0 c0 v7 v8)
def Zfc:=fun a0 b0=>Zar.run (Ze6 a0 b0)
theorem Zia(a0)(b0){r}(h:Zfc a0 b0=some r):FnG PR 54 [(0,.box (bx ((cI .i64) b0)))] [wL Zl a0,.fn 23 [.bptr 0 0]] [(0,.box (bx ((cI .i64) r.2)))] (wI r.1):=Zar.fn h
def Zew(a0:List Zaf)(b0:Int):LT Empty (Bool×Int):=
.callU (Zia a0 b0) [0] 80000 fun x1=>.rt (decide (x1.1>=0),x1.2)
def Zex:LF Empty (Bool×Int) := .z 22 [.t 4] true (fun r=>[(0,.box (bx ((cI .i64) r.2)))]) (fun r=>(wB r.1))
def Zc9:=fun a0 b0=>Zex.run (Zew a0 b0)
theorem Zhk(a0)(b0){r}(h:Zc9 a0 b0=some r):FnG PR 22 [(0,.box (bx ((cI .i64) b0)))] [wL Zl a0,.fn 23 [.bptr 0 0]] [(0,.box (bx ((cI .i64) r.2)))] (wB r.1):=Zex.fn h
def Zq6(a0:Int)(b0:Z6)(b1:Int):LT Empty Bool:=
.lb 1003<|.cs (b0.Pending.Kind != 0) (.k5 0<|.kg 0<|.cs (b0.Pending.Player==b1) (.k5 1<|.callU (Zhk b0.Pending.Options a0) [1003] 220000 fun x3=>.kg 1<|.rt x3.1)<|.k5 1<|.kg 1<|.rt false)<|.k5 0<|.kg 0<|.b5 false<|.kb false<|.rt false
def Zq7(b0:Z6)(b1:Int):LF Empty Bool := .z 21 [.t 4] true (fun r=>[(0,.box (bx (Zb3 b0))),(1,.box (bx ((cI .i64) b1)))]) (fun r=>(wB r))
def Zj0(a0:Int)(b0:Z6)(b1:Int):Option Bool:=(Zq7 b0 b1).run (Zq6 a0 b0 b1)
theorem Zoz(a0:Int)(b0:Z6)(b1:Int){r:Bool}(h:Zj0 a0 b0 b1=some r):FnG PR 21 [(0,.box (bx (Zb3 b0))),(1,.box (bx ((cI .i64) b1)))] [wI a0,.bptr 0 0,.bptr 1 0] [(0,.box (bx (Zb3 b0))),(1,.box (bx ((cI .i64) b1)))] (wB r):=(Zq7 b0 b1).fn h
inductive Z0p where
 | L0 (E0:Z6) (E1:Int) (E2:Zj) (E3:Za) (E4:Zj) (v47:List Z5) (v48:Int) (v49:Int)
 | L1 (E0:Z6) (E1:Int) (E2:Zj) (E3:Za) (E4:Zj) (v86:List Zp) (v87:Int) (v88:Int)
def Zr7(E0:Z6)(E1:Int)(E2:Zj)(E3:Za)(E4:Zj)(v47:List Z5)(v48:Int)(v49:Int):LT Z0p Zj:=
.br (decide (v49 < v48)) (.idx Ze v47 v49 fun x2=>.lb 1009<|.len (cI .i64) x2.Library<|.len (cI .i64) x2.Hand<|.dr [.lit]<|.apR Z8 120 E4.Players [(⟨x2.Life,x2.Venom,x2.Lands,(x2.Library.length:Int),(x2.Hand.length:Int),x2.Pool,x2.Lost,x2.Graveyard⟩:Zc3)] fun x6=>.br (v49==E1) (.g0 (.L0 E0 E1 E2 E3 (⟨E4.Player,x6,x2.Hand,E4.Objects,E4.Battlefield,E4.Exile,E4.Stack,E4.Waiting,E4.Conts,E4.Turn,E4.Active,E4.Step,E4.Priority,E4.Passes,E4.NextId,E4.Over,E4.Winner,E4.Extra,E4.Pending⟩:Zj) v47 v48 (IntKind.wrap .i64 (v49+1))))<|.g0 (.L0 E0 E1 E2 E3 (⟨E4.Player,x6,E4.Hand,E4.Objects,E4.Battlefield,E4.Exile,E4.Stack,E4.Waiting,E4.Conts,E4.Turn,E4.Active,E4.Step,E4.Priority,E4.Passes,E4.NextId,E4.Over,E4.Winner,E4.Extra,E4.Pending⟩:Zj) v47 v48 (IntKind.wrap .i64 (v49+1))))<|.len Zc E3.Objects<|.g0 (.L1 E0 E1 E2 E3 E4 E3.Objects (E3.Objects.length:Int) 0)
def Zr8(E0:Z6)(E1:Int)(E2:Zj)(E3:Za)(E4:Zj)(v86:List Zp)(v87:Int)(v88:Int):LT Z0p Zj:=
.br (decide (v88 < v87)) (.idx Zc v86 v88 fun x2=>.lb 1011<|.call (Zmf E3 E1 x2.Id) fun x4=>.cs x4 (.k5 1<|.kn [0]<|.dr [.lit]<|.apR Zc 128 E4.Objects [x2] fun x7=>.g0 (.L1 E0 E1 E2 E3 (⟨E4.Player,E4.Players,E4.Hand,x7,E4.Battlefield,E4.Exile,E4.Stack,E4.Waiting,E4.Conts,E4.Turn,E4.Active,E4.Step,E4.Priority,E4.Passes,E4.NextId,E4.Over,E4.Winner,E4.Extra,E4.Pending⟩:Zj) v86 v87 (IntKind.wrap .i64 (v88+1))))<|.k4 1<|.callO (Zoz x2.Id E0 E1) [3000,3001] 1020000 (fun x=>[]) fun x12=>.kg 1<|.br x12 (.dr [.lit]<|.apR Zc 128 E4.Objects [x2] fun x15=>.g0 (.L1 E0 E1 E2 E3 (⟨E4.Player,E4.Players,E4.Hand,x15,E4.Battlefield,E4.Exile,E4.Stack,E4.Waiting,E4.Conts,E4.Turn,E4.Active,E4.Step,E4.Priority,E4.Passes,E4.NextId,E4.Over,E4.Winner,E4.Extra,E4.Pending⟩:Zj) v86 v87 (IntKind.wrap .i64 (v88+1))))<|.g0 (.L1 E0 E1 E2 E3 E4 v86 v87 (IntKind.wrap .i64 (v88+1))))<|.br (E0.Pending.Player==E1) (.callF (Zhj E0.Pending.Options) 1300000 fun x23=>.ret (⟨E4.Player,E4.Players,E4.Hand,E4.Objects,E4.Battlefield,E4.Exile,E4.Stack,E4.Waiting,E4.Conts,E4.Turn,E4.Active,E4.Step,E4.Priority,E4.Passes,E4.NextId,E4.Over,E4.Winner,E4.Extra,(⟨E0.Pending.Kind,E0.Pending.Player,E0.Pending.Source,E0.Pending.Least,E0.Pending.Most,E0.Pending.N,x23⟩:Zbc)⟩:Zj) [.relab 40401 5001,.relab 40403 5003,.relab 1305000 5024])<|.ret (⟨E4.Player,E4.Players,E4.Hand,E4.Objects,E4.Battlefield,E4.Exile,E4.Stack,E4.Waiting,E4.Conts,E4.Turn,E4.Active,E4.Step,E4.Priority,E4.Passes,E4.NextId,E4.Over,E4.Winner,E4.Extra,(⟨E0.Pending.Kind,E0.Pending.Player,0,0,0,0,([]:List Zaf)⟩:Zbc)⟩:Zj) [.relab 40401 5001,.relab 40403 5003,.ownb 3002 24 5024 3]
def Zajs(a0:Z6)(a1:Int):LT Z0p Zj:=
.lb 1002<|.lb 1003<|.lb 1004<|.call (Zaoz a0.State) fun x1=>.lb 1005<|.lb 1007<|.len Ze x1.Players<|.go (.L0 a0 a1 (⟨0,([]:List Zc3),([]:List Int),([]:List Zp),([]:List Int),([]:List Int),([]:List Zal),([]:List Zab),([]:List Za1),0,0,0,0,0,0,0,0,([]:List Int),(⟨0,0,0,0,0,0,([]:List Zaf)⟩:Zbc)⟩:Zj) x1 (⟨a1,([]:List Zc3),([]:List Int),([]:List Zp),x1.Battlefield,x1.Exile,x1.Stack,x1.Waiting,x1.Conts,x1.Turn,x1.Active,x1.Step,x1.Priority,x1.Passes,x1.NextId,x1.Over,x1.Winner,x1.Extra,(⟨0,0,0,0,0,0,([]:List Zaf)⟩:Zbc)⟩:Zj) x1.Players (x1.Players.length:Int) 0) [.relab 1002 3000,.relab 1003 3001,.relab 1004 3002,.relab 1005 3003,.relab 1007 3004,.ownb 3002 1 40201 13,.ownb 3002 2 40202 1,.ownb 3002 3 40203 19,.ownb 3002 4 40204 1,.ownb 3002 5 40205 1,.ownb 3002 6 40206 94,.ownb 3002 7 40207 89,.ownb 3002 8 40208 6,.ownb 3002 17 40217 1,.ownb 3002 24 40224 3,.ownb 3004 1 40401 13,.niltb 3004 2,.ownb 3004 3 40403 19,.ownb 3004 24 40424 3]
def Zq8:LF Z0p Zj := .m 8 [.c 4 44 true 25] true (fun r=>(Z61 r 5000)) (fun r=>(.agg (tm4 r 5000))) fun | .L0 E0 E1 E2 E3 E4 v47 v48 v49=>([1,1,1,1,0,1,4],⟨133,[(2,.bptr 3000 0),(3,.bptr 3001 0),(4,.bptr 3002 0),(5,.bptr 3003 0),(6,.fn 21 [.bptr 3000 0,.bptr 3001 0]),(7,.bptr 3004 0),(47,wL Ze v47),(48,wI v48),(49,wI v49)],((3000,.box (bx (Zb3 E0)))::(3001,.box (bx ((cI .i64) E1)))::(3002,.box (tm5 E2 40200))::(40201,wR Z8 13 E2.Players)::(40202,wR (cI .i64) 1 E2.Hand)::(40203,wR Zc 19 E2.Objects)::(40204,wR (cI .i64) 1 E2.Battlefield)::(40205,wR (cI .i64) 1 E2.Exile)::(40206,wR Zf 94 E2.Stack)::(40207,wR Zd 89 E2.Waiting)::(40208,wR Zh 6 E2.Conts)::(40217,wR (cI .i64) 1 E2.Extra)::(40224,wR Zl 3 E2.Pending.Options)::(3003,.box (bx (Zr E3)))::(3004,.box (tm4 E4 40400))::(Z61 E4 40400))⟩,Zr7 E0 E1 E2 E3 E4 v47 v48 v49) | .L1 E0 E1 E2 E3 E4 v86 v87 v88=>([1,1,1,1,1,0,1,4],⟨133,[(2,.bptr 3000 0),(3,.bptr 3001 0),(4,.bptr 3002 0),(5,.bptr 3003 0),(6,.fn 21 [.bptr 3000 0,.bptr 3001 0]),(7,.bptr 3004 0),(86,wL Zc v86),(87,wI v87),(88,wI v88)],((3000,.box (bx (Zb3 E0)))::(3001,.box (bx ((cI .i64) E1)))::(3002,.box (tm5 E2 40200))::(40201,wR Z8 13 E2.Players)::(40202,wR (cI .i64) 1 E2.Hand)::(40203,wR Zc 19 E2.Objects)::(40204,wR (cI .i64) 1 E2.Battlefield)::(40205,wR (cI .i64) 1 E2.Exile)::(40206,wR Zf 94 E2.Stack)::(40207,wR Zd 89 E2.Waiting)::(40208,wR Zh 6 E2.Conts)::(40217,wR (cI .i64) 1 E2.Extra)::(40224,wR Zl 3 E2.Pending.Options)::(3003,.box (bx (Zr E3)))::(3004,.box (tm4 E4 40400))::(Z61 E4 40400))⟩,Zr8 E0 E1 E2 E3 E4 v86 v87 v88)
def Z3i:=fun a0 a1=>Zq8.run (Zajs a0 a1)
theorem Zaq8(a0)(a1){r}(h:Z3i a0 a1=some r):FnG PR 8 [] [wA (Zb3 a0),wI a1] (Z61 r 5000) (.agg (tm4 r 5000)):=Zq8.fn h
theorem Z41(a0:Z6)(a1:Int){r:Zj}(h:Z3i a0 a1=some r):Fn PR 8 [wA (Zb3 a0),wI a1] (wA (Zeg r)):=
 FnG.frozen (C:=LT.RL Z8 r.Players/\LT.RL Zc r.Objects/\LT.RL Zl r.Pending.Options/\True) (Zaq8 a0 a1 h) ⟨rfl,rfl,rfl,trivial⟩ (by kernel_rfl)
inductive Zr9 where
 | L0 (v0:List Int) (v1:List Int) (v5:Int)
def Zpm(v0:List Int)(v1:List Int)(v5:Int):LT Zr9 Bool:=
.len (cI .i64) v0<|.br (decide (v5 < (v0.length:Int))) (.idx (cI .i64) v0 v5 fun x3=>.idx (cI .i64) v1 v5 fun x5=>.br (x3 != x5) (.rt false)<|.g0 (.L0 v0 v1 (IntKind.wrap .i64 (v5+1))))<|.rt true
def Zagf(a0:List Int)(a1:List Int):LT Zr9 Bool:=
.len (cI .i64) a0<|.len (cI .i64) a1<|.br ((a0.length:Int) != (a1.length:Int)) (.rt false)<|.g0 (.L0 a0 a1 0)
def Zxk:LF Zr9 Bool := .m0 13 [.t 4] wB fun | .L0 v0 v1 v5=>([1,1,0,1,4],⟨26,[(0,wL (cI .i64) v0),(1,wL (cI .i64) v1),(5,wI v5)],[]⟩,Zpm v0 v1 v5)
def Zac3:=fun a0 a1=>Zxk.run (Zagf a0 a1)
theorem Zhm(a0)(a1){r}(h:Zac3 a0 a1=some r):Fn PR 13 [wL (cI .i64) a0,wL (cI .i64) a1] (wB r):=Zxk.fn h
inductive Zfs where
 | L0 (v0:List Int) (v1:List Int) (v12:Int) (v13:Int)
def Zfk(v0:List Int)(v1:List Int)(v12:Int)(v13:Int):LT Zfs Bool:=
.br (decide (v13 < v12)) (.idx (cI .i64) v0 v13 fun x2=>.idx (cI .i64) v1 v13 fun x4=>.br (x2 != x4) (.rt false)<|.g0 (.L0 v0 v1 v12 (IntKind.wrap .i64 (v13+1))))<|.rt true
def Zm0(a0:List Int)(a1:List Int):LT Zfs Bool:=
.len (cI .i64) a0<|.len (cI .i64) a1<|.br ((a0.length:Int) != (a1.length:Int)) (.rt false)<|.len (cI .i64) a0<|.g0 (.L0 a0 a1 (a0.length:Int) 0)
def Zhe:LF Zfs Bool := .m0 32 [.t 4] wB fun | .L0 v0 v1 v12 v13=>([1,1,0,1,4],⟨26,[(0,wL (cI .i64) v0),(1,wL (cI .i64) v1),(12,wI v12),(13,wI v13)],[]⟩,Zfk v0 v1 v12 v13)
def Zj3:=fun a0 a1=>Zhe.run (Zm0 a0 a1)
theorem Zeo(a0)(a1){r}(h:Zj3 a0 a1=some r):Fn PR 32 [wL (cI .i64) a0,wL (cI .i64) a1] (wB r):=Zhe.fn h
inductive Zc0 where
 | L0 (v0:List Zp) (v1:List Zp) (v12:Int) (v13:Int)
def Zcw(v0:List Zp)(v1:List Zp)(v12:Int)(v13:Int):LT Zc0 Bool:=
.br (decide (v13 < v12)) (.idx Zc v0 v13 fun x2=>.idx Zc v1 v13 fun x4=>.br (!(Z2 (Zc x2) (Zc x4))) (.rt false)<|.g0 (.L0 v0 v1 v12 (IntKind.wrap .i64 (v13+1))))<|.rt true
def Zh7(a0:List Zp)(a1:List Zp):LT Zc0 Bool:=
.len Zc a0<|.len Zc a1<|.br ((a0.length:Int) != (a1.length:Int)) (.rt false)<|.len Zc a0<|.g0 (.L0 a0 a1 (a0.length:Int) 0)
def Zd9:LF Zc0 Bool := .m0 33 [.t 4] wB fun | .L0 v0 v1 v12 v13=>([1,1,0,1,4],⟨26,[(0,wL Zc v0),(1,wL Zc v1),(12,wI v12),(13,wI v13)],[]⟩,Zcw v0 v1 v12 v13)
def Zf1:=fun a0 a1=>Zd9.run (Zh7 a0 a1)
theorem Zlw(a0)(a1){r}(h:Zf1 a0 a1=some r):Fn PR 33 [wL Zc a0,wL Zc a1] (wB r):=Zd9.fn h
def Z0q(a0:Zc3)(a1:Zc3):LT Empty Bool:=
.lb 1002<|.lb 1003<|.cs (a0.Life==a1.Life) (.k5 0<|.kg 0<|.cs (a0.Venom==a1.Venom) (.k5 1<|.kg 1<|.cs (a0.Lands==a1.Lands) (.k5 2<|.kg 2<|.cs (a0.Library==a1.Library) (.k5 3<|.kg 3<|.cs (a0.Hand==a1.Hand) (.k5 4<|.kg 4<|.cs (Z2 ((cA6 (cI .i64)) a0.Pool) ((cA6 (cI .i64)) a1.Pool)) (.k5 5<|.kg 5<|.cs (a0.Lost==a1.Lost) (.k5 6<|.call (Zeo a0.Graveyard a1.Graveyard) fun x8=>.kg 6<|.rt x8)<|.k5 6<|.kg 6<|.rt false)<|.k5 5<|.kg 5<|.b5 false<|.kb false<|.rt false)<|.k5 4<|.kg 4<|.b8 false<|.b4 false<|.rt false)<|.k5 3<|.kg 3<|.b16 false<|.b2 false<|.rt false)<|.k5 2<|.kg 2<|.b16 false<|.b8 false<|.rt false)<|.k5 1<|.kg 1<|.b16 false<|.b8 false<|.b5 false<|.kb false<|.rt false)<|.k5 0<|.kg 0<|.b16 false<|.b16 false<|.b4 false<|.rt false
def Z0r:LF Empty Bool := .z0 35 [.t 4] wB
def Zv6:=fun a0 a1=>Z0r.run (Z0q a0 a1)
theorem Zac4(a0)(a1){r}(h:Zv6 a0 a1=some r):Fn PR 35 [wA (Z8 a0),wA (Z8 a1)] (wB r):=Z0r.fn h
inductive Zc1 where
 | L0 (v0:List Zbj) (v1:List Zbj) (v12:Int) (v13:Int)
def Zcx(v0:List Zbj)(v1:List Zbj)(v12:Int)(v13:Int):LT Zc1 Bool:=
.br (decide (v13 < v12)) (.idx Zaa v0 v13 fun x2=>.idx Zaa v1 v13 fun x4=>.br (!(Z2 (Zaa x2) (Zaa x4))) (.rt false)<|.g0 (.L0 v0 v1 v12 (IntKind.wrap .i64 (v13+1))))<|.rt true
def Zh8(a0:List Zbj)(a1:List Zbj):LT Zc1 Bool:=
.len Zaa a0<|.len Zaa a1<|.br ((a0.length:Int) != (a1.length:Int)) (.rt false)<|.len Zaa a0<|.g0 (.L0 a0 a1 (a0.length:Int) 0)
def Zea:LF Zc1 Bool := .m0 69 [.t 4] wB fun | .L0 v0 v1 v12 v13=>([1,1,0,1,4],⟨26,[(0,wL Zaa v0),(1,wL Zaa v1),(12,wI v12),(13,wI v13)],[]⟩,Zcx v0 v1 v12 v13)
def Zf2:=fun a0 a1=>Zea.run (Zh8 a0 a1)
theorem Zlx(a0)(a1){r}(h:Zf2 a0 a1=some r):Fn PR 69 [wL Zaa a0,wL Zaa a1] (wB r):=Zea.fn h
inductive Zd1 where
 | L0 (v0:List Zq) (v1:List Zq) (v12:Int) (v13:Int)
def Zdp(v0:List Zq)(v1:List Zq)(v12:Int)(v13:Int):LT Zd1 Bool:=
.br (decide (v13 < v12)) (.idx Zk v0 v13 fun x2=>.idx Zk v1 v13 fun x4=>.br (!(Z2 (Zk x2) (Zk x4))) (.rt false)<|.g0 (.L0 v0 v1 v12 (IntKind.wrap .i64 (v13+1))))<|.rt true
def Zjl(a0:List Zq)(a1:List Zq):LT Zd1 Bool:=
.len Zk a0<|.len Zk a1<|.br ((a0.length:Int) != (a1.length:Int)) (.rt false)<|.len Zk a0<|.g0 (.L0 a0 a1 (a0.length:Int) 0)
def Zfb:LF Zd1 Bool := .m0 71 [.t 4] wB fun | .L0 v0 v1 v12 v13=>([1,1,0,1,4],⟨26,[(0,wL Zk v0),(1,wL Zk v1),(12,wI v12),(13,wI v13)],[]⟩,Zdp v0 v1 v12 v13)
def Zhg:=fun a0 a1=>Zfb.run (Zjl a0 a1)
theorem Zgl(a0)(a1){r}(h:Zhg a0 a1=some r):Fn PR 71 [wL Zk a0,wL Zk a1] (wB r):=Zfb.fn h
inductive Zdl where
 | L0 (v0:List Zbp) (v1:List Zbp) (v12:Int) (v13:Int)
def Zdg(v0:List Zbp)(v1:List Zbp)(v12:Int)(v13:Int):LT Zdl Bool:=
.br (decide (v13 < v12)) (.idx Z7 v0 v13 fun x2=>.idx Z7 v1 v13 fun x4=>.br (!(Z2 (Z7 x2) (Z7 x4))) (.rt false)<|.g0 (.L0 v0 v1 v12 (IntKind.wrap .i64 (v13+1))))<|.rt true
def Zi7(a0:List Zbp)(a1:List Zbp):LT Zdl Bool:=
.len Z7 a0<|.len Z7 a1<|.br ((a0.length:Int) != (a1.length:Int)) (.rt false)<|.len Z7 a0<|.g0 (.L0 a0 a1 (a0.length:Int) 0)
def Ze1:LF Zdl Bool := .m0 95 [.t 4] wB fun | .L0 v0 v1 v12 v13=>([1,1,0,1,4],⟨26,[(0,wL Z7 v0),(1,wL Z7 v1),(12,wI v12),(13,wI v13)],[]⟩,Zdg v0 v1 v12 v13)
def Zgz:=fun a0 a1=>Ze1.run (Zi7 a0 a1)
theorem Znw(a0)(a1){r}(h:Zgz a0 a1=some r):Fn PR 95 [wL Z7 a0,wL Z7 a1] (wB r):=Ze1.fn h
def Zw7(a0:Zv)(a1:Zv):LT Empty Bool:=
.lb 1002<|.lb 1003<|.cs (a0.Op==a1.Op) (.k5 0<|.kg 0<|.cs (Z2 (Zeh a0.Ref) (Zeh a1.Ref)) (.k5 1<|.kg 1<|.cs (Z2 (Zbn a0.Amount) (Zbn a1.Amount)) (.k5 2<|.kg 2<|.cs (a0.Counter==a1.Counter) (.k5 3<|.kg 3<|.cs (a0.Zone==a1.Zone) (.k5 4<|.kg 4<|.cs (a0.Card==a1.Card) (.k5 5<|.kg 5<|.cs (Z2 (Zy a0.Filter) (Zy a1.Filter)) (.k5 6<|.kg 6<|.cs (Z2 ((cA6 (cI .i64)) a0.Pool) ((cA6 (cI .i64)) a1.Pool)) (.k5 7<|.call (Zgl a0.Mods a1.Mods) fun x9=>.kg 7<|.rt x9)<|.k5 7<|.kg 7<|.rt false)<|.k5 6<|.kg 6<|.b5 false<|.kb false<|.rt false)<|.k5 5<|.kg 5<|.b8 false<|.b4 false<|.rt false)<|.k5 4<|.kg 4<|.b16 false<|.b2 false<|.rt false)<|.k5 3<|.kg 3<|.b16 false<|.b8 false<|.rt false)<|.k5 2<|.kg 2<|.b16 false<|.b8 false<|.b5 false<|.kb false<|.rt false)<|.k5 1<|.kg 1<|.b16 false<|.b16 false<|.b4 false<|.rt false)<|.k5 0<|.kg 0<|.b16 false<|.b16 false<|.b8 false<|.b2 false<|.rt false
def Zw8:LF Empty Bool := .z0 97 [.t 4] wB
def Zsa:=fun a0 a1=>Zw8.run (Zw7 a0 a1)
theorem Z8a(a0)(a1){r}(h:Zsa a0 a1=some r):Fn PR 97 [wA (Zo a0),wA (Zo a1)] (wB r):=Zw8.fn h
inductive Zah where
 | L0 (v1:List Zv) (v15:List Zv) (v16:Int) (v17:Int)
def Zag(v1:List Zv)(v15:List Zv)(v16:Int)(v17:Int):LT Zah Bool:=
.br (decide (v17 < v16)) (.idx Zo v15 v17 fun x2=>.lb 1008<|.idx Zo v1 v17 fun x4=>.lb 1009<|.call (Z8a x2 x4) fun x6=>.br (!x6) (.rt false)<|.g0 (.L0 v1 v15 v16 (IntKind.wrap .i64 (v17+1))))<|.rt true
def Zct(a0:List Zv)(a1:List Zv):LT Zah Bool:=
.len Zo a0<|.len Zo a1<|.br ((a0.length:Int) != (a1.length:Int)) (.rt false)<|.len Zo a0<|.g0 (.L0 a1 a0 (a0.length:Int) 0)
def Za0:LF Zah Bool := .m0 96 [.t 6] wB fun | .L0 v1 v15 v16 v17=>([1,1,0,1,4],⟨32,[(1,wL Zo v1),(2,.fn 97 []),(15,wL Zo v15),(16,wI v16),(17,wI v17)],[]⟩,Zag v1 v15 v16 v17)
def Zbm:=fun a0 a1=>Za0.run (Zct a0 a1)
theorem Ze4(a0)(a1){r}(h:Zbm a0 a1=some r):Fn PR 96 [wL Zo a0,wL Zo a1,.fn 97 []] (wB r):=Za0.fn h
def Zvi(a0:Zs)(a1:Zs):LT Empty Bool:=
.lb 1002<|.lb 1003<|.cs (a0.Kind==a1.Kind) (.k5 0<|.kg 0<|.cs (Z2 (Zy a0.Filter) (Zy a1.Filter)) (.k5 1<|.call (Zgl a0.Mods a1.Mods) fun x3=>.kg 1<|.cs x3 (.k5 2<|.kg 2<|.cs (Z2 (Zei a0.Price) (Zei a1.Price)) (.k5 3<|.kg 3<|.cs (a0.Slow==a1.Slow) (.k5 4<|.kg 4<|.cs (Z2 (Zcz a0.Trigger) (Zcz a1.Trigger)) (.k5 5<|.kg 5<|.cs (a0.May==a1.May) (.k5 6<|.call (Znw a0.Specs a1.Specs) fun x10=>.kg 6<|.cs x10 (.k5 7<|.call (Ze4 a0.Effects a1.Effects) fun x13=>.kg 7<|.cs x13 (.k5 8<|.kg 8<|.rt (Z2 (Zb8 a0.Replace) (Zb8 a1.Replace)))<|.k5 8<|.kg 8<|.rt false)<|.k5 7<|.kg 7<|.b5 false<|.kb false<|.rt false)<|.k5 6<|.kg 6<|.b8 false<|.b4 false<|.rt false)<|.k5 5<|.kg 5<|.b16 false<|.b2 false<|.rt false)<|.k5 4<|.kg 4<|.b16 false<|.b8 false<|.rt false)<|.k5 3<|.kg 3<|.b16 false<|.b8 false<|.b5 false<|.kb false<|.rt false)<|.k5 2<|.kg 2<|.b16 false<|.b16 false<|.b4 false<|.rt false)<|.k5 1<|.kg 1<|.b16 false<|.b16 false<|.b8 false<|.b2 false<|.rt false)<|.k5 0<|.kg 0<|.b16 false<|.b16 false<|.b16 false<|.rt false
def Zvj:LF Empty Bool := .z0 70 [.t 4] wB
def Zqn:=fun a0 a1=>Zvj.run (Zvi a0 a1)
theorem Zsw(a0)(a1){r}(h:Zqn a0 a1=some r):Fn PR 70 [wA (Zay a0),wA (Zay a1)] (wB r):=Zvj.fn h
def Z0s(a0:Zal)(a1:Zal):LT Empty Bool:=
.lb 1002<|.lb 1003<|.cs (a0.Id==a1.Id) (.k5 0<|.kg 0<|.cs (a0.Kind==a1.Kind) (.k5 1<|.kg 1<|.cs (a0.Source==a1.Source) (.k5 2<|.kg 2<|.cs (a0.Control==a1.Control) (.k5 3<|.kg 3<|.cs (a0.X==a1.X) (.k5 4<|.kg 4<|.cs (a0.Copy==a1.Copy) (.k5 5<|.kg 5<|.cs (Z2 (Zdm a0.Event) (Zdm a1.Event)) (.k5 6<|.call (Zlx a0.Targets a1.Targets) fun x8=>.kg 6<|.cs x8 (.k5 7<|.call (Zsw a0.Ability a1.Ability) fun x11=>.kg 7<|.rt x11)<|.k5 7<|.kg 7<|.rt false)<|.k5 6<|.kg 6<|.b5 false<|.kb false<|.rt false)<|.k5 5<|.kg 5<|.b8 false<|.b4 false<|.rt false)<|.k5 4<|.kg 4<|.b16 false<|.b2 false<|.rt false)<|.k5 3<|.kg 3<|.b16 false<|.b8 false<|.rt false)<|.k5 2<|.kg 2<|.b16 false<|.b8 false<|.b5 false<|.kb false<|.rt false)<|.k5 1<|.kg 1<|.b16 false<|.b16 false<|.b4 false<|.rt false)<|.k5 0<|.kg 0<|.b16 false<|.b16 false<|.b8 false<|.b2 false<|.rt false
def Z0t:LF Empty Bool := .z0 37 [.t 4] wB
def Zv7:=fun a0 a1=>Z0t.run (Z0s a0 a1)
theorem Zac5(a0)(a1){r}(h:Zv7 a0 a1=some r):Fn PR 37 [wA (Zf a0),wA (Zf a1)] (wB r):=Z0t.fn h
def Zvk(a0:Zab)(a1:Zab):LT Empty Bool:=
.lb 1002<|.lb 1003<|.cs (a0.Source==a1.Source) (.k5 0<|.kg 0<|.cs (a0.Control==a1.Control) (.k5 1<|.kg 1<|.cs (Z2 (Zdm a0.Event) (Zdm a1.Event)) (.k5 2<|.call (Zsw a0.Ability a1.Ability) fun x4=>.kg 2<|.rt x4)<|.k5 2<|.kg 2<|.rt false)<|.k5 1<|.kg 1<|.b5 false<|.kb false<|.rt false)<|.k5 0<|.kg 0<|.b8 false<|.b4 false<|.rt false
def Zvl:LF Empty Bool := .z0 39 [.t 4] wB
def Zqo:=fun a0 a1=>Zvl.run (Zvk a0 a1)
theorem Z6e(a0)(a1){r}(h:Zqo a0 a1=some r):Fn PR 39 [wA (Zd a0),wA (Zd a1)] (wB r):=Zvl.fn h
def Z0u(a0:Za1)(a1:Za1):LT Empty Bool:=
.lb 1002<|.lb 1003<|.cs (a0.Stamp==a1.Stamp) (.k5 0<|.kg 0<|.cs (a0.Control==a1.Control) (.k5 1<|.kg 1<|.cs (a0.Source==a1.Source) (.k5 2<|.kg 2<|.cs (a0.Until==a1.Until) (.k5 3<|.call (Zeo a0.Objects a1.Objects) fun x5=>.kg 3<|.cs x5 (.k5 4<|.call (Zgl a0.Mods a1.Mods) fun x8=>.kg 4<|.rt x8)<|.k5 4<|.kg 4<|.rt false)<|.k5 3<|.kg 3<|.b5 false<|.kb false<|.rt false)<|.k5 2<|.kg 2<|.b8 false<|.b4 false<|.rt false)<|.k5 1<|.kg 1<|.b16 false<|.b2 false<|.rt false)<|.k5 0<|.kg 0<|.b16 false<|.b8 false<|.rt false
def Z0v:LF Empty Bool := .z0 41 [.t 4] wB
def Zv8:=fun a0 a1=>Z0v.run (Z0u a0 a1)
theorem Zac6(a0)(a1){r}(h:Zv8 a0 a1=some r):Fn PR 41 [wA (Zh a0),wA (Zh a1)] (wB r):=Z0v.fn h
inductive Zc2 where
 | L0 (v0:List Zaf) (v1:List Zaf) (v12:Int) (v13:Int)
def Zcy(v0:List Zaf)(v1:List Zaf)(v12:Int)(v13:Int):LT Zc2 Bool:=
.br (decide (v13 < v12)) (.idx Zl v0 v13 fun x2=>.idx Zl v1 v13 fun x4=>.br (!(Z2 (Zl x2) (Zl x4))) (.rt false)<|.g0 (.L0 v0 v1 v12 (IntKind.wrap .i64 (v13+1))))<|.rt true
def Zh9(a0:List Zaf)(a1:List Zaf):LT Zc2 Bool:=
.len Zl a0<|.len Zl a1<|.br ((a0.length:Int) != (a1.length:Int)) (.rt false)<|.len Zl a0<|.g0 (.L0 a0 a1 (a0.length:Int) 0)
def Zeb:LF Zc2 Bool := .m0 72 [.t 4] wB fun | .L0 v0 v1 v12 v13=>([1,1,0,1,4],⟨26,[(0,wL Zl v0),(1,wL Zl v1),(12,wI v12),(13,wI v13)],[]⟩,Zcy v0 v1 v12 v13)
def Zf3:=fun a0 a1=>Zeb.run (Zh9 a0 a1)
theorem Zly(a0)(a1){r}(h:Zf3 a0 a1=some r):Fn PR 72 [wL Zl a0,wL Zl a1] (wB r):=Zeb.fn h
def Zw9(a0:Zbc)(a1:Zbc):LT Empty Bool:=
.lb 1002<|.lb 1003<|.cs (a0.Kind==a1.Kind) (.k5 0<|.kg 0<|.cs (a0.Player==a1.Player) (.k5 1<|.kg 1<|.cs (a0.Source==a1.Source) (.k5 2<|.kg 2<|.cs (a0.Least==a1.Least) (.k5 3<|.kg 3<|.cs (a0.Most==a1.Most) (.k5 4<|.kg 4<|.cs (a0.N==a1.N) (.k5 5<|.call (Zly a0.Options a1.Options) fun x7=>.kg 5<|.rt x7)<|.k5 5<|.kg 5<|.rt false)<|.k5 4<|.kg 4<|.b5 false<|.kb false<|.rt false)<|.k5 3<|.kg 3<|.b8 false<|.b4 false<|.rt false)<|.k5 2<|.kg 2<|.b16 false<|.b2 false<|.rt false)<|.k5 1<|.kg 1<|.b16 false<|.b8 false<|.rt false)<|.k5 0<|.kg 0<|.b16 false<|.b8 false<|.b5 false<|.kb false<|.rt false
def Zxa:LF Empty Bool := .z0 42 [.t 4] wB
def Zsb:=fun a0 a1=>Zxa.run (Zw9 a0 a1)
theorem Z8b(a0)(a1){r}(h:Zsb a0 a1=some r):Fn PR 42 [wA (Zf6 a0),wA (Zf6 a1)] (wB r):=Zxa.fn h
inductive Zat where
 | L0 (v1:List Zc3) (v15:List Zc3) (v16:Int) (v17:Int)
def Zao(v1:List Zc3)(v15:List Zc3)(v16:Int)(v17:Int):LT Zat Bool:=
.br (decide (v17 < v16)) (.idx Z8 v15 v17 fun x2=>.lb 1008<|.idx Z8 v1 v17 fun x4=>.lb 1009<|.call (Zac4 x2 x4) fun x6=>.br (!x6) (.rt false)<|.g0 (.L0 v1 v15 v16 (IntKind.wrap .i64 (v17+1))))<|.rt true
def Zdb(a0:List Zc3)(a1:List Zc3):LT Zat Bool:=
.len Z8 a0<|.len Z8 a1<|.br ((a0.length:Int) != (a1.length:Int)) (.rt false)<|.len Z8 a0<|.g0 (.L0 a1 a0 (a0.length:Int) 0)
def Za9:LF Zat Bool := .m0 34 [.t 6] wB fun | .L0 v1 v15 v16 v17=>([1,1,0,1,4],⟨32,[(1,wL Z8 v1),(2,.fn 35 []),(15,wL Z8 v15),(16,wI v16),(17,wI v17)],[]⟩,Zao v1 v15 v16 v17)
def Zb5:=fun a0 a1=>Za9.run (Zdb a0 a1)
theorem Zft(a0)(a1){r}(h:Zb5 a0 a1=some r):Fn PR 34 [wL Z8 a0,wL Z8 a1,.fn 35 []] (wB r):=Za9.fn h
inductive Zau where
 | L0 (v1:List Zal) (v15:List Zal) (v16:Int) (v17:Int)
def Zap(v1:List Zal)(v15:List Zal)(v16:Int)(v17:Int):LT Zau Bool:=
.br (decide (v17 < v16)) (.idx Zf v15 v17 fun x2=>.lb 1008<|.idx Zf v1 v17 fun x4=>.lb 1009<|.call (Zac5 x2 x4) fun x6=>.br (!x6) (.rt false)<|.g0 (.L0 v1 v15 v16 (IntKind.wrap .i64 (v17+1))))<|.rt true
def Zdc(a0:List Zal)(a1:List Zal):LT Zau Bool:=
.len Zf a0<|.len Zf a1<|.br ((a0.length:Int) != (a1.length:Int)) (.rt false)<|.len Zf a0<|.g0 (.L0 a1 a0 (a0.length:Int) 0)
def Zba:LF Zau Bool := .m0 36 [.t 6] wB fun | .L0 v1 v15 v16 v17=>([1,1,0,1,4],⟨32,[(1,wL Zf v1),(2,.fn 37 []),(15,wL Zf v15),(16,wI v16),(17,wI v17)],[]⟩,Zap v1 v15 v16 v17)
def Zb6:=fun a0 a1=>Zba.run (Zdc a0 a1)
theorem Zfu(a0)(a1){r}(h:Zb6 a0 a1=some r):Fn PR 36 [wL Zf a0,wL Zf a1,.fn 37 []] (wB r):=Zba.fn h
inductive Zae where
 | L0 (v1:List Zab) (v15:List Zab) (v16:Int) (v17:Int)
def Zad(v1:List Zab)(v15:List Zab)(v16:Int)(v17:Int):LT Zae Bool:=
.br (decide (v17 < v16)) (.idx Zd v15 v17 fun x2=>.lb 1008<|.idx Zd v1 v17 fun x4=>.lb 1009<|.call (Z6e x2 x4) fun x6=>.br (!x6) (.rt false)<|.g0 (.L0 v1 v15 v16 (IntKind.wrap .i64 (v17+1))))<|.rt true
def Zck(a0:List Zab)(a1:List Zab):LT Zae Bool:=
.len Zd a0<|.len Zd a1<|.br ((a0.length:Int) != (a1.length:Int)) (.rt false)<|.len Zd a0<|.g0 (.L0 a1 a0 (a0.length:Int) 0)
def Zas:LF Zae Bool := .m0 38 [.t 6] wB fun | .L0 v1 v15 v16 v17=>([1,1,0,1,4],⟨32,[(1,wL Zd v1),(2,.fn 39 []),(15,wL Zd v15),(16,wI v16),(17,wI v17)],[]⟩,Zad v1 v15 v16 v17)
def Zbd:=fun a0 a1=>Zas.run (Zck a0 a1)
theorem Zeu(a0)(a1){r}(h:Zbd a0 a1=some r):Fn PR 38 [wL Zd a0,wL Zd a1,.fn 39 []] (wB r):=Zas.fn h
inductive Zav where
 | L0 (v1:List Za1) (v15:List Za1) (v16:Int) (v17:Int)
def Zaq(v1:List Za1)(v15:List Za1)(v16:Int)(v17:Int):LT Zav Bool:=
.br (decide (v17 < v16)) (.idx Zh v15 v17 fun x2=>.lb 1008<|.idx Zh v1 v17 fun x4=>.lb 1009<|.call (Zac6 x2 x4) fun x6=>.br (!x6) (.rt false)<|.g0 (.L0 v1 v15 v16 (IntKind.wrap .i64 (v17+1))))<|.rt true
def Zdd(a0:List Za1)(a1:List Za1):LT Zav Bool:=
.len Zh a0<|.len Zh a1<|.br ((a0.length:Int) != (a1.length:Int)) (.rt false)<|.len Zh a0<|.g0 (.L0 a1 a0 (a0.length:Int) 0)
def Zbb:LF Zav Bool := .m0 40 [.t 6] wB fun | .L0 v1 v15 v16 v17=>([1,1,0,1,4],⟨32,[(1,wL Zh v1),(2,.fn 41 []),(15,wL Zh v15),(16,wI v16),(17,wI v17)],[]⟩,Zaq v1 v15 v16 v17)
def Zb7:=fun a0 a1=>Zbb.run (Zdd a0 a1)
theorem Zfv(a0)(a1){r}(h:Zb7 a0 a1=some r):Fn PR 40 [wL Zh a0,wL Zh a1,.fn 41 []] (wB r):=Zbb.fn h
inductive Z16 where
 | L0 (E0:Zj) (E1:Zj) (v5:Bool)
def Zjt(E0:Zj)(E1:Zj)(v5:Bool):LT Z16 Bool:=
.cs v5 (.k5 0<|.call (Zft E0.Players E1.Players) fun x2=>.kg 0<|.cs x2 (.k5 1<|.call (Zfu E0.Stack E1.Stack) fun x5=>.kg 1<|.cs x5 (.k5 2<|.call (Zeu E0.Waiting E1.Waiting) fun x8=>.kg 2<|.cs x8 (.k5 3<|.call (Zfv E0.Conts E1.Conts) fun x11=>.kg 3<|.cs x11 (.k5 4<|.call (Z8b E0.Pending E1.Pending) fun x14=>.kg 4<|.rt x14)<|.k5 4<|.kg 4<|.rt false)<|.k5 3<|.kg 3<|.b5 false<|.kb false<|.rt false)<|.k5 2<|.kg 2<|.b8 false<|.b4 false<|.rt false)<|.k5 1<|.kg 1<|.b16 false<|.b2 false<|.rt false)<|.k5 0<|.kg 0<|.b16 false<|.b8 false<|.rt false
def Zabc(a0:Zj)(a1:Zj):LT Z16 Bool:=
.lb 1002<|.lb 1003<|.cs (a0.Player != a1.Player) (.k5 0<|.kg 0<|.b16 true<|.b16 true<|.b8 true<|.b2 true<|.kn [0]<|.rt false)<|.k5 0<|.kg 0<|.cs (a0.Turn != a1.Turn) (.k5 1<|.kg 1<|.b16 true<|.b16 true<|.b4 true<|.kn [0]<|.rt false)<|.k5 1<|.kg 1<|.cs (a0.Active != a1.Active) (.k5 2<|.kg 2<|.b16 true<|.b8 true<|.b5 true<|.kb true<|.kn [0]<|.rt false)<|.k5 2<|.kg 2<|.cs (a0.Step != a1.Step) (.k5 3<|.kg 3<|.b16 true<|.b8 true<|.kn [0]<|.rt false)<|.k5 3<|.kg 3<|.cs (a0.Priority != a1.Priority) (.k5 4<|.kg 4<|.b16 true<|.b2 true<|.kn [0]<|.rt false)<|.k5 4<|.kg 4<|.cs (a0.Passes != a1.Passes) (.k5 5<|.kg 5<|.b8 true<|.b4 true<|.kn [0]<|.rt false)<|.k5 5<|.kg 5<|.cs (a0.NextId != a1.NextId) (.k5 6<|.kg 6<|.b5 true<|.kb true<|.kn [0]<|.rt false)<|.k5 6<|.kg 6<|.cs (a0.Over != a1.Over) (.k5 7<|.kg 7<|.kn [0]<|.rt false)<|.k5 7<|.kg 7<|.br (a0.Winner != a1.Winner) (.rt false)<|.call (Zeo a0.Hand a1.Hand) fun x10=>.cs x10 (.k5 9<|.call (Zlw a0.Objects a1.Objects) fun x13=>.kg 9<|.cs x13 (.k5 10<|.call (Zeo a0.Battlefield a1.Battlefield) fun x16=>.kg 10<|.cs x16 (.k5 11<|.call (Zeo a0.Exile a1.Exile) fun x19=>.kg 11<|.cs x19 (.k5 12<|.call (Zeo a0.Extra a1.Extra) fun x22=>.kg 12<|.jn 0 (.L0 a0 a1 x22) [.relab 1002 3000,.relab 1003 3001] (Zjt a0 a1 x22))<|.k5 12<|.kg 12<|.jn 0 (.L0 a0 a1 false) [.relab 1002 3000,.relab 1003 3001] (Zjt a0 a1 false))<|.k5 11<|.kg 11<|.b5 false<|.kb false<|.jn 0 (.L0 a0 a1 false) [.relab 1002 3000,.relab 1003 3001] (Zjt a0 a1 false))<|.k5 10<|.kg 10<|.b8 false<|.b4 false<|.jn 0 (.L0 a0 a1 false) [.relab 1002 3000,.relab 1003 3001] (Zjt a0 a1 false))<|.k5 9<|.kg 9<|.b16 false<|.b2 false<|.jn 0 (.L0 a0 a1 false) [.relab 1002 3000,.relab 1003 3001] (Zjt a0 a1 false)
def Zabd:LF Z16 Bool := .m0 15 [.t 4] wB fun | .L0 E0 E1 v5=>([1,1,1],⟨136,[(2,.bptr 3000 0),(3,.bptr 3001 0),(5,wB v5)],[(3000,.box (bx (Zeg E0))),(3001,.box (bx (Zeg E1)))]⟩,Zjt E0 E1 v5)
def Z8c:=fun a0 a1=>Zabd.run (Zabc a0 a1)
theorem Z8d(a0)(a1){r}(h:Z8c a0 a1=some r):Fn PR 15 [wA (Zeg a0),wA (Zeg a1)] (wB r):=Zabd.fn h
def Zabe:LT Empty Bool:=
.callF (Zaj8) 50000 fun x1=>.lb 1001<|.dr [.ahead 2,.frz 55002,.frz 55003,.frz 55004,.frz 55005,.frz 55006,.frz 55007,.frz 55017,.stop]<|.rl Zc x1.State.Objects<|.rl Zc x1.State.Objects<|.rl (cI .i64) x1.State.Battlefield<|.rl (cI .i64) x1.State.Battlefield<|.rl (cI .i64) x1.State.Exile<|.rl (cI .i64) x1.State.Exile<|.rl Zf x1.State.Stack<|.rl Zf x1.State.Stack<|.rl Zd x1.State.Waiting<|.rl Zd x1.State.Waiting<|.rl Zh x1.State.Conts<|.rl Zh x1.State.Conts<|.rl (cI .i64) x1.State.Extra<|.rl (cI .i64) x1.State.Extra<|.call (Z41 x1 0) fun x3=>.call (Z41 x1 1) fun x5=>.lb 1002<|.lb 1003<|.len Zc x3.Objects<|.cs ((x3.Objects.length:Int)==2) (.k3 0<|.idx Zc x3.Objects 0 fun x9=>.k4 0<|.cs (x9.Id==1) (.k3 1<|.idx Zc x3.Objects 1 fun x12=>.k4 1<|.cs (x12.Id==3) (.k4 2<|.len Zl x3.Pending.Options<|.k2 2<|.cs ((x3.Pending.Options.length:Int)==1) (.k3 3<|.dr [.lit]<|.kg 3<|.call (Zhm x3.Hand [1]) fun x17=>.kg 3<|.cs x17 (.k3 4<|.len Zc x5.Objects<|.k2 4<|.cs ((x5.Objects.length:Int)==1) (.k3 5<|.idx Zc x5.Objects 0 fun x22=>.k4 5<|.cs (x22.Id==2) (.k4 6<|.len Zl x5.Pending.Options<|.k2 6<|.cs ((x5.Pending.Options.length:Int)==0) (.k5 7<|.cs (x5.Pending.Kind==3) (.k3 8<|.len Z8 x5.Players<|.k2 8<|.cs ((x5.Players.length:Int)==2) (.k3 9<|.idx Z8 x5.Players 0 fun x30=>.k4 9<|.cs (x30.Hand==1) (.k3 10<|.ag Z8 x30 9<|.k4 10<|.cs (x30.Library==1) (.k3 11<|.call (Zmf x1.State 0 1) fun x34=>.kg 11<|.cs x34 (.k3 12<|.call (Zmf x1.State 1 1) fun x37=>.k2 12<|.cs (!x37) (.k3 13<|.call (Zmf x1.State 0 3) fun x40=>.k2 13<|.cs (!x40) (.k3 14<|.call (Z8d x3 x3) fun x43=>.kg 14<|.cs x43 (.k3 15<|.call (Z8d x3 x5) fun x46=>.k2 15<|.rt (!x46))<|.k5 15<|.rt false)<|.k4 14<|.b5 false<|.rt false)<|.k5 13<|.b8 false<|.kb false<|.rt false)<|.k5 12<|.b8 false<|.b5 false<|.kb false<|.rt false)<|.k4 11<|.b16 false<|.b3 false<|.rt false)<|.k5 10<|.k2 10<|.b16 false<|.b5 false<|.b2 false<|.rt false)<|.k5 9<|.k2 9<|.b16 false<|.b8 false<|.b5 false<|.kb false<|.rt false)<|.k5 8<|.b16 false<|.b16 false<|.b5 false<|.rt false)<|.k5 7<|.b16 false<|.b16 false<|.b8 false<|.b2 false<|.rt false)<|.k5 6<|.kg 6<|.b16 false<|.b16 false<|.b8 false<|.b5 false<|.b2 false<|.rt false)<|.k5 5<|.k2 5<|.b16 false<|.b16 false<|.b16 false<|.b5 false<|.rt false)<|.k5 4<|.b16 false<|.b16 false<|.b16 false<|.b8 false<|.b4 false<|.rt false)<|.k5 3<|.b16 false<|.b16 false<|.b16 false<|.b16 false<|.kb false<|.rt false)<|.k5 2<|.kg 2<|.b16 false<|.b16 false<|.b16 false<|.b16 false<|.b5 false<|.kb false<|.rt false)<|.k5 1<|.k2 1<|.b16 false<|.b16 false<|.b16 false<|.b16 false<|.b8 false<|.b4 false<|.rt false)<|.k5 0<|.k2 0<|.b16 false<|.b16 false<|.b16 false<|.b16 false<|.b16 false<|.b3 false<|.rt false
def Zabf:LF Empty Bool := .z0 5 [.t 0] wB
def Z0w:=Zabf.run (Zabe)
theorem Z8e{r}(h:Z0w=some r):Fn PR 5 [] (wB r):=Zabf.fn h
inductive Zv9 where
 | L0 (E0:Zs) (E1:Zs) (E2:Zs) (v4:Int)
def Zkz(E0:Zs)(E1:Zs)(E2:Zs)(v4:Int):LT Zv9 Zs:=
.len Zo E0.Effects<|.br (decide (v4 < (E0.Effects.length:Int))) (.idx Zo E0.Effects v4 fun x3=>.lb 1005<|.lb 1030<|.apR Zk 176 ([]:List Zq) x3.Mods fun x5=>.dr [.ahead 38,.pick [37,36,35,34,33,32,31,5,29,28,27,26,25,22,21,20,19,18,1,2,3,4] [1005,1030,3000,3001,40117,40148,40149,3002,40217,40248,40249],.frz 1030,.stop]<|.rl Zk x5<|.rl Zk x5<|.rl Zk x5<|.dr [.lit]<|.apR Zo 560 E2.Effects [(⟨x3.Op,x3.Ref,x3.Amount,x3.Counter,x3.Zone,x3.Card,x3.Filter,x3.Pool,x5⟩:Zv)] fun x8=>.g0 (.L0 E0 E1 (⟨E2.Kind,E2.Filter,E2.Mods,E2.Price,E2.Slow,E2.Trigger,E2.May,E2.Specs,x8,E2.Replace⟩:Zs) (IntKind.wrap .i64 (v4+1))))<|.ret E2 [.relab 40217 5017,.relab 40248 5048,.relab 40249 5049]
def Z5t(a0:Zs):LT Zv9 Zs:=
.lb 1001<|.lb 1002<|.lb 1003<|.lb 1007<|.apR Zk 176 ([]:List Zq) a0.Mods fun x1=>.lb 1012<|.apR Z7 144 ([]:List Zbp) a0.Specs fun x4=>.go (.L0 a0 (⟨0,(⟨0,0,0,0,0,0,0,([]:By),0,0,(⟨0,0⟩:Zg),(⟨0,0⟩:Zg),(⟨0,0⟩:Zg)⟩:Zn),([]:List Zq),(⟨(⟨0,0,(⟨0,0,0,0,0⟩:A5 Int)⟩:Zbz),false,false,0⟩:Zh6),false,(⟨0,0,(⟨0,0,0,0,0,0,0,([]:By),0,0,(⟨0,0⟩:Zg),(⟨0,0⟩:Zg),(⟨0,0⟩:Zg)⟩:Zn)⟩:Zd0),false,([]:List Zbp),([]:List Zv),(⟨0,0,(⟨0,0,0,0,0,0,0,([]:By),0,0,(⟨0,0⟩:Zg),(⟨0,0⟩:Zg),(⟨0,0⟩:Zg)⟩:Zn),0,0,0,0⟩:Zbx)⟩:Zs) (⟨a0.Kind,a0.Filter,x1,a0.Price,a0.Slow,a0.Trigger,a0.May,x4,([]:List Zv),a0.Replace⟩:Zs) 0) [.relab 1001 3000,.relab 1002 3001,.relab 1003 3002,.ownb 3001 17 40117 20,.ownb 3001 48 40148 18,.ownb 3001 49 40149 64,.relab 1007 40217,.relab 1012 40248,.ownb 3002 49 40249 64]
def Zp3:LF Zv9 Zs := .m 17 [.c 2 82 true 72] true (fun r=>(tm17 r 5000)) (fun r=>(.agg (tm0 r 5000))) fun | .L0 E0 E1 E2 v4=>([1,1,1,1,1,0,1,4],⟨42,[(1,.bptr 3000 0),(2,.bptr 3001 0),(3,.bptr 3002 0),(4,wI v4)],((3000,.box (bx (Zay E0)))::(3001,.box (tm0 E1 40100))::(40117,wR Zk 20 E1.Mods)::(40148,wR Z7 18 E1.Specs)::(40149,wR Zo 64 E1.Effects)::(3002,.box (tm0 E2 40200))::(tm17 E2 40200))⟩,Zkz E0 E1 E2 v4)
def Z17:=fun a0=>Zp3.run (Z5t a0)
theorem Z0x(a0){r}(h:Z17 a0=some r):FnG PR 17 [] [wA (Zay a0)] (tm17 r 5000) (.agg (tm0 r 5000)):=Zp3.fn h
inductive Zor where
 | L0 (E0:Za) (E1:Za) (E2:Za) (v4:Int)
 | L1 (E0:Za) (E1:Za) (E2:Za) (v6:Int)
 | L2 (E0:Za) (E1:Za) (E2:Za) (v8:Int)
 | L3 (E0:Za) (E1:Za) (E2:Za) (v10:Int)
def Zpn(E0:Za)(E1:Za)(E2:Za)(v4:Int):LT Zor Za:=
.len Ze E0.Players<|.br (decide (v4 < (E0.Players.length:Int))) (.idx Ze E0.Players v4 fun x3=>.lb 1005<|.call (Zua x3.Library) fun x5=>.call (Zua x3.Hand) fun x7=>.call (Zua x3.Graveyard) fun x9=>.dr [.lit]<|.apR Ze 152 E2.Players [(⟨x3.Life,x3.Venom,x3.Lands,x3.Pool,x3.Failed,x3.Lost,x5,x7,x9⟩:Z5)] fun x11=>.g0 (.L0 E0 E1 (⟨x11,E2.Objects,E2.Battlefield,E2.Exile,E2.Stack,E2.Waiting,E2.Conts,E2.Turn,E2.Active,E2.Step,E2.Begun,E2.Priority,E2.Passes,E2.NextId,E2.NextStamp,E2.Seed,E2.Extra,E2.Over,E2.Winner⟩:Za) (IntKind.wrap .i64 (v4+1))))<|.lb 1044<|.apR Zc 128 ([]:List Zp) E0.Objects fun x16=>.callF (Zhs E0.Battlefield) 520000 fun x19=>.callF (Zhs E0.Exile) 560000 fun x21=>.go (.L1 E0 E1 (⟨E2.Players,x16,x19,x21,([]:List Zal),E2.Waiting,E2.Conts,E2.Turn,E2.Active,E2.Step,E2.Begun,E2.Priority,E2.Passes,E2.NextId,E2.NextStamp,E2.Seed,E2.Extra,E2.Over,E2.Winner⟩:Za) 0) [.relab 1044 40201,.relab 525000 40202,.relab 565000 40203,.ownb 3002 4 40204 94]
def Zpo(E0:Za)(E1:Za)(E2:Za)(v6:Int):LT Zor Za:=
.len Zf E0.Stack<|.br (decide (v6 < (E0.Stack.length:Int))) (.idx Zf E0.Stack v6 fun x3=>.lb 1007<|.callF (Z0x x3.Ability) 730000 fun x5=>.lb 1074<|.apR Zaa 16 ([]:List Zbj) x3.Targets fun x7=>.dr [.ahead 82,.frz 735017,.frz 735048,.frz 735049,.pick [81,80,79,78,77,76,75,73,72,71,70,7,69,68,67,66,65,62,61,60,59,58,1,2,3,6] [1007,1074,3000,3001,40100,40101,40102,40103,40104,40105,40106,40116,3002,40200,40201,40202,40203,40204],.frz 1074,.stop]<|.rl Zk x5.Mods<|.rl Zk x5.Mods<|.rl Zk x5.Mods<|.rl Z7 x5.Specs<|.rl Z7 x5.Specs<|.rl Z7 x5.Specs<|.rl Zo x5.Effects<|.rl Zo x5.Effects<|.rl Zo x5.Effects<|.rl Zaa x7<|.rl Zaa x7<|.rl Zaa x7<|.dr [.lit]<|.apR Zf 824 E2.Stack [(⟨x3.Id,x3.Kind,x3.Source,x3.Control,x3.X,x3.Copy,x5,x7,x3.Event⟩:Zal)] fun x10=>.g0 (.L1 E0 E1 (⟨E2.Players,E2.Objects,E2.Battlefield,E2.Exile,x10,E2.Waiting,E2.Conts,E2.Turn,E2.Active,E2.Step,E2.Begun,E2.Priority,E2.Passes,E2.NextId,E2.NextStamp,E2.Seed,E2.Extra,E2.Over,E2.Winner⟩:Za) (IntKind.wrap .i64 (v6+1))))<|.go (.L2 E0 E1 (⟨E2.Players,E2.Objects,E2.Battlefield,E2.Exile,E2.Stack,([]:List Zab),E2.Conts,E2.Turn,E2.Active,E2.Step,E2.Begun,E2.Priority,E2.Passes,E2.NextId,E2.NextStamp,E2.Seed,E2.Extra,E2.Over,E2.Winner⟩:Za) 0) [.ownb 3002 5 40205 89]
def Zpp(E0:Za)(E1:Za)(E2:Za)(v8:Int):LT Zor Za:=
.len Zd E0.Waiting<|.br (decide (v8 < (E0.Waiting.length:Int))) (.idx Zd E0.Waiting v8 fun x3=>.lb 1009<|.callF (Z0x x3.Ability) 1010000 fun x5=>.dr [.ahead 105,.frz 1015017,.frz 1015048,.frz 1015049,.stop]<|.rl Zk x5.Mods<|.rl Zk x5.Mods<|.rl Zk x5.Mods<|.rl Z7 x5.Specs<|.rl Z7 x5.Specs<|.rl Z7 x5.Specs<|.rl Zo x5.Effects<|.rl Zo x5.Effects<|.rl Zo x5.Effects<|.dr [.lit]<|.apR Zd 768 E2.Waiting [(⟨x3.Source,x3.Control,x5,x3.Event⟩:Zab)] fun x7=>.g0 (.L2 E0 E1 (⟨E2.Players,E2.Objects,E2.Battlefield,E2.Exile,E2.Stack,x7,E2.Conts,E2.Turn,E2.Active,E2.Step,E2.Begun,E2.Priority,E2.Passes,E2.NextId,E2.NextStamp,E2.Seed,E2.Extra,E2.Over,E2.Winner⟩:Za) (IntKind.wrap .i64 (v8+1))))<|.go (.L3 E0 E1 (⟨E2.Players,E2.Objects,E2.Battlefield,E2.Exile,E2.Stack,E2.Waiting,([]:List Za1),E2.Turn,E2.Active,E2.Step,E2.Begun,E2.Priority,E2.Passes,E2.NextId,E2.NextStamp,E2.Seed,E2.Extra,E2.Over,E2.Winner⟩:Za) 0) [.ownb 3002 6 40206 6]
def Zpq(E0:Za)(E1:Za)(E2:Za)(v10:Int):LT Zor Za:=
.len Zh E0.Conts<|.br (decide (v10 < (E0.Conts.length:Int))) (.idx Zh E0.Conts v10 fun x3=>.lb 1011<|.call (Zua x3.Objects) fun x5=>.lb 1125<|.apR Zk 176 ([]:List Zq) x3.Mods fun x7=>.dr [.ahead 133,.pick [132,131,130,129,128,127,126,124,123,122,121,11,120,119,118,117,116,113,112,111,110,109,1,2,3,10] [1011,1125,3000,3001,40100,40101,40102,40103,40104,40105,40106,40116,3002,40200,40201,40202,40203,40204,40205,40206],.frz 1125,.stop]<|.rl Zk x7<|.rl Zk x7<|.rl Zk x7<|.dr [.lit]<|.apR Zh 80 E2.Conts [(⟨x3.Stamp,x3.Control,x3.Source,x3.Until,x5,x7⟩:Za1)] fun x10=>.g0 (.L3 E0 E1 (⟨E2.Players,E2.Objects,E2.Battlefield,E2.Exile,E2.Stack,E2.Waiting,x10,E2.Turn,E2.Active,E2.Step,E2.Begun,E2.Priority,E2.Passes,E2.NextId,E2.NextStamp,E2.Seed,E2.Extra,E2.Over,E2.Winner⟩:Za) (IntKind.wrap .i64 (v10+1))))<|.callF (Zhs E0.Extra) 1390000 fun x15=>.ret (⟨E2.Players,E2.Objects,E2.Battlefield,E2.Exile,E2.Stack,E2.Waiting,E2.Conts,E2.Turn,E2.Active,E2.Step,E2.Begun,E2.Priority,E2.Passes,E2.NextId,E2.NextStamp,E2.Seed,x15,E2.Over,E2.Winner⟩:Za) (tm15 40200 5000 1395000)
def Zagg(a0:Za):LT Zor Za:=
.lb 1001<|.lb 1002<|.lb 1003<|.go (.L0 a0 (⟨([]:List Z5),([]:List Zp),([]:List Int),([]:List Int),([]:List Zal),([]:List Zab),([]:List Za1),0,0,0,false,0,0,0,0,0,([]:List Int),0,0⟩:Za) (⟨([]:List Z5),a0.Objects,a0.Battlefield,a0.Exile,a0.Stack,a0.Waiting,a0.Conts,a0.Turn,a0.Active,a0.Step,a0.Begun,a0.Priority,a0.Passes,a0.NextId,a0.NextStamp,a0.Seed,a0.Extra,a0.Over,a0.Winner⟩:Za) 0) [.relab 1001 3000,.relab 1002 3001,.relab 1003 3002,.ownb 3001 0 40100 14,.ownb 3001 1 40101 19,.ownb 3001 2 40102 1,.ownb 3001 3 40103 1,.ownb 3001 4 40104 94,.ownb 3001 5 40105 89,.ownb 3001 6 40106 6,.ownb 3001 16 40116 1,.ownb 3002 0 40200 14]
def Zfw:LF Zor Za := .m 6 [.c 2 31 true 19] true (fun r=>[(5000,wR Ze 14 r.Players),(5001,wR Zc 19 r.Objects),(5002,wR (cI .i64) 1 r.Battlefield),(5003,wR (cI .i64) 1 r.Exile),(5004,wR Zf 94 r.Stack),(5005,wR Zd 89 r.Waiting),(5006,wR Zh 6 r.Conts),(5016,wR (cI .i64) 1 r.Extra)]) (fun r=>(.agg (tm2 r 5000))) fun | .L0 E0 E1 E2 v4=>([1,1,1,0,1,4],⟨141,[(1,.bptr 3000 0),(2,.bptr 3001 0),(3,.bptr 3002 0),(4,wI v4)],[(3000,.box (bx (Zr E0))),(3001,.box (tm2 E1 40100)),(40100,wR Ze 14 E1.Players),(40101,wR Zc 19 E1.Objects),(40102,wR (cI .i64) 1 E1.Battlefield),(40103,wR (cI .i64) 1 E1.Exile),(40104,wR Zf 94 E1.Stack),(40105,wR Zd 89 E1.Waiting),(40106,wR Zh 6 E1.Conts),(40116,wR (cI .i64) 1 E1.Extra),(3002,.box (tm11 E2 40200)),(40200,wR Ze 14 E2.Players)]⟩,Zpn E0 E1 E2 v4) | .L1 E0 E1 E2 v6=>([1,1,1,1,1,1,1,1,0,1,4],⟨141,[(1,.bptr 3000 0),(2,.bptr 3001 0),(3,.bptr 3002 0),(6,wI v6)],[(3000,.box (bx (Zr E0))),(3001,.box (tm2 E1 40100)),(40100,wR Ze 14 E1.Players),(40101,wR Zc 19 E1.Objects),(40102,wR (cI .i64) 1 E1.Battlefield),(40103,wR (cI .i64) 1 E1.Exile),(40104,wR Zf 94 E1.Stack),(40105,wR Zd 89 E1.Waiting),(40106,wR Zh 6 E1.Conts),(40116,wR (cI .i64) 1 E1.Extra),(3002,.box (tm10 E2 40200)),(40200,wR Ze 14 E2.Players),(40201,wR Zc 19 E2.Objects),(40202,wR (cI .i64) 1 E2.Battlefield),(40203,wR (cI .i64) 1 E2.Exile),(40204,wR Zf 94 E2.Stack)]⟩,Zpo E0 E1 E2 v6) | .L2 E0 E1 E2 v8=>([1,1,1,1,1,1,1,1,1,1,0,1,4],⟨141,[(1,.bptr 3000 0),(2,.bptr 3001 0),(3,.bptr 3002 0),(8,wI v8)],[(3000,.box (bx (Zr E0))),(3001,.box (tm2 E1 40100)),(40100,wR Ze 14 E1.Players),(40101,wR Zc 19 E1.Objects),(40102,wR (cI .i64) 1 E1.Battlefield),(40103,wR (cI .i64) 1 E1.Exile),(40104,wR Zf 94 E1.Stack),(40105,wR Zd 89 E1.Waiting),(40106,wR Zh 6 E1.Conts),(40116,wR (cI .i64) 1 E1.Extra),(3002,.box (tm9 E2 40200)),(40200,wR Ze 14 E2.Players),(40201,wR Zc 19 E2.Objects),(40202,wR (cI .i64) 1 E2.Battlefield),(40203,wR (cI .i64) 1 E2.Exile),(40204,wR Zf 94 E2.Stack),(40205,wR Zd 89 E2.Waiting)]⟩,Zpp E0 E1 E2 v8) | .L3 E0 E1 E2 v10=>([1,1,1,1,1,1,1,1,1,1,1,1,0,1,4],⟨141,[(1,.bptr 3000 0),(2,.bptr 3001 0),(3,.bptr 3002 0),(10,wI v10)],[(3000,.box (bx (Zr E0))),(3001,.box (tm2 E1 40100)),(40100,wR Ze 14 E1.Players),(40101,wR Zc 19 E1.Objects),(40102,wR (cI .i64) 1 E1.Battlefield),(40103,wR (cI .i64) 1 E1.Exile),(40104,wR Zf 94 E1.Stack),(40105,wR Zd 89 E1.Waiting),(40106,wR Zh 6 E1.Conts),(40116,wR (cI .i64) 1 E1.Extra),(3002,.box (tm8 E2 40200)),(40200,wR Ze 14 E2.Players),(40201,wR Zc 19 E2.Objects),(40202,wR (cI .i64) 1 E2.Battlefield),(40203,wR (cI .i64) 1 E2.Exile),(40204,wR Zf 94 E2.Stack),(40205,wR Zd 89 E2.Waiting),(40206,wR Zh 6 E2.Conts)]⟩,Zpq E0 E1 E2 v10)
def Zy5:=fun a0=>Zfw.run (Zagg a0)
theorem Zao1(a0){r}(h:Zy5 a0=some r):FnG PR 6 [] [wA (Zr a0)] [(5000,wR Ze 14 r.Players),(5001,wR Zc 19 r.Objects),(5002,wR (cI .i64) 1 r.Battlefield),(5003,wR (cI .i64) 1 r.Exile),(5004,wR Zf 94 r.Stack),(5005,wR Zd 89 r.Waiting),(5006,wR Zh 6 r.Conts),(5016,wR (cI .i64) 1 r.Extra)] (.agg (tm2 r 5000)):=Zfw.fn h
theorem Zabg(a0:Za){r:Za}(h:Zy5 a0=some r):Fn PR 6 [wA (Zr a0)] (wA (Zr r)):=
 FnG.frozen (C:=LT.RL Ze r.Players/\LT.RL Zc r.Objects/\LT.RL (cI .i64) r.Battlefield/\LT.RL (cI .i64) r.Exile/\LT.RL Zf r.Stack/\LT.RL Zd r.Waiting/\LT.RL Zh r.Conts/\LT.RL (cI .i64) r.Extra/\True) (Zao1 a0 h) ⟨rfl,rfl,rfl,rfl,rfl,rfl,rfl,rfl,trivial⟩ (by kernel_rfl)
inductive Z18 where
 | L0 (v0:List Int) (v1:Int) (v5:Int)
def Znx(v0:List Int)(v1:Int)(v5:Int):LT Z18 Int:=
.len (cI .i64) v0<|.br (decide (v5 < (v0.length:Int))) (.idx (cI .i64) v0 v5 fun x3=>.br (x3==v1) (.rt v5)<|.g0 (.L0 v0 v1 (IntKind.wrap .i64 (v5+1))))<|.rt (-1)
def Zabh(a0:List Int)(a1:Int):LT Z18 Int:=
.g0 (.L0 a0 a1 0)
def Zkk:LF Z18 Int := .m0 73 [.t 4] wI fun | .L0 v0 v1 v5=>([1,0,1,4],⟨19,[(0,wL (cI .i64) v0),(1,wI v1),(5,wI v5)],[]⟩,Znx v0 v1 v5)
def Zajt:=fun a0 a1=>Zkk.run (Zabh a0 a1)
theorem Zao2(a0)(a1){r}(h:Zajt a0 a1=some r):Fn PR 73 [wL (cI .i64) a0,wI a1] (wI r):=Zkk.fn h
def Zaju(a0:List Int)(a1:Int):LT Empty Bool:=
.call (Zao2 a0 a1) fun x1=>.rt (decide (x1>=0))
def Zajv:LF Empty Bool := .z0 43 [.t 4] wB
def Zaic:=fun a0 a1=>Zajv.run (Zaju a0 a1)
theorem Zats(a0)(a1){r}(h:Zaic a0 a1=some r):Fn PR 43 [wL (cI .i64) a0,wI a1] (wB r):=Zajv.fn h
inductive Z19 where
 | L0 (v1:Int) (v2:Int) (E0:Za) (v7:Int)
def Zju(v1:Int)(v2:Int)(E0:Za)(v7:Int):LT Z19 Bool:=
.len Zc E0.Objects<|.br (decide (v7 < (E0.Objects.length:Int))) (.idx Zc E0.Objects v7 fun x3=>.br (x3.Id==v2) (.ag Zc x3 0<|.cs (x3.Zone != 2) (.k3 2<|.cs (x3.Zone != 1) (.k5 3<|.kg 3<|.kg 2<|.kg 3<|.kg 2<|.rt true)<|.k3 3<|.cs (decide (v1>=0)) (.k4 4<|.len Ze E0.Players<|.kg 4<|.kg 3<|.kg 4<|.kg 3<|.cs (decide (v1 < (E0.Players.length:Int))) (.k4 5<|.idx Ze E0.Players v1 fun x11=>.k4 5<|.call (Zats x11.Hand v2) fun x13=>.kg 3<|.kg 5<|.kg 2<|.kg 3<|.kg 2<|.rt x13)<|.k8 5<|.kg 3<|.kg 5<|.kg 2<|.kg 3<|.kg 2<|.rt false)<|.k5 4<|.kg 3<|.kg 4<|.kg 3<|.b8 false<|.kg 3<|.kb false<|.kg 2<|.kg 3<|.kg 2<|.rt false)<|.k5 2<|.rt false)<|.g0 (.L0 v1 v2 E0 (IntKind.wrap .i64 (v7+1))))<|.rt false
def Zabi(a0:Za)(a1:Int)(a2:Int):LT Z19 Bool:=
.lb 1003<|.go (.L0 a1 a2 a0 0) [.relab 1003 3000]
def Zub:LF Z19 Bool := .m0 18 [.t 6] wB fun | .L0 v1 v2 E0 v7=>([1,0,1,4],⟨57,[(1,wI v1),(2,wI v2),(3,.bptr 3000 0),(7,wI v7)],[(3000,.box (bx (Zr E0)))]⟩,Zju v1 v2 E0 v7)
def Z8f:=fun a0 a1 a2=>Zub.run (Zabi a0 a1 a2)
theorem Zao3(a0)(a1)(a2){r}(h:Z8f a0 a1 a2=some r):Fn PR 18 [wA (Zr a0),wI a1,wI a2] (wB r):=Zub.fn h
inductive Zwa where
 | L0 (v2:Int) (E0:Z6) (v7:Int)
def Zk0(v2:Int)(E0:Z6)(v7:Int):LT Zwa Bool:=
.len Zl E0.Pending.Options<|.br (decide (v7 < (E0.Pending.Options.length:Int))) (.idx Zl E0.Pending.Options v7 fun x3=>.lb 1008<|.cs (x3.Kind==5) (.k5 1<|.br (x3.A==v2) (.rt true)<|.g0 (.L0 v2 E0 (IntKind.wrap .i64 (v7+1))))<|.k5 1<|.kn [0]<|.g0 (.L0 v2 E0 (IntKind.wrap .i64 (v7+1))))<|.rt false
def Z5u(a0:Z6)(a1:Int)(a2:Int):LT Zwa Bool:=
.lb 1003<|.cs (a0.Pending.Kind==0) (.k5 0<|.kg 0<|.kn [0]<|.rt false)<|.k5 0<|.kg 0<|.br (a0.Pending.Player != a1) (.rt false)<|.go (.L0 a2 a0 0) [.relab 1003 3000]
def Zwb:LF Zwa Bool := .m0 19 [.t 6] wB fun | .L0 v2 E0 v7=>([1,1,0,1,4],⟨43,[(2,wI v2),(3,.bptr 3000 0),(7,wI v7)],[(3000,.box (bx (Zb3 E0)))]⟩,Zk0 v2 E0 v7)
def Z2a:=fun a0 a1 a2=>Zwb.run (Z5u a0 a1 a2)
theorem Zaid(a0)(a1)(a2){r}(h:Z2a a0 a1 a2=some r):Fn PR 19 [wA (Zb3 a0),wI a1,wI a2] (wB r):=Zwb.fn h
inductive Zy6 where
 | L0 (v1:Int) (E0:Z6) (E1:Zj) (E2:Za) (E3:Zj) (v7:Int)
 | L1 (v1:Int) (E0:Z6) (E1:Zj) (E2:Za) (E3:Zj)
 | L2 (v1:Int) (E0:Z6) (E1:Zj) (E2:Za) (E3:Zj) (v9:Int)
def Zvm(v1:Int)(E0:Z6)(E1:Zj)(E2:Za)(E3:Zj):LT Zy6 Zj:=
.g0 (.L2 v1 E0 E1 E2 E3 0)
def Zvn(v1:Int)(E0:Z6)(E1:Zj)(E2:Za)(E3:Zj)(v7:Int):LT Zy6 Zj:=
.len Ze E2.Players<|.br (decide (v7 < (E2.Players.length:Int))) (.idx Ze E2.Players v7 fun x3=>.lb 1008<|.len (cI .i64) x3.Library<|.len (cI .i64) x3.Hand<|.dr [.lit]<|.apR Z8 120 E3.Players [(⟨x3.Life,x3.Venom,x3.Lands,(x3.Library.length:Int),(x3.Hand.length:Int),x3.Pool,x3.Lost,x3.Graveyard⟩:Zc3)] fun x7=>.g0 (.L0 v1 E0 E1 E2 (⟨E3.Player,x7,E3.Hand,E3.Objects,E3.Battlefield,E3.Exile,E3.Stack,E3.Waiting,E3.Conts,E3.Turn,E3.Active,E3.Step,E3.Priority,E3.Passes,E3.NextId,E3.Over,E3.Winner,E3.Extra,E3.Pending⟩:Zj) (IntKind.wrap .i64 (v7+1))))<|.cs (decide (v1>=0)) (.k4 1<|.len Ze E2.Players<|.k2 1<|.br (decide (v1 < (E2.Players.length:Int))) (.idx Ze E2.Players v1 fun x14=>.j0 (.L1 v1 E0 E1 E2 (⟨E3.Player,E3.Players,x14.Hand,E3.Objects,E3.Battlefield,E3.Exile,E3.Stack,E3.Waiting,E3.Conts,E3.Turn,E3.Active,E3.Step,E3.Priority,E3.Passes,E3.NextId,E3.Over,E3.Winner,E3.Extra,E3.Pending⟩:Zj)) (Zvm v1 E0 E1 E2 (⟨E3.Player,E3.Players,x14.Hand,E3.Objects,E3.Battlefield,E3.Exile,E3.Stack,E3.Waiting,E3.Conts,E3.Turn,E3.Active,E3.Step,E3.Priority,E3.Passes,E3.NextId,E3.Over,E3.Winner,E3.Extra,E3.Pending⟩:Zj)))<|.rl (cI .i64) E3.Hand<|.jn 0 (.L1 v1 E0 E1 E2 E3) [.frz 40302] (Zvm v1 E0 E1 E2 E3))<|.k5 1<|.kg 1<|.kn [0]<|.rl (cI .i64) E3.Hand<|.jn 0 (.L1 v1 E0 E1 E2 E3) [.frz 40302] (Zvm v1 E0 E1 E2 E3)
def Zvo(v1:Int)(E0:Z6)(E1:Zj)(E2:Za)(E3:Zj)(v9:Int):LT Zy6 Zj:=
.len Zc E2.Objects<|.br (decide (v9 < (E2.Objects.length:Int))) (.idx Zc E2.Objects v9 fun x3=>.call (Zao3 E2 v1 x3.Id) fun x5=>.cs x5 (.k8 1<|.k2 1<|.kn [0]<|.ag Zc x3 0<|.dr [.lit]<|.apR Zc 128 E3.Objects [x3] fun x8=>.g0 (.L2 v1 E0 E1 E2 (⟨E3.Player,E3.Players,E3.Hand,x8,E3.Battlefield,E3.Exile,E3.Stack,E3.Waiting,E3.Conts,E3.Turn,E3.Active,E3.Step,E3.Priority,E3.Passes,E3.NextId,E3.Over,E3.Winner,E3.Extra,E3.Pending⟩:Zj) (IntKind.wrap .i64 (v9+1))))<|.k5 1<|.kg 1<|.ag Zc x3 0<|.k3 1<|.call (Zaid E0 v1 x3.Id) fun x13=>.kg 1<|.br x13 (.ag Zc x3 0<|.dr [.lit]<|.apR Zc 128 E3.Objects [x3] fun x16=>.g0 (.L2 v1 E0 E1 E2 (⟨E3.Player,E3.Players,E3.Hand,x16,E3.Battlefield,E3.Exile,E3.Stack,E3.Waiting,E3.Conts,E3.Turn,E3.Active,E3.Step,E3.Priority,E3.Passes,E3.NextId,E3.Over,E3.Winner,E3.Extra,E3.Pending⟩:Zj) (IntKind.wrap .i64 (v9+1))))<|.g0 (.L2 v1 E0 E1 E2 E3 (IntKind.wrap .i64 (v9+1))))<|.br (E0.Pending.Player==v1) (.apN Zl 1153 24 E0.Pending.Options fun x24=>.ret (⟨E3.Player,E3.Players,E3.Hand,E3.Objects,E3.Battlefield,E3.Exile,E3.Stack,E3.Waiting,E3.Conts,E3.Turn,E3.Active,E3.Step,E3.Priority,E3.Passes,E3.NextId,E3.Over,E3.Winner,E3.Extra,(⟨E0.Pending.Kind,E0.Pending.Player,E0.Pending.Source,E0.Pending.Least,E0.Pending.Most,E0.Pending.N,x24⟩:Zbc)⟩:Zj) [.relab 40301 5001,.relab 40303 5003,.relab 1153 5024])<|.ret (⟨E3.Player,E3.Players,E3.Hand,E3.Objects,E3.Battlefield,E3.Exile,E3.Stack,E3.Waiting,E3.Conts,E3.Turn,E3.Active,E3.Step,E3.Priority,E3.Passes,E3.NextId,E3.Over,E3.Winner,E3.Extra,(⟨E0.Pending.Kind,E0.Pending.Player,0,0,0,0,([]:List Zaf)⟩:Zbc)⟩:Zj) [.relab 40301 5001,.relab 40303 5003,.ownb 3001 24 5024 3]
def Zao4(a0:Z6)(a1:Int):LT Zy6 Zj:=
.lb 1002<|.lb 1004<|.call (Zabg a0.State) fun x1=>.lb 1005<|.lb 1006<|.go (.L0 a1 a0 (⟨0,([]:List Zc3),([]:List Int),([]:List Zp),([]:List Int),([]:List Int),([]:List Zal),([]:List Zab),([]:List Za1),0,0,0,0,0,0,0,0,([]:List Int),(⟨0,0,0,0,0,0,([]:List Zaf)⟩:Zbc)⟩:Zj) x1 (⟨a1,([]:List Zc3),([]:List Int),([]:List Zp),x1.Battlefield,x1.Exile,x1.Stack,x1.Waiting,x1.Conts,x1.Turn,x1.Active,x1.Step,x1.Priority,x1.Passes,x1.NextId,x1.Over,x1.Winner,x1.Extra,(⟨0,0,0,0,0,0,([]:List Zaf)⟩:Zbc)⟩:Zj) 0) [.relab 1002 3000,.relab 1004 3001,.relab 1005 3002,.relab 1006 3003,.ownb 3001 1 40101 13,.ownb 3001 2 40102 1,.ownb 3001 3 40103 19,.ownb 3001 4 40104 1,.ownb 3001 5 40105 1,.ownb 3001 6 40106 94,.ownb 3001 7 40107 89,.ownb 3001 8 40108 6,.ownb 3001 17 40117 1,.ownb 3001 24 40124 3,.ownb 3003 1 40301 13,.ownb 3003 2 40302 1,.ownb 3003 3 40303 19,.ownb 3003 24 40324 3]
def Ztk:LF Zy6 Zj := .m 7 [.c 4 44 true 25] true (fun r=>(Z61 r 5000)) (fun r=>(.agg (tm4 r 5000))) fun | .L0 v1 E0 E1 E2 E3 v7=>([1,1,1,0,1,4],⟨158,[(1,wI v1),(2,.bptr 3000 0),(4,.bptr 3001 0),(5,.bptr 3002 0),(6,.bptr 3003 0),(7,wI v7)],[(3000,.box (bx (Zb3 E0))),(3001,.box (tm5 E1 40100)),(40101,wR Z8 13 E1.Players),(40102,wR (cI .i64) 1 E1.Hand),(40103,wR Zc 19 E1.Objects),(40104,wR (cI .i64) 1 E1.Battlefield),(40105,wR (cI .i64) 1 E1.Exile),(40106,wR Zf 94 E1.Stack),(40107,wR Zd 89 E1.Waiting),(40108,wR Zh 6 E1.Conts),(40117,wR (cI .i64) 1 E1.Extra),(40124,wR Zl 3 E1.Pending.Options),(3002,.box (bx (Zr E2))),(3003,.box [wI E3.Player,wO Z8 40301 E3.Players,wO (cI .i64) 40302 E3.Hand,wO Zc 40303 E3.Objects,wL (cI .i64) E3.Battlefield,wL (cI .i64) E3.Exile,wL Zf E3.Stack,wL Zd E3.Waiting,wL Zh E3.Conts,wI E3.Turn,wI E3.Active,wI E3.Step,wI E3.Priority,wI E3.Passes,wI E3.NextId,wI E3.Over,wI E3.Winner,wL (cI .i64) E3.Extra,wI E3.Pending.Kind,wI E3.Pending.Player,wI E3.Pending.Source,wI E3.Pending.Least,wI E3.Pending.Most,wI E3.Pending.N,wO Zl 40324 E3.Pending.Options]),(40301,wR Z8 13 E3.Players),(40302,wR (cI .i64) 1 E3.Hand),(40303,wR Zc 19 E3.Objects),(40324,wR Zl 3 E3.Pending.Options)]⟩,Zvn v1 E0 E1 E2 E3 v7) | .L1 v1 E0 E1 E2 E3=>([1,1,1,1,1],⟨158,[(1,wI v1),(2,.bptr 3000 0),(4,.bptr 3001 0),(5,.bptr 3002 0),(6,.bptr 3003 0)],((3000,.box (bx (Zb3 E0)))::(3001,.box (tm5 E1 40100))::(40101,wR Z8 13 E1.Players)::(40102,wR (cI .i64) 1 E1.Hand)::(40103,wR Zc 19 E1.Objects)::(40104,wR (cI .i64) 1 E1.Battlefield)::(40105,wR (cI .i64) 1 E1.Exile)::(40106,wR Zf 94 E1.Stack)::(40107,wR Zd 89 E1.Waiting)::(40108,wR Zh 6 E1.Conts)::(40117,wR (cI .i64) 1 E1.Extra)::(40124,wR Zl 3 E1.Pending.Options)::(3002,.box (bx (Zr E2)))::(3003,.box (tm4 E3 40300))::(Z61 E3 40300))⟩,Zvm v1 E0 E1 E2 E3) | .L2 v1 E0 E1 E2 E3 v9=>([1,1,1,1,1,0,1,4],⟨158,[(1,wI v1),(2,.bptr 3000 0),(4,.bptr 3001 0),(5,.bptr 3002 0),(6,.bptr 3003 0),(9,wI v9)],((3000,.box (bx (Zb3 E0)))::(3001,.box (tm5 E1 40100))::(40101,wR Z8 13 E1.Players)::(40102,wR (cI .i64) 1 E1.Hand)::(40103,wR Zc 19 E1.Objects)::(40104,wR (cI .i64) 1 E1.Battlefield)::(40105,wR (cI .i64) 1 E1.Exile)::(40106,wR Zf 94 E1.Stack)::(40107,wR Zd 89 E1.Waiting)::(40108,wR Zh 6 E1.Conts)::(40117,wR (cI .i64) 1 E1.Extra)::(40124,wR Zl 3 E1.Pending.Options)::(3002,.box (bx (Zr E2)))::(3003,.box (tm4 E3 40300))::(Z61 E3 40300))⟩,Zvo v1 E0 E1 E2 E3 v9)
def Z8g:=fun a0 a1=>Ztk.run (Zao4 a0 a1)
theorem Zatt(a0)(a1){r}(h:Z8g a0 a1=some r):FnG PR 7 [] [wA (Zb3 a0),wI a1] (Z61 r 5000) (.agg (tm4 r 5000)):=Ztk.fn h
theorem Zawa(a0:Z6)(a1:Int){r:Zj}(h:Z8g a0 a1=some r):Fn PR 7 [wA (Zb3 a0),wI a1] (wA (Zeg r)):=
 FnG.frozen (C:=LT.RL Z8 r.Players/\LT.RL Zc r.Objects/\LT.RL Zl r.Pending.Options/\True) (Zatt a0 a1 h) ⟨rfl,rfl,rfl,trivial⟩ (by kernel_rfl)
def Zy7(a0:Z5)(a1:Z5):LT Empty Bool:=
.lb 1002<|.lb 1003<|.cs (a0.Life != a1.Life) (.k5 0<|.kg 0<|.b16 true<|.b8 true<|.kn [0]<|.rt false)<|.k5 0<|.kg 0<|.cs (a0.Venom != a1.Venom) (.k5 1<|.kg 1<|.b16 true<|.b2 true<|.kn [0]<|.rt false)<|.k5 1<|.kg 1<|.cs (a0.Lands != a1.Lands) (.k5 2<|.kg 2<|.b8 true<|.b4 true<|.kn [0]<|.rt false)<|.k5 2<|.kg 2<|.cs (!(Z2 ((cA6 (cI .i64)) a0.Pool) ((cA6 (cI .i64)) a1.Pool))) (.k5 3<|.kg 3<|.b5 true<|.kb true<|.kn [0]<|.rt false)<|.k5 3<|.kg 3<|.cs (!(a0.Failed==a1.Failed)) (.k5 4<|.kg 4<|.kn [0]<|.rt false)<|.k5 4<|.kg 4<|.br (!(a0.Lost==a1.Lost)) (.rt false)<|.call (Zhm a0.Library a1.Library) fun x7=>.cs x7 (.k5 6<|.call (Zhm a0.Hand a1.Hand) fun x10=>.kg 6<|.cs x10 (.k5 7<|.call (Zhm a0.Graveyard a1.Graveyard) fun x13=>.kg 7<|.rt x13)<|.k5 7<|.kg 7<|.rt false)<|.k5 6<|.kg 6<|.b5 false<|.kb false<|.rt false
def Zy8:LF Empty Bool := .z0 55 [.t 4] wB
def Ztl:=fun a0 a1=>Zy8.run (Zy7 a0 a1)
theorem Z9n(a0)(a1){r}(h:Ztl a0 a1=some r):Fn PR 55 [wA (Ze a0),wA (Ze a1)] (wB r):=Zy8.fn h
inductive Zos where
 | L0 (E0:Zal) (E1:Zal) (v5:Int)
def Zkc(E0:Zal)(E1:Zal)(v5:Int):LT Zos Bool:=
.len Zaa E0.Targets<|.br (decide (v5 < (E0.Targets.length:Int))) (.idx Zaa E0.Targets v5 fun x3=>.idx Zaa E1.Targets v5 fun x5=>.br (!(Z2 (Zaa x3) (Zaa x5))) (.rt false)<|.g0 (.L0 E0 E1 (IntKind.wrap .i64 (v5+1))))<|.cs (E0.Id==E1.Id) (.k5 1<|.kg 1<|.cs (E0.Kind==E1.Kind) (.k5 2<|.kg 2<|.cs (E0.Source==E1.Source) (.k5 3<|.kg 3<|.cs (E0.Control==E1.Control) (.k5 4<|.kg 4<|.cs (E0.X==E1.X) (.k5 5<|.kg 5<|.cs (E0.Copy==E1.Copy) (.k5 6<|.call (Z12 E0.Ability E1.Ability) fun x16=>.kg 6<|.cs x16 (.k5 7<|.kg 7<|.rt (Z2 (Zdm E0.Event) (Zdm E1.Event)))<|.k5 7<|.kg 7<|.rt false)<|.k5 6<|.kg 6<|.b5 false<|.kb false<|.rt false)<|.k5 5<|.kg 5<|.b8 false<|.b4 false<|.rt false)<|.k5 4<|.kg 4<|.b16 false<|.b2 false<|.rt false)<|.k5 3<|.kg 3<|.b16 false<|.b8 false<|.rt false)<|.k5 2<|.kg 2<|.b16 false<|.b8 false<|.b5 false<|.kb false<|.rt false)<|.k5 1<|.kg 1<|.b16 false<|.b16 false<|.b4 false<|.rt false
def Z3j(a0:Zal)(a1:Zal):LT Zos Bool:=
.lb 1002<|.lb 1003<|.len Zaa a0.Targets<|.len Zaa a1.Targets<|.br ((a0.Targets.length:Int) != (a1.Targets.length:Int)) (.rt false)<|.go (.L0 a0 a1 0) [.relab 1002 3000,.relab 1003 3001]
def Ztm:LF Zos Bool := .m0 56 [.t 4] wB fun | .L0 E0 E1 v5=>([1,1,0,1,4],⟨85,[(2,.bptr 3000 0),(3,.bptr 3001 0),(5,wI v5)],[(3000,.box (bx (Zf E0))),(3001,.box (bx (Zf E1)))]⟩,Zkc E0 E1 v5)
def Zy9:=fun a0 a1=>Ztm.run (Z3j a0 a1)
theorem Zagh(a0)(a1){r}(h:Zy9 a0 a1=some r):Fn PR 56 [wA (Zf a0),wA (Zf a1)] (wB r):=Ztm.fn h
def Zxb(a0:Zab)(a1:Zab):LT Empty Bool:=
.lb 1002<|.lb 1003<|.cs (a0.Source==a1.Source) (.k5 0<|.kg 0<|.cs (a0.Control==a1.Control) (.k5 1<|.call (Z12 a0.Ability a1.Ability) fun x3=>.kg 1<|.cs x3 (.k5 2<|.kg 2<|.rt (Z2 (Zdm a0.Event) (Zdm a1.Event)))<|.k5 2<|.kg 2<|.rt false)<|.k5 1<|.kg 1<|.b5 false<|.kb false<|.rt false)<|.k5 0<|.kg 0<|.b8 false<|.b4 false<|.rt false
def Zxc:LF Empty Bool := .z0 57 [.t 4] wB
def Zsc:=fun a0 a1=>Zxc.run (Zxb a0 a1)
theorem Z8h(a0)(a1){r}(h:Zsc a0 a1=some r):Fn PR 57 [wA (Zd a0),wA (Zd a1)] (wB r):=Zxc.fn h
inductive Zk1 where
 | L0 (v0:List Zq) (v1:List Zq) (v5:Int)
def Zkd(v0:List Zq)(v1:List Zq)(v5:Int):LT Zk1 Bool:=
.len Zk v0<|.br (decide (v5 < (v0.length:Int))) (.idx Zk v0 v5 fun x3=>.idx Zk v1 v5 fun x5=>.br (!(Z2 (Zk x3) (Zk x5))) (.rt false)<|.g0 (.L0 v0 v1 (IntKind.wrap .i64 (v5+1))))<|.rt true
def Z3k(a0:List Zq)(a1:List Zq):LT Zk1 Bool:=
.len Zk a0<|.len Zk a1<|.br ((a0.length:Int) != (a1.length:Int)) (.rt false)<|.g0 (.L0 a0 a1 0)
def Zot:LF Zk1 Bool := .m0 77 [.t 4] wB fun | .L0 v0 v1 v5=>([1,1,0,1,4],⟨26,[(0,wL Zk v0),(1,wL Zk v1),(5,wI v5)],[]⟩,Zkd v0 v1 v5)
def Zza:=fun a0 a1=>Zot.run (Z3k a0 a1)
theorem Zagi(a0)(a1){r}(h:Zza a0 a1=some r):Fn PR 77 [wL Zk a0,wL Zk a1] (wB r):=Zot.fn h
def Z3l(a0:Za1)(a1:Za1):LT Empty Bool:=
.lb 1002<|.lb 1003<|.cs (a0.Stamp==a1.Stamp) (.k5 0<|.kg 0<|.cs (a0.Control==a1.Control) (.k5 1<|.kg 1<|.cs (a0.Source==a1.Source) (.k5 2<|.kg 2<|.cs (a0.Until==a1.Until) (.k5 3<|.call (Zhm a0.Objects a1.Objects) fun x5=>.kg 3<|.cs x5 (.k5 4<|.call (Zagi a0.Mods a1.Mods) fun x8=>.kg 4<|.rt x8)<|.k5 4<|.kg 4<|.rt false)<|.k5 3<|.kg 3<|.b5 false<|.kb false<|.rt false)<|.k5 2<|.kg 2<|.b8 false<|.b4 false<|.rt false)<|.k5 1<|.kg 1<|.b16 false<|.b2 false<|.rt false)<|.k5 0<|.kg 0<|.b16 false<|.b8 false<|.rt false
def Z3m:LF Empty Bool := .z0 58 [.t 4] wB
def Zzb:=fun a0 a1=>Z3m.run (Z3l a0 a1)
theorem Zagj(a0)(a1){r}(h:Zzb a0 a1=some r):Fn PR 58 [wA (Zh a0),wA (Zh a1)] (wB r):=Z3m.fn h
inductive Zcr where
 | L0 (E0:Za) (E1:Za) (v5:Int)
 | L1 (E0:Za) (E1:Za) (v6:Int)
 | L2 (E0:Za) (E1:Za) (v7:Int)
 | L3 (E0:Za) (E1:Za) (v8:Int)
 | L4 (E0:Za) (E1:Za) (v9:Int)
def Zny(E0:Za)(E1:Za)(v5:Int):LT Zcr Bool:=
.len Ze E0.Players<|.br (decide (v5 < (E0.Players.length:Int))) (.idx Ze E0.Players v5 fun x3=>.idx Ze E1.Players v5 fun x5=>.call (Z9n x3 x5) fun x7=>.br (!x7) (.rt false)<|.g0 (.L0 E0 E1 (IntKind.wrap .i64 (v5+1))))<|.g0 (.L1 E0 E1 0)
def Znz(E0:Za)(E1:Za)(v6:Int):LT Zcr Bool:=
.len Zc E0.Objects<|.br (decide (v6 < (E0.Objects.length:Int))) (.idx Zc E0.Objects v6 fun x3=>.idx Zc E1.Objects v6 fun x5=>.br (!(Z2 (Zc x3) (Zc x5))) (.rt false)<|.g0 (.L1 E0 E1 (IntKind.wrap .i64 (v6+1))))<|.g0 (.L2 E0 E1 0)
def Zn0(E0:Za)(E1:Za)(v7:Int):LT Zcr Bool:=
.len Zf E0.Stack<|.br (decide (v7 < (E0.Stack.length:Int))) (.idx Zf E0.Stack v7 fun x3=>.idx Zf E1.Stack v7 fun x5=>.call (Zagh x3 x5) fun x7=>.br (!x7) (.rt false)<|.g0 (.L2 E0 E1 (IntKind.wrap .i64 (v7+1))))<|.g0 (.L3 E0 E1 0)
def Zn1(E0:Za)(E1:Za)(v8:Int):LT Zcr Bool:=
.len Zd E0.Waiting<|.br (decide (v8 < (E0.Waiting.length:Int))) (.idx Zd E0.Waiting v8 fun x3=>.idx Zd E1.Waiting v8 fun x5=>.call (Z8h x3 x5) fun x7=>.br (!x7) (.rt false)<|.g0 (.L3 E0 E1 (IntKind.wrap .i64 (v8+1))))<|.g0 (.L4 E0 E1 0)
def Zn2(E0:Za)(E1:Za)(v9:Int):LT Zcr Bool:=
.len Zh E0.Conts<|.br (decide (v9 < (E0.Conts.length:Int))) (.idx Zh E0.Conts v9 fun x3=>.idx Zh E1.Conts v9 fun x5=>.call (Zagj x3 x5) fun x7=>.br (!x7) (.rt false)<|.g0 (.L4 E0 E1 (IntKind.wrap .i64 (v9+1))))<|.rt true
def Zabj(a0:Za)(a1:Za):LT Zcr Bool:=
.lb 1002<|.lb 1003<|.len Ze a0.Players<|.len Ze a1.Players<|.cs ((a0.Players.length:Int) != (a1.Players.length:Int)) (.k8 0<|.b16 true<|.b8 true<|.kn [0]<|.rt false)<|.k3 0<|.len Zc a0.Objects<|.k3 0<|.len Zc a1.Objects<|.k2 0<|.cs ((a0.Objects.length:Int) != (a1.Objects.length:Int)) (.k8 1<|.b16 true<|.kn [0]<|.rt false)<|.k3 1<|.len Zf a0.Stack<|.k3 1<|.len Zf a1.Stack<|.k2 1<|.cs ((a0.Stack.length:Int) != (a1.Stack.length:Int)) (.k8 2<|.b8 true<|.kn [0]<|.rt false)<|.k3 2<|.len Zd a0.Waiting<|.k3 2<|.len Zd a1.Waiting<|.k2 2<|.cs ((a0.Waiting.length:Int) != (a1.Waiting.length:Int)) (.k8 3<|.kn [0]<|.rt false)<|.k3 3<|.len Zh a0.Conts<|.k3 3<|.len Zh a1.Conts<|.k2 3<|.br ((a0.Conts.length:Int) != (a1.Conts.length:Int)) (.rt false)<|.go (.L0 a0 a1 0) [.relab 1002 3000,.relab 1003 3001]
def Zd2:LF Zcr Bool := .m0 25 [.t 4] wB fun | .L0 E0 E1 v5=>([1,1,0,1,4],⟨147,[(2,.bptr 3000 0),(3,.bptr 3001 0),(5,wI v5)],[(3000,.box (bx (Zr E0))),(3001,.box (bx (Zr E1)))]⟩,Zny E0 E1 v5) | .L1 E0 E1 v6=>([1,1,1,0,1,4],⟨147,[(2,.bptr 3000 0),(3,.bptr 3001 0),(6,wI v6)],[(3000,.box (bx (Zr E0))),(3001,.box (bx (Zr E1)))]⟩,Znz E0 E1 v6) | .L2 E0 E1 v7=>([1,1,1,1,0,1,4],⟨147,[(2,.bptr 3000 0),(3,.bptr 3001 0),(7,wI v7)],[(3000,.box (bx (Zr E0))),(3001,.box (bx (Zr E1)))]⟩,Zn0 E0 E1 v7) | .L3 E0 E1 v8=>([1,1,1,1,1,0,1,4],⟨147,[(2,.bptr 3000 0),(3,.bptr 3001 0),(8,wI v8)],[(3000,.box (bx (Zr E0))),(3001,.box (bx (Zr E1)))]⟩,Zn1 E0 E1 v8) | .L4 E0 E1 v9=>([1,1,1,1,1,1,0,1,4],⟨147,[(2,.bptr 3000 0),(3,.bptr 3001 0),(9,wI v9)],[(3000,.box (bx (Zr E0))),(3001,.box (bx (Zr E1)))]⟩,Zn2 E0 E1 v9)
def Z8i:=fun a0 a1=>Zd2.run (Zabj a0 a1)
theorem Zao5(a0)(a1){r}(h:Z8i a0 a1=some r):Fn PR 25 [wA (Zr a0),wA (Zr a1)] (wB r):=Zd2.fn h
def Zagk(a0:Za)(a1:Za):LT Empty Bool:=
.lb 1002<|.lb 1003<|.cs (a0.Turn != a1.Turn) (.k5 0<|.kg 0<|.b16 true<|.b16 true<|.b16 true<|.b5 true<|.kb true<|.kn [0]<|.rt false)<|.k5 0<|.kg 0<|.cs (a0.Active != a1.Active) (.k5 1<|.kg 1<|.b16 true<|.b16 true<|.b16 true<|.kn [0]<|.rt false)<|.k5 1<|.kg 1<|.cs (a0.Step != a1.Step) (.k5 2<|.kg 2<|.b16 true<|.b16 true<|.b8 true<|.b2 true<|.kn [0]<|.rt false)<|.k5 2<|.kg 2<|.cs (!(a0.Begun==a1.Begun)) (.k5 3<|.kg 3<|.b16 true<|.b16 true<|.b4 true<|.kn [0]<|.rt false)<|.k5 3<|.kg 3<|.cs (a0.Priority != a1.Priority) (.k5 4<|.kg 4<|.b16 true<|.b8 true<|.b5 true<|.kb true<|.kn [0]<|.rt false)<|.k5 4<|.kg 4<|.cs (a0.Passes != a1.Passes) (.k5 5<|.kg 5<|.b16 true<|.b8 true<|.kn [0]<|.rt false)<|.k5 5<|.kg 5<|.cs (a0.NextId != a1.NextId) (.k5 6<|.kg 6<|.b16 true<|.b2 true<|.kn [0]<|.rt false)<|.k5 6<|.kg 6<|.cs (a0.NextStamp != a1.NextStamp) (.k5 7<|.kg 7<|.b8 true<|.b4 true<|.kn [0]<|.rt false)<|.k5 7<|.kg 7<|.cs (a0.Seed != a1.Seed) (.k5 8<|.kg 8<|.b5 true<|.kb true<|.kn [0]<|.rt false)<|.k5 8<|.kg 8<|.cs (a0.Over != a1.Over) (.k5 9<|.kg 9<|.kn [0]<|.rt false)<|.k5 9<|.kg 9<|.br (a0.Winner != a1.Winner) (.rt false)<|.call (Zao5 a0 a1) fun x12=>.cs x12 (.k5 11<|.call (Zhm a0.Battlefield a1.Battlefield) fun x15=>.kg 11<|.cs x15 (.k5 12<|.call (Zhm a0.Exile a1.Exile) fun x18=>.kg 12<|.cs x18 (.k5 13<|.call (Zhm a0.Extra a1.Extra) fun x21=>.kg 13<|.rt x21)<|.k5 13<|.kg 13<|.rt false)<|.k5 12<|.kg 12<|.b5 false<|.kb false<|.rt false)<|.k5 11<|.kg 11<|.b8 false<|.b4 false<|.rt false
def Zagl:LF Empty Bool := .z0 9 [.t 4] wB
def Z42:=fun a0 a1=>Zagl.run (Zagk a0 a1)
theorem Zabk(a0)(a1){r}(h:Z42 a0 a1=some r):Fn PR 9 [wA (Zr a0),wA (Zr a1)] (wB r):=Zagl.fn h
inductive Zmg where
 | L0 (E0:Zbc) (E1:Zbc) (v5:Int)
def Zk2(E0:Zbc)(E1:Zbc)(v5:Int):LT Zmg Bool:=
.len Zl E0.Options<|.br (decide (v5 < (E0.Options.length:Int))) (.idx Zl E0.Options v5 fun x3=>.idx Zl E1.Options v5 fun x5=>.br (!(Z2 (Zl x3) (Zl x5))) (.rt false)<|.g0 (.L0 E0 E1 (IntKind.wrap .i64 (v5+1))))<|.rt true
def Z5v(a0:Zbc)(a1:Zbc):LT Zmg Bool:=
.lb 1002<|.lb 1003<|.cs (a0.Kind != a1.Kind) (.k5 0<|.kg 0<|.b16 true<|.b16 true<|.kn [0]<|.rt false)<|.k5 0<|.kg 0<|.cs (a0.Player != a1.Player) (.k5 1<|.kg 1<|.b16 true<|.b8 true<|.b2 true<|.kn [0]<|.rt false)<|.k5 1<|.kg 1<|.cs (a0.Source != a1.Source) (.k5 2<|.kg 2<|.b16 true<|.b4 true<|.kn [0]<|.rt false)<|.k5 2<|.kg 2<|.cs (a0.Least != a1.Least) (.k5 3<|.kg 3<|.b8 true<|.b5 true<|.kb true<|.kn [0]<|.rt false)<|.k5 3<|.kg 3<|.cs (a0.Most != a1.Most) (.k5 4<|.kg 4<|.b8 true<|.kn [0]<|.rt false)<|.k5 4<|.kg 4<|.cs (a0.N != a1.N) (.k8 5<|.kn [0]<|.rt false)<|.k3 5<|.len Zl a0.Options<|.k3 5<|.len Zl a1.Options<|.k2 5<|.br ((a0.Options.length:Int) != (a1.Options.length:Int)) (.rt false)<|.go (.L0 a0 a1 0) [.relab 1002 3000,.relab 1003 3001]
def Zp4:LF Zmg Bool := .m0 26 [.t 4] wB fun | .L0 E0 E1 v5=>([1,1,0,1,4],⟨73,[(2,.bptr 3000 0),(3,.bptr 3001 0),(5,wI v5)],[(3000,.box (bx (Zf6 E0))),(3001,.box (bx (Zf6 E1)))]⟩,Zk2 E0 E1 v5)
def Z2b:=fun a0 a1=>Zp4.run (Z5v a0 a1)
theorem Zaie(a0)(a1){r}(h:Z2b a0 a1=some r):Fn PR 26 [wA (Zf6 a0),wA (Zf6 a1)] (wB r):=Zp4.fn h
def Zao6(a0:Zj):LT Empty Za:=
.lb 1001<|.lb 1002<|.rt (⟨([]:List Z5),a0.Objects,a0.Battlefield,a0.Exile,a0.Stack,a0.Waiting,a0.Conts,a0.Turn,a0.Active,a0.Step,false,a0.Priority,a0.Passes,a0.NextId,0,0,a0.Extra,a0.Over,a0.Winner⟩:Za)
def Z8j:LF Empty Za := .z0 27 [.c 2 31 true 19] (fun r=>(wA (Zr r)))
def Z43:=fun a0=>Z8j.run (Zao6 a0)
theorem Z5w(a0){r}(h:Z43 a0=some r):Fn PR 27 [wA (Zeg a0)] (wA (Zr r)):=Z8j.fn h
inductive Zsd where
 | L0 (E0:Zj) (E1:Zj) (v5:Int)
def Zpr(E0:Zj)(E1:Zj)(v5:Int):LT Zsd Bool:=
.len Z8 E0.Players<|.br (decide (v5 < (E0.Players.length:Int))) (.idx Z8 E0.Players v5 fun x3=>.lb 1006<|.idx Z8 E1.Players v5 fun x5=>.lb 1007<|.cs (x3.Life != x5.Life) (.k5 1<|.kg 1<|.b16 true<|.b16 true<|.b5 true<|.kn [0]<|.rt false)<|.k5 1<|.kg 1<|.cs (x3.Venom != x5.Venom) (.k5 2<|.kg 2<|.b16 true<|.b8 true<|.b5 true<|.b2 true<|.kn [0]<|.rt false)<|.k5 2<|.kg 2<|.cs (x3.Lands != x5.Lands) (.k5 3<|.kg 3<|.b16 true<|.b8 true<|.kb true<|.kn [0]<|.rt false)<|.k5 3<|.kg 3<|.cs (x3.Library != x5.Library) (.k5 4<|.kg 4<|.b16 true<|.b3 true<|.kn [0]<|.rt false)<|.k5 4<|.kg 4<|.cs (x3.Hand != x5.Hand) (.k5 5<|.kg 5<|.b8 true<|.b5 true<|.kn [0]<|.rt false)<|.k5 5<|.kg 5<|.cs (!(Z2 ((cA6 (cI .i64)) x3.Pool) ((cA6 (cI .i64)) x5.Pool))) (.k5 6<|.kg 6<|.b5 true<|.b2 true<|.kn [0]<|.rt false)<|.k5 6<|.kg 6<|.cs (!(x3.Lost==x5.Lost)) (.k5 7<|.k2 7<|.kn [0]<|.rt false)<|.k5 7<|.call (Zhm x3.Graveyard x5.Graveyard) fun x14=>.k2 7<|.br (!x14) (.rt false)<|.g0 (.L0 E0 E1 (IntKind.wrap .i64 (v5+1))))<|.rt true
def Zagm(a0:Zj)(a1:Zj):LT Zsd Bool:=
.lb 1002<|.lb 1003<|.cs (a0.Player != a1.Player) (.k8 0<|.b16 true<|.b5 true<|.kn [0]<|.rt false)<|.k3 0<|.len Z8 a0.Players<|.k3 0<|.len Z8 a1.Players<|.k2 0<|.cs ((a0.Players.length:Int) != (a1.Players.length:Int)) (.k5 1<|.k2 1<|.b8 true<|.b5 true<|.kb true<|.kn [0]<|.rt false)<|.k5 1<|.call (Zhm a0.Hand a1.Hand) fun x5=>.k2 1<|.cs (!x5) (.k5 2<|.k2 2<|.b5 true<|.b2 true<|.kn [0]<|.rt false)<|.k5 2<|.call (Zaie a0.Pending a1.Pending) fun x8=>.k2 2<|.cs (!x8) (.k5 3<|.k2 3<|.kn [0]<|.rt false)<|.k2 3<|.call (Z5w a0) fun x11=>.k2 3<|.call (Z5w a1) fun x13=>.kg 3<|.call (Zabk x11 x13) fun x15=>.k2 3<|.br (!x15) (.rt false)<|.go (.L0 a0 a1 0) [.relab 1002 3000,.relab 1003 3001]
def Zxl:LF Zsd Bool := .m0 10 [.t 4] wB fun | .L0 E0 E1 v5=>([1,1,0,1,4],⟨118,[(2,.bptr 3000 0),(3,.bptr 3001 0),(5,wI v5)],[(3000,.box (bx (Zeg E0))),(3001,.box (bx (Zeg E1)))]⟩,Zpr E0 E1 v5)
def Z44:=fun a0 a1=>Zxl.run (Zagm a0 a1)
theorem Zaq9(a0)(a1){r}(h:Z44 a0 a1=some r):Fn PR 10 [wA (Zeg a0),wA (Zeg a1)] (wB r):=Zxl.fn h
def Zq9(a0:Z5):LT Empty Z5:=
.lb 1001<|.lb 1002<|.callF (Za8 a0.Library) 60000 fun x1=>.callF (Za8 a0.Hand) 100000 fun x3=>.callF (Za8 a0.Graveyard) 140000 fun x5=>.scl (cI .i64) (fun _=>rfl) x1<|.rl (cI .i64) x1<|.rl (cI .i64) x1<|.rl (cI .i64) x1<|.rl (cI .i64) x1<|.scl (cI .i64) (fun _=>rfl) x3<|.rl (cI .i64) x3<|.rl (cI .i64) x3<|.rl (cI .i64) x3<|.rl (cI .i64) x3<|.scl (cI .i64) (fun _=>rfl) x5<|.rl (cI .i64) x5<|.rl (cI .i64) x5<|.rl (cI .i64) x5<|.rl (cI .i64) x5<|.ret (⟨a0.Life,a0.Venom,a0.Lands,a0.Pool,a0.Failed,a0.Lost,x1,x3,x5⟩:Z5) [.regn 6900,.absr 65000 6900,.absr 105000 6900,.absr 145000 6900]
def Zra:LF Empty Z5 := .z 45 [.c 2 63 true 14] true (fun r=>[(6900,.reg false)]) (fun r=>(.agg (tm12 r 6900)))
def Zmt:=fun a0=>Zra.run (Zq9 a0)
theorem Zzq(a0){r}(h:Zmt a0=some r):FnG PR 45 [] [wA (Ze a0)] [(6900,.reg false)] (.agg (tm12 r 6900)):=Zra.fn h
inductive Zgr where
 | L0 (E0:Za) (E1:Za) (v13:Int) (v14:Int)
 | L1 (E0:Za) (E1:Za) (v46:Int) (v47:Int)
 | L2 (E0:Za) (E1:Za) (v81:Int) (v82:Int)
 | L3 (E0:Za) (E1:Za) (v104:Int) (v105:Int)
def Zqp(E0:Za)(E1:Za)(v13:Int)(v14:Int):LT Zgr Za:=
.br (decide (v14 < v13)) (.idxR Ze E0.Players v14 fun x2=>.ldX Ze E0.Players x2 v14 2<|.callF (Zzq x2) 260000 fun x4=>.plR Ze E0.Players v14 0<|.stX Ze E0.Players v14 (IntKind.wrap .i64 (v14+1)) x2 x4 2 fun x6=>.ok (Int.toNat v14+1=Int.toNat (IntKind.wrap .i64 (v14+1)))<|.dr [.ahead 27,.relen 40000,.stop]<|.us [3]<|.us [3]<|.us [3]<|.us [3]<|.us [3]<|.g0 (.L0 (⟨x6,E0.Objects,E0.Battlefield,E0.Exile,E0.Stack,E0.Waiting,E0.Conts,E0.Turn,E0.Active,E0.Step,E0.Begun,E0.Priority,E0.Passes,E0.NextId,E0.NextStamp,E0.Seed,E0.Extra,E0.Over,E0.Winner⟩:Za) E1 v13 (IntKind.wrap .i64 (v14+1))))<|.dr [.ahead 28,.absr 40000 47000000,.stop]<|.ok ((List.map Ze E0.Players).length<=(Int.toNat v14))<|.rl Ze E0.Players<|.callF (Zhi E0.Objects) 310000 fun x12=>.callF (Za8 E0.Battlefield) 350000 fun x14=>.callF (Za8 E0.Exile) 390000 fun x16=>.callF (Zip E0.Stack) 430000 fun x18=>.lenO Zf x18<|.go (.L1 (⟨E0.Players,x12,x14,x16,x18,E0.Waiting,E0.Conts,E0.Turn,E0.Active,E0.Step,E0.Begun,E0.Priority,E0.Passes,E0.NextId,E0.NextStamp,E0.Seed,E0.Extra,E0.Over,E0.Winner⟩:Za) E1 (x18.length:Int) 0) [.relab 315000 40001,.relab 355000 40002,.relab 395000 40003,.relab 435000 40004]
def Zqq(E0:Za)(E1:Za)(v46:Int)(v47:Int):LT Zgr Za:=
.br (decide (v47 < v46)) (.idxR Zf E0.Stack v47 fun x2=>.rl Zf E0.Stack<|.ldR Zf E0.Stack x2 2<|.call (Zjz x2.Ability) fun x4=>.plR Zf E0.Stack v47 0<|.rl Zf E0.Stack<|.setD Zf E0.Stack v47 x2 (⟨x2.Id,x2.Kind,x2.Source,x2.Control,x2.X,x2.Copy,x4,x2.Targets,x2.Event⟩:Zal) 2 6 (tm1 x4) rfl fun x6=>.dr [.ahead 15,.relen 40004,.stop]<|.us [3]<|.us [3]<|.us [3]<|.us [3]<|.us [3]<|.us [3]<|.us [3]<|.idxR Zf x6 v47 fun x8=>.rl Zf x6<|.ldR Zf x6 x8 8<|.call (Zhv x8.Targets) fun x10=>.plR Zf x6 v47 6<|.rl Zf x6<|.setD Zf x6 v47 x8 (⟨x8.Id,x8.Kind,x8.Source,x8.Control,x8.X,x8.Copy,x8.Ability,x10,x8.Event⟩:Zal) 8 78 [.sl (List.map Zaa x10)] rfl fun x12=>.dr [.ahead 74,.relen 40004,.stop]<|.us [9]<|.us [9]<|.us [9]<|.us [9]<|.us [9]<|.us [9]<|.us [9]<|.us [9]<|.us [9]<|.us [9]<|.us [9]<|.us [9]<|.us [9]<|.g0 (.L1 (⟨E0.Players,E0.Objects,E0.Battlefield,E0.Exile,x12,E0.Waiting,E0.Conts,E0.Turn,E0.Active,E0.Step,E0.Begun,E0.Priority,E0.Passes,E0.NextId,E0.NextStamp,E0.Seed,E0.Extra,E0.Over,E0.Winner⟩:Za) E1 v46 (IntKind.wrap .i64 (v47+1))))<|.callF (Zg2 E0.Waiting) 780000 fun x16=>.lenO Zd x16<|.go (.L2 (⟨E0.Players,E0.Objects,E0.Battlefield,E0.Exile,E0.Stack,x16,E0.Conts,E0.Turn,E0.Active,E0.Step,E0.Begun,E0.Priority,E0.Passes,E0.NextId,E0.NextStamp,E0.Seed,E0.Extra,E0.Over,E0.Winner⟩:Za) E1 (x16.length:Int) 0) [.relab 785000 40005]
def Zqr(E0:Za)(E1:Za)(v81:Int)(v82:Int):LT Zgr Za:=
.br (decide (v82 < v81)) (.idxR Zd E0.Waiting v82 fun x2=>.rl Zd E0.Waiting<|.ldR Zd E0.Waiting x2 2<|.call (Zjz x2.Ability) fun x4=>.plR Zd E0.Waiting v82 0<|.rl Zd E0.Waiting<|.setD Zd E0.Waiting v82 x2 (⟨x2.Source,x2.Control,x4,x2.Event⟩:Zab) 2 2 (tm1 x4) rfl fun x6=>.dr [.ahead 97,.relen 40005,.stop]<|.us [3]<|.us [3]<|.us [3]<|.us [3]<|.us [3]<|.us [3]<|.us [3]<|.g0 (.L2 (⟨E0.Players,E0.Objects,E0.Battlefield,E0.Exile,E0.Stack,x6,E0.Conts,E0.Turn,E0.Active,E0.Step,E0.Begun,E0.Priority,E0.Passes,E0.NextId,E0.NextStamp,E0.Seed,E0.Extra,E0.Over,E0.Winner⟩:Za) E1 v81 (IntKind.wrap .i64 (v82+1))))<|.callF (Ziq E0.Conts) 1010000 fun x10=>.lenO Zh x10<|.go (.L3 (⟨E0.Players,E0.Objects,E0.Battlefield,E0.Exile,E0.Stack,E0.Waiting,x10,E0.Turn,E0.Active,E0.Step,E0.Begun,E0.Priority,E0.Passes,E0.NextId,E0.NextStamp,E0.Seed,E0.Extra,E0.Over,E0.Winner⟩:Za) E1 (x10.length:Int) 0) [.relab 1015000 40006]
def Zqs(E0:Za)(E1:Za)(v104:Int)(v105:Int):LT Zgr Za:=
.br (decide (v105 < v104)) (.idxR Zh E0.Conts v105 fun x2=>.rl Zh E0.Conts<|.ldR Zh E0.Conts x2 2<|.call (Zmd x2.Objects) fun x4=>.plR Zh E0.Conts v105 0<|.rl Zh E0.Conts<|.setD Zh E0.Conts v105 x2 (⟨x2.Stamp,x2.Control,x2.Source,x2.Until,x4,x2.Mods⟩:Za1) 2 4 [.sl (List.map (cI .i64) x4)] rfl fun x6=>.dr [.ahead 28,.relen 40006,.stop]<|.us [3]<|.us [3]<|.us [3]<|.us [3]<|.us [3]<|.us [3]<|.us [3]<|.idxR Zh x6 v105 fun x8=>.rl Zh x6<|.ldR Zh x6 x8 8<|.call (Zgk x8.Mods) fun x10=>.plR Zh x6 v105 6<|.rl Zh x6<|.setD Zh x6 v105 x8 (⟨x8.Stamp,x8.Control,x8.Source,x8.Until,x8.Objects,x10⟩:Za1) 8 5 [.sl (List.map Zk x10)] rfl fun x12=>.dr [.ahead 132,.relen 40006,.stop]<|.us [9]<|.us [9]<|.us [9]<|.us [9]<|.us [9]<|.us [9]<|.us [9]<|.us [9]<|.us [9]<|.us [9]<|.us [9]<|.us [9]<|.us [9]<|.g0 (.L3 (⟨E0.Players,E0.Objects,E0.Battlefield,E0.Exile,E0.Stack,E0.Waiting,x12,E0.Turn,E0.Active,E0.Step,E0.Begun,E0.Priority,E0.Passes,E0.NextId,E0.NextStamp,E0.Seed,E0.Extra,E0.Over,E0.Winner⟩:Za) E1 v104 (IntKind.wrap .i64 (v105+1))))<|.callF (Za8 E0.Extra) 1360000 fun x16=>.scl Zc (fun _=>rfl) E0.Objects<|.rl Zc E0.Objects<|.rl Zc E0.Objects<|.rl Zc E0.Objects<|.scl (cI .i64) (fun _=>rfl) E0.Battlefield<|.rl (cI .i64) E0.Battlefield<|.rl (cI .i64) E0.Battlefield<|.rl (cI .i64) E0.Battlefield<|.scl (cI .i64) (fun _=>rfl) E0.Exile<|.rl (cI .i64) E0.Exile<|.rl (cI .i64) E0.Exile<|.rl (cI .i64) E0.Exile<|.scl (cI .i64) (fun _=>rfl) x16<|.rl (cI .i64) x16<|.rl (cI .i64) x16<|.rl (cI .i64) x16<|.rl (cI .i64) x16<|.rl Zf E0.Stack<|.rl Zf E0.Stack<|.rl Zf E0.Stack<|.rl Zd E0.Waiting<|.rl Zd E0.Waiting<|.rl Zd E0.Waiting<|.rl Zh E0.Conts<|.rl Zh E0.Conts<|.rl Zh E0.Conts<|.ret (⟨E0.Players,E0.Objects,E0.Battlefield,E0.Exile,E0.Stack,E0.Waiting,E0.Conts,E0.Turn,E0.Active,E0.Step,E0.Begun,E0.Priority,E0.Passes,E0.NextId,E0.NextStamp,E0.Seed,x16,E0.Over,E0.Winner⟩:Za) [.relab 47000000 6900,.absr 40001 6900,.absr 40002 6900,.absr 40003 6900,.absr 1365000 6900,.frz 40004,.frz 40005,.frz 40006]
def Z0y(a0:Za):LT Zgr Za:=
.lb 1001<|.lb 1002<|.callF (Zhh a0.Players) 100000 fun x1=>.dr [.ahead 11,.regn 48000100,.torx 105000 48000100,.stop]<|.lenO Ze x1<|.go (.L0 (⟨x1,a0.Objects,a0.Battlefield,a0.Exile,a0.Stack,a0.Waiting,a0.Conts,a0.Turn,a0.Active,a0.Step,a0.Begun,a0.Priority,a0.Passes,a0.NextId,a0.NextStamp,a0.Seed,a0.Extra,a0.Over,a0.Winner⟩:Za) (⟨([]:List Z5),([]:List Zp),([]:List Int),([]:List Int),([]:List Zal),([]:List Zab),([]:List Za1),0,0,0,false,0,0,0,0,0,([]:List Int),0,0⟩:Za) (x1.length:Int) 0) [.relab 1001 3000,.relab 1002 3001,.relab 48000100 47000000,.relab 105000 40000,.ownb 3001 0 40100 14,.ownb 3001 1 40101 19,.ownb 3001 2 40102 1,.ownb 3001 3 40103 1,.ownb 3001 4 40104 94,.ownb 3001 5 40105 89,.ownb 3001 6 40106 6,.ownb 3001 16 40116 1]
def Z0z:LF Zgr Za := .m 20 [.c 2 31 true 19] true (fun r=>[(6900,.reg false)]) (fun r=>(.agg [.own 6900 (.rg (.sl (List.map Ze r.Players))),.own 6900 (.rg (.sl (List.map Zc r.Objects))),.own 6900 (.rg (.sl (List.map (cI .i64) r.Battlefield))),.own 6900 (.rg (.sl (List.map (cI .i64) r.Exile))),wL Zf r.Stack,wL Zd r.Waiting,wL Zh r.Conts,wI r.Turn,wI r.Active,wI r.Step,wB r.Begun,wI r.Priority,wI r.Passes,wI r.NextId,wI r.NextStamp,.t (.int .u64 r.Seed),.own 6900 (.rg (.sl (List.map (cI .i64) r.Extra))),wI r.Over,wI r.Winner])) fun | .L0 E0 E1 v13 v14=>([1,1,0,1,4],⟨138,[(1,.bptr 3000 0),(2,.bptr 3001 0),(13,wI v13),(14,wI v14)],[(3000,.box [.own 40000 (.xw (List.map Ze E0.Players).length),wL Zc E0.Objects,wL (cI .i64) E0.Battlefield,wL (cI .i64) E0.Exile,wL Zf E0.Stack,wL Zd E0.Waiting,wL Zh E0.Conts,wI E0.Turn,wI E0.Active,wI E0.Step,wB E0.Begun,wI E0.Priority,wI E0.Passes,wI E0.NextId,wI E0.NextStamp,.t (.int .u64 E0.Seed),wL (cI .i64) E0.Extra,wI E0.Over,wI E0.Winner]),(40000,.xrow 14 (Int.toNat v14) 47000000 (List.map Ze E0.Players)),(3001,.box (tm2 E1 40100)),(40100,wR Ze 14 E1.Players),(40101,wR Zc 19 E1.Objects),(40102,wR (cI .i64) 1 E1.Battlefield),(40103,wR (cI .i64) 1 E1.Exile),(40104,wR Zf 94 E1.Stack),(40105,wR Zd 89 E1.Waiting),(40106,wR Zh 6 E1.Conts),(40116,wR (cI .i64) 1 E1.Extra),(47000000,.reg false)]⟩,Zqp E0 E1 v13 v14) | .L1 E0 E1 v46 v47=>([1,1,1,1,1,1,1,0,1,4],⟨138,[(1,.bptr 3000 0),(2,.bptr 3001 0),(46,wI v46),(47,wI v47)],[(3000,.box [.own 47000000 (.rg (.sl (List.map Ze E0.Players))),wO Zc 40001 E0.Objects,wO (cI .i64) 40002 E0.Battlefield,wO (cI .i64) 40003 E0.Exile,wO Zf 40004 E0.Stack,wL Zd E0.Waiting,wL Zh E0.Conts,wI E0.Turn,wI E0.Active,wI E0.Step,wB E0.Begun,wI E0.Priority,wI E0.Passes,wI E0.NextId,wI E0.NextStamp,.t (.int .u64 E0.Seed),wL (cI .i64) E0.Extra,wI E0.Over,wI E0.Winner]),(40001,wR Zc 19 E0.Objects),(40002,wR (cI .i64) 1 E0.Battlefield),(40003,wR (cI .i64) 1 E0.Exile),(40004,wR Zf 94 E0.Stack),(3001,.box (tm2 E1 40100)),(40100,wR Ze 14 E1.Players),(40101,wR Zc 19 E1.Objects),(40102,wR (cI .i64) 1 E1.Battlefield),(40103,wR (cI .i64) 1 E1.Exile),(40104,wR Zf 94 E1.Stack),(40105,wR Zd 89 E1.Waiting),(40106,wR Zh 6 E1.Conts),(40116,wR (cI .i64) 1 E1.Extra),(47000000,.reg false)]⟩,Zqq E0 E1 v46 v47) | .L2 E0 E1 v81 v82=>([1,1,1,1,1,1,1,1,1,0,1,4],⟨138,[(1,.bptr 3000 0),(2,.bptr 3001 0),(81,wI v81),(82,wI v82)],[(3000,.box [.own 47000000 (.rg (.sl (List.map Ze E0.Players))),wO Zc 40001 E0.Objects,wO (cI .i64) 40002 E0.Battlefield,wO (cI .i64) 40003 E0.Exile,wO Zf 40004 E0.Stack,wO Zd 40005 E0.Waiting,wL Zh E0.Conts,wI E0.Turn,wI E0.Active,wI E0.Step,wB E0.Begun,wI E0.Priority,wI E0.Passes,wI E0.NextId,wI E0.NextStamp,.t (.int .u64 E0.Seed),wL (cI .i64) E0.Extra,wI E0.Over,wI E0.Winner]),(40001,wR Zc 19 E0.Objects),(40002,wR (cI .i64) 1 E0.Battlefield),(40003,wR (cI .i64) 1 E0.Exile),(40004,wR Zf 94 E0.Stack),(40005,wR Zd 89 E0.Waiting),(3001,.box (tm2 E1 40100)),(40100,wR Ze 14 E1.Players),(40101,wR Zc 19 E1.Objects),(40102,wR (cI .i64) 1 E1.Battlefield),(40103,wR (cI .i64) 1 E1.Exile),(40104,wR Zf 94 E1.Stack),(40105,wR Zd 89 E1.Waiting),(40106,wR Zh 6 E1.Conts),(40116,wR (cI .i64) 1 E1.Extra),(47000000,.reg false)]⟩,Zqr E0 E1 v81 v82) | .L3 E0 E1 v104 v105=>([1,1,1,1,1,1,1,1,1,1,1,0,1,4],⟨138,[(1,.bptr 3000 0),(2,.bptr 3001 0),(104,wI v104),(105,wI v105)],[(3000,.box [.own 47000000 (.rg (.sl (List.map Ze E0.Players))),wO Zc 40001 E0.Objects,wO (cI .i64) 40002 E0.Battlefield,wO (cI .i64) 40003 E0.Exile,wO Zf 40004 E0.Stack,wO Zd 40005 E0.Waiting,wO Zh 40006 E0.Conts,wI E0.Turn,wI E0.Active,wI E0.Step,wB E0.Begun,wI E0.Priority,wI E0.Passes,wI E0.NextId,wI E0.NextStamp,.t (.int .u64 E0.Seed),wL (cI .i64) E0.Extra,wI E0.Over,wI E0.Winner]),(40001,wR Zc 19 E0.Objects),(40002,wR (cI .i64) 1 E0.Battlefield),(40003,wR (cI .i64) 1 E0.Exile),(40004,wR Zf 94 E0.Stack),(40005,wR Zd 89 E0.Waiting),(40006,wR Zh 6 E0.Conts),(3001,.box (tm2 E1 40100)),(40100,wR Ze 14 E1.Players),(40101,wR Zc 19 E1.Objects),(40102,wR (cI .i64) 1 E1.Battlefield),(40103,wR (cI .i64) 1 E1.Exile),(40104,wR Zf 94 E1.Stack),(40105,wR Zd 89 E1.Waiting),(40106,wR Zh 6 E1.Conts),(40116,wR (cI .i64) 1 E1.Extra),(47000000,.reg false)]⟩,Zqs E0 E1 v104 v105)
def Zwc:=fun a0=>Z0z.run (Z0y a0)
theorem Z9o(a0){r}(h:Zwc a0=some r):FnG PR 20 [] [wA (Zr a0)] [(6900,.reg false)] (.agg [.own 6900 (.rg (.sl (List.map Ze r.Players))),.own 6900 (.rg (.sl (List.map Zc r.Objects))),.own 6900 (.rg (.sl (List.map (cI .i64) r.Battlefield))),.own 6900 (.rg (.sl (List.map (cI .i64) r.Exile))),wL Zf r.Stack,wL Zd r.Waiting,wL Zh r.Conts,wI r.Turn,wI r.Active,wI r.Step,wB r.Begun,wI r.Priority,wI r.Passes,wI r.NextId,wI r.NextStamp,.t (.int .u64 r.Seed),.own 6900 (.rg (.sl (List.map (cI .i64) r.Extra))),wI r.Over,wI r.Winner]):=Z0z.fn h
inductive Zj7 where
 | L0 (E0:Z6) (E1:Int) (E2:Zj) (E3:Za) (E4:Zj) (v47:List Z5) (v48:Int) (v49:Int)
 | L1 (E0:Z6) (E1:Int) (E2:Zj) (E3:Za) (E4:Zj) (v86:List Zp) (v87:Int) (v88:Int)
def Ztn(E0:Z6)(E1:Int)(E2:Zj)(E3:Za)(E4:Zj)(v47:List Z5)(v48:Int)(v49:Int):LT Zj7 Zj:=
.br (decide (v49 < v48)) (.idx Ze v47 v49 fun x2=>.lb 1009<|.len (cI .i64) x2.Library<|.len (cI .i64) x2.Hand<|.ev [.nat 47000000,.lab 1075] [] trivial<|.apX Z8 120 E4.Players [(⟨x2.Life,x2.Venom,x2.Lands,(x2.Library.length:Int),(x2.Hand.length:Int),x2.Pool,x2.Lost,x2.Graveyard⟩:Zc3)] fun x6=>.br (v49==E1) (.g0 (.L0 E0 E1 E2 E3 (⟨E4.Player,x6,x2.Hand,E4.Objects,E4.Battlefield,E4.Exile,E4.Stack,E4.Waiting,E4.Conts,E4.Turn,E4.Active,E4.Step,E4.Priority,E4.Passes,E4.NextId,E4.Over,E4.Winner,E4.Extra,E4.Pending⟩:Zj) v47 v48 (IntKind.wrap .i64 (v49+1))))<|.g0 (.L0 E0 E1 E2 E3 (⟨E4.Player,x6,E4.Hand,E4.Objects,E4.Battlefield,E4.Exile,E4.Stack,E4.Waiting,E4.Conts,E4.Turn,E4.Active,E4.Step,E4.Priority,E4.Passes,E4.NextId,E4.Over,E4.Winner,E4.Extra,E4.Pending⟩:Zj) v47 v48 (IntKind.wrap .i64 (v49+1))))<|.len Zc E3.Objects<|.g0 (.L1 E0 E1 E2 E3 E4 E3.Objects (E3.Objects.length:Int) 0)
def Zto(E0:Z6)(E1:Int)(E2:Zj)(E3:Za)(E4:Zj)(v86:List Zp)(v87:Int)(v88:Int):LT Zj7 Zj:=
.br (decide (v88 < v87)) (.idx Zc v86 v88 fun x2=>.lb 1011<|.callD (Zmf E3 E1 x2.Id) 970000 fun x4=>.cs x4 (.k5 1<|.kn [0]<|.dr [.lit]<|.apR Zc 128 E4.Objects [x2] fun x7=>.g0 (.L1 E0 E1 E2 E3 (⟨E4.Player,E4.Players,E4.Hand,x7,E4.Battlefield,E4.Exile,E4.Stack,E4.Waiting,E4.Conts,E4.Turn,E4.Active,E4.Step,E4.Priority,E4.Passes,E4.NextId,E4.Over,E4.Winner,E4.Extra,E4.Pending⟩:Zj) v86 v87 (IntKind.wrap .i64 (v88+1))))<|.k4 1<|.callO (Zoz x2.Id E0 E1) [3000,3001] 1020000 (fun x=>[]) fun x12=>.kg 1<|.br x12 (.dr [.lit]<|.apR Zc 128 E4.Objects [x2] fun x15=>.g0 (.L1 E0 E1 E2 E3 (⟨E4.Player,E4.Players,E4.Hand,x15,E4.Battlefield,E4.Exile,E4.Stack,E4.Waiting,E4.Conts,E4.Turn,E4.Active,E4.Step,E4.Priority,E4.Passes,E4.NextId,E4.Over,E4.Winner,E4.Extra,E4.Pending⟩:Zj) v86 v87 (IntKind.wrap .i64 (v88+1))))<|.g0 (.L1 E0 E1 E2 E3 E4 v86 v87 (IntKind.wrap .i64 (v88+1))))<|.br (E0.Pending.Player==E1) (.callF (Zhj E0.Pending.Options) 1300000 fun x23=>.ok ((List.map Z8 E4.Players).length<=(List.map Z8 E4.Players).length)<|.rl Z8 E4.Players<|.rl Z8 E4.Players<|.rl Z8 E4.Players<|.scl Zc (fun _=>rfl) E4.Objects<|.rl Zc E4.Objects<|.rl Zc E4.Objects<|.rl Zc E4.Objects<|.scl Zl (fun _=>rfl) x23<|.rl Zl x23<|.rl Zl x23<|.rl Zl x23<|.rl Zl x23<|.ret (⟨E4.Player,E4.Players,E4.Hand,E4.Objects,E4.Battlefield,E4.Exile,E4.Stack,E4.Waiting,E4.Conts,E4.Turn,E4.Active,E4.Step,E4.Priority,E4.Passes,E4.NextId,E4.Over,E4.Winner,E4.Extra,(⟨E0.Pending.Kind,E0.Pending.Player,E0.Pending.Source,E0.Pending.Least,E0.Pending.Most,E0.Pending.N,x23⟩:Zbc)⟩:Zj) [.relab 47000000 6900,.absr 40401 6900,.absr 40403 6900,.absr 1305000 6900])<|.ok ((List.map Z8 E4.Players).length<=(List.map Z8 E4.Players).length)<|.rl Z8 E4.Players<|.rl Z8 E4.Players<|.rl Z8 E4.Players<|.scl Zc (fun _=>rfl) E4.Objects<|.rl Zc E4.Objects<|.rl Zc E4.Objects<|.rl Zc E4.Objects<|.scl0 Zl<|.rl Zl ([]:List Zaf)<|.ret (⟨E4.Player,E4.Players,E4.Hand,E4.Objects,E4.Battlefield,E4.Exile,E4.Stack,E4.Waiting,E4.Conts,E4.Turn,E4.Active,E4.Step,E4.Priority,E4.Passes,E4.NextId,E4.Over,E4.Winner,E4.Extra,(⟨E0.Pending.Kind,E0.Pending.Player,0,0,0,0,([]:List Zaf)⟩:Zbc)⟩:Zj) [.relab 47000000 6900,.absr 40401 6900,.absr 40403 6900,.ownb 3002 24 49500024 3,.absr 49500024 6900]
def Z5x(a0:Z6)(a1:Int):LT Zj7 Zj:=
.lb 1002<|.lb 1003<|.lb 1004<|.callF (Z9o a0.State) 150000 fun x1=>.lb 1005<|.lb 1007<|.dr [.ahead 46,.ownb 1007 1 48500701 13,.torx 48500701 156900,.ownb 1007 2 48600702 1,.absr 48600702 156900,.stop]<|.scl0 (cI .i64)<|.rl (cI .i64) ([]:List Int)<|.len Ze x1.Players<|.go (.L0 a0 a1 (⟨0,([]:List Zc3),([]:List Int),([]:List Zp),([]:List Int),([]:List Int),([]:List Zal),([]:List Zab),([]:List Za1),0,0,0,0,0,0,0,0,([]:List Int),(⟨0,0,0,0,0,0,([]:List Zaf)⟩:Zbc)⟩:Zj) x1 (⟨a1,([]:List Zc3),([]:List Int),([]:List Zp),x1.Battlefield,x1.Exile,x1.Stack,x1.Waiting,x1.Conts,x1.Turn,x1.Active,x1.Step,x1.Priority,x1.Passes,x1.NextId,x1.Over,x1.Winner,x1.Extra,(⟨0,0,0,0,0,0,([]:List Zaf)⟩:Zbc)⟩:Zj) x1.Players (x1.Players.length:Int) 0) [.relab 1002 3000,.relab 1003 3001,.relab 1004 3002,.relab 1005 3003,.relab 1007 3004,.relab 156900 47000000,.ownb 3002 1 40201 13,.ownb 3002 2 40202 1,.ownb 3002 3 40203 19,.ownb 3002 4 40204 1,.ownb 3002 5 40205 1,.ownb 3002 6 40206 94,.ownb 3002 7 40207 89,.ownb 3002 8 40208 6,.ownb 3002 17 40217 1,.ownb 3002 24 40224 3,.relab 48500701 40401,.ownb 3004 3 40403 19,.ownb 3004 24 40424 3]
def Z5y:LF Zj7 Zj := .m 8 [.c 4 44 true 25] true (fun r=>[(6900,.reg false)]) (fun r=>(.agg (tm3 r 6900))) fun | .L0 E0 E1 E2 E3 E4 v47 v48 v49=>([1,1,1,1,0,1,4],⟨133,[(2,.bptr 3000 0),(3,.bptr 3001 0),(4,.bptr 3002 0),(5,.bptr 3003 0),(6,.fn 21 [.bptr 3000 0,.bptr 3001 0]),(7,.bptr 3004 0),(47,.own 47000000 (.rg (.sl (List.map Ze v47)))),(48,wI v48),(49,wI v49)],((3000,.box (bx (Zb3 E0)))::(3001,.box (bx ((cI .i64) E1)))::(3002,.box (tm5 E2 40200))::(40201,wR Z8 13 E2.Players)::(40202,wR (cI .i64) 1 E2.Hand)::(40203,wR Zc 19 E2.Objects)::(40204,wR (cI .i64) 1 E2.Battlefield)::(40205,wR (cI .i64) 1 E2.Exile)::(40206,wR Zf 94 E2.Stack)::(40207,wR Zd 89 E2.Waiting)::(40208,wR Zh 6 E2.Conts)::(40217,wR (cI .i64) 1 E2.Extra)::(40224,wR Zl 3 E2.Pending.Options)::(3003,.box [.own 47000000 (.rg (.sl (List.map Ze E3.Players))),.own 47000000 (.rg (.sl (List.map Zc E3.Objects))),.own 47000000 (.rg (.sl (List.map (cI .i64) E3.Battlefield))),.own 47000000 (.rg (.sl (List.map (cI .i64) E3.Exile))),wL Zf E3.Stack,wL Zd E3.Waiting,wL Zh E3.Conts,wI E3.Turn,wI E3.Active,wI E3.Step,wB E3.Begun,wI E3.Priority,wI E3.Passes,wI E3.NextId,wI E3.NextStamp,.t (.int .u64 E3.Seed),.own 47000000 (.rg (.sl (List.map (cI .i64) E3.Extra))),wI E3.Over,wI E3.Winner])::(3004,.box (tm7 E4 40400 47000000))::(tm18 E4 40400 47000000))⟩,Ztn E0 E1 E2 E3 E4 v47 v48 v49) | .L1 E0 E1 E2 E3 E4 v86 v87 v88=>([1,1,1,1,1,0,1,4],⟨133,[(2,.bptr 3000 0),(3,.bptr 3001 0),(4,.bptr 3002 0),(5,.bptr 3003 0),(6,.fn 21 [.bptr 3000 0,.bptr 3001 0]),(7,.bptr 3004 0),(86,.own 47000000 (.rg (.sl (List.map Zc v86)))),(87,wI v87),(88,wI v88)],((3000,.box (bx (Zb3 E0)))::(3001,.box (bx ((cI .i64) E1)))::(3002,.box (tm5 E2 40200))::(40201,wR Z8 13 E2.Players)::(40202,wR (cI .i64) 1 E2.Hand)::(40203,wR Zc 19 E2.Objects)::(40204,wR (cI .i64) 1 E2.Battlefield)::(40205,wR (cI .i64) 1 E2.Exile)::(40206,wR Zf 94 E2.Stack)::(40207,wR Zd 89 E2.Waiting)::(40208,wR Zh 6 E2.Conts)::(40217,wR (cI .i64) 1 E2.Extra)::(40224,wR Zl 3 E2.Pending.Options)::(3003,.box [.own 47000000 (.rg (.sl (List.map Ze E3.Players))),.own 47000000 (.rg (.sl (List.map Zc E3.Objects))),.own 47000000 (.rg (.sl (List.map (cI .i64) E3.Battlefield))),.own 47000000 (.rg (.sl (List.map (cI .i64) E3.Exile))),wL Zf E3.Stack,wL Zd E3.Waiting,wL Zh E3.Conts,wI E3.Turn,wI E3.Active,wI E3.Step,wB E3.Begun,wI E3.Priority,wI E3.Passes,wI E3.NextId,wI E3.NextStamp,.t (.int .u64 E3.Seed),.own 47000000 (.rg (.sl (List.map (cI .i64) E3.Extra))),wI E3.Over,wI E3.Winner])::(3004,.box (tm7 E4 40400 47000000))::(tm18 E4 40400 47000000))⟩,Zto E0 E1 E2 E3 E4 v86 v87 v88)
def Z2c:=fun a0 a1=>Z5y.run (Z5x a0 a1)
theorem Zagn(a0)(a1){r}(h:Z2c a0 a1=some r):FnG PR 8 [] [wA (Zb3 a0),wI a1] [(6900,.reg false)] (.agg (tm3 r 6900)):=Z5y.fn h
end
end Go.PW
