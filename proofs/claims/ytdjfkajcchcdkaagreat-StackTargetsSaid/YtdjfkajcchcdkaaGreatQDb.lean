import Derived.Test.YtdjfkajcchcdkaaGreatQDa
set_option linter.all false
set_option maxRecDepth 100000
namespace Go.PW
open Go.RowKit
noncomputable section
inductive j8 where
 |L0 (E0:ab) (E1:ab) (v13:Int) (v14:Int)
 |L1 (E0:ab) (E1:ab) (v46:Int) (v47:Int)
 |L2 (E0:ab) (E1:ab) (v81:Int) (v82:Int)
 |L3 (E0:ab) (E1:ab) (v104:Int) (v105:Int)
def Eo(E0:ab)(E1:ab)(v13:Int)(v14:Int):LT j8 ab:=
.br (decide (v14<v13)) (.idxR ba E0.Players v14 λx2=>.ldR ba E0.Players x2 2<|.call (ZbG x2) λx4=>.plR ba E0.Players v14 0<|.setD ba E0.Players v14 x2 x4 2 0 [.int .i64 x4.Life,.int .i64 x4.Venom,.int .i64 x4.Lands,.int .i64 x4.Pool.a0,.int .i64 x4.Pool.a1,.int .i64 x4.Pool.a2,.int .i64 x4.Pool.a3,.int .i64 x4.Pool.a4,.int .i64 x4.Pool.a5,.bool x4.Failed,.bool x4.Lost,.sl (List.map (cI .i64) x4.Library),.sl (List.map (cI .i64) x4.Hand),.sl (List.map (cI .i64) x4.Graveyard)] rfl λx6=>.dr [.ahead 27,.relen 40000,.stop]<|.us [3]<|.us [3]<|.us [3]<|.us [3]<|.us [3]<|.g0 (.L0 (⟨x6,E0.Objects,E0.Battlefield,E0.Exile,E0.Stack,E0.Waiting,E0.Conts,E0.Turn,E0.Active,E0.Step,E0.Begun,E0.Priority,E0.Passes,E0.NextId,E0.NextStamp,E0.Seed,E0.Extra,E0.Over,E0.Winner⟩:ab) E1 v13 (IntKind.wrap .i64 (v14+1))))<|.callF (ZbH E0.Objects) 310000 λx10=>.callF (lN E0.Battlefield) 350000 λx12=>.callF (lN E0.Exile) 390000 λx14=>.callF (ZbI E0.Stack) 430000 λx16=>.lenO ax x16<|.go (.L1 (⟨E0.Players,x10,x12,x14,x16,E0.Waiting,E0.Conts,E0.Turn,E0.Active,E0.Step,E0.Begun,E0.Priority,E0.Passes,E0.NextId,E0.NextStamp,E0.Seed,E0.Extra,E0.Over,E0.Winner⟩:ab) E1 (x16.length:Int) 0) [.relab 315000 40001,.relab 355000 40002,.relab 395000 40003,.relab 435000 40004]
def Ep(E0:ab)(E1:ab)(v46:Int)(v47:Int):LT j8 ab:=
.br (decide (v47<v46)) (.idxR ax E0.Stack v47 λx2=>.rl ax E0.Stack<|.ldR ax E0.Stack x2 2<|.call (Z0e x2.Ability) λx4=>.plR ax E0.Stack v47 0<|.rl ax E0.Stack<|.setD ax E0.Stack v47 x2 (⟨x2.Id,x2.Kind,x2.Source,x2.Control,x2.X,x2.Copy,x4,x2.Targets,x2.Event⟩:Z1) 2 6 (tm6 x4) rfl λx6=>.dr [.ahead 15,.relen 40004,.stop]<|.us [3]<|.us [3]<|.us [3]<|.us [3]<|.us [3]<|.us [3]<|.us [3]<|.idxR ax x6 v47 λx8=>.rl ax x6<|.ldR ax x6 x8 8<|.call (ZbJ x8.Targets) λx10=>.plR ax x6 v47 6<|.rl ax x6<|.setD ax x6 v47 x8 (⟨x8.Id,x8.Kind,x8.Source,x8.Control,x8.X,x8.Copy,x8.Ability,x10,x8.Event⟩:Z1) 8 78 [.sl (List.map cc x10)] rfl λx12=>.dr [.ahead 74,.relen 40004,.stop]<|.us [9]<|.us [9]<|.us [9]<|.us [9]<|.us [9]<|.us [9]<|.us [9]<|.us [9]<|.us [9]<|.us [9]<|.us [9]<|.us [9]<|.us [9]<|.g0 (.L1 (⟨E0.Players,E0.Objects,E0.Battlefield,E0.Exile,x12,E0.Waiting,E0.Conts,E0.Turn,E0.Active,E0.Step,E0.Begun,E0.Priority,E0.Passes,E0.NextId,E0.NextStamp,E0.Seed,E0.Extra,E0.Over,E0.Winner⟩:ab) E1 v46 (IntKind.wrap .i64 (v47+1))))<|.callF (ZbK E0.Waiting) 780000 λx16=>.lenO bz x16<|.go (.L2 (⟨E0.Players,E0.Objects,E0.Battlefield,E0.Exile,E0.Stack,x16,E0.Conts,E0.Turn,E0.Active,E0.Step,E0.Begun,E0.Priority,E0.Passes,E0.NextId,E0.NextStamp,E0.Seed,E0.Extra,E0.Over,E0.Winner⟩:ab) E1 (x16.length:Int) 0) [.relab 785000 40005]
def Eu(E0:ab)(E1:ab)(v81:Int)(v82:Int):LT j8 ab:=
.br (decide (v82<v81)) (.idxR bz E0.Waiting v82 λx2=>.rl bz E0.Waiting<|.ldR bz E0.Waiting x2 2<|.call (Z0e x2.Ability) λx4=>.plR bz E0.Waiting v82 0<|.rl bz E0.Waiting<|.setD bz E0.Waiting v82 x2 (⟨x2.Source,x2.Control,x4,x2.Event⟩:Z2) 2 2 (tm6 x4) rfl λx6=>.dr [.ahead 97,.relen 40005,.stop]<|.us [3]<|.us [3]<|.us [3]<|.us [3]<|.us [3]<|.us [3]<|.us [3]<|.g0 (.L2 (⟨E0.Players,E0.Objects,E0.Battlefield,E0.Exile,E0.Stack,x6,E0.Conts,E0.Turn,E0.Active,E0.Step,E0.Begun,E0.Priority,E0.Passes,E0.NextId,E0.NextStamp,E0.Seed,E0.Extra,E0.Over,E0.Winner⟩:ab) E1 v81 (IntKind.wrap .i64 (v82+1))))<|.callF (ZbL E0.Conts) 1010000 λx10=>.lenO bD x10<|.go (.L3 (⟨E0.Players,E0.Objects,E0.Battlefield,E0.Exile,E0.Stack,E0.Waiting,x10,E0.Turn,E0.Active,E0.Step,E0.Begun,E0.Priority,E0.Passes,E0.NextId,E0.NextStamp,E0.Seed,E0.Extra,E0.Over,E0.Winner⟩:ab) E1 (x10.length:Int) 0) [.relab 1015000 40006]
def Ew(E0:ab)(E1:ab)(v104:Int)(v105:Int):LT j8 ab:=
.br (decide (v105<v104)) (.idxR bD E0.Conts v105 λx2=>.rl bD E0.Conts<|.ldR bD E0.Conts x2 2<|.call (K8 x2.Objects) λx4=>.plR bD E0.Conts v105 0<|.rl bD E0.Conts<|.setD bD E0.Conts v105 x2 (⟨x2.Stamp,x2.Control,x2.Source,x2.Until,x4,x2.Mods⟩:ck) 2 4 [.sl (List.map (cI .i64) x4)] rfl λx6=>.dr [.ahead 28,.relen 40006,.stop]<|.us [3]<|.us [3]<|.us [3]<|.us [3]<|.us [3]<|.us [3]<|.us [3]<|.idxR bD x6 v105 λx8=>.rl bD x6<|.ldR bD x6 x8 8<|.call (lO x8.Mods) λx10=>.plR bD x6 v105 6<|.rl bD x6<|.setD bD x6 v105 x8 (⟨x8.Stamp,x8.Control,x8.Source,x8.Until,x8.Objects,x10⟩:ck) 8 5 [.sl (List.map aF x10)] rfl λx12=>.dr [.ahead 132,.relen 40006,.stop]<|.us [9]<|.us [9]<|.us [9]<|.us [9]<|.us [9]<|.us [9]<|.us [9]<|.us [9]<|.us [9]<|.us [9]<|.us [9]<|.us [9]<|.us [9]<|.g0 (.L3 (⟨E0.Players,E0.Objects,E0.Battlefield,E0.Exile,E0.Stack,E0.Waiting,x12,E0.Turn,E0.Active,E0.Step,E0.Begun,E0.Priority,E0.Passes,E0.NextId,E0.NextStamp,E0.Seed,E0.Extra,E0.Over,E0.Winner⟩:ab) E1 v104 (IntKind.wrap .i64 (v105+1))))<|.callF (lN E0.Extra) 1360000 λx16=>.ret (⟨E0.Players,E0.Objects,E0.Battlefield,E0.Exile,E0.Stack,E0.Waiting,E0.Conts,E0.Turn,E0.Active,E0.Step,E0.Begun,E0.Priority,E0.Passes,E0.NextId,E0.NextStamp,E0.Seed,x16,E0.Over,E0.Winner⟩:ab) (tm28 40000 5000 1365000)
def En(a0:ab):LT j8 ab:=
.lb 1001<|.lb 1002<|.callF (ZbM a0.Players) 100000 λx1=>.lenO ba x1<|.go (.L0 (⟨x1,a0.Objects,a0.Battlefield,a0.Exile,a0.Stack,a0.Waiting,a0.Conts,a0.Turn,a0.Active,a0.Step,a0.Begun,a0.Priority,a0.Passes,a0.NextId,a0.NextStamp,a0.Seed,a0.Extra,a0.Over,a0.Winner⟩:ab) (⟨([]:List bC),([]:List ak),([]:List Int),([]:List Int),([]:List Z1),([]:List Z2),([]:List ck),0,0,0,false,0,0,0,0,0,([]:List Int),0,0⟩:ab) (x1.length:Int) 0) [.relab 1001 3000,.relab 1002 3001,.relab 105000 40000,.ownb 3001 0 40100 14,.ownb 3001 1 40101 19,.ownb 3001 2 40102 1,.ownb 3001 3 40103 1,.ownb 3001 4 40104 94,.ownb 3001 5 40105 89,.ownb 3001 6 40106 6,.ownb 3001 16 40116 1]
def m6:LF j8 ab :=.m 25 [.c 2 31 true 19] true (λr=>(tm29 r 5000)) (λr=>(.agg (tm2 r 5000))) λ|.L0 E0 E1 v13 v14=>([1,1,0,1,4],⟨138,[(1,.bptr 3000 0),(2,.bptr 3001 0),(13,wI v13),(14,wI v14)],((3000,.box (tm17 E0 40000))::(40000,wR ba 14 E0.Players)::(3001,.box (tm2 E1 40100))::(tm29 E1 40100))⟩,Eo E0 E1 v13 v14)|.L1 E0 E1 v46 v47=>([1,1,1,1,1,1,1,0,1,4],⟨138,[(1,.bptr 3000 0),(2,.bptr 3001 0),(46,wI v46),(47,wI v47)],((3000,.box (tm16 E0 40000))::(40000,wR ba 14 E0.Players)::(40001,wR aC 19 E0.Objects)::(40002,wR (cI .i64) 1 E0.Battlefield)::(40003,wR (cI .i64) 1 E0.Exile)::(40004,wR ax 94 E0.Stack)::(3001,.box (tm2 E1 40100))::(tm29 E1 40100))⟩,Ep E0 E1 v46 v47)|.L2 E0 E1 v81 v82=>([1,1,1,1,1,1,1,1,1,0,1,4],⟨138,[(1,.bptr 3000 0),(2,.bptr 3001 0),(81,wI v81),(82,wI v82)],((3000,.box (tm15 E0 40000))::(40000,wR ba 14 E0.Players)::(40001,wR aC 19 E0.Objects)::(40002,wR (cI .i64) 1 E0.Battlefield)::(40003,wR (cI .i64) 1 E0.Exile)::(40004,wR ax 94 E0.Stack)::(40005,wR bz 89 E0.Waiting)::(3001,.box (tm2 E1 40100))::(tm29 E1 40100))⟩,Eu E0 E1 v81 v82)|.L3 E0 E1 v104 v105=>([1,1,1,1,1,1,1,1,1,1,1,0,1,4],⟨138,[(1,.bptr 3000 0),(2,.bptr 3001 0),(104,wI v104),(105,wI v105)],((3000,.box (tm14 E0 40000))::(40000,wR ba 14 E0.Players)::(40001,wR aC 19 E0.Objects)::(40002,wR (cI .i64) 1 E0.Battlefield)::(40003,wR (cI .i64) 1 E0.Exile)::(40004,wR ax 94 E0.Stack)::(40005,wR bz 89 E0.Waiting)::(40006,wR bD 6 E0.Conts)::(3001,.box (tm2 E1 40100))::(tm29 E1 40100))⟩,Ew E0 E1 v104 v105)
def tC:=λa0=>m6.run (En a0)
def qQ(a0){r}(h:tC a0=some r):FnG PR 25 [] [wA (aH a0)] (tm29 r 5000) (.agg (tm2 r 5000)):=m6.fn h
def ZbN(a0:ab){r:ab}(h:tC a0=some r):Fn PR 25 [wA (aH a0)] (wA (aH r)):=FnG.frozen (C:=LT.RL ba r.Players/\LT.RL aC r.Objects/\LT.RL (cI .i64) r.Battlefield/\LT.RL (cI .i64) r.Exile/\LT.RL ax r.Stack/\LT.RL bz r.Waiting/\LT.RL bD r.Conts/\LT.RL (cI .i64) r.Extra/\True) (qQ a0 h) ⟨rfl,rfl,rfl,rfl,rfl,rfl,rfl,rfl,aa⟩ ar
inductive pb where
 |L0 (v3:List Int) (v7:List bC) (v8:Int) (v9:Int)
def Ez(v3:List Int)(v7:List bC)(v8:Int)(v9:Int):LT pb (List Int):=
.br (decide (v9<v8)) (.idx ba v7 v9 λx2=>.lb 1005<|.br (!x2.Lost) (.dr [.lit]<|.apR (cI .i64) 8 v3 [v9] λx5=>.g0 (.L0 x5 v7 v8 (IntKind.wrap .i64 (v9+1))))<|.g0 (.L0 v3 v7 v8 (IntKind.wrap .i64 (v9+1))))<|.ret v3 [.relab 20003 5000]
def Ey(a0:ab):LT pb (List Int):=
.lb 1001<|.len ba a0.Players<|.go (.L0 ([]:List Int) a0.Players (a0.Players.length:Int) 0) [.own 3 20003 1]
def Z1b:LF pb (List Int) :=.m 33 [.t 2] true (λr=>[(5000,wR (cI .i64) 1 r)]) (λr=>(wO (cI .i64) 5000 r)) λ|.L0 v3 v7 v8 v9=>([1,1,0,1,4],⟨23,[(3,wO (cI .i64) 20003 v3),(7,wL ba v7),(8,wI v8),(9,wI v9)],[(20003,wR (cI .i64) 1 v3)]⟩,Ez v3 v7 v8 v9)
def Z7r:=λa0=>Z1b.run (Ey a0)
def ZbO(a0){r}(h:Z7r a0=some r):FnG PR 33 [] [wA (aH a0)] [(5000,wR (cI .i64) 1 r)] (wO (cI .i64) 5000 r):=Z1b.fn h
def Aq(a0:ab){r:List Int}(h:Z7r a0=some r):Fn PR 33 [wA (aH a0)] (wL (cI .i64) r):=FnG.frozen (C:=LT.RL (cI .i64) r/\True) (ZbO a0 h) ⟨rfl,aa⟩ ar
def Z7s(a0:Int):LT Empty Bool:=
.rt (a0 != a0)
def Z7t:LF Empty Bool :=.z0 108 [.t 2] wB
def EA:=λa0=>Z7t.run (Z7s a0)
def Z5x(a0){r}(h:EA a0=some r):Fn PR 108 [wI a0] (wB r):=Z7t.fn h
def Z3d(a0:Int)(a1:Int):LT Empty Int:=
.call (Z5x a0) λx1=>.call (Z5x a1) λx3=>.br x1 (.br x3 (.rt 0)<|.rt (-1))<|.br x3 (.rt 1)<|.br (decide (a0<a1)) (.rt (-1))<|.br (decide (a0>a1)) (.rt 1)<|.rt 0
def Z3e:LF Empty Int :=.z0 72 [.t 4] wI
def Z7u:=λa0 a1=>Z3e.run (Z3d a0 a1)
def Z0f(a0)(a1){r}(h:Z7u a0 a1=some r):Fn PR 72 [wI a0,wI a1] (wI r):=Z3e.fn h
inductive m8 where
 |L0 (v1:Int) (E0:ab)
 |L1 (v1:Int) (v5:List Int) (v6:List Int) (v19:List Int) (v20:Int) (v21:Int)
def m9(v1:Int)(E0:ab):LT m8 (List Int):=
.call (Aq E0) λx1=>.len (cI .i64) x1<|.go (.L1 v1 ([]:List Int) ([]:List Int) x1 (x1.length:Int) 0) [.own 5 20005 1,.own 6 20006 1]
def EE(v1:Int)(v5:List Int)(v6:List Int)(v19:List Int)(v20:Int)(v21:Int):LT m8 (List Int):=
.br (decide (v21<v20)) (.idx (cI .i64) v19 v21 λx2=>.call (Z0f x2 v1) λx4=>.br (x4==(-1)) (.dr [.lit]<|.apR (cI .i64) 8 v5 [x2] λx7=>.g0 (.L1 v1 x7 v6 v19 v20 (IntKind.wrap .i64 (v21+1))))<|.br (x4==1) (.dr [.lit]<|.apR (cI .i64) 8 v6 [x2] λx13=>.g0 (.L1 v1 v5 x13 v19 v20 (IntKind.wrap .i64 (v21+1))))<|.g0 (.L1 v1 v5 v6 v19 v20 (IntKind.wrap .i64 (v21+1))))<|.rl (cI .i64) v5<|.apR (cI .i64) 8 v6 v5 λx20=>.ret x20 [.relab 20006 5000]
def ED(a0:ab)(a1:Int):LT m8 (List Int):=
.lb 1002<|.cs (decide (a1<0)) (.k5 0<|.kg 0<|.kn [0]<|.jn 0 (.L0 (-1) a0) [.relab 1002 3000] (m9 (-1) a0))<|.k4 0<|.len ba a0.Players<|.k2 0<|.br (decide (a1>=(a0.Players.length:Int))) (.jn 0 (.L0 (-1) a0) [.relab 1002 3000] (m9 (-1) a0))<|.jn 0 (.L0 a1 a0) [.relab 1002 3000] (m9 a1 a0)
def Z1c:LF m8 (List Int) :=.m 31 [.t 4] true (λr=>[(5000,wR (cI .i64) 1 r)]) (λr=>(wO (cI .i64) 5000 r)) λ|.L0 v1 E0=>([1,1],⟨44,[(1,wI v1),(2,.bptr 3000 0)],[(3000,.box (bx (aH E0)))]⟩,m9 v1 E0)|.L1 v1 v5 v6 v19 v20 v21=>([1,1,1,0,1,4],⟨44,[(1,wI v1),(5,wO (cI .i64) 20005 v5),(6,wO (cI .i64) 20006 v6),(19,wL (cI .i64) v19),(20,wI v20),(21,wI v21)],[(20005,wR (cI .i64) 1 v5),(20006,wR (cI .i64) 1 v6)]⟩,EE v1 v5 v6 v19 v20 v21)
def EC:=λa0 a1=>Z1c.run (ED a0 a1)
def ZbP(a0)(a1){r}(h:EC a0 a1=some r):FnG PR 31 [] [wA (aH a0),wI a1] [(5000,wR (cI .i64) 1 r)] (wO (cI .i64) 5000 r):=Z1c.fn h
inductive pc where
 |L0 (v0:List Int) (v1:Int) (v7:Int) (v8:Int)
def EI(v0:List Int)(v1:Int)(v7:Int)(v8:Int):LT pc Int:=
.br (decide (v8<v7)) (.idx (cI .i64) v0 v8 λx2=>.br (v1==x2) (.rt v8)<|.g0 (.L0 v0 v1 v7 (IntKind.wrap .i64 (v8+1))))<|.rt (-1)
def EH(a0:List Int)(a1:Int):LT pc Int:=
.len (cI .i64) a0<|.g0 (.L0 a0 a1 (a0.length:Int) 0)
def yn:LF pc Int :=.m0 73 [.t 4] wI λ|.L0 v0 v1 v7 v8=>([1,0,1,4],⟨19,[(0,wL (cI .i64) v0),(1,wI v1),(7,wI v7),(8,wI v8)],[]⟩,EI v0 v1 v7 v8)
def EG:=λa0 a1=>yn.run (EH a0 a1)
def u6(a0)(a1){r}(h:EG a0 a1=some r):Fn PR 73 [wL (cI .i64) a0,wI a1] (wI r):=yn.fn h
def EK(a0:List Int)(a1:Int):LT Empty Bool:=
.call (u6 a0 a1) λx1=>.rt (decide (x1>=0))
def K9:LF Empty Bool :=.z0 32 [.t 4] wB
def EJ:=λa0 a1=>K9.run (EK a0 a1)
def u7(a0)(a1){r}(h:EJ a0 a1=some r):Fn PR 32 [wL (cI .i64) a0,wI a1] (wB r):=K9.fn h
inductive na where
 |L0 (E0:Z3) (v3:Int) (v8:Int) (v9:Bool)
 |L1 (E0:Z3) (v3:Int) (v8:Int) (v19:Bool)
def pe(E0:Z3)(v3:Int)(v8:Int)(v19:Bool):LT na Bool:=
.br v19 (.rt (v3==0))<|.br (v8==3) (.cs (E0.Least==E0.Most) (.k4 2<|.cs (E0.Least==0) (.k4 3<|.kg 2<|.kg 3<|.kg 2<|.rt true)<|.k4 3<|.kg 2<|.kg 3<|.kg 2<|.rt (E0.Least==v3))<|.k5 2<|.kg 2<|.rt false)<|.br (v8==5) (.rt (E0.Least==E0.Most))<|.rt true
def iW(E0:Z3)(v3:Int)(v8:Int)(v9:Bool):LT na Bool:=
.br v9 (.rt (decide (v3<=1)))<|.br (v8==6) (.j0 (.L1 E0 v3 v8 (v8==6)) (pe E0 v3 v8 (v8==6)))<|.j0 (.L1 E0 v3 v8 (v8==7)) (pe E0 v3 v8 (v8==7))
def EN(a0:Z3):LT na Bool:=
.lb 1001<|.len bj a0.Options<|.br (a0.Kind==1) (.jn 0 (.L0 a0 (a0.Options.length:Int) a0.Kind (a0.Kind==1)) [.relab 1001 3000] (iW a0 (a0.Options.length:Int) a0.Kind (a0.Kind==1)))<|.br (a0.Kind==2) (.jn 0 (.L0 a0 (a0.Options.length:Int) a0.Kind (a0.Kind==2)) [.relab 1001 3000] (iW a0 (a0.Options.length:Int) a0.Kind (a0.Kind==2)))<|.br (a0.Kind==9) (.jn 0 (.L0 a0 (a0.Options.length:Int) a0.Kind (a0.Kind==9)) [.relab 1001 3000] (iW a0 (a0.Options.length:Int) a0.Kind (a0.Kind==9)))<|.br (a0.Kind==10) (.jn 0 (.L0 a0 (a0.Options.length:Int) a0.Kind (a0.Kind==10)) [.relab 1001 3000] (iW a0 (a0.Options.length:Int) a0.Kind (a0.Kind==10)))<|.br (a0.Kind==11) (.jn 0 (.L0 a0 (a0.Options.length:Int) a0.Kind (a0.Kind==11)) [.relab 1001 3000] (iW a0 (a0.Options.length:Int) a0.Kind (a0.Kind==11)))<|.br (a0.Kind==4) (.jn 0 (.L0 a0 (a0.Options.length:Int) a0.Kind (a0.Kind==4)) [.relab 1001 3000] (iW a0 (a0.Options.length:Int) a0.Kind (a0.Kind==4)))<|.jn 0 (.L0 a0 (a0.Options.length:Int) a0.Kind (a0.Kind==8)) [.relab 1001 3000] (iW a0 (a0.Options.length:Int) a0.Kind (a0.Kind==8))
def La:LF na Bool :=.m0 76 [.t 2] wB λ|.L0 E0 v3 v8 v9=>([1,1,0,1,4,1],⟨49,[(1,.bptr 3000 0),(3,wI v3),(8,wI v8),(9,wB v9)],[(3000,.box (bx (fx E0)))]⟩,iW E0 v3 v8 v9)|.L1 E0 v3 v8 v19=>([1,1,0,1,4,1,3,1],⟨49,[(1,.bptr 3000 0),(3,wI v3),(8,wI v8),(19,wB v19)],[(3000,.box (bx (fx E0)))]⟩,pe E0 v3 v8 v19)
def EM:=λa0=>La.run (EN a0)
def ZbQ(a0){r}(h:EM a0=some r):Fn PR 76 [wA (fx a0)] (wB r):=La.fn h
inductive pf where
 |L0 (v3:List Int) (v5:Int) (v6:Int)
def ET(v3:List Int)(v5:Int)(v6:Int):LT pf (List Int):=
.br (decide (v6<v5)) (.dr [.lit]<|.apR (cI .i64) 8 v3 [v6] λx2=>.g0 (.L0 x2 v5 (IntKind.wrap .i64 (v6+1))))<|.ret v3 [.relab 20003 5000]
def ER(a0:Int):LT pf (List Int):=
.go (.L0 ([]:List Int) a0 0) [.own 3 20003 1]
def yp:LF pf (List Int) :=.m 110 [.t 2] true (λr=>[(5000,wR (cI .i64) 1 r)]) (λr=>(wO (cI .i64) 5000 r)) λ|.L0 v3 v5 v6=>([1,1,0,1,4],⟨15,[(3,wO (cI .i64) 20003 v3),(5,wI v5),(6,wI v6)],[(20003,wR (cI .i64) 1 v3)]⟩,ET v3 v5 v6)
def EP:=λa0=>yp.run (ER a0)
def Lb(a0){r}(h:EP a0=some r):FnG PR 110 [] [wI a0] [(5000,wR (cI .i64) 1 r)] (wO (cI .i64) 5000 r):=yp.fn h
inductive pg where
 |L0 (E0:Z3) (v3:Int) (v9:Int) (v10:Bool)
def kf(E0:Z3)(v3:Int)(v9:Int)(v10:Bool):LT pg (List Int):=
.br v10 (.lb 1016<|.ret [0] [.relab 1016 5000])<|.br (v9==3) (.callF (Lb (minI (maxI E0.Least 0) v3)) 250000 λx3=>.ret x3 [.relab 255000 5000])<|.br (v9==4) (.callF (Lb v3) 290000 λx6=>.ret x6 [.relab 295000 5000])<|.br (v9==5) (.lb 1033<|.ret [E0.Least] [.relab 1033 5000])<|.br (v9==8) (.br (decide (v3>0)) (.mk (cI .i64) 1039 8 0 v3 v3 λx11=>.idxR (cI .i64) x11 0 λx13=>.setR (cI .i64) x11 0 x13 E0.N 2 0 [.int .i64 E0.N] rfl λx15=>.dr [.ahead 44,.relen 1039,.stop]<|.us [3]<|.us [3]<|.us [3]<|.us [3]<|.ret x15 [.relab 1039 5000])<|.ret ([]:List Int) [.own 2 5000 1])<|.ret ([]:List Int) [.own 2 5000 1]
def EY(a0:Z3):LT pg (List Int):=
.lb 1001<|.len bj a0.Options<|.br (a0.Kind==1) (.jn 0 (.L0 a0 (a0.Options.length:Int) a0.Kind (a0.Kind==1)) [.relab 1001 3000] (kf a0 (a0.Options.length:Int) a0.Kind (a0.Kind==1)))<|.br (a0.Kind==2) (.jn 0 (.L0 a0 (a0.Options.length:Int) a0.Kind (a0.Kind==2)) [.relab 1001 3000] (kf a0 (a0.Options.length:Int) a0.Kind (a0.Kind==2)))<|.br (a0.Kind==9) (.jn 0 (.L0 a0 (a0.Options.length:Int) a0.Kind (a0.Kind==9)) [.relab 1001 3000] (kf a0 (a0.Options.length:Int) a0.Kind (a0.Kind==9)))<|.br (a0.Kind==10) (.jn 0 (.L0 a0 (a0.Options.length:Int) a0.Kind (a0.Kind==10)) [.relab 1001 3000] (kf a0 (a0.Options.length:Int) a0.Kind (a0.Kind==10)))<|.jn 0 (.L0 a0 (a0.Options.length:Int) a0.Kind (a0.Kind==11)) [.relab 1001 3000] (kf a0 (a0.Options.length:Int) a0.Kind (a0.Kind==11))
def Lc:LF pg (List Int) :=.m 77 [.t 2] true (λr=>[(5000,wR (cI .i64) 1 r)]) (λr=>(wO (cI .i64) 5000 r)) λ|.L0 E0 v3 v9 v10=>([1,1,0,1,4,1],⟨45,[(1,.bptr 3000 0),(3,wI v3),(9,wI v9),(10,wB v10)],[(3000,.box (bx (fx E0)))]⟩,kf E0 v3 v9 v10)
def EX:=λa0=>Lc.run (EY a0)
def qR(a0){r}(h:EX a0=some r):FnG PR 77 [] [wA (fx a0)] [(5000,wR (cI .i64) 1 r)] (wO (cI .i64) 5000 r):=Lc.fn h
def E5(a0:List bc):LT Empty (List bc):=
.apN bj 1006 24 a0 λx1=>.ret x1 [.relab 1006 5000]
def Ld:LF Empty (List bc) :=.z 78 [.t 2] true (λr=>[(5000,wR bj 3 r)]) (λr=>(wO bj 5000 r))
def E4:=λa0=>Ld.run (E5 a0)
def Le(a0){r}(h:E4 a0=some r):FnG PR 78 [] [wL bj a0] [(5000,wR bj 3 r)] (wO bj 5000 r):=Ld.fn h
def E8(a0:List Int)(a1:Int):LT Empty Int:=
.call (u6 a0 a1) λx1=>.rt x1
def Lf:LF Empty Int :=.z0 146 [.t 4] wI
def E7:=λa0 a1=>Lf.run (E8 a0 a1)
def ZbR(a0)(a1){r}(h:E7 a0 a1=some r):Fn PR 146 [wL (cI .i64) a0,wI a1] (wI r):=Lf.fn h
inductive pk where
 |L0 (v1:List Int) (E0:Z3) (v7:List Int) (v8:Int) (v9:Int)
def Fc(v1:List Int)(E0:Z3)(v7:List Int)(v8:Int)(v9:Int):LT pk Bool:=
.br (decide (v9<v8)) (.idx (cI .i64) v7 v9 λx2=>.cs (decide (x2<0)) (.k5 1<|.kg 1<|.b5 true<|.kb true<|.kn [0]<|.rt false)<|.k4 1<|.len bj E0.Options<|.k2 1<|.cs (decide (x2>=(E0.Options.length:Int))) (.k5 2<|.kg 2<|.kn [0]<|.rt false)<|.k3 2<|.call (ZbR v1 x2) λx7=>.k3 2<|.br (x7 != v9) (.rt false)<|.g0 (.L0 v1 E0 v7 v8 (IntKind.wrap .i64 (v9+1))))<|.rt true
def Fa(a0:Z3)(a1:List Int):LT pk Bool:=
.lb 1002<|.len (cI .i64) a1<|.go (.L0 a1 a0 a1 (a1.length:Int) 0) [.relab 1002 3000]
def Z4i:LF pk Bool :=.m0 111 [.t 4] wB λ|.L0 v1 E0 v7 v8 v9=>([1,0,1,4],⟨31,[(1,wL (cI .i64) v1),(2,.bptr 3000 0),(7,wL (cI .i64) v7),(8,wI v8),(9,wI v9)],[(3000,.box (bx (fx E0)))]⟩,Fc v1 E0 v7 v8 v9)
def E9:=λa0 a1=>Z4i.run (Fa a0 a1)
def u9(a0)(a1){r}(h:E9 a0 a1=some r):Fn PR 111 [wA (fx a0),wL (cI .i64) a1] (wB r):=Z4i.fn h
def Ff(a0:List Int)(a1:Int):LT Empty Bool:=
.call (u7 a0 a1) λx1=>.rt x1
def Lg:LF Empty Bool :=.z0 147 [.t 4] wB
def Fe:=λa0 a1=>Lg.run (Ff a0 a1)
def ZbS(a0)(a1){r}(h:Fe a0 a1=some r):Fn PR 147 [wL (cI .i64) a0,wI a1] (wB r):=Lg.fn h
inductive pn where
 |L0 (E0:Z3) (v5:List Int) (v8:List Int) (v9:Int) (v10:Int)
def Fk(E0:Z3)(v5:List Int)(v8:List Int)(v9:Int)(v10:Int):LT pn Bool:=
.br (decide (v10<v9)) (.idx (cI .i64) v8 v10 λx2=>.idx bj E0.Options x2 λx4=>.rl (cI .i64) v5<|.call (ZbS v5 x4.A) λx6=>.br x6 (.rt false)<|.ag bj x4 3<|.dr [.lit]<|.apR (cI .i64) 8 v5 [x4.A] λx9=>.g0 (.L0 E0 x9 v8 v9 (IntKind.wrap .i64 (v10+1))))<|.rt true
def Fi(a0:Z3)(a1:List Int):LT pn Bool:=
.lb 1002<|.len (cI .i64) a1<|.go (.L0 a0 ([]:List Int) a1 (a1.length:Int) 0) [.relab 1002 3000,.own 5 20005 1]
def Z1d:LF pn Bool :=.m0 112 [.t 4] wB λ|.L0 E0 v5 v8 v9 v10=>([1,1,0,1,4],⟨32,[(2,.bptr 3000 0),(5,wO (cI .i64) 20005 v5),(8,wL (cI .i64) v8),(9,wI v9),(10,wI v10)],[(3000,.box (bx (fx E0))),(20005,wR (cI .i64) 1 v5)]⟩,Fk E0 v5 v8 v9 v10)
def Fh:=λa0 a1=>Z1d.run (Fi a0 a1)
def ZbT(a0)(a1){r}(h:Fh a0 a1=some r):Fn PR 112 [wA (fx a0),wL (cI .i64) a1] (wB r):=Z1d.fn h
inductive po where
 |L0 (v1:List Int) (E0:Z3) (v5:Int) (v8:List Int) (v9:Int) (v10:Int)
def Fq(v1:List Int)(E0:Z3)(v5:Int)(v8:List Int)(v9:Int)(v10:Int):LT po Bool:=
.br (decide (v10<v9)) (.idx (cI .i64) v8 v10 λx2=>.cs (decide (x2<0)) (.k3 1<|.kn [0]<|.rt false)<|.k3 1<|.br (decide (x2>1000000)) (.rt false)<|.g0 (.L0 v1 E0 (IntKind.wrap .i64 (v5+x2)) v8 v9 (IntKind.wrap .i64 (v10+1))))<|.len (cI .i64) v1<|.len bj E0.Options<|.cs ((v1.length:Int)==(E0.Options.length:Int)) (.k5 1<|.rt (v5==E0.N))<|.k5 1<|.rt false
def Fo(a0:Z3)(a1:List Int):LT po Bool:=
.lb 1002<|.len (cI .i64) a1<|.go (.L0 a1 a0 0 a1 (a1.length:Int) 0) [.relab 1002 3000]
def Z1e:LF po Bool :=.m0 113 [.t 4] wB λ|.L0 v1 E0 v5 v8 v9 v10=>([1,1,0,1,4],⟨36,[(1,wL (cI .i64) v1),(2,.bptr 3000 0),(5,wI v5),(8,wL (cI .i64) v8),(9,wI v9),(10,wI v10)],[(3000,.box (bx (fx E0)))]⟩,Fq v1 E0 v5 v8 v9 v10)
def Fm:=λa0 a1=>Z1e.run (Fo a0 a1)
def ZbU(a0)(a1){r}(h:Fm a0 a1=some r):Fn PR 113 [wA (fx a0),wL (cI .i64) a1] (wB r):=Z1e.fn h
inductive nb where
 |L0 (v1:List Int) (E0:Z3) (v9:Int) (v10:Bool)
 |L1 (v1:List Int) (E0:Z3) (v9:Int) (v77:Bool)
def pr(v1:List Int)(E0:Z3)(v9:Int)(v77:Bool):LT nb Bool:=
.br v77 (.call (u9 E0 v1) λx2=>.cs x2 (.k3 1<|.call (ZbT E0 v1) λx5=>.kg 1<|.rt x5)<|.k4 1<|.rt false)<|.br (v9==8) (.call (ZbU E0 v1) λx8=>.rt x8)<|.rt false
def kh(v1:List Int)(E0:Z3)(v9:Int)(v10:Bool):LT nb Bool:=
.br v10 (.len (cI .i64) v1<|.cs ((v1.length:Int)==1) (.k3 1<|.call (u9 E0 v1) λx4=>.kg 1<|.rt x4)<|.k4 1<|.rt false)<|.br (v9==3) (.len (cI .i64) v1<|.cs (decide ((v1.length:Int)>=E0.Least)) (.k2 2<|.len (cI .i64) v1<|.k4 2<|.cs (decide ((v1.length:Int)<=E0.Most)) (.k3 3<|.call (u9 E0 v1) λx10=>.kg 3<|.rt x10)<|.k4 3<|.rt false)<|.k5 2<|.kg 2<|.b4 false<|.rt false)<|.br (v9==4) (.len (cI .i64) v1<|.len bj E0.Options<|.cs ((v1.length:Int)==(E0.Options.length:Int)) (.k3 3<|.call (u9 E0 v1) λx16=>.kg 3<|.rt x16)<|.k4 3<|.rt false)<|.br (v9==5) (.len (cI .i64) v1<|.cs ((v1.length:Int)==1) (.k2 4<|.idx (cI .i64) v1 0 λx21=>.k5 4<|.cs (decide (x21>=E0.Least)) (.k2 5<|.ag (cI .i64) x21 0<|.k5 5<|.rt (decide (x21<=E0.Most)))<|.k5 5<|.k2 5<|.rt false)<|.k5 4<|.k2 4<|.b5 false<|.b2 false<|.rt false)<|.br (v9==6) (.j0 (.L1 v1 E0 v9 (v9==6)) (pr v1 E0 v9 (v9==6)))<|.j0 (.L1 v1 E0 v9 (v9==7)) (pr v1 E0 v9 (v9==7))
def Fw(a0:Z3)(a1:List Int):LT nb Bool:=
.lb 1002<|.len (cI .i64) a1<|.br (decide ((a1.length:Int)>256)) (.rt false)<|.br (a0.Kind==1) (.jn 0 (.L0 a1 a0 a0.Kind (a0.Kind==1)) [.relab 1002 3000] (kh a1 a0 a0.Kind (a0.Kind==1)))<|.br (a0.Kind==2) (.jn 0 (.L0 a1 a0 a0.Kind (a0.Kind==2)) [.relab 1002 3000] (kh a1 a0 a0.Kind (a0.Kind==2)))<|.br (a0.Kind==9) (.jn 0 (.L0 a1 a0 a0.Kind (a0.Kind==9)) [.relab 1002 3000] (kh a1 a0 a0.Kind (a0.Kind==9)))<|.br (a0.Kind==10) (.jn 0 (.L0 a1 a0 a0.Kind (a0.Kind==10)) [.relab 1002 3000] (kh a1 a0 a0.Kind (a0.Kind==10)))<|.jn 0 (.L0 a1 a0 a0.Kind (a0.Kind==11)) [.relab 1002 3000] (kh a1 a0 a0.Kind (a0.Kind==11))
def Lh:LF nb Bool :=.m0 79 [.t 4] wB λ|.L0 v1 E0 v9 v10=>([1,1,0,1,4,1],⟨93,[(1,wL (cI .i64) v1),(2,.bptr 3000 0),(9,wI v9),(10,wB v10)],[(3000,.box (bx (fx E0)))]⟩,kh v1 E0 v9 v10)|.L1 v1 E0 v9 v77=>([1,1,0,1,4,1,3,1,3,1,3,1,3,1],⟨93,[(1,wL (cI .i64) v1),(2,.bptr 3000 0),(9,wI v9),(77,wB v77)],[(3000,.box (bx (fx E0)))]⟩,pr v1 E0 v9 v77)
def Fv:=λa0 a1=>Lh.run (Fw a0 a1)
def ZbV(a0)(a1){r}(h:Fv a0 a1=some r):Fn PR 79 [wA (fx a0),wL (cI .i64) a1] (wB r):=Lh.fn h
inductive ln where
 |L0 (E0:Z4) (v6:A5 Int) (v7:Int)
def nf(E0:Z4)(v6:A5 Int)(v7:Int):LT ln Bool:=
.br (decide (v7<5)) (.idX (U.int .i64) (A5.list v6) v7 λx2=>.cs (decide (x2<0)) (.k3 1<|.kn [0]<|.rt false)<|.k3 1<|.br (decide (x2>9)) (.rt false)<|.g0 (.L0 E0 v6 (IntKind.wrap .i64 (v7+1))))<|.cs (decide (E0.Generic>=0)) (.k4 1<|.cs (decide (E0.Generic<=99)) (.k4 2<|.cs (decide (E0.X>=0)) (.k4 3<|.rt (decide (E0.X<=2)))<|.k4 3<|.rt false)<|.k4 2<|.b4 false<|.rt false)<|.k4 1<|.b8 false<|.rt false
def yu(a0:Z4):LT ln Bool:=
.lb 1001<|.go (.L0 a0 a0.Color 0) [.relab 1001 3000]
def nc:LF ln Bool :=.m0 305 [.t 2] wB λ|.L0 E0 v6 v7=>([1,0,1,4],⟨35,[(1,.bptr 3000 0),(6,wA ((cA5 (cI .i64)) v6)),(7,wI v7)],[(3000,.box (bx (cJ E0)))]⟩,nf E0 v6 v7)
def tU:=λa0=>nc.run (yu a0)
def Li(a0){r}(h:tU a0=some r):Fn PR 305 [wA (cJ a0)] (wB r):=nc.fn h
inductive pv where
 |L0 (v3:Int) (v16:A5 Int) (v17:Int)
def FF(v3:Int)(v16:A5 Int)(v17:Int):LT pv Int:=
.br (decide (v17<5)) (.idX (U.int .i64) (A5.list v16) v17 λx2=>.br (decide (x2>0)) (.ok (¬v17<0)<|.g0 (.L0 (bJ .or .i64 v3 (Z65 .i64 1 v17)) v16 (IntKind.wrap .i64 (v17+1))))<|.g0 (.L0 v3 v16 (IntKind.wrap .i64 (v17+1))))<|.rt v3
def FC(a0:Z4):LT pv Int:=
.lb 1001<|.call (Li a0) λx1=>.cs (!x1) (.k5 0<|.kn [0]<|.rt 0)<|.k5 0<|.br (az ((cA5 (cI .i64)) a0.Color) ((cA5 (cI .i64)) (⟨0,0,0,0,0⟩:A5 Int))) (.rt 0)<|.g0 (.L0 0 a0.Color 0)
def Z4j:LF pv Int :=.m0 260 [.t 2] wI λ|.L0 v3 v16 v17=>([1,1,1,0,1,4],⟨29,[(3,wI v3),(16,wA ((cA5 (cI .i64)) v16)),(17,wI v17)],[]⟩,FF v3 v16 v17)
def FB:=λa0=>Z4j.run (FC a0)
def ZbW(a0){r}(h:FB a0=some r):Fn PR 260 [wA (cJ a0)] (wI r):=Z4j.fn h
def yx(a0:Bys)(hne:a0≠[]):LT Empty (Bys):=
.ne cS hne<|.kn [0]<|.lb 1005<|.apR cS 16 ([]:Bys) a0 λx1=>.ret x1 [.relab 1005 5000]
def lP:LF Empty (Bys) :=.z 261 [.t 2] true (λr=>[(5000,wR cS 1 r)]) (λr=>(wO cS 5000 r))
def tW(c:Nat):LT Empty (Bys):=
.kn [0]<|.ret ([]:Bys) [.own 2 5000 1]
def ZbX(c:Nat)(ad:Addr):LT Empty (Bys):=
.kn [0]<|.lb 1005<|.apR cS 16 ([]:Bys) ([]:Bys) λx1=>.ret x1 [.relab 1005 5000]
open Classical in
def tV(a0:Bys):Option (Bys):=if h:a0≠[]then lP.run (yx a0 h)else lP.run (tW 0)
def Ar(a0:Bys){r:Bys}(h:tV a0=some r):FnG PR 261 [] [wL cS a0] [(5000,wR cS 1 r)] (wO cS 5000 r):=by
 by_cases hne:a0=[]
 .subst hne;have h0:lP.run (tW 0)=some r:=h;exact FnG.split0 (λe=>absurd rfl e) (λ_ a c=>by
   cases a with
   |none=>exact lP.fn (t:=tW c) h0
   |some ad=>exact lP.fn (t:=ZbX c ad) h0)
 have h0:lP.run (yx a0 hne)=some r:=by unfold tV at h;rwa[eY hne]at h
 exact FnG.split0 (λ_=>lP.fn h0) (λe=>absurd (fm.1 e) hne)
inductive pz where
 |L0 (E0:an) (E1:an) (v18:Int) (v19:Int)
def Z0g(E0:an)(E1:an)(v18:Int)(v19:Int):LT pz an:=
.br (decide (v19<v18)) (.idxR bl E0.Effects v19 λx2=>.rl bl E0.Effects<|.ldR bl E0.Effects x2 2<|.call (lO x2.Mods) λx4=>.plR bl E0.Effects v19 0<|.rl bl E0.Effects<|.setD bl E0.Effects v19 x2 (⟨x2.Op,x2.Ref,x2.Amount,x2.Counter,x2.Zone,x2.Card,x2.Filter,x2.Pool,x4⟩:bh) 2 63 [.sl (List.map aF x4)] rfl λx6=>.dr [.ahead 34,.relen 40049,.stop]<|.us [3]<|.us [3]<|.us [3]<|.us [3]<|.us [3]<|.us [3]<|.us [3]<|.g0 (.L0 (⟨E0.Kind,E0.Filter,E0.Mods,E0.Price,E0.Slow,E0.Trigger,E0.May,E0.Specs,x6,E0.Replace⟩:an) E1 v18 (IntKind.wrap .i64 (v19+1))))<|.ret E0 (tm26 40000 5000)
def Z3f(a0:an):LT pz an:=
.lb 1001<|.lb 1002<|.callF (As a0.Mods) 70000 λx1=>.callF (At a0.Specs) 110000 λx3=>.callF (Au a0.Effects) 150000 λx5=>.lenO bl x5<|.go (.L0 (⟨a0.Kind,a0.Filter,x1,a0.Price,a0.Slow,a0.Trigger,a0.May,x3,x5,a0.Replace⟩:an) (⟨0,(⟨0,0,0,0,0,0,0,([]:By),0,0,(⟨0,0⟩:ae),(⟨0,0⟩:ae),(⟨0,0⟩:ae)⟩:aj),([]:List ai),(⟨(⟨0,0,(⟨0,0,0,0,0⟩:A5 Int)⟩:Z4),false,false,0⟩:gM),false,(⟨0,0,(⟨0,0,0,0,0,0,0,([]:By),0,0,(⟨0,0⟩:ae),(⟨0,0⟩:ae),(⟨0,0⟩:ae)⟩:aj)⟩:eW),false,([]:List bo),([]:List bh),(⟨0,0,(⟨0,0,0,0,0,0,0,([]:By),0,0,(⟨0,0⟩:ae),(⟨0,0⟩:ae),(⟨0,0⟩:ae)⟩:aj),0,0,0,0⟩:dn)⟩:an) (x5.length:Int) 0) [.relab 1001 3000,.relab 1002 3001,.relab 75000 40017,.relab 115000 40048,.relab 155000 40049,.ownb 3001 17 40117 20,.ownb 3001 48 40148 18,.ownb 3001 49 40149 64]
def yB:LF pz an :=.m 262 [.c 2 49 true 72] true (λr=>(tm30 r 5000)) (λr=>(.agg (tm0 r 5000))) λ|.L0 E0 E1 v18 v19=>([1,1,1,1,0,1,4],⟨36,[(1,.bptr 3000 0),(2,.bptr 3001 0),(18,wI v18),(19,wI v19)],((3000,.box (tm0 E0 40000))::(40017,wR aF 20 E0.Mods)::(40048,wR bS 18 E0.Specs)::(40049,wR bl 64 E0.Effects)::(3001,.box (tm0 E1 40100))::(tm30 E1 40100))⟩,Z0g E0 E1 v18 v19)
def yy:=λa0=>yB.run (Z3f a0)
def ZbY(a0){r}(h:yy a0=some r):FnG PR 262 [] [wA (aD a0)] (tm30 r 5000) (.agg (tm0 r 5000)):=yB.fn h
def ZbZ(a0:an){r:an}(h:yy a0=some r):Fn PR 262 [wA (aD a0)] (wA (aD r)):=FnG.frozen (C:=LT.RL aF r.Mods/\LT.RL bS r.Specs/\LT.RL bl r.Effects/\True) (ZbY a0 h) ⟨rfl,rfl,rfl,aa⟩ ar
inductive pA where
 |L0 (E0:ah) (E1:ah) (v32:List an) (v33:Int) (v34:Int)
def FN(E0:ah)(E1:ah)(v32:List an)(v33:Int)(v34:Int):LT pA ah:=
.br (decide (v34<v33)) (.idx aD v32 v34 λx2=>.lb 1005<|.call (ZbZ x2) λx4=>.dr [.lit]<|.apR aD 640 E1.Abilities [x4] λx6=>.g0 (.L0 E0 (⟨E1.Name,E1.Cost,E1.Colors,E1.Line,E1.Power,E1.Tough,E1.Keys,x6,E1.Control⟩:ah) v32 v33 (IntKind.wrap .i64 (v34+1))))<|.ret E1 [.relab 40111 5011,.relab 40115 5015]
def FL(a0:aw):LT pA ah:=
.lb 1001<|.lb 1002<|.call (ZbW a0.Cost) λx1=>.lb 1003<|.callF (Ar a0.Line.Subs) 290000 λx3=>.len aD a0.Abilities<|.go (.L0 (⟨([]:By),(⟨0,0,(⟨0,0,0,0,0⟩:A5 Int)⟩:Z4),0,(⟨0,0,([]:Bys)⟩:cf),0,0,0,([]:List an),0⟩:ah) (⟨a0.Name,a0.Cost,bJ .or .i64 x1 a0.Color,(⟨a0.Line.Super,a0.Line.Types,x3⟩:cf),a0.Power,a0.Tough,a0.Keys,([]:List an),0⟩:ah) a0.Abilities (a0.Abilities.length:Int) 0) [.relab 1002 3000,.relab 1003 3001,.ownb 3000 11 40011 1,.ownb 3000 15 40015 72,.relab 295000 40111,.ownb 3001 15 40115 72]
def Z1f:LF pA ah :=.m 198 [.c 2 220 true 17] true (λr=>[(5011,wR cS 1 r.Line.Subs),(5015,wR aD 72 r.Abilities)]) (λr=>(.agg (tm3 r 5000))) λ|.L0 E0 E1 v32 v33 v34=>([1,1,1,0,1,4],⟨47,[(2,.bptr 3000 0),(3,.bptr 3001 0),(32,wL aD v32),(33,wI v33),(34,wI v34)],[(3000,.box (tm3 E0 40000)),(40011,wR cS 1 E0.Line.Subs),(40015,wR aD 72 E0.Abilities),(3001,.box (tm3 E1 40100)),(40111,wR cS 1 E1.Line.Subs),(40115,wR aD 72 E1.Abilities)]⟩,FN E0 E1 v32 v33 v34)
def FK:=λa0=>Z1f.run (FL a0)
def Zb0(a0){r}(h:FK a0=some r):FnG PR 198 [] [wA (bA a0)] [(5011,wR cS 1 r.Line.Subs),(5015,wR aD 72 r.Abilities)] (.agg (tm3 r 5000)):=Z1f.fn h
inductive nh where
 |L0 (v0:List aw) (E0:ak) (E1:ah) (v5:Int)
 |L1 (E0:ak) (E1:ah) (E2:ah)
def ni(E0:ak)(E1:ah)(E2:ah):LT nh ah:=
.cs (E0.Zone==0) (.k4 0<|.kn [0]<|.ret (⟨E2.Name,E2.Cost,E2.Colors,E2.Line,E2.Power,E2.Tough,E2.Keys,E2.Abilities,E0.Control⟩:ah) [.relab 40211 5011,.relab 40215 5015])<|.k4 0<|.br (E0.Zone==5) (.ret (⟨E2.Name,E2.Cost,E2.Colors,E2.Line,E2.Power,E2.Tough,E2.Keys,E2.Abilities,E0.Control⟩:ah) [.relab 40211 5011,.relab 40215 5015])<|.ret (⟨E2.Name,E2.Cost,E2.Colors,E2.Line,E2.Power,E2.Tough,E2.Keys,E2.Abilities,E0.Owner⟩:ah) [.relab 40211 5011,.relab 40215 5015]
def pC(v0:List aw)(E0:ak)(E1:ah)(v5:Int):LT nh ah:=
.lb 1006<|.cs (decide (v5>=0)) (.k3 0<|.len bA v0<|.k2 0<|.br (decide (v5<(v0.length:Int))) (.idx bA v0 v5 λx4=>.callF (Zb0 x4) 270000 λx6=>.jn 0 (.L1 E0 E1 x6) [.relab 1006 3002,.relab 275011 40211,.relab 275015 40215] (ni E0 E1 x6))<|.jn 0 (.L1 E0 E1 (⟨([]:By),(⟨0,0,(⟨0,0,0,0,0⟩:A5 Int)⟩:Z4),0,(⟨0,0,([]:Bys)⟩:cf),0,0,0,([]:List an),0⟩:ah)) (tm27 1000 3000 40200) (ni E0 E1 (⟨([]:By),(⟨0,0,(⟨0,0,0,0,0⟩:A5 Int)⟩:Z4),0,(⟨0,0,([]:Bys)⟩:cf),0,0,0,([]:List an),0⟩:ah)))<|.k5 0<|.kn [0]<|.jn 0 (.L1 E0 E1 (⟨([]:By),(⟨0,0,(⟨0,0,0,0,0⟩:A5 Int)⟩:Z4),0,(⟨0,0,([]:Bys)⟩:cf),0,0,0,([]:List an),0⟩:ah)) (tm27 1000 3000 40200) (ni E0 E1 (⟨([]:By),(⟨0,0,(⟨0,0,0,0,0⟩:A5 Int)⟩:Z4),0,(⟨0,0,([]:Bys)⟩:cf),0,0,0,([]:List an),0⟩:ah))
def FR(a0:List aw)(a1:ak):LT nh ah:=
.lb 1003<|.lb 1004<|.br (decide (a1.Copy<0)) (.jn 0 (.L0 a0 a1 (⟨([]:By),(⟨0,0,(⟨0,0,0,0,0⟩:A5 Int)⟩:Z4),0,(⟨0,0,([]:Bys)⟩:cf),0,0,0,([]:List an),0⟩:ah) a1.Card) (tm23 1000 3000 40100) (pC a0 a1 (⟨([]:By),(⟨0,0,(⟨0,0,0,0,0⟩:A5 Int)⟩:Z4),0,(⟨0,0,([]:Bys)⟩:cf),0,0,0,([]:List an),0⟩:ah) a1.Card))<|.jn 0 (.L0 a0 a1 (⟨([]:By),(⟨0,0,(⟨0,0,0,0,0⟩:A5 Int)⟩:Z4),0,(⟨0,0,([]:Bys)⟩:cf),0,0,0,([]:List an),0⟩:ah) a1.Copy) (tm23 1000 3000 40100) (pC a0 a1 (⟨([]:By),(⟨0,0,(⟨0,0,0,0,0⟩:A5 Int)⟩:Z4),0,(⟨0,0,([]:Bys)⟩:cf),0,0,0,([]:List an),0⟩:ah) a1.Copy)
def Lj:LF nh ah :=.m 154 [.c 4 220 true 17] true (λr=>[(5011,wR cS 1 r.Line.Subs),(5015,wR aD 72 r.Abilities)]) (λr=>(.agg (tm3 r 5000))) λ|.L0 v0 E0 E1 v5=>([1,1,1],⟨42,[(0,wL bA v0),(3,.bptr 3000 0),(4,.bptr 3001 0),(5,wI v5)],[(3000,.box (bx (aC E0))),(3001,.box (tm3 E1 40100)),(40111,wR cS 1 E1.Line.Subs),(40115,wR aD 72 E1.Abilities)]⟩,pC v0 E0 E1 v5)|.L1 E0 E1 E2=>([1,1,1,1,1],⟨42,[(3,.bptr 3000 0),(4,.bptr 3001 0),(6,.bptr 3002 0)],[(3000,.box (bx (aC E0))),(3001,.box (tm3 E1 40100)),(40111,wR cS 1 E1.Line.Subs),(40115,wR aD 72 E1.Abilities),(3002,.box (tm3 E2 40200)),(40211,wR cS 1 E2.Line.Subs),(40215,wR aD 72 E2.Abilities)]⟩,ni E0 E1 E2)
def yE:=λa0 a1=>Lj.run (FR a0 a1)
def Zb1(a0)(a1){r}(h:yE a0 a1=some r):FnG PR 154 [] [wL bA a0,wA (aC a1)] [(5011,wR cS 1 r.Line.Subs),(5015,wR aD 72 r.Abilities)] (.agg (tm3 r 5000)):=Lj.fn h
def Lk(a0:List aw)(a1:ak){r:ah}(h:yE a0 a1=some r):Fn PR 154 [wL bA a0,wA (aC a1)] (wA (ay r)):=FnG.frozen (C:=LT.RL cS r.Line.Subs/\LT.RL aD r.Abilities/\True) (Zb1 a0 a1 h) ⟨rfl,rfl,aa⟩ ar
inductive lp where
 |L0 (v0:List aw) (E0:ab) (v5:List cU) (v13:List ak) (v14:Int) (v15:Int)
 |L1 (v0:List aw) (E0:ab) (v5:List cU) (E1:ak) (v13:List ak) (v14:Int) (v15:Int) (v25:List an) (v26:Int) (v27:Int)
 |L2 (v5:List cU) (v54:List ck) (v55:Int) (v56:Int)
def FW(v0:List aw)(E0:ab)(v5:List cU)(v13:List ak)(v14:Int)(v15:Int):LT lp (List cU):=
.br (decide (v15<v14)) (.idx aC v13 v15 λx2=>.lb 1007<|.br (x2.Zone != 0) (.g0 (.L0 v0 E0 v5 v13 v14 (IntKind.wrap .i64 (v15+1))))<|.call (Lk v0 x2) λx7=>.len aD x7.Abilities<|.go (.L1 v0 E0 v5 x2 v13 v14 v15 x7.Abilities (x7.Abilities.length:Int) 0) [.relab 1007 3001])<|.len bD E0.Conts<|.g0 (.L2 v5 E0.Conts (E0.Conts.length:Int) 0)
def FY(v0:List aw)(E0:ab)(v5:List cU)(E1:ak)(v13:List ak)(v14:Int)(v15:Int)(v25:List an)(v26:Int)(v27:Int):LT lp (List cU):=
.br (decide (v27<v26)) (.idx aD v25 v27 λx2=>.lb 1009<|.br (x2.Kind==1) (.call (lO x2.Mods) λx5=>.dr [.lit]<|.apR cF 224 v5 [(⟨E1.Id,v27,E1.Control,E1.Stamp,false,([]:List Int),x2.Filter,x5⟩:cU)] λx7=>.g0 (.L1 v0 E0 x7 E1 v13 v14 v15 v25 v26 (IntKind.wrap .i64 (v27+1))))<|.g0 (.L1 v0 E0 v5 E1 v13 v14 v15 v25 v26 (IntKind.wrap .i64 (v27+1))))<|.g0 (.L0 v0 E0 v5 v13 v14 (IntKind.wrap .i64 (v15+1)))
def FZ(v5:List cU)(v54:List ck)(v55:Int)(v56:Int):LT lp (List cU):=
.br (decide (v56<v55)) (.idx bD v54 v56 λx2=>.lb 1011<|.call (K8 x2.Objects) λx4=>.call (lO x2.Mods) λx6=>.dr [.lit]<|.apR cF 224 v5 [(⟨x2.Source,-1,x2.Control,x2.Stamp,true,x4,(⟨0,0,0,0,0,0,0,([]:By),0,0,(⟨0,0⟩:ae),(⟨0,0⟩:ae),(⟨0,0⟩:ae)⟩:aj),x6⟩:cU)] λx8=>.g0 (.L2 x8 v54 v55 (IntKind.wrap .i64 (v56+1))))<|.ret v5 [.relab 20005 5000]
def FV(a0:List aw)(a1:ab):LT lp (List cU):=
.lb 1003<|.len aC a1.Objects<|.go (.L0 a0 a1 ([]:List cU) a1.Objects (a1.Objects.length:Int) 0) [.relab 1003 3000,.own 5 20005 23]
def pD:LF lp (List cU) :=.m 153 [.t 4] true (λr=>[(5000,wR cF 23 r)]) (λr=>(wO cF 5000 r)) λ|.L0 v0 E0 v5 v13 v14 v15=>([1,1,0,1,4],⟨78,[(0,wL bA v0),(3,.bptr 3000 0),(5,wO cF 20005 v5),(13,wL aC v13),(14,wI v14),(15,wI v15)],[(3000,.box (bx (aH E0))),(20005,wR cF 23 v5)]⟩,FW v0 E0 v5 v13 v14 v15)|.L1 v0 E0 v5 E1 v13 v14 v15 v25 v26 v27=>([1,1,0,1,4,5,1,1,0,4,1,1,1,4],⟨78,[(0,wL bA v0),(3,.bptr 3000 0),(5,wO cF 20005 v5),(7,.bptr 3001 0),(13,wL aC v13),(14,wI v14),(15,wI v15),(25,wL aD v25),(26,wI v26),(27,wI v27)],[(3000,.box (bx (aH E0))),(20005,wR cF 23 v5),(3001,.box (bx (aC E1)))]⟩,FY v0 E0 v5 E1 v13 v14 v15 v25 v26 v27)|.L2 v5 v54 v55 v56=>([1,1,1,0,1,4],⟨78,[(5,wO cF 20005 v5),(54,wL bD v54),(55,wI v55),(56,wI v56)],[(20005,wR cF 23 v5)]⟩,FZ v5 v54 v55 v56)
def Z7v:=λa0 a1=>pD.run (FV a0 a1)
def Zb2(a0)(a1){r}(h:Z7v a0 a1=some r):FnG PR 153 [] [wL bA a0,wA (aH a1)] [(5000,wR cF 23 r)] (wO cF 5000 r):=pD.fn h
def Zb3(a0:List aw)(a1:ab){r:List cU}(h:Z7v a0 a1=some r):Fn PR 153 [wL bA a0,wA (aH a1)] (wL cF r):=FnG.frozen (C:=LT.RL cF r/\True) (Zb2 a0 a1 h) ⟨rfl,aa⟩ ar
inductive pE where
 |L0 (v0:List aw) (E0:aB) (v19:List ak) (v20:Int) (v21:Int)
def F3(v0:List aw)(E0:aB)(v19:List ak)(v20:Int)(v21:Int):LT pE aB:=
.br (decide (v21<v20)) (.idx aC v19 v21 λx2=>.lb 1007<|.call (Lk v0 x2) λx4=>.dr [.lit]<|.apR ay 176 E0.traits [x4] λx6=>.g0 (.L0 v0 (⟨E0.s,E0.forces,x6,E0.dropped,E0.done,E0.hits⟩:aB) v19 v20 (IntKind.wrap .i64 (v21+1))))<|.len cF E0.forces<|.mk cB 1045 1 false (E0.forces.length:Int) (E0.forces.length:Int) λx12=>.len cF E0.forces<|.mk (cL (cI .i64)) 1051 24 [] (E0.forces.length:Int) (E0.forces.length:Int) λx14=>.ret (⟨E0.s,E0.forces,E0.traits,E0.dropped,x12,x14⟩:aB) [.relab 3000 5000,.relab 40020 5021,.relab 40021 5022,.relab 1045 5023,.relab 1051 5024]
def F1(a0:List aw)(a1:ab):LT pE aB:=
.lb 1003<|.call (Zb3 a0 a1) λx1=>.len aC a1.Objects<|.mk cB 1015 1 false (a1.Objects.length:Int) (a1.Objects.length:Int) λx4=>.lb 1017<|.len aC a1.Objects<|.go (.L0 a0 (⟨a1,x1,([]:List ah),x4,([]:List Bool),([]:List (List Int))⟩:aB) a1.Objects (a1.Objects.length:Int) 0) [.relab 1017 3000,.ownb 3000 20 40020 17,.relab 1015 40021,.ownb 3000 22 40022 1,.ownb 3000 23 40023 1]
def Z4k:LF pE aB :=.m 115 [.t 4] true (λr=>[(5000,.box (tm7 r 5000)),(5021,wR ay 17 r.traits),(5022,wR cB 1 r.dropped),(5023,wR cB 1 r.done),(5024,wR (cL (cI .i64)) 1 r.hits)]) (λr=>(.bptr 5000 0)) λ|.L0 v0 E0 v19 v20 v21=>([1,1,0,1,4],⟨57,[(0,wL bA v0),(5,.bptr 3000 0),(19,wL aC v19),(20,wI v20),(21,wI v21)],((3000,.box (tm9 E0 40000))::(tm32 E0 40000))⟩,F3 v0 E0 v19 v20 v21)
def F0:=λa0 a1=>Z4k.run (F1 a0 a1)
def Zb4(a0)(a1){r}(h:F0 a0 a1=some r):FnG PR 115 [] [wL bA a0,wA (aH a1)] [(5000,.box (tm7 r 5000)),(5021,wR ay 17 r.traits),(5022,wR cB 1 r.dropped),(5023,wR cB 1 r.done),(5024,wR (cL (cI .i64)) 1 r.hits)] (.bptr 5000 0):=Z4k.fn h
def yG(a0:Int):LT Empty Int:=
.rt (minI (maxI a0 (-1000000)) 1000000)
def Ll:LF Empty Int :=.z0 264 [.t 2] wI
def tY:=λa0=>Ll.run (yG a0)
def iE(a0){r}(h:tY a0=some r):Fn PR 264 [wI a0] (wI r):=Ll.fn h
def F5(a0:Int)(a1:Int):LT Empty Int:=
.call (iE a0) λx1=>.call (iE a1) λx3=>.call (iE (IntKind.wrap .i64 (x1-x3))) λx7=>.rt x7
def Lm:LF Empty Int :=.z0 263 [.t 4] wI
def F4:=λa0 a1=>Lm.run (F5 a0 a1)
def Zb5(a0)(a1){r}(h:F4 a0 a1=some r):Fn PR 263 [wI a0,wI a1] (wI r):=Lm.fn h
def F8(a0:A3 Int):LT Empty Int:=
.lb 1001<|.idA (U.int .i64) (A3.list a0) 0 (bx ((cA3 (cI .i64)) a0)) 0 3 λx1=>.ldC (U.int .i64) 4 x1 0<|.idA (U.int .i64) (A3.list a0) 1 (bx ((cA3 (cI .i64)) a0)) 0 3 λx3=>.ldC (U.int .i64) 6 x3 1<|.call (Zb5 x1 x3) λx5=>.rt x5
def Ln:LF Empty Int :=.z0 199 [.t 2] wI
def F7:=λa0=>Ln.run (F8 a0)
def Zb6(a0){r}(h:F7 a0=some r):Fn PR 199 [wA ((cA3 (cI .i64)) a0)] (wI r):=Ln.fn h
def yH(a0:Int)(a1:Int):LT Empty Int:=
.call (iE a0) λx1=>.call (iE a1) λx3=>.call (iE (IntKind.wrap .i64 (x1+x3))) λx7=>.rt x7
def Lo:LF Empty Int :=.z0 200 [.t 4] wI
def ua:=λa0 a1=>Lo.run (yH a0 a1)
def qS(a0)(a1){r}(h:ua a0 a1=some r):Fn PR 200 [wI a0,wI a1] (wI r):=Lo.fn h
inductive lx where
 |L0 (v0:Int) (v3:Int) (v6:Bool)
 |L1 (v0:Int) (v3:Int) (v11:Bool)
 |L2 (v0:Int) (v3:Int) (v14:Bool)
def nj(v0:Int)(v3:Int)(v14:Bool):LT lx Int:=
.br v14 (.rt 4)<|.br (v3==11) (.kn [2]<|.rt (IntKind.wrap .i64 ((IntKind.wrap .i64 (5+v0))-11)))<|.br (v3==12) (.kn [3]<|.rt (IntKind.wrap .i64 ((IntKind.wrap .i64 (5+v0))-11)))<|.br (v3==13) (.kn [4]<|.rt (IntKind.wrap .i64 ((IntKind.wrap .i64 (5+v0))-11)))<|.br (v3==14) (.rt (IntKind.wrap .i64 ((IntKind.wrap .i64 (5+v0))-11)))<|.rt 0
def pG(v0:Int)(v3:Int)(v11:Bool):LT lx Int:=
.br v11 (.rt 3)<|.br (v3==8) (.j0 (.L2 v0 v3 (v3==8)) (nj v0 v3 (v3==8)))<|.br (v3==9) (.j0 (.L2 v0 v3 (v3==9)) (nj v0 v3 (v3==9)))<|.j0 (.L2 v0 v3 (v3==10)) (nj v0 v3 (v3==10))
def ly(v0:Int)(v3:Int)(v6:Bool):LT lx Int:=
.br v6 (.rt 2)<|.br (v3==6) (.j0 (.L1 v0 v3 (v3==6)) (pG v0 v3 (v3==6)))<|.j0 (.L1 v0 v3 (v3==7)) (pG v0 v3 (v3==7))
def Ga(a0:Int):LT lx Int:=
.br (a0==1) (.rt 1)<|.br (a0==2) (.j0 (.L0 a0 a0 (a0==2)) (ly a0 a0 (a0==2)))<|.br (a0==3) (.j0 (.L0 a0 a0 (a0==3)) (ly a0 a0 (a0==3)))<|.br (a0==4) (.j0 (.L0 a0 a0 (a0==4)) (ly a0 a0 (a0==4)))<|.j0 (.L0 a0 a0 (a0==5)) (ly a0 a0 (a0==5))
def Lp:LF lx Int :=.m0 203 [.t 2] wI λ|.L0 v0 v3 v6=>([1,0,1,4,1,3,1],⟨26,[(0,wI v0),(3,wI v3),(6,wB v6)],[]⟩,ly v0 v3 v6)|.L1 v0 v3 v11=>([1,0,1,4,1,3,1,3,1],⟨26,[(0,wI v0),(3,wI v3),(11,wB v11)],[]⟩,pG v0 v3 v11)|.L2 v0 v3 v14=>([1,0,1,4,1,3,1,3,1,3,1],⟨26,[(0,wI v0),(3,wI v3),(14,wB v14)],[]⟩,nj v0 v3 v14)
def F9:=λa0=>Lp.run (Ga a0)
def va(a0){r}(h:F9 a0=some r):Fn PR 203 [wI a0] (wI r):=Lp.fn h
def Gc(a0:ai)(b0:Int):LT Empty Bool:=
.lb 1002<|.call (va a0.Kind) λx1=>.rt (x1==b0)
def Lq(b0:Int):LF Empty Bool :=.z 202 [.t 3] true (λr=>[(0,.box (bx ((cI .i64) b0)))]) (λr=>(wB r))
def Gb(a0:ai)(b0:Int):Option Bool:=(Lq b0).run (Gc a0 b0)
def Z7w(a0:ai)(b0:Int){r:Bool}(h:Gb a0 b0=some r):FnG PR 202 [(0,.box (bx ((cI .i64) b0)))] [wA (aF a0),.bptr 0 0] [(0,.box (bx ((cI .i64) b0)))] (wB r):=(Lq b0).fn h
inductive pH where
 |L0 (v0:List ai) (c0:Int) (v7:Int) (v8:Int)
def Gg(v0:List ai)(c0:Int)(v7:Int)(v8:Int):LT pH (Int×Int):=
.br (decide (v8<v7)) (.idx aF v0 v8 λx2=>.callO (Z7w x2 c0) [0] 170000 (λx=>[]) λx4=>.br x4 (.rt (v8,c0))<|.g0 (.L0 v0 c0 v7 (IntKind.wrap .i64 (v8+1))))<|.rt ((-1),c0)
def Gf(a0:List ai)(b0:Int):LT pH (Int×Int):=
.len aF a0<|.g0 (.L0 a0 b0 (a0.length:Int) 0)
def yK:LF pH (Int×Int) :=.m 265 [.t 4] true (λr=>[(0,.box (bx ((cI .i64) r.2)))]) (λr=>(wI r.1)) λ|.L0 v0 c0 v7 v8=>([1,0,1,4],⟨19,[(0,wL aF v0),(1,.fn 202 [.bptr 0 0]),(7,wI v7),(8,wI v8)],[(0,.box (bx ((cI .i64) c0)))]⟩,Gg v0 c0 v7 v8)
def Ge:=λa0 b0=>yK.run (Gf a0 b0)
def Zb7(a0)(b0){r}(h:Ge a0 b0=some r):FnG PR 265 [(0,.box (bx ((cI .i64) b0)))] [wL aF a0,.fn 202 [.bptr 0 0]] [(0,.box (bx ((cI .i64) r.2)))] (wI r.1):=yK.fn h
def Gi(a0:List ai)(b0:Int):LT Empty (Bool×Int):=
.callU (Zb7 a0 b0) [0] 80000 λx1=>.rt (decide (x1.1>=0),x1.2)
def Lr:LF Empty (Bool×Int) :=.z 201 [.t 4] true (λr=>[(0,.box (bx ((cI .i64) r.2)))]) (λr=>(wB r.1))
def Gh:=λa0 b0=>Lr.run (Gi a0 b0)
def Zb8(a0)(b0){r}(h:Gh a0 b0=some r):FnG PR 201 [(0,.box (bx ((cI .i64) b0)))] [wL aF a0,.fn 202 [.bptr 0 0]] [(0,.box (bx ((cI .i64) r.2)))] (wB r.1):=Lr.fn h
def Gk(a0:cU)(a1:Int):LT Empty Bool:=
.lb 1002<|.lb 1003<|.callU (Zb8 a0.Mods a1) [1003] 90000 λx1=>.rt x1.1
def Ls:LF Empty Bool :=.z0 156 [.t 4] wB
def Gj:=λa0 a1=>Ls.run (Gk a0 a1)
def Zb9(a0)(a1){r}(h:Gj a0 a1=some r):Fn PR 156 [wA (cF a0),wI a1] (wB r):=Ls.fn h
inductive pI where
 |L0 (v1:Int) (E0:aj) (v5:Bool)
def pJ(v1:Int)(E0:aj)(v5:Bool):LT pI Bool:=
.br (v1==1) (.rt (E0.Who != 0))<|.br (v1==2) (.cs ((bJ .or .i64 E0.Types E0.NotTypes) != 0) (.k4 2<|.b2 true<|.rt true)<|.k4 2<|.cs (!(E0.Sub==([]:By))) (.k2 3<|.rt true)<|.k2 3<|.rt v5)<|.br (v1==3) (.rt ((bJ .or .i64 E0.Colors E0.NotColors) != 0))<|.br (v1==4) (.rt (E0.Keys != 0))<|.rt v5
def Z5y(a0:aj)(a1:Int):LT pI Bool:=
.lb 1002<|.cs (a0.Power.Kind != 0) (.k5 0<|.jn 0 (.L0 a1 a0 true) [.relab 1002 3000] (pJ a1 a0 true))<|.k5 0<|.jn 0 (.L0 a1 a0 (a0.Tough.Kind != 0)) [.relab 1002 3000] (pJ a1 a0 (a0.Tough.Kind != 0))
def Z5z:LF pI Bool :=.m0 271 [.t 4] wB λ|.L0 v1 E0 v5=>([1,1],⟨52,[(1,wI v1),(2,.bptr 3000 0),(5,wB v5)],[(3000,.box (bx (bf E0)))]⟩,pJ v1 E0 v5)
def Gn:=λa0 a1=>Z5z.run (Z5y a0 a1)
def Z3g(a0)(a1){r}(h:Gn a0 a1=some r):Fn PR 271 [wA (bf a0),wI a1] (wB r):=Z5z.fn h
def Gq(a0:ak)(a1:Int):LT Empty Int:=
.lb 1002<|.call (Z0f a0.Id a1) λx1=>.rt x1
def Lt:LF Empty Int :=.z0 309 [.t 4] wI
def Gp:=λa0 a1=>Lt.run (Gq a0 a1)
def Z7x(a0)(a1){r}(h:Gp a0 a1=some r):Fn PR 309 [wA (aC a0),wI a1] (wI r):=Lt.fn h
inductive pK where
 |L0 (v0:List ak) (v1:Int) (v8:Int) (v9:Int) (v10:Int)
def Gv(v0:List ak)(v1:Int)(v8:Int)(v9:Int)(v10:Int):LT pK (Int×Bool):=
.br (decide (v9<v10)) (.dc (¬(1:Int)<0) rfl<|.idx aC v0 (IntKind.wrap .i64 (shrI .u64 (IntKind.wrap .u64 (IntKind.wrap .i64 (v9+v10))) 1)) λx7=>.call (Z7x x7 v1) λx9=>.br (decide (x9<0)) (.g0 (.L0 v0 v1 v8 (IntKind.wrap .i64 ((IntKind.wrap .i64 (shrI .u64 (IntKind.wrap .u64 (IntKind.wrap .i64 (v9+v10))) 1))+1)) v10))<|.g0 (.L0 v0 v1 v8 v9 (IntKind.wrap .i64 (shrI .u64 (IntKind.wrap .u64 (IntKind.wrap .i64 (v9+v10))) 1))))<|.cs (decide (v9<v8)) (.k4 1<|.idx aC v0 v9 λx15=>.k3 1<|.call (Z7x x15 v1) λx17=>.k2 1<|.rt (v9,x17==0))<|.k8 1<|.kg 1<|.rt (v9,false)
def Gu(a0:List ak)(a1:Int):LT pK (Int×Bool):=
.len aC a0<|.g0 (.L0 a0 a1 (a0.length:Int) 0 (a0.length:Int))
def yM:LF pK (Int×Bool) :=.m0 308 [.t 6,.t 7] (λr=>(.tup [wI r.1,wB r.2])) λ|.L0 v0 v1 v8 v9 v10=>([1,1,1,0,4],⟨49,[(0,wL aC v0),(1,wI v1),(2,.fn 309 []),(8,wI v8),(9,wI v9),(10,wI v10)],[]⟩,Gv v0 v1 v8 v9 v10)
def Gt:=λa0 a1=>yM.run (Gu a0 a1)
def Zca(a0)(a1){r}(h:Gt a0 a1=some r):Fn PR 308 [wL aC a0,wI a1,.fn 309 []] (.tup [wI r.1,wB r.2]):=yM.fn h
def Gz(a0:ab)(a1:Int):LT Empty Int:=
.lb 1002<|.call (Zca a0.Objects a1) λx1=>.br (!x1.2) (.rt (-1))<|.rt x1.1
def Lu:LF Empty Int :=.z0 276 [.t 4] wI
def Gy:=λa0 a1=>Lu.run (Gz a0 a1)
def Lv(a0)(a1){r}(h:Gy a0 a1=some r):Fn PR 276 [wA (aH a0),wI a1] (wI r):=Lu.fn h
def Z7y(a0:Int)(a1:Int):LT Empty Bool:=
.cs (decide (a0>=0)) (.k4 0<|.rt (decide (a0<=a1)))<|.k4 0<|.rt false
def Z7z:LF Empty Bool :=.z0 301 [.t 4] wB
def Z1g:=λa0 a1=>Z7z.run (Z7y a0 a1)
def iF(a0)(a1){r}(h:Z1g a0 a1=some r):Fn PR 301 [wI a0,wI a1] (wB r):=Z7z.fn h
inductive mR where
 |L0 (v36:List Int) (v37:Int) (v38:Int)
def mS(v36:List Int)(v37:Int)(v38:Int):LT mR Bool:=
.br (decide (v38<v37)) (.idx (cI .u8) v36 v38 λx2=>.cs (decide (x2<97)) (.k3 1<|.b3 true<|.cs (decide (x2<48)) (.k2 2<|.kb true<|.kg 2<|.b4 true<|.br (x2 != 45) (.rt false)<|.g0 (.L0 v36 v37 (IntKind.wrap .i64 (v38+1))))<|.k2 2<|.kb true<|.kg 2<|.kb true<|.cs (decide (x2>57)) (.k3 3<|.br (x2 != 45) (.rt false)<|.g0 (.L0 v36 v37 (IntKind.wrap .i64 (v38+1))))<|.k3 3<|.kn [0]<|.g0 (.L0 v36 v37 (IntKind.wrap .i64 (v38+1))))<|.k3 1<|.cs (decide (x2>122)) (.k3 2<|.cs (decide (x2<48)) (.k2 3<|.kg 2<|.kg 3<|.kg 2<|.b3 true<|.br (x2 != 45) (.rt false)<|.g0 (.L0 v36 v37 (IntKind.wrap .i64 (v38+1))))<|.k2 3<|.kg 2<|.kg 3<|.kg 2<|.cs (decide (x2>57)) (.k3 4<|.br (x2 != 45) (.rt false)<|.g0 (.L0 v36 v37 (IntKind.wrap .i64 (v38+1))))<|.k3 4<|.kn [0]<|.g0 (.L0 v36 v37 (IntKind.wrap .i64 (v38+1))))<|.k5 2<|.b3 false<|.kn [0]<|.g0 (.L0 v36 v37 (IntKind.wrap .i64 (v38+1))))<|.rt true
def xw(a0:By):LT mR Bool:=
.lenS a0<|.cs ((a0.length:Int)==0) (.k4 0<|.b16 true<|.b2 true<|.kn [0]<|.rt false)<|.k2 0<|.lenS a0<|.k2 0<|.cs (decide ((a0.length:Int)>32)) (.k4 1<|.b8 true<|.b5 true<|.kb true<|.kn [0]<|.rt false)<|.k2 1<|.idxS a0 0 λx4=>.k2 1<|.cs (decide ((UInt8.toNat x4:Int)<97)) (.k4 2<|.b8 true<|.b2 true<|.kn [0]<|.rt false)<|.k2 2<|.idxS a0 0 λx7=>.k2 2<|.cs (decide ((UInt8.toNat x7:Int)>122)) (.k5 3<|.k2 3<|.b3 true<|.kn [0]<|.rt false)<|.k3 3<|.lenS a0<|.k2 3<|.idxS a0 (IntKind.wrap .i64 ((a0.length:Int)-1)) λx12=>.k2 3<|.cs ((UInt8.toNat x12:Int)==45) (.k3 4<|.kn [0]<|.rt false)<|.k2 4<|.call (Zcb a0 ([45,45]:By)) λx15=>.kg 4<|.br x15 (.rt false)<|.bys a0 λx18=>.len (cI .u8) x18<|.g0 (.L0 x18 (x18.length:Int) 0)
def mQ:LF mR Bool :=.m0 323 [.t 2] wB λ|.L0 v36 v37 v38=>([1,1,0,1,4],⟨61,[(36,wL (cI .u8) v36),(37,wI v37),(38,wI v38)],[]⟩,mS v36 v37 v38)
def sU:=λa0=>mQ.run (xw a0)
def Zcc(a0){r}(h:sU a0=some r):Fn PR 323 [wS a0] (wB r):=mQ.fn h
def Z70(a0:Int):LT Empty (By):=
.idX U.str (A2.list (⟨([98,97,115,105,99]:By),([117,110,105,113,117,101]:By)⟩:A2 (By))) a0 λx1=>.rt x1
def xB:LF Empty (By) :=.z0 325 [.t 2] wS
def s0:=λa0=>xB.run (Z70 a0)
def Zcd(a0){r}(h:s0 a0=some r):Fn PR 325 [wI a0] (wS r):=xB.fn h
def DO(a0:Int):LT Empty (By):=
.idX U.str (A6.list (⟨([99,114,101,97,116,117,114,101]:By),([105,110,115,116,97,110,116]:By),([114,105,116,117,97,108]:By),([114,101,108,105,99]:By),([99,104,97,114,109]:By),([108,97,110,100]:By)⟩:A6 (By))) a0 λx1=>.rt x1
def xD:LF Empty (By) :=.z0 326 [.t 2] wS
def s5:=λa0=>xD.run (DO a0)
def Zce(a0){r}(h:s5 a0=some r):Fn PR 326 [wI a0] (wS r):=xD.fn h
inductive pL where
 |L0 (v0:By) (v8:Int) (v9:Int)
def oG(v0:By)(v8:Int)(v9:Int):LT pL Int:=
.br (decide (v9<v8)) (.call (Zcd v9) λx2=>.br (!(x2==v0)) (.g0 (.L0 v0 v8 (IntKind.wrap .i64 (v9+1))))<|.ok (¬v9<0)<|.rt (Z65 .i64 1 v9))<|.rt 0
def xA(a0:By)(a1:Int):LT pL Int:=
.g0 (.L0 a0 a1 0)
def sZ:LF pL Int :=.m0 324 [.t 6] wI λ|.L0 v0 v8 v9=>([1,6,1,0,1,4],⟨20,[(0,wS v0),(2,.fn 325 []),(8,wI v8),(9,wI v9)],[]⟩,oG v0 v8 v9)
def sY:=λa0 a1=>sZ.run (xA a0 a1)
def Z3h(a0)(a1){r}(h:sY a0 a1=some r):Fn PR 324 [wS a0,wI a1,.fn 325 []] (wI r):=sZ.fn h
inductive pM where
 |L0 (v0:By) (v8:Int) (v9:Int)
def oH(v0:By)(v8:Int)(v9:Int):LT pM Int:=
.br (decide (v9<v8)) (.call (Zce v9) λx2=>.br (!(x2==v0)) (.g0 (.L0 v0 v8 (IntKind.wrap .i64 (v9+1))))<|.ok (¬v9<0)<|.rt (Z65 .i64 1 v9))<|.rt 0
def xC(a0:By)(a1:Int):LT pM Int:=
.g0 (.L0 a0 a1 0)
def s4:LF pM Int :=.m0 324 [.t 6] wI λ|.L0 v0 v8 v9=>([1,6,1,0,1,4],⟨20,[(0,wS v0),(2,.fn 326 []),(8,wI v8),(9,wI v9)],[]⟩,oH v0 v8 v9)
def s3:=λa0 a1=>s4.run (xC a0 a1)
def Z4l(a0)(a1){r}(h:s3 a0 a1=some r):Fn PR 324 [wS a0,wI a1,.fn 326 []] (wI r):=s4.fn h
def Z71(a0:By):LT Empty Bool:=
.call (Zcc a0) λx1=>.cs x1 (.k2 0<|.call (Z3h a0 2) λx4=>.k2 0<|.cs (x4==0) (.k2 1<|.call (Z4l a0 6) λx7=>.k2 1<|.rt (x7==0))<|.k4 1<|.rt false)<|.k4 0<|.b4 false<|.rt false
def Lw:LF Empty Bool :=.z0 302 [.t 2] wB
def Z6k:=λa0=>Lw.run (Z71 a0)
def Z4m(a0){r}(h:Z6k a0=some r):Fn PR 302 [wS a0] (wB r):=Lw.fn h
def Z72(a0:ae):LT Empty Bool:=
.lb 1001<|.call (iF a0.Kind 3) λx1=>.cs x1 (.k3 0<|.call (iF a0.N 1000000) λx4=>.kg 0<|.cs x4 (.k4 1<|.cs (a0.Kind != 0) (.k3 2<|.kg 1<|.kg 2<|.kg 1<|.rt true)<|.k3 2<|.kg 1<|.kg 2<|.kg 1<|.rt (a0.N==0))<|.k5 1<|.kg 1<|.rt false)<|.k4 0<|.b5 false<|.kb false<|.rt false
def Z73:LF Empty Bool :=.z0 303 [.t 2] wB
def Z1h:=λa0=>Z73.run (Z72 a0)
def Av(a0){r}(h:Z1h a0=some r):Fn PR 303 [wA (e9 a0)] (wB r):=Z73.fn h
inductive Z2c where
 |L0 (E0:aj)
def oJ(E0:aj):LT Z2c Bool:=
.call (Av E0.Power) λx1=>.cs x1 (.k3 0<|.call (Av E0.Tough) λx4=>.kg 0<|.cs x4 (.k3 1<|.call (Av E0.Value) λx7=>.kg 1<|.rt x7)<|.k4 1<|.rt false)<|.k4 0<|.b4 false<|.rt false
def DU(a0:aj):LT Z2c Bool:=
.lb 1001<|.call (iF a0.Zone 5) λx1=>.cs (!x1) (.k5 0<|.b8 true<|.b5 true<|.b2 true<|.kn [0]<|.rt false)<|.k3 0<|.call (iF a0.Who 2) λx4=>.k2 0<|.cs (!x4) (.k5 1<|.b8 true<|.b2 true<|.kn [0]<|.rt false)<|.k3 1<|.call (iF a0.Self 2) λx7=>.k2 1<|.cs (!x7) (.k5 2<|.b5 true<|.kn [0]<|.rt false)<|.k3 2<|.call (iF a0.Tap 2) λx10=>.k2 2<|.cs (!x10) (.k5 3<|.kn [0]<|.rt false)<|.k3 3<|.call (iF a0.Keys 131071) λx13=>.k2 3<|.br (!x13) (.rt false)<|.call (iF a0.Types 63) λx16=>.cs (!x16) (.k5 5<|.b5 true<|.b2 true<|.kn [0]<|.rt false)<|.k3 5<|.call (iF a0.NotTypes 63) λx19=>.k2 5<|.cs (!x19) (.k5 6<|.k2 6<|.kn [0]<|.rt false)<|.k5 6<|.k2 6<|.br ((bJ .and .i64 a0.Types a0.NotTypes) != 0) (.rt false)<|.call (iF a0.Colors 31) λx23=>.cs (!x23) (.k5 8<|.b5 true<|.b2 true<|.kn [0]<|.rt false)<|.k3 8<|.call (iF a0.NotColors 31) λx26=>.k2 8<|.cs (!x26) (.k5 9<|.k2 9<|.kn [0]<|.rt false)<|.k5 9<|.k2 9<|.br ((bJ .and .i64 a0.Colors a0.NotColors) != 0) (.rt false)<|.cs (!(a0.Sub==([]:By))) (.k3 11<|.call (Z4m a0.Sub) λx31=>.k2 11<|.br (!x31) (.rt false)<|.jn 0 (.L0 a0) [.relab 1001 3000] (oJ a0))<|.k5 11<|.kn [0]<|.jn 0 (.L0 a0) [.relab 1001 3000] (oJ a0)
def oK:LF Z2c Bool :=.m0 254 [.t 2] wB λ|.L0 E0=>([1,1,1,1,1],⟨89,[(1,.bptr 3000 0)],[(3000,.box (bx (bf E0)))]⟩,oJ E0)
def s8:=λa0=>oK.run (DU a0)
def Lx(a0){r}(h:s8 a0=some r):Fn PR 254 [wA (bf a0)] (wB r):=oK.fn h
def yN(a0:Int)(a1:Int)(a2:Int):LT Empty Bool:=
.cs (a1==0) (.k5 0<|.b5 true<|.rt ((bJ .and .i64 a0 a2)==0))<|.k5 0<|.cs ((bJ .and .i64 a0 a1) != 0) (.k5 1<|.rt ((bJ .and .i64 a0 a2)==0))<|.k5 1<|.rt false
def Z74:LF Empty Bool :=.z0 255 [.t 6] wB
def uh:=λa0 a1 a2=>Z74.run (yN a0 a1 a2)
def Z50(a0)(a1)(a2){r}(h:uh a0 a1 a2=some r):Fn PR 255 [wI a0,wI a1,wI a2] (wB r):=Z74.fn h
def yO(a0:ae)(a1:Int):LT Empty Bool:=
.lb 1002<|.br (a0.Kind==0) (.rt true)<|.br (a0.Kind==1) (.rt (decide (a1>=a0.N)))<|.br (a0.Kind==2) (.rt (decide (a1<=a0.N)))<|.br (a0.Kind==3) (.rt (a1==a0.N))<|.rt false
def Ly:LF Empty Bool :=.z0 257 [.t 4] wB
def ui:=λa0 a1=>Ly.run (yO a0 a1)
def Lz(a0)(a1){r}(h:ui a0 a1=some r):Fn PR 257 [wA (e9 a0),wI a1] (wB r):=Ly.fn h
inductive k7 where
 |L0 (v0:Bys) (v1:By) (v7:Int) (v8:Int)
def mW(v0:Bys)(v1:By)(v7:Int)(v8:Int):LT k7 Int:=
.br (decide (v8<v7)) (.idx cS v0 v8 λx2=>.br (v1==x2) (.rt v8)<|.g0 (.L0 v0 v1 v7 (IntKind.wrap .i64 (v8+1))))<|.rt (-1)
def xL(a0:Bys)(a1:By):LT k7 Int:=
.len cS a0<|.g0 (.L0 a0 a1 (a0.length:Int) 0)
def oI:LF k7 Int :=.m0 327 [.t 4] wI λ|.L0 v0 v1 v7 v8=>([1,0,1,4],⟨19,[(0,wL cS v0),(1,wS v1),(7,wI v7),(8,wI v8)],[]⟩,mW v0 v1 v7 v8)
def xK:=λa0 a1=>oI.run (xL a0 a1)
def Zcf(a0)(a1){r}(h:xK a0 a1=some r):Fn PR 327 [wL cS a0,wS a1] (wI r):=oI.fn h
def xJ(a0:Bys)(a1:By):LT Empty Bool:=
.call (Zcf a0 a1) λx1=>.rt (decide (x1>=0))
def LA:LF Empty Bool :=.z0 304 [.t 4] wB
def xI:=λa0 a1=>LA.run (xJ a0 a1)
def Zcg(a0)(a1){r}(h:xI a0 a1=some r):Fn PR 304 [wL cS a0,wS a1] (wB r):=LA.fn h
def Z4n(a0:cf)(a1:By):LT Empty Bool:=
.lb 1002<|.call (Zcg a0.Subs a1) λx1=>.rt x1
def LB:LF Empty Bool :=.z0 258 [.t 4] wB
def Z2d:=λa0 a1=>LB.run (Z4n a0 a1)
def LC(a0)(a1){r}(h:Z2d a0 a1=some r):Fn PR 258 [wA (jd a0),wS a1] (wB r):=LB.fn h
def GN(a0:Int)(a1:Int):LT Empty Bool:=
.rt ((bJ .and .i64 a0 a1)==a1)
def LD:LF Empty Bool :=.z0 197 [.t 4] wB
def yQ:=λa0 a1=>LD.run (GN a0 a1)
def Z1i(a0)(a1){r}(h:yQ a0 a1=some r):Fn PR 197 [wI a0,wI a1] (wB r):=LD.fn h
def yR(a0:Int)(a1:Int):LT Empty Int:=
.call (iE a0) λx1=>.call (iE a1) λx3=>.call (iE (IntKind.wrap .i64 (x1*x3))) λx7=>.rt x7
def LG:LF Empty Int :=.z0 306 [.t 4] wI
def uj:=λa0 a1=>LG.run (yR a0 a1)
def Zch(a0)(a1){r}(h:uj a0 a1=some r):Fn PR 306 [wI a0,wI a1] (wI r):=LG.fn h
inductive pN where
 |L0 (v1:Int) (E0:Z4) (v5:Int) (v14:A5 Int) (v15:Int)
def nm(v1:Int)(E0:Z4)(v5:Int)(v14:A5 Int)(v15:Int):LT pN Int:=
.br (decide (v15<5)) (.idX (U.int .i64) (A5.list v14) v15 λx2=>.g0 (.L0 v1 E0 (IntKind.wrap .i64 (v5+x2)) v14 (IntKind.wrap .i64 (v15+1))))<|.call (Zch E0.X (maxI 0 v1)) λx8=>.call (qS v5 x8) λx10=>.rt x10
def Z75(a0:Z4)(a1:Int):LT pN Int:=
.lb 1002<|.call (Li a0) λx1=>.br (!x1) (.rt 0)<|.go (.L0 a1 a0 a0.Generic a0.Color 0) [.relab 1002 3000]
def pO:LF pN Int :=.m0 259 [.t 4] wI λ|.L0 v1 E0 v5 v14 v15=>([1,1,1,0,1,4],⟨29,[(1,wI v1),(2,.bptr 3000 0),(5,wI v5),(14,wA ((cA5 (cI .i64)) v14)),(15,wI v15)],[(3000,.box (bx (cJ E0)))]⟩,nm v1 E0 v5 v14 v15)
def Z6l:=λa0 a1=>pO.run (Z75 a0 a1)
def Zci(a0)(a1){r}(h:Z6l a0 a1=some r):Fn PR 259 [wA (cJ a0),wI a1] (wI r):=pO.fn h
def yS(a0:ae)(a1:Int)(b0:Bool):LT Empty Bool:=
.lb 1003<|.cs (a0.Kind==0) (.k4 0<|.rt true)<|.k2 0<|.cs b0 (.k3 1<|.call (Lz a0 a1) λx3=>.kg 0<|.kg 1<|.kg 0<|.rt x3)<|.k3 1<|.kg 0<|.kg 1<|.kg 0<|.rt false
def LH(b0:Bool):LF Empty Bool :=.z 256 [.t 5] true (λr=>[(0,.box (bx (cB b0)))]) (λr=>(wB r))
def uk(a0:ae)(a1:Int)(b0:Bool):Option Bool:=(LH b0).run (yS a0 a1 b0)
def LI(a0:ae)(a1:Int)(b0:Bool){r:Bool}(h:uk a0 a1 b0=some r):FnG PR 256 [(0,.box (bx (cB b0)))] [wA (e9 a0),wI a1,.bptr 0 0] [(0,.box (bx (cB b0)))] (wB r):=(LH b0).fn h
inductive jC where
 |L0 (v3:Int) (E0:ak) (E1:ah) (E2:aj) (E3:Bool) (v30:Bool)
 |L1 (E0:ak) (E1:ah) (E2:aj) (E3:Bool) (v49:Bool)
 |L2 (E0:ak) (E1:ah) (E2:aj) (E3:Bool) (v68:Bool)
 |L3 (E0:ak) (E1:ah) (E2:aj) (E3:Bool) (v88:Bool)
 |L4 (E0:ah) (E1:aj) (E2:Bool)
def jD(E0:ah)(E1:aj)(E2:Bool):LT jC Bool:=
.callO (LI E1.Power E0.Power E2) [3002] 1280000 (λx=>[]) λx1=>.cs x1 (.k5 0<|.kg 0<|.callO (LI E1.Tough E0.Tough E2) [3002] 1350000 (λx=>[]) λx4=>.kg 0<|.cs x4 (.k5 1<|.call (Zci E0.Cost 0) λx7=>.kg 1<|.call (Lz E1.Value x7) λx9=>.kg 1<|.rt x9)<|.k5 1<|.k2 1<|.rt false)<|.k5 0<|.k2 0<|.b5 false<|.b2 false<|.rt false
def km(E0:ak)(E1:ah)(E2:aj)(E3:Bool)(v88:Bool):LT jC Bool:=
.br v88 (.rt false)<|.cs (E2.Tap==1) (.k4 1<|.br (!E0.Tapped) (.kn [3]<|.rt false)<|.cs (E2.Tap==2) (.k3 3<|.br E0.Tapped (.rt false)<|.jn 0 (.L4 E1 E2 E3) (tm19 3000) (jD E1 E2 E3))<|.k3 3<|.kn [0]<|.jn 0 (.L4 E1 E2 E3) (tm19 3000) (jD E1 E2 E3))<|.k4 1<|.kn [0]<|.cs (E2.Tap==2) (.k3 2<|.br E0.Tapped (.rt false)<|.jn 0 (.L4 E1 E2 E3) (tm19 3000) (jD E1 E2 E3))<|.k3 2<|.kn [0]<|.jn 0 (.L4 E1 E2 E3) (tm19 3000) (jD E1 E2 E3)
def lA(E0:ak)(E1:ah)(E2:aj)(E3:Bool)(v68:Bool):LT jC Bool:=
.br v68 (.rt false)<|.cs (!(E2.Sub==([]:By))) (.k5 1<|.call (LC E1.Line E2.Sub) λx3=>.k2 1<|.br (!x3) (.j0 (.L3 E0 E1 E2 E3 (!x3)) (km E0 E1 E2 E3 (!x3)))<|.call (Z1i E1.Keys E2.Keys) λx6=>.j0 (.L3 E0 E1 E2 E3 (!x6)) (km E0 E1 E2 E3 (!x6)))<|.k5 1<|.k2 1<|.kn [0]<|.call (Z1i E1.Keys E2.Keys) λx8=>.j0 (.L3 E0 E1 E2 E3 (!x8)) (km E0 E1 E2 E3 (!x8))
def iY(E0:ak)(E1:ah)(E2:aj)(E3:Bool)(v49:Bool):LT jC Bool:=
.br v49 (.rt false)<|.call (Z50 E1.Line.Types E2.Types E2.NotTypes) λx2=>.br (!x2) (.j0 (.L2 E0 E1 E2 E3 (!x2)) (lA E0 E1 E2 E3 (!x2)))<|.call (Z50 E1.Colors E2.Colors E2.NotColors) λx5=>.j0 (.L2 E0 E1 E2 E3 (!x5)) (lA E0 E1 E2 E3 (!x5))
def ga(v3:Int)(E0:ak)(E1:ah)(E2:aj)(E3:Bool)(v30:Bool):LT jC Bool:=
.br v30 (.rt false)<|.cs (E2.Self==1) (.k5 1<|.br (E0.Id != v3) (.j0 (.L1 E0 E1 E2 E3 (E0.Id != v3)) (iY E0 E1 E2 E3 (E0.Id != v3)))<|.cs (E2.Self==2) (.k5 3<|.j0 (.L1 E0 E1 E2 E3 (E0.Id==v3)) (iY E0 E1 E2 E3 (E0.Id==v3)))<|.k5 3<|.j0 (.L1 E0 E1 E2 E3 false) (iY E0 E1 E2 E3 false))<|.k5 1<|.kn [0]<|.cs (E2.Self==2) (.k5 2<|.j0 (.L1 E0 E1 E2 E3 (E0.Id==v3)) (iY E0 E1 E2 E3 (E0.Id==v3)))<|.k5 2<|.j0 (.L1 E0 E1 E2 E3 false) (iY E0 E1 E2 E3 false)
def Z1j(a0:ak)(a1:ah)(a2:Int)(a3:Int)(a4:aj):LT jC Bool:=
.lb 1005<|.lb 1006<|.lb 1009<|.call (Lx a4) λx1=>.cs (!x1) (.k5 0<|.kg 0<|.kn [0]<|.rt false)<|.k5 0<|.kg 0<|.br (a0.Zone != a4.Zone) (.rt false)<|.lb 1011<|.cs (a4.Who==1) (.k5 2<|.br (a1.Control != a2) (.jn 0 (.L0 a3 a0 a1 a4 ((bJ .and .i64 a1.Line.Types 1) != 0) (a1.Control != a2)) (tm21 1000 3000) (ga a3 a0 a1 a4 ((bJ .and .i64 a1.Line.Types 1) != 0) (a1.Control != a2)))<|.cs (a4.Who==2) (.k5 4<|.jn 0 (.L0 a3 a0 a1 a4 ((bJ .and .i64 a1.Line.Types 1) != 0) (a1.Control==a2)) (tm21 1000 3000) (ga a3 a0 a1 a4 ((bJ .and .i64 a1.Line.Types 1) != 0) (a1.Control==a2)))<|.k5 4<|.jn 0 (.L0 a3 a0 a1 a4 ((bJ .and .i64 a1.Line.Types 1) != 0) false) (tm21 1000 3000) (ga a3 a0 a1 a4 ((bJ .and .i64 a1.Line.Types 1) != 0) false))<|.k5 2<|.kn [0]<|.cs (a4.Who==2) (.k5 3<|.jn 0 (.L0 a3 a0 a1 a4 ((bJ .and .i64 a1.Line.Types 1) != 0) (a1.Control==a2)) (tm21 1000 3000) (ga a3 a0 a1 a4 ((bJ .and .i64 a1.Line.Types 1) != 0) (a1.Control==a2)))<|.k5 3<|.jn 0 (.L0 a3 a0 a1 a4 ((bJ .and .i64 a1.Line.Types 1) != 0) false) (tm21 1000 3000) (ga a3 a0 a1 a4 ((bJ .and .i64 a1.Line.Types 1) != 0) false)
def lQ:LF jC Bool :=.m0 193 [.t 10] wB λ|.L0 v3 E0 E1 E2 E3 v30=>([1,1,1,1,1,0,4,1],⟨144,[(3,wI v3),(5,.bptr 3000 0),(6,.bptr 3001 0),(9,.bptr 3002 0),(12,.fn 255 []),(13,.fn 256 [.bptr 3003 0]),(30,wB v30)],[(3000,.box (bx (aC E0))),(3001,.box (bx (ay E1))),(3002,.box (bx (bf E2))),(3003,.box (bx (cB E3)))]⟩,ga v3 E0 E1 E2 E3 v30)|.L1 E0 E1 E2 E3 v49=>([1,1,1,1,1,0,4,1,3,1],⟨144,[(5,.bptr 3000 0),(6,.bptr 3001 0),(9,.bptr 3002 0),(12,.fn 255 []),(13,.fn 256 [.bptr 3003 0]),(49,wB v49)],[(3000,.box (bx (aC E0))),(3001,.box (bx (ay E1))),(3002,.box (bx (bf E2))),(3003,.box (bx (cB E3)))]⟩,iY E0 E1 E2 E3 v49)|.L2 E0 E1 E2 E3 v68=>([1,1,1,1,1,0,4,1,3,1,3,1],⟨144,[(5,.bptr 3000 0),(6,.bptr 3001 0),(9,.bptr 3002 0),(13,.fn 256 [.bptr 3003 0]),(68,wB v68)],[(3000,.box (bx (aC E0))),(3001,.box (bx (ay E1))),(3002,.box (bx (bf E2))),(3003,.box (bx (cB E3)))]⟩,lA E0 E1 E2 E3 v68)|.L3 E0 E1 E2 E3 v88=>([1,1,1,1,1,0,4,1,3,1,3,1,3,1],⟨144,[(5,.bptr 3000 0),(6,.bptr 3001 0),(9,.bptr 3002 0),(13,.fn 256 [.bptr 3003 0]),(88,wB v88)],[(3000,.box (bx (aC E0))),(3001,.box (bx (ay E1))),(3002,.box (bx (bf E2))),(3003,.box (bx (cB E3)))]⟩,km E0 E1 E2 E3 v88)|.L4 E0 E1 E2=>([1,1,1,1,1,1],⟨144,[(6,.bptr 3000 0),(9,.bptr 3001 0),(13,.fn 256 [.bptr 3002 0])],[(3000,.box (bx (ay E0))),(3001,.box (bx (bf E1))),(3002,.box (bx (cB E2)))]⟩,jD E0 E1 E2)
def uq:=λa0 a1 a2 a3 a4=>lQ.run (Z1j a0 a1 a2 a3 a4)
def Aw(a0)(a1)(a2)(a3)(a4){r}(h:uq a0 a1 a2 a3 a4=some r):Fn PR 193 [wA (aC a0),wA (ay a1),wI a2,wI a3,wA (bf a4)] (wB r):=lQ.fn h
inductive vd where
 |L0 (v1:List ah) (v2:Int) (v3:Int) (E0:aj) (v11:List Int) (v16:List ak) (v17:Int) (v18:Int)
 |L1 (v1:List ah) (v2:Int) (v3:Int) (E0:aj) (v11:List Int) (E1:ak) (E2:ah) (v16:List ak) (v17:Int) (v18:Int)
def qT(v1:List ah)(v2:Int)(v3:Int)(E0:aj)(v11:List Int)(E1:ak)(E2:ah)(v16:List ak)(v17:Int)(v18:Int):LT vd (List Int):=
.call (Aw E1 E2 v2 v3 E0) λx1=>.br x1 (.dr [.lit]<|.apR (cI .i64) 8 v11 [E1.Id] λx4=>.g0 (.L0 v1 v2 v3 E0 x4 v16 v17 (IntKind.wrap .i64 (v18+1))))<|.g0 (.L0 v1 v2 v3 E0 v11 v16 v17 (IntKind.wrap .i64 (v18+1)))
def qU(v1:List ah)(v2:Int)(v3:Int)(E0:aj)(v11:List Int)(v16:List ak)(v17:Int)(v18:Int):LT vd (List Int):=
.br (decide (v18<v17)) (.idx aC v16 v18 λx2=>.lb 1013<|.lb 1014<|.len ay v1<|.br (decide (v18<(v1.length:Int))) (.idx ay v1 v18 λx6=>.jn 0 (.L1 v1 v2 v3 E0 v11 x2 x6 v16 v17 v18) [.relab 1013 3001,.relab 1014 3002] (qT v1 v2 v3 E0 v11 x2 x6 v16 v17 v18))<|.jn 0 (.L1 v1 v2 v3 E0 v11 x2 (⟨([]:By),(⟨0,0,(⟨0,0,0,0,0⟩:A5 Int)⟩:Z4),0,(⟨0,0,([]:Bys)⟩:cf),0,0,0,([]:List an),0⟩:ah) v16 v17 v18) [.relab 1013 3001,.relab 1014 3002,.niltb 3002 11,.niltb 3002 15] (qT v1 v2 v3 E0 v11 x2 (⟨([]:By),(⟨0,0,(⟨0,0,0,0,0⟩:A5 Int)⟩:Z4),0,(⟨0,0,([]:Bys)⟩:cf),0,0,0,([]:List an),0⟩:ah) v16 v17 v18))<|.ret v11 [.relab 20011 5000]
def LJ(a0:ab)(a1:List ah)(a2:Int)(a3:Int)(a4:aj):LT vd (List Int):=
.lb 1005<|.lb 1009<|.len aC a0.Objects<|.go (.L0 a1 a2 a3 a4 ([]:List Int) a0.Objects (a0.Objects.length:Int) 0) [.relab 1009 3000,.own 11 20011 1]
def Z76:LF vd (List Int) :=.m 149 [.t 10] true (λr=>[(5000,wR (cI .i64) 1 r)]) (λr=>(wO (cI .i64) 5000 r)) λ|.L0 v1 v2 v3 E0 v11 v16 v17 v18=>([1,1,0,1,4],⟨44,[(1,wL ay v1),(2,wI v2),(3,wI v3),(9,.bptr 3000 0),(11,wO (cI .i64) 20011 v11),(16,wL aC v16),(17,wI v17),(18,wI v18)],[(3000,.box (bx (bf E0))),(20011,wR (cI .i64) 1 v11)]⟩,qU v1 v2 v3 E0 v11 v16 v17 v18)|.L1 v1 v2 v3 E0 v11 E1 E2 v16 v17 v18=>([1,1,0,1,4,5,1,1,0,4,1,1,1],⟨44,[(1,wL ay v1),(2,wI v2),(3,wI v3),(9,.bptr 3000 0),(11,wO (cI .i64) 20011 v11),(13,.bptr 3001 0),(14,.bptr 3002 0),(16,wL aC v16),(17,wI v17),(18,wI v18)],[(3000,.box (bx (bf E0))),(20011,wR (cI .i64) 1 v11),(3001,.box (bx (aC E1))),(3002,.box (bx (ay E2)))]⟩,qT v1 v2 v3 E0 v11 E1 E2 v16 v17 v18)
def Z6m:=λa0 a1 a2 a3 a4=>Z76.run (LJ a0 a1 a2 a3 a4)
def LL(a0)(a1)(a2)(a3)(a4){r}(h:Z6m a0 a1 a2 a3 a4=some r):FnG PR 149 [] [wA (aH a0),wL ay a1,wI a2,wI a3,wA (bf a4)] [(5000,wR (cI .i64) 1 r)] (wO (cI .i64) 5000 r):=Z76.fn h
inductive pR where
 |L0 (v0:List Int) (v1:List Int) (v12:Int) (v13:Int)
def GW(v0:List Int)(v1:List Int)(v12:Int)(v13:Int):LT pR Bool:=
.br (decide (v13<v12)) (.idx (cI .i64) v0 v13 λx2=>.idx (cI .i64) v1 v13 λx4=>.br (x2 != x4) (.rt false)<|.g0 (.L0 v0 v1 v12 (IntKind.wrap .i64 (v13+1))))<|.rt true
def GV(a0:List Int)(a1:List Int):LT pR Bool:=
.len (cI .i64) a0<|.len (cI .i64) a1<|.br ((a0.length:Int) != (a1.length:Int)) (.rt false)<|.len (cI .i64) a0<|.g0 (.L0 a0 a1 (a0.length:Int) 0)
def yW:LF pR Bool :=.m0 209 [.t 4] wB λ|.L0 v0 v1 v12 v13=>([1,1,0,1,4],⟨26,[(0,wL (cI .i64) v0),(1,wL (cI .i64) v1),(12,wI v12),(13,wI v13)],[]⟩,GW v0 v1 v12 v13)
def GU:=λa0 a1=>yW.run (GV a0 a1)
def LN(a0)(a1){r}(h:GU a0 a1=some r):Fn PR 209 [wL (cI .i64) a0,wL (cI .i64) a1] (wB r):=yW.fn h
def GY(a0:dA)(a1:dA):LT Empty Bool:=
.lb 1002<|.lb 1003<|.cs (!(a0.active==a1.active)) (.k5 0<|.k2 0<|.b5 true<|.b2 true<|.rt true)<|.k5 0<|.call (LN a0.hits a1.hits) λx2=>.k2 0<|.cs (!x2) (.k5 1<|.k2 1<|.rt true)<|.k5 1<|.call (LN a0.numbers a1.numbers) λx5=>.k2 1<|.rt (!x5)
def LO:LF Empty Bool :=.z0 208 [.t 4] wB
def GX:=λa0 a1=>LO.run (GY a0 a1)
def Z6n(a0)(a1){r}(h:GX a0 a1=some r):Fn PR 208 [wA (je a0),wA (je a1)] (wB r):=LO.fn h
def yX(a0:List Bool)(hne:a0≠[]):LT Empty (List Bool):=
.ne cB hne<|.kn [0]<|.lb 1005<|.apR cB 1 ([]:List Bool) a0 λx1=>.ret x1 [.relab 1005 5000]
def lR:LF Empty (List Bool) :=.z 274 [.t 2] true (λr=>[(5000,wR cB 1 r)]) (λr=>(wO cB 5000 r))
def uv(c:Nat):LT Empty (List Bool):=
.kn [0]<|.ret ([]:List Bool) [.own 2 5000 1]
def Z1k(c:Nat)(ad:Addr):LT Empty (List Bool):=
.kn [0]<|.lb 1005<|.apR cB 1 ([]:List Bool) ([]:List Bool) λx1=>.ret x1 [.relab 1005 5000]
open Classical in
def ur(a0:List Bool):Option (List Bool):=if h:a0≠[]then lR.run (yX a0 h)else lR.run (uv 0)
def LP(a0:List Bool){r:List Bool}(h:ur a0=some r):FnG PR 274 [] [wL cB a0] [(5000,wR cB 1 r)] (wO cB 5000 r):=by
 by_cases hne:a0=[]
 .subst hne;have h0:lR.run (uv 0)=some r:=h;exact FnG.split0 (λe=>absurd rfl e) (λ_ a c=>by
   cases a with
   |none=>exact lR.fn (t:=uv c) h0
   |some ad=>exact lR.fn (t:=Z1k c ad) h0)
 have h0:lR.run (yX a0 hne)=some r:=by unfold ur at h;rwa[eY hne]at h
 exact FnG.split0 (λ_=>lR.fn h0) (λe=>absurd (fm.1 e) hne)
def yY(a0:List an)(hne:a0≠[]):LT Empty (List an):=
.ne aD hne<|.kn [0]<|.lb 1005<|.apR aD 640 ([]:List an) a0 λx1=>.ret x1 [.relab 1005 5000]
def lS:LF Empty (List an) :=.z 310 [.t 2] true (λr=>[(5000,wR aD 72 r)]) (λr=>(wO aD 5000 r))
def ux(c:Nat):LT Empty (List an):=
.kn [0]<|.ret ([]:List an) [.own 2 5000 72]
def Zcj(c:Nat)(ad:Addr):LT Empty (List an):=
.kn [0]<|.lb 1005<|.apR aD 640 ([]:List an) ([]:List an) λx1=>.ret x1 [.relab 1005 5000]
open Classical in
def uw(a0:List an):Option (List an):=if h:a0≠[]then lS.run (yY a0 h)else lS.run (ux 0)
def Zck(a0:List an){r:List an}(h:uw a0=some r):FnG PR 310 [] [wL aD a0] [(5000,wR aD 72 r)] (wO aD 5000 r):=by
 by_cases hne:a0=[]
 .subst hne;have h0:lS.run (ux 0)=some r:=h;exact FnG.split0 (λe=>absurd rfl e) (λ_ a c=>by
   cases a with
   |none=>exact lS.fn (t:=ux c) h0
   |some ad=>exact lS.fn (t:=Zcj c ad) h0)
 have h0:lS.run (yY a0 hne)=some r:=by unfold uw at h;rwa[eY hne]at h
 exact FnG.split0 (λ_=>lS.fn h0) (λe=>absurd (fm.1 e) hne)
inductive nr where
 |L0 (E0:ah) (E1:ah) (v18:Int) (v19:Int)
 |L1 (y45000015:an) (E0:ah) (E1:ah) (v18:Int) (v19:Int) (v54:Int) (v55:Int) (v4:Int)
def G3(E0:ah)(E1:ah)(v18:Int)(v19:Int):LT nr ah:=
.br (decide (v19<v18)) (.idxR aD E0.Abilities v19 λx2=>.dr [.ahead 7,.opn 40015 (Int.toNat v19) (aD x2),.stop]<|.us [2]<|.iq v19<|.iq v19<|.rl aD E0.Abilities<|.rl aD E0.Abilities<|.rl aD E0.Abilities<|.call (lO x2.Mods) λx4=>.rl aD E0.Abilities<|.rl aD E0.Abilities<|.rl aD E0.Abilities<|.call (Zcl x2.Specs) λx6=>.rl aD E0.Abilities<|.rl aD E0.Abilities<|.rl aD E0.Abilities<|.callF (Au x2.Effects) 440000 λx8=>.rl aD E0.Abilities<|.rl aD E0.Abilities<|.rl aD E0.Abilities<|.rl aD E0.Abilities<|.rl aD E0.Abilities<|.rl aD E0.Abilities<|.rl aD E0.Abilities<|.rl aD E0.Abilities<|.rl aD E0.Abilities<|.rl aD E0.Abilities<|.rl aD E0.Abilities<|.rl aD E0.Abilities<|.lenO bl x8<|.go (.L1 (⟨x2.Kind,x2.Filter,x4,x2.Price,x2.Slow,x2.Trigger,x2.May,x6,x8,x2.Replace⟩:an) E0 E1 v18 v19 (x8.length:Int) 0 v19) [.relab 40015 45000015,.relab 445000 46000049])<|.ret E0 [.relab 40011 5011,.relab 40015 5015]
def G4(y45000015:an)(E0:ah)(E1:ah)(v18:Int)(v19:Int)(v54:Int)(v55:Int)(v4:Int):LT nr ah:=
.br (decide (v55<v54)) (.rl aD E0.Abilities<|.rl aD E0.Abilities<|.rl aD E0.Abilities<|.rl aD E0.Abilities<|.rl aD E0.Abilities<|.rl aD E0.Abilities<|.idxR bl y45000015.Effects v55 λx2=>.rl bl y45000015.Effects<|.ldR bl y45000015.Effects x2 2<|.call (lO x2.Mods) λx4=>.plR bl y45000015.Effects v55 0<|.rl bl y45000015.Effects<|.setD bl y45000015.Effects v55 x2 (⟨x2.Op,x2.Ref,x2.Amount,x2.Counter,x2.Zone,x2.Card,x2.Filter,x2.Pool,x4⟩:bh) 2 63 [.sl (List.map aF x4)] rfl λx6=>.dr [.ahead 74,.relen 46000049,.stop]<|.us [3]<|.us [3]<|.us [3]<|.us [3]<|.us [3]<|.us [3]<|.us [3]<|.g0 (.L1 (⟨y45000015.Kind,y45000015.Filter,y45000015.Mods,y45000015.Price,y45000015.Slow,y45000015.Trigger,y45000015.May,y45000015.Specs,x6,y45000015.Replace⟩:an) E0 E1 v18 v19 v54 (IntKind.wrap .i64 (v55+1)) v4))<|.clsR aD E0.Abilities v4 y45000015 λx10=>.dr [.ahead 75,.frz 46000049,.cls 45000015 (List.map aD x10),.relen 45000015,.stop]<|.rl bl y45000015.Effects<|.us [0]<|.rl aD E0.Abilities<|.rl aD E0.Abilities<|.us [1]<|.us [1]<|.go (.L0 (⟨E0.Name,E0.Cost,E0.Colors,E0.Line,E0.Power,E0.Tough,E0.Keys,x10,E0.Control⟩:ah) E1 v18 (IntKind.wrap .i64 (v19+1))) [.relab 45000015 40015]
def G2(a0:ah):LT nr ah:=
.lb 1001<|.lb 1002<|.callF (Ar a0.Line.Subs) 100000 λx1=>.callF (Zck a0.Abilities) 150000 λx3=>.lenO aD x3<|.go (.L0 (⟨a0.Name,a0.Cost,a0.Colors,(⟨a0.Line.Super,a0.Line.Types,x1⟩:cf),a0.Power,a0.Tough,a0.Keys,x3,a0.Control⟩:ah) (⟨([]:By),(⟨0,0,(⟨0,0,0,0,0⟩:A5 Int)⟩:Z4),0,(⟨0,0,([]:Bys)⟩:cf),0,0,0,([]:List an),0⟩:ah) (x3.length:Int) 0) [.relab 1001 3000,.relab 1002 3001,.relab 105000 40011,.relab 155000 40015,.ownb 3001 11 40111 1,.ownb 3001 15 40115 72]
def uz:LF nr ah :=.m 277 [.c 2 220 true 17] true (λr=>[(5011,wR cS 1 r.Line.Subs),(5015,wR aD 72 r.Abilities)]) (λr=>(.agg (tm3 r 5000))) λ|.L0 E0 E1 v18 v19=>([1,1,1,0,1,4],⟨77,[(1,.bptr 3000 0),(2,.bptr 3001 0),(18,wI v18),(19,wI v19)],[(3000,.box (tm3 E0 40000)),(40011,wR cS 1 E0.Line.Subs),(40015,wR aD 72 E0.Abilities),(3001,.box (tm3 E1 40100)),(40111,wR cS 1 E1.Line.Subs),(40115,wR aD 72 E1.Abilities)]⟩,G3 E0 E1 v18 v19)|.L1 y45000015 E0 E1 v18 v19 v54 v55 v4=>([1,1,1,0,1,4,5,1,1,0,4,1,1,1,1,4],⟨77,[(1,.bptr 3000 0),(2,.bptr 3001 0),(4,.own 45000015 (.pp (List.map aD E0.Abilities).length 0)),(18,wI v18),(19,wI v19),(54,wI v54),(55,wI v55)],[(3000,.box [wS E0.Name,wI E0.Cost.Generic,wI E0.Cost.X,wI E0.Cost.Color.a0,wI E0.Cost.Color.a1,wI E0.Cost.Color.a2,wI E0.Cost.Color.a3,wI E0.Cost.Color.a4,wI E0.Colors,wI E0.Line.Super,wI E0.Line.Types,wO cS 40011 E0.Line.Subs,wI E0.Power,wI E0.Tough,wI E0.Keys,.own 45000015 (.pw (List.map aD E0.Abilities).length),wI E0.Control]),(40011,wR cS 1 E0.Line.Subs),(46000049,wR bl 64 y45000015.Effects),(45000015,.prow 72 (Int.toNat v4) (List.map aD E0.Abilities) [wI y45000015.Kind,wI y45000015.Filter.Zone,wI y45000015.Filter.Who,wI y45000015.Filter.Self,wI y45000015.Filter.Types,wI y45000015.Filter.NotTypes,wI y45000015.Filter.Colors,wI y45000015.Filter.NotColors,wS y45000015.Filter.Sub,wI y45000015.Filter.Keys,wI y45000015.Filter.Tap,wI y45000015.Filter.Power.Kind,wI y45000015.Filter.Power.N,wI y45000015.Filter.Tough.Kind,wI y45000015.Filter.Tough.N,wI y45000015.Filter.Value.Kind,wI y45000015.Filter.Value.N,wL aF y45000015.Mods,wI y45000015.Price.Mana.Generic,wI y45000015.Price.Mana.X,wI y45000015.Price.Mana.Color.a0,wI y45000015.Price.Mana.Color.a1,wI y45000015.Price.Mana.Color.a2,wI y45000015.Price.Mana.Color.a3,wI y45000015.Price.Mana.Color.a4,wB y45000015.Price.Tap,wB y45000015.Price.Sacrifice,wI y45000015.Price.Life,wB y45000015.Slow,wI y45000015.Trigger.When,wI y45000015.Trigger.Who,wI y45000015.Trigger.Filter.Zone,wI y45000015.Trigger.Filter.Who,wI y45000015.Trigger.Filter.Self,wI y45000015.Trigger.Filter.Types,wI y45000015.Trigger.Filter.NotTypes,wI y45000015.Trigger.Filter.Colors,wI y45000015.Trigger.Filter.NotColors,wS y45000015.Trigger.Filter.Sub,wI y45000015.Trigger.Filter.Keys,wI y45000015.Trigger.Filter.Tap,wI y45000015.Trigger.Filter.Power.Kind,wI y45000015.Trigger.Filter.Power.N,wI y45000015.Trigger.Filter.Tough.Kind,wI y45000015.Trigger.Filter.Tough.N,wI y45000015.Trigger.Filter.Value.Kind,wI y45000015.Trigger.Filter.Value.N,wB y45000015.May,wL bS y45000015.Specs,wO bl 46000049 y45000015.Effects,wI y45000015.Replace.On,wI y45000015.Replace.Who,wI y45000015.Replace.Filter.Zone,wI y45000015.Replace.Filter.Who,wI y45000015.Replace.Filter.Self,wI y45000015.Replace.Filter.Types,wI y45000015.Replace.Filter.NotTypes,wI y45000015.Replace.Filter.Colors,wI y45000015.Replace.Filter.NotColors,wS y45000015.Replace.Filter.Sub,wI y45000015.Replace.Filter.Keys,wI y45000015.Replace.Filter.Tap,wI y45000015.Replace.Filter.Power.Kind,wI y45000015.Replace.Filter.Power.N,wI y45000015.Replace.Filter.Tough.Kind,wI y45000015.Replace.Filter.Tough.N,wI y45000015.Replace.Filter.Value.Kind,wI y45000015.Replace.Filter.Value.N,wI y45000015.Replace.Do,wI y45000015.Replace.N,wI y45000015.Replace.Zone,wI y45000015.Replace.Counter]),(3001,.box (tm3 E1 40100)),(40111,wR cS 1 E1.Line.Subs),(40115,wR aD 72 E1.Abilities)]⟩,G4 y45000015 E0 E1 v18 v19 v54 v55 v4)
def G1:=λa0=>uz.run (G2 a0)
def Zcm(a0){r}(h:G1 a0=some r):FnG PR 277 [] [wA (ay a0)] [(5011,wR cS 1 r.Line.Subs),(5015,wR aD 72 r.Abilities)] (.agg (tm3 r 5000)):=uz.fn h
def G6(a0:Int)(a1:Int)(a2:Int):LT Empty Bool:=
.cs (decide (a0>=a1)) (.k4 0<|.rt (decide (a0<=a2)))<|.k4 0<|.rt false
def LQ:LF Empty Bool :=.z0 311 [.t 6] wB
def G5:=λa0 a1 a2=>LQ.run (G6 a0 a1 a2)
def jL(a0)(a1)(a2){r}(h:G5 a0 a1 a2=some r):Fn PR 311 [wI a0,wI a1,wI a2] (wB r):=LQ.fn h
inductive nu where
 |L0 (E0:ai) (E1:ai) (E2:ai) (v8:Int) (v9:Bool)
 |L1 (E0:ai) (E1:ai) (E2:ai) (v8:Int) (v19:Bool)
def pT(E0:ai)(E1:ai)(E2:ai)(v8:Int)(v19:Bool):LT nu ai:=
.br v19 (.rt (⟨E2.Kind,E2.N,E2.M,E0.Sub,E2.Filter⟩:ai))<|.br (v8==11) (.rt (⟨E2.Kind,E2.N,E2.M,E2.Sub,E0.Filter⟩:ai))<|.br (v8==12) (.kn [3]<|.rt (⟨E2.Kind,E0.N,E0.M,E2.Sub,E2.Filter⟩:ai))<|.br (v8==13) (.rt (⟨E2.Kind,E0.N,E0.M,E2.Sub,E2.Filter⟩:ai))<|.rt E2
def jF(E0:ai)(E1:ai)(E2:ai)(v8:Int)(v9:Bool):LT nu ai:=
.br v9 (.rt (⟨E2.Kind,E0.N,E2.M,E2.Sub,E2.Filter⟩:ai))<|.br (v8==4) (.j0 (.L1 E0 E1 E2 v8 (v8==4)) (pT E0 E1 E2 v8 (v8==4)))<|.j0 (.L1 E0 E1 E2 v8 (v8==5)) (pT E0 E1 E2 v8 (v8==5))
def Hb(a0:ai):LT nu ai:=
.lb 1001<|.lb 1002<|.lb 1003<|.br (a0.Kind==2) (.jn 0 (.L0 a0 (⟨0,0,0,([]:By),(⟨0,0,0,0,0,0,0,([]:By),0,0,(⟨0,0⟩:ae),(⟨0,0⟩:ae),(⟨0,0⟩:ae)⟩:aj)⟩:ai) (⟨a0.Kind,0,0,([]:By),(⟨0,0,0,0,0,0,0,([]:By),0,0,(⟨0,0⟩:ae),(⟨0,0⟩:ae),(⟨0,0⟩:ae)⟩:aj)⟩:ai) a0.Kind (a0.Kind==2)) (tm22 1000 3000) (jF a0 (⟨0,0,0,([]:By),(⟨0,0,0,0,0,0,0,([]:By),0,0,(⟨0,0⟩:ae),(⟨0,0⟩:ae),(⟨0,0⟩:ae)⟩:aj)⟩:ai) (⟨a0.Kind,0,0,([]:By),(⟨0,0,0,0,0,0,0,([]:By),0,0,(⟨0,0⟩:ae),(⟨0,0⟩:ae),(⟨0,0⟩:ae)⟩:aj)⟩:ai) a0.Kind (a0.Kind==2)))<|.br (a0.Kind==3) (.jn 0 (.L0 a0 (⟨0,0,0,([]:By),(⟨0,0,0,0,0,0,0,([]:By),0,0,(⟨0,0⟩:ae),(⟨0,0⟩:ae),(⟨0,0⟩:ae)⟩:aj)⟩:ai) (⟨a0.Kind,0,0,([]:By),(⟨0,0,0,0,0,0,0,([]:By),0,0,(⟨0,0⟩:ae),(⟨0,0⟩:ae),(⟨0,0⟩:ae)⟩:aj)⟩:ai) a0.Kind (a0.Kind==3)) (tm22 1000 3000) (jF a0 (⟨0,0,0,([]:By),(⟨0,0,0,0,0,0,0,([]:By),0,0,(⟨0,0⟩:ae),(⟨0,0⟩:ae),(⟨0,0⟩:ae)⟩:aj)⟩:ai) (⟨a0.Kind,0,0,([]:By),(⟨0,0,0,0,0,0,0,([]:By),0,0,(⟨0,0⟩:ae),(⟨0,0⟩:ae),(⟨0,0⟩:ae)⟩:aj)⟩:ai) a0.Kind (a0.Kind==3)))<|.br (a0.Kind==6) (.jn 0 (.L0 a0 (⟨0,0,0,([]:By),(⟨0,0,0,0,0,0,0,([]:By),0,0,(⟨0,0⟩:ae),(⟨0,0⟩:ae),(⟨0,0⟩:ae)⟩:aj)⟩:ai) (⟨a0.Kind,0,0,([]:By),(⟨0,0,0,0,0,0,0,([]:By),0,0,(⟨0,0⟩:ae),(⟨0,0⟩:ae),(⟨0,0⟩:ae)⟩:aj)⟩:ai) a0.Kind (a0.Kind==6)) (tm22 1000 3000) (jF a0 (⟨0,0,0,([]:By),(⟨0,0,0,0,0,0,0,([]:By),0,0,(⟨0,0⟩:ae),(⟨0,0⟩:ae),(⟨0,0⟩:ae)⟩:aj)⟩:ai) (⟨a0.Kind,0,0,([]:By),(⟨0,0,0,0,0,0,0,([]:By),0,0,(⟨0,0⟩:ae),(⟨0,0⟩:ae),(⟨0,0⟩:ae)⟩:aj)⟩:ai) a0.Kind (a0.Kind==6)))<|.br (a0.Kind==7) (.jn 0 (.L0 a0 (⟨0,0,0,([]:By),(⟨0,0,0,0,0,0,0,([]:By),0,0,(⟨0,0⟩:ae),(⟨0,0⟩:ae),(⟨0,0⟩:ae)⟩:aj)⟩:ai) (⟨a0.Kind,0,0,([]:By),(⟨0,0,0,0,0,0,0,([]:By),0,0,(⟨0,0⟩:ae),(⟨0,0⟩:ae),(⟨0,0⟩:ae)⟩:aj)⟩:ai) a0.Kind (a0.Kind==7)) (tm22 1000 3000) (jF a0 (⟨0,0,0,([]:By),(⟨0,0,0,0,0,0,0,([]:By),0,0,(⟨0,0⟩:ae),(⟨0,0⟩:ae),(⟨0,0⟩:ae)⟩:aj)⟩:ai) (⟨a0.Kind,0,0,([]:By),(⟨0,0,0,0,0,0,0,([]:By),0,0,(⟨0,0⟩:ae),(⟨0,0⟩:ae),(⟨0,0⟩:ae)⟩:aj)⟩:ai) a0.Kind (a0.Kind==7)))<|.br (a0.Kind==8) (.jn 0 (.L0 a0 (⟨0,0,0,([]:By),(⟨0,0,0,0,0,0,0,([]:By),0,0,(⟨0,0⟩:ae),(⟨0,0⟩:ae),(⟨0,0⟩:ae)⟩:aj)⟩:ai) (⟨a0.Kind,0,0,([]:By),(⟨0,0,0,0,0,0,0,([]:By),0,0,(⟨0,0⟩:ae),(⟨0,0⟩:ae),(⟨0,0⟩:ae)⟩:aj)⟩:ai) a0.Kind (a0.Kind==8)) (tm22 1000 3000) (jF a0 (⟨0,0,0,([]:By),(⟨0,0,0,0,0,0,0,([]:By),0,0,(⟨0,0⟩:ae),(⟨0,0⟩:ae),(⟨0,0⟩:ae)⟩:aj)⟩:ai) (⟨a0.Kind,0,0,([]:By),(⟨0,0,0,0,0,0,0,([]:By),0,0,(⟨0,0⟩:ae),(⟨0,0⟩:ae),(⟨0,0⟩:ae)⟩:aj)⟩:ai) a0.Kind (a0.Kind==8)))<|.jn 0 (.L0 a0 (⟨0,0,0,([]:By),(⟨0,0,0,0,0,0,0,([]:By),0,0,(⟨0,0⟩:ae),(⟨0,0⟩:ae),(⟨0,0⟩:ae)⟩:aj)⟩:ai) (⟨a0.Kind,0,0,([]:By),(⟨0,0,0,0,0,0,0,([]:By),0,0,(⟨0,0⟩:ae),(⟨0,0⟩:ae),(⟨0,0⟩:ae)⟩:aj)⟩:ai) a0.Kind (a0.Kind==9)) (tm22 1000 3000) (jF a0 (⟨0,0,0,([]:By),(⟨0,0,0,0,0,0,0,([]:By),0,0,(⟨0,0⟩:ae),(⟨0,0⟩:ae),(⟨0,0⟩:ae)⟩:aj)⟩:ai) (⟨a0.Kind,0,0,([]:By),(⟨0,0,0,0,0,0,0,([]:By),0,0,(⟨0,0⟩:ae),(⟨0,0⟩:ae),(⟨0,0⟩:ae)⟩:aj)⟩:ai) a0.Kind (a0.Kind==9))
def LR:LF nu ai :=.m0 312 [.c 2 144 true 20] (λr=>(wA (aF r))) λ|.L0 E0 E1 E2 v8 v9=>([1,1,0,1,4,1],⟨40,[(1,.bptr 3000 0),(2,.bptr 3001 0),(3,.bptr 3002 0),(8,wI v8),(9,wB v9)],[(3000,.box (bx (aF E0))),(3001,.box (bx (aF E1))),(3002,.box (bx (aF E2)))]⟩,jF E0 E1 E2 v8 v9)|.L1 E0 E1 E2 v8 v19=>([1,1,0,1,4,1,3,1],⟨40,[(1,.bptr 3000 0),(2,.bptr 3001 0),(3,.bptr 3002 0),(8,wI v8),(19,wB v19)],[(3000,.box (bx (aF E0))),(3001,.box (bx (aF E1))),(3002,.box (bx (aF E2)))]⟩,pT E0 E1 E2 v8 v19)
def Ha:=λa0=>LR.run (Hb a0)
def Zcn(a0){r}(h:Ha a0=some r):Fn PR 312 [wA (aF a0)] (wA (aF r)):=LR.fn h
inductive lB where
 |L0 (E0:ai) (v14:Int) (v15:Bool)
 |L1 (E0:ai) (v14:Int) (v27:Bool)
 |L2 (E0:ai) (v14:Int) (v43:Bool)
def Z3i(E0:ai)(v14:Int)(v43:Bool):LT lB Bool:=
.br v43 (.call (jL E0.N 1 131071) λx2=>.rt x2)<|.br (v14==11) (.call (Lx E0.Filter) λx5=>.rt x5)<|.br (v14==12) (.call (jL E0.N 0 99) λx8=>.cs x8 (.k3 3<|.call (jL E0.M 0 99) λx11=>.kg 3<|.rt x11)<|.k4 3<|.rt false)<|.br (v14==13) (.call (jL E0.N (-99) 99) λx14=>.cs x14 (.k3 4<|.call (jL E0.M (-99) 99) λx17=>.kg 4<|.rt x17)<|.k4 4<|.rt false)<|.rt true
def Z3j(E0:ai)(v14:Int)(v27:Bool):LT lB Bool:=
.br v27 (.call (Z4m E0.Sub) λx2=>.rt x2)<|.br (v14==6) (.call (jL E0.N 0 31) λx5=>.rt x5)<|.br (v14==7) (.call (jL E0.N 1 31) λx8=>.rt x8)<|.br (v14==8) (.j0 (.L2 E0 v14 (v14==8)) (Z3i E0 v14 (v14==8)))<|.j0 (.L2 E0 v14 (v14==9)) (Z3i E0 v14 (v14==9))
def Z3k(E0:ai)(v14:Int)(v15:Bool):LT lB Bool:=
.br v15 (.call (jL E0.N 1 63) λx2=>.cs x2 (.k5 1<|.rt ((bJ .and .i64 E0.N 6)==0))<|.k5 1<|.rt false)<|.br (v14==4) (.j0 (.L1 E0 v14 (v14==4)) (Z3j E0 v14 (v14==4)))<|.j0 (.L1 E0 v14 (v14==5)) (Z3j E0 v14 (v14==5))
def Hd(a0:ai):LT lB Bool:=
.lb 1001<|.call (jL a0.Kind 1 14) λx1=>.cs (!x1) (.k5 0<|.kn [0]<|.rt false)<|.k3 0<|.call (Zcn a0) λx4=>.k2 0<|.br (!(az (aF a0) (aF x4))) (.rt false)<|.br (a0.Kind==2) (.jn 0 (.L0 a0 a0.Kind (a0.Kind==2)) [.relab 1001 3000] (Z3k a0 a0.Kind (a0.Kind==2)))<|.jn 0 (.L0 a0 a0.Kind (a0.Kind==3)) [.relab 1001 3000] (Z3k a0 a0.Kind (a0.Kind==3))
def LS:LF lB Bool :=.m0 278 [.t 2] wB λ|.L0 E0 v14 v15=>([1,1,0,1,4,1],⟨74,[(1,.bptr 3000 0),(14,wI v14),(15,wB v15)],[(3000,.box (bx (aF E0)))]⟩,Z3k E0 v14 v15)|.L1 E0 v14 v27=>([1,1,0,1,4,1,3,1],⟨74,[(1,.bptr 3000 0),(14,wI v14),(27,wB v27)],[(3000,.box (bx (aF E0)))]⟩,Z3j E0 v14 v27)|.L2 E0 v14 v43=>([1,1,0,1,4,1,3,1,3,1,3,1,3,1],⟨74,[(1,.bptr 3000 0),(14,wI v14),(43,wB v43)],[(3000,.box (bx (aF E0)))]⟩,Z3i E0 v14 v43)
def Hc:=λa0=>LS.run (Hd a0)
def Zco(a0){r}(h:Hc a0=some r):Fn PR 278 [wA (aF a0)] (wB r):=LS.fn h
def Z0h(a0:By)(a1:By):LT Empty Bool:=
.rt (!(Op.bytesLess a0 a1))
def Z0i:LF Empty Bool :=.z0 314 [.t 3] wB
def Z51:=λa0 a1=>Z0i.run (Z0h a0 a1)
def Zcp(a0)(a1){r}(h:Z51 a0 a1=some r):Fn PR 314 [wS a0,.vptr (cS a1)] (wB r):=Z0i.fn h
inductive pU where
 |L0 (v0:Bys) (w1_0:By) (v7:Int) (v8:Int)
def Hh(v0:Bys)(w1_0:By)(v7:Int)(v8:Int):LT pU Int:=
.br (decide (v8<v7)) (.idx cS v0 v8 λx2=>.call (Zcp x2 w1_0) λx4=>.br x4 (.rt v8)<|.g0 (.L0 v0 w1_0 v7 (IntKind.wrap .i64 (v8+1))))<|.rt (-1)
def Hg(a0:Bys)(a1:By):LT pU Int:=
.len cS a0<|.g0 (.L0 a0 a1 (a0.length:Int) 0)
def zd:LF pU Int :=.m0 313 [.t 4] wI λ|.L0 v0 w1_0 v7 v8=>([1,0,1,4],⟨19,[(0,wL cS v0),(1,.fn 314 [.vptr (cS w1_0)]),(7,wI v7),(8,wI v8)],[]⟩,Hh v0 w1_0 v7 v8)
def Hf:=λa0 a1=>zd.run (Hg a0 a1)
def Zcq(a0)(a1){r}(h:Hf a0 a1=some r):Fn PR 313 [wL cS a0,.fn 314 [.vptr (cS a1)]] (wI r):=zd.fn h
def Hj(b0:Bys)(a1:Int)(b1:Bys):Option (Bys):=ins? 16 b0 a1 b1
def LU(b0)(a1)(b1){r}(h:Hj b0 a1 b1=some r):FnG PR 315 [(0,wR cS 1 b0),(1,wR cS 1 b1)] [wO cS 0 b0,wI a1,wO cS 1 b1] [(5000,wR cS 1 r)] (wO cS 5000 r):=Zcr.okO (λx=>⟨_,rfl⟩) b0 a1 b1 h
def Hm(a0:cf)(a1:By):LT Empty cf:=
.lb 1002<|.lb 1003<|.lb 1004<|.callF (Ar a0.Subs) 90000 λx1=>.call (Z4m a1) λx3=>.cs (!x3) (.k4 0<|.b5 true<|.kn [0]<|.ret (⟨a0.Super,a0.Types,x1⟩:cf) [.relab 95000 5002])<|.k3 0<|.rl cS x1<|.call (LC (⟨a0.Super,a0.Types,x1⟩:cf) a1) λx6=>.kg 0<|.cs x6 (.k5 1<|.kn [0]<|.ret (⟨a0.Super,a0.Types,x1⟩:cf) [.relab 95000 5002])<|.k3 1<|.lenO cS x1<|.k2 1<|.br (decide ((x1.length:Int)>=4)) (.ret (⟨a0.Super,a0.Types,x1⟩:cf) [.relab 95000 5002])<|.rl cS x1<|.call (Zcq x1 a1) λx10=>.br (decide (x10<0)) (.lenO cS x1<|.lb 1038<|.callU (LU x1 (x1.length:Int) [a1]) [95000,1038] 400000 λx13=>.ret (⟨a0.Super,a0.Types,x13⟩:cf) [.relab 405000 5002])<|.lb 1038<|.callU (LU x1 x10 [a1]) [95000,1038] 400000 λx15=>.ret (⟨a0.Super,a0.Types,x15⟩:cf) [.relab 405000 5002]
def LV:LF Empty cf :=.z 279 [.c 4 121 true 3] true (λr=>[(5002,wR cS 1 r.Subs)]) (λr=>(.agg [wI r.Super,wI r.Types,wO cS 5002 r.Subs]))
def Hl:=λa0 a1=>LV.run (Hm a0 a1)
def Zcs(a0)(a1){r}(h:Hl a0 a1=some r):FnG PR 279 [] [wA (jd a0),wS a1] [(5002,wR cS 1 r.Subs)] (.agg [wI r.Super,wI r.Types,wO cS 5002 r.Subs]):=LV.fn h
def Hn(a0:ah)(a1:ai)(a2:Int)(a3:Int):LT Empty ah:=
.lb 1004<|.lb 1005<|.lb 1008<|.callF (Zcm a0) 110000 λx1=>.call (Zco a1) λx3=>.br (!x3) (.ret x1 [.relab 115011 5011,.relab 115015 5015])<|.br (a1.Kind==1) (.ret (⟨x1.Name,x1.Cost,x1.Colors,x1.Line,x1.Power,x1.Tough,x1.Keys,x1.Abilities,a2⟩:ah) [.relab 115011 5011,.relab 115015 5015])<|.br (a1.Kind==2) (.ret (⟨x1.Name,x1.Cost,x1.Colors,(⟨x1.Line.Super,a1.N,x1.Line.Subs⟩:cf),x1.Power,x1.Tough,x1.Keys,x1.Abilities,x1.Control⟩:ah) [.relab 115011 5011,.relab 115015 5015])<|.br (a1.Kind==3) (.ret (⟨x1.Name,x1.Cost,x1.Colors,(⟨x1.Line.Super,bJ .or .i64 x1.Line.Types a1.N,x1.Line.Subs⟩:cf),x1.Power,x1.Tough,x1.Keys,x1.Abilities,x1.Control⟩:ah) [.relab 115011 5011,.relab 115015 5015])<|.br (a1.Kind==4) (.lb 1041<|.ret (⟨x1.Name,x1.Cost,x1.Colors,(⟨x1.Line.Super,x1.Line.Types,[a1.Sub]⟩:cf),x1.Power,x1.Tough,x1.Keys,x1.Abilities,x1.Control⟩:ah) [.relab 1041 5011,.relab 115015 5015])<|.br (a1.Kind==5) (.rl cS x1.Line.Subs<|.callS (Zcs x1.Line a1.Sub) 510000 (λ_=>⟨rfl,kt cS (λ_=>rfl) _,aa⟩) λx11=>.ret (⟨x1.Name,x1.Cost,x1.Colors,x11,x1.Power,x1.Tough,x1.Keys,x1.Abilities,x1.Control⟩:ah) [.relab 515002 5011,.relab 115015 5015])<|.br (a1.Kind==6) (.ret (⟨x1.Name,x1.Cost,a1.N,x1.Line,x1.Power,x1.Tough,x1.Keys,x1.Abilities,x1.Control⟩:ah) [.relab 115011 5011,.relab 115015 5015])<|.br (a1.Kind==7) (.ret (⟨x1.Name,x1.Cost,bJ .or .i64 x1.Colors a1.N,x1.Line,x1.Power,x1.Tough,x1.Keys,x1.Abilities,x1.Control⟩:ah) [.relab 115011 5011,.relab 115015 5015])<|.br (a1.Kind==8) (.ret (⟨x1.Name,x1.Cost,x1.Colors,x1.Line,x1.Power,x1.Tough,bJ .or .i64 x1.Keys a1.N,x1.Abilities,x1.Control⟩:ah) [.relab 115011 5011,.relab 115015 5015])<|.br (a1.Kind==9) (.ret (⟨x1.Name,x1.Cost,x1.Colors,x1.Line,x1.Power,x1.Tough,bJ .andNot .i64 x1.Keys a1.N,x1.Abilities,x1.Control⟩:ah) [.relab 115011 5011,.relab 115015 5015])<|.br (a1.Kind==10) (.ret (⟨x1.Name,x1.Cost,x1.Colors,x1.Line,x1.Power,x1.Tough,0,([]:List an),x1.Control⟩:ah) [.relab 115011 5011,.ownb 1008 15 5015 72])<|.br (a1.Kind==11) (.call (iE a3) λx19=>.call (iE a3) λx21=>.ret (⟨x1.Name,x1.Cost,x1.Colors,x1.Line,x19,x21,x1.Keys,x1.Abilities,x1.Control⟩:ah) [.relab 115011 5011,.relab 115015 5015])<|.br (a1.Kind==12) (.ret (⟨x1.Name,x1.Cost,x1.Colors,x1.Line,a1.N,a1.M,x1.Keys,x1.Abilities,x1.Control⟩:ah) [.relab 115011 5011,.relab 115015 5015])<|.br (a1.Kind==13) (.call (qS x1.Power a1.N) λx25=>.call (qS x1.Tough a1.M) λx27=>.ret (⟨x1.Name,x1.Cost,x1.Colors,x1.Line,x25,x27,x1.Keys,x1.Abilities,x1.Control⟩:ah) [.relab 115011 5011,.relab 115015 5015])<|.br (a1.Kind==14) (.ret (⟨x1.Name,x1.Cost,x1.Colors,x1.Line,x1.Tough,x1.Power,x1.Keys,x1.Abilities,x1.Control⟩:ah) [.relab 115011 5011,.relab 115015 5015])<|.ret x1 [.relab 115011 5011,.relab 115015 5015]
def LW:LF Empty ah :=.z 214 [.c 8 220 true 17] true (λr=>[(5011,wR cS 1 r.Line.Subs),(5015,wR aD 72 r.Abilities)]) (λr=>(.agg (tm3 r 5000)))
def zg:=λa0 a1 a2 a3=>LW.run (Hn a0 a1 a2 a3)
def Zct(a0)(a1)(a2)(a3){r}(h:zg a0 a1 a2 a3=some r):FnG PR 214 [] [wA (ay a0),wA (aF a1),wI a2,wI a3] [(5011,wR cS 1 r.Line.Subs),(5015,wR aD 72 r.Abilities)] (.agg (tm3 r 5000)):=LW.fn h
def Zcu(a0:ah)(a1:ai)(a2:Int)(a3:Int){r:ah}(h:zg a0 a1 a2 a3=some r):Fn PR 214 [wA (ay a0),wA (aF a1),wI a2,wI a3] (wA (ay r)):=FnG.frozen (C:=LT.RL cS r.Line.Subs/\LT.RL aD r.Abilities/\True) (Zct a0 a1 a2 a3 h) ⟨rfl,rfl,aa⟩ ar
inductive pV where
 |L0 (v3:List Int) (v6:List Int) (v7:Int) (v8:Int)
def Z3l(v3:List Int)(v6:List Int)(v7:Int)(v8:Int):LT pV (List Int):=
.br (decide (v8<v7)) (.idx (cI .i64) v6 v8 λx2=>.cs (decide (x2>=0)) (.k3 1<|.rl (cI .i64) v3<|.call (u7 v3 x2) λx5=>.k2 1<|.br (!x5) (.dr [.lit]<|.apR (cI .i64) 8 v3 [x2] λx8=>.g0 (.L0 x8 v6 v7 (IntKind.wrap .i64 (v8+1))))<|.g0 (.L0 v3 v6 v7 (IntKind.wrap .i64 (v8+1))))<|.k5 1<|.kn [0]<|.g0 (.L0 v3 v6 v7 (IntKind.wrap .i64 (v8+1))))<|.ret v3 [.relab 20003 5000]
def Z52(a0:List Int):LT pV (List Int):=
.len (cI .i64) a0<|.go (.L0 ([]:List Int) a0 (a0.length:Int) 0) [.own 3 20003 1]
def zk:LF pV (List Int) :=.m 266 [.t 2] true (λr=>[(5000,wR (cI .i64) 1 r)]) (λr=>(wO (cI .i64) 5000 r)) λ|.L0 v3 v6 v7 v8=>([1,1,0,1,4],⟨26,[(3,wO (cI .i64) 20003 v3),(6,wL (cI .i64) v6),(7,wI v7),(8,wI v8)],[(20003,wR (cI .i64) 1 v3)]⟩,Z3l v3 v6 v7 v8)
def zh:=λa0=>zk.run (Z52 a0)
def Zcv(a0){r}(h:zh a0=some r):FnG PR 266 [] [wL (cI .i64) a0] [(5000,wR (cI .i64) 1 r)] (wO (cI .i64) 5000 r):=zk.fn h
def Zcw(a0:List Int){r:List Int}(h:zh a0=some r):Fn PR 266 [wL (cI .i64) a0] (wL (cI .i64) r):=FnG.frozen (C:=LT.RL (cI .i64) r/\True) (Zcv a0 h) ⟨rfl,aa⟩ ar
def Hq(a0:List (List Bool))(a1:Int)(a2:Int):LT Empty Bool:=
.cs (decide (a1>=0)) (.k3 0<|.cs (decide (a2>=0)) (.k3 1<|.len (cL cB) a0<|.k2 1<|.cs (decide (a1<(a0.length:Int))) (.k4 2<|.idx (cL cB) a0 a1 λx5=>.k2 2<|.len cB x5<|.k2 2<|.cs (decide (a2<(x5.length:Int))) (.k3 3<|.ag (cL cB) x5 0<|.k3 3<|.idx cB x5 a2 λx9=>.k2 3<|.rt x9)<|.k8 3<|.rt false)<|.k8 2<|.b8 false<|.rt false)<|.k5 1<|.b16 false<|.rt false)<|.k3 0<|.b16 false<|.b5 false<|.rt false
def LX:LF Empty Bool :=.z0 270 [.t 6] wB
def Hp:=λa0 a1 a2=>LX.run (Hq a0 a1 a2)
def Z77(a0)(a1)(a2){r}(h:Hp a0 a1 a2=some r):Fn PR 270 [wL (cL cB) a0,wI a1,wI a2] (wB r):=LX.fn h
inductive jH where
 |L0 (v1:List (List Bool)) (E0:List Int) (v5:Int) (E1:List (List Bool)) (v17:Int) (v18:Int)
 |L1 (v1:List (List Bool)) (E0:List Int) (v5:Int) (E1:List (List Bool)) (v7:Int) (v17:Int) (v18:Int) (v26:Int) (v27:Int)
 |L2 (E0:List Int) (v5:Int) (E1:List (List Bool)) (v48:Int) (v49:Int)
 |L3 (E0:List Int) (v5:Int) (E1:List (List Bool)) (v9:Int) (v48:Int) (v49:Int) (v52:Int) (v53:Int)
 |L4 (E0:List Int) (v5:Int) (E1:List (List Bool)) (v9:Int) (v10:Int) (v48:Int) (v49:Int) (v52:Int) (v53:Int) (v56:Int) (v57:Int)
def Hu(v1:List (List Bool))(E0:List Int)(v5:Int)(E1:List (List Bool))(v17:Int)(v18:Int):LT jH ((List Int)×(List (List Bool))):=
.br (decide (v18<v17)) (.mk cB 1024 1 false v5 v5 λx2=>.idM cB E1 v18 λx4=>.stR cB E1 v18 x2 0 λx6=>.dr [.ahead 26,.relen 40100,.stop]<|.us [2]<|.us [2]<|.g0 (.L1 v1 E0 v5 x6 v18 v17 v18 v5 0))<|.g0 (.L2 E0 v5 E1 v5 0)
def Hw(v1:List (List Bool))(E0:List Int)(v5:Int)(E1:List (List Bool))(v7:Int)(v17:Int)(v18:Int)(v26:Int)(v27:Int):LT jH ((List Int)×(List (List Bool))):=
.br (decide (v27<v26)) (.idM cB E1 v7 λx2=>.ldM cB E1 0<|.idx (cI .i64) E0 v7 λx4=>.idx (cI .i64) E0 v27 λx6=>.call (Z77 v1 x4 x6) λx8=>.idN cB E1 x2 v27 0 λx10=>.stM cB E1 v7 x2 v27 x8 0 8 λx12=>.dr [.ahead 46,.relen 40100,.stop]<|.us [10]<|.us [10]<|.g0 (.L1 v1 E0 v5 x12 v7 v17 v18 v26 (IntKind.wrap .i64 (v27+1))))<|.g0 (.L0 v1 E0 v5 E1 v17 (IntKind.wrap .i64 (v18+1)))
def Hx(E0:List Int)(v5:Int)(E1:List (List Bool))(v48:Int)(v49:Int):LT jH ((List Int)×(List (List Bool))):=
.br (decide (v49<v48)) (.g0 (.L3 E0 v5 E1 v49 v48 v49 v5 0))<|.rl (cL cB) E1<|.ret (E0,E1) [.frz 3000,.frz 40100,.frz 3001]
def Hz(E0:List Int)(v5:Int)(E1:List (List Bool))(v9:Int)(v48:Int)(v49:Int)(v52:Int)(v53:Int):LT jH ((List Int)×(List (List Bool))):=
.br (decide (v53<v52)) (.g0 (.L4 E0 v5 E1 v9 v53 v48 v49 v52 v53 v5 0))<|.g0 (.L2 E0 v5 E1 v48 (IntKind.wrap .i64 (v49+1)))
def HB(E0:List Int)(v5:Int)(E1:List (List Bool))(v9:Int)(v10:Int)(v48:Int)(v49:Int)(v52:Int)(v53:Int)(v56:Int)(v57:Int):LT jH ((List Int)×(List (List Bool))):=
.br (decide (v57<v56)) (.idM cB E1 v10 λx2=>.ldM cB E1 0<|.idN cB E1 x2 v9 0 λx4=>.ldN cB E1 x2 x4 1 3<|.cs x4 (.k3 1<|.idM cB E1 v9 λx7=>.kg 1<|.ldM cB E1 4<|.k2 1<|.idN cB E1 x7 v57 4 λx9=>.kg 1<|.ldN cB E1 x7 x9 5 7<|.kg 1<|.br x9 (.idM cB E1 v10 λx12=>.ldM cB E1 8<|.idN cB E1 x12 v57 8 λx14=>.stM cB E1 v10 x12 v57 true 8 10 λx16=>.dr [.ahead 82,.relen 40100,.stop]<|.us [12]<|.us [12]<|.us [12]<|.us [12]<|.g0 (.L4 E0 v5 x16 v9 v10 v48 v49 v52 v53 v56 (IntKind.wrap .i64 (v57+1))))<|.g0 (.L4 E0 v5 E1 v9 v10 v48 v49 v52 v53 v56 (IntKind.wrap .i64 (v57+1))))<|.k8 1<|.kn [0]<|.g0 (.L4 E0 v5 E1 v9 v10 v48 v49 v52 v53 v56 (IntKind.wrap .i64 (v57+1))))<|.g0 (.L3 E0 v5 E1 v9 v48 v49 v52 (IntKind.wrap .i64 (v53+1)))
def Ht(a0:List Int)(a1:List (List Bool)):LT jH ((List Int)×(List (List Bool))):=
.lb 1002<|.len (cI .i64) a0<|.mkE cB 1015 24 (a0.length:Int) (a0.length:Int) λx2=>.dr [.ahead 6,.tomat 1015,.stop]<|.us [0]<|.lb 1006<|.lenO (cL cB) x2<|.go (.L0 a1 a0 (a0.length:Int) x2 (x2.length:Int) 0) [.relab 1002 3000,.relab 1006 3001,.relab 1015 40100]
def lC:LF jH ((List Int)×(List (List Bool))) :=.m0 267 [.t 4] (λr=>(.fn 307 [.vptr ((cL (cI .i64)) r.1),.vptr ((cL (cL cB)) r.2)])) λ|.L0 v1 E0 v5 E1 v17 v18=>([1,1,1,0,1,4],⟨86,[(1,wL (cL cB) v1),(2,.bptr 3000 0),(5,wI v5),(6,.bptr 3001 0),(17,wI v17),(18,wI v18)],[(3000,.box (bx ((cL (cI .i64)) E0))),(3001,.box [wM (cL cB) 40100 E1]),(40100,wT (cL cB) E1)]⟩,Hu v1 E0 v5 E1 v17 v18)|.L1 v1 E0 v5 E1 v7 v17 v18 v26 v27=>([1,1,1,0,1,4,5,1,1,0,4,1,1,1,4],⟨86,[(1,wL (cL cB) v1),(2,.bptr 3000 0),(5,wI v5),(6,.bptr 3001 0),(7,wI v7),(17,wI v17),(18,wI v18),(26,wI v26),(27,wI v27)],[(3000,.box (bx ((cL (cI .i64)) E0))),(3001,.box [wM (cL cB) 40100 E1]),(40100,wT (cL cB) E1)]⟩,Hw v1 E0 v5 E1 v7 v17 v18 v26 v27)|.L2 E0 v5 E1 v48 v49=>([1,1,1,1,0,1,4],⟨86,[(2,.bptr 3000 0),(5,wI v5),(6,.bptr 3001 0),(48,wI v48),(49,wI v49)],[(3000,.box (bx ((cL (cI .i64)) E0))),(3001,.box [wM (cL cB) 40100 E1]),(40100,wT (cL cB) E1)]⟩,Hx E0 v5 E1 v48 v49)|.L3 E0 v5 E1 v9 v48 v49 v52 v53=>([1,1,1,1,0,1,4,5,1,1,0,4,1,1,4],⟨86,[(2,.bptr 3000 0),(5,wI v5),(6,.bptr 3001 0),(9,wI v9),(48,wI v48),(49,wI v49),(52,wI v52),(53,wI v53)],[(3000,.box (bx ((cL (cI .i64)) E0))),(3001,.box [wM (cL cB) 40100 E1]),(40100,wT (cL cB) E1)]⟩,Hz E0 v5 E1 v9 v48 v49 v52 v53)|.L4 E0 v5 E1 v9 v10 v48 v49 v52 v53 v56 v57=>([1,1,1,1,0,1,4,5,1,1,0,4,1,1,4,5,1,1,0,4,1,1,4],⟨86,[(2,.bptr 3000 0),(5,wI v5),(6,.bptr 3001 0),(9,wI v9),(10,wI v10),(48,wI v48),(49,wI v49),(52,wI v52),(53,wI v53),(56,wI v56),(57,wI v57)],[(3000,.box (bx ((cL (cI .i64)) E0))),(3001,.box [wM (cL cB) 40100 E1]),(40100,wT (cL cB) E1)]⟩,HB E0 v5 E1 v9 v10 v48 v49 v52 v53 v56 v57)
def Hs:=λa0 a1=>lC.run (Ht a0 a1)
def Zcx(a0)(a1){r}(h:Hs a0 a1=some r):Fn PR 267 [wL (cI .i64) a0,wL (cL cB) a1] (.fn 307 [.vptr ((cL (cI .i64)) r.1),.vptr ((cL (cL cB)) r.2)]):=lC.fn h
def HE(a0:Int)(a1:Int)(a2:List Int)(a3:List (List Bool)):LT Empty Bool:=
.call (u6 a2 a0) λx1=>.call (u6 a2 a1) λx3=>.cs (decide (x1>=0)) (.k3 0<|.cs (decide (x3>=0)) (.k3 1<|.idx (cL cB) a3 x1 λx7=>.k3 1<|.idx cB x7 x3 λx9=>.k2 1<|.rt x9)<|.k8 1<|.rt false)<|.k3 0<|.b8 false<|.rt false
def LY:LF Empty Bool :=.z0 307 [.t 6] wB
def HD:=λa0 a1 a2 a3=>LY.run (HE a0 a1 a2 a3)
def Z6o(a0)(a1)(a2)(a3){r}(h:HD a0 a1 a2 a3=some r):Fn PR 307 [wI a0,wI a1,.vptr ((cL (cI .i64)) a2),.vptr ((cL (cL cB)) a3)] (wB r):=LY.fn h
def HG(a0:Int)(b0:Int)(b1:List (List Bool))(b2:(List Int)×(List (List Bool))):LT Empty Bool:=
.cs (a0 != b0) (.k4 0<|.call (Z77 b1 b0 a0) λx2=>.kg 0<|.cs x2 (.k4 1<|.call (Z6o a0 b0 b2.1 b2.2) λx5=>.k2 1<|.rt (!x5))<|.k5 1<|.kg 1<|.rt false)<|.k5 0<|.b5 false<|.kb false<|.rt false
def LZ(b0:Int)(b1:List (List Bool))(b2:(List Int)×(List (List Bool))):LF Empty Bool :=.z 269 [.t 5] true (λr=>[(0,.box (bx ((cI .i64) b0))),(1,.box (bx ((cL (cL cB)) b1))),(2,.box [.fn 307 [.vptr ((cL (cI .i64)) b2.1),.vptr ((cL (cL cB)) b2.2)]])]) (λr=>(wB r))
def HF(a0:Int)(b0:Int)(b1:List (List Bool))(b2:(List Int)×(List (List Bool))):Option Bool:=(LZ b0 b1 b2).run (HG a0 b0 b1 b2)
def Zcy(a0:Int)(b0:Int)(b1:List (List Bool))(b2:(List Int)×(List (List Bool))){r:Bool}(h:HF a0 b0 b1 b2=some r):FnG PR 269 [(0,.box (bx ((cI .i64) b0))),(1,.box (bx ((cL (cL cB)) b1))),(2,.box [.fn 307 [.vptr ((cL (cI .i64)) b2.1),.vptr ((cL (cL cB)) b2.2)]])] [wI a0,.bptr 0 0,.bptr 1 0,.bptr 2 0] [(0,.box (bx ((cI .i64) b0))),(1,.box (bx ((cL (cL cB)) b1))),(2,.box [.fn 307 [.vptr ((cL (cI .i64)) b2.1),.vptr ((cL (cL cB)) b2.2)]])] (wB r):=(LZ b0 b1 b2).fn h
inductive pX where
 |L0 (v0:List Int) (c0:Int) (c1:List (List Bool)) (c2:(List Int)×(List (List Bool))) (v7:Int) (v8:Int)
def HL(v0:List Int)(c0:Int)(c1:List (List Bool))(c2:(List Int)×(List (List Bool)))(v7:Int)(v8:Int):LT pX (Int×Int×(List (List Bool))×((List Int)×(List (List Bool)))):=
.br (decide (v8<v7)) (.idx (cI .i64) v0 v8 λx2=>.callO (Zcy x2 c0 c1 c2) [0,1,2] 170000 (λx=>[]) λx4=>.br x4 (.rt (v8,c0,c1,c2))<|.g0 (.L0 v0 c0 c1 c2 v7 (IntKind.wrap .i64 (v8+1))))<|.rt ((-1),c0,c1,c2)
def HK(a0:List Int)(b0:Int)(b1:List (List Bool))(b2:(List Int)×(List (List Bool))):LT pX (Int×Int×(List (List Bool))×((List Int)×(List (List Bool)))):=
.len (cI .i64) a0<|.g0 (.L0 a0 b0 b1 b2 (a0.length:Int) 0)
def zl:LF pX (Int×Int×(List (List Bool))×((List Int)×(List (List Bool)))) :=.m 194 [.t 4] true (λr=>[(0,.box (bx ((cI .i64) r.2.1))),(1,.box (bx ((cL (cL cB)) r.2.2.1))),(2,.box [.fn 307 [.vptr ((cL (cI .i64)) r.2.2.2.1),.vptr ((cL (cL cB)) r.2.2.2.2)]])]) (λr=>(wI r.1)) λ|.L0 v0 c0 c1 c2 v7 v8=>([1,0,1,4],⟨19,[(0,wL (cI .i64) v0),(1,.fn 269 [.bptr 0 0,.bptr 1 0,.bptr 2 0]),(7,wI v7),(8,wI v8)],[(0,.box (bx ((cI .i64) c0))),(1,.box (bx ((cL (cL cB)) c1))),(2,.box [.fn 307 [.vptr ((cL (cI .i64)) c2.1),.vptr ((cL (cL cB)) c2.2)]])]⟩,HL v0 c0 c1 c2 v7 v8)
def HJ:=λa0 b0 b1 b2=>zl.run (HK a0 b0 b1 b2)
def Zcz(a0)(b0)(b1)(b2){r}(h:HJ a0 b0 b1 b2=some r):FnG PR 194 [(0,.box (bx ((cI .i64) b0))),(1,.box (bx ((cL (cL cB)) b1))),(2,.box [.fn 307 [.vptr ((cL (cI .i64)) b2.1),.vptr ((cL (cL cB)) b2.2)]])] [wL (cI .i64) a0,.fn 269 [.bptr 0 0,.bptr 1 0,.bptr 2 0]] [(0,.box (bx ((cI .i64) r.2.1))),(1,.box (bx ((cL (cL cB)) r.2.2.1))),(2,.box [.fn 307 [.vptr ((cL (cI .i64)) r.2.2.2.1),.vptr ((cL (cL cB)) r.2.2.2.2)]])] (wI r.1):=zl.fn h
def HN(a0:List Int)(b0:Int)(b1:List (List Bool))(b2:(List Int)×(List (List Bool))):LT Empty (Bool×Int×(List (List Bool))×((List Int)×(List (List Bool)))):=
.callU (Zcz a0 b0 b1 b2) [0,1,2] 80000 λx1=>.rt (decide (x1.1>=0),x1.2.1,x1.2.2.1,x1.2.2.2)
def L8:LF Empty (Bool×Int×(List (List Bool))×((List Int)×(List (List Bool)))) :=.z 268 [.t 4] true (λr=>[(0,.box (bx ((cI .i64) r.2.1))),(1,.box (bx ((cL (cL cB)) r.2.2.1))),(2,.box [.fn 307 [.vptr ((cL (cI .i64)) r.2.2.2.1),.vptr ((cL (cL cB)) r.2.2.2.2)]])]) (λr=>(wB r.1))
def HM:=λa0 b0 b1 b2=>L8.run (HN a0 b0 b1 b2)
def ZcA(a0)(b0)(b1)(b2){r}(h:HM a0 b0 b1 b2=some r):FnG PR 268 [(0,.box (bx ((cI .i64) b0))),(1,.box (bx ((cL (cL cB)) b1))),(2,.box [.fn 307 [.vptr ((cL (cI .i64)) b2.1),.vptr ((cL (cL cB)) b2.2)]])] [wL (cI .i64) a0,.fn 269 [.bptr 0 0,.bptr 1 0,.bptr 2 0]] [(0,.box (bx ((cI .i64) r.2.1))),(1,.box (bx ((cL (cL cB)) r.2.2.1))),(2,.box [.fn 307 [.vptr ((cL (cI .i64)) r.2.2.2.1),.vptr ((cL (cL cB)) r.2.2.2.2)]])] (wB r.1):=L8.fn h
inductive pY where
 |L0 (E0:List (List Bool)) (v5:List Int) (E1:(List Int)×(List (List Bool))) (v7:List Int) (v16:List Int) (v17:Int) (v18:Int)
def HQ(E0:List (List Bool))(v5:List Int)(E1:(List Int)×(List (List Bool)))(v7:List Int)(v16:List Int)(v17:Int)(v18:Int):LT pY (List Int):=
.br (decide (v18<v17)) (.idx (cI .i64) v16 v18 λx2=>.lb 1009<|.callU (ZcA v5 x2 E0 E1) [1009,3000,3001] 250000 λx4=>.br (!x4.1) (.dr [.lit]<|.apR (cI .i64) 8 v7 [x4.2.1] λx7=>.g0 (.L0 x4.2.2.1 v5 x4.2.2.2 x7 v16 v17 (IntKind.wrap .i64 (v18+1))))<|.g0 (.L0 x4.2.2.1 v5 x4.2.2.2 v7 v16 v17 (IntKind.wrap .i64 (v18+1))))<|.ret v7 [.relab 20007 5000]
def HP(a0:List Int)(a1:List (List Bool)):LT pY (List Int):=
.lb 1003<|.call (Zcw a0) λx1=>.call (Zcx x1 a1) λx3=>.lb 1006<|.len (cI .i64) x1<|.go (.L0 a1 x1 x3 ([]:List Int) x1 (x1.length:Int) 0) [.relab 1003 3000,.relab 1006 3001,.own 7 20007 1]
def Z1l:LF pY (List Int) :=.m 204 [.t 4] true (λr=>[(5000,wR (cI .i64) 1 r)]) (λr=>(wO (cI .i64) 5000 r)) λ|.L0 E0 v5 E1 v7 v16 v17 v18=>([1,1,1,1,0,1,4],⟨33,[(3,.bptr 3000 0),(5,wL (cI .i64) v5),(6,.bptr 3001 0),(7,wO (cI .i64) 20007 v7),(16,wL (cI .i64) v16),(17,wI v17),(18,wI v18)],[(3000,.box (bx ((cL (cL cB)) E0))),(3001,.box [.fn 307 [.vptr ((cL (cI .i64)) E1.1),.vptr ((cL (cL cB)) E1.2)]]),(20007,wR (cI .i64) 1 v7)]⟩,HQ E0 v5 E1 v7 v16 v17 v18)
def Z78:=λa0 a1=>Z1l.run (HP a0 a1)
def ZcB(a0)(a1){r}(h:Z78 a0 a1=some r):FnG PR 204 [] [wL (cI .i64) a0,wL (cL cB) a1] [(5000,wR (cI .i64) 1 r)] (wO (cI .i64) 5000 r):=Z1l.fn h
def ZcC(a0:List Int)(a1:List (List Bool)){r:List Int}(h:Z78 a0 a1=some r):Fn PR 204 [wL (cI .i64) a0,wL (cL cB) a1] (wL (cI .i64) r):=FnG.frozen (C:=LT.RL (cI .i64) r/\True) (ZcB a0 a1 h) ⟨rfl,aa⟩ ar
def HS(a0:List Int)(a1:Int):LT Empty Int:=
.len (cI .i64) a0<|.br (decide (a1<(a0.length:Int))) (.idx (cI .i64) a0 a1 λx3=>.rt x3)<|.rt 0
def L9:LF Empty Int :=.z0 205 [.t 4] wI
def HR:=λa0 a1=>L9.run (HS a0 a1)
def Ma(a0)(a1){r}(h:HR a0 a1=some r):Fn PR 205 [wL (cI .i64) a0,wI a1] (wI r):=L9.fn h
inductive pZ where
 |L0 (v1:List Int) (v7:Int) (v14:List Int) (v15:Int) (v16:Int)
def HW(v1:List Int)(v7:Int)(v14:List Int)(v15:Int)(v16:Int):LT pZ Int:=
.br (decide (v16<v15)) (.idx (cI .i64) v14 v16 λx2=>.br (decide (v7<0)) (.g0 (.L0 v1 x2 v14 v15 (IntKind.wrap .i64 (v16+1))))<|.call (Ma v1 x2) λx7=>.call (Ma v1 v7) λx9=>.cs (decide (x7<x9)) (.k5 2<|.kg 2<|.kn [0]<|.g0 (.L0 v1 x2 v14 v15 (IntKind.wrap .i64 (v16+1))))<|.k4 2<|.cs (x7==x9) (.k3 3<|.kg 2<|.kg 3<|.kg 2<|.br (decide (x2<v7)) (.g0 (.L0 v1 x2 v14 v15 (IntKind.wrap .i64 (v16+1))))<|.g0 (.L0 v1 v7 v14 v15 (IntKind.wrap .i64 (v16+1))))<|.k3 3<|.kg 2<|.kg 3<|.kg 2<|.kn [0]<|.g0 (.L0 v1 v7 v14 v15 (IntKind.wrap .i64 (v16+1))))<|.rt v7
def HU(a0:List Int)(a1:List Int)(a2:List (List Bool)):LT pZ Int:=
.call (ZcC a0 a2) λx1=>.len (cI .i64) x1<|.g0 (.L0 a1 (-1) x1 (x1.length:Int) 0)
def Z4o:LF pZ Int :=.m0 157 [.t 6] wI λ|.L0 v1 v7 v14 v15 v16=>([1,1,0,1,4],⟨45,[(1,wL (cI .i64) v1),(7,wI v7),(14,wL (cI .i64) v14),(15,wI v15),(16,wI v16)],[]⟩,HW v1 v7 v14 v15 v16)
def HT:=λa0 a1 a2=>Z4o.run (HU a0 a1 a2)
def ZcD(a0)(a1)(a2){r}(h:HT a0 a1 a2=some r):Fn PR 157 [wL (cI .i64) a0,wL (cI .i64) a1,wL (cL cB) a2] (wI r):=Z4o.fn h
inductive qa where
 |L0 (c0:aB) (v10:List ak) (v11:Int) (v12:Int)
def zo(c0:aB)(v10:List ak)(v11:Int)(v12:Int):LT qa aB:=
.br (decide (v12<v11)) (.idx aC v10 v12 λx2=>.lb 1003<|.idxR ay c0.traits v12 λx4=>.cs (x2.Zone==0) (.k2 1<|.rl ay c0.traits<|.kg 1<|.rl ay c0.traits<|.kg 1<|.rl ay c0.traits<|.kg 1<|.ldR ay c0.traits x4 5<|.k3 1<|.br ((bJ .and .i64 x4.Line.Types 1) != 0) (.call (Zb6 x2.Counters) λx8=>.rl ay c0.traits<|.rl ay c0.traits<|.ldR ay c0.traits x4 5<|.call (qS x4.Power x8) λx10=>.rl ay c0.traits<|.rl ay c0.traits<|.ldR ay c0.traits x4 5<|.call (qS x4.Tough x8) λx12=>.rl ay c0.traits<|.rl ay c0.traits<|.setD ay c0.traits v12 x4 (⟨x4.Name,x4.Cost,x4.Colors,x4.Line,x10,x4.Tough,x4.Keys,x4.Abilities,x4.Control⟩:ah) 5 12 [.int .i64 x10] rfl λx14=>.us [8]<|.us [8]<|.setE ay c0.traits x14 v12 (⟨x4.Name,x4.Cost,x4.Colors,x4.Line,x10,x4.Tough,x4.Keys,x4.Abilities,x4.Control⟩:ah) (⟨((⟨x4.Name,x4.Cost,x4.Colors,x4.Line,x10,x4.Tough,x4.Keys,x4.Abilities,x4.Control⟩:ah)).Name,(⟨(((⟨x4.Name,x4.Cost,x4.Colors,x4.Line,x10,x4.Tough,x4.Keys,x4.Abilities,x4.Control⟩:ah)).Cost).Generic,(((⟨x4.Name,x4.Cost,x4.Colors,x4.Line,x10,x4.Tough,x4.Keys,x4.Abilities,x4.Control⟩:ah)).Cost).X,(((⟨x4.Name,x4.Cost,x4.Colors,x4.Line,x10,x4.Tough,x4.Keys,x4.Abilities,x4.Control⟩:ah)).Cost).Color⟩:Z4),((⟨x4.Name,x4.Cost,x4.Colors,x4.Line,x10,x4.Tough,x4.Keys,x4.Abilities,x4.Control⟩:ah)).Colors,((⟨x4.Name,x4.Cost,x4.Colors,x4.Line,x10,x4.Tough,x4.Keys,x4.Abilities,x4.Control⟩:ah)).Line,((⟨x4.Name,x4.Cost,x4.Colors,x4.Line,x10,x4.Tough,x4.Keys,x4.Abilities,x4.Control⟩:ah)).Power,x12,((⟨x4.Name,x4.Cost,x4.Colors,x4.Line,x10,x4.Tough,x4.Keys,x4.Abilities,x4.Control⟩:ah)).Keys,((⟨x4.Name,x4.Cost,x4.Colors,x4.Line,x10,x4.Tough,x4.Keys,x4.Abilities,x4.Control⟩:ah)).Abilities,((⟨x4.Name,x4.Cost,x4.Colors,x4.Line,x10,x4.Tough,x4.Keys,x4.Abilities,x4.Control⟩:ah)).Control⟩:ah) 7 12 13 [.int .i64 x12] rfl λx16=>.dr [.ahead 56,.relen 1,.stop]<|.us [9]<|.us [9]<|.us [9]<|.us [9]<|.us [9]<|.us [9]<|.us [9]<|.us [9]<|.us [9]<|.us [9]<|.us [9]<|.us [9]<|.us [9]<|.us [9]<|.us [9]<|.us [9]<|.us [9]<|.us [9]<|.us [9]<|.us [9]<|.g0 (.L0 (⟨c0.s,c0.forces,x16,c0.dropped,c0.done,c0.hits⟩:aB) v10 v11 (IntKind.wrap .i64 (v12+1))))<|.g0 (.L0 c0 v10 v11 (IntKind.wrap .i64 (v12+1))))<|.k8 1<|.kn [0]<|.g0 (.L0 c0 v10 v11 (IntKind.wrap .i64 (v12+1))))<|.rt c0
def HY(b0:aB):LT qa aB:=
.len aC b0.s.Objects<|.g0 (.L0 b0 b0.s.Objects (b0.s.Objects.length:Int) 0)
def Mb:LF qa aB :=.m 155 [] true (λr=>[(0,.box (tm1 r)),(1,wR ay 17 r.traits),(2,wR cB 1 r.dropped),(3,wR cB 1 r.done),(4,wR (cL (cI .i64)) 1 r.hits)]) (λr =>.tup []) λ|.L0 c0 v10 v11 v12=>([1,4],⟨57,[(0,.bptr 0 0),(10,wL aC v10),(11,wI v11),(12,wI v12)],[(0,.box (tm1 c0)),(1,wR ay 17 c0.traits),(2,wR cB 1 c0.dropped),(3,wR cB 1 c0.done),(4,wR (cL (cI .i64)) 1 c0.hits)]⟩,zo c0 v10 v11 v12)
def zn:=λb0=>Mb.run (HY b0)
def ZcE(b0){r}(h:zn b0=some r):FnG PR 155 [(0,.box (tm1 b0)),(1,wR ay 17 b0.traits),(2,wR cB 1 b0.dropped),(3,wR cB 1 b0.done),(4,wR (cL (cI .i64)) 1 b0.hits)] [.bptr 0 0] [(0,.box (tm1 r)),(1,wR ay 17 r.traits),(2,wR cB 1 r.dropped),(3,wR cB 1 r.done),(4,wR (cL (cI .i64)) 1 r.hits)] (.tup []):=Mb.fn h
inductive qb where
 |L0 (v1:Int) (v2:Int) (E1:cU) (v18:List ai) (v19:Int) (v20:Int)
def H4(b0:aB)(v1:Int)(v2:Int)(E1:cU)(v18:List ai)(v19:Int)(v20:Int):LT qb Bool:=
.br (decide (v20<v19)) (.idx aF v18 v20 λx2=>.lb 1009<|.cs (x2.Kind==11) (.k3 1<|.call (va x2.Kind) λx5=>.k3 1<|.cs (x5==v2) (.k4 2<|.call (Z3g x2.Filter v2) λx8=>.kg 2<|.br x8 (.rt true)<|.g0 (.L0 v1 v2 E1 v18 v19 (IntKind.wrap .i64 (v20+1))))<|.k5 2<|.kn [0]<|.g0 (.L0 v1 v2 E1 v18 v19 (IntKind.wrap .i64 (v20+1))))<|.k5 1<|.kg 1<|.b5 false<|.kn [0]<|.g0 (.L0 v1 v2 E1 v18 v19 (IntKind.wrap .i64 (v20+1))))<|.cs (!E1.Fixed) (.k5 1<|.kg 1<|.idxR cB b0.done v1 λx18=>.kg 1<|.ldR cB b0.done x18 2<|.k2 1<|.cs (!x18) (.k3 2<|.cs (v2==4) (.k4 3<|.kg 2<|.kg 3<|.kg 2<|.rt true)<|.k4 3<|.call (Z3g E1.Filter v2) λx22=>.kg 2<|.kg 3<|.kg 2<|.rt x22)<|.k5 2<|.rt false)<|.k8 1<|.kg 1<|.b5 false<|.rt false
def H3(b0:aB)(a1:Int)(a2:Int):LT qb Bool:=
.idx cF b0.forces a1 λx1=>.lb 1007<|.len aF x1.Mods<|.go (.L0 a1 a2 x1 x1.Mods (x1.Mods.length:Int) 0) [.relab 1007 3001]
def zp(b0:aB):LF qb Bool :=.m 206 [.t 6] true (λr=>[(0,.box (tm1 b0)),(1,wR ay 17 b0.traits),(2,wR cB 1 b0.dropped),(3,wR cB 1 b0.done),(4,wR (cL (cI .i64)) 1 b0.hits)]) wB λ|.L0 v1 v2 E1 v18 v19 v20=>([1,1,0,1,4],⟨64,[(0,.bptr 0 0),(1,wI v1),(2,wI v2),(7,.bptr 3001 0),(18,wL aF v18),(19,wI v19),(20,wI v20)],[(0,.box (tm1 b0)),(1,wR ay 17 b0.traits),(2,wR cB 1 b0.dropped),(3,wR cB 1 b0.done),(4,wR (cL (cI .i64)) 1 b0.hits),(3001,.box (bx (cF E1)))]⟩,H4 b0 v1 v2 E1 v18 v19 v20)
def H2(b0:aB)(a1:Int)(a2:Int):Option Bool:=(zp b0).run (H3 b0 a1 a2)
def ZcF(b0:aB)(a1:Int)(a2:Int){r:Bool}(h:H2 b0 a1 a2=some r):FnG PR 206 [(0,.box (tm1 b0)),(1,wR ay 17 b0.traits),(2,wR cB 1 b0.dropped),(3,wR cB 1 b0.done),(4,wR (cL (cI .i64)) 1 b0.hits)] [.bptr 0 0,wI a1,wI a2] [(0,.box (tm1 b0)),(1,wR ay 17 b0.traits),(2,wR cB 1 b0.dropped),(3,wR cB 1 b0.done),(4,wR (cL (cI .i64)) 1 b0.hits)] (wB r):=(zp b0).fn h
def H7(b0:aB)(a1:Int):LT Empty Bool:=
.idx cF b0.forces a1 λx1=>.lb 1005<|.cs x1.Fixed (.k8 0<|.kn [0]<|.rt true)<|.k5 0<|.kg 0<|.idxR cB b0.done a1 λx4=>.kg 0<|.ldR cB b0.done x4 5<|.kg 0<|.br x4 (.rt true)<|.call (Lv b0.s x1.Source) λx7=>.cs (decide (x7<0)) (.k8 2<|.kg 2<|.rt true)<|.k5 2<|.kg 2<|.idxR cB b0.dropped x7 λx10=>.kg 2<|.ldR cB b0.dropped x10 8<|.k2 2<|.rt (!x10)
def Mc(b0:aB):LF Empty Bool :=.z 272 [.t 4] true (λr=>[(0,.box (tm1 b0)),(1,wR ay 17 b0.traits),(2,wR cB 1 b0.dropped),(3,wR cB 1 b0.done),(4,wR (cL (cI .i64)) 1 b0.hits)]) (λr=>(wB r))
def H6(b0:aB)(a1:Int):Option Bool:=(Mc b0).run (H7 b0 a1)
def Md(b0:aB)(a1:Int){r:Bool}(h:H6 b0 a1=some r):FnG PR 272 [(0,.box (tm1 b0)),(1,wR ay 17 b0.traits),(2,wR cB 1 b0.dropped),(3,wR cB 1 b0.done),(4,wR (cL (cI .i64)) 1 b0.hits)] [.bptr 0 0,wI a1] [(0,.box (tm1 b0)),(1,wR ay 17 b0.traits),(2,wR cB 1 b0.dropped),(3,wR cB 1 b0.done),(4,wR (cL (cI .i64)) 1 b0.hits)] (wB r):=(Mc b0).fn h
def H9(b0:aB)(a1:Int):LT Empty Int:=
.idx cF b0.forces a1 λx1=>.lb 1005<|.call (Lv b0.s x1.Source) λx3=>.cs (!x1.Fixed) (.k3 0<|.br (decide (x3>=0)) (.idxR ay b0.traits x3 λx7=>.rl ay b0.traits<|.ldR ay b0.traits x7 5<|.rt x7.Control)<|.rt x1.Control)<|.k3 0<|.kn [0]<|.rt x1.Control
def Me(b0:aB):LF Empty Int :=.z 213 [.t 4] true (λr=>[(0,.box (tm1 b0)),(1,wR ay 17 b0.traits),(2,wR cB 1 b0.dropped),(3,wR cB 1 b0.done),(4,wR (cL (cI .i64)) 1 b0.hits)]) (λr=>(wI r))
def H8(b0:aB)(a1:Int):Option Int:=(Me b0).run (H9 b0 a1)
def Ax(b0:aB)(a1:Int){r:Int}(h:H8 b0 a1=some r):FnG PR 213 [(0,.box (tm1 b0)),(1,wR ay 17 b0.traits),(2,wR cB 1 b0.dropped),(3,wR cB 1 b0.done),(4,wR (cL (cI .i64)) 1 b0.hits)] [.bptr 0 0,wI a1] [(0,.box (tm1 b0)),(1,wR ay 17 b0.traits),(2,wR cB 1 b0.dropped),(3,wR cB 1 b0.done),(4,wR (cL (cI .i64)) 1 b0.hits)] (wI r):=(Me b0).fn h
inductive qc where
 |L0 (E1:cU) (v6:Int) (v7:List Int) (v42:List ak) (v43:Int) (v44:Int)
def If(b0:aB)(E1:cU)(v6:Int)(v7:List Int)(v42:List ak)(v43:Int)(v44:Int):LT qc (List Int):=
.br (decide (v44<v43)) (.idx aC v42 v44 λx2=>.lb 1009<|.cs (x2.Zone==0) (.k3 1<|.cs E1.Fixed (.k5 2<|.call (u7 E1.Objects x2.Id) λx6=>.kg 1<|.kg 2<|.kg 1<|.cs x6 (.k5 3<|.kg 1<|.kg 3<|.kg 1<|.kn [0]<|.dr [.lit]<|.apR (cI .i64) 8 v7 [v44] λx9=>.g0 (.L0 E1 v6 x9 v42 v43 (IntKind.wrap .i64 (v44+1))))<|.k4 3<|.cs (!E1.Fixed) (.k5 4<|.k2 4<|.idxR ay b0.traits v44 λx15=>.kg 4<|.ldR ay b0.traits x15 5<|.k5 4<|.kg 4<|.call (Aw x2 x15 v6 E1.Source E1.Filter) λx17=>.kg 3<|.kg 4<|.kg 1<|.kg 3<|.kg 1<|.br x17 (.dr [.lit]<|.apR (cI .i64) 8 v7 [v44] λx20=>.g0 (.L0 E1 v6 x20 v42 v43 (IntKind.wrap .i64 (v44+1))))<|.g0 (.L0 E1 v6 v7 v42 v43 (IntKind.wrap .i64 (v44+1))))<|.k8 4<|.k5 4<|.kg 4<|.kg 3<|.kg 4<|.kg 1<|.kg 3<|.kg 1<|.kn [0]<|.g0 (.L0 E1 v6 v7 v42 v43 (IntKind.wrap .i64 (v44+1))))<|.k5 2<|.kg 1<|.kg 2<|.kg 1<|.b4 false<|.cs (!E1.Fixed) (.k5 3<|.k2 3<|.idxR ay b0.traits v44 λx30=>.kg 3<|.ldR ay b0.traits x30 5<|.k5 3<|.kg 3<|.call (Aw x2 x30 v6 E1.Source E1.Filter) λx32=>.kb false<|.kg 3<|.kg 1<|.kb false<|.kg 1<|.br x32 (.dr [.lit]<|.apR (cI .i64) 8 v7 [v44] λx35=>.g0 (.L0 E1 v6 x35 v42 v43 (IntKind.wrap .i64 (v44+1))))<|.g0 (.L0 E1 v6 v7 v42 v43 (IntKind.wrap .i64 (v44+1))))<|.k8 3<|.k5 3<|.kg 3<|.kb false<|.kg 3<|.kg 1<|.kb false<|.kg 1<|.kn [0]<|.g0 (.L0 E1 v6 v7 v42 v43 (IntKind.wrap .i64 (v44+1))))<|.k5 1<|.k2 1<|.kn [0]<|.g0 (.L0 E1 v6 v7 v42 v43 (IntKind.wrap .i64 (v44+1))))<|.rl (cI .i64) v7<|.rl (cI .i64) v7<|.rl (cI .i64) v7<|.ret v7 [.frz 20007]
def Ie(b0:aB)(a1:Int):LT qc (List Int):=
.idxR cB b0.done a1 λx1=>.ldR cB b0.done x1 2<|.br x1 (.idxR (cL (cI .i64)) b0.hits a1 λx4=>.ldR (cL (cI .i64)) b0.hits x4 5<|.rt x4)<|.callO (Md b0 a1) [0,1,2,3,4] 270000 (λx=>[]) λx6=>.br (!x6) (.ret ([]:List Int) [.nilt 4])<|.idx cF b0.forces a1 λx9=>.callO (Ax b0 a1) [0,1,2,3,4] 380000 (λx=>[]) λx11=>.lb 1005<|.len aC b0.s.Objects<|.go (.L0 x9 x11 ([]:List Int) b0.s.Objects (b0.s.Objects.length:Int) 0) [.relab 1005 3001,.own 7 20007 1]
def zt(b0:aB):LF qc (List Int) :=.m 211 [.t 4] true (λr=>[(0,.box (tm1 b0)),(1,wR ay 17 b0.traits),(2,wR cB 1 b0.dropped),(3,wR cB 1 b0.done),(4,wR (cL (cI .i64)) 1 b0.hits)]) (λr=>(wL (cI .i64) r)) λ|.L0 E1 v6 v7 v42 v43 v44=>([1,1,1,1,1,0,1,4],⟨90,[(0,.bptr 0 0),(5,.bptr 3001 0),(6,wI v6),(7,wO (cI .i64) 20007 v7),(42,wL aC v42),(43,wI v43),(44,wI v44)],[(0,.box (tm1 b0)),(1,wR ay 17 b0.traits),(2,wR cB 1 b0.dropped),(3,wR cB 1 b0.done),(4,wR (cL (cI .i64)) 1 b0.hits),(3001,.box (bx (cF E1))),(20007,wR (cI .i64) 1 v7)]⟩,If b0 E1 v6 v7 v42 v43 v44)
def Ic(b0:aB)(a1:Int):Option (List Int):=(zt b0).run (Ie b0 a1)
def Mf(b0:aB)(a1:Int){r:List Int}(h:Ic b0 a1=some r):FnG PR 211 [(0,.box (tm1 b0)),(1,wR ay 17 b0.traits),(2,wR cB 1 b0.dropped),(3,wR cB 1 b0.done),(4,wR (cL (cI .i64)) 1 b0.hits)] [.bptr 0 0,wI a1] [(0,.box (tm1 b0)),(1,wR ay 17 b0.traits),(2,wR cB 1 b0.dropped),(3,wR cB 1 b0.done),(4,wR (cL (cI .i64)) 1 b0.hits)] (wL (cI .i64) r):=(zt b0).fn h
inductive qe where
 |L0 (v1:Int) (v2:Int) (E1:cU) (v8:List Int) (v23:List ai) (v24:Int) (v25:Int)
def Ik(b0:aB)(v1:Int)(v2:Int)(E1:cU)(v8:List Int)(v23:List ai)(v24:Int)(v25:Int):LT qe (List Int):=
.br (decide (v25<v24)) (.idx aF v23 v25 λx2=>.lb 1010<|.cs (x2.Kind==11) (.k3 1<|.call (va x2.Kind) λx5=>.k3 1<|.br (x5==v2) (.callO (Ax b0 v1) [0,1,2,3,4] 530000 (λx=>[]) λx8=>.rl ay b0.traits<|.callS (LL b0.s b0.traits x8 E1.Source x2.Filter) 580000 (λ_=>⟨rfl,kt (cI .i64) (λ_=>rfl) _,aa⟩) λx10=>.lenO (cI .i64) x10<|.idxR (cI .i64) v8 v25 λx12=>.setD (cI .i64) v8 v25 x12 (x10.length:Int) 5 0 [.int .i64 (x10.length:Int)] rfl λx14=>.dr [.ahead 60,.relen 20008,.stop]<|.us [6]<|.us [6]<|.us [6]<|.g0 (.L0 v1 v2 E1 x14 v23 v24 (IntKind.wrap .i64 (v25+1))))<|.g0 (.L0 v1 v2 E1 v8 v23 v24 (IntKind.wrap .i64 (v25+1))))<|.k5 1<|.kg 1<|.kn [0]<|.g0 (.L0 v1 v2 E1 v8 v23 v24 (IntKind.wrap .i64 (v25+1))))<|.ret v8 [.relab 20008 5000]
def Ij(b0:aB)(a1:Int)(a2:Int):LT qe (List Int):=
.idx cF b0.forces a1 λx1=>.lb 1007<|.len aF x1.Mods<|.mk (cI .i64) 1021 8 0 (x1.Mods.length:Int) (x1.Mods.length:Int) λx4=>.len aF x1.Mods<|.go (.L0 a1 a2 x1 x4 x1.Mods (x1.Mods.length:Int) 0) [.relab 1007 3001,.relab 1021 20008]
def zv(b0:aB):LF qe (List Int) :=.m 212 [.t 6] true (λr=>[(5000,wR (cI .i64) 1 r),(0,.box (tm1 b0)),(1,wR ay 17 b0.traits),(2,wR cB 1 b0.dropped),(3,wR cB 1 b0.done),(4,wR (cL (cI .i64)) 1 b0.hits)]) (λr=>(wO (cI .i64) 5000 r)) λ|.L0 v1 v2 E1 v8 v23 v24 v25=>([1,1,1,0,1,4],⟨62,[(0,.bptr 0 0),(1,wI v1),(2,wI v2),(7,.bptr 3001 0),(8,wO (cI .i64) 20008 v8),(23,wL aF v23),(24,wI v24),(25,wI v25)],[(0,.box (tm1 b0)),(1,wR ay 17 b0.traits),(2,wR cB 1 b0.dropped),(3,wR cB 1 b0.done),(4,wR (cL (cI .i64)) 1 b0.hits),(3001,.box (bx (cF E1))),(20008,wR (cI .i64) 1 v8)]⟩,Ik b0 v1 v2 E1 v8 v23 v24 v25)
def Ii(b0:aB)(a1:Int)(a2:Int):Option (List Int):=(zv b0).run (Ij b0 a1 a2)
def Mg(b0:aB)(a1:Int)(a2:Int){r:List Int}(h:Ii b0 a1 a2=some r):FnG PR 212 [(0,.box (tm1 b0)),(1,wR ay 17 b0.traits),(2,wR cB 1 b0.dropped),(3,wR cB 1 b0.done),(4,wR (cL (cI .i64)) 1 b0.hits)] [.bptr 0 0,wI a1,wI a2] [(5000,wR (cI .i64) 1 r),(0,.box (tm1 b0)),(1,wR ay 17 b0.traits),(2,wR cB 1 b0.dropped),(3,wR cB 1 b0.done),(4,wR (cL (cI .i64)) 1 b0.hits)] (wO (cI .i64) 5000 r):=(zv b0).fn h
def Ip(b0:aB)(a1:Int)(a2:Int):LT Empty dA:=
.lb 1006<|.callO (Md b0 a1) [0,1,2,3,4] 100000 (λx=>[]) λx1=>.callO (Mf b0 a1) [0,1,2,3,4] 130000 (λx=>[]) λx3=>.callO (Mg b0 a1 a2) [0,1,2,3,4] 170000 (λx=>[(5000,wR (cI .i64) 1 x)]) λx5=>.ret (⟨x1,x3,x5⟩:dA) [.relab 175000 5002]
def Mh(b0:aB):LF Empty dA :=.z 207 [.c 6 258 true 3] true (λr=>[(5002,wR (cI .i64) 1 r.numbers),(0,.box (tm1 b0)),(1,wR ay 17 b0.traits),(2,wR cB 1 b0.dropped),(3,wR cB 1 b0.done),(4,wR (cL (cI .i64)) 1 b0.hits)]) (λr=>(.agg [wB r.active,wL (cI .i64) r.hits,wO (cI .i64) 5002 r.numbers]))
def Io(b0:aB)(a1:Int)(a2:Int):Option dA:=(Mh b0).run (Ip b0 a1 a2)
def Mi(b0:aB)(a1:Int)(a2:Int){r:dA}(h:Io b0 a1 a2=some r):FnG PR 207 [(0,.box (tm1 b0)),(1,wR ay 17 b0.traits),(2,wR cB 1 b0.dropped),(3,wR cB 1 b0.done),(4,wR (cL (cI .i64)) 1 b0.hits)] [.bptr 0 0,wI a1,wI a2] [(5002,wR (cI .i64) 1 r.numbers),(0,.box (tm1 b0)),(1,wR ay 17 b0.traits),(2,wR cB 1 b0.dropped),(3,wR cB 1 b0.done),(4,wR (cL (cI .i64)) 1 b0.hits)] (.agg [wB r.active,wL (cI .i64) r.hits,wO (cI .i64) 5002 r.numbers]):=(Mh b0).fn h
def Ay(a0:List (Opq 17))(hne:a0≠[]):LT Empty (List (Opq 17)):=
.ne (eC (k:=17)) hne<|.kn [0]<|.lb 1005<|.apR (eC (k:=17)) 176 ([]:List (Opq 17)) a0 λx1=>.ret x1 [.relab 1005 5000]
def lT:LF Empty (List (Opq 17)) :=.z 273 [.t 2] true (λr=>[(5000,wR (eC (k:=17)) 17 r)]) (λr=>(wO (eC (k:=17)) 5000 r))
def Az(c:Nat):LT Empty (List (Opq 17)):=
.kn [0]<|.ret ([]:List (Opq 17)) [.own 2 5000 17]
def ZcG(c:Nat)(ad:Addr):LT Empty (List (Opq 17)):=
.kn [0]<|.lb 1005<|.apR (eC (k:=17)) 176 ([]:List (Opq 17)) ([]:List (Opq 17)) λx1=>.ret x1 [.relab 1005 5000]
open Classical in
def ve(a0:List (Opq 17)):Option (List (Opq 17)):=if h:a0≠[]then lT.run (Ay a0 h)else lT.run (Az 0)
def ZcH(a0:List (Opq 17)){r:List (Opq 17)}(h:ve a0=some r):FnG PR 273 [] [wL (eC (k:=17)) a0] [(5000,wR (eC (k:=17)) 17 r)] (wO (eC (k:=17)) 5000 r):=by
 by_cases hne:a0=[]
 .subst hne;have h0:lT.run (Az 0)=some r:=h;exact FnG.split0 (λe=>absurd rfl e) (λ_ a c=>by
   cases a with
   |none=>exact lT.fn (t:=Az c) h0
   |some ad=>exact lT.fn (t:=ZcG c ad) h0)
 have h0:lT.run (Ay a0 hne)=some r:=by unfold ve at h;rwa[eY hne]at h
 exact FnG.split0 (λ_=>lT.fn h0) (λe=>absurd (fm.1 e) hne)
def ZcI:jg PR 273 17 176:=jg.of (g:=ve) (λa h=>by
 unfold ve;by_cases e:a=[]
 .subst e;rfl
 rw[eY e];unfold LF.run;dsimp only[Ay,LT.den];rw[Mj h aS];rfl) (λa _ h=>ZcH a h)
def AA(a0:List (Opq 1))(hne:a0≠[]):LT Empty (List (Opq 1)):=
.ne (eC (k:=1)) hne<|.kn [0]<|.lb 1005<|.apR (eC (k:=1)) 24 ([]:List (Opq 1)) a0 λx1=>.ret x1 [.relab 1005 5000]
def lU:LF Empty (List (Opq 1)) :=.z 275 [.t 2] true (λr=>[(5000,wR (eC (k:=1)) 1 r)]) (λr=>(wO (eC (k:=1)) 5000 r))
def AB(c:Nat):LT Empty (List (Opq 1)):=
.kn [0]<|.ret ([]:List (Opq 1)) [.own 2 5000 1]
def ZcJ(c:Nat)(ad:Addr):LT Empty (List (Opq 1)):=
.kn [0]<|.lb 1005<|.apR (eC (k:=1)) 24 ([]:List (Opq 1)) ([]:List (Opq 1)) λx1=>.ret x1 [.relab 1005 5000]
open Classical in
def vf(a0:List (Opq 1)):Option (List (Opq 1)):=if h:a0≠[]then lU.run (AA a0 h)else lU.run (AB 0)
def ZcK(a0:List (Opq 1)){r:List (Opq 1)}(h:vf a0=some r):FnG PR 275 [] [wL (eC (k:=1)) a0] [(5000,wR (eC (k:=1)) 1 r)] (wO (eC (k:=1)) 5000 r):=by
 by_cases hne:a0=[]
 .subst hne;have h0:lU.run (AB 0)=some r:=h;exact FnG.split0 (λe=>absurd rfl e) (λ_ a c=>by
   cases a with
   |none=>exact lU.fn (t:=AB c) h0
   |some ad=>exact lU.fn (t:=ZcJ c ad) h0)
 have h0:lU.run (AA a0 hne)=some r:=by unfold vf at h;rwa[eY hne]at h
 exact FnG.split0 (λ_=>lU.fn h0) (λe=>absurd (fm.1 e) hne)
def ZcL:jg PR 275 1 24:=jg.of (g:=vf) (λa h=>by
 unfold vf;by_cases e:a=[]
 .subst e;rfl
 rw[eY e];unfold LF.run;dsimp only[AA,LT.den];rw[Mj h aS];rfl) (λa _ h=>ZcK a h)
def Ir(b0:aB):LT Empty aB:=
.lb 1003<|.callC ZcI ay 1011 b0.traits<|.rl cB b0.dropped<|.callS (LP b0.dropped) 170000 (λ_=>⟨rfl,kt cB (λ_=>rfl) _,aa⟩) λx4=>.rl cB b0.done<|.callS (LP b0.done) 220000 (λ_=>⟨rfl,kt cB (λ_=>rfl) _,aa⟩) λx6=>.callC ZcL (cL (cI .i64)) 1026 b0.hits<|.ret (⟨b0.s,b0.forces,b0.traits,x4,x6,b0.hits⟩:aB) [.relab 1003 5000,.relab 1011 5021,.relab 175000 5022,.relab 225000 5023,.relab 1026 5024]
def Mk(b0:aB):LF Empty aB :=.z 210 [.t 2] true (λr=>[(5000,.box (tm7 r 5000)),(5021,wR ay 17 r.traits),(5022,wR cB 1 r.dropped),(5023,wR cB 1 r.done),(5024,wR (cL (cI .i64)) 1 r.hits),(0,.box (tm1 b0)),(1,wR ay 17 b0.traits),(2,wR cB 1 b0.dropped),(3,wR cB 1 b0.done),(4,wR (cL (cI .i64)) 1 b0.hits)]) (λr=>(.bptr 5000 0))
def Iq(b0:aB):Option aB:=(Mk b0).run (Ir b0)
def ZcM(b0:aB){r:aB}(h:Iq b0=some r):FnG PR 210 [(0,.box (tm1 b0)),(1,wR ay 17 b0.traits),(2,wR cB 1 b0.dropped),(3,wR cB 1 b0.done),(4,wR (cL (cI .i64)) 1 b0.hits)] [.bptr 0 0] [(5000,.box (tm7 r 5000)),(5021,wR ay 17 r.traits),(5022,wR cB 1 r.dropped),(5023,wR cB 1 r.done),(5024,wR (cL (cI .i64)) 1 r.hits),(0,.box (tm1 b0)),(1,wR ay 17 b0.traits),(2,wR cB 1 b0.dropped),(3,wR cB 1 b0.done),(4,wR (cL (cI .i64)) 1 b0.hits)] (.bptr 5000 0):=(Mk b0).fn h
end
end Go.PW
