import Derived.Test.YtdjfkajcchcdkaaGreatQDa
set_option linter.all false
set_option maxRecDepth 100000
namespace Go.PW
open Go.RowKit
noncomputable section
inductive jO where
 |L0 (E0:ae) (E1:ae) (v13:Int) (v14:Int)
 |L1 (E0:ae) (E1:ae) (v46:Int) (v47:Int)
 |L2 (E0:ae) (E1:ae) (v81:Int) (v82:Int)
 |L3 (E0:ae) (E1:ae) (v104:Int) (v105:Int)
def Z1c(E0:ae)(E1:ae)(v13:Int)(v14:Int):LT jO ae:=
.br (decide (v14<v13)) (.idxR aJ E0.Players v14 λx2=>.ldR aJ E0.Players x2 2<|.call (Ql x2) λx4=>.plR aJ E0.Players v14 0<|.setD aJ E0.Players v14 x2 x4 2 0 [.int .i64 x4.Life,.int .i64 x4.Venom,.int .i64 x4.Lands,.int .i64 x4.Pool.a0,.int .i64 x4.Pool.a1,.int .i64 x4.Pool.a2,.int .i64 x4.Pool.a3,.int .i64 x4.Pool.a4,.int .i64 x4.Pool.a5,.bool x4.Failed,.bool x4.Lost,.sl (List.map (cI .i64) x4.Library),.sl (List.map (cI .i64) x4.Hand),.sl (List.map (cI .i64) x4.Graveyard)] rfl λx6=>.dr [.ahead 27,.relen 40000,.stop]<|.us [3]<|.us [3]<|.us [3]<|.us [3]<|.us [3]<|.g0 (.L0 (⟨x6,E0.Objects,E0.Battlefield,E0.Exile,E0.Stack,E0.Waiting,E0.Conts,E0.Turn,E0.Active,E0.Step,E0.Begun,E0.Priority,E0.Passes,E0.NextId,E0.NextStamp,E0.Seed,E0.Extra,E0.Over,E0.Winner⟩:ae) E1 v13 (IntKind.wrap .i64 (v14+1))))<|.callF (Qm E0.Objects) 310000 λx10=>.callF (ld E0.Battlefield) 350000 λx12=>.callF (ld E0.Exile) 390000 λx14=>.callF (Qn E0.Stack) 430000 λx16=>.lenO ak x16<|.go (.L1 (⟨E0.Players,x10,x12,x14,x16,E0.Waiting,E0.Conts,E0.Turn,E0.Active,E0.Step,E0.Begun,E0.Priority,E0.Passes,E0.NextId,E0.NextStamp,E0.Seed,E0.Extra,E0.Over,E0.Winner⟩:ae) E1 (x16.length:Int) 0) [.relab 315000 40001,.relab 355000 40002,.relab 395000 40003,.relab 435000 40004]
def Z1d(E0:ae)(E1:ae)(v46:Int)(v47:Int):LT jO ae:=
.br (decide (v47<v46)) (.idxR ak E0.Stack v47 λx2=>.rl ak E0.Stack<|.ldR ak E0.Stack x2 2<|.call (Eo x2.Ability) λx4=>.plR ak E0.Stack v47 0<|.rl ak E0.Stack<|.setD ak E0.Stack v47 x2 (⟨x2.Id,x2.Kind,x2.Source,x2.Control,x2.X,x2.Copy,x4,x2.Targets,x2.Event⟩:az) 2 6 (tm6 x4) rfl λx6=>.dr [.ahead 15,.relen 40004,.stop]<|.us [3]<|.us [3]<|.us [3]<|.us [3]<|.us [3]<|.us [3]<|.us [3]<|.idxR ak x6 v47 λx8=>.rl ak x6<|.ldR ak x6 x8 8<|.call (Qo x8.Targets) λx10=>.plR ak x6 v47 6<|.rl ak x6<|.setD ak x6 v47 x8 (⟨x8.Id,x8.Kind,x8.Source,x8.Control,x8.X,x8.Copy,x8.Ability,x10,x8.Event⟩:az) 8 78 [.sl (List.map Z0 x10)] rfl λx12=>.dr [.ahead 74,.relen 40004,.stop]<|.us [9]<|.us [9]<|.us [9]<|.us [9]<|.us [9]<|.us [9]<|.us [9]<|.us [9]<|.us [9]<|.us [9]<|.us [9]<|.us [9]<|.us [9]<|.g0 (.L1 (⟨E0.Players,E0.Objects,E0.Battlefield,E0.Exile,x12,E0.Waiting,E0.Conts,E0.Turn,E0.Active,E0.Step,E0.Begun,E0.Priority,E0.Passes,E0.NextId,E0.NextStamp,E0.Seed,E0.Extra,E0.Over,E0.Winner⟩:ae) E1 v46 (IntKind.wrap .i64 (v47+1))))<|.callF (Qp E0.Waiting) 780000 λx16=>.lenO aY x16<|.go (.L2 (⟨E0.Players,E0.Objects,E0.Battlefield,E0.Exile,E0.Stack,x16,E0.Conts,E0.Turn,E0.Active,E0.Step,E0.Begun,E0.Priority,E0.Passes,E0.NextId,E0.NextStamp,E0.Seed,E0.Extra,E0.Over,E0.Winner⟩:ae) E1 (x16.length:Int) 0) [.relab 785000 40005]
def Z1e(E0:ae)(E1:ae)(v81:Int)(v82:Int):LT jO ae:=
.br (decide (v82<v81)) (.idxR aY E0.Waiting v82 λx2=>.rl aY E0.Waiting<|.ldR aY E0.Waiting x2 2<|.call (Eo x2.Ability) λx4=>.plR aY E0.Waiting v82 0<|.rl aY E0.Waiting<|.setD aY E0.Waiting v82 x2 (⟨x2.Source,x2.Control,x4,x2.Event⟩:bZ) 2 2 (tm6 x4) rfl λx6=>.dr [.ahead 97,.relen 40005,.stop]<|.us [3]<|.us [3]<|.us [3]<|.us [3]<|.us [3]<|.us [3]<|.us [3]<|.g0 (.L2 (⟨E0.Players,E0.Objects,E0.Battlefield,E0.Exile,E0.Stack,x6,E0.Conts,E0.Turn,E0.Active,E0.Step,E0.Begun,E0.Priority,E0.Passes,E0.NextId,E0.NextStamp,E0.Seed,E0.Extra,E0.Over,E0.Winner⟩:ae) E1 v81 (IntKind.wrap .i64 (v82+1))))<|.callF (Qq E0.Conts) 1010000 λx10=>.lenO aV x10<|.go (.L3 (⟨E0.Players,E0.Objects,E0.Battlefield,E0.Exile,E0.Stack,E0.Waiting,x10,E0.Turn,E0.Active,E0.Step,E0.Begun,E0.Priority,E0.Passes,E0.NextId,E0.NextStamp,E0.Seed,E0.Extra,E0.Over,E0.Winner⟩:ae) E1 (x10.length:Int) 0) [.relab 1015000 40006]
def Z1f(E0:ae)(E1:ae)(v104:Int)(v105:Int):LT jO ae:=
.br (decide (v105<v104)) (.idxR aV E0.Conts v105 λx2=>.rl aV E0.Conts<|.ldR aV E0.Conts x2 2<|.call (Ep x2.Objects) λx4=>.plR aV E0.Conts v105 0<|.rl aV E0.Conts<|.setD aV E0.Conts v105 x2 (⟨x2.Stamp,x2.Control,x2.Source,x2.Until,x4,x2.Mods⟩:cd) 2 4 [.sl (List.map (cI .i64) x4)] rfl λx6=>.dr [.ahead 28,.relen 40006,.stop]<|.us [3]<|.us [3]<|.us [3]<|.us [3]<|.us [3]<|.us [3]<|.us [3]<|.idxR aV x6 v105 λx8=>.rl aV x6<|.ldR aV x6 x8 8<|.call (lf x8.Mods) λx10=>.plR aV x6 v105 6<|.rl aV x6<|.setD aV x6 v105 x8 (⟨x8.Stamp,x8.Control,x8.Source,x8.Until,x8.Objects,x10⟩:cd) 8 5 [.sl (List.map av x10)] rfl λx12=>.dr [.ahead 132,.relen 40006,.stop]<|.us [9]<|.us [9]<|.us [9]<|.us [9]<|.us [9]<|.us [9]<|.us [9]<|.us [9]<|.us [9]<|.us [9]<|.us [9]<|.us [9]<|.us [9]<|.g0 (.L3 (⟨E0.Players,E0.Objects,E0.Battlefield,E0.Exile,E0.Stack,E0.Waiting,x12,E0.Turn,E0.Active,E0.Step,E0.Begun,E0.Priority,E0.Passes,E0.NextId,E0.NextStamp,E0.Seed,E0.Extra,E0.Over,E0.Winner⟩:ae) E1 v104 (IntKind.wrap .i64 (v105+1))))<|.callF (ld E0.Extra) 1360000 λx16=>.ret (⟨E0.Players,E0.Objects,E0.Battlefield,E0.Exile,E0.Stack,E0.Waiting,E0.Conts,E0.Turn,E0.Active,E0.Step,E0.Begun,E0.Priority,E0.Passes,E0.NextId,E0.NextStamp,E0.Seed,x16,E0.Over,E0.Winner⟩:ae) (tm28 40000 5000 1365000)
def C2(a0:ae):LT jO ae:=
.lb 1001<|.lb 1002<|.callF (Qr a0.Players) 100000 λx1=>.lenO aJ x1<|.go (.L0 (⟨x1,a0.Objects,a0.Battlefield,a0.Exile,a0.Stack,a0.Waiting,a0.Conts,a0.Turn,a0.Active,a0.Step,a0.Begun,a0.Priority,a0.Passes,a0.NextId,a0.NextStamp,a0.Seed,a0.Extra,a0.Over,a0.Winner⟩:ae) (⟨([]:List bS),([]:List ay),([]:List Int),([]:List Int),([]:List az),([]:List bZ),([]:List cd),0,0,0,false,0,0,0,0,0,([]:List Int),0,0⟩:ae) (x1.length:Int) 0) [.relab 1001 3000,.relab 1002 3001,.relab 105000 40000,.ownb 3001 0 40100 14,.ownb 3001 1 40101 19,.ownb 3001 2 40102 1,.ownb 3001 3 40103 1,.ownb 3001 4 40104 94,.ownb 3001 5 40105 89,.ownb 3001 6 40106 6,.ownb 3001 16 40116 1]
def Et:LF jO ae :=.m 25 [.c 2 31 true 19] true (λr=>(Z4t r 5000)) (λr=>(.agg (tm2 r 5000))) λ|.L0 E0 E1 v13 v14=>([1,1,0,1,4],⟨138,[(1,.bptr 3000 0),(2,.bptr 3001 0),(13,wI v13),(14,wI v14)],((3000,.box (tm17 E0 40000))::(40000,wR aJ 14 E0.Players)::(3001,.box (tm2 E1 40100))::(Z4t E1 40100))⟩,Z1c E0 E1 v13 v14)|.L1 E0 E1 v46 v47=>([1,1,1,1,1,1,1,0,1,4],⟨138,[(1,.bptr 3000 0),(2,.bptr 3001 0),(46,wI v46),(47,wI v47)],((3000,.box (tm16 E0 40000))::(40000,wR aJ 14 E0.Players)::(40001,wR au 19 E0.Objects)::(40002,wR (cI .i64) 1 E0.Battlefield)::(40003,wR (cI .i64) 1 E0.Exile)::(40004,wR ak 94 E0.Stack)::(3001,.box (tm2 E1 40100))::(Z4t E1 40100))⟩,Z1d E0 E1 v46 v47)|.L2 E0 E1 v81 v82=>([1,1,1,1,1,1,1,1,1,0,1,4],⟨138,[(1,.bptr 3000 0),(2,.bptr 3001 0),(81,wI v81),(82,wI v82)],((3000,.box (tm15 E0 40000))::(40000,wR aJ 14 E0.Players)::(40001,wR au 19 E0.Objects)::(40002,wR (cI .i64) 1 E0.Battlefield)::(40003,wR (cI .i64) 1 E0.Exile)::(40004,wR ak 94 E0.Stack)::(40005,wR aY 89 E0.Waiting)::(3001,.box (tm2 E1 40100))::(Z4t E1 40100))⟩,Z1e E0 E1 v81 v82)|.L3 E0 E1 v104 v105=>([1,1,1,1,1,1,1,1,1,1,1,0,1,4],⟨138,[(1,.bptr 3000 0),(2,.bptr 3001 0),(104,wI v104),(105,wI v105)],((3000,.box (tm14 E0 40000))::(40000,wR aJ 14 E0.Players)::(40001,wR au 19 E0.Objects)::(40002,wR (cI .i64) 1 E0.Battlefield)::(40003,wR (cI .i64) 1 E0.Exile)::(40004,wR ak 94 E0.Stack)::(40005,wR aY 89 E0.Waiting)::(40006,wR aV 6 E0.Conts)::(3001,.box (tm2 E1 40100))::(Z4t E1 40100))⟩,Z1f E0 E1 v104 v105)
def n5:=λa0=>Et.run (C2 a0)
def oK(a0){r}(h:n5 a0=some r):FnG PR 25 [] [wA (aC a0)] (Z4t r 5000) (.agg (tm2 r 5000)):=Et.fn h
def Qs(a0:ae){r:ae}(h:n5 a0=some r):Fn PR 25 [wA (aC a0)] (wA (aC r)):=FnG.frozen (C:=LT.RL aJ r.Players/\LT.RL au r.Objects/\LT.RL (cI .i64) r.Battlefield/\LT.RL (cI .i64) r.Exile/\LT.RL ak r.Stack/\LT.RL aY r.Waiting/\LT.RL aV r.Conts/\LT.RL (cI .i64) r.Extra/\True) (oK a0 h) ⟨rfl,rfl,rfl,rfl,rfl,rfl,rfl,rfl,aa⟩ aq
inductive wQ where
 |L0 (v3:List Int) (v7:List bS) (v8:Int) (v9:Int)
def Qt(v3:List Int)(v7:List bS)(v8:Int)(v9:Int):LT wQ (List Int):=
.br (decide (v9<v8)) (.idx aJ v7 v9 λx2=>.lb 1005<|.br (!x2.Lost) (.dr [.lit]<|.apR (cI .i64) 8 v3 [v9] λx5=>.g0 (.L0 x5 v7 v8 (IntKind.wrap .i64 (v9+1))))<|.g0 (.L0 v3 v7 v8 (IntKind.wrap .i64 (v9+1))))<|.ret v3 [.relab 20003 5000]
def Qu(a0:ae):LT wQ (List Int):=
.lb 1001<|.len aJ a0.Players<|.go (.L0 ([]:List Int) a0.Players (a0.Players.length:Int) 0) [.own 3 20003 1]
def Z7k:LF wQ (List Int) :=.m 33 [.t 2] true (λr=>[(5000,wR (cI .i64) 1 r)]) (λr=>(wO (cI .i64) 5000 r)) λ|.L0 v3 v7 v8 v9=>([1,1,0,1,4],⟨23,[(3,wO (cI .i64) 20003 v3),(7,wL aJ v7),(8,wI v8),(9,wI v9)],[(20003,wR (cI .i64) 1 v3)]⟩,Qt v3 v7 v8 v9)
def Eu:=λa0=>Z7k.run (Qu a0)
def Qv(a0){r}(h:Eu a0=some r):FnG PR 33 [] [wA (aC a0)] [(5000,wR (cI .i64) 1 r)] (wO (cI .i64) 5000 r):=Z7k.fn h
def wU(a0:ae){r:List Int}(h:Eu a0=some r):Fn PR 33 [wA (aC a0)] (wL (cI .i64) r):=FnG.frozen (C:=LT.RL (cI .i64) r/\True) (Qv a0 h) ⟨rfl,aa⟩ aq
def Qw(a0:Int):LT Empty Bool:=
.rt (a0 != a0)
def Z1g:LF Empty Bool :=.z0 108 [.t 2] wB
def Qx:=λa0=>Z1g.run (Qw a0)
def Ew(a0){r}(h:Qx a0=some r):Fn PR 108 [wI a0] (wB r):=Z1g.fn h
def Qy(a0:Int)(a1:Int):LT Empty Int:=
.call (Ew a0) λx1=>.call (Ew a1) λx3=>.br x1 (.br x3 (.rt 0)<|.rt (-1))<|.br x3 (.rt 1)<|.br (decide (a0<a1)) (.rt (-1))<|.br (decide (a0>a1)) (.rt 1)<|.rt 0
def Ex:LF Empty Int :=.z0 72 [.t 4] wI
def Qz:=λa0 a1=>Ex.run (Qy a0 a1)
def Ey(a0)(a1){r}(h:Qz a0 a1=some r):Fn PR 72 [wI a0,wI a1] (wI r):=Ex.fn h
inductive ss where
 |L0 (v1:Int) (E0:ae)
 |L1 (v1:Int) (v5:List Int) (v6:List Int) (v19:List Int) (v20:Int) (v21:Int)
def sw(v1:Int)(E0:ae):LT ss (List Int):=
.call (wU E0) λx1=>.len (cI .i64) x1<|.go (.L1 v1 ([]:List Int) ([]:List Int) x1 (x1.length:Int) 0) [.own 5 20005 1,.own 6 20006 1]
def QA(v1:Int)(v5:List Int)(v6:List Int)(v19:List Int)(v20:Int)(v21:Int):LT ss (List Int):=
.br (decide (v21<v20)) (.idx (cI .i64) v19 v21 λx2=>.call (Ey x2 v1) λx4=>.br (x4==(-1)) (.dr [.lit]<|.apR (cI .i64) 8 v5 [x2] λx7=>.g0 (.L1 v1 x7 v6 v19 v20 (IntKind.wrap .i64 (v21+1))))<|.br (x4==1) (.dr [.lit]<|.apR (cI .i64) 8 v6 [x2] λx13=>.g0 (.L1 v1 v5 x13 v19 v20 (IntKind.wrap .i64 (v21+1))))<|.g0 (.L1 v1 v5 v6 v19 v20 (IntKind.wrap .i64 (v21+1))))<|.rl (cI .i64) v5<|.apR (cI .i64) 8 v6 v5 λx20=>.ret x20 [.relab 20006 5000]
def QB(a0:ae)(a1:Int):LT ss (List Int):=
.lb 1002<|.cs (decide (a1<0)) (.k5 0<|.kg 0<|.kn [0]<|.jn 0 (.L0 (-1) a0) [.relab 1002 3000] (sw (-1) a0))<|.k4 0<|.len aJ a0.Players<|.k2 0<|.br (decide (a1>=(a0.Players.length:Int))) (.jn 0 (.L0 (-1) a0) [.relab 1002 3000] (sw (-1) a0))<|.jn 0 (.L0 a1 a0) [.relab 1002 3000] (sw a1 a0)
def Z7l:LF ss (List Int) :=.m 31 [.t 4] true (λr=>[(5000,wR (cI .i64) 1 r)]) (λr=>(wO (cI .i64) 5000 r)) λ|.L0 v1 E0=>([1,1],⟨44,[(1,wI v1),(2,.bptr 3000 0)],[(3000,.box (bx (aC E0)))]⟩,sw v1 E0)|.L1 v1 v5 v6 v19 v20 v21=>([1,1,1,0,1,4],⟨44,[(1,wI v1),(5,wO (cI .i64) 20005 v5),(6,wO (cI .i64) 20006 v6),(19,wL (cI .i64) v19),(20,wI v20),(21,wI v21)],[(20005,wR (cI .i64) 1 v5),(20006,wR (cI .i64) 1 v6)]⟩,QA v1 v5 v6 v19 v20 v21)
def QC:=λa0 a1=>Z7l.run (QB a0 a1)
def QD(a0)(a1){r}(h:QC a0 a1=some r):FnG PR 31 [] [wA (aC a0),wI a1] [(5000,wR (cI .i64) 1 r)] (wO (cI .i64) 5000 r):=Z7l.fn h
inductive wV where
 |L0 (v0:List Int) (v1:Int) (v7:Int) (v8:Int)
def QE(v0:List Int)(v1:Int)(v7:Int)(v8:Int):LT wV Int:=
.br (decide (v8<v7)) (.idx (cI .i64) v0 v8 λx2=>.br (v1==x2) (.rt v8)<|.g0 (.L0 v0 v1 v7 (IntKind.wrap .i64 (v8+1))))<|.rt (-1)
def QF(a0:List Int)(a1:Int):LT wV Int:=
.len (cI .i64) a0<|.g0 (.L0 a0 a1 (a0.length:Int) 0)
def Ez:LF wV Int :=.m0 73 [.t 4] wI λ|.L0 v0 v1 v7 v8=>([1,0,1,4],⟨19,[(0,wL (cI .i64) v0),(1,wI v1),(7,wI v7),(8,wI v8)],[]⟩,QE v0 v1 v7 v8)
def Z2y:=λa0 a1=>Ez.run (QF a0 a1)
def sx(a0)(a1){r}(h:Z2y a0 a1=some r):Fn PR 73 [wL (cI .i64) a0,wI a1] (wI r):=Ez.fn h
def QG(a0:List Int)(a1:Int):LT Empty Bool:=
.call (sx a0 a1) λx1=>.rt (decide (x1>=0))
def EA:LF Empty Bool :=.z0 32 [.t 4] wB
def QH:=λa0 a1=>EA.run (QG a0 a1)
def sy(a0)(a1){r}(h:QH a0 a1=some r):Fn PR 32 [wL (cI .i64) a0,wI a1] (wB r):=EA.fn h
inductive sA where
 |L0 (E0:cO) (v3:Int) (v8:Int) (v9:Bool)
 |L1 (E0:cO) (v3:Int) (v8:Int) (v19:Bool)
def wW(E0:cO)(v3:Int)(v8:Int)(v19:Bool):LT sA Bool:=
.br v19 (.rt (v3==0))<|.br (v8==3) (.cs (E0.Least==E0.Most) (.k4 2<|.cs (E0.Least==0) (.k4 3<|.kg 2<|.kg 3<|.kg 2<|.rt true)<|.k4 3<|.kg 2<|.kg 3<|.kg 2<|.rt (E0.Least==v3))<|.k5 2<|.kg 2<|.rt false)<|.br (v8==5) (.rt (E0.Least==E0.Most))<|.rt true
def j3(E0:cO)(v3:Int)(v8:Int)(v9:Bool):LT sA Bool:=
.br v9 (.rt (decide (v3<=1)))<|.br (v8==6) (.j0 (.L1 E0 v3 v8 (v8==6)) (wW E0 v3 v8 (v8==6)))<|.j0 (.L1 E0 v3 v8 (v8==7)) (wW E0 v3 v8 (v8==7))
def QI(a0:cO):LT sA Bool:=
.lb 1001<|.len bk a0.Options<|.br (a0.Kind==1) (.jn 0 (.L0 a0 (a0.Options.length:Int) a0.Kind (a0.Kind==1)) [.relab 1001 3000] (j3 a0 (a0.Options.length:Int) a0.Kind (a0.Kind==1)))<|.br (a0.Kind==2) (.jn 0 (.L0 a0 (a0.Options.length:Int) a0.Kind (a0.Kind==2)) [.relab 1001 3000] (j3 a0 (a0.Options.length:Int) a0.Kind (a0.Kind==2)))<|.br (a0.Kind==9) (.jn 0 (.L0 a0 (a0.Options.length:Int) a0.Kind (a0.Kind==9)) [.relab 1001 3000] (j3 a0 (a0.Options.length:Int) a0.Kind (a0.Kind==9)))<|.br (a0.Kind==10) (.jn 0 (.L0 a0 (a0.Options.length:Int) a0.Kind (a0.Kind==10)) [.relab 1001 3000] (j3 a0 (a0.Options.length:Int) a0.Kind (a0.Kind==10)))<|.br (a0.Kind==11) (.jn 0 (.L0 a0 (a0.Options.length:Int) a0.Kind (a0.Kind==11)) [.relab 1001 3000] (j3 a0 (a0.Options.length:Int) a0.Kind (a0.Kind==11)))<|.br (a0.Kind==4) (.jn 0 (.L0 a0 (a0.Options.length:Int) a0.Kind (a0.Kind==4)) [.relab 1001 3000] (j3 a0 (a0.Options.length:Int) a0.Kind (a0.Kind==4)))<|.jn 0 (.L0 a0 (a0.Options.length:Int) a0.Kind (a0.Kind==8)) [.relab 1001 3000] (j3 a0 (a0.Options.length:Int) a0.Kind (a0.Kind==8))
def EB:LF sA Bool :=.m0 76 [.t 2] wB λ|.L0 E0 v3 v8 v9=>([1,1,0,1,4,1],⟨49,[(1,.bptr 3000 0),(3,wI v3),(8,wI v8),(9,wB v9)],[(3000,.box (bx (e9 E0)))]⟩,j3 E0 v3 v8 v9)|.L1 E0 v3 v8 v19=>([1,1,0,1,4,1,3,1],⟨49,[(1,.bptr 3000 0),(3,wI v3),(8,wI v8),(19,wB v19)],[(3000,.box (bx (e9 E0)))]⟩,wW E0 v3 v8 v19)
def QJ:=λa0=>EB.run (QI a0)
def QK(a0){r}(h:QJ a0=some r):Fn PR 76 [wA (e9 a0)] (wB r):=EB.fn h
inductive Z5l where
 |L0 (v3:List Int) (v5:Int) (v6:Int)
def QL(v3:List Int)(v5:Int)(v6:Int):LT Z5l (List Int):=
.br (decide (v6<v5)) (.dr [.lit]<|.apR (cI .i64) 8 v3 [v6] λx2=>.g0 (.L0 x2 v5 (IntKind.wrap .i64 (v6+1))))<|.ret v3 [.relab 20003 5000]
def QM(a0:Int):LT Z5l (List Int):=
.go (.L0 ([]:List Int) a0 0) [.own 3 20003 1]
def EC:LF Z5l (List Int) :=.m 110 [.t 2] true (λr=>[(5000,wR (cI .i64) 1 r)]) (λr=>(wO (cI .i64) 5000 r)) λ|.L0 v3 v5 v6=>([1,1,0,1,4],⟨15,[(3,wO (cI .i64) 20003 v3),(5,wI v5),(6,wI v6)],[(20003,wR (cI .i64) 1 v3)]⟩,QL v3 v5 v6)
def QN:=λa0=>EC.run (QM a0)
def ED(a0){r}(h:QN a0=some r):FnG PR 110 [] [wI a0] [(5000,wR (cI .i64) 1 r)] (wO (cI .i64) 5000 r):=EC.fn h
inductive wX where
 |L0 (E0:cO) (v3:Int) (v9:Int) (v10:Bool)
def mG(E0:cO)(v3:Int)(v9:Int)(v10:Bool):LT wX (List Int):=
.br v10 (.lb 1016<|.ret [0] [.relab 1016 5000])<|.br (v9==3) (.callF (ED (minI (maxI E0.Least 0) v3)) 250000 λx3=>.ret x3 [.relab 255000 5000])<|.br (v9==4) (.callF (ED v3) 290000 λx6=>.ret x6 [.relab 295000 5000])<|.br (v9==5) (.lb 1033<|.ret [E0.Least] [.relab 1033 5000])<|.br (v9==8) (.br (decide (v3>0)) (.mk (cI .i64) 1039 8 0 v3 v3 λx11=>.idxR (cI .i64) x11 0 λx13=>.setR (cI .i64) x11 0 x13 E0.N 2 0 [.int .i64 E0.N] rfl λx15=>.dr [.ahead 44,.relen 1039,.stop]<|.us [3]<|.us [3]<|.us [3]<|.us [3]<|.ret x15 [.relab 1039 5000])<|.ret ([]:List Int) [.own 2 5000 1])<|.ret ([]:List Int) [.own 2 5000 1]
def QO(a0:cO):LT wX (List Int):=
.lb 1001<|.len bk a0.Options<|.br (a0.Kind==1) (.jn 0 (.L0 a0 (a0.Options.length:Int) a0.Kind (a0.Kind==1)) [.relab 1001 3000] (mG a0 (a0.Options.length:Int) a0.Kind (a0.Kind==1)))<|.br (a0.Kind==2) (.jn 0 (.L0 a0 (a0.Options.length:Int) a0.Kind (a0.Kind==2)) [.relab 1001 3000] (mG a0 (a0.Options.length:Int) a0.Kind (a0.Kind==2)))<|.br (a0.Kind==9) (.jn 0 (.L0 a0 (a0.Options.length:Int) a0.Kind (a0.Kind==9)) [.relab 1001 3000] (mG a0 (a0.Options.length:Int) a0.Kind (a0.Kind==9)))<|.br (a0.Kind==10) (.jn 0 (.L0 a0 (a0.Options.length:Int) a0.Kind (a0.Kind==10)) [.relab 1001 3000] (mG a0 (a0.Options.length:Int) a0.Kind (a0.Kind==10)))<|.jn 0 (.L0 a0 (a0.Options.length:Int) a0.Kind (a0.Kind==11)) [.relab 1001 3000] (mG a0 (a0.Options.length:Int) a0.Kind (a0.Kind==11))
def EE:LF wX (List Int) :=.m 77 [.t 2] true (λr=>[(5000,wR (cI .i64) 1 r)]) (λr=>(wO (cI .i64) 5000 r)) λ|.L0 E0 v3 v9 v10=>([1,1,0,1,4,1],⟨45,[(1,.bptr 3000 0),(3,wI v3),(9,wI v9),(10,wB v10)],[(3000,.box (bx (e9 E0)))]⟩,mG E0 v3 v9 v10)
def QP:=λa0=>EE.run (QO a0)
def oL(a0){r}(h:QP a0=some r):FnG PR 77 [] [wA (e9 a0)] [(5000,wR (cI .i64) 1 r)] (wO (cI .i64) 5000 r):=EE.fn h
def Z1h(a0:List cf):LT Empty (List cf):=
.apN bk 1006 24 a0 λx1=>.ret x1 [.relab 1006 5000]
def EF:LF Empty (List cf) :=.z 78 [.t 2] true (λr=>[(5000,wR bk 3 r)]) (λr=>(wO bk 5000 r))
def Z5m:=λa0=>EF.run (Z1h a0)
def QQ(a0){r}(h:Z5m a0=some r):FnG PR 78 [] [wL bk a0] [(5000,wR bk 3 r)] (wO bk 5000 r):=EF.fn h
def QR(a0:List Int)(a1:Int):LT Empty Int:=
.call (sx a0 a1) λx1=>.rt x1
def EG:LF Empty Int :=.z0 146 [.t 4] wI
def QS:=λa0 a1=>EG.run (QR a0 a1)
def QT(a0)(a1){r}(h:QS a0 a1=some r):Fn PR 146 [wL (cI .i64) a0,wI a1] (wI r):=EG.fn h
inductive wY where
 |L0 (v1:List Int) (E0:cO) (v7:List Int) (v8:Int) (v9:Int)
def QU(v1:List Int)(E0:cO)(v7:List Int)(v8:Int)(v9:Int):LT wY Bool:=
.br (decide (v9<v8)) (.idx (cI .i64) v7 v9 λx2=>.cs (decide (x2<0)) (.k5 1<|.kg 1<|.b5 true<|.kb true<|.kn [0]<|.rt false)<|.k4 1<|.len bk E0.Options<|.k2 1<|.cs (decide (x2>=(E0.Options.length:Int))) (.k5 2<|.kg 2<|.kn [0]<|.rt false)<|.k3 2<|.call (QT v1 x2) λx7=>.k3 2<|.br (x7 != v9) (.rt false)<|.g0 (.L0 v1 E0 v7 v8 (IntKind.wrap .i64 (v9+1))))<|.rt true
def QV(a0:cO)(a1:List Int):LT wY Bool:=
.lb 1002<|.len (cI .i64) a1<|.go (.L0 a1 a0 a1 (a1.length:Int) 0) [.relab 1002 3000]
def EH:LF wY Bool :=.m0 111 [.t 4] wB λ|.L0 v1 E0 v7 v8 v9=>([1,0,1,4],⟨31,[(1,wL (cI .i64) v1),(2,.bptr 3000 0),(7,wL (cI .i64) v7),(8,wI v8),(9,wI v9)],[(3000,.box (bx (e9 E0)))]⟩,QU v1 E0 v7 v8 v9)
def QW:=λa0 a1=>EH.run (QV a0 a1)
def sB(a0)(a1){r}(h:QW a0 a1=some r):Fn PR 111 [wA (e9 a0),wL (cI .i64) a1] (wB r):=EH.fn h
def QX(a0:List Int)(a1:Int):LT Empty Bool:=
.call (sy a0 a1) λx1=>.rt x1
def EI:LF Empty Bool :=.z0 147 [.t 4] wB
def QY:=λa0 a1=>EI.run (QX a0 a1)
def QZ(a0)(a1){r}(h:QY a0 a1=some r):Fn PR 147 [wL (cI .i64) a0,wI a1] (wB r):=EI.fn h
inductive wZ where
 |L0 (E0:cO) (v5:List Int) (v8:List Int) (v9:Int) (v10:Int)
def Q0(E0:cO)(v5:List Int)(v8:List Int)(v9:Int)(v10:Int):LT wZ Bool:=
.br (decide (v10<v9)) (.idx (cI .i64) v8 v10 λx2=>.idx bk E0.Options x2 λx4=>.rl (cI .i64) v5<|.call (QZ v5 x4.A) λx6=>.br x6 (.rt false)<|.ag bk x4 3<|.dr [.lit]<|.apR (cI .i64) 8 v5 [x4.A] λx9=>.g0 (.L0 E0 x9 v8 v9 (IntKind.wrap .i64 (v10+1))))<|.rt true
def Q1(a0:cO)(a1:List Int):LT wZ Bool:=
.lb 1002<|.len (cI .i64) a1<|.go (.L0 a0 ([]:List Int) a1 (a1.length:Int) 0) [.relab 1002 3000,.own 5 20005 1]
def Z7m:LF wZ Bool :=.m0 112 [.t 4] wB λ|.L0 E0 v5 v8 v9 v10=>([1,1,0,1,4],⟨32,[(2,.bptr 3000 0),(5,wO (cI .i64) 20005 v5),(8,wL (cI .i64) v8),(9,wI v9),(10,wI v10)],[(3000,.box (bx (e9 E0))),(20005,wR (cI .i64) 1 v5)]⟩,Q0 E0 v5 v8 v9 v10)
def Q2:=λa0 a1=>Z7m.run (Q1 a0 a1)
def Q3(a0)(a1){r}(h:Q2 a0 a1=some r):Fn PR 112 [wA (e9 a0),wL (cI .i64) a1] (wB r):=Z7m.fn h
inductive w4 where
 |L0 (v1:List Int) (E0:cO) (v5:Int) (v8:List Int) (v9:Int) (v10:Int)
def Q4(v1:List Int)(E0:cO)(v5:Int)(v8:List Int)(v9:Int)(v10:Int):LT w4 Bool:=
.br (decide (v10<v9)) (.idx (cI .i64) v8 v10 λx2=>.cs (decide (x2<0)) (.k3 1<|.kn [0]<|.rt false)<|.k3 1<|.br (decide (x2>1000000)) (.rt false)<|.g0 (.L0 v1 E0 (IntKind.wrap .i64 (v5+x2)) v8 v9 (IntKind.wrap .i64 (v10+1))))<|.len (cI .i64) v1<|.len bk E0.Options<|.cs ((v1.length:Int)==(E0.Options.length:Int)) (.k5 1<|.rt (v5==E0.N))<|.k5 1<|.rt false
def Q5(a0:cO)(a1:List Int):LT w4 Bool:=
.lb 1002<|.len (cI .i64) a1<|.go (.L0 a1 a0 0 a1 (a1.length:Int) 0) [.relab 1002 3000]
def Z7n:LF w4 Bool :=.m0 113 [.t 4] wB λ|.L0 v1 E0 v5 v8 v9 v10=>([1,1,0,1,4],⟨36,[(1,wL (cI .i64) v1),(2,.bptr 3000 0),(5,wI v5),(8,wL (cI .i64) v8),(9,wI v9),(10,wI v10)],[(3000,.box (bx (e9 E0)))]⟩,Q4 v1 E0 v5 v8 v9 v10)
def Q6:=λa0 a1=>Z7n.run (Q5 a0 a1)
def Q7(a0)(a1){r}(h:Q6 a0 a1=some r):Fn PR 113 [wA (e9 a0),wL (cI .i64) a1] (wB r):=Z7n.fn h
inductive sC where
 |L0 (v1:List Int) (E0:cO) (v9:Int) (v10:Bool)
 |L1 (v1:List Int) (E0:cO) (v9:Int) (v77:Bool)
def Z1i(v1:List Int)(E0:cO)(v9:Int)(v77:Bool):LT sC Bool:=
.br v77 (.call (sB E0 v1) λx2=>.cs x2 (.k3 1<|.call (Q3 E0 v1) λx5=>.kg 1<|.rt x5)<|.k4 1<|.rt false)<|.br (v9==8) (.call (Q7 E0 v1) λx8=>.rt x8)<|.rt false
def mH(v1:List Int)(E0:cO)(v9:Int)(v10:Bool):LT sC Bool:=
.br v10 (.len (cI .i64) v1<|.cs ((v1.length:Int)==1) (.k3 1<|.call (sB E0 v1) λx4=>.kg 1<|.rt x4)<|.k4 1<|.rt false)<|.br (v9==3) (.len (cI .i64) v1<|.cs (decide ((v1.length:Int)>=E0.Least)) (.k2 2<|.len (cI .i64) v1<|.k4 2<|.cs (decide ((v1.length:Int)<=E0.Most)) (.k3 3<|.call (sB E0 v1) λx10=>.kg 3<|.rt x10)<|.k4 3<|.rt false)<|.k5 2<|.kg 2<|.b4 false<|.rt false)<|.br (v9==4) (.len (cI .i64) v1<|.len bk E0.Options<|.cs ((v1.length:Int)==(E0.Options.length:Int)) (.k3 3<|.call (sB E0 v1) λx16=>.kg 3<|.rt x16)<|.k4 3<|.rt false)<|.br (v9==5) (.len (cI .i64) v1<|.cs ((v1.length:Int)==1) (.k2 4<|.idx (cI .i64) v1 0 λx21=>.k5 4<|.cs (decide (x21>=E0.Least)) (.k2 5<|.ag (cI .i64) x21 0<|.k5 5<|.rt (decide (x21<=E0.Most)))<|.k5 5<|.k2 5<|.rt false)<|.k5 4<|.k2 4<|.b5 false<|.b2 false<|.rt false)<|.br (v9==6) (.j0 (.L1 v1 E0 v9 (v9==6)) (Z1i v1 E0 v9 (v9==6)))<|.j0 (.L1 v1 E0 v9 (v9==7)) (Z1i v1 E0 v9 (v9==7))
def Q8(a0:cO)(a1:List Int):LT sC Bool:=
.lb 1002<|.len (cI .i64) a1<|.br (decide ((a1.length:Int)>256)) (.rt false)<|.br (a0.Kind==1) (.jn 0 (.L0 a1 a0 a0.Kind (a0.Kind==1)) [.relab 1002 3000] (mH a1 a0 a0.Kind (a0.Kind==1)))<|.br (a0.Kind==2) (.jn 0 (.L0 a1 a0 a0.Kind (a0.Kind==2)) [.relab 1002 3000] (mH a1 a0 a0.Kind (a0.Kind==2)))<|.br (a0.Kind==9) (.jn 0 (.L0 a1 a0 a0.Kind (a0.Kind==9)) [.relab 1002 3000] (mH a1 a0 a0.Kind (a0.Kind==9)))<|.br (a0.Kind==10) (.jn 0 (.L0 a1 a0 a0.Kind (a0.Kind==10)) [.relab 1002 3000] (mH a1 a0 a0.Kind (a0.Kind==10)))<|.jn 0 (.L0 a1 a0 a0.Kind (a0.Kind==11)) [.relab 1002 3000] (mH a1 a0 a0.Kind (a0.Kind==11))
def EJ:LF sC Bool :=.m0 79 [.t 4] wB λ|.L0 v1 E0 v9 v10=>([1,1,0,1,4,1],⟨93,[(1,wL (cI .i64) v1),(2,.bptr 3000 0),(9,wI v9),(10,wB v10)],[(3000,.box (bx (e9 E0)))]⟩,mH v1 E0 v9 v10)|.L1 v1 E0 v9 v77=>([1,1,0,1,4,1,3,1,3,1,3,1,3,1],⟨93,[(1,wL (cI .i64) v1),(2,.bptr 3000 0),(9,wI v9),(77,wB v77)],[(3000,.box (bx (e9 E0)))]⟩,Z1i v1 E0 v9 v77)
def Q9:=λa0 a1=>EJ.run (Q8 a0 a1)
def Ra(a0)(a1){r}(h:Q9 a0 a1=some r):Fn PR 79 [wA (e9 a0),wL (cI .i64) a1] (wB r):=EJ.fn h
inductive oM where
 |L0 (E0:Z5) (v6:A5 Int) (v7:Int)
def oN(E0:Z5)(v6:A5 Int)(v7:Int):LT oM Bool:=
.br (decide (v7<5)) (.idX (U.int .i64) (A5.list v6) v7 λx2=>.cs (decide (x2<0)) (.k3 1<|.kn [0]<|.rt false)<|.k3 1<|.br (decide (x2>9)) (.rt false)<|.g0 (.L0 E0 v6 (IntKind.wrap .i64 (v7+1))))<|.cs (decide (E0.Generic>=0)) (.k4 1<|.cs (decide (E0.Generic<=99)) (.k4 2<|.cs (decide (E0.X>=0)) (.k4 3<|.rt (decide (E0.X<=2)))<|.k4 3<|.rt false)<|.k4 2<|.b4 false<|.rt false)<|.k4 1<|.b8 false<|.rt false
def EK(a0:Z5):LT oM Bool:=
.lb 1001<|.go (.L0 a0 a0.Color 0) [.relab 1001 3000]
def oO:LF oM Bool :=.m0 305 [.t 2] wB λ|.L0 E0 v6 v7=>([1,0,1,4],⟨35,[(1,.bptr 3000 0),(6,wA ((cA5 (cI .i64)) v6)),(7,wI v7)],[(3000,.box (bx (cn E0)))]⟩,oN E0 v6 v7)
def w5:=λa0=>oO.run (EK a0)
def EL(a0){r}(h:w5 a0=some r):Fn PR 305 [wA (cn a0)] (wB r):=oO.fn h
inductive w6 where
 |L0 (v3:Int) (v16:A5 Int) (v17:Int)
def Rb(v3:Int)(v16:A5 Int)(v17:Int):LT w6 Int:=
.br (decide (v17<5)) (.idX (U.int .i64) (A5.list v16) v17 λx2=>.br (decide (x2>0)) (.ok (¬v17<0)<|.g0 (.L0 (bI .or .i64 v3 (shlI .i64 1 v17)) v16 (IntKind.wrap .i64 (v17+1))))<|.g0 (.L0 v3 v16 (IntKind.wrap .i64 (v17+1))))<|.rt v3
def Rc(a0:Z5):LT w6 Int:=
.lb 1001<|.call (EL a0) λx1=>.cs (!x1) (.k5 0<|.kn [0]<|.rt 0)<|.k5 0<|.br (ax ((cA5 (cI .i64)) a0.Color) ((cA5 (cI .i64)) (⟨0,0,0,0,0⟩:A5 Int))) (.rt 0)<|.g0 (.L0 0 a0.Color 0)
def EM:LF w6 Int :=.m0 260 [.t 2] wI λ|.L0 v3 v16 v17=>([1,1,1,0,1,4],⟨29,[(3,wI v3),(16,wA ((cA5 (cI .i64)) v16)),(17,wI v17)],[]⟩,Rb v3 v16 v17)
def Re:=λa0=>EM.run (Rc a0)
def Rf(a0){r}(h:Re a0=some r):Fn PR 260 [wA (cn a0)] (wI r):=EM.fn h
def EN(a0:Bys)(hne:a0≠[]):LT Empty (Bys):=
.ne cS hne<|.kn [0]<|.lb 1005<|.apR cS 16 ([]:Bys) a0 λx1=>.ret x1 [.relab 1005 5000]
def lg:LF Empty (Bys) :=.z 261 [.t 2] true (λr=>[(5000,wR cS 1 r)]) (λr=>(wO cS 5000 r))
def w7(c:Nat):LT Empty (Bys):=
.kn [0]<|.ret ([]:Bys) [.own 2 5000 1]
def Rg(c:Nat)(ad:Addr):LT Empty (Bys):=
.kn [0]<|.lb 1005<|.apR cS 16 ([]:Bys) ([]:Bys) λx1=>.ret x1 [.relab 1005 5000]
open Classical in
def EO(a0:Bys):Option (Bys):=if h:a0≠[]then lg.run (EN a0 h)else lg.run (w7 0)
def w8(a0:Bys){r:Bys}(h:EO a0=some r):FnG PR 261 [] [wL cS a0] [(5000,wR cS 1 r)] (wO cS 5000 r):=by
 by_cases hne:a0=[]
 .subst hne;have h0:lg.run (w7 0)=some r:=h;exact FnG.split0 (λe=>absurd rfl e) (λ_ a c=>by
   cases a with
   |none=>exact lg.fn (t:=w7 c) h0
   |some ad=>exact lg.fn (t:=Rg c ad) h0)
 have h0:lg.run (EN a0 hne)=some r:=by unfold EO at h;rwa[eE hne]at h
 exact FnG.split0 (λ_=>lg.fn h0) (λe=>absurd (eT.1 e) hne)
inductive w9 where
 |L0 (E0:ar) (E1:ar) (v18:Int) (v19:Int)
def Rh(E0:ar)(E1:ar)(v18:Int)(v19:Int):LT w9 ar:=
.br (decide (v19<v18)) (.idxR aR E0.Effects v19 λx2=>.rl aR E0.Effects<|.ldR aR E0.Effects x2 2<|.call (lf x2.Mods) λx4=>.plR aR E0.Effects v19 0<|.rl aR E0.Effects<|.setD aR E0.Effects v19 x2 (⟨x2.Op,x2.Ref,x2.Amount,x2.Counter,x2.Zone,x2.Card,x2.Filter,x2.Pool,x4⟩:aU) 2 63 [.sl (List.map av x4)] rfl λx6=>.dr [.ahead 34,.relen 40049,.stop]<|.us [3]<|.us [3]<|.us [3]<|.us [3]<|.us [3]<|.us [3]<|.us [3]<|.g0 (.L0 (⟨E0.Kind,E0.Filter,E0.Mods,E0.Price,E0.Slow,E0.Trigger,E0.May,E0.Specs,x6,E0.Replace⟩:ar) E1 v18 (IntKind.wrap .i64 (v19+1))))<|.ret E0 (tm26 40000 5000)
def Ri(a0:ar):LT w9 ar:=
.lb 1001<|.lb 1002<|.callF (xa a0.Mods) 70000 λx1=>.callF (xb a0.Specs) 110000 λx3=>.callF (xc a0.Effects) 150000 λx5=>.lenO aR x5<|.go (.L0 (⟨a0.Kind,a0.Filter,x1,a0.Price,a0.Slow,a0.Trigger,a0.May,x3,x5,a0.Replace⟩:ar) (⟨0,(⟨0,0,0,0,0,0,0,([]:By),0,0,(⟨0,0⟩:ab),(⟨0,0⟩:ab),(⟨0,0⟩:ab)⟩:ai),([]:List ah),(⟨(⟨0,0,(⟨0,0,0,0,0⟩:A5 Int)⟩:Z5),false,false,0⟩:eU),false,(⟨0,0,(⟨0,0,0,0,0,0,0,([]:By),0,0,(⟨0,0⟩:ab),(⟨0,0⟩:ab),(⟨0,0⟩:ab)⟩:ai)⟩:dM),false,([]:List bz),([]:List aU),(⟨0,0,(⟨0,0,0,0,0,0,0,([]:By),0,0,(⟨0,0⟩:ab),(⟨0,0⟩:ab),(⟨0,0⟩:ab)⟩:ai),0,0,0,0⟩:cE)⟩:ar) (x5.length:Int) 0) [.relab 1001 3000,.relab 1002 3001,.relab 75000 40017,.relab 115000 40048,.relab 155000 40049,.ownb 3001 17 40117 20,.ownb 3001 48 40148 18,.ownb 3001 49 40149 64]
def EP:LF w9 ar :=.m 262 [.c 2 49 true 72] true (λr=>(Z82 r 5000)) (λr=>(.agg (tm0 r 5000))) λ|.L0 E0 E1 v18 v19=>([1,1,1,1,0,1,4],⟨36,[(1,.bptr 3000 0),(2,.bptr 3001 0),(18,wI v18),(19,wI v19)],((3000,.box (tm0 E0 40000))::(40017,wR av 20 E0.Mods)::(40048,wR Z4 18 E0.Specs)::(40049,wR aR 64 E0.Effects)::(3001,.box (tm0 E1 40100))::(Z82 E1 40100))⟩,Rh E0 E1 v18 v19)
def Z1j:=λa0=>EP.run (Ri a0)
def Z9h(a0){r}(h:Z1j a0=some r):FnG PR 262 [] [wA (aE a0)] (Z82 r 5000) (.agg (tm0 r 5000)):=EP.fn h
def Rj(a0:ar){r:ar}(h:Z1j a0=some r):Fn PR 262 [wA (aE a0)] (wA (aE r)):=FnG.frozen (C:=LT.RL av r.Mods/\LT.RL Z4 r.Specs/\LT.RL aR r.Effects/\True) (Z9h a0 h) ⟨rfl,rfl,rfl,aa⟩ aq
inductive xd where
 |L0 (E0:al) (E1:al) (v32:List ar) (v33:Int) (v34:Int)
def Rk(E0:al)(E1:al)(v32:List ar)(v33:Int)(v34:Int):LT xd al:=
.br (decide (v34<v33)) (.idx aE v32 v34 λx2=>.lb 1005<|.call (Rj x2) λx4=>.dr [.lit]<|.apR aE 640 E1.Abilities [x4] λx6=>.g0 (.L0 E0 (⟨E1.Name,E1.Cost,E1.Colors,E1.Line,E1.Power,E1.Tough,E1.Keys,x6,E1.Control⟩:al) v32 v33 (IntKind.wrap .i64 (v34+1))))<|.ret E1 [.relab 40111 5011,.relab 40115 5015]
def Rl(a0:Z1):LT xd al:=
.lb 1001<|.lb 1002<|.call (Rf a0.Cost) λx1=>.lb 1003<|.callF (w8 a0.Line.Subs) 290000 λx3=>.len aE a0.Abilities<|.go (.L0 (⟨([]:By),(⟨0,0,(⟨0,0,0,0,0⟩:A5 Int)⟩:Z5),0,(⟨0,0,([]:Bys)⟩:bV),0,0,0,([]:List ar),0⟩:al) (⟨a0.Name,a0.Cost,bI .or .i64 x1 a0.Color,(⟨a0.Line.Super,a0.Line.Types,x3⟩:bV),a0.Power,a0.Tough,a0.Keys,([]:List ar),0⟩:al) a0.Abilities (a0.Abilities.length:Int) 0) [.relab 1002 3000,.relab 1003 3001,.ownb 3000 11 40011 1,.ownb 3000 15 40015 72,.relab 295000 40111,.ownb 3001 15 40115 72]
def Z7o:LF xd al :=.m 198 [.c 2 220 true 17] true (λr=>[(5011,wR cS 1 r.Line.Subs),(5015,wR aE 72 r.Abilities)]) (λr=>(.agg (tm3 r 5000))) λ|.L0 E0 E1 v32 v33 v34=>([1,1,1,0,1,4],⟨47,[(2,.bptr 3000 0),(3,.bptr 3001 0),(32,wL aE v32),(33,wI v33),(34,wI v34)],[(3000,.box (tm3 E0 40000)),(40011,wR cS 1 E0.Line.Subs),(40015,wR aE 72 E0.Abilities),(3001,.box (tm3 E1 40100)),(40111,wR cS 1 E1.Line.Subs),(40115,wR aE 72 E1.Abilities)]⟩,Rk E0 E1 v32 v33 v34)
def Rm:=λa0=>Z7o.run (Rl a0)
def Rn(a0){r}(h:Rm a0=some r):FnG PR 198 [] [wA (Z8 a0)] [(5011,wR cS 1 r.Line.Subs),(5015,wR aE 72 r.Abilities)] (.agg (tm3 r 5000)):=Z7o.fn h
inductive Z30 where
 |L0 (v0:List Z1) (E0:ay) (E1:al) (v5:Int)
 |L1 (E0:ay) (E1:al) (E2:al)
def sD(E0:ay)(E1:al)(E2:al):LT Z30 al:=
.cs (E0.Zone==0) (.k4 0<|.kn [0]<|.ret (⟨E2.Name,E2.Cost,E2.Colors,E2.Line,E2.Power,E2.Tough,E2.Keys,E2.Abilities,E0.Control⟩:al) [.relab 40211 5011,.relab 40215 5015])<|.k4 0<|.br (E0.Zone==5) (.ret (⟨E2.Name,E2.Cost,E2.Colors,E2.Line,E2.Power,E2.Tough,E2.Keys,E2.Abilities,E0.Control⟩:al) [.relab 40211 5011,.relab 40215 5015])<|.ret (⟨E2.Name,E2.Cost,E2.Colors,E2.Line,E2.Power,E2.Tough,E2.Keys,E2.Abilities,E0.Owner⟩:al) [.relab 40211 5011,.relab 40215 5015]
def Z9i(v0:List Z1)(E0:ay)(E1:al)(v5:Int):LT Z30 al:=
.lb 1006<|.cs (decide (v5>=0)) (.k3 0<|.len Z8 v0<|.k2 0<|.br (decide (v5<(v0.length:Int))) (.idx Z8 v0 v5 λx4=>.callF (Rn x4) 270000 λx6=>.jn 0 (.L1 E0 E1 x6) [.relab 1006 3002,.relab 275011 40211,.relab 275015 40215] (sD E0 E1 x6))<|.jn 0 (.L1 E0 E1 (⟨([]:By),(⟨0,0,(⟨0,0,0,0,0⟩:A5 Int)⟩:Z5),0,(⟨0,0,([]:Bys)⟩:bV),0,0,0,([]:List ar),0⟩:al)) (tm27 1000 3000 40200) (sD E0 E1 (⟨([]:By),(⟨0,0,(⟨0,0,0,0,0⟩:A5 Int)⟩:Z5),0,(⟨0,0,([]:Bys)⟩:bV),0,0,0,([]:List ar),0⟩:al)))<|.k5 0<|.kn [0]<|.jn 0 (.L1 E0 E1 (⟨([]:By),(⟨0,0,(⟨0,0,0,0,0⟩:A5 Int)⟩:Z5),0,(⟨0,0,([]:Bys)⟩:bV),0,0,0,([]:List ar),0⟩:al)) (tm27 1000 3000 40200) (sD E0 E1 (⟨([]:By),(⟨0,0,(⟨0,0,0,0,0⟩:A5 Int)⟩:Z5),0,(⟨0,0,([]:Bys)⟩:bV),0,0,0,([]:List ar),0⟩:al))
def Ro(a0:List Z1)(a1:ay):LT Z30 al:=
.lb 1003<|.lb 1004<|.br (decide (a1.Copy<0)) (.jn 0 (.L0 a0 a1 (⟨([]:By),(⟨0,0,(⟨0,0,0,0,0⟩:A5 Int)⟩:Z5),0,(⟨0,0,([]:Bys)⟩:bV),0,0,0,([]:List ar),0⟩:al) a1.Card) (tm23 1000 3000 40100) (Z9i a0 a1 (⟨([]:By),(⟨0,0,(⟨0,0,0,0,0⟩:A5 Int)⟩:Z5),0,(⟨0,0,([]:Bys)⟩:bV),0,0,0,([]:List ar),0⟩:al) a1.Card))<|.jn 0 (.L0 a0 a1 (⟨([]:By),(⟨0,0,(⟨0,0,0,0,0⟩:A5 Int)⟩:Z5),0,(⟨0,0,([]:Bys)⟩:bV),0,0,0,([]:List ar),0⟩:al) a1.Copy) (tm23 1000 3000 40100) (Z9i a0 a1 (⟨([]:By),(⟨0,0,(⟨0,0,0,0,0⟩:A5 Int)⟩:Z5),0,(⟨0,0,([]:Bys)⟩:bV),0,0,0,([]:List ar),0⟩:al) a1.Copy)
def ER:LF Z30 al :=.m 154 [.c 4 220 true 17] true (λr=>[(5011,wR cS 1 r.Line.Subs),(5015,wR aE 72 r.Abilities)]) (λr=>(.agg (tm3 r 5000))) λ|.L0 v0 E0 E1 v5=>([1,1,1],⟨42,[(0,wL Z8 v0),(3,.bptr 3000 0),(4,.bptr 3001 0),(5,wI v5)],[(3000,.box (bx (au E0))),(3001,.box (tm3 E1 40100)),(40111,wR cS 1 E1.Line.Subs),(40115,wR aE 72 E1.Abilities)]⟩,Z9i v0 E0 E1 v5)|.L1 E0 E1 E2=>([1,1,1,1,1],⟨42,[(3,.bptr 3000 0),(4,.bptr 3001 0),(6,.bptr 3002 0)],[(3000,.box (bx (au E0))),(3001,.box (tm3 E1 40100)),(40111,wR cS 1 E1.Line.Subs),(40115,wR aE 72 E1.Abilities),(3002,.box (tm3 E2 40200)),(40211,wR cS 1 E2.Line.Subs),(40215,wR aE 72 E2.Abilities)]⟩,sD E0 E1 E2)
def ES:=λa0 a1=>ER.run (Ro a0 a1)
def Rp(a0)(a1){r}(h:ES a0 a1=some r):FnG PR 154 [] [wL Z8 a0,wA (au a1)] [(5011,wR cS 1 r.Line.Subs),(5015,wR aE 72 r.Abilities)] (.agg (tm3 r 5000)):=ER.fn h
def ET(a0:List Z1)(a1:ay){r:al}(h:ES a0 a1=some r):Fn PR 154 [wL Z8 a0,wA (au a1)] (wA (aw r)):=FnG.frozen (C:=LT.RL cS r.Line.Subs/\LT.RL aE r.Abilities/\True) (Rp a0 a1 h) ⟨rfl,rfl,aa⟩ aq
inductive oP where
 |L0 (v0:List Z1) (E0:ae) (v5:List df) (v13:List ay) (v14:Int) (v15:Int)
 |L1 (v0:List Z1) (E0:ae) (v5:List df) (E1:ay) (v13:List ay) (v14:Int) (v15:Int) (v25:List ar) (v26:Int) (v27:Int)
 |L2 (v5:List df) (v54:List cd) (v55:Int) (v56:Int)
def Rq(v0:List Z1)(E0:ae)(v5:List df)(v13:List ay)(v14:Int)(v15:Int):LT oP (List df):=
.br (decide (v15<v14)) (.idx au v13 v15 λx2=>.lb 1007<|.br (x2.Zone != 0) (.g0 (.L0 v0 E0 v5 v13 v14 (IntKind.wrap .i64 (v15+1))))<|.call (ET v0 x2) λx7=>.len aE x7.Abilities<|.go (.L1 v0 E0 v5 x2 v13 v14 v15 x7.Abilities (x7.Abilities.length:Int) 0) [.relab 1007 3001])<|.len aV E0.Conts<|.g0 (.L2 v5 E0.Conts (E0.Conts.length:Int) 0)
def Rr(v0:List Z1)(E0:ae)(v5:List df)(E1:ay)(v13:List ay)(v14:Int)(v15:Int)(v25:List ar)(v26:Int)(v27:Int):LT oP (List df):=
.br (decide (v27<v26)) (.idx aE v25 v27 λx2=>.lb 1009<|.br (x2.Kind==1) (.call (lf x2.Mods) λx5=>.dr [.lit]<|.apR cj 224 v5 [(⟨E1.Id,v27,E1.Control,E1.Stamp,false,([]:List Int),x2.Filter,x5⟩:df)] λx7=>.g0 (.L1 v0 E0 x7 E1 v13 v14 v15 v25 v26 (IntKind.wrap .i64 (v27+1))))<|.g0 (.L1 v0 E0 v5 E1 v13 v14 v15 v25 v26 (IntKind.wrap .i64 (v27+1))))<|.g0 (.L0 v0 E0 v5 v13 v14 (IntKind.wrap .i64 (v15+1)))
def Rs(v5:List df)(v54:List cd)(v55:Int)(v56:Int):LT oP (List df):=
.br (decide (v56<v55)) (.idx aV v54 v56 λx2=>.lb 1011<|.call (Ep x2.Objects) λx4=>.call (lf x2.Mods) λx6=>.dr [.lit]<|.apR cj 224 v5 [(⟨x2.Source,-1,x2.Control,x2.Stamp,true,x4,(⟨0,0,0,0,0,0,0,([]:By),0,0,(⟨0,0⟩:ab),(⟨0,0⟩:ab),(⟨0,0⟩:ab)⟩:ai),x6⟩:df)] λx8=>.g0 (.L2 x8 v54 v55 (IntKind.wrap .i64 (v56+1))))<|.ret v5 [.relab 20005 5000]
def Rt(a0:List Z1)(a1:ae):LT oP (List df):=
.lb 1003<|.len au a1.Objects<|.go (.L0 a0 a1 ([]:List df) a1.Objects (a1.Objects.length:Int) 0) [.relab 1003 3000,.own 5 20005 23]
def Z7p:LF oP (List df) :=.m 153 [.t 4] true (λr=>[(5000,wR cj 23 r)]) (λr=>(wO cj 5000 r)) λ|.L0 v0 E0 v5 v13 v14 v15=>([1,1,0,1,4],⟨78,[(0,wL Z8 v0),(3,.bptr 3000 0),(5,wO cj 20005 v5),(13,wL au v13),(14,wI v14),(15,wI v15)],[(3000,.box (bx (aC E0))),(20005,wR cj 23 v5)]⟩,Rq v0 E0 v5 v13 v14 v15)|.L1 v0 E0 v5 E1 v13 v14 v15 v25 v26 v27=>([1,1,0,1,4,5,1,1,0,4,1,1,1,4],⟨78,[(0,wL Z8 v0),(3,.bptr 3000 0),(5,wO cj 20005 v5),(7,.bptr 3001 0),(13,wL au v13),(14,wI v14),(15,wI v15),(25,wL aE v25),(26,wI v26),(27,wI v27)],[(3000,.box (bx (aC E0))),(20005,wR cj 23 v5),(3001,.box (bx (au E1)))]⟩,Rr v0 E0 v5 E1 v13 v14 v15 v25 v26 v27)|.L2 v5 v54 v55 v56=>([1,1,1,0,1,4],⟨78,[(5,wO cj 20005 v5),(54,wL aV v54),(55,wI v55),(56,wI v56)],[(20005,wR cj 23 v5)]⟩,Rs v5 v54 v55 v56)
def EU:=λa0 a1=>Z7p.run (Rt a0 a1)
def Ru(a0)(a1){r}(h:EU a0 a1=some r):FnG PR 153 [] [wL Z8 a0,wA (aC a1)] [(5000,wR cj 23 r)] (wO cj 5000 r):=Z7p.fn h
def Rv(a0:List Z1)(a1:ae){r:List df}(h:EU a0 a1=some r):Fn PR 153 [wL Z8 a0,wA (aC a1)] (wL cj r):=FnG.frozen (C:=LT.RL cj r/\True) (Ru a0 a1 h) ⟨rfl,aa⟩ aq
inductive xe where
 |L0 (v0:List Z1) (E0:aP) (v19:List ay) (v20:Int) (v21:Int)
def Rw(v0:List Z1)(E0:aP)(v19:List ay)(v20:Int)(v21:Int):LT xe aP:=
.br (decide (v21<v20)) (.idx au v19 v21 λx2=>.lb 1007<|.call (ET v0 x2) λx4=>.dr [.lit]<|.apR aw 176 E0.traits [x4] λx6=>.g0 (.L0 v0 (⟨E0.s,E0.forces,x6,E0.dropped,E0.done,E0.hits⟩:aP) v19 v20 (IntKind.wrap .i64 (v21+1))))<|.len cj E0.forces<|.mk cB 1045 1 false (E0.forces.length:Int) (E0.forces.length:Int) λx12=>.len cj E0.forces<|.mk (cL (cI .i64)) 1051 24 [] (E0.forces.length:Int) (E0.forces.length:Int) λx14=>.ret (⟨E0.s,E0.forces,E0.traits,E0.dropped,x12,x14⟩:aP) [.relab 3000 5000,.relab 40020 5021,.relab 40021 5022,.relab 1045 5023,.relab 1051 5024]
def Rx(a0:List Z1)(a1:ae):LT xe aP:=
.lb 1003<|.call (Rv a0 a1) λx1=>.len au a1.Objects<|.mk cB 1015 1 false (a1.Objects.length:Int) (a1.Objects.length:Int) λx4=>.lb 1017<|.len au a1.Objects<|.go (.L0 a0 (⟨a1,x1,([]:List al),x4,([]:List Bool),([]:List (List Int))⟩:aP) a1.Objects (a1.Objects.length:Int) 0) [.relab 1017 3000,.ownb 3000 20 40020 17,.relab 1015 40021,.ownb 3000 22 40022 1,.ownb 3000 23 40023 1]
def EV:LF xe aP :=.m 115 [.t 4] true (λr=>[(5000,.box (tm7 r 5000)),(5021,wR aw 17 r.traits),(5022,wR cB 1 r.dropped),(5023,wR cB 1 r.done),(5024,wR (cL (cI .i64)) 1 r.hits)]) (λr=>(.bptr 5000 0)) λ|.L0 v0 E0 v19 v20 v21=>([1,1,0,1,4],⟨57,[(0,wL Z8 v0),(5,.bptr 3000 0),(19,wL au v19),(20,wI v20),(21,wI v21)],((3000,.box (tm9 E0 40000))::(tm32 E0 40000))⟩,Rw v0 E0 v19 v20 v21)
def Ry:=λa0 a1=>EV.run (Rx a0 a1)
def Rz(a0)(a1){r}(h:Ry a0 a1=some r):FnG PR 115 [] [wL Z8 a0,wA (aC a1)] [(5000,.box (tm7 r 5000)),(5021,wR aw 17 r.traits),(5022,wR cB 1 r.dropped),(5023,wR cB 1 r.done),(5024,wR (cL (cI .i64)) 1 r.hits)] (.bptr 5000 0):=EV.fn h
def EW(a0:Int):LT Empty Int:=
.rt (minI (maxI a0 (-1000000)) 1000000)
def EX:LF Empty Int :=.z0 264 [.t 2] wI
def xf:=λa0=>EX.run (EW a0)
def ia(a0){r}(h:xf a0=some r):Fn PR 264 [wI a0] (wI r):=EX.fn h
def RE(a0:Int)(a1:Int):LT Empty Int:=
.call (ia a0) λx1=>.call (ia a1) λx3=>.call (ia (IntKind.wrap .i64 (x1-x3))) λx7=>.rt x7
def EY:LF Empty Int :=.z0 263 [.t 4] wI
def RF:=λa0 a1=>EY.run (RE a0 a1)
def RG(a0)(a1){r}(h:RF a0 a1=some r):Fn PR 263 [wI a0,wI a1] (wI r):=EY.fn h
def RH(a0:A3 Int):LT Empty Int:=
.lb 1001<|.idA (U.int .i64) (A3.list a0) 0 (bx ((cA3 (cI .i64)) a0)) 0 3 λx1=>.ldC (U.int .i64) 4 x1 0<|.idA (U.int .i64) (A3.list a0) 1 (bx ((cA3 (cI .i64)) a0)) 0 3 λx3=>.ldC (U.int .i64) 6 x3 1<|.call (RG x1 x3) λx5=>.rt x5
def Z31:LF Empty Int :=.z0 199 [.t 2] wI
def RJ:=λa0=>Z31.run (RH a0)
def RK(a0){r}(h:RJ a0=some r):Fn PR 199 [wA ((cA3 (cI .i64)) a0)] (wI r):=Z31.fn h
def EZ(a0:Int)(a1:Int):LT Empty Int:=
.call (ia a0) λx1=>.call (ia a1) λx3=>.call (ia (IntKind.wrap .i64 (x1+x3))) λx7=>.rt x7
def E4:LF Empty Int :=.z0 200 [.t 4] wI
def xg:=λa0 a1=>E4.run (EZ a0 a1)
def oQ(a0)(a1){r}(h:xg a0 a1=some r):Fn PR 200 [wI a0,wI a1] (wI r):=E4.fn h
inductive oR where
 |L0 (v0:Int) (v3:Int) (v6:Bool)
 |L1 (v0:Int) (v3:Int) (v11:Bool)
 |L2 (v0:Int) (v3:Int) (v14:Bool)
def sE(v0:Int)(v3:Int)(v14:Bool):LT oR Int:=
.br v14 (.rt 4)<|.br (v3==11) (.kn [2]<|.rt (IntKind.wrap .i64 ((IntKind.wrap .i64 (5+v0))-11)))<|.br (v3==12) (.kn [3]<|.rt (IntKind.wrap .i64 ((IntKind.wrap .i64 (5+v0))-11)))<|.br (v3==13) (.kn [4]<|.rt (IntKind.wrap .i64 ((IntKind.wrap .i64 (5+v0))-11)))<|.br (v3==14) (.rt (IntKind.wrap .i64 ((IntKind.wrap .i64 (5+v0))-11)))<|.rt 0
def Z1k(v0:Int)(v3:Int)(v11:Bool):LT oR Int:=
.br v11 (.rt 3)<|.br (v3==8) (.j0 (.L2 v0 v3 (v3==8)) (sE v0 v3 (v3==8)))<|.br (v3==9) (.j0 (.L2 v0 v3 (v3==9)) (sE v0 v3 (v3==9)))<|.j0 (.L2 v0 v3 (v3==10)) (sE v0 v3 (v3==10))
def oS(v0:Int)(v3:Int)(v6:Bool):LT oR Int:=
.br v6 (.rt 2)<|.br (v3==6) (.j0 (.L1 v0 v3 (v3==6)) (Z1k v0 v3 (v3==6)))<|.j0 (.L1 v0 v3 (v3==7)) (Z1k v0 v3 (v3==7))
def RM(a0:Int):LT oR Int:=
.br (a0==1) (.rt 1)<|.br (a0==2) (.j0 (.L0 a0 a0 (a0==2)) (oS a0 a0 (a0==2)))<|.br (a0==3) (.j0 (.L0 a0 a0 (a0==3)) (oS a0 a0 (a0==3)))<|.br (a0==4) (.j0 (.L0 a0 a0 (a0==4)) (oS a0 a0 (a0==4)))<|.j0 (.L0 a0 a0 (a0==5)) (oS a0 a0 (a0==5))
def E5:LF oR Int :=.m0 203 [.t 2] wI λ|.L0 v0 v3 v6=>([1,0,1,4,1,3,1],⟨26,[(0,wI v0),(3,wI v3),(6,wB v6)],[]⟩,oS v0 v3 v6)|.L1 v0 v3 v11=>([1,0,1,4,1,3,1,3,1],⟨26,[(0,wI v0),(3,wI v3),(11,wB v11)],[]⟩,Z1k v0 v3 v11)|.L2 v0 v3 v14=>([1,0,1,4,1,3,1,3,1,3,1],⟨26,[(0,wI v0),(3,wI v3),(14,wB v14)],[]⟩,sE v0 v3 v14)
def RN:=λa0=>E5.run (RM a0)
def sF(a0){r}(h:RN a0=some r):Fn PR 203 [wI a0] (wI r):=E5.fn h
def Z5n(a0:ah)(b0:Int):LT Empty Bool:=
.lb 1002<|.call (sF a0.Kind) λx1=>.rt (x1==b0)
def E6(b0:Int):LF Empty Bool :=.z 202 [.t 3] true (λr=>[(0,.box (bx ((cI .i64) b0)))]) (λr=>(wB r))
def Z9j(a0:ah)(b0:Int):Option Bool:=(E6 b0).run (Z5n a0 b0)
def Z1l(a0:ah)(b0:Int){r:Bool}(h:Z9j a0 b0=some r):FnG PR 202 [(0,.box (bx ((cI .i64) b0)))] [wA (av a0),.bptr 0 0] [(0,.box (bx ((cI .i64) b0)))] (wB r):=(E6 b0).fn h
inductive xh where
 |L0 (v0:List ah) (c0:Int) (v7:Int) (v8:Int)
def RO(v0:List ah)(c0:Int)(v7:Int)(v8:Int):LT xh (Int×Int):=
.br (decide (v8<v7)) (.idx av v0 v8 λx2=>.callO (Z1l x2 c0) [0] 170000 (λx=>[]) λx4=>.br x4 (.rt (v8,c0))<|.g0 (.L0 v0 c0 v7 (IntKind.wrap .i64 (v8+1))))<|.rt ((-1),c0)
def RP(a0:List ah)(b0:Int):LT xh (Int×Int):=
.len av a0<|.g0 (.L0 a0 b0 (a0.length:Int) 0)
def E7:LF xh (Int×Int) :=.m 265 [.t 4] true (λr=>[(0,.box (bx ((cI .i64) r.2)))]) (λr=>(wI r.1)) λ|.L0 v0 c0 v7 v8=>([1,0,1,4],⟨19,[(0,wL av v0),(1,.fn 202 [.bptr 0 0]),(7,wI v7),(8,wI v8)],[(0,.box (bx ((cI .i64) c0)))]⟩,RO v0 c0 v7 v8)
def RQ:=λa0 b0=>E7.run (RP a0 b0)
def RR(a0)(b0){r}(h:RQ a0 b0=some r):FnG PR 265 [(0,.box (bx ((cI .i64) b0)))] [wL av a0,.fn 202 [.bptr 0 0]] [(0,.box (bx ((cI .i64) r.2)))] (wI r.1):=E7.fn h
def RS(a0:List ah)(b0:Int):LT Empty (Bool×Int):=
.callU (RR a0 b0) [0] 80000 λx1=>.rt (decide (x1.1>=0),x1.2)
def E8:LF Empty (Bool×Int) :=.z 201 [.t 4] true (λr=>[(0,.box (bx ((cI .i64) r.2)))]) (λr=>(wB r.1))
def RT:=λa0 b0=>E8.run (RS a0 b0)
def RU(a0)(b0){r}(h:RT a0 b0=some r):FnG PR 201 [(0,.box (bx ((cI .i64) b0)))] [wL av a0,.fn 202 [.bptr 0 0]] [(0,.box (bx ((cI .i64) r.2)))] (wB r.1):=E8.fn h
def RW(a0:df)(a1:Int):LT Empty Bool:=
.lb 1002<|.lb 1003<|.callU (RU a0.Mods a1) [1003] 90000 λx1=>.rt x1.1
def Z32:LF Empty Bool :=.z0 156 [.t 4] wB
def RX:=λa0 a1=>Z32.run (RW a0 a1)
def RY(a0)(a1){r}(h:RX a0 a1=some r):Fn PR 156 [wA (cj a0),wI a1] (wB r):=Z32.fn h
inductive xi where
 |L0 (v1:Int) (E0:ai) (v5:Bool)
def xk(v1:Int)(E0:ai)(v5:Bool):LT xi Bool:=
.br (v1==1) (.rt (E0.Who != 0))<|.br (v1==2) (.cs ((bI .or .i64 E0.Types E0.NotTypes) != 0) (.k4 2<|.b2 true<|.rt true)<|.k4 2<|.cs (!(E0.Sub==([]:By))) (.k2 3<|.rt true)<|.k2 3<|.rt v5)<|.br (v1==3) (.rt ((bI .or .i64 E0.Colors E0.NotColors) != 0))<|.br (v1==4) (.rt (E0.Keys != 0))<|.rt v5
def RZ(a0:ai)(a1:Int):LT xi Bool:=
.lb 1002<|.cs (a0.Power.Kind != 0) (.k5 0<|.jn 0 (.L0 a1 a0 true) [.relab 1002 3000] (xk a1 a0 true))<|.k5 0<|.jn 0 (.L0 a1 a0 (a0.Tough.Kind != 0)) [.relab 1002 3000] (xk a1 a0 (a0.Tough.Kind != 0))
def E9:LF xi Bool :=.m0 271 [.t 4] wB λ|.L0 v1 E0 v5=>([1,1],⟨52,[(1,wI v1),(2,.bptr 3000 0),(5,wB v5)],[(3000,.box (bx (bg E0)))]⟩,xk v1 E0 v5)
def R1:=λa0 a1=>E9.run (RZ a0 a1)
def Fa(a0)(a1){r}(h:R1 a0 a1=some r):Fn PR 271 [wA (bg a0),wI a1] (wB r):=E9.fn h
def R2(a0:ay)(a1:Int):LT Empty Int:=
.lb 1002<|.call (Ey a0.Id a1) λx1=>.rt x1
def Z33:LF Empty Int :=.z0 309 [.t 4] wI
def R3:=λa0 a1=>Z33.run (R2 a0 a1)
def Z1m(a0)(a1){r}(h:R3 a0 a1=some r):Fn PR 309 [wA (au a0),wI a1] (wI r):=Z33.fn h
inductive xl where
 |L0 (v0:List ay) (v1:Int) (v8:Int) (v9:Int) (v10:Int)
def R4(v0:List ay)(v1:Int)(v8:Int)(v9:Int)(v10:Int):LT xl (Int×Bool):=
.br (decide (v9<v10)) (.dc (¬(1:Int)<0) rfl<|.idx au v0 (IntKind.wrap .i64 (shrI .u64 (IntKind.wrap .u64 (IntKind.wrap .i64 (v9+v10))) 1)) λx7=>.call (Z1m x7 v1) λx9=>.br (decide (x9<0)) (.g0 (.L0 v0 v1 v8 (IntKind.wrap .i64 ((IntKind.wrap .i64 (shrI .u64 (IntKind.wrap .u64 (IntKind.wrap .i64 (v9+v10))) 1))+1)) v10))<|.g0 (.L0 v0 v1 v8 v9 (IntKind.wrap .i64 (shrI .u64 (IntKind.wrap .u64 (IntKind.wrap .i64 (v9+v10))) 1))))<|.cs (decide (v9<v8)) (.k4 1<|.idx au v0 v9 λx15=>.k3 1<|.call (Z1m x15 v1) λx17=>.k2 1<|.rt (v9,x17==0))<|.k8 1<|.kg 1<|.rt (v9,false)
def R5(a0:List ay)(a1:Int):LT xl (Int×Bool):=
.len au a0<|.g0 (.L0 a0 a1 (a0.length:Int) 0 (a0.length:Int))
def Fb:LF xl (Int×Bool) :=.m0 308 [.t 6,.t 7] (λr=>(.tup [wI r.1,wB r.2])) λ|.L0 v0 v1 v8 v9 v10=>([1,1,1,0,4],⟨49,[(0,wL au v0),(1,wI v1),(2,.fn 309 []),(8,wI v8),(9,wI v9),(10,wI v10)],[]⟩,R4 v0 v1 v8 v9 v10)
def R6:=λa0 a1=>Fb.run (R5 a0 a1)
def R7(a0)(a1){r}(h:R6 a0 a1=some r):Fn PR 308 [wL au a0,wI a1,.fn 309 []] (.tup [wI r.1,wB r.2]):=Fb.fn h
def R8(a0:ae)(a1:Int):LT Empty Int:=
.lb 1002<|.call (R7 a0.Objects a1) λx1=>.br (!x1.2) (.rt (-1))<|.rt x1.1
def Fc:LF Empty Int :=.z0 276 [.t 4] wI
def R9:=λa0 a1=>Fc.run (R8 a0 a1)
def Z7q(a0)(a1){r}(h:R9 a0 a1=some r):Fn PR 276 [wA (aC a0),wI a1] (wI r):=Fc.fn h
def Sa(a0:Int)(a1:Int):LT Empty Bool:=
.cs (decide (a0>=0)) (.k4 0<|.rt (decide (a0<=a1)))<|.k4 0<|.rt false
def Z1n:LF Empty Bool :=.z0 301 [.t 4] wB
def Sb:=λa0 a1=>Z1n.run (Sa a0 a1)
def ib(a0)(a1){r}(h:Sb a0 a1=some r):Fn PR 301 [wI a0,wI a1] (wB r):=Z1n.fn h
inductive xm where
 |L0 (v36:List Int) (v37:Int) (v38:Int)
def Sc(v36:List Int)(v37:Int)(v38:Int):LT xm Bool:=
.br (decide (v38<v37)) (.idx (cI .u8) v36 v38 λx2=>.cs (decide (x2<97)) (.k3 1<|.b3 true<|.cs (decide (x2<48)) (.k2 2<|.kb true<|.kg 2<|.b4 true<|.br (x2 != 45) (.rt false)<|.g0 (.L0 v36 v37 (IntKind.wrap .i64 (v38+1))))<|.k2 2<|.kb true<|.kg 2<|.kb true<|.cs (decide (x2>57)) (.k3 3<|.br (x2 != 45) (.rt false)<|.g0 (.L0 v36 v37 (IntKind.wrap .i64 (v38+1))))<|.k3 3<|.kn [0]<|.g0 (.L0 v36 v37 (IntKind.wrap .i64 (v38+1))))<|.k3 1<|.cs (decide (x2>122)) (.k3 2<|.cs (decide (x2<48)) (.k2 3<|.kg 2<|.kg 3<|.kg 2<|.b3 true<|.br (x2 != 45) (.rt false)<|.g0 (.L0 v36 v37 (IntKind.wrap .i64 (v38+1))))<|.k2 3<|.kg 2<|.kg 3<|.kg 2<|.cs (decide (x2>57)) (.k3 4<|.br (x2 != 45) (.rt false)<|.g0 (.L0 v36 v37 (IntKind.wrap .i64 (v38+1))))<|.k3 4<|.kn [0]<|.g0 (.L0 v36 v37 (IntKind.wrap .i64 (v38+1))))<|.k5 2<|.b3 false<|.kn [0]<|.g0 (.L0 v36 v37 (IntKind.wrap .i64 (v38+1))))<|.rt true
def Se(a0:By):LT xm Bool:=
.lenS a0<|.cs ((a0.length:Int)==0) (.k4 0<|.b16 true<|.b2 true<|.kn [0]<|.rt false)<|.k2 0<|.lenS a0<|.k2 0<|.cs (decide ((a0.length:Int)>32)) (.k4 1<|.b8 true<|.b5 true<|.kb true<|.kn [0]<|.rt false)<|.k2 1<|.idxS a0 0 λx4=>.k2 1<|.cs (decide ((UInt8.toNat x4:Int)<97)) (.k4 2<|.b8 true<|.b2 true<|.kn [0]<|.rt false)<|.k2 2<|.idxS a0 0 λx7=>.k2 2<|.cs (decide ((UInt8.toNat x7:Int)>122)) (.k5 3<|.k2 3<|.b3 true<|.kn [0]<|.rt false)<|.k3 3<|.lenS a0<|.k2 3<|.idxS a0 (IntKind.wrap .i64 ((a0.length:Int)-1)) λx12=>.k2 3<|.cs ((UInt8.toNat x12:Int)==45) (.k3 4<|.kn [0]<|.rt false)<|.k2 4<|.call (Sf a0 ([45,45]:By)) λx15=>.kg 4<|.br x15 (.rt false)<|.bys a0 λx18=>.len (cI .u8) x18<|.g0 (.L0 x18 (x18.length:Int) 0)
def Fe:LF xm Bool :=.m0 323 [.t 2] wB λ|.L0 v36 v37 v38=>([1,1,0,1,4],⟨61,[(36,wL (cI .u8) v36),(37,wI v37),(38,wI v38)],[]⟩,Sc v36 v37 v38)
def Sh:=λa0=>Fe.run (Se a0)
def Si(a0){r}(h:Sh a0=some r):Fn PR 323 [wS a0] (wB r):=Fe.fn h
def Sj(a0:Int):LT Empty (By):=
.idX U.str (A2.list (⟨([98,97,115,105,99]:By),([117,110,105,113,117,101]:By)⟩:A2 (By))) a0 λx1=>.rt x1
def Z1o:LF Empty (By) :=.z0 325 [.t 2] wS
def Sk:=λa0=>Z1o.run (Sj a0)
def Sl(a0){r}(h:Sk a0=some r):Fn PR 325 [wI a0] (wS r):=Z1o.fn h
def Sm(a0:Int):LT Empty (By):=
.idX U.str (A6.list (⟨([99,114,101,97,116,117,114,101]:By),([105,110,115,116,97,110,116]:By),([114,105,116,117,97,108]:By),([114,101,108,105,99]:By),([99,104,97,114,109]:By),([108,97,110,100]:By)⟩:A6 (By))) a0 λx1=>.rt x1
def Z34:LF Empty (By) :=.z0 326 [.t 2] wS
def Sn:=λa0=>Z34.run (Sm a0)
def So(a0){r}(h:Sn a0=some r):Fn PR 326 [wI a0] (wS r):=Z34.fn h
inductive xn where
 |L0 (v0:By) (v8:Int) (v9:Int)
def Sp(v0:By)(v8:Int)(v9:Int):LT xn Int:=
.br (decide (v9<v8)) (.call (Sl v9) λx2=>.br (!(x2==v0)) (.g0 (.L0 v0 v8 (IntKind.wrap .i64 (v9+1))))<|.ok (¬v9<0)<|.rt (shlI .i64 1 v9))<|.rt 0
def Sq(a0:By)(a1:Int):LT xn Int:=
.g0 (.L0 a0 a1 0)
def Ff:LF xn Int :=.m0 324 [.t 6] wI λ|.L0 v0 v8 v9=>([1,6,1,0,1,4],⟨20,[(0,wS v0),(2,.fn 325 []),(8,wI v8),(9,wI v9)],[]⟩,Sp v0 v8 v9)
def Z1p:=λa0 a1=>Ff.run (Sq a0 a1)
def Sr(a0)(a1){r}(h:Z1p a0 a1=some r):Fn PR 324 [wS a0,wI a1,.fn 325 []] (wI r):=Ff.fn h
inductive xo where
 |L0 (v0:By) (v8:Int) (v9:Int)
def Ss(v0:By)(v8:Int)(v9:Int):LT xo Int:=
.br (decide (v9<v8)) (.call (So v9) λx2=>.br (!(x2==v0)) (.g0 (.L0 v0 v8 (IntKind.wrap .i64 (v9+1))))<|.ok (¬v9<0)<|.rt (shlI .i64 1 v9))<|.rt 0
def Su(a0:By)(a1:Int):LT xo Int:=
.g0 (.L0 a0 a1 0)
def Fg:LF xo Int :=.m0 324 [.t 6] wI λ|.L0 v0 v8 v9=>([1,6,1,0,1,4],⟨20,[(0,wS v0),(2,.fn 326 []),(8,wI v8),(9,wI v9)],[]⟩,Ss v0 v8 v9)
def Z2z:=λa0 a1=>Fg.run (Su a0 a1)
def Sv(a0)(a1){r}(h:Z2z a0 a1=some r):Fn PR 324 [wS a0,wI a1,.fn 326 []] (wI r):=Fg.fn h
def Sw(a0:By):LT Empty Bool:=
.call (Si a0) λx1=>.cs x1 (.k2 0<|.call (Sr a0 2) λx4=>.k2 0<|.cs (x4==0) (.k2 1<|.call (Sv a0 6) λx7=>.k2 1<|.rt (x7==0))<|.k4 1<|.rt false)<|.k4 0<|.b4 false<|.rt false
def Fh:LF Empty Bool :=.z0 302 [.t 2] wB
def Sx:=λa0=>Fh.run (Sw a0)
def xr(a0){r}(h:Sx a0=some r):Fn PR 302 [wS a0] (wB r):=Fh.fn h
def Sy(a0:ab):LT Empty Bool:=
.lb 1001<|.call (ib a0.Kind 3) λx1=>.cs x1 (.k3 0<|.call (ib a0.N 1000000) λx4=>.kg 0<|.cs x4 (.k4 1<|.cs (a0.Kind != 0) (.k3 2<|.kg 1<|.kg 2<|.kg 1<|.rt true)<|.k3 2<|.kg 1<|.kg 2<|.kg 1<|.rt (a0.N==0))<|.k5 1<|.kg 1<|.rt false)<|.k4 0<|.b5 false<|.kb false<|.rt false
def Z1q:LF Empty Bool :=.z0 303 [.t 2] wB
def Sz:=λa0=>Z1q.run (Sy a0)
def xt(a0){r}(h:Sz a0=some r):Fn PR 303 [wA (eG a0)] (wB r):=Z1q.fn h
inductive Z5o where
 |L0 (E0:ai)
def Z1r(E0:ai):LT Z5o Bool:=
.call (xt E0.Power) λx1=>.cs x1 (.k3 0<|.call (xt E0.Tough) λx4=>.kg 0<|.cs x4 (.k3 1<|.call (xt E0.Value) λx7=>.kg 1<|.rt x7)<|.k4 1<|.rt false)<|.k4 0<|.b4 false<|.rt false
def SA(a0:ai):LT Z5o Bool:=
.lb 1001<|.call (ib a0.Zone 5) λx1=>.cs (!x1) (.k5 0<|.b8 true<|.b5 true<|.b2 true<|.kn [0]<|.rt false)<|.k3 0<|.call (ib a0.Who 2) λx4=>.k2 0<|.cs (!x4) (.k5 1<|.b8 true<|.b2 true<|.kn [0]<|.rt false)<|.k3 1<|.call (ib a0.Self 2) λx7=>.k2 1<|.cs (!x7) (.k5 2<|.b5 true<|.kn [0]<|.rt false)<|.k3 2<|.call (ib a0.Tap 2) λx10=>.k2 2<|.cs (!x10) (.k5 3<|.kn [0]<|.rt false)<|.k3 3<|.call (ib a0.Keys 131071) λx13=>.k2 3<|.br (!x13) (.rt false)<|.call (ib a0.Types 63) λx16=>.cs (!x16) (.k5 5<|.b5 true<|.b2 true<|.kn [0]<|.rt false)<|.k3 5<|.call (ib a0.NotTypes 63) λx19=>.k2 5<|.cs (!x19) (.k5 6<|.k2 6<|.kn [0]<|.rt false)<|.k5 6<|.k2 6<|.br ((bI .and .i64 a0.Types a0.NotTypes) != 0) (.rt false)<|.call (ib a0.Colors 31) λx23=>.cs (!x23) (.k5 8<|.b5 true<|.b2 true<|.kn [0]<|.rt false)<|.k3 8<|.call (ib a0.NotColors 31) λx26=>.k2 8<|.cs (!x26) (.k5 9<|.k2 9<|.kn [0]<|.rt false)<|.k5 9<|.k2 9<|.br ((bI .and .i64 a0.Colors a0.NotColors) != 0) (.rt false)<|.cs (!(a0.Sub==([]:By))) (.k3 11<|.call (xr a0.Sub) λx31=>.k2 11<|.br (!x31) (.rt false)<|.jn 0 (.L0 a0) [.relab 1001 3000] (Z1r a0))<|.k5 11<|.kn [0]<|.jn 0 (.L0 a0) [.relab 1001 3000] (Z1r a0)
def Fi:LF Z5o Bool :=.m0 254 [.t 2] wB λ|.L0 E0=>([1,1,1,1,1],⟨89,[(1,.bptr 3000 0)],[(3000,.box (bx (bg E0)))]⟩,Z1r E0)
def SB:=λa0=>Fi.run (SA a0)
def Fj(a0){r}(h:SB a0=some r):Fn PR 254 [wA (bg a0)] (wB r):=Fi.fn h
def Z1s(a0:Int)(a1:Int)(a2:Int):LT Empty Bool:=
.cs (a1==0) (.k5 0<|.b5 true<|.rt ((bI .and .i64 a0 a2)==0))<|.k5 0<|.cs ((bI .and .i64 a0 a1) != 0) (.k5 1<|.rt ((bI .and .i64 a0 a2)==0))<|.k5 1<|.rt false
def Z1t:LF Empty Bool :=.z0 255 [.t 6] wB
def xu:=λa0 a1 a2=>Z1t.run (Z1s a0 a1 a2)
def Fk(a0)(a1)(a2){r}(h:xu a0 a1 a2=some r):Fn PR 255 [wI a0,wI a1,wI a2] (wB r):=Z1t.fn h
def Fl(a0:ab)(a1:Int):LT Empty Bool:=
.lb 1002<|.br (a0.Kind==0) (.rt true)<|.br (a0.Kind==1) (.rt (decide (a1>=a0.N)))<|.br (a0.Kind==2) (.rt (decide (a1<=a0.N)))<|.br (a0.Kind==3) (.rt (a1==a0.N))<|.rt false
def Fm:LF Empty Bool :=.z0 257 [.t 4] wB
def xv:=λa0 a1=>Fm.run (Fl a0 a1)
def Fo(a0)(a1){r}(h:xv a0 a1=some r):Fn PR 257 [wA (eG a0),wI a1] (wB r):=Fm.fn h
inductive nC where
 |L0 (v0:Bys) (v1:By) (v7:Int) (v8:Int)
def nA(v0:Bys)(v1:By)(v7:Int)(v8:Int):LT nC Int:=
.br (decide (v8<v7)) (.idx cS v0 v8 λx2=>.br (v1==x2) (.rt v8)<|.g0 (.L0 v0 v1 v7 (IntKind.wrap .i64 (v8+1))))<|.rt (-1)
def Cr(a0:Bys)(a1:By):LT nC Int:=
.len cS a0<|.g0 (.L0 a0 a1 (a0.length:Int) 0)
def ri:LF nC Int :=.m0 327 [.t 4] wI λ|.L0 v0 v1 v7 v8=>([1,0,1,4],⟨19,[(0,wL cS v0),(1,wS v1),(7,wI v7),(8,wI v8)],[]⟩,nA v0 v1 v7 v8)
def Cq:=λa0 a1=>ri.run (Cr a0 a1)
def SD(a0)(a1){r}(h:Cq a0 a1=some r):Fn PR 327 [wL cS a0,wS a1] (wI r):=ri.fn h
def Cp(a0:Bys)(a1:By):LT Empty Bool:=
.call (SD a0 a1) λx1=>.rt (decide (x1>=0))
def Fp:LF Empty Bool :=.z0 304 [.t 4] wB
def Co:=λa0 a1=>Fp.run (Cp a0 a1)
def SE(a0)(a1){r}(h:Co a0 a1=some r):Fn PR 304 [wL cS a0,wS a1] (wB r):=Fp.fn h
def Cn(a0:bV)(a1:By):LT Empty Bool:=
.lb 1002<|.call (SE a0.Subs a1) λx1=>.rt x1
def Fq:LF Empty Bool :=.z0 258 [.t 4] wB
def Z5p:=λa0 a1=>Fq.run (Cn a0 a1)
def Z7r(a0)(a1){r}(h:Z5p a0 a1=some r):Fn PR 258 [wA (iN a0),wS a1] (wB r):=Fq.fn h
def SF(a0:Int)(a1:Int):LT Empty Bool:=
.rt ((bI .and .i64 a0 a1)==a1)
def Ft:LF Empty Bool :=.z0 197 [.t 4] wB
def Fu:=λa0 a1=>Ft.run (SF a0 a1)
def xw(a0)(a1){r}(h:Fu a0 a1=some r):Fn PR 197 [wI a0,wI a1] (wB r):=Ft.fn h
def Fv(a0:Int)(a1:Int):LT Empty Int:=
.call (ia a0) λx1=>.call (ia a1) λx3=>.call (ia (IntKind.wrap .i64 (x1*x3))) λx7=>.rt x7
def Fw:LF Empty Int :=.z0 306 [.t 4] wI
def xy:=λa0 a1=>Fw.run (Fv a0 a1)
def SG(a0)(a1){r}(h:xy a0 a1=some r):Fn PR 306 [wI a0,wI a1] (wI r):=Fw.fn h
inductive Z1u where
 |L0 (v1:Int) (E0:Z5) (v5:Int) (v14:A5 Int) (v15:Int)
def oT(v1:Int)(E0:Z5)(v5:Int)(v14:A5 Int)(v15:Int):LT Z1u Int:=
.br (decide (v15<5)) (.idX (U.int .i64) (A5.list v14) v15 λx2=>.g0 (.L0 v1 E0 (IntKind.wrap .i64 (v5+x2)) v14 (IntKind.wrap .i64 (v15+1))))<|.call (SG E0.X (maxI 0 v1)) λx8=>.call (oQ v5 x8) λx10=>.rt x10
def Fx(a0:Z5)(a1:Int):LT Z1u Int:=
.lb 1002<|.call (EL a0) λx1=>.br (!x1) (.rt 0)<|.go (.L0 a1 a0 a0.Generic a0.Color 0) [.relab 1002 3000]
def sG:LF Z1u Int :=.m0 259 [.t 4] wI λ|.L0 v1 E0 v5 v14 v15=>([1,1,1,0,1,4],⟨29,[(1,wI v1),(2,.bptr 3000 0),(5,wI v5),(14,wA ((cA5 (cI .i64)) v14)),(15,wI v15)],[(3000,.box (bx (cn E0)))]⟩,oT v1 E0 v5 v14 v15)
def Z9k:=λa0 a1=>sG.run (Fx a0 a1)
def SH(a0)(a1){r}(h:Z9k a0 a1=some r):Fn PR 259 [wA (cn a0),wI a1] (wI r):=sG.fn h
def Fy(a0:ab)(a1:Int)(b0:Bool):LT Empty Bool:=
.lb 1003<|.cs (a0.Kind==0) (.k4 0<|.rt true)<|.k2 0<|.cs b0 (.k3 1<|.call (Fo a0 a1) λx3=>.kg 0<|.kg 1<|.kg 0<|.rt x3)<|.k3 1<|.kg 0<|.kg 1<|.kg 0<|.rt false
def Fz(b0:Bool):LF Empty Bool :=.z 256 [.t 5] true (λr=>[(0,.box (bx (cB b0)))]) (λr=>(wB r))
def xz(a0:ab)(a1:Int)(b0:Bool):Option Bool:=(Fz b0).run (Fy a0 a1 b0)
def FA(a0:ab)(a1:Int)(b0:Bool){r:Bool}(h:xz a0 a1 b0=some r):FnG PR 256 [(0,.box (bx (cB b0)))] [wA (eG a0),wI a1,.bptr 0 0] [(0,.box (bx (cB b0)))] (wB r):=(Fz b0).fn h
inductive lh where
 |L0 (v3:Int) (E0:ay) (E1:al) (E2:ai) (E3:Bool) (v30:Bool)
 |L1 (E0:ay) (E1:al) (E2:ai) (E3:Bool) (v49:Bool)
 |L2 (E0:ay) (E1:al) (E2:ai) (E3:Bool) (v68:Bool)
 |L3 (E0:ay) (E1:al) (E2:ai) (E3:Bool) (v88:Bool)
 |L4 (E0:al) (E1:ai) (E2:Bool)
def lj(E0:al)(E1:ai)(E2:Bool):LT lh Bool:=
.callO (FA E1.Power E0.Power E2) [3002] 1280000 (λx=>[]) λx1=>.cs x1 (.k5 0<|.kg 0<|.callO (FA E1.Tough E0.Tough E2) [3002] 1350000 (λx=>[]) λx4=>.kg 0<|.cs x4 (.k5 1<|.call (SH E0.Cost 0) λx7=>.kg 1<|.call (Fo E1.Value x7) λx9=>.kg 1<|.rt x9)<|.k5 1<|.k2 1<|.rt false)<|.k5 0<|.k2 0<|.b5 false<|.b2 false<|.rt false
def mI(E0:ay)(E1:al)(E2:ai)(E3:Bool)(v88:Bool):LT lh Bool:=
.br v88 (.rt false)<|.cs (E2.Tap==1) (.k4 1<|.br (!E0.Tapped) (.kn [3]<|.rt false)<|.cs (E2.Tap==2) (.k3 3<|.br E0.Tapped (.rt false)<|.jn 0 (.L4 E1 E2 E3) (tm19 3000) (lj E1 E2 E3))<|.k3 3<|.kn [0]<|.jn 0 (.L4 E1 E2 E3) (tm19 3000) (lj E1 E2 E3))<|.k4 1<|.kn [0]<|.cs (E2.Tap==2) (.k3 2<|.br E0.Tapped (.rt false)<|.jn 0 (.L4 E1 E2 E3) (tm19 3000) (lj E1 E2 E3))<|.k3 2<|.kn [0]<|.jn 0 (.L4 E1 E2 E3) (tm19 3000) (lj E1 E2 E3)
def oU(E0:ay)(E1:al)(E2:ai)(E3:Bool)(v68:Bool):LT lh Bool:=
.br v68 (.rt false)<|.cs (!(E2.Sub==([]:By))) (.k5 1<|.call (Z7r E1.Line E2.Sub) λx3=>.k2 1<|.br (!x3) (.j0 (.L3 E0 E1 E2 E3 (!x3)) (mI E0 E1 E2 E3 (!x3)))<|.call (xw E1.Keys E2.Keys) λx6=>.j0 (.L3 E0 E1 E2 E3 (!x6)) (mI E0 E1 E2 E3 (!x6)))<|.k5 1<|.k2 1<|.kn [0]<|.call (xw E1.Keys E2.Keys) λx8=>.j0 (.L3 E0 E1 E2 E3 (!x8)) (mI E0 E1 E2 E3 (!x8))
def j4(E0:ay)(E1:al)(E2:ai)(E3:Bool)(v49:Bool):LT lh Bool:=
.br v49 (.rt false)<|.call (Fk E1.Line.Types E2.Types E2.NotTypes) λx2=>.br (!x2) (.j0 (.L2 E0 E1 E2 E3 (!x2)) (oU E0 E1 E2 E3 (!x2)))<|.call (Fk E1.Colors E2.Colors E2.NotColors) λx5=>.j0 (.L2 E0 E1 E2 E3 (!x5)) (oU E0 E1 E2 E3 (!x5))
def j5(v3:Int)(E0:ay)(E1:al)(E2:ai)(E3:Bool)(v30:Bool):LT lh Bool:=
.br v30 (.rt false)<|.cs (E2.Self==1) (.k5 1<|.br (E0.Id != v3) (.j0 (.L1 E0 E1 E2 E3 (E0.Id != v3)) (j4 E0 E1 E2 E3 (E0.Id != v3)))<|.cs (E2.Self==2) (.k5 3<|.j0 (.L1 E0 E1 E2 E3 (E0.Id==v3)) (j4 E0 E1 E2 E3 (E0.Id==v3)))<|.k5 3<|.j0 (.L1 E0 E1 E2 E3 false) (j4 E0 E1 E2 E3 false))<|.k5 1<|.kn [0]<|.cs (E2.Self==2) (.k5 2<|.j0 (.L1 E0 E1 E2 E3 (E0.Id==v3)) (j4 E0 E1 E2 E3 (E0.Id==v3)))<|.k5 2<|.j0 (.L1 E0 E1 E2 E3 false) (j4 E0 E1 E2 E3 false)
def SI(a0:ay)(a1:al)(a2:Int)(a3:Int)(a4:ai):LT lh Bool:=
.lb 1005<|.lb 1006<|.lb 1009<|.call (Fj a4) λx1=>.cs (!x1) (.k5 0<|.kg 0<|.kn [0]<|.rt false)<|.k5 0<|.kg 0<|.br (a0.Zone != a4.Zone) (.rt false)<|.lb 1011<|.cs (a4.Who==1) (.k5 2<|.br (a1.Control != a2) (.jn 0 (.L0 a3 a0 a1 a4 ((bI .and .i64 a1.Line.Types 1) != 0) (a1.Control != a2)) (tm21 1000 3000) (j5 a3 a0 a1 a4 ((bI .and .i64 a1.Line.Types 1) != 0) (a1.Control != a2)))<|.cs (a4.Who==2) (.k5 4<|.jn 0 (.L0 a3 a0 a1 a4 ((bI .and .i64 a1.Line.Types 1) != 0) (a1.Control==a2)) (tm21 1000 3000) (j5 a3 a0 a1 a4 ((bI .and .i64 a1.Line.Types 1) != 0) (a1.Control==a2)))<|.k5 4<|.jn 0 (.L0 a3 a0 a1 a4 ((bI .and .i64 a1.Line.Types 1) != 0) false) (tm21 1000 3000) (j5 a3 a0 a1 a4 ((bI .and .i64 a1.Line.Types 1) != 0) false))<|.k5 2<|.kn [0]<|.cs (a4.Who==2) (.k5 3<|.jn 0 (.L0 a3 a0 a1 a4 ((bI .and .i64 a1.Line.Types 1) != 0) (a1.Control==a2)) (tm21 1000 3000) (j5 a3 a0 a1 a4 ((bI .and .i64 a1.Line.Types 1) != 0) (a1.Control==a2)))<|.k5 3<|.jn 0 (.L0 a3 a0 a1 a4 ((bI .and .i64 a1.Line.Types 1) != 0) false) (tm21 1000 3000) (j5 a3 a0 a1 a4 ((bI .and .i64 a1.Line.Types 1) != 0) false)
def ll:LF lh Bool :=.m0 193 [.t 10] wB λ|.L0 v3 E0 E1 E2 E3 v30=>([1,1,1,1,1,0,4,1],⟨144,[(3,wI v3),(5,.bptr 3000 0),(6,.bptr 3001 0),(9,.bptr 3002 0),(12,.fn 255 []),(13,.fn 256 [.bptr 3003 0]),(30,wB v30)],[(3000,.box (bx (au E0))),(3001,.box (bx (aw E1))),(3002,.box (bx (bg E2))),(3003,.box (bx (cB E3)))]⟩,j5 v3 E0 E1 E2 E3 v30)|.L1 E0 E1 E2 E3 v49=>([1,1,1,1,1,0,4,1,3,1],⟨144,[(5,.bptr 3000 0),(6,.bptr 3001 0),(9,.bptr 3002 0),(12,.fn 255 []),(13,.fn 256 [.bptr 3003 0]),(49,wB v49)],[(3000,.box (bx (au E0))),(3001,.box (bx (aw E1))),(3002,.box (bx (bg E2))),(3003,.box (bx (cB E3)))]⟩,j4 E0 E1 E2 E3 v49)|.L2 E0 E1 E2 E3 v68=>([1,1,1,1,1,0,4,1,3,1,3,1],⟨144,[(5,.bptr 3000 0),(6,.bptr 3001 0),(9,.bptr 3002 0),(13,.fn 256 [.bptr 3003 0]),(68,wB v68)],[(3000,.box (bx (au E0))),(3001,.box (bx (aw E1))),(3002,.box (bx (bg E2))),(3003,.box (bx (cB E3)))]⟩,oU E0 E1 E2 E3 v68)|.L3 E0 E1 E2 E3 v88=>([1,1,1,1,1,0,4,1,3,1,3,1,3,1],⟨144,[(5,.bptr 3000 0),(6,.bptr 3001 0),(9,.bptr 3002 0),(13,.fn 256 [.bptr 3003 0]),(88,wB v88)],[(3000,.box (bx (au E0))),(3001,.box (bx (aw E1))),(3002,.box (bx (bg E2))),(3003,.box (bx (cB E3)))]⟩,mI E0 E1 E2 E3 v88)|.L4 E0 E1 E2=>([1,1,1,1,1,1],⟨144,[(6,.bptr 3000 0),(9,.bptr 3001 0),(13,.fn 256 [.bptr 3002 0])],[(3000,.box (bx (aw E0))),(3001,.box (bx (bg E1))),(3002,.box (bx (cB E2)))]⟩,lj E0 E1 E2)
def SJ:=λa0 a1 a2 a3 a4=>ll.run (SI a0 a1 a2 a3 a4)
def xA(a0)(a1)(a2)(a3)(a4){r}(h:SJ a0 a1 a2 a3 a4=some r):Fn PR 193 [wA (au a0),wA (aw a1),wI a2,wI a3,wA (bg a4)] (wB r):=ll.fn h
inductive sH where
 |L0 (v1:List al) (v2:Int) (v3:Int) (E0:ai) (v11:List Int) (v16:List ay) (v17:Int) (v18:Int)
 |L1 (v1:List al) (v2:Int) (v3:Int) (E0:ai) (v11:List Int) (E1:ay) (E2:al) (v16:List ay) (v17:Int) (v18:Int)
def xB(v1:List al)(v2:Int)(v3:Int)(E0:ai)(v11:List Int)(E1:ay)(E2:al)(v16:List ay)(v17:Int)(v18:Int):LT sH (List Int):=
.call (xA E1 E2 v2 v3 E0) λx1=>.br x1 (.dr [.lit]<|.apR (cI .i64) 8 v11 [E1.Id] λx4=>.g0 (.L0 v1 v2 v3 E0 x4 v16 v17 (IntKind.wrap .i64 (v18+1))))<|.g0 (.L0 v1 v2 v3 E0 v11 v16 v17 (IntKind.wrap .i64 (v18+1)))
def SK(v1:List al)(v2:Int)(v3:Int)(E0:ai)(v11:List Int)(v16:List ay)(v17:Int)(v18:Int):LT sH (List Int):=
.br (decide (v18<v17)) (.idx au v16 v18 λx2=>.lb 1013<|.lb 1014<|.len aw v1<|.br (decide (v18<(v1.length:Int))) (.idx aw v1 v18 λx6=>.jn 0 (.L1 v1 v2 v3 E0 v11 x2 x6 v16 v17 v18) [.relab 1013 3001,.relab 1014 3002] (xB v1 v2 v3 E0 v11 x2 x6 v16 v17 v18))<|.jn 0 (.L1 v1 v2 v3 E0 v11 x2 (⟨([]:By),(⟨0,0,(⟨0,0,0,0,0⟩:A5 Int)⟩:Z5),0,(⟨0,0,([]:Bys)⟩:bV),0,0,0,([]:List ar),0⟩:al) v16 v17 v18) [.relab 1013 3001,.relab 1014 3002,.niltb 3002 11,.niltb 3002 15] (xB v1 v2 v3 E0 v11 x2 (⟨([]:By),(⟨0,0,(⟨0,0,0,0,0⟩:A5 Int)⟩:Z5),0,(⟨0,0,([]:Bys)⟩:bV),0,0,0,([]:List ar),0⟩:al) v16 v17 v18))<|.ret v11 [.relab 20011 5000]
def SL(a0:ae)(a1:List al)(a2:Int)(a3:Int)(a4:ai):LT sH (List Int):=
.lb 1005<|.lb 1009<|.len au a0.Objects<|.go (.L0 a1 a2 a3 a4 ([]:List Int) a0.Objects (a0.Objects.length:Int) 0) [.relab 1009 3000,.own 11 20011 1]
def FB:LF sH (List Int) :=.m 149 [.t 10] true (λr=>[(5000,wR (cI .i64) 1 r)]) (λr=>(wO (cI .i64) 5000 r)) λ|.L0 v1 v2 v3 E0 v11 v16 v17 v18=>([1,1,0,1,4],⟨44,[(1,wL aw v1),(2,wI v2),(3,wI v3),(9,.bptr 3000 0),(11,wO (cI .i64) 20011 v11),(16,wL au v16),(17,wI v17),(18,wI v18)],[(3000,.box (bx (bg E0))),(20011,wR (cI .i64) 1 v11)]⟩,SK v1 v2 v3 E0 v11 v16 v17 v18)|.L1 v1 v2 v3 E0 v11 E1 E2 v16 v17 v18=>([1,1,0,1,4,5,1,1,0,4,1,1,1],⟨44,[(1,wL aw v1),(2,wI v2),(3,wI v3),(9,.bptr 3000 0),(11,wO (cI .i64) 20011 v11),(13,.bptr 3001 0),(14,.bptr 3002 0),(16,wL au v16),(17,wI v17),(18,wI v18)],[(3000,.box (bx (bg E0))),(20011,wR (cI .i64) 1 v11),(3001,.box (bx (au E1))),(3002,.box (bx (aw E2)))]⟩,xB v1 v2 v3 E0 v11 E1 E2 v16 v17 v18)
def SM:=λa0 a1 a2 a3 a4=>FB.run (SL a0 a1 a2 a3 a4)
def Z7s(a0)(a1)(a2)(a3)(a4){r}(h:SM a0 a1 a2 a3 a4=some r):FnG PR 149 [] [wA (aC a0),wL aw a1,wI a2,wI a3,wA (bg a4)] [(5000,wR (cI .i64) 1 r)] (wO (cI .i64) 5000 r):=FB.fn h
inductive xC where
 |L0 (v0:List Int) (v1:List Int) (v12:Int) (v13:Int)
def SN(v0:List Int)(v1:List Int)(v12:Int)(v13:Int):LT xC Bool:=
.br (decide (v13<v12)) (.idx (cI .i64) v0 v13 λx2=>.idx (cI .i64) v1 v13 λx4=>.br (x2 != x4) (.rt false)<|.g0 (.L0 v0 v1 v12 (IntKind.wrap .i64 (v13+1))))<|.rt true
def SO(a0:List Int)(a1:List Int):LT xC Bool:=
.len (cI .i64) a0<|.len (cI .i64) a1<|.br ((a0.length:Int) != (a1.length:Int)) (.rt false)<|.len (cI .i64) a0<|.g0 (.L0 a0 a1 (a0.length:Int) 0)
def FC:LF xC Bool :=.m0 209 [.t 4] wB λ|.L0 v0 v1 v12 v13=>([1,1,0,1,4],⟨26,[(0,wL (cI .i64) v0),(1,wL (cI .i64) v1),(12,wI v12),(13,wI v13)],[]⟩,SN v0 v1 v12 v13)
def Z20:=λa0 a1=>FC.run (SO a0 a1)
def FE(a0)(a1){r}(h:Z20 a0 a1=some r):Fn PR 209 [wL (cI .i64) a0,wL (cI .i64) a1] (wB r):=FC.fn h
def Z1v(a0:fj)(a1:fj):LT Empty Bool:=
.lb 1002<|.lb 1003<|.cs (!(a0.active==a1.active)) (.k5 0<|.k2 0<|.b5 true<|.b2 true<|.rt true)<|.k5 0<|.call (FE a0.hits a1.hits) λx2=>.k2 0<|.cs (!x2) (.k5 1<|.k2 1<|.rt true)<|.k5 1<|.call (FE a0.numbers a1.numbers) λx5=>.k2 1<|.rt (!x5)
def FF:LF Empty Bool :=.z0 208 [.t 4] wB
def Z5q:=λa0 a1=>FF.run (Z1v a0 a1)
def SP(a0)(a1){r}(h:Z5q a0 a1=some r):Fn PR 208 [wA (iO a0),wA (iO a1)] (wB r):=FF.fn h
def FG(a0:List Bool)(hne:a0≠[]):LT Empty (List Bool):=
.ne cB hne<|.kn [0]<|.lb 1005<|.apR cB 1 ([]:List Bool) a0 λx1=>.ret x1 [.relab 1005 5000]
def ln:LF Empty (List Bool) :=.z 274 [.t 2] true (λr=>[(5000,wR cB 1 r)]) (λr=>(wO cB 5000 r))
def xD(c:Nat):LT Empty (List Bool):=
.kn [0]<|.ret ([]:List Bool) [.own 2 5000 1]
def SQ(c:Nat)(ad:Addr):LT Empty (List Bool):=
.kn [0]<|.lb 1005<|.apR cB 1 ([]:List Bool) ([]:List Bool) λx1=>.ret x1 [.relab 1005 5000]
open Classical in
def FH(a0:List Bool):Option (List Bool):=if h:a0≠[]then ln.run (FG a0 h)else ln.run (xD 0)
def FI(a0:List Bool){r:List Bool}(h:FH a0=some r):FnG PR 274 [] [wL cB a0] [(5000,wR cB 1 r)] (wO cB 5000 r):=by
 by_cases hne:a0=[]
 .subst hne;have h0:ln.run (xD 0)=some r:=h;exact FnG.split0 (λe=>absurd rfl e) (λ_ a c=>by
   cases a with
   |none=>exact ln.fn (t:=xD c) h0
   |some ad=>exact ln.fn (t:=SQ c ad) h0)
 have h0:ln.run (FG a0 hne)=some r:=by unfold FH at h;rwa[eE hne]at h
 exact FnG.split0 (λ_=>ln.fn h0) (λe=>absurd (eT.1 e) hne)
def FJ(a0:List ar)(hne:a0≠[]):LT Empty (List ar):=
.ne aE hne<|.kn [0]<|.lb 1005<|.apR aE 640 ([]:List ar) a0 λx1=>.ret x1 [.relab 1005 5000]
def lp:LF Empty (List ar) :=.z 310 [.t 2] true (λr=>[(5000,wR aE 72 r)]) (λr=>(wO aE 5000 r))
def xE(c:Nat):LT Empty (List ar):=
.kn [0]<|.ret ([]:List ar) [.own 2 5000 72]
def SR(c:Nat)(ad:Addr):LT Empty (List ar):=
.kn [0]<|.lb 1005<|.apR aE 640 ([]:List ar) ([]:List ar) λx1=>.ret x1 [.relab 1005 5000]
open Classical in
def FK(a0:List ar):Option (List ar):=if h:a0≠[]then lp.run (FJ a0 h)else lp.run (xE 0)
def SS(a0:List ar){r:List ar}(h:FK a0=some r):FnG PR 310 [] [wL aE a0] [(5000,wR aE 72 r)] (wO aE 5000 r):=by
 by_cases hne:a0=[]
 .subst hne;have h0:lp.run (xE 0)=some r:=h;exact FnG.split0 (λe=>absurd rfl e) (λ_ a c=>by
   cases a with
   |none=>exact lp.fn (t:=xE c) h0
   |some ad=>exact lp.fn (t:=SR c ad) h0)
 have h0:lp.run (FJ a0 hne)=some r:=by unfold FK at h;rwa[eE hne]at h
 exact FnG.split0 (λ_=>lp.fn h0) (λe=>absurd (eT.1 e) hne)
inductive sI where
 |L0 (E0:al) (E1:al) (v18:Int) (v19:Int)
 |L1 (y45000015:ar) (E0:al) (E1:al) (v18:Int) (v19:Int) (v54:Int) (v55:Int) (v4:Int)
def SU(E0:al)(E1:al)(v18:Int)(v19:Int):LT sI al:=
.br (decide (v19<v18)) (.idxR aE E0.Abilities v19 λx2=>.dr [.ahead 7,.opn 40015 (Int.toNat v19) (aE x2),.stop]<|.us [2]<|.iq v19<|.iq v19<|.rl aE E0.Abilities<|.rl aE E0.Abilities<|.rl aE E0.Abilities<|.call (lf x2.Mods) λx4=>.rl aE E0.Abilities<|.rl aE E0.Abilities<|.rl aE E0.Abilities<|.call (SV x2.Specs) λx6=>.rl aE E0.Abilities<|.rl aE E0.Abilities<|.rl aE E0.Abilities<|.callF (xc x2.Effects) 440000 λx8=>.rl aE E0.Abilities<|.rl aE E0.Abilities<|.rl aE E0.Abilities<|.rl aE E0.Abilities<|.rl aE E0.Abilities<|.rl aE E0.Abilities<|.rl aE E0.Abilities<|.rl aE E0.Abilities<|.rl aE E0.Abilities<|.rl aE E0.Abilities<|.rl aE E0.Abilities<|.rl aE E0.Abilities<|.lenO aR x8<|.go (.L1 (⟨x2.Kind,x2.Filter,x4,x2.Price,x2.Slow,x2.Trigger,x2.May,x6,x8,x2.Replace⟩:ar) E0 E1 v18 v19 (x8.length:Int) 0 v19) [.relab 40015 45000015,.relab 445000 46000049])<|.ret E0 [.relab 40011 5011,.relab 40015 5015]
def SW(y45000015:ar)(E0:al)(E1:al)(v18:Int)(v19:Int)(v54:Int)(v55:Int)(v4:Int):LT sI al:=
.br (decide (v55<v54)) (.rl aE E0.Abilities<|.rl aE E0.Abilities<|.rl aE E0.Abilities<|.rl aE E0.Abilities<|.rl aE E0.Abilities<|.rl aE E0.Abilities<|.idxR aR y45000015.Effects v55 λx2=>.rl aR y45000015.Effects<|.ldR aR y45000015.Effects x2 2<|.call (lf x2.Mods) λx4=>.plR aR y45000015.Effects v55 0<|.rl aR y45000015.Effects<|.setD aR y45000015.Effects v55 x2 (⟨x2.Op,x2.Ref,x2.Amount,x2.Counter,x2.Zone,x2.Card,x2.Filter,x2.Pool,x4⟩:aU) 2 63 [.sl (List.map av x4)] rfl λx6=>.dr [.ahead 74,.relen 46000049,.stop]<|.us [3]<|.us [3]<|.us [3]<|.us [3]<|.us [3]<|.us [3]<|.us [3]<|.g0 (.L1 (⟨y45000015.Kind,y45000015.Filter,y45000015.Mods,y45000015.Price,y45000015.Slow,y45000015.Trigger,y45000015.May,y45000015.Specs,x6,y45000015.Replace⟩:ar) E0 E1 v18 v19 v54 (IntKind.wrap .i64 (v55+1)) v4))<|.clsR aE E0.Abilities v4 y45000015 λx10=>.dr [.ahead 75,.frz 46000049,.cls 45000015 (List.map aE x10),.relen 45000015,.stop]<|.rl aR y45000015.Effects<|.us [0]<|.rl aE E0.Abilities<|.rl aE E0.Abilities<|.us [1]<|.us [1]<|.go (.L0 (⟨E0.Name,E0.Cost,E0.Colors,E0.Line,E0.Power,E0.Tough,E0.Keys,x10,E0.Control⟩:al) E1 v18 (IntKind.wrap .i64 (v19+1))) [.relab 45000015 40015]
def SX(a0:al):LT sI al:=
.lb 1001<|.lb 1002<|.callF (w8 a0.Line.Subs) 100000 λx1=>.callF (SS a0.Abilities) 150000 λx3=>.lenO aE x3<|.go (.L0 (⟨a0.Name,a0.Cost,a0.Colors,(⟨a0.Line.Super,a0.Line.Types,x1⟩:bV),a0.Power,a0.Tough,a0.Keys,x3,a0.Control⟩:al) (⟨([]:By),(⟨0,0,(⟨0,0,0,0,0⟩:A5 Int)⟩:Z5),0,(⟨0,0,([]:Bys)⟩:bV),0,0,0,([]:List ar),0⟩:al) (x3.length:Int) 0) [.relab 1001 3000,.relab 1002 3001,.relab 105000 40011,.relab 155000 40015,.ownb 3001 11 40111 1,.ownb 3001 15 40115 72]
def FL:LF sI al :=.m 277 [.c 2 220 true 17] true (λr=>[(5011,wR cS 1 r.Line.Subs),(5015,wR aE 72 r.Abilities)]) (λr=>(.agg (tm3 r 5000))) λ|.L0 E0 E1 v18 v19=>([1,1,1,0,1,4],⟨77,[(1,.bptr 3000 0),(2,.bptr 3001 0),(18,wI v18),(19,wI v19)],[(3000,.box (tm3 E0 40000)),(40011,wR cS 1 E0.Line.Subs),(40015,wR aE 72 E0.Abilities),(3001,.box (tm3 E1 40100)),(40111,wR cS 1 E1.Line.Subs),(40115,wR aE 72 E1.Abilities)]⟩,SU E0 E1 v18 v19)|.L1 y45000015 E0 E1 v18 v19 v54 v55 v4=>([1,1,1,0,1,4,5,1,1,0,4,1,1,1,1,4],⟨77,[(1,.bptr 3000 0),(2,.bptr 3001 0),(4,.own 45000015 (.pp (List.map aE E0.Abilities).length 0)),(18,wI v18),(19,wI v19),(54,wI v54),(55,wI v55)],[(3000,.box [wS E0.Name,wI E0.Cost.Generic,wI E0.Cost.X,wI E0.Cost.Color.a0,wI E0.Cost.Color.a1,wI E0.Cost.Color.a2,wI E0.Cost.Color.a3,wI E0.Cost.Color.a4,wI E0.Colors,wI E0.Line.Super,wI E0.Line.Types,wO cS 40011 E0.Line.Subs,wI E0.Power,wI E0.Tough,wI E0.Keys,.own 45000015 (.pw (List.map aE E0.Abilities).length),wI E0.Control]),(40011,wR cS 1 E0.Line.Subs),(46000049,wR aR 64 y45000015.Effects),(45000015,.prow 72 (Int.toNat v4) (List.map aE E0.Abilities) [wI y45000015.Kind,wI y45000015.Filter.Zone,wI y45000015.Filter.Who,wI y45000015.Filter.Self,wI y45000015.Filter.Types,wI y45000015.Filter.NotTypes,wI y45000015.Filter.Colors,wI y45000015.Filter.NotColors,wS y45000015.Filter.Sub,wI y45000015.Filter.Keys,wI y45000015.Filter.Tap,wI y45000015.Filter.Power.Kind,wI y45000015.Filter.Power.N,wI y45000015.Filter.Tough.Kind,wI y45000015.Filter.Tough.N,wI y45000015.Filter.Value.Kind,wI y45000015.Filter.Value.N,wL av y45000015.Mods,wI y45000015.Price.Mana.Generic,wI y45000015.Price.Mana.X,wI y45000015.Price.Mana.Color.a0,wI y45000015.Price.Mana.Color.a1,wI y45000015.Price.Mana.Color.a2,wI y45000015.Price.Mana.Color.a3,wI y45000015.Price.Mana.Color.a4,wB y45000015.Price.Tap,wB y45000015.Price.Sacrifice,wI y45000015.Price.Life,wB y45000015.Slow,wI y45000015.Trigger.When,wI y45000015.Trigger.Who,wI y45000015.Trigger.Filter.Zone,wI y45000015.Trigger.Filter.Who,wI y45000015.Trigger.Filter.Self,wI y45000015.Trigger.Filter.Types,wI y45000015.Trigger.Filter.NotTypes,wI y45000015.Trigger.Filter.Colors,wI y45000015.Trigger.Filter.NotColors,wS y45000015.Trigger.Filter.Sub,wI y45000015.Trigger.Filter.Keys,wI y45000015.Trigger.Filter.Tap,wI y45000015.Trigger.Filter.Power.Kind,wI y45000015.Trigger.Filter.Power.N,wI y45000015.Trigger.Filter.Tough.Kind,wI y45000015.Trigger.Filter.Tough.N,wI y45000015.Trigger.Filter.Value.Kind,wI y45000015.Trigger.Filter.Value.N,wB y45000015.May,wL Z4 y45000015.Specs,wO aR 46000049 y45000015.Effects,wI y45000015.Replace.On,wI y45000015.Replace.Who,wI y45000015.Replace.Filter.Zone,wI y45000015.Replace.Filter.Who,wI y45000015.Replace.Filter.Self,wI y45000015.Replace.Filter.Types,wI y45000015.Replace.Filter.NotTypes,wI y45000015.Replace.Filter.Colors,wI y45000015.Replace.Filter.NotColors,wS y45000015.Replace.Filter.Sub,wI y45000015.Replace.Filter.Keys,wI y45000015.Replace.Filter.Tap,wI y45000015.Replace.Filter.Power.Kind,wI y45000015.Replace.Filter.Power.N,wI y45000015.Replace.Filter.Tough.Kind,wI y45000015.Replace.Filter.Tough.N,wI y45000015.Replace.Filter.Value.Kind,wI y45000015.Replace.Filter.Value.N,wI y45000015.Replace.Do,wI y45000015.Replace.N,wI y45000015.Replace.Zone,wI y45000015.Replace.Counter]),(3001,.box (tm3 E1 40100)),(40111,wR cS 1 E1.Line.Subs),(40115,wR aE 72 E1.Abilities)]⟩,SW y45000015 E0 E1 v18 v19 v54 v55 v4)
def SY:=λa0=>FL.run (SX a0)
def SZ(a0){r}(h:SY a0=some r):FnG PR 277 [] [wA (aw a0)] [(5011,wR cS 1 r.Line.Subs),(5015,wR aE 72 r.Abilities)] (.agg (tm3 r 5000)):=FL.fn h
def S0(a0:Int)(a1:Int)(a2:Int):LT Empty Bool:=
.cs (decide (a0>=a1)) (.k4 0<|.rt (decide (a0<=a2)))<|.k4 0<|.rt false
def FM:LF Empty Bool :=.z0 311 [.t 6] wB
def S1:=λa0 a1 a2=>FM.run (S0 a0 a1 a2)
def js(a0)(a1)(a2){r}(h:S1 a0 a1 a2=some r):Fn PR 311 [wI a0,wI a1,wI a2] (wB r):=FM.fn h
inductive sJ where
 |L0 (E0:ah) (E1:ah) (E2:ah) (v8:Int) (v9:Bool)
 |L1 (E0:ah) (E1:ah) (E2:ah) (v8:Int) (v19:Bool)
def Z5r(E0:ah)(E1:ah)(E2:ah)(v8:Int)(v19:Bool):LT sJ ah:=
.br v19 (.rt (⟨E2.Kind,E2.N,E2.M,E0.Sub,E2.Filter⟩:ah))<|.br (v8==11) (.rt (⟨E2.Kind,E2.N,E2.M,E2.Sub,E0.Filter⟩:ah))<|.br (v8==12) (.kn [3]<|.rt (⟨E2.Kind,E0.N,E0.M,E2.Sub,E2.Filter⟩:ah))<|.br (v8==13) (.rt (⟨E2.Kind,E0.N,E0.M,E2.Sub,E2.Filter⟩:ah))<|.rt E2
def lu(E0:ah)(E1:ah)(E2:ah)(v8:Int)(v9:Bool):LT sJ ah:=
.br v9 (.rt (⟨E2.Kind,E0.N,E2.M,E2.Sub,E2.Filter⟩:ah))<|.br (v8==4) (.j0 (.L1 E0 E1 E2 v8 (v8==4)) (Z5r E0 E1 E2 v8 (v8==4)))<|.j0 (.L1 E0 E1 E2 v8 (v8==5)) (Z5r E0 E1 E2 v8 (v8==5))
def S2(a0:ah):LT sJ ah:=
.lb 1001<|.lb 1002<|.lb 1003<|.br (a0.Kind==2) (.jn 0 (.L0 a0 (⟨0,0,0,([]:By),(⟨0,0,0,0,0,0,0,([]:By),0,0,(⟨0,0⟩:ab),(⟨0,0⟩:ab),(⟨0,0⟩:ab)⟩:ai)⟩:ah) (⟨a0.Kind,0,0,([]:By),(⟨0,0,0,0,0,0,0,([]:By),0,0,(⟨0,0⟩:ab),(⟨0,0⟩:ab),(⟨0,0⟩:ab)⟩:ai)⟩:ah) a0.Kind (a0.Kind==2)) (tm22 1000 3000) (lu a0 (⟨0,0,0,([]:By),(⟨0,0,0,0,0,0,0,([]:By),0,0,(⟨0,0⟩:ab),(⟨0,0⟩:ab),(⟨0,0⟩:ab)⟩:ai)⟩:ah) (⟨a0.Kind,0,0,([]:By),(⟨0,0,0,0,0,0,0,([]:By),0,0,(⟨0,0⟩:ab),(⟨0,0⟩:ab),(⟨0,0⟩:ab)⟩:ai)⟩:ah) a0.Kind (a0.Kind==2)))<|.br (a0.Kind==3) (.jn 0 (.L0 a0 (⟨0,0,0,([]:By),(⟨0,0,0,0,0,0,0,([]:By),0,0,(⟨0,0⟩:ab),(⟨0,0⟩:ab),(⟨0,0⟩:ab)⟩:ai)⟩:ah) (⟨a0.Kind,0,0,([]:By),(⟨0,0,0,0,0,0,0,([]:By),0,0,(⟨0,0⟩:ab),(⟨0,0⟩:ab),(⟨0,0⟩:ab)⟩:ai)⟩:ah) a0.Kind (a0.Kind==3)) (tm22 1000 3000) (lu a0 (⟨0,0,0,([]:By),(⟨0,0,0,0,0,0,0,([]:By),0,0,(⟨0,0⟩:ab),(⟨0,0⟩:ab),(⟨0,0⟩:ab)⟩:ai)⟩:ah) (⟨a0.Kind,0,0,([]:By),(⟨0,0,0,0,0,0,0,([]:By),0,0,(⟨0,0⟩:ab),(⟨0,0⟩:ab),(⟨0,0⟩:ab)⟩:ai)⟩:ah) a0.Kind (a0.Kind==3)))<|.br (a0.Kind==6) (.jn 0 (.L0 a0 (⟨0,0,0,([]:By),(⟨0,0,0,0,0,0,0,([]:By),0,0,(⟨0,0⟩:ab),(⟨0,0⟩:ab),(⟨0,0⟩:ab)⟩:ai)⟩:ah) (⟨a0.Kind,0,0,([]:By),(⟨0,0,0,0,0,0,0,([]:By),0,0,(⟨0,0⟩:ab),(⟨0,0⟩:ab),(⟨0,0⟩:ab)⟩:ai)⟩:ah) a0.Kind (a0.Kind==6)) (tm22 1000 3000) (lu a0 (⟨0,0,0,([]:By),(⟨0,0,0,0,0,0,0,([]:By),0,0,(⟨0,0⟩:ab),(⟨0,0⟩:ab),(⟨0,0⟩:ab)⟩:ai)⟩:ah) (⟨a0.Kind,0,0,([]:By),(⟨0,0,0,0,0,0,0,([]:By),0,0,(⟨0,0⟩:ab),(⟨0,0⟩:ab),(⟨0,0⟩:ab)⟩:ai)⟩:ah) a0.Kind (a0.Kind==6)))<|.br (a0.Kind==7) (.jn 0 (.L0 a0 (⟨0,0,0,([]:By),(⟨0,0,0,0,0,0,0,([]:By),0,0,(⟨0,0⟩:ab),(⟨0,0⟩:ab),(⟨0,0⟩:ab)⟩:ai)⟩:ah) (⟨a0.Kind,0,0,([]:By),(⟨0,0,0,0,0,0,0,([]:By),0,0,(⟨0,0⟩:ab),(⟨0,0⟩:ab),(⟨0,0⟩:ab)⟩:ai)⟩:ah) a0.Kind (a0.Kind==7)) (tm22 1000 3000) (lu a0 (⟨0,0,0,([]:By),(⟨0,0,0,0,0,0,0,([]:By),0,0,(⟨0,0⟩:ab),(⟨0,0⟩:ab),(⟨0,0⟩:ab)⟩:ai)⟩:ah) (⟨a0.Kind,0,0,([]:By),(⟨0,0,0,0,0,0,0,([]:By),0,0,(⟨0,0⟩:ab),(⟨0,0⟩:ab),(⟨0,0⟩:ab)⟩:ai)⟩:ah) a0.Kind (a0.Kind==7)))<|.br (a0.Kind==8) (.jn 0 (.L0 a0 (⟨0,0,0,([]:By),(⟨0,0,0,0,0,0,0,([]:By),0,0,(⟨0,0⟩:ab),(⟨0,0⟩:ab),(⟨0,0⟩:ab)⟩:ai)⟩:ah) (⟨a0.Kind,0,0,([]:By),(⟨0,0,0,0,0,0,0,([]:By),0,0,(⟨0,0⟩:ab),(⟨0,0⟩:ab),(⟨0,0⟩:ab)⟩:ai)⟩:ah) a0.Kind (a0.Kind==8)) (tm22 1000 3000) (lu a0 (⟨0,0,0,([]:By),(⟨0,0,0,0,0,0,0,([]:By),0,0,(⟨0,0⟩:ab),(⟨0,0⟩:ab),(⟨0,0⟩:ab)⟩:ai)⟩:ah) (⟨a0.Kind,0,0,([]:By),(⟨0,0,0,0,0,0,0,([]:By),0,0,(⟨0,0⟩:ab),(⟨0,0⟩:ab),(⟨0,0⟩:ab)⟩:ai)⟩:ah) a0.Kind (a0.Kind==8)))<|.jn 0 (.L0 a0 (⟨0,0,0,([]:By),(⟨0,0,0,0,0,0,0,([]:By),0,0,(⟨0,0⟩:ab),(⟨0,0⟩:ab),(⟨0,0⟩:ab)⟩:ai)⟩:ah) (⟨a0.Kind,0,0,([]:By),(⟨0,0,0,0,0,0,0,([]:By),0,0,(⟨0,0⟩:ab),(⟨0,0⟩:ab),(⟨0,0⟩:ab)⟩:ai)⟩:ah) a0.Kind (a0.Kind==9)) (tm22 1000 3000) (lu a0 (⟨0,0,0,([]:By),(⟨0,0,0,0,0,0,0,([]:By),0,0,(⟨0,0⟩:ab),(⟨0,0⟩:ab),(⟨0,0⟩:ab)⟩:ai)⟩:ah) (⟨a0.Kind,0,0,([]:By),(⟨0,0,0,0,0,0,0,([]:By),0,0,(⟨0,0⟩:ab),(⟨0,0⟩:ab),(⟨0,0⟩:ab)⟩:ai)⟩:ah) a0.Kind (a0.Kind==9))
def FN:LF sJ ah :=.m0 312 [.c 2 144 true 20] (λr=>(wA (av r))) λ|.L0 E0 E1 E2 v8 v9=>([1,1,0,1,4,1],⟨40,[(1,.bptr 3000 0),(2,.bptr 3001 0),(3,.bptr 3002 0),(8,wI v8),(9,wB v9)],[(3000,.box (bx (av E0))),(3001,.box (bx (av E1))),(3002,.box (bx (av E2)))]⟩,lu E0 E1 E2 v8 v9)|.L1 E0 E1 E2 v8 v19=>([1,1,0,1,4,1,3,1],⟨40,[(1,.bptr 3000 0),(2,.bptr 3001 0),(3,.bptr 3002 0),(8,wI v8),(19,wB v19)],[(3000,.box (bx (av E0))),(3001,.box (bx (av E1))),(3002,.box (bx (av E2)))]⟩,Z5r E0 E1 E2 v8 v19)
def S3:=λa0=>FN.run (S2 a0)
def S4(a0){r}(h:S3 a0=some r):Fn PR 312 [wA (av a0)] (wA (av r)):=FN.fn h
inductive Z1w where
 |L0 (E0:ah) (v14:Int) (v15:Bool)
 |L1 (E0:ah) (v14:Int) (v27:Bool)
 |L2 (E0:ah) (v14:Int) (v43:Bool)
def xF(E0:ah)(v14:Int)(v43:Bool):LT Z1w Bool:=
.br v43 (.call (js E0.N 1 131071) λx2=>.rt x2)<|.br (v14==11) (.call (Fj E0.Filter) λx5=>.rt x5)<|.br (v14==12) (.call (js E0.N 0 99) λx8=>.cs x8 (.k3 3<|.call (js E0.M 0 99) λx11=>.kg 3<|.rt x11)<|.k4 3<|.rt false)<|.br (v14==13) (.call (js E0.N (-99) 99) λx14=>.cs x14 (.k3 4<|.call (js E0.M (-99) 99) λx17=>.kg 4<|.rt x17)<|.k4 4<|.rt false)<|.rt true
def xG(E0:ah)(v14:Int)(v27:Bool):LT Z1w Bool:=
.br v27 (.call (xr E0.Sub) λx2=>.rt x2)<|.br (v14==6) (.call (js E0.N 0 31) λx5=>.rt x5)<|.br (v14==7) (.call (js E0.N 1 31) λx8=>.rt x8)<|.br (v14==8) (.j0 (.L2 E0 v14 (v14==8)) (xF E0 v14 (v14==8)))<|.j0 (.L2 E0 v14 (v14==9)) (xF E0 v14 (v14==9))
def xH(E0:ah)(v14:Int)(v15:Bool):LT Z1w Bool:=
.br v15 (.call (js E0.N 1 63) λx2=>.cs x2 (.k5 1<|.rt ((bI .and .i64 E0.N 6)==0))<|.k5 1<|.rt false)<|.br (v14==4) (.j0 (.L1 E0 v14 (v14==4)) (xG E0 v14 (v14==4)))<|.j0 (.L1 E0 v14 (v14==5)) (xG E0 v14 (v14==5))
def S5(a0:ah):LT Z1w Bool:=
.lb 1001<|.call (js a0.Kind 1 14) λx1=>.cs (!x1) (.k5 0<|.kn [0]<|.rt false)<|.k3 0<|.call (S4 a0) λx4=>.k2 0<|.br (!(ax (av a0) (av x4))) (.rt false)<|.br (a0.Kind==2) (.jn 0 (.L0 a0 a0.Kind (a0.Kind==2)) [.relab 1001 3000] (xH a0 a0.Kind (a0.Kind==2)))<|.jn 0 (.L0 a0 a0.Kind (a0.Kind==3)) [.relab 1001 3000] (xH a0 a0.Kind (a0.Kind==3))
def FO:LF Z1w Bool :=.m0 278 [.t 2] wB λ|.L0 E0 v14 v15=>([1,1,0,1,4,1],⟨74,[(1,.bptr 3000 0),(14,wI v14),(15,wB v15)],[(3000,.box (bx (av E0)))]⟩,xH E0 v14 v15)|.L1 E0 v14 v27=>([1,1,0,1,4,1,3,1],⟨74,[(1,.bptr 3000 0),(14,wI v14),(27,wB v27)],[(3000,.box (bx (av E0)))]⟩,xG E0 v14 v27)|.L2 E0 v14 v43=>([1,1,0,1,4,1,3,1,3,1,3,1,3,1],⟨74,[(1,.bptr 3000 0),(14,wI v14),(43,wB v43)],[(3000,.box (bx (av E0)))]⟩,xF E0 v14 v43)
def S6:=λa0=>FO.run (S5 a0)
def S7(a0){r}(h:S6 a0=some r):Fn PR 278 [wA (av a0)] (wB r):=FO.fn h
def S8(a0:By)(a1:By):LT Empty Bool:=
.rt (!(Op.bytesLess a0 a1))
def FP:LF Empty Bool :=.z0 314 [.t 3] wB
def S9:=λa0 a1=>FP.run (S8 a0 a1)
def Z9l(a0)(a1){r}(h:S9 a0 a1=some r):Fn PR 314 [wS a0,.vptr (cS a1)] (wB r):=FP.fn h
inductive xI where
 |L0 (v0:Bys) (w1_0:By) (v7:Int) (v8:Int)
def Ta(v0:Bys)(w1_0:By)(v7:Int)(v8:Int):LT xI Int:=
.br (decide (v8<v7)) (.idx cS v0 v8 λx2=>.call (Z9l x2 w1_0) λx4=>.br x4 (.rt v8)<|.g0 (.L0 v0 w1_0 v7 (IntKind.wrap .i64 (v8+1))))<|.rt (-1)
def Tb(a0:Bys)(a1:By):LT xI Int:=
.len cS a0<|.g0 (.L0 a0 a1 (a0.length:Int) 0)
def FQ:LF xI Int :=.m0 313 [.t 4] wI λ|.L0 v0 w1_0 v7 v8=>([1,0,1,4],⟨19,[(0,wL cS v0),(1,.fn 314 [.vptr (cS w1_0)]),(7,wI v7),(8,wI v8)],[]⟩,Ta v0 w1_0 v7 v8)
def Tc:=λa0 a1=>FQ.run (Tb a0 a1)
def Td(a0)(a1){r}(h:Tc a0 a1=some r):Fn PR 313 [wL cS a0,.fn 314 [.vptr (cS a1)]] (wI r):=FQ.fn h
def Te(b0:Bys)(a1:Int)(b1:Bys):Option (Bys):=ins? 16 b0 a1 b1
def FR(b0)(a1)(b1){r}(h:Te b0 a1 b1=some r):FnG PR 315 [(0,wR cS 1 b0),(1,wR cS 1 b1)] [wO cS 0 b0,wI a1,wO cS 1 b1] [(5000,wR cS 1 r)] (wO cS 5000 r):=Tf.okO (λx=>⟨_,rfl⟩) b0 a1 b1 h
def Tg(a0:bV)(a1:By):LT Empty bV:=
.lb 1002<|.lb 1003<|.lb 1004<|.callF (w8 a0.Subs) 90000 λx1=>.call (xr a1) λx3=>.cs (!x3) (.k4 0<|.b5 true<|.kn [0]<|.ret (⟨a0.Super,a0.Types,x1⟩:bV) [.relab 95000 5002])<|.k3 0<|.rl cS x1<|.call (Z7r (⟨a0.Super,a0.Types,x1⟩:bV) a1) λx6=>.kg 0<|.cs x6 (.k5 1<|.kn [0]<|.ret (⟨a0.Super,a0.Types,x1⟩:bV) [.relab 95000 5002])<|.k3 1<|.lenO cS x1<|.k2 1<|.br (decide ((x1.length:Int)>=4)) (.ret (⟨a0.Super,a0.Types,x1⟩:bV) [.relab 95000 5002])<|.rl cS x1<|.call (Td x1 a1) λx10=>.br (decide (x10<0)) (.lenO cS x1<|.lb 1038<|.callU (FR x1 (x1.length:Int) [a1]) [95000,1038] 400000 λx13=>.ret (⟨a0.Super,a0.Types,x13⟩:bV) [.relab 405000 5002])<|.lb 1038<|.callU (FR x1 x10 [a1]) [95000,1038] 400000 λx15=>.ret (⟨a0.Super,a0.Types,x15⟩:bV) [.relab 405000 5002]
def FT:LF Empty bV :=.z 279 [.c 4 121 true 3] true (λr=>[(5002,wR cS 1 r.Subs)]) (λr=>(.agg [wI r.Super,wI r.Types,wO cS 5002 r.Subs]))
def Th:=λa0 a1=>FT.run (Tg a0 a1)
def Ti(a0)(a1){r}(h:Th a0 a1=some r):FnG PR 279 [] [wA (iN a0),wS a1] [(5002,wR cS 1 r.Subs)] (.agg [wI r.Super,wI r.Types,wO cS 5002 r.Subs]):=FT.fn h
def Tj(a0:al)(a1:ah)(a2:Int)(a3:Int):LT Empty al:=
.lb 1004<|.lb 1005<|.lb 1008<|.callF (SZ a0) 110000 λx1=>.call (S7 a1) λx3=>.br (!x3) (.ret x1 [.relab 115011 5011,.relab 115015 5015])<|.br (a1.Kind==1) (.ret (⟨x1.Name,x1.Cost,x1.Colors,x1.Line,x1.Power,x1.Tough,x1.Keys,x1.Abilities,a2⟩:al) [.relab 115011 5011,.relab 115015 5015])<|.br (a1.Kind==2) (.ret (⟨x1.Name,x1.Cost,x1.Colors,(⟨x1.Line.Super,a1.N,x1.Line.Subs⟩:bV),x1.Power,x1.Tough,x1.Keys,x1.Abilities,x1.Control⟩:al) [.relab 115011 5011,.relab 115015 5015])<|.br (a1.Kind==3) (.ret (⟨x1.Name,x1.Cost,x1.Colors,(⟨x1.Line.Super,bI .or .i64 x1.Line.Types a1.N,x1.Line.Subs⟩:bV),x1.Power,x1.Tough,x1.Keys,x1.Abilities,x1.Control⟩:al) [.relab 115011 5011,.relab 115015 5015])<|.br (a1.Kind==4) (.lb 1041<|.ret (⟨x1.Name,x1.Cost,x1.Colors,(⟨x1.Line.Super,x1.Line.Types,[a1.Sub]⟩:bV),x1.Power,x1.Tough,x1.Keys,x1.Abilities,x1.Control⟩:al) [.relab 1041 5011,.relab 115015 5015])<|.br (a1.Kind==5) (.rl cS x1.Line.Subs<|.callS (Ti x1.Line a1.Sub) 510000 (λ_=>⟨rfl,jV cS (λ_=>rfl) _,aa⟩) λx11=>.ret (⟨x1.Name,x1.Cost,x1.Colors,x11,x1.Power,x1.Tough,x1.Keys,x1.Abilities,x1.Control⟩:al) [.relab 515002 5011,.relab 115015 5015])<|.br (a1.Kind==6) (.ret (⟨x1.Name,x1.Cost,a1.N,x1.Line,x1.Power,x1.Tough,x1.Keys,x1.Abilities,x1.Control⟩:al) [.relab 115011 5011,.relab 115015 5015])<|.br (a1.Kind==7) (.ret (⟨x1.Name,x1.Cost,bI .or .i64 x1.Colors a1.N,x1.Line,x1.Power,x1.Tough,x1.Keys,x1.Abilities,x1.Control⟩:al) [.relab 115011 5011,.relab 115015 5015])<|.br (a1.Kind==8) (.ret (⟨x1.Name,x1.Cost,x1.Colors,x1.Line,x1.Power,x1.Tough,bI .or .i64 x1.Keys a1.N,x1.Abilities,x1.Control⟩:al) [.relab 115011 5011,.relab 115015 5015])<|.br (a1.Kind==9) (.ret (⟨x1.Name,x1.Cost,x1.Colors,x1.Line,x1.Power,x1.Tough,bI .andNot .i64 x1.Keys a1.N,x1.Abilities,x1.Control⟩:al) [.relab 115011 5011,.relab 115015 5015])<|.br (a1.Kind==10) (.ret (⟨x1.Name,x1.Cost,x1.Colors,x1.Line,x1.Power,x1.Tough,0,([]:List ar),x1.Control⟩:al) [.relab 115011 5011,.ownb 1008 15 5015 72])<|.br (a1.Kind==11) (.call (ia a3) λx19=>.call (ia a3) λx21=>.ret (⟨x1.Name,x1.Cost,x1.Colors,x1.Line,x19,x21,x1.Keys,x1.Abilities,x1.Control⟩:al) [.relab 115011 5011,.relab 115015 5015])<|.br (a1.Kind==12) (.ret (⟨x1.Name,x1.Cost,x1.Colors,x1.Line,a1.N,a1.M,x1.Keys,x1.Abilities,x1.Control⟩:al) [.relab 115011 5011,.relab 115015 5015])<|.br (a1.Kind==13) (.call (oQ x1.Power a1.N) λx25=>.call (oQ x1.Tough a1.M) λx27=>.ret (⟨x1.Name,x1.Cost,x1.Colors,x1.Line,x25,x27,x1.Keys,x1.Abilities,x1.Control⟩:al) [.relab 115011 5011,.relab 115015 5015])<|.br (a1.Kind==14) (.ret (⟨x1.Name,x1.Cost,x1.Colors,x1.Line,x1.Tough,x1.Power,x1.Keys,x1.Abilities,x1.Control⟩:al) [.relab 115011 5011,.relab 115015 5015])<|.ret x1 [.relab 115011 5011,.relab 115015 5015]
def FU:LF Empty al :=.z 214 [.c 8 220 true 17] true (λr=>[(5011,wR cS 1 r.Line.Subs),(5015,wR aE 72 r.Abilities)]) (λr=>(.agg (tm3 r 5000)))
def FV:=λa0 a1 a2 a3=>FU.run (Tj a0 a1 a2 a3)
def Tk(a0)(a1)(a2)(a3){r}(h:FV a0 a1 a2 a3=some r):FnG PR 214 [] [wA (aw a0),wA (av a1),wI a2,wI a3] [(5011,wR cS 1 r.Line.Subs),(5015,wR aE 72 r.Abilities)] (.agg (tm3 r 5000)):=FU.fn h
def Tl(a0:al)(a1:ah)(a2:Int)(a3:Int){r:al}(h:FV a0 a1 a2 a3=some r):Fn PR 214 [wA (aw a0),wA (av a1),wI a2,wI a3] (wA (aw r)):=FnG.frozen (C:=LT.RL cS r.Line.Subs/\LT.RL aE r.Abilities/\True) (Tk a0 a1 a2 a3 h) ⟨rfl,rfl,aa⟩ aq
inductive xJ where
 |L0 (v3:List Int) (v6:List Int) (v7:Int) (v8:Int)
def Tm(v3:List Int)(v6:List Int)(v7:Int)(v8:Int):LT xJ (List Int):=
.br (decide (v8<v7)) (.idx (cI .i64) v6 v8 λx2=>.cs (decide (x2>=0)) (.k3 1<|.rl (cI .i64) v3<|.call (sy v3 x2) λx5=>.k2 1<|.br (!x5) (.dr [.lit]<|.apR (cI .i64) 8 v3 [x2] λx8=>.g0 (.L0 x8 v6 v7 (IntKind.wrap .i64 (v8+1))))<|.g0 (.L0 v3 v6 v7 (IntKind.wrap .i64 (v8+1))))<|.k5 1<|.kn [0]<|.g0 (.L0 v3 v6 v7 (IntKind.wrap .i64 (v8+1))))<|.ret v3 [.relab 20003 5000]
def Tp(a0:List Int):LT xJ (List Int):=
.len (cI .i64) a0<|.go (.L0 ([]:List Int) a0 (a0.length:Int) 0) [.own 3 20003 1]
def FW:LF xJ (List Int) :=.m 266 [.t 2] true (λr=>[(5000,wR (cI .i64) 1 r)]) (λr=>(wO (cI .i64) 5000 r)) λ|.L0 v3 v6 v7 v8=>([1,1,0,1,4],⟨26,[(3,wO (cI .i64) 20003 v3),(6,wL (cI .i64) v6),(7,wI v7),(8,wI v8)],[(20003,wR (cI .i64) 1 v3)]⟩,Tm v3 v6 v7 v8)
def Z35:=λa0=>FW.run (Tp a0)
def Tq(a0){r}(h:Z35 a0=some r):FnG PR 266 [] [wL (cI .i64) a0] [(5000,wR (cI .i64) 1 r)] (wO (cI .i64) 5000 r):=FW.fn h
def Tr(a0:List Int){r:List Int}(h:Z35 a0=some r):Fn PR 266 [wL (cI .i64) a0] (wL (cI .i64) r):=FnG.frozen (C:=LT.RL (cI .i64) r/\True) (Tq a0 h) ⟨rfl,aa⟩ aq
def Ts(a0:List (List Bool))(a1:Int)(a2:Int):LT Empty Bool:=
.cs (decide (a1>=0)) (.k3 0<|.cs (decide (a2>=0)) (.k3 1<|.len (cL cB) a0<|.k2 1<|.cs (decide (a1<(a0.length:Int))) (.k4 2<|.idx (cL cB) a0 a1 λx5=>.k2 2<|.len cB x5<|.k2 2<|.cs (decide (a2<(x5.length:Int))) (.k3 3<|.ag (cL cB) x5 0<|.k3 3<|.idx cB x5 a2 λx9=>.k2 3<|.rt x9)<|.k8 3<|.rt false)<|.k8 2<|.b8 false<|.rt false)<|.k5 1<|.b16 false<|.rt false)<|.k3 0<|.b16 false<|.b5 false<|.rt false
def Z36:LF Empty Bool :=.z0 270 [.t 6] wB
def Tt:=λa0 a1 a2=>Z36.run (Ts a0 a1 a2)
def Z1x(a0)(a1)(a2){r}(h:Tt a0 a1 a2=some r):Fn PR 270 [wL (cL cB) a0,wI a1,wI a2] (wB r):=Z36.fn h
inductive lv where
 |L0 (v1:List (List Bool)) (E0:List Int) (v5:Int) (E1:List (List Bool)) (v17:Int) (v18:Int)
 |L1 (v1:List (List Bool)) (E0:List Int) (v5:Int) (E1:List (List Bool)) (v7:Int) (v17:Int) (v18:Int) (v26:Int) (v27:Int)
 |L2 (E0:List Int) (v5:Int) (E1:List (List Bool)) (v48:Int) (v49:Int)
 |L3 (E0:List Int) (v5:Int) (E1:List (List Bool)) (v9:Int) (v48:Int) (v49:Int) (v52:Int) (v53:Int)
 |L4 (E0:List Int) (v5:Int) (E1:List (List Bool)) (v9:Int) (v10:Int) (v48:Int) (v49:Int) (v52:Int) (v53:Int) (v56:Int) (v57:Int)
def Tu(v1:List (List Bool))(E0:List Int)(v5:Int)(E1:List (List Bool))(v17:Int)(v18:Int):LT lv ((List Int)×(List (List Bool))):=
.br (decide (v18<v17)) (.mk cB 1024 1 false v5 v5 λx2=>.idM cB E1 v18 λx4=>.stR cB E1 v18 x2 0 λx6=>.dr [.ahead 26,.relen 40100,.stop]<|.us [2]<|.us [2]<|.g0 (.L1 v1 E0 v5 x6 v18 v17 v18 v5 0))<|.g0 (.L2 E0 v5 E1 v5 0)
def Tv(v1:List (List Bool))(E0:List Int)(v5:Int)(E1:List (List Bool))(v7:Int)(v17:Int)(v18:Int)(v26:Int)(v27:Int):LT lv ((List Int)×(List (List Bool))):=
.br (decide (v27<v26)) (.idM cB E1 v7 λx2=>.ldM cB E1 0<|.idx (cI .i64) E0 v7 λx4=>.idx (cI .i64) E0 v27 λx6=>.call (Z1x v1 x4 x6) λx8=>.idN cB E1 x2 v27 0 λx10=>.stM cB E1 v7 x2 v27 x8 0 8 λx12=>.dr [.ahead 46,.relen 40100,.stop]<|.us [10]<|.us [10]<|.g0 (.L1 v1 E0 v5 x12 v7 v17 v18 v26 (IntKind.wrap .i64 (v27+1))))<|.g0 (.L0 v1 E0 v5 E1 v17 (IntKind.wrap .i64 (v18+1)))
def Tw(E0:List Int)(v5:Int)(E1:List (List Bool))(v48:Int)(v49:Int):LT lv ((List Int)×(List (List Bool))):=
.br (decide (v49<v48)) (.g0 (.L3 E0 v5 E1 v49 v48 v49 v5 0))<|.rl (cL cB) E1<|.ret (E0,E1) [.frz 3000,.frz 40100,.frz 3001]
def Tx(E0:List Int)(v5:Int)(E1:List (List Bool))(v9:Int)(v48:Int)(v49:Int)(v52:Int)(v53:Int):LT lv ((List Int)×(List (List Bool))):=
.br (decide (v53<v52)) (.g0 (.L4 E0 v5 E1 v9 v53 v48 v49 v52 v53 v5 0))<|.g0 (.L2 E0 v5 E1 v48 (IntKind.wrap .i64 (v49+1)))
def Ty(E0:List Int)(v5:Int)(E1:List (List Bool))(v9:Int)(v10:Int)(v48:Int)(v49:Int)(v52:Int)(v53:Int)(v56:Int)(v57:Int):LT lv ((List Int)×(List (List Bool))):=
.br (decide (v57<v56)) (.idM cB E1 v10 λx2=>.ldM cB E1 0<|.idN cB E1 x2 v9 0 λx4=>.ldN cB E1 x2 x4 1 3<|.cs x4 (.k3 1<|.idM cB E1 v9 λx7=>.kg 1<|.ldM cB E1 4<|.k2 1<|.idN cB E1 x7 v57 4 λx9=>.kg 1<|.ldN cB E1 x7 x9 5 7<|.kg 1<|.br x9 (.idM cB E1 v10 λx12=>.ldM cB E1 8<|.idN cB E1 x12 v57 8 λx14=>.stM cB E1 v10 x12 v57 true 8 10 λx16=>.dr [.ahead 82,.relen 40100,.stop]<|.us [12]<|.us [12]<|.us [12]<|.us [12]<|.g0 (.L4 E0 v5 x16 v9 v10 v48 v49 v52 v53 v56 (IntKind.wrap .i64 (v57+1))))<|.g0 (.L4 E0 v5 E1 v9 v10 v48 v49 v52 v53 v56 (IntKind.wrap .i64 (v57+1))))<|.k8 1<|.kn [0]<|.g0 (.L4 E0 v5 E1 v9 v10 v48 v49 v52 v53 v56 (IntKind.wrap .i64 (v57+1))))<|.g0 (.L3 E0 v5 E1 v9 v48 v49 v52 (IntKind.wrap .i64 (v53+1)))
def Tz(a0:List Int)(a1:List (List Bool)):LT lv ((List Int)×(List (List Bool))):=
.lb 1002<|.len (cI .i64) a0<|.mkE cB 1015 24 (a0.length:Int) (a0.length:Int) λx2=>.dr [.ahead 6,.tomat 1015,.stop]<|.us [0]<|.lb 1006<|.lenO (cL cB) x2<|.go (.L0 a1 a0 (a0.length:Int) x2 (x2.length:Int) 0) [.relab 1002 3000,.relab 1006 3001,.relab 1015 40100]
def Z7t:LF lv ((List Int)×(List (List Bool))) :=.m0 267 [.t 4] (λr=>(.fn 307 [.vptr ((cL (cI .i64)) r.1),.vptr ((cL (cL cB)) r.2)])) λ|.L0 v1 E0 v5 E1 v17 v18=>([1,1,1,0,1,4],⟨86,[(1,wL (cL cB) v1),(2,.bptr 3000 0),(5,wI v5),(6,.bptr 3001 0),(17,wI v17),(18,wI v18)],[(3000,.box (bx ((cL (cI .i64)) E0))),(3001,.box [wM (cL cB) 40100 E1]),(40100,wT (cL cB) E1)]⟩,Tu v1 E0 v5 E1 v17 v18)|.L1 v1 E0 v5 E1 v7 v17 v18 v26 v27=>([1,1,1,0,1,4,5,1,1,0,4,1,1,1,4],⟨86,[(1,wL (cL cB) v1),(2,.bptr 3000 0),(5,wI v5),(6,.bptr 3001 0),(7,wI v7),(17,wI v17),(18,wI v18),(26,wI v26),(27,wI v27)],[(3000,.box (bx ((cL (cI .i64)) E0))),(3001,.box [wM (cL cB) 40100 E1]),(40100,wT (cL cB) E1)]⟩,Tv v1 E0 v5 E1 v7 v17 v18 v26 v27)|.L2 E0 v5 E1 v48 v49=>([1,1,1,1,0,1,4],⟨86,[(2,.bptr 3000 0),(5,wI v5),(6,.bptr 3001 0),(48,wI v48),(49,wI v49)],[(3000,.box (bx ((cL (cI .i64)) E0))),(3001,.box [wM (cL cB) 40100 E1]),(40100,wT (cL cB) E1)]⟩,Tw E0 v5 E1 v48 v49)|.L3 E0 v5 E1 v9 v48 v49 v52 v53=>([1,1,1,1,0,1,4,5,1,1,0,4,1,1,4],⟨86,[(2,.bptr 3000 0),(5,wI v5),(6,.bptr 3001 0),(9,wI v9),(48,wI v48),(49,wI v49),(52,wI v52),(53,wI v53)],[(3000,.box (bx ((cL (cI .i64)) E0))),(3001,.box [wM (cL cB) 40100 E1]),(40100,wT (cL cB) E1)]⟩,Tx E0 v5 E1 v9 v48 v49 v52 v53)|.L4 E0 v5 E1 v9 v10 v48 v49 v52 v53 v56 v57=>([1,1,1,1,0,1,4,5,1,1,0,4,1,1,4,5,1,1,0,4,1,1,4],⟨86,[(2,.bptr 3000 0),(5,wI v5),(6,.bptr 3001 0),(9,wI v9),(10,wI v10),(48,wI v48),(49,wI v49),(52,wI v52),(53,wI v53),(56,wI v56),(57,wI v57)],[(3000,.box (bx ((cL (cI .i64)) E0))),(3001,.box [wM (cL cB) 40100 E1]),(40100,wT (cL cB) E1)]⟩,Ty E0 v5 E1 v9 v10 v48 v49 v52 v53 v56 v57)
def TA:=λa0 a1=>Z7t.run (Tz a0 a1)
def TB(a0)(a1){r}(h:TA a0 a1=some r):Fn PR 267 [wL (cI .i64) a0,wL (cL cB) a1] (.fn 307 [.vptr ((cL (cI .i64)) r.1),.vptr ((cL (cL cB)) r.2)]):=Z7t.fn h
def Z1y(a0:Int)(a1:Int)(a2:List Int)(a3:List (List Bool)):LT Empty Bool:=
.call (sx a2 a0) λx1=>.call (sx a2 a1) λx3=>.cs (decide (x1>=0)) (.k3 0<|.cs (decide (x3>=0)) (.k3 1<|.idx (cL cB) a3 x1 λx7=>.k3 1<|.idx cB x7 x3 λx9=>.k2 1<|.rt x9)<|.k8 1<|.rt false)<|.k3 0<|.b8 false<|.rt false
def FX:LF Empty Bool :=.z0 307 [.t 6] wB
def Z5s:=λa0 a1 a2 a3=>FX.run (Z1y a0 a1 a2 a3)
def TC(a0)(a1)(a2)(a3){r}(h:Z5s a0 a1 a2 a3=some r):Fn PR 307 [wI a0,wI a1,.vptr ((cL (cI .i64)) a2),.vptr ((cL (cL cB)) a3)] (wB r):=FX.fn h
def TD(a0:Int)(b0:Int)(b1:List (List Bool))(b2:(List Int)×(List (List Bool))):LT Empty Bool:=
.cs (a0 != b0) (.k4 0<|.call (Z1x b1 b0 a0) λx2=>.kg 0<|.cs x2 (.k4 1<|.call (TC a0 b0 b2.1 b2.2) λx5=>.k2 1<|.rt (!x5))<|.k5 1<|.kg 1<|.rt false)<|.k5 0<|.b5 false<|.kb false<|.rt false
def FY(b0:Int)(b1:List (List Bool))(b2:(List Int)×(List (List Bool))):LF Empty Bool :=.z 269 [.t 5] true (λr=>[(0,.box (bx ((cI .i64) b0))),(1,.box (bx ((cL (cL cB)) b1))),(2,.box [.fn 307 [.vptr ((cL (cI .i64)) b2.1),.vptr ((cL (cL cB)) b2.2)]])]) (λr=>(wB r))
def TE(a0:Int)(b0:Int)(b1:List (List Bool))(b2:(List Int)×(List (List Bool))):Option Bool:=(FY b0 b1 b2).run (TD a0 b0 b1 b2)
def TF(a0:Int)(b0:Int)(b1:List (List Bool))(b2:(List Int)×(List (List Bool))){r:Bool}(h:TE a0 b0 b1 b2=some r):FnG PR 269 [(0,.box (bx ((cI .i64) b0))),(1,.box (bx ((cL (cL cB)) b1))),(2,.box [.fn 307 [.vptr ((cL (cI .i64)) b2.1),.vptr ((cL (cL cB)) b2.2)]])] [wI a0,.bptr 0 0,.bptr 1 0,.bptr 2 0] [(0,.box (bx ((cI .i64) b0))),(1,.box (bx ((cL (cL cB)) b1))),(2,.box [.fn 307 [.vptr ((cL (cI .i64)) b2.1),.vptr ((cL (cL cB)) b2.2)]])] (wB r):=(FY b0 b1 b2).fn h
inductive xK where
 |L0 (v0:List Int) (c0:Int) (c1:List (List Bool)) (c2:(List Int)×(List (List Bool))) (v7:Int) (v8:Int)
def TG(v0:List Int)(c0:Int)(c1:List (List Bool))(c2:(List Int)×(List (List Bool)))(v7:Int)(v8:Int):LT xK (Int×Int×(List (List Bool))×((List Int)×(List (List Bool)))):=
.br (decide (v8<v7)) (.idx (cI .i64) v0 v8 λx2=>.callO (TF x2 c0 c1 c2) [0,1,2] 170000 (λx=>[]) λx4=>.br x4 (.rt (v8,c0,c1,c2))<|.g0 (.L0 v0 c0 c1 c2 v7 (IntKind.wrap .i64 (v8+1))))<|.rt ((-1),c0,c1,c2)
def TH(a0:List Int)(b0:Int)(b1:List (List Bool))(b2:(List Int)×(List (List Bool))):LT xK (Int×Int×(List (List Bool))×((List Int)×(List (List Bool)))):=
.len (cI .i64) a0<|.g0 (.L0 a0 b0 b1 b2 (a0.length:Int) 0)
def FZ:LF xK (Int×Int×(List (List Bool))×((List Int)×(List (List Bool)))) :=.m 194 [.t 4] true (λr=>[(0,.box (bx ((cI .i64) r.2.1))),(1,.box (bx ((cL (cL cB)) r.2.2.1))),(2,.box [.fn 307 [.vptr ((cL (cI .i64)) r.2.2.2.1),.vptr ((cL (cL cB)) r.2.2.2.2)]])]) (λr=>(wI r.1)) λ|.L0 v0 c0 c1 c2 v7 v8=>([1,0,1,4],⟨19,[(0,wL (cI .i64) v0),(1,.fn 269 [.bptr 0 0,.bptr 1 0,.bptr 2 0]),(7,wI v7),(8,wI v8)],[(0,.box (bx ((cI .i64) c0))),(1,.box (bx ((cL (cL cB)) c1))),(2,.box [.fn 307 [.vptr ((cL (cI .i64)) c2.1),.vptr ((cL (cL cB)) c2.2)]])]⟩,TG v0 c0 c1 c2 v7 v8)
def TI:=λa0 b0 b1 b2=>FZ.run (TH a0 b0 b1 b2)
def TJ(a0)(b0)(b1)(b2){r}(h:TI a0 b0 b1 b2=some r):FnG PR 194 [(0,.box (bx ((cI .i64) b0))),(1,.box (bx ((cL (cL cB)) b1))),(2,.box [.fn 307 [.vptr ((cL (cI .i64)) b2.1),.vptr ((cL (cL cB)) b2.2)]])] [wL (cI .i64) a0,.fn 269 [.bptr 0 0,.bptr 1 0,.bptr 2 0]] [(0,.box (bx ((cI .i64) r.2.1))),(1,.box (bx ((cL (cL cB)) r.2.2.1))),(2,.box [.fn 307 [.vptr ((cL (cI .i64)) r.2.2.2.1),.vptr ((cL (cL cB)) r.2.2.2.2)]])] (wI r.1):=FZ.fn h
def TL(a0:List Int)(b0:Int)(b1:List (List Bool))(b2:(List Int)×(List (List Bool))):LT Empty (Bool×Int×(List (List Bool))×((List Int)×(List (List Bool)))):=
.callU (TJ a0 b0 b1 b2) [0,1,2] 80000 λx1=>.rt (decide (x1.1>=0),x1.2.1,x1.2.2.1,x1.2.2.2)
def F0:LF Empty (Bool×Int×(List (List Bool))×((List Int)×(List (List Bool)))) :=.z 268 [.t 4] true (λr=>[(0,.box (bx ((cI .i64) r.2.1))),(1,.box (bx ((cL (cL cB)) r.2.2.1))),(2,.box [.fn 307 [.vptr ((cL (cI .i64)) r.2.2.2.1),.vptr ((cL (cL cB)) r.2.2.2.2)]])]) (λr=>(wB r.1))
def TM:=λa0 b0 b1 b2=>F0.run (TL a0 b0 b1 b2)
def TN(a0)(b0)(b1)(b2){r}(h:TM a0 b0 b1 b2=some r):FnG PR 268 [(0,.box (bx ((cI .i64) b0))),(1,.box (bx ((cL (cL cB)) b1))),(2,.box [.fn 307 [.vptr ((cL (cI .i64)) b2.1),.vptr ((cL (cL cB)) b2.2)]])] [wL (cI .i64) a0,.fn 269 [.bptr 0 0,.bptr 1 0,.bptr 2 0]] [(0,.box (bx ((cI .i64) r.2.1))),(1,.box (bx ((cL (cL cB)) r.2.2.1))),(2,.box [.fn 307 [.vptr ((cL (cI .i64)) r.2.2.2.1),.vptr ((cL (cL cB)) r.2.2.2.2)]])] (wB r.1):=F0.fn h
inductive xL where
 |L0 (E0:List (List Bool)) (v5:List Int) (E1:(List Int)×(List (List Bool))) (v7:List Int) (v16:List Int) (v17:Int) (v18:Int)
def TO(E0:List (List Bool))(v5:List Int)(E1:(List Int)×(List (List Bool)))(v7:List Int)(v16:List Int)(v17:Int)(v18:Int):LT xL (List Int):=
.br (decide (v18<v17)) (.idx (cI .i64) v16 v18 λx2=>.lb 1009<|.callU (TN v5 x2 E0 E1) [1009,3000,3001] 250000 λx4=>.br (!x4.1) (.dr [.lit]<|.apR (cI .i64) 8 v7 [x4.2.1] λx7=>.g0 (.L0 x4.2.2.1 v5 x4.2.2.2 x7 v16 v17 (IntKind.wrap .i64 (v18+1))))<|.g0 (.L0 x4.2.2.1 v5 x4.2.2.2 v7 v16 v17 (IntKind.wrap .i64 (v18+1))))<|.ret v7 [.relab 20007 5000]
def TP(a0:List Int)(a1:List (List Bool)):LT xL (List Int):=
.lb 1003<|.call (Tr a0) λx1=>.call (TB x1 a1) λx3=>.lb 1006<|.len (cI .i64) x1<|.go (.L0 a1 x1 x3 ([]:List Int) x1 (x1.length:Int) 0) [.relab 1003 3000,.relab 1006 3001,.own 7 20007 1]
def Z7u:LF xL (List Int) :=.m 204 [.t 4] true (λr=>[(5000,wR (cI .i64) 1 r)]) (λr=>(wO (cI .i64) 5000 r)) λ|.L0 E0 v5 E1 v7 v16 v17 v18=>([1,1,1,1,0,1,4],⟨33,[(3,.bptr 3000 0),(5,wL (cI .i64) v5),(6,.bptr 3001 0),(7,wO (cI .i64) 20007 v7),(16,wL (cI .i64) v16),(17,wI v17),(18,wI v18)],[(3000,.box (bx ((cL (cL cB)) E0))),(3001,.box [.fn 307 [.vptr ((cL (cI .i64)) E1.1),.vptr ((cL (cL cB)) E1.2)]]),(20007,wR (cI .i64) 1 v7)]⟩,TO E0 v5 E1 v7 v16 v17 v18)
def F1:=λa0 a1=>Z7u.run (TP a0 a1)
def TQ(a0)(a1){r}(h:F1 a0 a1=some r):FnG PR 204 [] [wL (cI .i64) a0,wL (cL cB) a1] [(5000,wR (cI .i64) 1 r)] (wO (cI .i64) 5000 r):=Z7u.fn h
def TR(a0:List Int)(a1:List (List Bool)){r:List Int}(h:F1 a0 a1=some r):Fn PR 204 [wL (cI .i64) a0,wL (cL cB) a1] (wL (cI .i64) r):=FnG.frozen (C:=LT.RL (cI .i64) r/\True) (TQ a0 a1 h) ⟨rfl,aa⟩ aq
def TT(a0:List Int)(a1:Int):LT Empty Int:=
.len (cI .i64) a0<|.br (decide (a1<(a0.length:Int))) (.idx (cI .i64) a0 a1 λx3=>.rt x3)<|.rt 0
def Z7v:LF Empty Int :=.z0 205 [.t 4] wI
def TU:=λa0 a1=>Z7v.run (TT a0 a1)
def Z37(a0)(a1){r}(h:TU a0 a1=some r):Fn PR 205 [wL (cI .i64) a0,wI a1] (wI r):=Z7v.fn h
inductive xM where
 |L0 (v1:List Int) (v7:Int) (v14:List Int) (v15:Int) (v16:Int)
def TV(v1:List Int)(v7:Int)(v14:List Int)(v15:Int)(v16:Int):LT xM Int:=
.br (decide (v16<v15)) (.idx (cI .i64) v14 v16 λx2=>.br (decide (v7<0)) (.g0 (.L0 v1 x2 v14 v15 (IntKind.wrap .i64 (v16+1))))<|.call (Z37 v1 x2) λx7=>.call (Z37 v1 v7) λx9=>.cs (decide (x7<x9)) (.k5 2<|.kg 2<|.kn [0]<|.g0 (.L0 v1 x2 v14 v15 (IntKind.wrap .i64 (v16+1))))<|.k4 2<|.cs (x7==x9) (.k3 3<|.kg 2<|.kg 3<|.kg 2<|.br (decide (x2<v7)) (.g0 (.L0 v1 x2 v14 v15 (IntKind.wrap .i64 (v16+1))))<|.g0 (.L0 v1 v7 v14 v15 (IntKind.wrap .i64 (v16+1))))<|.k3 3<|.kg 2<|.kg 3<|.kg 2<|.kn [0]<|.g0 (.L0 v1 v7 v14 v15 (IntKind.wrap .i64 (v16+1))))<|.rt v7
def TW(a0:List Int)(a1:List Int)(a2:List (List Bool)):LT xM Int:=
.call (TR a0 a2) λx1=>.len (cI .i64) x1<|.g0 (.L0 a1 (-1) x1 (x1.length:Int) 0)
def F2:LF xM Int :=.m0 157 [.t 6] wI λ|.L0 v1 v7 v14 v15 v16=>([1,1,0,1,4],⟨45,[(1,wL (cI .i64) v1),(7,wI v7),(14,wL (cI .i64) v14),(15,wI v15),(16,wI v16)],[]⟩,TV v1 v7 v14 v15 v16)
def TX:=λa0 a1 a2=>F2.run (TW a0 a1 a2)
def TY(a0)(a1)(a2){r}(h:TX a0 a1 a2=some r):Fn PR 157 [wL (cI .i64) a0,wL (cI .i64) a1,wL (cL cB) a2] (wI r):=F2.fn h
inductive xN where
 |L0 (c0:aP) (v10:List ay) (v11:Int) (v12:Int)
def TZ(c0:aP)(v10:List ay)(v11:Int)(v12:Int):LT xN aP:=
.br (decide (v12<v11)) (.idx au v10 v12 λx2=>.lb 1003<|.idxR aw c0.traits v12 λx4=>.cs (x2.Zone==0) (.k2 1<|.rl aw c0.traits<|.kg 1<|.rl aw c0.traits<|.kg 1<|.rl aw c0.traits<|.kg 1<|.ldR aw c0.traits x4 5<|.k3 1<|.br ((bI .and .i64 x4.Line.Types 1) != 0) (.call (RK x2.Counters) λx8=>.rl aw c0.traits<|.rl aw c0.traits<|.ldR aw c0.traits x4 5<|.call (oQ x4.Power x8) λx10=>.rl aw c0.traits<|.rl aw c0.traits<|.ldR aw c0.traits x4 5<|.call (oQ x4.Tough x8) λx12=>.rl aw c0.traits<|.rl aw c0.traits<|.setD aw c0.traits v12 x4 (⟨x4.Name,x4.Cost,x4.Colors,x4.Line,x10,x4.Tough,x4.Keys,x4.Abilities,x4.Control⟩:al) 5 12 [.int .i64 x10] rfl λx14=>.us [8]<|.us [8]<|.setE aw c0.traits x14 v12 (⟨x4.Name,x4.Cost,x4.Colors,x4.Line,x10,x4.Tough,x4.Keys,x4.Abilities,x4.Control⟩:al) (⟨((⟨x4.Name,x4.Cost,x4.Colors,x4.Line,x10,x4.Tough,x4.Keys,x4.Abilities,x4.Control⟩:al)).Name,(⟨(((⟨x4.Name,x4.Cost,x4.Colors,x4.Line,x10,x4.Tough,x4.Keys,x4.Abilities,x4.Control⟩:al)).Cost).Generic,(((⟨x4.Name,x4.Cost,x4.Colors,x4.Line,x10,x4.Tough,x4.Keys,x4.Abilities,x4.Control⟩:al)).Cost).X,(((⟨x4.Name,x4.Cost,x4.Colors,x4.Line,x10,x4.Tough,x4.Keys,x4.Abilities,x4.Control⟩:al)).Cost).Color⟩:Z5),((⟨x4.Name,x4.Cost,x4.Colors,x4.Line,x10,x4.Tough,x4.Keys,x4.Abilities,x4.Control⟩:al)).Colors,((⟨x4.Name,x4.Cost,x4.Colors,x4.Line,x10,x4.Tough,x4.Keys,x4.Abilities,x4.Control⟩:al)).Line,((⟨x4.Name,x4.Cost,x4.Colors,x4.Line,x10,x4.Tough,x4.Keys,x4.Abilities,x4.Control⟩:al)).Power,x12,((⟨x4.Name,x4.Cost,x4.Colors,x4.Line,x10,x4.Tough,x4.Keys,x4.Abilities,x4.Control⟩:al)).Keys,((⟨x4.Name,x4.Cost,x4.Colors,x4.Line,x10,x4.Tough,x4.Keys,x4.Abilities,x4.Control⟩:al)).Abilities,((⟨x4.Name,x4.Cost,x4.Colors,x4.Line,x10,x4.Tough,x4.Keys,x4.Abilities,x4.Control⟩:al)).Control⟩:al) 7 12 13 [.int .i64 x12] rfl λx16=>.dr [.ahead 56,.relen 1,.stop]<|.us [9]<|.us [9]<|.us [9]<|.us [9]<|.us [9]<|.us [9]<|.us [9]<|.us [9]<|.us [9]<|.us [9]<|.us [9]<|.us [9]<|.us [9]<|.us [9]<|.us [9]<|.us [9]<|.us [9]<|.us [9]<|.us [9]<|.us [9]<|.g0 (.L0 (⟨c0.s,c0.forces,x16,c0.dropped,c0.done,c0.hits⟩:aP) v10 v11 (IntKind.wrap .i64 (v12+1))))<|.g0 (.L0 c0 v10 v11 (IntKind.wrap .i64 (v12+1))))<|.k8 1<|.kn [0]<|.g0 (.L0 c0 v10 v11 (IntKind.wrap .i64 (v12+1))))<|.rt c0
def T0(b0:aP):LT xN aP:=
.len au b0.s.Objects<|.g0 (.L0 b0 b0.s.Objects (b0.s.Objects.length:Int) 0)
def F3:LF xN aP :=.m 155 [] true (λr=>[(0,.box (tm1 r)),(1,wR aw 17 r.traits),(2,wR cB 1 r.dropped),(3,wR cB 1 r.done),(4,wR (cL (cI .i64)) 1 r.hits)]) (λr =>.tup []) λ|.L0 c0 v10 v11 v12=>([1,4],⟨57,[(0,.bptr 0 0),(10,wL au v10),(11,wI v11),(12,wI v12)],[(0,.box (tm1 c0)),(1,wR aw 17 c0.traits),(2,wR cB 1 c0.dropped),(3,wR cB 1 c0.done),(4,wR (cL (cI .i64)) 1 c0.hits)]⟩,TZ c0 v10 v11 v12)
def T4:=λb0=>F3.run (T0 b0)
def T5(b0){r}(h:T4 b0=some r):FnG PR 155 [(0,.box (tm1 b0)),(1,wR aw 17 b0.traits),(2,wR cB 1 b0.dropped),(3,wR cB 1 b0.done),(4,wR (cL (cI .i64)) 1 b0.hits)] [.bptr 0 0] [(0,.box (tm1 r)),(1,wR aw 17 r.traits),(2,wR cB 1 r.dropped),(3,wR cB 1 r.done),(4,wR (cL (cI .i64)) 1 r.hits)] (.tup []):=F3.fn h
inductive xO where
 |L0 (v1:Int) (v2:Int) (E1:df) (v18:List ah) (v19:Int) (v20:Int)
def T6(b0:aP)(v1:Int)(v2:Int)(E1:df)(v18:List ah)(v19:Int)(v20:Int):LT xO Bool:=
.br (decide (v20<v19)) (.idx av v18 v20 λx2=>.lb 1009<|.cs (x2.Kind==11) (.k3 1<|.call (sF x2.Kind) λx5=>.k3 1<|.cs (x5==v2) (.k4 2<|.call (Fa x2.Filter v2) λx8=>.kg 2<|.br x8 (.rt true)<|.g0 (.L0 v1 v2 E1 v18 v19 (IntKind.wrap .i64 (v20+1))))<|.k5 2<|.kn [0]<|.g0 (.L0 v1 v2 E1 v18 v19 (IntKind.wrap .i64 (v20+1))))<|.k5 1<|.kg 1<|.b5 false<|.kn [0]<|.g0 (.L0 v1 v2 E1 v18 v19 (IntKind.wrap .i64 (v20+1))))<|.cs (!E1.Fixed) (.k5 1<|.kg 1<|.idxR cB b0.done v1 λx18=>.kg 1<|.ldR cB b0.done x18 2<|.k2 1<|.cs (!x18) (.k3 2<|.cs (v2==4) (.k4 3<|.kg 2<|.kg 3<|.kg 2<|.rt true)<|.k4 3<|.call (Fa E1.Filter v2) λx22=>.kg 2<|.kg 3<|.kg 2<|.rt x22)<|.k5 2<|.rt false)<|.k8 1<|.kg 1<|.b5 false<|.rt false
def T7(b0:aP)(a1:Int)(a2:Int):LT xO Bool:=
.idx cj b0.forces a1 λx1=>.lb 1007<|.len av x1.Mods<|.go (.L0 a1 a2 x1 x1.Mods (x1.Mods.length:Int) 0) [.relab 1007 3001]
def F4(b0:aP):LF xO Bool :=.m 206 [.t 6] true (λr=>[(0,.box (tm1 b0)),(1,wR aw 17 b0.traits),(2,wR cB 1 b0.dropped),(3,wR cB 1 b0.done),(4,wR (cL (cI .i64)) 1 b0.hits)]) wB λ|.L0 v1 v2 E1 v18 v19 v20=>([1,1,0,1,4],⟨64,[(0,.bptr 0 0),(1,wI v1),(2,wI v2),(7,.bptr 3001 0),(18,wL av v18),(19,wI v19),(20,wI v20)],[(0,.box (tm1 b0)),(1,wR aw 17 b0.traits),(2,wR cB 1 b0.dropped),(3,wR cB 1 b0.done),(4,wR (cL (cI .i64)) 1 b0.hits),(3001,.box (bx (cj E1)))]⟩,T6 b0 v1 v2 E1 v18 v19 v20)
def T8(b0:aP)(a1:Int)(a2:Int):Option Bool:=(F4 b0).run (T7 b0 a1 a2)
def T9(b0:aP)(a1:Int)(a2:Int){r:Bool}(h:T8 b0 a1 a2=some r):FnG PR 206 [(0,.box (tm1 b0)),(1,wR aw 17 b0.traits),(2,wR cB 1 b0.dropped),(3,wR cB 1 b0.done),(4,wR (cL (cI .i64)) 1 b0.hits)] [.bptr 0 0,wI a1,wI a2] [(0,.box (tm1 b0)),(1,wR aw 17 b0.traits),(2,wR cB 1 b0.dropped),(3,wR cB 1 b0.done),(4,wR (cL (cI .i64)) 1 b0.hits)] (wB r):=(F4 b0).fn h
def Ua(b0:aP)(a1:Int):LT Empty Bool:=
.idx cj b0.forces a1 λx1=>.lb 1005<|.cs x1.Fixed (.k8 0<|.kn [0]<|.rt true)<|.k5 0<|.kg 0<|.idxR cB b0.done a1 λx4=>.kg 0<|.ldR cB b0.done x4 5<|.kg 0<|.br x4 (.rt true)<|.call (Z7q b0.s x1.Source) λx7=>.cs (decide (x7<0)) (.k8 2<|.kg 2<|.rt true)<|.k5 2<|.kg 2<|.idxR cB b0.dropped x7 λx10=>.kg 2<|.ldR cB b0.dropped x10 8<|.k2 2<|.rt (!x10)
def F5(b0:aP):LF Empty Bool :=.z 272 [.t 4] true (λr=>[(0,.box (tm1 b0)),(1,wR aw 17 b0.traits),(2,wR cB 1 b0.dropped),(3,wR cB 1 b0.done),(4,wR (cL (cI .i64)) 1 b0.hits)]) (λr=>(wB r))
def Ub(b0:aP)(a1:Int):Option Bool:=(F5 b0).run (Ua b0 a1)
def F6(b0:aP)(a1:Int){r:Bool}(h:Ub b0 a1=some r):FnG PR 272 [(0,.box (tm1 b0)),(1,wR aw 17 b0.traits),(2,wR cB 1 b0.dropped),(3,wR cB 1 b0.done),(4,wR (cL (cI .i64)) 1 b0.hits)] [.bptr 0 0,wI a1] [(0,.box (tm1 b0)),(1,wR aw 17 b0.traits),(2,wR cB 1 b0.dropped),(3,wR cB 1 b0.done),(4,wR (cL (cI .i64)) 1 b0.hits)] (wB r):=(F5 b0).fn h
def Uc(b0:aP)(a1:Int):LT Empty Int:=
.idx cj b0.forces a1 λx1=>.lb 1005<|.call (Z7q b0.s x1.Source) λx3=>.cs (!x1.Fixed) (.k3 0<|.br (decide (x3>=0)) (.idxR aw b0.traits x3 λx7=>.rl aw b0.traits<|.ldR aw b0.traits x7 5<|.rt x7.Control)<|.rt x1.Control)<|.k3 0<|.kn [0]<|.rt x1.Control
def F7(b0:aP):LF Empty Int :=.z 213 [.t 4] true (λr=>[(0,.box (tm1 b0)),(1,wR aw 17 b0.traits),(2,wR cB 1 b0.dropped),(3,wR cB 1 b0.done),(4,wR (cL (cI .i64)) 1 b0.hits)]) (λr=>(wI r))
def Z21(b0:aP)(a1:Int):Option Int:=(F7 b0).run (Uc b0 a1)
def xP(b0:aP)(a1:Int){r:Int}(h:Z21 b0 a1=some r):FnG PR 213 [(0,.box (tm1 b0)),(1,wR aw 17 b0.traits),(2,wR cB 1 b0.dropped),(3,wR cB 1 b0.done),(4,wR (cL (cI .i64)) 1 b0.hits)] [.bptr 0 0,wI a1] [(0,.box (tm1 b0)),(1,wR aw 17 b0.traits),(2,wR cB 1 b0.dropped),(3,wR cB 1 b0.done),(4,wR (cL (cI .i64)) 1 b0.hits)] (wI r):=(F7 b0).fn h
inductive xQ where
 |L0 (E1:df) (v6:Int) (v7:List Int) (v42:List ay) (v43:Int) (v44:Int)
def Ud(b0:aP)(E1:df)(v6:Int)(v7:List Int)(v42:List ay)(v43:Int)(v44:Int):LT xQ (List Int):=
.br (decide (v44<v43)) (.idx au v42 v44 λx2=>.lb 1009<|.cs (x2.Zone==0) (.k3 1<|.cs E1.Fixed (.k5 2<|.call (sy E1.Objects x2.Id) λx6=>.kg 1<|.kg 2<|.kg 1<|.cs x6 (.k5 3<|.kg 1<|.kg 3<|.kg 1<|.kn [0]<|.dr [.lit]<|.apR (cI .i64) 8 v7 [v44] λx9=>.g0 (.L0 E1 v6 x9 v42 v43 (IntKind.wrap .i64 (v44+1))))<|.k4 3<|.cs (!E1.Fixed) (.k5 4<|.k2 4<|.idxR aw b0.traits v44 λx15=>.kg 4<|.ldR aw b0.traits x15 5<|.k5 4<|.kg 4<|.call (xA x2 x15 v6 E1.Source E1.Filter) λx17=>.kg 3<|.kg 4<|.kg 1<|.kg 3<|.kg 1<|.br x17 (.dr [.lit]<|.apR (cI .i64) 8 v7 [v44] λx20=>.g0 (.L0 E1 v6 x20 v42 v43 (IntKind.wrap .i64 (v44+1))))<|.g0 (.L0 E1 v6 v7 v42 v43 (IntKind.wrap .i64 (v44+1))))<|.k8 4<|.k5 4<|.kg 4<|.kg 3<|.kg 4<|.kg 1<|.kg 3<|.kg 1<|.kn [0]<|.g0 (.L0 E1 v6 v7 v42 v43 (IntKind.wrap .i64 (v44+1))))<|.k5 2<|.kg 1<|.kg 2<|.kg 1<|.b4 false<|.cs (!E1.Fixed) (.k5 3<|.k2 3<|.idxR aw b0.traits v44 λx30=>.kg 3<|.ldR aw b0.traits x30 5<|.k5 3<|.kg 3<|.call (xA x2 x30 v6 E1.Source E1.Filter) λx32=>.kb false<|.kg 3<|.kg 1<|.kb false<|.kg 1<|.br x32 (.dr [.lit]<|.apR (cI .i64) 8 v7 [v44] λx35=>.g0 (.L0 E1 v6 x35 v42 v43 (IntKind.wrap .i64 (v44+1))))<|.g0 (.L0 E1 v6 v7 v42 v43 (IntKind.wrap .i64 (v44+1))))<|.k8 3<|.k5 3<|.kg 3<|.kb false<|.kg 3<|.kg 1<|.kb false<|.kg 1<|.kn [0]<|.g0 (.L0 E1 v6 v7 v42 v43 (IntKind.wrap .i64 (v44+1))))<|.k5 1<|.k2 1<|.kn [0]<|.g0 (.L0 E1 v6 v7 v42 v43 (IntKind.wrap .i64 (v44+1))))<|.rl (cI .i64) v7<|.rl (cI .i64) v7<|.rl (cI .i64) v7<|.ret v7 [.frz 20007]
def Ue(b0:aP)(a1:Int):LT xQ (List Int):=
.idxR cB b0.done a1 λx1=>.ldR cB b0.done x1 2<|.br x1 (.idxR (cL (cI .i64)) b0.hits a1 λx4=>.ldR (cL (cI .i64)) b0.hits x4 5<|.rt x4)<|.callO (F6 b0 a1) [0,1,2,3,4] 270000 (λx=>[]) λx6=>.br (!x6) (.ret ([]:List Int) [.nilt 4])<|.idx cj b0.forces a1 λx9=>.callO (xP b0 a1) [0,1,2,3,4] 380000 (λx=>[]) λx11=>.lb 1005<|.len au b0.s.Objects<|.go (.L0 x9 x11 ([]:List Int) b0.s.Objects (b0.s.Objects.length:Int) 0) [.relab 1005 3001,.own 7 20007 1]
def F8(b0:aP):LF xQ (List Int) :=.m 211 [.t 4] true (λr=>[(0,.box (tm1 b0)),(1,wR aw 17 b0.traits),(2,wR cB 1 b0.dropped),(3,wR cB 1 b0.done),(4,wR (cL (cI .i64)) 1 b0.hits)]) (λr=>(wL (cI .i64) r)) λ|.L0 E1 v6 v7 v42 v43 v44=>([1,1,1,1,1,0,1,4],⟨90,[(0,.bptr 0 0),(5,.bptr 3001 0),(6,wI v6),(7,wO (cI .i64) 20007 v7),(42,wL au v42),(43,wI v43),(44,wI v44)],[(0,.box (tm1 b0)),(1,wR aw 17 b0.traits),(2,wR cB 1 b0.dropped),(3,wR cB 1 b0.done),(4,wR (cL (cI .i64)) 1 b0.hits),(3001,.box (bx (cj E1))),(20007,wR (cI .i64) 1 v7)]⟩,Ud b0 E1 v6 v7 v42 v43 v44)
def Uf(b0:aP)(a1:Int):Option (List Int):=(F8 b0).run (Ue b0 a1)
def F9(b0:aP)(a1:Int){r:List Int}(h:Uf b0 a1=some r):FnG PR 211 [(0,.box (tm1 b0)),(1,wR aw 17 b0.traits),(2,wR cB 1 b0.dropped),(3,wR cB 1 b0.done),(4,wR (cL (cI .i64)) 1 b0.hits)] [.bptr 0 0,wI a1] [(0,.box (tm1 b0)),(1,wR aw 17 b0.traits),(2,wR cB 1 b0.dropped),(3,wR cB 1 b0.done),(4,wR (cL (cI .i64)) 1 b0.hits)] (wL (cI .i64) r):=(F8 b0).fn h
inductive xR where
 |L0 (v1:Int) (v2:Int) (E1:df) (v8:List Int) (v23:List ah) (v24:Int) (v25:Int)
def Ug(b0:aP)(v1:Int)(v2:Int)(E1:df)(v8:List Int)(v23:List ah)(v24:Int)(v25:Int):LT xR (List Int):=
.br (decide (v25<v24)) (.idx av v23 v25 λx2=>.lb 1010<|.cs (x2.Kind==11) (.k3 1<|.call (sF x2.Kind) λx5=>.k3 1<|.br (x5==v2) (.callO (xP b0 v1) [0,1,2,3,4] 530000 (λx=>[]) λx8=>.rl aw b0.traits<|.callS (Z7s b0.s b0.traits x8 E1.Source x2.Filter) 580000 (λ_=>⟨rfl,jV (cI .i64) (λ_=>rfl) _,aa⟩) λx10=>.lenO (cI .i64) x10<|.idxR (cI .i64) v8 v25 λx12=>.setD (cI .i64) v8 v25 x12 (x10.length:Int) 5 0 [.int .i64 (x10.length:Int)] rfl λx14=>.dr [.ahead 60,.relen 20008,.stop]<|.us [6]<|.us [6]<|.us [6]<|.g0 (.L0 v1 v2 E1 x14 v23 v24 (IntKind.wrap .i64 (v25+1))))<|.g0 (.L0 v1 v2 E1 v8 v23 v24 (IntKind.wrap .i64 (v25+1))))<|.k5 1<|.kg 1<|.kn [0]<|.g0 (.L0 v1 v2 E1 v8 v23 v24 (IntKind.wrap .i64 (v25+1))))<|.ret v8 [.relab 20008 5000]
def Uh(b0:aP)(a1:Int)(a2:Int):LT xR (List Int):=
.idx cj b0.forces a1 λx1=>.lb 1007<|.len av x1.Mods<|.mk (cI .i64) 1021 8 0 (x1.Mods.length:Int) (x1.Mods.length:Int) λx4=>.len av x1.Mods<|.go (.L0 a1 a2 x1 x4 x1.Mods (x1.Mods.length:Int) 0) [.relab 1007 3001,.relab 1021 20008]
def Ga(b0:aP):LF xR (List Int) :=.m 212 [.t 6] true (λr=>[(5000,wR (cI .i64) 1 r),(0,.box (tm1 b0)),(1,wR aw 17 b0.traits),(2,wR cB 1 b0.dropped),(3,wR cB 1 b0.done),(4,wR (cL (cI .i64)) 1 b0.hits)]) (λr=>(wO (cI .i64) 5000 r)) λ|.L0 v1 v2 E1 v8 v23 v24 v25=>([1,1,1,0,1,4],⟨62,[(0,.bptr 0 0),(1,wI v1),(2,wI v2),(7,.bptr 3001 0),(8,wO (cI .i64) 20008 v8),(23,wL av v23),(24,wI v24),(25,wI v25)],[(0,.box (tm1 b0)),(1,wR aw 17 b0.traits),(2,wR cB 1 b0.dropped),(3,wR cB 1 b0.done),(4,wR (cL (cI .i64)) 1 b0.hits),(3001,.box (bx (cj E1))),(20008,wR (cI .i64) 1 v8)]⟩,Ug b0 v1 v2 E1 v8 v23 v24 v25)
def Ui(b0:aP)(a1:Int)(a2:Int):Option (List Int):=(Ga b0).run (Uh b0 a1 a2)
def Gb(b0:aP)(a1:Int)(a2:Int){r:List Int}(h:Ui b0 a1 a2=some r):FnG PR 212 [(0,.box (tm1 b0)),(1,wR aw 17 b0.traits),(2,wR cB 1 b0.dropped),(3,wR cB 1 b0.done),(4,wR (cL (cI .i64)) 1 b0.hits)] [.bptr 0 0,wI a1,wI a2] [(5000,wR (cI .i64) 1 r),(0,.box (tm1 b0)),(1,wR aw 17 b0.traits),(2,wR cB 1 b0.dropped),(3,wR cB 1 b0.done),(4,wR (cL (cI .i64)) 1 b0.hits)] (wO (cI .i64) 5000 r):=(Ga b0).fn h
def Uj(b0:aP)(a1:Int)(a2:Int):LT Empty fj:=
.lb 1006<|.callO (F6 b0 a1) [0,1,2,3,4] 100000 (λx=>[]) λx1=>.callO (F9 b0 a1) [0,1,2,3,4] 130000 (λx=>[]) λx3=>.callO (Gb b0 a1 a2) [0,1,2,3,4] 170000 (λx=>[(5000,wR (cI .i64) 1 x)]) λx5=>.ret (⟨x1,x3,x5⟩:fj) [.relab 175000 5002]
def Gc(b0:aP):LF Empty fj :=.z 207 [.c 6 258 true 3] true (λr=>[(5002,wR (cI .i64) 1 r.numbers),(0,.box (tm1 b0)),(1,wR aw 17 b0.traits),(2,wR cB 1 b0.dropped),(3,wR cB 1 b0.done),(4,wR (cL (cI .i64)) 1 b0.hits)]) (λr=>(.agg [wB r.active,wL (cI .i64) r.hits,wO (cI .i64) 5002 r.numbers]))
def Z1z(b0:aP)(a1:Int)(a2:Int):Option fj:=(Gc b0).run (Uj b0 a1 a2)
def Gd(b0:aP)(a1:Int)(a2:Int){r:fj}(h:Z1z b0 a1 a2=some r):FnG PR 207 [(0,.box (tm1 b0)),(1,wR aw 17 b0.traits),(2,wR cB 1 b0.dropped),(3,wR cB 1 b0.done),(4,wR (cL (cI .i64)) 1 b0.hits)] [.bptr 0 0,wI a1,wI a2] [(5002,wR (cI .i64) 1 r.numbers),(0,.box (tm1 b0)),(1,wR aw 17 b0.traits),(2,wR cB 1 b0.dropped),(3,wR cB 1 b0.done),(4,wR (cL (cI .i64)) 1 b0.hits)] (.agg [wB r.active,wL (cI .i64) r.hits,wO (cI .i64) 5002 r.numbers]):=(Gc b0).fn h
def xS(a0:List (Opq 17))(hne:a0≠[]):LT Empty (List (Opq 17)):=
.ne (eb (k:=17)) hne<|.kn [0]<|.lb 1005<|.apR (eb (k:=17)) 176 ([]:List (Opq 17)) a0 λx1=>.ret x1 [.relab 1005 5000]
def lx:LF Empty (List (Opq 17)) :=.z 273 [.t 2] true (λr=>[(5000,wR (eb (k:=17)) 17 r)]) (λr=>(wO (eb (k:=17)) 5000 r))
def xU(c:Nat):LT Empty (List (Opq 17)):=
.kn [0]<|.ret ([]:List (Opq 17)) [.own 2 5000 17]
def Uk(c:Nat)(ad:Addr):LT Empty (List (Opq 17)):=
.kn [0]<|.lb 1005<|.apR (eb (k:=17)) 176 ([]:List (Opq 17)) ([]:List (Opq 17)) λx1=>.ret x1 [.relab 1005 5000]
open Classical in
def sK(a0:List (Opq 17)):Option (List (Opq 17)):=if h:a0≠[]then lx.run (xS a0 h)else lx.run (xU 0)
def Ul(a0:List (Opq 17)){r:List (Opq 17)}(h:sK a0=some r):FnG PR 273 [] [wL (eb (k:=17)) a0] [(5000,wR (eb (k:=17)) 17 r)] (wO (eb (k:=17)) 5000 r):=by
 by_cases hne:a0=[]
 .subst hne;have h0:lx.run (xU 0)=some r:=h;exact FnG.split0 (λe=>absurd rfl e) (λ_ a c=>by
   cases a with
   |none=>exact lx.fn (t:=xU c) h0
   |some ad=>exact lx.fn (t:=Uk c ad) h0)
 have h0:lx.run (xS a0 hne)=some r:=by unfold sK at h;rwa[eE hne]at h
 exact FnG.split0 (λ_=>lx.fn h0) (λe=>absurd (eT.1 e) hne)
def Um:iQ PR 273 17 176:=iQ.of (g:=sK) (λa h=>by
 unfold sK;by_cases e:a=[]
 .subst e;rfl
 rw[eE e];unfold LF.run;dsimp only[xS,LT.den];rw[Ge h aH];rfl) (λa _ h=>Ul a h)
def xV(a0:List (Opq 1))(hne:a0≠[]):LT Empty (List (Opq 1)):=
.ne (eb (k:=1)) hne<|.kn [0]<|.lb 1005<|.apR (eb (k:=1)) 24 ([]:List (Opq 1)) a0 λx1=>.ret x1 [.relab 1005 5000]
def ly:LF Empty (List (Opq 1)) :=.z 275 [.t 2] true (λr=>[(5000,wR (eb (k:=1)) 1 r)]) (λr=>(wO (eb (k:=1)) 5000 r))
def xW(c:Nat):LT Empty (List (Opq 1)):=
.kn [0]<|.ret ([]:List (Opq 1)) [.own 2 5000 1]
def Un(c:Nat)(ad:Addr):LT Empty (List (Opq 1)):=
.kn [0]<|.lb 1005<|.apR (eb (k:=1)) 24 ([]:List (Opq 1)) ([]:List (Opq 1)) λx1=>.ret x1 [.relab 1005 5000]
open Classical in
def sL(a0:List (Opq 1)):Option (List (Opq 1)):=if h:a0≠[]then ly.run (xV a0 h)else ly.run (xW 0)
def Uo(a0:List (Opq 1)){r:List (Opq 1)}(h:sL a0=some r):FnG PR 275 [] [wL (eb (k:=1)) a0] [(5000,wR (eb (k:=1)) 1 r)] (wO (eb (k:=1)) 5000 r):=by
 by_cases hne:a0=[]
 .subst hne;have h0:ly.run (xW 0)=some r:=h;exact FnG.split0 (λe=>absurd rfl e) (λ_ a c=>by
   cases a with
   |none=>exact ly.fn (t:=xW c) h0
   |some ad=>exact ly.fn (t:=Un c ad) h0)
 have h0:ly.run (xV a0 hne)=some r:=by unfold sL at h;rwa[eE hne]at h
 exact FnG.split0 (λ_=>ly.fn h0) (λe=>absurd (eT.1 e) hne)
def Up:iQ PR 275 1 24:=iQ.of (g:=sL) (λa h=>by
 unfold sL;by_cases e:a=[]
 .subst e;rfl
 rw[eE e];unfold LF.run;dsimp only[xV,LT.den];rw[Ge h aH];rfl) (λa _ h=>Uo a h)
def Uq(b0:aP):LT Empty aP:=
.lb 1003<|.callC Um aw 1011 b0.traits<|.rl cB b0.dropped<|.callS (FI b0.dropped) 170000 (λ_=>⟨rfl,jV cB (λ_=>rfl) _,aa⟩) λx4=>.rl cB b0.done<|.callS (FI b0.done) 220000 (λ_=>⟨rfl,jV cB (λ_=>rfl) _,aa⟩) λx6=>.callC Up (cL (cI .i64)) 1026 b0.hits<|.ret (⟨b0.s,b0.forces,b0.traits,x4,x6,b0.hits⟩:aP) [.relab 1003 5000,.relab 1011 5021,.relab 175000 5022,.relab 225000 5023,.relab 1026 5024]
def Gf(b0:aP):LF Empty aP :=.z 210 [.t 2] true (λr=>[(5000,.box (tm7 r 5000)),(5021,wR aw 17 r.traits),(5022,wR cB 1 r.dropped),(5023,wR cB 1 r.done),(5024,wR (cL (cI .i64)) 1 r.hits),(0,.box (tm1 b0)),(1,wR aw 17 b0.traits),(2,wR cB 1 b0.dropped),(3,wR cB 1 b0.done),(4,wR (cL (cI .i64)) 1 b0.hits)]) (λr=>(.bptr 5000 0))
def Ur(b0:aP):Option aP:=(Gf b0).run (Uq b0)
def Us(b0:aP){r:aP}(h:Ur b0=some r):FnG PR 210 [(0,.box (tm1 b0)),(1,wR aw 17 b0.traits),(2,wR cB 1 b0.dropped),(3,wR cB 1 b0.done),(4,wR (cL (cI .i64)) 1 b0.hits)] [.bptr 0 0] [(5000,.box (tm7 r 5000)),(5021,wR aw 17 r.traits),(5022,wR cB 1 r.dropped),(5023,wR cB 1 r.done),(5024,wR (cL (cI .i64)) 1 r.hits),(0,.box (tm1 b0)),(1,wR aw 17 b0.traits),(2,wR cB 1 b0.dropped),(3,wR cB 1 b0.done),(4,wR (cL (cI .i64)) 1 b0.hits)] (.bptr 5000 0):=(Gf b0).fn h
end
end Go.PW
