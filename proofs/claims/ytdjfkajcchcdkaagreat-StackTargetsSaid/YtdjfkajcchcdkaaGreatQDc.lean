import Derived.Test.YtdjfkajcchcdkaaGreatQDb
set_option linter.all false
set_option maxRecDepth 100000
namespace Go.PW
open Go.RowKit
noncomputable section
inductive nw where
 |L0 (c0:aB) (v1:Int) (v2:Int) (v6:List Int) (v7:List Int) (v8:Int) (v23:List Int) (v24:Int) (v25:Int)
 |L1 (c0:aB) (v1:Int) (v2:Int) (v6:List Int) (v7:List Int) (v8:Int) (v10:Int) (v23:List Int) (v24:Int) (v25:Int) (v36:List ai) (v37:Int) (v38:Int)
def Ix(c0:aB)(v1:Int)(v2:Int)(v6:List Int)(v7:List Int)(v8:Int)(v23:List Int)(v24:Int)(v25:Int):LT nw aB:=
.br (decide (v25<v24)) (.idx (cI .i64) v23 v25 λx2=>.idx cF c0.forces v1 λx4=>.len aF x4.Mods<|.g0 (.L1 c0 v1 v2 v6 v7 v8 x2 v23 v24 v25 x4.Mods (x4.Mods.length:Int) 0))<|.idxR cB c0.done v1 λx7=>.setD cB c0.done v1 x7 true 2 0 [.bool true] rfl λx9=>.idxR (cL (cI .i64)) c0.hits v1 λx11=>.setD (cL (cI .i64)) c0.hits v1 x11 v6 8 0 [.sl (List.map (cI .i64) v6)] rfl λx13=>.us [3]<|.us [3]<|.us [3]<|.us [9]<|.us [9]<|.us [9]<|.ret (⟨c0.s,c0.forces,c0.traits,c0.dropped,x9,x13⟩:aB) [.relen 3,.relen 4]
def IA(c0:aB)(v1:Int)(v2:Int)(v6:List Int)(v7:List Int)(v8:Int)(v10:Int)(v23:List Int)(v24:Int)(v25:Int)(v36:List ai)(v37:Int)(v38:Int):LT nw aB:=
.br (decide (v38<v37)) (.idx aF v36 v38 λx2=>.lb 1012<|.call (va x2.Kind) λx4=>.br (x4 != v2) (.g0 (.L1 c0 v1 v2 v6 v7 v8 v10 v23 v24 v25 v36 v37 (IntKind.wrap .i64 (v38+1))))<|.idxR ay c0.traits v10 λx9=>.ldR ay c0.traits x9 5<|.idxR (cI .i64) v7 v38 λx11=>.ldR (cI .i64) v7 x11 8<|.call (Zcu x9 x2 v8 x11) λx13=>.plR ay c0.traits v10 3<|.setD ay c0.traits v10 x9 x13 5 0 (tm12 x13) rfl λx15=>.dr [.ahead 68,.relen 1,.stop]<|.us [9]<|.us [9]<|.us [9]<|.us [9]<|.us [9]<|.br (x2.Kind==10) (.idxR cB c0.dropped v10 λx18=>.setR cB c0.dropped v10 x18 true 14 0 [.bool true] rfl λx20=>.dr [.ahead 77,.relen 2,.stop]<|.us [15]<|.us [15]<|.us [15]<|.g0 (.L1 (⟨c0.s,c0.forces,x15,x20,c0.done,c0.hits⟩:aB) v1 v2 v6 v7 v8 v10 v23 v24 v25 v36 v37 (IntKind.wrap .i64 (v38+1))))<|.g0 (.L1 (⟨c0.s,c0.forces,x15,c0.dropped,c0.done,c0.hits⟩:aB) v1 v2 v6 v7 v8 v10 v23 v24 v25 v36 v37 (IntKind.wrap .i64 (v38+1))))<|.g0 (.L0 c0 v1 v2 v6 v7 v8 v23 v24 (IntKind.wrap .i64 (v25+1)))
def Iw(b0:aB)(a1:Int)(a2:Int):LT nw aB:=
.callO (Mf b0 a1) [0,1,2,3,4] 160000 (λx=>[]) λx1=>.callO (Mg b0 a1 a2) [0,1,2,3,4] 200000 (λx=>[(5000,wR (cI .i64) 1 x)]) λx3=>.callO (Ax b0 a1) [0,1,2,3,4] 230000 (λx=>[]) λx5=>.len (cI .i64) x1<|.go (.L0 b0 a1 a2 x1 x3 x5 x1 (x1.length:Int) 0) [.relab 205000 20007]
def uC:LF nw aB :=.m 159 [] true (λr=>[(0,.box (tm1 r)),(1,wR ay 17 r.traits),(2,wR cB 1 r.dropped),(3,wR cB 1 r.done),(4,wR (cL (cI .i64)) 1 r.hits)]) (λr =>.tup []) λ|.L0 c0 v1 v2 v6 v7 v8 v23 v24 v25=>([1,0,1,4],⟨92,[(0,.bptr 0 0),(1,wI v1),(2,wI v2),(6,wL (cI .i64) v6),(7,wO (cI .i64) 20007 v7),(8,wI v8),(23,wL (cI .i64) v23),(24,wI v24),(25,wI v25)],[(0,.box (tm1 c0)),(1,wR ay 17 c0.traits),(2,wR cB 1 c0.dropped),(3,wR cB 1 c0.done),(4,wR (cL (cI .i64)) 1 c0.hits),(20007,wR (cI .i64) 1 v7)]⟩,Ix c0 v1 v2 v6 v7 v8 v23 v24 v25)|.L1 c0 v1 v2 v6 v7 v8 v10 v23 v24 v25 v36 v37 v38=>([1,0,1,4,5,1,1,0,4,1,1,4],⟨92,[(0,.bptr 0 0),(1,wI v1),(2,wI v2),(6,wL (cI .i64) v6),(7,wO (cI .i64) 20007 v7),(8,wI v8),(10,wI v10),(23,wL (cI .i64) v23),(24,wI v24),(25,wI v25),(36,wL aF v36),(37,wI v37),(38,wI v38)],[(0,.box (tm1 c0)),(1,wR ay 17 c0.traits),(2,wR cB 1 c0.dropped),(3,wR cB 1 c0.done),(4,wR (cL (cI .i64)) 1 c0.hits),(20007,wR (cI .i64) 1 v7)]⟩,IA c0 v1 v2 v6 v7 v8 v10 v23 v24 v25 v36 v37 v38)
def Iv:=λb0 a1 a2=>uC.run (Iw b0 a1 a2)
def VU(b0)(a1)(a2){r}(h:Iv b0 a1 a2=some r):FnG PR 159 [(0,.box (tm1 b0)),(1,wR ay 17 b0.traits),(2,wR cB 1 b0.dropped),(3,wR cB 1 b0.done),(4,wR (cL (cI .i64)) 1 b0.hits)] [.bptr 0 0,wI a1,wI a2] [(0,.box (tm1 r)),(1,wR ay 17 r.traits),(2,wR cB 1 r.dropped),(3,wR cB 1 r.done),(4,wR (cL (cI .i64)) 1 r.hits)] (.tup []):=uC.fn h
inductive kq where
 |L0 (v2:Int) (v7:List (List Bool)) (v27:Int) (v28:Int)
 |L1 (v2:Int) (v7:List (List Bool)) (v9:List (Int×dA)) (v43:Int) (v44:Int)
 |L2 (v2:Int) (v7:List (List Bool)) (v9:List (Int×dA)) (v69:Int) (v70:Int)
 |L3 (v2:Int) (v7:List (List Bool)) (v9:List (Int×dA)) (v14:Int) (E1:aB) (v69:Int) (v70:Int) (v81:Int) (v82:Int)
def IE(b0:aB)(a1:List Int)(v2:Int)(v7:List (List Bool))(v27:Int)(v28:Int):LT kq (List (List Bool)):=
.br (decide (v28<v27)) (.len cF b0.forces<|.mk cB 1038 1 false (b0.forces.length:Int) (b0.forces.length:Int) λx3=>.idM cB v7 v28 λx5=>.stR cB v7 v28 x3 0 λx7=>.dr [.ahead 40,.relen 20007,.stop]<|.us [2]<|.us [2]<|.g0 (.L0 v2 x7 v27 (IntKind.wrap .i64 (v28+1))))<|.lb 1041<|.lenO (cI .i64) a1<|.go (.L1 v2 v7 ([]:List (Int×dA)) (a1.length:Int) 0) [.relab 1041 20009]
def IF(b0:aB)(a1:List Int)(v2:Int)(v7:List (List Bool))(v9:List (Int×dA))(v43:Int)(v44:Int):LT kq (List (List Bool)):=
.br (decide (v44<v43)) (.idxR (cI .i64) a1 v44 λx2=>.ldR (cI .i64) a1 x2 2<|.callO (ZcF b0 x2 v2) [0,2,3,4,5] 520000 (λx=>[]) λx4=>.br x4 (.callO (Mi b0 x2 v2) [0,2,3,4,5] 580000 (λx=>[(5002,wR (cI .i64) 1 x.numbers)]) λx7=>.dr [.ahead 1000000,.frz 585002,.stop]<|.rl (cI .i64) x7.numbers<|.stG je v9 x2 x7 (.agg [wB x7.active,wL (cI .i64) x7.hits,wL (cI .i64) x7.numbers]) (wA (je x7)) rfl λx9=>.g0 (.L1 v2 v7 x9 v43 (IntKind.wrap .i64 (v44+1))))<|.g0 (.L1 v2 v7 v9 v43 (IntKind.wrap .i64 (v44+1))))<|.lenG je v9<|.cs ((v9.length:Int)==0) (.k4 1<|.kn [0]<|.rl (cL cB) v7<|.rl (cL cB) v7<|.rl (cL cB) v7<|.ret v7 [.frz 20007])<|.k2 1<|.lenO (cI .i64) a1<|.k2 1<|.br (decide ((a1.length:Int)<2)) (.rl (cL cB) v7<|.rl (cL cB) v7<|.rl (cL cB) v7<|.ret v7 [.frz 20007])<|.lenO (cI .i64) a1<|.g0 (.L2 v2 v7 v9 (a1.length:Int) 0)
def II(b0:aB)(a1:List Int)(v2:Int)(v7:List (List Bool))(v9:List (Int×dA))(v69:Int)(v70:Int):LT kq (List (List Bool)):=
.br (decide (v70<v69)) (.idxR (cI .i64) a1 v70 λx2=>.ldR (cI .i64) a1 x2 2<|.callO (ZcM b0) [0,2,3,4,5] 760000 (λx=>[(5000,.box [wL ba x.s.Players,wL aC x.s.Objects,wL (cI .i64) x.s.Battlefield,wL (cI .i64) x.s.Exile,wL ax x.s.Stack,wL bz x.s.Waiting,wL bD x.s.Conts,wI x.s.Turn,wI x.s.Active,wI x.s.Step,wB x.s.Begun,wI x.s.Priority,wI x.s.Passes,wI x.s.NextId,wI x.s.NextStamp,.t (.int .u64 x.s.Seed),wL (cI .i64) x.s.Extra,wI x.s.Over,wI x.s.Winner,wL cF x.forces,wO ay 5021 x.traits,wO cB 5022 x.dropped,wO cB 5023 x.done,wO (cL (cI .i64)) 5024 x.hits]),(5021,wR ay 17 x.traits),(5022,wR cB 1 x.dropped),(5023,wR cB 1 x.done),(5024,wR (cL (cI .i64)) 1 x.hits)]) λx4=>.callU (VU x4 x2 v2) [765000,765021,765022,765023,765024] 800000 λx6=>.lenO (cI .i64) a1<|.go (.L3 v2 v7 v9 x2 x6 v69 v70 (a1.length:Int) 0) [.relab 765000 3001,.relab 765021 40120,.relab 765022 40121,.relab 765023 40122,.relab 765024 40123])<|.rl (cL cB) v7<|.rl (cL cB) v7<|.rl (cL cB) v7<|.ret v7 [.frz 20007]
def IJ(b0:aB)(a1:List Int)(v2:Int)(v7:List (List Bool))(v9:List (Int×dA))(v14:Int)(E1:aB)(v69:Int)(v70:Int)(v81:Int)(v82:Int):LT kq (List (List Bool)):=
.br (decide (v82<v81)) (.idxR (cI .i64) a1 v82 λx2=>.ldR (cI .i64) a1 x2 2<|.lkG je v9 x2 (⟨false,[],[]⟩:dA) λx4=>.lb 1018<|.cs x4.2 (.k4 1<|.br (x2 != v14) (.idM cB v7 x2 λx8=>.ldM cB v7 3<|.callO (Mi E1 x2 v2) [3001,40120,40121,40122,40123] 1090000 (λx=>[(5002,wR (cI .i64) 1 x.numbers)]) λx10=>.rl (cI .i64) x10.numbers<|.call (Z6n x4.1 x10) λx12=>.idN cB v7 x8 v14 3 λx14=>.stM cB v7 x2 x8 v14 x12 3 5 λx16=>.dr [.ahead 111,.relen 20007,.stop]<|.us [7]<|.us [7]<|.g0 (.L3 v2 x16 v9 v14 E1 v69 v70 v81 (IntKind.wrap .i64 (v82+1))))<|.g0 (.L3 v2 v7 v9 v14 E1 v69 v70 v81 (IntKind.wrap .i64 (v82+1))))<|.k4 1<|.kn [0]<|.g0 (.L3 v2 v7 v9 v14 E1 v69 v70 v81 (IntKind.wrap .i64 (v82+1))))<|.g0 (.L2 v2 v7 v9 v69 (IntKind.wrap .i64 (v70+1)))
def ID(b0:aB)(a1:List Int)(a2:Int):LT kq (List (List Bool)):=
.len cF b0.forces<|.mkE cB 1025 24 (b0.forces.length:Int) (b0.forces.length:Int) λx2=>.dr [.ahead 7,.tomat 1025,.stop]<|.us [0]<|.lenO (cL cB) x2<|.go (.L0 a2 x2 (x2.length:Int) 0) [.relab 1025 20007]
def nx(b0:aB)(a1:List Int):LF kq (List (List Bool)) :=.m 158 [.t 6] true (λr=>[(0,.box (tm4 b0)),(1,wR (cI .i64) 1 a1),(2,wR ay 17 b0.traits),(3,wR cB 1 b0.dropped),(4,wR cB 1 b0.done),(5,wR (cL (cI .i64)) 1 b0.hits)]) (λr=>(wL (cL cB) r)) λ|.L0 v2 v7 v27 v28=>([1,1,0,1,4],⟨114,[(0,.bptr 0 0),(1,wO (cI .i64) 1 a1),(2,wI v2),(7,wM (cL cB) 20007 v7),(27,wI v27),(28,wI v28)],[(0,.box (tm4 b0)),(2,wR ay 17 b0.traits),(3,wR cB 1 b0.dropped),(4,wR cB 1 b0.done),(5,wR (cL (cI .i64)) 1 b0.hits),(1,wR (cI .i64) 1 a1),(20007,wT (cL cB) v7)]⟩,IE b0 a1 v2 v7 v27 v28)|.L1 v2 v7 v9 v43 v44=>([1,1,1,1,0,1,4],⟨114,[(0,.bptr 0 0),(1,wO (cI .i64) 1 a1),(2,wI v2),(7,wM (cL cB) 20007 v7),(9,.own 20009 .map),(42,wO (cI .i64) 1 a1),(43,wI v43),(44,wI v44)],[(0,.box (tm4 b0)),(2,wR ay 17 b0.traits),(3,wR cB 1 b0.dropped),(4,wR cB 1 b0.done),(5,wR (cL (cI .i64)) 1 b0.hits),(1,wR (cI .i64) 1 a1),(20007,wT (cL cB) v7),(20009,wG true je v9)]⟩,IF b0 a1 v2 v7 v9 v43 v44)|.L2 v2 v7 v9 v69 v70=>([1,1,1,1,1,1,1,0,1,4],⟨114,[(0,.bptr 0 0),(1,wO (cI .i64) 1 a1),(2,wI v2),(7,wM (cL cB) 20007 v7),(9,.own 20009 .map),(12,.fn 208 []),(68,wO (cI .i64) 1 a1),(69,wI v69),(70,wI v70)],[(0,.box (tm4 b0)),(2,wR ay 17 b0.traits),(3,wR cB 1 b0.dropped),(4,wR cB 1 b0.done),(5,wR (cL (cI .i64)) 1 b0.hits),(1,wR (cI .i64) 1 a1),(20007,wT (cL cB) v7),(20009,wG true je v9)]⟩,II b0 a1 v2 v7 v9 v69 v70)|.L3 v2 v7 v9 v14 E1 v69 v70 v81 v82=>([1,1,1,1,1,1,1,0,1,4,5,1,1,0,4,1,1,1,1,4],⟨114,[(0,.bptr 0 0),(1,wO (cI .i64) 1 a1),(2,wI v2),(7,wM (cL cB) 20007 v7),(9,.own 20009 .map),(12,.fn 208 []),(14,wI v14),(15,.bptr 3001 0),(68,wO (cI .i64) 1 a1),(69,wI v69),(70,wI v70),(80,wO (cI .i64) 1 a1),(81,wI v81),(82,wI v82)],((0,.box (tm4 b0))::(2,wR ay 17 b0.traits)::(3,wR cB 1 b0.dropped)::(4,wR cB 1 b0.done)::(5,wR (cL (cI .i64)) 1 b0.hits)::(1,wR (cI .i64) 1 a1)::(20007,wT (cL cB) v7)::(20009,wG true je v9)::(3001,.box (tm9 E1 40100))::(tm32 E1 40100))⟩,IJ b0 a1 v2 v7 v9 v14 E1 v69 v70 v81 v82)
def IC(b0:aB)(a1:List Int)(a2:Int):Option (List (List Bool)):=(nx b0 a1).run (ID b0 a1 a2)
def Zj7(b0:aB)(a1:List Int)(a2:Int){r:List (List Bool)}(h:IC b0 a1 a2=some r):FnG PR 158 [(0,.box (tm4 b0)),(1,wR (cI .i64) 1 a1),(2,wR ay 17 b0.traits),(3,wR cB 1 b0.dropped),(4,wR cB 1 b0.done),(5,wR (cL (cI .i64)) 1 b0.hits)] [.bptr 0 0,wO (cI .i64) 1 a1,wI a2] [(0,.box (tm4 b0)),(1,wR (cI .i64) 1 a1),(2,wR ay 17 b0.traits),(3,wR cB 1 b0.dropped),(4,wR cB 1 b0.done),(5,wR (cL (cI .i64)) 1 b0.hits)] (wL (cL cB) r):=(nx b0 a1).fn h
def IN(a0:Int)(a1:Int):LT Empty Bool:=
.rt (a0==a1)
def VV:LF Empty Bool :=.z0 160 [.t 3] wB
def IM:=λa0 a1=>VV.run (IN a0 a1)
def VW(a0)(a1){r}(h:IM a0 a1=some r):Fn PR 160 [wI a0,.vptr ((cI .i64) a1)] (wB r):=VV.fn h
inductive qf where
 |L0 (v0:List Int) (w1_0:Int) (v7:Int) (v8:Int)
def IS(v0:List Int)(w1_0:Int)(v7:Int)(v8:Int):LT qf Int:=
.br (decide (v8<v7)) (.idx (cI .i64) v0 v8 λx2=>.call (VW x2 w1_0) λx4=>.br x4 (.rt v8)<|.g0 (.L0 v0 w1_0 v7 (IntKind.wrap .i64 (v8+1))))<|.rt (-1)
def IR(a0:List Int)(a1:Int):LT qf Int:=
.len (cI .i64) a0<|.g0 (.L0 a0 a1 (a0.length:Int) 0)
def zw:LF qf Int :=.m0 194 [.t 4] wI λ|.L0 v0 w1_0 v7 v8=>([1,0,1,4],⟨19,[(0,wL (cI .i64) v0),(1,.fn 160 [.vptr ((cI .i64) w1_0)]),(7,wI v7),(8,wI v8)],[]⟩,IS v0 w1_0 v7 v8)
def IQ:=λa0 a1=>zw.run (IR a0 a1)
def Zj8(a0)(a1){r}(h:IQ a0 a1=some r):Fn PR 194 [wL (cI .i64) a0,.fn 160 [.vptr ((cI .i64) a1)]] (wI r):=zw.fn h
inductive qq where
 |L0 (v0:List Int) (w1_0:Int) (v5:Int) (v6:Int)
def JC(v0:List Int)(w1_0:Int)(v5:Int)(v6:Int):LT qq (List Int):=
.lenO (cI .i64) v0<|.br (decide (v6<(v0.length:Int))) (.idxR (cI .i64) v0 v6 λx2=>.ldR (cI .i64) v0 x2 2<|.call (VW x2 w1_0) λx4=>.br (!x4) (.idxR (cI .i64) v0 v5 λx7=>.setR (cI .i64) v0 v5 x7 x2 5 0 [.int .i64 x2] rfl λx9=>.dr [.ahead 34,.relen 20000,.stop]<|.us [6]<|.us [6]<|.us [6]<|.us [6]<|.us [6]<|.us [6]<|.g0 (.L0 x9 w1_0 (IntKind.wrap .i64 (v5+1)) (IntKind.wrap .i64 (v6+1))))<|.g0 (.L0 v0 w1_0 v5 (IntKind.wrap .i64 (v6+1))))<|.tlR (cI .i64) v0 v5 0 λx17=>.clR (cI .i64) v0 x17 0<|.dr [.ahead 39,.relen 20000,.stop]<|.us [2]<|.us [2]<|.us [2]<|.trR (cI .i64) x17 v5 λx20=>.ret x20 [.relab 20000 5000]
def JA(b0:List Int)(a1:Int):LT qq (List Int):=
.rl (cI .i64) b0<|.call (Zj8 b0 a1) λx1=>.br (x1==(-1)) (.ret b0 [.relab 0 5000])<|.go (.L0 b0 a1 x1 (IntKind.wrap .i64 (x1+1))) [.relab 0 20000]
def zX:LF qq (List Int) :=.m 150 [.t 4] true (λr=>[(5000,wR (cI .i64) 1 r)]) (λr=>(wO (cI .i64) 5000 r)) λ|.L0 v0 w1_0 v5 v6=>([1,1,1,0,1,4],⟨42,[(0,wO (cI .i64) 20000 v0),(1,.fn 160 [.vptr ((cI .i64) w1_0)]),(5,wI v5),(6,wI v6)],[(20000,wR (cI .i64) 1 v0)]⟩,JC v0 w1_0 v5 v6)
def Jz:=λb0 a1=>zX.run (JA b0 a1)
def Zj9(b0)(a1){r}(h:Jz b0 a1=some r):FnG PR 150 [(0,wR (cI .i64) 1 b0)] [wO (cI .i64) 0 b0,.fn 160 [.vptr ((cI .i64) a1)]] [(5000,wR (cI .i64) 1 r)] (wO (cI .i64) 5000 r):=zX.fn h
inductive nE where
 |L0 (c0:aB) (v1:Int) (v5:List Int) (v6:List Int) (v7:List Int) (v18:List cU) (v19:Int) (v20:Int)
 |L1 (c0:aB) (v1:Int) (v5:List Int) (v6:List Int) (v7:List Int)
def JG(c0:aB)(v1:Int)(v5:List Int)(v6:List Int)(v7:List Int)(v18:List cU)(v19:Int)(v20:Int):LT nE ((List Int)×aB):=
.br (decide (v20<v19)) (.idx cF v18 v20 λx2=>.lb 1009<|.dr [.lit]<|.apR (cI .i64) 8 v7 [x2.Stamp] λx4=>.call (Zb9 x2 v1) λx7=>.br x7 (.dr [.lit]<|.apR (cI .i64) 8 v5 [v20] λx10=>.g0 (.L0 c0 v1 x10 v6 x4 v18 v19 (IntKind.wrap .i64 (v20+1))))<|.g0 (.L0 c0 v1 v5 v6 x4 v18 v19 (IntKind.wrap .i64 (v20+1))))<|.g0 (.L1 c0 v1 v5 v6 v7)
def JH(c0:aB)(v1:Int)(v5:List Int)(v6:List Int)(v7:List Int):LT nE ((List Int)×aB):=
.lenO (cI .i64) v5<|.br (decide ((v5.length:Int)>0)) (.callO (Zj7 c0 v5 v1) [0,20005,1,2,3,4] 470000 (λx=>[]) λx2=>.rl (cI .i64) v5<|.rl (cI .i64) v7<|.call (ZcD v5 v7 x2) λx4=>.lb 1010<|.br (decide (x4<0)) (.ret (v6,c0) [.relab 20006 5000])<|.callU (VU c0 x4 v1) [0,1,2,3,4] 550000 λx7=>.dr [.lit]<|.apR (cI .i64) 8 v6 [x4] λx9=>.callW (Zj9 v5 x4) [20005] 620000 (λ_=>⟨rfl,kt (cI .i64) (λ_=>rfl) _,aa⟩) λx12=>.go (.L1 x7 v1 x12 x9 v7) [.relab 625000 20005])<|.ret (v6,c0) [.relab 20006 5000]
def JF(b0:aB)(a1:Int):LT nE ((List Int)×aB):=
.br (a1==7) (.callU (ZcE b0) [0,1,2,3,4] 150000 λx2=>.len cF x2.forces<|.go (.L0 x2 a1 ([]:List Int) ([]:List Int) ([]:List Int) x2.forces (x2.forces.length:Int) 0) [.own 5 20005 1,.own 6 20006 1,.own 7 20007 1])<|.len cF b0.forces<|.go (.L0 b0 a1 ([]:List Int) ([]:List Int) ([]:List Int) b0.forces (b0.forces.length:Int) 0) [.own 5 20005 1,.own 6 20006 1,.own 7 20007 1]
def uU:LF nE ((List Int)×aB) :=.m 116 [.t 4] true (λr=>[(5000,wR (cI .i64) 1 r.1),(0,.box (tm1 r.2)),(1,wR ay 17 r.2.traits),(2,wR cB 1 r.2.dropped),(3,wR cB 1 r.2.done),(4,wR (cL (cI .i64)) 1 r.2.hits)]) (λr=>(wO (cI .i64) 5000 r.1)) λ|.L0 c0 v1 v5 v6 v7 v18 v19 v20=>([1,1,1,0,1,4],⟨63,[(0,.bptr 0 0),(1,wI v1),(5,wO (cI .i64) 20005 v5),(6,wO (cI .i64) 20006 v6),(7,wO (cI .i64) 20007 v7),(18,wL cF v18),(19,wI v19),(20,wI v20)],[(0,.box (tm1 c0)),(1,wR ay 17 c0.traits),(2,wR cB 1 c0.dropped),(3,wR cB 1 c0.done),(4,wR (cL (cI .i64)) 1 c0.hits),(20005,wR (cI .i64) 1 v5),(20006,wR (cI .i64) 1 v6),(20007,wR (cI .i64) 1 v7)]⟩,JG c0 v1 v5 v6 v7 v18 v19 v20)|.L1 c0 v1 v5 v6 v7=>([1,1,1,1,0,4],⟨63,[(0,.bptr 0 0),(1,wI v1),(5,wO (cI .i64) 20005 v5),(6,wO (cI .i64) 20006 v6),(7,wO (cI .i64) 20007 v7)],[(0,.box (tm1 c0)),(1,wR ay 17 c0.traits),(2,wR cB 1 c0.dropped),(3,wR cB 1 c0.done),(4,wR (cL (cI .i64)) 1 c0.hits),(20005,wR (cI .i64) 1 v5),(20006,wR (cI .i64) 1 v6),(20007,wR (cI .i64) 1 v7)]⟩,JH c0 v1 v5 v6 v7)
def JE:=λb0 a1=>uU.run (JF b0 a1)
def Zka(b0)(a1){r}(h:JE b0 a1=some r):FnG PR 116 [(0,.box (tm1 b0)),(1,wR ay 17 b0.traits),(2,wR cB 1 b0.dropped),(3,wR cB 1 b0.done),(4,wR (cL (cI .i64)) 1 b0.hits)] [.bptr 0 0,wI a1] [(5000,wR (cI .i64) 1 r.1),(0,.box (tm1 r.2)),(1,wR ay 17 r.2.traits),(2,wR cB 1 r.2.dropped),(3,wR cB 1 r.2.done),(4,wR (cL (cI .i64)) 1 r.2.hits)] (wO (cI .i64) 5000 r.1):=uU.fn h
inductive qt where
 |L0 (E0:aB) (v6:Int)
def JL(E0:aB)(v6:Int):LT qt (List ah):=
.br (decide (v6<=8)) (.callU (Zka E0 v6) [3000,40020,40021,40022,40023] 170000 λx2=>.g0 (.L0 x2.2 (IntKind.wrap .i64 (v6+1))))<|.ret E0.traits [.relab 40020 5000]
def JJ(a0:List aw)(a1:ab):LT qt (List ah):=
.lb 1003<|.callF (Zb4 a0 a1) 100000 λx1=>.go (.L0 x1 1) [.relab 105000 3000,.relab 105021 40020,.relab 105022 40021,.relab 105023 40022,.relab 105024 40023]
def zY:LF qt (List ah) :=.m 81 [.t 4] true (λr=>[(5000,wR ay 17 r)]) (λr=>(wO ay 5000 r)) λ|.L0 E0 v6=>([1,1,0,1,4],⟨21,[(5,.bptr 3000 0),(6,wI v6)],((3000,.box (tm9 E0 40000))::(tm32 E0 40000))⟩,JL E0 v6)
def Z3m:=λa0 a1=>zY.run (JJ a0 a1)
def Zkb(a0)(a1){r}(h:Z3m a0 a1=some r):FnG PR 81 [] [wL bA a0,wA (aH a1)] [(5000,wR ay 17 r)] (wO ay 5000 r):=zY.fn h
def Zkc(a0:List aw)(a1:ab){r:List ah}(h:Z3m a0 a1=some r):Fn PR 81 [wL bA a0,wA (aH a1)] (wL ay r):=FnG.frozen (C:=LT.RL ay r/\True) (Zkb a0 a1 h) ⟨rfl,aa⟩ ar
inductive qu where
 |L0 (v0:Int) (v5:List bc) (v8:List Int) (v9:Int) (v10:Int)
def Z53(v0:Int)(v5:List bc)(v8:List Int)(v9:Int)(v10:Int):LT qu (List bc):=
.br (decide (v10<v9)) (.idx (cI .i64) v8 v10 λx2=>.dr [.lit]<|.apR bj 24 v5 [(⟨v0,x2,0⟩:bc)] λx4=>.g0 (.L0 v0 x4 v8 v9 (IntKind.wrap .i64 (v10+1))))<|.ret v5 [.relab 20005 5000]
def Z79(a0:Int)(a1:List Int):LT qu (List bc):=
.len (cI .i64) a1<|.go (.L0 a0 ([]:List bc) a1 (a1.length:Int) 0) [.own 5 20005 3]
def zZ:LF qu (List bc) :=.m 148 [.t 4] true (λr=>[(5000,wR bj 3 r)]) (λr=>(wO bj 5000 r)) λ|.L0 v0 v5 v8 v9 v10=>([1,1,0,1,4],⟨22,[(0,wI v0),(5,wO bj 20005 v5),(8,wL (cI .i64) v8),(9,wI v9),(10,wI v10)],[(20005,wR bj 3 v5)]⟩,Z53 v0 v5 v8 v9 v10)
def Z1m:=λa0 a1=>zZ.run (Z79 a0 a1)
def Z3n(a0)(a1){r}(h:Z1m a0 a1=some r):FnG PR 148 [] [wI a0,wL (cI .i64) a1] [(5000,wR bj 3 r)] (wO bj 5000 r):=zZ.fn h
def Zkd(a0:Int)(a1:List Int){r:List bc}(h:Z1m a0 a1=some r):Fn PR 148 [wI a0,wL (cI .i64) a1] (wL bj r):=FnG.frozen (C:=LT.RL bj r/\True) (Z3n a0 a1 h) ⟨rfl,aa⟩ ar
def JP(a0:ak)(b0:Int):LT Empty Bool:=
.lb 1002<|.rt (a0.Id==b0)
def VX(b0:Int):LF Empty Bool :=.z 196 [.t 3] true (λr=>[(0,.box (bx ((cI .i64) b0)))]) (λr=>(wB r))
def JO(a0:ak)(b0:Int):Option Bool:=(VX b0).run (JP a0 b0)
def Z8a(a0:ak)(b0:Int){r:Bool}(h:JO a0 b0=some r):FnG PR 196 [(0,.box (bx ((cI .i64) b0)))] [wA (aC a0),.bptr 0 0] [(0,.box (bx ((cI .i64) b0)))] (wB r):=(VX b0).fn h
inductive qv where
 |L0 (v0:List ak) (c0:Int) (v7:Int) (v8:Int)
def JT(v0:List ak)(c0:Int)(v7:Int)(v8:Int):LT qv (Int×Int):=
.br (decide (v8<v7)) (.idx aC v0 v8 λx2=>.callO (Z8a x2 c0) [0] 170000 (λx=>[]) λx4=>.br x4 (.rt (v8,c0))<|.g0 (.L0 v0 c0 v7 (IntKind.wrap .i64 (v8+1))))<|.rt ((-1),c0)
def JS(a0:List ak)(b0:Int):LT qv (Int×Int):=
.len aC a0<|.g0 (.L0 a0 b0 (a0.length:Int) 0)
def z6:LF qv (Int×Int) :=.m 195 [.t 4] true (λr=>[(0,.box (bx ((cI .i64) r.2)))]) (λr=>(wI r.1)) λ|.L0 v0 c0 v7 v8=>([1,0,1,4],⟨19,[(0,wL aC v0),(1,.fn 196 [.bptr 0 0]),(7,wI v7),(8,wI v8)],[(0,.box (bx ((cI .i64) c0)))]⟩,JT v0 c0 v7 v8)
def JR:=λa0 b0=>z6.run (JS a0 b0)
def Zke(a0)(b0){r}(h:JR a0 b0=some r):FnG PR 195 [(0,.box (bx ((cI .i64) b0)))] [wL aC a0,.fn 196 [.bptr 0 0]] [(0,.box (bx ((cI .i64) r.2)))] (wI r.1):=z6.fn h
inductive qx where
 |L0 (E0:ab) (E1:bV) (E2:Int) (v9:Int) (E3:ah)
def qy(E0:ab)(E1:bV)(E2:Int)(v9:Int)(E3:ah):LT qx Bool:=
.idx aC E0.Objects v9 λx1=>.br (x1.Zone==0) (.call (Z1i E3.Keys 2048) λx4=>.cs x4 (.k5 1<|.kg 1<|.rt (E3.Control != E1.You))<|.k5 1<|.kg 1<|.rt false)<|.br (x1.Zone==5) (.rt (E2==E1.Source))<|.rt false
def JW(a0:ab)(a1:List ah)(a2:bV)(a3:Int):LT qx Bool:=
.lb 1004<|.lb 1006<|.lb 1007<|.callU (Zke a0.Objects a3) [1007] 150000 λx1=>.br (decide (x1.1<0)) (.rt true)<|.lb 1010<|.len ay a1<|.br (decide (x1.1<(a1.length:Int))) (.idx ay a1 x1.1 λx6=>.jn 0 (.L0 a0 a2 x1.2 x1.1 x6) [.relab 1004 3000,.relab 1006 3001,.relab 1007 3002,.relab 1010 3003] (qy a0 a2 x1.2 x1.1 x6))<|.jn 0 (.L0 a0 a2 x1.2 x1.1 (⟨([]:By),(⟨0,0,(⟨0,0,0,0,0⟩:A5 Int)⟩:Z4),0,(⟨0,0,([]:Bys)⟩:cf),0,0,0,([]:List an),0⟩:ah)) [.relab 1004 3000,.relab 1006 3001,.relab 1007 3002,.relab 1010 3003,.niltb 3003 11,.niltb 3003 15] (qy a0 a2 x1.2 x1.1 (⟨([]:By),(⟨0,0,(⟨0,0,0,0,0⟩:A5 Int)⟩:Z4),0,(⟨0,0,([]:Bys)⟩:cf),0,0,0,([]:List an),0⟩:ah))
def VY:LF qx Bool :=.m0 152 [.t 8] wB λ|.L0 E0 E1 E2 v9 E3=>([1,1,1,1,1],⟨49,[(4,.bptr 3000 0),(6,.bptr 3001 0),(7,.bptr 3002 0),(9,wI v9),(10,.bptr 3003 0)],[(3000,.box (bx (aH E0))),(3001,.box (bx (gr E1))),(3002,.box (bx ((cI .i64) E2))),(3003,.box (bx (ay E3)))]⟩,qy E0 E1 E2 v9 E3)
def JV:=λa0 a1 a2 a3=>VY.run (JW a0 a1 a2 a3)
def Zkf(a0)(a1)(a2)(a3){r}(h:JV a0 a1 a2 a3=some r):Fn PR 152 [wA (aH a0),wL ay a1,wA (gr a2),wI a3] (wB r):=VY.fn h
def J0(a0:Int)(a1:ab)(a2:List ah)(a3:bV):LT Empty Bool:=
.call (Zkf a1 a2 a3 a0) λx1=>.rt x1
def VZ:LF Empty Bool :=.z0 151 [.t 5] wB
def JZ:=λa0 a1 a2 a3=>VZ.run (J0 a0 a1 a2 a3)
def V0(a0)(a1)(a2)(a3){r}(h:JZ a0 a1 a2 a3=some r):Fn PR 151 [wI a0,.vptr (aH a1),.vptr ((cL ay) a2),.vptr (gr a3)] (wB r):=VZ.fn h
inductive qA where
 |L0 (v0:List Int) (w1_0:ab) (w1_1:List ah) (w1_2:bV) (v7:Int) (v8:Int)
def J4(v0:List Int)(w1_0:ab)(w1_1:List ah)(w1_2:bV)(v7:Int)(v8:Int):LT qA Int:=
.br (decide (v8<v7)) (.idx (cI .i64) v0 v8 λx2=>.call (V0 x2 w1_0 w1_1 w1_2) λx4=>.br x4 (.rt v8)<|.g0 (.L0 v0 w1_0 w1_1 w1_2 v7 (IntKind.wrap .i64 (v8+1))))<|.rt (-1)
def J3(a0:List Int)(a1:ab)(a1_1:List ah)(a1_2:bV):LT qA Int:=
.len (cI .i64) a0<|.g0 (.L0 a0 a1 a1_1 a1_2 (a0.length:Int) 0)
def Aa:LF qA Int :=.m0 194 [.t 4] wI λ|.L0 v0 w1_0 w1_1 w1_2 v7 v8=>([1,0,1,4],⟨19,[(0,wL (cI .i64) v0),(1,.fn 151 [.vptr (aH w1_0),.vptr ((cL ay) w1_1),.vptr (gr w1_2)]),(7,wI v7),(8,wI v8)],[]⟩,J4 v0 w1_0 w1_1 w1_2 v7 v8)
def J2:=λa0 a1 a1_1 a1_2=>Aa.run (J3 a0 a1 a1_1 a1_2)
def Zkg(a0)(a1)(a1_1)(a1_2){r}(h:J2 a0 a1 a1_1 a1_2=some r):Fn PR 194 [wL (cI .i64) a0,.fn 151 [.vptr (aH a1),.vptr ((cL ay) a1_1),.vptr (gr a1_2)]] (wI r):=Aa.fn h
inductive qB where
 |L0 (v0:List Int) (w1_0:ab) (w1_1:List ah) (w1_2:bV) (v5:Int) (v6:Int)
def J8(v0:List Int)(w1_0:ab)(w1_1:List ah)(w1_2:bV)(v5:Int)(v6:Int):LT qB (List Int):=
.lenO (cI .i64) v0<|.br (decide (v6<(v0.length:Int))) (.idxR (cI .i64) v0 v6 λx2=>.ldR (cI .i64) v0 x2 2<|.call (V0 x2 w1_0 w1_1 w1_2) λx4=>.br (!x4) (.idxR (cI .i64) v0 v5 λx7=>.setR (cI .i64) v0 v5 x7 x2 5 0 [.int .i64 x2] rfl λx9=>.dr [.ahead 34,.relen 20000,.stop]<|.us [6]<|.us [6]<|.us [6]<|.us [6]<|.us [6]<|.us [6]<|.g0 (.L0 x9 w1_0 w1_1 w1_2 (IntKind.wrap .i64 (v5+1)) (IntKind.wrap .i64 (v6+1))))<|.g0 (.L0 v0 w1_0 w1_1 w1_2 v5 (IntKind.wrap .i64 (v6+1))))<|.tlR (cI .i64) v0 v5 0 λx17=>.clR (cI .i64) v0 x17 0<|.dr [.ahead 39,.relen 20000,.stop]<|.us [2]<|.us [2]<|.us [2]<|.trR (cI .i64) x17 v5 λx20=>.ret x20 [.relab 20000 5000]
def J7(b0:List Int)(a1:ab)(a1_1:List ah)(a1_2:bV):LT qB (List Int):=
.rl (cI .i64) b0<|.call (Zkg b0 a1 a1_1 a1_2) λx1=>.br (x1==(-1)) (.ret b0 [.relab 0 5000])<|.go (.L0 b0 a1 a1_1 a1_2 x1 (IntKind.wrap .i64 (x1+1))) [.relab 0 20000]
def Ab:LF qB (List Int) :=.m 150 [.t 4] true (λr=>[(5000,wR (cI .i64) 1 r)]) (λr=>(wO (cI .i64) 5000 r)) λ|.L0 v0 w1_0 w1_1 w1_2 v5 v6=>([1,1,1,0,1,4],⟨42,[(0,wO (cI .i64) 20000 v0),(1,.fn 151 [.vptr (aH w1_0),.vptr ((cL ay) w1_1),.vptr (gr w1_2)]),(5,wI v5),(6,wI v6)],[(20000,wR (cI .i64) 1 v0)]⟩,J8 v0 w1_0 w1_1 w1_2 v5 v6)
def J6:=λb0 a1 a1_1 a1_2=>Ab.run (J7 b0 a1 a1_1 a1_2)
def Zkh(b0)(a1)(a1_1)(a1_2){r}(h:J6 b0 a1 a1_1 a1_2=some r):FnG PR 150 [(0,wR (cI .i64) 1 b0)] [wO (cI .i64) 0 b0,.fn 151 [.vptr (aH a1),.vptr ((cL ay) a1_1),.vptr (gr a1_2)]] [(5000,wR (cI .i64) 1 r)] (wO (cI .i64) 5000 r):=Ab.fn h
inductive qC where
 |L0 (E0:ab) (E1:List ah) (E2:bV) (E3:bo) (v9:List bc)
def qD(E0:ab)(E1:List ah)(E2:bV)(E3:bo)(v9:List bc):LT qC (List bc):=
.br E3.Object (.callF (LL E0 E1 E2.You E2.Source E3.Filter) 290000 λx2=>.callW (Zkh x2 E0 E1 E2) [295000] 320000 (λ_=>⟨rfl,kt (cI .i64) (λ_=>rfl) _,aa⟩) λx4=>.rl (cI .i64) x4<|.callS (Z3n 5 x4) 350000 (λ_=>⟨rfl,kt bj (λ_=>rfl) _,aa⟩) λx6=>.rl bj x6<|.apR bj 24 v9 x6 λx8=>.ret x8 [.relab 20009 5000])<|.ret v9 [.relab 20009 5000]
def Ka(a0:ab)(a1:List ah)(a2:bV)(a3:bo):LT qC (List bc):=
.lb 1004<|.lb 1005<|.lb 1006<|.lb 1007<|.br a3.Player (.call (Aq a0) λx2=>.call (Zkd 6 x2) λx4=>.apN bj 1017 24 x4 λx6=>.jn 0 (.L0 a0 a1 a2 a3 x6) [.relab 1004 3000,.relab 1005 3001,.relab 1006 3002,.relab 1007 3003,.relab 1017 20009] (qD a0 a1 a2 a3 x6))<|.jn 0 (.L0 a0 a1 a2 a3 ([]:List bc)) [.relab 1004 3000,.relab 1005 3001,.relab 1006 3002,.relab 1007 3003,.own 9 20009 3] (qD a0 a1 a2 a3 ([]:List bc))
def V1:LF qC (List bc) :=.m 114 [.t 8] true (λr=>[(5000,wR bj 3 r)]) (λr=>(wO bj 5000 r)) λ|.L0 E0 E1 E2 E3 v9=>([1,1,1],⟨37,[(4,.bptr 3000 0),(5,.bptr 3001 0),(6,.bptr 3002 0),(7,.bptr 3003 0),(9,wO bj 20009 v9)],[(3000,.box (bx (aH E0))),(3001,.box (bx ((cL ay) E1))),(3002,.box (bx (gr E2))),(3003,.box (bx (bS E3))),(20009,wR bj 3 v9)]⟩,qD E0 E1 E2 E3 v9)
def Ae:=λa0 a1 a2 a3=>V1.run (Ka a0 a1 a2 a3)
def Zki(a0)(a1)(a2)(a3){r}(h:Ae a0 a1 a2 a3=some r):FnG PR 114 [] [wA (aH a0),wL ay a1,wA (gr a2),wA (bS a3)] [(5000,wR bj 3 r)] (wO bj 5000 r):=V1.fn h
def Zkj(a0:ab)(a1:List ah)(a2:bV)(a3:bo){r:List bc}(h:Ae a0 a1 a2 a3=some r):Fn PR 114 [wA (aH a0),wL ay a1,wA (gr a2),wA (bS a3)] (wL bj r):=FnG.frozen (C:=LT.RL bj r/\True) (Zki a0 a1 a2 a3 h) ⟨rfl,aa⟩ ar
def Kc(a0:ab)(a1:Z1):LT Empty ab:=
.lb 1002<|.lb 1003<|.lb 1004<|.callF (qQ a0) 80000 λx1=>.lb 1005<|.lenO ax x1.Stack<|.br (decide ((x1.Stack.length:Int)>=64)) (.ret x1 (tm18 85000 5000))<|.br (a1.Kind==2) (.dr [.lit]<|.apR ax 824 x1.Stack [(⟨x1.NextId,a1.Kind,a1.Source,a1.Control,a1.X,a1.Copy,a1.Ability,a1.Targets,a1.Event⟩:Z1)] λx7=>.dr [.ahead 30,.frz 85000,.frz 85001,.frz 85002,.frz 85003,.pick [29,28,27,26,25,23,22,21,20,19,18,17,16,15,14,13,11,10,8,5,6,4,3,2,1,0] [1005,85004,1003,85005,85006,85016,1004,1002],.frz 85004,.frz 85005,.frz 85006,.frz 85016,.stop]<|.rl ba x1.Players<|.rl ba x1.Players<|.rl ba x1.Players<|.rl aC x1.Objects<|.rl aC x1.Objects<|.rl aC x1.Objects<|.rl (cI .i64) x1.Battlefield<|.rl (cI .i64) x1.Battlefield<|.rl (cI .i64) x1.Battlefield<|.rl (cI .i64) x1.Exile<|.rl (cI .i64) x1.Exile<|.rl (cI .i64) x1.Exile<|.rl ax x7<|.rl ax x7<|.rl ax x7<|.rl bz x1.Waiting<|.rl bz x1.Waiting<|.rl bD x1.Conts<|.rl bD x1.Conts<|.rl (cI .i64) x1.Extra<|.rl (cI .i64) x1.Extra<|.callF (qQ (⟨x1.Players,x1.Objects,x1.Battlefield,x1.Exile,x7,x1.Waiting,x1.Conts,x1.Turn,x1.Active,x1.Step,x1.Begun,x1.Priority,x1.Passes,IntKind.wrap .i64 (x1.NextId+1),x1.NextStamp,x1.Seed,x1.Extra,x1.Over,x1.Winner⟩:ab)) 310000 λx10=>.ret x10 (tm18 315000 5000))<|.dr [.lit]<|.apR ax 824 x1.Stack [a1] λx12=>.dr [.ahead 30,.frz 85000,.frz 85001,.frz 85002,.frz 85003,.pick [29,28,27,26,25,23,15,14,13,11,10,8,5,6,4,3,2,1,0] [1005,85004,85005,85006,85016,1004,1003,1002],.frz 85004,.frz 85005,.frz 85006,.frz 85016,.stop]<|.rl ba x1.Players<|.rl ba x1.Players<|.rl ba x1.Players<|.rl aC x1.Objects<|.rl aC x1.Objects<|.rl aC x1.Objects<|.rl (cI .i64) x1.Battlefield<|.rl (cI .i64) x1.Battlefield<|.rl (cI .i64) x1.Battlefield<|.rl (cI .i64) x1.Exile<|.rl (cI .i64) x1.Exile<|.rl (cI .i64) x1.Exile<|.rl ax x12<|.rl ax x12<|.rl ax x12<|.rl bz x1.Waiting<|.rl bz x1.Waiting<|.rl bD x1.Conts<|.rl bD x1.Conts<|.rl (cI .i64) x1.Extra<|.rl (cI .i64) x1.Extra<|.callF (qQ (⟨x1.Players,x1.Objects,x1.Battlefield,x1.Exile,x12,x1.Waiting,x1.Conts,x1.Turn,x1.Active,x1.Step,x1.Begun,x1.Priority,x1.Passes,x1.NextId,x1.NextStamp,x1.Seed,x1.Extra,x1.Over,x1.Winner⟩:ab)) 310000 λx15=>.ret x15 (tm18 315000 5000)
def V2:LF Empty ab :=.z 10 [.c 4 31 true 19] true (λr=>(tm29 r 5000)) (λr=>(.agg (tm2 r 5000)))
def Kb:=λa0 a1=>V2.run (Kc a0 a1)
def Zkk(a0)(a1){r}(h:Kb a0 a1=some r):FnG PR 10 [] [wA (aH a0),wA (ax a1)] (tm29 r 5000) (.agg (tm2 r 5000)):=V2.fn h
def V3(a0:ab)(a1:Int):Option (Z1×Bool):=(tC a0).map λt=>Z6j t.Stack a1
def V4(a0)(a1){r}(h:V3 a0 a1=some r):Fn PR 13 [wA (aH a0),wI a1] (.tup [wA (ax r.1),wB r.2]):=by unfold V3 at h;obtain⟨t,h1,h2⟩:=cA.1 h;subst h2;exact XM (ZbN a0 h1)
def Kr(b0:List Int)(a1:Int)(b1:List Int):Option (List Int):=ins? 8 b0 a1 b1
def Zkl(b0)(a1)(b1){r}(h:Kr b0 a1 b1=some r):FnG PR 34 [(0,wR (cI .i64) 1 b0),(1,wR (cI .i64) 1 b1)] [wO (cI .i64) 0 b0,wI a1,wO (cI .i64) 1 b1] [(5000,wR (cI .i64) 1 r)] (wO (cI .i64) 5000 r):=ZfU.okO (λx=>⟨_,rfl⟩) b0 a1 b1 h
def Kh(b0:bm)(a1:Z3):LT Empty ((List Int)×bm):=
.lb 1003<|.b5 false<|.cs b0.waits (.k5 0<|.b3 true<|.kn [0]<|.callF (qR a1) 260000 λx2=>.ret (x2,b0) [.relab 265000 5000])<|.k5 0<|.cs b0.bad (.k3 1<|.kn [0]<|.callF (qR a1) 260000 λx5=>.ret (x5,b0) [.relab 265000 5000])<|.k2 1<|.call (ZbQ a1) λx7=>.kg 1<|.br x7 (.callF (qR a1) 260000 λx10=>.ret (x10,b0) [.relab 265000 5000])<|.len (cL (cI .i64)) b0.answers<|.br (b0.used==(b0.answers.length:Int)) (.callF (Le a1.Options) 390000 λx14=>.rl bj x14<|.callS (qR (⟨a1.Kind,a1.Player,a1.Source,a1.Least,a1.Most,a1.N,x14⟩:Z3)) 490000 (λ_=>⟨rfl,kt (cI .i64) (λ_=>rfl) _,aa⟩) λx16=>.rl bj x14<|.rl bj x14<|.rl bj x14<|.rl bj x14<|.rl bj x14<|.ret (x16,(⟨b0.answers,b0.used,(⟨a1.Kind,a1.Player,a1.Source,a1.Least,a1.Most,a1.N,x14⟩:Z3),true,b0.bad⟩:bm)) [.relab 495000 5000,.frz 395000])<|.idx (cL (cI .i64)) b0.answers b0.used λx18=>.call (ZbV a1 x18) λx22=>.br (!x22) (.callF (qR a1) 750000 λx25=>.ret (x25,(⟨b0.answers,IntKind.wrap .i64 (b0.used+1),b0.pending,b0.waits,true⟩:bm)) [.relab 755000 5000])<|.callF (Z0c x18) 770000 λx27=>.ret (x27,(⟨b0.answers,IntKind.wrap .i64 (b0.used+1),b0.pending,b0.waits,b0.bad⟩:bm)) [.relab 775000 5000]
def V5:LF Empty ((List Int)×bm) :=.z 35 [.t 4] true (λr=>[(5000,wR (cI .i64) 1 r.1),(0,.box (bx (dG r.2)))]) (λr=>(wO (cI .i64) 5000 r.1))
def Kg:=λb0 a1=>V5.run (Kh b0 a1)
def V6(b0)(a1){r}(h:Kg b0 a1=some r):FnG PR 35 [(0,.box (bx (dG b0)))] [.bptr 0 0,wA (fx a1)] [(5000,wR (cI .i64) 1 r.1),(0,.box (bx (dG r.2)))] (wO (cI .i64) 5000 r.1):=V5.fn h
inductive nF where
 |L0 (c0:bm) (v2:List ah) (E1:ab) (E2:bV) (v12:List bW) (v18:List bo) (v19:Int) (v20:Int)
 |L1 (c0:bm) (v2:List ah) (E1:ab) (E2:bV) (v12:List bW) (E3:bc) (v18:List bo) (v19:Int) (v20:Int)
def lK(c0:bm)(v2:List ah)(E1:ab)(E2:bV)(v12:List bW)(E3:bc)(v18:List bo)(v19:Int)(v20:Int):LT nF ((List bW)×Bool×bm):=
.br (E3.Kind==5) (.dr [.lit]<|.apR cc 16 v12 [(⟨E3.A,0⟩:bW)] λx2=>.g0 (.L0 c0 v2 E1 E2 x2 v18 v19 (IntKind.wrap .i64 (v20+1))))<|.dr [.lit]<|.apR cc 16 v12 [(⟨0,E3.A⟩:bW)] λx7=>.g0 (.L0 c0 v2 E1 E2 x7 v18 v19 (IntKind.wrap .i64 (v20+1)))
def Kp(c0:bm)(v2:List ah)(E1:ab)(E2:bV)(v12:List bW)(v18:List bo)(v19:Int)(v20:Int):LT nF ((List bW)×Bool×bm):=
.br (decide (v20<v19)) (.idx bS v18 v20 λx2=>.lb 1014<|.call (Zkj E1 v2 E2 x2) λx4=>.len bj x4<|.br ((x4.length:Int)==0) (.ret (([]:List bW),false,c0) [.own 10 5000 2])<|.callU (V6 c0 (⟨2,E2.You,E2.Source,0,0,0,x4⟩:Z3)) [0] 400000 λx8=>.idx bj x4 0 λx10=>.lb 1017<|.lenO (cI .i64) x8.1<|.cs (decide ((x8.1.length:Int)>0)) (.k2 2<|.idxR (cI .i64) x8.1 0 λx13=>.kg 2<|.ldR (cI .i64) x8.1 x13 8<|.k2 2<|.cs (decide (x13>=0)) (.k2 3<|.plR (cI .i64) x8.1 0 6<|.kg 3<|.ldR (cI .i64) x8.1 x13 8<|.k2 3<|.len bj x4<|.k2 3<|.br (decide (x13<(x4.length:Int))) (.plR (cI .i64) x8.1 0 6<|.ldR (cI .i64) x8.1 x13 8<|.idx bj x4 x13 λx17=>.jn 0 (.L1 x8.2 v2 E1 E2 v12 x17 v18 v19 v20) [.relab 1017 3003] (lK x8.2 v2 E1 E2 v12 x17 v18 v19 v20))<|.jn 0 (.L1 x8.2 v2 E1 E2 v12 x10 v18 v19 v20) [.relab 1017 3003] (lK x8.2 v2 E1 E2 v12 x10 v18 v19 v20))<|.k5 3<|.k2 3<|.kn [0]<|.jn 0 (.L1 x8.2 v2 E1 E2 v12 x10 v18 v19 v20) [.relab 1017 3003] (lK x8.2 v2 E1 E2 v12 x10 v18 v19 v20))<|.k5 2<|.b5 false<|.b2 false<|.kn [0]<|.jn 0 (.L1 x8.2 v2 E1 E2 v12 x10 v18 v19 v20) [.relab 1017 3003] (lK x8.2 v2 E1 E2 v12 x10 v18 v19 v20))<|.ret (v12,true,c0) [.relab 20012 5000]
def Km(b0:bm)(a1:ab)(a2:List ah)(a3:bV)(a4:List bo):LT nF ((List bW)×Bool×bm):=
.lb 1006<|.lb 1008<|.len bS a4<|.go (.L0 b0 a2 a1 a3 ([]:List bW) a4 (a4.length:Int) 0) [.relab 1006 3001,.relab 1008 3002,.own 12 20012 2]
def Ag:LF nF ((List bW)×Bool×bm) :=.m 80 [.t 10,.t 11] true (λr=>[(5000,wR cc 2 r.1),(0,.box (bx (dG r.2.2)))]) (λr=>(.tup [wO cc 5000 r.1,wB r.2.1])) λ|.L0 c0 v2 E1 E2 v12 v18 v19 v20=>([1,1,0,1,4],⟨83,[(0,.bptr 0 0),(2,wL ay v2),(6,.bptr 3001 0),(8,.bptr 3002 0),(12,wO cc 20012 v12),(18,wL bS v18),(19,wI v19),(20,wI v20)],[(0,.box (bx (dG c0))),(3001,.box (bx (aH E1))),(3002,.box (bx (gr E2))),(20012,wR cc 2 v12)]⟩,Kp c0 v2 E1 E2 v12 v18 v19 v20)|.L1 c0 v2 E1 E2 v12 E3 v18 v19 v20=>([1,1,0,1,4,5,1,1,0,4,1,1,1,1,1,1],⟨83,[(0,.bptr 0 0),(2,wL ay v2),(6,.bptr 3001 0),(8,.bptr 3002 0),(12,wO cc 20012 v12),(17,.bptr 3003 0),(18,wL bS v18),(19,wI v19),(20,wI v20)],[(0,.box (bx (dG c0))),(3001,.box (bx (aH E1))),(3002,.box (bx (gr E2))),(20012,wR cc 2 v12),(3003,.box (bx (bj E3)))]⟩,lK c0 v2 E1 E2 v12 E3 v18 v19 v20)
def Z3o:=λb0 a1 a2 a3 a4=>Ag.run (Km b0 a1 a2 a3 a4)
def Zkm(b0)(a1)(a2)(a3)(a4){r}(h:Z3o b0 a1 a2 a3 a4=some r):FnG PR 80 [(0,.box (bx (dG b0)))] [.bptr 0 0,wA (aH a1),wL ay a2,wA (gr a3),wL bS a4] [(5000,wR cc 2 r.1),(0,.box (bx (dG r.2.2)))] (.tup [wO cc 5000 r.1,wB r.2.1]):=Ag.fn h
def Z8b(b0:bm)(a1:List aw)(a2:ab)(a3:Z2):LT Empty (ab×bm):=
.lb 1006<|.lb 1007<|.lb 1008<|.lb 1009<|.call (Zkc a1 a2) λx1=>.callU (Zkm b0 a2 x1 (⟨a3.Control,a3.Source,0,([]:List bW),a3.Event⟩:bV) a3.Ability.Specs) [0] 300000 λx3=>.br (!x3.2.1) (.rt (a2,x3.2.2))<|.dr [.ahead 46,.frz 305000,.stop]<|.rl cc x3.1<|.rl cc x3.1<|.rl cc x3.1<|.rl cc x3.1<|.rl cc x3.1<|.rl cc x3.1<|.callF (Zkk a2 (⟨0,2,a3.Source,a3.Control,0,false,a3.Ability,x3.1,a3.Event⟩:Z1)) 470000 λx6=>.rl ba x6.Players<|.rl ba x6.Players<|.rl aC x6.Objects<|.rl aC x6.Objects<|.rl (cI .i64) x6.Battlefield<|.rl (cI .i64) x6.Battlefield<|.rl (cI .i64) x6.Exile<|.rl (cI .i64) x6.Exile<|.rl ax x6.Stack<|.rl ax x6.Stack<|.rl bz x6.Waiting<|.rl bz x6.Waiting<|.rl bD x6.Conts<|.rl bD x6.Conts<|.rl (cI .i64) x6.Extra<|.rl (cI .i64) x6.Extra<|.ret (x6,x3.2.2) [.frz 475000,.frz 475001,.frz 475002,.frz 475003,.frz 475004,.frz 475005,.frz 475006,.frz 475016]
def Z8c:LF Empty (ab×bm) :=.z 36 [.c 8 31 true 19] true (λr=>[(0,.box (bx (dG r.2)))]) (λr=>(wA (aH r.1)))
def Kq:=λb0 a1 a2 a3=>Z8c.run (Z8b b0 a1 a2 a3)
def Zkn(b0)(a1)(a2)(a3){r}(h:Kq b0 a1 a2 a3=some r):FnG PR 36 [(0,.box (bx (dG b0)))] [.bptr 0 0,wL bA a1,wA (aH a2),wA (bz a3)] [(0,.box (bx (dG r.2)))] (wA (aH r.1)):=Z8c.fn h
inductive lL where
 |L0 (c0:bm) (v1:List aw) (E1:ab) (E2:ab) (E3:ab) (v8:List (Int×(List bc))) (v22:List Z2) (v23:Int) (v24:Int)
 |L1 (c0:bm) (v1:List aw) (E1:ab) (E2:ab) (E3:ab) (v8:List (Int×(List bc))) (v55:List Int) (v56:Int) (v57:Int)
 |L2 (c0:bm) (v1:List aw) (E1:ab) (E2:ab) (E3:ab) (v8:List (Int×(List bc))) (v14:List bc) (v55:List Int) (v56:Int) (v57:Int) (v71:List Int) (v72:Int) (v73:Int)
def Kw(c0:bm)(v1:List aw)(E1:ab)(E2:ab)(E3:ab)(v8:List (Int×(List bc)))(v22:List Z2)(v23:Int)(v24:Int):LT lL (ab×bm):=
.br (decide (v24<v23)) (.idx bz v22 v24 λx2=>.lb 1010<|.lkT bj v8 x2.Control 1035 λx4=>.dr [.lit]<|.apR bj 24 x4 [(⟨11,v24,0⟩:bc)] λx6=>.gvT bj v8 x2.Control x6 λx9=>.g0 (.L0 c0 v1 E1 E2 E3 x9 v22 v23 (IntKind.wrap .i64 (v24+1))))<|.dr [.ahead 41,.frzm 20008,.stop]<|.callF (ZbP E1 E1.Active) 450000 λx13=>.call (Aq E1) λx15=>.call (u7 x15 E1.Active) λx17=>.br x17 (.lb 1053<|.callU (Zkl x13 0 [E1.Active]) [455000,1053] 550000 λx20=>.lenO (cI .i64) x20<|.rl ba E3.Players<|.rl aC E3.Objects<|.rl (cI .i64) E3.Battlefield<|.rl (cI .i64) E3.Exile<|.rl ax E3.Stack<|.rl bz E3.Waiting<|.rl bD E3.Conts<|.rl (cI .i64) E3.Extra<|.go (.L1 c0 v1 E1 E2 E3 v8 x20 (x20.length:Int) 0) [.relab 555000 20055,.frz 40300,.frz 40301,.frz 40302,.frz 40303,.frz 40304,.frz 40305,.frz 40306,.frz 40316])<|.lenO (cI .i64) x13<|.rl ba E3.Players<|.rl aC E3.Objects<|.rl (cI .i64) E3.Battlefield<|.rl (cI .i64) E3.Exile<|.rl ax E3.Stack<|.rl bz E3.Waiting<|.rl bD E3.Conts<|.rl (cI .i64) E3.Extra<|.go (.L1 c0 v1 E1 E2 E3 v8 x13 (x13.length:Int) 0) [.relab 455000 20055,.frz 40300,.frz 40301,.frz 40302,.frz 40303,.frz 40304,.frz 40305,.frz 40306,.frz 40316]
def Ky(c0:bm)(v1:List aw)(E1:ab)(E2:ab)(E3:ab)(v8:List (Int×(List bc)))(v55:List Int)(v56:Int)(v57:Int):LT lL (ab×bm):=
.br (decide (v57<v56)) (.idxR (cI .i64) v55 v57 λx2=>.ldR (cI .i64) v55 x2 2<|.lkH (cL bj) v8 x2 [] λx4=>.len bj x4<|.br ((x4.length:Int)==0) (.g0 (.L1 c0 v1 E1 E2 E3 v8 v55 v56 (IntKind.wrap .i64 (v57+1))))<|.callU (V6 c0 (⟨4,x2,0,0,0,0,x4⟩:Z3)) [0] 720000 λx10=>.lenO (cI .i64) x10.1<|.go (.L2 x10.2 v1 E1 E2 E3 v8 x4 v55 v56 v57 x10.1 (x10.1.length:Int) 0) [.relab 725000 20071])<|.rt (E3,c0)
def KA(c0:bm)(v1:List aw)(E1:ab)(E2:ab)(E3:ab)(v8:List (Int×(List bc)))(v14:List bc)(v55:List Int)(v56:Int)(v57:Int)(v71:List Int)(v72:Int)(v73:Int):LT lL (ab×bm):=
.br (decide (v73<v72)) (.idxR (cI .i64) v71 v73 λx2=>.ldR (cI .i64) v71 x2 2<|.cs (decide (x2>=0)) (.k3 1<|.len bj v14<|.k2 1<|.br (decide (x2<(v14.length:Int))) (.idx bj v14 x2 λx7=>.idx bz E1.Waiting x7.A λx9=>.callU (Zkn c0 v1 E3 x9) [0] 980000 λx11=>.g0 (.L2 x11.2 v1 E1 E2 x11.1 v8 v14 v55 v56 v57 v71 v72 (IntKind.wrap .i64 (v73+1))))<|.g0 (.L2 c0 v1 E1 E2 E3 v8 v14 v55 v56 v57 v71 v72 (IntKind.wrap .i64 (v73+1))))<|.k5 1<|.kn [0]<|.g0 (.L2 c0 v1 E1 E2 E3 v8 v14 v55 v56 v57 v71 v72 (IntKind.wrap .i64 (v73+1))))<|.g0 (.L1 c0 v1 E1 E2 E3 v8 v55 v56 (IntKind.wrap .i64 (v57+1)))
def Ku(b0:bm)(a1:List aw)(a2:ab):LT lL (ab×bm):=
.lb 1005<|.lb 1006<|.callF (qQ a2) 190000 λx1=>.lb 1007<|.lb 1020<|.dr [.ahead 8,.tomr 1020 3,.stop]<|.len bz a2.Waiting<|.go (.L0 b0 a1 a2 (⟨([]:List bC),([]:List ak),([]:List Int),([]:List Int),([]:List Z1),([]:List Z2),([]:List ck),0,0,0,false,0,0,0,0,0,([]:List Int),0,0⟩:ab) (⟨x1.Players,x1.Objects,x1.Battlefield,x1.Exile,x1.Stack,([]:List Z2),x1.Conts,x1.Turn,x1.Active,x1.Step,x1.Begun,x1.Priority,x1.Passes,x1.NextId,x1.NextStamp,x1.Seed,x1.Extra,x1.Over,x1.Winner⟩:ab) ([]:List (Int×(List bc))) a2.Waiting (a2.Waiting.length:Int) 0) [.relab 1005 3001,.relab 1006 3002,.relab 1007 3003,.relab 1020 20008,.ownb 3002 0 40200 14,.ownb 3002 1 40201 19,.ownb 3002 2 40202 1,.ownb 3002 3 40203 1,.ownb 3002 4 40204 94,.ownb 3002 5 40205 89,.ownb 3002 6 40206 6,.ownb 3002 16 40216 1,.relab 195000 40300,.relab 195001 40301,.relab 195002 40302,.relab 195003 40303,.relab 195004 40304,.ownb 3003 5 40305 89,.relab 195006 40306,.relab 195016 40316]
def qE:LF lL (ab×bm) :=.m 17 [.c 6 31 true 19] true (λr=>[(0,.box (bx (dG r.2)))]) (λr=>(wA (aH r.1))) λ|.L0 c0 v1 E1 E2 E3 v8 v22 v23 v24=>([1,1,1,1,0,1,4],⟨101,[(0,.bptr 0 0),(1,wL bA v1),(5,.bptr 3001 0),(6,.bptr 3002 0),(7,.bptr 3003 0),(8,.own 20008 .map),(22,wL bz v22),(23,wI v23),(24,wI v24)],[(0,.box (bx (dG c0))),(3001,.box (bx (aH E1))),(3002,.box (tm2 E2 40200)),(40200,wR ba 14 E2.Players),(40201,wR aC 19 E2.Objects),(40202,wR (cI .i64) 1 E2.Battlefield),(40203,wR (cI .i64) 1 E2.Exile),(40204,wR ax 94 E2.Stack),(40205,wR bz 89 E2.Waiting),(40206,wR bD 6 E2.Conts),(40216,wR (cI .i64) 1 E2.Extra),(3003,.box (tm2 E3 40300)),(40300,wR ba 14 E3.Players),(40301,wR aC 19 E3.Objects),(40302,wR (cI .i64) 1 E3.Battlefield),(40303,wR (cI .i64) 1 E3.Exile),(40304,wR ax 94 E3.Stack),(40305,wR bz 89 E3.Waiting),(40306,wR bD 6 E3.Conts),(40316,wR (cI .i64) 1 E3.Extra),(20008,wGr 3 bj v8)]⟩,Kw c0 v1 E1 E2 E3 v8 v22 v23 v24)|.L1 c0 v1 E1 E2 E3 v8 v55 v56 v57=>([1,1,1,1,1,1,1,0,1,4],⟨101,[(0,.bptr 0 0),(1,wL bA v1),(5,.bptr 3001 0),(6,.bptr 3002 0),(7,.bptr 3003 0),(8,.own 20008 .map),(55,wO (cI .i64) 20055 v55),(56,wI v56),(57,wI v57)],[(0,.box (bx (dG c0))),(3001,.box (bx (aH E1))),(3002,.box (tm2 E2 40200)),(40200,wR ba 14 E2.Players),(40201,wR aC 19 E2.Objects),(40202,wR (cI .i64) 1 E2.Battlefield),(40203,wR (cI .i64) 1 E2.Exile),(40204,wR ax 94 E2.Stack),(40205,wR bz 89 E2.Waiting),(40206,wR bD 6 E2.Conts),(40216,wR (cI .i64) 1 E2.Extra),(3003,.box (bx (aH E3))),(20008,wG false (cL bj) v8),(20055,wR (cI .i64) 1 v55)]⟩,Ky c0 v1 E1 E2 E3 v8 v55 v56 v57)|.L2 c0 v1 E1 E2 E3 v8 v14 v55 v56 v57 v71 v72 v73=>([1,1,1,1,1,1,1,0,1,4,5,1,1,0,4,1,1,1,1,4],⟨101,[(0,.bptr 0 0),(1,wL bA v1),(5,.bptr 3001 0),(6,.bptr 3002 0),(7,.bptr 3003 0),(8,.own 20008 .map),(14,wL bj v14),(55,wO (cI .i64) 20055 v55),(56,wI v56),(57,wI v57),(71,wO (cI .i64) 20071 v71),(72,wI v72),(73,wI v73)],[(0,.box (bx (dG c0))),(3001,.box (bx (aH E1))),(3002,.box (tm2 E2 40200)),(40200,wR ba 14 E2.Players),(40201,wR aC 19 E2.Objects),(40202,wR (cI .i64) 1 E2.Battlefield),(40203,wR (cI .i64) 1 E2.Exile),(40204,wR ax 94 E2.Stack),(40205,wR bz 89 E2.Waiting),(40206,wR bD 6 E2.Conts),(40216,wR (cI .i64) 1 E2.Extra),(3003,.box (bx (aH E3))),(20008,wG false (cL bj) v8),(20055,wR (cI .i64) 1 v55),(20071,wR (cI .i64) 1 v71)]⟩,KA c0 v1 E1 E2 E3 v8 v14 v55 v56 v57 v71 v72 v73)
def Z0j:=λb0 a1 a2=>qE.run (Ku b0 a1 a2)
def DB(b0)(a1)(a2){r}(h:Z0j b0 a1 a2=some r):FnG PR 17 [(0,.box (bx (dG b0)))] [.bptr 0 0,wL bA a1,wA (aH a2)] [(0,.box (bx (dG r.2)))] (wA (aH r.1)):=qE.fn h
def Zko:LT Empty Bool:=
.dr [.lit]<|.lb 1001<|.dr [.lit]<|.dr [.lit]<|.lb 1002<|.callF (BK ([]:List (List Int))) 220000 λx3=>.callU (DB x3 ([]:List aw) (⟨[(⟨20,0,0,(⟨0,0,0,0,0,0⟩:A6 Int),false,false,([]:List Int),([]:List Int),([]:List Int)⟩:bC),(⟨20,0,0,(⟨0,0,0,0,0,0⟩:A6 Int),false,false,([]:List Int),([]:List Int),([]:List Int)⟩:bC)],([]:List ak),([]:List Int),([]:List Int),([]:List Z1),[(⟨3,0,(⟨4,(⟨0,0,0,0,0,0,0,([]:By),0,0,(⟨0,0⟩:ae),(⟨0,0⟩:ae),(⟨0,0⟩:ae)⟩:aj),([]:List ai),(⟨(⟨0,0,(⟨0,0,0,0,0⟩:A5 Int)⟩:Z4),false,false,0⟩:gM),false,(⟨10,0,(⟨0,0,0,0,0,0,0,([]:By),0,0,(⟨0,0⟩:ae),(⟨0,0⟩:ae),(⟨0,0⟩:ae)⟩:aj)⟩:eW),false,([]:List bo),[(⟨24,(⟨0,0,(⟨0,0,0,0,0,0,0,([]:By),0,0,(⟨0,0⟩:ae),(⟨0,0⟩:ae),(⟨0,0⟩:ae)⟩:aj)⟩:fa),(⟨0,0,0,(⟨0,0,0,0,0,0,0,([]:By),0,0,(⟨0,0⟩:ae),(⟨0,0⟩:ae),(⟨0,0⟩:ae)⟩:aj)⟩:dO),0,0,([]:By),(⟨0,0,0,0,0,0,0,([]:By),0,0,(⟨0,0⟩:ae),(⟨0,0⟩:ae),(⟨0,0⟩:ae)⟩:aj),(⟨0,0,0,0,0,0⟩:A6 Int),([]:List ai)⟩:bh)],(⟨0,0,(⟨0,0,0,0,0,0,0,([]:By),0,0,(⟨0,0⟩:ae),(⟨0,0⟩:ae),(⟨0,0⟩:ae)⟩:aj),0,0,0,0⟩:dn)⟩:an),(⟨0,0,0,0,0,0,0,0,0,0,false,false,(⟨0,0,0⟩:A3 Int)⟩:jA)⟩:Z2),(⟨4,1,(⟨4,(⟨0,0,0,0,0,0,0,([]:By),0,0,(⟨0,0⟩:ae),(⟨0,0⟩:ae),(⟨0,0⟩:ae)⟩:aj),([]:List ai),(⟨(⟨0,0,(⟨0,0,0,0,0⟩:A5 Int)⟩:Z4),false,false,0⟩:gM),false,(⟨10,0,(⟨0,0,0,0,0,0,0,([]:By),0,0,(⟨0,0⟩:ae),(⟨0,0⟩:ae),(⟨0,0⟩:ae)⟩:aj)⟩:eW),false,([]:List bo),[(⟨24,(⟨0,0,(⟨0,0,0,0,0,0,0,([]:By),0,0,(⟨0,0⟩:ae),(⟨0,0⟩:ae),(⟨0,0⟩:ae)⟩:aj)⟩:fa),(⟨0,0,0,(⟨0,0,0,0,0,0,0,([]:By),0,0,(⟨0,0⟩:ae),(⟨0,0⟩:ae),(⟨0,0⟩:ae)⟩:aj)⟩:dO),0,0,([]:By),(⟨0,0,0,0,0,0,0,([]:By),0,0,(⟨0,0⟩:ae),(⟨0,0⟩:ae),(⟨0,0⟩:ae)⟩:aj),(⟨0,0,0,0,0,0⟩:A6 Int),([]:List ai)⟩:bh)],(⟨0,0,(⟨0,0,0,0,0,0,0,([]:By),0,0,(⟨0,0⟩:ae),(⟨0,0⟩:ae),(⟨0,0⟩:ae)⟩:aj),0,0,0,0⟩:dn)⟩:an),(⟨0,0,0,0,0,0,0,0,0,0,false,false,(⟨0,0,0⟩:A3 Int)⟩:jA)⟩:Z2)],([]:List ck),0,1,0,false,0,0,5,1,0,([]:List Int),0,-1⟩:ab)) [225000] 240000 λx5=>.lb 1003<|.call (V4 x5.1 6) λx7=>.lb 1004<|.call (V4 x5.1 7) λx9=>.lb 1006<|.len bz x5.1.Waiting<|.cs ((x5.1.Waiting.length:Int)==0) (.k3 0<|.len ax x5.1.Stack<|.k2 0<|.cs ((x5.1.Stack.length:Int)==2) (.k3 1<|.idx ax x5.1.Stack 0 λx15=>.k4 1<|.cs (x15.Source==4) (.k3 2<|.ag ax x15 0<|.k4 2<|.cs (x15.Id==5) (.k3 3<|.idx ax x5.1.Stack 1 λx19=>.k4 3<|.cs (x19.Source==3) (.k4 4<|.cs (x5.1.NextId==7) (.k2 5<|.cs x7.2 (.k4 6<|.cs (x7.1.Control==0) (.k3 7<|.rt (!x9.2))<|.k3 7<|.rt false)<|.k4 6<|.b3 false<|.rt false)<|.k2 5<|.b5 false<|.b2 false<|.rt false)<|.k4 4<|.b8 false<|.kb false<|.rt false)<|.k5 3<|.k2 3<|.b8 false<|.b5 false<|.rt false)<|.k5 2<|.k2 2<|.b16 false<|.b4 false<|.rt false)<|.k5 1<|.k2 1<|.b16 false<|.b8 false<|.b3 false<|.rt false)<|.k5 0<|.b16 false<|.b16 false<|.b2 false<|.rt false
def V7:LF Empty Bool :=.z0 9 [.t 0] wB
def KC:=V7.run (Zko)
def kR{r}(h:KC=some r):Fn PR 9 [] (wB r):=V7.fn h
inductive qF where
 |L0 (v0:List (List Int)) (v3:Int)
def Z54(v0:List (List Int))(v3:Int):LT qF Bool:=
.len (cL (cI .i64)) v0<|.br (decide (v3<(v0.length:Int))) (.idx (cL (cI .i64)) v0 v3 λx3=>.len (cI .i64) x3<|.br (decide ((x3.length:Int)>60)) (.rt false)<|.g0 (.L0 v0 (IntKind.wrap .i64 (v3+1))))<|.len (cL (cI .i64)) v0<|.rt (decide ((v0.length:Int)<=30))
def Z8d(a0:List (List Int)):LT qF Bool:=
.g0 (.L0 a0 0)
def Ah:LF qF Bool :=.m0 15 [.t 2] wB λ|.L0 v0 v3=>([1,0,1,4],⟨19,[(0,wL (cL (cI .i64)) v0),(3,wI v3)],[]⟩,Z54 v0 v3)
def KE:=λa0=>Ah.run (Z8d a0)
def Z55(a0){r}(h:KE a0=some r):Fn PR 15 [wL (cL (cI .i64)) a0] (wB r):=Ah.fn h
def KI(a0:ab)(a1:Int):LT Empty Int:=
.lb 1002<|.len ba a0.Players<|.len ba a0.Players<|.ok ((a0.Players.length:Int)≠0)<|.rt (Int.tmod (IntKind.wrap .i64 ((IntKind.wrap .i64 (a1-a0.Active))+(a0.Players.length:Int))) (a0.Players.length:Int))
def V8:LF Empty Int :=.z0 19 [.t 4] wI
def KH:=λa0 a1=>V8.run (KI a0 a1)
def V9(a0)(a1){r}(h:KH a0 a1=some r):Fn PR 19 [wA (aH a0),wI a1] (wI r):=V8.fn h
def KK(b0:bm):LT Empty (Z3×Bool):=
.lb 1002<|.b5 false<|.kb false<|.br (!b0.waits) (.ret ((⟨0,0,0,0,0,0,([]:List bc)⟩:Z3),false) [.ownb 1002 6 5006 3])<|.lb 1004<|.callF (Le b0.pending.Options) 220000 λx2=>.ret ((⟨b0.pending.Kind,b0.pending.Player,b0.pending.Source,b0.pending.Least,b0.pending.Most,b0.pending.N,x2⟩:Z3),true) [.relab 225000 5006]
def Wa(b0:bm):LF Empty (Z3×Bool) :=.z 37 [.c 2 99 true 7,.t 3] true (λr=>[(5006,wR bj 3 r.1.Options),(0,.box (bx (dG b0)))]) (λr=>(.tup [.agg (tm11 r.1 5000),wB r.2]))
def KJ(b0:bm):Option (Z3×Bool):=(Wa b0).run (KK b0)
def Zkp(b0:bm){r:Z3×Bool}(h:KJ b0=some r):FnG PR 37 [(0,.box (bx (dG b0)))] [.bptr 0 0] [(5006,wR bj 3 r.1.Options),(0,.box (bx (dG b0)))] (.tup [.agg (tm11 r.1 5000),wB r.2]):=(Wa b0).fn h
def Z8e(b0:bm):LT Empty Bool:=
.callO (Zkp b0) [0] 80000 (λx=>[(5006,wR bj 3 x.1.Options)]) λx1=>.lb 1003<|.rt x1.2
def Z8f(b0:bm):LF Empty Bool :=.z 18 [.t 2] true (λr=>[(0,.box (bx (dG b0)))]) (λr=>(wB r))
def KL(b0:bm):Option Bool:=(Z8f b0).run (Z8e b0)
def Z3p(b0:bm){r:Bool}(h:KL b0=some r):FnG PR 18 [(0,.box (bx (dG b0)))] [.bptr 0 0] [(0,.box (bx (dG b0)))] (wB r):=(Z8f b0).fn h
inductive qG where
 |L0 (E0:ab) (E1:ab) (v9:Int)
def Z56(E0:ab)(E1:ab)(v9:Int):LT qG Bool:=
.len ax E1.Stack<|.br (decide (v9<(E1.Stack.length:Int))) (.idx ax E1.Stack v9 λx3=>.len ax E0.Stack<|.br (decide (v9<(E0.Stack.length:Int))) (.ag ax x3 0<|.idx ax E0.Stack v9 λx7=>.br (x3.Id != x7.Id) (.rt false)<|.g0 (.L0 E0 E1 (IntKind.wrap .i64 (v9+1))))<|.cs (decide (x3.Control<0)) (.k5 2<|.kg 2<|.b16 true<|.b5 true<|.b2 true<|.kn [0]<|.rt false)<|.k4 2<|.len ba E0.Players<|.k2 2<|.cs (decide (x3.Control>=(E0.Players.length:Int))) (.k5 3<|.k2 3<|.b16 true<|.kn [0]<|.rt false)<|.k4 3<|.idx ba E0.Players x3.Control λx15=>.k3 3<|.cs x15.Lost (.k8 4<|.b8 true<|.kn [0]<|.rt false)<|.k4 4<|.ag ax x3 0<|.k4 4<|.cs (x3.Kind != 2) (.k8 5<|.kn [0]<|.rt false)<|.k4 5<|.len ax E0.Stack<|.k2 5<|.cs (decide (v9>(E0.Stack.length:Int))) (.k5 6<|.kg 6<|.idx ax E1.Stack (IntKind.wrap .i64 (v9-1)) λx22=>.k3 6<|.call (V9 E0 x22.Control) λx24=>.k3 6<|.call (V9 E0 x3.Control) λx26=>.kg 6<|.kg 5<|.kg 6<|.kg 5<|.br (decide (x24>x26)) (.rt false)<|.g0 (.L0 E0 E1 (IntKind.wrap .i64 (v9+1))))<|.k8 6<|.k5 6<|.kg 5<|.kg 6<|.kg 5<|.kn [0]<|.g0 (.L0 E0 E1 (IntKind.wrap .i64 (v9+1))))<|.len ax E1.Stack<|.len ax E0.Stack<|.cs (E1.NextId==(IntKind.wrap .i64 ((IntKind.wrap .i64 (E0.NextId+(E1.Stack.length:Int)))-(E0.Stack.length:Int)))) (.kg 1<|.call (kR) λx39=>.kg 1<|.rt x39)<|.k2 1<|.rt false
def Z8g(a0:List aw)(a1:ab)(a2:List (List Int)):LT qG Bool:=
.lb 1004<|.call (R7 a0 a1) λx1=>.cs (!x1) (.k4 0<|.kn [0]<|.call (kR) λx4=>.rt x4)<|.k2 0<|.call (Z55 a2) λx6=>.k2 0<|.br (!x6) (.call (kR) λx9=>.rt x9)<|.callF (BK a2) 230000 λx11=>.callU (DB x11 a0 a1) [235000] 270000 λx13=>.lb 1008<|.callO (Z3p x13.2) [235000] 290000 (λx=>[]) λx15=>.br x15 (.call (kR) λx18=>.rt x18)<|.len bz x13.1.Waiting<|.cs ((x13.1.Waiting.length:Int) != 0) (.k8 3<|.b8 true<|.b4 true<|.kn [0]<|.rt false)<|.k3 3<|.len ax x13.1.Stack<|.k3 3<|.len ax a1.Stack<|.k2 3<|.cs (decide ((x13.1.Stack.length:Int)<(a1.Stack.length:Int))) (.k8 4<|.k4 4<|.kn [0]<|.rt false)<|.k3 4<|.len ax x13.1.Stack<|.k3 4<|.len ax a1.Stack<|.k3 4<|.len bz a1.Waiting<|.k3 4<|.br (decide ((x13.1.Stack.length:Int)>(IntKind.wrap .i64 ((a1.Stack.length:Int)+(a1.Waiting.length:Int))))) (.rt false)<|.go (.L0 a1 x13.1 0) [.relab 1004 3000,.relab 1008 3001]
def Ai:LF qG Bool :=.m0 5 [.t 6] wB λ|.L0 E0 E1 v9=>([1,1,1,1,1,1,0,1,4],⟨151,[(4,.bptr 3000 0),(8,.bptr 3001 0),(9,wI v9)],[(3000,.box (bx (aH E0))),(3001,.box (bx (aH E1)))]⟩,Z56 E0 E1 v9)
def KN:=λa0 a1 a2=>Ai.run (Z8g a0 a1 a2)
def Za9(a0)(a1)(a2){r}(h:KN a0 a1 a2=some r):Fn PR 5 [wL bA a0,wA (aH a1),wL (cL (cI .i64)) a2] (wB r):=Ai.fn h
inductive nH where
 |L0 (E0:ab) (E1:ab) (v9:Int) (v10:Int)
 |L1 (E0:ab) (E1:ab) (v9:Int) (v12:Int)
def Z0k(E0:ab)(E1:ab)(v9:Int)(v10:Int):LT nH Bool:=
.len bz E0.Waiting<|.br (decide (v10<(E0.Waiting.length:Int))) (.idx bz E0.Waiting v10 λx3=>.ag bz x3 0<|.len bS x3.Ability.Specs<|.cs ((x3.Ability.Specs.length:Int)==0) (.k3 1<|.cs (decide (x3.Control>=0)) (.k4 2<|.len ba E0.Players<|.k2 2<|.cs (decide (x3.Control<(E0.Players.length:Int))) (.k4 3<|.idx ba E0.Players x3.Control λx10=>.k4 3<|.br (!x10.Lost) (.g0 (.L0 E0 E1 (IntKind.wrap .i64 (v9+1)) (IntKind.wrap .i64 (v10+1))))<|.g0 (.L0 E0 E1 v9 (IntKind.wrap .i64 (v10+1))))<|.k8 3<|.kn [0]<|.g0 (.L0 E0 E1 v9 (IntKind.wrap .i64 (v10+1))))<|.k5 2<|.kg 2<|.b8 false<|.kn [0]<|.g0 (.L0 E0 E1 v9 (IntKind.wrap .i64 (v10+1))))<|.k3 1<|.b8 false<|.b5 false<|.kb false<|.kn [0]<|.g0 (.L0 E0 E1 v9 (IntKind.wrap .i64 (v10+1))))<|.len ax E0.Stack<|.g0 (.L1 E0 E1 v9 (E0.Stack.length:Int))
def Z0l(E0:ab)(E1:ab)(v9:Int)(v12:Int):LT nH Bool:=
.len ax E1.Stack<|.br (decide (v12<(E1.Stack.length:Int))) (.idx ax E1.Stack v12 λx3=>.len cc x3.Targets<|.ag ax x3 0<|.len bS x3.Ability.Specs<|.br ((x3.Targets.length:Int) != (x3.Ability.Specs.length:Int)) (.rt false)<|.g0 (.L1 E0 E1 v9 (IntKind.wrap .i64 (v12+1))))<|.len ax E1.Stack<|.len ax E0.Stack<|.cs (decide ((E1.Stack.length:Int)>=(IntKind.wrap .i64 ((E0.Stack.length:Int)+v9)))) (.kg 1<|.call (kR) λx14=>.kg 1<|.rt x14)<|.k2 1<|.rt false
def Z3q(a0:List aw)(a1:ab)(a2:List (List Int)):LT nH Bool:=
.lb 1004<|.call (R7 a0 a1) λx1=>.cs (!x1) (.k4 0<|.kn [0]<|.call (kR) λx4=>.rt x4)<|.k2 0<|.call (Z55 a2) λx6=>.k2 0<|.br (!x6) (.call (kR) λx9=>.rt x9)<|.callF (BK a2) 250000 λx11=>.callU (DB x11 a0 a1) [255000] 290000 λx13=>.lb 1008<|.callO (Z3p x13.2) [255000] 310000 (λx=>[]) λx15=>.br x15 (.call (kR) λx18=>.rt x18)<|.go (.L0 a1 x13.1 0 0) [.relab 1004 3000,.relab 1008 3001]
def uY:LF nH Bool :=.m0 6 [.t 6] wB λ|.L0 E0 E1 v9 v10=>([1,1,1,1,1,1,0,1,4],⟨114,[(4,.bptr 3000 0),(8,.bptr 3001 0),(9,wI v9),(10,wI v10)],[(3000,.box (bx (aH E0))),(3001,.box (bx (aH E1)))]⟩,Z0k E0 E1 v9 v10)|.L1 E0 E1 v9 v12=>([1,1,1,1,1,1,1,0,1,4],⟨114,[(4,.bptr 3000 0),(8,.bptr 3001 0),(9,wI v9),(12,wI v12)],[(3000,.box (bx (aH E0))),(3001,.box (bx (aH E1)))]⟩,Z0l E0 E1 v9 v12)
def Z8h:=λa0 a1 a2=>uY.run (Z3q a0 a1 a2)
def Zae(a0)(a1)(a2){r}(h:Z8h a0 a1 a2=some r):Fn PR 6 [wL bA a0,wA (aH a1),wL (cL (cI .i64)) a2] (wB r):=uY.fn h
def Sj(a0:Int):LT Empty Int:=
.br (decide (a0>1000000)) (.rt 1000000)<|.br (decide (a0<(-1000000))) (.rt (-1000000))<|.rt a0
def Wb:LF Empty Int :=.z0 289 [.t 2] wI
def B3:=λa0=>Wb.run (Sj a0)
def nM(a0){r}(h:B3 a0=some r):Fn PR 289 [wI a0] (wI r):=Wb.fn h
def Sk(a0:Int)(a1:Int):LT Empty Int:=
.call (nM a0) λx1=>.call (nM a1) λx3=>.call (nM (IntKind.wrap .i64 (x1+x3))) λx7=>.rt x7
def Wc:LF Empty Int :=.z0 220 [.t 4] wI
def B5:=λa0 a1=>Wc.run (Sk a0 a1)
def AG(a0)(a1){r}(h:B5 a0 a1=some r):Fn PR 220 [wI a0,wI a1] (wI r):=Wc.fn h
def Zkq(a0:Int)(a1:Int):LT Empty Bool:=
.rt ((bJ .and .i64 a0 a1) != 0)
def Wd:LF Empty Bool :=.z0 283 [.t 4] wB
def Sn:=λa0 a1=>Wd.run (Zkq a0 a1)
def vi(a0)(a1){r}(h:Sn a0 a1=some r):Fn PR 283 [wI a0,wI a1] (wB r):=Wd.fn h
def DP(a0:cf)(a1:By):LT Empty Bool:=
.lb 1002<|.call (Z7a a0.Subs a1) λx1=>.rt (decide (x1>=0))
def We:LF Empty Bool :=.z0 284 [.t 4] wB
def xH:=λa0 a1=>We.run (DP a0 a1)
def ZcX(a0)(a1){r}(h:xH a0 a1=some r):Fn PR 284 [wA (jd a0),wS a1] (wB r):=We.fn h
def Zkr(a0:Int)(a1:Int):LT Empty Bool:=
.rt ((bJ .and .i64 a0 a1)==a1)
def Wf:LF Empty Bool :=.z0 217 [.t 4] wB
def So:=λa0 a1=>Wf.run (Zkr a0 a1)
def Mu(a0)(a1){r}(h:So a0 a1=some r):Fn PR 217 [wI a0,wI a1] (wB r):=Wf.fn h
end
end Go.PW
