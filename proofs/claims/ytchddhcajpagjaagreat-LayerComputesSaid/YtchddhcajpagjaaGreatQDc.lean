import Derived.Test.YtchddhcajpagjaaGreatQDb
set_option linter.all false
set_option maxRecDepth 100000
namespace Go.PW
open Go.RowKit
noncomputable section
inductive rA where
 |L0 (v0:List aq) (E0:av) (E1:au) (E2:au) (v6:Int)
def Ls(v0:List aq)(E0:av)(E1:au)(E2:au)(v6:Int):LT rA au:=
.len aH E0.Objects<|.br (decide (v6<(E0.Objects.length:Int))) (.idx aH E0.Objects v6 λx3=>.call (Pt v0 x3) λx5=>.dr [.lit]<|.apR ao 176 E2.All [x5] λx7=>.g0 (.L0 v0 E0 E1 (⟨E2.S,x7,E2.L,E2.Begun,E2.Sets,E2.Blank⟩:au) (IntKind.wrap .i64 (v6+1))))<|.len bI E2.L<|.mk cB 1034 1 false (E2.L.length:Int) (E2.L.length:Int) λx13=>.len bI E2.L<|.mk (cL (cI .i64)) 1039 24 [] (E2.L.length:Int) (E2.L.length:Int) λx15=>.len aH E0.Objects<|.mk cB 1044 1 false (E0.Objects.length:Int) (E0.Objects.length:Int) λx17=>.ret (⟨E2.S,E2.All,E2.L,x13,x15,x17⟩:au) [.relab 40219 5019,.relab 1034 5021,.relab 1039 5022,.relab 1044 5023]
def Lp(a0:List aq)(a1:av):LT rA au:=
.lb 1003<|.lb 1004<|.call (ZnB a0 a1) λx1=>.lb 1005<|.go (.L0 a0 a1 (⟨(⟨([]:List hY),([]:List aj),([]:List Int),([]:List Int),([]:List gI),([]:List iG),([]:List du),0,0,0,false,0,0,0,0,0,([]:List Int),0,0⟩:av),([]:List ab),([]:List bd),([]:List Bool),([]:List (List Int)),([]:List Bool)⟩:au) (⟨a1,([]:List ab),x1,([]:List Bool),([]:List (List Int)),([]:List Bool)⟩:au) 0) [.relab 1003 3000,.relab 1004 3001,.relab 1005 3002,.ownb 3001 0 40100 14,.ownb 3001 1 40101 19,.ownb 3001 2 40102 1,.ownb 3001 3 40103 1,.ownb 3001 4 40104 94,.ownb 3001 5 40105 89,.ownb 3001 6 40106 6,.ownb 3001 16 40116 1,.ownb 3001 19 40119 17,.ownb 3001 20 40120 23,.ownb 3001 21 40121 1,.ownb 3001 22 40122 1,.ownb 3001 23 40123 1,.ownb 3002 19 40219 17,.ownb 3002 21 40221 1,.ownb 3002 22 40222 1,.ownb 3002 23 40223 1]
def Z8c:LF rA au :=.m 36 [.c 4 103 true 24] true (λr=>(tm18 r 5000)) (λr=>(.agg (tm6 r 5000))) λ|.L0 v0 E0 E1 E2 v6=>([1,1,0,1,4],⟨47,[(0,wL Z0 v0),(3,.bptr 3000 0),(4,.bptr 3001 0),(5,.bptr 3002 0),(6,wI v6)],((3000,.box (bx (Z6 E0)))::(3001,.box (tm4 E1 40100))::(40100,wR cZ 14 E1.S.Players)::(40101,wR aH 19 E1.S.Objects)::(40102,wR (cI .i64) 1 E1.S.Battlefield)::(40103,wR (cI .i64) 1 E1.S.Exile)::(40104,wR cV 94 E1.S.Stack)::(40105,wR dE 89 E1.S.Waiting)::(40106,wR c6 6 E1.S.Conts)::(40116,wR (cI .i64) 1 E1.S.Extra)::(40119,wR ao 17 E1.All)::(40120,wR bI 23 E1.L)::(40121,wR cB 1 E1.Begun)::(40122,wR (cL (cI .i64)) 1 E1.Sets)::(40123,wR cB 1 E1.Blank)::(3002,.box (tm6 E2 40200))::(tm18 E2 40200))⟩,Ls v0 E0 E1 E2 v6)
def Lo:=λa0 a1=>Z8c.run (Lp a0 a1)
def ZnC(a0)(a1){r}(h:Lo a0 a1=some r):FnG PR 36 [] [wL Z0 a0,wA (Z6 a1)] (tm18 r 5000) (.agg (tm6 r 5000)):=Z8c.fn h
def Z8d(a0:Int):LT Empty Int:=
.br (decide (a0>1000000)) (.rt 1000000)<|.br (decide (a0<(-1000000))) (.rt (-1000000))<|.rt a0
def Pu:LF Empty Int :=.z0 69 [.t 2] wI
def Z6y:=λa0=>Pu.run (Z8d a0)
def ji(a0){r}(h:Z6y a0=some r):Fn PR 69 [wI a0] (wI r):=Pu.fn h
def Lu(a0:Int)(a1:Int):LT Empty Int:=
.call (ji a0) λx1=>.call (ji a1) λx3=>.call (ji (IntKind.wrap .i64 (x1-x3))) λx7=>.rt x7
def Pv:LF Empty Int :=.z0 41 [.t 4] wI
def Lt:=λa0 a1=>Pv.run (Lu a0 a1)
def ZnD(a0)(a1){r}(h:Lt a0 a1=some r):Fn PR 41 [wI a0,wI a1] (wI r):=Pv.fn h
def Lw(a0:A3 Int):LT Empty Int:=
.lb 1001<|.idA (aa.int .i64) (A3.list a0) 0 (bx ((cA3 (cI .i64)) a0)) 0 3 λx1=>.ldC (aa.int .i64) 4 x1 0<|.idA (aa.int .i64) (A3.list a0) 1 (bx ((cA3 (cI .i64)) a0)) 0 3 λx3=>.ldC (aa.int .i64) 6 x3 1<|.call (ZnD x1 x3) λx5=>.rt x5
def Pw:LF Empty Int :=.z0 23 [.t 2] wI
def Lv:=λa0=>Pw.run (Lw a0)
def ZnE(a0){r}(h:Lv a0=some r):Fn PR 23 [wA ((cA3 (cI .i64)) a0)] (wI r):=Pw.fn h
def Ag(a0:Int)(a1:Int):LT Empty Int:=
.call (ji a0) λx1=>.call (ji a1) λx3=>.call (ji (IntKind.wrap .i64 (x1+x3))) λx7=>.rt x7
def Px:LF Empty Int :=.z0 108 [.t 4] wI
def vl:=λa0 a1=>Px.run (Ag a0 a1)
def mx(a0)(a1){r}(h:vl a0 a1=some r):Fn PR 108 [wI a0,wI a1] (wI r):=Px.fn h
inductive rB where
 |L0 (E0:au) (E1:au) (E2:au) (v4:Int)
def LB(E0:au)(E1:au)(E2:au)(v4:Int):LT rB au:=
.len ao E0.All<|.br (decide (v4<(E0.All.length:Int))) (.idx ao E0.All v4 λx3=>.lb 1005<|.idx aH E0.S.Objects v4 λx5=>.lb 1006<|.cs (x5.Zone==0) (.k4 1<|.dc ((1:Int)≠0) rfl<|.kg 1<|.dc ((2:Int)≠0) rfl<|.k2 1<|.br ((Int.tmod (eu .i64 x3.Line.Types 1) 2)==1) (.call (ZnE x5.Counters) λx9=>.call (mx x3.Power x9) λx11=>.call (mx x3.Tough x9) λx13=>.dr [.lit]<|.apR ao 176 E2.All [(⟨x3.Name,x3.Cost,x3.Colors,x3.Line,x11,x13,x3.Keys,x3.Abilities,x3.Control⟩:ab)] λx15=>.g0 (.L0 E0 E1 (⟨E2.S,x15,E2.L,E2.Begun,E2.Sets,E2.Blank⟩:au) (IntKind.wrap .i64 (v4+1))))<|.dr [.lit]<|.apR ao 176 E2.All [x3] λx20=>.g0 (.L0 E0 E1 (⟨E2.S,x20,E2.L,E2.Begun,E2.Sets,E2.Blank⟩:au) (IntKind.wrap .i64 (v4+1))))<|.k5 1<|.k2 1<|.kn [0]<|.dr [.lit]<|.apR ao 176 E2.All [x3] λx25=>.g0 (.L0 E0 E1 (⟨E2.S,x25,E2.L,E2.Begun,E2.Sets,E2.Blank⟩:au) (IntKind.wrap .i64 (v4+1))))<|.ret E2 [.relab 40219 5019]
def LA(a0:au):LT rB au:=
.lb 1001<|.lb 1002<|.lb 1003<|.go (.L0 a0 (⟨(⟨([]:List hY),([]:List aj),([]:List Int),([]:List Int),([]:List gI),([]:List iG),([]:List du),0,0,0,false,0,0,0,0,0,([]:List Int),0,0⟩:av),([]:List ab),([]:List bd),([]:List Bool),([]:List (List Int)),([]:List Bool)⟩:au) (⟨a0.S,([]:List ab),a0.L,a0.Begun,a0.Sets,a0.Blank⟩:au) 0) [.relab 1001 3000,.relab 1002 3001,.relab 1003 3002,.ownb 3001 0 40100 14,.ownb 3001 1 40101 19,.ownb 3001 2 40102 1,.ownb 3001 3 40103 1,.ownb 3001 4 40104 94,.ownb 3001 5 40105 89,.ownb 3001 6 40106 6,.ownb 3001 16 40116 1,.ownb 3001 19 40119 17,.ownb 3001 20 40120 23,.ownb 3001 21 40121 1,.ownb 3001 22 40122 1,.ownb 3001 23 40123 1,.ownb 3002 19 40219 17]
def Z0q:LF rB au :=.m 59 [.c 2 103 true 24] true (λr=>[(5019,wR ao 17 r.All)]) (λr=>(.agg (tm8 r 5000))) λ|.L0 E0 E1 E2 v4=>([1,1,1,0,1,4],⟨59,[(1,.bptr 3000 0),(2,.bptr 3001 0),(3,.bptr 3002 0),(4,wI v4)],[(3000,.box (bx (dF E0))),(3001,.box (tm4 E1 40100)),(40100,wR cZ 14 E1.S.Players),(40101,wR aH 19 E1.S.Objects),(40102,wR (cI .i64) 1 E1.S.Battlefield),(40103,wR (cI .i64) 1 E1.S.Exile),(40104,wR cV 94 E1.S.Stack),(40105,wR dE 89 E1.S.Waiting),(40106,wR c6 6 E1.S.Conts),(40116,wR (cI .i64) 1 E1.S.Extra),(40119,wR ao 17 E1.All),(40120,wR bI 23 E1.L),(40121,wR cB 1 E1.Begun),(40122,wR (cL (cI .i64)) 1 E1.Sets),(40123,wR cB 1 E1.Blank),(3002,.box (tm8 E2 40200)),(40219,wR ao 17 E2.All)]⟩,LB E0 E1 E2 v4)
def Lz:=λa0=>Z0q.run (LA a0)
def ZnF(a0){r}(h:Lz a0=some r):FnG PR 59 [] [wA (dF a0)] [(5019,wR ao 17 r.All)] (.agg (tm8 r 5000)):=Z0q.fn h
inductive me where
 |L0 (v3:Int) (v6:Bool)
 |L1 (v3:Int) (v11:Bool)
 |L2 (v3:Int) (v14:Bool)
def oa(v3:Int)(v14:Bool):LT me Int:=
.br v14 (.rt 4)<|.br (v3==11) (.rt 5)<|.br (v3==12) (.rt 6)<|.br (v3==13) (.rt 7)<|.br (v3==14) (.rt 8)<|.rt 0
def rC(v3:Int)(v11:Bool):LT me Int:=
.br v11 (.rt 3)<|.br (v3==8) (.j0 (.L2 v3 (v3==8)) (oa v3 (v3==8)))<|.br (v3==9) (.j0 (.L2 v3 (v3==9)) (oa v3 (v3==9)))<|.j0 (.L2 v3 (v3==10)) (oa v3 (v3==10))
def mf(v3:Int)(v6:Bool):LT me Int:=
.br v6 (.rt 2)<|.br (v3==6) (.j0 (.L1 v3 (v3==6)) (rC v3 (v3==6)))<|.j0 (.L1 v3 (v3==7)) (rC v3 (v3==7))
def LG(a0:Int):LT me Int:=
.br (a0==1) (.rt 1)<|.br (a0==2) (.j0 (.L0 a0 (a0==2)) (mf a0 (a0==2)))<|.br (a0==3) (.j0 (.L0 a0 (a0==3)) (mf a0 (a0==3)))<|.br (a0==4) (.j0 (.L0 a0 (a0==4)) (mf a0 (a0==4)))<|.j0 (.L0 a0 (a0==5)) (mf a0 (a0==5))
def Py:LF me Int :=.m0 109 [.t 2] wI λ|.L0 v3 v6=>([1,0,1,4,1,3,1],⟨26,[(3,wI v3),(6,wB v6)],[]⟩,mf v3 v6)|.L1 v3 v11=>([1,0,1,4,1,3,1,3,1],⟨26,[(3,wI v3),(11,wB v11)],[]⟩,rC v3 v11)|.L2 v3 v14=>([1,0,1,4,1,3,1,3,1,3,1],⟨26,[(3,wI v3),(14,wB v14)],[]⟩,oa v3 v14)
def LD:=λa0=>Py.run (LG a0)
def wz(a0){r}(h:LD a0=some r):Fn PR 109 [wI a0] (wI r):=Py.fn h
inductive rD where
 |L0 (v1:Int) (E0:bd) (v5:Int)
def LN(v1:Int)(E0:bd)(v5:Int):LT rD Bool:=
.len ax E0.Mods<|.br (decide (v5<(E0.Mods.length:Int))) (.idx ax E0.Mods v5 λx3=>.call (wz x3.Kind) λx5=>.br (x5==v1) (.rt true)<|.g0 (.L0 v1 E0 (IntKind.wrap .i64 (v5+1))))<|.rt false
def LJ(a0:bd)(a1:Int):LT rD Bool:=
.lb 1002<|.go (.L0 a1 a0 0) [.relab 1002 3000]
def Z0r:LF rD Bool :=.m0 60 [.t 4] wB λ|.L0 v1 E0 v5=>([1,0,1,4],⟨22,[(1,wI v1),(2,.bptr 3000 0),(5,wI v5)],[(3000,.box (bx (bI E0)))]⟩,LN v1 E0 v5)
def LI:=λa0 a1=>Z0r.run (LJ a0 a1)
def ZnG(a0)(a1){r}(h:LI a0 a1=some r):Fn PR 60 [wA (bI a0),wI a1] (wB r):=Z0r.fn h
inductive rE where
 |L0 (v1:Int) (E0:av) (v5:Int)
def LU(v1:Int)(E0:av)(v5:Int):LT rE Int:=
.len aH E0.Objects<|.br (decide (v5<(E0.Objects.length:Int))) (.idx aH E0.Objects v5 λx3=>.br (x3.Id==v1) (.rt v5)<|.g0 (.L0 v1 E0 (IntKind.wrap .i64 (v5+1))))<|.rt (-1)
def LR(a0:av)(a1:Int):LT rE Int:=
.lb 1002<|.go (.L0 a1 a0 0) [.relab 1002 3000]
def Z8e:LF rE Int :=.m0 163 [.t 4] wI λ|.L0 v1 E0 v5=>([1,0,1,4],⟨22,[(1,wI v1),(2,.bptr 3000 0),(5,wI v5)],[(3000,.box (bx (Z6 E0)))]⟩,LU v1 E0 v5)
def LQ:=λa0 a1=>Z8e.run (LR a0 a1)
def Pz(a0)(a1){r}(h:LQ a0 a1=some r):Fn PR 163 [wA (Z6 a0),wI a1] (wI r):=Z8e.fn h
def LX(a0:au)(a1:Int):LT Empty Bool:=
.lb 1002<|.idx bI a0.L a1 λx1=>.cs x1.Fixed (.k5 0<|.kg 0<|.kn [0]<|.rt true)<|.k4 0<|.idx cB a0.Begun a1 λx4=>.k2 0<|.br x4 (.rt true)<|.ag bI x1 0<|.call (Pz a0.S x1.Source) λx7=>.cs (decide (x7<0)) (.k5 2<|.k2 2<|.rt true)<|.k4 2<|.idx cB a0.Blank x7 λx10=>.k3 2<|.rt (!x10)
def PA:LF Empty Bool :=.z0 112 [.t 4] wB
def LW:=λa0 a1=>PA.run (LX a0 a1)
def wC(a0)(a1){r}(h:LW a0 a1=some r):Fn PR 112 [wA (dF a0),wI a1] (wB r):=PA.fn h
inductive rF where
 |L0 (v0:List Int) (v1:Int) (v5:Int)
def L9(v0:List Int)(v1:Int)(v5:Int):LT rF Int:=
.len (cI .i64) v0<|.br (decide (v5<(v0.length:Int))) (.idx (cI .i64) v0 v5 λx3=>.br (x3==v1) (.rt v5)<|.g0 (.L0 v0 v1 (IntKind.wrap .i64 (v5+1))))<|.rt (-1)
def LZ(a0:List Int)(a1:Int):LT rF Int:=
.g0 (.L0 a0 a1 0)
def Z8f:LF rF Int :=.m0 166 [.t 4] wI λ|.L0 v0 v1 v5=>([1,0,1,4],⟨19,[(0,wL (cI .i64) v0),(1,wI v1),(5,wI v5)],[]⟩,L9 v0 v1 v5)
def LY:=λa0 a1=>Z8f.run (LZ a0 a1)
def ZnH(a0)(a1){r}(h:LY a0 a1=some r):Fn PR 166 [wL (cI .i64) a0,wI a1] (wI r):=Z8f.fn h
def Md(a0:List Int)(a1:Int):LT Empty Bool:=
.call (ZnH a0 a1) λx1=>.rt (decide (x1>=0))
def PB:LF Empty Bool :=.z0 116 [.t 4] wB
def Mc:=λa0 a1=>PB.run (Md a0 a1)
def PC(a0)(a1){r}(h:Mc a0 a1=some r):Fn PR 116 [wL (cI .i64) a0,wI a1] (wB r):=PB.fn h
def Mf(a0:au)(a1:Int):LT Empty Int:=
.lb 1002<|.idx bI a0.L a1 λx1=>.call (Pz a0.S x1.Source) λx3=>.ag bI x1 0<|.cs x1.Fixed (.k3 0<|.kn [0]<|.ag bI x1 0<|.rt x1.Control)<|.k3 0<|.br (decide (x3<0)) (.ag bI x1 0<|.rt x1.Control)<|.idx ao a0.All x3 λx7=>.rt x7.Control
def PD:LF Empty Int :=.z0 115 [.t 4] wI
def Me:=λa0 a1=>PD.run (Mf a0 a1)
def Z2i(a0)(a1){r}(h:Me a0 a1=some r):Fn PR 115 [wA (dF a0),wI a1] (wI r):=PD.fn h
def PE(a0:Int)(a1:Int)(a2:Int):LT Empty Bool:=
.br (a2==1) (.rt (a0==a1))<|.cs (a2 != 2) (.k4 1<|.rt true)<|.k4 1<|.rt (a0 != a1)
def PF:LF Empty Bool :=.z0 212 [.t 6] wB
def BT:=λa0 a1 a2=>PF.run (PE a0 a1 a2)
def ZnI(a0)(a1)(a2){r}(h:BT a0 a1 a2=some r):Fn PR 212 [wI a0,wI a1,wI a2] (wB r):=PF.fn h
def PG(a0:Int)(a1:Int)(a2:Int):LT Empty Bool:=
.br (a2==1) (.rt (a0==a1))<|.cs (a2 != 2) (.k4 1<|.rt true)<|.k4 1<|.rt (a0 != a1)
def PH:LF Empty Bool :=.z0 213 [.t 6] wB
def BU:=λa0 a1 a2=>PH.run (PG a0 a1 a2)
def ZnJ(a0)(a1)(a2){r}(h:BU a0 a1 a2=some r):Fn PR 213 [wI a0,wI a1,wI a2] (wB r):=PH.fn h
def PI(a0:Bool)(a1:Int):LT Empty Bool:=
.br (a1==1) (.rt a0)<|.cs (a1 != 2) (.k3 1<|.rt true)<|.k3 1<|.rt (!a0)
def PJ:LF Empty Bool :=.z0 214 [.t 4] wB
def BV:=λa0 a1=>PJ.run (PI a0 a1)
def ZnK(a0)(a1){r}(h:BV a0 a1=some r):Fn PR 214 [wB a0,wI a1] (wB r):=PJ.fn h
def ZnL(a0:Int)(a1:Int):LT Empty Bool:=
.rt ((aR .and .i64 a0 a1) != 0)
def PK:LF Empty Bool :=.z0 215 [.t 4] wB
def Z8g:=λa0 a1=>PK.run (ZnL a0 a1)
def my(a0)(a1){r}(h:Z8g a0 a1=some r):Fn PR 215 [wI a0,wI a1] (wB r):=PK.fn h
def PL(a0:aK)(a1:By):LT Empty Bool:=
.lb 1002<|.call (Z27 a0.Subs a1) λx1=>.rt (decide (x1>=0))
def PM:LF Empty Bool :=.z0 216 [.t 4] wB
def Z2j:=λa0 a1=>PM.run (PL a0 a1)
def PN(a0)(a1){r}(h:Z2j a0 a1=some r):Fn PR 216 [wA (hX a0),wS a1] (wB r):=PM.fn h
def ZnM(a0:Int)(a1:Int):LT Empty Bool:=
.rt ((aR .and .i64 a0 a1)==a1)
def PO:LF Empty Bool :=.z0 217 [.t 4] wB
def PP:=λa0 a1=>PO.run (ZnM a0 a1)
def PQ(a0)(a1){r}(h:PP a0 a1=some r):Fn PR 217 [wI a0,wI a1] (wB r):=PO.fn h
def PS(a0:ah)(a1:Int):LT Empty Bool:=
.lb 1002<|.br (a0.Kind==0) (.rt true)<|.br (a0.Kind==1) (.rt (decide (a1>=a0.N)))<|.br (a0.Kind==2) (.rt (decide (a1<=a0.N)))<|.br (a0.Kind==3) (.rt (a1==a0.N))<|.rt false
def PT:LF Empty Bool :=.z0 255 [.t 4] wB
def BW:=λa0 a1=>PT.run (PS a0 a1)
def sk(a0)(a1){r}(h:BW a0 a1=some r):Fn PR 255 [wA (fm a0),wI a1] (wB r):=PT.fn h
def PU(a0:Int)(a1:Int):LT Empty Int:=
.call (ji a0) λx1=>.call (ji a1) λx3=>.call (ji (IntKind.wrap .i64 (x1*x3))) λx7=>.rt x7
def PX:LF Empty Int :=.z0 266 [.t 4] wI
def BX:=λa0 a1=>PX.run (PU a0 a1)
def PY(a0)(a1){r}(h:BX a0 a1=some r):Fn PR 266 [wI a0,wI a1] (wI r):=PX.fn h
inductive Z8h where
 |L0 (v1:Int) (E0:aJ) (v5:Int) (v6:Int)
def sn(v1:Int)(E0:aJ)(v5:Int)(v6:Int):LT Z8h Int:=
.br (decide (v6<5)) (.idA (aa.int .i64) (A5.list E0.Color) v6 (bx (cc E0)) 2 7 λx2=>.ldC (aa.int .i64) 20 x2 0<|.call (mx v5 x2) λx4=>.g0 (.L0 v1 E0 x4 (IntKind.wrap .i64 (v6+1))))<|.br (decide (v1<0)) (.call (PY E0.X 0) λx9=>.call (mx v5 x9) λx11=>.rt x11)<|.call (PY E0.X v1) λx13=>.call (mx v5 x13) λx15=>.rt x15
def PZ(a0:aJ)(a1:Int):LT Z8h Int:=
.lb 1002<|.call (pH a0) λx1=>.br (!x1) (.rt 0)<|.go (.L0 a1 a0 a0.Generic 0) [.relab 1002 3000]
def wD:LF Z8h Int :=.m0 256 [.t 4] wI λ|.L0 v1 E0 v5 v6=>([1,1,1,0,1,4],⟨30,[(1,wI v1),(2,.bptr 3000 0),(5,wI v5),(6,wI v6)],[(3000,.box (bx (cc E0)))]⟩,sn v1 E0 v5 v6)
def BY:=λa0 a1=>wD.run (PZ a0 a1)
def Z35(a0)(a1){r}(h:BY a0 a1=some r):Fn PR 256 [wA (cc a0),wI a1] (wI r):=wD.fn h
inductive Z36 where
 |L0 (E0:ab) (E1:al) (v5:Bool)
def oJ(E0:ab)(E1:al)(v5:Bool):LT Z36 Bool:=
.cs (E1.Tough.Kind != 0) (.k2 0<|.cs v5 (.k5 1<|.call (sk E1.Tough E0.Tough) λx3=>.kg 0<|.kg 1<|.k2 0<|.br (!x3) (.rt false)<|.call (Z35 E0.Cost 0) λx6=>.call (sk E1.Value x6) λx8=>.rt x8)<|.k5 1<|.kg 0<|.kg 1<|.k2 0<|.br (!false) (.rt false)<|.call (Z35 E0.Cost 0) λx11=>.call (sk E1.Value x11) λx13=>.rt x13)<|.k5 0<|.kn [0]<|.call (Z35 E0.Cost 0) λx15=>.call (sk E1.Value x15) λx17=>.rt x17
def P0(a0:ab)(a1:al):LT Z36 Bool:=
.lb 1002<|.lb 1003<|.call (my a0.Line.Types 1) λx1=>.cs (a1.Power.Kind != 0) (.k2 0<|.cs x1 (.k5 1<|.call (sk a1.Power a0.Power) λx5=>.kg 0<|.kg 1<|.k2 0<|.br (!x5) (.rt false)<|.jn 0 (.L0 a0 a1 x1) [.relab 1002 3000,.relab 1003 3001] (oJ a0 a1 x1))<|.k5 1<|.kg 0<|.kg 1<|.k2 0<|.br (!false) (.rt false)<|.jn 0 (.L0 a0 a1 x1) [.relab 1002 3000,.relab 1003 3001] (oJ a0 a1 x1))<|.k5 0<|.kn [0]<|.jn 0 (.L0 a0 a1 x1) [.relab 1002 3000,.relab 1003 3001] (oJ a0 a1 x1)
def Z37:LF Z36 Bool :=.m0 218 [.t 4] wB λ|.L0 E0 E1 v5=>([1,1,1],⟨46,[(2,.bptr 3000 0),(3,.bptr 3001 0),(5,wB v5)],[(3000,.box (bx (ao E0))),(3001,.box (bx (aU E1)))]⟩,oJ E0 E1 v5)
def BZ:=λa0 a1=>Z37.run (P0 a0 a1)
def P1(a0)(a1){r}(h:BZ a0 a1=some r):Fn PR 218 [wA (ao a0),wA (aU a1)] (wB r):=Z37.fn h
inductive wE where
 |L0 (E0:ab) (E1:al)
 |L1 (E0:ab) (E1:al)
def sq(E0:ab)(E1:al):LT wE Bool:=
.cs (!(E1.Sub==([]:By))) (.k5 0<|.call (PN E0.Line E1.Sub) λx2=>.k2 0<|.cs (!x2) (.k5 1<|.k2 1<|.kn [0]<|.rt false)<|.k5 1<|.call (PQ E0.Keys E1.Keys) λx5=>.k2 1<|.br (!x5) (.rt false)<|.call (P1 E0 E1) λx8=>.rt x8)<|.k5 0<|.k2 0<|.b5 false<|.call (PQ E0.Keys E1.Keys) λx10=>.b2 false<|.br (!x10) (.rt false)<|.call (P1 E0 E1) λx13=>.rt x13
def ss(E0:ab)(E1:al):LT wE Bool:=
.cs (E1.Colors != 0) (.k5 0<|.call (my E0.Colors E1.Colors) λx2=>.k2 0<|.cs (!x2) (.k5 1<|.kg 1<|.kn [0]<|.rt false)<|.k5 1<|.call (my E0.Colors E1.NotColors) λx5=>.kg 1<|.br x5 (.rt false)<|.j0 (.L1 E0 E1) (sq E0 E1))<|.k5 0<|.k2 0<|.b5 false<|.call (my E0.Colors E1.NotColors) λx8=>.kb false<|.br x8 (.rt false)<|.j0 (.L1 E0 E1) (sq E0 E1)
def P2(a0:aj)(a1:ab)(a2:Int)(a3:Int)(a4:al):LT wE Bool:=
.lb 1005<|.lb 1006<|.lb 1009<|.call (iD a4) λx1=>.cs (!x1) (.k5 0<|.kg 0<|.b16 true<|.b5 true<|.b2 true<|.kn [0]<|.rt false)<|.k5 0<|.kg 0<|.cs (a0.Zone != a4.Zone) (.k8 1<|.b8 true<|.b5 true<|.b2 true<|.kn [0]<|.rt false)<|.k5 1<|.kg 1<|.call (ZnI a1.Control a2 a4.Who) λx5=>.k2 1<|.cs (!x5) (.k8 2<|.b5 true<|.b2 true<|.kn [0]<|.rt false)<|.k5 2<|.kg 2<|.call (ZnJ a0.Id a3 a4.Self) λx8=>.k2 2<|.cs (!x8) (.k5 3<|.k2 3<|.kn [0]<|.rt false)<|.k5 3<|.call (ZnK a0.Tapped a4.Tap) λx11=>.k2 3<|.br (!x11) (.rt false)<|.cs (a4.Types != 0) (.k5 5<|.kg 5<|.call (my a1.Line.Types a4.Types) λx15=>.k2 5<|.cs (!x15) (.k5 6<|.k2 6<|.kn [0]<|.rt false)<|.k5 6<|.kg 6<|.call (my a1.Line.Types a4.NotTypes) λx18=>.kg 6<|.br x18 (.rt false)<|.jn 0 (.L0 a1 a4) [.relab 1006 3000,.relab 1009 3001] (ss a1 a4))<|.k8 5<|.b5 false<|.kb false<|.call (my a1.Line.Types a4.NotTypes) λx21=>.kb false<|.br x21 (.rt false)<|.jn 0 (.L0 a1 a4) [.relab 1006 3000,.relab 1009 3001] (ss a1 a4)
def wF:LF wE Bool :=.m0 164 [.t 10] wB λ|.L0 E0 E1=>([1,1,1],⟨107,[(6,.bptr 3000 0),(9,.bptr 3001 0)],[(3000,.box (bx (ao E0))),(3001,.box (bx (aU E1)))]⟩,ss E0 E1)|.L1 E0 E1=>([1,1,1,1],⟨107,[(6,.bptr 3000 0),(9,.bptr 3001 0)],[(3000,.box (bx (ao E0))),(3001,.box (bx (aU E1)))]⟩,sq E0 E1)
def Z2k:=λa0 a1 a2 a3 a4=>wF.run (P2 a0 a1 a2 a3 a4)
def Z0s(a0)(a1)(a2)(a3)(a4){r}(h:Z2k a0 a1 a2 a3 a4=some r):Fn PR 164 [wA (aH a0),wA (ao a1),wI a2,wI a3,wA (aU a4)] (wB r):=wF.fn h
inductive rG where
 |L0 (v1:Int) (E0:au) (v5:List Int) (E1:bd) (v7:Int)
def Mo(v1:Int)(E0:au)(v5:List Int)(E1:bd)(v7:Int):LT rG (List Int):=
.len aH E0.S.Objects<|.br (decide (v7<(E0.S.Objects.length:Int))) (.idx aH E0.S.Objects v7 λx3=>.lb 1008<|.br (x3.Zone != 0) (.g0 (.L0 v1 E0 v5 E1 (IntKind.wrap .i64 (v7+1))))<|.cs E1.Fixed (.k5 2<|.call (PC E1.Objects x3.Id) λx9=>.kg 2<|.cs x9 (.k5 3<|.kg 3<|.kn [0]<|.dr [.lit]<|.apR (cI .i64) 8 v5 [x3.Id] λx12=>.g0 (.L0 v1 E0 x12 E1 (IntKind.wrap .i64 (v7+1))))<|.k4 3<|.cs (!E1.Fixed) (.k5 4<|.idx ao E0.All v7 λx18=>.k4 4<|.call (Z2i E0 v1) λx20=>.k5 4<|.call (Z0s x3 x18 x20 E1.Source E1.Filter) λx22=>.kg 3<|.kg 4<|.kg 3<|.br x22 (.dr [.lit]<|.apR (cI .i64) 8 v5 [x3.Id] λx25=>.g0 (.L0 v1 E0 x25 E1 (IntKind.wrap .i64 (v7+1))))<|.g0 (.L0 v1 E0 v5 E1 (IntKind.wrap .i64 (v7+1))))<|.k8 4<|.k5 4<|.kg 4<|.kg 3<|.kg 4<|.kg 3<|.kn [0]<|.g0 (.L0 v1 E0 v5 E1 (IntKind.wrap .i64 (v7+1))))<|.k5 2<|.kg 2<|.b4 false<|.cs (!E1.Fixed) (.k5 3<|.idx ao E0.All v7 λx35=>.k4 3<|.call (Z2i E0 v1) λx37=>.k5 3<|.call (Z0s x3 x35 x37 E1.Source E1.Filter) λx39=>.kb false<|.kg 3<|.kb false<|.br x39 (.dr [.lit]<|.apR (cI .i64) 8 v5 [x3.Id] λx42=>.g0 (.L0 v1 E0 x42 E1 (IntKind.wrap .i64 (v7+1))))<|.g0 (.L0 v1 E0 v5 E1 (IntKind.wrap .i64 (v7+1))))<|.k8 3<|.k5 3<|.kg 3<|.kb false<|.kg 3<|.kb false<|.kn [0]<|.g0 (.L0 v1 E0 v5 E1 (IntKind.wrap .i64 (v7+1))))<|.rl (cI .i64) v5<|.rt v5
def Mn(a0:au)(a1:Int):LT rG (List Int):=
.lb 1002<|.idx cB a0.Begun a1 λx1=>.br x1 (.idx (cL (cI .i64)) a0.Sets a1 λx4=>.rt x4)<|.lb 1019<|.call (wC a0 a1) λx6=>.br (!x6) (.rl (cI .i64) ([]:List Int)<|.rt ([]:List Int))<|.idx bI a0.L a1 λx9=>.lb 1006<|.go (.L0 a1 a0 ([]:List Int) x9 0) [.relab 1002 3000,.relab 1006 3001,.relab 1019 20005]
def Z0t:LF rG (List Int) :=.m0 113 [.t 4] (λr=>(wL (cI .i64) r)) λ|.L0 v1 E0 v5 E1 v7=>([1,1,1,1,1,0,1,4],⟨83,[(1,wI v1),(2,.bptr 3000 0),(5,wO (cI .i64) 20005 v5),(6,.bptr 3001 0),(7,wI v7)],[(3000,.box (bx (dF E0))),(20005,wR (cI .i64) 1 v5),(3001,.box (bx (bI E1)))]⟩,Mo v1 E0 v5 E1 v7)
def Mm:=λa0 a1=>Z0t.run (Mn a0 a1)
def B0(a0)(a1){r}(h:Mm a0 a1=some r):Fn PR 113 [wA (dF a0),wI a1] (wL (cI .i64) r):=Z0t.fn h
def P3(a0:List ab)(a1:Int):LT Empty ab:=
.lb 1004<|.cs (decide (a1<0)) (.k5 0<|.kn [0]<|.rt (⟨([]:By),(⟨0,0,(⟨0,0,0,0,0⟩:A5 Int)⟩:aJ),0,(⟨0,0,([]:Bys)⟩:aK),0,0,0,([]:List an),0⟩:ab))<|.k3 0<|.len ao a0<|.k2 0<|.br (decide (a1>=(a0.length:Int))) (.rt (⟨([]:By),(⟨0,0,(⟨0,0,0,0,0⟩:A5 Int)⟩:aJ),0,(⟨0,0,([]:Bys)⟩:aK),0,0,0,([]:List an),0⟩:ab))<|.idx ao a0 a1 λx4=>.rt x4
def P4:LF Empty ab :=.z0 219 [.c 4 66 true 17] (λr=>(wA (ao r)))
def B1:=λa0 a1=>P4.run (P3 a0 a1)
def ZnN(a0)(a1){r}(h:B1 a0 a1=some r):Fn PR 219 [wL ao a0,wI a1] (wA (ao r)):=P4.fn h
inductive B2 where
 |L0 (v1:List ab) (v2:Int) (v3:Int) (E0:av) (E1:al) (v11:List Int) (v12:Int)
def sw(v1:List ab)(v2:Int)(v3:Int)(E0:av)(E1:al)(v11:List Int)(v12:Int):LT B2 (List Int):=
.len aH E0.Objects<|.br (decide (v12<(E0.Objects.length:Int))) (.idx aH E0.Objects v12 λx3=>.call (ZnN v1 v12) λx5=>.call (Z0s x3 x5 v2 v3 E1) λx7=>.br x7 (.ag aH x3 0<|.dr [.lit]<|.apR (cI .i64) 8 v11 [x3.Id] λx10=>.g0 (.L0 v1 v2 v3 E0 E1 x10 (IntKind.wrap .i64 (v12+1))))<|.g0 (.L0 v1 v2 v3 E0 E1 v11 (IntKind.wrap .i64 (v12+1))))<|.ret v11 [.relab 20011 5000]
def P5(a0:av)(a1:List ab)(a2:Int)(a3:Int)(a4:al):LT B2 (List Int):=
.lb 1005<|.lb 1009<|.go (.L0 a1 a2 a3 a0 a4 ([]:List Int) 0) [.relab 1005 3000,.relab 1009 3001,.own 11 20011 1]
def B3:LF B2 (List Int) :=.m 165 [.t 10] true (λr=>[(5000,wR (cI .i64) 1 r)]) (λr=>(wO (cI .i64) 5000 r)) λ|.L0 v1 v2 v3 E0 E1 v11 v12=>([1,1,0,1,4],⟨42,[(1,wL ao v1),(2,wI v2),(3,wI v3),(5,.bptr 3000 0),(9,.bptr 3001 0),(11,wO (cI .i64) 20011 v11),(12,wI v12)],[(3000,.box (bx (Z6 E0))),(3001,.box (bx (aU E1))),(20011,wR (cI .i64) 1 v11)]⟩,sw v1 v2 v3 E0 E1 v11 v12)
def Z38:=λa0 a1 a2 a3 a4=>B3.run (P5 a0 a1 a2 a3 a4)
def ZnO(a0)(a1)(a2)(a3)(a4){r}(h:Z38 a0 a1 a2 a3 a4=some r):FnG PR 165 [] [wA (Z6 a0),wL ao a1,wI a2,wI a3,wA (aU a4)] [(5000,wR (cI .i64) 1 r)] (wO (cI .i64) 5000 r):=B3.fn h
def ZnP(a0:av)(a1:List ab)(a2:Int)(a3:Int)(a4:al){r:List Int}(h:Z38 a0 a1 a2 a3 a4=some r):Fn PR 165 [wA (Z6 a0),wL ao a1,wI a2,wI a3,wA (aU a4)] (wL (cI .i64) r):=FnG.frozen (C:=LT.RL (cI .i64) r/\True) (ZnO a0 a1 a2 a3 a4 h) ⟨rfl,ae⟩ bD
inductive rI where
 |L0 (v1:Int) (v2:Int) (E0:au) (v7:List Int) (E1:bd) (v9:Int)
def Mt(v1:Int)(v2:Int)(E0:au)(v7:List Int)(E1:bd)(v9:Int):LT rI (List Int):=
.len ax E1.Mods<|.br (decide (v9<(E1.Mods.length:Int))) (.idx ax E1.Mods v9 λx3=>.call (wz x3.Kind) λx5=>.br (x5 != v2) (.g0 (.L0 v1 v2 E0 v7 E1 (IntKind.wrap .i64 (v9+1))))<|.ag ax x3 0<|.br (x3.Kind==11) (.call (Z2i E0 v1) λx11=>.ag ax x3 0<|.call (ZnP E0.S E0.All x11 E1.Source x3.Filter) λx13=>.len (cI .i64) x13<|.dr [.lit]<|.apR (cI .i64) 8 v7 [(x13.length:Int)] λx16=>.g0 (.L0 v1 v2 E0 x16 E1 (IntKind.wrap .i64 (v9+1))))<|.dr [.lit]<|.apR (cI .i64) 8 v7 [0] λx21=>.g0 (.L0 v1 v2 E0 x21 E1 (IntKind.wrap .i64 (v9+1))))<|.ret v7 [.relab 20007 5000]
def Ms(a0:au)(a1:Int)(a2:Int):LT rI (List Int):=
.lb 1003<|.lb 1011<|.idx bI a0.L a1 λx1=>.lb 1008<|.go (.L0 a1 a2 a0 ([]:List Int) x1 0) [.relab 1003 3000,.relab 1008 3001,.relab 1011 20007]
def Z0u:LF rI (List Int) :=.m 114 [.t 6] true (λr=>[(5000,wR (cI .i64) 1 r)]) (λr=>(wO (cI .i64) 5000 r)) λ|.L0 v1 v2 E0 v7 E1 v9=>([1,1,1,0,1,4],⟨62,[(1,wI v1),(2,wI v2),(3,.bptr 3000 0),(7,wO (cI .i64) 20007 v7),(8,.bptr 3001 0),(9,wI v9)],[(3000,.box (bx (dF E0))),(20007,wR (cI .i64) 1 v7),(3001,.box (bx (bI E1)))]⟩,Mt v1 v2 E0 v7 E1 v9)
def Z8i:=λa0 a1 a2=>Z0u.run (Ms a0 a1 a2)
def ZnQ(a0)(a1)(a2){r}(h:Z8i a0 a1 a2=some r):FnG PR 114 [] [wA (dF a0),wI a1,wI a2] [(5000,wR (cI .i64) 1 r)] (wO (cI .i64) 5000 r):=Z0u.fn h
def B4(a0:au)(a1:Int)(a2:Int){r:List Int}(h:Z8i a0 a1 a2=some r):Fn PR 114 [wA (dF a0),wI a1,wI a2] (wL (cI .i64) r):=FnG.frozen (C:=LT.RL (cI .i64) r/\True) (ZnQ a0 a1 a2 h) ⟨rfl,ae⟩ bD
inductive oe where
 |L0 (v1:By) (E0:aK) (E1:aK) (v5:Bys) (v6:Int)
 |L1 (v1:By) (E0:aK) (E1:aK) (v5:Bys) (v6:Int)
def rJ(v1:By)(E0:aK)(E1:aK)(v5:Bys)(v6:Int):LT oe aK:=
.lb 1045<|.dr [.ahead 48,.frz 20005,.stop]<|.rl cS v5<|.rl cS v5<|.sl cS v5 0 v6 λx1=>.apR cS 16 ([]:Bys) x1 λx4=>.dr [.lit]<|.apR cS 16 x4 [v1] λx7=>.slN cS v5 v6 λx10=>.apR cS 16 x7 x10 λx12=>.ret (⟨E0.Super,E0.Types,x12⟩:aK) [.relab 1045 5002]
def My(v1:By)(E0:aK)(E1:aK)(v5:Bys)(v6:Int):LT oe aK:=
.lenO cS v5<|.cs (decide (v6<(v5.length:Int))) (.k3 0<|.idxR cS v5 v6 λx2=>.kg 0<|.ldR cS v5 x2 2<|.k3 0<|.br (Op.bytesLess x2 v1) (.g0 (.L0 v1 E0 E1 v5 (IntKind.wrap .i64 (v6+1))))<|.j0 (.L1 v1 E0 E1 v5 v6) (rJ v1 E0 E1 v5 v6))<|.k5 0<|.k2 0<|.kn [0]<|.j0 (.L1 v1 E0 E1 v5 v6) (rJ v1 E0 E1 v5 v6)
def Mw(a0:aK)(a1:By):LT oe aK:=
.lb 1002<|.lb 1004<|.lb 1008<|.apR cS 16 ([]:Bys) a0.Subs λx1=>.call (uD a1) λx4=>.cs (!x4) (.k4 0<|.b4 true<|.kn [0]<|.ret (⟨a0.Super,a0.Types,x1⟩:aK) [.relab 1008 5002])<|.k3 0<|.call (PN a0 a1) λx7=>.kg 0<|.cs x7 (.k4 1<|.kn [0]<|.ret (⟨a0.Super,a0.Types,x1⟩:aK) [.relab 1008 5002])<|.k2 1<|.lenO cS x1<|.k2 1<|.br (decide ((x1.length:Int)>=4)) (.ret (⟨a0.Super,a0.Types,x1⟩:aK) [.relab 1008 5002])<|.go (.L0 a1 a0 (⟨0,0,([]:Bys)⟩:aK) x1 0) [.relab 1002 3000,.relab 1004 3001,.relab 1008 20005,.ownb 3001 2 40102 1]
def Z39:LF oe aK :=.m 220 [.c 4 63 true 3] true (λr=>[(5002,wR cS 1 r.Subs)]) (λr=>(.agg [wI r.Super,wI r.Types,wO cS 5002 r.Subs])) λ|.L0 v1 E0 E1 v5 v6=>([1,1,1,1,0,4],⟨64,[(1,wS v1),(2,.bptr 3000 0),(4,.bptr 3001 0),(5,wO cS 20005 v5),(6,wI v6)],[(3000,.box (bx (hX E0))),(3001,.box [wI E1.Super,wI E1.Types,wO cS 40102 E1.Subs]),(40102,wR cS 1 E1.Subs),(20005,wR cS 1 v5)]⟩,My v1 E0 E1 v5 v6)|.L1 v1 E0 E1 v5 v6=>([1,1,1,1,1],⟨64,[(1,wS v1),(2,.bptr 3000 0),(4,.bptr 3001 0),(5,wO cS 20005 v5),(6,wI v6)],[(3000,.box (bx (hX E0))),(3001,.box [wI E1.Super,wI E1.Types,wO cS 40102 E1.Subs]),(40102,wR cS 1 E1.Subs),(20005,wR cS 1 v5)]⟩,rJ v1 E0 E1 v5 v6)
def Mv:=λa0 a1=>Z39.run (Mw a0 a1)
def ZnR(a0)(a1){r}(h:Mv a0 a1=some r):FnG PR 220 [] [wA (hX a0),wS a1] [(5002,wR cS 1 r.Subs)] (.agg [wI r.Super,wI r.Types,wO cS 5002 r.Subs]):=Z39.fn h
def MB(a0:ab)(a1:af)(a2:Int)(a3:Int):LT Empty ab:=
.lb 1004<|.lb 1005<|.lb 1008<|.call (yR a1) λx1=>.br (!x1) (.rt a0)<|.br (a1.Kind==1) (.rt (⟨a0.Name,a0.Cost,a0.Colors,a0.Line,a0.Power,a0.Tough,a0.Keys,a0.Abilities,a2⟩:ab))<|.br (a1.Kind==2) (.rt (⟨a0.Name,a0.Cost,a0.Colors,(⟨a0.Line.Super,a1.N,a0.Line.Subs⟩:aK),a0.Power,a0.Tough,a0.Keys,a0.Abilities,a0.Control⟩:ab))<|.br (a1.Kind==3) (.rt (⟨a0.Name,a0.Cost,a0.Colors,(⟨a0.Line.Super,aR .or .i64 a0.Line.Types a1.N,a0.Line.Subs⟩:aK),a0.Power,a0.Tough,a0.Keys,a0.Abilities,a0.Control⟩:ab))<|.br (a1.Kind==4) (.lb 1040<|.rl cS [a1.Sub]<|.rt (⟨a0.Name,a0.Cost,a0.Colors,(⟨a0.Line.Super,a0.Line.Types,[a1.Sub]⟩:aK),a0.Power,a0.Tough,a0.Keys,a0.Abilities,a0.Control⟩:ab))<|.br (a1.Kind==5) (.callF (ZnR a0.Line a1.Sub) 500000 λx9=>.rl cS x9.Subs<|.rt (⟨a0.Name,a0.Cost,a0.Colors,x9,a0.Power,a0.Tough,a0.Keys,a0.Abilities,a0.Control⟩:ab))<|.br (a1.Kind==6) (.rt (⟨a0.Name,a0.Cost,a1.N,a0.Line,a0.Power,a0.Tough,a0.Keys,a0.Abilities,a0.Control⟩:ab))<|.br (a1.Kind==7) (.rt (⟨a0.Name,a0.Cost,aR .or .i64 a0.Colors a1.N,a0.Line,a0.Power,a0.Tough,a0.Keys,a0.Abilities,a0.Control⟩:ab))<|.br (a1.Kind==8) (.rt (⟨a0.Name,a0.Cost,a0.Colors,a0.Line,a0.Power,a0.Tough,aR .or .i64 a0.Keys a1.N,a0.Abilities,a0.Control⟩:ab))<|.br (a1.Kind==9) (.rt (⟨a0.Name,a0.Cost,a0.Colors,a0.Line,a0.Power,a0.Tough,aR .andNot .i64 a0.Keys a1.N,a0.Abilities,a0.Control⟩:ab))<|.br (a1.Kind==10) (.rt (⟨a0.Name,a0.Cost,a0.Colors,a0.Line,a0.Power,a0.Tough,0,([]:List an),a0.Control⟩:ab))<|.br (a1.Kind==11) (.call (ji a3) λx17=>.call (ji a3) λx19=>.rt (⟨a0.Name,a0.Cost,a0.Colors,a0.Line,x17,x19,a0.Keys,a0.Abilities,a0.Control⟩:ab))<|.br (a1.Kind==12) (.rt (⟨a0.Name,a0.Cost,a0.Colors,a0.Line,a1.N,a1.M,a0.Keys,a0.Abilities,a0.Control⟩:ab))<|.br (a1.Kind==13) (.call (mx a0.Power a1.N) λx23=>.call (mx a0.Tough a1.M) λx25=>.rt (⟨a0.Name,a0.Cost,a0.Colors,a0.Line,x23,x25,a0.Keys,a0.Abilities,a0.Control⟩:ab))<|.br (a1.Kind==14) (.rt (⟨a0.Name,a0.Cost,a0.Colors,a0.Line,a0.Tough,a0.Power,a0.Keys,a0.Abilities,a0.Control⟩:ab))<|.rt a0
def P6:LF Empty ab :=.z0 167 [.c 8 66 true 17] (λr=>(wA (ao r)))
def MA:=λa0 a1 a2 a3=>P6.run (MB a0 a1 a2 a3)
def ZnS(a0)(a1)(a2)(a3){r}(h:MA a0 a1 a2 a3=some r):Fn PR 167 [wA (ao a0),wA (ax a1),wI a2,wI a3] (wA (ao r)):=P6.fn h
inductive rK where
 |L0 (v2:Int) (v3:Int) (v4:List Int) (E0:ab) (E1:bd) (E2:ab) (v11:Int) (v12:Int)
def Z6z(v2:Int)(v3:Int)(v4:List Int)(E0:ab)(E1:bd)(E2:ab)(v11:Int)(v12:Int):LT rK ab:=
.len ax E1.Mods<|.br (decide (v12<(E1.Mods.length:Int))) (.idx ax E1.Mods v12 λx3=>.call (wz x3.Kind) λx5=>.br (x5==v2) (.ag ax x3 0<|.idx (cI .i64) v4 v11 λx8=>.call (ZnS E0 x3 v3 x8) λx10=>.g0 (.L0 v2 v3 v4 x10 E1 E2 (IntKind.wrap .i64 (v11+1)) (IntKind.wrap .i64 (v12+1))))<|.g0 (.L0 v2 v3 v4 E0 E1 E2 v11 (IntKind.wrap .i64 (v12+1))))<|.rt E0
def ME(a0:ab)(a1:bd)(a2:Int)(a3:Int)(a4:List Int):LT rK ab:=
.lb 1005<|.lb 1006<|.lb 1010<|.go (.L0 a2 a3 a4 a0 a1 (⟨([]:By),(⟨0,0,(⟨0,0,0,0,0⟩:A5 Int)⟩:aJ),0,(⟨0,0,([]:Bys)⟩:aK),0,0,0,([]:List an),0⟩:ab) 0 0) [.relab 1005 3000,.relab 1006 3001,.relab 1010 3002,.ownb 3002 11 40211 1,.ownb 3002 15 40215 72]
def As:LF rK ab :=.m0 117 [.c 10 66 true 17] (λr=>(wA (ao r))) λ|.L0 v2 v3 v4 E0 E1 E2 v11 v12=>([1,1,0,1,4],⟨44,[(2,wI v2),(3,wI v3),(4,wL (cI .i64) v4),(5,.bptr 3000 0),(6,.bptr 3001 0),(10,.bptr 3002 0),(11,wI v11),(12,wI v12)],[(3000,.box (bx (ao E0))),(3001,.box (bx (bI E1))),(3002,.box (tm2 E2 40200)),(40211,wR cS 1 E2.Line.Subs),(40215,wR aC 72 E2.Abilities)]⟩,Z6z v2 v3 v4 E0 E1 E2 v11 v12)
def MD:=λa0 a1 a2 a3 a4=>As.run (ME a0 a1 a2 a3 a4)
def ZnT(a0)(a1)(a2)(a3)(a4){r}(h:MD a0 a1 a2 a3 a4=some r):Fn PR 117 [wA (ao a0),wA (bI a1),wI a2,wI a3,wL (cI .i64) a4] (wA (ao r)):=As.fn h
inductive rL where
 |L0 (v1:Int) (E0:bd) (v5:Int)
def MI(v1:Int)(E0:bd)(v5:Int):LT rL Bool:=
.len ax E0.Mods<|.br (decide (v5<(E0.Mods.length:Int))) (.idx ax E0.Mods v5 λx3=>.cs (x3.Kind==10) (.k4 1<|.ag ax x3 0<|.k3 1<|.call (wz x3.Kind) λx6=>.k3 1<|.br (x6==v1) (.rt true)<|.g0 (.L0 v1 E0 (IntKind.wrap .i64 (v5+1))))<|.k8 1<|.k2 1<|.kn [0]<|.g0 (.L0 v1 E0 (IntKind.wrap .i64 (v5+1))))<|.rt false
def MG(a0:bd)(a1:Int):LT rL Bool:=
.lb 1002<|.go (.L0 a1 a0 0) [.relab 1002 3000]
def Z8j:LF rL Bool :=.m0 118 [.t 4] wB λ|.L0 v1 E0 v5=>([1,0,1,4],⟨31,[(1,wI v1),(2,.bptr 3000 0),(5,wI v5)],[(3000,.box (bx (bI E0)))]⟩,MI v1 E0 v5)
def MF:=λa0 a1=>Z8j.run (MG a0 a1)
def ZnU(a0)(a1){r}(h:MF a0 a1=some r):Fn PR 118 [wA (bI a0),wI a1] (wB r):=Z8j.fn h
inductive rM where
 |L0 (v1:Int) (v2:Int) (E0:au) (E1:au) (v7:List Int) (v8:List Int) (v9:Int) (E2:au) (v11:Int)
def MQ(v1:Int)(v2:Int)(E0:au)(E1:au)(v7:List Int)(v8:List Int)(v9:Int)(E2:au)(v11:Int):LT rM au:=
.len aH E0.S.Objects<|.br (decide (v11<(E0.S.Objects.length:Int))) (.idx aH E0.S.Objects v11 λx3=>.call (PC v7 x3.Id) λx5=>.br (!x5) (.g0 (.L0 v1 v2 E0 E1 v7 v8 v9 E2 (IntKind.wrap .i64 (v11+1))))<|.idx ao E0.All v11 λx10=>.idx bI E0.L v1 λx12=>.call (ZnT x10 x12 v2 v9 v8) λx14=>.idxR ao E2.All v11 λx16=>.setD ao E2.All v11 x16 x14 11 0 (tm10 x14) rfl λx18=>.dr [.ahead 101,.relen 40219,.stop]<|.us [12]<|.us [12]<|.us [12]<|.ag bI x12 6<|.call (ZnU x12 v2) λx20=>.br x20 (.idxR cB E2.Blank v11 λx23=>.setR cB E2.Blank v11 x23 true 17 0 [.bool true] rfl λx25=>.dr [.ahead 71,.relen 40223,.stop]<|.us [18]<|.us [18]<|.us [18]<|.g0 (.L0 v1 v2 E0 E1 v7 v8 v9 (⟨E2.S,x18,E2.L,E2.Begun,E2.Sets,x25⟩:au) (IntKind.wrap .i64 (v11+1))))<|.g0 (.L0 v1 v2 E0 E1 v7 v8 v9 (⟨E2.S,x18,E2.L,E2.Begun,E2.Sets,E2.Blank⟩:au) (IntKind.wrap .i64 (v11+1))))<|.rl ao E2.All<|.rl cB E2.Begun<|.rl (cL (cI .i64)) E2.Sets<|.rl cB E2.Blank<|.rt E2
def MP(a0:au)(a1:Int)(a2:Int):LT rM au:=
.lb 1003<|.lb 1006<|.call (wC a0 a1) λx1=>.br (!x1) (.rt a0)<|.call (B0 a0 a1) λx4=>.call (B4 a0 a1 a2) λx6=>.call (Z2i a0 a1) λx8=>.lb 1010<|.apN ao 1036 176 a0.All λx10=>.apN cB 1042 1 a0.Begun λx13=>.apN (cL (cI .i64)) 1048 24 a0.Sets λx16=>.apN cB 1054 1 a0.Blank λx19=>.idxR cB x13 a1 λx22=>.setR cB x13 a1 x22 true 2 0 [.bool true] rfl λx24=>.dr [.ahead 60,.relen 1042,.stop]<|.us [3]<|.us [3]<|.us [3]<|.us [3]<|.idxR (cL (cI .i64)) x16 a1 λx26=>.setR (cL (cI .i64)) x16 a1 x26 x4 6 0 [.sl (List.map (cI .i64) x4)] rfl λx28=>.dr [.ahead 11,.relen 1048,.stop]<|.us [7]<|.us [7]<|.us [7]<|.us [7]<|.go (.L0 a1 a2 a0 (⟨(⟨([]:List hY),([]:List aj),([]:List Int),([]:List Int),([]:List gI),([]:List iG),([]:List du),0,0,0,false,0,0,0,0,0,([]:List Int),0,0⟩:av),([]:List ab),([]:List bd),([]:List Bool),([]:List (List Int)),([]:List Bool)⟩:au) x4 x6 x8 (⟨a0.S,x10,a0.L,x24,x28,x19⟩:au) 0) [.relab 1003 3000,.relab 1006 3001,.relab 1010 3002,.ownb 3001 0 40100 14,.ownb 3001 1 40101 19,.ownb 3001 2 40102 1,.ownb 3001 3 40103 1,.ownb 3001 4 40104 94,.ownb 3001 5 40105 89,.ownb 3001 6 40106 6,.ownb 3001 16 40116 1,.ownb 3001 19 40119 17,.ownb 3001 20 40120 23,.ownb 3001 21 40121 1,.ownb 3001 22 40122 1,.ownb 3001 23 40123 1,.relab 1036 40219,.relab 1042 40221,.relab 1048 40222,.relab 1054 40223]
def Z0v:LF rM au :=.m0 62 [.c 6 103 true 24] (λr=>(wA (dF r))) λ|.L0 v1 v2 E0 E1 v7 v8 v9 E2 v11=>([1,1,1,1,1,1,1,1,1,1,1,1,0,1,4],⟨113,[(1,wI v1),(2,wI v2),(3,.bptr 3000 0),(6,.bptr 3001 0),(7,wL (cI .i64) v7),(8,wL (cI .i64) v8),(9,wI v9),(10,.bptr 3002 0),(11,wI v11)],((3000,.box (bx (dF E0)))::(3001,.box (tm4 E1 40100))::(40100,wR cZ 14 E1.S.Players)::(40101,wR aH 19 E1.S.Objects)::(40102,wR (cI .i64) 1 E1.S.Battlefield)::(40103,wR (cI .i64) 1 E1.S.Exile)::(40104,wR cV 94 E1.S.Stack)::(40105,wR dE 89 E1.S.Waiting)::(40106,wR c6 6 E1.S.Conts)::(40116,wR (cI .i64) 1 E1.S.Extra)::(40119,wR ao 17 E1.All)::(40120,wR bI 23 E1.L)::(40121,wR cB 1 E1.Begun)::(40122,wR (cL (cI .i64)) 1 E1.Sets)::(40123,wR cB 1 E1.Blank)::(3002,.box (tm6 E2 40200))::(tm18 E2 40200))⟩,MQ v1 v2 E0 E1 v7 v8 v9 E2 v11)
def MO:=λa0 a1 a2=>Z0v.run (MP a0 a1 a2)
def P7(a0)(a1)(a2){r}(h:MO a0 a1 a2=some r):Fn PR 62 [wA (dF a0),wI a1,wI a2] (wA (dF r)):=Z0v.fn h
def MS(a0:au)(a1:Int)(a2:Int)(a3:Int):LT Empty Bool:=
.lb 1004<|.br (a1==a2) (.rt false)<|.call (P7 a0 a2 a3) λx2=>.lb 1009<|.call (wC a0 a1) λx4=>.call (wC x2 a1) λx6=>.cs (!(x4==x6)) (.k8 1<|.kg 1<|.b8 true<|.b3 true<|.rt true)<|.k3 1<|.call (B0 a0 a1) λx9=>.k3 1<|.call (B0 x2 a1) λx11=>.kg 1<|.call (P8 x9 x11) λx13=>.k2 1<|.cs (!x13) (.k8 2<|.k3 2<|.rt true)<|.k4 2<|.call (B4 a0 a1 a3) λx16=>.k4 2<|.call (B4 x2 a1 a3) λx18=>.kg 2<|.call (P8 x16 x18) λx20=>.k2 2<|.rt (!x20)
def P9:LF Empty Bool :=.z0 110 [.t 8] wB
def MR:=λa0 a1 a2 a3=>P9.run (MS a0 a1 a2 a3)
def ZnV(a0)(a1)(a2)(a3){r}(h:MR a0 a1 a2 a3=some r):Fn PR 110 [wA (dF a0),wI a1,wI a2,wI a3] (wB r):=P9.fn h
inductive rN where
 |L0 (v0:List Int) (v1:Int) (v5:Int)
def MX(v0:List Int)(v1:Int)(v5:Int):LT rN Bool:=
.len (cI .i64) v0<|.br (decide (v5<(v0.length:Int))) (.idx (cI .i64) v0 v5 λx3=>.br (x3==v1) (.rt true)<|.g0 (.L0 v0 v1 (IntKind.wrap .i64 (v5+1))))<|.rt false
def MV(a0:List Int)(a1:Int):LT rN Bool:=
.g0 (.L0 a0 a1 0)
def Au:LF rN Bool :=.m0 210 [.t 4] wB λ|.L0 v0 v1 v5=>([1,0,1,4],⟨18,[(0,wL (cI .i64) v0),(1,wI v1),(5,wI v5)],[]⟩,MX v0 v1 v5)
def MU:=λa0 a1=>Au.run (MV a0 a1)
def B5(a0)(a1){r}(h:MU a0 a1=some r):Fn PR 210 [wL (cI .i64) a0,wI a1] (wB r):=Au.fn h
inductive rO where
 |L0 (v0:List Int) (v3:List Int) (v4:Int)
def Z60(v0:List Int)(v3:List Int)(v4:Int):LT rO (List Int):=
.len (cI .i64) v0<|.br (decide (v4<(v0.length:Int))) (.idx (cI .i64) v0 v4 λx3=>.cs (decide (x3>=0)) (.k4 1<|.ag (cI .i64) x3 0<|.k2 1<|.rl (cI .i64) v3<|.call (B5 v3 x3) λx6=>.k2 1<|.br (!x6) (.ag (cI .i64) x3 0<|.dr [.lit]<|.apR (cI .i64) 8 v3 [x3] λx9=>.g0 (.L0 v0 x9 (IntKind.wrap .i64 (v4+1))))<|.g0 (.L0 v0 v3 (IntKind.wrap .i64 (v4+1))))<|.k8 1<|.kn [0]<|.g0 (.L0 v0 v3 (IntKind.wrap .i64 (v4+1))))<|.ret v3 [.relab 20003 5000]
def MZ(a0:List Int):LT rO (List Int):=
.go (.L0 a0 ([]:List Int) 0) [.own 3 20003 1]
def Aw:LF rO (List Int) :=.m 208 [.t 2] true (λr=>[(5000,wR (cI .i64) 1 r)]) (λr=>(wO (cI .i64) 5000 r)) λ|.L0 v0 v3 v4=>([1,1,0,1,4],⟨33,[(0,wL (cI .i64) v0),(3,wO (cI .i64) 20003 v3),(4,wI v4)],[(20003,wR (cI .i64) 1 v3)]⟩,Z60 v0 v3 v4)
def Z4a:=λa0=>Aw.run (MZ a0)
def ZnW(a0){r}(h:Z4a a0=some r):FnG PR 208 [] [wL (cI .i64) a0] [(5000,wR (cI .i64) 1 r)] (wO (cI .i64) 5000 r):=Aw.fn h
def ZnX(a0:List Int){r:List Int}(h:Z4a a0=some r):Fn PR 208 [wL (cI .i64) a0] (wL (cI .i64) r):=FnG.frozen (C:=LT.RL (cI .i64) r/\True) (ZnW a0 h) ⟨rfl,ae⟩ bD
def M3(a0:List (List Bool))(a1:Int)(a2:Int):LT Empty Bool:=
.len (cL cB) a0<|.cs (decide (a1<(a0.length:Int))) (.k4 0<|.idx (cL cB) a0 a1 λx3=>.k2 0<|.len cB x3<|.k2 0<|.cs (decide (a2<(x3.length:Int))) (.k3 1<|.ag (cL cB) x3 0<|.k3 1<|.idx cB x3 a2 λx7=>.k2 1<|.rt x7)<|.k8 1<|.rt false)<|.k8 0<|.b8 false<|.rt false
def Qa:LF Empty Bool :=.z0 209 [.t 6] wB
def M1:=λa0 a1 a2=>Qa.run (M3 a0 a1 a2)
def Z8k(a0)(a1)(a2){r}(h:M1 a0 a1 a2=some r):Fn PR 209 [wL (cL cB) a0,wI a1,wI a2] (wB r):=Qa.fn h
inductive mg where
 |L0 (v0:List Int) (v1:List (List Bool)) (v2:Int) (v7:List Int) (v8:Int)
 |L1 (v0:List Int) (v1:List (List Bool)) (v7:List Int) (v9:Int)
 |L2 (v0:List Int) (v1:List (List Bool)) (v7:List Int) (v9:Int) (v10:Int)
def M7(v0:List Int)(v1:List (List Bool))(v2:Int)(v7:List Int)(v8:Int):LT mg (List Int):=
.len (cI .i64) v0<|.br (decide (v8<(v0.length:Int))) (.idx (cI .i64) v0 v8 λx3=>.call (Z8k v1 v2 x3) λx5=>.br x5 (.ag (cI .i64) x3 0<|.dr [.lit]<|.apR (cI .i64) 8 v7 [x3] λx8=>.g0 (.L0 v0 v1 v2 x8 (IntKind.wrap .i64 (v8+1))))<|.g0 (.L0 v0 v1 v2 v7 (IntKind.wrap .i64 (v8+1))))<|.g0 (.L1 v0 v1 v7 0)
def M9(v0:List Int)(v1:List (List Bool))(v7:List Int)(v9:Int):LT mg (List Int):=
.lenO (cI .i64) v7<|.br (decide (v9<(v7.length:Int))) (.g0 (.L2 v0 v1 v7 v9 0))<|.ret v7 [.relab 20007 5000]
def Nb(v0:List Int)(v1:List (List Bool))(v7:List Int)(v9:Int)(v10:Int):LT mg (List Int):=
.len (cI .i64) v0<|.br (decide (v10<(v0.length:Int))) (.idxR (cI .i64) v7 v9 λx3=>.ldR (cI .i64) v7 x3 2<|.idx (cI .i64) v0 v10 λx5=>.call (Z8k v1 x3 x5) λx7=>.cs x7 (.k4 1<|.ag (cI .i64) x5 3<|.k2 1<|.rl (cI .i64) v7<|.call (B5 v7 x5) λx10=>.k2 1<|.br (!x10) (.ag (cI .i64) x5 3<|.dr [.lit]<|.apR (cI .i64) 8 v7 [x5] λx13=>.g0 (.L2 v0 v1 x13 v9 (IntKind.wrap .i64 (v10+1))))<|.g0 (.L2 v0 v1 v7 v9 (IntKind.wrap .i64 (v10+1))))<|.k8 1<|.kn [0]<|.g0 (.L2 v0 v1 v7 v9 (IntKind.wrap .i64 (v10+1))))<|.g0 (.L1 v0 v1 v7 (IntKind.wrap .i64 (v9+1)))
def M5(a0:List Int)(a1:List (List Bool))(a2:Int):LT mg (List Int):=
.go (.L0 a0 a1 a2 ([]:List Int) 0) [.own 7 20007 1]
def rP:LF mg (List Int) :=.m 211 [.t 6] true (λr=>[(5000,wR (cI .i64) 1 r)]) (λr=>(wO (cI .i64) 5000 r)) λ|.L0 v0 v1 v2 v7 v8=>([1,1,0,1,4],⟨70,[(0,wL (cI .i64) v0),(1,wL (cL cB) v1),(2,wI v2),(7,wO (cI .i64) 20007 v7),(8,wI v8)],[(20007,wR (cI .i64) 1 v7)]⟩,M7 v0 v1 v2 v7 v8)|.L1 v0 v1 v7 v9=>([1,1,1,0,1,4],⟨70,[(0,wL (cI .i64) v0),(1,wL (cL cB) v1),(7,wO (cI .i64) 20007 v7),(9,wI v9)],[(20007,wR (cI .i64) 1 v7)]⟩,M9 v0 v1 v7 v9)|.L2 v0 v1 v7 v9 v10=>([1,1,1,0,1,4,5,1,0,4,1,4],⟨70,[(0,wL (cI .i64) v0),(1,wL (cL cB) v1),(7,wO (cI .i64) 20007 v7),(9,wI v9),(10,wI v10)],[(20007,wR (cI .i64) 1 v7)]⟩,Nb v0 v1 v7 v9 v10)
def Z8l:=λa0 a1 a2=>rP.run (M5 a0 a1 a2)
def ZnY(a0)(a1)(a2){r}(h:Z8l a0 a1 a2=some r):FnG PR 211 [] [wL (cI .i64) a0,wL (cL cB) a1,wI a2] [(5000,wR (cI .i64) 1 r)] (wO (cI .i64) 5000 r):=rP.fn h
def ZnZ(a0:List Int)(a1:List (List Bool))(a2:Int){r:List Int}(h:Z8l a0 a1 a2=some r):Fn PR 211 [wL (cI .i64) a0,wL (cL cB) a1,wI a2] (wL (cI .i64) r):=FnG.frozen (C:=LT.RL (cI .i64) r/\True) (ZnY a0 a1 a2 h) ⟨rfl,ae⟩ bD
inductive oo where
 |L0 (v1:List (List Bool)) (v5:List Int) (v6:List Int) (v7:Int)
 |L1 (v1:List (List Bool)) (v5:List Int) (v6:List Int) (v7:Int) (v8:Bool) (v9:Int)
def Nh(v1:List (List Bool))(v5:List Int)(v6:List Int)(v7:Int):LT oo (List Int):=
.len (cI .i64) v5<|.br (decide (v7<(v5.length:Int))) (.g0 (.L1 v1 v5 v6 v7 true 0))<|.ret v6 [.relab 20006 5000]
def Nj(v1:List (List Bool))(v5:List Int)(v6:List Int)(v7:Int)(v8:Bool)(v9:Int):LT oo (List Int):=
.len (cI .i64) v5<|.br (decide (v9<(v5.length:Int))) (.cs (v9 != v7) (.k4 1<|.idx (cI .i64) v5 v7 λx4=>.k4 1<|.idx (cI .i64) v5 v9 λx6=>.k2 1<|.call (Z8k v1 x4 x6) λx8=>.kg 1<|.cs x8 (.k5 2<|.ag (cI .i64) x6 3<|.k2 2<|.call (ZnZ v5 v1 x6) λx11=>.k3 2<|.ag (cI .i64) x4 0<|.k2 2<|.call (B5 x11 x4) λx13=>.k2 2<|.br (!x13) (.g0 (.L1 v1 v5 v6 v7 false (IntKind.wrap .i64 (v9+1))))<|.g0 (.L1 v1 v5 v6 v7 v8 (IntKind.wrap .i64 (v9+1))))<|.k8 2<|.k5 2<|.kg 2<|.kn [0]<|.g0 (.L1 v1 v5 v6 v7 v8 (IntKind.wrap .i64 (v9+1))))<|.k8 1<|.k3 1<|.b8 false<|.b5 false<|.kb false<|.kn [0]<|.g0 (.L1 v1 v5 v6 v7 v8 (IntKind.wrap .i64 (v9+1))))<|.br v8 (.idx (cI .i64) v5 v7 λx25=>.dr [.lit]<|.apR (cI .i64) 8 v6 [x25] λx27=>.g0 (.L0 v1 v5 x27 (IntKind.wrap .i64 (v7+1))))<|.g0 (.L0 v1 v5 v6 (IntKind.wrap .i64 (v7+1)))
def Ng(a0:List Int)(a1:List (List Bool)):LT oo (List Int):=
.call (ZnX a0) λx1=>.go (.L0 a1 x1 ([]:List Int) 0) [.own 6 20006 1]
def vA:LF oo (List Int) :=.m 161 [.t 4] true (λr=>[(5000,wR (cI .i64) 1 r)]) (λr=>(wO (cI .i64) 5000 r)) λ|.L0 v1 v5 v6 v7=>([1,1,1,0,1,4],⟨63,[(1,wL (cL cB) v1),(5,wL (cI .i64) v5),(6,wO (cI .i64) 20006 v6),(7,wI v7)],[(20006,wR (cI .i64) 1 v6)]⟩,Nh v1 v5 v6 v7)|.L1 v1 v5 v6 v7 v8 v9=>([1,1,1,0,1,4,5,1,0,4,1,0,1,4],⟨63,[(1,wL (cL cB) v1),(5,wL (cI .i64) v5),(6,wO (cI .i64) 20006 v6),(7,wI v7),(8,wB v8),(9,wI v9)],[(20006,wR (cI .i64) 1 v6)]⟩,Nj v1 v5 v6 v7 v8 v9)
def AA:=λa0 a1=>vA.run (Ng a0 a1)
def ZoA(a0)(a1){r}(h:AA a0 a1=some r):FnG PR 161 [] [wL (cI .i64) a0,wL (cL cB) a1] [(5000,wR (cI .i64) 1 r)] (wO (cI .i64) 5000 r):=vA.fn h
def ZoB(a0:List Int)(a1:List (List Bool)){r:List Int}(h:AA a0 a1=some r):Fn PR 161 [wL (cI .i64) a0,wL (cL cB) a1] (wL (cI .i64) r):=FnG.frozen (C:=LT.RL (cI .i64) r/\True) (ZoA a0 a1 h) ⟨rfl,ae⟩ bD
def Nl(a0:List Int)(a1:Int):LT Empty Int:=
.len (cI .i64) a0<|.br (decide (a1<(a0.length:Int))) (.idx (cI .i64) a0 a1 λx3=>.rt x3)<|.rt 0
def Qb:LF Empty Int :=.z0 162 [.t 4] wI
def Nk:=λa0 a1=>Qb.run (Nl a0 a1)
def Z4b(a0)(a1){r}(h:Nk a0 a1=some r):Fn PR 162 [wL (cI .i64) a0,wI a1] (wI r):=Qb.fn h
inductive rQ where
 |L0 (v1:List Int) (v7:List Int) (v8:Int) (v9:Int)
def Nq(v1:List Int)(v7:List Int)(v8:Int)(v9:Int):LT rQ Int:=
.len (cI .i64) v7<|.br (decide (v9<(v7.length:Int))) (.idx (cI .i64) v7 v9 λx3=>.call (Z4b v1 x3) λx5=>.cs (decide (v8<0)) (.k5 1<|.kg 1<|.b8 true<|.kn [0]<|.ag (cI .i64) x3 0<|.g0 (.L0 v1 v7 x3 (IntKind.wrap .i64 (v9+1))))<|.k4 1<|.call (Z4b v1 v8) λx10=>.k2 1<|.cs (decide (x5<x10)) (.k8 2<|.kn [0]<|.ag (cI .i64) x3 0<|.g0 (.L0 v1 v7 x3 (IntKind.wrap .i64 (v9+1))))<|.k4 2<|.call (Z4b v1 v8) λx15=>.k2 2<|.cs (x5==x15) (.k3 3<|.ag (cI .i64) x3 0<|.k3 3<|.kg 2<|.kg 3<|.kg 2<|.br (decide (x3<v8)) (.ag (cI .i64) x3 0<|.g0 (.L0 v1 v7 x3 (IntKind.wrap .i64 (v9+1))))<|.g0 (.L0 v1 v7 v8 (IntKind.wrap .i64 (v9+1))))<|.k5 3<|.kg 3<|.kg 2<|.kg 3<|.kg 2<|.kn [0]<|.g0 (.L0 v1 v7 v8 (IntKind.wrap .i64 (v9+1))))<|.rt v8
def No(a0:List Int)(a1:List Int)(a2:List (List Bool)):LT rQ Int:=
.call (ZoB a0 a2) λx1=>.g0 (.L0 a1 x1 (-1) 0)
def AC:LF rQ Int :=.m0 111 [.t 6] wI λ|.L0 v1 v7 v8 v9=>([1,1,1,0,1,4],⟨55,[(1,wL (cI .i64) v1),(7,wL (cI .i64) v7),(8,wI v8),(9,wI v9)],[]⟩,Nq v1 v7 v8 v9)
def Nn:=λa0 a1 a2=>AC.run (No a0 a1 a2)
def ZoC(a0)(a1)(a2){r}(h:Nn a0 a1 a2=some r):Fn PR 111 [wL (cI .i64) a0,wL (cI .i64) a1,wL (cL cB) a2] (wI r):=AC.fn h
inductive mh where
 |L0 (v1:List Int) (v2:Int) (E0:au) (v7:List Int) (v8:List (List Bool)) (v9:Int)
 |L1 (v1:List Int) (v2:Int) (E0:au) (v7:List Int) (v8:List (List Bool)) (v10:Int)
 |L2 (v1:List Int) (v2:Int) (E0:au) (v7:List Int) (v8:List (List Bool)) (v10:Int) (v11:Int)
def Nv(v1:List Int)(v2:Int)(E0:au)(v7:List Int)(v8:List (List Bool))(v9:Int):LT mh Int:=
.len bI E0.L<|.br (decide (v9<(E0.L.length:Int))) (.idx bI E0.L v9 λx3=>.dr [.lit]<|.apR (cI .i64) 8 v7 [x3.Stamp] λx5=>.len bI E0.L<|.mk cB 1034 1 false (E0.L.length:Int) (E0.L.length:Int) λx8=>.mkM cB 1035 1034 x8<|.apM cB 24 v8 x8 λx10=>.g0 (.L0 v1 v2 E0 x5 x10 (IntKind.wrap .i64 (v9+1))))<|.g0 (.L1 v1 v2 E0 v7 v8 0)
def Ny(v1:List Int)(v2:Int)(E0:au)(v7:List Int)(v8:List (List Bool))(v10:Int):LT mh Int:=
.len (cI .i64) v1<|.br (decide (v10<(v1.length:Int))) (.g0 (.L2 v1 v2 E0 v7 v8 v10 0))<|.rl (cI .i64) v7<|.rl (cL cB) v8<|.call (ZoC v1 v7 v8) λx3=>.rt x3
def Nz(v1:List Int)(v2:Int)(E0:au)(v7:List Int)(v8:List (List Bool))(v10:Int)(v11:Int):LT mh Int:=
.len (cI .i64) v1<|.br (decide (v11<(v1.length:Int))) (.idx (cI .i64) v1 v10 λx3=>.idM cB v8 x3 λx5=>.ldM cB v8 3<|.idx (cI .i64) v1 v11 λx7=>.ag (cI .i64) x3 0<|.ag (cI .i64) x7 5<|.call (ZnV E0 x3 x7 v2) λx9=>.idN cB v8 x5 x7 3 λx11=>.stM cB v8 x3 x5 x7 x9 3 8 λx13=>.dr [.ahead 47,.relen 20008,.stop]<|.us [10]<|.us [10]<|.g0 (.L2 v1 v2 E0 v7 x13 v10 (IntKind.wrap .i64 (v11+1))))<|.g0 (.L1 v1 v2 E0 v7 v8 (IntKind.wrap .i64 (v10+1)))
def Nt(a0:au)(a1:List Int)(a2:Int):LT mh Int:=
.lb 1003<|.lb 1012<|.m0 1013<|.go (.L0 a1 a2 a0 ([]:List Int) ([]:List (List Bool)) 0) [.relab 1003 3000,.relab 1012 20007,.relab 1013 20008]
def rT:LF mh Int :=.m0 61 [.t 6] wI λ|.L0 v1 v2 E0 v7 v8 v9=>([1,1,1,0,1,4],⟨76,[(1,wL (cI .i64) v1),(2,wI v2),(3,.bptr 3000 0),(7,wO (cI .i64) 20007 v7),(8,wM (cL cB) 20008 v8),(9,wI v9)],[(3000,.box (bx (dF E0))),(20007,wR (cI .i64) 1 v7),(20008,wT (cL cB) v8)]⟩,Nv v1 v2 E0 v7 v8 v9)|.L1 v1 v2 E0 v7 v8 v10=>([1,1,1,1,0,1,4],⟨76,[(1,wL (cI .i64) v1),(2,wI v2),(3,.bptr 3000 0),(7,wO (cI .i64) 20007 v7),(8,wM (cL cB) 20008 v8),(10,wI v10)],[(3000,.box (bx (dF E0))),(20007,wR (cI .i64) 1 v7),(20008,wT (cL cB) v8)]⟩,Ny v1 v2 E0 v7 v8 v10)|.L2 v1 v2 E0 v7 v8 v10 v11=>([1,1,1,1,0,1,4,5,1,0,4,1,4],⟨76,[(1,wL (cI .i64) v1),(2,wI v2),(3,.bptr 3000 0),(7,wO (cI .i64) 20007 v7),(8,wM (cL cB) 20008 v8),(10,wI v10),(11,wI v11)],[(3000,.box (bx (dF E0))),(20007,wR (cI .i64) 1 v7),(20008,wT (cL cB) v8)]⟩,Nz v1 v2 E0 v7 v8 v10 v11)
def Ns:=λa0 a1 a2=>rT.run (Nt a0 a1 a2)
def ZoD(a0)(a1)(a2){r}(h:Ns a0 a1 a2=some r):Fn PR 61 [wA (dF a0),wL (cI .i64) a1,wI a2] (wI r):=rT.fn h
inductive rU where
 |L0 (v0:List Int) (v1:Int) (v5:List Int) (v6:Int)
def ND(v0:List Int)(v1:Int)(v5:List Int)(v6:Int):LT rU (List Int):=
.len (cI .i64) v0<|.br (decide (v6<(v0.length:Int))) (.idx (cI .i64) v0 v6 λx3=>.br (x3 != v1) (.ag (cI .i64) x3 0<|.dr [.lit]<|.apR (cI .i64) 8 v5 [x3] λx6=>.g0 (.L0 v0 v1 x6 (IntKind.wrap .i64 (v6+1))))<|.g0 (.L0 v0 v1 v5 (IntKind.wrap .i64 (v6+1))))<|.ret v5 [.relab 20005 5000]
def NC(a0:List Int)(a1:Int):LT rU (List Int):=
.go (.L0 a0 a1 ([]:List Int) 0) [.own 5 20005 1]
def Z0w:LF rU (List Int) :=.m 63 [.t 4] true (λr=>[(5000,wR (cI .i64) 1 r)]) (λr=>(wO (cI .i64) 5000 r)) λ|.L0 v0 v1 v5 v6=>([1,1,0,1,4],⟨27,[(0,wL (cI .i64) v0),(1,wI v1),(5,wO (cI .i64) 20005 v5),(6,wI v6)],[(20005,wR (cI .i64) 1 v5)]⟩,ND v0 v1 v5 v6)
def NB:=λa0 a1=>Z0w.run (NC a0 a1)
def ZoE(a0)(a1){r}(h:NB a0 a1=some r):FnG PR 63 [] [wL (cI .i64) a0,wI a1] [(5000,wR (cI .i64) 1 r)] (wO (cI .i64) 5000 r):=Z0w.fn h
inductive ot where
 |L0 (v1:Int) (E0:au) (E1:au) (v6:List Int) (v7:Int)
 |L1 (v1:Int) (E0:au) (E1:au) (v6:List Int) (v8:List Int) (v9:Int) (v10:Int)
def NI(v1:Int)(E0:au)(E1:au)(v6:List Int)(v7:Int):LT ot (au×(List Int)):=
.len bI E0.L<|.br (decide (v7<(E0.L.length:Int))) (.idx bI E0.L v7 λx3=>.call (ZnG x3 v1) λx5=>.br x5 (.dr [.lit]<|.apR (cI .i64) 8 v6 [v7] λx8=>.g0 (.L0 v1 E0 E1 x8 (IntKind.wrap .i64 (v7+1))))<|.g0 (.L0 v1 E0 E1 v6 (IntKind.wrap .i64 (v7+1))))<|.lb 1035<|.lenO (cI .i64) v6<|.go (.L1 v1 E0 E1 v6 ([]:List Int) (v6.length:Int) 0) [.relab 1035 20008]
def NL(v1:Int)(E0:au)(E1:au)(v6:List Int)(v8:List Int)(v9:Int)(v10:Int):LT ot (au×(List Int)):=
.br (decide (v10<v9)) (.rl (cI .i64) v6<|.call (ZoD E0 v6 v1) λx2=>.dr [.lit]<|.apR (cI .i64) 8 v8 [x2] λx4=>.call (P7 E0 x2 v1) λx7=>.rl (cI .i64) v6<|.callS (ZoE v6 x2) 580000 (λ_=>⟨rfl,oy (cI .i64) (λ_=>rfl) _,ae⟩) λx9=>.go (.L1 v1 x7 E1 x9 x4 v9 (IntKind.wrap .i64 (v10+1))) [.pick [1,2,4,6,8,9,10] [585000,3000,20008,3001,40100,40101,40102,40103,40104,40105,40106,40116,40119,40120,40121,40122,40123],.relab 585000 20006])<|.ret (E0,v8) [.relab 20008 5100]
def NH(a0:au)(a1:Int):LT ot (au×(List Int)):=
.lb 1002<|.lb 1004<|.br (a1==7) (.callF (ZnF a0) 160000 λx2=>.lb 1016<|.rl ao x2.All<|.go (.L0 a1 x2 (⟨(⟨([]:List hY),([]:List aj),([]:List Int),([]:List Int),([]:List gI),([]:List iG),([]:List du),0,0,0,false,0,0,0,0,0,([]:List Int),0,0⟩:av),([]:List ab),([]:List bd),([]:List Bool),([]:List (List Int)),([]:List Bool)⟩:au) ([]:List Int) 0) [.relab 1002 3000,.relab 1004 3001,.relab 1016 20006,.frz 165019,.ownb 3001 0 40100 14,.ownb 3001 1 40101 19,.ownb 3001 2 40102 1,.ownb 3001 3 40103 1,.ownb 3001 4 40104 94,.ownb 3001 5 40105 89,.ownb 3001 6 40106 6,.ownb 3001 16 40116 1,.ownb 3001 19 40119 17,.ownb 3001 20 40120 23,.ownb 3001 21 40121 1,.ownb 3001 22 40122 1,.ownb 3001 23 40123 1])<|.lb 1016<|.go (.L0 a1 a0 (⟨(⟨([]:List hY),([]:List aj),([]:List Int),([]:List Int),([]:List gI),([]:List iG),([]:List du),0,0,0,false,0,0,0,0,0,([]:List Int),0,0⟩:av),([]:List ab),([]:List bd),([]:List Bool),([]:List (List Int)),([]:List Bool)⟩:au) ([]:List Int) 0) [.relab 1002 3000,.relab 1004 3001,.relab 1016 20006,.ownb 3001 0 40100 14,.ownb 3001 1 40101 19,.ownb 3001 2 40102 1,.ownb 3001 3 40103 1,.ownb 3001 4 40104 94,.ownb 3001 5 40105 89,.ownb 3001 6 40106 6,.ownb 3001 16 40116 1,.ownb 3001 19 40119 17,.ownb 3001 20 40120 23,.ownb 3001 21 40121 1,.ownb 3001 22 40122 1,.ownb 3001 23 40123 1]
def vD:LF ot (au×(List Int)) :=.m 37 [.c 4 103 true 24,.t 5] true (λr=>[(5100,wR (cI .i64) 1 r.2)]) (λr=>(.tup [wA (dF r.1),wO (cI .i64) 5100 r.2])) λ|.L0 v1 E0 E1 v6 v7=>([1,1,1,0,1,4],⟨60,[(1,wI v1),(2,.bptr 3000 0),(4,.bptr 3001 0),(6,wO (cI .i64) 20006 v6),(7,wI v7)],[(3000,.box (bx (dF E0))),(3001,.box (tm4 E1 40100)),(40100,wR cZ 14 E1.S.Players),(40101,wR aH 19 E1.S.Objects),(40102,wR (cI .i64) 1 E1.S.Battlefield),(40103,wR (cI .i64) 1 E1.S.Exile),(40104,wR cV 94 E1.S.Stack),(40105,wR dE 89 E1.S.Waiting),(40106,wR c6 6 E1.S.Conts),(40116,wR (cI .i64) 1 E1.S.Extra),(40119,wR ao 17 E1.All),(40120,wR bI 23 E1.L),(40121,wR cB 1 E1.Begun),(40122,wR (cL (cI .i64)) 1 E1.Sets),(40123,wR cB 1 E1.Blank),(20006,wR (cI .i64) 1 v6)]⟩,NI v1 E0 E1 v6 v7)|.L1 v1 E0 E1 v6 v8 v9 v10=>([1,1,1,1,1,1,0,1,4],⟨60,[(1,wI v1),(2,.bptr 3000 0),(4,.bptr 3001 0),(6,wO (cI .i64) 20006 v6),(8,wO (cI .i64) 20008 v8),(9,wI v9),(10,wI v10)],[(3000,.box (bx (dF E0))),(3001,.box (tm4 E1 40100)),(40100,wR cZ 14 E1.S.Players),(40101,wR aH 19 E1.S.Objects),(40102,wR (cI .i64) 1 E1.S.Battlefield),(40103,wR (cI .i64) 1 E1.S.Exile),(40104,wR cV 94 E1.S.Stack),(40105,wR dE 89 E1.S.Waiting),(40106,wR c6 6 E1.S.Conts),(40116,wR (cI .i64) 1 E1.S.Extra),(40119,wR ao 17 E1.All),(40120,wR bI 23 E1.L),(40121,wR cB 1 E1.Begun),(40122,wR (cL (cI .i64)) 1 E1.Sets),(40123,wR cB 1 E1.Blank),(20006,wR (cI .i64) 1 v6),(20008,wR (cI .i64) 1 v8)]⟩,NL v1 E0 E1 v6 v8 v9 v10)
def NG:=λa0 a1=>vD.run (NH a0 a1)
def ZoF(a0)(a1){r}(h:NG a0 a1=some r):FnG PR 37 [] [wA (dF a0),wI a1] [(5100,wR (cI .i64) 1 r.2)] (.tup [wA (dF r.1),wO (cI .i64) 5100 r.2]):=vD.fn h
inductive rV where
 |L0 (E0:au) (v6:Int)
def NT(E0:au)(v6:Int):LT rV (List ab):=
.br (decide (v6<=8)) (.callF (ZoF E0 v6) 180000 λx2=>.g0 (.L0 x2.1 (IntKind.wrap .i64 (v6+1))))<|.rt E0.All
def NQ(a0:List aq)(a1:av):LT rV (List ab):=
.lb 1003<|.callF (ZnC a0 a1) 100000 λx1=>.lb 1005<|.rl ao x1.All<|.rl cB x1.Begun<|.rl (cL (cI .i64)) x1.Sets<|.rl cB x1.Blank<|.go (.L0 x1 1) [.relab 1005 3000,.frz 105019,.frz 105021,.frz 105022,.frz 105023]
def AG:LF rV (List ab) :=.m0 18 [.t 4] (wL ao) λ|.L0 E0 v6=>([1,1,0,1,4],⟨22,[(5,.bptr 3000 0),(6,wI v6)],[(3000,.box (bx (dF E0)))]⟩,NT E0 v6)
def NP:=λa0 a1=>AG.run (NQ a0 a1)
def ZoG(a0)(a1){r}(h:NP a0 a1=some r):Fn PR 18 [wL Z0 a0,wA (Z6 a1)] (wL ao r):=AG.fn h
inductive rW where
 |L0 (v0:List af) (v1:List af) (v5:Int)
def NY(v0:List af)(v1:List af)(v5:Int):LT rW Bool:=
.len ax v0<|.br (decide (v5<(v0.length:Int))) (.idx ax v0 v5 λx3=>.idx ax v1 v5 λx5=>.br (!(Z9 (ax x3) (ax x5))) (.rt false)<|.g0 (.L0 v0 v1 (IntKind.wrap .i64 (v5+1))))<|.rt true
def NW(a0:List af)(a1:List af):LT rW Bool:=
.len ax a0<|.len ax a1<|.br ((a0.length:Int) != (a1.length:Int)) (.rt false)<|.g0 (.L0 a0 a1 0)
def AH:LF rW Bool :=.m0 65 [.t 4] wB λ|.L0 v0 v1 v5=>([1,1,0,1,4],⟨26,[(0,wL ax v0),(1,wL ax v1),(5,wI v5)],[]⟩,NY v0 v1 v5)
def NV:=λa0 a1=>AH.run (NW a0 a1)
def Qc(a0)(a1){r}(h:NV a0 a1=some r):Fn PR 65 [wL ax a0,wL ax a1] (wB r):=AH.fn h
def N0(a0:aX)(a1:aX):LT Empty Bool:=
.lb 1002<|.lb 1003<|.cs (a0.Op==a1.Op) (.k5 0<|.kg 0<|.cs (Z9 (fp a0.Ref) (fp a1.Ref)) (.k5 1<|.kg 1<|.cs (Z9 (de a0.Amount) (de a1.Amount)) (.k5 2<|.kg 2<|.cs (a0.Counter==a1.Counter) (.k5 3<|.kg 3<|.cs (a0.Zone==a1.Zone) (.k5 4<|.kg 4<|.cs (a0.Card==a1.Card) (.k5 5<|.kg 5<|.cs (Z9 (aU a0.Filter) (aU a1.Filter)) (.k5 6<|.kg 6<|.cs (Z9 ((cA6 (cI .i64)) a0.Pool) ((cA6 (cI .i64)) a1.Pool)) (.k5 7<|.call (Qc a0.Mods a1.Mods) λx9=>.kg 7<|.rt x9)<|.k5 7<|.kg 7<|.rt false)<|.k5 6<|.kg 6<|.b5 false<|.kb false<|.rt false)<|.k5 5<|.kg 5<|.b8 false<|.b4 false<|.rt false)<|.k5 4<|.kg 4<|.b16 false<|.b2 false<|.rt false)<|.k5 3<|.kg 3<|.b16 false<|.b8 false<|.rt false)<|.k5 2<|.kg 2<|.b16 false<|.b8 false<|.b5 false<|.kb false<|.rt false)<|.k5 1<|.kg 1<|.b16 false<|.b16 false<|.b4 false<|.rt false)<|.k5 0<|.kg 0<|.b16 false<|.b16 false<|.b8 false<|.b2 false<|.rt false
def Qd:LF Empty Bool :=.z0 66 [.t 4] wB
def NZ:=λa0 a1=>Qd.run (N0 a0 a1)
def ZoH(a0)(a1){r}(h:NZ a0 a1=some r):Fn PR 66 [wA (bc a0),wA (bc a1)] (wB r):=Qd.fn h
inductive ov where
 |L0 (E0:an) (E1:an) (v5:Int)
 |L1 (E0:an) (E1:an) (v6:Int)
def N3(E0:an)(E1:an)(v5:Int):LT ov Bool:=
.len bK E0.Specs<|.br (decide (v5<(E0.Specs.length:Int))) (.idx bK E0.Specs v5 λx3=>.idx bK E1.Specs v5 λx5=>.br (!(Z9 (bK x3) (bK x5))) (.rt false)<|.g0 (.L0 E0 E1 (IntKind.wrap .i64 (v5+1))))<|.g0 (.L1 E0 E1 0)
def N4(E0:an)(E1:an)(v6:Int):LT ov Bool:=
.len bc E0.Effects<|.br (decide (v6<(E0.Effects.length:Int))) (.idx bc E0.Effects v6 λx3=>.idx bc E1.Effects v6 λx5=>.call (ZoH x3 x5) λx7=>.br (!x7) (.rt false)<|.g0 (.L1 E0 E1 (IntKind.wrap .i64 (v6+1))))<|.rt true
def Z14(a0:an)(a1:an):LT ov Bool:=
.lb 1002<|.lb 1003<|.cs (a0.Kind != a1.Kind) (.k5 0<|.kg 0<|.b16 true<|.b16 true<|.b5 true<|.kn [0]<|.rt false)<|.k5 0<|.kg 0<|.cs (!(Z9 (aU a0.Filter) (aU a1.Filter))) (.k5 1<|.k2 1<|.b16 true<|.b8 true<|.b5 true<|.kb true<|.kn [0]<|.rt false)<|.k5 1<|.call (Qc a0.Mods a1.Mods) λx3=>.k2 1<|.cs (!x3) (.k5 2<|.kg 2<|.b16 true<|.b8 true<|.kn [0]<|.rt false)<|.k5 2<|.kg 2<|.cs (!(Z9 (gG a0.Price) (gG a1.Price))) (.k5 3<|.kg 3<|.b16 true<|.b2 true<|.kn [0]<|.rt false)<|.k5 3<|.kg 3<|.cs (!(a0.Slow==a1.Slow)) (.k5 4<|.kg 4<|.b8 true<|.b4 true<|.kn [0]<|.rt false)<|.k5 4<|.kg 4<|.cs (!(Z9 (gj a0.Trigger) (gj a1.Trigger))) (.k5 5<|.kg 5<|.b5 true<|.kb true<|.kn [0]<|.rt false)<|.k5 5<|.kg 5<|.cs (!(a0.May==a1.May)) (.k5 6<|.kg 6<|.kn [0]<|.rt false)<|.k5 6<|.kg 6<|.br (!(Z9 (fa a0.Replace) (fa a1.Replace))) (.rt false)<|.len bK a0.Specs<|.len bK a1.Specs<|.cs ((a0.Specs.length:Int) != (a1.Specs.length:Int)) (.k8 8<|.kn [0]<|.rt false)<|.k3 8<|.len bc a0.Effects<|.k3 8<|.len bc a1.Effects<|.k2 8<|.br ((a0.Effects.length:Int) != (a1.Effects.length:Int)) (.rt false)<|.go (.L0 a0 a1 0) [.relab 1002 3000,.relab 1003 3001]
def vE:LF ov Bool :=.m0 39 [.t 4] wB λ|.L0 E0 E1 v5=>([1,1,1,0,1,4],⟨115,[(2,.bptr 3000 0),(3,.bptr 3001 0),(5,wI v5)],[(3000,.box (bx (aC E0))),(3001,.box (bx (aC E1)))]⟩,N3 E0 E1 v5)|.L1 E0 E1 v6=>([1,1,1,1,0,1,4],⟨115,[(2,.bptr 3000 0),(3,.bptr 3001 0),(6,wI v6)],[(3000,.box (bx (aC E0))),(3001,.box (bx (aC E1)))]⟩,N4 E0 E1 v6)
def Z61:=λa0 a1=>vE.run (Z14 a0 a1)
def ZoI(a0)(a1){r}(h:Z61 a0 a1=some r):Fn PR 39 [wA (aC a0),wA (aC a1)] (wB r):=vE.fn h
inductive ow where
 |L0 (E0:ab) (E1:ab) (v5:Int)
 |L1 (E0:ab) (E1:ab) (v6:Int)
def N8(E0:ab)(E1:ab)(v5:Int):LT ow Bool:=
.len cS E0.Line.Subs<|.br (decide (v5<(E0.Line.Subs.length:Int))) (.idx cS E0.Line.Subs v5 λx3=>.idx cS E1.Line.Subs v5 λx5=>.br (!(x3==x5)) (.rt false)<|.g0 (.L0 E0 E1 (IntKind.wrap .i64 (v5+1))))<|.g0 (.L1 E0 E1 0)
def N9(E0:ab)(E1:ab)(v6:Int):LT ow Bool:=
.len aC E0.Abilities<|.br (decide (v6<(E0.Abilities.length:Int))) (.idx aC E0.Abilities v6 λx3=>.idx aC E1.Abilities v6 λx5=>.call (ZoI x3 x5) λx7=>.br (!x7) (.rt false)<|.g0 (.L1 E0 E1 (IntKind.wrap .i64 (v6+1))))<|.rt true
def N6(a0:ab)(a1:ab):LT ow Bool:=
.lb 1002<|.lb 1003<|.cs (!(a0.Name==a1.Name)) (.k5 0<|.kg 0<|.b16 true<|.b8 true<|.b5 true<|.kb true<|.kn [0]<|.rt false)<|.k5 0<|.kg 0<|.cs (!(Z9 (cc a0.Cost) (cc a1.Cost))) (.k5 1<|.kg 1<|.b16 true<|.b8 true<|.kn [0]<|.rt false)<|.k5 1<|.kg 1<|.cs (a0.Colors != a1.Colors) (.k5 2<|.kg 2<|.b16 true<|.b2 true<|.kn [0]<|.rt false)<|.k5 2<|.kg 2<|.cs (a0.Power != a1.Power) (.k5 3<|.kg 3<|.b8 true<|.b4 true<|.kn [0]<|.rt false)<|.k5 3<|.kg 3<|.cs (a0.Tough != a1.Tough) (.k5 4<|.kg 4<|.b5 true<|.kb true<|.kn [0]<|.rt false)<|.k5 4<|.kg 4<|.cs (a0.Keys != a1.Keys) (.k5 5<|.kg 5<|.kn [0]<|.rt false)<|.k5 5<|.kg 5<|.br (a0.Control != a1.Control) (.rt false)<|.cs (a0.Line.Super != a1.Line.Super) (.k8 7<|.b16 true<|.b2 true<|.kn [0]<|.rt false)<|.k8 7<|.cs (a0.Line.Types != a1.Line.Types) (.k8 8<|.k2 8<|.b8 true<|.kn [0]<|.rt false)<|.k4 8<|.len cS a0.Line.Subs<|.k4 8<|.len cS a1.Line.Subs<|.k2 8<|.cs ((a0.Line.Subs.length:Int) != (a1.Line.Subs.length:Int)) (.k8 9<|.kn [0]<|.rt false)<|.k3 9<|.len aC a0.Abilities<|.k3 9<|.len aC a1.Abilities<|.k2 9<|.br ((a0.Abilities.length:Int) != (a1.Abilities.length:Int)) (.rt false)<|.go (.L0 a0 a1 0) [.relab 1002 3000,.relab 1003 3001]
def Z2l:LF ow Bool :=.m0 21 [.t 4] wB λ|.L0 E0 E1 v5=>([1,1,1,0,1,4],⟨130,[(2,.bptr 3000 0),(3,.bptr 3001 0),(5,wI v5)],[(3000,.box (bx (ao E0))),(3001,.box (bx (ao E1)))]⟩,N8 E0 E1 v5)|.L1 E0 E1 v6=>([1,1,1,1,0,1,4],⟨130,[(2,.bptr 3000 0),(3,.bptr 3001 0),(6,wI v6)],[(3000,.box (bx (ao E0))),(3001,.box (bx (ao E1)))]⟩,N9 E0 E1 v6)
def N5:=λa0 a1=>Z2l.run (N6 a0 a1)
def ZoJ(a0)(a1){r}(h:N5 a0 a1=some r):Fn PR 21 [wA (ao a0),wA (ao a1)] (wB r):=Z2l.fn h
inductive rX where
 |L0 (v0:List ab) (v1:List ab) (v5:Int)
def Od(v0:List ab)(v1:List ab)(v5:Int):LT rX Bool:=
.len ao v0<|.br (decide (v5<(v0.length:Int))) (.idx ao v0 v5 λx3=>.idx ao v1 v5 λx5=>.call (ZoJ x3 x5) λx7=>.br (!x7) (.rt false)<|.g0 (.L0 v0 v1 (IntKind.wrap .i64 (v5+1))))<|.rt true
def Ob(a0:List ab)(a1:List ab):LT rX Bool:=
.len ao a0<|.len ao a1<|.br ((a0.length:Int) != (a1.length:Int)) (.rt false)<|.g0 (.L0 a0 a1 0)
def AL:LF rX Bool :=.m0 16 [.t 4] wB λ|.L0 v0 v1 v5=>([1,1,0,1,4],⟨27,[(0,wL ao v0),(1,wL ao v1),(5,wI v5)],[]⟩,Od v0 v1 v5)
def Oa:=λa0 a1=>AL.run (Ob a0 a1)
def ZoK(a0)(a1){r}(h:Oa a0 a1=some r):Fn PR 16 [wL ao a0,wL ao a1] (wB r):=AL.fn h
def Oe(a0:List aq)(a1:av):LT Empty Bool:=
.lb 1003<|.call (ZdV a0 a1) λx1=>.br (!x1) (.call (Qe) λx4=>.rt x4)<|.call (Qe) λx6=>.cs x6 (.k3 1<|.call (Qf a0 a1) λx9=>.k3 1<|.call (ZoG a0 a1) λx11=>.kg 1<|.call (ZoK x9 x11) λx13=>.kg 1<|.rt x13)<|.k8 1<|.rt false
def Qg:LF Empty Bool :=.z0 4 [.t 4] wB
def Z15:=λa0 a1=>Qg.run (Oe a0 a1)
def ZoL(a0)(a1){r}(h:Z15 a0 a1=some r):Fn PR 4 [wL Z0 a0,wA (Z6 a1)] (wB r):=Qg.fn h
end
end Go.PW
