import Derived.Test.YtchddhcajpagjaaGreatQDb
set_option linter.all false
set_option maxRecDepth 100000
namespace Go.PW
open Go.RowKit
noncomputable section
inductive rp where
 |L0 (v0:List an) (E0:ao) (E1:au) (E2:au) (v6:Int)
def KE(v0:List an)(E0:ao)(E1:au)(E2:au)(v6:Int):LT rp au:=
.len aE E0.Objects<|.br (decide (v6<(E0.Objects.length:Int))) (.idx aE E0.Objects v6 λx3=>.call (NY v0 x3) λx5=>.dr [.lit]<|.apR av 176 E2.All [x5] λx7=>.g0 (.L0 v0 E0 E1 (⟨E2.S,x7,E2.L,E2.Begun,E2.Sets,E2.Blank⟩:au) (IntKind.wrap .i64 (v6+1))))<|.len bH E2.L<|.mk cB 1034 1 false (E2.L.length:Int) (E2.L.length:Int) λx13=>.len bH E2.L<|.mk (cL (cI .i64)) 1039 24 [] (E2.L.length:Int) (E2.L.length:Int) λx15=>.len aE E0.Objects<|.mk cB 1044 1 false (E0.Objects.length:Int) (E0.Objects.length:Int) λx17=>.ret (⟨E2.S,E2.All,E2.L,x13,x15,x17⟩:au) [.relab 40219 5019,.relab 1034 5021,.relab 1039 5022,.relab 1044 5023]
def KB(a0:List an)(a1:ao):LT rp au:=
.lb 1003<|.lb 1004<|.call (Zc6 a0 a1) λx1=>.lb 1005<|.go (.L0 a0 a1 (⟨(⟨([]:List hP),([]:List aj),([]:List Int),([]:List Int),([]:List gE),([]:List iC),([]:List dn),0,0,0,false,0,0,0,0,0,([]:List Int),0,0⟩:ao),([]:List ae),([]:List ba),([]:List Bool),([]:List (List Int)),([]:List Bool)⟩:au) (⟨a1,([]:List ae),x1,([]:List Bool),([]:List (List Int)),([]:List Bool)⟩:au) 0) [.relab 1003 3000,.relab 1004 3001,.relab 1005 3002,.ownb 3001 0 40100 14,.ownb 3001 1 40101 19,.ownb 3001 2 40102 1,.ownb 3001 3 40103 1,.ownb 3001 4 40104 94,.ownb 3001 5 40105 89,.ownb 3001 6 40106 6,.ownb 3001 16 40116 1,.ownb 3001 19 40119 17,.ownb 3001 20 40120 23,.ownb 3001 21 40121 1,.ownb 3001 22 40122 1,.ownb 3001 23 40123 1,.ownb 3002 19 40219 17,.ownb 3002 21 40221 1,.ownb 3002 22 40222 1,.ownb 3002 23 40223 1]
def Z73:LF rp au :=.m 36 [.c 4 103 true 24] true (λr=>(tm18 r 5000)) (λr=>(.agg (tm6 r 5000))) λ|.L0 v0 E0 E1 E2 v6=>([1,1,0,1,4],⟨47,[(0,wL bf v0),(3,.bptr 3000 0),(4,.bptr 3001 0),(5,.bptr 3002 0),(6,wI v6)],((3000,.box (bx (Z1 E0)))::(3001,.box (tm4 E1 40100))::(40100,wR cY 14 E1.S.Players)::(40101,wR aE 19 E1.S.Objects)::(40102,wR (cI .i64) 1 E1.S.Battlefield)::(40103,wR (cI .i64) 1 E1.S.Exile)::(40104,wR cU 94 E1.S.Stack)::(40105,wR dC 89 E1.S.Waiting)::(40106,wR cZ 6 E1.S.Conts)::(40116,wR (cI .i64) 1 E1.S.Extra)::(40119,wR av 17 E1.All)::(40120,wR bH 23 E1.L)::(40121,wR cB 1 E1.Begun)::(40122,wR (cL (cI .i64)) 1 E1.Sets)::(40123,wR cB 1 E1.Blank)::(3002,.box (tm6 E2 40200))::(tm18 E2 40200))⟩,KE v0 E0 E1 E2 v6)
def KA:=λa0 a1=>Z73.run (KB a0 a1)
def Zc7(a0)(a1){r}(h:KA a0 a1=some r):FnG PR 36 [] [wL bf a0,wA (Z1 a1)] (tm18 r 5000) (.agg (tm6 r 5000)):=Z73.fn h
def Z74(a0:Int):LT Empty Int:=
.br (decide (a0>1000000)) (.rt 1000000)<|.br (decide (a0<(-1000000))) (.rt (-1000000))<|.rt a0
def NZ:LF Empty Int :=.z0 69 [.t 2] wI
def Z6o:=λa0=>NZ.run (Z74 a0)
def jf(a0){r}(h:Z6o a0=some r):Fn PR 69 [wI a0] (wI r):=NZ.fn h
def KG(a0:Int)(a1:Int):LT Empty Int:=
.call (jf a0) λx1=>.call (jf a1) λx3=>.call (jf (IntKind.wrap .i64 (x1-x3))) λx7=>.rt x7
def N0:LF Empty Int :=.z0 41 [.t 4] wI
def KF:=λa0 a1=>N0.run (KG a0 a1)
def Zc8(a0)(a1){r}(h:KF a0 a1=some r):Fn PR 41 [wI a0,wI a1] (wI r):=N0.fn h
def KI(a0:A3 Int):LT Empty Int:=
.lb 1001<|.idA (aa.int .i64) (A3.list a0) 0 (bx ((cA3 (cI .i64)) a0)) 0 3 λx1=>.ldC (aa.int .i64) 4 x1 0<|.idA (aa.int .i64) (A3.list a0) 1 (bx ((cA3 (cI .i64)) a0)) 0 3 λx3=>.ldC (aa.int .i64) 6 x3 1<|.call (Zc8 x1 x3) λx5=>.rt x5
def N1:LF Empty Int :=.z0 23 [.t 2] wI
def KH:=λa0=>N1.run (KI a0)
def Zc9(a0){r}(h:KH a0=some r):Fn PR 23 [wA ((cA3 (cI .i64)) a0)] (wI r):=N1.fn h
def zT(a0:Int)(a1:Int):LT Empty Int:=
.call (jf a0) λx1=>.call (jf a1) λx3=>.call (jf (IntKind.wrap .i64 (x1+x3))) λx7=>.rt x7
def N2:LF Empty Int :=.z0 108 [.t 4] wI
def va:=λa0 a1=>N2.run (zT a0 a1)
def mv(a0)(a1){r}(h:va a0 a1=some r):Fn PR 108 [wI a0,wI a1] (wI r):=N2.fn h
inductive rq where
 |L0 (E0:au) (E1:au) (E2:au) (v4:Int)
def KN(E0:au)(E1:au)(E2:au)(v4:Int):LT rq au:=
.len av E0.All<|.br (decide (v4<(E0.All.length:Int))) (.idx av E0.All v4 λx3=>.lb 1005<|.idx aE E0.S.Objects v4 λx5=>.lb 1006<|.cs (x5.Zone==0) (.k4 1<|.dc ((1:Int)≠0) rfl<|.kg 1<|.dc ((2:Int)≠0) rfl<|.k2 1<|.br ((Int.tmod (er .i64 x3.Line.Types 1) 2)==1) (.call (Zc9 x5.Counters) λx9=>.call (mv x3.Power x9) λx11=>.call (mv x3.Tough x9) λx13=>.dr [.lit]<|.apR av 176 E2.All [(⟨x3.Name,x3.Cost,x3.Colors,x3.Line,x11,x13,x3.Keys,x3.Abilities,x3.Control⟩:ae)] λx15=>.g0 (.L0 E0 E1 (⟨E2.S,x15,E2.L,E2.Begun,E2.Sets,E2.Blank⟩:au) (IntKind.wrap .i64 (v4+1))))<|.dr [.lit]<|.apR av 176 E2.All [x3] λx20=>.g0 (.L0 E0 E1 (⟨E2.S,x20,E2.L,E2.Begun,E2.Sets,E2.Blank⟩:au) (IntKind.wrap .i64 (v4+1))))<|.k5 1<|.k2 1<|.kn [0]<|.dr [.lit]<|.apR av 176 E2.All [x3] λx25=>.g0 (.L0 E0 E1 (⟨E2.S,x25,E2.L,E2.Begun,E2.Sets,E2.Blank⟩:au) (IntKind.wrap .i64 (v4+1))))<|.ret E2 [.relab 40219 5019]
def KM(a0:au):LT rq au:=
.lb 1001<|.lb 1002<|.lb 1003<|.go (.L0 a0 (⟨(⟨([]:List hP),([]:List aj),([]:List Int),([]:List Int),([]:List gE),([]:List iC),([]:List dn),0,0,0,false,0,0,0,0,0,([]:List Int),0,0⟩:ao),([]:List ae),([]:List ba),([]:List Bool),([]:List (List Int)),([]:List Bool)⟩:au) (⟨a0.S,([]:List ae),a0.L,a0.Begun,a0.Sets,a0.Blank⟩:au) 0) [.relab 1001 3000,.relab 1002 3001,.relab 1003 3002,.ownb 3001 0 40100 14,.ownb 3001 1 40101 19,.ownb 3001 2 40102 1,.ownb 3001 3 40103 1,.ownb 3001 4 40104 94,.ownb 3001 5 40105 89,.ownb 3001 6 40106 6,.ownb 3001 16 40116 1,.ownb 3001 19 40119 17,.ownb 3001 20 40120 23,.ownb 3001 21 40121 1,.ownb 3001 22 40122 1,.ownb 3001 23 40123 1,.ownb 3002 19 40219 17]
def Z0d:LF rq au :=.m 59 [.c 2 103 true 24] true (λr=>[(5019,wR av 17 r.All)]) (λr=>(.agg (tm8 r 5000))) λ|.L0 E0 E1 E2 v4=>([1,1,1,0,1,4],⟨59,[(1,.bptr 3000 0),(2,.bptr 3001 0),(3,.bptr 3002 0),(4,wI v4)],[(3000,.box (bx (dD E0))),(3001,.box (tm4 E1 40100)),(40100,wR cY 14 E1.S.Players),(40101,wR aE 19 E1.S.Objects),(40102,wR (cI .i64) 1 E1.S.Battlefield),(40103,wR (cI .i64) 1 E1.S.Exile),(40104,wR cU 94 E1.S.Stack),(40105,wR dC 89 E1.S.Waiting),(40106,wR cZ 6 E1.S.Conts),(40116,wR (cI .i64) 1 E1.S.Extra),(40119,wR av 17 E1.All),(40120,wR bH 23 E1.L),(40121,wR cB 1 E1.Begun),(40122,wR (cL (cI .i64)) 1 E1.Sets),(40123,wR cB 1 E1.Blank),(3002,.box (tm8 E2 40200)),(40219,wR av 17 E2.All)]⟩,KN E0 E1 E2 v4)
def KL:=λa0=>Z0d.run (KM a0)
def Zda(a0){r}(h:KL a0=some r):FnG PR 59 [] [wA (dD a0)] [(5019,wR av 17 r.All)] (.agg (tm8 r 5000)):=Z0d.fn h
inductive mc where
 |L0 (v3:Int) (v6:Bool)
 |L1 (v3:Int) (v11:Bool)
 |L2 (v3:Int) (v14:Bool)
def n8(v3:Int)(v14:Bool):LT mc Int:=
.br v14 (.rt 4)<|.br (v3==11) (.rt 5)<|.br (v3==12) (.rt 6)<|.br (v3==13) (.rt 7)<|.br (v3==14) (.rt 8)<|.rt 0
def rr(v3:Int)(v11:Bool):LT mc Int:=
.br v11 (.rt 3)<|.br (v3==8) (.j0 (.L2 v3 (v3==8)) (n8 v3 (v3==8)))<|.br (v3==9) (.j0 (.L2 v3 (v3==9)) (n8 v3 (v3==9)))<|.j0 (.L2 v3 (v3==10)) (n8 v3 (v3==10))
def me(v3:Int)(v6:Bool):LT mc Int:=
.br v6 (.rt 2)<|.br (v3==6) (.j0 (.L1 v3 (v3==6)) (rr v3 (v3==6)))<|.j0 (.L1 v3 (v3==7)) (rr v3 (v3==7))
def KQ(a0:Int):LT mc Int:=
.br (a0==1) (.rt 1)<|.br (a0==2) (.j0 (.L0 a0 (a0==2)) (me a0 (a0==2)))<|.br (a0==3) (.j0 (.L0 a0 (a0==3)) (me a0 (a0==3)))<|.br (a0==4) (.j0 (.L0 a0 (a0==4)) (me a0 (a0==4)))<|.j0 (.L0 a0 (a0==5)) (me a0 (a0==5))
def N3:LF mc Int :=.m0 109 [.t 2] wI λ|.L0 v3 v6=>([1,0,1,4,1,3,1],⟨26,[(3,wI v3),(6,wB v6)],[]⟩,me v3 v6)|.L1 v3 v11=>([1,0,1,4,1,3,1,3,1],⟨26,[(3,wI v3),(11,wB v11)],[]⟩,rr v3 v11)|.L2 v3 v14=>([1,0,1,4,1,3,1,3,1,3,1],⟨26,[(3,wI v3),(14,wB v14)],[]⟩,n8 v3 v14)
def KP:=λa0=>N3.run (KQ a0)
def vZ(a0){r}(h:KP a0=some r):Fn PR 109 [wI a0] (wI r):=N3.fn h
inductive ru where
 |L0 (v1:Int) (E0:ba) (v5:Int)
def KV(v1:Int)(E0:ba)(v5:Int):LT ru Bool:=
.len ay E0.Mods<|.br (decide (v5<(E0.Mods.length:Int))) (.idx ay E0.Mods v5 λx3=>.call (vZ x3.Kind) λx5=>.br (x5==v1) (.rt true)<|.g0 (.L0 v1 E0 (IntKind.wrap .i64 (v5+1))))<|.rt false
def KT(a0:ba)(a1:Int):LT ru Bool:=
.lb 1002<|.go (.L0 a1 a0 0) [.relab 1002 3000]
def Z0e:LF ru Bool :=.m0 60 [.t 4] wB λ|.L0 v1 E0 v5=>([1,0,1,4],⟨22,[(1,wI v1),(2,.bptr 3000 0),(5,wI v5)],[(3000,.box (bx (bH E0)))]⟩,KV v1 E0 v5)
def KS:=λa0 a1=>Z0e.run (KT a0 a1)
def Zdb(a0)(a1){r}(h:KS a0 a1=some r):Fn PR 60 [wA (bH a0),wI a1] (wB r):=Z0e.fn h
inductive rv where
 |L0 (v1:Int) (E0:ao) (v5:Int)
def K1(v1:Int)(E0:ao)(v5:Int):LT rv Int:=
.len aE E0.Objects<|.br (decide (v5<(E0.Objects.length:Int))) (.idx aE E0.Objects v5 λx3=>.br (x3.Id==v1) (.rt v5)<|.g0 (.L0 v1 E0 (IntKind.wrap .i64 (v5+1))))<|.rt (-1)
def KZ(a0:ao)(a1:Int):LT rv Int:=
.lb 1002<|.go (.L0 a1 a0 0) [.relab 1002 3000]
def Z75:LF rv Int :=.m0 163 [.t 4] wI λ|.L0 v1 E0 v5=>([1,0,1,4],⟨22,[(1,wI v1),(2,.bptr 3000 0),(5,wI v5)],[(3000,.box (bx (Z1 E0)))]⟩,K1 v1 E0 v5)
def KY:=λa0 a1=>Z75.run (KZ a0 a1)
def N4(a0)(a1){r}(h:KY a0 a1=some r):Fn PR 163 [wA (Z1 a0),wI a1] (wI r):=Z75.fn h
def K4(a0:au)(a1:Int):LT Empty Bool:=
.lb 1002<|.idx bH a0.L a1 λx1=>.cs x1.Fixed (.k5 0<|.kg 0<|.kn [0]<|.rt true)<|.k4 0<|.idx cB a0.Begun a1 λx4=>.k2 0<|.br x4 (.rt true)<|.ag bH x1 0<|.call (N4 a0.S x1.Source) λx7=>.cs (decide (x7<0)) (.k5 2<|.k2 2<|.rt true)<|.k4 2<|.idx cB a0.Blank x7 λx10=>.k3 2<|.rt (!x10)
def N5:LF Empty Bool :=.z0 112 [.t 4] wB
def K3:=λa0 a1=>N5.run (K4 a0 a1)
def wa(a0)(a1){r}(h:K3 a0 a1=some r):Fn PR 112 [wA (dD a0),wI a1] (wB r):=N5.fn h
inductive ry where
 |L0 (v0:List Int) (v1:Int) (v5:Int)
def K8(v0:List Int)(v1:Int)(v5:Int):LT ry Int:=
.len (cI .i64) v0<|.br (decide (v5<(v0.length:Int))) (.idx (cI .i64) v0 v5 λx3=>.br (x3==v1) (.rt v5)<|.g0 (.L0 v0 v1 (IntKind.wrap .i64 (v5+1))))<|.rt (-1)
def K6(a0:List Int)(a1:Int):LT ry Int:=
.g0 (.L0 a0 a1 0)
def Z76:LF ry Int :=.m0 166 [.t 4] wI λ|.L0 v0 v1 v5=>([1,0,1,4],⟨19,[(0,wL (cI .i64) v0),(1,wI v1),(5,wI v5)],[]⟩,K8 v0 v1 v5)
def K5:=λa0 a1=>Z76.run (K6 a0 a1)
def Zdc(a0)(a1){r}(h:K5 a0 a1=some r):Fn PR 166 [wL (cI .i64) a0,wI a1] (wI r):=Z76.fn h
def Lc(a0:List Int)(a1:Int):LT Empty Bool:=
.call (Zdc a0 a1) λx1=>.rt (decide (x1>=0))
def N6:LF Empty Bool :=.z0 116 [.t 4] wB
def Lb:=λa0 a1=>N6.run (Lc a0 a1)
def N7(a0)(a1){r}(h:Lb a0 a1=some r):Fn PR 116 [wL (cI .i64) a0,wI a1] (wB r):=N6.fn h
def Le(a0:au)(a1:Int):LT Empty Int:=
.lb 1002<|.idx bH a0.L a1 λx1=>.call (N4 a0.S x1.Source) λx3=>.ag bH x1 0<|.cs x1.Fixed (.k3 0<|.kn [0]<|.ag bH x1 0<|.rt x1.Control)<|.k3 0<|.br (decide (x3<0)) (.ag bH x1 0<|.rt x1.Control)<|.idx av a0.All x3 λx7=>.rt x7.Control
def N8:LF Empty Int :=.z0 115 [.t 4] wI
def Ld:=λa0 a1=>N8.run (Le a0 a1)
def Z15(a0)(a1){r}(h:Ld a0 a1=some r):Fn PR 115 [wA (dD a0),wI a1] (wI r):=N8.fn h
def N9(a0:Int)(a1:Int)(a2:Int):LT Empty Bool:=
.br (a2==1) (.rt (a0==a1))<|.cs (a2 != 2) (.k4 1<|.rt true)<|.k4 1<|.rt (a0 != a1)
def Oa:LF Empty Bool :=.z0 212 [.t 6] wB
def Bj:=λa0 a1 a2=>Oa.run (N9 a0 a1 a2)
def Zdd(a0)(a1)(a2){r}(h:Bj a0 a1 a2=some r):Fn PR 212 [wI a0,wI a1,wI a2] (wB r):=Oa.fn h
def Ob(a0:Int)(a1:Int)(a2:Int):LT Empty Bool:=
.br (a2==1) (.rt (a0==a1))<|.cs (a2 != 2) (.k4 1<|.rt true)<|.k4 1<|.rt (a0 != a1)
def Oc:LF Empty Bool :=.z0 213 [.t 6] wB
def Bk:=λa0 a1 a2=>Oc.run (Ob a0 a1 a2)
def Zde(a0)(a1)(a2){r}(h:Bk a0 a1 a2=some r):Fn PR 213 [wI a0,wI a1,wI a2] (wB r):=Oc.fn h
def Od(a0:Bool)(a1:Int):LT Empty Bool:=
.br (a1==1) (.rt a0)<|.cs (a1 != 2) (.k3 1<|.rt true)<|.k3 1<|.rt (!a0)
def Oe:LF Empty Bool :=.z0 214 [.t 4] wB
def Bl:=λa0 a1=>Oe.run (Od a0 a1)
def Zdf(a0)(a1){r}(h:Bl a0 a1=some r):Fn PR 214 [wB a0,wI a1] (wB r):=Oe.fn h
def Zdg(a0:Int)(a1:Int):LT Empty Bool:=
.rt ((aQ .and .i64 a0 a1) != 0)
def Of:LF Empty Bool :=.z0 215 [.t 4] wB
def Z77:=λa0 a1=>Of.run (Zdg a0 a1)
def mw(a0)(a1){r}(h:Z77 a0 a1=some r):Fn PR 215 [wI a0,wI a1] (wB r):=Of.fn h
def Og(a0:aI)(a1:By):LT Empty Bool:=
.lb 1002<|.call (Z2t a0.Subs a1) λx1=>.rt (decide (x1>=0))
def Oh:LF Empty Bool :=.z0 216 [.t 4] wB
def Z16:=λa0 a1=>Oh.run (Og a0 a1)
def Oi(a0)(a1){r}(h:Z16 a0 a1=some r):Fn PR 216 [wA (hH a0),wS a1] (wB r):=Oh.fn h
def Zdh(a0:Int)(a1:Int):LT Empty Bool:=
.rt ((aQ .and .i64 a0 a1)==a1)
def Oj:LF Empty Bool :=.z0 217 [.t 4] wB
def Ol:=λa0 a1=>Oj.run (Zdh a0 a1)
def Om(a0)(a1){r}(h:Ol a0 a1=some r):Fn PR 217 [wI a0,wI a1] (wB r):=Oj.fn h
def Oo(a0:ah)(a1:Int):LT Empty Bool:=
.lb 1002<|.br (a0.Kind==0) (.rt true)<|.br (a0.Kind==1) (.rt (decide (a1>=a0.N)))<|.br (a0.Kind==2) (.rt (decide (a1<=a0.N)))<|.br (a0.Kind==3) (.rt (a1==a0.N))<|.rt false
def Oq:LF Empty Bool :=.z0 255 [.t 4] wB
def Bm:=λa0 a1=>Oq.run (Oo a0 a1)
def r5(a0)(a1){r}(h:Bm a0 a1=some r):Fn PR 255 [wA (gd a0),wI a1] (wB r):=Oq.fn h
def Ot(a0:Int)(a1:Int):LT Empty Int:=
.call (jf a0) λx1=>.call (jf a1) λx3=>.call (jf (IntKind.wrap .i64 (x1*x3))) λx7=>.rt x7
def Ou:LF Empty Int :=.z0 266 [.t 4] wI
def Bn:=λa0 a1=>Ou.run (Ot a0 a1)
def Ov(a0)(a1){r}(h:Bn a0 a1=some r):Fn PR 266 [wI a0,wI a1] (wI r):=Ou.fn h
inductive Z78 where
 |L0 (v1:Int) (E0:aK) (v5:Int) (v6:Int)
def r6(v1:Int)(E0:aK)(v5:Int)(v6:Int):LT Z78 Int:=
.br (decide (v6<5)) (.idA (aa.int .i64) (A5.list E0.Color) v6 (bx (cu E0)) 2 7 λx2=>.ldC (aa.int .i64) 20 x2 0<|.call (mv v5 x2) λx4=>.g0 (.L0 v1 E0 x4 (IntKind.wrap .i64 (v6+1))))<|.br (decide (v1<0)) (.call (Ov E0.X 0) λx9=>.call (mv v5 x9) λx11=>.rt x11)<|.call (Ov E0.X v1) λx13=>.call (mv v5 x13) λx15=>.rt x15
def Ow(a0:aK)(a1:Int):LT Z78 Int:=
.lb 1002<|.call (pC a0) λx1=>.br (!x1) (.rt 0)<|.go (.L0 a1 a0 a0.Generic 0) [.relab 1002 3000]
def wb:LF Z78 Int :=.m0 256 [.t 4] wI λ|.L0 v1 E0 v5 v6=>([1,1,1,0,1,4],⟨30,[(1,wI v1),(2,.bptr 3000 0),(5,wI v5),(6,wI v6)],[(3000,.box (bx (cu E0)))]⟩,r6 v1 E0 v5 v6)
def Bo:=λa0 a1=>wb.run (Ow a0 a1)
def Z3r(a0)(a1){r}(h:Bo a0 a1=some r):Fn PR 256 [wA (cu a0),wI a1] (wI r):=wb.fn h
inductive Z3s where
 |L0 (E0:ae) (E1:al) (v5:Bool)
def oD(E0:ae)(E1:al)(v5:Bool):LT Z3s Bool:=
.cs (E1.Tough.Kind != 0) (.k2 0<|.cs v5 (.k5 1<|.call (r5 E1.Tough E0.Tough) λx3=>.kg 0<|.kg 1<|.k2 0<|.br (!x3) (.rt false)<|.call (Z3r E0.Cost 0) λx6=>.call (r5 E1.Value x6) λx8=>.rt x8)<|.k5 1<|.kg 0<|.kg 1<|.k2 0<|.br (!false) (.rt false)<|.call (Z3r E0.Cost 0) λx11=>.call (r5 E1.Value x11) λx13=>.rt x13)<|.k5 0<|.kn [0]<|.call (Z3r E0.Cost 0) λx15=>.call (r5 E1.Value x15) λx17=>.rt x17
def Ox(a0:ae)(a1:al):LT Z3s Bool:=
.lb 1002<|.lb 1003<|.call (mw a0.Line.Types 1) λx1=>.cs (a1.Power.Kind != 0) (.k2 0<|.cs x1 (.k5 1<|.call (r5 a1.Power a0.Power) λx5=>.kg 0<|.kg 1<|.k2 0<|.br (!x5) (.rt false)<|.jn 0 (.L0 a0 a1 x1) [.relab 1002 3000,.relab 1003 3001] (oD a0 a1 x1))<|.k5 1<|.kg 0<|.kg 1<|.k2 0<|.br (!false) (.rt false)<|.jn 0 (.L0 a0 a1 x1) [.relab 1002 3000,.relab 1003 3001] (oD a0 a1 x1))<|.k5 0<|.kn [0]<|.jn 0 (.L0 a0 a1 x1) [.relab 1002 3000,.relab 1003 3001] (oD a0 a1 x1)
def Z3t:LF Z3s Bool :=.m0 218 [.t 4] wB λ|.L0 E0 E1 v5=>([1,1,1],⟨46,[(2,.bptr 3000 0),(3,.bptr 3001 0),(5,wB v5)],[(3000,.box (bx (av E0))),(3001,.box (bx (aX E1)))]⟩,oD E0 E1 v5)
def Bp:=λa0 a1=>Z3t.run (Ox a0 a1)
def Oy(a0)(a1){r}(h:Bp a0 a1=some r):Fn PR 218 [wA (av a0),wA (aX a1)] (wB r):=Z3t.fn h
inductive wc where
 |L0 (E0:ae) (E1:al)
 |L1 (E0:ae) (E1:al)
def r7(E0:ae)(E1:al):LT wc Bool:=
.cs (!(E1.Sub==([]:By))) (.k5 0<|.call (Oi E0.Line E1.Sub) λx2=>.k2 0<|.cs (!x2) (.k5 1<|.k2 1<|.kn [0]<|.rt false)<|.k5 1<|.call (Om E0.Keys E1.Keys) λx5=>.k2 1<|.br (!x5) (.rt false)<|.call (Oy E0 E1) λx8=>.rt x8)<|.k5 0<|.k2 0<|.b5 false<|.call (Om E0.Keys E1.Keys) λx10=>.b2 false<|.br (!x10) (.rt false)<|.call (Oy E0 E1) λx13=>.rt x13
def r8(E0:ae)(E1:al):LT wc Bool:=
.cs (E1.Colors != 0) (.k5 0<|.call (mw E0.Colors E1.Colors) λx2=>.k2 0<|.cs (!x2) (.k5 1<|.kg 1<|.kn [0]<|.rt false)<|.k5 1<|.call (mw E0.Colors E1.NotColors) λx5=>.kg 1<|.br x5 (.rt false)<|.j0 (.L1 E0 E1) (r7 E0 E1))<|.k5 0<|.k2 0<|.b5 false<|.call (mw E0.Colors E1.NotColors) λx8=>.kb false<|.br x8 (.rt false)<|.j0 (.L1 E0 E1) (r7 E0 E1)
def Oz(a0:aj)(a1:ae)(a2:Int)(a3:Int)(a4:al):LT wc Bool:=
.lb 1005<|.lb 1006<|.lb 1009<|.call (iA a4) λx1=>.cs (!x1) (.k5 0<|.kg 0<|.b16 true<|.b5 true<|.b2 true<|.kn [0]<|.rt false)<|.k5 0<|.kg 0<|.cs (a0.Zone != a4.Zone) (.k8 1<|.b8 true<|.b5 true<|.b2 true<|.kn [0]<|.rt false)<|.k5 1<|.kg 1<|.call (Zdd a1.Control a2 a4.Who) λx5=>.k2 1<|.cs (!x5) (.k8 2<|.b5 true<|.b2 true<|.kn [0]<|.rt false)<|.k5 2<|.kg 2<|.call (Zde a0.Id a3 a4.Self) λx8=>.k2 2<|.cs (!x8) (.k5 3<|.k2 3<|.kn [0]<|.rt false)<|.k5 3<|.call (Zdf a0.Tapped a4.Tap) λx11=>.k2 3<|.br (!x11) (.rt false)<|.cs (a4.Types != 0) (.k5 5<|.kg 5<|.call (mw a1.Line.Types a4.Types) λx15=>.k2 5<|.cs (!x15) (.k5 6<|.k2 6<|.kn [0]<|.rt false)<|.k5 6<|.kg 6<|.call (mw a1.Line.Types a4.NotTypes) λx18=>.kg 6<|.br x18 (.rt false)<|.jn 0 (.L0 a1 a4) [.relab 1006 3000,.relab 1009 3001] (r8 a1 a4))<|.k8 5<|.b5 false<|.kb false<|.call (mw a1.Line.Types a4.NotTypes) λx21=>.kb false<|.br x21 (.rt false)<|.jn 0 (.L0 a1 a4) [.relab 1006 3000,.relab 1009 3001] (r8 a1 a4)
def wg:LF wc Bool :=.m0 164 [.t 10] wB λ|.L0 E0 E1=>([1,1,1],⟨107,[(6,.bptr 3000 0),(9,.bptr 3001 0)],[(3000,.box (bx (av E0))),(3001,.box (bx (aX E1)))]⟩,r8 E0 E1)|.L1 E0 E1=>([1,1,1,1],⟨107,[(6,.bptr 3000 0),(9,.bptr 3001 0)],[(3000,.box (bx (av E0))),(3001,.box (bx (aX E1)))]⟩,r7 E0 E1)
def Z17:=λa0 a1 a2 a3 a4=>wg.run (Oz a0 a1 a2 a3 a4)
def Z0f(a0)(a1)(a2)(a3)(a4){r}(h:Z17 a0 a1 a2 a3 a4=some r):Fn PR 164 [wA (aE a0),wA (av a1),wI a2,wI a3,wA (aX a4)] (wB r):=wg.fn h
inductive rz where
 |L0 (v1:Int) (E0:au) (v5:List Int) (E1:ba) (v7:Int)
def Ln(v1:Int)(E0:au)(v5:List Int)(E1:ba)(v7:Int):LT rz (List Int):=
.len aE E0.S.Objects<|.br (decide (v7<(E0.S.Objects.length:Int))) (.idx aE E0.S.Objects v7 λx3=>.lb 1008<|.br (x3.Zone != 0) (.g0 (.L0 v1 E0 v5 E1 (IntKind.wrap .i64 (v7+1))))<|.cs E1.Fixed (.k5 2<|.call (N7 E1.Objects x3.Id) λx9=>.kg 2<|.cs x9 (.k5 3<|.kg 3<|.kn [0]<|.dr [.lit]<|.apR (cI .i64) 8 v5 [x3.Id] λx12=>.g0 (.L0 v1 E0 x12 E1 (IntKind.wrap .i64 (v7+1))))<|.k4 3<|.cs (!E1.Fixed) (.k5 4<|.idx av E0.All v7 λx18=>.k4 4<|.call (Z15 E0 v1) λx20=>.k5 4<|.call (Z0f x3 x18 x20 E1.Source E1.Filter) λx22=>.kg 3<|.kg 4<|.kg 3<|.br x22 (.dr [.lit]<|.apR (cI .i64) 8 v5 [x3.Id] λx25=>.g0 (.L0 v1 E0 x25 E1 (IntKind.wrap .i64 (v7+1))))<|.g0 (.L0 v1 E0 v5 E1 (IntKind.wrap .i64 (v7+1))))<|.k8 4<|.k5 4<|.kg 4<|.kg 3<|.kg 4<|.kg 3<|.kn [0]<|.g0 (.L0 v1 E0 v5 E1 (IntKind.wrap .i64 (v7+1))))<|.k5 2<|.kg 2<|.b4 false<|.cs (!E1.Fixed) (.k5 3<|.idx av E0.All v7 λx35=>.k4 3<|.call (Z15 E0 v1) λx37=>.k5 3<|.call (Z0f x3 x35 x37 E1.Source E1.Filter) λx39=>.kb false<|.kg 3<|.kb false<|.br x39 (.dr [.lit]<|.apR (cI .i64) 8 v5 [x3.Id] λx42=>.g0 (.L0 v1 E0 x42 E1 (IntKind.wrap .i64 (v7+1))))<|.g0 (.L0 v1 E0 v5 E1 (IntKind.wrap .i64 (v7+1))))<|.k8 3<|.k5 3<|.kg 3<|.kb false<|.kg 3<|.kb false<|.kn [0]<|.g0 (.L0 v1 E0 v5 E1 (IntKind.wrap .i64 (v7+1))))<|.rl (cI .i64) v5<|.rt v5
def Lm(a0:au)(a1:Int):LT rz (List Int):=
.lb 1002<|.idx cB a0.Begun a1 λx1=>.br x1 (.idx (cL (cI .i64)) a0.Sets a1 λx4=>.rt x4)<|.lb 1019<|.call (wa a0 a1) λx6=>.br (!x6) (.rl (cI .i64) ([]:List Int)<|.rt ([]:List Int))<|.idx bH a0.L a1 λx9=>.lb 1006<|.go (.L0 a1 a0 ([]:List Int) x9 0) [.relab 1002 3000,.relab 1006 3001,.relab 1019 20005]
def Z0g:LF rz (List Int) :=.m0 113 [.t 4] (λr=>(wL (cI .i64) r)) λ|.L0 v1 E0 v5 E1 v7=>([1,1,1,1,1,0,1,4],⟨83,[(1,wI v1),(2,.bptr 3000 0),(5,wO (cI .i64) 20005 v5),(6,.bptr 3001 0),(7,wI v7)],[(3000,.box (bx (dD E0))),(20005,wR (cI .i64) 1 v5),(3001,.box (bx (bH E1)))]⟩,Ln v1 E0 v5 E1 v7)
def Ll:=λa0 a1=>Z0g.run (Lm a0 a1)
def Bq(a0)(a1){r}(h:Ll a0 a1=some r):Fn PR 113 [wA (dD a0),wI a1] (wL (cI .i64) r):=Z0g.fn h
def OA(a0:List ae)(a1:Int):LT Empty ae:=
.lb 1004<|.cs (decide (a1<0)) (.k5 0<|.kn [0]<|.rt (⟨([]:By),(⟨0,0,(⟨0,0,0,0,0⟩:A5 Int)⟩:aK),0,(⟨0,0,([]:Bys)⟩:aI),0,0,0,([]:List ar),0⟩:ae))<|.k3 0<|.len av a0<|.k2 0<|.br (decide (a1>=(a0.length:Int))) (.rt (⟨([]:By),(⟨0,0,(⟨0,0,0,0,0⟩:A5 Int)⟩:aK),0,(⟨0,0,([]:Bys)⟩:aI),0,0,0,([]:List ar),0⟩:ae))<|.idx av a0 a1 λx4=>.rt x4
def OB:LF Empty ae :=.z0 219 [.c 4 66 true 17] (λr=>(wA (av r)))
def Br:=λa0 a1=>OB.run (OA a0 a1)
def Zdi(a0)(a1){r}(h:Br a0 a1=some r):Fn PR 219 [wL av a0,wI a1] (wA (av r)):=OB.fn h
inductive Bs where
 |L0 (v1:List ae) (v2:Int) (v3:Int) (E0:ao) (E1:al) (v11:List Int) (v12:Int)
def r9(v1:List ae)(v2:Int)(v3:Int)(E0:ao)(E1:al)(v11:List Int)(v12:Int):LT Bs (List Int):=
.len aE E0.Objects<|.br (decide (v12<(E0.Objects.length:Int))) (.idx aE E0.Objects v12 λx3=>.call (Zdi v1 v12) λx5=>.call (Z0f x3 x5 v2 v3 E1) λx7=>.br x7 (.ag aE x3 0<|.dr [.lit]<|.apR (cI .i64) 8 v11 [x3.Id] λx10=>.g0 (.L0 v1 v2 v3 E0 E1 x10 (IntKind.wrap .i64 (v12+1))))<|.g0 (.L0 v1 v2 v3 E0 E1 v11 (IntKind.wrap .i64 (v12+1))))<|.ret v11 [.relab 20011 5000]
def OC(a0:ao)(a1:List ae)(a2:Int)(a3:Int)(a4:al):LT Bs (List Int):=
.lb 1005<|.lb 1009<|.go (.L0 a1 a2 a3 a0 a4 ([]:List Int) 0) [.relab 1005 3000,.relab 1009 3001,.own 11 20011 1]
def Bt:LF Bs (List Int) :=.m 165 [.t 10] true (λr=>[(5000,wR (cI .i64) 1 r)]) (λr=>(wO (cI .i64) 5000 r)) λ|.L0 v1 v2 v3 E0 E1 v11 v12=>([1,1,0,1,4],⟨42,[(1,wL av v1),(2,wI v2),(3,wI v3),(5,.bptr 3000 0),(9,.bptr 3001 0),(11,wO (cI .i64) 20011 v11),(12,wI v12)],[(3000,.box (bx (Z1 E0))),(3001,.box (bx (aX E1))),(20011,wR (cI .i64) 1 v11)]⟩,r9 v1 v2 v3 E0 E1 v11 v12)
def Z3u:=λa0 a1 a2 a3 a4=>Bt.run (OC a0 a1 a2 a3 a4)
def Zdj(a0)(a1)(a2)(a3)(a4){r}(h:Z3u a0 a1 a2 a3 a4=some r):FnG PR 165 [] [wA (Z1 a0),wL av a1,wI a2,wI a3,wA (aX a4)] [(5000,wR (cI .i64) 1 r)] (wO (cI .i64) 5000 r):=Bt.fn h
def Zdk(a0:ao)(a1:List ae)(a2:Int)(a3:Int)(a4:al){r:List Int}(h:Z3u a0 a1 a2 a3 a4=some r):Fn PR 165 [wA (Z1 a0),wL av a1,wI a2,wI a3,wA (aX a4)] (wL (cI .i64) r):=FnG.frozen (C:=LT.RL (cI .i64) r/\True) (Zdj a0 a1 a2 a3 a4 h) ⟨rfl,ab⟩ bp
inductive rB where
 |L0 (v1:Int) (v2:Int) (E0:au) (v7:List Int) (E1:ba) (v9:Int)
def Ls(v1:Int)(v2:Int)(E0:au)(v7:List Int)(E1:ba)(v9:Int):LT rB (List Int):=
.len ay E1.Mods<|.br (decide (v9<(E1.Mods.length:Int))) (.idx ay E1.Mods v9 λx3=>.call (vZ x3.Kind) λx5=>.br (x5 != v2) (.g0 (.L0 v1 v2 E0 v7 E1 (IntKind.wrap .i64 (v9+1))))<|.ag ay x3 0<|.br (x3.Kind==11) (.call (Z15 E0 v1) λx11=>.ag ay x3 0<|.call (Zdk E0.S E0.All x11 E1.Source x3.Filter) λx13=>.len (cI .i64) x13<|.dr [.lit]<|.apR (cI .i64) 8 v7 [(x13.length:Int)] λx16=>.g0 (.L0 v1 v2 E0 x16 E1 (IntKind.wrap .i64 (v9+1))))<|.dr [.lit]<|.apR (cI .i64) 8 v7 [0] λx21=>.g0 (.L0 v1 v2 E0 x21 E1 (IntKind.wrap .i64 (v9+1))))<|.ret v7 [.relab 20007 5000]
def Lr(a0:au)(a1:Int)(a2:Int):LT rB (List Int):=
.lb 1003<|.lb 1011<|.idx bH a0.L a1 λx1=>.lb 1008<|.go (.L0 a1 a2 a0 ([]:List Int) x1 0) [.relab 1003 3000,.relab 1008 3001,.relab 1011 20007]
def Z0h:LF rB (List Int) :=.m 114 [.t 6] true (λr=>[(5000,wR (cI .i64) 1 r)]) (λr=>(wO (cI .i64) 5000 r)) λ|.L0 v1 v2 E0 v7 E1 v9=>([1,1,1,0,1,4],⟨62,[(1,wI v1),(2,wI v2),(3,.bptr 3000 0),(7,wO (cI .i64) 20007 v7),(8,.bptr 3001 0),(9,wI v9)],[(3000,.box (bx (dD E0))),(20007,wR (cI .i64) 1 v7),(3001,.box (bx (bH E1)))]⟩,Ls v1 v2 E0 v7 E1 v9)
def Z79:=λa0 a1 a2=>Z0h.run (Lr a0 a1 a2)
def Zdl(a0)(a1)(a2){r}(h:Z79 a0 a1 a2=some r):FnG PR 114 [] [wA (dD a0),wI a1,wI a2] [(5000,wR (cI .i64) 1 r)] (wO (cI .i64) 5000 r):=Z0h.fn h
def Bu(a0:au)(a1:Int)(a2:Int){r:List Int}(h:Z79 a0 a1 a2=some r):Fn PR 114 [wA (dD a0),wI a1,wI a2] (wL (cI .i64) r):=FnG.frozen (C:=LT.RL (cI .i64) r/\True) (Zdl a0 a1 a2 h) ⟨rfl,ab⟩ bp
inductive oa where
 |L0 (v1:By) (E0:aI) (E1:aI) (v5:Bys) (v6:Int)
 |L1 (v1:By) (E0:aI) (E1:aI) (v5:Bys) (v6:Int)
def rC(v1:By)(E0:aI)(E1:aI)(v5:Bys)(v6:Int):LT oa aI:=
.lb 1045<|.dr [.ahead 48,.frz 20005,.stop]<|.rl cS v5<|.rl cS v5<|.sl cS v5 0 v6 λx1=>.apR cS 16 ([]:Bys) x1 λx4=>.dr [.lit]<|.apR cS 16 x4 [v1] λx7=>.slN cS v5 v6 λx10=>.apR cS 16 x7 x10 λx12=>.ret (⟨E0.Super,E0.Types,x12⟩:aI) [.relab 1045 5002]
def Lx(v1:By)(E0:aI)(E1:aI)(v5:Bys)(v6:Int):LT oa aI:=
.lenO cS v5<|.cs (decide (v6<(v5.length:Int))) (.k3 0<|.idxR cS v5 v6 λx2=>.kg 0<|.ldR cS v5 x2 2<|.k3 0<|.br (Op.bytesLess x2 v1) (.g0 (.L0 v1 E0 E1 v5 (IntKind.wrap .i64 (v6+1))))<|.j0 (.L1 v1 E0 E1 v5 v6) (rC v1 E0 E1 v5 v6))<|.k5 0<|.k2 0<|.kn [0]<|.j0 (.L1 v1 E0 E1 v5 v6) (rC v1 E0 E1 v5 v6)
def Lv(a0:aI)(a1:By):LT oa aI:=
.lb 1002<|.lb 1004<|.lb 1008<|.apR cS 16 ([]:Bys) a0.Subs λx1=>.call (uu a1) λx4=>.cs (!x4) (.k4 0<|.b4 true<|.kn [0]<|.ret (⟨a0.Super,a0.Types,x1⟩:aI) [.relab 1008 5002])<|.k3 0<|.call (Oi a0 a1) λx7=>.kg 0<|.cs x7 (.k4 1<|.kn [0]<|.ret (⟨a0.Super,a0.Types,x1⟩:aI) [.relab 1008 5002])<|.k2 1<|.lenO cS x1<|.k2 1<|.br (decide ((x1.length:Int)>=4)) (.ret (⟨a0.Super,a0.Types,x1⟩:aI) [.relab 1008 5002])<|.go (.L0 a1 a0 (⟨0,0,([]:Bys)⟩:aI) x1 0) [.relab 1002 3000,.relab 1004 3001,.relab 1008 20005,.ownb 3001 2 40102 1]
def Z3v:LF oa aI :=.m 220 [.c 4 63 true 3] true (λr=>[(5002,wR cS 1 r.Subs)]) (λr=>(.agg [wI r.Super,wI r.Types,wO cS 5002 r.Subs])) λ|.L0 v1 E0 E1 v5 v6=>([1,1,1,1,0,4],⟨64,[(1,wS v1),(2,.bptr 3000 0),(4,.bptr 3001 0),(5,wO cS 20005 v5),(6,wI v6)],[(3000,.box (bx (hH E0))),(3001,.box [wI E1.Super,wI E1.Types,wO cS 40102 E1.Subs]),(40102,wR cS 1 E1.Subs),(20005,wR cS 1 v5)]⟩,Lx v1 E0 E1 v5 v6)|.L1 v1 E0 E1 v5 v6=>([1,1,1,1,1],⟨64,[(1,wS v1),(2,.bptr 3000 0),(4,.bptr 3001 0),(5,wO cS 20005 v5),(6,wI v6)],[(3000,.box (bx (hH E0))),(3001,.box [wI E1.Super,wI E1.Types,wO cS 40102 E1.Subs]),(40102,wR cS 1 E1.Subs),(20005,wR cS 1 v5)]⟩,rC v1 E0 E1 v5 v6)
def Lu:=λa0 a1=>Z3v.run (Lv a0 a1)
def Zdm(a0)(a1){r}(h:Lu a0 a1=some r):FnG PR 220 [] [wA (hH a0),wS a1] [(5002,wR cS 1 r.Subs)] (.agg [wI r.Super,wI r.Types,wO cS 5002 r.Subs]):=Z3v.fn h
def LA(a0:ae)(a1:af)(a2:Int)(a3:Int):LT Empty ae:=
.lb 1004<|.lb 1005<|.lb 1008<|.call (yC a1) λx1=>.br (!x1) (.rt a0)<|.br (a1.Kind==1) (.rt (⟨a0.Name,a0.Cost,a0.Colors,a0.Line,a0.Power,a0.Tough,a0.Keys,a0.Abilities,a2⟩:ae))<|.br (a1.Kind==2) (.rt (⟨a0.Name,a0.Cost,a0.Colors,(⟨a0.Line.Super,a1.N,a0.Line.Subs⟩:aI),a0.Power,a0.Tough,a0.Keys,a0.Abilities,a0.Control⟩:ae))<|.br (a1.Kind==3) (.rt (⟨a0.Name,a0.Cost,a0.Colors,(⟨a0.Line.Super,aQ .or .i64 a0.Line.Types a1.N,a0.Line.Subs⟩:aI),a0.Power,a0.Tough,a0.Keys,a0.Abilities,a0.Control⟩:ae))<|.br (a1.Kind==4) (.lb 1040<|.rl cS [a1.Sub]<|.rt (⟨a0.Name,a0.Cost,a0.Colors,(⟨a0.Line.Super,a0.Line.Types,[a1.Sub]⟩:aI),a0.Power,a0.Tough,a0.Keys,a0.Abilities,a0.Control⟩:ae))<|.br (a1.Kind==5) (.callF (Zdm a0.Line a1.Sub) 500000 λx9=>.rl cS x9.Subs<|.rt (⟨a0.Name,a0.Cost,a0.Colors,x9,a0.Power,a0.Tough,a0.Keys,a0.Abilities,a0.Control⟩:ae))<|.br (a1.Kind==6) (.rt (⟨a0.Name,a0.Cost,a1.N,a0.Line,a0.Power,a0.Tough,a0.Keys,a0.Abilities,a0.Control⟩:ae))<|.br (a1.Kind==7) (.rt (⟨a0.Name,a0.Cost,aQ .or .i64 a0.Colors a1.N,a0.Line,a0.Power,a0.Tough,a0.Keys,a0.Abilities,a0.Control⟩:ae))<|.br (a1.Kind==8) (.rt (⟨a0.Name,a0.Cost,a0.Colors,a0.Line,a0.Power,a0.Tough,aQ .or .i64 a0.Keys a1.N,a0.Abilities,a0.Control⟩:ae))<|.br (a1.Kind==9) (.rt (⟨a0.Name,a0.Cost,a0.Colors,a0.Line,a0.Power,a0.Tough,aQ .andNot .i64 a0.Keys a1.N,a0.Abilities,a0.Control⟩:ae))<|.br (a1.Kind==10) (.rt (⟨a0.Name,a0.Cost,a0.Colors,a0.Line,a0.Power,a0.Tough,0,([]:List ar),a0.Control⟩:ae))<|.br (a1.Kind==11) (.call (jf a3) λx17=>.call (jf a3) λx19=>.rt (⟨a0.Name,a0.Cost,a0.Colors,a0.Line,x17,x19,a0.Keys,a0.Abilities,a0.Control⟩:ae))<|.br (a1.Kind==12) (.rt (⟨a0.Name,a0.Cost,a0.Colors,a0.Line,a1.N,a1.M,a0.Keys,a0.Abilities,a0.Control⟩:ae))<|.br (a1.Kind==13) (.call (mv a0.Power a1.N) λx23=>.call (mv a0.Tough a1.M) λx25=>.rt (⟨a0.Name,a0.Cost,a0.Colors,a0.Line,x23,x25,a0.Keys,a0.Abilities,a0.Control⟩:ae))<|.br (a1.Kind==14) (.rt (⟨a0.Name,a0.Cost,a0.Colors,a0.Line,a0.Tough,a0.Power,a0.Keys,a0.Abilities,a0.Control⟩:ae))<|.rt a0
def OE:LF Empty ae :=.z0 167 [.c 8 66 true 17] (λr=>(wA (av r)))
def Lz:=λa0 a1 a2 a3=>OE.run (LA a0 a1 a2 a3)
def Zdn(a0)(a1)(a2)(a3){r}(h:Lz a0 a1 a2 a3=some r):Fn PR 167 [wA (av a0),wA (ay a1),wI a2,wI a3] (wA (av r)):=OE.fn h
inductive rD where
 |L0 (v2:Int) (v3:Int) (v4:List Int) (E0:ae) (E1:ba) (E2:ae) (v11:Int) (v12:Int)
def Z6p(v2:Int)(v3:Int)(v4:List Int)(E0:ae)(E1:ba)(E2:ae)(v11:Int)(v12:Int):LT rD ae:=
.len ay E1.Mods<|.br (decide (v12<(E1.Mods.length:Int))) (.idx ay E1.Mods v12 λx3=>.call (vZ x3.Kind) λx5=>.br (x5==v2) (.ag ay x3 0<|.idx (cI .i64) v4 v11 λx8=>.call (Zdn E0 x3 v3 x8) λx10=>.g0 (.L0 v2 v3 v4 x10 E1 E2 (IntKind.wrap .i64 (v11+1)) (IntKind.wrap .i64 (v12+1))))<|.g0 (.L0 v2 v3 v4 E0 E1 E2 v11 (IntKind.wrap .i64 (v12+1))))<|.rt E0
def LD(a0:ae)(a1:ba)(a2:Int)(a3:Int)(a4:List Int):LT rD ae:=
.lb 1005<|.lb 1006<|.lb 1010<|.go (.L0 a2 a3 a4 a0 a1 (⟨([]:By),(⟨0,0,(⟨0,0,0,0,0⟩:A5 Int)⟩:aK),0,(⟨0,0,([]:Bys)⟩:aI),0,0,0,([]:List ar),0⟩:ae) 0 0) [.relab 1005 3000,.relab 1006 3001,.relab 1010 3002,.ownb 3002 11 40211 1,.ownb 3002 15 40215 72]
def Ac:LF rD ae :=.m0 117 [.c 10 66 true 17] (λr=>(wA (av r))) λ|.L0 v2 v3 v4 E0 E1 E2 v11 v12=>([1,1,0,1,4],⟨44,[(2,wI v2),(3,wI v3),(4,wL (cI .i64) v4),(5,.bptr 3000 0),(6,.bptr 3001 0),(10,.bptr 3002 0),(11,wI v11),(12,wI v12)],[(3000,.box (bx (av E0))),(3001,.box (bx (bH E1))),(3002,.box (tm2 E2 40200)),(40211,wR cS 1 E2.Line.Subs),(40215,wR aC 72 E2.Abilities)]⟩,Z6p v2 v3 v4 E0 E1 E2 v11 v12)
def LC:=λa0 a1 a2 a3 a4=>Ac.run (LD a0 a1 a2 a3 a4)
def Zdo(a0)(a1)(a2)(a3)(a4){r}(h:LC a0 a1 a2 a3 a4=some r):Fn PR 117 [wA (av a0),wA (bH a1),wI a2,wI a3,wL (cI .i64) a4] (wA (av r)):=Ac.fn h
inductive rE where
 |L0 (v1:Int) (E0:ba) (v5:Int)
def LJ(v1:Int)(E0:ba)(v5:Int):LT rE Bool:=
.len ay E0.Mods<|.br (decide (v5<(E0.Mods.length:Int))) (.idx ay E0.Mods v5 λx3=>.cs (x3.Kind==10) (.k4 1<|.ag ay x3 0<|.k3 1<|.call (vZ x3.Kind) λx6=>.k3 1<|.br (x6==v1) (.rt true)<|.g0 (.L0 v1 E0 (IntKind.wrap .i64 (v5+1))))<|.k8 1<|.k2 1<|.kn [0]<|.g0 (.L0 v1 E0 (IntKind.wrap .i64 (v5+1))))<|.rt false
def LH(a0:ba)(a1:Int):LT rE Bool:=
.lb 1002<|.go (.L0 a1 a0 0) [.relab 1002 3000]
def Z8a:LF rE Bool :=.m0 118 [.t 4] wB λ|.L0 v1 E0 v5=>([1,0,1,4],⟨31,[(1,wI v1),(2,.bptr 3000 0),(5,wI v5)],[(3000,.box (bx (bH E0)))]⟩,LJ v1 E0 v5)
def LG:=λa0 a1=>Z8a.run (LH a0 a1)
def Zdp(a0)(a1){r}(h:LG a0 a1=some r):Fn PR 118 [wA (bH a0),wI a1] (wB r):=Z8a.fn h
inductive rF where
 |L0 (v1:Int) (v2:Int) (E0:au) (E1:au) (v7:List Int) (v8:List Int) (v9:Int) (E2:au) (v11:Int)
def LR(v1:Int)(v2:Int)(E0:au)(E1:au)(v7:List Int)(v8:List Int)(v9:Int)(E2:au)(v11:Int):LT rF au:=
.len aE E0.S.Objects<|.br (decide (v11<(E0.S.Objects.length:Int))) (.idx aE E0.S.Objects v11 λx3=>.call (N7 v7 x3.Id) λx5=>.br (!x5) (.g0 (.L0 v1 v2 E0 E1 v7 v8 v9 E2 (IntKind.wrap .i64 (v11+1))))<|.idx av E0.All v11 λx10=>.idx bH E0.L v1 λx12=>.call (Zdo x10 x12 v2 v9 v8) λx14=>.idxR av E2.All v11 λx16=>.setD av E2.All v11 x16 x14 11 0 (tm10 x14) rfl λx18=>.dr [.ahead 101,.relen 40219,.stop]<|.us [12]<|.us [12]<|.us [12]<|.ag bH x12 6<|.call (Zdp x12 v2) λx20=>.br x20 (.idxR cB E2.Blank v11 λx23=>.setR cB E2.Blank v11 x23 true 17 0 [.bool true] rfl λx25=>.dr [.ahead 71,.relen 40223,.stop]<|.us [18]<|.us [18]<|.us [18]<|.g0 (.L0 v1 v2 E0 E1 v7 v8 v9 (⟨E2.S,x18,E2.L,E2.Begun,E2.Sets,x25⟩:au) (IntKind.wrap .i64 (v11+1))))<|.g0 (.L0 v1 v2 E0 E1 v7 v8 v9 (⟨E2.S,x18,E2.L,E2.Begun,E2.Sets,E2.Blank⟩:au) (IntKind.wrap .i64 (v11+1))))<|.rl av E2.All<|.rl cB E2.Begun<|.rl (cL (cI .i64)) E2.Sets<|.rl cB E2.Blank<|.rt E2
def LQ(a0:au)(a1:Int)(a2:Int):LT rF au:=
.lb 1003<|.lb 1006<|.call (wa a0 a1) λx1=>.br (!x1) (.rt a0)<|.call (Bq a0 a1) λx4=>.call (Bu a0 a1 a2) λx6=>.call (Z15 a0 a1) λx8=>.lb 1010<|.apN av 1036 176 a0.All λx10=>.apN cB 1042 1 a0.Begun λx13=>.apN (cL (cI .i64)) 1048 24 a0.Sets λx16=>.apN cB 1054 1 a0.Blank λx19=>.idxR cB x13 a1 λx22=>.setR cB x13 a1 x22 true 2 0 [.bool true] rfl λx24=>.dr [.ahead 60,.relen 1042,.stop]<|.us [3]<|.us [3]<|.us [3]<|.us [3]<|.idxR (cL (cI .i64)) x16 a1 λx26=>.setR (cL (cI .i64)) x16 a1 x26 x4 6 0 [.sl (List.map (cI .i64) x4)] rfl λx28=>.dr [.ahead 11,.relen 1048,.stop]<|.us [7]<|.us [7]<|.us [7]<|.us [7]<|.go (.L0 a1 a2 a0 (⟨(⟨([]:List hP),([]:List aj),([]:List Int),([]:List Int),([]:List gE),([]:List iC),([]:List dn),0,0,0,false,0,0,0,0,0,([]:List Int),0,0⟩:ao),([]:List ae),([]:List ba),([]:List Bool),([]:List (List Int)),([]:List Bool)⟩:au) x4 x6 x8 (⟨a0.S,x10,a0.L,x24,x28,x19⟩:au) 0) [.relab 1003 3000,.relab 1006 3001,.relab 1010 3002,.ownb 3001 0 40100 14,.ownb 3001 1 40101 19,.ownb 3001 2 40102 1,.ownb 3001 3 40103 1,.ownb 3001 4 40104 94,.ownb 3001 5 40105 89,.ownb 3001 6 40106 6,.ownb 3001 16 40116 1,.ownb 3001 19 40119 17,.ownb 3001 20 40120 23,.ownb 3001 21 40121 1,.ownb 3001 22 40122 1,.ownb 3001 23 40123 1,.relab 1036 40219,.relab 1042 40221,.relab 1048 40222,.relab 1054 40223]
def Z0i:LF rF au :=.m0 62 [.c 6 103 true 24] (λr=>(wA (dD r))) λ|.L0 v1 v2 E0 E1 v7 v8 v9 E2 v11=>([1,1,1,1,1,1,1,1,1,1,1,1,0,1,4],⟨113,[(1,wI v1),(2,wI v2),(3,.bptr 3000 0),(6,.bptr 3001 0),(7,wL (cI .i64) v7),(8,wL (cI .i64) v8),(9,wI v9),(10,.bptr 3002 0),(11,wI v11)],((3000,.box (bx (dD E0)))::(3001,.box (tm4 E1 40100))::(40100,wR cY 14 E1.S.Players)::(40101,wR aE 19 E1.S.Objects)::(40102,wR (cI .i64) 1 E1.S.Battlefield)::(40103,wR (cI .i64) 1 E1.S.Exile)::(40104,wR cU 94 E1.S.Stack)::(40105,wR dC 89 E1.S.Waiting)::(40106,wR cZ 6 E1.S.Conts)::(40116,wR (cI .i64) 1 E1.S.Extra)::(40119,wR av 17 E1.All)::(40120,wR bH 23 E1.L)::(40121,wR cB 1 E1.Begun)::(40122,wR (cL (cI .i64)) 1 E1.Sets)::(40123,wR cB 1 E1.Blank)::(3002,.box (tm6 E2 40200))::(tm18 E2 40200))⟩,LR v1 v2 E0 E1 v7 v8 v9 E2 v11)
def LP:=λa0 a1 a2=>Z0i.run (LQ a0 a1 a2)
def OF(a0)(a1)(a2){r}(h:LP a0 a1 a2=some r):Fn PR 62 [wA (dD a0),wI a1,wI a2] (wA (dD r)):=Z0i.fn h
def LU(a0:au)(a1:Int)(a2:Int)(a3:Int):LT Empty Bool:=
.lb 1004<|.br (a1==a2) (.rt false)<|.call (OF a0 a2 a3) λx2=>.lb 1009<|.call (wa a0 a1) λx4=>.call (wa x2 a1) λx6=>.cs (!(x4==x6)) (.k8 1<|.kg 1<|.b8 true<|.b3 true<|.rt true)<|.k3 1<|.call (Bq a0 a1) λx9=>.k3 1<|.call (Bq x2 a1) λx11=>.kg 1<|.call (Z72 x9 x11) λx13=>.k2 1<|.cs (!x13) (.k8 2<|.k3 2<|.rt true)<|.k4 2<|.call (Bu a0 a1 a3) λx16=>.k4 2<|.call (Bu x2 a1 a3) λx18=>.kg 2<|.call (Z72 x16 x18) λx20=>.k2 2<|.rt (!x20)
def OG:LF Empty Bool :=.z0 110 [.t 8] wB
def LS:=λa0 a1 a2 a3=>OG.run (LU a0 a1 a2 a3)
def Zdq(a0)(a1)(a2)(a3){r}(h:LS a0 a1 a2 a3=some r):Fn PR 110 [wA (dD a0),wI a1,wI a2,wI a3] (wB r):=OG.fn h
inductive rG where
 |L0 (v0:List Int) (v1:Int) (v5:Int)
def LZ(v0:List Int)(v1:Int)(v5:Int):LT rG Bool:=
.len (cI .i64) v0<|.br (decide (v5<(v0.length:Int))) (.idx (cI .i64) v0 v5 λx3=>.br (x3==v1) (.rt true)<|.g0 (.L0 v0 v1 (IntKind.wrap .i64 (v5+1))))<|.rt false
def LX(a0:List Int)(a1:Int):LT rG Bool:=
.g0 (.L0 a0 a1 0)
def Ae:LF rG Bool :=.m0 210 [.t 4] wB λ|.L0 v0 v1 v5=>([1,0,1,4],⟨18,[(0,wL (cI .i64) v0),(1,wI v1),(5,wI v5)],[]⟩,LZ v0 v1 v5)
def LW:=λa0 a1=>Ae.run (LX a0 a1)
def Bv(a0)(a1){r}(h:LW a0 a1=some r):Fn PR 210 [wL (cI .i64) a0,wI a1] (wB r):=Ae.fn h
inductive rH where
 |L0 (v0:List Int) (v3:List Int) (v4:Int)
def Z6q(v0:List Int)(v3:List Int)(v4:Int):LT rH (List Int):=
.len (cI .i64) v0<|.br (decide (v4<(v0.length:Int))) (.idx (cI .i64) v0 v4 λx3=>.cs (decide (x3>=0)) (.k4 1<|.ag (cI .i64) x3 0<|.k2 1<|.rl (cI .i64) v3<|.call (Bv v3 x3) λx6=>.k2 1<|.br (!x6) (.ag (cI .i64) x3 0<|.dr [.lit]<|.apR (cI .i64) 8 v3 [x3] λx9=>.g0 (.L0 v0 x9 (IntKind.wrap .i64 (v4+1))))<|.g0 (.L0 v0 v3 (IntKind.wrap .i64 (v4+1))))<|.k8 1<|.kn [0]<|.g0 (.L0 v0 v3 (IntKind.wrap .i64 (v4+1))))<|.ret v3 [.relab 20003 5000]
def L9(a0:List Int):LT rH (List Int):=
.go (.L0 a0 ([]:List Int) 0) [.own 3 20003 1]
def Ag:LF rH (List Int) :=.m 208 [.t 2] true (λr=>[(5000,wR (cI .i64) 1 r)]) (λr=>(wO (cI .i64) 5000 r)) λ|.L0 v0 v3 v4=>([1,1,0,1,4],⟨33,[(0,wL (cI .i64) v0),(3,wO (cI .i64) 20003 v3),(4,wI v4)],[(20003,wR (cI .i64) 1 v3)]⟩,Z6q v0 v3 v4)
def Z3w:=λa0=>Ag.run (L9 a0)
def Zdr(a0){r}(h:Z3w a0=some r):FnG PR 208 [] [wL (cI .i64) a0] [(5000,wR (cI .i64) 1 r)] (wO (cI .i64) 5000 r):=Ag.fn h
def Zds(a0:List Int){r:List Int}(h:Z3w a0=some r):Fn PR 208 [wL (cI .i64) a0] (wL (cI .i64) r):=FnG.frozen (C:=LT.RL (cI .i64) r/\True) (Zdr a0 h) ⟨rfl,ab⟩ bp
def Mc(a0:List (List Bool))(a1:Int)(a2:Int):LT Empty Bool:=
.len (cL cB) a0<|.cs (decide (a1<(a0.length:Int))) (.k4 0<|.idx (cL cB) a0 a1 λx3=>.k2 0<|.len cB x3<|.k2 0<|.cs (decide (a2<(x3.length:Int))) (.k3 1<|.ag (cL cB) x3 0<|.k3 1<|.idx cB x3 a2 λx7=>.k2 1<|.rt x7)<|.k8 1<|.rt false)<|.k8 0<|.b8 false<|.rt false
def OH:LF Empty Bool :=.z0 209 [.t 6] wB
def Mb:=λa0 a1 a2=>OH.run (Mc a0 a1 a2)
def Z8b(a0)(a1)(a2){r}(h:Mb a0 a1 a2=some r):Fn PR 209 [wL (cL cB) a0,wI a1,wI a2] (wB r):=OH.fn h
inductive mf where
 |L0 (v0:List Int) (v1:List (List Bool)) (v2:Int) (v7:List Int) (v8:Int)
 |L1 (v0:List Int) (v1:List (List Bool)) (v7:List Int) (v9:Int)
 |L2 (v0:List Int) (v1:List (List Bool)) (v7:List Int) (v9:Int) (v10:Int)
def Mf(v0:List Int)(v1:List (List Bool))(v2:Int)(v7:List Int)(v8:Int):LT mf (List Int):=
.len (cI .i64) v0<|.br (decide (v8<(v0.length:Int))) (.idx (cI .i64) v0 v8 λx3=>.call (Z8b v1 v2 x3) λx5=>.br x5 (.ag (cI .i64) x3 0<|.dr [.lit]<|.apR (cI .i64) 8 v7 [x3] λx8=>.g0 (.L0 v0 v1 v2 x8 (IntKind.wrap .i64 (v8+1))))<|.g0 (.L0 v0 v1 v2 v7 (IntKind.wrap .i64 (v8+1))))<|.g0 (.L1 v0 v1 v7 0)
def Mh(v0:List Int)(v1:List (List Bool))(v7:List Int)(v9:Int):LT mf (List Int):=
.lenO (cI .i64) v7<|.br (decide (v9<(v7.length:Int))) (.g0 (.L2 v0 v1 v7 v9 0))<|.ret v7 [.relab 20007 5000]
def Mj(v0:List Int)(v1:List (List Bool))(v7:List Int)(v9:Int)(v10:Int):LT mf (List Int):=
.len (cI .i64) v0<|.br (decide (v10<(v0.length:Int))) (.idxR (cI .i64) v7 v9 λx3=>.ldR (cI .i64) v7 x3 2<|.idx (cI .i64) v0 v10 λx5=>.call (Z8b v1 x3 x5) λx7=>.cs x7 (.k4 1<|.ag (cI .i64) x5 3<|.k2 1<|.rl (cI .i64) v7<|.call (Bv v7 x5) λx10=>.k2 1<|.br (!x10) (.ag (cI .i64) x5 3<|.dr [.lit]<|.apR (cI .i64) 8 v7 [x5] λx13=>.g0 (.L2 v0 v1 x13 v9 (IntKind.wrap .i64 (v10+1))))<|.g0 (.L2 v0 v1 v7 v9 (IntKind.wrap .i64 (v10+1))))<|.k8 1<|.kn [0]<|.g0 (.L2 v0 v1 v7 v9 (IntKind.wrap .i64 (v10+1))))<|.g0 (.L1 v0 v1 v7 (IntKind.wrap .i64 (v9+1)))
def Me(a0:List Int)(a1:List (List Bool))(a2:Int):LT mf (List Int):=
.go (.L0 a0 a1 a2 ([]:List Int) 0) [.own 7 20007 1]
def rI:LF mf (List Int) :=.m 211 [.t 6] true (λr=>[(5000,wR (cI .i64) 1 r)]) (λr=>(wO (cI .i64) 5000 r)) λ|.L0 v0 v1 v2 v7 v8=>([1,1,0,1,4],⟨70,[(0,wL (cI .i64) v0),(1,wL (cL cB) v1),(2,wI v2),(7,wO (cI .i64) 20007 v7),(8,wI v8)],[(20007,wR (cI .i64) 1 v7)]⟩,Mf v0 v1 v2 v7 v8)|.L1 v0 v1 v7 v9=>([1,1,1,0,1,4],⟨70,[(0,wL (cI .i64) v0),(1,wL (cL cB) v1),(7,wO (cI .i64) 20007 v7),(9,wI v9)],[(20007,wR (cI .i64) 1 v7)]⟩,Mh v0 v1 v7 v9)|.L2 v0 v1 v7 v9 v10=>([1,1,1,0,1,4,5,1,0,4,1,4],⟨70,[(0,wL (cI .i64) v0),(1,wL (cL cB) v1),(7,wO (cI .i64) 20007 v7),(9,wI v9),(10,wI v10)],[(20007,wR (cI .i64) 1 v7)]⟩,Mj v0 v1 v7 v9 v10)
def Z8c:=λa0 a1 a2=>rI.run (Me a0 a1 a2)
def Zdt(a0)(a1)(a2){r}(h:Z8c a0 a1 a2=some r):FnG PR 211 [] [wL (cI .i64) a0,wL (cL cB) a1,wI a2] [(5000,wR (cI .i64) 1 r)] (wO (cI .i64) 5000 r):=rI.fn h
def Zdu(a0:List Int)(a1:List (List Bool))(a2:Int){r:List Int}(h:Z8c a0 a1 a2=some r):Fn PR 211 [wL (cI .i64) a0,wL (cL cB) a1,wI a2] (wL (cI .i64) r):=FnG.frozen (C:=LT.RL (cI .i64) r/\True) (Zdt a0 a1 a2 h) ⟨rfl,ab⟩ bp
inductive oh where
 |L0 (v1:List (List Bool)) (v5:List Int) (v6:List Int) (v7:Int)
 |L1 (v1:List (List Bool)) (v5:List Int) (v6:List Int) (v7:Int) (v8:Bool) (v9:Int)
def Mo(v1:List (List Bool))(v5:List Int)(v6:List Int)(v7:Int):LT oh (List Int):=
.len (cI .i64) v5<|.br (decide (v7<(v5.length:Int))) (.g0 (.L1 v1 v5 v6 v7 true 0))<|.ret v6 [.relab 20006 5000]
def Mq(v1:List (List Bool))(v5:List Int)(v6:List Int)(v7:Int)(v8:Bool)(v9:Int):LT oh (List Int):=
.len (cI .i64) v5<|.br (decide (v9<(v5.length:Int))) (.cs (v9 != v7) (.k4 1<|.idx (cI .i64) v5 v7 λx4=>.k4 1<|.idx (cI .i64) v5 v9 λx6=>.k2 1<|.call (Z8b v1 x4 x6) λx8=>.kg 1<|.cs x8 (.k5 2<|.ag (cI .i64) x6 3<|.k2 2<|.call (Zdu v5 v1 x6) λx11=>.k3 2<|.ag (cI .i64) x4 0<|.k2 2<|.call (Bv x11 x4) λx13=>.k2 2<|.br (!x13) (.g0 (.L1 v1 v5 v6 v7 false (IntKind.wrap .i64 (v9+1))))<|.g0 (.L1 v1 v5 v6 v7 v8 (IntKind.wrap .i64 (v9+1))))<|.k8 2<|.k5 2<|.kg 2<|.kn [0]<|.g0 (.L1 v1 v5 v6 v7 v8 (IntKind.wrap .i64 (v9+1))))<|.k8 1<|.k3 1<|.b8 false<|.b5 false<|.kb false<|.kn [0]<|.g0 (.L1 v1 v5 v6 v7 v8 (IntKind.wrap .i64 (v9+1))))<|.br v8 (.idx (cI .i64) v5 v7 λx25=>.dr [.lit]<|.apR (cI .i64) 8 v6 [x25] λx27=>.g0 (.L0 v1 v5 x27 (IntKind.wrap .i64 (v7+1))))<|.g0 (.L0 v1 v5 v6 (IntKind.wrap .i64 (v7+1)))
def Mn(a0:List Int)(a1:List (List Bool)):LT oh (List Int):=
.call (Zds a0) λx1=>.go (.L0 a1 x1 ([]:List Int) 0) [.own 6 20006 1]
def vp:LF oh (List Int) :=.m 161 [.t 4] true (λr=>[(5000,wR (cI .i64) 1 r)]) (λr=>(wO (cI .i64) 5000 r)) λ|.L0 v1 v5 v6 v7=>([1,1,1,0,1,4],⟨63,[(1,wL (cL cB) v1),(5,wL (cI .i64) v5),(6,wO (cI .i64) 20006 v6),(7,wI v7)],[(20006,wR (cI .i64) 1 v6)]⟩,Mo v1 v5 v6 v7)|.L1 v1 v5 v6 v7 v8 v9=>([1,1,1,0,1,4,5,1,0,4,1,0,1,4],⟨63,[(1,wL (cL cB) v1),(5,wL (cI .i64) v5),(6,wO (cI .i64) 20006 v6),(7,wI v7),(8,wB v8),(9,wI v9)],[(20006,wR (cI .i64) 1 v6)]⟩,Mq v1 v5 v6 v7 v8 v9)
def Ak:=λa0 a1=>vp.run (Mn a0 a1)
def Zdv(a0)(a1){r}(h:Ak a0 a1=some r):FnG PR 161 [] [wL (cI .i64) a0,wL (cL cB) a1] [(5000,wR (cI .i64) 1 r)] (wO (cI .i64) 5000 r):=vp.fn h
def Zdw(a0:List Int)(a1:List (List Bool)){r:List Int}(h:Ak a0 a1=some r):Fn PR 161 [wL (cI .i64) a0,wL (cL cB) a1] (wL (cI .i64) r):=FnG.frozen (C:=LT.RL (cI .i64) r/\True) (Zdv a0 a1 h) ⟨rfl,ab⟩ bp
def Ms(a0:List Int)(a1:Int):LT Empty Int:=
.len (cI .i64) a0<|.br (decide (a1<(a0.length:Int))) (.idx (cI .i64) a0 a1 λx3=>.rt x3)<|.rt 0
def OI:LF Empty Int :=.z0 162 [.t 4] wI
def Mr:=λa0 a1=>OI.run (Ms a0 a1)
def Z3x(a0)(a1){r}(h:Mr a0 a1=some r):Fn PR 162 [wL (cI .i64) a0,wI a1] (wI r):=OI.fn h
inductive rJ where
 |L0 (v1:List Int) (v7:List Int) (v8:Int) (v9:Int)
def Mx(v1:List Int)(v7:List Int)(v8:Int)(v9:Int):LT rJ Int:=
.len (cI .i64) v7<|.br (decide (v9<(v7.length:Int))) (.idx (cI .i64) v7 v9 λx3=>.call (Z3x v1 x3) λx5=>.cs (decide (v8<0)) (.k5 1<|.kg 1<|.b8 true<|.kn [0]<|.ag (cI .i64) x3 0<|.g0 (.L0 v1 v7 x3 (IntKind.wrap .i64 (v9+1))))<|.k4 1<|.call (Z3x v1 v8) λx10=>.k2 1<|.cs (decide (x5<x10)) (.k8 2<|.kn [0]<|.ag (cI .i64) x3 0<|.g0 (.L0 v1 v7 x3 (IntKind.wrap .i64 (v9+1))))<|.k4 2<|.call (Z3x v1 v8) λx15=>.k2 2<|.cs (x5==x15) (.k3 3<|.ag (cI .i64) x3 0<|.k3 3<|.kg 2<|.kg 3<|.kg 2<|.br (decide (x3<v8)) (.ag (cI .i64) x3 0<|.g0 (.L0 v1 v7 x3 (IntKind.wrap .i64 (v9+1))))<|.g0 (.L0 v1 v7 v8 (IntKind.wrap .i64 (v9+1))))<|.k5 3<|.kg 3<|.kg 2<|.kg 3<|.kg 2<|.kn [0]<|.g0 (.L0 v1 v7 v8 (IntKind.wrap .i64 (v9+1))))<|.rt v8
def Mv(a0:List Int)(a1:List Int)(a2:List (List Bool)):LT rJ Int:=
.call (Zdw a0 a2) λx1=>.g0 (.L0 a1 x1 (-1) 0)
def Am:LF rJ Int :=.m0 111 [.t 6] wI λ|.L0 v1 v7 v8 v9=>([1,1,1,0,1,4],⟨55,[(1,wL (cI .i64) v1),(7,wL (cI .i64) v7),(8,wI v8),(9,wI v9)],[]⟩,Mx v1 v7 v8 v9)
def Mu:=λa0 a1 a2=>Am.run (Mv a0 a1 a2)
def Zdx(a0)(a1)(a2){r}(h:Mu a0 a1 a2=some r):Fn PR 111 [wL (cI .i64) a0,wL (cI .i64) a1,wL (cL cB) a2] (wI r):=Am.fn h
inductive mg where
 |L0 (v1:List Int) (v2:Int) (E0:au) (v7:List Int) (v8:List (List Bool)) (v9:Int)
 |L1 (v1:List Int) (v2:Int) (E0:au) (v7:List Int) (v8:List (List Bool)) (v10:Int)
 |L2 (v1:List Int) (v2:Int) (E0:au) (v7:List Int) (v8:List (List Bool)) (v10:Int) (v11:Int)
def MC(v1:List Int)(v2:Int)(E0:au)(v7:List Int)(v8:List (List Bool))(v9:Int):LT mg Int:=
.len bH E0.L<|.br (decide (v9<(E0.L.length:Int))) (.idx bH E0.L v9 λx3=>.dr [.lit]<|.apR (cI .i64) 8 v7 [x3.Stamp] λx5=>.len bH E0.L<|.mk cB 1034 1 false (E0.L.length:Int) (E0.L.length:Int) λx8=>.mkM cB 1035 1034 x8<|.apM cB 24 v8 x8 λx10=>.g0 (.L0 v1 v2 E0 x5 x10 (IntKind.wrap .i64 (v9+1))))<|.g0 (.L1 v1 v2 E0 v7 v8 0)
def ME(v1:List Int)(v2:Int)(E0:au)(v7:List Int)(v8:List (List Bool))(v10:Int):LT mg Int:=
.len (cI .i64) v1<|.br (decide (v10<(v1.length:Int))) (.g0 (.L2 v1 v2 E0 v7 v8 v10 0))<|.rl (cI .i64) v7<|.rl (cL cB) v8<|.call (Zdx v1 v7 v8) λx3=>.rt x3
def MF(v1:List Int)(v2:Int)(E0:au)(v7:List Int)(v8:List (List Bool))(v10:Int)(v11:Int):LT mg Int:=
.len (cI .i64) v1<|.br (decide (v11<(v1.length:Int))) (.idx (cI .i64) v1 v10 λx3=>.idM cB v8 x3 λx5=>.ldM cB v8 3<|.idx (cI .i64) v1 v11 λx7=>.ag (cI .i64) x3 0<|.ag (cI .i64) x7 5<|.call (Zdq E0 x3 x7 v2) λx9=>.idN cB v8 x5 x7 3 λx11=>.stM cB v8 x3 x5 x7 x9 3 8 λx13=>.dr [.ahead 47,.relen 20008,.stop]<|.us [10]<|.us [10]<|.g0 (.L2 v1 v2 E0 v7 x13 v10 (IntKind.wrap .i64 (v11+1))))<|.g0 (.L1 v1 v2 E0 v7 v8 (IntKind.wrap .i64 (v10+1)))
def MA(a0:au)(a1:List Int)(a2:Int):LT mg Int:=
.lb 1003<|.lb 1012<|.m0 1013<|.go (.L0 a1 a2 a0 ([]:List Int) ([]:List (List Bool)) 0) [.relab 1003 3000,.relab 1012 20007,.relab 1013 20008]
def rM:LF mg Int :=.m0 61 [.t 6] wI λ|.L0 v1 v2 E0 v7 v8 v9=>([1,1,1,0,1,4],⟨76,[(1,wL (cI .i64) v1),(2,wI v2),(3,.bptr 3000 0),(7,wO (cI .i64) 20007 v7),(8,wM (cL cB) 20008 v8),(9,wI v9)],[(3000,.box (bx (dD E0))),(20007,wR (cI .i64) 1 v7),(20008,wT (cL cB) v8)]⟩,MC v1 v2 E0 v7 v8 v9)|.L1 v1 v2 E0 v7 v8 v10=>([1,1,1,1,0,1,4],⟨76,[(1,wL (cI .i64) v1),(2,wI v2),(3,.bptr 3000 0),(7,wO (cI .i64) 20007 v7),(8,wM (cL cB) 20008 v8),(10,wI v10)],[(3000,.box (bx (dD E0))),(20007,wR (cI .i64) 1 v7),(20008,wT (cL cB) v8)]⟩,ME v1 v2 E0 v7 v8 v10)|.L2 v1 v2 E0 v7 v8 v10 v11=>([1,1,1,1,0,1,4,5,1,0,4,1,4],⟨76,[(1,wL (cI .i64) v1),(2,wI v2),(3,.bptr 3000 0),(7,wO (cI .i64) 20007 v7),(8,wM (cL cB) 20008 v8),(10,wI v10),(11,wI v11)],[(3000,.box (bx (dD E0))),(20007,wR (cI .i64) 1 v7),(20008,wT (cL cB) v8)]⟩,MF v1 v2 E0 v7 v8 v10 v11)
def Mz:=λa0 a1 a2=>rM.run (MA a0 a1 a2)
def Zdy(a0)(a1)(a2){r}(h:Mz a0 a1 a2=some r):Fn PR 61 [wA (dD a0),wL (cI .i64) a1,wI a2] (wI r):=rM.fn h
inductive rN where
 |L0 (v0:List Int) (v1:Int) (v5:List Int) (v6:Int)
def MJ(v0:List Int)(v1:Int)(v5:List Int)(v6:Int):LT rN (List Int):=
.len (cI .i64) v0<|.br (decide (v6<(v0.length:Int))) (.idx (cI .i64) v0 v6 λx3=>.br (x3 != v1) (.ag (cI .i64) x3 0<|.dr [.lit]<|.apR (cI .i64) 8 v5 [x3] λx6=>.g0 (.L0 v0 v1 x6 (IntKind.wrap .i64 (v6+1))))<|.g0 (.L0 v0 v1 v5 (IntKind.wrap .i64 (v6+1))))<|.ret v5 [.relab 20005 5000]
def MI(a0:List Int)(a1:Int):LT rN (List Int):=
.go (.L0 a0 a1 ([]:List Int) 0) [.own 5 20005 1]
def Z0j:LF rN (List Int) :=.m 63 [.t 4] true (λr=>[(5000,wR (cI .i64) 1 r)]) (λr=>(wO (cI .i64) 5000 r)) λ|.L0 v0 v1 v5 v6=>([1,1,0,1,4],⟨27,[(0,wL (cI .i64) v0),(1,wI v1),(5,wO (cI .i64) 20005 v5),(6,wI v6)],[(20005,wR (cI .i64) 1 v5)]⟩,MJ v0 v1 v5 v6)
def MH:=λa0 a1=>Z0j.run (MI a0 a1)
def Zdz(a0)(a1){r}(h:MH a0 a1=some r):FnG PR 63 [] [wL (cI .i64) a0,wI a1] [(5000,wR (cI .i64) 1 r)] (wO (cI .i64) 5000 r):=Z0j.fn h
inductive oo where
 |L0 (v1:Int) (E0:au) (E1:au) (v6:List Int) (v7:Int)
 |L1 (v1:Int) (E0:au) (E1:au) (v6:List Int) (v8:List Int) (v9:Int) (v10:Int)
def MP(v1:Int)(E0:au)(E1:au)(v6:List Int)(v7:Int):LT oo (au×(List Int)):=
.len bH E0.L<|.br (decide (v7<(E0.L.length:Int))) (.idx bH E0.L v7 λx3=>.call (Zdb x3 v1) λx5=>.br x5 (.dr [.lit]<|.apR (cI .i64) 8 v6 [v7] λx8=>.g0 (.L0 v1 E0 E1 x8 (IntKind.wrap .i64 (v7+1))))<|.g0 (.L0 v1 E0 E1 v6 (IntKind.wrap .i64 (v7+1))))<|.lb 1035<|.lenO (cI .i64) v6<|.go (.L1 v1 E0 E1 v6 ([]:List Int) (v6.length:Int) 0) [.relab 1035 20008]
def MS(v1:Int)(E0:au)(E1:au)(v6:List Int)(v8:List Int)(v9:Int)(v10:Int):LT oo (au×(List Int)):=
.br (decide (v10<v9)) (.rl (cI .i64) v6<|.call (Zdy E0 v6 v1) λx2=>.dr [.lit]<|.apR (cI .i64) 8 v8 [x2] λx4=>.call (OF E0 x2 v1) λx7=>.rl (cI .i64) v6<|.callS (Zdz v6 x2) 580000 (λ_=>⟨rfl,ou (cI .i64) (λ_=>rfl) _,ab⟩) λx9=>.go (.L1 v1 x7 E1 x9 x4 v9 (IntKind.wrap .i64 (v10+1))) [.pick [1,2,4,6,8,9,10] [585000,3000,20008,3001,40100,40101,40102,40103,40104,40105,40106,40116,40119,40120,40121,40122,40123],.relab 585000 20006])<|.ret (E0,v8) [.relab 20008 5100]
def MO(a0:au)(a1:Int):LT oo (au×(List Int)):=
.lb 1002<|.lb 1004<|.br (a1==7) (.callF (Zda a0) 160000 λx2=>.lb 1016<|.rl av x2.All<|.go (.L0 a1 x2 (⟨(⟨([]:List hP),([]:List aj),([]:List Int),([]:List Int),([]:List gE),([]:List iC),([]:List dn),0,0,0,false,0,0,0,0,0,([]:List Int),0,0⟩:ao),([]:List ae),([]:List ba),([]:List Bool),([]:List (List Int)),([]:List Bool)⟩:au) ([]:List Int) 0) [.relab 1002 3000,.relab 1004 3001,.relab 1016 20006,.frz 165019,.ownb 3001 0 40100 14,.ownb 3001 1 40101 19,.ownb 3001 2 40102 1,.ownb 3001 3 40103 1,.ownb 3001 4 40104 94,.ownb 3001 5 40105 89,.ownb 3001 6 40106 6,.ownb 3001 16 40116 1,.ownb 3001 19 40119 17,.ownb 3001 20 40120 23,.ownb 3001 21 40121 1,.ownb 3001 22 40122 1,.ownb 3001 23 40123 1])<|.lb 1016<|.go (.L0 a1 a0 (⟨(⟨([]:List hP),([]:List aj),([]:List Int),([]:List Int),([]:List gE),([]:List iC),([]:List dn),0,0,0,false,0,0,0,0,0,([]:List Int),0,0⟩:ao),([]:List ae),([]:List ba),([]:List Bool),([]:List (List Int)),([]:List Bool)⟩:au) ([]:List Int) 0) [.relab 1002 3000,.relab 1004 3001,.relab 1016 20006,.ownb 3001 0 40100 14,.ownb 3001 1 40101 19,.ownb 3001 2 40102 1,.ownb 3001 3 40103 1,.ownb 3001 4 40104 94,.ownb 3001 5 40105 89,.ownb 3001 6 40106 6,.ownb 3001 16 40116 1,.ownb 3001 19 40119 17,.ownb 3001 20 40120 23,.ownb 3001 21 40121 1,.ownb 3001 22 40122 1,.ownb 3001 23 40123 1]
def vt:LF oo (au×(List Int)) :=.m 37 [.c 4 103 true 24,.t 5] true (λr=>[(5100,wR (cI .i64) 1 r.2)]) (λr=>(.tup [wA (dD r.1),wO (cI .i64) 5100 r.2])) λ|.L0 v1 E0 E1 v6 v7=>([1,1,1,0,1,4],⟨60,[(1,wI v1),(2,.bptr 3000 0),(4,.bptr 3001 0),(6,wO (cI .i64) 20006 v6),(7,wI v7)],[(3000,.box (bx (dD E0))),(3001,.box (tm4 E1 40100)),(40100,wR cY 14 E1.S.Players),(40101,wR aE 19 E1.S.Objects),(40102,wR (cI .i64) 1 E1.S.Battlefield),(40103,wR (cI .i64) 1 E1.S.Exile),(40104,wR cU 94 E1.S.Stack),(40105,wR dC 89 E1.S.Waiting),(40106,wR cZ 6 E1.S.Conts),(40116,wR (cI .i64) 1 E1.S.Extra),(40119,wR av 17 E1.All),(40120,wR bH 23 E1.L),(40121,wR cB 1 E1.Begun),(40122,wR (cL (cI .i64)) 1 E1.Sets),(40123,wR cB 1 E1.Blank),(20006,wR (cI .i64) 1 v6)]⟩,MP v1 E0 E1 v6 v7)|.L1 v1 E0 E1 v6 v8 v9 v10=>([1,1,1,1,1,1,0,1,4],⟨60,[(1,wI v1),(2,.bptr 3000 0),(4,.bptr 3001 0),(6,wO (cI .i64) 20006 v6),(8,wO (cI .i64) 20008 v8),(9,wI v9),(10,wI v10)],[(3000,.box (bx (dD E0))),(3001,.box (tm4 E1 40100)),(40100,wR cY 14 E1.S.Players),(40101,wR aE 19 E1.S.Objects),(40102,wR (cI .i64) 1 E1.S.Battlefield),(40103,wR (cI .i64) 1 E1.S.Exile),(40104,wR cU 94 E1.S.Stack),(40105,wR dC 89 E1.S.Waiting),(40106,wR cZ 6 E1.S.Conts),(40116,wR (cI .i64) 1 E1.S.Extra),(40119,wR av 17 E1.All),(40120,wR bH 23 E1.L),(40121,wR cB 1 E1.Begun),(40122,wR (cL (cI .i64)) 1 E1.Sets),(40123,wR cB 1 E1.Blank),(20006,wR (cI .i64) 1 v6),(20008,wR (cI .i64) 1 v8)]⟩,MS v1 E0 E1 v6 v8 v9 v10)
def MN:=λa0 a1=>vt.run (MO a0 a1)
def ZdA(a0)(a1){r}(h:MN a0 a1=some r):FnG PR 37 [] [wA (dD a0),wI a1] [(5100,wR (cI .i64) 1 r.2)] (.tup [wA (dD r.1),wO (cI .i64) 5100 r.2]):=vt.fn h
inductive rO where
 |L0 (v2:Int) (E0:ak) (v8:Int)
def M0(v2:Int)(E0:ak)(v8:Int):LT rO (List Int):=
.br (decide (v8<v2)) (.callU (Bw E0 v8) [3000,40020,40021,40022,40023] 260000 λx2=>.g0 (.L0 v2 x2.2 (IntKind.wrap .i64 (v8+1))))<|.callU (Bw E0 v2) [3000,40020,40021,40022,40023] 290000 λx6=>.ret x6.1 [.relab 295000 5000]
def MW(a0:List an)(a1:ao)(a2:Int):LT rO (List Int):=
.lb 1004<|.callF (Z53 a0 a1) 120000 λx1=>.cs (decide (a2<1)) (.k3 0<|.kn [0]<|.ret ([]:List Int) [.own 6 5000 1])<|.k3 0<|.br (decide (a2>8)) (.ret ([]:List Int) [.own 6 5000 1])<|.go (.L0 a2 x1 1) [.relab 125000 3000,.relab 125021 40020,.relab 125022 40021,.relab 125023 40022,.relab 125024 40023]
def Z0k:LF rO (List Int) :=.m 26 [.t 6] true (λr=>[(5000,wR (cI .i64) 1 r)]) (λr=>(wO (cI .i64) 5000 r)) λ|.L0 v2 E0 v8=>([1,1,1,0,1,4],⟨29,[(2,wI v2),(7,.bptr 3000 0),(8,wI v8)],((3000,.box (tm7 E0 40000))::(tm19 E0 40000))⟩,M0 v2 E0 v8)
def Z8d:=λa0 a1 a2=>Z0k.run (MW a0 a1 a2)
def ZdB(a0)(a1)(a2){r}(h:Z8d a0 a1 a2=some r):FnG PR 26 [] [wL bf a0,wA (Z1 a1),wI a2] [(5000,wR (cI .i64) 1 r)] (wO (cI .i64) 5000 r):=Z0k.fn h
def ZdC(a0:List an)(a1:ao)(a2:Int){r:List Int}(h:Z8d a0 a1 a2=some r):Fn PR 26 [wL bf a0,wA (Z1 a1),wI a2] (wL (cI .i64) r):=FnG.frozen (C:=LT.RL (cI .i64) r/\True) (ZdB a0 a1 a2 h) ⟨rfl,ab⟩ bp
inductive rP where
 |L0 (v2:Int) (E0:au) (v8:List Int) (v9:Int)
def M7(v2:Int)(E0:au)(v8:List Int)(v9:Int):LT rP (List Int):=
.br (decide (v9<=v2)) (.callF (ZdA E0 v9) 290000 λx2=>.go (.L0 v2 x2.1 x2.2 (IntKind.wrap .i64 (v9+1))) [.pick [2,7,8,9] [3000,295100],.relab 295100 20008])<|.ret v8 [.relab 20008 5000]
def M1(a0:List an)(a1:ao)(a2:Int):LT rP (List Int):=
.lb 1004<|.cs (decide (a2<1)) (.k3 0<|.kn [0]<|.ret ([]:List Int) [.own 6 5000 1])<|.k3 0<|.br (decide (a2>8)) (.ret ([]:List Int) [.own 6 5000 1])<|.callF (Zc7 a0 a1) 190000 λx3=>.lb 1007<|.lb 1019<|.rl av x3.All<|.rl cB x3.Begun<|.rl (cL (cI .i64)) x3.Sets<|.rl cB x3.Blank<|.go (.L0 a2 x3 ([]:List Int) 1) [.relab 1007 3000,.relab 1019 20008,.frz 195019,.frz 195021,.frz 195022,.frz 195023]
def Z8e:LF rP (List Int) :=.m 27 [.t 6] true (λr=>[(5000,wR (cI .i64) 1 r)]) (λr=>(wO (cI .i64) 5000 r)) λ|.L0 v2 E0 v8 v9=>([1,1,1,1,0,1,4],⟨32,[(2,wI v2),(7,.bptr 3000 0),(8,wO (cI .i64) 20008 v8),(9,wI v9)],[(3000,.box (bx (dD E0))),(20008,wR (cI .i64) 1 v8)]⟩,M7 v2 E0 v8 v9)
def Aq:=λa0 a1 a2=>Z8e.run (M1 a0 a1 a2)
def ZdD(a0)(a1)(a2){r}(h:Aq a0 a1 a2=some r):FnG PR 27 [] [wL bf a0,wA (Z1 a1),wI a2] [(5000,wR (cI .i64) 1 r)] (wO (cI .i64) 5000 r):=Z8e.fn h
def ZdE(a0:List an)(a1:ao)(a2:Int){r:List Int}(h:Aq a0 a1 a2=some r):Fn PR 27 [wL bf a0,wA (Z1 a1),wI a2] (wL (cI .i64) r):=FnG.frozen (C:=LT.RL (cI .i64) r/\True) (ZdD a0 a1 a2 h) ⟨rfl,ab⟩ bp
def Z3y(a0:List an)(a1:ao)(a2:Int):LT Empty Bool:=
.lb 1004<|.call (Zv a0 a1) λx1=>.br (!x1) (.call (OJ) λx4=>.rt x4)<|.call (OJ) λx6=>.cs x6 (.k4 1<|.call (ZdC a0 a1 a2) λx9=>.k4 1<|.call (ZdE a0 a1 a2) λx11=>.kg 1<|.call (Z72 x9 x11) λx13=>.kg 1<|.rt x13)<|.k8 1<|.k2 1<|.rt false
def Z3z:LF Empty Bool :=.z0 9 [.t 6] wB
def M8:=λa0 a1 a2=>Z3z.run (Z3y a0 a1 a2)
def ZdF(a0)(a1)(a2){r}(h:M8 a0 a1 a2=some r):Fn PR 9 [wL bf a0,wA (Z1 a1),wI a2] (wB r):=Z3z.fn h
end
end Go.PW
