import Derived.Test.YtncgejlelfefdaaGreatQDb
set_option linter.all false
set_option maxRecDepth 100000
namespace Go.PW
open Go.RowKit
noncomputable section
def Zany(a0:Zb)(a1:Zv)(a2:Int)(a3:Int):LT Empty Zb:=
.lb 1004<|.lb 1005<|.lb 1008<|.call (Zafs a1) fun x1=>.br (!x1) (.rt a0)<|.br (a1.Kind==1) (.rt (⟨a0.Name,a0.Cost,a0.Colors,a0.Line,a0.Power,a0.Tough,a0.Keys,a0.Abilities,a2⟩:Zb))<|.br (a1.Kind==2) (.rt (⟨a0.Name,a0.Cost,a0.Colors,(⟨a0.Line.Super,a1.N,a0.Line.Subs⟩:Zaf),a0.Power,a0.Tough,a0.Keys,a0.Abilities,a0.Control⟩:Zb))<|.br (a1.Kind==3) (.rt (⟨a0.Name,a0.Cost,a0.Colors,(⟨a0.Line.Super,Zbl .or .i64 a0.Line.Types a1.N,a0.Line.Subs⟩:Zaf),a0.Power,a0.Tough,a0.Keys,a0.Abilities,a0.Control⟩:Zb))<|.br (a1.Kind==4) (.lb 1040<|.rl cS [a1.Sub]<|.rt (⟨a0.Name,a0.Cost,a0.Colors,(⟨a0.Line.Super,a0.Line.Types,[a1.Sub]⟩:Zaf),a0.Power,a0.Tough,a0.Keys,a0.Abilities,a0.Control⟩:Zb))<|.br (a1.Kind==5) (.callF (Zayp a0.Line a1.Sub) 500000 fun x9=>.rl cS x9.Subs<|.rt (⟨a0.Name,a0.Cost,a0.Colors,x9,a0.Power,a0.Tough,a0.Keys,a0.Abilities,a0.Control⟩:Zb))<|.br (a1.Kind==6) (.rt (⟨a0.Name,a0.Cost,a1.N,a0.Line,a0.Power,a0.Tough,a0.Keys,a0.Abilities,a0.Control⟩:Zb))<|.br (a1.Kind==7) (.rt (⟨a0.Name,a0.Cost,Zbl .or .i64 a0.Colors a1.N,a0.Line,a0.Power,a0.Tough,a0.Keys,a0.Abilities,a0.Control⟩:Zb))<|.br (a1.Kind==8) (.rt (⟨a0.Name,a0.Cost,a0.Colors,a0.Line,a0.Power,a0.Tough,Zbl .or .i64 a0.Keys a1.N,a0.Abilities,a0.Control⟩:Zb))<|.br (a1.Kind==9) (.rt (⟨a0.Name,a0.Cost,a0.Colors,a0.Line,a0.Power,a0.Tough,Zbl .andNot .i64 a0.Keys a1.N,a0.Abilities,a0.Control⟩:Zb))<|.br (a1.Kind==10) (.rt (⟨a0.Name,a0.Cost,a0.Colors,a0.Line,a0.Power,a0.Tough,0,([]:List Zh),a0.Control⟩:Zb))<|.br (a1.Kind==11) (.call (Ze1 a3) fun x17=>.call (Ze1 a3) fun x19=>.rt (⟨a0.Name,a0.Cost,a0.Colors,a0.Line,x17,x19,a0.Keys,a0.Abilities,a0.Control⟩:Zb))<|.br (a1.Kind==12) (.rt (⟨a0.Name,a0.Cost,a0.Colors,a0.Line,a1.N,a1.M,a0.Keys,a0.Abilities,a0.Control⟩:Zb))<|.br (a1.Kind==13) (.call (Zis a0.Power a1.N) fun x23=>.call (Zis a0.Tough a1.M) fun x25=>.rt (⟨a0.Name,a0.Cost,a0.Colors,a0.Line,x23,x25,a0.Keys,a0.Abilities,a0.Control⟩:Zb))<|.br (a1.Kind==14) (.rt (⟨a0.Name,a0.Cost,a0.Colors,a0.Line,a0.Tough,a0.Power,a0.Keys,a0.Abilities,a0.Control⟩:Zb))<|.rt a0
def Zanz:LF Empty Zb := .z0 173 [.c 8 72 true 17] (fun r=>(wA (Zp r)))
def Za1v:=fun a0 a1 a2 a3=>Zanz.run (Zany a0 a1 a2 a3)
theorem Za8k(a0)(a1)(a2)(a3){r}(h:Za1v a0 a1 a2 a3=some r):Fn PR 173 [wA (Zp a0),wA (Zu a1),wI a2,wI a3] (wA (Zp r)):=Zanz.fn h
inductive Zkx where
 | L0 (v2:Int) (v3:Int) (v4:List Int) (E0:Zb) (E1:Z8) (E2:Zb) (v11:Int) (v12:Int)
def Ztx(v2:Int)(v3:Int)(v4:List Int)(E0:Zb)(E1:Z8)(E2:Zb)(v11:Int)(v12:Int):LT Zkx Zb:=
.len Zu E1.Mods<|.br (decide (v12 < (E1.Mods.length:Int))) (.idx Zu E1.Mods v12 fun x3=>.call (Ztu x3.Kind) fun x5=>.br (x5==v2) (.ag Zu x3 0<|.idx (cI .i64) v4 v11 fun x8=>.call (Za8k E0 x3 v3 x8) fun x10=>.g0 (.L0 v2 v3 v4 x10 E1 E2 (IntKind.wrap .i64 (v11+1)) (IntKind.wrap .i64 (v12+1))))<|.g0 (.L0 v2 v3 v4 E0 E1 E2 v11 (IntKind.wrap .i64 (v12+1))))<|.rt E0
def Z8u(a0:Zb)(a1:Z8)(a2:Int)(a3:Int)(a4:List Int):LT Zkx Zb:=
.lb 1005<|.lb 1006<|.lb 1010<|.go (.L0 a2 a3 a4 a0 a1 (⟨([]:By),(⟨0,0,(⟨0,0,0,0,0⟩:A5 Int)⟩:Z2),0,(⟨0,0,([]:Bys)⟩:Zaf),0,0,0,([]:List Zh),0⟩:Zb) 0 0) [.relab 1005 3000,.relab 1006 3001,.relab 1010 3002,.ownb 3002 11 40211 1,.ownb 3002 15 40215 72]
def Z8v:LF Zkx Zb := .m0 119 [.c 10 72 true 17] (fun r=>(wA (Zp r))) fun | .L0 v2 v3 v4 E0 E1 E2 v11 v12=>([1,1,0,1,4],⟨44,[(2,wI v2),(3,wI v3),(4,wL (cI .i64) v4),(5,.bptr 3000 0),(6,.bptr 3001 0),(10,.bptr 3002 0),(11,wI v11),(12,wI v12)],[(3000,.box (bx (Zp E0))),(3001,.box (bx (Zt E1))),(3002,.box (tm2 E2 40200)),(40211,wR cS 1 E2.Line.Subs),(40215,wR Zr 72 E2.Abilities)]⟩,Ztx v2 v3 v4 E0 E1 E2 v11 v12)
def Z2g:=fun a0 a1 a2 a3 a4=>Z8v.run (Z8u a0 a1 a2 a3 a4)
theorem Zau1(a0)(a1)(a2)(a3)(a4){r}(h:Z2g a0 a1 a2 a3 a4=some r):Fn PR 119 [wA (Zp a0),wA (Zt a1),wI a2,wI a3,wL (cI .i64) a4] (wA (Zp r)):=Z8v.fn h
inductive Zqr where
 | L0 (v1:Int) (E0:Z8) (v5:Int)
def Zahy(v1:Int)(E0:Z8)(v5:Int):LT Zqr Bool:=
.len Zu E0.Mods<|.br (decide (v5 < (E0.Mods.length:Int))) (.idx Zu E0.Mods v5 fun x3=>.cs (x3.Kind==10) (.k4 1<|.ag Zu x3 0<|.k3 1<|.call (Ztu x3.Kind) fun x6=>.k3 1<|.br (x6==v1) (.rt true)<|.g0 (.L0 v1 E0 (IntKind.wrap .i64 (v5+1))))<|.k8 1<|.k2 1<|.kn [0]<|.g0 (.L0 v1 E0 (IntKind.wrap .i64 (v5+1))))<|.rt false
def Zan0(a0:Z8)(a1:Int):LT Zqr Bool:=
.lb 1002<|.go (.L0 a1 a0 0) [.relab 1002 3000]
def Z6m:LF Zqr Bool := .m0 120 [.t 4] wB fun | .L0 v1 E0 v5=>([1,0,1,4],⟨31,[(1,wI v1),(2,.bptr 3000 0),(5,wI v5)],[(3000,.box (bx (Zt E0)))]⟩,Zahy v1 E0 v5)
def Za1w:=fun a0 a1=>Z6m.run (Zan0 a0 a1)
theorem Za8l(a0)(a1){r}(h:Za1w a0 a1=some r):Fn PR 120 [wA (Zt a0),wI a1] (wB r):=Z6m.fn h
inductive Zmu where
 | L0 (v1:Int) (v2:Int) (E0:Zk) (E1:Zk) (v7:List Int) (v8:List Int) (v9:Int) (E2:Zk) (v11:Int)
def Z8w(v1:Int)(v2:Int)(E0:Zk)(E1:Zk)(v7:List Int)(v8:List Int)(v9:Int)(E2:Zk)(v11:Int):LT Zmu Zk:=
.len Zi E0.S.Objects<|.br (decide (v11 < (E0.S.Objects.length:Int))) (.idx Zi E0.S.Objects v11 fun x3=>.call (Zauu v7 x3.Id) fun x5=>.br (!x5) (.g0 (.L0 v1 v2 E0 E1 v7 v8 v9 E2 (IntKind.wrap .i64 (v11+1))))<|.idx Zp E0.All v11 fun x10=>.idx Zt E0.L v1 fun x12=>.call (Zau1 x10 x12 v2 v9 v8) fun x14=>.idxR Zp E2.All v11 fun x16=>.setR Zp E2.All v11 x16 x14 11 0 [.str x14.Name,.int .i64 x14.Cost.Generic,.int .i64 x14.Cost.X,.int .i64 x14.Cost.Color.a0,.int .i64 x14.Cost.Color.a1,.int .i64 x14.Cost.Color.a2,.int .i64 x14.Cost.Color.a3,.int .i64 x14.Cost.Color.a4,.int .i64 x14.Colors,.int .i64 x14.Line.Super,.int .i64 x14.Line.Types,.sl (List.map cS x14.Line.Subs),.int .i64 x14.Power,.int .i64 x14.Tough,.int .i64 x14.Keys,.sl (List.map Zr x14.Abilities),.int .i64 x14.Control] rfl fun x18=>.dr [.ahead 101,.relen 40219,.stop]<|.us [12]<|.us [12]<|.us [12]<|.ag Zt x12 6<|.call (Za8l x12 v2) fun x20=>.br x20 (.idxR cB E2.Blank v11 fun x23=>.setR cB E2.Blank v11 x23 true 15 0 [.bool true] rfl fun x25=>.dr [.ahead 71,.relen 40223,.stop]<|.us [16]<|.us [16]<|.us [16]<|.g0 (.L0 v1 v2 E0 E1 v7 v8 v9 (⟨E2.S,x18,E2.L,E2.Begun,E2.Sets,x25⟩:Zk) (IntKind.wrap .i64 (v11+1))))<|.g0 (.L0 v1 v2 E0 E1 v7 v8 v9 (⟨E2.S,x18,E2.L,E2.Begun,E2.Sets,E2.Blank⟩:Zk) (IntKind.wrap .i64 (v11+1))))<|.rl Zp E2.All<|.rl cB E2.Begun<|.rl (cL (cI .i64)) E2.Sets<|.rl cB E2.Blank<|.rt E2
def Zadl(a0:Zk)(a1:Int)(a2:Int):LT Zmu Zk:=
.lb 1003<|.lb 1006<|.call (Zq5 a0 a1) fun x1=>.br (!x1) (.rt a0)<|.call (Zvt a0 a1) fun x4=>.call (Zvu a0 a1 a2) fun x6=>.call (Z0q a0 a1) fun x8=>.lb 1010<|.apN Zp 1036 176 a0.All fun x10=>.apN cB 1042 1 a0.Begun fun x13=>.apN (cL (cI .i64)) 1048 24 a0.Sets fun x16=>.apN cB 1054 1 a0.Blank fun x19=>.idxR cB x13 a1 fun x22=>.setR cB x13 a1 x22 true 2 0 [.bool true] rfl fun x24=>.dr [.ahead 60,.relen 1042,.stop]<|.us [3]<|.us [3]<|.us [3]<|.us [3]<|.idxR (cL (cI .i64)) x16 a1 fun x26=>.setR (cL (cI .i64)) x16 a1 x26 x4 6 0 [.sl (List.map (cI .i64) x4)] rfl fun x28=>.dr [.ahead 11,.relen 1048,.stop]<|.us [7]<|.us [7]<|.us [7]<|.us [7]<|.go (.L0 a1 a2 a0 (⟨(⟨([]:List Z9),([]:List Zc),([]:List Int),([]:List Int),([]:List Zai),([]:List Zad),([]:List Zap),0,0,0,false,0,0,0,0,0,([]:List Int),0,0⟩:Za),([]:List Zb),([]:List Z8),([]:List Bool),([]:List (List Int)),([]:List Bool)⟩:Zk) x4 x6 x8 (⟨a0.S,x10,a0.L,x24,x28,x19⟩:Zk) 0) [.relab 1003 3000,.relab 1006 3001,.relab 1010 3002,.ownb 3001 0 40100 14,.ownb 3001 1 40101 19,.ownb 3001 2 40102 1,.ownb 3001 3 40103 1,.ownb 3001 4 40104 94,.ownb 3001 5 40105 89,.ownb 3001 6 40106 6,.ownb 3001 16 40116 1,.ownb 3001 19 40119 17,.ownb 3001 20 40120 23,.ownb 3001 21 40121 1,.ownb 3001 22 40122 1,.ownb 3001 23 40123 1,.relab 1036 40219,.relab 1042 40221,.relab 1048 40222,.relab 1054 40223]
def Zy5:LF Zmu Zk := .m0 64 [.c 6 93 true 24] (fun r=>(wA (Zak r))) fun | .L0 v1 v2 E0 E1 v7 v8 v9 E2 v11=>([1,1,1,1,1,1,1,1,1,1,1,1,0,1,4],⟨113,[(1,wI v1),(2,wI v2),(3,.bptr 3000 0),(6,.bptr 3001 0),(7,wL (cI .i64) v7),(8,wL (cI .i64) v8),(9,wI v9),(10,.bptr 3002 0),(11,wI v11)],((3000,.box (bx (Zak E0)))::(3001,.box (tm5 E1 40100))::(40100,wR Zq 14 E1.S.Players)::(40101,wR Zi 19 E1.S.Objects)::(40102,wR (cI .i64) 1 E1.S.Battlefield)::(40103,wR (cI .i64) 1 E1.S.Exile)::(40104,wR Z3 94 E1.S.Stack)::(40105,wR Zx 89 E1.S.Waiting)::(40106,wR Z7 6 E1.S.Conts)::(40116,wR (cI .i64) 1 E1.S.Extra)::(40119,wR Zp 17 E1.All)::(40120,wR Zt 23 E1.L)::(40121,wR cB 1 E1.Begun)::(40122,wR (cL (cI .i64)) 1 E1.Sets)::(40123,wR cB 1 E1.Blank)::(3002,.box (tm7 E2 40200))::(tm30 E2 40200))⟩,Z8w v1 v2 E0 E1 v7 v8 v9 E2 v11)
def Zan1:=fun a0 a1 a2=>Zy5.run (Zadl a0 a1 a2)
theorem Z8x(a0)(a1)(a2){r}(h:Zan1 a0 a1 a2=some r):Fn PR 64 [wA (Zak a0),wI a1,wI a2] (wA (Zak r)):=Zy5.fn h
inductive Zty where
 | L0 (v0:List Int) (v1:List Int) (v5:Int)
def Zan2(v0:List Int)(v1:List Int)(v5:Int):LT Zty Bool:=
.len (cI .i64) v0<|.br (decide (v5 < (v0.length:Int))) (.idx (cI .i64) v0 v5 fun x3=>.idx (cI .i64) v1 v5 fun x5=>.br (x3 != x5) (.rt false)<|.g0 (.L0 v0 v1 (IntKind.wrap .i64 (v5+1))))<|.rt true
def Zau2(a0:List Int)(a1:List Int):LT Zty Bool:=
.len (cI .i64) a0<|.len (cI .i64) a1<|.br ((a0.length:Int) != (a1.length:Int)) (.rt false)<|.g0 (.L0 a0 a1 0)
def Zabb:LF Zty Bool := .m0 46 [.t 4] wB fun | .L0 v0 v1 v5=>([1,1,0,1,4],⟨26,[(0,wL (cI .i64) v0),(1,wL (cI .i64) v1),(5,wI v5)],[]⟩,Zan2 v0 v1 v5)
def Za8m:=fun a0 a1=>Zabb.run (Zau2 a0 a1)
theorem Zhr(a0)(a1){r}(h:Za8m a0 a1=some r):Fn PR 46 [wL (cI .i64) a0,wL (cI .i64) a1] (wB r):=Zabb.fn h
def Zan3(a0:Zk)(a1:Int)(a2:Int)(a3:Int):LT Empty Bool:=
.lb 1004<|.br (a1==a2) (.rt false)<|.call (Z8x a0 a2 a3) fun x2=>.lb 1009<|.call (Zq5 a0 a1) fun x4=>.call (Zq5 x2 a1) fun x6=>.cs (!(x4==x6)) (.k8 1<|.kg 1<|.b8 true<|.b3 true<|.rt true)<|.k3 1<|.call (Zvt a0 a1) fun x9=>.k3 1<|.call (Zvt x2 a1) fun x11=>.kg 1<|.call (Zhr x9 x11) fun x13=>.k2 1<|.cs (!x13) (.k8 2<|.k3 2<|.rt true)<|.k4 2<|.call (Zvu a0 a1 a3) fun x16=>.k4 2<|.call (Zvu x2 a1 a3) fun x18=>.kg 2<|.call (Zhr x16 x18) fun x20=>.k2 2<|.rt (!x20)
def Zan4:LF Empty Bool := .z0 112 [.t 8] wB
def Za1x:=fun a0 a1 a2 a3=>Zan4.run (Zan3 a0 a1 a2 a3)
theorem Za8n(a0)(a1)(a2)(a3){r}(h:Za1x a0 a1 a2 a3=some r):Fn PR 112 [wA (Zak a0),wI a1,wI a2,wI a3] (wB r):=Zan4.fn h
inductive Zx4 where
 | L0 (v0:List Int) (v1:Int) (v5:Int)
def Zau3(v0:List Int)(v1:Int)(v5:Int):LT Zx4 Bool:=
.len (cI .i64) v0<|.br (decide (v5 < (v0.length:Int))) (.idx (cI .i64) v0 v5 fun x3=>.br (x3==v1) (.rt true)<|.g0 (.L0 v0 v1 (IntKind.wrap .i64 (v5+1))))<|.rt false
def Za1y(a0:List Int)(a1:Int):LT Zx4 Bool:=
.g0 (.L0 a0 a1 0)
def Zahz:LF Zx4 Bool := .m0 208 [.t 4] wB fun | .L0 v0 v1 v5=>([1,0,1,4],⟨18,[(0,wL (cI .i64) v0),(1,wI v1),(5,wI v5)],[]⟩,Zau3 v0 v1 v5)
def Zbc5:=fun a0 a1=>Zahz.run (Za1y a0 a1)
theorem Zabc(a0)(a1){r}(h:Zbc5 a0 a1=some r):Fn PR 208 [wL (cI .i64) a0,wI a1] (wB r):=Zahz.fn h
inductive Zky where
 | L0 (v0:List Int) (v3:List Int) (v4:Int)
def Z41(v0:List Int)(v3:List Int)(v4:Int):LT Zky (List Int):=
.len (cI .i64) v0<|.br (decide (v4 < (v0.length:Int))) (.idx (cI .i64) v0 v4 fun x3=>.cs (decide (x3>=0)) (.k4 1<|.ag (cI .i64) x3 0<|.k2 1<|.rl (cI .i64) v3<|.call (Zabc v3 x3) fun x6=>.k2 1<|.br (!x6) (.ag (cI .i64) x3 0<|.dr [.lit]<|.apR (cI .i64) 8 v3 [x3] fun x9=>.g0 (.L0 v0 x9 (IntKind.wrap .i64 (v4+1))))<|.g0 (.L0 v0 v3 (IntKind.wrap .i64 (v4+1))))<|.k8 1<|.kn [0]<|.g0 (.L0 v0 v3 (IntKind.wrap .i64 (v4+1))))<|.ret v3 [.relab 20003 5000]
def Z8y(a0:List Int):LT Zky (List Int):=
.go (.L0 a0 ([]:List Int) 0) [.own 3 20003 1]
def Zvv:LF Zky (List Int) := .m 206 [.t 2] true (fun r=>[(5000,wR (cI .i64) 1 r)]) (fun r=>(wO (cI .i64) 5000 r)) fun | .L0 v0 v3 v4=>([1,1,0,1,4],⟨33,[(0,wL (cI .i64) v0),(3,wO (cI .i64) 20003 v3),(4,wI v4)],[(20003,wR (cI .i64) 1 v3)]⟩,Z41 v0 v3 v4)
def Z2h:=fun a0=>Zvv.run (Z8y a0)
theorem Zap1(a0){r}(h:Z2h a0=some r):FnG PR 206 [] [wL (cI .i64) a0] [(5000,wR (cI .i64) 1 r)] (wO (cI .i64) 5000 r):=Zvv.fn h
theorem Zau4(a0:List Int){r:List Int}(h:Z2h a0=some r):Fn PR 206 [wL (cI .i64) a0] (wL (cI .i64) r):=
 FnG.frozen (C:=LT.RL (cI .i64) r/\True) (Zap1 a0 h) ⟨rfl,trivial⟩ (by kernel_rfl)
def Zau5(a0:List (List Bool))(a1:Int)(a2:Int):LT Empty Bool:=
.len (cL cB) a0<|.cs (decide (a1 < (a0.length:Int))) (.k4 0<|.idx (cL cB) a0 a1 fun x3=>.k2 0<|.len cB x3<|.k2 0<|.cs (decide (a2 < (x3.length:Int))) (.k3 1<|.ag (cL cB) x3 0<|.k3 1<|.idx cB x3 a2 fun x7=>.k2 1<|.rt x7)<|.k8 1<|.rt false)<|.k8 0<|.b8 false<|.rt false
def Zau6:LF Empty Bool := .z0 207 [.t 6] wB
def Za8o:=fun a0 a1 a2=>Zau6.run (Zau5 a0 a1 a2)
theorem Z6n(a0)(a1)(a2){r}(h:Za8o a0 a1 a2=some r):Fn PR 207 [wL (cL cB) a0,wI a1,wI a2] (wB r):=Zau6.fn h
inductive Zig where
 | L0 (v0:List Int) (v1:List (List Bool)) (v2:Int) (v7:List Int) (v8:Int)
 | L1 (v0:List Int) (v1:List (List Bool)) (v7:List Int) (v9:Int)
 | L2 (v0:List Int) (v1:List (List Bool)) (v7:List Int) (v9:Int) (v10:Int)
def Z8z(v0:List Int)(v1:List (List Bool))(v2:Int)(v7:List Int)(v8:Int):LT Zig (List Int):=
.len (cI .i64) v0<|.br (decide (v8 < (v0.length:Int))) (.idx (cI .i64) v0 v8 fun x3=>.call (Z6n v1 v2 x3) fun x5=>.br x5 (.ag (cI .i64) x3 0<|.dr [.lit]<|.apR (cI .i64) 8 v7 [x3] fun x8=>.g0 (.L0 v0 v1 v2 x8 (IntKind.wrap .i64 (v8+1))))<|.g0 (.L0 v0 v1 v2 v7 (IntKind.wrap .i64 (v8+1))))<|.g0 (.L1 v0 v1 v7 0)
def Z80(v0:List Int)(v1:List (List Bool))(v7:List Int)(v9:Int):LT Zig (List Int):=
.lenO (cI .i64) v7<|.br (decide (v9 < (v7.length:Int))) (.g0 (.L2 v0 v1 v7 v9 0))<|.ret v7 [.relab 20007 5000]
def Z81(v0:List Int)(v1:List (List Bool))(v7:List Int)(v9:Int)(v10:Int):LT Zig (List Int):=
.len (cI .i64) v0<|.br (decide (v10 < (v0.length:Int))) (.idxR (cI .i64) v7 v9 fun x3=>.ldR (cI .i64) v7 x3 2<|.idx (cI .i64) v0 v10 fun x5=>.call (Z6n v1 x3 x5) fun x7=>.cs x7 (.k4 1<|.ag (cI .i64) x5 3<|.k2 1<|.rl (cI .i64) v7<|.call (Zabc v7 x5) fun x10=>.k2 1<|.br (!x10) (.ag (cI .i64) x5 3<|.dr [.lit]<|.apR (cI .i64) 8 v7 [x5] fun x13=>.g0 (.L2 v0 v1 x13 v9 (IntKind.wrap .i64 (v10+1))))<|.g0 (.L2 v0 v1 v7 v9 (IntKind.wrap .i64 (v10+1))))<|.k8 1<|.kn [0]<|.g0 (.L2 v0 v1 v7 v9 (IntKind.wrap .i64 (v10+1))))<|.g0 (.L1 v0 v1 v7 (IntKind.wrap .i64 (v9+1)))
def Zadm(a0:List Int)(a1:List (List Bool))(a2:Int):LT Zig (List Int):=
.go (.L0 a0 a1 a2 ([]:List Int) 0) [.own 7 20007 1]
def Zmv:LF Zig (List Int) := .m 209 [.t 6] true (fun r=>[(5000,wR (cI .i64) 1 r)]) (fun r=>(wO (cI .i64) 5000 r)) fun | .L0 v0 v1 v2 v7 v8=>([1,1,0,1,4],⟨70,[(0,wL (cI .i64) v0),(1,wL (cL cB) v1),(2,wI v2),(7,wO (cI .i64) 20007 v7),(8,wI v8)],[(20007,wR (cI .i64) 1 v7)]⟩,Z8z v0 v1 v2 v7 v8) | .L1 v0 v1 v7 v9=>([1,1,1,0,1,4],⟨70,[(0,wL (cI .i64) v0),(1,wL (cL cB) v1),(7,wO (cI .i64) 20007 v7),(9,wI v9)],[(20007,wR (cI .i64) 1 v7)]⟩,Z80 v0 v1 v7 v9) | .L2 v0 v1 v7 v9 v10=>([1,1,1,0,1,4,5,1,0,4,1,4],⟨70,[(0,wL (cI .i64) v0),(1,wL (cL cB) v1),(7,wO (cI .i64) 20007 v7),(9,wI v9),(10,wI v10)],[(20007,wR (cI .i64) 1 v7)]⟩,Z81 v0 v1 v7 v9 v10)
def Z6o:=fun a0 a1 a2=>Zmv.run (Zadm a0 a1 a2)
theorem Zau7(a0)(a1)(a2){r}(h:Z6o a0 a1 a2=some r):FnG PR 209 [] [wL (cI .i64) a0,wL (cL cB) a1,wI a2] [(5000,wR (cI .i64) 1 r)] (wO (cI .i64) 5000 r):=Zmv.fn h
theorem Zayq(a0:List Int)(a1:List (List Bool))(a2:Int){r:List Int}(h:Z6o a0 a1 a2=some r):Fn PR 209 [wL (cI .i64) a0,wL (cL cB) a1,wI a2] (wL (cI .i64) r):=
 FnG.frozen (C:=LT.RL (cI .i64) r/\True) (Zau7 a0 a1 a2 h) ⟨rfl,trivial⟩ (by kernel_rfl)
inductive Znb where
 | L0 (v1:List (List Bool)) (v5:List Int) (v6:List Int) (v7:Int)
 | L1 (v1:List (List Bool)) (v5:List Int) (v6:List Int) (v7:Int) (v8:Bool) (v9:Int)
def Zah0(v1:List (List Bool))(v5:List Int)(v6:List Int)(v7:Int):LT Znb (List Int):=
.len (cI .i64) v5<|.br (decide (v7 < (v5.length:Int))) (.g0 (.L1 v1 v5 v6 v7 true 0))<|.ret v6 [.relab 20006 5000]
def Zah1(v1:List (List Bool))(v5:List Int)(v6:List Int)(v7:Int)(v8:Bool)(v9:Int):LT Znb (List Int):=
.len (cI .i64) v5<|.br (decide (v9 < (v5.length:Int))) (.cs (v9 != v7) (.k4 1<|.idx (cI .i64) v5 v7 fun x4=>.k4 1<|.idx (cI .i64) v5 v9 fun x6=>.k2 1<|.call (Z6n v1 x4 x6) fun x8=>.kg 1<|.cs x8 (.k5 2<|.ag (cI .i64) x6 3<|.k2 2<|.call (Zayq v5 v1 x6) fun x11=>.k3 2<|.ag (cI .i64) x4 0<|.k2 2<|.call (Zabc x11 x4) fun x13=>.k2 2<|.br (!x13) (.g0 (.L1 v1 v5 v6 v7 false (IntKind.wrap .i64 (v9+1))))<|.g0 (.L1 v1 v5 v6 v7 v8 (IntKind.wrap .i64 (v9+1))))<|.k8 2<|.k5 2<|.kg 2<|.kn [0]<|.g0 (.L1 v1 v5 v6 v7 v8 (IntKind.wrap .i64 (v9+1))))<|.k8 1<|.k3 1<|.b8 false<|.b5 false<|.kb false<|.kn [0]<|.g0 (.L1 v1 v5 v6 v7 v8 (IntKind.wrap .i64 (v9+1))))<|.br v8 (.idx (cI .i64) v5 v7 fun x25=>.dr [.lit]<|.apR (cI .i64) 8 v6 [x25] fun x27=>.g0 (.L0 v1 v5 x27 (IntKind.wrap .i64 (v7+1))))<|.g0 (.L0 v1 v5 v6 (IntKind.wrap .i64 (v7+1)))
def Zan5(a0:List Int)(a1:List (List Bool)):LT Znb (List Int):=
.call (Zau4 a0) fun x1=>.go (.L0 a1 x1 ([]:List Int) 0) [.own 6 20006 1]
def Zwt:LF Znb (List Int) := .m 167 [.t 4] true (fun r=>[(5000,wR (cI .i64) 1 r)]) (fun r=>(wO (cI .i64) 5000 r)) fun | .L0 v1 v5 v6 v7=>([1,1,1,0,1,4],⟨63,[(1,wL (cL cB) v1),(5,wL (cI .i64) v5),(6,wO (cI .i64) 20006 v6),(7,wI v7)],[(20006,wR (cI .i64) 1 v6)]⟩,Zah0 v1 v5 v6 v7) | .L1 v1 v5 v6 v7 v8 v9=>([1,1,1,0,1,4,5,1,0,4,1,0,1,4],⟨63,[(1,wL (cL cB) v1),(5,wL (cI .i64) v5),(6,wO (cI .i64) 20006 v6),(7,wI v7),(8,wB v8),(9,wI v9)],[(20006,wR (cI .i64) 1 v6)]⟩,Zah1 v1 v5 v6 v7 v8 v9)
def Zah2:=fun a0 a1=>Zwt.run (Zan5 a0 a1)
theorem Za2w(a0)(a1){r}(h:Zah2 a0 a1=some r):FnG PR 167 [] [wL (cI .i64) a0,wL (cL cB) a1] [(5000,wR (cI .i64) 1 r)] (wO (cI .i64) 5000 r):=Zwt.fn h
theorem Za8p(a0:List Int)(a1:List (List Bool)){r:List Int}(h:Zah2 a0 a1=some r):Fn PR 167 [wL (cI .i64) a0,wL (cL cB) a1] (wL (cI .i64) r):=
 FnG.frozen (C:=LT.RL (cI .i64) r/\True) (Za2w a0 a1 h) ⟨rfl,trivial⟩ (by kernel_rfl)
def Zan6(a0:List Int)(a1:Int):LT Empty Int:=
.len (cI .i64) a0<|.br (decide (a1 < (a0.length:Int))) (.idx (cI .i64) a0 a1 fun x3=>.rt x3)<|.rt 0
def Zan7:LF Empty Int := .z0 168 [.t 4] wI
def Za1z:=fun a0 a1=>Zan7.run (Zan6 a0 a1)
theorem Z2i(a0)(a1){r}(h:Za1z a0 a1=some r):Fn PR 168 [wL (cI .i64) a0,wI a1] (wI r):=Zan7.fn h
inductive Ztz where
 | L0 (v1:List Int) (v7:List Int) (v8:Int) (v9:Int)
def Zan8(v1:List Int)(v7:List Int)(v8:Int)(v9:Int):LT Ztz Int:=
.len (cI .i64) v7<|.br (decide (v9 < (v7.length:Int))) (.idx (cI .i64) v7 v9 fun x3=>.call (Z2i v1 x3) fun x5=>.cs (decide (v8 < 0)) (.k5 1<|.kg 1<|.b8 true<|.kn [0]<|.ag (cI .i64) x3 0<|.g0 (.L0 v1 v7 x3 (IntKind.wrap .i64 (v9+1))))<|.k4 1<|.call (Z2i v1 v8) fun x10=>.k2 1<|.cs (decide (x5 < x10)) (.k8 2<|.kn [0]<|.ag (cI .i64) x3 0<|.g0 (.L0 v1 v7 x3 (IntKind.wrap .i64 (v9+1))))<|.k4 2<|.call (Z2i v1 v8) fun x15=>.k2 2<|.cs (x5==x15) (.k3 3<|.ag (cI .i64) x3 0<|.k3 3<|.kg 2<|.kg 3<|.kg 2<|.br (decide (x3 < v8)) (.ag (cI .i64) x3 0<|.g0 (.L0 v1 v7 x3 (IntKind.wrap .i64 (v9+1))))<|.g0 (.L0 v1 v7 v8 (IntKind.wrap .i64 (v9+1))))<|.k5 3<|.kg 3<|.kg 2<|.kg 3<|.kg 2<|.kn [0]<|.g0 (.L0 v1 v7 v8 (IntKind.wrap .i64 (v9+1))))<|.rt v8
def Zau8(a0:List Int)(a1:List Int)(a2:List (List Bool)):LT Ztz Int:=
.call (Za8p a0 a2) fun x1=>.g0 (.L0 a1 x1 (-1) 0)
def Zabd:LF Ztz Int := .m0 113 [.t 6] wI fun | .L0 v1 v7 v8 v9=>([1,1,1,0,1,4],⟨55,[(1,wL (cI .i64) v1),(7,wL (cI .i64) v7),(8,wI v8),(9,wI v9)],[]⟩,Zan8 v1 v7 v8 v9)
def Za8q:=fun a0 a1 a2=>Zabd.run (Zau8 a0 a1 a2)
theorem Zbbp(a0)(a1)(a2){r}(h:Za8q a0 a1 a2=some r):Fn PR 113 [wL (cI .i64) a0,wL (cI .i64) a1,wL (cL cB) a2] (wI r):=Zabd.fn h
inductive Zl6 where
 | L0 (v1:List Int) (v2:Int) (E0:Zk) (v7:List Int) (v8:List (List Bool)) (v9:Int)
 | L1 (v1:List Int) (v2:Int) (E0:Zk) (v7:List Int) (v8:List (List Bool)) (v10:Int)
 | L2 (v1:List Int) (v2:Int) (E0:Zk) (v7:List Int) (v8:List (List Bool)) (v10:Int) (v11:Int)
def Zan9(v1:List Int)(v2:Int)(E0:Zk)(v7:List Int)(v8:List (List Bool))(v9:Int):LT Zl6 Int:=
.len Zt E0.L<|.br (decide (v9 < (E0.L.length:Int))) (.idx Zt E0.L v9 fun x3=>.dr [.lit]<|.apR (cI .i64) 8 v7 [x3.Stamp] fun x5=>.len Zt E0.L<|.mk cB 1034 1 false (E0.L.length:Int) (E0.L.length:Int) fun x8=>.mkM cB 1035 1034 x8<|.apM cB 24 v8 x8 fun x10=>.g0 (.L0 v1 v2 E0 x5 x10 (IntKind.wrap .i64 (v9+1))))<|.g0 (.L1 v1 v2 E0 v7 v8 0)
def Zaoa(v1:List Int)(v2:Int)(E0:Zk)(v7:List Int)(v8:List (List Bool))(v10:Int):LT Zl6 Int:=
.len (cI .i64) v1<|.br (decide (v10 < (v1.length:Int))) (.g0 (.L2 v1 v2 E0 v7 v8 v10 0))<|.rl (cI .i64) v7<|.rl (cL cB) v8<|.call (Zbbp v1 v7 v8) fun x3=>.rt x3
def Zaob(v1:List Int)(v2:Int)(E0:Zk)(v7:List Int)(v8:List (List Bool))(v10:Int)(v11:Int):LT Zl6 Int:=
.len (cI .i64) v1<|.br (decide (v11 < (v1.length:Int))) (.idx (cI .i64) v1 v10 fun x3=>.idM cB v8 x3 fun x5=>.ldM cB v8 3<|.idx (cI .i64) v1 v11 fun x7=>.ag (cI .i64) x3 0<|.ag (cI .i64) x7 5<|.call (Za8n E0 x3 x7 v2) fun x9=>.idN cB v8 x5 x7 3 fun x11=>.stM cB v8 x3 x5 x7 x9 3 8 fun x13=>.dr [.ahead 47,.relen 20008,.stop]<|.us [9]<|.us [9]<|.g0 (.L2 v1 v2 E0 v7 x13 v10 (IntKind.wrap .i64 (v11+1))))<|.g0 (.L1 v1 v2 E0 v7 v8 (IntKind.wrap .i64 (v10+1)))
def Zau9(a0:Zk)(a1:List Int)(a2:Int):LT Zl6 Int:=
.lb 1003<|.lb 1012<|.m0 1013<|.go (.L0 a1 a2 a0 ([]:List Int) ([]:List (List Bool)) 0) [.relab 1003 3000,.relab 1012 20007,.relab 1013 20008]
def Zt0:LF Zl6 Int := .m0 63 [.t 6] wI fun | .L0 v1 v2 E0 v7 v8 v9=>([1,1,1,0,1,4],⟨76,[(1,wL (cI .i64) v1),(2,wI v2),(3,.bptr 3000 0),(7,wO (cI .i64) 20007 v7),(8,wM (cL cB) 20008 v8),(9,wI v9)],[(3000,.box (bx (Zak E0))),(20007,wR (cI .i64) 1 v7),(20008,wT (cL cB) v8)]⟩,Zan9 v1 v2 E0 v7 v8 v9) | .L1 v1 v2 E0 v7 v8 v10=>([1,1,1,1,0,1,4],⟨76,[(1,wL (cI .i64) v1),(2,wI v2),(3,.bptr 3000 0),(7,wO (cI .i64) 20007 v7),(8,wM (cL cB) 20008 v8),(10,wI v10)],[(3000,.box (bx (Zak E0))),(20007,wR (cI .i64) 1 v7),(20008,wT (cL cB) v8)]⟩,Zaoa v1 v2 E0 v7 v8 v10) | .L2 v1 v2 E0 v7 v8 v10 v11=>([1,1,1,1,0,1,4,5,1,0,4,1,4],⟨76,[(1,wL (cI .i64) v1),(2,wI v2),(3,.bptr 3000 0),(7,wO (cI .i64) 20007 v7),(8,wM (cL cB) 20008 v8),(10,wI v10),(11,wI v11)],[(3000,.box (bx (Zak E0))),(20007,wR (cI .i64) 1 v7),(20008,wT (cL cB) v8)]⟩,Zaob v1 v2 E0 v7 v8 v10 v11)
def Za8r:=fun a0 a1 a2=>Zt0.run (Zau9 a0 a1 a2)
theorem Zbbq(a0)(a1)(a2){r}(h:Za8r a0 a1 a2=some r):Fn PR 63 [wA (Zak a0),wL (cI .i64) a1,wI a2] (wI r):=Zt0.fn h
inductive Zmw where
 | L0 (v0:List Int) (v1:Int) (v5:List Int) (v6:Int)
def Z82(v0:List Int)(v1:Int)(v5:List Int)(v6:Int):LT Zmw (List Int):=
.len (cI .i64) v0<|.br (decide (v6 < (v0.length:Int))) (.idx (cI .i64) v0 v6 fun x3=>.br (x3 != v1) (.ag (cI .i64) x3 0<|.dr [.lit]<|.apR (cI .i64) 8 v5 [x3] fun x6=>.g0 (.L0 v0 v1 x6 (IntKind.wrap .i64 (v6+1))))<|.g0 (.L0 v0 v1 v5 (IntKind.wrap .i64 (v6+1))))<|.ret v5 [.relab 20005 5000]
def Zadn(a0:List Int)(a1:Int):LT Zmw (List Int):=
.go (.L0 a0 a1 ([]:List Int) 0) [.own 5 20005 1]
def Zy6:LF Zmw (List Int) := .m 65 [.t 4] true (fun r=>[(5000,wR (cI .i64) 1 r)]) (fun r=>(wO (cI .i64) 5000 r)) fun | .L0 v0 v1 v5 v6=>([1,1,0,1,4],⟨27,[(0,wL (cI .i64) v0),(1,wI v1),(5,wO (cI .i64) 20005 v5),(6,wI v6)],[(20005,wR (cI .i64) 1 v5)]⟩,Z82 v0 v1 v5 v6)
def Zaoc:=fun a0 a1=>Zy6.run (Zadn a0 a1)
theorem Zava(a0)(a1){r}(h:Zaoc a0 a1=some r):FnG PR 65 [] [wL (cI .i64) a0,wI a1] [(5000,wR (cI .i64) 1 r)] (wO (cI .i64) 5000 r):=Zy6.fn h
inductive Zkz where
 | L0 (v1:Int) (E0:Zk) (E1:Zk) (v6:List Int) (v7:Int)
 | L1 (v1:Int) (E0:Zk) (E1:Zk) (v6:List Int) (v8:List Int) (v9:Int) (v10:Int)
def Zado(v1:Int)(E0:Zk)(E1:Zk)(v6:List Int)(v7:Int):LT Zkz (Zk×(List Int)):=
.len Zt E0.L<|.br (decide (v7 < (E0.L.length:Int))) (.idx Zt E0.L v7 fun x3=>.call (Zaym x3 v1) fun x5=>.br x5 (.dr [.lit]<|.apR (cI .i64) 8 v6 [v7] fun x8=>.g0 (.L0 v1 E0 E1 x8 (IntKind.wrap .i64 (v7+1))))<|.g0 (.L0 v1 E0 E1 v6 (IntKind.wrap .i64 (v7+1))))<|.lb 1035<|.lenO (cI .i64) v6<|.go (.L1 v1 E0 E1 v6 ([]:List Int) (v6.length:Int) 0) [.relab 1035 20008]
def Zadp(v1:Int)(E0:Zk)(E1:Zk)(v6:List Int)(v8:List Int)(v9:Int)(v10:Int):LT Zkz (Zk×(List Int)):=
.br (decide (v10 < v9)) (.rl (cI .i64) v6<|.call (Zbbq E0 v6 v1) fun x2=>.dr [.lit]<|.apR (cI .i64) 8 v8 [x2] fun x4=>.call (Z8x E0 x2 v1) fun x7=>.rl (cI .i64) v6<|.callS (Zava v6 x2) 580000 (fun _=>⟨rfl,Z1b (cI .i64) (fun _=>rfl) _,trivial⟩) fun x9=>.go (.L1 v1 x7 E1 x9 x4 v9 (IntKind.wrap .i64 (v10+1))) [.pick [1,2,4,6,8,9,10] [585000,3000,20008,3001,40100,40101,40102,40103,40104,40105,40106,40116,40119,40120,40121,40122,40123],.relab 585000 20006])<|.ret (E0,v8) [.relab 20008 5100]
def Zah3(a0:Zk)(a1:Int):LT Zkz (Zk×(List Int)):=
.lb 1002<|.lb 1004<|.br (a1==7) (.callF (Zaus a0) 160000 fun x2=>.lb 1016<|.rl Zp x2.All<|.go (.L0 a1 x2 (⟨(⟨([]:List Z9),([]:List Zc),([]:List Int),([]:List Int),([]:List Zai),([]:List Zad),([]:List Zap),0,0,0,false,0,0,0,0,0,([]:List Int),0,0⟩:Za),([]:List Zb),([]:List Z8),([]:List Bool),([]:List (List Int)),([]:List Bool)⟩:Zk) ([]:List Int) 0) [.relab 1002 3000,.relab 1004 3001,.relab 1016 20006,.frz 165019,.ownb 3001 0 40100 14,.ownb 3001 1 40101 19,.ownb 3001 2 40102 1,.ownb 3001 3 40103 1,.ownb 3001 4 40104 94,.ownb 3001 5 40105 89,.ownb 3001 6 40106 6,.ownb 3001 16 40116 1,.ownb 3001 19 40119 17,.ownb 3001 20 40120 23,.ownb 3001 21 40121 1,.ownb 3001 22 40122 1,.ownb 3001 23 40123 1])<|.lb 1016<|.go (.L0 a1 a0 (⟨(⟨([]:List Z9),([]:List Zc),([]:List Int),([]:List Int),([]:List Zai),([]:List Zad),([]:List Zap),0,0,0,false,0,0,0,0,0,([]:List Int),0,0⟩:Za),([]:List Zb),([]:List Z8),([]:List Bool),([]:List (List Int)),([]:List Bool)⟩:Zk) ([]:List Int) 0) [.relab 1002 3000,.relab 1004 3001,.relab 1016 20006,.ownb 3001 0 40100 14,.ownb 3001 1 40101 19,.ownb 3001 2 40102 1,.ownb 3001 3 40103 1,.ownb 3001 4 40104 94,.ownb 3001 5 40105 89,.ownb 3001 6 40106 6,.ownb 3001 16 40116 1,.ownb 3001 19 40119 17,.ownb 3001 20 40120 23,.ownb 3001 21 40121 1,.ownb 3001 22 40122 1,.ownb 3001 23 40123 1]
def Zt1:LF Zkz (Zk×(List Int)) := .m 24 [.c 4 93 true 24,.t 5] true (fun r=>[(5100,wR (cI .i64) 1 r.2)]) (fun r=>(.tup [wA (Zak r.1),wO (cI .i64) 5100 r.2])) fun | .L0 v1 E0 E1 v6 v7=>([1,1,1,0,1,4],⟨60,[(1,wI v1),(2,.bptr 3000 0),(4,.bptr 3001 0),(6,wO (cI .i64) 20006 v6),(7,wI v7)],[(3000,.box (bx (Zak E0))),(3001,.box (tm5 E1 40100)),(40100,wR Zq 14 E1.S.Players),(40101,wR Zi 19 E1.S.Objects),(40102,wR (cI .i64) 1 E1.S.Battlefield),(40103,wR (cI .i64) 1 E1.S.Exile),(40104,wR Z3 94 E1.S.Stack),(40105,wR Zx 89 E1.S.Waiting),(40106,wR Z7 6 E1.S.Conts),(40116,wR (cI .i64) 1 E1.S.Extra),(40119,wR Zp 17 E1.All),(40120,wR Zt 23 E1.L),(40121,wR cB 1 E1.Begun),(40122,wR (cL (cI .i64)) 1 E1.Sets),(40123,wR cB 1 E1.Blank),(20006,wR (cI .i64) 1 v6)]⟩,Zado v1 E0 E1 v6 v7) | .L1 v1 E0 E1 v6 v8 v9 v10=>([1,1,1,1,1,1,0,1,4],⟨60,[(1,wI v1),(2,.bptr 3000 0),(4,.bptr 3001 0),(6,wO (cI .i64) 20006 v6),(8,wO (cI .i64) 20008 v8),(9,wI v9),(10,wI v10)],[(3000,.box (bx (Zak E0))),(3001,.box (tm5 E1 40100)),(40100,wR Zq 14 E1.S.Players),(40101,wR Zi 19 E1.S.Objects),(40102,wR (cI .i64) 1 E1.S.Battlefield),(40103,wR (cI .i64) 1 E1.S.Exile),(40104,wR Z3 94 E1.S.Stack),(40105,wR Zx 89 E1.S.Waiting),(40106,wR Z7 6 E1.S.Conts),(40116,wR (cI .i64) 1 E1.S.Extra),(40119,wR Zp 17 E1.All),(40120,wR Zt 23 E1.L),(40121,wR cB 1 E1.Begun),(40122,wR (cL (cI .i64)) 1 E1.Sets),(40123,wR cB 1 E1.Blank),(20006,wR (cI .i64) 1 v6),(20008,wR (cI .i64) 1 v8)]⟩,Zadp v1 E0 E1 v6 v8 v9 v10)
def Zavb:=fun a0 a1=>Zt1.run (Zah3 a0 a1)
theorem Zayr(a0)(a1){r}(h:Zavb a0 a1=some r):FnG PR 24 [] [wA (Zak a0),wI a1] [(5100,wR (cI .i64) 1 r.2)] (.tup [wA (Zak r.1),wO (cI .i64) 5100 r.2]):=Zt1.fn h
inductive Zx5 where
 | L0 (E0:Zk) (v6:Int)
def Zavc(E0:Zk)(v6:Int):LT Zx5 (List Zb):=
.br (decide (v6<=8)) (.callF (Zayr E0 v6) 180000 fun x2=>.g0 (.L0 x2.1 (IntKind.wrap .i64 (v6+1))))<|.rt E0.All
def Za10(a0:List Zg)(a1:Za):LT Zx5 (List Zb):=
.lb 1003<|.callF (Za2u a0 a1) 100000 fun x1=>.lb 1005<|.rl Zp x1.All<|.rl cB x1.Begun<|.rl (cL (cI .i64)) x1.Sets<|.rl cB x1.Blank<|.go (.L0 x1 1) [.relab 1005 3000,.frz 105019,.frz 105021,.frz 105022,.frz 105023]
def Zah4:LF Zx5 (List Zb) := .m0 10 [.t 4] (wL Zp) fun | .L0 E0 v6=>([1,1,0,1,4],⟨22,[(5,.bptr 3000 0),(6,wI v6)],[(3000,.box (bx (Zak E0)))]⟩,Zavc E0 v6)
def Zbc6:=fun a0 a1=>Zah4.run (Za10 a0 a1)
theorem Zt2(a0)(a1){r}(h:Zbc6 a0 a1=some r):Fn PR 10 [wL Zs a0,wA (Zo a1)] (wL Zp r):=Zah4.fn h
def Zah5(a0:Za)(a1:Int):LT Empty Bool:=
.lb 1002<|.cs (decide (a1>=0)) (.k4 0<|.len Zq a0.Players<|.k2 0<|.cs (decide (a1 < (a0.Players.length:Int))) (.k4 1<|.idx Zq a0.Players a1 fun x4=>.k4 1<|.rt (!x4.Lost))<|.k8 1<|.rt false)<|.k5 0<|.kg 0<|.b8 false<|.rt false
def Zah6:LF Empty Bool := .z0 47 [.t 4] wB
def Zavd:=fun a0 a1=>Zah6.run (Zah5 a0 a1)
theorem Za2x(a0)(a1){r}(h:Zavd a0 a1=some r):Fn PR 47 [wA (Zo a0),wI a1] (wB r):=Zah6.fn h
def Zah7(a0:Int):LT Empty Bool:=
.cs (decide (a0>=1)) (.k3 0<|.rt (decide (a0<=1000000)))<|.k3 0<|.rt false
def Zah8:LF Empty Bool := .z0 48 [.t 2] wB
def Zave:=fun a0=>Zah8.run (Zah7 a0)
theorem Zq6(a0){r}(h:Zave a0=some r):Fn PR 48 [wI a0] (wB r):=Zah8.fn h
def Za8s(a0:Za)(a1:Int)(a2:Int):LT Empty Bool:=
.lb 1003<|.call (Zm7 a0 a1) fun x1=>.lb 1007<|.cs x1.2 (.k5 0<|.rt (x1.1.Zone==a2))<|.k5 0<|.rt false
def Za8t:LF Empty Bool := .z0 49 [.t 6] wB
def Zbi4:=fun a0 a1 a2=>Za8t.run (Za8s a0 a1 a2)
theorem Zbi5(a0)(a1)(a2){r}(h:Zbi4 a0 a1 a2=some r):Fn PR 49 [wA (Zo a0),wI a1,wI a2] (wB r):=Za8t.fn h
inductive Zov where
 | L0 (v0:List Zg) (E0:Za) (E1:Ze) (E2:Zc) (v8:Bool) (v9:Bool)
 | L1 (v0:List Zg) (E0:Za) (E1:Ze) (E2:Zc) (v8:Bool) (v9:Bool) (v10:Bool) (v29:Int) (v86:Bool)
 | L2 (v0:List Zg) (E0:Za) (E1:Ze) (E2:Zc) (v8:Bool) (v9:Bool) (v10:Bool) (v29:Int) (v92:Bool)
 | L3 (v0:List Zg) (E0:Za) (E1:Ze) (E2:Zc) (v8:Bool) (v9:Bool) (v10:Bool) (v29:Int) (v117:Bool)
def Zx6(v0:List Zg)(E0:Za)(E1:Ze)(E2:Zc)(v8:Bool)(v9:Bool)(v10:Bool)(v29:Int)(v117:Bool):LT Zov Bool:=
.br v117 (.cs v9 (.k4 1<|.cs (decide (E1.Counter>=0)) (.k4 2<|.cs (decide (E1.Counter < 3)) (.k3 3<|.call (Zq6 E1.Amount) fun x5=>.kg 3<|.rt x5)<|.k4 3<|.rt false)<|.k4 2<|.b4 false<|.rt false)<|.k4 1<|.b8 false<|.rt false)<|.br (v29==10) (.cs v10 (.k4 2<|.cs (decide (E1.Card>=0)) (.k4 3<|.len Zs v0<|.k2 3<|.cs (decide (E1.Card < (v0.length:Int))) (.k4 4<|.idx Zs v0 E1.Card fun x12=>.k3 4<|.cs x12.Token (.k3 5<|.call (Zq6 E1.Amount) fun x15=>.kg 5<|.rt x15)<|.k4 5<|.rt false)<|.k5 4<|.k2 4<|.b4 false<|.rt false)<|.k5 3<|.kg 3<|.b8 false<|.b3 false<|.rt false)<|.k4 2<|.b16 false<|.kb false<|.rt false)<|.br (v29==11) (.cs v8 (.k4 3<|.cs (E2.Zone==5) (.k2 4<|.rt v10)<|.k2 4<|.rt false)<|.k4 3<|.b2 false<|.rt false)<|.br (v29==12) (.cs v9 (.k2 4<|.rt v10)<|.k2 4<|.rt false)<|.br (v29==13) (.cs v9 (.k4 5<|.call (Zbi5 E0 E1.Source 0) fun x24=>.kg 5<|.rt x24)<|.k5 5<|.rt false)<|.rt false
def Zsm(v0:List Zg)(E0:Za)(E1:Ze)(E2:Zc)(v8:Bool)(v9:Bool)(v10:Bool)(v29:Int)(v92:Bool):LT Zov Bool:=
.br v92 (.cs v10 (.k3 1<|.call (Zq6 E1.Amount) fun x3=>.kg 1<|.rt x3)<|.k4 1<|.rt false)<|.br (v29==6) (.cs v9 (.k4 2<|.rt (!E2.Tapped))<|.k4 2<|.rt false)<|.br (v29==7) (.cs v9 (.k3 3<|.rt E2.Tapped)<|.k3 3<|.rt false)<|.br (v29==8) (.j0 (.L3 v0 E0 E1 E2 v8 v9 v10 v29 (v29==8)) (Zx6 v0 E0 E1 E2 v8 v9 v10 v29 (v29==8)))<|.j0 (.L3 v0 E0 E1 E2 v8 v9 v10 v29 (v29==9)) (Zx6 v0 E0 E1 E2 v8 v9 v10 v29 (v29==9))
def Zow(v0:List Zg)(E0:Za)(E1:Ze)(E2:Zc)(v8:Bool)(v9:Bool)(v10:Bool)(v29:Int)(v86:Bool):LT Zov Bool:=
.br v86 (.rt v10)<|.br (v29==4) (.j0 (.L2 v0 E0 E1 E2 v8 v9 v10 v29 (v29==4)) (Zsm v0 E0 E1 E2 v8 v9 v10 v29 (v29==4)))<|.br (v29==5) (.j0 (.L2 v0 E0 E1 E2 v8 v9 v10 v29 (v29==5)) (Zsm v0 E0 E1 E2 v8 v9 v10 v29 (v29==5)))<|.j0 (.L2 v0 E0 E1 E2 v8 v9 v10 v29 (v29==16)) (Zsm v0 E0 E1 E2 v8 v9 v10 v29 (v29==16))
def Zx7(v0:List Zg)(E0:Za)(E1:Ze)(E2:Zc)(v8:Bool)(v9:Bool):LT Zov Bool:=
.call (Za2x E0 E1.Player) fun x1=>.br (E1.Kind==1) (.call (Zq6 E1.Amount) fun x4=>.cs x4 (.k2 1<|.cs v9 (.k5 2<|.kg 1<|.kg 2<|.kg 1<|.rt true)<|.k4 2<|.cs (E1.Object==0) (.kg 3<|.kg 2<|.kg 3<|.kg 1<|.kg 2<|.kg 1<|.rt x1)<|.kg 3<|.kg 2<|.kg 3<|.kg 1<|.kg 2<|.kg 1<|.rt false)<|.k4 1<|.rt false)<|.br (E1.Kind==2) (.cs v8 (.k5 2<|.kg 2<|.cs (E1.From==E2.Zone) (.k5 3<|.kg 3<|.cs (E1.To != E1.From) (.k4 4<|.cs (decide (E1.To>=0)) (.k4 5<|.cs (decide (E1.To<=4)) (.k4 6<|.cs (decide (E1.Player>=0)) (.k5 7<|.len Zq E0.Players<|.k2 7<|.rt (decide (E1.Player < (E0.Players.length:Int))))<|.k5 7<|.k2 7<|.rt false)<|.k4 6<|.b5 false<|.b2 false<|.rt false)<|.k4 5<|.b8 false<|.b3 false<|.rt false)<|.k4 4<|.b8 false<|.b5 false<|.b2 false<|.rt false)<|.k5 3<|.kg 3<|.b16 false<|.b3 false<|.rt false)<|.k5 2<|.kg 2<|.b16 false<|.b8 false<|.kb false<|.rt false)<|.br (E1.Kind==3) (.j0 (.L1 v0 E0 E1 E2 v8 v9 x1 E1.Kind (E1.Kind==3)) (Zow v0 E0 E1 E2 v8 v9 x1 E1.Kind (E1.Kind==3)))<|.br (E1.Kind==14) (.j0 (.L1 v0 E0 E1 E2 v8 v9 x1 E1.Kind (E1.Kind==14)) (Zow v0 E0 E1 E2 v8 v9 x1 E1.Kind (E1.Kind==14)))<|.br (E1.Kind==15) (.j0 (.L1 v0 E0 E1 E2 v8 v9 x1 E1.Kind (E1.Kind==15)) (Zow v0 E0 E1 E2 v8 v9 x1 E1.Kind (E1.Kind==15)))<|.j0 (.L1 v0 E0 E1 E2 v8 v9 x1 E1.Kind (E1.Kind==17)) (Zow v0 E0 E1 E2 v8 v9 x1 E1.Kind (E1.Kind==17))
def Za8u(a0:List Zg)(a1:Za)(a2:Ze):LT Zov Bool:=
.lb 1004<|.lb 1005<|.call (Zm7 a1 a2.Object) fun x1=>.lb 1007<|.cs x1.2 (.k4 0<|.jn 0 (.L0 a0 a1 a2 x1.1 x1.2 (x1.1.Zone==0)) (tm19 1000 3000) (Zx7 a0 a1 a2 x1.1 x1.2 (x1.1.Zone==0)))<|.k4 0<|.jn 0 (.L0 a0 a1 a2 x1.1 x1.2 false) (tm19 1000 3000) (Zx7 a0 a1 a2 x1.1 x1.2 false)
def Za8v:LF Zov Bool := .m0 17 [.t 6] wB fun | .L0 v0 E0 E1 E2 v8 v9=>([1,1,1],⟨190,[(0,wL Zs v0),(4,.bptr 3000 0),(5,.bptr 3001 0),(7,.bptr 3002 0),(8,wB v8),(9,wB v9)],[(3000,.box (bx (Zo E0))),(3001,.box (bx (Zy E1))),(3002,.box (bx (Zi E2)))]⟩,Zx7 v0 E0 E1 E2 v8 v9) | .L1 v0 E0 E1 E2 v8 v9 v10 v29 v86=>([1,1,1,1,0,1,4,1,3,1,3,1],⟨190,[(0,wL Zs v0),(4,.bptr 3000 0),(5,.bptr 3001 0),(7,.bptr 3002 0),(8,wB v8),(9,wB v9),(10,wB v10),(29,wI v29),(86,wB v86)],[(3000,.box (bx (Zo E0))),(3001,.box (bx (Zy E1))),(3002,.box (bx (Zi E2)))]⟩,Zow v0 E0 E1 E2 v8 v9 v10 v29 v86) | .L2 v0 E0 E1 E2 v8 v9 v10 v29 v92=>([1,1,1,1,0,1,4,1,3,1,3,1,3,1],⟨190,[(0,wL Zs v0),(4,.bptr 3000 0),(5,.bptr 3001 0),(7,.bptr 3002 0),(8,wB v8),(9,wB v9),(10,wB v10),(29,wI v29),(92,wB v92)],[(3000,.box (bx (Zo E0))),(3001,.box (bx (Zy E1))),(3002,.box (bx (Zi E2)))]⟩,Zsm v0 E0 E1 E2 v8 v9 v10 v29 v92) | .L3 v0 E0 E1 E2 v8 v9 v10 v29 v117=>([1,1,1,1,0,1,4,1,3,1,3,1,3,1,3,1,3,1,3,1],⟨190,[(0,wL Zs v0),(4,.bptr 3000 0),(5,.bptr 3001 0),(7,.bptr 3002 0),(8,wB v8),(9,wB v9),(10,wB v10),(29,wI v29),(117,wB v117)],[(3000,.box (bx (Zo E0))),(3001,.box (bx (Zy E1))),(3002,.box (bx (Zi E2)))]⟩,Zx6 v0 E0 E1 E2 v8 v9 v10 v29 v117)
def Zbi6:=fun a0 a1 a2=>Za8v.run (Za8u a0 a1 a2)
theorem Zah9(a0)(a1)(a2){r}(h:Zbi6 a0 a1 a2=some r):Fn PR 17 [wL Zs a0,wA (Zo a1),wA (Zy a2)] (wB r):=Za8v.fn h
inductive Zqs where
 | L0 (v1:Int) (E0:Za) (v5:Int)
def Zaia(v1:Int)(E0:Za)(v5:Int):LT Zqs Int:=
.len Zi E0.Objects<|.br (decide (v5 < (E0.Objects.length:Int))) (.idx Zi E0.Objects v5 fun x3=>.br (x3.Id==v1) (.rt v5)<|.g0 (.L0 v1 E0 (IntKind.wrap .i64 (v5+1))))<|.rt (-1)
def Zaod(a0:Za)(a1:Int):LT Zqs Int:=
.lb 1002<|.go (.L0 a1 a0 0) [.relab 1002 3000]
def Z6p:LF Zqs Int := .m0 66 [.t 4] wI fun | .L0 v1 E0 v5=>([1,0,1,4],⟨22,[(1,wI v1),(2,.bptr 3000 0),(5,wI v5)],[(3000,.box (bx (Zo E0)))]⟩,Zaia v1 E0 v5)
def Za11:=fun a0 a1=>Z6p.run (Zaod a0 a1)
theorem Zt3(a0)(a1){r}(h:Za11 a0 a1=some r):Fn PR 66 [wA (Zo a0),wI a1] (wI r):=Z6p.fn h
def Zaoe(a0:List Zb)(a1:Int):LT Empty Zb:=
.lb 1004<|.cs (decide (a1 < 0)) (.k5 0<|.kn [0]<|.rt (⟨([]:By),(⟨0,0,(⟨0,0,0,0,0⟩:A5 Int)⟩:Z2),0,(⟨0,0,([]:Bys)⟩:Zaf),0,0,0,([]:List Zh),0⟩:Zb))<|.k3 0<|.len Zp a0<|.k2 0<|.br (decide (a1>=(a0.length:Int))) (.rt (⟨([]:By),(⟨0,0,(⟨0,0,0,0,0⟩:A5 Int)⟩:Z2),0,(⟨0,0,([]:Bys)⟩:Zaf),0,0,0,([]:List Zh),0⟩:Zb))<|.idx Zp a0 a1 fun x4=>.rt x4
def Zaof:LF Empty Zb := .z0 67 [.c 4 72 true 17] (fun r=>(wA (Zp r)))
def Za12:=fun a0 a1=>Zaof.run (Zaoe a0 a1)
theorem Z2j(a0)(a1){r}(h:Za12 a0 a1=some r):Fn PR 67 [wL Zp a0,wI a1] (wA (Zp r)):=Zaof.fn h
def Zavf(a0:Za)(a1:List Zb)(a2:Ze)(a3:Int)(a4:Int)(a5:Zm):LT Empty Bool:=
.lb 1006<|.lb 1008<|.lb 1011<|.call (Zt3 a0 a2.Object) fun x1=>.cs (decide (x1>=0)) (.k4 0<|.idx Zi a0.Objects x1 fun x4=>.k4 0<|.call (Z2j a1 x1) fun x6=>.k4 0<|.call (Zmq x4 x6 a3 a4 a5) fun x8=>.kg 0<|.rt x8)<|.k8 0<|.k5 0<|.rt false
def Zavg:LF Empty Bool := .z0 121 [.t 12] wB
def Za8w:=fun a0 a1 a2 a3 a4 a5=>Zavg.run (Zavf a0 a1 a2 a3 a4 a5)
theorem Z6q(a0)(a1)(a2)(a3)(a4)(a5){r}(h:Za8w a0 a1 a2 a3 a4 a5=some r):Fn PR 121 [wA (Zo a0),wL Zp a1,wA (Zy a2),wI a3,wI a4,wA (Z0 a5)] (wB r):=Zavg.fn h
def Zaib(a0:Za)(a1:Int)(a2:Int)(a3:Int):LT Empty Bool:=
.lb 1004<|.cs (decide (a1 < 0)) (.k5 0<|.kg 0<|.b5 true<|.b2 true<|.kn [0]<|.rt false)<|.k4 0<|.len Zq a0.Players<|.k2 0<|.cs (decide (a1>=(a0.Players.length:Int))) (.k5 1<|.k2 1<|.kn [0]<|.rt false)<|.k4 1<|.idx Zq a0.Players a1 fun x4=>.k3 1<|.br x4.Lost (.rt false)<|.cs (a3==0) (.k5 3<|.b5 true<|.rt true)<|.k3 3<|.cs (a3==1) (.k3 4<|.kg 3<|.kg 4<|.kg 3<|.cs (a1==a2) (.k5 5<|.rt true)<|.k3 5<|.cs (a3==2) (.k3 6<|.kg 5<|.kg 6<|.kg 5<|.rt (a1 != a2))<|.k3 6<|.kg 5<|.kg 6<|.kg 5<|.rt false)<|.k3 4<|.kg 3<|.kg 4<|.kg 3<|.b3 false<|.cs (a3==2) (.k3 5<|.kb false<|.kg 5<|.kb false<|.rt (a1 != a2))<|.k3 5<|.kb false<|.kg 5<|.kb false<|.rt false
def Zaic:LF Empty Bool := .z0 122 [.t 8] wB
def Zavh:=fun a0 a1 a2 a3=>Zaic.run (Zaib a0 a1 a2 a3)
theorem Zadq(a0)(a1)(a2)(a3){r}(h:Zavh a0 a1 a2 a3=some r):Fn PR 122 [wA (Zo a0),wI a1,wI a2,wI a3] (wB r):=Zaic.fn h
def Zaid(a0:List Zg)(a1:Za)(a2:Ze)(a3:Int)(a4:Int)(a5:Zm):LT Empty Bool:=
.lb 1007<|.lb 1008<|.lb 1011<|.call (Zt3 a1 a2.Object) fun x1=>.br (decide (x1 < 0)) (.rt false)<|.idx Zi a1.Objects x1 fun x4=>.lb 1014<|.call (Zx3 a0 x4) fun x6=>.lb 1015<|.call (Zmq (⟨x4.Id,x4.Card,x4.Owner,x4.Control,0,x4.Token,x4.Tapped,x4.Sick,x4.Deadly,x4.Damage,x4.Counters,x4.Stamp,x4.Copy,x4.Attack,x4.Blocked,x4.Blocks,x4.Shield⟩:Zc) (⟨x6.Name,x6.Cost,x6.Colors,x6.Line,x6.Power,x6.Tough,x6.Keys,x6.Abilities,a2.Player⟩:Zb) a3 a4 a5) fun x8=>.rt x8
def Zaie:LF Empty Bool := .z0 123 [.t 12] wB
def Zavi:=fun a0 a1 a2 a3 a4 a5=>Zaie.run (Zaid a0 a1 a2 a3 a4 a5)
theorem Zadr(a0)(a1)(a2)(a3)(a4)(a5){r}(h:Zavi a0 a1 a2 a3 a4 a5=some r):Fn PR 123 [wL Zs a0,wA (Zo a1),wA (Zy a2),wI a3,wI a4,wA (Z0 a5)] (wB r):=Zaie.fn h
inductive Zmx where
 | L0 (v5:Int) (E0:Za) (E1:Ze) (E2:Z4) (v108:Bool)
def Zhg(v5:Int)(E0:Za)(E1:Ze)(E2:Z4)(v108:Bool):LT Zmx Bool:=
.br v108 (.call (Zadq E0 E1.Player v5 E2.Who) fun x2=>.rt x2)<|.rt false
def Zads(a0:List Zg)(a1:Za)(a2:List Zb)(a3:Ze)(a4:Z4)(a5:Int)(a6:Int):LT Zmx Bool:=
.lb 1008<|.lb 1010<|.lb 1011<|.br (a4.On != a3.Kind) (.rt false)<|.br (a3.Kind==1) (.br (a4.Who==0) (.cs (a3.Object != 0) (.k8 3<|.call (Z6q a1 a2 a3 a5 a6 a4.Filter) fun x5=>.kg 3<|.rt x5)<|.k8 3<|.kg 3<|.rt false)<|.cs (a3.Object==0) (.k5 3<|.k2 3<|.call (Zadq a1 a3.Player a5 a4.Who) fun x8=>.kg 3<|.rt x8)<|.k8 3<|.rt false)<|.br (a3.Kind==2) (.br (a4.Do==5) (.cs (a3.From==0) (.k4 4<|.cs (a3.To==3) (.k8 5<|.call (Z6q a1 a2 a3 a5 a6 a4.Filter) fun x14=>.kg 5<|.rt x14)<|.k8 5<|.kg 5<|.rt false)<|.k4 4<|.b8 false<|.kb false<|.rt false)<|.cs (a4.Do==6) (.k4 4<|.b4 true<|.cs (a3.To==0) (.k8 5<|.call (Zadr a0 a1 a3 a5 a6 a4.Filter) fun x18=>.kg 5<|.rt x18)<|.k8 5<|.kg 5<|.rt false)<|.k4 4<|.cs (a4.Do==7) (.k4 5<|.cs (a3.To==0) (.k8 6<|.call (Zadr a0 a1 a3 a5 a6 a4.Filter) fun x22=>.kg 6<|.rt x22)<|.k8 6<|.kg 6<|.rt false)<|.k4 5<|.b8 false<|.kb false<|.rt false)<|.br (a3.Kind==8) (.call (Z6q a1 a2 a3 a5 a6 a4.Filter) fun x25=>.rt x25)<|.br (a3.Kind==3) (.jn 0 (.L0 a5 a1 a3 a4 (a3.Kind==3)) (tm27 1000 3000) (Zhg a5 a1 a3 a4 (a3.Kind==3)))<|.br (a3.Kind==4) (.jn 0 (.L0 a5 a1 a3 a4 (a3.Kind==4)) (tm27 1000 3000) (Zhg a5 a1 a3 a4 (a3.Kind==4)))<|.br (a3.Kind==5) (.jn 0 (.L0 a5 a1 a3 a4 (a3.Kind==5)) (tm27 1000 3000) (Zhg a5 a1 a3 a4 (a3.Kind==5)))<|.jn 0 (.L0 a5 a1 a3 a4 (a3.Kind==10)) (tm27 1000 3000) (Zhg a5 a1 a3 a4 (a3.Kind==10))
def Zadt:LF Zmx Bool := .m0 68 [.t 14] wB fun | .L0 v5 E0 E1 E2 v108=>([1,1,0,1,4,1,3,1,3,1,3,1],⟨120,[(5,wI v5),(8,.bptr 3000 0),(10,.bptr 3001 0),(11,.bptr 3002 0),(108,wB v108)],[(3000,.box (bx (Zo E0))),(3001,.box (bx (Zy E1))),(3002,.box (bx (Zat E2)))]⟩,Zhg v5 E0 E1 E2 v108)
def Zaog:=fun a0 a1 a2 a3 a4 a5 a6=>Zadt.run (Zads a0 a1 a2 a3 a4 a5 a6)
theorem Zvw(a0)(a1)(a2)(a3)(a4)(a5)(a6){r}(h:Zaog a0 a1 a2 a3 a4 a5 a6=some r):Fn PR 68 [wL Zs a0,wA (Zo a1),wL Zp a2,wA (Zy a3),wA (Zat a4),wI a5,wI a6] (wB r):=Zadt.fn h
inductive Zi3 where
 | L0 (v0:List Zg) (v2:List Zb) (E0:Za) (E1:Ze) (v9:List Zd) (v10:Int)
 | L1 (v0:List Zg) (v2:List Zb) (E0:Za) (E1:Ze) (v9:List Zd) (v10:Int) (v11:Int)
 | L2 (v0:List Zg) (v2:List Zb) (E0:Za) (E1:Ze) (v9:List Zd) (v10:Int) (v11:Int) (E2:Zb) (v13:Int)
 | L3 (v0:List Zg) (v2:List Zb) (E0:Za) (E1:Ze) (v9:List Zd) (E2:Zb) (v15:Int)
def Zhy(v0:List Zg)(v2:List Zb)(E0:Za)(E1:Ze)(v9:List Zd)(v10:Int):LT Zi3 (List Zd):=
.g0 (.L1 v0 v2 E0 E1 v9 v10 0)
def Zaif(v0:List Zg)(v2:List Zb)(E0:Za)(E1:Ze)(v9:List Zd)(v10:Int)(v11:Int):LT Zi3 (List Zd):=
.len Zi E0.Objects<|.br (decide (v11 < (E0.Objects.length:Int))) (.idx Zi E0.Objects v11 fun x3=>.br (x3.Zone != 0) (.g0 (.L1 v0 v2 E0 E1 v9 v10 (IntKind.wrap .i64 (v11+1))))<|.call (Z2j v2 v11) fun x8=>.lb 1012<|.go (.L2 v0 v2 E0 E1 v9 v10 v11 x8 0) [.relab 1012 3002])<|.cs (E1.Kind==2) (.k4 1<|.cs (E1.To==0) (.k3 2<|.br (decide (v10>=0)) (.idx Zi E0.Objects v10 fun x13=>.call (Zx3 v0 x13) fun x15=>.lb 1014<|.go (.L3 v0 v2 E0 E1 v9 x15 0) [.relab 1014 3002])<|.ret v9 [.relab 20009 5000])<|.k3 2<|.kn [0]<|.ret v9 [.relab 20009 5000])<|.k4 1<|.b3 false<|.kn [0]<|.ret v9 [.relab 20009 5000]
def Zaig(v0:List Zg)(v2:List Zb)(E0:Za)(E1:Ze)(v9:List Zd)(v10:Int)(v11:Int)(E2:Zb)(v13:Int):LT Zi3 (List Zd):=
.len Zr E2.Abilities<|.br (decide (v13 < (E2.Abilities.length:Int))) (.idx Zr E2.Abilities v13 fun x3=>.cs (x3.Kind==5) (.k8 1<|.ag Zr x3 0<|.k8 1<|.idx Zi E0.Objects v11 fun x6=>.k3 1<|.call (Zvw v0 E0 v2 E1 x3.Replace E2.Control x6.Id) fun x8=>.kg 1<|.br x8 (.ag Zi x6 3<|.dr [.lit]<|.apR Zf 24 v9 [(⟨12,x6.Id,v13⟩:Zd)] fun x11=>.g0 (.L2 v0 v2 E0 E1 x11 v10 v11 E2 (IntKind.wrap .i64 (v13+1))))<|.g0 (.L2 v0 v2 E0 E1 v9 v10 v11 E2 (IntKind.wrap .i64 (v13+1))))<|.k16 1<|.k4 1<|.kn [0]<|.g0 (.L2 v0 v2 E0 E1 v9 v10 v11 E2 (IntKind.wrap .i64 (v13+1))))<|.g0 (.L1 v0 v2 E0 E1 v9 v10 (IntKind.wrap .i64 (v11+1)))
def Zaih(v0:List Zg)(v2:List Zb)(E0:Za)(E1:Ze)(v9:List Zd)(E2:Zb)(v15:Int):LT Zi3 (List Zd):=
.len Zr E2.Abilities<|.br (decide (v15 < (E2.Abilities.length:Int))) (.idx Zr E2.Abilities v15 fun x3=>.lb 1016<|.ag Zr x3 0<|.cs (x3.Kind==5) (.k4 1<|.cs (x3.Replace.Do==6) (.k3 2<|.kg 1<|.kg 2<|.kg 1<|.b5 true<|.cs (x3.Replace.Filter.Self==1) (.k8 3<|.k2 3<|.call (Zvw v0 E0 v2 E1 x3.Replace E1.Player E1.Object) fun x8=>.kg 3<|.br x8 (.dr [.lit]<|.apR Zf 24 v9 [(⟨12,E1.Object,v15⟩:Zd)] fun x11=>.g0 (.L3 v0 v2 E0 E1 x11 E2 (IntKind.wrap .i64 (v15+1))))<|.g0 (.L3 v0 v2 E0 E1 v9 E2 (IntKind.wrap .i64 (v15+1))))<|.k8 3<|.k3 3<|.kn [0]<|.g0 (.L3 v0 v2 E0 E1 v9 E2 (IntKind.wrap .i64 (v15+1))))<|.k3 2<|.kg 1<|.kg 2<|.kg 1<|.cs (x3.Replace.Do==7) (.k5 3<|.cs (x3.Replace.Filter.Self==1) (.k8 4<|.k2 4<|.call (Zvw v0 E0 v2 E1 x3.Replace E1.Player E1.Object) fun x22=>.kg 4<|.br x22 (.dr [.lit]<|.apR Zf 24 v9 [(⟨12,E1.Object,v15⟩:Zd)] fun x25=>.g0 (.L3 v0 v2 E0 E1 x25 E2 (IntKind.wrap .i64 (v15+1))))<|.g0 (.L3 v0 v2 E0 E1 v9 E2 (IntKind.wrap .i64 (v15+1))))<|.k8 4<|.k3 4<|.kn [0]<|.g0 (.L3 v0 v2 E0 E1 v9 E2 (IntKind.wrap .i64 (v15+1))))<|.k5 3<|.b8 false<|.b3 false<|.kn [0]<|.g0 (.L3 v0 v2 E0 E1 v9 E2 (IntKind.wrap .i64 (v15+1))))<|.k5 1<|.kg 1<|.b16 false<|.kn [0]<|.g0 (.L3 v0 v2 E0 E1 v9 E2 (IntKind.wrap .i64 (v15+1))))<|.ret v9 [.relab 20009 5000]
def Zaoh(a0:List Zg)(a1:Za)(a2:List Zb)(a3:Ze):LT Zi3 (List Zd):=
.lb 1005<|.lb 1007<|.call (Zah9 a0 a1 a3) fun x1=>.br (!x1) (.ret ([]:List Zd) [.own 8 5000 3])<|.call (Zt3 a1 a3.Object) fun x4=>.cs (a3.Kind==1) (.k4 1<|.cs (a3.Object != 0) (.k3 2<|.cs (decide (x4>=0)) (.k4 3<|.idx Zi a1.Objects x4 fun x9=>.k4 3<|.br (decide (x9.Shield > 0)) (.dr [.lit]<|.apN Zf 1052 24 [(⟨12,a3.Object,-1⟩:Zd)] fun x12=>.jn 0 (.L0 a0 a2 a1 a3 x12 x4) [.relab 1005 3000,.relab 1007 3001,.relab 1052 20009] (Zhy a0 a2 a1 a3 x12 x4))<|.jn 0 (.L0 a0 a2 a1 a3 ([]:List Zd) x4) (tm21 1000 3000 20000) (Zhy a0 a2 a1 a3 ([]:List Zd) x4))<|.k8 3<|.kn [0]<|.jn 0 (.L0 a0 a2 a1 a3 ([]:List Zd) x4) (tm21 1000 3000 20000) (Zhy a0 a2 a1 a3 ([]:List Zd) x4))<|.k3 2<|.b8 false<|.kn [0]<|.jn 0 (.L0 a0 a2 a1 a3 ([]:List Zd) x4) (tm21 1000 3000 20000) (Zhy a0 a2 a1 a3 ([]:List Zd) x4))<|.k4 1<|.b8 false<|.b3 false<|.kn [0]<|.jn 0 (.L0 a0 a2 a1 a3 ([]:List Zd) x4) (tm21 1000 3000 20000) (Zhy a0 a2 a1 a3 ([]:List Zd) x4)
def Zqt:LF Zi3 (List Zd) := .m 25 [.t 8] true (fun r=>[(5000,wR Zf 3 r)]) (fun r=>(wO Zf 5000 r)) fun | .L0 v0 v2 E0 E1 v9 v10=>([1,1,1,1,1],⟨191,[(0,wL Zs v0),(2,wL Zp v2),(5,.bptr 3000 0),(7,.bptr 3001 0),(9,wO Zf 20009 v9),(10,wI v10)],[(3000,.box (bx (Zo E0))),(3001,.box (bx (Zy E1))),(20009,wR Zf 3 v9)]⟩,Zhy v0 v2 E0 E1 v9 v10) | .L1 v0 v2 E0 E1 v9 v10 v11=>([1,1,1,1,1,0,1,4],⟨191,[(0,wL Zs v0),(2,wL Zp v2),(5,.bptr 3000 0),(7,.bptr 3001 0),(9,wO Zf 20009 v9),(10,wI v10),(11,wI v11)],[(3000,.box (bx (Zo E0))),(3001,.box (bx (Zy E1))),(20009,wR Zf 3 v9)]⟩,Zaif v0 v2 E0 E1 v9 v10 v11) | .L2 v0 v2 E0 E1 v9 v10 v11 E2 v13=>([1,1,1,1,1,0,1,4,5,1,0,4,1,1,1,4],⟨191,[(0,wL Zs v0),(2,wL Zp v2),(5,.bptr 3000 0),(7,.bptr 3001 0),(9,wO Zf 20009 v9),(10,wI v10),(11,wI v11),(12,.bptr 3002 0),(13,wI v13)],[(3000,.box (bx (Zo E0))),(3001,.box (bx (Zy E1))),(20009,wR Zf 3 v9),(3002,.box (bx (Zp E2)))]⟩,Zaig v0 v2 E0 E1 v9 v10 v11 E2 v13) | .L3 v0 v2 E0 E1 v9 E2 v15=>([1,1,1,1,1,1,0,1,2,1,1,4],⟨191,[(0,wL Zs v0),(2,wL Zp v2),(5,.bptr 3000 0),(7,.bptr 3001 0),(9,wO Zf 20009 v9),(14,.bptr 3002 0),(15,wI v15)],[(3000,.box (bx (Zo E0))),(3001,.box (bx (Zy E1))),(20009,wR Zf 3 v9),(3002,.box (bx (Zp E2)))]⟩,Zaih v0 v2 E0 E1 v9 E2 v15)
def Zaii:=fun a0 a1 a2 a3=>Zqt.run (Zaoh a0 a1 a2 a3)
theorem Za2y(a0)(a1)(a2)(a3){r}(h:Zaii a0 a1 a2 a3=some r):FnG PR 25 [] [wL Zs a0,wA (Zo a1),wL Zp a2,wA (Zy a3)] [(5000,wR Zf 3 r)] (wO Zf 5000 r):=Zqt.fn h
theorem Zaij(a0:List Zg)(a1:Za)(a2:List Zb)(a3:Ze){r:List Zd}(h:Zaii a0 a1 a2 a3=some r):Fn PR 25 [wL Zs a0,wA (Zo a1),wL Zp a2,wA (Zy a3)] (wL Zf r):=
 FnG.frozen (C:=LT.RL Zf r/\True) (Za2y a0 a1 a2 a3 h) ⟨rfl,trivial⟩ (by kernel_rfl)
inductive Zx8 where
 | L0 (v0:List Zd) (E0:Zd) (v5:Int)
def Zavj(v0:List Zd)(E0:Zd)(v5:Int):LT Zx8 Bool:=
.len Zf v0<|.br (decide (v5 < (v0.length:Int))) (.idx Zf v0 v5 fun x3=>.br (Zah (Zf x3) (Zf E0)) (.rt true)<|.g0 (.L0 v0 E0 (IntKind.wrap .i64 (v5+1))))<|.rt false
def Za13(a0:List Zd)(a1:Zd):LT Zx8 Bool:=
.lb 1003<|.go (.L0 a0 a1 0) [.relab 1003 3000]
def Zaik:LF Zx8 Bool := .m0 26 [.t 4] wB fun | .L0 v0 E0 v5=>([1,0,1,4],⟨18,[(0,wL Zf v0),(3,.bptr 3000 0),(5,wI v5)],[(3000,.box (bx (Zf E0)))]⟩,Zavj v0 E0 v5)
def Zbc7:=fun a0 a1=>Zaik.run (Za13 a0 a1)
theorem Zavk(a0)(a1){r}(h:Zbc7 a0 a1=some r):Fn PR 26 [wL Zf a0,wA (Zf a1)] (wB r):=Zaik.fn h
inductive Zt4 where
 | L0 (v4:List Zd) (v11:List Zd) (v12:List Zd) (v13:Int)
def Zaoi(v4:List Zd)(v11:List Zd)(v12:List Zd)(v13:Int):LT Zt4 (List Zd):=
.len Zf v12<|.br (decide (v13 < (v12.length:Int))) (.idx Zf v12 v13 fun x3=>.call (Zavk v4 x3) fun x5=>.br (!x5) (.ag Zf x3 0<|.dr [.lit]<|.apR Zf 24 v11 [x3] fun x8=>.g0 (.L0 v4 x8 v12 (IntKind.wrap .i64 (v13+1))))<|.g0 (.L0 v4 v11 v12 (IntKind.wrap .i64 (v13+1))))<|.ret v11 [.relab 20011 5000]
def Zavl(a0:List Zg)(a1:Za)(a2:List Zb)(a3:Ze)(a4:List Zd):LT Zt4 (List Zd):=
.lb 1006<|.lb 1008<|.call (Zaij a0 a1 a2 a3) fun x1=>.go (.L0 a4 ([]:List Zd) x1 0) [.own 11 20011 3]
def Zabe:LF Zt4 (List Zd) := .m 11 [.t 10] true (fun r=>[(5000,wR Zf 3 r)]) (fun r=>(wO Zf 5000 r)) fun | .L0 v4 v11 v12 v13=>([1,1,1,0,1,4],⟨40,[(4,wL Zf v4),(11,wO Zf 20011 v11),(12,wL Zf v12),(13,wI v13)],[(20011,wR Zf 3 v11)]⟩,Zaoi v4 v11 v12 v13)
def Zap2:=fun a0 a1 a2 a3 a4=>Zabe.run (Zavl a0 a1 a2 a3 a4)
theorem Za8x(a0)(a1)(a2)(a3)(a4){r}(h:Zap2 a0 a1 a2 a3 a4=some r):FnG PR 11 [] [wL Zs a0,wA (Zo a1),wL Zp a2,wA (Zy a3),wL Zf a4] [(5000,wR Zf 3 r)] (wO Zf 5000 r):=Zabe.fn h
theorem Zaoj(a0:List Zg)(a1:Za)(a2:List Zb)(a3:Ze)(a4:List Zd){r:List Zd}(h:Zap2 a0 a1 a2 a3 a4=some r):Fn PR 11 [wL Zs a0,wA (Zo a1),wL Zp a2,wA (Zy a3),wL Zf a4] (wL Zf r):=
 FnG.frozen (C:=LT.RL Zf r/\True) (Za8x a0 a1 a2 a3 a4 h) ⟨rfl,trivial⟩ (by kernel_rfl)
inductive Zmy where
 | L0 (v0:List Zd) (v1:List Zd) (v5:Int)
def Z83(v0:List Zd)(v1:List Zd)(v5:Int):LT Zmy Bool:=
.len Zf v0<|.br (decide (v5 < (v0.length:Int))) (.idx Zf v0 v5 fun x3=>.idx Zf v1 v5 fun x5=>.br (!(Zah (Zf x3) (Zf x5))) (.rt false)<|.g0 (.L0 v0 v1 (IntKind.wrap .i64 (v5+1))))<|.rt true
def Zadu(a0:List Zd)(a1:List Zd):LT Zmy Bool:=
.len Zf a0<|.len Zf a1<|.br ((a0.length:Int) != (a1.length:Int)) (.rt false)<|.g0 (.L0 a0 a1 0)
def Zy7:LF Zmy Bool := .m0 12 [.t 4] wB fun | .L0 v0 v1 v5=>([1,1,0,1,4],⟨26,[(0,wL Zf v0),(1,wL Zf v1),(5,wI v5)],[]⟩,Z83 v0 v1 v5)
def Zaok:=fun a0 a1=>Zy7.run (Zadu a0 a1)
theorem Zvx(a0)(a1){r}(h:Zaok a0 a1=some r):Fn PR 12 [wL Zf a0,wL Zf a1] (wB r):=Zy7.fn h
inductive Zin where
 | L0 (v0:List Zg) (E0:Za) (E1:Ze) (v7:List Zb) (v8:List Zd) (v9:Int)
def Zx9(v0:List Zg)(E0:Za)(E1:Ze)(v7:List Zb)(v8:List Zd)(v9:Int):LT Zin Bool:=
.len Zf v8<|.br (decide (v9 < (v8.length:Int))) (.sl Zf v8 0 v9 fun x3=>.call (Zh8 v0 E0 v7 E1 x3) fun x5=>.slN Zf v8 v9 fun x7=>.call (Zvx x5 x7) fun x9=>.cs (!x9) (.k8 1<|.k5 1<|.kg 1<|.kn [0]<|.rt false)<|.k5 1<|.k2 1<|.slN Zf v8 v9 fun x12=>.kg 1<|.call (Zh8 v0 E0 v7 E1 x12) fun x14=>.k3 1<|.sl Zf v8 0 v9 fun x16=>.kg 1<|.call (Zvx x14 x16) fun x18=>.k2 1<|.br (!x18) (.rt false)<|.g0 (.L0 v0 E0 E1 v7 v8 (IntKind.wrap .i64 (v9+1))))<|.call (Zb9) fun x23=>.rt x23
def Z0g(a0:List Zg)(a1:Za)(a2:Ze):LT Zin Bool:=
.lb 1004<|.lb 1005<|.call (Zog a0 a1) fun x1=>.br (!x1) (.call (Zb9) fun x4=>.rt x4)<|.call (Zt2 a0 a1) fun x6=>.call (Zaoj a0 a1 x6 a2 ([]:List Zd)) fun x8=>.call (Zh8 a0 a1 x6 a2 ([]:List Zd)) fun x10=>.call (Zvx x10 x8) fun x12=>.br (!x12) (.rt false)<|.go (.L0 a0 a1 a2 x6 x8 0) [.relab 1004 3000,.relab 1005 3001]
def Zpy:LF Zin Bool := .m0 3 [.t 6] wB fun | .L0 v0 E0 E1 v7 v8 v9=>([1,1,1,1,1,0,1,4],⟨66,[(0,wL Zs v0),(4,.bptr 3000 0),(5,.bptr 3001 0),(7,wL Zp v7),(8,wL Zf v8),(9,wI v9)],[(3000,.box (bx (Zo E0))),(3001,.box (bx (Zy E1)))]⟩,Zx9 v0 E0 E1 v7 v8 v9)
def Z42:=fun a0 a1 a2=>Zpy.run (Z0g a0 a1 a2)
theorem Zail(a0)(a1)(a2){r}(h:Z42 a0 a1 a2=some r):Fn PR 3 [wL Zs a0,wA (Zo a1),wA (Zy a2)] (wB r):=Zpy.fn h
inductive Zmz where
 | L0 (E0:Zh) (E1:Zh) (E2:Zh) (v4:Int)
def Z84(E0:Zh)(E1:Zh)(E2:Zh)(v4:Int):LT Zmz Zh:=
.len Zz E0.Effects<|.br (decide (v4 < (E0.Effects.length:Int))) (.idx Zz E0.Effects v4 fun x3=>.lb 1005<|.lb 1030<|.apR Zu 176 ([]:List Zv) x3.Mods fun x5=>.dr (tm23 1000 3000 40100 40200)<|.rl Zu x5<|.rl Zu x5<|.rl Zu x5<|.dr [.lit]<|.apR Zz 560 E2.Effects [(⟨x3.Op,x3.Ref,x3.Amount,x3.Counter,x3.Zone,x3.Card,x3.Filter,x3.Pool,x5⟩:Z6)] fun x8=>.g0 (.L0 E0 E1 (⟨E2.Kind,E2.Filter,E2.Mods,E2.Price,E2.Slow,E2.Trigger,E2.May,E2.Specs,x8,E2.Replace⟩:Zh) (IntKind.wrap .i64 (v4+1))))<|.ret E2 (tm24 40200 5000)
def Zadv(a0:Zh):LT Zmz Zh:=
.lb 1001<|.lb 1002<|.lb 1003<|.lb 1007<|.apR Zu 176 ([]:List Zv) a0.Mods fun x1=>.lb 1012<|.apR Zao 144 ([]:List Za9) a0.Specs fun x4=>.go (.L0 a0 (⟨0,(⟨0,0,0,0,0,0,0,([]:By),0,0,(⟨0,0⟩:Zj),(⟨0,0⟩:Zj),(⟨0,0⟩:Zj)⟩:Zm),([]:List Zv),(⟨(⟨0,0,(⟨0,0,0,0,0⟩:A5 Int)⟩:Z2),false,false,0⟩:Ze0),false,(⟨0,0,(⟨0,0,0,0,0,0,0,([]:By),0,0,(⟨0,0⟩:Zj),(⟨0,0⟩:Zj),(⟨0,0⟩:Zj)⟩:Zm)⟩:Zb4),false,([]:List Za9),([]:List Z6),(⟨0,0,(⟨0,0,0,0,0,0,0,([]:By),0,0,(⟨0,0⟩:Zj),(⟨0,0⟩:Zj),(⟨0,0⟩:Zj)⟩:Zm),0,0,0,0⟩:Z4)⟩:Zh) (⟨a0.Kind,a0.Filter,x1,a0.Price,a0.Slow,a0.Trigger,a0.May,x4,([]:List Z6),a0.Replace⟩:Zh) 0) (tm22 1000 3000 40100 40200)
def Zy8:LF Zmz Zh := .m 144 [.c 2 88 true 72] true (fun r=>(Zyn r 5000)) (fun r=>(.agg (tm0 r 5000))) fun | .L0 E0 E1 E2 v4=>([1,1,1,1,1,0,1,4],⟨42,[(1,.bptr 3000 0),(2,.bptr 3001 0),(3,.bptr 3002 0),(4,wI v4)],((3000,.box (bx (Zr E0)))::(3001,.box (tm0 E1 40100))::(40117,wR Zu 20 E1.Mods)::(40148,wR Zao 18 E1.Specs)::(40149,wR Zz 64 E1.Effects)::(3002,.box (tm0 E2 40200))::(Zyn E2 40200))⟩,Z84 E0 E1 E2 v4)
def Zaol:=fun a0=>Zy8.run (Zadv a0)
theorem Z43(a0){r}(h:Zaol a0=some r):FnG PR 144 [] [wA (Zr a0)] (Zyn r 5000) (.agg (tm0 r 5000)):=Zy8.fn h
inductive Zj4 where
 | L0 (E0:Za) (E1:Za) (E2:Za) (v4:Int)
 | L1 (E0:Za) (E1:Za) (E2:Za) (v6:Int)
 | L2 (E0:Za) (E1:Za) (E2:Za) (v8:Int)
 | L3 (E0:Za) (E1:Za) (E2:Za) (v10:Int)
def Zaom(E0:Za)(E1:Za)(E2:Za)(v4:Int):LT Zj4 Za:=
.len Zq E0.Players<|.br (decide (v4 < (E0.Players.length:Int))) (.idx Zq E0.Players v4 fun x3=>.lb 1005<|.call (Zwq x3.Library) fun x5=>.call (Zwq x3.Hand) fun x7=>.call (Zwq x3.Graveyard) fun x9=>.dr [.lit]<|.apR Zq 152 E2.Players [(⟨x3.Life,x3.Venom,x3.Lands,x3.Pool,x3.Failed,x3.Lost,x5,x7,x9⟩:Z9)] fun x11=>.g0 (.L0 E0 E1 (⟨x11,E2.Objects,E2.Battlefield,E2.Exile,E2.Stack,E2.Waiting,E2.Conts,E2.Turn,E2.Active,E2.Step,E2.Begun,E2.Priority,E2.Passes,E2.NextId,E2.NextStamp,E2.Seed,E2.Extra,E2.Over,E2.Winner⟩:Za) (IntKind.wrap .i64 (v4+1))))<|.lb 1044<|.apR Zi 128 ([]:List Zc) E0.Objects fun x16=>.callF (Zgo E0.Battlefield) 520000 fun x19=>.callF (Zgo E0.Exile) 560000 fun x21=>.go (.L1 E0 E1 (⟨E2.Players,x16,x19,x21,([]:List Zai),E2.Waiting,E2.Conts,E2.Turn,E2.Active,E2.Step,E2.Begun,E2.Priority,E2.Passes,E2.NextId,E2.NextStamp,E2.Seed,E2.Extra,E2.Over,E2.Winner⟩:Za) 0) [.relab 1044 40201,.relab 525000 40202,.relab 565000 40203,.ownb 3002 4 40204 94]
def Zaon(E0:Za)(E1:Za)(E2:Za)(v6:Int):LT Zj4 Za:=
.len Z3 E0.Stack<|.br (decide (v6 < (E0.Stack.length:Int))) (.idx Z3 E0.Stack v6 fun x3=>.lb 1007<|.callF (Z43 x3.Ability) 730000 fun x5=>.lb 1074<|.apR Zar 16 ([]:List Zbb) x3.Targets fun x7=>.dr [.ahead 82,.frz 735017,.frz 735048,.frz 735049,.pick [81,80,79,78,77,76,75,73,72,71,70,7,69,68,67,66,65,62,61,60,59,58,1,2,3,6] [1007,1074,3000,3001,40100,40101,40102,40103,40104,40105,40106,40116,3002,40200,40201,40202,40203,40204],.frz 1074,.stop]<|.rl Zu x5.Mods<|.rl Zu x5.Mods<|.rl Zu x5.Mods<|.rl Zao x5.Specs<|.rl Zao x5.Specs<|.rl Zao x5.Specs<|.rl Zz x5.Effects<|.rl Zz x5.Effects<|.rl Zz x5.Effects<|.rl Zar x7<|.rl Zar x7<|.rl Zar x7<|.dr [.lit]<|.apR Z3 824 E2.Stack [(⟨x3.Id,x3.Kind,x3.Source,x3.Control,x3.X,x3.Copy,x5,x7,x3.Event⟩:Zai)] fun x10=>.g0 (.L1 E0 E1 (⟨E2.Players,E2.Objects,E2.Battlefield,E2.Exile,x10,E2.Waiting,E2.Conts,E2.Turn,E2.Active,E2.Step,E2.Begun,E2.Priority,E2.Passes,E2.NextId,E2.NextStamp,E2.Seed,E2.Extra,E2.Over,E2.Winner⟩:Za) (IntKind.wrap .i64 (v6+1))))<|.go (.L2 E0 E1 (⟨E2.Players,E2.Objects,E2.Battlefield,E2.Exile,E2.Stack,([]:List Zad),E2.Conts,E2.Turn,E2.Active,E2.Step,E2.Begun,E2.Priority,E2.Passes,E2.NextId,E2.NextStamp,E2.Seed,E2.Extra,E2.Over,E2.Winner⟩:Za) 0) [.ownb 3002 5 40205 89]
def Zaoo(E0:Za)(E1:Za)(E2:Za)(v8:Int):LT Zj4 Za:=
.len Zx E0.Waiting<|.br (decide (v8 < (E0.Waiting.length:Int))) (.idx Zx E0.Waiting v8 fun x3=>.lb 1009<|.callF (Z43 x3.Ability) 1010000 fun x5=>.dr [.ahead 105,.frz 1015017,.frz 1015048,.frz 1015049,.stop]<|.rl Zu x5.Mods<|.rl Zu x5.Mods<|.rl Zu x5.Mods<|.rl Zao x5.Specs<|.rl Zao x5.Specs<|.rl Zao x5.Specs<|.rl Zz x5.Effects<|.rl Zz x5.Effects<|.rl Zz x5.Effects<|.dr [.lit]<|.apR Zx 768 E2.Waiting [(⟨x3.Source,x3.Control,x5,x3.Event⟩:Zad)] fun x7=>.g0 (.L2 E0 E1 (⟨E2.Players,E2.Objects,E2.Battlefield,E2.Exile,E2.Stack,x7,E2.Conts,E2.Turn,E2.Active,E2.Step,E2.Begun,E2.Priority,E2.Passes,E2.NextId,E2.NextStamp,E2.Seed,E2.Extra,E2.Over,E2.Winner⟩:Za) (IntKind.wrap .i64 (v8+1))))<|.go (.L3 E0 E1 (⟨E2.Players,E2.Objects,E2.Battlefield,E2.Exile,E2.Stack,E2.Waiting,([]:List Zap),E2.Turn,E2.Active,E2.Step,E2.Begun,E2.Priority,E2.Passes,E2.NextId,E2.NextStamp,E2.Seed,E2.Extra,E2.Over,E2.Winner⟩:Za) 0) [.ownb 3002 6 40206 6]
def Zaop(E0:Za)(E1:Za)(E2:Za)(v10:Int):LT Zj4 Za:=
.len Z7 E0.Conts<|.br (decide (v10 < (E0.Conts.length:Int))) (.idx Z7 E0.Conts v10 fun x3=>.lb 1011<|.call (Zwq x3.Objects) fun x5=>.lb 1125<|.apR Zu 176 ([]:List Zv) x3.Mods fun x7=>.dr [.ahead 133,.pick [132,131,130,129,128,127,126,124,123,122,121,11,120,119,118,117,116,113,112,111,110,109,1,2,3,10] [1011,1125,3000,3001,40100,40101,40102,40103,40104,40105,40106,40116,3002,40200,40201,40202,40203,40204,40205,40206],.frz 1125,.stop]<|.rl Zu x7<|.rl Zu x7<|.rl Zu x7<|.dr [.lit]<|.apR Z7 80 E2.Conts [(⟨x3.Stamp,x3.Control,x3.Source,x3.Until,x5,x7⟩:Zap)] fun x10=>.g0 (.L3 E0 E1 (⟨E2.Players,E2.Objects,E2.Battlefield,E2.Exile,E2.Stack,E2.Waiting,x10,E2.Turn,E2.Active,E2.Step,E2.Begun,E2.Priority,E2.Passes,E2.NextId,E2.NextStamp,E2.Seed,E2.Extra,E2.Over,E2.Winner⟩:Za) (IntKind.wrap .i64 (v10+1))))<|.callF (Zgo E0.Extra) 1390000 fun x15=>.ret (⟨E2.Players,E2.Objects,E2.Battlefield,E2.Exile,E2.Stack,E2.Waiting,E2.Conts,E2.Turn,E2.Active,E2.Step,E2.Begun,E2.Priority,E2.Passes,E2.NextId,E2.NextStamp,E2.Seed,x15,E2.Over,E2.Winner⟩:Za) (tm26 40200 5000 1395000)
def Zavm(a0:Za):LT Zj4 Za:=
.lb 1001<|.lb 1002<|.lb 1003<|.go (.L0 a0 (⟨([]:List Z9),([]:List Zc),([]:List Int),([]:List Int),([]:List Zai),([]:List Zad),([]:List Zap),0,0,0,false,0,0,0,0,0,([]:List Int),0,0⟩:Za) (⟨([]:List Z9),a0.Objects,a0.Battlefield,a0.Exile,a0.Stack,a0.Waiting,a0.Conts,a0.Turn,a0.Active,a0.Step,a0.Begun,a0.Priority,a0.Passes,a0.NextId,a0.NextStamp,a0.Seed,a0.Extra,a0.Over,a0.Winner⟩:Za) 0) [.relab 1001 3000,.relab 1002 3001,.relab 1003 3002,.ownb 3001 0 40100 14,.ownb 3001 1 40101 19,.ownb 3001 2 40102 1,.ownb 3001 3 40103 1,.ownb 3001 4 40104 94,.ownb 3001 5 40105 89,.ownb 3001 6 40106 6,.ownb 3001 16 40116 1,.ownb 3002 0 40200 14]
def Zpk:LF Zj4 Za := .m 88 [.c 2 31 true 19] true (fun r=>(tm3 r 5000)) (fun r=>(.agg (tm1 r 5000))) fun | .L0 E0 E1 E2 v4=>([1,1,1,0,1,4],⟨141,[(1,.bptr 3000 0),(2,.bptr 3001 0),(3,.bptr 3002 0),(4,wI v4)],[(3000,.box (bx (Zo E0))),(3001,.box (tm1 E1 40100)),(40100,wR Zq 14 E1.Players),(40101,wR Zi 19 E1.Objects),(40102,wR (cI .i64) 1 E1.Battlefield),(40103,wR (cI .i64) 1 E1.Exile),(40104,wR Z3 94 E1.Stack),(40105,wR Zx 89 E1.Waiting),(40106,wR Z7 6 E1.Conts),(40116,wR (cI .i64) 1 E1.Extra),(3002,.box (tm14 E2 40200)),(40200,wR Zq 14 E2.Players)]⟩,Zaom E0 E1 E2 v4) | .L1 E0 E1 E2 v6=>([1,1,1,1,1,1,1,1,0,1,4],⟨141,[(1,.bptr 3000 0),(2,.bptr 3001 0),(3,.bptr 3002 0),(6,wI v6)],[(3000,.box (bx (Zo E0))),(3001,.box (tm1 E1 40100)),(40100,wR Zq 14 E1.Players),(40101,wR Zi 19 E1.Objects),(40102,wR (cI .i64) 1 E1.Battlefield),(40103,wR (cI .i64) 1 E1.Exile),(40104,wR Z3 94 E1.Stack),(40105,wR Zx 89 E1.Waiting),(40106,wR Z7 6 E1.Conts),(40116,wR (cI .i64) 1 E1.Extra),(3002,.box (tm13 E2 40200)),(40200,wR Zq 14 E2.Players),(40201,wR Zi 19 E2.Objects),(40202,wR (cI .i64) 1 E2.Battlefield),(40203,wR (cI .i64) 1 E2.Exile),(40204,wR Z3 94 E2.Stack)]⟩,Zaon E0 E1 E2 v6) | .L2 E0 E1 E2 v8=>([1,1,1,1,1,1,1,1,1,1,0,1,4],⟨141,[(1,.bptr 3000 0),(2,.bptr 3001 0),(3,.bptr 3002 0),(8,wI v8)],[(3000,.box (bx (Zo E0))),(3001,.box (tm1 E1 40100)),(40100,wR Zq 14 E1.Players),(40101,wR Zi 19 E1.Objects),(40102,wR (cI .i64) 1 E1.Battlefield),(40103,wR (cI .i64) 1 E1.Exile),(40104,wR Z3 94 E1.Stack),(40105,wR Zx 89 E1.Waiting),(40106,wR Z7 6 E1.Conts),(40116,wR (cI .i64) 1 E1.Extra),(3002,.box (tm12 E2 40200)),(40200,wR Zq 14 E2.Players),(40201,wR Zi 19 E2.Objects),(40202,wR (cI .i64) 1 E2.Battlefield),(40203,wR (cI .i64) 1 E2.Exile),(40204,wR Z3 94 E2.Stack),(40205,wR Zx 89 E2.Waiting)]⟩,Zaoo E0 E1 E2 v8) | .L3 E0 E1 E2 v10=>([1,1,1,1,1,1,1,1,1,1,1,1,0,1,4],⟨141,[(1,.bptr 3000 0),(2,.bptr 3001 0),(3,.bptr 3002 0),(10,wI v10)],[(3000,.box (bx (Zo E0))),(3001,.box (tm1 E1 40100)),(40100,wR Zq 14 E1.Players),(40101,wR Zi 19 E1.Objects),(40102,wR (cI .i64) 1 E1.Battlefield),(40103,wR (cI .i64) 1 E1.Exile),(40104,wR Z3 94 E1.Stack),(40105,wR Zx 89 E1.Waiting),(40106,wR Z7 6 E1.Conts),(40116,wR (cI .i64) 1 E1.Extra),(3002,.box (tm10 E2 40200)),(40200,wR Zq 14 E2.Players),(40201,wR Zi 19 E2.Objects),(40202,wR (cI .i64) 1 E2.Battlefield),(40203,wR (cI .i64) 1 E2.Exile),(40204,wR Z3 94 E2.Stack),(40205,wR Zx 89 E2.Waiting),(40206,wR Z7 6 E2.Conts)]⟩,Zaop E0 E1 E2 v10)
def Za8y:=fun a0=>Zpk.run (Zavm a0)
theorem Za8z(a0){r}(h:Za8y a0=some r):FnG PR 88 [] [wA (Zo a0)] (tm3 r 5000) (.agg (tm1 r 5000)):=Zpk.fn h
def Za14(a0:Za)(a1:Zc):LT Empty Za:=
.lb 1002<|.lb 1003<|.lb 1004<|.callF (Za8z a0) 110000 fun x1=>.lb 1005<|.rl Zq x1.Players<|.rl Zi x1.Objects<|.rl (cI .i64) x1.Battlefield<|.rl (cI .i64) x1.Exile<|.rl Z3 x1.Stack<|.rl Zx x1.Waiting<|.rl Z7 x1.Conts<|.rl (cI .i64) x1.Extra<|.call (Zagc x1 a1.Id) fun x3=>.br (decide (x3>=0)) (.idxR Zi x1.Objects x3 fun x6=>.setR Zi x1.Objects x3 x6 a1 2 0 (tm11 a1) rfl fun x8=>.dr [.ahead 22,.pick [21,20,19,18,17,16,15,6,14,13,12,5,9,4,3,2,1,0] [115001,1005,115000,115002,115003,115004,115005,115006,115016,1004,1003,1002],.relen 115001,.stop]<|.us [3]<|.us [3]<|.us [3]<|.ret (⟨x1.Players,x8,x1.Battlefield,x1.Exile,x1.Stack,x1.Waiting,x1.Conts,x1.Turn,x1.Active,x1.Step,x1.Begun,x1.Priority,x1.Passes,x1.NextId,x1.NextStamp,x1.Seed,x1.Extra,x1.Over,x1.Winner⟩:Za) (tm9 115000 5000))<|.no
def Za15:LF Empty Za := .z 39 [.c 4 31 true 19] true (fun r=>(tm3 r 5000)) (fun r=>(.agg (tm1 r 5000)))
def Zbc8:=fun a0 a1=>Za15.run (Za14 a0 a1)
theorem Zbbr(a0)(a1){r}(h:Zbc8 a0 a1=some r):FnG PR 39 [] [wA (Zo a0),wA (Zi a1)] (tm3 r 5000) (.agg (tm1 r 5000)):=Za15.fn h
def Zaim(a0:List Zg)(a1:Za)(a2:List Zb)(a3:Zd):LT Empty Z4:=
.lb 1005<|.lb 1007<|.lb 1008<|.call (Zt3 a1 a3.A) fun x1=>.call (Z2j a2 x1) fun x3=>.lb 1010<|.idx Zi a1.Objects x1 fun x5=>.br (x5.Zone != 0) (.ag Zi x5 0<|.call (Zx3 a0 x5) fun x8=>.idx Zr x8.Abilities a3.B fun x10=>.rt x10.Replace)<|.idx Zr x3.Abilities a3.B fun x12=>.rt x12.Replace
def Zain:LF Empty Z4 := .z0 40 [.c 8 79 true 22] (fun r=>(wA (Zat r)))
def Zavn:=fun a0 a1 a2 a3=>Zain.run (Zaim a0 a1 a2 a3)
theorem Za2z(a0)(a1)(a2)(a3){r}(h:Zavn a0 a1 a2 a3=some r):Fn PR 40 [wL Zs a0,wA (Zo a1),wL Zp a2,wA (Zf a3)] (wA (Zat r)):=Zain.fn h
def Za16(a0:A3 Int)(a1:Int)(a2:Int):LT Empty (A3 Int):=
.lb 1003<|.lb 1006<|.cs (decide (a1>=0)) (.k3 0<|.br (decide (a1 < 3)) (.idA (Zn.int .i64) (A3.list a0) a1 (bx ((cA3 (cI .i64)) a0)) 0 3 fun x3=>.ldC (Zn.int .i64) 16 x3 0<|.call (Zis x3 a2) fun x5=>.idA (Zn.int .i64) (A3.list a0) a1 (bx ((cA3 (cI .i64)) a0)) 0 3 fun x7=>.stA (A3.set? a0 a1 (Zsy 0 x5)) (fun h=>Zbh3 (Zn.int .i64) ((bx ((cA3 (cI .i64)) a0)).take 0) ((bx ((cA3 (cI .i64)) a0)).drop 3) h) fun x9=>.rt x9)<|.rt a0)<|.k3 0<|.kn [0]<|.rt a0
def Za17:LF Empty (A3 Int) := .z0 44 [.c 6 32 true 3] (fun r=>(wA ((cA3 (cI .i64)) r)))
def Zbc9:=fun a0 a1 a2=>Za17.run (Za16 a0 a1 a2)
theorem Zbey(a0)(a1)(a2){r}(h:Zbc9 a0 a1 a2=some r):Fn PR 44 [wA ((cA3 (cI .i64)) a0),wI a1,wI a2] (wA ((cA3 (cI .i64)) r)):=Za17.fn h
inductive Znc where
 | L0 (E0:Za) (E1:Ze) (E2:Za) (E3:Ze) (E4:Z4) (v68:Int) (v69:Bool)
 | L1 (E0:Za) (E1:Ze) (E2:Za) (E3:Ze)
def Zjd(E0:Za)(E1:Ze)(E2:Za)(E3:Ze):LT Znc (Za×Ze×Bool):=
.br (decide (E1.Amount<=0)) (.rt (E0,(⟨0,0,0,0,0,0,0,0,0,0,false,false,(⟨0,0,0⟩:A3 Int)⟩:Ze),false))<|.rt (E0,E1,true)
def Zox(E0:Za)(E1:Ze)(E2:Za)(E3:Ze)(E4:Z4)(v68:Int)(v69:Bool):LT Znc (Za×Ze×Bool):=
.br v69 (.rt (E0,(⟨0,0,0,0,0,0,0,0,0,0,false,false,(⟨0,0,0⟩:A3 Int)⟩:Ze),false))<|.br (v68==2) (.call (Zaur E1.Amount E4.N) fun x3=>.j0 (.L1 E0 (⟨E1.Kind,E1.Source,E1.Object,E1.Player,x3,E1.From,E1.To,E1.Cause,E1.Counter,E1.Card,E1.Combat,E1.Tapped,E1.Extra⟩:Ze) E2 E3) (Zjd E0 (⟨E1.Kind,E1.Source,E1.Object,E1.Player,x3,E1.From,E1.To,E1.Cause,E1.Counter,E1.Card,E1.Combat,E1.Tapped,E1.Extra⟩:Ze) E2 E3))<|.br (v68==3) (.call (Zaa7 2 E1.Amount) fun x6=>.j0 (.L1 E0 (⟨E1.Kind,E1.Source,E1.Object,E1.Player,x6,E1.From,E1.To,E1.Cause,E1.Counter,E1.Card,E1.Combat,E1.Tapped,E1.Extra⟩:Ze) E2 E3) (Zjd E0 (⟨E1.Kind,E1.Source,E1.Object,E1.Player,x6,E1.From,E1.To,E1.Cause,E1.Counter,E1.Card,E1.Combat,E1.Tapped,E1.Extra⟩:Ze) E2 E3))<|.br (v68==4) (.call (Zis E1.Amount E4.N) fun x9=>.j0 (.L1 E0 (⟨E1.Kind,E1.Source,E1.Object,E1.Player,x9,E1.From,E1.To,E1.Cause,E1.Counter,E1.Card,E1.Combat,E1.Tapped,E1.Extra⟩:Ze) E2 E3) (Zjd E0 (⟨E1.Kind,E1.Source,E1.Object,E1.Player,x9,E1.From,E1.To,E1.Cause,E1.Counter,E1.Card,E1.Combat,E1.Tapped,E1.Extra⟩:Ze) E2 E3))<|.br (v68==5) (.rt (E0,(⟨E1.Kind,E1.Source,E1.Object,E1.Player,E1.Amount,E1.From,E4.Zone,E1.Cause,E1.Counter,E1.Card,E1.Combat,E1.Tapped,E1.Extra⟩:Ze),true))<|.br (v68==6) (.rt (E0,(⟨E1.Kind,E1.Source,E1.Object,E1.Player,E1.Amount,E1.From,E1.To,E1.Cause,E1.Counter,E1.Card,E1.Combat,true,E1.Extra⟩:Ze),true))<|.br (v68==7) (.call (Zbey E1.Extra E4.Counter E4.N) fun x14=>.rt (E0,(⟨E1.Kind,E1.Source,E1.Object,E1.Player,E1.Amount,E1.From,E1.To,E1.Cause,E1.Counter,E1.Card,E1.Combat,E1.Tapped,x14⟩:Ze),true))<|.j0 (.L1 E0 E1 E2 E3) (Zjd E0 E1 E2 E3)
def Zaoq(a0:List Zg)(a1:Za)(a2:List Zb)(a3:Ze)(a4:Zd):LT Znc (Za×Ze×Bool):=
.lb 1006<|.lb 1008<|.lb 1009<|.lb 1010<|.lb 1011<|.call (Zaij a0 a1 a2 a3) fun x1=>.call (Zavk x1 a4) fun x3=>.br (!x3) (.rt (a1,a3,true))<|.br (a4.B==(-1)) (.call (Zm7 a1 a4.A) fun x7=>.lb 1013<|.callF (Zbbr a1 (⟨x7.1.Id,x7.1.Card,x7.1.Owner,x7.1.Control,x7.1.Zone,x7.1.Token,x7.1.Tapped,x7.1.Sick,x7.1.Deadly,x7.1.Damage,x7.1.Counters,x7.1.Stamp,x7.1.Copy,x7.1.Attack,x7.1.Blocked,x7.1.Blocks,IntKind.wrap .i64 (x7.1.Shield - (Zia x7.1.Shield a3.Amount))⟩:Zc)) 550000 fun x13=>.br (decide ((IntKind.wrap .i64 (a3.Amount - (Zia x7.1.Shield a3.Amount)))<=0)) (.rl Zq x13.Players<|.rl Zi x13.Objects<|.rl (cI .i64) x13.Battlefield<|.rl (cI .i64) x13.Exile<|.rl Z3 x13.Stack<|.rl Zx x13.Waiting<|.rl Z7 x13.Conts<|.rl (cI .i64) x13.Extra<|.rt (x13,(⟨0,0,0,0,0,0,0,0,0,0,false,false,(⟨0,0,0⟩:A3 Int)⟩:Ze),false))<|.rl Zq x13.Players<|.rl Zi x13.Objects<|.rl (cI .i64) x13.Battlefield<|.rl (cI .i64) x13.Exile<|.rl Z3 x13.Stack<|.rl Zx x13.Waiting<|.rl Z7 x13.Conts<|.rl (cI .i64) x13.Extra<|.rt (x13,(⟨a3.Kind,a3.Source,a3.Object,a3.Player,IntKind.wrap .i64 (a3.Amount - (Zia x7.1.Shield a3.Amount)),a3.From,a3.To,a3.Cause,a3.Counter,a3.Card,a3.Combat,a3.Tapped,a3.Extra⟩:Ze),true))<|.call (Za2z a0 a1 a2 a4) fun x16=>.lb 1016<|.br (x16.Do==1) (.jn 0 (.L0 a1 a3 (⟨([]:List Z9),([]:List Zc),([]:List Int),([]:List Int),([]:List Zai),([]:List Zad),([]:List Zap),0,0,0,false,0,0,0,0,0,([]:List Int),0,0⟩:Za) (⟨0,0,0,0,0,0,0,0,0,0,false,false,(⟨0,0,0⟩:A3 Int)⟩:Ze) x16 x16.Do (x16.Do==1)) (tm16 1000 3000 40200) (Zox a1 a3 (⟨([]:List Z9),([]:List Zc),([]:List Int),([]:List Int),([]:List Zai),([]:List Zad),([]:List Zap),0,0,0,false,0,0,0,0,0,([]:List Int),0,0⟩:Za) (⟨0,0,0,0,0,0,0,0,0,0,false,false,(⟨0,0,0⟩:A3 Int)⟩:Ze) x16 x16.Do (x16.Do==1)))<|.jn 0 (.L0 a1 a3 (⟨([]:List Z9),([]:List Zc),([]:List Int),([]:List Int),([]:List Zai),([]:List Zad),([]:List Zap),0,0,0,false,0,0,0,0,0,([]:List Int),0,0⟩:Za) (⟨0,0,0,0,0,0,0,0,0,0,false,false,(⟨0,0,0⟩:A3 Int)⟩:Ze) x16 x16.Do (x16.Do==8)) (tm16 1000 3000 40200) (Zox a1 a3 (⟨([]:List Z9),([]:List Zc),([]:List Int),([]:List Int),([]:List Zai),([]:List Zad),([]:List Zap),0,0,0,false,0,0,0,0,0,([]:List Int),0,0⟩:Za) (⟨0,0,0,0,0,0,0,0,0,0,false,false,(⟨0,0,0⟩:A3 Int)⟩:Ze) x16 x16.Do (x16.Do==8))
def Zaor:LF Znc (Za×Ze×Bool) := .m0 15 [.c 10 31 true 19,.c 11 34 true 15,.t 12] (fun r=>(.tup [wA (Zo r.1),wA (Zy r.2.1),wB r.2.2])) fun | .L0 E0 E1 E2 E3 E4 v68 v69=>([1,1,1,1,0,1,4,1],⟨127,[(6,.bptr 3000 0),(8,.bptr 3001 0),(10,.bptr 3002 0),(11,.bptr 3003 0),(16,.bptr 3004 0),(68,wI v68),(69,wB v69)],[(3000,.box (bx (Zo E0))),(3001,.box (bx (Zy E1))),(3002,.box (tm1 E2 40200)),(40200,wR Zq 14 E2.Players),(40201,wR Zi 19 E2.Objects),(40202,wR (cI .i64) 1 E2.Battlefield),(40203,wR (cI .i64) 1 E2.Exile),(40204,wR Z3 94 E2.Stack),(40205,wR Zx 89 E2.Waiting),(40206,wR Z7 6 E2.Conts),(40216,wR (cI .i64) 1 E2.Extra),(3003,.box (bx (Zy E3))),(3004,.box (bx (Zat E4)))]⟩,Zox E0 E1 E2 E3 E4 v68 v69) | .L1 E0 E1 E2 E3=>([1,1,1,1,1],⟨127,[(6,.bptr 3000 0),(8,.bptr 3001 0),(10,.bptr 3002 0),(11,.bptr 3003 0)],[(3000,.box (bx (Zo E0))),(3001,.box (bx (Zy E1))),(3002,.box (tm1 E2 40200)),(40200,wR Zq 14 E2.Players),(40201,wR Zi 19 E2.Objects),(40202,wR (cI .i64) 1 E2.Battlefield),(40203,wR (cI .i64) 1 E2.Exile),(40204,wR Z3 94 E2.Stack),(40205,wR Zx 89 E2.Waiting),(40206,wR Z7 6 E2.Conts),(40216,wR (cI .i64) 1 E2.Extra),(3003,.box (bx (Zy E3)))]⟩,Zjd E0 E1 E2 E3)
def Za18:=fun a0 a1 a2 a3 a4=>Zaor.run (Zaoq a0 a1 a2 a3 a4)
theorem Za80(a0)(a1)(a2)(a3)(a4){r}(h:Za18 a0 a1 a2 a3 a4=some r):Fn PR 15 [wL Zs a0,wA (Zo a1),wL Zp a2,wA (Zy a3),wA (Zf a4)] (.tup [wA (Zo r.1),wA (Zy r.2.1),wB r.2.2]):=Zaor.fn h
def Z2k(a0:Z9)(a1:Z9):LT Empty Bool:=
.lb 1002<|.lb 1003<|.cs (a0.Life != a1.Life) (.k5 0<|.kg 0<|.b16 true<|.b8 true<|.kn [0]<|.rt false)<|.k5 0<|.kg 0<|.cs (a0.Venom != a1.Venom) (.k5 1<|.kg 1<|.b16 true<|.b2 true<|.kn [0]<|.rt false)<|.k5 1<|.kg 1<|.cs (a0.Lands != a1.Lands) (.k5 2<|.kg 2<|.b8 true<|.b4 true<|.kn [0]<|.rt false)<|.k5 2<|.kg 2<|.cs (!(Zah ((cA6 (cI .i64)) a0.Pool) ((cA6 (cI .i64)) a1.Pool))) (.k5 3<|.kg 3<|.b5 true<|.kb true<|.kn [0]<|.rt false)<|.k5 3<|.kg 3<|.cs (!(a0.Failed==a1.Failed)) (.k5 4<|.kg 4<|.kn [0]<|.rt false)<|.k5 4<|.kg 4<|.br (!(a0.Lost==a1.Lost)) (.rt false)<|.call (Zhr a0.Library a1.Library) fun x7=>.cs x7 (.k5 6<|.call (Zhr a0.Hand a1.Hand) fun x10=>.kg 6<|.cs x10 (.k5 7<|.call (Zhr a0.Graveyard a1.Graveyard) fun x13=>.kg 7<|.rt x13)<|.k5 7<|.kg 7<|.rt false)<|.k5 6<|.kg 6<|.b5 false<|.kb false<|.rt false
def Z2l:LF Empty Bool := .z0 90 [.t 4] wB
def Z85:=fun a0 a1=>Z2l.run (Z2k a0 a1)
theorem Zak7(a0)(a1){r}(h:Z85 a0 a1=some r):Fn PR 90 [wA (Zq a0),wA (Zq a1)] (wB r):=Z2l.fn h
inductive Zk0 where
 | L0 (E0:Zai) (E1:Zai) (v5:Int)
def Z44(E0:Zai)(E1:Zai)(v5:Int):LT Zk0 Bool:=
.len Zar E0.Targets<|.br (decide (v5 < (E0.Targets.length:Int))) (.idx Zar E0.Targets v5 fun x3=>.idx Zar E1.Targets v5 fun x5=>.br (!(Zah (Zar x3) (Zar x5))) (.rt false)<|.g0 (.L0 E0 E1 (IntKind.wrap .i64 (v5+1))))<|.cs (E0.Id==E1.Id) (.k5 1<|.kg 1<|.cs (E0.Kind==E1.Kind) (.k5 2<|.kg 2<|.cs (E0.Source==E1.Source) (.k5 3<|.kg 3<|.cs (E0.Control==E1.Control) (.k5 4<|.kg 4<|.cs (E0.X==E1.X) (.k5 5<|.kg 5<|.cs (E0.Copy==E1.Copy) (.k5 6<|.call (Z6a E0.Ability E1.Ability) fun x16=>.kg 6<|.cs x16 (.k5 7<|.kg 7<|.rt (Zah (Zy E0.Event) (Zy E1.Event)))<|.k5 7<|.kg 7<|.rt false)<|.k5 6<|.kg 6<|.b5 false<|.kb false<|.rt false)<|.k5 5<|.kg 5<|.b8 false<|.b4 false<|.rt false)<|.k5 4<|.kg 4<|.b16 false<|.b2 false<|.rt false)<|.k5 3<|.kg 3<|.b16 false<|.b8 false<|.rt false)<|.k5 2<|.kg 2<|.b16 false<|.b8 false<|.b5 false<|.kb false<|.rt false)<|.k5 1<|.kg 1<|.b16 false<|.b16 false<|.b4 false<|.rt false
def Z86(a0:Zai)(a1:Zai):LT Zk0 Bool:=
.lb 1002<|.lb 1003<|.len Zar a0.Targets<|.len Zar a1.Targets<|.br ((a0.Targets.length:Int) != (a1.Targets.length:Int)) (.rt false)<|.go (.L0 a0 a1 0) [.relab 1002 3000,.relab 1003 3001]
def Zvy:LF Zk0 Bool := .m0 91 [.t 4] wB fun | .L0 E0 E1 v5=>([1,1,0,1,4],⟨85,[(2,.bptr 3000 0),(3,.bptr 3001 0),(5,wI v5)],[(3000,.box (bx (Z3 E0))),(3001,.box (bx (Z3 E1)))]⟩,Z44 E0 E1 v5)
def Zaio:=fun a0 a1=>Zvy.run (Z86 a0 a1)
theorem Zavo(a0)(a1){r}(h:Zaio a0 a1=some r):Fn PR 91 [wA (Z3 a0),wA (Z3 a1)] (wB r):=Zvy.fn h
def Z0h(a0:Zad)(a1:Zad):LT Empty Bool:=
.lb 1002<|.lb 1003<|.cs (a0.Source==a1.Source) (.k5 0<|.kg 0<|.cs (a0.Control==a1.Control) (.k5 1<|.call (Z6a a0.Ability a1.Ability) fun x3=>.kg 1<|.cs x3 (.k5 2<|.kg 2<|.rt (Zah (Zy a0.Event) (Zy a1.Event)))<|.k5 2<|.kg 2<|.rt false)<|.k5 1<|.kg 1<|.b5 false<|.kb false<|.rt false)<|.k5 0<|.kg 0<|.b8 false<|.b4 false<|.rt false
def Z0i:LF Empty Bool := .z0 92 [.t 4] wB
def Z45:=fun a0 a1=>Z0i.run (Z0h a0 a1)
theorem Zaip(a0)(a1){r}(h:Z45 a0 a1=some r):Fn PR 92 [wA (Zx a0),wA (Zx a1)] (wB r):=Z0i.fn h
inductive Zk1 where
 | L0 (v0:List Zv) (v1:List Zv) (v5:Int)
def Z46(v0:List Zv)(v1:List Zv)(v5:Int):LT Zk1 Bool:=
.len Zu v0<|.br (decide (v5 < (v0.length:Int))) (.idx Zu v0 v5 fun x3=>.idx Zu v1 v5 fun x5=>.br (!(Zah (Zu x3) (Zu x5))) (.rt false)<|.g0 (.L0 v0 v1 (IntKind.wrap .i64 (v5+1))))<|.rt true
def Z87(a0:List Zv)(a1:List Zv):LT Zk1 Bool:=
.len Zu a0<|.len Zu a1<|.br ((a0.length:Int) != (a1.length:Int)) (.rt false)<|.g0 (.L0 a0 a1 0)
def Zvz:LF Zk1 Bool := .m0 146 [.t 4] wB fun | .L0 v0 v1 v5=>([1,1,0,1,4],⟨26,[(0,wL Zu v0),(1,wL Zu v1),(5,wI v5)],[]⟩,Z46 v0 v1 v5)
def Zaiq:=fun a0 a1=>Zvz.run (Z87 a0 a1)
theorem Zavp(a0)(a1){r}(h:Zaiq a0 a1=some r):Fn PR 146 [wL Zu a0,wL Zu a1] (wB r):=Zvz.fn h
def Z88(a0:Zap)(a1:Zap):LT Empty Bool:=
.lb 1002<|.lb 1003<|.cs (a0.Stamp==a1.Stamp) (.k5 0<|.kg 0<|.cs (a0.Control==a1.Control) (.k5 1<|.kg 1<|.cs (a0.Source==a1.Source) (.k5 2<|.kg 2<|.cs (a0.Until==a1.Until) (.k5 3<|.call (Zhr a0.Objects a1.Objects) fun x5=>.kg 3<|.cs x5 (.k5 4<|.call (Zavp a0.Mods a1.Mods) fun x8=>.kg 4<|.rt x8)<|.k5 4<|.kg 4<|.rt false)<|.k5 3<|.kg 3<|.b5 false<|.kb false<|.rt false)<|.k5 2<|.kg 2<|.b8 false<|.b4 false<|.rt false)<|.k5 1<|.kg 1<|.b16 false<|.b2 false<|.rt false)<|.k5 0<|.kg 0<|.b16 false<|.b8 false<|.rt false
def Z89:LF Empty Bool := .z0 93 [.t 4] wB
def Zair:=fun a0 a1=>Z89.run (Z88 a0 a1)
theorem Zavq(a0)(a1){r}(h:Zair a0 a1=some r):Fn PR 93 [wA (Z7 a0),wA (Z7 a1)] (wB r):=Z89.fn h
inductive Zhs where
 | L0 (E0:Za) (E1:Za) (v5:Int)
 | L1 (E0:Za) (E1:Za) (v6:Int)
 | L2 (E0:Za) (E1:Za) (v7:Int)
 | L3 (E0:Za) (E1:Za) (v8:Int)
 | L4 (E0:Za) (E1:Za) (v9:Int)
def Zais(E0:Za)(E1:Za)(v5:Int):LT Zhs Bool:=
.len Zq E0.Players<|.br (decide (v5 < (E0.Players.length:Int))) (.idx Zq E0.Players v5 fun x3=>.idx Zq E1.Players v5 fun x5=>.call (Zak7 x3 x5) fun x7=>.br (!x7) (.rt false)<|.g0 (.L0 E0 E1 (IntKind.wrap .i64 (v5+1))))<|.g0 (.L1 E0 E1 0)
def Zait(E0:Za)(E1:Za)(v6:Int):LT Zhs Bool:=
.len Zi E0.Objects<|.br (decide (v6 < (E0.Objects.length:Int))) (.idx Zi E0.Objects v6 fun x3=>.idx Zi E1.Objects v6 fun x5=>.br (!(Zah (Zi x3) (Zi x5))) (.rt false)<|.g0 (.L1 E0 E1 (IntKind.wrap .i64 (v6+1))))<|.g0 (.L2 E0 E1 0)
def Zaiu(E0:Za)(E1:Za)(v7:Int):LT Zhs Bool:=
.len Z3 E0.Stack<|.br (decide (v7 < (E0.Stack.length:Int))) (.idx Z3 E0.Stack v7 fun x3=>.idx Z3 E1.Stack v7 fun x5=>.call (Zavo x3 x5) fun x7=>.br (!x7) (.rt false)<|.g0 (.L2 E0 E1 (IntKind.wrap .i64 (v7+1))))<|.g0 (.L3 E0 E1 0)
def Zaiv(E0:Za)(E1:Za)(v8:Int):LT Zhs Bool:=
.len Zx E0.Waiting<|.br (decide (v8 < (E0.Waiting.length:Int))) (.idx Zx E0.Waiting v8 fun x3=>.idx Zx E1.Waiting v8 fun x5=>.call (Zaip x3 x5) fun x7=>.br (!x7) (.rt false)<|.g0 (.L3 E0 E1 (IntKind.wrap .i64 (v8+1))))<|.g0 (.L4 E0 E1 0)
def Zaiw(E0:Za)(E1:Za)(v9:Int):LT Zhs Bool:=
.len Z7 E0.Conts<|.br (decide (v9 < (E0.Conts.length:Int))) (.idx Z7 E0.Conts v9 fun x3=>.idx Z7 E1.Conts v9 fun x5=>.call (Zavq x3 x5) fun x7=>.br (!x7) (.rt false)<|.g0 (.L4 E0 E1 (IntKind.wrap .i64 (v9+1))))<|.rt true
def Zaos(a0:Za)(a1:Za):LT Zhs Bool:=
.lb 1002<|.lb 1003<|.len Zq a0.Players<|.len Zq a1.Players<|.cs ((a0.Players.length:Int) != (a1.Players.length:Int)) (.k8 0<|.b16 true<|.b8 true<|.kn [0]<|.rt false)<|.k3 0<|.len Zi a0.Objects<|.k3 0<|.len Zi a1.Objects<|.k2 0<|.cs ((a0.Objects.length:Int) != (a1.Objects.length:Int)) (.k8 1<|.b16 true<|.kn [0]<|.rt false)<|.k3 1<|.len Z3 a0.Stack<|.k3 1<|.len Z3 a1.Stack<|.k2 1<|.cs ((a0.Stack.length:Int) != (a1.Stack.length:Int)) (.k8 2<|.b8 true<|.kn [0]<|.rt false)<|.k3 2<|.len Zx a0.Waiting<|.k3 2<|.len Zx a1.Waiting<|.k2 2<|.cs ((a0.Waiting.length:Int) != (a1.Waiting.length:Int)) (.k8 3<|.kn [0]<|.rt false)<|.k3 3<|.len Z7 a0.Conts<|.k3 3<|.len Z7 a1.Conts<|.k2 3<|.br ((a0.Conts.length:Int) != (a1.Conts.length:Int)) (.rt false)<|.go (.L0 a0 a1 0) [.relab 1002 3000,.relab 1003 3001]
def Zkc:LF Zhs Bool := .m0 45 [.t 4] wB fun | .L0 E0 E1 v5=>([1,1,0,1,4],⟨147,[(2,.bptr 3000 0),(3,.bptr 3001 0),(5,wI v5)],[(3000,.box (bx (Zo E0))),(3001,.box (bx (Zo E1)))]⟩,Zais E0 E1 v5) | .L1 E0 E1 v6=>([1,1,1,0,1,4],⟨147,[(2,.bptr 3000 0),(3,.bptr 3001 0),(6,wI v6)],[(3000,.box (bx (Zo E0))),(3001,.box (bx (Zo E1)))]⟩,Zait E0 E1 v6) | .L2 E0 E1 v7=>([1,1,1,1,0,1,4],⟨147,[(2,.bptr 3000 0),(3,.bptr 3001 0),(7,wI v7)],[(3000,.box (bx (Zo E0))),(3001,.box (bx (Zo E1)))]⟩,Zaiu E0 E1 v7) | .L3 E0 E1 v8=>([1,1,1,1,1,0,1,4],⟨147,[(2,.bptr 3000 0),(3,.bptr 3001 0),(8,wI v8)],[(3000,.box (bx (Zo E0))),(3001,.box (bx (Zo E1)))]⟩,Zaiv E0 E1 v8) | .L4 E0 E1 v9=>([1,1,1,1,1,1,0,1,4],⟨147,[(2,.bptr 3000 0),(3,.bptr 3001 0),(9,wI v9)],[(3000,.box (bx (Zo E0))),(3001,.box (bx (Zo E1)))]⟩,Zaiw E0 E1 v9)
def Za19:=fun a0 a1=>Zkc.run (Zaos a0 a1)
theorem Za81(a0)(a1){r}(h:Za19 a0 a1=some r):Fn PR 45 [wA (Zo a0),wA (Zo a1)] (wB r):=Zkc.fn h
def Zavr(a0:Za)(a1:Za):LT Empty Bool:=
.lb 1002<|.lb 1003<|.cs (a0.Turn != a1.Turn) (.k5 0<|.kg 0<|.b16 true<|.b16 true<|.b16 true<|.b5 true<|.kb true<|.kn [0]<|.rt false)<|.k5 0<|.kg 0<|.cs (a0.Active != a1.Active) (.k5 1<|.kg 1<|.b16 true<|.b16 true<|.b16 true<|.kn [0]<|.rt false)<|.k5 1<|.kg 1<|.cs (a0.Step != a1.Step) (.k5 2<|.kg 2<|.b16 true<|.b16 true<|.b8 true<|.b2 true<|.kn [0]<|.rt false)<|.k5 2<|.kg 2<|.cs (!(a0.Begun==a1.Begun)) (.k5 3<|.kg 3<|.b16 true<|.b16 true<|.b4 true<|.kn [0]<|.rt false)<|.k5 3<|.kg 3<|.cs (a0.Priority != a1.Priority) (.k5 4<|.kg 4<|.b16 true<|.b8 true<|.b5 true<|.kb true<|.kn [0]<|.rt false)<|.k5 4<|.kg 4<|.cs (a0.Passes != a1.Passes) (.k5 5<|.kg 5<|.b16 true<|.b8 true<|.kn [0]<|.rt false)<|.k5 5<|.kg 5<|.cs (a0.NextId != a1.NextId) (.k5 6<|.kg 6<|.b16 true<|.b2 true<|.kn [0]<|.rt false)<|.k5 6<|.kg 6<|.cs (a0.NextStamp != a1.NextStamp) (.k5 7<|.kg 7<|.b8 true<|.b4 true<|.kn [0]<|.rt false)<|.k5 7<|.kg 7<|.cs (a0.Seed != a1.Seed) (.k5 8<|.kg 8<|.b5 true<|.kb true<|.kn [0]<|.rt false)<|.k5 8<|.kg 8<|.cs (a0.Over != a1.Over) (.k5 9<|.kg 9<|.kn [0]<|.rt false)<|.k5 9<|.kg 9<|.br (a0.Winner != a1.Winner) (.rt false)<|.call (Za81 a0 a1) fun x12=>.cs x12 (.k5 11<|.call (Zhr a0.Battlefield a1.Battlefield) fun x15=>.kg 11<|.cs x15 (.k5 12<|.call (Zhr a0.Exile a1.Exile) fun x18=>.kg 12<|.cs x18 (.k5 13<|.call (Zhr a0.Extra a1.Extra) fun x21=>.kg 13<|.rt x21)<|.k5 13<|.kg 13<|.rt false)<|.k5 12<|.kg 12<|.b5 false<|.kb false<|.rt false)<|.k5 11<|.kg 11<|.b8 false<|.b4 false<|.rt false
def Zavs:LF Empty Bool := .z0 16 [.t 4] wB
def Za82:=fun a0 a1=>Zavs.run (Zavr a0 a1)
theorem Z6r(a0)(a1){r}(h:Za82 a0 a1=some r):Fn PR 16 [wA (Zo a0),wA (Zo a1)] (wB r):=Zavs.fn h
inductive Zhz where
 | L0 (v0:List Zg) (E0:Za) (E1:Zbm) (v7:List Zb) (v8:List Zd) (v9:Int)
def Zu7(v0:List Zg)(E0:Za)(E1:Zbm)(v7:List Zb)(v8:List Zd)(v9:Int):LT Zhz Bool:=
.lenO Zf v8<|.br (decide (v9 < (v8.length:Int))) (.idxR Zf v8 v9 fun x3=>.ldR Zf v8 x3 2<|.call (Zl5 v0 E0 v7 E1.Event x3) fun x5=>.lb 1010<|.lb 1011<|.plR Zf v8 v9 0<|.ldR Zf v8 x3 2<|.call (Za80 v0 E0 v7 E1.Event x3) fun x7=>.lb 1013<|.lb 1014<|.call (Z6r x5.1 x7.1) fun x9=>.cs (!x9) (.k4 1<|.b4 true<|.kn [0]<|.rt false)<|.k4 1<|.cs (!(Zah (Zy x5.2.1) (Zy x7.2.1))) (.k4 2<|.kn [0]<|.rt false)<|.k4 2<|.br (!(x5.2.2==x7.2.2)) (.rt false)<|.g0 (.L0 v0 E0 E1 v7 v8 (IntKind.wrap .i64 (v9+1))))<|.call (Zb9) fun x16=>.rt x16
def Zya(a0:List Zg)(a1:Za)(a2:Zbm):LT Zhz Bool:=
.lb 1004<|.lb 1005<|.call (Zog a0 a1) fun x1=>.br (!x1) (.call (Zb9) fun x4=>.rt x4)<|.call (Zt2 a0 a1) fun x6=>.call (Zaoj a0 a1 x6 a2.Event ([]:List Zd)) fun x8=>.apN Zf 1031 24 x8 fun x10=>.dr [.lit]<|.apR Zf 24 x10 [a2.Option] fun x13=>.go (.L0 a0 a1 a2 x6 x13 0) [.relab 1004 3000,.relab 1005 3001,.relab 1031 20008]
def Zoy:LF Zhz Bool := .m0 4 [.t 6] wB fun | .L0 v0 E0 E1 v7 v8 v9=>([1,1,1,1,1,1,0,1,4],⟨86,[(0,wL Zs v0),(4,.bptr 3000 0),(5,.bptr 3001 0),(7,wL Zp v7),(8,wO Zf 20008 v8),(9,wI v9)],[(3000,.box (bx (Zo E0))),(3001,.box (bx (Zck E1))),(20008,wR Zf 3 v8)]⟩,Zu7 v0 E0 E1 v7 v8 v9)
def Z2m:=fun a0 a1 a2=>Zoy.run (Zya a0 a1 a2)
theorem Zaeo(a0)(a1)(a2){r}(h:Z2m a0 a1 a2=some r):Fn PR 4 [wL Zs a0,wA (Zo a1),wA (Zck a2)] (wB r):=Zoy.fn h
def Zt5(a0:List Zg)(a1:Za)(a2:Ze):LT Empty Bool:=
.lb 1004<|.lb 1005<|.call (Zog a0 a1) fun x1=>.cs (!x1) (.k4 0<|.b8 true<|.b2 true<|.kn [0]<|.call (Zb9) fun x4=>.rt x4)<|.k4 0<|.cs (a2.Kind != 1) (.k4 1<|.b5 true<|.kb true<|.kn [0]<|.call (Zb9) fun x7=>.rt x7)<|.k4 1<|.cs (a2.Object==0) (.k5 2<|.kg 2<|.kn [0]<|.call (Zb9) fun x10=>.rt x10)<|.k4 2<|.call (Zah9 a0 a1 a2) fun x12=>.k2 2<|.br (!x12) (.call (Zb9) fun x15=>.rt x15)<|.call (Zt2 a0 a1) fun x17=>.call (Zm7 a1 a2.Object) fun x19=>.lb 1008<|.cs (!x19.2) (.k4 4<|.kn [0]<|.call (Zb9) fun x22=>.rt x22)<|.k4 4<|.br (x19.1.Shield==0) (.call (Zb9) fun x25=>.rt x25)<|.call (Zh8 a0 a1 x17 a2 ([]:List Zd)) fun x27=>.len Zf x27<|.cs ((x27.length:Int)==0) (.k8 6<|.kn [0]<|.rt false)<|.k2 6<|.idx Zf x27 0 fun x31=>.k5 6<|.kg 6<|.br (!(Zah (Zf x31) (Zf (⟨12,a2.Object,-1⟩:Zd)))) (.rt false)<|.ag Zf x31 0<|.call (Zl5 a0 a1 x17 a2 x31) fun x34=>.lb 1011<|.lb 1012<|.call (Zm7 x34.1 a2.Object) fun x36=>.lb 1014<|.cs x36.2 (.k4 8<|.cs (decide (x36.1.Shield>=0)) (.k4 9<|.cs (decide (x34.2.1.Amount>=0)) (.k8 10<|.k4 10<|.cs ((IntKind.wrap .i64 (x19.1.Shield - x36.1.Shield))==(IntKind.wrap .i64 (a2.Amount - x34.2.1.Amount))) (.k4 11<|.cs (x36.1.Shield==0) (.k3 12<|.kg 11<|.kg 12<|.kg 11<|.b5 true<|.kb true<|.cs (x34.2.2==(decide (x34.2.1.Amount > 0))) (.kg 13<|.call (Zb9) fun x48=>.kg 13<|.rt x48)<|.k2 13<|.rt false)<|.k3 12<|.kg 11<|.kg 12<|.kg 11<|.cs (x34.2.1.Amount==0) (.k5 13<|.kg 13<|.cs (x34.2.2==(decide (x34.2.1.Amount > 0))) (.kg 14<|.call (Zb9) fun x52=>.kg 14<|.rt x52)<|.k2 14<|.rt false)<|.k5 13<|.kg 13<|.b2 false<|.rt false)<|.k5 11<|.kg 11<|.b8 false<|.rt false)<|.k8 10<|.k4 10<|.b8 false<|.b5 false<|.kb false<|.rt false)<|.k4 9<|.b16 false<|.b8 false<|.b2 false<|.rt false)<|.k4 8<|.b16 false<|.b8 false<|.b5 false<|.kb false<|.rt false
def Zt6:LF Empty Bool := .z0 5 [.t 6] wB
def Zyb:=fun a0 a1 a2=>Zt6.run (Zt5 a0 a1 a2)
theorem Z9a(a0)(a1)(a2){r}(h:Zyb a0 a1 a2=some r):Fn PR 5 [wL Zs a0,wA (Zo a1),wA (Zy a2)] (wB r):=Zt6.fn h
inductive Zf8 where
 | L0 (v0:List Zg) (E0:Za) (E1:Zbm) (v7:List Zb) (v8:List Zd) (v9:Int)
 | L1 (v0:List Zg) (E0:Za) (E1:Zbm) (v7:List Zb) (v8:List Zd) (v9:Int) (E2:Ze) (v12:Bool)
def Zha(v0:List Zg)(E0:Za)(E1:Zbm)(v7:List Zb)(v8:List Zd)(v9:Int)(E2:Ze)(v12:Bool):LT Zf8 Bool:=
.cs v12 (.k5 0<|.k2 0<|.cs (E2.Kind != E1.Event.Kind) (.k5 1<|.kg 1<|.kg 0<|.kg 1<|.kg 0<|.b5 true<|.kb true<|.kg 0<|.kb true<|.kg 0<|.b5 true<|.kb true<|.kg 0<|.kb true<|.kg 0<|.b5 true<|.kn [0]<|.rt false)<|.k5 1<|.kg 1<|.kg 0<|.kg 1<|.kg 0<|.cs (E2.Object != E1.Event.Object) (.k5 2<|.kg 2<|.kg 0<|.kg 2<|.kg 0<|.b5 true<|.kb true<|.kg 0<|.kb true<|.kg 0<|.b5 true<|.kn [0]<|.rt false)<|.k5 2<|.kg 2<|.kg 0<|.kg 2<|.kg 0<|.cs (E2.Player != E1.Event.Player) (.k5 3<|.kg 3<|.kg 0<|.kg 3<|.kg 0<|.b5 true<|.kn [0]<|.rt false)<|.k5 3<|.kg 3<|.kg 0<|.kg 3<|.kg 0<|.cs (E2.Source != E1.Event.Source) (.k5 4<|.kn [0]<|.rt false)<|.k3 4<|.cs (!v12) (.k3 5<|.kg 4<|.kg 5<|.kg 4<|.br (!(Zah (Zy E2) (Zy (⟨0,0,0,0,0,0,0,0,0,0,false,false,(⟨0,0,0⟩:A3 Int)⟩:Ze)))) (.rt false)<|.g0 (.L0 v0 E0 E1 v7 v8 (IntKind.wrap .i64 (v9+1))))<|.k3 5<|.kg 4<|.kg 5<|.kg 4<|.kn [0]<|.g0 (.L0 v0 E0 E1 v7 v8 (IntKind.wrap .i64 (v9+1))))<|.k8 0<|.k5 0<|.b3 false<|.cs (!v12) (.k3 1<|.kb false<|.kg 1<|.kb false<|.br (!(Zah (Zy E2) (Zy (⟨0,0,0,0,0,0,0,0,0,0,false,false,(⟨0,0,0⟩:A3 Int)⟩:Ze)))) (.rt false)<|.g0 (.L0 v0 E0 E1 v7 v8 (IntKind.wrap .i64 (v9+1))))<|.k3 1<|.kb false<|.kg 1<|.kb false<|.kn [0]<|.g0 (.L0 v0 E0 E1 v7 v8 (IntKind.wrap .i64 (v9+1)))
def Zu8(v0:List Zg)(E0:Za)(E1:Zbm)(v7:List Zb)(v8:List Zd)(v9:Int):LT Zf8 Bool:=
.lenO Zf v8<|.br (decide (v9 < (v8.length:Int))) (.idxR Zf v8 v9 fun x3=>.ldR Zf v8 x3 2<|.call (Zl5 v0 E0 v7 E1.Event x3) fun x5=>.lb 1010<|.lb 1011<|.plR Zf v8 v9 0<|.rl Zf v8<|.ldR Zf v8 x3 2<|.cs (x3.B != (-1)) (.k3 1<|.call (Z6r x5.1 E0) fun x8=>.k2 1<|.br (!x8) (.rt false)<|.jn 0 (.L1 v0 E0 E1 v7 v8 v9 x5.2.1 x5.2.2) [.relab 1011 3002] (Zha v0 E0 E1 v7 v8 v9 x5.2.1 x5.2.2))<|.k5 1<|.kn [0]<|.jn 0 (.L1 v0 E0 E1 v7 v8 v9 x5.2.1 x5.2.2) [.relab 1011 3002] (Zha v0 E0 E1 v7 v8 v9 x5.2.1 x5.2.2))<|.call (Zb9) fun x11=>.rt x11
def Zyc(a0:List Zg)(a1:Za)(a2:Zbm):LT Zf8 Bool:=
.lb 1004<|.lb 1005<|.call (Zog a0 a1) fun x1=>.br (!x1) (.call (Zb9) fun x4=>.rt x4)<|.call (Zt2 a0 a1) fun x6=>.call (Zh8 a0 a1 x6 a2.Event ([]:List Zd)) fun x8=>.apN Zf 1028 24 x8 fun x10=>.dr [.lit]<|.apR Zf 24 x10 [a2.Option] fun x13=>.go (.L0 a0 a1 a2 x6 x13 0) [.relab 1004 3000,.relab 1005 3001,.relab 1028 20008]
def Zoz:LF Zf8 Bool := .m0 6 [.t 6] wB fun | .L0 v0 E0 E1 v7 v8 v9=>([1,1,1,1,1,1,0,1,4],⟨109,[(0,wL Zs v0),(4,.bptr 3000 0),(5,.bptr 3001 0),(7,wL Zp v7),(8,wO Zf 20008 v8),(9,wI v9)],[(3000,.box (bx (Zo E0))),(3001,.box (bx (Zck E1))),(20008,wR Zf 3 v8)]⟩,Zu8 v0 E0 E1 v7 v8 v9) | .L1 v0 E0 E1 v7 v8 v9 E2 v12=>([1,1,1,1,1,1,0,1,4,5,1,0,4,1,1],⟨109,[(0,wL Zs v0),(4,.bptr 3000 0),(5,.bptr 3001 0),(7,wL Zp v7),(8,wO Zf 20008 v8),(9,wI v9),(11,.bptr 3002 0),(12,wB v12)],[(3000,.box (bx (Zo E0))),(3001,.box (bx (Zck E1))),(20008,wR Zf 3 v8),(3002,.box (bx (Zy E2)))]⟩,Zha v0 E0 E1 v7 v8 v9 E2 v12)
def Z2n:=fun a0 a1 a2=>Zoz.run (Zyc a0 a1 a2)
theorem Zaep(a0)(a1)(a2){r}(h:Z2n a0 a1 a2=some r):Fn PR 6 [wL Zs a0,wA (Zo a1),wA (Zck a2)] (wB r):=Zoz.fn h
def Zpq(a0:List Zg)(a1:Za)(a2:Zbm):LT Empty Bool:=
.lb 1004<|.lb 1005<|.call (Zog a0 a1) fun x1=>.cs (!x1) (.k5 0<|.kg 0<|.kn [0]<|.call (Zb9) fun x4=>.rt x4)<|.k5 0<|.call (Zah9 a0 a1 a2.Event) fun x6=>.kg 0<|.br x6 (.call (Zb9) fun x9=>.rt x9)<|.call (Zt2 a0 a1) fun x11=>.call (Zl5 a0 a1 x11 a2.Event a2.Option) fun x13=>.lb 1008<|.lb 1009<|.call (Zh8 a0 a1 x11 a2.Event ([]:List Zd)) fun x15=>.len Zf x15<|.cs ((x15.length:Int)==0) (.k3 2<|.call (Z6r x13.1 a1) fun x19=>.kg 2<|.cs x19 (.k5 3<|.cs (Zah (Zy x13.2.1) (Zy a2.Event)) (.k2 4<|.cs x13.2.2 (.kg 5<|.call (Zb9) fun x24=>.kg 5<|.rt x24)<|.k2 5<|.rt false)<|.k2 4<|.b2 false<|.rt false)<|.k5 3<|.b4 false<|.rt false)<|.k4 2<|.b8 false<|.kb false<|.rt false
def Zpr:LF Empty Bool := .z0 7 [.t 6] wB
def Zsn:=fun a0 a1 a2=>Zpr.run (Zpq a0 a1 a2)
theorem Z2o(a0)(a1)(a2){r}(h:Zsn a0 a1 a2=some r):Fn PR 7 [wL Zs a0,wA (Zo a1),wA (Zck a2)] (wB r):=Zpr.fn h
end
end Go.PW
