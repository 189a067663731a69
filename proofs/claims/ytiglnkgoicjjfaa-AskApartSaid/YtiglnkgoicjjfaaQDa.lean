import Derived.Test.YtiglnkgoicjjfaaQD
set_option linter.all false
set_option maxRecDepth 100000
namespace Go.PW
open Go.RowKit
noncomputable section
inductive Zdx where
 | L0 (v0:List Zd) (v1:List (List Int)) (v5:Int) (v10:List Zd) (v11:Int) (v12:Int)
 | L1 (v0:List Zd) (v1:List (List Int)) (v5:Int) (v22:List (List Int)) (v23:Int) (v24:Int)
def Zil(v0:List Zd)(v1:List (List Int))(v5:Int)(v10:List Zd)(v11:Int)(v12:Int):LT Zdx Bool:=
.br (decide (v12 < v11)) (.idx Zp v10 v12 fun x2=>.lb 1007<|.len Zl x2.Options<|.g0 (.L0 v0 v1 (IntKind.wrap .i64 (v5+(x2.Options.length:Int))) v10 v11 (IntKind.wrap .i64 (v12+1))))<|.len (cL (cI .i64)) v1<|.g0 (.L1 v0 v1 v5 v1 (v1.length:Int) 0)
def Zim(v0:List Zd)(v1:List (List Int))(v5:Int)(v22:List (List Int))(v23:Int)(v24:Int):LT Zdx Bool:=
.br (decide (v24 < v23)) (.idx (cL (cI .i64)) v22 v24 fun x2=>.len (cI .i64) x2<|.g0 (.L1 v0 v1 (IntKind.wrap .i64 (v5+(x2.length:Int))) v22 v23 (IntKind.wrap .i64 (v24+1))))<|.len Zp v0<|.cs (decide ((v0.length:Int)<=50)) (.k2 1<|.len (cL (cI .i64)) v1<|.k2 1<|.cs (decide ((v1.length:Int)<=50)) (.k3 2<|.rt (decide (v5<=600)))<|.k3 2<|.rt false)<|.k4 1<|.b3 false<|.rt false
def Zmq(a0:List Zd)(a1:List (List Int)):LT Zdx Bool:=
.len Zp a0<|.g0 (.L0 a0 a1 0 a0 (a0.length:Int) 0)
def Zmr:LF Zdx Bool := .m0 9 [.t 4] wB fun | .L0 v0 v1 v5 v10 v11 v12=>([1,1,0,1,4],⟨45,[(0,wL Zp v0),(1,wL (cL (cI .i64)) v1),(5,wI v5),(10,wL Zp v10),(11,wI v11),(12,wI v12)],[]⟩,Zil v0 v1 v5 v10 v11 v12) | .L1 v0 v1 v5 v22 v23 v24=>([1,1,1,0,1,4],⟨45,[(0,wL Zp v0),(1,wL (cL (cI .i64)) v1),(5,wI v5),(22,wL (cL (cI .i64)) v22),(23,wI v23),(24,wI v24)],[]⟩,Zim v0 v1 v5 v22 v23 v24)
def Zlp:=fun a0 a1=>Zmr.run (Zmq a0 a1)
theorem Zsr(a0)(a1){r}(h:Zlp a0 a1=some r):Fn PR 9 [wL Zp a0,wL (cL (cI .i64)) a1] (wB r):=Zmr.fn h
def Zhu(a0:List Int):LT Empty (List Int):=
.apN (cI .i64) 1006 8 a0 fun x1=>.ret x1 [.relab 1006 5000]
def Zhv:LF Empty (List Int) := .z 23 [.t 2] true (fun r=>[(5000,wR (cI .i64) 1 r)]) (fun r=>(wO (cI .i64) 5000 r))
def Zd2:=fun a0=>Zhv.run (Zhu a0)
theorem Zgi(a0){r}(h:Zd2 a0=some r):FnG PR 23 [] [wL (cI .i64) a0] [(5000,wR (cI .i64) 1 r)] (wO (cI .i64) 5000 r):=Zhv.fn h
theorem Zlq(a0:List Int){r:List Int}(h:Zd2 a0=some r):Fn PR 23 [wL (cI .i64) a0] (wL (cI .i64) r):=
 FnG.frozen (C:=LT.RL (cI .i64) r/\True) (Zgi a0 h) ⟨rfl,trivial⟩ (by kernel_rfl)
inductive Zlr where
 | L0 (E0:Zt) (v8:List (List Int)) (v9:Int) (v10:Int)
def Zvk(E0:Zt)(v8:List (List Int))(v9:Int)(v10:Int):LT Zlr Zt:=
.br (decide (v10 < v9)) (.idx (cL (cI .i64)) v8 v10 fun x2=>.call (Zlq x2) fun x4=>.dr [.lit]<|.apR (cL (cI .i64)) 24 E0.answers [x4] fun x6=>.g0 (.L0 (⟨x6,E0.used,E0.pending,E0.waits,E0.bad⟩:Zt) v8 v9 (IntKind.wrap .i64 (v10+1))))<|.rl (cL (cI .i64)) E0.answers<|.rl Zl E0.pending.Options<|.ret E0 [.frz 40000,.frz 40008,.relab 3000 5000]
def Zw3(a0:List (List Int)):LT Zlr Zt:=
.lb 1007<|.len (cL (cI .i64)) a0<|.go (.L0 (⟨([]:List (List Int)),0,(⟨0,0,0,0,0,0,([]:List Zaz)⟩:Zd),false,false⟩:Zt) a0 (a0.length:Int) 0) [.relab 1007 3000,.ownb 3000 0 40000 1,.ownb 3000 8 40008 3]
def Zqg:LF Zlr Zt := .m 11 [.t 2] true (fun r=>[(5000,.box (bx (Zac r)))]) (fun r=>(.bptr 5000 0)) fun | .L0 E0 v8 v9 v10=>([1,1,0,1,4],⟨27,[(3,.bptr 3000 0),(8,wL (cL (cI .i64)) v8),(9,wI v9),(10,wI v10)],[(3000,.box [wO (cL (cI .i64)) 40000 E0.answers,wI E0.used,wI E0.pending.Kind,wI E0.pending.Player,wI E0.pending.Source,wI E0.pending.Least,wI E0.pending.Most,wI E0.pending.N,wO Zl 40008 E0.pending.Options,wB E0.waits,wB E0.bad]),(40000,wR (cL (cI .i64)) 1 E0.answers),(40008,wR Zl 3 E0.pending.Options)]⟩,Zvk E0 v8 v9 v10)
def Z0c:=fun a0=>Zqg.run (Zw3 a0)
theorem Zms(a0){r}(h:Z0c a0=some r):FnG PR 11 [] [wL (cL (cI .i64)) a0] [(5000,.box (bx (Zac r)))] (.bptr 5000 0):=Zqg.fn h
def Zw4:LT Empty Zd:=
.lb 1000<|.dr [.lit]<|.rt (⟨2,0,0,0,0,0,[(⟨5,1,0⟩:Zaz),(⟨5,2,0⟩:Zaz),(⟨5,3,0⟩:Zaz)]⟩:Zd)
def Zqh:LF Empty Zd := .z0 18 [.c 0 70 true 7] (fun r=>(wA (Zp r)))
def Z0d:=Zqh.run (Zw4)
theorem Zh3{r}(h:Z0d=some r):Fn PR 18 [] (wA (Zp r)):=Zqh.fn h
inductive Zc5 where
 | L0 (E0:Zd) (v3:Int) (v8:Int) (v9:Bool)
 | L1 (E0:Zd) (v3:Int) (v8:Int) (v19:Bool)
def Zdn(E0:Zd)(v3:Int)(v8:Int)(v19:Bool):LT Zc5 Bool:=
.br v19 (.rt (v3==0))<|.br (v8==3) (.cs (E0.Least==E0.Most) (.k4 2<|.cs (E0.Least==0) (.k4 3<|.kg 2<|.kg 3<|.kg 2<|.rt true)<|.k4 3<|.kg 2<|.kg 3<|.kg 2<|.rt (E0.Least==v3))<|.k5 2<|.kg 2<|.rt false)<|.br (v8==5) (.rt (E0.Least==E0.Most))<|.rt true
def Za7(E0:Zd)(v3:Int)(v8:Int)(v9:Bool):LT Zc5 Bool:=
.br v9 (.rt (decide (v3<=1)))<|.br (v8==6) (.j0 (.L1 E0 v3 v8 (v8==6)) (Zdn E0 v3 v8 (v8==6)))<|.j0 (.L1 E0 v3 v8 (v8==7)) (Zdn E0 v3 v8 (v8==7))
def Zls(a0:Zd):LT Zc5 Bool:=
.lb 1001<|.len Zl a0.Options<|.br (a0.Kind==1) (.jn 0 (.L0 a0 (a0.Options.length:Int) a0.Kind (a0.Kind==1)) [.relab 1001 3000] (Za7 a0 (a0.Options.length:Int) a0.Kind (a0.Kind==1)))<|.br (a0.Kind==2) (.jn 0 (.L0 a0 (a0.Options.length:Int) a0.Kind (a0.Kind==2)) [.relab 1001 3000] (Za7 a0 (a0.Options.length:Int) a0.Kind (a0.Kind==2)))<|.br (a0.Kind==9) (.jn 0 (.L0 a0 (a0.Options.length:Int) a0.Kind (a0.Kind==9)) [.relab 1001 3000] (Za7 a0 (a0.Options.length:Int) a0.Kind (a0.Kind==9)))<|.br (a0.Kind==10) (.jn 0 (.L0 a0 (a0.Options.length:Int) a0.Kind (a0.Kind==10)) [.relab 1001 3000] (Za7 a0 (a0.Options.length:Int) a0.Kind (a0.Kind==10)))<|.br (a0.Kind==11) (.jn 0 (.L0 a0 (a0.Options.length:Int) a0.Kind (a0.Kind==11)) [.relab 1001 3000] (Za7 a0 (a0.Options.length:Int) a0.Kind (a0.Kind==11)))<|.br (a0.Kind==4) (.jn 0 (.L0 a0 (a0.Options.length:Int) a0.Kind (a0.Kind==4)) [.relab 1001 3000] (Za7 a0 (a0.Options.length:Int) a0.Kind (a0.Kind==4)))<|.jn 0 (.L0 a0 (a0.Options.length:Int) a0.Kind (a0.Kind==8)) [.relab 1001 3000] (Za7 a0 (a0.Options.length:Int) a0.Kind (a0.Kind==8))
def Zlt:LF Zc5 Bool := .m0 24 [.t 2] wB fun | .L0 E0 v3 v8 v9=>([1,1,0,1,4,1],⟨49,[(1,.bptr 3000 0),(3,wI v3),(8,wI v8),(9,wB v9)],[(3000,.box (bx (Zp E0)))]⟩,Za7 E0 v3 v8 v9) | .L1 E0 v3 v8 v19=>([1,1,0,1,4,1,3,1],⟨49,[(1,.bptr 3000 0),(3,wI v3),(8,wI v8),(19,wB v19)],[(3000,.box (bx (Zp E0)))]⟩,Zdn E0 v3 v8 v19)
def Zkm:=fun a0=>Zlt.run (Zls a0)
theorem Zqm(a0){r}(h:Zkm a0=some r):Fn PR 24 [wA (Zp a0)] (wB r):=Zlt.fn h
inductive Ze0 where
 | L0 (v3:List Int) (v5:Int) (v6:Int)
def Zin(v3:List Int)(v5:Int)(v6:Int):LT Ze0 (List Int):=
.br (decide (v6 < v5)) (.dr [.lit]<|.apR (cI .i64) 8 v3 [v6] fun x2=>.g0 (.L0 x2 v5 (IntKind.wrap .i64 (v6+1))))<|.ret v3 [.relab 20003 5000]
def Zmt(a0:Int):LT Ze0 (List Int):=
.go (.L0 ([]:List Int) a0 0) [.own 3 20003 1]
def Zmu:LF Ze0 (List Int) := .m 38 [.t 2] true (fun r=>[(5000,wR (cI .i64) 1 r)]) (fun r=>(wO (cI .i64) 5000 r)) fun | .L0 v3 v5 v6=>([1,1,0,1,4],⟨15,[(3,wO (cI .i64) 20003 v3),(5,wI v5),(6,wI v6)],[(20003,wR (cI .i64) 1 v3)]⟩,Zin v3 v5 v6)
def Zlu:=fun a0=>Zmu.run (Zmt a0)
theorem Zkq(a0){r}(h:Zlu a0=some r):FnG PR 38 [] [wI a0] [(5000,wR (cI .i64) 1 r)] (wO (cI .i64) 5000 r):=Zmu.fn h
inductive Zdo where
 | L0 (E0:Zd) (v3:Int) (v9:Int) (v10:Bool)
def Zbk(E0:Zd)(v3:Int)(v9:Int)(v10:Bool):LT Zdo (List Int):=
.br v10 (.lb 1016<|.ret [0] [.relab 1016 5000])<|.br (v9==3) (.callF (Zkq (Zrr (Zrq E0.Least 0) v3)) 250000 fun x3=>.ret x3 [.relab 255000 5000])<|.br (v9==4) (.callF (Zkq v3) 290000 fun x6=>.ret x6 [.relab 295000 5000])<|.br (v9==5) (.lb 1033<|.ret [E0.Least] [.relab 1033 5000])<|.br (v9==8) (.br (decide (v3 > 0)) (.mk (cI .i64) 1039 8 0 v3 v3 fun x11=>.idxR (cI .i64) x11 0 fun x13=>.setR (cI .i64) x11 0 x13 E0.N 2 0 [.int .i64 E0.N] rfl fun x15=>.dr [.ahead 44,.relen 1039,.stop]<|.us [3]<|.us [3]<|.us [3]<|.us [3]<|.ret x15 [.relab 1039 5000])<|.ret ([]:List Int) [.own 2 5000 1])<|.ret ([]:List Int) [.own 2 5000 1]
def Zkr(a0:Zd):LT Zdo (List Int):=
.lb 1001<|.len Zl a0.Options<|.br (a0.Kind==1) (.jn 0 (.L0 a0 (a0.Options.length:Int) a0.Kind (a0.Kind==1)) [.relab 1001 3000] (Zbk a0 (a0.Options.length:Int) a0.Kind (a0.Kind==1)))<|.br (a0.Kind==2) (.jn 0 (.L0 a0 (a0.Options.length:Int) a0.Kind (a0.Kind==2)) [.relab 1001 3000] (Zbk a0 (a0.Options.length:Int) a0.Kind (a0.Kind==2)))<|.br (a0.Kind==9) (.jn 0 (.L0 a0 (a0.Options.length:Int) a0.Kind (a0.Kind==9)) [.relab 1001 3000] (Zbk a0 (a0.Options.length:Int) a0.Kind (a0.Kind==9)))<|.br (a0.Kind==10) (.jn 0 (.L0 a0 (a0.Options.length:Int) a0.Kind (a0.Kind==10)) [.relab 1001 3000] (Zbk a0 (a0.Options.length:Int) a0.Kind (a0.Kind==10)))<|.jn 0 (.L0 a0 (a0.Options.length:Int) a0.Kind (a0.Kind==11)) [.relab 1001 3000] (Zbk a0 (a0.Options.length:Int) a0.Kind (a0.Kind==11))
def Zks:LF Zdo (List Int) := .m 25 [.t 2] true (fun r=>[(5000,wR (cI .i64) 1 r)]) (fun r=>(wO (cI .i64) 5000 r)) fun | .L0 E0 v3 v9 v10=>([1,1,0,1,4,1],⟨45,[(1,.bptr 3000 0),(3,wI v3),(9,wI v9),(10,wB v10)],[(3000,.box (bx (Zp E0)))]⟩,Zbk E0 v3 v9 v10)
def Zjg:=fun a0=>Zks.run (Zkr a0)
theorem Zct(a0){r}(h:Zjg a0=some r):FnG PR 25 [] [wA (Zp a0)] [(5000,wR (cI .i64) 1 r)] (wO (cI .i64) 5000 r):=Zks.fn h
def Zec(a0:List Zaz):LT Empty (List Zaz):=
.apN Zl 1006 24 a0 fun x1=>.ret x1 [.relab 1006 5000]
def Zed:LF Empty (List Zaz) := .z 26 [.t 2] true (fun r=>[(5000,wR Zl 3 r)]) (fun r=>(wO Zl 5000 r))
def Zcz:=fun a0=>Zed.run (Zec a0)
theorem Zdp(a0){r}(h:Zcz a0=some r):FnG PR 26 [] [wL Zl a0] [(5000,wR Zl 3 r)] (wO Zl 5000 r):=Zed.fn h
inductive Za0 where
 | L0 (v0:List Int) (v1:Int) (v7:Int) (v8:Int)
def Zb9(v0:List Int)(v1:Int)(v7:Int)(v8:Int):LT Za0 Int:=
.br (decide (v8 < v7)) (.idx (cI .i64) v0 v8 fun x2=>.br (v1==x2) (.rt v8)<|.g0 (.L0 v0 v1 v7 (IntKind.wrap .i64 (v8+1))))<|.rt (-1)
def Zd3(a0:List Int)(a1:Int):LT Za0 Int:=
.len (cI .i64) a0<|.g0 (.L0 a0 a1 (a0.length:Int) 0)
def Zd4:LF Za0 Int := .m0 53 [.t 4] wI fun | .L0 v0 v1 v7 v8=>([1,0,1,4],⟨19,[(0,wL (cI .i64) v0),(1,wI v1),(7,wI v7),(8,wI v8)],[]⟩,Zb9 v0 v1 v7 v8)
def Zco:=fun a0 a1=>Zd4.run (Zd3 a0 a1)
theorem Zdq(a0)(a1){r}(h:Zco a0 a1=some r):Fn PR 53 [wL (cI .i64) a0,wI a1] (wI r):=Zd4.fn h
def Zkt(a0:List Int)(a1:Int):LT Empty Int:=
.call (Zdq a0 a1) fun x1=>.rt x1
def Zku:LF Empty Int := .z0 51 [.t 4] wI
def Zjh:=fun a0 a1=>Zku.run (Zkt a0 a1)
theorem Zpt(a0)(a1){r}(h:Zjh a0 a1=some r):Fn PR 51 [wL (cI .i64) a0,wI a1] (wI r):=Zku.fn h
inductive Zdr where
 | L0 (v1:List Int) (E0:Zd) (v7:List Int) (v8:Int) (v9:Int)
def Zgs(v1:List Int)(E0:Zd)(v7:List Int)(v8:Int)(v9:Int):LT Zdr Bool:=
.br (decide (v9 < v8)) (.idx (cI .i64) v7 v9 fun x2=>.cs (decide (x2 < 0)) (.k5 1<|.kg 1<|.b5 true<|.kb true<|.kn [0]<|.rt false)<|.k4 1<|.len Zl E0.Options<|.k2 1<|.cs (decide (x2>=(E0.Options.length:Int))) (.k5 2<|.kg 2<|.kn [0]<|.rt false)<|.k3 2<|.call (Zpt v1 x2) fun x7=>.k3 2<|.br (x7 != v9) (.rt false)<|.g0 (.L0 v1 E0 v7 v8 (IntKind.wrap .i64 (v9+1))))<|.rt true
def Zkv(a0:Zd)(a1:List Int):LT Zdr Bool:=
.lb 1002<|.len (cI .i64) a1<|.go (.L0 a1 a0 a1 (a1.length:Int) 0) [.relab 1002 3000]
def Zkw:LF Zdr Bool := .m0 39 [.t 4] wB fun | .L0 v1 E0 v7 v8 v9=>([1,0,1,4],⟨31,[(1,wL (cI .i64) v1),(2,.bptr 3000 0),(7,wL (cI .i64) v7),(8,wI v8),(9,wI v9)],[(3000,.box (bx (Zp E0)))]⟩,Zgs v1 E0 v7 v8 v9)
def Zji:=fun a0 a1=>Zkw.run (Zkv a0 a1)
theorem Zer(a0)(a1){r}(h:Zji a0 a1=some r):Fn PR 39 [wA (Zp a0),wL (cI .i64) a1] (wB r):=Zkw.fn h
def Zc6(a0:List Int)(a1:Int):LT Empty Bool:=
.call (Zdq a0 a1) fun x1=>.rt (decide (x1>=0))
def Zc7:LF Empty Bool := .z0 54 [.t 4] wB
def Zca:=fun a0 a1=>Zc7.run (Zc6 a0 a1)
theorem Zgg(a0)(a1){r}(h:Zca a0 a1=some r):Fn PR 54 [wL (cI .i64) a0,wI a1] (wB r):=Zc7.fn h
def Zmv(a0:List Int)(a1:Int):LT Empty Bool:=
.call (Zgg a0 a1) fun x1=>.rt x1
def Zmw:LF Empty Bool := .z0 52 [.t 4] wB
def Zlv:=fun a0 a1=>Zmw.run (Zmv a0 a1)
theorem Zss(a0)(a1){r}(h:Zlv a0 a1=some r):Fn PR 52 [wL (cI .i64) a0,wI a1] (wB r):=Zmw.fn h
inductive Zc8 where
 | L0 (E0:Zd) (v5:List Int) (v8:List Int) (v9:Int) (v10:Int)
def Zf3(E0:Zd)(v5:List Int)(v8:List Int)(v9:Int)(v10:Int):LT Zc8 Bool:=
.br (decide (v10 < v9)) (.idx (cI .i64) v8 v10 fun x2=>.idx Zl E0.Options x2 fun x4=>.rl (cI .i64) v5<|.call (Zss v5 x4.A) fun x6=>.br x6 (.rt false)<|.ag Zl x4 3<|.dr [.lit]<|.apR (cI .i64) 8 v5 [x4.A] fun x9=>.g0 (.L0 E0 x9 v8 v9 (IntKind.wrap .i64 (v10+1))))<|.rt true
def Zjt(a0:Zd)(a1:List Int):LT Zc8 Bool:=
.lb 1002<|.len (cI .i64) a1<|.go (.L0 a0 ([]:List Int) a1 (a1.length:Int) 0) [.relab 1002 3000,.own 5 20005 1]
def Zju:LF Zc8 Bool := .m0 40 [.t 4] wB fun | .L0 E0 v5 v8 v9 v10=>([1,1,0,1,4],⟨32,[(2,.bptr 3000 0),(5,wO (cI .i64) 20005 v5),(8,wL (cI .i64) v8),(9,wI v9),(10,wI v10)],[(3000,.box (bx (Zp E0))),(20005,wR (cI .i64) 1 v5)]⟩,Zf3 E0 v5 v8 v9 v10)
def Zio:=fun a0 a1=>Zju.run (Zjt a0 a1)
theorem Zot(a0)(a1){r}(h:Zio a0 a1=some r):Fn PR 40 [wA (Zp a0),wL (cI .i64) a1] (wB r):=Zju.fn h
inductive Zc9 where
 | L0 (v1:List Int) (E0:Zd) (v5:Int) (v8:List Int) (v9:Int) (v10:Int)
def Zf4(v1:List Int)(E0:Zd)(v5:Int)(v8:List Int)(v9:Int)(v10:Int):LT Zc9 Bool:=
.br (decide (v10 < v9)) (.idx (cI .i64) v8 v10 fun x2=>.cs (decide (x2 < 0)) (.k3 1<|.kn [0]<|.rt false)<|.k3 1<|.br (decide (x2 > 1000000)) (.rt false)<|.g0 (.L0 v1 E0 (IntKind.wrap .i64 (v5+x2)) v8 v9 (IntKind.wrap .i64 (v10+1))))<|.len (cI .i64) v1<|.len Zl E0.Options<|.cs ((v1.length:Int)==(E0.Options.length:Int)) (.k5 1<|.rt (v5==E0.N))<|.k5 1<|.rt false
def Zjv(a0:Zd)(a1:List Int):LT Zc9 Bool:=
.lb 1002<|.len (cI .i64) a1<|.go (.L0 a1 a0 0 a1 (a1.length:Int) 0) [.relab 1002 3000]
def Zjw:LF Zc9 Bool := .m0 41 [.t 4] wB fun | .L0 v1 E0 v5 v8 v9 v10=>([1,1,0,1,4],⟨36,[(1,wL (cI .i64) v1),(2,.bptr 3000 0),(5,wI v5),(8,wL (cI .i64) v8),(9,wI v9),(10,wI v10)],[(3000,.box (bx (Zp E0)))]⟩,Zf4 v1 E0 v5 v8 v9 v10)
def Zip:=fun a0 a1=>Zjw.run (Zjv a0 a1)
theorem Zou(a0)(a1){r}(h:Zip a0 a1=some r):Fn PR 41 [wA (Zp a0),wL (cI .i64) a1] (wB r):=Zjw.fn h
inductive Zdy where
 | L0 (v1:List Int) (E0:Zd) (v9:Int) (v10:Bool)
 | L1 (v1:List Int) (E0:Zd) (v9:Int) (v77:Bool)
def Zee(v1:List Int)(E0:Zd)(v9:Int)(v77:Bool):LT Zdy Bool:=
.br v77 (.call (Zer E0 v1) fun x2=>.cs x2 (.k3 1<|.call (Zot E0 v1) fun x5=>.kg 1<|.rt x5)<|.k4 1<|.rt false)<|.br (v9==8) (.call (Zou E0 v1) fun x8=>.rt x8)<|.rt false
def Zb5(v1:List Int)(E0:Zd)(v9:Int)(v10:Bool):LT Zdy Bool:=
.br v10 (.len (cI .i64) v1<|.cs ((v1.length:Int)==1) (.k3 1<|.call (Zer E0 v1) fun x4=>.kg 1<|.rt x4)<|.k4 1<|.rt false)<|.br (v9==3) (.len (cI .i64) v1<|.cs (decide ((v1.length:Int)>=E0.Least)) (.k2 2<|.len (cI .i64) v1<|.k4 2<|.cs (decide ((v1.length:Int)<=E0.Most)) (.k3 3<|.call (Zer E0 v1) fun x10=>.kg 3<|.rt x10)<|.k4 3<|.rt false)<|.k5 2<|.kg 2<|.b4 false<|.rt false)<|.br (v9==4) (.len (cI .i64) v1<|.len Zl E0.Options<|.cs ((v1.length:Int)==(E0.Options.length:Int)) (.k3 3<|.call (Zer E0 v1) fun x16=>.kg 3<|.rt x16)<|.k4 3<|.rt false)<|.br (v9==5) (.len (cI .i64) v1<|.cs ((v1.length:Int)==1) (.k2 4<|.idx (cI .i64) v1 0 fun x21=>.k5 4<|.cs (decide (x21>=E0.Least)) (.k2 5<|.ag (cI .i64) x21 0<|.k5 5<|.rt (decide (x21<=E0.Most)))<|.k5 5<|.k2 5<|.rt false)<|.k5 4<|.k2 4<|.b5 false<|.b2 false<|.rt false)<|.br (v9==6) (.j0 (.L1 v1 E0 v9 (v9==6)) (Zee v1 E0 v9 (v9==6)))<|.j0 (.L1 v1 E0 v9 (v9==7)) (Zee v1 E0 v9 (v9==7))
def Zmx(a0:Zd)(a1:List Int):LT Zdy Bool:=
.lb 1002<|.len (cI .i64) a1<|.br (decide ((a1.length:Int) > 256)) (.rt false)<|.br (a0.Kind==1) (.jn 0 (.L0 a1 a0 a0.Kind (a0.Kind==1)) [.relab 1002 3000] (Zb5 a1 a0 a0.Kind (a0.Kind==1)))<|.br (a0.Kind==2) (.jn 0 (.L0 a1 a0 a0.Kind (a0.Kind==2)) [.relab 1002 3000] (Zb5 a1 a0 a0.Kind (a0.Kind==2)))<|.br (a0.Kind==9) (.jn 0 (.L0 a1 a0 a0.Kind (a0.Kind==9)) [.relab 1002 3000] (Zb5 a1 a0 a0.Kind (a0.Kind==9)))<|.br (a0.Kind==10) (.jn 0 (.L0 a1 a0 a0.Kind (a0.Kind==10)) [.relab 1002 3000] (Zb5 a1 a0 a0.Kind (a0.Kind==10)))<|.jn 0 (.L0 a1 a0 a0.Kind (a0.Kind==11)) [.relab 1002 3000] (Zb5 a1 a0 a0.Kind (a0.Kind==11))
def Zmy:LF Zdy Bool := .m0 27 [.t 4] wB fun | .L0 v1 E0 v9 v10=>([1,1,0,1,4,1],⟨93,[(1,wL (cI .i64) v1),(2,.bptr 3000 0),(9,wI v9),(10,wB v10)],[(3000,.box (bx (Zp E0)))]⟩,Zb5 v1 E0 v9 v10) | .L1 v1 E0 v9 v77=>([1,1,0,1,4,1,3,1,3,1,3,1,3,1],⟨93,[(1,wL (cI .i64) v1),(2,.bptr 3000 0),(9,wI v9),(77,wB v77)],[(3000,.box (bx (Zp E0)))]⟩,Zee v1 E0 v9 v77)
def Zlw:=fun a0 a1=>Zmy.run (Zmx a0 a1)
theorem Zst(a0)(a1){r}(h:Zlw a0 a1=some r):Fn PR 27 [wA (Zp a0),wL (cI .i64) a1] (wB r):=Zmy.fn h
inductive Zf5 where
 | L0 (v0:List Int) (v1:List Int) (v5:Int)
def Zjj(v0:List Int)(v1:List Int)(v5:Int):LT Zf5 Bool:=
.len (cI .i64) v0<|.br (decide (v5 < (v0.length:Int))) (.idx (cI .i64) v0 v5 fun x3=>.idx (cI .i64) v1 v5 fun x5=>.br (x3 != x5) (.rt false)<|.g0 (.L0 v0 v1 (IntKind.wrap .i64 (v5+1))))<|.rt true
def Zov(a0:List Int)(a1:List Int):LT Zf5 Bool:=
.len (cI .i64) a0<|.len (cI .i64) a1<|.br ((a0.length:Int) != (a1.length:Int)) (.rt false)<|.g0 (.L0 a0 a1 0)
def Zow:LF Zf5 Bool := .m0 13 [.t 4] wB fun | .L0 v0 v1 v5=>([1,1,0,1,4],⟨26,[(0,wL (cI .i64) v0),(1,wL (cI .i64) v1),(5,wI v5)],[]⟩,Zjj v0 v1 v5)
def Zni:=fun a0 a1=>Zow.run (Zov a0 a1)
theorem Ze1(a0)(a1){r}(h:Zni a0 a1=some r):Fn PR 13 [wL (cI .i64) a0,wL (cI .i64) a1] (wB r):=Zow.fn h
inductive Zfc where
 | L0 (E0:Zd) (E1:Zd) (v5:Int)
def Zmf(E0:Zd)(E1:Zd)(v5:Int):LT Zfc Bool:=
.len Zl E0.Options<|.br (decide (v5 < (E0.Options.length:Int))) (.idx Zl E0.Options v5 fun x3=>.idx Zl E1.Options v5 fun x5=>.br (!(Zae (Zl x3) (Zl x5))) (.rt false)<|.g0 (.L0 E0 E1 (IntKind.wrap .i64 (v5+1))))<|.cs (E0.Kind==E1.Kind) (.k5 1<|.kg 1<|.cs (E0.Player==E1.Player) (.k5 2<|.kg 2<|.cs (E0.Source==E1.Source) (.k5 3<|.kg 3<|.cs (E0.Least==E1.Least) (.k5 4<|.kg 4<|.cs (E0.Most==E1.Most) (.k5 5<|.kg 5<|.rt (E0.N==E1.N))<|.k5 5<|.kg 5<|.rt false)<|.k5 4<|.kg 4<|.b5 false<|.kb false<|.rt false)<|.k5 3<|.kg 3<|.b8 false<|.b4 false<|.rt false)<|.k5 2<|.kg 2<|.b16 false<|.b2 false<|.rt false)<|.k5 1<|.kg 1<|.b16 false<|.b8 false<|.rt false
def Znj(a0:Zd)(a1:Zd):LT Zfc Bool:=
.lb 1002<|.lb 1003<|.len Zl a0.Options<|.len Zl a1.Options<|.br ((a0.Options.length:Int) != (a1.Options.length:Int)) (.rt false)<|.go (.L0 a0 a1 0) [.relab 1002 3000,.relab 1003 3001]
def Ziq:LF Zfc Bool := .m0 20 [.t 4] wB fun | .L0 E0 E1 v5=>([1,1,0,1,4],⟨71,[(2,.bptr 3000 0),(3,.bptr 3001 0),(5,wI v5)],[(3000,.box (bx (Zp E0))),(3001,.box (bx (Zp E1)))]⟩,Zmf E0 E1 v5)
def Zpu:=fun a0 a1=>Ziq.run (Znj a0 a1)
theorem Zmg(a0)(a1){r}(h:Zpu a0 a1=some r):Fn PR 20 [wA (Zp a0),wA (Zp a1)] (wB r):=Ziq.fn h
def Zef(b0:Zt)(a1:Zd):LT Empty ((List Int)×Zt):=
.lb 1003<|.b5 false<|.cs b0.waits (.k5 0<|.b3 true<|.kn [0]<|.callF (Zct a1) 260000 fun x2=>.ret (x2,b0) [.relab 265000 5000])<|.k5 0<|.cs b0.bad (.k3 1<|.kn [0]<|.callF (Zct a1) 260000 fun x5=>.ret (x5,b0) [.relab 265000 5000])<|.k2 1<|.call (Zqm a1) fun x7=>.kg 1<|.br x7 (.callF (Zct a1) 260000 fun x10=>.ret (x10,b0) [.relab 265000 5000])<|.len (cL (cI .i64)) b0.answers<|.br (b0.used==(b0.answers.length:Int)) (.callF (Zdp a1.Options) 390000 fun x14=>.rl Zl x14<|.callS (Zct (⟨a1.Kind,a1.Player,a1.Source,a1.Least,a1.Most,a1.N,x14⟩:Zd)) 490000 (fun _=>⟨rfl,Zsh (cI .i64) (fun _=>rfl) _,trivial⟩) fun x16=>.rl Zl x14<|.rl Zl x14<|.rl Zl x14<|.rl Zl x14<|.rl Zl x14<|.ret (x16,(⟨b0.answers,b0.used,(⟨a1.Kind,a1.Player,a1.Source,a1.Least,a1.Most,a1.N,x14⟩:Zd),true,b0.bad⟩:Zt)) [.relab 495000 5000,.frz 395000])<|.idx (cL (cI .i64)) b0.answers b0.used fun x18=>.call (Zst a1 x18) fun x22=>.br (!x22) (.callF (Zct a1) 750000 fun x25=>.ret (x25,(⟨b0.answers,IntKind.wrap .i64 (b0.used+1),b0.pending,b0.waits,true⟩:Zt)) [.relab 755000 5000])<|.callF (Zgi x18) 770000 fun x27=>.ret (x27,(⟨b0.answers,IntKind.wrap .i64 (b0.used+1),b0.pending,b0.waits,b0.bad⟩:Zt)) [.relab 775000 5000]
def Zeg:LF Empty ((List Int)×Zt) := .z 12 [.t 4] true (fun r=>[(5000,wR (cI .i64) 1 r.1),(0,.box (bx (Zac r.2)))]) (fun r=>(wO (cI .i64) 5000 r.1))
def Zah:=fun b0 a1=>Zeg.run (Zef b0 a1)
theorem Zam(b0)(a1){r}(h:Zah b0 a1=some r):FnG PR 12 [(0,.box (bx (Zac b0)))] [.bptr 0 0,wA (Zp a1)] [(5000,wR (cI .i64) 1 r.1),(0,.box (bx (Zac r.2)))] (wO (cI .i64) 5000 r.1):=Zeg.fn h
def Zhh(b0:Zt):LT Empty (Zd×Bool):=
.lb 1002<|.b5 false<|.kb false<|.br (!b0.waits) (.ret ((⟨0,0,0,0,0,0,([]:List Zaz)⟩:Zd),false) [.ownb 1002 6 5006 3])<|.lb 1004<|.callF (Zdp b0.pending.Options) 220000 fun x2=>.ret ((⟨b0.pending.Kind,b0.pending.Player,b0.pending.Source,b0.pending.Least,b0.pending.Most,b0.pending.N,x2⟩:Zd),true) [.relab 225000 5006]
def Zdc(b0:Zt):LF Empty (Zd×Bool) := .z 19 [.c 2 70 true 7,.t 3] true (fun r=>[(5006,wR Zl 3 r.1.Options),(0,.box (bx (Zac b0)))]) (fun r=>(.tup [.agg [wI r.1.Kind,wI r.1.Player,wI r.1.Source,wI r.1.Least,wI r.1.Most,wI r.1.N,wO Zl 5006 r.1.Options],wB r.2]))
def Zh4(b0:Zt):Option (Zd×Bool):=(Zdc b0).run (Zhh b0)
theorem Zgh(b0:Zt){r:Zd×Bool}(h:Zh4 b0=some r):FnG PR 19 [(0,.box (bx (Zac b0)))] [.bptr 0 0] [(5006,wR Zl 3 r.1.Options),(0,.box (bx (Zac b0)))] (.tup [.agg [wI r.1.Kind,wI r.1.Player,wI r.1.Source,wI r.1.Least,wI r.1.Most,wI r.1.N,wO Zl 5006 r.1.Options],wB r.2]):=(Zdc b0).fn h
def Zir(b0:Zt):LT Empty Int:=
.kn [0]<|.rt b0.used
def Zeh(b0:Zt):LF Empty Int := .z 21 [.t 2] true (fun r=>[(0,.box (bx (Zac b0)))]) (fun r=>(wI r))
def Zjk(b0:Zt):Option Int:=(Zeh b0).run (Zir b0)
theorem Zds(b0:Zt){r:Int}(h:Zjk b0=some r):FnG PR 21 [(0,.box (bx (Zac b0)))] [.bptr 0 0] [(0,.box (bx (Zac b0)))] (wI r):=(Zeh b0).fn h
def Ziv(b0:Zt):LT Empty Bool:=
.b5 true<|.rt b0.bad
def Zes(b0:Zt):LF Empty Bool := .z 22 [.t 2] true (fun r=>[(0,.box (bx (Zac b0)))]) (fun r=>(wB r))
def Zjx(b0:Zt):Option Bool:=(Zes b0).run (Ziv b0)
theorem Zh5(b0:Zt){r:Bool}(h:Zjx b0=some r):FnG PR 22 [(0,.box (bx (Zac b0)))] [.bptr 0 0] [(0,.box (bx (Zac b0)))] (wB r):=(Zes b0).fn h
def Ztm:LT Empty Bool:=
.callF (Zms ([]:List (List Int))) 90000 fun x1=>.call (Zh3) fun x3=>.callU (Zam x1 x3) [95000] 120000 fun x5=>.callO (Zgh x5.2) [95000] 150000 (fun x=>[(5006,wR Zl 3 x.1.Options)]) fun x7=>.lb 1003<|.dr [.lit]<|.dr [.lit]<|.dr [.lit]<|.callF (Zms [[2],[3]]) 210000 fun x10=>.call (Zh3) fun x12=>.callU (Zam x10 x12) [215000] 240000 fun x14=>.call (Zh3) fun x16=>.callU (Zam x14.2 x16) [215000] 270000 fun x18=>.dr [.lit]<|.rl (cI .i64) x5.1<|.call (Ze1 x5.1 [0]) fun x20=>.cs x20 (.k2 0<|.cs x7.2 (.k2 1<|.call (Zh3) fun x24=>.kg 1<|.rl Zl x7.1.Options<|.call (Zmg x7.1 x24) fun x26=>.kg 1<|.cs x26 (.k2 2<|.callO (Zds x5.2) [95000] 410000 (fun x=>[]) fun x29=>.k2 2<|.cs (x29==0) (.k2 3<|.dr [.lit]<|.kg 3<|.rl (cI .i64) x14.1<|.call (Ze1 x14.1 [2]) fun x32=>.kg 3<|.cs x32 (.k2 4<|.dr [.lit]<|.kg 4<|.rl (cI .i64) x18.1<|.call (Ze1 x18.1 [0]) fun x35=>.kg 4<|.cs x35 (.k2 5<|.callO (Zh5 x18.2) [215000] 560000 (fun x=>[]) fun x38=>.kg 5<|.cs x38 (.k2 6<|.callO (Zds x18.2) [215000] 600000 (fun x=>[]) fun x41=>.k2 6<|.rt (x41==2))<|.k4 6<|.rt false)<|.k3 5<|.b4 false<|.rt false)<|.k4 4<|.b5 false<|.b2 false<|.rt false)<|.k4 3<|.b8 false<|.b3 false<|.rt false)<|.k4 2<|.b8 false<|.b5 false<|.b2 false<|.rt false)<|.k4 1<|.b16 false<|.b3 false<|.rt false)<|.k2 0<|.b16 false<|.b5 false<|.b2 false<|.rt false
def Zmz:LF Empty Bool := .z0 10 [.t 0] wB
def Zqi:=Zmz.run (Ztm)
theorem Zlx{r}(h:Zqi=some r):Fn PR 10 [] (wB r):=Zmz.fn h
def Zfj(a0:List Int):LT Empty (List Int):=
.apN (cI .i64) 1006 8 a0 fun x1=>.scl (cI .i64) (fun _=>rfl) x1<|.rl (cI .i64) x1<|.rl (cI .i64) x1<|.ret x1 [.regn 6900,.absr 1006 6900]
def Zfk:LF Empty (List Int) := .z 23 [.t 2] true (fun r=>[(6900,.reg false)]) (fun r=>(.own 6900 (.rg (.sl (List.map (cI .i64) r)))))
def Zd0:=fun a0=>Zfk.run (Zfj a0)
theorem Ziw(a0){r}(h:Zd0 a0=some r):FnG PR 23 [] [wL (cI .i64) a0] [(6900,.reg false)] (.own 6900 (.rg (.sl (List.map (cI .i64) r)))):=Zfk.fn h
inductive Zdt where
 | L0 (E0:Zt) (v8:List (List Int)) (v9:Int) (v10:Int)
def Zgt(E0:Zt)(v8:List (List Int))(v9:Int)(v10:Int):LT Zdt Zt:=
.br (decide (v10 < v9)) (.idx (cL (cI .i64)) v8 v10 fun x2=>.callF (Ziw x2) 210000 fun x4=>.ev [.nat 216900,.lab 1021] [] trivial<|.apX (cL (cI .i64)) 24 E0.answers [x4] fun x6=>.g0 (.L0 (⟨x6,E0.used,E0.pending,E0.waits,E0.bad⟩:Zt) v8 v9 (IntKind.wrap .i64 (v10+1))))<|.ok ((List.map (cL (cI .i64)) E0.answers).length<=(List.map (cL (cI .i64)) E0.answers).length)<|.rl (cL (cI .i64)) E0.answers<|.scl Zl (fun _=>rfl) E0.pending.Options<|.rl Zl E0.pending.Options<|.ret E0 [.relab 47000000 6900,.absr 40000 6900,.absr 40008 6900,.relab 3000 5000]
def Zkx(a0:List (List Int)):LT Zdt Zt:=
.lb 1007<|.dr [.ahead 8,.ownb 1007 0 48500700 1,.regn 48000700,.torx 48500700 48000700,.stop]<|.len (cL (cI .i64)) a0<|.go (.L0 (⟨([]:List (List Int)),0,(⟨0,0,0,0,0,0,([]:List Zaz)⟩:Zd),false,false⟩:Zt) a0 (a0.length:Int) 0) [.relab 1007 3000,.relab 48000700 47000000,.relab 48500700 40000,.ownb 3000 8 40008 3]
def Zky:LF Zdt Zt := .m 11 [.t 2] true (fun r=>[(6900,.reg false),(5000,.box [.own 6900 (.rg (.sl (List.map (cL (cI .i64)) r.answers))),wI r.used,wI r.pending.Kind,wI r.pending.Player,wI r.pending.Source,wI r.pending.Least,wI r.pending.Most,wI r.pending.N,.own 6900 (.rg (.sl (List.map Zl r.pending.Options))),wB r.waits,wB r.bad])]) (fun r=>(.bptr 5000 0)) fun | .L0 E0 v8 v9 v10=>([1,1,0,1,4],⟨27,[(3,.bptr 3000 0),(8,wL (cL (cI .i64)) v8),(9,wI v9),(10,wI v10)],[(3000,.box [.own 40000 (.xw (List.map (cL (cI .i64)) E0.answers).length),wI E0.used,wI E0.pending.Kind,wI E0.pending.Player,wI E0.pending.Source,wI E0.pending.Least,wI E0.pending.Most,wI E0.pending.N,wO Zl 40008 E0.pending.Options,wB E0.waits,wB E0.bad]),(40000,.xrow 1 (List.map (cL (cI .i64)) E0.answers).length 47000000 (List.map (cL (cI .i64)) E0.answers)),(40008,wR Zl 3 E0.pending.Options),(47000000,.reg false)]⟩,Zgt E0 v8 v9 v10)
def Ze2:=fun a0=>Zky.run (Zkx a0)
theorem Zf6(a0){r}(h:Ze2 a0=some r):FnG PR 11 [] [wL (cL (cI .i64)) a0] [(6900,.reg false),(5000,.box [.own 6900 (.rg (.sl (List.map (cL (cI .i64)) r.answers))),wI r.used,wI r.pending.Kind,wI r.pending.Player,wI r.pending.Source,wI r.pending.Least,wI r.pending.Most,wI r.pending.N,.own 6900 (.rg (.sl (List.map Zl r.pending.Options))),wB r.waits,wB r.bad])] (.bptr 5000 0):=Zky.fn h
inductive Zbl where
 | L0 (E0:Zd) (v5:List (List Int)) (v23:List (List Int)) (v24:Int) (v25:Int)
 | L1 (E0:Zd) (v5:List (List Int)) (E1:Zt) (E2:Zt) (v11:List Int) (v12:List Int) (v49:Int) (v50:Int)
 | L2 (E0:Zd) (E1:Zt) (v12:List Int) (v63:List (List Int)) (v64:Int) (v65:Int)
 | L3 (E0:Zd) (E1:Zt) (v12:List Int) (v15:List Int) (v63:List (List Int)) (v64:Int) (v65:Int) (v70:Int) (v71:Int)
def Zf7(E0:Zd)(v5:List (List Int))(v23:List (List Int))(v24:Int)(v25:Int):LT Zbl Bool:=
.br (decide (v25 < v24)) (.idx (cL (cI .i64)) v23 v25 fun x2=>.lb 1030<|.apR (cI .i64) 8 ([]:List Int) x2 fun x4=>.dr [.ahead 33,.pick [32,31,29,7,28,27,26,3,5,23,24,25] [1030,3000,20005,47000000],.absr 1030 47000000,.stop]<|.scl (cI .i64) (fun _=>rfl) x4<|.rl (cI .i64) x4<|.ev [.nat 47000000,.lab 1033] [] trivial<|.apX (cL (cI .i64)) 24 v5 [x4] fun x7=>.g0 (.L0 E0 x7 v23 v24 (IntKind.wrap .i64 (v25+1))))<|.dr [.ahead 36,.absr 20005 47000000,.stop]<|.ok ((List.map (cL (cI .i64)) v5).length<=(List.map (cL (cI .i64)) v5).length)<|.rl (cL (cI .i64)) v5<|.callS (Zf6 v5) 380000 (fun _=>⟨rfl,trivial,rfl,trivial⟩) fun x12=>.callS (Zf6 v5) 400000 (fun _=>⟨rfl,trivial,rfl,trivial⟩) fun x14=>.callS (Zf6 v5) 420000 (fun _=>⟨rfl,trivial,rfl,trivial⟩) fun x16=>.dr [.ahead 42,.regf 386900,.regf 406900,.regf 426900,.stop]<|.callU (Zam x12 E0) [385000] 450000 fun x18=>.lb 1045<|.rl (cI .i64) x18.1<|.apR (cI .i64) 8 ([]:List Int) x18.1 fun x20=>.lenO (cI .i64) x18.1<|.go (.L1 E0 v5 x14 x16 x18.1 x20 (x18.1.length:Int) 0) [.relab 405000 3001,.relab 425000 3002,.relab 455000 20011,.relab 1045 20012]
def Zf8(E0:Zd)(v5:List (List Int))(E1:Zt)(E2:Zt)(v11:List Int)(v12:List Int)(v49:Int)(v50:Int):LT Zbl Bool:=
.br (decide (v50 < v49)) (.idxR (cI .i64) v11 v50 fun x2=>.setR (cI .i64) v11 v50 x2 (-5) 2 0 [.int .i64 (-5)] rfl fun x4=>.dr [.ahead 56,.relen 20011,.stop]<|.us [3]<|.us [3]<|.us [3]<|.g0 (.L1 E0 v5 E1 E2 x4 v12 v49 (IntKind.wrap .i64 (v50+1))))<|.callU (Zam E1 E0) [3001] 600000 fun x8=>.rl (cI .i64) x8.1<|.rl (cI .i64) v12<|.call (Ze1 x8.1 v12) fun x10=>.br (!x10) (.rt false)<|.dr [.ahead 63,.regh 47000000,.stop]<|.len (cL (cI .i64)) v5<|.go (.L2 E0 E2 v12 v5 (v5.length:Int) 0) [.pick [3,10,12,63,64,65] [3000,3002,20012,47000000],.relab 3002 3001]
def Zf9(E0:Zd)(E1:Zt)(v12:List Int)(v63:List (List Int))(v64:Int)(v65:Int):LT Zbl Bool:=
.br (decide (v65 < v64)) (.idx (cL (cI .i64)) v63 v65 fun x2=>.len (cI .i64) x2<|.g0 (.L3 E0 E1 v12 x2 v63 v64 v65 (x2.length:Int) 0))<|.callU (Zam E1 E0) [3001] 850000 fun x5=>.rl (cI .i64) x5.1<|.rl (cI .i64) v12<|.call (Ze1 x5.1 v12) fun x7=>.cs x7 (.kg 1<|.call (Zlx) fun x10=>.kg 1<|.rt x10)<|.k2 1<|.rt false
def Zga(E0:Zd)(E1:Zt)(v12:List Int)(v15:List Int)(v63:List (List Int))(v64:Int)(v65:Int)(v70:Int)(v71:Int):LT Zbl Bool:=
.br (decide (v71 < v70)) (.idx (cI .i64) v15 v71 fun x2=>.ag (cI .i64) x2 0<|.g0 (.L3 E0 E1 v12 v15 v63 v64 v65 v70 (IntKind.wrap .i64 (v71+1))))<|.g0 (.L2 E0 E1 v12 v63 v64 (IntKind.wrap .i64 (v65+1)))
def Zjy(a0:List (List Int))(a1:Zd):LT Zbl Bool:=
.lb 1003<|.dr [.lit]<|.call (Zsr [a1] a0) fun x1=>.br (!x1) (.call (Zlx) fun x4=>.rt x4)<|.dr [.ahead 23,.own 5 48500005 1,.regn 48000005,.torx 48500005 48000005,.stop]<|.len (cL (cI .i64)) a0<|.go (.L0 a1 ([]:List (List Int)) a0 (a0.length:Int) 0) [.relab 1003 3000,.relab 48000005 47000000,.relab 48500005 20005]
def Zjz:LF Zbl Bool := .m0 4 [.t 4] wB fun | .L0 E0 v5 v23 v24 v25=>([1,1,1,0,1,4],⟨90,[(3,.bptr 3000 0),(5,.own 20005 (.xw (List.map (cL (cI .i64)) v5).length)),(23,wL (cL (cI .i64)) v23),(24,wI v24),(25,wI v25)],[(3000,.box (bx (Zp E0))),(20005,.xrow 1 (List.map (cL (cI .i64)) v5).length 47000000 (List.map (cL (cI .i64)) v5)),(47000000,.reg false)]⟩,Zf7 E0 v5 v23 v24 v25) | .L1 E0 v5 E1 E2 v11 v12 v49 v50=>([1,1,1,1,1,1,1,0,1,4],⟨90,[(3,.bptr 3000 0),(5,.own 47000000 (.rg (.sl (List.map (cL (cI .i64)) v5)))),(9,.bptr 3001 0),(10,.bptr 3002 0),(11,wO (cI .i64) 20011 v11),(12,wO (cI .i64) 20012 v12),(49,wI v49),(50,wI v50)],[(3000,.box (bx (Zp E0))),(3001,.box (bx (Zac E1))),(3002,.box (bx (Zac E2))),(20011,wR (cI .i64) 1 v11),(20012,wR (cI .i64) 1 v12),(47000000,.reg false)]⟩,Zf8 E0 v5 E1 E2 v11 v12 v49 v50) | .L2 E0 E1 v12 v63 v64 v65=>([1,1,1,1,1,1,1,1,1,0,1,4],⟨90,[(3,.bptr 3000 0),(10,.bptr 3001 0),(12,wO (cI .i64) 20012 v12),(63,.own 47000000 (.rg (.sl (List.map (cL (cI .i64)) v63)))),(64,wI v64),(65,wI v65)],[(3000,.box (bx (Zp E0))),(3001,.box (bx (Zac E1))),(20012,wR (cI .i64) 1 v12),(47000000,.reg true)]⟩,Zf9 E0 E1 v12 v63 v64 v65) | .L3 E0 E1 v12 v15 v63 v64 v65 v70 v71=>([1,1,1,1,1,1,1,1,1,0,1,4,5,1,1,0,4,1,1,4],⟨90,[(3,.bptr 3000 0),(10,.bptr 3001 0),(12,wO (cI .i64) 20012 v12),(15,.own 47000000 (.rg (.sl (List.map (cI .i64) v15)))),(63,.own 47000000 (.rg (.sl (List.map (cL (cI .i64)) v63)))),(64,wI v64),(65,wI v65),(70,wI v70),(71,wI v71)],[(3000,.box (bx (Zp E0))),(3001,.box (bx (Zac E1))),(20012,wR (cI .i64) 1 v12),(47000000,.reg true)]⟩,Zga E0 E1 v12 v15 v63 v64 v65 v70 v71)
def Zis:=fun a0 a1=>Zjz.run (Zjy a0 a1)
theorem Zox(a0)(a1){r}(h:Zis a0 a1=some r):Fn PR 4 [wL (cL (cI .i64)) a0,wA (Zp a1)] (wB r):=Zjz.fn h
end
end Go.PW
