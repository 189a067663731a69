import Derived.Test.YtchddhcajpagjaaGreatQDa
set_option linter.all false
set_option maxRecDepth 100000
namespace Go.PW
open Go.RowKit
noncomputable section
inductive Zt9 where
 | L0 (v0:List Zk) (E0:Zm) (v19:List Zf) (v20:Int) (v21:Int)
def Zajc(v0:List Zk)(E0:Zm)(v19:List Zf)(v20:Int)(v21:Int):LT Zt9 Zm:=
.br (decide (v21 < v20)) (.idx Zj v19 v21 fun x2=>.lb 1007<|.call (Zagx v0 x2) fun x4=>.dr [.lit]<|.apR Zg 176 E0.traits [x4] fun x6=>.g0 (.L0 v0 (⟨E0.s,E0.forces,x6,E0.dropped,E0.done,E0.hits⟩:Zm) v19 v20 (IntKind.wrap .i64 (v21+1))))<|.len Zx E0.forces<|.mk cB 1045 1 false (E0.forces.length:Int) (E0.forces.length:Int) fun x12=>.len Zx E0.forces<|.mk (cL (cI .i64)) 1051 24 [] (E0.forces.length:Int) (E0.forces.length:Int) fun x14=>.ret (⟨E0.s,E0.forces,E0.traits,E0.dropped,x12,x14⟩:Zm) [.relab 3000 5000,.relab 40020 5021,.relab 40021 5022,.relab 1045 5023,.relab 1051 5024]
def Zal2(a0:List Zk)(a1:Zo):LT Zt9 Zm:=
.lb 1003<|.call (Zp0 a0 a1) fun x1=>.len Zj a1.Objects<|.mk cB 1015 1 false (a1.Objects.length:Int) (a1.Objects.length:Int) fun x4=>.lb 1017<|.len Zj a1.Objects<|.go (.L0 a0 (⟨a1,x1,([]:List Zb),x4,([]:List Bool),([]:List (List Int))⟩:Zm) a1.Objects (a1.Objects.length:Int) 0) [.relab 1017 3000,.ownb 3000 20 40020 17,.relab 1015 40021,.ownb 3000 22 40022 1,.ownb 3000 23 40023 1]
def Z44:LF Zt9 Zm := .m 34 [.t 4] true (fun r=>[(5000,.box (tm5 r 5000)),(5021,wR Zg 17 r.traits),(5022,wR cB 1 r.dropped),(5023,wR cB 1 r.done),(5024,wR (cL (cI .i64)) 1 r.hits)]) (fun r=>(.bptr 5000 0)) fun | .L0 v0 E0 v19 v20 v21=>([1,1,0,1,4],⟨57,[(0,wL Zu v0),(5,.bptr 3000 0),(19,wL Zj v19),(20,wI v20),(21,wI v21)],((3000,.box (tm7 E0 40000))::(tm20 E0 40000))⟩,Zajc v0 E0 v19 v20 v21)
def Zath:=fun a0 a1=>Z44.run (Zal2 a0 a1)
theorem Zagy(a0)(a1){r}(h:Zath a0 a1=some r):FnG PR 34 [] [wL Zu a0,wA (Z1 a1)] [(5000,.box (tm5 r 5000)),(5021,wR Zg 17 r.traits),(5022,wR cB 1 r.dropped),(5023,wR cB 1 r.done),(5024,wR (cL (cI .i64)) 1 r.hits)] (.bptr 5000 0):=Z44.fn h
def Zabb(a0:Int):LT Empty Int:=
.rt (minI (maxI a0 (-1000000)) 1000000)
def Zabc:LF Empty Int := .z0 143 [.t 2] wI
def Z7l:=fun a0=>Zabc.run (Zabb a0)
theorem Zc6(a0){r}(h:Z7l a0=some r):Fn PR 143 [wI a0] (wI r):=Zabc.fn h
def Zayn(a0:Int)(a1:Int):LT Empty Int:=
.call (Zc6 a0) fun x1=>.call (Zc6 a1) fun x3=>.call (Zc6 (IntKind.wrap .i64 (x1 - x3))) fun x7=>.rt x7
def Zalc:LF Empty Int := .z0 142 [.t 4] wI
def Za2b:=fun a0 a1=>Zalc.run (Zayn a0 a1)
theorem Zav3(a0)(a1){r}(h:Za2b a0 a1=some r):Fn PR 142 [wI a0,wI a1] (wI r):=Zalc.fn h
def Zagz(a0:A3 Int):LT Empty Int:=
.lb 1001<|.idA (Zd.int .i64) (A3.list a0) 0 (bx ((cA3 (cI .i64)) a0)) 0 3 fun x1=>.ldC (Zd.int .i64) 4 x1 0<|.idA (Zd.int .i64) (A3.list a0) 1 (bx ((cA3 (cI .i64)) a0)) 0 3 fun x3=>.ldC (Zd.int .i64) 6 x3 1<|.call (Zav3 x1 x3) fun x5=>.rt x5
def Zzq:LF Empty Int := .z0 91 [.t 2] wI
def Zal3:=fun a0=>Zzq.run (Zagz a0)
theorem Zac7(a0){r}(h:Zal3 a0=some r):Fn PR 91 [wA ((cA3 (cI .i64)) a0)] (wI r):=Zzq.fn h
def Zald(a0:Int)(a1:Int):LT Empty Int:=
.call (Zc6 a0) fun x1=>.call (Zc6 a1) fun x3=>.call (Zc6 (IntKind.wrap .i64 (x1+x3))) fun x7=>.rt x7
def Zale:LF Empty Int := .z0 92 [.t 4] wI
def Zajd:=fun a0 a1=>Zale.run (Zald a0 a1)
theorem Zp1(a0)(a1){r}(h:Zajd a0 a1=some r):Fn PR 92 [wI a0,wI a1] (wI r):=Zale.fn h
inductive Zm9 where
 | L0 (v0:Int) (v3:Int) (v6:Bool)
 | L1 (v0:Int) (v3:Int) (v11:Bool)
 | L2 (v0:Int) (v3:Int) (v14:Bool)
def Zp2(v0:Int)(v3:Int)(v14:Bool):LT Zm9 Int:=
.br v14 (.rt 4)<|.br (v3==11) (.kn [2]<|.rt (IntKind.wrap .i64 ((IntKind.wrap .i64 (5+v0)) - 11)))<|.br (v3==12) (.kn [3]<|.rt (IntKind.wrap .i64 ((IntKind.wrap .i64 (5+v0)) - 11)))<|.br (v3==13) (.kn [4]<|.rt (IntKind.wrap .i64 ((IntKind.wrap .i64 (5+v0)) - 11)))<|.br (v3==14) (.rt (IntKind.wrap .i64 ((IntKind.wrap .i64 (5+v0)) - 11)))<|.rt 0
def Zxr(v0:Int)(v3:Int)(v11:Bool):LT Zm9 Int:=
.br v11 (.rt 3)<|.br (v3==8) (.j0 (.L2 v0 v3 (v3==8)) (Zp2 v0 v3 (v3==8)))<|.br (v3==9) (.j0 (.L2 v0 v3 (v3==9)) (Zp2 v0 v3 (v3==9)))<|.j0 (.L2 v0 v3 (v3==10)) (Zp2 v0 v3 (v3==10))
def Zlc(v0:Int)(v3:Int)(v6:Bool):LT Zm9 Int:=
.br v6 (.rt 2)<|.br (v3==6) (.j0 (.L1 v0 v3 (v3==6)) (Zxr v0 v3 (v3==6)))<|.j0 (.L1 v0 v3 (v3==7)) (Zxr v0 v3 (v3==7))
def Zati(a0:Int):LT Zm9 Int:=
.br (a0==1) (.rt 1)<|.br (a0==2) (.j0 (.L0 a0 a0 (a0==2)) (Zlc a0 a0 (a0==2)))<|.br (a0==3) (.j0 (.L0 a0 a0 (a0==3)) (Zlc a0 a0 (a0==3)))<|.br (a0==4) (.j0 (.L0 a0 a0 (a0==4)) (Zlc a0 a0 (a0==4)))<|.j0 (.L0 a0 a0 (a0==5)) (Zlc a0 a0 (a0==5))
def Zabd:LF Zm9 Int := .m0 95 [.t 2] wI fun | .L0 v0 v3 v6=>([1,0,1,4,1,3,1],⟨26,[(0,wI v0),(3,wI v3),(6,wB v6)],[]⟩,Zlc v0 v3 v6) | .L1 v0 v3 v11=>([1,0,1,4,1,3,1,3,1],⟨26,[(0,wI v0),(3,wI v3),(11,wB v11)],[]⟩,Zxr v0 v3 v11) | .L2 v0 v3 v14=>([1,0,1,4,1,3,1,3,1,3,1],⟨26,[(0,wI v0),(3,wI v3),(14,wB v14)],[]⟩,Zp2 v0 v3 v14)
def Zayo:=fun a0=>Zabd.run (Zati a0)
theorem Zp3(a0){r}(h:Zayo a0=some r):Fn PR 95 [wI a0] (wI r):=Zabd.fn h
def Z01(a0:Zh)(b0:Int):LT Empty Bool:=
.lb 1002<|.call (Zp3 a0.Kind) fun x1=>.rt (x1==b0)
def Zna(b0:Int):LF Empty Bool := .z 94 [.t 3] true (fun r=>[(0,.box (bx ((cI .i64) b0)))]) (fun r=>(wB r))
def Z30(a0:Zh)(b0:Int):Option Bool:=(Zna b0).run (Z01 a0 b0)
theorem Zxs(a0:Zh)(b0:Int){r:Bool}(h:Z30 a0 b0=some r):FnG PR 94 [(0,.box (bx ((cI .i64) b0)))] [wA (Zl a0),.bptr 0 0] [(0,.box (bx ((cI .i64) b0)))] (wB r):=(Zna b0).fn h
inductive Zbe where
 | L0 (v0:List Zh) (c0:Int) (v7:Int) (v8:Int)
def Zfk(v0:List Zh)(c0:Int)(v7:Int)(v8:Int):LT Zbe (Int×Int):=
.br (decide (v8 < v7)) (.idx Zl v0 v8 fun x2=>.callO (Zxs x2 c0) [0] 170000 (fun x=>[]) fun x4=>.br x4 (.rt (v8,c0))<|.g0 (.L0 v0 c0 v7 (IntKind.wrap .i64 (v8+1))))<|.rt ((-1),c0)
def Zft(a0:List Zh)(b0:Int):LT Zbe (Int×Int):=
.len Zl a0<|.g0 (.L0 a0 b0 (a0.length:Int) 0)
def Zcl:LF Zbe (Int×Int) := .m 144 [.t 4] true (fun r=>[(0,.box (bx ((cI .i64) r.2)))]) (fun r=>(wI r.1)) fun | .L0 v0 c0 v7 v8=>([1,0,1,4],⟨19,[(0,wL Zl v0),(1,.fn 94 [.bptr 0 0]),(7,wI v7),(8,wI v8)],[(0,.box (bx ((cI .i64) c0)))]⟩,Zfk v0 c0 v7 v8)
def Zf6:=fun a0 b0=>Zcl.run (Zft a0 b0)
theorem Ze8(a0)(b0){r}(h:Zf6 a0 b0=some r):FnG PR 144 [(0,.box (bx ((cI .i64) b0)))] [wL Zl a0,.fn 94 [.bptr 0 0]] [(0,.box (bx ((cI .i64) r.2)))] (wI r.1):=Zcl.fn h
def Ze3(a0:List Zh)(b0:Int):LT Empty (Bool×Int):=
.callU (Ze8 a0 b0) [0] 80000 fun x1=>.rt (decide (x1.1>=0),x1.2)
def Zce:LF Empty (Bool×Int) := .z 93 [.t 4] true (fun r=>[(0,.box (bx ((cI .i64) r.2)))]) (fun r=>(wB r.1))
def Zfl:=fun a0 b0=>Zce.run (Ze3 a0 b0)
theorem Zev(a0)(b0){r}(h:Zfl a0 b0=some r):FnG PR 93 [(0,.box (bx ((cI .i64) b0)))] [wL Zl a0,.fn 94 [.bptr 0 0]] [(0,.box (bx ((cI .i64) r.2)))] (wB r.1):=Zce.fn h
def Zag0(a0:Zad)(a1:Int):LT Empty Bool:=
.lb 1002<|.lb 1003<|.callU (Zev a0.Mods a1) [1003] 90000 fun x1=>.rt x1.1
def Zzr:LF Empty Bool := .z0 53 [.t 4] wB
def Zal4:=fun a0 a1=>Zzr.run (Zag0 a0 a1)
theorem Zac8(a0)(a1){r}(h:Zal4 a0 a1=some r):Fn PR 53 [wA (Zx a0),wI a1] (wB r):=Zzr.fn h
inductive Zmi where
 | L0 (v1:Int) (E0:Zc) (v5:Bool)
def Zld(v1:Int)(E0:Zc)(v5:Bool):LT Zmi Bool:=
.br (v1==1) (.rt (E0.Who != 0))<|.br (v1==2) (.cs ((Zax .or .i64 E0.Types E0.NotTypes) != 0) (.k4 2<|.b2 true<|.rt true)<|.k4 2<|.cs (!(E0.Sub==([]:By))) (.k2 3<|.rt true)<|.k2 3<|.rt v5)<|.br (v1==3) (.rt ((Zax .or .i64 E0.Colors E0.NotColors) != 0))<|.br (v1==4) (.rt (E0.Keys != 0))<|.rt v5
def Z9q(a0:Zc)(a1:Int):LT Zmi Bool:=
.lb 1002<|.cs (a0.Power.Kind != 0) (.k5 0<|.jn 0 (.L0 a1 a0 true) [.relab 1002 3000] (Zld a1 a0 true))<|.k5 0<|.jn 0 (.L0 a1 a0 (a0.Tough.Kind != 0)) [.relab 1002 3000] (Zld a1 a0 (a0.Tough.Kind != 0))
def Zvl:LF Zmi Bool := .m0 150 [.t 4] wB fun | .L0 v1 E0 v5=>([1,1],⟨52,[(1,wI v1),(2,.bptr 3000 0),(5,wB v5)],[(3000,.box (bx (Zn E0)))]⟩,Zld v1 E0 v5)
def Zag1:=fun a0 a1=>Zvl.run (Z9q a0 a1)
theorem Zto(a0)(a1){r}(h:Zag1 a0 a1=some r):Fn PR 150 [wA (Zn a0),wI a1] (wB r):=Zvl.fn h
def Zac9(a0:Int):LT Empty Bool:=
.rt (a0 != a0)
def Zxt:LF Empty Bool := .z0 119 [.t 2] wB
def Zaje:=fun a0=>Zxt.run (Zac9 a0)
theorem Zvm(a0){r}(h:Zaje a0=some r):Fn PR 119 [wI a0] (wB r):=Zxt.fn h
def Z7m(a0:Int)(a1:Int):LT Empty Int:=
.call (Zvm a0) fun x1=>.call (Zvm a1) fun x3=>.br x1 (.br x3 (.rt 0)<|.rt (-1))<|.br x3 (.rt 1)<|.br (decide (a0 < a1)) (.rt (-1))<|.br (decide (a0 > a1)) (.rt 1)<|.rt 0
def Ztp:LF Empty Int := .z0 72 [.t 4] wI
def Zada:=fun a0 a1=>Ztp.run (Z7m a0 a1)
theorem Z5p(a0)(a1){r}(h:Zada a0 a1=some r):Fn PR 72 [wI a0,wI a1] (wI r):=Ztp.fn h
def Zag2(a0:Zf)(a1:Int):LT Empty Int:=
.lb 1002<|.call (Z5p a0.Id a1) fun x1=>.rt x1
def Zzs:LF Empty Int := .z0 71 [.t 4] wI
def Zal5:=fun a0 a1=>Zzs.run (Zag2 a0 a1)
theorem Zxu(a0)(a1){r}(h:Zal5 a0 a1=some r):Fn PR 71 [wA (Zj a0),wI a1] (wI r):=Zzs.fn h
inductive Zaw where
 | L0 (v0:List Zf) (v1:Int) (v8:Int) (v9:Int) (v10:Int)
def Zdd(v0:List Zf)(v1:Int)(v8:Int)(v9:Int)(v10:Int):LT Zaw (Int×Bool):=
.br (decide (v9 < v10)) (.dc (¬ (1:Int) < 0) rfl<|.idx Zj v0 (IntKind.wrap .i64 (shrI .u64 (IntKind.wrap .u64 (IntKind.wrap .i64 (v9+v10))) 1)) fun x7=>.call (Zxu x7 v1) fun x9=>.br (decide (x9 < 0)) (.g0 (.L0 v0 v1 v8 (IntKind.wrap .i64 ((IntKind.wrap .i64 (shrI .u64 (IntKind.wrap .u64 (IntKind.wrap .i64 (v9+v10))) 1))+1)) v10))<|.g0 (.L0 v0 v1 v8 v9 (IntKind.wrap .i64 (shrI .u64 (IntKind.wrap .u64 (IntKind.wrap .i64 (v9+v10))) 1))))<|.cs (decide (v9 < v8)) (.k4 1<|.idx Zj v0 v9 fun x15=>.k3 1<|.call (Zxu x15 v1) fun x17=>.k2 1<|.rt (v9,x17==0))<|.k8 1<|.kg 1<|.rt (v9,false)
def Zdj(a0:List Zf)(a1:Int):LT Zaw (Int×Bool):=
.len Zj a0<|.g0 (.L0 a0 a1 (a0.length:Int) 0 (a0.length:Int))
def Zbk:LF Zaw (Int×Bool) := .m0 70 [.t 6,.t 7] (fun r=>(.tup [wI r.1,wB r.2])) fun | .L0 v0 v1 v8 v9 v10=>([1,1,1,0,4],⟨49,[(0,wL Zj v0),(1,wI v1),(2,.fn 71 []),(8,wI v8),(9,wI v9),(10,wI v10)],[]⟩,Zdd v0 v1 v8 v9 v10)
def Zdy:=fun a0 a1=>Zbk.run (Zdj a0 a1)
theorem Zde(a0)(a1){r}(h:Zdy a0 a1=some r):Fn PR 70 [wL Zj a0,wI a1,.fn 71 []] (.tup [wI r.1,wB r.2]):=Zbk.fn h
def Zal6(a0:Zo)(a1:Int):LT Empty Int:=
.lb 1002<|.call (Zde a0.Objects a1) fun x1=>.br (!x1.2) (.rt (-1))<|.rt x1.1
def Z45:LF Empty Int := .z0 42 [.t 4] wI
def Zatj:=fun a0 a1=>Z45.run (Zal6 a0 a1)
theorem Z2s(a0)(a1){r}(h:Zatj a0 a1=some r):Fn PR 42 [wA (Z1 a0),wI a1] (wI r):=Z45.fn h
inductive Zgi where
 | L0 (v0:List Int) (v1:Int) (v7:Int) (v8:Int)
def Zua(v0:List Int)(v1:Int)(v7:Int)(v8:Int):LT Zgi Int:=
.br (decide (v8 < v7)) (.idx (cI .i64) v0 v8 fun x2=>.br (v1==x2) (.rt v8)<|.g0 (.L0 v0 v1 v7 (IntKind.wrap .i64 (v8+1))))<|.rt (-1)
def Zvv(a0:List Int)(a1:Int):LT Zgi Int:=
.len (cI .i64) a0<|.g0 (.L0 a0 a1 (a0.length:Int) 0)
def Zkh:LF Zgi Int := .m0 193 [.t 4] wI fun | .L0 v0 v1 v7 v8=>([1,0,1,4],⟨19,[(0,wL (cI .i64) v0),(1,wI v1),(7,wI v7),(8,wI v8)],[]⟩,Zua v0 v1 v7 v8)
def Zyr:=fun a0 a1=>Zkh.run (Zvv a0 a1)
theorem Zf7(a0)(a1){r}(h:Zyr a0 a1=some r):Fn PR 193 [wL (cI .i64) a0,wI a1] (wI r):=Zkh.fn h
def Zrh(a0:List Int)(a1:Int):LT Empty Bool:=
.call (Zf7 a0 a1) fun x1=>.rt (decide (x1>=0))
def Zip:LF Empty Bool := .z0 155 [.t 4] wB
def Zub:=fun a0 a1=>Zip.run (Zrh a0 a1)
theorem Zh6(a0)(a1){r}(h:Zub a0 a1=some r):Fn PR 155 [wL (cI .i64) a0,wI a1] (wB r):=Zip.fn h
def Zadb(a0:Int)(a1:Int):LT Empty Bool:=
.cs (decide (a0>=0)) (.k4 0<|.rt (decide (a0<=a1)))<|.k4 0<|.rt false
def Zxv:LF Empty Bool := .z0 245 [.t 4] wB
def Zajf:=fun a0 a1=>Zxv.run (Zadb a0 a1)
theorem Zbo(a0)(a1){r}(h:Zajf a0 a1=some r):Fn PR 245 [wI a0,wI a1] (wB r):=Zxv.fn h
inductive Z7n where
 | L0 (v36:List Int) (v37:Int) (v38:Int)
def Zav4(v36:List Int)(v37:Int)(v38:Int):LT Z7n Bool:=
.br (decide (v38 < v37)) (.idx (cI .u8) v36 v38 fun x2=>.cs (decide (x2 < 97)) (.k3 1<|.b3 true<|.cs (decide (x2 < 48)) (.k2 2<|.kb true<|.kg 2<|.b4 true<|.br (x2 != 45) (.rt false)<|.g0 (.L0 v36 v37 (IntKind.wrap .i64 (v38+1))))<|.k2 2<|.kb true<|.kg 2<|.kb true<|.cs (decide (x2 > 57)) (.k3 3<|.br (x2 != 45) (.rt false)<|.g0 (.L0 v36 v37 (IntKind.wrap .i64 (v38+1))))<|.k3 3<|.kn [0]<|.g0 (.L0 v36 v37 (IntKind.wrap .i64 (v38+1))))<|.k3 1<|.cs (decide (x2 > 122)) (.k3 2<|.cs (decide (x2 < 48)) (.k2 3<|.kg 2<|.kg 3<|.kg 2<|.b3 true<|.br (x2 != 45) (.rt false)<|.g0 (.L0 v36 v37 (IntKind.wrap .i64 (v38+1))))<|.k2 3<|.kg 2<|.kg 3<|.kg 2<|.cs (decide (x2 > 57)) (.k3 4<|.br (x2 != 45) (.rt false)<|.g0 (.L0 v36 v37 (IntKind.wrap .i64 (v38+1))))<|.k3 4<|.kn [0]<|.g0 (.L0 v36 v37 (IntKind.wrap .i64 (v38+1))))<|.k5 2<|.b3 false<|.kn [0]<|.g0 (.L0 v36 v37 (IntKind.wrap .i64 (v38+1))))<|.rt true
def Zayp(a0:By):LT Z7n Bool:=
.lenS a0<|.cs ((a0.length:Int)==0) (.k4 0<|.b16 true<|.b2 true<|.kn [0]<|.rt false)<|.k2 0<|.lenS a0<|.k2 0<|.cs (decide ((a0.length:Int) > 32)) (.k4 1<|.b8 true<|.b5 true<|.kb true<|.kn [0]<|.rt false)<|.k2 1<|.idxS a0 0 fun x4=>.k2 1<|.cs (decide ((UInt8.toNat x4:Int) < 97)) (.k4 2<|.b8 true<|.b2 true<|.kn [0]<|.rt false)<|.k2 2<|.idxS a0 0 fun x7=>.k2 2<|.cs (decide ((UInt8.toNat x7:Int) > 122)) (.k5 3<|.k2 3<|.b3 true<|.kn [0]<|.rt false)<|.k3 3<|.lenS a0<|.k2 3<|.idxS a0 (IntKind.wrap .i64 ((a0.length:Int) - 1)) fun x12=>.k2 3<|.cs ((UInt8.toNat x12:Int)==45) (.k3 4<|.kn [0]<|.rt false)<|.k2 4<|.call (Z5n a0 ([45,45]:By)) fun x15=>.kg 4<|.br x15 (.rt false)<|.bys a0 fun x18=>.len (cI .u8) x18<|.g0 (.L0 x18 (x18.length:Int) 0)
def Zalf:LF Z7n Bool := .m0 249 [.t 2] wB fun | .L0 v36 v37 v38=>([1,1,0,1,4],⟨61,[(36,wL (cI .u8) v36),(37,wI v37),(38,wI v38)],[]⟩,Zav4 v36 v37 v38)
def Za2c:=fun a0=>Zalf.run (Zayp a0)
theorem Zav5(a0){r}(h:Za2c a0=some r):Fn PR 249 [wS a0] (wB r):=Zalf.fn h
def Zadc(a0:Int):LT Empty (By):=
.idX Zd.str (A2.list (⟨([98,97,115,105,99]:By),([117,110,105,113,117,101]:By)⟩:A2 (By))) a0 fun x1=>.rt x1
def Zxw:LF Empty (By) := .z0 251 [.t 2] wS
def Zajg:=fun a0=>Zxw.run (Zadc a0)
theorem Z9r(a0){r}(h:Zajg a0=some r):Fn PR 251 [wI a0] (wS r):=Zxw.fn h
def Zag3(a0:Int):LT Empty (By):=
.idX Zd.str (A6.list (⟨([99,114,101,97,116,117,114,101]:By),([105,110,115,116,97,110,116]:By),([114,105,116,117,97,108]:By),([114,101,108,105,99]:By),([99,104,97,114,109]:By),([108,97,110,100]:By)⟩:A6 (By))) a0 fun x1=>.rt x1
def Zzt:LF Empty (By) := .z0 252 [.t 2] wS
def Zal7:=fun a0=>Zzt.run (Zag3 a0)
theorem Zadd(a0){r}(h:Zal7 a0=some r):Fn PR 252 [wI a0] (wS r):=Zzt.fn h
inductive Zf8 where
 | L0 (v0:By) (v8:Int) (v9:Int)
def Ztq(v0:By)(v8:Int)(v9:Int):LT Zf8 Int:=
.br (decide (v9 < v8)) (.call (Z9r v9) fun x2=>.br (!(x2==v0)) (.g0 (.L0 v0 v8 (IntKind.wrap .i64 (v9+1))))<|.ok (¬ v9 < 0)<|.rt (Z6b .i64 1 v9))<|.rt 0
def Zuc(a0:By)(a1:Int):LT Zf8 Int:=
.g0 (.L0 a0 a1 0)
def Zjv:LF Zf8 Int := .m0 250 [.t 6] wI fun | .L0 v0 v8 v9=>([1,6,1,0,1,4],⟨20,[(0,wS v0),(2,.fn 251 []),(8,wI v8),(9,wI v9)],[]⟩,Ztq v0 v8 v9)
def Zxx:=fun a0 a1=>Zjv.run (Zuc a0 a1)
theorem Ztr(a0)(a1){r}(h:Zxx a0 a1=some r):Fn PR 250 [wS a0,wI a1,.fn 251 []] (wI r):=Zjv.fn h
inductive Zgj where
 | L0 (v0:By) (v8:Int) (v9:Int)
def Zud(v0:By)(v8:Int)(v9:Int):LT Zgj Int:=
.br (decide (v9 < v8)) (.call (Zadd v9) fun x2=>.br (!(x2==v0)) (.g0 (.L0 v0 v8 (IntKind.wrap .i64 (v9+1))))<|.ok (¬ v9 < 0)<|.rt (Z6b .i64 1 v9))<|.rt 0
def Zvw(a0:By)(a1:Int):LT Zgj Int:=
.g0 (.L0 a0 a1 0)
def Zki:LF Zgj Int := .m0 250 [.t 6] wI fun | .L0 v0 v8 v9=>([1,6,1,0,1,4],⟨20,[(0,wS v0),(2,.fn 252 []),(8,wI v8),(9,wI v9)],[]⟩,Zud v0 v8 v9)
def Zys:=fun a0 a1=>Zki.run (Zvw a0 a1)
theorem Zue(a0)(a1){r}(h:Zys a0 a1=some r):Fn PR 250 [wS a0,wI a1,.fn 252 []] (wI r):=Zki.fn h
def Zaqx(a0:By):LT Empty Bool:=
.call (Zav5 a0) fun x1=>.cs x1 (.k2 0<|.call (Ztr a0 2) fun x4=>.k2 0<|.cs (x4==0) (.k2 1<|.call (Zue a0 6) fun x7=>.k2 1<|.rt (x7==0))<|.k4 1<|.rt false)<|.k4 0<|.b4 false<|.rt false
def Z7o:LF Empty Bool := .z0 204 [.t 2] wB
def Zav6:=fun a0=>Z7o.run (Zaqx a0)
theorem Zuf(a0){r}(h:Zav6 a0=some r):Fn PR 204 [wS a0] (wB r):=Z7o.fn h
def Zade(a0:Za):LT Empty Bool:=
.lb 1001<|.call (Zbo a0.Kind 3) fun x1=>.cs x1 (.k3 0<|.call (Zbo a0.N 1000000) fun x4=>.kg 0<|.cs x4 (.k4 1<|.cs (a0.Kind != 0) (.k3 2<|.kg 1<|.kg 2<|.kg 1<|.rt true)<|.k3 2<|.kg 1<|.kg 2<|.kg 1<|.rt (a0.N==0))<|.k5 1<|.kg 1<|.rt false)<|.k4 0<|.b5 false<|.kb false<|.rt false
def Zxy:LF Empty Bool := .z0 246 [.t 2] wB
def Zajh:=fun a0=>Zxy.run (Zade a0)
theorem Zmj(a0){r}(h:Zajh a0=some r):Fn PR 246 [wA (Zb8 a0)] (wB r):=Zxy.fn h
inductive Z02 where
 | L0 (E0:Zc)
def Zxz(E0:Zc):LT Z02 Bool:=
.call (Zmj E0.Power) fun x1=>.cs x1 (.k3 0<|.call (Zmj E0.Tough) fun x4=>.kg 0<|.cs x4 (.k3 1<|.call (Zmj E0.Value) fun x7=>.kg 1<|.rt x7)<|.k4 1<|.rt false)<|.k4 0<|.b4 false<|.rt false
def Zatk(a0:Zc):LT Z02 Bool:=
.lb 1001<|.call (Zbo a0.Zone 5) fun x1=>.cs (!x1) (.k5 0<|.b8 true<|.b5 true<|.b2 true<|.kn [0]<|.rt false)<|.k3 0<|.call (Zbo a0.Who 2) fun x4=>.k2 0<|.cs (!x4) (.k5 1<|.b8 true<|.b2 true<|.kn [0]<|.rt false)<|.k3 1<|.call (Zbo a0.Self 2) fun x7=>.k2 1<|.cs (!x7) (.k5 2<|.b5 true<|.kn [0]<|.rt false)<|.k3 2<|.call (Zbo a0.Tap 2) fun x10=>.k2 2<|.cs (!x10) (.k5 3<|.kn [0]<|.rt false)<|.k3 3<|.call (Zbo a0.Keys 131071) fun x13=>.k2 3<|.br (!x13) (.rt false)<|.call (Zbo a0.Types 63) fun x16=>.cs (!x16) (.k5 5<|.b5 true<|.b2 true<|.kn [0]<|.rt false)<|.k3 5<|.call (Zbo a0.NotTypes 63) fun x19=>.k2 5<|.cs (!x19) (.k5 6<|.k2 6<|.kn [0]<|.rt false)<|.k5 6<|.k2 6<|.br ((Zax .and .i64 a0.Types a0.NotTypes) != 0) (.rt false)<|.call (Zbo a0.Colors 31) fun x23=>.cs (!x23) (.k5 8<|.b5 true<|.b2 true<|.kn [0]<|.rt false)<|.k3 8<|.call (Zbo a0.NotColors 31) fun x26=>.k2 8<|.cs (!x26) (.k5 9<|.k2 9<|.kn [0]<|.rt false)<|.k5 9<|.k2 9<|.br ((Zax .and .i64 a0.Colors a0.NotColors) != 0) (.rt false)<|.cs (!(a0.Sub==([]:By))) (.k3 11<|.call (Zuf a0.Sub) fun x31=>.k2 11<|.br (!x31) (.rt false)<|.jn 0 (.L0 a0) [.relab 1001 3000] (Zxz a0))<|.k5 11<|.kn [0]<|.jn 0 (.L0 a0) [.relab 1001 3000] (Zxz a0)
def Zabe:LF Z02 Bool := .m0 194 [.t 2] wB fun | .L0 E0=>([1,1,1,1,1],⟨89,[(1,.bptr 3000 0)],[(3000,.box (bx (Zn E0)))]⟩,Zxz E0)
def Zayq:=fun a0=>Zabe.run (Zatk a0)
theorem Z7p(a0){r}(h:Zayq a0=some r):Fn PR 194 [wA (Zn a0)] (wB r):=Zabe.fn h
def Zx0(a0:Int)(a1:Int)(a2:Int):LT Empty Bool:=
.cs (a1==0) (.k5 0<|.b5 true<|.rt ((Zax .and .i64 a0 a2)==0))<|.k5 0<|.cs ((Zax .and .i64 a0 a1) != 0) (.k5 1<|.rt ((Zax .and .i64 a0 a2)==0))<|.k5 1<|.rt false
def Zx1:LF Empty Bool := .z0 195 [.t 6] wB
def Zri:=fun a0 a1 a2=>Zx1.run (Zx0 a0 a1 a2)
theorem Zvn(a0)(a1)(a2){r}(h:Zri a0 a1 a2=some r):Fn PR 195 [wI a0,wI a1,wI a2] (wB r):=Zx1.fn h
def Zabf(a0:Za)(a1:Int):LT Empty Bool:=
.lb 1002<|.br (a0.Kind==0) (.rt true)<|.br (a0.Kind==1) (.rt (decide (a1>=a0.N)))<|.br (a0.Kind==2) (.rt (decide (a1<=a0.N)))<|.br (a0.Kind==3) (.rt (a1==a0.N))<|.rt false
def Zabg:LF Empty Bool := .z0 197 [.t 4] wB
def Z7q:=fun a0 a1=>Zabg.run (Zabf a0 a1)
theorem Z7r(a0)(a1){r}(h:Z7q a0 a1=some r):Fn PR 197 [wA (Zb8 a0),wI a1] (wB r):=Zabg.fn h
inductive Zbz where
 | L0 (v0:Bys) (v1:By) (v7:Int) (v8:Int)
def Zbv(v0:Bys)(v1:By)(v7:Int)(v8:Int):LT Zbz Int:=
.br (decide (v8 < v7)) (.idx cS v0 v8 fun x2=>.br (v1==x2) (.rt v8)<|.g0 (.L0 v0 v1 v7 (IntKind.wrap .i64 (v8+1))))<|.rt (-1)
def Zg7(a0:Bys)(a1:By):LT Zbz Int:=
.len cS a0<|.g0 (.L0 a0 a1 (a0.length:Int) 0)
def Zct:LF Zbz Int := .m0 263 [.t 4] wI fun | .L0 v0 v1 v7 v8=>([1,0,1,4],⟨19,[(0,wL cS v0),(1,wS v1),(7,wI v7),(8,wI v8)],[]⟩,Zbv v0 v1 v7 v8)
def Zh7:=fun a0 a1=>Zct.run (Zg7 a0 a1)
theorem Zn7(a0)(a1){r}(h:Zh7 a0 a1=some r):Fn PR 263 [wL cS a0,wS a1] (wI r):=Zct.fn h
def Zgc(a0:Bys)(a1:By):LT Empty Bool:=
.call (Zn7 a0 a1) fun x1=>.rt (decide (x1>=0))
def Zgd:LF Empty Bool := .z0 247 [.t 4] wB
def Zgy:=fun a0 a1=>Zgd.run (Zgc a0 a1)
theorem Zl2(a0)(a1){r}(h:Zgy a0 a1=some r):Fn PR 247 [wL cS a0,wS a1] (wB r):=Zgd.fn h
def Z46(a0:Z6)(a1:By):LT Empty Bool:=
.lb 1002<|.call (Zl2 a0.Subs a1) fun x1=>.rt x1
def Z47:LF Empty Bool := .z0 198 [.t 4] wB
def Z03:=fun a0 a1=>Z47.run (Z46 a0 a1)
theorem Z2t(a0)(a1){r}(h:Z03 a0 a1=some r):Fn PR 198 [wA (Zd8 a0),wS a1] (wB r):=Z47.fn h
def Zal8(a0:Int)(a1:Int):LT Empty Bool:=
.rt ((Zax .and .i64 a0 a1)==a1)
def Z48:LF Empty Bool := .z0 199 [.t 4] wB
def Zabh:=fun a0 a1=>Z48.run (Zal8 a0 a1)
theorem Z2u(a0)(a1){r}(h:Zabh a0 a1=some r):Fn PR 199 [wI a0,wI a1] (wB r):=Z48.fn h
def Zalg(a0:Int)(a1:Int):LT Empty Int:=
.call (Zc6 a0) fun x1=>.call (Zc6 a1) fun x3=>.call (Zc6 (IntKind.wrap .i64 (x1*x3))) fun x7=>.rt x7
def Zalh:LF Empty Int := .z0 248 [.t 4] wI
def Zaji:=fun a0 a1=>Zalh.run (Zalg a0 a1)
theorem Zav7(a0)(a1){r}(h:Zaji a0 a1=some r):Fn PR 248 [wI a0,wI a1] (wI r):=Zalh.fn h
inductive Zx2 where
 | L0 (v1:Int) (E0:Zr) (v5:Int) (v14:A5 Int) (v15:Int)
def Zjw(v1:Int)(E0:Zr)(v5:Int)(v14:A5 Int)(v15:Int):LT Zx2 Int:=
.br (decide (v15 < 5)) (.idX (Zd.int .i64) (A5.list v14) v15 fun x2=>.g0 (.L0 v1 E0 (IntKind.wrap .i64 (v5+x2)) v14 (IntKind.wrap .i64 (v15+1))))<|.call (Zav7 E0.X (maxI 0 v1)) fun x8=>.call (Zp1 v5 x8) fun x10=>.rt x10
def Z7s(a0:Zr)(a1:Int):LT Zx2 Int:=
.lb 1002<|.call (Zagw a0) fun x1=>.br (!x1) (.rt 0)<|.go (.L0 a1 a0 a0.Generic a0.Color 0) [.relab 1002 3000]
def Zp4:LF Zx2 Int := .m0 200 [.t 4] wI fun | .L0 v1 E0 v5 v14 v15=>([1,1,1,0,1,4],⟨29,[(1,wI v1),(2,.bptr 3000 0),(5,wI v5),(14,wA ((cA5 (cI .i64)) v14)),(15,wI v15)],[(3000,.box (bx (Zae E0)))]⟩,Zjw v1 E0 v5 v14 v15)
def Z31:=fun a0 a1=>Zp4.run (Z7s a0 a1)
theorem Zal9(a0)(a1){r}(h:Z31 a0 a1=some r):Fn PR 200 [wA (Zae a0),wI a1] (wI r):=Zp4.fn h
def Zol(a0:Za)(a1:Int)(b0:Bool):LT Empty Bool:=
.lb 1003<|.cs (a0.Kind==0) (.k4 0<|.rt true)<|.k2 0<|.cs b0 (.k3 1<|.call (Z7r a0 a1) fun x3=>.kg 0<|.kg 1<|.kg 0<|.rt x3)<|.k3 1<|.kg 0<|.kg 1<|.kg 0<|.rt false
def Zom(b0:Bool):LF Empty Bool := .z 196 [.t 5] true (fun r=>[(0,.box (bx (cB b0)))]) (fun r=>(wB r))
def Zkd(a0:Za)(a1:Int)(b0:Bool):Option Bool:=(Zom b0).run (Zol a0 a1 b0)
theorem Zmd(a0:Za)(a1:Int)(b0:Bool){r:Bool}(h:Zkd a0 a1 b0=some r):FnG PR 196 [(0,.box (bx (cB b0)))] [wA (Zb8 a0),wI a1,.bptr 0 0] [(0,.box (bx (cB b0)))] (wB r):=(Zom b0).fn h
inductive Ze9 where
 | L0 (v3:Int) (E0:Zf) (E1:Zb) (E2:Zc) (E3:Bool) (v30:Bool)
 | L1 (E0:Zf) (E1:Zb) (E2:Zc) (E3:Bool) (v49:Bool)
 | L2 (E0:Zf) (E1:Zb) (E2:Zc) (E3:Bool) (v68:Bool)
 | L3 (E0:Zf) (E1:Zb) (E2:Zc) (E3:Bool) (v88:Bool)
 | L4 (E0:Zb) (E1:Zc) (E2:Bool)
def Zen(E0:Zb)(E1:Zc)(E2:Bool):LT Ze9 Bool:=
.callO (Zmd E1.Power E0.Power E2) [3002] 1280000 (fun x=>[]) fun x1=>.cs x1 (.k5 0<|.kg 0<|.callO (Zmd E1.Tough E0.Tough E2) [3002] 1350000 (fun x=>[]) fun x4=>.kg 0<|.cs x4 (.k5 1<|.call (Zal9 E0.Cost 0) fun x7=>.kg 1<|.call (Z7r E1.Value x7) fun x9=>.kg 1<|.rt x9)<|.k5 1<|.k2 1<|.rt false)<|.k5 0<|.k2 0<|.b5 false<|.b2 false<|.rt false
def Zf0(E0:Zf)(E1:Zb)(E2:Zc)(E3:Bool)(v88:Bool):LT Ze9 Bool:=
.br v88 (.rt false)<|.cs (E2.Tap==1) (.k4 1<|.br (!E0.Tapped) (.kn [3]<|.rt false)<|.cs (E2.Tap==2) (.k3 3<|.br E0.Tapped (.rt false)<|.jn 0 (.L4 E1 E2 E3) (tm12 3000) (Zen E1 E2 E3))<|.k3 3<|.kn [0]<|.jn 0 (.L4 E1 E2 E3) (tm12 3000) (Zen E1 E2 E3))<|.k4 1<|.kn [0]<|.cs (E2.Tap==2) (.k3 2<|.br E0.Tapped (.rt false)<|.jn 0 (.L4 E1 E2 E3) (tm12 3000) (Zen E1 E2 E3))<|.k3 2<|.kn [0]<|.jn 0 (.L4 E1 E2 E3) (tm12 3000) (Zen E1 E2 E3)
def Zhs(E0:Zf)(E1:Zb)(E2:Zc)(E3:Bool)(v68:Bool):LT Ze9 Bool:=
.br v68 (.rt false)<|.cs (!(E2.Sub==([]:By))) (.k5 1<|.call (Z2t E1.Line E2.Sub) fun x3=>.k2 1<|.br (!x3) (.j0 (.L3 E0 E1 E2 E3 (!x3)) (Zf0 E0 E1 E2 E3 (!x3)))<|.call (Z2u E1.Keys E2.Keys) fun x6=>.j0 (.L3 E0 E1 E2 E3 (!x6)) (Zf0 E0 E1 E2 E3 (!x6)))<|.k5 1<|.k2 1<|.kn [0]<|.call (Z2u E1.Keys E2.Keys) fun x8=>.j0 (.L3 E0 E1 E2 E3 (!x8)) (Zf0 E0 E1 E2 E3 (!x8))
def Zdr(E0:Zf)(E1:Zb)(E2:Zc)(E3:Bool)(v49:Bool):LT Ze9 Bool:=
.br v49 (.rt false)<|.call (Zvn E1.Line.Types E2.Types E2.NotTypes) fun x2=>.br (!x2) (.j0 (.L2 E0 E1 E2 E3 (!x2)) (Zhs E0 E1 E2 E3 (!x2)))<|.call (Zvn E1.Colors E2.Colors E2.NotColors) fun x5=>.j0 (.L2 E0 E1 E2 E3 (!x5)) (Zhs E0 E1 E2 E3 (!x5))
def Zds(v3:Int)(E0:Zf)(E1:Zb)(E2:Zc)(E3:Bool)(v30:Bool):LT Ze9 Bool:=
.br v30 (.rt false)<|.cs (E2.Self==1) (.k5 1<|.br (E0.Id != v3) (.j0 (.L1 E0 E1 E2 E3 (E0.Id != v3)) (Zdr E0 E1 E2 E3 (E0.Id != v3)))<|.cs (E2.Self==2) (.k5 3<|.j0 (.L1 E0 E1 E2 E3 (E0.Id==v3)) (Zdr E0 E1 E2 E3 (E0.Id==v3)))<|.k5 3<|.j0 (.L1 E0 E1 E2 E3 false) (Zdr E0 E1 E2 E3 false))<|.k5 1<|.kn [0]<|.cs (E2.Self==2) (.k5 2<|.j0 (.L1 E0 E1 E2 E3 (E0.Id==v3)) (Zdr E0 E1 E2 E3 (E0.Id==v3)))<|.k5 2<|.j0 (.L1 E0 E1 E2 E3 false) (Zdr E0 E1 E2 E3 false)
def Zajj(a0:Zf)(a1:Zb)(a2:Int)(a3:Int)(a4:Zc):LT Ze9 Bool:=
.lb 1005<|.lb 1006<|.lb 1009<|.call (Z7p a4) fun x1=>.cs (!x1) (.k5 0<|.kg 0<|.kn [0]<|.rt false)<|.k5 0<|.kg 0<|.br (a0.Zone != a4.Zone) (.rt false)<|.lb 1011<|.cs (a4.Who==1) (.k5 2<|.br (a1.Control != a2) (.jn 0 (.L0 a3 a0 a1 a4 ((Zax .and .i64 a1.Line.Types 1) != 0) (a1.Control != a2)) (tm13 1000 3000) (Zds a3 a0 a1 a4 ((Zax .and .i64 a1.Line.Types 1) != 0) (a1.Control != a2)))<|.cs (a4.Who==2) (.k5 4<|.jn 0 (.L0 a3 a0 a1 a4 ((Zax .and .i64 a1.Line.Types 1) != 0) (a1.Control==a2)) (tm13 1000 3000) (Zds a3 a0 a1 a4 ((Zax .and .i64 a1.Line.Types 1) != 0) (a1.Control==a2)))<|.k5 4<|.jn 0 (.L0 a3 a0 a1 a4 ((Zax .and .i64 a1.Line.Types 1) != 0) false) (tm13 1000 3000) (Zds a3 a0 a1 a4 ((Zax .and .i64 a1.Line.Types 1) != 0) false))<|.k5 2<|.kn [0]<|.cs (a4.Who==2) (.k5 3<|.jn 0 (.L0 a3 a0 a1 a4 ((Zax .and .i64 a1.Line.Types 1) != 0) (a1.Control==a2)) (tm13 1000 3000) (Zds a3 a0 a1 a4 ((Zax .and .i64 a1.Line.Types 1) != 0) (a1.Control==a2)))<|.k5 3<|.jn 0 (.L0 a3 a0 a1 a4 ((Zax .and .i64 a1.Line.Types 1) != 0) false) (tm13 1000 3000) (Zds a3 a0 a1 a4 ((Zax .and .i64 a1.Line.Types 1) != 0) false)
def Zfa:LF Ze9 Bool := .m0 156 [.t 10] wB fun | .L0 v3 E0 E1 E2 E3 v30=>([1,1,1,1,1,0,4,1],⟨144,[(3,wI v3),(5,.bptr 3000 0),(6,.bptr 3001 0),(9,.bptr 3002 0),(12,.fn 195 []),(13,.fn 196 [.bptr 3003 0]),(30,wB v30)],[(3000,.box (bx (Zj E0))),(3001,.box (bx (Zg E1))),(3002,.box (bx (Zn E2))),(3003,.box (bx (cB E3)))]⟩,Zds v3 E0 E1 E2 E3 v30) | .L1 E0 E1 E2 E3 v49=>([1,1,1,1,1,0,4,1,3,1],⟨144,[(5,.bptr 3000 0),(6,.bptr 3001 0),(9,.bptr 3002 0),(12,.fn 195 []),(13,.fn 196 [.bptr 3003 0]),(49,wB v49)],[(3000,.box (bx (Zj E0))),(3001,.box (bx (Zg E1))),(3002,.box (bx (Zn E2))),(3003,.box (bx (cB E3)))]⟩,Zdr E0 E1 E2 E3 v49) | .L2 E0 E1 E2 E3 v68=>([1,1,1,1,1,0,4,1,3,1,3,1],⟨144,[(5,.bptr 3000 0),(6,.bptr 3001 0),(9,.bptr 3002 0),(13,.fn 196 [.bptr 3003 0]),(68,wB v68)],[(3000,.box (bx (Zj E0))),(3001,.box (bx (Zg E1))),(3002,.box (bx (Zn E2))),(3003,.box (bx (cB E3)))]⟩,Zhs E0 E1 E2 E3 v68) | .L3 E0 E1 E2 E3 v88=>([1,1,1,1,1,0,4,1,3,1,3,1,3,1],⟨144,[(5,.bptr 3000 0),(6,.bptr 3001 0),(9,.bptr 3002 0),(13,.fn 196 [.bptr 3003 0]),(88,wB v88)],[(3000,.box (bx (Zj E0))),(3001,.box (bx (Zg E1))),(3002,.box (bx (Zn E2))),(3003,.box (bx (cB E3)))]⟩,Zf0 E0 E1 E2 E3 v88) | .L4 E0 E1 E2=>([1,1,1,1,1,1],⟨144,[(6,.bptr 3000 0),(9,.bptr 3001 0),(13,.fn 196 [.bptr 3002 0])],[(3000,.box (bx (Zg E0))),(3001,.box (bx (Zn E1))),(3002,.box (bx (cB E2)))]⟩,Zen E0 E1 E2)
def Zaqy:=fun a0 a1 a2 a3 a4=>Zfa.run (Zajj a0 a1 a2 a3 a4)
theorem Zp5(a0)(a1)(a2)(a3)(a4){r}(h:Zaqy a0 a1 a2 a3 a4=some r):Fn PR 156 [wA (Zj a0),wA (Zg a1),wI a2,wI a3,wA (Zn a4)] (wB r):=Zfa.fn h
inductive Zp6 where
 | L0 (v1:List Zb) (v2:Int) (v3:Int) (E0:Zc) (v11:List Int) (v16:List Zf) (v17:Int) (v18:Int)
 | L1 (v1:List Zb) (v2:Int) (v3:Int) (E0:Zc) (v11:List Int) (E1:Zf) (E2:Zb) (v16:List Zf) (v17:Int) (v18:Int)
def Zug(v1:List Zb)(v2:Int)(v3:Int)(E0:Zc)(v11:List Int)(E1:Zf)(E2:Zb)(v16:List Zf)(v17:Int)(v18:Int):LT Zp6 (List Int):=
.call (Zp5 E1 E2 v2 v3 E0) fun x1=>.br x1 (.dr [.lit]<|.apR (cI .i64) 8 v11 [E1.Id] fun x4=>.g0 (.L0 v1 v2 v3 E0 x4 v16 v17 (IntKind.wrap .i64 (v18+1))))<|.g0 (.L0 v1 v2 v3 E0 v11 v16 v17 (IntKind.wrap .i64 (v18+1)))
def Zama(v1:List Zb)(v2:Int)(v3:Int)(E0:Zc)(v11:List Int)(v16:List Zf)(v17:Int)(v18:Int):LT Zp6 (List Int):=
.br (decide (v18 < v17)) (.idx Zj v16 v18 fun x2=>.lb 1013<|.lb 1014<|.len Zg v1<|.br (decide (v18 < (v1.length:Int))) (.idx Zg v1 v18 fun x6=>.jn 0 (.L1 v1 v2 v3 E0 v11 x2 x6 v16 v17 v18) [.relab 1013 3001,.relab 1014 3002] (Zug v1 v2 v3 E0 v11 x2 x6 v16 v17 v18))<|.jn 0 (.L1 v1 v2 v3 E0 v11 x2 (⟨([]:By),(⟨0,0,(⟨0,0,0,0,0⟩:A5 Int)⟩:Zr),0,(⟨0,0,([]:Bys)⟩:Z6),0,0,0,([]:List Ze),0⟩:Zb) v16 v17 v18) [.relab 1013 3001,.relab 1014 3002,.niltb 3002 11,.niltb 3002 15] (Zug v1 v2 v3 E0 v11 x2 (⟨([]:By),(⟨0,0,(⟨0,0,0,0,0⟩:A5 Int)⟩:Zr),0,(⟨0,0,([]:Bys)⟩:Z6),0,0,0,([]:List Ze),0⟩:Zb) v16 v17 v18))<|.ret v11 [.relab 20011 5000]
def Zaqz(a0:Zo)(a1:List Zb)(a2:Int)(a3:Int)(a4:Zc):LT Zp6 (List Int):=
.lb 1005<|.lb 1009<|.len Zj a0.Objects<|.go (.L0 a1 a2 a3 a4 ([]:List Int) a0.Objects (a0.Objects.length:Int) 0) [.relab 1009 3000,.own 11 20011 1]
def Z7t:LF Zp6 (List Int) := .m 157 [.t 10] true (fun r=>[(5000,wR (cI .i64) 1 r)]) (fun r=>(wO (cI .i64) 5000 r)) fun | .L0 v1 v2 v3 E0 v11 v16 v17 v18=>([1,1,0,1,4],⟨44,[(1,wL Zg v1),(2,wI v2),(3,wI v3),(9,.bptr 3000 0),(11,wO (cI .i64) 20011 v11),(16,wL Zj v16),(17,wI v17),(18,wI v18)],[(3000,.box (bx (Zn E0))),(20011,wR (cI .i64) 1 v11)]⟩,Zama v1 v2 v3 E0 v11 v16 v17 v18) | .L1 v1 v2 v3 E0 v11 E1 E2 v16 v17 v18=>([1,1,0,1,4,5,1,1,0,4,1,1,1],⟨44,[(1,wL Zg v1),(2,wI v2),(3,wI v3),(9,.bptr 3000 0),(11,wO (cI .i64) 20011 v11),(13,.bptr 3001 0),(14,.bptr 3002 0),(16,wL Zj v16),(17,wI v17),(18,wI v18)],[(3000,.box (bx (Zn E0))),(20011,wR (cI .i64) 1 v11),(3001,.box (bx (Zj E1))),(3002,.box (bx (Zg E2)))]⟩,Zug v1 v2 v3 E0 v11 E1 E2 v16 v17 v18)
def Zav8:=fun a0 a1 a2 a3 a4=>Z7t.run (Zaqz a0 a1 a2 a3 a4)
theorem Zajk(a0)(a1)(a2)(a3)(a4){r}(h:Zav8 a0 a1 a2 a3 a4=some r):FnG PR 157 [] [wA (Z1 a0),wL Zg a1,wI a2,wI a3,wA (Zn a4)] [(5000,wR (cI .i64) 1 r)] (wO (cI .i64) 5000 r):=Z7t.fn h
inductive Zgk where
 | L0 (v0:List Int) (v1:List Int) (v12:Int) (v13:Int)
def Zuh(v0:List Int)(v1:List Int)(v12:Int)(v13:Int):LT Zgk Bool:=
.br (decide (v13 < v12)) (.idx (cI .i64) v0 v13 fun x2=>.idx (cI .i64) v1 v13 fun x4=>.br (x2 != x4) (.rt false)<|.g0 (.L0 v0 v1 v12 (IntKind.wrap .i64 (v13+1))))<|.rt true
def Zvx(a0:List Int)(a1:List Int):LT Zgk Bool:=
.len (cI .i64) a0<|.len (cI .i64) a1<|.br ((a0.length:Int) != (a1.length:Int)) (.rt false)<|.len (cI .i64) a0<|.g0 (.L0 a0 a1 (a0.length:Int) 0)
def Zkj:LF Zgk Bool := .m0 101 [.t 4] wB fun | .L0 v0 v1 v12 v13=>([1,1,0,1,4],⟨26,[(0,wL (cI .i64) v0),(1,wL (cI .i64) v1),(12,wI v12),(13,wI v13)],[]⟩,Zuh v0 v1 v12 v13)
def Zyt:=fun a0 a1=>Zkj.run (Zvx a0 a1)
theorem Zjx(a0)(a1){r}(h:Zyt a0 a1=some r):Fn PR 101 [wL (cI .i64) a0,wL (cI .i64) a1] (wB r):=Zkj.fn h
def Zx3(a0:Zcf)(a1:Zcf):LT Empty Bool:=
.lb 1002<|.lb 1003<|.cs (!(a0.active==a1.active)) (.k5 0<|.k2 0<|.b5 true<|.b2 true<|.rt true)<|.k5 0<|.call (Zjx a0.hits a1.hits) fun x2=>.k2 0<|.cs (!x2) (.k5 1<|.k2 1<|.rt true)<|.k5 1<|.call (Zjx a0.numbers a1.numbers) fun x5=>.k2 1<|.rt (!x5)
def Zle:LF Empty Bool := .z0 100 [.t 4] wB
def Z04:=fun a0 a1=>Zle.run (Zx3 a0 a1)
theorem Zvy(a0)(a1){r}(h:Z04 a0 a1=some r):Fn PR 100 [wA (Zd5 a0),wA (Zd5 a1)] (wB r):=Zle.fn h
def Zi5(a0:List Bool)(hne:a0≠[]):LT Empty (List Bool):=
.ne cB hne<|.kn [0]<|.lb 1005<|.apR cB 1 ([]:List Bool) a0 fun x1=>.ret x1 [.relab 1005 5000]
def Zbf:LF Empty (List Bool) := .z 153 [.t 2] true (fun r=>[(5000,wR cB 1 r)]) (fun r=>(wO cB 5000 r))
def Zfb(c:Nat):LT Empty (List Bool):=
.kn [0]<|.ret ([]:List Bool) [.own 2 5000 1]
def Zrj(c:Nat)(ad:Addr):LT Empty (List Bool):=
.kn [0]<|.lb 1005<|.apR cB 1 ([]:List Bool) ([]:List Bool) fun x1=>.ret x1 [.relab 1005 5000]
open Classical in
def Zkk(a0:List Bool):Option (List Bool):=if h:a0≠[] then Zbf.run (Zi5 a0 h) else Zbf.run (Zfb 0)
theorem Zh8(a0:List Bool){r:List Bool}(h:Zkk a0=some r):FnG PR 153 [] [wL cB a0] [(5000,wR cB 1 r)] (wO cB 5000 r):=by
 by_cases hne:a0=[]
 .subst hne
  have h0:Zbf.run (Zfb 0)=some r:=h
  exact FnG.split0 (fun e=>absurd rfl e) (fun _ a c=>by
   cases a with
   | none=>exact Zbf.fn (t:=Zfb c) h0
   | some ad=>exact Zbf.fn (t:=Zrj c ad) h0)
 .have h0:Zbf.run (Zi5 a0 hne)=some r:=by unfold Zkk at h;rwa [dif_pos hne] at h
  exact FnG.split0 (fun _=>Zbf.fn h0) (fun e=>absurd (List.map_eq_nil_iff.1 e) hne)
def Zej(a0:List Ze)(hne:a0≠[]):LT Empty (List Ze):=
.ne Zi hne<|.kn [0]<|.lb 1005<|.apR Zi 640 ([]:List Ze) a0 fun x1=>.ret x1 [.relab 1005 5000]
def Zam:LF Empty (List Ze) := .z 201 [.t 2] true (fun r=>[(5000,wR Zi 72 r)]) (fun r=>(wO Zi 5000 r))
def Zch(c:Nat):LT Empty (List Ze):=
.kn [0]<|.ret ([]:List Ze) [.own 2 5000 72]
def Ziq(c:Nat)(ad:Addr):LT Empty (List Ze):=
.kn [0]<|.lb 1005<|.apR Zi 640 ([]:List Ze) ([]:List Ze) fun x1=>.ret x1 [.relab 1005 5000]
open Classical in
def Zew(a0:List Ze):Option (List Ze):=if h:a0≠[] then Zam.run (Zej a0 h) else Zam.run (Zch 0)
theorem Zid(a0:List Ze){r:List Ze}(h:Zew a0=some r):FnG PR 201 [] [wL Zi a0] [(5000,wR Zi 72 r)] (wO Zi 5000 r):=by
 by_cases hne:a0=[]
 .subst hne
  have h0:Zam.run (Zch 0)=some r:=h
  exact FnG.split0 (fun e=>absurd rfl e) (fun _ a c=>by
   cases a with
   | none=>exact Zam.fn (t:=Zch c) h0
   | some ad=>exact Zam.fn (t:=Ziq c ad) h0)
 .have h0:Zam.run (Zej a0 hne)=some r:=by unfold Zew at h;rwa [dif_pos hne] at h
  exact FnG.split0 (fun _=>Zam.fn h0) (fun e=>absurd (List.map_eq_nil_iff.1 e) hne)
inductive Zx4 where
 | L0 (E0:Zb) (E1:Zb) (v18:Int) (v19:Int)
def Zamb(E0:Zb)(E1:Zb)(v18:Int)(v19:Int):LT Zx4 Zb:=
.br (decide (v19 < v18)) (.no)<|.ret E0 [.relab 40011 5011,.relab 40015 5015]
def Zaq0(a0:Zb):LT Zx4 Zb:=
.lb 1001<|.lb 1002<|.callF (Zd6 a0.Line.Subs) 100000 fun x1=>.callF (Zid a0.Abilities) 150000 fun x3=>.lenO Zi x3<|.go (.L0 (⟨a0.Name,a0.Cost,a0.Colors,(⟨a0.Line.Super,a0.Line.Types,x1⟩:Z6),a0.Power,a0.Tough,a0.Keys,x3,a0.Control⟩:Zb) (⟨([]:By),(⟨0,0,(⟨0,0,0,0,0⟩:A5 Int)⟩:Zr),0,(⟨0,0,([]:Bys)⟩:Z6),0,0,0,([]:List Ze),0⟩:Zb) (x3.length:Int) 0) [.relab 1001 3000,.relab 1002 3001,.relab 105000 40011,.relab 155000 40015,.ownb 3001 11 40111 1,.ownb 3001 15 40115 72]
def Z7u:LF Zx4 Zb := .m 158 [.c 2 66 true 17] true (fun r=>[(5011,wR cS 1 r.Line.Subs),(5015,wR Zi 72 r.Abilities)]) (fun r=>(.agg (tm2 r 5000))) fun | .L0 E0 E1 v18 v19=>([1,1,1,0,1,4],⟨77,[(1,.bptr 3000 0),(2,.bptr 3001 0),(18,wI v18),(19,wI v19)],[(3000,.box (tm2 E0 40000)),(40011,wR cS 1 E0.Line.Subs),(40015,wR Zi 72 E0.Abilities),(3001,.box (tm2 E1 40100)),(40111,wR cS 1 E1.Line.Subs),(40115,wR Zi 72 E1.Abilities)]⟩,Zamb E0 E1 v18 v19)
def Zav9:=fun a0=>Z7u.run (Zaq0 a0)
theorem Zajl(a0){r}(h:Zav9 a0=some r):FnG PR 158 [] [wA (Zg a0)] [(5011,wR cS 1 r.Line.Subs),(5015,wR Zi 72 r.Abilities)] (.agg (tm2 r 5000)):=Z7u.fn h
def Za0x(a0:Int)(a1:Int)(a2:Int):LT Empty Bool:=
.cs (decide (a0>=a1)) (.k4 0<|.rt (decide (a0<=a2)))<|.k4 0<|.rt false
def Zaq1:LF Empty Bool := .z0 202 [.t 6] wB
def Za28:=fun a0 a1 a2=>Zaq1.run (Za0x a0 a1 a2)
theorem Zht(a0)(a1)(a2){r}(h:Za28 a0 a1 a2=some r):Fn PR 202 [wI a0,wI a1,wI a2] (wB r):=Zaq1.fn h
inductive Zvz where
 | L0 (E0:Zh) (E1:Zh) (E2:Zh) (v8:Int) (v9:Bool)
 | L1 (E0:Zh) (E1:Zh) (E2:Zh) (v8:Int) (v19:Bool)
def Z05(E0:Zh)(E1:Zh)(E2:Zh)(v8:Int)(v19:Bool):LT Zvz Zh:=
.br v19 (.rt (⟨E2.Kind,E2.N,E2.M,E0.Sub,E2.Filter⟩:Zh))<|.br (v8==11) (.rt (⟨E2.Kind,E2.N,E2.M,E2.Sub,E0.Filter⟩:Zh))<|.br (v8==12) (.kn [3]<|.rt (⟨E2.Kind,E0.N,E0.M,E2.Sub,E2.Filter⟩:Zh))<|.br (v8==13) (.rt (⟨E2.Kind,E0.N,E0.M,E2.Sub,E2.Filter⟩:Zh))<|.rt E2
def Zh4(E0:Zh)(E1:Zh)(E2:Zh)(v8:Int)(v9:Bool):LT Zvz Zh:=
.br v9 (.rt (⟨E2.Kind,E0.N,E2.M,E2.Sub,E2.Filter⟩:Zh))<|.br (v8==4) (.j0 (.L1 E0 E1 E2 v8 (v8==4)) (Z05 E0 E1 E2 v8 (v8==4)))<|.j0 (.L1 E0 E1 E2 v8 (v8==5)) (Z05 E0 E1 E2 v8 (v8==5))
def Zawa(a0:Zh):LT Zvz Zh:=
.lb 1001<|.lb 1002<|.lb 1003<|.br (a0.Kind==2) (.jn 0 (.L0 a0 (⟨0,0,0,([]:By),(⟨0,0,0,0,0,0,0,([]:By),0,0,(⟨0,0⟩:Za),(⟨0,0⟩:Za),(⟨0,0⟩:Za)⟩:Zc)⟩:Zh) (⟨a0.Kind,0,0,([]:By),(⟨0,0,0,0,0,0,0,([]:By),0,0,(⟨0,0⟩:Za),(⟨0,0⟩:Za),(⟨0,0⟩:Za)⟩:Zc)⟩:Zh) a0.Kind (a0.Kind==2)) (tm14 1000 3000) (Zh4 a0 (⟨0,0,0,([]:By),(⟨0,0,0,0,0,0,0,([]:By),0,0,(⟨0,0⟩:Za),(⟨0,0⟩:Za),(⟨0,0⟩:Za)⟩:Zc)⟩:Zh) (⟨a0.Kind,0,0,([]:By),(⟨0,0,0,0,0,0,0,([]:By),0,0,(⟨0,0⟩:Za),(⟨0,0⟩:Za),(⟨0,0⟩:Za)⟩:Zc)⟩:Zh) a0.Kind (a0.Kind==2)))<|.br (a0.Kind==3) (.jn 0 (.L0 a0 (⟨0,0,0,([]:By),(⟨0,0,0,0,0,0,0,([]:By),0,0,(⟨0,0⟩:Za),(⟨0,0⟩:Za),(⟨0,0⟩:Za)⟩:Zc)⟩:Zh) (⟨a0.Kind,0,0,([]:By),(⟨0,0,0,0,0,0,0,([]:By),0,0,(⟨0,0⟩:Za),(⟨0,0⟩:Za),(⟨0,0⟩:Za)⟩:Zc)⟩:Zh) a0.Kind (a0.Kind==3)) (tm14 1000 3000) (Zh4 a0 (⟨0,0,0,([]:By),(⟨0,0,0,0,0,0,0,([]:By),0,0,(⟨0,0⟩:Za),(⟨0,0⟩:Za),(⟨0,0⟩:Za)⟩:Zc)⟩:Zh) (⟨a0.Kind,0,0,([]:By),(⟨0,0,0,0,0,0,0,([]:By),0,0,(⟨0,0⟩:Za),(⟨0,0⟩:Za),(⟨0,0⟩:Za)⟩:Zc)⟩:Zh) a0.Kind (a0.Kind==3)))<|.br (a0.Kind==6) (.jn 0 (.L0 a0 (⟨0,0,0,([]:By),(⟨0,0,0,0,0,0,0,([]:By),0,0,(⟨0,0⟩:Za),(⟨0,0⟩:Za),(⟨0,0⟩:Za)⟩:Zc)⟩:Zh) (⟨a0.Kind,0,0,([]:By),(⟨0,0,0,0,0,0,0,([]:By),0,0,(⟨0,0⟩:Za),(⟨0,0⟩:Za),(⟨0,0⟩:Za)⟩:Zc)⟩:Zh) a0.Kind (a0.Kind==6)) (tm14 1000 3000) (Zh4 a0 (⟨0,0,0,([]:By),(⟨0,0,0,0,0,0,0,([]:By),0,0,(⟨0,0⟩:Za),(⟨0,0⟩:Za),(⟨0,0⟩:Za)⟩:Zc)⟩:Zh) (⟨a0.Kind,0,0,([]:By),(⟨0,0,0,0,0,0,0,([]:By),0,0,(⟨0,0⟩:Za),(⟨0,0⟩:Za),(⟨0,0⟩:Za)⟩:Zc)⟩:Zh) a0.Kind (a0.Kind==6)))<|.br (a0.Kind==7) (.jn 0 (.L0 a0 (⟨0,0,0,([]:By),(⟨0,0,0,0,0,0,0,([]:By),0,0,(⟨0,0⟩:Za),(⟨0,0⟩:Za),(⟨0,0⟩:Za)⟩:Zc)⟩:Zh) (⟨a0.Kind,0,0,([]:By),(⟨0,0,0,0,0,0,0,([]:By),0,0,(⟨0,0⟩:Za),(⟨0,0⟩:Za),(⟨0,0⟩:Za)⟩:Zc)⟩:Zh) a0.Kind (a0.Kind==7)) (tm14 1000 3000) (Zh4 a0 (⟨0,0,0,([]:By),(⟨0,0,0,0,0,0,0,([]:By),0,0,(⟨0,0⟩:Za),(⟨0,0⟩:Za),(⟨0,0⟩:Za)⟩:Zc)⟩:Zh) (⟨a0.Kind,0,0,([]:By),(⟨0,0,0,0,0,0,0,([]:By),0,0,(⟨0,0⟩:Za),(⟨0,0⟩:Za),(⟨0,0⟩:Za)⟩:Zc)⟩:Zh) a0.Kind (a0.Kind==7)))<|.br (a0.Kind==8) (.jn 0 (.L0 a0 (⟨0,0,0,([]:By),(⟨0,0,0,0,0,0,0,([]:By),0,0,(⟨0,0⟩:Za),(⟨0,0⟩:Za),(⟨0,0⟩:Za)⟩:Zc)⟩:Zh) (⟨a0.Kind,0,0,([]:By),(⟨0,0,0,0,0,0,0,([]:By),0,0,(⟨0,0⟩:Za),(⟨0,0⟩:Za),(⟨0,0⟩:Za)⟩:Zc)⟩:Zh) a0.Kind (a0.Kind==8)) (tm14 1000 3000) (Zh4 a0 (⟨0,0,0,([]:By),(⟨0,0,0,0,0,0,0,([]:By),0,0,(⟨0,0⟩:Za),(⟨0,0⟩:Za),(⟨0,0⟩:Za)⟩:Zc)⟩:Zh) (⟨a0.Kind,0,0,([]:By),(⟨0,0,0,0,0,0,0,([]:By),0,0,(⟨0,0⟩:Za),(⟨0,0⟩:Za),(⟨0,0⟩:Za)⟩:Zc)⟩:Zh) a0.Kind (a0.Kind==8)))<|.jn 0 (.L0 a0 (⟨0,0,0,([]:By),(⟨0,0,0,0,0,0,0,([]:By),0,0,(⟨0,0⟩:Za),(⟨0,0⟩:Za),(⟨0,0⟩:Za)⟩:Zc)⟩:Zh) (⟨a0.Kind,0,0,([]:By),(⟨0,0,0,0,0,0,0,([]:By),0,0,(⟨0,0⟩:Za),(⟨0,0⟩:Za),(⟨0,0⟩:Za)⟩:Zc)⟩:Zh) a0.Kind (a0.Kind==9)) (tm14 1000 3000) (Zh4 a0 (⟨0,0,0,([]:By),(⟨0,0,0,0,0,0,0,([]:By),0,0,(⟨0,0⟩:Za),(⟨0,0⟩:Za),(⟨0,0⟩:Za)⟩:Zc)⟩:Zh) (⟨a0.Kind,0,0,([]:By),(⟨0,0,0,0,0,0,0,([]:By),0,0,(⟨0,0⟩:Za),(⟨0,0⟩:Za),(⟨0,0⟩:Za)⟩:Zc)⟩:Zh) a0.Kind (a0.Kind==9))
def Zag4:LF Zvz Zh := .m0 203 [.c 2 79 true 20] (fun r=>(wA (Zl r))) fun | .L0 E0 E1 E2 v8 v9=>([1,1,0,1,4,1],⟨40,[(1,.bptr 3000 0),(2,.bptr 3001 0),(3,.bptr 3002 0),(8,wI v8),(9,wB v9)],[(3000,.box (bx (Zl E0))),(3001,.box (bx (Zl E1))),(3002,.box (bx (Zl E2)))]⟩,Zh4 E0 E1 E2 v8 v9) | .L1 E0 E1 E2 v8 v19=>([1,1,0,1,4,1,3,1],⟨40,[(1,.bptr 3000 0),(2,.bptr 3001 0),(3,.bptr 3002 0),(8,wI v8),(19,wB v19)],[(3000,.box (bx (Zl E0))),(3001,.box (bx (Zl E1))),(3002,.box (bx (Zl E2)))]⟩,Z05 E0 E1 E2 v8 v19)
def Za0y:=fun a0=>Zag4.run (Zawa a0)
theorem Zatl(a0){r}(h:Za0y a0=some r):Fn PR 203 [wA (Zl a0)] (wA (Zl r)):=Zag4.fn h
inductive Zx5 where
 | L0 (E0:Zh) (v14:Int) (v15:Bool)
 | L1 (E0:Zh) (v14:Int) (v27:Bool)
 | L2 (E0:Zh) (v14:Int) (v43:Bool)
def Z7v(E0:Zh)(v14:Int)(v43:Bool):LT Zx5 Bool:=
.br v43 (.call (Zht E0.N 1 131071) fun x2=>.rt x2)<|.br (v14==11) (.call (Z7p E0.Filter) fun x5=>.rt x5)<|.br (v14==12) (.call (Zht E0.N 0 99) fun x8=>.cs x8 (.k3 3<|.call (Zht E0.M 0 99) fun x11=>.kg 3<|.rt x11)<|.k4 3<|.rt false)<|.br (v14==13) (.call (Zht E0.N (-99) 99) fun x14=>.cs x14 (.k3 4<|.call (Zht E0.M (-99) 99) fun x17=>.kg 4<|.rt x17)<|.k4 4<|.rt false)<|.rt true
def Z7w(E0:Zh)(v14:Int)(v27:Bool):LT Zx5 Bool:=
.br v27 (.call (Zuf E0.Sub) fun x2=>.rt x2)<|.br (v14==6) (.call (Zht E0.N 0 31) fun x5=>.rt x5)<|.br (v14==7) (.call (Zht E0.N 1 31) fun x8=>.rt x8)<|.br (v14==8) (.j0 (.L2 E0 v14 (v14==8)) (Z7v E0 v14 (v14==8)))<|.j0 (.L2 E0 v14 (v14==9)) (Z7v E0 v14 (v14==9))
def Z7x(E0:Zh)(v14:Int)(v15:Bool):LT Zx5 Bool:=
.br v15 (.call (Zht E0.N 1 63) fun x2=>.cs x2 (.k5 1<|.rt ((Zax .and .i64 E0.N 6)==0))<|.k5 1<|.rt false)<|.br (v14==4) (.j0 (.L1 E0 v14 (v14==4)) (Z7w E0 v14 (v14==4)))<|.j0 (.L1 E0 v14 (v14==5)) (Z7w E0 v14 (v14==5))
def Za0z(a0:Zh):LT Zx5 Bool:=
.lb 1001<|.call (Zht a0.Kind 1 14) fun x1=>.cs (!x1) (.k5 0<|.kn [0]<|.rt false)<|.k3 0<|.call (Zatl a0) fun x4=>.k2 0<|.br (!(Zac (Zl a0) (Zl x4))) (.rt false)<|.br (a0.Kind==2) (.jn 0 (.L0 a0 a0.Kind (a0.Kind==2)) [.relab 1001 3000] (Z7x a0 a0.Kind (a0.Kind==2)))<|.jn 0 (.L0 a0 a0.Kind (a0.Kind==3)) [.relab 1001 3000] (Z7x a0 a0.Kind (a0.Kind==3))
def Zaq2:LF Zx5 Bool := .m0 159 [.t 2] wB fun | .L0 E0 v14 v15=>([1,1,0,1,4,1],⟨74,[(1,.bptr 3000 0),(14,wI v14),(15,wB v15)],[(3000,.box (bx (Zl E0)))]⟩,Z7x E0 v14 v15) | .L1 E0 v14 v27=>([1,1,0,1,4,1,3,1],⟨74,[(1,.bptr 3000 0),(14,wI v14),(27,wB v27)],[(3000,.box (bx (Zl E0)))]⟩,Z7w E0 v14 v27) | .L2 E0 v14 v43=>([1,1,0,1,4,1,3,1,3,1,3,1,3,1],⟨74,[(1,.bptr 3000 0),(14,wI v14),(43,wB v43)],[(3000,.box (bx (Zl E0)))]⟩,Z7v E0 v14 v43)
def Za29:=fun a0=>Zaq2.run (Za0z a0)
theorem Zayr(a0){r}(h:Za29 a0=some r):Fn PR 159 [wA (Zl a0)] (wB r):=Zaq2.fn h
def Z5q(a0:By)(a1:By):LT Empty Bool:=
.rt (!(Op.bytesLess a0 a1))
def Zq2:LF Empty Bool := .z0 206 [.t 3] wB
def Z9s:=fun a0 a1=>Zq2.run (Z5q a0 a1)
theorem Z32(a0)(a1){r}(h:Z9s a0 a1=some r):Fn PR 206 [wS a0,.vptr (cS a1)] (wB r):=Zq2.fn h
inductive Zbp where
 | L0 (v0:Bys) (w1_0:By) (v7:Int) (v8:Int)
def Zf9(v0:Bys)(w1_0:By)(v7:Int)(v8:Int):LT Zbp Int:=
.br (decide (v8 < v7)) (.idx cS v0 v8 fun x2=>.call (Z32 x2 w1_0) fun x4=>.br x4 (.rt v8)<|.g0 (.L0 v0 w1_0 v7 (IntKind.wrap .i64 (v8+1))))<|.rt (-1)
def Zge(a0:Bys)(a1:By):LT Zbp Int:=
.len cS a0<|.g0 (.L0 a0 a1 (a0.length:Int) 0)
def Zcy:LF Zbp Int := .m0 205 [.t 4] wI fun | .L0 v0 w1_0 v7 v8=>([1,0,1,4],⟨19,[(0,wL cS v0),(1,.fn 206 [.vptr (cS w1_0)]),(7,wI v7),(8,wI v8)],[]⟩,Zf9 v0 w1_0 v7 v8)
def Zgs:=fun a0 a1=>Zcy.run (Zge a0 a1)
theorem Zga(a0)(a1){r}(h:Zgs a0 a1=some r):Fn PR 205 [wL cS a0,.fn 206 [.vptr (cS a1)]] (wI r):=Zcy.fn h
def Zkp(b0:Bys)(a1:Int)(a2:Bys):LT Empty (Bys):=
.dr [.ahead 12,.frz 0,.stop]<|.rl cS b0<|.rl cS b0<|.slN cS b0 a1 fun x1=>.len cS a2<|.br ((a2.length:Int)==0) (.rt b0)<|.no
def Zfe:LF Empty (Bys) := .z 207 [.t 6] true (fun r=>[]) (fun r=>(wL cS r))
def Zl3:=fun b0 a1 a2=>Zfe.run (Zkp b0 a1 a2)
theorem Zex(b0)(a1)(a2){r}(h:Zl3 b0 a1 a2=some r):FnG PR 207 [(0,wR cS 1 b0)] [wO cS 0 b0,wI a1,wL cS a2] [] (wL cS r):=Zfe.fn h
def Zamc(a0:Z6)(a1:By):LT Empty Z6:=
.lb 1002<|.lb 1003<|.lb 1004<|.callF (Zd6 a0.Subs) 90000 fun x1=>.call (Zuf a1) fun x3=>.cs (!x3) (.k4 0<|.b5 true<|.kn [0]<|.rl cS x1<|.rt (⟨a0.Super,a0.Types,x1⟩:Z6))<|.k3 0<|.rl cS x1<|.call (Z2t (⟨a0.Super,a0.Types,x1⟩:Z6) a1) fun x6=>.kg 0<|.cs x6 (.k5 1<|.kn [0]<|.rl cS x1<|.rt (⟨a0.Super,a0.Types,x1⟩:Z6))<|.k3 1<|.lenO cS x1<|.k2 1<|.br (decide ((x1.length:Int)>=4)) (.rl cS x1<|.rt (⟨a0.Super,a0.Types,x1⟩:Z6))<|.rl cS x1<|.call (Zga x1 a1) fun x10=>.br (decide (x10 < 0)) (.lenO cS x1<|.dr [.lit]<|.callU (Zex x1 (x1.length:Int) [a1]) [95000] 400000 fun x13=>.rt (⟨a0.Super,a0.Types,x13⟩:Z6))<|.dr [.lit]<|.callU (Zex x1 x10 [a1]) [95000] 400000 fun x15=>.rt (⟨a0.Super,a0.Types,x15⟩:Z6)
def Z49:LF Empty Z6 := .z0 160 [.c 4 63 true 3] (fun r=>(wA (Zd8 r)))
def Zatm:=fun a0 a1=>Z49.run (Zamc a0 a1)
theorem Zajm(a0)(a1){r}(h:Zatm a0 a1=some r):Fn PR 160 [wA (Zd8 a0),wS a1] (wA (Zd8 r)):=Z49.fn h
def Zatn(a0:Zb)(a1:Zh)(a2:Int)(a3:Int):LT Empty Zb:=
.lb 1004<|.lb 1005<|.lb 1008<|.callF (Zajl a0) 110000 fun x1=>.call (Zayr a1) fun x3=>.br (!x3) (.rl cS x1.Line.Subs<|.rl cS x1.Line.Subs<|.rl cS x1.Line.Subs<|.rl cS x1.Line.Subs<|.ret x1 [.frz 115011,.relab 115015 5015])<|.br (a1.Kind==1) (.rl cS x1.Line.Subs<|.rl cS x1.Line.Subs<|.rl cS x1.Line.Subs<|.rl cS x1.Line.Subs<|.ret (⟨x1.Name,x1.Cost,x1.Colors,x1.Line,x1.Power,x1.Tough,x1.Keys,x1.Abilities,a2⟩:Zb) [.frz 115011,.relab 115015 5015])<|.br (a1.Kind==2) (.rl cS x1.Line.Subs<|.rl cS x1.Line.Subs<|.rl cS x1.Line.Subs<|.rl cS x1.Line.Subs<|.ret (⟨x1.Name,x1.Cost,x1.Colors,(⟨x1.Line.Super,a1.N,x1.Line.Subs⟩:Z6),x1.Power,x1.Tough,x1.Keys,x1.Abilities,x1.Control⟩:Zb) [.frz 115011,.relab 115015 5015])<|.br (a1.Kind==3) (.rl cS x1.Line.Subs<|.rl cS x1.Line.Subs<|.rl cS x1.Line.Subs<|.rl cS x1.Line.Subs<|.ret (⟨x1.Name,x1.Cost,x1.Colors,(⟨x1.Line.Super,Zax .or .i64 x1.Line.Types a1.N,x1.Line.Subs⟩:Z6),x1.Power,x1.Tough,x1.Keys,x1.Abilities,x1.Control⟩:Zb) [.frz 115011,.relab 115015 5015])<|.br (a1.Kind==4) (.lb 1041<|.rl cS [a1.Sub]<|.rl cS [a1.Sub]<|.rl cS [a1.Sub]<|.rl cS [a1.Sub]<|.ret (⟨x1.Name,x1.Cost,x1.Colors,(⟨x1.Line.Super,x1.Line.Types,[a1.Sub]⟩:Z6),x1.Power,x1.Tough,x1.Keys,x1.Abilities,x1.Control⟩:Zb) [.frz 1041,.relab 115015 5015])<|.br (a1.Kind==5) (.dr [.ahead 50,.frz 115011,.stop]<|.rl cS x1.Line.Subs<|.rl cS x1.Line.Subs<|.rl cS x1.Line.Subs<|.call (Zajm x1.Line a1.Sub) fun x11=>.ret (⟨x1.Name,x1.Cost,x1.Colors,x11,x1.Power,x1.Tough,x1.Keys,x1.Abilities,x1.Control⟩:Zb) [.relab 115015 5015])<|.br (a1.Kind==6) (.rl cS x1.Line.Subs<|.rl cS x1.Line.Subs<|.rl cS x1.Line.Subs<|.rl cS x1.Line.Subs<|.ret (⟨x1.Name,x1.Cost,a1.N,x1.Line,x1.Power,x1.Tough,x1.Keys,x1.Abilities,x1.Control⟩:Zb) [.frz 115011,.relab 115015 5015])<|.br (a1.Kind==7) (.rl cS x1.Line.Subs<|.rl cS x1.Line.Subs<|.rl cS x1.Line.Subs<|.rl cS x1.Line.Subs<|.ret (⟨x1.Name,x1.Cost,Zax .or .i64 x1.Colors a1.N,x1.Line,x1.Power,x1.Tough,x1.Keys,x1.Abilities,x1.Control⟩:Zb) [.frz 115011,.relab 115015 5015])<|.br (a1.Kind==8) (.rl cS x1.Line.Subs<|.rl cS x1.Line.Subs<|.rl cS x1.Line.Subs<|.rl cS x1.Line.Subs<|.ret (⟨x1.Name,x1.Cost,x1.Colors,x1.Line,x1.Power,x1.Tough,Zax .or .i64 x1.Keys a1.N,x1.Abilities,x1.Control⟩:Zb) [.frz 115011,.relab 115015 5015])<|.br (a1.Kind==9) (.rl cS x1.Line.Subs<|.rl cS x1.Line.Subs<|.rl cS x1.Line.Subs<|.rl cS x1.Line.Subs<|.ret (⟨x1.Name,x1.Cost,x1.Colors,x1.Line,x1.Power,x1.Tough,Zax .andNot .i64 x1.Keys a1.N,x1.Abilities,x1.Control⟩:Zb) [.frz 115011,.relab 115015 5015])<|.br (a1.Kind==10) (.rl cS x1.Line.Subs<|.rl cS x1.Line.Subs<|.rl cS x1.Line.Subs<|.rl cS x1.Line.Subs<|.ret (⟨x1.Name,x1.Cost,x1.Colors,x1.Line,x1.Power,x1.Tough,0,([]:List Ze),x1.Control⟩:Zb) [.frz 115011,.ownb 1008 15 5015 72])<|.br (a1.Kind==11) (.call (Zc6 a3) fun x19=>.call (Zc6 a3) fun x21=>.rl cS x1.Line.Subs<|.rl cS x1.Line.Subs<|.rl cS x1.Line.Subs<|.rl cS x1.Line.Subs<|.ret (⟨x1.Name,x1.Cost,x1.Colors,x1.Line,x19,x21,x1.Keys,x1.Abilities,x1.Control⟩:Zb) [.frz 115011,.relab 115015 5015])<|.br (a1.Kind==12) (.rl cS x1.Line.Subs<|.rl cS x1.Line.Subs<|.rl cS x1.Line.Subs<|.rl cS x1.Line.Subs<|.ret (⟨x1.Name,x1.Cost,x1.Colors,x1.Line,a1.N,a1.M,x1.Keys,x1.Abilities,x1.Control⟩:Zb) [.frz 115011,.relab 115015 5015])<|.br (a1.Kind==13) (.call (Zp1 x1.Power a1.N) fun x25=>.call (Zp1 x1.Tough a1.M) fun x27=>.rl cS x1.Line.Subs<|.rl cS x1.Line.Subs<|.rl cS x1.Line.Subs<|.rl cS x1.Line.Subs<|.ret (⟨x1.Name,x1.Cost,x1.Colors,x1.Line,x25,x27,x1.Keys,x1.Abilities,x1.Control⟩:Zb) [.frz 115011,.relab 115015 5015])<|.br (a1.Kind==14) (.rl cS x1.Line.Subs<|.rl cS x1.Line.Subs<|.rl cS x1.Line.Subs<|.rl cS x1.Line.Subs<|.ret (⟨x1.Name,x1.Cost,x1.Colors,x1.Line,x1.Tough,x1.Power,x1.Keys,x1.Abilities,x1.Control⟩:Zb) [.frz 115011,.relab 115015 5015])<|.rl cS x1.Line.Subs<|.rl cS x1.Line.Subs<|.rl cS x1.Line.Subs<|.rl cS x1.Line.Subs<|.ret x1 [.frz 115011,.relab 115015 5015]
def Zabi:LF Empty Zb := .z 106 [.c 8 66 true 17] true (fun r=>[(5015,wR Zi 72 r.Abilities)]) (fun r=>(.agg (tm11 r 5000)))
def Zali:=fun a0 a1 a2 a3=>Zabi.run (Zatn a0 a1 a2 a3)
theorem Zamd(a0)(a1)(a2)(a3){r}(h:Zali a0 a1 a2 a3=some r):FnG PR 106 [] [wA (Zg a0),wA (Zl a1),wI a2,wI a3] [(5015,wR Zi 72 r.Abilities)] (.agg (tm11 r 5000)):=Zabi.fn h
theorem Zaq3(a0:Zb)(a1:Zh)(a2:Int)(a3:Int){r:Zb}(h:Zali a0 a1 a2 a3=some r):Fn PR 106 [wA (Zg a0),wA (Zl a1),wI a2,wI a3] (wA (Zg r)):=
 FnG.frozen (C:=LT.RL Zi r.Abilities/\True) (Zamd a0 a1 a2 a3 h) ⟨rfl,trivial⟩ (by kernel_rfl)
inductive Zmk where
 | L0 (v3:List Int) (v6:List Int) (v7:Int) (v8:Int)
def Z7y(v3:List Int)(v6:List Int)(v7:Int)(v8:Int):LT Zmk (List Int):=
.br (decide (v8 < v7)) (.idx (cI .i64) v6 v8 fun x2=>.cs (decide (x2>=0)) (.k3 1<|.rl (cI .i64) v3<|.call (Zh6 v3 x2) fun x5=>.k2 1<|.br (!x5) (.dr [.lit]<|.apR (cI .i64) 8 v3 [x2] fun x8=>.g0 (.L0 x8 v6 v7 (IntKind.wrap .i64 (v8+1))))<|.g0 (.L0 v3 v6 v7 (IntKind.wrap .i64 (v8+1))))<|.k5 1<|.kn [0]<|.g0 (.L0 v3 v6 v7 (IntKind.wrap .i64 (v8+1))))<|.ret v3 [.relab 20003 5000]
def Z9t(a0:List Int):LT Zmk (List Int):=
.len (cI .i64) a0<|.go (.L0 ([]:List Int) a0 (a0.length:Int) 0) [.own 3 20003 1]
def Zvo:LF Zmk (List Int) := .m 145 [.t 2] true (fun r=>[(5000,wR (cI .i64) 1 r)]) (fun r=>(wO (cI .i64) 5000 r)) fun | .L0 v3 v6 v7 v8=>([1,1,0,1,4],⟨26,[(3,wO (cI .i64) 20003 v3),(6,wL (cI .i64) v6),(7,wI v7),(8,wI v8)],[(20003,wR (cI .i64) 1 v3)]⟩,Z7y v3 v6 v7 v8)
def Zzu:=fun a0=>Zvo.run (Z9t a0)
theorem Z5r(a0){r}(h:Zzu a0=some r):FnG PR 145 [] [wL (cI .i64) a0] [(5000,wR (cI .i64) 1 r)] (wO (cI .i64) 5000 r):=Zvo.fn h
theorem Z7z(a0:List Int){r:List Int}(h:Zzu a0=some r):Fn PR 145 [wL (cI .i64) a0] (wL (cI .i64) r):=
 FnG.frozen (C:=LT.RL (cI .i64) r/\True) (Z5r a0 h) ⟨rfl,trivial⟩ (by kernel_rfl)
def Zag5(a0:List (List Bool))(a1:Int)(a2:Int):LT Empty Bool:=
.cs (decide (a1>=0)) (.k3 0<|.cs (decide (a2>=0)) (.k3 1<|.len (cL cB) a0<|.k2 1<|.cs (decide (a1 < (a0.length:Int))) (.k4 2<|.idx (cL cB) a0 a1 fun x5=>.k2 2<|.len cB x5<|.k2 2<|.cs (decide (a2 < (x5.length:Int))) (.k3 3<|.ag (cL cB) x5 0<|.k3 3<|.idx cB x5 a2 fun x9=>.k2 3<|.rt x9)<|.k8 3<|.rt false)<|.k8 2<|.b8 false<|.rt false)<|.k5 1<|.b16 false<|.rt false)<|.k3 0<|.b16 false<|.b5 false<|.rt false
def Zzv:LF Empty Bool := .z0 149 [.t 6] wB
def Zame:=fun a0 a1 a2=>Zzv.run (Zag5 a0 a1 a2)
theorem Zx6(a0)(a1)(a2){r}(h:Zame a0 a1 a2=some r):Fn PR 149 [wL (cL cB) a0,wI a1,wI a2] (wB r):=Zzv.fn h
inductive Zfc where
 | L0 (v1:List (List Bool)) (E0:List Int) (v5:Int) (E1:List (List Bool)) (v17:Int) (v18:Int)
 | L1 (v1:List (List Bool)) (E0:List Int) (v5:Int) (E1:List (List Bool)) (v7:Int) (v17:Int) (v18:Int) (v26:Int) (v27:Int)
 | L2 (E0:List Int) (v5:Int) (E1:List (List Bool)) (v48:Int) (v49:Int)
 | L3 (E0:List Int) (v5:Int) (E1:List (List Bool)) (v9:Int) (v48:Int) (v49:Int) (v52:Int) (v53:Int)
 | L4 (E0:List Int) (v5:Int) (E1:List (List Bool)) (v9:Int) (v10:Int) (v48:Int) (v49:Int) (v52:Int) (v53:Int) (v56:Int) (v57:Int)
def Zag6(v1:List (List Bool))(E0:List Int)(v5:Int)(E1:List (List Bool))(v17:Int)(v18:Int):LT Zfc ((List Int)×(List (List Bool))):=
.br (decide (v18 < v17)) (.mk cB 1024 1 false v5 v5 fun x2=>.idM cB E1 v18 fun x4=>.stR cB E1 v18 x2 0 fun x6=>.dr [.ahead 26,.relen 40100,.stop]<|.us [2]<|.us [2]<|.g0 (.L1 v1 E0 v5 x6 v18 v17 v18 v5 0))<|.g0 (.L2 E0 v5 E1 v5 0)
def Zag7(v1:List (List Bool))(E0:List Int)(v5:Int)(E1:List (List Bool))(v7:Int)(v17:Int)(v18:Int)(v26:Int)(v27:Int):LT Zfc ((List Int)×(List (List Bool))):=
.br (decide (v27 < v26)) (.idM cB E1 v7 fun x2=>.ldM cB E1 0<|.idx (cI .i64) E0 v7 fun x4=>.idx (cI .i64) E0 v27 fun x6=>.call (Zx6 v1 x4 x6) fun x8=>.idN cB E1 x2 v27 0 fun x10=>.stM cB E1 v7 x2 v27 x8 0 8 fun x12=>.dr [.ahead 46,.relen 40100,.stop]<|.us [10]<|.us [10]<|.g0 (.L1 v1 E0 v5 x12 v7 v17 v18 v26 (IntKind.wrap .i64 (v27+1))))<|.g0 (.L0 v1 E0 v5 E1 v17 (IntKind.wrap .i64 (v18+1)))
def Zag8(E0:List Int)(v5:Int)(E1:List (List Bool))(v48:Int)(v49:Int):LT Zfc ((List Int)×(List (List Bool))):=
.br (decide (v49 < v48)) (.g0 (.L3 E0 v5 E1 v49 v48 v49 v5 0))<|.rl (cL cB) E1<|.ret (E0,E1) [.frz 3000,.frz 40100,.frz 3001]
def Zag9(E0:List Int)(v5:Int)(E1:List (List Bool))(v9:Int)(v48:Int)(v49:Int)(v52:Int)(v53:Int):LT Zfc ((List Int)×(List (List Bool))):=
.br (decide (v53 < v52)) (.g0 (.L4 E0 v5 E1 v9 v53 v48 v49 v52 v53 v5 0))<|.g0 (.L2 E0 v5 E1 v48 (IntKind.wrap .i64 (v49+1)))
def Zaha(E0:List Int)(v5:Int)(E1:List (List Bool))(v9:Int)(v10:Int)(v48:Int)(v49:Int)(v52:Int)(v53:Int)(v56:Int)(v57:Int):LT Zfc ((List Int)×(List (List Bool))):=
.br (decide (v57 < v56)) (.idM cB E1 v10 fun x2=>.ldM cB E1 0<|.idN cB E1 x2 v9 0 fun x4=>.ldN cB E1 x2 x4 1 3<|.cs x4 (.k3 1<|.idM cB E1 v9 fun x7=>.kg 1<|.ldM cB E1 4<|.k2 1<|.idN cB E1 x7 v57 4 fun x9=>.kg 1<|.ldN cB E1 x7 x9 5 7<|.kg 1<|.br x9 (.idM cB E1 v10 fun x12=>.ldM cB E1 8<|.idN cB E1 x12 v57 8 fun x14=>.stM cB E1 v10 x12 v57 true 8 10 fun x16=>.dr [.ahead 82,.relen 40100,.stop]<|.us [12]<|.us [12]<|.us [12]<|.us [12]<|.g0 (.L4 E0 v5 x16 v9 v10 v48 v49 v52 v53 v56 (IntKind.wrap .i64 (v57+1))))<|.g0 (.L4 E0 v5 E1 v9 v10 v48 v49 v52 v53 v56 (IntKind.wrap .i64 (v57+1))))<|.k8 1<|.kn [0]<|.g0 (.L4 E0 v5 E1 v9 v10 v48 v49 v52 v53 v56 (IntKind.wrap .i64 (v57+1))))<|.g0 (.L3 E0 v5 E1 v9 v48 v49 v52 (IntKind.wrap .i64 (v53+1)))
def Zajn(a0:List Int)(a1:List (List Bool)):LT Zfc ((List Int)×(List (List Bool))):=
.lb 1002<|.len (cI .i64) a0<|.mkE cB 1015 24 (a0.length:Int) (a0.length:Int) fun x2=>.dr [.ahead 6,.tomat 1015,.stop]<|.us [0]<|.lb 1006<|.lenO (cL cB) x2<|.go (.L0 a1 a0 (a0.length:Int) x2 (x2.length:Int) 0) [.relab 1002 3000,.relab 1006 3001,.relab 1015 40100]
def Z2v:LF Zfc ((List Int)×(List (List Bool))) := .m0 146 [.t 4] (fun r=>(.fn 192 [.vptr ((cL (cI .i64)) r.1),.vptr ((cL (cL cB)) r.2)])) fun | .L0 v1 E0 v5 E1 v17 v18=>([1,1,1,0,1,4],⟨86,[(1,wL (cL cB) v1),(2,.bptr 3000 0),(5,wI v5),(6,.bptr 3001 0),(17,wI v17),(18,wI v18)],[(3000,.box (bx ((cL (cI .i64)) E0))),(3001,.box [wM (cL cB) 40100 E1]),(40100,wT (cL cB) E1)]⟩,Zag6 v1 E0 v5 E1 v17 v18) | .L1 v1 E0 v5 E1 v7 v17 v18 v26 v27=>([1,1,1,0,1,4,5,1,1,0,4,1,1,1,4],⟨86,[(1,wL (cL cB) v1),(2,.bptr 3000 0),(5,wI v5),(6,.bptr 3001 0),(7,wI v7),(17,wI v17),(18,wI v18),(26,wI v26),(27,wI v27)],[(3000,.box (bx ((cL (cI .i64)) E0))),(3001,.box [wM (cL cB) 40100 E1]),(40100,wT (cL cB) E1)]⟩,Zag7 v1 E0 v5 E1 v7 v17 v18 v26 v27) | .L2 E0 v5 E1 v48 v49=>([1,1,1,1,0,1,4],⟨86,[(2,.bptr 3000 0),(5,wI v5),(6,.bptr 3001 0),(48,wI v48),(49,wI v49)],[(3000,.box (bx ((cL (cI .i64)) E0))),(3001,.box [wM (cL cB) 40100 E1]),(40100,wT (cL cB) E1)]⟩,Zag8 E0 v5 E1 v48 v49) | .L3 E0 v5 E1 v9 v48 v49 v52 v53=>([1,1,1,1,0,1,4,5,1,1,0,4,1,1,4],⟨86,[(2,.bptr 3000 0),(5,wI v5),(6,.bptr 3001 0),(9,wI v9),(48,wI v48),(49,wI v49),(52,wI v52),(53,wI v53)],[(3000,.box (bx ((cL (cI .i64)) E0))),(3001,.box [wM (cL cB) 40100 E1]),(40100,wT (cL cB) E1)]⟩,Zag9 E0 v5 E1 v9 v48 v49 v52 v53) | .L4 E0 v5 E1 v9 v10 v48 v49 v52 v53 v56 v57=>([1,1,1,1,0,1,4,5,1,1,0,4,1,1,4,5,1,1,0,4,1,1,4],⟨86,[(2,.bptr 3000 0),(5,wI v5),(6,.bptr 3001 0),(9,wI v9),(10,wI v10),(48,wI v48),(49,wI v49),(52,wI v52),(53,wI v53),(56,wI v56),(57,wI v57)],[(3000,.box (bx ((cL (cI .i64)) E0))),(3001,.box [wM (cL cB) 40100 E1]),(40100,wT (cL cB) E1)]⟩,Zaha E0 v5 E1 v9 v10 v48 v49 v52 v53 v56 v57)
def Zaq4:=fun a0 a1=>Z2v.run (Zajn a0 a1)
theorem Zahb(a0)(a1){r}(h:Zaq4 a0 a1=some r):Fn PR 146 [wL (cI .i64) a0,wL (cL cB) a1] (.fn 192 [.vptr ((cL (cI .i64)) r.1),.vptr ((cL (cL cB)) r.2)]):=Z2v.fn h
def Zx7(a0:Int)(a1:Int)(a2:List Int)(a3:List (List Bool)):LT Empty Bool:=
.call (Zf7 a2 a0) fun x1=>.call (Zf7 a2 a1) fun x3=>.cs (decide (x1>=0)) (.k3 0<|.cs (decide (x3>=0)) (.k3 1<|.idx (cL cB) a3 x1 fun x7=>.k3 1<|.idx cB x7 x3 fun x9=>.k2 1<|.rt x9)<|.k8 1<|.rt false)<|.k3 0<|.b8 false<|.rt false
def Zlf:LF Empty Bool := .z0 192 [.t 6] wB
def Z06:=fun a0 a1 a2 a3=>Zlf.run (Zx7 a0 a1 a2 a3)
theorem Zv0(a0)(a1)(a2)(a3){r}(h:Z06 a0 a1 a2 a3=some r):Fn PR 192 [wI a0,wI a1,.vptr ((cL (cI .i64)) a2),.vptr ((cL (cL cB)) a3)] (wB r):=Zlf.fn h
def Zos(a0:Int)(b0:Int)(b1:List (List Bool))(b2:(List Int)×(List (List Bool))):LT Empty Bool:=
.cs (a0 != b0) (.k4 0<|.call (Zx6 b1 b0 a0) fun x2=>.kg 0<|.cs x2 (.k4 1<|.call (Zv0 a0 b0 b2.1 b2.2) fun x5=>.k2 1<|.rt (!x5))<|.k5 1<|.kg 1<|.rt false)<|.k5 0<|.b5 false<|.kb false<|.rt false
def Zg8(b0:Int)(b1:List (List Bool))(b2:(List Int)×(List (List Bool))):LF Empty Bool := .z 148 [.t 5] true (fun r=>[(0,.box (bx ((cI .i64) b0))),(1,.box (bx ((cL (cL cB)) b1))),(2,.box [.fn 192 [.vptr ((cL (cI .i64)) b2.1),.vptr ((cL (cL cB)) b2.2)]])]) (fun r=>(wB r))
def Zqx(a0:Int)(b0:Int)(b1:List (List Bool))(b2:(List Int)×(List (List Bool))):Option Bool:=(Zg8 b0 b1 b2).run (Zos a0 b0 b1 b2)
theorem Znb(a0:Int)(b0:Int)(b1:List (List Bool))(b2:(List Int)×(List (List Bool))){r:Bool}(h:Zqx a0 b0 b1 b2=some r):FnG PR 148 [(0,.box (bx ((cI .i64) b0))),(1,.box (bx ((cL (cL cB)) b1))),(2,.box [.fn 192 [.vptr ((cL (cI .i64)) b2.1),.vptr ((cL (cL cB)) b2.2)]])] [wI a0,.bptr 0 0,.bptr 1 0,.bptr 2 0] [(0,.box (bx ((cI .i64) b0))),(1,.box (bx ((cL (cL cB)) b1))),(2,.box [.fn 192 [.vptr ((cL (cI .i64)) b2.1),.vptr ((cL (cL cB)) b2.2)]])] (wB r):=(Zg8 b0 b1 b2).fn h
inductive Zb5 where
 | L0 (v0:List Int) (c0:Int) (c1:List (List Bool)) (c2:(List Int)×(List (List Bool))) (v7:Int) (v8:Int)
def Zhb(v0:List Int)(c0:Int)(c1:List (List Bool))(c2:(List Int)×(List (List Bool)))(v7:Int)(v8:Int):LT Zb5 (Int×Int×(List (List Bool))×((List Int)×(List (List Bool)))):=
.br (decide (v8 < v7)) (.idx (cI .i64) v0 v8 fun x2=>.callO (Znb x2 c0 c1 c2) [0,1,2] 170000 (fun x=>[]) fun x4=>.br x4 (.rt (v8,c0,c1,c2))<|.g0 (.L0 v0 c0 c1 c2 v7 (IntKind.wrap .i64 (v8+1))))<|.rt ((-1),c0,c1,c2)
def Zhu(a0:List Int)(b0:Int)(b1:List (List Bool))(b2:(List Int)×(List (List Bool))):LT Zb5 (Int×Int×(List (List Bool))×((List Int)×(List (List Bool)))):=
.len (cI .i64) a0<|.g0 (.L0 a0 b0 b1 b2 (a0.length:Int) 0)
def Zdt:LF Zb5 (Int×Int×(List (List Bool))×((List Int)×(List (List Bool)))) := .m 107 [.t 4] true (fun r=>[(0,.box (bx ((cI .i64) r.2.1))),(1,.box (bx ((cL (cL cB)) r.2.2.1))),(2,.box [.fn 192 [.vptr ((cL (cI .i64)) r.2.2.2.1),.vptr ((cL (cL cB)) r.2.2.2.2)]])]) (fun r=>(wI r.1)) fun | .L0 v0 c0 c1 c2 v7 v8=>([1,0,1,4],⟨19,[(0,wL (cI .i64) v0),(1,.fn 148 [.bptr 0 0,.bptr 1 0,.bptr 2 0]),(7,wI v7),(8,wI v8)],[(0,.box (bx ((cI .i64) c0))),(1,.box (bx ((cL (cL cB)) c1))),(2,.box [.fn 192 [.vptr ((cL (cI .i64)) c2.1),.vptr ((cL (cL cB)) c2.2)]])]⟩,Zhb v0 c0 c1 c2 v7 v8)
def Zie:=fun a0 b0 b1 b2=>Zdt.run (Zhu a0 b0 b1 b2)
theorem Zg6(a0)(b0)(b1)(b2){r}(h:Zie a0 b0 b1 b2=some r):FnG PR 107 [(0,.box (bx ((cI .i64) b0))),(1,.box (bx ((cL (cL cB)) b1))),(2,.box [.fn 192 [.vptr ((cL (cI .i64)) b2.1),.vptr ((cL (cL cB)) b2.2)]])] [wL (cI .i64) a0,.fn 148 [.bptr 0 0,.bptr 1 0,.bptr 2 0]] [(0,.box (bx ((cI .i64) r.2.1))),(1,.box (bx ((cL (cL cB)) r.2.2.1))),(2,.box [.fn 192 [.vptr ((cL (cI .i64)) r.2.2.2.1),.vptr ((cL (cL cB)) r.2.2.2.2)]])] (wI r.1):=Zdt.fn h
def Zgz(a0:List Int)(b0:Int)(b1:List (List Bool))(b2:(List Int)×(List (List Bool))):LT Empty (Bool×Int×(List (List Bool))×((List Int)×(List (List Bool)))):=
.callU (Zg6 a0 b0 b1 b2) [0,1,2] 80000 fun x1=>.rt (decide (x1.1>=0),x1.2.1,x1.2.2.1,x1.2.2.2)
def Zc7:LF Empty (Bool×Int×(List (List Bool))×((List Int)×(List (List Bool)))) := .z 147 [.t 4] true (fun r=>[(0,.box (bx ((cI .i64) r.2.1))),(1,.box (bx ((cL (cL cB)) r.2.2.1))),(2,.box [.fn 192 [.vptr ((cL (cI .i64)) r.2.2.2.1),.vptr ((cL (cL cB)) r.2.2.2.2)]])]) (fun r=>(wB r.1))
def Zhc:=fun a0 b0 b1 b2=>Zc7.run (Zgz a0 b0 b1 b2)
theorem Zgl(a0)(b0)(b1)(b2){r}(h:Zhc a0 b0 b1 b2=some r):FnG PR 147 [(0,.box (bx ((cI .i64) b0))),(1,.box (bx ((cL (cL cB)) b1))),(2,.box [.fn 192 [.vptr ((cL (cI .i64)) b2.1),.vptr ((cL (cL cB)) b2.2)]])] [wL (cI .i64) a0,.fn 148 [.bptr 0 0,.bptr 1 0,.bptr 2 0]] [(0,.box (bx ((cI .i64) r.2.1))),(1,.box (bx ((cL (cL cB)) r.2.2.1))),(2,.box [.fn 192 [.vptr ((cL (cI .i64)) r.2.2.2.1),.vptr ((cL (cL cB)) r.2.2.2.2)]])] (wB r.1):=Zc7.fn h
inductive Zrk where
 | L0 (E0:List (List Bool)) (v5:List Int) (E1:(List Int)×(List (List Bool))) (v7:List Int) (v16:List Int) (v17:Int) (v18:Int)
def Zahc(E0:List (List Bool))(v5:List Int)(E1:(List Int)×(List (List Bool)))(v7:List Int)(v16:List Int)(v17:Int)(v18:Int):LT Zrk (List Int):=
.br (decide (v18 < v17)) (.idx (cI .i64) v16 v18 fun x2=>.lb 1009<|.callU (Zgl v5 x2 E0 E1) [1009,3000,3001] 250000 fun x4=>.br (!x4.1) (.dr [.lit]<|.apR (cI .i64) 8 v7 [x4.2.1] fun x7=>.g0 (.L0 x4.2.2.1 v5 x4.2.2.2 x7 v16 v17 (IntKind.wrap .i64 (v18+1))))<|.g0 (.L0 x4.2.2.1 v5 x4.2.2.2 v7 v16 v17 (IntKind.wrap .i64 (v18+1))))<|.ret v7 [.relab 20007 5000]
def Zajo(a0:List Int)(a1:List (List Bool)):LT Zrk (List Int):=
.lb 1003<|.call (Z7z a0) fun x1=>.call (Zahb x1 a1) fun x3=>.lb 1006<|.len (cI .i64) x1<|.go (.L0 a1 x1 x3 ([]:List Int) x1 (x1.length:Int) 0) [.relab 1003 3000,.relab 1006 3001,.own 7 20007 1]
def Z2w:LF Zrk (List Int) := .m 96 [.t 4] true (fun r=>[(5000,wR (cI .i64) 1 r)]) (fun r=>(wO (cI .i64) 5000 r)) fun | .L0 E0 v5 E1 v7 v16 v17 v18=>([1,1,1,1,0,1,4],⟨33,[(3,.bptr 3000 0),(5,wL (cI .i64) v5),(6,.bptr 3001 0),(7,wO (cI .i64) 20007 v7),(16,wL (cI .i64) v16),(17,wI v17),(18,wI v18)],[(3000,.box (bx ((cL (cL cB)) E0))),(3001,.box [.fn 192 [.vptr ((cL (cI .i64)) E1.1),.vptr ((cL (cL cB)) E1.2)]]),(20007,wR (cI .i64) 1 v7)]⟩,Zahc E0 v5 E1 v7 v16 v17 v18)
def Z70:=fun a0 a1=>Z2w.run (Zajo a0 a1)
theorem Zadf(a0)(a1){r}(h:Z70 a0 a1=some r):FnG PR 96 [] [wL (cI .i64) a0,wL (cL cB) a1] [(5000,wR (cI .i64) 1 r)] (wO (cI .i64) 5000 r):=Z2w.fn h
theorem Zahd(a0:List Int)(a1:List (List Bool)){r:List Int}(h:Z70 a0 a1=some r):Fn PR 96 [wL (cI .i64) a0,wL (cL cB) a1] (wL (cI .i64) r):=
 FnG.frozen (C:=LT.RL (cI .i64) r/\True) (Zadf a0 a1 h) ⟨rfl,trivial⟩ (by kernel_rfl)
def Zajp(a0:List Int)(a1:Int):LT Empty Int:=
.len (cI .i64) a0<|.br (decide (a1 < (a0.length:Int))) (.idx (cI .i64) a0 a1 fun x3=>.rt x3)<|.rt 0
def Z2x:LF Empty Int := .z0 97 [.t 4] wI
def Zaq5:=fun a0 a1=>Z2x.run (Zajp a0 a1)
theorem Zzw(a0)(a1){r}(h:Zaq5 a0 a1=some r):Fn PR 97 [wL (cI .i64) a0,wI a1] (wI r):=Z2x.fn h
inductive Zui where
 | L0 (v1:List Int) (v7:Int) (v14:List Int) (v15:Int) (v16:Int)
def Zajq(v1:List Int)(v7:Int)(v14:List Int)(v15:Int)(v16:Int):LT Zui Int:=
.br (decide (v16 < v15)) (.idx (cI .i64) v14 v16 fun x2=>.br (decide (v7 < 0)) (.g0 (.L0 v1 x2 v14 v15 (IntKind.wrap .i64 (v16+1))))<|.call (Zzw v1 x2) fun x7=>.call (Zzw v1 v7) fun x9=>.cs (decide (x7 < x9)) (.k5 2<|.kg 2<|.kn [0]<|.g0 (.L0 v1 x2 v14 v15 (IntKind.wrap .i64 (v16+1))))<|.k4 2<|.cs (x7==x9) (.k3 3<|.kg 2<|.kg 3<|.kg 2<|.br (decide (x2 < v7)) (.g0 (.L0 v1 x2 v14 v15 (IntKind.wrap .i64 (v16+1))))<|.g0 (.L0 v1 v7 v14 v15 (IntKind.wrap .i64 (v16+1))))<|.k3 3<|.kg 2<|.kg 3<|.kg 2<|.kn [0]<|.g0 (.L0 v1 v7 v14 v15 (IntKind.wrap .i64 (v16+1))))<|.rt v7
def Zamf(a0:List Int)(a1:List Int)(a2:List (List Bool)):LT Zui Int:=
.call (Zahd a0 a2) fun x1=>.len (cI .i64) x1<|.g0 (.L0 a1 (-1) x1 (x1.length:Int) 0)
def Z5a:LF Zui Int := .m0 54 [.t 6] wI fun | .L0 v1 v7 v14 v15 v16=>([1,1,0,1,4],⟨45,[(1,wL (cI .i64) v1),(7,wI v7),(14,wL (cI .i64) v14),(15,wI v15),(16,wI v16)],[]⟩,Zajq v1 v7 v14 v15 v16)
def Zato:=fun a0 a1 a2=>Z5a.run (Zamf a0 a1 a2)
theorem Zajr(a0)(a1)(a2){r}(h:Zato a0 a1 a2=some r):Fn PR 54 [wL (cI .i64) a0,wL (cI .i64) a1,wL (cL cB) a2] (wI r):=Z5a.fn h
inductive Zfu where
 | L0 (c0:Zm) (v10:List Zf) (v11:Int) (v12:Int)
def Zrl(c0:Zm)(v10:List Zf)(v11:Int)(v12:Int):LT Zfu Zm:=
.br (decide (v12 < v11)) (.idx Zj v10 v12 fun x2=>.lb 1003<|.idxR Zg c0.traits v12 fun x4=>.cs (x2.Zone==0) (.k2 1<|.rl Zg c0.traits<|.kg 1<|.rl Zg c0.traits<|.kg 1<|.rl Zg c0.traits<|.kg 1<|.ldR Zg c0.traits x4 5<|.k3 1<|.br ((Zax .and .i64 x4.Line.Types 1) != 0) (.call (Zac7 x2.Counters) fun x8=>.rl Zg c0.traits<|.rl Zg c0.traits<|.ldR Zg c0.traits x4 5<|.call (Zp1 x4.Power x8) fun x10=>.rl Zg c0.traits<|.rl Zg c0.traits<|.ldR Zg c0.traits x4 5<|.call (Zp1 x4.Tough x8) fun x12=>.rl Zg c0.traits<|.rl Zg c0.traits<|.setD Zg c0.traits v12 x4 (⟨x4.Name,x4.Cost,x4.Colors,x4.Line,x10,x4.Tough,x4.Keys,x4.Abilities,x4.Control⟩:Zb) 5 12 [.int .i64 x10] rfl fun x14=>.us [8]<|.us [8]<|.setE Zg c0.traits x14 v12 (⟨x4.Name,x4.Cost,x4.Colors,x4.Line,x10,x4.Tough,x4.Keys,x4.Abilities,x4.Control⟩:Zb) (⟨((⟨x4.Name,x4.Cost,x4.Colors,x4.Line,x10,x4.Tough,x4.Keys,x4.Abilities,x4.Control⟩:Zb)).Name,(⟨(((⟨x4.Name,x4.Cost,x4.Colors,x4.Line,x10,x4.Tough,x4.Keys,x4.Abilities,x4.Control⟩:Zb)).Cost).Generic,(((⟨x4.Name,x4.Cost,x4.Colors,x4.Line,x10,x4.Tough,x4.Keys,x4.Abilities,x4.Control⟩:Zb)).Cost).X,(((⟨x4.Name,x4.Cost,x4.Colors,x4.Line,x10,x4.Tough,x4.Keys,x4.Abilities,x4.Control⟩:Zb)).Cost).Color⟩:Zr),((⟨x4.Name,x4.Cost,x4.Colors,x4.Line,x10,x4.Tough,x4.Keys,x4.Abilities,x4.Control⟩:Zb)).Colors,((⟨x4.Name,x4.Cost,x4.Colors,x4.Line,x10,x4.Tough,x4.Keys,x4.Abilities,x4.Control⟩:Zb)).Line,((⟨x4.Name,x4.Cost,x4.Colors,x4.Line,x10,x4.Tough,x4.Keys,x4.Abilities,x4.Control⟩:Zb)).Power,x12,((⟨x4.Name,x4.Cost,x4.Colors,x4.Line,x10,x4.Tough,x4.Keys,x4.Abilities,x4.Control⟩:Zb)).Keys,((⟨x4.Name,x4.Cost,x4.Colors,x4.Line,x10,x4.Tough,x4.Keys,x4.Abilities,x4.Control⟩:Zb)).Abilities,((⟨x4.Name,x4.Cost,x4.Colors,x4.Line,x10,x4.Tough,x4.Keys,x4.Abilities,x4.Control⟩:Zb)).Control⟩:Zb) 7 12 13 [.int .i64 x12] rfl fun x16=>.dr [.ahead 56,.relen 1,.stop]<|.us [9]<|.us [9]<|.us [9]<|.us [9]<|.us [9]<|.us [9]<|.us [9]<|.us [9]<|.us [9]<|.us [9]<|.us [9]<|.us [9]<|.us [9]<|.us [9]<|.us [9]<|.us [9]<|.us [9]<|.us [9]<|.us [9]<|.us [9]<|.g0 (.L0 (⟨c0.s,c0.forces,x16,c0.dropped,c0.done,c0.hits⟩:Zm) v10 v11 (IntKind.wrap .i64 (v12+1))))<|.g0 (.L0 c0 v10 v11 (IntKind.wrap .i64 (v12+1))))<|.k8 1<|.kn [0]<|.g0 (.L0 c0 v10 v11 (IntKind.wrap .i64 (v12+1))))<|.rt c0
def Zts(b0:Zm):LT Zfu Zm:=
.len Zj b0.s.Objects<|.g0 (.L0 b0 b0.s.Objects (b0.s.Objects.length:Int) 0)
def Zi6:LF Zfu Zm := .m 52 [] true (fun r=>[(0,.box (tm0 r)),(1,wR Zg 17 r.traits),(2,wR cB 1 r.dropped),(3,wR cB 1 r.done),(4,wR (cL (cI .i64)) 1 r.hits)]) (fun r => .tup []) fun | .L0 c0 v10 v11 v12=>([1,4],⟨57,[(0,.bptr 0 0),(10,wL Zj v10),(11,wI v11),(12,wI v12)],[(0,.box (tm0 c0)),(1,wR Zg 17 c0.traits),(2,wR cB 1 c0.dropped),(3,wR cB 1 c0.done),(4,wR (cL (cI .i64)) 1 c0.hits)]⟩,Zrl c0 v10 v11 v12)
def Zv1:=fun b0=>Zi6.run (Zts b0)
theorem Zqy(b0){r}(h:Zv1 b0=some r):FnG PR 52 [(0,.box (tm0 b0)),(1,wR Zg 17 b0.traits),(2,wR cB 1 b0.dropped),(3,wR cB 1 b0.done),(4,wR (cL (cI .i64)) 1 b0.hits)] [.bptr 0 0] [(0,.box (tm0 r)),(1,wR Zg 17 r.traits),(2,wR cB 1 r.dropped),(3,wR cB 1 r.done),(4,wR (cL (cI .i64)) 1 r.hits)] (.tup []):=Zi6.fn h
inductive Zey where
 | L0 (v1:Int) (v2:Int) (E1:Zad) (v18:List Zh) (v19:Int) (v20:Int)
def Zp7(b0:Zm)(v1:Int)(v2:Int)(E1:Zad)(v18:List Zh)(v19:Int)(v20:Int):LT Zey Bool:=
.br (decide (v20 < v19)) (.idx Zl v18 v20 fun x2=>.lb 1009<|.cs (x2.Kind==11) (.k3 1<|.call (Zp3 x2.Kind) fun x5=>.k3 1<|.cs (x5==v2) (.k4 2<|.call (Zto x2.Filter v2) fun x8=>.kg 2<|.br x8 (.rt true)<|.g0 (.L0 v1 v2 E1 v18 v19 (IntKind.wrap .i64 (v20+1))))<|.k5 2<|.kn [0]<|.g0 (.L0 v1 v2 E1 v18 v19 (IntKind.wrap .i64 (v20+1))))<|.k5 1<|.kg 1<|.b5 false<|.kn [0]<|.g0 (.L0 v1 v2 E1 v18 v19 (IntKind.wrap .i64 (v20+1))))<|.cs (!E1.Fixed) (.k5 1<|.kg 1<|.idxR cB b0.done v1 fun x18=>.kg 1<|.ldR cB b0.done x18 2<|.k2 1<|.cs (!x18) (.k3 2<|.cs (v2==4) (.k4 3<|.kg 2<|.kg 3<|.kg 2<|.rt true)<|.k4 3<|.call (Zto E1.Filter v2) fun x22=>.kg 2<|.kg 3<|.kg 2<|.rt x22)<|.k5 2<|.rt false)<|.k8 1<|.kg 1<|.b5 false<|.rt false
def Zqz(b0:Zm)(a1:Int)(a2:Int):LT Zey Bool:=
.idx Zx b0.forces a1 fun x1=>.lb 1007<|.len Zl x1.Mods<|.go (.L0 a1 a2 x1 x1.Mods (x1.Mods.length:Int) 0) [.relab 1007 3001]
def Zh9(b0:Zm):LF Zey Bool := .m 98 [.t 6] true (fun r=>[(0,.box (tm0 b0)),(1,wR Zg 17 b0.traits),(2,wR cB 1 b0.dropped),(3,wR cB 1 b0.done),(4,wR (cL (cI .i64)) 1 b0.hits)]) wB fun | .L0 v1 v2 E1 v18 v19 v20=>([1,1,0,1,4],⟨64,[(0,.bptr 0 0),(1,wI v1),(2,wI v2),(7,.bptr 3001 0),(18,wL Zl v18),(19,wI v19),(20,wI v20)],[(0,.box (tm0 b0)),(1,wR Zg 17 b0.traits),(2,wR cB 1 b0.dropped),(3,wR cB 1 b0.done),(4,wR (cL (cI .i64)) 1 b0.hits),(3001,.box (bx (Zx E1)))]⟩,Zp7 b0 v1 v2 E1 v18 v19 v20)
def Ztt(b0:Zm)(a1:Int)(a2:Int):Option Bool:=(Zh9 b0).run (Zqz b0 a1 a2)
theorem Zot(b0:Zm)(a1:Int)(a2:Int){r:Bool}(h:Ztt b0 a1 a2=some r):FnG PR 98 [(0,.box (tm0 b0)),(1,wR Zg 17 b0.traits),(2,wR cB 1 b0.dropped),(3,wR cB 1 b0.done),(4,wR (cL (cI .i64)) 1 b0.hits)] [.bptr 0 0,wI a1,wI a2] [(0,.box (tm0 b0)),(1,wR Zg 17 b0.traits),(2,wR cB 1 b0.dropped),(3,wR cB 1 b0.done),(4,wR (cL (cI .i64)) 1 b0.hits)] (wB r):=(Zh9 b0).fn h
def Zrm(b0:Zm)(a1:Int):LT Empty Bool:=
.idx Zx b0.forces a1 fun x1=>.lb 1005<|.cs x1.Fixed (.k8 0<|.kn [0]<|.rt true)<|.k5 0<|.kg 0<|.idxR cB b0.done a1 fun x4=>.kg 0<|.ldR cB b0.done x4 5<|.kg 0<|.br x4 (.rt true)<|.call (Z2s b0.s x1.Source) fun x7=>.cs (decide (x7 < 0)) (.k8 2<|.kg 2<|.rt true)<|.k5 2<|.kg 2<|.idxR cB b0.dropped x7 fun x10=>.kg 2<|.ldR cB b0.dropped x10 8<|.k2 2<|.rt (!x10)
def Zir(b0:Zm):LF Empty Bool := .z 151 [.t 4] true (fun r=>[(0,.box (tm0 b0)),(1,wR Zg 17 b0.traits),(2,wR cB 1 b0.dropped),(3,wR cB 1 b0.done),(4,wR (cL (cI .i64)) 1 b0.hits)]) (fun r=>(wB r))
def Zuj(b0:Zm)(a1:Int):Option Bool:=(Zir b0).run (Zrm b0 a1)
theorem Zhv(b0:Zm)(a1:Int){r:Bool}(h:Zuj b0 a1=some r):FnG PR 151 [(0,.box (tm0 b0)),(1,wR Zg 17 b0.traits),(2,wR cB 1 b0.dropped),(3,wR cB 1 b0.done),(4,wR (cL (cI .i64)) 1 b0.hits)] [.bptr 0 0,wI a1] [(0,.box (tm0 b0)),(1,wR Zg 17 b0.traits),(2,wR cB 1 b0.dropped),(3,wR cB 1 b0.done),(4,wR (cL (cI .i64)) 1 b0.hits)] (wB r):=(Zir b0).fn h
def Zv2(b0:Zm)(a1:Int):LT Empty Int:=
.idx Zx b0.forces a1 fun x1=>.lb 1005<|.call (Z2s b0.s x1.Source) fun x3=>.cs (!x1.Fixed) (.k3 0<|.br (decide (x3>=0)) (.idxR Zg b0.traits x3 fun x7=>.rl Zg b0.traits<|.ldR Zg b0.traits x7 5<|.rt x7.Control)<|.rt x1.Control)<|.k3 0<|.kn [0]<|.rt x1.Control
def Zkl(b0:Zm):LF Empty Int := .z 105 [.t 4] true (fun r=>[(0,.box (tm0 b0)),(1,wR Zg 17 b0.traits),(2,wR cB 1 b0.dropped),(3,wR cB 1 b0.done),(4,wR (cL (cI .i64)) 1 b0.hits)]) (fun r=>(wI r))
def Zyu(b0:Zm)(a1:Int):Option Int:=(Zkl b0).run (Zv2 b0 a1)
theorem Zfv(b0:Zm)(a1:Int){r:Int}(h:Zyu b0 a1=some r):FnG PR 105 [(0,.box (tm0 b0)),(1,wR Zg 17 b0.traits),(2,wR cB 1 b0.dropped),(3,wR cB 1 b0.done),(4,wR (cL (cI .i64)) 1 b0.hits)] [.bptr 0 0,wI a1] [(0,.box (tm0 b0)),(1,wR Zg 17 b0.traits),(2,wR cB 1 b0.dropped),(3,wR cB 1 b0.done),(4,wR (cL (cI .i64)) 1 b0.hits)] (wI r):=(Zkl b0).fn h
inductive Zeo where
 | L0 (E1:Zad) (v6:Int) (v7:List Int) (v42:List Zf) (v43:Int) (v44:Int)
def Zou(b0:Zm)(E1:Zad)(v6:Int)(v7:List Int)(v42:List Zf)(v43:Int)(v44:Int):LT Zeo (List Int):=
.br (decide (v44 < v43)) (.idx Zj v42 v44 fun x2=>.lb 1009<|.cs (x2.Zone==0) (.k3 1<|.cs E1.Fixed (.k5 2<|.call (Zh6 E1.Objects x2.Id) fun x6=>.kg 1<|.kg 2<|.kg 1<|.cs x6 (.k5 3<|.kg 1<|.kg 3<|.kg 1<|.kn [0]<|.dr [.lit]<|.apR (cI .i64) 8 v7 [v44] fun x9=>.g0 (.L0 E1 v6 x9 v42 v43 (IntKind.wrap .i64 (v44+1))))<|.k4 3<|.cs (!E1.Fixed) (.k5 4<|.k2 4<|.idxR Zg b0.traits v44 fun x15=>.kg 4<|.ldR Zg b0.traits x15 5<|.k5 4<|.kg 4<|.call (Zp5 x2 x15 v6 E1.Source E1.Filter) fun x17=>.kg 3<|.kg 4<|.kg 1<|.kg 3<|.kg 1<|.br x17 (.dr [.lit]<|.apR (cI .i64) 8 v7 [v44] fun x20=>.g0 (.L0 E1 v6 x20 v42 v43 (IntKind.wrap .i64 (v44+1))))<|.g0 (.L0 E1 v6 v7 v42 v43 (IntKind.wrap .i64 (v44+1))))<|.k8 4<|.k5 4<|.kg 4<|.kg 3<|.kg 4<|.kg 1<|.kg 3<|.kg 1<|.kn [0]<|.g0 (.L0 E1 v6 v7 v42 v43 (IntKind.wrap .i64 (v44+1))))<|.k5 2<|.kg 1<|.kg 2<|.kg 1<|.b4 false<|.cs (!E1.Fixed) (.k5 3<|.k2 3<|.idxR Zg b0.traits v44 fun x30=>.kg 3<|.ldR Zg b0.traits x30 5<|.k5 3<|.kg 3<|.call (Zp5 x2 x30 v6 E1.Source E1.Filter) fun x32=>.kb false<|.kg 3<|.kg 1<|.kb false<|.kg 1<|.br x32 (.dr [.lit]<|.apR (cI .i64) 8 v7 [v44] fun x35=>.g0 (.L0 E1 v6 x35 v42 v43 (IntKind.wrap .i64 (v44+1))))<|.g0 (.L0 E1 v6 v7 v42 v43 (IntKind.wrap .i64 (v44+1))))<|.k8 3<|.k5 3<|.kg 3<|.kb false<|.kg 3<|.kg 1<|.kb false<|.kg 1<|.kn [0]<|.g0 (.L0 E1 v6 v7 v42 v43 (IntKind.wrap .i64 (v44+1))))<|.k5 1<|.k2 1<|.kn [0]<|.g0 (.L0 E1 v6 v7 v42 v43 (IntKind.wrap .i64 (v44+1))))<|.rl (cI .i64) v7<|.rl (cI .i64) v7<|.rl (cI .i64) v7<|.ret v7 [.frz 20007]
def Zp8(b0:Zm)(a1:Int):LT Zeo (List Int):=
.idxR cB b0.done a1 fun x1=>.ldR cB b0.done x1 2<|.br x1 (.idxR (cL (cI .i64)) b0.hits a1 fun x4=>.ldR (cL (cI .i64)) b0.hits x4 5<|.rt x4)<|.callO (Zhv b0 a1) [0,1,2,3,4] 270000 (fun x=>[]) fun x6=>.br (!x6) (.ret ([]:List Int) [.nilt 4])<|.idx Zx b0.forces a1 fun x9=>.callO (Zfv b0 a1) [0,1,2,3,4] 380000 (fun x=>[]) fun x11=>.lb 1005<|.len Zj b0.s.Objects<|.go (.L0 x9 x11 ([]:List Int) b0.s.Objects (b0.s.Objects.length:Int) 0) [.relab 1005 3001,.own 7 20007 1]
def Zhw(b0:Zm):LF Zeo (List Int) := .m 103 [.t 4] true (fun r=>[(0,.box (tm0 b0)),(1,wR Zg 17 b0.traits),(2,wR cB 1 b0.dropped),(3,wR cB 1 b0.done),(4,wR (cL (cI .i64)) 1 b0.hits)]) (fun r=>(wL (cI .i64) r)) fun | .L0 E1 v6 v7 v42 v43 v44=>([1,1,1,1,1,0,1,4],⟨90,[(0,.bptr 0 0),(5,.bptr 3001 0),(6,wI v6),(7,wO (cI .i64) 20007 v7),(42,wL Zj v42),(43,wI v43),(44,wI v44)],[(0,.box (tm0 b0)),(1,wR Zg 17 b0.traits),(2,wR cB 1 b0.dropped),(3,wR cB 1 b0.done),(4,wR (cL (cI .i64)) 1 b0.hits),(3001,.box (bx (Zx E1))),(20007,wR (cI .i64) 1 v7)]⟩,Zou b0 E1 v6 v7 v42 v43 v44)
def Zrn(b0:Zm)(a1:Int):Option (List Int):=(Zhw b0).run (Zp8 b0 a1)
theorem Zg0(b0:Zm)(a1:Int){r:List Int}(h:Zrn b0 a1=some r):FnG PR 103 [(0,.box (tm0 b0)),(1,wR Zg 17 b0.traits),(2,wR cB 1 b0.dropped),(3,wR cB 1 b0.done),(4,wR (cL (cI .i64)) 1 b0.hits)] [.bptr 0 0,wI a1] [(0,.box (tm0 b0)),(1,wR Zg 17 b0.traits),(2,wR cB 1 b0.dropped),(3,wR cB 1 b0.done),(4,wR (cL (cI .i64)) 1 b0.hits)] (wL (cI .i64) r):=(Zhw b0).fn h
inductive Zez where
 | L0 (v1:Int) (v2:Int) (E1:Zad) (v8:List Int) (v23:List Zh) (v24:Int) (v25:Int)
def Zp9(b0:Zm)(v1:Int)(v2:Int)(E1:Zad)(v8:List Int)(v23:List Zh)(v24:Int)(v25:Int):LT Zez (List Int):=
.br (decide (v25 < v24)) (.idx Zl v23 v25 fun x2=>.lb 1010<|.cs (x2.Kind==11) (.k3 1<|.call (Zp3 x2.Kind) fun x5=>.k3 1<|.br (x5==v2) (.callO (Zfv b0 v1) [0,1,2,3,4] 530000 (fun x=>[]) fun x8=>.rl Zg b0.traits<|.callS (Zajk b0.s b0.traits x8 E1.Source x2.Filter) 580000 (fun _=>⟨rfl,Z3j (cI .i64) (fun _=>rfl) _,trivial⟩) fun x10=>.lenO (cI .i64) x10<|.idxR (cI .i64) v8 v25 fun x12=>.setD (cI .i64) v8 v25 x12 (x10.length:Int) 5 0 [.int .i64 (x10.length:Int)] rfl fun x14=>.dr [.ahead 60,.relen 20008,.stop]<|.us [6]<|.us [6]<|.us [6]<|.g0 (.L0 v1 v2 E1 x14 v23 v24 (IntKind.wrap .i64 (v25+1))))<|.g0 (.L0 v1 v2 E1 v8 v23 v24 (IntKind.wrap .i64 (v25+1))))<|.k5 1<|.kg 1<|.kn [0]<|.g0 (.L0 v1 v2 E1 v8 v23 v24 (IntKind.wrap .i64 (v25+1))))<|.ret v8 [.relab 20008 5000]
def Zq0(b0:Zm)(a1:Int)(a2:Int):LT Zez (List Int):=
.idx Zx b0.forces a1 fun x1=>.lb 1007<|.len Zl x1.Mods<|.mk (cI .i64) 1021 8 0 (x1.Mods.length:Int) (x1.Mods.length:Int) fun x4=>.len Zl x1.Mods<|.go (.L0 a1 a2 x1 x4 x1.Mods (x1.Mods.length:Int) 0) [.relab 1007 3001,.relab 1021 20008]
def Zia(b0:Zm):LF Zez (List Int) := .m 104 [.t 6] true (fun r=>[(5000,wR (cI .i64) 1 r),(0,.box (tm0 b0)),(1,wR Zg 17 b0.traits),(2,wR cB 1 b0.dropped),(3,wR cB 1 b0.done),(4,wR (cL (cI .i64)) 1 b0.hits)]) (fun r=>(wO (cI .i64) 5000 r)) fun | .L0 v1 v2 E1 v8 v23 v24 v25=>([1,1,1,0,1,4],⟨62,[(0,.bptr 0 0),(1,wI v1),(2,wI v2),(7,.bptr 3001 0),(8,wO (cI .i64) 20008 v8),(23,wL Zl v23),(24,wI v24),(25,wI v25)],[(0,.box (tm0 b0)),(1,wR Zg 17 b0.traits),(2,wR cB 1 b0.dropped),(3,wR cB 1 b0.done),(4,wR (cL (cI .i64)) 1 b0.hits),(3001,.box (bx (Zx E1))),(20008,wR (cI .i64) 1 v8)]⟩,Zp9 b0 v1 v2 E1 v8 v23 v24 v25)
def Ztu(b0:Zm)(a1:Int)(a2:Int):Option (List Int):=(Zia b0).run (Zq0 b0 a1 a2)
theorem Zg9(b0:Zm)(a1:Int)(a2:Int){r:List Int}(h:Ztu b0 a1 a2=some r):FnG PR 104 [(0,.box (tm0 b0)),(1,wR Zg 17 b0.traits),(2,wR cB 1 b0.dropped),(3,wR cB 1 b0.done),(4,wR (cL (cI .i64)) 1 b0.hits)] [.bptr 0 0,wI a1,wI a2] [(5000,wR (cI .i64) 1 r),(0,.box (tm0 b0)),(1,wR Zg 17 b0.traits),(2,wR cB 1 b0.dropped),(3,wR cB 1 b0.done),(4,wR (cL (cI .i64)) 1 b0.hits)] (wO (cI .i64) 5000 r):=(Zia b0).fn h
def Zuk(b0:Zm)(a1:Int)(a2:Int):LT Empty Zcf:=
.lb 1006<|.callO (Zhv b0 a1) [0,1,2,3,4] 100000 (fun x=>[]) fun x1=>.callO (Zg0 b0 a1) [0,1,2,3,4] 130000 (fun x=>[]) fun x3=>.callO (Zg9 b0 a1 a2) [0,1,2,3,4] 170000 (fun x=>[(5000,wR (cI .i64) 1 x)]) fun x5=>.ret (⟨x1,x3,x5⟩:Zcf) [.relab 175000 5002]
def Zjy(b0:Zm):LF Empty Zcf := .z 99 [.c 6 174 true 3] true (fun r=>[(5002,wR (cI .i64) 1 r.numbers),(0,.box (tm0 b0)),(1,wR Zg 17 b0.traits),(2,wR cB 1 b0.dropped),(3,wR cB 1 b0.done),(4,wR (cL (cI .i64)) 1 b0.hits)]) (fun r=>(.agg [wB r.active,wL (cI .i64) r.hits,wO (cI .i64) 5002 r.numbers]))
def Zx8(b0:Zm)(a1:Int)(a2:Int):Option Zcf:=(Zjy b0).run (Zuk b0 a1 a2)
theorem Zis(b0:Zm)(a1:Int)(a2:Int){r:Zcf}(h:Zx8 b0 a1 a2=some r):FnG PR 99 [(0,.box (tm0 b0)),(1,wR Zg 17 b0.traits),(2,wR cB 1 b0.dropped),(3,wR cB 1 b0.done),(4,wR (cL (cI .i64)) 1 b0.hits)] [.bptr 0 0,wI a1,wI a2] [(5002,wR (cI .i64) 1 r.numbers),(0,.box (tm0 b0)),(1,wR Zg 17 b0.traits),(2,wR cB 1 b0.dropped),(3,wR cB 1 b0.done),(4,wR (cL (cI .i64)) 1 b0.hits)] (.agg [wB r.active,wL (cI .i64) r.hits,wO (cI .i64) 5002 r.numbers]):=(Zjy b0).fn h
def Zca(a0:List (Opq 17))(hne:a0≠[]):LT Empty (List (Opq 17)):=
.ne (Zh1 (k:=17)) hne<|.kn [0]<|.lb 1005<|.apR (Zh1 (k:=17)) 176 ([]:List (Opq 17)) a0 fun x1=>.ret x1 [.relab 1005 5000]
def Zag:LF Empty (List (Opq 17)) := .z 152 [.t 2] true (fun r=>[(5000,wR (Zh1 (k:=17)) 17 r)]) (fun r=>(wO (Zh1 (k:=17)) 5000 r))
def Zb6(c:Nat):LT Empty (List (Opq 17)):=
.kn [0]<|.ret ([]:List (Opq 17)) [.own 2 5000 17]
def Zhx(c:Nat)(ad:Addr):LT Empty (List (Opq 17)):=
.kn [0]<|.lb 1005<|.apR (Zh1 (k:=17)) 176 ([]:List (Opq 17)) ([]:List (Opq 17)) fun x1=>.ret x1 [.relab 1005 5000]
open Classical in
def Zbh(a0:List (Opq 17)):Option (List (Opq 17)):=if h:a0≠[] then Zag.run (Zca a0 h) else Zag.run (Zb6 0)
theorem Zhd(a0:List (Opq 17)){r:List (Opq 17)}(h:Zbh a0=some r):FnG PR 152 [] [wL (Zh1 (k:=17)) a0] [(5000,wR (Zh1 (k:=17)) 17 r)] (wO (Zh1 (k:=17)) 5000 r):=by
 by_cases hne:a0=[]
 .subst hne
  have h0:Zag.run (Zb6 0)=some r:=h
  exact FnG.split0 (fun e=>absurd rfl e) (fun _ a c=>by
   cases a with
   | none=>exact Zag.fn (t:=Zb6 c) h0
   | some ad=>exact Zag.fn (t:=Zhx c ad) h0)
 .have h0:Zag.run (Zca a0 hne)=some r:=by unfold Zbh at h;rwa [dif_pos hne] at h
  exact FnG.split0 (fun _=>Zag.fn h0) (fun e=>absurd (List.map_eq_nil_iff.1 e) hne)
theorem Zjp:Zmt PR 152 17 176:=Zmt.of (g:=Zbh) (fun a h=>by
 unfold Zbh
 by_cases e:a=[]
 .subst e;rfl
 .rw [dif_pos e];unfold LF.run;dsimp only [Zca,LT.den];rw [Zaum h (by decide)];rfl) (fun a _ h=>Zhd a h)
def Zdo(a0:List (Opq 1))(hne:a0≠[]):LT Empty (List (Opq 1)):=
.ne (Zh1 (k:=1)) hne<|.kn [0]<|.lb 1005<|.apR (Zh1 (k:=1)) 24 ([]:List (Opq 1)) a0 fun x1=>.ret x1 [.relab 1005 5000]
def Zay:LF Empty (List (Opq 1)) := .z 154 [.t 2] true (fun r=>[(5000,wR (Zh1 (k:=1)) 1 r)]) (fun r=>(wO (Zh1 (k:=1)) 5000 r))
def Zdf(c:Nat):LT Empty (List (Opq 1)):=
.kn [0]<|.ret ([]:List (Opq 1)) [.own 2 5000 1]
def Zl4(c:Nat)(ad:Addr):LT Empty (List (Opq 1)):=
.kn [0]<|.lb 1005<|.apR (Zh1 (k:=1)) 24 ([]:List (Opq 1)) ([]:List (Opq 1)) fun x1=>.ret x1 [.relab 1005 5000]
open Classical in
def Zco(a0:List (Opq 1)):Option (List (Opq 1)):=if h:a0≠[] then Zay.run (Zdo a0 h) else Zay.run (Zdf 0)
theorem Zlg(a0:List (Opq 1)){r:List (Opq 1)}(h:Zco a0=some r):FnG PR 154 [] [wL (Zh1 (k:=1)) a0] [(5000,wR (Zh1 (k:=1)) 1 r)] (wO (Zh1 (k:=1)) 5000 r):=by
 by_cases hne:a0=[]
 .subst hne
  have h0:Zay.run (Zdf 0)=some r:=h
  exact FnG.split0 (fun e=>absurd rfl e) (fun _ a c=>by
   cases a with
   | none=>exact Zay.fn (t:=Zdf c) h0
   | some ad=>exact Zay.fn (t:=Zl4 c ad) h0)
 .have h0:Zay.run (Zdo a0 hne)=some r:=by unfold Zco at h;rwa [dif_pos hne] at h
  exact FnG.split0 (fun _=>Zay.fn h0) (fun e=>absurd (List.map_eq_nil_iff.1 e) hne)
theorem Zqa:Zmt PR 154 1 24:=Zmt.of (g:=Zco) (fun a h=>by
 unfold Zco
 by_cases e:a=[]
 .subst e;rfl
 .rw [dif_pos e];unfold LF.run;dsimp only [Zdo,LT.den];rw [Zaum h (by decide)];rfl) (fun a _ h=>Zlg a h)
def Zro(b0:Zm):LT Empty Zm:=
.lb 1003<|.callC Zjp Zg 1011 b0.traits<|.rl cB b0.dropped<|.callS (Zh8 b0.dropped) 170000 (fun _=>⟨rfl,Z3j cB (fun _=>rfl) _,trivial⟩) fun x4=>.rl cB b0.done<|.callS (Zh8 b0.done) 220000 (fun _=>⟨rfl,Z3j cB (fun _=>rfl) _,trivial⟩) fun x6=>.callC Zqa (cL (cI .i64)) 1026 b0.hits<|.ret (⟨b0.s,b0.forces,b0.traits,x4,x6,b0.hits⟩:Zm) [.relab 1003 5000,.relab 1011 5021,.relab 175000 5022,.relab 225000 5023,.relab 1026 5024]
def Zit(b0:Zm):LF Empty Zm := .z 102 [.t 2] true (fun r=>[(5000,.box (tm5 r 5000)),(5021,wR Zg 17 r.traits),(5022,wR cB 1 r.dropped),(5023,wR cB 1 r.done),(5024,wR (cL (cI .i64)) 1 r.hits),(0,.box (tm0 b0)),(1,wR Zg 17 b0.traits),(2,wR cB 1 b0.dropped),(3,wR cB 1 b0.done),(4,wR (cL (cI .i64)) 1 b0.hits)]) (fun r=>(.bptr 5000 0))
def Zul(b0:Zm):Option Zm:=(Zit b0).run (Zro b0)
theorem Zqb(b0:Zm){r:Zm}(h:Zul b0=some r):FnG PR 102 [(0,.box (tm0 b0)),(1,wR Zg 17 b0.traits),(2,wR cB 1 b0.dropped),(3,wR cB 1 b0.done),(4,wR (cL (cI .i64)) 1 b0.hits)] [.bptr 0 0] [(5000,.box (tm5 r 5000)),(5021,wR Zg 17 r.traits),(5022,wR cB 1 r.dropped),(5023,wR cB 1 r.done),(5024,wR (cL (cI .i64)) 1 r.hits),(0,.box (tm0 b0)),(1,wR Zg 17 b0.traits),(2,wR cB 1 b0.dropped),(3,wR cB 1 b0.done),(4,wR (cL (cI .i64)) 1 b0.hits)] (.bptr 5000 0):=(Zit b0).fn h
inductive Zdu where
 | L0 (c0:Zm) (v1:Int) (v2:Int) (v6:List Int) (v7:List Int) (v8:Int) (v23:List Int) (v24:Int) (v25:Int)
 | L1 (c0:Zm) (v1:Int) (v2:Int) (v6:List Int) (v7:List Int) (v8:Int) (v10:Int) (v23:List Int) (v24:Int) (v25:Int) (v36:List Zh) (v37:Int) (v38:Int)
def Zrp(c0:Zm)(v1:Int)(v2:Int)(v6:List Int)(v7:List Int)(v8:Int)(v23:List Int)(v24:Int)(v25:Int):LT Zdu Zm:=
.br (decide (v25 < v24)) (.idx (cI .i64) v23 v25 fun x2=>.idx Zx c0.forces v1 fun x4=>.len Zl x4.Mods<|.g0 (.L1 c0 v1 v2 v6 v7 v8 x2 v23 v24 v25 x4.Mods (x4.Mods.length:Int) 0))<|.idxR cB c0.done v1 fun x7=>.setD cB c0.done v1 x7 true 2 0 [.bool true] rfl fun x9=>.idxR (cL (cI .i64)) c0.hits v1 fun x11=>.setD (cL (cI .i64)) c0.hits v1 x11 v6 8 0 [.sl (List.map (cI .i64) v6)] rfl fun x13=>.us [3]<|.us [3]<|.us [3]<|.us [9]<|.us [9]<|.us [9]<|.ret (⟨c0.s,c0.forces,c0.traits,c0.dropped,x9,x13⟩:Zm) [.relen 3,.relen 4]
def Zrq(c0:Zm)(v1:Int)(v2:Int)(v6:List Int)(v7:List Int)(v8:Int)(v10:Int)(v23:List Int)(v24:Int)(v25:Int)(v36:List Zh)(v37:Int)(v38:Int):LT Zdu Zm:=
.br (decide (v38 < v37)) (.idx Zl v36 v38 fun x2=>.lb 1012<|.call (Zp3 x2.Kind) fun x4=>.br (x4 != v2) (.g0 (.L1 c0 v1 v2 v6 v7 v8 v10 v23 v24 v25 v36 v37 (IntKind.wrap .i64 (v38+1))))<|.idxR Zg c0.traits v10 fun x9=>.ldR Zg c0.traits x9 5<|.idxR (cI .i64) v7 v38 fun x11=>.ldR (cI .i64) v7 x11 8<|.call (Zaq3 x9 x2 v8 x11) fun x13=>.plR Zg c0.traits v10 3<|.setD Zg c0.traits v10 x9 x13 5 0 (tm10 x13) rfl fun x15=>.dr [.ahead 68,.relen 1,.stop]<|.us [9]<|.us [9]<|.us [9]<|.us [9]<|.us [9]<|.br (x2.Kind==10) (.idxR cB c0.dropped v10 fun x18=>.setR cB c0.dropped v10 x18 true 14 0 [.bool true] rfl fun x20=>.dr [.ahead 77,.relen 2,.stop]<|.us [15]<|.us [15]<|.us [15]<|.g0 (.L1 (⟨c0.s,c0.forces,x15,x20,c0.done,c0.hits⟩:Zm) v1 v2 v6 v7 v8 v10 v23 v24 v25 v36 v37 (IntKind.wrap .i64 (v38+1))))<|.g0 (.L1 (⟨c0.s,c0.forces,x15,c0.dropped,c0.done,c0.hits⟩:Zm) v1 v2 v6 v7 v8 v10 v23 v24 v25 v36 v37 (IntKind.wrap .i64 (v38+1))))<|.g0 (.L0 c0 v1 v2 v6 v7 v8 v23 v24 (IntKind.wrap .i64 (v25+1)))
def Ztv(b0:Zm)(a1:Int)(a2:Int):LT Zdu Zm:=
.callO (Zg0 b0 a1) [0,1,2,3,4] 160000 (fun x=>[]) fun x1=>.callO (Zg9 b0 a1 a2) [0,1,2,3,4] 200000 (fun x=>[(5000,wR (cI .i64) 1 x)]) fun x3=>.callO (Zfv b0 a1) [0,1,2,3,4] 230000 (fun x=>[]) fun x5=>.len (cI .i64) x1<|.go (.L0 b0 a1 a2 x1 x3 x5 x1 (x1.length:Int) 0) [.relab 205000 20007]
def Zi7:LF Zdu Zm := .m 56 [] true (fun r=>[(0,.box (tm0 r)),(1,wR Zg 17 r.traits),(2,wR cB 1 r.dropped),(3,wR cB 1 r.done),(4,wR (cL (cI .i64)) 1 r.hits)]) (fun r => .tup []) fun | .L0 c0 v1 v2 v6 v7 v8 v23 v24 v25=>([1,0,1,4],⟨92,[(0,.bptr 0 0),(1,wI v1),(2,wI v2),(6,wL (cI .i64) v6),(7,wO (cI .i64) 20007 v7),(8,wI v8),(23,wL (cI .i64) v23),(24,wI v24),(25,wI v25)],[(0,.box (tm0 c0)),(1,wR Zg 17 c0.traits),(2,wR cB 1 c0.dropped),(3,wR cB 1 c0.done),(4,wR (cL (cI .i64)) 1 c0.hits),(20007,wR (cI .i64) 1 v7)]⟩,Zrp c0 v1 v2 v6 v7 v8 v23 v24 v25) | .L1 c0 v1 v2 v6 v7 v8 v10 v23 v24 v25 v36 v37 v38=>([1,0,1,4,5,1,1,0,4,1,1,4],⟨92,[(0,.bptr 0 0),(1,wI v1),(2,wI v2),(6,wL (cI .i64) v6),(7,wO (cI .i64) 20007 v7),(8,wI v8),(10,wI v10),(23,wL (cI .i64) v23),(24,wI v24),(25,wI v25),(36,wL Zl v36),(37,wI v37),(38,wI v38)],[(0,.box (tm0 c0)),(1,wR Zg 17 c0.traits),(2,wR cB 1 c0.dropped),(3,wR cB 1 c0.done),(4,wR (cL (cI .i64)) 1 c0.hits),(20007,wR (cI .i64) 1 v7)]⟩,Zrq c0 v1 v2 v6 v7 v8 v10 v23 v24 v25 v36 v37 v38)
def Zv3:=fun b0 a1 a2=>Zi7.run (Ztv b0 a1 a2)
theorem Zib(b0)(a1)(a2){r}(h:Zv3 b0 a1 a2=some r):FnG PR 56 [(0,.box (tm0 b0)),(1,wR Zg 17 b0.traits),(2,wR cB 1 b0.dropped),(3,wR cB 1 b0.done),(4,wR (cL (cI .i64)) 1 b0.hits)] [.bptr 0 0,wI a1,wI a2] [(0,.box (tm0 r)),(1,wR Zg 17 r.traits),(2,wR cB 1 r.dropped),(3,wR cB 1 r.done),(4,wR (cL (cI .i64)) 1 r.hits)] (.tup []):=Zi7.fn h
inductive Za8 where
 | L0 (v2:Int) (v7:List (List Bool)) (v27:Int) (v28:Int)
 | L1 (v2:Int) (v7:List (List Bool)) (v9:List (Int×Zcf)) (v43:Int) (v44:Int)
 | L2 (v2:Int) (v7:List (List Bool)) (v9:List (Int×Zcf)) (v69:Int) (v70:Int)
 | L3 (v2:Int) (v7:List (List Bool)) (v9:List (Int×Zcf)) (v14:Int) (E1:Zm) (v69:Int) (v70:Int) (v81:Int) (v82:Int)
def Zml(b0:Zm)(a1:List Int)(v2:Int)(v7:List (List Bool))(v27:Int)(v28:Int):LT Za8 (List (List Bool)):=
.br (decide (v28 < v27)) (.len Zx b0.forces<|.mk cB 1038 1 false (b0.forces.length:Int) (b0.forces.length:Int) fun x2=>.idM cB v7 v28 fun x4=>.stR cB v7 v28 x2 0 fun x6=>.dr [.ahead 40,.relen 20007,.stop]<|.us [2]<|.us [2]<|.g0 (.L0 v2 x6 v27 (IntKind.wrap .i64 (v28+1))))<|.lb 1041<|.lenO (cI .i64) a1<|.go (.L1 v2 v7 ([]:List (Int×Zcf)) (a1.length:Int) 0) [.relab 1041 20009]
def Zmm(b0:Zm)(a1:List Int)(v2:Int)(v7:List (List Bool))(v9:List (Int×Zcf))(v43:Int)(v44:Int):LT Za8 (List (List Bool)):=
.br (decide (v44 < v43)) (.idxR (cI .i64) a1 v44 fun x2=>.ldR (cI .i64) a1 x2 2<|.callO (Zot b0 x2 v2) [0,2,3,4,5] 520000 (fun x=>[]) fun x4=>.br x4 (.callO (Zis b0 x2 v2) [0,2,3,4,5] 580000 (fun x=>[(5002,wR (cI .i64) 1 x.numbers)]) fun x7=>.dr [.ahead 1000000,.frz 585002,.stop]<|.rl (cI .i64) x7.numbers<|.stG Zd5 v9 x2 x7 (.agg [wB x7.active,wL (cI .i64) x7.hits,wL (cI .i64) x7.numbers]) (wA (Zd5 x7)) rfl fun x9=>.g0 (.L1 v2 v7 x9 v43 (IntKind.wrap .i64 (v44+1))))<|.g0 (.L1 v2 v7 v9 v43 (IntKind.wrap .i64 (v44+1))))<|.lenG Zd5 v9<|.cs ((v9.length:Int)==0) (.k4 1<|.kn [0]<|.rl (cL cB) v7<|.rl (cL cB) v7<|.rl (cL cB) v7<|.ret v7 [.frz 20007])<|.k2 1<|.lenO (cI .i64) a1<|.k2 1<|.br (decide ((a1.length:Int) < 2)) (.rl (cL cB) v7<|.rl (cL cB) v7<|.rl (cL cB) v7<|.ret v7 [.frz 20007])<|.lenO (cI .i64) a1<|.g0 (.L2 v2 v7 v9 (a1.length:Int) 0)
def Zmn(b0:Zm)(a1:List Int)(v2:Int)(v7:List (List Bool))(v9:List (Int×Zcf))(v69:Int)(v70:Int):LT Za8 (List (List Bool)):=
.br (decide (v70 < v69)) (.idxR (cI .i64) a1 v70 fun x2=>.ldR (cI .i64) a1 x2 2<|.callO (Zqb b0) [0,2,3,4,5] 760000 (fun x=>[(5000,.box [wL Zav x.s.Players,wL Zj x.s.Objects,wL (cI .i64) x.s.Battlefield,wL (cI .i64) x.s.Exile,wL Za4 x.s.Stack,wL Za6 x.s.Waiting,wL Zba x.s.Conts,wI x.s.Turn,wI x.s.Active,wI x.s.Step,wB x.s.Begun,wI x.s.Priority,wI x.s.Passes,wI x.s.NextId,wI x.s.NextStamp,.t (.int .u64 x.s.Seed),wL (cI .i64) x.s.Extra,wI x.s.Over,wI x.s.Winner,wL Zx x.forces,wO Zg 5021 x.traits,wO cB 5022 x.dropped,wO cB 5023 x.done,wO (cL (cI .i64)) 5024 x.hits]),(5021,wR Zg 17 x.traits),(5022,wR cB 1 x.dropped),(5023,wR cB 1 x.done),(5024,wR (cL (cI .i64)) 1 x.hits)]) fun x4=>.callU (Zib x4 x2 v2) [765000,765021,765022,765023,765024] 800000 fun x6=>.lenO (cI .i64) a1<|.go (.L3 v2 v7 v9 x2 x6 v69 v70 (a1.length:Int) 0) [.relab 765000 3001,.relab 765021 40120,.relab 765022 40121,.relab 765023 40122,.relab 765024 40123])<|.rl (cL cB) v7<|.rl (cL cB) v7<|.rl (cL cB) v7<|.ret v7 [.frz 20007]
def Zmo(b0:Zm)(a1:List Int)(v2:Int)(v7:List (List Bool))(v9:List (Int×Zcf))(v14:Int)(E1:Zm)(v69:Int)(v70:Int)(v81:Int)(v82:Int):LT Za8 (List (List Bool)):=
.br (decide (v82 < v81)) (.idxR (cI .i64) a1 v82 fun x2=>.ldR (cI .i64) a1 x2 2<|.lkG Zd5 v9 x2 (⟨false,[],[]⟩:Zcf) fun x4=>.lb 1018<|.cs x4.2 (.k4 1<|.br (x2 != v14) (.idM cB v7 x2 fun x8=>.ldM cB v7 3<|.callO (Zis E1 x2 v2) [3001,40120,40121,40122,40123] 1090000 (fun x=>[(5002,wR (cI .i64) 1 x.numbers)]) fun x10=>.rl (cI .i64) x10.numbers<|.call (Zvy x4.1 x10) fun x12=>.idN cB v7 x8 v14 3 fun x14=>.stM cB v7 x2 x8 v14 x12 3 5 fun x16=>.dr [.ahead 111,.relen 20007,.stop]<|.us [7]<|.us [7]<|.g0 (.L3 v2 x16 v9 v14 E1 v69 v70 v81 (IntKind.wrap .i64 (v82+1))))<|.g0 (.L3 v2 v7 v9 v14 E1 v69 v70 v81 (IntKind.wrap .i64 (v82+1))))<|.k4 1<|.kn [0]<|.g0 (.L3 v2 v7 v9 v14 E1 v69 v70 v81 (IntKind.wrap .i64 (v82+1))))<|.g0 (.L2 v2 v7 v9 v69 (IntKind.wrap .i64 (v70+1)))
def Znc(b0:Zm)(a1:List Int)(a2:Int):LT Za8 (List (List Bool)):=
.len Zx b0.forces<|.mkE cB 1025 24 (b0.forces.length:Int) (b0.forces.length:Int) fun x2=>.dr [.ahead 7,.tomat 1025,.stop]<|.us [0]<|.lenO (cL cB) x2<|.go (.L0 a2 x2 (x2.length:Int) 0) [.relab 1025 20007]
def Zgp(b0:Zm)(a1:List Int):LF Za8 (List (List Bool)) := .m 55 [.t 6] true (fun r=>[(0,.box (tm3 b0)),(1,wR (cI .i64) 1 a1),(2,wR Zg 17 b0.traits),(3,wR cB 1 b0.dropped),(4,wR cB 1 b0.done),(5,wR (cL (cI .i64)) 1 b0.hits)]) (fun r=>(wL (cL cB) r)) fun | .L0 v2 v7 v27 v28=>([1,1,0,1,4],⟨114,[(0,.bptr 0 0),(1,wO (cI .i64) 1 a1),(2,wI v2),(7,wM (cL cB) 20007 v7),(27,wI v27),(28,wI v28)],[(0,.box (tm3 b0)),(2,wR Zg 17 b0.traits),(3,wR cB 1 b0.dropped),(4,wR cB 1 b0.done),(5,wR (cL (cI .i64)) 1 b0.hits),(1,wR (cI .i64) 1 a1),(20007,wT (cL cB) v7)]⟩,Zml b0 a1 v2 v7 v27 v28) | .L1 v2 v7 v9 v43 v44=>([1,1,1,1,0,1,4],⟨114,[(0,.bptr 0 0),(1,wO (cI .i64) 1 a1),(2,wI v2),(7,wM (cL cB) 20007 v7),(9,.own 20009 .map),(42,wO (cI .i64) 1 a1),(43,wI v43),(44,wI v44)],[(0,.box (tm3 b0)),(2,wR Zg 17 b0.traits),(3,wR cB 1 b0.dropped),(4,wR cB 1 b0.done),(5,wR (cL (cI .i64)) 1 b0.hits),(1,wR (cI .i64) 1 a1),(20007,wT (cL cB) v7),(20009,wG true Zd5 v9)]⟩,Zmm b0 a1 v2 v7 v9 v43 v44) | .L2 v2 v7 v9 v69 v70=>([1,1,1,1,1,1,1,0,1,4],⟨114,[(0,.bptr 0 0),(1,wO (cI .i64) 1 a1),(2,wI v2),(7,wM (cL cB) 20007 v7),(9,.own 20009 .map),(12,.fn 100 []),(68,wO (cI .i64) 1 a1),(69,wI v69),(70,wI v70)],[(0,.box (tm3 b0)),(2,wR Zg 17 b0.traits),(3,wR cB 1 b0.dropped),(4,wR cB 1 b0.done),(5,wR (cL (cI .i64)) 1 b0.hits),(1,wR (cI .i64) 1 a1),(20007,wT (cL cB) v7),(20009,wG true Zd5 v9)]⟩,Zmn b0 a1 v2 v7 v9 v69 v70) | .L3 v2 v7 v9 v14 E1 v69 v70 v81 v82=>([1,1,1,1,1,1,1,0,1,4,5,1,1,0,4,1,1,1,1,4],⟨114,[(0,.bptr 0 0),(1,wO (cI .i64) 1 a1),(2,wI v2),(7,wM (cL cB) 20007 v7),(9,.own 20009 .map),(12,.fn 100 []),(14,wI v14),(15,.bptr 3001 0),(68,wO (cI .i64) 1 a1),(69,wI v69),(70,wI v70),(80,wO (cI .i64) 1 a1),(81,wI v81),(82,wI v82)],((0,.box (tm3 b0))::(2,wR Zg 17 b0.traits)::(3,wR cB 1 b0.dropped)::(4,wR cB 1 b0.done)::(5,wR (cL (cI .i64)) 1 b0.hits)::(1,wR (cI .i64) 1 a1)::(20007,wT (cL cB) v7)::(20009,wG true Zd5 v9)::(3001,.box (tm7 E1 40100))::(tm20 E1 40100))⟩,Zmo b0 a1 v2 v7 v9 v14 E1 v69 v70 v81 v82)
def Zov(b0:Zm)(a1:List Int)(a2:Int):Option (List (List Bool)):=(Zgp b0 a1).run (Znc b0 a1 a2)
theorem Zl5(b0:Zm)(a1:List Int)(a2:Int){r:List (List Bool)}(h:Zov b0 a1 a2=some r):FnG PR 55 [(0,.box (tm3 b0)),(1,wR (cI .i64) 1 a1),(2,wR Zg 17 b0.traits),(3,wR cB 1 b0.dropped),(4,wR cB 1 b0.done),(5,wR (cL (cI .i64)) 1 b0.hits)] [.bptr 0 0,wO (cI .i64) 1 a1,wI a2] [(0,.box (tm3 b0)),(1,wR (cI .i64) 1 a1),(2,wR Zg 17 b0.traits),(3,wR cB 1 b0.dropped),(4,wR cB 1 b0.done),(5,wR (cL (cI .i64)) 1 b0.hits)] (wL (cL cB) r):=(Zgp b0 a1).fn h
def Zrr(a0:Int)(a1:Int):LT Empty Bool:=
.rt (a0==a1)
def Ziu:LF Empty Bool := .z0 58 [.t 3] wB
def Zum:=fun a0 a1=>Ziu.run (Zrr a0 a1)
theorem Zic(a0)(a1){r}(h:Zum a0 a1=some r):Fn PR 58 [wI a0,.vptr ((cI .i64) a1)] (wB r):=Ziu.fn h
inductive Zbg where
 | L0 (v0:List Int) (w1_0:Int) (v7:Int) (v8:Int)
def Zfm(v0:List Int)(w1_0:Int)(v7:Int)(v8:Int):LT Zbg Int:=
.br (decide (v8 < v7)) (.idx (cI .i64) v0 v8 fun x2=>.call (Zic x2 w1_0) fun x4=>.br x4 (.rt v8)<|.g0 (.L0 v0 w1_0 v7 (IntKind.wrap .i64 (v8+1))))<|.rt (-1)
def Zfw(a0:List Int)(a1:Int):LT Zbg Int:=
.len (cI .i64) a0<|.g0 (.L0 a0 a1 (a0.length:Int) 0)
def Zcm:LF Zbg Int := .m0 107 [.t 4] wI fun | .L0 v0 w1_0 v7 v8=>([1,0,1,4],⟨19,[(0,wL (cI .i64) v0),(1,.fn 58 [.vptr ((cI .i64) w1_0)]),(7,wI v7),(8,wI v8)],[]⟩,Zfm v0 w1_0 v7 v8)
def Zgb:=fun a0 a1=>Zcm.run (Zfw a0 a1)
theorem Zfn(a0)(a1){r}(h:Zgb a0 a1=some r):Fn PR 107 [wL (cI .i64) a0,.fn 58 [.vptr ((cI .i64) a1)]] (wI r):=Zcm.fn h
inductive Za5 where
 | L0 (v0:List Int) (w1_0:Int) (v5:Int) (v6:Int)
def Zek(v0:List Int)(w1_0:Int)(v5:Int)(v6:Int):LT Za5 (List Int):=
.lenO (cI .i64) v0<|.br (decide (v6 < (v0.length:Int))) (.idxR (cI .i64) v0 v6 fun x2=>.ldR (cI .i64) v0 x2 2<|.call (Zic x2 w1_0) fun x4=>.br (!x4) (.idxR (cI .i64) v0 v5 fun x7=>.setR (cI .i64) v0 v5 x7 x2 5 0 [.int .i64 x2] rfl fun x9=>.dr [.ahead 34,.relen 20000,.stop]<|.us [6]<|.us [6]<|.us [6]<|.us [6]<|.us [6]<|.us [6]<|.g0 (.L0 x9 w1_0 (IntKind.wrap .i64 (v5+1)) (IntKind.wrap .i64 (v6+1))))<|.g0 (.L0 v0 w1_0 v5 (IntKind.wrap .i64 (v6+1))))<|.tlR (cI .i64) v0 v5 0 fun x17=>.clR (cI .i64) v0 x17 0<|.dr [.ahead 39,.relen 20000,.stop]<|.us [2]<|.us [2]<|.us [2]<|.trR (cI .i64) x17 v5 fun x20=>.ret x20 [.relab 20000 5000]
def Zep(b0:List Int)(a1:Int):LT Za5 (List Int):=
.rl (cI .i64) b0<|.call (Zfn b0 a1) fun x1=>.br (x1==(-1)) (.ret b0 [.relab 0 5000])<|.go (.L0 b0 a1 x1 (IntKind.wrap .i64 (x1+1))) [.relab 0 20000]
def Zb7:LF Za5 (List Int) := .m 57 [.t 4] true (fun r=>[(5000,wR (cI .i64) 1 r)]) (fun r=>(wO (cI .i64) 5000 r)) fun | .L0 v0 w1_0 v5 v6=>([1,1,1,0,1,4],⟨42,[(0,wO (cI .i64) 20000 v0),(1,.fn 58 [.vptr ((cI .i64) w1_0)]),(5,wI v5),(6,wI v6)],[(20000,wR (cI .i64) 1 v0)]⟩,Zek v0 w1_0 v5 v6)
def Ze0:=fun b0 a1=>Zb7.run (Zep b0 a1)
theorem Zei(b0)(a1){r}(h:Ze0 b0 a1=some r):FnG PR 57 [(0,wR (cI .i64) 1 b0)] [wO (cI .i64) 0 b0,.fn 58 [.vptr ((cI .i64) a1)]] [(5000,wR (cI .i64) 1 r)] (wO (cI .i64) 5000 r):=Zb7.fn h
inductive Zdv where
 | L0 (c0:Zm) (v1:Int) (v5:List Int) (v6:List Int) (v7:List Int) (v18:List Zad) (v19:Int) (v20:Int)
 | L1 (c0:Zm) (v1:Int) (v5:List Int) (v6:List Int) (v7:List Int)
def Zrs(c0:Zm)(v1:Int)(v5:List Int)(v6:List Int)(v7:List Int)(v18:List Zad)(v19:Int)(v20:Int):LT Zdv ((List Int)×Zm):=
.br (decide (v20 < v19)) (.idx Zx v18 v20 fun x2=>.lb 1009<|.dr [.lit]<|.apR (cI .i64) 8 v7 [x2.Stamp] fun x4=>.call (Zac8 x2 v1) fun x7=>.br x7 (.dr [.lit]<|.apR (cI .i64) 8 v5 [v20] fun x10=>.g0 (.L0 c0 v1 x10 v6 x4 v18 v19 (IntKind.wrap .i64 (v20+1))))<|.g0 (.L0 c0 v1 v5 v6 x4 v18 v19 (IntKind.wrap .i64 (v20+1))))<|.g0 (.L1 c0 v1 v5 v6 v7)
def Zrt(c0:Zm)(v1:Int)(v5:List Int)(v6:List Int)(v7:List Int):LT Zdv ((List Int)×Zm):=
.lenO (cI .i64) v5<|.br (decide ((v5.length:Int) > 0)) (.callO (Zl5 c0 v5 v1) [0,20005,1,2,3,4] 470000 (fun x=>[]) fun x2=>.rl (cI .i64) v5<|.rl (cI .i64) v7<|.call (Zajr v5 v7 x2) fun x4=>.lb 1010<|.br (decide (x4 < 0)) (.ret (v6,c0) [.relab 20006 5000])<|.callU (Zib c0 x4 v1) [0,1,2,3,4] 550000 fun x7=>.dr [.lit]<|.apR (cI .i64) 8 v6 [x4] fun x9=>.callW (Zei v5 x4) [20005] 620000 (fun _=>⟨rfl,Z3j (cI .i64) (fun _=>rfl) _,trivial⟩) fun x12=>.go (.L1 x7 v1 x12 x9 v7) [.relab 625000 20005])<|.ret (v6,c0) [.relab 20006 5000]
def Ztw(b0:Zm)(a1:Int):LT Zdv ((List Int)×Zm):=
.br (a1==7) (.callU (Zqy b0) [0,1,2,3,4] 150000 fun x2=>.len Zx x2.forces<|.go (.L0 x2 a1 ([]:List Int) ([]:List Int) ([]:List Int) x2.forces (x2.forces.length:Int) 0) [.own 5 20005 1,.own 6 20006 1,.own 7 20007 1])<|.len Zx b0.forces<|.go (.L0 b0 a1 ([]:List Int) ([]:List Int) ([]:List Int) b0.forces (b0.forces.length:Int) 0) [.own 5 20005 1,.own 6 20006 1,.own 7 20007 1]
def Zi8:LF Zdv ((List Int)×Zm) := .m 35 [.t 4] true (fun r=>[(5000,wR (cI .i64) 1 r.1),(0,.box (tm0 r.2)),(1,wR Zg 17 r.2.traits),(2,wR cB 1 r.2.dropped),(3,wR cB 1 r.2.done),(4,wR (cL (cI .i64)) 1 r.2.hits)]) (fun r=>(wO (cI .i64) 5000 r.1)) fun | .L0 c0 v1 v5 v6 v7 v18 v19 v20=>([1,1,1,0,1,4],⟨63,[(0,.bptr 0 0),(1,wI v1),(5,wO (cI .i64) 20005 v5),(6,wO (cI .i64) 20006 v6),(7,wO (cI .i64) 20007 v7),(18,wL Zx v18),(19,wI v19),(20,wI v20)],[(0,.box (tm0 c0)),(1,wR Zg 17 c0.traits),(2,wR cB 1 c0.dropped),(3,wR cB 1 c0.done),(4,wR (cL (cI .i64)) 1 c0.hits),(20005,wR (cI .i64) 1 v5),(20006,wR (cI .i64) 1 v6),(20007,wR (cI .i64) 1 v7)]⟩,Zrs c0 v1 v5 v6 v7 v18 v19 v20) | .L1 c0 v1 v5 v6 v7=>([1,1,1,1,0,4],⟨63,[(0,.bptr 0 0),(1,wI v1),(5,wO (cI .i64) 20005 v5),(6,wO (cI .i64) 20006 v6),(7,wO (cI .i64) 20007 v7)],[(0,.box (tm0 c0)),(1,wR Zg 17 c0.traits),(2,wR cB 1 c0.dropped),(3,wR cB 1 c0.done),(4,wR (cL (cI .i64)) 1 c0.hits),(20005,wR (cI .i64) 1 v5),(20006,wR (cI .i64) 1 v6),(20007,wR (cI .i64) 1 v7)]⟩,Zrt c0 v1 v5 v6 v7)
def Zv4:=fun b0 a1=>Zi8.run (Ztw b0 a1)
theorem Zq1(b0)(a1){r}(h:Zv4 b0 a1=some r):FnG PR 35 [(0,.box (tm0 b0)),(1,wR Zg 17 b0.traits),(2,wR cB 1 b0.dropped),(3,wR cB 1 b0.done),(4,wR (cL (cI .i64)) 1 b0.hits)] [.bptr 0 0,wI a1] [(5000,wR (cI .i64) 1 r.1),(0,.box (tm0 r.2)),(1,wR Zg 17 r.2.traits),(2,wR cB 1 r.2.dropped),(3,wR cB 1 r.2.done),(4,wR (cL (cI .i64)) 1 r.2.hits)] (wO (cI .i64) 5000 r.1):=Zi8.fn h
inductive Z07 where
 | L0 (E0:Zm) (v6:Int)
def Zaq6(E0:Zm)(v6:Int):LT Z07 (List Zb):=
.br (decide (v6<=8)) (.callU (Zq1 E0 v6) [3000,40020,40021,40022,40023] 170000 fun x2=>.g0 (.L0 x2.2 (IntKind.wrap .i64 (v6+1))))<|.ret E0.traits [.relab 40020 5000]
def Zatp(a0:List Zk)(a1:Zo):LT Z07 (List Zb):=
.lb 1003<|.callF (Zagy a0 a1) 100000 fun x1=>.go (.L0 x1 1) [.relab 105000 3000,.relab 105021 40020,.relab 105022 40021,.relab 105023 40022,.relab 105024 40023]
def Zabj:LF Z07 (List Zb) := .m 17 [.t 4] true (fun r=>[(5000,wR Zg 17 r)]) (fun r=>(wO Zg 5000 r)) fun | .L0 E0 v6=>([1,1,0,1,4],⟨21,[(5,.bptr 3000 0),(6,wI v6)],((3000,.box (tm7 E0 40000))::(tm20 E0 40000))⟩,Zaq6 E0 v6)
def Zalj:=fun a0 a1=>Zabj.run (Zatp a0 a1)
theorem Zamg(a0)(a1){r}(h:Zalj a0 a1=some r):FnG PR 17 [] [wL Zu a0,wA (Z1 a1)] [(5000,wR Zg 17 r)] (wO Zg 5000 r):=Zabj.fn h
theorem Zaq7(a0:List Zk)(a1:Zo){r:List Zb}(h:Zalj a0 a1=some r):Fn PR 17 [wL Zu a0,wA (Z1 a1)] (wL Zg r):=
 FnG.frozen (C:=LT.RL Zg r/\True) (Zamg a0 a1 h) ⟨rfl,trivial⟩ (by kernel_rfl)
def Zatq:LT Empty Bool:=
.dr [.lit]<|.dr [.lit]<|.dr [.lit]<|.dr [.lit]<|.call (Zaqw [(⟨0,0,0,0,0,false,false,false,false,0,(⟨1,0,0⟩:A3 Int),0,0,0,false,0,0⟩:Zf),(⟨0,1,0,0,0,false,false,false,false,0,(⟨0,0,0⟩:A3 Int),0,0,0,false,0,0⟩:Zf)]) fun x3=>.lb 1002<|.call (Zaq7 [(⟨([97]:By),false,(⟨0,0,(⟨0,0,0,0,0⟩:A5 Int)⟩:Zr),0,(⟨0,1,([]:Bys)⟩:Z6),2,2,0,([]:List Ze)⟩:Zk),(⟨([98]:By),false,(⟨0,0,(⟨0,0,0,0,0⟩:A5 Int)⟩:Zr),0,(⟨0,16,([]:Bys)⟩:Z6),0,0,0,[(⟨1,(⟨0,0,0,1,0,0,0,([]:By),0,0,(⟨0,0⟩:Za),(⟨0,0⟩:Za),(⟨0,0⟩:Za)⟩:Zc),[(⟨13,1,1,([]:By),(⟨0,0,0,0,0,0,0,([]:By),0,0,(⟨0,0⟩:Za),(⟨0,0⟩:Za),(⟨0,0⟩:Za)⟩:Zc)⟩:Zh)],(⟨(⟨0,0,(⟨0,0,0,0,0⟩:A5 Int)⟩:Zr),false,false,0⟩:Zfq),false,(⟨0,0,(⟨0,0,0,0,0,0,0,([]:By),0,0,(⟨0,0⟩:Za),(⟨0,0⟩:Za),(⟨0,0⟩:Za)⟩:Zc)⟩:Zbx),false,([]:List Zat),([]:List Zs),(⟨0,0,(⟨0,0,0,0,0,0,0,([]:By),0,0,(⟨0,0⟩:Za),(⟨0,0⟩:Za),(⟨0,0⟩:Za)⟩:Zc),0,0,0,0⟩:Zas)⟩:Ze)]⟩:Zk)] x3) fun x5=>.call (Zp0 [(⟨([97]:By),false,(⟨0,0,(⟨0,0,0,0,0⟩:A5 Int)⟩:Zr),0,(⟨0,1,([]:Bys)⟩:Z6),2,2,0,([]:List Ze)⟩:Zk),(⟨([98]:By),false,(⟨0,0,(⟨0,0,0,0,0⟩:A5 Int)⟩:Zr),0,(⟨0,16,([]:Bys)⟩:Z6),0,0,0,[(⟨1,(⟨0,0,0,1,0,0,0,([]:By),0,0,(⟨0,0⟩:Za),(⟨0,0⟩:Za),(⟨0,0⟩:Za)⟩:Zc),[(⟨13,1,1,([]:By),(⟨0,0,0,0,0,0,0,([]:By),0,0,(⟨0,0⟩:Za),(⟨0,0⟩:Za),(⟨0,0⟩:Za)⟩:Zc)⟩:Zh)],(⟨(⟨0,0,(⟨0,0,0,0,0⟩:A5 Int)⟩:Zr),false,false,0⟩:Zfq),false,(⟨0,0,(⟨0,0,0,0,0,0,0,([]:By),0,0,(⟨0,0⟩:Za),(⟨0,0⟩:Za),(⟨0,0⟩:Za)⟩:Zc)⟩:Zbx),false,([]:List Zat),([]:List Zs),(⟨0,0,(⟨0,0,0,0,0,0,0,([]:By),0,0,(⟨0,0⟩:Za),(⟨0,0⟩:Za),(⟨0,0⟩:Za)⟩:Zc),0,0,0,0⟩:Zas)⟩:Ze)]⟩:Zk)] x3) fun x7=>.len Zg x5<|.cs ((x5.length:Int)==2) (.k2 0<|.idx Zg x5 0 fun x11=>.k4 0<|.cs (x11.Power==4) (.k2 1<|.ag Zg x11 0<|.k4 1<|.cs (x11.Tough==4) (.k2 2<|.idx Zg x5 1 fun x15=>.k4 2<|.cs (x15.Name==([98]:By)) (.k2 3<|.len Zx x7<|.k2 3<|.cs ((x7.length:Int)==1) (.k2 4<|.idx Zx x7 0 fun x20=>.k4 4<|.rt (x20.Source==2))<|.k5 4<|.kg 4<|.rt false)<|.k4 3<|.b5 false<|.kb false<|.rt false)<|.k5 2<|.kg 2<|.b8 false<|.b2 false<|.rt false)<|.k5 1<|.kg 1<|.b16 false<|.rt false)<|.k5 0<|.kg 0<|.b16 false<|.b5 false<|.kb false<|.rt false
def Zabk:LF Empty Bool := .z0 11 [.t 0] wB
def Zalk:=Zabk.run (Zatq)
theorem Z71{r}(h:Zalk=some r):Fn PR 11 [] (wB r):=Zabk.fn h
inductive Zlh where
 | L0 (E0:Zr) (v3:Int) (v4:Int) (v5:Int)
def Zun(E0:Zr)(v3:Int)(v4:Int)(v5:Int):LT Zlh Int:=
.br (decide (v5 < 5)) (.idA (Zd.int .i64) (A5.list E0.Color) v5 (bx (Zae E0)) 2 7 fun x2=>.ldC (Zd.int .i64) 16 x2 0<|.br (decide (x2 > 0)) (.g0 (.L0 E0 (IntKind.wrap .i64 (v3+v4)) (IntKind.wrap .i64 (2*v4)) (IntKind.wrap .i64 (v5+1))))<|.g0 (.L0 E0 v3 (IntKind.wrap .i64 (2*v4)) (IntKind.wrap .i64 (v5+1))))<|.rt v3
def Z72(a0:Zr):LT Zlh Int:=
.lb 1001<|.call (Zsx a0) fun x1=>.br (!x1) (.rt 0)<|.go (.L0 a0 0 1 0) [.relab 1001 3000]
def Z73:LF Zlh Int := .m0 67 [.t 2] wI fun | .L0 E0 v3 v4 v5=>([1,1,1,1,0,1,4],⟨24,[(1,.bptr 3000 0),(3,wI v3),(4,wI v4),(5,wI v5)],[(3000,.box (bx (Zae E0)))]⟩,Zun E0 v3 v4 v5)
def Z33:=fun a0=>Z73.run (Z72 a0)
theorem Zamh(a0){r}(h:Z33 a0=some r):Fn PR 67 [wA (Zae a0)] (wI r):=Z73.fn h
inductive Zjz where
 | L0 (E0:Ze) (E1:Ze) (E2:Ze) (v4:Int)
def Zru(E0:Ze)(E1:Ze)(E2:Ze)(v4:Int):LT Zjz Ze:=
.len Zt E0.Effects<|.br (decide (v4 < (E0.Effects.length:Int))) (.idx Zt E0.Effects v4 fun x3=>.lb 1005<|.lb 1030<|.apR Zl 176 ([]:List Zh) x3.Mods fun x5=>.dr [.ahead 38,.pick [37,36,35,34,33,32,31,5,29,28,27,26,25,22,21,20,19,18,1,2,3,4] [1005,1030,3000,3001,40117,40148,40149,3002,40217,40248,40249],.frz 1030,.stop]<|.rl Zl x5<|.rl Zl x5<|.rl Zl x5<|.dr [.lit]<|.apR Zt 560 E2.Effects [(⟨x3.Op,x3.Ref,x3.Amount,x3.Counter,x3.Zone,x3.Card,x3.Filter,x3.Pool,x5⟩:Zs)] fun x8=>.g0 (.L0 E0 E1 (⟨E2.Kind,E2.Filter,E2.Mods,E2.Price,E2.Slow,E2.Trigger,E2.May,E2.Specs,x8,E2.Replace⟩:Ze) (IntKind.wrap .i64 (v4+1))))<|.ret E2 [.relab 40217 5017,.relab 40248 5048,.relab 40249 5049]
def Z5b(a0:Ze):LT Zjz Ze:=
.lb 1001<|.lb 1002<|.lb 1003<|.lb 1007<|.apR Zl 176 ([]:List Zh) a0.Mods fun x1=>.lb 1012<|.apR Zah 144 ([]:List Zat) a0.Specs fun x4=>.go (.L0 a0 (⟨0,(⟨0,0,0,0,0,0,0,([]:By),0,0,(⟨0,0⟩:Za),(⟨0,0⟩:Za),(⟨0,0⟩:Za)⟩:Zc),([]:List Zh),(⟨(⟨0,0,(⟨0,0,0,0,0⟩:A5 Int)⟩:Zr),false,false,0⟩:Zfq),false,(⟨0,0,(⟨0,0,0,0,0,0,0,([]:By),0,0,(⟨0,0⟩:Za),(⟨0,0⟩:Za),(⟨0,0⟩:Za)⟩:Zc)⟩:Zbx),false,([]:List Zat),([]:List Zs),(⟨0,0,(⟨0,0,0,0,0,0,0,([]:By),0,0,(⟨0,0⟩:Za),(⟨0,0⟩:Za),(⟨0,0⟩:Za)⟩:Zc),0,0,0,0⟩:Zas)⟩:Ze) (⟨a0.Kind,a0.Filter,x1,a0.Price,a0.Slow,a0.Trigger,a0.May,x4,([]:List Zs),a0.Replace⟩:Ze) 0) [.relab 1001 3000,.relab 1002 3001,.relab 1003 3002,.ownb 3001 17 40117 20,.ownb 3001 48 40148 18,.ownb 3001 49 40149 64,.relab 1007 40217,.relab 1012 40248,.ownb 3002 49 40249 64]
def Z5c:LF Zjz Ze := .m 68 [.c 2 89 true 72] true (fun r=>(tm18 r 5000)) (fun r=>(.agg (tm1 r 5000))) fun | .L0 E0 E1 E2 v4=>([1,1,1,1,1,0,1,4],⟨42,[(1,.bptr 3000 0),(2,.bptr 3001 0),(3,.bptr 3002 0),(4,wI v4)],((3000,.box (bx (Zi E0)))::(3001,.box (tm1 E1 40100))::(40117,wR Zl 20 E1.Mods)::(40148,wR Zah 18 E1.Specs)::(40149,wR Zt 64 E1.Effects)::(3002,.box (tm1 E2 40200))::(tm18 E2 40200))⟩,Zru E0 E1 E2 v4)
def Zsi:=fun a0=>Z5c.run (Z5b a0)
theorem Zahe(a0){r}(h:Zsi a0=some r):FnG PR 68 [] [wA (Zi a0)] (tm18 r 5000) (.agg (tm1 r 5000)):=Z5c.fn h
theorem Zajs(a0:Ze){r:Ze}(h:Zsi a0=some r):Fn PR 68 [wA (Zi a0)] (wA (Zi r)):=
 FnG.frozen (C:=LT.RL Zl r.Mods/\LT.RL Zah r.Specs/\LT.RL Zt r.Effects/\True) (Zahe a0 h) ⟨rfl,rfl,rfl,trivial⟩ (by kernel_rfl)
inductive Zj0 where
 | L0 (E0:Zk) (E1:Zb) (E2:Zb) (v4:Int)
def Zrv(E0:Zk)(E1:Zb)(E2:Zb)(v4:Int):LT Zj0 Zb:=
.len Zi E0.Abilities<|.br (decide (v4 < (E0.Abilities.length:Int))) (.idx Zi E0.Abilities v4 fun x3=>.call (Zajs x3) fun x5=>.dr [.lit]<|.apR Zi 640 E2.Abilities [x5] fun x7=>.g0 (.L0 E0 E1 (⟨E2.Name,E2.Cost,E2.Colors,E2.Line,E2.Power,E2.Tough,E2.Keys,x7,E2.Control⟩:Zb) (IntKind.wrap .i64 (v4+1))))<|.ret E2 [.relab 40211 5011,.relab 40215 5015]
def Z5d(a0:Zk):LT Zj0 Zb:=
.lb 1001<|.lb 1002<|.call (Zamh a0.Cost) fun x1=>.lb 1003<|.lb 1024<|.apR cS 16 ([]:Bys) a0.Line.Subs fun x3=>.go (.L0 a0 (⟨([]:By),(⟨0,0,(⟨0,0,0,0,0⟩:A5 Int)⟩:Zr),0,(⟨0,0,([]:Bys)⟩:Z6),0,0,0,([]:List Ze),0⟩:Zb) (⟨a0.Name,a0.Cost,Zax .or .i64 x1 a0.Color,(⟨a0.Line.Super,a0.Line.Types,x3⟩:Z6),a0.Power,a0.Tough,a0.Keys,([]:List Ze),0⟩:Zb) 0) [.relab 1001 3000,.relab 1002 3001,.relab 1003 3002,.ownb 3001 11 40111 1,.ownb 3001 15 40115 72,.relab 1024 40211,.ownb 3002 15 40215 72]
def Z5e:LF Zj0 Zb := .m 40 [.c 2 66 true 17] true (fun r=>[(5011,wR cS 1 r.Line.Subs),(5015,wR Zi 72 r.Abilities)]) (fun r=>(.agg (tm2 r 5000))) fun | .L0 E0 E1 E2 v4=>([1,1,1,0,1,4],⟨50,[(1,.bptr 3000 0),(2,.bptr 3001 0),(3,.bptr 3002 0),(4,wI v4)],[(3000,.box (bx (Zu E0))),(3001,.box (tm2 E1 40100)),(40111,wR cS 1 E1.Line.Subs),(40115,wR Zi 72 E1.Abilities),(3002,.box (tm2 E2 40200)),(40211,wR cS 1 E2.Line.Subs),(40215,wR Zi 72 E2.Abilities)]⟩,Zrv E0 E1 E2 v4)
def Z08:=fun a0=>Z5e.run (Z5d a0)
theorem Zahf(a0){r}(h:Z08 a0=some r):FnG PR 40 [] [wA (Zu a0)] [(5011,wR cS 1 r.Line.Subs),(5015,wR Zi 72 r.Abilities)] (.agg (tm2 r 5000)):=Z5e.fn h
inductive Zrw where
 | L0 (v0:List Zk) (E0:Zf) (E1:Zb) (v5:Int)
 | L1 (E0:Zf) (E1:Zb) (E2:Zb)
def Zon(E0:Zf)(E1:Zb)(E2:Zb):LT Zrw Zb:=
.cs (E0.Zone==0) (.k4 0<|.kn [0]<|.ret (⟨E2.Name,E2.Cost,E2.Colors,E2.Line,E2.Power,E2.Tough,E2.Keys,E2.Abilities,E0.Control⟩:Zb) [.relab 40211 5011,.relab 40215 5015])<|.k4 0<|.br (E0.Zone==5) (.ret (⟨E2.Name,E2.Cost,E2.Colors,E2.Line,E2.Power,E2.Tough,E2.Keys,E2.Abilities,E0.Control⟩:Zb) [.relab 40211 5011,.relab 40215 5015])<|.ret (⟨E2.Name,E2.Cost,E2.Colors,E2.Line,E2.Power,E2.Tough,E2.Keys,E2.Abilities,E0.Owner⟩:Zb) [.relab 40211 5011,.relab 40215 5015]
def Ztx(v0:List Zk)(E0:Zf)(E1:Zb)(v5:Int):LT Zrw Zb:=
.lb 1006<|.cs (decide (v5>=0)) (.k3 0<|.len Zu v0<|.k2 0<|.br (decide (v5 < (v0.length:Int))) (.idx Zu v0 v5 fun x4=>.callF (Zahf x4) 260000 fun x6=>.jn 0 (.L1 E0 E1 x6) [.relab 1006 3002,.relab 265011 40211,.relab 265015 40215] (Zon E0 E1 x6))<|.jn 0 (.L1 E0 E1 (⟨([]:By),(⟨0,0,(⟨0,0,0,0,0⟩:A5 Int)⟩:Zr),0,(⟨0,0,([]:Bys)⟩:Z6),0,0,0,([]:List Ze),0⟩:Zb)) (tm16 1000 3000 40200) (Zon E0 E1 (⟨([]:By),(⟨0,0,(⟨0,0,0,0,0⟩:A5 Int)⟩:Zr),0,(⟨0,0,([]:Bys)⟩:Z6),0,0,0,([]:List Ze),0⟩:Zb)))<|.k5 0<|.kn [0]<|.jn 0 (.L1 E0 E1 (⟨([]:By),(⟨0,0,(⟨0,0,0,0,0⟩:A5 Int)⟩:Zr),0,(⟨0,0,([]:Bys)⟩:Z6),0,0,0,([]:List Ze),0⟩:Zb)) (tm16 1000 3000 40200) (Zon E0 E1 (⟨([]:By),(⟨0,0,(⟨0,0,0,0,0⟩:A5 Int)⟩:Zr),0,(⟨0,0,([]:Bys)⟩:Z6),0,0,0,([]:List Ze),0⟩:Zb))
def Zaq8(a0:List Zk)(a1:Zf):LT Zrw Zb:=
.lb 1003<|.lb 1004<|.br (decide (a1.Copy < 0)) (.jn 0 (.L0 a0 a1 (⟨([]:By),(⟨0,0,(⟨0,0,0,0,0⟩:A5 Int)⟩:Zr),0,(⟨0,0,([]:Bys)⟩:Z6),0,0,0,([]:List Ze),0⟩:Zb) a1.Card) (tm15 1000 3000 40100) (Ztx a0 a1 (⟨([]:By),(⟨0,0,(⟨0,0,0,0,0⟩:A5 Int)⟩:Zr),0,(⟨0,0,([]:Bys)⟩:Z6),0,0,0,([]:List Ze),0⟩:Zb) a1.Card))<|.jn 0 (.L0 a0 a1 (⟨([]:By),(⟨0,0,(⟨0,0,0,0,0⟩:A5 Int)⟩:Zr),0,(⟨0,0,([]:Bys)⟩:Z6),0,0,0,([]:List Ze),0⟩:Zb) a1.Copy) (tm15 1000 3000 40100) (Ztx a0 a1 (⟨([]:By),(⟨0,0,(⟨0,0,0,0,0⟩:A5 Int)⟩:Zr),0,(⟨0,0,([]:Bys)⟩:Z6),0,0,0,([]:List Ze),0⟩:Zb) a1.Copy)
def Zaq9:LF Zrw Zb := .m 22 [.c 4 66 true 17] true (fun r=>[(5011,wR cS 1 r.Line.Subs),(5015,wR Zi 72 r.Abilities)]) (fun r=>(.agg (tm2 r 5000))) fun | .L0 v0 E0 E1 v5=>([1,1,1],⟨41,[(0,wL Zu v0),(3,.bptr 3000 0),(4,.bptr 3001 0),(5,wI v5)],[(3000,.box (bx (Zj E0))),(3001,.box (tm2 E1 40100)),(40111,wR cS 1 E1.Line.Subs),(40115,wR Zi 72 E1.Abilities)]⟩,Ztx v0 E0 E1 v5) | .L1 E0 E1 E2=>([1,1,1,1,1],⟨41,[(3,.bptr 3000 0),(4,.bptr 3001 0),(6,.bptr 3002 0)],[(3000,.box (bx (Zj E0))),(3001,.box (tm2 E1 40100)),(40111,wR cS 1 E1.Line.Subs),(40115,wR Zi 72 E1.Abilities),(3002,.box (tm2 E2 40200)),(40211,wR cS 1 E2.Line.Subs),(40215,wR Zi 72 E2.Abilities)]⟩,Zon E0 E1 E2)
def Zahg:=fun a0 a1=>Zaq9.run (Zaq8 a0 a1)
theorem Zawb(a0)(a1){r}(h:Zahg a0 a1=some r):FnG PR 22 [] [wL Zu a0,wA (Zj a1)] [(5011,wR cS 1 r.Line.Subs),(5015,wR Zi 72 r.Abilities)] (.agg (tm2 r 5000)):=Zaq9.fn h
theorem Zays(a0:List Zk)(a1:Zf){r:Zb}(h:Zahg a0 a1=some r):Fn PR 22 [wL Zu a0,wA (Zj a1)] (wA (Zg r)):=
 FnG.frozen (C:=LT.RL cS r.Line.Subs/\LT.RL Zi r.Abilities/\True) (Zawb a0 a1 h) ⟨rfl,rfl,trivial⟩ (by kernel_rfl)
inductive Zg1 where
 | L0 (v0:List Zk) (E0:Zo) (v5:List Z2) (v6:Int)
 | L1 (v0:List Zk) (E0:Zo) (v5:List Z2) (v6:Int) (E1:Zf) (E2:Zb) (v9:Int)
 | L2 (E0:Zo) (v5:List Z2) (v11:Int)
def Zuo(v0:List Zk)(E0:Zo)(v5:List Z2)(v6:Int):LT Zg1 (List Z2):=
.len Zj E0.Objects<|.br (decide (v6 < (E0.Objects.length:Int))) (.idx Zj E0.Objects v6 fun x3=>.lb 1007<|.br (x3.Zone != 0) (.g0 (.L0 v0 E0 v5 (IntKind.wrap .i64 (v6+1))))<|.call (Zays v0 x3) fun x8=>.lb 1008<|.go (.L1 v0 E0 v5 v6 x3 x8 0) [.relab 1007 3001,.relab 1008 3002])<|.g0 (.L2 E0 v5 0)
def Zup(v0:List Zk)(E0:Zo)(v5:List Z2)(v6:Int)(E1:Zf)(E2:Zb)(v9:Int):LT Zg1 (List Z2):=
.len Zi E2.Abilities<|.br (decide (v9 < (E2.Abilities.length:Int))) (.idx Zi E2.Abilities v9 fun x3=>.lb 1010<|.br (x3.Kind==1) (.dr [.lit]<|.apR Zab 224 v5 [(⟨E1.Id,v9,E1.Control,E1.Stamp,false,([]:List Int),x3.Filter,x3.Mods⟩:Z2)] fun x6=>.g0 (.L1 v0 E0 x6 v6 E1 E2 (IntKind.wrap .i64 (v9+1))))<|.g0 (.L1 v0 E0 v5 v6 E1 E2 (IntKind.wrap .i64 (v9+1))))<|.g0 (.L0 v0 E0 v5 (IntKind.wrap .i64 (v6+1)))
def Zuq(E0:Zo)(v5:List Z2)(v11:Int):LT Zg1 (List Z2):=
.len Zba E0.Conts<|.br (decide (v11 < (E0.Conts.length:Int))) (.idx Zba E0.Conts v11 fun x3=>.lb 1012<|.dr [.lit]<|.apR Zab 224 v5 [(⟨x3.Source,-1,x3.Control,x3.Stamp,true,x3.Objects,(⟨0,0,0,0,0,0,0,([]:By),0,0,(⟨0,0⟩:Za),(⟨0,0⟩:Za),(⟨0,0⟩:Za)⟩:Zc),x3.Mods⟩:Z2)] fun x5=>.g0 (.L2 E0 x5 (IntKind.wrap .i64 (v11+1))))<|.ret v5 [.relab 20005 5000]
def Z74(a0:List Zk)(a1:Zo):LT Zg1 (List Z2):=
.lb 1003<|.lb 1013<|.go (.L0 a0 a1 ([]:List Z2) 0) [.relab 1003 3000,.relab 1013 20005]
def Z75:LF Zg1 (List Z2) := .m 13 [.t 4] true (fun r=>[(5000,wR Zab 23 r)]) (fun r=>(wO Zab 5000 r)) fun | .L0 v0 E0 v5 v6=>([1,1,0,1,4],⟨89,[(0,wL Zu v0),(3,.bptr 3000 0),(5,wO Zab 20005 v5),(6,wI v6)],[(3000,.box (bx (Z1 E0))),(20005,wR Zab 23 v5)]⟩,Zuo v0 E0 v5 v6) | .L1 v0 E0 v5 v6 E1 E2 v9=>([1,1,0,1,4,5,1,0,4,1,1,1,1,4],⟨89,[(0,wL Zu v0),(3,.bptr 3000 0),(5,wO Zab 20005 v5),(6,wI v6),(7,.bptr 3001 0),(8,.bptr 3002 0),(9,wI v9)],[(3000,.box (bx (Z1 E0))),(20005,wR Zab 23 v5),(3001,.box (bx (Zj E1))),(3002,.box (bx (Zg E2)))]⟩,Zup v0 E0 v5 v6 E1 E2 v9) | .L2 E0 v5 v11=>([1,1,1,0,1,4],⟨89,[(3,.bptr 3000 0),(5,wO Zab 20005 v5),(11,wI v11)],[(3000,.box (bx (Z1 E0))),(20005,wR Zab 23 v5)]⟩,Zuq E0 v5 v11)
def Zv5:=fun a0 a1=>Z75.run (Z74 a0 a1)
theorem Zajt(a0)(a1){r}(h:Zv5 a0 a1=some r):FnG PR 13 [] [wL Zu a0,wA (Z1 a1)] [(5000,wR Zab 23 r)] (wO Zab 5000 r):=Z75.fn h
theorem Zami(a0:List Zk)(a1:Zo){r:List Z2}(h:Zv5 a0 a1=some r):Fn PR 13 [wL Zu a0,wA (Z1 a1)] (wL Zab r):=
 FnG.frozen (C:=LT.RL Zab r/\True) (Zajt a0 a1 h) ⟨rfl,trivial⟩ (by kernel_rfl)
inductive Zqc where
 | L0 (v0:List Int) (v1:List Int) (v5:Int)
def Z09(v0:List Int)(v1:List Int)(v5:Int):LT Zqc Bool:=
.len (cI .i64) v0<|.br (decide (v5 < (v0.length:Int))) (.idx (cI .i64) v0 v5 fun x3=>.idx (cI .i64) v1 v5 fun x5=>.br (x3 != x5) (.rt false)<|.g0 (.L0 v0 v1 (IntKind.wrap .i64 (v5+1))))<|.rt true
def Zahh(a0:List Int)(a1:List Int):LT Zqc Bool:=
.len (cI .i64) a0<|.len (cI .i64) a1<|.br ((a0.length:Int) != (a1.length:Int)) (.rt false)<|.g0 (.L0 a0 a1 0)
def Zahi:LF Zqc Bool := .m0 14 [.t 4] wB fun | .L0 v0 v1 v5=>([1,1,0,1,4],⟨26,[(0,wL (cI .i64) v0),(1,wL (cI .i64) v1),(5,wI v5)],[]⟩,Z09 v0 v1 v5)
def Zadg:=fun a0 a1=>Zahi.run (Zahh a0 a1)
theorem Zatr(a0)(a1){r}(h:Zadg a0 a1=some r):Fn PR 14 [wL (cI .i64) a0,wL (cI .i64) a1] (wB r):=Zahi.fn h
inductive Ziv where
 | L0 (v0:List Zh) (v1:List Zh) (v5:Int)
def Zqd(v0:List Zh)(v1:List Zh)(v5:Int):LT Ziv Bool:=
.len Zl v0<|.br (decide (v5 < (v0.length:Int))) (.idx Zl v0 v5 fun x3=>.idx Zl v1 v5 fun x5=>.br (!(Zac (Zl x3) (Zl x5))) (.rt false)<|.g0 (.L0 v0 v1 (IntKind.wrap .i64 (v5+1))))<|.rt true
def Z2y(a0:List Zh)(a1:List Zh):LT Ziv Bool:=
.len Zl a0<|.len Zl a1<|.br ((a0.length:Int) != (a1.length:Int)) (.rt false)<|.g0 (.L0 a0 a1 0)
def Z2z:LF Ziv Bool := .m0 15 [.t 4] wB fun | .L0 v0 v1 v5=>([1,1,0,1,4],⟨26,[(0,wL Zl v0),(1,wL Zl v1),(5,wI v5)],[]⟩,Zqd v0 v1 v5)
def Zx9:=fun a0 a1=>Z2z.run (Z2y a0 a1)
theorem Zahj(a0)(a1){r}(h:Zx9 a0 a1=some r):Fn PR 15 [wL Zl a0,wL Zl a1] (wB r):=Z2z.fn h
inductive Zgf where
 | L0 (v5:List Zad) (v6:List Z2) (v7:Int)
def Zli(v5:List Zad)(v6:List Z2)(v7:Int):LT Zgf Bool:=
.len Zx v5<|.br (decide (v7 < (v5.length:Int))) (.idx Zx v5 v7 fun x3=>.idx Zab v6 v7 fun x5=>.lb 1008<|.lb 1009<|.cs (x3.Source != x5.Source) (.k5 1<|.kg 1<|.b16 true<|.b16 true<|.b5 true<|.kb true<|.kn [0]<|.rt false)<|.k5 1<|.kg 1<|.cs (x3.Ability != x5.Ability) (.k5 2<|.kg 2<|.b16 true<|.b16 true<|.kn [0]<|.rt false)<|.k5 2<|.kg 2<|.cs (x3.Control != x5.Control) (.k5 3<|.kg 3<|.b16 true<|.b8 true<|.b2 true<|.kn [0]<|.rt false)<|.k5 3<|.kg 3<|.cs (x3.Stamp != x5.Stamp) (.k5 4<|.kg 4<|.b16 true<|.b4 true<|.kn [0]<|.rt false)<|.k5 4<|.kg 4<|.cs (!(x3.Fixed==x5.Fixed)) (.k5 5<|.kg 5<|.b8 true<|.b5 true<|.kb true<|.kn [0]<|.rt false)<|.k5 5<|.kg 5<|.cs (!(Zac (Zn x3.Filter) (Zn x5.Filter))) (.k5 6<|.k2 6<|.b5 true<|.b2 true<|.kn [0]<|.rt false)<|.k5 6<|.call (Zatr x3.Objects x5.Objects) fun x13=>.k2 6<|.cs (!x13) (.k5 7<|.k2 7<|.kn [0]<|.rt false)<|.k5 7<|.call (Zahj x3.Mods x5.Mods) fun x16=>.k2 7<|.br (!x16) (.rt false)<|.g0 (.L0 v5 v6 (IntKind.wrap .i64 (v7+1))))<|.call (Z71) fun x21=>.rt x21
def Zvp(a0:List Zk)(a1:Zo):LT Zgf Bool:=
.lb 1003<|.call (Zaqu a0 a1) fun x1=>.br (!x1) (.call (Z71) fun x4=>.rt x4)<|.call (Zp0 a0 a1) fun x6=>.call (Zami a0 a1) fun x8=>.len Zx x6<|.len Zab x8<|.br ((x6.length:Int) != (x8.length:Int)) (.rt false)<|.g0 (.L0 x6 x8 0)
def Zvq:LF Zgf Bool := .m0 3 [.t 4] wB fun | .L0 v5 v6 v7=>([1,1,1,1,0,1,4],⟨97,[(5,wL Zx v5),(6,wL Zab v6),(7,wI v7)],[]⟩,Zli v5 v6 v7)
def Zqe:=fun a0 a1=>Zvq.run (Zvp a0 a1)
theorem Z76(a0)(a1){r}(h:Zqe a0 a1=some r):Fn PR 3 [wL Zu a0,wA (Z1 a1)] (wB r):=Zvq.fn h
def Zabl(a0:Int):LT Empty Int:=
.br (decide (a0 > 1000000)) (.rt 1000000)<|.br (decide (a0 < (-1000000))) (.rt (-1000000))<|.rt a0
def Zabm:LF Empty Int := .z0 69 [.t 2] wI
def Z77:=fun a0=>Zabm.run (Zabl a0)
theorem Ziw(a0){r}(h:Z77 a0=some r):Fn PR 69 [wI a0] (wI r):=Zabm.fn h
end
end Go.PW
