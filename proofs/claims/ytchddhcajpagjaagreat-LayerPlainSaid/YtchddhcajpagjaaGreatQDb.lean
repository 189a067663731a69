import Derived.Test.YtchddhcajpagjaaGreatQDa
set_option linter.all false
set_option maxRecDepth 100000
namespace Go.PW
open Go.RowKit
noncomputable section
inductive Znc where
 | L0 (v0:List Zl) (E0:Ze) (v19:List Zf) (v20:Int) (v21:Int)
def Z6w(v0:List Zl)(E0:Ze)(v19:List Zf)(v20:Int)(v21:Int):LT Znc Ze:=
.br (decide (v21 < v20)) (.idx Zn v19 v21 fun x2=>.lb 1007<|.call (Zamz v0 x2) fun x4=>.dr [.lit]<|.apR Zj 176 E0.traits [x4] fun x6=>.g0 (.L0 v0 (⟨E0.s,E0.forces,x6,E0.dropped,E0.done,E0.hits⟩:Ze) v19 v20 (IntKind.wrap .i64 (v21+1))))<|.len Z6 E0.forces<|.mk cB 1045 1 false (E0.forces.length:Int) (E0.forces.length:Int) fun x12=>.len Z6 E0.forces<|.mk (cL (cI .i64)) 1051 24 [] (E0.forces.length:Int) (E0.forces.length:Int) fun x14=>.ret (⟨E0.s,E0.forces,E0.traits,E0.dropped,x12,x14⟩:Ze) [.relab 3000 5000,.relab 40020 5021,.relab 40021 5022,.relab 1045 5023,.relab 1051 5024]
def Z9t(a0:List Zl)(a1:Zm):LT Znc Ze:=
.lb 1003<|.call (Ztr a0 a1) fun x1=>.len Zn a1.Objects<|.mk cB 1015 1 false (a1.Objects.length:Int) (a1.Objects.length:Int) fun x4=>.lb 1017<|.len Zn a1.Objects<|.go (.L0 a0 (⟨a1,x1,([]:List Za),x4,([]:List Bool),([]:List (List Int))⟩:Ze) a1.Objects (a1.Objects.length:Int) 0) [.relab 1017 3000,.ownb 3000 20 40020 17,.relab 1015 40021,.ownb 3000 22 40022 1,.ownb 3000 23 40023 1]
def Zx9:LF Znc Ze := .m 34 [.t 4] true (fun r=>[(5000,.box (tm5 r 5000)),(5021,wR Zj 17 r.traits),(5022,wR cB 1 r.dropped),(5023,wR cB 1 r.done),(5024,wR (cL (cI .i64)) 1 r.hits)]) (fun r=>(.bptr 5000 0)) fun | .L0 v0 E0 v19 v20 v21=>([1,1,0,1,4],⟨57,[(0,wL Zw v0),(5,.bptr 3000 0),(19,wL Zn v19),(20,wI v20),(21,wI v21)],((3000,.box (tm7 E0 40000))::(tm19 E0 40000))⟩,Z6w v0 E0 v19 v20 v21)
def Zahb:=fun a0 a1=>Zx9.run (Z9t a0 a1)
theorem Zam0(a0)(a1){r}(h:Zahb a0 a1=some r):FnG PR 34 [] [wL Zw a0,wA (Zae a1)] [(5000,.box (tm5 r 5000)),(5021,wR Zj 17 r.traits),(5022,wR cB 1 r.dropped),(5023,wR cB 1 r.done),(5024,wR (cL (cI .i64)) 1 r.hits)] (.bptr 5000 0):=Zx9.fn h
def Z5a(a0:Int):LT Empty Int:=
.rt (Z7t (Z0a a0 (-1000000)) 1000000)
def Zahc:LF Empty Int := .z0 143 [.t 2] wI
def Z3j:=fun a0=>Zahc.run (Z5a a0)
theorem Zek(a0){r}(h:Z3j a0=some r):Fn PR 143 [wI a0] (wI r):=Zahc.fn h
def Zar6(a0:Int)(a1:Int):LT Empty Int:=
.call (Zek a0) fun x1=>.call (Zek a1) fun x3=>.call (Zek (IntKind.wrap .i64 (x1 - x3))) fun x7=>.rt x7
def Zar7:LF Empty Int := .z0 142 [.t 4] wI
def Za19:=fun a0 a1=>Zar7.run (Zar6 a0 a1)
theorem Za35(a0)(a1){r}(h:Za19 a0 a1=some r):Fn PR 142 [wI a0,wI a1] (wI r):=Zar7.fn h
def Z3k(a0:A3 Int):LT Empty Int:=
.lb 1001<|.idA (Zh.int .i64) (A3.list a0) 0 (bx ((cA3 (cI .i64)) a0)) 0 3 fun x1=>.ldC (Zh.int .i64) 4 x1 0<|.idA (Zh.int .i64) (A3.list a0) 1 (bx ((cA3 (cI .i64)) a0)) 0 3 fun x3=>.ldC (Zh.int .i64) 6 x3 1<|.call (Za35 x1 x3) fun x5=>.rt x5
def Z3l:LF Empty Int := .z0 91 [.t 2] wI
def Z9u:=fun a0=>Z3l.run (Z3k a0)
theorem Zai5(a0){r}(h:Z9u a0=some r):Fn PR 91 [wA ((cA3 (cI .i64)) a0)] (wI r):=Z3l.fn h
def Zac0(a0:Int)(a1:Int):LT Empty Int:=
.call (Zek a0) fun x1=>.call (Zek a1) fun x3=>.call (Zek (IntKind.wrap .i64 (x1+x3))) fun x7=>.rt x7
def Zar8:LF Empty Int := .z0 92 [.t 4] wI
def Zaet:=fun a0 a1=>Zar8.run (Zac0 a0 a1)
theorem Zts(a0)(a1){r}(h:Zaet a0 a1=some r):Fn PR 92 [wI a0,wI a1] (wI r):=Zar8.fn h
inductive Zkz where
 | L0 (v0:Int) (v3:Int) (v6:Bool)
 | L1 (v0:Int) (v3:Int) (v11:Bool)
 | L2 (v0:Int) (v3:Int) (v14:Bool)
def Zls(v0:Int)(v3:Int)(v14:Bool):LT Zkz Int:=
.br v14 (.rt 4)<|.br (v3==11) (.kn [2]<|.rt (IntKind.wrap .i64 ((IntKind.wrap .i64 (5+v0)) - 11)))<|.br (v3==12) (.kn [3]<|.rt (IntKind.wrap .i64 ((IntKind.wrap .i64 (5+v0)) - 11)))<|.br (v3==13) (.kn [4]<|.rt (IntKind.wrap .i64 ((IntKind.wrap .i64 (5+v0)) - 11)))<|.br (v3==14) (.rt (IntKind.wrap .i64 ((IntKind.wrap .i64 (5+v0)) - 11)))<|.rt 0
def Zo4(v0:Int)(v3:Int)(v11:Bool):LT Zkz Int:=
.br v11 (.rt 3)<|.br (v3==8) (.j0 (.L2 v0 v3 (v3==8)) (Zls v0 v3 (v3==8)))<|.br (v3==9) (.j0 (.L2 v0 v3 (v3==9)) (Zls v0 v3 (v3==9)))<|.j0 (.L2 v0 v3 (v3==10)) (Zls v0 v3 (v3==10))
def Zje(v0:Int)(v3:Int)(v6:Bool):LT Zkz Int:=
.br v6 (.rt 2)<|.br (v3==6) (.j0 (.L1 v0 v3 (v3==6)) (Zo4 v0 v3 (v3==6)))<|.j0 (.L1 v0 v3 (v3==7)) (Zo4 v0 v3 (v3==7))
def Zahd(a0:Int):LT Zkz Int:=
.br (a0==1) (.rt 1)<|.br (a0==2) (.j0 (.L0 a0 a0 (a0==2)) (Zje a0 a0 (a0==2)))<|.br (a0==3) (.j0 (.L0 a0 a0 (a0==3)) (Zje a0 a0 (a0==3)))<|.br (a0==4) (.j0 (.L0 a0 a0 (a0==4)) (Zje a0 a0 (a0==4)))<|.j0 (.L0 a0 a0 (a0==5)) (Zje a0 a0 (a0==5))
def Zahe:LF Zkz Int := .m0 95 [.t 2] wI fun | .L0 v0 v3 v6=>([1,0,1,4,1,3,1],⟨26,[(0,wI v0),(3,wI v3),(6,wB v6)],[]⟩,Zje v0 v3 v6) | .L1 v0 v3 v11=>([1,0,1,4,1,3,1,3,1],⟨26,[(0,wI v0),(3,wI v3),(11,wB v11)],[]⟩,Zo4 v0 v3 v11) | .L2 v0 v3 v14=>([1,0,1,4,1,3,1,3,1,3,1],⟨26,[(0,wI v0),(3,wI v3),(14,wB v14)],[]⟩,Zls v0 v3 v14)
def Zar9:=fun a0=>Zahe.run (Zahd a0)
theorem Ztt(a0){r}(h:Zar9 a0=some r):Fn PR 95 [wI a0] (wI r):=Zahe.fn h
def Zq5(a0:Zc)(b0:Int):LT Empty Bool:=
.lb 1002<|.call (Ztt a0.Kind) fun x1=>.rt (x1==b0)
def Zq6(b0:Int):LF Empty Bool := .z 94 [.t 3] true (fun r=>[(0,.box (bx ((cI .i64) b0)))]) (fun r=>(wB r))
def Ztu(a0:Zc)(b0:Int):Option Bool:=(Zq6 b0).run (Zq5 a0 b0)
theorem Z03(a0:Zc)(b0:Int){r:Bool}(h:Ztu a0 b0=some r):FnG PR 94 [(0,.box (bx ((cI .i64) b0)))] [wA (Zk a0),.bptr 0 0] [(0,.box (bx ((cI .i64) b0)))] (wB r):=(Zq6 b0).fn h
inductive Zax where
 | L0 (v0:List Zc) (c0:Int) (v7:Int) (v8:Int)
def Zdl(v0:List Zc)(c0:Int)(v7:Int)(v8:Int):LT Zax (Int×Int):=
.br (decide (v8 < v7)) (.idx Zk v0 v8 fun x2=>.callO (Z03 x2 c0) [0] 170000 (fun x=>[]) fun x4=>.br x4 (.rt (v8,c0))<|.g0 (.L0 v0 c0 v7 (IntKind.wrap .i64 (v8+1))))<|.rt ((-1),c0)
def Zdr(a0:List Zc)(b0:Int):LT Zax (Int×Int):=
.len Zk a0<|.g0 (.L0 a0 b0 (a0.length:Int) 0)
def Zbu:LF Zax (Int×Int) := .m 144 [.t 4] true (fun r=>[(0,.box (bx ((cI .i64) r.2)))]) (fun r=>(wI r.1)) fun | .L0 v0 c0 v7 v8=>([1,0,1,4],⟨19,[(0,wL Zk v0),(1,.fn 94 [.bptr 0 0]),(7,wI v7),(8,wI v8)],[(0,.box (bx ((cI .i64) c0)))]⟩,Zdl v0 c0 v7 v8)
def Zd1:=fun a0 b0=>Zbu.run (Zdr a0 b0)
theorem Zg0(a0)(b0){r}(h:Zd1 a0 b0=some r):FnG PR 144 [(0,.box (bx ((cI .i64) b0)))] [wL Zk a0,.fn 94 [.bptr 0 0]] [(0,.box (bx ((cI .i64) r.2)))] (wI r.1):=Zbu.fn h
def Zdg(a0:List Zc)(b0:Int):LT Empty (Bool×Int):=
.callU (Zg0 a0 b0) [0] 80000 fun x1=>.rt (decide (x1.1>=0),x1.2)
def Zdh:LF Empty (Bool×Int) := .z 93 [.t 4] true (fun r=>[(0,.box (bx ((cI .i64) r.2)))]) (fun r=>(wB r.1))
def Zdm:=fun a0 b0=>Zdh.run (Zdg a0 b0)
theorem Zgq(a0)(b0){r}(h:Zdm a0 b0=some r):FnG PR 93 [(0,.box (bx ((cI .i64) b0)))] [wL Zk a0,.fn 94 [.bptr 0 0]] [(0,.box (bx ((cI .i64) r.2)))] (wB r.1):=Zdh.fn h
def Z3m(a0:Z0)(a1:Int):LT Empty Bool:=
.lb 1002<|.lb 1003<|.callU (Zgq a0.Mods a1) [1003] 90000 fun x1=>.rt x1.1
def Z3n:LF Empty Bool := .z0 53 [.t 4] wB
def Z9v:=fun a0 a1=>Z3n.run (Z3m a0 a1)
theorem Zai6(a0)(a1){r}(h:Z9v a0 a1=some r):Fn PR 53 [wA (Z6 a0),wI a1] (wB r):=Z3n.fn h
inductive Zig where
 | L0 (v1:Int) (E0:Zg) (v5:Bool)
def Zhs(v1:Int)(E0:Zg)(v5:Bool):LT Zig Bool:=
.br (v1==1) (.rt (E0.Who != 0))<|.br (v1==2) (.cs ((Zau .or .i64 E0.Types E0.NotTypes) != 0) (.k4 2<|.b2 true<|.rt true)<|.k4 2<|.cs (!(E0.Sub==([]:By))) (.k2 3<|.rt true)<|.k2 3<|.rt v5)<|.br (v1==3) (.rt ((Zau .or .i64 E0.Colors E0.NotColors) != 0))<|.br (v1==4) (.rt (E0.Keys != 0))<|.rt v5
def Zzf(a0:Zg)(a1:Int):LT Zig Bool:=
.lb 1002<|.cs (a0.Power.Kind != 0) (.k5 0<|.jn 0 (.L0 a1 a0 true) [.relab 1002 3000] (Zhs a1 a0 true))<|.k5 0<|.jn 0 (.L0 a1 a0 (a0.Tough.Kind != 0)) [.relab 1002 3000] (Zhs a1 a0 (a0.Tough.Kind != 0))
def Zzg:LF Zig Bool := .m0 150 [.t 4] wB fun | .L0 v1 E0 v5=>([1,1],⟨52,[(1,wI v1),(2,.bptr 3000 0),(5,wB v5)],[(3000,.box (bx (Zo E0)))]⟩,Zhs v1 E0 v5)
def Z3o:=fun a0 a1=>Zzg.run (Zzf a0 a1)
theorem Zxc(a0)(a1){r}(h:Z3o a0 a1=some r):Fn PR 150 [wA (Zo a0),wI a1] (wB r):=Zzg.fn h
def Z04(a0:Int):LT Empty Bool:=
.rt (a0 != a0)
def Z05:LF Empty Bool := .z0 119 [.t 2] wB
def Z6x:=fun a0=>Z05.run (Z04 a0)
theorem Zzh(a0){r}(h:Z6x a0=some r):Fn PR 119 [wI a0] (wB r):=Z05.fn h
def Zxd(a0:Int)(a1:Int):LT Empty Int:=
.call (Zzh a0) fun x1=>.call (Zzh a1) fun x3=>.br x1 (.br x3 (.rt 0)<|.rt (-1))<|.br x3 (.rt 1)<|.br (decide (a0 < a1)) (.rt (-1))<|.br (decide (a0 > a1)) (.rt 1)<|.rt 0
def Zxe:LF Empty Int := .z0 72 [.t 4] wI
def Z06:=fun a0 a1=>Zxe.run (Zxd a0 a1)
theorem Zaa3(a0)(a1){r}(h:Z06 a0 a1=some r):Fn PR 72 [wI a0,wI a1] (wI r):=Zxe.fn h
def Z3p(a0:Zf)(a1:Int):LT Empty Int:=
.lb 1002<|.call (Zaa3 a0.Id a1) fun x1=>.rt x1
def Z3q:LF Empty Int := .z0 71 [.t 4] wI
def Z9w:=fun a0 a1=>Z3q.run (Z3p a0 a1)
theorem Z07(a0)(a1){r}(h:Z9w a0 a1=some r):Fn PR 71 [wA (Zn a0),wI a1] (wI r):=Z3q.fn h
inductive Zah where
 | L0 (v0:List Zf) (v1:Int) (v8:Int) (v9:Int) (v10:Int)
def Zby(v0:List Zf)(v1:Int)(v8:Int)(v9:Int)(v10:Int):LT Zah (Int×Bool):=
.br (decide (v9 < v10)) (.dc (¬ (1:Int) < 0) rfl<|.idx Zn v0 (IntKind.wrap .i64 (shrI .u64 (IntKind.wrap .u64 (IntKind.wrap .i64 (v9+v10))) 1)) fun x7=>.call (Z07 x7 v1) fun x9=>.br (decide (x9 < 0)) (.g0 (.L0 v0 v1 v8 (IntKind.wrap .i64 ((IntKind.wrap .i64 (shrI .u64 (IntKind.wrap .u64 (IntKind.wrap .i64 (v9+v10))) 1))+1)) v10))<|.g0 (.L0 v0 v1 v8 v9 (IntKind.wrap .i64 (shrI .u64 (IntKind.wrap .u64 (IntKind.wrap .i64 (v9+v10))) 1))))<|.cs (decide (v9 < v8)) (.k4 1<|.idx Zn v0 v9 fun x15=>.k3 1<|.call (Z07 x15 v1) fun x17=>.k2 1<|.rt (v9,x17==0))<|.k8 1<|.kg 1<|.rt (v9,false)
def Zb7(a0:List Zf)(a1:Int):LT Zah (Int×Bool):=
.len Zn a0<|.g0 (.L0 a0 a1 (a0.length:Int) 0 (a0.length:Int))
def Zbb:LF Zah (Int×Bool) := .m0 70 [.t 6,.t 7] (fun r=>(.tup [wI r.1,wB r.2])) fun | .L0 v0 v1 v8 v9 v10=>([1,1,1,0,4],⟨49,[(0,wL Zn v0),(1,wI v1),(2,.fn 71 []),(8,wI v8),(9,wI v9),(10,wI v10)],[]⟩,Zby v0 v1 v8 v9 v10)
def Zcd:=fun a0 a1=>Zbb.run (Zb7 a0 a1)
theorem Zet(a0)(a1){r}(h:Zcd a0 a1=some r):Fn PR 70 [wL Zn a0,wI a1,.fn 71 []] (.tup [wI r.1,wB r.2]):=Zbb.fn h
def Z9x(a0:Zm)(a1:Int):LT Empty Int:=
.lb 1002<|.call (Zet a0.Objects a1) fun x1=>.br (!x1.2) (.rt (-1))<|.rt x1.1
def Z9y:LF Empty Int := .z0 42 [.t 4] wI
def Zahf:=fun a0 a1=>Z9y.run (Z9x a0 a1)
theorem Z6y(a0)(a1){r}(h:Zahf a0 a1=some r):Fn PR 42 [wA (Zae a0),wI a1] (wI r):=Z9y.fn h
inductive Zed where
 | L0 (v0:List Int) (v1:Int) (v7:Int) (v8:Int)
def Znd(v0:List Int)(v1:Int)(v7:Int)(v8:Int):LT Zed Int:=
.br (decide (v8 < v7)) (.idx (cI .i64) v0 v8 fun x2=>.br (v1==x2) (.rt v8)<|.g0 (.L0 v0 v1 v7 (IntKind.wrap .i64 (v8+1))))<|.rt (-1)
def Zn7(a0:List Int)(a1:Int):LT Zed Int:=
.len (cI .i64) a0<|.g0 (.L0 a0 a1 (a0.length:Int) 0)
def Zis:LF Zed Int := .m0 193 [.t 4] wI fun | .L0 v0 v1 v7 v8=>([1,0,1,4],⟨19,[(0,wL (cI .i64) v0),(1,wI v1),(7,wI v7),(8,wI v8)],[]⟩,Znd v0 v1 v7 v8)
def Zqb:=fun a0 a1=>Zis.run (Zn7 a0 a1)
theorem Zia(a0)(a1){r}(h:Zqb a0 a1=some r):Fn PR 193 [wL (cI .i64) a0,wI a1] (wI r):=Zis.fn h
def Zlt(a0:List Int)(a1:Int):LT Empty Bool:=
.call (Zia a0 a1) fun x1=>.rt (decide (x1>=0))
def Zlu:LF Empty Bool := .z0 155 [.t 4] wB
def Zne:=fun a0 a1=>Zlu.run (Zlt a0 a1)
theorem Zk1(a0)(a1){r}(h:Zne a0 a1=some r):Fn PR 155 [wL (cI .i64) a0,wI a1] (wB r):=Zlu.fn h
def Z08(a0:Int)(a1:Int):LT Empty Bool:=
.cs (decide (a0>=0)) (.k4 0<|.rt (decide (a0<=a1)))<|.k4 0<|.rt false
def Z09:LF Empty Bool := .z0 245 [.t 4] wB
def Zve:=fun a0 a1=>Z09.run (Z08 a0 a1)
theorem Zca(a0)(a1){r}(h:Zve a0 a1=some r):Fn PR 245 [wI a0,wI a1] (wB r):=Z09.fn h
inductive Z3r where
 | L0 (v36:List Int) (v37:Int) (v38:Int)
def Ztv(v36:List Int)(v37:Int)(v38:Int):LT Z3r Bool:=
.br (decide (v38 < v37)) (.idx (cI .u8) v36 v38 fun x2=>.cs (decide (x2 < 97)) (.k3 1<|.b3 true<|.cs (decide (x2 < 48)) (.k2 2<|.kb true<|.kg 2<|.b4 true<|.br (x2 != 45) (.rt false)<|.g0 (.L0 v36 v37 (IntKind.wrap .i64 (v38+1))))<|.k2 2<|.kb true<|.kg 2<|.kb true<|.cs (decide (x2 > 57)) (.k3 3<|.br (x2 != 45) (.rt false)<|.g0 (.L0 v36 v37 (IntKind.wrap .i64 (v38+1))))<|.k3 3<|.kn [0]<|.g0 (.L0 v36 v37 (IntKind.wrap .i64 (v38+1))))<|.k3 1<|.cs (decide (x2 > 122)) (.k3 2<|.cs (decide (x2 < 48)) (.k2 3<|.kg 2<|.kg 3<|.kg 2<|.b3 true<|.br (x2 != 45) (.rt false)<|.g0 (.L0 v36 v37 (IntKind.wrap .i64 (v38+1))))<|.k2 3<|.kg 2<|.kg 3<|.kg 2<|.cs (decide (x2 > 57)) (.k3 4<|.br (x2 != 45) (.rt false)<|.g0 (.L0 v36 v37 (IntKind.wrap .i64 (v38+1))))<|.k3 4<|.kn [0]<|.g0 (.L0 v36 v37 (IntKind.wrap .i64 (v38+1))))<|.k5 2<|.b3 false<|.kn [0]<|.g0 (.L0 v36 v37 (IntKind.wrap .i64 (v38+1))))<|.rt true
def Zasa(a0:By):LT Z3r Bool:=
.lenS a0<|.cs ((a0.length:Int)==0) (.k4 0<|.b16 true<|.b2 true<|.kn [0]<|.rt false)<|.k2 0<|.lenS a0<|.k2 0<|.cs (decide ((a0.length:Int) > 32)) (.k4 1<|.b8 true<|.b5 true<|.kb true<|.kn [0]<|.rt false)<|.k2 1<|.idxS a0 0 fun x4=>.k2 1<|.cs (decide ((UInt8.toNat x4:Int) < 97)) (.k4 2<|.b8 true<|.b2 true<|.kn [0]<|.rt false)<|.k2 2<|.idxS a0 0 fun x7=>.k2 2<|.cs (decide ((UInt8.toNat x7:Int) > 122)) (.k5 3<|.k2 3<|.b3 true<|.kn [0]<|.rt false)<|.k3 3<|.lenS a0<|.k2 3<|.idxS a0 (IntKind.wrap .i64 ((a0.length:Int) - 1)) fun x12=>.k2 3<|.cs ((UInt8.toNat x12:Int)==45) (.k3 4<|.kn [0]<|.rt false)<|.k2 4<|.call (Zaa1 a0 ([45,45]:By)) fun x15=>.kg 4<|.br x15 (.rt false)<|.bys a0 fun x18=>.len (cI .u8) x18<|.g0 (.L0 x18 (x18.length:Int) 0)
def Zxf:LF Z3r Bool := .m0 249 [.t 2] wB fun | .L0 v36 v37 v38=>([1,1,0,1,4],⟨61,[(36,wL (cI .u8) v36),(37,wI v37),(38,wI v38)],[]⟩,Ztv v36 v37 v38)
def Zapa:=fun a0=>Zxf.run (Zasa a0)
theorem Za36(a0){r}(h:Zapa a0=some r):Fn PR 249 [wS a0] (wB r):=Zxf.fn h
def Z1a(a0:Int):LT Empty (By):=
.idX Zh.str (A2.list (⟨([98,97,115,105,99]:By),([117,110,105,113,117,101]:By)⟩:A2 (By))) a0 fun x1=>.rt x1
def Zr3:LF Empty (By) := .z0 251 [.t 2] wS
def Zvf:=fun a0=>Zr3.run (Z1a a0)
theorem Zae6(a0){r}(h:Zvf a0=some r):Fn PR 251 [wI a0] (wS r):=Zr3.fn h
def Z3s(a0:Int):LT Empty (By):=
.idX Zh.str (A6.list (⟨([99,114,101,97,116,117,114,101]:By),([105,110,115,116,97,110,116]:By),([114,105,116,117,97,108]:By),([114,101,108,105,99]:By),([99,104,97,114,109]:By),([108,97,110,100]:By)⟩:A6 (By))) a0 fun x1=>.rt x1
def Ztw:LF Empty (By) := .z0 252 [.t 2] wS
def Zya:=fun a0=>Ztw.run (Z3s a0)
theorem Zai7(a0){r}(h:Zya a0=some r):Fn PR 252 [wI a0] (wS r):=Ztw.fn h
inductive Zib where
 | L0 (v0:By) (v8:Int) (v9:Int)
def Zfa(v0:By)(v8:Int)(v9:Int):LT Zib Int:=
.br (decide (v9 < v8)) (.call (Zae6 v9) fun x2=>.br (!(x2==v0)) (.g0 (.L0 v0 v8 (IntKind.wrap .i64 (v9+1))))<|.ok (¬ v9 < 0)<|.rt (Z0h .i64 1 v9))<|.rt 0
def Znf(a0:By)(a1:Int):LT Zib Int:=
.g0 (.L0 a0 a1 0)
def Zic:LF Zib Int := .m0 250 [.t 6] wI fun | .L0 v0 v8 v9=>([1,6,1,0,1,4],⟨20,[(0,wS v0),(2,.fn 251 []),(8,wI v8),(9,wI v9)],[]⟩,Zfa v0 v8 v9)
def Zjf:=fun a0 a1=>Zic.run (Znf a0 a1)
theorem Zxg(a0)(a1){r}(h:Zjf a0 a1=some r):Fn PR 250 [wS a0,wI a1,.fn 251 []] (wI r):=Zic.fn h
inductive Zit where
 | L0 (v0:By) (v8:Int) (v9:Int)
def Zfs(v0:By)(v8:Int)(v9:Int):LT Zit Int:=
.br (decide (v9 < v8)) (.call (Zai7 v9) fun x2=>.br (!(x2==v0)) (.g0 (.L0 v0 v8 (IntKind.wrap .i64 (v9+1))))<|.ok (¬ v9 < 0)<|.rt (Z0h .i64 1 v9))<|.rt 0
def Zn8(a0:By)(a1:Int):LT Zit Int:=
.g0 (.L0 a0 a1 0)
def Ziu:LF Zit Int := .m0 250 [.t 6] wI fun | .L0 v0 v8 v9=>([1,6,1,0,1,4],⟨20,[(0,wS v0),(2,.fn 252 []),(8,wI v8),(9,wI v9)],[]⟩,Zfs v0 v8 v9)
def Zj0:=fun a0 a1=>Ziu.run (Zn8 a0 a1)
theorem Zyb(a0)(a1){r}(h:Zj0 a0 a1=some r):Fn PR 250 [wS a0,wI a1,.fn 252 []] (wI r):=Ziu.fn h
def Zac1(a0:By):LT Empty Bool:=
.call (Za36 a0) fun x1=>.cs x1 (.k2 0<|.call (Zxg a0 2) fun x4=>.k2 0<|.cs (x4==0) (.k2 1<|.call (Zyb a0 6) fun x7=>.k2 1<|.rt (x7==0))<|.k4 1<|.rt false)<|.k4 0<|.b4 false<|.rt false
def Zac2:LF Empty Bool := .z0 204 [.t 2] wB
def Zzt:=fun a0=>Zac2.run (Zac1 a0)
theorem Zyc(a0){r}(h:Zzt a0=some r):Fn PR 204 [wS a0] (wB r):=Zac2.fn h
def Z1b(a0:Zb):LT Empty Bool:=
.lb 1001<|.call (Zca a0.Kind 3) fun x1=>.cs x1 (.k3 0<|.call (Zca a0.N 1000000) fun x4=>.kg 0<|.cs x4 (.k4 1<|.cs (a0.Kind != 0) (.k3 2<|.kg 1<|.kg 2<|.kg 1<|.rt true)<|.k3 2<|.kg 1<|.kg 2<|.kg 1<|.rt (a0.N==0))<|.k5 1<|.kg 1<|.rt false)<|.k4 0<|.b5 false<|.kb false<|.rt false
def Z1c:LF Empty Bool := .z0 246 [.t 2] wB
def Zvg:=fun a0=>Z1c.run (Z1b a0)
theorem Zqj(a0){r}(h:Zvg a0=some r):Fn PR 246 [wA (Zb3 a0)] (wB r):=Z1c.fn h
inductive Zv8 where
 | L0 (E0:Zg)
def Zo5(E0:Zg):LT Zv8 Bool:=
.call (Zqj E0.Power) fun x1=>.cs x1 (.k3 0<|.call (Zqj E0.Tough) fun x4=>.kg 0<|.cs x4 (.k3 1<|.call (Zqj E0.Value) fun x7=>.kg 1<|.rt x7)<|.k4 1<|.rt false)<|.k4 0<|.b4 false<|.rt false
def Zahg(a0:Zg):LT Zv8 Bool:=
.lb 1001<|.call (Zca a0.Zone 5) fun x1=>.cs (!x1) (.k5 0<|.b8 true<|.b5 true<|.b2 true<|.kn [0]<|.rt false)<|.k3 0<|.call (Zca a0.Who 2) fun x4=>.k2 0<|.cs (!x4) (.k5 1<|.b8 true<|.b2 true<|.kn [0]<|.rt false)<|.k3 1<|.call (Zca a0.Self 2) fun x7=>.k2 1<|.cs (!x7) (.k5 2<|.b5 true<|.kn [0]<|.rt false)<|.k3 2<|.call (Zca a0.Tap 2) fun x10=>.k2 2<|.cs (!x10) (.k5 3<|.kn [0]<|.rt false)<|.k3 3<|.call (Zca a0.Keys 131071) fun x13=>.k2 3<|.br (!x13) (.rt false)<|.call (Zca a0.Types 63) fun x16=>.cs (!x16) (.k5 5<|.b5 true<|.b2 true<|.kn [0]<|.rt false)<|.k3 5<|.call (Zca a0.NotTypes 63) fun x19=>.k2 5<|.cs (!x19) (.k5 6<|.k2 6<|.kn [0]<|.rt false)<|.k5 6<|.k2 6<|.br ((Zau .and .i64 a0.Types a0.NotTypes) != 0) (.rt false)<|.call (Zca a0.Colors 31) fun x23=>.cs (!x23) (.k5 8<|.b5 true<|.b2 true<|.kn [0]<|.rt false)<|.k3 8<|.call (Zca a0.NotColors 31) fun x26=>.k2 8<|.cs (!x26) (.k5 9<|.k2 9<|.kn [0]<|.rt false)<|.k5 9<|.k2 9<|.br ((Zau .and .i64 a0.Colors a0.NotColors) != 0) (.rt false)<|.cs (!(a0.Sub==([]:By))) (.k3 11<|.call (Zyc a0.Sub) fun x31=>.k2 11<|.br (!x31) (.rt false)<|.jn 0 (.L0 a0) [.relab 1001 3000] (Zo5 a0))<|.k5 11<|.kn [0]<|.jn 0 (.L0 a0) [.relab 1001 3000] (Zo5 a0)
def Zq7:LF Zv8 Bool := .m0 194 [.t 2] wB fun | .L0 E0=>([1,1,1,1,1],⟨89,[(1,.bptr 3000 0)],[(3000,.box (bx (Zo E0)))]⟩,Zo5 E0)
def Z3t:=fun a0=>Zq7.run (Zahg a0)
theorem Zac3(a0){r}(h:Z3t a0=some r):Fn PR 194 [wA (Zo a0)] (wB r):=Zq7.fn h
def Z1d(a0:Int)(a1:Int)(a2:Int):LT Empty Bool:=
.cs (a1==0) (.k5 0<|.b5 true<|.rt ((Zau .and .i64 a0 a2)==0))<|.k5 0<|.cs ((Zau .and .i64 a0 a1) != 0) (.k5 1<|.rt ((Zau .and .i64 a0 a2)==0))<|.k5 1<|.rt false
def Z1e:LF Empty Bool := .z0 195 [.t 6] wB
def Zvh:=fun a0 a1 a2=>Z1e.run (Z1d a0 a1 a2)
theorem Zzi(a0)(a1)(a2){r}(h:Zvh a0 a1 a2=some r):Fn PR 195 [wI a0,wI a1,wI a2] (wB r):=Z1e.fn h
def Zahh(a0:Zb)(a1:Int):LT Empty Bool:=
.lb 1002<|.br (a0.Kind==0) (.rt true)<|.br (a0.Kind==1) (.rt (decide (a1>=a0.N)))<|.br (a0.Kind==2) (.rt (decide (a1<=a0.N)))<|.br (a0.Kind==3) (.rt (a1==a0.N))<|.rt false
def Zahi:LF Empty Bool := .z0 197 [.t 4] wB
def Zac4:=fun a0 a1=>Zahi.run (Zahh a0 a1)
theorem Zac5(a0)(a1){r}(h:Zac4 a0 a1=some r):Fn PR 197 [wA (Zb3 a0),wI a1] (wB r):=Zahi.fn h
inductive Zcr where
 | L0 (v0:Bys) (v1:By) (v7:Int) (v8:Int)
def Zck(v0:Bys)(v1:By)(v7:Int)(v8:Int):LT Zcr Int:=
.br (decide (v8 < v7)) (.idx cS v0 v8 fun x2=>.br (v1==x2) (.rt v8)<|.g0 (.L0 v0 v1 v7 (IntKind.wrap .i64 (v8+1))))<|.rt (-1)
def Zjq(a0:Bys)(a1:By):LT Zcr Int:=
.len cS a0<|.g0 (.L0 a0 a1 (a0.length:Int) 0)
def Zd6:LF Zcr Int := .m0 263 [.t 4] wI fun | .L0 v0 v1 v7 v8=>([1,0,1,4],⟨19,[(0,wL cS v0),(1,wS v1),(7,wI v7),(8,wI v8)],[]⟩,Zck v0 v1 v7 v8)
def Zk2:=fun a0 a1=>Zd6.run (Zjq a0 a1)
theorem Zr4(a0)(a1){r}(h:Zk2 a0 a1=some r):Fn PR 263 [wL cS a0,wS a1] (wI r):=Zd6.fn h
def Zih(a0:Bys)(a1:By):LT Empty Bool:=
.call (Zr4 a0 a1) fun x1=>.rt (decide (x1>=0))
def Zii:LF Empty Bool := .z0 247 [.t 4] wB
def Zjg:=fun a0 a1=>Zii.run (Zih a0 a1)
theorem Zp1(a0)(a1){r}(h:Zjg a0 a1=some r):Fn PR 247 [wL cS a0,wS a1] (wB r):=Zii.fn h
def Z9z(a0:Z7)(a1:By):LT Empty Bool:=
.lb 1002<|.call (Zp1 a0.Subs a1) fun x1=>.rt x1
def Z90:LF Empty Bool := .z0 198 [.t 4] wB
def Zv9:=fun a0 a1=>Z90.run (Z9z a0 a1)
theorem Z6z(a0)(a1){r}(h:Zv9 a0 a1=some r):Fn PR 198 [wA (Zhg a0),wS a1] (wB r):=Z90.fn h
def Zas2(a0:Int)(a1:Int):LT Empty Bool:=
.rt ((Zau .and .i64 a0 a1)==a1)
def Z91:LF Empty Bool := .z0 199 [.t 4] wB
def Zahj:=fun a0 a1=>Z91.run (Zas2 a0 a1)
theorem Z60(a0)(a1){r}(h:Zahj a0 a1=some r):Fn PR 199 [wI a0,wI a1] (wB r):=Z91.fn h
def Zasb(a0:Int)(a1:Int):LT Empty Int:=
.call (Zek a0) fun x1=>.call (Zek a1) fun x3=>.call (Zek (IntKind.wrap .i64 (x1*x3))) fun x7=>.rt x7
def Zasc:LF Empty Int := .z0 248 [.t 4] wI
def Zapb:=fun a0 a1=>Zasc.run (Zasb a0 a1)
theorem Za37(a0)(a1){r}(h:Zapb a0 a1=some r):Fn PR 248 [wI a0,wI a1] (wI r):=Zasc.fn h
inductive Z1f where
 | L0 (v1:Int) (E0:Zt) (v5:Int) (v14:A5 Int) (v15:Int)
def Zng(v1:Int)(E0:Zt)(v5:Int)(v14:A5 Int)(v15:Int):LT Z1f Int:=
.br (decide (v15 < 5)) (.idX (Zh.int .i64) (A5.list v14) v15 fun x2=>.g0 (.L0 v1 E0 (IntKind.wrap .i64 (v5+x2)) v14 (IntKind.wrap .i64 (v15+1))))<|.call (Za37 E0.X (Z0a 0 v1)) fun x8=>.call (Zts v5 x8) fun x10=>.rt x10
def Zac6(a0:Zt)(a1:Int):LT Z1f Int:=
.lb 1002<|.call (Zamy a0) fun x1=>.br (!x1) (.rt 0)<|.go (.L0 a1 a0 a0.Generic a0.Color 0) [.relab 1002 3000]
def Ztx:LF Z1f Int := .m0 200 [.t 4] wI fun | .L0 v1 E0 v5 v14 v15=>([1,1,1,0,1,4],⟨29,[(1,wI v1),(2,.bptr 3000 0),(5,wI v5),(14,wA ((cA5 (cI .i64)) v14)),(15,wI v15)],[(3000,.box (bx (Zaf E0)))]⟩,Zng v1 E0 v5 v14 v15)
def Z8i:=fun a0 a1=>Ztx.run (Zac6 a0 a1)
theorem Zas3(a0)(a1){r}(h:Z8i a0 a1=some r):Fn PR 200 [wA (Zaf a0),wI a1] (wI r):=Ztx.fn h
def Zsr(a0:Zb)(a1:Int)(b0:Bool):LT Empty Bool:=
.lb 1003<|.cs (a0.Kind==0) (.k4 0<|.rt true)<|.k2 0<|.cs b0 (.k3 1<|.call (Zac5 a0 a1) fun x3=>.kg 0<|.kg 1<|.kg 0<|.rt x3)<|.k3 1<|.kg 0<|.kg 1<|.kg 0<|.rt false
def Zss(b0:Bool):LF Empty Bool := .z 196 [.t 5] true (fun r=>[(0,.box (bx (cB b0)))]) (fun r=>(wB r))
def Zn1(a0:Zb)(a1:Int)(b0:Bool):Option Bool:=(Zss b0).run (Zsr a0 a1 b0)
theorem Zqc(a0:Zb)(a1:Int)(b0:Bool){r:Bool}(h:Zn1 a0 a1 b0=some r):FnG PR 196 [(0,.box (bx (cB b0)))] [wA (Zb3 a0),wI a1,.bptr 0 0] [(0,.box (bx (cB b0)))] (wB r):=(Zss b0).fn h
inductive Zg1 where
 | L0 (v3:Int) (E0:Zf) (E1:Za) (E2:Zg) (E3:Bool) (v30:Bool)
 | L1 (E0:Zf) (E1:Za) (E2:Zg) (E3:Bool) (v49:Bool)
 | L2 (E0:Zf) (E1:Za) (E2:Zg) (E3:Bool) (v68:Bool)
 | L3 (E0:Zf) (E1:Za) (E2:Zg) (E3:Bool) (v88:Bool)
 | L4 (E0:Za) (E1:Zg) (E2:Bool)
def Zgg(E0:Za)(E1:Zg)(E2:Bool):LT Zg1 Bool:=
.callO (Zqc E1.Power E0.Power E2) [3002] 1280000 (fun x=>[]) fun x1=>.cs x1 (.k5 0<|.kg 0<|.callO (Zqc E1.Tough E0.Tough E2) [3002] 1350000 (fun x=>[]) fun x4=>.kg 0<|.cs x4 (.k5 1<|.call (Zas3 E0.Cost 0) fun x7=>.kg 1<|.call (Zac5 E1.Value x7) fun x9=>.kg 1<|.rt x9)<|.k5 1<|.k2 1<|.rt false)<|.k5 0<|.k2 0<|.b5 false<|.b2 false<|.rt false
def Zh4(E0:Zf)(E1:Za)(E2:Zg)(E3:Bool)(v88:Bool):LT Zg1 Bool:=
.br v88 (.rt false)<|.cs (E2.Tap==1) (.k4 1<|.br (!E0.Tapped) (.kn [3]<|.rt false)<|.cs (E2.Tap==2) (.k3 3<|.br E0.Tapped (.rt false)<|.jn 0 (.L4 E1 E2 E3) (tm11 3000) (Zgg E1 E2 E3))<|.k3 3<|.kn [0]<|.jn 0 (.L4 E1 E2 E3) (tm11 3000) (Zgg E1 E2 E3))<|.k4 1<|.kn [0]<|.cs (E2.Tap==2) (.k3 2<|.br E0.Tapped (.rt false)<|.jn 0 (.L4 E1 E2 E3) (tm11 3000) (Zgg E1 E2 E3))<|.k3 2<|.kn [0]<|.jn 0 (.L4 E1 E2 E3) (tm11 3000) (Zgg E1 E2 E3)
def Zki(E0:Zf)(E1:Za)(E2:Zg)(E3:Bool)(v68:Bool):LT Zg1 Bool:=
.br v68 (.rt false)<|.cs (!(E2.Sub==([]:By))) (.k5 1<|.call (Z6z E1.Line E2.Sub) fun x3=>.k2 1<|.br (!x3) (.j0 (.L3 E0 E1 E2 E3 (!x3)) (Zh4 E0 E1 E2 E3 (!x3)))<|.call (Z60 E1.Keys E2.Keys) fun x6=>.j0 (.L3 E0 E1 E2 E3 (!x6)) (Zh4 E0 E1 E2 E3 (!x6)))<|.k5 1<|.k2 1<|.kn [0]<|.call (Z60 E1.Keys E2.Keys) fun x8=>.j0 (.L3 E0 E1 E2 E3 (!x8)) (Zh4 E0 E1 E2 E3 (!x8))
def Zfb(E0:Zf)(E1:Za)(E2:Zg)(E3:Bool)(v49:Bool):LT Zg1 Bool:=
.br v49 (.rt false)<|.call (Zzi E1.Line.Types E2.Types E2.NotTypes) fun x2=>.br (!x2) (.j0 (.L2 E0 E1 E2 E3 (!x2)) (Zki E0 E1 E2 E3 (!x2)))<|.call (Zzi E1.Colors E2.Colors E2.NotColors) fun x5=>.j0 (.L2 E0 E1 E2 E3 (!x5)) (Zki E0 E1 E2 E3 (!x5))
def Zbz(v3:Int)(E0:Zf)(E1:Za)(E2:Zg)(E3:Bool)(v30:Bool):LT Zg1 Bool:=
.br v30 (.rt false)<|.cs (E2.Self==1) (.k5 1<|.br (E0.Id != v3) (.j0 (.L1 E0 E1 E2 E3 (E0.Id != v3)) (Zfb E0 E1 E2 E3 (E0.Id != v3)))<|.cs (E2.Self==2) (.k5 3<|.j0 (.L1 E0 E1 E2 E3 (E0.Id==v3)) (Zfb E0 E1 E2 E3 (E0.Id==v3)))<|.k5 3<|.j0 (.L1 E0 E1 E2 E3 false) (Zfb E0 E1 E2 E3 false))<|.k5 1<|.kn [0]<|.cs (E2.Self==2) (.k5 2<|.j0 (.L1 E0 E1 E2 E3 (E0.Id==v3)) (Zfb E0 E1 E2 E3 (E0.Id==v3)))<|.k5 2<|.j0 (.L1 E0 E1 E2 E3 false) (Zfb E0 E1 E2 E3 false)
def Z61(a0:Zf)(a1:Za)(a2:Int)(a3:Int)(a4:Zg):LT Zg1 Bool:=
.lb 1005<|.lb 1006<|.lb 1009<|.call (Zac3 a4) fun x1=>.cs (!x1) (.k5 0<|.kg 0<|.kn [0]<|.rt false)<|.k5 0<|.kg 0<|.br (a0.Zone != a4.Zone) (.rt false)<|.lb 1011<|.cs (a4.Who==1) (.k5 2<|.br (a1.Control != a2) (.jn 0 (.L0 a3 a0 a1 a4 ((Zau .and .i64 a1.Line.Types 1) != 0) (a1.Control != a2)) (tm12 1000 3000) (Zbz a3 a0 a1 a4 ((Zau .and .i64 a1.Line.Types 1) != 0) (a1.Control != a2)))<|.cs (a4.Who==2) (.k5 4<|.jn 0 (.L0 a3 a0 a1 a4 ((Zau .and .i64 a1.Line.Types 1) != 0) (a1.Control==a2)) (tm12 1000 3000) (Zbz a3 a0 a1 a4 ((Zau .and .i64 a1.Line.Types 1) != 0) (a1.Control==a2)))<|.k5 4<|.jn 0 (.L0 a3 a0 a1 a4 ((Zau .and .i64 a1.Line.Types 1) != 0) false) (tm12 1000 3000) (Zbz a3 a0 a1 a4 ((Zau .and .i64 a1.Line.Types 1) != 0) false))<|.k5 2<|.kn [0]<|.cs (a4.Who==2) (.k5 3<|.jn 0 (.L0 a3 a0 a1 a4 ((Zau .and .i64 a1.Line.Types 1) != 0) (a1.Control==a2)) (tm12 1000 3000) (Zbz a3 a0 a1 a4 ((Zau .and .i64 a1.Line.Types 1) != 0) (a1.Control==a2)))<|.k5 3<|.jn 0 (.L0 a3 a0 a1 a4 ((Zau .and .i64 a1.Line.Types 1) != 0) false) (tm12 1000 3000) (Zbz a3 a0 a1 a4 ((Zau .and .i64 a1.Line.Types 1) != 0) false)
def Zg2:LF Zg1 Bool := .m0 156 [.t 10] wB fun | .L0 v3 E0 E1 E2 E3 v30=>([1,1,1,1,1,0,4,1],⟨144,[(3,wI v3),(5,.bptr 3000 0),(6,.bptr 3001 0),(9,.bptr 3002 0),(12,.fn 195 []),(13,.fn 196 [.bptr 3003 0]),(30,wB v30)],[(3000,.box (bx (Zn E0))),(3001,.box (bx (Zj E1))),(3002,.box (bx (Zo E2))),(3003,.box (bx (cB E3)))]⟩,Zbz v3 E0 E1 E2 E3 v30) | .L1 E0 E1 E2 E3 v49=>([1,1,1,1,1,0,4,1,3,1],⟨144,[(5,.bptr 3000 0),(6,.bptr 3001 0),(9,.bptr 3002 0),(12,.fn 195 []),(13,.fn 196 [.bptr 3003 0]),(49,wB v49)],[(3000,.box (bx (Zn E0))),(3001,.box (bx (Zj E1))),(3002,.box (bx (Zo E2))),(3003,.box (bx (cB E3)))]⟩,Zfb E0 E1 E2 E3 v49) | .L2 E0 E1 E2 E3 v68=>([1,1,1,1,1,0,4,1,3,1,3,1],⟨144,[(5,.bptr 3000 0),(6,.bptr 3001 0),(9,.bptr 3002 0),(13,.fn 196 [.bptr 3003 0]),(68,wB v68)],[(3000,.box (bx (Zn E0))),(3001,.box (bx (Zj E1))),(3002,.box (bx (Zo E2))),(3003,.box (bx (cB E3)))]⟩,Zki E0 E1 E2 E3 v68) | .L3 E0 E1 E2 E3 v88=>([1,1,1,1,1,0,4,1,3,1,3,1,3,1],⟨144,[(5,.bptr 3000 0),(6,.bptr 3001 0),(9,.bptr 3002 0),(13,.fn 196 [.bptr 3003 0]),(88,wB v88)],[(3000,.box (bx (Zn E0))),(3001,.box (bx (Zj E1))),(3002,.box (bx (Zo E2))),(3003,.box (bx (cB E3)))]⟩,Zh4 E0 E1 E2 E3 v88) | .L4 E0 E1 E2=>([1,1,1,1,1,1],⟨144,[(6,.bptr 3000 0),(9,.bptr 3001 0),(13,.fn 196 [.bptr 3002 0])],[(3000,.box (bx (Zj E0))),(3001,.box (bx (Zo E1))),(3002,.box (bx (cB E2)))]⟩,Zgg E0 E1 E2)
def Zty:=fun a0 a1 a2 a3 a4=>Zg2.run (Z61 a0 a1 a2 a3 a4)
theorem Ztz(a0)(a1)(a2)(a3)(a4){r}(h:Zty a0 a1 a2 a3 a4=some r):Fn PR 156 [wA (Zn a0),wA (Zj a1),wI a2,wI a3,wA (Zo a4)] (wB r):=Zg2.fn h
inductive Zt0 where
 | L0 (v1:List Za) (v2:Int) (v3:Int) (E0:Zg) (v11:List Int) (v16:List Zf) (v17:Int) (v18:Int)
 | L1 (v1:List Za) (v2:Int) (v3:Int) (E0:Zg) (v11:List Int) (E1:Zf) (E2:Za) (v16:List Zf) (v17:Int) (v18:Int)
def Znh(v1:List Za)(v2:Int)(v3:Int)(E0:Zg)(v11:List Int)(E1:Zf)(E2:Za)(v16:List Zf)(v17:Int)(v18:Int):LT Zt0 (List Int):=
.call (Ztz E1 E2 v2 v3 E0) fun x1=>.br x1 (.dr [.lit]<|.apR (cI .i64) 8 v11 [E1.Id] fun x4=>.g0 (.L0 v1 v2 v3 E0 x4 v16 v17 (IntKind.wrap .i64 (v18+1))))<|.g0 (.L0 v1 v2 v3 E0 v11 v16 v17 (IntKind.wrap .i64 (v18+1)))
def Zni(v1:List Za)(v2:Int)(v3:Int)(E0:Zg)(v11:List Int)(v16:List Zf)(v17:Int)(v18:Int):LT Zt0 (List Int):=
.br (decide (v18 < v17)) (.idx Zn v16 v18 fun x2=>.lb 1013<|.lb 1014<|.len Zj v1<|.br (decide (v18 < (v1.length:Int))) (.idx Zj v1 v18 fun x6=>.jn 0 (.L1 v1 v2 v3 E0 v11 x2 x6 v16 v17 v18) [.relab 1013 3001,.relab 1014 3002] (Znh v1 v2 v3 E0 v11 x2 x6 v16 v17 v18))<|.jn 0 (.L1 v1 v2 v3 E0 v11 x2 (⟨([]:By),(⟨0,0,(⟨0,0,0,0,0⟩:A5 Int)⟩:Zt),0,(⟨0,0,([]:Bys)⟩:Z7),0,0,0,([]:List Zd),0⟩:Za) v16 v17 v18) [.relab 1013 3001,.relab 1014 3002,.niltb 3002 11,.niltb 3002 15] (Znh v1 v2 v3 E0 v11 x2 (⟨([]:By),(⟨0,0,(⟨0,0,0,0,0⟩:A5 Int)⟩:Zt),0,(⟨0,0,([]:Bys)⟩:Z7),0,0,0,([]:List Zd),0⟩:Za) v16 v17 v18))<|.ret v11 [.relab 20011 5000]
def Zac7(a0:Zm)(a1:List Za)(a2:Int)(a3:Int)(a4:Zg):LT Zt0 (List Int):=
.lb 1005<|.lb 1009<|.len Zn a0.Objects<|.go (.L0 a1 a2 a3 a4 ([]:List Int) a0.Objects (a0.Objects.length:Int) 0) [.relab 1009 3000,.own 11 20011 1]
def Z1g:LF Zt0 (List Int) := .m 157 [.t 10] true (fun r=>[(5000,wR (cI .i64) 1 r)]) (fun r=>(wO (cI .i64) 5000 r)) fun | .L0 v1 v2 v3 E0 v11 v16 v17 v18=>([1,1,0,1,4],⟨44,[(1,wL Zj v1),(2,wI v2),(3,wI v3),(9,.bptr 3000 0),(11,wO (cI .i64) 20011 v11),(16,wL Zn v16),(17,wI v17),(18,wI v18)],[(3000,.box (bx (Zo E0))),(20011,wR (cI .i64) 1 v11)]⟩,Zni v1 v2 v3 E0 v11 v16 v17 v18) | .L1 v1 v2 v3 E0 v11 E1 E2 v16 v17 v18=>([1,1,0,1,4,5,1,1,0,4,1,1,1],⟨44,[(1,wL Zj v1),(2,wI v2),(3,wI v3),(9,.bptr 3000 0),(11,wO (cI .i64) 20011 v11),(13,.bptr 3001 0),(14,.bptr 3002 0),(16,wL Zn v16),(17,wI v17),(18,wI v18)],[(3000,.box (bx (Zo E0))),(20011,wR (cI .i64) 1 v11),(3001,.box (bx (Zn E1))),(3002,.box (bx (Zj E2)))]⟩,Znh v1 v2 v3 E0 v11 E1 E2 v16 v17 v18)
def Zzu:=fun a0 a1 a2 a3 a4=>Z1g.run (Zac7 a0 a1 a2 a3 a4)
theorem Zapc(a0)(a1)(a2)(a3)(a4){r}(h:Zzu a0 a1 a2 a3 a4=some r):FnG PR 157 [] [wA (Zae a0),wL Zj a1,wI a2,wI a3,wA (Zo a4)] [(5000,wR (cI .i64) 1 r)] (wO (cI .i64) 5000 r):=Z1g.fn h
inductive Zee where
 | L0 (v0:List Int) (v1:List Int) (v12:Int) (v13:Int)
def Znj(v0:List Int)(v1:List Int)(v12:Int)(v13:Int):LT Zee Bool:=
.br (decide (v13 < v12)) (.idx (cI .i64) v0 v13 fun x2=>.idx (cI .i64) v1 v13 fun x4=>.br (x2 != x4) (.rt false)<|.g0 (.L0 v0 v1 v12 (IntKind.wrap .i64 (v13+1))))<|.rt true
def Zn9(a0:List Int)(a1:List Int):LT Zee Bool:=
.len (cI .i64) a0<|.len (cI .i64) a1<|.br ((a0.length:Int) != (a1.length:Int)) (.rt false)<|.len (cI .i64) a0<|.g0 (.L0 a0 a1 (a0.length:Int) 0)
def Ziv:LF Zee Bool := .m0 101 [.t 4] wB fun | .L0 v0 v1 v12 v13=>([1,1,0,1,4],⟨26,[(0,wL (cI .i64) v0),(1,wL (cI .i64) v1),(12,wI v12),(13,wI v13)],[]⟩,Znj v0 v1 v12 v13)
def Zqd:=fun a0 a1=>Ziv.run (Zn9 a0 a1)
theorem Znk(a0)(a1){r}(h:Zqd a0 a1=some r):Fn PR 101 [wL (cI .i64) a0,wL (cI .i64) a1] (wB r):=Ziv.fn h
def Zo6(a0:Zac)(a1:Zac):LT Empty Bool:=
.lb 1002<|.lb 1003<|.cs (!(a0.active==a1.active)) (.k5 0<|.k2 0<|.b5 true<|.b2 true<|.rt true)<|.k5 0<|.call (Znk a0.hits a1.hits) fun x2=>.k2 0<|.cs (!x2) (.k5 1<|.k2 1<|.rt true)<|.k5 1<|.call (Znk a0.numbers a1.numbers) fun x5=>.k2 1<|.rt (!x5)
def Zo7:LF Empty Bool := .z0 100 [.t 4] wB
def Zq8:=fun a0 a1=>Zo7.run (Zo6 a0 a1)
theorem Zzv(a0)(a1){r}(h:Zq8 a0 a1=some r):Fn PR 100 [wA (Zfl a0),wA (Zfl a1)] (wB r):=Zo7.fn h
def Zht(a0:List Bool)(hne:a0≠[]):LT Empty (List Bool):=
.ne cB hne<|.kn [0]<|.lb 1005<|.apR cB 1 ([]:List Bool) a0 fun x1=>.ret x1 [.relab 1005 5000]
def Zbv:LF Empty (List Bool) := .z 153 [.t 2] true (fun r=>[(5000,wR cB 1 r)]) (fun r=>(wO cB 5000 r))
def Zeu(c:Nat):LT Empty (List Bool):=
.kn [0]<|.ret ([]:List Bool) [.own 2 5000 1]
def Zvi(c:Nat)(ad:Addr):LT Empty (List Bool):=
.kn [0]<|.lb 1005<|.apR cB 1 ([]:List Bool) ([]:List Bool) fun x1=>.ret x1 [.relab 1005 5000]
open Classical in
def Zf2(a0:List Bool):Option (List Bool):=if h:a0≠[] then Zbv.run (Zht a0 h) else Zbv.run (Zeu 0)
theorem Zk3(a0:List Bool){r:List Bool}(h:Zf2 a0=some r):FnG PR 153 [] [wL cB a0] [(5000,wR cB 1 r)] (wO cB 5000 r):=by
 by_cases hne:a0=[]
 .subst hne
  have h0:Zbv.run (Zeu 0)=some r:=h
  exact FnG.split0 (fun e=>absurd rfl e) (fun _ a c=>by
   cases a with
   | none=>exact Zbv.fn (t:=Zeu c) h0
   | some ad=>exact Zbv.fn (t:=Zvi c ad) h0)
 .have h0:Zbv.run (Zht a0 hne)=some r:=by unfold Zf2 at h;rwa [dif_pos hne] at h
  exact FnG.split0 (fun _=>Zbv.fn h0) (fun e=>absurd (List.map_eq_nil_iff.1 e) hne)
def Zdq(a0:List Zd)(hne:a0≠[]):LT Empty (List Zd):=
.ne Zi hne<|.kn [0]<|.lb 1005<|.apR Zi 640 ([]:List Zd) a0 fun x1=>.ret x1 [.relab 1005 5000]
def Zaw:LF Empty (List Zd) := .z 201 [.t 2] true (fun r=>[(5000,wR Zi 72 r)]) (fun r=>(wO Zi 5000 r))
def Zb0(c:Nat):LT Empty (List Zd):=
.kn [0]<|.ret ([]:List Zd) [.own 2 5000 72]
def Zlv(c:Nat)(ad:Addr):LT Empty (List Zd):=
.kn [0]<|.lb 1005<|.apR Zi 640 ([]:List Zd) ([]:List Zd) fun x1=>.ret x1 [.relab 1005 5000]
open Classical in
def Zcj(a0:List Zd):Option (List Zd):=if h:a0≠[] then Zaw.run (Zdq a0 h) else Zaw.run (Zb0 0)
theorem Zlb(a0:List Zd){r:List Zd}(h:Zcj a0=some r):FnG PR 201 [] [wL Zi a0] [(5000,wR Zi 72 r)] (wO Zi 5000 r):=by
 by_cases hne:a0=[]
 .subst hne
  have h0:Zaw.run (Zb0 0)=some r:=h
  exact FnG.split0 (fun e=>absurd rfl e) (fun _ a c=>by
   cases a with
   | none=>exact Zaw.fn (t:=Zb0 c) h0
   | some ad=>exact Zaw.fn (t:=Zlv c ad) h0)
 .have h0:Zaw.run (Zdq a0 hne)=some r:=by unfold Zcj at h;rwa [dif_pos hne] at h
  exact FnG.split0 (fun _=>Zaw.fn h0) (fun e=>absurd (List.map_eq_nil_iff.1 e) hne)
inductive Zlw where
 | L0 (E0:Za) (E1:Za) (v18:Int) (v19:Int)
 | L1 (y45000015:Zd) (E0:Za) (E1:Za) (v18:Int) (v19:Int) (v54:Int) (v55:Int) (v4:Int)
def Z92(E0:Za)(E1:Za)(v18:Int)(v19:Int):LT Zlw Za:=
.br (decide (v19 < v18)) (.idxR Zi E0.Abilities v19 fun x2=>.dr [.ahead 7,.opn 40015 (Int.toNat v19) (Zi x2),.stop]<|.us [2]<|.iq v19<|.iq v19<|.rl Zi E0.Abilities<|.rl Zi E0.Abilities<|.rl Zi E0.Abilities<|.call (Zb9 x2.Mods) fun x4=>.rl Zi E0.Abilities<|.rl Zi E0.Abilities<|.rl Zi E0.Abilities<|.call (Zo2 x2.Specs) fun x6=>.rl Zi E0.Abilities<|.rl Zi E0.Abilities<|.rl Zi E0.Abilities<|.callF (Zf9 x2.Effects) 440000 fun x8=>.rl Zi E0.Abilities<|.rl Zi E0.Abilities<|.rl Zi E0.Abilities<|.rl Zi E0.Abilities<|.rl Zi E0.Abilities<|.rl Zi E0.Abilities<|.rl Zi E0.Abilities<|.rl Zi E0.Abilities<|.rl Zi E0.Abilities<|.rl Zi E0.Abilities<|.rl Zi E0.Abilities<|.rl Zi E0.Abilities<|.lenO Zq x8<|.go (.L1 (⟨x2.Kind,x2.Filter,x4,x2.Price,x2.Slow,x2.Trigger,x2.May,x6,x8,x2.Replace⟩:Zd) E0 E1 v18 v19 (x8.length:Int) 0 v19) [.relab 40015 45000015,.relab 445000 46000049])<|.ret E0 [.relab 40011 5011,.relab 40015 5015]
def Z93(y45000015:Zd)(E0:Za)(E1:Za)(v18:Int)(v19:Int)(v54:Int)(v55:Int)(v4:Int):LT Zlw Za:=
.br (decide (v55 < v54)) (.rl Zi E0.Abilities<|.rl Zi E0.Abilities<|.rl Zi E0.Abilities<|.rl Zi E0.Abilities<|.rl Zi E0.Abilities<|.rl Zi E0.Abilities<|.idxR Zq y45000015.Effects v55 fun x2=>.rl Zq y45000015.Effects<|.ldR Zq y45000015.Effects x2 2<|.call (Zb9 x2.Mods) fun x4=>.plR Zq y45000015.Effects v55 0<|.rl Zq y45000015.Effects<|.setD Zq y45000015.Effects v55 x2 (⟨x2.Op,x2.Ref,x2.Amount,x2.Counter,x2.Zone,x2.Card,x2.Filter,x2.Pool,x4⟩:Zs) 2 63 [.sl (List.map Zk x4)] rfl fun x6=>.dr [.ahead 74,.relen 46000049,.stop]<|.us [3]<|.us [3]<|.us [3]<|.us [3]<|.us [3]<|.us [3]<|.us [3]<|.g0 (.L1 (⟨y45000015.Kind,y45000015.Filter,y45000015.Mods,y45000015.Price,y45000015.Slow,y45000015.Trigger,y45000015.May,y45000015.Specs,x6,y45000015.Replace⟩:Zd) E0 E1 v18 v19 v54 (IntKind.wrap .i64 (v55+1)) v4))<|.clsR Zi E0.Abilities v4 y45000015 fun x10=>.dr [.ahead 75,.frz 46000049,.cls 45000015 (List.map Zi x10),.relen 45000015,.stop]<|.rl Zq y45000015.Effects<|.us [0]<|.rl Zi E0.Abilities<|.rl Zi E0.Abilities<|.us [1]<|.us [1]<|.go (.L0 (⟨E0.Name,E0.Cost,E0.Colors,E0.Line,E0.Power,E0.Tough,E0.Keys,x10,E0.Control⟩:Za) E1 v18 (IntKind.wrap .i64 (v19+1))) [.relab 45000015 40015]
def Zac8(a0:Za):LT Zlw Za:=
.lb 1001<|.lb 1002<|.callF (Zfm a0.Line.Subs) 100000 fun x1=>.callF (Zlb a0.Abilities) 150000 fun x3=>.lenO Zi x3<|.go (.L0 (⟨a0.Name,a0.Cost,a0.Colors,(⟨a0.Line.Super,a0.Line.Types,x1⟩:Z7),a0.Power,a0.Tough,a0.Keys,x3,a0.Control⟩:Za) (⟨([]:By),(⟨0,0,(⟨0,0,0,0,0⟩:A5 Int)⟩:Zt),0,(⟨0,0,([]:Bys)⟩:Z7),0,0,0,([]:List Zd),0⟩:Za) (x3.length:Int) 0) [.relab 1001 3000,.relab 1002 3001,.relab 105000 40011,.relab 155000 40015,.ownb 3001 11 40111 1,.ownb 3001 15 40115 72]
def Zt1:LF Zlw Za := .m 158 [.c 2 66 true 17] true (fun r=>[(5011,wR cS 1 r.Line.Subs),(5015,wR Zi 72 r.Abilities)]) (fun r=>(.agg (tm2 r 5000))) fun | .L0 E0 E1 v18 v19=>([1,1,1,0,1,4],⟨77,[(1,.bptr 3000 0),(2,.bptr 3001 0),(18,wI v18),(19,wI v19)],[(3000,.box (tm2 E0 40000)),(40011,wR cS 1 E0.Line.Subs),(40015,wR Zi 72 E0.Abilities),(3001,.box (tm2 E1 40100)),(40111,wR cS 1 E1.Line.Subs),(40115,wR Zi 72 E1.Abilities)]⟩,Z92 E0 E1 v18 v19) | .L1 y45000015 E0 E1 v18 v19 v54 v55 v4=>([1,1,1,0,1,4,5,1,1,0,4,1,1,1,1,4],⟨77,[(1,.bptr 3000 0),(2,.bptr 3001 0),(4,.own 45000015 (.pp (List.map Zi E0.Abilities).length 0)),(18,wI v18),(19,wI v19),(54,wI v54),(55,wI v55)],[(3000,.box [wS E0.Name,wI E0.Cost.Generic,wI E0.Cost.X,wI E0.Cost.Color.a0,wI E0.Cost.Color.a1,wI E0.Cost.Color.a2,wI E0.Cost.Color.a3,wI E0.Cost.Color.a4,wI E0.Colors,wI E0.Line.Super,wI E0.Line.Types,wO cS 40011 E0.Line.Subs,wI E0.Power,wI E0.Tough,wI E0.Keys,.own 45000015 (.pw (List.map Zi E0.Abilities).length),wI E0.Control]),(40011,wR cS 1 E0.Line.Subs),(46000049,wR Zq 64 y45000015.Effects),(45000015,.prow 72 (Int.toNat v4) (List.map Zi E0.Abilities) [wI y45000015.Kind,wI y45000015.Filter.Zone,wI y45000015.Filter.Who,wI y45000015.Filter.Self,wI y45000015.Filter.Types,wI y45000015.Filter.NotTypes,wI y45000015.Filter.Colors,wI y45000015.Filter.NotColors,wS y45000015.Filter.Sub,wI y45000015.Filter.Keys,wI y45000015.Filter.Tap,wI y45000015.Filter.Power.Kind,wI y45000015.Filter.Power.N,wI y45000015.Filter.Tough.Kind,wI y45000015.Filter.Tough.N,wI y45000015.Filter.Value.Kind,wI y45000015.Filter.Value.N,wL Zk y45000015.Mods,wI y45000015.Price.Mana.Generic,wI y45000015.Price.Mana.X,wI y45000015.Price.Mana.Color.a0,wI y45000015.Price.Mana.Color.a1,wI y45000015.Price.Mana.Color.a2,wI y45000015.Price.Mana.Color.a3,wI y45000015.Price.Mana.Color.a4,wB y45000015.Price.Tap,wB y45000015.Price.Sacrifice,wI y45000015.Price.Life,wB y45000015.Slow,wI y45000015.Trigger.When,wI y45000015.Trigger.Who,wI y45000015.Trigger.Filter.Zone,wI y45000015.Trigger.Filter.Who,wI y45000015.Trigger.Filter.Self,wI y45000015.Trigger.Filter.Types,wI y45000015.Trigger.Filter.NotTypes,wI y45000015.Trigger.Filter.Colors,wI y45000015.Trigger.Filter.NotColors,wS y45000015.Trigger.Filter.Sub,wI y45000015.Trigger.Filter.Keys,wI y45000015.Trigger.Filter.Tap,wI y45000015.Trigger.Filter.Power.Kind,wI y45000015.Trigger.Filter.Power.N,wI y45000015.Trigger.Filter.Tough.Kind,wI y45000015.Trigger.Filter.Tough.N,wI y45000015.Trigger.Filter.Value.Kind,wI y45000015.Trigger.Filter.Value.N,wB y45000015.May,wL Z9 y45000015.Specs,wO Zq 46000049 y45000015.Effects,wI y45000015.Replace.On,wI y45000015.Replace.Who,wI y45000015.Replace.Filter.Zone,wI y45000015.Replace.Filter.Who,wI y45000015.Replace.Filter.Self,wI y45000015.Replace.Filter.Types,wI y45000015.Replace.Filter.NotTypes,wI y45000015.Replace.Filter.Colors,wI y45000015.Replace.Filter.NotColors,wS y45000015.Replace.Filter.Sub,wI y45000015.Replace.Filter.Keys,wI y45000015.Replace.Filter.Tap,wI y45000015.Replace.Filter.Power.Kind,wI y45000015.Replace.Filter.Power.N,wI y45000015.Replace.Filter.Tough.Kind,wI y45000015.Replace.Filter.Tough.N,wI y45000015.Replace.Filter.Value.Kind,wI y45000015.Replace.Filter.Value.N,wI y45000015.Replace.Do,wI y45000015.Replace.N,wI y45000015.Replace.Zone,wI y45000015.Replace.Counter]),(3001,.box (tm2 E1 40100)),(40111,wR cS 1 E1.Line.Subs),(40115,wR Zi 72 E1.Abilities)]⟩,Z93 y45000015 E0 E1 v18 v19 v54 v55 v4)
def Zam1:=fun a0=>Zt1.run (Zac8 a0)
theorem Zapd(a0){r}(h:Zam1 a0=some r):FnG PR 158 [] [wA (Zj a0)] [(5011,wR cS 1 r.Line.Subs),(5015,wR Zi 72 r.Abilities)] (.agg (tm2 r 5000)):=Zt1.fn h
def Zax9(a0:Int)(a1:Int)(a2:Int):LT Empty Bool:=
.cs (decide (a0>=a1)) (.k4 0<|.rt (decide (a0<=a2)))<|.k4 0<|.rt false
def Zaya:LF Empty Bool := .z0 202 [.t 6] wB
def Za8b:=fun a0 a1 a2=>Zaya.run (Zax9 a0 a1 a2)
theorem Zkj(a0)(a1)(a2){r}(h:Za8b a0 a1 a2=some r):Fn PR 202 [wI a0,wI a1,wI a2] (wB r):=Zaya.fn h
inductive Zp2 where
 | L0 (E0:Zc) (E1:Zc) (E2:Zc) (v8:Int) (v9:Bool)
 | L1 (E0:Zc) (E1:Zc) (E2:Zc) (v8:Int) (v19:Bool)
def Zq9(E0:Zc)(E1:Zc)(E2:Zc)(v8:Int)(v19:Bool):LT Zp2 Zc:=
.br v19 (.rt (⟨E2.Kind,E2.N,E2.M,E0.Sub,E2.Filter⟩:Zc))<|.br (v8==11) (.rt (⟨E2.Kind,E2.N,E2.M,E2.Sub,E0.Filter⟩:Zc))<|.br (v8==12) (.kn [3]<|.rt (⟨E2.Kind,E0.N,E0.M,E2.Sub,E2.Filter⟩:Zc))<|.br (v8==13) (.rt (⟨E2.Kind,E0.N,E0.M,E2.Sub,E2.Filter⟩:Zc))<|.rt E2
def Zhj(E0:Zc)(E1:Zc)(E2:Zc)(v8:Int)(v9:Bool):LT Zp2 Zc:=
.br v9 (.rt (⟨E2.Kind,E0.N,E2.M,E2.Sub,E2.Filter⟩:Zc))<|.br (v8==4) (.j0 (.L1 E0 E1 E2 v8 (v8==4)) (Zq9 E0 E1 E2 v8 (v8==4)))<|.j0 (.L1 E0 E1 E2 v8 (v8==5)) (Zq9 E0 E1 E2 v8 (v8==5))
def Zam2(a0:Zc):LT Zp2 Zc:=
.lb 1001<|.lb 1002<|.lb 1003<|.br (a0.Kind==2) (.jn 0 (.L0 a0 (⟨0,0,0,([]:By),(⟨0,0,0,0,0,0,0,([]:By),0,0,(⟨0,0⟩:Zb),(⟨0,0⟩:Zb),(⟨0,0⟩:Zb)⟩:Zg)⟩:Zc) (⟨a0.Kind,0,0,([]:By),(⟨0,0,0,0,0,0,0,([]:By),0,0,(⟨0,0⟩:Zb),(⟨0,0⟩:Zb),(⟨0,0⟩:Zb)⟩:Zg)⟩:Zc) a0.Kind (a0.Kind==2)) (tm13 1000 3000) (Zhj a0 (⟨0,0,0,([]:By),(⟨0,0,0,0,0,0,0,([]:By),0,0,(⟨0,0⟩:Zb),(⟨0,0⟩:Zb),(⟨0,0⟩:Zb)⟩:Zg)⟩:Zc) (⟨a0.Kind,0,0,([]:By),(⟨0,0,0,0,0,0,0,([]:By),0,0,(⟨0,0⟩:Zb),(⟨0,0⟩:Zb),(⟨0,0⟩:Zb)⟩:Zg)⟩:Zc) a0.Kind (a0.Kind==2)))<|.br (a0.Kind==3) (.jn 0 (.L0 a0 (⟨0,0,0,([]:By),(⟨0,0,0,0,0,0,0,([]:By),0,0,(⟨0,0⟩:Zb),(⟨0,0⟩:Zb),(⟨0,0⟩:Zb)⟩:Zg)⟩:Zc) (⟨a0.Kind,0,0,([]:By),(⟨0,0,0,0,0,0,0,([]:By),0,0,(⟨0,0⟩:Zb),(⟨0,0⟩:Zb),(⟨0,0⟩:Zb)⟩:Zg)⟩:Zc) a0.Kind (a0.Kind==3)) (tm13 1000 3000) (Zhj a0 (⟨0,0,0,([]:By),(⟨0,0,0,0,0,0,0,([]:By),0,0,(⟨0,0⟩:Zb),(⟨0,0⟩:Zb),(⟨0,0⟩:Zb)⟩:Zg)⟩:Zc) (⟨a0.Kind,0,0,([]:By),(⟨0,0,0,0,0,0,0,([]:By),0,0,(⟨0,0⟩:Zb),(⟨0,0⟩:Zb),(⟨0,0⟩:Zb)⟩:Zg)⟩:Zc) a0.Kind (a0.Kind==3)))<|.br (a0.Kind==6) (.jn 0 (.L0 a0 (⟨0,0,0,([]:By),(⟨0,0,0,0,0,0,0,([]:By),0,0,(⟨0,0⟩:Zb),(⟨0,0⟩:Zb),(⟨0,0⟩:Zb)⟩:Zg)⟩:Zc) (⟨a0.Kind,0,0,([]:By),(⟨0,0,0,0,0,0,0,([]:By),0,0,(⟨0,0⟩:Zb),(⟨0,0⟩:Zb),(⟨0,0⟩:Zb)⟩:Zg)⟩:Zc) a0.Kind (a0.Kind==6)) (tm13 1000 3000) (Zhj a0 (⟨0,0,0,([]:By),(⟨0,0,0,0,0,0,0,([]:By),0,0,(⟨0,0⟩:Zb),(⟨0,0⟩:Zb),(⟨0,0⟩:Zb)⟩:Zg)⟩:Zc) (⟨a0.Kind,0,0,([]:By),(⟨0,0,0,0,0,0,0,([]:By),0,0,(⟨0,0⟩:Zb),(⟨0,0⟩:Zb),(⟨0,0⟩:Zb)⟩:Zg)⟩:Zc) a0.Kind (a0.Kind==6)))<|.br (a0.Kind==7) (.jn 0 (.L0 a0 (⟨0,0,0,([]:By),(⟨0,0,0,0,0,0,0,([]:By),0,0,(⟨0,0⟩:Zb),(⟨0,0⟩:Zb),(⟨0,0⟩:Zb)⟩:Zg)⟩:Zc) (⟨a0.Kind,0,0,([]:By),(⟨0,0,0,0,0,0,0,([]:By),0,0,(⟨0,0⟩:Zb),(⟨0,0⟩:Zb),(⟨0,0⟩:Zb)⟩:Zg)⟩:Zc) a0.Kind (a0.Kind==7)) (tm13 1000 3000) (Zhj a0 (⟨0,0,0,([]:By),(⟨0,0,0,0,0,0,0,([]:By),0,0,(⟨0,0⟩:Zb),(⟨0,0⟩:Zb),(⟨0,0⟩:Zb)⟩:Zg)⟩:Zc) (⟨a0.Kind,0,0,([]:By),(⟨0,0,0,0,0,0,0,([]:By),0,0,(⟨0,0⟩:Zb),(⟨0,0⟩:Zb),(⟨0,0⟩:Zb)⟩:Zg)⟩:Zc) a0.Kind (a0.Kind==7)))<|.br (a0.Kind==8) (.jn 0 (.L0 a0 (⟨0,0,0,([]:By),(⟨0,0,0,0,0,0,0,([]:By),0,0,(⟨0,0⟩:Zb),(⟨0,0⟩:Zb),(⟨0,0⟩:Zb)⟩:Zg)⟩:Zc) (⟨a0.Kind,0,0,([]:By),(⟨0,0,0,0,0,0,0,([]:By),0,0,(⟨0,0⟩:Zb),(⟨0,0⟩:Zb),(⟨0,0⟩:Zb)⟩:Zg)⟩:Zc) a0.Kind (a0.Kind==8)) (tm13 1000 3000) (Zhj a0 (⟨0,0,0,([]:By),(⟨0,0,0,0,0,0,0,([]:By),0,0,(⟨0,0⟩:Zb),(⟨0,0⟩:Zb),(⟨0,0⟩:Zb)⟩:Zg)⟩:Zc) (⟨a0.Kind,0,0,([]:By),(⟨0,0,0,0,0,0,0,([]:By),0,0,(⟨0,0⟩:Zb),(⟨0,0⟩:Zb),(⟨0,0⟩:Zb)⟩:Zg)⟩:Zc) a0.Kind (a0.Kind==8)))<|.jn 0 (.L0 a0 (⟨0,0,0,([]:By),(⟨0,0,0,0,0,0,0,([]:By),0,0,(⟨0,0⟩:Zb),(⟨0,0⟩:Zb),(⟨0,0⟩:Zb)⟩:Zg)⟩:Zc) (⟨a0.Kind,0,0,([]:By),(⟨0,0,0,0,0,0,0,([]:By),0,0,(⟨0,0⟩:Zb),(⟨0,0⟩:Zb),(⟨0,0⟩:Zb)⟩:Zg)⟩:Zc) a0.Kind (a0.Kind==9)) (tm13 1000 3000) (Zhj a0 (⟨0,0,0,([]:By),(⟨0,0,0,0,0,0,0,([]:By),0,0,(⟨0,0⟩:Zb),(⟨0,0⟩:Zb),(⟨0,0⟩:Zb)⟩:Zg)⟩:Zc) (⟨a0.Kind,0,0,([]:By),(⟨0,0,0,0,0,0,0,([]:By),0,0,(⟨0,0⟩:Zb),(⟨0,0⟩:Zb),(⟨0,0⟩:Zb)⟩:Zg)⟩:Zc) a0.Kind (a0.Kind==9))
def Zam3:LF Zp2 Zc := .m0 203 [.c 2 79 true 20] (fun r=>(wA (Zk r))) fun | .L0 E0 E1 E2 v8 v9=>([1,1,0,1,4,1],⟨40,[(1,.bptr 3000 0),(2,.bptr 3001 0),(3,.bptr 3002 0),(8,wI v8),(9,wB v9)],[(3000,.box (bx (Zk E0))),(3001,.box (bx (Zk E1))),(3002,.box (bx (Zk E2)))]⟩,Zhj E0 E1 E2 v8 v9) | .L1 E0 E1 E2 v8 v19=>([1,1,0,1,4,1,3,1],⟨40,[(1,.bptr 3000 0),(2,.bptr 3001 0),(3,.bptr 3002 0),(8,wI v8),(19,wB v19)],[(3000,.box (bx (Zk E0))),(3001,.box (bx (Zk E1))),(3002,.box (bx (Zk E2)))]⟩,Zq9 E0 E1 E2 v8 v19)
def Zayb:=fun a0=>Zam3.run (Zam2 a0)
theorem Za03(a0){r}(h:Zayb a0=some r):Fn PR 203 [wA (Zk a0)] (wA (Zk r)):=Zam3.fn h
inductive Zr5 where
 | L0 (E0:Zc) (v14:Int) (v15:Bool)
 | L1 (E0:Zc) (v14:Int) (v27:Bool)
 | L2 (E0:Zc) (v14:Int) (v43:Bool)
def Zxh(E0:Zc)(v14:Int)(v43:Bool):LT Zr5 Bool:=
.br v43 (.call (Zkj E0.N 1 131071) fun x2=>.rt x2)<|.br (v14==11) (.call (Zac3 E0.Filter) fun x5=>.rt x5)<|.br (v14==12) (.call (Zkj E0.N 0 99) fun x8=>.cs x8 (.k3 3<|.call (Zkj E0.M 0 99) fun x11=>.kg 3<|.rt x11)<|.k4 3<|.rt false)<|.br (v14==13) (.call (Zkj E0.N (-99) 99) fun x14=>.cs x14 (.k3 4<|.call (Zkj E0.M (-99) 99) fun x17=>.kg 4<|.rt x17)<|.k4 4<|.rt false)<|.rt true
def Zxi(E0:Zc)(v14:Int)(v27:Bool):LT Zr5 Bool:=
.br v27 (.call (Zyc E0.Sub) fun x2=>.rt x2)<|.br (v14==6) (.call (Zkj E0.N 0 31) fun x5=>.rt x5)<|.br (v14==7) (.call (Zkj E0.N 1 31) fun x8=>.rt x8)<|.br (v14==8) (.j0 (.L2 E0 v14 (v14==8)) (Zxh E0 v14 (v14==8)))<|.j0 (.L2 E0 v14 (v14==9)) (Zxh E0 v14 (v14==9))
def Zxj(E0:Zc)(v14:Int)(v15:Bool):LT Zr5 Bool:=
.br v15 (.call (Zkj E0.N 1 63) fun x2=>.cs x2 (.k5 1<|.rt ((Zau .and .i64 E0.N 6)==0))<|.k5 1<|.rt false)<|.br (v14==4) (.j0 (.L1 E0 v14 (v14==4)) (Zxi E0 v14 (v14==4)))<|.j0 (.L1 E0 v14 (v14==5)) (Zxi E0 v14 (v14==5))
def Zayc(a0:Zc):LT Zr5 Bool:=
.lb 1001<|.call (Zkj a0.Kind 1 14) fun x1=>.cs (!x1) (.k5 0<|.kn [0]<|.rt false)<|.k3 0<|.call (Za03 a0) fun x4=>.k2 0<|.br (!(Z1 (Zk a0) (Zk x4))) (.rt false)<|.br (a0.Kind==2) (.jn 0 (.L0 a0 a0.Kind (a0.Kind==2)) [.relab 1001 3000] (Zxj a0 a0.Kind (a0.Kind==2)))<|.jn 0 (.L0 a0 a0.Kind (a0.Kind==3)) [.relab 1001 3000] (Zxj a0 a0.Kind (a0.Kind==3))
def Zayd:LF Zr5 Bool := .m0 159 [.t 2] wB fun | .L0 E0 v14 v15=>([1,1,0,1,4,1],⟨74,[(1,.bptr 3000 0),(14,wI v14),(15,wB v15)],[(3000,.box (bx (Zk E0)))]⟩,Zxj E0 v14 v15) | .L1 E0 v14 v27=>([1,1,0,1,4,1,3,1],⟨74,[(1,.bptr 3000 0),(14,wI v14),(27,wB v27)],[(3000,.box (bx (Zk E0)))]⟩,Zxi E0 v14 v27) | .L2 E0 v14 v43=>([1,1,0,1,4,1,3,1,3,1,3,1,3,1],⟨74,[(1,.bptr 3000 0),(14,wI v14),(43,wB v43)],[(3000,.box (bx (Zk E0)))]⟩,Zxh E0 v14 v43)
def Za8c:=fun a0=>Zayd.run (Zayc a0)
theorem Za8d(a0){r}(h:Za8c a0=some r):Fn PR 159 [wA (Zk a0)] (wB r):=Zayd.fn h
def Zuv(a0:By)(a1:By):LT Empty Bool:=
.rt (!(Op.bytesLess a0 a1))
def Zuw:LF Empty Bool := .z0 206 [.t 3] wB
def Zzj:=fun a0 a1=>Zuw.run (Zuv a0 a1)
theorem Z8j(a0)(a1){r}(h:Zzj a0 a1=some r):Fn PR 206 [wS a0,.vptr (cS a1)] (wB r):=Zuw.fn h
inductive Za2 where
 | L0 (v0:Bys) (w1_0:By) (v7:Int) (v8:Int)
def Zd2(v0:Bys)(w1_0:By)(v7:Int)(v8:Int):LT Za2 Int:=
.br (decide (v8 < v7)) (.idx cS v0 v8 fun x2=>.call (Z8j x2 w1_0) fun x4=>.br x4 (.rt v8)<|.g0 (.L0 v0 w1_0 v7 (IntKind.wrap .i64 (v8+1))))<|.rt (-1)
def Zea(a0:Bys)(a1:By):LT Za2 Int:=
.len cS a0<|.g0 (.L0 a0 a1 (a0.length:Int) 0)
def Zcb:LF Za2 Int := .m0 205 [.t 4] wI fun | .L0 v0 w1_0 v7 v8=>([1,0,1,4],⟨19,[(0,wL cS v0),(1,.fn 206 [.vptr (cS w1_0)]),(7,wI v7),(8,wI v8)],[]⟩,Zd2 v0 w1_0 v7 v8)
def Zei:=fun a0 a1=>Zcb.run (Zea a0 a1)
theorem Zid(a0)(a1){r}(h:Zei a0 a1=some r):Fn PR 205 [wL cS a0,.fn 206 [.vptr (cS a1)]] (wI r):=Zcb.fn h
def Zgh(b0:Bys)(a1:Int)(b1:Bys):Option (Bys):=ins? 16 b0 a1 b1
theorem Zfo(b0)(a1)(b1){r}(h:Zgh b0 a1 b1=some r):FnG PR 207 [(0,wR cS 1 b0),(1,wR cS 1 b1)] [wO cS 0 b0,wI a1,wO cS 1 b1] [(5000,wR cS 1 r)] (wO cS 5000 r):=Zba9.okO (fun x=>⟨_,rfl⟩) b0 a1 b1 h
def Z94(a0:Z7)(a1:By):LT Empty Z7:=
.lb 1002<|.lb 1003<|.lb 1004<|.callF (Zfm a0.Subs) 90000 fun x1=>.call (Zyc a1) fun x3=>.cs (!x3) (.k4 0<|.b5 true<|.kn [0]<|.ret (⟨a0.Super,a0.Types,x1⟩:Z7) [.relab 95000 5002])<|.k3 0<|.rl cS x1<|.call (Z6z (⟨a0.Super,a0.Types,x1⟩:Z7) a1) fun x6=>.kg 0<|.cs x6 (.k5 1<|.kn [0]<|.ret (⟨a0.Super,a0.Types,x1⟩:Z7) [.relab 95000 5002])<|.k3 1<|.lenO cS x1<|.k2 1<|.br (decide ((x1.length:Int)>=4)) (.ret (⟨a0.Super,a0.Types,x1⟩:Z7) [.relab 95000 5002])<|.rl cS x1<|.call (Zid x1 a1) fun x10=>.br (decide (x10 < 0)) (.lenO cS x1<|.lb 1038<|.callU (Zfo x1 (x1.length:Int) [a1]) [95000,1038] 400000 fun x13=>.ret (⟨a0.Super,a0.Types,x13⟩:Z7) [.relab 405000 5002])<|.lb 1038<|.callU (Zfo x1 x10 [a1]) [95000,1038] 400000 fun x15=>.ret (⟨a0.Super,a0.Types,x15⟩:Z7) [.relab 405000 5002]
def Z95:LF Empty Z7 := .z 160 [.c 4 63 true 3] true (fun r=>[(5002,wR cS 1 r.Subs)]) (fun r=>(.agg [wI r.Super,wI r.Types,wO cS 5002 r.Subs]))
def Zahk:=fun a0 a1=>Z95.run (Z94 a0 a1)
theorem Zam4(a0)(a1){r}(h:Zahk a0 a1=some r):FnG PR 160 [] [wA (Zhg a0),wS a1] [(5002,wR cS 1 r.Subs)] (.agg [wI r.Super,wI r.Types,wO cS 5002 r.Subs]):=Z95.fn h
def Zahl(a0:Za)(a1:Zc)(a2:Int)(a3:Int):LT Empty Za:=
.lb 1004<|.lb 1005<|.lb 1008<|.callF (Zapd a0) 110000 fun x1=>.call (Za8d a1) fun x3=>.br (!x3) (.ret x1 [.relab 115011 5011,.relab 115015 5015])<|.br (a1.Kind==1) (.ret (⟨x1.Name,x1.Cost,x1.Colors,x1.Line,x1.Power,x1.Tough,x1.Keys,x1.Abilities,a2⟩:Za) [.relab 115011 5011,.relab 115015 5015])<|.br (a1.Kind==2) (.ret (⟨x1.Name,x1.Cost,x1.Colors,(⟨x1.Line.Super,a1.N,x1.Line.Subs⟩:Z7),x1.Power,x1.Tough,x1.Keys,x1.Abilities,x1.Control⟩:Za) [.relab 115011 5011,.relab 115015 5015])<|.br (a1.Kind==3) (.ret (⟨x1.Name,x1.Cost,x1.Colors,(⟨x1.Line.Super,Zau .or .i64 x1.Line.Types a1.N,x1.Line.Subs⟩:Z7),x1.Power,x1.Tough,x1.Keys,x1.Abilities,x1.Control⟩:Za) [.relab 115011 5011,.relab 115015 5015])<|.br (a1.Kind==4) (.lb 1041<|.ret (⟨x1.Name,x1.Cost,x1.Colors,(⟨x1.Line.Super,x1.Line.Types,[a1.Sub]⟩:Z7),x1.Power,x1.Tough,x1.Keys,x1.Abilities,x1.Control⟩:Za) [.relab 1041 5011,.relab 115015 5015])<|.br (a1.Kind==5) (.rl cS x1.Line.Subs<|.callS (Zam4 x1.Line a1.Sub) 510000 (fun _=>⟨rfl,Z0g cS (fun _=>rfl) _,trivial⟩) fun x11=>.ret (⟨x1.Name,x1.Cost,x1.Colors,x11,x1.Power,x1.Tough,x1.Keys,x1.Abilities,x1.Control⟩:Za) [.relab 515002 5011,.relab 115015 5015])<|.br (a1.Kind==6) (.ret (⟨x1.Name,x1.Cost,a1.N,x1.Line,x1.Power,x1.Tough,x1.Keys,x1.Abilities,x1.Control⟩:Za) [.relab 115011 5011,.relab 115015 5015])<|.br (a1.Kind==7) (.ret (⟨x1.Name,x1.Cost,Zau .or .i64 x1.Colors a1.N,x1.Line,x1.Power,x1.Tough,x1.Keys,x1.Abilities,x1.Control⟩:Za) [.relab 115011 5011,.relab 115015 5015])<|.br (a1.Kind==8) (.ret (⟨x1.Name,x1.Cost,x1.Colors,x1.Line,x1.Power,x1.Tough,Zau .or .i64 x1.Keys a1.N,x1.Abilities,x1.Control⟩:Za) [.relab 115011 5011,.relab 115015 5015])<|.br (a1.Kind==9) (.ret (⟨x1.Name,x1.Cost,x1.Colors,x1.Line,x1.Power,x1.Tough,Zau .andNot .i64 x1.Keys a1.N,x1.Abilities,x1.Control⟩:Za) [.relab 115011 5011,.relab 115015 5015])<|.br (a1.Kind==10) (.ret (⟨x1.Name,x1.Cost,x1.Colors,x1.Line,x1.Power,x1.Tough,0,([]:List Zd),x1.Control⟩:Za) [.relab 115011 5011,.ownb 1008 15 5015 72])<|.br (a1.Kind==11) (.call (Zek a3) fun x19=>.call (Zek a3) fun x21=>.ret (⟨x1.Name,x1.Cost,x1.Colors,x1.Line,x19,x21,x1.Keys,x1.Abilities,x1.Control⟩:Za) [.relab 115011 5011,.relab 115015 5015])<|.br (a1.Kind==12) (.ret (⟨x1.Name,x1.Cost,x1.Colors,x1.Line,a1.N,a1.M,x1.Keys,x1.Abilities,x1.Control⟩:Za) [.relab 115011 5011,.relab 115015 5015])<|.br (a1.Kind==13) (.call (Zts x1.Power a1.N) fun x25=>.call (Zts x1.Tough a1.M) fun x27=>.ret (⟨x1.Name,x1.Cost,x1.Colors,x1.Line,x25,x27,x1.Keys,x1.Abilities,x1.Control⟩:Za) [.relab 115011 5011,.relab 115015 5015])<|.br (a1.Kind==14) (.ret (⟨x1.Name,x1.Cost,x1.Colors,x1.Line,x1.Tough,x1.Power,x1.Keys,x1.Abilities,x1.Control⟩:Za) [.relab 115011 5011,.relab 115015 5015])<|.ret x1 [.relab 115011 5011,.relab 115015 5015]
def Zahm:LF Empty Za := .z 106 [.c 8 66 true 17] true (fun r=>[(5011,wR cS 1 r.Line.Subs),(5015,wR Zi 72 r.Abilities)]) (fun r=>(.agg (tm2 r 5000)))
def Zac9:=fun a0 a1 a2 a3=>Zahm.run (Zahl a0 a1 a2 a3)
theorem Zas4(a0)(a1)(a2)(a3){r}(h:Zac9 a0 a1 a2 a3=some r):FnG PR 106 [] [wA (Zj a0),wA (Zk a1),wI a2,wI a3] [(5011,wR cS 1 r.Line.Subs),(5015,wR Zi 72 r.Abilities)] (.agg (tm2 r 5000)):=Zahm.fn h
theorem Zaye(a0:Za)(a1:Zc)(a2:Int)(a3:Int){r:Za}(h:Zac9 a0 a1 a2 a3=some r):Fn PR 106 [wA (Zj a0),wA (Zk a1),wI a2,wI a3] (wA (Zj r)):=
 FnG.frozen (C:=LT.RL cS r.Line.Subs/\LT.RL Zi r.Abilities/\True) (Zas4 a0 a1 a2 a3 h) ⟨rfl,rfl,trivial⟩ (by kernel_rfl)
inductive Zij where
 | L0 (v3:List Int) (v6:List Int) (v7:Int) (v8:Int)
def Zxk(v3:List Int)(v6:List Int)(v7:Int)(v8:Int):LT Zij (List Int):=
.br (decide (v8 < v7)) (.idx (cI .i64) v6 v8 fun x2=>.cs (decide (x2>=0)) (.k3 1<|.rl (cI .i64) v3<|.call (Zk1 v3 x2) fun x5=>.k2 1<|.br (!x5) (.dr [.lit]<|.apR (cI .i64) 8 v3 [x2] fun x8=>.g0 (.L0 x8 v6 v7 (IntKind.wrap .i64 (v8+1))))<|.g0 (.L0 v3 v6 v7 (IntKind.wrap .i64 (v8+1))))<|.k5 1<|.kn [0]<|.g0 (.L0 v3 v6 v7 (IntKind.wrap .i64 (v8+1))))<|.ret v3 [.relab 20003 5000]
def Zzk(a0:List Int):LT Zij (List Int):=
.len (cI .i64) a0<|.go (.L0 ([]:List Int) a0 (a0.length:Int) 0) [.own 3 20003 1]
def Zqk:LF Zij (List Int) := .m 145 [.t 2] true (fun r=>[(5000,wR (cI .i64) 1 r)]) (fun r=>(wO (cI .i64) 5000 r)) fun | .L0 v3 v6 v7 v8=>([1,1,0,1,4],⟨26,[(3,wO (cI .i64) 20003 v3),(6,wL (cI .i64) v6),(7,wI v7),(8,wI v8)],[(20003,wR (cI .i64) 1 v3)]⟩,Zxk v3 v6 v7 v8)
def Zt2:=fun a0=>Zqk.run (Zzk a0)
theorem Zaa4(a0){r}(h:Zt2 a0=some r):FnG PR 145 [] [wL (cI .i64) a0] [(5000,wR (cI .i64) 1 r)] (wO (cI .i64) 5000 r):=Zqk.fn h
theorem Zada(a0:List Int){r:List Int}(h:Zt2 a0=some r):Fn PR 145 [wL (cI .i64) a0] (wL (cI .i64) r):=
 FnG.frozen (C:=LT.RL (cI .i64) r/\True) (Zaa4 a0 h) ⟨rfl,trivial⟩ (by kernel_rfl)
def Z3u(a0:List (List Bool))(a1:Int)(a2:Int):LT Empty Bool:=
.cs (decide (a1>=0)) (.k3 0<|.cs (decide (a2>=0)) (.k3 1<|.len (cL cB) a0<|.k2 1<|.cs (decide (a1 < (a0.length:Int))) (.k4 2<|.idx (cL cB) a0 a1 fun x5=>.k2 2<|.len cB x5<|.k2 2<|.cs (decide (a2 < (x5.length:Int))) (.k3 3<|.ag (cL cB) x5 0<|.k3 3<|.idx cB x5 a2 fun x9=>.k2 3<|.rt x9)<|.k8 3<|.rt false)<|.k8 2<|.b8 false<|.rt false)<|.k5 1<|.b16 false<|.rt false)<|.k3 0<|.b16 false<|.b5 false<|.rt false
def Z3v:LF Empty Bool := .z0 149 [.t 6] wB
def Z96:=fun a0 a1 a2=>Z3v.run (Z3u a0 a1 a2)
theorem Z1h(a0)(a1)(a2){r}(h:Z96 a0 a1 a2=some r):Fn PR 149 [wL (cL cB) a0,wI a1,wI a2] (wB r):=Z3v.fn h
inductive Zev where
 | L0 (v1:List (List Bool)) (E0:List Int) (v5:Int) (E1:List (List Bool)) (v17:Int) (v18:Int)
 | L1 (v1:List (List Bool)) (E0:List Int) (v5:Int) (E1:List (List Bool)) (v7:Int) (v17:Int) (v18:Int) (v26:Int) (v27:Int)
 | L2 (E0:List Int) (v5:Int) (E1:List (List Bool)) (v48:Int) (v49:Int)
 | L3 (E0:List Int) (v5:Int) (E1:List (List Bool)) (v9:Int) (v48:Int) (v49:Int) (v52:Int) (v53:Int)
 | L4 (E0:List Int) (v5:Int) (E1:List (List Bool)) (v9:Int) (v10:Int) (v48:Int) (v49:Int) (v52:Int) (v53:Int) (v56:Int) (v57:Int)
def Z3w(v1:List (List Bool))(E0:List Int)(v5:Int)(E1:List (List Bool))(v17:Int)(v18:Int):LT Zev ((List Int)×(List (List Bool))):=
.br (decide (v18 < v17)) (.mk cB 1024 1 false v5 v5 fun x2=>.idM cB E1 v18 fun x4=>.stR cB E1 v18 x2 0 fun x6=>.dr [.ahead 26,.relen 40100,.stop]<|.us [2]<|.us [2]<|.g0 (.L1 v1 E0 v5 x6 v18 v17 v18 v5 0))<|.g0 (.L2 E0 v5 E1 v5 0)
def Z3x(v1:List (List Bool))(E0:List Int)(v5:Int)(E1:List (List Bool))(v7:Int)(v17:Int)(v18:Int)(v26:Int)(v27:Int):LT Zev ((List Int)×(List (List Bool))):=
.br (decide (v27 < v26)) (.idM cB E1 v7 fun x2=>.ldM cB E1 0<|.idx (cI .i64) E0 v7 fun x4=>.idx (cI .i64) E0 v27 fun x6=>.call (Z1h v1 x4 x6) fun x8=>.idN cB E1 x2 v27 0 fun x10=>.stM cB E1 v7 x2 v27 x8 0 8 fun x12=>.dr [.ahead 46,.relen 40100,.stop]<|.us [10]<|.us [10]<|.g0 (.L1 v1 E0 v5 x12 v7 v17 v18 v26 (IntKind.wrap .i64 (v27+1))))<|.g0 (.L0 v1 E0 v5 E1 v17 (IntKind.wrap .i64 (v18+1)))
def Z3y(E0:List Int)(v5:Int)(E1:List (List Bool))(v48:Int)(v49:Int):LT Zev ((List Int)×(List (List Bool))):=
.br (decide (v49 < v48)) (.g0 (.L3 E0 v5 E1 v49 v48 v49 v5 0))<|.rl (cL cB) E1<|.ret (E0,E1) [.frz 3000,.frz 40100,.frz 3001]
def Z3z(E0:List Int)(v5:Int)(E1:List (List Bool))(v9:Int)(v48:Int)(v49:Int)(v52:Int)(v53:Int):LT Zev ((List Int)×(List (List Bool))):=
.br (decide (v53 < v52)) (.g0 (.L4 E0 v5 E1 v9 v53 v48 v49 v52 v53 v5 0))<|.g0 (.L2 E0 v5 E1 v48 (IntKind.wrap .i64 (v49+1)))
def Z30(E0:List Int)(v5:Int)(E1:List (List Bool))(v9:Int)(v10:Int)(v48:Int)(v49:Int)(v52:Int)(v53:Int)(v56:Int)(v57:Int):LT Zev ((List Int)×(List (List Bool))):=
.br (decide (v57 < v56)) (.idM cB E1 v10 fun x2=>.ldM cB E1 0<|.idN cB E1 x2 v9 0 fun x4=>.ldN cB E1 x2 x4 1 3<|.cs x4 (.k3 1<|.idM cB E1 v9 fun x7=>.kg 1<|.ldM cB E1 4<|.k2 1<|.idN cB E1 x7 v57 4 fun x9=>.kg 1<|.ldN cB E1 x7 x9 5 7<|.kg 1<|.br x9 (.idM cB E1 v10 fun x12=>.ldM cB E1 8<|.idN cB E1 x12 v57 8 fun x14=>.stM cB E1 v10 x12 v57 true 8 10 fun x16=>.dr [.ahead 82,.relen 40100,.stop]<|.us [12]<|.us [12]<|.us [12]<|.us [12]<|.g0 (.L4 E0 v5 x16 v9 v10 v48 v49 v52 v53 v56 (IntKind.wrap .i64 (v57+1))))<|.g0 (.L4 E0 v5 E1 v9 v10 v48 v49 v52 v53 v56 (IntKind.wrap .i64 (v57+1))))<|.k8 1<|.kn [0]<|.g0 (.L4 E0 v5 E1 v9 v10 v48 v49 v52 v53 v56 (IntKind.wrap .i64 (v57+1))))<|.g0 (.L3 E0 v5 E1 v9 v48 v49 v52 (IntKind.wrap .i64 (v53+1)))
def Z62(a0:List Int)(a1:List (List Bool)):LT Zev ((List Int)×(List (List Bool))):=
.lb 1002<|.len (cI .i64) a0<|.mkE cB 1015 24 (a0.length:Int) (a0.length:Int) fun x2=>.dr [.ahead 6,.tomat 1015,.stop]<|.us [0]<|.lb 1006<|.lenO (cL cB) x2<|.go (.L0 a1 a0 (a0.length:Int) x2 (x2.length:Int) 0) [.relab 1002 3000,.relab 1006 3001,.relab 1015 40100]
def Zg3:LF Zev ((List Int)×(List (List Bool))) := .m0 146 [.t 4] (fun r=>(.fn 192 [.vptr ((cL (cI .i64)) r.1),.vptr ((cL (cL cB)) r.2)])) fun | .L0 v1 E0 v5 E1 v17 v18=>([1,1,1,0,1,4],⟨86,[(1,wL (cL cB) v1),(2,.bptr 3000 0),(5,wI v5),(6,.bptr 3001 0),(17,wI v17),(18,wI v18)],[(3000,.box (bx ((cL (cI .i64)) E0))),(3001,.box [wM (cL cB) 40100 E1]),(40100,wT (cL cB) E1)]⟩,Z3w v1 E0 v5 E1 v17 v18) | .L1 v1 E0 v5 E1 v7 v17 v18 v26 v27=>([1,1,1,0,1,4,5,1,1,0,4,1,1,1,4],⟨86,[(1,wL (cL cB) v1),(2,.bptr 3000 0),(5,wI v5),(6,.bptr 3001 0),(7,wI v7),(17,wI v17),(18,wI v18),(26,wI v26),(27,wI v27)],[(3000,.box (bx ((cL (cI .i64)) E0))),(3001,.box [wM (cL cB) 40100 E1]),(40100,wT (cL cB) E1)]⟩,Z3x v1 E0 v5 E1 v7 v17 v18 v26 v27) | .L2 E0 v5 E1 v48 v49=>([1,1,1,1,0,1,4],⟨86,[(2,.bptr 3000 0),(5,wI v5),(6,.bptr 3001 0),(48,wI v48),(49,wI v49)],[(3000,.box (bx ((cL (cI .i64)) E0))),(3001,.box [wM (cL cB) 40100 E1]),(40100,wT (cL cB) E1)]⟩,Z3y E0 v5 E1 v48 v49) | .L3 E0 v5 E1 v9 v48 v49 v52 v53=>([1,1,1,1,0,1,4,5,1,1,0,4,1,1,4],⟨86,[(2,.bptr 3000 0),(5,wI v5),(6,.bptr 3001 0),(9,wI v9),(48,wI v48),(49,wI v49),(52,wI v52),(53,wI v53)],[(3000,.box (bx ((cL (cI .i64)) E0))),(3001,.box [wM (cL cB) 40100 E1]),(40100,wT (cL cB) E1)]⟩,Z3z E0 v5 E1 v9 v48 v49 v52 v53) | .L4 E0 v5 E1 v9 v10 v48 v49 v52 v53 v56 v57=>([1,1,1,1,0,1,4,5,1,1,0,4,1,1,4,5,1,1,0,4,1,1,4],⟨86,[(2,.bptr 3000 0),(5,wI v5),(6,.bptr 3001 0),(9,wI v9),(10,wI v10),(48,wI v48),(49,wI v49),(52,wI v52),(53,wI v53),(56,wI v56),(57,wI v57)],[(3000,.box (bx ((cL (cI .i64)) E0))),(3001,.box [wM (cL cB) 40100 E1]),(40100,wT (cL cB) E1)]⟩,Z30 E0 v5 E1 v9 v10 v48 v49 v52 v53 v56 v57)
def Zadb:=fun a0 a1=>Zg3.run (Z62 a0 a1)
theorem Zam5(a0)(a1){r}(h:Zadb a0 a1=some r):Fn PR 146 [wL (cI .i64) a0,wL (cL cB) a1] (.fn 192 [.vptr ((cL (cI .i64)) r.1),.vptr ((cL (cL cB)) r.2)]):=Zg3.fn h
def Zo8(a0:Int)(a1:Int)(a2:List Int)(a3:List (List Bool)):LT Empty Bool:=
.call (Zia a2 a0) fun x1=>.call (Zia a2 a1) fun x3=>.cs (decide (x1>=0)) (.k3 0<|.cs (decide (x3>=0)) (.k3 1<|.idx (cL cB) a3 x1 fun x7=>.k3 1<|.idx cB x7 x3 fun x9=>.k2 1<|.rt x9)<|.k8 1<|.rt false)<|.k3 0<|.b8 false<|.rt false
def Zo9:LF Empty Bool := .z0 192 [.t 6] wB
def Zra:=fun a0 a1 a2 a3=>Zo9.run (Zo8 a0 a1 a2 a3)
theorem Zzw(a0)(a1)(a2)(a3){r}(h:Zra a0 a1 a2 a3=some r):Fn PR 192 [wI a0,wI a1,.vptr ((cL (cI .i64)) a2),.vptr ((cL (cL cB)) a3)] (wB r):=Zo9.fn h
def Zjr(a0:Int)(b0:Int)(b1:List (List Bool))(b2:(List Int)×(List (List Bool))):LT Empty Bool:=
.cs (a0 != b0) (.k4 0<|.call (Z1h b1 b0 a0) fun x2=>.kg 0<|.cs x2 (.k4 1<|.call (Zzw a0 b0 b2.1 b2.2) fun x5=>.k2 1<|.rt (!x5))<|.k5 1<|.kg 1<|.rt false)<|.k5 0<|.b5 false<|.kb false<|.rt false
def Zjs(b0:Int)(b1:List (List Bool))(b2:(List Int)×(List (List Bool))):LF Empty Bool := .z 148 [.t 5] true (fun r=>[(0,.box (bx ((cI .i64) b0))),(1,.box (bx ((cL (cL cB)) b1))),(2,.box [.fn 192 [.vptr ((cL (cI .i64)) b2.1),.vptr ((cL (cL cB)) b2.2)]])]) (fun r=>(wB r))
def Zk4(a0:Int)(b0:Int)(b1:List (List Bool))(b2:(List Int)×(List (List Bool))):Option Bool:=(Zjs b0 b1 b2).run (Zjr a0 b0 b1 b2)
theorem Zrb(a0:Int)(b0:Int)(b1:List (List Bool))(b2:(List Int)×(List (List Bool))){r:Bool}(h:Zk4 a0 b0 b1 b2=some r):FnG PR 148 [(0,.box (bx ((cI .i64) b0))),(1,.box (bx ((cL (cL cB)) b1))),(2,.box [.fn 192 [.vptr ((cL (cI .i64)) b2.1),.vptr ((cL (cL cB)) b2.2)]])] [wI a0,.bptr 0 0,.bptr 1 0,.bptr 2 0] [(0,.box (bx ((cI .i64) b0))),(1,.box (bx ((cL (cL cB)) b1))),(2,.box [.fn 192 [.vptr ((cL (cI .i64)) b2.1),.vptr ((cL (cL cB)) b2.2)]])] (wB r):=(Zjs b0 b1 b2).fn h
inductive Zbd where
 | L0 (v0:List Int) (c0:Int) (c1:List (List Bool)) (c2:(List Int)×(List (List Bool))) (v7:Int) (v8:Int)
def Ze1(v0:List Int)(c0:Int)(c1:List (List Bool))(c2:(List Int)×(List (List Bool)))(v7:Int)(v8:Int):LT Zbd (Int×Int×(List (List Bool))×((List Int)×(List (List Bool)))):=
.br (decide (v8 < v7)) (.idx (cI .i64) v0 v8 fun x2=>.callO (Zrb x2 c0 c1 c2) [0,1,2] 170000 (fun x=>[]) fun x4=>.br x4 (.rt (v8,c0,c1,c2))<|.g0 (.L0 v0 c0 c1 c2 v7 (IntKind.wrap .i64 (v8+1))))<|.rt ((-1),c0,c1,c2)
def Zfc(a0:List Int)(b0:Int)(b1:List (List Bool))(b2:(List Int)×(List (List Bool))):LT Zbd (Int×Int×(List (List Bool))×((List Int)×(List (List Bool)))):=
.len (cI .i64) a0<|.g0 (.L0 a0 b0 b1 b2 (a0.length:Int) 0)
def Zc2:LF Zbd (Int×Int×(List (List Bool))×((List Int)×(List (List Bool)))) := .m 107 [.t 4] true (fun r=>[(0,.box (bx ((cI .i64) r.2.1))),(1,.box (bx ((cL (cL cB)) r.2.2.1))),(2,.box [.fn 192 [.vptr ((cL (cI .i64)) r.2.2.2.1),.vptr ((cL (cL cB)) r.2.2.2.2)]])]) (fun r=>(wI r.1)) fun | .L0 v0 c0 c1 c2 v7 v8=>([1,0,1,4],⟨19,[(0,wL (cI .i64) v0),(1,.fn 148 [.bptr 0 0,.bptr 1 0,.bptr 2 0]),(7,wI v7),(8,wI v8)],[(0,.box (bx ((cI .i64) c0))),(1,.box (bx ((cL (cL cB)) c1))),(2,.box [.fn 192 [.vptr ((cL (cI .i64)) c2.1),.vptr ((cL (cL cB)) c2.2)]])]⟩,Ze1 v0 c0 c1 c2 v7 v8)
def Zfu:=fun a0 b0 b1 b2=>Zc2.run (Zfc a0 b0 b1 b2)
theorem Zjn(a0)(b0)(b1)(b2){r}(h:Zfu a0 b0 b1 b2=some r):FnG PR 107 [(0,.box (bx ((cI .i64) b0))),(1,.box (bx ((cL (cL cB)) b1))),(2,.box [.fn 192 [.vptr ((cL (cI .i64)) b2.1),.vptr ((cL (cL cB)) b2.2)]])] [wL (cI .i64) a0,.fn 148 [.bptr 0 0,.bptr 1 0,.bptr 2 0]] [(0,.box (bx ((cI .i64) r.2.1))),(1,.box (bx ((cL (cL cB)) r.2.2.1))),(2,.box [.fn 192 [.vptr ((cL (cI .i64)) r.2.2.2.1),.vptr ((cL (cL cB)) r.2.2.2.2)]])] (wI r.1):=Zc2.fn h
def Zel(a0:List Int)(b0:Int)(b1:List (List Bool))(b2:(List Int)×(List (List Bool))):LT Empty (Bool×Int×(List (List Bool))×((List Int)×(List (List Bool)))):=
.callU (Zjn a0 b0 b1 b2) [0,1,2] 80000 fun x1=>.rt (decide (x1.1>=0),x1.2.1,x1.2.2.1,x1.2.2.2)
def Zem:LF Empty (Bool×Int×(List (List Bool))×((List Int)×(List (List Bool)))) := .z 147 [.t 4] true (fun r=>[(0,.box (bx ((cI .i64) r.2.1))),(1,.box (bx ((cL (cL cB)) r.2.2.1))),(2,.box [.fn 192 [.vptr ((cL (cI .i64)) r.2.2.2.1),.vptr ((cL (cL cB)) r.2.2.2.2)]])]) (fun r=>(wB r.1))
def Ze2:=fun a0 b0 b1 b2=>Zem.run (Zel a0 b0 b1 b2)
theorem Ziw(a0)(b0)(b1)(b2){r}(h:Ze2 a0 b0 b1 b2=some r):FnG PR 147 [(0,.box (bx ((cI .i64) b0))),(1,.box (bx ((cL (cL cB)) b1))),(2,.box [.fn 192 [.vptr ((cL (cI .i64)) b2.1),.vptr ((cL (cL cB)) b2.2)]])] [wL (cI .i64) a0,.fn 148 [.bptr 0 0,.bptr 1 0,.bptr 2 0]] [(0,.box (bx ((cI .i64) r.2.1))),(1,.box (bx ((cL (cL cB)) r.2.2.1))),(2,.box [.fn 192 [.vptr ((cL (cI .i64)) r.2.2.2.1),.vptr ((cL (cL cB)) r.2.2.2.2)]])] (wB r.1):=Zem.fn h
inductive Zlx where
 | L0 (E0:List (List Bool)) (v5:List Int) (E1:(List Int)×(List (List Bool))) (v7:List Int) (v16:List Int) (v17:Int) (v18:Int)
def Z31(E0:List (List Bool))(v5:List Int)(E1:(List Int)×(List (List Bool)))(v7:List Int)(v16:List Int)(v17:Int)(v18:Int):LT Zlx (List Int):=
.br (decide (v18 < v17)) (.idx (cI .i64) v16 v18 fun x2=>.lb 1009<|.callU (Ziw v5 x2 E0 E1) [1009,3000,3001] 250000 fun x4=>.br (!x4.1) (.dr [.lit]<|.apR (cI .i64) 8 v7 [x4.2.1] fun x7=>.g0 (.L0 x4.2.2.1 v5 x4.2.2.2 x7 v16 v17 (IntKind.wrap .i64 (v18+1))))<|.g0 (.L0 x4.2.2.1 v5 x4.2.2.2 v7 v16 v17 (IntKind.wrap .i64 (v18+1))))<|.ret v7 [.relab 20007 5000]
def Z63(a0:List Int)(a1:List (List Bool)):LT Zlx (List Int):=
.lb 1003<|.call (Zada a0) fun x1=>.call (Zam5 x1 a1) fun x3=>.lb 1006<|.len (cI .i64) x1<|.go (.L0 a1 x1 x3 ([]:List Int) x1 (x1.length:Int) 0) [.relab 1003 3000,.relab 1006 3001,.own 7 20007 1]
def Zvj:LF Zlx (List Int) := .m 96 [.t 4] true (fun r=>[(5000,wR (cI .i64) 1 r)]) (fun r=>(wO (cI .i64) 5000 r)) fun | .L0 E0 v5 E1 v7 v16 v17 v18=>([1,1,1,1,0,1,4],⟨33,[(3,.bptr 3000 0),(5,wL (cI .i64) v5),(6,.bptr 3001 0),(7,wO (cI .i64) 20007 v7),(16,wL (cI .i64) v16),(17,wI v17),(18,wI v18)],[(3000,.box (bx ((cL (cL cB)) E0))),(3001,.box [.fn 192 [.vptr ((cL (cI .i64)) E1.1),.vptr ((cL (cL cB)) E1.2)]]),(20007,wR (cI .i64) 1 v7)]⟩,Z31 E0 v5 E1 v7 v16 v17 v18)
def Z1i:=fun a0 a1=>Zvj.run (Z63 a0 a1)
theorem Zai8(a0)(a1){r}(h:Z1i a0 a1=some r):FnG PR 96 [] [wL (cI .i64) a0,wL (cL cB) a1] [(5000,wR (cI .i64) 1 r)] (wO (cI .i64) 5000 r):=Zvj.fn h
theorem Zam6(a0:List Int)(a1:List (List Bool)){r:List Int}(h:Z1i a0 a1=some r):Fn PR 96 [wL (cI .i64) a0,wL (cL cB) a1] (wL (cI .i64) r):=
 FnG.frozen (C:=LT.RL (cI .i64) r/\True) (Zai8 a0 a1 h) ⟨rfl,trivial⟩ (by kernel_rfl)
def Z64(a0:List Int)(a1:Int):LT Empty Int:=
.len (cI .i64) a0<|.br (decide (a1 < (a0.length:Int))) (.idx (cI .i64) a0 a1 fun x3=>.rt x3)<|.rt 0
def Z65:LF Empty Int := .z0 97 [.t 4] wI
def Zadc:=fun a0 a1=>Z65.run (Z64 a0 a1)
theorem Z32(a0)(a1){r}(h:Zadc a0 a1=some r):Fn PR 97 [wL (cI .i64) a0,wI a1] (wI r):=Z65.fn h
inductive Znl where
 | L0 (v1:List Int) (v7:Int) (v14:List Int) (v15:Int) (v16:Int)
def Z66(v1:List Int)(v7:Int)(v14:List Int)(v15:Int)(v16:Int):LT Znl Int:=
.br (decide (v16 < v15)) (.idx (cI .i64) v14 v16 fun x2=>.br (decide (v7 < 0)) (.g0 (.L0 v1 x2 v14 v15 (IntKind.wrap .i64 (v16+1))))<|.call (Z32 v1 x2) fun x7=>.call (Z32 v1 v7) fun x9=>.cs (decide (x7 < x9)) (.k5 2<|.kg 2<|.kn [0]<|.g0 (.L0 v1 x2 v14 v15 (IntKind.wrap .i64 (v16+1))))<|.k4 2<|.cs (x7==x9) (.k3 3<|.kg 2<|.kg 3<|.kg 2<|.br (decide (x2 < v7)) (.g0 (.L0 v1 x2 v14 v15 (IntKind.wrap .i64 (v16+1))))<|.g0 (.L0 v1 v7 v14 v15 (IntKind.wrap .i64 (v16+1))))<|.k3 3<|.kg 2<|.kg 3<|.kg 2<|.kn [0]<|.g0 (.L0 v1 v7 v14 v15 (IntKind.wrap .i64 (v16+1))))<|.rt v7
def Z97(a0:List Int)(a1:List Int)(a2:List (List Bool)):LT Znl Int:=
.call (Zam6 a0 a2) fun x1=>.len (cI .i64) x1<|.g0 (.L0 a1 (-1) x1 (x1.length:Int) 0)
def Zyd:LF Znl Int := .m0 54 [.t 6] wI fun | .L0 v1 v7 v14 v15 v16=>([1,1,0,1,4],⟨45,[(1,wL (cI .i64) v1),(7,wI v7),(14,wL (cI .i64) v14),(15,wI v15),(16,wI v16)],[]⟩,Z66 v1 v7 v14 v15 v16)
def Zahn:=fun a0 a1 a2=>Zyd.run (Z97 a0 a1 a2)
theorem Zape(a0)(a1)(a2){r}(h:Zahn a0 a1 a2=some r):Fn PR 54 [wL (cI .i64) a0,wL (cI .i64) a1,wL (cL cB) a2] (wI r):=Zyd.fn h
inductive Zds where
 | L0 (c0:Ze) (v10:List Zf) (v11:Int) (v12:Int)
def Zg4(c0:Ze)(v10:List Zf)(v11:Int)(v12:Int):LT Zds Ze:=
.br (decide (v12 < v11)) (.idx Zn v10 v12 fun x2=>.lb 1003<|.idxR Zj c0.traits v12 fun x4=>.cs (x2.Zone==0) (.k2 1<|.rl Zj c0.traits<|.kg 1<|.rl Zj c0.traits<|.kg 1<|.rl Zj c0.traits<|.kg 1<|.ldR Zj c0.traits x4 5<|.k3 1<|.br ((Zau .and .i64 x4.Line.Types 1) != 0) (.call (Zai5 x2.Counters) fun x8=>.rl Zj c0.traits<|.rl Zj c0.traits<|.ldR Zj c0.traits x4 5<|.call (Zts x4.Power x8) fun x10=>.rl Zj c0.traits<|.rl Zj c0.traits<|.ldR Zj c0.traits x4 5<|.call (Zts x4.Tough x8) fun x12=>.rl Zj c0.traits<|.rl Zj c0.traits<|.setD Zj c0.traits v12 x4 (⟨x4.Name,x4.Cost,x4.Colors,x4.Line,x10,x4.Tough,x4.Keys,x4.Abilities,x4.Control⟩:Za) 5 12 [.int .i64 x10] rfl fun x14=>.us [8]<|.us [8]<|.setE Zj c0.traits x14 v12 (⟨x4.Name,x4.Cost,x4.Colors,x4.Line,x10,x4.Tough,x4.Keys,x4.Abilities,x4.Control⟩:Za) (⟨((⟨x4.Name,x4.Cost,x4.Colors,x4.Line,x10,x4.Tough,x4.Keys,x4.Abilities,x4.Control⟩:Za)).Name,(⟨(((⟨x4.Name,x4.Cost,x4.Colors,x4.Line,x10,x4.Tough,x4.Keys,x4.Abilities,x4.Control⟩:Za)).Cost).Generic,(((⟨x4.Name,x4.Cost,x4.Colors,x4.Line,x10,x4.Tough,x4.Keys,x4.Abilities,x4.Control⟩:Za)).Cost).X,(((⟨x4.Name,x4.Cost,x4.Colors,x4.Line,x10,x4.Tough,x4.Keys,x4.Abilities,x4.Control⟩:Za)).Cost).Color⟩:Zt),((⟨x4.Name,x4.Cost,x4.Colors,x4.Line,x10,x4.Tough,x4.Keys,x4.Abilities,x4.Control⟩:Za)).Colors,((⟨x4.Name,x4.Cost,x4.Colors,x4.Line,x10,x4.Tough,x4.Keys,x4.Abilities,x4.Control⟩:Za)).Line,((⟨x4.Name,x4.Cost,x4.Colors,x4.Line,x10,x4.Tough,x4.Keys,x4.Abilities,x4.Control⟩:Za)).Power,x12,((⟨x4.Name,x4.Cost,x4.Colors,x4.Line,x10,x4.Tough,x4.Keys,x4.Abilities,x4.Control⟩:Za)).Keys,((⟨x4.Name,x4.Cost,x4.Colors,x4.Line,x10,x4.Tough,x4.Keys,x4.Abilities,x4.Control⟩:Za)).Abilities,((⟨x4.Name,x4.Cost,x4.Colors,x4.Line,x10,x4.Tough,x4.Keys,x4.Abilities,x4.Control⟩:Za)).Control⟩:Za) 7 12 13 [.int .i64 x12] rfl fun x16=>.dr [.ahead 56,.relen 1,.stop]<|.us [9]<|.us [9]<|.us [9]<|.us [9]<|.us [9]<|.us [9]<|.us [9]<|.us [9]<|.us [9]<|.us [9]<|.us [9]<|.us [9]<|.us [9]<|.us [9]<|.us [9]<|.us [9]<|.us [9]<|.us [9]<|.us [9]<|.us [9]<|.g0 (.L0 (⟨c0.s,c0.forces,x16,c0.dropped,c0.done,c0.hits⟩:Ze) v10 v11 (IntKind.wrap .i64 (v12+1))))<|.g0 (.L0 c0 v10 v11 (IntKind.wrap .i64 (v12+1))))<|.k8 1<|.kn [0]<|.g0 (.L0 c0 v10 v11 (IntKind.wrap .i64 (v12+1))))<|.rt c0
def Zmi(b0:Ze):LT Zds Ze:=
.len Zn b0.s.Objects<|.g0 (.L0 b0 b0.s.Objects (b0.s.Objects.length:Int) 0)
def Zmj:LF Zds Ze := .m 52 [] true (fun r=>[(0,.box (tm0 r)),(1,wR Zj 17 r.traits),(2,wR cB 1 r.dropped),(3,wR cB 1 r.done),(4,wR (cL (cI .i64)) 1 r.hits)]) (fun r => .tup []) fun | .L0 c0 v10 v11 v12=>([1,4],⟨57,[(0,.bptr 0 0),(10,wL Zn v10),(11,wI v11),(12,wI v12)],[(0,.box (tm0 c0)),(1,wR Zj 17 c0.traits),(2,wR cB 1 c0.dropped),(3,wR cB 1 c0.done),(4,wR (cL (cI .i64)) 1 c0.hits)]⟩,Zg4 c0 v10 v11 v12)
def Zix:=fun b0=>Zmj.run (Zmi b0)
theorem Zun(b0){r}(h:Zix b0=some r):FnG PR 52 [(0,.box (tm0 b0)),(1,wR Zj 17 b0.traits),(2,wR cB 1 b0.dropped),(3,wR cB 1 b0.done),(4,wR (cL (cI .i64)) 1 b0.hits)] [.bptr 0 0] [(0,.box (tm0 r)),(1,wR Zj 17 r.traits),(2,wR cB 1 r.dropped),(3,wR cB 1 r.done),(4,wR (cL (cI .i64)) 1 r.hits)] (.tup []):=Zmj.fn h
inductive Zda where
 | L0 (v1:Int) (v2:Int) (E1:Z0) (v18:List Zc) (v19:Int) (v20:Int)
def Zkk(b0:Ze)(v1:Int)(v2:Int)(E1:Z0)(v18:List Zc)(v19:Int)(v20:Int):LT Zda Bool:=
.br (decide (v20 < v19)) (.idx Zk v18 v20 fun x2=>.lb 1009<|.cs (x2.Kind==11) (.k3 1<|.call (Ztt x2.Kind) fun x5=>.k3 1<|.cs (x5==v2) (.k4 2<|.call (Zxc x2.Filter v2) fun x8=>.kg 2<|.br x8 (.rt true)<|.g0 (.L0 v1 v2 E1 v18 v19 (IntKind.wrap .i64 (v20+1))))<|.k5 2<|.kn [0]<|.g0 (.L0 v1 v2 E1 v18 v19 (IntKind.wrap .i64 (v20+1))))<|.k5 1<|.kg 1<|.b5 false<|.kn [0]<|.g0 (.L0 v1 v2 E1 v18 v19 (IntKind.wrap .i64 (v20+1))))<|.cs (!E1.Fixed) (.k5 1<|.kg 1<|.idxR cB b0.done v1 fun x18=>.kg 1<|.ldR cB b0.done x18 2<|.k2 1<|.cs (!x18) (.k3 2<|.cs (v2==4) (.k4 3<|.kg 2<|.kg 3<|.kg 2<|.rt true)<|.k4 3<|.call (Zxc E1.Filter v2) fun x22=>.kg 2<|.kg 3<|.kg 2<|.rt x22)<|.k5 2<|.rt false)<|.k8 1<|.kg 1<|.b5 false<|.rt false
def Zk5(b0:Ze)(a1:Int)(a2:Int):LT Zda Bool:=
.idx Z6 b0.forces a1 fun x1=>.lb 1007<|.len Zk x1.Mods<|.go (.L0 a1 a2 x1 x1.Mods (x1.Mods.length:Int) 0) [.relab 1007 3001]
def Zgu(b0:Ze):LF Zda Bool := .m 98 [.t 6] true (fun r=>[(0,.box (tm0 b0)),(1,wR Zj 17 b0.traits),(2,wR cB 1 b0.dropped),(3,wR cB 1 b0.done),(4,wR (cL (cI .i64)) 1 b0.hits)]) wB fun | .L0 v1 v2 E1 v18 v19 v20=>([1,1,0,1,4],⟨64,[(0,.bptr 0 0),(1,wI v1),(2,wI v2),(7,.bptr 3001 0),(18,wL Zk v18),(19,wI v19),(20,wI v20)],[(0,.box (tm0 b0)),(1,wR Zj 17 b0.traits),(2,wR cB 1 b0.dropped),(3,wR cB 1 b0.done),(4,wR (cL (cI .i64)) 1 b0.hits),(3001,.box (bx (Z6 E1)))]⟩,Zkk b0 v1 v2 E1 v18 v19 v20)
def Zmk(b0:Ze)(a1:Int)(a2:Int):Option Bool:=(Zgu b0).run (Zk5 b0 a1 a2)
theorem Zsw(b0:Ze)(a1:Int)(a2:Int){r:Bool}(h:Zmk b0 a1 a2=some r):FnG PR 98 [(0,.box (tm0 b0)),(1,wR Zj 17 b0.traits),(2,wR cB 1 b0.dropped),(3,wR cB 1 b0.done),(4,wR (cL (cI .i64)) 1 b0.hits)] [.bptr 0 0,wI a1,wI a2] [(0,.box (tm0 b0)),(1,wR Zj 17 b0.traits),(2,wR cB 1 b0.dropped),(3,wR cB 1 b0.done),(4,wR (cL (cI .i64)) 1 b0.hits)] (wB r):=(Zgu b0).fn h
def Zly(b0:Ze)(a1:Int):LT Empty Bool:=
.idx Z6 b0.forces a1 fun x1=>.lb 1005<|.cs x1.Fixed (.k8 0<|.kn [0]<|.rt true)<|.k5 0<|.kg 0<|.idxR cB b0.done a1 fun x4=>.kg 0<|.ldR cB b0.done x4 5<|.kg 0<|.br x4 (.rt true)<|.call (Z6y b0.s x1.Source) fun x7=>.cs (decide (x7 < 0)) (.k8 2<|.kg 2<|.rt true)<|.k5 2<|.kg 2<|.idxR cB b0.dropped x7 fun x10=>.kg 2<|.ldR cB b0.dropped x10 8<|.k2 2<|.rt (!x10)
def Zlz(b0:Ze):LF Empty Bool := .z 151 [.t 4] true (fun r=>[(0,.box (tm0 b0)),(1,wR Zj 17 b0.traits),(2,wR cB 1 b0.dropped),(3,wR cB 1 b0.done),(4,wR (cL (cI .i64)) 1 b0.hits)]) (fun r=>(wB r))
def Znm(b0:Ze)(a1:Int):Option Bool:=(Zlz b0).run (Zly b0 a1)
theorem Zkl(b0:Ze)(a1:Int){r:Bool}(h:Znm b0 a1=some r):FnG PR 151 [(0,.box (tm0 b0)),(1,wR Zj 17 b0.traits),(2,wR cB 1 b0.dropped),(3,wR cB 1 b0.done),(4,wR (cL (cI .i64)) 1 b0.hits)] [.bptr 0 0,wI a1] [(0,.box (tm0 b0)),(1,wR Zj 17 b0.traits),(2,wR cB 1 b0.dropped),(3,wR cB 1 b0.done),(4,wR (cL (cI .i64)) 1 b0.hits)] (wB r):=(Zlz b0).fn h
def Zoa(b0:Ze)(a1:Int):LT Empty Int:=
.idx Z6 b0.forces a1 fun x1=>.lb 1005<|.call (Z6y b0.s x1.Source) fun x3=>.cs (!x1.Fixed) (.k3 0<|.br (decide (x3>=0)) (.idxR Zj b0.traits x3 fun x7=>.rl Zj b0.traits<|.ldR Zj b0.traits x7 5<|.rt x7.Control)<|.rt x1.Control)<|.k3 0<|.kn [0]<|.rt x1.Control
def Zob(b0:Ze):LF Empty Int := .z 105 [.t 4] true (fun r=>[(0,.box (tm0 b0)),(1,wR Zj 17 b0.traits),(2,wR cB 1 b0.dropped),(3,wR cB 1 b0.done),(4,wR (cL (cI .i64)) 1 b0.hits)]) (fun r=>(wI r))
def Zqe(b0:Ze)(a1:Int):Option Int:=(Zob b0).run (Zoa b0 a1)
theorem Zhu(b0:Ze)(a1:Int){r:Int}(h:Zqe b0 a1=some r):FnG PR 105 [(0,.box (tm0 b0)),(1,wR Zj 17 b0.traits),(2,wR cB 1 b0.dropped),(3,wR cB 1 b0.done),(4,wR (cL (cI .i64)) 1 b0.hits)] [.bptr 0 0,wI a1] [(0,.box (tm0 b0)),(1,wR Zj 17 b0.traits),(2,wR cB 1 b0.dropped),(3,wR cB 1 b0.done),(4,wR (cL (cI .i64)) 1 b0.hits)] (wI r):=(Zob b0).fn h
inductive Zc3 where
 | L0 (E1:Z0) (v6:Int) (v7:List Int) (v42:List Zf) (v43:Int) (v44:Int)
def Zjt(b0:Ze)(E1:Z0)(v6:Int)(v7:List Int)(v42:List Zf)(v43:Int)(v44:Int):LT Zc3 (List Int):=
.br (decide (v44 < v43)) (.idx Zn v42 v44 fun x2=>.lb 1009<|.cs (x2.Zone==0) (.k3 1<|.cs E1.Fixed (.k5 2<|.call (Zk1 E1.Objects x2.Id) fun x6=>.kg 1<|.kg 2<|.kg 1<|.cs x6 (.k5 3<|.kg 1<|.kg 3<|.kg 1<|.kn [0]<|.dr [.lit]<|.apR (cI .i64) 8 v7 [v44] fun x9=>.g0 (.L0 E1 v6 x9 v42 v43 (IntKind.wrap .i64 (v44+1))))<|.k4 3<|.cs (!E1.Fixed) (.k5 4<|.k2 4<|.idxR Zj b0.traits v44 fun x15=>.kg 4<|.ldR Zj b0.traits x15 5<|.k5 4<|.kg 4<|.call (Ztz x2 x15 v6 E1.Source E1.Filter) fun x17=>.kg 3<|.kg 4<|.kg 1<|.kg 3<|.kg 1<|.br x17 (.dr [.lit]<|.apR (cI .i64) 8 v7 [v44] fun x20=>.g0 (.L0 E1 v6 x20 v42 v43 (IntKind.wrap .i64 (v44+1))))<|.g0 (.L0 E1 v6 v7 v42 v43 (IntKind.wrap .i64 (v44+1))))<|.k8 4<|.k5 4<|.kg 4<|.kg 3<|.kg 4<|.kg 1<|.kg 3<|.kg 1<|.kn [0]<|.g0 (.L0 E1 v6 v7 v42 v43 (IntKind.wrap .i64 (v44+1))))<|.k5 2<|.kg 1<|.kg 2<|.kg 1<|.b4 false<|.cs (!E1.Fixed) (.k5 3<|.k2 3<|.idxR Zj b0.traits v44 fun x30=>.kg 3<|.ldR Zj b0.traits x30 5<|.k5 3<|.kg 3<|.call (Ztz x2 x30 v6 E1.Source E1.Filter) fun x32=>.kb false<|.kg 3<|.kg 1<|.kb false<|.kg 1<|.br x32 (.dr [.lit]<|.apR (cI .i64) 8 v7 [v44] fun x35=>.g0 (.L0 E1 v6 x35 v42 v43 (IntKind.wrap .i64 (v44+1))))<|.g0 (.L0 E1 v6 v7 v42 v43 (IntKind.wrap .i64 (v44+1))))<|.k8 3<|.k5 3<|.kg 3<|.kb false<|.kg 3<|.kg 1<|.kb false<|.kg 1<|.kn [0]<|.g0 (.L0 E1 v6 v7 v42 v43 (IntKind.wrap .i64 (v44+1))))<|.k5 1<|.k2 1<|.kn [0]<|.g0 (.L0 E1 v6 v7 v42 v43 (IntKind.wrap .i64 (v44+1))))<|.rl (cI .i64) v7<|.rl (cI .i64) v7<|.rl (cI .i64) v7<|.ret v7 [.frz 20007]
def Zkm(b0:Ze)(a1:Int):LT Zc3 (List Int):=
.idxR cB b0.done a1 fun x1=>.ldR cB b0.done x1 2<|.br x1 (.idxR (cL (cI .i64)) b0.hits a1 fun x4=>.ldR (cL (cI .i64)) b0.hits x4 5<|.rt x4)<|.callO (Zkl b0 a1) [0,1,2,3,4] 270000 (fun x=>[]) fun x6=>.br (!x6) (.ret ([]:List Int) [.nilt 4])<|.idx Z6 b0.forces a1 fun x9=>.callO (Zhu b0 a1) [0,1,2,3,4] 380000 (fun x=>[]) fun x11=>.lb 1005<|.len Zn b0.s.Objects<|.go (.L0 x9 x11 ([]:List Int) b0.s.Objects (b0.s.Objects.length:Int) 0) [.relab 1005 3001,.own 7 20007 1]
def Zgi(b0:Ze):LF Zc3 (List Int) := .m 103 [.t 4] true (fun r=>[(0,.box (tm0 b0)),(1,wR Zj 17 b0.traits),(2,wR cB 1 b0.dropped),(3,wR cB 1 b0.done),(4,wR (cL (cI .i64)) 1 b0.hits)]) (fun r=>(wL (cI .i64) r)) fun | .L0 E1 v6 v7 v42 v43 v44=>([1,1,1,1,1,0,1,4],⟨90,[(0,.bptr 0 0),(5,.bptr 3001 0),(6,wI v6),(7,wO (cI .i64) 20007 v7),(42,wL Zn v42),(43,wI v43),(44,wI v44)],[(0,.box (tm0 b0)),(1,wR Zj 17 b0.traits),(2,wR cB 1 b0.dropped),(3,wR cB 1 b0.done),(4,wR (cL (cI .i64)) 1 b0.hits),(3001,.box (bx (Z6 E1))),(20007,wR (cI .i64) 1 v7)]⟩,Zjt b0 E1 v6 v7 v42 v43 v44)
def Zl0(b0:Ze)(a1:Int):Option (List Int):=(Zgi b0).run (Zkm b0 a1)
theorem Zjh(b0:Ze)(a1:Int){r:List Int}(h:Zl0 b0 a1=some r):FnG PR 103 [(0,.box (tm0 b0)),(1,wR Zj 17 b0.traits),(2,wR cB 1 b0.dropped),(3,wR cB 1 b0.done),(4,wR (cL (cI .i64)) 1 b0.hits)] [.bptr 0 0,wI a1] [(0,.box (tm0 b0)),(1,wR Zj 17 b0.traits),(2,wR cB 1 b0.dropped),(3,wR cB 1 b0.done),(4,wR (cL (cI .i64)) 1 b0.hits)] (wL (cI .i64) r):=(Zgi b0).fn h
inductive Zdb where
 | L0 (v1:Int) (v2:Int) (E1:Z0) (v8:List Int) (v23:List Zc) (v24:Int) (v25:Int)
def Zkn(b0:Ze)(v1:Int)(v2:Int)(E1:Z0)(v8:List Int)(v23:List Zc)(v24:Int)(v25:Int):LT Zdb (List Int):=
.br (decide (v25 < v24)) (.idx Zk v23 v25 fun x2=>.lb 1010<|.cs (x2.Kind==11) (.k3 1<|.call (Ztt x2.Kind) fun x5=>.k3 1<|.br (x5==v2) (.callO (Zhu b0 v1) [0,1,2,3,4] 530000 (fun x=>[]) fun x8=>.rl Zj b0.traits<|.callS (Zapc b0.s b0.traits x8 E1.Source x2.Filter) 580000 (fun _=>⟨rfl,Z0g (cI .i64) (fun _=>rfl) _,trivial⟩) fun x10=>.lenO (cI .i64) x10<|.idxR (cI .i64) v8 v25 fun x12=>.setD (cI .i64) v8 v25 x12 (x10.length:Int) 5 0 [.int .i64 (x10.length:Int)] rfl fun x14=>.dr [.ahead 60,.relen 20008,.stop]<|.us [6]<|.us [6]<|.us [6]<|.g0 (.L0 v1 v2 E1 x14 v23 v24 (IntKind.wrap .i64 (v25+1))))<|.g0 (.L0 v1 v2 E1 v8 v23 v24 (IntKind.wrap .i64 (v25+1))))<|.k5 1<|.kg 1<|.kn [0]<|.g0 (.L0 v1 v2 E1 v8 v23 v24 (IntKind.wrap .i64 (v25+1))))<|.ret v8 [.relab 20008 5000]
def Zk6(b0:Ze)(a1:Int)(a2:Int):LT Zdb (List Int):=
.idx Z6 b0.forces a1 fun x1=>.lb 1007<|.len Zk x1.Mods<|.mk (cI .i64) 1021 8 0 (x1.Mods.length:Int) (x1.Mods.length:Int) fun x4=>.len Zk x1.Mods<|.go (.L0 a1 a2 x1 x4 x1.Mods (x1.Mods.length:Int) 0) [.relab 1007 3001,.relab 1021 20008]
def Zgv(b0:Ze):LF Zdb (List Int) := .m 104 [.t 6] true (fun r=>[(5000,wR (cI .i64) 1 r),(0,.box (tm0 b0)),(1,wR Zj 17 b0.traits),(2,wR cB 1 b0.dropped),(3,wR cB 1 b0.done),(4,wR (cL (cI .i64)) 1 b0.hits)]) (fun r=>(wO (cI .i64) 5000 r)) fun | .L0 v1 v2 E1 v8 v23 v24 v25=>([1,1,1,0,1,4],⟨62,[(0,.bptr 0 0),(1,wI v1),(2,wI v2),(7,.bptr 3001 0),(8,wO (cI .i64) 20008 v8),(23,wL Zk v23),(24,wI v24),(25,wI v25)],[(0,.box (tm0 b0)),(1,wR Zj 17 b0.traits),(2,wR cB 1 b0.dropped),(3,wR cB 1 b0.done),(4,wR (cL (cI .i64)) 1 b0.hits),(3001,.box (bx (Z6 E1))),(20008,wR (cI .i64) 1 v8)]⟩,Zkn b0 v1 v2 E1 v8 v23 v24 v25)
def Zml(b0:Ze)(a1:Int)(a2:Int):Option (List Int):=(Zgv b0).run (Zk6 b0 a1 a2)
theorem Zju(b0:Ze)(a1:Int)(a2:Int){r:List Int}(h:Zml b0 a1 a2=some r):FnG PR 104 [(0,.box (tm0 b0)),(1,wR Zj 17 b0.traits),(2,wR cB 1 b0.dropped),(3,wR cB 1 b0.done),(4,wR (cL (cI .i64)) 1 b0.hits)] [.bptr 0 0,wI a1,wI a2] [(5000,wR (cI .i64) 1 r),(0,.box (tm0 b0)),(1,wR Zj 17 b0.traits),(2,wR cB 1 b0.dropped),(3,wR cB 1 b0.done),(4,wR (cL (cI .i64)) 1 b0.hits)] (wO (cI .i64) 5000 r):=(Zgv b0).fn h
def Znn(b0:Ze)(a1:Int)(a2:Int):LT Empty Zac:=
.lb 1006<|.callO (Zkl b0 a1) [0,1,2,3,4] 100000 (fun x=>[]) fun x1=>.callO (Zjh b0 a1) [0,1,2,3,4] 130000 (fun x=>[]) fun x3=>.callO (Zju b0 a1 a2) [0,1,2,3,4] 170000 (fun x=>[(5000,wR (cI .i64) 1 x)]) fun x5=>.ret (⟨x1,x3,x5⟩:Zac) [.relab 175000 5002]
def Zno(b0:Ze):LF Empty Zac := .z 99 [.c 6 174 true 3] true (fun r=>[(5002,wR (cI .i64) 1 r.numbers),(0,.box (tm0 b0)),(1,wR Zj 17 b0.traits),(2,wR cB 1 b0.dropped),(3,wR cB 1 b0.done),(4,wR (cL (cI .i64)) 1 b0.hits)]) (fun r=>(.agg [wB r.active,wL (cI .i64) r.hits,wO (cI .i64) 5002 r.numbers]))
def Zpa(b0:Ze)(a1:Int)(a2:Int):Option Zac:=(Zno b0).run (Znn b0 a1 a2)
theorem Zl1(b0:Ze)(a1:Int)(a2:Int){r:Zac}(h:Zpa b0 a1 a2=some r):FnG PR 99 [(0,.box (tm0 b0)),(1,wR Zj 17 b0.traits),(2,wR cB 1 b0.dropped),(3,wR cB 1 b0.done),(4,wR (cL (cI .i64)) 1 b0.hits)] [.bptr 0 0,wI a1,wI a2] [(5002,wR (cI .i64) 1 r.numbers),(0,.box (tm0 b0)),(1,wR Zj 17 b0.traits),(2,wR cB 1 b0.dropped),(3,wR cB 1 b0.done),(4,wR (cL (cI .i64)) 1 b0.hits)] (.agg [wB r.active,wL (cI .i64) r.hits,wO (cI .i64) 5002 r.numbers]):=(Zno b0).fn h
def Zc8(a0:List (Opq 17))(hne:a0≠[]):LT Empty (List (Opq 17)):=
.ne (Zkw (k:=17)) hne<|.kn [0]<|.lb 1005<|.apR (Zkw (k:=17)) 176 ([]:List (Opq 17)) a0 fun x1=>.ret x1 [.relab 1005 5000]
def Zas:LF Empty (List (Opq 17)) := .z 152 [.t 2] true (fun r=>[(5000,wR (Zkw (k:=17)) 17 r)]) (fun r=>(wO (Zkw (k:=17)) 5000 r))
def Zc4(c:Nat):LT Empty (List (Opq 17)):=
.kn [0]<|.ret ([]:List (Opq 17)) [.own 2 5000 17]
def Zko(c:Nat)(ad:Addr):LT Empty (List (Opq 17)):=
.kn [0]<|.lb 1005<|.apR (Zkw (k:=17)) 176 ([]:List (Opq 17)) ([]:List (Opq 17)) fun x1=>.ret x1 [.relab 1005 5000]
open Classical in
def Zb1(a0:List (Opq 17)):Option (List (Opq 17)):=if h:a0≠[] then Zas.run (Zc8 a0 h) else Zas.run (Zc4 0)
theorem Zj1(a0:List (Opq 17)){r:List (Opq 17)}(h:Zb1 a0=some r):FnG PR 152 [] [wL (Zkw (k:=17)) a0] [(5000,wR (Zkw (k:=17)) 17 r)] (wO (Zkw (k:=17)) 5000 r):=by
 by_cases hne:a0=[]
 .subst hne
  have h0:Zas.run (Zc4 0)=some r:=h
  exact FnG.split0 (fun e=>absurd rfl e) (fun _ a c=>by
   cases a with
   | none=>exact Zas.fn (t:=Zc4 c) h0
   | some ad=>exact Zas.fn (t:=Zko c ad) h0)
 .have h0:Zas.run (Zc8 a0 hne)=some r:=by unfold Zb1 at h;rwa [dif_pos hne] at h
  exact FnG.split0 (fun _=>Zas.fn h0) (fun e=>absurd (List.map_eq_nil_iff.1 e) hne)
theorem Zm2:Zqr PR 152 17 176:=Zqr.of (g:=Zb1) (fun a h=>by
 unfold Zb1
 by_cases e:a=[]
 .subst e;rfl
 .rw [dif_pos e];unfold LF.run;dsimp only [Zc8,LT.den];rw [Za16 h (by decide)];rfl) (fun a _ h=>Zj1 a h)
def Ze6(a0:List (Opq 1))(hne:a0≠[]):LT Empty (List (Opq 1)):=
.ne (Zkw (k:=1)) hne<|.kn [0]<|.lb 1005<|.apR (Zkw (k:=1)) 24 ([]:List (Opq 1)) a0 fun x1=>.ret x1 [.relab 1005 5000]
def Zbc:LF Empty (List (Opq 1)) := .z 154 [.t 2] true (fun r=>[(5000,wR (Zkw (k:=1)) 1 r)]) (fun r=>(wO (Zkw (k:=1)) 5000 r))
def Zew(c:Nat):LT Empty (List (Opq 1)):=
.kn [0]<|.ret ([]:List (Opq 1)) [.own 2 5000 1]
def Zp3(c:Nat)(ad:Addr):LT Empty (List (Opq 1)):=
.kn [0]<|.lb 1005<|.apR (Zkw (k:=1)) 24 ([]:List (Opq 1)) ([]:List (Opq 1)) fun x1=>.ret x1 [.relab 1005 5000]
open Classical in
def Zdw(a0:List (Opq 1)):Option (List (Opq 1)):=if h:a0≠[] then Zbc.run (Ze6 a0 h) else Zbc.run (Zew 0)
theorem Zpb(a0:List (Opq 1)){r:List (Opq 1)}(h:Zdw a0=some r):FnG PR 154 [] [wL (Zkw (k:=1)) a0] [(5000,wR (Zkw (k:=1)) 1 r)] (wO (Zkw (k:=1)) 5000 r):=by
 by_cases hne:a0=[]
 .subst hne
  have h0:Zbc.run (Zew 0)=some r:=h
  exact FnG.split0 (fun e=>absurd rfl e) (fun _ a c=>by
   cases a with
   | none=>exact Zbc.fn (t:=Zew c) h0
   | some ad=>exact Zbc.fn (t:=Zp3 c ad) h0)
 .have h0:Zbc.run (Ze6 a0 hne)=some r:=by unfold Zdw at h;rwa [dif_pos hne] at h
  exact FnG.split0 (fun _=>Zbc.fn h0) (fun e=>absurd (List.map_eq_nil_iff.1 e) hne)
theorem Zt3:Zqr PR 154 1 24:=Zqr.of (g:=Zdw) (fun a h=>by
 unfold Zdw
 by_cases e:a=[]
 .subst e;rfl
 .rw [dif_pos e];unfold LF.run;dsimp only [Ze6,LT.den];rw [Za16 h (by decide)];rfl) (fun a _ h=>Zpb a h)
def Zl2(b0:Ze):LT Empty Ze:=
.lb 1003<|.callC Zm2 Zj 1011 b0.traits<|.rl cB b0.dropped<|.callS (Zk3 b0.dropped) 170000 (fun _=>⟨rfl,Z0g cB (fun _=>rfl) _,trivial⟩) fun x4=>.rl cB b0.done<|.callS (Zk3 b0.done) 220000 (fun _=>⟨rfl,Z0g cB (fun _=>rfl) _,trivial⟩) fun x6=>.callC Zt3 (cL (cI .i64)) 1026 b0.hits<|.ret (⟨b0.s,b0.forces,b0.traits,x4,x6,b0.hits⟩:Ze) [.relab 1003 5000,.relab 1011 5021,.relab 175000 5022,.relab 225000 5023,.relab 1026 5024]
def Zl3(b0:Ze):LF Empty Ze := .z 102 [.t 2] true (fun r=>[(5000,.box (tm5 r 5000)),(5021,wR Zj 17 r.traits),(5022,wR cB 1 r.dropped),(5023,wR cB 1 r.done),(5024,wR (cL (cI .i64)) 1 r.hits),(0,.box (tm0 b0)),(1,wR Zj 17 b0.traits),(2,wR cB 1 b0.dropped),(3,wR cB 1 b0.done),(4,wR (cL (cI .i64)) 1 b0.hits)]) (fun r=>(.bptr 5000 0))
def Znp(b0:Ze):Option Ze:=(Zl3 b0).run (Zl2 b0)
theorem Zt4(b0:Ze){r:Ze}(h:Znp b0=some r):FnG PR 102 [(0,.box (tm0 b0)),(1,wR Zj 17 b0.traits),(2,wR cB 1 b0.dropped),(3,wR cB 1 b0.done),(4,wR (cL (cI .i64)) 1 b0.hits)] [.bptr 0 0] [(5000,.box (tm5 r 5000)),(5021,wR Zj 17 r.traits),(5022,wR cB 1 r.dropped),(5023,wR cB 1 r.done),(5024,wR (cL (cI .i64)) 1 r.hits),(0,.box (tm0 b0)),(1,wR Zj 17 b0.traits),(2,wR cB 1 b0.dropped),(3,wR cB 1 b0.done),(4,wR (cL (cI .i64)) 1 b0.hits)] (.bptr 5000 0):=(Zl3 b0).fn h
inductive Zcn where
 | L0 (c0:Ze) (v1:Int) (v2:Int) (v6:List Int) (v7:List Int) (v8:Int) (v23:List Int) (v24:Int) (v25:Int)
 | L1 (c0:Ze) (v1:Int) (v2:Int) (v6:List Int) (v7:List Int) (v8:Int) (v10:Int) (v23:List Int) (v24:Int) (v25:Int) (v36:List Zc) (v37:Int) (v38:Int)
def Zl4(c0:Ze)(v1:Int)(v2:Int)(v6:List Int)(v7:List Int)(v8:Int)(v23:List Int)(v24:Int)(v25:Int):LT Zcn Ze:=
.br (decide (v25 < v24)) (.idx (cI .i64) v23 v25 fun x2=>.idx Z6 c0.forces v1 fun x4=>.len Zk x4.Mods<|.g0 (.L1 c0 v1 v2 v6 v7 v8 x2 v23 v24 v25 x4.Mods (x4.Mods.length:Int) 0))<|.idxR cB c0.done v1 fun x7=>.setD cB c0.done v1 x7 true 2 0 [.bool true] rfl fun x9=>.idxR (cL (cI .i64)) c0.hits v1 fun x11=>.setD (cL (cI .i64)) c0.hits v1 x11 v6 8 0 [.sl (List.map (cI .i64) v6)] rfl fun x13=>.us [3]<|.us [3]<|.us [3]<|.us [9]<|.us [9]<|.us [9]<|.ret (⟨c0.s,c0.forces,c0.traits,c0.dropped,x9,x13⟩:Ze) [.relen 3,.relen 4]
def Zl5(c0:Ze)(v1:Int)(v2:Int)(v6:List Int)(v7:List Int)(v8:Int)(v10:Int)(v23:List Int)(v24:Int)(v25:Int)(v36:List Zc)(v37:Int)(v38:Int):LT Zcn Ze:=
.br (decide (v38 < v37)) (.idx Zk v36 v38 fun x2=>.lb 1012<|.call (Ztt x2.Kind) fun x4=>.br (x4 != v2) (.g0 (.L1 c0 v1 v2 v6 v7 v8 v10 v23 v24 v25 v36 v37 (IntKind.wrap .i64 (v38+1))))<|.idxR Zj c0.traits v10 fun x9=>.ldR Zj c0.traits x9 5<|.idxR (cI .i64) v7 v38 fun x11=>.ldR (cI .i64) v7 x11 8<|.call (Zaye x9 x2 v8 x11) fun x13=>.plR Zj c0.traits v10 3<|.setD Zj c0.traits v10 x9 x13 5 0 (tm10 x13) rfl fun x15=>.dr [.ahead 68,.relen 1,.stop]<|.us [9]<|.us [9]<|.us [9]<|.us [9]<|.us [9]<|.br (x2.Kind==10) (.idxR cB c0.dropped v10 fun x18=>.setR cB c0.dropped v10 x18 true 14 0 [.bool true] rfl fun x20=>.dr [.ahead 77,.relen 2,.stop]<|.us [15]<|.us [15]<|.us [15]<|.g0 (.L1 (⟨c0.s,c0.forces,x15,x20,c0.done,c0.hits⟩:Ze) v1 v2 v6 v7 v8 v10 v23 v24 v25 v36 v37 (IntKind.wrap .i64 (v38+1))))<|.g0 (.L1 (⟨c0.s,c0.forces,x15,c0.dropped,c0.done,c0.hits⟩:Ze) v1 v2 v6 v7 v8 v10 v23 v24 v25 v36 v37 (IntKind.wrap .i64 (v38+1))))<|.g0 (.L0 c0 v1 v2 v6 v7 v8 v23 v24 (IntKind.wrap .i64 (v25+1)))
def Zmm(b0:Ze)(a1:Int)(a2:Int):LT Zcn Ze:=
.callO (Zjh b0 a1) [0,1,2,3,4] 160000 (fun x=>[]) fun x1=>.callO (Zju b0 a1 a2) [0,1,2,3,4] 200000 (fun x=>[(5000,wR (cI .i64) 1 x)]) fun x3=>.callO (Zhu b0 a1) [0,1,2,3,4] 230000 (fun x=>[]) fun x5=>.len (cI .i64) x1<|.go (.L0 b0 a1 a2 x1 x3 x5 x1 (x1.length:Int) 0) [.relab 205000 20007]
def Zfd:LF Zcn Ze := .m 56 [] true (fun r=>[(0,.box (tm0 r)),(1,wR Zj 17 r.traits),(2,wR cB 1 r.dropped),(3,wR cB 1 r.done),(4,wR (cL (cI .i64)) 1 r.hits)]) (fun r => .tup []) fun | .L0 c0 v1 v2 v6 v7 v8 v23 v24 v25=>([1,0,1,4],⟨92,[(0,.bptr 0 0),(1,wI v1),(2,wI v2),(6,wL (cI .i64) v6),(7,wO (cI .i64) 20007 v7),(8,wI v8),(23,wL (cI .i64) v23),(24,wI v24),(25,wI v25)],[(0,.box (tm0 c0)),(1,wR Zj 17 c0.traits),(2,wR cB 1 c0.dropped),(3,wR cB 1 c0.done),(4,wR (cL (cI .i64)) 1 c0.hits),(20007,wR (cI .i64) 1 v7)]⟩,Zl4 c0 v1 v2 v6 v7 v8 v23 v24 v25) | .L1 c0 v1 v2 v6 v7 v8 v10 v23 v24 v25 v36 v37 v38=>([1,0,1,4,5,1,1,0,4,1,1,4],⟨92,[(0,.bptr 0 0),(1,wI v1),(2,wI v2),(6,wL (cI .i64) v6),(7,wO (cI .i64) 20007 v7),(8,wI v8),(10,wI v10),(23,wL (cI .i64) v23),(24,wI v24),(25,wI v25),(36,wL Zk v36),(37,wI v37),(38,wI v38)],[(0,.box (tm0 c0)),(1,wR Zj 17 c0.traits),(2,wR cB 1 c0.dropped),(3,wR cB 1 c0.done),(4,wR (cL (cI .i64)) 1 c0.hits),(20007,wR (cI .i64) 1 v7)]⟩,Zl5 c0 v1 v2 v6 v7 v8 v10 v23 v24 v25 v36 v37 v38)
def Zoc:=fun b0 a1 a2=>Zfd.run (Zmm b0 a1 a2)
theorem Zk7(b0)(a1)(a2){r}(h:Zoc b0 a1 a2=some r):FnG PR 56 [(0,.box (tm0 b0)),(1,wR Zj 17 b0.traits),(2,wR cB 1 b0.dropped),(3,wR cB 1 b0.done),(4,wR (cL (cI .i64)) 1 b0.hits)] [.bptr 0 0,wI a1,wI a2] [(0,.box (tm0 r)),(1,wR Zj 17 r.traits),(2,wR cB 1 r.dropped),(3,wR cB 1 r.done),(4,wR (cL (cI .i64)) 1 r.hits)] (.tup []):=Zfd.fn h
inductive Za6 where
 | L0 (v2:Int) (v7:List (List Bool)) (v27:Int) (v28:Int)
 | L1 (v2:Int) (v7:List (List Bool)) (v9:List (Int×Zac)) (v43:Int) (v44:Int)
 | L2 (v2:Int) (v7:List (List Bool)) (v9:List (Int×Zac)) (v69:Int) (v70:Int)
 | L3 (v2:Int) (v7:List (List Bool)) (v9:List (Int×Zac)) (v14:Int) (E1:Ze) (v69:Int) (v70:Int) (v81:Int) (v82:Int)
def Zik(b0:Ze)(a1:List Int)(v2:Int)(v7:List (List Bool))(v27:Int)(v28:Int):LT Za6 (List (List Bool)):=
.br (decide (v28 < v27)) (.len Z6 b0.forces<|.mk cB 1038 1 false (b0.forces.length:Int) (b0.forces.length:Int) fun x3=>.idM cB v7 v28 fun x5=>.stR cB v7 v28 x3 0 fun x7=>.dr [.ahead 40,.relen 20007,.stop]<|.us [2]<|.us [2]<|.g0 (.L0 v2 x7 v27 (IntKind.wrap .i64 (v28+1))))<|.lb 1041<|.lenO (cI .i64) a1<|.go (.L1 v2 v7 ([]:List (Int×Zac)) (a1.length:Int) 0) [.relab 1041 20009]
def Zil(b0:Ze)(a1:List Int)(v2:Int)(v7:List (List Bool))(v9:List (Int×Zac))(v43:Int)(v44:Int):LT Za6 (List (List Bool)):=
.br (decide (v44 < v43)) (.idxR (cI .i64) a1 v44 fun x2=>.ldR (cI .i64) a1 x2 2<|.callO (Zsw b0 x2 v2) [0,2,3,4,5] 520000 (fun x=>[]) fun x4=>.br x4 (.callO (Zl1 b0 x2 v2) [0,2,3,4,5] 580000 (fun x=>[(5002,wR (cI .i64) 1 x.numbers)]) fun x7=>.dr [.ahead 1000000,.frz 585002,.stop]<|.rl (cI .i64) x7.numbers<|.stG Zfl v9 x2 x7 (.agg [wB x7.active,wL (cI .i64) x7.hits,wL (cI .i64) x7.numbers]) (wA (Zfl x7)) rfl fun x9=>.g0 (.L1 v2 v7 x9 v43 (IntKind.wrap .i64 (v44+1))))<|.g0 (.L1 v2 v7 v9 v43 (IntKind.wrap .i64 (v44+1))))<|.lenG Zfl v9<|.cs ((v9.length:Int)==0) (.k4 1<|.kn [0]<|.rl (cL cB) v7<|.rl (cL cB) v7<|.rl (cL cB) v7<|.ret v7 [.frz 20007])<|.k2 1<|.lenO (cI .i64) a1<|.k2 1<|.br (decide ((a1.length:Int) < 2)) (.rl (cL cB) v7<|.rl (cL cB) v7<|.rl (cL cB) v7<|.ret v7 [.frz 20007])<|.lenO (cI .i64) a1<|.g0 (.L2 v2 v7 v9 (a1.length:Int) 0)
def Zim(b0:Ze)(a1:List Int)(v2:Int)(v7:List (List Bool))(v9:List (Int×Zac))(v69:Int)(v70:Int):LT Za6 (List (List Bool)):=
.br (decide (v70 < v69)) (.idxR (cI .i64) a1 v70 fun x2=>.ldR (cI .i64) a1 x2 2<|.callO (Zt4 b0) [0,2,3,4,5] 760000 (fun x=>[(5000,.box [wL Zba x.s.Players,wL Zn x.s.Objects,wL (cI .i64) x.s.Battlefield,wL (cI .i64) x.s.Exile,wL Zbj x.s.Stack,wL Zbl x.s.Waiting,wL Zbx x.s.Conts,wI x.s.Turn,wI x.s.Active,wI x.s.Step,wB x.s.Begun,wI x.s.Priority,wI x.s.Passes,wI x.s.NextId,wI x.s.NextStamp,.t (.int .u64 x.s.Seed),wL (cI .i64) x.s.Extra,wI x.s.Over,wI x.s.Winner,wL Z6 x.forces,wO Zj 5021 x.traits,wO cB 5022 x.dropped,wO cB 5023 x.done,wO (cL (cI .i64)) 5024 x.hits]),(5021,wR Zj 17 x.traits),(5022,wR cB 1 x.dropped),(5023,wR cB 1 x.done),(5024,wR (cL (cI .i64)) 1 x.hits)]) fun x4=>.callU (Zk7 x4 x2 v2) [765000,765021,765022,765023,765024] 800000 fun x6=>.lenO (cI .i64) a1<|.go (.L3 v2 v7 v9 x2 x6 v69 v70 (a1.length:Int) 0) [.relab 765000 3001,.relab 765021 40120,.relab 765022 40121,.relab 765023 40122,.relab 765024 40123])<|.rl (cL cB) v7<|.rl (cL cB) v7<|.rl (cL cB) v7<|.ret v7 [.frz 20007]
def Zin(b0:Ze)(a1:List Int)(v2:Int)(v7:List (List Bool))(v9:List (Int×Zac))(v14:Int)(E1:Ze)(v69:Int)(v70:Int)(v81:Int)(v82:Int):LT Za6 (List (List Bool)):=
.br (decide (v82 < v81)) (.idxR (cI .i64) a1 v82 fun x2=>.ldR (cI .i64) a1 x2 2<|.lkG Zfl v9 x2 (⟨false,[],[]⟩:Zac) fun x4=>.lb 1018<|.cs x4.2 (.k4 1<|.br (x2 != v14) (.idM cB v7 x2 fun x8=>.ldM cB v7 3<|.callO (Zl1 E1 x2 v2) [3001,40120,40121,40122,40123] 1090000 (fun x=>[(5002,wR (cI .i64) 1 x.numbers)]) fun x10=>.rl (cI .i64) x10.numbers<|.call (Zzv x4.1 x10) fun x12=>.idN cB v7 x8 v14 3 fun x14=>.stM cB v7 x2 x8 v14 x12 3 5 fun x16=>.dr [.ahead 111,.relen 20007,.stop]<|.us [7]<|.us [7]<|.g0 (.L3 v2 x16 v9 v14 E1 v69 v70 v81 (IntKind.wrap .i64 (v82+1))))<|.g0 (.L3 v2 v7 v9 v14 E1 v69 v70 v81 (IntKind.wrap .i64 (v82+1))))<|.k4 1<|.kn [0]<|.g0 (.L3 v2 v7 v9 v14 E1 v69 v70 v81 (IntKind.wrap .i64 (v82+1))))<|.g0 (.L2 v2 v7 v9 v69 (IntKind.wrap .i64 (v70+1)))
def Zi7(b0:Ze)(a1:List Int)(a2:Int):LT Za6 (List (List Bool)):=
.len Z6 b0.forces<|.mkE cB 1025 24 (b0.forces.length:Int) (b0.forces.length:Int) fun x2=>.dr [.ahead 7,.tomat 1025,.stop]<|.us [0]<|.lenO (cL cB) x2<|.go (.L0 a2 x2 (x2.length:Int) 0) [.relab 1025 20007]
def Zbo(b0:Ze)(a1:List Int):LF Za6 (List (List Bool)) := .m 55 [.t 6] true (fun r=>[(0,.box (tm3 b0)),(1,wR (cI .i64) 1 a1),(2,wR Zj 17 b0.traits),(3,wR cB 1 b0.dropped),(4,wR cB 1 b0.done),(5,wR (cL (cI .i64)) 1 b0.hits)]) (fun r=>(wL (cL cB) r)) fun | .L0 v2 v7 v27 v28=>([1,1,0,1,4],⟨114,[(0,.bptr 0 0),(1,wO (cI .i64) 1 a1),(2,wI v2),(7,wM (cL cB) 20007 v7),(27,wI v27),(28,wI v28)],[(0,.box (tm3 b0)),(2,wR Zj 17 b0.traits),(3,wR cB 1 b0.dropped),(4,wR cB 1 b0.done),(5,wR (cL (cI .i64)) 1 b0.hits),(1,wR (cI .i64) 1 a1),(20007,wT (cL cB) v7)]⟩,Zik b0 a1 v2 v7 v27 v28) | .L1 v2 v7 v9 v43 v44=>([1,1,1,1,0,1,4],⟨114,[(0,.bptr 0 0),(1,wO (cI .i64) 1 a1),(2,wI v2),(7,wM (cL cB) 20007 v7),(9,.own 20009 .map),(42,wO (cI .i64) 1 a1),(43,wI v43),(44,wI v44)],[(0,.box (tm3 b0)),(2,wR Zj 17 b0.traits),(3,wR cB 1 b0.dropped),(4,wR cB 1 b0.done),(5,wR (cL (cI .i64)) 1 b0.hits),(1,wR (cI .i64) 1 a1),(20007,wT (cL cB) v7),(20009,wG true Zfl v9)]⟩,Zil b0 a1 v2 v7 v9 v43 v44) | .L2 v2 v7 v9 v69 v70=>([1,1,1,1,1,1,1,0,1,4],⟨114,[(0,.bptr 0 0),(1,wO (cI .i64) 1 a1),(2,wI v2),(7,wM (cL cB) 20007 v7),(9,.own 20009 .map),(12,.fn 100 []),(68,wO (cI .i64) 1 a1),(69,wI v69),(70,wI v70)],[(0,.box (tm3 b0)),(2,wR Zj 17 b0.traits),(3,wR cB 1 b0.dropped),(4,wR cB 1 b0.done),(5,wR (cL (cI .i64)) 1 b0.hits),(1,wR (cI .i64) 1 a1),(20007,wT (cL cB) v7),(20009,wG true Zfl v9)]⟩,Zim b0 a1 v2 v7 v9 v69 v70) | .L3 v2 v7 v9 v14 E1 v69 v70 v81 v82=>([1,1,1,1,1,1,1,0,1,4,5,1,1,0,4,1,1,1,1,4],⟨114,[(0,.bptr 0 0),(1,wO (cI .i64) 1 a1),(2,wI v2),(7,wM (cL cB) 20007 v7),(9,.own 20009 .map),(12,.fn 100 []),(14,wI v14),(15,.bptr 3001 0),(68,wO (cI .i64) 1 a1),(69,wI v69),(70,wI v70),(80,wO (cI .i64) 1 a1),(81,wI v81),(82,wI v82)],((0,.box (tm3 b0))::(2,wR Zj 17 b0.traits)::(3,wR cB 1 b0.dropped)::(4,wR cB 1 b0.done)::(5,wR (cL (cI .i64)) 1 b0.hits)::(1,wR (cI .i64) 1 a1)::(20007,wT (cL cB) v7)::(20009,wG true Zfl v9)::(3001,.box (tm7 E1 40100))::(tm19 E1 40100))⟩,Zin b0 a1 v2 v7 v9 v14 E1 v69 v70 v81 v82)
def Zjv(b0:Ze)(a1:List Int)(a2:Int):Option (List (List Bool)):=(Zbo b0 a1).run (Zi7 b0 a1 a2)
theorem Zp4(b0:Ze)(a1:List Int)(a2:Int){r:List (List Bool)}(h:Zjv b0 a1 a2=some r):FnG PR 55 [(0,.box (tm3 b0)),(1,wR (cI .i64) 1 a1),(2,wR Zj 17 b0.traits),(3,wR cB 1 b0.dropped),(4,wR cB 1 b0.done),(5,wR (cL (cI .i64)) 1 b0.hits)] [.bptr 0 0,wO (cI .i64) 1 a1,wI a2] [(0,.box (tm3 b0)),(1,wR (cI .i64) 1 a1),(2,wR Zj 17 b0.traits),(3,wR cB 1 b0.dropped),(4,wR cB 1 b0.done),(5,wR (cL (cI .i64)) 1 b0.hits)] (wL (cL cB) r):=(Zbo b0 a1).fn h
def Zl6(a0:Int)(a1:Int):LT Empty Bool:=
.rt (a0==a1)
def Zl7:LF Empty Bool := .z0 58 [.t 3] wB
def Znq:=fun a0 a1=>Zl7.run (Zl6 a0 a1)
theorem Zk8(a0)(a1){r}(h:Znq a0 a1=some r):Fn PR 58 [wI a0,.vptr ((cI .i64) a1)] (wB r):=Zl7.fn h
inductive Zay where
 | L0 (v0:List Int) (w1_0:Int) (v7:Int) (v8:Int)
def Zdn(v0:List Int)(w1_0:Int)(v7:Int)(v8:Int):LT Zay Int:=
.br (decide (v8 < v7)) (.idx (cI .i64) v0 v8 fun x2=>.call (Zk8 x2 w1_0) fun x4=>.br x4 (.rt v8)<|.g0 (.L0 v0 w1_0 v7 (IntKind.wrap .i64 (v8+1))))<|.rt (-1)
def Zdt(a0:List Int)(a1:Int):LT Zay Int:=
.len (cI .i64) a0<|.g0 (.L0 a0 a1 (a0.length:Int) 0)
def Zbw:LF Zay Int := .m0 107 [.t 4] wI fun | .L0 v0 w1_0 v7 v8=>([1,0,1,4],⟨19,[(0,wL (cI .i64) v0),(1,.fn 58 [.vptr ((cI .i64) w1_0)]),(7,wI v7),(8,wI v8)],[]⟩,Zdn v0 w1_0 v7 v8)
def Zd3:=fun a0 a1=>Zbw.run (Zdt a0 a1)
theorem Zhk(a0)(a1){r}(h:Zd3 a0 a1=some r):Fn PR 107 [wL (cI .i64) a0,.fn 58 [.vptr ((cI .i64) a1)]] (wI r):=Zbw.fn h
inductive Zaq where
 | L0 (v0:List Int) (w1_0:Int) (v5:Int) (v6:Int)
def Zcu(v0:List Int)(w1_0:Int)(v5:Int)(v6:Int):LT Zaq (List Int):=
.lenO (cI .i64) v0<|.br (decide (v6 < (v0.length:Int))) (.idxR (cI .i64) v0 v6 fun x2=>.ldR (cI .i64) v0 x2 2<|.call (Zk8 x2 w1_0) fun x4=>.br (!x4) (.idxR (cI .i64) v0 v5 fun x7=>.setR (cI .i64) v0 v5 x7 x2 5 0 [.int .i64 x2] rfl fun x9=>.dr [.ahead 34,.relen 20000,.stop]<|.us [6]<|.us [6]<|.us [6]<|.us [6]<|.us [6]<|.us [6]<|.g0 (.L0 x9 w1_0 (IntKind.wrap .i64 (v5+1)) (IntKind.wrap .i64 (v6+1))))<|.g0 (.L0 v0 w1_0 v5 (IntKind.wrap .i64 (v6+1))))<|.tlR (cI .i64) v0 v5 0 fun x17=>.clR (cI .i64) v0 x17 0<|.dr [.ahead 39,.relen 20000,.stop]<|.us [2]<|.us [2]<|.us [2]<|.trR (cI .i64) x17 v5 fun x20=>.ret x20 [.relab 20000 5000]
def Zc5(b0:List Int)(a1:Int):LT Zaq (List Int):=
.rl (cI .i64) b0<|.call (Zhk b0 a1) fun x1=>.br (x1==(-1)) (.ret b0 [.relab 0 5000])<|.go (.L0 b0 a1 x1 (IntKind.wrap .i64 (x1+1))) [.relab 0 20000]
def Zbk:LF Zaq (List Int) := .m 57 [.t 4] true (fun r=>[(5000,wR (cI .i64) 1 r)]) (fun r=>(wO (cI .i64) 5000 r)) fun | .L0 v0 w1_0 v5 v6=>([1,1,1,0,1,4],⟨42,[(0,wO (cI .i64) 20000 v0),(1,.fn 58 [.vptr ((cI .i64) w1_0)]),(5,wI v5),(6,wI v6)],[(20000,wR (cI .i64) 1 v0)]⟩,Zcu v0 w1_0 v5 v6)
def Zdc:=fun b0 a1=>Zbk.run (Zc5 b0 a1)
theorem Zf6(b0)(a1){r}(h:Zdc b0 a1=some r):FnG PR 57 [(0,wR (cI .i64) 1 b0)] [wO (cI .i64) 0 b0,.fn 58 [.vptr ((cI .i64) a1)]] [(5000,wR (cI .i64) 1 r)] (wO (cI .i64) 5000 r):=Zbk.fn h
inductive Zco where
 | L0 (c0:Ze) (v1:Int) (v5:List Int) (v6:List Int) (v7:List Int) (v18:List Z0) (v19:Int) (v20:Int)
 | L1 (c0:Ze) (v1:Int) (v5:List Int) (v6:List Int) (v7:List Int)
def Zl8(c0:Ze)(v1:Int)(v5:List Int)(v6:List Int)(v7:List Int)(v18:List Z0)(v19:Int)(v20:Int):LT Zco ((List Int)×Ze):=
.br (decide (v20 < v19)) (.idx Z6 v18 v20 fun x2=>.lb 1009<|.dr [.lit]<|.apR (cI .i64) 8 v7 [x2.Stamp] fun x4=>.call (Zai6 x2 v1) fun x7=>.br x7 (.dr [.lit]<|.apR (cI .i64) 8 v5 [v20] fun x10=>.g0 (.L0 c0 v1 x10 v6 x4 v18 v19 (IntKind.wrap .i64 (v20+1))))<|.g0 (.L0 c0 v1 v5 v6 x4 v18 v19 (IntKind.wrap .i64 (v20+1))))<|.g0 (.L1 c0 v1 v5 v6 v7)
def Zl9(c0:Ze)(v1:Int)(v5:List Int)(v6:List Int)(v7:List Int):LT Zco ((List Int)×Ze):=
.lenO (cI .i64) v5<|.br (decide ((v5.length:Int) > 0)) (.callO (Zp4 c0 v5 v1) [0,20005,1,2,3,4] 470000 (fun x=>[]) fun x2=>.rl (cI .i64) v5<|.rl (cI .i64) v7<|.call (Zape v5 v7 x2) fun x4=>.lb 1010<|.br (decide (x4 < 0)) (.ret (v6,c0) [.relab 20006 5000])<|.callU (Zk7 c0 x4 v1) [0,1,2,3,4] 550000 fun x7=>.dr [.lit]<|.apR (cI .i64) 8 v6 [x4] fun x9=>.callW (Zf6 v5 x4) [20005] 620000 (fun _=>⟨rfl,Z0g (cI .i64) (fun _=>rfl) _,trivial⟩) fun x12=>.go (.L1 x7 v1 x12 x9 v7) [.relab 625000 20005])<|.ret (v6,c0) [.relab 20006 5000]
def Zmn(b0:Ze)(a1:Int):LT Zco ((List Int)×Ze):=
.br (a1==7) (.callU (Zun b0) [0,1,2,3,4] 150000 fun x2=>.len Z6 x2.forces<|.go (.L0 x2 a1 ([]:List Int) ([]:List Int) ([]:List Int) x2.forces (x2.forces.length:Int) 0) [.own 5 20005 1,.own 6 20006 1,.own 7 20007 1])<|.len Z6 b0.forces<|.go (.L0 b0 a1 ([]:List Int) ([]:List Int) ([]:List Int) b0.forces (b0.forces.length:Int) 0) [.own 5 20005 1,.own 6 20006 1,.own 7 20007 1]
def Zfe:LF Zco ((List Int)×Ze) := .m 35 [.t 4] true (fun r=>[(5000,wR (cI .i64) 1 r.1),(0,.box (tm0 r.2)),(1,wR Zj 17 r.2.traits),(2,wR cB 1 r.2.dropped),(3,wR cB 1 r.2.done),(4,wR (cL (cI .i64)) 1 r.2.hits)]) (fun r=>(wO (cI .i64) 5000 r.1)) fun | .L0 c0 v1 v5 v6 v7 v18 v19 v20=>([1,1,1,0,1,4],⟨63,[(0,.bptr 0 0),(1,wI v1),(5,wO (cI .i64) 20005 v5),(6,wO (cI .i64) 20006 v6),(7,wO (cI .i64) 20007 v7),(18,wL Z6 v18),(19,wI v19),(20,wI v20)],[(0,.box (tm0 c0)),(1,wR Zj 17 c0.traits),(2,wR cB 1 c0.dropped),(3,wR cB 1 c0.done),(4,wR (cL (cI .i64)) 1 c0.hits),(20005,wR (cI .i64) 1 v5),(20006,wR (cI .i64) 1 v6),(20007,wR (cI .i64) 1 v7)]⟩,Zl8 c0 v1 v5 v6 v7 v18 v19 v20) | .L1 c0 v1 v5 v6 v7=>([1,1,1,1,0,4],⟨63,[(0,.bptr 0 0),(1,wI v1),(5,wO (cI .i64) 20005 v5),(6,wO (cI .i64) 20006 v6),(7,wO (cI .i64) 20007 v7)],[(0,.box (tm0 c0)),(1,wR Zj 17 c0.traits),(2,wR cB 1 c0.dropped),(3,wR cB 1 c0.done),(4,wR (cL (cI .i64)) 1 c0.hits),(20005,wR (cI .i64) 1 v5),(20006,wR (cI .i64) 1 v6),(20007,wR (cI .i64) 1 v7)]⟩,Zl9 c0 v1 v5 v6 v7)
def Zod:=fun b0 a1=>Zfe.run (Zmn b0 a1)
theorem Zuo(b0)(a1){r}(h:Zod b0 a1=some r):FnG PR 35 [(0,.box (tm0 b0)),(1,wR Zj 17 b0.traits),(2,wR cB 1 b0.dropped),(3,wR cB 1 b0.done),(4,wR (cL (cI .i64)) 1 b0.hits)] [.bptr 0 0,wI a1] [(5000,wR (cI .i64) 1 r.1),(0,.box (tm0 r.2)),(1,wR Zj 17 r.2.traits),(2,wR cB 1 r.2.dropped),(3,wR cB 1 r.2.done),(4,wR (cL (cI .i64)) 1 r.2.hits)] (wO (cI .i64) 5000 r.1):=Zfe.fn h
inductive Zrc where
 | L0 (E0:Ze) (v6:Int)
def Zadd(E0:Ze)(v6:Int):LT Zrc (List Za):=
.br (decide (v6<=8)) (.callU (Zuo E0 v6) [3000,40020,40021,40022,40023] 170000 fun x2=>.g0 (.L0 x2.2 (IntKind.wrap .i64 (v6+1))))<|.ret E0.traits [.relab 40020 5000]
def Zaho(a0:List Zl)(a1:Zm):LT Zrc (List Za):=
.lb 1003<|.callF (Zam0 a0 a1) 100000 fun x1=>.go (.L0 x1 1) [.relab 105000 3000,.relab 105021 40020,.relab 105022 40021,.relab 105023 40022,.relab 105024 40023]
def Z5b:LF Zrc (List Za) := .m 17 [.t 4] true (fun r=>[(5000,wR Zj 17 r)]) (fun r=>(wO Zj 5000 r)) fun | .L0 E0 v6=>([1,1,0,1,4],⟨21,[(5,.bptr 3000 0),(6,wI v6)],((3000,.box (tm7 E0 40000))::(tm19 E0 40000))⟩,Zadd E0 v6)
def Zxl:=fun a0 a1=>Z5b.run (Zaho a0 a1)
theorem Zas5(a0)(a1){r}(h:Zxl a0 a1=some r):FnG PR 17 [] [wL Zw a0,wA (Zae a1)] [(5000,wR Zj 17 r)] (wO Zj 5000 r):=Z5b.fn h
theorem Zade(a0:List Zl)(a1:Zm){r:List Za}(h:Zxl a0 a1=some r):Fn PR 17 [wL Zw a0,wA (Zae a1)] (wL Zj r):=
 FnG.frozen (C:=LT.RL Zj r/\True) (Zas5 a0 a1 h) ⟨rfl,trivial⟩ (by kernel_rfl)
def Za04:LT Empty Bool:=
.dr [.lit]<|.dr [.lit]<|.dr [.lit]<|.dr [.lit]<|.call (Zax8 [(⟨0,0,0,0,0,false,false,false,false,0,(⟨1,0,0⟩:A3 Int),0,0,0,false,0,0⟩:Zf),(⟨0,1,0,0,0,false,false,false,false,0,(⟨0,0,0⟩:A3 Int),0,0,0,false,0,0⟩:Zf)]) fun x3=>.lb 1002<|.call (Zade [(⟨([97]:By),false,(⟨0,0,(⟨0,0,0,0,0⟩:A5 Int)⟩:Zt),0,(⟨0,1,([]:Bys)⟩:Z7),2,2,0,([]:List Zd)⟩:Zl),(⟨([98]:By),false,(⟨0,0,(⟨0,0,0,0,0⟩:A5 Int)⟩:Zt),0,(⟨0,16,([]:Bys)⟩:Z7),0,0,0,[(⟨1,(⟨0,0,0,1,0,0,0,([]:By),0,0,(⟨0,0⟩:Zb),(⟨0,0⟩:Zb),(⟨0,0⟩:Zb)⟩:Zg),[(⟨13,1,1,([]:By),(⟨0,0,0,0,0,0,0,([]:By),0,0,(⟨0,0⟩:Zb),(⟨0,0⟩:Zb),(⟨0,0⟩:Zb)⟩:Zg)⟩:Zc)],(⟨(⟨0,0,(⟨0,0,0,0,0⟩:A5 Int)⟩:Zt),false,false,0⟩:Zgs),false,(⟨0,0,(⟨0,0,0,0,0,0,0,([]:By),0,0,(⟨0,0⟩:Zb),(⟨0,0⟩:Zb),(⟨0,0⟩:Zb)⟩:Zg)⟩:Zcg),false,([]:List Zaz),([]:List Zs),(⟨0,0,(⟨0,0,0,0,0,0,0,([]:By),0,0,(⟨0,0⟩:Zb),(⟨0,0⟩:Zb),(⟨0,0⟩:Zb)⟩:Zg),0,0,0,0⟩:Za1)⟩:Zd)]⟩:Zl)] x3) fun x5=>.call (Ztr [(⟨([97]:By),false,(⟨0,0,(⟨0,0,0,0,0⟩:A5 Int)⟩:Zt),0,(⟨0,1,([]:Bys)⟩:Z7),2,2,0,([]:List Zd)⟩:Zl),(⟨([98]:By),false,(⟨0,0,(⟨0,0,0,0,0⟩:A5 Int)⟩:Zt),0,(⟨0,16,([]:Bys)⟩:Z7),0,0,0,[(⟨1,(⟨0,0,0,1,0,0,0,([]:By),0,0,(⟨0,0⟩:Zb),(⟨0,0⟩:Zb),(⟨0,0⟩:Zb)⟩:Zg),[(⟨13,1,1,([]:By),(⟨0,0,0,0,0,0,0,([]:By),0,0,(⟨0,0⟩:Zb),(⟨0,0⟩:Zb),(⟨0,0⟩:Zb)⟩:Zg)⟩:Zc)],(⟨(⟨0,0,(⟨0,0,0,0,0⟩:A5 Int)⟩:Zt),false,false,0⟩:Zgs),false,(⟨0,0,(⟨0,0,0,0,0,0,0,([]:By),0,0,(⟨0,0⟩:Zb),(⟨0,0⟩:Zb),(⟨0,0⟩:Zb)⟩:Zg)⟩:Zcg),false,([]:List Zaz),([]:List Zs),(⟨0,0,(⟨0,0,0,0,0,0,0,([]:By),0,0,(⟨0,0⟩:Zb),(⟨0,0⟩:Zb),(⟨0,0⟩:Zb)⟩:Zg),0,0,0,0⟩:Za1)⟩:Zd)]⟩:Zl)] x3) fun x7=>.len Zj x5<|.cs ((x5.length:Int)==2) (.k2 0<|.idx Zj x5 0 fun x11=>.k4 0<|.cs (x11.Power==4) (.k2 1<|.ag Zj x11 0<|.k4 1<|.cs (x11.Tough==4) (.k2 2<|.idx Zj x5 1 fun x15=>.k4 2<|.cs (x15.Name==([98]:By)) (.k2 3<|.len Z6 x7<|.k2 3<|.cs ((x7.length:Int)==1) (.k2 4<|.idx Z6 x7 0 fun x20=>.k4 4<|.rt (x20.Source==2))<|.k5 4<|.kg 4<|.rt false)<|.k4 3<|.b5 false<|.kb false<|.rt false)<|.k5 2<|.kg 2<|.b8 false<|.b2 false<|.rt false)<|.k5 1<|.kg 1<|.b16 false<|.rt false)<|.k5 0<|.kg 0<|.b16 false<|.b5 false<|.kb false<|.rt false
def Zahp:LF Empty Bool := .z0 11 [.t 0] wB
def Zasd:=Zahp.run (Za04)
theorem Z1j{r}(h:Zasd=some r):Fn PR 11 [] (wB r):=Zahp.fn h
inductive Zpc where
 | L0 (E0:Zt) (v3:Int) (v4:Int) (v5:Int)
def Z98(E0:Zt)(v3:Int)(v4:Int)(v5:Int):LT Zpc Int:=
.br (decide (v5 < 5)) (.idA (Zh.int .i64) (A5.list E0.Color) v5 (bx (Zaf E0)) 2 7 fun x2=>.ldC (Zh.int .i64) 16 x2 0<|.br (decide (x2 > 0)) (.g0 (.L0 E0 (IntKind.wrap .i64 (v3+v4)) (IntKind.wrap .i64 (2*v4)) (IntKind.wrap .i64 (v5+1))))<|.g0 (.L0 E0 v3 (IntKind.wrap .i64 (2*v4)) (IntKind.wrap .i64 (v5+1))))<|.rt v3
def Zadf(a0:Zt):LT Zpc Int:=
.lb 1001<|.call (Zwr a0) fun x1=>.br (!x1) (.rt 0)<|.go (.L0 a0 0 1 0) [.relab 1001 3000]
def Z1k:LF Zpc Int := .m0 67 [.t 2] wI fun | .L0 E0 v3 v4 v5=>([1,1,1,1,0,1,4],⟨24,[(1,.bptr 3000 0),(3,wI v3),(4,wI v4),(5,wI v5)],[(3000,.box (bx (Zaf E0)))]⟩,Z98 E0 v3 v4 v5)
def Zam7:=fun a0=>Z1k.run (Zadf a0)
theorem Zas6(a0){r}(h:Zam7 a0=some r):Fn PR 67 [wA (Zaf a0)] (wI r):=Z1k.fn h
inductive Znr where
 | L0 (E0:Zd) (E1:Zd) (E2:Zd) (v4:Int)
def Z67(E0:Zd)(E1:Zd)(E2:Zd)(v4:Int):LT Znr Zd:=
.len Zq E0.Effects<|.br (decide (v4 < (E0.Effects.length:Int))) (.idx Zq E0.Effects v4 fun x3=>.lb 1005<|.lb 1030<|.apR Zk 176 ([]:List Zc) x3.Mods fun x5=>.dr [.ahead 38,.pick [37,36,35,34,33,32,31,5,29,28,27,26,25,22,21,20,19,18,1,2,3,4] [1005,1030,3000,3001,40117,40148,40149,3002,40217,40248,40249],.frz 1030,.stop]<|.rl Zk x5<|.rl Zk x5<|.rl Zk x5<|.dr [.lit]<|.apR Zq 560 E2.Effects [(⟨x3.Op,x3.Ref,x3.Amount,x3.Counter,x3.Zone,x3.Card,x3.Filter,x3.Pool,x5⟩:Zs)] fun x8=>.g0 (.L0 E0 E1 (⟨E2.Kind,E2.Filter,E2.Mods,E2.Price,E2.Slow,E2.Trigger,E2.May,E2.Specs,x8,E2.Replace⟩:Zd) (IntKind.wrap .i64 (v4+1))))<|.ret E2 [.relab 40217 5017,.relab 40248 5048,.relab 40249 5049]
def Z99(a0:Zd):LT Znr Zd:=
.lb 1001<|.lb 1002<|.lb 1003<|.lb 1007<|.apR Zk 176 ([]:List Zc) a0.Mods fun x1=>.lb 1012<|.apR Z9 144 ([]:List Zaz) a0.Specs fun x4=>.go (.L0 a0 (⟨0,(⟨0,0,0,0,0,0,0,([]:By),0,0,(⟨0,0⟩:Zb),(⟨0,0⟩:Zb),(⟨0,0⟩:Zb)⟩:Zg),([]:List Zc),(⟨(⟨0,0,(⟨0,0,0,0,0⟩:A5 Int)⟩:Zt),false,false,0⟩:Zgs),false,(⟨0,0,(⟨0,0,0,0,0,0,0,([]:By),0,0,(⟨0,0⟩:Zb),(⟨0,0⟩:Zb),(⟨0,0⟩:Zb)⟩:Zg)⟩:Zcg),false,([]:List Zaz),([]:List Zs),(⟨0,0,(⟨0,0,0,0,0,0,0,([]:By),0,0,(⟨0,0⟩:Zb),(⟨0,0⟩:Zb),(⟨0,0⟩:Zb)⟩:Zg),0,0,0,0⟩:Za1)⟩:Zd) (⟨a0.Kind,a0.Filter,x1,a0.Price,a0.Slow,a0.Trigger,a0.May,x4,([]:List Zs),a0.Replace⟩:Zd) 0) [.relab 1001 3000,.relab 1002 3001,.relab 1003 3002,.ownb 3001 17 40117 20,.ownb 3001 48 40148 18,.ownb 3001 49 40149 64,.relab 1007 40217,.relab 1012 40248,.ownb 3002 49 40249 64]
def Zye:LF Znr Zd := .m 68 [.c 2 89 true 72] true (fun r=>(tm17 r 5000)) (fun r=>(.agg (tm1 r 5000))) fun | .L0 E0 E1 E2 v4=>([1,1,1,1,1,0,1,4],⟨42,[(1,.bptr 3000 0),(2,.bptr 3001 0),(3,.bptr 3002 0),(4,wI v4)],((3000,.box (bx (Zi E0)))::(3001,.box (tm1 E1 40100))::(40117,wR Zk 20 E1.Mods)::(40148,wR Z9 18 E1.Specs)::(40149,wR Zq 64 E1.Effects)::(3002,.box (tm1 E2 40200))::(tm17 E2 40200))⟩,Z67 E0 E1 E2 v4)
def Z5c:=fun a0=>Zye.run (Z99 a0)
theorem Zam8(a0){r}(h:Z5c a0=some r):FnG PR 68 [] [wA (Zi a0)] (tm17 r 5000) (.agg (tm1 r 5000)):=Zye.fn h
theorem Zapf(a0:Zd){r:Zd}(h:Z5c a0=some r):Fn PR 68 [wA (Zi a0)] (wA (Zi r)):=
 FnG.frozen (C:=LT.RL Zk r.Mods/\LT.RL Z9 r.Specs/\LT.RL Zq r.Effects/\True) (Zam8 a0 h) ⟨rfl,rfl,rfl,trivial⟩ (by kernel_rfl)
inductive Zns where
 | L0 (E0:Zl) (E1:Za) (E2:Za) (v4:Int)
def Z68(E0:Zl)(E1:Za)(E2:Za)(v4:Int):LT Zns Za:=
.len Zi E0.Abilities<|.br (decide (v4 < (E0.Abilities.length:Int))) (.idx Zi E0.Abilities v4 fun x3=>.call (Zapf x3) fun x5=>.dr [.lit]<|.apR Zi 640 E2.Abilities [x5] fun x7=>.g0 (.L0 E0 E1 (⟨E2.Name,E2.Cost,E2.Colors,E2.Line,E2.Power,E2.Tough,E2.Keys,x7,E2.Control⟩:Za) (IntKind.wrap .i64 (v4+1))))<|.ret E2 [.relab 40211 5011,.relab 40215 5015]
def Zaaa(a0:Zl):LT Zns Za:=
.lb 1001<|.lb 1002<|.call (Zas6 a0.Cost) fun x1=>.lb 1003<|.lb 1024<|.apR cS 16 ([]:Bys) a0.Line.Subs fun x3=>.go (.L0 a0 (⟨([]:By),(⟨0,0,(⟨0,0,0,0,0⟩:A5 Int)⟩:Zt),0,(⟨0,0,([]:Bys)⟩:Z7),0,0,0,([]:List Zd),0⟩:Za) (⟨a0.Name,a0.Cost,Zau .or .i64 x1 a0.Color,(⟨a0.Line.Super,a0.Line.Types,x3⟩:Z7),a0.Power,a0.Tough,a0.Keys,([]:List Zd),0⟩:Za) 0) [.relab 1001 3000,.relab 1002 3001,.relab 1003 3002,.ownb 3001 11 40111 1,.ownb 3001 15 40115 72,.relab 1024 40211,.ownb 3002 15 40215 72]
def Zyf:LF Zns Za := .m 40 [.c 2 66 true 17] true (fun r=>[(5011,wR cS 1 r.Line.Subs),(5015,wR Zi 72 r.Abilities)]) (fun r=>(.agg (tm2 r 5000))) fun | .L0 E0 E1 E2 v4=>([1,1,1,0,1,4],⟨50,[(1,.bptr 3000 0),(2,.bptr 3001 0),(3,.bptr 3002 0),(4,wI v4)],[(3000,.box (bx (Zw E0))),(3001,.box (tm2 E1 40100)),(40111,wR cS 1 E1.Line.Subs),(40115,wR Zi 72 E1.Abilities),(3002,.box (tm2 E2 40200)),(40211,wR cS 1 E2.Line.Subs),(40215,wR Zi 72 E2.Abilities)]⟩,Z68 E0 E1 E2 v4)
def Zahq:=fun a0=>Zyf.run (Zaaa a0)
theorem Zam9(a0){r}(h:Zahq a0=some r):FnG PR 40 [] [wA (Zw a0)] [(5011,wR cS 1 r.Line.Subs),(5015,wR Zi 72 r.Abilities)] (.agg (tm2 r 5000)):=Zyf.fn h
inductive Zvk where
 | L0 (v0:List Zl) (E0:Zf) (E1:Za) (v5:Int)
 | L1 (E0:Zf) (E1:Za) (E2:Za)
def Zst(E0:Zf)(E1:Za)(E2:Za):LT Zvk Za:=
.cs (E0.Zone==0) (.k4 0<|.kn [0]<|.ret (⟨E2.Name,E2.Cost,E2.Colors,E2.Line,E2.Power,E2.Tough,E2.Keys,E2.Abilities,E0.Control⟩:Za) [.relab 40211 5011,.relab 40215 5015])<|.k4 0<|.br (E0.Zone==5) (.ret (⟨E2.Name,E2.Cost,E2.Colors,E2.Line,E2.Power,E2.Tough,E2.Keys,E2.Abilities,E0.Control⟩:Za) [.relab 40211 5011,.relab 40215 5015])<|.ret (⟨E2.Name,E2.Cost,E2.Colors,E2.Line,E2.Power,E2.Tough,E2.Keys,E2.Abilities,E0.Owner⟩:Za) [.relab 40211 5011,.relab 40215 5015]
def Zxm(v0:List Zl)(E0:Zf)(E1:Za)(v5:Int):LT Zvk Za:=
.lb 1006<|.cs (decide (v5>=0)) (.k3 0<|.len Zw v0<|.k2 0<|.br (decide (v5 < (v0.length:Int))) (.idx Zw v0 v5 fun x4=>.callF (Zam9 x4) 260000 fun x6=>.jn 0 (.L1 E0 E1 x6) [.relab 1006 3002,.relab 265011 40211,.relab 265015 40215] (Zst E0 E1 x6))<|.jn 0 (.L1 E0 E1 (⟨([]:By),(⟨0,0,(⟨0,0,0,0,0⟩:A5 Int)⟩:Zt),0,(⟨0,0,([]:Bys)⟩:Z7),0,0,0,([]:List Zd),0⟩:Za)) (tm15 1000 3000 40200) (Zst E0 E1 (⟨([]:By),(⟨0,0,(⟨0,0,0,0,0⟩:A5 Int)⟩:Zt),0,(⟨0,0,([]:Bys)⟩:Z7),0,0,0,([]:List Zd),0⟩:Za)))<|.k5 0<|.kn [0]<|.jn 0 (.L1 E0 E1 (⟨([]:By),(⟨0,0,(⟨0,0,0,0,0⟩:A5 Int)⟩:Zt),0,(⟨0,0,([]:Bys)⟩:Z7),0,0,0,([]:List Zd),0⟩:Za)) (tm15 1000 3000 40200) (Zst E0 E1 (⟨([]:By),(⟨0,0,(⟨0,0,0,0,0⟩:A5 Int)⟩:Zt),0,(⟨0,0,([]:Bys)⟩:Z7),0,0,0,([]:List Zd),0⟩:Za))
def Zayf(a0:List Zl)(a1:Zf):LT Zvk Za:=
.lb 1003<|.lb 1004<|.br (decide (a1.Copy < 0)) (.jn 0 (.L0 a0 a1 (⟨([]:By),(⟨0,0,(⟨0,0,0,0,0⟩:A5 Int)⟩:Zt),0,(⟨0,0,([]:Bys)⟩:Z7),0,0,0,([]:List Zd),0⟩:Za) a1.Card) (tm14 1000 3000 40100) (Zxm a0 a1 (⟨([]:By),(⟨0,0,(⟨0,0,0,0,0⟩:A5 Int)⟩:Zt),0,(⟨0,0,([]:Bys)⟩:Z7),0,0,0,([]:List Zd),0⟩:Za) a1.Card))<|.jn 0 (.L0 a0 a1 (⟨([]:By),(⟨0,0,(⟨0,0,0,0,0⟩:A5 Int)⟩:Zt),0,(⟨0,0,([]:Bys)⟩:Z7),0,0,0,([]:List Zd),0⟩:Za) a1.Copy) (tm14 1000 3000 40100) (Zxm a0 a1 (⟨([]:By),(⟨0,0,(⟨0,0,0,0,0⟩:A5 Int)⟩:Zt),0,(⟨0,0,([]:Bys)⟩:Z7),0,0,0,([]:List Zd),0⟩:Za) a1.Copy)
def Zayg:LF Zvk Za := .m 22 [.c 4 66 true 17] true (fun r=>[(5011,wR cS 1 r.Line.Subs),(5015,wR Zi 72 r.Abilities)]) (fun r=>(.agg (tm2 r 5000))) fun | .L0 v0 E0 E1 v5=>([1,1,1],⟨41,[(0,wL Zw v0),(3,.bptr 3000 0),(4,.bptr 3001 0),(5,wI v5)],[(3000,.box (bx (Zn E0))),(3001,.box (tm2 E1 40100)),(40111,wR cS 1 E1.Line.Subs),(40115,wR Zi 72 E1.Abilities)]⟩,Zxm v0 E0 E1 v5) | .L1 E0 E1 E2=>([1,1,1,1,1],⟨41,[(3,.bptr 3000 0),(4,.bptr 3001 0),(6,.bptr 3002 0)],[(3000,.box (bx (Zn E0))),(3001,.box (tm2 E1 40100)),(40111,wR cS 1 E1.Line.Subs),(40115,wR Zi 72 E1.Abilities),(3002,.box (tm2 E2 40200)),(40211,wR cS 1 E2.Line.Subs),(40215,wR Zi 72 E2.Abilities)]⟩,Zst E0 E1 E2)
def Zayh:=fun a0 a1=>Zayg.run (Zayf a0 a1)
theorem Za38(a0)(a1){r}(h:Zayh a0 a1=some r):FnG PR 22 [] [wL Zw a0,wA (Zn a1)] [(5011,wR cS 1 r.Line.Subs),(5015,wR Zi 72 r.Abilities)] (.agg (tm2 r 5000)):=Zayg.fn h
theorem Za8e(a0:List Zl)(a1:Zf){r:Za}(h:Zayh a0 a1=some r):Fn PR 22 [wL Zw a0,wA (Zn a1)] (wA (Zj r)):=
 FnG.frozen (C:=LT.RL cS r.Line.Subs/\LT.RL Zi r.Abilities/\True) (Za38 a0 a1 h) ⟨rfl,rfl,trivial⟩ (by kernel_rfl)
end
end Go.PW
