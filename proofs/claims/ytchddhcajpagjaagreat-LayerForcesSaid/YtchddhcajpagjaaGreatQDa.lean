import Derived.Test.YtchddhcajpagjaaGreatQDt
set_option linter.all false
set_option maxRecDepth 100000
namespace Go.PW
open Go.RowKit
noncomputable section
def Z6h(a0:Int):LT Empty Bool:=
.cs (decide (a0>=97)) (.k3 0<|.rt (decide (a0<=122)))<|.k3 0<|.rt false
def Zak2:LF Empty Bool := .z0 120 [.t 2] wB
def Z10:=fun a0=>Zak2.run (Z6h a0)
theorem Zae5(a0){r}(h:Z10 a0=some r):Fn PR 120 [.t (.int .u8 a0)] (wB r):=Zak2.fn h
inductive Zji where
 | L0 (v0:By) (v3:Int)
 | L1 (v0:By) (v3:Int)
def Zhr(v0:By)(v3:Int):LT Zji Bool:=
.cs (decide (v3 > 0)) (.k3 0<|.idxS v0 v3 fun x2=>.k2 0<|.cs ((UInt8.toNat x2:Int)==45) (.k4 1<|.idxS v0 (IntKind.wrap .i64 (v3 - 1)) fun x7=>.k2 1<|.br ((UInt8.toNat x7:Int)==45) (.rt false)<|.g0 (.L0 v0 (IntKind.wrap .i64 (v3+1))))<|.k5 1<|.kg 1<|.kn [0]<|.g0 (.L0 v0 (IntKind.wrap .i64 (v3+1))))<|.k5 0<|.b5 false<|.kb false<|.kn [0]<|.g0 (.L0 v0 (IntKind.wrap .i64 (v3+1)))
def Zk2(v0:By)(v3:Int):LT Zji Bool:=
.lenS v0<|.br (decide (v3 < (v0.length:Int))) (.idxS v0 v3 fun x3=>.call (Zae5 (UInt8.toNat x3:Int)) fun x5=>.cs (!x5) (.k3 1<|.idxS v0 v3 fun x8=>.k2 1<|.cs (decide ((UInt8.toNat x8:Int) < 48)) (.k4 2<|.kg 1<|.kg 2<|.kg 1<|.b3 true<|.idxS v0 v3 fun x11=>.b2 true<|.br ((UInt8.toNat x11:Int) != 45) (.rt false)<|.j0 (.L1 v0 v3) (Zhr v0 v3))<|.k3 2<|.idxS v0 v3 fun x14=>.kg 2<|.kg 1<|.kg 2<|.kg 1<|.cs (decide ((UInt8.toNat x14:Int) > 57)) (.k3 3<|.idxS v0 v3 fun x17=>.k2 3<|.br ((UInt8.toNat x17:Int) != 45) (.rt false)<|.j0 (.L1 v0 v3) (Zhr v0 v3))<|.k5 3<|.kn [0]<|.j0 (.L1 v0 v3) (Zhr v0 v3))<|.k5 1<|.k2 1<|.b5 false<|.kn [0]<|.j0 (.L1 v0 v3) (Zhr v0 v3))<|.rt true
def Zab5(a0:By):LT Zji Bool:=
.lenS a0<|.cs (decide ((a0.length:Int) < 1)) (.k4 0<|.b8 true<|.b4 true<|.kn [0]<|.rt false)<|.k2 0<|.lenS a0<|.k2 0<|.cs (decide ((a0.length:Int) > 32)) (.k5 1<|.b5 true<|.b2 true<|.kn [0]<|.rt false)<|.k2 1<|.idxS a0 0 fun x4=>.kg 1<|.call (Zae5 (UInt8.toNat x4:Int)) fun x6=>.k2 1<|.cs (!x6) (.k5 2<|.k2 2<|.kn [0]<|.rt false)<|.k3 2<|.lenS a0<|.k2 2<|.idxS a0 (IntKind.wrap .i64 ((a0.length:Int) - 1)) fun x11=>.k2 2<|.br ((UInt8.toNat x11:Int)==45) (.rt false)<|.g0 (.L0 a0 0)
def Zws:LF Zji Bool := .m0 73 [.t 2] wB fun | .L0 v0 v3=>([1,1,0,1,4],⟨70,[(0,wS v0),(3,wI v3)],[]⟩,Zk2 v0 v3) | .L1 v0 v3=>([1,1,0,1,4,5,1,0,4,1],⟨70,[(0,wS v0),(3,wI v3)],[]⟩,Zhr v0 v3)
def Z6i:=fun a0=>Zws.run (Zab5 a0)
theorem Z6j(a0){r}(h:Z6i a0=some r):Fn PR 73 [wS a0] (wB r):=Zws.fn h
inductive Zjj where
 | L0 (E0:Zr) (v3:Int)
def Zk3(E0:Zr)(v3:Int):LT Zjj Bool:=
.br (decide (v3 < 5)) (.idA (Zd.int .i64) (A5.list E0.Color) v3 (bx (Zae E0)) 2 7 fun x2=>.ldC (Zd.int .i64) 29 x2 0<|.cs (decide (x2 < 0)) (.k5 1<|.kg 1<|.kn [0]<|.rt false)<|.k3 1<|.idA (Zd.int .i64) (A5.list E0.Color) v3 (bx (Zae E0)) 2 7 fun x5=>.kg 1<|.ldC (Zd.int .i64) 35 x5 1<|.k2 1<|.br (decide (x5 > 9)) (.rt false)<|.g0 (.L0 E0 (IntKind.wrap .i64 (v3+1))))<|.rt true
def Zab6(a0:Zr):LT Zjj Bool:=
.lb 1001<|.cs (decide (a0.Generic < 0)) (.k4 0<|.b8 true<|.kn [0]<|.rt false)<|.k4 0<|.cs (decide (a0.Generic > 99)) (.k4 1<|.b4 true<|.kn [0]<|.rt false)<|.k4 1<|.cs (decide (a0.X < 0)) (.k4 2<|.kn [0]<|.rt false)<|.k4 2<|.br (decide (a0.X > 2)) (.rt false)<|.go (.L0 a0 0) [.relab 1001 3000]
def Zh3:LF Zjj Bool := .m0 74 [.t 2] wB fun | .L0 E0 v3=>([1,1,0,1,4],⟨38,[(1,.bptr 3000 0),(3,wI v3)],[(3000,.box (bx (Zae E0)))]⟩,Zk3 E0 v3)
def Z11:=fun a0=>Zh3.run (Zab6 a0)
theorem Zsx(a0){r}(h:Z11 a0=some r):Fn PR 74 [wA (Zae a0)] (wB r):=Zh3.fn h
def Zwt:LT Empty (Bys):=
.lb 1001<|.ret [([98,97,115,105,99]:By),([117,110,105,113,117,101]:By)] [.relab 1001 5000]
def Zwu:LF Empty (Bys) := .z 169 [.t 0] true (fun r=>[(5000,wR cS 1 r)]) (fun r=>(wO cS 5000 r))
def Zij:=Zwu.run (Zwt)
theorem Z6k{r}(h:Zij=some r):FnG PR 169 [] [] [(5000,wR cS 1 r)] (wO cS 5000 r):=Zwu.fn h
theorem Z9m{r:Bys}(h:Zij=some r):Fn PR 169 [] (wL cS r):=
 FnG.frozen (C:=LT.RL cS r/\True) (Z6k h) ⟨rfl,trivial⟩ (by kernel_rfl)
inductive Zmw where
 | L0 (v0:Bys) (v1:By) (v5:Int)
def Zgw(v0:Bys)(v1:By)(v5:Int):LT Zmw Int:=
.len cS v0<|.br (decide (v5 < (v0.length:Int))) (.idx cS v0 v5 fun x3=>.br (x3==v1) (.rt v5)<|.g0 (.L0 v0 v1 (IntKind.wrap .i64 (v5+1))))<|.rt (-1)
def Zz9(a0:Bys)(a1:By):LT Zmw Int:=
.g0 (.L0 a0 a1 0)
def Z0a:LF Zmw Int := .m0 168 [.t 4] wI fun | .L0 v0 v1 v5=>([1,0,1,4],⟨19,[(0,wL cS v0),(1,wS v1),(5,wI v5)],[]⟩,Zgw v0 v1 v5)
def Zsy:=fun a0 a1=>Z0a.run (Zz9 a0 a1)
theorem Zwv(a0)(a1){r}(h:Zsy a0 a1=some r):Fn PR 168 [wL cS a0,wS a1] (wI r):=Z0a.fn h
def Zy9:LT Empty (Bys):=
.lb 1001<|.ret [([99,114,101,97,116,117,114,101]:By),([105,110,115,116,97,110,116]:By),([114,105,116,117,97,108]:By),([114,101,108,105,99]:By),([99,104,97,114,109]:By),([108,97,110,100]:By)] [.relab 1001 5000]
def Zza:LF Empty (Bys) := .z 170 [.t 0] true (fun r=>[(5000,wR cS 1 r)]) (fun r=>(wO cS 5000 r))
def Zjq:=Zza.run (Zy9)
theorem Z9n{r}(h:Zjq=some r):FnG PR 170 [] [] [(5000,wR cS 1 r)] (wO cS 5000 r):=Zza.fn h
theorem Zww{r:Bys}(h:Zjq=some r):Fn PR 170 [] (wL cS r):=
 FnG.frozen (C:=LT.RL cS r/\True) (Z9n h) ⟨rfl,trivial⟩ (by kernel_rfl)
def Z0b(a0:By):LT Empty Bool:=
.call (Z6j a0) fun x1=>.cs x1 (.kg 0<|.call (Z9m) fun x4=>.k2 0<|.call (Zwv x4 a0) fun x6=>.k2 0<|.cs (decide (x6 < 0)) (.kg 1<|.call (Zww) fun x9=>.k2 1<|.call (Zwv x9 a0) fun x11=>.k2 1<|.rt (decide (x11 < 0)))<|.k5 1<|.rt false)<|.k5 0<|.b5 false<|.rt false
def Z97:LF Empty Bool := .z0 121 [.t 2] wB
def Zsz:=fun a0=>Z97.run (Z0b a0)
theorem Zwx(a0){r}(h:Zsz a0=some r):Fn PR 121 [wS a0] (wB r):=Z97.fn h
inductive Zs0 where
 | L0 (v0:Int) (v1:Int) (v5:Int)
def Z3n(v0:Int)(v1:Int)(v5:Int):LT Zs0 Bool:=
.br (decide (v5 < v1)) (.dc ((2:Int)≠0) rfl<|.g0 (.L0 (Zmg .i64 v0 2) v1 (IntKind.wrap .i64 (v5+1))))<|.dc ((2:Int)≠0) rfl<|.rt ((Int.tmod v0 2)==1)
def Zak3(a0:Int)(a1:Int):LT Zs0 Bool:=
.g0 (.L0 a0 a1 0)
def Zak4:LF Zs0 Bool := .m0 122 [.t 4] wB fun | .L0 v0 v1 v5=>([1,0,1,4],⟨16,[(0,wI v0),(1,wI v1),(5,wI v5)],[]⟩,Z3n v0 v1 v5)
def Zai6:=fun a0 a1=>Zak4.run (Zak3 a0 a1)
theorem Z3o(a0)(a1){r}(h:Zai6 a0 a1=some r):Fn PR 122 [wI a0,wI a1] (wB r):=Zak4.fn h
inductive Zwy where
 | L0 (E0:Z6) (v3:Int)
def Z6l(E0:Z6)(v3:Int):LT Zwy Bool:=
.len cS E0.Subs<|.br (decide (v3 < (E0.Subs.length:Int))) (.idx cS E0.Subs v3 fun x3=>.call (Zwx x3) fun x5=>.cs (!x5) (.k5 1<|.kn [0]<|.rt false)<|.k3 1<|.cs (decide (v3 > 0)) (.k5 2<|.idx cS E0.Subs (IntKind.wrap .i64 (v3 - 1)) fun x11=>.k5 2<|.ag cS x3 0<|.k2 2<|.kg 1<|.kg 2<|.kg 1<|.br (!(Op.bytesLess x11 x3)) (.rt false)<|.g0 (.L0 E0 (IntKind.wrap .i64 (v3+1))))<|.k8 2<|.k4 2<|.kg 1<|.kg 2<|.kg 1<|.kn [0]<|.g0 (.L0 E0 (IntKind.wrap .i64 (v3+1))))<|.cs (E0.Types==2) (.k4 1<|.b5 true<|.b2 true<|.rt true)<|.k4 1<|.cs (E0.Types==4) (.k5 2<|.k2 2<|.rt true)<|.k3 2<|.call (Z3o E0.Types 1) fun x20=>.k2 2<|.cs (!x20) (.k3 3<|.call (Z3o E0.Types 2) fun x23=>.kg 3<|.kg 2<|.kg 3<|.kg 2<|.rt (!x23))<|.k4 3<|.kg 2<|.kg 3<|.kg 2<|.rt false
def Zao5(a0:Z6):LT Zwy Bool:=
.lb 1001<|.cs (decide (a0.Super < 0)) (.k4 0<|.b8 true<|.b5 true<|.kn [0]<|.rt false)<|.k4 0<|.cs (decide (a0.Super > 3)) (.k4 1<|.b8 true<|.kb true<|.kn [0]<|.rt false)<|.k4 1<|.cs (decide (a0.Types < 1)) (.k4 2<|.b5 true<|.kn [0]<|.rt false)<|.k4 2<|.cs (decide (a0.Types > 63)) (.k5 3<|.kn [0]<|.rt false)<|.k3 3<|.len cS a0.Subs<|.k2 3<|.br (decide ((a0.Subs.length:Int) > 4)) (.rt false)<|.go (.L0 a0 0) [.relab 1001 3000]
def Zao6:LF Zwy Bool := .m0 75 [.t 2] wB fun | .L0 E0 v3=>([1,1,0,1,4],⟨80,[(1,.bptr 3000 0),(3,wI v3)],[(3000,.box (bx (Zd8 E0)))]⟩,Z6l E0 v3)
def Zao7:=fun a0=>Zao6.run (Zao5 a0)
theorem Zayb(a0){r}(h:Zao7 a0=some r):Fn PR 75 [wA (Zd8 a0)] (wB r):=Zao6.fn h
def Zao8(a0:Int):LT Empty Bool:=
.cs (decide (a0>=0)) (.k3 0<|.rt (decide (a0<=131071)))<|.k3 0<|.rt false
def Zao9:LF Empty Bool := .z0 76 [.t 2] wB
def Zapa:=fun a0=>Zao9.run (Zao8 a0)
theorem Zak5(a0){r}(h:Zapa a0=some r):Fn PR 76 [wI a0] (wB r):=Zao9.fn h
def Z12(a0:Zk):LT Empty Bool:=
.lb 1001<|.rt ((Zax .and .i64 a0.Line.Types 1) != 0)
def Z13:LF Empty Bool := .z0 77 [.t 2] wB
def Zwz:=fun a0=>Z13.run (Z12 a0)
theorem Zae6(a0){r}(h:Zwz a0=some r):Fn PR 77 [wA (Zu a0)] (wB r):=Z13.fn h
inductive Zmx where
 | L0 (v0:Int) (v1:Int) (v7:Int)
def Zgx(v0:Int)(v1:Int)(v7:Int):LT Zmx Bool:=
.br (decide (v7 < 6)) (.dc ((2:Int)≠0) rfl<|.cs ((Int.tmod v0 2)==1) (.k2 1<|.dc ((2:Int)≠0) rfl<|.k2 1<|.br ((Int.tmod v1 2)==1) (.rt false)<|.dc ((2:Int)≠0) rfl<|.dc ((2:Int)≠0) rfl<|.g0 (.L0 (Zmg .i64 v0 2) (Zmg .i64 v1 2) (IntKind.wrap .i64 (v7+1))))<|.k4 1<|.kn [0]<|.dc ((2:Int)≠0) rfl<|.dc ((2:Int)≠0) rfl<|.g0 (.L0 (Zmg .i64 v0 2) (Zmg .i64 v1 2) (IntKind.wrap .i64 (v7+1))))<|.rt true
def Z0c(a0:Int)(a1:Int)(a2:Int):LT Zmx Bool:=
.cs (decide (a0 < 0)) (.k4 0<|.b5 true<|.b2 true<|.kn [0]<|.rt false)<|.k4 0<|.cs (decide (a0 > a2)) (.k3 1<|.b4 true<|.kn [0]<|.rt false)<|.k3 1<|.cs (decide (a1 < 0)) (.k4 2<|.kn [0]<|.rt false)<|.k4 2<|.br (decide (a1 > a2)) (.rt false)<|.g0 (.L0 a0 a1 0)
def Zmy:LF Zmx Bool := .m0 171 [.t 6] wB fun | .L0 v0 v1 v7=>([1,1,0,1,4],⟨40,[(0,wI v0),(1,wI v1),(7,wI v7)],[]⟩,Zgx v0 v1 v7)
def Zs1:=fun a0 a1 a2=>Zmy.run (Z0c a0 a1 a2)
theorem Z6m(a0)(a1)(a2){r}(h:Zs1 a0 a1 a2=some r):Fn PR 171 [wI a0,wI a1,wI a2] (wB r):=Zmy.fn h
def Z0d(a0:Za):LT Empty Bool:=
.lb 1001<|.cs (decide (a0.Kind < 0)) (.k4 0<|.b8 true<|.kn [0]<|.rt false)<|.k4 0<|.cs (decide (a0.Kind > 3)) (.k4 1<|.b4 true<|.kn [0]<|.rt false)<|.k4 1<|.cs (decide (a0.N < 0)) (.k4 2<|.kn [0]<|.rt false)<|.k4 2<|.br (decide (a0.N > 1000000)) (.rt false)<|.cs (a0.Kind != 0) (.k4 4<|.rt true)<|.k4 4<|.rt (a0.N==0)
def Z98:LF Empty Bool := .z0 172 [.t 2] wB
def Zs2:=fun a0=>Z98.run (Z0d a0)
theorem Zw0(a0){r}(h:Zs2 a0=some r):Fn PR 172 [wA (Zb8 a0)] (wB r):=Z98.fn h
inductive Zw1 where
 | L0 (E0:Zc)
def Zk4(E0:Zc):LT Zw1 Bool:=
.call (Zw0 E0.Power) fun x1=>.cs x1 (.k3 0<|.call (Zw0 E0.Tough) fun x4=>.kg 0<|.cs x4 (.k3 1<|.call (Zw0 E0.Value) fun x7=>.kg 1<|.rt x7)<|.k4 1<|.rt false)<|.k4 0<|.b4 false<|.rt false
def Zab7(a0:Zc):LT Zw1 Bool:=
.lb 1001<|.cs (decide (a0.Zone < 0)) (.k4 0<|.b16 true<|.b8 true<|.kn [0]<|.rt false)<|.k4 0<|.cs (decide (a0.Zone > 5)) (.k4 1<|.b16 true<|.b4 true<|.kn [0]<|.rt false)<|.k4 1<|.cs (decide (a0.Who < 0)) (.k4 2<|.b16 true<|.kn [0]<|.rt false)<|.k4 2<|.cs (decide (a0.Who > 2)) (.k4 3<|.b8 true<|.b4 true<|.kn [0]<|.rt false)<|.k4 3<|.cs (decide (a0.Self < 0)) (.k4 4<|.b8 true<|.kn [0]<|.rt false)<|.k4 4<|.cs (decide (a0.Self > 2)) (.k4 5<|.b4 true<|.kn [0]<|.rt false)<|.k4 5<|.cs (decide (a0.Tap < 0)) (.k4 6<|.kn [0]<|.rt false)<|.k4 6<|.br (decide (a0.Tap > 2)) (.rt false)<|.call (Z6m a0.Types a0.NotTypes 63) fun x9=>.cs (!x9) (.k5 8<|.k2 8<|.kn [0]<|.rt false)<|.k5 8<|.call (Z6m a0.Colors a0.NotColors 31) fun x12=>.k2 8<|.br (!x12) (.rt false)<|.cs (!(a0.Sub==([]:By))) (.k3 10<|.call (Zwx a0.Sub) fun x16=>.k2 10<|.cs (!x16) (.k4 11<|.b4 true<|.kn [0]<|.rt false)<|.k4 11<|.cs (decide (a0.Keys < 0)) (.k4 12<|.kn [0]<|.rt false)<|.k4 12<|.br (decide (a0.Keys > 131071)) (.rt false)<|.jn 0 (.L0 a0) [.relab 1001 3000] (Zk4 a0))<|.k5 10<|.b4 false<|.cs (decide (a0.Keys < 0)) (.k4 11<|.kn [0]<|.rt false)<|.k4 11<|.br (decide (a0.Keys > 131071)) (.rt false)<|.jn 0 (.L0 a0) [.relab 1001 3000] (Zk4 a0)
def Zab8:LF Zw1 Bool := .m0 123 [.t 2] wB fun | .L0 E0=>([1,1,1,1],⟨87,[(1,.bptr 3000 0)],[(3000,.box (bx (Zn E0)))]⟩,Zk4 E0)
def Z14:=fun a0=>Zab8.run (Zab7 a0)
theorem Zfr(a0){r}(h:Z14 a0=some r):Fn PR 123 [wA (Zn a0)] (wB r):=Zab8.fn h
inductive Zly where
 | L0 (E0:Zh) (E1:Zh) (v7:Int) (v8:Bool)
 | L1 (E0:Zh) (E1:Zh) (v7:Int) (v16:Bool)
def Zmz(E0:Zh)(E1:Zh)(v7:Int)(v16:Bool):LT Zly Zh:=
.br v16 (.rt (⟨E0.Kind,E0.N,E0.M,([]:By),E0.Filter⟩:Zh))<|.br (v7==11) (.rt (⟨E0.Kind,E0.N,E0.M,E0.Sub,(⟨0,0,0,0,0,0,0,([]:By),0,0,(⟨0,0⟩:Za),(⟨0,0⟩:Za),(⟨0,0⟩:Za)⟩:Zc)⟩:Zh))<|.br (v7==12) (.kn [3]<|.rt (⟨E0.Kind,0,0,E0.Sub,E0.Filter⟩:Zh))<|.br (v7==13) (.rt (⟨E0.Kind,0,0,E0.Sub,E0.Filter⟩:Zh))<|.rt E0
def Zfi(E0:Zh)(E1:Zh)(v7:Int)(v8:Bool):LT Zly Zh:=
.br v8 (.rt (⟨E0.Kind,0,E0.M,E0.Sub,E0.Filter⟩:Zh))<|.br (v7==4) (.j0 (.L1 E0 E1 v7 (v7==4)) (Zmz E0 E1 v7 (v7==4)))<|.j0 (.L1 E0 E1 v7 (v7==5)) (Zmz E0 E1 v7 (v7==5))
def Zae7(a0:Zh):LT Zly Zh:=
.lb 1001<|.lb 1002<|.br (a0.Kind==2) (.jn 0 (.L0 (⟨0,a0.N,a0.M,a0.Sub,a0.Filter⟩:Zh) (⟨0,0,0,([]:By),(⟨0,0,0,0,0,0,0,([]:By),0,0,(⟨0,0⟩:Za),(⟨0,0⟩:Za),(⟨0,0⟩:Za)⟩:Zc)⟩:Zh) a0.Kind (a0.Kind==2)) [.relab 1001 3000,.relab 1002 3001] (Zfi (⟨0,a0.N,a0.M,a0.Sub,a0.Filter⟩:Zh) (⟨0,0,0,([]:By),(⟨0,0,0,0,0,0,0,([]:By),0,0,(⟨0,0⟩:Za),(⟨0,0⟩:Za),(⟨0,0⟩:Za)⟩:Zc)⟩:Zh) a0.Kind (a0.Kind==2)))<|.br (a0.Kind==3) (.jn 0 (.L0 (⟨0,a0.N,a0.M,a0.Sub,a0.Filter⟩:Zh) (⟨0,0,0,([]:By),(⟨0,0,0,0,0,0,0,([]:By),0,0,(⟨0,0⟩:Za),(⟨0,0⟩:Za),(⟨0,0⟩:Za)⟩:Zc)⟩:Zh) a0.Kind (a0.Kind==3)) [.relab 1001 3000,.relab 1002 3001] (Zfi (⟨0,a0.N,a0.M,a0.Sub,a0.Filter⟩:Zh) (⟨0,0,0,([]:By),(⟨0,0,0,0,0,0,0,([]:By),0,0,(⟨0,0⟩:Za),(⟨0,0⟩:Za),(⟨0,0⟩:Za)⟩:Zc)⟩:Zh) a0.Kind (a0.Kind==3)))<|.br (a0.Kind==6) (.jn 0 (.L0 (⟨0,a0.N,a0.M,a0.Sub,a0.Filter⟩:Zh) (⟨0,0,0,([]:By),(⟨0,0,0,0,0,0,0,([]:By),0,0,(⟨0,0⟩:Za),(⟨0,0⟩:Za),(⟨0,0⟩:Za)⟩:Zc)⟩:Zh) a0.Kind (a0.Kind==6)) [.relab 1001 3000,.relab 1002 3001] (Zfi (⟨0,a0.N,a0.M,a0.Sub,a0.Filter⟩:Zh) (⟨0,0,0,([]:By),(⟨0,0,0,0,0,0,0,([]:By),0,0,(⟨0,0⟩:Za),(⟨0,0⟩:Za),(⟨0,0⟩:Za)⟩:Zc)⟩:Zh) a0.Kind (a0.Kind==6)))<|.br (a0.Kind==7) (.jn 0 (.L0 (⟨0,a0.N,a0.M,a0.Sub,a0.Filter⟩:Zh) (⟨0,0,0,([]:By),(⟨0,0,0,0,0,0,0,([]:By),0,0,(⟨0,0⟩:Za),(⟨0,0⟩:Za),(⟨0,0⟩:Za)⟩:Zc)⟩:Zh) a0.Kind (a0.Kind==7)) [.relab 1001 3000,.relab 1002 3001] (Zfi (⟨0,a0.N,a0.M,a0.Sub,a0.Filter⟩:Zh) (⟨0,0,0,([]:By),(⟨0,0,0,0,0,0,0,([]:By),0,0,(⟨0,0⟩:Za),(⟨0,0⟩:Za),(⟨0,0⟩:Za)⟩:Zc)⟩:Zh) a0.Kind (a0.Kind==7)))<|.br (a0.Kind==8) (.jn 0 (.L0 (⟨0,a0.N,a0.M,a0.Sub,a0.Filter⟩:Zh) (⟨0,0,0,([]:By),(⟨0,0,0,0,0,0,0,([]:By),0,0,(⟨0,0⟩:Za),(⟨0,0⟩:Za),(⟨0,0⟩:Za)⟩:Zc)⟩:Zh) a0.Kind (a0.Kind==8)) [.relab 1001 3000,.relab 1002 3001] (Zfi (⟨0,a0.N,a0.M,a0.Sub,a0.Filter⟩:Zh) (⟨0,0,0,([]:By),(⟨0,0,0,0,0,0,0,([]:By),0,0,(⟨0,0⟩:Za),(⟨0,0⟩:Za),(⟨0,0⟩:Za)⟩:Zc)⟩:Zh) a0.Kind (a0.Kind==8)))<|.jn 0 (.L0 (⟨0,a0.N,a0.M,a0.Sub,a0.Filter⟩:Zh) (⟨0,0,0,([]:By),(⟨0,0,0,0,0,0,0,([]:By),0,0,(⟨0,0⟩:Za),(⟨0,0⟩:Za),(⟨0,0⟩:Za)⟩:Zc)⟩:Zh) a0.Kind (a0.Kind==9)) [.relab 1001 3000,.relab 1002 3001] (Zfi (⟨0,a0.N,a0.M,a0.Sub,a0.Filter⟩:Zh) (⟨0,0,0,([]:By),(⟨0,0,0,0,0,0,0,([]:By),0,0,(⟨0,0⟩:Za),(⟨0,0⟩:Za),(⟨0,0⟩:Za)⟩:Zc)⟩:Zh) a0.Kind (a0.Kind==9))
def Zae8:LF Zly Zh := .m0 185 [.c 2 79 true 20] (fun r=>(wA (Zl r))) fun | .L0 E0 E1 v7 v8=>([1,1,1,0,1,4,1],⟨30,[(1,.bptr 3000 0),(2,.bptr 3001 0),(7,wI v7),(8,wB v8)],[(3000,.box (bx (Zl E0))),(3001,.box (bx (Zl E1)))]⟩,Zfi E0 E1 v7 v8) | .L1 E0 E1 v7 v16=>([1,1,1,0,1,4,1,3,1],⟨30,[(1,.bptr 3000 0),(2,.bptr 3001 0),(7,wI v7),(16,wB v16)],[(3000,.box (bx (Zl E0))),(3001,.box (bx (Zl E1)))]⟩,Zmz E0 E1 v7 v16)
def Zab9:=fun a0=>Zae8.run (Zae7 a0)
theorem Zasy(a0){r}(h:Zab9 a0=some r):Fn PR 185 [wA (Zl a0)] (wA (Zl r)):=Zae8.fn h
def Z99(a0:Int):LT Empty Bool:=
.cs (decide (a0>=1)) (.k3 0<|.cs (decide (a0<=63)) (.k4 1<|.rt ((Zax .and .i64 a0 6)==0))<|.k4 1<|.rt false)<|.k3 0<|.b4 false<|.rt false
def Zaaa:LF Empty Bool := .z0 186 [.t 2] wB
def Z6n:=fun a0=>Zaaa.run (Z99 a0)
theorem Zapb(a0){r}(h:Z6n a0=some r):Fn PR 186 [wI a0] (wB r):=Zaaa.fn h
inductive Zn2 where
 | L0 (E0:Zh) (v18:Int) (v19:Bool)
 | L1 (E0:Zh) (v18:Int) (v25:Bool)
 | L2 (E0:Zh) (v18:Int) (v51:Bool)
def Zs3(E0:Zh)(v18:Int)(v51:Bool):LT Zn2 Bool:=
.br v51 (.cs (decide (E0.N>=1)) (.k4 1<|.rt (decide (E0.N<=131071)))<|.k4 1<|.rt false)<|.br (v18==11) (.call (Zfr E0.Filter) fun x4=>.rt x4)<|.br (v18==12) (.cs (decide (E0.N>=0)) (.k4 3<|.cs (decide (E0.N<=99)) (.k4 4<|.cs (decide (E0.M>=0)) (.k4 5<|.rt (decide (E0.M<=99)))<|.k4 5<|.rt false)<|.k4 4<|.b4 false<|.rt false)<|.k4 3<|.b8 false<|.rt false)<|.br (v18==13) (.cs (decide (E0.N>=(-99))) (.k4 4<|.cs (decide (E0.N<=99)) (.k4 5<|.cs (decide (E0.M>=(-99))) (.k4 6<|.rt (decide (E0.M<=99)))<|.k4 6<|.rt false)<|.k4 5<|.b4 false<|.rt false)<|.k4 4<|.b8 false<|.rt false)<|.rt true
def Zs4(E0:Zh)(v18:Int)(v25:Bool):LT Zn2 Bool:=
.br v25 (.call (Zwx E0.Sub) fun x2=>.rt x2)<|.br (v18==6) (.cs (decide (E0.N>=0)) (.k4 2<|.rt (decide (E0.N<=31)))<|.k4 2<|.rt false)<|.br (v18==7) (.cs (decide (E0.N>=1)) (.k4 3<|.rt (decide (E0.N<=31)))<|.k4 3<|.rt false)<|.br (v18==8) (.j0 (.L2 E0 v18 (v18==8)) (Zs3 E0 v18 (v18==8)))<|.j0 (.L2 E0 v18 (v18==9)) (Zs3 E0 v18 (v18==9))
def Zs5(E0:Zh)(v18:Int)(v19:Bool):LT Zn2 Bool:=
.br v19 (.call (Zapb E0.N) fun x2=>.rt x2)<|.br (v18==4) (.j0 (.L1 E0 v18 (v18==4)) (Zs4 E0 v18 (v18==4)))<|.j0 (.L1 E0 v18 (v18==5)) (Zs4 E0 v18 (v18==5))
def Zapc(a0:Zh):LT Zn2 Bool:=
.lb 1001<|.cs (decide (a0.Kind < 1)) (.k4 0<|.b5 true<|.kn [0]<|.rt false)<|.k4 0<|.cs (decide (a0.Kind > 14)) (.k5 1<|.kn [0]<|.rt false)<|.k2 1<|.call (Zasy a0) fun x3=>.k3 1<|.br (!(Zac (Zl x3) (Zl (⟨0,0,0,([]:By),(⟨0,0,0,0,0,0,0,([]:By),0,0,(⟨0,0⟩:Za),(⟨0,0⟩:Za),(⟨0,0⟩:Za)⟩:Zc)⟩:Zh)))) (.rt false)<|.br (a0.Kind==2) (.jn 0 (.L0 a0 a0.Kind (a0.Kind==2)) [.relab 1001 3000] (Zs5 a0 a0.Kind (a0.Kind==2)))<|.jn 0 (.L0 a0 a0.Kind (a0.Kind==3)) [.relab 1001 3000] (Zs5 a0 a0.Kind (a0.Kind==3))
def Zapd:LF Zn2 Bool := .m0 137 [.t 2] wB fun | .L0 E0 v18 v19=>([1,1,0,1,4,1],⟨107,[(1,.bptr 3000 0),(18,wI v18),(19,wB v19)],[(3000,.box (bx (Zl E0)))]⟩,Zs5 E0 v18 v19) | .L1 E0 v18 v25=>([1,1,0,1,4,1,3,1],⟨107,[(1,.bptr 3000 0),(18,wI v18),(25,wB v25)],[(3000,.box (bx (Zl E0)))]⟩,Zs4 E0 v18 v25) | .L2 E0 v18 v51=>([1,1,0,1,4,1,3,1,3,1,3,1,3,1],⟨107,[(1,.bptr 3000 0),(18,wI v18),(51,wB v51)],[(3000,.box (bx (Zl E0)))]⟩,Zs3 E0 v18 v51)
def Zape:=fun a0=>Zapd.run (Zapc a0)
theorem Zak6(a0){r}(h:Zape a0=some r):Fn PR 137 [wA (Zl a0)] (wB r):=Zapd.fn h
inductive Zk5 where
 | L0 (v0:Bys) (v1:Int) (v2:By) (v7:By) (v8:Int)
def Zt2(v0:Bys)(v1:Int)(v2:By)(v7:By)(v8:Int):LT Zk5 (By):=
.len cS v0<|.br (decide (v8 < (v0.length:Int))) (.call (Z3o v1 v8) fun x3=>.br x3 (.br (!(v7==([]:By))) (.ok (v7.length+v2.length<=9223372036854775807)<|.idx cS v0 v8 fun x10=>.ok ((v7++v2).length+x10.length<=9223372036854775807)<|.g0 (.L0 v0 v1 v2 ((v7++v2)++x10) (IntKind.wrap .i64 (v8+1))))<|.idx cS v0 v8 fun x17=>.ok (v7.length+x17.length<=9223372036854775807)<|.g0 (.L0 v0 v1 v2 (v7++x17) (IntKind.wrap .i64 (v8+1))))<|.g0 (.L0 v0 v1 v2 v7 (IntKind.wrap .i64 (v8+1))))<|.rt v7
def Z6o(a0:Bys)(a1:Int)(a2:By):LT Zk5 (By):=
.g0 (.L0 a0 a1 a2 ([]:By) 0)
def Z6p:LF Zk5 (By) := .m0 231 [.t 6] wS fun | .L0 v0 v1 v2 v7 v8=>([1,1,0,1,4],⟨30,[(0,wL cS v0),(1,wI v1),(2,wS v2),(7,wS v7),(8,wI v8)],[]⟩,Zt2 v0 v1 v2 v7 v8)
def Z3p:=fun a0 a1 a2=>Z6p.run (Z6o a0 a1 a2)
theorem Zalw(a0)(a1)(a2){r}(h:Z3p a0 a1 a2=some r):Fn PR 231 [wL cS a0,wI a1,wS a2] (wS r):=Z6p.fn h
def Zzb(a0:Int):LT Empty (By):=
.cs (decide (a0 < 1)) (.k3 0<|.kn [0]<|.rt ([]:By))<|.k3 0<|.br (decide (a0 > 63)) (.rt ([]:By))<|.call (Zww) fun x3=>.call (Zalw x3 a0 ([43]:By)) fun x5=>.rt x5
def Zzc:LF Empty (By) := .z0 187 [.t 2] wS
def Zt3:=fun a0=>Zzc.run (Zzb a0)
theorem Zn3(a0){r}(h:Zt3 a0=some r):Fn PR 187 [wI a0] (wS r):=Zzc.fn h
def Zapf(a0:Int):LT Empty Bool:=
.cs (decide (a0>=0)) (.k3 0<|.rt (decide (a0<=31)))<|.k3 0<|.rt false
def Zapg:LF Empty Bool := .z0 232 [.t 2] wB
def Zaph:=fun a0=>Zapg.run (Zapf a0)
theorem Zayc(a0){r}(h:Zaph a0=some r):Fn PR 232 [wI a0] (wB r):=Zapg.fn h
def Zae9(a0:Int):LT Empty (By):=
.br (a0==0) (.rt ([97,109,98,101,114]:By))<|.br (a0==1) (.rt ([99,111,98,97,108,116]:By))<|.br (a0==2) (.rt ([106,101,116]:By))<|.br (a0==3) (.rt ([114,117,98,121]:By))<|.br (a0==4) (.rt ([101,109,101,114,97,108,100]:By))<|.rt ([]:By)
def Zafa:LF Empty (By) := .z0 233 [.t 2] wS
def Zaca:=fun a0=>Zafa.run (Zae9 a0)
theorem Zsh(a0){r}(h:Zaca a0=some r):Fn PR 233 [wI a0] (wS r):=Zafa.fn h
inductive Zpc where
 | L0 (v0:Int) (v3:By) (v4:Int)
def Z0e(v0:Int)(v3:By)(v4:Int):LT Zpc (By):=
.br (decide (v4 < 5)) (.ok (¬ v4 < 0)<|.ok ((Z6b .i64 1 v4)≠0)<|.dc ((2:Int)≠0) rfl<|.br ((Int.tmod (Zmg .i64 v0 (Z6b .i64 1 v4)) 2)==1) (.br (!(v3==([]:By))) (.ok (v3.length+([43]:By).length<=9223372036854775807)<|.call (Zsh v4) fun x10=>.ok ((v3++([43]:By)).length+x10.length<=9223372036854775807)<|.g0 (.L0 v0 ((v3++([43]:By))++x10) (IntKind.wrap .i64 (v4+1))))<|.call (Zsh v4) fun x17=>.ok (v3.length+x17.length<=9223372036854775807)<|.g0 (.L0 v0 (v3++x17) (IntKind.wrap .i64 (v4+1))))<|.g0 (.L0 v0 v3 (IntKind.wrap .i64 (v4+1))))<|.rt v3
def Zafb(a0:Int):LT Zpc (By):=
.call (Zayc a0) fun x1=>.br (!x1) (.rt ([]:By))<|.br (a0==0) (.rt ([110,111,110,101]:By))<|.g0 (.L0 a0 ([]:By) 0)
def Zafc:LF Zpc (By) := .m0 188 [.t 2] wS fun | .L0 v0 v3 v4=>([1,1,1,1,0,1,4],⟨29,[(0,wI v0),(3,wS v3),(4,wI v4)],[]⟩,Z0e v0 v3 v4)
def Zacb:=fun a0=>Zafc.run (Zafb a0)
theorem Zaab(a0){r}(h:Zacb a0=some r):Fn PR 188 [wI a0] (wS r):=Zafc.fn h
def Zaac:LT Empty (Bys):=
.lb 1001<|.ret [([102,108,121,105,110,103]:By),([114,101,97,99,104]:By),([104,97,115,116,101]:By),([118,105,103,105,108,97,110,116]:By),([116,114,97,109,112,108,101]:By),([102,105,114,115,116,45,115,116,114,105,107,101]:By),([100,111,117,98,108,101,45,115,116,114,105,107,101]:By),([100,101,97,100,108,121]:By),([108,105,102,101,108,105,110,107]:By),([109,101,110,97,99,101]:By),([100,101,102,101,110,100,101,114]:By),([119,97,114,100,101,100]:By),([115,116,117,114,100,121]:By),([101,108,117,115,105,118,101]:By),([110,111,45,97,116,116,97,99,107]:By),([110,111,45,98,108,111,99,107]:By),([109,117,115,116,45,97,116,116,97,99,107]:By)] [.relab 1001 5000]
def Zaad:LF Empty (Bys) := .z 261 [.t 0] true (fun r=>[(5000,wR cS 1 r)]) (fun r=>(wO cS 5000 r))
def Zzd:=Zaad.run (Zaac)
theorem Zalx{r}(h:Zzd=some r):FnG PR 261 [] [] [(5000,wR cS 1 r)] (wO cS 5000 r):=Zaad.fn h
theorem Zapi{r:Bys}(h:Zzd=some r):Fn PR 261 [] (wL cS r):=
 FnG.frozen (C:=LT.RL cS r/\True) (Zalx h) ⟨rfl,trivial⟩ (by kernel_rfl)
def Zafd(a0:Int):LT Empty (By):=
.cs (decide (a0 < 0)) (.k3 0<|.kn [0]<|.rt ([]:By))<|.k3 0<|.br (decide (a0 > 16)) (.rt ([]:By))<|.call (Zapi) fun x3=>.idx cS x3 a0 fun x5=>.rt x5
def Zafe:LF Empty (By) := .z0 234 [.t 2] wS
def Zacc:=fun a0=>Zafe.run (Zafd a0)
theorem Z0f(a0){r}(h:Zacc a0=some r):Fn PR 234 [wI a0] (wS r):=Zafe.fn h
inductive Zpd where
 | L0 (v0:Int) (v3:By) (v4:Int)
def Z0g(v0:Int)(v3:By)(v4:Int):LT Zpd (By):=
.br (decide (v4 < 17)) (.dc ((2:Int)≠0) rfl<|.br ((Int.tmod v0 2)==1) (.br (!(v3==([]:By))) (.ok (v3.length+([43]:By).length<=9223372036854775807)<|.call (Z0f v4) fun x6=>.ok ((v3++([43]:By)).length+x6.length<=9223372036854775807)<|.dc ((2:Int)≠0) rfl<|.g0 (.L0 (Zmg .i64 v0 2) ((v3++([43]:By))++x6) (IntKind.wrap .i64 (v4+1))))<|.call (Z0f v4) fun x13=>.ok (v3.length+x13.length<=9223372036854775807)<|.dc ((2:Int)≠0) rfl<|.g0 (.L0 (Zmg .i64 v0 2) (v3++x13) (IntKind.wrap .i64 (v4+1))))<|.dc ((2:Int)≠0) rfl<|.g0 (.L0 (Zmg .i64 v0 2) v3 (IntKind.wrap .i64 (v4+1))))<|.br (v3==([]:By)) (.rt ([110,111,110,101]:By))<|.rt v3
def Zaff(a0:Int):LT Zpd (By):=
.call (Zak5 a0) fun x1=>.br (!x1) (.rt ([]:By))<|.g0 (.L0 a0 ([]:By) 0)
def Zafg:LF Zpd (By) := .m0 189 [.t 2] wS fun | .L0 v0 v3 v4=>([1,1,1,0,1,4],⟨28,[(0,wI v0),(3,wS v3),(4,wI v4)],[]⟩,Z0g v0 v3 v4)
def Zacd:=fun a0=>Zafg.run (Zaff a0)
theorem Zaae(a0){r}(h:Zacd a0=some r):Fn PR 189 [wI a0] (wS r):=Zafg.fn h
def Zze:LT Empty (Bys):=
.lb 1001<|.ret [([]:By),([105,110,45,104,97,110,100]:By),([105,110,45,108,105,98,114,97,114,121]:By),([105,110,45,103,114,97,118,101,121,97,114,100]:By),([105,110,45,101,120,105,108,101]:By),([111,110,45,115,116,97,99,107]:By)] [.relab 1001 5000]
def Zzf:LF Empty (Bys) := .z 235 [.t 0] true (fun r=>[(5000,wR cS 1 r)]) (fun r=>(wO cS 5000 r))
def Znm:=Zzf.run (Zze)
theorem Z9o{r}(h:Znm=some r):FnG PR 235 [] [] [(5000,wR cS 1 r)] (wO cS 5000 r):=Zzf.fn h
theorem Zace{r:Bys}(h:Znm=some r):Fn PR 235 [] (wL cS r):=
 FnG.frozen (C:=LT.RL cS r/\True) (Z9o h) ⟨rfl,trivial⟩ (by kernel_rfl)
def Z15:LT Empty (Bys):=
.lb 1001<|.ret [([]:By),([121,111,117,114,115]:By),([116,104,101,105,114,115]:By)] [.relab 1001 5000]
def Z16:LF Empty (Bys) := .z 236 [.t 0] true (fun r=>[(5000,wR cS 1 r)]) (fun r=>(wO cS 5000 r))
def Zpe:=Z16.run (Z15)
theorem Zacf{r}(h:Zpe=some r):FnG PR 236 [] [] [(5000,wR cS 1 r)] (wO cS 5000 r):=Z16.fn h
theorem Zafh{r:Bys}(h:Zpe=some r):Fn PR 236 [] (wL cS r):=
 FnG.frozen (C:=LT.RL cS r/\True) (Zacf h) ⟨rfl,trivial⟩ (by kernel_rfl)
def Zzg:LT Empty (Bys):=
.lb 1001<|.ret [([]:By),([115,101,108,102]:By),([111,116,104,101,114]:By)] [.relab 1001 5000]
def Zzh:LF Empty (Bys) := .z 237 [.t 0] true (fun r=>[(5000,wR cS 1 r)]) (fun r=>(wO cS 5000 r))
def Znn:=Zzh.run (Zzg)
theorem Z9p{r}(h:Znn=some r):FnG PR 237 [] [] [(5000,wR cS 1 r)] (wO cS 5000 r):=Zzh.fn h
theorem Zacg{r:Bys}(h:Znn=some r):Fn PR 237 [] (wL cS r):=
 FnG.frozen (C:=LT.RL cS r/\True) (Z9p h) ⟨rfl,trivial⟩ (by kernel_rfl)
def Z17:LT Empty (Bys):=
.lb 1001<|.ret [([]:By),([116,97,112,112,101,100]:By),([117,110,116,97,112,112,101,100]:By)] [.relab 1001 5000]
def Z18:LF Empty (Bys) := .z 238 [.t 0] true (fun r=>[(5000,wR cS 1 r)]) (fun r=>(wO cS 5000 r))
def Zpf:=Z18.run (Z17)
theorem Zach{r}(h:Zpf=some r):FnG PR 238 [] [] [(5000,wR cS 1 r)] (wO cS 5000 r):=Z18.fn h
theorem Zafi{r:Bys}(h:Zpf=some r):Fn PR 238 [] (wL cS r):=
 FnG.frozen (C:=LT.RL cS r/\True) (Zach h) ⟨rfl,trivial⟩ (by kernel_rfl)
inductive Zs6 where
 | L0 (v0:Int) (v1:Int) (v5:Int)
def Z3q(v0:Int)(v1:Int)(v5:Int):LT Zs6 Bool:=
.br (decide (v5 < v1)) (.dc ((2:Int)≠0) rfl<|.g0 (.L0 (Zmg .i64 v0 2) v1 (IntKind.wrap .i64 (v5+1))))<|.dc ((2:Int)≠0) rfl<|.rt ((Int.tmod v0 2)==1)
def Zak7(a0:Int)(a1:Int):LT Zs6 Bool:=
.g0 (.L0 a0 a1 0)
def Zak8:LF Zs6 Bool := .m0 240 [.t 4] wB fun | .L0 v0 v1 v5=>([1,0,1,4],⟨16,[(0,wI v0),(1,wI v1),(5,wI v5)],[]⟩,Z3q v0 v1 v5)
def Zai7:=fun a0 a1=>Zak8.run (Zak7 a0 a1)
theorem Zpg(a0)(a1){r}(h:Zai7 a0 a1=some r):Fn PR 240 [wI a0,wI a1] (wB r):=Zak8.fn h
inductive Zik where
 | L0 (v0:Int) (v3:Int) (v4:Int)
def Zph(v0:Int)(v3:Int)(v4:Int):LT Zik (By):=
.br (decide (v4 < v0)) (.g0 (.L0 v0 (IntKind.wrap .i64 (v3*2)) (IntKind.wrap .i64 (v4+1))))<|.call (Zn3 v3) fun x6=>.rt x6
def Z19(a0:Int):LT Zik (By):=
.g0 (.L0 a0 1 0)
def Z2a:LF Zik (By) := .m0 241 [.t 2] wS fun | .L0 v0 v3 v4=>([1,1,0,1,4],⟨14,[(0,wI v0),(3,wI v3),(4,wI v4)],[]⟩,Zph v0 v3 v4)
def Zw2:=fun a0=>Z2a.run (Z19 a0)
theorem Zzi(a0){r}(h:Zw2 a0=some r):Fn PR 241 [wI a0] (wS r):=Z2a.fn h
def Zaaf:LT Empty (Bys):=
.lb 1001<|.ret [([]:By),([62,61]:By),([60,61]:By),([61]:By)] [.relab 1001 5000]
def Zaag:LF Empty (Bys) := .z 262 [.t 0] true (fun r=>[(5000,wR cS 1 r)]) (fun r=>(wO cS 5000 r))
def Zzj:=Zaag.run (Zaaf)
theorem Zaly{r}(h:Zzj=some r):FnG PR 262 [] [] [(5000,wR cS 1 r)] (wO cS 5000 r):=Zaag.fn h
theorem Zapj{r:Bys}(h:Zzj=some r):Fn PR 262 [] (wL cS r):=
 FnG.frozen (C:=LT.RL cS r/\True) (Zaly h) ⟨rfl,trivial⟩ (by kernel_rfl)
inductive Zw3 where
 | L0 (v0:Int) (v3:By)
def Zf3(v0:Int)(v3:By):LT Zw3 (By):=
.br (decide (v0 > 0)) (.dc ((10:Int)≠0) rfl<|.dr [.lit]<|.str [IntKind.wrap .u8 (IntKind.wrap .u64 (48+(Int.tmod v0 10)))] fun x4=>.ok (x4.length+v3.length<=9223372036854775807)<|.dc ((10:Int)≠0) rfl<|.g0 (.L0 (Zmg .u64 v0 10) (x4++v3)))<|.rt v3
def Z6q(a0:Int):LT Zw3 (By):=
.dc ((10:Int)≠0) rfl<|.dr [.lit]<|.str [IntKind.wrap .u8 (IntKind.wrap .u64 (48+(Int.tmod a0 10)))] fun x3=>.dc ((10:Int)≠0) rfl<|.g0 (.L0 (Zmg .u64 a0 10) x3)
def Zpi:LF Zw3 (By) := .m0 244 [.t 2] wS fun | .L0 v0 v3=>([1,1,0,1,4],⟨25,[(0,.t (.int .u64 v0)),(3,wS v3)],[]⟩,Zf3 v0 v3)
def Z3r:=fun a0=>Zpi.run (Z6q a0)
theorem Z4q(a0){r}(h:Z3r a0=some r):Fn PR 244 [.t (.int .u64 a0)] (wS r):=Zpi.fn h
def Zafj(a0:Int):LT Empty (By):=
.br (decide (a0 < 0)) (.call (Z4q (IntKind.wrap .u64 (0 - (IntKind.wrap .u64 a0)))) fun x4=>.ok (([45]:By).length+x4.length<=9223372036854775807)<|.rt (([45]:By)++x4))<|.call (Z4q (IntKind.wrap .u64 a0)) fun x10=>.rt x10
def Zafk:LF Empty (By) := .z0 191 [.t 2] wS
def Zaci:=fun a0=>Zafk.run (Zafj a0)
theorem Zj8(a0){r}(h:Zaci a0=some r):Fn PR 191 [wI a0] (wS r):=Zafk.fn h
def Zzk(a0:By)(a1:Za):LT Empty (By):=
.lb 1003<|.br (a1.Kind==0) (.rt ([]:By))<|.call (Zapj) fun x2=>.idx cS x2 a1.Kind fun x4=>.ok (a0.length+x4.length<=9223372036854775807)<|.call (Zj8 a1.N) fun x10=>.ok ((a0++x4).length+x10.length<=9223372036854775807)<|.rt ((a0++x4)++x10)
def Zzl:LF Empty (By) := .z0 242 [.t 4] wS
def Zt4:=fun a0 a1=>Zzl.run (Zzk a0 a1)
theorem Zn4(a0)(a1){r}(h:Zt4 a0 a1=some r):Fn PR 242 [wS a0,wA (Zb8 a1)] (wS r):=Zzl.fn h
inductive Zpj where
 | L0 (v0:Bys) (v1:By) (v5:By) (v6:Int)
def Z0h(v0:Bys)(v1:By)(v5:By)(v6:Int):LT Zpj (By):=
.len cS v0<|.br (decide (v6 < (v0.length:Int))) (.br (decide (v6 > 0)) (.ok (v5.length+v1.length<=9223372036854775807)<|.idx cS v0 v6 fun x7=>.ok ((v5++v1).length+x7.length<=9223372036854775807)<|.g0 (.L0 v0 v1 ((v5++v1)++x7) (IntKind.wrap .i64 (v6+1))))<|.idx cS v0 v6 fun x14=>.ok (v5.length+x14.length<=9223372036854775807)<|.g0 (.L0 v0 v1 (v5++x14) (IntKind.wrap .i64 (v6+1))))<|.rt v5
def Zafl(a0:Bys)(a1:By):LT Zpj (By):=
.g0 (.L0 a0 a1 ([]:By) 0)
def Zafm:LF Zpj (By) := .m0 243 [.t 4] wS fun | .L0 v0 v1 v5 v6=>([1,1,0,1,4],⟨25,[(0,wL cS v0),(1,wS v1),(5,wS v5),(6,wI v6)],[]⟩,Z0h v0 v1 v5 v6)
def Zacj:=fun a0 a1=>Zafm.run (Zafl a0 a1)
theorem Zasz(a0)(a1){r}(h:Zacj a0 a1=some r):Fn PR 243 [wL cS a0,wS a1] (wS r):=Zafm.fn h
def Z2b(b0:Bys)(a1:By):LT Empty (Bys):=
.br (a1==([]:By)) (.ret b0 [.relab 0 5000])<|.dr [.lit]<|.apR cS 16 b0 [a1] fun x2=>.ret x2 [.relab 0 5000]
def Z2c:LF Empty (Bys) := .z 239 [.t 4] true (fun r=>[(5000,wR cS 1 r)]) (fun r=>(wO cS 5000 r))
def Zw4:=fun b0 a1=>Z2c.run (Z2b b0 a1)
theorem Zec(b0)(a1){r}(h:Zw4 b0 a1=some r):FnG PR 239 [(0,wR cS 1 b0)] [wO cS 0 b0,wS a1] [(5000,wR cS 1 r)] (wO cS 5000 r):=Z2c.fn h
inductive Zfj where
 | L0 (E0:Zc) (v6:Bys) (v7:Bys) (v8:Int)
 | L1 (E0:Zc) (v6:Bys) (v7:Bys) (v9:Int)
 | L2 (E0:Zc) (v6:Bys) (v7:Bys) (v10:Int)
 | L3 (E0:Zc) (v6:Bys) (v7:Bys) (v11:Int)
 | L4 (E0:Zc) (v6:Bys) (v7:Bys)
 | L5 (E0:Zc) (v6:Bys) (v7:Bys) (v12:Int)
def Zm0(E0:Zc)(v6:Bys)(v7:Bys):LT Zfj (By):=
.g0 (.L5 E0 v6 v7 0)
def Z0i(E0:Zc)(v6:Bys)(v7:Bys)(v8:Int):LT Zfj (By):=
.br (decide (v8 < 6)) (.call (Zpg E0.Types v8) fun x2=>.br x2 (.call (Zzi v8) fun x5=>.dr [.lit]<|.apR cS 16 v7 [x5] fun x7=>.g0 (.L0 E0 v6 x7 (IntKind.wrap .i64 (v8+1))))<|.g0 (.L0 E0 v6 v7 (IntKind.wrap .i64 (v8+1))))<|.g0 (.L1 E0 v6 v7 0)
def Z0j(E0:Zc)(v6:Bys)(v7:Bys)(v9:Int):LT Zfj (By):=
.br (decide (v9 < 6)) (.call (Zpg E0.NotTypes v9) fun x2=>.br x2 (.call (Zzi v9) fun x5=>.ok (([110,111,110,45]:By).length+x5.length<=9223372036854775807)<|.dr [.lit]<|.apR cS 16 v7 [([110,111,110,45]:By)++x5] fun x10=>.g0 (.L1 E0 v6 x10 (IntKind.wrap .i64 (v9+1))))<|.g0 (.L1 E0 v6 v7 (IntKind.wrap .i64 (v9+1))))<|.g0 (.L2 E0 v6 v7 0)
def Z0k(E0:Zc)(v6:Bys)(v7:Bys)(v10:Int):LT Zfj (By):=
.br (decide (v10 < 5)) (.call (Zpg E0.Colors v10) fun x2=>.br x2 (.call (Zsh v10) fun x5=>.dr [.lit]<|.apR cS 16 v7 [x5] fun x7=>.g0 (.L2 E0 v6 x7 (IntKind.wrap .i64 (v10+1))))<|.g0 (.L2 E0 v6 v7 (IntKind.wrap .i64 (v10+1))))<|.g0 (.L3 E0 v6 v7 0)
def Z0l(E0:Zc)(v6:Bys)(v7:Bys)(v11:Int):LT Zfj (By):=
.br (decide (v11 < 5)) (.call (Zpg E0.NotColors v11) fun x2=>.br x2 (.call (Zsh v11) fun x5=>.ok (([110,111,110,45]:By).length+x5.length<=9223372036854775807)<|.dr [.lit]<|.apR cS 16 v7 [([110,111,110,45]:By)++x5] fun x10=>.g0 (.L3 E0 v6 x10 (IntKind.wrap .i64 (v11+1))))<|.g0 (.L3 E0 v6 v7 (IntKind.wrap .i64 (v11+1))))<|.br (!(E0.Sub==([]:By))) (.ok (([115,117,98,58]:By).length+E0.Sub.length<=9223372036854775807)<|.dr [.lit]<|.apR cS 16 v7 [([115,117,98,58]:By)++E0.Sub] fun x21=>.j0 (.L4 E0 v6 x21) (Zm0 E0 v6 x21))<|.j0 (.L4 E0 v6 v7) (Zm0 E0 v6 v7)
def Z0m(E0:Zc)(v6:Bys)(v7:Bys)(v12:Int):LT Zfj (By):=
.br (decide (v12 < 17)) (.call (Zpg E0.Keys v12) fun x2=>.br x2 (.call (Z0f v12) fun x5=>.ok (([119,105,116,104,58]:By).length+x5.length<=9223372036854775807)<|.dr [.lit]<|.apR cS 16 v7 [([119,105,116,104,58]:By)++x5] fun x10=>.g0 (.L5 E0 v6 x10 (IntKind.wrap .i64 (v12+1))))<|.g0 (.L5 E0 v6 v7 (IntKind.wrap .i64 (v12+1))))<|.idx cS v6 E0.Tap fun x17=>.callU (Zec v7 x17) [20007] 1250000 fun x19=>.call (Zn4 ([112,111,119,101,114]:By) E0.Power) fun x21=>.callU (Zec x19 x21) [1255000] 1300000 fun x23=>.call (Zn4 ([116,111,117,103,104]:By) E0.Tough) fun x25=>.callU (Zec x23 x25) [1305000] 1350000 fun x27=>.call (Zn4 ([118,97,108,117,101]:By) E0.Value) fun x29=>.callU (Zec x27 x29) [1355000] 1400000 fun x31=>.lenO cS x31<|.br ((x31.length:Int)==0) (.rt ([97,110,121]:By))<|.rl cS x31<|.call (Zasz x31 ([32]:By)) fun x34=>.rt x34
def Zafn(a0:Zc):LT Zfj (By):=
.lb 1001<|.call (Zfr a0) fun x1=>.br (!x1) (.rt ([]:By))<|.call (Zace) fun x4=>.call (Zafh) fun x6=>.call (Zacg) fun x8=>.call (Zafi) fun x10=>.idx cS x4 a0.Zone fun x12=>.dr [.ahead 26,.own 20 70260 1,.stop]<|.callU (Zec ([]:Bys) x12) [70260] 270000 fun x14=>.idx cS x6 a0.Who fun x16=>.callU (Zec x14 x16) [275000] 340000 fun x18=>.idx cS x8 a0.Self fun x20=>.callU (Zec x18 x20) [345000] 410000 fun x22=>.go (.L0 a0 x10 x22 0) [.relab 1001 3000,.relab 415000 20007]
def Zafo:LF Zfj (By) := .m0 190 [.t 2] wS fun | .L0 E0 v6 v7 v8=>([1,1,1,1,1,1,1,1,1,1,0,1,4],⟨145,[(1,.bptr 3000 0),(6,wL cS v6),(7,wO cS 20007 v7),(8,wI v8)],[(3000,.box (bx (Zn E0))),(20007,wR cS 1 v7)]⟩,Z0i E0 v6 v7 v8) | .L1 E0 v6 v7 v9=>([1,1,1,1,1,1,1,1,1,1,1,0,1,4],⟨145,[(1,.bptr 3000 0),(6,wL cS v6),(7,wO cS 20007 v7),(9,wI v9)],[(3000,.box (bx (Zn E0))),(20007,wR cS 1 v7)]⟩,Z0j E0 v6 v7 v9) | .L2 E0 v6 v7 v10=>([1,1,1,1,1,1,1,1,1,1,1,1,0,1,4],⟨145,[(1,.bptr 3000 0),(6,wL cS v6),(7,wO cS 20007 v7),(10,wI v10)],[(3000,.box (bx (Zn E0))),(20007,wR cS 1 v7)]⟩,Z0k E0 v6 v7 v10) | .L3 E0 v6 v7 v11=>([1,1,1,1,1,1,1,1,1,1,1,1,1,0,1,4],⟨145,[(1,.bptr 3000 0),(6,wL cS v6),(7,wO cS 20007 v7),(11,wI v11)],[(3000,.box (bx (Zn E0))),(20007,wR cS 1 v7)]⟩,Z0l E0 v6 v7 v11) | .L4 E0 v6 v7=>([1,1,1,1,1,1,1,1,1,1,1,1,1,1,1],⟨145,[(1,.bptr 3000 0),(6,wL cS v6),(7,wO cS 20007 v7)],[(3000,.box (bx (Zn E0))),(20007,wR cS 1 v7)]⟩,Zm0 E0 v6 v7) | .L5 E0 v6 v7 v12=>([1,1,1,1,1,1,1,1,1,1,1,1,1,1,1,0,1,4],⟨145,[(1,.bptr 3000 0),(6,wL cS v6),(7,wO cS 20007 v7),(12,wI v12)],[(3000,.box (bx (Zn E0))),(20007,wR cS 1 v7)]⟩,Z0m E0 v6 v7 v12)
def Zack:=fun a0=>Zafo.run (Zafn a0)
theorem Zas0(a0){r}(h:Zack a0=some r):Fn PR 190 [wA (Zn a0)] (wS r):=Zafo.fn h
def Zafp(a0:Zh):LT Empty (By):=
.lb 1001<|.call (Zak6 a0) fun x1=>.br (!x1) (.rt ([]:By))<|.br (a0.Kind==1) (.rt ([99,111,110,116,114,111,108]:By))<|.br (a0.Kind==2) (.call (Zn3 a0.N) fun x6=>.ok (([116,121,112,101,115,61]:By).length+x6.length<=9223372036854775807)<|.rt (([116,121,112,101,115,61]:By)++x6))<|.br (a0.Kind==3) (.call (Zn3 a0.N) fun x12=>.ok (([116,121,112,101,115,43,61]:By).length+x12.length<=9223372036854775807)<|.rt (([116,121,112,101,115,43,61]:By)++x12))<|.br (a0.Kind==4) (.ok (([115,117,98,61]:By).length+a0.Sub.length<=9223372036854775807)<|.rt (([115,117,98,61]:By)++a0.Sub))<|.br (a0.Kind==5) (.ok (([115,117,98,43,61]:By).length+a0.Sub.length<=9223372036854775807)<|.rt (([115,117,98,43,61]:By)++a0.Sub))<|.br (a0.Kind==6) (.call (Zaab a0.N) fun x26=>.ok (([99,111,108,111,114,115,61]:By).length+x26.length<=9223372036854775807)<|.rt (([99,111,108,111,114,115,61]:By)++x26))<|.br (a0.Kind==7) (.call (Zaab a0.N) fun x32=>.ok (([99,111,108,111,114,115,43,61]:By).length+x32.length<=9223372036854775807)<|.rt (([99,111,108,111,114,115,43,61]:By)++x32))<|.br (a0.Kind==8) (.call (Zaae a0.N) fun x38=>.ok (([107,101,121,115,43,61]:By).length+x38.length<=9223372036854775807)<|.rt (([107,101,121,115,43,61]:By)++x38))<|.br (a0.Kind==9) (.call (Zaae a0.N) fun x44=>.ok (([107,101,121,115,45,61]:By).length+x44.length<=9223372036854775807)<|.rt (([107,101,121,115,45,61]:By)++x44))<|.br (a0.Kind==10) (.rt ([98,108,97,110,107]:By))<|.br (a0.Kind==11) (.call (Zas0 a0.Filter) fun x51=>.ok (([112,116,61,99,111,117,110,116,40]:By).length+x51.length<=9223372036854775807)<|.ok ((([112,116,61,99,111,117,110,116,40]:By)++x51).length+([41]:By).length<=9223372036854775807)<|.rt ((([112,116,61,99,111,117,110,116,40]:By)++x51)++([41]:By)))<|.br (a0.Kind==12) (.call (Zj8 a0.N) fun x58=>.ok (([112,116,61]:By).length+x58.length<=9223372036854775807)<|.ok ((([112,116,61]:By)++x58).length+([47]:By).length<=9223372036854775807)<|.call (Zj8 a0.M) fun x65=>.ok (((([112,116,61]:By)++x58)++([47]:By)).length+x65.length<=9223372036854775807)<|.rt (((([112,116,61]:By)++x58)++([47]:By))++x65))<|.br (a0.Kind==13) (.call (Zj8 a0.N) fun x71=>.ok (([112,116,43,61]:By).length+x71.length<=9223372036854775807)<|.ok ((([112,116,43,61]:By)++x71).length+([47]:By).length<=9223372036854775807)<|.call (Zj8 a0.M) fun x78=>.ok (((([112,116,43,61]:By)++x71)++([47]:By)).length+x78.length<=9223372036854775807)<|.rt (((([112,116,43,61]:By)++x71)++([47]:By))++x78))<|.rt ([112,116,45,115,119,105,116,99,104]:By)
def Zafq:LF Empty (By) := .z0 138 [.t 2] wS
def Zacl:=fun a0=>Zafq.run (Zafp a0)
theorem Zaah(a0){r}(h:Zacl a0=some r):Fn PR 138 [wA (Zl a0)] (wS r):=Zafq.fn h
inductive Zil where
 | L0 (v0:List Zh) (v3:By) (v4:Int)
def Zpk(v0:List Zh)(v3:By)(v4:Int):LT Zil (By):=
.len Zl v0<|.br (decide (v4 < (v0.length:Int))) (.idx Zl v0 v4 fun x3=>.call (Zak6 x3) fun x5=>.br (!x5) (.rt ([]:By))<|.br (decide (v4 > 0)) (.ok (v3.length+([44,32]:By).length<=9223372036854775807)<|.ag Zl x3 0<|.call (Zaah x3) fun x11=>.ok ((v3++([44,32]:By)).length+x11.length<=9223372036854775807)<|.g0 (.L0 v0 ((v3++([44,32]:By))++x11) (IntKind.wrap .i64 (v4+1))))<|.ag Zl x3 0<|.call (Zaah x3) fun x17=>.ok (v3.length+x17.length<=9223372036854775807)<|.g0 (.L0 v0 (v3++x17) (IntKind.wrap .i64 (v4+1))))<|.rt v3
def Z2d(a0:List Zh):LT Zil (By):=
.len Zl a0<|.cs ((a0.length:Int)==0) (.k4 0<|.kn [0]<|.rt ([]:By))<|.k2 0<|.len Zl a0<|.k2 0<|.br (decide ((a0.length:Int) > 6)) (.rt ([]:By))<|.g0 (.L0 a0 ([]:By) 0)
def Z2e:LF Zil (By) := .m0 87 [.t 2] wS fun | .L0 v0 v3 v4=>([1,1,1,0,1,4],⟨37,[(0,wL Zl v0),(3,wS v3),(4,wI v4)],[]⟩,Zpk v0 v3 v4)
def Zw5:=fun a0=>Z2e.run (Z2d a0)
theorem Zpl(a0){r}(h:Zw5 a0=some r):Fn PR 87 [wL Zl a0] (wS r):=Z2e.fn h
def Zaai(a0:Zfq):LT Empty Bool:=
.lb 1001<|.call (Zsx a0.Mana) fun x1=>.cs x1 (.k5 0<|.cs (a0.Mana.X==0) (.k4 1<|.cs (decide (a0.Life>=0)) (.k4 2<|.rt (decide (a0.Life<=99)))<|.k4 2<|.rt false)<|.k4 1<|.b4 false<|.rt false)<|.k5 0<|.b8 false<|.rt false
def Zaaj:LF Empty Bool := .z0 124 [.t 2] wB
def Z6r:=fun a0=>Zaaj.run (Zaai a0)
theorem Zapk(a0){r}(h:Z6r a0=some r):Fn PR 124 [wA (Zfh a0)] (wB r):=Zaaj.fn h
def Zafr(a0:Int):LT Empty (By):=
.br (a0==1) (.rt ([101,110,116,101,114,115]:By))<|.br (a0==2) (.rt ([108,101,97,118,101,115]:By))<|.br (a0==3) (.rt ([100,105,101,115]:By))<|.br (a0==4) (.rt ([97,116,116,97,99,107,115]:By))<|.br (a0==5) (.rt ([98,108,111,99,107,115]:By))<|.br (a0==6) (.rt ([100,101,97,108,115]:By))<|.br (a0==7) (.rt ([100,101,97,108,116]:By))<|.br (a0==8) (.rt ([100,114,97,119,115]:By))<|.br (a0==9) (.rt ([99,97,115,116,115]:By))<|.br (a0==10) (.rt ([117,112,107,101,101,112]:By))<|.br (a0==11) (.rt ([101,110,100]:By))<|.br (a0==12) (.rt ([103,97,105,110,115]:By))<|.br (a0==13) (.rt ([108,111,115,101,115]:By))<|.br (a0==14) (.rt ([112,108,97,99,101,100]:By))<|.rt ([]:By)
def Zafs:LF Empty (By) := .z0 173 [.t 2] wS
def Zacm:=fun a0=>Zafs.run (Zafr a0)
theorem Zaak(a0){r}(h:Zacm a0=some r):Fn PR 173 [wI a0] (wS r):=Zafs.fn h
def Z6s(a0:Int):LT Empty Bool:=
.cs (a0==8) (.k3 0<|.b8 true<|.b4 true<|.rt true)<|.k3 0<|.cs (a0==9) (.k3 1<|.b8 true<|.kb true<|.rt true)<|.k3 1<|.cs (a0==10) (.k3 2<|.b5 true<|.kb true<|.rt true)<|.k3 2<|.cs (a0==11) (.k3 3<|.b3 true<|.rt true)<|.k3 3<|.cs (a0==12) (.k3 4<|.rt true)<|.k3 4<|.rt (a0==13)
def Z6t:LF Empty Bool := .z0 174 [.t 2] wB
def Z3s:=fun a0=>Z6t.run (Z6s a0)
theorem Z4r(a0){r}(h:Z3s a0=some r):Fn PR 174 [wI a0] (wB r):=Z6t.fn h
def Zzm(a0:Int):LT Empty Bool:=
.call (Zaak a0) fun x1=>.cs (!(x1==([]:By))) (.k2 0<|.call (Z4r a0) fun x4=>.k2 0<|.cs (!x4) (.k2 1<|.kg 0<|.kg 1<|.kg 0<|.rt true)<|.k2 1<|.kg 0<|.kg 1<|.kg 0<|.rt (a0==9))<|.k5 0<|.kg 0<|.rt false
def Zzn:LF Empty Bool := .z0 175 [.t 2] wB
def Zt5:=fun a0=>Zzn.run (Zzm a0)
theorem Zacn(a0){r}(h:Zt5 a0=some r):Fn PR 175 [wI a0] (wB r):=Zzn.fn h
inductive Zw6 where
 | L0 (E0:Zbx)
def Zs7(E0:Zbx):LT Zw6 Bool:=
.call (Zacn E0.When) fun x1=>.br (!x1) (.rt (Zac (Zn E0.Filter) (Zn (⟨0,0,0,0,0,0,0,([]:By),0,0,(⟨0,0⟩:Za),(⟨0,0⟩:Za),(⟨0,0⟩:Za)⟩:Zc))))<|.br (E0.When==9) (.call (Zfr E0.Filter) fun x5=>.cs x5 (.k5 2<|.kg 2<|.rt (E0.Filter.Zone==5))<|.k5 2<|.kg 2<|.rt false)<|.call (Zfr E0.Filter) fun x8=>.cs x8 (.k5 2<|.kg 2<|.rt (E0.Filter.Zone==0))<|.k5 2<|.kg 2<|.rt false
def Zapl(a0:Zbx):LT Zw6 Bool:=
.lb 1001<|.call (Zaak a0.When) fun x1=>.cs (x1==([]:By)) (.k4 0<|.b8 true<|.b3 true<|.kn [0]<|.rt false)<|.k4 0<|.cs (decide (a0.Who < 0)) (.k4 1<|.b5 true<|.b2 true<|.kn [0]<|.rt false)<|.k4 1<|.cs (decide (a0.Who > 2)) (.k5 2<|.k2 2<|.kn [0]<|.rt false)<|.k3 2<|.call (Z4r a0.When) fun x6=>.k2 2<|.cs (!x6) (.k3 3<|.kg 2<|.kg 3<|.kg 2<|.br (a0.Who != 0) (.rt false)<|.jn 0 (.L0 a0) [.relab 1001 3000] (Zs7 a0))<|.k3 3<|.kg 2<|.kg 3<|.kg 2<|.kn [0]<|.jn 0 (.L0 a0) [.relab 1001 3000] (Zs7 a0)
def Zapm:LF Zw6 Bool := .m0 125 [.t 2] wB fun | .L0 E0=>([1,1],⟨50,[(1,.bptr 3000 0)],[(3000,.box (bx (Zda E0)))]⟩,Zs7 E0)
def Zapn:=fun a0=>Zapm.run (Zapl a0)
theorem Zayd(a0){r}(h:Zapn a0=some r):Fn PR 125 [wA (Zda a0)] (wB r):=Zapm.fn h
def Zaal(a0:Zc):LT Empty Bool:=
.lb 1001<|.call (Zfr a0) fun x1=>.cs x1 (.k4 0<|.rt (a0.Zone==0))<|.k4 0<|.rt false
def Zaam:LF Empty Bool := .z0 178 [.t 2] wB
def Z6u:=fun a0=>Zaam.run (Zaal a0)
theorem Zw7(a0){r}(h:Z6u a0=some r):Fn PR 178 [wA (Zn a0)] (wB r):=Zaam.fn h
def Zaan(a0:Zas):LT Empty Bool:=
.lb 1001<|.cs (a0.Who != 0) (.k5 0<|.kn [0]<|.rt false)<|.k3 0<|.call (Zw7 a0.Filter) fun x2=>.k2 0<|.br (!x2) (.rt false)<|.br (a0.Do==5) (.cs (a0.N==0) (.k4 3<|.cs (a0.Counter==0) (.k4 4<|.cs (a0.Zone==1) (.k3 5<|.kg 4<|.kg 5<|.kg 4<|.b3 true<|.kg 4<|.kb true<|.kg 4<|.rt true)<|.k3 5<|.kg 4<|.kg 5<|.kg 4<|.cs (a0.Zone==2) (.k3 6<|.kg 4<|.kg 6<|.kg 4<|.rt true)<|.k3 6<|.kg 4<|.kg 6<|.kg 4<|.rt (a0.Zone==4))<|.k8 4<|.rt false)<|.k4 3<|.b8 false<|.rt false)<|.br (a0.Do==6) (.cs (a0.N==0) (.k4 4<|.cs (a0.Counter==0) (.k4 5<|.rt (a0.Zone==0))<|.k4 5<|.rt false)<|.k4 4<|.b4 false<|.rt false)<|.br (a0.Do==7) (.cs (a0.Zone==0) (.k4 5<|.cs (decide (a0.N>=1)) (.k4 6<|.cs (decide (a0.N<=99)) (.k4 7<|.cs (decide (a0.Counter>=0)) (.k4 8<|.rt (decide (a0.Counter < 3)))<|.k4 8<|.rt false)<|.k4 7<|.b4 false<|.rt false)<|.k4 6<|.b8 false<|.rt false)<|.k4 5<|.b8 false<|.b4 false<|.rt false)<|.rt false
def Zaao:LF Empty Bool := .z0 176 [.t 2] wB
def Z6v:=fun a0=>Zaao.run (Zaan a0)
theorem Zapo(a0){r}(h:Z6v a0=some r):Fn PR 176 [wA (Zbt a0)] (wB r):=Zaao.fn h
def Zaap(a0:Zas):LT Empty Bool:=
.lb 1001<|.cs (a0.Zone != 0) (.k4 0<|.kn [0]<|.rt false)<|.k4 0<|.br (a0.Counter != 0) (.rt false)<|.cs (a0.Do==2) (.k4 2<|.kn [0]<|.cs (decide (a0.N>=1)) (.k4 3<|.rt (decide (a0.N<=99)))<|.k4 3<|.rt false)<|.k4 2<|.br (a0.Do==4) (.cs (decide (a0.N>=1)) (.k4 4<|.rt (decide (a0.N<=99)))<|.k4 4<|.rt false)<|.rt (a0.N==0)
def Zaaq:LF Empty Bool := .z0 177 [.t 2] wB
def Z6w:=fun a0=>Zaaq.run (Zaap a0)
theorem Zapp(a0){r}(h:Z6w a0=some r):Fn PR 177 [wA (Zbt a0)] (wB r):=Zaaq.fn h
inductive Zn5 where
 | L0 (E0:Zas) (v3:Bool) (v4:Bool)
 | L1 (E0:Zas) (v3:Bool)
 | L2 (E0:Zas) (v3:Bool) (v4:Bool) (v109:Bool)
def Zof(E0:Zas)(v3:Bool)(v4:Bool)(v109:Bool):LT Zn5 Bool:=
.br v109 (.cs v4 (.k4 1<|.cs (decide (E0.Who>=0)) (.k4 2<|.cs (decide (E0.Who<=2)) (.k2 3<|.rt v3)<|.k2 3<|.rt false)<|.k4 2<|.b2 false<|.rt false)<|.k4 1<|.b5 false<|.kb false<|.rt false)<|.rt false
def Zk6(E0:Zas)(v3:Bool):LT Zn5 Bool:=
.cs (E0.Who==0) (.k3 0<|.call (Zw7 E0.Filter) fun x2=>.kg 0<|.cs x2 (.k8 1<|.rt true)<|.k4 1<|.cs (E0.Who==1) (.k3 2<|.kg 1<|.kg 2<|.kg 1<|.kb true<|.kg 1<|.kb true<|.kg 1<|.rt v3)<|.k3 2<|.kg 1<|.kg 2<|.kg 1<|.cs (E0.Who==2) (.kg 3<|.kg 1<|.kg 3<|.kg 1<|.rt v3)<|.kg 3<|.kg 1<|.kg 3<|.kg 1<|.rt false)<|.k4 0<|.b4 false<|.cs (E0.Who==1) (.k3 1<|.kb false<|.kg 1<|.kb false<|.kb true<|.kb false<|.kb true<|.kb false<|.rt v3)<|.k3 1<|.kb false<|.kg 1<|.kb false<|.cs (E0.Who==2) (.kg 2<|.kb false<|.kg 2<|.kb false<|.rt v3)<|.kg 2<|.kb false<|.kg 2<|.kb false<|.rt false
def Zog(E0:Zas)(v3:Bool)(v4:Bool):LT Zn5 Bool:=
.br (E0.On==1) (.cs (E0.Do != 1) (.k4 1<|.cs (E0.Do != 2) (.k4 2<|.cs (E0.Do != 3) (.k4 3<|.br (E0.Do != 4) (.rt false)<|.j0 (.L1 E0 v3) (Zk6 E0 v3))<|.k4 3<|.kn [0]<|.j0 (.L1 E0 v3) (Zk6 E0 v3))<|.k4 2<|.b4 false<|.kn [0]<|.j0 (.L1 E0 v3) (Zk6 E0 v3))<|.k4 1<|.b8 false<|.kn [0]<|.j0 (.L1 E0 v3) (Zk6 E0 v3))<|.br (E0.On==8) (.cs v4 (.k4 2<|.cs (E0.Who==0) (.k3 3<|.call (Zw7 E0.Filter) fun x9=>.kg 3<|.rt x9)<|.k4 3<|.rt false)<|.k4 2<|.b4 false<|.rt false)<|.br (E0.On==3) (.cs (E0.Do==4) (.k4 3<|.b4 true<|.cs (decide (E0.Who>=0)) (.k4 4<|.cs (decide (E0.Who<=2)) (.k2 5<|.rt v3)<|.k2 5<|.rt false)<|.k4 4<|.b2 false<|.rt false)<|.k4 3<|.cs (E0.Do==8) (.k4 4<|.cs (decide (E0.Who>=0)) (.k4 5<|.cs (decide (E0.Who<=2)) (.k2 6<|.rt v3)<|.k2 6<|.rt false)<|.k4 5<|.b2 false<|.rt false)<|.k4 4<|.b5 false<|.kb false<|.rt false)<|.br (E0.On==4) (.j0 (.L2 E0 v3 v4 (E0.On==4)) (Zof E0 v3 v4 (E0.On==4)))<|.br (E0.On==5) (.j0 (.L2 E0 v3 v4 (E0.On==5)) (Zof E0 v3 v4 (E0.On==5)))<|.j0 (.L2 E0 v3 v4 (E0.On==10)) (Zof E0 v3 v4 (E0.On==10))
def Zapq(a0:Zas):LT Zn5 Bool:=
.lb 1001<|.br (a0.On==2) (.call (Zapo a0) fun x2=>.rt x2)<|.call (Zapp a0) fun x4=>.br (!x4) (.rt false)<|.cs (a0.Do==3) (.k4 2<|.b4 true<|.jn 0 (.L0 a0 (Zac (Zn a0.Filter) (Zn (⟨0,0,0,0,0,0,0,([]:By),0,0,(⟨0,0⟩:Za),(⟨0,0⟩:Za),(⟨0,0⟩:Za)⟩:Zc))) true) [.relab 1001 3000] (Zog a0 (Zac (Zn a0.Filter) (Zn (⟨0,0,0,0,0,0,0,([]:By),0,0,(⟨0,0⟩:Za),(⟨0,0⟩:Za),(⟨0,0⟩:Za)⟩:Zc))) true))<|.k4 2<|.cs (a0.Do==4) (.k4 3<|.jn 0 (.L0 a0 (Zac (Zn a0.Filter) (Zn (⟨0,0,0,0,0,0,0,([]:By),0,0,(⟨0,0⟩:Za),(⟨0,0⟩:Za),(⟨0,0⟩:Za)⟩:Zc))) true) [.relab 1001 3000] (Zog a0 (Zac (Zn a0.Filter) (Zn (⟨0,0,0,0,0,0,0,([]:By),0,0,(⟨0,0⟩:Za),(⟨0,0⟩:Za),(⟨0,0⟩:Za)⟩:Zc))) true))<|.k4 3<|.jn 0 (.L0 a0 (Zac (Zn a0.Filter) (Zn (⟨0,0,0,0,0,0,0,([]:By),0,0,(⟨0,0⟩:Za),(⟨0,0⟩:Za),(⟨0,0⟩:Za)⟩:Zc))) (a0.Do==8)) [.relab 1001 3000] (Zog a0 (Zac (Zn a0.Filter) (Zn (⟨0,0,0,0,0,0,0,([]:By),0,0,(⟨0,0⟩:Za),(⟨0,0⟩:Za),(⟨0,0⟩:Za)⟩:Zc))) (a0.Do==8))
def Zapr:LF Zn5 Bool := .m0 126 [.t 2] wB fun | .L0 E0 v3 v4=>([1,1,1,1,1],⟨127,[(1,.bptr 3000 0),(3,wB v3),(4,wB v4)],[(3000,.box (bx (Zbt E0)))]⟩,Zog E0 v3 v4) | .L1 E0 v3=>([1,1,1,1,1,0,1,4,1,2,1],⟨127,[(1,.bptr 3000 0),(3,wB v3)],[(3000,.box (bx (Zbt E0)))]⟩,Zk6 E0 v3) | .L2 E0 v3 v4 v109=>([1,1,1,1,1,0,1,4,1,3,1,3,1,3,1],⟨127,[(1,.bptr 3000 0),(3,wB v3),(4,wB v4),(109,wB v109)],[(3000,.box (bx (Zbt E0)))]⟩,Zof E0 v3 v4 v109)
def Zaps:=fun a0=>Zapr.run (Zapq a0)
theorem Zaye(a0){r}(h:Zaps a0=some r):Fn PR 126 [wA (Zbt a0)] (wB r):=Zapr.fn h
def Zaft(a0:Zat):LT Empty Bool:=
.lb 1001<|.br (!a0.Object) (.cs a0.Player (.k5 1<|.rt (Zac (Zn a0.Filter) (Zn (⟨0,0,0,0,0,0,0,([]:By),0,0,(⟨0,0⟩:Za),(⟨0,0⟩:Za),(⟨0,0⟩:Za)⟩:Zc))))<|.k5 1<|.rt false)<|.call (Zfr a0.Filter) fun x3=>.cs x3 (.k3 1<|.cs (a0.Filter.Zone==0) (.k2 2<|.kg 1<|.kg 2<|.kg 1<|.b2 true<|.kg 1<|.kb true<|.kg 1<|.rt true)<|.k2 2<|.kg 1<|.kg 2<|.kg 1<|.cs (a0.Filter.Zone==3) (.k2 3<|.kg 1<|.kg 3<|.kg 1<|.rt true)<|.k2 3<|.kg 1<|.kg 3<|.kg 1<|.rt (a0.Filter.Zone==5))<|.k5 1<|.k2 1<|.rt false
def Zafu:LF Empty Bool := .z0 179 [.t 2] wB
def Zaco:=fun a0=>Zafu.run (Zaft a0)
theorem Zas1(a0){r}(h:Zaco a0=some r):Fn PR 179 [wA (Zah a0)] (wB r):=Zafu.fn h
inductive Zm1 where
 | L0 (v0:List Zat) (v3:Int)
def Zw8(v0:List Zat)(v3:Int):LT Zm1 Bool:=
.len Zah v0<|.br (decide (v3 < (v0.length:Int))) (.idx Zah v0 v3 fun x3=>.call (Zas1 x3) fun x5=>.br (!x5) (.rt false)<|.g0 (.L0 v0 (IntKind.wrap .i64 (v3+1))))<|.len Zah v0<|.rt (decide ((v0.length:Int)<=4))
def Zaar(a0:List Zat):LT Zm1 Bool:=
.g0 (.L0 a0 0)
def Zaas:LF Zm1 Bool := .m0 127 [.t 2] wB fun | .L0 v0 v3=>([1,0,1,4],⟨19,[(0,wL Zah v0),(3,wI v3)],[]⟩,Zw8 v0 v3)
def Z6x:=fun a0=>Zaas.run (Zaar a0)
theorem Zapt(a0){r}(h:Z6x a0=some r):Fn PR 127 [wL Zah a0] (wB r):=Zaas.fn h
def Zafv(a0:Int):LT Empty (By):=
.cs (decide (a0 < 1)) (.k3 0<|.kn [0]<|.rt ([]:By))<|.k3 0<|.br (decide (a0 > 26)) (.rt ([]:By))<|.dr [.lit]<|.idx cS [([100,97,109,97,103,101]:By),([100,101,115,116,114,111,121]:By),([109,111,118,101]:By),([100,114,97,119]:By),([100,105,115,99,97,114,100]:By),([103,97,105,110]:By),([108,111,115,101]:By),([116,97,112]:By),([117,110,116,97,112]:By),([112,117,116]:By),([116,97,107,101]:By),([99,114,101,97,116,101]:By),([109,111,100]:By),([109,97,110,97]:By),([99,111,117,110,116,101,114]:By),([99,111,112,121]:By),([98,101,99,111,109,101]:By),([115,97,99,114,105,102,105,99,101]:By),([109,105,108,108]:By),([115,99,114,121]:By),([115,101,97,114,99,104]:By),([115,104,105,101,108,100]:By),([116,117,114,110]:By),([119,105,110]:By),([100,101,102,101,97,116]:By),([118,101,110,111,109]:By)] (IntKind.wrap .i64 (a0 - 1)) fun x6=>.rt x6
def Zafw:LF Empty (By) := .z0 221 [.t 2] wS
def Zacp:=fun a0=>Zafw.run (Zafv a0)
theorem Zas2(a0){r}(h:Zacp a0=some r):Fn PR 221 [wI a0] (wS r):=Zafw.fn h
inductive Zlz where
 | L0 (v3:Int) (v4:Bool)
 | L1 (v3:Int) (v14:Bool)
def Zm2(v3:Int)(v14:Bool):LT Zlz (By):=
.br v14 (.rt ([114,107,97]:By))<|.br (v3==12) (.rt ([114,99,97]:By))<|.br (v3==13) (.rt ([114,109]:By))<|.br (v3==14) (.rt ([112]:By))<|.br (v3==18) (.rt ([114,97,102]:By))<|.br (v3==20) (.rt ([97]:By))<|.br (v3==21) (.rt ([102]:By))<|.br (v3==23) (.kn [8]<|.rt ([]:By))<|.br (v3==24) (.rt ([]:By))<|.rt ([114,97]:By)
def Zel(v3:Int)(v4:Bool):LT Zlz (By):=
.br v4 (.rt ([114]:By))<|.br (v3==3) (.rt ([114,122]:By))<|.br (v3==10) (.j0 (.L1 v3 (v3==10)) (Zm2 v3 (v3==10)))<|.j0 (.L1 v3 (v3==11)) (Zm2 v3 (v3==11))
def Zafx(a0:Int):LT Zlz (By):=
.br (a0==2) (.j0 (.L0 a0 (a0==2)) (Zel a0 (a0==2)))<|.br (a0==8) (.j0 (.L0 a0 (a0==8)) (Zel a0 (a0==8)))<|.br (a0==9) (.j0 (.L0 a0 (a0==9)) (Zel a0 (a0==9)))<|.br (a0==15) (.j0 (.L0 a0 (a0==15)) (Zel a0 (a0==15)))<|.br (a0==16) (.j0 (.L0 a0 (a0==16)) (Zel a0 (a0==16)))<|.br (a0==17) (.j0 (.L0 a0 (a0==17)) (Zel a0 (a0==17)))<|.j0 (.L0 a0 (a0==25)) (Zel a0 (a0==25))
def Zafy:LF Zlz (By) := .m0 257 [.t 2] wS fun | .L0 v3 v4=>([1,0,1,4,1],⟨32,[(3,wI v3),(4,wB v4)],[]⟩,Zel v3 v4) | .L1 v3 v14=>([1,0,1,4,1,3,1,3,1],⟨32,[(3,wI v3),(14,wB v14)],[]⟩,Zm2 v3 v14)
def Zacq:=fun a0=>Zafy.run (Zafx a0)
theorem Zas3(a0){r}(h:Zacq a0=some r):Fn PR 257 [wI a0] (wS r):=Zafy.fn h
inductive Zpm where
 | L0 (v1:Int) (v5:By) (v6:Int)
def Z0n(v1:Int)(v5:By)(v6:Int):LT Zpm Bool:=
.lenS v5<|.br (decide (v6 < (v5.length:Int))) (.idxS v5 v6 fun x3=>.br ((UInt8.toNat x3:Int)==v1) (.rt true)<|.g0 (.L0 v1 v5 (IntKind.wrap .i64 (v6+1))))<|.rt false
def Zafz(a0:Int)(a1:Int):LT Zpm Bool:=
.call (Zas3 a0) fun x1=>.g0 (.L0 a1 x1 0)
def Zaf0:LF Zpm Bool := .m0 222 [.t 4] wB fun | .L0 v1 v5 v6=>([1,1,0,1,4],⟨20,[(1,.t (.int .u8 v1)),(5,wS v5),(6,wI v6)],[]⟩,Z0n v1 v5 v6)
def Zacr:=fun a0 a1=>Zaf0.run (Zafz a0 a1)
theorem Zgn(a0)(a1){r}(h:Zacr a0 a1=some r):Fn PR 222 [wI a0,.t (.int .u8 a1)] (wB r):=Zaf0.fn h
def Z2f(a0:Int):LT Empty Bool:=
.cs (a0==3) (.k3 0<|.rt true)<|.k3 0<|.rt (a0==8)
def Z2g:LF Empty Bool := .z0 258 [.t 2] wB
def Zw9:=fun a0=>Z2g.run (Z2f a0)
theorem Zaf1(a0){r}(h:Zw9 a0=some r):Fn PR 258 [wI a0] (wB r):=Z2g.fn h
inductive Zq9 where
 | L0 (v1:Int) (E0:Ze6)
 | L1 (E0:Ze6)
def Zs8(E0:Ze6):LT Zq9 Bool:=
.br (E0.Kind==4) (.call (Zfr E0.Filter) fun x2=>.rt x2)<|.rt (Zac (Zn E0.Filter) (Zn (⟨0,0,0,0,0,0,0,([]:By),0,0,(⟨0,0⟩:Za),(⟨0,0⟩:Za),(⟨0,0⟩:Za)⟩:Zc)))
def Zs9(v1:Int)(E0:Ze6):LT Zq9 Bool:=
.cs (decide (E0.Kind < 1)) (.k4 0<|.kn [0]<|.rt false)<|.k4 0<|.br (decide (E0.Kind > 8)) (.rt false)<|.call (Zaf1 E0.Kind) fun x3=>.br x3 (.cs (decide (E0.N < 1)) (.k5 3<|.kn [0]<|.rt false)<|.k5 3<|.br (decide (E0.N > v1)) (.rt false)<|.j0 (.L1 E0) (Zs8 E0))<|.br (E0.N != 0) (.rt false)<|.j0 (.L1 E0) (Zs8 E0)
def Zapu(a0:Ze6)(a1:Int):LT Zq9 Bool:=
.lb 1002<|.br (decide (a1 > 4)) (.jn 0 (.L0 4 a0) [.relab 1002 3000] (Zs9 4 a0))<|.jn 0 (.L0 a1 a0) [.relab 1002 3000] (Zs9 a1 a0)
def Zapv:LF Zq9 Bool := .m0 223 [.t 4] wB fun | .L0 v1 E0=>([1,1],⟨40,[(1,wI v1),(2,.bptr 3000 0)],[(3000,.box (bx (Zeg E0)))]⟩,Zs9 v1 E0) | .L1 E0=>([1,1,1,1],⟨40,[(2,.bptr 3000 0)],[(3000,.box (bx (Zeg E0)))]⟩,Zs8 E0)
def Zapw:=fun a0 a1=>Zapv.run (Zapu a0 a1)
theorem Zayf(a0)(a1){r}(h:Zapw a0 a1=some r):Fn PR 223 [wA (Zeg a0),wI a1] (wB r):=Zapv.fn h
def Zaf2(a0:Int):LT Empty (By):=
.br (a0==0) (.rt ([112,108,117,115]:By))<|.br (a0==1) (.rt ([109,105,110,117,115]:By))<|.br (a0==2) (.rt ([99,104,97,114,103,101]:By))<|.rt ([]:By)
def Zaf3:LF Empty (By) := .z0 224 [.t 2] wS
def Zacs:=fun a0=>Zaf3.run (Zaf2 a0)
theorem Zaat(a0){r}(h:Zacs a0=some r):Fn PR 224 [wI a0] (wS r):=Zaf3.fn h
def Zapx(a0:Za9):LT Empty Bool:=
.lb 1001<|.lb 1003<|.br (a0.Kind==0) (.cs (decide (a0.N < 0)) (.k4 1<|.kn [0]<|.rt false)<|.k4 1<|.br (decide (a0.N > 1000000)) (.rt false)<|.cs (decide (a0.Kind>=0)) (.k4 3<|.cs (decide (a0.Kind<=7)) (.k5 4<|.kg 4<|.rt (Zac (Zar (⟨a0.Kind,0,a0.Counter,a0.Filter⟩:Za9)) (Zar (⟨a0.Kind,0,0,(⟨0,0,0,0,0,0,0,([]:By),0,0,(⟨0,0⟩:Za),(⟨0,0⟩:Za),(⟨0,0⟩:Za)⟩:Zc)⟩:Za9))))<|.k5 4<|.kg 4<|.rt false)<|.k4 3<|.b5 false<|.kb false<|.rt false)<|.br (a0.Kind==2) (.cs (decide (a0.N < 1)) (.k4 2<|.b5 true<|.kn [0]<|.rt false)<|.k4 2<|.cs (decide (a0.N > 99)) (.k5 3<|.kn [0]<|.rt false)<|.k3 3<|.call (Zfr a0.Filter) fun x9=>.k2 3<|.br (!x9) (.rt false)<|.cs (decide (a0.Kind>=0)) (.k4 5<|.cs (decide (a0.Kind<=7)) (.k5 6<|.kg 6<|.rt (Zac (Zar (⟨a0.Kind,0,a0.Counter,(⟨0,0,0,0,0,0,0,([]:By),0,0,(⟨0,0⟩:Za),(⟨0,0⟩:Za),(⟨0,0⟩:Za)⟩:Zc)⟩:Za9)) (Zar (⟨a0.Kind,0,0,(⟨0,0,0,0,0,0,0,([]:By),0,0,(⟨0,0⟩:Za),(⟨0,0⟩:Za),(⟨0,0⟩:Za)⟩:Zc)⟩:Za9))))<|.k5 6<|.kg 6<|.rt false)<|.k4 5<|.b5 false<|.kb false<|.rt false)<|.br (a0.Kind==4) (.call (Zaat a0.Counter) fun x15=>.br (x15==([]:By)) (.rt false)<|.cs (decide (a0.Kind>=0)) (.k4 4<|.cs (decide (a0.Kind<=7)) (.k5 5<|.kg 5<|.rt (Zac (Zar (⟨a0.Kind,a0.N,0,a0.Filter⟩:Za9)) (Zar (⟨a0.Kind,0,0,(⟨0,0,0,0,0,0,0,([]:By),0,0,(⟨0,0⟩:Za),(⟨0,0⟩:Za),(⟨0,0⟩:Za)⟩:Zc)⟩:Za9))))<|.k5 5<|.kg 5<|.rt false)<|.k4 4<|.b5 false<|.kb false<|.rt false)<|.cs (decide (a0.Kind>=0)) (.k4 3<|.cs (decide (a0.Kind<=7)) (.k5 4<|.kg 4<|.rt (Zac (Zar a0) (Zar (⟨a0.Kind,0,0,(⟨0,0,0,0,0,0,0,([]:By),0,0,(⟨0,0⟩:Za),(⟨0,0⟩:Za),(⟨0,0⟩:Za)⟩:Zc)⟩:Za9))))<|.k5 4<|.kg 4<|.rt false)<|.k4 3<|.b5 false<|.kb false<|.rt false
def Zapy:LF Empty Bool := .z0 225 [.t 2] wB
def Zapz:=fun a0=>Zapy.run (Zapx a0)
theorem Zayg(a0){r}(h:Zapz a0=some r):Fn PR 225 [wA (Zar a0)] (wB r):=Zapy.fn h
def Zaf4(a0:List Zh):LT Empty Bool:=
.call (Zpl a0) fun x1=>.rt (!(x1==([]:By)))
def Zaf5:LF Empty Bool := .z0 226 [.t 2] wB
def Zact:=fun a0=>Zaf5.run (Zaf4 a0)
theorem Zas4(a0){r}(h:Zact a0=some r):Fn PR 226 [wL Zl a0] (wB r):=Zaf5.fn h
inductive Zpn where
 | L0 (E0:A6 Int) (E1:Zr) (E2:Zr) (v4:Int)
def Z0o(E0:A6 Int)(E1:Zr)(E2:Zr)(v4:Int):LT Zpn Zr:=
.br (decide (v4 < 5)) (.idA (Zd.int .i64) (A6.list E0) (IntKind.wrap .i64 (v4+1)) (bx ((cA6 (cI .i64)) E0)) 0 6 fun x4=>.ldC (Zd.int .i64) 16 x4 0<|.idA (Zd.int .i64) (A5.list E2.Color) v4 (bx (Zae E2)) 2 7 fun x6=>.stA (A5.set? E2.Color v4 x4) (fun h=>Za21 (Zd.int .i64) ((bx (Zae E2)).take 2) ((bx (Zae E2)).drop 7) h) fun x8=>.g0 (.L0 E0 E1 (⟨E2.Generic,E2.X,x8⟩:Zr) (IntKind.wrap .i64 (v4+1))))<|.rt E2
def Zaf6(a0:A6 Int):LT Zpn Zr:=
.lb 1001<|.lb 1002<|.idA (Zd.int .i64) (A6.list a0) 0 (bx ((cA6 (cI .i64)) a0)) 0 6 fun x1=>.ldC (Zd.int .i64) 6 x1 0<|.lb 1003<|.go (.L0 a0 (⟨0,0,(⟨0,0,0,0,0⟩:A5 Int)⟩:Zr) (⟨x1,0,(⟨0,0,0,0,0⟩:A5 Int)⟩:Zr) 0) (tm14 1000 3000)
def Zaf7:LF Zpn Zr := .m0 260 [.c 2 60 true 7] (fun r=>(wA (Zae r))) fun | .L0 E0 E1 E2 v4=>([1,1,0,1,4],⟨20,[(1,.bptr 3000 0),(2,.bptr 3001 0),(3,.bptr 3002 0),(4,wI v4)],[(3000,.box (bx ((cA6 (cI .i64)) E0))),(3001,.box (bx (Zae E1))),(3002,.box (bx (Zae E2)))]⟩,Z0o E0 E1 E2 v4)
def Zacu:=fun a0=>Zaf7.run (Zaf6 a0)
theorem Zas5(a0){r}(h:Zacu a0=some r):Fn PR 260 [wA ((cA6 (cI .i64)) a0)] (wA (Zae r)):=Zaf7.fn h
inductive Zjk where
 | L0 (E0:Zr) (v3:By) (v4:Int)
 | L1 (E0:Zr) (v3:By) (v5:Int)
 | L2 (E0:Zr) (v3:By) (v5:Int) (v6:Int)
def Z0p(E0:Zr)(v3:By)(v4:Int):LT Zjk (By):=
.br (decide (v4 < E0.X)) (.ok (v3.length+([88]:By).length<=9223372036854775807)<|.g0 (.L0 E0 (v3++([88]:By)) (IntKind.wrap .i64 (v4+1))))<|.br (E0.Generic != 0) (.call (Zj8 E0.Generic) fun x7=>.ok (v3.length+x7.length<=9223372036854775807)<|.g0 (.L1 E0 (v3++x7) 0))<|.g0 (.L1 E0 v3 0)
def Z0q(E0:Zr)(v3:By)(v5:Int):LT Zjk (By):=
.br (decide (v5 < 5)) (.g0 (.L2 E0 v3 v5 0))<|.br (v3==([]:By)) (.rt ([48]:By))<|.rt v3
def Z0r(E0:Zr)(v3:By)(v5:Int)(v6:Int):LT Zjk (By):=
.idA (Zd.int .i64) (A5.list E0.Color) v5 (bx (Zae E0)) 2 7 fun x1=>.ldC (Zd.int .i64) 34 x1 0<|.br (decide (v6 < x1)) (.slS ([65,67,74,82,69]:By) v5 (IntKind.wrap .i64 (v5+1)) fun x6=>.ok (v3.length+x6.length<=9223372036854775807)<|.g0 (.L2 E0 (v3++x6) v5 (IntKind.wrap .i64 (v6+1))))<|.g0 (.L1 E0 v3 (IntKind.wrap .i64 (v5+1)))
def Zaf8(a0:Zr):LT Zjk (By):=
.lb 1001<|.call (Zsx a0) fun x1=>.br (!x1) (.rt ([]:By))<|.go (.L0 a0 ([]:By) 0) [.relab 1001 3000]
def Zaf9:LF Zjk (By) := .m0 259 [.t 2] wS fun | .L0 E0 v3 v4=>([1,1,1,0,1,4],⟨47,[(1,.bptr 3000 0),(3,wS v3),(4,wI v4)],[(3000,.box (bx (Zae E0)))]⟩,Z0p E0 v3 v4) | .L1 E0 v3 v5=>([1,1,1,1,1,0,1,4],⟨47,[(1,.bptr 3000 0),(3,wS v3),(5,wI v5)],[(3000,.box (bx (Zae E0)))]⟩,Z0q E0 v3 v5) | .L2 E0 v3 v5 v6=>([1,1,1,1,1,0,1,4,5,1,0,4,1,4],⟨47,[(1,.bptr 3000 0),(3,wS v3),(5,wI v5),(6,wI v6)],[(3000,.box (bx (Zae E0)))]⟩,Z0r E0 v3 v5 v6)
def Zacv:=fun a0=>Zaf9.run (Zaf8 a0)
theorem Zas6(a0){r}(h:Zacv a0=some r):Fn PR 259 [wA (Zae a0)] (wS r):=Zaf9.fn h
def Z2h(a0:A6 Int):LT Empty (By):=
.lb 1001<|.call (Zas5 a0) fun x1=>.call (Zas6 x1) fun x3=>.rt x3
def Z2i:LF Empty (By) := .z0 227 [.t 2] wS
def Zxa:=fun a0=>Z2i.run (Z2h a0)
theorem Zaga(a0){r}(h:Zxa a0=some r):Fn PR 227 [wA ((cA6 (cI .i64)) a0)] (wS r):=Z2i.fn h
def Z6y(a0:Int)(a1:Zc):LT Empty Bool:=
.lb 1003<|.br (a0==21) (.call (Zfr a1) fun x2=>.cs x2 (.k5 1<|.rt (a1.Zone==2))<|.k5 1<|.rt false)<|.call (Zfr a1) fun x5=>.cs x5 (.k5 1<|.rt (a1.Zone==0))<|.k5 1<|.rt false
def Z6z:LF Empty Bool := .z0 228 [.t 4] wB
def Z3t:=fun a0 a1=>Z6z.run (Z6y a0 a1)
theorem Zalz(a0)(a1){r}(h:Z3t a0 a1=some r):Fn PR 228 [wI a0,wA (Zn a1)] (wB r):=Z6z.fn h
inductive Zf4 where
 | L0 (E0:Zs) (v5:Bool)
 | L1 (E0:Zs) (v5:Bool) (v6:Bool)
 | L2 (E0:Zs) (v5:Bool) (v6:Bool) (v7:Bool)
 | L3 (E0:Zs) (v5:Bool) (v6:Bool) (v7:Bool) (v8:Bool)
 | L4 (E0:Zs) (v5:Bool) (v6:Bool) (v7:Bool) (v8:Bool) (v9:Bool)
 | L5 (E0:Zs) (v5:Bool) (v6:Bool) (v7:Bool) (v8:Bool) (v9:Bool) (v10:Bool)
 | L6 (E0:Zs) (v5:Bool) (v6:Bool) (v7:Bool) (v8:Bool) (v9:Bool) (v10:Bool) (v11:Bool)
 | L7 (v5:Bool) (v6:Bool) (v7:Bool) (v8:Bool) (v9:Bool) (v10:Bool) (v11:Bool) (v12:Bool)
def Zta(v5:Bool)(v6:Bool)(v7:Bool)(v8:Bool)(v9:Bool)(v10:Bool)(v11:Bool)(v12:Bool):LT Zf4 Bool:=
.cs v5 (.k2 0<|.cs v6 (.k2 1<|.cs v7 (.k2 2<|.cs v8 (.k2 3<|.cs v9 (.k2 4<|.cs v10 (.k2 5<|.cs v11 (.k2 6<|.rt v12)<|.k2 6<|.rt false)<|.k2 5<|.b2 false<|.rt false)<|.k2 4<|.b4 false<|.rt false)<|.k2 3<|.b5 false<|.kb false<|.rt false)<|.k2 2<|.b8 false<|.rt false)<|.k2 1<|.b8 false<|.b2 false<|.rt false)<|.k2 0<|.b8 false<|.b4 false<|.rt false
def Zoh(E0:Zs)(v5:Bool)(v6:Bool)(v7:Bool)(v8:Bool)(v9:Bool)(v10:Bool)(v11:Bool):LT Zf4 Bool:=
.call (Zgn E0.Op 102) fun x1=>.br x1 (.call (Zalz E0.Op E0.Filter) fun x4=>.j0 (.L7 v5 v6 v7 v8 v9 v10 v11 x4) (Zta v5 v6 v7 v8 v9 v10 v11 x4))<|.j0 (.L7 v5 v6 v7 v8 v9 v10 v11 (Zac (Zn E0.Filter) (Zn (⟨0,0,0,0,0,0,0,([]:By),0,0,(⟨0,0⟩:Za),(⟨0,0⟩:Za),(⟨0,0⟩:Za)⟩:Zc)))) (Zta v5 v6 v7 v8 v9 v10 v11 (Zac (Zn E0.Filter) (Zn (⟨0,0,0,0,0,0,0,([]:By),0,0,(⟨0,0⟩:Za),(⟨0,0⟩:Za),(⟨0,0⟩:Za)⟩:Zc))))
def Ztb(E0:Zs)(v5:Bool)(v6:Bool)(v7:Bool)(v8:Bool)(v9:Bool)(v10:Bool):LT Zf4 Bool:=
.call (Zgn E0.Op 112) fun x1=>.br x1 (.cs (!(Zac ((cA6 (cI .i64)) E0.Pool) ((cA6 (cI .i64)) (⟨0,0,0,0,0,0⟩:A6 Int)))) (.k3 1<|.call (Zaga E0.Pool) fun x5=>.k2 1<|.j0 (.L6 E0 v5 v6 v7 v8 v9 v10 (!(x5==([]:By)))) (Zoh E0 v5 v6 v7 v8 v9 v10 (!(x5==([]:By)))))<|.k5 1<|.j0 (.L6 E0 v5 v6 v7 v8 v9 v10 false) (Zoh E0 v5 v6 v7 v8 v9 v10 false))<|.j0 (.L6 E0 v5 v6 v7 v8 v9 v10 (Zac ((cA6 (cI .i64)) E0.Pool) ((cA6 (cI .i64)) (⟨0,0,0,0,0,0⟩:A6 Int)))) (Zoh E0 v5 v6 v7 v8 v9 v10 (Zac ((cA6 (cI .i64)) E0.Pool) ((cA6 (cI .i64)) (⟨0,0,0,0,0,0⟩:A6 Int))))
def Ztc(E0:Zs)(v5:Bool)(v6:Bool)(v7:Bool)(v8:Bool)(v9:Bool):LT Zf4 Bool:=
.len Zl E0.Mods<|.call (Zgn E0.Op 109) fun x2=>.br x2 (.call (Zas4 E0.Mods) fun x5=>.j0 (.L5 E0 v5 v6 v7 v8 v9 x5) (Ztb E0 v5 v6 v7 v8 v9 x5))<|.j0 (.L5 E0 v5 v6 v7 v8 v9 ((E0.Mods.length:Int)==0)) (Ztb E0 v5 v6 v7 v8 v9 ((E0.Mods.length:Int)==0))
def Ztd(E0:Zs)(v5:Bool)(v6:Bool)(v7:Bool)(v8:Bool):LT Zf4 Bool:=
.call (Zgn E0.Op 97) fun x1=>.br x1 (.call (Zayg E0.Amount) fun x4=>.j0 (.L4 E0 v5 v6 v7 v8 x4) (Ztc E0 v5 v6 v7 v8 x4))<|.j0 (.L4 E0 v5 v6 v7 v8 (Zac (Zar E0.Amount) (Zar (⟨0,0,0,(⟨0,0,0,0,0,0,0,([]:By),0,0,(⟨0,0⟩:Za),(⟨0,0⟩:Za),(⟨0,0⟩:Za)⟩:Zc)⟩:Za9)))) (Ztc E0 v5 v6 v7 v8 (Zac (Zar E0.Amount) (Zar (⟨0,0,0,(⟨0,0,0,0,0,0,0,([]:By),0,0,(⟨0,0⟩:Za),(⟨0,0⟩:Za),(⟨0,0⟩:Za)⟩:Zc)⟩:Za9))))
def Zoi(E0:Zs)(v5:Bool)(v6:Bool)(v7:Bool):LT Zf4 Bool:=
.call (Zgn E0.Op 99) fun x1=>.br x1 (.call (Z6j E0.Card) fun x4=>.j0 (.L3 E0 v5 v6 v7 x4) (Ztd E0 v5 v6 v7 x4))<|.j0 (.L3 E0 v5 v6 v7 (E0.Card==([]:By))) (Ztd E0 v5 v6 v7 (E0.Card==([]:By)))
def Zk7(E0:Zs)(v5:Bool)(v6:Bool):LT Zf4 Bool:=
.cs (E0.Counter==0) (.k5 0<|.kg 0<|.j0 (.L2 E0 v5 v6 true) (Zoi E0 v5 v6 true))<|.k3 0<|.call (Zgn E0.Op 107) fun x2=>.kg 0<|.cs x2 (.k3 1<|.call (Zaat E0.Counter) fun x5=>.kg 1<|.kg 0<|.kg 1<|.kg 0<|.j0 (.L2 E0 v5 v6 (!(x5==([]:By)))) (Zoi E0 v5 v6 (!(x5==([]:By)))))<|.k4 1<|.kg 0<|.kg 1<|.kg 0<|.j0 (.L2 E0 v5 v6 false) (Zoi E0 v5 v6 false)
def Zte(E0:Zs)(v5:Bool):LT Zf4 Bool:=
.cs (E0.Zone==0) (.k8 0<|.j0 (.L1 E0 v5 true) (Zk7 E0 v5 true))<|.k3 0<|.call (Zgn E0.Op 122) fun x2=>.kg 0<|.cs x2 (.k3 1<|.kg 0<|.kg 1<|.kg 0<|.cs (decide (E0.Zone > 0)) (.k3 2<|.kg 0<|.kg 2<|.kg 0<|.j0 (.L1 E0 v5 (decide (E0.Zone<=4))) (Zk7 E0 v5 (decide (E0.Zone<=4))))<|.k3 2<|.kg 0<|.kg 2<|.kg 0<|.j0 (.L1 E0 v5 false) (Zk7 E0 v5 false))<|.k3 1<|.kg 0<|.kg 1<|.kg 0<|.b3 false<|.kg 0<|.kb false<|.kg 0<|.j0 (.L1 E0 v5 false) (Zk7 E0 v5 false)
def Zap0(a0:Zs)(a1:Int):LT Zf4 Bool:=
.lb 1002<|.call (Zas2 a0.Op) fun x1=>.br (x1==([]:By)) (.rt false)<|.call (Zgn a0.Op 114) fun x4=>.br x4 (.call (Zayf a0.Ref a1) fun x7=>.jn 0 (.L0 a0 x7) [.relab 1002 3000] (Zte a0 x7))<|.jn 0 (.L0 a0 (Zac (Zeg a0.Ref) (Zeg (⟨0,0,(⟨0,0,0,0,0,0,0,([]:By),0,0,(⟨0,0⟩:Za),(⟨0,0⟩:Za),(⟨0,0⟩:Za)⟩:Zc)⟩:Ze6)))) [.relab 1002 3000] (Zte a0 (Zac (Zeg a0.Ref) (Zeg (⟨0,0,(⟨0,0,0,0,0,0,0,([]:By),0,0,(⟨0,0⟩:Za),(⟨0,0⟩:Za),(⟨0,0⟩:Za)⟩:Zc)⟩:Ze6))))
def Zap1:LF Zf4 Bool := .m0 180 [.t 4] wB fun | .L0 E0 v5=>([1,1,1,1],⟨138,[(2,.bptr 3000 0),(5,wB v5)],[(3000,.box (bx (Zt E0)))]⟩,Zte E0 v5) | .L1 E0 v5 v6=>([1,1,1,1,1],⟨138,[(2,.bptr 3000 0),(5,wB v5),(6,wB v6)],[(3000,.box (bx (Zt E0)))]⟩,Zk7 E0 v5 v6) | .L2 E0 v5 v6 v7=>([1,1,1,1,1,1],⟨138,[(2,.bptr 3000 0),(5,wB v5),(6,wB v6),(7,wB v7)],[(3000,.box (bx (Zt E0)))]⟩,Zoi E0 v5 v6 v7) | .L3 E0 v5 v6 v7 v8=>([1,1,1,1,1,1,1,1],⟨138,[(2,.bptr 3000 0),(5,wB v5),(6,wB v6),(7,wB v7),(8,wB v8)],[(3000,.box (bx (Zt E0)))]⟩,Ztd E0 v5 v6 v7 v8) | .L4 E0 v5 v6 v7 v8 v9=>([1,1,1,1,1,1,1,1,1,1],⟨138,[(2,.bptr 3000 0),(5,wB v5),(6,wB v6),(7,wB v7),(8,wB v8),(9,wB v9)],[(3000,.box (bx (Zt E0)))]⟩,Ztc E0 v5 v6 v7 v8 v9) | .L5 E0 v5 v6 v7 v8 v9 v10=>([1,1,1,1,1,1,1,1,1,1,1,1],⟨138,[(2,.bptr 3000 0),(5,wB v5),(6,wB v6),(7,wB v7),(8,wB v8),(9,wB v9),(10,wB v10)],[(3000,.box (bx (Zt E0)))]⟩,Ztb E0 v5 v6 v7 v8 v9 v10) | .L6 E0 v5 v6 v7 v8 v9 v10 v11=>([1,1,1,1,1,1,1,1,1,1,1,1,1,1],⟨138,[(2,.bptr 3000 0),(5,wB v5),(6,wB v6),(7,wB v7),(8,wB v8),(9,wB v9),(10,wB v10),(11,wB v11)],[(3000,.box (bx (Zt E0)))]⟩,Zoh E0 v5 v6 v7 v8 v9 v10 v11) | .L7 v5 v6 v7 v8 v9 v10 v11 v12=>([1,1,1,1,1,1,1,1,1,1,1,1,1,1,1,1],⟨138,[(5,wB v5),(6,wB v6),(7,wB v7),(8,wB v8),(9,wB v9),(10,wB v10),(11,wB v11),(12,wB v12)],[]⟩,Zta v5 v6 v7 v8 v9 v10 v11 v12)
def Zap2:=fun a0 a1=>Zap1.run (Zap0 a0 a1)
theorem Zayh(a0)(a1){r}(h:Zap2 a0 a1=some r):Fn PR 180 [wA (Zt a0),wI a1] (wB r):=Zap1.fn h
inductive Zjr where
 | L0 (v0:List Zs) (v1:Int) (v5:Int)
def Zra(v0:List Zs)(v1:Int)(v5:Int):LT Zjr Bool:=
.len Zt v0<|.br (decide (v5 < (v0.length:Int))) (.idx Zt v0 v5 fun x3=>.call (Zayh x3 v1) fun x5=>.br (!x5) (.rt false)<|.g0 (.L0 v0 v1 (IntKind.wrap .i64 (v5+1))))<|.len Zt v0<|.cs (decide ((v0.length:Int)>=1)) (.k2 1<|.len Zt v0<|.k2 1<|.rt (decide ((v0.length:Int)<=8)))<|.k4 1<|.rt false
def Z4s(a0:List Zs)(a1:Int):LT Zjr Bool:=
.g0 (.L0 a0 a1 0)
def Z4t:LF Zjr Bool := .m0 128 [.t 4] wB fun | .L0 v0 v1 v5=>([1,0,1,4],⟨27,[(0,wL Zt v0),(1,wI v1),(5,wI v5)],[]⟩,Zra v0 v1 v5)
def Z0s:=fun a0 a1=>Z4t.run (Z4s a0 a1)
theorem Zai8(a0)(a1){r}(h:Z0s a0 a1=some r):Fn PR 128 [wL Zt a0,wI a1] (wB r):=Z4t.fn h
inductive Zjl where
 | L0 (E0:Ze) (v3:Bool)
 | L1 (E0:Ze) (v3:Bool)
 | L2 (E0:Ze) (v3:Bool)
 | L3 (E0:Ze) (v3:Bool)
 | L4 (E0:Ze) (v3:Bool)
def Ztf(E0:Ze)(v3:Bool):LT Zjl Bool:=
.br v3 (.call (Zapt E0.Specs) fun x2=>.cs x2 (.k5 1<|.len Zah E0.Specs<|.kg 1<|.call (Zai8 E0.Effects (E0.Specs.length:Int)) fun x6=>.kg 1<|.rt x6)<|.k5 1<|.k2 1<|.rt false)<|.len Zah E0.Specs<|.cs ((E0.Specs.length:Int)==0) (.k3 1<|.len Zt E0.Effects<|.k2 1<|.rt ((E0.Effects.length:Int)==0))<|.k5 1<|.rt false
def Ztg(E0:Ze)(v3:Bool):LT Zjl Bool:=
.br (E0.Kind==5) (.call (Zaye E0.Replace) fun x2=>.br (!x2) (.rt false)<|.j0 (.L4 E0 v3) (Ztf E0 v3))<|.br (!(Zac (Zbt E0.Replace) (Zbt (⟨0,0,(⟨0,0,0,0,0,0,0,([]:By),0,0,(⟨0,0⟩:Za),(⟨0,0⟩:Za),(⟨0,0⟩:Za)⟩:Zc),0,0,0,0⟩:Zas)))) (.rt false)<|.j0 (.L4 E0 v3) (Ztf E0 v3)
def Zth(E0:Ze)(v3:Bool):LT Zjl Bool:=
.br (E0.Kind==4) (.call (Zayd E0.Trigger) fun x2=>.br (!x2) (.rt false)<|.j0 (.L3 E0 v3) (Ztg E0 v3))<|.cs (!(Zac (Zda E0.Trigger) (Zda (⟨0,0,(⟨0,0,0,0,0,0,0,([]:By),0,0,(⟨0,0⟩:Za),(⟨0,0⟩:Za),(⟨0,0⟩:Za)⟩:Zc)⟩:Zbx)))) (.k3 1<|.kn [0]<|.rt false)<|.k3 1<|.br E0.May (.rt false)<|.j0 (.L3 E0 v3) (Ztg E0 v3)
def Zti(E0:Ze)(v3:Bool):LT Zjl Bool:=
.br (E0.Kind==3) (.call (Zapk E0.Price) fun x2=>.br (!x2) (.rt false)<|.j0 (.L2 E0 v3) (Zth E0 v3))<|.cs (!(Zac (Zfh E0.Price) (Zfh (⟨(⟨0,0,(⟨0,0,0,0,0⟩:A5 Int)⟩:Zr),false,false,0⟩:Zfq)))) (.k3 1<|.kn [0]<|.rt false)<|.k3 1<|.br E0.Slow (.rt false)<|.j0 (.L2 E0 v3) (Zth E0 v3)
def Zoj(E0:Ze)(v3:Bool):LT Zjl Bool:=
.br (E0.Kind==1) (.call (Zfr E0.Filter) fun x2=>.cs (!x2) (.k5 1<|.b5 true<|.kn [0]<|.rt false)<|.k5 1<|.cs (E0.Filter.Zone != 0) (.k5 2<|.kn [0]<|.rt false)<|.k3 2<|.call (Zpl E0.Mods) fun x6=>.k2 2<|.br (x6==([]:By)) (.rt false)<|.j0 (.L1 E0 v3) (Zti E0 v3))<|.cs (!(Zac (Zn E0.Filter) (Zn (⟨0,0,0,0,0,0,0,([]:By),0,0,(⟨0,0⟩:Za),(⟨0,0⟩:Za),(⟨0,0⟩:Za)⟩:Zc)))) (.k5 1<|.kn [0]<|.rt false)<|.k3 1<|.len Zl E0.Mods<|.k2 1<|.br (decide ((E0.Mods.length:Int) > 0)) (.rt false)<|.j0 (.L1 E0 v3) (Zti E0 v3)
def Zap3(a0:Ze):LT Zjl Bool:=
.lb 1001<|.cs (decide (a0.Kind < 1)) (.k4 0<|.kn [0]<|.rt false)<|.k4 0<|.br (decide (a0.Kind > 5)) (.rt false)<|.cs (a0.Kind==2) (.k4 2<|.b4 true<|.jn 0 (.L0 a0 true) [.relab 1001 3000] (Zoj a0 true))<|.k4 2<|.cs (a0.Kind==3) (.k4 3<|.jn 0 (.L0 a0 true) [.relab 1001 3000] (Zoj a0 true))<|.k4 3<|.jn 0 (.L0 a0 (a0.Kind==4)) [.relab 1001 3000] (Zoj a0 (a0.Kind==4))
def Zap4:LF Zjl Bool := .m0 78 [.t 2] wB fun | .L0 E0 v3=>([1,1,1],⟨117,[(1,.bptr 3000 0),(3,wB v3)],[(3000,.box (bx (Zi E0)))]⟩,Zoj E0 v3) | .L1 E0 v3=>([1,1,1,1],⟨117,[(1,.bptr 3000 0),(3,wB v3)],[(3000,.box (bx (Zi E0)))]⟩,Zti E0 v3) | .L2 E0 v3=>([1,1,1,1,1],⟨117,[(1,.bptr 3000 0),(3,wB v3)],[(3000,.box (bx (Zi E0)))]⟩,Zth E0 v3) | .L3 E0 v3=>([1,1,1,1,1,1],⟨117,[(1,.bptr 3000 0),(3,wB v3)],[(3000,.box (bx (Zi E0)))]⟩,Ztg E0 v3) | .L4 E0 v3=>([1,1,1,1,1,1,1],⟨117,[(1,.bptr 3000 0),(3,wB v3)],[(3000,.box (bx (Zi E0)))]⟩,Ztf E0 v3)
def Zap5:=fun a0=>Zap4.run (Zap3 a0)
theorem Zzo(a0){r}(h:Zap5 a0=some r):Fn PR 78 [wA (Zi a0)] (wB r):=Zap4.fn h
def Zagb(a0:Zk):LT Empty Bool:=
.lb 1001<|.cs (a0.Line.Types==2) (.k5 0<|.rt true)<|.k5 0<|.rt (a0.Line.Types==4)
def Zagc:LF Empty Bool := .z0 79 [.t 2] wB
def Zacw:=fun a0=>Zagc.run (Zagb a0)
theorem Zas7(a0){r}(h:Zacw a0=some r):Fn PR 79 [wA (Zu a0)] (wB r):=Zagc.fn h
inductive Zrb where
 | L0 (E0:Zk)
 | L1 (E0:Zk) (v3:Int) (v4:Int)
def Ztj(E0:Zk):LT Zrb Bool:=
.g0 (.L1 E0 0 0)
def Z60(E0:Zk)(v3:Int)(v4:Int):LT Zrb Bool:=
.len Zi E0.Abilities<|.br (decide (v4 < (E0.Abilities.length:Int))) (.idx Zi E0.Abilities v4 fun x3=>.call (Zzo x3) fun x5=>.br (!x5) (.rt false)<|.ag Zi x3 0<|.br (x3.Kind==2) (.g0 (.L1 E0 (IntKind.wrap .i64 (v3+1)) (IntKind.wrap .i64 (v4+1))))<|.g0 (.L1 E0 v3 (IntKind.wrap .i64 (v4+1))))<|.call (Zas7 E0) fun x15=>.br x15 (.cs (!E0.Token) (.k4 2<|.cs (E0.Keys==0) (.k3 3<|.len Zi E0.Abilities<|.k2 3<|.cs ((E0.Abilities.length:Int)==1) (.k3 4<|.rt (v3==1))<|.k3 4<|.rt false)<|.k5 3<|.b3 false<|.rt false)<|.k4 2<|.b8 false<|.rt false)<|.cs (v3==0) (.k4 2<|.cs (!E0.Token) (.k5 3<|.kg 2<|.kg 3<|.kg 2<|.cs ((Zax .and .i64 E0.Line.Types 32)==0) (.k4 4<|.kg 2<|.kg 4<|.kg 2<|.rt true)<|.k4 4<|.kg 2<|.kg 4<|.kg 2<|.rt (Zac (Zae E0.Cost) (Zae (⟨0,0,(⟨0,0,0,0,0⟩:A5 Int)⟩:Zr))))<|.k5 3<|.kg 2<|.kg 3<|.kg 2<|.b4 false<|.kg 2<|.kb false<|.kg 2<|.rt (Zac (Zae E0.Cost) (Zae (⟨0,0,(⟨0,0,0,0,0⟩:A5 Int)⟩:Zr))))<|.k8 2<|.rt false
def Zap6(a0:Zk):LT Zrb Bool:=
.lb 1001<|.call (Z6j a0.Name) fun x1=>.cs (!x1) (.k5 0<|.b16 true<|.b2 true<|.kn [0]<|.rt false)<|.k3 0<|.call (Zsx a0.Cost) fun x4=>.k2 0<|.cs (!x4) (.k5 1<|.b8 true<|.b5 true<|.kn [0]<|.rt false)<|.k3 1<|.call (Zayb a0.Line) fun x7=>.k2 1<|.cs (!x7) (.k5 2<|.b8 true<|.kn [0]<|.rt false)<|.k3 2<|.call (Zak5 a0.Keys) fun x10=>.k2 2<|.cs (!x10) (.k4 3<|.b4 true<|.kn [0]<|.rt false)<|.k4 3<|.cs (decide (a0.Color < 0)) (.k4 4<|.kn [0]<|.rt false)<|.k4 4<|.br (decide (a0.Color > 31)) (.rt false)<|.cs (decide (a0.Power < 0)) (.k4 6<|.b16 true<|.b3 true<|.kn [0]<|.rt false)<|.k4 6<|.cs (decide (a0.Power > 99)) (.k4 7<|.b8 true<|.b5 true<|.b2 true<|.kn [0]<|.rt false)<|.k4 7<|.cs (decide (a0.Tough < 0)) (.k4 8<|.b8 true<|.b3 true<|.kn [0]<|.rt false)<|.k4 8<|.cs (decide (a0.Tough > 99)) (.k5 9<|.kg 9<|.b5 true<|.kn [0]<|.rt false)<|.k2 9<|.call (Zae6 a0) fun x19=>.k2 9<|.cs (!x19) (.k4 10<|.cs (a0.Power != 0) (.k3 11<|.kg 10<|.kg 11<|.kg 9<|.kg 10<|.kg 9<|.b5 true<|.kn [0]<|.rt false)<|.k3 11<|.kg 10<|.kg 11<|.kg 9<|.kg 10<|.kg 9<|.cs (a0.Tough != 0) (.k5 12<|.kn [0]<|.rt false)<|.k3 12<|.len Zi a0.Abilities<|.k2 12<|.br (decide ((a0.Abilities.length:Int) > 8)) (.rt false)<|.jn 0 (.L0 a0) [.relab 1001 3000] (Ztj a0))<|.k5 10<|.kg 9<|.kg 10<|.kg 9<|.b3 false<|.len Zi a0.Abilities<|.b2 false<|.br (decide ((a0.Abilities.length:Int) > 8)) (.rt false)<|.jn 0 (.L0 a0) [.relab 1001 3000] (Ztj a0)
def Zap7:LF Zrb Bool := .m0 43 [.t 2] wB fun | .L0 E0=>([1,1,1],⟨139,[(1,.bptr 3000 0)],[(3000,.box (bx (Zu E0)))]⟩,Ztj E0) | .L1 E0 v3 v4=>([1,1,1,1,0,1,4],⟨139,[(1,.bptr 3000 0),(3,wI v3),(4,wI v4)],[(3000,.box (bx (Zu E0)))]⟩,Z60 E0 v3 v4)
def Zap8:=fun a0=>Zap7.run (Zap6 a0)
theorem Zayi(a0){r}(h:Zap8 a0=some r):Fn PR 43 [wA (Zu a0)] (wB r):=Zap7.fn h
inductive Zpo where
 | L0 (v0:List Zk) (v1:By) (v5:Int)
def Z0t(v0:List Zk)(v1:By)(v5:Int):LT Zpo Int:=
.len Zu v0<|.br (decide (v5 < (v0.length:Int))) (.idx Zu v0 v5 fun x3=>.br (x3.Name==v1) (.rt v5)<|.g0 (.L0 v0 v1 (IntKind.wrap .i64 (v5+1))))<|.rt (-1)
def Zagd(a0:List Zk)(a1:By):LT Zpo Int:=
.g0 (.L0 a0 a1 0)
def Zage:LF Zpo Int := .m0 44 [.t 4] wI fun | .L0 v0 v1 v5=>([1,0,1,4],⟨20,[(0,wL Zu v0),(1,wS v1),(5,wI v5)],[]⟩,Z0t v0 v1 v5)
def Zacx:=fun a0 a1=>Zage.run (Zagd a0 a1)
theorem Zas8(a0)(a1){r}(h:Zacx a0 a1=some r):Fn PR 44 [wL Zu a0,wS a1] (wI r):=Zage.fn h
inductive Zm3 where
 | L0 (v0:List Zk) (v1:By) (v5:Int)
def Zxb(v0:List Zk)(v1:By)(v5:Int):LT Zm3 Bool:=
.len Zu v0<|.br (decide (v5 < (v0.length:Int))) (.idx Zu v0 v5 fun x3=>.cs (x3.Name==v1) (.k3 1<|.ag Zu x3 0<|.k3 1<|.br x3.Token (.rt true)<|.g0 (.L0 v0 v1 (IntKind.wrap .i64 (v5+1))))<|.k5 1<|.kg 1<|.kn [0]<|.g0 (.L0 v0 v1 (IntKind.wrap .i64 (v5+1))))<|.rt false
def Zaau(a0:List Zk)(a1:By):LT Zm3 Bool:=
.g0 (.L0 a0 a1 0)
def Zaav:LF Zm3 Bool := .m0 80 [.t 4] wB fun | .L0 v0 v1 v5=>([1,0,1,4],⟨26,[(0,wL Zu v0),(1,wS v1),(5,wI v5)],[]⟩,Zxb v0 v1 v5)
def Z61:=fun a0 a1=>Zaav.run (Zaau a0 a1)
theorem Zap9(a0)(a1){r}(h:Z61 a0 a1=some r):Fn PR 80 [wL Zu a0,wS a1] (wB r):=Zaav.fn h
inductive Zhf where
 | L0 (v0:List Zk) (E0:Zk) (v5:Int)
 | L1 (v0:List Zk) (E0:Zk) (v5:Int) (v6:Int)
def Zrc(v0:List Zk)(E0:Zk)(v5:Int):LT Zhf Bool:=
.len Zi E0.Abilities<|.br (decide (v5 < (E0.Abilities.length:Int))) (.g0 (.L1 v0 E0 v5 0))<|.rt true
def Zrd(v0:List Zk)(E0:Zk)(v5:Int)(v6:Int):LT Zhf Bool:=
.idx Zi E0.Abilities v5 fun x1=>.len Zt x1.Effects<|.br (decide (v6 < (x1.Effects.length:Int))) (.ag Zi x1 0<|.idx Zt x1.Effects v6 fun x5=>.lb 1007<|.cs (x5.Op==12) (.k4 1<|.call (Zap9 v0 x5.Card) fun x8=>.k2 1<|.br (!x8) (.rt false)<|.g0 (.L1 v0 E0 v5 (IntKind.wrap .i64 (v6+1))))<|.k5 1<|.kg 1<|.kn [0]<|.g0 (.L1 v0 E0 v5 (IntKind.wrap .i64 (v6+1))))<|.g0 (.L0 v0 E0 (IntKind.wrap .i64 (v5+1)))
def Z4u(a0:List Zk)(a1:Zk):LT Zhf Bool:=
.lb 1003<|.go (.L0 a0 a1 0) [.relab 1003 3000]
def Z4v:LF Zhf Bool := .m0 45 [.t 4] wB fun | .L0 v0 E0 v5=>([1,0,1,4],⟨45,[(0,wL Zu v0),(3,.bptr 3000 0),(5,wI v5)],[(3000,.box (bx (Zu E0)))]⟩,Zrc v0 E0 v5) | .L1 v0 E0 v5 v6=>([1,0,1,4,5,1,0,4,1,4],⟨45,[(0,wL Zu v0),(3,.bptr 3000 0),(5,wI v5),(6,wI v6)],[(3000,.box (bx (Zu E0)))]⟩,Zrd v0 E0 v5 v6)
def Z0u:=fun a0 a1=>Z4v.run (Z4u a0 a1)
theorem Zai9(a0)(a1){r}(h:Z0u a0 a1=some r):Fn PR 45 [wL Zu a0,wA (Zu a1)] (wB r):=Z4v.fn h
inductive Zm4 where
 | L0 (v0:List Zk) (v4:Int)
def Zxc(v0:List Zk)(v4:Int):LT Zm4 (Int×Int):=
.len Zu v0<|.br (decide (v4 < (v0.length:Int))) (.idx Zu v0 v4 fun x3=>.call (Zayi x3) fun x5=>.br (!x5) (.rt (v4,9))<|.ag Zu x3 0<|.call (Zas8 v0 x3.Name) fun x8=>.br (decide (x8 < v4)) (.rt (v4,6))<|.ag Zu x3 0<|.call (Zai9 v0 x3) fun x11=>.br (!x11) (.rt (v4,7))<|.g0 (.L0 v0 (IntKind.wrap .i64 (v4+1))))<|.rt ((-1),0)
def Zaaw(a0:List Zk):LT Zm4 (Int×Int):=
.len Zu a0<|.br (decide ((a0.length:Int) > 256)) (.rt ((-1),5))<|.g0 (.L0 a0 0)
def Zaax:LF Zm4 (Int×Int) := .m0 28 [.t 2,.t 3] (fun r=>(.tup [wI r.1,wI r.2])) fun | .L0 v0 v4=>([1,1,0,1,4],⟨39,[(0,wL Zu v0),(4,wI v4)],[]⟩,Zxc v0 v4)
def Z62:=fun a0=>Zaax.run (Zaaw a0)
theorem Zaqa(a0){r}(h:Z62 a0=some r):Fn PR 28 [wL Zu a0] (.tup [wI r.1,wI r.2]):=Zaax.fn h
def Zaqb(a0:Int)(a1:Int)(a2:Int):LT Empty Bool:=
.cs (decide (a0>=a1)) (.k4 0<|.rt (decide (a0<=a2)))<|.k4 0<|.rt false
def Zaqc:LF Empty Bool := .z0 46 [.t 6] wB
def Zaqd:=fun a0 a1 a2=>Zaqc.run (Zaqb a0 a1 a2)
theorem Zdq(a0)(a1)(a2){r}(h:Zaqd a0 a1 a2=some r):Fn PR 46 [wI a0,wI a1,wI a2] (wB r):=Zaqc.fn h
inductive Zm5 where
 | L0 (E0:A6 Int) (v3:Int)
def Zxd(E0:A6 Int)(v3:Int):LT Zm5 Bool:=
.br (decide (v3 < 6)) (.idA (Zd.int .i64) (A6.list E0) v3 (bx ((cA6 (cI .i64)) E0)) 0 6 fun x2=>.ldC (Zd.int .i64) 10 x2 0<|.cs (decide (x2 < 0)) (.k5 1<|.kn [0]<|.rt false)<|.k2 1<|.idA (Zd.int .i64) (A6.list E0) v3 (bx ((cA6 (cI .i64)) E0)) 0 6 fun x5=>.kg 1<|.ldC (Zd.int .i64) 15 x5 1<|.k2 1<|.br (decide (x5 > 1000000)) (.rt false)<|.g0 (.L0 E0 (IntKind.wrap .i64 (v3+1))))<|.rt true
def Zaay(a0:A6 Int):LT Zm5 Bool:=
.lb 1001<|.go (.L0 a0 0) [.relab 1001 3000]
def Zaaz:LF Zm5 Bool := .m0 81 [.t 2] wB fun | .L0 E0 v3=>([1,0,1,4],⟨18,[(1,.bptr 3000 0),(3,wI v3)],[(3000,.box (bx ((cA6 (cI .i64)) E0)))]⟩,Zxd E0 v3)
def Z63:=fun a0=>Zaaz.run (Zaay a0)
theorem Zaqe(a0){r}(h:Z63 a0=some r):Fn PR 81 [wA ((cA6 (cI .i64)) a0)] (wB r):=Zaaz.fn h
inductive Zm6 where
 | L0 (v1:Int) (E0:Zo) (v5:Int)
def Zxe(v1:Int)(E0:Zo)(v5:Int):LT Zm6 Int:=
.len Zj E0.Objects<|.br (decide (v5 < (E0.Objects.length:Int))) (.idx Zj E0.Objects v5 fun x3=>.br (x3.Id==v1) (.rt v5)<|.g0 (.L0 v1 E0 (IntKind.wrap .i64 (v5+1))))<|.rt (-1)
def Zaa0(a0:Zo)(a1:Int):LT Zm6 Int:=
.lb 1002<|.go (.L0 a1 a0 0) [.relab 1002 3000]
def Zaa1:LF Zm6 Int := .m0 229 [.t 4] wI fun | .L0 v1 E0 v5=>([1,0,1,4],⟨22,[(1,wI v1),(2,.bptr 3000 0),(5,wI v5)],[(3000,.box (bx (Z1 E0)))]⟩,Zxe v1 E0 v5)
def Z64:=fun a0 a1=>Zaa1.run (Zaa0 a0 a1)
theorem Zaqf(a0)(a1){r}(h:Z64 a0 a1=some r):Fn PR 229 [wA (Z1 a0),wI a1] (wI r):=Zaa1.fn h
def Zagf(a0:Zo)(a1:Int):LT Empty (Zf×Bool):=
.lb 1002<|.lb 1004<|.call (Zaqf a0 a1) fun x1=>.br (decide (x1 < 0)) (.rt ((⟨0,0,0,0,0,false,false,false,false,0,(⟨0,0,0⟩:A3 Int),0,0,0,false,0,0⟩:Zf),false))<|.idx Zj a0.Objects x1 fun x4=>.rt (x4,true)
def Zagg:LF Empty (Zf×Bool) := .z0 181 [.c 4 56 true 19,.t 5] (fun r=>(.tup [wA (Zj r.1),wB r.2]))
def Zacy:=fun a0 a1=>Zagg.run (Zagf a0 a1)
theorem Zas9(a0)(a1){r}(h:Zacy a0 a1=some r):Fn PR 181 [wA (Z1 a0),wI a1] (.tup [wA (Zj r.1),wB r.2]):=Zagg.fn h
def Z65(a0:Zo)(a1:Int):LT Empty (Zf×Bool):=
.lb 1002<|.lb 1004<|.call (Zas9 a0 a1) fun x1=>.rt (x1.1,x1.2)
def Z66:LF Empty (Zf×Bool) := .z0 129 [.c 4 56 true 19,.t 5] (fun r=>(.tup [wA (Zj r.1),wB r.2]))
def Z3u:=fun a0 a1=>Z66.run (Z65 a0 a1)
theorem Z4w(a0)(a1){r}(h:Z3u a0 a1=some r):Fn PR 129 [wA (Z1 a0),wI a1] (.tup [wA (Zj r.1),wB r.2]):=Z66.fn h
inductive Zm7 where
 | L0 (v0:List Int) (v1:Int) (v5:Int) (v6:Int)
def Zxf(v0:List Int)(v1:Int)(v5:Int)(v6:Int):LT Zm7 Int:=
.len (cI .i64) v0<|.br (decide (v6 < (v0.length:Int))) (.idx (cI .i64) v0 v6 fun x3=>.br (x3==v1) (.g0 (.L0 v0 v1 (IntKind.wrap .i64 (v5+1)) (IntKind.wrap .i64 (v6+1))))<|.g0 (.L0 v0 v1 v5 (IntKind.wrap .i64 (v6+1))))<|.rt v5
def Zaa2(a0:List Int)(a1:Int):LT Zm7 Int:=
.g0 (.L0 a0 a1 0 0)
def Zaa3:LF Zm7 Int := .m0 130 [.t 4] wI fun | .L0 v0 v1 v5 v6=>([1,1,0,1,4],⟨22,[(0,wL (cI .i64) v0),(1,wI v1),(5,wI v5),(6,wI v6)],[]⟩,Zxf v0 v1 v5 v6)
def Z67:=fun a0 a1=>Zaa3.run (Zaa2 a0 a1)
theorem Zxg(a0)(a1){r}(h:Z67 a0 a1=some r):Fn PR 130 [wL (cI .i64) a0,wI a1] (wI r):=Zaa3.fn h
inductive Zpp where
 | L0 (v1:List Int) (v2:Int) (v3:Int) (E0:Zo) (v9:Int)
def Z0v(v1:List Int)(v2:Int)(v3:Int)(E0:Zo)(v9:Int):LT Zpp Bool:=
.len (cI .i64) v1<|.br (decide (v9 < (v1.length:Int))) (.idx (cI .i64) v1 v9 fun x3=>.call (Z4w E0 x3) fun x5=>.lb 1010<|.cs (!x5.2) (.k5 1<|.b8 true<|.b5 true<|.kn [0]<|.rt false)<|.k5 1<|.cs (x5.1.Zone != v2) (.k5 2<|.b8 true<|.kn [0]<|.rt false)<|.k3 2<|.cs (decide (v3>=0)) (.k4 3<|.kg 2<|.kg 3<|.kg 2<|.cs (x5.1.Owner != v3) (.k8 4<|.kn [0]<|.rt false)<|.k4 4<|.ag (cI .i64) x3 0<|.k2 4<|.call (Zxg v1 x3) fun x11=>.k2 4<|.br (x11 != 1) (.rt false)<|.g0 (.L0 v1 v2 v3 E0 (IntKind.wrap .i64 (v9+1))))<|.k4 3<|.kg 2<|.kg 3<|.kg 2<|.b4 false<|.ag (cI .i64) x3 0<|.b2 false<|.call (Zxg v1 x3) fun x16=>.b2 false<|.br (x16 != 1) (.rt false)<|.g0 (.L0 v1 v2 v3 E0 (IntKind.wrap .i64 (v9+1))))<|.rt true
def Zagh(a0:Zo)(a1:List Int)(a2:Int)(a3:Int):LT Zpp Bool:=
.lb 1004<|.go (.L0 a1 a2 a3 a0 0) [.relab 1004 3000]
def Zagi:LF Zpp Bool := .m0 82 [.t 8] wB fun | .L0 v1 v2 v3 E0 v9=>([1,0,1,4],⟨54,[(1,wL (cI .i64) v1),(2,wI v2),(3,wI v3),(4,.bptr 3000 0),(9,wI v9)],[(3000,.box (bx (Z1 E0)))]⟩,Z0v v1 v2 v3 E0 v9)
def Zacz:=fun a0 a1 a2 a3=>Zagi.run (Zagh a0 a1 a2 a3)
theorem Zm8(a0)(a1)(a2)(a3){r}(h:Zacz a0 a1 a2 a3=some r):Fn PR 82 [wA (Z1 a0),wL (cI .i64) a1,wI a2,wI a3] (wB r):=Zagi.fn h
inductive Zjs where
 | L0 (E0:Zo) (v3:Int)
def Zre(E0:Zo)(v3:Int):LT Zjs Bool:=
.len Zav E0.Players<|.br (decide (v3 < (E0.Players.length:Int))) (.idx Zav E0.Players v3 fun x3=>.lb 1004<|.call (Zdq x3.Life (-1000000) 1000000) fun x5=>.cs (!x5) (.k5 1<|.b8 true<|.b2 true<|.kn [0]<|.rt false)<|.k3 1<|.call (Zdq x3.Venom 0 1000000) fun x8=>.k2 1<|.cs (!x8) (.k5 2<|.b5 true<|.kn [0]<|.rt false)<|.k3 2<|.call (Zdq x3.Lands 0 1000000) fun x11=>.k2 2<|.cs (!x11) (.k5 3<|.kn [0]<|.rt false)<|.k3 3<|.call (Zaqe x3.Pool) fun x14=>.k2 3<|.br (!x14) (.rt false)<|.call (Zm8 E0 x3.Library 2 v3) fun x17=>.cs (!x17) (.k5 5<|.k2 5<|.b5 true<|.b2 true<|.kn [0]<|.rt false)<|.k5 5<|.call (Zm8 E0 x3.Hand 1 v3) fun x20=>.k2 5<|.cs (!x20) (.k5 6<|.k2 6<|.kn [0]<|.rt false)<|.k5 6<|.call (Zm8 E0 x3.Graveyard 3 v3) fun x23=>.k2 6<|.br (!x23) (.rt false)<|.g0 (.L0 E0 (IntKind.wrap .i64 (v3+1))))<|.call (Zm8 E0 E0.Battlefield 0 (-1)) fun x28=>.cs x28 (.k4 1<|.call (Zm8 E0 E0.Exile 4 (-1)) fun x31=>.kg 1<|.rt x31)<|.k5 1<|.rt false
def Z4x(a0:Zo):LT Zjs Bool:=
.lb 1001<|.len Zav a0.Players<|.call (Zdq (a0.Players.length:Int) 2 4) fun x2=>.br (!x2) (.rt false)<|.go (.L0 a0 0) [.relab 1001 3000]
def Z4y:LF Zjs Bool := .m0 47 [.t 2] wB fun | .L0 E0 v3=>([1,1,0,1,4],⟨76,[(1,.bptr 3000 0),(3,wI v3)],[(3000,.box (bx (Z1 E0)))]⟩,Zre E0 v3)
def Z0w:=fun a0=>Z4y.run (Z4x a0)
theorem Zaja(a0){r}(h:Z0w a0=some r):Fn PR 47 [wA (Z1 a0)] (wB r):=Z4y.fn h
def Z68(a0:Zo)(a1:Int):LT Empty Bool:=
.lb 1002<|.len Zav a0.Players<|.call (Zdq a1 0 (IntKind.wrap .i64 ((a0.Players.length:Int) - 1))) fun x4=>.rt x4
def Z69:LF Empty Bool := .z0 48 [.t 4] wB
def Z3v:=fun a0 a1=>Z69.run (Z68 a0 a1)
theorem Zf5(a0)(a1){r}(h:Z3v a0 a1=some r):Fn PR 48 [wA (Z1 a0),wI a1] (wB r):=Z69.fn h
inductive Zxh where
 | L0 (E0:A3 Int) (v3:Int)
def Z7a(E0:A3 Int)(v3:Int):LT Zxh Bool:=
.br (decide (v3 < 3)) (.idA (Zd.int .i64) (A3.list E0) v3 (bx ((cA3 (cI .i64)) E0)) 0 3 fun x2=>.ldC (Zd.int .i64) 10 x2 0<|.cs (decide (x2 < 0)) (.k5 1<|.kn [0]<|.rt false)<|.k2 1<|.idA (Zd.int .i64) (A3.list E0) v3 (bx ((cA3 (cI .i64)) E0)) 0 3 fun x5=>.kg 1<|.ldC (Zd.int .i64) 15 x5 1<|.k2 1<|.br (decide (x5 > 1000000)) (.rt false)<|.g0 (.L0 E0 (IntKind.wrap .i64 (v3+1))))<|.rt true
def Zaqg(a0:A3 Int):LT Zxh Bool:=
.lb 1001<|.go (.L0 a0 0) [.relab 1001 3000]
def Zaqh:LF Zxh Bool := .m0 131 [.t 2] wB fun | .L0 E0 v3=>([1,0,1,4],⟨18,[(1,.bptr 3000 0),(3,wI v3)],[(3000,.box (bx ((cA3 (cI .i64)) E0)))]⟩,Z7a E0 v3)
def Zaqi:=fun a0=>Zaqh.run (Zaqg a0)
theorem Zayj(a0){r}(h:Zaqi a0=some r):Fn PR 131 [wA ((cA3 (cI .i64)) a0)] (wB r):=Zaqh.fn h
def Zagj(a0:Zf):LT Empty Zf:=
.lb 1001<|.lb 1002<|.rt (⟨a0.Id,a0.Card,a0.Owner,a0.Control,a0.Zone,a0.Token,a0.Tapped,a0.Sick,a0.Deadly,a0.Damage,a0.Counters,a0.Stamp,a0.Copy,-1,false,0,a0.Shield⟩:Zf)
def Zagk:LF Empty Zf := .z0 132 [.c 2 56 true 19] (fun r=>(wA (Zj r)))
def Zac0:=fun a0=>Zagk.run (Zagj a0)
theorem Zata(a0){r}(h:Zac0 a0=some r):Fn PR 132 [wA (Zj a0)] (wA (Zj r)):=Zagk.fn h
def Zaa4(a0:Zf):LT Empty Zf:=
.lb 1001<|.lb 1002<|.rt (⟨a0.Id,a0.Card,a0.Owner,a0.Control,a0.Zone,a0.Token,a0.Tapped,a0.Sick,false,0,a0.Counters,a0.Stamp,a0.Copy,a0.Attack,a0.Blocked,a0.Blocks,0⟩:Zf)
def Zaa5:LF Empty Zf := .z0 133 [.c 2 56 true 19] (fun r=>(wA (Zj r)))
def Z7b:=fun a0=>Zaa5.run (Zaa4 a0)
theorem Zaqj(a0){r}(h:Z7b a0=some r):Fn PR 133 [wA (Zj a0)] (wA (Zj r)):=Zaa5.fn h
def Zaqk(a0:Zf)(a1:Int)(a2:Int):LT Empty Bool:=
.lb 1003<|.cs (decide (a0.Id < 1)) (.k4 0<|.b16 true<|.b8 true<|.b5 true<|.b2 true<|.kn [0]<|.rt false)<|.k4 0<|.cs (decide (a0.Card < 0)) (.k5 1<|.b16 true<|.b8 true<|.b2 true<|.kn [0]<|.rt false)<|.k5 1<|.cs (decide (a0.Card>=a1)) (.k4 2<|.b16 true<|.b5 true<|.kb true<|.kn [0]<|.rt false)<|.k4 2<|.cs (decide (a0.Owner < 0)) (.k5 3<|.b16 true<|.kb true<|.kn [0]<|.rt false)<|.k5 3<|.cs (decide (a0.Owner>=a2)) (.k4 4<|.b8 true<|.b5 true<|.kn [0]<|.rt false)<|.k4 4<|.cs (decide (a0.Control < 0)) (.k5 5<|.b8 true<|.kn [0]<|.rt false)<|.k5 5<|.cs (decide (a0.Control>=a2)) (.k4 6<|.b4 true<|.kn [0]<|.rt false)<|.k4 6<|.cs (decide (a0.Zone < 0)) (.k4 7<|.kn [0]<|.rt false)<|.k4 7<|.br (decide (a0.Zone > 5)) (.rt false)<|.cs (decide (a0.Damage < 0)) (.k4 9<|.b16 true<|.b8 true<|.kn [0]<|.rt false)<|.k4 9<|.cs (decide (a0.Damage > 1000000)) (.k4 10<|.b16 true<|.b4 true<|.kn [0]<|.rt false)<|.k4 10<|.cs (decide (a0.Stamp < 0)) (.k4 11<|.b16 true<|.kn [0]<|.rt false)<|.k4 11<|.cs (decide (a0.Stamp > 1000000)) (.k4 12<|.b8 true<|.b4 true<|.kn [0]<|.rt false)<|.k4 12<|.cs (decide (a0.Blocks < 0)) (.k4 13<|.b8 true<|.kn [0]<|.rt false)<|.k4 13<|.cs (decide (a0.Blocks > 1000000)) (.k4 14<|.b4 true<|.kn [0]<|.rt false)<|.k4 14<|.cs (decide (a0.Shield < 0)) (.k4 15<|.kn [0]<|.rt false)<|.k4 15<|.br (decide (a0.Shield > 1000000)) (.rt false)<|.call (Zayj a0.Counters) fun x18=>.cs (!x18) (.k4 17<|.b8 true<|.b5 true<|.kb true<|.kn [0]<|.rt false)<|.k4 17<|.cs (decide (a0.Copy < (-1))) (.k5 18<|.b8 true<|.kb true<|.kn [0]<|.rt false)<|.k5 18<|.cs (decide (a0.Copy>=a1)) (.k4 19<|.b5 true<|.kn [0]<|.rt false)<|.k4 19<|.cs (decide (a0.Attack < (-1))) (.k5 20<|.kn [0]<|.rt false)<|.k5 20<|.br (decide (a0.Attack>=a2)) (.rt false)<|.cs (a0.Zone==0) (.k8 22<|.k5 22<|.rt true)<|.k3 22<|.call (Zata a0) fun x26=>.k2 22<|.cs (Zac (Zj a0) (Zj x26)) (.k3 23<|.call (Zaqj a0) fun x29=>.kg 23<|.kg 22<|.kg 23<|.kg 22<|.cs (Zac (Zj a0) (Zj x29)) (.k3 24<|.kg 22<|.kg 24<|.kg 22<|.cs (!a0.Tapped) (.k3 25<|.kg 22<|.kg 25<|.kg 22<|.cs (!a0.Sick) (.k4 26<|.kg 22<|.kg 26<|.kg 22<|.rt (Zac ((cA3 (cI .i64)) a0.Counters) ((cA3 (cI .i64)) (⟨0,0,0⟩:A3 Int))))<|.k4 26<|.kg 22<|.kg 26<|.kg 22<|.rt false)<|.k3 25<|.kg 22<|.kg 25<|.kg 22<|.b4 false<|.kg 22<|.kb false<|.kg 22<|.rt false)<|.k3 24<|.kg 22<|.kg 24<|.kg 22<|.b3 false<|.kg 22<|.kb false<|.kg 22<|.b4 false<|.kg 22<|.kb false<|.kg 22<|.rt false)<|.k4 23<|.kg 22<|.kg 23<|.kg 22<|.b3 false<|.kg 22<|.kb false<|.kg 22<|.b3 false<|.kg 22<|.kb false<|.kg 22<|.b4 false<|.kg 22<|.kb false<|.kg 22<|.rt false
def Zaql:LF Empty Bool := .z0 83 [.t 6] wB
def Zaqm:=fun a0 a1 a2=>Zaql.run (Zaqk a0 a1 a2)
theorem Zayk(a0)(a1)(a2){r}(h:Zaqm a0 a1 a2=some r):Fn PR 83 [wA (Zj a0),wI a1,wI a2] (wB r):=Zaql.fn h
inductive Zk8 where
 | L0 (v1:Int) (E0:Zo) (v5:Int) (v6:Int)
def Zt6(v1:Int)(E0:Zo)(v5:Int)(v6:Int):LT Zk8 Int:=
.len Za4 E0.Stack<|.br (decide (v6 < (E0.Stack.length:Int))) (.idx Za4 E0.Stack v6 fun x3=>.cs (x3.Kind==1) (.k4 1<|.ag Za4 x3 0<|.k5 1<|.br (x3.Id==v1) (.g0 (.L0 v1 E0 (IntKind.wrap .i64 (v5+1)) (IntKind.wrap .i64 (v6+1))))<|.g0 (.L0 v1 E0 v5 (IntKind.wrap .i64 (v6+1))))<|.k8 1<|.kg 1<|.kn [0]<|.g0 (.L0 v1 E0 v5 (IntKind.wrap .i64 (v6+1))))<|.rt v5
def Z7c(a0:Zo)(a1:Int):LT Zk8 Int:=
.lb 1002<|.go (.L0 a1 a0 0 0) [.relab 1002 3000]
def Z7d:LF Zk8 Int := .m0 134 [.t 4] wI fun | .L0 v1 E0 v5 v6=>([1,1,0,1,4],⟨34,[(1,wI v1),(2,.bptr 3000 0),(5,wI v5),(6,wI v6)],[(3000,.box (bx (Z1 E0)))]⟩,Zt6 v1 E0 v5 v6)
def Z3w:=fun a0 a1=>Z7d.run (Z7c a0 a1)
theorem Zal0(a0)(a1){r}(h:Z3w a0 a1=some r):Fn PR 134 [wA (Z1 a0),wI a1] (wI r):=Z7d.fn h
def Zagl(a0:List Int):LT Empty (List Int):=
.lb 1003<|.apR (cI .i64) 8 ([]:List Int) a0 fun x1=>.ret x1 [.relab 1003 5000]
def Zagm:LF Empty (List Int) := .z 182 [.t 2] true (fun r=>[(5000,wR (cI .i64) 1 r)]) (fun r=>(wO (cI .i64) 5000 r))
def Zac1:=fun a0=>Zagm.run (Zagl a0)
theorem Zk9(a0){r}(h:Zac1 a0=some r):FnG PR 182 [] [wL (cI .i64) a0] [(5000,wR (cI .i64) 1 r)] (wO (cI .i64) 5000 r):=Zagm.fn h
def Zagn(a0:Zo)(a1:Int)(a2:Int):LT Empty (List Int):=
.lb 1003<|.br (a1==0) (.callF (Zk9 a0.Battlefield) 130000 fun x2=>.ret x2 [.relab 135000 5000])<|.br (a1==4) (.callF (Zk9 a0.Exile) 180000 fun x5=>.ret x5 [.relab 185000 5000])<|.cs (decide (a2 < 0)) (.k5 2<|.kg 2<|.kn [0]<|.ret ([]:List Int) [.own 6 5000 1])<|.k4 2<|.len Zav a0.Players<|.k2 2<|.br (decide (a2>=(a0.Players.length:Int))) (.ret ([]:List Int) [.own 6 5000 1])<|.br (a1==1) (.idx Zav a0.Players a2 fun x11=>.callF (Zk9 x11.Hand) 370000 fun x13=>.ret x13 [.relab 375000 5000])<|.br (a1==2) (.idx Zav a0.Players a2 fun x16=>.callF (Zk9 x16.Library) 460000 fun x18=>.ret x18 [.relab 465000 5000])<|.br (a1==3) (.idx Zav a0.Players a2 fun x21=>.callF (Zk9 x21.Graveyard) 550000 fun x23=>.ret x23 [.relab 555000 5000])<|.ret ([]:List Int) [.own 6 5000 1]
def Zago:LF Empty (List Int) := .z 135 [.t 6] true (fun r=>[(5000,wR (cI .i64) 1 r)]) (fun r=>(wO (cI .i64) 5000 r))
def Z3x:=fun a0 a1 a2=>Zago.run (Zagn a0 a1 a2)
theorem Zaqn(a0)(a1)(a2){r}(h:Z3x a0 a1 a2=some r):FnG PR 135 [] [wA (Z1 a0),wI a1,wI a2] [(5000,wR (cI .i64) 1 r)] (wO (cI .i64) 5000 r):=Zago.fn h
theorem Zatb(a0:Zo)(a1:Int)(a2:Int){r:List Int}(h:Z3x a0 a1 a2=some r):Fn PR 135 [wA (Z1 a0),wI a1,wI a2] (wL (cI .i64) r):=
 FnG.frozen (C:=LT.RL (cI .i64) r/\True) (Zaqn a0 a1 a2 h) ⟨rfl,trivial⟩ (by kernel_rfl)
def Z7e(a0:Zo)(a1:Zf):LT Empty Bool:=
.lb 1002<|.lb 1003<|.br (a1.Zone==5) (.call (Zal0 a0 a1.Id) fun x2=>.rt (x2==1))<|.call (Zatb a0 a1.Zone a1.Owner) fun x4=>.call (Zxg x4 a1.Id) fun x6=>.rt (x6==1)
def Z7f:LF Empty Bool := .z0 84 [.t 4] wB
def Z3y:=fun a0 a1=>Z7f.run (Z7e a0 a1)
theorem Z4z(a0)(a1){r}(h:Z3y a0 a1=some r):Fn PR 84 [wA (Z1 a0),wA (Zj a1)] (wB r):=Z7f.fn h
inductive Zjt where
 | L0 (v0:List Zk) (E0:Zo) (v5:Int)
def Zrf(v0:List Zk)(E0:Zo)(v5:Int):LT Zjt Bool:=
.len Zj E0.Objects<|.br (decide (v5 < (E0.Objects.length:Int))) (.idx Zj E0.Objects v5 fun x3=>.lb 1006<|.len Zu v0<|.len Zav E0.Players<|.call (Zayk x3 (v0.length:Int) (E0.Players.length:Int)) fun x7=>.cs (!x7) (.k5 1<|.kg 1<|.b8 true<|.b3 true<|.kn [0]<|.rt false)<|.k5 1<|.kg 1<|.cs (decide (x3.Id>=E0.NextId)) (.k5 2<|.kg 2<|.b5 true<|.kn [0]<|.rt false)<|.k5 2<|.kg 2<|.cs (decide (x3.Stamp>=E0.NextStamp)) (.k5 3<|.kn [0]<|.rt false)<|.k3 3<|.cs (decide (v5 > 0)) (.k5 4<|.idx Zj E0.Objects (IntKind.wrap .i64 (v5 - 1)) fun x15=>.k5 4<|.kg 3<|.kg 4<|.kg 3<|.br (decide (x15.Id>=x3.Id)) (.rt false)<|.call (Z4z E0 x3) fun x18=>.br (!x18) (.rt false)<|.g0 (.L0 v0 E0 (IntKind.wrap .i64 (v5+1))))<|.k8 4<|.k2 4<|.kg 3<|.kg 4<|.kg 3<|.kn [0]<|.call (Z4z E0 x3) fun x23=>.br (!x23) (.rt false)<|.g0 (.L0 v0 E0 (IntKind.wrap .i64 (v5+1))))<|.rt true
def Z40(a0:List Zk)(a1:Zo):LT Zjt Bool:=
.lb 1003<|.len Zj a1.Objects<|.br (decide ((a1.Objects.length:Int) > 2048)) (.rt false)<|.go (.L0 a0 a1 0) [.relab 1003 3000]
def Z41:LF Zjt Bool := .m0 49 [.t 4] wB fun | .L0 v0 E0 v5=>([1,1,0,1,4],⟨65,[(0,wL Zu v0),(3,.bptr 3000 0),(5,wI v5)],[(3000,.box (bx (Z1 E0)))]⟩,Zrf v0 E0 v5)
def Z0x:=fun a0 a1=>Z41.run (Z40 a0 a1)
theorem Zl0(a0)(a1){r}(h:Z0x a0 a1=some r):Fn PR 49 [wL Zu a0,wA (Z1 a1)] (wB r):=Z41.fn h
inductive Zim where
 | L0 (v0:List Zh) (v1:List Zh) (v5:Int)
def Zpq(v0:List Zh)(v1:List Zh)(v5:Int):LT Zim Bool:=
.len Zl v0<|.br (decide (v5 < (v0.length:Int))) (.idx Zl v0 v5 fun x3=>.idx Zl v1 v5 fun x5=>.br (!(Zac (Zl x3) (Zl x5))) (.rt false)<|.g0 (.L0 v0 v1 (IntKind.wrap .i64 (v5+1))))<|.rt true
def Z2j(a0:List Zh)(a1:List Zh):LT Zim Bool:=
.len Zl a0<|.len Zl a1<|.br ((a0.length:Int) != (a1.length:Int)) (.rt false)<|.g0 (.L0 a0 a1 0)
def Z2k:LF Zim Bool := .m0 183 [.t 4] wB fun | .L0 v0 v1 v5=>([1,1,0,1,4],⟨26,[(0,wL Zl v0),(1,wL Zl v1),(5,wI v5)],[]⟩,Zpq v0 v1 v5)
def Zxi:=fun a0 a1=>Z2k.run (Z2j a0 a1)
theorem Zzp(a0)(a1){r}(h:Zxi a0 a1=some r):Fn PR 183 [wL Zl a0,wL Zl a1] (wB r):=Z2k.fn h
def Zagp(a0:Zs)(a1:Zs):LT Empty Bool:=
.lb 1002<|.lb 1003<|.cs (a0.Op==a1.Op) (.k5 0<|.kg 0<|.cs (Zac (Zeg a0.Ref) (Zeg a1.Ref)) (.k5 1<|.kg 1<|.cs (Zac (Zar a0.Amount) (Zar a1.Amount)) (.k5 2<|.kg 2<|.cs (a0.Counter==a1.Counter) (.k5 3<|.kg 3<|.cs (a0.Zone==a1.Zone) (.k5 4<|.kg 4<|.cs (a0.Card==a1.Card) (.k5 5<|.kg 5<|.cs (Zac (Zn a0.Filter) (Zn a1.Filter)) (.k5 6<|.kg 6<|.cs (Zac ((cA6 (cI .i64)) a0.Pool) ((cA6 (cI .i64)) a1.Pool)) (.k5 7<|.call (Zzp a0.Mods a1.Mods) fun x9=>.kg 7<|.rt x9)<|.k5 7<|.kg 7<|.rt false)<|.k5 6<|.kg 6<|.b5 false<|.kb false<|.rt false)<|.k5 5<|.kg 5<|.b8 false<|.b4 false<|.rt false)<|.k5 4<|.kg 4<|.b16 false<|.b2 false<|.rt false)<|.k5 3<|.kg 3<|.b16 false<|.b8 false<|.rt false)<|.k5 2<|.kg 2<|.b16 false<|.b8 false<|.b5 false<|.kb false<|.rt false)<|.k5 1<|.kg 1<|.b16 false<|.b16 false<|.b4 false<|.rt false)<|.k5 0<|.kg 0<|.b16 false<|.b16 false<|.b8 false<|.b2 false<|.rt false
def Zagq:LF Empty Bool := .z0 230 [.t 4] wB
def Zac2:=fun a0 a1=>Zagq.run (Zagp a0 a1)
theorem Zatc(a0)(a1){r}(h:Zac2 a0 a1=some r):Fn PR 230 [wA (Zt a0),wA (Zt a1)] (wB r):=Zagq.fn h
inductive Zin where
 | L0 (v0:List Zs) (v1:List Zs) (v5:Int)
def Zpr(v0:List Zs)(v1:List Zs)(v5:Int):LT Zin Bool:=
.len Zt v0<|.br (decide (v5 < (v0.length:Int))) (.idx Zt v0 v5 fun x3=>.idx Zt v1 v5 fun x5=>.call (Zatc x3 x5) fun x7=>.br (!x7) (.rt false)<|.g0 (.L0 v0 v1 (IntKind.wrap .i64 (v5+1))))<|.rt true
def Z2l(a0:List Zs)(a1:List Zs):LT Zin Bool:=
.len Zt a0<|.len Zt a1<|.br ((a0.length:Int) != (a1.length:Int)) (.rt false)<|.g0 (.L0 a0 a1 0)
def Z2m:LF Zin Bool := .m0 184 [.t 4] wB fun | .L0 v0 v1 v5=>([1,1,0,1,4],⟨27,[(0,wL Zt v0),(1,wL Zt v1),(5,wI v5)],[]⟩,Zpr v0 v1 v5)
def Zxj:=fun a0 a1=>Z2m.run (Z2l a0 a1)
theorem Zagr(a0)(a1){r}(h:Zxj a0 a1=some r):Fn PR 184 [wL Zt a0,wL Zt a1] (wB r):=Z2m.fn h
inductive Zps where
 | L0 (E0:Ze) (E1:Ze) (v5:Int)
def Z0y(E0:Ze)(E1:Ze)(v5:Int):LT Zps Bool:=
.len Zah E0.Specs<|.br (decide (v5 < (E0.Specs.length:Int))) (.idx Zah E0.Specs v5 fun x3=>.idx Zah E1.Specs v5 fun x5=>.br (!(Zac (Zah x3) (Zah x5))) (.rt false)<|.g0 (.L0 E0 E1 (IntKind.wrap .i64 (v5+1))))<|.cs (E0.Kind==E1.Kind) (.k5 1<|.kg 1<|.cs (Zac (Zn E0.Filter) (Zn E1.Filter)) (.k5 2<|.call (Zzp E0.Mods E1.Mods) fun x12=>.kg 2<|.cs x12 (.k5 3<|.kg 3<|.cs (Zac (Zfh E0.Price) (Zfh E1.Price)) (.k5 4<|.kg 4<|.cs (E0.Slow==E1.Slow) (.k5 5<|.kg 5<|.cs (Zac (Zda E0.Trigger) (Zda E1.Trigger)) (.k5 6<|.kg 6<|.cs (E0.May==E1.May) (.k5 7<|.call (Zagr E0.Effects E1.Effects) fun x19=>.kg 7<|.cs x19 (.k5 8<|.kg 8<|.rt (Zac (Zbt E0.Replace) (Zbt E1.Replace)))<|.k5 8<|.kg 8<|.rt false)<|.k5 7<|.kg 7<|.b5 false<|.kb false<|.rt false)<|.k5 6<|.kg 6<|.b8 false<|.b4 false<|.rt false)<|.k5 5<|.kg 5<|.b16 false<|.b2 false<|.rt false)<|.k5 4<|.kg 4<|.b16 false<|.b8 false<|.rt false)<|.k5 3<|.kg 3<|.b16 false<|.b8 false<|.b5 false<|.kb false<|.rt false)<|.k5 2<|.kg 2<|.b16 false<|.b16 false<|.b4 false<|.rt false)<|.k5 1<|.kg 1<|.b16 false<|.b16 false<|.b8 false<|.b2 false<|.rt false
def Zags(a0:Ze)(a1:Ze):LT Zps Bool:=
.lb 1002<|.lb 1003<|.len Zah a0.Specs<|.len Zah a1.Specs<|.br ((a0.Specs.length:Int) != (a1.Specs.length:Int)) (.rt false)<|.go (.L0 a0 a1 0) [.relab 1002 3000,.relab 1003 3001]
def Zagt:LF Zps Bool := .m0 136 [.t 4] wB fun | .L0 E0 E1 v5=>([1,1,0,1,4],⟨92,[(2,.bptr 3000 0),(3,.bptr 3001 0),(5,wI v5)],[(3000,.box (bx (Zi E0))),(3001,.box (bx (Zi E1)))]⟩,Z0y E0 E1 v5)
def Zac3:=fun a0 a1=>Zagt.run (Zags a0 a1)
theorem Zatd(a0)(a1){r}(h:Zac3 a0 a1=some r):Fn PR 136 [wA (Zi a0),wA (Zi a1)] (wB r):=Zagt.fn h
def Zagu(a0:Zo)(a1:Zjh):LT Empty Bool:=
.lb 1002<|.lb 1003<|.call (Zdq a1.Id 1 (IntKind.wrap .i64 (a0.NextId - 1))) fun x3=>.cs (!x3) (.k5 0<|.b8 true<|.b3 true<|.kn [0]<|.rt false)<|.k3 0<|.call (Zdq a1.X 0 1000000) fun x6=>.k2 0<|.cs (!x6) (.k5 1<|.b5 true<|.kb true<|.kn [0]<|.rt false)<|.k3 1<|.len Zk1 a1.Targets<|.k2 1<|.cs (decide ((a1.Targets.length:Int) > 4)) (.k5 2<|.kg 2<|.kn [0]<|.rt false)<|.k4 2<|.call (Zf5 a0 a1.Control) fun x11=>.k2 2<|.br (!x11) (.rt false)<|.call (Z4w a0 a1.Id) fun x14=>.lb 1005<|.br (a1.Kind==1) (.call (Zatd a1.Ability (⟨0,(⟨0,0,0,0,0,0,0,([]:By),0,0,(⟨0,0⟩:Za),(⟨0,0⟩:Za),(⟨0,0⟩:Za)⟩:Zc),([]:List Zh),(⟨(⟨0,0,(⟨0,0,0,0,0⟩:A5 Int)⟩:Zr),false,false,0⟩:Zfq),false,(⟨0,0,(⟨0,0,0,0,0,0,0,([]:By),0,0,(⟨0,0⟩:Za),(⟨0,0⟩:Za),(⟨0,0⟩:Za)⟩:Zc)⟩:Zbx),false,([]:List Zat),([]:List Zs),(⟨0,0,(⟨0,0,0,0,0,0,0,([]:By),0,0,(⟨0,0⟩:Za),(⟨0,0⟩:Za),(⟨0,0⟩:Za)⟩:Zc),0,0,0,0⟩:Zas)⟩:Ze)) fun x17=>.cs (a1.Source==a1.Id) (.k2 5<|.cs x14.2 (.k4 6<|.cs (x14.1.Zone==5) (.k2 7<|.cs x17 (.k3 8<|.kg 7<|.kg 8<|.kg 7<|.rt true)<|.k3 8<|.call (Zzo a1.Ability) fun x23=>.kg 7<|.kg 8<|.kg 7<|.rt x23)<|.k4 7<|.rt false)<|.k4 6<|.b4 false<|.rt false)<|.k2 5<|.b8 false<|.rt false)<|.cs (a1.Kind==2) (.k3 5<|.cs (!x14.2) (.k3 6<|.call (Zzo a1.Ability) fun x27=>.kg 6<|.rt x27)<|.k4 6<|.rt false)<|.k3 5<|.b4 false<|.rt false
def Zagv:LF Empty Bool := .z0 85 [.t 4] wB
def Zac4:=fun a0 a1=>Zagv.run (Zagu a0 a1)
theorem Zate(a0)(a1){r}(h:Zac4 a0 a1=some r):Fn PR 85 [wA (Z1 a0),wA (Za4 a1)] (wB r):=Zagv.fn h
inductive Zxk where
 | L0 (v0:List Int) (v3:Int)
def Z7g(v0:List Int)(v3:Int):LT Zxk Bool:=
.len (cI .i64) v0<|.br (decide (v3 < (v0.length:Int))) (.idx (cI .i64) v0 (IntKind.wrap .i64 (v3 - 1)) fun x5=>.idx (cI .i64) v0 v3 fun x7=>.br (decide (x5>=x7)) (.rt false)<|.g0 (.L0 v0 (IntKind.wrap .i64 (v3+1))))<|.rt true
def Zaqo(a0:List Int):LT Zxk Bool:=
.g0 (.L0 a0 1)
def Zaqp:LF Zxk Bool := .m0 86 [.t 2] wB fun | .L0 v0 v3=>([1,0,1,4],⟨20,[(0,wL (cI .i64) v0),(3,wI v3)],[]⟩,Z7g v0 v3)
def Zaqq:=fun a0=>Zaqp.run (Zaqo a0)
theorem Zayl(a0){r}(h:Zaqq a0=some r):Fn PR 86 [wL (cI .i64) a0] (wB r):=Zaqp.fn h
inductive Zgo where
 | L0 (E0:Zo) (v3:Int)
 | L1 (E0:Zo) (v3:Int) (v4:Int)
 | L2 (E0:Zo) (v5:Int)
 | L3 (E0:Zo) (v7:Int)
def Zxl(E0:Zo)(v3:Int):LT Zgo Bool:=
.len Za4 E0.Stack<|.br (decide (v3 < (E0.Stack.length:Int))) (.idx Za4 E0.Stack v3 fun x3=>.call (Zate E0 x3) fun x5=>.br (!x5) (.rt false)<|.g0 (.L1 E0 v3 0))<|.g0 (.L2 E0 0)
def Zxm(E0:Zo)(v3:Int)(v4:Int):LT Zgo Bool:=
.br (decide (v4 < v3)) (.idx Za4 E0.Stack v4 fun x2=>.idx Za4 E0.Stack v3 fun x4=>.br (x2.Id==x4.Id) (.rt false)<|.g0 (.L1 E0 v3 (IntKind.wrap .i64 (v4+1))))<|.g0 (.L0 E0 (IntKind.wrap .i64 (v3+1)))
def Zxn(E0:Zo)(v5:Int):LT Zgo Bool:=
.len Za6 E0.Waiting<|.br (decide (v5 < (E0.Waiting.length:Int))) (.idx Za6 E0.Waiting v5 fun x3=>.lb 1006<|.call (Zf5 E0 x3.Control) fun x5=>.cs (!x5) (.k5 1<|.b5 true<|.kn [0]<|.rt false)<|.k5 1<|.cs (x3.Ability.Kind != 4) (.k5 2<|.kn [0]<|.rt false)<|.k3 2<|.call (Zzo x3.Ability) fun x9=>.k2 2<|.br (!x9) (.rt false)<|.g0 (.L2 E0 (IntKind.wrap .i64 (v5+1))))<|.g0 (.L3 E0 0)
def Zxo(E0:Zo)(v7:Int):LT Zgo Bool:=
.len Zba E0.Conts<|.br (decide (v7 < (E0.Conts.length:Int))) (.idx Zba E0.Conts v7 fun x3=>.lb 1008<|.call (Zf5 E0 x3.Control) fun x5=>.cs (!x5) (.k5 1<|.kg 1<|.b8 true<|.b5 true<|.b2 true<|.kn [0]<|.rt false)<|.k5 1<|.kg 1<|.cs (decide (x3.Stamp>=E0.NextStamp)) (.k5 2<|.b8 true<|.b2 true<|.kn [0]<|.rt false)<|.k3 2<|.call (Zdq x3.Until 1 2) fun x9=>.k2 2<|.cs (!x9) (.k5 3<|.b5 true<|.kn [0]<|.rt false)<|.k3 3<|.call (Zayl x3.Objects) fun x12=>.k2 3<|.cs (!x12) (.k5 4<|.kn [0]<|.rt false)<|.k3 4<|.call (Zpl x3.Mods) fun x15=>.k2 4<|.br (x15==([]:By)) (.rt false)<|.g0 (.L3 E0 (IntKind.wrap .i64 (v7+1))))<|.rt true
def Zaa6(a0:Zo):LT Zgo Bool:=
.lb 1001<|.len Za4 a0.Stack<|.cs (decide ((a0.Stack.length:Int) > 64)) (.k5 0<|.b5 true<|.kn [0]<|.rt false)<|.k3 0<|.len Za6 a0.Waiting<|.k2 0<|.cs (decide ((a0.Waiting.length:Int) > 64)) (.k5 1<|.kn [0]<|.rt false)<|.k3 1<|.len Zba a0.Conts<|.k2 1<|.br (decide ((a0.Conts.length:Int) > 64)) (.rt false)<|.go (.L0 a0 0) [.relab 1001 3000]
def Zaa7:LF Zgo Bool := .m0 50 [.t 2] wB fun | .L0 E0 v3=>([1,1,0,1,4],⟨129,[(1,.bptr 3000 0),(3,wI v3)],[(3000,.box (bx (Z1 E0)))]⟩,Zxl E0 v3) | .L1 E0 v3 v4=>([1,1,0,1,4,5,1,0,4,1,1,4],⟨129,[(1,.bptr 3000 0),(3,wI v3),(4,wI v4)],[(3000,.box (bx (Z1 E0)))]⟩,Zxm E0 v3 v4) | .L2 E0 v5=>([1,1,1,0,1,4],⟨129,[(1,.bptr 3000 0),(5,wI v5)],[(3000,.box (bx (Z1 E0)))]⟩,Zxn E0 v5) | .L3 E0 v7=>([1,1,1,1,0,1,4],⟨129,[(1,.bptr 3000 0),(7,wI v7)],[(3000,.box (bx (Z1 E0)))]⟩,Zxo E0 v7)
def Z7h:=fun a0=>Zaa7.run (Zaa6 a0)
theorem Zpt(a0){r}(h:Z7h a0=some r):Fn PR 50 [wA (Z1 a0)] (wB r):=Zaa7.fn h
inductive Zxp where
 | L0 (v0:List Zk) (E0:Zo) (v5:Int)
def Z7i(v0:List Zk)(E0:Zo)(v5:Int):LT Zxp Bool:=
.len (cI .i64) E0.Extra<|.br (decide (v5 < (E0.Extra.length:Int))) (.idx (cI .i64) E0.Extra v5 fun x3=>.call (Zf5 E0 x3) fun x5=>.br (!x5) (.rt false)<|.g0 (.L0 v0 E0 (IntKind.wrap .i64 (v5+1))))<|.cs (E0.Over==1) (.k4 1<|.call (Zf5 E0 E0.Winner) fun x11=>.k2 1<|.cs (!x11) (.k5 2<|.kg 2<|.kn [0]<|.rt false)<|.k4 2<|.cs (E0.Over != 1) (.k3 3<|.kg 2<|.kg 3<|.kg 2<|.br (E0.Winner != (-1)) (.rt false)<|.call (Zl0 v0 E0) fun x16=>.cs x16 (.k2 5<|.call (Zpt E0) fun x19=>.kg 5<|.rt x19)<|.k3 5<|.rt false)<|.k3 3<|.kg 2<|.kg 3<|.kg 2<|.kn [0]<|.call (Zl0 v0 E0) fun x21=>.cs x21 (.k2 4<|.call (Zpt E0) fun x24=>.kg 4<|.rt x24)<|.k3 4<|.rt false)<|.k5 1<|.kg 1<|.b4 false<|.cs (E0.Over != 1) (.k3 2<|.kb false<|.kg 2<|.kb false<|.br (E0.Winner != (-1)) (.rt false)<|.call (Zl0 v0 E0) fun x28=>.cs x28 (.k2 4<|.call (Zpt E0) fun x31=>.kg 4<|.rt x31)<|.k3 4<|.rt false)<|.k3 2<|.kb false<|.kg 2<|.kb false<|.kn [0]<|.call (Zl0 v0 E0) fun x33=>.cs x33 (.k2 3<|.call (Zpt E0) fun x36=>.kg 3<|.rt x36)<|.k3 3<|.rt false
def Zaqr(a0:List Zk)(a1:Zo):LT Zxp Bool:=
.lb 1003<|.call (Zdq a1.NextId 1 1000000) fun x1=>.cs (!x1) (.k5 0<|.b8 true<|.b5 true<|.b2 true<|.kn [0]<|.rt false)<|.k3 0<|.call (Zdq a1.NextStamp 1 1000000) fun x4=>.k2 0<|.cs (!x4) (.k5 1<|.b8 true<|.b2 true<|.kn [0]<|.rt false)<|.k3 1<|.call (Zdq a1.Turn 0 500) fun x7=>.k2 1<|.cs (!x7) (.k5 2<|.b5 true<|.kn [0]<|.rt false)<|.k3 2<|.call (Zdq a1.Step 0 10) fun x10=>.k2 2<|.cs (!x10) (.k5 3<|.kn [0]<|.rt false)<|.k3 3<|.len Zj a1.Objects<|.k2 3<|.br (decide ((a1.Objects.length:Int) > 2048)) (.rt false)<|.call (Zaja a1) fun x15=>.cs (!x15) (.k5 5<|.kg 5<|.b16 true<|.b8 true<|.kn [0]<|.rt false)<|.k4 5<|.call (Zf5 a1 a1.Active) fun x18=>.k2 5<|.cs (!x18) (.k5 6<|.kg 6<|.b16 true<|.b2 true<|.kn [0]<|.rt false)<|.k4 6<|.call (Zf5 a1 a1.Priority) fun x21=>.k2 6<|.cs (!x21) (.k8 7<|.b8 true<|.b2 true<|.kn [0]<|.rt false)<|.k5 7<|.len Zav a1.Players<|.kg 7<|.call (Zdq a1.Passes 0 (a1.Players.length:Int)) fun x25=>.k2 7<|.cs (!x25) (.k5 8<|.b5 true<|.kn [0]<|.rt false)<|.k3 8<|.len (cI .i64) a1.Extra<|.k2 8<|.cs (decide ((a1.Extra.length:Int) > 500)) (.k5 9<|.kn [0]<|.rt false)<|.k3 9<|.call (Zdq a1.Over 0 2) fun x30=>.k2 9<|.br (!x30) (.rt false)<|.go (.L0 a0 a1 0) [.relab 1003 3000]
def Zaqs:LF Zxp Bool := .m0 29 [.t 4] wB fun | .L0 v0 E0 v5=>([1,1,1,0,1,4],⟨114,[(0,wL Zu v0),(3,.bptr 3000 0),(5,wI v5)],[(3000,.box (bx (Z1 E0)))]⟩,Z7i v0 E0 v5)
def Zaqt:=fun a0 a1=>Zaqs.run (Zaqr a0 a1)
theorem Zaym(a0)(a1){r}(h:Zaqt a0 a1=some r):Fn PR 29 [wL Zu a0,wA (Z1 a1)] (wB r):=Zaqs.fn h
def Zaa8(a0:List Zk)(a1:Zo):LT Empty Bool:=
.lb 1003<|.call (Zaqa a0) fun x1=>.cs (x1.2==0) (.k3 0<|.call (Zaym a0 a1) fun x4=>.kg 0<|.rt x4)<|.k4 0<|.rt false
def Zaa9:LF Empty Bool := .z0 10 [.t 4] wB
def Z7j:=fun a0 a1=>Zaa9.run (Zaa8 a0 a1)
theorem Zaqu(a0)(a1){r}(h:Z7j a0 a1=some r):Fn PR 10 [wL Zu a0,wA (Z1 a1)] (wB r):=Zaa9.fn h
inductive Z0z where
 | L0 (v0:List Zf) (E0:Zo) (E1:Zo) (v4:Int)
def Zaqv(v0:List Zf)(E0:Zo)(E1:Zo)(v4:Int):LT Z0z Zo:=
.len Zj v0<|.br (decide (v4 < (v0.length:Int))) (.idx Zj v0 v4 fun x3=>.lb 1005<|.dr [.lit]<|.apR Zj 128 E1.Objects [(⟨IntKind.wrap .i64 (v4+1),x3.Card,x3.Owner,x3.Control,x3.Zone,x3.Token,x3.Tapped,x3.Sick,x3.Deadly,x3.Damage,x3.Counters,IntKind.wrap .i64 (v4+1),-1,-1,x3.Blocked,x3.Blocks,x3.Shield⟩:Zf)] fun x7=>.dr [.lit]<|.apR (cI .i64) 8 E1.Battlefield [IntKind.wrap .i64 (v4+1)] fun x10=>.g0 (.L0 v0 E0 (⟨E1.Players,x7,x10,E1.Exile,E1.Stack,E1.Waiting,E1.Conts,E1.Turn,E1.Active,E1.Step,E1.Begun,E1.Priority,E1.Passes,E1.NextId,E1.NextStamp,E1.Seed,E1.Extra,E1.Over,E1.Winner⟩:Zo) (IntKind.wrap .i64 (v4+1))))<|.ret E1 [.relab 40101 5001,.relab 40102 5002,.relab 40103 5003,.relab 40104 5004,.relab 40105 5005,.relab 40106 5006,.relab 40116 5016]
def Zatf(a0:List Zf):LT Z0z Zo:=
.lb 1002<|.dr [.lit]<|.len Zj a0<|.len Zj a0<|.lb 1003<|.go (.L0 a0 (⟨([]:List Zhq),([]:List Zf),([]:List Int),([]:List Int),([]:List Zjh),([]:List Zh2),([]:List Zb9),0,0,0,false,0,0,0,0,0,([]:List Int),0,0⟩:Zo) (⟨[(⟨20,0,0,(⟨0,0,0,0,0,0⟩:A6 Int),false,false,([]:List Int),([]:List Int),([]:List Int)⟩:Zhq),(⟨20,0,0,(⟨0,0,0,0,0,0⟩:A6 Int),false,false,([]:List Int),([]:List Int),([]:List Int)⟩:Zhq)],([]:List Zf),([]:List Int),([]:List Int),([]:List Zjh),([]:List Zh2),([]:List Zb9),1,0,3,true,0,0,IntKind.wrap .i64 ((a0.length:Int)+1),IntKind.wrap .i64 ((a0.length:Int)+1),0,([]:List Int),0,-1⟩:Zo) 0) [.relab 1002 3000,.relab 1003 3001,.ownb 3000 0 40000 14,.ownb 3000 1 40001 19,.ownb 3000 2 40002 1,.ownb 3000 3 40003 1,.ownb 3000 4 40004 94,.ownb 3000 5 40005 89,.ownb 3000 6 40006 6,.ownb 3000 16 40016 1,.ownb 3001 1 40101 19,.ownb 3001 2 40102 1,.ownb 3001 3 40103 1,.ownb 3001 4 40104 94,.ownb 3001 5 40105 89,.ownb 3001 6 40106 6,.ownb 3001 16 40116 1]
def Zaba:LF Z0z Zo := .m 30 [.c 2 31 true 19] true (fun r=>(tm17 r 5000)) (fun r=>(.agg (tm9 r 5000))) fun | .L0 v0 E0 E1 v4=>([1,1,0,1,4],⟨48,[(0,wL Zj v0),(2,.bptr 3000 0),(3,.bptr 3001 0),(4,wI v4)],((3000,.box [wO Zav 40000 E0.Players,wO Zj 40001 E0.Objects,wO (cI .i64) 40002 E0.Battlefield,wO (cI .i64) 40003 E0.Exile,wO Za4 40004 E0.Stack,wO Za6 40005 E0.Waiting,wO Zba 40006 E0.Conts,wI E0.Turn,wI E0.Active,wI E0.Step,wB E0.Begun,wI E0.Priority,wI E0.Passes,wI E0.NextId,wI E0.NextStamp,.t (.int .u64 E0.Seed),wO (cI .i64) 40016 E0.Extra,wI E0.Over,wI E0.Winner])::(40000,wR Zav 14 E0.Players)::(40001,wR Zj 19 E0.Objects)::(40002,wR (cI .i64) 1 E0.Battlefield)::(40003,wR (cI .i64) 1 E0.Exile)::(40004,wR Za4 94 E0.Stack)::(40005,wR Za6 89 E0.Waiting)::(40006,wR Zba 6 E0.Conts)::(40016,wR (cI .i64) 1 E0.Extra)::(3001,.box (tm9 E1 40100))::(tm17 E1 40100))⟩,Zaqv v0 E0 E1 v4)
def Zak9:=fun a0=>Zaba.run (Zatf a0)
theorem Zal1(a0){r}(h:Zak9 a0=some r):FnG PR 30 [] [wL Zj a0] (tm17 r 5000) (.agg (tm9 r 5000)):=Zaba.fn h
theorem Zaqw(a0:List Zf){r:Zo}(h:Zak9 a0=some r):Fn PR 30 [wL Zj a0] (wA (Z1 r)):=
 FnG.frozen (C:=LT.RL Zj r.Objects/\LT.RL (cI .i64) r.Battlefield/\LT.RL (cI .i64) r.Exile/\LT.RL Za4 r.Stack/\LT.RL Za6 r.Waiting/\LT.RL Zba r.Conts/\LT.RL (cI .i64) r.Extra/\True) (Zal1 a0 h) ⟨rfl,rfl,rfl,rfl,rfl,rfl,rfl,trivial⟩ (by kernel_rfl)
inductive Zla where
 | L0 (E0:Zr) (v6:A5 Int) (v7:Int)
def Zjm(E0:Zr)(v6:A5 Int)(v7:Int):LT Zla Bool:=
.br (decide (v7 < 5)) (.idX (Zd.int .i64) (A5.list v6) v7 fun x2=>.cs (decide (x2 < 0)) (.k3 1<|.kn [0]<|.rt false)<|.k3 1<|.br (decide (x2 > 9)) (.rt false)<|.g0 (.L0 E0 v6 (IntKind.wrap .i64 (v7+1))))<|.cs (decide (E0.Generic>=0)) (.k4 1<|.cs (decide (E0.Generic<=99)) (.k4 2<|.cs (decide (E0.X>=0)) (.k4 3<|.rt (decide (E0.X<=2)))<|.k4 3<|.rt false)<|.k4 2<|.b4 false<|.rt false)<|.k4 1<|.b8 false<|.rt false
def Z7k(a0:Zr):LT Zla Bool:=
.lb 1001<|.go (.L0 a0 a0.Color 0) [.relab 1001 3000]
def Ztk:LF Zla Bool := .m0 139 [.t 2] wB fun | .L0 E0 v6 v7=>([1,0,1,4],⟨35,[(1,.bptr 3000 0),(6,wA ((cA5 (cI .i64)) v6)),(7,wI v7)],[(3000,.box (bx (Zae E0)))]⟩,Zjm E0 v6 v7)
def Z2n:=fun a0=>Ztk.run (Z7k a0)
theorem Zagw(a0){r}(h:Z2n a0=some r):Fn PR 139 [wA (Zae a0)] (wB r):=Ztk.fn h
inductive Zju where
 | L0 (v3:Int) (v16:A5 Int) (v17:Int)
def Zrg(v3:Int)(v16:A5 Int)(v17:Int):LT Zju Int:=
.br (decide (v17 < 5)) (.idX (Zd.int .i64) (A5.list v16) v17 fun x2=>.br (decide (x2 > 0)) (.ok (¬ v17 < 0)<|.g0 (.L0 (Zax .or .i64 v3 (Z6b .i64 1 v17)) v16 (IntKind.wrap .i64 (v17+1))))<|.g0 (.L0 v3 v16 (IntKind.wrap .i64 (v17+1))))<|.rt v3
def Z42(a0:Zr):LT Zju Int:=
.lb 1001<|.call (Zagw a0) fun x1=>.cs (!x1) (.k5 0<|.kn [0]<|.rt 0)<|.k5 0<|.br (Zac ((cA5 (cI .i64)) a0.Color) ((cA5 (cI .i64)) (⟨0,0,0,0,0⟩:A5 Int))) (.rt 0)<|.g0 (.L0 0 a0.Color 0)
def Z43:LF Zju Int := .m0 88 [.t 2] wI fun | .L0 v3 v16 v17=>([1,1,1,0,1,4],⟨29,[(3,wI v3),(16,wA ((cA5 (cI .i64)) v16)),(17,wI v17)],[]⟩,Zrg v3 v16 v17)
def Z00:=fun a0=>Z43.run (Z42 a0)
theorem Zajb(a0){r}(h:Z00 a0=some r):Fn PR 88 [wA (Zae a0)] (wI r):=Z43.fn h
def Zeh(a0:Bys)(hne:a0≠[]):LT Empty (Bys):=
.ne cS hne<|.kn [0]<|.lb 1005<|.apR cS 16 ([]:Bys) a0 fun x1=>.ret x1 [.relab 1005 5000]
def Za2:LF Empty (Bys) := .z 89 [.t 2] true (fun r=>[(5000,wR cS 1 r)]) (fun r=>(wO cS 5000 r))
def Zcn(c:Nat):LT Empty (Bys):=
.kn [0]<|.ret ([]:Bys) [.own 2 5000 1]
def Zn6(c:Nat)(ad:Addr):LT Empty (Bys):=
.kn [0]<|.lb 1005<|.apR cS 16 ([]:Bys) ([]:Bys) fun x1=>.ret x1 [.relab 1005 5000]
open Classical in
def Zc5(a0:Bys):Option (Bys):=if h:a0≠[] then Za2.run (Zeh a0 h) else Za2.run (Zcn 0)
theorem Zd6(a0:Bys){r:Bys}(h:Zc5 a0=some r):FnG PR 89 [] [wL cS a0] [(5000,wR cS 1 r)] (wO cS 5000 r):=by
 by_cases hne:a0=[]
 .subst hne
  have h0:Za2.run (Zcn 0)=some r:=h
  exact FnG.split0 (fun e=>absurd rfl e) (fun _ a c=>by
   cases a with
   | none=>exact Za2.fn (t:=Zcn c) h0
   | some ad=>exact Za2.fn (t:=Zn6 c ad) h0)
 .have h0:Za2.run (Zeh a0 hne)=some r:=by unfold Zc5 at h;rwa [dif_pos hne] at h
  exact FnG.split0 (fun _=>Za2.fn h0) (fun e=>absurd (List.map_eq_nil_iff.1 e) hne)
def Zd7(a0:List Zh)(hne:a0≠[]):LT Empty (List Zh):=
.ne Zl hne<|.kn [0]<|.lb 1005<|.apR Zl 176 ([]:List Zh) a0 fun x1=>.ret x1 [.relab 1005 5000]
def Za0:LF Empty (List Zh) := .z 32 [.t 2] true (fun r=>[(5000,wR Zl 20 r)]) (fun r=>(wO Zl 5000 r))
def Zcg(c:Nat):LT Empty (List Zh):=
.kn [0]<|.ret ([]:List Zh) [.own 2 5000 20]
def Zmh(c:Nat)(ad:Addr):LT Empty (List Zh):=
.kn [0]<|.lb 1005<|.apR Zl 176 ([]:List Zh) ([]:List Zh) fun x1=>.ret x1 [.relab 1005 5000]
open Classical in
def Zby(a0:List Zh):Option (List Zh):=if h:a0≠[] then Za0.run (Zd7 a0 h) else Za0.run (Zcg 0)
theorem Zfz(a0:List Zh){r:List Zh}(h:Zby a0=some r):FnG PR 32 [] [wL Zl a0] [(5000,wR Zl 20 r)] (wO Zl 5000 r):=by
 by_cases hne:a0=[]
 .subst hne
  have h0:Za0.run (Zcg 0)=some r:=h
  exact FnG.split0 (fun e=>absurd rfl e) (fun _ a c=>by
   cases a with
   | none=>exact Za0.fn (t:=Zcg c) h0
   | some ad=>exact Za0.fn (t:=Zmh c ad) h0)
 .have h0:Za0.run (Zd7 a0 hne)=some r:=by unfold Zby at h;rwa [dif_pos hne] at h
  exact FnG.split0 (fun _=>Za0.fn h0) (fun e=>absurd (List.map_eq_nil_iff.1 e) hne)
theorem Zdn(a0:List Zh){r:List Zh}(h:Zby a0=some r):Fn PR 32 [wL Zl a0] (wL Zl r):=
 FnG.frozen (C:=LT.RL Zl r/\True) (Zfz a0 h) ⟨rfl,trivial⟩ (by kernel_rfl)
def Zdc(a0:List Zat)(hne:a0≠[]):LT Empty (List Zat):=
.ne Zah hne<|.kn [0]<|.lb 1005<|.apR Zah 144 ([]:List Zat) a0 fun x1=>.ret x1 [.relab 1005 5000]
def Zau:LF Empty (List Zat) := .z 140 [.t 2] true (fun r=>[(5000,wR Zah 18 r)]) (fun r=>(wO Zah 5000 r))
def Zb4(c:Nat):LT Empty (List Zat):=
.kn [0]<|.ret ([]:List Zat) [.own 2 5000 18]
def Zlb(c:Nat)(ad:Addr):LT Empty (List Zat):=
.kn [0]<|.lb 1005<|.apR Zah 144 ([]:List Zat) ([]:List Zat) fun x1=>.ret x1 [.relab 1005 5000]
open Classical in
def Zci(a0:List Zat):Option (List Zat):=if h:a0≠[] then Zau.run (Zdc a0 h) else Zau.run (Zb4 0)
theorem Zko(a0:List Zat){r:List Zat}(h:Zci a0=some r):FnG PR 140 [] [wL Zah a0] [(5000,wR Zah 18 r)] (wO Zah 5000 r):=by
 by_cases hne:a0=[]
 .subst hne
  have h0:Zau.run (Zb4 0)=some r:=h
  exact FnG.split0 (fun e=>absurd rfl e) (fun _ a c=>by
   cases a with
   | none=>exact Zau.fn (t:=Zb4 c) h0
   | some ad=>exact Zau.fn (t:=Zlb c ad) h0)
 .have h0:Zau.run (Zdc a0 hne)=some r:=by unfold Zci at h;rwa [dif_pos hne] at h
  exact FnG.split0 (fun _=>Zau.fn h0) (fun e=>absurd (List.map_eq_nil_iff.1 e) hne)
def Zcs(a0:List Zs)(hne:a0≠[]):LT Empty (List Zs):=
.ne Zt hne<|.kn [0]<|.lb 1005<|.apR Zt 560 ([]:List Zs) a0 fun x1=>.ret x1 [.relab 1005 5000]
def Zap:LF Empty (List Zs) := .z 141 [.t 2] true (fun r=>[(5000,wR Zt 64 r)]) (fun r=>(wO Zt 5000 r))
def Zbr(c:Nat):LT Empty (List Zs):=
.kn [0]<|.ret ([]:List Zs) [.own 2 5000 64]
def Zjn(c:Nat)(ad:Addr):LT Empty (List Zs):=
.kn [0]<|.lb 1005<|.apR Zt 560 ([]:List Zs) ([]:List Zs) fun x1=>.ret x1 [.relab 1005 5000]
open Classical in
def Zb0(a0:List Zs):Option (List Zs):=if h:a0≠[] then Zap.run (Zcs a0 h) else Zap.run (Zbr 0)
theorem Zi0(a0:List Zs){r:List Zs}(h:Zb0 a0=some r):FnG PR 141 [] [wL Zt a0] [(5000,wR Zt 64 r)] (wO Zt 5000 r):=by
 by_cases hne:a0=[]
 .subst hne
  have h0:Zap.run (Zbr 0)=some r:=h
  exact FnG.split0 (fun e=>absurd rfl e) (fun _ a c=>by
   cases a with
   | none=>exact Zap.fn (t:=Zbr c) h0
   | some ad=>exact Zap.fn (t:=Zjn c ad) h0)
 .have h0:Zap.run (Zcs a0 hne)=some r:=by unfold Zb0 at h;rwa [dif_pos hne] at h
  exact FnG.split0 (fun _=>Zap.fn h0) (fun e=>absurd (List.map_eq_nil_iff.1 e) hne)
inductive Zfs where
 | L0 (E0:Ze) (E1:Ze) (v18:Int) (v19:Int)
def Zkc(E0:Ze)(E1:Ze)(v18:Int)(v19:Int):LT Zfs Ze:=
.br (decide (v19 < v18)) (.idxR Zt E0.Effects v19 fun x2=>.rl Zt E0.Effects<|.ldR Zt E0.Effects x2 2<|.call (Zdn x2.Mods) fun x4=>.plR Zt E0.Effects v19 0<|.rl Zt E0.Effects<|.setD Zt E0.Effects v19 x2 (⟨x2.Op,x2.Ref,x2.Amount,x2.Counter,x2.Zone,x2.Card,x2.Filter,x2.Pool,x4⟩:Zs) 2 63 [.sl (List.map Zl x4)] rfl fun x6=>.dr [.ahead 34,.relen 40049,.stop]<|.us [3]<|.us [3]<|.us [3]<|.us [3]<|.us [3]<|.us [3]<|.us [3]<|.g0 (.L0 (⟨E0.Kind,E0.Filter,E0.Mods,E0.Price,E0.Slow,E0.Trigger,E0.May,E0.Specs,x6,E0.Replace⟩:Ze) E1 v18 (IntKind.wrap .i64 (v19+1))))<|.ret E0 [.relab 40017 5017,.relab 40048 5048,.relab 40049 5049]
def Ztl(a0:Ze):LT Zfs Ze:=
.lb 1001<|.lb 1002<|.callF (Zfz a0.Mods) 70000 fun x1=>.callF (Zko a0.Specs) 110000 fun x3=>.callF (Zi0 a0.Effects) 150000 fun x5=>.lenO Zt x5<|.go (.L0 (⟨a0.Kind,a0.Filter,x1,a0.Price,a0.Slow,a0.Trigger,a0.May,x3,x5,a0.Replace⟩:Ze) (⟨0,(⟨0,0,0,0,0,0,0,([]:By),0,0,(⟨0,0⟩:Za),(⟨0,0⟩:Za),(⟨0,0⟩:Za)⟩:Zc),([]:List Zh),(⟨(⟨0,0,(⟨0,0,0,0,0⟩:A5 Int)⟩:Zr),false,false,0⟩:Zfq),false,(⟨0,0,(⟨0,0,0,0,0,0,0,([]:By),0,0,(⟨0,0⟩:Za),(⟨0,0⟩:Za),(⟨0,0⟩:Za)⟩:Zc)⟩:Zbx),false,([]:List Zat),([]:List Zs),(⟨0,0,(⟨0,0,0,0,0,0,0,([]:By),0,0,(⟨0,0⟩:Za),(⟨0,0⟩:Za),(⟨0,0⟩:Za)⟩:Zc),0,0,0,0⟩:Zas)⟩:Ze) (x5.length:Int) 0) [.relab 1001 3000,.relab 1002 3001,.relab 75000 40017,.relab 115000 40048,.relab 155000 40049,.ownb 3001 17 40117 20,.ownb 3001 48 40148 18,.ownb 3001 49 40149 64]
def Ztm:LF Zfs Ze := .m 90 [.c 2 89 true 72] true (fun r=>(tm18 r 5000)) (fun r=>(.agg (tm1 r 5000))) fun | .L0 E0 E1 v18 v19=>([1,1,1,1,0,1,4],⟨36,[(1,.bptr 3000 0),(2,.bptr 3001 0),(18,wI v18),(19,wI v19)],((3000,.box (tm1 E0 40000))::(40017,wR Zl 20 E0.Mods)::(40048,wR Zah 18 E0.Specs)::(40049,wR Zt 64 E0.Effects)::(3001,.box (tm1 E1 40100))::(tm18 E1 40100))⟩,Zkc E0 E1 v18 v19)
def Zjo:=fun a0=>Ztm.run (Ztl a0)
theorem Z3z(a0){r}(h:Zjo a0=some r):FnG PR 90 [] [wA (Zi a0)] (tm18 r 5000) (.agg (tm1 r 5000)):=Ztm.fn h
theorem Z5o(a0:Ze){r:Ze}(h:Zjo a0=some r):Fn PR 90 [wA (Zi a0)] (wA (Zi r)):=
 FnG.frozen (C:=LT.RL Zl r.Mods/\LT.RL Zah r.Specs/\LT.RL Zt r.Effects/\True) (Z3z a0 h) ⟨rfl,rfl,rfl,trivial⟩ (by kernel_rfl)
inductive Zio where
 | L0 (E0:Zb) (E1:Zb) (v32:List Ze) (v33:Int) (v34:Int)
def Zpu(E0:Zb)(E1:Zb)(v32:List Ze)(v33:Int)(v34:Int):LT Zio Zb:=
.br (decide (v34 < v33)) (.idx Zi v32 v34 fun x2=>.lb 1005<|.call (Z5o x2) fun x4=>.dr [.lit]<|.apR Zi 640 E1.Abilities [x4] fun x6=>.g0 (.L0 E0 (⟨E1.Name,E1.Cost,E1.Colors,E1.Line,E1.Power,E1.Tough,E1.Keys,x6,E1.Control⟩:Zb) v32 v33 (IntKind.wrap .i64 (v34+1))))<|.ret E1 [.relab 40111 5011,.relab 40115 5015]
def Z2o(a0:Zk):LT Zio Zb:=
.lb 1001<|.lb 1002<|.call (Zajb a0.Cost) fun x1=>.lb 1003<|.callF (Zd6 a0.Line.Subs) 290000 fun x3=>.len Zi a0.Abilities<|.go (.L0 (⟨([]:By),(⟨0,0,(⟨0,0,0,0,0⟩:A5 Int)⟩:Zr),0,(⟨0,0,([]:Bys)⟩:Z6),0,0,0,([]:List Ze),0⟩:Zb) (⟨a0.Name,a0.Cost,Zax .or .i64 x1 a0.Color,(⟨a0.Line.Super,a0.Line.Types,x3⟩:Z6),a0.Power,a0.Tough,a0.Keys,([]:List Ze),0⟩:Zb) a0.Abilities (a0.Abilities.length:Int) 0) [.relab 1002 3000,.relab 1003 3001,.ownb 3000 11 40011 1,.ownb 3000 15 40015 72,.relab 295000 40111,.ownb 3001 15 40115 72]
def Z2p:LF Zio Zb := .m 51 [.c 2 66 true 17] true (fun r=>[(5011,wR cS 1 r.Line.Subs),(5015,wR Zi 72 r.Abilities)]) (fun r=>(.agg (tm2 r 5000))) fun | .L0 E0 E1 v32 v33 v34=>([1,1,1,0,1,4],⟨47,[(2,.bptr 3000 0),(3,.bptr 3001 0),(32,wL Zi v32),(33,wI v33),(34,wI v34)],[(3000,.box (tm2 E0 40000)),(40011,wR cS 1 E0.Line.Subs),(40015,wR Zi 72 E0.Abilities),(3001,.box (tm2 E1 40100)),(40111,wR cS 1 E1.Line.Subs),(40115,wR Zi 72 E1.Abilities)]⟩,Zpu E0 E1 v32 v33 v34)
def Zxq:=fun a0=>Z2p.run (Z2o a0)
theorem Zac5(a0){r}(h:Zxq a0=some r):FnG PR 51 [] [wA (Zu a0)] [(5011,wR cS 1 r.Line.Subs),(5015,wR Zi 72 r.Abilities)] (.agg (tm2 r 5000)):=Z2p.fn h
inductive Zok where
 | L0 (v0:List Zk) (E0:Zf) (E1:Zb) (v5:Int)
 | L1 (E0:Zf) (E1:Zb) (E2:Zb)
def Zl1(E0:Zf)(E1:Zb)(E2:Zb):LT Zok Zb:=
.cs (E0.Zone==0) (.k4 0<|.kn [0]<|.ret (⟨E2.Name,E2.Cost,E2.Colors,E2.Line,E2.Power,E2.Tough,E2.Keys,E2.Abilities,E0.Control⟩:Zb) [.relab 40211 5011,.relab 40215 5015])<|.k4 0<|.br (E0.Zone==5) (.ret (⟨E2.Name,E2.Cost,E2.Colors,E2.Line,E2.Power,E2.Tough,E2.Keys,E2.Abilities,E0.Control⟩:Zb) [.relab 40211 5011,.relab 40215 5015])<|.ret (⟨E2.Name,E2.Cost,E2.Colors,E2.Line,E2.Power,E2.Tough,E2.Keys,E2.Abilities,E0.Owner⟩:Zb) [.relab 40211 5011,.relab 40215 5015]
def Zpv(v0:List Zk)(E0:Zf)(E1:Zb)(v5:Int):LT Zok Zb:=
.lb 1006<|.cs (decide (v5>=0)) (.k3 0<|.len Zu v0<|.k2 0<|.br (decide (v5 < (v0.length:Int))) (.idx Zu v0 v5 fun x4=>.callF (Zac5 x4) 270000 fun x6=>.jn 0 (.L1 E0 E1 x6) [.relab 1006 3002,.relab 275011 40211,.relab 275015 40215] (Zl1 E0 E1 x6))<|.jn 0 (.L1 E0 E1 (⟨([]:By),(⟨0,0,(⟨0,0,0,0,0⟩:A5 Int)⟩:Zr),0,(⟨0,0,([]:Bys)⟩:Z6),0,0,0,([]:List Ze),0⟩:Zb)) (tm16 1000 3000 40200) (Zl1 E0 E1 (⟨([]:By),(⟨0,0,(⟨0,0,0,0,0⟩:A5 Int)⟩:Zr),0,(⟨0,0,([]:Bys)⟩:Z6),0,0,0,([]:List Ze),0⟩:Zb)))<|.k5 0<|.kn [0]<|.jn 0 (.L1 E0 E1 (⟨([]:By),(⟨0,0,(⟨0,0,0,0,0⟩:A5 Int)⟩:Zr),0,(⟨0,0,([]:Bys)⟩:Z6),0,0,0,([]:List Ze),0⟩:Zb)) (tm16 1000 3000 40200) (Zl1 E0 E1 (⟨([]:By),(⟨0,0,(⟨0,0,0,0,0⟩:A5 Int)⟩:Zr),0,(⟨0,0,([]:Bys)⟩:Z6),0,0,0,([]:List Ze),0⟩:Zb))
def Zala(a0:List Zk)(a1:Zf):LT Zok Zb:=
.lb 1003<|.lb 1004<|.br (decide (a1.Copy < 0)) (.jn 0 (.L0 a0 a1 (⟨([]:By),(⟨0,0,(⟨0,0,0,0,0⟩:A5 Int)⟩:Zr),0,(⟨0,0,([]:Bys)⟩:Z6),0,0,0,([]:List Ze),0⟩:Zb) a1.Card) (tm15 1000 3000 40100) (Zpv a0 a1 (⟨([]:By),(⟨0,0,(⟨0,0,0,0,0⟩:A5 Int)⟩:Zr),0,(⟨0,0,([]:Bys)⟩:Z6),0,0,0,([]:List Ze),0⟩:Zb) a1.Card))<|.jn 0 (.L0 a0 a1 (⟨([]:By),(⟨0,0,(⟨0,0,0,0,0⟩:A5 Int)⟩:Zr),0,(⟨0,0,([]:Bys)⟩:Z6),0,0,0,([]:List Ze),0⟩:Zb) a1.Copy) (tm15 1000 3000 40100) (Zpv a0 a1 (⟨([]:By),(⟨0,0,(⟨0,0,0,0,0⟩:A5 Int)⟩:Zr),0,(⟨0,0,([]:Bys)⟩:Z6),0,0,0,([]:List Ze),0⟩:Zb) a1.Copy)
def Zalb:LF Zok Zb := .m 31 [.c 4 66 true 17] true (fun r=>[(5011,wR cS 1 r.Line.Subs),(5015,wR Zi 72 r.Abilities)]) (fun r=>(.agg (tm2 r 5000))) fun | .L0 v0 E0 E1 v5=>([1,1,1],⟨42,[(0,wL Zu v0),(3,.bptr 3000 0),(4,.bptr 3001 0),(5,wI v5)],[(3000,.box (bx (Zj E0))),(3001,.box (tm2 E1 40100)),(40111,wR cS 1 E1.Line.Subs),(40115,wR Zi 72 E1.Abilities)]⟩,Zpv v0 E0 E1 v5) | .L1 E0 E1 E2=>([1,1,1,1,1],⟨42,[(3,.bptr 3000 0),(4,.bptr 3001 0),(6,.bptr 3002 0)],[(3000,.box (bx (Zj E0))),(3001,.box (tm2 E1 40100)),(40111,wR cS 1 E1.Line.Subs),(40115,wR Zi 72 E1.Abilities),(3002,.box (tm2 E2 40200)),(40211,wR cS 1 E2.Line.Subs),(40215,wR Zi 72 E2.Abilities)]⟩,Zl1 E0 E1 E2)
def Z9g:=fun a0 a1=>Zalb.run (Zala a0 a1)
theorem Zatg(a0)(a1){r}(h:Z9g a0 a1=some r):FnG PR 31 [] [wL Zu a0,wA (Zj a1)] [(5011,wR cS 1 r.Line.Subs),(5015,wR Zi 72 r.Abilities)] (.agg (tm2 r 5000)):=Zalb.fn h
theorem Zagx(a0:List Zk)(a1:Zf){r:Zb}(h:Z9g a0 a1=some r):Fn PR 31 [wL Zu a0,wA (Zj a1)] (wA (Zg r)):=
 FnG.frozen (C:=LT.RL cS r.Line.Subs/\LT.RL Zi r.Abilities/\True) (Zatg a0 a1 h) ⟨rfl,rfl,trivial⟩ (by kernel_rfl)
def Zgh(a0:List Int)(hne:a0≠[]):LT Empty (List Int):=
.ne (cI .i64) hne<|.kn [0]<|.lb 1005<|.apR (cI .i64) 8 ([]:List Int) a0 fun x1=>.ret x1 [.relab 1005 5000]
def Zbs:LF Empty (List Int) := .z 33 [.t 2] true (fun r=>[(5000,wR (cI .i64) 1 r)]) (fun r=>(wO (cI .i64) 5000 r))
def Zd9(c:Nat):LT Empty (List Int):=
.kn [0]<|.ret ([]:List Int) [.own 2 5000 1]
def Zt7(c:Nat)(ad:Addr):LT Empty (List Int):=
.kn [0]<|.lb 1005<|.apR (cI .i64) 8 ([]:List Int) ([]:List Int) fun x1=>.ret x1 [.relab 1005 5000]
open Classical in
def Zdi(a0:List Int):Option (List Int):=if h:a0≠[] then Zbs.run (Zgh a0 h) else Zbs.run (Zd9 0)
theorem Ztn(a0:List Int){r:List Int}(h:Zdi a0=some r):FnG PR 33 [] [wL (cI .i64) a0] [(5000,wR (cI .i64) 1 r)] (wO (cI .i64) 5000 r):=by
 by_cases hne:a0=[]
 .subst hne
  have h0:Zbs.run (Zd9 0)=some r:=h
  exact FnG.split0 (fun e=>absurd rfl e) (fun _ a c=>by
   cases a with
   | none=>exact Zbs.fn (t:=Zd9 c) h0
   | some ad=>exact Zbs.fn (t:=Zt7 c ad) h0)
 .have h0:Zbs.run (Zgh a0 hne)=some r:=by unfold Zdi at h;rwa [dif_pos hne] at h
  exact FnG.split0 (fun _=>Zbs.fn h0) (fun e=>absurd (List.map_eq_nil_iff.1 e) hne)
theorem Zt8(a0:List Int){r:List Int}(h:Zdi a0=some r):Fn PR 33 [wL (cI .i64) a0] (wL (cI .i64) r):=
 FnG.frozen (C:=LT.RL (cI .i64) r/\True) (Ztn a0 h) ⟨rfl,trivial⟩ (by kernel_rfl)
inductive Ze7 where
 | L0 (v0:List Zk) (E0:Zo) (v5:List Zad) (v13:List Zf) (v14:Int) (v15:Int)
 | L1 (v0:List Zk) (E0:Zo) (v5:List Zad) (E1:Zf) (v13:List Zf) (v14:Int) (v15:Int) (v25:List Ze) (v26:Int) (v27:Int)
 | L2 (v5:List Zad) (v54:List Zb9) (v55:Int) (v56:Int)
def Zpw(v0:List Zk)(E0:Zo)(v5:List Zad)(v13:List Zf)(v14:Int)(v15:Int):LT Ze7 (List Zad):=
.br (decide (v15 < v14)) (.idx Zj v13 v15 fun x2=>.lb 1007<|.br (x2.Zone != 0) (.g0 (.L0 v0 E0 v5 v13 v14 (IntKind.wrap .i64 (v15+1))))<|.call (Zagx v0 x2) fun x7=>.len Zi x7.Abilities<|.go (.L1 v0 E0 v5 x2 v13 v14 v15 x7.Abilities (x7.Abilities.length:Int) 0) [.relab 1007 3001])<|.len Zba E0.Conts<|.g0 (.L2 v5 E0.Conts (E0.Conts.length:Int) 0)
def Zpx(v0:List Zk)(E0:Zo)(v5:List Zad)(E1:Zf)(v13:List Zf)(v14:Int)(v15:Int)(v25:List Ze)(v26:Int)(v27:Int):LT Ze7 (List Zad):=
.br (decide (v27 < v26)) (.idx Zi v25 v27 fun x2=>.lb 1009<|.br (x2.Kind==1) (.call (Zdn x2.Mods) fun x5=>.dr [.lit]<|.apR Zx 224 v5 [(⟨E1.Id,v27,E1.Control,E1.Stamp,false,([]:List Int),x2.Filter,x5⟩:Zad)] fun x7=>.g0 (.L1 v0 E0 x7 E1 v13 v14 v15 v25 v26 (IntKind.wrap .i64 (v27+1))))<|.g0 (.L1 v0 E0 v5 E1 v13 v14 v15 v25 v26 (IntKind.wrap .i64 (v27+1))))<|.g0 (.L0 v0 E0 v5 v13 v14 (IntKind.wrap .i64 (v15+1)))
def Zpy(v5:List Zad)(v54:List Zb9)(v55:Int)(v56:Int):LT Ze7 (List Zad):=
.br (decide (v56 < v55)) (.idx Zba v54 v56 fun x2=>.lb 1011<|.call (Zt8 x2.Objects) fun x4=>.call (Zdn x2.Mods) fun x6=>.dr [.lit]<|.apR Zx 224 v5 [(⟨x2.Source,-1,x2.Control,x2.Stamp,true,x4,(⟨0,0,0,0,0,0,0,([]:By),0,0,(⟨0,0⟩:Za),(⟨0,0⟩:Za),(⟨0,0⟩:Za)⟩:Zc),x6⟩:Zad)] fun x8=>.g0 (.L2 x8 v54 v55 (IntKind.wrap .i64 (v56+1))))<|.ret v5 [.relab 20005 5000]
def Z2q(a0:List Zk)(a1:Zo):LT Ze7 (List Zad):=
.lb 1003<|.len Zj a1.Objects<|.go (.L0 a0 a1 ([]:List Zad) a1.Objects (a1.Objects.length:Int) 0) [.relab 1003 3000,.own 5 20005 23]
def Z2r:LF Ze7 (List Zad) := .m 12 [.t 4] true (fun r=>[(5000,wR Zx 23 r)]) (fun r=>(wO Zx 5000 r)) fun | .L0 v0 E0 v5 v13 v14 v15=>([1,1,0,1,4],⟨78,[(0,wL Zu v0),(3,.bptr 3000 0),(5,wO Zx 20005 v5),(13,wL Zj v13),(14,wI v14),(15,wI v15)],[(3000,.box (bx (Z1 E0))),(20005,wR Zx 23 v5)]⟩,Zpw v0 E0 v5 v13 v14 v15) | .L1 v0 E0 v5 E1 v13 v14 v15 v25 v26 v27=>([1,1,0,1,4,5,1,1,0,4,1,1,1,4],⟨78,[(0,wL Zu v0),(3,.bptr 3000 0),(5,wO Zx 20005 v5),(7,.bptr 3001 0),(13,wL Zj v13),(14,wI v14),(15,wI v15),(25,wL Zi v25),(26,wI v26),(27,wI v27)],[(3000,.box (bx (Z1 E0))),(20005,wR Zx 23 v5),(3001,.box (bx (Zj E1)))]⟩,Zpx v0 E0 v5 E1 v13 v14 v15 v25 v26 v27) | .L2 v5 v54 v55 v56=>([1,1,1,0,1,4],⟨78,[(5,wO Zx 20005 v5),(54,wL Zba v54),(55,wI v55),(56,wI v56)],[(20005,wR Zx 23 v5)]⟩,Zpy v5 v54 v55 v56)
def Zpz:=fun a0 a1=>Z2r.run (Z2q a0 a1)
theorem Zac6(a0)(a1){r}(h:Zpz a0 a1=some r):FnG PR 12 [] [wL Zu a0,wA (Z1 a1)] [(5000,wR Zx 23 r)] (wO Zx 5000 r):=Z2r.fn h
theorem Zp0(a0:List Zk)(a1:Zo){r:List Zad}(h:Zpz a0 a1=some r):Fn PR 12 [wL Zu a0,wA (Z1 a1)] (wL Zx r):=
 FnG.frozen (C:=LT.RL Zx r/\True) (Zac6 a0 a1 h) ⟨rfl,trivial⟩ (by kernel_rfl)
end
end Go.PW
