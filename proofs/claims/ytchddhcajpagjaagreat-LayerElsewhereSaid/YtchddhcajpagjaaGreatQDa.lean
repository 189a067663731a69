import Derived.Test.YtchddhcajpagjaaGreatQDt
set_option linter.all false
set_option maxRecDepth 100000
namespace Go.PW
open Go.RowKit
noncomputable section
def Zabi(a0:Int):LT Empty Bool:=
.cs (decide (a0>=97)) (.k3 0<|.rt (decide (a0<=122)))<|.k3 0<|.rt false
def Zaqn:LF Empty Bool := .z0 120 [.t 2] wB
def Zaep:=fun a0=>Zaqn.run (Zabi a0)
theorem Zakp(a0){r}(h:Zaep a0=some r):Fn PR 120 [.t (.int .u8 a0)] (wB r):=Zaqn.fn h
inductive Zmq where
 | L0 (v0:By) (v3:Int)
 | L1 (v0:By) (v3:Int)
def Zka(v0:By)(v3:Int):LT Zmq Bool:=
.cs (decide (v3 > 0)) (.k3 0<|.idxS v0 v3 fun x2=>.k2 0<|.cs ((UInt8.toNat x2:Int)==45) (.k4 1<|.idxS v0 (IntKind.wrap .i64 (v3 - 1)) fun x7=>.k2 1<|.br ((UInt8.toNat x7:Int)==45) (.rt false)<|.g0 (.L0 v0 (IntKind.wrap .i64 (v3+1))))<|.k5 1<|.kg 1<|.kn [0]<|.g0 (.L0 v0 (IntKind.wrap .i64 (v3+1))))<|.k5 0<|.b5 false<|.kb false<|.kn [0]<|.g0 (.L0 v0 (IntKind.wrap .i64 (v3+1)))
def Zsc(v0:By)(v3:Int):LT Zmq Bool:=
.lenS v0<|.br (decide (v3 < (v0.length:Int))) (.idxS v0 v3 fun x3=>.call (Zakp (UInt8.toNat x3:Int)) fun x5=>.cs (!x5) (.k3 1<|.idxS v0 v3 fun x8=>.k2 1<|.cs (decide ((UInt8.toNat x8:Int) < 48)) (.k4 2<|.kg 1<|.kg 2<|.kg 1<|.b3 true<|.idxS v0 v3 fun x11=>.b2 true<|.br ((UInt8.toNat x11:Int) != 45) (.rt false)<|.j0 (.L1 v0 v3) (Zka v0 v3))<|.k3 2<|.idxS v0 v3 fun x14=>.kg 2<|.kg 1<|.kg 2<|.kg 1<|.cs (decide ((UInt8.toNat x14:Int) > 57)) (.k3 3<|.idxS v0 v3 fun x17=>.k2 3<|.br ((UInt8.toNat x17:Int) != 45) (.rt false)<|.j0 (.L1 v0 v3) (Zka v0 v3))<|.k5 3<|.kn [0]<|.j0 (.L1 v0 v3) (Zka v0 v3))<|.k5 1<|.k2 1<|.b5 false<|.kn [0]<|.j0 (.L1 v0 v3) (Zka v0 v3))<|.rt true
def Zah9(a0:By):LT Zmq Bool:=
.lenS a0<|.cs (decide ((a0.length:Int) < 1)) (.k4 0<|.b8 true<|.b4 true<|.kn [0]<|.rt false)<|.k2 0<|.lenS a0<|.k2 0<|.cs (decide ((a0.length:Int) > 32)) (.k5 1<|.b5 true<|.b2 true<|.kn [0]<|.rt false)<|.k2 1<|.idxS a0 0 fun x4=>.kg 1<|.call (Zakp (UInt8.toNat x4:Int)) fun x6=>.k2 1<|.cs (!x6) (.k5 2<|.k2 2<|.kn [0]<|.rt false)<|.k3 2<|.lenS a0<|.k2 2<|.idxS a0 (IntKind.wrap .i64 ((a0.length:Int) - 1)) fun x11=>.k2 2<|.br ((UInt8.toNat x11:Int)==45) (.rt false)<|.g0 (.L0 a0 0)
def Zu3:LF Zmq Bool := .m0 73 [.t 2] wB fun | .L0 v0 v3=>([1,1,0,1,4],⟨70,[(0,wS v0),(3,wI v3)],[]⟩,Zsc v0 v3) | .L1 v0 v3=>([1,1,0,1,4,5,1,0,4,1],⟨70,[(0,wS v0),(3,wI v3)],[]⟩,Zka v0 v3)
def Zakq:=fun a0=>Zu3.run (Zah9 a0)
theorem Zabj(a0){r}(h:Zakq a0=some r):Fn PR 73 [wS a0] (wB r):=Zu3.fn h
inductive Zmr where
 | L0 (E0:Zs) (v3:Int)
def Zoj(E0:Zs)(v3:Int):LT Zmr Bool:=
.br (decide (v3 < 5)) (.idA (Zf.int .i64) (A5.list E0.Color) v3 (bx (Zae E0)) 2 7 fun x2=>.ldC (Zf.int .i64) 29 x2 0<|.cs (decide (x2 < 0)) (.k5 1<|.kg 1<|.kn [0]<|.rt false)<|.k3 1<|.idA (Zf.int .i64) (A5.list E0.Color) v3 (bx (Zae E0)) 2 7 fun x5=>.kg 1<|.ldC (Zf.int .i64) 35 x5 1<|.k2 1<|.br (decide (x5 > 9)) (.rt false)<|.g0 (.L0 E0 (IntKind.wrap .i64 (v3+1))))<|.rt true
def Zaia(a0:Zs):LT Zmr Bool:=
.lb 1001<|.cs (decide (a0.Generic < 0)) (.k4 0<|.b8 true<|.kn [0]<|.rt false)<|.k4 0<|.cs (decide (a0.Generic > 99)) (.k4 1<|.b4 true<|.kn [0]<|.rt false)<|.k4 1<|.cs (decide (a0.X < 0)) (.k4 2<|.kn [0]<|.rt false)<|.k4 2<|.br (decide (a0.X > 2)) (.rt false)<|.go (.L0 a0 0) [.relab 1001 3000]
def Zkq:LF Zmr Bool := .m0 74 [.t 2] wB fun | .L0 E0 v3=>([1,1,0,1,4],⟨38,[(1,.bptr 3000 0),(3,wI v3)],[(3000,.box (bx (Zae E0)))]⟩,Zoj E0 v3)
def Z59:=fun a0=>Zkq.run (Zaia a0)
theorem Zwn(a0){r}(h:Z59 a0=some r):Fn PR 74 [wA (Zae a0)] (wB r):=Zkq.fn h
def Z0m:LT Empty (Bys):=
.lb 1001<|.ret [([98,97,115,105,99]:By),([117,110,105,113,117,101]:By)] [.relab 1001 5000]
def Z0n:LF Empty (Bys) := .z 169 [.t 0] true (fun r=>[(5000,wR cS 1 r)]) (fun r=>(wO cS 5000 r))
def Zpl:=Z0n.run (Z0m)
theorem Zabk{r}(h:Zpl=some r):FnG PR 169 [] [] [(5000,wR cS 1 r)] (wO cS 5000 r):=Z0n.fn h
theorem Zaev{r:Bys}(h:Zpl=some r):Fn PR 169 [] (wL cS r):=
 FnG.frozen (C:=LT.RL cS r/\True) (Zabk h) ⟨rfl,trivial⟩ (by kernel_rfl)
inductive Zqo where
 | L0 (v0:Bys) (v1:By) (v5:Int)
def Zlb(v0:Bys)(v1:By)(v5:Int):LT Zqo Int:=
.len cS v0<|.br (decide (v5 < (v0.length:Int))) (.idx cS v0 v5 fun x3=>.br (x3==v1) (.rt v5)<|.g0 (.L0 v0 v1 (IntKind.wrap .i64 (v5+1))))<|.rt (-1)
def Z4w(a0:Bys)(a1:By):LT Zqo Int:=
.g0 (.L0 a0 a1 0)
def Zv2:LF Zqo Int := .m0 168 [.t 4] wI fun | .L0 v0 v1 v5=>([1,0,1,4],⟨19,[(0,wL cS v0),(1,wS v1),(5,wI v5)],[]⟩,Zlb v0 v1 v5)
def Z2q:=fun a0 a1=>Zv2.run (Z4w a0 a1)
theorem Z0o(a0)(a1){r}(h:Z2q a0 a1=some r):Fn PR 168 [wL cS a0,wS a1] (wI r):=Zv2.fn h
def Z2r:LT Empty (Bys):=
.lb 1001<|.ret [([99,114,101,97,116,117,114,101]:By),([105,110,115,116,97,110,116]:By),([114,105,116,117,97,108]:By),([114,101,108,105,99]:By),([99,104,97,114,109]:By),([108,97,110,100]:By)] [.relab 1001 5000]
def Z2s:LF Empty (Bys) := .z 170 [.t 0] true (fun r=>[(5000,wR cS 1 r)]) (fun r=>(wO cS 5000 r))
def Zrj:=Z2s.run (Z2r)
theorem Zaew{r}(h:Zrj=some r):FnG PR 170 [] [] [(5000,wR cS 1 r)] (wO cS 5000 r):=Z2s.fn h
theorem Z0p{r:Bys}(h:Zrj=some r):Fn PR 170 [] (wL cS r):=
 FnG.frozen (C:=LT.RL cS r/\True) (Zaew h) ⟨rfl,trivial⟩ (by kernel_rfl)
def Z4x(a0:By):LT Empty Bool:=
.call (Zabj a0) fun x1=>.cs x1 (.kg 0<|.call (Zaev) fun x4=>.k2 0<|.call (Z0o x4 a0) fun x6=>.k2 0<|.cs (decide (x6 < 0)) (.kg 1<|.call (Z0p) fun x9=>.k2 1<|.call (Z0o x9 a0) fun x11=>.k2 1<|.rt (decide (x11 < 0)))<|.k5 1<|.rt false)<|.k5 0<|.b5 false<|.rt false
def Zafh:LF Empty Bool := .z0 121 [.t 2] wB
def Z2t:=fun a0=>Zafh.run (Z4x a0)
theorem Z0q(a0){r}(h:Z2t a0=some r):Fn PR 121 [wS a0] (wB r):=Zafh.fn h
inductive Zwo where
 | L0 (v0:Int) (v1:Int) (v5:Int)
def Zakr(v0:Int)(v1:Int)(v5:Int):LT Zwo Bool:=
.br (decide (v5 < v1)) (.dc ((2:Int)≠0) rfl<|.g0 (.L0 (Zqc .i64 v0 2) v1 (IntKind.wrap .i64 (v5+1))))<|.dc ((2:Int)≠0) rfl<|.rt ((Int.tmod v0 2)==1)
def Zaqo(a0:Int)(a1:Int):LT Zwo Bool:=
.g0 (.L0 a0 a1 0)
def Zabl:LF Zwo Bool := .m0 122 [.t 4] wB fun | .L0 v0 v1 v5=>([1,0,1,4],⟨16,[(0,wI v0),(1,wI v1),(5,wI v5)],[]⟩,Zakr v0 v1 v5)
def Za0v:=fun a0 a1=>Zabl.run (Zaqo a0 a1)
theorem Z77(a0)(a1){r}(h:Za0v a0 a1=some r):Fn PR 122 [wI a0,wI a1] (wB r):=Zabl.fn h
inductive Z0r where
 | L0 (E0:Zab) (v3:Int)
def Zaqp(E0:Zab)(v3:Int):LT Z0r Bool:=
.len cS E0.Subs<|.br (decide (v3 < (E0.Subs.length:Int))) (.idx cS E0.Subs v3 fun x3=>.call (Z0q x3) fun x5=>.cs (!x5) (.k5 1<|.kn [0]<|.rt false)<|.k3 1<|.cs (decide (v3 > 0)) (.k5 2<|.idx cS E0.Subs (IntKind.wrap .i64 (v3 - 1)) fun x11=>.k5 2<|.ag cS x3 0<|.k2 2<|.kg 1<|.kg 2<|.kg 1<|.br (!(Op.bytesLess x11 x3)) (.rt false)<|.g0 (.L0 E0 (IntKind.wrap .i64 (v3+1))))<|.k8 2<|.k4 2<|.kg 1<|.kg 2<|.kg 1<|.kn [0]<|.g0 (.L0 E0 (IntKind.wrap .i64 (v3+1))))<|.cs (E0.Types==2) (.k4 1<|.b5 true<|.b2 true<|.rt true)<|.k4 1<|.cs (E0.Types==4) (.k5 2<|.k2 2<|.rt true)<|.k3 2<|.call (Z77 E0.Types 1) fun x20=>.k2 2<|.cs (!x20) (.k3 3<|.call (Z77 E0.Types 2) fun x23=>.kg 3<|.kg 2<|.kg 3<|.kg 2<|.rt (!x23))<|.k4 3<|.kg 2<|.kg 3<|.kg 2<|.rt false
def Zau6(a0:Zab):LT Z0r Bool:=
.lb 1001<|.cs (decide (a0.Super < 0)) (.k4 0<|.b8 true<|.b5 true<|.kn [0]<|.rt false)<|.k4 0<|.cs (decide (a0.Super > 3)) (.k4 1<|.b8 true<|.kb true<|.kn [0]<|.rt false)<|.k4 1<|.cs (decide (a0.Types < 1)) (.k4 2<|.b5 true<|.kn [0]<|.rt false)<|.k4 2<|.cs (decide (a0.Types > 63)) (.k5 3<|.kn [0]<|.rt false)<|.k3 3<|.len cS a0.Subs<|.k2 3<|.br (decide ((a0.Subs.length:Int) > 4)) (.rt false)<|.go (.L0 a0 0) [.relab 1001 3000]
def Zaib:LF Z0r Bool := .m0 75 [.t 2] wB fun | .L0 E0 v3=>([1,1,0,1,4],⟨80,[(1,.bptr 3000 0),(3,wI v3)],[(3000,.box (bx (Zhk E0)))]⟩,Zaqp E0 v3)
def Za44:=fun a0=>Zaib.run (Zau6 a0)
theorem Za45(a0){r}(h:Za44 a0=some r):Fn PR 75 [wA (Zhk a0)] (wB r):=Zaib.fn h
def Zau7(a0:Int):LT Empty Bool:=
.cs (decide (a0>=0)) (.k3 0<|.rt (decide (a0<=131071)))<|.k3 0<|.rt false
def Zau8:LF Empty Bool := .z0 76 [.t 2] wB
def Za46:=fun a0=>Zau8.run (Zau7 a0)
theorem Zaqq(a0){r}(h:Za46 a0=some r):Fn PR 76 [wI a0] (wB r):=Zau8.fn h
def Z6a(a0:Zk):LT Empty Bool:=
.lb 1001<|.rt ((Za6 .and .i64 a0.Line.Types 1) != 0)
def Z6b:LF Empty Bool := .z0 77 [.t 2] wB
def Zabm:=fun a0=>Z6b.run (Z6a a0)
theorem Zaks(a0){r}(h:Zabm a0=some r):Fn PR 77 [wA (Zz a0)] (wB r):=Z6b.fn h
inductive Zqp where
 | L0 (v0:Int) (v1:Int) (v7:Int)
def Zlc(v0:Int)(v1:Int)(v7:Int):LT Zqp Bool:=
.br (decide (v7 < 6)) (.dc ((2:Int)≠0) rfl<|.cs ((Int.tmod v0 2)==1) (.k2 1<|.dc ((2:Int)≠0) rfl<|.k2 1<|.br ((Int.tmod v1 2)==1) (.rt false)<|.dc ((2:Int)≠0) rfl<|.dc ((2:Int)≠0) rfl<|.g0 (.L0 (Zqc .i64 v0 2) (Zqc .i64 v1 2) (IntKind.wrap .i64 (v7+1))))<|.k4 1<|.kn [0]<|.dc ((2:Int)≠0) rfl<|.dc ((2:Int)≠0) rfl<|.g0 (.L0 (Zqc .i64 v0 2) (Zqc .i64 v1 2) (IntKind.wrap .i64 (v7+1))))<|.rt true
def Z4y(a0:Int)(a1:Int)(a2:Int):LT Zqp Bool:=
.cs (decide (a0 < 0)) (.k4 0<|.b5 true<|.b2 true<|.kn [0]<|.rt false)<|.k4 0<|.cs (decide (a0 > a2)) (.k3 1<|.b4 true<|.kn [0]<|.rt false)<|.k3 1<|.cs (decide (a1 < 0)) (.k4 2<|.kn [0]<|.rt false)<|.k4 2<|.br (decide (a1 > a2)) (.rt false)<|.g0 (.L0 a0 a1 0)
def Znq:LF Zqp Bool := .m0 171 [.t 6] wB fun | .L0 v0 v1 v7=>([1,1,0,1,4],⟨40,[(0,wI v0),(1,wI v1),(7,wI v7)],[]⟩,Zlc v0 v1 v7)
def Z2u:=fun a0 a1 a2=>Znq.run (Z4y a0 a1 a2)
theorem Zabn(a0)(a1)(a2){r}(h:Z2u a0 a1 a2=some r):Fn PR 171 [wI a0,wI a1,wI a2] (wB r):=Znq.fn h
def Z4z(a0:Zb):LT Empty Bool:=
.lb 1001<|.cs (decide (a0.Kind < 0)) (.k4 0<|.b8 true<|.kn [0]<|.rt false)<|.k4 0<|.cs (decide (a0.Kind > 3)) (.k4 1<|.b4 true<|.kn [0]<|.rt false)<|.k4 1<|.cs (decide (a0.N < 0)) (.k4 2<|.kn [0]<|.rt false)<|.k4 2<|.br (decide (a0.N > 1000000)) (.rt false)<|.cs (a0.Kind != 0) (.k4 4<|.rt true)<|.k4 4<|.rt (a0.N==0)
def Zafi:LF Empty Bool := .z0 172 [.t 2] wB
def Z2v:=fun a0=>Zafi.run (Z4z a0)
theorem Z0s(a0){r}(h:Z2v a0=some r):Fn PR 172 [wA (Zb4 a0)] (wB r):=Zafi.fn h
inductive Z0t where
 | L0 (E0:Zd)
def Zok(E0:Zd):LT Z0t Bool:=
.call (Z0s E0.Power) fun x1=>.cs x1 (.k3 0<|.call (Z0s E0.Tough) fun x4=>.kg 0<|.cs x4 (.k3 1<|.call (Z0s E0.Value) fun x7=>.kg 1<|.rt x7)<|.k4 1<|.rt false)<|.k4 0<|.b4 false<|.rt false
def Zaic(a0:Zd):LT Z0t Bool:=
.lb 1001<|.cs (decide (a0.Zone < 0)) (.k4 0<|.b16 true<|.b8 true<|.kn [0]<|.rt false)<|.k4 0<|.cs (decide (a0.Zone > 5)) (.k4 1<|.b16 true<|.b4 true<|.kn [0]<|.rt false)<|.k4 1<|.cs (decide (a0.Who < 0)) (.k4 2<|.b16 true<|.kn [0]<|.rt false)<|.k4 2<|.cs (decide (a0.Who > 2)) (.k4 3<|.b8 true<|.b4 true<|.kn [0]<|.rt false)<|.k4 3<|.cs (decide (a0.Self < 0)) (.k4 4<|.b8 true<|.kn [0]<|.rt false)<|.k4 4<|.cs (decide (a0.Self > 2)) (.k4 5<|.b4 true<|.kn [0]<|.rt false)<|.k4 5<|.cs (decide (a0.Tap < 0)) (.k4 6<|.kn [0]<|.rt false)<|.k4 6<|.br (decide (a0.Tap > 2)) (.rt false)<|.call (Zabn a0.Types a0.NotTypes 63) fun x9=>.cs (!x9) (.k5 8<|.k2 8<|.kn [0]<|.rt false)<|.k5 8<|.call (Zabn a0.Colors a0.NotColors 31) fun x12=>.k2 8<|.br (!x12) (.rt false)<|.cs (!(a0.Sub==([]:By))) (.k3 10<|.call (Z0q a0.Sub) fun x16=>.k2 10<|.cs (!x16) (.k4 11<|.b4 true<|.kn [0]<|.rt false)<|.k4 11<|.cs (decide (a0.Keys < 0)) (.k4 12<|.kn [0]<|.rt false)<|.k4 12<|.br (decide (a0.Keys > 131071)) (.rt false)<|.jn 0 (.L0 a0) [.relab 1001 3000] (Zok a0))<|.k5 10<|.b4 false<|.cs (decide (a0.Keys < 0)) (.k4 11<|.kn [0]<|.rt false)<|.k4 11<|.br (decide (a0.Keys > 131071)) (.rt false)<|.jn 0 (.L0 a0) [.relab 1001 3000] (Zok a0)
def Zaid:LF Z0t Bool := .m0 123 [.t 2] wB fun | .L0 E0=>([1,1,1,1],⟨87,[(1,.bptr 3000 0)],[(3000,.box (bx (Zo E0)))]⟩,Zok E0)
def Zabo:=fun a0=>Zaid.run (Zaic a0)
theorem Zhr(a0){r}(h:Zabo a0=some r):Fn PR 123 [wA (Zo a0)] (wB r):=Zaid.fn h
inductive Zpm where
 | L0 (E0:Zi) (E1:Zi) (v7:Int) (v8:Bool)
 | L1 (E0:Zi) (E1:Zi) (v7:Int) (v16:Bool)
def Zqq(E0:Zi)(E1:Zi)(v7:Int)(v16:Bool):LT Zpm Zi:=
.br v16 (.rt (⟨E0.Kind,E0.N,E0.M,([]:By),E0.Filter⟩:Zi))<|.br (v7==11) (.rt (⟨E0.Kind,E0.N,E0.M,E0.Sub,(⟨0,0,0,0,0,0,0,([]:By),0,0,(⟨0,0⟩:Zb),(⟨0,0⟩:Zb),(⟨0,0⟩:Zb)⟩:Zd)⟩:Zi))<|.br (v7==12) (.kn [3]<|.rt (⟨E0.Kind,0,0,E0.Sub,E0.Filter⟩:Zi))<|.br (v7==13) (.rt (⟨E0.Kind,0,0,E0.Sub,E0.Filter⟩:Zi))<|.rt E0
def Zhl(E0:Zi)(E1:Zi)(v7:Int)(v8:Bool):LT Zpm Zi:=
.br v8 (.rt (⟨E0.Kind,0,E0.M,E0.Sub,E0.Filter⟩:Zi))<|.br (v7==4) (.j0 (.L1 E0 E1 v7 (v7==4)) (Zqq E0 E1 v7 (v7==4)))<|.j0 (.L1 E0 E1 v7 (v7==5)) (Zqq E0 E1 v7 (v7==5))
def Zakt(a0:Zi):LT Zpm Zi:=
.lb 1001<|.lb 1002<|.br (a0.Kind==2) (.jn 0 (.L0 (⟨0,a0.N,a0.M,a0.Sub,a0.Filter⟩:Zi) (⟨0,0,0,([]:By),(⟨0,0,0,0,0,0,0,([]:By),0,0,(⟨0,0⟩:Zb),(⟨0,0⟩:Zb),(⟨0,0⟩:Zb)⟩:Zd)⟩:Zi) a0.Kind (a0.Kind==2)) [.relab 1001 3000,.relab 1002 3001] (Zhl (⟨0,a0.N,a0.M,a0.Sub,a0.Filter⟩:Zi) (⟨0,0,0,([]:By),(⟨0,0,0,0,0,0,0,([]:By),0,0,(⟨0,0⟩:Zb),(⟨0,0⟩:Zb),(⟨0,0⟩:Zb)⟩:Zd)⟩:Zi) a0.Kind (a0.Kind==2)))<|.br (a0.Kind==3) (.jn 0 (.L0 (⟨0,a0.N,a0.M,a0.Sub,a0.Filter⟩:Zi) (⟨0,0,0,([]:By),(⟨0,0,0,0,0,0,0,([]:By),0,0,(⟨0,0⟩:Zb),(⟨0,0⟩:Zb),(⟨0,0⟩:Zb)⟩:Zd)⟩:Zi) a0.Kind (a0.Kind==3)) [.relab 1001 3000,.relab 1002 3001] (Zhl (⟨0,a0.N,a0.M,a0.Sub,a0.Filter⟩:Zi) (⟨0,0,0,([]:By),(⟨0,0,0,0,0,0,0,([]:By),0,0,(⟨0,0⟩:Zb),(⟨0,0⟩:Zb),(⟨0,0⟩:Zb)⟩:Zd)⟩:Zi) a0.Kind (a0.Kind==3)))<|.br (a0.Kind==6) (.jn 0 (.L0 (⟨0,a0.N,a0.M,a0.Sub,a0.Filter⟩:Zi) (⟨0,0,0,([]:By),(⟨0,0,0,0,0,0,0,([]:By),0,0,(⟨0,0⟩:Zb),(⟨0,0⟩:Zb),(⟨0,0⟩:Zb)⟩:Zd)⟩:Zi) a0.Kind (a0.Kind==6)) [.relab 1001 3000,.relab 1002 3001] (Zhl (⟨0,a0.N,a0.M,a0.Sub,a0.Filter⟩:Zi) (⟨0,0,0,([]:By),(⟨0,0,0,0,0,0,0,([]:By),0,0,(⟨0,0⟩:Zb),(⟨0,0⟩:Zb),(⟨0,0⟩:Zb)⟩:Zd)⟩:Zi) a0.Kind (a0.Kind==6)))<|.br (a0.Kind==7) (.jn 0 (.L0 (⟨0,a0.N,a0.M,a0.Sub,a0.Filter⟩:Zi) (⟨0,0,0,([]:By),(⟨0,0,0,0,0,0,0,([]:By),0,0,(⟨0,0⟩:Zb),(⟨0,0⟩:Zb),(⟨0,0⟩:Zb)⟩:Zd)⟩:Zi) a0.Kind (a0.Kind==7)) [.relab 1001 3000,.relab 1002 3001] (Zhl (⟨0,a0.N,a0.M,a0.Sub,a0.Filter⟩:Zi) (⟨0,0,0,([]:By),(⟨0,0,0,0,0,0,0,([]:By),0,0,(⟨0,0⟩:Zb),(⟨0,0⟩:Zb),(⟨0,0⟩:Zb)⟩:Zd)⟩:Zi) a0.Kind (a0.Kind==7)))<|.br (a0.Kind==8) (.jn 0 (.L0 (⟨0,a0.N,a0.M,a0.Sub,a0.Filter⟩:Zi) (⟨0,0,0,([]:By),(⟨0,0,0,0,0,0,0,([]:By),0,0,(⟨0,0⟩:Zb),(⟨0,0⟩:Zb),(⟨0,0⟩:Zb)⟩:Zd)⟩:Zi) a0.Kind (a0.Kind==8)) [.relab 1001 3000,.relab 1002 3001] (Zhl (⟨0,a0.N,a0.M,a0.Sub,a0.Filter⟩:Zi) (⟨0,0,0,([]:By),(⟨0,0,0,0,0,0,0,([]:By),0,0,(⟨0,0⟩:Zb),(⟨0,0⟩:Zb),(⟨0,0⟩:Zb)⟩:Zd)⟩:Zi) a0.Kind (a0.Kind==8)))<|.jn 0 (.L0 (⟨0,a0.N,a0.M,a0.Sub,a0.Filter⟩:Zi) (⟨0,0,0,([]:By),(⟨0,0,0,0,0,0,0,([]:By),0,0,(⟨0,0⟩:Zb),(⟨0,0⟩:Zb),(⟨0,0⟩:Zb)⟩:Zd)⟩:Zi) a0.Kind (a0.Kind==9)) [.relab 1001 3000,.relab 1002 3001] (Zhl (⟨0,a0.N,a0.M,a0.Sub,a0.Filter⟩:Zi) (⟨0,0,0,([]:By),(⟨0,0,0,0,0,0,0,([]:By),0,0,(⟨0,0⟩:Zb),(⟨0,0⟩:Zb),(⟨0,0⟩:Zb)⟩:Zd)⟩:Zi) a0.Kind (a0.Kind==9))
def Zaku:LF Zpm Zi := .m0 185 [.c 2 79 true 20] (fun r=>(wA (Zm r))) fun | .L0 E0 E1 v7 v8=>([1,1,1,0,1,4,1],⟨30,[(1,.bptr 3000 0),(2,.bptr 3001 0),(7,wI v7),(8,wB v8)],[(3000,.box (bx (Zm E0))),(3001,.box (bx (Zm E1)))]⟩,Zhl E0 E1 v7 v8) | .L1 E0 E1 v7 v16=>([1,1,1,0,1,4,1,3,1],⟨30,[(1,.bptr 3000 0),(2,.bptr 3001 0),(7,wI v7),(16,wB v16)],[(3000,.box (bx (Zm E0))),(3001,.box (bx (Zm E1)))]⟩,Zqq E0 E1 v7 v16)
def Zau9:=fun a0=>Zaku.run (Zakt a0)
theorem Zay8(a0){r}(h:Zau9 a0=some r):Fn PR 185 [wA (Zm a0)] (wA (Zm r)):=Zaku.fn h
def Zafj(a0:Int):LT Empty Bool:=
.cs (decide (a0>=1)) (.k3 0<|.cs (decide (a0<=63)) (.k4 1<|.rt ((Za6 .and .i64 a0 6)==0))<|.k4 1<|.rt false)<|.k3 0<|.b4 false<|.rt false
def Zafk:LF Empty Bool := .z0 186 [.t 2] wB
def Zaqr:=fun a0=>Zafk.run (Zafj a0)
theorem Zava(a0){r}(h:Zaqr a0=some r):Fn PR 186 [wI a0] (wB r):=Zafk.fn h
inductive Zru where
 | L0 (E0:Zi) (v18:Int) (v19:Bool)
 | L1 (E0:Zi) (v18:Int) (v25:Bool)
 | L2 (E0:Zi) (v18:Int) (v51:Bool)
def Zwp(E0:Zi)(v18:Int)(v51:Bool):LT Zru Bool:=
.br v51 (.cs (decide (E0.N>=1)) (.k4 1<|.rt (decide (E0.N<=131071)))<|.k4 1<|.rt false)<|.br (v18==11) (.call (Zhr E0.Filter) fun x4=>.rt x4)<|.br (v18==12) (.cs (decide (E0.N>=0)) (.k4 3<|.cs (decide (E0.N<=99)) (.k4 4<|.cs (decide (E0.M>=0)) (.k4 5<|.rt (decide (E0.M<=99)))<|.k4 5<|.rt false)<|.k4 4<|.b4 false<|.rt false)<|.k4 3<|.b8 false<|.rt false)<|.br (v18==13) (.cs (decide (E0.N>=(-99))) (.k4 4<|.cs (decide (E0.N<=99)) (.k4 5<|.cs (decide (E0.M>=(-99))) (.k4 6<|.rt (decide (E0.M<=99)))<|.k4 6<|.rt false)<|.k4 5<|.b4 false<|.rt false)<|.k4 4<|.b8 false<|.rt false)<|.rt true
def Zwq(E0:Zi)(v18:Int)(v25:Bool):LT Zru Bool:=
.br v25 (.call (Z0q E0.Sub) fun x2=>.rt x2)<|.br (v18==6) (.cs (decide (E0.N>=0)) (.k4 2<|.rt (decide (E0.N<=31)))<|.k4 2<|.rt false)<|.br (v18==7) (.cs (decide (E0.N>=1)) (.k4 3<|.rt (decide (E0.N<=31)))<|.k4 3<|.rt false)<|.br (v18==8) (.j0 (.L2 E0 v18 (v18==8)) (Zwp E0 v18 (v18==8)))<|.j0 (.L2 E0 v18 (v18==9)) (Zwp E0 v18 (v18==9))
def Zwr(E0:Zi)(v18:Int)(v19:Bool):LT Zru Bool:=
.br v19 (.call (Zava E0.N) fun x2=>.rt x2)<|.br (v18==4) (.j0 (.L1 E0 v18 (v18==4)) (Zwq E0 v18 (v18==4)))<|.j0 (.L1 E0 v18 (v18==5)) (Zwq E0 v18 (v18==5))
def Zavb(a0:Zi):LT Zru Bool:=
.lb 1001<|.cs (decide (a0.Kind < 1)) (.k4 0<|.b5 true<|.kn [0]<|.rt false)<|.k4 0<|.cs (decide (a0.Kind > 14)) (.k5 1<|.kn [0]<|.rt false)<|.k2 1<|.call (Zay8 a0) fun x3=>.k3 1<|.br (!(Z5 (Zm x3) (Zm (⟨0,0,0,([]:By),(⟨0,0,0,0,0,0,0,([]:By),0,0,(⟨0,0⟩:Zb),(⟨0,0⟩:Zb),(⟨0,0⟩:Zb)⟩:Zd)⟩:Zi)))) (.rt false)<|.br (a0.Kind==2) (.jn 0 (.L0 a0 a0.Kind (a0.Kind==2)) [.relab 1001 3000] (Zwr a0 a0.Kind (a0.Kind==2)))<|.jn 0 (.L0 a0 a0.Kind (a0.Kind==3)) [.relab 1001 3000] (Zwr a0 a0.Kind (a0.Kind==3))
def Zavc:LF Zru Bool := .m0 137 [.t 2] wB fun | .L0 E0 v18 v19=>([1,1,0,1,4,1],⟨107,[(1,.bptr 3000 0),(18,wI v18),(19,wB v19)],[(3000,.box (bx (Zm E0)))]⟩,Zwr E0 v18 v19) | .L1 E0 v18 v25=>([1,1,0,1,4,1,3,1],⟨107,[(1,.bptr 3000 0),(18,wI v18),(25,wB v25)],[(3000,.box (bx (Zm E0)))]⟩,Zwq E0 v18 v25) | .L2 E0 v18 v51=>([1,1,0,1,4,1,3,1,3,1,3,1,3,1],⟨107,[(1,.bptr 3000 0),(18,wI v18),(51,wB v51)],[(3000,.box (bx (Zm E0)))]⟩,Zwp E0 v18 v51)
def Za47:=fun a0=>Zavc.run (Zavb a0)
theorem Zaqs(a0){r}(h:Za47 a0=some r):Fn PR 137 [wA (Zm a0)] (wB r):=Zavc.fn h
inductive Zol where
 | L0 (v0:Bys) (v1:Int) (v2:By) (v7:By) (v8:Int)
def Z9a(v0:Bys)(v1:Int)(v2:By)(v7:By)(v8:Int):LT Zol (By):=
.len cS v0<|.br (decide (v8 < (v0.length:Int))) (.call (Z77 v1 v8) fun x3=>.br x3 (.br (!(v7==([]:By))) (.ok (v7.length+v2.length<=9223372036854775807)<|.idx cS v0 v8 fun x10=>.ok ((v7++v2).length+x10.length<=9223372036854775807)<|.g0 (.L0 v0 v1 v2 ((v7++v2)++x10) (IntKind.wrap .i64 (v8+1))))<|.idx cS v0 v8 fun x17=>.ok (v7.length+x17.length<=9223372036854775807)<|.g0 (.L0 v0 v1 v2 (v7++x17) (IntKind.wrap .i64 (v8+1))))<|.g0 (.L0 v0 v1 v2 v7 (IntKind.wrap .i64 (v8+1))))<|.rt v7
def Zabp(a0:Bys)(a1:Int)(a2:By):LT Zol (By):=
.g0 (.L0 a0 a1 a2 ([]:By) 0)
def Z0u:LF Zol (By) := .m0 231 [.t 6] wS fun | .L0 v0 v1 v2 v7 v8=>([1,1,0,1,4],⟨30,[(0,wL cS v0),(1,wI v1),(2,wS v2),(7,wS v7),(8,wI v8)],[]⟩,Z9a v0 v1 v2 v7 v8)
def Zakv:=fun a0 a1 a2=>Z0u.run (Zabp a0 a1 a2)
theorem Zarv(a0)(a1)(a2){r}(h:Zakv a0 a1 a2=some r):Fn PR 231 [wL cS a0,wI a1,wS a2] (wS r):=Z0u.fn h
def Z2w(a0:Int):LT Empty (By):=
.cs (decide (a0 < 1)) (.k3 0<|.kn [0]<|.rt ([]:By))<|.k3 0<|.br (decide (a0 > 63)) (.rt ([]:By))<|.call (Z0p) fun x3=>.call (Zarv x3 a0 ([43]:By)) fun x5=>.rt x5
def Z2x:LF Empty (By) := .z0 187 [.t 2] wS
def Z9b:=fun a0=>Z2x.run (Z2w a0)
theorem Zrv(a0){r}(h:Z9b a0=some r):Fn PR 187 [wI a0] (wS r):=Z2x.fn h
def Zavd(a0:Int):LT Empty Bool:=
.cs (decide (a0>=0)) (.k3 0<|.rt (decide (a0<=31)))<|.k3 0<|.rt false
def Zave:LF Empty Bool := .z0 232 [.t 2] wB
def Za48:=fun a0=>Zave.run (Zavd a0)
theorem Za49(a0){r}(h:Za48 a0=some r):Fn PR 232 [wI a0] (wB r):=Zave.fn h
def Zakw(a0:Int):LT Empty (By):=
.br (a0==0) (.rt ([97,109,98,101,114]:By))<|.br (a0==1) (.rt ([99,111,98,97,108,116]:By))<|.br (a0==2) (.rt ([106,101,116]:By))<|.br (a0==3) (.rt ([114,117,98,121]:By))<|.br (a0==4) (.rt ([101,109,101,114,97,108,100]:By))<|.rt ([]:By)
def Zakx:LF Empty (By) := .z0 233 [.t 2] wS
def Zavf:=fun a0=>Zakx.run (Zakw a0)
theorem Zv3(a0){r}(h:Zavf a0=some r):Fn PR 233 [wI a0] (wS r):=Zakx.fn h
inductive Zs8 where
 | L0 (v0:Int) (v3:By) (v4:Int)
def Zafl(v0:Int)(v3:By)(v4:Int):LT Zs8 (By):=
.br (decide (v4 < 5)) (.ok (¬ v4 < 0)<|.ok ((Z0j .i64 1 v4)≠0)<|.dc ((2:Int)≠0) rfl<|.br ((Int.tmod (Zqc .i64 v0 (Z0j .i64 1 v4)) 2)==1) (.br (!(v3==([]:By))) (.ok (v3.length+([43]:By).length<=9223372036854775807)<|.call (Zv3 v4) fun x10=>.ok ((v3++([43]:By)).length+x10.length<=9223372036854775807)<|.g0 (.L0 v0 ((v3++([43]:By))++x10) (IntKind.wrap .i64 (v4+1))))<|.call (Zv3 v4) fun x17=>.ok (v3.length+x17.length<=9223372036854775807)<|.g0 (.L0 v0 (v3++x17) (IntKind.wrap .i64 (v4+1))))<|.g0 (.L0 v0 v3 (IntKind.wrap .i64 (v4+1))))<|.rt v3
def Zaky(a0:Int):LT Zs8 (By):=
.call (Za49 a0) fun x1=>.br (!x1) (.rt ([]:By))<|.br (a0==0) (.rt ([110,111,110,101]:By))<|.g0 (.L0 a0 ([]:By) 0)
def Z78:LF Zs8 (By) := .m0 188 [.t 2] wS fun | .L0 v0 v3 v4=>([1,1,1,1,0,1,4],⟨29,[(0,wI v0),(3,wS v3),(4,wI v4)],[]⟩,Zafl v0 v3 v4)
def Zavg:=fun a0=>Z78.run (Zaky a0)
theorem Zafm(a0){r}(h:Zavg a0=some r):Fn PR 188 [wI a0] (wS r):=Z78.fn h
def Zafn:LT Empty (Bys):=
.lb 1001<|.ret [([102,108,121,105,110,103]:By),([114,101,97,99,104]:By),([104,97,115,116,101]:By),([118,105,103,105,108,97,110,116]:By),([116,114,97,109,112,108,101]:By),([102,105,114,115,116,45,115,116,114,105,107,101]:By),([100,111,117,98,108,101,45,115,116,114,105,107,101]:By),([100,101,97,100,108,121]:By),([108,105,102,101,108,105,110,107]:By),([109,101,110,97,99,101]:By),([100,101,102,101,110,100,101,114]:By),([119,97,114,100,101,100]:By),([115,116,117,114,100,121]:By),([101,108,117,115,105,118,101]:By),([110,111,45,97,116,116,97,99,107]:By),([110,111,45,98,108,111,99,107]:By),([109,117,115,116,45,97,116,116,97,99,107]:By)] [.relab 1001 5000]
def Zafo:LF Empty (Bys) := .z 261 [.t 0] true (fun r=>[(5000,wR cS 1 r)]) (fun r=>(wO cS 5000 r))
def Zabq:=Zafo.run (Zafn)
theorem Zarw{r}(h:Zabq=some r):FnG PR 261 [] [] [(5000,wR cS 1 r)] (wO cS 5000 r):=Zafo.fn h
theorem Zavh{r:Bys}(h:Zabq=some r):Fn PR 261 [] (wL cS r):=
 FnG.frozen (C:=LT.RL cS r/\True) (Zarw h) ⟨rfl,trivial⟩ (by kernel_rfl)
def Zakz(a0:Int):LT Empty (By):=
.cs (decide (a0 < 0)) (.k3 0<|.kn [0]<|.rt ([]:By))<|.k3 0<|.br (decide (a0 > 16)) (.rt ([]:By))<|.call (Zavh) fun x3=>.idx cS x3 a0 fun x5=>.rt x5
def Zak0:LF Empty (By) := .z0 234 [.t 2] wS
def Zavi:=fun a0=>Zak0.run (Zakz a0)
theorem Z40(a0){r}(h:Zavi a0=some r):Fn PR 234 [wI a0] (wS r):=Zak0.fn h
inductive Zs9 where
 | L0 (v0:Int) (v3:By) (v4:Int)
def Zafp(v0:Int)(v3:By)(v4:Int):LT Zs9 (By):=
.br (decide (v4 < 17)) (.dc ((2:Int)≠0) rfl<|.br ((Int.tmod v0 2)==1) (.br (!(v3==([]:By))) (.ok (v3.length+([43]:By).length<=9223372036854775807)<|.call (Z40 v4) fun x6=>.ok ((v3++([43]:By)).length+x6.length<=9223372036854775807)<|.dc ((2:Int)≠0) rfl<|.g0 (.L0 (Zqc .i64 v0 2) ((v3++([43]:By))++x6) (IntKind.wrap .i64 (v4+1))))<|.call (Z40 v4) fun x13=>.ok (v3.length+x13.length<=9223372036854775807)<|.dc ((2:Int)≠0) rfl<|.g0 (.L0 (Zqc .i64 v0 2) (v3++x13) (IntKind.wrap .i64 (v4+1))))<|.dc ((2:Int)≠0) rfl<|.g0 (.L0 (Zqc .i64 v0 2) v3 (IntKind.wrap .i64 (v4+1))))<|.br (v3==([]:By)) (.rt ([110,111,110,101]:By))<|.rt v3
def Zak1(a0:Int):LT Zs9 (By):=
.call (Zaqq a0) fun x1=>.br (!x1) (.rt ([]:By))<|.g0 (.L0 a0 ([]:By) 0)
def Z79:LF Zs9 (By) := .m0 189 [.t 2] wS fun | .L0 v0 v3 v4=>([1,1,1,0,1,4],⟨28,[(0,wI v0),(3,wS v3),(4,wI v4)],[]⟩,Zafp v0 v3 v4)
def Zavj:=fun a0=>Z79.run (Zak1 a0)
theorem Zafq(a0){r}(h:Zavj a0=some r):Fn PR 189 [wI a0] (wS r):=Z79.fn h
def Z2y:LT Empty (Bys):=
.lb 1001<|.ret [([]:By),([105,110,45,104,97,110,100]:By),([105,110,45,108,105,98,114,97,114,121]:By),([105,110,45,103,114,97,118,101,121,97,114,100]:By),([105,110,45,101,120,105,108,101]:By),([111,110,45,115,116,97,99,107]:By)] [.relab 1001 5000]
def Z2z:LF Empty (Bys) := .z 235 [.t 0] true (fun r=>[(5000,wR cS 1 r)]) (fun r=>(wO cS 5000 r))
def Zx0:=Z2z.run (Z2y)
theorem Zaex{r}(h:Zx0=some r):FnG PR 235 [] [] [(5000,wR cS 1 r)] (wO cS 5000 r):=Z2z.fn h
theorem Zaie{r:Bys}(h:Zx0=some r):Fn PR 235 [] (wL cS r):=
 FnG.frozen (C:=LT.RL cS r/\True) (Zaex h) ⟨rfl,trivial⟩ (by kernel_rfl)
def Z6c:LT Empty (Bys):=
.lb 1001<|.ret [([]:By),([121,111,117,114,115]:By),([116,104,101,105,114,115]:By)] [.relab 1001 5000]
def Z6d:LF Empty (Bys) := .z 236 [.t 0] true (fun r=>[(5000,wR cS 1 r)]) (fun r=>(wO cS 5000 r))
def Z0v:=Z6d.run (Z6c)
theorem Zaif{r}(h:Z0v=some r):FnG PR 236 [] [] [(5000,wR cS 1 r)] (wO cS 5000 r):=Z6d.fn h
theorem Zak2{r:Bys}(h:Z0v=some r):Fn PR 236 [] (wL cS r):=
 FnG.frozen (C:=LT.RL cS r/\True) (Zaif h) ⟨rfl,trivial⟩ (by kernel_rfl)
def Z20:LT Empty (Bys):=
.lb 1001<|.ret [([]:By),([115,101,108,102]:By),([111,116,104,101,114]:By)] [.relab 1001 5000]
def Z21:LF Empty (Bys) := .z 237 [.t 0] true (fun r=>[(5000,wR cS 1 r)]) (fun r=>(wO cS 5000 r))
def Zx1:=Z21.run (Z20)
theorem Zaey{r}(h:Zx1=some r):FnG PR 237 [] [] [(5000,wR cS 1 r)] (wO cS 5000 r):=Z21.fn h
theorem Zaig{r:Bys}(h:Zx1=some r):Fn PR 237 [] (wL cS r):=
 FnG.frozen (C:=LT.RL cS r/\True) (Zaey h) ⟨rfl,trivial⟩ (by kernel_rfl)
def Z6e:LT Empty (Bys):=
.lb 1001<|.ret [([]:By),([116,97,112,112,101,100]:By),([117,110,116,97,112,112,101,100]:By)] [.relab 1001 5000]
def Z6f:LF Empty (Bys) := .z 238 [.t 0] true (fun r=>[(5000,wR cS 1 r)]) (fun r=>(wO cS 5000 r))
def Z0w:=Z6f.run (Z6e)
theorem Zaih{r}(h:Z0w=some r):FnG PR 238 [] [] [(5000,wR cS 1 r)] (wO cS 5000 r):=Z6f.fn h
theorem Zak3{r:Bys}(h:Z0w=some r):Fn PR 238 [] (wL cS r):=
 FnG.frozen (C:=LT.RL cS r/\True) (Zaih h) ⟨rfl,trivial⟩ (by kernel_rfl)
inductive Zws where
 | L0 (v0:Int) (v1:Int) (v5:Int)
def Zak4(v0:Int)(v1:Int)(v5:Int):LT Zws Bool:=
.br (decide (v5 < v1)) (.dc ((2:Int)≠0) rfl<|.g0 (.L0 (Zqc .i64 v0 2) v1 (IntKind.wrap .i64 (v5+1))))<|.dc ((2:Int)≠0) rfl<|.rt ((Int.tmod v0 2)==1)
def Zaqt(a0:Int)(a1:Int):LT Zws Bool:=
.g0 (.L0 a0 a1 0)
def Zabr:LF Zws Bool := .m0 240 [.t 4] wB fun | .L0 v0 v1 v5=>([1,0,1,4],⟨16,[(0,wI v0),(1,wI v1),(5,wI v5)],[]⟩,Zak4 v0 v1 v5)
def Za0w:=fun a0 a1=>Zabr.run (Zaqt a0 a1)
theorem Zta(a0)(a1){r}(h:Za0w a0 a1=some r):Fn PR 240 [wI a0,wI a1] (wB r):=Zabr.fn h
inductive Zld where
 | L0 (v0:Int) (v3:Int) (v4:Int)
def Z22(v0:Int)(v3:Int)(v4:Int):LT Zld (By):=
.br (decide (v4 < v0)) (.g0 (.L0 v0 (IntKind.wrap .i64 (v3*2)) (IntKind.wrap .i64 (v4+1))))<|.call (Zrv v3) fun x6=>.rt x6
def Z6g(a0:Int):LT Zld (By):=
.g0 (.L0 a0 1 0)
def Zu4:LF Zld (By) := .m0 241 [.t 2] wS fun | .L0 v0 v3 v4=>([1,1,0,1,4],⟨14,[(0,wI v0),(3,wI v3),(4,wI v4)],[]⟩,Z22 v0 v3 v4)
def Zabs:=fun a0=>Zu4.run (Z6g a0)
theorem Z23(a0){r}(h:Zabs a0=some r):Fn PR 241 [wI a0] (wS r):=Zu4.fn h
def Zafr:LT Empty (Bys):=
.lb 1001<|.ret [([]:By),([62,61]:By),([60,61]:By),([61]:By)] [.relab 1001 5000]
def Zafs:LF Empty (Bys) := .z 262 [.t 0] true (fun r=>[(5000,wR cS 1 r)]) (fun r=>(wO cS 5000 r))
def Zabt:=Zafs.run (Zafr)
theorem Zarx{r}(h:Zabt=some r):FnG PR 262 [] [] [(5000,wR cS 1 r)] (wO cS 5000 r):=Zafs.fn h
theorem Zavk{r:Bys}(h:Zabt=some r):Fn PR 262 [] (wL cS r):=
 FnG.frozen (C:=LT.RL cS r/\True) (Zarx h) ⟨rfl,trivial⟩ (by kernel_rfl)
inductive Z0x where
 | L0 (v0:Int) (v3:By)
def Zh7(v0:Int)(v3:By):LT Z0x (By):=
.br (decide (v0 > 0)) (.dc ((10:Int)≠0) rfl<|.dr [.lit]<|.str [IntKind.wrap .u8 (IntKind.wrap .u64 (48+(Int.tmod v0 10)))] fun x4=>.ok (x4.length+v3.length<=9223372036854775807)<|.dc ((10:Int)≠0) rfl<|.g0 (.L0 (Zqc .u64 v0 10) (x4++v3)))<|.rt v3
def Zabu(a0:Int):LT Z0x (By):=
.dc ((10:Int)≠0) rfl<|.dr [.lit]<|.str [IntKind.wrap .u8 (IntKind.wrap .u64 (48+(Int.tmod a0 10)))] fun x3=>.dc ((10:Int)≠0) rfl<|.g0 (.L0 (Zqc .u64 a0 10) x3)
def Ztb:LF Z0x (By) := .m0 244 [.t 2] wS fun | .L0 v0 v3=>([1,1,0,1,4],⟨25,[(0,.t (.int .u64 v0)),(3,wS v3)],[]⟩,Zh7 v0 v3)
def Z8a:=fun a0=>Ztb.run (Zabu a0)
theorem Z9c(a0){r}(h:Z8a a0=some r):Fn PR 244 [.t (.int .u64 a0)] (wS r):=Ztb.fn h
def Zak5(a0:Int):LT Empty (By):=
.br (decide (a0 < 0)) (.call (Z9c (IntKind.wrap .u64 (0 - (IntKind.wrap .u64 a0)))) fun x4=>.ok (([45]:By).length+x4.length<=9223372036854775807)<|.rt (([45]:By)++x4))<|.call (Z9c (IntKind.wrap .u64 a0)) fun x10=>.rt x10
def Zak6:LF Empty (By) := .z0 191 [.t 2] wS
def Zavl:=fun a0=>Zak6.run (Zak5 a0)
theorem Znr(a0){r}(h:Zavl a0=some r):Fn PR 191 [wI a0] (wS r):=Zak6.fn h
def Z24(a0:By)(a1:Zb):LT Empty (By):=
.lb 1003<|.br (a1.Kind==0) (.rt ([]:By))<|.call (Zavk) fun x2=>.idx cS x2 a1.Kind fun x4=>.ok (a0.length+x4.length<=9223372036854775807)<|.call (Znr a1.N) fun x10=>.ok ((a0++x4).length+x10.length<=9223372036854775807)<|.rt ((a0++x4)++x10)
def Z25:LF Empty (By) := .z0 242 [.t 4] wS
def Z9d:=fun a0 a1=>Z25.run (Z24 a0 a1)
theorem Zrw(a0)(a1){r}(h:Z9d a0 a1=some r):Fn PR 242 [wS a0,wA (Zb4 a1)] (wS r):=Z25.fn h
inductive Ztc where
 | L0 (v0:Bys) (v1:By) (v5:By) (v6:Int)
def Zaft(v0:Bys)(v1:By)(v5:By)(v6:Int):LT Ztc (By):=
.len cS v0<|.br (decide (v6 < (v0.length:Int))) (.br (decide (v6 > 0)) (.ok (v5.length+v1.length<=9223372036854775807)<|.idx cS v0 v6 fun x7=>.ok ((v5++v1).length+x7.length<=9223372036854775807)<|.g0 (.L0 v0 v1 ((v5++v1)++x7) (IntKind.wrap .i64 (v6+1))))<|.idx cS v0 v6 fun x14=>.ok (v5.length+x14.length<=9223372036854775807)<|.g0 (.L0 v0 v1 (v5++x14) (IntKind.wrap .i64 (v6+1))))<|.rt v5
def Zak7(a0:Bys)(a1:By):LT Ztc (By):=
.g0 (.L0 a0 a1 ([]:By) 0)
def Z8b:LF Ztc (By) := .m0 243 [.t 4] wS fun | .L0 v0 v1 v5 v6=>([1,1,0,1,4],⟨25,[(0,wL cS v0),(1,wS v1),(5,wS v5),(6,wI v6)],[]⟩,Zaft v0 v1 v5 v6)
def Zavm:=fun a0 a1=>Z8b.run (Zak7 a0 a1)
theorem Zay9(a0)(a1){r}(h:Zavm a0 a1=some r):Fn PR 243 [wL cS a0,wS a1] (wS r):=Z8b.fn h
def Z6h(b0:Bys)(a1:By):LT Empty (Bys):=
.br (a1==([]:By)) (.ret b0 [.relab 0 5000])<|.dr [.lit]<|.apR cS 16 b0 [a1] fun x2=>.ret x2 [.relab 0 5000]
def Z6i:LF Empty (Bys) := .z 239 [.t 4] true (fun r=>[(5000,wR cS 1 r)]) (fun r=>(wO cS 5000 r))
def Zabv:=fun b0 a1=>Z6i.run (Z6h b0 a1)
theorem Zf0(b0)(a1){r}(h:Zabv b0 a1=some r):FnG PR 239 [(0,wR cS 1 b0)] [wO cS 0 b0,wS a1] [(5000,wR cS 1 r)] (wO cS 5000 r):=Z6i.fn h
inductive Zhm where
 | L0 (E0:Zd) (v6:Bys) (v7:Bys) (v8:Int)
 | L1 (E0:Zd) (v6:Bys) (v7:Bys) (v9:Int)
 | L2 (E0:Zd) (v6:Bys) (v7:Bys) (v10:Int)
 | L3 (E0:Zd) (v6:Bys) (v7:Bys) (v11:Int)
 | L4 (E0:Zd) (v6:Bys) (v7:Bys)
 | L5 (E0:Zd) (v6:Bys) (v7:Bys) (v12:Int)
def Zqr(E0:Zd)(v6:Bys)(v7:Bys):LT Zhm (By):=
.g0 (.L5 E0 v6 v7 0)
def Zafu(E0:Zd)(v6:Bys)(v7:Bys)(v8:Int):LT Zhm (By):=
.br (decide (v8 < 6)) (.call (Zta E0.Types v8) fun x2=>.br x2 (.call (Z23 v8) fun x5=>.dr [.lit]<|.apR cS 16 v7 [x5] fun x7=>.g0 (.L0 E0 v6 x7 (IntKind.wrap .i64 (v8+1))))<|.g0 (.L0 E0 v6 v7 (IntKind.wrap .i64 (v8+1))))<|.g0 (.L1 E0 v6 v7 0)
def Zafv(E0:Zd)(v6:Bys)(v7:Bys)(v9:Int):LT Zhm (By):=
.br (decide (v9 < 6)) (.call (Zta E0.NotTypes v9) fun x2=>.br x2 (.call (Z23 v9) fun x5=>.ok (([110,111,110,45]:By).length+x5.length<=9223372036854775807)<|.dr [.lit]<|.apR cS 16 v7 [([110,111,110,45]:By)++x5] fun x10=>.g0 (.L1 E0 v6 x10 (IntKind.wrap .i64 (v9+1))))<|.g0 (.L1 E0 v6 v7 (IntKind.wrap .i64 (v9+1))))<|.g0 (.L2 E0 v6 v7 0)
def Zafw(E0:Zd)(v6:Bys)(v7:Bys)(v10:Int):LT Zhm (By):=
.br (decide (v10 < 5)) (.call (Zta E0.Colors v10) fun x2=>.br x2 (.call (Zv3 v10) fun x5=>.dr [.lit]<|.apR cS 16 v7 [x5] fun x7=>.g0 (.L2 E0 v6 x7 (IntKind.wrap .i64 (v10+1))))<|.g0 (.L2 E0 v6 v7 (IntKind.wrap .i64 (v10+1))))<|.g0 (.L3 E0 v6 v7 0)
def Zafx(E0:Zd)(v6:Bys)(v7:Bys)(v11:Int):LT Zhm (By):=
.br (decide (v11 < 5)) (.call (Zta E0.NotColors v11) fun x2=>.br x2 (.call (Zv3 v11) fun x5=>.ok (([110,111,110,45]:By).length+x5.length<=9223372036854775807)<|.dr [.lit]<|.apR cS 16 v7 [([110,111,110,45]:By)++x5] fun x10=>.g0 (.L3 E0 v6 x10 (IntKind.wrap .i64 (v11+1))))<|.g0 (.L3 E0 v6 v7 (IntKind.wrap .i64 (v11+1))))<|.br (!(E0.Sub==([]:By))) (.ok (([115,117,98,58]:By).length+E0.Sub.length<=9223372036854775807)<|.dr [.lit]<|.apR cS 16 v7 [([115,117,98,58]:By)++E0.Sub] fun x21=>.j0 (.L4 E0 v6 x21) (Zqr E0 v6 x21))<|.j0 (.L4 E0 v6 v7) (Zqr E0 v6 v7)
def Zafy(E0:Zd)(v6:Bys)(v7:Bys)(v12:Int):LT Zhm (By):=
.br (decide (v12 < 17)) (.call (Zta E0.Keys v12) fun x2=>.br x2 (.call (Z40 v12) fun x5=>.ok (([119,105,116,104,58]:By).length+x5.length<=9223372036854775807)<|.dr [.lit]<|.apR cS 16 v7 [([119,105,116,104,58]:By)++x5] fun x10=>.g0 (.L5 E0 v6 x10 (IntKind.wrap .i64 (v12+1))))<|.g0 (.L5 E0 v6 v7 (IntKind.wrap .i64 (v12+1))))<|.idx cS v6 E0.Tap fun x17=>.callU (Zf0 v7 x17) [20007] 1250000 fun x19=>.call (Zrw ([112,111,119,101,114]:By) E0.Power) fun x21=>.callU (Zf0 x19 x21) [1255000] 1300000 fun x23=>.call (Zrw ([116,111,117,103,104]:By) E0.Tough) fun x25=>.callU (Zf0 x23 x25) [1305000] 1350000 fun x27=>.call (Zrw ([118,97,108,117,101]:By) E0.Value) fun x29=>.callU (Zf0 x27 x29) [1355000] 1400000 fun x31=>.lenO cS x31<|.br ((x31.length:Int)==0) (.rt ([97,110,121]:By))<|.rl cS x31<|.call (Zay9 x31 ([32]:By)) fun x34=>.rt x34
def Zak8(a0:Zd):LT Zhm (By):=
.lb 1001<|.call (Zhr a0) fun x1=>.br (!x1) (.rt ([]:By))<|.call (Zaie) fun x4=>.call (Zak2) fun x6=>.call (Zaig) fun x8=>.call (Zak3) fun x10=>.idx cS x4 a0.Zone fun x12=>.dr [.ahead 26,.own 20 70260 1,.stop]<|.callU (Zf0 ([]:Bys) x12) [70260] 270000 fun x14=>.idx cS x6 a0.Who fun x16=>.callU (Zf0 x14 x16) [275000] 340000 fun x18=>.idx cS x8 a0.Self fun x20=>.callU (Zf0 x18 x20) [345000] 410000 fun x22=>.go (.L0 a0 x10 x22 0) [.relab 1001 3000,.relab 415000 20007]
def Zms:LF Zhm (By) := .m0 190 [.t 2] wS fun | .L0 E0 v6 v7 v8=>([1,1,1,1,1,1,1,1,1,1,0,1,4],⟨145,[(1,.bptr 3000 0),(6,wL cS v6),(7,wO cS 20007 v7),(8,wI v8)],[(3000,.box (bx (Zo E0))),(20007,wR cS 1 v7)]⟩,Zafu E0 v6 v7 v8) | .L1 E0 v6 v7 v9=>([1,1,1,1,1,1,1,1,1,1,1,0,1,4],⟨145,[(1,.bptr 3000 0),(6,wL cS v6),(7,wO cS 20007 v7),(9,wI v9)],[(3000,.box (bx (Zo E0))),(20007,wR cS 1 v7)]⟩,Zafv E0 v6 v7 v9) | .L2 E0 v6 v7 v10=>([1,1,1,1,1,1,1,1,1,1,1,1,0,1,4],⟨145,[(1,.bptr 3000 0),(6,wL cS v6),(7,wO cS 20007 v7),(10,wI v10)],[(3000,.box (bx (Zo E0))),(20007,wR cS 1 v7)]⟩,Zafw E0 v6 v7 v10) | .L3 E0 v6 v7 v11=>([1,1,1,1,1,1,1,1,1,1,1,1,1,0,1,4],⟨145,[(1,.bptr 3000 0),(6,wL cS v6),(7,wO cS 20007 v7),(11,wI v11)],[(3000,.box (bx (Zo E0))),(20007,wR cS 1 v7)]⟩,Zafx E0 v6 v7 v11) | .L4 E0 v6 v7=>([1,1,1,1,1,1,1,1,1,1,1,1,1,1,1],⟨145,[(1,.bptr 3000 0),(6,wL cS v6),(7,wO cS 20007 v7)],[(3000,.box (bx (Zo E0))),(20007,wR cS 1 v7)]⟩,Zqr E0 v6 v7) | .L5 E0 v6 v7 v12=>([1,1,1,1,1,1,1,1,1,1,1,1,1,1,1,0,1,4],⟨145,[(1,.bptr 3000 0),(6,wL cS v6),(7,wO cS 20007 v7),(12,wI v12)],[(3000,.box (bx (Zo E0))),(20007,wR cS 1 v7)]⟩,Zafy E0 v6 v7 v12)
def Zavn:=fun a0=>Zms.run (Zak8 a0)
theorem Zaza(a0){r}(h:Zavn a0=some r):Fn PR 190 [wA (Zo a0)] (wS r):=Zms.fn h
def Zak9(a0:Zi):LT Empty (By):=
.lb 1001<|.call (Zaqs a0) fun x1=>.br (!x1) (.rt ([]:By))<|.br (a0.Kind==1) (.rt ([99,111,110,116,114,111,108]:By))<|.br (a0.Kind==2) (.call (Zrv a0.N) fun x6=>.ok (([116,121,112,101,115,61]:By).length+x6.length<=9223372036854775807)<|.rt (([116,121,112,101,115,61]:By)++x6))<|.br (a0.Kind==3) (.call (Zrv a0.N) fun x12=>.ok (([116,121,112,101,115,43,61]:By).length+x12.length<=9223372036854775807)<|.rt (([116,121,112,101,115,43,61]:By)++x12))<|.br (a0.Kind==4) (.ok (([115,117,98,61]:By).length+a0.Sub.length<=9223372036854775807)<|.rt (([115,117,98,61]:By)++a0.Sub))<|.br (a0.Kind==5) (.ok (([115,117,98,43,61]:By).length+a0.Sub.length<=9223372036854775807)<|.rt (([115,117,98,43,61]:By)++a0.Sub))<|.br (a0.Kind==6) (.call (Zafm a0.N) fun x26=>.ok (([99,111,108,111,114,115,61]:By).length+x26.length<=9223372036854775807)<|.rt (([99,111,108,111,114,115,61]:By)++x26))<|.br (a0.Kind==7) (.call (Zafm a0.N) fun x32=>.ok (([99,111,108,111,114,115,43,61]:By).length+x32.length<=9223372036854775807)<|.rt (([99,111,108,111,114,115,43,61]:By)++x32))<|.br (a0.Kind==8) (.call (Zafq a0.N) fun x38=>.ok (([107,101,121,115,43,61]:By).length+x38.length<=9223372036854775807)<|.rt (([107,101,121,115,43,61]:By)++x38))<|.br (a0.Kind==9) (.call (Zafq a0.N) fun x44=>.ok (([107,101,121,115,45,61]:By).length+x44.length<=9223372036854775807)<|.rt (([107,101,121,115,45,61]:By)++x44))<|.br (a0.Kind==10) (.rt ([98,108,97,110,107]:By))<|.br (a0.Kind==11) (.call (Zaza a0.Filter) fun x51=>.ok (([112,116,61,99,111,117,110,116,40]:By).length+x51.length<=9223372036854775807)<|.ok ((([112,116,61,99,111,117,110,116,40]:By)++x51).length+([41]:By).length<=9223372036854775807)<|.rt ((([112,116,61,99,111,117,110,116,40]:By)++x51)++([41]:By)))<|.br (a0.Kind==12) (.call (Znr a0.N) fun x58=>.ok (([112,116,61]:By).length+x58.length<=9223372036854775807)<|.ok ((([112,116,61]:By)++x58).length+([47]:By).length<=9223372036854775807)<|.call (Znr a0.M) fun x65=>.ok (((([112,116,61]:By)++x58)++([47]:By)).length+x65.length<=9223372036854775807)<|.rt (((([112,116,61]:By)++x58)++([47]:By))++x65))<|.br (a0.Kind==13) (.call (Znr a0.N) fun x71=>.ok (([112,116,43,61]:By).length+x71.length<=9223372036854775807)<|.ok ((([112,116,43,61]:By)++x71).length+([47]:By).length<=9223372036854775807)<|.call (Znr a0.M) fun x78=>.ok (((([112,116,43,61]:By)++x71)++([47]:By)).length+x78.length<=9223372036854775807)<|.rt (((([112,116,43,61]:By)++x71)++([47]:By))++x78))<|.rt ([112,116,45,115,119,105,116,99,104]:By)
def Zala:LF Empty (By) := .z0 138 [.t 2] wS
def Zavo:=fun a0=>Zala.run (Zak9 a0)
theorem Zafz(a0){r}(h:Zavo a0=some r):Fn PR 138 [wA (Zm a0)] (wS r):=Zala.fn h
inductive Zle where
 | L0 (v0:List Zi) (v3:By) (v4:Int)
def Z26(v0:List Zi)(v3:By)(v4:Int):LT Zle (By):=
.len Zm v0<|.br (decide (v4 < (v0.length:Int))) (.idx Zm v0 v4 fun x3=>.call (Zaqs x3) fun x5=>.br (!x5) (.rt ([]:By))<|.br (decide (v4 > 0)) (.ok (v3.length+([44,32]:By).length<=9223372036854775807)<|.ag Zm x3 0<|.call (Zafz x3) fun x11=>.ok ((v3++([44,32]:By)).length+x11.length<=9223372036854775807)<|.g0 (.L0 v0 ((v3++([44,32]:By))++x11) (IntKind.wrap .i64 (v4+1))))<|.ag Zm x3 0<|.call (Zafz x3) fun x17=>.ok (v3.length+x17.length<=9223372036854775807)<|.g0 (.L0 v0 (v3++x17) (IntKind.wrap .i64 (v4+1))))<|.rt v3
def Z6j(a0:List Zi):LT Zle (By):=
.len Zm a0<|.cs ((a0.length:Int)==0) (.k4 0<|.kn [0]<|.rt ([]:By))<|.k2 0<|.len Zm a0<|.k2 0<|.br (decide ((a0.length:Int) > 6)) (.rt ([]:By))<|.g0 (.L0 a0 ([]:By) 0)
def Zu5:LF Zle (By) := .m0 87 [.t 2] wS fun | .L0 v0 v3 v4=>([1,1,1,0,1,4],⟨37,[(0,wL Zm v0),(3,wS v3),(4,wI v4)],[]⟩,Z26 v0 v3 v4)
def Zabw:=fun a0=>Zu5.run (Z6j a0)
theorem Ztd(a0){r}(h:Zabw a0=some r):Fn PR 87 [wL Zm a0] (wS r):=Zu5.fn h
def Zaf0(a0:Zgx):LT Empty Bool:=
.lb 1001<|.call (Zwn a0.Mana) fun x1=>.cs x1 (.k5 0<|.cs (a0.Mana.X==0) (.k4 1<|.cs (decide (a0.Life>=0)) (.k4 2<|.rt (decide (a0.Life<=99)))<|.k4 2<|.rt false)<|.k4 1<|.b4 false<|.rt false)<|.k5 0<|.b8 false<|.rt false
def Zaf1:LF Empty Bool := .z0 124 [.t 2] wB
def Zaqu:=fun a0=>Zaf1.run (Zaf0 a0)
theorem Zavp(a0){r}(h:Zaqu a0=some r):Fn PR 124 [wA (Zdj a0)] (wB r):=Zaf1.fn h
def Zalb(a0:Int):LT Empty (By):=
.br (a0==1) (.rt ([101,110,116,101,114,115]:By))<|.br (a0==2) (.rt ([108,101,97,118,101,115]:By))<|.br (a0==3) (.rt ([100,105,101,115]:By))<|.br (a0==4) (.rt ([97,116,116,97,99,107,115]:By))<|.br (a0==5) (.rt ([98,108,111,99,107,115]:By))<|.br (a0==6) (.rt ([100,101,97,108,115]:By))<|.br (a0==7) (.rt ([100,101,97,108,116]:By))<|.br (a0==8) (.rt ([100,114,97,119,115]:By))<|.br (a0==9) (.rt ([99,97,115,116,115]:By))<|.br (a0==10) (.rt ([117,112,107,101,101,112]:By))<|.br (a0==11) (.rt ([101,110,100]:By))<|.br (a0==12) (.rt ([103,97,105,110,115]:By))<|.br (a0==13) (.rt ([108,111,115,101,115]:By))<|.br (a0==14) (.rt ([112,108,97,99,101,100]:By))<|.rt ([]:By)
def Zalc:LF Empty (By) := .z0 173 [.t 2] wS
def Zavq:=fun a0=>Zalc.run (Zalb a0)
theorem Zaf2(a0){r}(h:Zavq a0=some r):Fn PR 173 [wI a0] (wS r):=Zalc.fn h
def Zabx(a0:Int):LT Empty Bool:=
.cs (a0==8) (.k3 0<|.b8 true<|.b4 true<|.rt true)<|.k3 0<|.cs (a0==9) (.k3 1<|.b8 true<|.kb true<|.rt true)<|.k3 1<|.cs (a0==10) (.k3 2<|.b5 true<|.kb true<|.rt true)<|.k3 2<|.cs (a0==11) (.k3 3<|.b3 true<|.rt true)<|.k3 3<|.cs (a0==12) (.k3 4<|.rt true)<|.k3 4<|.rt (a0==13)
def Zaby:LF Empty Bool := .z0 174 [.t 2] wB
def Zald:=fun a0=>Zaby.run (Zabx a0)
theorem Z9e(a0){r}(h:Zald a0=some r):Fn PR 174 [wI a0] (wB r):=Zaby.fn h
def Z27(a0:Int):LT Empty Bool:=
.call (Zaf2 a0) fun x1=>.cs (!(x1==([]:By))) (.k2 0<|.call (Z9e a0) fun x4=>.k2 0<|.cs (!x4) (.k2 1<|.kg 0<|.kg 1<|.kg 0<|.rt true)<|.k2 1<|.kg 0<|.kg 1<|.kg 0<|.rt (a0==9))<|.k5 0<|.kg 0<|.rt false
def Z28:LF Empty Bool := .z0 175 [.t 2] wB
def Z9f:=fun a0=>Z28.run (Z27 a0)
theorem Zaii(a0){r}(h:Z9f a0=some r):Fn PR 175 [wI a0] (wB r):=Z28.fn h
inductive Z0y where
 | L0 (E0:Zch)
def Zwt(E0:Zch):LT Z0y Bool:=
.call (Zaii E0.When) fun x1=>.br (!x1) (.rt (Z5 (Zo E0.Filter) (Zo (⟨0,0,0,0,0,0,0,([]:By),0,0,(⟨0,0⟩:Zb),(⟨0,0⟩:Zb),(⟨0,0⟩:Zb)⟩:Zd))))<|.br (E0.When==9) (.call (Zhr E0.Filter) fun x5=>.cs x5 (.k5 2<|.kg 2<|.rt (E0.Filter.Zone==5))<|.k5 2<|.kg 2<|.rt false)<|.call (Zhr E0.Filter) fun x8=>.cs x8 (.k5 2<|.kg 2<|.rt (E0.Filter.Zone==0))<|.k5 2<|.kg 2<|.rt false
def Zavr(a0:Zch):LT Z0y Bool:=
.lb 1001<|.call (Zaf2 a0.When) fun x1=>.cs (x1==([]:By)) (.k4 0<|.b8 true<|.b3 true<|.kn [0]<|.rt false)<|.k4 0<|.cs (decide (a0.Who < 0)) (.k4 1<|.b5 true<|.b2 true<|.kn [0]<|.rt false)<|.k4 1<|.cs (decide (a0.Who > 2)) (.k5 2<|.k2 2<|.kn [0]<|.rt false)<|.k3 2<|.call (Z9e a0.When) fun x6=>.k2 2<|.cs (!x6) (.k3 3<|.kg 2<|.kg 3<|.kg 2<|.br (a0.Who != 0) (.rt false)<|.jn 0 (.L0 a0) [.relab 1001 3000] (Zwt a0))<|.k3 3<|.kg 2<|.kg 3<|.kg 2<|.kn [0]<|.jn 0 (.L0 a0) [.relab 1001 3000] (Zwt a0)
def Zavs:LF Z0y Bool := .m0 125 [.t 2] wB fun | .L0 E0=>([1,1],⟨50,[(1,.bptr 3000 0)],[(3000,.box (bx (Zb7 E0)))]⟩,Zwt E0)
def Za5a:=fun a0=>Zavs.run (Zavr a0)
theorem Za5b(a0){r}(h:Za5a a0=some r):Fn PR 125 [wA (Zb7 a0)] (wB r):=Zavs.fn h
def Zaf3(a0:Zd):LT Empty Bool:=
.lb 1001<|.call (Zhr a0) fun x1=>.cs x1 (.k4 0<|.rt (a0.Zone==0))<|.k4 0<|.rt false
def Zaf4:LF Empty Bool := .z0 178 [.t 2] wB
def Zaqv:=fun a0=>Zaf4.run (Zaf3 a0)
theorem Z0z(a0){r}(h:Zaqv a0=some r):Fn PR 178 [wA (Zo a0)] (wB r):=Zaf4.fn h
def Zaf5(a0:Zay):LT Empty Bool:=
.lb 1001<|.cs (a0.Who != 0) (.k5 0<|.kn [0]<|.rt false)<|.k3 0<|.call (Z0z a0.Filter) fun x2=>.k2 0<|.br (!x2) (.rt false)<|.br (a0.Do==5) (.cs (a0.N==0) (.k4 3<|.cs (a0.Counter==0) (.k4 4<|.cs (a0.Zone==1) (.k3 5<|.kg 4<|.kg 5<|.kg 4<|.b3 true<|.kg 4<|.kb true<|.kg 4<|.rt true)<|.k3 5<|.kg 4<|.kg 5<|.kg 4<|.cs (a0.Zone==2) (.k3 6<|.kg 4<|.kg 6<|.kg 4<|.rt true)<|.k3 6<|.kg 4<|.kg 6<|.kg 4<|.rt (a0.Zone==4))<|.k8 4<|.rt false)<|.k4 3<|.b8 false<|.rt false)<|.br (a0.Do==6) (.cs (a0.N==0) (.k4 4<|.cs (a0.Counter==0) (.k4 5<|.rt (a0.Zone==0))<|.k4 5<|.rt false)<|.k4 4<|.b4 false<|.rt false)<|.br (a0.Do==7) (.cs (a0.Zone==0) (.k4 5<|.cs (decide (a0.N>=1)) (.k4 6<|.cs (decide (a0.N<=99)) (.k4 7<|.cs (decide (a0.Counter>=0)) (.k4 8<|.rt (decide (a0.Counter < 3)))<|.k4 8<|.rt false)<|.k4 7<|.b4 false<|.rt false)<|.k4 6<|.b8 false<|.rt false)<|.k4 5<|.b8 false<|.b4 false<|.rt false)<|.rt false
def Zaf6:LF Empty Bool := .z0 176 [.t 2] wB
def Zaqw:=fun a0=>Zaf6.run (Zaf5 a0)
theorem Zavt(a0){r}(h:Zaqw a0=some r):Fn PR 176 [wA (Zbe a0)] (wB r):=Zaf6.fn h
def Zaf7(a0:Zay):LT Empty Bool:=
.lb 1001<|.cs (a0.Zone != 0) (.k4 0<|.kn [0]<|.rt false)<|.k4 0<|.br (a0.Counter != 0) (.rt false)<|.cs (a0.Do==2) (.k4 2<|.kn [0]<|.cs (decide (a0.N>=1)) (.k4 3<|.rt (decide (a0.N<=99)))<|.k4 3<|.rt false)<|.k4 2<|.br (a0.Do==4) (.cs (decide (a0.N>=1)) (.k4 4<|.rt (decide (a0.N<=99)))<|.k4 4<|.rt false)<|.rt (a0.N==0)
def Zaf8:LF Empty Bool := .z0 177 [.t 2] wB
def Zaqx:=fun a0=>Zaf8.run (Zaf7 a0)
theorem Zavu(a0){r}(h:Zaqx a0=some r):Fn PR 177 [wA (Zbe a0)] (wB r):=Zaf8.fn h
inductive Zrx where
 | L0 (E0:Zay) (v3:Bool) (v4:Bool)
 | L1 (E0:Zay) (v3:Bool)
 | L2 (E0:Zay) (v3:Bool) (v4:Bool) (v109:Bool)
def Zsd(E0:Zay)(v3:Bool)(v4:Bool)(v109:Bool):LT Zrx Bool:=
.br v109 (.cs v4 (.k4 1<|.cs (decide (E0.Who>=0)) (.k4 2<|.cs (decide (E0.Who<=2)) (.k2 3<|.rt v3)<|.k2 3<|.rt false)<|.k4 2<|.b2 false<|.rt false)<|.k4 1<|.b5 false<|.kb false<|.rt false)<|.rt false
def Zom(E0:Zay)(v3:Bool):LT Zrx Bool:=
.cs (E0.Who==0) (.k3 0<|.call (Z0z E0.Filter) fun x2=>.kg 0<|.cs x2 (.k8 1<|.rt true)<|.k4 1<|.cs (E0.Who==1) (.k3 2<|.kg 1<|.kg 2<|.kg 1<|.kb true<|.kg 1<|.kb true<|.kg 1<|.rt v3)<|.k3 2<|.kg 1<|.kg 2<|.kg 1<|.cs (E0.Who==2) (.kg 3<|.kg 1<|.kg 3<|.kg 1<|.rt v3)<|.kg 3<|.kg 1<|.kg 3<|.kg 1<|.rt false)<|.k4 0<|.b4 false<|.cs (E0.Who==1) (.k3 1<|.kb false<|.kg 1<|.kb false<|.kb true<|.kb false<|.kb true<|.kb false<|.rt v3)<|.k3 1<|.kb false<|.kg 1<|.kb false<|.cs (E0.Who==2) (.kg 2<|.kb false<|.kg 2<|.kb false<|.rt v3)<|.kg 2<|.kb false<|.kg 2<|.kb false<|.rt false
def Zse(E0:Zay)(v3:Bool)(v4:Bool):LT Zrx Bool:=
.br (E0.On==1) (.cs (E0.Do != 1) (.k4 1<|.cs (E0.Do != 2) (.k4 2<|.cs (E0.Do != 3) (.k4 3<|.br (E0.Do != 4) (.rt false)<|.j0 (.L1 E0 v3) (Zom E0 v3))<|.k4 3<|.kn [0]<|.j0 (.L1 E0 v3) (Zom E0 v3))<|.k4 2<|.b4 false<|.kn [0]<|.j0 (.L1 E0 v3) (Zom E0 v3))<|.k4 1<|.b8 false<|.kn [0]<|.j0 (.L1 E0 v3) (Zom E0 v3))<|.br (E0.On==8) (.cs v4 (.k4 2<|.cs (E0.Who==0) (.k3 3<|.call (Z0z E0.Filter) fun x9=>.kg 3<|.rt x9)<|.k4 3<|.rt false)<|.k4 2<|.b4 false<|.rt false)<|.br (E0.On==3) (.cs (E0.Do==4) (.k4 3<|.b4 true<|.cs (decide (E0.Who>=0)) (.k4 4<|.cs (decide (E0.Who<=2)) (.k2 5<|.rt v3)<|.k2 5<|.rt false)<|.k4 4<|.b2 false<|.rt false)<|.k4 3<|.cs (E0.Do==8) (.k4 4<|.cs (decide (E0.Who>=0)) (.k4 5<|.cs (decide (E0.Who<=2)) (.k2 6<|.rt v3)<|.k2 6<|.rt false)<|.k4 5<|.b2 false<|.rt false)<|.k4 4<|.b5 false<|.kb false<|.rt false)<|.br (E0.On==4) (.j0 (.L2 E0 v3 v4 (E0.On==4)) (Zsd E0 v3 v4 (E0.On==4)))<|.br (E0.On==5) (.j0 (.L2 E0 v3 v4 (E0.On==5)) (Zsd E0 v3 v4 (E0.On==5)))<|.j0 (.L2 E0 v3 v4 (E0.On==10)) (Zsd E0 v3 v4 (E0.On==10))
def Zavv(a0:Zay):LT Zrx Bool:=
.lb 1001<|.br (a0.On==2) (.call (Zavt a0) fun x2=>.rt x2)<|.call (Zavu a0) fun x4=>.br (!x4) (.rt false)<|.cs (a0.Do==3) (.k4 2<|.b4 true<|.jn 0 (.L0 a0 (Z5 (Zo a0.Filter) (Zo (⟨0,0,0,0,0,0,0,([]:By),0,0,(⟨0,0⟩:Zb),(⟨0,0⟩:Zb),(⟨0,0⟩:Zb)⟩:Zd))) true) [.relab 1001 3000] (Zse a0 (Z5 (Zo a0.Filter) (Zo (⟨0,0,0,0,0,0,0,([]:By),0,0,(⟨0,0⟩:Zb),(⟨0,0⟩:Zb),(⟨0,0⟩:Zb)⟩:Zd))) true))<|.k4 2<|.cs (a0.Do==4) (.k4 3<|.jn 0 (.L0 a0 (Z5 (Zo a0.Filter) (Zo (⟨0,0,0,0,0,0,0,([]:By),0,0,(⟨0,0⟩:Zb),(⟨0,0⟩:Zb),(⟨0,0⟩:Zb)⟩:Zd))) true) [.relab 1001 3000] (Zse a0 (Z5 (Zo a0.Filter) (Zo (⟨0,0,0,0,0,0,0,([]:By),0,0,(⟨0,0⟩:Zb),(⟨0,0⟩:Zb),(⟨0,0⟩:Zb)⟩:Zd))) true))<|.k4 3<|.jn 0 (.L0 a0 (Z5 (Zo a0.Filter) (Zo (⟨0,0,0,0,0,0,0,([]:By),0,0,(⟨0,0⟩:Zb),(⟨0,0⟩:Zb),(⟨0,0⟩:Zb)⟩:Zd))) (a0.Do==8)) [.relab 1001 3000] (Zse a0 (Z5 (Zo a0.Filter) (Zo (⟨0,0,0,0,0,0,0,([]:By),0,0,(⟨0,0⟩:Zb),(⟨0,0⟩:Zb),(⟨0,0⟩:Zb)⟩:Zd))) (a0.Do==8))
def Zavw:LF Zrx Bool := .m0 126 [.t 2] wB fun | .L0 E0 v3 v4=>([1,1,1,1,1],⟨127,[(1,.bptr 3000 0),(3,wB v3),(4,wB v4)],[(3000,.box (bx (Zbe E0)))]⟩,Zse E0 v3 v4) | .L1 E0 v3=>([1,1,1,1,1,0,1,4,1,2,1],⟨127,[(1,.bptr 3000 0),(3,wB v3)],[(3000,.box (bx (Zbe E0)))]⟩,Zom E0 v3) | .L2 E0 v3 v4 v109=>([1,1,1,1,1,0,1,4,1,3,1,3,1,3,1],⟨127,[(1,.bptr 3000 0),(3,wB v3),(4,wB v4),(109,wB v109)],[(3000,.box (bx (Zbe E0)))]⟩,Zsd E0 v3 v4 v109)
def Za5c:=fun a0=>Zavw.run (Zavv a0)
theorem Za5d(a0){r}(h:Za5c a0=some r):Fn PR 126 [wA (Zbe a0)] (wB r):=Zavw.fn h
def Zale(a0:Zaw):LT Empty Bool:=
.lb 1001<|.br (!a0.Object) (.cs a0.Player (.k5 1<|.rt (Z5 (Zo a0.Filter) (Zo (⟨0,0,0,0,0,0,0,([]:By),0,0,(⟨0,0⟩:Zb),(⟨0,0⟩:Zb),(⟨0,0⟩:Zb)⟩:Zd))))<|.k5 1<|.rt false)<|.call (Zhr a0.Filter) fun x3=>.cs x3 (.k3 1<|.cs (a0.Filter.Zone==0) (.k2 2<|.kg 1<|.kg 2<|.kg 1<|.b2 true<|.kg 1<|.kb true<|.kg 1<|.rt true)<|.k2 2<|.kg 1<|.kg 2<|.kg 1<|.cs (a0.Filter.Zone==3) (.k2 3<|.kg 1<|.kg 3<|.kg 1<|.rt true)<|.k2 3<|.kg 1<|.kg 3<|.kg 1<|.rt (a0.Filter.Zone==5))<|.k5 1<|.k2 1<|.rt false
def Zalf:LF Empty Bool := .z0 179 [.t 2] wB
def Zavx:=fun a0=>Zalf.run (Zale a0)
theorem Zazb(a0){r}(h:Zavx a0=some r):Fn PR 179 [wA (Z8 a0)] (wB r):=Zalf.fn h
inductive Zqs where
 | L0 (v0:List Zaw) (v3:Int)
def Zabz(v0:List Zaw)(v3:Int):LT Zqs Bool:=
.len Z8 v0<|.br (decide (v3 < (v0.length:Int))) (.idx Z8 v0 v3 fun x3=>.call (Zazb x3) fun x5=>.br (!x5) (.rt false)<|.g0 (.L0 v0 (IntKind.wrap .i64 (v3+1))))<|.len Z8 v0<|.rt (decide ((v0.length:Int)<=4))
def Zaf9(a0:List Zaw):LT Zqs Bool:=
.g0 (.L0 a0 0)
def Z41:LF Zqs Bool := .m0 127 [.t 2] wB fun | .L0 v0 v3=>([1,0,1,4],⟨19,[(0,wL Z8 v0),(3,wI v3)],[]⟩,Zabz v0 v3)
def Zaqy:=fun a0=>Z41.run (Zaf9 a0)
theorem Zavy(a0){r}(h:Zaqy a0=some r):Fn PR 127 [wL Z8 a0] (wB r):=Z41.fn h
def Zalg(a0:Int):LT Empty (By):=
.cs (decide (a0 < 1)) (.k3 0<|.kn [0]<|.rt ([]:By))<|.k3 0<|.br (decide (a0 > 26)) (.rt ([]:By))<|.dr [.lit]<|.idx cS [([100,97,109,97,103,101]:By),([100,101,115,116,114,111,121]:By),([109,111,118,101]:By),([100,114,97,119]:By),([100,105,115,99,97,114,100]:By),([103,97,105,110]:By),([108,111,115,101]:By),([116,97,112]:By),([117,110,116,97,112]:By),([112,117,116]:By),([116,97,107,101]:By),([99,114,101,97,116,101]:By),([109,111,100]:By),([109,97,110,97]:By),([99,111,117,110,116,101,114]:By),([99,111,112,121]:By),([98,101,99,111,109,101]:By),([115,97,99,114,105,102,105,99,101]:By),([109,105,108,108]:By),([115,99,114,121]:By),([115,101,97,114,99,104]:By),([115,104,105,101,108,100]:By),([116,117,114,110]:By),([119,105,110]:By),([100,101,102,101,97,116]:By),([118,101,110,111,109]:By)] (IntKind.wrap .i64 (a0 - 1)) fun x6=>.rt x6
def Zalh:LF Empty (By) := .z0 221 [.t 2] wS
def Zavz:=fun a0=>Zalh.run (Zalg a0)
theorem Zazc(a0){r}(h:Zavz a0=some r):Fn PR 221 [wI a0] (wS r):=Zalh.fn h
inductive Zpn where
 | L0 (v3:Int) (v4:Bool)
 | L1 (v3:Int) (v14:Bool)
def Zqt(v3:Int)(v14:Bool):LT Zpn (By):=
.br v14 (.rt ([114,107,97]:By))<|.br (v3==12) (.rt ([114,99,97]:By))<|.br (v3==13) (.rt ([114,109]:By))<|.br (v3==14) (.rt ([112]:By))<|.br (v3==18) (.rt ([114,97,102]:By))<|.br (v3==20) (.rt ([97]:By))<|.br (v3==21) (.rt ([102]:By))<|.br (v3==23) (.kn [8]<|.rt ([]:By))<|.br (v3==24) (.rt ([]:By))<|.rt ([114,97]:By)
def Zgg(v3:Int)(v4:Bool):LT Zpn (By):=
.br v4 (.rt ([114]:By))<|.br (v3==3) (.rt ([114,122]:By))<|.br (v3==10) (.j0 (.L1 v3 (v3==10)) (Zqt v3 (v3==10)))<|.j0 (.L1 v3 (v3==11)) (Zqt v3 (v3==11))
def Zali(a0:Int):LT Zpn (By):=
.br (a0==2) (.j0 (.L0 a0 (a0==2)) (Zgg a0 (a0==2)))<|.br (a0==8) (.j0 (.L0 a0 (a0==8)) (Zgg a0 (a0==8)))<|.br (a0==9) (.j0 (.L0 a0 (a0==9)) (Zgg a0 (a0==9)))<|.br (a0==15) (.j0 (.L0 a0 (a0==15)) (Zgg a0 (a0==15)))<|.br (a0==16) (.j0 (.L0 a0 (a0==16)) (Zgg a0 (a0==16)))<|.br (a0==17) (.j0 (.L0 a0 (a0==17)) (Zgg a0 (a0==17)))<|.j0 (.L0 a0 (a0==25)) (Zgg a0 (a0==25))
def Zalj:LF Zpn (By) := .m0 257 [.t 2] wS fun | .L0 v3 v4=>([1,0,1,4,1],⟨32,[(3,wI v3),(4,wB v4)],[]⟩,Zgg v3 v4) | .L1 v3 v14=>([1,0,1,4,1,3,1,3,1],⟨32,[(3,wI v3),(14,wB v14)],[]⟩,Zqt v3 v14)
def Zav0:=fun a0=>Zalj.run (Zali a0)
theorem Zazd(a0){r}(h:Zav0 a0=some r):Fn PR 257 [wI a0] (wS r):=Zalj.fn h
inductive Zte where
 | L0 (v1:Int) (v5:By) (v6:Int)
def Zaga(v1:Int)(v5:By)(v6:Int):LT Zte Bool:=
.lenS v5<|.br (decide (v6 < (v5.length:Int))) (.idxS v5 v6 fun x3=>.br ((UInt8.toNat x3:Int)==v1) (.rt true)<|.g0 (.L0 v1 v5 (IntKind.wrap .i64 (v6+1))))<|.rt false
def Zalk(a0:Int)(a1:Int):LT Zte Bool:=
.call (Zazd a0) fun x1=>.g0 (.L0 a1 x1 0)
def Z8c:LF Zte Bool := .m0 222 [.t 4] wB fun | .L0 v1 v5 v6=>([1,1,0,1,4],⟨20,[(1,.t (.int .u8 v1)),(5,wS v5),(6,wI v6)],[]⟩,Zaga v1 v5 v6)
def Zav1:=fun a0 a1=>Z8c.run (Zalk a0 a1)
theorem Ziy(a0)(a1){r}(h:Zav1 a0 a1=some r):Fn PR 222 [wI a0,.t (.int .u8 a1)] (wB r):=Z8c.fn h
def Z6k(a0:Int):LT Empty Bool:=
.cs (a0==3) (.k3 0<|.rt true)<|.k3 0<|.rt (a0==8)
def Z6l:LF Empty Bool := .z0 258 [.t 2] wB
def Zab0:=fun a0=>Z6l.run (Z6k a0)
theorem Zall(a0){r}(h:Zab0 a0=some r):Fn PR 258 [wI a0] (wB r):=Z6l.fn h
inductive Zu6 where
 | L0 (v1:Int) (E0:Zgt)
 | L1 (E0:Zgt)
def Zwu(E0:Zgt):LT Zu6 Bool:=
.br (E0.Kind==4) (.call (Zhr E0.Filter) fun x2=>.rt x2)<|.rt (Z5 (Zo E0.Filter) (Zo (⟨0,0,0,0,0,0,0,([]:By),0,0,(⟨0,0⟩:Zb),(⟨0,0⟩:Zb),(⟨0,0⟩:Zb)⟩:Zd)))
def Zwv(v1:Int)(E0:Zgt):LT Zu6 Bool:=
.cs (decide (E0.Kind < 1)) (.k4 0<|.kn [0]<|.rt false)<|.k4 0<|.br (decide (E0.Kind > 8)) (.rt false)<|.call (Zall E0.Kind) fun x3=>.br x3 (.cs (decide (E0.N < 1)) (.k5 3<|.kn [0]<|.rt false)<|.k5 3<|.br (decide (E0.N > v1)) (.rt false)<|.j0 (.L1 E0) (Zwu E0))<|.br (E0.N != 0) (.rt false)<|.j0 (.L1 E0) (Zwu E0)
def Zav2(a0:Zgt)(a1:Int):LT Zu6 Bool:=
.lb 1002<|.br (decide (a1 > 4)) (.jn 0 (.L0 4 a0) [.relab 1002 3000] (Zwv 4 a0))<|.jn 0 (.L0 a1 a0) [.relab 1002 3000] (Zwv a1 a0)
def Zav3:LF Zu6 Bool := .m0 223 [.t 4] wB fun | .L0 v1 E0=>([1,1],⟨40,[(1,wI v1),(2,.bptr 3000 0)],[(3000,.box (bx (Zdd E0)))]⟩,Zwv v1 E0) | .L1 E0=>([1,1,1,1],⟨40,[(2,.bptr 3000 0)],[(3000,.box (bx (Zdd E0)))]⟩,Zwu E0)
def Za5e:=fun a0 a1=>Zav3.run (Zav2 a0 a1)
theorem Za5f(a0)(a1){r}(h:Za5e a0 a1=some r):Fn PR 223 [wA (Zdd a0),wI a1] (wB r):=Zav3.fn h
def Zalm(a0:Int):LT Empty (By):=
.br (a0==0) (.rt ([112,108,117,115]:By))<|.br (a0==1) (.rt ([109,105,110,117,115]:By))<|.br (a0==2) (.rt ([99,104,97,114,103,101]:By))<|.rt ([]:By)
def Zaln:LF Empty (By) := .z0 224 [.t 2] wS
def Zav4:=fun a0=>Zaln.run (Zalm a0)
theorem Zagb(a0){r}(h:Zav4 a0=some r):Fn PR 224 [wI a0] (wS r):=Zaln.fn h
def Zav5(a0:Zbi):LT Empty Bool:=
.lb 1001<|.lb 1003<|.br (a0.Kind==0) (.cs (decide (a0.N < 0)) (.k4 1<|.kn [0]<|.rt false)<|.k4 1<|.br (decide (a0.N > 1000000)) (.rt false)<|.cs (decide (a0.Kind>=0)) (.k4 3<|.cs (decide (a0.Kind<=7)) (.k5 4<|.kg 4<|.rt (Z5 (Zan (⟨a0.Kind,0,a0.Counter,a0.Filter⟩:Zbi)) (Zan (⟨a0.Kind,0,0,(⟨0,0,0,0,0,0,0,([]:By),0,0,(⟨0,0⟩:Zb),(⟨0,0⟩:Zb),(⟨0,0⟩:Zb)⟩:Zd)⟩:Zbi))))<|.k5 4<|.kg 4<|.rt false)<|.k4 3<|.b5 false<|.kb false<|.rt false)<|.br (a0.Kind==2) (.cs (decide (a0.N < 1)) (.k4 2<|.b5 true<|.kn [0]<|.rt false)<|.k4 2<|.cs (decide (a0.N > 99)) (.k5 3<|.kn [0]<|.rt false)<|.k3 3<|.call (Zhr a0.Filter) fun x9=>.k2 3<|.br (!x9) (.rt false)<|.cs (decide (a0.Kind>=0)) (.k4 5<|.cs (decide (a0.Kind<=7)) (.k5 6<|.kg 6<|.rt (Z5 (Zan (⟨a0.Kind,0,a0.Counter,(⟨0,0,0,0,0,0,0,([]:By),0,0,(⟨0,0⟩:Zb),(⟨0,0⟩:Zb),(⟨0,0⟩:Zb)⟩:Zd)⟩:Zbi)) (Zan (⟨a0.Kind,0,0,(⟨0,0,0,0,0,0,0,([]:By),0,0,(⟨0,0⟩:Zb),(⟨0,0⟩:Zb),(⟨0,0⟩:Zb)⟩:Zd)⟩:Zbi))))<|.k5 6<|.kg 6<|.rt false)<|.k4 5<|.b5 false<|.kb false<|.rt false)<|.br (a0.Kind==4) (.call (Zagb a0.Counter) fun x15=>.br (x15==([]:By)) (.rt false)<|.cs (decide (a0.Kind>=0)) (.k4 4<|.cs (decide (a0.Kind<=7)) (.k5 5<|.kg 5<|.rt (Z5 (Zan (⟨a0.Kind,a0.N,0,a0.Filter⟩:Zbi)) (Zan (⟨a0.Kind,0,0,(⟨0,0,0,0,0,0,0,([]:By),0,0,(⟨0,0⟩:Zb),(⟨0,0⟩:Zb),(⟨0,0⟩:Zb)⟩:Zd)⟩:Zbi))))<|.k5 5<|.kg 5<|.rt false)<|.k4 4<|.b5 false<|.kb false<|.rt false)<|.cs (decide (a0.Kind>=0)) (.k4 3<|.cs (decide (a0.Kind<=7)) (.k5 4<|.kg 4<|.rt (Z5 (Zan a0) (Zan (⟨a0.Kind,0,0,(⟨0,0,0,0,0,0,0,([]:By),0,0,(⟨0,0⟩:Zb),(⟨0,0⟩:Zb),(⟨0,0⟩:Zb)⟩:Zd)⟩:Zbi))))<|.k5 4<|.kg 4<|.rt false)<|.k4 3<|.b5 false<|.kb false<|.rt false
def Zav6:LF Empty Bool := .z0 225 [.t 2] wB
def Za5g:=fun a0=>Zav6.run (Zav5 a0)
theorem Za5h(a0){r}(h:Za5g a0=some r):Fn PR 225 [wA (Zan a0)] (wB r):=Zav6.fn h
def Zalo(a0:List Zi):LT Empty Bool:=
.call (Ztd a0) fun x1=>.rt (!(x1==([]:By)))
def Zalp:LF Empty Bool := .z0 226 [.t 2] wB
def Zav7:=fun a0=>Zalp.run (Zalo a0)
theorem Zaze(a0){r}(h:Zav7 a0=some r):Fn PR 226 [wL Zm a0] (wB r):=Zalp.fn h
inductive Ztf where
 | L0 (E0:A6 Int) (E1:Zs) (E2:Zs) (v4:Int)
def Zagc(E0:A6 Int)(E1:Zs)(E2:Zs)(v4:Int):LT Ztf Zs:=
.br (decide (v4 < 5)) (.idA (Zf.int .i64) (A6.list E0) (IntKind.wrap .i64 (v4+1)) (bx ((cA6 (cI .i64)) E0)) 0 6 fun x4=>.ldC (Zf.int .i64) 16 x4 0<|.idA (Zf.int .i64) (A5.list E2.Color) v4 (bx (Zae E2)) 2 7 fun x6=>.stA (A5.set? E2.Color v4 x4) (fun h=>Zbc4 (Zf.int .i64) ((bx (Zae E2)).take 2) ((bx (Zae E2)).drop 7) h) fun x8=>.g0 (.L0 E0 E1 (⟨E2.Generic,E2.X,x8⟩:Zs) (IntKind.wrap .i64 (v4+1))))<|.rt E2
def Zalq(a0:A6 Int):LT Ztf Zs:=
.lb 1001<|.lb 1002<|.idA (Zf.int .i64) (A6.list a0) 0 (bx ((cA6 (cI .i64)) a0)) 0 6 fun x1=>.ldC (Zf.int .i64) 6 x1 0<|.lb 1003<|.go (.L0 a0 (⟨0,0,(⟨0,0,0,0,0⟩:A5 Int)⟩:Zs) (⟨x1,0,(⟨0,0,0,0,0⟩:A5 Int)⟩:Zs) 0) (tm13 1000 3000)
def Z8d:LF Ztf Zs := .m0 260 [.c 2 60 true 7] (fun r=>(wA (Zae r))) fun | .L0 E0 E1 E2 v4=>([1,1,0,1,4],⟨20,[(1,.bptr 3000 0),(2,.bptr 3001 0),(3,.bptr 3002 0),(4,wI v4)],[(3000,.box (bx ((cA6 (cI .i64)) E0))),(3001,.box (bx (Zae E1))),(3002,.box (bx (Zae E2)))]⟩,Zagc E0 E1 E2 v4)
def Zav8:=fun a0=>Z8d.run (Zalq a0)
theorem Zazf(a0){r}(h:Zav8 a0=some r):Fn PR 260 [wA ((cA6 (cI .i64)) a0)] (wA (Zae r)):=Z8d.fn h
inductive Zmt where
 | L0 (E0:Zs) (v3:By) (v4:Int)
 | L1 (E0:Zs) (v3:By) (v5:Int)
 | L2 (E0:Zs) (v3:By) (v5:Int) (v6:Int)
def Zagd(E0:Zs)(v3:By)(v4:Int):LT Zmt (By):=
.br (decide (v4 < E0.X)) (.ok (v3.length+([88]:By).length<=9223372036854775807)<|.g0 (.L0 E0 (v3++([88]:By)) (IntKind.wrap .i64 (v4+1))))<|.br (E0.Generic != 0) (.call (Znr E0.Generic) fun x7=>.ok (v3.length+x7.length<=9223372036854775807)<|.g0 (.L1 E0 (v3++x7) 0))<|.g0 (.L1 E0 v3 0)
def Zage(E0:Zs)(v3:By)(v5:Int):LT Zmt (By):=
.br (decide (v5 < 5)) (.g0 (.L2 E0 v3 v5 0))<|.br (v3==([]:By)) (.rt ([48]:By))<|.rt v3
def Zagf(E0:Zs)(v3:By)(v5:Int)(v6:Int):LT Zmt (By):=
.idA (Zf.int .i64) (A5.list E0.Color) v5 (bx (Zae E0)) 2 7 fun x1=>.ldC (Zf.int .i64) 34 x1 0<|.br (decide (v6 < x1)) (.slS ([65,67,74,82,69]:By) v5 (IntKind.wrap .i64 (v5+1)) fun x6=>.ok (v3.length+x6.length<=9223372036854775807)<|.g0 (.L2 E0 (v3++x6) v5 (IntKind.wrap .i64 (v6+1))))<|.g0 (.L1 E0 v3 (IntKind.wrap .i64 (v5+1)))
def Zalr(a0:Zs):LT Zmt (By):=
.lb 1001<|.call (Zwn a0) fun x1=>.br (!x1) (.rt ([]:By))<|.go (.L0 a0 ([]:By) 0) [.relab 1001 3000]
def Ztg:LF Zmt (By) := .m0 259 [.t 2] wS fun | .L0 E0 v3 v4=>([1,1,1,0,1,4],⟨47,[(1,.bptr 3000 0),(3,wS v3),(4,wI v4)],[(3000,.box (bx (Zae E0)))]⟩,Zagd E0 v3 v4) | .L1 E0 v3 v5=>([1,1,1,1,1,0,1,4],⟨47,[(1,.bptr 3000 0),(3,wS v3),(5,wI v5)],[(3000,.box (bx (Zae E0)))]⟩,Zage E0 v3 v5) | .L2 E0 v3 v5 v6=>([1,1,1,1,1,0,1,4,5,1,0,4,1,4],⟨47,[(1,.bptr 3000 0),(3,wS v3),(5,wI v5),(6,wI v6)],[(3000,.box (bx (Zae E0)))]⟩,Zagf E0 v3 v5 v6)
def Zav9:=fun a0=>Ztg.run (Zalr a0)
theorem Zazg(a0){r}(h:Zav9 a0=some r):Fn PR 259 [wA (Zae a0)] (wS r):=Ztg.fn h
def Z6m(a0:A6 Int):LT Empty (By):=
.lb 1001<|.call (Zazf a0) fun x1=>.call (Zazg x1) fun x3=>.rt x3
def Z6n:LF Empty (By) := .z0 227 [.t 2] wS
def Zab1:=fun a0=>Z6n.run (Z6m a0)
theorem Zals(a0){r}(h:Zab1 a0=some r):Fn PR 227 [wA ((cA6 (cI .i64)) a0)] (wS r):=Z6n.fn h
def Zab2(a0:Int)(a1:Zd):LT Empty Bool:=
.lb 1003<|.br (a0==21) (.call (Zhr a1) fun x2=>.cs x2 (.k5 1<|.rt (a1.Zone==2))<|.k5 1<|.rt false)<|.call (Zhr a1) fun x5=>.cs x5 (.k5 1<|.rt (a1.Zone==0))<|.k5 1<|.rt false
def Zab3:LF Empty Bool := .z0 228 [.t 4] wB
def Zalt:=fun a0 a1=>Zab3.run (Zab2 a0 a1)
theorem Zary(a0)(a1){r}(h:Zalt a0 a1=some r):Fn PR 228 [wI a0,wA (Zo a1)] (wB r):=Zab3.fn h
inductive Zh8 where
 | L0 (E0:Zt) (v5:Bool)
 | L1 (E0:Zt) (v5:Bool) (v6:Bool)
 | L2 (E0:Zt) (v5:Bool) (v6:Bool) (v7:Bool)
 | L3 (E0:Zt) (v5:Bool) (v6:Bool) (v7:Bool) (v8:Bool)
 | L4 (E0:Zt) (v5:Bool) (v6:Bool) (v7:Bool) (v8:Bool) (v9:Bool)
 | L5 (E0:Zt) (v5:Bool) (v6:Bool) (v7:Bool) (v8:Bool) (v9:Bool) (v10:Bool)
 | L6 (E0:Zt) (v5:Bool) (v6:Bool) (v7:Bool) (v8:Bool) (v9:Bool) (v10:Bool) (v11:Bool)
 | L7 (v5:Bool) (v6:Bool) (v7:Bool) (v8:Bool) (v9:Bool) (v10:Bool) (v11:Bool) (v12:Bool)
def Zww(v5:Bool)(v6:Bool)(v7:Bool)(v8:Bool)(v9:Bool)(v10:Bool)(v11:Bool)(v12:Bool):LT Zh8 Bool:=
.cs v5 (.k2 0<|.cs v6 (.k2 1<|.cs v7 (.k2 2<|.cs v8 (.k2 3<|.cs v9 (.k2 4<|.cs v10 (.k2 5<|.cs v11 (.k2 6<|.rt v12)<|.k2 6<|.rt false)<|.k2 5<|.b2 false<|.rt false)<|.k2 4<|.b4 false<|.rt false)<|.k2 3<|.b5 false<|.kb false<|.rt false)<|.k2 2<|.b8 false<|.rt false)<|.k2 1<|.b8 false<|.b2 false<|.rt false)<|.k2 0<|.b8 false<|.b4 false<|.rt false
def Zsf(E0:Zt)(v5:Bool)(v6:Bool)(v7:Bool)(v8:Bool)(v9:Bool)(v10:Bool)(v11:Bool):LT Zh8 Bool:=
.call (Ziy E0.Op 102) fun x1=>.br x1 (.call (Zary E0.Op E0.Filter) fun x4=>.j0 (.L7 v5 v6 v7 v8 v9 v10 v11 x4) (Zww v5 v6 v7 v8 v9 v10 v11 x4))<|.j0 (.L7 v5 v6 v7 v8 v9 v10 v11 (Z5 (Zo E0.Filter) (Zo (⟨0,0,0,0,0,0,0,([]:By),0,0,(⟨0,0⟩:Zb),(⟨0,0⟩:Zb),(⟨0,0⟩:Zb)⟩:Zd)))) (Zww v5 v6 v7 v8 v9 v10 v11 (Z5 (Zo E0.Filter) (Zo (⟨0,0,0,0,0,0,0,([]:By),0,0,(⟨0,0⟩:Zb),(⟨0,0⟩:Zb),(⟨0,0⟩:Zb)⟩:Zd))))
def Zwx(E0:Zt)(v5:Bool)(v6:Bool)(v7:Bool)(v8:Bool)(v9:Bool)(v10:Bool):LT Zh8 Bool:=
.call (Ziy E0.Op 112) fun x1=>.br x1 (.cs (!(Z5 ((cA6 (cI .i64)) E0.Pool) ((cA6 (cI .i64)) (⟨0,0,0,0,0,0⟩:A6 Int)))) (.k3 1<|.call (Zals E0.Pool) fun x5=>.k2 1<|.j0 (.L6 E0 v5 v6 v7 v8 v9 v10 (!(x5==([]:By)))) (Zsf E0 v5 v6 v7 v8 v9 v10 (!(x5==([]:By)))))<|.k5 1<|.j0 (.L6 E0 v5 v6 v7 v8 v9 v10 false) (Zsf E0 v5 v6 v7 v8 v9 v10 false))<|.j0 (.L6 E0 v5 v6 v7 v8 v9 v10 (Z5 ((cA6 (cI .i64)) E0.Pool) ((cA6 (cI .i64)) (⟨0,0,0,0,0,0⟩:A6 Int)))) (Zsf E0 v5 v6 v7 v8 v9 v10 (Z5 ((cA6 (cI .i64)) E0.Pool) ((cA6 (cI .i64)) (⟨0,0,0,0,0,0⟩:A6 Int))))
def Zwy(E0:Zt)(v5:Bool)(v6:Bool)(v7:Bool)(v8:Bool)(v9:Bool):LT Zh8 Bool:=
.len Zm E0.Mods<|.call (Ziy E0.Op 109) fun x2=>.br x2 (.call (Zaze E0.Mods) fun x5=>.j0 (.L5 E0 v5 v6 v7 v8 v9 x5) (Zwx E0 v5 v6 v7 v8 v9 x5))<|.j0 (.L5 E0 v5 v6 v7 v8 v9 ((E0.Mods.length:Int)==0)) (Zwx E0 v5 v6 v7 v8 v9 ((E0.Mods.length:Int)==0))
def Zwz(E0:Zt)(v5:Bool)(v6:Bool)(v7:Bool)(v8:Bool):LT Zh8 Bool:=
.call (Ziy E0.Op 97) fun x1=>.br x1 (.call (Za5h E0.Amount) fun x4=>.j0 (.L4 E0 v5 v6 v7 v8 x4) (Zwy E0 v5 v6 v7 v8 x4))<|.j0 (.L4 E0 v5 v6 v7 v8 (Z5 (Zan E0.Amount) (Zan (⟨0,0,0,(⟨0,0,0,0,0,0,0,([]:By),0,0,(⟨0,0⟩:Zb),(⟨0,0⟩:Zb),(⟨0,0⟩:Zb)⟩:Zd)⟩:Zbi)))) (Zwy E0 v5 v6 v7 v8 (Z5 (Zan E0.Amount) (Zan (⟨0,0,0,(⟨0,0,0,0,0,0,0,([]:By),0,0,(⟨0,0⟩:Zb),(⟨0,0⟩:Zb),(⟨0,0⟩:Zb)⟩:Zd)⟩:Zbi))))
def Zsg(E0:Zt)(v5:Bool)(v6:Bool)(v7:Bool):LT Zh8 Bool:=
.call (Ziy E0.Op 99) fun x1=>.br x1 (.call (Zabj E0.Card) fun x4=>.j0 (.L3 E0 v5 v6 v7 x4) (Zwz E0 v5 v6 v7 x4))<|.j0 (.L3 E0 v5 v6 v7 (E0.Card==([]:By))) (Zwz E0 v5 v6 v7 (E0.Card==([]:By)))
def Zon(E0:Zt)(v5:Bool)(v6:Bool):LT Zh8 Bool:=
.cs (E0.Counter==0) (.k5 0<|.kg 0<|.j0 (.L2 E0 v5 v6 true) (Zsg E0 v5 v6 true))<|.k3 0<|.call (Ziy E0.Op 107) fun x2=>.kg 0<|.cs x2 (.k3 1<|.call (Zagb E0.Counter) fun x5=>.kg 1<|.kg 0<|.kg 1<|.kg 0<|.j0 (.L2 E0 v5 v6 (!(x5==([]:By)))) (Zsg E0 v5 v6 (!(x5==([]:By)))))<|.k4 1<|.kg 0<|.kg 1<|.kg 0<|.j0 (.L2 E0 v5 v6 false) (Zsg E0 v5 v6 false)
def Zw0(E0:Zt)(v5:Bool):LT Zh8 Bool:=
.cs (E0.Zone==0) (.k8 0<|.j0 (.L1 E0 v5 true) (Zon E0 v5 true))<|.k3 0<|.call (Ziy E0.Op 122) fun x2=>.kg 0<|.cs x2 (.k3 1<|.kg 0<|.kg 1<|.kg 0<|.cs (decide (E0.Zone > 0)) (.k3 2<|.kg 0<|.kg 2<|.kg 0<|.j0 (.L1 E0 v5 (decide (E0.Zone<=4))) (Zon E0 v5 (decide (E0.Zone<=4))))<|.k3 2<|.kg 0<|.kg 2<|.kg 0<|.j0 (.L1 E0 v5 false) (Zon E0 v5 false))<|.k3 1<|.kg 0<|.kg 1<|.kg 0<|.b3 false<|.kg 0<|.kb false<|.kg 0<|.j0 (.L1 E0 v5 false) (Zon E0 v5 false)
def Zawa(a0:Zt)(a1:Int):LT Zh8 Bool:=
.lb 1002<|.call (Zazc a0.Op) fun x1=>.br (x1==([]:By)) (.rt false)<|.call (Ziy a0.Op 114) fun x4=>.br x4 (.call (Za5f a0.Ref a1) fun x7=>.jn 0 (.L0 a0 x7) [.relab 1002 3000] (Zw0 a0 x7))<|.jn 0 (.L0 a0 (Z5 (Zdd a0.Ref) (Zdd (⟨0,0,(⟨0,0,0,0,0,0,0,([]:By),0,0,(⟨0,0⟩:Zb),(⟨0,0⟩:Zb),(⟨0,0⟩:Zb)⟩:Zd)⟩:Zgt)))) [.relab 1002 3000] (Zw0 a0 (Z5 (Zdd a0.Ref) (Zdd (⟨0,0,(⟨0,0,0,0,0,0,0,([]:By),0,0,(⟨0,0⟩:Zb),(⟨0,0⟩:Zb),(⟨0,0⟩:Zb)⟩:Zd)⟩:Zgt))))
def Zawb:LF Zh8 Bool := .m0 180 [.t 4] wB fun | .L0 E0 v5=>([1,1,1,1],⟨138,[(2,.bptr 3000 0),(5,wB v5)],[(3000,.box (bx (Zq E0)))]⟩,Zw0 E0 v5) | .L1 E0 v5 v6=>([1,1,1,1,1],⟨138,[(2,.bptr 3000 0),(5,wB v5),(6,wB v6)],[(3000,.box (bx (Zq E0)))]⟩,Zon E0 v5 v6) | .L2 E0 v5 v6 v7=>([1,1,1,1,1,1],⟨138,[(2,.bptr 3000 0),(5,wB v5),(6,wB v6),(7,wB v7)],[(3000,.box (bx (Zq E0)))]⟩,Zsg E0 v5 v6 v7) | .L3 E0 v5 v6 v7 v8=>([1,1,1,1,1,1,1,1],⟨138,[(2,.bptr 3000 0),(5,wB v5),(6,wB v6),(7,wB v7),(8,wB v8)],[(3000,.box (bx (Zq E0)))]⟩,Zwz E0 v5 v6 v7 v8) | .L4 E0 v5 v6 v7 v8 v9=>([1,1,1,1,1,1,1,1,1,1],⟨138,[(2,.bptr 3000 0),(5,wB v5),(6,wB v6),(7,wB v7),(8,wB v8),(9,wB v9)],[(3000,.box (bx (Zq E0)))]⟩,Zwy E0 v5 v6 v7 v8 v9) | .L5 E0 v5 v6 v7 v8 v9 v10=>([1,1,1,1,1,1,1,1,1,1,1,1],⟨138,[(2,.bptr 3000 0),(5,wB v5),(6,wB v6),(7,wB v7),(8,wB v8),(9,wB v9),(10,wB v10)],[(3000,.box (bx (Zq E0)))]⟩,Zwx E0 v5 v6 v7 v8 v9 v10) | .L6 E0 v5 v6 v7 v8 v9 v10 v11=>([1,1,1,1,1,1,1,1,1,1,1,1,1,1],⟨138,[(2,.bptr 3000 0),(5,wB v5),(6,wB v6),(7,wB v7),(8,wB v8),(9,wB v9),(10,wB v10),(11,wB v11)],[(3000,.box (bx (Zq E0)))]⟩,Zsf E0 v5 v6 v7 v8 v9 v10 v11) | .L7 v5 v6 v7 v8 v9 v10 v11 v12=>([1,1,1,1,1,1,1,1,1,1,1,1,1,1,1,1],⟨138,[(5,wB v5),(6,wB v6),(7,wB v7),(8,wB v8),(9,wB v9),(10,wB v10),(11,wB v11),(12,wB v12)],[]⟩,Zww v5 v6 v7 v8 v9 v10 v11 v12)
def Za5i:=fun a0 a1=>Zawb.run (Zawa a0 a1)
theorem Za5j(a0)(a1){r}(h:Za5i a0 a1=some r):Fn PR 180 [wA (Zq a0),wI a1] (wB r):=Zawb.fn h
inductive Zm2 where
 | L0 (v0:List Zt) (v1:Int) (v5:Int)
def Z6o(v0:List Zt)(v1:Int)(v5:Int):LT Zm2 Bool:=
.len Zq v0<|.br (decide (v5 < (v0.length:Int))) (.idx Zq v0 v5 fun x3=>.call (Za5j x3 v1) fun x5=>.br (!x5) (.rt false)<|.g0 (.L0 v0 v1 (IntKind.wrap .i64 (v5+1))))<|.len Zq v0<|.cs (decide ((v0.length:Int)>=1)) (.k2 1<|.len Zq v0<|.k2 1<|.rt (decide ((v0.length:Int)<=8)))<|.k4 1<|.rt false
def Z9g(a0:List Zt)(a1:Int):LT Zm2 Bool:=
.g0 (.L0 a0 a1 0)
def Zx2:LF Zm2 Bool := .m0 128 [.t 4] wB fun | .L0 v0 v1 v5=>([1,0,1,4],⟨27,[(0,wL Zq v0),(1,wI v1),(5,wI v5)],[]⟩,Z6o v0 v1 v5)
def Zagg:=fun a0 a1=>Zx2.run (Z9g a0 a1)
theorem Zaoh(a0)(a1){r}(h:Zagg a0 a1=some r):Fn PR 128 [wL Zq a0,wI a1] (wB r):=Zx2.fn h
inductive Zmu where
 | L0 (E0:Ze) (v3:Bool)
 | L1 (E0:Ze) (v3:Bool)
 | L2 (E0:Ze) (v3:Bool)
 | L3 (E0:Ze) (v3:Bool)
 | L4 (E0:Ze) (v3:Bool)
def Zw1(E0:Ze)(v3:Bool):LT Zmu Bool:=
.br v3 (.call (Zavy E0.Specs) fun x2=>.cs x2 (.k5 1<|.len Z8 E0.Specs<|.kg 1<|.call (Zaoh E0.Effects (E0.Specs.length:Int)) fun x6=>.kg 1<|.rt x6)<|.k5 1<|.k2 1<|.rt false)<|.len Z8 E0.Specs<|.cs ((E0.Specs.length:Int)==0) (.k3 1<|.len Zq E0.Effects<|.k2 1<|.rt ((E0.Effects.length:Int)==0))<|.k5 1<|.rt false
def Zw2(E0:Ze)(v3:Bool):LT Zmu Bool:=
.br (E0.Kind==5) (.call (Za5d E0.Replace) fun x2=>.br (!x2) (.rt false)<|.j0 (.L4 E0 v3) (Zw1 E0 v3))<|.br (!(Z5 (Zbe E0.Replace) (Zbe (⟨0,0,(⟨0,0,0,0,0,0,0,([]:By),0,0,(⟨0,0⟩:Zb),(⟨0,0⟩:Zb),(⟨0,0⟩:Zb)⟩:Zd),0,0,0,0⟩:Zay)))) (.rt false)<|.j0 (.L4 E0 v3) (Zw1 E0 v3)
def Zw3(E0:Ze)(v3:Bool):LT Zmu Bool:=
.br (E0.Kind==4) (.call (Za5b E0.Trigger) fun x2=>.br (!x2) (.rt false)<|.j0 (.L3 E0 v3) (Zw2 E0 v3))<|.cs (!(Z5 (Zb7 E0.Trigger) (Zb7 (⟨0,0,(⟨0,0,0,0,0,0,0,([]:By),0,0,(⟨0,0⟩:Zb),(⟨0,0⟩:Zb),(⟨0,0⟩:Zb)⟩:Zd)⟩:Zch)))) (.k3 1<|.kn [0]<|.rt false)<|.k3 1<|.br E0.May (.rt false)<|.j0 (.L3 E0 v3) (Zw2 E0 v3)
def Zw4(E0:Ze)(v3:Bool):LT Zmu Bool:=
.br (E0.Kind==3) (.call (Zavp E0.Price) fun x2=>.br (!x2) (.rt false)<|.j0 (.L2 E0 v3) (Zw3 E0 v3))<|.cs (!(Z5 (Zdj E0.Price) (Zdj (⟨(⟨0,0,(⟨0,0,0,0,0⟩:A5 Int)⟩:Zs),false,false,0⟩:Zgx)))) (.k3 1<|.kn [0]<|.rt false)<|.k3 1<|.br E0.Slow (.rt false)<|.j0 (.L2 E0 v3) (Zw3 E0 v3)
def Zsh(E0:Ze)(v3:Bool):LT Zmu Bool:=
.br (E0.Kind==1) (.call (Zhr E0.Filter) fun x2=>.cs (!x2) (.k5 1<|.b5 true<|.kn [0]<|.rt false)<|.k5 1<|.cs (E0.Filter.Zone != 0) (.k5 2<|.kn [0]<|.rt false)<|.k3 2<|.call (Ztd E0.Mods) fun x6=>.k2 2<|.br (x6==([]:By)) (.rt false)<|.j0 (.L1 E0 v3) (Zw4 E0 v3))<|.cs (!(Z5 (Zo E0.Filter) (Zo (⟨0,0,0,0,0,0,0,([]:By),0,0,(⟨0,0⟩:Zb),(⟨0,0⟩:Zb),(⟨0,0⟩:Zb)⟩:Zd)))) (.k5 1<|.kn [0]<|.rt false)<|.k3 1<|.len Zm E0.Mods<|.k2 1<|.br (decide ((E0.Mods.length:Int) > 0)) (.rt false)<|.j0 (.L1 E0 v3) (Zw4 E0 v3)
def Zawc(a0:Ze):LT Zmu Bool:=
.lb 1001<|.cs (decide (a0.Kind < 1)) (.k4 0<|.kn [0]<|.rt false)<|.k4 0<|.br (decide (a0.Kind > 5)) (.rt false)<|.cs (a0.Kind==2) (.k4 2<|.b4 true<|.jn 0 (.L0 a0 true) [.relab 1001 3000] (Zsh a0 true))<|.k4 2<|.cs (a0.Kind==3) (.k4 3<|.jn 0 (.L0 a0 true) [.relab 1001 3000] (Zsh a0 true))<|.k4 3<|.jn 0 (.L0 a0 (a0.Kind==4)) [.relab 1001 3000] (Zsh a0 (a0.Kind==4))
def Zawd:LF Zmu Bool := .m0 78 [.t 2] wB fun | .L0 E0 v3=>([1,1,1],⟨117,[(1,.bptr 3000 0),(3,wB v3)],[(3000,.box (bx (Zg E0)))]⟩,Zsh E0 v3) | .L1 E0 v3=>([1,1,1,1],⟨117,[(1,.bptr 3000 0),(3,wB v3)],[(3000,.box (bx (Zg E0)))]⟩,Zw4 E0 v3) | .L2 E0 v3=>([1,1,1,1,1],⟨117,[(1,.bptr 3000 0),(3,wB v3)],[(3000,.box (bx (Zg E0)))]⟩,Zw3 E0 v3) | .L3 E0 v3=>([1,1,1,1,1,1],⟨117,[(1,.bptr 3000 0),(3,wB v3)],[(3000,.box (bx (Zg E0)))]⟩,Zw2 E0 v3) | .L4 E0 v3=>([1,1,1,1,1,1,1],⟨117,[(1,.bptr 3000 0),(3,wB v3)],[(3000,.box (bx (Zg E0)))]⟩,Zw1 E0 v3)
def Za5k:=fun a0=>Zawd.run (Zawc a0)
theorem Z29(a0){r}(h:Za5k a0=some r):Fn PR 78 [wA (Zg a0)] (wB r):=Zawd.fn h
def Zalu(a0:Zk):LT Empty Bool:=
.lb 1001<|.cs (a0.Line.Types==2) (.k5 0<|.rt true)<|.k5 0<|.rt (a0.Line.Types==4)
def Zalv:LF Empty Bool := .z0 79 [.t 2] wB
def Zawe:=fun a0=>Zalv.run (Zalu a0)
theorem Zazh(a0){r}(h:Zawe a0=some r):Fn PR 79 [wA (Zz a0)] (wB r):=Zalv.fn h
inductive Zu7 where
 | L0 (E0:Zk)
 | L1 (E0:Zk) (v3:Int) (v4:Int)
def Zw5(E0:Zk):LT Zu7 Bool:=
.g0 (.L1 E0 0 0)
def Zaqz(E0:Zk)(v3:Int)(v4:Int):LT Zu7 Bool:=
.len Zg E0.Abilities<|.br (decide (v4 < (E0.Abilities.length:Int))) (.idx Zg E0.Abilities v4 fun x3=>.call (Z29 x3) fun x5=>.br (!x5) (.rt false)<|.ag Zg x3 0<|.br (x3.Kind==2) (.g0 (.L1 E0 (IntKind.wrap .i64 (v3+1)) (IntKind.wrap .i64 (v4+1))))<|.g0 (.L1 E0 v3 (IntKind.wrap .i64 (v4+1))))<|.call (Zazh E0) fun x15=>.br x15 (.cs (!E0.Token) (.k4 2<|.cs (E0.Keys==0) (.k3 3<|.len Zg E0.Abilities<|.k2 3<|.cs ((E0.Abilities.length:Int)==1) (.k3 4<|.rt (v3==1))<|.k3 4<|.rt false)<|.k5 3<|.b3 false<|.rt false)<|.k4 2<|.b8 false<|.rt false)<|.cs (v3==0) (.k4 2<|.cs (!E0.Token) (.k5 3<|.kg 2<|.kg 3<|.kg 2<|.cs ((Za6 .and .i64 E0.Line.Types 32)==0) (.k4 4<|.kg 2<|.kg 4<|.kg 2<|.rt true)<|.k4 4<|.kg 2<|.kg 4<|.kg 2<|.rt (Z5 (Zae E0.Cost) (Zae (⟨0,0,(⟨0,0,0,0,0⟩:A5 Int)⟩:Zs))))<|.k5 3<|.kg 2<|.kg 3<|.kg 2<|.b4 false<|.kg 2<|.kb false<|.kg 2<|.rt (Z5 (Zae E0.Cost) (Zae (⟨0,0,(⟨0,0,0,0,0⟩:A5 Int)⟩:Zs))))<|.k8 2<|.rt false
def Zawf(a0:Zk):LT Zu7 Bool:=
.lb 1001<|.call (Zabj a0.Name) fun x1=>.cs (!x1) (.k5 0<|.b16 true<|.b2 true<|.kn [0]<|.rt false)<|.k3 0<|.call (Zwn a0.Cost) fun x4=>.k2 0<|.cs (!x4) (.k5 1<|.b8 true<|.b5 true<|.kn [0]<|.rt false)<|.k3 1<|.call (Za45 a0.Line) fun x7=>.k2 1<|.cs (!x7) (.k5 2<|.b8 true<|.kn [0]<|.rt false)<|.k3 2<|.call (Zaqq a0.Keys) fun x10=>.k2 2<|.cs (!x10) (.k4 3<|.b4 true<|.kn [0]<|.rt false)<|.k4 3<|.cs (decide (a0.Color < 0)) (.k4 4<|.kn [0]<|.rt false)<|.k4 4<|.br (decide (a0.Color > 31)) (.rt false)<|.cs (decide (a0.Power < 0)) (.k4 6<|.b16 true<|.b3 true<|.kn [0]<|.rt false)<|.k4 6<|.cs (decide (a0.Power > 99)) (.k4 7<|.b8 true<|.b5 true<|.b2 true<|.kn [0]<|.rt false)<|.k4 7<|.cs (decide (a0.Tough < 0)) (.k4 8<|.b8 true<|.b3 true<|.kn [0]<|.rt false)<|.k4 8<|.cs (decide (a0.Tough > 99)) (.k5 9<|.kg 9<|.b5 true<|.kn [0]<|.rt false)<|.k2 9<|.call (Zaks a0) fun x19=>.k2 9<|.cs (!x19) (.k4 10<|.cs (a0.Power != 0) (.k3 11<|.kg 10<|.kg 11<|.kg 9<|.kg 10<|.kg 9<|.b5 true<|.kn [0]<|.rt false)<|.k3 11<|.kg 10<|.kg 11<|.kg 9<|.kg 10<|.kg 9<|.cs (a0.Tough != 0) (.k5 12<|.kn [0]<|.rt false)<|.k3 12<|.len Zg a0.Abilities<|.k2 12<|.br (decide ((a0.Abilities.length:Int) > 8)) (.rt false)<|.jn 0 (.L0 a0) [.relab 1001 3000] (Zw5 a0))<|.k5 10<|.kg 9<|.kg 10<|.kg 9<|.b3 false<|.len Zg a0.Abilities<|.b2 false<|.br (decide ((a0.Abilities.length:Int) > 8)) (.rt false)<|.jn 0 (.L0 a0) [.relab 1001 3000] (Zw5 a0)
def Zaij:LF Zu7 Bool := .m0 43 [.t 2] wB fun | .L0 E0=>([1,1,1],⟨139,[(1,.bptr 3000 0)],[(3000,.box (bx (Zz E0)))]⟩,Zw5 E0) | .L1 E0 v3 v4=>([1,1,1,1,0,1,4],⟨139,[(1,.bptr 3000 0),(3,wI v3),(4,wI v4)],[(3000,.box (bx (Zz E0)))]⟩,Zaqz E0 v3 v4)
def Za5l:=fun a0=>Zaij.run (Zawf a0)
theorem Za5m(a0){r}(h:Za5l a0=some r):Fn PR 43 [wA (Zz a0)] (wB r):=Zaij.fn h
inductive Zth where
 | L0 (v0:List Zk) (v1:By) (v5:Int)
def Zagh(v0:List Zk)(v1:By)(v5:Int):LT Zth Int:=
.len Zz v0<|.br (decide (v5 < (v0.length:Int))) (.idx Zz v0 v5 fun x3=>.br (x3.Name==v1) (.rt v5)<|.g0 (.L0 v0 v1 (IntKind.wrap .i64 (v5+1))))<|.rt (-1)
def Zalw(a0:List Zk)(a1:By):LT Zth Int:=
.g0 (.L0 a0 a1 0)
def Z8e:LF Zth Int := .m0 44 [.t 4] wI fun | .L0 v0 v1 v5=>([1,0,1,4],⟨20,[(0,wL Zz v0),(1,wS v1),(5,wI v5)],[]⟩,Zagh v0 v1 v5)
def Zawg:=fun a0 a1=>Z8e.run (Zalw a0 a1)
theorem Zazi(a0)(a1){r}(h:Zawg a0 a1=some r):Fn PR 44 [wL Zz a0,wS a1] (wI r):=Z8e.fn h
inductive Zqu where
 | L0 (v0:List Zk) (v1:By) (v5:Int)
def Zab4(v0:List Zk)(v1:By)(v5:Int):LT Zqu Bool:=
.len Zz v0<|.br (decide (v5 < (v0.length:Int))) (.idx Zz v0 v5 fun x3=>.cs (x3.Name==v1) (.k3 1<|.ag Zz x3 0<|.k3 1<|.br x3.Token (.rt true)<|.g0 (.L0 v0 v1 (IntKind.wrap .i64 (v5+1))))<|.k5 1<|.kg 1<|.kn [0]<|.g0 (.L0 v0 v1 (IntKind.wrap .i64 (v5+1))))<|.rt false
def Zagi(a0:List Zk)(a1:By):LT Zqu Bool:=
.g0 (.L0 a0 a1 0)
def Z42:LF Zqu Bool := .m0 80 [.t 4] wB fun | .L0 v0 v1 v5=>([1,0,1,4],⟨26,[(0,wL Zz v0),(1,wS v1),(5,wI v5)],[]⟩,Zab4 v0 v1 v5)
def Zaq0:=fun a0 a1=>Z42.run (Zagi a0 a1)
theorem Zawh(a0)(a1){r}(h:Zaq0 a0 a1=some r):Fn PR 80 [wL Zz a0,wS a1] (wB r):=Z42.fn h
inductive Zjv where
 | L0 (v0:List Zk) (E0:Zk) (v5:Int)
 | L1 (v0:List Zk) (E0:Zk) (v5:Int) (v6:Int)
def Z6p(v0:List Zk)(E0:Zk)(v5:Int):LT Zjv Bool:=
.len Zg E0.Abilities<|.br (decide (v5 < (E0.Abilities.length:Int))) (.g0 (.L1 v0 E0 v5 0))<|.rt true
def Z6q(v0:List Zk)(E0:Zk)(v5:Int)(v6:Int):LT Zjv Bool:=
.idx Zg E0.Abilities v5 fun x1=>.len Zq x1.Effects<|.br (decide (v6 < (x1.Effects.length:Int))) (.ag Zg x1 0<|.idx Zq x1.Effects v6 fun x5=>.lb 1007<|.cs (x5.Op==12) (.k4 1<|.call (Zawh v0 x5.Card) fun x8=>.k2 1<|.br (!x8) (.rt false)<|.g0 (.L1 v0 E0 v5 (IntKind.wrap .i64 (v6+1))))<|.k5 1<|.kg 1<|.kn [0]<|.g0 (.L1 v0 E0 v5 (IntKind.wrap .i64 (v6+1))))<|.g0 (.L0 v0 E0 (IntKind.wrap .i64 (v5+1)))
def Z9h(a0:List Zk)(a1:Zk):LT Zjv Bool:=
.lb 1003<|.go (.L0 a0 a1 0) [.relab 1003 3000]
def Zrk:LF Zjv Bool := .m0 45 [.t 4] wB fun | .L0 v0 E0 v5=>([1,0,1,4],⟨45,[(0,wL Zz v0),(3,.bptr 3000 0),(5,wI v5)],[(3000,.box (bx (Zz E0)))]⟩,Z6p v0 E0 v5) | .L1 v0 E0 v5 v6=>([1,0,1,4,5,1,0,4,1,4],⟨45,[(0,wL Zz v0),(3,.bptr 3000 0),(5,wI v5),(6,wI v6)],[(3000,.box (bx (Zz E0)))]⟩,Z6q v0 E0 v5 v6)
def Zagj:=fun a0 a1=>Zrk.run (Z9h a0 a1)
theorem Zaoi(a0)(a1){r}(h:Zagj a0 a1=some r):Fn PR 45 [wL Zz a0,wA (Zz a1)] (wB r):=Zrk.fn h
inductive Zqv where
 | L0 (v0:List Zk) (v4:Int)
def Zab5(v0:List Zk)(v4:Int):LT Zqv (Int×Int):=
.len Zz v0<|.br (decide (v4 < (v0.length:Int))) (.idx Zz v0 v4 fun x3=>.call (Za5m x3) fun x5=>.br (!x5) (.rt (v4,9))<|.ag Zz x3 0<|.call (Zazi v0 x3.Name) fun x8=>.br (decide (x8 < v4)) (.rt (v4,6))<|.ag Zz x3 0<|.call (Zaoi v0 x3) fun x11=>.br (!x11) (.rt (v4,7))<|.g0 (.L0 v0 (IntKind.wrap .i64 (v4+1))))<|.rt ((-1),0)
def Zagk(a0:List Zk):LT Zqv (Int×Int):=
.len Zz a0<|.br (decide ((a0.length:Int) > 256)) (.rt ((-1),5))<|.g0 (.L0 a0 0)
def Z43:LF Zqv (Int×Int) := .m0 28 [.t 2,.t 3] (fun r=>(.tup [wI r.1,wI r.2])) fun | .L0 v0 v4=>([1,1,0,1,4],⟨39,[(0,wL Zz v0),(4,wI v4)],[]⟩,Zab5 v0 v4)
def Zaq1:=fun a0=>Z43.run (Zagk a0)
theorem Zawi(a0){r}(h:Zaq1 a0=some r):Fn PR 28 [wL Zz a0] (.tup [wI r.1,wI r.2]):=Z43.fn h
def Zawj(a0:Int)(a1:Int)(a2:Int):LT Empty Bool:=
.cs (decide (a0>=a1)) (.k4 0<|.rt (decide (a0<=a2)))<|.k4 0<|.rt false
def Zawk:LF Empty Bool := .z0 46 [.t 6] wB
def Za5n:=fun a0 a1 a2=>Zawk.run (Zawj a0 a1 a2)
theorem Zff(a0)(a1)(a2){r}(h:Za5n a0 a1 a2=some r):Fn PR 46 [wI a0,wI a1,wI a2] (wB r):=Zawk.fn h
inductive Zqw where
 | L0 (E0:A6 Int) (v3:Int)
def Zab6(E0:A6 Int)(v3:Int):LT Zqw Bool:=
.br (decide (v3 < 6)) (.idA (Zf.int .i64) (A6.list E0) v3 (bx ((cA6 (cI .i64)) E0)) 0 6 fun x2=>.ldC (Zf.int .i64) 10 x2 0<|.cs (decide (x2 < 0)) (.k5 1<|.kn [0]<|.rt false)<|.k2 1<|.idA (Zf.int .i64) (A6.list E0) v3 (bx ((cA6 (cI .i64)) E0)) 0 6 fun x5=>.kg 1<|.ldC (Zf.int .i64) 15 x5 1<|.k2 1<|.br (decide (x5 > 1000000)) (.rt false)<|.g0 (.L0 E0 (IntKind.wrap .i64 (v3+1))))<|.rt true
def Zagl(a0:A6 Int):LT Zqw Bool:=
.lb 1001<|.go (.L0 a0 0) [.relab 1001 3000]
def Z44:LF Zqw Bool := .m0 81 [.t 2] wB fun | .L0 E0 v3=>([1,0,1,4],⟨18,[(1,.bptr 3000 0),(3,wI v3)],[(3000,.box (bx ((cA6 (cI .i64)) E0)))]⟩,Zab6 E0 v3)
def Zaq2:=fun a0=>Z44.run (Zagl a0)
theorem Zawl(a0){r}(h:Zaq2 a0=some r):Fn PR 81 [wA ((cA6 (cI .i64)) a0)] (wB r):=Z44.fn h
inductive Zqx where
 | L0 (v1:Int) (E0:Zn) (v5:Int)
def Zab7(v1:Int)(E0:Zn)(v5:Int):LT Zqx Int:=
.len Zl E0.Objects<|.br (decide (v5 < (E0.Objects.length:Int))) (.idx Zl E0.Objects v5 fun x3=>.br (x3.Id==v1) (.rt v5)<|.g0 (.L0 v1 E0 (IntKind.wrap .i64 (v5+1))))<|.rt (-1)
def Zagm(a0:Zn)(a1:Int):LT Zqx Int:=
.lb 1002<|.go (.L0 a1 a0 0) [.relab 1002 3000]
def Z45:LF Zqx Int := .m0 229 [.t 4] wI fun | .L0 v1 E0 v5=>([1,0,1,4],⟨22,[(1,wI v1),(2,.bptr 3000 0),(5,wI v5)],[(3000,.box (bx (Zad E0)))]⟩,Zab7 v1 E0 v5)
def Zaq3:=fun a0 a1=>Z45.run (Zagm a0 a1)
theorem Zawm(a0)(a1){r}(h:Zaq3 a0 a1=some r):Fn PR 229 [wA (Zad a0),wI a1] (wI r):=Z45.fn h
def Zalx(a0:Zn)(a1:Int):LT Empty (Zc×Bool):=
.lb 1002<|.lb 1004<|.call (Zawm a0 a1) fun x1=>.br (decide (x1 < 0)) (.rt ((⟨0,0,0,0,0,false,false,false,false,0,(⟨0,0,0⟩:A3 Int),0,0,0,false,0,0⟩:Zc),false))<|.idx Zl a0.Objects x1 fun x4=>.rt (x4,true)
def Zaly:LF Empty (Zc×Bool) := .z0 181 [.c 4 56 true 19,.t 5] (fun r=>(.tup [wA (Zl r.1),wB r.2]))
def Zawn:=fun a0 a1=>Zaly.run (Zalx a0 a1)
theorem Zazj(a0)(a1){r}(h:Zawn a0 a1=some r):Fn PR 181 [wA (Zad a0),wI a1] (.tup [wA (Zl r.1),wB r.2]):=Zaly.fn h
def Zab8(a0:Zn)(a1:Int):LT Empty (Zc×Bool):=
.lb 1002<|.lb 1004<|.call (Zazj a0 a1) fun x1=>.rt (x1.1,x1.2)
def Zab9:LF Empty (Zc×Bool) := .z0 129 [.c 4 56 true 19,.t 5] (fun r=>(.tup [wA (Zl r.1),wB r.2]))
def Zalz:=fun a0 a1=>Zab9.run (Zab8 a0 a1)
theorem Z9i(a0)(a1){r}(h:Zalz a0 a1=some r):Fn PR 129 [wA (Zad a0),wI a1] (.tup [wA (Zl r.1),wB r.2]):=Zab9.fn h
inductive Zqy where
 | L0 (v0:List Int) (v1:Int) (v5:Int) (v6:Int)
def Zaca(v0:List Int)(v1:Int)(v5:Int)(v6:Int):LT Zqy Int:=
.len (cI .i64) v0<|.br (decide (v6 < (v0.length:Int))) (.idx (cI .i64) v0 v6 fun x3=>.br (x3==v1) (.g0 (.L0 v0 v1 (IntKind.wrap .i64 (v5+1)) (IntKind.wrap .i64 (v6+1))))<|.g0 (.L0 v0 v1 v5 (IntKind.wrap .i64 (v6+1))))<|.rt v5
def Zagn(a0:List Int)(a1:Int):LT Zqy Int:=
.g0 (.L0 a0 a1 0 0)
def Z46:LF Zqy Int := .m0 130 [.t 4] wI fun | .L0 v0 v1 v5 v6=>([1,1,0,1,4],⟨22,[(0,wL (cI .i64) v0),(1,wI v1),(5,wI v5),(6,wI v6)],[]⟩,Zaca v0 v1 v5 v6)
def Zaq4:=fun a0 a1=>Z46.run (Zagn a0 a1)
theorem Z00(a0)(a1){r}(h:Zaq4 a0 a1=some r):Fn PR 130 [wL (cI .i64) a0,wI a1] (wI r):=Z46.fn h
inductive Zti where
 | L0 (v1:List Int) (v2:Int) (v3:Int) (E0:Zn) (v9:Int)
def Zago(v1:List Int)(v2:Int)(v3:Int)(E0:Zn)(v9:Int):LT Zti Bool:=
.len (cI .i64) v1<|.br (decide (v9 < (v1.length:Int))) (.idx (cI .i64) v1 v9 fun x3=>.call (Z9i E0 x3) fun x5=>.lb 1010<|.cs (!x5.2) (.k5 1<|.b8 true<|.b5 true<|.kn [0]<|.rt false)<|.k5 1<|.cs (x5.1.Zone != v2) (.k5 2<|.b8 true<|.kn [0]<|.rt false)<|.k3 2<|.cs (decide (v3>=0)) (.k4 3<|.kg 2<|.kg 3<|.kg 2<|.cs (x5.1.Owner != v3) (.k8 4<|.kn [0]<|.rt false)<|.k4 4<|.ag (cI .i64) x3 0<|.k2 4<|.call (Z00 v1 x3) fun x11=>.k2 4<|.br (x11 != 1) (.rt false)<|.g0 (.L0 v1 v2 v3 E0 (IntKind.wrap .i64 (v9+1))))<|.k4 3<|.kg 2<|.kg 3<|.kg 2<|.b4 false<|.ag (cI .i64) x3 0<|.b2 false<|.call (Z00 v1 x3) fun x16=>.b2 false<|.br (x16 != 1) (.rt false)<|.g0 (.L0 v1 v2 v3 E0 (IntKind.wrap .i64 (v9+1))))<|.rt true
def Zal0(a0:Zn)(a1:List Int)(a2:Int)(a3:Int):LT Zti Bool:=
.lb 1004<|.go (.L0 a1 a2 a3 a0 0) [.relab 1004 3000]
def Z8f:LF Zti Bool := .m0 82 [.t 8] wB fun | .L0 v1 v2 v3 E0 v9=>([1,0,1,4],⟨54,[(1,wL (cI .i64) v1),(2,wI v2),(3,wI v3),(4,.bptr 3000 0),(9,wI v9)],[(3000,.box (bx (Zad E0)))]⟩,Zago v1 v2 v3 E0 v9)
def Zawo:=fun a0 a1 a2 a3=>Z8f.run (Zal0 a0 a1 a2 a3)
theorem Zqz(a0)(a1)(a2)(a3){r}(h:Zawo a0 a1 a2 a3=some r):Fn PR 82 [wA (Zad a0),wL (cI .i64) a1,wI a2,wI a3] (wB r):=Z8f.fn h
inductive Zm3 where
 | L0 (E0:Zn) (v3:Int)
def Z6r(E0:Zn)(v3:Int):LT Zm3 Bool:=
.len Za9 E0.Players<|.br (decide (v3 < (E0.Players.length:Int))) (.idx Za9 E0.Players v3 fun x3=>.lb 1004<|.call (Zff x3.Life (-1000000) 1000000) fun x5=>.cs (!x5) (.k5 1<|.b8 true<|.b2 true<|.kn [0]<|.rt false)<|.k3 1<|.call (Zff x3.Venom 0 1000000) fun x8=>.k2 1<|.cs (!x8) (.k5 2<|.b5 true<|.kn [0]<|.rt false)<|.k3 2<|.call (Zff x3.Lands 0 1000000) fun x11=>.k2 2<|.cs (!x11) (.k5 3<|.kn [0]<|.rt false)<|.k3 3<|.call (Zawl x3.Pool) fun x14=>.k2 3<|.br (!x14) (.rt false)<|.call (Zqz E0 x3.Library 2 v3) fun x17=>.cs (!x17) (.k5 5<|.k2 5<|.b5 true<|.b2 true<|.kn [0]<|.rt false)<|.k5 5<|.call (Zqz E0 x3.Hand 1 v3) fun x20=>.k2 5<|.cs (!x20) (.k5 6<|.k2 6<|.kn [0]<|.rt false)<|.k5 6<|.call (Zqz E0 x3.Graveyard 3 v3) fun x23=>.k2 6<|.br (!x23) (.rt false)<|.g0 (.L0 E0 (IntKind.wrap .i64 (v3+1))))<|.call (Zqz E0 E0.Battlefield 0 (-1)) fun x28=>.cs x28 (.k4 1<|.call (Zqz E0 E0.Exile 4 (-1)) fun x31=>.kg 1<|.rt x31)<|.k5 1<|.rt false
def Z9j(a0:Zn):LT Zm3 Bool:=
.lb 1001<|.len Za9 a0.Players<|.call (Zff (a0.Players.length:Int) 2 4) fun x2=>.br (!x2) (.rt false)<|.go (.L0 a0 0) [.relab 1001 3000]
def Zx3:LF Zm3 Bool := .m0 47 [.t 2] wB fun | .L0 E0 v3=>([1,1,0,1,4],⟨76,[(1,.bptr 3000 0),(3,wI v3)],[(3000,.box (bx (Zad E0)))]⟩,Z6r E0 v3)
def Zagp:=fun a0=>Zx3.run (Z9j a0)
theorem Zaoj(a0){r}(h:Zagp a0=some r):Fn PR 47 [wA (Zad a0)] (wB r):=Zx3.fn h
def Zacb(a0:Zn)(a1:Int):LT Empty Bool:=
.lb 1002<|.len Za9 a0.Players<|.call (Zff a1 0 (IntKind.wrap .i64 ((a0.Players.length:Int) - 1))) fun x4=>.rt x4
def Zacc:LF Empty Bool := .z0 48 [.t 4] wB
def Zal1:=fun a0 a1=>Zacc.run (Zacb a0 a1)
theorem Zh9(a0)(a1){r}(h:Zal1 a0 a1=some r):Fn PR 48 [wA (Zad a0),wI a1] (wB r):=Zacc.fn h
inductive Z01 where
 | L0 (E0:A3 Int) (v3:Int)
def Zaq5(E0:A3 Int)(v3:Int):LT Z01 Bool:=
.br (decide (v3 < 3)) (.idA (Zf.int .i64) (A3.list E0) v3 (bx ((cA3 (cI .i64)) E0)) 0 3 fun x2=>.ldC (Zf.int .i64) 10 x2 0<|.cs (decide (x2 < 0)) (.k5 1<|.kn [0]<|.rt false)<|.k2 1<|.idA (Zf.int .i64) (A3.list E0) v3 (bx ((cA3 (cI .i64)) E0)) 0 3 fun x5=>.kg 1<|.ldC (Zf.int .i64) 15 x5 1<|.k2 1<|.br (decide (x5 > 1000000)) (.rt false)<|.g0 (.L0 E0 (IntKind.wrap .i64 (v3+1))))<|.rt true
def Zawp(a0:A3 Int):LT Z01 Bool:=
.lb 1001<|.go (.L0 a0 0) [.relab 1001 3000]
def Zaik:LF Z01 Bool := .m0 131 [.t 2] wB fun | .L0 E0 v3=>([1,0,1,4],⟨18,[(1,.bptr 3000 0),(3,wI v3)],[(3000,.box (bx ((cA3 (cI .i64)) E0)))]⟩,Zaq5 E0 v3)
def Za5o:=fun a0=>Zaik.run (Zawp a0)
theorem Za5p(a0){r}(h:Za5o a0=some r):Fn PR 131 [wA ((cA3 (cI .i64)) a0)] (wB r):=Zaik.fn h
def Zal2(a0:Zc):LT Empty Zc:=
.lb 1001<|.lb 1002<|.rt (⟨a0.Id,a0.Card,a0.Owner,a0.Control,a0.Zone,a0.Token,a0.Tapped,a0.Sick,a0.Deadly,a0.Damage,a0.Counters,a0.Stamp,a0.Copy,-1,false,0,a0.Shield⟩:Zc)
def Zal3:LF Empty Zc := .z0 132 [.c 2 56 true 19] (fun r=>(wA (Zl r)))
def Zawq:=fun a0=>Zal3.run (Zal2 a0)
theorem Zazk(a0){r}(h:Zawq a0=some r):Fn PR 132 [wA (Zl a0)] (wA (Zl r)):=Zal3.fn h
def Zagq(a0:Zc):LT Empty Zc:=
.lb 1001<|.lb 1002<|.rt (⟨a0.Id,a0.Card,a0.Owner,a0.Control,a0.Zone,a0.Token,a0.Tapped,a0.Sick,false,0,a0.Counters,a0.Stamp,a0.Copy,a0.Attack,a0.Blocked,a0.Blocks,0⟩:Zc)
def Zagr:LF Empty Zc := .z0 133 [.c 2 56 true 19] (fun r=>(wA (Zl r)))
def Zaq6:=fun a0=>Zagr.run (Zagq a0)
theorem Zawr(a0){r}(h:Zaq6 a0=some r):Fn PR 133 [wA (Zl a0)] (wA (Zl r)):=Zagr.fn h
def Zaws(a0:Zc)(a1:Int)(a2:Int):LT Empty Bool:=
.lb 1003<|.cs (decide (a0.Id < 1)) (.k4 0<|.b16 true<|.b8 true<|.b5 true<|.b2 true<|.kn [0]<|.rt false)<|.k4 0<|.cs (decide (a0.Card < 0)) (.k5 1<|.b16 true<|.b8 true<|.b2 true<|.kn [0]<|.rt false)<|.k5 1<|.cs (decide (a0.Card>=a1)) (.k4 2<|.b16 true<|.b5 true<|.kb true<|.kn [0]<|.rt false)<|.k4 2<|.cs (decide (a0.Owner < 0)) (.k5 3<|.b16 true<|.kb true<|.kn [0]<|.rt false)<|.k5 3<|.cs (decide (a0.Owner>=a2)) (.k4 4<|.b8 true<|.b5 true<|.kn [0]<|.rt false)<|.k4 4<|.cs (decide (a0.Control < 0)) (.k5 5<|.b8 true<|.kn [0]<|.rt false)<|.k5 5<|.cs (decide (a0.Control>=a2)) (.k4 6<|.b4 true<|.kn [0]<|.rt false)<|.k4 6<|.cs (decide (a0.Zone < 0)) (.k4 7<|.kn [0]<|.rt false)<|.k4 7<|.br (decide (a0.Zone > 5)) (.rt false)<|.cs (decide (a0.Damage < 0)) (.k4 9<|.b16 true<|.b8 true<|.kn [0]<|.rt false)<|.k4 9<|.cs (decide (a0.Damage > 1000000)) (.k4 10<|.b16 true<|.b4 true<|.kn [0]<|.rt false)<|.k4 10<|.cs (decide (a0.Stamp < 0)) (.k4 11<|.b16 true<|.kn [0]<|.rt false)<|.k4 11<|.cs (decide (a0.Stamp > 1000000)) (.k4 12<|.b8 true<|.b4 true<|.kn [0]<|.rt false)<|.k4 12<|.cs (decide (a0.Blocks < 0)) (.k4 13<|.b8 true<|.kn [0]<|.rt false)<|.k4 13<|.cs (decide (a0.Blocks > 1000000)) (.k4 14<|.b4 true<|.kn [0]<|.rt false)<|.k4 14<|.cs (decide (a0.Shield < 0)) (.k4 15<|.kn [0]<|.rt false)<|.k4 15<|.br (decide (a0.Shield > 1000000)) (.rt false)<|.call (Za5p a0.Counters) fun x18=>.cs (!x18) (.k4 17<|.b8 true<|.b5 true<|.kb true<|.kn [0]<|.rt false)<|.k4 17<|.cs (decide (a0.Copy < (-1))) (.k5 18<|.b8 true<|.kb true<|.kn [0]<|.rt false)<|.k5 18<|.cs (decide (a0.Copy>=a1)) (.k4 19<|.b5 true<|.kn [0]<|.rt false)<|.k4 19<|.cs (decide (a0.Attack < (-1))) (.k5 20<|.kn [0]<|.rt false)<|.k5 20<|.br (decide (a0.Attack>=a2)) (.rt false)<|.cs (a0.Zone==0) (.k8 22<|.k5 22<|.rt true)<|.k3 22<|.call (Zazk a0) fun x26=>.k2 22<|.cs (Z5 (Zl a0) (Zl x26)) (.k3 23<|.call (Zawr a0) fun x29=>.kg 23<|.kg 22<|.kg 23<|.kg 22<|.cs (Z5 (Zl a0) (Zl x29)) (.k3 24<|.kg 22<|.kg 24<|.kg 22<|.cs (!a0.Tapped) (.k3 25<|.kg 22<|.kg 25<|.kg 22<|.cs (!a0.Sick) (.k4 26<|.kg 22<|.kg 26<|.kg 22<|.rt (Z5 ((cA3 (cI .i64)) a0.Counters) ((cA3 (cI .i64)) (⟨0,0,0⟩:A3 Int))))<|.k4 26<|.kg 22<|.kg 26<|.kg 22<|.rt false)<|.k3 25<|.kg 22<|.kg 25<|.kg 22<|.b4 false<|.kg 22<|.kb false<|.kg 22<|.rt false)<|.k3 24<|.kg 22<|.kg 24<|.kg 22<|.b3 false<|.kg 22<|.kb false<|.kg 22<|.b4 false<|.kg 22<|.kb false<|.kg 22<|.rt false)<|.k4 23<|.kg 22<|.kg 23<|.kg 22<|.b3 false<|.kg 22<|.kb false<|.kg 22<|.b3 false<|.kg 22<|.kb false<|.kg 22<|.b4 false<|.kg 22<|.kb false<|.kg 22<|.rt false
def Zawt:LF Empty Bool := .z0 83 [.t 6] wB
def Za5q:=fun a0 a1 a2=>Zawt.run (Zaws a0 a1 a2)
theorem Za5r(a0)(a1)(a2){r}(h:Za5q a0 a1 a2=some r):Fn PR 83 [wA (Zl a0),wI a1,wI a2] (wB r):=Zawt.fn h
inductive Zoo where
 | L0 (v1:Int) (E0:Zn) (v5:Int) (v6:Int)
def Z9k(v1:Int)(E0:Zn)(v5:Int)(v6:Int):LT Zoo Int:=
.len Zbj E0.Stack<|.br (decide (v6 < (E0.Stack.length:Int))) (.idx Zbj E0.Stack v6 fun x3=>.cs (x3.Kind==1) (.k4 1<|.ag Zbj x3 0<|.k5 1<|.br (x3.Id==v1) (.g0 (.L0 v1 E0 (IntKind.wrap .i64 (v5+1)) (IntKind.wrap .i64 (v6+1))))<|.g0 (.L0 v1 E0 v5 (IntKind.wrap .i64 (v6+1))))<|.k8 1<|.kg 1<|.kn [0]<|.g0 (.L0 v1 E0 v5 (IntKind.wrap .i64 (v6+1))))<|.rt v5
def Zacd(a0:Zn)(a1:Int):LT Zoo Int:=
.lb 1002<|.go (.L0 a1 a0 0 0) [.relab 1002 3000]
def Z02:LF Zoo Int := .m0 134 [.t 4] wI fun | .L0 v1 E0 v5 v6=>([1,1,0,1,4],⟨34,[(1,wI v1),(2,.bptr 3000 0),(5,wI v5),(6,wI v6)],[(3000,.box (bx (Zad E0)))]⟩,Z9k v1 E0 v5 v6)
def Zal4:=fun a0 a1=>Z02.run (Zacd a0 a1)
theorem Zarz(a0)(a1){r}(h:Zal4 a0 a1=some r):Fn PR 134 [wA (Zad a0),wI a1] (wI r):=Z02.fn h
def Zal5(a0:List Int):LT Empty (List Int):=
.lb 1003<|.apR (cI .i64) 8 ([]:List Int) a0 fun x1=>.ret x1 [.relab 1003 5000]
def Zal6:LF Empty (List Int) := .z 182 [.t 2] true (fun r=>[(5000,wR (cI .i64) 1 r)]) (fun r=>(wO (cI .i64) 5000 r))
def Zawu:=fun a0=>Zal6.run (Zal5 a0)
theorem Zop(a0){r}(h:Zawu a0=some r):FnG PR 182 [] [wL (cI .i64) a0] [(5000,wR (cI .i64) 1 r)] (wO (cI .i64) 5000 r):=Zal6.fn h
def Zal7(a0:Zn)(a1:Int)(a2:Int):LT Empty (List Int):=
.lb 1003<|.br (a1==0) (.callF (Zop a0.Battlefield) 130000 fun x2=>.ret x2 [.relab 135000 5000])<|.br (a1==4) (.callF (Zop a0.Exile) 180000 fun x5=>.ret x5 [.relab 185000 5000])<|.cs (decide (a2 < 0)) (.k5 2<|.kg 2<|.kn [0]<|.ret ([]:List Int) [.own 6 5000 1])<|.k4 2<|.len Za9 a0.Players<|.k2 2<|.br (decide (a2>=(a0.Players.length:Int))) (.ret ([]:List Int) [.own 6 5000 1])<|.br (a1==1) (.idx Za9 a0.Players a2 fun x11=>.callF (Zop x11.Hand) 370000 fun x13=>.ret x13 [.relab 375000 5000])<|.br (a1==2) (.idx Za9 a0.Players a2 fun x16=>.callF (Zop x16.Library) 460000 fun x18=>.ret x18 [.relab 465000 5000])<|.br (a1==3) (.idx Za9 a0.Players a2 fun x21=>.callF (Zop x21.Graveyard) 550000 fun x23=>.ret x23 [.relab 555000 5000])<|.ret ([]:List Int) [.own 6 5000 1]
def Zal8:LF Empty (List Int) := .z 135 [.t 6] true (fun r=>[(5000,wR (cI .i64) 1 r)]) (fun r=>(wO (cI .i64) 5000 r))
def Zail:=fun a0 a1 a2=>Zal8.run (Zal7 a0 a1 a2)
theorem Zawv(a0)(a1)(a2){r}(h:Zail a0 a1 a2=some r):FnG PR 135 [] [wA (Zad a0),wI a1,wI a2] [(5000,wR (cI .i64) 1 r)] (wO (cI .i64) 5000 r):=Zal8.fn h
theorem Zazl(a0:Zn)(a1:Int)(a2:Int){r:List Int}(h:Zail a0 a1 a2=some r):Fn PR 135 [wA (Zad a0),wI a1,wI a2] (wL (cI .i64) r):=
 FnG.frozen (C:=LT.RL (cI .i64) r/\True) (Zawv a0 a1 a2 h) ⟨rfl,trivial⟩ (by kernel_rfl)
def Zace(a0:Zn)(a1:Zc):LT Empty Bool:=
.lb 1002<|.lb 1003<|.br (a1.Zone==5) (.call (Zarz a0 a1.Id) fun x2=>.rt (x2==1))<|.call (Zazl a0 a1.Zone a1.Owner) fun x4=>.call (Z00 x4 a1.Id) fun x6=>.rt (x6==1)
def Zacf:LF Empty Bool := .z0 84 [.t 4] wB
def Zal9:=fun a0 a1=>Zacf.run (Zace a0 a1)
theorem Z9l(a0)(a1){r}(h:Zal9 a0 a1=some r):Fn PR 84 [wA (Zad a0),wA (Zl a1)] (wB r):=Zacf.fn h
inductive Zm4 where
 | L0 (v0:List Zk) (E0:Zn) (v5:Int)
def Z6s(v0:List Zk)(E0:Zn)(v5:Int):LT Zm4 Bool:=
.len Zl E0.Objects<|.br (decide (v5 < (E0.Objects.length:Int))) (.idx Zl E0.Objects v5 fun x3=>.lb 1006<|.len Zz v0<|.len Za9 E0.Players<|.call (Za5r x3 (v0.length:Int) (E0.Players.length:Int)) fun x7=>.cs (!x7) (.k5 1<|.kg 1<|.b8 true<|.b3 true<|.kn [0]<|.rt false)<|.k5 1<|.kg 1<|.cs (decide (x3.Id>=E0.NextId)) (.k5 2<|.kg 2<|.b5 true<|.kn [0]<|.rt false)<|.k5 2<|.kg 2<|.cs (decide (x3.Stamp>=E0.NextStamp)) (.k5 3<|.kn [0]<|.rt false)<|.k3 3<|.cs (decide (v5 > 0)) (.k5 4<|.idx Zl E0.Objects (IntKind.wrap .i64 (v5 - 1)) fun x15=>.k5 4<|.kg 3<|.kg 4<|.kg 3<|.br (decide (x15.Id>=x3.Id)) (.rt false)<|.call (Z9l E0 x3) fun x18=>.br (!x18) (.rt false)<|.g0 (.L0 v0 E0 (IntKind.wrap .i64 (v5+1))))<|.k8 4<|.k2 4<|.kg 3<|.kg 4<|.kg 3<|.kn [0]<|.call (Z9l E0 x3) fun x23=>.br (!x23) (.rt false)<|.g0 (.L0 v0 E0 (IntKind.wrap .i64 (v5+1))))<|.rt true
def Z9m(a0:List Zk)(a1:Zn):LT Zm4 Bool:=
.lb 1003<|.len Zl a1.Objects<|.br (decide ((a1.Objects.length:Int) > 2048)) (.rt false)<|.go (.L0 a0 a1 0) [.relab 1003 3000]
def Zx4:LF Zm4 Bool := .m0 49 [.t 4] wB fun | .L0 v0 E0 v5=>([1,1,0,1,4],⟨65,[(0,wL Zz v0),(3,.bptr 3000 0),(5,wI v5)],[(3000,.box (bx (Zad E0)))]⟩,Z6s v0 E0 v5)
def Zags:=fun a0 a1=>Zx4.run (Z9m a0 a1)
theorem Zpo(a0)(a1){r}(h:Zags a0 a1=some r):Fn PR 49 [wL Zz a0,wA (Zad a1)] (wB r):=Zx4.fn h
inductive Zlf where
 | L0 (v0:List Zi) (v1:List Zi) (v5:Int)
def Z3a(v0:List Zi)(v1:List Zi)(v5:Int):LT Zlf Bool:=
.len Zm v0<|.br (decide (v5 < (v0.length:Int))) (.idx Zm v0 v5 fun x3=>.idx Zm v1 v5 fun x5=>.br (!(Z5 (Zm x3) (Zm x5))) (.rt false)<|.g0 (.L0 v0 v1 (IntKind.wrap .i64 (v5+1))))<|.rt true
def Z6t(a0:List Zi)(a1:List Zi):LT Zlf Bool:=
.len Zm a0<|.len Zm a1<|.br ((a0.length:Int) != (a1.length:Int)) (.rt false)<|.g0 (.L0 a0 a1 0)
def Zu8:LF Zlf Bool := .m0 183 [.t 4] wB fun | .L0 v0 v1 v5=>([1,1,0,1,4],⟨26,[(0,wL Zm v0),(1,wL Zm v1),(5,wI v5)],[]⟩,Z3a v0 v1 v5)
def Zacg:=fun a0 a1=>Zu8.run (Z6t a0 a1)
theorem Z3b(a0)(a1){r}(h:Zacg a0 a1=some r):Fn PR 183 [wL Zm a0,wL Zm a1] (wB r):=Zu8.fn h
def Zama(a0:Zt)(a1:Zt):LT Empty Bool:=
.lb 1002<|.lb 1003<|.cs (a0.Op==a1.Op) (.k5 0<|.kg 0<|.cs (Z5 (Zdd a0.Ref) (Zdd a1.Ref)) (.k5 1<|.kg 1<|.cs (Z5 (Zan a0.Amount) (Zan a1.Amount)) (.k5 2<|.kg 2<|.cs (a0.Counter==a1.Counter) (.k5 3<|.kg 3<|.cs (a0.Zone==a1.Zone) (.k5 4<|.kg 4<|.cs (a0.Card==a1.Card) (.k5 5<|.kg 5<|.cs (Z5 (Zo a0.Filter) (Zo a1.Filter)) (.k5 6<|.kg 6<|.cs (Z5 ((cA6 (cI .i64)) a0.Pool) ((cA6 (cI .i64)) a1.Pool)) (.k5 7<|.call (Z3b a0.Mods a1.Mods) fun x9=>.kg 7<|.rt x9)<|.k5 7<|.kg 7<|.rt false)<|.k5 6<|.kg 6<|.b5 false<|.kb false<|.rt false)<|.k5 5<|.kg 5<|.b8 false<|.b4 false<|.rt false)<|.k5 4<|.kg 4<|.b16 false<|.b2 false<|.rt false)<|.k5 3<|.kg 3<|.b16 false<|.b8 false<|.rt false)<|.k5 2<|.kg 2<|.b16 false<|.b8 false<|.b5 false<|.kb false<|.rt false)<|.k5 1<|.kg 1<|.b16 false<|.b16 false<|.b4 false<|.rt false)<|.k5 0<|.kg 0<|.b16 false<|.b16 false<|.b8 false<|.b2 false<|.rt false
def Zamb:LF Empty Bool := .z0 230 [.t 4] wB
def Zaww:=fun a0 a1=>Zamb.run (Zama a0 a1)
theorem Zazm(a0)(a1){r}(h:Zaww a0 a1=some r):Fn PR 230 [wA (Zq a0),wA (Zq a1)] (wB r):=Zamb.fn h
inductive Zlg where
 | L0 (v0:List Zt) (v1:List Zt) (v5:Int)
def Z3c(v0:List Zt)(v1:List Zt)(v5:Int):LT Zlg Bool:=
.len Zq v0<|.br (decide (v5 < (v0.length:Int))) (.idx Zq v0 v5 fun x3=>.idx Zq v1 v5 fun x5=>.call (Zazm x3 x5) fun x7=>.br (!x7) (.rt false)<|.g0 (.L0 v0 v1 (IntKind.wrap .i64 (v5+1))))<|.rt true
def Z6u(a0:List Zt)(a1:List Zt):LT Zlg Bool:=
.len Zq a0<|.len Zq a1<|.br ((a0.length:Int) != (a1.length:Int)) (.rt false)<|.g0 (.L0 a0 a1 0)
def Zu9:LF Zlg Bool := .m0 184 [.t 4] wB fun | .L0 v0 v1 v5=>([1,1,0,1,4],⟨27,[(0,wL Zq v0),(1,wL Zq v1),(5,wI v5)],[]⟩,Z3c v0 v1 v5)
def Zach:=fun a0 a1=>Zu9.run (Z6u a0 a1)
theorem Zamc(a0)(a1){r}(h:Zach a0 a1=some r):Fn PR 184 [wL Zq a0,wL Zq a1] (wB r):=Zu9.fn h
inductive Ztj where
 | L0 (E0:Ze) (E1:Ze) (v5:Int)
def Zagt(E0:Ze)(E1:Ze)(v5:Int):LT Ztj Bool:=
.len Z8 E0.Specs<|.br (decide (v5 < (E0.Specs.length:Int))) (.idx Z8 E0.Specs v5 fun x3=>.idx Z8 E1.Specs v5 fun x5=>.br (!(Z5 (Z8 x3) (Z8 x5))) (.rt false)<|.g0 (.L0 E0 E1 (IntKind.wrap .i64 (v5+1))))<|.cs (E0.Kind==E1.Kind) (.k5 1<|.kg 1<|.cs (Z5 (Zo E0.Filter) (Zo E1.Filter)) (.k5 2<|.call (Z3b E0.Mods E1.Mods) fun x12=>.kg 2<|.cs x12 (.k5 3<|.kg 3<|.cs (Z5 (Zdj E0.Price) (Zdj E1.Price)) (.k5 4<|.kg 4<|.cs (E0.Slow==E1.Slow) (.k5 5<|.kg 5<|.cs (Z5 (Zb7 E0.Trigger) (Zb7 E1.Trigger)) (.k5 6<|.kg 6<|.cs (E0.May==E1.May) (.k5 7<|.call (Zamc E0.Effects E1.Effects) fun x19=>.kg 7<|.cs x19 (.k5 8<|.kg 8<|.rt (Z5 (Zbe E0.Replace) (Zbe E1.Replace)))<|.k5 8<|.kg 8<|.rt false)<|.k5 7<|.kg 7<|.b5 false<|.kb false<|.rt false)<|.k5 6<|.kg 6<|.b8 false<|.b4 false<|.rt false)<|.k5 5<|.kg 5<|.b16 false<|.b2 false<|.rt false)<|.k5 4<|.kg 4<|.b16 false<|.b8 false<|.rt false)<|.k5 3<|.kg 3<|.b16 false<|.b8 false<|.b5 false<|.kb false<|.rt false)<|.k5 2<|.kg 2<|.b16 false<|.b16 false<|.b4 false<|.rt false)<|.k5 1<|.kg 1<|.b16 false<|.b16 false<|.b8 false<|.b2 false<|.rt false
def Zamd(a0:Ze)(a1:Ze):LT Ztj Bool:=
.lb 1002<|.lb 1003<|.len Z8 a0.Specs<|.len Z8 a1.Specs<|.br ((a0.Specs.length:Int) != (a1.Specs.length:Int)) (.rt false)<|.go (.L0 a0 a1 0) [.relab 1002 3000,.relab 1003 3001]
def Z8g:LF Ztj Bool := .m0 136 [.t 4] wB fun | .L0 E0 E1 v5=>([1,1,0,1,4],⟨92,[(2,.bptr 3000 0),(3,.bptr 3001 0),(5,wI v5)],[(3000,.box (bx (Zg E0))),(3001,.box (bx (Zg E1)))]⟩,Zagt E0 E1 v5)
def Zawx:=fun a0 a1=>Z8g.run (Zamd a0 a1)
theorem Zazn(a0)(a1){r}(h:Zawx a0 a1=some r):Fn PR 136 [wA (Zg a0),wA (Zg a1)] (wB r):=Z8g.fn h
def Zame(a0:Zn)(a1:Zmp):LT Empty Bool:=
.lb 1002<|.lb 1003<|.call (Zff a1.Id 1 (IntKind.wrap .i64 (a0.NextId - 1))) fun x3=>.cs (!x3) (.k5 0<|.b8 true<|.b3 true<|.kn [0]<|.rt false)<|.k3 0<|.call (Zff a1.X 0 1000000) fun x6=>.k2 0<|.cs (!x6) (.k5 1<|.b5 true<|.kb true<|.kn [0]<|.rt false)<|.k3 1<|.len Zoi a1.Targets<|.k2 1<|.cs (decide ((a1.Targets.length:Int) > 4)) (.k5 2<|.kg 2<|.kn [0]<|.rt false)<|.k4 2<|.call (Zh9 a0 a1.Control) fun x11=>.k2 2<|.br (!x11) (.rt false)<|.call (Z9i a0 a1.Id) fun x14=>.lb 1005<|.br (a1.Kind==1) (.call (Zazn a1.Ability (⟨0,(⟨0,0,0,0,0,0,0,([]:By),0,0,(⟨0,0⟩:Zb),(⟨0,0⟩:Zb),(⟨0,0⟩:Zb)⟩:Zd),([]:List Zi),(⟨(⟨0,0,(⟨0,0,0,0,0⟩:A5 Int)⟩:Zs),false,false,0⟩:Zgx),false,(⟨0,0,(⟨0,0,0,0,0,0,0,([]:By),0,0,(⟨0,0⟩:Zb),(⟨0,0⟩:Zb),(⟨0,0⟩:Zb)⟩:Zd)⟩:Zch),false,([]:List Zaw),([]:List Zt),(⟨0,0,(⟨0,0,0,0,0,0,0,([]:By),0,0,(⟨0,0⟩:Zb),(⟨0,0⟩:Zb),(⟨0,0⟩:Zb)⟩:Zd),0,0,0,0⟩:Zay)⟩:Ze)) fun x17=>.cs (a1.Source==a1.Id) (.k2 5<|.cs x14.2 (.k4 6<|.cs (x14.1.Zone==5) (.k2 7<|.cs x17 (.k3 8<|.kg 7<|.kg 8<|.kg 7<|.rt true)<|.k3 8<|.call (Z29 a1.Ability) fun x23=>.kg 7<|.kg 8<|.kg 7<|.rt x23)<|.k4 7<|.rt false)<|.k4 6<|.b4 false<|.rt false)<|.k2 5<|.b8 false<|.rt false)<|.cs (a1.Kind==2) (.k3 5<|.cs (!x14.2) (.k3 6<|.call (Z29 a1.Ability) fun x27=>.kg 6<|.rt x27)<|.k4 6<|.rt false)<|.k3 5<|.b4 false<|.rt false
def Zamf:LF Empty Bool := .z0 85 [.t 4] wB
def Zawy:=fun a0 a1=>Zamf.run (Zame a0 a1)
theorem Zazo(a0)(a1){r}(h:Zawy a0 a1=some r):Fn PR 85 [wA (Zad a0),wA (Zbj a1)] (wB r):=Zamf.fn h
inductive Z03 where
 | L0 (v0:List Int) (v3:Int)
def Zaq7(v0:List Int)(v3:Int):LT Z03 Bool:=
.len (cI .i64) v0<|.br (decide (v3 < (v0.length:Int))) (.idx (cI .i64) v0 (IntKind.wrap .i64 (v3 - 1)) fun x5=>.idx (cI .i64) v0 v3 fun x7=>.br (decide (x5>=x7)) (.rt false)<|.g0 (.L0 v0 (IntKind.wrap .i64 (v3+1))))<|.rt true
def Zawz(a0:List Int):LT Z03 Bool:=
.g0 (.L0 a0 1)
def Zaim:LF Z03 Bool := .m0 86 [.t 2] wB fun | .L0 v0 v3=>([1,0,1,4],⟨20,[(0,wL (cI .i64) v0),(3,wI v3)],[]⟩,Zaq7 v0 v3)
def Za5s:=fun a0=>Zaim.run (Zawz a0)
theorem Za5t(a0){r}(h:Za5s a0=some r):Fn PR 86 [wL (cI .i64) a0] (wB r):=Zaim.fn h
inductive Ziz where
 | L0 (E0:Zn) (v3:Int)
 | L1 (E0:Zn) (v3:Int) (v4:Int)
 | L2 (E0:Zn) (v5:Int)
 | L3 (E0:Zn) (v7:Int)
def Zaci(E0:Zn)(v3:Int):LT Ziz Bool:=
.len Zbj E0.Stack<|.br (decide (v3 < (E0.Stack.length:Int))) (.idx Zbj E0.Stack v3 fun x3=>.call (Zazo E0 x3) fun x5=>.br (!x5) (.rt false)<|.g0 (.L1 E0 v3 0))<|.g0 (.L2 E0 0)
def Zacj(E0:Zn)(v3:Int)(v4:Int):LT Ziz Bool:=
.br (decide (v4 < v3)) (.idx Zbj E0.Stack v4 fun x2=>.idx Zbj E0.Stack v3 fun x4=>.br (x2.Id==x4.Id) (.rt false)<|.g0 (.L1 E0 v3 (IntKind.wrap .i64 (v4+1))))<|.g0 (.L0 E0 (IntKind.wrap .i64 (v3+1)))
def Zack(E0:Zn)(v5:Int):LT Ziz Bool:=
.len Zbm E0.Waiting<|.br (decide (v5 < (E0.Waiting.length:Int))) (.idx Zbm E0.Waiting v5 fun x3=>.lb 1006<|.call (Zh9 E0 x3.Control) fun x5=>.cs (!x5) (.k5 1<|.b5 true<|.kn [0]<|.rt false)<|.k5 1<|.cs (x3.Ability.Kind != 4) (.k5 2<|.kn [0]<|.rt false)<|.k3 2<|.call (Z29 x3.Ability) fun x9=>.k2 2<|.br (!x9) (.rt false)<|.g0 (.L2 E0 (IntKind.wrap .i64 (v5+1))))<|.g0 (.L3 E0 0)
def Zacl(E0:Zn)(v7:Int):LT Ziz Bool:=
.len Zbz E0.Conts<|.br (decide (v7 < (E0.Conts.length:Int))) (.idx Zbz E0.Conts v7 fun x3=>.lb 1008<|.call (Zh9 E0 x3.Control) fun x5=>.cs (!x5) (.k5 1<|.kg 1<|.b8 true<|.b5 true<|.b2 true<|.kn [0]<|.rt false)<|.k5 1<|.kg 1<|.cs (decide (x3.Stamp>=E0.NextStamp)) (.k5 2<|.b8 true<|.b2 true<|.kn [0]<|.rt false)<|.k3 2<|.call (Zff x3.Until 1 2) fun x9=>.k2 2<|.cs (!x9) (.k5 3<|.b5 true<|.kn [0]<|.rt false)<|.k3 3<|.call (Za5t x3.Objects) fun x12=>.k2 3<|.cs (!x12) (.k5 4<|.kn [0]<|.rt false)<|.k3 4<|.call (Ztd x3.Mods) fun x15=>.k2 4<|.br (x15==([]:By)) (.rt false)<|.g0 (.L3 E0 (IntKind.wrap .i64 (v7+1))))<|.rt true
def Zagu(a0:Zn):LT Ziz Bool:=
.lb 1001<|.len Zbj a0.Stack<|.cs (decide ((a0.Stack.length:Int) > 64)) (.k5 0<|.b5 true<|.kn [0]<|.rt false)<|.k3 0<|.len Zbm a0.Waiting<|.k2 0<|.cs (decide ((a0.Waiting.length:Int) > 64)) (.k5 1<|.kn [0]<|.rt false)<|.k3 1<|.len Zbz a0.Conts<|.k2 1<|.br (decide ((a0.Conts.length:Int) > 64)) (.rt false)<|.go (.L0 a0 0) [.relab 1001 3000]
def Zns:LF Ziz Bool := .m0 50 [.t 2] wB fun | .L0 E0 v3=>([1,1,0,1,4],⟨129,[(1,.bptr 3000 0),(3,wI v3)],[(3000,.box (bx (Zad E0)))]⟩,Zaci E0 v3) | .L1 E0 v3 v4=>([1,1,0,1,4,5,1,0,4,1,1,4],⟨129,[(1,.bptr 3000 0),(3,wI v3),(4,wI v4)],[(3000,.box (bx (Zad E0)))]⟩,Zacj E0 v3 v4) | .L2 E0 v5=>([1,1,1,0,1,4],⟨129,[(1,.bptr 3000 0),(5,wI v5)],[(3000,.box (bx (Zad E0)))]⟩,Zack E0 v5) | .L3 E0 v7=>([1,1,1,1,0,1,4],⟨129,[(1,.bptr 3000 0),(7,wI v7)],[(3000,.box (bx (Zad E0)))]⟩,Zacl E0 v7)
def Zaq8:=fun a0=>Zns.run (Zagu a0)
theorem Ztk(a0){r}(h:Zaq8 a0=some r):Fn PR 50 [wA (Zad a0)] (wB r):=Zns.fn h
inductive Z04 where
 | L0 (v0:List Zk) (E0:Zn) (v5:Int)
def Zaq9(v0:List Zk)(E0:Zn)(v5:Int):LT Z04 Bool:=
.len (cI .i64) E0.Extra<|.br (decide (v5 < (E0.Extra.length:Int))) (.idx (cI .i64) E0.Extra v5 fun x3=>.call (Zh9 E0 x3) fun x5=>.br (!x5) (.rt false)<|.g0 (.L0 v0 E0 (IntKind.wrap .i64 (v5+1))))<|.cs (E0.Over==1) (.k4 1<|.call (Zh9 E0 E0.Winner) fun x11=>.k2 1<|.cs (!x11) (.k5 2<|.kg 2<|.kn [0]<|.rt false)<|.k4 2<|.cs (E0.Over != 1) (.k3 3<|.kg 2<|.kg 3<|.kg 2<|.br (E0.Winner != (-1)) (.rt false)<|.call (Zpo v0 E0) fun x16=>.cs x16 (.k2 5<|.call (Ztk E0) fun x19=>.kg 5<|.rt x19)<|.k3 5<|.rt false)<|.k3 3<|.kg 2<|.kg 3<|.kg 2<|.kn [0]<|.call (Zpo v0 E0) fun x21=>.cs x21 (.k2 4<|.call (Ztk E0) fun x24=>.kg 4<|.rt x24)<|.k3 4<|.rt false)<|.k5 1<|.kg 1<|.b4 false<|.cs (E0.Over != 1) (.k3 2<|.kb false<|.kg 2<|.kb false<|.br (E0.Winner != (-1)) (.rt false)<|.call (Zpo v0 E0) fun x28=>.cs x28 (.k2 4<|.call (Ztk E0) fun x31=>.kg 4<|.rt x31)<|.k3 4<|.rt false)<|.k3 2<|.kb false<|.kg 2<|.kb false<|.kn [0]<|.call (Zpo v0 E0) fun x33=>.cs x33 (.k2 3<|.call (Ztk E0) fun x36=>.kg 3<|.rt x36)<|.k3 3<|.rt false
def Zaw0(a0:List Zk)(a1:Zn):LT Z04 Bool:=
.lb 1003<|.call (Zff a1.NextId 1 1000000) fun x1=>.cs (!x1) (.k5 0<|.b8 true<|.b5 true<|.b2 true<|.kn [0]<|.rt false)<|.k3 0<|.call (Zff a1.NextStamp 1 1000000) fun x4=>.k2 0<|.cs (!x4) (.k5 1<|.b8 true<|.b2 true<|.kn [0]<|.rt false)<|.k3 1<|.call (Zff a1.Turn 0 500) fun x7=>.k2 1<|.cs (!x7) (.k5 2<|.b5 true<|.kn [0]<|.rt false)<|.k3 2<|.call (Zff a1.Step 0 10) fun x10=>.k2 2<|.cs (!x10) (.k5 3<|.kn [0]<|.rt false)<|.k3 3<|.len Zl a1.Objects<|.k2 3<|.br (decide ((a1.Objects.length:Int) > 2048)) (.rt false)<|.call (Zaoj a1) fun x15=>.cs (!x15) (.k5 5<|.kg 5<|.b16 true<|.b8 true<|.kn [0]<|.rt false)<|.k4 5<|.call (Zh9 a1 a1.Active) fun x18=>.k2 5<|.cs (!x18) (.k5 6<|.kg 6<|.b16 true<|.b2 true<|.kn [0]<|.rt false)<|.k4 6<|.call (Zh9 a1 a1.Priority) fun x21=>.k2 6<|.cs (!x21) (.k8 7<|.b8 true<|.b2 true<|.kn [0]<|.rt false)<|.k5 7<|.len Za9 a1.Players<|.kg 7<|.call (Zff a1.Passes 0 (a1.Players.length:Int)) fun x25=>.k2 7<|.cs (!x25) (.k5 8<|.b5 true<|.kn [0]<|.rt false)<|.k3 8<|.len (cI .i64) a1.Extra<|.k2 8<|.cs (decide ((a1.Extra.length:Int) > 500)) (.k5 9<|.kn [0]<|.rt false)<|.k3 9<|.call (Zff a1.Over 0 2) fun x30=>.k2 9<|.br (!x30) (.rt false)<|.go (.L0 a0 a1 0) [.relab 1003 3000]
def Zain:LF Z04 Bool := .m0 29 [.t 4] wB fun | .L0 v0 E0 v5=>([1,1,1,0,1,4],⟨114,[(0,wL Zz v0),(3,.bptr 3000 0),(5,wI v5)],[(3000,.box (bx (Zad E0)))]⟩,Zaq9 v0 E0 v5)
def Za5u:=fun a0 a1=>Zain.run (Zaw0 a0 a1)
theorem Za5v(a0)(a1){r}(h:Za5u a0 a1=some r):Fn PR 29 [wL Zz a0,wA (Zad a1)] (wB r):=Zain.fn h
def Zagv(a0:List Zk)(a1:Zn):LT Empty Bool:=
.lb 1003<|.call (Zawi a0) fun x1=>.cs (x1.2==0) (.k3 0<|.call (Za5v a0 a1) fun x4=>.kg 0<|.rt x4)<|.k4 0<|.rt false
def Zagw:LF Empty Bool := .z0 10 [.t 4] wB
def Zara:=fun a0 a1=>Zagw.run (Zagv a0 a1)
theorem Zaw1(a0)(a1){r}(h:Zara a0 a1=some r):Fn PR 10 [wL Zz a0,wA (Zad a1)] (wB r):=Zagw.fn h
inductive Z47 where
 | L0 (v0:List Zc) (E0:Zn) (E1:Zn) (v4:Int)
def Zaw2(v0:List Zc)(E0:Zn)(E1:Zn)(v4:Int):LT Z47 Zn:=
.len Zl v0<|.br (decide (v4 < (v0.length:Int))) (.idx Zl v0 v4 fun x3=>.lb 1005<|.dr [.lit]<|.apR Zl 128 E1.Objects [(⟨IntKind.wrap .i64 (v4+1),x3.Card,x3.Owner,x3.Control,x3.Zone,x3.Token,x3.Tapped,x3.Sick,x3.Deadly,x3.Damage,x3.Counters,IntKind.wrap .i64 (v4+1),-1,-1,x3.Blocked,x3.Blocks,x3.Shield⟩:Zc)] fun x7=>.dr [.lit]<|.apR (cI .i64) 8 E1.Battlefield [IntKind.wrap .i64 (v4+1)] fun x10=>.g0 (.L0 v0 E0 (⟨E1.Players,x7,x10,E1.Exile,E1.Stack,E1.Waiting,E1.Conts,E1.Turn,E1.Active,E1.Step,E1.Begun,E1.Priority,E1.Passes,E1.NextId,E1.NextStamp,E1.Seed,E1.Extra,E1.Over,E1.Winner⟩:Zn) (IntKind.wrap .i64 (v4+1))))<|.ret E1 [.relab 40101 5001,.relab 40102 5002,.relab 40103 5003,.relab 40104 5004,.relab 40105 5005,.relab 40106 5006,.relab 40116 5016]
def Zazp(a0:List Zc):LT Z47 Zn:=
.lb 1002<|.dr [.lit]<|.len Zl a0<|.len Zl a0<|.lb 1003<|.go (.L0 a0 (⟨([]:List Zj9),([]:List Zc),([]:List Int),([]:List Int),([]:List Zmp),([]:List Zkp),([]:List Zc6),0,0,0,false,0,0,0,0,0,([]:List Int),0,0⟩:Zn) (⟨[(⟨20,0,0,(⟨0,0,0,0,0,0⟩:A6 Int),false,false,([]:List Int),([]:List Int),([]:List Int)⟩:Zj9),(⟨20,0,0,(⟨0,0,0,0,0,0⟩:A6 Int),false,false,([]:List Int),([]:List Int),([]:List Int)⟩:Zj9)],([]:List Zc),([]:List Int),([]:List Int),([]:List Zmp),([]:List Zkp),([]:List Zc6),1,0,3,true,0,0,IntKind.wrap .i64 ((a0.length:Int)+1),IntKind.wrap .i64 ((a0.length:Int)+1),0,([]:List Int),0,-1⟩:Zn) 0) [.relab 1002 3000,.relab 1003 3001,.ownb 3000 0 40000 14,.ownb 3000 1 40001 19,.ownb 3000 2 40002 1,.ownb 3000 3 40003 1,.ownb 3000 4 40004 94,.ownb 3000 5 40005 89,.ownb 3000 6 40006 6,.ownb 3000 16 40016 1,.ownb 3001 1 40101 19,.ownb 3001 2 40102 1,.ownb 3001 3 40103 1,.ownb 3001 4 40104 94,.ownb 3001 5 40105 89,.ownb 3001 6 40106 6,.ownb 3001 16 40116 1]
def Zagx:LF Z47 Zn := .m 30 [.c 2 31 true 19] true (fun r=>(tm16 r 5000)) (fun r=>(.agg (tm9 r 5000))) fun | .L0 v0 E0 E1 v4=>([1,1,0,1,4],⟨48,[(0,wL Zl v0),(2,.bptr 3000 0),(3,.bptr 3001 0),(4,wI v4)],((3000,.box [wO Za9 40000 E0.Players,wO Zl 40001 E0.Objects,wO (cI .i64) 40002 E0.Battlefield,wO (cI .i64) 40003 E0.Exile,wO Zbj 40004 E0.Stack,wO Zbm 40005 E0.Waiting,wO Zbz 40006 E0.Conts,wI E0.Turn,wI E0.Active,wI E0.Step,wB E0.Begun,wI E0.Priority,wI E0.Passes,wI E0.NextId,wI E0.NextStamp,.t (.int .u64 E0.Seed),wO (cI .i64) 40016 E0.Extra,wI E0.Over,wI E0.Winner])::(40000,wR Za9 14 E0.Players)::(40001,wR Zl 19 E0.Objects)::(40002,wR (cI .i64) 1 E0.Battlefield)::(40003,wR (cI .i64) 1 E0.Exile)::(40004,wR Zbj 94 E0.Stack)::(40005,wR Zbm 89 E0.Waiting)::(40006,wR Zbz 6 E0.Conts)::(40016,wR (cI .i64) 1 E0.Extra)::(3001,.box (tm9 E1 40100))::(tm16 E1 40100))⟩,Zaw2 v0 E0 E1 v4)
def Zarb:=fun a0=>Zagx.run (Zazp a0)
theorem Zar0(a0){r}(h:Zarb a0=some r):FnG PR 30 [] [wL Zl a0] (tm16 r 5000) (.agg (tm9 r 5000)):=Zagx.fn h
theorem Zaw3(a0:List Zc){r:Zn}(h:Zarb a0=some r):Fn PR 30 [wL Zl a0] (wA (Zad r)):=
 FnG.frozen (C:=LT.RL Zl r.Objects/\LT.RL (cI .i64) r.Battlefield/\LT.RL (cI .i64) r.Exile/\LT.RL Zbj r.Stack/\LT.RL Zbm r.Waiting/\LT.RL Zbz r.Conts/\LT.RL (cI .i64) r.Extra/\True) (Zar0 a0 h) ⟨rfl,rfl,rfl,rfl,rfl,rfl,rfl,trivial⟩ (by kernel_rfl)
inductive Zoq where
 | L0 (E0:Zs) (v6:A5 Int) (v7:Int)
def Zpp(E0:Zs)(v6:A5 Int)(v7:Int):LT Zoq Bool:=
.br (decide (v7 < 5)) (.idX (Zf.int .i64) (A5.list v6) v7 fun x2=>.cs (decide (x2 < 0)) (.k3 1<|.kn [0]<|.rt false)<|.k3 1<|.br (decide (x2 > 9)) (.rt false)<|.g0 (.L0 E0 v6 (IntKind.wrap .i64 (v7+1))))<|.cs (decide (E0.Generic>=0)) (.k4 1<|.cs (decide (E0.Generic<=99)) (.k4 2<|.cs (decide (E0.X>=0)) (.k4 3<|.rt (decide (E0.X<=2)))<|.k4 3<|.rt false)<|.k4 2<|.b4 false<|.rt false)<|.k4 1<|.b8 false<|.rt false
def Zacm(a0:Zs):LT Zoq Bool:=
.lb 1001<|.go (.L0 a0 a0.Color 0) [.relab 1001 3000]
def Zsi:LF Zoq Bool := .m0 139 [.t 2] wB fun | .L0 E0 v6 v7=>([1,0,1,4],⟨35,[(1,.bptr 3000 0),(6,wA ((cA5 (cI .i64)) v6)),(7,wI v7)],[(3000,.box (bx (Zae E0)))]⟩,Zpp E0 v6 v7)
def Zaeq:=fun a0=>Zsi.run (Zacm a0)
theorem Zamg(a0){r}(h:Zaeq a0=some r):Fn PR 139 [wA (Zae a0)] (wB r):=Zsi.fn h
inductive Zm5 where
 | L0 (v3:Int) (v16:A5 Int) (v17:Int)
def Z6v(v3:Int)(v16:A5 Int)(v17:Int):LT Zm5 Int:=
.br (decide (v17 < 5)) (.idX (Zf.int .i64) (A5.list v16) v17 fun x2=>.br (decide (x2 > 0)) (.ok (¬ v17 < 0)<|.g0 (.L0 (Za6 .or .i64 v3 (Z0j .i64 1 v17)) v16 (IntKind.wrap .i64 (v17+1))))<|.g0 (.L0 v3 v16 (IntKind.wrap .i64 (v17+1))))<|.rt v3
def Z9n(a0:Zs):LT Zm5 Int:=
.lb 1001<|.call (Zamg a0) fun x1=>.cs (!x1) (.k5 0<|.kn [0]<|.rt 0)<|.k5 0<|.br (Z5 ((cA5 (cI .i64)) a0.Color) ((cA5 (cI .i64)) (⟨0,0,0,0,0⟩:A5 Int))) (.rt 0)<|.g0 (.L0 0 a0.Color 0)
def Zx5:LF Zm5 Int := .m0 88 [.t 2] wI fun | .L0 v3 v16 v17=>([1,1,1,0,1,4],⟨29,[(3,wI v3),(16,wA ((cA5 (cI .i64)) v16)),(17,wI v17)],[]⟩,Z6v v3 v16 v17)
def Zagy:=fun a0=>Zx5.run (Z9n a0)
theorem Zaok(a0){r}(h:Zagy a0=some r):Fn PR 88 [wA (Zae a0)] (wI r):=Zx5.fn h
def Zf9(a0:Bys)(hne:a0≠[]):LT Empty (Bys):=
.ne cS hne<|.kn [0]<|.lb 1005<|.apR cS 16 ([]:Bys) a0 fun x1=>.ret x1 [.relab 1005 5000]
def Zbf:LF Empty (Bys) := .z 89 [.t 2] true (fun r=>[(5000,wR cS 1 r)]) (fun r=>(wO cS 5000 r))
def Zdw(c:Nat):LT Empty (Bys):=
.kn [0]<|.ret ([]:Bys) [.own 2 5000 1]
def Zry(c:Nat)(ad:Addr):LT Empty (Bys):=
.kn [0]<|.lb 1005<|.apR cS 16 ([]:Bys) ([]:Bys) fun x1=>.ret x1 [.relab 1005 5000]
open Classical in
def Zen(a0:Bys):Option (Bys):=if h:a0≠[] then Zbf.run (Zf9 a0 h) else Zbf.run (Zdw 0)
theorem Zfr(a0:Bys){r:Bys}(h:Zen a0=some r):FnG PR 89 [] [wL cS a0] [(5000,wR cS 1 r)] (wO cS 5000 r):=by
 by_cases hne:a0=[]
 .subst hne
  have h0:Zbf.run (Zdw 0)=some r:=h
  exact FnG.split0 (fun e=>absurd rfl e) (fun _ a c=>by
   cases a with
   | none=>exact Zbf.fn (t:=Zdw c) h0
   | some ad=>exact Zbf.fn (t:=Zry c ad) h0)
 .have h0:Zbf.run (Zf9 a0 hne)=some r:=by unfold Zen at h;rwa [dif_pos hne] at h
  exact FnG.split0 (fun _=>Zbf.fn h0) (fun e=>absurd (List.map_eq_nil_iff.1 e) hne)
def Zfs(a0:List Zi)(hne:a0≠[]):LT Empty (List Zi):=
.ne Zm hne<|.kn [0]<|.lb 1005<|.apR Zm 176 ([]:List Zi) a0 fun x1=>.ret x1 [.relab 1005 5000]
def Zbd:LF Empty (List Zi) := .z 32 [.t 2] true (fun r=>[(5000,wR Zm 20 r)]) (fun r=>(wO Zm 5000 r))
def Zdg(c:Nat):LT Empty (List Zi):=
.kn [0]<|.ret ([]:List Zi) [.own 2 5000 20]
def Zqd(c:Nat)(ad:Addr):LT Empty (List Zi):=
.kn [0]<|.lb 1005<|.apR Zm 176 ([]:List Zi) ([]:List Zi) fun x1=>.ret x1 [.relab 1005 5000]
open Classical in
def Zcp(a0:List Zi):Option (List Zi):=if h:a0≠[] then Zbd.run (Zfs a0 h) else Zbd.run (Zdg 0)
theorem Zh3(a0:List Zi){r:List Zi}(h:Zcp a0=some r):FnG PR 32 [] [wL Zm a0] [(5000,wR Zm 20 r)] (wO Zm 5000 r):=by
 by_cases hne:a0=[]
 .subst hne
  have h0:Zbd.run (Zdg 0)=some r:=h
  exact FnG.split0 (fun e=>absurd rfl e) (fun _ a c=>by
   cases a with
   | none=>exact Zbd.fn (t:=Zdg c) h0
   | some ad=>exact Zbd.fn (t:=Zqd c ad) h0)
 .have h0:Zbd.run (Zfs a0 hne)=some r:=by unfold Zcp at h;rwa [dif_pos hne] at h
  exact FnG.split0 (fun _=>Zbd.fn h0) (fun e=>absurd (List.map_eq_nil_iff.1 e) hne)
theorem Zca(a0:List Zi){r:List Zi}(h:Zcp a0=some r):Fn PR 32 [wL Zm a0] (wL Zm r):=
 FnG.frozen (C:=LT.RL Zm r/\True) (Zh3 a0 h) ⟨rfl,trivial⟩ (by kernel_rfl)
def Zey(a0:List Zaw)(hne:a0≠[]):LT Empty (List Zaw):=
.ne Z8 hne<|.kn [0]<|.lb 1005<|.apR Z8 144 ([]:List Zaw) a0 fun x1=>.ret x1 [.relab 1005 5000]
def Za8:LF Empty (List Zaw) := .z 140 [.t 2] true (fun r=>[(5000,wR Z8 18 r)]) (fun r=>(wO Z8 5000 r))
def Zc0(c:Nat):LT Empty (List Zaw):=
.kn [0]<|.ret ([]:List Zaw) [.own 2 5000 18]
def Zor(c:Nat)(ad:Addr):LT Empty (List Zaw):=
.kn [0]<|.lb 1005<|.apR Z8 144 ([]:List Zaw) ([]:List Zaw) fun x1=>.ret x1 [.relab 1005 5000]
open Classical in
def Zci(a0:List Zaw):Option (List Zaw):=if h:a0≠[] then Za8.run (Zey a0 h) else Za8.run (Zc0 0)
theorem Zhg(a0:List Zaw){r:List Zaw}(h:Zci a0=some r):FnG PR 140 [] [wL Z8 a0] [(5000,wR Z8 18 r)] (wO Z8 5000 r):=by
 by_cases hne:a0=[]
 .subst hne
  have h0:Za8.run (Zc0 0)=some r:=h
  exact FnG.split0 (fun e=>absurd rfl e) (fun _ a c=>by
   cases a with
   | none=>exact Za8.fn (t:=Zc0 c) h0
   | some ad=>exact Za8.fn (t:=Zor c ad) h0)
 .have h0:Za8.run (Zey a0 hne)=some r:=by unfold Zci at h;rwa [dif_pos hne] at h
  exact FnG.split0 (fun _=>Za8.fn h0) (fun e=>absurd (List.map_eq_nil_iff.1 e) hne)
theorem Zos(a0:List Zaw){r:List Zaw}(h:Zci a0=some r):Fn PR 140 [wL Z8 a0] (wL Z8 r):=
 FnG.frozen (C:=LT.RL Z8 r/\True) (Zhg a0 h) ⟨rfl,trivial⟩ (by kernel_rfl)
def Zd1(a0:List Zt)(hne:a0≠[]):LT Empty (List Zt):=
.ne Zq hne<|.kn [0]<|.lb 1005<|.apR Zq 560 ([]:List Zt) a0 fun x1=>.ret x1 [.relab 1005 5000]
def Zax:LF Empty (List Zt) := .z 141 [.t 2] true (fun r=>[(5000,wR Zq 64 r)]) (fun r=>(wO Zq 5000 r))
def Zcf(c:Nat):LT Empty (List Zt):=
.kn [0]<|.ret ([]:List Zt) [.own 2 5000 64]
def Zmv(c:Nat)(ad:Addr):LT Empty (List Zt):=
.kn [0]<|.lb 1005<|.apR Zq 560 ([]:List Zt) ([]:List Zt) fun x1=>.ret x1 [.relab 1005 5000]
open Classical in
def Zcr(a0:List Zt):Option (List Zt):=if h:a0≠[] then Zax.run (Zd1 a0 h) else Zax.run (Zcf 0)
theorem Zge(a0:List Zt){r:List Zt}(h:Zcr a0=some r):FnG PR 141 [] [wL Zq a0] [(5000,wR Zq 64 r)] (wO Zq 5000 r):=by
 by_cases hne:a0=[]
 .subst hne
  have h0:Zax.run (Zcf 0)=some r:=h
  exact FnG.split0 (fun e=>absurd rfl e) (fun _ a c=>by
   cases a with
   | none=>exact Zax.fn (t:=Zcf c) h0
   | some ad=>exact Zax.fn (t:=Zmv c ad) h0)
 .have h0:Zax.run (Zd1 a0 hne)=some r:=by unfold Zcr at h;rwa [dif_pos hne] at h
  exact FnG.split0 (fun _=>Zax.fn h0) (fun e=>absurd (List.map_eq_nil_iff.1 e) hne)
inductive Zhs where
 | L0 (E0:Ze) (E1:Ze) (v18:Int) (v19:Int)
def Zun(E0:Ze)(E1:Ze)(v18:Int)(v19:Int):LT Zhs Ze:=
.br (decide (v19 < v18)) (.idxR Zq E0.Effects v19 fun x2=>.rl Zq E0.Effects<|.ldR Zq E0.Effects x2 2<|.call (Zca x2.Mods) fun x4=>.plR Zq E0.Effects v19 0<|.rl Zq E0.Effects<|.setD Zq E0.Effects v19 x2 (⟨x2.Op,x2.Ref,x2.Amount,x2.Counter,x2.Zone,x2.Card,x2.Filter,x2.Pool,x4⟩:Zt) 2 63 [.sl (List.map Zm x4)] rfl fun x6=>.dr [.ahead 34,.relen 40049,.stop]<|.us [3]<|.us [3]<|.us [3]<|.us [3]<|.us [3]<|.us [3]<|.us [3]<|.g0 (.L0 (⟨E0.Kind,E0.Filter,E0.Mods,E0.Price,E0.Slow,E0.Trigger,E0.May,E0.Specs,x6,E0.Replace⟩:Ze) E1 v18 (IntKind.wrap .i64 (v19+1))))<|.ret E0 [.relab 40017 5017,.relab 40048 5048,.relab 40049 5049]
def Zw6(a0:Ze):LT Zhs Ze:=
.lb 1001<|.lb 1002<|.callF (Zh3 a0.Mods) 70000 fun x1=>.callF (Zhg a0.Specs) 110000 fun x3=>.callF (Zge a0.Effects) 150000 fun x5=>.lenO Zq x5<|.go (.L0 (⟨a0.Kind,a0.Filter,x1,a0.Price,a0.Slow,a0.Trigger,a0.May,x3,x5,a0.Replace⟩:Ze) (⟨0,(⟨0,0,0,0,0,0,0,([]:By),0,0,(⟨0,0⟩:Zb),(⟨0,0⟩:Zb),(⟨0,0⟩:Zb)⟩:Zd),([]:List Zi),(⟨(⟨0,0,(⟨0,0,0,0,0⟩:A5 Int)⟩:Zs),false,false,0⟩:Zgx),false,(⟨0,0,(⟨0,0,0,0,0,0,0,([]:By),0,0,(⟨0,0⟩:Zb),(⟨0,0⟩:Zb),(⟨0,0⟩:Zb)⟩:Zd)⟩:Zch),false,([]:List Zaw),([]:List Zt),(⟨0,0,(⟨0,0,0,0,0,0,0,([]:By),0,0,(⟨0,0⟩:Zb),(⟨0,0⟩:Zb),(⟨0,0⟩:Zb)⟩:Zd),0,0,0,0⟩:Zay)⟩:Ze) (x5.length:Int) 0) [.relab 1001 3000,.relab 1002 3001,.relab 75000 40017,.relab 115000 40048,.relab 155000 40049,.ownb 3001 17 40117 20,.ownb 3001 48 40148 18,.ownb 3001 49 40149 64]
def Zot:LF Zhs Ze := .m 90 [.c 2 89 true 72] true (fun r=>(tm17 r 5000)) (fun r=>(.agg (tm1 r 5000))) fun | .L0 E0 E1 v18 v19=>([1,1,1,1,0,1,4],⟨36,[(1,.bptr 3000 0),(2,.bptr 3001 0),(18,wI v18),(19,wI v19)],((3000,.box (tm1 E0 40000))::(40017,wR Zm 20 E0.Mods)::(40048,wR Z8 18 E0.Specs)::(40049,wR Zq 64 E0.Effects)::(3001,.box (tm1 E1 40100))::(tm17 E1 40100))⟩,Zun E0 E1 v18 v19)
def Zrz:=fun a0=>Zot.run (Zw6 a0)
theorem Z8h(a0){r}(h:Zrz a0=some r):FnG PR 90 [] [wA (Zg a0)] (tm17 r 5000) (.agg (tm1 r 5000)):=Zot.fn h
theorem Zaat(a0:Ze){r:Ze}(h:Zrz a0=some r):Fn PR 90 [wA (Zg a0)] (wA (Zg r)):=
 FnG.frozen (C:=LT.RL Zm r.Mods/\LT.RL Z8 r.Specs/\LT.RL Zq r.Effects/\True) (Z8h a0 h) ⟨rfl,rfl,rfl,trivial⟩ (by kernel_rfl)
inductive Zlh where
 | L0 (E0:Za) (E1:Za) (v32:List Ze) (v33:Int) (v34:Int)
def Z3d(E0:Za)(E1:Za)(v32:List Ze)(v33:Int)(v34:Int):LT Zlh Za:=
.br (decide (v34 < v33)) (.idx Zg v32 v34 fun x2=>.lb 1005<|.call (Zaat x2) fun x4=>.dr [.lit]<|.apR Zg 640 E1.Abilities [x4] fun x6=>.g0 (.L0 E0 (⟨E1.Name,E1.Cost,E1.Colors,E1.Line,E1.Power,E1.Tough,E1.Keys,x6,E1.Control⟩:Za) v32 v33 (IntKind.wrap .i64 (v34+1))))<|.ret E1 [.relab 40111 5011,.relab 40115 5015]
def Z6w(a0:Zk):LT Zlh Za:=
.lb 1001<|.lb 1002<|.call (Zaok a0.Cost) fun x1=>.lb 1003<|.callF (Zfr a0.Line.Subs) 290000 fun x3=>.len Zg a0.Abilities<|.go (.L0 (⟨([]:By),(⟨0,0,(⟨0,0,0,0,0⟩:A5 Int)⟩:Zs),0,(⟨0,0,([]:Bys)⟩:Zab),0,0,0,([]:List Ze),0⟩:Za) (⟨a0.Name,a0.Cost,Za6 .or .i64 x1 a0.Color,(⟨a0.Line.Super,a0.Line.Types,x3⟩:Zab),a0.Power,a0.Tough,a0.Keys,([]:List Ze),0⟩:Za) a0.Abilities (a0.Abilities.length:Int) 0) [.relab 1002 3000,.relab 1003 3001,.ownb 3000 11 40011 1,.ownb 3000 15 40015 72,.relab 295000 40111,.ownb 3001 15 40115 72]
def Zva:LF Zlh Za := .m 51 [.c 2 66 true 17] true (fun r=>[(5011,wR cS 1 r.Line.Subs),(5015,wR Zg 72 r.Abilities)]) (fun r=>(.agg (tm2 r 5000))) fun | .L0 E0 E1 v32 v33 v34=>([1,1,1,0,1,4],⟨47,[(2,.bptr 3000 0),(3,.bptr 3001 0),(32,wL Zg v32),(33,wI v33),(34,wI v34)],[(3000,.box (tm2 E0 40000)),(40011,wR cS 1 E0.Line.Subs),(40015,wR Zg 72 E0.Abilities),(3001,.box (tm2 E1 40100)),(40111,wR cS 1 E1.Line.Subs),(40115,wR Zg 72 E1.Abilities)]⟩,Z3d E0 E1 v32 v33 v34)
def Zacn:=fun a0=>Zva.run (Z6w a0)
theorem Zaio(a0){r}(h:Zacn a0=some r):FnG PR 51 [] [wA (Zz a0)] [(5011,wR cS 1 r.Line.Subs),(5015,wR Zg 72 r.Abilities)] (.agg (tm2 r 5000)):=Zva.fn h
inductive Zsj where
 | L0 (v0:List Zk) (E0:Zc) (E1:Za) (v5:Int)
 | L1 (E0:Zc) (E1:Za) (E2:Za)
def Zpq(E0:Zc)(E1:Za)(E2:Za):LT Zsj Za:=
.cs (E0.Zone==0) (.k4 0<|.kn [0]<|.ret (⟨E2.Name,E2.Cost,E2.Colors,E2.Line,E2.Power,E2.Tough,E2.Keys,E2.Abilities,E0.Control⟩:Za) [.relab 40211 5011,.relab 40215 5015])<|.k4 0<|.br (E0.Zone==5) (.ret (⟨E2.Name,E2.Cost,E2.Colors,E2.Line,E2.Power,E2.Tough,E2.Keys,E2.Abilities,E0.Control⟩:Za) [.relab 40211 5011,.relab 40215 5015])<|.ret (⟨E2.Name,E2.Cost,E2.Colors,E2.Line,E2.Power,E2.Tough,E2.Keys,E2.Abilities,E0.Owner⟩:Za) [.relab 40211 5011,.relab 40215 5015]
def Ztl(v0:List Zk)(E0:Zc)(E1:Za)(v5:Int):LT Zsj Za:=
.lb 1006<|.cs (decide (v5>=0)) (.k3 0<|.len Zz v0<|.k2 0<|.br (decide (v5 < (v0.length:Int))) (.idx Zz v0 v5 fun x4=>.callF (Zaio x4) 270000 fun x6=>.jn 0 (.L1 E0 E1 x6) [.relab 1006 3002,.relab 275011 40211,.relab 275015 40215] (Zpq E0 E1 x6))<|.jn 0 (.L1 E0 E1 (⟨([]:By),(⟨0,0,(⟨0,0,0,0,0⟩:A5 Int)⟩:Zs),0,(⟨0,0,([]:Bys)⟩:Zab),0,0,0,([]:List Ze),0⟩:Za)) (tm15 1000 3000 40200) (Zpq E0 E1 (⟨([]:By),(⟨0,0,(⟨0,0,0,0,0⟩:A5 Int)⟩:Zs),0,(⟨0,0,([]:Bys)⟩:Zab),0,0,0,([]:List Ze),0⟩:Za)))<|.k5 0<|.kn [0]<|.jn 0 (.L1 E0 E1 (⟨([]:By),(⟨0,0,(⟨0,0,0,0,0⟩:A5 Int)⟩:Zs),0,(⟨0,0,([]:Bys)⟩:Zab),0,0,0,([]:List Ze),0⟩:Za)) (tm15 1000 3000 40200) (Zpq E0 E1 (⟨([]:By),(⟨0,0,(⟨0,0,0,0,0⟩:A5 Int)⟩:Zs),0,(⟨0,0,([]:Bys)⟩:Zab),0,0,0,([]:List Ze),0⟩:Za))
def Zarc(a0:List Zk)(a1:Zc):LT Zsj Za:=
.lb 1003<|.lb 1004<|.br (decide (a1.Copy < 0)) (.jn 0 (.L0 a0 a1 (⟨([]:By),(⟨0,0,(⟨0,0,0,0,0⟩:A5 Int)⟩:Zs),0,(⟨0,0,([]:Bys)⟩:Zab),0,0,0,([]:List Ze),0⟩:Za) a1.Card) (tm14 1000 3000 40100) (Ztl a0 a1 (⟨([]:By),(⟨0,0,(⟨0,0,0,0,0⟩:A5 Int)⟩:Zs),0,(⟨0,0,([]:Bys)⟩:Zab),0,0,0,([]:List Ze),0⟩:Za) a1.Card))<|.jn 0 (.L0 a0 a1 (⟨([]:By),(⟨0,0,(⟨0,0,0,0,0⟩:A5 Int)⟩:Zs),0,(⟨0,0,([]:Bys)⟩:Zab),0,0,0,([]:List Ze),0⟩:Za) a1.Copy) (tm14 1000 3000 40100) (Ztl a0 a1 (⟨([]:By),(⟨0,0,(⟨0,0,0,0,0⟩:A5 Int)⟩:Zs),0,(⟨0,0,([]:Bys)⟩:Zab),0,0,0,([]:List Ze),0⟩:Za) a1.Copy)
def Zard:LF Zsj Za := .m 31 [.c 4 66 true 17] true (fun r=>[(5011,wR cS 1 r.Line.Subs),(5015,wR Zg 72 r.Abilities)]) (fun r=>(.agg (tm2 r 5000))) fun | .L0 v0 E0 E1 v5=>([1,1,1],⟨42,[(0,wL Zz v0),(3,.bptr 3000 0),(4,.bptr 3001 0),(5,wI v5)],[(3000,.box (bx (Zl E0))),(3001,.box (tm2 E1 40100)),(40111,wR cS 1 E1.Line.Subs),(40115,wR Zg 72 E1.Abilities)]⟩,Ztl v0 E0 E1 v5) | .L1 E0 E1 E2=>([1,1,1,1,1],⟨42,[(3,.bptr 3000 0),(4,.bptr 3001 0),(6,.bptr 3002 0)],[(3000,.box (bx (Zl E0))),(3001,.box (tm2 E1 40100)),(40111,wR cS 1 E1.Line.Subs),(40115,wR Zg 72 E1.Abilities),(3002,.box (tm2 E2 40200)),(40211,wR cS 1 E2.Line.Subs),(40215,wR Zg 72 E2.Abilities)]⟩,Zpq E0 E1 E2)
def Zaol:=fun a0 a1=>Zard.run (Zarc a0 a1)
theorem Zazq(a0)(a1){r}(h:Zaol a0 a1=some r):FnG PR 31 [] [wL Zz a0,wA (Zl a1)] [(5011,wR cS 1 r.Line.Subs),(5015,wR Zg 72 r.Abilities)] (.agg (tm2 r 5000)):=Zard.fn h
theorem Zamh(a0:List Zk)(a1:Zc){r:Za}(h:Zaol a0 a1=some r):Fn PR 31 [wL Zz a0,wA (Zl a1)] (wA (Zh r)):=
 FnG.frozen (C:=LT.RL cS r.Line.Subs/\LT.RL Zg r.Abilities/\True) (Zazq a0 a1 h) ⟨rfl,rfl,trivial⟩ (by kernel_rfl)
def Zim(a0:List Int)(hne:a0≠[]):LT Empty (List Int):=
.ne (cI .i64) hne<|.kn [0]<|.lb 1005<|.apR (cI .i64) 8 ([]:List Int) a0 fun x1=>.ret x1 [.relab 1005 5000]
def Zcg:LF Empty (List Int) := .z 33 [.t 2] true (fun r=>[(5000,wR (cI .i64) 1 r)]) (fun r=>(wO (cI .i64) 5000 r))
def Zfw(c:Nat):LT Empty (List Int):=
.kn [0]<|.ret ([]:List Int) [.own 2 5000 1]
def Zx6(c:Nat)(ad:Addr):LT Empty (List Int):=
.kn [0]<|.lb 1005<|.apR (cI .i64) 8 ([]:List Int) ([]:List Int) fun x1=>.ret x1 [.relab 1005 5000]
open Classical in
def Ze6(a0:List Int):Option (List Int):=if h:a0≠[] then Zcg.run (Zim a0 h) else Zcg.run (Zfw 0)
theorem Zw7(a0:List Int){r:List Int}(h:Ze6 a0=some r):FnG PR 33 [] [wL (cI .i64) a0] [(5000,wR (cI .i64) 1 r)] (wO (cI .i64) 5000 r):=by
 by_cases hne:a0=[]
 .subst hne
  have h0:Zcg.run (Zfw 0)=some r:=h
  exact FnG.split0 (fun e=>absurd rfl e) (fun _ a c=>by
   cases a with
   | none=>exact Zcg.fn (t:=Zfw c) h0
   | some ad=>exact Zcg.fn (t:=Zx6 c ad) h0)
 .have h0:Zcg.run (Zim a0 hne)=some r:=by unfold Ze6 at h;rwa [dif_pos hne] at h
  exact FnG.split0 (fun _=>Zcg.fn h0) (fun e=>absurd (List.map_eq_nil_iff.1 e) hne)
theorem Zx7(a0:List Int){r:List Int}(h:Ze6 a0=some r):Fn PR 33 [wL (cI .i64) a0] (wL (cI .i64) r):=
 FnG.frozen (C:=LT.RL (cI .i64) r/\True) (Zw7 a0 h) ⟨rfl,trivial⟩ (by kernel_rfl)
inductive Zg6 where
 | L0 (v0:List Zk) (E0:Zn) (v5:List Zaj) (v13:List Zc) (v14:Int) (v15:Int)
 | L1 (v0:List Zk) (E0:Zn) (v5:List Zaj) (E1:Zc) (v13:List Zc) (v14:Int) (v15:Int) (v25:List Ze) (v26:Int) (v27:Int)
 | L2 (v5:List Zaj) (v54:List Zc6) (v55:Int) (v56:Int)
def Z3e(v0:List Zk)(E0:Zn)(v5:List Zaj)(v13:List Zc)(v14:Int)(v15:Int):LT Zg6 (List Zaj):=
.br (decide (v15 < v14)) (.idx Zl v13 v15 fun x2=>.lb 1007<|.br (x2.Zone != 0) (.g0 (.L0 v0 E0 v5 v13 v14 (IntKind.wrap .i64 (v15+1))))<|.call (Zamh v0 x2) fun x7=>.len Zg x7.Abilities<|.go (.L1 v0 E0 v5 x2 v13 v14 v15 x7.Abilities (x7.Abilities.length:Int) 0) [.relab 1007 3001])<|.len Zbz E0.Conts<|.g0 (.L2 v5 E0.Conts (E0.Conts.length:Int) 0)
def Z3f(v0:List Zk)(E0:Zn)(v5:List Zaj)(E1:Zc)(v13:List Zc)(v14:Int)(v15:Int)(v25:List Ze)(v26:Int)(v27:Int):LT Zg6 (List Zaj):=
.br (decide (v27 < v26)) (.idx Zg v25 v27 fun x2=>.lb 1009<|.br (x2.Kind==1) (.call (Zca x2.Mods) fun x5=>.dr [.lit]<|.apR Z4 224 v5 [(⟨E1.Id,v27,E1.Control,E1.Stamp,false,([]:List Int),x2.Filter,x5⟩:Zaj)] fun x7=>.g0 (.L1 v0 E0 x7 E1 v13 v14 v15 v25 v26 (IntKind.wrap .i64 (v27+1))))<|.g0 (.L1 v0 E0 v5 E1 v13 v14 v15 v25 v26 (IntKind.wrap .i64 (v27+1))))<|.g0 (.L0 v0 E0 v5 v13 v14 (IntKind.wrap .i64 (v15+1)))
def Z3g(v5:List Zaj)(v54:List Zc6)(v55:Int)(v56:Int):LT Zg6 (List Zaj):=
.br (decide (v56 < v55)) (.idx Zbz v54 v56 fun x2=>.lb 1011<|.call (Zx7 x2.Objects) fun x4=>.call (Zca x2.Mods) fun x6=>.dr [.lit]<|.apR Z4 224 v5 [(⟨x2.Source,-1,x2.Control,x2.Stamp,true,x4,(⟨0,0,0,0,0,0,0,([]:By),0,0,(⟨0,0⟩:Zb),(⟨0,0⟩:Zb),(⟨0,0⟩:Zb)⟩:Zd),x6⟩:Zaj)] fun x8=>.g0 (.L2 x8 v54 v55 (IntKind.wrap .i64 (v56+1))))<|.ret v5 [.relab 20005 5000]
def Z6x(a0:List Zk)(a1:Zn):LT Zg6 (List Zaj):=
.lb 1003<|.len Zl a1.Objects<|.go (.L0 a0 a1 ([]:List Zaj) a1.Objects (a1.Objects.length:Int) 0) [.relab 1003 3000,.own 5 20005 23]
def Zli:LF Zg6 (List Zaj) := .m 12 [.t 4] true (fun r=>[(5000,wR Z4 23 r)]) (fun r=>(wO Z4 5000 r)) fun | .L0 v0 E0 v5 v13 v14 v15=>([1,1,0,1,4],⟨78,[(0,wL Zz v0),(3,.bptr 3000 0),(5,wO Z4 20005 v5),(13,wL Zl v13),(14,wI v14),(15,wI v15)],[(3000,.box (bx (Zad E0))),(20005,wR Z4 23 v5)]⟩,Z3e v0 E0 v5 v13 v14 v15) | .L1 v0 E0 v5 E1 v13 v14 v15 v25 v26 v27=>([1,1,0,1,4,5,1,1,0,4,1,1,1,4],⟨78,[(0,wL Zz v0),(3,.bptr 3000 0),(5,wO Z4 20005 v5),(7,.bptr 3001 0),(13,wL Zl v13),(14,wI v14),(15,wI v15),(25,wL Zg v25),(26,wI v26),(27,wI v27)],[(3000,.box (bx (Zad E0))),(20005,wR Z4 23 v5),(3001,.box (bx (Zl E1)))]⟩,Z3f v0 E0 v5 E1 v13 v14 v15 v25 v26 v27) | .L2 v5 v54 v55 v56=>([1,1,1,0,1,4],⟨78,[(5,wO Z4 20005 v5),(54,wL Zbz v54),(55,wI v55),(56,wI v56)],[(20005,wR Z4 23 v5)]⟩,Z3g v5 v54 v55 v56)
def Z05:=fun a0 a1=>Zli.run (Z6x a0 a1)
theorem Zaip(a0)(a1){r}(h:Z05 a0 a1=some r):FnG PR 12 [] [wL Zz a0,wA (Zad a1)] [(5000,wR Z4 23 r)] (wO Z4 5000 r):=Zli.fn h
theorem Z3h(a0:List Zk)(a1:Zn){r:List Zaj}(h:Z05 a0 a1=some r):Fn PR 12 [wL Zz a0,wA (Zad a1)] (wL Z4 r):=
 FnG.frozen (C:=LT.RL Z4 r/\True) (Zaip a0 a1 h) ⟨rfl,trivial⟩ (by kernel_rfl)
end
end Go.PW
