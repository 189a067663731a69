import Derived.Test.YtchddhcajpagjaaGreatQDt
set_option linter.all false
set_option maxRecDepth 100000
namespace Go.PW
open Go.RowKit
noncomputable section
def Zabn(a0:Int):LT Empty Bool:=
.cs (decide (a0>=97)) (.k3 0<|.rt (decide (a0<=122)))<|.k3 0<|.rt false
def Zara:LF Empty Bool := .z0 120 [.t 2] wB
def Zaek:=fun a0=>Zara.run (Zabn a0)
theorem Zakz(a0){r}(h:Zaek a0=some r):Fn PR 120 [.t (.int .u8 a0)] (wB r):=Zara.fn h
inductive Zmx where
 | L0 (v0:By) (v3:Int)
 | L1 (v0:By) (v3:Int)
def Zkg(v0:By)(v3:Int):LT Zmx Bool:=
.cs (decide (v3 > 0)) (.k3 0<|.idxS v0 v3 fun x2=>.k2 0<|.cs ((UInt8.toNat x2:Int)==45) (.k4 1<|.idxS v0 (IntKind.wrap .i64 (v3 - 1)) fun x7=>.k2 1<|.br ((UInt8.toNat x7:Int)==45) (.rt false)<|.g0 (.L0 v0 (IntKind.wrap .i64 (v3+1))))<|.k5 1<|.kg 1<|.kn [0]<|.g0 (.L0 v0 (IntKind.wrap .i64 (v3+1))))<|.k5 0<|.b5 false<|.kb false<|.kn [0]<|.g0 (.L0 v0 (IntKind.wrap .i64 (v3+1)))
def Zsg(v0:By)(v3:Int):LT Zmx Bool:=
.lenS v0<|.br (decide (v3 < (v0.length:Int))) (.idxS v0 v3 fun x3=>.call (Zakz (UInt8.toNat x3:Int)) fun x5=>.cs (!x5) (.k3 1<|.idxS v0 v3 fun x8=>.k2 1<|.cs (decide ((UInt8.toNat x8:Int) < 48)) (.k4 2<|.kg 1<|.kg 2<|.kg 1<|.b3 true<|.idxS v0 v3 fun x11=>.b2 true<|.br ((UInt8.toNat x11:Int) != 45) (.rt false)<|.j0 (.L1 v0 v3) (Zkg v0 v3))<|.k3 2<|.idxS v0 v3 fun x14=>.kg 2<|.kg 1<|.kg 2<|.kg 1<|.cs (decide ((UInt8.toNat x14:Int) > 57)) (.k3 3<|.idxS v0 v3 fun x17=>.k2 3<|.br ((UInt8.toNat x17:Int) != 45) (.rt false)<|.j0 (.L1 v0 v3) (Zkg v0 v3))<|.k5 3<|.kn [0]<|.j0 (.L1 v0 v3) (Zkg v0 v3))<|.k5 1<|.k2 1<|.b5 false<|.kn [0]<|.j0 (.L1 v0 v3) (Zkg v0 v3))<|.rt true
def Zaih(a0:By):LT Zmx Bool:=
.lenS a0<|.cs (decide ((a0.length:Int) < 1)) (.k4 0<|.b8 true<|.b4 true<|.kn [0]<|.rt false)<|.k2 0<|.lenS a0<|.k2 0<|.cs (decide ((a0.length:Int) > 32)) (.k5 1<|.b5 true<|.b2 true<|.kn [0]<|.rt false)<|.k2 1<|.idxS a0 0 fun x4=>.kg 1<|.call (Zakz (UInt8.toNat x4:Int)) fun x6=>.k2 1<|.cs (!x6) (.k5 2<|.k2 2<|.kn [0]<|.rt false)<|.k3 2<|.lenS a0<|.k2 2<|.idxS a0 (IntKind.wrap .i64 ((a0.length:Int) - 1)) fun x11=>.k2 2<|.br ((UInt8.toNat x11:Int)==45) (.rt false)<|.g0 (.L0 a0 0)
def Zu2:LF Zmx Bool := .m0 73 [.t 2] wB fun | .L0 v0 v3=>([1,1,0,1,4],⟨70,[(0,wS v0),(3,wI v3)],[]⟩,Zsg v0 v3) | .L1 v0 v3=>([1,1,0,1,4,5,1,0,4,1],⟨70,[(0,wS v0),(3,wI v3)],[]⟩,Zkg v0 v3)
def Zak0:=fun a0=>Zu2.run (Zaih a0)
theorem Zabo(a0){r}(h:Zak0 a0=some r):Fn PR 73 [wS a0] (wB r):=Zu2.fn h
inductive Zmy where
 | L0 (E0:Zt) (v3:Int)
def Zot(E0:Zt)(v3:Int):LT Zmy Bool:=
.br (decide (v3 < 5)) (.idA (Zf.int .i64) (A5.list E0.Color) v3 (bx (Zah E0)) 2 7 fun x2=>.ldC (Zf.int .i64) 29 x2 0<|.cs (decide (x2 < 0)) (.k5 1<|.kg 1<|.kn [0]<|.rt false)<|.k3 1<|.idA (Zf.int .i64) (A5.list E0.Color) v3 (bx (Zah E0)) 2 7 fun x5=>.kg 1<|.ldC (Zf.int .i64) 35 x5 1<|.k2 1<|.br (decide (x5 > 9)) (.rt false)<|.g0 (.L0 E0 (IntKind.wrap .i64 (v3+1))))<|.rt true
def Zaii(a0:Zt):LT Zmy Bool:=
.lb 1001<|.cs (decide (a0.Generic < 0)) (.k4 0<|.b8 true<|.kn [0]<|.rt false)<|.k4 0<|.cs (decide (a0.Generic > 99)) (.k4 1<|.b4 true<|.kn [0]<|.rt false)<|.k4 1<|.cs (decide (a0.X < 0)) (.k4 2<|.kn [0]<|.rt false)<|.k4 2<|.br (decide (a0.X > 2)) (.rt false)<|.go (.L0 a0 0) [.relab 1001 3000]
def Zkx:LF Zmy Bool := .m0 74 [.t 2] wB fun | .L0 E0 v3=>([1,1,0,1,4],⟨38,[(1,.bptr 3000 0),(3,wI v3)],[(3000,.box (bx (Zah E0)))]⟩,Zot E0 v3)
def Z52:=fun a0=>Zkx.run (Zaii a0)
theorem Z2p(a0){r}(h:Z52 a0=some r):Fn PR 74 [wA (Zah a0)] (wB r):=Zkx.fn h
def Zaij:LT Empty (Bys):=
.lb 1001<|.ret [([98,97,115,105,99]:By),([117,110,105,113,117,101]:By)] [.relab 1001 5000]
def Z0d:LF Empty (Bys) := .z 169 [.t 0] true (fun r=>[(5000,wR cS 1 r)]) (fun r=>(wO cS 5000 r))
def Zu3:=Z0d.run (Zaij)
theorem Zabp{r}(h:Zu3=some r):FnG PR 169 [] [] [(5000,wR cS 1 r)] (wO cS 5000 r):=Z0d.fn h
theorem Zaev{r:Bys}(h:Zu3=some r):Fn PR 169 [] (wL cS r):=
 FnG.frozen (C:=LT.RL cS r/\True) (Zabp h) ⟨rfl,trivial⟩ (by kernel_rfl)
inductive Z4u where
 | L0 (v0:Bys) (v1:By) (v5:Int)
def Zou(v0:Bys)(v1:By)(v5:Int):LT Z4u Int:=
.len cS v0<|.br (decide (v5 < (v0.length:Int))) (.idx cS v0 v5 fun x3=>.br (x3==v1) (.rt v5)<|.g0 (.L0 v0 v1 (IntKind.wrap .i64 (v5+1))))<|.rt (-1)
def Zafk(a0:Bys)(a1:By):LT Z4u Int:=
.g0 (.L0 a0 a1 0)
def Z4v:LF Z4u Int := .m0 168 [.t 4] wI fun | .L0 v0 v1 v5=>([1,0,1,4],⟨19,[(0,wL cS v0),(1,wS v1),(5,wI v5)],[]⟩,Zou v0 v1 v5)
def Zabq:=fun a0 a1=>Z4v.run (Zafk a0 a1)
theorem Z0e(a0)(a1){r}(h:Zabq a0 a1=some r):Fn PR 168 [wL cS a0,wS a1] (wI r):=Z4v.fn h
def Z2q:LT Empty (Bys):=
.lb 1001<|.ret [([99,114,101,97,116,117,114,101]:By),([105,110,115,116,97,110,116]:By),([114,105,116,117,97,108]:By),([114,101,108,105,99]:By),([99,104,97,114,109]:By),([108,97,110,100]:By)] [.relab 1001 5000]
def Z2r:LF Empty (Bys) := .z 170 [.t 0] true (fun r=>[(5000,wR cS 1 r)]) (fun r=>(wO cS 5000 r))
def Zrk:=Z2r.run (Z2q)
theorem Zaew{r}(h:Zrk=some r):FnG PR 170 [] [] [(5000,wR cS 1 r)] (wO cS 5000 r):=Z2r.fn h
theorem Z0f{r:Bys}(h:Zrk=some r):Fn PR 170 [] (wL cS r):=
 FnG.frozen (C:=LT.RL cS r/\True) (Zaew h) ⟨rfl,trivial⟩ (by kernel_rfl)
def Zafl(a0:By):LT Empty Bool:=
.call (Zabo a0) fun x1=>.cs x1 (.kg 0<|.call (Zaev) fun x4=>.k2 0<|.call (Z0e x4 a0) fun x6=>.k2 0<|.cs (decide (x6 < 0)) (.kg 1<|.call (Z0f) fun x9=>.k2 1<|.call (Z0e x9 a0) fun x11=>.k2 1<|.rt (decide (x11 < 0)))<|.k5 1<|.rt false)<|.k5 0<|.b5 false<|.rt false
def Zafm:LF Empty Bool := .z0 121 [.t 2] wB
def Z2s:=fun a0=>Zafm.run (Zafl a0)
theorem Z0g(a0){r}(h:Z2s a0=some r):Fn PR 121 [wS a0] (wB r):=Zafm.fn h
inductive Zwo where
 | L0 (v0:Int) (v1:Int) (v5:Int)
def Zak1(v0:Int)(v1:Int)(v5:Int):LT Zwo Bool:=
.br (decide (v5 < v1)) (.dc ((2:Int)≠0) rfl<|.g0 (.L0 (Zqg .i64 v0 2) v1 (IntKind.wrap .i64 (v5+1))))<|.dc ((2:Int)≠0) rfl<|.rt ((Int.tmod v0 2)==1)
def Zarb(a0:Int)(a1:Int):LT Zwo Bool:=
.g0 (.L0 a0 a1 0)
def Zabr:LF Zwo Bool := .m0 122 [.t 4] wB fun | .L0 v0 v1 v5=>([1,0,1,4],⟨16,[(0,wI v0),(1,wI v1),(5,wI v5)],[]⟩,Zak1 v0 v1 v5)
def Za1w:=fun a0 a1=>Zabr.run (Zarb a0 a1)
theorem Z71(a0)(a1){r}(h:Za1w a0 a1=some r):Fn PR 122 [wI a0,wI a1] (wB r):=Zabr.fn h
inductive Z0h where
 | L0 (E0:Zac) (v3:Int)
def Zarc(E0:Zac)(v3:Int):LT Z0h Bool:=
.len cS E0.Subs<|.br (decide (v3 < (E0.Subs.length:Int))) (.idx cS E0.Subs v3 fun x3=>.call (Z0g x3) fun x5=>.cs (!x5) (.k5 1<|.kn [0]<|.rt false)<|.k3 1<|.cs (decide (v3 > 0)) (.k5 2<|.idx cS E0.Subs (IntKind.wrap .i64 (v3 - 1)) fun x11=>.k5 2<|.ag cS x3 0<|.k2 2<|.kg 1<|.kg 2<|.kg 1<|.br (!(Op.bytesLess x11 x3)) (.rt false)<|.g0 (.L0 E0 (IntKind.wrap .i64 (v3+1))))<|.k8 2<|.k4 2<|.kg 1<|.kg 2<|.kg 1<|.kn [0]<|.g0 (.L0 E0 (IntKind.wrap .i64 (v3+1))))<|.cs (E0.Types==2) (.k4 1<|.b5 true<|.b2 true<|.rt true)<|.k4 1<|.cs (E0.Types==4) (.k5 2<|.k2 2<|.rt true)<|.k3 2<|.call (Z71 E0.Types 1) fun x20=>.k2 2<|.cs (!x20) (.k3 3<|.call (Z71 E0.Types 2) fun x23=>.kg 3<|.kg 2<|.kg 3<|.kg 2<|.rt (!x23))<|.k4 3<|.kg 2<|.kg 3<|.kg 2<|.rt false
def Zavy(a0:Zac):LT Z0h Bool:=
.lb 1001<|.cs (decide (a0.Super < 0)) (.k4 0<|.b8 true<|.b5 true<|.kn [0]<|.rt false)<|.k4 0<|.cs (decide (a0.Super > 3)) (.k4 1<|.b8 true<|.kb true<|.kn [0]<|.rt false)<|.k4 1<|.cs (decide (a0.Types < 1)) (.k4 2<|.b5 true<|.kn [0]<|.rt false)<|.k4 2<|.cs (decide (a0.Types > 63)) (.k5 3<|.kn [0]<|.rt false)<|.k3 3<|.len cS a0.Subs<|.k2 3<|.br (decide ((a0.Subs.length:Int) > 4)) (.rt false)<|.go (.L0 a0 0) [.relab 1001 3000]
def Zaik:LF Z0h Bool := .m0 75 [.t 2] wB fun | .L0 E0 v3=>([1,1,0,1,4],⟨80,[(1,.bptr 3000 0),(3,wI v3)],[(3000,.box (bx (Zhd E0)))]⟩,Zarc E0 v3)
def Za65:=fun a0=>Zaik.run (Zavy a0)
theorem Za66(a0){r}(h:Za65 a0=some r):Fn PR 75 [wA (Zhd a0)] (wB r):=Zaik.fn h
def Zavz(a0:Int):LT Empty Bool:=
.cs (decide (a0>=0)) (.k3 0<|.rt (decide (a0<=131071)))<|.k3 0<|.rt false
def Zav0:LF Empty Bool := .z0 76 [.t 2] wB
def Za67:=fun a0=>Zav0.run (Zavz a0)
theorem Zard(a0){r}(h:Za67 a0=some r):Fn PR 76 [wI a0] (wB r):=Zav0.fn h
def Z53(a0:Zm):LT Empty Bool:=
.lb 1001<|.rt ((Zay .and .i64 a0.Line.Types 1) != 0)
def Z54:LF Empty Bool := .z0 77 [.t 2] wB
def Zabs:=fun a0=>Z54.run (Z53 a0)
theorem Zak2(a0){r}(h:Zabs a0=some r):Fn PR 77 [wA (Z6 a0)] (wB r):=Z54.fn h
inductive Zqt where
 | L0 (v0:Int) (v1:Int) (v7:Int)
def Zlj(v0:Int)(v1:Int)(v7:Int):LT Zqt Bool:=
.br (decide (v7 < 6)) (.dc ((2:Int)≠0) rfl<|.cs ((Int.tmod v0 2)==1) (.k2 1<|.dc ((2:Int)≠0) rfl<|.k2 1<|.br ((Int.tmod v1 2)==1) (.rt false)<|.dc ((2:Int)≠0) rfl<|.dc ((2:Int)≠0) rfl<|.g0 (.L0 (Zqg .i64 v0 2) (Zqg .i64 v1 2) (IntKind.wrap .i64 (v7+1))))<|.k4 1<|.kn [0]<|.dc ((2:Int)≠0) rfl<|.dc ((2:Int)≠0) rfl<|.g0 (.L0 (Zqg .i64 v0 2) (Zqg .i64 v1 2) (IntKind.wrap .i64 (v7+1))))<|.rt true
def Z4w(a0:Int)(a1:Int)(a2:Int):LT Zqt Bool:=
.cs (decide (a0 < 0)) (.k4 0<|.b5 true<|.b2 true<|.kn [0]<|.rt false)<|.k4 0<|.cs (decide (a0 > a2)) (.k3 1<|.b4 true<|.kn [0]<|.rt false)<|.k3 1<|.cs (decide (a1 < 0)) (.k4 2<|.kn [0]<|.rt false)<|.k4 2<|.br (decide (a1 > a2)) (.rt false)<|.g0 (.L0 a0 a1 0)
def Zny:LF Zqt Bool := .m0 171 [.t 6] wB fun | .L0 v0 v1 v7=>([1,1,0,1,4],⟨40,[(0,wI v0),(1,wI v1),(7,wI v7)],[]⟩,Zlj v0 v1 v7)
def Z2t:=fun a0 a1 a2=>Zny.run (Z4w a0 a1 a2)
theorem Zabt(a0)(a1)(a2){r}(h:Z2t a0 a1 a2=some r):Fn PR 171 [wI a0,wI a1,wI a2] (wB r):=Zny.fn h
def Z4x(a0:Za):LT Empty Bool:=
.lb 1001<|.cs (decide (a0.Kind < 0)) (.k4 0<|.b8 true<|.kn [0]<|.rt false)<|.k4 0<|.cs (decide (a0.Kind > 3)) (.k4 1<|.b4 true<|.kn [0]<|.rt false)<|.k4 1<|.cs (decide (a0.N < 0)) (.k4 2<|.kn [0]<|.rt false)<|.k4 2<|.br (decide (a0.N > 1000000)) (.rt false)<|.cs (a0.Kind != 0) (.k4 4<|.rt true)<|.k4 4<|.rt (a0.N==0)
def Zafn:LF Empty Bool := .z0 172 [.t 2] wB
def Z2u:=fun a0=>Zafn.run (Z4x a0)
theorem Z0i(a0){r}(h:Z2u a0=some r):Fn PR 172 [wA (Zb4 a0)] (wB r):=Zafn.fn h
inductive Z0j where
 | L0 (E0:Ze)
def Zov(E0:Ze):LT Z0j Bool:=
.call (Z0i E0.Power) fun x1=>.cs x1 (.k3 0<|.call (Z0i E0.Tough) fun x4=>.kg 0<|.cs x4 (.k3 1<|.call (Z0i E0.Value) fun x7=>.kg 1<|.rt x7)<|.k4 1<|.rt false)<|.k4 0<|.b4 false<|.rt false
def Zail(a0:Ze):LT Z0j Bool:=
.lb 1001<|.cs (decide (a0.Zone < 0)) (.k4 0<|.b16 true<|.b8 true<|.kn [0]<|.rt false)<|.k4 0<|.cs (decide (a0.Zone > 5)) (.k4 1<|.b16 true<|.b4 true<|.kn [0]<|.rt false)<|.k4 1<|.cs (decide (a0.Who < 0)) (.k4 2<|.b16 true<|.kn [0]<|.rt false)<|.k4 2<|.cs (decide (a0.Who > 2)) (.k4 3<|.b8 true<|.b4 true<|.kn [0]<|.rt false)<|.k4 3<|.cs (decide (a0.Self < 0)) (.k4 4<|.b8 true<|.kn [0]<|.rt false)<|.k4 4<|.cs (decide (a0.Self > 2)) (.k4 5<|.b4 true<|.kn [0]<|.rt false)<|.k4 5<|.cs (decide (a0.Tap < 0)) (.k4 6<|.kn [0]<|.rt false)<|.k4 6<|.br (decide (a0.Tap > 2)) (.rt false)<|.call (Zabt a0.Types a0.NotTypes 63) fun x9=>.cs (!x9) (.k5 8<|.k2 8<|.kn [0]<|.rt false)<|.k5 8<|.call (Zabt a0.Colors a0.NotColors 31) fun x12=>.k2 8<|.br (!x12) (.rt false)<|.cs (!(a0.Sub==([]:By))) (.k3 10<|.call (Z0g a0.Sub) fun x16=>.k2 10<|.cs (!x16) (.k4 11<|.b4 true<|.kn [0]<|.rt false)<|.k4 11<|.cs (decide (a0.Keys < 0)) (.k4 12<|.kn [0]<|.rt false)<|.k4 12<|.br (decide (a0.Keys > 131071)) (.rt false)<|.jn 0 (.L0 a0) [.relab 1001 3000] (Zov a0))<|.k5 10<|.b4 false<|.cs (decide (a0.Keys < 0)) (.k4 11<|.kn [0]<|.rt false)<|.k4 11<|.br (decide (a0.Keys > 131071)) (.rt false)<|.jn 0 (.L0 a0) [.relab 1001 3000] (Zov a0)
def Zaim:LF Z0j Bool := .m0 123 [.t 2] wB fun | .L0 E0=>([1,1,1,1],⟨87,[(1,.bptr 3000 0)],[(3000,.box (bx (Zo E0)))]⟩,Zov E0)
def Zabu:=fun a0=>Zaim.run (Zail a0)
theorem Zho(a0){r}(h:Zabu a0=some r):Fn PR 123 [wA (Zo a0)] (wB r):=Zaim.fn h
inductive Zpu where
 | L0 (E0:Zd) (E1:Zd) (v7:Int) (v8:Bool)
 | L1 (E0:Zd) (E1:Zd) (v7:Int) (v16:Bool)
def Zqu(E0:Zd)(E1:Zd)(v7:Int)(v16:Bool):LT Zpu Zd:=
.br v16 (.rt (⟨E0.Kind,E0.N,E0.M,([]:By),E0.Filter⟩:Zd))<|.br (v7==11) (.rt (⟨E0.Kind,E0.N,E0.M,E0.Sub,(⟨0,0,0,0,0,0,0,([]:By),0,0,(⟨0,0⟩:Za),(⟨0,0⟩:Za),(⟨0,0⟩:Za)⟩:Ze)⟩:Zd))<|.br (v7==12) (.kn [3]<|.rt (⟨E0.Kind,0,0,E0.Sub,E0.Filter⟩:Zd))<|.br (v7==13) (.rt (⟨E0.Kind,0,0,E0.Sub,E0.Filter⟩:Zd))<|.rt E0
def Zhe(E0:Zd)(E1:Zd)(v7:Int)(v8:Bool):LT Zpu Zd:=
.br v8 (.rt (⟨E0.Kind,0,E0.M,E0.Sub,E0.Filter⟩:Zd))<|.br (v7==4) (.j0 (.L1 E0 E1 v7 (v7==4)) (Zqu E0 E1 v7 (v7==4)))<|.j0 (.L1 E0 E1 v7 (v7==5)) (Zqu E0 E1 v7 (v7==5))
def Zak3(a0:Zd):LT Zpu Zd:=
.lb 1001<|.lb 1002<|.br (a0.Kind==2) (.jn 0 (.L0 (⟨0,a0.N,a0.M,a0.Sub,a0.Filter⟩:Zd) (⟨0,0,0,([]:By),(⟨0,0,0,0,0,0,0,([]:By),0,0,(⟨0,0⟩:Za),(⟨0,0⟩:Za),(⟨0,0⟩:Za)⟩:Ze)⟩:Zd) a0.Kind (a0.Kind==2)) [.relab 1001 3000,.relab 1002 3001] (Zhe (⟨0,a0.N,a0.M,a0.Sub,a0.Filter⟩:Zd) (⟨0,0,0,([]:By),(⟨0,0,0,0,0,0,0,([]:By),0,0,(⟨0,0⟩:Za),(⟨0,0⟩:Za),(⟨0,0⟩:Za)⟩:Ze)⟩:Zd) a0.Kind (a0.Kind==2)))<|.br (a0.Kind==3) (.jn 0 (.L0 (⟨0,a0.N,a0.M,a0.Sub,a0.Filter⟩:Zd) (⟨0,0,0,([]:By),(⟨0,0,0,0,0,0,0,([]:By),0,0,(⟨0,0⟩:Za),(⟨0,0⟩:Za),(⟨0,0⟩:Za)⟩:Ze)⟩:Zd) a0.Kind (a0.Kind==3)) [.relab 1001 3000,.relab 1002 3001] (Zhe (⟨0,a0.N,a0.M,a0.Sub,a0.Filter⟩:Zd) (⟨0,0,0,([]:By),(⟨0,0,0,0,0,0,0,([]:By),0,0,(⟨0,0⟩:Za),(⟨0,0⟩:Za),(⟨0,0⟩:Za)⟩:Ze)⟩:Zd) a0.Kind (a0.Kind==3)))<|.br (a0.Kind==6) (.jn 0 (.L0 (⟨0,a0.N,a0.M,a0.Sub,a0.Filter⟩:Zd) (⟨0,0,0,([]:By),(⟨0,0,0,0,0,0,0,([]:By),0,0,(⟨0,0⟩:Za),(⟨0,0⟩:Za),(⟨0,0⟩:Za)⟩:Ze)⟩:Zd) a0.Kind (a0.Kind==6)) [.relab 1001 3000,.relab 1002 3001] (Zhe (⟨0,a0.N,a0.M,a0.Sub,a0.Filter⟩:Zd) (⟨0,0,0,([]:By),(⟨0,0,0,0,0,0,0,([]:By),0,0,(⟨0,0⟩:Za),(⟨0,0⟩:Za),(⟨0,0⟩:Za)⟩:Ze)⟩:Zd) a0.Kind (a0.Kind==6)))<|.br (a0.Kind==7) (.jn 0 (.L0 (⟨0,a0.N,a0.M,a0.Sub,a0.Filter⟩:Zd) (⟨0,0,0,([]:By),(⟨0,0,0,0,0,0,0,([]:By),0,0,(⟨0,0⟩:Za),(⟨0,0⟩:Za),(⟨0,0⟩:Za)⟩:Ze)⟩:Zd) a0.Kind (a0.Kind==7)) [.relab 1001 3000,.relab 1002 3001] (Zhe (⟨0,a0.N,a0.M,a0.Sub,a0.Filter⟩:Zd) (⟨0,0,0,([]:By),(⟨0,0,0,0,0,0,0,([]:By),0,0,(⟨0,0⟩:Za),(⟨0,0⟩:Za),(⟨0,0⟩:Za)⟩:Ze)⟩:Zd) a0.Kind (a0.Kind==7)))<|.br (a0.Kind==8) (.jn 0 (.L0 (⟨0,a0.N,a0.M,a0.Sub,a0.Filter⟩:Zd) (⟨0,0,0,([]:By),(⟨0,0,0,0,0,0,0,([]:By),0,0,(⟨0,0⟩:Za),(⟨0,0⟩:Za),(⟨0,0⟩:Za)⟩:Ze)⟩:Zd) a0.Kind (a0.Kind==8)) [.relab 1001 3000,.relab 1002 3001] (Zhe (⟨0,a0.N,a0.M,a0.Sub,a0.Filter⟩:Zd) (⟨0,0,0,([]:By),(⟨0,0,0,0,0,0,0,([]:By),0,0,(⟨0,0⟩:Za),(⟨0,0⟩:Za),(⟨0,0⟩:Za)⟩:Ze)⟩:Zd) a0.Kind (a0.Kind==8)))<|.jn 0 (.L0 (⟨0,a0.N,a0.M,a0.Sub,a0.Filter⟩:Zd) (⟨0,0,0,([]:By),(⟨0,0,0,0,0,0,0,([]:By),0,0,(⟨0,0⟩:Za),(⟨0,0⟩:Za),(⟨0,0⟩:Za)⟩:Ze)⟩:Zd) a0.Kind (a0.Kind==9)) [.relab 1001 3000,.relab 1002 3001] (Zhe (⟨0,a0.N,a0.M,a0.Sub,a0.Filter⟩:Zd) (⟨0,0,0,([]:By),(⟨0,0,0,0,0,0,0,([]:By),0,0,(⟨0,0⟩:Za),(⟨0,0⟩:Za),(⟨0,0⟩:Za)⟩:Ze)⟩:Zd) a0.Kind (a0.Kind==9))
def Zak4:LF Zpu Zd := .m0 185 [.c 2 79 true 20] (fun r=>(wA (Zl r))) fun | .L0 E0 E1 v7 v8=>([1,1,1,0,1,4,1],⟨30,[(1,.bptr 3000 0),(2,.bptr 3001 0),(7,wI v7),(8,wB v8)],[(3000,.box (bx (Zl E0))),(3001,.box (bx (Zl E1)))]⟩,Zhe E0 E1 v7 v8) | .L1 E0 E1 v7 v16=>([1,1,1,0,1,4,1,3,1],⟨30,[(1,.bptr 3000 0),(2,.bptr 3001 0),(7,wI v7),(16,wB v16)],[(3000,.box (bx (Zl E0))),(3001,.box (bx (Zl E1)))]⟩,Zqu E0 E1 v7 v16)
def Zav1:=fun a0=>Zak4.run (Zak3 a0)
theorem Zaz8(a0){r}(h:Zav1 a0=some r):Fn PR 185 [wA (Zl a0)] (wA (Zl r)):=Zak4.fn h
def Zafo(a0:Int):LT Empty Bool:=
.cs (decide (a0>=1)) (.k3 0<|.cs (decide (a0<=63)) (.k4 1<|.rt ((Zay .and .i64 a0 6)==0))<|.k4 1<|.rt false)<|.k3 0<|.b4 false<|.rt false
def Zafp:LF Empty Bool := .z0 186 [.t 2] wB
def Zare:=fun a0=>Zafp.run (Zafo a0)
theorem Zav2(a0){r}(h:Zare a0=some r):Fn PR 186 [wI a0] (wB r):=Zafp.fn h
inductive Zrx where
 | L0 (E0:Zd) (v18:Int) (v19:Bool)
 | L1 (E0:Zd) (v18:Int) (v25:Bool)
 | L2 (E0:Zd) (v18:Int) (v51:Bool)
def Zwp(E0:Zd)(v18:Int)(v51:Bool):LT Zrx Bool:=
.br v51 (.cs (decide (E0.N>=1)) (.k4 1<|.rt (decide (E0.N<=131071)))<|.k4 1<|.rt false)<|.br (v18==11) (.call (Zho E0.Filter) fun x4=>.rt x4)<|.br (v18==12) (.cs (decide (E0.N>=0)) (.k4 3<|.cs (decide (E0.N<=99)) (.k4 4<|.cs (decide (E0.M>=0)) (.k4 5<|.rt (decide (E0.M<=99)))<|.k4 5<|.rt false)<|.k4 4<|.b4 false<|.rt false)<|.k4 3<|.b8 false<|.rt false)<|.br (v18==13) (.cs (decide (E0.N>=(-99))) (.k4 4<|.cs (decide (E0.N<=99)) (.k4 5<|.cs (decide (E0.M>=(-99))) (.k4 6<|.rt (decide (E0.M<=99)))<|.k4 6<|.rt false)<|.k4 5<|.b4 false<|.rt false)<|.k4 4<|.b8 false<|.rt false)<|.rt true
def Zwq(E0:Zd)(v18:Int)(v25:Bool):LT Zrx Bool:=
.br v25 (.call (Z0g E0.Sub) fun x2=>.rt x2)<|.br (v18==6) (.cs (decide (E0.N>=0)) (.k4 2<|.rt (decide (E0.N<=31)))<|.k4 2<|.rt false)<|.br (v18==7) (.cs (decide (E0.N>=1)) (.k4 3<|.rt (decide (E0.N<=31)))<|.k4 3<|.rt false)<|.br (v18==8) (.j0 (.L2 E0 v18 (v18==8)) (Zwp E0 v18 (v18==8)))<|.j0 (.L2 E0 v18 (v18==9)) (Zwp E0 v18 (v18==9))
def Zwr(E0:Zd)(v18:Int)(v19:Bool):LT Zrx Bool:=
.br v19 (.call (Zav2 E0.N) fun x2=>.rt x2)<|.br (v18==4) (.j0 (.L1 E0 v18 (v18==4)) (Zwq E0 v18 (v18==4)))<|.j0 (.L1 E0 v18 (v18==5)) (Zwq E0 v18 (v18==5))
def Zav3(a0:Zd):LT Zrx Bool:=
.lb 1001<|.cs (decide (a0.Kind < 1)) (.k4 0<|.b5 true<|.kn [0]<|.rt false)<|.k4 0<|.cs (decide (a0.Kind > 14)) (.k5 1<|.kn [0]<|.rt false)<|.k2 1<|.call (Zaz8 a0) fun x3=>.k3 1<|.br (!(Zy (Zl x3) (Zl (⟨0,0,0,([]:By),(⟨0,0,0,0,0,0,0,([]:By),0,0,(⟨0,0⟩:Za),(⟨0,0⟩:Za),(⟨0,0⟩:Za)⟩:Ze)⟩:Zd)))) (.rt false)<|.br (a0.Kind==2) (.jn 0 (.L0 a0 a0.Kind (a0.Kind==2)) [.relab 1001 3000] (Zwr a0 a0.Kind (a0.Kind==2)))<|.jn 0 (.L0 a0 a0.Kind (a0.Kind==3)) [.relab 1001 3000] (Zwr a0 a0.Kind (a0.Kind==3))
def Zav4:LF Zrx Bool := .m0 137 [.t 2] wB fun | .L0 E0 v18 v19=>([1,1,0,1,4,1],⟨107,[(1,.bptr 3000 0),(18,wI v18),(19,wB v19)],[(3000,.box (bx (Zl E0)))]⟩,Zwr E0 v18 v19) | .L1 E0 v18 v25=>([1,1,0,1,4,1,3,1],⟨107,[(1,.bptr 3000 0),(18,wI v18),(25,wB v25)],[(3000,.box (bx (Zl E0)))]⟩,Zwq E0 v18 v25) | .L2 E0 v18 v51=>([1,1,0,1,4,1,3,1,3,1,3,1,3,1],⟨107,[(1,.bptr 3000 0),(18,wI v18),(51,wB v51)],[(3000,.box (bx (Zl E0)))]⟩,Zwp E0 v18 v51)
def Za68:=fun a0=>Zav4.run (Zav3 a0)
theorem Zarf(a0){r}(h:Za68 a0=some r):Fn PR 137 [wA (Zl a0)] (wB r):=Zav4.fn h
inductive Zow where
 | L0 (v0:Bys) (v1:Int) (v2:By) (v7:By) (v8:Int)
def Z9b(v0:Bys)(v1:Int)(v2:By)(v7:By)(v8:Int):LT Zow (By):=
.len cS v0<|.br (decide (v8 < (v0.length:Int))) (.call (Z71 v1 v8) fun x3=>.br x3 (.br (!(v7==([]:By))) (.ok (v7.length+v2.length<=9223372036854775807)<|.idx cS v0 v8 fun x10=>.ok ((v7++v2).length+x10.length<=9223372036854775807)<|.g0 (.L0 v0 v1 v2 ((v7++v2)++x10) (IntKind.wrap .i64 (v8+1))))<|.idx cS v0 v8 fun x17=>.ok (v7.length+x17.length<=9223372036854775807)<|.g0 (.L0 v0 v1 v2 (v7++x17) (IntKind.wrap .i64 (v8+1))))<|.g0 (.L0 v0 v1 v2 v7 (IntKind.wrap .i64 (v8+1))))<|.rt v7
def Zabv(a0:Bys)(a1:Int)(a2:By):LT Zow (By):=
.g0 (.L0 a0 a1 a2 ([]:By) 0)
def Z0k:LF Zow (By) := .m0 231 [.t 6] wS fun | .L0 v0 v1 v2 v7 v8=>([1,1,0,1,4],⟨30,[(0,wL cS v0),(1,wI v1),(2,wS v2),(7,wS v7),(8,wI v8)],[]⟩,Z9b v0 v1 v2 v7 v8)
def Zak5:=fun a0 a1 a2=>Z0k.run (Zabv a0 a1 a2)
theorem Zasp(a0)(a1)(a2){r}(h:Zak5 a0 a1 a2=some r):Fn PR 231 [wL cS a0,wI a1,wS a2] (wS r):=Z0k.fn h
def Z2v(a0:Int):LT Empty (By):=
.cs (decide (a0 < 1)) (.k3 0<|.kn [0]<|.rt ([]:By))<|.k3 0<|.br (decide (a0 > 63)) (.rt ([]:By))<|.call (Z0f) fun x3=>.call (Zasp x3 a0 ([43]:By)) fun x5=>.rt x5
def Z2w:LF Empty (By) := .z0 187 [.t 2] wS
def Z9c:=fun a0=>Z2w.run (Z2v a0)
theorem Zry(a0){r}(h:Z9c a0=some r):Fn PR 187 [wI a0] (wS r):=Z2w.fn h
def Zav5(a0:Int):LT Empty Bool:=
.cs (decide (a0>=0)) (.k3 0<|.rt (decide (a0<=31)))<|.k3 0<|.rt false
def Zav6:LF Empty Bool := .z0 232 [.t 2] wB
def Za69:=fun a0=>Zav6.run (Zav5 a0)
theorem Za7a(a0){r}(h:Za69 a0=some r):Fn PR 232 [wI a0] (wB r):=Zav6.fn h
def Zak6(a0:Int):LT Empty (By):=
.br (a0==0) (.rt ([97,109,98,101,114]:By))<|.br (a0==1) (.rt ([99,111,98,97,108,116]:By))<|.br (a0==2) (.rt ([106,101,116]:By))<|.br (a0==3) (.rt ([114,117,98,121]:By))<|.br (a0==4) (.rt ([101,109,101,114,97,108,100]:By))<|.rt ([]:By)
def Zak7:LF Empty (By) := .z0 233 [.t 2] wS
def Zav7:=fun a0=>Zak7.run (Zak6 a0)
theorem Zv3(a0){r}(h:Zav7 a0=some r):Fn PR 233 [wI a0] (wS r):=Zak7.fn h
inductive Zs9 where
 | L0 (v0:Int) (v3:By) (v4:Int)
def Zafq(v0:Int)(v3:By)(v4:Int):LT Zs9 (By):=
.br (decide (v4 < 5)) (.ok (¬ v4 < 0)<|.ok ((Z0a .i64 1 v4)≠0)<|.dc ((2:Int)≠0) rfl<|.br ((Int.tmod (Zqg .i64 v0 (Z0a .i64 1 v4)) 2)==1) (.br (!(v3==([]:By))) (.ok (v3.length+([43]:By).length<=9223372036854775807)<|.call (Zv3 v4) fun x10=>.ok ((v3++([43]:By)).length+x10.length<=9223372036854775807)<|.g0 (.L0 v0 ((v3++([43]:By))++x10) (IntKind.wrap .i64 (v4+1))))<|.call (Zv3 v4) fun x17=>.ok (v3.length+x17.length<=9223372036854775807)<|.g0 (.L0 v0 (v3++x17) (IntKind.wrap .i64 (v4+1))))<|.g0 (.L0 v0 v3 (IntKind.wrap .i64 (v4+1))))<|.rt v3
def Zak8(a0:Int):LT Zs9 (By):=
.call (Za7a a0) fun x1=>.br (!x1) (.rt ([]:By))<|.br (a0==0) (.rt ([110,111,110,101]:By))<|.g0 (.L0 a0 ([]:By) 0)
def Z72:LF Zs9 (By) := .m0 188 [.t 2] wS fun | .L0 v0 v3 v4=>([1,1,1,1,0,1,4],⟨29,[(0,wI v0),(3,wS v3),(4,wI v4)],[]⟩,Zafq v0 v3 v4)
def Zav8:=fun a0=>Z72.run (Zak8 a0)
theorem Zafr(a0){r}(h:Zav8 a0=some r):Fn PR 188 [wI a0] (wS r):=Z72.fn h
def Zafs:LT Empty (Bys):=
.lb 1001<|.ret [([102,108,121,105,110,103]:By),([114,101,97,99,104]:By),([104,97,115,116,101]:By),([118,105,103,105,108,97,110,116]:By),([116,114,97,109,112,108,101]:By),([102,105,114,115,116,45,115,116,114,105,107,101]:By),([100,111,117,98,108,101,45,115,116,114,105,107,101]:By),([100,101,97,100,108,121]:By),([108,105,102,101,108,105,110,107]:By),([109,101,110,97,99,101]:By),([100,101,102,101,110,100,101,114]:By),([119,97,114,100,101,100]:By),([115,116,117,114,100,121]:By),([101,108,117,115,105,118,101]:By),([110,111,45,97,116,116,97,99,107]:By),([110,111,45,98,108,111,99,107]:By),([109,117,115,116,45,97,116,116,97,99,107]:By)] [.relab 1001 5000]
def Zaft:LF Empty (Bys) := .z 261 [.t 0] true (fun r=>[(5000,wR cS 1 r)]) (fun r=>(wO cS 5000 r))
def Zabw:=Zaft.run (Zafs)
theorem Zasq{r}(h:Zabw=some r):FnG PR 261 [] [] [(5000,wR cS 1 r)] (wO cS 5000 r):=Zaft.fn h
theorem Zav9{r:Bys}(h:Zabw=some r):Fn PR 261 [] (wL cS r):=
 FnG.frozen (C:=LT.RL cS r/\True) (Zasq h) ⟨rfl,trivial⟩ (by kernel_rfl)
def Zak9(a0:Int):LT Empty (By):=
.cs (decide (a0 < 0)) (.k3 0<|.kn [0]<|.rt ([]:By))<|.k3 0<|.br (decide (a0 > 16)) (.rt ([]:By))<|.call (Zav9) fun x3=>.idx cS x3 a0 fun x5=>.rt x5
def Zala:LF Empty (By) := .z0 234 [.t 2] wS
def Zawa:=fun a0=>Zala.run (Zak9 a0)
theorem Z4y(a0){r}(h:Zawa a0=some r):Fn PR 234 [wI a0] (wS r):=Zala.fn h
inductive Zta where
 | L0 (v0:Int) (v3:By) (v4:Int)
def Zafu(v0:Int)(v3:By)(v4:Int):LT Zta (By):=
.br (decide (v4 < 17)) (.dc ((2:Int)≠0) rfl<|.br ((Int.tmod v0 2)==1) (.br (!(v3==([]:By))) (.ok (v3.length+([43]:By).length<=9223372036854775807)<|.call (Z4y v4) fun x6=>.ok ((v3++([43]:By)).length+x6.length<=9223372036854775807)<|.dc ((2:Int)≠0) rfl<|.g0 (.L0 (Zqg .i64 v0 2) ((v3++([43]:By))++x6) (IntKind.wrap .i64 (v4+1))))<|.call (Z4y v4) fun x13=>.ok (v3.length+x13.length<=9223372036854775807)<|.dc ((2:Int)≠0) rfl<|.g0 (.L0 (Zqg .i64 v0 2) (v3++x13) (IntKind.wrap .i64 (v4+1))))<|.dc ((2:Int)≠0) rfl<|.g0 (.L0 (Zqg .i64 v0 2) v3 (IntKind.wrap .i64 (v4+1))))<|.br (v3==([]:By)) (.rt ([110,111,110,101]:By))<|.rt v3
def Zalb(a0:Int):LT Zta (By):=
.call (Zard a0) fun x1=>.br (!x1) (.rt ([]:By))<|.g0 (.L0 a0 ([]:By) 0)
def Z73:LF Zta (By) := .m0 189 [.t 2] wS fun | .L0 v0 v3 v4=>([1,1,1,0,1,4],⟨28,[(0,wI v0),(3,wS v3),(4,wI v4)],[]⟩,Zafu v0 v3 v4)
def Zawb:=fun a0=>Z73.run (Zalb a0)
theorem Zafv(a0){r}(h:Zawb a0=some r):Fn PR 189 [wI a0] (wS r):=Z73.fn h
def Z2x:LT Empty (Bys):=
.lb 1001<|.ret [([]:By),([105,110,45,104,97,110,100]:By),([105,110,45,108,105,98,114,97,114,121]:By),([105,110,45,103,114,97,118,101,121,97,114,100]:By),([105,110,45,101,120,105,108,101]:By),([111,110,45,115,116,97,99,107]:By)] [.relab 1001 5000]
def Z2y:LF Empty (Bys) := .z 235 [.t 0] true (fun r=>[(5000,wR cS 1 r)]) (fun r=>(wO cS 5000 r))
def Zxw:=Z2y.run (Z2x)
theorem Zaex{r}(h:Zxw=some r):FnG PR 235 [] [] [(5000,wR cS 1 r)] (wO cS 5000 r):=Z2y.fn h
theorem Zain{r:Bys}(h:Zxw=some r):Fn PR 235 [] (wL cS r):=
 FnG.frozen (C:=LT.RL cS r/\True) (Zaex h) ⟨rfl,trivial⟩ (by kernel_rfl)
def Z55:LT Empty (Bys):=
.lb 1001<|.ret [([]:By),([121,111,117,114,115]:By),([116,104,101,105,114,115]:By)] [.relab 1001 5000]
def Z56:LF Empty (Bys) := .z 236 [.t 0] true (fun r=>[(5000,wR cS 1 r)]) (fun r=>(wO cS 5000 r))
def Z0l:=Z56.run (Z55)
theorem Zaio{r}(h:Z0l=some r):FnG PR 236 [] [] [(5000,wR cS 1 r)] (wO cS 5000 r):=Z56.fn h
theorem Zalc{r:Bys}(h:Z0l=some r):Fn PR 236 [] (wL cS r):=
 FnG.frozen (C:=LT.RL cS r/\True) (Zaio h) ⟨rfl,trivial⟩ (by kernel_rfl)
def Z2z:LT Empty (Bys):=
.lb 1001<|.ret [([]:By),([115,101,108,102]:By),([111,116,104,101,114]:By)] [.relab 1001 5000]
def Z20:LF Empty (Bys) := .z 237 [.t 0] true (fun r=>[(5000,wR cS 1 r)]) (fun r=>(wO cS 5000 r))
def Zxx:=Z20.run (Z2z)
theorem Zaey{r}(h:Zxx=some r):FnG PR 237 [] [] [(5000,wR cS 1 r)] (wO cS 5000 r):=Z20.fn h
theorem Zaip{r:Bys}(h:Zxx=some r):Fn PR 237 [] (wL cS r):=
 FnG.frozen (C:=LT.RL cS r/\True) (Zaey h) ⟨rfl,trivial⟩ (by kernel_rfl)
def Z57:LT Empty (Bys):=
.lb 1001<|.ret [([]:By),([116,97,112,112,101,100]:By),([117,110,116,97,112,112,101,100]:By)] [.relab 1001 5000]
def Z58:LF Empty (Bys) := .z 238 [.t 0] true (fun r=>[(5000,wR cS 1 r)]) (fun r=>(wO cS 5000 r))
def Z0m:=Z58.run (Z57)
theorem Zaiq{r}(h:Z0m=some r):FnG PR 238 [] [] [(5000,wR cS 1 r)] (wO cS 5000 r):=Z58.fn h
theorem Zald{r:Bys}(h:Z0m=some r):Fn PR 238 [] (wL cS r):=
 FnG.frozen (C:=LT.RL cS r/\True) (Zaiq h) ⟨rfl,trivial⟩ (by kernel_rfl)
inductive Zws where
 | L0 (v0:Int) (v1:Int) (v5:Int)
def Zale(v0:Int)(v1:Int)(v5:Int):LT Zws Bool:=
.br (decide (v5 < v1)) (.dc ((2:Int)≠0) rfl<|.g0 (.L0 (Zqg .i64 v0 2) v1 (IntKind.wrap .i64 (v5+1))))<|.dc ((2:Int)≠0) rfl<|.rt ((Int.tmod v0 2)==1)
def Zarg(a0:Int)(a1:Int):LT Zws Bool:=
.g0 (.L0 a0 a1 0)
def Zabx:LF Zws Bool := .m0 240 [.t 4] wB fun | .L0 v0 v1 v5=>([1,0,1,4],⟨16,[(0,wI v0),(1,wI v1),(5,wI v5)],[]⟩,Zale v0 v1 v5)
def Za1x:=fun a0 a1=>Zabx.run (Zarg a0 a1)
theorem Ztb(a0)(a1){r}(h:Za1x a0 a1=some r):Fn PR 240 [wI a0,wI a1] (wB r):=Zabx.fn h
inductive Zlk where
 | L0 (v0:Int) (v3:Int) (v4:Int)
def Z21(v0:Int)(v3:Int)(v4:Int):LT Zlk (By):=
.br (decide (v4 < v0)) (.g0 (.L0 v0 (IntKind.wrap .i64 (v3*2)) (IntKind.wrap .i64 (v4+1))))<|.call (Zry v3) fun x6=>.rt x6
def Z59(a0:Int):LT Zlk (By):=
.g0 (.L0 a0 1 0)
def Zu4:LF Zlk (By) := .m0 241 [.t 2] wS fun | .L0 v0 v3 v4=>([1,1,0,1,4],⟨14,[(0,wI v0),(3,wI v3),(4,wI v4)],[]⟩,Z21 v0 v3 v4)
def Zaby:=fun a0=>Zu4.run (Z59 a0)
theorem Z22(a0){r}(h:Zaby a0=some r):Fn PR 241 [wI a0] (wS r):=Zu4.fn h
def Zafw:LT Empty (Bys):=
.lb 1001<|.ret [([]:By),([62,61]:By),([60,61]:By),([61]:By)] [.relab 1001 5000]
def Zafx:LF Empty (Bys) := .z 262 [.t 0] true (fun r=>[(5000,wR cS 1 r)]) (fun r=>(wO cS 5000 r))
def Zabz:=Zafx.run (Zafw)
theorem Zasr{r}(h:Zabz=some r):FnG PR 262 [] [] [(5000,wR cS 1 r)] (wO cS 5000 r):=Zafx.fn h
theorem Zawc{r:Bys}(h:Zabz=some r):Fn PR 262 [] (wL cS r):=
 FnG.frozen (C:=LT.RL cS r/\True) (Zasr h) ⟨rfl,trivial⟩ (by kernel_rfl)
inductive Z0n where
 | L0 (v0:Int) (v3:By)
def Zh5(v0:Int)(v3:By):LT Z0n (By):=
.br (decide (v0 > 0)) (.dc ((10:Int)≠0) rfl<|.dr [.lit]<|.str [IntKind.wrap .u8 (IntKind.wrap .u64 (48+(Int.tmod v0 10)))] fun x4=>.ok (x4.length+v3.length<=9223372036854775807)<|.dc ((10:Int)≠0) rfl<|.g0 (.L0 (Zqg .u64 v0 10) (x4++v3)))<|.rt v3
def Zab0(a0:Int):LT Z0n (By):=
.dc ((10:Int)≠0) rfl<|.dr [.lit]<|.str [IntKind.wrap .u8 (IntKind.wrap .u64 (48+(Int.tmod a0 10)))] fun x3=>.dc ((10:Int)≠0) rfl<|.g0 (.L0 (Zqg .u64 a0 10) x3)
def Ztc:LF Z0n (By) := .m0 244 [.t 2] wS fun | .L0 v0 v3=>([1,1,0,1,4],⟨25,[(0,.t (.int .u64 v0)),(3,wS v3)],[]⟩,Zh5 v0 v3)
def Z74:=fun a0=>Ztc.run (Zab0 a0)
theorem Z9d(a0){r}(h:Z74 a0=some r):Fn PR 244 [.t (.int .u64 a0)] (wS r):=Ztc.fn h
def Zalf(a0:Int):LT Empty (By):=
.br (decide (a0 < 0)) (.call (Z9d (IntKind.wrap .u64 (0 - (IntKind.wrap .u64 a0)))) fun x4=>.ok (([45]:By).length+x4.length<=9223372036854775807)<|.rt (([45]:By)++x4))<|.call (Z9d (IntKind.wrap .u64 a0)) fun x10=>.rt x10
def Zalg:LF Empty (By) := .z0 191 [.t 2] wS
def Zawd:=fun a0=>Zalg.run (Zalf a0)
theorem Znz(a0){r}(h:Zawd a0=some r):Fn PR 191 [wI a0] (wS r):=Zalg.fn h
def Z23(a0:By)(a1:Za):LT Empty (By):=
.lb 1003<|.br (a1.Kind==0) (.rt ([]:By))<|.call (Zawc) fun x2=>.idx cS x2 a1.Kind fun x4=>.ok (a0.length+x4.length<=9223372036854775807)<|.call (Znz a1.N) fun x10=>.ok ((a0++x4).length+x10.length<=9223372036854775807)<|.rt ((a0++x4)++x10)
def Z24:LF Empty (By) := .z0 242 [.t 4] wS
def Z9e:=fun a0 a1=>Z24.run (Z23 a0 a1)
theorem Zrz(a0)(a1){r}(h:Z9e a0 a1=some r):Fn PR 242 [wS a0,wA (Zb4 a1)] (wS r):=Z24.fn h
inductive Ztd where
 | L0 (v0:Bys) (v1:By) (v5:By) (v6:Int)
def Zafy(v0:Bys)(v1:By)(v5:By)(v6:Int):LT Ztd (By):=
.len cS v0<|.br (decide (v6 < (v0.length:Int))) (.br (decide (v6 > 0)) (.ok (v5.length+v1.length<=9223372036854775807)<|.idx cS v0 v6 fun x7=>.ok ((v5++v1).length+x7.length<=9223372036854775807)<|.g0 (.L0 v0 v1 ((v5++v1)++x7) (IntKind.wrap .i64 (v6+1))))<|.idx cS v0 v6 fun x14=>.ok (v5.length+x14.length<=9223372036854775807)<|.g0 (.L0 v0 v1 (v5++x14) (IntKind.wrap .i64 (v6+1))))<|.rt v5
def Zalh(a0:Bys)(a1:By):LT Ztd (By):=
.g0 (.L0 a0 a1 ([]:By) 0)
def Z75:LF Ztd (By) := .m0 243 [.t 4] wS fun | .L0 v0 v1 v5 v6=>([1,1,0,1,4],⟨25,[(0,wL cS v0),(1,wS v1),(5,wS v5),(6,wI v6)],[]⟩,Zafy v0 v1 v5 v6)
def Zawe:=fun a0 a1=>Z75.run (Zalh a0 a1)
theorem Zaz9(a0)(a1){r}(h:Zawe a0 a1=some r):Fn PR 243 [wL cS a0,wS a1] (wS r):=Z75.fn h
def Z6a(b0:Bys)(a1:By):LT Empty (Bys):=
.br (a1==([]:By)) (.ret b0 [.relab 0 5000])<|.dr [.lit]<|.apR cS 16 b0 [a1] fun x2=>.ret x2 [.relab 0 5000]
def Z6b:LF Empty (Bys) := .z 239 [.t 4] true (fun r=>[(5000,wR cS 1 r)]) (fun r=>(wO cS 5000 r))
def Zab1:=fun b0 a1=>Z6b.run (Z6a b0 a1)
theorem Zfx(b0)(a1){r}(h:Zab1 b0 a1=some r):FnG PR 239 [(0,wR cS 1 b0)] [wO cS 0 b0,wS a1] [(5000,wR cS 1 r)] (wO cS 5000 r):=Z6b.fn h
inductive Zhf where
 | L0 (E0:Ze) (v6:Bys) (v7:Bys) (v8:Int)
 | L1 (E0:Ze) (v6:Bys) (v7:Bys) (v9:Int)
 | L2 (E0:Ze) (v6:Bys) (v7:Bys) (v10:Int)
 | L3 (E0:Ze) (v6:Bys) (v7:Bys) (v11:Int)
 | L4 (E0:Ze) (v6:Bys) (v7:Bys)
 | L5 (E0:Ze) (v6:Bys) (v7:Bys) (v12:Int)
def Zqv(E0:Ze)(v6:Bys)(v7:Bys):LT Zhf (By):=
.g0 (.L5 E0 v6 v7 0)
def Zafz(E0:Ze)(v6:Bys)(v7:Bys)(v8:Int):LT Zhf (By):=
.br (decide (v8 < 6)) (.call (Ztb E0.Types v8) fun x2=>.br x2 (.call (Z22 v8) fun x5=>.dr [.lit]<|.apR cS 16 v7 [x5] fun x7=>.g0 (.L0 E0 v6 x7 (IntKind.wrap .i64 (v8+1))))<|.g0 (.L0 E0 v6 v7 (IntKind.wrap .i64 (v8+1))))<|.g0 (.L1 E0 v6 v7 0)
def Zaf0(E0:Ze)(v6:Bys)(v7:Bys)(v9:Int):LT Zhf (By):=
.br (decide (v9 < 6)) (.call (Ztb E0.NotTypes v9) fun x2=>.br x2 (.call (Z22 v9) fun x5=>.ok (([110,111,110,45]:By).length+x5.length<=9223372036854775807)<|.dr [.lit]<|.apR cS 16 v7 [([110,111,110,45]:By)++x5] fun x10=>.g0 (.L1 E0 v6 x10 (IntKind.wrap .i64 (v9+1))))<|.g0 (.L1 E0 v6 v7 (IntKind.wrap .i64 (v9+1))))<|.g0 (.L2 E0 v6 v7 0)
def Zaf1(E0:Ze)(v6:Bys)(v7:Bys)(v10:Int):LT Zhf (By):=
.br (decide (v10 < 5)) (.call (Ztb E0.Colors v10) fun x2=>.br x2 (.call (Zv3 v10) fun x5=>.dr [.lit]<|.apR cS 16 v7 [x5] fun x7=>.g0 (.L2 E0 v6 x7 (IntKind.wrap .i64 (v10+1))))<|.g0 (.L2 E0 v6 v7 (IntKind.wrap .i64 (v10+1))))<|.g0 (.L3 E0 v6 v7 0)
def Zaf2(E0:Ze)(v6:Bys)(v7:Bys)(v11:Int):LT Zhf (By):=
.br (decide (v11 < 5)) (.call (Ztb E0.NotColors v11) fun x2=>.br x2 (.call (Zv3 v11) fun x5=>.ok (([110,111,110,45]:By).length+x5.length<=9223372036854775807)<|.dr [.lit]<|.apR cS 16 v7 [([110,111,110,45]:By)++x5] fun x10=>.g0 (.L3 E0 v6 x10 (IntKind.wrap .i64 (v11+1))))<|.g0 (.L3 E0 v6 v7 (IntKind.wrap .i64 (v11+1))))<|.br (!(E0.Sub==([]:By))) (.ok (([115,117,98,58]:By).length+E0.Sub.length<=9223372036854775807)<|.dr [.lit]<|.apR cS 16 v7 [([115,117,98,58]:By)++E0.Sub] fun x21=>.j0 (.L4 E0 v6 x21) (Zqv E0 v6 x21))<|.j0 (.L4 E0 v6 v7) (Zqv E0 v6 v7)
def Zaf3(E0:Ze)(v6:Bys)(v7:Bys)(v12:Int):LT Zhf (By):=
.br (decide (v12 < 17)) (.call (Ztb E0.Keys v12) fun x2=>.br x2 (.call (Z4y v12) fun x5=>.ok (([119,105,116,104,58]:By).length+x5.length<=9223372036854775807)<|.dr [.lit]<|.apR cS 16 v7 [([119,105,116,104,58]:By)++x5] fun x10=>.g0 (.L5 E0 v6 x10 (IntKind.wrap .i64 (v12+1))))<|.g0 (.L5 E0 v6 v7 (IntKind.wrap .i64 (v12+1))))<|.idx cS v6 E0.Tap fun x17=>.callU (Zfx v7 x17) [20007] 1250000 fun x19=>.call (Zrz ([112,111,119,101,114]:By) E0.Power) fun x21=>.callU (Zfx x19 x21) [1255000] 1300000 fun x23=>.call (Zrz ([116,111,117,103,104]:By) E0.Tough) fun x25=>.callU (Zfx x23 x25) [1305000] 1350000 fun x27=>.call (Zrz ([118,97,108,117,101]:By) E0.Value) fun x29=>.callU (Zfx x27 x29) [1355000] 1400000 fun x31=>.lenO cS x31<|.br ((x31.length:Int)==0) (.rt ([97,110,121]:By))<|.rl cS x31<|.call (Zaz9 x31 ([32]:By)) fun x34=>.rt x34
def Zali(a0:Ze):LT Zhf (By):=
.lb 1001<|.call (Zho a0) fun x1=>.br (!x1) (.rt ([]:By))<|.call (Zain) fun x4=>.call (Zalc) fun x6=>.call (Zaip) fun x8=>.call (Zald) fun x10=>.idx cS x4 a0.Zone fun x12=>.dr [.ahead 26,.own 20 70260 1,.stop]<|.callU (Zfx ([]:Bys) x12) [70260] 270000 fun x14=>.idx cS x6 a0.Who fun x16=>.callU (Zfx x14 x16) [275000] 340000 fun x18=>.idx cS x8 a0.Self fun x20=>.callU (Zfx x18 x20) [345000] 410000 fun x22=>.go (.L0 a0 x10 x22 0) [.relab 1001 3000,.relab 415000 20007]
def Zmz:LF Zhf (By) := .m0 190 [.t 2] wS fun | .L0 E0 v6 v7 v8=>([1,1,1,1,1,1,1,1,1,1,0,1,4],⟨145,[(1,.bptr 3000 0),(6,wL cS v6),(7,wO cS 20007 v7),(8,wI v8)],[(3000,.box (bx (Zo E0))),(20007,wR cS 1 v7)]⟩,Zafz E0 v6 v7 v8) | .L1 E0 v6 v7 v9=>([1,1,1,1,1,1,1,1,1,1,1,0,1,4],⟨145,[(1,.bptr 3000 0),(6,wL cS v6),(7,wO cS 20007 v7),(9,wI v9)],[(3000,.box (bx (Zo E0))),(20007,wR cS 1 v7)]⟩,Zaf0 E0 v6 v7 v9) | .L2 E0 v6 v7 v10=>([1,1,1,1,1,1,1,1,1,1,1,1,0,1,4],⟨145,[(1,.bptr 3000 0),(6,wL cS v6),(7,wO cS 20007 v7),(10,wI v10)],[(3000,.box (bx (Zo E0))),(20007,wR cS 1 v7)]⟩,Zaf1 E0 v6 v7 v10) | .L3 E0 v6 v7 v11=>([1,1,1,1,1,1,1,1,1,1,1,1,1,0,1,4],⟨145,[(1,.bptr 3000 0),(6,wL cS v6),(7,wO cS 20007 v7),(11,wI v11)],[(3000,.box (bx (Zo E0))),(20007,wR cS 1 v7)]⟩,Zaf2 E0 v6 v7 v11) | .L4 E0 v6 v7=>([1,1,1,1,1,1,1,1,1,1,1,1,1,1,1],⟨145,[(1,.bptr 3000 0),(6,wL cS v6),(7,wO cS 20007 v7)],[(3000,.box (bx (Zo E0))),(20007,wR cS 1 v7)]⟩,Zqv E0 v6 v7) | .L5 E0 v6 v7 v12=>([1,1,1,1,1,1,1,1,1,1,1,1,1,1,1,0,1,4],⟨145,[(1,.bptr 3000 0),(6,wL cS v6),(7,wO cS 20007 v7),(12,wI v12)],[(3000,.box (bx (Zo E0))),(20007,wR cS 1 v7)]⟩,Zaf3 E0 v6 v7 v12)
def Zawf:=fun a0=>Zmz.run (Zali a0)
theorem Za0a(a0){r}(h:Zawf a0=some r):Fn PR 190 [wA (Zo a0)] (wS r):=Zmz.fn h
def Zalj(a0:Zd):LT Empty (By):=
.lb 1001<|.call (Zarf a0) fun x1=>.br (!x1) (.rt ([]:By))<|.br (a0.Kind==1) (.rt ([99,111,110,116,114,111,108]:By))<|.br (a0.Kind==2) (.call (Zry a0.N) fun x6=>.ok (([116,121,112,101,115,61]:By).length+x6.length<=9223372036854775807)<|.rt (([116,121,112,101,115,61]:By)++x6))<|.br (a0.Kind==3) (.call (Zry a0.N) fun x12=>.ok (([116,121,112,101,115,43,61]:By).length+x12.length<=9223372036854775807)<|.rt (([116,121,112,101,115,43,61]:By)++x12))<|.br (a0.Kind==4) (.ok (([115,117,98,61]:By).length+a0.Sub.length<=9223372036854775807)<|.rt (([115,117,98,61]:By)++a0.Sub))<|.br (a0.Kind==5) (.ok (([115,117,98,43,61]:By).length+a0.Sub.length<=9223372036854775807)<|.rt (([115,117,98,43,61]:By)++a0.Sub))<|.br (a0.Kind==6) (.call (Zafr a0.N) fun x26=>.ok (([99,111,108,111,114,115,61]:By).length+x26.length<=9223372036854775807)<|.rt (([99,111,108,111,114,115,61]:By)++x26))<|.br (a0.Kind==7) (.call (Zafr a0.N) fun x32=>.ok (([99,111,108,111,114,115,43,61]:By).length+x32.length<=9223372036854775807)<|.rt (([99,111,108,111,114,115,43,61]:By)++x32))<|.br (a0.Kind==8) (.call (Zafv a0.N) fun x38=>.ok (([107,101,121,115,43,61]:By).length+x38.length<=9223372036854775807)<|.rt (([107,101,121,115,43,61]:By)++x38))<|.br (a0.Kind==9) (.call (Zafv a0.N) fun x44=>.ok (([107,101,121,115,45,61]:By).length+x44.length<=9223372036854775807)<|.rt (([107,101,121,115,45,61]:By)++x44))<|.br (a0.Kind==10) (.rt ([98,108,97,110,107]:By))<|.br (a0.Kind==11) (.call (Za0a a0.Filter) fun x51=>.ok (([112,116,61,99,111,117,110,116,40]:By).length+x51.length<=9223372036854775807)<|.ok ((([112,116,61,99,111,117,110,116,40]:By)++x51).length+([41]:By).length<=9223372036854775807)<|.rt ((([112,116,61,99,111,117,110,116,40]:By)++x51)++([41]:By)))<|.br (a0.Kind==12) (.call (Znz a0.N) fun x58=>.ok (([112,116,61]:By).length+x58.length<=9223372036854775807)<|.ok ((([112,116,61]:By)++x58).length+([47]:By).length<=9223372036854775807)<|.call (Znz a0.M) fun x65=>.ok (((([112,116,61]:By)++x58)++([47]:By)).length+x65.length<=9223372036854775807)<|.rt (((([112,116,61]:By)++x58)++([47]:By))++x65))<|.br (a0.Kind==13) (.call (Znz a0.N) fun x71=>.ok (([112,116,43,61]:By).length+x71.length<=9223372036854775807)<|.ok ((([112,116,43,61]:By)++x71).length+([47]:By).length<=9223372036854775807)<|.call (Znz a0.M) fun x78=>.ok (((([112,116,43,61]:By)++x71)++([47]:By)).length+x78.length<=9223372036854775807)<|.rt (((([112,116,43,61]:By)++x71)++([47]:By))++x78))<|.rt ([112,116,45,115,119,105,116,99,104]:By)
def Zalk:LF Empty (By) := .z0 138 [.t 2] wS
def Zawg:=fun a0=>Zalk.run (Zalj a0)
theorem Zaf4(a0){r}(h:Zawg a0=some r):Fn PR 138 [wA (Zl a0)] (wS r):=Zalk.fn h
inductive Zll where
 | L0 (v0:List Zd) (v3:By) (v4:Int)
def Z25(v0:List Zd)(v3:By)(v4:Int):LT Zll (By):=
.len Zl v0<|.br (decide (v4 < (v0.length:Int))) (.idx Zl v0 v4 fun x3=>.call (Zarf x3) fun x5=>.br (!x5) (.rt ([]:By))<|.br (decide (v4 > 0)) (.ok (v3.length+([44,32]:By).length<=9223372036854775807)<|.ag Zl x3 0<|.call (Zaf4 x3) fun x11=>.ok ((v3++([44,32]:By)).length+x11.length<=9223372036854775807)<|.g0 (.L0 v0 ((v3++([44,32]:By))++x11) (IntKind.wrap .i64 (v4+1))))<|.ag Zl x3 0<|.call (Zaf4 x3) fun x17=>.ok (v3.length+x17.length<=9223372036854775807)<|.g0 (.L0 v0 (v3++x17) (IntKind.wrap .i64 (v4+1))))<|.rt v3
def Z6c(a0:List Zd):LT Zll (By):=
.len Zl a0<|.cs ((a0.length:Int)==0) (.k4 0<|.kn [0]<|.rt ([]:By))<|.k2 0<|.len Zl a0<|.k2 0<|.br (decide ((a0.length:Int) > 6)) (.rt ([]:By))<|.g0 (.L0 a0 ([]:By) 0)
def Zu5:LF Zll (By) := .m0 87 [.t 2] wS fun | .L0 v0 v3 v4=>([1,1,1,0,1,4],⟨37,[(0,wL Zl v0),(3,wS v3),(4,wI v4)],[]⟩,Z25 v0 v3 v4)
def Zab2:=fun a0=>Zu5.run (Z6c a0)
theorem Zte(a0){r}(h:Zab2 a0=some r):Fn PR 87 [wL Zl a0] (wS r):=Zu5.fn h
def Zaf5(a0:Zhn):LT Empty Bool:=
.lb 1001<|.call (Z2p a0.Mana) fun x1=>.cs x1 (.k5 0<|.cs (a0.Mana.X==0) (.k4 1<|.cs (decide (a0.Life>=0)) (.k4 2<|.rt (decide (a0.Life<=99)))<|.k4 2<|.rt false)<|.k4 1<|.b4 false<|.rt false)<|.k5 0<|.b8 false<|.rt false
def Zaf6:LF Empty Bool := .z0 124 [.t 2] wB
def Zarh:=fun a0=>Zaf6.run (Zaf5 a0)
theorem Zawh(a0){r}(h:Zarh a0=some r):Fn PR 124 [wA (Zdk a0)] (wB r):=Zaf6.fn h
def Zall(a0:Int):LT Empty (By):=
.br (a0==1) (.rt ([101,110,116,101,114,115]:By))<|.br (a0==2) (.rt ([108,101,97,118,101,115]:By))<|.br (a0==3) (.rt ([100,105,101,115]:By))<|.br (a0==4) (.rt ([97,116,116,97,99,107,115]:By))<|.br (a0==5) (.rt ([98,108,111,99,107,115]:By))<|.br (a0==6) (.rt ([100,101,97,108,115]:By))<|.br (a0==7) (.rt ([100,101,97,108,116]:By))<|.br (a0==8) (.rt ([100,114,97,119,115]:By))<|.br (a0==9) (.rt ([99,97,115,116,115]:By))<|.br (a0==10) (.rt ([117,112,107,101,101,112]:By))<|.br (a0==11) (.rt ([101,110,100]:By))<|.br (a0==12) (.rt ([103,97,105,110,115]:By))<|.br (a0==13) (.rt ([108,111,115,101,115]:By))<|.br (a0==14) (.rt ([112,108,97,99,101,100]:By))<|.rt ([]:By)
def Zalm:LF Empty (By) := .z0 173 [.t 2] wS
def Zawi:=fun a0=>Zalm.run (Zall a0)
theorem Zaf7(a0){r}(h:Zawi a0=some r):Fn PR 173 [wI a0] (wS r):=Zalm.fn h
def Zab3(a0:Int):LT Empty Bool:=
.cs (a0==8) (.k3 0<|.b8 true<|.b4 true<|.rt true)<|.k3 0<|.cs (a0==9) (.k3 1<|.b8 true<|.kb true<|.rt true)<|.k3 1<|.cs (a0==10) (.k3 2<|.b5 true<|.kb true<|.rt true)<|.k3 2<|.cs (a0==11) (.k3 3<|.b3 true<|.rt true)<|.k3 3<|.cs (a0==12) (.k3 4<|.rt true)<|.k3 4<|.rt (a0==13)
def Zab4:LF Empty Bool := .z0 174 [.t 2] wB
def Zaln:=fun a0=>Zab4.run (Zab3 a0)
theorem Z9f(a0){r}(h:Zaln a0=some r):Fn PR 174 [wI a0] (wB r):=Zab4.fn h
def Z26(a0:Int):LT Empty Bool:=
.call (Zaf7 a0) fun x1=>.cs (!(x1==([]:By))) (.k2 0<|.call (Z9f a0) fun x4=>.k2 0<|.cs (!x4) (.k2 1<|.kg 0<|.kg 1<|.kg 0<|.rt true)<|.k2 1<|.kg 0<|.kg 1<|.kg 0<|.rt (a0==9))<|.k5 0<|.kg 0<|.rt false
def Z27:LF Empty Bool := .z0 175 [.t 2] wB
def Z9g:=fun a0=>Z27.run (Z26 a0)
theorem Zair(a0){r}(h:Z9g a0=some r):Fn PR 175 [wI a0] (wB r):=Z27.fn h
inductive Z0o where
 | L0 (E0:Zcs)
def Zwt(E0:Zcs):LT Z0o Bool:=
.call (Zair E0.When) fun x1=>.br (!x1) (.rt (Zy (Zo E0.Filter) (Zo (⟨0,0,0,0,0,0,0,([]:By),0,0,(⟨0,0⟩:Za),(⟨0,0⟩:Za),(⟨0,0⟩:Za)⟩:Ze))))<|.br (E0.When==9) (.call (Zho E0.Filter) fun x5=>.cs x5 (.k5 2<|.kg 2<|.rt (E0.Filter.Zone==5))<|.k5 2<|.kg 2<|.rt false)<|.call (Zho E0.Filter) fun x8=>.cs x8 (.k5 2<|.kg 2<|.rt (E0.Filter.Zone==0))<|.k5 2<|.kg 2<|.rt false
def Zawj(a0:Zcs):LT Z0o Bool:=
.lb 1001<|.call (Zaf7 a0.When) fun x1=>.cs (x1==([]:By)) (.k4 0<|.b8 true<|.b3 true<|.kn [0]<|.rt false)<|.k4 0<|.cs (decide (a0.Who < 0)) (.k4 1<|.b5 true<|.b2 true<|.kn [0]<|.rt false)<|.k4 1<|.cs (decide (a0.Who > 2)) (.k5 2<|.k2 2<|.kn [0]<|.rt false)<|.k3 2<|.call (Z9f a0.When) fun x6=>.k2 2<|.cs (!x6) (.k3 3<|.kg 2<|.kg 3<|.kg 2<|.br (a0.Who != 0) (.rt false)<|.jn 0 (.L0 a0) [.relab 1001 3000] (Zwt a0))<|.k3 3<|.kg 2<|.kg 3<|.kg 2<|.kn [0]<|.jn 0 (.L0 a0) [.relab 1001 3000] (Zwt a0)
def Zawk:LF Z0o Bool := .m0 125 [.t 2] wB fun | .L0 E0=>([1,1],⟨50,[(1,.bptr 3000 0)],[(3000,.box (bx (Zb8 E0)))]⟩,Zwt E0)
def Za7b:=fun a0=>Zawk.run (Zawj a0)
theorem Za7c(a0){r}(h:Za7b a0=some r):Fn PR 125 [wA (Zb8 a0)] (wB r):=Zawk.fn h
def Zaf8(a0:Ze):LT Empty Bool:=
.lb 1001<|.call (Zho a0) fun x1=>.cs x1 (.k4 0<|.rt (a0.Zone==0))<|.k4 0<|.rt false
def Zaf9:LF Empty Bool := .z0 178 [.t 2] wB
def Zari:=fun a0=>Zaf9.run (Zaf8 a0)
theorem Z0p(a0){r}(h:Zari a0=some r):Fn PR 178 [wA (Zo a0)] (wB r):=Zaf9.fn h
def Zaga(a0:Za6):LT Empty Bool:=
.lb 1001<|.cs (a0.Who != 0) (.k5 0<|.kn [0]<|.rt false)<|.k3 0<|.call (Z0p a0.Filter) fun x2=>.k2 0<|.br (!x2) (.rt false)<|.br (a0.Do==5) (.cs (a0.N==0) (.k4 3<|.cs (a0.Counter==0) (.k4 4<|.cs (a0.Zone==1) (.k3 5<|.kg 4<|.kg 5<|.kg 4<|.b3 true<|.kg 4<|.kb true<|.kg 4<|.rt true)<|.k3 5<|.kg 4<|.kg 5<|.kg 4<|.cs (a0.Zone==2) (.k3 6<|.kg 4<|.kg 6<|.kg 4<|.rt true)<|.k3 6<|.kg 4<|.kg 6<|.kg 4<|.rt (a0.Zone==4))<|.k8 4<|.rt false)<|.k4 3<|.b8 false<|.rt false)<|.br (a0.Do==6) (.cs (a0.N==0) (.k4 4<|.cs (a0.Counter==0) (.k4 5<|.rt (a0.Zone==0))<|.k4 5<|.rt false)<|.k4 4<|.b4 false<|.rt false)<|.br (a0.Do==7) (.cs (a0.Zone==0) (.k4 5<|.cs (decide (a0.N>=1)) (.k4 6<|.cs (decide (a0.N<=99)) (.k4 7<|.cs (decide (a0.Counter>=0)) (.k4 8<|.rt (decide (a0.Counter < 3)))<|.k4 8<|.rt false)<|.k4 7<|.b4 false<|.rt false)<|.k4 6<|.b8 false<|.rt false)<|.k4 5<|.b8 false<|.b4 false<|.rt false)<|.rt false
def Zagb:LF Empty Bool := .z0 176 [.t 2] wB
def Zarj:=fun a0=>Zagb.run (Zaga a0)
theorem Zawl(a0){r}(h:Zarj a0=some r):Fn PR 176 [wA (Zbh a0)] (wB r):=Zagb.fn h
def Zagc(a0:Za6):LT Empty Bool:=
.lb 1001<|.cs (a0.Zone != 0) (.k4 0<|.kn [0]<|.rt false)<|.k4 0<|.br (a0.Counter != 0) (.rt false)<|.cs (a0.Do==2) (.k4 2<|.kn [0]<|.cs (decide (a0.N>=1)) (.k4 3<|.rt (decide (a0.N<=99)))<|.k4 3<|.rt false)<|.k4 2<|.br (a0.Do==4) (.cs (decide (a0.N>=1)) (.k4 4<|.rt (decide (a0.N<=99)))<|.k4 4<|.rt false)<|.rt (a0.N==0)
def Zagd:LF Empty Bool := .z0 177 [.t 2] wB
def Zark:=fun a0=>Zagd.run (Zagc a0)
theorem Zawm(a0){r}(h:Zark a0=some r):Fn PR 177 [wA (Zbh a0)] (wB r):=Zagd.fn h
inductive Zr0 where
 | L0 (E0:Za6) (v3:Bool) (v4:Bool)
 | L1 (E0:Za6) (v3:Bool)
 | L2 (E0:Za6) (v3:Bool) (v4:Bool) (v109:Bool)
def Zsh(E0:Za6)(v3:Bool)(v4:Bool)(v109:Bool):LT Zr0 Bool:=
.br v109 (.cs v4 (.k4 1<|.cs (decide (E0.Who>=0)) (.k4 2<|.cs (decide (E0.Who<=2)) (.k2 3<|.rt v3)<|.k2 3<|.rt false)<|.k4 2<|.b2 false<|.rt false)<|.k4 1<|.b5 false<|.kb false<|.rt false)<|.rt false
def Zox(E0:Za6)(v3:Bool):LT Zr0 Bool:=
.cs (E0.Who==0) (.k3 0<|.call (Z0p E0.Filter) fun x2=>.kg 0<|.cs x2 (.k8 1<|.rt true)<|.k4 1<|.cs (E0.Who==1) (.k3 2<|.kg 1<|.kg 2<|.kg 1<|.kb true<|.kg 1<|.kb true<|.kg 1<|.rt v3)<|.k3 2<|.kg 1<|.kg 2<|.kg 1<|.cs (E0.Who==2) (.kg 3<|.kg 1<|.kg 3<|.kg 1<|.rt v3)<|.kg 3<|.kg 1<|.kg 3<|.kg 1<|.rt false)<|.k4 0<|.b4 false<|.cs (E0.Who==1) (.k3 1<|.kb false<|.kg 1<|.kb false<|.kb true<|.kb false<|.kb true<|.kb false<|.rt v3)<|.k3 1<|.kb false<|.kg 1<|.kb false<|.cs (E0.Who==2) (.kg 2<|.kb false<|.kg 2<|.kb false<|.rt v3)<|.kg 2<|.kb false<|.kg 2<|.kb false<|.rt false
def Zsi(E0:Za6)(v3:Bool)(v4:Bool):LT Zr0 Bool:=
.br (E0.On==1) (.cs (E0.Do != 1) (.k4 1<|.cs (E0.Do != 2) (.k4 2<|.cs (E0.Do != 3) (.k4 3<|.br (E0.Do != 4) (.rt false)<|.j0 (.L1 E0 v3) (Zox E0 v3))<|.k4 3<|.kn [0]<|.j0 (.L1 E0 v3) (Zox E0 v3))<|.k4 2<|.b4 false<|.kn [0]<|.j0 (.L1 E0 v3) (Zox E0 v3))<|.k4 1<|.b8 false<|.kn [0]<|.j0 (.L1 E0 v3) (Zox E0 v3))<|.br (E0.On==8) (.cs v4 (.k4 2<|.cs (E0.Who==0) (.k3 3<|.call (Z0p E0.Filter) fun x9=>.kg 3<|.rt x9)<|.k4 3<|.rt false)<|.k4 2<|.b4 false<|.rt false)<|.br (E0.On==3) (.cs (E0.Do==4) (.k4 3<|.b4 true<|.cs (decide (E0.Who>=0)) (.k4 4<|.cs (decide (E0.Who<=2)) (.k2 5<|.rt v3)<|.k2 5<|.rt false)<|.k4 4<|.b2 false<|.rt false)<|.k4 3<|.cs (E0.Do==8) (.k4 4<|.cs (decide (E0.Who>=0)) (.k4 5<|.cs (decide (E0.Who<=2)) (.k2 6<|.rt v3)<|.k2 6<|.rt false)<|.k4 5<|.b2 false<|.rt false)<|.k4 4<|.b5 false<|.kb false<|.rt false)<|.br (E0.On==4) (.j0 (.L2 E0 v3 v4 (E0.On==4)) (Zsh E0 v3 v4 (E0.On==4)))<|.br (E0.On==5) (.j0 (.L2 E0 v3 v4 (E0.On==5)) (Zsh E0 v3 v4 (E0.On==5)))<|.j0 (.L2 E0 v3 v4 (E0.On==10)) (Zsh E0 v3 v4 (E0.On==10))
def Zawn(a0:Za6):LT Zr0 Bool:=
.lb 1001<|.br (a0.On==2) (.call (Zawl a0) fun x2=>.rt x2)<|.call (Zawm a0) fun x4=>.br (!x4) (.rt false)<|.cs (a0.Do==3) (.k4 2<|.b4 true<|.jn 0 (.L0 a0 (Zy (Zo a0.Filter) (Zo (⟨0,0,0,0,0,0,0,([]:By),0,0,(⟨0,0⟩:Za),(⟨0,0⟩:Za),(⟨0,0⟩:Za)⟩:Ze))) true) [.relab 1001 3000] (Zsi a0 (Zy (Zo a0.Filter) (Zo (⟨0,0,0,0,0,0,0,([]:By),0,0,(⟨0,0⟩:Za),(⟨0,0⟩:Za),(⟨0,0⟩:Za)⟩:Ze))) true))<|.k4 2<|.cs (a0.Do==4) (.k4 3<|.jn 0 (.L0 a0 (Zy (Zo a0.Filter) (Zo (⟨0,0,0,0,0,0,0,([]:By),0,0,(⟨0,0⟩:Za),(⟨0,0⟩:Za),(⟨0,0⟩:Za)⟩:Ze))) true) [.relab 1001 3000] (Zsi a0 (Zy (Zo a0.Filter) (Zo (⟨0,0,0,0,0,0,0,([]:By),0,0,(⟨0,0⟩:Za),(⟨0,0⟩:Za),(⟨0,0⟩:Za)⟩:Ze))) true))<|.k4 3<|.jn 0 (.L0 a0 (Zy (Zo a0.Filter) (Zo (⟨0,0,0,0,0,0,0,([]:By),0,0,(⟨0,0⟩:Za),(⟨0,0⟩:Za),(⟨0,0⟩:Za)⟩:Ze))) (a0.Do==8)) [.relab 1001 3000] (Zsi a0 (Zy (Zo a0.Filter) (Zo (⟨0,0,0,0,0,0,0,([]:By),0,0,(⟨0,0⟩:Za),(⟨0,0⟩:Za),(⟨0,0⟩:Za)⟩:Ze))) (a0.Do==8))
def Zawo:LF Zr0 Bool := .m0 126 [.t 2] wB fun | .L0 E0 v3 v4=>([1,1,1,1,1],⟨127,[(1,.bptr 3000 0),(3,wB v3),(4,wB v4)],[(3000,.box (bx (Zbh E0)))]⟩,Zsi E0 v3 v4) | .L1 E0 v3=>([1,1,1,1,1,0,1,4,1,2,1],⟨127,[(1,.bptr 3000 0),(3,wB v3)],[(3000,.box (bx (Zbh E0)))]⟩,Zox E0 v3) | .L2 E0 v3 v4 v109=>([1,1,1,1,1,0,1,4,1,3,1,3,1,3,1],⟨127,[(1,.bptr 3000 0),(3,wB v3),(4,wB v4),(109,wB v109)],[(3000,.box (bx (Zbh E0)))]⟩,Zsh E0 v3 v4 v109)
def Za7d:=fun a0=>Zawo.run (Zawn a0)
theorem Za7e(a0){r}(h:Za7d a0=some r):Fn PR 126 [wA (Zbh a0)] (wB r):=Zawo.fn h
def Zalo(a0:Za9):LT Empty Bool:=
.lb 1001<|.br (!a0.Object) (.cs a0.Player (.k5 1<|.rt (Zy (Zo a0.Filter) (Zo (⟨0,0,0,0,0,0,0,([]:By),0,0,(⟨0,0⟩:Za),(⟨0,0⟩:Za),(⟨0,0⟩:Za)⟩:Ze))))<|.k5 1<|.rt false)<|.call (Zho a0.Filter) fun x3=>.cs x3 (.k3 1<|.cs (a0.Filter.Zone==0) (.k2 2<|.kg 1<|.kg 2<|.kg 1<|.b2 true<|.kg 1<|.kb true<|.kg 1<|.rt true)<|.k2 2<|.kg 1<|.kg 2<|.kg 1<|.cs (a0.Filter.Zone==3) (.k2 3<|.kg 1<|.kg 3<|.kg 1<|.rt true)<|.k2 3<|.kg 1<|.kg 3<|.kg 1<|.rt (a0.Filter.Zone==5))<|.k5 1<|.k2 1<|.rt false
def Zalp:LF Empty Bool := .z0 179 [.t 2] wB
def Zawp:=fun a0=>Zalp.run (Zalo a0)
theorem Za0b(a0){r}(h:Zawp a0=some r):Fn PR 179 [wA (Zad a0)] (wB r):=Zalp.fn h
inductive Zqw where
 | L0 (v0:List Za9) (v3:Int)
def Zab5(v0:List Za9)(v3:Int):LT Zqw Bool:=
.len Zad v0<|.br (decide (v3 < (v0.length:Int))) (.idx Zad v0 v3 fun x3=>.call (Za0b x3) fun x5=>.br (!x5) (.rt false)<|.g0 (.L0 v0 (IntKind.wrap .i64 (v3+1))))<|.len Zad v0<|.rt (decide ((v0.length:Int)<=4))
def Zage(a0:List Za9):LT Zqw Bool:=
.g0 (.L0 a0 0)
def Z4z:LF Zqw Bool := .m0 127 [.t 2] wB fun | .L0 v0 v3=>([1,0,1,4],⟨19,[(0,wL Zad v0),(3,wI v3)],[]⟩,Zab5 v0 v3)
def Zarl:=fun a0=>Z4z.run (Zage a0)
theorem Zawq(a0){r}(h:Zarl a0=some r):Fn PR 127 [wL Zad a0] (wB r):=Z4z.fn h
def Zalq(a0:Int):LT Empty (By):=
.cs (decide (a0 < 1)) (.k3 0<|.kn [0]<|.rt ([]:By))<|.k3 0<|.br (decide (a0 > 26)) (.rt ([]:By))<|.dr [.lit]<|.idx cS [([100,97,109,97,103,101]:By),([100,101,115,116,114,111,121]:By),([109,111,118,101]:By),([100,114,97,119]:By),([100,105,115,99,97,114,100]:By),([103,97,105,110]:By),([108,111,115,101]:By),([116,97,112]:By),([117,110,116,97,112]:By),([112,117,116]:By),([116,97,107,101]:By),([99,114,101,97,116,101]:By),([109,111,100]:By),([109,97,110,97]:By),([99,111,117,110,116,101,114]:By),([99,111,112,121]:By),([98,101,99,111,109,101]:By),([115,97,99,114,105,102,105,99,101]:By),([109,105,108,108]:By),([115,99,114,121]:By),([115,101,97,114,99,104]:By),([115,104,105,101,108,100]:By),([116,117,114,110]:By),([119,105,110]:By),([100,101,102,101,97,116]:By),([118,101,110,111,109]:By)] (IntKind.wrap .i64 (a0 - 1)) fun x6=>.rt x6
def Zalr:LF Empty (By) := .z0 221 [.t 2] wS
def Zawr:=fun a0=>Zalr.run (Zalq a0)
theorem Za0c(a0){r}(h:Zawr a0=some r):Fn PR 221 [wI a0] (wS r):=Zalr.fn h
inductive Zpv where
 | L0 (v3:Int) (v4:Bool)
 | L1 (v3:Int) (v14:Bool)
def Zqx(v3:Int)(v14:Bool):LT Zpv (By):=
.br v14 (.rt ([114,107,97]:By))<|.br (v3==12) (.rt ([114,99,97]:By))<|.br (v3==13) (.rt ([114,109]:By))<|.br (v3==14) (.rt ([112]:By))<|.br (v3==18) (.rt ([114,97,102]:By))<|.br (v3==20) (.rt ([97]:By))<|.br (v3==21) (.rt ([102]:By))<|.br (v3==23) (.kn [8]<|.rt ([]:By))<|.br (v3==24) (.rt ([]:By))<|.rt ([114,97]:By)
def Zgd(v3:Int)(v4:Bool):LT Zpv (By):=
.br v4 (.rt ([114]:By))<|.br (v3==3) (.rt ([114,122]:By))<|.br (v3==10) (.j0 (.L1 v3 (v3==10)) (Zqx v3 (v3==10)))<|.j0 (.L1 v3 (v3==11)) (Zqx v3 (v3==11))
def Zals(a0:Int):LT Zpv (By):=
.br (a0==2) (.j0 (.L0 a0 (a0==2)) (Zgd a0 (a0==2)))<|.br (a0==8) (.j0 (.L0 a0 (a0==8)) (Zgd a0 (a0==8)))<|.br (a0==9) (.j0 (.L0 a0 (a0==9)) (Zgd a0 (a0==9)))<|.br (a0==15) (.j0 (.L0 a0 (a0==15)) (Zgd a0 (a0==15)))<|.br (a0==16) (.j0 (.L0 a0 (a0==16)) (Zgd a0 (a0==16)))<|.br (a0==17) (.j0 (.L0 a0 (a0==17)) (Zgd a0 (a0==17)))<|.j0 (.L0 a0 (a0==25)) (Zgd a0 (a0==25))
def Zalt:LF Zpv (By) := .m0 257 [.t 2] wS fun | .L0 v3 v4=>([1,0,1,4,1],⟨32,[(3,wI v3),(4,wB v4)],[]⟩,Zgd v3 v4) | .L1 v3 v14=>([1,0,1,4,1,3,1,3,1],⟨32,[(3,wI v3),(14,wB v14)],[]⟩,Zqx v3 v14)
def Zaws:=fun a0=>Zalt.run (Zals a0)
theorem Za0d(a0){r}(h:Zaws a0=some r):Fn PR 257 [wI a0] (wS r):=Zalt.fn h
inductive Ztf where
 | L0 (v1:Int) (v5:By) (v6:Int)
def Zagf(v1:Int)(v5:By)(v6:Int):LT Ztf Bool:=
.lenS v5<|.br (decide (v6 < (v5.length:Int))) (.idxS v5 v6 fun x3=>.br ((UInt8.toNat x3:Int)==v1) (.rt true)<|.g0 (.L0 v1 v5 (IntKind.wrap .i64 (v6+1))))<|.rt false
def Zalu(a0:Int)(a1:Int):LT Ztf Bool:=
.call (Za0d a0) fun x1=>.g0 (.L0 a1 x1 0)
def Z76:LF Ztf Bool := .m0 222 [.t 4] wB fun | .L0 v1 v5 v6=>([1,1,0,1,4],⟨20,[(1,.t (.int .u8 v1)),(5,wS v5),(6,wI v6)],[]⟩,Zagf v1 v5 v6)
def Zawt:=fun a0 a1=>Z76.run (Zalu a0 a1)
theorem Zi2(a0)(a1){r}(h:Zawt a0 a1=some r):Fn PR 222 [wI a0,.t (.int .u8 a1)] (wB r):=Z76.fn h
def Z6d(a0:Int):LT Empty Bool:=
.cs (a0==3) (.k3 0<|.rt true)<|.k3 0<|.rt (a0==8)
def Z6e:LF Empty Bool := .z0 258 [.t 2] wB
def Zab6:=fun a0=>Z6e.run (Z6d a0)
theorem Zalv(a0){r}(h:Zab6 a0=some r):Fn PR 258 [wI a0] (wB r):=Z6e.fn h
inductive Zu6 where
 | L0 (v1:Int) (E0:Zgn)
 | L1 (E0:Zgn)
def Zwu(E0:Zgn):LT Zu6 Bool:=
.br (E0.Kind==4) (.call (Zho E0.Filter) fun x2=>.rt x2)<|.rt (Zy (Zo E0.Filter) (Zo (⟨0,0,0,0,0,0,0,([]:By),0,0,(⟨0,0⟩:Za),(⟨0,0⟩:Za),(⟨0,0⟩:Za)⟩:Ze)))
def Zwv(v1:Int)(E0:Zgn):LT Zu6 Bool:=
.cs (decide (E0.Kind < 1)) (.k4 0<|.kn [0]<|.rt false)<|.k4 0<|.br (decide (E0.Kind > 8)) (.rt false)<|.call (Zalv E0.Kind) fun x3=>.br x3 (.cs (decide (E0.N < 1)) (.k5 3<|.kn [0]<|.rt false)<|.k5 3<|.br (decide (E0.N > v1)) (.rt false)<|.j0 (.L1 E0) (Zwu E0))<|.br (E0.N != 0) (.rt false)<|.j0 (.L1 E0) (Zwu E0)
def Zawu(a0:Zgn)(a1:Int):LT Zu6 Bool:=
.lb 1002<|.br (decide (a1 > 4)) (.jn 0 (.L0 4 a0) [.relab 1002 3000] (Zwv 4 a0))<|.jn 0 (.L0 a1 a0) [.relab 1002 3000] (Zwv a1 a0)
def Zawv:LF Zu6 Bool := .m0 223 [.t 4] wB fun | .L0 v1 E0=>([1,1],⟨40,[(1,wI v1),(2,.bptr 3000 0)],[(3000,.box (bx (Zdf E0)))]⟩,Zwv v1 E0) | .L1 E0=>([1,1,1,1],⟨40,[(2,.bptr 3000 0)],[(3000,.box (bx (Zdf E0)))]⟩,Zwu E0)
def Za7f:=fun a0 a1=>Zawv.run (Zawu a0 a1)
theorem Za7g(a0)(a1){r}(h:Za7f a0 a1=some r):Fn PR 223 [wA (Zdf a0),wI a1] (wB r):=Zawv.fn h
def Zalw(a0:Int):LT Empty (By):=
.br (a0==0) (.rt ([112,108,117,115]:By))<|.br (a0==1) (.rt ([109,105,110,117,115]:By))<|.br (a0==2) (.rt ([99,104,97,114,103,101]:By))<|.rt ([]:By)
def Zalx:LF Empty (By) := .z0 224 [.t 2] wS
def Zaww:=fun a0=>Zalx.run (Zalw a0)
theorem Zagg(a0){r}(h:Zaww a0=some r):Fn PR 224 [wI a0] (wS r):=Zalx.fn h
def Zawx(a0:Zbk):LT Empty Bool:=
.lb 1001<|.lb 1003<|.br (a0.Kind==0) (.cs (decide (a0.N < 0)) (.k4 1<|.kn [0]<|.rt false)<|.k4 1<|.br (decide (a0.N > 1000000)) (.rt false)<|.cs (decide (a0.Kind>=0)) (.k4 3<|.cs (decide (a0.Kind<=7)) (.k5 4<|.kg 4<|.rt (Zy (Zaq (⟨a0.Kind,0,a0.Counter,a0.Filter⟩:Zbk)) (Zaq (⟨a0.Kind,0,0,(⟨0,0,0,0,0,0,0,([]:By),0,0,(⟨0,0⟩:Za),(⟨0,0⟩:Za),(⟨0,0⟩:Za)⟩:Ze)⟩:Zbk))))<|.k5 4<|.kg 4<|.rt false)<|.k4 3<|.b5 false<|.kb false<|.rt false)<|.br (a0.Kind==2) (.cs (decide (a0.N < 1)) (.k4 2<|.b5 true<|.kn [0]<|.rt false)<|.k4 2<|.cs (decide (a0.N > 99)) (.k5 3<|.kn [0]<|.rt false)<|.k3 3<|.call (Zho a0.Filter) fun x9=>.k2 3<|.br (!x9) (.rt false)<|.cs (decide (a0.Kind>=0)) (.k4 5<|.cs (decide (a0.Kind<=7)) (.k5 6<|.kg 6<|.rt (Zy (Zaq (⟨a0.Kind,0,a0.Counter,(⟨0,0,0,0,0,0,0,([]:By),0,0,(⟨0,0⟩:Za),(⟨0,0⟩:Za),(⟨0,0⟩:Za)⟩:Ze)⟩:Zbk)) (Zaq (⟨a0.Kind,0,0,(⟨0,0,0,0,0,0,0,([]:By),0,0,(⟨0,0⟩:Za),(⟨0,0⟩:Za),(⟨0,0⟩:Za)⟩:Ze)⟩:Zbk))))<|.k5 6<|.kg 6<|.rt false)<|.k4 5<|.b5 false<|.kb false<|.rt false)<|.br (a0.Kind==4) (.call (Zagg a0.Counter) fun x15=>.br (x15==([]:By)) (.rt false)<|.cs (decide (a0.Kind>=0)) (.k4 4<|.cs (decide (a0.Kind<=7)) (.k5 5<|.kg 5<|.rt (Zy (Zaq (⟨a0.Kind,a0.N,0,a0.Filter⟩:Zbk)) (Zaq (⟨a0.Kind,0,0,(⟨0,0,0,0,0,0,0,([]:By),0,0,(⟨0,0⟩:Za),(⟨0,0⟩:Za),(⟨0,0⟩:Za)⟩:Ze)⟩:Zbk))))<|.k5 5<|.kg 5<|.rt false)<|.k4 4<|.b5 false<|.kb false<|.rt false)<|.cs (decide (a0.Kind>=0)) (.k4 3<|.cs (decide (a0.Kind<=7)) (.k5 4<|.kg 4<|.rt (Zy (Zaq a0) (Zaq (⟨a0.Kind,0,0,(⟨0,0,0,0,0,0,0,([]:By),0,0,(⟨0,0⟩:Za),(⟨0,0⟩:Za),(⟨0,0⟩:Za)⟩:Ze)⟩:Zbk))))<|.k5 4<|.kg 4<|.rt false)<|.k4 3<|.b5 false<|.kb false<|.rt false
def Zawy:LF Empty Bool := .z0 225 [.t 2] wB
def Za7h:=fun a0=>Zawy.run (Zawx a0)
theorem Za7i(a0){r}(h:Za7h a0=some r):Fn PR 225 [wA (Zaq a0)] (wB r):=Zawy.fn h
def Zaly(a0:List Zd):LT Empty Bool:=
.call (Zte a0) fun x1=>.rt (!(x1==([]:By)))
def Zalz:LF Empty Bool := .z0 226 [.t 2] wB
def Zawz:=fun a0=>Zalz.run (Zaly a0)
theorem Za0e(a0){r}(h:Zawz a0=some r):Fn PR 226 [wL Zl a0] (wB r):=Zalz.fn h
inductive Ztg where
 | L0 (E0:A6 Int) (E1:Zt) (E2:Zt) (v4:Int)
def Zagh(E0:A6 Int)(E1:Zt)(E2:Zt)(v4:Int):LT Ztg Zt:=
.br (decide (v4 < 5)) (.idA (Zf.int .i64) (A6.list E0) (IntKind.wrap .i64 (v4+1)) (bx ((cA6 (cI .i64)) E0)) 0 6 fun x4=>.ldC (Zf.int .i64) 16 x4 0<|.idA (Zf.int .i64) (A5.list E2.Color) v4 (bx (Zah E2)) 2 7 fun x6=>.stA (A5.set? E2.Color v4 x4) (fun h=>Zbgf (Zf.int .i64) ((bx (Zah E2)).take 2) ((bx (Zah E2)).drop 7) h) fun x8=>.g0 (.L0 E0 E1 (⟨E2.Generic,E2.X,x8⟩:Zt) (IntKind.wrap .i64 (v4+1))))<|.rt E2
def Zal0(a0:A6 Int):LT Ztg Zt:=
.lb 1001<|.lb 1002<|.idA (Zf.int .i64) (A6.list a0) 0 (bx ((cA6 (cI .i64)) a0)) 0 6 fun x1=>.ldC (Zf.int .i64) 6 x1 0<|.lb 1003<|.go (.L0 a0 (⟨0,0,(⟨0,0,0,0,0⟩:A5 Int)⟩:Zt) (⟨x1,0,(⟨0,0,0,0,0⟩:A5 Int)⟩:Zt) 0) (tm13 1000 3000)
def Z77:LF Ztg Zt := .m0 260 [.c 2 60 true 7] (fun r=>(wA (Zah r))) fun | .L0 E0 E1 E2 v4=>([1,1,0,1,4],⟨20,[(1,.bptr 3000 0),(2,.bptr 3001 0),(3,.bptr 3002 0),(4,wI v4)],[(3000,.box (bx ((cA6 (cI .i64)) E0))),(3001,.box (bx (Zah E1))),(3002,.box (bx (Zah E2)))]⟩,Zagh E0 E1 E2 v4)
def Zaw0:=fun a0=>Z77.run (Zal0 a0)
theorem Za0f(a0){r}(h:Zaw0 a0=some r):Fn PR 260 [wA ((cA6 (cI .i64)) a0)] (wA (Zah r)):=Z77.fn h
inductive Zm0 where
 | L0 (E0:Zt) (v3:By) (v4:Int)
 | L1 (E0:Zt) (v3:By) (v5:Int)
 | L2 (E0:Zt) (v3:By) (v5:Int) (v6:Int)
def Zagi(E0:Zt)(v3:By)(v4:Int):LT Zm0 (By):=
.br (decide (v4 < E0.X)) (.ok (v3.length+([88]:By).length<=9223372036854775807)<|.g0 (.L0 E0 (v3++([88]:By)) (IntKind.wrap .i64 (v4+1))))<|.br (E0.Generic != 0) (.call (Znz E0.Generic) fun x7=>.ok (v3.length+x7.length<=9223372036854775807)<|.g0 (.L1 E0 (v3++x7) 0))<|.g0 (.L1 E0 v3 0)
def Zagj(E0:Zt)(v3:By)(v5:Int):LT Zm0 (By):=
.br (decide (v5 < 5)) (.g0 (.L2 E0 v3 v5 0))<|.br (v3==([]:By)) (.rt ([48]:By))<|.rt v3
def Zagk(E0:Zt)(v3:By)(v5:Int)(v6:Int):LT Zm0 (By):=
.idA (Zf.int .i64) (A5.list E0.Color) v5 (bx (Zah E0)) 2 7 fun x1=>.ldC (Zf.int .i64) 34 x1 0<|.br (decide (v6 < x1)) (.slS ([65,67,74,82,69]:By) v5 (IntKind.wrap .i64 (v5+1)) fun x6=>.ok (v3.length+x6.length<=9223372036854775807)<|.g0 (.L2 E0 (v3++x6) v5 (IntKind.wrap .i64 (v6+1))))<|.g0 (.L1 E0 v3 (IntKind.wrap .i64 (v5+1)))
def Zal1(a0:Zt):LT Zm0 (By):=
.lb 1001<|.call (Z2p a0) fun x1=>.br (!x1) (.rt ([]:By))<|.go (.L0 a0 ([]:By) 0) [.relab 1001 3000]
def Zth:LF Zm0 (By) := .m0 259 [.t 2] wS fun | .L0 E0 v3 v4=>([1,1,1,0,1,4],⟨47,[(1,.bptr 3000 0),(3,wS v3),(4,wI v4)],[(3000,.box (bx (Zah E0)))]⟩,Zagi E0 v3 v4) | .L1 E0 v3 v5=>([1,1,1,1,1,0,1,4],⟨47,[(1,.bptr 3000 0),(3,wS v3),(5,wI v5)],[(3000,.box (bx (Zah E0)))]⟩,Zagj E0 v3 v5) | .L2 E0 v3 v5 v6=>([1,1,1,1,1,0,1,4,5,1,0,4,1,4],⟨47,[(1,.bptr 3000 0),(3,wS v3),(5,wI v5),(6,wI v6)],[(3000,.box (bx (Zah E0)))]⟩,Zagk E0 v3 v5 v6)
def Zaw1:=fun a0=>Zth.run (Zal1 a0)
theorem Za0g(a0){r}(h:Zaw1 a0=some r):Fn PR 259 [wA (Zah a0)] (wS r):=Zth.fn h
def Z6f(a0:A6 Int):LT Empty (By):=
.lb 1001<|.call (Za0f a0) fun x1=>.call (Za0g x1) fun x3=>.rt x3
def Z6g:LF Empty (By) := .z0 227 [.t 2] wS
def Zab7:=fun a0=>Z6g.run (Z6f a0)
theorem Zal2(a0){r}(h:Zab7 a0=some r):Fn PR 227 [wA ((cA6 (cI .i64)) a0)] (wS r):=Z6g.fn h
def Zab8(a0:Int)(a1:Ze):LT Empty Bool:=
.lb 1003<|.br (a0==21) (.call (Zho a1) fun x2=>.cs x2 (.k5 1<|.rt (a1.Zone==2))<|.k5 1<|.rt false)<|.call (Zho a1) fun x5=>.cs x5 (.k5 1<|.rt (a1.Zone==0))<|.k5 1<|.rt false
def Zab9:LF Empty Bool := .z0 228 [.t 4] wB
def Zal3:=fun a0 a1=>Zab9.run (Zab8 a0 a1)
theorem Zass(a0)(a1){r}(h:Zal3 a0 a1=some r):Fn PR 228 [wI a0,wA (Zo a1)] (wB r):=Zab9.fn h
inductive Zh6 where
 | L0 (E0:Zs) (v5:Bool)
 | L1 (E0:Zs) (v5:Bool) (v6:Bool)
 | L2 (E0:Zs) (v5:Bool) (v6:Bool) (v7:Bool)
 | L3 (E0:Zs) (v5:Bool) (v6:Bool) (v7:Bool) (v8:Bool)
 | L4 (E0:Zs) (v5:Bool) (v6:Bool) (v7:Bool) (v8:Bool) (v9:Bool)
 | L5 (E0:Zs) (v5:Bool) (v6:Bool) (v7:Bool) (v8:Bool) (v9:Bool) (v10:Bool)
 | L6 (E0:Zs) (v5:Bool) (v6:Bool) (v7:Bool) (v8:Bool) (v9:Bool) (v10:Bool) (v11:Bool)
 | L7 (v5:Bool) (v6:Bool) (v7:Bool) (v8:Bool) (v9:Bool) (v10:Bool) (v11:Bool) (v12:Bool)
def Zww(v5:Bool)(v6:Bool)(v7:Bool)(v8:Bool)(v9:Bool)(v10:Bool)(v11:Bool)(v12:Bool):LT Zh6 Bool:=
.cs v5 (.k2 0<|.cs v6 (.k2 1<|.cs v7 (.k2 2<|.cs v8 (.k2 3<|.cs v9 (.k2 4<|.cs v10 (.k2 5<|.cs v11 (.k2 6<|.rt v12)<|.k2 6<|.rt false)<|.k2 5<|.b2 false<|.rt false)<|.k2 4<|.b4 false<|.rt false)<|.k2 3<|.b5 false<|.kb false<|.rt false)<|.k2 2<|.b8 false<|.rt false)<|.k2 1<|.b8 false<|.b2 false<|.rt false)<|.k2 0<|.b8 false<|.b4 false<|.rt false
def Zsj(E0:Zs)(v5:Bool)(v6:Bool)(v7:Bool)(v8:Bool)(v9:Bool)(v10:Bool)(v11:Bool):LT Zh6 Bool:=
.call (Zi2 E0.Op 102) fun x1=>.br x1 (.call (Zass E0.Op E0.Filter) fun x4=>.j0 (.L7 v5 v6 v7 v8 v9 v10 v11 x4) (Zww v5 v6 v7 v8 v9 v10 v11 x4))<|.j0 (.L7 v5 v6 v7 v8 v9 v10 v11 (Zy (Zo E0.Filter) (Zo (⟨0,0,0,0,0,0,0,([]:By),0,0,(⟨0,0⟩:Za),(⟨0,0⟩:Za),(⟨0,0⟩:Za)⟩:Ze)))) (Zww v5 v6 v7 v8 v9 v10 v11 (Zy (Zo E0.Filter) (Zo (⟨0,0,0,0,0,0,0,([]:By),0,0,(⟨0,0⟩:Za),(⟨0,0⟩:Za),(⟨0,0⟩:Za)⟩:Ze))))
def Zwx(E0:Zs)(v5:Bool)(v6:Bool)(v7:Bool)(v8:Bool)(v9:Bool)(v10:Bool):LT Zh6 Bool:=
.call (Zi2 E0.Op 112) fun x1=>.br x1 (.cs (!(Zy ((cA6 (cI .i64)) E0.Pool) ((cA6 (cI .i64)) (⟨0,0,0,0,0,0⟩:A6 Int)))) (.k3 1<|.call (Zal2 E0.Pool) fun x5=>.k2 1<|.j0 (.L6 E0 v5 v6 v7 v8 v9 v10 (!(x5==([]:By)))) (Zsj E0 v5 v6 v7 v8 v9 v10 (!(x5==([]:By)))))<|.k5 1<|.j0 (.L6 E0 v5 v6 v7 v8 v9 v10 false) (Zsj E0 v5 v6 v7 v8 v9 v10 false))<|.j0 (.L6 E0 v5 v6 v7 v8 v9 v10 (Zy ((cA6 (cI .i64)) E0.Pool) ((cA6 (cI .i64)) (⟨0,0,0,0,0,0⟩:A6 Int)))) (Zsj E0 v5 v6 v7 v8 v9 v10 (Zy ((cA6 (cI .i64)) E0.Pool) ((cA6 (cI .i64)) (⟨0,0,0,0,0,0⟩:A6 Int))))
def Zwy(E0:Zs)(v5:Bool)(v6:Bool)(v7:Bool)(v8:Bool)(v9:Bool):LT Zh6 Bool:=
.len Zl E0.Mods<|.call (Zi2 E0.Op 109) fun x2=>.br x2 (.call (Za0e E0.Mods) fun x5=>.j0 (.L5 E0 v5 v6 v7 v8 v9 x5) (Zwx E0 v5 v6 v7 v8 v9 x5))<|.j0 (.L5 E0 v5 v6 v7 v8 v9 ((E0.Mods.length:Int)==0)) (Zwx E0 v5 v6 v7 v8 v9 ((E0.Mods.length:Int)==0))
def Zwz(E0:Zs)(v5:Bool)(v6:Bool)(v7:Bool)(v8:Bool):LT Zh6 Bool:=
.call (Zi2 E0.Op 97) fun x1=>.br x1 (.call (Za7i E0.Amount) fun x4=>.j0 (.L4 E0 v5 v6 v7 v8 x4) (Zwy E0 v5 v6 v7 v8 x4))<|.j0 (.L4 E0 v5 v6 v7 v8 (Zy (Zaq E0.Amount) (Zaq (⟨0,0,0,(⟨0,0,0,0,0,0,0,([]:By),0,0,(⟨0,0⟩:Za),(⟨0,0⟩:Za),(⟨0,0⟩:Za)⟩:Ze)⟩:Zbk)))) (Zwy E0 v5 v6 v7 v8 (Zy (Zaq E0.Amount) (Zaq (⟨0,0,0,(⟨0,0,0,0,0,0,0,([]:By),0,0,(⟨0,0⟩:Za),(⟨0,0⟩:Za),(⟨0,0⟩:Za)⟩:Ze)⟩:Zbk))))
def Zsk(E0:Zs)(v5:Bool)(v6:Bool)(v7:Bool):LT Zh6 Bool:=
.call (Zi2 E0.Op 99) fun x1=>.br x1 (.call (Zabo E0.Card) fun x4=>.j0 (.L3 E0 v5 v6 v7 x4) (Zwz E0 v5 v6 v7 x4))<|.j0 (.L3 E0 v5 v6 v7 (E0.Card==([]:By))) (Zwz E0 v5 v6 v7 (E0.Card==([]:By)))
def Zoy(E0:Zs)(v5:Bool)(v6:Bool):LT Zh6 Bool:=
.cs (E0.Counter==0) (.k5 0<|.kg 0<|.j0 (.L2 E0 v5 v6 true) (Zsk E0 v5 v6 true))<|.k3 0<|.call (Zi2 E0.Op 107) fun x2=>.kg 0<|.cs x2 (.k3 1<|.call (Zagg E0.Counter) fun x5=>.kg 1<|.kg 0<|.kg 1<|.kg 0<|.j0 (.L2 E0 v5 v6 (!(x5==([]:By)))) (Zsk E0 v5 v6 (!(x5==([]:By)))))<|.k4 1<|.kg 0<|.kg 1<|.kg 0<|.j0 (.L2 E0 v5 v6 false) (Zsk E0 v5 v6 false)
def Zw0(E0:Zs)(v5:Bool):LT Zh6 Bool:=
.cs (E0.Zone==0) (.k8 0<|.j0 (.L1 E0 v5 true) (Zoy E0 v5 true))<|.k3 0<|.call (Zi2 E0.Op 122) fun x2=>.kg 0<|.cs x2 (.k3 1<|.kg 0<|.kg 1<|.kg 0<|.cs (decide (E0.Zone > 0)) (.k3 2<|.kg 0<|.kg 2<|.kg 0<|.j0 (.L1 E0 v5 (decide (E0.Zone<=4))) (Zoy E0 v5 (decide (E0.Zone<=4))))<|.k3 2<|.kg 0<|.kg 2<|.kg 0<|.j0 (.L1 E0 v5 false) (Zoy E0 v5 false))<|.k3 1<|.kg 0<|.kg 1<|.kg 0<|.b3 false<|.kg 0<|.kb false<|.kg 0<|.j0 (.L1 E0 v5 false) (Zoy E0 v5 false)
def Zaw2(a0:Zs)(a1:Int):LT Zh6 Bool:=
.lb 1002<|.call (Za0c a0.Op) fun x1=>.br (x1==([]:By)) (.rt false)<|.call (Zi2 a0.Op 114) fun x4=>.br x4 (.call (Za7g a0.Ref a1) fun x7=>.jn 0 (.L0 a0 x7) [.relab 1002 3000] (Zw0 a0 x7))<|.jn 0 (.L0 a0 (Zy (Zdf a0.Ref) (Zdf (⟨0,0,(⟨0,0,0,0,0,0,0,([]:By),0,0,(⟨0,0⟩:Za),(⟨0,0⟩:Za),(⟨0,0⟩:Za)⟩:Ze)⟩:Zgn)))) [.relab 1002 3000] (Zw0 a0 (Zy (Zdf a0.Ref) (Zdf (⟨0,0,(⟨0,0,0,0,0,0,0,([]:By),0,0,(⟨0,0⟩:Za),(⟨0,0⟩:Za),(⟨0,0⟩:Za)⟩:Ze)⟩:Zgn))))
def Zaw3:LF Zh6 Bool := .m0 180 [.t 4] wB fun | .L0 E0 v5=>([1,1,1,1],⟨138,[(2,.bptr 3000 0),(5,wB v5)],[(3000,.box (bx (Zq E0)))]⟩,Zw0 E0 v5) | .L1 E0 v5 v6=>([1,1,1,1,1],⟨138,[(2,.bptr 3000 0),(5,wB v5),(6,wB v6)],[(3000,.box (bx (Zq E0)))]⟩,Zoy E0 v5 v6) | .L2 E0 v5 v6 v7=>([1,1,1,1,1,1],⟨138,[(2,.bptr 3000 0),(5,wB v5),(6,wB v6),(7,wB v7)],[(3000,.box (bx (Zq E0)))]⟩,Zsk E0 v5 v6 v7) | .L3 E0 v5 v6 v7 v8=>([1,1,1,1,1,1,1,1],⟨138,[(2,.bptr 3000 0),(5,wB v5),(6,wB v6),(7,wB v7),(8,wB v8)],[(3000,.box (bx (Zq E0)))]⟩,Zwz E0 v5 v6 v7 v8) | .L4 E0 v5 v6 v7 v8 v9=>([1,1,1,1,1,1,1,1,1,1],⟨138,[(2,.bptr 3000 0),(5,wB v5),(6,wB v6),(7,wB v7),(8,wB v8),(9,wB v9)],[(3000,.box (bx (Zq E0)))]⟩,Zwy E0 v5 v6 v7 v8 v9) | .L5 E0 v5 v6 v7 v8 v9 v10=>([1,1,1,1,1,1,1,1,1,1,1,1],⟨138,[(2,.bptr 3000 0),(5,wB v5),(6,wB v6),(7,wB v7),(8,wB v8),(9,wB v9),(10,wB v10)],[(3000,.box (bx (Zq E0)))]⟩,Zwx E0 v5 v6 v7 v8 v9 v10) | .L6 E0 v5 v6 v7 v8 v9 v10 v11=>([1,1,1,1,1,1,1,1,1,1,1,1,1,1],⟨138,[(2,.bptr 3000 0),(5,wB v5),(6,wB v6),(7,wB v7),(8,wB v8),(9,wB v9),(10,wB v10),(11,wB v11)],[(3000,.box (bx (Zq E0)))]⟩,Zsj E0 v5 v6 v7 v8 v9 v10 v11) | .L7 v5 v6 v7 v8 v9 v10 v11 v12=>([1,1,1,1,1,1,1,1,1,1,1,1,1,1,1,1],⟨138,[(5,wB v5),(6,wB v6),(7,wB v7),(8,wB v8),(9,wB v9),(10,wB v10),(11,wB v11),(12,wB v12)],[]⟩,Zww v5 v6 v7 v8 v9 v10 v11 v12)
def Za7j:=fun a0 a1=>Zaw3.run (Zaw2 a0 a1)
theorem Za7k(a0)(a1){r}(h:Za7j a0 a1=some r):Fn PR 180 [wA (Zq a0),wI a1] (wB r):=Zaw3.fn h
inductive Zna where
 | L0 (v0:List Zs) (v1:Int) (v5:Int)
def Z6h(v0:List Zs)(v1:Int)(v5:Int):LT Zna Bool:=
.len Zq v0<|.br (decide (v5 < (v0.length:Int))) (.idx Zq v0 v5 fun x3=>.call (Za7k x3 v1) fun x5=>.br (!x5) (.rt false)<|.g0 (.L0 v0 v1 (IntKind.wrap .i64 (v5+1))))<|.len Zq v0<|.cs (decide ((v0.length:Int)>=1)) (.k2 1<|.len Zq v0<|.k2 1<|.rt (decide ((v0.length:Int)<=8)))<|.k4 1<|.rt false
def Z9h(a0:List Zs)(a1:Int):LT Zna Bool:=
.g0 (.L0 a0 a1 0)
def Zxy:LF Zna Bool := .m0 128 [.t 4] wB fun | .L0 v0 v1 v5=>([1,0,1,4],⟨27,[(0,wL Zq v0),(1,wI v1),(5,wI v5)],[]⟩,Z6h v0 v1 v5)
def Zagl:=fun a0 a1=>Zxy.run (Z9h a0 a1)
theorem Zaoz(a0)(a1){r}(h:Zagl a0 a1=some r):Fn PR 128 [wL Zq a0,wI a1] (wB r):=Zxy.fn h
inductive Zm1 where
 | L0 (E0:Zh) (v3:Bool)
 | L1 (E0:Zh) (v3:Bool)
 | L2 (E0:Zh) (v3:Bool)
 | L3 (E0:Zh) (v3:Bool)
 | L4 (E0:Zh) (v3:Bool)
def Zw1(E0:Zh)(v3:Bool):LT Zm1 Bool:=
.br v3 (.call (Zawq E0.Specs) fun x2=>.cs x2 (.k5 1<|.len Zad E0.Specs<|.kg 1<|.call (Zaoz E0.Effects (E0.Specs.length:Int)) fun x6=>.kg 1<|.rt x6)<|.k5 1<|.k2 1<|.rt false)<|.len Zad E0.Specs<|.cs ((E0.Specs.length:Int)==0) (.k3 1<|.len Zq E0.Effects<|.k2 1<|.rt ((E0.Effects.length:Int)==0))<|.k5 1<|.rt false
def Zw2(E0:Zh)(v3:Bool):LT Zm1 Bool:=
.br (E0.Kind==5) (.call (Za7e E0.Replace) fun x2=>.br (!x2) (.rt false)<|.j0 (.L4 E0 v3) (Zw1 E0 v3))<|.br (!(Zy (Zbh E0.Replace) (Zbh (⟨0,0,(⟨0,0,0,0,0,0,0,([]:By),0,0,(⟨0,0⟩:Za),(⟨0,0⟩:Za),(⟨0,0⟩:Za)⟩:Ze),0,0,0,0⟩:Za6)))) (.rt false)<|.j0 (.L4 E0 v3) (Zw1 E0 v3)
def Zw3(E0:Zh)(v3:Bool):LT Zm1 Bool:=
.br (E0.Kind==4) (.call (Za7c E0.Trigger) fun x2=>.br (!x2) (.rt false)<|.j0 (.L3 E0 v3) (Zw2 E0 v3))<|.cs (!(Zy (Zb8 E0.Trigger) (Zb8 (⟨0,0,(⟨0,0,0,0,0,0,0,([]:By),0,0,(⟨0,0⟩:Za),(⟨0,0⟩:Za),(⟨0,0⟩:Za)⟩:Ze)⟩:Zcs)))) (.k3 1<|.kn [0]<|.rt false)<|.k3 1<|.br E0.May (.rt false)<|.j0 (.L3 E0 v3) (Zw2 E0 v3)
def Zw4(E0:Zh)(v3:Bool):LT Zm1 Bool:=
.br (E0.Kind==3) (.call (Zawh E0.Price) fun x2=>.br (!x2) (.rt false)<|.j0 (.L2 E0 v3) (Zw3 E0 v3))<|.cs (!(Zy (Zdk E0.Price) (Zdk (⟨(⟨0,0,(⟨0,0,0,0,0⟩:A5 Int)⟩:Zt),false,false,0⟩:Zhn)))) (.k3 1<|.kn [0]<|.rt false)<|.k3 1<|.br E0.Slow (.rt false)<|.j0 (.L2 E0 v3) (Zw3 E0 v3)
def Zsl(E0:Zh)(v3:Bool):LT Zm1 Bool:=
.br (E0.Kind==1) (.call (Zho E0.Filter) fun x2=>.cs (!x2) (.k5 1<|.b5 true<|.kn [0]<|.rt false)<|.k5 1<|.cs (E0.Filter.Zone != 0) (.k5 2<|.kn [0]<|.rt false)<|.k3 2<|.call (Zte E0.Mods) fun x6=>.k2 2<|.br (x6==([]:By)) (.rt false)<|.j0 (.L1 E0 v3) (Zw4 E0 v3))<|.cs (!(Zy (Zo E0.Filter) (Zo (⟨0,0,0,0,0,0,0,([]:By),0,0,(⟨0,0⟩:Za),(⟨0,0⟩:Za),(⟨0,0⟩:Za)⟩:Ze)))) (.k5 1<|.kn [0]<|.rt false)<|.k3 1<|.len Zl E0.Mods<|.k2 1<|.br (decide ((E0.Mods.length:Int) > 0)) (.rt false)<|.j0 (.L1 E0 v3) (Zw4 E0 v3)
def Zaw4(a0:Zh):LT Zm1 Bool:=
.lb 1001<|.cs (decide (a0.Kind < 1)) (.k4 0<|.kn [0]<|.rt false)<|.k4 0<|.br (decide (a0.Kind > 5)) (.rt false)<|.cs (a0.Kind==2) (.k4 2<|.b4 true<|.jn 0 (.L0 a0 true) [.relab 1001 3000] (Zsl a0 true))<|.k4 2<|.cs (a0.Kind==3) (.k4 3<|.jn 0 (.L0 a0 true) [.relab 1001 3000] (Zsl a0 true))<|.k4 3<|.jn 0 (.L0 a0 (a0.Kind==4)) [.relab 1001 3000] (Zsl a0 (a0.Kind==4))
def Zaw5:LF Zm1 Bool := .m0 78 [.t 2] wB fun | .L0 E0 v3=>([1,1,1],⟨117,[(1,.bptr 3000 0),(3,wB v3)],[(3000,.box (bx (Zj E0)))]⟩,Zsl E0 v3) | .L1 E0 v3=>([1,1,1,1],⟨117,[(1,.bptr 3000 0),(3,wB v3)],[(3000,.box (bx (Zj E0)))]⟩,Zw4 E0 v3) | .L2 E0 v3=>([1,1,1,1,1],⟨117,[(1,.bptr 3000 0),(3,wB v3)],[(3000,.box (bx (Zj E0)))]⟩,Zw3 E0 v3) | .L3 E0 v3=>([1,1,1,1,1,1],⟨117,[(1,.bptr 3000 0),(3,wB v3)],[(3000,.box (bx (Zj E0)))]⟩,Zw2 E0 v3) | .L4 E0 v3=>([1,1,1,1,1,1,1],⟨117,[(1,.bptr 3000 0),(3,wB v3)],[(3000,.box (bx (Zj E0)))]⟩,Zw1 E0 v3)
def Za7l:=fun a0=>Zaw5.run (Zaw4 a0)
theorem Z28(a0){r}(h:Za7l a0=some r):Fn PR 78 [wA (Zj a0)] (wB r):=Zaw5.fn h
def Zal4(a0:Zm):LT Empty Bool:=
.lb 1001<|.cs (a0.Line.Types==2) (.k5 0<|.rt true)<|.k5 0<|.rt (a0.Line.Types==4)
def Zal5:LF Empty Bool := .z0 79 [.t 2] wB
def Zaw6:=fun a0=>Zal5.run (Zal4 a0)
theorem Za0h(a0){r}(h:Zaw6 a0=some r):Fn PR 79 [wA (Z6 a0)] (wB r):=Zal5.fn h
inductive Zu7 where
 | L0 (E0:Zm)
 | L1 (E0:Zm) (v3:Int) (v4:Int)
def Zw5(E0:Zm):LT Zu7 Bool:=
.g0 (.L1 E0 0 0)
def Zarm(E0:Zm)(v3:Int)(v4:Int):LT Zu7 Bool:=
.len Zj E0.Abilities<|.br (decide (v4 < (E0.Abilities.length:Int))) (.idx Zj E0.Abilities v4 fun x3=>.call (Z28 x3) fun x5=>.br (!x5) (.rt false)<|.ag Zj x3 0<|.br (x3.Kind==2) (.g0 (.L1 E0 (IntKind.wrap .i64 (v3+1)) (IntKind.wrap .i64 (v4+1))))<|.g0 (.L1 E0 v3 (IntKind.wrap .i64 (v4+1))))<|.call (Za0h E0) fun x15=>.br x15 (.cs (!E0.Token) (.k4 2<|.cs (E0.Keys==0) (.k3 3<|.len Zj E0.Abilities<|.k2 3<|.cs ((E0.Abilities.length:Int)==1) (.k3 4<|.rt (v3==1))<|.k3 4<|.rt false)<|.k5 3<|.b3 false<|.rt false)<|.k4 2<|.b8 false<|.rt false)<|.cs (v3==0) (.k4 2<|.cs (!E0.Token) (.k5 3<|.kg 2<|.kg 3<|.kg 2<|.cs ((Zay .and .i64 E0.Line.Types 32)==0) (.k4 4<|.kg 2<|.kg 4<|.kg 2<|.rt true)<|.k4 4<|.kg 2<|.kg 4<|.kg 2<|.rt (Zy (Zah E0.Cost) (Zah (⟨0,0,(⟨0,0,0,0,0⟩:A5 Int)⟩:Zt))))<|.k5 3<|.kg 2<|.kg 3<|.kg 2<|.b4 false<|.kg 2<|.kb false<|.kg 2<|.rt (Zy (Zah E0.Cost) (Zah (⟨0,0,(⟨0,0,0,0,0⟩:A5 Int)⟩:Zt))))<|.k8 2<|.rt false
def Zaw7(a0:Zm):LT Zu7 Bool:=
.lb 1001<|.call (Zabo a0.Name) fun x1=>.cs (!x1) (.k5 0<|.b16 true<|.b2 true<|.kn [0]<|.rt false)<|.k3 0<|.call (Z2p a0.Cost) fun x4=>.k2 0<|.cs (!x4) (.k5 1<|.b8 true<|.b5 true<|.kn [0]<|.rt false)<|.k3 1<|.call (Za66 a0.Line) fun x7=>.k2 1<|.cs (!x7) (.k5 2<|.b8 true<|.kn [0]<|.rt false)<|.k3 2<|.call (Zard a0.Keys) fun x10=>.k2 2<|.cs (!x10) (.k4 3<|.b4 true<|.kn [0]<|.rt false)<|.k4 3<|.cs (decide (a0.Color < 0)) (.k4 4<|.kn [0]<|.rt false)<|.k4 4<|.br (decide (a0.Color > 31)) (.rt false)<|.cs (decide (a0.Power < 0)) (.k4 6<|.b16 true<|.b3 true<|.kn [0]<|.rt false)<|.k4 6<|.cs (decide (a0.Power > 99)) (.k4 7<|.b8 true<|.b5 true<|.b2 true<|.kn [0]<|.rt false)<|.k4 7<|.cs (decide (a0.Tough < 0)) (.k4 8<|.b8 true<|.b3 true<|.kn [0]<|.rt false)<|.k4 8<|.cs (decide (a0.Tough > 99)) (.k5 9<|.kg 9<|.b5 true<|.kn [0]<|.rt false)<|.k2 9<|.call (Zak2 a0) fun x19=>.k2 9<|.cs (!x19) (.k4 10<|.cs (a0.Power != 0) (.k3 11<|.kg 10<|.kg 11<|.kg 9<|.kg 10<|.kg 9<|.b5 true<|.kn [0]<|.rt false)<|.k3 11<|.kg 10<|.kg 11<|.kg 9<|.kg 10<|.kg 9<|.cs (a0.Tough != 0) (.k5 12<|.kn [0]<|.rt false)<|.k3 12<|.len Zj a0.Abilities<|.k2 12<|.br (decide ((a0.Abilities.length:Int) > 8)) (.rt false)<|.jn 0 (.L0 a0) [.relab 1001 3000] (Zw5 a0))<|.k5 10<|.kg 9<|.kg 10<|.kg 9<|.b3 false<|.len Zj a0.Abilities<|.b2 false<|.br (decide ((a0.Abilities.length:Int) > 8)) (.rt false)<|.jn 0 (.L0 a0) [.relab 1001 3000] (Zw5 a0)
def Zais:LF Zu7 Bool := .m0 43 [.t 2] wB fun | .L0 E0=>([1,1,1],⟨139,[(1,.bptr 3000 0)],[(3000,.box (bx (Z6 E0)))]⟩,Zw5 E0) | .L1 E0 v3 v4=>([1,1,1,1,0,1,4],⟨139,[(1,.bptr 3000 0),(3,wI v3),(4,wI v4)],[(3000,.box (bx (Z6 E0)))]⟩,Zarm E0 v3 v4)
def Za7m:=fun a0=>Zais.run (Zaw7 a0)
theorem Za7n(a0){r}(h:Za7m a0=some r):Fn PR 43 [wA (Z6 a0)] (wB r):=Zais.fn h
inductive Zti where
 | L0 (v0:List Zm) (v1:By) (v5:Int)
def Zagm(v0:List Zm)(v1:By)(v5:Int):LT Zti Int:=
.len Z6 v0<|.br (decide (v5 < (v0.length:Int))) (.idx Z6 v0 v5 fun x3=>.br (x3.Name==v1) (.rt v5)<|.g0 (.L0 v0 v1 (IntKind.wrap .i64 (v5+1))))<|.rt (-1)
def Zal6(a0:List Zm)(a1:By):LT Zti Int:=
.g0 (.L0 a0 a1 0)
def Z78:LF Zti Int := .m0 44 [.t 4] wI fun | .L0 v0 v1 v5=>([1,0,1,4],⟨20,[(0,wL Z6 v0),(1,wS v1),(5,wI v5)],[]⟩,Zagm v0 v1 v5)
def Zaw8:=fun a0 a1=>Z78.run (Zal6 a0 a1)
theorem Za0i(a0)(a1){r}(h:Zaw8 a0 a1=some r):Fn PR 44 [wL Z6 a0,wS a1] (wI r):=Z78.fn h
inductive Zqy where
 | L0 (v0:List Zm) (v1:By) (v5:Int)
def Zaca(v0:List Zm)(v1:By)(v5:Int):LT Zqy Bool:=
.len Z6 v0<|.br (decide (v5 < (v0.length:Int))) (.idx Z6 v0 v5 fun x3=>.cs (x3.Name==v1) (.k3 1<|.ag Z6 x3 0<|.k3 1<|.br x3.Token (.rt true)<|.g0 (.L0 v0 v1 (IntKind.wrap .i64 (v5+1))))<|.k5 1<|.kg 1<|.kn [0]<|.g0 (.L0 v0 v1 (IntKind.wrap .i64 (v5+1))))<|.rt false
def Zagn(a0:List Zm)(a1:By):LT Zqy Bool:=
.g0 (.L0 a0 a1 0)
def Z40:LF Zqy Bool := .m0 80 [.t 4] wB fun | .L0 v0 v1 v5=>([1,0,1,4],⟨26,[(0,wL Z6 v0),(1,wS v1),(5,wI v5)],[]⟩,Zaca v0 v1 v5)
def Zarn:=fun a0 a1=>Z40.run (Zagn a0 a1)
theorem Zaw9(a0)(a1){r}(h:Zarn a0 a1=some r):Fn PR 80 [wL Z6 a0,wS a1] (wB r):=Z40.fn h
inductive Zj0 where
 | L0 (v0:List Zm) (E0:Zm) (v5:Int)
 | L1 (v0:List Zm) (E0:Zm) (v5:Int) (v6:Int)
def Z6i(v0:List Zm)(E0:Zm)(v5:Int):LT Zj0 Bool:=
.len Zj E0.Abilities<|.br (decide (v5 < (E0.Abilities.length:Int))) (.g0 (.L1 v0 E0 v5 0))<|.rt true
def Z6j(v0:List Zm)(E0:Zm)(v5:Int)(v6:Int):LT Zj0 Bool:=
.idx Zj E0.Abilities v5 fun x1=>.len Zq x1.Effects<|.br (decide (v6 < (x1.Effects.length:Int))) (.ag Zj x1 0<|.idx Zq x1.Effects v6 fun x5=>.lb 1007<|.cs (x5.Op==12) (.k4 1<|.call (Zaw9 v0 x5.Card) fun x8=>.k2 1<|.br (!x8) (.rt false)<|.g0 (.L1 v0 E0 v5 (IntKind.wrap .i64 (v6+1))))<|.k5 1<|.kg 1<|.kn [0]<|.g0 (.L1 v0 E0 v5 (IntKind.wrap .i64 (v6+1))))<|.g0 (.L0 v0 E0 (IntKind.wrap .i64 (v5+1)))
def Z9i(a0:List Zm)(a1:Zm):LT Zj0 Bool:=
.lb 1003<|.go (.L0 a0 a1 0) [.relab 1003 3000]
def Zrl:LF Zj0 Bool := .m0 45 [.t 4] wB fun | .L0 v0 E0 v5=>([1,0,1,4],⟨45,[(0,wL Z6 v0),(3,.bptr 3000 0),(5,wI v5)],[(3000,.box (bx (Z6 E0)))]⟩,Z6i v0 E0 v5) | .L1 v0 E0 v5 v6=>([1,0,1,4,5,1,0,4,1,4],⟨45,[(0,wL Z6 v0),(3,.bptr 3000 0),(5,wI v5),(6,wI v6)],[(3000,.box (bx (Z6 E0)))]⟩,Z6j v0 E0 v5 v6)
def Zago:=fun a0 a1=>Zrl.run (Z9i a0 a1)
theorem Zao0(a0)(a1){r}(h:Zago a0 a1=some r):Fn PR 45 [wL Z6 a0,wA (Z6 a1)] (wB r):=Zrl.fn h
inductive Zqz where
 | L0 (v0:List Zm) (v4:Int)
def Zacb(v0:List Zm)(v4:Int):LT Zqz (Int×Int):=
.len Z6 v0<|.br (decide (v4 < (v0.length:Int))) (.idx Z6 v0 v4 fun x3=>.call (Za7n x3) fun x5=>.br (!x5) (.rt (v4,9))<|.ag Z6 x3 0<|.call (Za0i v0 x3.Name) fun x8=>.br (decide (x8 < v4)) (.rt (v4,6))<|.ag Z6 x3 0<|.call (Zao0 v0 x3) fun x11=>.br (!x11) (.rt (v4,7))<|.g0 (.L0 v0 (IntKind.wrap .i64 (v4+1))))<|.rt ((-1),0)
def Zagp(a0:List Zm):LT Zqz (Int×Int):=
.len Z6 a0<|.br (decide ((a0.length:Int) > 256)) (.rt ((-1),5))<|.g0 (.L0 a0 0)
def Z41:LF Zqz (Int×Int) := .m0 28 [.t 2,.t 3] (fun r=>(.tup [wI r.1,wI r.2])) fun | .L0 v0 v4=>([1,1,0,1,4],⟨39,[(0,wL Z6 v0),(4,wI v4)],[]⟩,Zacb v0 v4)
def Zaro:=fun a0=>Z41.run (Zagp a0)
theorem Zaxa(a0){r}(h:Zaro a0=some r):Fn PR 28 [wL Z6 a0] (.tup [wI r.1,wI r.2]):=Z41.fn h
def Zaxb(a0:Int)(a1:Int)(a2:Int):LT Empty Bool:=
.cs (decide (a0>=a1)) (.k4 0<|.rt (decide (a0<=a2)))<|.k4 0<|.rt false
def Zaxc:LF Empty Bool := .z0 46 [.t 6] wB
def Za7o:=fun a0 a1 a2=>Zaxc.run (Zaxb a0 a1 a2)
theorem Ze8(a0)(a1)(a2){r}(h:Za7o a0 a1 a2=some r):Fn PR 46 [wI a0,wI a1,wI a2] (wB r):=Zaxc.fn h
inductive Zq0 where
 | L0 (E0:A6 Int) (v3:Int)
def Zacc(E0:A6 Int)(v3:Int):LT Zq0 Bool:=
.br (decide (v3 < 6)) (.idA (Zf.int .i64) (A6.list E0) v3 (bx ((cA6 (cI .i64)) E0)) 0 6 fun x2=>.ldC (Zf.int .i64) 10 x2 0<|.cs (decide (x2 < 0)) (.k5 1<|.kn [0]<|.rt false)<|.k2 1<|.idA (Zf.int .i64) (A6.list E0) v3 (bx ((cA6 (cI .i64)) E0)) 0 6 fun x5=>.kg 1<|.ldC (Zf.int .i64) 15 x5 1<|.k2 1<|.br (decide (x5 > 1000000)) (.rt false)<|.g0 (.L0 E0 (IntKind.wrap .i64 (v3+1))))<|.rt true
def Zagq(a0:A6 Int):LT Zq0 Bool:=
.lb 1001<|.go (.L0 a0 0) [.relab 1001 3000]
def Z42:LF Zq0 Bool := .m0 81 [.t 2] wB fun | .L0 E0 v3=>([1,0,1,4],⟨18,[(1,.bptr 3000 0),(3,wI v3)],[(3000,.box (bx ((cA6 (cI .i64)) E0)))]⟩,Zacc E0 v3)
def Zarp:=fun a0=>Z42.run (Zagq a0)
theorem Zaxd(a0){r}(h:Zarp a0=some r):Fn PR 81 [wA ((cA6 (cI .i64)) a0)] (wB r):=Z42.fn h
inductive Zq1 where
 | L0 (v1:Int) (E0:Zk) (v5:Int)
def Zacd(v1:Int)(E0:Zk)(v5:Int):LT Zq1 Int:=
.len Zn E0.Objects<|.br (decide (v5 < (E0.Objects.length:Int))) (.idx Zn E0.Objects v5 fun x3=>.br (x3.Id==v1) (.rt v5)<|.g0 (.L0 v1 E0 (IntKind.wrap .i64 (v5+1))))<|.rt (-1)
def Zagr(a0:Zk)(a1:Int):LT Zq1 Int:=
.lb 1002<|.go (.L0 a1 a0 0) [.relab 1002 3000]
def Z43:LF Zq1 Int := .m0 229 [.t 4] wI fun | .L0 v1 E0 v5=>([1,0,1,4],⟨22,[(1,wI v1),(2,.bptr 3000 0),(5,wI v5)],[(3000,.box (bx (Z9 E0)))]⟩,Zacd v1 E0 v5)
def Zarq:=fun a0 a1=>Z43.run (Zagr a0 a1)
theorem Zaxe(a0)(a1){r}(h:Zarq a0 a1=some r):Fn PR 229 [wA (Z9 a0),wI a1] (wI r):=Z43.fn h
def Zal7(a0:Zk)(a1:Int):LT Empty (Zg×Bool):=
.lb 1002<|.lb 1004<|.call (Zaxe a0 a1) fun x1=>.br (decide (x1 < 0)) (.rt ((⟨0,0,0,0,0,false,false,false,false,0,(⟨0,0,0⟩:A3 Int),0,0,0,false,0,0⟩:Zg),false))<|.idx Zn a0.Objects x1 fun x4=>.rt (x4,true)
def Zal8:LF Empty (Zg×Bool) := .z0 181 [.c 4 56 true 19,.t 5] (fun r=>(.tup [wA (Zn r.1),wB r.2]))
def Zaxf:=fun a0 a1=>Zal8.run (Zal7 a0 a1)
theorem Za0j(a0)(a1){r}(h:Zaxf a0 a1=some r):Fn PR 181 [wA (Z9 a0),wI a1] (.tup [wA (Zn r.1),wB r.2]):=Zal8.fn h
def Zace(a0:Zk)(a1:Int):LT Empty (Zg×Bool):=
.lb 1002<|.lb 1004<|.call (Za0j a0 a1) fun x1=>.rt (x1.1,x1.2)
def Zacf:LF Empty (Zg×Bool) := .z0 129 [.c 4 56 true 19,.t 5] (fun r=>(.tup [wA (Zn r.1),wB r.2]))
def Zal9:=fun a0 a1=>Zacf.run (Zace a0 a1)
theorem Z9j(a0)(a1){r}(h:Zal9 a0 a1=some r):Fn PR 129 [wA (Z9 a0),wI a1] (.tup [wA (Zn r.1),wB r.2]):=Zacf.fn h
inductive Zq2 where
 | L0 (v0:List Int) (v1:Int) (v5:Int) (v6:Int)
def Zacg(v0:List Int)(v1:Int)(v5:Int)(v6:Int):LT Zq2 Int:=
.len (cI .i64) v0<|.br (decide (v6 < (v0.length:Int))) (.idx (cI .i64) v0 v6 fun x3=>.br (x3==v1) (.g0 (.L0 v0 v1 (IntKind.wrap .i64 (v5+1)) (IntKind.wrap .i64 (v6+1))))<|.g0 (.L0 v0 v1 v5 (IntKind.wrap .i64 (v6+1))))<|.rt v5
def Zags(a0:List Int)(a1:Int):LT Zq2 Int:=
.g0 (.L0 a0 a1 0 0)
def Z44:LF Zq2 Int := .m0 130 [.t 4] wI fun | .L0 v0 v1 v5 v6=>([1,1,0,1,4],⟨22,[(0,wL (cI .i64) v0),(1,wI v1),(5,wI v5),(6,wI v6)],[]⟩,Zacg v0 v1 v5 v6)
def Zarr:=fun a0 a1=>Z44.run (Zags a0 a1)
theorem Z0q(a0)(a1){r}(h:Zarr a0 a1=some r):Fn PR 130 [wL (cI .i64) a0,wI a1] (wI r):=Z44.fn h
inductive Ztj where
 | L0 (v1:List Int) (v2:Int) (v3:Int) (E0:Zk) (v9:Int)
def Zagt(v1:List Int)(v2:Int)(v3:Int)(E0:Zk)(v9:Int):LT Ztj Bool:=
.len (cI .i64) v1<|.br (decide (v9 < (v1.length:Int))) (.idx (cI .i64) v1 v9 fun x3=>.call (Z9j E0 x3) fun x5=>.lb 1010<|.cs (!x5.2) (.k5 1<|.b8 true<|.b5 true<|.kn [0]<|.rt false)<|.k5 1<|.cs (x5.1.Zone != v2) (.k5 2<|.b8 true<|.kn [0]<|.rt false)<|.k3 2<|.cs (decide (v3>=0)) (.k4 3<|.kg 2<|.kg 3<|.kg 2<|.cs (x5.1.Owner != v3) (.k8 4<|.kn [0]<|.rt false)<|.k4 4<|.ag (cI .i64) x3 0<|.k2 4<|.call (Z0q v1 x3) fun x11=>.k2 4<|.br (x11 != 1) (.rt false)<|.g0 (.L0 v1 v2 v3 E0 (IntKind.wrap .i64 (v9+1))))<|.k4 3<|.kg 2<|.kg 3<|.kg 2<|.b4 false<|.ag (cI .i64) x3 0<|.b2 false<|.call (Z0q v1 x3) fun x16=>.b2 false<|.br (x16 != 1) (.rt false)<|.g0 (.L0 v1 v2 v3 E0 (IntKind.wrap .i64 (v9+1))))<|.rt true
def Zama(a0:Zk)(a1:List Int)(a2:Int)(a3:Int):LT Ztj Bool:=
.lb 1004<|.go (.L0 a1 a2 a3 a0 0) [.relab 1004 3000]
def Z79:LF Ztj Bool := .m0 82 [.t 8] wB fun | .L0 v1 v2 v3 E0 v9=>([1,0,1,4],⟨54,[(1,wL (cI .i64) v1),(2,wI v2),(3,wI v3),(4,.bptr 3000 0),(9,wI v9)],[(3000,.box (bx (Z9 E0)))]⟩,Zagt v1 v2 v3 E0 v9)
def Zaxg:=fun a0 a1 a2 a3=>Z79.run (Zama a0 a1 a2 a3)
theorem Zq3(a0)(a1)(a2)(a3){r}(h:Zaxg a0 a1 a2 a3=some r):Fn PR 82 [wA (Z9 a0),wL (cI .i64) a1,wI a2,wI a3] (wB r):=Z79.fn h
inductive Znb where
 | L0 (E0:Zk) (v3:Int)
def Z6k(E0:Zk)(v3:Int):LT Znb Bool:=
.len Zbc E0.Players<|.br (decide (v3 < (E0.Players.length:Int))) (.idx Zbc E0.Players v3 fun x3=>.lb 1004<|.call (Ze8 x3.Life (-1000000) 1000000) fun x5=>.cs (!x5) (.k5 1<|.b8 true<|.b2 true<|.kn [0]<|.rt false)<|.k3 1<|.call (Ze8 x3.Venom 0 1000000) fun x8=>.k2 1<|.cs (!x8) (.k5 2<|.b5 true<|.kn [0]<|.rt false)<|.k3 2<|.call (Ze8 x3.Lands 0 1000000) fun x11=>.k2 2<|.cs (!x11) (.k5 3<|.kn [0]<|.rt false)<|.k3 3<|.call (Zaxd x3.Pool) fun x14=>.k2 3<|.br (!x14) (.rt false)<|.call (Zq3 E0 x3.Library 2 v3) fun x17=>.cs (!x17) (.k5 5<|.k2 5<|.b5 true<|.b2 true<|.kn [0]<|.rt false)<|.k5 5<|.call (Zq3 E0 x3.Hand 1 v3) fun x20=>.k2 5<|.cs (!x20) (.k5 6<|.k2 6<|.kn [0]<|.rt false)<|.k5 6<|.call (Zq3 E0 x3.Graveyard 3 v3) fun x23=>.k2 6<|.br (!x23) (.rt false)<|.g0 (.L0 E0 (IntKind.wrap .i64 (v3+1))))<|.call (Zq3 E0 E0.Battlefield 0 (-1)) fun x28=>.cs x28 (.k4 1<|.call (Zq3 E0 E0.Exile 4 (-1)) fun x31=>.kg 1<|.rt x31)<|.k5 1<|.rt false
def Z9k(a0:Zk):LT Znb Bool:=
.lb 1001<|.len Zbc a0.Players<|.call (Ze8 (a0.Players.length:Int) 2 4) fun x2=>.br (!x2) (.rt false)<|.go (.L0 a0 0) [.relab 1001 3000]
def Zxz:LF Znb Bool := .m0 47 [.t 2] wB fun | .L0 E0 v3=>([1,1,0,1,4],⟨76,[(1,.bptr 3000 0),(3,wI v3)],[(3000,.box (bx (Z9 E0)))]⟩,Z6k E0 v3)
def Zagu:=fun a0=>Zxz.run (Z9k a0)
theorem Zao1(a0){r}(h:Zagu a0=some r):Fn PR 47 [wA (Z9 a0)] (wB r):=Zxz.fn h
def Zach(a0:Zk)(a1:Int):LT Empty Bool:=
.lb 1002<|.len Zbc a0.Players<|.call (Ze8 a1 0 (IntKind.wrap .i64 ((a0.Players.length:Int) - 1))) fun x4=>.rt x4
def Zaci:LF Empty Bool := .z0 48 [.t 4] wB
def Zamb:=fun a0 a1=>Zaci.run (Zach a0 a1)
theorem Zh7(a0)(a1){r}(h:Zamb a0 a1=some r):Fn PR 48 [wA (Z9 a0),wI a1] (wB r):=Zaci.fn h
inductive Z0r where
 | L0 (E0:A3 Int) (v3:Int)
def Zars(E0:A3 Int)(v3:Int):LT Z0r Bool:=
.br (decide (v3 < 3)) (.idA (Zf.int .i64) (A3.list E0) v3 (bx ((cA3 (cI .i64)) E0)) 0 3 fun x2=>.ldC (Zf.int .i64) 10 x2 0<|.cs (decide (x2 < 0)) (.k5 1<|.kn [0]<|.rt false)<|.k2 1<|.idA (Zf.int .i64) (A3.list E0) v3 (bx ((cA3 (cI .i64)) E0)) 0 3 fun x5=>.kg 1<|.ldC (Zf.int .i64) 15 x5 1<|.k2 1<|.br (decide (x5 > 1000000)) (.rt false)<|.g0 (.L0 E0 (IntKind.wrap .i64 (v3+1))))<|.rt true
def Zaxh(a0:A3 Int):LT Z0r Bool:=
.lb 1001<|.go (.L0 a0 0) [.relab 1001 3000]
def Zait:LF Z0r Bool := .m0 131 [.t 2] wB fun | .L0 E0 v3=>([1,0,1,4],⟨18,[(1,.bptr 3000 0),(3,wI v3)],[(3000,.box (bx ((cA3 (cI .i64)) E0)))]⟩,Zars E0 v3)
def Za7p:=fun a0=>Zait.run (Zaxh a0)
theorem Za7q(a0){r}(h:Za7p a0=some r):Fn PR 131 [wA ((cA3 (cI .i64)) a0)] (wB r):=Zait.fn h
def Zamc(a0:Zg):LT Empty Zg:=
.lb 1001<|.lb 1002<|.rt (⟨a0.Id,a0.Card,a0.Owner,a0.Control,a0.Zone,a0.Token,a0.Tapped,a0.Sick,a0.Deadly,a0.Damage,a0.Counters,a0.Stamp,a0.Copy,-1,false,0,a0.Shield⟩:Zg)
def Zamd:LF Empty Zg := .z0 132 [.c 2 56 true 19] (fun r=>(wA (Zn r)))
def Zaxi:=fun a0=>Zamd.run (Zamc a0)
theorem Za0k(a0){r}(h:Zaxi a0=some r):Fn PR 132 [wA (Zn a0)] (wA (Zn r)):=Zamd.fn h
def Zagv(a0:Zg):LT Empty Zg:=
.lb 1001<|.lb 1002<|.rt (⟨a0.Id,a0.Card,a0.Owner,a0.Control,a0.Zone,a0.Token,a0.Tapped,a0.Sick,false,0,a0.Counters,a0.Stamp,a0.Copy,a0.Attack,a0.Blocked,a0.Blocks,0⟩:Zg)
def Zagw:LF Empty Zg := .z0 133 [.c 2 56 true 19] (fun r=>(wA (Zn r)))
def Zart:=fun a0=>Zagw.run (Zagv a0)
theorem Zaxj(a0){r}(h:Zart a0=some r):Fn PR 133 [wA (Zn a0)] (wA (Zn r)):=Zagw.fn h
def Zaxk(a0:Zg)(a1:Int)(a2:Int):LT Empty Bool:=
.lb 1003<|.cs (decide (a0.Id < 1)) (.k4 0<|.b16 true<|.b8 true<|.b5 true<|.b2 true<|.kn [0]<|.rt false)<|.k4 0<|.cs (decide (a0.Card < 0)) (.k5 1<|.b16 true<|.b8 true<|.b2 true<|.kn [0]<|.rt false)<|.k5 1<|.cs (decide (a0.Card>=a1)) (.k4 2<|.b16 true<|.b5 true<|.kb true<|.kn [0]<|.rt false)<|.k4 2<|.cs (decide (a0.Owner < 0)) (.k5 3<|.b16 true<|.kb true<|.kn [0]<|.rt false)<|.k5 3<|.cs (decide (a0.Owner>=a2)) (.k4 4<|.b8 true<|.b5 true<|.kn [0]<|.rt false)<|.k4 4<|.cs (decide (a0.Control < 0)) (.k5 5<|.b8 true<|.kn [0]<|.rt false)<|.k5 5<|.cs (decide (a0.Control>=a2)) (.k4 6<|.b4 true<|.kn [0]<|.rt false)<|.k4 6<|.cs (decide (a0.Zone < 0)) (.k4 7<|.kn [0]<|.rt false)<|.k4 7<|.br (decide (a0.Zone > 5)) (.rt false)<|.cs (decide (a0.Damage < 0)) (.k4 9<|.b16 true<|.b8 true<|.kn [0]<|.rt false)<|.k4 9<|.cs (decide (a0.Damage > 1000000)) (.k4 10<|.b16 true<|.b4 true<|.kn [0]<|.rt false)<|.k4 10<|.cs (decide (a0.Stamp < 0)) (.k4 11<|.b16 true<|.kn [0]<|.rt false)<|.k4 11<|.cs (decide (a0.Stamp > 1000000)) (.k4 12<|.b8 true<|.b4 true<|.kn [0]<|.rt false)<|.k4 12<|.cs (decide (a0.Blocks < 0)) (.k4 13<|.b8 true<|.kn [0]<|.rt false)<|.k4 13<|.cs (decide (a0.Blocks > 1000000)) (.k4 14<|.b4 true<|.kn [0]<|.rt false)<|.k4 14<|.cs (decide (a0.Shield < 0)) (.k4 15<|.kn [0]<|.rt false)<|.k4 15<|.br (decide (a0.Shield > 1000000)) (.rt false)<|.call (Za7q a0.Counters) fun x18=>.cs (!x18) (.k4 17<|.b8 true<|.b5 true<|.kb true<|.kn [0]<|.rt false)<|.k4 17<|.cs (decide (a0.Copy < (-1))) (.k5 18<|.b8 true<|.kb true<|.kn [0]<|.rt false)<|.k5 18<|.cs (decide (a0.Copy>=a1)) (.k4 19<|.b5 true<|.kn [0]<|.rt false)<|.k4 19<|.cs (decide (a0.Attack < (-1))) (.k5 20<|.kn [0]<|.rt false)<|.k5 20<|.br (decide (a0.Attack>=a2)) (.rt false)<|.cs (a0.Zone==0) (.k8 22<|.k5 22<|.rt true)<|.k3 22<|.call (Za0k a0) fun x26=>.k2 22<|.cs (Zy (Zn a0) (Zn x26)) (.k3 23<|.call (Zaxj a0) fun x29=>.kg 23<|.kg 22<|.kg 23<|.kg 22<|.cs (Zy (Zn a0) (Zn x29)) (.k3 24<|.kg 22<|.kg 24<|.kg 22<|.cs (!a0.Tapped) (.k3 25<|.kg 22<|.kg 25<|.kg 22<|.cs (!a0.Sick) (.k4 26<|.kg 22<|.kg 26<|.kg 22<|.rt (Zy ((cA3 (cI .i64)) a0.Counters) ((cA3 (cI .i64)) (⟨0,0,0⟩:A3 Int))))<|.k4 26<|.kg 22<|.kg 26<|.kg 22<|.rt false)<|.k3 25<|.kg 22<|.kg 25<|.kg 22<|.b4 false<|.kg 22<|.kb false<|.kg 22<|.rt false)<|.k3 24<|.kg 22<|.kg 24<|.kg 22<|.b3 false<|.kg 22<|.kb false<|.kg 22<|.b4 false<|.kg 22<|.kb false<|.kg 22<|.rt false)<|.k4 23<|.kg 22<|.kg 23<|.kg 22<|.b3 false<|.kg 22<|.kb false<|.kg 22<|.b3 false<|.kg 22<|.kb false<|.kg 22<|.b4 false<|.kg 22<|.kb false<|.kg 22<|.rt false
def Zaxl:LF Empty Bool := .z0 83 [.t 6] wB
def Za7r:=fun a0 a1 a2=>Zaxl.run (Zaxk a0 a1 a2)
theorem Za7s(a0)(a1)(a2){r}(h:Za7r a0 a1 a2=some r):Fn PR 83 [wA (Zn a0),wI a1,wI a2] (wB r):=Zaxl.fn h
inductive Zoz where
 | L0 (v1:Int) (E0:Zk) (v5:Int) (v6:Int)
def Z9l(v1:Int)(E0:Zk)(v5:Int)(v6:Int):LT Zoz Int:=
.len Zbl E0.Stack<|.br (decide (v6 < (E0.Stack.length:Int))) (.idx Zbl E0.Stack v6 fun x3=>.cs (x3.Kind==1) (.k4 1<|.ag Zbl x3 0<|.k5 1<|.br (x3.Id==v1) (.g0 (.L0 v1 E0 (IntKind.wrap .i64 (v5+1)) (IntKind.wrap .i64 (v6+1))))<|.g0 (.L0 v1 E0 v5 (IntKind.wrap .i64 (v6+1))))<|.k8 1<|.kg 1<|.kn [0]<|.g0 (.L0 v1 E0 v5 (IntKind.wrap .i64 (v6+1))))<|.rt v5
def Zacj(a0:Zk)(a1:Int):LT Zoz Int:=
.lb 1002<|.go (.L0 a1 a0 0 0) [.relab 1002 3000]
def Z0s:LF Zoz Int := .m0 134 [.t 4] wI fun | .L0 v1 E0 v5 v6=>([1,1,0,1,4],⟨34,[(1,wI v1),(2,.bptr 3000 0),(5,wI v5),(6,wI v6)],[(3000,.box (bx (Z9 E0)))]⟩,Z9l v1 E0 v5 v6)
def Zame:=fun a0 a1=>Z0s.run (Zacj a0 a1)
theorem Zast(a0)(a1){r}(h:Zame a0 a1=some r):Fn PR 134 [wA (Z9 a0),wI a1] (wI r):=Z0s.fn h
def Zamf(a0:List Int):LT Empty (List Int):=
.lb 1003<|.apR (cI .i64) 8 ([]:List Int) a0 fun x1=>.ret x1 [.relab 1003 5000]
def Zamg:LF Empty (List Int) := .z 182 [.t 2] true (fun r=>[(5000,wR (cI .i64) 1 r)]) (fun r=>(wO (cI .i64) 5000 r))
def Zaxm:=fun a0=>Zamg.run (Zamf a0)
theorem Zo0(a0){r}(h:Zaxm a0=some r):FnG PR 182 [] [wL (cI .i64) a0] [(5000,wR (cI .i64) 1 r)] (wO (cI .i64) 5000 r):=Zamg.fn h
def Zamh(a0:Zk)(a1:Int)(a2:Int):LT Empty (List Int):=
.lb 1003<|.br (a1==0) (.callF (Zo0 a0.Battlefield) 130000 fun x2=>.ret x2 [.relab 135000 5000])<|.br (a1==4) (.callF (Zo0 a0.Exile) 180000 fun x5=>.ret x5 [.relab 185000 5000])<|.cs (decide (a2 < 0)) (.k5 2<|.kg 2<|.kn [0]<|.ret ([]:List Int) [.own 6 5000 1])<|.k4 2<|.len Zbc a0.Players<|.k2 2<|.br (decide (a2>=(a0.Players.length:Int))) (.ret ([]:List Int) [.own 6 5000 1])<|.br (a1==1) (.idx Zbc a0.Players a2 fun x11=>.callF (Zo0 x11.Hand) 370000 fun x13=>.ret x13 [.relab 375000 5000])<|.br (a1==2) (.idx Zbc a0.Players a2 fun x16=>.callF (Zo0 x16.Library) 460000 fun x18=>.ret x18 [.relab 465000 5000])<|.br (a1==3) (.idx Zbc a0.Players a2 fun x21=>.callF (Zo0 x21.Graveyard) 550000 fun x23=>.ret x23 [.relab 555000 5000])<|.ret ([]:List Int) [.own 6 5000 1]
def Zami:LF Empty (List Int) := .z 135 [.t 6] true (fun r=>[(5000,wR (cI .i64) 1 r)]) (fun r=>(wO (cI .i64) 5000 r))
def Zaiu:=fun a0 a1 a2=>Zami.run (Zamh a0 a1 a2)
theorem Zaxn(a0)(a1)(a2){r}(h:Zaiu a0 a1 a2=some r):FnG PR 135 [] [wA (Z9 a0),wI a1,wI a2] [(5000,wR (cI .i64) 1 r)] (wO (cI .i64) 5000 r):=Zami.fn h
theorem Za0l(a0:Zk)(a1:Int)(a2:Int){r:List Int}(h:Zaiu a0 a1 a2=some r):Fn PR 135 [wA (Z9 a0),wI a1,wI a2] (wL (cI .i64) r):=
 FnG.frozen (C:=LT.RL (cI .i64) r/\True) (Zaxn a0 a1 a2 h) ⟨rfl,trivial⟩ (by kernel_rfl)
def Zack(a0:Zk)(a1:Zg):LT Empty Bool:=
.lb 1002<|.lb 1003<|.br (a1.Zone==5) (.call (Zast a0 a1.Id) fun x2=>.rt (x2==1))<|.call (Za0l a0 a1.Zone a1.Owner) fun x4=>.call (Z0q x4 a1.Id) fun x6=>.rt (x6==1)
def Zacl:LF Empty Bool := .z0 84 [.t 4] wB
def Zamj:=fun a0 a1=>Zacl.run (Zack a0 a1)
theorem Z9m(a0)(a1){r}(h:Zamj a0 a1=some r):Fn PR 84 [wA (Z9 a0),wA (Zn a1)] (wB r):=Zacl.fn h
inductive Znc where
 | L0 (v0:List Zm) (E0:Zk) (v5:Int)
def Z6l(v0:List Zm)(E0:Zk)(v5:Int):LT Znc Bool:=
.len Zn E0.Objects<|.br (decide (v5 < (E0.Objects.length:Int))) (.idx Zn E0.Objects v5 fun x3=>.lb 1006<|.len Z6 v0<|.len Zbc E0.Players<|.call (Za7s x3 (v0.length:Int) (E0.Players.length:Int)) fun x7=>.cs (!x7) (.k5 1<|.kg 1<|.b8 true<|.b3 true<|.kn [0]<|.rt false)<|.k5 1<|.kg 1<|.cs (decide (x3.Id>=E0.NextId)) (.k5 2<|.kg 2<|.b5 true<|.kn [0]<|.rt false)<|.k5 2<|.kg 2<|.cs (decide (x3.Stamp>=E0.NextStamp)) (.k5 3<|.kn [0]<|.rt false)<|.k3 3<|.cs (decide (v5 > 0)) (.k5 4<|.idx Zn E0.Objects (IntKind.wrap .i64 (v5 - 1)) fun x15=>.k5 4<|.kg 3<|.kg 4<|.kg 3<|.br (decide (x15.Id>=x3.Id)) (.rt false)<|.call (Z9m E0 x3) fun x18=>.br (!x18) (.rt false)<|.g0 (.L0 v0 E0 (IntKind.wrap .i64 (v5+1))))<|.k8 4<|.k2 4<|.kg 3<|.kg 4<|.kg 3<|.kn [0]<|.call (Z9m E0 x3) fun x23=>.br (!x23) (.rt false)<|.g0 (.L0 v0 E0 (IntKind.wrap .i64 (v5+1))))<|.rt true
def Z9n(a0:List Zm)(a1:Zk):LT Znc Bool:=
.lb 1003<|.len Zn a1.Objects<|.br (decide ((a1.Objects.length:Int) > 2048)) (.rt false)<|.go (.L0 a0 a1 0) [.relab 1003 3000]
def Zx0:LF Znc Bool := .m0 49 [.t 4] wB fun | .L0 v0 E0 v5=>([1,1,0,1,4],⟨65,[(0,wL Z6 v0),(3,.bptr 3000 0),(5,wI v5)],[(3000,.box (bx (Z9 E0)))]⟩,Z6l v0 E0 v5)
def Zagx:=fun a0 a1=>Zx0.run (Z9n a0 a1)
theorem Zpw(a0)(a1){r}(h:Zagx a0 a1=some r):Fn PR 49 [wL Z6 a0,wA (Z9 a1)] (wB r):=Zx0.fn h
inductive Zlm where
 | L0 (v0:List Zd) (v1:List Zd) (v5:Int)
def Z29(v0:List Zd)(v1:List Zd)(v5:Int):LT Zlm Bool:=
.len Zl v0<|.br (decide (v5 < (v0.length:Int))) (.idx Zl v0 v5 fun x3=>.idx Zl v1 v5 fun x5=>.br (!(Zy (Zl x3) (Zl x5))) (.rt false)<|.g0 (.L0 v0 v1 (IntKind.wrap .i64 (v5+1))))<|.rt true
def Z6m(a0:List Zd)(a1:List Zd):LT Zlm Bool:=
.len Zl a0<|.len Zl a1<|.br ((a0.length:Int) != (a1.length:Int)) (.rt false)<|.g0 (.L0 a0 a1 0)
def Zu8:LF Zlm Bool := .m0 183 [.t 4] wB fun | .L0 v0 v1 v5=>([1,1,0,1,4],⟨26,[(0,wL Zl v0),(1,wL Zl v1),(5,wI v5)],[]⟩,Z29 v0 v1 v5)
def Zacm:=fun a0 a1=>Zu8.run (Z6m a0 a1)
theorem Z3a(a0)(a1){r}(h:Zacm a0 a1=some r):Fn PR 183 [wL Zl a0,wL Zl a1] (wB r):=Zu8.fn h
def Zamk(a0:Zs)(a1:Zs):LT Empty Bool:=
.lb 1002<|.lb 1003<|.cs (a0.Op==a1.Op) (.k5 0<|.kg 0<|.cs (Zy (Zdf a0.Ref) (Zdf a1.Ref)) (.k5 1<|.kg 1<|.cs (Zy (Zaq a0.Amount) (Zaq a1.Amount)) (.k5 2<|.kg 2<|.cs (a0.Counter==a1.Counter) (.k5 3<|.kg 3<|.cs (a0.Zone==a1.Zone) (.k5 4<|.kg 4<|.cs (a0.Card==a1.Card) (.k5 5<|.kg 5<|.cs (Zy (Zo a0.Filter) (Zo a1.Filter)) (.k5 6<|.kg 6<|.cs (Zy ((cA6 (cI .i64)) a0.Pool) ((cA6 (cI .i64)) a1.Pool)) (.k5 7<|.call (Z3a a0.Mods a1.Mods) fun x9=>.kg 7<|.rt x9)<|.k5 7<|.kg 7<|.rt false)<|.k5 6<|.kg 6<|.b5 false<|.kb false<|.rt false)<|.k5 5<|.kg 5<|.b8 false<|.b4 false<|.rt false)<|.k5 4<|.kg 4<|.b16 false<|.b2 false<|.rt false)<|.k5 3<|.kg 3<|.b16 false<|.b8 false<|.rt false)<|.k5 2<|.kg 2<|.b16 false<|.b8 false<|.b5 false<|.kb false<|.rt false)<|.k5 1<|.kg 1<|.b16 false<|.b16 false<|.b4 false<|.rt false)<|.k5 0<|.kg 0<|.b16 false<|.b16 false<|.b8 false<|.b2 false<|.rt false
def Zaml:LF Empty Bool := .z0 230 [.t 4] wB
def Zaxo:=fun a0 a1=>Zaml.run (Zamk a0 a1)
theorem Za0m(a0)(a1){r}(h:Zaxo a0 a1=some r):Fn PR 230 [wA (Zq a0),wA (Zq a1)] (wB r):=Zaml.fn h
inductive Zln where
 | L0 (v0:List Zs) (v1:List Zs) (v5:Int)
def Z3b(v0:List Zs)(v1:List Zs)(v5:Int):LT Zln Bool:=
.len Zq v0<|.br (decide (v5 < (v0.length:Int))) (.idx Zq v0 v5 fun x3=>.idx Zq v1 v5 fun x5=>.call (Za0m x3 x5) fun x7=>.br (!x7) (.rt false)<|.g0 (.L0 v0 v1 (IntKind.wrap .i64 (v5+1))))<|.rt true
def Z6n(a0:List Zs)(a1:List Zs):LT Zln Bool:=
.len Zq a0<|.len Zq a1<|.br ((a0.length:Int) != (a1.length:Int)) (.rt false)<|.g0 (.L0 a0 a1 0)
def Zu9:LF Zln Bool := .m0 184 [.t 4] wB fun | .L0 v0 v1 v5=>([1,1,0,1,4],⟨27,[(0,wL Zq v0),(1,wL Zq v1),(5,wI v5)],[]⟩,Z3b v0 v1 v5)
def Zacn:=fun a0 a1=>Zu9.run (Z6n a0 a1)
theorem Zamm(a0)(a1){r}(h:Zacn a0 a1=some r):Fn PR 184 [wL Zq a0,wL Zq a1] (wB r):=Zu9.fn h
inductive Ztk where
 | L0 (E0:Zh) (E1:Zh) (v5:Int)
def Zagy(E0:Zh)(E1:Zh)(v5:Int):LT Ztk Bool:=
.len Zad E0.Specs<|.br (decide (v5 < (E0.Specs.length:Int))) (.idx Zad E0.Specs v5 fun x3=>.idx Zad E1.Specs v5 fun x5=>.br (!(Zy (Zad x3) (Zad x5))) (.rt false)<|.g0 (.L0 E0 E1 (IntKind.wrap .i64 (v5+1))))<|.cs (E0.Kind==E1.Kind) (.k5 1<|.kg 1<|.cs (Zy (Zo E0.Filter) (Zo E1.Filter)) (.k5 2<|.call (Z3a E0.Mods E1.Mods) fun x12=>.kg 2<|.cs x12 (.k5 3<|.kg 3<|.cs (Zy (Zdk E0.Price) (Zdk E1.Price)) (.k5 4<|.kg 4<|.cs (E0.Slow==E1.Slow) (.k5 5<|.kg 5<|.cs (Zy (Zb8 E0.Trigger) (Zb8 E1.Trigger)) (.k5 6<|.kg 6<|.cs (E0.May==E1.May) (.k5 7<|.call (Zamm E0.Effects E1.Effects) fun x19=>.kg 7<|.cs x19 (.k5 8<|.kg 8<|.rt (Zy (Zbh E0.Replace) (Zbh E1.Replace)))<|.k5 8<|.kg 8<|.rt false)<|.k5 7<|.kg 7<|.b5 false<|.kb false<|.rt false)<|.k5 6<|.kg 6<|.b8 false<|.b4 false<|.rt false)<|.k5 5<|.kg 5<|.b16 false<|.b2 false<|.rt false)<|.k5 4<|.kg 4<|.b16 false<|.b8 false<|.rt false)<|.k5 3<|.kg 3<|.b16 false<|.b8 false<|.b5 false<|.kb false<|.rt false)<|.k5 2<|.kg 2<|.b16 false<|.b16 false<|.b4 false<|.rt false)<|.k5 1<|.kg 1<|.b16 false<|.b16 false<|.b8 false<|.b2 false<|.rt false
def Zamn(a0:Zh)(a1:Zh):LT Ztk Bool:=
.lb 1002<|.lb 1003<|.len Zad a0.Specs<|.len Zad a1.Specs<|.br ((a0.Specs.length:Int) != (a1.Specs.length:Int)) (.rt false)<|.go (.L0 a0 a1 0) [.relab 1002 3000,.relab 1003 3001]
def Z8a:LF Ztk Bool := .m0 136 [.t 4] wB fun | .L0 E0 E1 v5=>([1,1,0,1,4],⟨92,[(2,.bptr 3000 0),(3,.bptr 3001 0),(5,wI v5)],[(3000,.box (bx (Zj E0))),(3001,.box (bx (Zj E1)))]⟩,Zagy E0 E1 v5)
def Zaxp:=fun a0 a1=>Z8a.run (Zamn a0 a1)
theorem Za0n(a0)(a1){r}(h:Zaxp a0 a1=some r):Fn PR 136 [wA (Zj a0),wA (Zj a1)] (wB r):=Z8a.fn h
def Zamo(a0:Zk)(a1:Zmw):LT Empty Bool:=
.lb 1002<|.lb 1003<|.call (Ze8 a1.Id 1 (IntKind.wrap .i64 (a0.NextId - 1))) fun x3=>.cs (!x3) (.k5 0<|.b8 true<|.b3 true<|.kn [0]<|.rt false)<|.k3 0<|.call (Ze8 a1.X 0 1000000) fun x6=>.k2 0<|.cs (!x6) (.k5 1<|.b5 true<|.kb true<|.kn [0]<|.rt false)<|.k3 1<|.len Zos a1.Targets<|.k2 1<|.cs (decide ((a1.Targets.length:Int) > 4)) (.k5 2<|.kg 2<|.kn [0]<|.rt false)<|.k4 2<|.call (Zh7 a0 a1.Control) fun x11=>.k2 2<|.br (!x11) (.rt false)<|.call (Z9j a0 a1.Id) fun x14=>.lb 1005<|.br (a1.Kind==1) (.call (Za0n a1.Ability (⟨0,(⟨0,0,0,0,0,0,0,([]:By),0,0,(⟨0,0⟩:Za),(⟨0,0⟩:Za),(⟨0,0⟩:Za)⟩:Ze),([]:List Zd),(⟨(⟨0,0,(⟨0,0,0,0,0⟩:A5 Int)⟩:Zt),false,false,0⟩:Zhn),false,(⟨0,0,(⟨0,0,0,0,0,0,0,([]:By),0,0,(⟨0,0⟩:Za),(⟨0,0⟩:Za),(⟨0,0⟩:Za)⟩:Ze)⟩:Zcs),false,([]:List Za9),([]:List Zs),(⟨0,0,(⟨0,0,0,0,0,0,0,([]:By),0,0,(⟨0,0⟩:Za),(⟨0,0⟩:Za),(⟨0,0⟩:Za)⟩:Ze),0,0,0,0⟩:Za6)⟩:Zh)) fun x17=>.cs (a1.Source==a1.Id) (.k2 5<|.cs x14.2 (.k4 6<|.cs (x14.1.Zone==5) (.k2 7<|.cs x17 (.k3 8<|.kg 7<|.kg 8<|.kg 7<|.rt true)<|.k3 8<|.call (Z28 a1.Ability) fun x23=>.kg 7<|.kg 8<|.kg 7<|.rt x23)<|.k4 7<|.rt false)<|.k4 6<|.b4 false<|.rt false)<|.k2 5<|.b8 false<|.rt false)<|.cs (a1.Kind==2) (.k3 5<|.cs (!x14.2) (.k3 6<|.call (Z28 a1.Ability) fun x27=>.kg 6<|.rt x27)<|.k4 6<|.rt false)<|.k3 5<|.b4 false<|.rt false
def Zamp:LF Empty Bool := .z0 85 [.t 4] wB
def Zaxq:=fun a0 a1=>Zamp.run (Zamo a0 a1)
theorem Za0o(a0)(a1){r}(h:Zaxq a0 a1=some r):Fn PR 85 [wA (Z9 a0),wA (Zbl a1)] (wB r):=Zamp.fn h
inductive Z0t where
 | L0 (v0:List Int) (v3:Int)
def Zaru(v0:List Int)(v3:Int):LT Z0t Bool:=
.len (cI .i64) v0<|.br (decide (v3 < (v0.length:Int))) (.idx (cI .i64) v0 (IntKind.wrap .i64 (v3 - 1)) fun x5=>.idx (cI .i64) v0 v3 fun x7=>.br (decide (x5>=x7)) (.rt false)<|.g0 (.L0 v0 (IntKind.wrap .i64 (v3+1))))<|.rt true
def Zaxr(a0:List Int):LT Z0t Bool:=
.g0 (.L0 a0 1)
def Zaiv:LF Z0t Bool := .m0 86 [.t 2] wB fun | .L0 v0 v3=>([1,0,1,4],⟨20,[(0,wL (cI .i64) v0),(3,wI v3)],[]⟩,Zaru v0 v3)
def Za7t:=fun a0=>Zaiv.run (Zaxr a0)
theorem Za7u(a0){r}(h:Za7t a0=some r):Fn PR 86 [wL (cI .i64) a0] (wB r):=Zaiv.fn h
inductive Zi3 where
 | L0 (E0:Zk) (v3:Int)
 | L1 (E0:Zk) (v3:Int) (v4:Int)
 | L2 (E0:Zk) (v5:Int)
 | L3 (E0:Zk) (v7:Int)
def Zaco(E0:Zk)(v3:Int):LT Zi3 Bool:=
.len Zbl E0.Stack<|.br (decide (v3 < (E0.Stack.length:Int))) (.idx Zbl E0.Stack v3 fun x3=>.call (Za0o E0 x3) fun x5=>.br (!x5) (.rt false)<|.g0 (.L1 E0 v3 0))<|.g0 (.L2 E0 0)
def Zacp(E0:Zk)(v3:Int)(v4:Int):LT Zi3 Bool:=
.br (decide (v4 < v3)) (.idx Zbl E0.Stack v4 fun x2=>.idx Zbl E0.Stack v3 fun x4=>.br (x2.Id==x4.Id) (.rt false)<|.g0 (.L1 E0 v3 (IntKind.wrap .i64 (v4+1))))<|.g0 (.L0 E0 (IntKind.wrap .i64 (v3+1)))
def Zacq(E0:Zk)(v5:Int):LT Zi3 Bool:=
.len Zbn E0.Waiting<|.br (decide (v5 < (E0.Waiting.length:Int))) (.idx Zbn E0.Waiting v5 fun x3=>.lb 1006<|.call (Zh7 E0 x3.Control) fun x5=>.cs (!x5) (.k5 1<|.b5 true<|.kn [0]<|.rt false)<|.k5 1<|.cs (x3.Ability.Kind != 4) (.k5 2<|.kn [0]<|.rt false)<|.k3 2<|.call (Z28 x3.Ability) fun x9=>.k2 2<|.br (!x9) (.rt false)<|.g0 (.L2 E0 (IntKind.wrap .i64 (v5+1))))<|.g0 (.L3 E0 0)
def Zacr(E0:Zk)(v7:Int):LT Zi3 Bool:=
.len Zam E0.Conts<|.br (decide (v7 < (E0.Conts.length:Int))) (.idx Zam E0.Conts v7 fun x3=>.lb 1008<|.call (Zh7 E0 x3.Control) fun x5=>.cs (!x5) (.k5 1<|.kg 1<|.b8 true<|.b5 true<|.b2 true<|.kn [0]<|.rt false)<|.k5 1<|.kg 1<|.cs (decide (x3.Stamp>=E0.NextStamp)) (.k5 2<|.b8 true<|.b2 true<|.kn [0]<|.rt false)<|.k3 2<|.call (Ze8 x3.Until 1 2) fun x9=>.k2 2<|.cs (!x9) (.k5 3<|.b5 true<|.kn [0]<|.rt false)<|.k3 3<|.call (Za7u x3.Objects) fun x12=>.k2 3<|.cs (!x12) (.k5 4<|.kn [0]<|.rt false)<|.k3 4<|.call (Zte x3.Mods) fun x15=>.k2 4<|.br (x15==([]:By)) (.rt false)<|.g0 (.L3 E0 (IntKind.wrap .i64 (v7+1))))<|.rt true
def Zagz(a0:Zk):LT Zi3 Bool:=
.lb 1001<|.len Zbl a0.Stack<|.cs (decide ((a0.Stack.length:Int) > 64)) (.k5 0<|.b5 true<|.kn [0]<|.rt false)<|.k3 0<|.len Zbn a0.Waiting<|.k2 0<|.cs (decide ((a0.Waiting.length:Int) > 64)) (.k5 1<|.kn [0]<|.rt false)<|.k3 1<|.len Zam a0.Conts<|.k2 1<|.br (decide ((a0.Conts.length:Int) > 64)) (.rt false)<|.go (.L0 a0 0) [.relab 1001 3000]
def Zn0:LF Zi3 Bool := .m0 50 [.t 2] wB fun | .L0 E0 v3=>([1,1,0,1,4],⟨129,[(1,.bptr 3000 0),(3,wI v3)],[(3000,.box (bx (Z9 E0)))]⟩,Zaco E0 v3) | .L1 E0 v3 v4=>([1,1,0,1,4,5,1,0,4,1,1,4],⟨129,[(1,.bptr 3000 0),(3,wI v3),(4,wI v4)],[(3000,.box (bx (Z9 E0)))]⟩,Zacp E0 v3 v4) | .L2 E0 v5=>([1,1,1,0,1,4],⟨129,[(1,.bptr 3000 0),(5,wI v5)],[(3000,.box (bx (Z9 E0)))]⟩,Zacq E0 v5) | .L3 E0 v7=>([1,1,1,1,0,1,4],⟨129,[(1,.bptr 3000 0),(7,wI v7)],[(3000,.box (bx (Z9 E0)))]⟩,Zacr E0 v7)
def Zarv:=fun a0=>Zn0.run (Zagz a0)
theorem Ztl(a0){r}(h:Zarv a0=some r):Fn PR 50 [wA (Z9 a0)] (wB r):=Zn0.fn h
inductive Z0u where
 | L0 (v0:List Zm) (E0:Zk) (v5:Int)
def Zarw(v0:List Zm)(E0:Zk)(v5:Int):LT Z0u Bool:=
.len (cI .i64) E0.Extra<|.br (decide (v5 < (E0.Extra.length:Int))) (.idx (cI .i64) E0.Extra v5 fun x3=>.call (Zh7 E0 x3) fun x5=>.br (!x5) (.rt false)<|.g0 (.L0 v0 E0 (IntKind.wrap .i64 (v5+1))))<|.cs (E0.Over==1) (.k4 1<|.call (Zh7 E0 E0.Winner) fun x11=>.k2 1<|.cs (!x11) (.k5 2<|.kg 2<|.kn [0]<|.rt false)<|.k4 2<|.cs (E0.Over != 1) (.k3 3<|.kg 2<|.kg 3<|.kg 2<|.br (E0.Winner != (-1)) (.rt false)<|.call (Zpw v0 E0) fun x16=>.cs x16 (.k2 5<|.call (Ztl E0) fun x19=>.kg 5<|.rt x19)<|.k3 5<|.rt false)<|.k3 3<|.kg 2<|.kg 3<|.kg 2<|.kn [0]<|.call (Zpw v0 E0) fun x21=>.cs x21 (.k2 4<|.call (Ztl E0) fun x24=>.kg 4<|.rt x24)<|.k3 4<|.rt false)<|.k5 1<|.kg 1<|.b4 false<|.cs (E0.Over != 1) (.k3 2<|.kb false<|.kg 2<|.kb false<|.br (E0.Winner != (-1)) (.rt false)<|.call (Zpw v0 E0) fun x28=>.cs x28 (.k2 4<|.call (Ztl E0) fun x31=>.kg 4<|.rt x31)<|.k3 4<|.rt false)<|.k3 2<|.kb false<|.kg 2<|.kb false<|.kn [0]<|.call (Zpw v0 E0) fun x33=>.cs x33 (.k2 3<|.call (Ztl E0) fun x36=>.kg 3<|.rt x36)<|.k3 3<|.rt false
def Zaxs(a0:List Zm)(a1:Zk):LT Z0u Bool:=
.lb 1003<|.call (Ze8 a1.NextId 1 1000000) fun x1=>.cs (!x1) (.k5 0<|.b8 true<|.b5 true<|.b2 true<|.kn [0]<|.rt false)<|.k3 0<|.call (Ze8 a1.NextStamp 1 1000000) fun x4=>.k2 0<|.cs (!x4) (.k5 1<|.b8 true<|.b2 true<|.kn [0]<|.rt false)<|.k3 1<|.call (Ze8 a1.Turn 0 500) fun x7=>.k2 1<|.cs (!x7) (.k5 2<|.b5 true<|.kn [0]<|.rt false)<|.k3 2<|.call (Ze8 a1.Step 0 10) fun x10=>.k2 2<|.cs (!x10) (.k5 3<|.kn [0]<|.rt false)<|.k3 3<|.len Zn a1.Objects<|.k2 3<|.br (decide ((a1.Objects.length:Int) > 2048)) (.rt false)<|.call (Zao1 a1) fun x15=>.cs (!x15) (.k5 5<|.kg 5<|.b16 true<|.b8 true<|.kn [0]<|.rt false)<|.k4 5<|.call (Zh7 a1 a1.Active) fun x18=>.k2 5<|.cs (!x18) (.k5 6<|.kg 6<|.b16 true<|.b2 true<|.kn [0]<|.rt false)<|.k4 6<|.call (Zh7 a1 a1.Priority) fun x21=>.k2 6<|.cs (!x21) (.k8 7<|.b8 true<|.b2 true<|.kn [0]<|.rt false)<|.k5 7<|.len Zbc a1.Players<|.kg 7<|.call (Ze8 a1.Passes 0 (a1.Players.length:Int)) fun x25=>.k2 7<|.cs (!x25) (.k5 8<|.b5 true<|.kn [0]<|.rt false)<|.k3 8<|.len (cI .i64) a1.Extra<|.k2 8<|.cs (decide ((a1.Extra.length:Int) > 500)) (.k5 9<|.kn [0]<|.rt false)<|.k3 9<|.call (Ze8 a1.Over 0 2) fun x30=>.k2 9<|.br (!x30) (.rt false)<|.go (.L0 a0 a1 0) [.relab 1003 3000]
def Zaiw:LF Z0u Bool := .m0 29 [.t 4] wB fun | .L0 v0 E0 v5=>([1,1,1,0,1,4],⟨114,[(0,wL Z6 v0),(3,.bptr 3000 0),(5,wI v5)],[(3000,.box (bx (Z9 E0)))]⟩,Zarw v0 E0 v5)
def Za7v:=fun a0 a1=>Zaiw.run (Zaxs a0 a1)
theorem Za7w(a0)(a1){r}(h:Za7v a0 a1=some r):Fn PR 29 [wL Z6 a0,wA (Z9 a1)] (wB r):=Zaiw.fn h
def Zag0(a0:List Zm)(a1:Zk):LT Empty Bool:=
.lb 1003<|.call (Zaxa a0) fun x1=>.cs (x1.2==0) (.k3 0<|.call (Za7w a0 a1) fun x4=>.kg 0<|.rt x4)<|.k4 0<|.rt false
def Zag1:LF Empty Bool := .z0 10 [.t 4] wB
def Zarx:=fun a0 a1=>Zag1.run (Zag0 a0 a1)
theorem Zaxt(a0)(a1){r}(h:Zarx a0 a1=some r):Fn PR 10 [wL Z6 a0,wA (Z9 a1)] (wB r):=Zag1.fn h
inductive Z45 where
 | L0 (v0:List Zg) (E0:Zk) (E1:Zk) (v4:Int)
def Zaxu(v0:List Zg)(E0:Zk)(E1:Zk)(v4:Int):LT Z45 Zk:=
.len Zn v0<|.br (decide (v4 < (v0.length:Int))) (.idx Zn v0 v4 fun x3=>.lb 1005<|.dr [.lit]<|.apR Zn 128 E1.Objects [(⟨IntKind.wrap .i64 (v4+1),x3.Card,x3.Owner,x3.Control,x3.Zone,x3.Token,x3.Tapped,x3.Sick,x3.Deadly,x3.Damage,x3.Counters,IntKind.wrap .i64 (v4+1),-1,-1,x3.Blocked,x3.Blocks,x3.Shield⟩:Zg)] fun x7=>.dr [.lit]<|.apR (cI .i64) 8 E1.Battlefield [IntKind.wrap .i64 (v4+1)] fun x10=>.g0 (.L0 v0 E0 (⟨E1.Players,x7,x10,E1.Exile,E1.Stack,E1.Waiting,E1.Conts,E1.Turn,E1.Active,E1.Step,E1.Begun,E1.Priority,E1.Passes,E1.NextId,E1.NextStamp,E1.Seed,E1.Extra,E1.Over,E1.Winner⟩:Zk) (IntKind.wrap .i64 (v4+1))))<|.ret E1 [.relab 40101 5001,.relab 40102 5002,.relab 40103 5003,.relab 40104 5004,.relab 40105 5005,.relab 40106 5006,.relab 40116 5016]
def Za0p(a0:List Zg):LT Z45 Zk:=
.lb 1002<|.dr [.lit]<|.len Zn a0<|.len Zn a0<|.lb 1003<|.go (.L0 a0 (⟨([]:List Zkf),([]:List Zg),([]:List Int),([]:List Int),([]:List Zmw),([]:List Zkw),([]:List Zav),0,0,0,false,0,0,0,0,0,([]:List Int),0,0⟩:Zk) (⟨[(⟨20,0,0,(⟨0,0,0,0,0,0⟩:A6 Int),false,false,([]:List Int),([]:List Int),([]:List Int)⟩:Zkf),(⟨20,0,0,(⟨0,0,0,0,0,0⟩:A6 Int),false,false,([]:List Int),([]:List Int),([]:List Int)⟩:Zkf)],([]:List Zg),([]:List Int),([]:List Int),([]:List Zmw),([]:List Zkw),([]:List Zav),1,0,3,true,0,0,IntKind.wrap .i64 ((a0.length:Int)+1),IntKind.wrap .i64 ((a0.length:Int)+1),0,([]:List Int),0,-1⟩:Zk) 0) [.relab 1002 3000,.relab 1003 3001,.ownb 3000 0 40000 14,.ownb 3000 1 40001 19,.ownb 3000 2 40002 1,.ownb 3000 3 40003 1,.ownb 3000 4 40004 94,.ownb 3000 5 40005 89,.ownb 3000 6 40006 6,.ownb 3000 16 40016 1,.ownb 3001 1 40101 19,.ownb 3001 2 40102 1,.ownb 3001 3 40103 1,.ownb 3001 4 40104 94,.ownb 3001 5 40105 89,.ownb 3001 6 40106 6,.ownb 3001 16 40116 1]
def Zag2:LF Z45 Zk := .m 30 [.c 2 31 true 19] true (fun r=>(tm16 r 5000)) (fun r=>(.agg (tm9 r 5000))) fun | .L0 v0 E0 E1 v4=>([1,1,0,1,4],⟨48,[(0,wL Zn v0),(2,.bptr 3000 0),(3,.bptr 3001 0),(4,wI v4)],((3000,.box [wO Zbc 40000 E0.Players,wO Zn 40001 E0.Objects,wO (cI .i64) 40002 E0.Battlefield,wO (cI .i64) 40003 E0.Exile,wO Zbl 40004 E0.Stack,wO Zbn 40005 E0.Waiting,wO Zam 40006 E0.Conts,wI E0.Turn,wI E0.Active,wI E0.Step,wB E0.Begun,wI E0.Priority,wI E0.Passes,wI E0.NextId,wI E0.NextStamp,.t (.int .u64 E0.Seed),wO (cI .i64) 40016 E0.Extra,wI E0.Over,wI E0.Winner])::(40000,wR Zbc 14 E0.Players)::(40001,wR Zn 19 E0.Objects)::(40002,wR (cI .i64) 1 E0.Battlefield)::(40003,wR (cI .i64) 1 E0.Exile)::(40004,wR Zbl 94 E0.Stack)::(40005,wR Zbn 89 E0.Waiting)::(40006,wR Zam 6 E0.Conts)::(40016,wR (cI .i64) 1 E0.Extra)::(3001,.box (tm9 E1 40100))::(tm16 E1 40100))⟩,Zaxu v0 E0 E1 v4)
def Zary:=fun a0=>Zag2.run (Za0p a0)
theorem Zasu(a0){r}(h:Zary a0=some r):FnG PR 30 [] [wL Zn a0] (tm16 r 5000) (.agg (tm9 r 5000)):=Zag2.fn h
theorem Zaxv(a0:List Zg){r:Zk}(h:Zary a0=some r):Fn PR 30 [wL Zn a0] (wA (Z9 r)):=
 FnG.frozen (C:=LT.RL Zn r.Objects/\LT.RL (cI .i64) r.Battlefield/\LT.RL (cI .i64) r.Exile/\LT.RL Zbl r.Stack/\LT.RL Zbn r.Waiting/\LT.RL Zam r.Conts/\LT.RL (cI .i64) r.Extra/\True) (Zasu a0 h) ⟨rfl,rfl,rfl,rfl,rfl,rfl,rfl,trivial⟩ (by kernel_rfl)
inductive Zo1 where
 | L0 (E0:Zt) (v6:A5 Int) (v7:Int)
def Zpx(E0:Zt)(v6:A5 Int)(v7:Int):LT Zo1 Bool:=
.br (decide (v7 < 5)) (.idX (Zf.int .i64) (A5.list v6) v7 fun x2=>.cs (decide (x2 < 0)) (.k3 1<|.kn [0]<|.rt false)<|.k3 1<|.br (decide (x2 > 9)) (.rt false)<|.g0 (.L0 E0 v6 (IntKind.wrap .i64 (v7+1))))<|.cs (decide (E0.Generic>=0)) (.k4 1<|.cs (decide (E0.Generic<=99)) (.k4 2<|.cs (decide (E0.X>=0)) (.k4 3<|.rt (decide (E0.X<=2)))<|.k4 3<|.rt false)<|.k4 2<|.b4 false<|.rt false)<|.k4 1<|.b8 false<|.rt false
def Zacs(a0:Zt):LT Zo1 Bool:=
.lb 1001<|.go (.L0 a0 a0.Color 0) [.relab 1001 3000]
def Zsm:LF Zo1 Bool := .m0 139 [.t 2] wB fun | .L0 E0 v6 v7=>([1,0,1,4],⟨35,[(1,.bptr 3000 0),(6,wA ((cA5 (cI .i64)) v6)),(7,wI v7)],[(3000,.box (bx (Zah E0)))]⟩,Zpx E0 v6 v7)
def Zael:=fun a0=>Zsm.run (Zacs a0)
theorem Zamq(a0){r}(h:Zael a0=some r):Fn PR 139 [wA (Zah a0)] (wB r):=Zsm.fn h
inductive Znd where
 | L0 (v3:Int) (v16:A5 Int) (v17:Int)
def Z6o(v3:Int)(v16:A5 Int)(v17:Int):LT Znd Int:=
.br (decide (v17 < 5)) (.idX (Zf.int .i64) (A5.list v16) v17 fun x2=>.br (decide (x2 > 0)) (.ok (¬ v17 < 0)<|.g0 (.L0 (Zay .or .i64 v3 (Z0a .i64 1 v17)) v16 (IntKind.wrap .i64 (v17+1))))<|.g0 (.L0 v3 v16 (IntKind.wrap .i64 (v17+1))))<|.rt v3
def Z9o(a0:Zt):LT Znd Int:=
.lb 1001<|.call (Zamq a0) fun x1=>.cs (!x1) (.k5 0<|.kn [0]<|.rt 0)<|.k5 0<|.br (Zy ((cA5 (cI .i64)) a0.Color) ((cA5 (cI .i64)) (⟨0,0,0,0,0⟩:A5 Int))) (.rt 0)<|.g0 (.L0 0 a0.Color 0)
def Zx1:LF Znd Int := .m0 88 [.t 2] wI fun | .L0 v3 v16 v17=>([1,1,1,0,1,4],⟨29,[(3,wI v3),(16,wA ((cA5 (cI .i64)) v16)),(17,wI v17)],[]⟩,Z6o v3 v16 v17)
def Zag3:=fun a0=>Zx1.run (Z9o a0)
theorem Zao2(a0){r}(h:Zag3 a0=some r):Fn PR 88 [wA (Zah a0)] (wI r):=Zx1.fn h
def Zf7(a0:Bys)(hne:a0≠[]):LT Empty (Bys):=
.ne cS hne<|.kn [0]<|.lb 1005<|.apR cS 16 ([]:Bys) a0 fun x1=>.ret x1 [.relab 1005 5000]
def Zbi:LF Empty (Bys) := .z 89 [.t 2] true (fun r=>[(5000,wR cS 1 r)]) (fun r=>(wO cS 5000 r))
def Zdv(c:Nat):LT Empty (Bys):=
.kn [0]<|.ret ([]:Bys) [.own 2 5000 1]
def Zr1(c:Nat)(ad:Addr):LT Empty (Bys):=
.kn [0]<|.lb 1005<|.apR cS 16 ([]:Bys) ([]:Bys) fun x1=>.ret x1 [.relab 1005 5000]
open Classical in
def Zej(a0:Bys):Option (Bys):=if h:a0≠[] then Zbi.run (Zf7 a0 h) else Zbi.run (Zdv 0)
theorem Zfm(a0:Bys){r:Bys}(h:Zej a0=some r):FnG PR 89 [] [wL cS a0] [(5000,wR cS 1 r)] (wO cS 5000 r):=by
 by_cases hne:a0=[]
 .subst hne
  have h0:Zbi.run (Zdv 0)=some r:=h
  exact FnG.split0 (fun e=>absurd rfl e) (fun _ a c=>by
   cases a with
   | none=>exact Zbi.fn (t:=Zdv c) h0
   | some ad=>exact Zbi.fn (t:=Zr1 c ad) h0)
 .have h0:Zbi.run (Zf7 a0 hne)=some r:=by unfold Zej at h;rwa [dif_pos hne] at h
  exact FnG.split0 (fun _=>Zbi.fn h0) (fun e=>absurd (List.map_eq_nil_iff.1 e) hne)
def Zfn(a0:List Zd)(hne:a0≠[]):LT Empty (List Zd):=
.ne Zl hne<|.kn [0]<|.lb 1005<|.apR Zl 176 ([]:List Zd) a0 fun x1=>.ret x1 [.relab 1005 5000]
def Zbg:LF Empty (List Zd) := .z 32 [.t 2] true (fun r=>[(5000,wR Zl 20 r)]) (fun r=>(wO Zl 5000 r))
def Zdi(c:Nat):LT Empty (List Zd):=
.kn [0]<|.ret ([]:List Zd) [.own 2 5000 20]
def Zqh(c:Nat)(ad:Addr):LT Empty (List Zd):=
.kn [0]<|.lb 1005<|.apR Zl 176 ([]:List Zd) ([]:List Zd) fun x1=>.ret x1 [.relab 1005 5000]
open Classical in
def Zct(a0:List Zd):Option (List Zd):=if h:a0≠[] then Zbg.run (Zfn a0 h) else Zbg.run (Zdi 0)
theorem Zh1(a0:List Zd){r:List Zd}(h:Zct a0=some r):FnG PR 32 [] [wL Zl a0] [(5000,wR Zl 20 r)] (wO Zl 5000 r):=by
 by_cases hne:a0=[]
 .subst hne
  have h0:Zbg.run (Zdi 0)=some r:=h
  exact FnG.split0 (fun e=>absurd rfl e) (fun _ a c=>by
   cases a with
   | none=>exact Zbg.fn (t:=Zdi c) h0
   | some ad=>exact Zbg.fn (t:=Zqh c ad) h0)
 .have h0:Zbg.run (Zfn a0 hne)=some r:=by unfold Zct at h;rwa [dif_pos hne] at h
  exact FnG.split0 (fun _=>Zbg.fn h0) (fun e=>absurd (List.map_eq_nil_iff.1 e) hne)
theorem Zcb(a0:List Zd){r:List Zd}(h:Zct a0=some r):Fn PR 32 [wL Zl a0] (wL Zl r):=
 FnG.frozen (C:=LT.RL Zl r/\True) (Zh1 a0 h) ⟨rfl,trivial⟩ (by kernel_rfl)
def Zes(a0:List Za9)(hne:a0≠[]):LT Empty (List Za9):=
.ne Zad hne<|.kn [0]<|.lb 1005<|.apR Zad 144 ([]:List Za9) a0 fun x1=>.ret x1 [.relab 1005 5000]
def Zbb:LF Empty (List Za9) := .z 140 [.t 2] true (fun r=>[(5000,wR Zad 18 r)]) (fun r=>(wO Zad 5000 r))
def Zc4(c:Nat):LT Empty (List Za9):=
.kn [0]<|.ret ([]:List Za9) [.own 2 5000 18]
def Zo2(c:Nat)(ad:Addr):LT Empty (List Za9):=
.kn [0]<|.lb 1005<|.apR Zad 144 ([]:List Za9) ([]:List Za9) fun x1=>.ret x1 [.relab 1005 5000]
open Classical in
def Zcj(a0:List Za9):Option (List Za9):=if h:a0≠[] then Zbb.run (Zes a0 h) else Zbb.run (Zc4 0)
theorem Zg9(a0:List Za9){r:List Za9}(h:Zcj a0=some r):FnG PR 140 [] [wL Zad a0] [(5000,wR Zad 18 r)] (wO Zad 5000 r):=by
 by_cases hne:a0=[]
 .subst hne
  have h0:Zbb.run (Zc4 0)=some r:=h
  exact FnG.split0 (fun e=>absurd rfl e) (fun _ a c=>by
   cases a with
   | none=>exact Zbb.fn (t:=Zc4 c) h0
   | some ad=>exact Zbb.fn (t:=Zo2 c ad) h0)
 .have h0:Zbb.run (Zes a0 hne)=some r:=by unfold Zcj at h;rwa [dif_pos hne] at h
  exact FnG.split0 (fun _=>Zbb.fn h0) (fun e=>absurd (List.map_eq_nil_iff.1 e) hne)
theorem Zo3(a0:List Za9){r:List Za9}(h:Zcj a0=some r):Fn PR 140 [wL Zad a0] (wL Zad r):=
 FnG.frozen (C:=LT.RL Zad r/\True) (Zg9 a0 h) ⟨rfl,trivial⟩ (by kernel_rfl)
def Zd0(a0:List Zs)(hne:a0≠[]):LT Empty (List Zs):=
.ne Zq hne<|.kn [0]<|.lb 1005<|.apR Zq 560 ([]:List Zs) a0 fun x1=>.ret x1 [.relab 1005 5000]
def Za1:LF Empty (List Zs) := .z 141 [.t 2] true (fun r=>[(5000,wR Zq 64 r)]) (fun r=>(wO Zq 5000 r))
def Zcg(c:Nat):LT Empty (List Zs):=
.kn [0]<|.ret ([]:List Zs) [.own 2 5000 64]
def Zm2(c:Nat)(ad:Addr):LT Empty (List Zs):=
.kn [0]<|.lb 1005<|.apR Zq 560 ([]:List Zs) ([]:List Zs) fun x1=>.ret x1 [.relab 1005 5000]
open Classical in
def Zcv(a0:List Zs):Option (List Zs):=if h:a0≠[] then Za1.run (Zd0 a0 h) else Za1.run (Zcg 0)
theorem Zgb(a0:List Zs){r:List Zs}(h:Zcv a0=some r):FnG PR 141 [] [wL Zq a0] [(5000,wR Zq 64 r)] (wO Zq 5000 r):=by
 by_cases hne:a0=[]
 .subst hne
  have h0:Za1.run (Zcg 0)=some r:=h
  exact FnG.split0 (fun e=>absurd rfl e) (fun _ a c=>by
   cases a with
   | none=>exact Za1.fn (t:=Zcg c) h0
   | some ad=>exact Za1.fn (t:=Zm2 c ad) h0)
 .have h0:Za1.run (Zd0 a0 hne)=some r:=by unfold Zcv at h;rwa [dif_pos hne] at h
  exact FnG.split0 (fun _=>Za1.fn h0) (fun e=>absurd (List.map_eq_nil_iff.1 e) hne)
inductive Zhp where
 | L0 (E0:Zh) (E1:Zh) (v18:Int) (v19:Int)
def Zur(E0:Zh)(E1:Zh)(v18:Int)(v19:Int):LT Zhp Zh:=
.br (decide (v19 < v18)) (.idxR Zq E0.Effects v19 fun x2=>.rl Zq E0.Effects<|.ldR Zq E0.Effects x2 2<|.call (Zcb x2.Mods) fun x4=>.plR Zq E0.Effects v19 0<|.rl Zq E0.Effects<|.setD Zq E0.Effects v19 x2 (⟨x2.Op,x2.Ref,x2.Amount,x2.Counter,x2.Zone,x2.Card,x2.Filter,x2.Pool,x4⟩:Zs) 2 63 [.sl (List.map Zl x4)] rfl fun x6=>.dr [.ahead 34,.relen 40049,.stop]<|.us [3]<|.us [3]<|.us [3]<|.us [3]<|.us [3]<|.us [3]<|.us [3]<|.g0 (.L0 (⟨E0.Kind,E0.Filter,E0.Mods,E0.Price,E0.Slow,E0.Trigger,E0.May,E0.Specs,x6,E0.Replace⟩:Zh) E1 v18 (IntKind.wrap .i64 (v19+1))))<|.ret E0 [.relab 40017 5017,.relab 40048 5048,.relab 40049 5049]
def Zw6(a0:Zh):LT Zhp Zh:=
.lb 1001<|.lb 1002<|.callF (Zh1 a0.Mods) 70000 fun x1=>.callF (Zg9 a0.Specs) 110000 fun x3=>.callF (Zgb a0.Effects) 150000 fun x5=>.lenO Zq x5<|.go (.L0 (⟨a0.Kind,a0.Filter,x1,a0.Price,a0.Slow,a0.Trigger,a0.May,x3,x5,a0.Replace⟩:Zh) (⟨0,(⟨0,0,0,0,0,0,0,([]:By),0,0,(⟨0,0⟩:Za),(⟨0,0⟩:Za),(⟨0,0⟩:Za)⟩:Ze),([]:List Zd),(⟨(⟨0,0,(⟨0,0,0,0,0⟩:A5 Int)⟩:Zt),false,false,0⟩:Zhn),false,(⟨0,0,(⟨0,0,0,0,0,0,0,([]:By),0,0,(⟨0,0⟩:Za),(⟨0,0⟩:Za),(⟨0,0⟩:Za)⟩:Ze)⟩:Zcs),false,([]:List Za9),([]:List Zs),(⟨0,0,(⟨0,0,0,0,0,0,0,([]:By),0,0,(⟨0,0⟩:Za),(⟨0,0⟩:Za),(⟨0,0⟩:Za)⟩:Ze),0,0,0,0⟩:Za6)⟩:Zh) (x5.length:Int) 0) [.relab 1001 3000,.relab 1002 3001,.relab 75000 40017,.relab 115000 40048,.relab 155000 40049,.ownb 3001 17 40117 20,.ownb 3001 48 40148 18,.ownb 3001 49 40149 64]
def Zo4:LF Zhp Zh := .m 90 [.c 2 89 true 72] true (fun r=>(tm17 r 5000)) (fun r=>(.agg (tm1 r 5000))) fun | .L0 E0 E1 v18 v19=>([1,1,1,1,0,1,4],⟨36,[(1,.bptr 3000 0),(2,.bptr 3001 0),(18,wI v18),(19,wI v19)],((3000,.box (tm1 E0 40000))::(40017,wR Zl 20 E0.Mods)::(40048,wR Zad 18 E0.Specs)::(40049,wR Zq 64 E0.Effects)::(3001,.box (tm1 E1 40100))::(tm17 E1 40100))⟩,Zur E0 E1 v18 v19)
def Zr2:=fun a0=>Zo4.run (Zw6 a0)
theorem Z8b(a0){r}(h:Zr2 a0=some r):FnG PR 90 [] [wA (Zj a0)] (tm17 r 5000) (.agg (tm1 r 5000)):=Zo4.fn h
theorem Zaav(a0:Zh){r:Zh}(h:Zr2 a0=some r):Fn PR 90 [wA (Zj a0)] (wA (Zj r)):=
 FnG.frozen (C:=LT.RL Zl r.Mods/\LT.RL Zad r.Specs/\LT.RL Zq r.Effects/\True) (Z8b a0 h) ⟨rfl,rfl,rfl,trivial⟩ (by kernel_rfl)
inductive Zlo where
 | L0 (E0:Zb) (E1:Zb) (v32:List Zh) (v33:Int) (v34:Int)
def Z3c(E0:Zb)(E1:Zb)(v32:List Zh)(v33:Int)(v34:Int):LT Zlo Zb:=
.br (decide (v34 < v33)) (.idx Zj v32 v34 fun x2=>.lb 1005<|.call (Zaav x2) fun x4=>.dr [.lit]<|.apR Zj 640 E1.Abilities [x4] fun x6=>.g0 (.L0 E0 (⟨E1.Name,E1.Cost,E1.Colors,E1.Line,E1.Power,E1.Tough,E1.Keys,x6,E1.Control⟩:Zb) v32 v33 (IntKind.wrap .i64 (v34+1))))<|.ret E1 [.relab 40111 5011,.relab 40115 5015]
def Z6p(a0:Zm):LT Zlo Zb:=
.lb 1001<|.lb 1002<|.call (Zao2 a0.Cost) fun x1=>.lb 1003<|.callF (Zfm a0.Line.Subs) 290000 fun x3=>.len Zj a0.Abilities<|.go (.L0 (⟨([]:By),(⟨0,0,(⟨0,0,0,0,0⟩:A5 Int)⟩:Zt),0,(⟨0,0,([]:Bys)⟩:Zac),0,0,0,([]:List Zh),0⟩:Zb) (⟨a0.Name,a0.Cost,Zay .or .i64 x1 a0.Color,(⟨a0.Line.Super,a0.Line.Types,x3⟩:Zac),a0.Power,a0.Tough,a0.Keys,([]:List Zh),0⟩:Zb) a0.Abilities (a0.Abilities.length:Int) 0) [.relab 1002 3000,.relab 1003 3001,.ownb 3000 11 40011 1,.ownb 3000 15 40015 72,.relab 295000 40111,.ownb 3001 15 40115 72]
def Zva:LF Zlo Zb := .m 51 [.c 2 66 true 17] true (fun r=>[(5011,wR cS 1 r.Line.Subs),(5015,wR Zj 72 r.Abilities)]) (fun r=>(.agg (tm2 r 5000))) fun | .L0 E0 E1 v32 v33 v34=>([1,1,1,0,1,4],⟨47,[(2,.bptr 3000 0),(3,.bptr 3001 0),(32,wL Zj v32),(33,wI v33),(34,wI v34)],[(3000,.box (tm2 E0 40000)),(40011,wR cS 1 E0.Line.Subs),(40015,wR Zj 72 E0.Abilities),(3001,.box (tm2 E1 40100)),(40111,wR cS 1 E1.Line.Subs),(40115,wR Zj 72 E1.Abilities)]⟩,Z3c E0 E1 v32 v33 v34)
def Zact:=fun a0=>Zva.run (Z6p a0)
theorem Zaix(a0){r}(h:Zact a0=some r):FnG PR 51 [] [wA (Z6 a0)] [(5011,wR cS 1 r.Line.Subs),(5015,wR Zj 72 r.Abilities)] (.agg (tm2 r 5000)):=Zva.fn h
inductive Zsn where
 | L0 (v0:List Zm) (E0:Zg) (E1:Zb) (v5:Int)
 | L1 (E0:Zg) (E1:Zb) (E2:Zb)
def Zpy(E0:Zg)(E1:Zb)(E2:Zb):LT Zsn Zb:=
.cs (E0.Zone==0) (.k4 0<|.kn [0]<|.ret (⟨E2.Name,E2.Cost,E2.Colors,E2.Line,E2.Power,E2.Tough,E2.Keys,E2.Abilities,E0.Control⟩:Zb) [.relab 40211 5011,.relab 40215 5015])<|.k4 0<|.br (E0.Zone==5) (.ret (⟨E2.Name,E2.Cost,E2.Colors,E2.Line,E2.Power,E2.Tough,E2.Keys,E2.Abilities,E0.Control⟩:Zb) [.relab 40211 5011,.relab 40215 5015])<|.ret (⟨E2.Name,E2.Cost,E2.Colors,E2.Line,E2.Power,E2.Tough,E2.Keys,E2.Abilities,E0.Owner⟩:Zb) [.relab 40211 5011,.relab 40215 5015]
def Ztm(v0:List Zm)(E0:Zg)(E1:Zb)(v5:Int):LT Zsn Zb:=
.lb 1006<|.cs (decide (v5>=0)) (.k3 0<|.len Z6 v0<|.k2 0<|.br (decide (v5 < (v0.length:Int))) (.idx Z6 v0 v5 fun x4=>.callF (Zaix x4) 270000 fun x6=>.jn 0 (.L1 E0 E1 x6) [.relab 1006 3002,.relab 275011 40211,.relab 275015 40215] (Zpy E0 E1 x6))<|.jn 0 (.L1 E0 E1 (⟨([]:By),(⟨0,0,(⟨0,0,0,0,0⟩:A5 Int)⟩:Zt),0,(⟨0,0,([]:Bys)⟩:Zac),0,0,0,([]:List Zh),0⟩:Zb)) (tm15 1000 3000 40200) (Zpy E0 E1 (⟨([]:By),(⟨0,0,(⟨0,0,0,0,0⟩:A5 Int)⟩:Zt),0,(⟨0,0,([]:Bys)⟩:Zac),0,0,0,([]:List Zh),0⟩:Zb)))<|.k5 0<|.kn [0]<|.jn 0 (.L1 E0 E1 (⟨([]:By),(⟨0,0,(⟨0,0,0,0,0⟩:A5 Int)⟩:Zt),0,(⟨0,0,([]:Bys)⟩:Zac),0,0,0,([]:List Zh),0⟩:Zb)) (tm15 1000 3000 40200) (Zpy E0 E1 (⟨([]:By),(⟨0,0,(⟨0,0,0,0,0⟩:A5 Int)⟩:Zt),0,(⟨0,0,([]:Bys)⟩:Zac),0,0,0,([]:List Zh),0⟩:Zb))
def Zarz(a0:List Zm)(a1:Zg):LT Zsn Zb:=
.lb 1003<|.lb 1004<|.br (decide (a1.Copy < 0)) (.jn 0 (.L0 a0 a1 (⟨([]:By),(⟨0,0,(⟨0,0,0,0,0⟩:A5 Int)⟩:Zt),0,(⟨0,0,([]:Bys)⟩:Zac),0,0,0,([]:List Zh),0⟩:Zb) a1.Card) (tm14 1000 3000 40100) (Ztm a0 a1 (⟨([]:By),(⟨0,0,(⟨0,0,0,0,0⟩:A5 Int)⟩:Zt),0,(⟨0,0,([]:Bys)⟩:Zac),0,0,0,([]:List Zh),0⟩:Zb) a1.Card))<|.jn 0 (.L0 a0 a1 (⟨([]:By),(⟨0,0,(⟨0,0,0,0,0⟩:A5 Int)⟩:Zt),0,(⟨0,0,([]:Bys)⟩:Zac),0,0,0,([]:List Zh),0⟩:Zb) a1.Copy) (tm14 1000 3000 40100) (Ztm a0 a1 (⟨([]:By),(⟨0,0,(⟨0,0,0,0,0⟩:A5 Int)⟩:Zt),0,(⟨0,0,([]:Bys)⟩:Zac),0,0,0,([]:List Zh),0⟩:Zb) a1.Copy)
def Zar0:LF Zsn Zb := .m 31 [.c 4 66 true 17] true (fun r=>[(5011,wR cS 1 r.Line.Subs),(5015,wR Zj 72 r.Abilities)]) (fun r=>(.agg (tm2 r 5000))) fun | .L0 v0 E0 E1 v5=>([1,1,1],⟨42,[(0,wL Z6 v0),(3,.bptr 3000 0),(4,.bptr 3001 0),(5,wI v5)],[(3000,.box (bx (Zn E0))),(3001,.box (tm2 E1 40100)),(40111,wR cS 1 E1.Line.Subs),(40115,wR Zj 72 E1.Abilities)]⟩,Ztm v0 E0 E1 v5) | .L1 E0 E1 E2=>([1,1,1,1,1],⟨42,[(3,.bptr 3000 0),(4,.bptr 3001 0),(6,.bptr 3002 0)],[(3000,.box (bx (Zn E0))),(3001,.box (tm2 E1 40100)),(40111,wR cS 1 E1.Line.Subs),(40115,wR Zj 72 E1.Abilities),(3002,.box (tm2 E2 40200)),(40211,wR cS 1 E2.Line.Subs),(40215,wR Zj 72 E2.Abilities)]⟩,Zpy E0 E1 E2)
def Zao3:=fun a0 a1=>Zar0.run (Zarz a0 a1)
theorem Za0q(a0)(a1){r}(h:Zao3 a0 a1=some r):FnG PR 31 [] [wL Z6 a0,wA (Zn a1)] [(5011,wR cS 1 r.Line.Subs),(5015,wR Zj 72 r.Abilities)] (.agg (tm2 r 5000)):=Zar0.fn h
theorem Zamr(a0:List Zm)(a1:Zg){r:Zb}(h:Zao3 a0 a1=some r):Fn PR 31 [wL Z6 a0,wA (Zn a1)] (wA (Zi r)):=
 FnG.frozen (C:=LT.RL cS r.Line.Subs/\LT.RL Zj r.Abilities/\True) (Za0q a0 a1 h) ⟨rfl,rfl,trivial⟩ (by kernel_rfl)
def Zio(a0:List Int)(hne:a0≠[]):LT Empty (List Int):=
.ne (cI .i64) hne<|.kn [0]<|.lb 1005<|.apR (cI .i64) 8 ([]:List Int) a0 fun x1=>.ret x1 [.relab 1005 5000]
def Zch:LF Empty (List Int) := .z 33 [.t 2] true (fun r=>[(5000,wR (cI .i64) 1 r)]) (fun r=>(wO (cI .i64) 5000 r))
def Zfs(c:Nat):LT Empty (List Int):=
.kn [0]<|.ret ([]:List Int) [.own 2 5000 1]
def Zx2(c:Nat)(ad:Addr):LT Empty (List Int):=
.kn [0]<|.lb 1005<|.apR (cI .i64) 8 ([]:List Int) ([]:List Int) fun x1=>.ret x1 [.relab 1005 5000]
open Classical in
def Zez(a0:List Int):Option (List Int):=if h:a0≠[] then Zch.run (Zio a0 h) else Zch.run (Zfs 0)
theorem Zw7(a0:List Int){r:List Int}(h:Zez a0=some r):FnG PR 33 [] [wL (cI .i64) a0] [(5000,wR (cI .i64) 1 r)] (wO (cI .i64) 5000 r):=by
 by_cases hne:a0=[]
 .subst hne
  have h0:Zch.run (Zfs 0)=some r:=h
  exact FnG.split0 (fun e=>absurd rfl e) (fun _ a c=>by
   cases a with
   | none=>exact Zch.fn (t:=Zfs c) h0
   | some ad=>exact Zch.fn (t:=Zx2 c ad) h0)
 .have h0:Zch.run (Zio a0 hne)=some r:=by unfold Zez at h;rwa [dif_pos hne] at h
  exact FnG.split0 (fun _=>Zch.fn h0) (fun e=>absurd (List.map_eq_nil_iff.1 e) hne)
theorem Zx3(a0:List Int){r:List Int}(h:Zez a0=some r):Fn PR 33 [wL (cI .i64) a0] (wL (cI .i64) r):=
 FnG.frozen (C:=LT.RL (cI .i64) r/\True) (Zw7 a0 h) ⟨rfl,trivial⟩ (by kernel_rfl)
inductive Zgx where
 | L0 (v0:List Zm) (E0:Zk) (v5:List Zv) (v13:List Zg) (v14:Int) (v15:Int)
 | L1 (v0:List Zm) (E0:Zk) (v5:List Zv) (E1:Zg) (v13:List Zg) (v14:Int) (v15:Int) (v25:List Zh) (v26:Int) (v27:Int)
 | L2 (v5:List Zv) (v54:List Zav) (v55:Int) (v56:Int)
def Z3d(v0:List Zm)(E0:Zk)(v5:List Zv)(v13:List Zg)(v14:Int)(v15:Int):LT Zgx (List Zv):=
.br (decide (v15 < v14)) (.idx Zn v13 v15 fun x2=>.lb 1007<|.br (x2.Zone != 0) (.g0 (.L0 v0 E0 v5 v13 v14 (IntKind.wrap .i64 (v15+1))))<|.call (Zamr v0 x2) fun x7=>.len Zj x7.Abilities<|.go (.L1 v0 E0 v5 x2 v13 v14 v15 x7.Abilities (x7.Abilities.length:Int) 0) [.relab 1007 3001])<|.len Zam E0.Conts<|.g0 (.L2 v5 E0.Conts (E0.Conts.length:Int) 0)
def Z3e(v0:List Zm)(E0:Zk)(v5:List Zv)(E1:Zg)(v13:List Zg)(v14:Int)(v15:Int)(v25:List Zh)(v26:Int)(v27:Int):LT Zgx (List Zv):=
.br (decide (v27 < v26)) (.idx Zj v25 v27 fun x2=>.lb 1009<|.br (x2.Kind==1) (.call (Zcb x2.Mods) fun x5=>.dr [.lit]<|.apR Z4 224 v5 [(⟨E1.Id,v27,E1.Control,E1.Stamp,false,([]:List Int),x2.Filter,x5⟩:Zv)] fun x7=>.g0 (.L1 v0 E0 x7 E1 v13 v14 v15 v25 v26 (IntKind.wrap .i64 (v27+1))))<|.g0 (.L1 v0 E0 v5 E1 v13 v14 v15 v25 v26 (IntKind.wrap .i64 (v27+1))))<|.g0 (.L0 v0 E0 v5 v13 v14 (IntKind.wrap .i64 (v15+1)))
def Z3f(v5:List Zv)(v54:List Zav)(v55:Int)(v56:Int):LT Zgx (List Zv):=
.br (decide (v56 < v55)) (.idx Zam v54 v56 fun x2=>.lb 1011<|.call (Zx3 x2.Objects) fun x4=>.call (Zcb x2.Mods) fun x6=>.dr [.lit]<|.apR Z4 224 v5 [(⟨x2.Source,-1,x2.Control,x2.Stamp,true,x4,(⟨0,0,0,0,0,0,0,([]:By),0,0,(⟨0,0⟩:Za),(⟨0,0⟩:Za),(⟨0,0⟩:Za)⟩:Ze),x6⟩:Zv)] fun x8=>.g0 (.L2 x8 v54 v55 (IntKind.wrap .i64 (v56+1))))<|.ret v5 [.relab 20005 5000]
def Z6q(a0:List Zm)(a1:Zk):LT Zgx (List Zv):=
.lb 1003<|.len Zn a1.Objects<|.go (.L0 a0 a1 ([]:List Zv) a1.Objects (a1.Objects.length:Int) 0) [.relab 1003 3000,.own 5 20005 23]
def Zlp:LF Zgx (List Zv) := .m 12 [.t 4] true (fun r=>[(5000,wR Z4 23 r)]) (fun r=>(wO Z4 5000 r)) fun | .L0 v0 E0 v5 v13 v14 v15=>([1,1,0,1,4],⟨78,[(0,wL Z6 v0),(3,.bptr 3000 0),(5,wO Z4 20005 v5),(13,wL Zn v13),(14,wI v14),(15,wI v15)],[(3000,.box (bx (Z9 E0))),(20005,wR Z4 23 v5)]⟩,Z3d v0 E0 v5 v13 v14 v15) | .L1 v0 E0 v5 E1 v13 v14 v15 v25 v26 v27=>([1,1,0,1,4,5,1,1,0,4,1,1,1,4],⟨78,[(0,wL Z6 v0),(3,.bptr 3000 0),(5,wO Z4 20005 v5),(7,.bptr 3001 0),(13,wL Zn v13),(14,wI v14),(15,wI v15),(25,wL Zj v25),(26,wI v26),(27,wI v27)],[(3000,.box (bx (Z9 E0))),(20005,wR Z4 23 v5),(3001,.box (bx (Zn E1)))]⟩,Z3e v0 E0 v5 E1 v13 v14 v15 v25 v26 v27) | .L2 v5 v54 v55 v56=>([1,1,1,0,1,4],⟨78,[(5,wO Z4 20005 v5),(54,wL Zam v54),(55,wI v55),(56,wI v56)],[(20005,wR Z4 23 v5)]⟩,Z3f v5 v54 v55 v56)
def Z0v:=fun a0 a1=>Zlp.run (Z6q a0 a1)
theorem Zaiy(a0)(a1){r}(h:Z0v a0 a1=some r):FnG PR 12 [] [wL Z6 a0,wA (Z9 a1)] [(5000,wR Z4 23 r)] (wO Z4 5000 r):=Zlp.fn h
theorem Z3g(a0:List Zm)(a1:Zk){r:List Zv}(h:Z0v a0 a1=some r):Fn PR 12 [wL Z6 a0,wA (Z9 a1)] (wL Z4 r):=
 FnG.frozen (C:=LT.RL Z4 r/\True) (Zaiy a0 a1 h) ⟨rfl,trivial⟩ (by kernel_rfl)
end
end Go.PW
