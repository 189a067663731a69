import Derived.Test.YtchddhcajpagjaaGreatQDt
set_option linter.all false
set_option maxRecDepth 100000
namespace Go.PW
open Go.RowKit
noncomputable section
def Zabt(a0:Int):LT Empty Bool:=
.cs (decide (a0>=97)) (.k3 0<|.rt (decide (a0<=122)))<|.k3 0<|.rt false
def Zarf:LF Empty Bool := .z0 120 [.t 2] wB
def Zaer:=fun a0=>Zarf.run (Zabt a0)
theorem Zak7(a0){r}(h:Zaer a0=some r):Fn PR 120 [.t (.int .u8 a0)] (wB r):=Zarf.fn h
inductive Zmw where
 | L0 (v0:By) (v3:Int)
 | L1 (v0:By) (v3:Int)
def Zkh(v0:By)(v3:Int):LT Zmw Bool:=
.cs (decide (v3 > 0)) (.k3 0<|.idxS v0 v3 fun x2=>.k2 0<|.cs ((UInt8.toNat x2:Int)==45) (.k4 1<|.idxS v0 (IntKind.wrap .i64 (v3 - 1)) fun x7=>.k2 1<|.br ((UInt8.toNat x7:Int)==45) (.rt false)<|.g0 (.L0 v0 (IntKind.wrap .i64 (v3+1))))<|.k5 1<|.kg 1<|.kn [0]<|.g0 (.L0 v0 (IntKind.wrap .i64 (v3+1))))<|.k5 0<|.b5 false<|.kb false<|.kn [0]<|.g0 (.L0 v0 (IntKind.wrap .i64 (v3+1)))
def Zsj(v0:By)(v3:Int):LT Zmw Bool:=
.lenS v0<|.br (decide (v3 < (v0.length:Int))) (.idxS v0 v3 fun x3=>.call (Zak7 (UInt8.toNat x3:Int)) fun x5=>.cs (!x5) (.k3 1<|.idxS v0 v3 fun x8=>.k2 1<|.cs (decide ((UInt8.toNat x8:Int) < 48)) (.k4 2<|.kg 1<|.kg 2<|.kg 1<|.b3 true<|.idxS v0 v3 fun x11=>.b2 true<|.br ((UInt8.toNat x11:Int) != 45) (.rt false)<|.j0 (.L1 v0 v3) (Zkh v0 v3))<|.k3 2<|.idxS v0 v3 fun x14=>.kg 2<|.kg 1<|.kg 2<|.kg 1<|.cs (decide ((UInt8.toNat x14:Int) > 57)) (.k3 3<|.idxS v0 v3 fun x17=>.k2 3<|.br ((UInt8.toNat x17:Int) != 45) (.rt false)<|.j0 (.L1 v0 v3) (Zkh v0 v3))<|.k5 3<|.kn [0]<|.j0 (.L1 v0 v3) (Zkh v0 v3))<|.k5 1<|.k2 1<|.b5 false<|.kn [0]<|.j0 (.L1 v0 v3) (Zkh v0 v3))<|.rt true
def Zain(a0:By):LT Zmw Bool:=
.lenS a0<|.cs (decide ((a0.length:Int) < 1)) (.k4 0<|.b8 true<|.b4 true<|.kn [0]<|.rt false)<|.k2 0<|.lenS a0<|.k2 0<|.cs (decide ((a0.length:Int) > 32)) (.k5 1<|.b5 true<|.b2 true<|.kn [0]<|.rt false)<|.k2 1<|.idxS a0 0 fun x4=>.kg 1<|.call (Zak7 (UInt8.toNat x4:Int)) fun x6=>.k2 1<|.cs (!x6) (.k5 2<|.k2 2<|.kn [0]<|.rt false)<|.k3 2<|.lenS a0<|.k2 2<|.idxS a0 (IntKind.wrap .i64 ((a0.length:Int) - 1)) fun x11=>.k2 2<|.br ((UInt8.toNat x11:Int)==45) (.rt false)<|.g0 (.L0 a0 0)
def Zu5:LF Zmw Bool := .m0 73 [.t 2] wB fun | .L0 v0 v3=>([1,1,0,1,4],⟨70,[(0,wS v0),(3,wI v3)],[]⟩,Zsj v0 v3) | .L1 v0 v3=>([1,1,0,1,4,5,1,0,4,1],⟨70,[(0,wS v0),(3,wI v3)],[]⟩,Zkh v0 v3)
def Zak8:=fun a0=>Zu5.run (Zain a0)
theorem Zabu(a0){r}(h:Zak8 a0=some r):Fn PR 73 [wS a0] (wB r):=Zu5.fn h
inductive Zmx where
 | L0 (E0:Zt) (v3:Int)
def Zos(E0:Zt)(v3:Int):LT Zmx Bool:=
.br (decide (v3 < 5)) (.idA (Zh.int .i64) (A5.list E0.Color) v3 (bx (Zaf E0)) 2 7 fun x2=>.ldC (Zh.int .i64) 29 x2 0<|.cs (decide (x2 < 0)) (.k5 1<|.kg 1<|.kn [0]<|.rt false)<|.k3 1<|.idA (Zh.int .i64) (A5.list E0.Color) v3 (bx (Zaf E0)) 2 7 fun x5=>.kg 1<|.ldC (Zh.int .i64) 35 x5 1<|.k2 1<|.br (decide (x5 > 9)) (.rt false)<|.g0 (.L0 E0 (IntKind.wrap .i64 (v3+1))))<|.rt true
def Zaio(a0:Zt):LT Zmx Bool:=
.lb 1001<|.cs (decide (a0.Generic < 0)) (.k4 0<|.b8 true<|.kn [0]<|.rt false)<|.k4 0<|.cs (decide (a0.Generic > 99)) (.k4 1<|.b4 true<|.kn [0]<|.rt false)<|.k4 1<|.cs (decide (a0.X < 0)) (.k4 2<|.kn [0]<|.rt false)<|.k4 2<|.br (decide (a0.X > 2)) (.rt false)<|.go (.L0 a0 0) [.relab 1001 3000]
def Zky:LF Zmx Bool := .m0 74 [.t 2] wB fun | .L0 E0 v3=>([1,1,0,1,4],⟨38,[(1,.bptr 3000 0),(3,wI v3)],[(3000,.box (bx (Zaf E0)))]⟩,Zos E0 v3)
def Z57:=fun a0=>Zky.run (Zaio a0)
theorem Zwr(a0){r}(h:Z57 a0=some r):Fn PR 74 [wA (Zaf a0)] (wB r):=Zky.fn h
def Zaip:LT Empty (Bys):=
.lb 1001<|.ret [([98,97,115,105,99]:By),([117,110,105,113,117,101]:By)] [.relab 1001 5000]
def Z0k:LF Empty (Bys) := .z 169 [.t 0] true (fun r=>[(5000,wR cS 1 r)]) (fun r=>(wO cS 5000 r))
def Zu6:=Z0k.run (Zaip)
theorem Zabv{r}(h:Zu6=some r):FnG PR 169 [] [] [(5000,wR cS 1 r)] (wO cS 5000 r):=Z0k.fn h
theorem Zae2{r:Bys}(h:Zu6=some r):Fn PR 169 [] (wL cS r):=
 FnG.frozen (C:=LT.RL cS r/\True) (Zabv h) ⟨rfl,trivial⟩ (by kernel_rfl)
inductive Z4y where
 | L0 (v0:Bys) (v1:By) (v5:Int)
def Zot(v0:Bys)(v1:By)(v5:Int):LT Z4y Int:=
.len cS v0<|.br (decide (v5 < (v0.length:Int))) (.idx cS v0 v5 fun x3=>.br (x3==v1) (.rt v5)<|.g0 (.L0 v0 v1 (IntKind.wrap .i64 (v5+1))))<|.rt (-1)
def Zafr(a0:Bys)(a1:By):LT Z4y Int:=
.g0 (.L0 a0 a1 0)
def Z4z:LF Z4y Int := .m0 168 [.t 4] wI fun | .L0 v0 v1 v5=>([1,0,1,4],⟨19,[(0,wL cS v0),(1,wS v1),(5,wI v5)],[]⟩,Zot v0 v1 v5)
def Zabw:=fun a0 a1=>Z4z.run (Zafr a0 a1)
theorem Z0l(a0)(a1){r}(h:Zabw a0 a1=some r):Fn PR 168 [wL cS a0,wS a1] (wI r):=Z4z.fn h
def Z2t:LT Empty (Bys):=
.lb 1001<|.ret [([99,114,101,97,116,117,114,101]:By),([105,110,115,116,97,110,116]:By),([114,105,116,117,97,108]:By),([114,101,108,105,99]:By),([99,104,97,114,109]:By),([108,97,110,100]:By)] [.relab 1001 5000]
def Z2u:LF Empty (Bys) := .z 170 [.t 0] true (fun r=>[(5000,wR cS 1 r)]) (fun r=>(wO cS 5000 r))
def Zrm:=Z2u.run (Z2t)
theorem Zae3{r}(h:Zrm=some r):FnG PR 170 [] [] [(5000,wR cS 1 r)] (wO cS 5000 r):=Z2u.fn h
theorem Z0m{r:Bys}(h:Zrm=some r):Fn PR 170 [] (wL cS r):=
 FnG.frozen (C:=LT.RL cS r/\True) (Zae3 h) ⟨rfl,trivial⟩ (by kernel_rfl)
def Zafs(a0:By):LT Empty Bool:=
.call (Zabu a0) fun x1=>.cs x1 (.kg 0<|.call (Zae2) fun x4=>.k2 0<|.call (Z0l x4 a0) fun x6=>.k2 0<|.cs (decide (x6 < 0)) (.kg 1<|.call (Z0m) fun x9=>.k2 1<|.call (Z0l x9 a0) fun x11=>.k2 1<|.rt (decide (x11 < 0)))<|.k5 1<|.rt false)<|.k5 0<|.b5 false<|.rt false
def Zaft:LF Empty Bool := .z0 121 [.t 2] wB
def Z2v:=fun a0=>Zaft.run (Zafs a0)
theorem Z0n(a0){r}(h:Z2v a0=some r):Fn PR 121 [wS a0] (wB r):=Zaft.fn h
inductive Zws where
 | L0 (v0:Int) (v1:Int) (v5:Int)
def Zak9(v0:Int)(v1:Int)(v5:Int):LT Zws Bool:=
.br (decide (v5 < v1)) (.dc ((2:Int)≠0) rfl<|.g0 (.L0 (Zjz .i64 v0 2) v1 (IntKind.wrap .i64 (v5+1))))<|.dc ((2:Int)≠0) rfl<|.rt ((Int.tmod v0 2)==1)
def Zarg(a0:Int)(a1:Int):LT Zws Bool:=
.g0 (.L0 a0 a1 0)
def Zabx:LF Zws Bool := .m0 122 [.t 4] wB fun | .L0 v0 v1 v5=>([1,0,1,4],⟨16,[(0,wI v0),(1,wI v1),(5,wI v5)],[]⟩,Zak9 v0 v1 v5)
def Za17:=fun a0 a1=>Zabx.run (Zarg a0 a1)
theorem Z77(a0)(a1){r}(h:Za17 a0 a1=some r):Fn PR 122 [wI a0,wI a1] (wB r):=Zabx.fn h
inductive Z0o where
 | L0 (E0:Z7) (v3:Int)
def Zarh(E0:Z7)(v3:Int):LT Z0o Bool:=
.len cS E0.Subs<|.br (decide (v3 < (E0.Subs.length:Int))) (.idx cS E0.Subs v3 fun x3=>.call (Z0n x3) fun x5=>.cs (!x5) (.k5 1<|.kn [0]<|.rt false)<|.k3 1<|.cs (decide (v3 > 0)) (.k5 2<|.idx cS E0.Subs (IntKind.wrap .i64 (v3 - 1)) fun x11=>.k5 2<|.ag cS x3 0<|.k2 2<|.kg 1<|.kg 2<|.kg 1<|.br (!(Op.bytesLess x11 x3)) (.rt false)<|.g0 (.L0 E0 (IntKind.wrap .i64 (v3+1))))<|.k8 2<|.k4 2<|.kg 1<|.kg 2<|.kg 1<|.kn [0]<|.g0 (.L0 E0 (IntKind.wrap .i64 (v3+1))))<|.cs (E0.Types==2) (.k4 1<|.b5 true<|.b2 true<|.rt true)<|.k4 1<|.cs (E0.Types==4) (.k5 2<|.k2 2<|.rt true)<|.k3 2<|.call (Z77 E0.Types 1) fun x20=>.k2 2<|.cs (!x20) (.k3 3<|.call (Z77 E0.Types 2) fun x23=>.kg 3<|.kg 2<|.kg 3<|.kg 2<|.rt (!x23))<|.k4 3<|.kg 2<|.kg 3<|.kg 2<|.rt false
def Zawb(a0:Z7):LT Z0o Bool:=
.lb 1001<|.cs (decide (a0.Super < 0)) (.k4 0<|.b8 true<|.b5 true<|.kn [0]<|.rt false)<|.k4 0<|.cs (decide (a0.Super > 3)) (.k4 1<|.b8 true<|.kb true<|.kn [0]<|.rt false)<|.k4 1<|.cs (decide (a0.Types < 1)) (.k4 2<|.b5 true<|.kn [0]<|.rt false)<|.k4 2<|.cs (decide (a0.Types > 63)) (.k5 3<|.kn [0]<|.rt false)<|.k3 3<|.len cS a0.Subs<|.k2 3<|.br (decide ((a0.Subs.length:Int) > 4)) (.rt false)<|.go (.L0 a0 0) [.relab 1001 3000]
def Zaiq:LF Z0o Bool := .m0 75 [.t 2] wB fun | .L0 E0 v3=>([1,1,0,1,4],⟨80,[(1,.bptr 3000 0),(3,wI v3)],[(3000,.box (bx (Zhg E0)))]⟩,Zarh E0 v3)
def Za7j:=fun a0=>Zaiq.run (Zawb a0)
theorem Za7k(a0){r}(h:Za7j a0=some r):Fn PR 75 [wA (Zhg a0)] (wB r):=Zaiq.fn h
def Zawc(a0:Int):LT Empty Bool:=
.cs (decide (a0>=0)) (.k3 0<|.rt (decide (a0<=131071)))<|.k3 0<|.rt false
def Zawd:LF Empty Bool := .z0 76 [.t 2] wB
def Za7l:=fun a0=>Zawd.run (Zawc a0)
theorem Zari(a0){r}(h:Za7l a0=some r):Fn PR 76 [wI a0] (wB r):=Zawd.fn h
def Z58(a0:Zl):LT Empty Bool:=
.lb 1001<|.rt ((Zau .and .i64 a0.Line.Types 1) != 0)
def Z59:LF Empty Bool := .z0 77 [.t 2] wB
def Zaby:=fun a0=>Z59.run (Z58 a0)
theorem Zala(a0){r}(h:Zaby a0=some r):Fn PR 77 [wA (Zw a0)] (wB r):=Z59.fn h
inductive Zqu where
 | L0 (v0:Int) (v1:Int) (v7:Int)
def Zll(v0:Int)(v1:Int)(v7:Int):LT Zqu Bool:=
.br (decide (v7 < 6)) (.dc ((2:Int)≠0) rfl<|.cs ((Int.tmod v0 2)==1) (.k2 1<|.dc ((2:Int)≠0) rfl<|.k2 1<|.br ((Int.tmod v1 2)==1) (.rt false)<|.dc ((2:Int)≠0) rfl<|.dc ((2:Int)≠0) rfl<|.g0 (.L0 (Zjz .i64 v0 2) (Zjz .i64 v1 2) (IntKind.wrap .i64 (v7+1))))<|.k4 1<|.kn [0]<|.dc ((2:Int)≠0) rfl<|.dc ((2:Int)≠0) rfl<|.g0 (.L0 (Zjz .i64 v0 2) (Zjz .i64 v1 2) (IntKind.wrap .i64 (v7+1))))<|.rt true
def Z40(a0:Int)(a1:Int)(a2:Int):LT Zqu Bool:=
.cs (decide (a0 < 0)) (.k4 0<|.b5 true<|.b2 true<|.kn [0]<|.rt false)<|.k4 0<|.cs (decide (a0 > a2)) (.k3 1<|.b4 true<|.kn [0]<|.rt false)<|.k3 1<|.cs (decide (a1 < 0)) (.k4 2<|.kn [0]<|.rt false)<|.k4 2<|.br (decide (a1 > a2)) (.rt false)<|.g0 (.L0 a0 a1 0)
def Znx:LF Zqu Bool := .m0 171 [.t 6] wB fun | .L0 v0 v1 v7=>([1,1,0,1,4],⟨40,[(0,wI v0),(1,wI v1),(7,wI v7)],[]⟩,Zll v0 v1 v7)
def Z2w:=fun a0 a1 a2=>Znx.run (Z40 a0 a1 a2)
theorem Zabz(a0)(a1)(a2){r}(h:Z2w a0 a1 a2=some r):Fn PR 171 [wI a0,wI a1,wI a2] (wB r):=Znx.fn h
def Z41(a0:Zb):LT Empty Bool:=
.lb 1001<|.cs (decide (a0.Kind < 0)) (.k4 0<|.b8 true<|.kn [0]<|.rt false)<|.k4 0<|.cs (decide (a0.Kind > 3)) (.k4 1<|.b4 true<|.kn [0]<|.rt false)<|.k4 1<|.cs (decide (a0.N < 0)) (.k4 2<|.kn [0]<|.rt false)<|.k4 2<|.br (decide (a0.N > 1000000)) (.rt false)<|.cs (a0.Kind != 0) (.k4 4<|.rt true)<|.k4 4<|.rt (a0.N==0)
def Zafu:LF Empty Bool := .z0 172 [.t 2] wB
def Z2x:=fun a0=>Zafu.run (Z41 a0)
theorem Z0p(a0){r}(h:Z2x a0=some r):Fn PR 172 [wA (Zb3 a0)] (wB r):=Zafu.fn h
inductive Z0q where
 | L0 (E0:Zg)
def Zou(E0:Zg):LT Z0q Bool:=
.call (Z0p E0.Power) fun x1=>.cs x1 (.k3 0<|.call (Z0p E0.Tough) fun x4=>.kg 0<|.cs x4 (.k3 1<|.call (Z0p E0.Value) fun x7=>.kg 1<|.rt x7)<|.k4 1<|.rt false)<|.k4 0<|.b4 false<|.rt false
def Zair(a0:Zg):LT Z0q Bool:=
.lb 1001<|.cs (decide (a0.Zone < 0)) (.k4 0<|.b16 true<|.b8 true<|.kn [0]<|.rt false)<|.k4 0<|.cs (decide (a0.Zone > 5)) (.k4 1<|.b16 true<|.b4 true<|.kn [0]<|.rt false)<|.k4 1<|.cs (decide (a0.Who < 0)) (.k4 2<|.b16 true<|.kn [0]<|.rt false)<|.k4 2<|.cs (decide (a0.Who > 2)) (.k4 3<|.b8 true<|.b4 true<|.kn [0]<|.rt false)<|.k4 3<|.cs (decide (a0.Self < 0)) (.k4 4<|.b8 true<|.kn [0]<|.rt false)<|.k4 4<|.cs (decide (a0.Self > 2)) (.k4 5<|.b4 true<|.kn [0]<|.rt false)<|.k4 5<|.cs (decide (a0.Tap < 0)) (.k4 6<|.kn [0]<|.rt false)<|.k4 6<|.br (decide (a0.Tap > 2)) (.rt false)<|.call (Zabz a0.Types a0.NotTypes 63) fun x9=>.cs (!x9) (.k5 8<|.k2 8<|.kn [0]<|.rt false)<|.k5 8<|.call (Zabz a0.Colors a0.NotColors 31) fun x12=>.k2 8<|.br (!x12) (.rt false)<|.cs (!(a0.Sub==([]:By))) (.k3 10<|.call (Z0n a0.Sub) fun x16=>.k2 10<|.cs (!x16) (.k4 11<|.b4 true<|.kn [0]<|.rt false)<|.k4 11<|.cs (decide (a0.Keys < 0)) (.k4 12<|.kn [0]<|.rt false)<|.k4 12<|.br (decide (a0.Keys > 131071)) (.rt false)<|.jn 0 (.L0 a0) [.relab 1001 3000] (Zou a0))<|.k5 10<|.b4 false<|.cs (decide (a0.Keys < 0)) (.k4 11<|.kn [0]<|.rt false)<|.k4 11<|.br (decide (a0.Keys > 131071)) (.rt false)<|.jn 0 (.L0 a0) [.relab 1001 3000] (Zou a0)
def Zais:LF Z0q Bool := .m0 123 [.t 2] wB fun | .L0 E0=>([1,1,1,1],⟨87,[(1,.bptr 3000 0)],[(3000,.box (bx (Zo E0)))]⟩,Zou E0)
def Zab0:=fun a0=>Zais.run (Zair a0)
theorem Zhq(a0){r}(h:Zab0 a0=some r):Fn PR 123 [wA (Zo a0)] (wB r):=Zais.fn h
inductive Zpw where
 | L0 (E0:Zc) (E1:Zc) (v7:Int) (v8:Bool)
 | L1 (E0:Zc) (E1:Zc) (v7:Int) (v16:Bool)
def Zqv(E0:Zc)(E1:Zc)(v7:Int)(v16:Bool):LT Zpw Zc:=
.br v16 (.rt (⟨E0.Kind,E0.N,E0.M,([]:By),E0.Filter⟩:Zc))<|.br (v7==11) (.rt (⟨E0.Kind,E0.N,E0.M,E0.Sub,(⟨0,0,0,0,0,0,0,([]:By),0,0,(⟨0,0⟩:Zb),(⟨0,0⟩:Zb),(⟨0,0⟩:Zb)⟩:Zg)⟩:Zc))<|.br (v7==12) (.kn [3]<|.rt (⟨E0.Kind,0,0,E0.Sub,E0.Filter⟩:Zc))<|.br (v7==13) (.rt (⟨E0.Kind,0,0,E0.Sub,E0.Filter⟩:Zc))<|.rt E0
def Zhh(E0:Zc)(E1:Zc)(v7:Int)(v8:Bool):LT Zpw Zc:=
.br v8 (.rt (⟨E0.Kind,0,E0.M,E0.Sub,E0.Filter⟩:Zc))<|.br (v7==4) (.j0 (.L1 E0 E1 v7 (v7==4)) (Zqv E0 E1 v7 (v7==4)))<|.j0 (.L1 E0 E1 v7 (v7==5)) (Zqv E0 E1 v7 (v7==5))
def Zalb(a0:Zc):LT Zpw Zc:=
.lb 1001<|.lb 1002<|.br (a0.Kind==2) (.jn 0 (.L0 (⟨0,a0.N,a0.M,a0.Sub,a0.Filter⟩:Zc) (⟨0,0,0,([]:By),(⟨0,0,0,0,0,0,0,([]:By),0,0,(⟨0,0⟩:Zb),(⟨0,0⟩:Zb),(⟨0,0⟩:Zb)⟩:Zg)⟩:Zc) a0.Kind (a0.Kind==2)) [.relab 1001 3000,.relab 1002 3001] (Zhh (⟨0,a0.N,a0.M,a0.Sub,a0.Filter⟩:Zc) (⟨0,0,0,([]:By),(⟨0,0,0,0,0,0,0,([]:By),0,0,(⟨0,0⟩:Zb),(⟨0,0⟩:Zb),(⟨0,0⟩:Zb)⟩:Zg)⟩:Zc) a0.Kind (a0.Kind==2)))<|.br (a0.Kind==3) (.jn 0 (.L0 (⟨0,a0.N,a0.M,a0.Sub,a0.Filter⟩:Zc) (⟨0,0,0,([]:By),(⟨0,0,0,0,0,0,0,([]:By),0,0,(⟨0,0⟩:Zb),(⟨0,0⟩:Zb),(⟨0,0⟩:Zb)⟩:Zg)⟩:Zc) a0.Kind (a0.Kind==3)) [.relab 1001 3000,.relab 1002 3001] (Zhh (⟨0,a0.N,a0.M,a0.Sub,a0.Filter⟩:Zc) (⟨0,0,0,([]:By),(⟨0,0,0,0,0,0,0,([]:By),0,0,(⟨0,0⟩:Zb),(⟨0,0⟩:Zb),(⟨0,0⟩:Zb)⟩:Zg)⟩:Zc) a0.Kind (a0.Kind==3)))<|.br (a0.Kind==6) (.jn 0 (.L0 (⟨0,a0.N,a0.M,a0.Sub,a0.Filter⟩:Zc) (⟨0,0,0,([]:By),(⟨0,0,0,0,0,0,0,([]:By),0,0,(⟨0,0⟩:Zb),(⟨0,0⟩:Zb),(⟨0,0⟩:Zb)⟩:Zg)⟩:Zc) a0.Kind (a0.Kind==6)) [.relab 1001 3000,.relab 1002 3001] (Zhh (⟨0,a0.N,a0.M,a0.Sub,a0.Filter⟩:Zc) (⟨0,0,0,([]:By),(⟨0,0,0,0,0,0,0,([]:By),0,0,(⟨0,0⟩:Zb),(⟨0,0⟩:Zb),(⟨0,0⟩:Zb)⟩:Zg)⟩:Zc) a0.Kind (a0.Kind==6)))<|.br (a0.Kind==7) (.jn 0 (.L0 (⟨0,a0.N,a0.M,a0.Sub,a0.Filter⟩:Zc) (⟨0,0,0,([]:By),(⟨0,0,0,0,0,0,0,([]:By),0,0,(⟨0,0⟩:Zb),(⟨0,0⟩:Zb),(⟨0,0⟩:Zb)⟩:Zg)⟩:Zc) a0.Kind (a0.Kind==7)) [.relab 1001 3000,.relab 1002 3001] (Zhh (⟨0,a0.N,a0.M,a0.Sub,a0.Filter⟩:Zc) (⟨0,0,0,([]:By),(⟨0,0,0,0,0,0,0,([]:By),0,0,(⟨0,0⟩:Zb),(⟨0,0⟩:Zb),(⟨0,0⟩:Zb)⟩:Zg)⟩:Zc) a0.Kind (a0.Kind==7)))<|.br (a0.Kind==8) (.jn 0 (.L0 (⟨0,a0.N,a0.M,a0.Sub,a0.Filter⟩:Zc) (⟨0,0,0,([]:By),(⟨0,0,0,0,0,0,0,([]:By),0,0,(⟨0,0⟩:Zb),(⟨0,0⟩:Zb),(⟨0,0⟩:Zb)⟩:Zg)⟩:Zc) a0.Kind (a0.Kind==8)) [.relab 1001 3000,.relab 1002 3001] (Zhh (⟨0,a0.N,a0.M,a0.Sub,a0.Filter⟩:Zc) (⟨0,0,0,([]:By),(⟨0,0,0,0,0,0,0,([]:By),0,0,(⟨0,0⟩:Zb),(⟨0,0⟩:Zb),(⟨0,0⟩:Zb)⟩:Zg)⟩:Zc) a0.Kind (a0.Kind==8)))<|.jn 0 (.L0 (⟨0,a0.N,a0.M,a0.Sub,a0.Filter⟩:Zc) (⟨0,0,0,([]:By),(⟨0,0,0,0,0,0,0,([]:By),0,0,(⟨0,0⟩:Zb),(⟨0,0⟩:Zb),(⟨0,0⟩:Zb)⟩:Zg)⟩:Zc) a0.Kind (a0.Kind==9)) [.relab 1001 3000,.relab 1002 3001] (Zhh (⟨0,a0.N,a0.M,a0.Sub,a0.Filter⟩:Zc) (⟨0,0,0,([]:By),(⟨0,0,0,0,0,0,0,([]:By),0,0,(⟨0,0⟩:Zb),(⟨0,0⟩:Zb),(⟨0,0⟩:Zb)⟩:Zg)⟩:Zc) a0.Kind (a0.Kind==9))
def Zalc:LF Zpw Zc := .m0 185 [.c 2 79 true 20] (fun r=>(wA (Zk r))) fun | .L0 E0 E1 v7 v8=>([1,1,1,0,1,4,1],⟨30,[(1,.bptr 3000 0),(2,.bptr 3001 0),(7,wI v7),(8,wB v8)],[(3000,.box (bx (Zk E0))),(3001,.box (bx (Zk E1)))]⟩,Zhh E0 E1 v7 v8) | .L1 E0 E1 v7 v16=>([1,1,1,0,1,4,1,3,1],⟨30,[(1,.bptr 3000 0),(2,.bptr 3001 0),(7,wI v7),(16,wB v16)],[(3000,.box (bx (Zk E0))),(3001,.box (bx (Zk E1)))]⟩,Zqv E0 E1 v7 v16)
def Zawe:=fun a0=>Zalc.run (Zalb a0)
theorem Za0k(a0){r}(h:Zawe a0=some r):Fn PR 185 [wA (Zk a0)] (wA (Zk r)):=Zalc.fn h
def Zafv(a0:Int):LT Empty Bool:=
.cs (decide (a0>=1)) (.k3 0<|.cs (decide (a0<=63)) (.k4 1<|.rt ((Zau .and .i64 a0 6)==0))<|.k4 1<|.rt false)<|.k3 0<|.b4 false<|.rt false
def Zafw:LF Empty Bool := .z0 186 [.t 2] wB
def Zarj:=fun a0=>Zafw.run (Zafv a0)
theorem Zawf(a0){r}(h:Zarj a0=some r):Fn PR 186 [wI a0] (wB r):=Zafw.fn h
inductive Zrx where
 | L0 (E0:Zc) (v18:Int) (v19:Bool)
 | L1 (E0:Zc) (v18:Int) (v25:Bool)
 | L2 (E0:Zc) (v18:Int) (v51:Bool)
def Zwt(E0:Zc)(v18:Int)(v51:Bool):LT Zrx Bool:=
.br v51 (.cs (decide (E0.N>=1)) (.k4 1<|.rt (decide (E0.N<=131071)))<|.k4 1<|.rt false)<|.br (v18==11) (.call (Zhq E0.Filter) fun x4=>.rt x4)<|.br (v18==12) (.cs (decide (E0.N>=0)) (.k4 3<|.cs (decide (E0.N<=99)) (.k4 4<|.cs (decide (E0.M>=0)) (.k4 5<|.rt (decide (E0.M<=99)))<|.k4 5<|.rt false)<|.k4 4<|.b4 false<|.rt false)<|.k4 3<|.b8 false<|.rt false)<|.br (v18==13) (.cs (decide (E0.N>=(-99))) (.k4 4<|.cs (decide (E0.N<=99)) (.k4 5<|.cs (decide (E0.M>=(-99))) (.k4 6<|.rt (decide (E0.M<=99)))<|.k4 6<|.rt false)<|.k4 5<|.b4 false<|.rt false)<|.k4 4<|.b8 false<|.rt false)<|.rt true
def Zwu(E0:Zc)(v18:Int)(v25:Bool):LT Zrx Bool:=
.br v25 (.call (Z0n E0.Sub) fun x2=>.rt x2)<|.br (v18==6) (.cs (decide (E0.N>=0)) (.k4 2<|.rt (decide (E0.N<=31)))<|.k4 2<|.rt false)<|.br (v18==7) (.cs (decide (E0.N>=1)) (.k4 3<|.rt (decide (E0.N<=31)))<|.k4 3<|.rt false)<|.br (v18==8) (.j0 (.L2 E0 v18 (v18==8)) (Zwt E0 v18 (v18==8)))<|.j0 (.L2 E0 v18 (v18==9)) (Zwt E0 v18 (v18==9))
def Zwv(E0:Zc)(v18:Int)(v19:Bool):LT Zrx Bool:=
.br v19 (.call (Zawf E0.N) fun x2=>.rt x2)<|.br (v18==4) (.j0 (.L1 E0 v18 (v18==4)) (Zwu E0 v18 (v18==4)))<|.j0 (.L1 E0 v18 (v18==5)) (Zwu E0 v18 (v18==5))
def Zawg(a0:Zc):LT Zrx Bool:=
.lb 1001<|.cs (decide (a0.Kind < 1)) (.k4 0<|.b5 true<|.kn [0]<|.rt false)<|.k4 0<|.cs (decide (a0.Kind > 14)) (.k5 1<|.kn [0]<|.rt false)<|.k2 1<|.call (Za0k a0) fun x3=>.k3 1<|.br (!(Z1 (Zk x3) (Zk (⟨0,0,0,([]:By),(⟨0,0,0,0,0,0,0,([]:By),0,0,(⟨0,0⟩:Zb),(⟨0,0⟩:Zb),(⟨0,0⟩:Zb)⟩:Zg)⟩:Zc)))) (.rt false)<|.br (a0.Kind==2) (.jn 0 (.L0 a0 a0.Kind (a0.Kind==2)) [.relab 1001 3000] (Zwv a0 a0.Kind (a0.Kind==2)))<|.jn 0 (.L0 a0 a0.Kind (a0.Kind==3)) [.relab 1001 3000] (Zwv a0 a0.Kind (a0.Kind==3))
def Zawh:LF Zrx Bool := .m0 137 [.t 2] wB fun | .L0 E0 v18 v19=>([1,1,0,1,4,1],⟨107,[(1,.bptr 3000 0),(18,wI v18),(19,wB v19)],[(3000,.box (bx (Zk E0)))]⟩,Zwv E0 v18 v19) | .L1 E0 v18 v25=>([1,1,0,1,4,1,3,1],⟨107,[(1,.bptr 3000 0),(18,wI v18),(25,wB v25)],[(3000,.box (bx (Zk E0)))]⟩,Zwu E0 v18 v25) | .L2 E0 v18 v51=>([1,1,0,1,4,1,3,1,3,1,3,1,3,1],⟨107,[(1,.bptr 3000 0),(18,wI v18),(51,wB v51)],[(3000,.box (bx (Zk E0)))]⟩,Zwt E0 v18 v51)
def Za7m:=fun a0=>Zawh.run (Zawg a0)
theorem Zark(a0){r}(h:Za7m a0=some r):Fn PR 137 [wA (Zk a0)] (wB r):=Zawh.fn h
inductive Zov where
 | L0 (v0:Bys) (v1:Int) (v2:By) (v7:By) (v8:Int)
def Z9f(v0:Bys)(v1:Int)(v2:By)(v7:By)(v8:Int):LT Zov (By):=
.len cS v0<|.br (decide (v8 < (v0.length:Int))) (.call (Z77 v1 v8) fun x3=>.br x3 (.br (!(v7==([]:By))) (.ok (v7.length+v2.length<=9223372036854775807)<|.idx cS v0 v8 fun x10=>.ok ((v7++v2).length+x10.length<=9223372036854775807)<|.g0 (.L0 v0 v1 v2 ((v7++v2)++x10) (IntKind.wrap .i64 (v8+1))))<|.idx cS v0 v8 fun x17=>.ok (v7.length+x17.length<=9223372036854775807)<|.g0 (.L0 v0 v1 v2 (v7++x17) (IntKind.wrap .i64 (v8+1))))<|.g0 (.L0 v0 v1 v2 v7 (IntKind.wrap .i64 (v8+1))))<|.rt v7
def Zab1(a0:Bys)(a1:Int)(a2:By):LT Zov (By):=
.g0 (.L0 a0 a1 a2 ([]:By) 0)
def Z0r:LF Zov (By) := .m0 231 [.t 6] wS fun | .L0 v0 v1 v2 v7 v8=>([1,1,0,1,4],⟨30,[(0,wL cS v0),(1,wI v1),(2,wS v2),(7,wS v7),(8,wI v8)],[]⟩,Z9f v0 v1 v2 v7 v8)
def Zald:=fun a0 a1 a2=>Z0r.run (Zab1 a0 a1 a2)
theorem Zasw(a0)(a1)(a2){r}(h:Zald a0 a1 a2=some r):Fn PR 231 [wL cS a0,wI a1,wS a2] (wS r):=Z0r.fn h
def Z2y(a0:Int):LT Empty (By):=
.cs (decide (a0 < 1)) (.k3 0<|.kn [0]<|.rt ([]:By))<|.k3 0<|.br (decide (a0 > 63)) (.rt ([]:By))<|.call (Z0m) fun x3=>.call (Zasw x3 a0 ([43]:By)) fun x5=>.rt x5
def Z2z:LF Empty (By) := .z0 187 [.t 2] wS
def Z9g:=fun a0=>Z2z.run (Z2y a0)
theorem Zry(a0){r}(h:Z9g a0=some r):Fn PR 187 [wI a0] (wS r):=Z2z.fn h
def Zawi(a0:Int):LT Empty Bool:=
.cs (decide (a0>=0)) (.k3 0<|.rt (decide (a0<=31)))<|.k3 0<|.rt false
def Zawj:LF Empty Bool := .z0 232 [.t 2] wB
def Za7n:=fun a0=>Zawj.run (Zawi a0)
theorem Za7o(a0){r}(h:Za7n a0=some r):Fn PR 232 [wI a0] (wB r):=Zawj.fn h
def Zale(a0:Int):LT Empty (By):=
.br (a0==0) (.rt ([97,109,98,101,114]:By))<|.br (a0==1) (.rt ([99,111,98,97,108,116]:By))<|.br (a0==2) (.rt ([106,101,116]:By))<|.br (a0==3) (.rt ([114,117,98,121]:By))<|.br (a0==4) (.rt ([101,109,101,114,97,108,100]:By))<|.rt ([]:By)
def Zalf:LF Empty (By) := .z0 233 [.t 2] wS
def Zawk:=fun a0=>Zalf.run (Zale a0)
theorem Zv7(a0){r}(h:Zawk a0=some r):Fn PR 233 [wI a0] (wS r):=Zalf.fn h
inductive Ztd where
 | L0 (v0:Int) (v3:By) (v4:Int)
def Zafx(v0:Int)(v3:By)(v4:Int):LT Ztd (By):=
.br (decide (v4 < 5)) (.ok (¬ v4 < 0)<|.ok ((Z0h .i64 1 v4)≠0)<|.dc ((2:Int)≠0) rfl<|.br ((Int.tmod (Zjz .i64 v0 (Z0h .i64 1 v4)) 2)==1) (.br (!(v3==([]:By))) (.ok (v3.length+([43]:By).length<=9223372036854775807)<|.call (Zv7 v4) fun x10=>.ok ((v3++([43]:By)).length+x10.length<=9223372036854775807)<|.g0 (.L0 v0 ((v3++([43]:By))++x10) (IntKind.wrap .i64 (v4+1))))<|.call (Zv7 v4) fun x17=>.ok (v3.length+x17.length<=9223372036854775807)<|.g0 (.L0 v0 (v3++x17) (IntKind.wrap .i64 (v4+1))))<|.g0 (.L0 v0 v3 (IntKind.wrap .i64 (v4+1))))<|.rt v3
def Zalg(a0:Int):LT Ztd (By):=
.call (Za7o a0) fun x1=>.br (!x1) (.rt ([]:By))<|.br (a0==0) (.rt ([110,111,110,101]:By))<|.g0 (.L0 a0 ([]:By) 0)
def Z78:LF Ztd (By) := .m0 188 [.t 2] wS fun | .L0 v0 v3 v4=>([1,1,1,1,0,1,4],⟨29,[(0,wI v0),(3,wS v3),(4,wI v4)],[]⟩,Zafx v0 v3 v4)
def Zawl:=fun a0=>Z78.run (Zalg a0)
theorem Zafy(a0){r}(h:Zawl a0=some r):Fn PR 188 [wI a0] (wS r):=Z78.fn h
def Zafz:LT Empty (Bys):=
.lb 1001<|.ret [([102,108,121,105,110,103]:By),([114,101,97,99,104]:By),([104,97,115,116,101]:By),([118,105,103,105,108,97,110,116]:By),([116,114,97,109,112,108,101]:By),([102,105,114,115,116,45,115,116,114,105,107,101]:By),([100,111,117,98,108,101,45,115,116,114,105,107,101]:By),([100,101,97,100,108,121]:By),([108,105,102,101,108,105,110,107]:By),([109,101,110,97,99,101]:By),([100,101,102,101,110,100,101,114]:By),([119,97,114,100,101,100]:By),([115,116,117,114,100,121]:By),([101,108,117,115,105,118,101]:By),([110,111,45,97,116,116,97,99,107]:By),([110,111,45,98,108,111,99,107]:By),([109,117,115,116,45,97,116,116,97,99,107]:By)] [.relab 1001 5000]
def Zaf0:LF Empty (Bys) := .z 261 [.t 0] true (fun r=>[(5000,wR cS 1 r)]) (fun r=>(wO cS 5000 r))
def Zab2:=Zaf0.run (Zafz)
theorem Zasx{r}(h:Zab2=some r):FnG PR 261 [] [] [(5000,wR cS 1 r)] (wO cS 5000 r):=Zaf0.fn h
theorem Zawm{r:Bys}(h:Zab2=some r):Fn PR 261 [] (wL cS r):=
 FnG.frozen (C:=LT.RL cS r/\True) (Zasx h) ⟨rfl,trivial⟩ (by kernel_rfl)
def Zalh(a0:Int):LT Empty (By):=
.cs (decide (a0 < 0)) (.k3 0<|.kn [0]<|.rt ([]:By))<|.k3 0<|.br (decide (a0 > 16)) (.rt ([]:By))<|.call (Zawm) fun x3=>.idx cS x3 a0 fun x5=>.rt x5
def Zali:LF Empty (By) := .z0 234 [.t 2] wS
def Zawn:=fun a0=>Zali.run (Zalh a0)
theorem Z42(a0){r}(h:Zawn a0=some r):Fn PR 234 [wI a0] (wS r):=Zali.fn h
inductive Zte where
 | L0 (v0:Int) (v3:By) (v4:Int)
def Zaf1(v0:Int)(v3:By)(v4:Int):LT Zte (By):=
.br (decide (v4 < 17)) (.dc ((2:Int)≠0) rfl<|.br ((Int.tmod v0 2)==1) (.br (!(v3==([]:By))) (.ok (v3.length+([43]:By).length<=9223372036854775807)<|.call (Z42 v4) fun x6=>.ok ((v3++([43]:By)).length+x6.length<=9223372036854775807)<|.dc ((2:Int)≠0) rfl<|.g0 (.L0 (Zjz .i64 v0 2) ((v3++([43]:By))++x6) (IntKind.wrap .i64 (v4+1))))<|.call (Z42 v4) fun x13=>.ok (v3.length+x13.length<=9223372036854775807)<|.dc ((2:Int)≠0) rfl<|.g0 (.L0 (Zjz .i64 v0 2) (v3++x13) (IntKind.wrap .i64 (v4+1))))<|.dc ((2:Int)≠0) rfl<|.g0 (.L0 (Zjz .i64 v0 2) v3 (IntKind.wrap .i64 (v4+1))))<|.br (v3==([]:By)) (.rt ([110,111,110,101]:By))<|.rt v3
def Zalj(a0:Int):LT Zte (By):=
.call (Zari a0) fun x1=>.br (!x1) (.rt ([]:By))<|.g0 (.L0 a0 ([]:By) 0)
def Z79:LF Zte (By) := .m0 189 [.t 2] wS fun | .L0 v0 v3 v4=>([1,1,1,0,1,4],⟨28,[(0,wI v0),(3,wS v3),(4,wI v4)],[]⟩,Zaf1 v0 v3 v4)
def Zawo:=fun a0=>Z79.run (Zalj a0)
theorem Zaf2(a0){r}(h:Zawo a0=some r):Fn PR 189 [wI a0] (wS r):=Z79.fn h
def Z20:LT Empty (Bys):=
.lb 1001<|.ret [([]:By),([105,110,45,104,97,110,100]:By),([105,110,45,108,105,98,114,97,114,121]:By),([105,110,45,103,114,97,118,101,121,97,114,100]:By),([105,110,45,101,120,105,108,101]:By),([111,110,45,115,116,97,99,107]:By)] [.relab 1001 5000]
def Z21:LF Empty (Bys) := .z 235 [.t 0] true (fun r=>[(5000,wR cS 1 r)]) (fun r=>(wO cS 5000 r))
def Zx1:=Z21.run (Z20)
theorem Zae4{r}(h:Zx1=some r):FnG PR 235 [] [] [(5000,wR cS 1 r)] (wO cS 5000 r):=Z21.fn h
theorem Zait{r:Bys}(h:Zx1=some r):Fn PR 235 [] (wL cS r):=
 FnG.frozen (C:=LT.RL cS r/\True) (Zae4 h) ⟨rfl,trivial⟩ (by kernel_rfl)
def Z6a:LT Empty (Bys):=
.lb 1001<|.ret [([]:By),([121,111,117,114,115]:By),([116,104,101,105,114,115]:By)] [.relab 1001 5000]
def Z6b:LF Empty (Bys) := .z 236 [.t 0] true (fun r=>[(5000,wR cS 1 r)]) (fun r=>(wO cS 5000 r))
def Z0s:=Z6b.run (Z6a)
theorem Zaiu{r}(h:Z0s=some r):FnG PR 236 [] [] [(5000,wR cS 1 r)] (wO cS 5000 r):=Z6b.fn h
theorem Zalk{r:Bys}(h:Z0s=some r):Fn PR 236 [] (wL cS r):=
 FnG.frozen (C:=LT.RL cS r/\True) (Zaiu h) ⟨rfl,trivial⟩ (by kernel_rfl)
def Z22:LT Empty (Bys):=
.lb 1001<|.ret [([]:By),([115,101,108,102]:By),([111,116,104,101,114]:By)] [.relab 1001 5000]
def Z23:LF Empty (Bys) := .z 237 [.t 0] true (fun r=>[(5000,wR cS 1 r)]) (fun r=>(wO cS 5000 r))
def Zx2:=Z23.run (Z22)
theorem Zae5{r}(h:Zx2=some r):FnG PR 237 [] [] [(5000,wR cS 1 r)] (wO cS 5000 r):=Z23.fn h
theorem Zaiv{r:Bys}(h:Zx2=some r):Fn PR 237 [] (wL cS r):=
 FnG.frozen (C:=LT.RL cS r/\True) (Zae5 h) ⟨rfl,trivial⟩ (by kernel_rfl)
def Z6c:LT Empty (Bys):=
.lb 1001<|.ret [([]:By),([116,97,112,112,101,100]:By),([117,110,116,97,112,112,101,100]:By)] [.relab 1001 5000]
def Z6d:LF Empty (Bys) := .z 238 [.t 0] true (fun r=>[(5000,wR cS 1 r)]) (fun r=>(wO cS 5000 r))
def Z0t:=Z6d.run (Z6c)
theorem Zaiw{r}(h:Z0t=some r):FnG PR 238 [] [] [(5000,wR cS 1 r)] (wO cS 5000 r):=Z6d.fn h
theorem Zall{r:Bys}(h:Z0t=some r):Fn PR 238 [] (wL cS r):=
 FnG.frozen (C:=LT.RL cS r/\True) (Zaiw h) ⟨rfl,trivial⟩ (by kernel_rfl)
inductive Zww where
 | L0 (v0:Int) (v1:Int) (v5:Int)
def Zalm(v0:Int)(v1:Int)(v5:Int):LT Zww Bool:=
.br (decide (v5 < v1)) (.dc ((2:Int)≠0) rfl<|.g0 (.L0 (Zjz .i64 v0 2) v1 (IntKind.wrap .i64 (v5+1))))<|.dc ((2:Int)≠0) rfl<|.rt ((Int.tmod v0 2)==1)
def Zarl(a0:Int)(a1:Int):LT Zww Bool:=
.g0 (.L0 a0 a1 0)
def Zab3:LF Zww Bool := .m0 240 [.t 4] wB fun | .L0 v0 v1 v5=>([1,0,1,4],⟨16,[(0,wI v0),(1,wI v1),(5,wI v5)],[]⟩,Zalm v0 v1 v5)
def Za18:=fun a0 a1=>Zab3.run (Zarl a0 a1)
theorem Ztf(a0)(a1){r}(h:Za18 a0 a1=some r):Fn PR 240 [wI a0,wI a1] (wB r):=Zab3.fn h
inductive Zlm where
 | L0 (v0:Int) (v3:Int) (v4:Int)
def Z24(v0:Int)(v3:Int)(v4:Int):LT Zlm (By):=
.br (decide (v4 < v0)) (.g0 (.L0 v0 (IntKind.wrap .i64 (v3*2)) (IntKind.wrap .i64 (v4+1))))<|.call (Zry v3) fun x6=>.rt x6
def Z6e(a0:Int):LT Zlm (By):=
.g0 (.L0 a0 1 0)
def Zu7:LF Zlm (By) := .m0 241 [.t 2] wS fun | .L0 v0 v3 v4=>([1,1,0,1,4],⟨14,[(0,wI v0),(3,wI v3),(4,wI v4)],[]⟩,Z24 v0 v3 v4)
def Zab4:=fun a0=>Zu7.run (Z6e a0)
theorem Z25(a0){r}(h:Zab4 a0=some r):Fn PR 241 [wI a0] (wS r):=Zu7.fn h
def Zaf3:LT Empty (Bys):=
.lb 1001<|.ret [([]:By),([62,61]:By),([60,61]:By),([61]:By)] [.relab 1001 5000]
def Zaf4:LF Empty (Bys) := .z 262 [.t 0] true (fun r=>[(5000,wR cS 1 r)]) (fun r=>(wO cS 5000 r))
def Zab5:=Zaf4.run (Zaf3)
theorem Zasy{r}(h:Zab5=some r):FnG PR 262 [] [] [(5000,wR cS 1 r)] (wO cS 5000 r):=Zaf4.fn h
theorem Zawp{r:Bys}(h:Zab5=some r):Fn PR 262 [] (wL cS r):=
 FnG.frozen (C:=LT.RL cS r/\True) (Zasy h) ⟨rfl,trivial⟩ (by kernel_rfl)
inductive Z0u where
 | L0 (v0:Int) (v3:By)
def Zh7(v0:Int)(v3:By):LT Z0u (By):=
.br (decide (v0 > 0)) (.dc ((10:Int)≠0) rfl<|.dr [.lit]<|.str [IntKind.wrap .u8 (IntKind.wrap .u64 (48+(Int.tmod v0 10)))] fun x4=>.ok (x4.length+v3.length<=9223372036854775807)<|.dc ((10:Int)≠0) rfl<|.g0 (.L0 (Zjz .u64 v0 10) (x4++v3)))<|.rt v3
def Zab6(a0:Int):LT Z0u (By):=
.dc ((10:Int)≠0) rfl<|.dr [.lit]<|.str [IntKind.wrap .u8 (IntKind.wrap .u64 (48+(Int.tmod a0 10)))] fun x3=>.dc ((10:Int)≠0) rfl<|.g0 (.L0 (Zjz .u64 a0 10) x3)
def Ztg:LF Z0u (By) := .m0 244 [.t 2] wS fun | .L0 v0 v3=>([1,1,0,1,4],⟨25,[(0,.t (.int .u64 v0)),(3,wS v3)],[]⟩,Zh7 v0 v3)
def Z8a:=fun a0=>Ztg.run (Zab6 a0)
theorem Z9h(a0){r}(h:Z8a a0=some r):Fn PR 244 [.t (.int .u64 a0)] (wS r):=Ztg.fn h
def Zaln(a0:Int):LT Empty (By):=
.br (decide (a0 < 0)) (.call (Z9h (IntKind.wrap .u64 (0 - (IntKind.wrap .u64 a0)))) fun x4=>.ok (([45]:By).length+x4.length<=9223372036854775807)<|.rt (([45]:By)++x4))<|.call (Z9h (IntKind.wrap .u64 a0)) fun x10=>.rt x10
def Zalo:LF Empty (By) := .z0 191 [.t 2] wS
def Zawq:=fun a0=>Zalo.run (Zaln a0)
theorem Zny(a0){r}(h:Zawq a0=some r):Fn PR 191 [wI a0] (wS r):=Zalo.fn h
def Z26(a0:By)(a1:Zb):LT Empty (By):=
.lb 1003<|.br (a1.Kind==0) (.rt ([]:By))<|.call (Zawp) fun x2=>.idx cS x2 a1.Kind fun x4=>.ok (a0.length+x4.length<=9223372036854775807)<|.call (Zny a1.N) fun x10=>.ok ((a0++x4).length+x10.length<=9223372036854775807)<|.rt ((a0++x4)++x10)
def Z27:LF Empty (By) := .z0 242 [.t 4] wS
def Z9i:=fun a0 a1=>Z27.run (Z26 a0 a1)
theorem Zrz(a0)(a1){r}(h:Z9i a0 a1=some r):Fn PR 242 [wS a0,wA (Zb3 a1)] (wS r):=Z27.fn h
inductive Zth where
 | L0 (v0:Bys) (v1:By) (v5:By) (v6:Int)
def Zaf5(v0:Bys)(v1:By)(v5:By)(v6:Int):LT Zth (By):=
.len cS v0<|.br (decide (v6 < (v0.length:Int))) (.br (decide (v6 > 0)) (.ok (v5.length+v1.length<=9223372036854775807)<|.idx cS v0 v6 fun x7=>.ok ((v5++v1).length+x7.length<=9223372036854775807)<|.g0 (.L0 v0 v1 ((v5++v1)++x7) (IntKind.wrap .i64 (v6+1))))<|.idx cS v0 v6 fun x14=>.ok (v5.length+x14.length<=9223372036854775807)<|.g0 (.L0 v0 v1 (v5++x14) (IntKind.wrap .i64 (v6+1))))<|.rt v5
def Zalp(a0:Bys)(a1:By):LT Zth (By):=
.g0 (.L0 a0 a1 ([]:By) 0)
def Z8b:LF Zth (By) := .m0 243 [.t 4] wS fun | .L0 v0 v1 v5 v6=>([1,1,0,1,4],⟨25,[(0,wL cS v0),(1,wS v1),(5,wS v5),(6,wI v6)],[]⟩,Zaf5 v0 v1 v5 v6)
def Zawr:=fun a0 a1=>Z8b.run (Zalp a0 a1)
theorem Za0l(a0)(a1){r}(h:Zawr a0 a1=some r):Fn PR 243 [wL cS a0,wS a1] (wS r):=Z8b.fn h
def Z6f(b0:Bys)(a1:By):LT Empty (Bys):=
.br (a1==([]:By)) (.ret b0 [.relab 0 5000])<|.dr [.lit]<|.apR cS 16 b0 [a1] fun x2=>.ret x2 [.relab 0 5000]
def Z6g:LF Empty (Bys) := .z 239 [.t 4] true (fun r=>[(5000,wR cS 1 r)]) (fun r=>(wO cS 5000 r))
def Zab7:=fun b0 a1=>Z6g.run (Z6f b0 a1)
theorem Zfw(b0)(a1){r}(h:Zab7 b0 a1=some r):FnG PR 239 [(0,wR cS 1 b0)] [wO cS 0 b0,wS a1] [(5000,wR cS 1 r)] (wO cS 5000 r):=Z6g.fn h
inductive Zhi where
 | L0 (E0:Zg) (v6:Bys) (v7:Bys) (v8:Int)
 | L1 (E0:Zg) (v6:Bys) (v7:Bys) (v9:Int)
 | L2 (E0:Zg) (v6:Bys) (v7:Bys) (v10:Int)
 | L3 (E0:Zg) (v6:Bys) (v7:Bys) (v11:Int)
 | L4 (E0:Zg) (v6:Bys) (v7:Bys)
 | L5 (E0:Zg) (v6:Bys) (v7:Bys) (v12:Int)
def Zqw(E0:Zg)(v6:Bys)(v7:Bys):LT Zhi (By):=
.g0 (.L5 E0 v6 v7 0)
def Zaf6(E0:Zg)(v6:Bys)(v7:Bys)(v8:Int):LT Zhi (By):=
.br (decide (v8 < 6)) (.call (Ztf E0.Types v8) fun x2=>.br x2 (.call (Z25 v8) fun x5=>.dr [.lit]<|.apR cS 16 v7 [x5] fun x7=>.g0 (.L0 E0 v6 x7 (IntKind.wrap .i64 (v8+1))))<|.g0 (.L0 E0 v6 v7 (IntKind.wrap .i64 (v8+1))))<|.g0 (.L1 E0 v6 v7 0)
def Zaf7(E0:Zg)(v6:Bys)(v7:Bys)(v9:Int):LT Zhi (By):=
.br (decide (v9 < 6)) (.call (Ztf E0.NotTypes v9) fun x2=>.br x2 (.call (Z25 v9) fun x5=>.ok (([110,111,110,45]:By).length+x5.length<=9223372036854775807)<|.dr [.lit]<|.apR cS 16 v7 [([110,111,110,45]:By)++x5] fun x10=>.g0 (.L1 E0 v6 x10 (IntKind.wrap .i64 (v9+1))))<|.g0 (.L1 E0 v6 v7 (IntKind.wrap .i64 (v9+1))))<|.g0 (.L2 E0 v6 v7 0)
def Zaf8(E0:Zg)(v6:Bys)(v7:Bys)(v10:Int):LT Zhi (By):=
.br (decide (v10 < 5)) (.call (Ztf E0.Colors v10) fun x2=>.br x2 (.call (Zv7 v10) fun x5=>.dr [.lit]<|.apR cS 16 v7 [x5] fun x7=>.g0 (.L2 E0 v6 x7 (IntKind.wrap .i64 (v10+1))))<|.g0 (.L2 E0 v6 v7 (IntKind.wrap .i64 (v10+1))))<|.g0 (.L3 E0 v6 v7 0)
def Zaf9(E0:Zg)(v6:Bys)(v7:Bys)(v11:Int):LT Zhi (By):=
.br (decide (v11 < 5)) (.call (Ztf E0.NotColors v11) fun x2=>.br x2 (.call (Zv7 v11) fun x5=>.ok (([110,111,110,45]:By).length+x5.length<=9223372036854775807)<|.dr [.lit]<|.apR cS 16 v7 [([110,111,110,45]:By)++x5] fun x10=>.g0 (.L3 E0 v6 x10 (IntKind.wrap .i64 (v11+1))))<|.g0 (.L3 E0 v6 v7 (IntKind.wrap .i64 (v11+1))))<|.br (!(E0.Sub==([]:By))) (.ok (([115,117,98,58]:By).length+E0.Sub.length<=9223372036854775807)<|.dr [.lit]<|.apR cS 16 v7 [([115,117,98,58]:By)++E0.Sub] fun x21=>.j0 (.L4 E0 v6 x21) (Zqw E0 v6 x21))<|.j0 (.L4 E0 v6 v7) (Zqw E0 v6 v7)
def Zaga(E0:Zg)(v6:Bys)(v7:Bys)(v12:Int):LT Zhi (By):=
.br (decide (v12 < 17)) (.call (Ztf E0.Keys v12) fun x2=>.br x2 (.call (Z42 v12) fun x5=>.ok (([119,105,116,104,58]:By).length+x5.length<=9223372036854775807)<|.dr [.lit]<|.apR cS 16 v7 [([119,105,116,104,58]:By)++x5] fun x10=>.g0 (.L5 E0 v6 x10 (IntKind.wrap .i64 (v12+1))))<|.g0 (.L5 E0 v6 v7 (IntKind.wrap .i64 (v12+1))))<|.idx cS v6 E0.Tap fun x17=>.callU (Zfw v7 x17) [20007] 1250000 fun x19=>.call (Zrz ([112,111,119,101,114]:By) E0.Power) fun x21=>.callU (Zfw x19 x21) [1255000] 1300000 fun x23=>.call (Zrz ([116,111,117,103,104]:By) E0.Tough) fun x25=>.callU (Zfw x23 x25) [1305000] 1350000 fun x27=>.call (Zrz ([118,97,108,117,101]:By) E0.Value) fun x29=>.callU (Zfw x27 x29) [1355000] 1400000 fun x31=>.lenO cS x31<|.br ((x31.length:Int)==0) (.rt ([97,110,121]:By))<|.rl cS x31<|.call (Za0l x31 ([32]:By)) fun x34=>.rt x34
def Zalq(a0:Zg):LT Zhi (By):=
.lb 1001<|.call (Zhq a0) fun x1=>.br (!x1) (.rt ([]:By))<|.call (Zait) fun x4=>.call (Zalk) fun x6=>.call (Zaiv) fun x8=>.call (Zall) fun x10=>.idx cS x4 a0.Zone fun x12=>.dr [.ahead 26,.own 20 70260 1,.stop]<|.callU (Zfw ([]:Bys) x12) [70260] 270000 fun x14=>.idx cS x6 a0.Who fun x16=>.callU (Zfw x14 x16) [275000] 340000 fun x18=>.idx cS x8 a0.Self fun x20=>.callU (Zfw x18 x20) [345000] 410000 fun x22=>.go (.L0 a0 x10 x22 0) [.relab 1001 3000,.relab 415000 20007]
def Zmy:LF Zhi (By) := .m0 190 [.t 2] wS fun | .L0 E0 v6 v7 v8=>([1,1,1,1,1,1,1,1,1,1,0,1,4],⟨145,[(1,.bptr 3000 0),(6,wL cS v6),(7,wO cS 20007 v7),(8,wI v8)],[(3000,.box (bx (Zo E0))),(20007,wR cS 1 v7)]⟩,Zaf6 E0 v6 v7 v8) | .L1 E0 v6 v7 v9=>([1,1,1,1,1,1,1,1,1,1,1,0,1,4],⟨145,[(1,.bptr 3000 0),(6,wL cS v6),(7,wO cS 20007 v7),(9,wI v9)],[(3000,.box (bx (Zo E0))),(20007,wR cS 1 v7)]⟩,Zaf7 E0 v6 v7 v9) | .L2 E0 v6 v7 v10=>([1,1,1,1,1,1,1,1,1,1,1,1,0,1,4],⟨145,[(1,.bptr 3000 0),(6,wL cS v6),(7,wO cS 20007 v7),(10,wI v10)],[(3000,.box (bx (Zo E0))),(20007,wR cS 1 v7)]⟩,Zaf8 E0 v6 v7 v10) | .L3 E0 v6 v7 v11=>([1,1,1,1,1,1,1,1,1,1,1,1,1,0,1,4],⟨145,[(1,.bptr 3000 0),(6,wL cS v6),(7,wO cS 20007 v7),(11,wI v11)],[(3000,.box (bx (Zo E0))),(20007,wR cS 1 v7)]⟩,Zaf9 E0 v6 v7 v11) | .L4 E0 v6 v7=>([1,1,1,1,1,1,1,1,1,1,1,1,1,1,1],⟨145,[(1,.bptr 3000 0),(6,wL cS v6),(7,wO cS 20007 v7)],[(3000,.box (bx (Zo E0))),(20007,wR cS 1 v7)]⟩,Zqw E0 v6 v7) | .L5 E0 v6 v7 v12=>([1,1,1,1,1,1,1,1,1,1,1,1,1,1,1,0,1,4],⟨145,[(1,.bptr 3000 0),(6,wL cS v6),(7,wO cS 20007 v7),(12,wI v12)],[(3000,.box (bx (Zo E0))),(20007,wR cS 1 v7)]⟩,Zaga E0 v6 v7 v12)
def Zaws:=fun a0=>Zmy.run (Zalq a0)
theorem Za0m(a0){r}(h:Zaws a0=some r):Fn PR 190 [wA (Zo a0)] (wS r):=Zmy.fn h
def Zalr(a0:Zc):LT Empty (By):=
.lb 1001<|.call (Zark a0) fun x1=>.br (!x1) (.rt ([]:By))<|.br (a0.Kind==1) (.rt ([99,111,110,116,114,111,108]:By))<|.br (a0.Kind==2) (.call (Zry a0.N) fun x6=>.ok (([116,121,112,101,115,61]:By).length+x6.length<=9223372036854775807)<|.rt (([116,121,112,101,115,61]:By)++x6))<|.br (a0.Kind==3) (.call (Zry a0.N) fun x12=>.ok (([116,121,112,101,115,43,61]:By).length+x12.length<=9223372036854775807)<|.rt (([116,121,112,101,115,43,61]:By)++x12))<|.br (a0.Kind==4) (.ok (([115,117,98,61]:By).length+a0.Sub.length<=9223372036854775807)<|.rt (([115,117,98,61]:By)++a0.Sub))<|.br (a0.Kind==5) (.ok (([115,117,98,43,61]:By).length+a0.Sub.length<=9223372036854775807)<|.rt (([115,117,98,43,61]:By)++a0.Sub))<|.br (a0.Kind==6) (.call (Zafy a0.N) fun x26=>.ok (([99,111,108,111,114,115,61]:By).length+x26.length<=9223372036854775807)<|.rt (([99,111,108,111,114,115,61]:By)++x26))<|.br (a0.Kind==7) (.call (Zafy a0.N) fun x32=>.ok (([99,111,108,111,114,115,43,61]:By).length+x32.length<=9223372036854775807)<|.rt (([99,111,108,111,114,115,43,61]:By)++x32))<|.br (a0.Kind==8) (.call (Zaf2 a0.N) fun x38=>.ok (([107,101,121,115,43,61]:By).length+x38.length<=9223372036854775807)<|.rt (([107,101,121,115,43,61]:By)++x38))<|.br (a0.Kind==9) (.call (Zaf2 a0.N) fun x44=>.ok (([107,101,121,115,45,61]:By).length+x44.length<=9223372036854775807)<|.rt (([107,101,121,115,45,61]:By)++x44))<|.br (a0.Kind==10) (.rt ([98,108,97,110,107]:By))<|.br (a0.Kind==11) (.call (Za0m a0.Filter) fun x51=>.ok (([112,116,61,99,111,117,110,116,40]:By).length+x51.length<=9223372036854775807)<|.ok ((([112,116,61,99,111,117,110,116,40]:By)++x51).length+([41]:By).length<=9223372036854775807)<|.rt ((([112,116,61,99,111,117,110,116,40]:By)++x51)++([41]:By)))<|.br (a0.Kind==12) (.call (Zny a0.N) fun x58=>.ok (([112,116,61]:By).length+x58.length<=9223372036854775807)<|.ok ((([112,116,61]:By)++x58).length+([47]:By).length<=9223372036854775807)<|.call (Zny a0.M) fun x65=>.ok (((([112,116,61]:By)++x58)++([47]:By)).length+x65.length<=9223372036854775807)<|.rt (((([112,116,61]:By)++x58)++([47]:By))++x65))<|.br (a0.Kind==13) (.call (Zny a0.N) fun x71=>.ok (([112,116,43,61]:By).length+x71.length<=9223372036854775807)<|.ok ((([112,116,43,61]:By)++x71).length+([47]:By).length<=9223372036854775807)<|.call (Zny a0.M) fun x78=>.ok (((([112,116,43,61]:By)++x71)++([47]:By)).length+x78.length<=9223372036854775807)<|.rt (((([112,116,43,61]:By)++x71)++([47]:By))++x78))<|.rt ([112,116,45,115,119,105,116,99,104]:By)
def Zals:LF Empty (By) := .z0 138 [.t 2] wS
def Zawt:=fun a0=>Zals.run (Zalr a0)
theorem Zagb(a0){r}(h:Zawt a0=some r):Fn PR 138 [wA (Zk a0)] (wS r):=Zals.fn h
inductive Zln where
 | L0 (v0:List Zc) (v3:By) (v4:Int)
def Z28(v0:List Zc)(v3:By)(v4:Int):LT Zln (By):=
.len Zk v0<|.br (decide (v4 < (v0.length:Int))) (.idx Zk v0 v4 fun x3=>.call (Zark x3) fun x5=>.br (!x5) (.rt ([]:By))<|.br (decide (v4 > 0)) (.ok (v3.length+([44,32]:By).length<=9223372036854775807)<|.ag Zk x3 0<|.call (Zagb x3) fun x11=>.ok ((v3++([44,32]:By)).length+x11.length<=9223372036854775807)<|.g0 (.L0 v0 ((v3++([44,32]:By))++x11) (IntKind.wrap .i64 (v4+1))))<|.ag Zk x3 0<|.call (Zagb x3) fun x17=>.ok (v3.length+x17.length<=9223372036854775807)<|.g0 (.L0 v0 (v3++x17) (IntKind.wrap .i64 (v4+1))))<|.rt v3
def Z6h(a0:List Zc):LT Zln (By):=
.len Zk a0<|.cs ((a0.length:Int)==0) (.k4 0<|.kn [0]<|.rt ([]:By))<|.k2 0<|.len Zk a0<|.k2 0<|.br (decide ((a0.length:Int) > 6)) (.rt ([]:By))<|.g0 (.L0 a0 ([]:By) 0)
def Zu8:LF Zln (By) := .m0 87 [.t 2] wS fun | .L0 v0 v3 v4=>([1,1,1,0,1,4],⟨37,[(0,wL Zk v0),(3,wS v3),(4,wI v4)],[]⟩,Z28 v0 v3 v4)
def Zab8:=fun a0=>Zu8.run (Z6h a0)
theorem Zti(a0){r}(h:Zab8 a0=some r):Fn PR 87 [wL Zk a0] (wS r):=Zu8.fn h
def Zagc(a0:Zgs):LT Empty Bool:=
.lb 1001<|.call (Zwr a0.Mana) fun x1=>.cs x1 (.k5 0<|.cs (a0.Mana.X==0) (.k4 1<|.cs (decide (a0.Life>=0)) (.k4 2<|.rt (decide (a0.Life<=99)))<|.k4 2<|.rt false)<|.k4 1<|.b4 false<|.rt false)<|.k5 0<|.b8 false<|.rt false
def Zagd:LF Empty Bool := .z0 124 [.t 2] wB
def Zarm:=fun a0=>Zagd.run (Zagc a0)
theorem Zawu(a0){r}(h:Zarm a0=some r):Fn PR 124 [wA (Zdk a0)] (wB r):=Zagd.fn h
def Zalt(a0:Int):LT Empty (By):=
.br (a0==1) (.rt ([101,110,116,101,114,115]:By))<|.br (a0==2) (.rt ([108,101,97,118,101,115]:By))<|.br (a0==3) (.rt ([100,105,101,115]:By))<|.br (a0==4) (.rt ([97,116,116,97,99,107,115]:By))<|.br (a0==5) (.rt ([98,108,111,99,107,115]:By))<|.br (a0==6) (.rt ([100,101,97,108,115]:By))<|.br (a0==7) (.rt ([100,101,97,108,116]:By))<|.br (a0==8) (.rt ([100,114,97,119,115]:By))<|.br (a0==9) (.rt ([99,97,115,116,115]:By))<|.br (a0==10) (.rt ([117,112,107,101,101,112]:By))<|.br (a0==11) (.rt ([101,110,100]:By))<|.br (a0==12) (.rt ([103,97,105,110,115]:By))<|.br (a0==13) (.rt ([108,111,115,101,115]:By))<|.br (a0==14) (.rt ([112,108,97,99,101,100]:By))<|.rt ([]:By)
def Zalu:LF Empty (By) := .z0 173 [.t 2] wS
def Zawv:=fun a0=>Zalu.run (Zalt a0)
theorem Zage(a0){r}(h:Zawv a0=some r):Fn PR 173 [wI a0] (wS r):=Zalu.fn h
def Zab9(a0:Int):LT Empty Bool:=
.cs (a0==8) (.k3 0<|.b8 true<|.b4 true<|.rt true)<|.k3 0<|.cs (a0==9) (.k3 1<|.b8 true<|.kb true<|.rt true)<|.k3 1<|.cs (a0==10) (.k3 2<|.b5 true<|.kb true<|.rt true)<|.k3 2<|.cs (a0==11) (.k3 3<|.b3 true<|.rt true)<|.k3 3<|.cs (a0==12) (.k3 4<|.rt true)<|.k3 4<|.rt (a0==13)
def Zaca:LF Empty Bool := .z0 174 [.t 2] wB
def Zalv:=fun a0=>Zaca.run (Zab9 a0)
theorem Z9j(a0){r}(h:Zalv a0=some r):Fn PR 174 [wI a0] (wB r):=Zaca.fn h
def Z29(a0:Int):LT Empty Bool:=
.call (Zage a0) fun x1=>.cs (!(x1==([]:By))) (.k2 0<|.call (Z9j a0) fun x4=>.k2 0<|.cs (!x4) (.k2 1<|.kg 0<|.kg 1<|.kg 0<|.rt true)<|.k2 1<|.kg 0<|.kg 1<|.kg 0<|.rt (a0==9))<|.k5 0<|.kg 0<|.rt false
def Z3a:LF Empty Bool := .z0 175 [.t 2] wB
def Z9k:=fun a0=>Z3a.run (Z29 a0)
theorem Zaix(a0){r}(h:Z9k a0=some r):Fn PR 175 [wI a0] (wB r):=Z3a.fn h
inductive Z0v where
 | L0 (E0:Zcg)
def Zwx(E0:Zcg):LT Z0v Bool:=
.call (Zaix E0.When) fun x1=>.br (!x1) (.rt (Z1 (Zo E0.Filter) (Zo (⟨0,0,0,0,0,0,0,([]:By),0,0,(⟨0,0⟩:Zb),(⟨0,0⟩:Zb),(⟨0,0⟩:Zb)⟩:Zg))))<|.br (E0.When==9) (.call (Zhq E0.Filter) fun x5=>.cs x5 (.k5 2<|.kg 2<|.rt (E0.Filter.Zone==5))<|.k5 2<|.kg 2<|.rt false)<|.call (Zhq E0.Filter) fun x8=>.cs x8 (.k5 2<|.kg 2<|.rt (E0.Filter.Zone==0))<|.k5 2<|.kg 2<|.rt false
def Zaww(a0:Zcg):LT Z0v Bool:=
.lb 1001<|.call (Zage a0.When) fun x1=>.cs (x1==([]:By)) (.k4 0<|.b8 true<|.b3 true<|.kn [0]<|.rt false)<|.k4 0<|.cs (decide (a0.Who < 0)) (.k4 1<|.b5 true<|.b2 true<|.kn [0]<|.rt false)<|.k4 1<|.cs (decide (a0.Who > 2)) (.k5 2<|.k2 2<|.kn [0]<|.rt false)<|.k3 2<|.call (Z9j a0.When) fun x6=>.k2 2<|.cs (!x6) (.k3 3<|.kg 2<|.kg 3<|.kg 2<|.br (a0.Who != 0) (.rt false)<|.jn 0 (.L0 a0) [.relab 1001 3000] (Zwx a0))<|.k3 3<|.kg 2<|.kg 3<|.kg 2<|.kn [0]<|.jn 0 (.L0 a0) [.relab 1001 3000] (Zwx a0)
def Zawx:LF Z0v Bool := .m0 125 [.t 2] wB fun | .L0 E0=>([1,1],⟨50,[(1,.bptr 3000 0)],[(3000,.box (bx (Zb6 E0)))]⟩,Zwx E0)
def Za7p:=fun a0=>Zawx.run (Zaww a0)
theorem Za7q(a0){r}(h:Za7p a0=some r):Fn PR 125 [wA (Zb6 a0)] (wB r):=Zawx.fn h
def Zagf(a0:Zg):LT Empty Bool:=
.lb 1001<|.call (Zhq a0) fun x1=>.cs x1 (.k4 0<|.rt (a0.Zone==0))<|.k4 0<|.rt false
def Zagg:LF Empty Bool := .z0 178 [.t 2] wB
def Zarn:=fun a0=>Zagg.run (Zagf a0)
theorem Z0w(a0){r}(h:Zarn a0=some r):Fn PR 178 [wA (Zo a0)] (wB r):=Zagg.fn h
def Zagh(a0:Za1):LT Empty Bool:=
.lb 1001<|.cs (a0.Who != 0) (.k5 0<|.kn [0]<|.rt false)<|.k3 0<|.call (Z0w a0.Filter) fun x2=>.k2 0<|.br (!x2) (.rt false)<|.br (a0.Do==5) (.cs (a0.N==0) (.k4 3<|.cs (a0.Counter==0) (.k4 4<|.cs (a0.Zone==1) (.k3 5<|.kg 4<|.kg 5<|.kg 4<|.b3 true<|.kg 4<|.kb true<|.kg 4<|.rt true)<|.k3 5<|.kg 4<|.kg 5<|.kg 4<|.cs (a0.Zone==2) (.k3 6<|.kg 4<|.kg 6<|.kg 4<|.rt true)<|.k3 6<|.kg 4<|.kg 6<|.kg 4<|.rt (a0.Zone==4))<|.k8 4<|.rt false)<|.k4 3<|.b8 false<|.rt false)<|.br (a0.Do==6) (.cs (a0.N==0) (.k4 4<|.cs (a0.Counter==0) (.k4 5<|.rt (a0.Zone==0))<|.k4 5<|.rt false)<|.k4 4<|.b4 false<|.rt false)<|.br (a0.Do==7) (.cs (a0.Zone==0) (.k4 5<|.cs (decide (a0.N>=1)) (.k4 6<|.cs (decide (a0.N<=99)) (.k4 7<|.cs (decide (a0.Counter>=0)) (.k4 8<|.rt (decide (a0.Counter < 3)))<|.k4 8<|.rt false)<|.k4 7<|.b4 false<|.rt false)<|.k4 6<|.b8 false<|.rt false)<|.k4 5<|.b8 false<|.b4 false<|.rt false)<|.rt false
def Zagi:LF Empty Bool := .z0 176 [.t 2] wB
def Zaro:=fun a0=>Zagi.run (Zagh a0)
theorem Zawy(a0){r}(h:Zaro a0=some r):Fn PR 176 [wA (Zbf a0)] (wB r):=Zagi.fn h
def Zagj(a0:Za1):LT Empty Bool:=
.lb 1001<|.cs (a0.Zone != 0) (.k4 0<|.kn [0]<|.rt false)<|.k4 0<|.br (a0.Counter != 0) (.rt false)<|.cs (a0.Do==2) (.k4 2<|.kn [0]<|.cs (decide (a0.N>=1)) (.k4 3<|.rt (decide (a0.N<=99)))<|.k4 3<|.rt false)<|.k4 2<|.br (a0.Do==4) (.cs (decide (a0.N>=1)) (.k4 4<|.rt (decide (a0.N<=99)))<|.k4 4<|.rt false)<|.rt (a0.N==0)
def Zagk:LF Empty Bool := .z0 177 [.t 2] wB
def Zarp:=fun a0=>Zagk.run (Zagj a0)
theorem Zawz(a0){r}(h:Zarp a0=some r):Fn PR 177 [wA (Zbf a0)] (wB r):=Zagk.fn h
inductive Zr0 where
 | L0 (E0:Za1) (v3:Bool) (v4:Bool)
 | L1 (E0:Za1) (v3:Bool)
 | L2 (E0:Za1) (v3:Bool) (v4:Bool) (v109:Bool)
def Zsk(E0:Za1)(v3:Bool)(v4:Bool)(v109:Bool):LT Zr0 Bool:=
.br v109 (.cs v4 (.k4 1<|.cs (decide (E0.Who>=0)) (.k4 2<|.cs (decide (E0.Who<=2)) (.k2 3<|.rt v3)<|.k2 3<|.rt false)<|.k4 2<|.b2 false<|.rt false)<|.k4 1<|.b5 false<|.kb false<|.rt false)<|.rt false
def Zow(E0:Za1)(v3:Bool):LT Zr0 Bool:=
.cs (E0.Who==0) (.k3 0<|.call (Z0w E0.Filter) fun x2=>.kg 0<|.cs x2 (.k8 1<|.rt true)<|.k4 1<|.cs (E0.Who==1) (.k3 2<|.kg 1<|.kg 2<|.kg 1<|.kb true<|.kg 1<|.kb true<|.kg 1<|.rt v3)<|.k3 2<|.kg 1<|.kg 2<|.kg 1<|.cs (E0.Who==2) (.kg 3<|.kg 1<|.kg 3<|.kg 1<|.rt v3)<|.kg 3<|.kg 1<|.kg 3<|.kg 1<|.rt false)<|.k4 0<|.b4 false<|.cs (E0.Who==1) (.k3 1<|.kb false<|.kg 1<|.kb false<|.kb true<|.kb false<|.kb true<|.kb false<|.rt v3)<|.k3 1<|.kb false<|.kg 1<|.kb false<|.cs (E0.Who==2) (.kg 2<|.kb false<|.kg 2<|.kb false<|.rt v3)<|.kg 2<|.kb false<|.kg 2<|.kb false<|.rt false
def Zsl(E0:Za1)(v3:Bool)(v4:Bool):LT Zr0 Bool:=
.br (E0.On==1) (.cs (E0.Do != 1) (.k4 1<|.cs (E0.Do != 2) (.k4 2<|.cs (E0.Do != 3) (.k4 3<|.br (E0.Do != 4) (.rt false)<|.j0 (.L1 E0 v3) (Zow E0 v3))<|.k4 3<|.kn [0]<|.j0 (.L1 E0 v3) (Zow E0 v3))<|.k4 2<|.b4 false<|.kn [0]<|.j0 (.L1 E0 v3) (Zow E0 v3))<|.k4 1<|.b8 false<|.kn [0]<|.j0 (.L1 E0 v3) (Zow E0 v3))<|.br (E0.On==8) (.cs v4 (.k4 2<|.cs (E0.Who==0) (.k3 3<|.call (Z0w E0.Filter) fun x9=>.kg 3<|.rt x9)<|.k4 3<|.rt false)<|.k4 2<|.b4 false<|.rt false)<|.br (E0.On==3) (.cs (E0.Do==4) (.k4 3<|.b4 true<|.cs (decide (E0.Who>=0)) (.k4 4<|.cs (decide (E0.Who<=2)) (.k2 5<|.rt v3)<|.k2 5<|.rt false)<|.k4 4<|.b2 false<|.rt false)<|.k4 3<|.cs (E0.Do==8) (.k4 4<|.cs (decide (E0.Who>=0)) (.k4 5<|.cs (decide (E0.Who<=2)) (.k2 6<|.rt v3)<|.k2 6<|.rt false)<|.k4 5<|.b2 false<|.rt false)<|.k4 4<|.b5 false<|.kb false<|.rt false)<|.br (E0.On==4) (.j0 (.L2 E0 v3 v4 (E0.On==4)) (Zsk E0 v3 v4 (E0.On==4)))<|.br (E0.On==5) (.j0 (.L2 E0 v3 v4 (E0.On==5)) (Zsk E0 v3 v4 (E0.On==5)))<|.j0 (.L2 E0 v3 v4 (E0.On==10)) (Zsk E0 v3 v4 (E0.On==10))
def Zaw0(a0:Za1):LT Zr0 Bool:=
.lb 1001<|.br (a0.On==2) (.call (Zawy a0) fun x2=>.rt x2)<|.call (Zawz a0) fun x4=>.br (!x4) (.rt false)<|.cs (a0.Do==3) (.k4 2<|.b4 true<|.jn 0 (.L0 a0 (Z1 (Zo a0.Filter) (Zo (⟨0,0,0,0,0,0,0,([]:By),0,0,(⟨0,0⟩:Zb),(⟨0,0⟩:Zb),(⟨0,0⟩:Zb)⟩:Zg))) true) [.relab 1001 3000] (Zsl a0 (Z1 (Zo a0.Filter) (Zo (⟨0,0,0,0,0,0,0,([]:By),0,0,(⟨0,0⟩:Zb),(⟨0,0⟩:Zb),(⟨0,0⟩:Zb)⟩:Zg))) true))<|.k4 2<|.cs (a0.Do==4) (.k4 3<|.jn 0 (.L0 a0 (Z1 (Zo a0.Filter) (Zo (⟨0,0,0,0,0,0,0,([]:By),0,0,(⟨0,0⟩:Zb),(⟨0,0⟩:Zb),(⟨0,0⟩:Zb)⟩:Zg))) true) [.relab 1001 3000] (Zsl a0 (Z1 (Zo a0.Filter) (Zo (⟨0,0,0,0,0,0,0,([]:By),0,0,(⟨0,0⟩:Zb),(⟨0,0⟩:Zb),(⟨0,0⟩:Zb)⟩:Zg))) true))<|.k4 3<|.jn 0 (.L0 a0 (Z1 (Zo a0.Filter) (Zo (⟨0,0,0,0,0,0,0,([]:By),0,0,(⟨0,0⟩:Zb),(⟨0,0⟩:Zb),(⟨0,0⟩:Zb)⟩:Zg))) (a0.Do==8)) [.relab 1001 3000] (Zsl a0 (Z1 (Zo a0.Filter) (Zo (⟨0,0,0,0,0,0,0,([]:By),0,0,(⟨0,0⟩:Zb),(⟨0,0⟩:Zb),(⟨0,0⟩:Zb)⟩:Zg))) (a0.Do==8))
def Zaw1:LF Zr0 Bool := .m0 126 [.t 2] wB fun | .L0 E0 v3 v4=>([1,1,1,1,1],⟨127,[(1,.bptr 3000 0),(3,wB v3),(4,wB v4)],[(3000,.box (bx (Zbf E0)))]⟩,Zsl E0 v3 v4) | .L1 E0 v3=>([1,1,1,1,1,0,1,4,1,2,1],⟨127,[(1,.bptr 3000 0),(3,wB v3)],[(3000,.box (bx (Zbf E0)))]⟩,Zow E0 v3) | .L2 E0 v3 v4 v109=>([1,1,1,1,1,0,1,4,1,3,1,3,1,3,1],⟨127,[(1,.bptr 3000 0),(3,wB v3),(4,wB v4),(109,wB v109)],[(3000,.box (bx (Zbf E0)))]⟩,Zsk E0 v3 v4 v109)
def Za7r:=fun a0=>Zaw1.run (Zaw0 a0)
theorem Za7s(a0){r}(h:Za7r a0=some r):Fn PR 126 [wA (Zbf a0)] (wB r):=Zaw1.fn h
def Zalw(a0:Zaz):LT Empty Bool:=
.lb 1001<|.br (!a0.Object) (.cs a0.Player (.k5 1<|.rt (Z1 (Zo a0.Filter) (Zo (⟨0,0,0,0,0,0,0,([]:By),0,0,(⟨0,0⟩:Zb),(⟨0,0⟩:Zb),(⟨0,0⟩:Zb)⟩:Zg))))<|.k5 1<|.rt false)<|.call (Zhq a0.Filter) fun x3=>.cs x3 (.k3 1<|.cs (a0.Filter.Zone==0) (.k2 2<|.kg 1<|.kg 2<|.kg 1<|.b2 true<|.kg 1<|.kb true<|.kg 1<|.rt true)<|.k2 2<|.kg 1<|.kg 2<|.kg 1<|.cs (a0.Filter.Zone==3) (.k2 3<|.kg 1<|.kg 3<|.kg 1<|.rt true)<|.k2 3<|.kg 1<|.kg 3<|.kg 1<|.rt (a0.Filter.Zone==5))<|.k5 1<|.k2 1<|.rt false
def Zalx:LF Empty Bool := .z0 179 [.t 2] wB
def Zaw2:=fun a0=>Zalx.run (Zalw a0)
theorem Za0n(a0){r}(h:Zaw2 a0=some r):Fn PR 179 [wA (Z9 a0)] (wB r):=Zalx.fn h
inductive Zqx where
 | L0 (v0:List Zaz) (v3:Int)
def Zacb(v0:List Zaz)(v3:Int):LT Zqx Bool:=
.len Z9 v0<|.br (decide (v3 < (v0.length:Int))) (.idx Z9 v0 v3 fun x3=>.call (Za0n x3) fun x5=>.br (!x5) (.rt false)<|.g0 (.L0 v0 (IntKind.wrap .i64 (v3+1))))<|.len Z9 v0<|.rt (decide ((v0.length:Int)<=4))
def Zagl(a0:List Zaz):LT Zqx Bool:=
.g0 (.L0 a0 0)
def Z43:LF Zqx Bool := .m0 127 [.t 2] wB fun | .L0 v0 v3=>([1,0,1,4],⟨19,[(0,wL Z9 v0),(3,wI v3)],[]⟩,Zacb v0 v3)
def Zarq:=fun a0=>Z43.run (Zagl a0)
theorem Zaw3(a0){r}(h:Zarq a0=some r):Fn PR 127 [wL Z9 a0] (wB r):=Z43.fn h
def Zaly(a0:Int):LT Empty (By):=
.cs (decide (a0 < 1)) (.k3 0<|.kn [0]<|.rt ([]:By))<|.k3 0<|.br (decide (a0 > 26)) (.rt ([]:By))<|.dr [.lit]<|.idx cS [([100,97,109,97,103,101]:By),([100,101,115,116,114,111,121]:By),([109,111,118,101]:By),([100,114,97,119]:By),([100,105,115,99,97,114,100]:By),([103,97,105,110]:By),([108,111,115,101]:By),([116,97,112]:By),([117,110,116,97,112]:By),([112,117,116]:By),([116,97,107,101]:By),([99,114,101,97,116,101]:By),([109,111,100]:By),([109,97,110,97]:By),([99,111,117,110,116,101,114]:By),([99,111,112,121]:By),([98,101,99,111,109,101]:By),([115,97,99,114,105,102,105,99,101]:By),([109,105,108,108]:By),([115,99,114,121]:By),([115,101,97,114,99,104]:By),([115,104,105,101,108,100]:By),([116,117,114,110]:By),([119,105,110]:By),([100,101,102,101,97,116]:By),([118,101,110,111,109]:By)] (IntKind.wrap .i64 (a0 - 1)) fun x6=>.rt x6
def Zalz:LF Empty (By) := .z0 221 [.t 2] wS
def Zaw4:=fun a0=>Zalz.run (Zaly a0)
theorem Za0o(a0){r}(h:Zaw4 a0=some r):Fn PR 221 [wI a0] (wS r):=Zalz.fn h
inductive Zpx where
 | L0 (v3:Int) (v4:Bool)
 | L1 (v3:Int) (v14:Bool)
def Zqy(v3:Int)(v14:Bool):LT Zpx (By):=
.br v14 (.rt ([114,107,97]:By))<|.br (v3==12) (.rt ([114,99,97]:By))<|.br (v3==13) (.rt ([114,109]:By))<|.br (v3==14) (.rt ([112]:By))<|.br (v3==18) (.rt ([114,97,102]:By))<|.br (v3==20) (.rt ([97]:By))<|.br (v3==21) (.rt ([102]:By))<|.br (v3==23) (.kn [8]<|.rt ([]:By))<|.br (v3==24) (.rt ([]:By))<|.rt ([114,97]:By)
def Zgb(v3:Int)(v4:Bool):LT Zpx (By):=
.br v4 (.rt ([114]:By))<|.br (v3==3) (.rt ([114,122]:By))<|.br (v3==10) (.j0 (.L1 v3 (v3==10)) (Zqy v3 (v3==10)))<|.j0 (.L1 v3 (v3==11)) (Zqy v3 (v3==11))
def Zal0(a0:Int):LT Zpx (By):=
.br (a0==2) (.j0 (.L0 a0 (a0==2)) (Zgb a0 (a0==2)))<|.br (a0==8) (.j0 (.L0 a0 (a0==8)) (Zgb a0 (a0==8)))<|.br (a0==9) (.j0 (.L0 a0 (a0==9)) (Zgb a0 (a0==9)))<|.br (a0==15) (.j0 (.L0 a0 (a0==15)) (Zgb a0 (a0==15)))<|.br (a0==16) (.j0 (.L0 a0 (a0==16)) (Zgb a0 (a0==16)))<|.br (a0==17) (.j0 (.L0 a0 (a0==17)) (Zgb a0 (a0==17)))<|.j0 (.L0 a0 (a0==25)) (Zgb a0 (a0==25))
def Zal1:LF Zpx (By) := .m0 257 [.t 2] wS fun | .L0 v3 v4=>([1,0,1,4,1],⟨32,[(3,wI v3),(4,wB v4)],[]⟩,Zgb v3 v4) | .L1 v3 v14=>([1,0,1,4,1,3,1,3,1],⟨32,[(3,wI v3),(14,wB v14)],[]⟩,Zqy v3 v14)
def Zaw5:=fun a0=>Zal1.run (Zal0 a0)
theorem Za0p(a0){r}(h:Zaw5 a0=some r):Fn PR 257 [wI a0] (wS r):=Zal1.fn h
inductive Ztj where
 | L0 (v1:Int) (v5:By) (v6:Int)
def Zagm(v1:Int)(v5:By)(v6:Int):LT Ztj Bool:=
.lenS v5<|.br (decide (v6 < (v5.length:Int))) (.idxS v5 v6 fun x3=>.br ((UInt8.toNat x3:Int)==v1) (.rt true)<|.g0 (.L0 v1 v5 (IntKind.wrap .i64 (v6+1))))<|.rt false
def Zal2(a0:Int)(a1:Int):LT Ztj Bool:=
.call (Za0p a0) fun x1=>.g0 (.L0 a1 x1 0)
def Z8c:LF Ztj Bool := .m0 222 [.t 4] wB fun | .L0 v1 v5 v6=>([1,1,0,1,4],⟨20,[(1,.t (.int .u8 v1)),(5,wS v5),(6,wI v6)],[]⟩,Zagm v1 v5 v6)
def Zaw6:=fun a0 a1=>Z8c.run (Zal2 a0 a1)
theorem Zi5(a0)(a1){r}(h:Zaw6 a0 a1=some r):Fn PR 222 [wI a0,.t (.int .u8 a1)] (wB r):=Z8c.fn h
def Z6i(a0:Int):LT Empty Bool:=
.cs (a0==3) (.k3 0<|.rt true)<|.k3 0<|.rt (a0==8)
def Z6j:LF Empty Bool := .z0 258 [.t 2] wB
def Zacc:=fun a0=>Z6j.run (Z6i a0)
theorem Zal3(a0){r}(h:Zacc a0=some r):Fn PR 258 [wI a0] (wB r):=Z6j.fn h
inductive Zu9 where
 | L0 (v1:Int) (E0:Zgn)
 | L1 (E0:Zgn)
def Zwy(E0:Zgn):LT Zu9 Bool:=
.br (E0.Kind==4) (.call (Zhq E0.Filter) fun x2=>.rt x2)<|.rt (Z1 (Zo E0.Filter) (Zo (⟨0,0,0,0,0,0,0,([]:By),0,0,(⟨0,0⟩:Zb),(⟨0,0⟩:Zb),(⟨0,0⟩:Zb)⟩:Zg)))
def Zwz(v1:Int)(E0:Zgn):LT Zu9 Bool:=
.cs (decide (E0.Kind < 1)) (.k4 0<|.kn [0]<|.rt false)<|.k4 0<|.br (decide (E0.Kind > 8)) (.rt false)<|.call (Zal3 E0.Kind) fun x3=>.br x3 (.cs (decide (E0.N < 1)) (.k5 3<|.kn [0]<|.rt false)<|.k5 3<|.br (decide (E0.N > v1)) (.rt false)<|.j0 (.L1 E0) (Zwy E0))<|.br (E0.N != 0) (.rt false)<|.j0 (.L1 E0) (Zwy E0)
def Zaw7(a0:Zgn)(a1:Int):LT Zu9 Bool:=
.lb 1002<|.br (decide (a1 > 4)) (.jn 0 (.L0 4 a0) [.relab 1002 3000] (Zwz 4 a0))<|.jn 0 (.L0 a1 a0) [.relab 1002 3000] (Zwz a1 a0)
def Zaw8:LF Zu9 Bool := .m0 223 [.t 4] wB fun | .L0 v1 E0=>([1,1],⟨40,[(1,wI v1),(2,.bptr 3000 0)],[(3000,.box (bx (Zdf E0)))]⟩,Zwz v1 E0) | .L1 E0=>([1,1,1,1],⟨40,[(2,.bptr 3000 0)],[(3000,.box (bx (Zdf E0)))]⟩,Zwy E0)
def Za7t:=fun a0 a1=>Zaw8.run (Zaw7 a0 a1)
theorem Za7u(a0)(a1){r}(h:Za7t a0 a1=some r):Fn PR 223 [wA (Zdf a0),wI a1] (wB r):=Zaw8.fn h
def Zal4(a0:Int):LT Empty (By):=
.br (a0==0) (.rt ([112,108,117,115]:By))<|.br (a0==1) (.rt ([109,105,110,117,115]:By))<|.br (a0==2) (.rt ([99,104,97,114,103,101]:By))<|.rt ([]:By)
def Zal5:LF Empty (By) := .z0 224 [.t 2] wS
def Zaw9:=fun a0=>Zal5.run (Zal4 a0)
theorem Zagn(a0){r}(h:Zaw9 a0=some r):Fn PR 224 [wI a0] (wS r):=Zal5.fn h
def Zaxa(a0:Zbi):LT Empty Bool:=
.lb 1001<|.lb 1003<|.br (a0.Kind==0) (.cs (decide (a0.N < 0)) (.k4 1<|.kn [0]<|.rt false)<|.k4 1<|.br (decide (a0.N > 1000000)) (.rt false)<|.cs (decide (a0.Kind>=0)) (.k4 3<|.cs (decide (a0.Kind<=7)) (.k5 4<|.kg 4<|.rt (Z1 (Zap (⟨a0.Kind,0,a0.Counter,a0.Filter⟩:Zbi)) (Zap (⟨a0.Kind,0,0,(⟨0,0,0,0,0,0,0,([]:By),0,0,(⟨0,0⟩:Zb),(⟨0,0⟩:Zb),(⟨0,0⟩:Zb)⟩:Zg)⟩:Zbi))))<|.k5 4<|.kg 4<|.rt false)<|.k4 3<|.b5 false<|.kb false<|.rt false)<|.br (a0.Kind==2) (.cs (decide (a0.N < 1)) (.k4 2<|.b5 true<|.kn [0]<|.rt false)<|.k4 2<|.cs (decide (a0.N > 99)) (.k5 3<|.kn [0]<|.rt false)<|.k3 3<|.call (Zhq a0.Filter) fun x9=>.k2 3<|.br (!x9) (.rt false)<|.cs (decide (a0.Kind>=0)) (.k4 5<|.cs (decide (a0.Kind<=7)) (.k5 6<|.kg 6<|.rt (Z1 (Zap (⟨a0.Kind,0,a0.Counter,(⟨0,0,0,0,0,0,0,([]:By),0,0,(⟨0,0⟩:Zb),(⟨0,0⟩:Zb),(⟨0,0⟩:Zb)⟩:Zg)⟩:Zbi)) (Zap (⟨a0.Kind,0,0,(⟨0,0,0,0,0,0,0,([]:By),0,0,(⟨0,0⟩:Zb),(⟨0,0⟩:Zb),(⟨0,0⟩:Zb)⟩:Zg)⟩:Zbi))))<|.k5 6<|.kg 6<|.rt false)<|.k4 5<|.b5 false<|.kb false<|.rt false)<|.br (a0.Kind==4) (.call (Zagn a0.Counter) fun x15=>.br (x15==([]:By)) (.rt false)<|.cs (decide (a0.Kind>=0)) (.k4 4<|.cs (decide (a0.Kind<=7)) (.k5 5<|.kg 5<|.rt (Z1 (Zap (⟨a0.Kind,a0.N,0,a0.Filter⟩:Zbi)) (Zap (⟨a0.Kind,0,0,(⟨0,0,0,0,0,0,0,([]:By),0,0,(⟨0,0⟩:Zb),(⟨0,0⟩:Zb),(⟨0,0⟩:Zb)⟩:Zg)⟩:Zbi))))<|.k5 5<|.kg 5<|.rt false)<|.k4 4<|.b5 false<|.kb false<|.rt false)<|.cs (decide (a0.Kind>=0)) (.k4 3<|.cs (decide (a0.Kind<=7)) (.k5 4<|.kg 4<|.rt (Z1 (Zap a0) (Zap (⟨a0.Kind,0,0,(⟨0,0,0,0,0,0,0,([]:By),0,0,(⟨0,0⟩:Zb),(⟨0,0⟩:Zb),(⟨0,0⟩:Zb)⟩:Zg)⟩:Zbi))))<|.k5 4<|.kg 4<|.rt false)<|.k4 3<|.b5 false<|.kb false<|.rt false
def Zaxb:LF Empty Bool := .z0 225 [.t 2] wB
def Za7v:=fun a0=>Zaxb.run (Zaxa a0)
theorem Za7w(a0){r}(h:Za7v a0=some r):Fn PR 225 [wA (Zap a0)] (wB r):=Zaxb.fn h
def Zal6(a0:List Zc):LT Empty Bool:=
.call (Zti a0) fun x1=>.rt (!(x1==([]:By)))
def Zal7:LF Empty Bool := .z0 226 [.t 2] wB
def Zaxc:=fun a0=>Zal7.run (Zal6 a0)
theorem Za0q(a0){r}(h:Zaxc a0=some r):Fn PR 226 [wL Zk a0] (wB r):=Zal7.fn h
inductive Ztk where
 | L0 (E0:A6 Int) (E1:Zt) (E2:Zt) (v4:Int)
def Zago(E0:A6 Int)(E1:Zt)(E2:Zt)(v4:Int):LT Ztk Zt:=
.br (decide (v4 < 5)) (.idA (Zh.int .i64) (A6.list E0) (IntKind.wrap .i64 (v4+1)) (bx ((cA6 (cI .i64)) E0)) 0 6 fun x4=>.ldC (Zh.int .i64) 16 x4 0<|.idA (Zh.int .i64) (A5.list E2.Color) v4 (bx (Zaf E2)) 2 7 fun x6=>.stA (A5.set? E2.Color v4 x4) (fun h=>Zbgq (Zh.int .i64) ((bx (Zaf E2)).take 2) ((bx (Zaf E2)).drop 7) h) fun x8=>.g0 (.L0 E0 E1 (⟨E2.Generic,E2.X,x8⟩:Zt) (IntKind.wrap .i64 (v4+1))))<|.rt E2
def Zal8(a0:A6 Int):LT Ztk Zt:=
.lb 1001<|.lb 1002<|.idA (Zh.int .i64) (A6.list a0) 0 (bx ((cA6 (cI .i64)) a0)) 0 6 fun x1=>.ldC (Zh.int .i64) 6 x1 0<|.lb 1003<|.go (.L0 a0 (⟨0,0,(⟨0,0,0,0,0⟩:A5 Int)⟩:Zt) (⟨x1,0,(⟨0,0,0,0,0⟩:A5 Int)⟩:Zt) 0) (tm13 1000 3000)
def Z8d:LF Ztk Zt := .m0 260 [.c 2 60 true 7] (fun r=>(wA (Zaf r))) fun | .L0 E0 E1 E2 v4=>([1,1,0,1,4],⟨20,[(1,.bptr 3000 0),(2,.bptr 3001 0),(3,.bptr 3002 0),(4,wI v4)],[(3000,.box (bx ((cA6 (cI .i64)) E0))),(3001,.box (bx (Zaf E1))),(3002,.box (bx (Zaf E2)))]⟩,Zago E0 E1 E2 v4)
def Zaxd:=fun a0=>Z8d.run (Zal8 a0)
theorem Za0r(a0){r}(h:Zaxd a0=some r):Fn PR 260 [wA ((cA6 (cI .i64)) a0)] (wA (Zaf r)):=Z8d.fn h
inductive Zmz where
 | L0 (E0:Zt) (v3:By) (v4:Int)
 | L1 (E0:Zt) (v3:By) (v5:Int)
 | L2 (E0:Zt) (v3:By) (v5:Int) (v6:Int)
def Zagp(E0:Zt)(v3:By)(v4:Int):LT Zmz (By):=
.br (decide (v4 < E0.X)) (.ok (v3.length+([88]:By).length<=9223372036854775807)<|.g0 (.L0 E0 (v3++([88]:By)) (IntKind.wrap .i64 (v4+1))))<|.br (E0.Generic != 0) (.call (Zny E0.Generic) fun x7=>.ok (v3.length+x7.length<=9223372036854775807)<|.g0 (.L1 E0 (v3++x7) 0))<|.g0 (.L1 E0 v3 0)
def Zagq(E0:Zt)(v3:By)(v5:Int):LT Zmz (By):=
.br (decide (v5 < 5)) (.g0 (.L2 E0 v3 v5 0))<|.br (v3==([]:By)) (.rt ([48]:By))<|.rt v3
def Zagr(E0:Zt)(v3:By)(v5:Int)(v6:Int):LT Zmz (By):=
.idA (Zh.int .i64) (A5.list E0.Color) v5 (bx (Zaf E0)) 2 7 fun x1=>.ldC (Zh.int .i64) 34 x1 0<|.br (decide (v6 < x1)) (.slS ([65,67,74,82,69]:By) v5 (IntKind.wrap .i64 (v5+1)) fun x6=>.ok (v3.length+x6.length<=9223372036854775807)<|.g0 (.L2 E0 (v3++x6) v5 (IntKind.wrap .i64 (v6+1))))<|.g0 (.L1 E0 v3 (IntKind.wrap .i64 (v5+1)))
def Zal9(a0:Zt):LT Zmz (By):=
.lb 1001<|.call (Zwr a0) fun x1=>.br (!x1) (.rt ([]:By))<|.go (.L0 a0 ([]:By) 0) [.relab 1001 3000]
def Ztl:LF Zmz (By) := .m0 259 [.t 2] wS fun | .L0 E0 v3 v4=>([1,1,1,0,1,4],⟨47,[(1,.bptr 3000 0),(3,wS v3),(4,wI v4)],[(3000,.box (bx (Zaf E0)))]⟩,Zagp E0 v3 v4) | .L1 E0 v3 v5=>([1,1,1,1,1,0,1,4],⟨47,[(1,.bptr 3000 0),(3,wS v3),(5,wI v5)],[(3000,.box (bx (Zaf E0)))]⟩,Zagq E0 v3 v5) | .L2 E0 v3 v5 v6=>([1,1,1,1,1,0,1,4,5,1,0,4,1,4],⟨47,[(1,.bptr 3000 0),(3,wS v3),(5,wI v5),(6,wI v6)],[(3000,.box (bx (Zaf E0)))]⟩,Zagr E0 v3 v5 v6)
def Zaxe:=fun a0=>Ztl.run (Zal9 a0)
theorem Za0s(a0){r}(h:Zaxe a0=some r):Fn PR 259 [wA (Zaf a0)] (wS r):=Ztl.fn h
def Z6k(a0:A6 Int):LT Empty (By):=
.lb 1001<|.call (Za0r a0) fun x1=>.call (Za0s x1) fun x3=>.rt x3
def Z6l:LF Empty (By) := .z0 227 [.t 2] wS
def Zacd:=fun a0=>Z6l.run (Z6k a0)
theorem Zama(a0){r}(h:Zacd a0=some r):Fn PR 227 [wA ((cA6 (cI .i64)) a0)] (wS r):=Z6l.fn h
def Zace(a0:Int)(a1:Zg):LT Empty Bool:=
.lb 1003<|.br (a0==21) (.call (Zhq a1) fun x2=>.cs x2 (.k5 1<|.rt (a1.Zone==2))<|.k5 1<|.rt false)<|.call (Zhq a1) fun x5=>.cs x5 (.k5 1<|.rt (a1.Zone==0))<|.k5 1<|.rt false
def Zacf:LF Empty Bool := .z0 228 [.t 4] wB
def Zamb:=fun a0 a1=>Zacf.run (Zace a0 a1)
theorem Zasz(a0)(a1){r}(h:Zamb a0 a1=some r):Fn PR 228 [wI a0,wA (Zo a1)] (wB r):=Zacf.fn h
inductive Zh8 where
 | L0 (E0:Zs) (v5:Bool)
 | L1 (E0:Zs) (v5:Bool) (v6:Bool)
 | L2 (E0:Zs) (v5:Bool) (v6:Bool) (v7:Bool)
 | L3 (E0:Zs) (v5:Bool) (v6:Bool) (v7:Bool) (v8:Bool)
 | L4 (E0:Zs) (v5:Bool) (v6:Bool) (v7:Bool) (v8:Bool) (v9:Bool)
 | L5 (E0:Zs) (v5:Bool) (v6:Bool) (v7:Bool) (v8:Bool) (v9:Bool) (v10:Bool)
 | L6 (E0:Zs) (v5:Bool) (v6:Bool) (v7:Bool) (v8:Bool) (v9:Bool) (v10:Bool) (v11:Bool)
 | L7 (v5:Bool) (v6:Bool) (v7:Bool) (v8:Bool) (v9:Bool) (v10:Bool) (v11:Bool) (v12:Bool)
def Zw0(v5:Bool)(v6:Bool)(v7:Bool)(v8:Bool)(v9:Bool)(v10:Bool)(v11:Bool)(v12:Bool):LT Zh8 Bool:=
.cs v5 (.k2 0<|.cs v6 (.k2 1<|.cs v7 (.k2 2<|.cs v8 (.k2 3<|.cs v9 (.k2 4<|.cs v10 (.k2 5<|.cs v11 (.k2 6<|.rt v12)<|.k2 6<|.rt false)<|.k2 5<|.b2 false<|.rt false)<|.k2 4<|.b4 false<|.rt false)<|.k2 3<|.b5 false<|.kb false<|.rt false)<|.k2 2<|.b8 false<|.rt false)<|.k2 1<|.b8 false<|.b2 false<|.rt false)<|.k2 0<|.b8 false<|.b4 false<|.rt false
def Zsm(E0:Zs)(v5:Bool)(v6:Bool)(v7:Bool)(v8:Bool)(v9:Bool)(v10:Bool)(v11:Bool):LT Zh8 Bool:=
.call (Zi5 E0.Op 102) fun x1=>.br x1 (.call (Zasz E0.Op E0.Filter) fun x4=>.j0 (.L7 v5 v6 v7 v8 v9 v10 v11 x4) (Zw0 v5 v6 v7 v8 v9 v10 v11 x4))<|.j0 (.L7 v5 v6 v7 v8 v9 v10 v11 (Z1 (Zo E0.Filter) (Zo (⟨0,0,0,0,0,0,0,([]:By),0,0,(⟨0,0⟩:Zb),(⟨0,0⟩:Zb),(⟨0,0⟩:Zb)⟩:Zg)))) (Zw0 v5 v6 v7 v8 v9 v10 v11 (Z1 (Zo E0.Filter) (Zo (⟨0,0,0,0,0,0,0,([]:By),0,0,(⟨0,0⟩:Zb),(⟨0,0⟩:Zb),(⟨0,0⟩:Zb)⟩:Zg))))
def Zw1(E0:Zs)(v5:Bool)(v6:Bool)(v7:Bool)(v8:Bool)(v9:Bool)(v10:Bool):LT Zh8 Bool:=
.call (Zi5 E0.Op 112) fun x1=>.br x1 (.cs (!(Z1 ((cA6 (cI .i64)) E0.Pool) ((cA6 (cI .i64)) (⟨0,0,0,0,0,0⟩:A6 Int)))) (.k3 1<|.call (Zama E0.Pool) fun x5=>.k2 1<|.j0 (.L6 E0 v5 v6 v7 v8 v9 v10 (!(x5==([]:By)))) (Zsm E0 v5 v6 v7 v8 v9 v10 (!(x5==([]:By)))))<|.k5 1<|.j0 (.L6 E0 v5 v6 v7 v8 v9 v10 false) (Zsm E0 v5 v6 v7 v8 v9 v10 false))<|.j0 (.L6 E0 v5 v6 v7 v8 v9 v10 (Z1 ((cA6 (cI .i64)) E0.Pool) ((cA6 (cI .i64)) (⟨0,0,0,0,0,0⟩:A6 Int)))) (Zsm E0 v5 v6 v7 v8 v9 v10 (Z1 ((cA6 (cI .i64)) E0.Pool) ((cA6 (cI .i64)) (⟨0,0,0,0,0,0⟩:A6 Int))))
def Zw2(E0:Zs)(v5:Bool)(v6:Bool)(v7:Bool)(v8:Bool)(v9:Bool):LT Zh8 Bool:=
.len Zk E0.Mods<|.call (Zi5 E0.Op 109) fun x2=>.br x2 (.call (Za0q E0.Mods) fun x5=>.j0 (.L5 E0 v5 v6 v7 v8 v9 x5) (Zw1 E0 v5 v6 v7 v8 v9 x5))<|.j0 (.L5 E0 v5 v6 v7 v8 v9 ((E0.Mods.length:Int)==0)) (Zw1 E0 v5 v6 v7 v8 v9 ((E0.Mods.length:Int)==0))
def Zw3(E0:Zs)(v5:Bool)(v6:Bool)(v7:Bool)(v8:Bool):LT Zh8 Bool:=
.call (Zi5 E0.Op 97) fun x1=>.br x1 (.call (Za7w E0.Amount) fun x4=>.j0 (.L4 E0 v5 v6 v7 v8 x4) (Zw2 E0 v5 v6 v7 v8 x4))<|.j0 (.L4 E0 v5 v6 v7 v8 (Z1 (Zap E0.Amount) (Zap (⟨0,0,0,(⟨0,0,0,0,0,0,0,([]:By),0,0,(⟨0,0⟩:Zb),(⟨0,0⟩:Zb),(⟨0,0⟩:Zb)⟩:Zg)⟩:Zbi)))) (Zw2 E0 v5 v6 v7 v8 (Z1 (Zap E0.Amount) (Zap (⟨0,0,0,(⟨0,0,0,0,0,0,0,([]:By),0,0,(⟨0,0⟩:Zb),(⟨0,0⟩:Zb),(⟨0,0⟩:Zb)⟩:Zg)⟩:Zbi))))
def Zsn(E0:Zs)(v5:Bool)(v6:Bool)(v7:Bool):LT Zh8 Bool:=
.call (Zi5 E0.Op 99) fun x1=>.br x1 (.call (Zabu E0.Card) fun x4=>.j0 (.L3 E0 v5 v6 v7 x4) (Zw3 E0 v5 v6 v7 x4))<|.j0 (.L3 E0 v5 v6 v7 (E0.Card==([]:By))) (Zw3 E0 v5 v6 v7 (E0.Card==([]:By)))
def Zox(E0:Zs)(v5:Bool)(v6:Bool):LT Zh8 Bool:=
.cs (E0.Counter==0) (.k5 0<|.kg 0<|.j0 (.L2 E0 v5 v6 true) (Zsn E0 v5 v6 true))<|.k3 0<|.call (Zi5 E0.Op 107) fun x2=>.kg 0<|.cs x2 (.k3 1<|.call (Zagn E0.Counter) fun x5=>.kg 1<|.kg 0<|.kg 1<|.kg 0<|.j0 (.L2 E0 v5 v6 (!(x5==([]:By)))) (Zsn E0 v5 v6 (!(x5==([]:By)))))<|.k4 1<|.kg 0<|.kg 1<|.kg 0<|.j0 (.L2 E0 v5 v6 false) (Zsn E0 v5 v6 false)
def Zw4(E0:Zs)(v5:Bool):LT Zh8 Bool:=
.cs (E0.Zone==0) (.k8 0<|.j0 (.L1 E0 v5 true) (Zox E0 v5 true))<|.k3 0<|.call (Zi5 E0.Op 122) fun x2=>.kg 0<|.cs x2 (.k3 1<|.kg 0<|.kg 1<|.kg 0<|.cs (decide (E0.Zone > 0)) (.k3 2<|.kg 0<|.kg 2<|.kg 0<|.j0 (.L1 E0 v5 (decide (E0.Zone<=4))) (Zox E0 v5 (decide (E0.Zone<=4))))<|.k3 2<|.kg 0<|.kg 2<|.kg 0<|.j0 (.L1 E0 v5 false) (Zox E0 v5 false))<|.k3 1<|.kg 0<|.kg 1<|.kg 0<|.b3 false<|.kg 0<|.kb false<|.kg 0<|.j0 (.L1 E0 v5 false) (Zox E0 v5 false)
def Zaxf(a0:Zs)(a1:Int):LT Zh8 Bool:=
.lb 1002<|.call (Za0o a0.Op) fun x1=>.br (x1==([]:By)) (.rt false)<|.call (Zi5 a0.Op 114) fun x4=>.br x4 (.call (Za7u a0.Ref a1) fun x7=>.jn 0 (.L0 a0 x7) [.relab 1002 3000] (Zw4 a0 x7))<|.jn 0 (.L0 a0 (Z1 (Zdf a0.Ref) (Zdf (⟨0,0,(⟨0,0,0,0,0,0,0,([]:By),0,0,(⟨0,0⟩:Zb),(⟨0,0⟩:Zb),(⟨0,0⟩:Zb)⟩:Zg)⟩:Zgn)))) [.relab 1002 3000] (Zw4 a0 (Z1 (Zdf a0.Ref) (Zdf (⟨0,0,(⟨0,0,0,0,0,0,0,([]:By),0,0,(⟨0,0⟩:Zb),(⟨0,0⟩:Zb),(⟨0,0⟩:Zb)⟩:Zg)⟩:Zgn))))
def Zaxg:LF Zh8 Bool := .m0 180 [.t 4] wB fun | .L0 E0 v5=>([1,1,1,1],⟨138,[(2,.bptr 3000 0),(5,wB v5)],[(3000,.box (bx (Zq E0)))]⟩,Zw4 E0 v5) | .L1 E0 v5 v6=>([1,1,1,1,1],⟨138,[(2,.bptr 3000 0),(5,wB v5),(6,wB v6)],[(3000,.box (bx (Zq E0)))]⟩,Zox E0 v5 v6) | .L2 E0 v5 v6 v7=>([1,1,1,1,1,1],⟨138,[(2,.bptr 3000 0),(5,wB v5),(6,wB v6),(7,wB v7)],[(3000,.box (bx (Zq E0)))]⟩,Zsn E0 v5 v6 v7) | .L3 E0 v5 v6 v7 v8=>([1,1,1,1,1,1,1,1],⟨138,[(2,.bptr 3000 0),(5,wB v5),(6,wB v6),(7,wB v7),(8,wB v8)],[(3000,.box (bx (Zq E0)))]⟩,Zw3 E0 v5 v6 v7 v8) | .L4 E0 v5 v6 v7 v8 v9=>([1,1,1,1,1,1,1,1,1,1],⟨138,[(2,.bptr 3000 0),(5,wB v5),(6,wB v6),(7,wB v7),(8,wB v8),(9,wB v9)],[(3000,.box (bx (Zq E0)))]⟩,Zw2 E0 v5 v6 v7 v8 v9) | .L5 E0 v5 v6 v7 v8 v9 v10=>([1,1,1,1,1,1,1,1,1,1,1,1],⟨138,[(2,.bptr 3000 0),(5,wB v5),(6,wB v6),(7,wB v7),(8,wB v8),(9,wB v9),(10,wB v10)],[(3000,.box (bx (Zq E0)))]⟩,Zw1 E0 v5 v6 v7 v8 v9 v10) | .L6 E0 v5 v6 v7 v8 v9 v10 v11=>([1,1,1,1,1,1,1,1,1,1,1,1,1,1],⟨138,[(2,.bptr 3000 0),(5,wB v5),(6,wB v6),(7,wB v7),(8,wB v8),(9,wB v9),(10,wB v10),(11,wB v11)],[(3000,.box (bx (Zq E0)))]⟩,Zsm E0 v5 v6 v7 v8 v9 v10 v11) | .L7 v5 v6 v7 v8 v9 v10 v11 v12=>([1,1,1,1,1,1,1,1,1,1,1,1,1,1,1,1],⟨138,[(5,wB v5),(6,wB v6),(7,wB v7),(8,wB v8),(9,wB v9),(10,wB v10),(11,wB v11),(12,wB v12)],[]⟩,Zw0 v5 v6 v7 v8 v9 v10 v11 v12)
def Za7x:=fun a0 a1=>Zaxg.run (Zaxf a0 a1)
theorem Za7y(a0)(a1){r}(h:Za7x a0 a1=some r):Fn PR 180 [wA (Zq a0),wI a1] (wB r):=Zaxg.fn h
inductive Zm8 where
 | L0 (v0:List Zs) (v1:Int) (v5:Int)
def Z6m(v0:List Zs)(v1:Int)(v5:Int):LT Zm8 Bool:=
.len Zq v0<|.br (decide (v5 < (v0.length:Int))) (.idx Zq v0 v5 fun x3=>.call (Za7y x3 v1) fun x5=>.br (!x5) (.rt false)<|.g0 (.L0 v0 v1 (IntKind.wrap .i64 (v5+1))))<|.len Zq v0<|.cs (decide ((v0.length:Int)>=1)) (.k2 1<|.len Zq v0<|.k2 1<|.rt (decide ((v0.length:Int)<=8)))<|.k4 1<|.rt false
def Z9l(a0:List Zs)(a1:Int):LT Zm8 Bool:=
.g0 (.L0 a0 a1 0)
def Zx3:LF Zm8 Bool := .m0 128 [.t 4] wB fun | .L0 v0 v1 v5=>([1,0,1,4],⟨27,[(0,wL Zq v0),(1,wI v1),(5,wI v5)],[]⟩,Z6m v0 v1 v5)
def Zags:=fun a0 a1=>Zx3.run (Z9l a0 a1)
theorem Zao5(a0)(a1){r}(h:Zags a0 a1=some r):Fn PR 128 [wL Zq a0,wI a1] (wB r):=Zx3.fn h
inductive Zm0 where
 | L0 (E0:Zd) (v3:Bool)
 | L1 (E0:Zd) (v3:Bool)
 | L2 (E0:Zd) (v3:Bool)
 | L3 (E0:Zd) (v3:Bool)
 | L4 (E0:Zd) (v3:Bool)
def Zw5(E0:Zd)(v3:Bool):LT Zm0 Bool:=
.br v3 (.call (Zaw3 E0.Specs) fun x2=>.cs x2 (.k5 1<|.len Z9 E0.Specs<|.kg 1<|.call (Zao5 E0.Effects (E0.Specs.length:Int)) fun x6=>.kg 1<|.rt x6)<|.k5 1<|.k2 1<|.rt false)<|.len Z9 E0.Specs<|.cs ((E0.Specs.length:Int)==0) (.k3 1<|.len Zq E0.Effects<|.k2 1<|.rt ((E0.Effects.length:Int)==0))<|.k5 1<|.rt false
def Zw6(E0:Zd)(v3:Bool):LT Zm0 Bool:=
.br (E0.Kind==5) (.call (Za7s E0.Replace) fun x2=>.br (!x2) (.rt false)<|.j0 (.L4 E0 v3) (Zw5 E0 v3))<|.br (!(Z1 (Zbf E0.Replace) (Zbf (⟨0,0,(⟨0,0,0,0,0,0,0,([]:By),0,0,(⟨0,0⟩:Zb),(⟨0,0⟩:Zb),(⟨0,0⟩:Zb)⟩:Zg),0,0,0,0⟩:Za1)))) (.rt false)<|.j0 (.L4 E0 v3) (Zw5 E0 v3)
def Zw7(E0:Zd)(v3:Bool):LT Zm0 Bool:=
.br (E0.Kind==4) (.call (Za7q E0.Trigger) fun x2=>.br (!x2) (.rt false)<|.j0 (.L3 E0 v3) (Zw6 E0 v3))<|.cs (!(Z1 (Zb6 E0.Trigger) (Zb6 (⟨0,0,(⟨0,0,0,0,0,0,0,([]:By),0,0,(⟨0,0⟩:Zb),(⟨0,0⟩:Zb),(⟨0,0⟩:Zb)⟩:Zg)⟩:Zcg)))) (.k3 1<|.kn [0]<|.rt false)<|.k3 1<|.br E0.May (.rt false)<|.j0 (.L3 E0 v3) (Zw6 E0 v3)
def Zw8(E0:Zd)(v3:Bool):LT Zm0 Bool:=
.br (E0.Kind==3) (.call (Zawu E0.Price) fun x2=>.br (!x2) (.rt false)<|.j0 (.L2 E0 v3) (Zw7 E0 v3))<|.cs (!(Z1 (Zdk E0.Price) (Zdk (⟨(⟨0,0,(⟨0,0,0,0,0⟩:A5 Int)⟩:Zt),false,false,0⟩:Zgs)))) (.k3 1<|.kn [0]<|.rt false)<|.k3 1<|.br E0.Slow (.rt false)<|.j0 (.L2 E0 v3) (Zw7 E0 v3)
def Zso(E0:Zd)(v3:Bool):LT Zm0 Bool:=
.br (E0.Kind==1) (.call (Zhq E0.Filter) fun x2=>.cs (!x2) (.k5 1<|.b5 true<|.kn [0]<|.rt false)<|.k5 1<|.cs (E0.Filter.Zone != 0) (.k5 2<|.kn [0]<|.rt false)<|.k3 2<|.call (Zti E0.Mods) fun x6=>.k2 2<|.br (x6==([]:By)) (.rt false)<|.j0 (.L1 E0 v3) (Zw8 E0 v3))<|.cs (!(Z1 (Zo E0.Filter) (Zo (⟨0,0,0,0,0,0,0,([]:By),0,0,(⟨0,0⟩:Zb),(⟨0,0⟩:Zb),(⟨0,0⟩:Zb)⟩:Zg)))) (.k5 1<|.kn [0]<|.rt false)<|.k3 1<|.len Zk E0.Mods<|.k2 1<|.br (decide ((E0.Mods.length:Int) > 0)) (.rt false)<|.j0 (.L1 E0 v3) (Zw8 E0 v3)
def Zaxh(a0:Zd):LT Zm0 Bool:=
.lb 1001<|.cs (decide (a0.Kind < 1)) (.k4 0<|.kn [0]<|.rt false)<|.k4 0<|.br (decide (a0.Kind > 5)) (.rt false)<|.cs (a0.Kind==2) (.k4 2<|.b4 true<|.jn 0 (.L0 a0 true) [.relab 1001 3000] (Zso a0 true))<|.k4 2<|.cs (a0.Kind==3) (.k4 3<|.jn 0 (.L0 a0 true) [.relab 1001 3000] (Zso a0 true))<|.k4 3<|.jn 0 (.L0 a0 (a0.Kind==4)) [.relab 1001 3000] (Zso a0 (a0.Kind==4))
def Zaxi:LF Zm0 Bool := .m0 78 [.t 2] wB fun | .L0 E0 v3=>([1,1,1],⟨117,[(1,.bptr 3000 0),(3,wB v3)],[(3000,.box (bx (Zi E0)))]⟩,Zso E0 v3) | .L1 E0 v3=>([1,1,1,1],⟨117,[(1,.bptr 3000 0),(3,wB v3)],[(3000,.box (bx (Zi E0)))]⟩,Zw8 E0 v3) | .L2 E0 v3=>([1,1,1,1,1],⟨117,[(1,.bptr 3000 0),(3,wB v3)],[(3000,.box (bx (Zi E0)))]⟩,Zw7 E0 v3) | .L3 E0 v3=>([1,1,1,1,1,1],⟨117,[(1,.bptr 3000 0),(3,wB v3)],[(3000,.box (bx (Zi E0)))]⟩,Zw6 E0 v3) | .L4 E0 v3=>([1,1,1,1,1,1,1],⟨117,[(1,.bptr 3000 0),(3,wB v3)],[(3000,.box (bx (Zi E0)))]⟩,Zw5 E0 v3)
def Za7z:=fun a0=>Zaxi.run (Zaxh a0)
theorem Z3b(a0){r}(h:Za7z a0=some r):Fn PR 78 [wA (Zi a0)] (wB r):=Zaxi.fn h
def Zamc(a0:Zl):LT Empty Bool:=
.lb 1001<|.cs (a0.Line.Types==2) (.k5 0<|.rt true)<|.k5 0<|.rt (a0.Line.Types==4)
def Zamd:LF Empty Bool := .z0 79 [.t 2] wB
def Zaxj:=fun a0=>Zamd.run (Zamc a0)
theorem Za0t(a0){r}(h:Zaxj a0=some r):Fn PR 79 [wA (Zw a0)] (wB r):=Zamd.fn h
inductive Zva where
 | L0 (E0:Zl)
 | L1 (E0:Zl) (v3:Int) (v4:Int)
def Zw9(E0:Zl):LT Zva Bool:=
.g0 (.L1 E0 0 0)
def Zarr(E0:Zl)(v3:Int)(v4:Int):LT Zva Bool:=
.len Zi E0.Abilities<|.br (decide (v4 < (E0.Abilities.length:Int))) (.idx Zi E0.Abilities v4 fun x3=>.call (Z3b x3) fun x5=>.br (!x5) (.rt false)<|.ag Zi x3 0<|.br (x3.Kind==2) (.g0 (.L1 E0 (IntKind.wrap .i64 (v3+1)) (IntKind.wrap .i64 (v4+1))))<|.g0 (.L1 E0 v3 (IntKind.wrap .i64 (v4+1))))<|.call (Za0t E0) fun x15=>.br x15 (.cs (!E0.Token) (.k4 2<|.cs (E0.Keys==0) (.k3 3<|.len Zi E0.Abilities<|.k2 3<|.cs ((E0.Abilities.length:Int)==1) (.k3 4<|.rt (v3==1))<|.k3 4<|.rt false)<|.k5 3<|.b3 false<|.rt false)<|.k4 2<|.b8 false<|.rt false)<|.cs (v3==0) (.k4 2<|.cs (!E0.Token) (.k5 3<|.kg 2<|.kg 3<|.kg 2<|.cs ((Zau .and .i64 E0.Line.Types 32)==0) (.k4 4<|.kg 2<|.kg 4<|.kg 2<|.rt true)<|.k4 4<|.kg 2<|.kg 4<|.kg 2<|.rt (Z1 (Zaf E0.Cost) (Zaf (⟨0,0,(⟨0,0,0,0,0⟩:A5 Int)⟩:Zt))))<|.k5 3<|.kg 2<|.kg 3<|.kg 2<|.b4 false<|.kg 2<|.kb false<|.kg 2<|.rt (Z1 (Zaf E0.Cost) (Zaf (⟨0,0,(⟨0,0,0,0,0⟩:A5 Int)⟩:Zt))))<|.k8 2<|.rt false
def Zaxk(a0:Zl):LT Zva Bool:=
.lb 1001<|.call (Zabu a0.Name) fun x1=>.cs (!x1) (.k5 0<|.b16 true<|.b2 true<|.kn [0]<|.rt false)<|.k3 0<|.call (Zwr a0.Cost) fun x4=>.k2 0<|.cs (!x4) (.k5 1<|.b8 true<|.b5 true<|.kn [0]<|.rt false)<|.k3 1<|.call (Za7k a0.Line) fun x7=>.k2 1<|.cs (!x7) (.k5 2<|.b8 true<|.kn [0]<|.rt false)<|.k3 2<|.call (Zari a0.Keys) fun x10=>.k2 2<|.cs (!x10) (.k4 3<|.b4 true<|.kn [0]<|.rt false)<|.k4 3<|.cs (decide (a0.Color < 0)) (.k4 4<|.kn [0]<|.rt false)<|.k4 4<|.br (decide (a0.Color > 31)) (.rt false)<|.cs (decide (a0.Power < 0)) (.k4 6<|.b16 true<|.b3 true<|.kn [0]<|.rt false)<|.k4 6<|.cs (decide (a0.Power > 99)) (.k4 7<|.b8 true<|.b5 true<|.b2 true<|.kn [0]<|.rt false)<|.k4 7<|.cs (decide (a0.Tough < 0)) (.k4 8<|.b8 true<|.b3 true<|.kn [0]<|.rt false)<|.k4 8<|.cs (decide (a0.Tough > 99)) (.k5 9<|.kg 9<|.b5 true<|.kn [0]<|.rt false)<|.k2 9<|.call (Zala a0) fun x19=>.k2 9<|.cs (!x19) (.k4 10<|.cs (a0.Power != 0) (.k3 11<|.kg 10<|.kg 11<|.kg 9<|.kg 10<|.kg 9<|.b5 true<|.kn [0]<|.rt false)<|.k3 11<|.kg 10<|.kg 11<|.kg 9<|.kg 10<|.kg 9<|.cs (a0.Tough != 0) (.k5 12<|.kn [0]<|.rt false)<|.k3 12<|.len Zi a0.Abilities<|.k2 12<|.br (decide ((a0.Abilities.length:Int) > 8)) (.rt false)<|.jn 0 (.L0 a0) [.relab 1001 3000] (Zw9 a0))<|.k5 10<|.kg 9<|.kg 10<|.kg 9<|.b3 false<|.len Zi a0.Abilities<|.b2 false<|.br (decide ((a0.Abilities.length:Int) > 8)) (.rt false)<|.jn 0 (.L0 a0) [.relab 1001 3000] (Zw9 a0)
def Zaiy:LF Zva Bool := .m0 43 [.t 2] wB fun | .L0 E0=>([1,1,1],⟨139,[(1,.bptr 3000 0)],[(3000,.box (bx (Zw E0)))]⟩,Zw9 E0) | .L1 E0 v3 v4=>([1,1,1,1,0,1,4],⟨139,[(1,.bptr 3000 0),(3,wI v3),(4,wI v4)],[(3000,.box (bx (Zw E0)))]⟩,Zarr E0 v3 v4)
def Za70:=fun a0=>Zaiy.run (Zaxk a0)
theorem Za71(a0){r}(h:Za70 a0=some r):Fn PR 43 [wA (Zw a0)] (wB r):=Zaiy.fn h
inductive Ztm where
 | L0 (v0:List Zl) (v1:By) (v5:Int)
def Zagt(v0:List Zl)(v1:By)(v5:Int):LT Ztm Int:=
.len Zw v0<|.br (decide (v5 < (v0.length:Int))) (.idx Zw v0 v5 fun x3=>.br (x3.Name==v1) (.rt v5)<|.g0 (.L0 v0 v1 (IntKind.wrap .i64 (v5+1))))<|.rt (-1)
def Zame(a0:List Zl)(a1:By):LT Ztm Int:=
.g0 (.L0 a0 a1 0)
def Z8e:LF Ztm Int := .m0 44 [.t 4] wI fun | .L0 v0 v1 v5=>([1,0,1,4],⟨20,[(0,wL Zw v0),(1,wS v1),(5,wI v5)],[]⟩,Zagt v0 v1 v5)
def Zaxl:=fun a0 a1=>Z8e.run (Zame a0 a1)
theorem Za0u(a0)(a1){r}(h:Zaxl a0 a1=some r):Fn PR 44 [wL Zw a0,wS a1] (wI r):=Z8e.fn h
inductive Zqz where
 | L0 (v0:List Zl) (v1:By) (v5:Int)
def Zacg(v0:List Zl)(v1:By)(v5:Int):LT Zqz Bool:=
.len Zw v0<|.br (decide (v5 < (v0.length:Int))) (.idx Zw v0 v5 fun x3=>.cs (x3.Name==v1) (.k3 1<|.ag Zw x3 0<|.k3 1<|.br x3.Token (.rt true)<|.g0 (.L0 v0 v1 (IntKind.wrap .i64 (v5+1))))<|.k5 1<|.kg 1<|.kn [0]<|.g0 (.L0 v0 v1 (IntKind.wrap .i64 (v5+1))))<|.rt false
def Zagu(a0:List Zl)(a1:By):LT Zqz Bool:=
.g0 (.L0 a0 a1 0)
def Z44:LF Zqz Bool := .m0 80 [.t 4] wB fun | .L0 v0 v1 v5=>([1,0,1,4],⟨26,[(0,wL Zw v0),(1,wS v1),(5,wI v5)],[]⟩,Zacg v0 v1 v5)
def Zars:=fun a0 a1=>Z44.run (Zagu a0 a1)
theorem Zaxm(a0)(a1){r}(h:Zars a0 a1=some r):Fn PR 80 [wL Zw a0,wS a1] (wB r):=Z44.fn h
inductive Zj3 where
 | L0 (v0:List Zl) (E0:Zl) (v5:Int)
 | L1 (v0:List Zl) (E0:Zl) (v5:Int) (v6:Int)
def Z6n(v0:List Zl)(E0:Zl)(v5:Int):LT Zj3 Bool:=
.len Zi E0.Abilities<|.br (decide (v5 < (E0.Abilities.length:Int))) (.g0 (.L1 v0 E0 v5 0))<|.rt true
def Z6o(v0:List Zl)(E0:Zl)(v5:Int)(v6:Int):LT Zj3 Bool:=
.idx Zi E0.Abilities v5 fun x1=>.len Zq x1.Effects<|.br (decide (v6 < (x1.Effects.length:Int))) (.ag Zi x1 0<|.idx Zq x1.Effects v6 fun x5=>.lb 1007<|.cs (x5.Op==12) (.k4 1<|.call (Zaxm v0 x5.Card) fun x8=>.k2 1<|.br (!x8) (.rt false)<|.g0 (.L1 v0 E0 v5 (IntKind.wrap .i64 (v6+1))))<|.k5 1<|.kg 1<|.kn [0]<|.g0 (.L1 v0 E0 v5 (IntKind.wrap .i64 (v6+1))))<|.g0 (.L0 v0 E0 (IntKind.wrap .i64 (v5+1)))
def Z9m(a0:List Zl)(a1:Zl):LT Zj3 Bool:=
.lb 1003<|.go (.L0 a0 a1 0) [.relab 1003 3000]
def Zrn:LF Zj3 Bool := .m0 45 [.t 4] wB fun | .L0 v0 E0 v5=>([1,0,1,4],⟨45,[(0,wL Zw v0),(3,.bptr 3000 0),(5,wI v5)],[(3000,.box (bx (Zw E0)))]⟩,Z6n v0 E0 v5) | .L1 v0 E0 v5 v6=>([1,0,1,4,5,1,0,4,1,4],⟨45,[(0,wL Zw v0),(3,.bptr 3000 0),(5,wI v5),(6,wI v6)],[(3000,.box (bx (Zw E0)))]⟩,Z6o v0 E0 v5 v6)
def Zagv:=fun a0 a1=>Zrn.run (Z9m a0 a1)
theorem Zao6(a0)(a1){r}(h:Zagv a0 a1=some r):Fn PR 45 [wL Zw a0,wA (Zw a1)] (wB r):=Zrn.fn h
inductive Zq0 where
 | L0 (v0:List Zl) (v4:Int)
def Zach(v0:List Zl)(v4:Int):LT Zq0 (Int×Int):=
.len Zw v0<|.br (decide (v4 < (v0.length:Int))) (.idx Zw v0 v4 fun x3=>.call (Za71 x3) fun x5=>.br (!x5) (.rt (v4,9))<|.ag Zw x3 0<|.call (Za0u v0 x3.Name) fun x8=>.br (decide (x8 < v4)) (.rt (v4,6))<|.ag Zw x3 0<|.call (Zao6 v0 x3) fun x11=>.br (!x11) (.rt (v4,7))<|.g0 (.L0 v0 (IntKind.wrap .i64 (v4+1))))<|.rt ((-1),0)
def Zagw(a0:List Zl):LT Zq0 (Int×Int):=
.len Zw a0<|.br (decide ((a0.length:Int) > 256)) (.rt ((-1),5))<|.g0 (.L0 a0 0)
def Z45:LF Zq0 (Int×Int) := .m0 28 [.t 2,.t 3] (fun r=>(.tup [wI r.1,wI r.2])) fun | .L0 v0 v4=>([1,1,0,1,4],⟨39,[(0,wL Zw v0),(4,wI v4)],[]⟩,Zach v0 v4)
def Zart:=fun a0=>Z45.run (Zagw a0)
theorem Zaxn(a0){r}(h:Zart a0=some r):Fn PR 28 [wL Zw a0] (.tup [wI r.1,wI r.2]):=Z45.fn h
def Zaxo(a0:Int)(a1:Int)(a2:Int):LT Empty Bool:=
.cs (decide (a0>=a1)) (.k4 0<|.rt (decide (a0<=a2)))<|.k4 0<|.rt false
def Zaxp:LF Empty Bool := .z0 46 [.t 6] wB
def Za72:=fun a0 a1 a2=>Zaxp.run (Zaxo a0 a1 a2)
theorem Ze9(a0)(a1)(a2){r}(h:Za72 a0 a1 a2=some r):Fn PR 46 [wI a0,wI a1,wI a2] (wB r):=Zaxp.fn h
inductive Zq1 where
 | L0 (E0:A6 Int) (v3:Int)
def Zaci(E0:A6 Int)(v3:Int):LT Zq1 Bool:=
.br (decide (v3 < 6)) (.idA (Zh.int .i64) (A6.list E0) v3 (bx ((cA6 (cI .i64)) E0)) 0 6 fun x2=>.ldC (Zh.int .i64) 10 x2 0<|.cs (decide (x2 < 0)) (.k5 1<|.kn [0]<|.rt false)<|.k2 1<|.idA (Zh.int .i64) (A6.list E0) v3 (bx ((cA6 (cI .i64)) E0)) 0 6 fun x5=>.kg 1<|.ldC (Zh.int .i64) 15 x5 1<|.k2 1<|.br (decide (x5 > 1000000)) (.rt false)<|.g0 (.L0 E0 (IntKind.wrap .i64 (v3+1))))<|.rt true
def Zagx(a0:A6 Int):LT Zq1 Bool:=
.lb 1001<|.go (.L0 a0 0) [.relab 1001 3000]
def Z46:LF Zq1 Bool := .m0 81 [.t 2] wB fun | .L0 E0 v3=>([1,0,1,4],⟨18,[(1,.bptr 3000 0),(3,wI v3)],[(3000,.box (bx ((cA6 (cI .i64)) E0)))]⟩,Zaci E0 v3)
def Zaru:=fun a0=>Z46.run (Zagx a0)
theorem Zaxq(a0){r}(h:Zaru a0=some r):Fn PR 81 [wA ((cA6 (cI .i64)) a0)] (wB r):=Z46.fn h
inductive Zq2 where
 | L0 (v1:Int) (E0:Zm) (v5:Int)
def Zacj(v1:Int)(E0:Zm)(v5:Int):LT Zq2 Int:=
.len Zn E0.Objects<|.br (decide (v5 < (E0.Objects.length:Int))) (.idx Zn E0.Objects v5 fun x3=>.br (x3.Id==v1) (.rt v5)<|.g0 (.L0 v1 E0 (IntKind.wrap .i64 (v5+1))))<|.rt (-1)
def Zagy(a0:Zm)(a1:Int):LT Zq2 Int:=
.lb 1002<|.go (.L0 a1 a0 0) [.relab 1002 3000]
def Z47:LF Zq2 Int := .m0 229 [.t 4] wI fun | .L0 v1 E0 v5=>([1,0,1,4],⟨22,[(1,wI v1),(2,.bptr 3000 0),(5,wI v5)],[(3000,.box (bx (Zae E0)))]⟩,Zacj v1 E0 v5)
def Zarv:=fun a0 a1=>Z47.run (Zagy a0 a1)
theorem Zaxr(a0)(a1){r}(h:Zarv a0 a1=some r):Fn PR 229 [wA (Zae a0),wI a1] (wI r):=Z47.fn h
def Zamf(a0:Zm)(a1:Int):LT Empty (Zf×Bool):=
.lb 1002<|.lb 1004<|.call (Zaxr a0 a1) fun x1=>.br (decide (x1 < 0)) (.rt ((⟨0,0,0,0,0,false,false,false,false,0,(⟨0,0,0⟩:A3 Int),0,0,0,false,0,0⟩:Zf),false))<|.idx Zn a0.Objects x1 fun x4=>.rt (x4,true)
def Zamg:LF Empty (Zf×Bool) := .z0 181 [.c 4 56 true 19,.t 5] (fun r=>(.tup [wA (Zn r.1),wB r.2]))
def Zaxs:=fun a0 a1=>Zamg.run (Zamf a0 a1)
theorem Za0v(a0)(a1){r}(h:Zaxs a0 a1=some r):Fn PR 181 [wA (Zae a0),wI a1] (.tup [wA (Zn r.1),wB r.2]):=Zamg.fn h
def Zack(a0:Zm)(a1:Int):LT Empty (Zf×Bool):=
.lb 1002<|.lb 1004<|.call (Za0v a0 a1) fun x1=>.rt (x1.1,x1.2)
def Zacl:LF Empty (Zf×Bool) := .z0 129 [.c 4 56 true 19,.t 5] (fun r=>(.tup [wA (Zn r.1),wB r.2]))
def Zamh:=fun a0 a1=>Zacl.run (Zack a0 a1)
theorem Z9n(a0)(a1){r}(h:Zamh a0 a1=some r):Fn PR 129 [wA (Zae a0),wI a1] (.tup [wA (Zn r.1),wB r.2]):=Zacl.fn h
inductive Zq3 where
 | L0 (v0:List Int) (v1:Int) (v5:Int) (v6:Int)
def Zacm(v0:List Int)(v1:Int)(v5:Int)(v6:Int):LT Zq3 Int:=
.len (cI .i64) v0<|.br (decide (v6 < (v0.length:Int))) (.idx (cI .i64) v0 v6 fun x3=>.br (x3==v1) (.g0 (.L0 v0 v1 (IntKind.wrap .i64 (v5+1)) (IntKind.wrap .i64 (v6+1))))<|.g0 (.L0 v0 v1 v5 (IntKind.wrap .i64 (v6+1))))<|.rt v5
def Zagz(a0:List Int)(a1:Int):LT Zq3 Int:=
.g0 (.L0 a0 a1 0 0)
def Z48:LF Zq3 Int := .m0 130 [.t 4] wI fun | .L0 v0 v1 v5 v6=>([1,1,0,1,4],⟨22,[(0,wL (cI .i64) v0),(1,wI v1),(5,wI v5),(6,wI v6)],[]⟩,Zacm v0 v1 v5 v6)
def Zarw:=fun a0 a1=>Z48.run (Zagz a0 a1)
theorem Z0x(a0)(a1){r}(h:Zarw a0 a1=some r):Fn PR 130 [wL (cI .i64) a0,wI a1] (wI r):=Z48.fn h
inductive Ztn where
 | L0 (v1:List Int) (v2:Int) (v3:Int) (E0:Zm) (v9:Int)
def Zag0(v1:List Int)(v2:Int)(v3:Int)(E0:Zm)(v9:Int):LT Ztn Bool:=
.len (cI .i64) v1<|.br (decide (v9 < (v1.length:Int))) (.idx (cI .i64) v1 v9 fun x3=>.call (Z9n E0 x3) fun x5=>.lb 1010<|.cs (!x5.2) (.k5 1<|.b8 true<|.b5 true<|.kn [0]<|.rt false)<|.k5 1<|.cs (x5.1.Zone != v2) (.k5 2<|.b8 true<|.kn [0]<|.rt false)<|.k3 2<|.cs (decide (v3>=0)) (.k4 3<|.kg 2<|.kg 3<|.kg 2<|.cs (x5.1.Owner != v3) (.k8 4<|.kn [0]<|.rt false)<|.k4 4<|.ag (cI .i64) x3 0<|.k2 4<|.call (Z0x v1 x3) fun x11=>.k2 4<|.br (x11 != 1) (.rt false)<|.g0 (.L0 v1 v2 v3 E0 (IntKind.wrap .i64 (v9+1))))<|.k4 3<|.kg 2<|.kg 3<|.kg 2<|.b4 false<|.ag (cI .i64) x3 0<|.b2 false<|.call (Z0x v1 x3) fun x16=>.b2 false<|.br (x16 != 1) (.rt false)<|.g0 (.L0 v1 v2 v3 E0 (IntKind.wrap .i64 (v9+1))))<|.rt true
def Zami(a0:Zm)(a1:List Int)(a2:Int)(a3:Int):LT Ztn Bool:=
.lb 1004<|.go (.L0 a1 a2 a3 a0 0) [.relab 1004 3000]
def Z8f:LF Ztn Bool := .m0 82 [.t 8] wB fun | .L0 v1 v2 v3 E0 v9=>([1,0,1,4],⟨54,[(1,wL (cI .i64) v1),(2,wI v2),(3,wI v3),(4,.bptr 3000 0),(9,wI v9)],[(3000,.box (bx (Zae E0)))]⟩,Zag0 v1 v2 v3 E0 v9)
def Zaxt:=fun a0 a1 a2 a3=>Z8f.run (Zami a0 a1 a2 a3)
theorem Zq4(a0)(a1)(a2)(a3){r}(h:Zaxt a0 a1 a2 a3=some r):Fn PR 82 [wA (Zae a0),wL (cI .i64) a1,wI a2,wI a3] (wB r):=Z8f.fn h
inductive Zm9 where
 | L0 (E0:Zm) (v3:Int)
def Z6p(E0:Zm)(v3:Int):LT Zm9 Bool:=
.len Zba E0.Players<|.br (decide (v3 < (E0.Players.length:Int))) (.idx Zba E0.Players v3 fun x3=>.lb 1004<|.call (Ze9 x3.Life (-1000000) 1000000) fun x5=>.cs (!x5) (.k5 1<|.b8 true<|.b2 true<|.kn [0]<|.rt false)<|.k3 1<|.call (Ze9 x3.Venom 0 1000000) fun x8=>.k2 1<|.cs (!x8) (.k5 2<|.b5 true<|.kn [0]<|.rt false)<|.k3 2<|.call (Ze9 x3.Lands 0 1000000) fun x11=>.k2 2<|.cs (!x11) (.k5 3<|.kn [0]<|.rt false)<|.k3 3<|.call (Zaxq x3.Pool) fun x14=>.k2 3<|.br (!x14) (.rt false)<|.call (Zq4 E0 x3.Library 2 v3) fun x17=>.cs (!x17) (.k5 5<|.k2 5<|.b5 true<|.b2 true<|.kn [0]<|.rt false)<|.k5 5<|.call (Zq4 E0 x3.Hand 1 v3) fun x20=>.k2 5<|.cs (!x20) (.k5 6<|.k2 6<|.kn [0]<|.rt false)<|.k5 6<|.call (Zq4 E0 x3.Graveyard 3 v3) fun x23=>.k2 6<|.br (!x23) (.rt false)<|.g0 (.L0 E0 (IntKind.wrap .i64 (v3+1))))<|.call (Zq4 E0 E0.Battlefield 0 (-1)) fun x28=>.cs x28 (.k4 1<|.call (Zq4 E0 E0.Exile 4 (-1)) fun x31=>.kg 1<|.rt x31)<|.k5 1<|.rt false
def Z9o(a0:Zm):LT Zm9 Bool:=
.lb 1001<|.len Zba a0.Players<|.call (Ze9 (a0.Players.length:Int) 2 4) fun x2=>.br (!x2) (.rt false)<|.go (.L0 a0 0) [.relab 1001 3000]
def Zx4:LF Zm9 Bool := .m0 47 [.t 2] wB fun | .L0 E0 v3=>([1,1,0,1,4],⟨76,[(1,.bptr 3000 0),(3,wI v3)],[(3000,.box (bx (Zae E0)))]⟩,Z6p E0 v3)
def Zag1:=fun a0=>Zx4.run (Z9o a0)
theorem Zao7(a0){r}(h:Zag1 a0=some r):Fn PR 47 [wA (Zae a0)] (wB r):=Zx4.fn h
def Zacn(a0:Zm)(a1:Int):LT Empty Bool:=
.lb 1002<|.len Zba a0.Players<|.call (Ze9 a1 0 (IntKind.wrap .i64 ((a0.Players.length:Int) - 1))) fun x4=>.rt x4
def Zaco:LF Empty Bool := .z0 48 [.t 4] wB
def Zamj:=fun a0 a1=>Zaco.run (Zacn a0 a1)
theorem Zh9(a0)(a1){r}(h:Zamj a0 a1=some r):Fn PR 48 [wA (Zae a0),wI a1] (wB r):=Zaco.fn h
inductive Z0y where
 | L0 (E0:A3 Int) (v3:Int)
def Zarx(E0:A3 Int)(v3:Int):LT Z0y Bool:=
.br (decide (v3 < 3)) (.idA (Zh.int .i64) (A3.list E0) v3 (bx ((cA3 (cI .i64)) E0)) 0 3 fun x2=>.ldC (Zh.int .i64) 10 x2 0<|.cs (decide (x2 < 0)) (.k5 1<|.kn [0]<|.rt false)<|.k2 1<|.idA (Zh.int .i64) (A3.list E0) v3 (bx ((cA3 (cI .i64)) E0)) 0 3 fun x5=>.kg 1<|.ldC (Zh.int .i64) 15 x5 1<|.k2 1<|.br (decide (x5 > 1000000)) (.rt false)<|.g0 (.L0 E0 (IntKind.wrap .i64 (v3+1))))<|.rt true
def Zaxu(a0:A3 Int):LT Z0y Bool:=
.lb 1001<|.go (.L0 a0 0) [.relab 1001 3000]
def Zaiz:LF Z0y Bool := .m0 131 [.t 2] wB fun | .L0 E0 v3=>([1,0,1,4],⟨18,[(1,.bptr 3000 0),(3,wI v3)],[(3000,.box (bx ((cA3 (cI .i64)) E0)))]⟩,Zarx E0 v3)
def Za73:=fun a0=>Zaiz.run (Zaxu a0)
theorem Za74(a0){r}(h:Za73 a0=some r):Fn PR 131 [wA ((cA3 (cI .i64)) a0)] (wB r):=Zaiz.fn h
def Zamk(a0:Zf):LT Empty Zf:=
.lb 1001<|.lb 1002<|.rt (⟨a0.Id,a0.Card,a0.Owner,a0.Control,a0.Zone,a0.Token,a0.Tapped,a0.Sick,a0.Deadly,a0.Damage,a0.Counters,a0.Stamp,a0.Copy,-1,false,0,a0.Shield⟩:Zf)
def Zaml:LF Empty Zf := .z0 132 [.c 2 56 true 19] (fun r=>(wA (Zn r)))
def Zaxv:=fun a0=>Zaml.run (Zamk a0)
theorem Za0w(a0){r}(h:Zaxv a0=some r):Fn PR 132 [wA (Zn a0)] (wA (Zn r)):=Zaml.fn h
def Zag2(a0:Zf):LT Empty Zf:=
.lb 1001<|.lb 1002<|.rt (⟨a0.Id,a0.Card,a0.Owner,a0.Control,a0.Zone,a0.Token,a0.Tapped,a0.Sick,false,0,a0.Counters,a0.Stamp,a0.Copy,a0.Attack,a0.Blocked,a0.Blocks,0⟩:Zf)
def Zag3:LF Empty Zf := .z0 133 [.c 2 56 true 19] (fun r=>(wA (Zn r)))
def Zary:=fun a0=>Zag3.run (Zag2 a0)
theorem Zaxw(a0){r}(h:Zary a0=some r):Fn PR 133 [wA (Zn a0)] (wA (Zn r)):=Zag3.fn h
def Zaxx(a0:Zf)(a1:Int)(a2:Int):LT Empty Bool:=
.lb 1003<|.cs (decide (a0.Id < 1)) (.k4 0<|.b16 true<|.b8 true<|.b5 true<|.b2 true<|.kn [0]<|.rt false)<|.k4 0<|.cs (decide (a0.Card < 0)) (.k5 1<|.b16 true<|.b8 true<|.b2 true<|.kn [0]<|.rt false)<|.k5 1<|.cs (decide (a0.Card>=a1)) (.k4 2<|.b16 true<|.b5 true<|.kb true<|.kn [0]<|.rt false)<|.k4 2<|.cs (decide (a0.Owner < 0)) (.k5 3<|.b16 true<|.kb true<|.kn [0]<|.rt false)<|.k5 3<|.cs (decide (a0.Owner>=a2)) (.k4 4<|.b8 true<|.b5 true<|.kn [0]<|.rt false)<|.k4 4<|.cs (decide (a0.Control < 0)) (.k5 5<|.b8 true<|.kn [0]<|.rt false)<|.k5 5<|.cs (decide (a0.Control>=a2)) (.k4 6<|.b4 true<|.kn [0]<|.rt false)<|.k4 6<|.cs (decide (a0.Zone < 0)) (.k4 7<|.kn [0]<|.rt false)<|.k4 7<|.br (decide (a0.Zone > 5)) (.rt false)<|.cs (decide (a0.Damage < 0)) (.k4 9<|.b16 true<|.b8 true<|.kn [0]<|.rt false)<|.k4 9<|.cs (decide (a0.Damage > 1000000)) (.k4 10<|.b16 true<|.b4 true<|.kn [0]<|.rt false)<|.k4 10<|.cs (decide (a0.Stamp < 0)) (.k4 11<|.b16 true<|.kn [0]<|.rt false)<|.k4 11<|.cs (decide (a0.Stamp > 1000000)) (.k4 12<|.b8 true<|.b4 true<|.kn [0]<|.rt false)<|.k4 12<|.cs (decide (a0.Blocks < 0)) (.k4 13<|.b8 true<|.kn [0]<|.rt false)<|.k4 13<|.cs (decide (a0.Blocks > 1000000)) (.k4 14<|.b4 true<|.kn [0]<|.rt false)<|.k4 14<|.cs (decide (a0.Shield < 0)) (.k4 15<|.kn [0]<|.rt false)<|.k4 15<|.br (decide (a0.Shield > 1000000)) (.rt false)<|.call (Za74 a0.Counters) fun x18=>.cs (!x18) (.k4 17<|.b8 true<|.b5 true<|.kb true<|.kn [0]<|.rt false)<|.k4 17<|.cs (decide (a0.Copy < (-1))) (.k5 18<|.b8 true<|.kb true<|.kn [0]<|.rt false)<|.k5 18<|.cs (decide (a0.Copy>=a1)) (.k4 19<|.b5 true<|.kn [0]<|.rt false)<|.k4 19<|.cs (decide (a0.Attack < (-1))) (.k5 20<|.kn [0]<|.rt false)<|.k5 20<|.br (decide (a0.Attack>=a2)) (.rt false)<|.cs (a0.Zone==0) (.k8 22<|.k5 22<|.rt true)<|.k3 22<|.call (Za0w a0) fun x26=>.k2 22<|.cs (Z1 (Zn a0) (Zn x26)) (.k3 23<|.call (Zaxw a0) fun x29=>.kg 23<|.kg 22<|.kg 23<|.kg 22<|.cs (Z1 (Zn a0) (Zn x29)) (.k3 24<|.kg 22<|.kg 24<|.kg 22<|.cs (!a0.Tapped) (.k3 25<|.kg 22<|.kg 25<|.kg 22<|.cs (!a0.Sick) (.k4 26<|.kg 22<|.kg 26<|.kg 22<|.rt (Z1 ((cA3 (cI .i64)) a0.Counters) ((cA3 (cI .i64)) (⟨0,0,0⟩:A3 Int))))<|.k4 26<|.kg 22<|.kg 26<|.kg 22<|.rt false)<|.k3 25<|.kg 22<|.kg 25<|.kg 22<|.b4 false<|.kg 22<|.kb false<|.kg 22<|.rt false)<|.k3 24<|.kg 22<|.kg 24<|.kg 22<|.b3 false<|.kg 22<|.kb false<|.kg 22<|.b4 false<|.kg 22<|.kb false<|.kg 22<|.rt false)<|.k4 23<|.kg 22<|.kg 23<|.kg 22<|.b3 false<|.kg 22<|.kb false<|.kg 22<|.b3 false<|.kg 22<|.kb false<|.kg 22<|.b4 false<|.kg 22<|.kb false<|.kg 22<|.rt false
def Zaxy:LF Empty Bool := .z0 83 [.t 6] wB
def Za75:=fun a0 a1 a2=>Zaxy.run (Zaxx a0 a1 a2)
theorem Za76(a0)(a1)(a2){r}(h:Za75 a0 a1 a2=some r):Fn PR 83 [wA (Zn a0),wI a1,wI a2] (wB r):=Zaxy.fn h
inductive Zoy where
 | L0 (v1:Int) (E0:Zm) (v5:Int) (v6:Int)
def Z9p(v1:Int)(E0:Zm)(v5:Int)(v6:Int):LT Zoy Int:=
.len Zbj E0.Stack<|.br (decide (v6 < (E0.Stack.length:Int))) (.idx Zbj E0.Stack v6 fun x3=>.cs (x3.Kind==1) (.k4 1<|.ag Zbj x3 0<|.k5 1<|.br (x3.Id==v1) (.g0 (.L0 v1 E0 (IntKind.wrap .i64 (v5+1)) (IntKind.wrap .i64 (v6+1))))<|.g0 (.L0 v1 E0 v5 (IntKind.wrap .i64 (v6+1))))<|.k8 1<|.kg 1<|.kn [0]<|.g0 (.L0 v1 E0 v5 (IntKind.wrap .i64 (v6+1))))<|.rt v5
def Zacp(a0:Zm)(a1:Int):LT Zoy Int:=
.lb 1002<|.go (.L0 a1 a0 0 0) [.relab 1002 3000]
def Z0z:LF Zoy Int := .m0 134 [.t 4] wI fun | .L0 v1 E0 v5 v6=>([1,1,0,1,4],⟨34,[(1,wI v1),(2,.bptr 3000 0),(5,wI v5),(6,wI v6)],[(3000,.box (bx (Zae E0)))]⟩,Z9p v1 E0 v5 v6)
def Zamm:=fun a0 a1=>Z0z.run (Zacp a0 a1)
theorem Zas0(a0)(a1){r}(h:Zamm a0 a1=some r):Fn PR 134 [wA (Zae a0),wI a1] (wI r):=Z0z.fn h
def Zamn(a0:List Int):LT Empty (List Int):=
.lb 1003<|.apR (cI .i64) 8 ([]:List Int) a0 fun x1=>.ret x1 [.relab 1003 5000]
def Zamo:LF Empty (List Int) := .z 182 [.t 2] true (fun r=>[(5000,wR (cI .i64) 1 r)]) (fun r=>(wO (cI .i64) 5000 r))
def Zaxz:=fun a0=>Zamo.run (Zamn a0)
theorem Zoz(a0){r}(h:Zaxz a0=some r):FnG PR 182 [] [wL (cI .i64) a0] [(5000,wR (cI .i64) 1 r)] (wO (cI .i64) 5000 r):=Zamo.fn h
def Zamp(a0:Zm)(a1:Int)(a2:Int):LT Empty (List Int):=
.lb 1003<|.br (a1==0) (.callF (Zoz a0.Battlefield) 130000 fun x2=>.ret x2 [.relab 135000 5000])<|.br (a1==4) (.callF (Zoz a0.Exile) 180000 fun x5=>.ret x5 [.relab 185000 5000])<|.cs (decide (a2 < 0)) (.k5 2<|.kg 2<|.kn [0]<|.ret ([]:List Int) [.own 6 5000 1])<|.k4 2<|.len Zba a0.Players<|.k2 2<|.br (decide (a2>=(a0.Players.length:Int))) (.ret ([]:List Int) [.own 6 5000 1])<|.br (a1==1) (.idx Zba a0.Players a2 fun x11=>.callF (Zoz x11.Hand) 370000 fun x13=>.ret x13 [.relab 375000 5000])<|.br (a1==2) (.idx Zba a0.Players a2 fun x16=>.callF (Zoz x16.Library) 460000 fun x18=>.ret x18 [.relab 465000 5000])<|.br (a1==3) (.idx Zba a0.Players a2 fun x21=>.callF (Zoz x21.Graveyard) 550000 fun x23=>.ret x23 [.relab 555000 5000])<|.ret ([]:List Int) [.own 6 5000 1]
def Zamq:LF Empty (List Int) := .z 135 [.t 6] true (fun r=>[(5000,wR (cI .i64) 1 r)]) (fun r=>(wO (cI .i64) 5000 r))
def Zai0:=fun a0 a1 a2=>Zamq.run (Zamp a0 a1 a2)
theorem Zax0(a0)(a1)(a2){r}(h:Zai0 a0 a1 a2=some r):FnG PR 135 [] [wA (Zae a0),wI a1,wI a2] [(5000,wR (cI .i64) 1 r)] (wO (cI .i64) 5000 r):=Zamq.fn h
theorem Za0x(a0:Zm)(a1:Int)(a2:Int){r:List Int}(h:Zai0 a0 a1 a2=some r):Fn PR 135 [wA (Zae a0),wI a1,wI a2] (wL (cI .i64) r):=
 FnG.frozen (C:=LT.RL (cI .i64) r/\True) (Zax0 a0 a1 a2 h) ⟨rfl,trivial⟩ (by kernel_rfl)
def Zacq(a0:Zm)(a1:Zf):LT Empty Bool:=
.lb 1002<|.lb 1003<|.br (a1.Zone==5) (.call (Zas0 a0 a1.Id) fun x2=>.rt (x2==1))<|.call (Za0x a0 a1.Zone a1.Owner) fun x4=>.call (Z0x x4 a1.Id) fun x6=>.rt (x6==1)
def Zacr:LF Empty Bool := .z0 84 [.t 4] wB
def Zamr:=fun a0 a1=>Zacr.run (Zacq a0 a1)
theorem Z9q(a0)(a1){r}(h:Zamr a0 a1=some r):Fn PR 84 [wA (Zae a0),wA (Zn a1)] (wB r):=Zacr.fn h
inductive Zna where
 | L0 (v0:List Zl) (E0:Zm) (v5:Int)
def Z6q(v0:List Zl)(E0:Zm)(v5:Int):LT Zna Bool:=
.len Zn E0.Objects<|.br (decide (v5 < (E0.Objects.length:Int))) (.idx Zn E0.Objects v5 fun x3=>.lb 1006<|.len Zw v0<|.len Zba E0.Players<|.call (Za76 x3 (v0.length:Int) (E0.Players.length:Int)) fun x7=>.cs (!x7) (.k5 1<|.kg 1<|.b8 true<|.b3 true<|.kn [0]<|.rt false)<|.k5 1<|.kg 1<|.cs (decide (x3.Id>=E0.NextId)) (.k5 2<|.kg 2<|.b5 true<|.kn [0]<|.rt false)<|.k5 2<|.kg 2<|.cs (decide (x3.Stamp>=E0.NextStamp)) (.k5 3<|.kn [0]<|.rt false)<|.k3 3<|.cs (decide (v5 > 0)) (.k5 4<|.idx Zn E0.Objects (IntKind.wrap .i64 (v5 - 1)) fun x15=>.k5 4<|.kg 3<|.kg 4<|.kg 3<|.br (decide (x15.Id>=x3.Id)) (.rt false)<|.call (Z9q E0 x3) fun x18=>.br (!x18) (.rt false)<|.g0 (.L0 v0 E0 (IntKind.wrap .i64 (v5+1))))<|.k8 4<|.k2 4<|.kg 3<|.kg 4<|.kg 3<|.kn [0]<|.call (Z9q E0 x3) fun x23=>.br (!x23) (.rt false)<|.g0 (.L0 v0 E0 (IntKind.wrap .i64 (v5+1))))<|.rt true
def Z9r(a0:List Zl)(a1:Zm):LT Zna Bool:=
.lb 1003<|.len Zn a1.Objects<|.br (decide ((a1.Objects.length:Int) > 2048)) (.rt false)<|.go (.L0 a0 a1 0) [.relab 1003 3000]
def Zx5:LF Zna Bool := .m0 49 [.t 4] wB fun | .L0 v0 E0 v5=>([1,1,0,1,4],⟨65,[(0,wL Zw v0),(3,.bptr 3000 0),(5,wI v5)],[(3000,.box (bx (Zae E0)))]⟩,Z6q v0 E0 v5)
def Zag4:=fun a0 a1=>Zx5.run (Z9r a0 a1)
theorem Zpy(a0)(a1){r}(h:Zag4 a0 a1=some r):Fn PR 49 [wL Zw a0,wA (Zae a1)] (wB r):=Zx5.fn h
inductive Zlo where
 | L0 (v0:List Zc) (v1:List Zc) (v5:Int)
def Z3c(v0:List Zc)(v1:List Zc)(v5:Int):LT Zlo Bool:=
.len Zk v0<|.br (decide (v5 < (v0.length:Int))) (.idx Zk v0 v5 fun x3=>.idx Zk v1 v5 fun x5=>.br (!(Z1 (Zk x3) (Zk x5))) (.rt false)<|.g0 (.L0 v0 v1 (IntKind.wrap .i64 (v5+1))))<|.rt true
def Z6r(a0:List Zc)(a1:List Zc):LT Zlo Bool:=
.len Zk a0<|.len Zk a1<|.br ((a0.length:Int) != (a1.length:Int)) (.rt false)<|.g0 (.L0 a0 a1 0)
def Zvb:LF Zlo Bool := .m0 183 [.t 4] wB fun | .L0 v0 v1 v5=>([1,1,0,1,4],⟨26,[(0,wL Zk v0),(1,wL Zk v1),(5,wI v5)],[]⟩,Z3c v0 v1 v5)
def Zacs:=fun a0 a1=>Zvb.run (Z6r a0 a1)
theorem Z3d(a0)(a1){r}(h:Zacs a0 a1=some r):Fn PR 183 [wL Zk a0,wL Zk a1] (wB r):=Zvb.fn h
def Zams(a0:Zs)(a1:Zs):LT Empty Bool:=
.lb 1002<|.lb 1003<|.cs (a0.Op==a1.Op) (.k5 0<|.kg 0<|.cs (Z1 (Zdf a0.Ref) (Zdf a1.Ref)) (.k5 1<|.kg 1<|.cs (Z1 (Zap a0.Amount) (Zap a1.Amount)) (.k5 2<|.kg 2<|.cs (a0.Counter==a1.Counter) (.k5 3<|.kg 3<|.cs (a0.Zone==a1.Zone) (.k5 4<|.kg 4<|.cs (a0.Card==a1.Card) (.k5 5<|.kg 5<|.cs (Z1 (Zo a0.Filter) (Zo a1.Filter)) (.k5 6<|.kg 6<|.cs (Z1 ((cA6 (cI .i64)) a0.Pool) ((cA6 (cI .i64)) a1.Pool)) (.k5 7<|.call (Z3d a0.Mods a1.Mods) fun x9=>.kg 7<|.rt x9)<|.k5 7<|.kg 7<|.rt false)<|.k5 6<|.kg 6<|.b5 false<|.kb false<|.rt false)<|.k5 5<|.kg 5<|.b8 false<|.b4 false<|.rt false)<|.k5 4<|.kg 4<|.b16 false<|.b2 false<|.rt false)<|.k5 3<|.kg 3<|.b16 false<|.b8 false<|.rt false)<|.k5 2<|.kg 2<|.b16 false<|.b8 false<|.b5 false<|.kb false<|.rt false)<|.k5 1<|.kg 1<|.b16 false<|.b16 false<|.b4 false<|.rt false)<|.k5 0<|.kg 0<|.b16 false<|.b16 false<|.b8 false<|.b2 false<|.rt false
def Zamt:LF Empty Bool := .z0 230 [.t 4] wB
def Zax1:=fun a0 a1=>Zamt.run (Zams a0 a1)
theorem Za0y(a0)(a1){r}(h:Zax1 a0 a1=some r):Fn PR 230 [wA (Zq a0),wA (Zq a1)] (wB r):=Zamt.fn h
inductive Zlp where
 | L0 (v0:List Zs) (v1:List Zs) (v5:Int)
def Z3e(v0:List Zs)(v1:List Zs)(v5:Int):LT Zlp Bool:=
.len Zq v0<|.br (decide (v5 < (v0.length:Int))) (.idx Zq v0 v5 fun x3=>.idx Zq v1 v5 fun x5=>.call (Za0y x3 x5) fun x7=>.br (!x7) (.rt false)<|.g0 (.L0 v0 v1 (IntKind.wrap .i64 (v5+1))))<|.rt true
def Z6s(a0:List Zs)(a1:List Zs):LT Zlp Bool:=
.len Zq a0<|.len Zq a1<|.br ((a0.length:Int) != (a1.length:Int)) (.rt false)<|.g0 (.L0 a0 a1 0)
def Zvc:LF Zlp Bool := .m0 184 [.t 4] wB fun | .L0 v0 v1 v5=>([1,1,0,1,4],⟨27,[(0,wL Zq v0),(1,wL Zq v1),(5,wI v5)],[]⟩,Z3e v0 v1 v5)
def Zact:=fun a0 a1=>Zvc.run (Z6s a0 a1)
theorem Zamu(a0)(a1){r}(h:Zact a0 a1=some r):Fn PR 184 [wL Zq a0,wL Zq a1] (wB r):=Zvc.fn h
inductive Zto where
 | L0 (E0:Zd) (E1:Zd) (v5:Int)
def Zag5(E0:Zd)(E1:Zd)(v5:Int):LT Zto Bool:=
.len Z9 E0.Specs<|.br (decide (v5 < (E0.Specs.length:Int))) (.idx Z9 E0.Specs v5 fun x3=>.idx Z9 E1.Specs v5 fun x5=>.br (!(Z1 (Z9 x3) (Z9 x5))) (.rt false)<|.g0 (.L0 E0 E1 (IntKind.wrap .i64 (v5+1))))<|.cs (E0.Kind==E1.Kind) (.k5 1<|.kg 1<|.cs (Z1 (Zo E0.Filter) (Zo E1.Filter)) (.k5 2<|.call (Z3d E0.Mods E1.Mods) fun x12=>.kg 2<|.cs x12 (.k5 3<|.kg 3<|.cs (Z1 (Zdk E0.Price) (Zdk E1.Price)) (.k5 4<|.kg 4<|.cs (E0.Slow==E1.Slow) (.k5 5<|.kg 5<|.cs (Z1 (Zb6 E0.Trigger) (Zb6 E1.Trigger)) (.k5 6<|.kg 6<|.cs (E0.May==E1.May) (.k5 7<|.call (Zamu E0.Effects E1.Effects) fun x19=>.kg 7<|.cs x19 (.k5 8<|.kg 8<|.rt (Z1 (Zbf E0.Replace) (Zbf E1.Replace)))<|.k5 8<|.kg 8<|.rt false)<|.k5 7<|.kg 7<|.b5 false<|.kb false<|.rt false)<|.k5 6<|.kg 6<|.b8 false<|.b4 false<|.rt false)<|.k5 5<|.kg 5<|.b16 false<|.b2 false<|.rt false)<|.k5 4<|.kg 4<|.b16 false<|.b8 false<|.rt false)<|.k5 3<|.kg 3<|.b16 false<|.b8 false<|.b5 false<|.kb false<|.rt false)<|.k5 2<|.kg 2<|.b16 false<|.b16 false<|.b4 false<|.rt false)<|.k5 1<|.kg 1<|.b16 false<|.b16 false<|.b8 false<|.b2 false<|.rt false
def Zamv(a0:Zd)(a1:Zd):LT Zto Bool:=
.lb 1002<|.lb 1003<|.len Z9 a0.Specs<|.len Z9 a1.Specs<|.br ((a0.Specs.length:Int) != (a1.Specs.length:Int)) (.rt false)<|.go (.L0 a0 a1 0) [.relab 1002 3000,.relab 1003 3001]
def Z8g:LF Zto Bool := .m0 136 [.t 4] wB fun | .L0 E0 E1 v5=>([1,1,0,1,4],⟨92,[(2,.bptr 3000 0),(3,.bptr 3001 0),(5,wI v5)],[(3000,.box (bx (Zi E0))),(3001,.box (bx (Zi E1)))]⟩,Zag5 E0 E1 v5)
def Zax2:=fun a0 a1=>Z8g.run (Zamv a0 a1)
theorem Za0z(a0)(a1){r}(h:Zax2 a0 a1=some r):Fn PR 136 [wA (Zi a0),wA (Zi a1)] (wB r):=Z8g.fn h
def Zamw(a0:Zm)(a1:Zmv):LT Empty Bool:=
.lb 1002<|.lb 1003<|.call (Ze9 a1.Id 1 (IntKind.wrap .i64 (a0.NextId - 1))) fun x3=>.cs (!x3) (.k5 0<|.b8 true<|.b3 true<|.kn [0]<|.rt false)<|.k3 0<|.call (Ze9 a1.X 0 1000000) fun x6=>.k2 0<|.cs (!x6) (.k5 1<|.b5 true<|.kb true<|.kn [0]<|.rt false)<|.k3 1<|.len Zor a1.Targets<|.k2 1<|.cs (decide ((a1.Targets.length:Int) > 4)) (.k5 2<|.kg 2<|.kn [0]<|.rt false)<|.k4 2<|.call (Zh9 a0 a1.Control) fun x11=>.k2 2<|.br (!x11) (.rt false)<|.call (Z9n a0 a1.Id) fun x14=>.lb 1005<|.br (a1.Kind==1) (.call (Za0z a1.Ability (⟨0,(⟨0,0,0,0,0,0,0,([]:By),0,0,(⟨0,0⟩:Zb),(⟨0,0⟩:Zb),(⟨0,0⟩:Zb)⟩:Zg),([]:List Zc),(⟨(⟨0,0,(⟨0,0,0,0,0⟩:A5 Int)⟩:Zt),false,false,0⟩:Zgs),false,(⟨0,0,(⟨0,0,0,0,0,0,0,([]:By),0,0,(⟨0,0⟩:Zb),(⟨0,0⟩:Zb),(⟨0,0⟩:Zb)⟩:Zg)⟩:Zcg),false,([]:List Zaz),([]:List Zs),(⟨0,0,(⟨0,0,0,0,0,0,0,([]:By),0,0,(⟨0,0⟩:Zb),(⟨0,0⟩:Zb),(⟨0,0⟩:Zb)⟩:Zg),0,0,0,0⟩:Za1)⟩:Zd)) fun x17=>.cs (a1.Source==a1.Id) (.k2 5<|.cs x14.2 (.k4 6<|.cs (x14.1.Zone==5) (.k2 7<|.cs x17 (.k3 8<|.kg 7<|.kg 8<|.kg 7<|.rt true)<|.k3 8<|.call (Z3b a1.Ability) fun x23=>.kg 7<|.kg 8<|.kg 7<|.rt x23)<|.k4 7<|.rt false)<|.k4 6<|.b4 false<|.rt false)<|.k2 5<|.b8 false<|.rt false)<|.cs (a1.Kind==2) (.k3 5<|.cs (!x14.2) (.k3 6<|.call (Z3b a1.Ability) fun x27=>.kg 6<|.rt x27)<|.k4 6<|.rt false)<|.k3 5<|.b4 false<|.rt false
def Zamx:LF Empty Bool := .z0 85 [.t 4] wB
def Zax3:=fun a0 a1=>Zamx.run (Zamw a0 a1)
theorem Za00(a0)(a1){r}(h:Zax3 a0 a1=some r):Fn PR 85 [wA (Zae a0),wA (Zbj a1)] (wB r):=Zamx.fn h
inductive Z00 where
 | L0 (v0:List Int) (v3:Int)
def Zarz(v0:List Int)(v3:Int):LT Z00 Bool:=
.len (cI .i64) v0<|.br (decide (v3 < (v0.length:Int))) (.idx (cI .i64) v0 (IntKind.wrap .i64 (v3 - 1)) fun x5=>.idx (cI .i64) v0 v3 fun x7=>.br (decide (x5>=x7)) (.rt false)<|.g0 (.L0 v0 (IntKind.wrap .i64 (v3+1))))<|.rt true
def Zax4(a0:List Int):LT Z00 Bool:=
.g0 (.L0 a0 1)
def Zai1:LF Z00 Bool := .m0 86 [.t 2] wB fun | .L0 v0 v3=>([1,0,1,4],⟨20,[(0,wL (cI .i64) v0),(3,wI v3)],[]⟩,Zarz v0 v3)
def Za77:=fun a0=>Zai1.run (Zax4 a0)
theorem Za78(a0){r}(h:Za77 a0=some r):Fn PR 86 [wL (cI .i64) a0] (wB r):=Zai1.fn h
inductive Zi6 where
 | L0 (E0:Zm) (v3:Int)
 | L1 (E0:Zm) (v3:Int) (v4:Int)
 | L2 (E0:Zm) (v5:Int)
 | L3 (E0:Zm) (v7:Int)
def Zacu(E0:Zm)(v3:Int):LT Zi6 Bool:=
.len Zbj E0.Stack<|.br (decide (v3 < (E0.Stack.length:Int))) (.idx Zbj E0.Stack v3 fun x3=>.call (Za00 E0 x3) fun x5=>.br (!x5) (.rt false)<|.g0 (.L1 E0 v3 0))<|.g0 (.L2 E0 0)
def Zacv(E0:Zm)(v3:Int)(v4:Int):LT Zi6 Bool:=
.br (decide (v4 < v3)) (.idx Zbj E0.Stack v4 fun x2=>.idx Zbj E0.Stack v3 fun x4=>.br (x2.Id==x4.Id) (.rt false)<|.g0 (.L1 E0 v3 (IntKind.wrap .i64 (v4+1))))<|.g0 (.L0 E0 (IntKind.wrap .i64 (v3+1)))
def Zacw(E0:Zm)(v5:Int):LT Zi6 Bool:=
.len Zbl E0.Waiting<|.br (decide (v5 < (E0.Waiting.length:Int))) (.idx Zbl E0.Waiting v5 fun x3=>.lb 1006<|.call (Zh9 E0 x3.Control) fun x5=>.cs (!x5) (.k5 1<|.b5 true<|.kn [0]<|.rt false)<|.k5 1<|.cs (x3.Ability.Kind != 4) (.k5 2<|.kn [0]<|.rt false)<|.k3 2<|.call (Z3b x3.Ability) fun x9=>.k2 2<|.br (!x9) (.rt false)<|.g0 (.L2 E0 (IntKind.wrap .i64 (v5+1))))<|.g0 (.L3 E0 0)
def Zacx(E0:Zm)(v7:Int):LT Zi6 Bool:=
.len Zbx E0.Conts<|.br (decide (v7 < (E0.Conts.length:Int))) (.idx Zbx E0.Conts v7 fun x3=>.lb 1008<|.call (Zh9 E0 x3.Control) fun x5=>.cs (!x5) (.k5 1<|.kg 1<|.b8 true<|.b5 true<|.b2 true<|.kn [0]<|.rt false)<|.k5 1<|.kg 1<|.cs (decide (x3.Stamp>=E0.NextStamp)) (.k5 2<|.b8 true<|.b2 true<|.kn [0]<|.rt false)<|.k3 2<|.call (Ze9 x3.Until 1 2) fun x9=>.k2 2<|.cs (!x9) (.k5 3<|.b5 true<|.kn [0]<|.rt false)<|.k3 3<|.call (Za78 x3.Objects) fun x12=>.k2 3<|.cs (!x12) (.k5 4<|.kn [0]<|.rt false)<|.k3 4<|.call (Zti x3.Mods) fun x15=>.k2 4<|.br (x15==([]:By)) (.rt false)<|.g0 (.L3 E0 (IntKind.wrap .i64 (v7+1))))<|.rt true
def Zag6(a0:Zm):LT Zi6 Bool:=
.lb 1001<|.len Zbj a0.Stack<|.cs (decide ((a0.Stack.length:Int) > 64)) (.k5 0<|.b5 true<|.kn [0]<|.rt false)<|.k3 0<|.len Zbl a0.Waiting<|.k2 0<|.cs (decide ((a0.Waiting.length:Int) > 64)) (.k5 1<|.kn [0]<|.rt false)<|.k3 1<|.len Zbx a0.Conts<|.k2 1<|.br (decide ((a0.Conts.length:Int) > 64)) (.rt false)<|.go (.L0 a0 0) [.relab 1001 3000]
def Znz:LF Zi6 Bool := .m0 50 [.t 2] wB fun | .L0 E0 v3=>([1,1,0,1,4],⟨129,[(1,.bptr 3000 0),(3,wI v3)],[(3000,.box (bx (Zae E0)))]⟩,Zacu E0 v3) | .L1 E0 v3 v4=>([1,1,0,1,4,5,1,0,4,1,1,4],⟨129,[(1,.bptr 3000 0),(3,wI v3),(4,wI v4)],[(3000,.box (bx (Zae E0)))]⟩,Zacv E0 v3 v4) | .L2 E0 v5=>([1,1,1,0,1,4],⟨129,[(1,.bptr 3000 0),(5,wI v5)],[(3000,.box (bx (Zae E0)))]⟩,Zacw E0 v5) | .L3 E0 v7=>([1,1,1,1,0,1,4],⟨129,[(1,.bptr 3000 0),(7,wI v7)],[(3000,.box (bx (Zae E0)))]⟩,Zacx E0 v7)
def Zar0:=fun a0=>Znz.run (Zag6 a0)
theorem Ztp(a0){r}(h:Zar0 a0=some r):Fn PR 50 [wA (Zae a0)] (wB r):=Znz.fn h
inductive Z01 where
 | L0 (v0:List Zl) (E0:Zm) (v5:Int)
def Zar1(v0:List Zl)(E0:Zm)(v5:Int):LT Z01 Bool:=
.len (cI .i64) E0.Extra<|.br (decide (v5 < (E0.Extra.length:Int))) (.idx (cI .i64) E0.Extra v5 fun x3=>.call (Zh9 E0 x3) fun x5=>.br (!x5) (.rt false)<|.g0 (.L0 v0 E0 (IntKind.wrap .i64 (v5+1))))<|.cs (E0.Over==1) (.k4 1<|.call (Zh9 E0 E0.Winner) fun x11=>.k2 1<|.cs (!x11) (.k5 2<|.kg 2<|.kn [0]<|.rt false)<|.k4 2<|.cs (E0.Over != 1) (.k3 3<|.kg 2<|.kg 3<|.kg 2<|.br (E0.Winner != (-1)) (.rt false)<|.call (Zpy v0 E0) fun x16=>.cs x16 (.k2 5<|.call (Ztp E0) fun x19=>.kg 5<|.rt x19)<|.k3 5<|.rt false)<|.k3 3<|.kg 2<|.kg 3<|.kg 2<|.kn [0]<|.call (Zpy v0 E0) fun x21=>.cs x21 (.k2 4<|.call (Ztp E0) fun x24=>.kg 4<|.rt x24)<|.k3 4<|.rt false)<|.k5 1<|.kg 1<|.b4 false<|.cs (E0.Over != 1) (.k3 2<|.kb false<|.kg 2<|.kb false<|.br (E0.Winner != (-1)) (.rt false)<|.call (Zpy v0 E0) fun x28=>.cs x28 (.k2 4<|.call (Ztp E0) fun x31=>.kg 4<|.rt x31)<|.k3 4<|.rt false)<|.k3 2<|.kb false<|.kg 2<|.kb false<|.kn [0]<|.call (Zpy v0 E0) fun x33=>.cs x33 (.k2 3<|.call (Ztp E0) fun x36=>.kg 3<|.rt x36)<|.k3 3<|.rt false
def Zax5(a0:List Zl)(a1:Zm):LT Z01 Bool:=
.lb 1003<|.call (Ze9 a1.NextId 1 1000000) fun x1=>.cs (!x1) (.k5 0<|.b8 true<|.b5 true<|.b2 true<|.kn [0]<|.rt false)<|.k3 0<|.call (Ze9 a1.NextStamp 1 1000000) fun x4=>.k2 0<|.cs (!x4) (.k5 1<|.b8 true<|.b2 true<|.kn [0]<|.rt false)<|.k3 1<|.call (Ze9 a1.Turn 0 500) fun x7=>.k2 1<|.cs (!x7) (.k5 2<|.b5 true<|.kn [0]<|.rt false)<|.k3 2<|.call (Ze9 a1.Step 0 10) fun x10=>.k2 2<|.cs (!x10) (.k5 3<|.kn [0]<|.rt false)<|.k3 3<|.len Zn a1.Objects<|.k2 3<|.br (decide ((a1.Objects.length:Int) > 2048)) (.rt false)<|.call (Zao7 a1) fun x15=>.cs (!x15) (.k5 5<|.kg 5<|.b16 true<|.b8 true<|.kn [0]<|.rt false)<|.k4 5<|.call (Zh9 a1 a1.Active) fun x18=>.k2 5<|.cs (!x18) (.k5 6<|.kg 6<|.b16 true<|.b2 true<|.kn [0]<|.rt false)<|.k4 6<|.call (Zh9 a1 a1.Priority) fun x21=>.k2 6<|.cs (!x21) (.k8 7<|.b8 true<|.b2 true<|.kn [0]<|.rt false)<|.k5 7<|.len Zba a1.Players<|.kg 7<|.call (Ze9 a1.Passes 0 (a1.Players.length:Int)) fun x25=>.k2 7<|.cs (!x25) (.k5 8<|.b5 true<|.kn [0]<|.rt false)<|.k3 8<|.len (cI .i64) a1.Extra<|.k2 8<|.cs (decide ((a1.Extra.length:Int) > 500)) (.k5 9<|.kn [0]<|.rt false)<|.k3 9<|.call (Ze9 a1.Over 0 2) fun x30=>.k2 9<|.br (!x30) (.rt false)<|.go (.L0 a0 a1 0) [.relab 1003 3000]
def Zai2:LF Z01 Bool := .m0 29 [.t 4] wB fun | .L0 v0 E0 v5=>([1,1,1,0,1,4],⟨114,[(0,wL Zw v0),(3,.bptr 3000 0),(5,wI v5)],[(3000,.box (bx (Zae E0)))]⟩,Zar1 v0 E0 v5)
def Za79:=fun a0 a1=>Zai2.run (Zax5 a0 a1)
theorem Za8a(a0)(a1){r}(h:Za79 a0 a1=some r):Fn PR 29 [wL Zw a0,wA (Zae a1)] (wB r):=Zai2.fn h
def Zag7(a0:List Zl)(a1:Zm):LT Empty Bool:=
.lb 1003<|.call (Zaxn a0) fun x1=>.cs (x1.2==0) (.k3 0<|.call (Za8a a0 a1) fun x4=>.kg 0<|.rt x4)<|.k4 0<|.rt false
def Zag8:LF Empty Bool := .z0 10 [.t 4] wB
def Zar2:=fun a0 a1=>Zag8.run (Zag7 a0 a1)
theorem Zax6(a0)(a1){r}(h:Zar2 a0 a1=some r):Fn PR 10 [wL Zw a0,wA (Zae a1)] (wB r):=Zag8.fn h
inductive Z49 where
 | L0 (v0:List Zf) (E0:Zm) (E1:Zm) (v4:Int)
def Zax7(v0:List Zf)(E0:Zm)(E1:Zm)(v4:Int):LT Z49 Zm:=
.len Zn v0<|.br (decide (v4 < (v0.length:Int))) (.idx Zn v0 v4 fun x3=>.lb 1005<|.dr [.lit]<|.apR Zn 128 E1.Objects [(⟨IntKind.wrap .i64 (v4+1),x3.Card,x3.Owner,x3.Control,x3.Zone,x3.Token,x3.Tapped,x3.Sick,x3.Deadly,x3.Damage,x3.Counters,IntKind.wrap .i64 (v4+1),-1,-1,x3.Blocked,x3.Blocks,x3.Shield⟩:Zf)] fun x7=>.dr [.lit]<|.apR (cI .i64) 8 E1.Battlefield [IntKind.wrap .i64 (v4+1)] fun x10=>.g0 (.L0 v0 E0 (⟨E1.Players,x7,x10,E1.Exile,E1.Stack,E1.Waiting,E1.Conts,E1.Turn,E1.Active,E1.Step,E1.Begun,E1.Priority,E1.Passes,E1.NextId,E1.NextStamp,E1.Seed,E1.Extra,E1.Over,E1.Winner⟩:Zm) (IntKind.wrap .i64 (v4+1))))<|.ret E1 [.relab 40101 5001,.relab 40102 5002,.relab 40103 5003,.relab 40104 5004,.relab 40105 5005,.relab 40106 5006,.relab 40116 5016]
def Za01(a0:List Zf):LT Z49 Zm:=
.lb 1002<|.dr [.lit]<|.len Zn a0<|.len Zn a0<|.lb 1003<|.go (.L0 a0 (⟨([]:List Zkg),([]:List Zf),([]:List Int),([]:List Int),([]:List Zmv),([]:List Zkx),([]:List Zc7),0,0,0,false,0,0,0,0,0,([]:List Int),0,0⟩:Zm) (⟨[(⟨20,0,0,(⟨0,0,0,0,0,0⟩:A6 Int),false,false,([]:List Int),([]:List Int),([]:List Int)⟩:Zkg),(⟨20,0,0,(⟨0,0,0,0,0,0⟩:A6 Int),false,false,([]:List Int),([]:List Int),([]:List Int)⟩:Zkg)],([]:List Zf),([]:List Int),([]:List Int),([]:List Zmv),([]:List Zkx),([]:List Zc7),1,0,3,true,0,0,IntKind.wrap .i64 ((a0.length:Int)+1),IntKind.wrap .i64 ((a0.length:Int)+1),0,([]:List Int),0,-1⟩:Zm) 0) [.relab 1002 3000,.relab 1003 3001,.ownb 3000 0 40000 14,.ownb 3000 1 40001 19,.ownb 3000 2 40002 1,.ownb 3000 3 40003 1,.ownb 3000 4 40004 94,.ownb 3000 5 40005 89,.ownb 3000 6 40006 6,.ownb 3000 16 40016 1,.ownb 3001 1 40101 19,.ownb 3001 2 40102 1,.ownb 3001 3 40103 1,.ownb 3001 4 40104 94,.ownb 3001 5 40105 89,.ownb 3001 6 40106 6,.ownb 3001 16 40116 1]
def Zag9:LF Z49 Zm := .m 30 [.c 2 31 true 19] true (fun r=>(tm16 r 5000)) (fun r=>(.agg (tm9 r 5000))) fun | .L0 v0 E0 E1 v4=>([1,1,0,1,4],⟨48,[(0,wL Zn v0),(2,.bptr 3000 0),(3,.bptr 3001 0),(4,wI v4)],((3000,.box [wO Zba 40000 E0.Players,wO Zn 40001 E0.Objects,wO (cI .i64) 40002 E0.Battlefield,wO (cI .i64) 40003 E0.Exile,wO Zbj 40004 E0.Stack,wO Zbl 40005 E0.Waiting,wO Zbx 40006 E0.Conts,wI E0.Turn,wI E0.Active,wI E0.Step,wB E0.Begun,wI E0.Priority,wI E0.Passes,wI E0.NextId,wI E0.NextStamp,.t (.int .u64 E0.Seed),wO (cI .i64) 40016 E0.Extra,wI E0.Over,wI E0.Winner])::(40000,wR Zba 14 E0.Players)::(40001,wR Zn 19 E0.Objects)::(40002,wR (cI .i64) 1 E0.Battlefield)::(40003,wR (cI .i64) 1 E0.Exile)::(40004,wR Zbj 94 E0.Stack)::(40005,wR Zbl 89 E0.Waiting)::(40006,wR Zbx 6 E0.Conts)::(40016,wR (cI .i64) 1 E0.Extra)::(3001,.box (tm9 E1 40100))::(tm16 E1 40100))⟩,Zax7 v0 E0 E1 v4)
def Zar3:=fun a0=>Zag9.run (Za01 a0)
theorem Zas1(a0){r}(h:Zar3 a0=some r):FnG PR 30 [] [wL Zn a0] (tm16 r 5000) (.agg (tm9 r 5000)):=Zag9.fn h
theorem Zax8(a0:List Zf){r:Zm}(h:Zar3 a0=some r):Fn PR 30 [wL Zn a0] (wA (Zae r)):=
 FnG.frozen (C:=LT.RL Zn r.Objects/\LT.RL (cI .i64) r.Battlefield/\LT.RL (cI .i64) r.Exile/\LT.RL Zbj r.Stack/\LT.RL Zbl r.Waiting/\LT.RL Zbx r.Conts/\LT.RL (cI .i64) r.Extra/\True) (Zas1 a0 h) ⟨rfl,rfl,rfl,rfl,rfl,rfl,rfl,trivial⟩ (by kernel_rfl)
inductive Zo0 where
 | L0 (E0:Zt) (v6:A5 Int) (v7:Int)
def Zpz(E0:Zt)(v6:A5 Int)(v7:Int):LT Zo0 Bool:=
.br (decide (v7 < 5)) (.idX (Zh.int .i64) (A5.list v6) v7 fun x2=>.cs (decide (x2 < 0)) (.k3 1<|.kn [0]<|.rt false)<|.k3 1<|.br (decide (x2 > 9)) (.rt false)<|.g0 (.L0 E0 v6 (IntKind.wrap .i64 (v7+1))))<|.cs (decide (E0.Generic>=0)) (.k4 1<|.cs (decide (E0.Generic<=99)) (.k4 2<|.cs (decide (E0.X>=0)) (.k4 3<|.rt (decide (E0.X<=2)))<|.k4 3<|.rt false)<|.k4 2<|.b4 false<|.rt false)<|.k4 1<|.b8 false<|.rt false
def Zacy(a0:Zt):LT Zo0 Bool:=
.lb 1001<|.go (.L0 a0 a0.Color 0) [.relab 1001 3000]
def Zsp:LF Zo0 Bool := .m0 139 [.t 2] wB fun | .L0 E0 v6 v7=>([1,0,1,4],⟨35,[(1,.bptr 3000 0),(6,wA ((cA5 (cI .i64)) v6)),(7,wI v7)],[(3000,.box (bx (Zaf E0)))]⟩,Zpz E0 v6 v7)
def Zaes:=fun a0=>Zsp.run (Zacy a0)
theorem Zamy(a0){r}(h:Zaes a0=some r):Fn PR 139 [wA (Zaf a0)] (wB r):=Zsp.fn h
inductive Znb where
 | L0 (v3:Int) (v16:A5 Int) (v17:Int)
def Z6t(v3:Int)(v16:A5 Int)(v17:Int):LT Znb Int:=
.br (decide (v17 < 5)) (.idX (Zh.int .i64) (A5.list v16) v17 fun x2=>.br (decide (x2 > 0)) (.ok (¬ v17 < 0)<|.g0 (.L0 (Zau .or .i64 v3 (Z0h .i64 1 v17)) v16 (IntKind.wrap .i64 (v17+1))))<|.g0 (.L0 v3 v16 (IntKind.wrap .i64 (v17+1))))<|.rt v3
def Z9s(a0:Zt):LT Znb Int:=
.lb 1001<|.call (Zamy a0) fun x1=>.cs (!x1) (.k5 0<|.kn [0]<|.rt 0)<|.k5 0<|.br (Z1 ((cA5 (cI .i64)) a0.Color) ((cA5 (cI .i64)) (⟨0,0,0,0,0⟩:A5 Int))) (.rt 0)<|.g0 (.L0 0 a0.Color 0)
def Zx6:LF Znb Int := .m0 88 [.t 2] wI fun | .L0 v3 v16 v17=>([1,1,1,0,1,4],⟨29,[(3,wI v3),(16,wA ((cA5 (cI .i64)) v16)),(17,wI v17)],[]⟩,Z6t v3 v16 v17)
def Zaha:=fun a0=>Zx6.run (Z9s a0)
theorem Zao8(a0){r}(h:Zaha a0=some r):Fn PR 88 [wA (Zaf a0)] (wI r):=Zx6.fn h
def Zf5(a0:Bys)(hne:a0≠[]):LT Empty (Bys):=
.ne cS hne<|.kn [0]<|.lb 1005<|.apR cS 16 ([]:Bys) a0 fun x1=>.ret x1 [.relab 1005 5000]
def Zbg:LF Empty (Bys) := .z 89 [.t 2] true (fun r=>[(5000,wR cS 1 r)]) (fun r=>(wO cS 5000 r))
def Zdv(c:Nat):LT Empty (Bys):=
.kn [0]<|.ret ([]:Bys) [.own 2 5000 1]
def Zr1(c:Nat)(ad:Addr):LT Empty (Bys):=
.kn [0]<|.lb 1005<|.apR cS 16 ([]:Bys) ([]:Bys) fun x1=>.ret x1 [.relab 1005 5000]
open Classical in
def Zej(a0:Bys):Option (Bys):=if h:a0≠[] then Zbg.run (Zf5 a0 h) else Zbg.run (Zdv 0)
theorem Zfm(a0:Bys){r:Bys}(h:Zej a0=some r):FnG PR 89 [] [wL cS a0] [(5000,wR cS 1 r)] (wO cS 5000 r):=by
 by_cases hne:a0=[]
 .subst hne
  have h0:Zbg.run (Zdv 0)=some r:=h
  exact FnG.split0 (fun e=>absurd rfl e) (fun _ a c=>by
   cases a with
   | none=>exact Zbg.fn (t:=Zdv c) h0
   | some ad=>exact Zbg.fn (t:=Zr1 c ad) h0)
 .have h0:Zbg.run (Zf5 a0 hne)=some r:=by unfold Zej at h;rwa [dif_pos hne] at h
  exact FnG.split0 (fun _=>Zbg.fn h0) (fun e=>absurd (List.map_eq_nil_iff.1 e) hne)
def Zfn(a0:List Zc)(hne:a0≠[]):LT Empty (List Zc):=
.ne Zk hne<|.kn [0]<|.lb 1005<|.apR Zk 176 ([]:List Zc) a0 fun x1=>.ret x1 [.relab 1005 5000]
def Zbe:LF Empty (List Zc) := .z 32 [.t 2] true (fun r=>[(5000,wR Zk 20 r)]) (fun r=>(wO Zk 5000 r))
def Zdi(c:Nat):LT Empty (List Zc):=
.kn [0]<|.ret ([]:List Zc) [.own 2 5000 20]
def Zqi(c:Nat)(ad:Addr):LT Empty (List Zc):=
.kn [0]<|.lb 1005<|.apR Zk 176 ([]:List Zc) ([]:List Zc) fun x1=>.ret x1 [.relab 1005 5000]
open Classical in
def Zcq(a0:List Zc):Option (List Zc):=if h:a0≠[] then Zbe.run (Zfn a0 h) else Zbe.run (Zdi 0)
theorem Zh3(a0:List Zc){r:List Zc}(h:Zcq a0=some r):FnG PR 32 [] [wL Zk a0] [(5000,wR Zk 20 r)] (wO Zk 5000 r):=by
 by_cases hne:a0=[]
 .subst hne
  have h0:Zbe.run (Zdi 0)=some r:=h
  exact FnG.split0 (fun e=>absurd rfl e) (fun _ a c=>by
   cases a with
   | none=>exact Zbe.fn (t:=Zdi c) h0
   | some ad=>exact Zbe.fn (t:=Zqi c ad) h0)
 .have h0:Zbe.run (Zfn a0 hne)=some r:=by unfold Zcq at h;rwa [dif_pos hne] at h
  exact FnG.split0 (fun _=>Zbe.fn h0) (fun e=>absurd (List.map_eq_nil_iff.1 e) hne)
theorem Zb9(a0:List Zc){r:List Zc}(h:Zcq a0=some r):Fn PR 32 [wL Zk a0] (wL Zk r):=
 FnG.frozen (C:=LT.RL Zk r/\True) (Zh3 a0 h) ⟨rfl,trivial⟩ (by kernel_rfl)
def Zes(a0:List Zaz)(hne:a0≠[]):LT Empty (List Zaz):=
.ne Z9 hne<|.kn [0]<|.lb 1005<|.apR Z9 144 ([]:List Zaz) a0 fun x1=>.ret x1 [.relab 1005 5000]
def Za9:LF Empty (List Zaz) := .z 140 [.t 2] true (fun r=>[(5000,wR Z9 18 r)]) (fun r=>(wO Z9 5000 r))
def Zc1(c:Nat):LT Empty (List Zaz):=
.kn [0]<|.ret ([]:List Zaz) [.own 2 5000 18]
def Zo1(c:Nat)(ad:Addr):LT Empty (List Zaz):=
.kn [0]<|.lb 1005<|.apR Z9 144 ([]:List Zaz) ([]:List Zaz) fun x1=>.ret x1 [.relab 1005 5000]
open Classical in
def Zch(a0:List Zaz):Option (List Zaz):=if h:a0≠[] then Za9.run (Zes a0 h) else Za9.run (Zc1 0)
theorem Zhc(a0:List Zaz){r:List Zaz}(h:Zch a0=some r):FnG PR 140 [] [wL Z9 a0] [(5000,wR Z9 18 r)] (wO Z9 5000 r):=by
 by_cases hne:a0=[]
 .subst hne
  have h0:Za9.run (Zc1 0)=some r:=h
  exact FnG.split0 (fun e=>absurd rfl e) (fun _ a c=>by
   cases a with
   | none=>exact Za9.fn (t:=Zc1 c) h0
   | some ad=>exact Za9.fn (t:=Zo1 c ad) h0)
 .have h0:Za9.run (Zes a0 hne)=some r:=by unfold Zch at h;rwa [dif_pos hne] at h
  exact FnG.split0 (fun _=>Za9.fn h0) (fun e=>absurd (List.map_eq_nil_iff.1 e) hne)
theorem Zo2(a0:List Zaz){r:List Zaz}(h:Zch a0=some r):Fn PR 140 [wL Z9 a0] (wL Z9 r):=
 FnG.frozen (C:=LT.RL Z9 r/\True) (Zhc a0 h) ⟨rfl,trivial⟩ (by kernel_rfl)
def Zd0(a0:List Zs)(hne:a0≠[]):LT Empty (List Zs):=
.ne Zq hne<|.kn [0]<|.lb 1005<|.apR Zq 560 ([]:List Zs) a0 fun x1=>.ret x1 [.relab 1005 5000]
def Za0:LF Empty (List Zs) := .z 141 [.t 2] true (fun r=>[(5000,wR Zq 64 r)]) (fun r=>(wO Zq 5000 r))
def Zce(c:Nat):LT Empty (List Zs):=
.kn [0]<|.ret ([]:List Zs) [.own 2 5000 64]
def Zm1(c:Nat)(ad:Addr):LT Empty (List Zs):=
.kn [0]<|.lb 1005<|.apR Zq 560 ([]:List Zs) ([]:List Zs) fun x1=>.ret x1 [.relab 1005 5000]
open Classical in
def Zcs(a0:List Zs):Option (List Zs):=if h:a0≠[] then Za0.run (Zd0 a0 h) else Za0.run (Zce 0)
theorem Zf9(a0:List Zs){r:List Zs}(h:Zcs a0=some r):FnG PR 141 [] [wL Zq a0] [(5000,wR Zq 64 r)] (wO Zq 5000 r):=by
 by_cases hne:a0=[]
 .subst hne
  have h0:Za0.run (Zce 0)=some r:=h
  exact FnG.split0 (fun e=>absurd rfl e) (fun _ a c=>by
   cases a with
   | none=>exact Za0.fn (t:=Zce c) h0
   | some ad=>exact Za0.fn (t:=Zm1 c ad) h0)
 .have h0:Za0.run (Zd0 a0 hne)=some r:=by unfold Zcs at h;rwa [dif_pos hne] at h
  exact FnG.split0 (fun _=>Za0.fn h0) (fun e=>absurd (List.map_eq_nil_iff.1 e) hne)
inductive Zhr where
 | L0 (E0:Zd) (E1:Zd) (v18:Int) (v19:Int)
def Zuu(E0:Zd)(E1:Zd)(v18:Int)(v19:Int):LT Zhr Zd:=
.br (decide (v19 < v18)) (.idxR Zq E0.Effects v19 fun x2=>.rl Zq E0.Effects<|.ldR Zq E0.Effects x2 2<|.call (Zb9 x2.Mods) fun x4=>.plR Zq E0.Effects v19 0<|.rl Zq E0.Effects<|.setD Zq E0.Effects v19 x2 (⟨x2.Op,x2.Ref,x2.Amount,x2.Counter,x2.Zone,x2.Card,x2.Filter,x2.Pool,x4⟩:Zs) 2 63 [.sl (List.map Zk x4)] rfl fun x6=>.dr [.ahead 34,.relen 40049,.stop]<|.us [3]<|.us [3]<|.us [3]<|.us [3]<|.us [3]<|.us [3]<|.us [3]<|.g0 (.L0 (⟨E0.Kind,E0.Filter,E0.Mods,E0.Price,E0.Slow,E0.Trigger,E0.May,E0.Specs,x6,E0.Replace⟩:Zd) E1 v18 (IntKind.wrap .i64 (v19+1))))<|.ret E0 [.relab 40017 5017,.relab 40048 5048,.relab 40049 5049]
def Zxa(a0:Zd):LT Zhr Zd:=
.lb 1001<|.lb 1002<|.callF (Zh3 a0.Mods) 70000 fun x1=>.callF (Zhc a0.Specs) 110000 fun x3=>.callF (Zf9 a0.Effects) 150000 fun x5=>.lenO Zq x5<|.go (.L0 (⟨a0.Kind,a0.Filter,x1,a0.Price,a0.Slow,a0.Trigger,a0.May,x3,x5,a0.Replace⟩:Zd) (⟨0,(⟨0,0,0,0,0,0,0,([]:By),0,0,(⟨0,0⟩:Zb),(⟨0,0⟩:Zb),(⟨0,0⟩:Zb)⟩:Zg),([]:List Zc),(⟨(⟨0,0,(⟨0,0,0,0,0⟩:A5 Int)⟩:Zt),false,false,0⟩:Zgs),false,(⟨0,0,(⟨0,0,0,0,0,0,0,([]:By),0,0,(⟨0,0⟩:Zb),(⟨0,0⟩:Zb),(⟨0,0⟩:Zb)⟩:Zg)⟩:Zcg),false,([]:List Zaz),([]:List Zs),(⟨0,0,(⟨0,0,0,0,0,0,0,([]:By),0,0,(⟨0,0⟩:Zb),(⟨0,0⟩:Zb),(⟨0,0⟩:Zb)⟩:Zg),0,0,0,0⟩:Za1)⟩:Zd) (x5.length:Int) 0) [.relab 1001 3000,.relab 1002 3001,.relab 75000 40017,.relab 115000 40048,.relab 155000 40049,.ownb 3001 17 40117 20,.ownb 3001 48 40148 18,.ownb 3001 49 40149 64]
def Zo3:LF Zhr Zd := .m 90 [.c 2 89 true 72] true (fun r=>(tm17 r 5000)) (fun r=>(.agg (tm1 r 5000))) fun | .L0 E0 E1 v18 v19=>([1,1,1,1,0,1,4],⟨36,[(1,.bptr 3000 0),(2,.bptr 3001 0),(18,wI v18),(19,wI v19)],((3000,.box (tm1 E0 40000))::(40017,wR Zk 20 E0.Mods)::(40048,wR Z9 18 E0.Specs)::(40049,wR Zq 64 E0.Effects)::(3001,.box (tm1 E1 40100))::(tm17 E1 40100))⟩,Zuu E0 E1 v18 v19)
def Zr2:=fun a0=>Zo3.run (Zxa a0)
theorem Z8h(a0){r}(h:Zr2 a0=some r):FnG PR 90 [] [wA (Zi a0)] (tm17 r 5000) (.agg (tm1 r 5000)):=Zo3.fn h
theorem Zaa2(a0:Zd){r:Zd}(h:Zr2 a0=some r):Fn PR 90 [wA (Zi a0)] (wA (Zi r)):=
 FnG.frozen (C:=LT.RL Zk r.Mods/\LT.RL Z9 r.Specs/\LT.RL Zq r.Effects/\True) (Z8h a0 h) ⟨rfl,rfl,rfl,trivial⟩ (by kernel_rfl)
inductive Zlq where
 | L0 (E0:Za) (E1:Za) (v32:List Zd) (v33:Int) (v34:Int)
def Z3f(E0:Za)(E1:Za)(v32:List Zd)(v33:Int)(v34:Int):LT Zlq Za:=
.br (decide (v34 < v33)) (.idx Zi v32 v34 fun x2=>.lb 1005<|.call (Zaa2 x2) fun x4=>.dr [.lit]<|.apR Zi 640 E1.Abilities [x4] fun x6=>.g0 (.L0 E0 (⟨E1.Name,E1.Cost,E1.Colors,E1.Line,E1.Power,E1.Tough,E1.Keys,x6,E1.Control⟩:Za) v32 v33 (IntKind.wrap .i64 (v34+1))))<|.ret E1 [.relab 40111 5011,.relab 40115 5015]
def Z6u(a0:Zl):LT Zlq Za:=
.lb 1001<|.lb 1002<|.call (Zao8 a0.Cost) fun x1=>.lb 1003<|.callF (Zfm a0.Line.Subs) 290000 fun x3=>.len Zi a0.Abilities<|.go (.L0 (⟨([]:By),(⟨0,0,(⟨0,0,0,0,0⟩:A5 Int)⟩:Zt),0,(⟨0,0,([]:Bys)⟩:Z7),0,0,0,([]:List Zd),0⟩:Za) (⟨a0.Name,a0.Cost,Zau .or .i64 x1 a0.Color,(⟨a0.Line.Super,a0.Line.Types,x3⟩:Z7),a0.Power,a0.Tough,a0.Keys,([]:List Zd),0⟩:Za) a0.Abilities (a0.Abilities.length:Int) 0) [.relab 1002 3000,.relab 1003 3001,.ownb 3000 11 40011 1,.ownb 3000 15 40015 72,.relab 295000 40111,.ownb 3001 15 40115 72]
def Zvd:LF Zlq Za := .m 51 [.c 2 66 true 17] true (fun r=>[(5011,wR cS 1 r.Line.Subs),(5015,wR Zi 72 r.Abilities)]) (fun r=>(.agg (tm2 r 5000))) fun | .L0 E0 E1 v32 v33 v34=>([1,1,1,0,1,4],⟨47,[(2,.bptr 3000 0),(3,.bptr 3001 0),(32,wL Zi v32),(33,wI v33),(34,wI v34)],[(3000,.box (tm2 E0 40000)),(40011,wR cS 1 E0.Line.Subs),(40015,wR Zi 72 E0.Abilities),(3001,.box (tm2 E1 40100)),(40111,wR cS 1 E1.Line.Subs),(40115,wR Zi 72 E1.Abilities)]⟩,Z3f E0 E1 v32 v33 v34)
def Zacz:=fun a0=>Zvd.run (Z6u a0)
theorem Zai3(a0){r}(h:Zacz a0=some r):FnG PR 51 [] [wA (Zw a0)] [(5011,wR cS 1 r.Line.Subs),(5015,wR Zi 72 r.Abilities)] (.agg (tm2 r 5000)):=Zvd.fn h
inductive Zsq where
 | L0 (v0:List Zl) (E0:Zf) (E1:Za) (v5:Int)
 | L1 (E0:Zf) (E1:Za) (E2:Za)
def Zp0(E0:Zf)(E1:Za)(E2:Za):LT Zsq Za:=
.cs (E0.Zone==0) (.k4 0<|.kn [0]<|.ret (⟨E2.Name,E2.Cost,E2.Colors,E2.Line,E2.Power,E2.Tough,E2.Keys,E2.Abilities,E0.Control⟩:Za) [.relab 40211 5011,.relab 40215 5015])<|.k4 0<|.br (E0.Zone==5) (.ret (⟨E2.Name,E2.Cost,E2.Colors,E2.Line,E2.Power,E2.Tough,E2.Keys,E2.Abilities,E0.Control⟩:Za) [.relab 40211 5011,.relab 40215 5015])<|.ret (⟨E2.Name,E2.Cost,E2.Colors,E2.Line,E2.Power,E2.Tough,E2.Keys,E2.Abilities,E0.Owner⟩:Za) [.relab 40211 5011,.relab 40215 5015]
def Ztq(v0:List Zl)(E0:Zf)(E1:Za)(v5:Int):LT Zsq Za:=
.lb 1006<|.cs (decide (v5>=0)) (.k3 0<|.len Zw v0<|.k2 0<|.br (decide (v5 < (v0.length:Int))) (.idx Zw v0 v5 fun x4=>.callF (Zai3 x4) 270000 fun x6=>.jn 0 (.L1 E0 E1 x6) [.relab 1006 3002,.relab 275011 40211,.relab 275015 40215] (Zp0 E0 E1 x6))<|.jn 0 (.L1 E0 E1 (⟨([]:By),(⟨0,0,(⟨0,0,0,0,0⟩:A5 Int)⟩:Zt),0,(⟨0,0,([]:Bys)⟩:Z7),0,0,0,([]:List Zd),0⟩:Za)) (tm15 1000 3000 40200) (Zp0 E0 E1 (⟨([]:By),(⟨0,0,(⟨0,0,0,0,0⟩:A5 Int)⟩:Zt),0,(⟨0,0,([]:Bys)⟩:Z7),0,0,0,([]:List Zd),0⟩:Za)))<|.k5 0<|.kn [0]<|.jn 0 (.L1 E0 E1 (⟨([]:By),(⟨0,0,(⟨0,0,0,0,0⟩:A5 Int)⟩:Zt),0,(⟨0,0,([]:Bys)⟩:Z7),0,0,0,([]:List Zd),0⟩:Za)) (tm15 1000 3000 40200) (Zp0 E0 E1 (⟨([]:By),(⟨0,0,(⟨0,0,0,0,0⟩:A5 Int)⟩:Zt),0,(⟨0,0,([]:Bys)⟩:Z7),0,0,0,([]:List Zd),0⟩:Za))
def Zar4(a0:List Zl)(a1:Zf):LT Zsq Za:=
.lb 1003<|.lb 1004<|.br (decide (a1.Copy < 0)) (.jn 0 (.L0 a0 a1 (⟨([]:By),(⟨0,0,(⟨0,0,0,0,0⟩:A5 Int)⟩:Zt),0,(⟨0,0,([]:Bys)⟩:Z7),0,0,0,([]:List Zd),0⟩:Za) a1.Card) (tm14 1000 3000 40100) (Ztq a0 a1 (⟨([]:By),(⟨0,0,(⟨0,0,0,0,0⟩:A5 Int)⟩:Zt),0,(⟨0,0,([]:Bys)⟩:Z7),0,0,0,([]:List Zd),0⟩:Za) a1.Card))<|.jn 0 (.L0 a0 a1 (⟨([]:By),(⟨0,0,(⟨0,0,0,0,0⟩:A5 Int)⟩:Zt),0,(⟨0,0,([]:Bys)⟩:Z7),0,0,0,([]:List Zd),0⟩:Za) a1.Copy) (tm14 1000 3000 40100) (Ztq a0 a1 (⟨([]:By),(⟨0,0,(⟨0,0,0,0,0⟩:A5 Int)⟩:Zt),0,(⟨0,0,([]:Bys)⟩:Z7),0,0,0,([]:List Zd),0⟩:Za) a1.Copy)
def Zar5:LF Zsq Za := .m 31 [.c 4 66 true 17] true (fun r=>[(5011,wR cS 1 r.Line.Subs),(5015,wR Zi 72 r.Abilities)]) (fun r=>(.agg (tm2 r 5000))) fun | .L0 v0 E0 E1 v5=>([1,1,1],⟨42,[(0,wL Zw v0),(3,.bptr 3000 0),(4,.bptr 3001 0),(5,wI v5)],[(3000,.box (bx (Zn E0))),(3001,.box (tm2 E1 40100)),(40111,wR cS 1 E1.Line.Subs),(40115,wR Zi 72 E1.Abilities)]⟩,Ztq v0 E0 E1 v5) | .L1 E0 E1 E2=>([1,1,1,1,1],⟨42,[(3,.bptr 3000 0),(4,.bptr 3001 0),(6,.bptr 3002 0)],[(3000,.box (bx (Zn E0))),(3001,.box (tm2 E1 40100)),(40111,wR cS 1 E1.Line.Subs),(40115,wR Zi 72 E1.Abilities),(3002,.box (tm2 E2 40200)),(40211,wR cS 1 E2.Line.Subs),(40215,wR Zi 72 E2.Abilities)]⟩,Zp0 E0 E1 E2)
def Zao9:=fun a0 a1=>Zar5.run (Zar4 a0 a1)
theorem Za02(a0)(a1){r}(h:Zao9 a0 a1=some r):FnG PR 31 [] [wL Zw a0,wA (Zn a1)] [(5011,wR cS 1 r.Line.Subs),(5015,wR Zi 72 r.Abilities)] (.agg (tm2 r 5000)):=Zar5.fn h
theorem Zamz(a0:List Zl)(a1:Zf){r:Za}(h:Zao9 a0 a1=some r):Fn PR 31 [wL Zw a0,wA (Zn a1)] (wA (Zj r)):=
 FnG.frozen (C:=LT.RL cS r.Line.Subs/\LT.RL Zi r.Abilities/\True) (Za02 a0 a1 h) ⟨rfl,rfl,trivial⟩ (by kernel_rfl)
def Zir(a0:List Int)(hne:a0≠[]):LT Empty (List Int):=
.ne (cI .i64) hne<|.kn [0]<|.lb 1005<|.apR (cI .i64) 8 ([]:List Int) a0 fun x1=>.ret x1 [.relab 1005 5000]
def Zcf:LF Empty (List Int) := .z 33 [.t 2] true (fun r=>[(5000,wR (cI .i64) 1 r)]) (fun r=>(wO (cI .i64) 5000 r))
def Zfr(c:Nat):LT Empty (List Int):=
.kn [0]<|.ret ([]:List Int) [.own 2 5000 1]
def Zx7(c:Nat)(ad:Addr):LT Empty (List Int):=
.kn [0]<|.lb 1005<|.apR (cI .i64) 8 ([]:List Int) ([]:List Int) fun x1=>.ret x1 [.relab 1005 5000]
open Classical in
def Ze0(a0:List Int):Option (List Int):=if h:a0≠[] then Zcf.run (Zir a0 h) else Zcf.run (Zfr 0)
theorem Zxb(a0:List Int){r:List Int}(h:Ze0 a0=some r):FnG PR 33 [] [wL (cI .i64) a0] [(5000,wR (cI .i64) 1 r)] (wO (cI .i64) 5000 r):=by
 by_cases hne:a0=[]
 .subst hne
  have h0:Zcf.run (Zfr 0)=some r:=h
  exact FnG.split0 (fun e=>absurd rfl e) (fun _ a c=>by
   cases a with
   | none=>exact Zcf.fn (t:=Zfr c) h0
   | some ad=>exact Zcf.fn (t:=Zx7 c ad) h0)
 .have h0:Zcf.run (Zir a0 hne)=some r:=by unfold Ze0 at h;rwa [dif_pos hne] at h
  exact FnG.split0 (fun _=>Zcf.fn h0) (fun e=>absurd (List.map_eq_nil_iff.1 e) hne)
theorem Zx8(a0:List Int){r:List Int}(h:Ze0 a0=some r):Fn PR 33 [wL (cI .i64) a0] (wL (cI .i64) r):=
 FnG.frozen (C:=LT.RL (cI .i64) r/\True) (Zxb a0 h) ⟨rfl,trivial⟩ (by kernel_rfl)
inductive Zgz where
 | L0 (v0:List Zl) (E0:Zm) (v5:List Z0) (v13:List Zf) (v14:Int) (v15:Int)
 | L1 (v0:List Zl) (E0:Zm) (v5:List Z0) (E1:Zf) (v13:List Zf) (v14:Int) (v15:Int) (v25:List Zd) (v26:Int) (v27:Int)
 | L2 (v5:List Z0) (v54:List Zc7) (v55:Int) (v56:Int)
def Z3g(v0:List Zl)(E0:Zm)(v5:List Z0)(v13:List Zf)(v14:Int)(v15:Int):LT Zgz (List Z0):=
.br (decide (v15 < v14)) (.idx Zn v13 v15 fun x2=>.lb 1007<|.br (x2.Zone != 0) (.g0 (.L0 v0 E0 v5 v13 v14 (IntKind.wrap .i64 (v15+1))))<|.call (Zamz v0 x2) fun x7=>.len Zi x7.Abilities<|.go (.L1 v0 E0 v5 x2 v13 v14 v15 x7.Abilities (x7.Abilities.length:Int) 0) [.relab 1007 3001])<|.len Zbx E0.Conts<|.g0 (.L2 v5 E0.Conts (E0.Conts.length:Int) 0)
def Z3h(v0:List Zl)(E0:Zm)(v5:List Z0)(E1:Zf)(v13:List Zf)(v14:Int)(v15:Int)(v25:List Zd)(v26:Int)(v27:Int):LT Zgz (List Z0):=
.br (decide (v27 < v26)) (.idx Zi v25 v27 fun x2=>.lb 1009<|.br (x2.Kind==1) (.call (Zb9 x2.Mods) fun x5=>.dr [.lit]<|.apR Z6 224 v5 [(⟨E1.Id,v27,E1.Control,E1.Stamp,false,([]:List Int),x2.Filter,x5⟩:Z0)] fun x7=>.g0 (.L1 v0 E0 x7 E1 v13 v14 v15 v25 v26 (IntKind.wrap .i64 (v27+1))))<|.g0 (.L1 v0 E0 v5 E1 v13 v14 v15 v25 v26 (IntKind.wrap .i64 (v27+1))))<|.g0 (.L0 v0 E0 v5 v13 v14 (IntKind.wrap .i64 (v15+1)))
def Z3i(v5:List Z0)(v54:List Zc7)(v55:Int)(v56:Int):LT Zgz (List Z0):=
.br (decide (v56 < v55)) (.idx Zbx v54 v56 fun x2=>.lb 1011<|.call (Zx8 x2.Objects) fun x4=>.call (Zb9 x2.Mods) fun x6=>.dr [.lit]<|.apR Z6 224 v5 [(⟨x2.Source,-1,x2.Control,x2.Stamp,true,x4,(⟨0,0,0,0,0,0,0,([]:By),0,0,(⟨0,0⟩:Zb),(⟨0,0⟩:Zb),(⟨0,0⟩:Zb)⟩:Zg),x6⟩:Z0)] fun x8=>.g0 (.L2 x8 v54 v55 (IntKind.wrap .i64 (v56+1))))<|.ret v5 [.relab 20005 5000]
def Z6v(a0:List Zl)(a1:Zm):LT Zgz (List Z0):=
.lb 1003<|.len Zn a1.Objects<|.go (.L0 a0 a1 ([]:List Z0) a1.Objects (a1.Objects.length:Int) 0) [.relab 1003 3000,.own 5 20005 23]
def Zlr:LF Zgz (List Z0) := .m 12 [.t 4] true (fun r=>[(5000,wR Z6 23 r)]) (fun r=>(wO Z6 5000 r)) fun | .L0 v0 E0 v5 v13 v14 v15=>([1,1,0,1,4],⟨78,[(0,wL Zw v0),(3,.bptr 3000 0),(5,wO Z6 20005 v5),(13,wL Zn v13),(14,wI v14),(15,wI v15)],[(3000,.box (bx (Zae E0))),(20005,wR Z6 23 v5)]⟩,Z3g v0 E0 v5 v13 v14 v15) | .L1 v0 E0 v5 E1 v13 v14 v15 v25 v26 v27=>([1,1,0,1,4,5,1,1,0,4,1,1,1,4],⟨78,[(0,wL Zw v0),(3,.bptr 3000 0),(5,wO Z6 20005 v5),(7,.bptr 3001 0),(13,wL Zn v13),(14,wI v14),(15,wI v15),(25,wL Zi v25),(26,wI v26),(27,wI v27)],[(3000,.box (bx (Zae E0))),(20005,wR Z6 23 v5),(3001,.box (bx (Zn E1)))]⟩,Z3h v0 E0 v5 E1 v13 v14 v15 v25 v26 v27) | .L2 v5 v54 v55 v56=>([1,1,1,0,1,4],⟨78,[(5,wO Z6 20005 v5),(54,wL Zbx v54),(55,wI v55),(56,wI v56)],[(20005,wR Z6 23 v5)]⟩,Z3i v5 v54 v55 v56)
def Z02:=fun a0 a1=>Zlr.run (Z6v a0 a1)
theorem Zai4(a0)(a1){r}(h:Z02 a0 a1=some r):FnG PR 12 [] [wL Zw a0,wA (Zae a1)] [(5000,wR Z6 23 r)] (wO Z6 5000 r):=Zlr.fn h
theorem Ztr(a0:List Zl)(a1:Zm){r:List Z0}(h:Z02 a0 a1=some r):Fn PR 12 [wL Zw a0,wA (Zae a1)] (wL Z6 r):=
 FnG.frozen (C:=LT.RL Z6 r/\True) (Zai4 a0 a1 h) ⟨rfl,trivial⟩ (by kernel_rfl)
end
end Go.PW
