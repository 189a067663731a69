import Derived.Test.YtncgejlelfefdaaGreatQDt
set_option linter.all false
set_option maxRecDepth 100000
namespace Go.PW
open Go.RowKit
noncomputable section
def Zafl(a0:Int):LT Empty Bool:=
.cs (decide (a0>=97)) (.k3 0<|.rt (decide (a0<=122)))<|.k3 0<|.rt false
def Za0g:LF Empty Bool := .z0 147 [.t 2] wB
def Zakp:=fun a0=>Za0g.run (Zafl a0)
theorem Zasn(a0){r}(h:Zakp a0=some r):Fn PR 147 [.t (.int .u8 a0)] (wB r):=Za0g.fn h
inductive Zlr where
 | L0 (v0:By) (v3:Int)
 | L1 (v0:By) (v3:Int)
def Zj1(v0:By)(v3:Int):LT Zlr Bool:=
.cs (decide (v3 > 0)) (.k3 0<|.idxS v0 v3 fun x2=>.k2 0<|.cs ((UInt8.toNat x2:Int)==45) (.k4 1<|.idxS v0 (IntKind.wrap .i64 (v3 - 1)) fun x7=>.k2 1<|.br ((UInt8.toNat x7:Int)==45) (.rt false)<|.g0 (.L0 v0 (IntKind.wrap .i64 (v3+1))))<|.k5 1<|.kg 1<|.kn [0]<|.g0 (.L0 v0 (IntKind.wrap .i64 (v3+1))))<|.k5 0<|.b5 false<|.kb false<|.kn [0]<|.g0 (.L0 v0 (IntKind.wrap .i64 (v3+1)))
def Zr8(v0:By)(v3:Int):LT Zlr Bool:=
.lenS v0<|.br (decide (v3 < (v0.length:Int))) (.idxS v0 v3 fun x3=>.call (Zasn (UInt8.toNat x3:Int)) fun x5=>.cs (!x5) (.k3 1<|.idxS v0 v3 fun x8=>.k2 1<|.cs (decide ((UInt8.toNat x8:Int) < 48)) (.k4 2<|.kg 1<|.kg 2<|.kg 1<|.b3 true<|.idxS v0 v3 fun x11=>.b2 true<|.br ((UInt8.toNat x11:Int) != 45) (.rt false)<|.j0 (.L1 v0 v3) (Zj1 v0 v3))<|.k3 2<|.idxS v0 v3 fun x14=>.kg 2<|.kg 1<|.kg 2<|.kg 1<|.cs (decide ((UInt8.toNat x14:Int) > 57)) (.k3 3<|.idxS v0 v3 fun x17=>.k2 3<|.br ((UInt8.toNat x17:Int) != 45) (.rt false)<|.j0 (.L1 v0 v3) (Zj1 v0 v3))<|.k5 3<|.kn [0]<|.j0 (.L1 v0 v3) (Zj1 v0 v3))<|.k5 1<|.k2 1<|.b5 false<|.kn [0]<|.j0 (.L1 v0 v3) (Zj1 v0 v3))<|.rt true
def Zaph(a0:By):LT Zlr Bool:=
.lenS a0<|.cs (decide ((a0.length:Int) < 1)) (.k4 0<|.b8 true<|.b4 true<|.kn [0]<|.rt false)<|.k2 0<|.lenS a0<|.k2 0<|.cs (decide ((a0.length:Int) > 32)) (.k5 1<|.b5 true<|.b2 true<|.kn [0]<|.rt false)<|.k2 1<|.idxS a0 0 fun x4=>.kg 1<|.call (Zasn (UInt8.toNat x4:Int)) fun x6=>.k2 1<|.cs (!x6) (.k5 2<|.k2 2<|.kn [0]<|.rt false)<|.k3 2<|.lenS a0<|.k2 2<|.idxS a0 (IntKind.wrap .i64 ((a0.length:Int) - 1)) fun x11=>.k2 2<|.br ((UInt8.toNat x11:Int)==45) (.rt false)<|.g0 (.L0 a0 0)
def Zvg:LF Zlr Bool := .m0 94 [.t 2] wB fun | .L0 v0 v3=>([1,1,0,1,4],⟨70,[(0,wS v0),(3,wI v3)],[]⟩,Zr8 v0 v3) | .L1 v0 v3=>([1,1,0,1,4,5,1,0,4,1],⟨70,[(0,wS v0),(3,wI v3)],[]⟩,Zj1 v0 v3)
def Zaso:=fun a0=>Zvg.run (Zaph a0)
theorem Zafm(a0){r}(h:Zaso a0=some r):Fn PR 94 [wS a0] (wB r):=Zvg.fn h
inductive Zls where
 | L0 (E0:Z2) (v3:Int)
def Zoa(E0:Z2)(v3:Int):LT Zls Bool:=
.br (decide (v3 < 5)) (.idA (Zn.int .i64) (A5.list E0.Color) v3 (bx (Zav E0)) 2 7 fun x2=>.ldC (Zn.int .i64) 29 x2 0<|.cs (decide (x2 < 0)) (.k5 1<|.kg 1<|.kn [0]<|.rt false)<|.k3 1<|.idA (Zn.int .i64) (A5.list E0.Color) v3 (bx (Zav E0)) 2 7 fun x5=>.kg 1<|.ldC (Zn.int .i64) 35 x5 1<|.k2 1<|.br (decide (x5 > 9)) (.rt false)<|.g0 (.L0 E0 (IntKind.wrap .i64 (v3+1))))<|.rt true
def Zapi(a0:Z2):LT Zls Bool:=
.lb 1001<|.cs (decide (a0.Generic < 0)) (.k4 0<|.b8 true<|.kn [0]<|.rt false)<|.k4 0<|.cs (decide (a0.Generic > 99)) (.k4 1<|.b4 true<|.kn [0]<|.rt false)<|.k4 1<|.cs (decide (a0.X < 0)) (.k4 2<|.kn [0]<|.rt false)<|.k4 2<|.br (decide (a0.X > 2)) (.rt false)<|.go (.L0 a0 0) [.relab 1001 3000]
def Zj9:LF Zls Bool := .m0 95 [.t 2] wB fun | .L0 E0 v3=>([1,1,0,1,4],⟨38,[(1,.bptr 3000 0),(3,wI v3)],[(3000,.box (bx (Zav E0)))]⟩,Zoa E0 v3)
def Z7k:=fun a0=>Zj9.run (Zapi a0)
theorem Zw9(a0){r}(h:Z7k a0=some r):Fn PR 95 [wA (Zav a0)] (wB r):=Zj9.fn h
def Z1g:LT Empty (Bys):=
.lb 1001<|.ret [([98,97,115,105,99]:By),([117,110,105,113,117,101]:By)] [.relab 1001 5000]
def Z1h:LF Empty (Bys) := .z 187 [.t 0] true (fun r=>[(5000,wR cS 1 r)]) (fun r=>(wO cS 5000 r))
def Zpd:=Z1h.run (Z1g)
theorem Zafn{r}(h:Zpd=some r):FnG PR 187 [] [] [(5000,wR cS 1 r)] (wO cS 5000 r):=Z1h.fn h
theorem Zak2{r:Bys}(h:Zpd=some r):Fn PR 187 [] (wL cS r):=
 FnG.frozen (C:=LT.RL cS r/\True) (Zafn h) ⟨rfl,trivial⟩ (by kernel_rfl)
inductive Zp7 where
 | L0 (v0:Bys) (v1:By) (v5:Int)
def Zkn(v0:Bys)(v1:By)(v5:Int):LT Zp7 Int:=
.len cS v0<|.br (decide (v5 < (v0.length:Int))) (.idx cS v0 v5 fun x3=>.br (x3==v1) (.rt v5)<|.g0 (.L0 v0 v1 (IntKind.wrap .i64 (v5+1))))<|.rt (-1)
def Z5z(a0:Bys)(a1:By):LT Zp7 Int:=
.g0 (.L0 a0 a1 0)
def Zwo:LF Zp7 Int := .m0 186 [.t 4] wI fun | .L0 v0 v1 v5=>([1,0,1,4],⟨19,[(0,wL cS v0),(1,wS v1),(5,wI v5)],[]⟩,Zkn v0 v1 v5)
def Z31:=fun a0 a1=>Zwo.run (Z5z a0 a1)
theorem Z1i(a0)(a1){r}(h:Z31 a0 a1=some r):Fn PR 186 [wL cS a0,wS a1] (wI r):=Zwo.fn h
def Z32:LT Empty (Bys):=
.lb 1001<|.ret [([99,114,101,97,116,117,114,101]:By),([105,110,115,116,97,110,116]:By),([114,105,116,117,97,108]:By),([114,101,108,105,99]:By),([99,104,97,114,109]:By),([108,97,110,100]:By)] [.relab 1001 5000]
def Z33:LF Empty (Bys) := .z 188 [.t 0] true (fun r=>[(5000,wR cS 1 r)]) (fun r=>(wO cS 5000 r))
def Zq3:=Z33.run (Z32)
theorem Zak3{r}(h:Zq3=some r):FnG PR 188 [] [] [(5000,wR cS 1 r)] (wO cS 5000 r):=Z33.fn h
theorem Z1j{r:Bys}(h:Zq3=some r):Fn PR 188 [] (wL cS r):=
 FnG.frozen (C:=LT.RL cS r/\True) (Zak3 h) ⟨rfl,trivial⟩ (by kernel_rfl)
def Z50(a0:By):LT Empty Bool:=
.call (Zafm a0) fun x1=>.cs x1 (.kg 0<|.call (Zak2) fun x4=>.k2 0<|.call (Z1i x4 a0) fun x6=>.k2 0<|.cs (decide (x6 < 0)) (.kg 1<|.call (Z1j) fun x9=>.k2 1<|.call (Z1i x9 a0) fun x11=>.k2 1<|.rt (decide (x11 < 0)))<|.k5 1<|.rt false)<|.k5 0<|.b5 false<|.rt false
def Zalp:LF Empty Bool := .z0 148 [.t 2] wB
def Z34:=fun a0=>Zalp.run (Z50 a0)
theorem Zs6(a0){r}(h:Z34 a0=some r):Fn PR 148 [wS a0] (wB r):=Zalp.fn h
inductive Zxa where
 | L0 (v0:Int) (v1:Int) (v5:Int)
def Zasp(v0:Int)(v1:Int)(v5:Int):LT Zxa Bool:=
.br (decide (v5 < v1)) (.dc ((2:Int)≠0) rfl<|.g0 (.L0 (Zn9 .i64 v0 2) v1 (IntKind.wrap .i64 (v5+1))))<|.dc ((2:Int)≠0) rfl<|.rt ((Int.tmod v0 2)==1)
def Za0h(a0:Int)(a1:Int):LT Zxa Bool:=
.g0 (.L0 a0 a1 0)
def Zafo:LF Zxa Bool := .m0 149 [.t 4] wB fun | .L0 v0 v1 v5=>([1,0,1,4],⟨16,[(0,wI v0),(1,wI v1),(5,wI v5)],[]⟩,Zasp v0 v1 v5)
def Zbcx:=fun a0 a1=>Zafo.run (Za0h a0 a1)
theorem Zaaq(a0)(a1){r}(h:Zbcx a0 a1=some r):Fn PR 149 [wI a0,wI a1] (wB r):=Zafo.fn h
inductive Z1k where
 | L0 (E0:Zaf) (v3:Int)
def Za0i(E0:Zaf)(v3:Int):LT Z1k Bool:=
.len cS E0.Subs<|.br (decide (v3 < (E0.Subs.length:Int))) (.idx cS E0.Subs v3 fun x3=>.call (Zs6 x3) fun x5=>.cs (!x5) (.k5 1<|.kn [0]<|.rt false)<|.k3 1<|.cs (decide (v3 > 0)) (.k5 2<|.idx cS E0.Subs (IntKind.wrap .i64 (v3 - 1)) fun x11=>.k5 2<|.ag cS x3 0<|.k2 2<|.kg 1<|.kg 2<|.kg 1<|.br (!(Op.bytesLess x11 x3)) (.rt false)<|.g0 (.L0 E0 (IntKind.wrap .i64 (v3+1))))<|.k8 2<|.k4 2<|.kg 1<|.kg 2<|.kg 1<|.kn [0]<|.g0 (.L0 E0 (IntKind.wrap .i64 (v3+1))))<|.cs (E0.Types==2) (.k4 1<|.b5 true<|.b2 true<|.rt true)<|.k4 1<|.cs (E0.Types==4) (.k5 2<|.k2 2<|.rt true)<|.k3 2<|.call (Zaaq E0.Types 1) fun x20=>.k2 2<|.cs (!x20) (.k3 3<|.call (Zaaq E0.Types 2) fun x23=>.kg 3<|.kg 2<|.kg 3<|.kg 2<|.rt (!x23))<|.k4 3<|.kg 2<|.kg 3<|.kg 2<|.rt false
def Za6e(a0:Zaf):LT Z1k Bool:=
.lb 1001<|.cs (decide (a0.Super < 0)) (.k4 0<|.b8 true<|.b5 true<|.kn [0]<|.rt false)<|.k4 0<|.cs (decide (a0.Super > 3)) (.k4 1<|.b8 true<|.kb true<|.kn [0]<|.rt false)<|.k4 1<|.cs (decide (a0.Types < 1)) (.k4 2<|.b5 true<|.kn [0]<|.rt false)<|.k4 2<|.cs (decide (a0.Types > 63)) (.k5 3<|.kn [0]<|.rt false)<|.k3 3<|.len cS a0.Subs<|.k2 3<|.br (decide ((a0.Subs.length:Int) > 4)) (.rt false)<|.go (.L0 a0 0) [.relab 1001 3000]
def Zapj:LF Z1k Bool := .m0 96 [.t 2] wB fun | .L0 E0 v3=>([1,1,0,1,4],⟨80,[(1,.bptr 3000 0),(3,wI v3)],[(3000,.box (bx (Zfv E0)))]⟩,Za0i E0 v3)
def Zbia:=fun a0=>Zapj.run (Za6e a0)
theorem Zbib(a0){r}(h:Zbia a0=some r):Fn PR 96 [wA (Zfv a0)] (wB r):=Zapj.fn h
def Za6f(a0:Int):LT Empty Bool:=
.cs (decide (a0>=0)) (.k3 0<|.rt (decide (a0<=131071)))<|.k3 0<|.rt false
def Za6g:LF Empty Bool := .z0 97 [.t 2] wB
def Zbic:=fun a0=>Za6g.run (Za6f a0)
theorem Za0j(a0){r}(h:Zbic a0=some r):Fn PR 97 [wI a0] (wB r):=Za6g.fn h
def Z7l(a0:Zg):LT Empty Bool:=
.lb 1001<|.rt ((Zbl .and .i64 a0.Line.Types 1) != 0)
def Z7m:LF Empty Bool := .z0 98 [.t 2] wB
def Zafp:=fun a0=>Z7m.run (Z7l a0)
theorem Zasq(a0){r}(h:Zafp a0=some r):Fn PR 98 [wA (Zs a0)] (wB r):=Z7m.fn h
inductive Zp8 where
 | L0 (v0:Int) (v1:Int) (v7:Int)
def Zko(v0:Int)(v1:Int)(v7:Int):LT Zp8 Bool:=
.br (decide (v7 < 6)) (.dc ((2:Int)≠0) rfl<|.cs ((Int.tmod v0 2)==1) (.k2 1<|.dc ((2:Int)≠0) rfl<|.k2 1<|.br ((Int.tmod v1 2)==1) (.rt false)<|.dc ((2:Int)≠0) rfl<|.dc ((2:Int)≠0) rfl<|.g0 (.L0 (Zn9 .i64 v0 2) (Zn9 .i64 v1 2) (IntKind.wrap .i64 (v7+1))))<|.k4 1<|.kn [0]<|.dc ((2:Int)≠0) rfl<|.dc ((2:Int)≠0) rfl<|.g0 (.L0 (Zn9 .i64 v0 2) (Zn9 .i64 v1 2) (IntKind.wrap .i64 (v7+1))))<|.rt true
def Z51(a0:Int)(a1:Int)(a2:Int):LT Zp8 Bool:=
.cs (decide (a0 < 0)) (.k4 0<|.b5 true<|.b2 true<|.kn [0]<|.rt false)<|.k4 0<|.cs (decide (a0 > a2)) (.k3 1<|.b4 true<|.kn [0]<|.rt false)<|.k3 1<|.cs (decide (a1 < 0)) (.k4 2<|.kn [0]<|.rt false)<|.k4 2<|.br (decide (a1 > a2)) (.rt false)<|.g0 (.L0 a0 a1 0)
def Zm5:LF Zp8 Bool := .m0 189 [.t 6] wB fun | .L0 v0 v1 v7=>([1,1,0,1,4],⟨40,[(0,wI v0),(1,wI v1),(7,wI v7)],[]⟩,Zko v0 v1 v7)
def Z35:=fun a0 a1 a2=>Zm5.run (Z51 a0 a1 a2)
theorem Zafq(a0)(a1)(a2){r}(h:Z35 a0 a1 a2=some r):Fn PR 189 [wI a0,wI a1,wI a2] (wB r):=Zm5.fn h
def Z52(a0:Zj):LT Empty Bool:=
.lb 1001<|.cs (decide (a0.Kind < 0)) (.k4 0<|.b8 true<|.kn [0]<|.rt false)<|.k4 0<|.cs (decide (a0.Kind > 3)) (.k4 1<|.b4 true<|.kn [0]<|.rt false)<|.k4 1<|.cs (decide (a0.N < 0)) (.k4 2<|.kn [0]<|.rt false)<|.k4 2<|.br (decide (a0.N > 1000000)) (.rt false)<|.cs (a0.Kind != 0) (.k4 4<|.rt true)<|.k4 4<|.rt (a0.N==0)
def Zalq:LF Empty Bool := .z0 190 [.t 2] wB
def Z36:=fun a0=>Zalq.run (Z52 a0)
theorem Z1l(a0){r}(h:Z36 a0=some r):Fn PR 190 [wA (Zcf a0)] (wB r):=Zalq.fn h
inductive Z1m where
 | L0 (E0:Zm)
def Zob(E0:Zm):LT Z1m Bool:=
.call (Z1l E0.Power) fun x1=>.cs x1 (.k3 0<|.call (Z1l E0.Tough) fun x4=>.kg 0<|.cs x4 (.k3 1<|.call (Z1l E0.Value) fun x7=>.kg 1<|.rt x7)<|.k4 1<|.rt false)<|.k4 0<|.b4 false<|.rt false
def Zapk(a0:Zm):LT Z1m Bool:=
.lb 1001<|.cs (decide (a0.Zone < 0)) (.k4 0<|.b16 true<|.b8 true<|.kn [0]<|.rt false)<|.k4 0<|.cs (decide (a0.Zone > 5)) (.k4 1<|.b16 true<|.b4 true<|.kn [0]<|.rt false)<|.k4 1<|.cs (decide (a0.Who < 0)) (.k4 2<|.b16 true<|.kn [0]<|.rt false)<|.k4 2<|.cs (decide (a0.Who > 2)) (.k4 3<|.b8 true<|.b4 true<|.kn [0]<|.rt false)<|.k4 3<|.cs (decide (a0.Self < 0)) (.k4 4<|.b8 true<|.kn [0]<|.rt false)<|.k4 4<|.cs (decide (a0.Self > 2)) (.k4 5<|.b4 true<|.kn [0]<|.rt false)<|.k4 5<|.cs (decide (a0.Tap < 0)) (.k4 6<|.kn [0]<|.rt false)<|.k4 6<|.br (decide (a0.Tap > 2)) (.rt false)<|.call (Zafq a0.Types a0.NotTypes 63) fun x9=>.cs (!x9) (.k5 8<|.k2 8<|.kn [0]<|.rt false)<|.k5 8<|.call (Zafq a0.Colors a0.NotColors 31) fun x12=>.k2 8<|.br (!x12) (.rt false)<|.cs (!(a0.Sub==([]:By))) (.k3 10<|.call (Zs6 a0.Sub) fun x16=>.k2 10<|.cs (!x16) (.k4 11<|.b4 true<|.kn [0]<|.rt false)<|.k4 11<|.cs (decide (a0.Keys < 0)) (.k4 12<|.kn [0]<|.rt false)<|.k4 12<|.br (decide (a0.Keys > 131071)) (.rt false)<|.jn 0 (.L0 a0) [.relab 1001 3000] (Zob a0))<|.k5 10<|.b4 false<|.cs (decide (a0.Keys < 0)) (.k4 11<|.kn [0]<|.rt false)<|.k4 11<|.br (decide (a0.Keys > 131071)) (.rt false)<|.jn 0 (.L0 a0) [.relab 1001 3000] (Zob a0)
def Zapl:LF Z1m Bool := .m0 150 [.t 2] wB fun | .L0 E0=>([1,1,1,1],⟨87,[(1,.bptr 3000 0)],[(3000,.box (bx (Z0 E0)))]⟩,Zob E0)
def Zafr:=fun a0=>Zapl.run (Zapk a0)
theorem Zg3(a0){r}(h:Zafr a0=some r):Fn PR 150 [wA (Z0 a0)] (wB r):=Zapl.fn h
inductive Zpe where
 | L0 (E0:Zv) (E1:Zv) (v7:Int) (v8:Bool)
 | L1 (E0:Zv) (E1:Zv) (v7:Int) (v16:Bool)
def Zp9(E0:Zv)(E1:Zv)(v7:Int)(v16:Bool):LT Zpe Zv:=
.br v16 (.rt (⟨E0.Kind,E0.N,E0.M,([]:By),E0.Filter⟩:Zv))<|.br (v7==11) (.rt (⟨E0.Kind,E0.N,E0.M,E0.Sub,(⟨0,0,0,0,0,0,0,([]:By),0,0,(⟨0,0⟩:Zj),(⟨0,0⟩:Zj),(⟨0,0⟩:Zj)⟩:Zm)⟩:Zv))<|.br (v7==12) (.kn [3]<|.rt (⟨E0.Kind,0,0,E0.Sub,E0.Filter⟩:Zv))<|.br (v7==13) (.rt (⟨E0.Kind,0,0,E0.Sub,E0.Filter⟩:Zv))<|.rt E0
def Zhp(E0:Zv)(E1:Zv)(v7:Int)(v8:Bool):LT Zpe Zv:=
.br v8 (.rt (⟨E0.Kind,0,E0.M,E0.Sub,E0.Filter⟩:Zv))<|.br (v7==4) (.j0 (.L1 E0 E1 v7 (v7==4)) (Zp9 E0 E1 v7 (v7==4)))<|.j0 (.L1 E0 E1 v7 (v7==5)) (Zp9 E0 E1 v7 (v7==5))
def Zasr(a0:Zv):LT Zpe Zv:=
.lb 1001<|.lb 1002<|.br (a0.Kind==2) (.jn 0 (.L0 (⟨0,a0.N,a0.M,a0.Sub,a0.Filter⟩:Zv) (⟨0,0,0,([]:By),(⟨0,0,0,0,0,0,0,([]:By),0,0,(⟨0,0⟩:Zj),(⟨0,0⟩:Zj),(⟨0,0⟩:Zj)⟩:Zm)⟩:Zv) a0.Kind (a0.Kind==2)) [.relab 1001 3000,.relab 1002 3001] (Zhp (⟨0,a0.N,a0.M,a0.Sub,a0.Filter⟩:Zv) (⟨0,0,0,([]:By),(⟨0,0,0,0,0,0,0,([]:By),0,0,(⟨0,0⟩:Zj),(⟨0,0⟩:Zj),(⟨0,0⟩:Zj)⟩:Zm)⟩:Zv) a0.Kind (a0.Kind==2)))<|.br (a0.Kind==3) (.jn 0 (.L0 (⟨0,a0.N,a0.M,a0.Sub,a0.Filter⟩:Zv) (⟨0,0,0,([]:By),(⟨0,0,0,0,0,0,0,([]:By),0,0,(⟨0,0⟩:Zj),(⟨0,0⟩:Zj),(⟨0,0⟩:Zj)⟩:Zm)⟩:Zv) a0.Kind (a0.Kind==3)) [.relab 1001 3000,.relab 1002 3001] (Zhp (⟨0,a0.N,a0.M,a0.Sub,a0.Filter⟩:Zv) (⟨0,0,0,([]:By),(⟨0,0,0,0,0,0,0,([]:By),0,0,(⟨0,0⟩:Zj),(⟨0,0⟩:Zj),(⟨0,0⟩:Zj)⟩:Zm)⟩:Zv) a0.Kind (a0.Kind==3)))<|.br (a0.Kind==6) (.jn 0 (.L0 (⟨0,a0.N,a0.M,a0.Sub,a0.Filter⟩:Zv) (⟨0,0,0,([]:By),(⟨0,0,0,0,0,0,0,([]:By),0,0,(⟨0,0⟩:Zj),(⟨0,0⟩:Zj),(⟨0,0⟩:Zj)⟩:Zm)⟩:Zv) a0.Kind (a0.Kind==6)) [.relab 1001 3000,.relab 1002 3001] (Zhp (⟨0,a0.N,a0.M,a0.Sub,a0.Filter⟩:Zv) (⟨0,0,0,([]:By),(⟨0,0,0,0,0,0,0,([]:By),0,0,(⟨0,0⟩:Zj),(⟨0,0⟩:Zj),(⟨0,0⟩:Zj)⟩:Zm)⟩:Zv) a0.Kind (a0.Kind==6)))<|.br (a0.Kind==7) (.jn 0 (.L0 (⟨0,a0.N,a0.M,a0.Sub,a0.Filter⟩:Zv) (⟨0,0,0,([]:By),(⟨0,0,0,0,0,0,0,([]:By),0,0,(⟨0,0⟩:Zj),(⟨0,0⟩:Zj),(⟨0,0⟩:Zj)⟩:Zm)⟩:Zv) a0.Kind (a0.Kind==7)) [.relab 1001 3000,.relab 1002 3001] (Zhp (⟨0,a0.N,a0.M,a0.Sub,a0.Filter⟩:Zv) (⟨0,0,0,([]:By),(⟨0,0,0,0,0,0,0,([]:By),0,0,(⟨0,0⟩:Zj),(⟨0,0⟩:Zj),(⟨0,0⟩:Zj)⟩:Zm)⟩:Zv) a0.Kind (a0.Kind==7)))<|.br (a0.Kind==8) (.jn 0 (.L0 (⟨0,a0.N,a0.M,a0.Sub,a0.Filter⟩:Zv) (⟨0,0,0,([]:By),(⟨0,0,0,0,0,0,0,([]:By),0,0,(⟨0,0⟩:Zj),(⟨0,0⟩:Zj),(⟨0,0⟩:Zj)⟩:Zm)⟩:Zv) a0.Kind (a0.Kind==8)) [.relab 1001 3000,.relab 1002 3001] (Zhp (⟨0,a0.N,a0.M,a0.Sub,a0.Filter⟩:Zv) (⟨0,0,0,([]:By),(⟨0,0,0,0,0,0,0,([]:By),0,0,(⟨0,0⟩:Zj),(⟨0,0⟩:Zj),(⟨0,0⟩:Zj)⟩:Zm)⟩:Zv) a0.Kind (a0.Kind==8)))<|.jn 0 (.L0 (⟨0,a0.N,a0.M,a0.Sub,a0.Filter⟩:Zv) (⟨0,0,0,([]:By),(⟨0,0,0,0,0,0,0,([]:By),0,0,(⟨0,0⟩:Zj),(⟨0,0⟩:Zj),(⟨0,0⟩:Zj)⟩:Zm)⟩:Zv) a0.Kind (a0.Kind==9)) [.relab 1001 3000,.relab 1002 3001] (Zhp (⟨0,a0.N,a0.M,a0.Sub,a0.Filter⟩:Zv) (⟨0,0,0,([]:By),(⟨0,0,0,0,0,0,0,([]:By),0,0,(⟨0,0⟩:Zj),(⟨0,0⟩:Zj),(⟨0,0⟩:Zj)⟩:Zm)⟩:Zv) a0.Kind (a0.Kind==9))
def Zass:LF Zpe Zv := .m0 199 [.c 2 155 true 20] (fun r=>(wA (Zu r))) fun | .L0 E0 E1 v7 v8=>([1,1,1,0,1,4,1],⟨30,[(1,.bptr 3000 0),(2,.bptr 3001 0),(7,wI v7),(8,wB v8)],[(3000,.box (bx (Zu E0))),(3001,.box (bx (Zu E1)))]⟩,Zhp E0 E1 v7 v8) | .L1 E0 E1 v7 v16=>([1,1,1,0,1,4,1,3,1],⟨30,[(1,.bptr 3000 0),(2,.bptr 3001 0),(7,wI v7),(16,wB v16)],[(3000,.box (bx (Zu E0))),(3001,.box (bx (Zu E1)))]⟩,Zp9 E0 E1 v7 v16)
def Za6h:=fun a0=>Zass.run (Zasr a0)
theorem Zba5(a0){r}(h:Za6h a0=some r):Fn PR 199 [wA (Zu a0)] (wA (Zu r)):=Zass.fn h
def Zalr(a0:Int):LT Empty Bool:=
.cs (decide (a0>=1)) (.k3 0<|.cs (decide (a0<=63)) (.k4 1<|.rt ((Zbl .and .i64 a0 6)==0))<|.k4 1<|.rt false)<|.k3 0<|.b4 false<|.rt false
def Zals:LF Empty Bool := .z0 200 [.t 2] wB
def Za0k:=fun a0=>Zals.run (Zalr a0)
theorem Za6i(a0){r}(h:Za0k a0=some r):Fn PR 200 [wI a0] (wB r):=Zals.fn h
inductive Zrm where
 | L0 (E0:Zv) (v18:Int) (v19:Bool)
 | L1 (E0:Zv) (v18:Int) (v25:Bool)
 | L2 (E0:Zv) (v18:Int) (v51:Bool)
def Zxb(E0:Zv)(v18:Int)(v51:Bool):LT Zrm Bool:=
.br v51 (.cs (decide (E0.N>=1)) (.k4 1<|.rt (decide (E0.N<=131071)))<|.k4 1<|.rt false)<|.br (v18==11) (.call (Zg3 E0.Filter) fun x4=>.rt x4)<|.br (v18==12) (.cs (decide (E0.N>=0)) (.k4 3<|.cs (decide (E0.N<=99)) (.k4 4<|.cs (decide (E0.M>=0)) (.k4 5<|.rt (decide (E0.M<=99)))<|.k4 5<|.rt false)<|.k4 4<|.b4 false<|.rt false)<|.k4 3<|.b8 false<|.rt false)<|.br (v18==13) (.cs (decide (E0.N>=(-99))) (.k4 4<|.cs (decide (E0.N<=99)) (.k4 5<|.cs (decide (E0.M>=(-99))) (.k4 6<|.rt (decide (E0.M<=99)))<|.k4 6<|.rt false)<|.k4 5<|.b4 false<|.rt false)<|.k4 4<|.b8 false<|.rt false)<|.rt true
def Zxc(E0:Zv)(v18:Int)(v25:Bool):LT Zrm Bool:=
.br v25 (.call (Zs6 E0.Sub) fun x2=>.rt x2)<|.br (v18==6) (.cs (decide (E0.N>=0)) (.k4 2<|.rt (decide (E0.N<=31)))<|.k4 2<|.rt false)<|.br (v18==7) (.cs (decide (E0.N>=1)) (.k4 3<|.rt (decide (E0.N<=31)))<|.k4 3<|.rt false)<|.br (v18==8) (.j0 (.L2 E0 v18 (v18==8)) (Zxb E0 v18 (v18==8)))<|.j0 (.L2 E0 v18 (v18==9)) (Zxb E0 v18 (v18==9))
def Zxd(E0:Zv)(v18:Int)(v19:Bool):LT Zrm Bool:=
.br v19 (.call (Za6i E0.N) fun x2=>.rt x2)<|.br (v18==4) (.j0 (.L1 E0 v18 (v18==4)) (Zxc E0 v18 (v18==4)))<|.j0 (.L1 E0 v18 (v18==5)) (Zxc E0 v18 (v18==5))
def Za6j(a0:Zv):LT Zrm Bool:=
.lb 1001<|.cs (decide (a0.Kind < 1)) (.k4 0<|.b5 true<|.kn [0]<|.rt false)<|.k4 0<|.cs (decide (a0.Kind > 14)) (.k5 1<|.kn [0]<|.rt false)<|.k2 1<|.call (Zba5 a0) fun x3=>.k3 1<|.br (!(Zah (Zu x3) (Zu (⟨0,0,0,([]:By),(⟨0,0,0,0,0,0,0,([]:By),0,0,(⟨0,0⟩:Zj),(⟨0,0⟩:Zj),(⟨0,0⟩:Zj)⟩:Zm)⟩:Zv)))) (.rt false)<|.br (a0.Kind==2) (.jn 0 (.L0 a0 a0.Kind (a0.Kind==2)) [.relab 1001 3000] (Zxd a0 a0.Kind (a0.Kind==2)))<|.jn 0 (.L0 a0 a0.Kind (a0.Kind==3)) [.relab 1001 3000] (Zxd a0 a0.Kind (a0.Kind==3))
def Za6k:LF Zrm Bool := .m0 163 [.t 2] wB fun | .L0 E0 v18 v19=>([1,1,0,1,4,1],⟨107,[(1,.bptr 3000 0),(18,wI v18),(19,wB v19)],[(3000,.box (bx (Zu E0)))]⟩,Zxd E0 v18 v19) | .L1 E0 v18 v25=>([1,1,0,1,4,1,3,1],⟨107,[(1,.bptr 3000 0),(18,wI v18),(25,wB v25)],[(3000,.box (bx (Zu E0)))]⟩,Zxc E0 v18 v25) | .L2 E0 v18 v51=>([1,1,0,1,4,1,3,1,3,1,3,1,3,1],⟨107,[(1,.bptr 3000 0),(18,wI v18),(51,wB v51)],[(3000,.box (bx (Zu E0)))]⟩,Zxb E0 v18 v51)
def Zbid:=fun a0=>Za6k.run (Za6j a0)
theorem Zafs(a0){r}(h:Zbid a0=some r):Fn PR 163 [wA (Zu a0)] (wB r):=Za6k.fn h
inductive Zoc where
 | L0 (v0:Bys) (v1:Int) (v2:By) (v7:By) (v8:Int)
def Zace(v0:Bys)(v1:Int)(v2:By)(v7:By)(v8:Int):LT Zoc (By):=
.len cS v0<|.br (decide (v8 < (v0.length:Int))) (.call (Zaaq v1 v8) fun x3=>.br x3 (.br (!(v7==([]:By))) (.ok (v7.length+v2.length<=9223372036854775807)<|.idx cS v0 v8 fun x10=>.ok ((v7++v2).length+x10.length<=9223372036854775807)<|.g0 (.L0 v0 v1 v2 ((v7++v2)++x10) (IntKind.wrap .i64 (v8+1))))<|.idx cS v0 v8 fun x17=>.ok (v7.length+x17.length<=9223372036854775807)<|.g0 (.L0 v0 v1 v2 (v7++x17) (IntKind.wrap .i64 (v8+1))))<|.g0 (.L0 v0 v1 v2 v7 (IntKind.wrap .i64 (v8+1))))<|.rt v7
def Zaft(a0:Bys)(a1:Int)(a2:By):LT Zoc (By):=
.g0 (.L0 a0 a1 a2 ([]:By) 0)
def Z1n:LF Zoc (By) := .m0 237 [.t 6] wS fun | .L0 v0 v1 v2 v7 v8=>([1,1,0,1,4],⟨30,[(0,wL cS v0),(1,wI v1),(2,wS v2),(7,wS v7),(8,wI v8)],[]⟩,Zace v0 v1 v2 v7 v8)
def Zast:=fun a0 a1 a2=>Z1n.run (Zaft a0 a1 a2)
theorem Za2k(a0)(a1)(a2){r}(h:Zast a0 a1 a2=some r):Fn PR 237 [wL cS a0,wI a1,wS a2] (wS r):=Z1n.fn h
def Z37(a0:Int):LT Empty (By):=
.cs (decide (a0 < 1)) (.k3 0<|.kn [0]<|.rt ([]:By))<|.k3 0<|.br (decide (a0 > 63)) (.rt ([]:By))<|.call (Z1j) fun x3=>.call (Za2k x3 a0 ([43]:By)) fun x5=>.rt x5
def Z38:LF Empty (By) := .z0 201 [.t 2] wS
def Zacf:=fun a0=>Z38.run (Z37 a0)
theorem Zrn(a0){r}(h:Zacf a0=some r):Fn PR 201 [wI a0] (wS r):=Z38.fn h
def Za6l(a0:Int):LT Empty Bool:=
.cs (decide (a0>=0)) (.k3 0<|.rt (decide (a0<=31)))<|.k3 0<|.rt false
def Za6m:LF Empty Bool := .z0 238 [.t 2] wB
def Zbie:=fun a0=>Za6m.run (Za6l a0)
theorem Zbif(a0){r}(h:Zbie a0=some r):Fn PR 238 [wI a0] (wB r):=Za6m.fn h
def Zasu(a0:Int):LT Empty (By):=
.br (a0==0) (.rt ([97,109,98,101,114]:By))<|.br (a0==1) (.rt ([99,111,98,97,108,116]:By))<|.br (a0==2) (.rt ([106,101,116]:By))<|.br (a0==3) (.rt ([114,117,98,121]:By))<|.br (a0==4) (.rt ([101,109,101,114,97,108,100]:By))<|.rt ([]:By)
def Zasv:LF Empty (By) := .z0 239 [.t 2] wS
def Za6n:=fun a0=>Zasv.run (Zasu a0)
theorem Zwp(a0){r}(h:Za6n a0=some r):Fn PR 239 [wI a0] (wS r):=Zasv.fn h
inductive Zs7 where
 | L0 (v0:Int) (v3:By) (v4:Int)
def Zalt(v0:Int)(v3:By)(v4:Int):LT Zs7 (By):=
.br (decide (v4 < 5)) (.ok (¬ v4 < 0)<|.ok ((Z1c .i64 1 v4)≠0)<|.dc ((2:Int)≠0) rfl<|.br ((Int.tmod (Zn9 .i64 v0 (Z1c .i64 1 v4)) 2)==1) (.br (!(v3==([]:By))) (.ok (v3.length+([43]:By).length<=9223372036854775807)<|.call (Zwp v4) fun x10=>.ok ((v3++([43]:By)).length+x10.length<=9223372036854775807)<|.g0 (.L0 v0 ((v3++([43]:By))++x10) (IntKind.wrap .i64 (v4+1))))<|.call (Zwp v4) fun x17=>.ok (v3.length+x17.length<=9223372036854775807)<|.g0 (.L0 v0 (v3++x17) (IntKind.wrap .i64 (v4+1))))<|.g0 (.L0 v0 v3 (IntKind.wrap .i64 (v4+1))))<|.rt v3
def Zasw(a0:Int):LT Zs7 (By):=
.call (Zbif a0) fun x1=>.br (!x1) (.rt ([]:By))<|.br (a0==0) (.rt ([110,111,110,101]:By))<|.g0 (.L0 a0 ([]:By) 0)
def Zaar:LF Zs7 (By) := .m0 202 [.t 2] wS fun | .L0 v0 v3 v4=>([1,1,1,1,0,1,4],⟨29,[(0,wI v0),(3,wS v3),(4,wI v4)],[]⟩,Zalt v0 v3 v4)
def Za6o:=fun a0=>Zaar.run (Zasw a0)
theorem Zalu(a0){r}(h:Za6o a0=some r):Fn PR 202 [wI a0] (wS r):=Zaar.fn h
def Zalv:LT Empty (Bys):=
.lb 1001<|.ret [([102,108,121,105,110,103]:By),([114,101,97,99,104]:By),([104,97,115,116,101]:By),([118,105,103,105,108,97,110,116]:By),([116,114,97,109,112,108,101]:By),([102,105,114,115,116,45,115,116,114,105,107,101]:By),([100,111,117,98,108,101,45,115,116,114,105,107,101]:By),([100,101,97,100,108,121]:By),([108,105,102,101,108,105,110,107]:By),([109,101,110,97,99,101]:By),([100,101,102,101,110,100,101,114]:By),([119,97,114,100,101,100]:By),([115,116,117,114,100,121]:By),([101,108,117,115,105,118,101]:By),([110,111,45,97,116,116,97,99,107]:By),([110,111,45,98,108,111,99,107]:By),([109,117,115,116,45,97,116,116,97,99,107]:By)] [.relab 1001 5000]
def Zalw:LF Empty (Bys) := .z 263 [.t 0] true (fun r=>[(5000,wR cS 1 r)]) (fun r=>(wO cS 5000 r))
def Zafu:=Zalw.run (Zalv)
theorem Za2l{r}(h:Zafu=some r):FnG PR 263 [] [] [(5000,wR cS 1 r)] (wO cS 5000 r):=Zalw.fn h
theorem Za6p{r:Bys}(h:Zafu=some r):Fn PR 263 [] (wL cS r):=
 FnG.frozen (C:=LT.RL cS r/\True) (Za2l h) ⟨rfl,trivial⟩ (by kernel_rfl)
def Zasx(a0:Int):LT Empty (By):=
.cs (decide (a0 < 0)) (.k3 0<|.kn [0]<|.rt ([]:By))<|.k3 0<|.br (decide (a0 > 16)) (.rt ([]:By))<|.call (Za6p) fun x3=>.idx cS x3 a0 fun x5=>.rt x5
def Zasy:LF Empty (By) := .z0 240 [.t 2] wS
def Za6q:=fun a0=>Zasy.run (Zasx a0)
theorem Z53(a0){r}(h:Za6q a0=some r):Fn PR 240 [wI a0] (wS r):=Zasy.fn h
inductive Zs8 where
 | L0 (v0:Int) (v3:By) (v4:Int)
def Zalx(v0:Int)(v3:By)(v4:Int):LT Zs8 (By):=
.br (decide (v4 < 17)) (.dc ((2:Int)≠0) rfl<|.br ((Int.tmod v0 2)==1) (.br (!(v3==([]:By))) (.ok (v3.length+([43]:By).length<=9223372036854775807)<|.call (Z53 v4) fun x6=>.ok ((v3++([43]:By)).length+x6.length<=9223372036854775807)<|.dc ((2:Int)≠0) rfl<|.g0 (.L0 (Zn9 .i64 v0 2) ((v3++([43]:By))++x6) (IntKind.wrap .i64 (v4+1))))<|.call (Z53 v4) fun x13=>.ok (v3.length+x13.length<=9223372036854775807)<|.dc ((2:Int)≠0) rfl<|.g0 (.L0 (Zn9 .i64 v0 2) (v3++x13) (IntKind.wrap .i64 (v4+1))))<|.dc ((2:Int)≠0) rfl<|.g0 (.L0 (Zn9 .i64 v0 2) v3 (IntKind.wrap .i64 (v4+1))))<|.br (v3==([]:By)) (.rt ([110,111,110,101]:By))<|.rt v3
def Zasz(a0:Int):LT Zs8 (By):=
.call (Za0j a0) fun x1=>.br (!x1) (.rt ([]:By))<|.g0 (.L0 a0 ([]:By) 0)
def Zaas:LF Zs8 (By) := .m0 203 [.t 2] wS fun | .L0 v0 v3 v4=>([1,1,1,0,1,4],⟨28,[(0,wI v0),(3,wS v3),(4,wI v4)],[]⟩,Zalx v0 v3 v4)
def Za6r:=fun a0=>Zaas.run (Zasz a0)
theorem Zaly(a0){r}(h:Za6r a0=some r):Fn PR 203 [wI a0] (wS r):=Zaas.fn h
def Z39:LT Empty (Bys):=
.lb 1001<|.ret [([]:By),([105,110,45,104,97,110,100]:By),([105,110,45,108,105,98,114,97,114,121]:By),([105,110,45,103,114,97,118,101,121,97,114,100]:By),([105,110,45,101,120,105,108,101]:By),([111,110,45,115,116,97,99,107]:By)] [.relab 1001 5000]
def Z4a:LF Empty (Bys) := .z 241 [.t 0] true (fun r=>[(5000,wR cS 1 r)]) (fun r=>(wO cS 5000 r))
def Zyo:=Z4a.run (Z39)
theorem Zak4{r}(h:Zyo=some r):FnG PR 241 [] [] [(5000,wR cS 1 r)] (wO cS 5000 r):=Z4a.fn h
theorem Zapm{r:Bys}(h:Zyo=some r):Fn PR 241 [] (wL cS r):=
 FnG.frozen (C:=LT.RL cS r/\True) (Zak4 h) ⟨rfl,trivial⟩ (by kernel_rfl)
def Z7n:LT Empty (Bys):=
.lb 1001<|.ret [([]:By),([121,111,117,114,115]:By),([116,104,101,105,114,115]:By)] [.relab 1001 5000]
def Z7o:LF Empty (Bys) := .z 242 [.t 0] true (fun r=>[(5000,wR cS 1 r)]) (fun r=>(wO cS 5000 r))
def Z1o:=Z7o.run (Z7n)
theorem Zapn{r}(h:Z1o=some r):FnG PR 242 [] [] [(5000,wR cS 1 r)] (wO cS 5000 r):=Z7o.fn h
theorem Zas0{r:Bys}(h:Z1o=some r):Fn PR 242 [] (wL cS r):=
 FnG.frozen (C:=LT.RL cS r/\True) (Zapn h) ⟨rfl,trivial⟩ (by kernel_rfl)
def Z4b:LT Empty (Bys):=
.lb 1001<|.ret [([]:By),([115,101,108,102]:By),([111,116,104,101,114]:By)] [.relab 1001 5000]
def Z4c:LF Empty (Bys) := .z 243 [.t 0] true (fun r=>[(5000,wR cS 1 r)]) (fun r=>(wO cS 5000 r))
def Zyp:=Z4c.run (Z4b)
theorem Zak5{r}(h:Zyp=some r):FnG PR 243 [] [] [(5000,wR cS 1 r)] (wO cS 5000 r):=Z4c.fn h
theorem Zapo{r:Bys}(h:Zyp=some r):Fn PR 243 [] (wL cS r):=
 FnG.frozen (C:=LT.RL cS r/\True) (Zak5 h) ⟨rfl,trivial⟩ (by kernel_rfl)
def Z7p:LT Empty (Bys):=
.lb 1001<|.ret [([]:By),([116,97,112,112,101,100]:By),([117,110,116,97,112,112,101,100]:By)] [.relab 1001 5000]
def Z7q:LF Empty (Bys) := .z 244 [.t 0] true (fun r=>[(5000,wR cS 1 r)]) (fun r=>(wO cS 5000 r))
def Z1p:=Z7q.run (Z7p)
theorem Zapp{r}(h:Z1p=some r):FnG PR 244 [] [] [(5000,wR cS 1 r)] (wO cS 5000 r):=Z7q.fn h
theorem Zas1{r:Bys}(h:Z1p=some r):Fn PR 244 [] (wL cS r):=
 FnG.frozen (C:=LT.RL cS r/\True) (Zapp h) ⟨rfl,trivial⟩ (by kernel_rfl)
inductive Zxe where
 | L0 (v0:Int) (v1:Int) (v5:Int)
def Zas2(v0:Int)(v1:Int)(v5:Int):LT Zxe Bool:=
.br (decide (v5 < v1)) (.dc ((2:Int)≠0) rfl<|.g0 (.L0 (Zn9 .i64 v0 2) v1 (IntKind.wrap .i64 (v5+1))))<|.dc ((2:Int)≠0) rfl<|.rt ((Int.tmod v0 2)==1)
def Za0l(a0:Int)(a1:Int):LT Zxe Bool:=
.g0 (.L0 a0 a1 0)
def Zafv:LF Zxe Bool := .m0 246 [.t 4] wB fun | .L0 v0 v1 v5=>([1,0,1,4],⟨16,[(0,wI v0),(1,wI v1),(5,wI v5)],[]⟩,Zas2 v0 v1 v5)
def Zbcy:=fun a0 a1=>Zafv.run (Za0l a0 a1)
theorem Zs9(a0)(a1){r}(h:Zbcy a0 a1=some r):Fn PR 246 [wI a0,wI a1] (wB r):=Zafv.fn h
inductive Zkp where
 | L0 (v0:Int) (v3:Int) (v4:Int)
def Z4d(v0:Int)(v3:Int)(v4:Int):LT Zkp (By):=
.br (decide (v4 < v0)) (.g0 (.L0 v0 (IntKind.wrap .i64 (v3*2)) (IntKind.wrap .i64 (v4+1))))<|.call (Zrn v3) fun x6=>.rt x6
def Z7r(a0:Int):LT Zkp (By):=
.g0 (.L0 a0 1 0)
def Zvh:LF Zkp (By) := .m0 247 [.t 2] wS fun | .L0 v0 v3 v4=>([1,1,0,1,4],⟨14,[(0,wI v0),(3,wI v3),(4,wI v4)],[]⟩,Z4d v0 v3 v4)
def Zafw:=fun a0=>Zvh.run (Z7r a0)
theorem Z4e(a0){r}(h:Zafw a0=some r):Fn PR 247 [wI a0] (wS r):=Zvh.fn h
def Zalz:LT Empty (Bys):=
.lb 1001<|.ret [([]:By),([62,61]:By),([60,61]:By),([61]:By)] [.relab 1001 5000]
def Zal0:LF Empty (Bys) := .z 264 [.t 0] true (fun r=>[(5000,wR cS 1 r)]) (fun r=>(wO cS 5000 r))
def Zafx:=Zal0.run (Zalz)
theorem Za2m{r}(h:Zafx=some r):FnG PR 264 [] [] [(5000,wR cS 1 r)] (wO cS 5000 r):=Zal0.fn h
theorem Za6s{r:Bys}(h:Zafx=some r):Fn PR 264 [] (wL cS r):=
 FnG.frozen (C:=LT.RL cS r/\True) (Za2m h) ⟨rfl,trivial⟩ (by kernel_rfl)
inductive Z1q where
 | L0 (v0:Int) (v3:By)
def Zib(v0:Int)(v3:By):LT Z1q (By):=
.br (decide (v0 > 0)) (.dc ((10:Int)≠0) rfl<|.dr [.lit]<|.str [IntKind.wrap .u8 (IntKind.wrap .u64 (48+(Int.tmod v0 10)))] fun x4=>.ok (x4.length+v3.length<=9223372036854775807)<|.dc ((10:Int)≠0) rfl<|.g0 (.L0 (Zn9 .u64 v0 10) (x4++v3)))<|.rt v3
def Zafy(a0:Int):LT Z1q (By):=
.dc ((10:Int)≠0) rfl<|.dr [.lit]<|.str [IntKind.wrap .u8 (IntKind.wrap .u64 (48+(Int.tmod a0 10)))] fun x3=>.dc ((10:Int)≠0) rfl<|.g0 (.L0 (Zn9 .u64 a0 10) x3)
def Zta:LF Z1q (By) := .m0 250 [.t 2] wS fun | .L0 v0 v3=>([1,1,0,1,4],⟨25,[(0,.t (.int .u64 v0)),(3,wS v3)],[]⟩,Zib v0 v3)
def Zaat:=fun a0=>Zta.run (Zafy a0)
theorem Zacg(a0){r}(h:Zaat a0=some r):Fn PR 250 [.t (.int .u64 a0)] (wS r):=Zta.fn h
def Zas3(a0:Int):LT Empty (By):=
.br (decide (a0 < 0)) (.call (Zacg (IntKind.wrap .u64 (0 - (IntKind.wrap .u64 a0)))) fun x4=>.ok (([45]:By).length+x4.length<=9223372036854775807)<|.rt (([45]:By)++x4))<|.call (Zacg (IntKind.wrap .u64 a0)) fun x10=>.rt x10
def Zas4:LF Empty (By) := .z0 205 [.t 2] wS
def Za6t:=fun a0=>Zas4.run (Zas3 a0)
theorem Zm6(a0){r}(h:Za6t a0=some r):Fn PR 205 [wI a0] (wS r):=Zas4.fn h
def Z4f(a0:By)(a1:Zj):LT Empty (By):=
.lb 1003<|.br (a1.Kind==0) (.rt ([]:By))<|.call (Za6s) fun x2=>.idx cS x2 a1.Kind fun x4=>.ok (a0.length+x4.length<=9223372036854775807)<|.call (Zm6 a1.N) fun x10=>.ok ((a0++x4).length+x10.length<=9223372036854775807)<|.rt ((a0++x4)++x10)
def Z4g:LF Empty (By) := .z0 248 [.t 4] wS
def Zach:=fun a0 a1=>Z4g.run (Z4f a0 a1)
theorem Zro(a0)(a1){r}(h:Zach a0 a1=some r):Fn PR 248 [wS a0,wA (Zcf a1)] (wS r):=Z4g.fn h
inductive Ztb where
 | L0 (v0:Bys) (v1:By) (v5:By) (v6:Int)
def Zal1(v0:Bys)(v1:By)(v5:By)(v6:Int):LT Ztb (By):=
.len cS v0<|.br (decide (v6 < (v0.length:Int))) (.br (decide (v6 > 0)) (.ok (v5.length+v1.length<=9223372036854775807)<|.idx cS v0 v6 fun x7=>.ok ((v5++v1).length+x7.length<=9223372036854775807)<|.g0 (.L0 v0 v1 ((v5++v1)++x7) (IntKind.wrap .i64 (v6+1))))<|.idx cS v0 v6 fun x14=>.ok (v5.length+x14.length<=9223372036854775807)<|.g0 (.L0 v0 v1 (v5++x14) (IntKind.wrap .i64 (v6+1))))<|.rt v5
def Zas5(a0:Bys)(a1:By):LT Ztb (By):=
.g0 (.L0 a0 a1 ([]:By) 0)
def Zaau:LF Ztb (By) := .m0 249 [.t 4] wS fun | .L0 v0 v1 v5 v6=>([1,1,0,1,4],⟨25,[(0,wL cS v0),(1,wS v1),(5,wS v5),(6,wI v6)],[]⟩,Zal1 v0 v1 v5 v6)
def Za6u:=fun a0 a1=>Zaau.run (Zas5 a0 a1)
theorem Zba6(a0)(a1){r}(h:Za6u a0 a1=some r):Fn PR 249 [wL cS a0,wS a1] (wS r):=Zaau.fn h
def Z7s(b0:Bys)(a1:By):LT Empty (Bys):=
.br (a1==([]:By)) (.ret b0 [.relab 0 5000])<|.dr [.lit]<|.apR cS 16 b0 [a1] fun x2=>.ret x2 [.relab 0 5000]
def Z7t:LF Empty (Bys) := .z 245 [.t 4] true (fun r=>[(5000,wR cS 1 r)]) (fun r=>(wO cS 5000 r))
def Zafz:=fun b0 a1=>Z7t.run (Z7s b0 a1)
theorem Zf2(b0)(a1){r}(h:Zafz b0 a1=some r):FnG PR 245 [(0,wR cS 1 b0)] [wO cS 0 b0,wS a1] [(5000,wR cS 1 r)] (wO cS 5000 r):=Z7t.fn h
inductive Zhq where
 | L0 (E0:Zm) (v6:Bys) (v7:Bys) (v8:Int)
 | L1 (E0:Zm) (v6:Bys) (v7:Bys) (v9:Int)
 | L2 (E0:Zm) (v6:Bys) (v7:Bys) (v10:Int)
 | L3 (E0:Zm) (v6:Bys) (v7:Bys) (v11:Int)
 | L4 (E0:Zm) (v6:Bys) (v7:Bys)
 | L5 (E0:Zm) (v6:Bys) (v7:Bys) (v12:Int)
def Zqa(E0:Zm)(v6:Bys)(v7:Bys):LT Zhq (By):=
.g0 (.L5 E0 v6 v7 0)
def Zal2(E0:Zm)(v6:Bys)(v7:Bys)(v8:Int):LT Zhq (By):=
.br (decide (v8 < 6)) (.call (Zs9 E0.Types v8) fun x2=>.br x2 (.call (Z4e v8) fun x5=>.dr [.lit]<|.apR cS 16 v7 [x5] fun x7=>.g0 (.L0 E0 v6 x7 (IntKind.wrap .i64 (v8+1))))<|.g0 (.L0 E0 v6 v7 (IntKind.wrap .i64 (v8+1))))<|.g0 (.L1 E0 v6 v7 0)
def Zal3(E0:Zm)(v6:Bys)(v7:Bys)(v9:Int):LT Zhq (By):=
.br (decide (v9 < 6)) (.call (Zs9 E0.NotTypes v9) fun x2=>.br x2 (.call (Z4e v9) fun x5=>.ok (([110,111,110,45]:By).length+x5.length<=9223372036854775807)<|.dr [.lit]<|.apR cS 16 v7 [([110,111,110,45]:By)++x5] fun x10=>.g0 (.L1 E0 v6 x10 (IntKind.wrap .i64 (v9+1))))<|.g0 (.L1 E0 v6 v7 (IntKind.wrap .i64 (v9+1))))<|.g0 (.L2 E0 v6 v7 0)
def Zal4(E0:Zm)(v6:Bys)(v7:Bys)(v10:Int):LT Zhq (By):=
.br (decide (v10 < 5)) (.call (Zs9 E0.Colors v10) fun x2=>.br x2 (.call (Zwp v10) fun x5=>.dr [.lit]<|.apR cS 16 v7 [x5] fun x7=>.g0 (.L2 E0 v6 x7 (IntKind.wrap .i64 (v10+1))))<|.g0 (.L2 E0 v6 v7 (IntKind.wrap .i64 (v10+1))))<|.g0 (.L3 E0 v6 v7 0)
def Zal5(E0:Zm)(v6:Bys)(v7:Bys)(v11:Int):LT Zhq (By):=
.br (decide (v11 < 5)) (.call (Zs9 E0.NotColors v11) fun x2=>.br x2 (.call (Zwp v11) fun x5=>.ok (([110,111,110,45]:By).length+x5.length<=9223372036854775807)<|.dr [.lit]<|.apR cS 16 v7 [([110,111,110,45]:By)++x5] fun x10=>.g0 (.L3 E0 v6 x10 (IntKind.wrap .i64 (v11+1))))<|.g0 (.L3 E0 v6 v7 (IntKind.wrap .i64 (v11+1))))<|.br (!(E0.Sub==([]:By))) (.ok (([115,117,98,58]:By).length+E0.Sub.length<=9223372036854775807)<|.dr [.lit]<|.apR cS 16 v7 [([115,117,98,58]:By)++E0.Sub] fun x21=>.j0 (.L4 E0 v6 x21) (Zqa E0 v6 x21))<|.j0 (.L4 E0 v6 v7) (Zqa E0 v6 v7)
def Zal6(E0:Zm)(v6:Bys)(v7:Bys)(v12:Int):LT Zhq (By):=
.br (decide (v12 < 17)) (.call (Zs9 E0.Keys v12) fun x2=>.br x2 (.call (Z53 v12) fun x5=>.ok (([119,105,116,104,58]:By).length+x5.length<=9223372036854775807)<|.dr [.lit]<|.apR cS 16 v7 [([119,105,116,104,58]:By)++x5] fun x10=>.g0 (.L5 E0 v6 x10 (IntKind.wrap .i64 (v12+1))))<|.g0 (.L5 E0 v6 v7 (IntKind.wrap .i64 (v12+1))))<|.idx cS v6 E0.Tap fun x17=>.callU (Zf2 v7 x17) [20007] 1250000 fun x19=>.call (Zro ([112,111,119,101,114]:By) E0.Power) fun x21=>.callU (Zf2 x19 x21) [1255000] 1300000 fun x23=>.call (Zro ([116,111,117,103,104]:By) E0.Tough) fun x25=>.callU (Zf2 x23 x25) [1305000] 1350000 fun x27=>.call (Zro ([118,97,108,117,101]:By) E0.Value) fun x29=>.callU (Zf2 x27 x29) [1355000] 1400000 fun x31=>.lenO cS x31<|.br ((x31.length:Int)==0) (.rt ([97,110,121]:By))<|.rl cS x31<|.call (Zba6 x31 ([32]:By)) fun x35=>.rt x35
def Zas6(a0:Zm):LT Zhq (By):=
.lb 1001<|.call (Zg3 a0) fun x1=>.br (!x1) (.rt ([]:By))<|.call (Zapm) fun x4=>.call (Zas0) fun x6=>.call (Zapo) fun x8=>.call (Zas1) fun x10=>.idx cS x4 a0.Zone fun x12=>.dr [.ahead 26,.own 20 70260 1,.stop]<|.callU (Zf2 ([]:Bys) x12) [70260] 270000 fun x14=>.idx cS x6 a0.Who fun x16=>.callU (Zf2 x14 x16) [275000] 340000 fun x18=>.idx cS x8 a0.Self fun x20=>.callU (Zf2 x18 x20) [345000] 410000 fun x22=>.go (.L0 a0 x10 x22 0) [.relab 1001 3000,.relab 415000 20007]
def Zlt:LF Zhq (By) := .m0 204 [.t 2] wS fun | .L0 E0 v6 v7 v8=>([1,1,1,1,1,1,1,1,1,1,0,1,4],⟨145,[(1,.bptr 3000 0),(6,wL cS v6),(7,wO cS 20007 v7),(8,wI v8)],[(3000,.box (bx (Z0 E0))),(20007,wR cS 1 v7)]⟩,Zal2 E0 v6 v7 v8) | .L1 E0 v6 v7 v9=>([1,1,1,1,1,1,1,1,1,1,1,0,1,4],⟨145,[(1,.bptr 3000 0),(6,wL cS v6),(7,wO cS 20007 v7),(9,wI v9)],[(3000,.box (bx (Z0 E0))),(20007,wR cS 1 v7)]⟩,Zal3 E0 v6 v7 v9) | .L2 E0 v6 v7 v10=>([1,1,1,1,1,1,1,1,1,1,1,1,0,1,4],⟨145,[(1,.bptr 3000 0),(6,wL cS v6),(7,wO cS 20007 v7),(10,wI v10)],[(3000,.box (bx (Z0 E0))),(20007,wR cS 1 v7)]⟩,Zal4 E0 v6 v7 v10) | .L3 E0 v6 v7 v11=>([1,1,1,1,1,1,1,1,1,1,1,1,1,0,1,4],⟨145,[(1,.bptr 3000 0),(6,wL cS v6),(7,wO cS 20007 v7),(11,wI v11)],[(3000,.box (bx (Z0 E0))),(20007,wR cS 1 v7)]⟩,Zal5 E0 v6 v7 v11) | .L4 E0 v6 v7=>([1,1,1,1,1,1,1,1,1,1,1,1,1,1,1],⟨145,[(1,.bptr 3000 0),(6,wL cS v6),(7,wO cS 20007 v7)],[(3000,.box (bx (Z0 E0))),(20007,wR cS 1 v7)]⟩,Zqa E0 v6 v7) | .L5 E0 v6 v7 v12=>([1,1,1,1,1,1,1,1,1,1,1,1,1,1,1,0,1,4],⟨145,[(1,.bptr 3000 0),(6,wL cS v6),(7,wO cS 20007 v7),(12,wI v12)],[(3000,.box (bx (Z0 E0))),(20007,wR cS 1 v7)]⟩,Zal6 E0 v6 v7 v12)
def Za6v:=fun a0=>Zlt.run (Zas6 a0)
theorem Zba7(a0){r}(h:Za6v a0=some r):Fn PR 204 [wA (Z0 a0)] (wS r):=Zlt.fn h
def Zas7(a0:Zv):LT Empty (By):=
.lb 1001<|.call (Zafs a0) fun x1=>.br (!x1) (.rt ([]:By))<|.br (a0.Kind==1) (.rt ([99,111,110,116,114,111,108]:By))<|.br (a0.Kind==2) (.call (Zrn a0.N) fun x6=>.ok (([116,121,112,101,115,61]:By).length+x6.length<=9223372036854775807)<|.rt (([116,121,112,101,115,61]:By)++x6))<|.br (a0.Kind==3) (.call (Zrn a0.N) fun x12=>.ok (([116,121,112,101,115,43,61]:By).length+x12.length<=9223372036854775807)<|.rt (([116,121,112,101,115,43,61]:By)++x12))<|.br (a0.Kind==4) (.ok (([115,117,98,61]:By).length+a0.Sub.length<=9223372036854775807)<|.rt (([115,117,98,61]:By)++a0.Sub))<|.br (a0.Kind==5) (.ok (([115,117,98,43,61]:By).length+a0.Sub.length<=9223372036854775807)<|.rt (([115,117,98,43,61]:By)++a0.Sub))<|.br (a0.Kind==6) (.call (Zalu a0.N) fun x26=>.ok (([99,111,108,111,114,115,61]:By).length+x26.length<=9223372036854775807)<|.rt (([99,111,108,111,114,115,61]:By)++x26))<|.br (a0.Kind==7) (.call (Zalu a0.N) fun x32=>.ok (([99,111,108,111,114,115,43,61]:By).length+x32.length<=9223372036854775807)<|.rt (([99,111,108,111,114,115,43,61]:By)++x32))<|.br (a0.Kind==8) (.call (Zaly a0.N) fun x38=>.ok (([107,101,121,115,43,61]:By).length+x38.length<=9223372036854775807)<|.rt (([107,101,121,115,43,61]:By)++x38))<|.br (a0.Kind==9) (.call (Zaly a0.N) fun x44=>.ok (([107,101,121,115,45,61]:By).length+x44.length<=9223372036854775807)<|.rt (([107,101,121,115,45,61]:By)++x44))<|.br (a0.Kind==10) (.rt ([98,108,97,110,107]:By))<|.br (a0.Kind==11) (.call (Zba7 a0.Filter) fun x51=>.ok (([112,116,61,99,111,117,110,116,40]:By).length+x51.length<=9223372036854775807)<|.ok ((([112,116,61,99,111,117,110,116,40]:By)++x51).length+([41]:By).length<=9223372036854775807)<|.rt ((([112,116,61,99,111,117,110,116,40]:By)++x51)++([41]:By)))<|.br (a0.Kind==12) (.call (Zm6 a0.N) fun x58=>.ok (([112,116,61]:By).length+x58.length<=9223372036854775807)<|.ok ((([112,116,61]:By)++x58).length+([47]:By).length<=9223372036854775807)<|.call (Zm6 a0.M) fun x65=>.ok (((([112,116,61]:By)++x58)++([47]:By)).length+x65.length<=9223372036854775807)<|.rt (((([112,116,61]:By)++x58)++([47]:By))++x65))<|.br (a0.Kind==13) (.call (Zm6 a0.N) fun x71=>.ok (([112,116,43,61]:By).length+x71.length<=9223372036854775807)<|.ok ((([112,116,43,61]:By)++x71).length+([47]:By).length<=9223372036854775807)<|.call (Zm6 a0.M) fun x78=>.ok (((([112,116,43,61]:By)++x71)++([47]:By)).length+x78.length<=9223372036854775807)<|.rt (((([112,116,43,61]:By)++x71)++([47]:By))++x78))<|.rt ([112,116,45,115,119,105,116,99,104]:By)
def Zas8:LF Empty (By) := .z0 164 [.t 2] wS
def Za6w:=fun a0=>Zas8.run (Zas7 a0)
theorem Zal7(a0){r}(h:Za6w a0=some r):Fn PR 164 [wA (Zu a0)] (wS r):=Zas8.fn h
inductive Zkq where
 | L0 (v0:List Zv) (v3:By) (v4:Int)
def Z4h(v0:List Zv)(v3:By)(v4:Int):LT Zkq (By):=
.len Zu v0<|.br (decide (v4 < (v0.length:Int))) (.idx Zu v0 v4 fun x3=>.call (Zafs x3) fun x5=>.br (!x5) (.rt ([]:By))<|.br (decide (v4 > 0)) (.ok (v3.length+([44,32]:By).length<=9223372036854775807)<|.ag Zu x3 0<|.call (Zal7 x3) fun x11=>.ok ((v3++([44,32]:By)).length+x11.length<=9223372036854775807)<|.g0 (.L0 v0 ((v3++([44,32]:By))++x11) (IntKind.wrap .i64 (v4+1))))<|.ag Zu x3 0<|.call (Zal7 x3) fun x17=>.ok (v3.length+x17.length<=9223372036854775807)<|.g0 (.L0 v0 (v3++x17) (IntKind.wrap .i64 (v4+1))))<|.rt v3
def Z7u(a0:List Zv):LT Zkq (By):=
.len Zu a0<|.cs ((a0.length:Int)==0) (.k4 0<|.kn [0]<|.rt ([]:By))<|.k2 0<|.len Zu a0<|.k2 0<|.br (decide ((a0.length:Int) > 6)) (.rt ([]:By))<|.g0 (.L0 a0 ([]:By) 0)
def Zvi:LF Zkq (By) := .m0 108 [.t 2] wS fun | .L0 v0 v3 v4=>([1,1,1,0,1,4],⟨37,[(0,wL Zu v0),(3,wS v3),(4,wI v4)],[]⟩,Z4h v0 v3 v4)
def Zaf0:=fun a0=>Zvi.run (Z7u a0)
theorem Ztc(a0){r}(h:Zaf0 a0=some r):Fn PR 108 [wL Zu a0] (wS r):=Zvi.fn h
def Zal8(a0:Ze0):LT Empty Bool:=
.lb 1001<|.call (Zw9 a0.Mana) fun x1=>.cs x1 (.k5 0<|.cs (a0.Mana.X==0) (.k4 1<|.cs (decide (a0.Life>=0)) (.k4 2<|.rt (decide (a0.Life<=99)))<|.k4 2<|.rt false)<|.k4 1<|.b4 false<|.rt false)<|.k5 0<|.b8 false<|.rt false
def Zal9:LF Empty Bool := .z0 151 [.t 2] wB
def Za0m:=fun a0=>Zal9.run (Zal8 a0)
theorem Za6x(a0){r}(h:Za0m a0=some r):Fn PR 151 [wA (Ze4 a0)] (wB r):=Zal9.fn h
def Zas9(a0:Int):LT Empty (By):=
.br (a0==1) (.rt ([101,110,116,101,114,115]:By))<|.br (a0==2) (.rt ([108,101,97,118,101,115]:By))<|.br (a0==3) (.rt ([100,105,101,115]:By))<|.br (a0==4) (.rt ([97,116,116,97,99,107,115]:By))<|.br (a0==5) (.rt ([98,108,111,99,107,115]:By))<|.br (a0==6) (.rt ([100,101,97,108,115]:By))<|.br (a0==7) (.rt ([100,101,97,108,116]:By))<|.br (a0==8) (.rt ([100,114,97,119,115]:By))<|.br (a0==9) (.rt ([99,97,115,116,115]:By))<|.br (a0==10) (.rt ([117,112,107,101,101,112]:By))<|.br (a0==11) (.rt ([101,110,100]:By))<|.br (a0==12) (.rt ([103,97,105,110,115]:By))<|.br (a0==13) (.rt ([108,111,115,101,115]:By))<|.br (a0==14) (.rt ([112,108,97,99,101,100]:By))<|.rt ([]:By)
def Zata:LF Empty (By) := .z0 191 [.t 2] wS
def Za6y:=fun a0=>Zata.run (Zas9 a0)
theorem Zama(a0){r}(h:Za6y a0=some r):Fn PR 191 [wI a0] (wS r):=Zata.fn h
def Zaf1(a0:Int):LT Empty Bool:=
.cs (a0==8) (.k3 0<|.b8 true<|.b4 true<|.rt true)<|.k3 0<|.cs (a0==9) (.k3 1<|.b8 true<|.kb true<|.rt true)<|.k3 1<|.cs (a0==10) (.k3 2<|.b5 true<|.kb true<|.rt true)<|.k3 2<|.cs (a0==11) (.k3 3<|.b3 true<|.rt true)<|.k3 3<|.cs (a0==12) (.k3 4<|.rt true)<|.k3 4<|.rt (a0==13)
def Zaf2:LF Empty Bool := .z0 192 [.t 2] wB
def Zatb:=fun a0=>Zaf2.run (Zaf1 a0)
theorem Zaci(a0){r}(h:Zatb a0=some r):Fn PR 192 [wI a0] (wB r):=Zaf2.fn h
def Z4i(a0:Int):LT Empty Bool:=
.call (Zama a0) fun x1=>.cs (!(x1==([]:By))) (.k2 0<|.call (Zaci a0) fun x4=>.k2 0<|.cs (!x4) (.k2 1<|.kg 0<|.kg 1<|.kg 0<|.rt true)<|.k2 1<|.kg 0<|.kg 1<|.kg 0<|.rt (a0==9))<|.k5 0<|.kg 0<|.rt false
def Z4j:LF Empty Bool := .z0 193 [.t 2] wB
def Zacj:=fun a0=>Z4j.run (Z4i a0)
theorem Zapq(a0){r}(h:Zacj a0=some r):Fn PR 193 [wI a0] (wB r):=Z4j.fn h
inductive Z1r where
 | L0 (E0:Zb4)
def Zxf(E0:Zb4):LT Z1r Bool:=
.call (Zapq E0.When) fun x1=>.br (!x1) (.rt (Zah (Z0 E0.Filter) (Z0 (⟨0,0,0,0,0,0,0,([]:By),0,0,(⟨0,0⟩:Zj),(⟨0,0⟩:Zj),(⟨0,0⟩:Zj)⟩:Zm))))<|.br (E0.When==9) (.call (Zg3 E0.Filter) fun x5=>.cs x5 (.k5 2<|.kg 2<|.rt (E0.Filter.Zone==5))<|.k5 2<|.kg 2<|.rt false)<|.call (Zg3 E0.Filter) fun x8=>.cs x8 (.k5 2<|.kg 2<|.rt (E0.Filter.Zone==0))<|.k5 2<|.kg 2<|.rt false
def Za6z(a0:Zb4):LT Z1r Bool:=
.lb 1001<|.call (Zama a0.When) fun x1=>.cs (x1==([]:By)) (.k4 0<|.b8 true<|.b3 true<|.kn [0]<|.rt false)<|.k4 0<|.cs (decide (a0.Who < 0)) (.k4 1<|.b5 true<|.b2 true<|.kn [0]<|.rt false)<|.k4 1<|.cs (decide (a0.Who > 2)) (.k5 2<|.k2 2<|.kn [0]<|.rt false)<|.k3 2<|.call (Zaci a0.When) fun x6=>.k2 2<|.cs (!x6) (.k3 3<|.kg 2<|.kg 3<|.kg 2<|.br (a0.Who != 0) (.rt false)<|.jn 0 (.L0 a0) [.relab 1001 3000] (Zxf a0))<|.k3 3<|.kg 2<|.kg 3<|.kg 2<|.kn [0]<|.jn 0 (.L0 a0) [.relab 1001 3000] (Zxf a0)
def Za60:LF Z1r Bool := .m0 152 [.t 2] wB fun | .L0 E0=>([1,1],⟨50,[(1,.bptr 3000 0)],[(3000,.box (bx (Zdb E0)))]⟩,Zxf E0)
def Zbig:=fun a0=>Za60.run (Za6z a0)
theorem Zbih(a0){r}(h:Zbig a0=some r):Fn PR 152 [wA (Zdb a0)] (wB r):=Za60.fn h
def Zamb(a0:Zm):LT Empty Bool:=
.lb 1001<|.call (Zg3 a0) fun x1=>.cs x1 (.k4 0<|.rt (a0.Zone==0))<|.k4 0<|.rt false
def Zamc:LF Empty Bool := .z0 196 [.t 2] wB
def Za0n:=fun a0=>Zamc.run (Zamb a0)
theorem Z1s(a0){r}(h:Za0n a0=some r):Fn PR 196 [wA (Z0 a0)] (wB r):=Zamc.fn h
def Zamd(a0:Z4):LT Empty Bool:=
.lb 1001<|.cs (a0.Who != 0) (.k5 0<|.kn [0]<|.rt false)<|.k3 0<|.call (Z1s a0.Filter) fun x2=>.k2 0<|.br (!x2) (.rt false)<|.br (a0.Do==5) (.cs (a0.N==0) (.k4 3<|.cs (a0.Counter==0) (.k4 4<|.cs (a0.Zone==1) (.k3 5<|.kg 4<|.kg 5<|.kg 4<|.b3 true<|.kg 4<|.kb true<|.kg 4<|.rt true)<|.k3 5<|.kg 4<|.kg 5<|.kg 4<|.cs (a0.Zone==2) (.k3 6<|.kg 4<|.kg 6<|.kg 4<|.rt true)<|.k3 6<|.kg 4<|.kg 6<|.kg 4<|.rt (a0.Zone==4))<|.k8 4<|.rt false)<|.k4 3<|.b8 false<|.rt false)<|.br (a0.Do==6) (.cs (a0.N==0) (.k4 4<|.cs (a0.Counter==0) (.k4 5<|.rt (a0.Zone==0))<|.k4 5<|.rt false)<|.k4 4<|.b4 false<|.rt false)<|.br (a0.Do==7) (.cs (a0.Zone==0) (.k4 5<|.cs (decide (a0.N>=1)) (.k4 6<|.cs (decide (a0.N<=99)) (.k4 7<|.cs (decide (a0.Counter>=0)) (.k4 8<|.rt (decide (a0.Counter < 3)))<|.k4 8<|.rt false)<|.k4 7<|.b4 false<|.rt false)<|.k4 6<|.b8 false<|.rt false)<|.k4 5<|.b8 false<|.b4 false<|.rt false)<|.rt false
def Zame:LF Empty Bool := .z0 194 [.t 2] wB
def Za0o:=fun a0=>Zame.run (Zamd a0)
theorem Za61(a0){r}(h:Za0o a0=some r):Fn PR 194 [wA (Zat a0)] (wB r):=Zame.fn h
def Zamf(a0:Z4):LT Empty Bool:=
.lb 1001<|.cs (a0.Zone != 0) (.k4 0<|.kn [0]<|.rt false)<|.k4 0<|.br (a0.Counter != 0) (.rt false)<|.cs (a0.Do==2) (.k4 2<|.kn [0]<|.cs (decide (a0.N>=1)) (.k4 3<|.rt (decide (a0.N<=99)))<|.k4 3<|.rt false)<|.k4 2<|.br (a0.Do==4) (.cs (decide (a0.N>=1)) (.k4 4<|.rt (decide (a0.N<=99)))<|.k4 4<|.rt false)<|.rt (a0.N==0)
def Zamg:LF Empty Bool := .z0 195 [.t 2] wB
def Za0p:=fun a0=>Zamg.run (Zamf a0)
theorem Za62(a0){r}(h:Za0p a0=some r):Fn PR 195 [wA (Zat a0)] (wB r):=Zamg.fn h
inductive Zrp where
 | L0 (E0:Z4) (v3:Bool) (v4:Bool)
 | L1 (E0:Z4) (v3:Bool)
 | L2 (E0:Z4) (v3:Bool) (v4:Bool) (v109:Bool)
def Zr9(E0:Z4)(v3:Bool)(v4:Bool)(v109:Bool):LT Zrp Bool:=
.br v109 (.cs v4 (.k4 1<|.cs (decide (E0.Who>=0)) (.k4 2<|.cs (decide (E0.Who<=2)) (.k2 3<|.rt v3)<|.k2 3<|.rt false)<|.k4 2<|.b2 false<|.rt false)<|.k4 1<|.b5 false<|.kb false<|.rt false)<|.rt false
def Zod(E0:Z4)(v3:Bool):LT Zrp Bool:=
.cs (E0.Who==0) (.k3 0<|.call (Z1s E0.Filter) fun x2=>.kg 0<|.cs x2 (.k8 1<|.rt true)<|.k4 1<|.cs (E0.Who==1) (.k3 2<|.kg 1<|.kg 2<|.kg 1<|.kb true<|.kg 1<|.kb true<|.kg 1<|.rt v3)<|.k3 2<|.kg 1<|.kg 2<|.kg 1<|.cs (E0.Who==2) (.kg 3<|.kg 1<|.kg 3<|.kg 1<|.rt v3)<|.kg 3<|.kg 1<|.kg 3<|.kg 1<|.rt false)<|.k4 0<|.b4 false<|.cs (E0.Who==1) (.k3 1<|.kb false<|.kg 1<|.kb false<|.kb true<|.kb false<|.kb true<|.kb false<|.rt v3)<|.k3 1<|.kb false<|.kg 1<|.kb false<|.cs (E0.Who==2) (.kg 2<|.kb false<|.kg 2<|.kb false<|.rt v3)<|.kg 2<|.kb false<|.kg 2<|.kb false<|.rt false
def Zsa(E0:Z4)(v3:Bool)(v4:Bool):LT Zrp Bool:=
.br (E0.On==1) (.cs (E0.Do != 1) (.k4 1<|.cs (E0.Do != 2) (.k4 2<|.cs (E0.Do != 3) (.k4 3<|.br (E0.Do != 4) (.rt false)<|.j0 (.L1 E0 v3) (Zod E0 v3))<|.k4 3<|.kn [0]<|.j0 (.L1 E0 v3) (Zod E0 v3))<|.k4 2<|.b4 false<|.kn [0]<|.j0 (.L1 E0 v3) (Zod E0 v3))<|.k4 1<|.b8 false<|.kn [0]<|.j0 (.L1 E0 v3) (Zod E0 v3))<|.br (E0.On==8) (.cs v4 (.k4 2<|.cs (E0.Who==0) (.k3 3<|.call (Z1s E0.Filter) fun x9=>.kg 3<|.rt x9)<|.k4 3<|.rt false)<|.k4 2<|.b4 false<|.rt false)<|.br (E0.On==3) (.cs (E0.Do==4) (.k4 3<|.b4 true<|.cs (decide (E0.Who>=0)) (.k4 4<|.cs (decide (E0.Who<=2)) (.k2 5<|.rt v3)<|.k2 5<|.rt false)<|.k4 4<|.b2 false<|.rt false)<|.k4 3<|.cs (E0.Do==8) (.k4 4<|.cs (decide (E0.Who>=0)) (.k4 5<|.cs (decide (E0.Who<=2)) (.k2 6<|.rt v3)<|.k2 6<|.rt false)<|.k4 5<|.b2 false<|.rt false)<|.k4 4<|.b5 false<|.kb false<|.rt false)<|.br (E0.On==4) (.j0 (.L2 E0 v3 v4 (E0.On==4)) (Zr9 E0 v3 v4 (E0.On==4)))<|.br (E0.On==5) (.j0 (.L2 E0 v3 v4 (E0.On==5)) (Zr9 E0 v3 v4 (E0.On==5)))<|.j0 (.L2 E0 v3 v4 (E0.On==10)) (Zr9 E0 v3 v4 (E0.On==10))
def Za63(a0:Z4):LT Zrp Bool:=
.lb 1001<|.br (a0.On==2) (.call (Za61 a0) fun x2=>.rt x2)<|.call (Za62 a0) fun x4=>.br (!x4) (.rt false)<|.cs (a0.Do==3) (.k4 2<|.b4 true<|.jn 0 (.L0 a0 (Zah (Z0 a0.Filter) (Z0 (⟨0,0,0,0,0,0,0,([]:By),0,0,(⟨0,0⟩:Zj),(⟨0,0⟩:Zj),(⟨0,0⟩:Zj)⟩:Zm))) true) [.relab 1001 3000] (Zsa a0 (Zah (Z0 a0.Filter) (Z0 (⟨0,0,0,0,0,0,0,([]:By),0,0,(⟨0,0⟩:Zj),(⟨0,0⟩:Zj),(⟨0,0⟩:Zj)⟩:Zm))) true))<|.k4 2<|.cs (a0.Do==4) (.k4 3<|.jn 0 (.L0 a0 (Zah (Z0 a0.Filter) (Z0 (⟨0,0,0,0,0,0,0,([]:By),0,0,(⟨0,0⟩:Zj),(⟨0,0⟩:Zj),(⟨0,0⟩:Zj)⟩:Zm))) true) [.relab 1001 3000] (Zsa a0 (Zah (Z0 a0.Filter) (Z0 (⟨0,0,0,0,0,0,0,([]:By),0,0,(⟨0,0⟩:Zj),(⟨0,0⟩:Zj),(⟨0,0⟩:Zj)⟩:Zm))) true))<|.k4 3<|.jn 0 (.L0 a0 (Zah (Z0 a0.Filter) (Z0 (⟨0,0,0,0,0,0,0,([]:By),0,0,(⟨0,0⟩:Zj),(⟨0,0⟩:Zj),(⟨0,0⟩:Zj)⟩:Zm))) (a0.Do==8)) [.relab 1001 3000] (Zsa a0 (Zah (Z0 a0.Filter) (Z0 (⟨0,0,0,0,0,0,0,([]:By),0,0,(⟨0,0⟩:Zj),(⟨0,0⟩:Zj),(⟨0,0⟩:Zj)⟩:Zm))) (a0.Do==8))
def Za64:LF Zrp Bool := .m0 153 [.t 2] wB fun | .L0 E0 v3 v4=>([1,1,1,1,1],⟨127,[(1,.bptr 3000 0),(3,wB v3),(4,wB v4)],[(3000,.box (bx (Zat E0)))]⟩,Zsa E0 v3 v4) | .L1 E0 v3=>([1,1,1,1,1,0,1,4,1,2,1],⟨127,[(1,.bptr 3000 0),(3,wB v3)],[(3000,.box (bx (Zat E0)))]⟩,Zod E0 v3) | .L2 E0 v3 v4 v109=>([1,1,1,1,1,0,1,4,1,3,1,3,1,3,1],⟨127,[(1,.bptr 3000 0),(3,wB v3),(4,wB v4),(109,wB v109)],[(3000,.box (bx (Zat E0)))]⟩,Zr9 E0 v3 v4 v109)
def Zbii:=fun a0=>Za64.run (Za63 a0)
theorem Zbij(a0){r}(h:Zbii a0=some r):Fn PR 153 [wA (Zat a0)] (wB r):=Za64.fn h
def Zatc(a0:Za9):LT Empty Bool:=
.lb 1001<|.br (!a0.Object) (.cs a0.Player (.k5 1<|.rt (Zah (Z0 a0.Filter) (Z0 (⟨0,0,0,0,0,0,0,([]:By),0,0,(⟨0,0⟩:Zj),(⟨0,0⟩:Zj),(⟨0,0⟩:Zj)⟩:Zm))))<|.k5 1<|.rt false)<|.call (Zg3 a0.Filter) fun x3=>.cs x3 (.k3 1<|.cs (a0.Filter.Zone==0) (.k2 2<|.kg 1<|.kg 2<|.kg 1<|.b2 true<|.kg 1<|.kb true<|.kg 1<|.rt true)<|.k2 2<|.kg 1<|.kg 2<|.kg 1<|.cs (a0.Filter.Zone==3) (.k2 3<|.kg 1<|.kg 3<|.kg 1<|.rt true)<|.k2 3<|.kg 1<|.kg 3<|.kg 1<|.rt (a0.Filter.Zone==5))<|.k5 1<|.k2 1<|.rt false
def Zatd:LF Empty Bool := .z0 197 [.t 2] wB
def Za65:=fun a0=>Zatd.run (Zatc a0)
theorem Zba8(a0){r}(h:Za65 a0=some r):Fn PR 197 [wA (Zao a0)] (wB r):=Zatd.fn h
inductive Zqb where
 | L0 (v0:List Za9) (v3:Int)
def Zaf3(v0:List Za9)(v3:Int):LT Zqb Bool:=
.len Zao v0<|.br (decide (v3 < (v0.length:Int))) (.idx Zao v0 v3 fun x3=>.call (Zba8 x3) fun x5=>.br (!x5) (.rt false)<|.g0 (.L0 v0 (IntKind.wrap .i64 (v3+1))))<|.len Zao v0<|.rt (decide ((v0.length:Int)<=4))
def Zamh(a0:List Za9):LT Zqb Bool:=
.g0 (.L0 a0 0)
def Z54:LF Zqb Bool := .m0 154 [.t 2] wB fun | .L0 v0 v3=>([1,0,1,4],⟨19,[(0,wL Zao v0),(3,wI v3)],[]⟩,Zaf3 v0 v3)
def Za0q:=fun a0=>Z54.run (Zamh a0)
theorem Za66(a0){r}(h:Za0q a0=some r):Fn PR 154 [wL Zao a0] (wB r):=Z54.fn h
def Zate(a0:Int):LT Empty (By):=
.cs (decide (a0 < 1)) (.k3 0<|.kn [0]<|.rt ([]:By))<|.k3 0<|.br (decide (a0 > 26)) (.rt ([]:By))<|.dr [.lit]<|.idx cS [([100,97,109,97,103,101]:By),([100,101,115,116,114,111,121]:By),([109,111,118,101]:By),([100,114,97,119]:By),([100,105,115,99,97,114,100]:By),([103,97,105,110]:By),([108,111,115,101]:By),([116,97,112]:By),([117,110,116,97,112]:By),([112,117,116]:By),([116,97,107,101]:By),([99,114,101,97,116,101]:By),([109,111,100]:By),([109,97,110,97]:By),([99,111,117,110,116,101,114]:By),([99,111,112,121]:By),([98,101,99,111,109,101]:By),([115,97,99,114,105,102,105,99,101]:By),([109,105,108,108]:By),([115,99,114,121]:By),([115,101,97,114,99,104]:By),([115,104,105,101,108,100]:By),([116,117,114,110]:By),([119,105,110]:By),([100,101,102,101,97,116]:By),([118,101,110,111,109]:By)] (IntKind.wrap .i64 (a0 - 1)) fun x6=>.rt x6
def Zatf:LF Empty (By) := .z0 229 [.t 2] wS
def Za67:=fun a0=>Zatf.run (Zate a0)
theorem Zba9(a0){r}(h:Za67 a0=some r):Fn PR 229 [wI a0] (wS r):=Zatf.fn h
inductive Zpf where
 | L0 (v3:Int) (v4:Bool)
 | L1 (v3:Int) (v14:Bool)
def Zqc(v3:Int)(v14:Bool):LT Zpf (By):=
.br v14 (.rt ([114,107,97]:By))<|.br (v3==12) (.rt ([114,99,97]:By))<|.br (v3==13) (.rt ([114,109]:By))<|.br (v3==14) (.rt ([112]:By))<|.br (v3==18) (.rt ([114,97,102]:By))<|.br (v3==20) (.rt ([97]:By))<|.br (v3==21) (.rt ([102]:By))<|.br (v3==23) (.kn [8]<|.rt ([]:By))<|.br (v3==24) (.rt ([]:By))<|.rt ([114,97]:By)
def Zgj(v3:Int)(v4:Bool):LT Zpf (By):=
.br v4 (.rt ([114]:By))<|.br (v3==3) (.rt ([114,122]:By))<|.br (v3==10) (.j0 (.L1 v3 (v3==10)) (Zqc v3 (v3==10)))<|.j0 (.L1 v3 (v3==11)) (Zqc v3 (v3==11))
def Zatg(a0:Int):LT Zpf (By):=
.br (a0==2) (.j0 (.L0 a0 (a0==2)) (Zgj a0 (a0==2)))<|.br (a0==8) (.j0 (.L0 a0 (a0==8)) (Zgj a0 (a0==8)))<|.br (a0==9) (.j0 (.L0 a0 (a0==9)) (Zgj a0 (a0==9)))<|.br (a0==15) (.j0 (.L0 a0 (a0==15)) (Zgj a0 (a0==15)))<|.br (a0==16) (.j0 (.L0 a0 (a0==16)) (Zgj a0 (a0==16)))<|.br (a0==17) (.j0 (.L0 a0 (a0==17)) (Zgj a0 (a0==17)))<|.j0 (.L0 a0 (a0==25)) (Zgj a0 (a0==25))
def Zath:LF Zpf (By) := .m0 259 [.t 2] wS fun | .L0 v3 v4=>([1,0,1,4,1],⟨32,[(3,wI v3),(4,wB v4)],[]⟩,Zgj v3 v4) | .L1 v3 v14=>([1,0,1,4,1,3,1,3,1],⟨32,[(3,wI v3),(14,wB v14)],[]⟩,Zqc v3 v14)
def Za68:=fun a0=>Zath.run (Zatg a0)
theorem Zbba(a0){r}(h:Za68 a0=some r):Fn PR 259 [wI a0] (wS r):=Zath.fn h
inductive Ztd where
 | L0 (v1:Int) (v5:By) (v6:Int)
def Zami(v1:Int)(v5:By)(v6:Int):LT Ztd Bool:=
.lenS v5<|.br (decide (v6 < (v5.length:Int))) (.idxS v5 v6 fun x3=>.br ((UInt8.toNat x3:Int)==v1) (.rt true)<|.g0 (.L0 v1 v5 (IntKind.wrap .i64 (v6+1))))<|.rt false
def Zati(a0:Int)(a1:Int):LT Ztd Bool:=
.call (Zbba a0) fun x1=>.g0 (.L0 a1 x1 0)
def Zaav:LF Ztd Bool := .m0 230 [.t 4] wB fun | .L0 v1 v5 v6=>([1,1,0,1,4],⟨20,[(1,.t (.int .u8 v1)),(5,wS v5),(6,wI v6)],[]⟩,Zami v1 v5 v6)
def Za69:=fun a0 a1=>Zaav.run (Zati a0 a1)
theorem Zi0(a0)(a1){r}(h:Za69 a0 a1=some r):Fn PR 230 [wI a0,.t (.int .u8 a1)] (wB r):=Zaav.fn h
def Z7v(a0:Int):LT Empty Bool:=
.cs (a0==3) (.k3 0<|.rt true)<|.k3 0<|.rt (a0==8)
def Z7w:LF Empty Bool := .z0 260 [.t 2] wB
def Zaf4:=fun a0=>Z7w.run (Z7v a0)
theorem Zatj(a0){r}(h:Zaf4 a0=some r):Fn PR 260 [wI a0] (wB r):=Z7w.fn h
inductive Zvj where
 | L0 (v1:Int) (E0:Zgy)
 | L1 (E0:Zgy)
def Zxg(E0:Zgy):LT Zvj Bool:=
.br (E0.Kind==4) (.call (Zg3 E0.Filter) fun x2=>.rt x2)<|.rt (Zah (Z0 E0.Filter) (Z0 (⟨0,0,0,0,0,0,0,([]:By),0,0,(⟨0,0⟩:Zj),(⟨0,0⟩:Zj),(⟨0,0⟩:Zj)⟩:Zm)))
def Zxh(v1:Int)(E0:Zgy):LT Zvj Bool:=
.cs (decide (E0.Kind < 1)) (.k4 0<|.kn [0]<|.rt false)<|.k4 0<|.br (decide (E0.Kind > 8)) (.rt false)<|.call (Zatj E0.Kind) fun x3=>.br x3 (.cs (decide (E0.N < 1)) (.k5 3<|.kn [0]<|.rt false)<|.k5 3<|.br (decide (E0.N > v1)) (.rt false)<|.j0 (.L1 E0) (Zxg E0))<|.br (E0.N != 0) (.rt false)<|.j0 (.L1 E0) (Zxg E0)
def Za7a(a0:Zgy)(a1:Int):LT Zvj Bool:=
.lb 1002<|.br (decide (a1 > 4)) (.jn 0 (.L0 4 a0) [.relab 1002 3000] (Zxh 4 a0))<|.jn 0 (.L0 a1 a0) [.relab 1002 3000] (Zxh a1 a0)
def Za7b:LF Zvj Bool := .m0 231 [.t 4] wB fun | .L0 v1 E0=>([1,1],⟨40,[(1,wI v1),(2,.bptr 3000 0)],[(3000,.box (bx (Zet E0)))]⟩,Zxh v1 E0) | .L1 E0=>([1,1,1,1],⟨40,[(2,.bptr 3000 0)],[(3000,.box (bx (Zet E0)))]⟩,Zxg E0)
def Zbik:=fun a0 a1=>Za7b.run (Za7a a0 a1)
theorem Zbil(a0)(a1){r}(h:Zbik a0 a1=some r):Fn PR 231 [wA (Zet a0),wI a1] (wB r):=Za7b.fn h
def Zatk(a0:Int):LT Empty (By):=
.br (a0==0) (.rt ([112,108,117,115]:By))<|.br (a0==1) (.rt ([109,105,110,117,115]:By))<|.br (a0==2) (.rt ([99,104,97,114,103,101]:By))<|.rt ([]:By)
def Zatl:LF Empty (By) := .z0 232 [.t 2] wS
def Za7c:=fun a0=>Zatl.run (Zatk a0)
theorem Zamj(a0){r}(h:Za7c a0=some r):Fn PR 232 [wI a0] (wS r):=Zatl.fn h
def Za7d(a0:Zb0):LT Empty Bool:=
.lb 1001<|.lb 1003<|.br (a0.Kind==0) (.cs (decide (a0.N < 0)) (.k4 1<|.kn [0]<|.rt false)<|.k4 1<|.br (decide (a0.N > 1000000)) (.rt false)<|.cs (decide (a0.Kind>=0)) (.k4 3<|.cs (decide (a0.Kind<=7)) (.k5 4<|.kg 4<|.rt (Zah (Za5 (⟨a0.Kind,0,a0.Counter,a0.Filter⟩:Zb0)) (Za5 (⟨a0.Kind,0,0,(⟨0,0,0,0,0,0,0,([]:By),0,0,(⟨0,0⟩:Zj),(⟨0,0⟩:Zj),(⟨0,0⟩:Zj)⟩:Zm)⟩:Zb0))))<|.k5 4<|.kg 4<|.rt false)<|.k4 3<|.b5 false<|.kb false<|.rt false)<|.br (a0.Kind==2) (.cs (decide (a0.N < 1)) (.k4 2<|.b5 true<|.kn [0]<|.rt false)<|.k4 2<|.cs (decide (a0.N > 99)) (.k5 3<|.kn [0]<|.rt false)<|.k3 3<|.call (Zg3 a0.Filter) fun x9=>.k2 3<|.br (!x9) (.rt false)<|.cs (decide (a0.Kind>=0)) (.k4 5<|.cs (decide (a0.Kind<=7)) (.k5 6<|.kg 6<|.rt (Zah (Za5 (⟨a0.Kind,0,a0.Counter,(⟨0,0,0,0,0,0,0,([]:By),0,0,(⟨0,0⟩:Zj),(⟨0,0⟩:Zj),(⟨0,0⟩:Zj)⟩:Zm)⟩:Zb0)) (Za5 (⟨a0.Kind,0,0,(⟨0,0,0,0,0,0,0,([]:By),0,0,(⟨0,0⟩:Zj),(⟨0,0⟩:Zj),(⟨0,0⟩:Zj)⟩:Zm)⟩:Zb0))))<|.k5 6<|.kg 6<|.rt false)<|.k4 5<|.b5 false<|.kb false<|.rt false)<|.br (a0.Kind==4) (.call (Zamj a0.Counter) fun x15=>.br (x15==([]:By)) (.rt false)<|.cs (decide (a0.Kind>=0)) (.k4 4<|.cs (decide (a0.Kind<=7)) (.k5 5<|.kg 5<|.rt (Zah (Za5 (⟨a0.Kind,a0.N,0,a0.Filter⟩:Zb0)) (Za5 (⟨a0.Kind,0,0,(⟨0,0,0,0,0,0,0,([]:By),0,0,(⟨0,0⟩:Zj),(⟨0,0⟩:Zj),(⟨0,0⟩:Zj)⟩:Zm)⟩:Zb0))))<|.k5 5<|.kg 5<|.rt false)<|.k4 4<|.b5 false<|.kb false<|.rt false)<|.cs (decide (a0.Kind>=0)) (.k4 3<|.cs (decide (a0.Kind<=7)) (.k5 4<|.kg 4<|.rt (Zah (Za5 a0) (Za5 (⟨a0.Kind,0,0,(⟨0,0,0,0,0,0,0,([]:By),0,0,(⟨0,0⟩:Zj),(⟨0,0⟩:Zj),(⟨0,0⟩:Zj)⟩:Zm)⟩:Zb0))))<|.k5 4<|.kg 4<|.rt false)<|.k4 3<|.b5 false<|.kb false<|.rt false
def Za7e:LF Empty Bool := .z0 233 [.t 2] wB
def Zbim:=fun a0=>Za7e.run (Za7d a0)
theorem Zbin(a0){r}(h:Zbim a0=some r):Fn PR 233 [wA (Za5 a0)] (wB r):=Za7e.fn h
def Zatm(a0:List Zv):LT Empty Bool:=
.call (Ztc a0) fun x1=>.rt (!(x1==([]:By)))
def Zatn:LF Empty Bool := .z0 234 [.t 2] wB
def Za7f:=fun a0=>Zatn.run (Zatm a0)
theorem Zbbb(a0){r}(h:Za7f a0=some r):Fn PR 234 [wL Zu a0] (wB r):=Zatn.fn h
inductive Zte where
 | L0 (E0:A6 Int) (E1:Z2) (E2:Z2) (v4:Int)
def Zamk(E0:A6 Int)(E1:Z2)(E2:Z2)(v4:Int):LT Zte Z2:=
.br (decide (v4 < 5)) (.idA (Zn.int .i64) (A6.list E0) (IntKind.wrap .i64 (v4+1)) (bx ((cA6 (cI .i64)) E0)) 0 6 fun x4=>.ldC (Zn.int .i64) 16 x4 0<|.idA (Zn.int .i64) (A5.list E2.Color) v4 (bx (Zav E2)) 2 7 fun x6=>.stA (A5.set? E2.Color v4 x4) (fun h=>Zbqw (Zn.int .i64) ((bx (Zav E2)).take 2) ((bx (Zav E2)).drop 7) h) fun x8=>.g0 (.L0 E0 E1 (⟨E2.Generic,E2.X,x8⟩:Z2) (IntKind.wrap .i64 (v4+1))))<|.rt E2
def Zato(a0:A6 Int):LT Zte Z2:=
.lb 1001<|.lb 1002<|.idA (Zn.int .i64) (A6.list a0) 0 (bx ((cA6 (cI .i64)) a0)) 0 6 fun x1=>.ldC (Zn.int .i64) 6 x1 0<|.lb 1003<|.go (.L0 a0 (⟨0,0,(⟨0,0,0,0,0⟩:A5 Int)⟩:Z2) (⟨x1,0,(⟨0,0,0,0,0⟩:A5 Int)⟩:Z2) 0) [.relab 1001 3000,.relab 1002 3001,.relab 1003 3002]
def Zaaw:LF Zte Z2 := .m0 262 [.c 2 66 true 7] (fun r=>(wA (Zav r))) fun | .L0 E0 E1 E2 v4=>([1,1,0,1,4],⟨20,[(1,.bptr 3000 0),(2,.bptr 3001 0),(3,.bptr 3002 0),(4,wI v4)],[(3000,.box (bx ((cA6 (cI .i64)) E0))),(3001,.box (bx (Zav E1))),(3002,.box (bx (Zav E2)))]⟩,Zamk E0 E1 E2 v4)
def Za7g:=fun a0=>Zaaw.run (Zato a0)
theorem Zbbc(a0){r}(h:Za7g a0=some r):Fn PR 262 [wA ((cA6 (cI .i64)) a0)] (wA (Zav r)):=Zaaw.fn h
inductive Zlu where
 | L0 (E0:Z2) (v3:By) (v4:Int)
 | L1 (E0:Z2) (v3:By) (v5:Int)
 | L2 (E0:Z2) (v3:By) (v5:Int) (v6:Int)
def Zaml(E0:Z2)(v3:By)(v4:Int):LT Zlu (By):=
.br (decide (v4 < E0.X)) (.ok (v3.length+([88]:By).length<=9223372036854775807)<|.g0 (.L0 E0 (v3++([88]:By)) (IntKind.wrap .i64 (v4+1))))<|.br (E0.Generic != 0) (.call (Zm6 E0.Generic) fun x7=>.ok (v3.length+x7.length<=9223372036854775807)<|.g0 (.L1 E0 (v3++x7) 0))<|.g0 (.L1 E0 v3 0)
def Zamm(E0:Z2)(v3:By)(v5:Int):LT Zlu (By):=
.br (decide (v5 < 5)) (.g0 (.L2 E0 v3 v5 0))<|.br (v3==([]:By)) (.rt ([48]:By))<|.rt v3
def Zamn(E0:Z2)(v3:By)(v5:Int)(v6:Int):LT Zlu (By):=
.idA (Zn.int .i64) (A5.list E0.Color) v5 (bx (Zav E0)) 2 7 fun x1=>.ldC (Zn.int .i64) 34 x1 0<|.br (decide (v6 < x1)) (.slS ([65,67,74,82,69]:By) v5 (IntKind.wrap .i64 (v5+1)) fun x6=>.ok (v3.length+x6.length<=9223372036854775807)<|.g0 (.L2 E0 (v3++x6) v5 (IntKind.wrap .i64 (v6+1))))<|.g0 (.L1 E0 v3 (IntKind.wrap .i64 (v5+1)))
def Zatp(a0:Z2):LT Zlu (By):=
.lb 1001<|.call (Zw9 a0) fun x1=>.br (!x1) (.rt ([]:By))<|.go (.L0 a0 ([]:By) 0) [.relab 1001 3000]
def Ztf:LF Zlu (By) := .m0 261 [.t 2] wS fun | .L0 E0 v3 v4=>([1,1,1,0,1,4],⟨47,[(1,.bptr 3000 0),(3,wS v3),(4,wI v4)],[(3000,.box (bx (Zav E0)))]⟩,Zaml E0 v3 v4) | .L1 E0 v3 v5=>([1,1,1,1,1,0,1,4],⟨47,[(1,.bptr 3000 0),(3,wS v3),(5,wI v5)],[(3000,.box (bx (Zav E0)))]⟩,Zamm E0 v3 v5) | .L2 E0 v3 v5 v6=>([1,1,1,1,1,0,1,4,5,1,0,4,1,4],⟨47,[(1,.bptr 3000 0),(3,wS v3),(5,wI v5),(6,wI v6)],[(3000,.box (bx (Zav E0)))]⟩,Zamn E0 v3 v5 v6)
def Za7h:=fun a0=>Ztf.run (Zatp a0)
theorem Zbbd(a0){r}(h:Za7h a0=some r):Fn PR 261 [wA (Zav a0)] (wS r):=Ztf.fn h
def Z7x(a0:A6 Int):LT Empty (By):=
.lb 1001<|.call (Zbbc a0) fun x1=>.call (Zbbd x1) fun x3=>.rt x3
def Z7y:LF Empty (By) := .z0 235 [.t 2] wS
def Zaf5:=fun a0=>Z7y.run (Z7x a0)
theorem Zatq(a0){r}(h:Zaf5 a0=some r):Fn PR 235 [wA ((cA6 (cI .i64)) a0)] (wS r):=Z7y.fn h
def Zaf6(a0:Int)(a1:Zm):LT Empty Bool:=
.lb 1003<|.br (a0==21) (.call (Zg3 a1) fun x2=>.cs x2 (.k5 1<|.rt (a1.Zone==2))<|.k5 1<|.rt false)<|.call (Zg3 a1) fun x5=>.cs x5 (.k5 1<|.rt (a1.Zone==0))<|.k5 1<|.rt false
def Zaf7:LF Empty Bool := .z0 236 [.t 4] wB
def Zatr:=fun a0 a1=>Zaf7.run (Zaf6 a0 a1)
theorem Za2n(a0)(a1){r}(h:Zatr a0 a1=some r):Fn PR 236 [wI a0,wA (Z0 a1)] (wB r):=Zaf7.fn h
inductive Zic where
 | L0 (E0:Z6) (v5:Bool)
 | L1 (E0:Z6) (v5:Bool) (v6:Bool)
 | L2 (E0:Z6) (v5:Bool) (v6:Bool) (v7:Bool)
 | L3 (E0:Z6) (v5:Bool) (v6:Bool) (v7:Bool) (v8:Bool)
 | L4 (E0:Z6) (v5:Bool) (v6:Bool) (v7:Bool) (v8:Bool) (v9:Bool)
 | L5 (E0:Z6) (v5:Bool) (v6:Bool) (v7:Bool) (v8:Bool) (v9:Bool) (v10:Bool)
 | L6 (E0:Z6) (v5:Bool) (v6:Bool) (v7:Bool) (v8:Bool) (v9:Bool) (v10:Bool) (v11:Bool)
 | L7 (v5:Bool) (v6:Bool) (v7:Bool) (v8:Bool) (v9:Bool) (v10:Bool) (v11:Bool) (v12:Bool)
def Zxi(v5:Bool)(v6:Bool)(v7:Bool)(v8:Bool)(v9:Bool)(v10:Bool)(v11:Bool)(v12:Bool):LT Zic Bool:=
.cs v5 (.k2 0<|.cs v6 (.k2 1<|.cs v7 (.k2 2<|.cs v8 (.k2 3<|.cs v9 (.k2 4<|.cs v10 (.k2 5<|.cs v11 (.k2 6<|.rt v12)<|.k2 6<|.rt false)<|.k2 5<|.b2 false<|.rt false)<|.k2 4<|.b4 false<|.rt false)<|.k2 3<|.b5 false<|.kb false<|.rt false)<|.k2 2<|.b8 false<|.rt false)<|.k2 1<|.b8 false<|.b2 false<|.rt false)<|.k2 0<|.b8 false<|.b4 false<|.rt false
def Zsb(E0:Z6)(v5:Bool)(v6:Bool)(v7:Bool)(v8:Bool)(v9:Bool)(v10:Bool)(v11:Bool):LT Zic Bool:=
.call (Zi0 E0.Op 102) fun x1=>.br x1 (.call (Za2n E0.Op E0.Filter) fun x4=>.j0 (.L7 v5 v6 v7 v8 v9 v10 v11 x4) (Zxi v5 v6 v7 v8 v9 v10 v11 x4))<|.j0 (.L7 v5 v6 v7 v8 v9 v10 v11 (Zah (Z0 E0.Filter) (Z0 (⟨0,0,0,0,0,0,0,([]:By),0,0,(⟨0,0⟩:Zj),(⟨0,0⟩:Zj),(⟨0,0⟩:Zj)⟩:Zm)))) (Zxi v5 v6 v7 v8 v9 v10 v11 (Zah (Z0 E0.Filter) (Z0 (⟨0,0,0,0,0,0,0,([]:By),0,0,(⟨0,0⟩:Zj),(⟨0,0⟩:Zj),(⟨0,0⟩:Zj)⟩:Zm))))
def Zxj(E0:Z6)(v5:Bool)(v6:Bool)(v7:Bool)(v8:Bool)(v9:Bool)(v10:Bool):LT Zic Bool:=
.call (Zi0 E0.Op 112) fun x1=>.br x1 (.cs (!(Zah ((cA6 (cI .i64)) E0.Pool) ((cA6 (cI .i64)) (⟨0,0,0,0,0,0⟩:A6 Int)))) (.k3 1<|.call (Zatq E0.Pool) fun x5=>.k2 1<|.j0 (.L6 E0 v5 v6 v7 v8 v9 v10 (!(x5==([]:By)))) (Zsb E0 v5 v6 v7 v8 v9 v10 (!(x5==([]:By)))))<|.k5 1<|.j0 (.L6 E0 v5 v6 v7 v8 v9 v10 false) (Zsb E0 v5 v6 v7 v8 v9 v10 false))<|.j0 (.L6 E0 v5 v6 v7 v8 v9 v10 (Zah ((cA6 (cI .i64)) E0.Pool) ((cA6 (cI .i64)) (⟨0,0,0,0,0,0⟩:A6 Int)))) (Zsb E0 v5 v6 v7 v8 v9 v10 (Zah ((cA6 (cI .i64)) E0.Pool) ((cA6 (cI .i64)) (⟨0,0,0,0,0,0⟩:A6 Int))))
def Zxk(E0:Z6)(v5:Bool)(v6:Bool)(v7:Bool)(v8:Bool)(v9:Bool):LT Zic Bool:=
.len Zu E0.Mods<|.call (Zi0 E0.Op 109) fun x2=>.br x2 (.call (Zbbb E0.Mods) fun x5=>.j0 (.L5 E0 v5 v6 v7 v8 v9 x5) (Zxj E0 v5 v6 v7 v8 v9 x5))<|.j0 (.L5 E0 v5 v6 v7 v8 v9 ((E0.Mods.length:Int)==0)) (Zxj E0 v5 v6 v7 v8 v9 ((E0.Mods.length:Int)==0))
def Zxl(E0:Z6)(v5:Bool)(v6:Bool)(v7:Bool)(v8:Bool):LT Zic Bool:=
.call (Zi0 E0.Op 97) fun x1=>.br x1 (.call (Zbin E0.Amount) fun x4=>.j0 (.L4 E0 v5 v6 v7 v8 x4) (Zxk E0 v5 v6 v7 v8 x4))<|.j0 (.L4 E0 v5 v6 v7 v8 (Zah (Za5 E0.Amount) (Za5 (⟨0,0,0,(⟨0,0,0,0,0,0,0,([]:By),0,0,(⟨0,0⟩:Zj),(⟨0,0⟩:Zj),(⟨0,0⟩:Zj)⟩:Zm)⟩:Zb0)))) (Zxk E0 v5 v6 v7 v8 (Zah (Za5 E0.Amount) (Za5 (⟨0,0,0,(⟨0,0,0,0,0,0,0,([]:By),0,0,(⟨0,0⟩:Zj),(⟨0,0⟩:Zj),(⟨0,0⟩:Zj)⟩:Zm)⟩:Zb0))))
def Zsc(E0:Z6)(v5:Bool)(v6:Bool)(v7:Bool):LT Zic Bool:=
.call (Zi0 E0.Op 99) fun x1=>.br x1 (.call (Zafm E0.Card) fun x4=>.j0 (.L3 E0 v5 v6 v7 x4) (Zxl E0 v5 v6 v7 x4))<|.j0 (.L3 E0 v5 v6 v7 (E0.Card==([]:By))) (Zxl E0 v5 v6 v7 (E0.Card==([]:By)))
def Zoe(E0:Z6)(v5:Bool)(v6:Bool):LT Zic Bool:=
.cs (E0.Counter==0) (.k5 0<|.kg 0<|.j0 (.L2 E0 v5 v6 true) (Zsc E0 v5 v6 true))<|.k3 0<|.call (Zi0 E0.Op 107) fun x2=>.kg 0<|.cs x2 (.k3 1<|.call (Zamj E0.Counter) fun x5=>.kg 1<|.kg 0<|.kg 1<|.kg 0<|.j0 (.L2 E0 v5 v6 (!(x5==([]:By)))) (Zsc E0 v5 v6 (!(x5==([]:By)))))<|.k4 1<|.kg 0<|.kg 1<|.kg 0<|.j0 (.L2 E0 v5 v6 false) (Zsc E0 v5 v6 false)
def Zxm(E0:Z6)(v5:Bool):LT Zic Bool:=
.cs (E0.Zone==0) (.k8 0<|.j0 (.L1 E0 v5 true) (Zoe E0 v5 true))<|.k3 0<|.call (Zi0 E0.Op 122) fun x2=>.kg 0<|.cs x2 (.k3 1<|.kg 0<|.kg 1<|.kg 0<|.cs (decide (E0.Zone > 0)) (.k3 2<|.kg 0<|.kg 2<|.kg 0<|.j0 (.L1 E0 v5 (decide (E0.Zone<=4))) (Zoe E0 v5 (decide (E0.Zone<=4))))<|.k3 2<|.kg 0<|.kg 2<|.kg 0<|.j0 (.L1 E0 v5 false) (Zoe E0 v5 false))<|.k3 1<|.kg 0<|.kg 1<|.kg 0<|.b3 false<|.kg 0<|.kb false<|.kg 0<|.j0 (.L1 E0 v5 false) (Zoe E0 v5 false)
def Za7i(a0:Z6)(a1:Int):LT Zic Bool:=
.lb 1002<|.call (Zba9 a0.Op) fun x1=>.br (x1==([]:By)) (.rt false)<|.call (Zi0 a0.Op 114) fun x4=>.br x4 (.call (Zbil a0.Ref a1) fun x7=>.jn 0 (.L0 a0 x7) [.relab 1002 3000] (Zxm a0 x7))<|.jn 0 (.L0 a0 (Zah (Zet a0.Ref) (Zet (⟨0,0,(⟨0,0,0,0,0,0,0,([]:By),0,0,(⟨0,0⟩:Zj),(⟨0,0⟩:Zj),(⟨0,0⟩:Zj)⟩:Zm)⟩:Zgy)))) [.relab 1002 3000] (Zxm a0 (Zah (Zet a0.Ref) (Zet (⟨0,0,(⟨0,0,0,0,0,0,0,([]:By),0,0,(⟨0,0⟩:Zj),(⟨0,0⟩:Zj),(⟨0,0⟩:Zj)⟩:Zm)⟩:Zgy))))
def Za7j:LF Zic Bool := .m0 198 [.t 4] wB fun | .L0 E0 v5=>([1,1,1,1],⟨138,[(2,.bptr 3000 0),(5,wB v5)],[(3000,.box (bx (Zz E0)))]⟩,Zxm E0 v5) | .L1 E0 v5 v6=>([1,1,1,1,1],⟨138,[(2,.bptr 3000 0),(5,wB v5),(6,wB v6)],[(3000,.box (bx (Zz E0)))]⟩,Zoe E0 v5 v6) | .L2 E0 v5 v6 v7=>([1,1,1,1,1,1],⟨138,[(2,.bptr 3000 0),(5,wB v5),(6,wB v6),(7,wB v7)],[(3000,.box (bx (Zz E0)))]⟩,Zsc E0 v5 v6 v7) | .L3 E0 v5 v6 v7 v8=>([1,1,1,1,1,1,1,1],⟨138,[(2,.bptr 3000 0),(5,wB v5),(6,wB v6),(7,wB v7),(8,wB v8)],[(3000,.box (bx (Zz E0)))]⟩,Zxl E0 v5 v6 v7 v8) | .L4 E0 v5 v6 v7 v8 v9=>([1,1,1,1,1,1,1,1,1,1],⟨138,[(2,.bptr 3000 0),(5,wB v5),(6,wB v6),(7,wB v7),(8,wB v8),(9,wB v9)],[(3000,.box (bx (Zz E0)))]⟩,Zxk E0 v5 v6 v7 v8 v9) | .L5 E0 v5 v6 v7 v8 v9 v10=>([1,1,1,1,1,1,1,1,1,1,1,1],⟨138,[(2,.bptr 3000 0),(5,wB v5),(6,wB v6),(7,wB v7),(8,wB v8),(9,wB v9),(10,wB v10)],[(3000,.box (bx (Zz E0)))]⟩,Zxj E0 v5 v6 v7 v8 v9 v10) | .L6 E0 v5 v6 v7 v8 v9 v10 v11=>([1,1,1,1,1,1,1,1,1,1,1,1,1,1],⟨138,[(2,.bptr 3000 0),(5,wB v5),(6,wB v6),(7,wB v7),(8,wB v8),(9,wB v9),(10,wB v10),(11,wB v11)],[(3000,.box (bx (Zz E0)))]⟩,Zsb E0 v5 v6 v7 v8 v9 v10 v11) | .L7 v5 v6 v7 v8 v9 v10 v11 v12=>([1,1,1,1,1,1,1,1,1,1,1,1,1,1,1,1],⟨138,[(5,wB v5),(6,wB v6),(7,wB v7),(8,wB v8),(9,wB v9),(10,wB v10),(11,wB v11),(12,wB v12)],[]⟩,Zxi v5 v6 v7 v8 v9 v10 v11 v12)
def Zbio:=fun a0 a1=>Za7j.run (Za7i a0 a1)
theorem Zbip(a0)(a1){r}(h:Zbio a0 a1=some r):Fn PR 198 [wA (Zz a0),wI a1] (wB r):=Za7j.fn h
inductive Zme where
 | L0 (v0:List Z6) (v1:Int) (v5:Int)
def Z7z(v0:List Z6)(v1:Int)(v5:Int):LT Zme Bool:=
.len Zz v0<|.br (decide (v5 < (v0.length:Int))) (.idx Zz v0 v5 fun x3=>.call (Zbip x3 v1) fun x5=>.br (!x5) (.rt false)<|.g0 (.L0 v0 v1 (IntKind.wrap .i64 (v5+1))))<|.len Zz v0<|.cs (decide ((v0.length:Int)>=1)) (.k2 1<|.len Zz v0<|.k2 1<|.rt (decide ((v0.length:Int)<=8)))<|.k4 1<|.rt false
def Zack(a0:List Z6)(a1:Int):LT Zme Bool:=
.g0 (.L0 a0 a1 0)
def Zyq:LF Zme Bool := .m0 155 [.t 4] wB fun | .L0 v0 v1 v5=>([1,0,1,4],⟨27,[(0,wL Zz v0),(1,wI v1),(5,wI v5)],[]⟩,Z7z v0 v1 v5)
def Zamo:=fun a0 a1=>Zyq.run (Zack a0 a1)
theorem Zax9(a0)(a1){r}(h:Zamo a0 a1=some r):Fn PR 155 [wL Zz a0,wI a1] (wB r):=Zyq.fn h
inductive Zlv where
 | L0 (E0:Zh) (v3:Bool)
 | L1 (E0:Zh) (v3:Bool)
 | L2 (E0:Zh) (v3:Bool)
 | L3 (E0:Zh) (v3:Bool)
 | L4 (E0:Zh) (v3:Bool)
def Zxn(E0:Zh)(v3:Bool):LT Zlv Bool:=
.br v3 (.call (Za66 E0.Specs) fun x2=>.cs x2 (.k5 1<|.len Zao E0.Specs<|.kg 1<|.call (Zax9 E0.Effects (E0.Specs.length:Int)) fun x6=>.kg 1<|.rt x6)<|.k5 1<|.k2 1<|.rt false)<|.len Zao E0.Specs<|.cs ((E0.Specs.length:Int)==0) (.k3 1<|.len Zz E0.Effects<|.k2 1<|.rt ((E0.Effects.length:Int)==0))<|.k5 1<|.rt false
def Zxo(E0:Zh)(v3:Bool):LT Zlv Bool:=
.br (E0.Kind==5) (.call (Zbij E0.Replace) fun x2=>.br (!x2) (.rt false)<|.j0 (.L4 E0 v3) (Zxn E0 v3))<|.br (!(Zah (Zat E0.Replace) (Zat (⟨0,0,(⟨0,0,0,0,0,0,0,([]:By),0,0,(⟨0,0⟩:Zj),(⟨0,0⟩:Zj),(⟨0,0⟩:Zj)⟩:Zm),0,0,0,0⟩:Z4)))) (.rt false)<|.j0 (.L4 E0 v3) (Zxn E0 v3)
def Zxp(E0:Zh)(v3:Bool):LT Zlv Bool:=
.br (E0.Kind==4) (.call (Zbih E0.Trigger) fun x2=>.br (!x2) (.rt false)<|.j0 (.L3 E0 v3) (Zxo E0 v3))<|.cs (!(Zah (Zdb E0.Trigger) (Zdb (⟨0,0,(⟨0,0,0,0,0,0,0,([]:By),0,0,(⟨0,0⟩:Zj),(⟨0,0⟩:Zj),(⟨0,0⟩:Zj)⟩:Zm)⟩:Zb4)))) (.k3 1<|.kn [0]<|.rt false)<|.k3 1<|.br E0.May (.rt false)<|.j0 (.L3 E0 v3) (Zxo E0 v3)
def Zxq(E0:Zh)(v3:Bool):LT Zlv Bool:=
.br (E0.Kind==3) (.call (Za6x E0.Price) fun x2=>.br (!x2) (.rt false)<|.j0 (.L2 E0 v3) (Zxp E0 v3))<|.cs (!(Zah (Ze4 E0.Price) (Ze4 (⟨(⟨0,0,(⟨0,0,0,0,0⟩:A5 Int)⟩:Z2),false,false,0⟩:Ze0)))) (.k3 1<|.kn [0]<|.rt false)<|.k3 1<|.br E0.Slow (.rt false)<|.j0 (.L2 E0 v3) (Zxp E0 v3)
def Zsd(E0:Zh)(v3:Bool):LT Zlv Bool:=
.br (E0.Kind==1) (.call (Zg3 E0.Filter) fun x2=>.cs (!x2) (.k5 1<|.b5 true<|.kn [0]<|.rt false)<|.k5 1<|.cs (E0.Filter.Zone != 0) (.k5 2<|.kn [0]<|.rt false)<|.k3 2<|.call (Ztc E0.Mods) fun x6=>.k2 2<|.br (x6==([]:By)) (.rt false)<|.j0 (.L1 E0 v3) (Zxq E0 v3))<|.cs (!(Zah (Z0 E0.Filter) (Z0 (⟨0,0,0,0,0,0,0,([]:By),0,0,(⟨0,0⟩:Zj),(⟨0,0⟩:Zj),(⟨0,0⟩:Zj)⟩:Zm)))) (.k5 1<|.kn [0]<|.rt false)<|.k3 1<|.len Zu E0.Mods<|.k2 1<|.br (decide ((E0.Mods.length:Int) > 0)) (.rt false)<|.j0 (.L1 E0 v3) (Zxq E0 v3)
def Za7k(a0:Zh):LT Zlv Bool:=
.lb 1001<|.cs (decide (a0.Kind < 1)) (.k4 0<|.kn [0]<|.rt false)<|.k4 0<|.br (decide (a0.Kind > 5)) (.rt false)<|.cs (a0.Kind==2) (.k4 2<|.b4 true<|.jn 0 (.L0 a0 true) [.relab 1001 3000] (Zsd a0 true))<|.k4 2<|.cs (a0.Kind==3) (.k4 3<|.jn 0 (.L0 a0 true) [.relab 1001 3000] (Zsd a0 true))<|.k4 3<|.jn 0 (.L0 a0 (a0.Kind==4)) [.relab 1001 3000] (Zsd a0 (a0.Kind==4))
def Za7l:LF Zlv Bool := .m0 99 [.t 2] wB fun | .L0 E0 v3=>([1,1,1],⟨117,[(1,.bptr 3000 0),(3,wB v3)],[(3000,.box (bx (Zr E0)))]⟩,Zsd E0 v3) | .L1 E0 v3=>([1,1,1,1],⟨117,[(1,.bptr 3000 0),(3,wB v3)],[(3000,.box (bx (Zr E0)))]⟩,Zxq E0 v3) | .L2 E0 v3=>([1,1,1,1,1],⟨117,[(1,.bptr 3000 0),(3,wB v3)],[(3000,.box (bx (Zr E0)))]⟩,Zxp E0 v3) | .L3 E0 v3=>([1,1,1,1,1,1],⟨117,[(1,.bptr 3000 0),(3,wB v3)],[(3000,.box (bx (Zr E0)))]⟩,Zxo E0 v3) | .L4 E0 v3=>([1,1,1,1,1,1,1],⟨117,[(1,.bptr 3000 0),(3,wB v3)],[(3000,.box (bx (Zr E0)))]⟩,Zxn E0 v3)
def Zbiq:=fun a0=>Za7l.run (Za7k a0)
theorem Z4k(a0){r}(h:Zbiq a0=some r):Fn PR 99 [wA (Zr a0)] (wB r):=Za7l.fn h
def Zats(a0:Zg):LT Empty Bool:=
.lb 1001<|.cs (a0.Line.Types==2) (.k5 0<|.rt true)<|.k5 0<|.rt (a0.Line.Types==4)
def Zatt:LF Empty Bool := .z0 100 [.t 2] wB
def Za7m:=fun a0=>Zatt.run (Zats a0)
theorem Zbbe(a0){r}(h:Za7m a0=some r):Fn PR 100 [wA (Zs a0)] (wB r):=Zatt.fn h
inductive Zvk where
 | L0 (E0:Zg)
 | L1 (E0:Zg) (v3:Int) (v4:Int)
def Zxr(E0:Zg):LT Zvk Bool:=
.g0 (.L1 E0 0 0)
def Za0r(E0:Zg)(v3:Int)(v4:Int):LT Zvk Bool:=
.len Zr E0.Abilities<|.br (decide (v4 < (E0.Abilities.length:Int))) (.idx Zr E0.Abilities v4 fun x3=>.call (Z4k x3) fun x5=>.br (!x5) (.rt false)<|.ag Zr x3 0<|.br (x3.Kind==2) (.g0 (.L1 E0 (IntKind.wrap .i64 (v3+1)) (IntKind.wrap .i64 (v4+1))))<|.g0 (.L1 E0 v3 (IntKind.wrap .i64 (v4+1))))<|.call (Zbbe E0) fun x15=>.br x15 (.cs (!E0.Token) (.k4 2<|.cs (E0.Keys==0) (.k3 3<|.len Zr E0.Abilities<|.k2 3<|.cs ((E0.Abilities.length:Int)==1) (.k3 4<|.rt (v3==1))<|.k3 4<|.rt false)<|.k5 3<|.b3 false<|.rt false)<|.k4 2<|.b8 false<|.rt false)<|.cs (v3==0) (.k4 2<|.cs (!E0.Token) (.k5 3<|.kg 2<|.kg 3<|.kg 2<|.cs ((Zbl .and .i64 E0.Line.Types 32)==0) (.k4 4<|.kg 2<|.kg 4<|.kg 2<|.rt true)<|.k4 4<|.kg 2<|.kg 4<|.kg 2<|.rt (Zah (Zav E0.Cost) (Zav (⟨0,0,(⟨0,0,0,0,0⟩:A5 Int)⟩:Z2))))<|.k5 3<|.kg 2<|.kg 3<|.kg 2<|.b4 false<|.kg 2<|.kb false<|.kg 2<|.rt (Zah (Zav E0.Cost) (Zav (⟨0,0,(⟨0,0,0,0,0⟩:A5 Int)⟩:Z2))))<|.k8 2<|.rt false
def Za7n(a0:Zg):LT Zvk Bool:=
.lb 1001<|.call (Zafm a0.Name) fun x1=>.cs (!x1) (.k5 0<|.b16 true<|.b2 true<|.kn [0]<|.rt false)<|.k3 0<|.call (Zw9 a0.Cost) fun x4=>.k2 0<|.cs (!x4) (.k5 1<|.b8 true<|.b5 true<|.kn [0]<|.rt false)<|.k3 1<|.call (Zbib a0.Line) fun x7=>.k2 1<|.cs (!x7) (.k5 2<|.b8 true<|.kn [0]<|.rt false)<|.k3 2<|.call (Za0j a0.Keys) fun x10=>.k2 2<|.cs (!x10) (.k4 3<|.b4 true<|.kn [0]<|.rt false)<|.k4 3<|.cs (decide (a0.Color < 0)) (.k4 4<|.kn [0]<|.rt false)<|.k4 4<|.br (decide (a0.Color > 31)) (.rt false)<|.cs (decide (a0.Power < 0)) (.k4 6<|.b16 true<|.b3 true<|.kn [0]<|.rt false)<|.k4 6<|.cs (decide (a0.Power > 99)) (.k4 7<|.b8 true<|.b5 true<|.b2 true<|.kn [0]<|.rt false)<|.k4 7<|.cs (decide (a0.Tough < 0)) (.k4 8<|.b8 true<|.b3 true<|.kn [0]<|.rt false)<|.k4 8<|.cs (decide (a0.Tough > 99)) (.k5 9<|.kg 9<|.b5 true<|.kn [0]<|.rt false)<|.k2 9<|.call (Zasq a0) fun x19=>.k2 9<|.cs (!x19) (.k4 10<|.cs (a0.Power != 0) (.k3 11<|.kg 10<|.kg 11<|.kg 9<|.kg 10<|.kg 9<|.b5 true<|.kn [0]<|.rt false)<|.k3 11<|.kg 10<|.kg 11<|.kg 9<|.kg 10<|.kg 9<|.cs (a0.Tough != 0) (.k5 12<|.kn [0]<|.rt false)<|.k3 12<|.len Zr a0.Abilities<|.k2 12<|.br (decide ((a0.Abilities.length:Int) > 8)) (.rt false)<|.jn 0 (.L0 a0) [.relab 1001 3000] (Zxr a0))<|.k5 10<|.kg 9<|.kg 10<|.kg 9<|.b3 false<|.len Zr a0.Abilities<|.b2 false<|.br (decide ((a0.Abilities.length:Int) > 8)) (.rt false)<|.jn 0 (.L0 a0) [.relab 1001 3000] (Zxr a0)
def Zapr:LF Zvk Bool := .m0 51 [.t 2] wB fun | .L0 E0=>([1,1,1],⟨139,[(1,.bptr 3000 0)],[(3000,.box (bx (Zs E0)))]⟩,Zxr E0) | .L1 E0 v3 v4=>([1,1,1,1,0,1,4],⟨139,[(1,.bptr 3000 0),(3,wI v3),(4,wI v4)],[(3000,.box (bx (Zs E0)))]⟩,Za0r E0 v3 v4)
def Zbir:=fun a0=>Zapr.run (Za7n a0)
theorem Zbis(a0){r}(h:Zbir a0=some r):Fn PR 51 [wA (Zs a0)] (wB r):=Zapr.fn h
inductive Ztg where
 | L0 (v0:List Zg) (v1:By) (v5:Int)
def Zamp(v0:List Zg)(v1:By)(v5:Int):LT Ztg Int:=
.len Zs v0<|.br (decide (v5 < (v0.length:Int))) (.idx Zs v0 v5 fun x3=>.br (x3.Name==v1) (.rt v5)<|.g0 (.L0 v0 v1 (IntKind.wrap .i64 (v5+1))))<|.rt (-1)
def Zatu(a0:List Zg)(a1:By):LT Ztg Int:=
.g0 (.L0 a0 a1 0)
def Zaax:LF Ztg Int := .m0 52 [.t 4] wI fun | .L0 v0 v1 v5=>([1,0,1,4],⟨20,[(0,wL Zs v0),(1,wS v1),(5,wI v5)],[]⟩,Zamp v0 v1 v5)
def Za7o:=fun a0 a1=>Zaax.run (Zatu a0 a1)
theorem Zbbf(a0)(a1){r}(h:Za7o a0 a1=some r):Fn PR 52 [wL Zs a0,wS a1] (wI r):=Zaax.fn h
inductive Zqd where
 | L0 (v0:List Zg) (v1:By) (v5:Int)
def Zaf8(v0:List Zg)(v1:By)(v5:Int):LT Zqd Bool:=
.len Zs v0<|.br (decide (v5 < (v0.length:Int))) (.idx Zs v0 v5 fun x3=>.cs (x3.Name==v1) (.k3 1<|.ag Zs x3 0<|.k3 1<|.br x3.Token (.rt true)<|.g0 (.L0 v0 v1 (IntKind.wrap .i64 (v5+1))))<|.k5 1<|.kg 1<|.kn [0]<|.g0 (.L0 v0 v1 (IntKind.wrap .i64 (v5+1))))<|.rt false
def Zamq(a0:List Zg)(a1:By):LT Zqd Bool:=
.g0 (.L0 a0 a1 0)
def Z55:LF Zqd Bool := .m0 101 [.t 4] wB fun | .L0 v0 v1 v5=>([1,0,1,4],⟨26,[(0,wL Zs v0),(1,wS v1),(5,wI v5)],[]⟩,Zaf8 v0 v1 v5)
def Za0s:=fun a0 a1=>Z55.run (Zamq a0 a1)
theorem Za7p(a0)(a1){r}(h:Za0s a0 a1=some r):Fn PR 101 [wL Zs a0,wS a1] (wB r):=Z55.fn h
inductive Zjs where
 | L0 (v0:List Zg) (E0:Zg) (v5:Int)
 | L1 (v0:List Zg) (E0:Zg) (v5:Int) (v6:Int)
def Z70(v0:List Zg)(E0:Zg)(v5:Int):LT Zjs Bool:=
.len Zr E0.Abilities<|.br (decide (v5 < (E0.Abilities.length:Int))) (.g0 (.L1 v0 E0 v5 0))<|.rt true
def Z71(v0:List Zg)(E0:Zg)(v5:Int)(v6:Int):LT Zjs Bool:=
.idx Zr E0.Abilities v5 fun x1=>.len Zz x1.Effects<|.br (decide (v6 < (x1.Effects.length:Int))) (.ag Zr x1 0<|.idx Zz x1.Effects v6 fun x5=>.lb 1007<|.cs (x5.Op==12) (.k4 1<|.call (Za7p v0 x5.Card) fun x8=>.k2 1<|.br (!x8) (.rt false)<|.g0 (.L1 v0 E0 v5 (IntKind.wrap .i64 (v6+1))))<|.k5 1<|.kg 1<|.kn [0]<|.g0 (.L1 v0 E0 v5 (IntKind.wrap .i64 (v6+1))))<|.g0 (.L0 v0 E0 (IntKind.wrap .i64 (v5+1)))
def Zacl(a0:List Zg)(a1:Zg):LT Zjs Bool:=
.lb 1003<|.go (.L0 a0 a1 0) [.relab 1003 3000]
def Zq4:LF Zjs Bool := .m0 53 [.t 4] wB fun | .L0 v0 E0 v5=>([1,0,1,4],⟨45,[(0,wL Zs v0),(3,.bptr 3000 0),(5,wI v5)],[(3000,.box (bx (Zs E0)))]⟩,Z70 v0 E0 v5) | .L1 v0 E0 v5 v6=>([1,0,1,4,5,1,0,4,1,4],⟨45,[(0,wL Zs v0),(3,.bptr 3000 0),(5,wI v5),(6,wI v6)],[(3000,.box (bx (Zs E0)))]⟩,Z71 v0 E0 v5 v6)
def Zamr:=fun a0 a1=>Zq4.run (Zacl a0 a1)
theorem Zaya(a0)(a1){r}(h:Zamr a0 a1=some r):Fn PR 53 [wL Zs a0,wA (Zs a1)] (wB r):=Zq4.fn h
inductive Zqe where
 | L0 (v0:List Zg) (v4:Int)
def Zaf9(v0:List Zg)(v4:Int):LT Zqe (Int×Int):=
.len Zs v0<|.br (decide (v4 < (v0.length:Int))) (.idx Zs v0 v4 fun x3=>.call (Zbis x3) fun x5=>.br (!x5) (.rt (v4,9))<|.ag Zs x3 0<|.call (Zbbf v0 x3.Name) fun x8=>.br (decide (x8 < v4)) (.rt (v4,6))<|.ag Zs x3 0<|.call (Zaya v0 x3) fun x11=>.br (!x11) (.rt (v4,7))<|.g0 (.L0 v0 (IntKind.wrap .i64 (v4+1))))<|.rt ((-1),0)
def Zams(a0:List Zg):LT Zqe (Int×Int):=
.len Zs a0<|.br (decide ((a0.length:Int) > 256)) (.rt ((-1),5))<|.g0 (.L0 a0 0)
def Z56:LF Zqe (Int×Int) := .m0 19 [.t 2,.t 3] (fun r=>(.tup [wI r.1,wI r.2])) fun | .L0 v0 v4=>([1,1,0,1,4],⟨39,[(0,wL Zs v0),(4,wI v4)],[]⟩,Zaf9 v0 v4)
def Za0t:=fun a0=>Z56.run (Zams a0)
theorem Za7q(a0){r}(h:Za0t a0=some r):Fn PR 19 [wL Zs a0] (.tup [wI r.1,wI r.2]):=Z56.fn h
def Za7r(a0:Int)(a1:Int)(a2:Int):LT Empty Bool:=
.cs (decide (a0>=a1)) (.k4 0<|.rt (decide (a0<=a2)))<|.k4 0<|.rt false
def Za7s:LF Empty Bool := .z0 54 [.t 6] wB
def Zbit:=fun a0 a1 a2=>Za7s.run (Za7r a0 a1 a2)
theorem Zfl(a0)(a1)(a2){r}(h:Zbit a0 a1 a2=some r):Fn PR 54 [wI a0,wI a1,wI a2] (wB r):=Za7s.fn h
inductive Zqf where
 | L0 (E0:A6 Int) (v3:Int)
def Zaga(E0:A6 Int)(v3:Int):LT Zqf Bool:=
.br (decide (v3 < 6)) (.idA (Zn.int .i64) (A6.list E0) v3 (bx ((cA6 (cI .i64)) E0)) 0 6 fun x2=>.ldC (Zn.int .i64) 10 x2 0<|.cs (decide (x2 < 0)) (.k5 1<|.kn [0]<|.rt false)<|.k2 1<|.idA (Zn.int .i64) (A6.list E0) v3 (bx ((cA6 (cI .i64)) E0)) 0 6 fun x5=>.kg 1<|.ldC (Zn.int .i64) 15 x5 1<|.k2 1<|.br (decide (x5 > 1000000)) (.rt false)<|.g0 (.L0 E0 (IntKind.wrap .i64 (v3+1))))<|.rt true
def Zamt(a0:A6 Int):LT Zqf Bool:=
.lb 1001<|.go (.L0 a0 0) [.relab 1001 3000]
def Z57:LF Zqf Bool := .m0 102 [.t 2] wB fun | .L0 E0 v3=>([1,0,1,4],⟨18,[(1,.bptr 3000 0),(3,wI v3)],[(3000,.box (bx ((cA6 (cI .i64)) E0)))]⟩,Zaga E0 v3)
def Za0u:=fun a0=>Z57.run (Zamt a0)
theorem Za7t(a0){r}(h:Za0u a0=some r):Fn PR 102 [wA ((cA6 (cI .i64)) a0)] (wB r):=Z57.fn h
inductive Zqg where
 | L0 (v1:Int) (E0:Za) (v5:Int)
def Zagb(v1:Int)(E0:Za)(v5:Int):LT Zqg Int:=
.len Zi E0.Objects<|.br (decide (v5 < (E0.Objects.length:Int))) (.idx Zi E0.Objects v5 fun x3=>.br (x3.Id==v1) (.rt v5)<|.g0 (.L0 v1 E0 (IntKind.wrap .i64 (v5+1))))<|.rt (-1)
def Zamu(a0:Za)(a1:Int):LT Zqg Int:=
.lb 1002<|.go (.L0 a1 a0 0) [.relab 1002 3000]
def Z58:LF Zqg Int := .m0 50 [.t 4] wI fun | .L0 v1 E0 v5=>([1,0,1,4],⟨22,[(1,wI v1),(2,.bptr 3000 0),(5,wI v5)],[(3000,.box (bx (Zo E0)))]⟩,Zagb v1 E0 v5)
def Za0v:=fun a0 a1=>Z58.run (Zamu a0 a1)
theorem Zagc(a0)(a1){r}(h:Za0v a0 a1=some r):Fn PR 50 [wA (Zo a0),wI a1] (wI r):=Z58.fn h
def Zatv(a0:Za)(a1:Int):LT Empty (Zc×Bool):=
.lb 1002<|.lb 1004<|.call (Zagc a0 a1) fun x1=>.br (decide (x1 < 0)) (.rt ((⟨0,0,0,0,0,false,false,false,false,0,(⟨0,0,0⟩:A3 Int),0,0,0,false,0,0⟩:Zc),false))<|.idx Zi a0.Objects x1 fun x4=>.rt (x4,true)
def Zatw:LF Empty (Zc×Bool) := .z0 18 [.c 4 52 true 19,.t 5] (fun r=>(.tup [wA (Zi r.1),wB r.2]))
def Za7u:=fun a0 a1=>Zatw.run (Zatv a0 a1)
theorem Zm7(a0)(a1){r}(h:Za7u a0 a1=some r):Fn PR 18 [wA (Zo a0),wI a1] (.tup [wA (Zi r.1),wB r.2]):=Zatw.fn h
def Zagd(a0:Za)(a1:Int):LT Empty (Zc×Bool):=
.lb 1002<|.lb 1004<|.call (Zm7 a0 a1) fun x1=>.rt (x1.1,x1.2)
def Zage:LF Empty (Zc×Bool) := .z0 156 [.c 4 52 true 19,.t 5] (fun r=>(.tup [wA (Zi r.1),wB r.2]))
def Zatx:=fun a0 a1=>Zage.run (Zagd a0 a1)
theorem Zacm(a0)(a1){r}(h:Zatx a0 a1=some r):Fn PR 156 [wA (Zo a0),wI a1] (.tup [wA (Zi r.1),wB r.2]):=Zage.fn h
inductive Zqh where
 | L0 (v0:List Int) (v1:Int) (v5:Int) (v6:Int)
def Zagf(v0:List Int)(v1:Int)(v5:Int)(v6:Int):LT Zqh Int:=
.len (cI .i64) v0<|.br (decide (v6 < (v0.length:Int))) (.idx (cI .i64) v0 v6 fun x3=>.br (x3==v1) (.g0 (.L0 v0 v1 (IntKind.wrap .i64 (v5+1)) (IntKind.wrap .i64 (v6+1))))<|.g0 (.L0 v0 v1 v5 (IntKind.wrap .i64 (v6+1))))<|.rt v5
def Zamv(a0:List Int)(a1:Int):LT Zqh Int:=
.g0 (.L0 a0 a1 0 0)
def Z59:LF Zqh Int := .m0 157 [.t 4] wI fun | .L0 v0 v1 v5 v6=>([1,1,0,1,4],⟨22,[(0,wL (cI .i64) v0),(1,wI v1),(5,wI v5),(6,wI v6)],[]⟩,Zagf v0 v1 v5 v6)
def Za0w:=fun a0 a1=>Z59.run (Zamv a0 a1)
theorem Z1t(a0)(a1){r}(h:Za0w a0 a1=some r):Fn PR 157 [wL (cI .i64) a0,wI a1] (wI r):=Z59.fn h
inductive Zth where
 | L0 (v1:List Int) (v2:Int) (v3:Int) (E0:Za) (v9:Int)
def Zamw(v1:List Int)(v2:Int)(v3:Int)(E0:Za)(v9:Int):LT Zth Bool:=
.len (cI .i64) v1<|.br (decide (v9 < (v1.length:Int))) (.idx (cI .i64) v1 v9 fun x3=>.call (Zacm E0 x3) fun x5=>.lb 1010<|.cs (!x5.2) (.k5 1<|.b8 true<|.b5 true<|.kn [0]<|.rt false)<|.k5 1<|.cs (x5.1.Zone != v2) (.k5 2<|.b8 true<|.kn [0]<|.rt false)<|.k3 2<|.cs (decide (v3>=0)) (.k4 3<|.kg 2<|.kg 3<|.kg 2<|.cs (x5.1.Owner != v3) (.k8 4<|.kn [0]<|.rt false)<|.k4 4<|.ag (cI .i64) x3 0<|.k2 4<|.call (Z1t v1 x3) fun x11=>.k2 4<|.br (x11 != 1) (.rt false)<|.g0 (.L0 v1 v2 v3 E0 (IntKind.wrap .i64 (v9+1))))<|.k4 3<|.kg 2<|.kg 3<|.kg 2<|.b4 false<|.ag (cI .i64) x3 0<|.b2 false<|.call (Z1t v1 x3) fun x16=>.b2 false<|.br (x16 != 1) (.rt false)<|.g0 (.L0 v1 v2 v3 E0 (IntKind.wrap .i64 (v9+1))))<|.rt true
def Zaty(a0:Za)(a1:List Int)(a2:Int)(a3:Int):LT Zth Bool:=
.lb 1004<|.go (.L0 a1 a2 a3 a0 0) [.relab 1004 3000]
def Zaay:LF Zth Bool := .m0 103 [.t 8] wB fun | .L0 v1 v2 v3 E0 v9=>([1,0,1,4],⟨54,[(1,wL (cI .i64) v1),(2,wI v2),(3,wI v3),(4,.bptr 3000 0),(9,wI v9)],[(3000,.box (bx (Zo E0)))]⟩,Zamw v1 v2 v3 E0 v9)
def Za7v:=fun a0 a1 a2 a3=>Zaay.run (Zaty a0 a1 a2 a3)
theorem Zqi(a0)(a1)(a2)(a3){r}(h:Za7v a0 a1 a2 a3=some r):Fn PR 103 [wA (Zo a0),wL (cI .i64) a1,wI a2,wI a3] (wB r):=Zaay.fn h
inductive Zmf where
 | L0 (E0:Za) (v3:Int)
def Z72(E0:Za)(v3:Int):LT Zmf Bool:=
.len Zq E0.Players<|.br (decide (v3 < (E0.Players.length:Int))) (.idx Zq E0.Players v3 fun x3=>.lb 1004<|.call (Zfl x3.Life (-1000000) 1000000) fun x5=>.cs (!x5) (.k5 1<|.b8 true<|.b2 true<|.kn [0]<|.rt false)<|.k3 1<|.call (Zfl x3.Venom 0 1000000) fun x8=>.k2 1<|.cs (!x8) (.k5 2<|.b5 true<|.kn [0]<|.rt false)<|.k3 2<|.call (Zfl x3.Lands 0 1000000) fun x11=>.k2 2<|.cs (!x11) (.k5 3<|.kn [0]<|.rt false)<|.k3 3<|.call (Za7t x3.Pool) fun x14=>.k2 3<|.br (!x14) (.rt false)<|.call (Zqi E0 x3.Library 2 v3) fun x17=>.cs (!x17) (.k5 5<|.k2 5<|.b5 true<|.b2 true<|.kn [0]<|.rt false)<|.k5 5<|.call (Zqi E0 x3.Hand 1 v3) fun x20=>.k2 5<|.cs (!x20) (.k5 6<|.k2 6<|.kn [0]<|.rt false)<|.k5 6<|.call (Zqi E0 x3.Graveyard 3 v3) fun x23=>.k2 6<|.br (!x23) (.rt false)<|.g0 (.L0 E0 (IntKind.wrap .i64 (v3+1))))<|.call (Zqi E0 E0.Battlefield 0 (-1)) fun x28=>.cs x28 (.k4 1<|.call (Zqi E0 E0.Exile 4 (-1)) fun x31=>.kg 1<|.rt x31)<|.k5 1<|.rt false
def Zacn(a0:Za):LT Zmf Bool:=
.lb 1001<|.len Zq a0.Players<|.call (Zfl (a0.Players.length:Int) 2 4) fun x2=>.br (!x2) (.rt false)<|.go (.L0 a0 0) [.relab 1001 3000]
def Zyr:LF Zmf Bool := .m0 55 [.t 2] wB fun | .L0 E0 v3=>([1,1,0,1,4],⟨76,[(1,.bptr 3000 0),(3,wI v3)],[(3000,.box (bx (Zo E0)))]⟩,Z72 E0 v3)
def Zamx:=fun a0=>Zyr.run (Zacn a0)
theorem Zayb(a0){r}(h:Zamx a0=some r):Fn PR 55 [wA (Zo a0)] (wB r):=Zyr.fn h
def Zagg(a0:Za)(a1:Int):LT Empty Bool:=
.lb 1002<|.len Zq a0.Players<|.call (Zfl a1 0 (IntKind.wrap .i64 ((a0.Players.length:Int) - 1))) fun x4=>.rt x4
def Zagh:LF Empty Bool := .z0 56 [.t 4] wB
def Zatz:=fun a0 a1=>Zagh.run (Zagg a0 a1)
theorem Zid(a0)(a1){r}(h:Zatz a0 a1=some r):Fn PR 56 [wA (Zo a0),wI a1] (wB r):=Zagh.fn h
inductive Z1u where
 | L0 (E0:A3 Int) (v3:Int)
def Za0x(E0:A3 Int)(v3:Int):LT Z1u Bool:=
.br (decide (v3 < 3)) (.idA (Zn.int .i64) (A3.list E0) v3 (bx ((cA3 (cI .i64)) E0)) 0 3 fun x2=>.ldC (Zn.int .i64) 10 x2 0<|.cs (decide (x2 < 0)) (.k5 1<|.kn [0]<|.rt false)<|.k2 1<|.idA (Zn.int .i64) (A3.list E0) v3 (bx ((cA3 (cI .i64)) E0)) 0 3 fun x5=>.kg 1<|.ldC (Zn.int .i64) 15 x5 1<|.k2 1<|.br (decide (x5 > 1000000)) (.rt false)<|.g0 (.L0 E0 (IntKind.wrap .i64 (v3+1))))<|.rt true
def Za7w(a0:A3 Int):LT Z1u Bool:=
.lb 1001<|.go (.L0 a0 0) [.relab 1001 3000]
def Zaps:LF Z1u Bool := .m0 158 [.t 2] wB fun | .L0 E0 v3=>([1,0,1,4],⟨18,[(1,.bptr 3000 0),(3,wI v3)],[(3000,.box (bx ((cA3 (cI .i64)) E0)))]⟩,Za0x E0 v3)
def Zbiu:=fun a0=>Zaps.run (Za7w a0)
theorem Zbiv(a0){r}(h:Zbiu a0=some r):Fn PR 158 [wA ((cA3 (cI .i64)) a0)] (wB r):=Zaps.fn h
def Zat0(a0:Zc):LT Empty Zc:=
.lb 1001<|.lb 1002<|.rt (⟨a0.Id,a0.Card,a0.Owner,a0.Control,a0.Zone,a0.Token,a0.Tapped,a0.Sick,a0.Deadly,a0.Damage,a0.Counters,a0.Stamp,a0.Copy,-1,false,0,a0.Shield⟩:Zc)
def Zat1:LF Empty Zc := .z0 159 [.c 2 52 true 19] (fun r=>(wA (Zi r)))
def Za7x:=fun a0=>Zat1.run (Zat0 a0)
theorem Zbbg(a0){r}(h:Za7x a0=some r):Fn PR 159 [wA (Zi a0)] (wA (Zi r)):=Zat1.fn h
def Zamy(a0:Zc):LT Empty Zc:=
.lb 1001<|.lb 1002<|.rt (⟨a0.Id,a0.Card,a0.Owner,a0.Control,a0.Zone,a0.Token,a0.Tapped,a0.Sick,false,0,a0.Counters,a0.Stamp,a0.Copy,a0.Attack,a0.Blocked,a0.Blocks,0⟩:Zc)
def Zamz:LF Empty Zc := .z0 160 [.c 2 52 true 19] (fun r=>(wA (Zi r)))
def Za0y:=fun a0=>Zamz.run (Zamy a0)
theorem Za7y(a0){r}(h:Za0y a0=some r):Fn PR 160 [wA (Zi a0)] (wA (Zi r)):=Zamz.fn h
def Za7z(a0:Zc)(a1:Int)(a2:Int):LT Empty Bool:=
.lb 1003<|.cs (decide (a0.Id < 1)) (.k4 0<|.b16 true<|.b8 true<|.b5 true<|.b2 true<|.kn [0]<|.rt false)<|.k4 0<|.cs (decide (a0.Card < 0)) (.k5 1<|.b16 true<|.b8 true<|.b2 true<|.kn [0]<|.rt false)<|.k5 1<|.cs (decide (a0.Card>=a1)) (.k4 2<|.b16 true<|.b5 true<|.kb true<|.kn [0]<|.rt false)<|.k4 2<|.cs (decide (a0.Owner < 0)) (.k5 3<|.b16 true<|.kb true<|.kn [0]<|.rt false)<|.k5 3<|.cs (decide (a0.Owner>=a2)) (.k4 4<|.b8 true<|.b5 true<|.kn [0]<|.rt false)<|.k4 4<|.cs (decide (a0.Control < 0)) (.k5 5<|.b8 true<|.kn [0]<|.rt false)<|.k5 5<|.cs (decide (a0.Control>=a2)) (.k4 6<|.b4 true<|.kn [0]<|.rt false)<|.k4 6<|.cs (decide (a0.Zone < 0)) (.k4 7<|.kn [0]<|.rt false)<|.k4 7<|.br (decide (a0.Zone > 5)) (.rt false)<|.cs (decide (a0.Damage < 0)) (.k4 9<|.b16 true<|.b8 true<|.kn [0]<|.rt false)<|.k4 9<|.cs (decide (a0.Damage > 1000000)) (.k4 10<|.b16 true<|.b4 true<|.kn [0]<|.rt false)<|.k4 10<|.cs (decide (a0.Stamp < 0)) (.k4 11<|.b16 true<|.kn [0]<|.rt false)<|.k4 11<|.cs (decide (a0.Stamp > 1000000)) (.k4 12<|.b8 true<|.b4 true<|.kn [0]<|.rt false)<|.k4 12<|.cs (decide (a0.Blocks < 0)) (.k4 13<|.b8 true<|.kn [0]<|.rt false)<|.k4 13<|.cs (decide (a0.Blocks > 1000000)) (.k4 14<|.b4 true<|.kn [0]<|.rt false)<|.k4 14<|.cs (decide (a0.Shield < 0)) (.k4 15<|.kn [0]<|.rt false)<|.k4 15<|.br (decide (a0.Shield > 1000000)) (.rt false)<|.call (Zbiv a0.Counters) fun x18=>.cs (!x18) (.k4 17<|.b8 true<|.b5 true<|.kb true<|.kn [0]<|.rt false)<|.k4 17<|.cs (decide (a0.Copy < (-1))) (.k5 18<|.b8 true<|.kb true<|.kn [0]<|.rt false)<|.k5 18<|.cs (decide (a0.Copy>=a1)) (.k4 19<|.b5 true<|.kn [0]<|.rt false)<|.k4 19<|.cs (decide (a0.Attack < (-1))) (.k5 20<|.kn [0]<|.rt false)<|.k5 20<|.br (decide (a0.Attack>=a2)) (.rt false)<|.cs (a0.Zone==0) (.k8 22<|.k5 22<|.rt true)<|.k3 22<|.call (Zbbg a0) fun x26=>.k2 22<|.cs (Zah (Zi a0) (Zi x26)) (.k3 23<|.call (Za7y a0) fun x29=>.kg 23<|.kg 22<|.kg 23<|.kg 22<|.cs (Zah (Zi a0) (Zi x29)) (.k3 24<|.kg 22<|.kg 24<|.kg 22<|.cs (!a0.Tapped) (.k3 25<|.kg 22<|.kg 25<|.kg 22<|.cs (!a0.Sick) (.k4 26<|.kg 22<|.kg 26<|.kg 22<|.rt (Zah ((cA3 (cI .i64)) a0.Counters) ((cA3 (cI .i64)) (⟨0,0,0⟩:A3 Int))))<|.k4 26<|.kg 22<|.kg 26<|.kg 22<|.rt false)<|.k3 25<|.kg 22<|.kg 25<|.kg 22<|.b4 false<|.kg 22<|.kb false<|.kg 22<|.rt false)<|.k3 24<|.kg 22<|.kg 24<|.kg 22<|.b3 false<|.kg 22<|.kb false<|.kg 22<|.b4 false<|.kg 22<|.kb false<|.kg 22<|.rt false)<|.k4 23<|.kg 22<|.kg 23<|.kg 22<|.b3 false<|.kg 22<|.kb false<|.kg 22<|.b3 false<|.kg 22<|.kb false<|.kg 22<|.b4 false<|.kg 22<|.kb false<|.kg 22<|.rt false
def Za70:LF Empty Bool := .z0 104 [.t 6] wB
def Zbiw:=fun a0 a1 a2=>Za70.run (Za7z a0 a1 a2)
theorem Zbix(a0)(a1)(a2){r}(h:Zbiw a0 a1 a2=some r):Fn PR 104 [wA (Zi a0),wI a1,wI a2] (wB r):=Za70.fn h
inductive Zof where
 | L0 (v1:Int) (E0:Za) (v5:Int) (v6:Int)
def Zaco(v1:Int)(E0:Za)(v5:Int)(v6:Int):LT Zof Int:=
.len Z3 E0.Stack<|.br (decide (v6 < (E0.Stack.length:Int))) (.idx Z3 E0.Stack v6 fun x3=>.cs (x3.Kind==1) (.k4 1<|.ag Z3 x3 0<|.k5 1<|.br (x3.Id==v1) (.g0 (.L0 v1 E0 (IntKind.wrap .i64 (v5+1)) (IntKind.wrap .i64 (v6+1))))<|.g0 (.L0 v1 E0 v5 (IntKind.wrap .i64 (v6+1))))<|.k8 1<|.kg 1<|.kn [0]<|.g0 (.L0 v1 E0 v5 (IntKind.wrap .i64 (v6+1))))<|.rt v5
def Zagi(a0:Za)(a1:Int):LT Zof Int:=
.lb 1002<|.go (.L0 a1 a0 0 0) [.relab 1002 3000]
def Z1v:LF Zof Int := .m0 161 [.t 4] wI fun | .L0 v1 E0 v5 v6=>([1,1,0,1,4],⟨34,[(1,wI v1),(2,.bptr 3000 0),(5,wI v5),(6,wI v6)],[(3000,.box (bx (Zo E0)))]⟩,Zaco v1 E0 v5 v6)
def Zat2:=fun a0 a1=>Z1v.run (Zagi a0 a1)
theorem Za2o(a0)(a1){r}(h:Zat2 a0 a1=some r):Fn PR 161 [wA (Zo a0),wI a1] (wI r):=Z1v.fn h
def Zat3(a0:List Int):LT Empty (List Int):=
.lb 1003<|.apR (cI .i64) 8 ([]:List Int) a0 fun x1=>.ret x1 [.relab 1003 5000]
def Zat4:LF Empty (List Int) := .z 143 [.t 2] true (fun r=>[(5000,wR (cI .i64) 1 r)]) (fun r=>(wO (cI .i64) 5000 r))
def Zapt:=fun a0=>Zat4.run (Zat3 a0)
theorem Zgo(a0){r}(h:Zapt a0=some r):FnG PR 143 [] [wL (cI .i64) a0] [(5000,wR (cI .i64) 1 r)] (wO (cI .i64) 5000 r):=Zat4.fn h
theorem Zwq(a0:List Int){r:List Int}(h:Zapt a0=some r):Fn PR 143 [wL (cI .i64) a0] (wL (cI .i64) r):=
 FnG.frozen (C:=LT.RL (cI .i64) r/\True) (Zgo a0 h) ⟨rfl,trivial⟩ (by kernel_rfl)
def Zat5(a0:Za)(a1:Int)(a2:Int):LT Empty (List Int):=
.lb 1003<|.br (a1==0) (.callF (Zgo a0.Battlefield) 130000 fun x2=>.ret x2 [.relab 135000 5000])<|.br (a1==4) (.callF (Zgo a0.Exile) 180000 fun x5=>.ret x5 [.relab 185000 5000])<|.cs (decide (a2 < 0)) (.k5 2<|.kg 2<|.kn [0]<|.ret ([]:List Int) [.own 6 5000 1])<|.k4 2<|.len Zq a0.Players<|.k2 2<|.br (decide (a2>=(a0.Players.length:Int))) (.ret ([]:List Int) [.own 6 5000 1])<|.br (a1==1) (.idx Zq a0.Players a2 fun x11=>.callF (Zgo x11.Hand) 370000 fun x13=>.ret x13 [.relab 375000 5000])<|.br (a1==2) (.idx Zq a0.Players a2 fun x16=>.callF (Zgo x16.Library) 460000 fun x18=>.ret x18 [.relab 465000 5000])<|.br (a1==3) (.idx Zq a0.Players a2 fun x21=>.callF (Zgo x21.Graveyard) 550000 fun x23=>.ret x23 [.relab 555000 5000])<|.ret ([]:List Int) [.own 6 5000 1]
def Zat6:LF Empty (List Int) := .z 162 [.t 6] true (fun r=>[(5000,wR (cI .i64) 1 r)]) (fun r=>(wO (cI .i64) 5000 r))
def Zapu:=fun a0 a1 a2=>Zat6.run (Zat5 a0 a1 a2)
theorem Za71(a0)(a1)(a2){r}(h:Zapu a0 a1 a2=some r):FnG PR 162 [] [wA (Zo a0),wI a1,wI a2] [(5000,wR (cI .i64) 1 r)] (wO (cI .i64) 5000 r):=Zat6.fn h
theorem Zbbh(a0:Za)(a1:Int)(a2:Int){r:List Int}(h:Zapu a0 a1 a2=some r):Fn PR 162 [wA (Zo a0),wI a1,wI a2] (wL (cI .i64) r):=
 FnG.frozen (C:=LT.RL (cI .i64) r/\True) (Za71 a0 a1 a2 h) ⟨rfl,trivial⟩ (by kernel_rfl)
def Zagj(a0:Za)(a1:Zc):LT Empty Bool:=
.lb 1002<|.lb 1003<|.br (a1.Zone==5) (.call (Za2o a0 a1.Id) fun x2=>.rt (x2==1))<|.call (Zbbh a0 a1.Zone a1.Owner) fun x4=>.call (Z1t x4 a1.Id) fun x6=>.rt (x6==1)
def Zagk:LF Empty Bool := .z0 105 [.t 4] wB
def Zat7:=fun a0 a1=>Zagk.run (Zagj a0 a1)
theorem Zacp(a0)(a1){r}(h:Zat7 a0 a1=some r):Fn PR 105 [wA (Zo a0),wA (Zi a1)] (wB r):=Zagk.fn h
inductive Zmg where
 | L0 (v0:List Zg) (E0:Za) (v5:Int)
def Z73(v0:List Zg)(E0:Za)(v5:Int):LT Zmg Bool:=
.len Zi E0.Objects<|.br (decide (v5 < (E0.Objects.length:Int))) (.idx Zi E0.Objects v5 fun x3=>.lb 1006<|.len Zs v0<|.len Zq E0.Players<|.call (Zbix x3 (v0.length:Int) (E0.Players.length:Int)) fun x7=>.cs (!x7) (.k5 1<|.kg 1<|.b8 true<|.b3 true<|.kn [0]<|.rt false)<|.k5 1<|.kg 1<|.cs (decide (x3.Id>=E0.NextId)) (.k5 2<|.kg 2<|.b5 true<|.kn [0]<|.rt false)<|.k5 2<|.kg 2<|.cs (decide (x3.Stamp>=E0.NextStamp)) (.k5 3<|.kn [0]<|.rt false)<|.k3 3<|.cs (decide (v5 > 0)) (.k5 4<|.idx Zi E0.Objects (IntKind.wrap .i64 (v5 - 1)) fun x15=>.k5 4<|.kg 3<|.kg 4<|.kg 3<|.br (decide (x15.Id>=x3.Id)) (.rt false)<|.call (Zacp E0 x3) fun x18=>.br (!x18) (.rt false)<|.g0 (.L0 v0 E0 (IntKind.wrap .i64 (v5+1))))<|.k8 4<|.k2 4<|.kg 3<|.kg 4<|.kg 3<|.kn [0]<|.call (Zacp E0 x3) fun x23=>.br (!x23) (.rt false)<|.g0 (.L0 v0 E0 (IntKind.wrap .i64 (v5+1))))<|.rt true
def Zacq(a0:List Zg)(a1:Za):LT Zmg Bool:=
.lb 1003<|.len Zi a1.Objects<|.br (decide ((a1.Objects.length:Int) > 2048)) (.rt false)<|.go (.L0 a0 a1 0) [.relab 1003 3000]
def Zys:LF Zmg Bool := .m0 57 [.t 4] wB fun | .L0 v0 E0 v5=>([1,1,0,1,4],⟨65,[(0,wL Zs v0),(3,.bptr 3000 0),(5,wI v5)],[(3000,.box (bx (Zo E0)))]⟩,Z73 v0 E0 v5)
def Zam0:=fun a0 a1=>Zys.run (Zacq a0 a1)
theorem Zpg(a0)(a1){r}(h:Zam0 a0 a1=some r):Fn PR 57 [wL Zs a0,wA (Zo a1)] (wB r):=Zys.fn h
inductive Zkr where
 | L0 (v0:List Zv) (v1:List Zv) (v5:Int)
def Z4l(v0:List Zv)(v1:List Zv)(v5:Int):LT Zkr Bool:=
.len Zu v0<|.br (decide (v5 < (v0.length:Int))) (.idx Zu v0 v5 fun x3=>.idx Zu v1 v5 fun x5=>.br (!(Zah (Zu x3) (Zu x5))) (.rt false)<|.g0 (.L0 v0 v1 (IntKind.wrap .i64 (v5+1))))<|.rt true
def Z74(a0:List Zv)(a1:List Zv):LT Zkr Bool:=
.len Zu a0<|.len Zu a1<|.br ((a0.length:Int) != (a1.length:Int)) (.rt false)<|.g0 (.L0 a0 a1 0)
def Zvl:LF Zkr Bool := .m0 184 [.t 4] wB fun | .L0 v0 v1 v5=>([1,1,0,1,4],⟨26,[(0,wL Zu v0),(1,wL Zu v1),(5,wI v5)],[]⟩,Z4l v0 v1 v5)
def Zagl:=fun a0 a1=>Zvl.run (Z74 a0 a1)
theorem Z4m(a0)(a1){r}(h:Zagl a0 a1=some r):Fn PR 184 [wL Zu a0,wL Zu a1] (wB r):=Zvl.fn h
def Zat8(a0:Z6)(a1:Z6):LT Empty Bool:=
.lb 1002<|.lb 1003<|.cs (a0.Op==a1.Op) (.k5 0<|.kg 0<|.cs (Zah (Zet a0.Ref) (Zet a1.Ref)) (.k5 1<|.kg 1<|.cs (Zah (Za5 a0.Amount) (Za5 a1.Amount)) (.k5 2<|.kg 2<|.cs (a0.Counter==a1.Counter) (.k5 3<|.kg 3<|.cs (a0.Zone==a1.Zone) (.k5 4<|.kg 4<|.cs (a0.Card==a1.Card) (.k5 5<|.kg 5<|.cs (Zah (Z0 a0.Filter) (Z0 a1.Filter)) (.k5 6<|.kg 6<|.cs (Zah ((cA6 (cI .i64)) a0.Pool) ((cA6 (cI .i64)) a1.Pool)) (.k5 7<|.call (Z4m a0.Mods a1.Mods) fun x9=>.kg 7<|.rt x9)<|.k5 7<|.kg 7<|.rt false)<|.k5 6<|.kg 6<|.b5 false<|.kb false<|.rt false)<|.k5 5<|.kg 5<|.b8 false<|.b4 false<|.rt false)<|.k5 4<|.kg 4<|.b16 false<|.b2 false<|.rt false)<|.k5 3<|.kg 3<|.b16 false<|.b8 false<|.rt false)<|.k5 2<|.kg 2<|.b16 false<|.b8 false<|.b5 false<|.kb false<|.rt false)<|.k5 1<|.kg 1<|.b16 false<|.b16 false<|.b4 false<|.rt false)<|.k5 0<|.kg 0<|.b16 false<|.b16 false<|.b8 false<|.b2 false<|.rt false
def Zat9:LF Empty Bool := .z0 228 [.t 4] wB
def Za72:=fun a0 a1=>Zat9.run (Zat8 a0 a1)
theorem Zbbi(a0)(a1){r}(h:Za72 a0 a1=some r):Fn PR 228 [wA (Zz a0),wA (Zz a1)] (wB r):=Zat9.fn h
inductive Zks where
 | L0 (v0:List Z6) (v1:List Z6) (v5:Int)
def Z4n(v0:List Z6)(v1:List Z6)(v5:Int):LT Zks Bool:=
.len Zz v0<|.br (decide (v5 < (v0.length:Int))) (.idx Zz v0 v5 fun x3=>.idx Zz v1 v5 fun x5=>.call (Zbbi x3 x5) fun x7=>.br (!x7) (.rt false)<|.g0 (.L0 v0 v1 (IntKind.wrap .i64 (v5+1))))<|.rt true
def Z75(a0:List Z6)(a1:List Z6):LT Zks Bool:=
.len Zz a0<|.len Zz a1<|.br ((a0.length:Int) != (a1.length:Int)) (.rt false)<|.g0 (.L0 a0 a1 0)
def Zvm:LF Zks Bool := .m0 185 [.t 4] wB fun | .L0 v0 v1 v5=>([1,1,0,1,4],⟨27,[(0,wL Zz v0),(1,wL Zz v1),(5,wI v5)],[]⟩,Z4n v0 v1 v5)
def Zagm:=fun a0 a1=>Zvm.run (Z75 a0 a1)
theorem Zaua(a0)(a1){r}(h:Zagm a0 a1=some r):Fn PR 185 [wL Zz a0,wL Zz a1] (wB r):=Zvm.fn h
inductive Zti where
 | L0 (E0:Zh) (E1:Zh) (v5:Int)
def Zam1(E0:Zh)(E1:Zh)(v5:Int):LT Zti Bool:=
.len Zao E0.Specs<|.br (decide (v5 < (E0.Specs.length:Int))) (.idx Zao E0.Specs v5 fun x3=>.idx Zao E1.Specs v5 fun x5=>.br (!(Zah (Zao x3) (Zao x5))) (.rt false)<|.g0 (.L0 E0 E1 (IntKind.wrap .i64 (v5+1))))<|.cs (E0.Kind==E1.Kind) (.k5 1<|.kg 1<|.cs (Zah (Z0 E0.Filter) (Z0 E1.Filter)) (.k5 2<|.call (Z4m E0.Mods E1.Mods) fun x12=>.kg 2<|.cs x12 (.k5 3<|.kg 3<|.cs (Zah (Ze4 E0.Price) (Ze4 E1.Price)) (.k5 4<|.kg 4<|.cs (E0.Slow==E1.Slow) (.k5 5<|.kg 5<|.cs (Zah (Zdb E0.Trigger) (Zdb E1.Trigger)) (.k5 6<|.kg 6<|.cs (E0.May==E1.May) (.k5 7<|.call (Zaua E0.Effects E1.Effects) fun x19=>.kg 7<|.cs x19 (.k5 8<|.kg 8<|.rt (Zah (Zat E0.Replace) (Zat E1.Replace)))<|.k5 8<|.kg 8<|.rt false)<|.k5 7<|.kg 7<|.b5 false<|.kb false<|.rt false)<|.k5 6<|.kg 6<|.b8 false<|.b4 false<|.rt false)<|.k5 5<|.kg 5<|.b16 false<|.b2 false<|.rt false)<|.k5 4<|.kg 4<|.b16 false<|.b8 false<|.rt false)<|.k5 3<|.kg 3<|.b16 false<|.b8 false<|.b5 false<|.kb false<|.rt false)<|.k5 2<|.kg 2<|.b16 false<|.b16 false<|.b4 false<|.rt false)<|.k5 1<|.kg 1<|.b16 false<|.b16 false<|.b8 false<|.b2 false<|.rt false
def Zaub(a0:Zh)(a1:Zh):LT Zti Bool:=
.lb 1002<|.lb 1003<|.len Zao a0.Specs<|.len Zao a1.Specs<|.br ((a0.Specs.length:Int) != (a1.Specs.length:Int)) (.rt false)<|.go (.L0 a0 a1 0) [.relab 1002 3000,.relab 1003 3001]
def Zaaz:LF Zti Bool := .m0 145 [.t 4] wB fun | .L0 E0 E1 v5=>([1,1,0,1,4],⟨92,[(2,.bptr 3000 0),(3,.bptr 3001 0),(5,wI v5)],[(3000,.box (bx (Zr E0))),(3001,.box (bx (Zr E1)))]⟩,Zam1 E0 E1 v5)
def Za73:=fun a0 a1=>Zaaz.run (Zaub a0 a1)
theorem Z6a(a0)(a1){r}(h:Za73 a0 a1=some r):Fn PR 145 [wA (Zr a0),wA (Zr a1)] (wB r):=Zaaz.fn h
def Zauc(a0:Za)(a1:Zai):LT Empty Bool:=
.lb 1002<|.lb 1003<|.call (Zfl a1.Id 1 (IntKind.wrap .i64 (a0.NextId - 1))) fun x3=>.cs (!x3) (.k5 0<|.b8 true<|.b3 true<|.kn [0]<|.rt false)<|.k3 0<|.call (Zfl a1.X 0 1000000) fun x6=>.k2 0<|.cs (!x6) (.k5 1<|.b5 true<|.kb true<|.kn [0]<|.rt false)<|.k3 1<|.len Zar a1.Targets<|.k2 1<|.cs (decide ((a1.Targets.length:Int) > 4)) (.k5 2<|.kg 2<|.kn [0]<|.rt false)<|.k4 2<|.call (Zid a0 a1.Control) fun x11=>.k2 2<|.br (!x11) (.rt false)<|.call (Zacm a0 a1.Id) fun x14=>.lb 1005<|.br (a1.Kind==1) (.call (Z6a a1.Ability (⟨0,(⟨0,0,0,0,0,0,0,([]:By),0,0,(⟨0,0⟩:Zj),(⟨0,0⟩:Zj),(⟨0,0⟩:Zj)⟩:Zm),([]:List Zv),(⟨(⟨0,0,(⟨0,0,0,0,0⟩:A5 Int)⟩:Z2),false,false,0⟩:Ze0),false,(⟨0,0,(⟨0,0,0,0,0,0,0,([]:By),0,0,(⟨0,0⟩:Zj),(⟨0,0⟩:Zj),(⟨0,0⟩:Zj)⟩:Zm)⟩:Zb4),false,([]:List Za9),([]:List Z6),(⟨0,0,(⟨0,0,0,0,0,0,0,([]:By),0,0,(⟨0,0⟩:Zj),(⟨0,0⟩:Zj),(⟨0,0⟩:Zj)⟩:Zm),0,0,0,0⟩:Z4)⟩:Zh)) fun x17=>.cs (a1.Source==a1.Id) (.k2 5<|.cs x14.2 (.k4 6<|.cs (x14.1.Zone==5) (.k2 7<|.cs x17 (.k3 8<|.kg 7<|.kg 8<|.kg 7<|.rt true)<|.k3 8<|.call (Z4k a1.Ability) fun x23=>.kg 7<|.kg 8<|.kg 7<|.rt x23)<|.k4 7<|.rt false)<|.k4 6<|.b4 false<|.rt false)<|.k2 5<|.b8 false<|.rt false)<|.cs (a1.Kind==2) (.k3 5<|.cs (!x14.2) (.k3 6<|.call (Z4k a1.Ability) fun x27=>.kg 6<|.rt x27)<|.k4 6<|.rt false)<|.k3 5<|.b4 false<|.rt false
def Zaud:LF Empty Bool := .z0 106 [.t 4] wB
def Za74:=fun a0 a1=>Zaud.run (Zauc a0 a1)
theorem Zbbj(a0)(a1){r}(h:Za74 a0 a1=some r):Fn PR 106 [wA (Zo a0),wA (Z3 a1)] (wB r):=Zaud.fn h
inductive Z1w where
 | L0 (v0:List Int) (v3:Int)
def Za0z(v0:List Int)(v3:Int):LT Z1w Bool:=
.len (cI .i64) v0<|.br (decide (v3 < (v0.length:Int))) (.idx (cI .i64) v0 (IntKind.wrap .i64 (v3 - 1)) fun x5=>.idx (cI .i64) v0 v3 fun x7=>.br (decide (x5>=x7)) (.rt false)<|.g0 (.L0 v0 (IntKind.wrap .i64 (v3+1))))<|.rt true
def Za75(a0:List Int):LT Z1w Bool:=
.g0 (.L0 a0 1)
def Zapv:LF Z1w Bool := .m0 107 [.t 2] wB fun | .L0 v0 v3=>([1,0,1,4],⟨20,[(0,wL (cI .i64) v0),(3,wI v3)],[]⟩,Za0z v0 v3)
def Zbiy:=fun a0=>Zapv.run (Za75 a0)
theorem Zbiz(a0){r}(h:Zbiy a0=some r):Fn PR 107 [wL (cI .i64) a0] (wB r):=Zapv.fn h
inductive Zi1 where
 | L0 (E0:Za) (v3:Int)
 | L1 (E0:Za) (v3:Int) (v4:Int)
 | L2 (E0:Za) (v5:Int)
 | L3 (E0:Za) (v7:Int)
def Zagn(E0:Za)(v3:Int):LT Zi1 Bool:=
.len Z3 E0.Stack<|.br (decide (v3 < (E0.Stack.length:Int))) (.idx Z3 E0.Stack v3 fun x3=>.call (Zbbj E0 x3) fun x5=>.br (!x5) (.rt false)<|.g0 (.L1 E0 v3 0))<|.g0 (.L2 E0 0)
def Zago(E0:Za)(v3:Int)(v4:Int):LT Zi1 Bool:=
.br (decide (v4 < v3)) (.idx Z3 E0.Stack v4 fun x2=>.idx Z3 E0.Stack v3 fun x4=>.br (x2.Id==x4.Id) (.rt false)<|.g0 (.L1 E0 v3 (IntKind.wrap .i64 (v4+1))))<|.g0 (.L0 E0 (IntKind.wrap .i64 (v3+1)))
def Zagp(E0:Za)(v5:Int):LT Zi1 Bool:=
.len Zx E0.Waiting<|.br (decide (v5 < (E0.Waiting.length:Int))) (.idx Zx E0.Waiting v5 fun x3=>.lb 1006<|.call (Zid E0 x3.Control) fun x5=>.cs (!x5) (.k5 1<|.b5 true<|.kn [0]<|.rt false)<|.k5 1<|.cs (x3.Ability.Kind != 4) (.k5 2<|.kn [0]<|.rt false)<|.k3 2<|.call (Z4k x3.Ability) fun x9=>.k2 2<|.br (!x9) (.rt false)<|.g0 (.L2 E0 (IntKind.wrap .i64 (v5+1))))<|.g0 (.L3 E0 0)
def Zagq(E0:Za)(v7:Int):LT Zi1 Bool:=
.len Z7 E0.Conts<|.br (decide (v7 < (E0.Conts.length:Int))) (.idx Z7 E0.Conts v7 fun x3=>.lb 1008<|.call (Zid E0 x3.Control) fun x5=>.cs (!x5) (.k5 1<|.kg 1<|.b8 true<|.b5 true<|.b2 true<|.kn [0]<|.rt false)<|.k5 1<|.kg 1<|.cs (decide (x3.Stamp>=E0.NextStamp)) (.k5 2<|.b8 true<|.b2 true<|.kn [0]<|.rt false)<|.k3 2<|.call (Zfl x3.Until 1 2) fun x9=>.k2 2<|.cs (!x9) (.k5 3<|.b5 true<|.kn [0]<|.rt false)<|.k3 3<|.call (Zbiz x3.Objects) fun x12=>.k2 3<|.cs (!x12) (.k5 4<|.kn [0]<|.rt false)<|.k3 4<|.call (Ztc x3.Mods) fun x15=>.k2 4<|.br (x15==([]:By)) (.rt false)<|.g0 (.L3 E0 (IntKind.wrap .i64 (v7+1))))<|.rt true
def Zam2(a0:Za):LT Zi1 Bool:=
.lb 1001<|.len Z3 a0.Stack<|.cs (decide ((a0.Stack.length:Int) > 64)) (.k5 0<|.b5 true<|.kn [0]<|.rt false)<|.k3 0<|.len Zx a0.Waiting<|.k2 0<|.cs (decide ((a0.Waiting.length:Int) > 64)) (.k5 1<|.kn [0]<|.rt false)<|.k3 1<|.len Z7 a0.Conts<|.k2 1<|.br (decide ((a0.Conts.length:Int) > 64)) (.rt false)<|.go (.L0 a0 0) [.relab 1001 3000]
def Zm8:LF Zi1 Bool := .m0 58 [.t 2] wB fun | .L0 E0 v3=>([1,1,0,1,4],⟨129,[(1,.bptr 3000 0),(3,wI v3)],[(3000,.box (bx (Zo E0)))]⟩,Zagn E0 v3) | .L1 E0 v3 v4=>([1,1,0,1,4,5,1,0,4,1,1,4],⟨129,[(1,.bptr 3000 0),(3,wI v3),(4,wI v4)],[(3000,.box (bx (Zo E0)))]⟩,Zago E0 v3 v4) | .L2 E0 v5=>([1,1,1,0,1,4],⟨129,[(1,.bptr 3000 0),(5,wI v5)],[(3000,.box (bx (Zo E0)))]⟩,Zagp E0 v5) | .L3 E0 v7=>([1,1,1,1,0,1,4],⟨129,[(1,.bptr 3000 0),(7,wI v7)],[(3000,.box (bx (Zo E0)))]⟩,Zagq E0 v7)
def Za00:=fun a0=>Zm8.run (Zam2 a0)
theorem Ztj(a0){r}(h:Za00 a0=some r):Fn PR 58 [wA (Zo a0)] (wB r):=Zm8.fn h
inductive Z1x where
 | L0 (v0:List Zg) (E0:Za) (v5:Int)
def Za01(v0:List Zg)(E0:Za)(v5:Int):LT Z1x Bool:=
.len (cI .i64) E0.Extra<|.br (decide (v5 < (E0.Extra.length:Int))) (.idx (cI .i64) E0.Extra v5 fun x3=>.call (Zid E0 x3) fun x5=>.br (!x5) (.rt false)<|.g0 (.L0 v0 E0 (IntKind.wrap .i64 (v5+1))))<|.cs (E0.Over==1) (.k4 1<|.call (Zid E0 E0.Winner) fun x11=>.k2 1<|.cs (!x11) (.k5 2<|.kg 2<|.kn [0]<|.rt false)<|.k4 2<|.cs (E0.Over != 1) (.k3 3<|.kg 2<|.kg 3<|.kg 2<|.br (E0.Winner != (-1)) (.rt false)<|.call (Zpg v0 E0) fun x16=>.cs x16 (.k2 5<|.call (Ztj E0) fun x19=>.kg 5<|.rt x19)<|.k3 5<|.rt false)<|.k3 3<|.kg 2<|.kg 3<|.kg 2<|.kn [0]<|.call (Zpg v0 E0) fun x21=>.cs x21 (.k2 4<|.call (Ztj E0) fun x24=>.kg 4<|.rt x24)<|.k3 4<|.rt false)<|.k5 1<|.kg 1<|.b4 false<|.cs (E0.Over != 1) (.k3 2<|.kb false<|.kg 2<|.kb false<|.br (E0.Winner != (-1)) (.rt false)<|.call (Zpg v0 E0) fun x28=>.cs x28 (.k2 4<|.call (Ztj E0) fun x31=>.kg 4<|.rt x31)<|.k3 4<|.rt false)<|.k3 2<|.kb false<|.kg 2<|.kb false<|.kn [0]<|.call (Zpg v0 E0) fun x33=>.cs x33 (.k2 3<|.call (Ztj E0) fun x36=>.kg 3<|.rt x36)<|.k3 3<|.rt false
def Za76(a0:List Zg)(a1:Za):LT Z1x Bool:=
.lb 1003<|.call (Zfl a1.NextId 1 1000000) fun x1=>.cs (!x1) (.k5 0<|.b8 true<|.b5 true<|.b2 true<|.kn [0]<|.rt false)<|.k3 0<|.call (Zfl a1.NextStamp 1 1000000) fun x4=>.k2 0<|.cs (!x4) (.k5 1<|.b8 true<|.b2 true<|.kn [0]<|.rt false)<|.k3 1<|.call (Zfl a1.Turn 0 500) fun x7=>.k2 1<|.cs (!x7) (.k5 2<|.b5 true<|.kn [0]<|.rt false)<|.k3 2<|.call (Zfl a1.Step 0 10) fun x10=>.k2 2<|.cs (!x10) (.k5 3<|.kn [0]<|.rt false)<|.k3 3<|.len Zi a1.Objects<|.k2 3<|.br (decide ((a1.Objects.length:Int) > 2048)) (.rt false)<|.call (Zayb a1) fun x15=>.cs (!x15) (.k5 5<|.kg 5<|.b16 true<|.b8 true<|.kn [0]<|.rt false)<|.k4 5<|.call (Zid a1 a1.Active) fun x18=>.k2 5<|.cs (!x18) (.k5 6<|.kg 6<|.b16 true<|.b2 true<|.kn [0]<|.rt false)<|.k4 6<|.call (Zid a1 a1.Priority) fun x21=>.k2 6<|.cs (!x21) (.k8 7<|.b8 true<|.b2 true<|.kn [0]<|.rt false)<|.k5 7<|.len Zq a1.Players<|.kg 7<|.call (Zfl a1.Passes 0 (a1.Players.length:Int)) fun x25=>.k2 7<|.cs (!x25) (.k5 8<|.b5 true<|.kn [0]<|.rt false)<|.k3 8<|.len (cI .i64) a1.Extra<|.k2 8<|.cs (decide ((a1.Extra.length:Int) > 500)) (.k5 9<|.kn [0]<|.rt false)<|.k3 9<|.call (Zfl a1.Over 0 2) fun x30=>.k2 9<|.br (!x30) (.rt false)<|.go (.L0 a0 a1 0) [.relab 1003 3000]
def Zapw:LF Z1x Bool := .m0 20 [.t 4] wB fun | .L0 v0 E0 v5=>([1,1,1,0,1,4],⟨114,[(0,wL Zs v0),(3,.bptr 3000 0),(5,wI v5)],[(3000,.box (bx (Zo E0)))]⟩,Za01 v0 E0 v5)
def Zbi0:=fun a0 a1=>Zapw.run (Za76 a0 a1)
theorem Zbi1(a0)(a1){r}(h:Zbi0 a0 a1=some r):Fn PR 20 [wL Zs a0,wA (Zo a1)] (wB r):=Zapw.fn h
inductive Zqj where
 | L0 (v0:List Zg) (E0:Za) (v5:Int)
def Zagr(v0:List Zg)(E0:Za)(v5:Int):LT Zqj Bool:=
.len Zq E0.Players<|.br (decide (v5 < (E0.Players.length:Int))) (.idx Zq E0.Players v5 fun x3=>.len (cI .i64) x3.Library<|.ag Zq x3 0<|.len (cI .i64) x3.Hand<|.ag Zq x3 0<|.len (cI .i64) x3.Graveyard<|.br (decide ((IntKind.wrap .i64 ((IntKind.wrap .i64 ((x3.Library.length:Int)+(x3.Hand.length:Int)))+(x3.Graveyard.length:Int))) > 60)) (.rt false)<|.g0 (.L0 v0 E0 (IntKind.wrap .i64 (v5+1))))<|.call (Za7q v0) fun x15=>.cs (x15.2==0) (.k3 1<|.call (Zbi1 v0 E0) fun x18=>.kg 1<|.rt x18)<|.k4 1<|.rt false
def Zam3(a0:List Zg)(a1:Za):LT Zqj Bool:=
.lb 1003<|.len Zs a0<|.cs (decide ((a0.length:Int) > 12)) (.k5 0<|.b16 true<|.b16 true<|.b3 true<|.kn [0]<|.rt false)<|.k3 0<|.len Zq a1.Players<|.k2 0<|.cs (decide ((a1.Players.length:Int) > 4)) (.k5 1<|.b16 true<|.b8 true<|.b5 true<|.kb true<|.kn [0]<|.rt false)<|.k3 1<|.len Zi a1.Objects<|.k2 1<|.cs (decide ((a1.Objects.length:Int) > 60)) (.k5 2<|.b16 true<|.b8 true<|.kb true<|.kn [0]<|.rt false)<|.k3 2<|.len (cI .i64) a1.Battlefield<|.k2 2<|.cs (decide ((a1.Battlefield.length:Int) > 60)) (.k5 3<|.b16 true<|.b4 true<|.kn [0]<|.rt false)<|.k3 3<|.len (cI .i64) a1.Exile<|.k2 3<|.cs (decide ((a1.Exile.length:Int) > 60)) (.k5 4<|.b8 true<|.b5 true<|.b2 true<|.kn [0]<|.rt false)<|.k3 4<|.len Z3 a1.Stack<|.k2 4<|.cs (decide ((a1.Stack.length:Int) > 8)) (.k5 5<|.b8 true<|.b2 true<|.kn [0]<|.rt false)<|.k3 5<|.len Zx a1.Waiting<|.k2 5<|.cs (decide ((a1.Waiting.length:Int) > 8)) (.k5 6<|.b5 true<|.kn [0]<|.rt false)<|.k3 6<|.len Z7 a1.Conts<|.k2 6<|.cs (decide ((a1.Conts.length:Int) > 8)) (.k5 7<|.kn [0]<|.rt false)<|.k3 7<|.len (cI .i64) a1.Extra<|.k2 7<|.br (decide ((a1.Extra.length:Int) > 20)) (.rt false)<|.go (.L0 a0 a1 0) [.relab 1003 3000]
def Z6b:LF Zqj Bool := .m0 8 [.t 4] wB fun | .L0 v0 E0 v5=>([1,1,0,1,4],⟨102,[(0,wL Zs v0),(3,.bptr 3000 0),(5,wI v5)],[(3000,.box (bx (Zo E0)))]⟩,Zagr v0 E0 v5)
def Za02:=fun a0 a1=>Z6b.run (Zam3 a0 a1)
theorem Zog(a0)(a1){r}(h:Za02 a0 a1=some r):Fn PR 8 [wL Zs a0,wA (Zo a1)] (wB r):=Z6b.fn h
def Zacr:LT Empty (Za×Ze):=
.lb 1000<|.lb 1001<|.dr [.lit]<|.dr [.lit]<|.dr [.lit]<|.lb 1002<|.rt ((⟨[(⟨20,0,0,(⟨0,0,0,0,0,0⟩:A6 Int),false,false,([]:List Int),([]:List Int),([]:List Int)⟩:Z9),(⟨20,0,0,(⟨0,0,0,0,0,0⟩:A6 Int),false,false,([]:List Int),([]:List Int),([]:List Int)⟩:Z9)],[(⟨1,0,0,0,0,false,false,false,false,0,(⟨0,0,0⟩:A3 Int),0,-1,-1,false,0,2⟩:Zc)],[1],([]:List Int),([]:List Zai),([]:List Zad),([]:List Zap),0,0,0,false,0,0,2,1,0,([]:List Int),0,-1⟩:Za),(⟨1,0,1,0,3,0,0,0,0,0,false,false,(⟨0,0,0⟩:A3 Int)⟩:Ze))
def Zacs:LF Empty (Za×Ze) := .z0 21 [.c 0 31 true 19,.c 1 34 true 15] (fun r=>(.tup [wA (Zo r.1),wA (Zy r.2)]))
def Zam4:=Zacs.run (Zacr)
theorem Zayc{r}(h:Zam4=some r):Fn PR 21 [] (.tup [wA (Zo r.1),wA (Zy r.2)]):=Zacs.fn h
def Za03:LT Empty (List Zg):=
.lb 1003<|.ret [(⟨([111,97,107]:By),false,(⟨0,0,(⟨0,0,0,0,0⟩:A5 Int)⟩:Z2),0,(⟨0,8,([]:Bys)⟩:Zaf),0,0,0,([]:List Zh)⟩:Zg)] [.relab 1003 5000]
def Za04:LF Empty (List Zg) := .z 22 [.t 0] true (fun r=>[(5000,wR Zs 17 r)]) (fun r=>(wO Zs 5000 r))
def Zayd:=Za04.run (Za03)
theorem Zbbk{r}(h:Zayd=some r):FnG PR 22 [] [] [(5000,wR Zs 17 r)] (wO Zs 5000 r):=Za04.fn h
theorem Ztk{r:List Zg}(h:Zayd=some r):Fn PR 22 [] (wL Zs r):=
 FnG.frozen (C:=LT.RL Zs r/\True) (Zbbk h) ⟨rfl,trivial⟩ (by kernel_rfl)
def Zu0(a0:Zc)(b0:Int):LT Empty Bool:=
.lb 1002<|.rt (a0.Id==b0)
def Zu1(b0:Int):LF Empty Bool := .z 140 [.t 3] true (fun r=>[(0,.box (bx ((cI .i64) b0)))]) (fun r=>(wB r))
def Zz7(a0:Zc)(b0:Int):Option Bool:=(Zu1 b0).run (Zu0 a0 b0)
theorem Z76(a0:Zc)(b0:Int){r:Bool}(h:Zz7 a0 b0=some r):FnG PR 140 [(0,.box (bx ((cI .i64) b0)))] [wA (Zi a0),.bptr 0 0] [(0,.box (bx ((cI .i64) b0)))] (wB r):=(Zu1 b0).fn h
inductive Za4 where
 | L0 (v0:List Zc) (c0:Int) (v7:Int) (v8:Int)
def Zdr(v0:List Zc)(c0:Int)(v7:Int)(v8:Int):LT Za4 (Int×Int):=
.br (decide (v8 < v7)) (.idx Zi v0 v8 fun x2=>.callO (Z76 x2 c0) [0] 170000 (fun x=>[]) fun x4=>.br x4 (.rt (v8,c0))<|.g0 (.L0 v0 c0 v7 (IntKind.wrap .i64 (v8+1))))<|.rt ((-1),c0)
def Zdv(a0:List Zc)(b0:Int):LT Za4 (Int×Int):=
.len Zi a0<|.g0 (.L0 a0 b0 (a0.length:Int) 0)
def Zb5:LF Za4 (Int×Int) := .m 131 [.t 4] true (fun r=>[(0,.box (bx ((cI .i64) r.2)))]) (fun r=>(wI r.1)) fun | .L0 v0 c0 v7 v8=>([1,0,1,4],⟨19,[(0,wL Zi v0),(1,.fn 140 [.bptr 0 0]),(7,wI v7),(8,wI v8)],[(0,.box (bx ((cI .i64) c0)))]⟩,Zdr v0 c0 v7 v8)
def Zd2:=fun a0 b0=>Zb5.run (Zdv a0 b0)
theorem Zg0(a0)(b0){r}(h:Zd2 a0 b0=some r):FnG PR 131 [(0,.box (bx ((cI .i64) b0)))] [wL Zi a0,.fn 140 [.bptr 0 0]] [(0,.box (bx ((cI .i64) r.2)))] (wI r.1):=Zb5.fn h
def Zags(a0:Za)(a1:Int):LT Empty Int:=
.lb 1002<|.lb 1003<|.callU (Zg0 a0.Objects a1) [1003] 90000 fun x1=>.rt x1.1
def Zagt:LF Empty Int := .z0 85 [.t 4] wI
def Zaue:=fun a0 a1=>Zagt.run (Zags a0 a1)
theorem Zact(a0)(a1){r}(h:Zaue a0 a1=some r):Fn PR 85 [wA (Zo a0),wI a1] (wI r):=Zagt.fn h
def Zam5(a0:Za)(a1:Int):LT Empty (Zc×Bool):=
.lb 1002<|.lb 1004<|.call (Zact a0 a1) fun x1=>.br (decide (x1 < 0)) (.rt ((⟨0,0,0,0,0,false,false,false,false,0,(⟨0,0,0⟩:A3 Int),0,0,0,false,0,0⟩:Zc),false))<|.idx Zi a0.Objects x1 fun x4=>.rt (x4,true)
def Zam6:LF Empty (Zc×Bool) := .z0 33 [.c 4 52 true 19,.t 5] (fun r=>(.tup [wA (Zi r.1),wB r.2]))
def Za05:=fun a0 a1=>Zam6.run (Zam5 a0 a1)
theorem Zoh(a0)(a1){r}(h:Za05 a0 a1=some r):Fn PR 33 [wA (Zo a0),wI a1] (.tup [wA (Zi r.1),wB r.2]):=Zam6.fn h
def Z4o(a0:Za)(a1:Int):LT Empty (Zc×Bool):=
.lb 1002<|.lb 1004<|.call (Zoh a0 a1) fun x1=>.lb 1006<|.cs x1.2 (.k4 0<|.rt (x1.1,x1.1.Zone==0))<|.k4 0<|.rt (x1.1,false)
def Z4p:LF Empty (Zc×Bool) := .z0 124 [.c 4 52 true 19,.t 5] (fun r=>(.tup [wA (Zi r.1),wB r.2]))
def Zacu:=fun a0 a1=>Z4p.run (Z4o a0 a1)
theorem Zlw(a0)(a1){r}(h:Zacu a0 a1=some r):Fn PR 124 [wA (Zo a0),wI a1] (.tup [wA (Zi r.1),wB r.2]):=Z4p.fn h
def Z77(a0:Ze):LT Empty Bool:=
.lb 1001<|.cs (decide (a0.Amount>=1)) (.k4 0<|.rt (decide (a0.Amount<=1000000)))<|.k4 0<|.rt false
def Z78:LF Empty Bool := .z0 128 [.t 2] wB
def Zagu:=fun a0=>Z78.run (Z77 a0)
theorem Zns(a0){r}(h:Zagu a0=some r):Fn PR 128 [wA (Zy a0)] (wB r):=Z78.fn h
def Z79(a0:Za)(a1:Int):LT Empty Bool:=
.lb 1002<|.cs (decide (a1>=0)) (.k4 0<|.len Zq a0.Players<|.k2 0<|.cs (decide (a1 < (a0.Players.length:Int))) (.k4 1<|.idx Zq a0.Players a1 fun x4=>.k4 1<|.rt (!x4.Lost))<|.k8 1<|.rt false)<|.k5 0<|.kg 0<|.b8 false<|.rt false
def Z8a:LF Empty Bool := .z0 127 [.t 4] wB
def Zagv:=fun a0 a1=>Z8a.run (Z79 a0 a1)
theorem Zh5(a0)(a1){r}(h:Zagv a0 a1=some r):Fn PR 127 [wA (Zo a0),wI a1] (wB r):=Z8a.fn h
def Zacv(a0:Za)(a1:Ze):LT Empty Bool:=
.lb 1002<|.lb 1003<|.call (Zns a1) fun x1=>.br (!x1) (.rt false)<|.br (a1.Object==0) (.call (Zh5 a0 a1.Player) fun x5=>.rt x5)<|.call (Zlw a0 a1.Object) fun x7=>.lb 1005<|.rt x7.2
def Zacw:LF Empty Bool := .z0 125 [.t 4] wB
def Zam7:=fun a0 a1=>Zacw.run (Zacv a0 a1)
theorem Zaye(a0)(a1){r}(h:Zam7 a0 a1=some r):Fn PR 125 [wA (Zo a0),wA (Zy a1)] (wB r):=Zacw.fn h
def Zacx(a0:Za)(a1:Ze):LT Empty Bool:=
.lb 1002<|.lb 1003<|.call (Zoh a0 a1.Object) fun x1=>.lb 1005<|.cs x1.2 (.k5 0<|.kg 0<|.cs (x1.1.Zone==a1.From) (.k5 1<|.kg 1<|.cs (a1.To != a1.From) (.k4 2<|.cs (decide (a1.To>=0)) (.k4 3<|.cs (decide (a1.To<=4)) (.k4 4<|.cs (decide (a1.Player>=0)) (.k5 5<|.len Zq a0.Players<|.k2 5<|.rt (decide (a1.Player < (a0.Players.length:Int))))<|.k5 5<|.k2 5<|.rt false)<|.k4 4<|.b5 false<|.b2 false<|.rt false)<|.k4 3<|.b8 false<|.b3 false<|.rt false)<|.k4 2<|.b8 false<|.b5 false<|.b2 false<|.rt false)<|.k5 1<|.kg 1<|.b16 false<|.b3 false<|.rt false)<|.k5 0<|.kg 0<|.b16 false<|.b8 false<|.kb false<|.rt false
def Zacy:LF Empty Bool := .z0 126 [.t 4] wB
def Zam8:=fun a0 a1=>Zacy.run (Zacx a0 a1)
theorem Zayf(a0)(a1){r}(h:Zam8 a0 a1=some r):Fn PR 126 [wA (Zo a0),wA (Zy a1)] (wB r):=Zacy.fn h
def Z8b(a0:Za)(a1:Ze):LT Empty Bool:=
.lb 1002<|.lb 1003<|.call (Zlw a0 a1.Object) fun x1=>.lb 1005<|.cs x1.2 (.k4 0<|.cs (decide (a1.Counter>=0)) (.k4 1<|.cs (decide (a1.Counter < 3)) (.k2 2<|.call (Zns a1) fun x6=>.kg 2<|.rt x6)<|.k3 2<|.rt false)<|.k4 1<|.b3 false<|.rt false)<|.k4 0<|.b5 false<|.b2 false<|.rt false
def Z8c:LF Empty Bool := .z0 129 [.t 4] wB
def Zagw:=fun a0 a1=>Z8c.run (Z8b a0 a1)
theorem Zauf(a0)(a1){r}(h:Zagw a0 a1=some r):Fn PR 129 [wA (Zo a0),wA (Zy a1)] (wB r):=Z8c.fn h
def Z4q(a0:List Zg)(a1:Za)(a2:Ze):LT Empty Bool:=
.lb 1004<|.lb 1005<|.call (Zh5 a1 a2.Player) fun x1=>.cs x1 (.k4 0<|.cs (decide (a2.Card>=0)) (.k4 1<|.len Zs a0<|.k2 1<|.cs (decide (a2.Card < (a0.length:Int))) (.k4 2<|.idx Zs a0 a2.Card fun x7=>.k3 2<|.cs x7.Token (.k2 3<|.call (Zns a2) fun x10=>.kg 3<|.rt x10)<|.k3 3<|.rt false)<|.k5 2<|.k2 2<|.b3 false<|.rt false)<|.k5 1<|.kg 1<|.b8 false<|.b2 false<|.rt false)<|.k4 0<|.b16 false<|.rt false
def Z4r:LF Empty Bool := .z0 130 [.t 6] wB
def Zacz:=fun a0 a1 a2=>Z4r.run (Z4q a0 a1 a2)
theorem Zapx(a0)(a1)(a2){r}(h:Zacz a0 a1 a2=some r):Fn PR 130 [wL Zs a0,wA (Zo a1),wA (Zy a2)] (wB r):=Z4r.fn h
inductive Zlx where
 | L0 (v0:List Zg) (E0:Za) (E1:Ze) (E2:Zc) (v8:Bool) (v21:Int) (v32:Bool)
 | L1 (v0:List Zg) (E0:Za) (E1:Ze) (E2:Zc) (v8:Bool) (v21:Int) (v41:Bool)
 | L2 (v0:List Zg) (E0:Za) (E1:Ze) (v8:Bool) (v21:Int) (v68:Bool)
def Zqk(v0:List Zg)(E0:Za)(E1:Ze)(v8:Bool)(v21:Int)(v68:Bool):LT Zlx Bool:=
.br v68 (.call (Zauf E0 E1) fun x2=>.rt x2)<|.br (v21==10) (.call (Zapx v0 E0 E1) fun x5=>.rt x5)<|.br (v21==11) (.call (Zoh E0 E1.Object) fun x8=>.lb 1009<|.cs x8.2 (.k4 3<|.cs (x8.1.Zone==5) (.k4 4<|.call (Zh5 E0 E1.Player) fun x12=>.kg 4<|.rt x12)<|.k5 4<|.rt false)<|.k4 3<|.b5 false<|.rt false)<|.br (v21==12) (.cs v8 (.k4 4<|.call (Zh5 E0 E1.Player) fun x16=>.kg 4<|.rt x16)<|.k5 4<|.rt false)<|.br (v21==13) (.call (Zlw E0 E1.Source) fun x19=>.lb 1011<|.cs v8 (.k2 5<|.rt x19.2)<|.k2 5<|.rt false)<|.rt false
def Zm9(v0:List Zg)(E0:Za)(E1:Ze)(E2:Zc)(v8:Bool)(v21:Int)(v41:Bool):LT Zlx Bool:=
.br v41 (.call (Zh5 E0 E1.Player) fun x2=>.cs x2 (.k2 1<|.call (Zns E1) fun x5=>.kg 1<|.rt x5)<|.k3 1<|.rt false)<|.br (v21==6) (.cs v8 (.k4 2<|.rt (!E2.Tapped))<|.k4 2<|.rt false)<|.br (v21==7) (.cs v8 (.k3 3<|.rt E2.Tapped)<|.k3 3<|.rt false)<|.br (v21==8) (.j0 (.L2 v0 E0 E1 v8 v21 (v21==8)) (Zqk v0 E0 E1 v8 v21 (v21==8)))<|.j0 (.L2 v0 E0 E1 v8 v21 (v21==9)) (Zqk v0 E0 E1 v8 v21 (v21==9))
def Zka(v0:List Zg)(E0:Za)(E1:Ze)(E2:Zc)(v8:Bool)(v21:Int)(v32:Bool):LT Zlx Bool:=
.br v32 (.call (Zh5 E0 E1.Player) fun x2=>.rt x2)<|.br (v21==4) (.j0 (.L1 v0 E0 E1 E2 v8 v21 (v21==4)) (Zm9 v0 E0 E1 E2 v8 v21 (v21==4)))<|.br (v21==5) (.j0 (.L1 v0 E0 E1 E2 v8 v21 (v21==5)) (Zm9 v0 E0 E1 E2 v8 v21 (v21==5)))<|.j0 (.L1 v0 E0 E1 E2 v8 v21 (v21==16)) (Zm9 v0 E0 E1 E2 v8 v21 (v21==16))
def Zaug(a0:List Zg)(a1:Za)(a2:Ze):LT Zlx Bool:=
.lb 1004<|.lb 1005<|.call (Zlw a1 a2.Object) fun x1=>.lb 1007<|.br (a2.Kind==1) (.call (Zaye a1 a2) fun x4=>.rt x4)<|.br (a2.Kind==2) (.call (Zayf a1 a2) fun x7=>.rt x7)<|.br (a2.Kind==3) (.jn 0 (.L0 a0 a1 a2 x1.1 x1.2 a2.Kind (a2.Kind==3)) (tm19 1000 3000) (Zka a0 a1 a2 x1.1 x1.2 a2.Kind (a2.Kind==3)))<|.br (a2.Kind==14) (.jn 0 (.L0 a0 a1 a2 x1.1 x1.2 a2.Kind (a2.Kind==14)) (tm19 1000 3000) (Zka a0 a1 a2 x1.1 x1.2 a2.Kind (a2.Kind==14)))<|.br (a2.Kind==15) (.jn 0 (.L0 a0 a1 a2 x1.1 x1.2 a2.Kind (a2.Kind==15)) (tm19 1000 3000) (Zka a0 a1 a2 x1.1 x1.2 a2.Kind (a2.Kind==15)))<|.jn 0 (.L0 a0 a1 a2 x1.1 x1.2 a2.Kind (a2.Kind==17)) (tm19 1000 3000) (Zka a0 a1 a2 x1.1 x1.2 a2.Kind (a2.Kind==17))
def Zauh:LF Zlx Bool := .m0 70 [.t 6] wB fun | .L0 v0 E0 E1 E2 v8 v21 v32=>([1,1,0,1,4,1,3,1,3,1],⟨123,[(0,wL Zs v0),(4,.bptr 3000 0),(5,.bptr 3001 0),(7,.bptr 3002 0),(8,wB v8),(21,wI v21),(32,wB v32)],[(3000,.box (bx (Zo E0))),(3001,.box (bx (Zy E1))),(3002,.box (bx (Zi E2)))]⟩,Zka v0 E0 E1 E2 v8 v21 v32) | .L1 v0 E0 E1 E2 v8 v21 v41=>([1,1,0,1,4,1,3,1,3,1,3,1],⟨123,[(0,wL Zs v0),(4,.bptr 3000 0),(5,.bptr 3001 0),(7,.bptr 3002 0),(8,wB v8),(21,wI v21),(41,wB v41)],[(3000,.box (bx (Zo E0))),(3001,.box (bx (Zy E1))),(3002,.box (bx (Zi E2)))]⟩,Zm9 v0 E0 E1 E2 v8 v21 v41) | .L2 v0 E0 E1 v8 v21 v68=>([1,1,0,1,4,1,3,1,3,1,3,1,3,1,3,1,3,1],⟨123,[(0,wL Zs v0),(4,.bptr 3000 0),(5,.bptr 3001 0),(8,wB v8),(21,wI v21),(68,wB v68)],[(3000,.box (bx (Zo E0))),(3001,.box (bx (Zy E1)))]⟩,Zqk v0 E0 E1 v8 v21 v68)
def Za77:=fun a0 a1 a2=>Zauh.run (Zaug a0 a1 a2)
theorem Zbbl(a0)(a1)(a2){r}(h:Za77 a0 a1 a2=some r):Fn PR 70 [wL Zs a0,wA (Zo a1),wA (Zy a2)] (wB r):=Zauh.fn h
def Zse(a0:Zc)(b0:Int):LT Empty Bool:=
.lb 1002<|.rt (a0.Id==b0)
def Zsf(b0:Int):LF Empty Bool := .z 132 [.t 3] true (fun r=>[(0,.box (bx ((cI .i64) b0)))]) (fun r=>(wB r))
def Zu2(a0:Zc)(b0:Int):Option Bool:=(Zsf b0).run (Zse a0 b0)
theorem Z3n(a0:Zc)(b0:Int){r:Bool}(h:Zu2 a0 b0=some r):FnG PR 132 [(0,.box (bx ((cI .i64) b0)))] [wA (Zi a0),.bptr 0 0] [(0,.box (bx ((cI .i64) b0)))] (wB r):=(Zsf b0).fn h
inductive Za3 where
 | L0 (v0:List Zc) (c0:Int) (v7:Int) (v8:Int)
def Zdg(v0:List Zc)(c0:Int)(v7:Int)(v8:Int):LT Za3 (Int×Int):=
.br (decide (v8 < v7)) (.idx Zi v0 v8 fun x2=>.callO (Z3n x2 c0) [0] 170000 (fun x=>[]) fun x4=>.br x4 (.rt (v8,c0))<|.g0 (.L0 v0 c0 v7 (IntKind.wrap .i64 (v8+1))))<|.rt ((-1),c0)
def Zdo(a0:List Zc)(b0:Int):LT Za3 (Int×Int):=
.len Zi a0<|.g0 (.L0 a0 b0 (a0.length:Int) 0)
def Zb2:LF Za3 (Int×Int) := .m 131 [.t 4] true (fun r=>[(0,.box (bx ((cI .i64) r.2)))]) (fun r=>(wI r.1)) fun | .L0 v0 c0 v7 v8=>([1,0,1,4],⟨19,[(0,wL Zi v0),(1,.fn 132 [.bptr 0 0]),(7,wI v7),(8,wI v8)],[(0,.box (bx ((cI .i64) c0)))]⟩,Zdg v0 c0 v7 v8)
def Zdw:=fun a0 b0=>Zb2.run (Zdo a0 b0)
theorem Zgf(a0)(b0){r}(h:Zdw a0 b0=some r):FnG PR 131 [(0,.box (bx ((cI .i64) b0)))] [wL Zi a0,.fn 132 [.bptr 0 0]] [(0,.box (bx ((cI .i64) r.2)))] (wI r.1):=Zb2.fn h
def Z8d(a0:Za)(a1:List Zb)(a2:Int):LT Empty (Zc×Zb×Bool):=
.lb 1003<|.lb 1005<|.lb 1006<|.lb 1007<|.callU (Zgf a0.Objects a2) [1005] 140000 fun x1=>.br (decide (x1.1 < 0)) (.rt ((⟨0,0,0,0,0,false,false,false,false,0,(⟨0,0,0⟩:A3 Int),0,0,0,false,0,0⟩:Zc),(⟨([]:By),(⟨0,0,(⟨0,0,0,0,0⟩:A5 Int)⟩:Z2),0,(⟨0,0,([]:Bys)⟩:Zaf),0,0,0,([]:List Zh),0⟩:Zb),false))<|.len Zp a1<|.br (decide (x1.1>=(a1.length:Int))) (.idx Zi a0.Objects x1.1 fun x6=>.rt (x6,(⟨([]:By),(⟨0,0,(⟨0,0,0,0,0⟩:A5 Int)⟩:Z2),0,(⟨0,0,([]:Bys)⟩:Zaf),0,0,0,([]:List Zh),0⟩:Zb),true))<|.idx Zi a0.Objects x1.1 fun x8=>.idx Zp a1 x1.1 fun x10=>.rt (x8,x10,true)
def Z8e:LF Empty (Zc×Zb×Bool) := .z0 71 [.c 6 52 true 19,.c 7 72 true 17,.t 8] (fun r=>(.tup [wA (Zi r.1),wA (Zp r.2.1),wB r.2.2]))
def Zagx:=fun a0 a1 a2=>Z8e.run (Z8d a0 a1 a2)
theorem Zh6(a0)(a1)(a2){r}(h:Zagx a0 a1 a2=some r):Fn PR 71 [wA (Zo a0),wL Zp a1,wI a2] (.tup [wA (Zi r.1),wA (Zp r.2.1),wB r.2.2]):=Z8e.fn h
def Z1y(a0:Int)(a1:Int):LT Empty Bool:=
.cs (decide (a0>=0)) (.k4 0<|.rt (decide (a0<=a1)))<|.k4 0<|.rt false
def Z1z:LF Empty Bool := .z0 219 [.t 4] wB
def Zvn:=fun a0 a1=>Z1z.run (Z1y a0 a1)
theorem Zcg(a0)(a1){r}(h:Zvn a0 a1=some r):Fn PR 219 [wI a0,wI a1] (wB r):=Z1z.fn h
inductive Z4s where
 | L0 (v36:List Int) (v37:Int) (v38:Int)
def Ztl(v36:List Int)(v37:Int)(v38:Int):LT Z4s Bool:=
.br (decide (v38 < v37)) (.idx (cI .u8) v36 v38 fun x2=>.cs (decide (x2 < 97)) (.k3 1<|.b3 true<|.cs (decide (x2 < 48)) (.k2 2<|.kb true<|.kg 2<|.b4 true<|.br (x2 != 45) (.rt false)<|.g0 (.L0 v36 v37 (IntKind.wrap .i64 (v38+1))))<|.k2 2<|.kb true<|.kg 2<|.kb true<|.cs (decide (x2 > 57)) (.k3 3<|.br (x2 != 45) (.rt false)<|.g0 (.L0 v36 v37 (IntKind.wrap .i64 (v38+1))))<|.k3 3<|.kn [0]<|.g0 (.L0 v36 v37 (IntKind.wrap .i64 (v38+1))))<|.k3 1<|.cs (decide (x2 > 122)) (.k3 2<|.cs (decide (x2 < 48)) (.k2 3<|.kg 2<|.kg 3<|.kg 2<|.b3 true<|.br (x2 != 45) (.rt false)<|.g0 (.L0 v36 v37 (IntKind.wrap .i64 (v38+1))))<|.k2 3<|.kg 2<|.kg 3<|.kg 2<|.cs (decide (x2 > 57)) (.k3 4<|.br (x2 != 45) (.rt false)<|.g0 (.L0 v36 v37 (IntKind.wrap .i64 (v38+1))))<|.k3 4<|.kn [0]<|.g0 (.L0 v36 v37 (IntKind.wrap .i64 (v38+1))))<|.k5 2<|.b3 false<|.kn [0]<|.g0 (.L0 v36 v37 (IntKind.wrap .i64 (v38+1))))<|.rt true
def Za06(a0:By):LT Z4s Bool:=
.lenS a0<|.cs ((a0.length:Int)==0) (.k4 0<|.b16 true<|.b2 true<|.kn [0]<|.rt false)<|.k2 0<|.lenS a0<|.k2 0<|.cs (decide ((a0.length:Int) > 32)) (.k4 1<|.b8 true<|.b5 true<|.kb true<|.kn [0]<|.rt false)<|.k2 1<|.idxS a0 0 fun x4=>.k2 1<|.cs (decide ((UInt8.toNat x4:Int) < 97)) (.k4 2<|.b8 true<|.b2 true<|.kn [0]<|.rt false)<|.k2 2<|.idxS a0 0 fun x7=>.k2 2<|.cs (decide ((UInt8.toNat x7:Int) > 122)) (.k5 3<|.k2 3<|.b3 true<|.kn [0]<|.rt false)<|.k3 3<|.lenS a0<|.k2 3<|.idxS a0 (IntKind.wrap .i64 ((a0.length:Int) - 1)) fun x12=>.k2 3<|.cs ((UInt8.toNat x12:Int)==45) (.k3 4<|.kn [0]<|.rt false)<|.k2 4<|.call (Zael a0 ([45,45]:By)) fun x15=>.kg 4<|.br x15 (.rt false)<|.bys a0 fun x18=>.len (cI .u8) x18<|.g0 (.L0 x18 (x18.length:Int) 0)
def Zxs:LF Z4s Bool := .m0 253 [.t 2] wB fun | .L0 v36 v37 v38=>([1,1,0,1,4],⟨61,[(36,wL (cI .u8) v36),(37,wI v37),(38,wI v38)],[]⟩,Ztl v36 v37 v38)
def Zayg:=fun a0=>Zxs.run (Za06 a0)
theorem Zbet(a0){r}(h:Zayg a0=some r):Fn PR 253 [wS a0] (wB r):=Zxs.fn h
def Z10(a0:Int):LT Empty (By):=
.idX Zn.str (A2.list (⟨([98,97,115,105,99]:By),([117,110,105,113,117,101]:By)⟩:A2 (By))) a0 fun x1=>.rt x1
def Zrq:LF Empty (By) := .z0 255 [.t 2] wS
def Zvo:=fun a0=>Zrq.run (Z10 a0)
theorem Zak6(a0){r}(h:Zvo a0=some r):Fn PR 255 [wI a0] (wS r):=Zrq.fn h
def Z4t(a0:Int):LT Empty (By):=
.idX Zn.str (A6.list (⟨([99,114,101,97,116,117,114,101]:By),([105,110,115,116,97,110,116]:By),([114,105,116,117,97,108]:By),([114,101,108,105,99]:By),([99,104,97,114,109]:By),([108,97,110,100]:By)⟩:A6 (By))) a0 fun x1=>.rt x1
def Ztm:LF Empty (By) := .z0 256 [.t 2] wS
def Zyt:=fun a0=>Ztm.run (Z4t a0)
theorem Zapy(a0){r}(h:Zyt a0=some r):Fn PR 256 [wI a0] (wS r):=Ztm.fn h
end
end Go.PW
