import Derived.Test.YtiglnkgoicjjfaaGreatQDt
set_option linter.all false
set_option maxRecDepth 100000
namespace Go.PW
open Go.RowKit
noncomputable section
def Zajj(a0:Int):LT Empty Bool:=
.cs (decide (a0>=97)) (.k3 0<|.rt (decide (a0<=122)))<|.k3 0<|.rt false
def Zajk:LF Empty Bool := .z0 100 [.t 2] wB
def Zah6:=fun a0=>Zajk.run (Zajj a0)
theorem Zaeu(a0){r}(h:Zah6 a0=some r):Fn PR 100 [.t (.int .u8 a0)] (wB r):=Zajk.fn h
inductive Zs9 where
 | L0 (v0:By) (v3:Int)
 | L1 (v0:By) (v3:Int)
def Znf(v0:By)(v3:Int):LT Zs9 Bool:=
.cs (decide (v3 > 0)) (.k3 0<|.idxS v0 v3 fun x2=>.k2 0<|.cs ((UInt8.toNat x2:Int)==45) (.k4 1<|.idxS v0 (IntKind.wrap .i64 (v3 - 1)) fun x7=>.k2 1<|.br ((UInt8.toNat x7:Int)==45) (.rt false)<|.g0 (.L0 v0 (IntKind.wrap .i64 (v3+1))))<|.k5 1<|.kg 1<|.kn [0]<|.g0 (.L0 v0 (IntKind.wrap .i64 (v3+1))))<|.k5 0<|.b5 false<|.kb false<|.kn [0]<|.g0 (.L0 v0 (IntKind.wrap .i64 (v3+1)))
def Z62(v0:By)(v3:Int):LT Zs9 Bool:=
.lenS v0<|.br (decide (v3 < (v0.length:Int))) (.idxS v0 v3 fun x3=>.call (Zaeu (UInt8.toNat x3:Int)) fun x5=>.cs (!x5) (.k3 1<|.idxS v0 v3 fun x8=>.k2 1<|.cs (decide ((UInt8.toNat x8:Int) < 48)) (.k4 2<|.kg 1<|.kg 2<|.kg 1<|.b3 true<|.idxS v0 v3 fun x11=>.b2 true<|.br ((UInt8.toNat x11:Int) != 45) (.rt false)<|.j0 (.L1 v0 v3) (Znf v0 v3))<|.k3 2<|.idxS v0 v3 fun x14=>.kg 2<|.kg 1<|.kg 2<|.kg 1<|.cs (decide ((UInt8.toNat x14:Int) > 57)) (.k3 3<|.idxS v0 v3 fun x17=>.k2 3<|.br ((UInt8.toNat x17:Int) != 45) (.rt false)<|.j0 (.L1 v0 v3) (Znf v0 v3))<|.k5 3<|.kn [0]<|.j0 (.L1 v0 v3) (Znf v0 v3))<|.k5 1<|.k2 1<|.b5 false<|.kn [0]<|.j0 (.L1 v0 v3) (Znf v0 v3))<|.rt true
def Zam4(a0:By):LT Zs9 Bool:=
.lenS a0<|.cs (decide ((a0.length:Int) < 1)) (.k4 0<|.b8 true<|.b4 true<|.kn [0]<|.rt false)<|.k2 0<|.lenS a0<|.k2 0<|.cs (decide ((a0.length:Int) > 32)) (.k5 1<|.b5 true<|.b2 true<|.kn [0]<|.rt false)<|.k2 1<|.idxS a0 0 fun x4=>.kg 1<|.call (Zaeu (UInt8.toNat x4:Int)) fun x6=>.k2 1<|.cs (!x6) (.k5 2<|.k2 2<|.kn [0]<|.rt false)<|.k3 2<|.lenS a0<|.k2 2<|.idxS a0 (IntKind.wrap .i64 ((a0.length:Int) - 1)) fun x11=>.k2 2<|.br ((UInt8.toNat x11:Int)==45) (.rt false)<|.g0 (.L0 a0 0)
def Zam5:LF Zs9 Bool := .m0 78 [.t 2] wB fun | .L0 v0 v3=>([1,1,0,1,4],⟨70,[(0,wS v0),(3,wI v3)],[]⟩,Z62 v0 v3) | .L1 v0 v3=>([1,1,0,1,4,5,1,0,4,1],⟨70,[(0,wS v0),(3,wI v3)],[]⟩,Znf v0 v3)
def Zam6:=fun a0=>Zam5.run (Zam4 a0)
theorem Z63(a0){r}(h:Zam6 a0=some r):Fn PR 78 [wS a0] (wB r):=Zam5.fn h
inductive Zta where
 | L0 (E0:Zbz) (v3:Int)
def Zz4(E0:Zbz)(v3:Int):LT Zta Bool:=
.br (decide (v3 < 5)) (.idA (Zb.int .i64) (A5.list E0.Color) v3 (bx (Zb2 E0)) 2 7 fun x2=>.ldC (Zb.int .i64) 29 x2 0<|.cs (decide (x2 < 0)) (.k5 1<|.kg 1<|.kn [0]<|.rt false)<|.k3 1<|.idA (Zb.int .i64) (A5.list E0.Color) v3 (bx (Zb2 E0)) 2 7 fun x5=>.kg 1<|.ldC (Zb.int .i64) 35 x5 1<|.k2 1<|.br (decide (x5 > 9)) (.rt false)<|.g0 (.L0 E0 (IntKind.wrap .i64 (v3+1))))<|.rt true
def Zam7(a0:Zbz):LT Zta Bool:=
.lb 1001<|.cs (decide (a0.Generic < 0)) (.k4 0<|.b8 true<|.kn [0]<|.rt false)<|.k4 0<|.cs (decide (a0.Generic > 99)) (.k4 1<|.b4 true<|.kn [0]<|.rt false)<|.k4 1<|.cs (decide (a0.X < 0)) (.k4 2<|.kn [0]<|.rt false)<|.k4 2<|.br (decide (a0.X > 2)) (.rt false)<|.go (.L0 a0 0) [.relab 1001 3000]
def Ztb:LF Zta Bool := .m0 79 [.t 2] wB fun | .L0 E0 v3=>([1,1,0,1,4],⟨38,[(1,.bptr 3000 0),(3,wI v3)],[(3000,.box (bx (Zb2 E0)))]⟩,Zz4 E0 v3)
def Zaev:=fun a0=>Ztb.run (Zam7 a0)
theorem Z64(a0){r}(h:Zaev a0=some r):Fn PR 79 [wA (Zb2 a0)] (wB r):=Ztb.fn h
def Zx5:LT Empty (Bys):=
.lb 1001<|.ret [([98,97,115,105,99]:By),([117,110,105,113,117,101]:By)] [.relab 1001 5000]
def Zx6:LF Empty (Bys) := .z 120 [.t 0] true (fun r=>[(5000,wR cS 1 r)]) (fun r=>(wO cS 5000 r))
def Zok:=Zx6.run (Zx5)
theorem Z65{r}(h:Zok=some r):FnG PR 120 [] [] [(5000,wR cS 1 r)] (wO cS 5000 r):=Zx6.fn h
theorem Z9j{r:Bys}(h:Zok=some r):Fn PR 120 [] (wL cS r):=
 FnG.frozen (C:=LT.RL cS r/\True) (Z65 h) ⟨rfl,trivial⟩ (by kernel_rfl)
inductive Zo8 where
 | L0 (v0:Bys) (v1:By) (v5:Int)
def Zx7(v0:Bys)(v1:By)(v5:Int):LT Zo8 Int:=
.len cS v0<|.br (decide (v5 < (v0.length:Int))) (.idx cS v0 v5 fun x3=>.br (x3==v1) (.rt v5)<|.g0 (.L0 v0 v1 (IntKind.wrap .i64 (v5+1))))<|.rt (-1)
def Z94(a0:Bys)(a1:By):LT Zo8 Int:=
.g0 (.L0 a0 a1 0)
def Z95:LF Zo8 Int := .m0 119 [.t 4] wI fun | .L0 v0 v1 v5=>([1,0,1,4],⟨19,[(0,wL cS v0),(1,wS v1),(5,wI v5)],[]⟩,Zx7 v0 v1 v5)
def Z66:=fun a0 a1=>Z95.run (Z94 a0 a1)
theorem Z67(a0)(a1){r}(h:Z66 a0 a1=some r):Fn PR 119 [wL cS a0,wS a1] (wI r):=Z95.fn h
def Zz5:LT Empty (Bys):=
.lb 1001<|.ret [([99,114,101,97,116,117,114,101]:By),([105,110,115,116,97,110,116]:By),([114,105,116,117,97,108]:By),([114,101,108,105,99]:By),([99,104,97,114,109]:By),([108,97,110,100]:By)] [.relab 1001 5000]
def Zz6:LF Empty (Bys) := .z 121 [.t 0] true (fun r=>[(5000,wR cS 1 r)]) (fun r=>(wO cS 5000 r))
def Zp0:=Zz6.run (Zz5)
theorem Z9k{r}(h:Zp0=some r):FnG PR 121 [] [] [(5000,wR cS 1 r)] (wO cS 5000 r):=Zz6.fn h
theorem Zx8{r:Bys}(h:Zp0=some r):Fn PR 121 [] (wL cS r):=
 FnG.frozen (C:=LT.RL cS r/\True) (Z9k h) ⟨rfl,trivial⟩ (by kernel_rfl)
def Z96(a0:By):LT Empty Bool:=
.call (Z63 a0) fun x1=>.cs x1 (.kg 0<|.call (Z9j) fun x4=>.k2 0<|.call (Z67 x4 a0) fun x6=>.k2 0<|.cs (decide (x6 < 0)) (.kg 1<|.call (Zx8) fun x9=>.k2 1<|.call (Z67 x9 a0) fun x11=>.k2 1<|.rt (decide (x11 < 0)))<|.k5 1<|.rt false)<|.k5 0<|.b5 false<|.rt false
def Z97:LF Empty Bool := .z0 101 [.t 2] wB
def Z68:=fun a0=>Z97.run (Z96 a0)
theorem Zx9(a0){r}(h:Z68 a0=some r):Fn PR 101 [wS a0] (wB r):=Z97.fn h
inductive Zuu where
 | L0 (v0:Int) (v1:Int) (v5:Int)
def Z4h(v0:Int)(v1:Int)(v5:Int):LT Zuu Bool:=
.br (decide (v5 < v1)) (.dc ((2:Int)≠0) rfl<|.g0 (.L0 (Zrp .i64 v0 2) v1 (IntKind.wrap .i64 (v5+1))))<|.dc ((2:Int)≠0) rfl<|.rt ((Int.tmod v0 2)==1)
def Zajl(a0:Int)(a1:Int):LT Zuu Bool:=
.g0 (.L0 a0 a1 0)
def Zajm:LF Zuu Bool := .m0 102 [.t 4] wB fun | .L0 v0 v1 v5=>([1,0,1,4],⟨16,[(0,wI v0),(1,wI v1),(5,wI v5)],[]⟩,Z4h v0 v1 v5)
def Zah7:=fun a0 a1=>Zajm.run (Zajl a0 a1)
theorem Z4i(a0)(a1){r}(h:Zah7 a0 a1=some r):Fn PR 102 [wI a0,wI a1] (wB r):=Zajm.fn h
inductive Zya where
 | L0 (E0:Zki) (v3:Int)
def Z69(E0:Zki)(v3:Int):LT Zya Bool:=
.len cS E0.Subs<|.br (decide (v3 < (E0.Subs.length:Int))) (.idx cS E0.Subs v3 fun x3=>.call (Zx9 x3) fun x5=>.cs (!x5) (.k5 1<|.kn [0]<|.rt false)<|.k3 1<|.cs (decide (v3 > 0)) (.k5 2<|.idx cS E0.Subs (IntKind.wrap .i64 (v3 - 1)) fun x11=>.k5 2<|.ag cS x3 0<|.k2 2<|.kg 1<|.kg 2<|.kg 1<|.br (!(Op.bytesLess x11 x3)) (.rt false)<|.g0 (.L0 E0 (IntKind.wrap .i64 (v3+1))))<|.k8 2<|.k4 2<|.kg 1<|.kg 2<|.kg 1<|.kn [0]<|.g0 (.L0 E0 (IntKind.wrap .i64 (v3+1))))<|.cs (E0.Types==2) (.k4 1<|.b5 true<|.b2 true<|.rt true)<|.k4 1<|.cs (E0.Types==4) (.k5 2<|.k2 2<|.rt true)<|.k3 2<|.call (Z4i E0.Types 1) fun x20=>.k2 2<|.cs (!x20) (.k3 3<|.call (Z4i E0.Types 2) fun x23=>.kg 3<|.kg 2<|.kg 3<|.kg 2<|.rt (!x23))<|.k4 3<|.kg 2<|.kg 3<|.kg 2<|.rt false
def Zam8(a0:Zki):LT Zya Bool:=
.lb 1001<|.cs (decide (a0.Super < 0)) (.k4 0<|.b8 true<|.b5 true<|.kn [0]<|.rt false)<|.k4 0<|.cs (decide (a0.Super > 3)) (.k4 1<|.b8 true<|.kb true<|.kn [0]<|.rt false)<|.k4 1<|.cs (decide (a0.Types < 1)) (.k4 2<|.b5 true<|.kn [0]<|.rt false)<|.k4 2<|.cs (decide (a0.Types > 63)) (.k5 3<|.kn [0]<|.rt false)<|.k3 3<|.len cS a0.Subs<|.k2 3<|.br (decide ((a0.Subs.length:Int) > 4)) (.rt false)<|.go (.L0 a0 0) [.relab 1001 3000]
def Zam9:LF Zya Bool := .m0 80 [.t 2] wB fun | .L0 E0 v3=>([1,1,0,1,4],⟨80,[(1,.bptr 3000 0),(3,wI v3)],[(3000,.box (bx (Zoj E0)))]⟩,Z69 E0 v3)
def Zana:=fun a0=>Zam9.run (Zam8 a0)
theorem Zavy(a0){r}(h:Zana a0=some r):Fn PR 80 [wA (Zoj a0)] (wB r):=Zam9.fn h
def Zanb(a0:Int):LT Empty Bool:=
.cs (decide (a0>=0)) (.k3 0<|.rt (decide (a0<=131071)))<|.k3 0<|.rt false
def Zanc:LF Empty Bool := .z0 81 [.t 2] wB
def Zand:=fun a0=>Zanc.run (Zanb a0)
theorem Zajn(a0){r}(h:Zand a0=some r):Fn PR 81 [wI a0] (wB r):=Zanc.fn h
def Z21(a0:Zai):LT Empty Bool:=
.lb 1001<|.rt ((Zpw .and .i64 a0.Line.Types 1) != 0)
def Z22:LF Empty Bool := .z0 82 [.t 2] wB
def Zyb:=fun a0=>Z22.run (Z21 a0)
theorem Zaew(a0){r}(h:Zyb a0=some r):Fn PR 82 [wA (Zax a0)] (wB r):=Z22.fn h
inductive Zo9 where
 | L0 (v0:Int) (v1:Int) (v7:Int)
def Zyc(v0:Int)(v1:Int)(v7:Int):LT Zo9 Bool:=
.br (decide (v7 < 6)) (.dc ((2:Int)≠0) rfl<|.cs ((Int.tmod v0 2)==1) (.k2 1<|.dc ((2:Int)≠0) rfl<|.k2 1<|.br ((Int.tmod v1 2)==1) (.rt false)<|.dc ((2:Int)≠0) rfl<|.dc ((2:Int)≠0) rfl<|.g0 (.L0 (Zrp .i64 v0 2) (Zrp .i64 v1 2) (IntKind.wrap .i64 (v7+1))))<|.k4 1<|.kn [0]<|.dc ((2:Int)≠0) rfl<|.dc ((2:Int)≠0) rfl<|.g0 (.L0 (Zrp .i64 v0 2) (Zrp .i64 v1 2) (IntKind.wrap .i64 (v7+1))))<|.rt true
def Z98(a0:Int)(a1:Int)(a2:Int):LT Zo9 Bool:=
.cs (decide (a0 < 0)) (.k4 0<|.b5 true<|.b2 true<|.kn [0]<|.rt false)<|.k4 0<|.cs (decide (a0 > a2)) (.k3 1<|.b4 true<|.kn [0]<|.rt false)<|.k3 1<|.cs (decide (a1 < 0)) (.k4 2<|.kn [0]<|.rt false)<|.k4 2<|.br (decide (a1 > a2)) (.rt false)<|.g0 (.L0 a0 a1 0)
def Z99:LF Zo9 Bool := .m0 122 [.t 6] wB fun | .L0 v0 v1 v7=>([1,1,0,1,4],⟨40,[(0,wI v0),(1,wI v1),(7,wI v7)],[]⟩,Zyc v0 v1 v7)
def Z7a:=fun a0 a1 a2=>Z99.run (Z98 a0 a1 a2)
theorem Z7b(a0)(a1)(a2){r}(h:Z7a a0 a1 a2=some r):Fn PR 122 [wI a0,wI a1,wI a2] (wB r):=Z99.fn h
def Zaaa(a0:Zg):LT Empty Bool:=
.lb 1001<|.cs (decide (a0.Kind < 0)) (.k4 0<|.b8 true<|.kn [0]<|.rt false)<|.k4 0<|.cs (decide (a0.Kind > 3)) (.k4 1<|.b4 true<|.kn [0]<|.rt false)<|.k4 1<|.cs (decide (a0.N < 0)) (.k4 2<|.kn [0]<|.rt false)<|.k4 2<|.br (decide (a0.N > 1000000)) (.rt false)<|.cs (a0.Kind != 0) (.k4 4<|.rt true)<|.k4 4<|.rt (a0.N==0)
def Zaab:LF Empty Bool := .z0 123 [.t 2] wB
def Z7c:=fun a0=>Zaab.run (Zaaa a0)
theorem Zyd(a0){r}(h:Z7c a0=some r):Fn PR 123 [wA (Zgy a0)] (wB r):=Zaab.fn h
inductive Zye where
 | L0 (E0:Zn)
def Zuv(E0:Zn):LT Zye Bool:=
.call (Zyd E0.Power) fun x1=>.cs x1 (.k3 0<|.call (Zyd E0.Tough) fun x4=>.kg 0<|.cs x4 (.k3 1<|.call (Zyd E0.Value) fun x7=>.kg 1<|.rt x7)<|.k4 1<|.rt false)<|.k4 0<|.b4 false<|.rt false
def Zane(a0:Zn):LT Zye Bool:=
.lb 1001<|.cs (decide (a0.Zone < 0)) (.k4 0<|.b16 true<|.b8 true<|.kn [0]<|.rt false)<|.k4 0<|.cs (decide (a0.Zone > 5)) (.k4 1<|.b16 true<|.b4 true<|.kn [0]<|.rt false)<|.k4 1<|.cs (decide (a0.Who < 0)) (.k4 2<|.b16 true<|.kn [0]<|.rt false)<|.k4 2<|.cs (decide (a0.Who > 2)) (.k4 3<|.b8 true<|.b4 true<|.kn [0]<|.rt false)<|.k4 3<|.cs (decide (a0.Self < 0)) (.k4 4<|.b8 true<|.kn [0]<|.rt false)<|.k4 4<|.cs (decide (a0.Self > 2)) (.k4 5<|.b4 true<|.kn [0]<|.rt false)<|.k4 5<|.cs (decide (a0.Tap < 0)) (.k4 6<|.kn [0]<|.rt false)<|.k4 6<|.br (decide (a0.Tap > 2)) (.rt false)<|.call (Z7b a0.Types a0.NotTypes 63) fun x9=>.cs (!x9) (.k5 8<|.k2 8<|.kn [0]<|.rt false)<|.k5 8<|.call (Z7b a0.Colors a0.NotColors 31) fun x12=>.k2 8<|.br (!x12) (.rt false)<|.cs (!(a0.Sub==([]:By))) (.k3 10<|.call (Zx9 a0.Sub) fun x16=>.k2 10<|.cs (!x16) (.k4 11<|.b4 true<|.kn [0]<|.rt false)<|.k4 11<|.cs (decide (a0.Keys < 0)) (.k4 12<|.kn [0]<|.rt false)<|.k4 12<|.br (decide (a0.Keys > 131071)) (.rt false)<|.jn 0 (.L0 a0) [.relab 1001 3000] (Zuv a0))<|.k5 10<|.b4 false<|.cs (decide (a0.Keys < 0)) (.k4 11<|.kn [0]<|.rt false)<|.k4 11<|.br (decide (a0.Keys > 131071)) (.rt false)<|.jn 0 (.L0 a0) [.relab 1001 3000] (Zuv a0)
def Zanf:LF Zye Bool := .m0 103 [.t 2] wB fun | .L0 E0=>([1,1,1,1],⟨87,[(1,.bptr 3000 0)],[(3000,.box (bx (Zy E0)))]⟩,Zuv E0)
def Zang:=fun a0=>Zanf.run (Zane a0)
theorem Zi1(a0){r}(h:Zang a0=some r):Fn PR 103 [wA (Zy a0)] (wB r):=Zanf.fn h
inductive Zol where
 | L0 (E0:Zq) (E1:Zq) (v7:Int) (v8:Bool)
 | L1 (E0:Zq) (E1:Zq) (v7:Int) (v16:Bool)
def Zpa(E0:Zq)(E1:Zq)(v7:Int)(v16:Bool):LT Zol Zq:=
.br v16 (.rt (⟨E0.Kind,E0.N,E0.M,([]:By),E0.Filter⟩:Zq))<|.br (v7==11) (.rt (⟨E0.Kind,E0.N,E0.M,E0.Sub,(⟨0,0,0,0,0,0,0,([]:By),0,0,(⟨0,0⟩:Zg),(⟨0,0⟩:Zg),(⟨0,0⟩:Zg)⟩:Zn)⟩:Zq))<|.br (v7==12) (.kn [3]<|.rt (⟨E0.Kind,0,0,E0.Sub,E0.Filter⟩:Zq))<|.br (v7==13) (.rt (⟨E0.Kind,0,0,E0.Sub,E0.Filter⟩:Zq))<|.rt E0
def Ziu(E0:Zq)(E1:Zq)(v7:Int)(v8:Bool):LT Zol Zq:=
.br v8 (.rt (⟨E0.Kind,0,E0.M,E0.Sub,E0.Filter⟩:Zq))<|.br (v7==4) (.j0 (.L1 E0 E1 v7 (v7==4)) (Zpa E0 E1 v7 (v7==4)))<|.j0 (.L1 E0 E1 v7 (v7==5)) (Zpa E0 E1 v7 (v7==5))
def Zaex(a0:Zq):LT Zol Zq:=
.lb 1001<|.lb 1002<|.br (a0.Kind==2) (.jn 0 (.L0 (⟨0,a0.N,a0.M,a0.Sub,a0.Filter⟩:Zq) (⟨0,0,0,([]:By),(⟨0,0,0,0,0,0,0,([]:By),0,0,(⟨0,0⟩:Zg),(⟨0,0⟩:Zg),(⟨0,0⟩:Zg)⟩:Zn)⟩:Zq) a0.Kind (a0.Kind==2)) [.relab 1001 3000,.relab 1002 3001] (Ziu (⟨0,a0.N,a0.M,a0.Sub,a0.Filter⟩:Zq) (⟨0,0,0,([]:By),(⟨0,0,0,0,0,0,0,([]:By),0,0,(⟨0,0⟩:Zg),(⟨0,0⟩:Zg),(⟨0,0⟩:Zg)⟩:Zn)⟩:Zq) a0.Kind (a0.Kind==2)))<|.br (a0.Kind==3) (.jn 0 (.L0 (⟨0,a0.N,a0.M,a0.Sub,a0.Filter⟩:Zq) (⟨0,0,0,([]:By),(⟨0,0,0,0,0,0,0,([]:By),0,0,(⟨0,0⟩:Zg),(⟨0,0⟩:Zg),(⟨0,0⟩:Zg)⟩:Zn)⟩:Zq) a0.Kind (a0.Kind==3)) [.relab 1001 3000,.relab 1002 3001] (Ziu (⟨0,a0.N,a0.M,a0.Sub,a0.Filter⟩:Zq) (⟨0,0,0,([]:By),(⟨0,0,0,0,0,0,0,([]:By),0,0,(⟨0,0⟩:Zg),(⟨0,0⟩:Zg),(⟨0,0⟩:Zg)⟩:Zn)⟩:Zq) a0.Kind (a0.Kind==3)))<|.br (a0.Kind==6) (.jn 0 (.L0 (⟨0,a0.N,a0.M,a0.Sub,a0.Filter⟩:Zq) (⟨0,0,0,([]:By),(⟨0,0,0,0,0,0,0,([]:By),0,0,(⟨0,0⟩:Zg),(⟨0,0⟩:Zg),(⟨0,0⟩:Zg)⟩:Zn)⟩:Zq) a0.Kind (a0.Kind==6)) [.relab 1001 3000,.relab 1002 3001] (Ziu (⟨0,a0.N,a0.M,a0.Sub,a0.Filter⟩:Zq) (⟨0,0,0,([]:By),(⟨0,0,0,0,0,0,0,([]:By),0,0,(⟨0,0⟩:Zg),(⟨0,0⟩:Zg),(⟨0,0⟩:Zg)⟩:Zn)⟩:Zq) a0.Kind (a0.Kind==6)))<|.br (a0.Kind==7) (.jn 0 (.L0 (⟨0,a0.N,a0.M,a0.Sub,a0.Filter⟩:Zq) (⟨0,0,0,([]:By),(⟨0,0,0,0,0,0,0,([]:By),0,0,(⟨0,0⟩:Zg),(⟨0,0⟩:Zg),(⟨0,0⟩:Zg)⟩:Zn)⟩:Zq) a0.Kind (a0.Kind==7)) [.relab 1001 3000,.relab 1002 3001] (Ziu (⟨0,a0.N,a0.M,a0.Sub,a0.Filter⟩:Zq) (⟨0,0,0,([]:By),(⟨0,0,0,0,0,0,0,([]:By),0,0,(⟨0,0⟩:Zg),(⟨0,0⟩:Zg),(⟨0,0⟩:Zg)⟩:Zn)⟩:Zq) a0.Kind (a0.Kind==7)))<|.br (a0.Kind==8) (.jn 0 (.L0 (⟨0,a0.N,a0.M,a0.Sub,a0.Filter⟩:Zq) (⟨0,0,0,([]:By),(⟨0,0,0,0,0,0,0,([]:By),0,0,(⟨0,0⟩:Zg),(⟨0,0⟩:Zg),(⟨0,0⟩:Zg)⟩:Zn)⟩:Zq) a0.Kind (a0.Kind==8)) [.relab 1001 3000,.relab 1002 3001] (Ziu (⟨0,a0.N,a0.M,a0.Sub,a0.Filter⟩:Zq) (⟨0,0,0,([]:By),(⟨0,0,0,0,0,0,0,([]:By),0,0,(⟨0,0⟩:Zg),(⟨0,0⟩:Zg),(⟨0,0⟩:Zg)⟩:Zn)⟩:Zq) a0.Kind (a0.Kind==8)))<|.jn 0 (.L0 (⟨0,a0.N,a0.M,a0.Sub,a0.Filter⟩:Zq) (⟨0,0,0,([]:By),(⟨0,0,0,0,0,0,0,([]:By),0,0,(⟨0,0⟩:Zg),(⟨0,0⟩:Zg),(⟨0,0⟩:Zg)⟩:Zn)⟩:Zq) a0.Kind (a0.Kind==9)) [.relab 1001 3000,.relab 1002 3001] (Ziu (⟨0,a0.N,a0.M,a0.Sub,a0.Filter⟩:Zq) (⟨0,0,0,([]:By),(⟨0,0,0,0,0,0,0,([]:By),0,0,(⟨0,0⟩:Zg),(⟨0,0⟩:Zg),(⟨0,0⟩:Zg)⟩:Zn)⟩:Zq) a0.Kind (a0.Kind==9))
def Zaey:LF Zol Zq := .m0 133 [.c 2 138 true 20] (fun r=>(wA (Zk r))) fun | .L0 E0 E1 v7 v8=>([1,1,1,0,1,4,1],⟨30,[(1,.bptr 3000 0),(2,.bptr 3001 0),(7,wI v7),(8,wB v8)],[(3000,.box (bx (Zk E0))),(3001,.box (bx (Zk E1)))]⟩,Ziu E0 E1 v7 v8) | .L1 E0 E1 v7 v16=>([1,1,1,0,1,4,1,3,1],⟨30,[(1,.bptr 3000 0),(2,.bptr 3001 0),(7,wI v7),(16,wB v16)],[(3000,.box (bx (Zk E0))),(3001,.box (bx (Zk E1)))]⟩,Zpa E0 E1 v7 v16)
def Zaca:=fun a0=>Zaey.run (Zaex a0)
theorem Zaqs(a0){r}(h:Zaca a0=some r):Fn PR 133 [wA (Zk a0)] (wA (Zk r)):=Zaey.fn h
def Zaac(a0:Int):LT Empty Bool:=
.cs (decide (a0>=1)) (.k3 0<|.cs (decide (a0<=63)) (.k4 1<|.rt ((Zpw .and .i64 a0 6)==0))<|.k4 1<|.rt false)<|.k3 0<|.b4 false<|.rt false
def Zaad:LF Empty Bool := .z0 134 [.t 2] wB
def Z7d:=fun a0=>Zaad.run (Zaac a0)
theorem Zanh(a0){r}(h:Z7d a0=some r):Fn PR 134 [wI a0] (wB r):=Zaad.fn h
inductive Zqh where
 | L0 (E0:Zq) (v18:Int) (v19:Bool)
 | L1 (E0:Zq) (v18:Int) (v25:Bool)
 | L2 (E0:Zq) (v18:Int) (v51:Bool)
def Zuw(E0:Zq)(v18:Int)(v51:Bool):LT Zqh Bool:=
.br v51 (.cs (decide (E0.N>=1)) (.k4 1<|.rt (decide (E0.N<=131071)))<|.k4 1<|.rt false)<|.br (v18==11) (.call (Zi1 E0.Filter) fun x4=>.rt x4)<|.br (v18==12) (.cs (decide (E0.N>=0)) (.k4 3<|.cs (decide (E0.N<=99)) (.k4 4<|.cs (decide (E0.M>=0)) (.k4 5<|.rt (decide (E0.M<=99)))<|.k4 5<|.rt false)<|.k4 4<|.b4 false<|.rt false)<|.k4 3<|.b8 false<|.rt false)<|.br (v18==13) (.cs (decide (E0.N>=(-99))) (.k4 4<|.cs (decide (E0.N<=99)) (.k4 5<|.cs (decide (E0.M>=(-99))) (.k4 6<|.rt (decide (E0.M<=99)))<|.k4 6<|.rt false)<|.k4 5<|.b4 false<|.rt false)<|.k4 4<|.b8 false<|.rt false)<|.rt true
def Zux(E0:Zq)(v18:Int)(v25:Bool):LT Zqh Bool:=
.br v25 (.call (Zx9 E0.Sub) fun x2=>.rt x2)<|.br (v18==6) (.cs (decide (E0.N>=0)) (.k4 2<|.rt (decide (E0.N<=31)))<|.k4 2<|.rt false)<|.br (v18==7) (.cs (decide (E0.N>=1)) (.k4 3<|.rt (decide (E0.N<=31)))<|.k4 3<|.rt false)<|.br (v18==8) (.j0 (.L2 E0 v18 (v18==8)) (Zuw E0 v18 (v18==8)))<|.j0 (.L2 E0 v18 (v18==9)) (Zuw E0 v18 (v18==9))
def Zuy(E0:Zq)(v18:Int)(v19:Bool):LT Zqh Bool:=
.br v19 (.call (Zanh E0.N) fun x2=>.rt x2)<|.br (v18==4) (.j0 (.L1 E0 v18 (v18==4)) (Zux E0 v18 (v18==4)))<|.j0 (.L1 E0 v18 (v18==5)) (Zux E0 v18 (v18==5))
def Zani(a0:Zq):LT Zqh Bool:=
.lb 1001<|.cs (decide (a0.Kind < 1)) (.k4 0<|.b5 true<|.kn [0]<|.rt false)<|.k4 0<|.cs (decide (a0.Kind > 14)) (.k5 1<|.kn [0]<|.rt false)<|.k2 1<|.call (Zaqs a0) fun x3=>.k3 1<|.br (!(Z2 (Zk x3) (Zk (⟨0,0,0,([]:By),(⟨0,0,0,0,0,0,0,([]:By),0,0,(⟨0,0⟩:Zg),(⟨0,0⟩:Zg),(⟨0,0⟩:Zg)⟩:Zn)⟩:Zq)))) (.rt false)<|.br (a0.Kind==2) (.jn 0 (.L0 a0 a0.Kind (a0.Kind==2)) [.relab 1001 3000] (Zuy a0 a0.Kind (a0.Kind==2)))<|.jn 0 (.L0 a0 a0.Kind (a0.Kind==3)) [.relab 1001 3000] (Zuy a0 a0.Kind (a0.Kind==3))
def Zanj:LF Zqh Bool := .m0 116 [.t 2] wB fun | .L0 E0 v18 v19=>([1,1,0,1,4,1],⟨107,[(1,.bptr 3000 0),(18,wI v18),(19,wB v19)],[(3000,.box (bx (Zk E0)))]⟩,Zuy E0 v18 v19) | .L1 E0 v18 v25=>([1,1,0,1,4,1,3,1],⟨107,[(1,.bptr 3000 0),(18,wI v18),(25,wB v25)],[(3000,.box (bx (Zk E0)))]⟩,Zux E0 v18 v25) | .L2 E0 v18 v51=>([1,1,0,1,4,1,3,1,3,1,3,1,3,1],⟨107,[(1,.bptr 3000 0),(18,wI v18),(51,wB v51)],[(3000,.box (bx (Zk E0)))]⟩,Zuw E0 v18 v51)
def Zank:=fun a0=>Zanj.run (Zani a0)
theorem Zajo(a0){r}(h:Zank a0=some r):Fn PR 116 [wA (Zk a0)] (wB r):=Zanj.fn h
inductive Zng where
 | L0 (v0:Bys) (v1:Int) (v2:By) (v7:By) (v8:Int)
def Zvv(v0:Bys)(v1:Int)(v2:By)(v7:By)(v8:Int):LT Zng (By):=
.len cS v0<|.br (decide (v8 < (v0.length:Int))) (.call (Z4i v1 v8) fun x3=>.br x3 (.br (!(v7==([]:By))) (.ok (v7.length+v2.length<=9223372036854775807)<|.idx cS v0 v8 fun x10=>.ok ((v7++v2).length+x10.length<=9223372036854775807)<|.g0 (.L0 v0 v1 v2 ((v7++v2)++x10) (IntKind.wrap .i64 (v8+1))))<|.idx cS v0 v8 fun x17=>.ok (v7.length+x17.length<=9223372036854775807)<|.g0 (.L0 v0 v1 v2 (v7++x17) (IntKind.wrap .i64 (v8+1))))<|.g0 (.L0 v0 v1 v2 v7 (IntKind.wrap .i64 (v8+1))))<|.rt v7
def Z7e(a0:Bys)(a1:Int)(a2:By):LT Zng (By):=
.g0 (.L0 a0 a1 a2 ([]:By) 0)
def Z7f:LF Zng (By) := .m0 149 [.t 6] wS fun | .L0 v0 v1 v2 v7 v8=>([1,1,0,1,4],⟨30,[(0,wL cS v0),(1,wI v1),(2,wS v2),(7,wS v7),(8,wI v8)],[]⟩,Zvv v0 v1 v2 v7 v8)
def Z4j:=fun a0 a1 a2=>Z7f.run (Z7e a0 a1 a2)
theorem Zaj3(a0)(a1)(a2){r}(h:Z4j a0 a1 a2=some r):Fn PR 149 [wL cS a0,wI a1,wS a2] (wS r):=Z7f.fn h
def Zz7(a0:Int):LT Empty (By):=
.cs (decide (a0 < 1)) (.k3 0<|.kn [0]<|.rt ([]:By))<|.k3 0<|.br (decide (a0 > 63)) (.rt ([]:By))<|.call (Zx8) fun x3=>.call (Zaj3 x3 a0 ([43]:By)) fun x5=>.rt x5
def Zz8:LF Empty (By) := .z0 135 [.t 2] wS
def Zvw:=fun a0=>Zz8.run (Zz7 a0)
theorem Zqi(a0){r}(h:Zvw a0=some r):Fn PR 135 [wI a0] (wS r):=Zz8.fn h
def Zanl(a0:Int):LT Empty Bool:=
.cs (decide (a0>=0)) (.k3 0<|.rt (decide (a0<=31)))<|.k3 0<|.rt false
def Zanm:LF Empty Bool := .z0 150 [.t 2] wB
def Zann:=fun a0=>Zanm.run (Zanl a0)
theorem Zavz(a0){r}(h:Zann a0=some r):Fn PR 150 [wI a0] (wB r):=Zanm.fn h
def Zaez(a0:Int):LT Empty (By):=
.br (a0==0) (.rt ([97,109,98,101,114]:By))<|.br (a0==1) (.rt ([99,111,98,97,108,116]:By))<|.br (a0==2) (.rt ([106,101,116]:By))<|.br (a0==3) (.rt ([114,117,98,121]:By))<|.br (a0==4) (.rt ([101,109,101,114,97,108,100]:By))<|.rt ([]:By)
def Zae0:LF Empty (By) := .z0 151 [.t 2] wS
def Zacb:=fun a0=>Zae0.run (Zaez a0)
theorem Zt8(a0){r}(h:Zacb a0=some r):Fn PR 151 [wI a0] (wS r):=Zae0.fn h
inductive Zrr where
 | L0 (v0:Int) (v3:By) (v4:Int)
def Z1i(v0:Int)(v3:By)(v4:Int):LT Zrr (By):=
.br (decide (v4 < 5)) (.ok (¬ v4 < 0)<|.ok ((shlI .i64 1 v4)≠0)<|.dc ((2:Int)≠0) rfl<|.br ((Int.tmod (Zrp .i64 v0 (shlI .i64 1 v4)) 2)==1) (.br (!(v3==([]:By))) (.ok (v3.length+([43]:By).length<=9223372036854775807)<|.call (Zt8 v4) fun x10=>.ok ((v3++([43]:By)).length+x10.length<=9223372036854775807)<|.g0 (.L0 v0 ((v3++([43]:By))++x10) (IntKind.wrap .i64 (v4+1))))<|.call (Zt8 v4) fun x17=>.ok (v3.length+x17.length<=9223372036854775807)<|.g0 (.L0 v0 (v3++x17) (IntKind.wrap .i64 (v4+1))))<|.g0 (.L0 v0 v3 (IntKind.wrap .i64 (v4+1))))<|.rt v3
def Zae1(a0:Int):LT Zrr (By):=
.call (Zavz a0) fun x1=>.br (!x1) (.rt ([]:By))<|.br (a0==0) (.rt ([110,111,110,101]:By))<|.g0 (.L0 a0 ([]:By) 0)
def Zae2:LF Zrr (By) := .m0 136 [.t 2] wS fun | .L0 v0 v3 v4=>([1,1,1,1,0,1,4],⟨29,[(0,wI v0),(3,wS v3),(4,wI v4)],[]⟩,Z1i v0 v3 v4)
def Zacc:=fun a0=>Zae2.run (Zae1 a0)
theorem Zaae(a0){r}(h:Zacc a0=some r):Fn PR 136 [wI a0] (wS r):=Zae2.fn h
def Zaaf:LT Empty (Bys):=
.lb 1001<|.ret [([102,108,121,105,110,103]:By),([114,101,97,99,104]:By),([104,97,115,116,101]:By),([118,105,103,105,108,97,110,116]:By),([116,114,97,109,112,108,101]:By),([102,105,114,115,116,45,115,116,114,105,107,101]:By),([100,111,117,98,108,101,45,115,116,114,105,107,101]:By),([100,101,97,100,108,121]:By),([108,105,102,101,108,105,110,107]:By),([109,101,110,97,99,101]:By),([100,101,102,101,110,100,101,114]:By),([119,97,114,100,101,100]:By),([115,116,117,114,100,121]:By),([101,108,117,115,105,118,101]:By),([110,111,45,97,116,116,97,99,107]:By),([110,111,45,98,108,111,99,107]:By),([109,117,115,116,45,97,116,116,97,99,107]:By)] [.relab 1001 5000]
def Zaag:LF Empty (Bys) := .z 167 [.t 0] true (fun r=>[(5000,wR cS 1 r)]) (fun r=>(wO cS 5000 r))
def Zz9:=Zaag.run (Zaaf)
theorem Zaj4{r}(h:Zz9=some r):FnG PR 167 [] [] [(5000,wR cS 1 r)] (wO cS 5000 r):=Zaag.fn h
theorem Zano{r:Bys}(h:Zz9=some r):Fn PR 167 [] (wL cS r):=
 FnG.frozen (C:=LT.RL cS r/\True) (Zaj4 h) ⟨rfl,trivial⟩ (by kernel_rfl)
def Zae3(a0:Int):LT Empty (By):=
.cs (decide (a0 < 0)) (.k3 0<|.kn [0]<|.rt ([]:By))<|.k3 0<|.br (decide (a0 > 16)) (.rt ([]:By))<|.call (Zano) fun x3=>.idx cS x3 a0 fun x5=>.rt x5
def Zae4:LF Empty (By) := .z0 152 [.t 2] wS
def Zacd:=fun a0=>Zae4.run (Zae3 a0)
theorem Z1j(a0){r}(h:Zacd a0=some r):Fn PR 152 [wI a0] (wS r):=Zae4.fn h
inductive Zrs where
 | L0 (v0:Int) (v3:By) (v4:Int)
def Z1k(v0:Int)(v3:By)(v4:Int):LT Zrs (By):=
.br (decide (v4 < 17)) (.dc ((2:Int)≠0) rfl<|.br ((Int.tmod v0 2)==1) (.br (!(v3==([]:By))) (.ok (v3.length+([43]:By).length<=9223372036854775807)<|.call (Z1j v4) fun x6=>.ok ((v3++([43]:By)).length+x6.length<=9223372036854775807)<|.dc ((2:Int)≠0) rfl<|.g0 (.L0 (Zrp .i64 v0 2) ((v3++([43]:By))++x6) (IntKind.wrap .i64 (v4+1))))<|.call (Z1j v4) fun x13=>.ok (v3.length+x13.length<=9223372036854775807)<|.dc ((2:Int)≠0) rfl<|.g0 (.L0 (Zrp .i64 v0 2) (v3++x13) (IntKind.wrap .i64 (v4+1))))<|.dc ((2:Int)≠0) rfl<|.g0 (.L0 (Zrp .i64 v0 2) v3 (IntKind.wrap .i64 (v4+1))))<|.br (v3==([]:By)) (.rt ([110,111,110,101]:By))<|.rt v3
def Zae5(a0:Int):LT Zrs (By):=
.call (Zajn a0) fun x1=>.br (!x1) (.rt ([]:By))<|.g0 (.L0 a0 ([]:By) 0)
def Zae6:LF Zrs (By) := .m0 137 [.t 2] wS fun | .L0 v0 v3 v4=>([1,1,1,0,1,4],⟨28,[(0,wI v0),(3,wS v3),(4,wI v4)],[]⟩,Z1k v0 v3 v4)
def Zace:=fun a0=>Zae6.run (Zae5 a0)
theorem Zaah(a0){r}(h:Zace a0=some r):Fn PR 137 [wI a0] (wS r):=Zae6.fn h
def Z0a:LT Empty (Bys):=
.lb 1001<|.ret [([]:By),([105,110,45,104,97,110,100]:By),([105,110,45,108,105,98,114,97,114,121]:By),([105,110,45,103,114,97,118,101,121,97,114,100]:By),([105,110,45,101,120,105,108,101]:By),([111,110,45,115,116,97,99,107]:By)] [.relab 1001 5000]
def Z0b:LF Empty (Bys) := .z 153 [.t 0] true (fun r=>[(5000,wR cS 1 r)]) (fun r=>(wO cS 5000 r))
def Zp1:=Z0b.run (Z0a)
theorem Z9l{r}(h:Zp1=some r):FnG PR 153 [] [] [(5000,wR cS 1 r)] (wO cS 5000 r):=Z0b.fn h
theorem Zacf{r:Bys}(h:Zp1=some r):Fn PR 153 [] (wL cS r):=
 FnG.frozen (C:=LT.RL cS r/\True) (Z9l h) ⟨rfl,trivial⟩ (by kernel_rfl)
def Z23:LT Empty (Bys):=
.lb 1001<|.ret [([]:By),([121,111,117,114,115]:By),([116,104,101,105,114,115]:By)] [.relab 1001 5000]
def Z24:LF Empty (Bys) := .z 154 [.t 0] true (fun r=>[(5000,wR cS 1 r)]) (fun r=>(wO cS 5000 r))
def Zrt:=Z24.run (Z23)
theorem Zacg{r}(h:Zrt=some r):FnG PR 154 [] [] [(5000,wR cS 1 r)] (wO cS 5000 r):=Z24.fn h
theorem Zae7{r:Bys}(h:Zrt=some r):Fn PR 154 [] (wL cS r):=
 FnG.frozen (C:=LT.RL cS r/\True) (Zacg h) ⟨rfl,trivial⟩ (by kernel_rfl)
def Z0c:LT Empty (Bys):=
.lb 1001<|.ret [([]:By),([115,101,108,102]:By),([111,116,104,101,114]:By)] [.relab 1001 5000]
def Z0d:LF Empty (Bys) := .z 155 [.t 0] true (fun r=>[(5000,wR cS 1 r)]) (fun r=>(wO cS 5000 r))
def Zp2:=Z0d.run (Z0c)
theorem Z9m{r}(h:Zp2=some r):FnG PR 155 [] [] [(5000,wR cS 1 r)] (wO cS 5000 r):=Z0d.fn h
theorem Zach{r:Bys}(h:Zp2=some r):Fn PR 155 [] (wL cS r):=
 FnG.frozen (C:=LT.RL cS r/\True) (Z9m h) ⟨rfl,trivial⟩ (by kernel_rfl)
def Z25:LT Empty (Bys):=
.lb 1001<|.ret [([]:By),([116,97,112,112,101,100]:By),([117,110,116,97,112,112,101,100]:By)] [.relab 1001 5000]
def Z26:LF Empty (Bys) := .z 156 [.t 0] true (fun r=>[(5000,wR cS 1 r)]) (fun r=>(wO cS 5000 r))
def Zru:=Z26.run (Z25)
theorem Zaci{r}(h:Zru=some r):FnG PR 156 [] [] [(5000,wR cS 1 r)] (wO cS 5000 r):=Z26.fn h
theorem Zae8{r:Bys}(h:Zru=some r):Fn PR 156 [] (wL cS r):=
 FnG.frozen (C:=LT.RL cS r/\True) (Zaci h) ⟨rfl,trivial⟩ (by kernel_rfl)
inductive Zuz where
 | L0 (v0:Int) (v1:Int) (v5:Int)
def Z4k(v0:Int)(v1:Int)(v5:Int):LT Zuz Bool:=
.br (decide (v5 < v1)) (.dc ((2:Int)≠0) rfl<|.g0 (.L0 (Zrp .i64 v0 2) v1 (IntKind.wrap .i64 (v5+1))))<|.dc ((2:Int)≠0) rfl<|.rt ((Int.tmod v0 2)==1)
def Zajp(a0:Int)(a1:Int):LT Zuz Bool:=
.g0 (.L0 a0 a1 0)
def Zajq:LF Zuz Bool := .m0 158 [.t 4] wB fun | .L0 v0 v1 v5=>([1,0,1,4],⟨16,[(0,wI v0),(1,wI v1),(5,wI v5)],[]⟩,Z4k v0 v1 v5)
def Zah8:=fun a0 a1=>Zajq.run (Zajp a0 a1)
theorem Zrv(a0)(a1){r}(h:Zah8 a0 a1=some r):Fn PR 158 [wI a0,wI a1] (wB r):=Zajq.fn h
inductive Zks where
 | L0 (v0:Int) (v3:Int) (v4:Int)
def Zrw(v0:Int)(v3:Int)(v4:Int):LT Zks (By):=
.br (decide (v4 < v0)) (.g0 (.L0 v0 (IntKind.wrap .i64 (v3*2)) (IntKind.wrap .i64 (v4+1))))<|.call (Zqi v3) fun x6=>.rt x6
def Z27(a0:Int):LT Zks (By):=
.g0 (.L0 a0 1 0)
def Z28:LF Zks (By) := .m0 159 [.t 2] wS fun | .L0 v0 v3 v4=>([1,1,0,1,4],⟨14,[(0,wI v0),(3,wI v3),(4,wI v4)],[]⟩,Zrw v0 v3 v4)
def Zyf:=fun a0=>Z28.run (Z27 a0)
theorem Z0e(a0){r}(h:Zyf a0=some r):Fn PR 159 [wI a0] (wS r):=Z28.fn h
def Zaai:LT Empty (Bys):=
.lb 1001<|.ret [([]:By),([62,61]:By),([60,61]:By),([61]:By)] [.relab 1001 5000]
def Zaaj:LF Empty (Bys) := .z 168 [.t 0] true (fun r=>[(5000,wR cS 1 r)]) (fun r=>(wO cS 5000 r))
def Z0f:=Zaaj.run (Zaai)
theorem Zaj5{r}(h:Z0f=some r):FnG PR 168 [] [] [(5000,wR cS 1 r)] (wO cS 5000 r):=Zaaj.fn h
theorem Zanp{r:Bys}(h:Z0f=some r):Fn PR 168 [] (wL cS r):=
 FnG.frozen (C:=LT.RL cS r/\True) (Zaj5 h) ⟨rfl,trivial⟩ (by kernel_rfl)
inductive Zyg where
 | L0 (v0:Int) (v3:By)
def Zi8(v0:Int)(v3:By):LT Zyg (By):=
.br (decide (v0 > 0)) (.dc ((10:Int)≠0) rfl<|.dr [.lit]<|.str [IntKind.wrap .u8 (IntKind.wrap .u64 (48+(Int.tmod v0 10)))] fun x4=>.ok (x4.length+v3.length<=9223372036854775807)<|.dc ((10:Int)≠0) rfl<|.g0 (.L0 (Zrp .u64 v0 10) (x4++v3)))<|.rt v3
def Z7g(a0:Int):LT Zyg (By):=
.dc ((10:Int)≠0) rfl<|.dr [.lit]<|.str [IntKind.wrap .u8 (IntKind.wrap .u64 (48+(Int.tmod a0 10)))] fun x3=>.dc ((10:Int)≠0) rfl<|.g0 (.L0 (Zrp .u64 a0 10) x3)
def Zrx:LF Zyg (By) := .m0 162 [.t 2] wS fun | .L0 v0 v3=>([1,1,0,1,4],⟨25,[(0,.t (.int .u64 v0)),(3,wS v3)],[]⟩,Zi8 v0 v3)
def Z4l:=fun a0=>Zrx.run (Z7g a0)
theorem Z5l(a0){r}(h:Z4l a0=some r):Fn PR 162 [.t (.int .u64 a0)] (wS r):=Zrx.fn h
def Zae9(a0:Int):LT Empty (By):=
.br (decide (a0 < 0)) (.call (Z5l (IntKind.wrap .u64 (0 - (IntKind.wrap .u64 a0)))) fun x4=>.ok (([45]:By).length+x4.length<=9223372036854775807)<|.rt (([45]:By)++x4))<|.call (Z5l (IntKind.wrap .u64 a0)) fun x10=>.rt x10
def Zafa:LF Empty (By) := .z0 139 [.t 2] wS
def Zacj:=fun a0=>Zafa.run (Zae9 a0)
theorem Zmo(a0){r}(h:Zacj a0=some r):Fn PR 139 [wI a0] (wS r):=Zafa.fn h
def Z0g(a0:By)(a1:Zg):LT Empty (By):=
.lb 1003<|.br (a1.Kind==0) (.rt ([]:By))<|.call (Zanp) fun x2=>.idx cS x2 a1.Kind fun x4=>.ok (a0.length+x4.length<=9223372036854775807)<|.call (Zmo a1.N) fun x10=>.ok ((a0++x4).length+x10.length<=9223372036854775807)<|.rt ((a0++x4)++x10)
def Z0h:LF Empty (By) := .z0 160 [.t 4] wS
def Zvx:=fun a0 a1=>Z0h.run (Z0g a0 a1)
theorem Zqj(a0)(a1){r}(h:Zvx a0 a1=some r):Fn PR 160 [wS a0,wA (Zgy a1)] (wS r):=Z0h.fn h
inductive Zry where
 | L0 (v0:Bys) (v1:By) (v5:By) (v6:Int)
def Z1l(v0:Bys)(v1:By)(v5:By)(v6:Int):LT Zry (By):=
.len cS v0<|.br (decide (v6 < (v0.length:Int))) (.br (decide (v6 > 0)) (.ok (v5.length+v1.length<=9223372036854775807)<|.idx cS v0 v6 fun x7=>.ok ((v5++v1).length+x7.length<=9223372036854775807)<|.g0 (.L0 v0 v1 ((v5++v1)++x7) (IntKind.wrap .i64 (v6+1))))<|.idx cS v0 v6 fun x14=>.ok (v5.length+x14.length<=9223372036854775807)<|.g0 (.L0 v0 v1 (v5++x14) (IntKind.wrap .i64 (v6+1))))<|.rt v5
def Zafb(a0:Bys)(a1:By):LT Zry (By):=
.g0 (.L0 a0 a1 ([]:By) 0)
def Zafc:LF Zry (By) := .m0 161 [.t 4] wS fun | .L0 v0 v1 v5 v6=>([1,1,0,1,4],⟨25,[(0,wL cS v0),(1,wS v1),(5,wS v5),(6,wI v6)],[]⟩,Z1l v0 v1 v5 v6)
def Zack:=fun a0 a1=>Zafc.run (Zafb a0 a1)
theorem Zaqt(a0)(a1){r}(h:Zack a0 a1=some r):Fn PR 161 [wL cS a0,wS a1] (wS r):=Zafc.fn h
def Z29(b0:Bys)(a1:By):LT Empty (Bys):=
.br (a1==([]:By)) (.ret b0 [.relab 0 5000])<|.dr [.lit]<|.apR cS 16 b0 [a1] fun x2=>.ret x2 [.relab 0 5000]
def Z3a:LF Empty (Bys) := .z 157 [.t 4] true (fun r=>[(5000,wR cS 1 r)]) (fun r=>(wO cS 5000 r))
def Zyh:=fun b0 a1=>Z3a.run (Z29 b0 a1)
theorem Zg5(b0)(a1){r}(h:Zyh b0 a1=some r):FnG PR 157 [(0,wR cS 1 b0)] [wO cS 0 b0,wS a1] [(5000,wR cS 1 r)] (wO cS 5000 r):=Z3a.fn h
inductive Ziv where
 | L0 (E0:Zn) (v6:Bys) (v7:Bys) (v8:Int)
 | L1 (E0:Zn) (v6:Bys) (v7:Bys) (v9:Int)
 | L2 (E0:Zn) (v6:Bys) (v7:Bys) (v10:Int)
 | L3 (E0:Zn) (v6:Bys) (v7:Bys) (v11:Int)
 | L4 (E0:Zn) (v6:Bys) (v7:Bys)
 | L5 (E0:Zn) (v6:Bys) (v7:Bys) (v12:Int)
def Zpb(E0:Zn)(v6:Bys)(v7:Bys):LT Ziv (By):=
.g0 (.L5 E0 v6 v7 0)
def Z1m(E0:Zn)(v6:Bys)(v7:Bys)(v8:Int):LT Ziv (By):=
.br (decide (v8 < 6)) (.call (Zrv E0.Types v8) fun x2=>.br x2 (.call (Z0e v8) fun x5=>.dr [.lit]<|.apR cS 16 v7 [x5] fun x7=>.g0 (.L0 E0 v6 x7 (IntKind.wrap .i64 (v8+1))))<|.g0 (.L0 E0 v6 v7 (IntKind.wrap .i64 (v8+1))))<|.g0 (.L1 E0 v6 v7 0)
def Z1n(E0:Zn)(v6:Bys)(v7:Bys)(v9:Int):LT Ziv (By):=
.br (decide (v9 < 6)) (.call (Zrv E0.NotTypes v9) fun x2=>.br x2 (.call (Z0e v9) fun x5=>.ok (([110,111,110,45]:By).length+x5.length<=9223372036854775807)<|.dr [.lit]<|.apR cS 16 v7 [([110,111,110,45]:By)++x5] fun x10=>.g0 (.L1 E0 v6 x10 (IntKind.wrap .i64 (v9+1))))<|.g0 (.L1 E0 v6 v7 (IntKind.wrap .i64 (v9+1))))<|.g0 (.L2 E0 v6 v7 0)
def Z1o(E0:Zn)(v6:Bys)(v7:Bys)(v10:Int):LT Ziv (By):=
.br (decide (v10 < 5)) (.call (Zrv E0.Colors v10) fun x2=>.br x2 (.call (Zt8 v10) fun x5=>.dr [.lit]<|.apR cS 16 v7 [x5] fun x7=>.g0 (.L2 E0 v6 x7 (IntKind.wrap .i64 (v10+1))))<|.g0 (.L2 E0 v6 v7 (IntKind.wrap .i64 (v10+1))))<|.g0 (.L3 E0 v6 v7 0)
def Z1p(E0:Zn)(v6:Bys)(v7:Bys)(v11:Int):LT Ziv (By):=
.br (decide (v11 < 5)) (.call (Zrv E0.NotColors v11) fun x2=>.br x2 (.call (Zt8 v11) fun x5=>.ok (([110,111,110,45]:By).length+x5.length<=9223372036854775807)<|.dr [.lit]<|.apR cS 16 v7 [([110,111,110,45]:By)++x5] fun x10=>.g0 (.L3 E0 v6 x10 (IntKind.wrap .i64 (v11+1))))<|.g0 (.L3 E0 v6 v7 (IntKind.wrap .i64 (v11+1))))<|.br (!(E0.Sub==([]:By))) (.ok (([115,117,98,58]:By).length+E0.Sub.length<=9223372036854775807)<|.dr [.lit]<|.apR cS 16 v7 [([115,117,98,58]:By)++E0.Sub] fun x21=>.j0 (.L4 E0 v6 x21) (Zpb E0 v6 x21))<|.j0 (.L4 E0 v6 v7) (Zpb E0 v6 v7)
def Z1q(E0:Zn)(v6:Bys)(v7:Bys)(v12:Int):LT Ziv (By):=
.br (decide (v12 < 17)) (.call (Zrv E0.Keys v12) fun x2=>.br x2 (.call (Z1j v12) fun x5=>.ok (([119,105,116,104,58]:By).length+x5.length<=9223372036854775807)<|.dr [.lit]<|.apR cS 16 v7 [([119,105,116,104,58]:By)++x5] fun x10=>.g0 (.L5 E0 v6 x10 (IntKind.wrap .i64 (v12+1))))<|.g0 (.L5 E0 v6 v7 (IntKind.wrap .i64 (v12+1))))<|.idx cS v6 E0.Tap fun x17=>.callU (Zg5 v7 x17) [20007] 1250000 fun x19=>.call (Zqj ([112,111,119,101,114]:By) E0.Power) fun x21=>.callU (Zg5 x19 x21) [1255000] 1300000 fun x23=>.call (Zqj ([116,111,117,103,104]:By) E0.Tough) fun x25=>.callU (Zg5 x23 x25) [1305000] 1350000 fun x27=>.call (Zqj ([118,97,108,117,101]:By) E0.Value) fun x29=>.callU (Zg5 x27 x29) [1355000] 1400000 fun x31=>.lenO cS x31<|.br ((x31.length:Int)==0) (.rt ([97,110,121]:By))<|.rl cS x31<|.call (Zaqt x31 ([32]:By)) fun x34=>.rt x34
def Zafd(a0:Zn):LT Ziv (By):=
.lb 1001<|.call (Zi1 a0) fun x1=>.br (!x1) (.rt ([]:By))<|.call (Zacf) fun x4=>.call (Zae7) fun x6=>.call (Zach) fun x8=>.call (Zae8) fun x10=>.idx cS x4 a0.Zone fun x12=>.dr [.ahead 26,.own 20 70260 1,.stop]<|.callU (Zg5 ([]:Bys) x12) [70260] 270000 fun x14=>.idx cS x6 a0.Who fun x16=>.callU (Zg5 x14 x16) [275000] 340000 fun x18=>.idx cS x8 a0.Self fun x20=>.callU (Zg5 x18 x20) [345000] 410000 fun x22=>.go (.L0 a0 x10 x22 0) [.relab 1001 3000,.relab 415000 20007]
def Zafe:LF Ziv (By) := .m0 138 [.t 2] wS fun | .L0 E0 v6 v7 v8=>([1,1,1,1,1,1,1,1,1,1,0,1,4],⟨145,[(1,.bptr 3000 0),(6,wL cS v6),(7,wO cS 20007 v7),(8,wI v8)],[(3000,.box (bx (Zy E0))),(20007,wR cS 1 v7)]⟩,Z1m E0 v6 v7 v8) | .L1 E0 v6 v7 v9=>([1,1,1,1,1,1,1,1,1,1,1,0,1,4],⟨145,[(1,.bptr 3000 0),(6,wL cS v6),(7,wO cS 20007 v7),(9,wI v9)],[(3000,.box (bx (Zy E0))),(20007,wR cS 1 v7)]⟩,Z1n E0 v6 v7 v9) | .L2 E0 v6 v7 v10=>([1,1,1,1,1,1,1,1,1,1,1,1,0,1,4],⟨145,[(1,.bptr 3000 0),(6,wL cS v6),(7,wO cS 20007 v7),(10,wI v10)],[(3000,.box (bx (Zy E0))),(20007,wR cS 1 v7)]⟩,Z1o E0 v6 v7 v10) | .L3 E0 v6 v7 v11=>([1,1,1,1,1,1,1,1,1,1,1,1,1,0,1,4],⟨145,[(1,.bptr 3000 0),(6,wL cS v6),(7,wO cS 20007 v7),(11,wI v11)],[(3000,.box (bx (Zy E0))),(20007,wR cS 1 v7)]⟩,Z1p E0 v6 v7 v11) | .L4 E0 v6 v7=>([1,1,1,1,1,1,1,1,1,1,1,1,1,1,1],⟨145,[(1,.bptr 3000 0),(6,wL cS v6),(7,wO cS 20007 v7)],[(3000,.box (bx (Zy E0))),(20007,wR cS 1 v7)]⟩,Zpb E0 v6 v7) | .L5 E0 v6 v7 v12=>([1,1,1,1,1,1,1,1,1,1,1,1,1,1,1,0,1,4],⟨145,[(1,.bptr 3000 0),(6,wL cS v6),(7,wO cS 20007 v7),(12,wI v12)],[(3000,.box (bx (Zy E0))),(20007,wR cS 1 v7)]⟩,Z1q E0 v6 v7 v12)
def Zacl:=fun a0=>Zafe.run (Zafd a0)
theorem Zaqu(a0){r}(h:Zacl a0=some r):Fn PR 138 [wA (Zy a0)] (wS r):=Zafe.fn h
def Zaff(a0:Zq):LT Empty (By):=
.lb 1001<|.call (Zajo a0) fun x1=>.br (!x1) (.rt ([]:By))<|.br (a0.Kind==1) (.rt ([99,111,110,116,114,111,108]:By))<|.br (a0.Kind==2) (.call (Zqi a0.N) fun x6=>.ok (([116,121,112,101,115,61]:By).length+x6.length<=9223372036854775807)<|.rt (([116,121,112,101,115,61]:By)++x6))<|.br (a0.Kind==3) (.call (Zqi a0.N) fun x12=>.ok (([116,121,112,101,115,43,61]:By).length+x12.length<=9223372036854775807)<|.rt (([116,121,112,101,115,43,61]:By)++x12))<|.br (a0.Kind==4) (.ok (([115,117,98,61]:By).length+a0.Sub.length<=9223372036854775807)<|.rt (([115,117,98,61]:By)++a0.Sub))<|.br (a0.Kind==5) (.ok (([115,117,98,43,61]:By).length+a0.Sub.length<=9223372036854775807)<|.rt (([115,117,98,43,61]:By)++a0.Sub))<|.br (a0.Kind==6) (.call (Zaae a0.N) fun x26=>.ok (([99,111,108,111,114,115,61]:By).length+x26.length<=9223372036854775807)<|.rt (([99,111,108,111,114,115,61]:By)++x26))<|.br (a0.Kind==7) (.call (Zaae a0.N) fun x32=>.ok (([99,111,108,111,114,115,43,61]:By).length+x32.length<=9223372036854775807)<|.rt (([99,111,108,111,114,115,43,61]:By)++x32))<|.br (a0.Kind==8) (.call (Zaah a0.N) fun x38=>.ok (([107,101,121,115,43,61]:By).length+x38.length<=9223372036854775807)<|.rt (([107,101,121,115,43,61]:By)++x38))<|.br (a0.Kind==9) (.call (Zaah a0.N) fun x44=>.ok (([107,101,121,115,45,61]:By).length+x44.length<=9223372036854775807)<|.rt (([107,101,121,115,45,61]:By)++x44))<|.br (a0.Kind==10) (.rt ([98,108,97,110,107]:By))<|.br (a0.Kind==11) (.call (Zaqu a0.Filter) fun x51=>.ok (([112,116,61,99,111,117,110,116,40]:By).length+x51.length<=9223372036854775807)<|.ok ((([112,116,61,99,111,117,110,116,40]:By)++x51).length+([41]:By).length<=9223372036854775807)<|.rt ((([112,116,61,99,111,117,110,116,40]:By)++x51)++([41]:By)))<|.br (a0.Kind==12) (.call (Zmo a0.N) fun x58=>.ok (([112,116,61]:By).length+x58.length<=9223372036854775807)<|.ok ((([112,116,61]:By)++x58).length+([47]:By).length<=9223372036854775807)<|.call (Zmo a0.M) fun x65=>.ok (((([112,116,61]:By)++x58)++([47]:By)).length+x65.length<=9223372036854775807)<|.rt (((([112,116,61]:By)++x58)++([47]:By))++x65))<|.br (a0.Kind==13) (.call (Zmo a0.N) fun x71=>.ok (([112,116,43,61]:By).length+x71.length<=9223372036854775807)<|.ok ((([112,116,43,61]:By)++x71).length+([47]:By).length<=9223372036854775807)<|.call (Zmo a0.M) fun x78=>.ok (((([112,116,43,61]:By)++x71)++([47]:By)).length+x78.length<=9223372036854775807)<|.rt (((([112,116,43,61]:By)++x71)++([47]:By))++x78))<|.rt ([112,116,45,115,119,105,116,99,104]:By)
def Zafg:LF Empty (By) := .z0 117 [.t 2] wS
def Zacm:=fun a0=>Zafg.run (Zaff a0)
theorem Zaak(a0){r}(h:Zacm a0=some r):Fn PR 117 [wA (Zk a0)] (wS r):=Zafg.fn h
inductive Zkt where
 | L0 (v0:List Zq) (v3:By) (v4:Int)
def Zrz(v0:List Zq)(v3:By)(v4:Int):LT Zkt (By):=
.len Zk v0<|.br (decide (v4 < (v0.length:Int))) (.idx Zk v0 v4 fun x3=>.call (Zajo x3) fun x5=>.br (!x5) (.rt ([]:By))<|.br (decide (v4 > 0)) (.ok (v3.length+([44,32]:By).length<=9223372036854775807)<|.ag Zk x3 0<|.call (Zaak x3) fun x11=>.ok ((v3++([44,32]:By)).length+x11.length<=9223372036854775807)<|.g0 (.L0 v0 ((v3++([44,32]:By))++x11) (IntKind.wrap .i64 (v4+1))))<|.ag Zk x3 0<|.call (Zaak x3) fun x17=>.ok (v3.length+x17.length<=9223372036854775807)<|.g0 (.L0 v0 (v3++x17) (IntKind.wrap .i64 (v4+1))))<|.rt v3
def Z3b(a0:List Zq):LT Zkt (By):=
.len Zk a0<|.cs ((a0.length:Int)==0) (.k4 0<|.kn [0]<|.rt ([]:By))<|.k2 0<|.len Zk a0<|.k2 0<|.br (decide ((a0.length:Int) > 6)) (.rt ([]:By))<|.g0 (.L0 a0 ([]:By) 0)
def Z3c:LF Zkt (By) := .m0 92 [.t 2] wS fun | .L0 v0 v3 v4=>([1,1,1,0,1,4],⟨37,[(0,wL Zk v0),(3,wS v3),(4,wI v4)],[]⟩,Zrz v0 v3 v4)
def Zyi:=fun a0=>Z3c.run (Z3b a0)
theorem Zr0(a0){r}(h:Zyi a0=some r):Fn PR 92 [wL Zk a0] (wS r):=Z3c.fn h
def Zaal(a0:Zh6):LT Empty Bool:=
.lb 1001<|.call (Z64 a0.Mana) fun x1=>.cs x1 (.k5 0<|.cs (a0.Mana.X==0) (.k4 1<|.cs (decide (a0.Life>=0)) (.k4 2<|.rt (decide (a0.Life<=99)))<|.k4 2<|.rt false)<|.k4 1<|.b4 false<|.rt false)<|.k5 0<|.b8 false<|.rt false
def Zaam:LF Empty Bool := .z0 104 [.t 2] wB
def Z7h:=fun a0=>Zaam.run (Zaal a0)
theorem Zanq(a0){r}(h:Z7h a0=some r):Fn PR 104 [wA (Zei a0)] (wB r):=Zaam.fn h
def Zafh(a0:Int):LT Empty (By):=
.br (a0==1) (.rt ([101,110,116,101,114,115]:By))<|.br (a0==2) (.rt ([108,101,97,118,101,115]:By))<|.br (a0==3) (.rt ([100,105,101,115]:By))<|.br (a0==4) (.rt ([97,116,116,97,99,107,115]:By))<|.br (a0==5) (.rt ([98,108,111,99,107,115]:By))<|.br (a0==6) (.rt ([100,101,97,108,115]:By))<|.br (a0==7) (.rt ([100,101,97,108,116]:By))<|.br (a0==8) (.rt ([100,114,97,119,115]:By))<|.br (a0==9) (.rt ([99,97,115,116,115]:By))<|.br (a0==10) (.rt ([117,112,107,101,101,112]:By))<|.br (a0==11) (.rt ([101,110,100]:By))<|.br (a0==12) (.rt ([103,97,105,110,115]:By))<|.br (a0==13) (.rt ([108,111,115,101,115]:By))<|.br (a0==14) (.rt ([112,108,97,99,101,100]:By))<|.rt ([]:By)
def Zafi:LF Empty (By) := .z0 124 [.t 2] wS
def Zacn:=fun a0=>Zafi.run (Zafh a0)
theorem Zaan(a0){r}(h:Zacn a0=some r):Fn PR 124 [wI a0] (wS r):=Zafi.fn h
def Z7i(a0:Int):LT Empty Bool:=
.cs (a0==8) (.k3 0<|.b8 true<|.b4 true<|.rt true)<|.k3 0<|.cs (a0==9) (.k3 1<|.b8 true<|.kb true<|.rt true)<|.k3 1<|.cs (a0==10) (.k3 2<|.b5 true<|.kb true<|.rt true)<|.k3 2<|.cs (a0==11) (.k3 3<|.b3 true<|.rt true)<|.k3 3<|.cs (a0==12) (.k3 4<|.rt true)<|.k3 4<|.rt (a0==13)
def Z7j:LF Empty Bool := .z0 125 [.t 2] wB
def Z4m:=fun a0=>Z7j.run (Z7i a0)
theorem Z5m(a0){r}(h:Z4m a0=some r):Fn PR 125 [wI a0] (wB r):=Z7j.fn h
def Z0i(a0:Int):LT Empty Bool:=
.call (Zaan a0) fun x1=>.cs (!(x1==([]:By))) (.k2 0<|.call (Z5m a0) fun x4=>.k2 0<|.cs (!x4) (.k2 1<|.kg 0<|.kg 1<|.kg 0<|.rt true)<|.k2 1<|.kg 0<|.kg 1<|.kg 0<|.rt (a0==9))<|.k5 0<|.kg 0<|.rt false
def Z0j:LF Empty Bool := .z0 126 [.t 2] wB
def Zvy:=fun a0=>Z0j.run (Z0i a0)
theorem Zaco(a0){r}(h:Zvy a0=some r):Fn PR 126 [wI a0] (wB r):=Z0j.fn h
inductive Zyj where
 | L0 (E0:Zd0)
def Zu0(E0:Zd0):LT Zyj Bool:=
.call (Zaco E0.When) fun x1=>.br (!x1) (.rt (Z2 (Zy E0.Filter) (Zy (⟨0,0,0,0,0,0,0,([]:By),0,0,(⟨0,0⟩:Zg),(⟨0,0⟩:Zg),(⟨0,0⟩:Zg)⟩:Zn))))<|.br (E0.When==9) (.call (Zi1 E0.Filter) fun x5=>.cs x5 (.k5 2<|.kg 2<|.rt (E0.Filter.Zone==5))<|.k5 2<|.kg 2<|.rt false)<|.call (Zi1 E0.Filter) fun x8=>.cs x8 (.k5 2<|.kg 2<|.rt (E0.Filter.Zone==0))<|.k5 2<|.kg 2<|.rt false
def Zanr(a0:Zd0):LT Zyj Bool:=
.lb 1001<|.call (Zaan a0.When) fun x1=>.cs (x1==([]:By)) (.k4 0<|.b8 true<|.b3 true<|.kn [0]<|.rt false)<|.k4 0<|.cs (decide (a0.Who < 0)) (.k4 1<|.b5 true<|.b2 true<|.kn [0]<|.rt false)<|.k4 1<|.cs (decide (a0.Who > 2)) (.k5 2<|.k2 2<|.kn [0]<|.rt false)<|.k3 2<|.call (Z5m a0.When) fun x6=>.k2 2<|.cs (!x6) (.k3 3<|.kg 2<|.kg 3<|.kg 2<|.br (a0.Who != 0) (.rt false)<|.jn 0 (.L0 a0) [.relab 1001 3000] (Zu0 a0))<|.k3 3<|.kg 2<|.kg 3<|.kg 2<|.kn [0]<|.jn 0 (.L0 a0) [.relab 1001 3000] (Zu0 a0)
def Zans:LF Zyj Bool := .m0 105 [.t 2] wB fun | .L0 E0=>([1,1],⟨50,[(1,.bptr 3000 0)],[(3000,.box (bx (Zcz E0)))]⟩,Zu0 E0)
def Zant:=fun a0=>Zans.run (Zanr a0)
theorem Zav0(a0){r}(h:Zant a0=some r):Fn PR 105 [wA (Zcz a0)] (wB r):=Zans.fn h
def Zaao(a0:Zn):LT Empty Bool:=
.lb 1001<|.call (Zi1 a0) fun x1=>.cs x1 (.k4 0<|.rt (a0.Zone==0))<|.k4 0<|.rt false
def Zaap:LF Empty Bool := .z0 129 [.t 2] wB
def Z7k:=fun a0=>Zaap.run (Zaao a0)
theorem Zyk(a0){r}(h:Z7k a0=some r):Fn PR 129 [wA (Zy a0)] (wB r):=Zaap.fn h
def Zaaq(a0:Zbx):LT Empty Bool:=
.lb 1001<|.cs (a0.Who != 0) (.k5 0<|.kn [0]<|.rt false)<|.k3 0<|.call (Zyk a0.Filter) fun x2=>.k2 0<|.br (!x2) (.rt false)<|.br (a0.Do==5) (.cs (a0.N==0) (.k4 3<|.cs (a0.Counter==0) (.k4 4<|.cs (a0.Zone==1) (.k3 5<|.kg 4<|.kg 5<|.kg 4<|.b3 true<|.kg 4<|.kb true<|.kg 4<|.rt true)<|.k3 5<|.kg 4<|.kg 5<|.kg 4<|.cs (a0.Zone==2) (.k3 6<|.kg 4<|.kg 6<|.kg 4<|.rt true)<|.k3 6<|.kg 4<|.kg 6<|.kg 4<|.rt (a0.Zone==4))<|.k8 4<|.rt false)<|.k4 3<|.b8 false<|.rt false)<|.br (a0.Do==6) (.cs (a0.N==0) (.k4 4<|.cs (a0.Counter==0) (.k4 5<|.rt (a0.Zone==0))<|.k4 5<|.rt false)<|.k4 4<|.b4 false<|.rt false)<|.br (a0.Do==7) (.cs (a0.Zone==0) (.k4 5<|.cs (decide (a0.N>=1)) (.k4 6<|.cs (decide (a0.N<=99)) (.k4 7<|.cs (decide (a0.Counter>=0)) (.k4 8<|.rt (decide (a0.Counter < 3)))<|.k4 8<|.rt false)<|.k4 7<|.b4 false<|.rt false)<|.k4 6<|.b8 false<|.rt false)<|.k4 5<|.b8 false<|.b4 false<|.rt false)<|.rt false
def Zaar:LF Empty Bool := .z0 127 [.t 2] wB
def Z7l:=fun a0=>Zaar.run (Zaaq a0)
theorem Zanu(a0){r}(h:Z7l a0=some r):Fn PR 127 [wA (Zb8 a0)] (wB r):=Zaar.fn h
def Zaas(a0:Zbx):LT Empty Bool:=
.lb 1001<|.cs (a0.Zone != 0) (.k4 0<|.kn [0]<|.rt false)<|.k4 0<|.br (a0.Counter != 0) (.rt false)<|.cs (a0.Do==2) (.k4 2<|.kn [0]<|.cs (decide (a0.N>=1)) (.k4 3<|.rt (decide (a0.N<=99)))<|.k4 3<|.rt false)<|.k4 2<|.br (a0.Do==4) (.cs (decide (a0.N>=1)) (.k4 4<|.rt (decide (a0.N<=99)))<|.k4 4<|.rt false)<|.rt (a0.N==0)
def Zaat:LF Empty Bool := .z0 128 [.t 2] wB
def Z7m:=fun a0=>Zaat.run (Zaas a0)
theorem Zanv(a0){r}(h:Z7m a0=some r):Fn PR 128 [wA (Zb8 a0)] (wB r):=Zaat.fn h
inductive Zqk where
 | L0 (E0:Zbx) (v3:Bool) (v4:Bool)
 | L1 (E0:Zbx) (v3:Bool)
 | L2 (E0:Zbx) (v3:Bool) (v4:Bool) (v109:Bool)
def Zq0(E0:Zbx)(v3:Bool)(v4:Bool)(v109:Bool):LT Zqk Bool:=
.br v109 (.cs v4 (.k4 1<|.cs (decide (E0.Who>=0)) (.k4 2<|.cs (decide (E0.Who<=2)) (.k2 3<|.rt v3)<|.k2 3<|.rt false)<|.k4 2<|.b2 false<|.rt false)<|.k4 1<|.b5 false<|.kb false<|.rt false)<|.rt false
def Znh(E0:Zbx)(v3:Bool):LT Zqk Bool:=
.cs (E0.Who==0) (.k3 0<|.call (Zyk E0.Filter) fun x2=>.kg 0<|.cs x2 (.k8 1<|.rt true)<|.k4 1<|.cs (E0.Who==1) (.k3 2<|.kg 1<|.kg 2<|.kg 1<|.kb true<|.kg 1<|.kb true<|.kg 1<|.rt v3)<|.k3 2<|.kg 1<|.kg 2<|.kg 1<|.cs (E0.Who==2) (.kg 3<|.kg 1<|.kg 3<|.kg 1<|.rt v3)<|.kg 3<|.kg 1<|.kg 3<|.kg 1<|.rt false)<|.k4 0<|.b4 false<|.cs (E0.Who==1) (.k3 1<|.kb false<|.kg 1<|.kb false<|.kb true<|.kb false<|.kb true<|.kb false<|.rt v3)<|.k3 1<|.kb false<|.kg 1<|.kb false<|.cs (E0.Who==2) (.kg 2<|.kb false<|.kg 2<|.kb false<|.rt v3)<|.kg 2<|.kb false<|.kg 2<|.kb false<|.rt false
def Zq1(E0:Zbx)(v3:Bool)(v4:Bool):LT Zqk Bool:=
.br (E0.On==1) (.cs (E0.Do != 1) (.k4 1<|.cs (E0.Do != 2) (.k4 2<|.cs (E0.Do != 3) (.k4 3<|.br (E0.Do != 4) (.rt false)<|.j0 (.L1 E0 v3) (Znh E0 v3))<|.k4 3<|.kn [0]<|.j0 (.L1 E0 v3) (Znh E0 v3))<|.k4 2<|.b4 false<|.kn [0]<|.j0 (.L1 E0 v3) (Znh E0 v3))<|.k4 1<|.b8 false<|.kn [0]<|.j0 (.L1 E0 v3) (Znh E0 v3))<|.br (E0.On==8) (.cs v4 (.k4 2<|.cs (E0.Who==0) (.k3 3<|.call (Zyk E0.Filter) fun x9=>.kg 3<|.rt x9)<|.k4 3<|.rt false)<|.k4 2<|.b4 false<|.rt false)<|.br (E0.On==3) (.cs (E0.Do==4) (.k4 3<|.b4 true<|.cs (decide (E0.Who>=0)) (.k4 4<|.cs (decide (E0.Who<=2)) (.k2 5<|.rt v3)<|.k2 5<|.rt false)<|.k4 4<|.b2 false<|.rt false)<|.k4 3<|.cs (E0.Do==8) (.k4 4<|.cs (decide (E0.Who>=0)) (.k4 5<|.cs (decide (E0.Who<=2)) (.k2 6<|.rt v3)<|.k2 6<|.rt false)<|.k4 5<|.b2 false<|.rt false)<|.k4 4<|.b5 false<|.kb false<|.rt false)<|.br (E0.On==4) (.j0 (.L2 E0 v3 v4 (E0.On==4)) (Zq0 E0 v3 v4 (E0.On==4)))<|.br (E0.On==5) (.j0 (.L2 E0 v3 v4 (E0.On==5)) (Zq0 E0 v3 v4 (E0.On==5)))<|.j0 (.L2 E0 v3 v4 (E0.On==10)) (Zq0 E0 v3 v4 (E0.On==10))
def Zanw(a0:Zbx):LT Zqk Bool:=
.lb 1001<|.br (a0.On==2) (.call (Zanu a0) fun x2=>.rt x2)<|.call (Zanv a0) fun x4=>.br (!x4) (.rt false)<|.cs (a0.Do==3) (.k4 2<|.b4 true<|.jn 0 (.L0 a0 (Z2 (Zy a0.Filter) (Zy (⟨0,0,0,0,0,0,0,([]:By),0,0,(⟨0,0⟩:Zg),(⟨0,0⟩:Zg),(⟨0,0⟩:Zg)⟩:Zn))) true) [.relab 1001 3000] (Zq1 a0 (Z2 (Zy a0.Filter) (Zy (⟨0,0,0,0,0,0,0,([]:By),0,0,(⟨0,0⟩:Zg),(⟨0,0⟩:Zg),(⟨0,0⟩:Zg)⟩:Zn))) true))<|.k4 2<|.cs (a0.Do==4) (.k4 3<|.jn 0 (.L0 a0 (Z2 (Zy a0.Filter) (Zy (⟨0,0,0,0,0,0,0,([]:By),0,0,(⟨0,0⟩:Zg),(⟨0,0⟩:Zg),(⟨0,0⟩:Zg)⟩:Zn))) true) [.relab 1001 3000] (Zq1 a0 (Z2 (Zy a0.Filter) (Zy (⟨0,0,0,0,0,0,0,([]:By),0,0,(⟨0,0⟩:Zg),(⟨0,0⟩:Zg),(⟨0,0⟩:Zg)⟩:Zn))) true))<|.k4 3<|.jn 0 (.L0 a0 (Z2 (Zy a0.Filter) (Zy (⟨0,0,0,0,0,0,0,([]:By),0,0,(⟨0,0⟩:Zg),(⟨0,0⟩:Zg),(⟨0,0⟩:Zg)⟩:Zn))) (a0.Do==8)) [.relab 1001 3000] (Zq1 a0 (Z2 (Zy a0.Filter) (Zy (⟨0,0,0,0,0,0,0,([]:By),0,0,(⟨0,0⟩:Zg),(⟨0,0⟩:Zg),(⟨0,0⟩:Zg)⟩:Zn))) (a0.Do==8))
def Zanx:LF Zqk Bool := .m0 106 [.t 2] wB fun | .L0 E0 v3 v4=>([1,1,1,1,1],⟨127,[(1,.bptr 3000 0),(3,wB v3),(4,wB v4)],[(3000,.box (bx (Zb8 E0)))]⟩,Zq1 E0 v3 v4) | .L1 E0 v3=>([1,1,1,1,1,0,1,4,1,2,1],⟨127,[(1,.bptr 3000 0),(3,wB v3)],[(3000,.box (bx (Zb8 E0)))]⟩,Znh E0 v3) | .L2 E0 v3 v4 v109=>([1,1,1,1,1,0,1,4,1,3,1,3,1,3,1],⟨127,[(1,.bptr 3000 0),(3,wB v3),(4,wB v4),(109,wB v109)],[(3000,.box (bx (Zb8 E0)))]⟩,Zq0 E0 v3 v4 v109)
def Zany:=fun a0=>Zanx.run (Zanw a0)
theorem Zav1(a0){r}(h:Zany a0=some r):Fn PR 106 [wA (Zb8 a0)] (wB r):=Zanx.fn h
def Zafj(a0:Zbp):LT Empty Bool:=
.lb 1001<|.br (!a0.Object) (.cs a0.Player (.k5 1<|.rt (Z2 (Zy a0.Filter) (Zy (⟨0,0,0,0,0,0,0,([]:By),0,0,(⟨0,0⟩:Zg),(⟨0,0⟩:Zg),(⟨0,0⟩:Zg)⟩:Zn))))<|.k5 1<|.rt false)<|.call (Zi1 a0.Filter) fun x3=>.cs x3 (.k3 1<|.cs (a0.Filter.Zone==0) (.k2 2<|.kg 1<|.kg 2<|.kg 1<|.b2 true<|.kg 1<|.kb true<|.kg 1<|.rt true)<|.k2 2<|.kg 1<|.kg 2<|.kg 1<|.cs (a0.Filter.Zone==3) (.k2 3<|.kg 1<|.kg 3<|.kg 1<|.rt true)<|.k2 3<|.kg 1<|.kg 3<|.kg 1<|.rt (a0.Filter.Zone==5))<|.k5 1<|.k2 1<|.rt false
def Zafk:LF Empty Bool := .z0 130 [.t 2] wB
def Zacp:=fun a0=>Zafk.run (Zafj a0)
theorem Zaqv(a0){r}(h:Zacp a0=some r):Fn PR 130 [wA (Z7 a0)] (wB r):=Zafk.fn h
inductive Zpc where
 | L0 (v0:List Zbp) (v3:Int)
def Zyl(v0:List Zbp)(v3:Int):LT Zpc Bool:=
.len Z7 v0<|.br (decide (v3 < (v0.length:Int))) (.idx Z7 v0 v3 fun x3=>.call (Zaqv x3) fun x5=>.br (!x5) (.rt false)<|.g0 (.L0 v0 (IntKind.wrap .i64 (v3+1))))<|.len Z7 v0<|.rt (decide ((v0.length:Int)<=4))
def Zaau(a0:List Zbp):LT Zpc Bool:=
.g0 (.L0 a0 0)
def Zaav:LF Zpc Bool := .m0 107 [.t 2] wB fun | .L0 v0 v3=>([1,0,1,4],⟨19,[(0,wL Z7 v0),(3,wI v3)],[]⟩,Zyl v0 v3)
def Z7n:=fun a0=>Zaav.run (Zaau a0)
theorem Zanz(a0){r}(h:Z7n a0=some r):Fn PR 107 [wL Z7 a0] (wB r):=Zaav.fn h
def Zafl(a0:Int):LT Empty (By):=
.cs (decide (a0 < 1)) (.k3 0<|.kn [0]<|.rt ([]:By))<|.k3 0<|.br (decide (a0 > 26)) (.rt ([]:By))<|.dr [.lit]<|.idx cS [([100,97,109,97,103,101]:By),([100,101,115,116,114,111,121]:By),([109,111,118,101]:By),([100,114,97,119]:By),([100,105,115,99,97,114,100]:By),([103,97,105,110]:By),([108,111,115,101]:By),([116,97,112]:By),([117,110,116,97,112]:By),([112,117,116]:By),([116,97,107,101]:By),([99,114,101,97,116,101]:By),([109,111,100]:By),([109,97,110,97]:By),([99,111,117,110,116,101,114]:By),([99,111,112,121]:By),([98,101,99,111,109,101]:By),([115,97,99,114,105,102,105,99,101]:By),([109,105,108,108]:By),([115,99,114,121]:By),([115,101,97,114,99,104]:By),([115,104,105,101,108,100]:By),([116,117,114,110]:By),([119,105,110]:By),([100,101,102,101,97,116]:By),([118,101,110,111,109]:By)] (IntKind.wrap .i64 (a0 - 1)) fun x6=>.rt x6
def Zafm:LF Empty (By) := .z0 140 [.t 2] wS
def Zacq:=fun a0=>Zafm.run (Zafl a0)
theorem Zaqw(a0){r}(h:Zacq a0=some r):Fn PR 140 [wI a0] (wS r):=Zafm.fn h
inductive Zom where
 | L0 (v3:Int) (v4:Bool)
 | L1 (v3:Int) (v14:Bool)
def Zpd(v3:Int)(v14:Bool):LT Zom (By):=
.br v14 (.rt ([114,107,97]:By))<|.br (v3==12) (.rt ([114,99,97]:By))<|.br (v3==13) (.rt ([114,109]:By))<|.br (v3==14) (.rt ([112]:By))<|.br (v3==18) (.rt ([114,97,102]:By))<|.br (v3==20) (.rt ([97]:By))<|.br (v3==21) (.rt ([102]:By))<|.br (v3==23) (.kn [8]<|.rt ([]:By))<|.br (v3==24) (.rt ([]:By))<|.rt ([114,97]:By)
def Zhl(v3:Int)(v4:Bool):LT Zom (By):=
.br v4 (.rt ([114]:By))<|.br (v3==3) (.rt ([114,122]:By))<|.br (v3==10) (.j0 (.L1 v3 (v3==10)) (Zpd v3 (v3==10)))<|.j0 (.L1 v3 (v3==11)) (Zpd v3 (v3==11))
def Zafn(a0:Int):LT Zom (By):=
.br (a0==2) (.j0 (.L0 a0 (a0==2)) (Zhl a0 (a0==2)))<|.br (a0==8) (.j0 (.L0 a0 (a0==8)) (Zhl a0 (a0==8)))<|.br (a0==9) (.j0 (.L0 a0 (a0==9)) (Zhl a0 (a0==9)))<|.br (a0==15) (.j0 (.L0 a0 (a0==15)) (Zhl a0 (a0==15)))<|.br (a0==16) (.j0 (.L0 a0 (a0==16)) (Zhl a0 (a0==16)))<|.br (a0==17) (.j0 (.L0 a0 (a0==17)) (Zhl a0 (a0==17)))<|.j0 (.L0 a0 (a0==25)) (Zhl a0 (a0==25))
def Zafo:LF Zom (By) := .m0 163 [.t 2] wS fun | .L0 v3 v4=>([1,0,1,4,1],⟨32,[(3,wI v3),(4,wB v4)],[]⟩,Zhl v3 v4) | .L1 v3 v14=>([1,0,1,4,1,3,1,3,1],⟨32,[(3,wI v3),(14,wB v14)],[]⟩,Zpd v3 v14)
def Zacr:=fun a0=>Zafo.run (Zafn a0)
theorem Zaqx(a0){r}(h:Zacr a0=some r):Fn PR 163 [wI a0] (wS r):=Zafo.fn h
inductive Zr1 where
 | L0 (v1:Int) (v5:By) (v6:Int)
def Z1r(v1:Int)(v5:By)(v6:Int):LT Zr1 Bool:=
.lenS v5<|.br (decide (v6 < (v5.length:Int))) (.idxS v5 v6 fun x3=>.br ((UInt8.toNat x3:Int)==v1) (.rt true)<|.g0 (.L0 v1 v5 (IntKind.wrap .i64 (v6+1))))<|.rt false
def Zafp(a0:Int)(a1:Int):LT Zr1 Bool:=
.call (Zaqx a0) fun x1=>.g0 (.L0 a1 x1 0)
def Zafq:LF Zr1 Bool := .m0 141 [.t 4] wB fun | .L0 v1 v5 v6=>([1,1,0,1,4],⟨20,[(1,.t (.int .u8 v1)),(5,wS v5),(6,wI v6)],[]⟩,Z1r v1 v5 v6)
def Zacs:=fun a0 a1=>Zafq.run (Zafp a0 a1)
theorem Zjj(a0)(a1){r}(h:Zacs a0 a1=some r):Fn PR 141 [wI a0,.t (.int .u8 a1)] (wB r):=Zafq.fn h
def Z3d(a0:Int):LT Empty Bool:=
.cs (a0==3) (.k3 0<|.rt true)<|.k3 0<|.rt (a0==8)
def Z3e:LF Empty Bool := .z0 164 [.t 2] wB
def Zym:=fun a0=>Z3e.run (Z3d a0)
theorem Zafr(a0){r}(h:Zym a0=some r):Fn PR 164 [wI a0] (wB r):=Z3e.fn h
inductive Ztc where
 | L0 (v1:Int) (E0:Zgw)
 | L1 (E0:Zgw)
def Zu1(E0:Zgw):LT Ztc Bool:=
.br (E0.Kind==4) (.call (Zi1 E0.Filter) fun x2=>.rt x2)<|.rt (Z2 (Zy E0.Filter) (Zy (⟨0,0,0,0,0,0,0,([]:By),0,0,(⟨0,0⟩:Zg),(⟨0,0⟩:Zg),(⟨0,0⟩:Zg)⟩:Zn)))
def Zu2(v1:Int)(E0:Zgw):LT Ztc Bool:=
.cs (decide (E0.Kind < 1)) (.k4 0<|.kn [0]<|.rt false)<|.k4 0<|.br (decide (E0.Kind > 8)) (.rt false)<|.call (Zafr E0.Kind) fun x3=>.br x3 (.cs (decide (E0.N < 1)) (.k5 3<|.kn [0]<|.rt false)<|.k5 3<|.br (decide (E0.N > v1)) (.rt false)<|.j0 (.L1 E0) (Zu1 E0))<|.br (E0.N != 0) (.rt false)<|.j0 (.L1 E0) (Zu1 E0)
def Zan0(a0:Zgw)(a1:Int):LT Ztc Bool:=
.lb 1002<|.br (decide (a1 > 4)) (.jn 0 (.L0 4 a0) [.relab 1002 3000] (Zu2 4 a0))<|.jn 0 (.L0 a1 a0) [.relab 1002 3000] (Zu2 a1 a0)
def Zan1:LF Ztc Bool := .m0 142 [.t 4] wB fun | .L0 v1 E0=>([1,1],⟨40,[(1,wI v1),(2,.bptr 3000 0)],[(3000,.box (bx (Zeh E0)))]⟩,Zu2 v1 E0) | .L1 E0=>([1,1,1,1],⟨40,[(2,.bptr 3000 0)],[(3000,.box (bx (Zeh E0)))]⟩,Zu1 E0)
def Zan2:=fun a0 a1=>Zan1.run (Zan0 a0 a1)
theorem Zav2(a0)(a1){r}(h:Zan2 a0 a1=some r):Fn PR 142 [wA (Zeh a0),wI a1] (wB r):=Zan1.fn h
def Zafs(a0:Int):LT Empty (By):=
.br (a0==0) (.rt ([112,108,117,115]:By))<|.br (a0==1) (.rt ([109,105,110,117,115]:By))<|.br (a0==2) (.rt ([99,104,97,114,103,101]:By))<|.rt ([]:By)
def Zaft:LF Empty (By) := .z0 143 [.t 2] wS
def Zact:=fun a0=>Zaft.run (Zafs a0)
theorem Zaaw(a0){r}(h:Zact a0=some r):Fn PR 143 [wI a0] (wS r):=Zaft.fn h
def Zan3(a0:Zdt):LT Empty Bool:=
.lb 1001<|.lb 1003<|.br (a0.Kind==0) (.cs (decide (a0.N < 0)) (.k4 1<|.kn [0]<|.rt false)<|.k4 1<|.br (decide (a0.N > 1000000)) (.rt false)<|.cs (decide (a0.Kind>=0)) (.k4 3<|.cs (decide (a0.Kind<=7)) (.k5 4<|.kg 4<|.rt (Z2 (Zbn (⟨a0.Kind,0,a0.Counter,a0.Filter⟩:Zdt)) (Zbn (⟨a0.Kind,0,0,(⟨0,0,0,0,0,0,0,([]:By),0,0,(⟨0,0⟩:Zg),(⟨0,0⟩:Zg),(⟨0,0⟩:Zg)⟩:Zn)⟩:Zdt))))<|.k5 4<|.kg 4<|.rt false)<|.k4 3<|.b5 false<|.kb false<|.rt false)<|.br (a0.Kind==2) (.cs (decide (a0.N < 1)) (.k4 2<|.b5 true<|.kn [0]<|.rt false)<|.k4 2<|.cs (decide (a0.N > 99)) (.k5 3<|.kn [0]<|.rt false)<|.k3 3<|.call (Zi1 a0.Filter) fun x9=>.k2 3<|.br (!x9) (.rt false)<|.cs (decide (a0.Kind>=0)) (.k4 5<|.cs (decide (a0.Kind<=7)) (.k5 6<|.kg 6<|.rt (Z2 (Zbn (⟨a0.Kind,0,a0.Counter,(⟨0,0,0,0,0,0,0,([]:By),0,0,(⟨0,0⟩:Zg),(⟨0,0⟩:Zg),(⟨0,0⟩:Zg)⟩:Zn)⟩:Zdt)) (Zbn (⟨a0.Kind,0,0,(⟨0,0,0,0,0,0,0,([]:By),0,0,(⟨0,0⟩:Zg),(⟨0,0⟩:Zg),(⟨0,0⟩:Zg)⟩:Zn)⟩:Zdt))))<|.k5 6<|.kg 6<|.rt false)<|.k4 5<|.b5 false<|.kb false<|.rt false)<|.br (a0.Kind==4) (.call (Zaaw a0.Counter) fun x15=>.br (x15==([]:By)) (.rt false)<|.cs (decide (a0.Kind>=0)) (.k4 4<|.cs (decide (a0.Kind<=7)) (.k5 5<|.kg 5<|.rt (Z2 (Zbn (⟨a0.Kind,a0.N,0,a0.Filter⟩:Zdt)) (Zbn (⟨a0.Kind,0,0,(⟨0,0,0,0,0,0,0,([]:By),0,0,(⟨0,0⟩:Zg),(⟨0,0⟩:Zg),(⟨0,0⟩:Zg)⟩:Zn)⟩:Zdt))))<|.k5 5<|.kg 5<|.rt false)<|.k4 4<|.b5 false<|.kb false<|.rt false)<|.cs (decide (a0.Kind>=0)) (.k4 3<|.cs (decide (a0.Kind<=7)) (.k5 4<|.kg 4<|.rt (Z2 (Zbn a0) (Zbn (⟨a0.Kind,0,0,(⟨0,0,0,0,0,0,0,([]:By),0,0,(⟨0,0⟩:Zg),(⟨0,0⟩:Zg),(⟨0,0⟩:Zg)⟩:Zn)⟩:Zdt))))<|.k5 4<|.kg 4<|.rt false)<|.k4 3<|.b5 false<|.kb false<|.rt false
def Zan4:LF Empty Bool := .z0 144 [.t 2] wB
def Zan5:=fun a0=>Zan4.run (Zan3 a0)
theorem Zav3(a0){r}(h:Zan5 a0=some r):Fn PR 144 [wA (Zbn a0)] (wB r):=Zan4.fn h
def Zafu(a0:List Zq):LT Empty Bool:=
.call (Zr0 a0) fun x1=>.rt (!(x1==([]:By)))
def Zafv:LF Empty Bool := .z0 145 [.t 2] wB
def Zacu:=fun a0=>Zafv.run (Zafu a0)
theorem Zaqy(a0){r}(h:Zacu a0=some r):Fn PR 145 [wL Zk a0] (wB r):=Zafv.fn h
inductive Zr2 where
 | L0 (E0:A6 Int) (E1:Zbz) (E2:Zbz) (v4:Int)
def Z1s(E0:A6 Int)(E1:Zbz)(E2:Zbz)(v4:Int):LT Zr2 Zbz:=
.br (decide (v4 < 5)) (.idA (Zb.int .i64) (A6.list E0) (IntKind.wrap .i64 (v4+1)) (bx ((cA6 (cI .i64)) E0)) 0 6 fun x4=>.ldC (Zb.int .i64) 16 x4 0<|.idA (Zb.int .i64) (A5.list E2.Color) v4 (bx (Zb2 E2)) 2 7 fun x6=>.stA (A5.set? E2.Color v4 x4) (fun h=>Za0i (Zb.int .i64) ((bx (Zb2 E2)).take 2) ((bx (Zb2 E2)).drop 7) h) fun x8=>.g0 (.L0 E0 E1 (⟨E2.Generic,E2.X,x8⟩:Zbz) (IntKind.wrap .i64 (v4+1))))<|.rt E2
def Zafw(a0:A6 Int):LT Zr2 Zbz:=
.lb 1001<|.lb 1002<|.idA (Zb.int .i64) (A6.list a0) 0 (bx ((cA6 (cI .i64)) a0)) 0 6 fun x1=>.ldC (Zb.int .i64) 6 x1 0<|.lb 1003<|.go (.L0 a0 (⟨0,0,(⟨0,0,0,0,0⟩:A5 Int)⟩:Zbz) (⟨x1,0,(⟨0,0,0,0,0⟩:A5 Int)⟩:Zbz) 0) [.relab 1001 3000,.relab 1002 3001,.relab 1003 3002]
def Zafx:LF Zr2 Zbz := .m0 166 [.c 2 72 true 7] (fun r=>(wA (Zb2 r))) fun | .L0 E0 E1 E2 v4=>([1,1,0,1,4],⟨20,[(1,.bptr 3000 0),(2,.bptr 3001 0),(3,.bptr 3002 0),(4,wI v4)],[(3000,.box (bx ((cA6 (cI .i64)) E0))),(3001,.box (bx (Zb2 E1))),(3002,.box (bx (Zb2 E2)))]⟩,Z1s E0 E1 E2 v4)
def Zacv:=fun a0=>Zafx.run (Zafw a0)
theorem Zaqz(a0){r}(h:Zacv a0=some r):Fn PR 166 [wA ((cA6 (cI .i64)) a0)] (wA (Zb2 r)):=Zafx.fn h
inductive Zln where
 | L0 (E0:Zbz) (v3:By) (v4:Int)
 | L1 (E0:Zbz) (v3:By) (v5:Int)
 | L2 (E0:Zbz) (v3:By) (v5:Int) (v6:Int)
def Z1t(E0:Zbz)(v3:By)(v4:Int):LT Zln (By):=
.br (decide (v4 < E0.X)) (.ok (v3.length+([88]:By).length<=9223372036854775807)<|.g0 (.L0 E0 (v3++([88]:By)) (IntKind.wrap .i64 (v4+1))))<|.br (E0.Generic != 0) (.call (Zmo E0.Generic) fun x7=>.ok (v3.length+x7.length<=9223372036854775807)<|.g0 (.L1 E0 (v3++x7) 0))<|.g0 (.L1 E0 v3 0)
def Z1u(E0:Zbz)(v3:By)(v5:Int):LT Zln (By):=
.br (decide (v5 < 5)) (.g0 (.L2 E0 v3 v5 0))<|.br (v3==([]:By)) (.rt ([48]:By))<|.rt v3
def Z1v(E0:Zbz)(v3:By)(v5:Int)(v6:Int):LT Zln (By):=
.idA (Zb.int .i64) (A5.list E0.Color) v5 (bx (Zb2 E0)) 2 7 fun x1=>.ldC (Zb.int .i64) 34 x1 0<|.br (decide (v6 < x1)) (.slS ([65,67,74,82,69]:By) v5 (IntKind.wrap .i64 (v5+1)) fun x6=>.ok (v3.length+x6.length<=9223372036854775807)<|.g0 (.L2 E0 (v3++x6) v5 (IntKind.wrap .i64 (v6+1))))<|.g0 (.L1 E0 v3 (IntKind.wrap .i64 (v5+1)))
def Zafy(a0:Zbz):LT Zln (By):=
.lb 1001<|.call (Z64 a0) fun x1=>.br (!x1) (.rt ([]:By))<|.go (.L0 a0 ([]:By) 0) [.relab 1001 3000]
def Zafz:LF Zln (By) := .m0 165 [.t 2] wS fun | .L0 E0 v3 v4=>([1,1,1,0,1,4],⟨47,[(1,.bptr 3000 0),(3,wS v3),(4,wI v4)],[(3000,.box (bx (Zb2 E0)))]⟩,Z1t E0 v3 v4) | .L1 E0 v3 v5=>([1,1,1,1,1,0,1,4],⟨47,[(1,.bptr 3000 0),(3,wS v3),(5,wI v5)],[(3000,.box (bx (Zb2 E0)))]⟩,Z1u E0 v3 v5) | .L2 E0 v3 v5 v6=>([1,1,1,1,1,0,1,4,5,1,0,4,1,4],⟨47,[(1,.bptr 3000 0),(3,wS v3),(5,wI v5),(6,wI v6)],[(3000,.box (bx (Zb2 E0)))]⟩,Z1v E0 v3 v5 v6)
def Zacw:=fun a0=>Zafz.run (Zafy a0)
theorem Zaq0(a0){r}(h:Zacw a0=some r):Fn PR 165 [wA (Zb2 a0)] (wS r):=Zafz.fn h
def Z3f(a0:A6 Int):LT Empty (By):=
.lb 1001<|.call (Zaqz a0) fun x1=>.call (Zaq0 x1) fun x3=>.rt x3
def Z3g:LF Empty (By) := .z0 146 [.t 2] wS
def Zyn:=fun a0=>Z3g.run (Z3f a0)
theorem Zaf0(a0){r}(h:Zyn a0=some r):Fn PR 146 [wA ((cA6 (cI .i64)) a0)] (wS r):=Z3g.fn h
def Z7o(a0:Int)(a1:Zn):LT Empty Bool:=
.lb 1003<|.br (a0==21) (.call (Zi1 a1) fun x2=>.cs x2 (.k5 1<|.rt (a1.Zone==2))<|.k5 1<|.rt false)<|.call (Zi1 a1) fun x5=>.cs x5 (.k5 1<|.rt (a1.Zone==0))<|.k5 1<|.rt false
def Z7p:LF Empty Bool := .z0 147 [.t 4] wB
def Z4n:=fun a0 a1=>Z7p.run (Z7o a0 a1)
theorem Zaj6(a0)(a1){r}(h:Z4n a0 a1=some r):Fn PR 147 [wI a0,wA (Zy a1)] (wB r):=Z7p.fn h
inductive Zi9 where
 | L0 (E0:Zv) (v5:Bool)
 | L1 (E0:Zv) (v5:Bool) (v6:Bool)
 | L2 (E0:Zv) (v5:Bool) (v6:Bool) (v7:Bool)
 | L3 (E0:Zv) (v5:Bool) (v6:Bool) (v7:Bool) (v8:Bool)
 | L4 (E0:Zv) (v5:Bool) (v6:Bool) (v7:Bool) (v8:Bool) (v9:Bool)
 | L5 (E0:Zv) (v5:Bool) (v6:Bool) (v7:Bool) (v8:Bool) (v9:Bool) (v10:Bool)
 | L6 (E0:Zv) (v5:Bool) (v6:Bool) (v7:Bool) (v8:Bool) (v9:Bool) (v10:Bool) (v11:Bool)
 | L7 (v5:Bool) (v6:Bool) (v7:Bool) (v8:Bool) (v9:Bool) (v10:Bool) (v11:Bool) (v12:Bool)
def Zu3(v5:Bool)(v6:Bool)(v7:Bool)(v8:Bool)(v9:Bool)(v10:Bool)(v11:Bool)(v12:Bool):LT Zi9 Bool:=
.cs v5 (.k2 0<|.cs v6 (.k2 1<|.cs v7 (.k2 2<|.cs v8 (.k2 3<|.cs v9 (.k2 4<|.cs v10 (.k2 5<|.cs v11 (.k2 6<|.rt v12)<|.k2 6<|.rt false)<|.k2 5<|.b2 false<|.rt false)<|.k2 4<|.b4 false<|.rt false)<|.k2 3<|.b5 false<|.kb false<|.rt false)<|.k2 2<|.b8 false<|.rt false)<|.k2 1<|.b8 false<|.b2 false<|.rt false)<|.k2 0<|.b8 false<|.b4 false<|.rt false
def Zq2(E0:Zv)(v5:Bool)(v6:Bool)(v7:Bool)(v8:Bool)(v9:Bool)(v10:Bool)(v11:Bool):LT Zi9 Bool:=
.call (Zjj E0.Op 102) fun x1=>.br x1 (.call (Zaj6 E0.Op E0.Filter) fun x4=>.j0 (.L7 v5 v6 v7 v8 v9 v10 v11 x4) (Zu3 v5 v6 v7 v8 v9 v10 v11 x4))<|.j0 (.L7 v5 v6 v7 v8 v9 v10 v11 (Z2 (Zy E0.Filter) (Zy (⟨0,0,0,0,0,0,0,([]:By),0,0,(⟨0,0⟩:Zg),(⟨0,0⟩:Zg),(⟨0,0⟩:Zg)⟩:Zn)))) (Zu3 v5 v6 v7 v8 v9 v10 v11 (Z2 (Zy E0.Filter) (Zy (⟨0,0,0,0,0,0,0,([]:By),0,0,(⟨0,0⟩:Zg),(⟨0,0⟩:Zg),(⟨0,0⟩:Zg)⟩:Zn))))
def Zu4(E0:Zv)(v5:Bool)(v6:Bool)(v7:Bool)(v8:Bool)(v9:Bool)(v10:Bool):LT Zi9 Bool:=
.call (Zjj E0.Op 112) fun x1=>.br x1 (.cs (!(Z2 ((cA6 (cI .i64)) E0.Pool) ((cA6 (cI .i64)) (⟨0,0,0,0,0,0⟩:A6 Int)))) (.k3 1<|.call (Zaf0 E0.Pool) fun x5=>.k2 1<|.j0 (.L6 E0 v5 v6 v7 v8 v9 v10 (!(x5==([]:By)))) (Zq2 E0 v5 v6 v7 v8 v9 v10 (!(x5==([]:By)))))<|.k5 1<|.j0 (.L6 E0 v5 v6 v7 v8 v9 v10 false) (Zq2 E0 v5 v6 v7 v8 v9 v10 false))<|.j0 (.L6 E0 v5 v6 v7 v8 v9 v10 (Z2 ((cA6 (cI .i64)) E0.Pool) ((cA6 (cI .i64)) (⟨0,0,0,0,0,0⟩:A6 Int)))) (Zq2 E0 v5 v6 v7 v8 v9 v10 (Z2 ((cA6 (cI .i64)) E0.Pool) ((cA6 (cI .i64)) (⟨0,0,0,0,0,0⟩:A6 Int))))
def Zu5(E0:Zv)(v5:Bool)(v6:Bool)(v7:Bool)(v8:Bool)(v9:Bool):LT Zi9 Bool:=
.len Zk E0.Mods<|.call (Zjj E0.Op 109) fun x2=>.br x2 (.call (Zaqy E0.Mods) fun x5=>.j0 (.L5 E0 v5 v6 v7 v8 v9 x5) (Zu4 E0 v5 v6 v7 v8 v9 x5))<|.j0 (.L5 E0 v5 v6 v7 v8 v9 ((E0.Mods.length:Int)==0)) (Zu4 E0 v5 v6 v7 v8 v9 ((E0.Mods.length:Int)==0))
def Zu6(E0:Zv)(v5:Bool)(v6:Bool)(v7:Bool)(v8:Bool):LT Zi9 Bool:=
.call (Zjj E0.Op 97) fun x1=>.br x1 (.call (Zav3 E0.Amount) fun x4=>.j0 (.L4 E0 v5 v6 v7 v8 x4) (Zu5 E0 v5 v6 v7 v8 x4))<|.j0 (.L4 E0 v5 v6 v7 v8 (Z2 (Zbn E0.Amount) (Zbn (⟨0,0,0,(⟨0,0,0,0,0,0,0,([]:By),0,0,(⟨0,0⟩:Zg),(⟨0,0⟩:Zg),(⟨0,0⟩:Zg)⟩:Zn)⟩:Zdt)))) (Zu5 E0 v5 v6 v7 v8 (Z2 (Zbn E0.Amount) (Zbn (⟨0,0,0,(⟨0,0,0,0,0,0,0,([]:By),0,0,(⟨0,0⟩:Zg),(⟨0,0⟩:Zg),(⟨0,0⟩:Zg)⟩:Zn)⟩:Zdt))))
def Zq3(E0:Zv)(v5:Bool)(v6:Bool)(v7:Bool):LT Zi9 Bool:=
.call (Zjj E0.Op 99) fun x1=>.br x1 (.call (Z63 E0.Card) fun x4=>.j0 (.L3 E0 v5 v6 v7 x4) (Zu6 E0 v5 v6 v7 x4))<|.j0 (.L3 E0 v5 v6 v7 (E0.Card==([]:By))) (Zu6 E0 v5 v6 v7 (E0.Card==([]:By)))
def Zni(E0:Zv)(v5:Bool)(v6:Bool):LT Zi9 Bool:=
.cs (E0.Counter==0) (.k5 0<|.kg 0<|.j0 (.L2 E0 v5 v6 true) (Zq3 E0 v5 v6 true))<|.k3 0<|.call (Zjj E0.Op 107) fun x2=>.kg 0<|.cs x2 (.k3 1<|.call (Zaaw E0.Counter) fun x5=>.kg 1<|.kg 0<|.kg 1<|.kg 0<|.j0 (.L2 E0 v5 v6 (!(x5==([]:By)))) (Zq3 E0 v5 v6 (!(x5==([]:By)))))<|.k4 1<|.kg 0<|.kg 1<|.kg 0<|.j0 (.L2 E0 v5 v6 false) (Zq3 E0 v5 v6 false)
def Zu7(E0:Zv)(v5:Bool):LT Zi9 Bool:=
.cs (E0.Zone==0) (.k8 0<|.j0 (.L1 E0 v5 true) (Zni E0 v5 true))<|.k3 0<|.call (Zjj E0.Op 122) fun x2=>.kg 0<|.cs x2 (.k3 1<|.kg 0<|.kg 1<|.kg 0<|.cs (decide (E0.Zone > 0)) (.k3 2<|.kg 0<|.kg 2<|.kg 0<|.j0 (.L1 E0 v5 (decide (E0.Zone<=4))) (Zni E0 v5 (decide (E0.Zone<=4))))<|.k3 2<|.kg 0<|.kg 2<|.kg 0<|.j0 (.L1 E0 v5 false) (Zni E0 v5 false))<|.k3 1<|.kg 0<|.kg 1<|.kg 0<|.b3 false<|.kg 0<|.kb false<|.kg 0<|.j0 (.L1 E0 v5 false) (Zni E0 v5 false)
def Zan6(a0:Zv)(a1:Int):LT Zi9 Bool:=
.lb 1002<|.call (Zaqw a0.Op) fun x1=>.br (x1==([]:By)) (.rt false)<|.call (Zjj a0.Op 114) fun x4=>.br x4 (.call (Zav2 a0.Ref a1) fun x7=>.jn 0 (.L0 a0 x7) [.relab 1002 3000] (Zu7 a0 x7))<|.jn 0 (.L0 a0 (Z2 (Zeh a0.Ref) (Zeh (⟨0,0,(⟨0,0,0,0,0,0,0,([]:By),0,0,(⟨0,0⟩:Zg),(⟨0,0⟩:Zg),(⟨0,0⟩:Zg)⟩:Zn)⟩:Zgw)))) [.relab 1002 3000] (Zu7 a0 (Z2 (Zeh a0.Ref) (Zeh (⟨0,0,(⟨0,0,0,0,0,0,0,([]:By),0,0,(⟨0,0⟩:Zg),(⟨0,0⟩:Zg),(⟨0,0⟩:Zg)⟩:Zn)⟩:Zgw))))
def Zan7:LF Zi9 Bool := .m0 131 [.t 4] wB fun | .L0 E0 v5=>([1,1,1,1],⟨138,[(2,.bptr 3000 0),(5,wB v5)],[(3000,.box (bx (Zo E0)))]⟩,Zu7 E0 v5) | .L1 E0 v5 v6=>([1,1,1,1,1],⟨138,[(2,.bptr 3000 0),(5,wB v5),(6,wB v6)],[(3000,.box (bx (Zo E0)))]⟩,Zni E0 v5 v6) | .L2 E0 v5 v6 v7=>([1,1,1,1,1,1],⟨138,[(2,.bptr 3000 0),(5,wB v5),(6,wB v6),(7,wB v7)],[(3000,.box (bx (Zo E0)))]⟩,Zq3 E0 v5 v6 v7) | .L3 E0 v5 v6 v7 v8=>([1,1,1,1,1,1,1,1],⟨138,[(2,.bptr 3000 0),(5,wB v5),(6,wB v6),(7,wB v7),(8,wB v8)],[(3000,.box (bx (Zo E0)))]⟩,Zu6 E0 v5 v6 v7 v8) | .L4 E0 v5 v6 v7 v8 v9=>([1,1,1,1,1,1,1,1,1,1],⟨138,[(2,.bptr 3000 0),(5,wB v5),(6,wB v6),(7,wB v7),(8,wB v8),(9,wB v9)],[(3000,.box (bx (Zo E0)))]⟩,Zu5 E0 v5 v6 v7 v8 v9) | .L5 E0 v5 v6 v7 v8 v9 v10=>([1,1,1,1,1,1,1,1,1,1,1,1],⟨138,[(2,.bptr 3000 0),(5,wB v5),(6,wB v6),(7,wB v7),(8,wB v8),(9,wB v9),(10,wB v10)],[(3000,.box (bx (Zo E0)))]⟩,Zu4 E0 v5 v6 v7 v8 v9 v10) | .L6 E0 v5 v6 v7 v8 v9 v10 v11=>([1,1,1,1,1,1,1,1,1,1,1,1,1,1],⟨138,[(2,.bptr 3000 0),(5,wB v5),(6,wB v6),(7,wB v7),(8,wB v8),(9,wB v9),(10,wB v10),(11,wB v11)],[(3000,.box (bx (Zo E0)))]⟩,Zq2 E0 v5 v6 v7 v8 v9 v10 v11) | .L7 v5 v6 v7 v8 v9 v10 v11 v12=>([1,1,1,1,1,1,1,1,1,1,1,1,1,1,1,1],⟨138,[(5,wB v5),(6,wB v6),(7,wB v7),(8,wB v8),(9,wB v9),(10,wB v10),(11,wB v11),(12,wB v12)],[]⟩,Zu3 v5 v6 v7 v8 v9 v10 v11 v12)
def Zan8:=fun a0 a1=>Zan7.run (Zan6 a0 a1)
theorem Zav4(a0)(a1){r}(h:Zan8 a0 a1=some r):Fn PR 131 [wA (Zo a0),wI a1] (wB r):=Zan7.fn h
inductive Zma where
 | L0 (v0:List Zv) (v1:Int) (v5:Int)
def Ztd(v0:List Zv)(v1:Int)(v5:Int):LT Zma Bool:=
.len Zo v0<|.br (decide (v5 < (v0.length:Int))) (.idx Zo v0 v5 fun x3=>.call (Zav4 x3 v1) fun x5=>.br (!x5) (.rt false)<|.g0 (.L0 v0 v1 (IntKind.wrap .i64 (v5+1))))<|.len Zo v0<|.cs (decide ((v0.length:Int)>=1)) (.k2 1<|.len Zo v0<|.k2 1<|.rt (decide ((v0.length:Int)<=8)))<|.k4 1<|.rt false
def Z5n(a0:List Zv)(a1:Int):LT Zma Bool:=
.g0 (.L0 a0 a1 0)
def Z5o:LF Zma Bool := .m0 108 [.t 4] wB fun | .L0 v0 v1 v5=>([1,0,1,4],⟨27,[(0,wL Zo v0),(1,wI v1),(5,wI v5)],[]⟩,Ztd v0 v1 v5)
def Z1w:=fun a0 a1=>Z5o.run (Z5n a0 a1)
theorem Zah9(a0)(a1){r}(h:Z1w a0 a1=some r):Fn PR 108 [wL Zo a0,wI a1] (wB r):=Z5o.fn h
inductive Zlo where
 | L0 (E0:Zs) (v3:Bool)
 | L1 (E0:Zs) (v3:Bool)
 | L2 (E0:Zs) (v3:Bool)
 | L3 (E0:Zs) (v3:Bool)
 | L4 (E0:Zs) (v3:Bool)
def Zu8(E0:Zs)(v3:Bool):LT Zlo Bool:=
.br v3 (.call (Zanz E0.Specs) fun x2=>.cs x2 (.k5 1<|.len Z7 E0.Specs<|.kg 1<|.call (Zah9 E0.Effects (E0.Specs.length:Int)) fun x6=>.kg 1<|.rt x6)<|.k5 1<|.k2 1<|.rt false)<|.len Z7 E0.Specs<|.cs ((E0.Specs.length:Int)==0) (.k3 1<|.len Zo E0.Effects<|.k2 1<|.rt ((E0.Effects.length:Int)==0))<|.k5 1<|.rt false
def Zu9(E0:Zs)(v3:Bool):LT Zlo Bool:=
.br (E0.Kind==5) (.call (Zav1 E0.Replace) fun x2=>.br (!x2) (.rt false)<|.j0 (.L4 E0 v3) (Zu8 E0 v3))<|.br (!(Z2 (Zb8 E0.Replace) (Zb8 (⟨0,0,(⟨0,0,0,0,0,0,0,([]:By),0,0,(⟨0,0⟩:Zg),(⟨0,0⟩:Zg),(⟨0,0⟩:Zg)⟩:Zn),0,0,0,0⟩:Zbx)))) (.rt false)<|.j0 (.L4 E0 v3) (Zu8 E0 v3)
def Zva(E0:Zs)(v3:Bool):LT Zlo Bool:=
.br (E0.Kind==4) (.call (Zav0 E0.Trigger) fun x2=>.br (!x2) (.rt false)<|.j0 (.L3 E0 v3) (Zu9 E0 v3))<|.cs (!(Z2 (Zcz E0.Trigger) (Zcz (⟨0,0,(⟨0,0,0,0,0,0,0,([]:By),0,0,(⟨0,0⟩:Zg),(⟨0,0⟩:Zg),(⟨0,0⟩:Zg)⟩:Zn)⟩:Zd0)))) (.k3 1<|.kn [0]<|.rt false)<|.k3 1<|.br E0.May (.rt false)<|.j0 (.L3 E0 v3) (Zu9 E0 v3)
def Zvb(E0:Zs)(v3:Bool):LT Zlo Bool:=
.br (E0.Kind==3) (.call (Zanq E0.Price) fun x2=>.br (!x2) (.rt false)<|.j0 (.L2 E0 v3) (Zva E0 v3))<|.cs (!(Z2 (Zei E0.Price) (Zei (⟨(⟨0,0,(⟨0,0,0,0,0⟩:A5 Int)⟩:Zbz),false,false,0⟩:Zh6)))) (.k3 1<|.kn [0]<|.rt false)<|.k3 1<|.br E0.Slow (.rt false)<|.j0 (.L2 E0 v3) (Zva E0 v3)
def Zq4(E0:Zs)(v3:Bool):LT Zlo Bool:=
.br (E0.Kind==1) (.call (Zi1 E0.Filter) fun x2=>.cs (!x2) (.k5 1<|.b5 true<|.kn [0]<|.rt false)<|.k5 1<|.cs (E0.Filter.Zone != 0) (.k5 2<|.kn [0]<|.rt false)<|.k3 2<|.call (Zr0 E0.Mods) fun x6=>.k2 2<|.br (x6==([]:By)) (.rt false)<|.j0 (.L1 E0 v3) (Zvb E0 v3))<|.cs (!(Z2 (Zy E0.Filter) (Zy (⟨0,0,0,0,0,0,0,([]:By),0,0,(⟨0,0⟩:Zg),(⟨0,0⟩:Zg),(⟨0,0⟩:Zg)⟩:Zn)))) (.k5 1<|.kn [0]<|.rt false)<|.k3 1<|.len Zk E0.Mods<|.k2 1<|.br (decide ((E0.Mods.length:Int) > 0)) (.rt false)<|.j0 (.L1 E0 v3) (Zvb E0 v3)
def Zan9(a0:Zs):LT Zlo Bool:=
.lb 1001<|.cs (decide (a0.Kind < 1)) (.k4 0<|.kn [0]<|.rt false)<|.k4 0<|.br (decide (a0.Kind > 5)) (.rt false)<|.cs (a0.Kind==2) (.k4 2<|.b4 true<|.jn 0 (.L0 a0 true) [.relab 1001 3000] (Zq4 a0 true))<|.k4 2<|.cs (a0.Kind==3) (.k4 3<|.jn 0 (.L0 a0 true) [.relab 1001 3000] (Zq4 a0 true))<|.k4 3<|.jn 0 (.L0 a0 (a0.Kind==4)) [.relab 1001 3000] (Zq4 a0 (a0.Kind==4))
def Zaoa:LF Zlo Bool := .m0 83 [.t 2] wB fun | .L0 E0 v3=>([1,1,1],⟨117,[(1,.bptr 3000 0),(3,wB v3)],[(3000,.box (bx (Zay E0)))]⟩,Zq4 E0 v3) | .L1 E0 v3=>([1,1,1,1],⟨117,[(1,.bptr 3000 0),(3,wB v3)],[(3000,.box (bx (Zay E0)))]⟩,Zvb E0 v3) | .L2 E0 v3=>([1,1,1,1,1],⟨117,[(1,.bptr 3000 0),(3,wB v3)],[(3000,.box (bx (Zay E0)))]⟩,Zva E0 v3) | .L3 E0 v3=>([1,1,1,1,1,1],⟨117,[(1,.bptr 3000 0),(3,wB v3)],[(3000,.box (bx (Zay E0)))]⟩,Zu9 E0 v3) | .L4 E0 v3=>([1,1,1,1,1,1,1],⟨117,[(1,.bptr 3000 0),(3,wB v3)],[(3000,.box (bx (Zay E0)))]⟩,Zu8 E0 v3)
def Zaob:=fun a0=>Zaoa.run (Zan9 a0)
theorem Z0k(a0){r}(h:Zaob a0=some r):Fn PR 83 [wA (Zay a0)] (wB r):=Zaoa.fn h
def Zaf1(a0:Zai):LT Empty Bool:=
.lb 1001<|.cs (a0.Line.Types==2) (.k5 0<|.rt true)<|.k5 0<|.rt (a0.Line.Types==4)
def Zaf2:LF Empty Bool := .z0 84 [.t 2] wB
def Zacx:=fun a0=>Zaf2.run (Zaf1 a0)
theorem Zaq1(a0){r}(h:Zacx a0=some r):Fn PR 84 [wA (Zax a0)] (wB r):=Zaf2.fn h
inductive Zte where
 | L0 (E0:Zai)
 | L1 (E0:Zai) (v3:Int) (v4:Int)
def Zvc(E0:Zai):LT Zte Bool:=
.g0 (.L1 E0 0 0)
def Z7q(E0:Zai)(v3:Int)(v4:Int):LT Zte Bool:=
.len Zay E0.Abilities<|.br (decide (v4 < (E0.Abilities.length:Int))) (.idx Zay E0.Abilities v4 fun x3=>.call (Z0k x3) fun x5=>.br (!x5) (.rt false)<|.ag Zay x3 0<|.br (x3.Kind==2) (.g0 (.L1 E0 (IntKind.wrap .i64 (v3+1)) (IntKind.wrap .i64 (v4+1))))<|.g0 (.L1 E0 v3 (IntKind.wrap .i64 (v4+1))))<|.call (Zaq1 E0) fun x15=>.br x15 (.cs (!E0.Token) (.k4 2<|.cs (E0.Keys==0) (.k3 3<|.len Zay E0.Abilities<|.k2 3<|.cs ((E0.Abilities.length:Int)==1) (.k3 4<|.rt (v3==1))<|.k3 4<|.rt false)<|.k5 3<|.b3 false<|.rt false)<|.k4 2<|.b8 false<|.rt false)<|.cs (v3==0) (.k4 2<|.cs (!E0.Token) (.k5 3<|.kg 2<|.kg 3<|.kg 2<|.cs ((Zpw .and .i64 E0.Line.Types 32)==0) (.k4 4<|.kg 2<|.kg 4<|.kg 2<|.rt true)<|.k4 4<|.kg 2<|.kg 4<|.kg 2<|.rt (Z2 (Zb2 E0.Cost) (Zb2 (⟨0,0,(⟨0,0,0,0,0⟩:A5 Int)⟩:Zbz))))<|.k5 3<|.kg 2<|.kg 3<|.kg 2<|.b4 false<|.kg 2<|.kb false<|.kg 2<|.rt (Z2 (Zb2 E0.Cost) (Zb2 (⟨0,0,(⟨0,0,0,0,0⟩:A5 Int)⟩:Zbz))))<|.k8 2<|.rt false
def Zaoc(a0:Zai):LT Zte Bool:=
.lb 1001<|.call (Z63 a0.Name) fun x1=>.cs (!x1) (.k5 0<|.b16 true<|.b2 true<|.kn [0]<|.rt false)<|.k3 0<|.call (Z64 a0.Cost) fun x4=>.k2 0<|.cs (!x4) (.k5 1<|.b8 true<|.b5 true<|.kn [0]<|.rt false)<|.k3 1<|.call (Zavy a0.Line) fun x7=>.k2 1<|.cs (!x7) (.k5 2<|.b8 true<|.kn [0]<|.rt false)<|.k3 2<|.call (Zajn a0.Keys) fun x10=>.k2 2<|.cs (!x10) (.k4 3<|.b4 true<|.kn [0]<|.rt false)<|.k4 3<|.cs (decide (a0.Color < 0)) (.k4 4<|.kn [0]<|.rt false)<|.k4 4<|.br (decide (a0.Color > 31)) (.rt false)<|.cs (decide (a0.Power < 0)) (.k4 6<|.b16 true<|.b3 true<|.kn [0]<|.rt false)<|.k4 6<|.cs (decide (a0.Power > 99)) (.k4 7<|.b8 true<|.b5 true<|.b2 true<|.kn [0]<|.rt false)<|.k4 7<|.cs (decide (a0.Tough < 0)) (.k4 8<|.b8 true<|.b3 true<|.kn [0]<|.rt false)<|.k4 8<|.cs (decide (a0.Tough > 99)) (.k5 9<|.kg 9<|.b5 true<|.kn [0]<|.rt false)<|.k2 9<|.call (Zaew a0) fun x19=>.k2 9<|.cs (!x19) (.k4 10<|.cs (a0.Power != 0) (.k3 11<|.kg 10<|.kg 11<|.kg 9<|.kg 10<|.kg 9<|.b5 true<|.kn [0]<|.rt false)<|.k3 11<|.kg 10<|.kg 11<|.kg 9<|.kg 10<|.kg 9<|.cs (a0.Tough != 0) (.k5 12<|.kn [0]<|.rt false)<|.k3 12<|.len Zay a0.Abilities<|.k2 12<|.br (decide ((a0.Abilities.length:Int) > 8)) (.rt false)<|.jn 0 (.L0 a0) [.relab 1001 3000] (Zvc a0))<|.k5 10<|.kg 9<|.kg 10<|.kg 9<|.b3 false<|.len Zay a0.Abilities<|.b2 false<|.br (decide ((a0.Abilities.length:Int) > 8)) (.rt false)<|.jn 0 (.L0 a0) [.relab 1001 3000] (Zvc a0)
def Zaod:LF Zte Bool := .m0 59 [.t 2] wB fun | .L0 E0=>([1,1,1],⟨139,[(1,.bptr 3000 0)],[(3000,.box (bx (Zax E0)))]⟩,Zvc E0) | .L1 E0 v3 v4=>([1,1,1,1,0,1,4],⟨139,[(1,.bptr 3000 0),(3,wI v3),(4,wI v4)],[(3000,.box (bx (Zax E0)))]⟩,Z7q E0 v3 v4)
def Zaoe:=fun a0=>Zaod.run (Zaoc a0)
theorem Zav5(a0){r}(h:Zaoe a0=some r):Fn PR 59 [wA (Zax a0)] (wB r):=Zaod.fn h
inductive Zr3 where
 | L0 (v0:List Zai) (v1:By) (v5:Int)
def Z1x(v0:List Zai)(v1:By)(v5:Int):LT Zr3 Int:=
.len Zax v0<|.br (decide (v5 < (v0.length:Int))) (.idx Zax v0 v5 fun x3=>.br (x3.Name==v1) (.rt v5)<|.g0 (.L0 v0 v1 (IntKind.wrap .i64 (v5+1))))<|.rt (-1)
def Zaf3(a0:List Zai)(a1:By):LT Zr3 Int:=
.g0 (.L0 a0 a1 0)
def Zaf4:LF Zr3 Int := .m0 60 [.t 4] wI fun | .L0 v0 v1 v5=>([1,0,1,4],⟨20,[(0,wL Zax v0),(1,wS v1),(5,wI v5)],[]⟩,Z1x v0 v1 v5)
def Zacy:=fun a0 a1=>Zaf4.run (Zaf3 a0 a1)
theorem Zaq2(a0)(a1){r}(h:Zacy a0 a1=some r):Fn PR 60 [wL Zax a0,wS a1] (wI r):=Zaf4.fn h
inductive Zpe where
 | L0 (v0:List Zai) (v1:By) (v5:Int)
def Zyo(v0:List Zai)(v1:By)(v5:Int):LT Zpe Bool:=
.len Zax v0<|.br (decide (v5 < (v0.length:Int))) (.idx Zax v0 v5 fun x3=>.cs (x3.Name==v1) (.k3 1<|.ag Zax x3 0<|.k3 1<|.br x3.Token (.rt true)<|.g0 (.L0 v0 v1 (IntKind.wrap .i64 (v5+1))))<|.k5 1<|.kg 1<|.kn [0]<|.g0 (.L0 v0 v1 (IntKind.wrap .i64 (v5+1))))<|.rt false
def Zaax(a0:List Zai)(a1:By):LT Zpe Bool:=
.g0 (.L0 a0 a1 0)
def Zaay:LF Zpe Bool := .m0 85 [.t 4] wB fun | .L0 v0 v1 v5=>([1,0,1,4],⟨26,[(0,wL Zax v0),(1,wS v1),(5,wI v5)],[]⟩,Zyo v0 v1 v5)
def Z7r:=fun a0 a1=>Zaay.run (Zaax a0 a1)
theorem Zaof(a0)(a1){r}(h:Z7r a0 a1=some r):Fn PR 85 [wL Zax a0,wS a1] (wB r):=Zaay.fn h
inductive Zj6 where
 | L0 (v0:List Zai) (E0:Zai) (v5:Int)
 | L1 (v0:List Zai) (E0:Zai) (v5:Int) (v6:Int)
def Ztf(v0:List Zai)(E0:Zai)(v5:Int):LT Zj6 Bool:=
.len Zay E0.Abilities<|.br (decide (v5 < (E0.Abilities.length:Int))) (.g0 (.L1 v0 E0 v5 0))<|.rt true
def Ztg(v0:List Zai)(E0:Zai)(v5:Int)(v6:Int):LT Zj6 Bool:=
.idx Zay E0.Abilities v5 fun x1=>.len Zo x1.Effects<|.br (decide (v6 < (x1.Effects.length:Int))) (.ag Zay x1 0<|.idx Zo x1.Effects v6 fun x5=>.lb 1007<|.cs (x5.Op==12) (.k4 1<|.call (Zaof v0 x5.Card) fun x8=>.k2 1<|.br (!x8) (.rt false)<|.g0 (.L1 v0 E0 v5 (IntKind.wrap .i64 (v6+1))))<|.k5 1<|.kg 1<|.kn [0]<|.g0 (.L1 v0 E0 v5 (IntKind.wrap .i64 (v6+1))))<|.g0 (.L0 v0 E0 (IntKind.wrap .i64 (v5+1)))
def Z5p(a0:List Zai)(a1:Zai):LT Zj6 Bool:=
.lb 1003<|.go (.L0 a0 a1 0) [.relab 1003 3000]
def Z5q:LF Zj6 Bool := .m0 61 [.t 4] wB fun | .L0 v0 E0 v5=>([1,0,1,4],⟨45,[(0,wL Zax v0),(3,.bptr 3000 0),(5,wI v5)],[(3000,.box (bx (Zax E0)))]⟩,Ztf v0 E0 v5) | .L1 v0 E0 v5 v6=>([1,0,1,4,5,1,0,4,1,4],⟨45,[(0,wL Zax v0),(3,.bptr 3000 0),(5,wI v5),(6,wI v6)],[(3000,.box (bx (Zax E0)))]⟩,Ztg v0 E0 v5 v6)
def Z1y:=fun a0 a1=>Z5q.run (Z5p a0 a1)
theorem Zaia(a0)(a1){r}(h:Z1y a0 a1=some r):Fn PR 61 [wL Zax a0,wA (Zax a1)] (wB r):=Z5q.fn h
inductive Zpf where
 | L0 (v0:List Zai) (v4:Int)
def Zyp(v0:List Zai)(v4:Int):LT Zpf (Int×Int):=
.len Zax v0<|.br (decide (v4 < (v0.length:Int))) (.idx Zax v0 v4 fun x3=>.call (Zav5 x3) fun x5=>.br (!x5) (.rt (v4,9))<|.ag Zax x3 0<|.call (Zaq2 v0 x3.Name) fun x8=>.br (decide (x8 < v4)) (.rt (v4,6))<|.ag Zax x3 0<|.call (Zaia v0 x3) fun x11=>.br (!x11) (.rt (v4,7))<|.g0 (.L0 v0 (IntKind.wrap .i64 (v4+1))))<|.rt ((-1),0)
def Zaaz(a0:List Zai):LT Zpf (Int×Int):=
.len Zax a0<|.br (decide ((a0.length:Int) > 256)) (.rt ((-1),5))<|.g0 (.L0 a0 0)
def Zaa0:LF Zpf (Int×Int) := .m0 28 [.t 2,.t 3] (fun r=>(.tup [wI r.1,wI r.2])) fun | .L0 v0 v4=>([1,1,0,1,4],⟨39,[(0,wL Zax v0),(4,wI v4)],[]⟩,Zyp v0 v4)
def Z7s:=fun a0=>Zaa0.run (Zaaz a0)
theorem Zaog(a0){r}(h:Z7s a0=some r):Fn PR 28 [wL Zax a0] (.tup [wI r.1,wI r.2]):=Zaa0.fn h
def Zaoh(a0:Int)(a1:Int)(a2:Int):LT Empty Bool:=
.cs (decide (a0>=a1)) (.k4 0<|.rt (decide (a0<=a2)))<|.k4 0<|.rt false
def Zaoi:LF Empty Bool := .z0 62 [.t 6] wB
def Zaoj:=fun a0 a1 a2=>Zaoi.run (Zaoh a0 a1 a2)
theorem Zgq(a0)(a1)(a2){r}(h:Zaoj a0 a1 a2=some r):Fn PR 62 [wI a0,wI a1,wI a2] (wB r):=Zaoi.fn h
inductive Zpg where
 | L0 (E0:A6 Int) (v3:Int)
def Zyq(E0:A6 Int)(v3:Int):LT Zpg Bool:=
.br (decide (v3 < 6)) (.idA (Zb.int .i64) (A6.list E0) v3 (bx ((cA6 (cI .i64)) E0)) 0 6 fun x2=>.ldC (Zb.int .i64) 10 x2 0<|.cs (decide (x2 < 0)) (.k5 1<|.kn [0]<|.rt false)<|.k2 1<|.idA (Zb.int .i64) (A6.list E0) v3 (bx ((cA6 (cI .i64)) E0)) 0 6 fun x5=>.kg 1<|.ldC (Zb.int .i64) 15 x5 1<|.k2 1<|.br (decide (x5 > 1000000)) (.rt false)<|.g0 (.L0 E0 (IntKind.wrap .i64 (v3+1))))<|.rt true
def Zaa1(a0:A6 Int):LT Zpg Bool:=
.lb 1001<|.go (.L0 a0 0) [.relab 1001 3000]
def Zaa2:LF Zpg Bool := .m0 86 [.t 2] wB fun | .L0 E0 v3=>([1,0,1,4],⟨18,[(1,.bptr 3000 0),(3,wI v3)],[(3000,.box (bx ((cA6 (cI .i64)) E0)))]⟩,Zyq E0 v3)
def Z7t:=fun a0=>Zaa2.run (Zaa1 a0)
theorem Zaok(a0){r}(h:Z7t a0=some r):Fn PR 86 [wA ((cA6 (cI .i64)) a0)] (wB r):=Zaa2.fn h
inductive Zph where
 | L0 (v1:Int) (E0:Za) (v5:Int)
def Zhr(v1:Int)(E0:Za)(v5:Int):LT Zph Int:=
.len Zc E0.Objects<|.br (decide (v5 < (E0.Objects.length:Int))) (.idx Zc E0.Objects v5 fun x3=>.br (x3.Id==v1) (.rt v5)<|.g0 (.L0 v1 E0 (IntKind.wrap .i64 (v5+1))))<|.rt (-1)
def Z1z(a0:Za)(a1:Int):LT Zph Int:=
.lb 1002<|.go (.L0 a1 a0 0) [.relab 1002 3000]
def Zt9:LF Zph Int := .m0 148 [.t 4] wI fun | .L0 v1 E0 v5=>([1,0,1,4],⟨22,[(1,wI v1),(2,.bptr 3000 0),(5,wI v5)],[(3000,.box (bx (Zr E0)))]⟩,Zhr v1 E0 v5)
def Zvd:=fun a0 a1=>Zt9.run (Z1z a0 a1)
theorem Zaol(a0)(a1){r}(h:Zvd a0 a1=some r):Fn PR 148 [wA (Zr a0),wI a1] (wI r):=Zt9.fn h
def Z4o(a0:Za)(a1:Int):LT Empty (Zp×Bool):=
.lb 1002<|.lb 1004<|.call (Zaol a0 a1) fun x1=>.br (decide (x1 < 0)) (.rt ((⟨0,0,0,0,0,false,false,false,false,0,(⟨0,0,0⟩:A3 Int),0,0,0,false,0,0⟩:Zp),false))<|.idx Zc a0.Objects x1 fun x4=>.rt (x4,true)
def Zaf5:LF Empty (Zp×Bool) := .z0 132 [.c 4 48 true 19,.t 5] (fun r=>(.tup [wA (Zc r.1),wB r.2]))
def Z4p:=fun a0 a1=>Zaf5.run (Z4o a0 a1)
theorem Zaq3(a0)(a1){r}(h:Z4p a0 a1=some r):Fn PR 132 [wA (Zr a0),wI a1] (.tup [wA (Zc r.1),wB r.2]):=Zaf5.fn h
def Zyr(a0:Za)(a1:Int):LT Empty (Zp×Bool):=
.lb 1002<|.lb 1004<|.call (Zaq3 a0 a1) fun x1=>.rt (x1.1,x1.2)
def Z7u:LF Empty (Zp×Bool) := .z0 109 [.c 4 48 true 19,.t 5] (fun r=>(.tup [wA (Zc r.1),wB r.2]))
def Zr4:=fun a0 a1=>Z7u.run (Zyr a0 a1)
theorem Z5r(a0)(a1){r}(h:Zr4 a0 a1=some r):Fn PR 109 [wA (Zr a0),wI a1] (.tup [wA (Zc r.1),wB r.2]):=Z7u.fn h
inductive Zpi where
 | L0 (v0:List Int) (v1:Int) (v5:Int) (v6:Int)
def Znj(v0:List Int)(v1:Int)(v5:Int)(v6:Int):LT Zpi Int:=
.len (cI .i64) v0<|.br (decide (v6 < (v0.length:Int))) (.idx (cI .i64) v0 v6 fun x3=>.br (x3==v1) (.g0 (.L0 v0 v1 (IntKind.wrap .i64 (v5+1)) (IntKind.wrap .i64 (v6+1))))<|.g0 (.L0 v0 v1 v5 (IntKind.wrap .i64 (v6+1))))<|.rt v5
def Z10(a0:List Int)(a1:Int):LT Zpi Int:=
.g0 (.L0 a0 a1 0 0)
def Z11:LF Zpi Int := .m0 110 [.t 4] wI fun | .L0 v0 v1 v5 v6=>([1,1,0,1,4],⟨22,[(0,wL (cI .i64) v0),(1,wI v1),(5,wI v5),(6,wI v6)],[]⟩,Znj v0 v1 v5 v6)
def Zq5:=fun a0 a1=>Z11.run (Z10 a0 a1)
theorem Zys(a0)(a1){r}(h:Zq5 a0 a1=some r):Fn PR 110 [wL (cI .i64) a0,wI a1] (wI r):=Z11.fn h
inductive Zlp where
 | L0 (v1:List Int) (v2:Int) (v3:Int) (E0:Za) (v9:Int)
def Zpj(v1:List Int)(v2:Int)(v3:Int)(E0:Za)(v9:Int):LT Zlp Bool:=
.len (cI .i64) v1<|.br (decide (v9 < (v1.length:Int))) (.idx (cI .i64) v1 v9 fun x3=>.call (Z5r E0 x3) fun x5=>.lb 1010<|.cs (!x5.2) (.k5 1<|.b8 true<|.b5 true<|.kn [0]<|.rt false)<|.k5 1<|.cs (x5.1.Zone != v2) (.k5 2<|.b8 true<|.kn [0]<|.rt false)<|.k3 2<|.cs (decide (v3>=0)) (.k4 3<|.kg 2<|.kg 3<|.kg 2<|.cs (x5.1.Owner != v3) (.k8 4<|.kn [0]<|.rt false)<|.k4 4<|.ag (cI .i64) x3 0<|.k2 4<|.call (Zys v1 x3) fun x11=>.k2 4<|.br (x11 != 1) (.rt false)<|.g0 (.L0 v1 v2 v3 E0 (IntKind.wrap .i64 (v9+1))))<|.k4 3<|.kg 2<|.kg 3<|.kg 2<|.b4 false<|.ag (cI .i64) x3 0<|.b2 false<|.call (Zys v1 x3) fun x16=>.b2 false<|.br (x16 != 1) (.rt false)<|.g0 (.L0 v1 v2 v3 E0 (IntKind.wrap .i64 (v9+1))))<|.rt true
def Z4q(a0:Za)(a1:List Int)(a2:Int)(a3:Int):LT Zlp Bool:=
.lb 1004<|.go (.L0 a1 a2 a3 a0 0) [.relab 1004 3000]
def Z4r:LF Zlp Bool := .m0 87 [.t 8] wB fun | .L0 v1 v2 v3 E0 v9=>([1,0,1,4],⟨54,[(1,wL (cI .i64) v1),(2,wI v2),(3,wI v3),(4,.bptr 3000 0),(9,wI v9)],[(3000,.box (bx (Zr E0)))]⟩,Zpj v1 v2 v3 E0 v9)
def Zik:=fun a0 a1 a2 a3=>Z4r.run (Z4q a0 a1 a2 a3)
theorem Zpk(a0)(a1)(a2)(a3){r}(h:Zik a0 a1 a2 a3=some r):Fn PR 87 [wA (Zr a0),wL (cI .i64) a1,wI a2,wI a3] (wB r):=Z4r.fn h
inductive Zmb where
 | L0 (E0:Za) (v3:Int)
def Zku(E0:Za)(v3:Int):LT Zmb Bool:=
.len Ze E0.Players<|.br (decide (v3 < (E0.Players.length:Int))) (.idx Ze E0.Players v3 fun x3=>.lb 1004<|.call (Zgq x3.Life (-1000000) 1000000) fun x5=>.cs (!x5) (.k5 1<|.b8 true<|.b2 true<|.kn [0]<|.rt false)<|.k3 1<|.call (Zgq x3.Venom 0 1000000) fun x8=>.k2 1<|.cs (!x8) (.k5 2<|.b5 true<|.kn [0]<|.rt false)<|.k3 2<|.call (Zgq x3.Lands 0 1000000) fun x11=>.k2 2<|.cs (!x11) (.k5 3<|.kn [0]<|.rt false)<|.k3 3<|.call (Zaok x3.Pool) fun x14=>.k2 3<|.br (!x14) (.rt false)<|.call (Zpk E0 x3.Library 2 v3) fun x17=>.cs (!x17) (.k5 5<|.k2 5<|.b5 true<|.b2 true<|.kn [0]<|.rt false)<|.k5 5<|.call (Zpk E0 x3.Hand 1 v3) fun x20=>.k2 5<|.cs (!x20) (.k5 6<|.k2 6<|.kn [0]<|.rt false)<|.k5 6<|.call (Zpk E0 x3.Graveyard 3 v3) fun x23=>.k2 6<|.br (!x23) (.rt false)<|.g0 (.L0 E0 (IntKind.wrap .i64 (v3+1))))<|.call (Zpk E0 E0.Battlefield 0 (-1)) fun x28=>.cs x28 (.k4 1<|.call (Zpk E0 E0.Exile 4 (-1)) fun x31=>.kg 1<|.rt x31)<|.k5 1<|.rt false
def Zvz(a0:Za):LT Zmb Bool:=
.lb 1001<|.len Ze a0.Players<|.call (Zgq (a0.Players.length:Int) 2 4) fun x2=>.br (!x2) (.rt false)<|.go (.L0 a0 0) [.relab 1001 3000]
def Zv0:LF Zmb Bool := .m0 63 [.t 2] wB fun | .L0 E0 v3=>([1,1,0,1,4],⟨76,[(1,.bptr 3000 0),(3,wI v3)],[(3000,.box (bx (Zr E0)))]⟩,Zku E0 v3)
def Zmp:=fun a0=>Zv0.run (Zvz a0)
theorem Zaib(a0){r}(h:Zmp a0=some r):Fn PR 63 [wA (Zr a0)] (wB r):=Zv0.fn h
def Z7v(a0:Za)(a1:Int):LT Empty Bool:=
.lb 1002<|.len Ze a0.Players<|.call (Zgq a1 0 (IntKind.wrap .i64 ((a0.Players.length:Int) - 1))) fun x4=>.rt x4
def Z7w:LF Empty Bool := .z0 64 [.t 4] wB
def Z4s:=fun a0 a1=>Z7w.run (Z7v a0 a1)
theorem Zja(a0)(a1){r}(h:Z4s a0 a1=some r):Fn PR 64 [wA (Zr a0),wI a1] (wB r):=Z7w.fn h
inductive Zyt where
 | L0 (E0:A3 Int) (v3:Int)
def Z7x(E0:A3 Int)(v3:Int):LT Zyt Bool:=
.br (decide (v3 < 3)) (.idA (Zb.int .i64) (A3.list E0) v3 (bx ((cA3 (cI .i64)) E0)) 0 3 fun x2=>.ldC (Zb.int .i64) 10 x2 0<|.cs (decide (x2 < 0)) (.k5 1<|.kn [0]<|.rt false)<|.k2 1<|.idA (Zb.int .i64) (A3.list E0) v3 (bx ((cA3 (cI .i64)) E0)) 0 3 fun x5=>.kg 1<|.ldC (Zb.int .i64) 15 x5 1<|.k2 1<|.br (decide (x5 > 1000000)) (.rt false)<|.g0 (.L0 E0 (IntKind.wrap .i64 (v3+1))))<|.rt true
def Zaom(a0:A3 Int):LT Zyt Bool:=
.lb 1001<|.go (.L0 a0 0) [.relab 1001 3000]
def Zaon:LF Zyt Bool := .m0 111 [.t 2] wB fun | .L0 E0 v3=>([1,0,1,4],⟨18,[(1,.bptr 3000 0),(3,wI v3)],[(3000,.box (bx ((cA3 (cI .i64)) E0)))]⟩,Z7x E0 v3)
def Zaoo:=fun a0=>Zaon.run (Zaom a0)
theorem Zav6(a0){r}(h:Zaoo a0=some r):Fn PR 111 [wA ((cA3 (cI .i64)) a0)] (wB r):=Zaon.fn h
def Zaf6(a0:Zp):LT Empty Zp:=
.lb 1001<|.lb 1002<|.rt (⟨a0.Id,a0.Card,a0.Owner,a0.Control,a0.Zone,a0.Token,a0.Tapped,a0.Sick,a0.Deadly,a0.Damage,a0.Counters,a0.Stamp,a0.Copy,-1,false,0,a0.Shield⟩:Zp)
def Zaf7:LF Empty Zp := .z0 112 [.c 2 48 true 19] (fun r=>(wA (Zc r)))
def Zacz:=fun a0=>Zaf7.run (Zaf6 a0)
theorem Zaq4(a0){r}(h:Zacz a0=some r):Fn PR 112 [wA (Zc a0)] (wA (Zc r)):=Zaf7.fn h
def Zaa3(a0:Zp):LT Empty Zp:=
.lb 1001<|.lb 1002<|.rt (⟨a0.Id,a0.Card,a0.Owner,a0.Control,a0.Zone,a0.Token,a0.Tapped,a0.Sick,false,0,a0.Counters,a0.Stamp,a0.Copy,a0.Attack,a0.Blocked,a0.Blocks,0⟩:Zp)
def Zaa4:LF Empty Zp := .z0 113 [.c 2 48 true 19] (fun r=>(wA (Zc r)))
def Z7y:=fun a0=>Zaa4.run (Zaa3 a0)
theorem Zaop(a0){r}(h:Z7y a0=some r):Fn PR 113 [wA (Zc a0)] (wA (Zc r)):=Zaa4.fn h
def Zaoq(a0:Zp)(a1:Int)(a2:Int):LT Empty Bool:=
.lb 1003<|.cs (decide (a0.Id < 1)) (.k4 0<|.b16 true<|.b8 true<|.b5 true<|.b2 true<|.kn [0]<|.rt false)<|.k4 0<|.cs (decide (a0.Card < 0)) (.k5 1<|.b16 true<|.b8 true<|.b2 true<|.kn [0]<|.rt false)<|.k5 1<|.cs (decide (a0.Card>=a1)) (.k4 2<|.b16 true<|.b5 true<|.kb true<|.kn [0]<|.rt false)<|.k4 2<|.cs (decide (a0.Owner < 0)) (.k5 3<|.b16 true<|.kb true<|.kn [0]<|.rt false)<|.k5 3<|.cs (decide (a0.Owner>=a2)) (.k4 4<|.b8 true<|.b5 true<|.kn [0]<|.rt false)<|.k4 4<|.cs (decide (a0.Control < 0)) (.k5 5<|.b8 true<|.kn [0]<|.rt false)<|.k5 5<|.cs (decide (a0.Control>=a2)) (.k4 6<|.b4 true<|.kn [0]<|.rt false)<|.k4 6<|.cs (decide (a0.Zone < 0)) (.k4 7<|.kn [0]<|.rt false)<|.k4 7<|.br (decide (a0.Zone > 5)) (.rt false)<|.cs (decide (a0.Damage < 0)) (.k4 9<|.b16 true<|.b8 true<|.kn [0]<|.rt false)<|.k4 9<|.cs (decide (a0.Damage > 1000000)) (.k4 10<|.b16 true<|.b4 true<|.kn [0]<|.rt false)<|.k4 10<|.cs (decide (a0.Stamp < 0)) (.k4 11<|.b16 true<|.kn [0]<|.rt false)<|.k4 11<|.cs (decide (a0.Stamp > 1000000)) (.k4 12<|.b8 true<|.b4 true<|.kn [0]<|.rt false)<|.k4 12<|.cs (decide (a0.Blocks < 0)) (.k4 13<|.b8 true<|.kn [0]<|.rt false)<|.k4 13<|.cs (decide (a0.Blocks > 1000000)) (.k4 14<|.b4 true<|.kn [0]<|.rt false)<|.k4 14<|.cs (decide (a0.Shield < 0)) (.k4 15<|.kn [0]<|.rt false)<|.k4 15<|.br (decide (a0.Shield > 1000000)) (.rt false)<|.call (Zav6 a0.Counters) fun x18=>.cs (!x18) (.k4 17<|.b8 true<|.b5 true<|.kb true<|.kn [0]<|.rt false)<|.k4 17<|.cs (decide (a0.Copy < (-1))) (.k5 18<|.b8 true<|.kb true<|.kn [0]<|.rt false)<|.k5 18<|.cs (decide (a0.Copy>=a1)) (.k4 19<|.b5 true<|.kn [0]<|.rt false)<|.k4 19<|.cs (decide (a0.Attack < (-1))) (.k5 20<|.kn [0]<|.rt false)<|.k5 20<|.br (decide (a0.Attack>=a2)) (.rt false)<|.cs (a0.Zone==0) (.k8 22<|.k5 22<|.rt true)<|.k3 22<|.call (Zaq4 a0) fun x26=>.k2 22<|.cs (Z2 (Zc a0) (Zc x26)) (.k3 23<|.call (Zaop a0) fun x29=>.kg 23<|.kg 22<|.kg 23<|.kg 22<|.cs (Z2 (Zc a0) (Zc x29)) (.k3 24<|.kg 22<|.kg 24<|.kg 22<|.cs (!a0.Tapped) (.k3 25<|.kg 22<|.kg 25<|.kg 22<|.cs (!a0.Sick) (.k4 26<|.kg 22<|.kg 26<|.kg 22<|.rt (Z2 ((cA3 (cI .i64)) a0.Counters) ((cA3 (cI .i64)) (⟨0,0,0⟩:A3 Int))))<|.k4 26<|.kg 22<|.kg 26<|.kg 22<|.rt false)<|.k3 25<|.kg 22<|.kg 25<|.kg 22<|.b4 false<|.kg 22<|.kb false<|.kg 22<|.rt false)<|.k3 24<|.kg 22<|.kg 24<|.kg 22<|.b3 false<|.kg 22<|.kb false<|.kg 22<|.b4 false<|.kg 22<|.kb false<|.kg 22<|.rt false)<|.k4 23<|.kg 22<|.kg 23<|.kg 22<|.b3 false<|.kg 22<|.kb false<|.kg 22<|.b3 false<|.kg 22<|.kb false<|.kg 22<|.b4 false<|.kg 22<|.kb false<|.kg 22<|.rt false
def Zaor:LF Empty Bool := .z0 88 [.t 6] wB
def Zaos:=fun a0 a1 a2=>Zaor.run (Zaoq a0 a1 a2)
theorem Zav7(a0)(a1)(a2){r}(h:Zaos a0 a1 a2=some r):Fn PR 88 [wA (Zc a0),wI a1,wI a2] (wB r):=Zaor.fn h
inductive Znk where
 | L0 (v1:Int) (E0:Za) (v5:Int) (v6:Int)
def Zv1(v1:Int)(E0:Za)(v5:Int)(v6:Int):LT Znk Int:=
.len Zf E0.Stack<|.br (decide (v6 < (E0.Stack.length:Int))) (.idx Zf E0.Stack v6 fun x3=>.cs (x3.Kind==1) (.k4 1<|.ag Zf x3 0<|.k5 1<|.br (x3.Id==v1) (.g0 (.L0 v1 E0 (IntKind.wrap .i64 (v5+1)) (IntKind.wrap .i64 (v6+1))))<|.g0 (.L0 v1 E0 v5 (IntKind.wrap .i64 (v6+1))))<|.k8 1<|.kg 1<|.kn [0]<|.g0 (.L0 v1 E0 v5 (IntKind.wrap .i64 (v6+1))))<|.rt v5
def Z7z(a0:Za)(a1:Int):LT Znk Int:=
.lb 1002<|.go (.L0 a1 a0 0 0) [.relab 1002 3000]
def Z70:LF Znk Int := .m0 114 [.t 4] wI fun | .L0 v1 E0 v5 v6=>([1,1,0,1,4],⟨34,[(1,wI v1),(2,.bptr 3000 0),(5,wI v5),(6,wI v6)],[(3000,.box (bx (Zr E0)))]⟩,Zv1 v1 E0 v5 v6)
def Z4t:=fun a0 a1=>Z70.run (Z7z a0 a1)
theorem Zaj7(a0)(a1){r}(h:Z4t a0 a1=some r):Fn PR 114 [wA (Zr a0),wI a1] (wI r):=Z70.fn h
def Z4u(a0:List Int):LT Empty (List Int):=
.lb 1003<|.apR (cI .i64) 8 ([]:List Int) a0 fun x1=>.ret x1 [.relab 1003 5000]
def Zaf8:LF Empty (List Int) := .z 16 [.t 2] true (fun r=>[(5000,wR (cI .i64) 1 r)]) (fun r=>(wO (cI .i64) 5000 r))
def Zth:=fun a0=>Zaf8.run (Z4u a0)
theorem Zhs(a0){r}(h:Zth a0=some r):FnG PR 16 [] [wL (cI .i64) a0] [(5000,wR (cI .i64) 1 r)] (wO (cI .i64) 5000 r):=Zaf8.fn h
theorem Zua(a0:List Int){r:List Int}(h:Zth a0=some r):Fn PR 16 [wL (cI .i64) a0] (wL (cI .i64) r):=
 FnG.frozen (C:=LT.RL (cI .i64) r/\True) (Zhs a0 h) ⟨rfl,trivial⟩ (by kernel_rfl)
def Z4v(a0:Za)(a1:Int)(a2:Int):LT Empty (List Int):=
.lb 1003<|.br (a1==0) (.callF (Zhs a0.Battlefield) 130000 fun x2=>.ret x2 [.relab 135000 5000])<|.br (a1==4) (.callF (Zhs a0.Exile) 180000 fun x5=>.ret x5 [.relab 185000 5000])<|.cs (decide (a2 < 0)) (.k5 2<|.kg 2<|.kn [0]<|.ret ([]:List Int) [.own 6 5000 1])<|.k4 2<|.len Ze a0.Players<|.k2 2<|.br (decide (a2>=(a0.Players.length:Int))) (.ret ([]:List Int) [.own 6 5000 1])<|.br (a1==1) (.idx Ze a0.Players a2 fun x11=>.callF (Zhs x11.Hand) 370000 fun x13=>.ret x13 [.relab 375000 5000])<|.br (a1==2) (.idx Ze a0.Players a2 fun x16=>.callF (Zhs x16.Library) 460000 fun x18=>.ret x18 [.relab 465000 5000])<|.br (a1==3) (.idx Ze a0.Players a2 fun x21=>.callF (Zhs x21.Graveyard) 550000 fun x23=>.ret x23 [.relab 555000 5000])<|.ret ([]:List Int) [.own 6 5000 1]
def Zaf9:LF Empty (List Int) := .z 115 [.t 6] true (fun r=>[(5000,wR (cI .i64) 1 r)]) (fun r=>(wO (cI .i64) 5000 r))
def Zyu:=fun a0 a1 a2=>Zaf9.run (Z4v a0 a1 a2)
theorem Zaot(a0)(a1)(a2){r}(h:Zyu a0 a1 a2=some r):FnG PR 115 [] [wA (Zr a0),wI a1,wI a2] [(5000,wR (cI .i64) 1 r)] (wO (cI .i64) 5000 r):=Zaf9.fn h
theorem Zaq5(a0:Za)(a1:Int)(a2:Int){r:List Int}(h:Zyu a0 a1 a2=some r):Fn PR 115 [wA (Zr a0),wI a1,wI a2] (wL (cI .i64) r):=
 FnG.frozen (C:=LT.RL (cI .i64) r/\True) (Zaot a0 a1 a2 h) ⟨rfl,trivial⟩ (by kernel_rfl)
def Zyv(a0:Za)(a1:Zp):LT Empty Bool:=
.lb 1002<|.lb 1003<|.br (a1.Zone==5) (.call (Zaj7 a0 a1.Id) fun x2=>.rt (x2==1))<|.call (Zaq5 a0 a1.Zone a1.Owner) fun x4=>.call (Zys x4 a1.Id) fun x6=>.rt (x6==1)
def Z71:LF Empty Bool := .z0 89 [.t 4] wB
def Zlq:=fun a0 a1=>Z71.run (Zyv a0 a1)
theorem Z5s(a0)(a1){r}(h:Zlq a0 a1=some r):Fn PR 89 [wA (Zr a0),wA (Zc a1)] (wB r):=Z71.fn h
inductive Zmc where
 | L0 (v0:List Zai) (E0:Za) (v5:Int)
def Zkv(v0:List Zai)(E0:Za)(v5:Int):LT Zmc Bool:=
.len Zc E0.Objects<|.br (decide (v5 < (E0.Objects.length:Int))) (.idx Zc E0.Objects v5 fun x3=>.lb 1006<|.len Zax v0<|.len Ze E0.Players<|.call (Zav7 x3 (v0.length:Int) (E0.Players.length:Int)) fun x7=>.cs (!x7) (.k5 1<|.kg 1<|.b8 true<|.b3 true<|.kn [0]<|.rt false)<|.k5 1<|.kg 1<|.cs (decide (x3.Id>=E0.NextId)) (.k5 2<|.kg 2<|.b5 true<|.kn [0]<|.rt false)<|.k5 2<|.kg 2<|.cs (decide (x3.Stamp>=E0.NextStamp)) (.k5 3<|.kn [0]<|.rt false)<|.k3 3<|.cs (decide (v5 > 0)) (.k5 4<|.idx Zc E0.Objects (IntKind.wrap .i64 (v5 - 1)) fun x15=>.k5 4<|.kg 3<|.kg 4<|.kg 3<|.br (decide (x15.Id>=x3.Id)) (.rt false)<|.call (Z5s E0 x3) fun x18=>.br (!x18) (.rt false)<|.g0 (.L0 v0 E0 (IntKind.wrap .i64 (v5+1))))<|.k8 4<|.k2 4<|.kg 3<|.kg 4<|.kg 3<|.kn [0]<|.call (Z5s E0 x3) fun x23=>.br (!x23) (.rt false)<|.g0 (.L0 v0 E0 (IntKind.wrap .i64 (v5+1))))<|.rt true
def Zv2(a0:List Zai)(a1:Za):LT Zmc Bool:=
.lb 1003<|.len Zc a1.Objects<|.br (decide ((a1.Objects.length:Int) > 2048)) (.rt false)<|.go (.L0 a0 a1 0) [.relab 1003 3000]
def Zv3:LF Zmc Bool := .m0 65 [.t 4] wB fun | .L0 v0 E0 v5=>([1,1,0,1,4],⟨65,[(0,wL Zax v0),(3,.bptr 3000 0),(5,wI v5)],[(3000,.box (bx (Zr E0)))]⟩,Zkv v0 E0 v5)
def Ziw:=fun a0 a1=>Zv3.run (Zv2 a0 a1)
theorem Zon(a0)(a1){r}(h:Ziw a0 a1=some r):Fn PR 65 [wL Zax a0,wA (Zr a1)] (wB r):=Zv3.fn h
inductive Zil where
 | L0 (v0:List Zq) (v1:List Zq) (v5:Int)
def Zht(v0:List Zq)(v1:List Zq)(v5:Int):LT Zil Bool:=
.len Zk v0<|.br (decide (v5 < (v0.length:Int))) (.idx Zk v0 v5 fun x3=>.idx Zk v1 v5 fun x5=>.br (!(Z2 (Zk x3) (Zk x5))) (.rt false)<|.g0 (.L0 v0 v1 (IntKind.wrap .i64 (v5+1))))<|.rt true
def Zti(a0:List Zq)(a1:List Zq):LT Zil Bool:=
.len Zk a0<|.len Zk a1<|.br ((a0.length:Int) != (a1.length:Int)) (.rt false)<|.g0 (.L0 a0 a1 0)
def Zoo:LF Zil Bool := .m0 98 [.t 4] wB fun | .L0 v0 v1 v5=>([1,1,0,1,4],⟨26,[(0,wL Zk v0),(1,wL Zk v1),(5,wI v5)],[]⟩,Zht v0 v1 v5)
def Znl:=fun a0 a1=>Zoo.run (Zti a0 a1)
theorem Z0l(a0)(a1){r}(h:Znl a0 a1=some r):Fn PR 98 [wL Zk a0,wL Zk a1] (wB r):=Zoo.fn h
def Z4w(a0:Zv)(a1:Zv):LT Empty Bool:=
.lb 1002<|.lb 1003<|.cs (a0.Op==a1.Op) (.k5 0<|.kg 0<|.cs (Z2 (Zeh a0.Ref) (Zeh a1.Ref)) (.k5 1<|.kg 1<|.cs (Z2 (Zbn a0.Amount) (Zbn a1.Amount)) (.k5 2<|.kg 2<|.cs (a0.Counter==a1.Counter) (.k5 3<|.kg 3<|.cs (a0.Zone==a1.Zone) (.k5 4<|.kg 4<|.cs (a0.Card==a1.Card) (.k5 5<|.kg 5<|.cs (Z2 (Zy a0.Filter) (Zy a1.Filter)) (.k5 6<|.kg 6<|.cs (Z2 ((cA6 (cI .i64)) a0.Pool) ((cA6 (cI .i64)) a1.Pool)) (.k5 7<|.call (Z0l a0.Mods a1.Mods) fun x9=>.kg 7<|.rt x9)<|.k5 7<|.kg 7<|.rt false)<|.k5 6<|.kg 6<|.b5 false<|.kb false<|.rt false)<|.k5 5<|.kg 5<|.b8 false<|.b4 false<|.rt false)<|.k5 4<|.kg 4<|.b16 false<|.b2 false<|.rt false)<|.k5 3<|.kg 3<|.b16 false<|.b8 false<|.rt false)<|.k5 2<|.kg 2<|.b16 false<|.b8 false<|.b5 false<|.kb false<|.rt false)<|.k5 1<|.kg 1<|.b16 false<|.b16 false<|.b4 false<|.rt false)<|.k5 0<|.kg 0<|.b16 false<|.b16 false<|.b8 false<|.b2 false<|.rt false
def Zaga:LF Empty Bool := .z0 118 [.t 4] wB
def Zyw:=fun a0 a1=>Zaga.run (Z4w a0 a1)
theorem Zaq6(a0)(a1){r}(h:Zyw a0 a1=some r):Fn PR 118 [wA (Zo a0),wA (Zo a1)] (wB r):=Zaga.fn h
inductive Zim where
 | L0 (v0:List Zv) (v1:List Zv) (v5:Int)
def Zhu(v0:List Zv)(v1:List Zv)(v5:Int):LT Zim Bool:=
.len Zo v0<|.br (decide (v5 < (v0.length:Int))) (.idx Zo v0 v5 fun x3=>.idx Zo v1 v5 fun x5=>.call (Zaq6 x3 x5) fun x7=>.br (!x7) (.rt false)<|.g0 (.L0 v0 v1 (IntKind.wrap .i64 (v5+1))))<|.rt true
def Ztj(a0:List Zv)(a1:List Zv):LT Zim Bool:=
.len Zo a0<|.len Zo a1<|.br ((a0.length:Int) != (a1.length:Int)) (.rt false)<|.g0 (.L0 a0 a1 0)
def Zop:LF Zim Bool := .m0 99 [.t 4] wB fun | .L0 v0 v1 v5=>([1,1,0,1,4],⟨27,[(0,wL Zo v0),(1,wL Zo v1),(5,wI v5)],[]⟩,Zhu v0 v1 v5)
def Znm:=fun a0 a1=>Zop.run (Ztj a0 a1)
theorem Zagb(a0)(a1){r}(h:Znm a0 a1=some r):Fn PR 99 [wL Zo a0,wL Zo a1] (wB r):=Zop.fn h
inductive Zoq where
 | L0 (E0:Zs) (E1:Zs) (v5:Int)
def Zkj(E0:Zs)(E1:Zs)(v5:Int):LT Zoq Bool:=
.len Z7 E0.Specs<|.br (decide (v5 < (E0.Specs.length:Int))) (.idx Z7 E0.Specs v5 fun x3=>.idx Z7 E1.Specs v5 fun x5=>.br (!(Z2 (Z7 x3) (Z7 x5))) (.rt false)<|.g0 (.L0 E0 E1 (IntKind.wrap .i64 (v5+1))))<|.cs (E0.Kind==E1.Kind) (.k5 1<|.kg 1<|.cs (Z2 (Zy E0.Filter) (Zy E1.Filter)) (.k5 2<|.call (Z0l E0.Mods E1.Mods) fun x12=>.kg 2<|.cs x12 (.k5 3<|.kg 3<|.cs (Z2 (Zei E0.Price) (Zei E1.Price)) (.k5 4<|.kg 4<|.cs (E0.Slow==E1.Slow) (.k5 5<|.kg 5<|.cs (Z2 (Zcz E0.Trigger) (Zcz E1.Trigger)) (.k5 6<|.kg 6<|.cs (E0.May==E1.May) (.k5 7<|.call (Zagb E0.Effects E1.Effects) fun x19=>.kg 7<|.cs x19 (.k5 8<|.kg 8<|.rt (Z2 (Zb8 E0.Replace) (Zb8 E1.Replace)))<|.k5 8<|.kg 8<|.rt false)<|.k5 7<|.kg 7<|.b5 false<|.kb false<|.rt false)<|.k5 6<|.kg 6<|.b8 false<|.b4 false<|.rt false)<|.k5 5<|.kg 5<|.b16 false<|.b2 false<|.rt false)<|.k5 4<|.kg 4<|.b16 false<|.b8 false<|.rt false)<|.k5 3<|.kg 3<|.b16 false<|.b8 false<|.b5 false<|.kb false<|.rt false)<|.k5 2<|.kg 2<|.b16 false<|.b16 false<|.b4 false<|.rt false)<|.k5 1<|.kg 1<|.b16 false<|.b16 false<|.b8 false<|.b2 false<|.rt false
def Z4x(a0:Zs)(a1:Zs):LT Zoq Bool:=
.lb 1002<|.lb 1003<|.len Z7 a0.Specs<|.len Z7 a1.Specs<|.br ((a0.Specs.length:Int) != (a1.Specs.length:Int)) (.rt false)<|.go (.L0 a0 a1 0) [.relab 1002 3000,.relab 1003 3001]
def Z4y:LF Zoq Bool := .m0 76 [.t 4] wB fun | .L0 E0 E1 v5=>([1,1,0,1,4],⟨92,[(2,.bptr 3000 0),(3,.bptr 3001 0),(5,wI v5)],[(3000,.box (bx (Zay E0))),(3001,.box (bx (Zay E1)))]⟩,Zkj E0 E1 v5)
def Zyx:=fun a0 a1=>Z4y.run (Z4x a0 a1)
theorem Z12(a0)(a1){r}(h:Zyx a0 a1=some r):Fn PR 76 [wA (Zay a0),wA (Zay a1)] (wB r):=Z4y.fn h
def Zagc(a0:Za)(a1:Zal):LT Empty Bool:=
.lb 1002<|.lb 1003<|.call (Zgq a1.Id 1 (IntKind.wrap .i64 (a0.NextId - 1))) fun x3=>.cs (!x3) (.k5 0<|.b8 true<|.b3 true<|.kn [0]<|.rt false)<|.k3 0<|.call (Zgq a1.X 0 1000000) fun x6=>.k2 0<|.cs (!x6) (.k5 1<|.b5 true<|.kb true<|.kn [0]<|.rt false)<|.k3 1<|.len Zaa a1.Targets<|.k2 1<|.cs (decide ((a1.Targets.length:Int) > 4)) (.k5 2<|.kg 2<|.kn [0]<|.rt false)<|.k4 2<|.call (Zja a0 a1.Control) fun x11=>.k2 2<|.br (!x11) (.rt false)<|.call (Z5r a0 a1.Id) fun x14=>.lb 1005<|.br (a1.Kind==1) (.call (Z12 a1.Ability (⟨0,(⟨0,0,0,0,0,0,0,([]:By),0,0,(⟨0,0⟩:Zg),(⟨0,0⟩:Zg),(⟨0,0⟩:Zg)⟩:Zn),([]:List Zq),(⟨(⟨0,0,(⟨0,0,0,0,0⟩:A5 Int)⟩:Zbz),false,false,0⟩:Zh6),false,(⟨0,0,(⟨0,0,0,0,0,0,0,([]:By),0,0,(⟨0,0⟩:Zg),(⟨0,0⟩:Zg),(⟨0,0⟩:Zg)⟩:Zn)⟩:Zd0),false,([]:List Zbp),([]:List Zv),(⟨0,0,(⟨0,0,0,0,0,0,0,([]:By),0,0,(⟨0,0⟩:Zg),(⟨0,0⟩:Zg),(⟨0,0⟩:Zg)⟩:Zn),0,0,0,0⟩:Zbx)⟩:Zs)) fun x17=>.cs (a1.Source==a1.Id) (.k2 5<|.cs x14.2 (.k4 6<|.cs (x14.1.Zone==5) (.k2 7<|.cs x17 (.k3 8<|.kg 7<|.kg 8<|.kg 7<|.rt true)<|.k3 8<|.call (Z0k a1.Ability) fun x23=>.kg 7<|.kg 8<|.kg 7<|.rt x23)<|.k4 7<|.rt false)<|.k4 6<|.b4 false<|.rt false)<|.k2 5<|.b8 false<|.rt false)<|.cs (a1.Kind==2) (.k3 5<|.cs (!x14.2) (.k3 6<|.call (Z0k a1.Ability) fun x27=>.kg 6<|.rt x27)<|.k4 6<|.rt false)<|.k3 5<|.b4 false<|.rt false
def Zagd:LF Empty Bool := .z0 90 [.t 4] wB
def Zac0:=fun a0 a1=>Zagd.run (Zagc a0 a1)
theorem Zaq7(a0)(a1){r}(h:Zac0 a0 a1=some r):Fn PR 90 [wA (Zr a0),wA (Zf a1)] (wB r):=Zagd.fn h
inductive Zyy where
 | L0 (v0:List Int) (v3:Int)
def Z72(v0:List Int)(v3:Int):LT Zyy Bool:=
.len (cI .i64) v0<|.br (decide (v3 < (v0.length:Int))) (.idx (cI .i64) v0 (IntKind.wrap .i64 (v3 - 1)) fun x5=>.idx (cI .i64) v0 v3 fun x7=>.br (decide (x5>=x7)) (.rt false)<|.g0 (.L0 v0 (IntKind.wrap .i64 (v3+1))))<|.rt true
def Zaou(a0:List Int):LT Zyy Bool:=
.g0 (.L0 a0 1)
def Zaov:LF Zyy Bool := .m0 91 [.t 2] wB fun | .L0 v0 v3=>([1,0,1,4],⟨20,[(0,wL (cI .i64) v0),(3,wI v3)],[]⟩,Z72 v0 v3)
def Zaow:=fun a0=>Zaov.run (Zaou a0)
theorem Zav8(a0){r}(h:Zaow a0=some r):Fn PR 91 [wL (cI .i64) a0] (wB r):=Zaov.fn h
inductive Zjk where
 | L0 (E0:Za) (v3:Int)
 | L1 (E0:Za) (v3:Int) (v4:Int)
 | L2 (E0:Za) (v5:Int)
 | L3 (E0:Za) (v7:Int)
def Zyz(E0:Za)(v3:Int):LT Zjk Bool:=
.len Zf E0.Stack<|.br (decide (v3 < (E0.Stack.length:Int))) (.idx Zf E0.Stack v3 fun x3=>.call (Zaq7 E0 x3) fun x5=>.br (!x5) (.rt false)<|.g0 (.L1 E0 v3 0))<|.g0 (.L2 E0 0)
def Zy0(E0:Za)(v3:Int)(v4:Int):LT Zjk Bool:=
.br (decide (v4 < v3)) (.idx Zf E0.Stack v4 fun x2=>.idx Zf E0.Stack v3 fun x4=>.br (x2.Id==x4.Id) (.rt false)<|.g0 (.L1 E0 v3 (IntKind.wrap .i64 (v4+1))))<|.g0 (.L0 E0 (IntKind.wrap .i64 (v3+1)))
def Zy1(E0:Za)(v5:Int):LT Zjk Bool:=
.len Zd E0.Waiting<|.br (decide (v5 < (E0.Waiting.length:Int))) (.idx Zd E0.Waiting v5 fun x3=>.lb 1006<|.call (Zja E0 x3.Control) fun x5=>.cs (!x5) (.k5 1<|.b5 true<|.kn [0]<|.rt false)<|.k5 1<|.cs (x3.Ability.Kind != 4) (.k5 2<|.kn [0]<|.rt false)<|.k3 2<|.call (Z0k x3.Ability) fun x9=>.k2 2<|.br (!x9) (.rt false)<|.g0 (.L2 E0 (IntKind.wrap .i64 (v5+1))))<|.g0 (.L3 E0 0)
def Zy2(E0:Za)(v7:Int):LT Zjk Bool:=
.len Zh E0.Conts<|.br (decide (v7 < (E0.Conts.length:Int))) (.idx Zh E0.Conts v7 fun x3=>.lb 1008<|.call (Zja E0 x3.Control) fun x5=>.cs (!x5) (.k5 1<|.kg 1<|.b8 true<|.b5 true<|.b2 true<|.kn [0]<|.rt false)<|.k5 1<|.kg 1<|.cs (decide (x3.Stamp>=E0.NextStamp)) (.k5 2<|.b8 true<|.b2 true<|.kn [0]<|.rt false)<|.k3 2<|.call (Zgq x3.Until 1 2) fun x9=>.k2 2<|.cs (!x9) (.k5 3<|.b5 true<|.kn [0]<|.rt false)<|.k3 3<|.call (Zav8 x3.Objects) fun x12=>.k2 3<|.cs (!x12) (.k5 4<|.kn [0]<|.rt false)<|.k3 4<|.call (Zr0 x3.Mods) fun x15=>.k2 4<|.br (x15==([]:By)) (.rt false)<|.g0 (.L3 E0 (IntKind.wrap .i64 (v7+1))))<|.rt true
def Zaa5(a0:Za):LT Zjk Bool:=
.lb 1001<|.len Zf a0.Stack<|.cs (decide ((a0.Stack.length:Int) > 64)) (.k5 0<|.b5 true<|.kn [0]<|.rt false)<|.k3 0<|.len Zd a0.Waiting<|.k2 0<|.cs (decide ((a0.Waiting.length:Int) > 64)) (.k5 1<|.kn [0]<|.rt false)<|.k3 1<|.len Zh a0.Conts<|.k2 1<|.br (decide ((a0.Conts.length:Int) > 64)) (.rt false)<|.go (.L0 a0 0) [.relab 1001 3000]
def Zaa6:LF Zjk Bool := .m0 66 [.t 2] wB fun | .L0 E0 v3=>([1,1,0,1,4],⟨129,[(1,.bptr 3000 0),(3,wI v3)],[(3000,.box (bx (Zr E0)))]⟩,Zyz E0 v3) | .L1 E0 v3 v4=>([1,1,0,1,4,5,1,0,4,1,1,4],⟨129,[(1,.bptr 3000 0),(3,wI v3),(4,wI v4)],[(3000,.box (bx (Zr E0)))]⟩,Zy0 E0 v3 v4) | .L2 E0 v5=>([1,1,1,0,1,4],⟨129,[(1,.bptr 3000 0),(5,wI v5)],[(3000,.box (bx (Zr E0)))]⟩,Zy1 E0 v5) | .L3 E0 v7=>([1,1,1,1,0,1,4],⟨129,[(1,.bptr 3000 0),(7,wI v7)],[(3000,.box (bx (Zr E0)))]⟩,Zy2 E0 v7)
def Z0m:=fun a0=>Zaa6.run (Zaa5 a0)
theorem Zr5(a0){r}(h:Z0m a0=some r):Fn PR 66 [wA (Zr a0)] (wB r):=Zaa6.fn h
inductive Zql where
 | L0 (v0:List Zai) (E0:Za) (v5:Int)
def Zve(v0:List Zai)(E0:Za)(v5:Int):LT Zql Bool:=
.len (cI .i64) E0.Extra<|.br (decide (v5 < (E0.Extra.length:Int))) (.idx (cI .i64) E0.Extra v5 fun x3=>.call (Zja E0 x3) fun x5=>.br (!x5) (.rt false)<|.g0 (.L0 v0 E0 (IntKind.wrap .i64 (v5+1))))<|.cs (E0.Over==1) (.k4 1<|.call (Zja E0 E0.Winner) fun x11=>.k2 1<|.cs (!x11) (.k5 2<|.kg 2<|.kn [0]<|.rt false)<|.k4 2<|.cs (E0.Over != 1) (.k3 3<|.kg 2<|.kg 3<|.kg 2<|.br (E0.Winner != (-1)) (.rt false)<|.call (Zon v0 E0) fun x16=>.cs x16 (.k2 5<|.call (Zr5 E0) fun x19=>.kg 5<|.rt x19)<|.k3 5<|.rt false)<|.k3 3<|.kg 2<|.kg 3<|.kg 2<|.kn [0]<|.call (Zon v0 E0) fun x21=>.cs x21 (.k2 4<|.call (Zr5 E0) fun x24=>.kg 4<|.rt x24)<|.k3 4<|.rt false)<|.k5 1<|.kg 1<|.b4 false<|.cs (E0.Over != 1) (.k3 2<|.kb false<|.kg 2<|.kb false<|.br (E0.Winner != (-1)) (.rt false)<|.call (Zon v0 E0) fun x28=>.cs x28 (.k2 4<|.call (Zr5 E0) fun x31=>.kg 4<|.rt x31)<|.k3 4<|.rt false)<|.k3 2<|.kb false<|.kg 2<|.kb false<|.kn [0]<|.call (Zon v0 E0) fun x33=>.cs x33 (.k2 3<|.call (Zr5 E0) fun x36=>.kg 3<|.rt x36)<|.k3 3<|.rt false
def Zac1(a0:List Zai)(a1:Za):LT Zql Bool:=
.lb 1003<|.call (Zgq a1.NextId 1 1000000) fun x1=>.cs (!x1) (.k5 0<|.b8 true<|.b5 true<|.b2 true<|.kn [0]<|.rt false)<|.k3 0<|.call (Zgq a1.NextStamp 1 1000000) fun x4=>.k2 0<|.cs (!x4) (.k5 1<|.b8 true<|.b2 true<|.kn [0]<|.rt false)<|.k3 1<|.call (Zgq a1.Turn 0 500) fun x7=>.k2 1<|.cs (!x7) (.k5 2<|.b5 true<|.kn [0]<|.rt false)<|.k3 2<|.call (Zgq a1.Step 0 10) fun x10=>.k2 2<|.cs (!x10) (.k5 3<|.kn [0]<|.rt false)<|.k3 3<|.len Zc a1.Objects<|.k2 3<|.br (decide ((a1.Objects.length:Int) > 2048)) (.rt false)<|.call (Zaib a1) fun x15=>.cs (!x15) (.k5 5<|.kg 5<|.b16 true<|.b8 true<|.kn [0]<|.rt false)<|.k4 5<|.call (Zja a1 a1.Active) fun x18=>.k2 5<|.cs (!x18) (.k5 6<|.kg 6<|.b16 true<|.b2 true<|.kn [0]<|.rt false)<|.k4 6<|.call (Zja a1 a1.Priority) fun x21=>.k2 6<|.cs (!x21) (.k8 7<|.b8 true<|.b2 true<|.kn [0]<|.rt false)<|.k5 7<|.len Ze a1.Players<|.kg 7<|.call (Zgq a1.Passes 0 (a1.Players.length:Int)) fun x25=>.k2 7<|.cs (!x25) (.k5 8<|.b5 true<|.kn [0]<|.rt false)<|.k3 8<|.len (cI .i64) a1.Extra<|.k2 8<|.cs (decide ((a1.Extra.length:Int) > 500)) (.k5 9<|.kn [0]<|.rt false)<|.k3 9<|.call (Zgq a1.Over 0 2) fun x30=>.k2 9<|.br (!x30) (.rt false)<|.go (.L0 a0 a1 0) [.relab 1003 3000]
def Zac2:LF Zql Bool := .m0 29 [.t 4] wB fun | .L0 v0 E0 v5=>([1,1,1,0,1,4],⟨114,[(0,wL Zax v0),(3,.bptr 3000 0),(5,wI v5)],[(3000,.box (bx (Zr E0)))]⟩,Zve v0 E0 v5)
def Zy3:=fun a0 a1=>Zac2.run (Zac1 a0 a1)
theorem Zav9(a0)(a1){r}(h:Zy3 a0 a1=some r):Fn PR 29 [wL Zax a0,wA (Zr a1)] (wB r):=Zac2.fn h
inductive Zpl where
 | L0 (v0:List Zai) (E0:Za) (v5:Int)
def Znn(v0:List Zai)(E0:Za)(v5:Int):LT Zpl Bool:=
.len Ze E0.Players<|.br (decide (v5 < (E0.Players.length:Int))) (.idx Ze E0.Players v5 fun x3=>.len (cI .i64) x3.Library<|.ag Ze x3 0<|.len (cI .i64) x3.Hand<|.ag Ze x3 0<|.len (cI .i64) x3.Graveyard<|.br (decide ((IntKind.wrap .i64 ((IntKind.wrap .i64 ((x3.Library.length:Int)+(x3.Hand.length:Int)))+(x3.Graveyard.length:Int))) > 60)) (.rt false)<|.g0 (.L0 v0 E0 (IntKind.wrap .i64 (v5+1))))<|.call (Zaog v0) fun x15=>.cs (x15.2==0) (.k3 1<|.call (Zav9 v0 E0) fun x18=>.kg 1<|.rt x18)<|.k4 1<|.rt false
def Z13(a0:List Zai)(a1:Za):LT Zpl Bool:=
.lb 1003<|.len Zax a0<|.cs (decide ((a0.length:Int) > 12)) (.k5 0<|.b16 true<|.b16 true<|.b3 true<|.kn [0]<|.rt false)<|.k3 0<|.len Ze a1.Players<|.k2 0<|.cs (decide ((a1.Players.length:Int) > 4)) (.k5 1<|.b16 true<|.b8 true<|.b5 true<|.kb true<|.kn [0]<|.rt false)<|.k3 1<|.len Zc a1.Objects<|.k2 1<|.cs (decide ((a1.Objects.length:Int) > 60)) (.k5 2<|.b16 true<|.b8 true<|.kb true<|.kn [0]<|.rt false)<|.k3 2<|.len (cI .i64) a1.Battlefield<|.k2 2<|.cs (decide ((a1.Battlefield.length:Int) > 60)) (.k5 3<|.b16 true<|.b4 true<|.kn [0]<|.rt false)<|.k3 3<|.len (cI .i64) a1.Exile<|.k2 3<|.cs (decide ((a1.Exile.length:Int) > 60)) (.k5 4<|.b8 true<|.b5 true<|.b2 true<|.kn [0]<|.rt false)<|.k3 4<|.len Zf a1.Stack<|.k2 4<|.cs (decide ((a1.Stack.length:Int) > 8)) (.k5 5<|.b8 true<|.b2 true<|.kn [0]<|.rt false)<|.k3 5<|.len Zd a1.Waiting<|.k2 5<|.cs (decide ((a1.Waiting.length:Int) > 8)) (.k5 6<|.b5 true<|.kn [0]<|.rt false)<|.k3 6<|.len Zh a1.Conts<|.k2 6<|.cs (decide ((a1.Conts.length:Int) > 8)) (.k5 7<|.kn [0]<|.rt false)<|.k3 7<|.len (cI .i64) a1.Extra<|.k2 7<|.br (decide ((a1.Extra.length:Int) > 20)) (.rt false)<|.go (.L0 a0 a1 0) [.relab 1003 3000]
def Z14:LF Zpl Bool := .m0 11 [.t 4] wB fun | .L0 v0 E0 v5=>([1,1,0,1,4],⟨102,[(0,wL Zax v0),(3,.bptr 3000 0),(5,wI v5)],[(3000,.box (bx (Zr E0)))]⟩,Znn v0 E0 v5)
def Z0n:=fun a0 a1=>Z14.run (Z13 a0 a1)
theorem Zaox(a0)(a1){r}(h:Z0n a0 a1=some r):Fn PR 11 [wL Zax a0,wA (Zr a1)] (wB r):=Z14.fn h
def Z73(a0:Z6):LT Empty Bool:=
.lb 1001<|.call (Zaox a0.Cards a0.State) fun x1=>.cs x1 (.k4 0<|.len Zl a0.Pending.Options<|.k2 0<|.rt (decide ((a0.Pending.Options.length:Int)<=100)))<|.k5 0<|.kg 0<|.rt false
def Zajr:LF Empty Bool := .z0 4 [.t 2] wB
def Zxt:=fun a0=>Zajr.run (Z73 a0)
theorem Zatr(a0){r}(h:Zxt a0=some r):Fn PR 4 [wA (Zb3 a0)] (wB r):=Zajr.fn h
inductive Z15 where
 | L0 (E0:Z6) (E1:Za) (v2:List Int) (v3:Int)
def Zaoy(E0:Z6)(E1:Za)(v2:List Int)(v3:Int):LT Z15 Z6:=
.br (decide (v3 < 3)) (.dc ((2:Int)≠0) rfl<|.dc ((2:Int)≠0) rfl<|.idx (cI .i64) v2 v3 fun x4=>.dr [.lit]<|.apR Zc 128 E1.Objects [(⟨IntKind.wrap .i64 (v3+1),0,Int.tmod v3 2,Int.tmod v3 2,x4,false,false,false,false,0,(⟨0,0,0⟩:A3 Int),0,-1,-1,false,0,0⟩:Zp)] fun x6=>.g0 (.L0 E0 (⟨E1.Players,x6,E1.Battlefield,E1.Exile,E1.Stack,E1.Waiting,E1.Conts,E1.Turn,E1.Active,E1.Step,E1.Begun,E1.Priority,E1.Passes,E1.NextId,E1.NextStamp,E1.Seed,E1.Extra,E1.Over,E1.Winner⟩:Za) v2 (IntKind.wrap .i64 (v3+1))))<|.dr [.lit]<|.dr [.lit]<|.ret (⟨[(⟨([111,97,107]:By),false,(⟨0,0,(⟨0,0,0,0,0⟩:A5 Int)⟩:Zbz),0,(⟨0,8,([]:Bys)⟩:Zki),0,0,0,([]:List Zs)⟩:Zai)],E1,([]:List (List Int)),(⟨3,0,0,0,1,0,[(⟨5,3,0⟩:Zaf)]⟩:Zbc),0,([]:List Za)⟩:Z6) [.relab 40101 5002,.relab 40102 5003,.relab 40103 5004,.relab 40104 5005,.relab 40105 5006,.relab 40106 5007,.relab 40116 5017,.niltb 3000 20,.niltb 3000 29]
def Zaa7:LT Z15 Z6:=
.lb 1000<|.dr [.lit]<|.dr [.lit]<|.dr [.lit]<|.dr [.lit]<|.lb 1001<|.dr [.lit]<|.go (.L0 (⟨([]:List Zai),(⟨([]:List Z5),([]:List Zp),([]:List Int),([]:List Int),([]:List Zal),([]:List Zab),([]:List Za1),0,0,0,false,0,0,0,0,0,([]:List Int),0,0⟩:Za),([]:List (List Int)),(⟨0,0,0,0,0,0,([]:List Zaf)⟩:Zbc),0,([]:List Za)⟩:Z6) (⟨[(⟨20,0,0,(⟨0,0,0,0,0,0⟩:A6 Int),false,false,[3],[1],([]:List Int)⟩:Z5),(⟨18,0,0,(⟨0,0,0,0,0,0⟩:A6 Int),false,false,([]:List Int),[2],([]:List Int)⟩:Z5)],([]:List Zp),([]:List Int),([]:List Int),([]:List Zal),([]:List Zab),([]:List Za1),1,0,3,false,0,0,4,1,0,([]:List Int),0,-1⟩:Za) [1,1,2] 0) [.relab 1000 3000,.relab 1001 3001,.ownb 3000 0 40000 17,.ownb 3000 1 40001 14,.ownb 3000 2 40002 19,.ownb 3000 3 40003 1,.ownb 3000 4 40004 1,.ownb 3000 5 40005 94,.ownb 3000 6 40006 89,.ownb 3000 7 40007 6,.ownb 3000 17 40017 1,.ownb 3000 20 40020 1,.ownb 3000 27 40027 3,.ownb 3000 29 40029 19,.ownb 3001 1 40101 19,.ownb 3001 2 40102 1,.ownb 3001 3 40103 1,.ownb 3001 4 40104 94,.ownb 3001 5 40105 89,.ownb 3001 6 40106 6,.ownb 3001 16 40116 1]
def Zaa8:LF Z15 Z6 := .m 12 [.c 0 38 true 30] true (fun r=>(tm13 r 5000)) (fun r=>(.agg (tm6 r 5000))) fun | .L0 E0 E1 v2 v3=>([1,1,1,0,1,4],⟨40,[(0,.bptr 3000 0),(1,.bptr 3001 0),(2,wL (cI .i64) v2),(3,wI v3)],[(3000,.box [wO Zax 40000 E0.Cards,wO Ze 40001 E0.State.Players,wO Zc 40002 E0.State.Objects,wO (cI .i64) 40003 E0.State.Battlefield,wO (cI .i64) 40004 E0.State.Exile,wO Zf 40005 E0.State.Stack,wO Zd 40006 E0.State.Waiting,wO Zh 40007 E0.State.Conts,wI E0.State.Turn,wI E0.State.Active,wI E0.State.Step,wB E0.State.Begun,wI E0.State.Priority,wI E0.State.Passes,wI E0.State.NextId,wI E0.State.NextStamp,.t (.int .u64 E0.State.Seed),wO (cI .i64) 40017 E0.State.Extra,wI E0.State.Over,wI E0.State.Winner,wO (cL (cI .i64)) 40020 E0.Answers,wI E0.Pending.Kind,wI E0.Pending.Player,wI E0.Pending.Source,wI E0.Pending.Least,wI E0.Pending.Most,wI E0.Pending.N,wO Zl 40027 E0.Pending.Options,wI E0.Forced,wO Zr 40029 E0.Seen]),(40000,wR Zax 17 E0.Cards),(40001,wR Ze 14 E0.State.Players),(40002,wR Zc 19 E0.State.Objects),(40003,wR (cI .i64) 1 E0.State.Battlefield),(40004,wR (cI .i64) 1 E0.State.Exile),(40005,wR Zf 94 E0.State.Stack),(40006,wR Zd 89 E0.State.Waiting),(40007,wR Zh 6 E0.State.Conts),(40017,wR (cI .i64) 1 E0.State.Extra),(40020,wR (cL (cI .i64)) 1 E0.Answers),(40027,wR Zl 3 E0.Pending.Options),(40029,wR Zr 19 E0.Seen),(3001,.box [wL Ze E1.Players,wO Zc 40101 E1.Objects,wO (cI .i64) 40102 E1.Battlefield,wO (cI .i64) 40103 E1.Exile,wO Zf 40104 E1.Stack,wO Zd 40105 E1.Waiting,wO Zh 40106 E1.Conts,wI E1.Turn,wI E1.Active,wI E1.Step,wB E1.Begun,wI E1.Priority,wI E1.Passes,wI E1.NextId,wI E1.NextStamp,.t (.int .u64 E1.Seed),wO (cI .i64) 40116 E1.Extra,wI E1.Over,wI E1.Winner]),(40101,wR Zc 19 E1.Objects),(40102,wR (cI .i64) 1 E1.Battlefield),(40103,wR (cI .i64) 1 E1.Exile),(40104,wR Zf 94 E1.Stack),(40105,wR Zd 89 E1.Waiting),(40106,wR Zh 6 E1.Conts),(40116,wR (cI .i64) 1 E1.Extra)]⟩,Zaoy E0 E1 v2 v3)
def Z74:=Zaa8.run (Zaa7)
theorem Zaj8{r}(h:Z74=some r):FnG PR 12 [] [] (tm13 r 5000) (.agg (tm6 r 5000)):=Zaa8.fn h
def Zd5(a0:List Z5)(hne:a0≠[]):LT Empty (List Z5):=
.ne Ze hne<|.kn [0]<|.lb 1005<|.apR Ze 152 ([]:List Z5) a0 fun x1=>.ret x1 [.relab 1005 5000]
def Zbs:LF Empty (List Z5) := .z 44 [.t 2] true (fun r=>[(5000,wR Ze 14 r)]) (fun r=>(wO Ze 5000 r))
def Zdu(c:Nat):LT Empty (List Z5):=
.kn [0]<|.ret ([]:List Z5) [.own 2 5000 14]
def Zlr(c:Nat)(ad:Addr):LT Empty (List Z5):=
.kn [0]<|.lb 1005<|.apR Ze 152 ([]:List Z5) ([]:List Z5) fun x1=>.ret x1 [.relab 1005 5000]
open Classical in
def Zco(a0:List Z5):Option (List Z5):=if h:a0≠[] then Zbs.run (Zd5 a0 h) else Zbs.run (Zdu 0)
theorem Zhh(a0:List Z5){r:List Z5}(h:Zco a0=some r):FnG PR 44 [] [wL Ze a0] [(5000,wR Ze 14 r)] (wO Ze 5000 r):=by
 by_cases hne:a0=[]
 .subst hne
  have h0:Zbs.run (Zdu 0)=some r:=h
  exact FnG.split0 (fun e=>absurd rfl e) (fun _ a c=>by
   cases a with
   | none=>exact Zbs.fn (t:=Zdu c) h0
   | some ad=>exact Zbs.fn (t:=Zlr c ad) h0)
 .have h0:Zbs.run (Zd5 a0 hne)=some r:=by unfold Zco at h;rwa [dif_pos hne] at h
  exact FnG.split0 (fun _=>Zbs.fn h0) (fun e=>absurd (List.map_eq_nil_iff.1 e) hne)
def Zhd(a0:List Int)(hne:a0≠[]):LT Empty (List Int):=
.ne (cI .i64) hne<|.kn [0]<|.lb 1005<|.apR (cI .i64) 8 ([]:List Int) a0 fun x1=>.ret x1 [.relab 1005 5000]
def Zdv:LF Empty (List Int) := .z 47 [.t 2] true (fun r=>[(5000,wR (cI .i64) 1 r)]) (fun r=>(wO (cI .i64) 5000 r))
def Zg1(c:Nat):LT Empty (List Int):=
.kn [0]<|.ret ([]:List Int) [.own 2 5000 1]
def Zv4(c:Nat)(ad:Addr):LT Empty (List Int):=
.kn [0]<|.lb 1005<|.apR (cI .i64) 8 ([]:List Int) ([]:List Int) fun x1=>.ret x1 [.relab 1005 5000]
open Classical in
def Zel(a0:List Int):Option (List Int):=if h:a0≠[] then Zdv.run (Zhd a0 h) else Zdv.run (Zg1 0)
theorem Za8(a0:List Int){r:List Int}(h:Zel a0=some r):FnG PR 47 [] [wL (cI .i64) a0] [(5000,wR (cI .i64) 1 r)] (wO (cI .i64) 5000 r):=by
 by_cases hne:a0=[]
 .subst hne
  have h0:Zdv.run (Zg1 0)=some r:=h
  exact FnG.split0 (fun e=>absurd rfl e) (fun _ a c=>by
   cases a with
   | none=>exact Zdv.fn (t:=Zg1 c) h0
   | some ad=>exact Zdv.fn (t:=Zv4 c ad) h0)
 .have h0:Zdv.run (Zhd a0 hne)=some r:=by unfold Zel at h;rwa [dif_pos hne] at h
  exact FnG.split0 (fun _=>Zdv.fn h0) (fun e=>absurd (List.map_eq_nil_iff.1 e) hne)
theorem Zmd(a0:List Int){r:List Int}(h:Zel a0=some r):Fn PR 47 [wL (cI .i64) a0] (wL (cI .i64) r):=
 FnG.frozen (C:=LT.RL (cI .i64) r/\True) (Za8 a0 h) ⟨rfl,trivial⟩ (by kernel_rfl)
def Zw4(a0:Z5):LT Empty Z5:=
.lb 1001<|.lb 1002<|.callF (Za8 a0.Library) 60000 fun x1=>.callF (Za8 a0.Hand) 100000 fun x3=>.callF (Za8 a0.Graveyard) 140000 fun x5=>.ret (⟨a0.Life,a0.Venom,a0.Lands,a0.Pool,a0.Failed,a0.Lost,x1,x3,x5⟩:Z5) [.relab 65000 5011,.relab 105000 5012,.relab 145000 5013]
def Zw5:LF Empty Z5 := .z 45 [.c 2 63 true 14] true (fun r=>[(5011,wR (cI .i64) 1 r.Library),(5012,wR (cI .i64) 1 r.Hand),(5013,wR (cI .i64) 1 r.Graveyard)]) (fun r=>(.agg (tm14 r 5000)))
def Zmy:=fun a0=>Zw5.run (Zw4 a0)
theorem Z6c(a0){r}(h:Zmy a0=some r):FnG PR 45 [] [wA (Ze a0)] [(5011,wR (cI .i64) 1 r.Library),(5012,wR (cI .i64) 1 r.Hand),(5013,wR (cI .i64) 1 r.Graveyard)] (.agg (tm14 r 5000)):=Zw5.fn h
theorem Z75(a0:Z5){r:Z5}(h:Zmy a0=some r):Fn PR 45 [wA (Ze a0)] (wA (Ze r)):=
 FnG.frozen (C:=LT.RL (cI .i64) r.Library/\LT.RL (cI .i64) r.Hand/\LT.RL (cI .i64) r.Graveyard/\True) (Z6c a0 h) ⟨rfl,rfl,rfl,trivial⟩ (by kernel_rfl)
def Zd6(a0:List Zp)(hne:a0≠[]):LT Empty (List Zp):=
.ne Zc hne<|.kn [0]<|.lb 1005<|.apR Zc 128 ([]:List Zp) a0 fun x1=>.ret x1 [.relab 1005 5000]
def Zbt:LF Empty (List Zp) := .z 46 [.t 2] true (fun r=>[(5000,wR Zc 19 r)]) (fun r=>(wO Zc 5000 r))
def Zdw(c:Nat):LT Empty (List Zp):=
.kn [0]<|.ret ([]:List Zp) [.own 2 5000 19]
def Zls(c:Nat)(ad:Addr):LT Empty (List Zp):=
.kn [0]<|.lb 1005<|.apR Zc 128 ([]:List Zp) ([]:List Zp) fun x1=>.ret x1 [.relab 1005 5000]
open Classical in
def Zcp(a0:List Zp):Option (List Zp):=if h:a0≠[] then Zbt.run (Zd6 a0 h) else Zbt.run (Zdw 0)
theorem Zhi(a0:List Zp){r:List Zp}(h:Zcp a0=some r):FnG PR 46 [] [wL Zc a0] [(5000,wR Zc 19 r)] (wO Zc 5000 r):=by
 by_cases hne:a0=[]
 .subst hne
  have h0:Zbt.run (Zdw 0)=some r:=h
  exact FnG.split0 (fun e=>absurd rfl e) (fun _ a c=>by
   cases a with
   | none=>exact Zbt.fn (t:=Zdw c) h0
   | some ad=>exact Zbt.fn (t:=Zls c ad) h0)
 .have h0:Zbt.run (Zd6 a0 hne)=some r:=by unfold Zcp at h;rwa [dif_pos hne] at h
  exact FnG.split0 (fun _=>Zbt.fn h0) (fun e=>absurd (List.map_eq_nil_iff.1 e) hne)
def Zez(a0:List Zal)(hne:a0≠[]):LT Empty (List Zal):=
.ne Zf hne<|.kn [0]<|.lb 1005<|.apR Zf 824 ([]:List Zal) a0 fun x1=>.ret x1 [.relab 1005 5000]
def Zcb:LF Empty (List Zal) := .z 48 [.t 2] true (fun r=>[(5000,wR Zf 94 r)]) (fun r=>(wO Zf 5000 r))
def Zes(c:Nat):LT Empty (List Zal):=
.kn [0]<|.ret ([]:List Zal) [.own 2 5000 94]
def Zno(c:Nat)(ad:Addr):LT Empty (List Zal):=
.kn [0]<|.lb 1005<|.apR Zf 824 ([]:List Zal) ([]:List Zal) fun x1=>.ret x1 [.relab 1005 5000]
open Classical in
def Zc4(a0:List Zal):Option (List Zal):=if h:a0≠[] then Zcb.run (Zez a0 h) else Zcb.run (Zes 0)
theorem Zip(a0:List Zal){r:List Zal}(h:Zc4 a0=some r):FnG PR 48 [] [wL Zf a0] [(5000,wR Zf 94 r)] (wO Zf 5000 r):=by
 by_cases hne:a0=[]
 .subst hne
  have h0:Zcb.run (Zes 0)=some r:=h
  exact FnG.split0 (fun e=>absurd rfl e) (fun _ a c=>by
   cases a with
   | none=>exact Zcb.fn (t:=Zes c) h0
   | some ad=>exact Zcb.fn (t:=Zno c ad) h0)
 .have h0:Zcb.run (Zez a0 hne)=some r:=by unfold Zc4 at h;rwa [dif_pos hne] at h
  exact FnG.split0 (fun _=>Zcb.fn h0) (fun e=>absurd (List.map_eq_nil_iff.1 e) hne)
def Ze7(a0:List Zq)(hne:a0≠[]):LT Empty (List Zq):=
.ne Zk hne<|.kn [0]<|.lb 1005<|.apR Zk 176 ([]:List Zq) a0 fun x1=>.ret x1 [.relab 1005 5000]
def Zcm:LF Empty (List Zq) := .z 53 [.t 2] true (fun r=>[(5000,wR Zk 20 r)]) (fun r=>(wO Zk 5000 r))
def Ze3(c:Nat):LT Empty (List Zq):=
.kn [0]<|.ret ([]:List Zq) [.own 2 5000 20]
def Zo2(c:Nat)(ad:Addr):LT Empty (List Zq):=
.kn [0]<|.lb 1005<|.apR Zk 176 ([]:List Zq) ([]:List Zq) fun x1=>.ret x1 [.relab 1005 5000]
open Classical in
def Zcu(a0:List Zq):Option (List Zq):=if h:a0≠[] then Zcm.run (Ze7 a0 h) else Zcm.run (Ze3 0)
theorem Zi6(a0:List Zq){r:List Zq}(h:Zcu a0=some r):FnG PR 53 [] [wL Zk a0] [(5000,wR Zk 20 r)] (wO Zk 5000 r):=by
 by_cases hne:a0=[]
 .subst hne
  have h0:Zcm.run (Ze3 0)=some r:=h
  exact FnG.split0 (fun e=>absurd rfl e) (fun _ a c=>by
   cases a with
   | none=>exact Zcm.fn (t:=Ze3 c) h0
   | some ad=>exact Zcm.fn (t:=Zo2 c ad) h0)
 .have h0:Zcm.run (Ze7 a0 hne)=some r:=by unfold Zcu at h;rwa [dif_pos hne] at h
  exact FnG.split0 (fun _=>Zcm.fn h0) (fun e=>absurd (List.map_eq_nil_iff.1 e) hne)
theorem Zgk(a0:List Zq){r:List Zq}(h:Zcu a0=some r):Fn PR 53 [wL Zk a0] (wL Zk r):=
 FnG.frozen (C:=LT.RL Zk r/\True) (Zi6 a0 h) ⟨rfl,trivial⟩ (by kernel_rfl)
def Zgf(a0:List Zbp)(hne:a0≠[]):LT Empty (List Zbp):=
.ne Z7 hne<|.kn [0]<|.lb 1005<|.apR Z7 144 ([]:List Zbp) a0 fun x1=>.ret x1 [.relab 1005 5000]
def Zcc:LF Empty (List Zbp) := .z 74 [.t 2] true (fun r=>[(5000,wR Z7 18 r)]) (fun r=>(wO Z7 5000 r))
def Zf7(c:Nat):LT Empty (List Zbp):=
.kn [0]<|.ret ([]:List Zbp) [.own 2 5000 18]
def Znp(c:Nat)(ad:Addr):LT Empty (List Zbp):=
.kn [0]<|.lb 1005<|.apR Z7 144 ([]:List Zbp) ([]:List Zbp) fun x1=>.ret x1 [.relab 1005 5000]
open Classical in
def Ze8(a0:List Zbp):Option (List Zbp):=if h:a0≠[] then Zcc.run (Zgf a0 h) else Zcc.run (Zf7 0)
theorem Zm3(a0:List Zbp){r:List Zbp}(h:Ze8 a0=some r):FnG PR 74 [] [wL Z7 a0] [(5000,wR Z7 18 r)] (wO Z7 5000 r):=by
 by_cases hne:a0=[]
 .subst hne
  have h0:Zcc.run (Zf7 0)=some r:=h
  exact FnG.split0 (fun e=>absurd rfl e) (fun _ a c=>by
   cases a with
   | none=>exact Zcc.fn (t:=Zf7 c) h0
   | some ad=>exact Zcc.fn (t:=Znp c ad) h0)
 .have h0:Zcc.run (Zgf a0 hne)=some r:=by unfold Ze8 at h;rwa [dif_pos hne] at h
  exact FnG.split0 (fun _=>Zcc.fn h0) (fun e=>absurd (List.map_eq_nil_iff.1 e) hne)
def Zfi(a0:List Zv)(hne:a0≠[]):LT Empty (List Zv):=
.ne Zo hne<|.kn [0]<|.lb 1005<|.apR Zo 560 ([]:List Zv) a0 fun x1=>.ret x1 [.relab 1005 5000]
def Zbu:LF Empty (List Zv) := .z 75 [.t 2] true (fun r=>[(5000,wR Zo 64 r)]) (fun r=>(wO Zo 5000 r))
def Zfe(c:Nat):LT Empty (List Zv):=
.kn [0]<|.ret ([]:List Zv) [.own 2 5000 64]
def Zlt(c:Nat)(ad:Addr):LT Empty (List Zv):=
.kn [0]<|.lb 1005<|.apR Zo 560 ([]:List Zv) ([]:List Zv) fun x1=>.ret x1 [.relab 1005 5000]
open Classical in
def Zej(a0:List Zv):Option (List Zv):=if h:a0≠[] then Zbu.run (Zfi a0 h) else Zbu.run (Zfe 0)
theorem Zk6(a0:List Zv){r:List Zv}(h:Zej a0=some r):FnG PR 75 [] [wL Zo a0] [(5000,wR Zo 64 r)] (wO Zo 5000 r):=by
 by_cases hne:a0=[]
 .subst hne
  have h0:Zbu.run (Zfe 0)=some r:=h
  exact FnG.split0 (fun e=>absurd rfl e) (fun _ a c=>by
   cases a with
   | none=>exact Zbu.fn (t:=Zfe c) h0
   | some ad=>exact Zbu.fn (t:=Zlt c ad) h0)
 .have h0:Zbu.run (Zfi a0 hne)=some r:=by unfold Zej at h;rwa [dif_pos hne] at h
  exact FnG.split0 (fun _=>Zbu.fn h0) (fun e=>absurd (List.map_eq_nil_iff.1 e) hne)
inductive Znq where
 | L0 (E0:Zs) (E1:Zs) (v18:Int) (v19:Int)
def Zie(E0:Zs)(E1:Zs)(v18:Int)(v19:Int):LT Znq Zs:=
.br (decide (v19 < v18)) (.idxR Zo E0.Effects v19 fun x2=>.rl Zo E0.Effects<|.ldR Zo E0.Effects x2 2<|.call (Zgk x2.Mods) fun x4=>.plR Zo E0.Effects v19 0<|.rl Zo E0.Effects<|.setD Zo E0.Effects v19 x2 (⟨x2.Op,x2.Ref,x2.Amount,x2.Counter,x2.Zone,x2.Card,x2.Filter,x2.Pool,x4⟩:Zv) 2 63 [.sl (List.map Zk x4)] rfl fun x6=>.dr [.ahead 34,.relen 40049,.stop]<|.us [3]<|.us [3]<|.us [3]<|.us [3]<|.us [3]<|.us [3]<|.us [3]<|.g0 (.L0 (⟨E0.Kind,E0.Filter,E0.Mods,E0.Price,E0.Slow,E0.Trigger,E0.May,E0.Specs,x6,E0.Replace⟩:Zs) E1 v18 (IntKind.wrap .i64 (v19+1))))<|.ret E0 [.relab 40017 5017,.relab 40048 5048,.relab 40049 5049]
def Zvf(a0:Zs):LT Znq Zs:=
.lb 1001<|.lb 1002<|.callF (Zi6 a0.Mods) 70000 fun x1=>.callF (Zm3 a0.Specs) 110000 fun x3=>.callF (Zk6 a0.Effects) 150000 fun x5=>.lenO Zo x5<|.go (.L0 (⟨a0.Kind,a0.Filter,x1,a0.Price,a0.Slow,a0.Trigger,a0.May,x3,x5,a0.Replace⟩:Zs) (⟨0,(⟨0,0,0,0,0,0,0,([]:By),0,0,(⟨0,0⟩:Zg),(⟨0,0⟩:Zg),(⟨0,0⟩:Zg)⟩:Zn),([]:List Zq),(⟨(⟨0,0,(⟨0,0,0,0,0⟩:A5 Int)⟩:Zbz),false,false,0⟩:Zh6),false,(⟨0,0,(⟨0,0,0,0,0,0,0,([]:By),0,0,(⟨0,0⟩:Zg),(⟨0,0⟩:Zg),(⟨0,0⟩:Zg)⟩:Zn)⟩:Zd0),false,([]:List Zbp),([]:List Zv),(⟨0,0,(⟨0,0,0,0,0,0,0,([]:By),0,0,(⟨0,0⟩:Zg),(⟨0,0⟩:Zg),(⟨0,0⟩:Zg)⟩:Zn),0,0,0,0⟩:Zbx)⟩:Zs) (x5.length:Int) 0) [.relab 1001 3000,.relab 1002 3001,.relab 75000 40017,.relab 115000 40048,.relab 155000 40049,.ownb 3001 17 40117 20,.ownb 3001 48 40148 18,.ownb 3001 49 40149 64]
def Zkb:LF Znq Zs := .m 49 [.c 2 82 true 72] true (fun r=>(tm17 r 5000)) (fun r=>(.agg (tm0 r 5000))) fun | .L0 E0 E1 v18 v19=>([1,1,1,1,0,1,4],⟨36,[(1,.bptr 3000 0),(2,.bptr 3001 0),(18,wI v18),(19,wI v19)],((3000,.box (tm0 E0 40000))::(40017,wR Zk 20 E0.Mods)::(40048,wR Z7 18 E0.Specs)::(40049,wR Zo 64 E0.Effects)::(3001,.box (tm0 E1 40100))::(tm17 E1 40100))⟩,Zie E0 E1 v18 v19)
def Zjs:=fun a0=>Zkb.run (Zvf a0)
theorem Z4z(a0){r}(h:Zjs a0=some r):FnG PR 49 [] [wA (Zay a0)] (tm17 r 5000) (.agg (tm0 r 5000)):=Zkb.fn h
theorem Zjz(a0:Zs){r:Zs}(h:Zjs a0=some r):Fn PR 49 [wA (Zay a0)] (wA (Zay r)):=
 FnG.frozen (C:=LT.RL Zk r.Mods/\LT.RL Z7 r.Specs/\LT.RL Zo r.Effects/\True) (Z4z a0 h) ⟨rfl,rfl,rfl,trivial⟩ (by kernel_rfl)
def Zd7(a0:List Zbj)(hne:a0≠[]):LT Empty (List Zbj):=
.ne Zaa hne<|.kn [0]<|.lb 1005<|.apR Zaa 16 ([]:List Zbj) a0 fun x1=>.ret x1 [.relab 1005 5000]
def Zbv:LF Empty (List Zbj) := .z 50 [.t 2] true (fun r=>[(5000,wR Zaa 2 r)]) (fun r=>(wO Zaa 5000 r))
def Zdx(c:Nat):LT Empty (List Zbj):=
.kn [0]<|.ret ([]:List Zbj) [.own 2 5000 2]
def Zlu(c:Nat)(ad:Addr):LT Empty (List Zbj):=
.kn [0]<|.lb 1005<|.apR Zaa 16 ([]:List Zbj) ([]:List Zbj) fun x1=>.ret x1 [.relab 1005 5000]
open Classical in
def Zb1(a0:List Zbj):Option (List Zbj):=if h:a0≠[] then Zbv.run (Zd7 a0 h) else Zbv.run (Zdx 0)
theorem Zk7(a0:List Zbj){r:List Zbj}(h:Zb1 a0=some r):FnG PR 50 [] [wL Zaa a0] [(5000,wR Zaa 2 r)] (wO Zaa 5000 r):=by
 by_cases hne:a0=[]
 .subst hne
  have h0:Zbv.run (Zdx 0)=some r:=h
  exact FnG.split0 (fun e=>absurd rfl e) (fun _ a c=>by
   cases a with
   | none=>exact Zbv.fn (t:=Zdx c) h0
   | some ad=>exact Zbv.fn (t:=Zlu c ad) h0)
 .have h0:Zbv.run (Zd7 a0 hne)=some r:=by unfold Zb1 at h;rwa [dif_pos hne] at h
  exact FnG.split0 (fun _=>Zbv.fn h0) (fun e=>absurd (List.map_eq_nil_iff.1 e) hne)
theorem Zhv(a0:List Zbj){r:List Zbj}(h:Zb1 a0=some r):Fn PR 50 [wL Zaa a0] (wL Zaa r):=
 FnG.frozen (C:=LT.RL Zaa r/\True) (Zk7 a0 h) ⟨rfl,trivial⟩ (by kernel_rfl)
end
end Go.PW
