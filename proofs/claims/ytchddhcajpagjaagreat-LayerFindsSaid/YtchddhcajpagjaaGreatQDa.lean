import Derived.Test.YtchddhcajpagjaaGreatQDt
set_option linter.all false
set_option maxRecDepth 100000
namespace Go.PW
open Go.RowKit
noncomputable section
def Zacv(a0:Int):LT Empty Bool:=
.cs (decide (a0>=97)) (.k3 0<|.rt (decide (a0<=122)))<|.k3 0<|.rt false
def Zaq5:LF Empty Bool := .z0 120 [.t 2] wB
def Z7w:=fun a0=>Zaq5.run (Zacv a0)
theorem Zaln(a0){r}(h:Z7w a0=some r):Fn PR 120 [.t (.int .u8 a0)] (wB r):=Zaq5.fn h
inductive Zni where
 | L0 (v0:By) (v3:Int)
 | L1 (v0:By) (v3:Int)
def Zlc(v0:By)(v3:Int):LT Zni Bool:=
.cs (decide (v3 > 0)) (.k3 0<|.idxS v0 v3 fun x2=>.k2 0<|.cs ((UInt8.toNat x2:Int)==45) (.k4 1<|.idxS v0 (IntKind.wrap .i64 (v3 - 1)) fun x7=>.k2 1<|.br ((UInt8.toNat x7:Int)==45) (.rt false)<|.g0 (.L0 v0 (IntKind.wrap .i64 (v3+1))))<|.k5 1<|.kg 1<|.kn [0]<|.g0 (.L0 v0 (IntKind.wrap .i64 (v3+1))))<|.k5 0<|.b5 false<|.kb false<|.kn [0]<|.g0 (.L0 v0 (IntKind.wrap .i64 (v3+1)))
def Zpa(v0:By)(v3:Int):LT Zni Bool:=
.lenS v0<|.br (decide (v3 < (v0.length:Int))) (.idxS v0 v3 fun x3=>.call (Zaln (UInt8.toNat x3:Int)) fun x5=>.cs (!x5) (.k3 1<|.idxS v0 v3 fun x8=>.k2 1<|.cs (decide ((UInt8.toNat x8:Int) < 48)) (.k4 2<|.kg 1<|.kg 2<|.kg 1<|.b3 true<|.idxS v0 v3 fun x11=>.b2 true<|.br ((UInt8.toNat x11:Int) != 45) (.rt false)<|.j0 (.L1 v0 v3) (Zlc v0 v3))<|.k3 2<|.idxS v0 v3 fun x14=>.kg 2<|.kg 1<|.kg 2<|.kg 1<|.cs (decide ((UInt8.toNat x14:Int) > 57)) (.k3 3<|.idxS v0 v3 fun x17=>.k2 3<|.br ((UInt8.toNat x17:Int) != 45) (.rt false)<|.j0 (.L1 v0 v3) (Zlc v0 v3))<|.k5 3<|.kn [0]<|.j0 (.L1 v0 v3) (Zlc v0 v3))<|.k5 1<|.k2 1<|.b5 false<|.kn [0]<|.j0 (.L1 v0 v3) (Zlc v0 v3))<|.rt true
def Zail(a0:By):LT Zni Bool:=
.lenS a0<|.cs (decide ((a0.length:Int) < 1)) (.k4 0<|.b8 true<|.b4 true<|.kn [0]<|.rt false)<|.k2 0<|.lenS a0<|.k2 0<|.cs (decide ((a0.length:Int) > 32)) (.k5 1<|.b5 true<|.b2 true<|.kn [0]<|.rt false)<|.k2 1<|.idxS a0 0 fun x4=>.kg 1<|.call (Zaln (UInt8.toNat x4:Int)) fun x6=>.k2 1<|.cs (!x6) (.k5 2<|.k2 2<|.kn [0]<|.rt false)<|.k3 2<|.lenS a0<|.k2 2<|.idxS a0 (IntKind.wrap .i64 ((a0.length:Int) - 1)) fun x11=>.k2 2<|.br ((UInt8.toNat x11:Int)==45) (.rt false)<|.g0 (.L0 a0 0)
def Z13:LF Zni Bool := .m0 73 [.t 2] wB fun | .L0 v0 v3=>([1,1,0,1,4],⟨70,[(0,wS v0),(3,wI v3)],[]⟩,Zpa v0 v3) | .L1 v0 v3=>([1,1,0,1,4,5,1,0,4,1],⟨70,[(0,wS v0),(3,wI v3)],[]⟩,Zlc v0 v3)
def Zacw:=fun a0=>Z13.run (Zail a0)
theorem Zacx(a0){r}(h:Zacw a0=some r):Fn PR 73 [wS a0] (wB r):=Z13.fn h
inductive Znj where
 | L0 (E0:Zt) (v3:Int)
def Zpb(E0:Zt)(v3:Int):LT Znj Bool:=
.br (decide (v3 < 5)) (.idA (Zd.int .i64) (A5.list E0.Color) v3 (bx (Zai E0)) 2 7 fun x2=>.ldC (Zd.int .i64) 29 x2 0<|.cs (decide (x2 < 0)) (.k5 1<|.kg 1<|.kn [0]<|.rt false)<|.k3 1<|.idA (Zd.int .i64) (A5.list E0.Color) v3 (bx (Zai E0)) 2 7 fun x5=>.kg 1<|.ldC (Zd.int .i64) 35 x5 1<|.k2 1<|.br (decide (x5 > 9)) (.rt false)<|.g0 (.L0 E0 (IntKind.wrap .i64 (v3+1))))<|.rt true
def Zaim(a0:Zt):LT Znj Bool:=
.lb 1001<|.cs (decide (a0.Generic < 0)) (.k4 0<|.b8 true<|.kn [0]<|.rt false)<|.k4 0<|.cs (decide (a0.Generic > 99)) (.k4 1<|.b4 true<|.kn [0]<|.rt false)<|.k4 1<|.cs (decide (a0.X < 0)) (.k4 2<|.kn [0]<|.rt false)<|.k4 2<|.br (decide (a0.X > 2)) (.rt false)<|.go (.L0 a0 0) [.relab 1001 3000]
def Zlp:LF Znj Bool := .m0 74 [.t 2] wB fun | .L0 E0 v3=>([1,1,0,1,4],⟨38,[(1,.bptr 3000 0),(3,wI v3)],[(3000,.box (bx (Zai E0)))]⟩,Zpb E0 v3)
def Z7x:=fun a0=>Zlp.run (Zaim a0)
theorem Z4p(a0){r}(h:Z7x a0=some r):Fn PR 74 [wA (Zai a0)] (wB r):=Zlp.fn h
def Z14:LT Empty (Bys):=
.lb 1001<|.ret [([98,97,115,105,99]:By),([117,110,105,113,117,101]:By)] [.relab 1001 5000]
def Z15:LF Empty (Bys) := .z 169 [.t 0] true (fun r=>[(5000,wR cS 1 r)]) (fun r=>(wO cS 5000 r))
def Zmc:=Z15.run (Z14)
theorem Zacy{r}(h:Zmc=some r):FnG PR 169 [] [] [(5000,wR cS 1 r)] (wO cS 5000 r):=Z15.fn h
theorem Zafq{r:Bys}(h:Zmc=some r):Fn PR 169 [] (wL cS r):=
 FnG.frozen (C:=LT.RL cS r/\True) (Zacy h) ⟨rfl,trivial⟩ (by kernel_rfl)
inductive Zri where
 | L0 (v0:Bys) (v1:By) (v5:Int)
def Zj7(v0:Bys)(v1:By)(v5:Int):LT Zri Int:=
.len cS v0<|.br (decide (v5 < (v0.length:Int))) (.idx cS v0 v5 fun x3=>.br (x3==v1) (.rt v5)<|.g0 (.L0 v0 v1 (IntKind.wrap .i64 (v5+1))))<|.rt (-1)
def Z53(a0:Bys)(a1:By):LT Zri Int:=
.g0 (.L0 a0 a1 0)
def Z54:LF Zri Int := .m0 168 [.t 4] wI fun | .L0 v0 v1 v5=>([1,0,1,4],⟨19,[(0,wL cS v0),(1,wS v1),(5,wI v5)],[]⟩,Zj7 v0 v1 v5)
def Zx4:=fun a0 a1=>Z54.run (Z53 a0 a1)
theorem Z16(a0)(a1){r}(h:Zx4 a0 a1=some r):Fn PR 168 [wL cS a0,wS a1] (wI r):=Z54.fn h
def Z4q:LT Empty (Bys):=
.lb 1001<|.ret [([99,114,101,97,116,117,114,101]:By),([105,110,115,116,97,110,116]:By),([114,105,116,117,97,108]:By),([114,101,108,105,99]:By),([99,104,97,114,109]:By),([108,97,110,100]:By)] [.relab 1001 5000]
def Z4r:LF Empty (Bys) := .z 170 [.t 0] true (fun r=>[(5000,wR cS 1 r)]) (fun r=>(wO cS 5000 r))
def Znw:=Z4r.run (Z4q)
theorem Zafr{r}(h:Znw=some r):FnG PR 170 [] [] [(5000,wR cS 1 r)] (wO cS 5000 r):=Z4r.fn h
theorem Z17{r:Bys}(h:Znw=some r):Fn PR 170 [] (wL cS r):=
 FnG.frozen (C:=LT.RL cS r/\True) (Zafr h) ⟨rfl,trivial⟩ (by kernel_rfl)
def Z55(a0:By):LT Empty Bool:=
.call (Zacx a0) fun x1=>.cs x1 (.kg 0<|.call (Zafq) fun x4=>.k2 0<|.call (Z16 x4 a0) fun x6=>.k2 0<|.cs (decide (x6 < 0)) (.kg 1<|.call (Z17) fun x9=>.k2 1<|.call (Z16 x9 a0) fun x11=>.k2 1<|.rt (decide (x11 < 0)))<|.k5 1<|.rt false)<|.k5 0<|.b5 false<|.rt false
def Zagf:LF Empty Bool := .z0 121 [.t 2] wB
def Zx5:=fun a0=>Zagf.run (Z55 a0)
theorem Z18(a0){r}(h:Zx5 a0=some r):Fn PR 121 [wS a0] (wB r):=Zagf.fn h
inductive Zx6 where
 | L0 (v0:Int) (v1:Int) (v5:Int)
def Z9v(v0:Int)(v1:Int)(v5:Int):LT Zx6 Bool:=
.br (decide (v5 < v1)) (.dc ((2:Int)≠0) rfl<|.g0 (.L0 (Zq3 .i64 v0 2) v1 (IntKind.wrap .i64 (v5+1))))<|.dc ((2:Int)≠0) rfl<|.rt ((Int.tmod v0 2)==1)
def Zaq6(a0:Int)(a1:Int):LT Zx6 Bool:=
.g0 (.L0 a0 a1 0)
def Zaq7:LF Zx6 Bool := .m0 122 [.t 4] wB fun | .L0 v0 v1 v5=>([1,0,1,4],⟨16,[(0,wI v0),(1,wI v1),(5,wI v5)],[]⟩,Z9v v0 v1 v5)
def Zao8:=fun a0 a1=>Zaq7.run (Zaq6 a0 a1)
theorem Z9w(a0)(a1){r}(h:Zao8 a0 a1=some r):Fn PR 122 [wI a0,wI a1] (wB r):=Zaq7.fn h
inductive Z19 where
 | L0 (E0:Zah) (v3:Int)
def Zacz(E0:Zah)(v3:Int):LT Z19 Bool:=
.len cS E0.Subs<|.br (decide (v3 < (E0.Subs.length:Int))) (.idx cS E0.Subs v3 fun x3=>.call (Z18 x3) fun x5=>.cs (!x5) (.k5 1<|.kn [0]<|.rt false)<|.k3 1<|.cs (decide (v3 > 0)) (.k5 2<|.idx cS E0.Subs (IntKind.wrap .i64 (v3 - 1)) fun x11=>.k5 2<|.ag cS x3 0<|.k2 2<|.kg 1<|.kg 2<|.kg 1<|.br (!(Op.bytesLess x11 x3)) (.rt false)<|.g0 (.L0 E0 (IntKind.wrap .i64 (v3+1))))<|.k8 2<|.k4 2<|.kg 1<|.kg 2<|.kg 1<|.kn [0]<|.g0 (.L0 E0 (IntKind.wrap .i64 (v3+1))))<|.cs (E0.Types==2) (.k4 1<|.b5 true<|.b2 true<|.rt true)<|.k4 1<|.cs (E0.Types==4) (.k5 2<|.k2 2<|.rt true)<|.k3 2<|.call (Z9w E0.Types 1) fun x20=>.k2 2<|.cs (!x20) (.k3 3<|.call (Z9w E0.Types 2) fun x23=>.kg 3<|.kg 2<|.kg 3<|.kg 2<|.rt (!x23))<|.k4 3<|.kg 2<|.kg 3<|.kg 2<|.rt false
def Zauz(a0:Zah):LT Z19 Bool:=
.lb 1001<|.cs (decide (a0.Super < 0)) (.k4 0<|.b8 true<|.b5 true<|.kn [0]<|.rt false)<|.k4 0<|.cs (decide (a0.Super > 3)) (.k4 1<|.b8 true<|.kb true<|.kn [0]<|.rt false)<|.k4 1<|.cs (decide (a0.Types < 1)) (.k4 2<|.b5 true<|.kn [0]<|.rt false)<|.k4 2<|.cs (decide (a0.Types > 63)) (.k5 3<|.kn [0]<|.rt false)<|.k3 3<|.len cS a0.Subs<|.k2 3<|.br (decide ((a0.Subs.length:Int) > 4)) (.rt false)<|.go (.L0 a0 0) [.relab 1001 3000]
def Zau0:LF Z19 Bool := .m0 75 [.t 2] wB fun | .L0 E0 v3=>([1,1,0,1,4],⟨80,[(1,.bptr 3000 0),(3,wI v3)],[(3000,.box (bx (Zh5 E0)))]⟩,Zacz E0 v3)
def Zau1:=fun a0=>Zau0.run (Zauz a0)
theorem Za39(a0){r}(h:Zau1 a0=some r):Fn PR 75 [wA (Zh5 a0)] (wB r):=Zau0.fn h
def Zau2(a0:Int):LT Empty Bool:=
.cs (decide (a0>=0)) (.k3 0<|.rt (decide (a0<=131071)))<|.k3 0<|.rt false
def Zau3:LF Empty Bool := .z0 76 [.t 2] wB
def Zau4:=fun a0=>Zau3.run (Zau2 a0)
theorem Zaq8(a0){r}(h:Zau4 a0=some r):Fn PR 76 [wI a0] (wB r):=Zau3.fn h
def Z7y(a0:Zn):LT Empty Bool:=
.lb 1001<|.rt ((Zbf .and .i64 a0.Line.Types 1) != 0)
def Z7z:LF Empty Bool := .z0 77 [.t 2] wB
def Z2a:=fun a0=>Z7z.run (Z7y a0)
theorem Zalo(a0){r}(h:Z2a a0=some r):Fn PR 77 [wA (Z4 a0)] (wB r):=Z7z.fn h
inductive Zrj where
 | L0 (v0:Int) (v1:Int) (v7:Int)
def Zj8(v0:Int)(v1:Int)(v7:Int):LT Zrj Bool:=
.br (decide (v7 < 6)) (.dc ((2:Int)≠0) rfl<|.cs ((Int.tmod v0 2)==1) (.k2 1<|.dc ((2:Int)≠0) rfl<|.k2 1<|.br ((Int.tmod v1 2)==1) (.rt false)<|.dc ((2:Int)≠0) rfl<|.dc ((2:Int)≠0) rfl<|.g0 (.L0 (Zq3 .i64 v0 2) (Zq3 .i64 v1 2) (IntKind.wrap .i64 (v7+1))))<|.k4 1<|.kn [0]<|.dc ((2:Int)≠0) rfl<|.dc ((2:Int)≠0) rfl<|.g0 (.L0 (Zq3 .i64 v0 2) (Zq3 .i64 v1 2) (IntKind.wrap .i64 (v7+1))))<|.rt true
def Z56(a0:Int)(a1:Int)(a2:Int):LT Zrj Bool:=
.cs (decide (a0 < 0)) (.k4 0<|.b5 true<|.b2 true<|.kn [0]<|.rt false)<|.k4 0<|.cs (decide (a0 > a2)) (.k3 1<|.b4 true<|.kn [0]<|.rt false)<|.k3 1<|.cs (decide (a1 < 0)) (.k4 2<|.kn [0]<|.rt false)<|.k4 2<|.br (decide (a1 > a2)) (.rt false)<|.g0 (.L0 a0 a1 0)
def Zrk:LF Zrj Bool := .m0 171 [.t 6] wB fun | .L0 v0 v1 v7=>([1,1,0,1,4],⟨40,[(0,wI v0),(1,wI v1),(7,wI v7)],[]⟩,Zj8 v0 v1 v7)
def Zx7:=fun a0 a1 a2=>Zrk.run (Z56 a0 a1 a2)
theorem Zac0(a0)(a1)(a2){r}(h:Zx7 a0 a1 a2=some r):Fn PR 171 [wI a0,wI a1,wI a2] (wB r):=Zrk.fn h
def Z57(a0:Za):LT Empty Bool:=
.lb 1001<|.cs (decide (a0.Kind < 0)) (.k4 0<|.b8 true<|.kn [0]<|.rt false)<|.k4 0<|.cs (decide (a0.Kind > 3)) (.k4 1<|.b4 true<|.kn [0]<|.rt false)<|.k4 1<|.cs (decide (a0.N < 0)) (.k4 2<|.kn [0]<|.rt false)<|.k4 2<|.br (decide (a0.N > 1000000)) (.rt false)<|.cs (a0.Kind != 0) (.k4 4<|.rt true)<|.k4 4<|.rt (a0.N==0)
def Zagg:LF Empty Bool := .z0 172 [.t 2] wB
def Zx8:=fun a0=>Zagg.run (Z57 a0)
theorem Z2b(a0){r}(h:Zx8 a0=some r):Fn PR 172 [wA (Zce a0)] (wB r):=Zagg.fn h
inductive Z2c where
 | L0 (E0:Zc)
def Zpc(E0:Zc):LT Z2c Bool:=
.call (Z2b E0.Power) fun x1=>.cs x1 (.k3 0<|.call (Z2b E0.Tough) fun x4=>.kg 0<|.cs x4 (.k3 1<|.call (Z2b E0.Value) fun x7=>.kg 1<|.rt x7)<|.k4 1<|.rt false)<|.k4 0<|.b4 false<|.rt false
def Zain(a0:Zc):LT Z2c Bool:=
.lb 1001<|.cs (decide (a0.Zone < 0)) (.k4 0<|.b16 true<|.b8 true<|.kn [0]<|.rt false)<|.k4 0<|.cs (decide (a0.Zone > 5)) (.k4 1<|.b16 true<|.b4 true<|.kn [0]<|.rt false)<|.k4 1<|.cs (decide (a0.Who < 0)) (.k4 2<|.b16 true<|.kn [0]<|.rt false)<|.k4 2<|.cs (decide (a0.Who > 2)) (.k4 3<|.b8 true<|.b4 true<|.kn [0]<|.rt false)<|.k4 3<|.cs (decide (a0.Self < 0)) (.k4 4<|.b8 true<|.kn [0]<|.rt false)<|.k4 4<|.cs (decide (a0.Self > 2)) (.k4 5<|.b4 true<|.kn [0]<|.rt false)<|.k4 5<|.cs (decide (a0.Tap < 0)) (.k4 6<|.kn [0]<|.rt false)<|.k4 6<|.br (decide (a0.Tap > 2)) (.rt false)<|.call (Zac0 a0.Types a0.NotTypes 63) fun x9=>.cs (!x9) (.k5 8<|.k2 8<|.kn [0]<|.rt false)<|.k5 8<|.call (Zac0 a0.Colors a0.NotColors 31) fun x12=>.k2 8<|.br (!x12) (.rt false)<|.cs (!(a0.Sub==([]:By))) (.k3 10<|.call (Z18 a0.Sub) fun x16=>.k2 10<|.cs (!x16) (.k4 11<|.b4 true<|.kn [0]<|.rt false)<|.k4 11<|.cs (decide (a0.Keys < 0)) (.k4 12<|.kn [0]<|.rt false)<|.k4 12<|.br (decide (a0.Keys > 131071)) (.rt false)<|.jn 0 (.L0 a0) [.relab 1001 3000] (Zpc a0))<|.k5 10<|.b4 false<|.cs (decide (a0.Keys < 0)) (.k4 11<|.kn [0]<|.rt false)<|.k4 11<|.br (decide (a0.Keys > 131071)) (.rt false)<|.jn 0 (.L0 a0) [.relab 1001 3000] (Zpc a0)
def Zaio:LF Z2c Bool := .m0 123 [.t 2] wB fun | .L0 E0=>([1,1,1,1],⟨87,[(1,.bptr 3000 0)],[(3000,.box (bx (Zo E0)))]⟩,Zpc E0)
def Z70:=fun a0=>Zaio.run (Zain a0)
theorem Zid(a0){r}(h:Z70 a0=some r):Fn PR 123 [wA (Zo a0)] (wB r):=Zaio.fn h
inductive Zqe where
 | L0 (E0:Zi) (E1:Zi) (v7:Int) (v8:Bool)
 | L1 (E0:Zi) (E1:Zi) (v7:Int) (v16:Bool)
def Zrl(E0:Zi)(E1:Zi)(v7:Int)(v16:Bool):LT Zqe Zi:=
.br v16 (.rt (⟨E0.Kind,E0.N,E0.M,([]:By),E0.Filter⟩:Zi))<|.br (v7==11) (.rt (⟨E0.Kind,E0.N,E0.M,E0.Sub,(⟨0,0,0,0,0,0,0,([]:By),0,0,(⟨0,0⟩:Za),(⟨0,0⟩:Za),(⟨0,0⟩:Za)⟩:Zc)⟩:Zi))<|.br (v7==12) (.kn [3]<|.rt (⟨E0.Kind,0,0,E0.Sub,E0.Filter⟩:Zi))<|.br (v7==13) (.rt (⟨E0.Kind,0,0,E0.Sub,E0.Filter⟩:Zi))<|.rt E0
def Zh6(E0:Zi)(E1:Zi)(v7:Int)(v8:Bool):LT Zqe Zi:=
.br v8 (.rt (⟨E0.Kind,0,E0.M,E0.Sub,E0.Filter⟩:Zi))<|.br (v7==4) (.j0 (.L1 E0 E1 v7 (v7==4)) (Zrl E0 E1 v7 (v7==4)))<|.j0 (.L1 E0 E1 v7 (v7==5)) (Zrl E0 E1 v7 (v7==5))
def Zalp(a0:Zi):LT Zqe Zi:=
.lb 1001<|.lb 1002<|.br (a0.Kind==2) (.jn 0 (.L0 (⟨0,a0.N,a0.M,a0.Sub,a0.Filter⟩:Zi) (⟨0,0,0,([]:By),(⟨0,0,0,0,0,0,0,([]:By),0,0,(⟨0,0⟩:Za),(⟨0,0⟩:Za),(⟨0,0⟩:Za)⟩:Zc)⟩:Zi) a0.Kind (a0.Kind==2)) [.relab 1001 3000,.relab 1002 3001] (Zh6 (⟨0,a0.N,a0.M,a0.Sub,a0.Filter⟩:Zi) (⟨0,0,0,([]:By),(⟨0,0,0,0,0,0,0,([]:By),0,0,(⟨0,0⟩:Za),(⟨0,0⟩:Za),(⟨0,0⟩:Za)⟩:Zc)⟩:Zi) a0.Kind (a0.Kind==2)))<|.br (a0.Kind==3) (.jn 0 (.L0 (⟨0,a0.N,a0.M,a0.Sub,a0.Filter⟩:Zi) (⟨0,0,0,([]:By),(⟨0,0,0,0,0,0,0,([]:By),0,0,(⟨0,0⟩:Za),(⟨0,0⟩:Za),(⟨0,0⟩:Za)⟩:Zc)⟩:Zi) a0.Kind (a0.Kind==3)) [.relab 1001 3000,.relab 1002 3001] (Zh6 (⟨0,a0.N,a0.M,a0.Sub,a0.Filter⟩:Zi) (⟨0,0,0,([]:By),(⟨0,0,0,0,0,0,0,([]:By),0,0,(⟨0,0⟩:Za),(⟨0,0⟩:Za),(⟨0,0⟩:Za)⟩:Zc)⟩:Zi) a0.Kind (a0.Kind==3)))<|.br (a0.Kind==6) (.jn 0 (.L0 (⟨0,a0.N,a0.M,a0.Sub,a0.Filter⟩:Zi) (⟨0,0,0,([]:By),(⟨0,0,0,0,0,0,0,([]:By),0,0,(⟨0,0⟩:Za),(⟨0,0⟩:Za),(⟨0,0⟩:Za)⟩:Zc)⟩:Zi) a0.Kind (a0.Kind==6)) [.relab 1001 3000,.relab 1002 3001] (Zh6 (⟨0,a0.N,a0.M,a0.Sub,a0.Filter⟩:Zi) (⟨0,0,0,([]:By),(⟨0,0,0,0,0,0,0,([]:By),0,0,(⟨0,0⟩:Za),(⟨0,0⟩:Za),(⟨0,0⟩:Za)⟩:Zc)⟩:Zi) a0.Kind (a0.Kind==6)))<|.br (a0.Kind==7) (.jn 0 (.L0 (⟨0,a0.N,a0.M,a0.Sub,a0.Filter⟩:Zi) (⟨0,0,0,([]:By),(⟨0,0,0,0,0,0,0,([]:By),0,0,(⟨0,0⟩:Za),(⟨0,0⟩:Za),(⟨0,0⟩:Za)⟩:Zc)⟩:Zi) a0.Kind (a0.Kind==7)) [.relab 1001 3000,.relab 1002 3001] (Zh6 (⟨0,a0.N,a0.M,a0.Sub,a0.Filter⟩:Zi) (⟨0,0,0,([]:By),(⟨0,0,0,0,0,0,0,([]:By),0,0,(⟨0,0⟩:Za),(⟨0,0⟩:Za),(⟨0,0⟩:Za)⟩:Zc)⟩:Zi) a0.Kind (a0.Kind==7)))<|.br (a0.Kind==8) (.jn 0 (.L0 (⟨0,a0.N,a0.M,a0.Sub,a0.Filter⟩:Zi) (⟨0,0,0,([]:By),(⟨0,0,0,0,0,0,0,([]:By),0,0,(⟨0,0⟩:Za),(⟨0,0⟩:Za),(⟨0,0⟩:Za)⟩:Zc)⟩:Zi) a0.Kind (a0.Kind==8)) [.relab 1001 3000,.relab 1002 3001] (Zh6 (⟨0,a0.N,a0.M,a0.Sub,a0.Filter⟩:Zi) (⟨0,0,0,([]:By),(⟨0,0,0,0,0,0,0,([]:By),0,0,(⟨0,0⟩:Za),(⟨0,0⟩:Za),(⟨0,0⟩:Za)⟩:Zc)⟩:Zi) a0.Kind (a0.Kind==8)))<|.jn 0 (.L0 (⟨0,a0.N,a0.M,a0.Sub,a0.Filter⟩:Zi) (⟨0,0,0,([]:By),(⟨0,0,0,0,0,0,0,([]:By),0,0,(⟨0,0⟩:Za),(⟨0,0⟩:Za),(⟨0,0⟩:Za)⟩:Zc)⟩:Zi) a0.Kind (a0.Kind==9)) [.relab 1001 3000,.relab 1002 3001] (Zh6 (⟨0,a0.N,a0.M,a0.Sub,a0.Filter⟩:Zi) (⟨0,0,0,([]:By),(⟨0,0,0,0,0,0,0,([]:By),0,0,(⟨0,0⟩:Za),(⟨0,0⟩:Za),(⟨0,0⟩:Za)⟩:Zc)⟩:Zi) a0.Kind (a0.Kind==9))
def Zalq:LF Zqe Zi := .m0 185 [.c 2 79 true 20] (fun r=>(wA (Zm r))) fun | .L0 E0 E1 v7 v8=>([1,1,1,0,1,4,1],⟨30,[(1,.bptr 3000 0),(2,.bptr 3001 0),(7,wI v7),(8,wB v8)],[(3000,.box (bx (Zm E0))),(3001,.box (bx (Zm E1)))]⟩,Zh6 E0 E1 v7 v8) | .L1 E0 E1 v7 v16=>([1,1,1,0,1,4,1,3,1],⟨30,[(1,.bptr 3000 0),(2,.bptr 3001 0),(7,wI v7),(16,wB v16)],[(3000,.box (bx (Zm E0))),(3001,.box (bx (Zm E1)))]⟩,Zrl E0 E1 v7 v16)
def Zaip:=fun a0=>Zalq.run (Zalp a0)
theorem Zays(a0){r}(h:Zaip a0=some r):Fn PR 185 [wA (Zm a0)] (wA (Zm r)):=Zalq.fn h
def Zagh(a0:Int):LT Empty Bool:=
.cs (decide (a0>=1)) (.k3 0<|.cs (decide (a0<=63)) (.k4 1<|.rt ((Zbf .and .i64 a0 6)==0))<|.k4 1<|.rt false)<|.k3 0<|.b4 false<|.rt false
def Zagi:LF Empty Bool := .z0 186 [.t 2] wB
def Zac1:=fun a0=>Zagi.run (Zagh a0)
theorem Zau5(a0){r}(h:Zac1 a0=some r):Fn PR 186 [wI a0] (wB r):=Zagi.fn h
inductive Zsv where
 | L0 (E0:Zi) (v18:Int) (v19:Bool)
 | L1 (E0:Zi) (v18:Int) (v25:Bool)
 | L2 (E0:Zi) (v18:Int) (v51:Bool)
def Zx9(E0:Zi)(v18:Int)(v51:Bool):LT Zsv Bool:=
.br v51 (.cs (decide (E0.N>=1)) (.k4 1<|.rt (decide (E0.N<=131071)))<|.k4 1<|.rt false)<|.br (v18==11) (.call (Zid E0.Filter) fun x4=>.rt x4)<|.br (v18==12) (.cs (decide (E0.N>=0)) (.k4 3<|.cs (decide (E0.N<=99)) (.k4 4<|.cs (decide (E0.M>=0)) (.k4 5<|.rt (decide (E0.M<=99)))<|.k4 5<|.rt false)<|.k4 4<|.b4 false<|.rt false)<|.k4 3<|.b8 false<|.rt false)<|.br (v18==13) (.cs (decide (E0.N>=(-99))) (.k4 4<|.cs (decide (E0.N<=99)) (.k4 5<|.cs (decide (E0.M>=(-99))) (.k4 6<|.rt (decide (E0.M<=99)))<|.k4 6<|.rt false)<|.k4 5<|.b4 false<|.rt false)<|.k4 4<|.b8 false<|.rt false)<|.rt true
def Zya(E0:Zi)(v18:Int)(v25:Bool):LT Zsv Bool:=
.br v25 (.call (Z18 E0.Sub) fun x2=>.rt x2)<|.br (v18==6) (.cs (decide (E0.N>=0)) (.k4 2<|.rt (decide (E0.N<=31)))<|.k4 2<|.rt false)<|.br (v18==7) (.cs (decide (E0.N>=1)) (.k4 3<|.rt (decide (E0.N<=31)))<|.k4 3<|.rt false)<|.br (v18==8) (.j0 (.L2 E0 v18 (v18==8)) (Zx9 E0 v18 (v18==8)))<|.j0 (.L2 E0 v18 (v18==9)) (Zx9 E0 v18 (v18==9))
def Zyb(E0:Zi)(v18:Int)(v19:Bool):LT Zsv Bool:=
.br v19 (.call (Zau5 E0.N) fun x2=>.rt x2)<|.br (v18==4) (.j0 (.L1 E0 v18 (v18==4)) (Zya E0 v18 (v18==4)))<|.j0 (.L1 E0 v18 (v18==5)) (Zya E0 v18 (v18==5))
def Zau6(a0:Zi):LT Zsv Bool:=
.lb 1001<|.cs (decide (a0.Kind < 1)) (.k4 0<|.b5 true<|.kn [0]<|.rt false)<|.k4 0<|.cs (decide (a0.Kind > 14)) (.k5 1<|.kn [0]<|.rt false)<|.k2 1<|.call (Zays a0) fun x3=>.k3 1<|.br (!(Z5 (Zm x3) (Zm (⟨0,0,0,([]:By),(⟨0,0,0,0,0,0,0,([]:By),0,0,(⟨0,0⟩:Za),(⟨0,0⟩:Za),(⟨0,0⟩:Za)⟩:Zc)⟩:Zi)))) (.rt false)<|.br (a0.Kind==2) (.jn 0 (.L0 a0 a0.Kind (a0.Kind==2)) [.relab 1001 3000] (Zyb a0 a0.Kind (a0.Kind==2)))<|.jn 0 (.L0 a0 a0.Kind (a0.Kind==3)) [.relab 1001 3000] (Zyb a0 a0.Kind (a0.Kind==3))
def Zau7:LF Zsv Bool := .m0 137 [.t 2] wB fun | .L0 E0 v18 v19=>([1,1,0,1,4,1],⟨107,[(1,.bptr 3000 0),(18,wI v18),(19,wB v19)],[(3000,.box (bx (Zm E0)))]⟩,Zyb E0 v18 v19) | .L1 E0 v18 v25=>([1,1,0,1,4,1,3,1],⟨107,[(1,.bptr 3000 0),(18,wI v18),(25,wB v25)],[(3000,.box (bx (Zm E0)))]⟩,Zya E0 v18 v25) | .L2 E0 v18 v51=>([1,1,0,1,4,1,3,1,3,1,3,1,3,1],⟨107,[(1,.bptr 3000 0),(18,wI v18),(51,wB v51)],[(3000,.box (bx (Zm E0)))]⟩,Zx9 E0 v18 v51)
def Zau8:=fun a0=>Zau7.run (Zau6 a0)
theorem Zaq9(a0){r}(h:Zau8 a0=some r):Fn PR 137 [wA (Zm a0)] (wB r):=Zau7.fn h
inductive Zpd where
 | L0 (v0:Bys) (v1:Int) (v2:By) (v7:By) (v8:Int)
def Zzi(v0:Bys)(v1:Int)(v2:By)(v7:By)(v8:Int):LT Zpd (By):=
.len cS v0<|.br (decide (v8 < (v0.length:Int))) (.call (Z9w v1 v8) fun x3=>.br x3 (.br (!(v7==([]:By))) (.ok (v7.length+v2.length<=9223372036854775807)<|.idx cS v0 v8 fun x10=>.ok ((v7++v2).length+x10.length<=9223372036854775807)<|.g0 (.L0 v0 v1 v2 ((v7++v2)++x10) (IntKind.wrap .i64 (v8+1))))<|.idx cS v0 v8 fun x17=>.ok (v7.length+x17.length<=9223372036854775807)<|.g0 (.L0 v0 v1 v2 (v7++x17) (IntKind.wrap .i64 (v8+1))))<|.g0 (.L0 v0 v1 v2 v7 (IntKind.wrap .i64 (v8+1))))<|.rt v7
def Zac2(a0:Bys)(a1:Int)(a2:By):LT Zpd (By):=
.g0 (.L0 a0 a1 a2 ([]:By) 0)
def Zac3:LF Zpd (By) := .m0 231 [.t 6] wS fun | .L0 v0 v1 v2 v7 v8=>([1,1,0,1,4],⟨30,[(0,wL cS v0),(1,wI v1),(2,wS v2),(7,wS v7),(8,wI v8)],[]⟩,Zzi v0 v1 v2 v7 v8)
def Z9x:=fun a0 a1 a2=>Zac3.run (Zac2 a0 a1 a2)
theorem Zaru(a0)(a1)(a2){r}(h:Z9x a0 a1 a2=some r):Fn PR 231 [wL cS a0,wI a1,wS a2] (wS r):=Zac3.fn h
def Z4s(a0:Int):LT Empty (By):=
.cs (decide (a0 < 1)) (.k3 0<|.kn [0]<|.rt ([]:By))<|.k3 0<|.br (decide (a0 > 63)) (.rt ([]:By))<|.call (Z17) fun x3=>.call (Zaru x3 a0 ([43]:By)) fun x5=>.rt x5
def Z4t:LF Empty (By) := .z0 187 [.t 2] wS
def Zzj:=fun a0=>Z4t.run (Z4s a0)
theorem Zsw(a0){r}(h:Zzj a0=some r):Fn PR 187 [wI a0] (wS r):=Z4t.fn h
def Zau9(a0:Int):LT Empty Bool:=
.cs (decide (a0>=0)) (.k3 0<|.rt (decide (a0<=31)))<|.k3 0<|.rt false
def Zava:LF Empty Bool := .z0 232 [.t 2] wB
def Zavb:=fun a0=>Zava.run (Zau9 a0)
theorem Za4a(a0){r}(h:Zavb a0=some r):Fn PR 232 [wI a0] (wB r):=Zava.fn h
def Zalr(a0:Int):LT Empty (By):=
.br (a0==0) (.rt ([97,109,98,101,114]:By))<|.br (a0==1) (.rt ([99,111,98,97,108,116]:By))<|.br (a0==2) (.rt ([106,101,116]:By))<|.br (a0==3) (.rt ([114,117,98,121]:By))<|.br (a0==4) (.rt ([101,109,101,114,97,108,100]:By))<|.rt ([]:By)
def Zals:LF Empty (By) := .z0 233 [.t 2] wS
def Zaiq:=fun a0=>Zals.run (Zalr a0)
theorem Zxk(a0){r}(h:Zaiq a0=some r):Fn PR 233 [wI a0] (wS r):=Zals.fn h
inductive Zt7 where
 | L0 (v0:Int) (v3:By) (v4:Int)
def Z58(v0:Int)(v3:By)(v4:Int):LT Zt7 (By):=
.br (decide (v4 < 5)) (.ok (¬ v4 < 0)<|.ok ((Z10 .i64 1 v4)≠0)<|.dc ((2:Int)≠0) rfl<|.br ((Int.tmod (Zq3 .i64 v0 (Z10 .i64 1 v4)) 2)==1) (.br (!(v3==([]:By))) (.ok (v3.length+([43]:By).length<=9223372036854775807)<|.call (Zxk v4) fun x10=>.ok ((v3++([43]:By)).length+x10.length<=9223372036854775807)<|.g0 (.L0 v0 ((v3++([43]:By))++x10) (IntKind.wrap .i64 (v4+1))))<|.call (Zxk v4) fun x17=>.ok (v3.length+x17.length<=9223372036854775807)<|.g0 (.L0 v0 (v3++x17) (IntKind.wrap .i64 (v4+1))))<|.g0 (.L0 v0 v3 (IntKind.wrap .i64 (v4+1))))<|.rt v3
def Zalt(a0:Int):LT Zt7 (By):=
.call (Za4a a0) fun x1=>.br (!x1) (.rt ([]:By))<|.br (a0==0) (.rt ([110,111,110,101]:By))<|.g0 (.L0 a0 ([]:By) 0)
def Zalu:LF Zt7 (By) := .m0 188 [.t 2] wS fun | .L0 v0 v3 v4=>([1,1,1,1,0,1,4],⟨29,[(0,wI v0),(3,wS v3),(4,wI v4)],[]⟩,Z58 v0 v3 v4)
def Zair:=fun a0=>Zalu.run (Zalt a0)
theorem Zagj(a0){r}(h:Zair a0=some r):Fn PR 188 [wI a0] (wS r):=Zalu.fn h
def Zagk:LT Empty (Bys):=
.lb 1001<|.ret [([102,108,121,105,110,103]:By),([114,101,97,99,104]:By),([104,97,115,116,101]:By),([118,105,103,105,108,97,110,116]:By),([116,114,97,109,112,108,101]:By),([102,105,114,115,116,45,115,116,114,105,107,101]:By),([100,111,117,98,108,101,45,115,116,114,105,107,101]:By),([100,101,97,100,108,121]:By),([108,105,102,101,108,105,110,107]:By),([109,101,110,97,99,101]:By),([100,101,102,101,110,100,101,114]:By),([119,97,114,100,101,100]:By),([115,116,117,114,100,121]:By),([101,108,117,115,105,118,101]:By),([110,111,45,97,116,116,97,99,107]:By),([110,111,45,98,108,111,99,107]:By),([109,117,115,116,45,97,116,116,97,99,107]:By)] [.relab 1001 5000]
def Zagl:LF Empty (Bys) := .z 261 [.t 0] true (fun r=>[(5000,wR cS 1 r)]) (fun r=>(wO cS 5000 r))
def Z4u:=Zagl.run (Zagk)
theorem Zarv{r}(h:Z4u=some r):FnG PR 261 [] [] [(5000,wR cS 1 r)] (wO cS 5000 r):=Zagl.fn h
theorem Zavc{r:Bys}(h:Z4u=some r):Fn PR 261 [] (wL cS r):=
 FnG.frozen (C:=LT.RL cS r/\True) (Zarv h) ⟨rfl,trivial⟩ (by kernel_rfl)
def Zalv(a0:Int):LT Empty (By):=
.cs (decide (a0 < 0)) (.k3 0<|.kn [0]<|.rt ([]:By))<|.k3 0<|.br (decide (a0 > 16)) (.rt ([]:By))<|.call (Zavc) fun x3=>.idx cS x3 a0 fun x5=>.rt x5
def Zalw:LF Empty (By) := .z0 234 [.t 2] wS
def Zais:=fun a0=>Zalw.run (Zalv a0)
theorem Z59(a0){r}(h:Zais a0=some r):Fn PR 234 [wI a0] (wS r):=Zalw.fn h
inductive Zt8 where
 | L0 (v0:Int) (v3:By) (v4:Int)
def Z6a(v0:Int)(v3:By)(v4:Int):LT Zt8 (By):=
.br (decide (v4 < 17)) (.dc ((2:Int)≠0) rfl<|.br ((Int.tmod v0 2)==1) (.br (!(v3==([]:By))) (.ok (v3.length+([43]:By).length<=9223372036854775807)<|.call (Z59 v4) fun x6=>.ok ((v3++([43]:By)).length+x6.length<=9223372036854775807)<|.dc ((2:Int)≠0) rfl<|.g0 (.L0 (Zq3 .i64 v0 2) ((v3++([43]:By))++x6) (IntKind.wrap .i64 (v4+1))))<|.call (Z59 v4) fun x13=>.ok (v3.length+x13.length<=9223372036854775807)<|.dc ((2:Int)≠0) rfl<|.g0 (.L0 (Zq3 .i64 v0 2) (v3++x13) (IntKind.wrap .i64 (v4+1))))<|.dc ((2:Int)≠0) rfl<|.g0 (.L0 (Zq3 .i64 v0 2) v3 (IntKind.wrap .i64 (v4+1))))<|.br (v3==([]:By)) (.rt ([110,111,110,101]:By))<|.rt v3
def Zalx(a0:Int):LT Zt8 (By):=
.call (Zaq8 a0) fun x1=>.br (!x1) (.rt ([]:By))<|.g0 (.L0 a0 ([]:By) 0)
def Zaly:LF Zt8 (By) := .m0 189 [.t 2] wS fun | .L0 v0 v3 v4=>([1,1,1,0,1,4],⟨28,[(0,wI v0),(3,wS v3),(4,wI v4)],[]⟩,Z6a v0 v3 v4)
def Zait:=fun a0=>Zaly.run (Zalx a0)
theorem Zagm(a0){r}(h:Zait a0=some r):Fn PR 189 [wI a0] (wS r):=Zaly.fn h
def Z4v:LT Empty (Bys):=
.lb 1001<|.ret [([]:By),([105,110,45,104,97,110,100]:By),([105,110,45,108,105,98,114,97,114,121]:By),([105,110,45,103,114,97,118,101,121,97,114,100]:By),([105,110,45,101,120,105,108,101]:By),([111,110,45,115,116,97,99,107]:By)] [.relab 1001 5000]
def Z4w:LF Empty (Bys) := .z 235 [.t 0] true (fun r=>[(5000,wR cS 1 r)]) (fun r=>(wO cS 5000 r))
def Zsg:=Z4w.run (Z4v)
theorem Zafs{r}(h:Zsg=some r):FnG PR 235 [] [] [(5000,wR cS 1 r)] (wO cS 5000 r):=Z4w.fn h
theorem Zaiu{r:Bys}(h:Zsg=some r):Fn PR 235 [] (wL cS r):=
 FnG.frozen (C:=LT.RL cS r/\True) (Zafs h) ⟨rfl,trivial⟩ (by kernel_rfl)
def Z71:LT Empty (Bys):=
.lb 1001<|.ret [([]:By),([121,111,117,114,115]:By),([116,104,101,105,114,115]:By)] [.relab 1001 5000]
def Z72:LF Empty (Bys) := .z 236 [.t 0] true (fun r=>[(5000,wR cS 1 r)]) (fun r=>(wO cS 5000 r))
def Zt9:=Z72.run (Z71)
theorem Zaiv{r}(h:Zt9=some r):FnG PR 236 [] [] [(5000,wR cS 1 r)] (wO cS 5000 r):=Z72.fn h
theorem Zalz{r:Bys}(h:Zt9=some r):Fn PR 236 [] (wL cS r):=
 FnG.frozen (C:=LT.RL cS r/\True) (Zaiv h) ⟨rfl,trivial⟩ (by kernel_rfl)
def Z4x:LT Empty (Bys):=
.lb 1001<|.ret [([]:By),([115,101,108,102]:By),([111,116,104,101,114]:By)] [.relab 1001 5000]
def Z4y:LF Empty (Bys) := .z 237 [.t 0] true (fun r=>[(5000,wR cS 1 r)]) (fun r=>(wO cS 5000 r))
def Zsh:=Z4y.run (Z4x)
theorem Zaft{r}(h:Zsh=some r):FnG PR 237 [] [] [(5000,wR cS 1 r)] (wO cS 5000 r):=Z4y.fn h
theorem Zaiw{r:Bys}(h:Zsh=some r):Fn PR 237 [] (wL cS r):=
 FnG.frozen (C:=LT.RL cS r/\True) (Zaft h) ⟨rfl,trivial⟩ (by kernel_rfl)
def Z73:LT Empty (Bys):=
.lb 1001<|.ret [([]:By),([116,97,112,112,101,100]:By),([117,110,116,97,112,112,101,100]:By)] [.relab 1001 5000]
def Z74:LF Empty (Bys) := .z 238 [.t 0] true (fun r=>[(5000,wR cS 1 r)]) (fun r=>(wO cS 5000 r))
def Zua:=Z74.run (Z73)
theorem Zaix{r}(h:Zua=some r):FnG PR 238 [] [] [(5000,wR cS 1 r)] (wO cS 5000 r):=Z74.fn h
theorem Zal0{r:Bys}(h:Zua=some r):Fn PR 238 [] (wL cS r):=
 FnG.frozen (C:=LT.RL cS r/\True) (Zaix h) ⟨rfl,trivial⟩ (by kernel_rfl)
inductive Zyc where
 | L0 (v0:Int) (v1:Int) (v5:Int)
def Z9y(v0:Int)(v1:Int)(v5:Int):LT Zyc Bool:=
.br (decide (v5 < v1)) (.dc ((2:Int)≠0) rfl<|.g0 (.L0 (Zq3 .i64 v0 2) v1 (IntKind.wrap .i64 (v5+1))))<|.dc ((2:Int)≠0) rfl<|.rt ((Int.tmod v0 2)==1)
def Zara(a0:Int)(a1:Int):LT Zyc Bool:=
.g0 (.L0 a0 a1 0)
def Zarb:LF Zyc Bool := .m0 240 [.t 4] wB fun | .L0 v0 v1 v5=>([1,0,1,4],⟨16,[(0,wI v0),(1,wI v1),(5,wI v5)],[]⟩,Z9y v0 v1 v5)
def Zao9:=fun a0 a1=>Zarb.run (Zara a0 a1)
theorem Zub(a0)(a1){r}(h:Zao9 a0 a1=some r):Fn PR 240 [wI a0,wI a1] (wB r):=Zarb.fn h
inductive Zmd where
 | L0 (v0:Int) (v3:Int) (v4:Int)
def Zuc(v0:Int)(v3:Int)(v4:Int):LT Zmd (By):=
.br (decide (v4 < v0)) (.g0 (.L0 v0 (IntKind.wrap .i64 (v3*2)) (IntKind.wrap .i64 (v4+1))))<|.call (Zsw v3) fun x6=>.rt x6
def Z75(a0:Int):LT Zmd (By):=
.g0 (.L0 a0 1 0)
def Z76:LF Zmd (By) := .m0 241 [.t 2] wS fun | .L0 v0 v3 v4=>([1,1,0,1,4],⟨14,[(0,wI v0),(3,wI v3),(4,wI v4)],[]⟩,Zuc v0 v3 v4)
def Z2d:=fun a0=>Z76.run (Z75 a0)
theorem Z4z(a0){r}(h:Z2d a0=some r):Fn PR 241 [wI a0] (wS r):=Z76.fn h
def Zagn:LT Empty (Bys):=
.lb 1001<|.ret [([]:By),([62,61]:By),([60,61]:By),([61]:By)] [.relab 1001 5000]
def Zago:LF Empty (Bys) := .z 262 [.t 0] true (fun r=>[(5000,wR cS 1 r)]) (fun r=>(wO cS 5000 r))
def Z40:=Zago.run (Zagn)
theorem Zarw{r}(h:Z40=some r):FnG PR 262 [] [] [(5000,wR cS 1 r)] (wO cS 5000 r):=Zago.fn h
theorem Zavd{r:Bys}(h:Z40=some r):Fn PR 262 [] (wL cS r):=
 FnG.frozen (C:=LT.RL cS r/\True) (Zarw h) ⟨rfl,trivial⟩ (by kernel_rfl)
inductive Z2e where
 | L0 (v0:Int) (v3:By)
def Ziy(v0:Int)(v3:By):LT Z2e (By):=
.br (decide (v0 > 0)) (.dc ((10:Int)≠0) rfl<|.dr [.lit]<|.str [IntKind.wrap .u8 (IntKind.wrap .u64 (48+(Int.tmod v0 10)))] fun x4=>.ok (x4.length+v3.length<=9223372036854775807)<|.dc ((10:Int)≠0) rfl<|.g0 (.L0 (Zq3 .u64 v0 10) (x4++v3)))<|.rt v3
def Zac4(a0:Int):LT Z2e (By):=
.dc ((10:Int)≠0) rfl<|.dr [.lit]<|.str [IntKind.wrap .u8 (IntKind.wrap .u64 (48+(Int.tmod a0 10)))] fun x3=>.dc ((10:Int)≠0) rfl<|.g0 (.L0 (Zq3 .u64 a0 10) x3)
def Zud:LF Z2e (By) := .m0 244 [.t 2] wS fun | .L0 v0 v3=>([1,1,0,1,4],⟨25,[(0,.t (.int .u64 v0)),(3,wS v3)],[]⟩,Ziy v0 v3)
def Z9z:=fun a0=>Zud.run (Zac4 a0)
theorem Zaa4(a0){r}(h:Z9z a0=some r):Fn PR 244 [.t (.int .u64 a0)] (wS r):=Zud.fn h
def Zal1(a0:Int):LT Empty (By):=
.br (decide (a0 < 0)) (.call (Zaa4 (IntKind.wrap .u64 (0 - (IntKind.wrap .u64 a0)))) fun x4=>.ok (([45]:By).length+x4.length<=9223372036854775807)<|.rt (([45]:By)++x4))<|.call (Zaa4 (IntKind.wrap .u64 a0)) fun x10=>.rt x10
def Zal2:LF Empty (By) := .z0 191 [.t 2] wS
def Zaiy:=fun a0=>Zal2.run (Zal1 a0)
theorem Zog(a0){r}(h:Zaiy a0=some r):Fn PR 191 [wI a0] (wS r):=Zal2.fn h
def Z41(a0:By)(a1:Za):LT Empty (By):=
.lb 1003<|.br (a1.Kind==0) (.rt ([]:By))<|.call (Zavd) fun x2=>.idx cS x2 a1.Kind fun x4=>.ok (a0.length+x4.length<=9223372036854775807)<|.call (Zog a1.N) fun x10=>.ok ((a0++x4).length+x10.length<=9223372036854775807)<|.rt ((a0++x4)++x10)
def Z42:LF Empty (By) := .z0 242 [.t 4] wS
def Zzk:=fun a0 a1=>Z42.run (Z41 a0 a1)
theorem Zsx(a0)(a1){r}(h:Zzk a0 a1=some r):Fn PR 242 [wS a0,wA (Zce a1)] (wS r):=Z42.fn h
inductive Zue where
 | L0 (v0:Bys) (v1:By) (v5:By) (v6:Int)
def Z6b(v0:Bys)(v1:By)(v5:By)(v6:Int):LT Zue (By):=
.len cS v0<|.br (decide (v6 < (v0.length:Int))) (.br (decide (v6 > 0)) (.ok (v5.length+v1.length<=9223372036854775807)<|.idx cS v0 v6 fun x7=>.ok ((v5++v1).length+x7.length<=9223372036854775807)<|.g0 (.L0 v0 v1 ((v5++v1)++x7) (IntKind.wrap .i64 (v6+1))))<|.idx cS v0 v6 fun x14=>.ok (v5.length+x14.length<=9223372036854775807)<|.g0 (.L0 v0 v1 (v5++x14) (IntKind.wrap .i64 (v6+1))))<|.rt v5
def Zal3(a0:Bys)(a1:By):LT Zue (By):=
.g0 (.L0 a0 a1 ([]:By) 0)
def Zal4:LF Zue (By) := .m0 243 [.t 4] wS fun | .L0 v0 v1 v5 v6=>([1,1,0,1,4],⟨25,[(0,wL cS v0),(1,wS v1),(5,wS v5),(6,wI v6)],[]⟩,Z6b v0 v1 v5 v6)
def Zaiz:=fun a0 a1=>Zal4.run (Zal3 a0 a1)
theorem Zayt(a0)(a1){r}(h:Zaiz a0 a1=some r):Fn PR 243 [wL cS a0,wS a1] (wS r):=Zal4.fn h
def Z77(b0:Bys)(a1:By):LT Empty (Bys):=
.br (a1==([]:By)) (.ret b0 [.relab 0 5000])<|.dr [.lit]<|.apR cS 16 b0 [a1] fun x2=>.ret x2 [.relab 0 5000]
def Z78:LF Empty (Bys) := .z 239 [.t 4] true (fun r=>[(5000,wR cS 1 r)]) (fun r=>(wO cS 5000 r))
def Z2f:=fun b0 a1=>Z78.run (Z77 b0 a1)
theorem Zge(b0)(a1){r}(h:Z2f b0 a1=some r):FnG PR 239 [(0,wR cS 1 b0)] [wO cS 0 b0,wS a1] [(5000,wR cS 1 r)] (wO cS 5000 r):=Z78.fn h
inductive Zh7 where
 | L0 (E0:Zc) (v6:Bys) (v7:Bys) (v8:Int)
 | L1 (E0:Zc) (v6:Bys) (v7:Bys) (v9:Int)
 | L2 (E0:Zc) (v6:Bys) (v7:Bys) (v10:Int)
 | L3 (E0:Zc) (v6:Bys) (v7:Bys) (v11:Int)
 | L4 (E0:Zc) (v6:Bys) (v7:Bys)
 | L5 (E0:Zc) (v6:Bys) (v7:Bys) (v12:Int)
def Zrm(E0:Zc)(v6:Bys)(v7:Bys):LT Zh7 (By):=
.g0 (.L5 E0 v6 v7 0)
def Z6c(E0:Zc)(v6:Bys)(v7:Bys)(v8:Int):LT Zh7 (By):=
.br (decide (v8 < 6)) (.call (Zub E0.Types v8) fun x2=>.br x2 (.call (Z4z v8) fun x5=>.dr [.lit]<|.apR cS 16 v7 [x5] fun x7=>.g0 (.L0 E0 v6 x7 (IntKind.wrap .i64 (v8+1))))<|.g0 (.L0 E0 v6 v7 (IntKind.wrap .i64 (v8+1))))<|.g0 (.L1 E0 v6 v7 0)
def Z6d(E0:Zc)(v6:Bys)(v7:Bys)(v9:Int):LT Zh7 (By):=
.br (decide (v9 < 6)) (.call (Zub E0.NotTypes v9) fun x2=>.br x2 (.call (Z4z v9) fun x5=>.ok (([110,111,110,45]:By).length+x5.length<=9223372036854775807)<|.dr [.lit]<|.apR cS 16 v7 [([110,111,110,45]:By)++x5] fun x10=>.g0 (.L1 E0 v6 x10 (IntKind.wrap .i64 (v9+1))))<|.g0 (.L1 E0 v6 v7 (IntKind.wrap .i64 (v9+1))))<|.g0 (.L2 E0 v6 v7 0)
def Z6e(E0:Zc)(v6:Bys)(v7:Bys)(v10:Int):LT Zh7 (By):=
.br (decide (v10 < 5)) (.call (Zub E0.Colors v10) fun x2=>.br x2 (.call (Zxk v10) fun x5=>.dr [.lit]<|.apR cS 16 v7 [x5] fun x7=>.g0 (.L2 E0 v6 x7 (IntKind.wrap .i64 (v10+1))))<|.g0 (.L2 E0 v6 v7 (IntKind.wrap .i64 (v10+1))))<|.g0 (.L3 E0 v6 v7 0)
def Z6f(E0:Zc)(v6:Bys)(v7:Bys)(v11:Int):LT Zh7 (By):=
.br (decide (v11 < 5)) (.call (Zub E0.NotColors v11) fun x2=>.br x2 (.call (Zxk v11) fun x5=>.ok (([110,111,110,45]:By).length+x5.length<=9223372036854775807)<|.dr [.lit]<|.apR cS 16 v7 [([110,111,110,45]:By)++x5] fun x10=>.g0 (.L3 E0 v6 x10 (IntKind.wrap .i64 (v11+1))))<|.g0 (.L3 E0 v6 v7 (IntKind.wrap .i64 (v11+1))))<|.br (!(E0.Sub==([]:By))) (.ok (([115,117,98,58]:By).length+E0.Sub.length<=9223372036854775807)<|.dr [.lit]<|.apR cS 16 v7 [([115,117,98,58]:By)++E0.Sub] fun x21=>.j0 (.L4 E0 v6 x21) (Zrm E0 v6 x21))<|.j0 (.L4 E0 v6 v7) (Zrm E0 v6 v7)
def Z6g(E0:Zc)(v6:Bys)(v7:Bys)(v12:Int):LT Zh7 (By):=
.br (decide (v12 < 17)) (.call (Zub E0.Keys v12) fun x2=>.br x2 (.call (Z59 v12) fun x5=>.ok (([119,105,116,104,58]:By).length+x5.length<=9223372036854775807)<|.dr [.lit]<|.apR cS 16 v7 [([119,105,116,104,58]:By)++x5] fun x10=>.g0 (.L5 E0 v6 x10 (IntKind.wrap .i64 (v12+1))))<|.g0 (.L5 E0 v6 v7 (IntKind.wrap .i64 (v12+1))))<|.idx cS v6 E0.Tap fun x17=>.callU (Zge v7 x17) [20007] 1250000 fun x19=>.call (Zsx ([112,111,119,101,114]:By) E0.Power) fun x21=>.callU (Zge x19 x21) [1255000] 1300000 fun x23=>.call (Zsx ([116,111,117,103,104]:By) E0.Tough) fun x25=>.callU (Zge x23 x25) [1305000] 1350000 fun x27=>.call (Zsx ([118,97,108,117,101]:By) E0.Value) fun x29=>.callU (Zge x27 x29) [1355000] 1400000 fun x31=>.lenO cS x31<|.br ((x31.length:Int)==0) (.rt ([97,110,121]:By))<|.rl cS x31<|.call (Zayt x31 ([32]:By)) fun x34=>.rt x34
def Zal5(a0:Zc):LT Zh7 (By):=
.lb 1001<|.call (Zid a0) fun x1=>.br (!x1) (.rt ([]:By))<|.call (Zaiu) fun x4=>.call (Zalz) fun x6=>.call (Zaiw) fun x8=>.call (Zal0) fun x10=>.idx cS x4 a0.Zone fun x12=>.dr [.ahead 26,.own 20 70260 1,.stop]<|.callU (Zge ([]:Bys) x12) [70260] 270000 fun x14=>.idx cS x6 a0.Who fun x16=>.callU (Zge x14 x16) [275000] 340000 fun x18=>.idx cS x8 a0.Self fun x20=>.callU (Zge x18 x20) [345000] 410000 fun x22=>.go (.L0 a0 x10 x22 0) [.relab 1001 3000,.relab 415000 20007]
def Zal6:LF Zh7 (By) := .m0 190 [.t 2] wS fun | .L0 E0 v6 v7 v8=>([1,1,1,1,1,1,1,1,1,1,0,1,4],⟨145,[(1,.bptr 3000 0),(6,wL cS v6),(7,wO cS 20007 v7),(8,wI v8)],[(3000,.box (bx (Zo E0))),(20007,wR cS 1 v7)]⟩,Z6c E0 v6 v7 v8) | .L1 E0 v6 v7 v9=>([1,1,1,1,1,1,1,1,1,1,1,0,1,4],⟨145,[(1,.bptr 3000 0),(6,wL cS v6),(7,wO cS 20007 v7),(9,wI v9)],[(3000,.box (bx (Zo E0))),(20007,wR cS 1 v7)]⟩,Z6d E0 v6 v7 v9) | .L2 E0 v6 v7 v10=>([1,1,1,1,1,1,1,1,1,1,1,1,0,1,4],⟨145,[(1,.bptr 3000 0),(6,wL cS v6),(7,wO cS 20007 v7),(10,wI v10)],[(3000,.box (bx (Zo E0))),(20007,wR cS 1 v7)]⟩,Z6e E0 v6 v7 v10) | .L3 E0 v6 v7 v11=>([1,1,1,1,1,1,1,1,1,1,1,1,1,0,1,4],⟨145,[(1,.bptr 3000 0),(6,wL cS v6),(7,wO cS 20007 v7),(11,wI v11)],[(3000,.box (bx (Zo E0))),(20007,wR cS 1 v7)]⟩,Z6f E0 v6 v7 v11) | .L4 E0 v6 v7=>([1,1,1,1,1,1,1,1,1,1,1,1,1,1,1],⟨145,[(1,.bptr 3000 0),(6,wL cS v6),(7,wO cS 20007 v7)],[(3000,.box (bx (Zo E0))),(20007,wR cS 1 v7)]⟩,Zrm E0 v6 v7) | .L5 E0 v6 v7 v12=>([1,1,1,1,1,1,1,1,1,1,1,1,1,1,1,0,1,4],⟨145,[(1,.bptr 3000 0),(6,wL cS v6),(7,wO cS 20007 v7),(12,wI v12)],[(3000,.box (bx (Zo E0))),(20007,wR cS 1 v7)]⟩,Z6g E0 v6 v7 v12)
def Zai0:=fun a0=>Zal6.run (Zal5 a0)
theorem Zayu(a0){r}(h:Zai0 a0=some r):Fn PR 190 [wA (Zo a0)] (wS r):=Zal6.fn h
def Zal7(a0:Zi):LT Empty (By):=
.lb 1001<|.call (Zaq9 a0) fun x1=>.br (!x1) (.rt ([]:By))<|.br (a0.Kind==1) (.rt ([99,111,110,116,114,111,108]:By))<|.br (a0.Kind==2) (.call (Zsw a0.N) fun x6=>.ok (([116,121,112,101,115,61]:By).length+x6.length<=9223372036854775807)<|.rt (([116,121,112,101,115,61]:By)++x6))<|.br (a0.Kind==3) (.call (Zsw a0.N) fun x12=>.ok (([116,121,112,101,115,43,61]:By).length+x12.length<=9223372036854775807)<|.rt (([116,121,112,101,115,43,61]:By)++x12))<|.br (a0.Kind==4) (.ok (([115,117,98,61]:By).length+a0.Sub.length<=9223372036854775807)<|.rt (([115,117,98,61]:By)++a0.Sub))<|.br (a0.Kind==5) (.ok (([115,117,98,43,61]:By).length+a0.Sub.length<=9223372036854775807)<|.rt (([115,117,98,43,61]:By)++a0.Sub))<|.br (a0.Kind==6) (.call (Zagj a0.N) fun x26=>.ok (([99,111,108,111,114,115,61]:By).length+x26.length<=9223372036854775807)<|.rt (([99,111,108,111,114,115,61]:By)++x26))<|.br (a0.Kind==7) (.call (Zagj a0.N) fun x32=>.ok (([99,111,108,111,114,115,43,61]:By).length+x32.length<=9223372036854775807)<|.rt (([99,111,108,111,114,115,43,61]:By)++x32))<|.br (a0.Kind==8) (.call (Zagm a0.N) fun x38=>.ok (([107,101,121,115,43,61]:By).length+x38.length<=9223372036854775807)<|.rt (([107,101,121,115,43,61]:By)++x38))<|.br (a0.Kind==9) (.call (Zagm a0.N) fun x44=>.ok (([107,101,121,115,45,61]:By).length+x44.length<=9223372036854775807)<|.rt (([107,101,121,115,45,61]:By)++x44))<|.br (a0.Kind==10) (.rt ([98,108,97,110,107]:By))<|.br (a0.Kind==11) (.call (Zayu a0.Filter) fun x51=>.ok (([112,116,61,99,111,117,110,116,40]:By).length+x51.length<=9223372036854775807)<|.ok ((([112,116,61,99,111,117,110,116,40]:By)++x51).length+([41]:By).length<=9223372036854775807)<|.rt ((([112,116,61,99,111,117,110,116,40]:By)++x51)++([41]:By)))<|.br (a0.Kind==12) (.call (Zog a0.N) fun x58=>.ok (([112,116,61]:By).length+x58.length<=9223372036854775807)<|.ok ((([112,116,61]:By)++x58).length+([47]:By).length<=9223372036854775807)<|.call (Zog a0.M) fun x65=>.ok (((([112,116,61]:By)++x58)++([47]:By)).length+x65.length<=9223372036854775807)<|.rt (((([112,116,61]:By)++x58)++([47]:By))++x65))<|.br (a0.Kind==13) (.call (Zog a0.N) fun x71=>.ok (([112,116,43,61]:By).length+x71.length<=9223372036854775807)<|.ok ((([112,116,43,61]:By)++x71).length+([47]:By).length<=9223372036854775807)<|.call (Zog a0.M) fun x78=>.ok (((([112,116,43,61]:By)++x71)++([47]:By)).length+x78.length<=9223372036854775807)<|.rt (((([112,116,43,61]:By)++x71)++([47]:By))++x78))<|.rt ([112,116,45,115,119,105,116,99,104]:By)
def Zal8:LF Empty (By) := .z0 138 [.t 2] wS
def Zai1:=fun a0=>Zal8.run (Zal7 a0)
theorem Zagp(a0){r}(h:Zai1 a0=some r):Fn PR 138 [wA (Zm a0)] (wS r):=Zal8.fn h
inductive Zme where
 | L0 (v0:List Zi) (v3:By) (v4:Int)
def Zuf(v0:List Zi)(v3:By)(v4:Int):LT Zme (By):=
.len Zm v0<|.br (decide (v4 < (v0.length:Int))) (.idx Zm v0 v4 fun x3=>.call (Zaq9 x3) fun x5=>.br (!x5) (.rt ([]:By))<|.br (decide (v4 > 0)) (.ok (v3.length+([44,32]:By).length<=9223372036854775807)<|.ag Zm x3 0<|.call (Zagp x3) fun x11=>.ok ((v3++([44,32]:By)).length+x11.length<=9223372036854775807)<|.g0 (.L0 v0 ((v3++([44,32]:By))++x11) (IntKind.wrap .i64 (v4+1))))<|.ag Zm x3 0<|.call (Zagp x3) fun x17=>.ok (v3.length+x17.length<=9223372036854775807)<|.g0 (.L0 v0 (v3++x17) (IntKind.wrap .i64 (v4+1))))<|.rt v3
def Z79(a0:List Zi):LT Zme (By):=
.len Zm a0<|.cs ((a0.length:Int)==0) (.k4 0<|.kn [0]<|.rt ([]:By))<|.k2 0<|.len Zm a0<|.k2 0<|.br (decide ((a0.length:Int) > 6)) (.rt ([]:By))<|.g0 (.L0 a0 ([]:By) 0)
def Z8a:LF Zme (By) := .m0 87 [.t 2] wS fun | .L0 v0 v3 v4=>([1,1,1,0,1,4],⟨37,[(0,wL Zm v0),(3,wS v3),(4,wI v4)],[]⟩,Zuf v0 v3 v4)
def Z2g:=fun a0=>Z8a.run (Z79 a0)
theorem Zug(a0){r}(h:Z2g a0=some r):Fn PR 87 [wL Zm a0] (wS r):=Z8a.fn h
def Zagq(a0:Zic):LT Empty Bool:=
.lb 1001<|.call (Z4p a0.Mana) fun x1=>.cs x1 (.k5 0<|.cs (a0.Mana.X==0) (.k4 1<|.cs (decide (a0.Life>=0)) (.k4 2<|.rt (decide (a0.Life<=99)))<|.k4 2<|.rt false)<|.k4 1<|.b4 false<|.rt false)<|.k5 0<|.b8 false<|.rt false
def Zagr:LF Empty Bool := .z0 124 [.t 2] wB
def Zac5:=fun a0=>Zagr.run (Zagq a0)
theorem Zave(a0){r}(h:Zac5 a0=some r):Fn PR 124 [wA (Zdz a0)] (wB r):=Zagr.fn h
def Zal9(a0:Int):LT Empty (By):=
.br (a0==1) (.rt ([101,110,116,101,114,115]:By))<|.br (a0==2) (.rt ([108,101,97,118,101,115]:By))<|.br (a0==3) (.rt ([100,105,101,115]:By))<|.br (a0==4) (.rt ([97,116,116,97,99,107,115]:By))<|.br (a0==5) (.rt ([98,108,111,99,107,115]:By))<|.br (a0==6) (.rt ([100,101,97,108,115]:By))<|.br (a0==7) (.rt ([100,101,97,108,116]:By))<|.br (a0==8) (.rt ([100,114,97,119,115]:By))<|.br (a0==9) (.rt ([99,97,115,116,115]:By))<|.br (a0==10) (.rt ([117,112,107,101,101,112]:By))<|.br (a0==11) (.rt ([101,110,100]:By))<|.br (a0==12) (.rt ([103,97,105,110,115]:By))<|.br (a0==13) (.rt ([108,111,115,101,115]:By))<|.br (a0==14) (.rt ([112,108,97,99,101,100]:By))<|.rt ([]:By)
def Zama:LF Empty (By) := .z0 173 [.t 2] wS
def Zai2:=fun a0=>Zama.run (Zal9 a0)
theorem Zags(a0){r}(h:Zai2 a0=some r):Fn PR 173 [wI a0] (wS r):=Zama.fn h
def Zac6(a0:Int):LT Empty Bool:=
.cs (a0==8) (.k3 0<|.b8 true<|.b4 true<|.rt true)<|.k3 0<|.cs (a0==9) (.k3 1<|.b8 true<|.kb true<|.rt true)<|.k3 1<|.cs (a0==10) (.k3 2<|.b5 true<|.kb true<|.rt true)<|.k3 2<|.cs (a0==11) (.k3 3<|.b3 true<|.rt true)<|.k3 3<|.cs (a0==12) (.k3 4<|.rt true)<|.k3 4<|.rt (a0==13)
def Zac7:LF Empty Bool := .z0 174 [.t 2] wB
def Z90:=fun a0=>Zac7.run (Zac6 a0)
theorem Zaa5(a0){r}(h:Z90 a0=some r):Fn PR 174 [wI a0] (wB r):=Zac7.fn h
def Z43(a0:Int):LT Empty Bool:=
.call (Zags a0) fun x1=>.cs (!(x1==([]:By))) (.k2 0<|.call (Zaa5 a0) fun x4=>.k2 0<|.cs (!x4) (.k2 1<|.kg 0<|.kg 1<|.kg 0<|.rt true)<|.k2 1<|.kg 0<|.kg 1<|.kg 0<|.rt (a0==9))<|.k5 0<|.kg 0<|.rt false
def Z44:LF Empty Bool := .z0 175 [.t 2] wB
def Zzl:=fun a0=>Z44.run (Z43 a0)
theorem Zai3(a0){r}(h:Zzl a0=some r):Fn PR 175 [wI a0] (wB r):=Z44.fn h
inductive Z2h where
 | L0 (E0:Zc3)
def Zyd(E0:Zc3):LT Z2h Bool:=
.call (Zai3 E0.When) fun x1=>.br (!x1) (.rt (Z5 (Zo E0.Filter) (Zo (⟨0,0,0,0,0,0,0,([]:By),0,0,(⟨0,0⟩:Za),(⟨0,0⟩:Za),(⟨0,0⟩:Za)⟩:Zc))))<|.br (E0.When==9) (.call (Zid E0.Filter) fun x5=>.cs x5 (.k5 2<|.kg 2<|.rt (E0.Filter.Zone==5))<|.k5 2<|.kg 2<|.rt false)<|.call (Zid E0.Filter) fun x8=>.cs x8 (.k5 2<|.kg 2<|.rt (E0.Filter.Zone==0))<|.k5 2<|.kg 2<|.rt false
def Zavf(a0:Zc3):LT Z2h Bool:=
.lb 1001<|.call (Zags a0.When) fun x1=>.cs (x1==([]:By)) (.k4 0<|.b8 true<|.b3 true<|.kn [0]<|.rt false)<|.k4 0<|.cs (decide (a0.Who < 0)) (.k4 1<|.b5 true<|.b2 true<|.kn [0]<|.rt false)<|.k4 1<|.cs (decide (a0.Who > 2)) (.k5 2<|.k2 2<|.kn [0]<|.rt false)<|.k3 2<|.call (Zaa5 a0.When) fun x6=>.k2 2<|.cs (!x6) (.k3 3<|.kg 2<|.kg 3<|.kg 2<|.br (a0.Who != 0) (.rt false)<|.jn 0 (.L0 a0) [.relab 1001 3000] (Zyd a0))<|.k3 3<|.kg 2<|.kg 3<|.kg 2<|.kn [0]<|.jn 0 (.L0 a0) [.relab 1001 3000] (Zyd a0)
def Zavg:LF Z2h Bool := .m0 125 [.t 2] wB fun | .L0 E0=>([1,1],⟨50,[(1,.bptr 3000 0)],[(3000,.box (bx (Zch E0)))]⟩,Zyd E0)
def Zavh:=fun a0=>Zavg.run (Zavf a0)
theorem Za4b(a0){r}(h:Zavh a0=some r):Fn PR 125 [wA (Zch a0)] (wB r):=Zavg.fn h
def Zagt(a0:Zc):LT Empty Bool:=
.lb 1001<|.call (Zid a0) fun x1=>.cs x1 (.k4 0<|.rt (a0.Zone==0))<|.k4 0<|.rt false
def Zagu:LF Empty Bool := .z0 178 [.t 2] wB
def Zac8:=fun a0=>Zagu.run (Zagt a0)
theorem Z2i(a0){r}(h:Zac8 a0=some r):Fn PR 178 [wA (Zo a0)] (wB r):=Zagu.fn h
def Zagv(a0:Za7):LT Empty Bool:=
.lb 1001<|.cs (a0.Who != 0) (.k5 0<|.kn [0]<|.rt false)<|.k3 0<|.call (Z2i a0.Filter) fun x2=>.k2 0<|.br (!x2) (.rt false)<|.br (a0.Do==5) (.cs (a0.N==0) (.k4 3<|.cs (a0.Counter==0) (.k4 4<|.cs (a0.Zone==1) (.k3 5<|.kg 4<|.kg 5<|.kg 4<|.b3 true<|.kg 4<|.kb true<|.kg 4<|.rt true)<|.k3 5<|.kg 4<|.kg 5<|.kg 4<|.cs (a0.Zone==2) (.k3 6<|.kg 4<|.kg 6<|.kg 4<|.rt true)<|.k3 6<|.kg 4<|.kg 6<|.kg 4<|.rt (a0.Zone==4))<|.k8 4<|.rt false)<|.k4 3<|.b8 false<|.rt false)<|.br (a0.Do==6) (.cs (a0.N==0) (.k4 4<|.cs (a0.Counter==0) (.k4 5<|.rt (a0.Zone==0))<|.k4 5<|.rt false)<|.k4 4<|.b4 false<|.rt false)<|.br (a0.Do==7) (.cs (a0.Zone==0) (.k4 5<|.cs (decide (a0.N>=1)) (.k4 6<|.cs (decide (a0.N<=99)) (.k4 7<|.cs (decide (a0.Counter>=0)) (.k4 8<|.rt (decide (a0.Counter < 3)))<|.k4 8<|.rt false)<|.k4 7<|.b4 false<|.rt false)<|.k4 6<|.b8 false<|.rt false)<|.k4 5<|.b8 false<|.b4 false<|.rt false)<|.rt false
def Zagw:LF Empty Bool := .z0 176 [.t 2] wB
def Zac9:=fun a0=>Zagw.run (Zagv a0)
theorem Zavi(a0){r}(h:Zac9 a0=some r):Fn PR 176 [wA (Zbk a0)] (wB r):=Zagw.fn h
def Zagx(a0:Za7):LT Empty Bool:=
.lb 1001<|.cs (a0.Zone != 0) (.k4 0<|.kn [0]<|.rt false)<|.k4 0<|.br (a0.Counter != 0) (.rt false)<|.cs (a0.Do==2) (.k4 2<|.kn [0]<|.cs (decide (a0.N>=1)) (.k4 3<|.rt (decide (a0.N<=99)))<|.k4 3<|.rt false)<|.k4 2<|.br (a0.Do==4) (.cs (decide (a0.N>=1)) (.k4 4<|.rt (decide (a0.N<=99)))<|.k4 4<|.rt false)<|.rt (a0.N==0)
def Zagy:LF Empty Bool := .z0 177 [.t 2] wB
def Zada:=fun a0=>Zagy.run (Zagx a0)
theorem Zavj(a0){r}(h:Zada a0=some r):Fn PR 177 [wA (Zbk a0)] (wB r):=Zagy.fn h
inductive Zsy where
 | L0 (E0:Za7) (v3:Bool) (v4:Bool)
 | L1 (E0:Za7) (v3:Bool)
 | L2 (E0:Za7) (v3:Bool) (v4:Bool) (v109:Bool)
def Ztc(E0:Za7)(v3:Bool)(v4:Bool)(v109:Bool):LT Zsy Bool:=
.br v109 (.cs v4 (.k4 1<|.cs (decide (E0.Who>=0)) (.k4 2<|.cs (decide (E0.Who<=2)) (.k2 3<|.rt v3)<|.k2 3<|.rt false)<|.k4 2<|.b2 false<|.rt false)<|.k4 1<|.b5 false<|.kb false<|.rt false)<|.rt false
def Zpe(E0:Za7)(v3:Bool):LT Zsy Bool:=
.cs (E0.Who==0) (.k3 0<|.call (Z2i E0.Filter) fun x2=>.kg 0<|.cs x2 (.k8 1<|.rt true)<|.k4 1<|.cs (E0.Who==1) (.k3 2<|.kg 1<|.kg 2<|.kg 1<|.kb true<|.kg 1<|.kb true<|.kg 1<|.rt v3)<|.k3 2<|.kg 1<|.kg 2<|.kg 1<|.cs (E0.Who==2) (.kg 3<|.kg 1<|.kg 3<|.kg 1<|.rt v3)<|.kg 3<|.kg 1<|.kg 3<|.kg 1<|.rt false)<|.k4 0<|.b4 false<|.cs (E0.Who==1) (.k3 1<|.kb false<|.kg 1<|.kb false<|.kb true<|.kb false<|.kb true<|.kb false<|.rt v3)<|.k3 1<|.kb false<|.kg 1<|.kb false<|.cs (E0.Who==2) (.kg 2<|.kb false<|.kg 2<|.kb false<|.rt v3)<|.kg 2<|.kb false<|.kg 2<|.kb false<|.rt false
def Ztd(E0:Za7)(v3:Bool)(v4:Bool):LT Zsy Bool:=
.br (E0.On==1) (.cs (E0.Do != 1) (.k4 1<|.cs (E0.Do != 2) (.k4 2<|.cs (E0.Do != 3) (.k4 3<|.br (E0.Do != 4) (.rt false)<|.j0 (.L1 E0 v3) (Zpe E0 v3))<|.k4 3<|.kn [0]<|.j0 (.L1 E0 v3) (Zpe E0 v3))<|.k4 2<|.b4 false<|.kn [0]<|.j0 (.L1 E0 v3) (Zpe E0 v3))<|.k4 1<|.b8 false<|.kn [0]<|.j0 (.L1 E0 v3) (Zpe E0 v3))<|.br (E0.On==8) (.cs v4 (.k4 2<|.cs (E0.Who==0) (.k3 3<|.call (Z2i E0.Filter) fun x9=>.kg 3<|.rt x9)<|.k4 3<|.rt false)<|.k4 2<|.b4 false<|.rt false)<|.br (E0.On==3) (.cs (E0.Do==4) (.k4 3<|.b4 true<|.cs (decide (E0.Who>=0)) (.k4 4<|.cs (decide (E0.Who<=2)) (.k2 5<|.rt v3)<|.k2 5<|.rt false)<|.k4 4<|.b2 false<|.rt false)<|.k4 3<|.cs (E0.Do==8) (.k4 4<|.cs (decide (E0.Who>=0)) (.k4 5<|.cs (decide (E0.Who<=2)) (.k2 6<|.rt v3)<|.k2 6<|.rt false)<|.k4 5<|.b2 false<|.rt false)<|.k4 4<|.b5 false<|.kb false<|.rt false)<|.br (E0.On==4) (.j0 (.L2 E0 v3 v4 (E0.On==4)) (Ztc E0 v3 v4 (E0.On==4)))<|.br (E0.On==5) (.j0 (.L2 E0 v3 v4 (E0.On==5)) (Ztc E0 v3 v4 (E0.On==5)))<|.j0 (.L2 E0 v3 v4 (E0.On==10)) (Ztc E0 v3 v4 (E0.On==10))
def Zavk(a0:Za7):LT Zsy Bool:=
.lb 1001<|.br (a0.On==2) (.call (Zavi a0) fun x2=>.rt x2)<|.call (Zavj a0) fun x4=>.br (!x4) (.rt false)<|.cs (a0.Do==3) (.k4 2<|.b4 true<|.jn 0 (.L0 a0 (Z5 (Zo a0.Filter) (Zo (⟨0,0,0,0,0,0,0,([]:By),0,0,(⟨0,0⟩:Za),(⟨0,0⟩:Za),(⟨0,0⟩:Za)⟩:Zc))) true) [.relab 1001 3000] (Ztd a0 (Z5 (Zo a0.Filter) (Zo (⟨0,0,0,0,0,0,0,([]:By),0,0,(⟨0,0⟩:Za),(⟨0,0⟩:Za),(⟨0,0⟩:Za)⟩:Zc))) true))<|.k4 2<|.cs (a0.Do==4) (.k4 3<|.jn 0 (.L0 a0 (Z5 (Zo a0.Filter) (Zo (⟨0,0,0,0,0,0,0,([]:By),0,0,(⟨0,0⟩:Za),(⟨0,0⟩:Za),(⟨0,0⟩:Za)⟩:Zc))) true) [.relab 1001 3000] (Ztd a0 (Z5 (Zo a0.Filter) (Zo (⟨0,0,0,0,0,0,0,([]:By),0,0,(⟨0,0⟩:Za),(⟨0,0⟩:Za),(⟨0,0⟩:Za)⟩:Zc))) true))<|.k4 3<|.jn 0 (.L0 a0 (Z5 (Zo a0.Filter) (Zo (⟨0,0,0,0,0,0,0,([]:By),0,0,(⟨0,0⟩:Za),(⟨0,0⟩:Za),(⟨0,0⟩:Za)⟩:Zc))) (a0.Do==8)) [.relab 1001 3000] (Ztd a0 (Z5 (Zo a0.Filter) (Zo (⟨0,0,0,0,0,0,0,([]:By),0,0,(⟨0,0⟩:Za),(⟨0,0⟩:Za),(⟨0,0⟩:Za)⟩:Zc))) (a0.Do==8))
def Zavl:LF Zsy Bool := .m0 126 [.t 2] wB fun | .L0 E0 v3 v4=>([1,1,1,1,1],⟨127,[(1,.bptr 3000 0),(3,wB v3),(4,wB v4)],[(3000,.box (bx (Zbk E0)))]⟩,Ztd E0 v3 v4) | .L1 E0 v3=>([1,1,1,1,1,0,1,4,1,2,1],⟨127,[(1,.bptr 3000 0),(3,wB v3)],[(3000,.box (bx (Zbk E0)))]⟩,Zpe E0 v3) | .L2 E0 v3 v4 v109=>([1,1,1,1,1,0,1,4,1,3,1,3,1,3,1],⟨127,[(1,.bptr 3000 0),(3,wB v3),(4,wB v4),(109,wB v109)],[(3000,.box (bx (Zbk E0)))]⟩,Ztc E0 v3 v4 v109)
def Zavm:=fun a0=>Zavl.run (Zavk a0)
theorem Za4c(a0){r}(h:Zavm a0=some r):Fn PR 126 [wA (Zbk a0)] (wB r):=Zavl.fn h
def Zamb(a0:Zba):LT Empty Bool:=
.lb 1001<|.br (!a0.Object) (.cs a0.Player (.k5 1<|.rt (Z5 (Zo a0.Filter) (Zo (⟨0,0,0,0,0,0,0,([]:By),0,0,(⟨0,0⟩:Za),(⟨0,0⟩:Za),(⟨0,0⟩:Za)⟩:Zc))))<|.k5 1<|.rt false)<|.call (Zid a0.Filter) fun x3=>.cs x3 (.k3 1<|.cs (a0.Filter.Zone==0) (.k2 2<|.kg 1<|.kg 2<|.kg 1<|.b2 true<|.kg 1<|.kb true<|.kg 1<|.rt true)<|.k2 2<|.kg 1<|.kg 2<|.kg 1<|.cs (a0.Filter.Zone==3) (.k2 3<|.kg 1<|.kg 3<|.kg 1<|.rt true)<|.k2 3<|.kg 1<|.kg 3<|.kg 1<|.rt (a0.Filter.Zone==5))<|.k5 1<|.k2 1<|.rt false
def Zamc:LF Empty Bool := .z0 179 [.t 2] wB
def Zai4:=fun a0=>Zamc.run (Zamb a0)
theorem Zayv(a0){r}(h:Zai4 a0=some r):Fn PR 179 [wA (Zab a0)] (wB r):=Zamc.fn h
inductive Zrn where
 | L0 (v0:List Zba) (v3:Int)
def Z2j(v0:List Zba)(v3:Int):LT Zrn Bool:=
.len Zab v0<|.br (decide (v3 < (v0.length:Int))) (.idx Zab v0 v3 fun x3=>.call (Zayv x3) fun x5=>.br (!x5) (.rt false)<|.g0 (.L0 v0 (IntKind.wrap .i64 (v3+1))))<|.len Zab v0<|.rt (decide ((v0.length:Int)<=4))
def Zagz(a0:List Zba):LT Zrn Bool:=
.g0 (.L0 a0 0)
def Zag0:LF Zrn Bool := .m0 127 [.t 2] wB fun | .L0 v0 v3=>([1,0,1,4],⟨19,[(0,wL Zab v0),(3,wI v3)],[]⟩,Z2j v0 v3)
def Zadb:=fun a0=>Zag0.run (Zagz a0)
theorem Zavn(a0){r}(h:Zadb a0=some r):Fn PR 127 [wL Zab a0] (wB r):=Zag0.fn h
def Zamd(a0:Int):LT Empty (By):=
.cs (decide (a0 < 1)) (.k3 0<|.kn [0]<|.rt ([]:By))<|.k3 0<|.br (decide (a0 > 26)) (.rt ([]:By))<|.dr [.lit]<|.idx cS [([100,97,109,97,103,101]:By),([100,101,115,116,114,111,121]:By),([109,111,118,101]:By),([100,114,97,119]:By),([100,105,115,99,97,114,100]:By),([103,97,105,110]:By),([108,111,115,101]:By),([116,97,112]:By),([117,110,116,97,112]:By),([112,117,116]:By),([116,97,107,101]:By),([99,114,101,97,116,101]:By),([109,111,100]:By),([109,97,110,97]:By),([99,111,117,110,116,101,114]:By),([99,111,112,121]:By),([98,101,99,111,109,101]:By),([115,97,99,114,105,102,105,99,101]:By),([109,105,108,108]:By),([115,99,114,121]:By),([115,101,97,114,99,104]:By),([115,104,105,101,108,100]:By),([116,117,114,110]:By),([119,105,110]:By),([100,101,102,101,97,116]:By),([118,101,110,111,109]:By)] (IntKind.wrap .i64 (a0 - 1)) fun x6=>.rt x6
def Zame:LF Empty (By) := .z0 221 [.t 2] wS
def Zai5:=fun a0=>Zame.run (Zamd a0)
theorem Zayw(a0){r}(h:Zai5 a0=some r):Fn PR 221 [wI a0] (wS r):=Zame.fn h
inductive Zqf where
 | L0 (v3:Int) (v4:Bool)
 | L1 (v3:Int) (v14:Bool)
def Zro(v3:Int)(v14:Bool):LT Zqf (By):=
.br v14 (.rt ([114,107,97]:By))<|.br (v3==12) (.rt ([114,99,97]:By))<|.br (v3==13) (.rt ([114,109]:By))<|.br (v3==14) (.rt ([112]:By))<|.br (v3==18) (.rt ([114,97,102]:By))<|.br (v3==20) (.rt ([97]:By))<|.br (v3==21) (.rt ([102]:By))<|.br (v3==23) (.kn [8]<|.rt ([]:By))<|.br (v3==24) (.rt ([]:By))<|.rt ([114,97]:By)
def Zgx(v3:Int)(v4:Bool):LT Zqf (By):=
.br v4 (.rt ([114]:By))<|.br (v3==3) (.rt ([114,122]:By))<|.br (v3==10) (.j0 (.L1 v3 (v3==10)) (Zro v3 (v3==10)))<|.j0 (.L1 v3 (v3==11)) (Zro v3 (v3==11))
def Zamf(a0:Int):LT Zqf (By):=
.br (a0==2) (.j0 (.L0 a0 (a0==2)) (Zgx a0 (a0==2)))<|.br (a0==8) (.j0 (.L0 a0 (a0==8)) (Zgx a0 (a0==8)))<|.br (a0==9) (.j0 (.L0 a0 (a0==9)) (Zgx a0 (a0==9)))<|.br (a0==15) (.j0 (.L0 a0 (a0==15)) (Zgx a0 (a0==15)))<|.br (a0==16) (.j0 (.L0 a0 (a0==16)) (Zgx a0 (a0==16)))<|.br (a0==17) (.j0 (.L0 a0 (a0==17)) (Zgx a0 (a0==17)))<|.j0 (.L0 a0 (a0==25)) (Zgx a0 (a0==25))
def Zamg:LF Zqf (By) := .m0 257 [.t 2] wS fun | .L0 v3 v4=>([1,0,1,4,1],⟨32,[(3,wI v3),(4,wB v4)],[]⟩,Zgx v3 v4) | .L1 v3 v14=>([1,0,1,4,1,3,1,3,1],⟨32,[(3,wI v3),(14,wB v14)],[]⟩,Zro v3 v14)
def Zai6:=fun a0=>Zamg.run (Zamf a0)
theorem Zayx(a0){r}(h:Zai6 a0=some r):Fn PR 257 [wI a0] (wS r):=Zamg.fn h
inductive Zuh where
 | L0 (v1:Int) (v5:By) (v6:Int)
def Z6h(v1:Int)(v5:By)(v6:Int):LT Zuh Bool:=
.lenS v5<|.br (decide (v6 < (v5.length:Int))) (.idxS v5 v6 fun x3=>.br ((UInt8.toNat x3:Int)==v1) (.rt true)<|.g0 (.L0 v1 v5 (IntKind.wrap .i64 (v6+1))))<|.rt false
def Zamh(a0:Int)(a1:Int):LT Zuh Bool:=
.call (Zayx a0) fun x1=>.g0 (.L0 a1 x1 0)
def Zami:LF Zuh Bool := .m0 222 [.t 4] wB fun | .L0 v1 v5 v6=>([1,1,0,1,4],⟨20,[(1,.t (.int .u8 v1)),(5,wS v5),(6,wI v6)],[]⟩,Z6h v1 v5 v6)
def Zai7:=fun a0 a1=>Zami.run (Zamh a0 a1)
theorem Zjw(a0)(a1){r}(h:Zai7 a0 a1=some r):Fn PR 222 [wI a0,.t (.int .u8 a1)] (wB r):=Zami.fn h
def Z8b(a0:Int):LT Empty Bool:=
.cs (a0==3) (.k3 0<|.rt true)<|.k3 0<|.rt (a0==8)
def Z8c:LF Empty Bool := .z0 258 [.t 2] wB
def Z2k:=fun a0=>Z8c.run (Z8b a0)
theorem Zamj(a0){r}(h:Z2k a0=some r):Fn PR 258 [wI a0] (wB r):=Z8c.fn h
inductive Zwl where
 | L0 (v1:Int) (E0:Zhb)
 | L1 (E0:Zhb)
def Zye(E0:Zhb):LT Zwl Bool:=
.br (E0.Kind==4) (.call (Zid E0.Filter) fun x2=>.rt x2)<|.rt (Z5 (Zo E0.Filter) (Zo (⟨0,0,0,0,0,0,0,([]:By),0,0,(⟨0,0⟩:Za),(⟨0,0⟩:Za),(⟨0,0⟩:Za)⟩:Zc)))
def Zyf(v1:Int)(E0:Zhb):LT Zwl Bool:=
.cs (decide (E0.Kind < 1)) (.k4 0<|.kn [0]<|.rt false)<|.k4 0<|.br (decide (E0.Kind > 8)) (.rt false)<|.call (Zamj E0.Kind) fun x3=>.br x3 (.cs (decide (E0.N < 1)) (.k5 3<|.kn [0]<|.rt false)<|.k5 3<|.br (decide (E0.N > v1)) (.rt false)<|.j0 (.L1 E0) (Zye E0))<|.br (E0.N != 0) (.rt false)<|.j0 (.L1 E0) (Zye E0)
def Zavo(a0:Zhb)(a1:Int):LT Zwl Bool:=
.lb 1002<|.br (decide (a1 > 4)) (.jn 0 (.L0 4 a0) [.relab 1002 3000] (Zyf 4 a0))<|.jn 0 (.L0 a1 a0) [.relab 1002 3000] (Zyf a1 a0)
def Zavp:LF Zwl Bool := .m0 223 [.t 4] wB fun | .L0 v1 E0=>([1,1],⟨40,[(1,wI v1),(2,.bptr 3000 0)],[(3000,.box (bx (Zdu E0)))]⟩,Zyf v1 E0) | .L1 E0=>([1,1,1,1],⟨40,[(2,.bptr 3000 0)],[(3000,.box (bx (Zdu E0)))]⟩,Zye E0)
def Zavq:=fun a0 a1=>Zavp.run (Zavo a0 a1)
theorem Za4d(a0)(a1){r}(h:Zavq a0 a1=some r):Fn PR 223 [wA (Zdu a0),wI a1] (wB r):=Zavp.fn h
def Zamk(a0:Int):LT Empty (By):=
.br (a0==0) (.rt ([112,108,117,115]:By))<|.br (a0==1) (.rt ([109,105,110,117,115]:By))<|.br (a0==2) (.rt ([99,104,97,114,103,101]:By))<|.rt ([]:By)
def Zaml:LF Empty (By) := .z0 224 [.t 2] wS
def Zai8:=fun a0=>Zaml.run (Zamk a0)
theorem Zag1(a0){r}(h:Zai8 a0=some r):Fn PR 224 [wI a0] (wS r):=Zaml.fn h
def Zavr(a0:Zbs):LT Empty Bool:=
.lb 1001<|.lb 1003<|.br (a0.Kind==0) (.cs (decide (a0.N < 0)) (.k4 1<|.kn [0]<|.rt false)<|.k4 1<|.br (decide (a0.N > 1000000)) (.rt false)<|.cs (decide (a0.Kind>=0)) (.k4 3<|.cs (decide (a0.Kind<=7)) (.k5 4<|.kg 4<|.rt (Z5 (Zaq (⟨a0.Kind,0,a0.Counter,a0.Filter⟩:Zbs)) (Zaq (⟨a0.Kind,0,0,(⟨0,0,0,0,0,0,0,([]:By),0,0,(⟨0,0⟩:Za),(⟨0,0⟩:Za),(⟨0,0⟩:Za)⟩:Zc)⟩:Zbs))))<|.k5 4<|.kg 4<|.rt false)<|.k4 3<|.b5 false<|.kb false<|.rt false)<|.br (a0.Kind==2) (.cs (decide (a0.N < 1)) (.k4 2<|.b5 true<|.kn [0]<|.rt false)<|.k4 2<|.cs (decide (a0.N > 99)) (.k5 3<|.kn [0]<|.rt false)<|.k3 3<|.call (Zid a0.Filter) fun x9=>.k2 3<|.br (!x9) (.rt false)<|.cs (decide (a0.Kind>=0)) (.k4 5<|.cs (decide (a0.Kind<=7)) (.k5 6<|.kg 6<|.rt (Z5 (Zaq (⟨a0.Kind,0,a0.Counter,(⟨0,0,0,0,0,0,0,([]:By),0,0,(⟨0,0⟩:Za),(⟨0,0⟩:Za),(⟨0,0⟩:Za)⟩:Zc)⟩:Zbs)) (Zaq (⟨a0.Kind,0,0,(⟨0,0,0,0,0,0,0,([]:By),0,0,(⟨0,0⟩:Za),(⟨0,0⟩:Za),(⟨0,0⟩:Za)⟩:Zc)⟩:Zbs))))<|.k5 6<|.kg 6<|.rt false)<|.k4 5<|.b5 false<|.kb false<|.rt false)<|.br (a0.Kind==4) (.call (Zag1 a0.Counter) fun x15=>.br (x15==([]:By)) (.rt false)<|.cs (decide (a0.Kind>=0)) (.k4 4<|.cs (decide (a0.Kind<=7)) (.k5 5<|.kg 5<|.rt (Z5 (Zaq (⟨a0.Kind,a0.N,0,a0.Filter⟩:Zbs)) (Zaq (⟨a0.Kind,0,0,(⟨0,0,0,0,0,0,0,([]:By),0,0,(⟨0,0⟩:Za),(⟨0,0⟩:Za),(⟨0,0⟩:Za)⟩:Zc)⟩:Zbs))))<|.k5 5<|.kg 5<|.rt false)<|.k4 4<|.b5 false<|.kb false<|.rt false)<|.cs (decide (a0.Kind>=0)) (.k4 3<|.cs (decide (a0.Kind<=7)) (.k5 4<|.kg 4<|.rt (Z5 (Zaq a0) (Zaq (⟨a0.Kind,0,0,(⟨0,0,0,0,0,0,0,([]:By),0,0,(⟨0,0⟩:Za),(⟨0,0⟩:Za),(⟨0,0⟩:Za)⟩:Zc)⟩:Zbs))))<|.k5 4<|.kg 4<|.rt false)<|.k4 3<|.b5 false<|.kb false<|.rt false
def Zavs:LF Empty Bool := .z0 225 [.t 2] wB
def Zavt:=fun a0=>Zavs.run (Zavr a0)
theorem Za4e(a0){r}(h:Zavt a0=some r):Fn PR 225 [wA (Zaq a0)] (wB r):=Zavs.fn h
def Zamm(a0:List Zi):LT Empty Bool:=
.call (Zug a0) fun x1=>.rt (!(x1==([]:By)))
def Zamn:LF Empty Bool := .z0 226 [.t 2] wB
def Zai9:=fun a0=>Zamn.run (Zamm a0)
theorem Zayy(a0){r}(h:Zai9 a0=some r):Fn PR 226 [wL Zm a0] (wB r):=Zamn.fn h
inductive Zui where
 | L0 (E0:A6 Int) (E1:Zt) (E2:Zt) (v4:Int)
def Z6i(E0:A6 Int)(E1:Zt)(E2:Zt)(v4:Int):LT Zui Zt:=
.br (decide (v4 < 5)) (.idA (Zd.int .i64) (A6.list E0) (IntKind.wrap .i64 (v4+1)) (bx ((cA6 (cI .i64)) E0)) 0 6 fun x4=>.ldC (Zd.int .i64) 16 x4 0<|.idA (Zd.int .i64) (A5.list E2.Color) v4 (bx (Zai E2)) 2 7 fun x6=>.stA (A5.set? E2.Color v4 x4) (fun h=>Za9d (Zd.int .i64) ((bx (Zai E2)).take 2) ((bx (Zai E2)).drop 7) h) fun x8=>.g0 (.L0 E0 E1 (⟨E2.Generic,E2.X,x8⟩:Zt) (IntKind.wrap .i64 (v4+1))))<|.rt E2
def Zamo(a0:A6 Int):LT Zui Zt:=
.lb 1001<|.lb 1002<|.idA (Zd.int .i64) (A6.list a0) 0 (bx ((cA6 (cI .i64)) a0)) 0 6 fun x1=>.ldC (Zd.int .i64) 6 x1 0<|.lb 1003<|.go (.L0 a0 (⟨0,0,(⟨0,0,0,0,0⟩:A5 Int)⟩:Zt) (⟨x1,0,(⟨0,0,0,0,0⟩:A5 Int)⟩:Zt) 0) (tm13 1000 3000)
def Zamp:LF Zui Zt := .m0 260 [.c 2 60 true 7] (fun r=>(wA (Zai r))) fun | .L0 E0 E1 E2 v4=>([1,1,0,1,4],⟨20,[(1,.bptr 3000 0),(2,.bptr 3001 0),(3,.bptr 3002 0),(4,wI v4)],[(3000,.box (bx ((cA6 (cI .i64)) E0))),(3001,.box (bx (Zai E1))),(3002,.box (bx (Zai E2)))]⟩,Z6i E0 E1 E2 v4)
def Zaja:=fun a0=>Zamp.run (Zamo a0)
theorem Zayz(a0){r}(h:Zaja a0=some r):Fn PR 260 [wA ((cA6 (cI .i64)) a0)] (wA (Zai r)):=Zamp.fn h
inductive Znk where
 | L0 (E0:Zt) (v3:By) (v4:Int)
 | L1 (E0:Zt) (v3:By) (v5:Int)
 | L2 (E0:Zt) (v3:By) (v5:Int) (v6:Int)
def Z6j(E0:Zt)(v3:By)(v4:Int):LT Znk (By):=
.br (decide (v4 < E0.X)) (.ok (v3.length+([88]:By).length<=9223372036854775807)<|.g0 (.L0 E0 (v3++([88]:By)) (IntKind.wrap .i64 (v4+1))))<|.br (E0.Generic != 0) (.call (Zog E0.Generic) fun x7=>.ok (v3.length+x7.length<=9223372036854775807)<|.g0 (.L1 E0 (v3++x7) 0))<|.g0 (.L1 E0 v3 0)
def Z6k(E0:Zt)(v3:By)(v5:Int):LT Znk (By):=
.br (decide (v5 < 5)) (.g0 (.L2 E0 v3 v5 0))<|.br (v3==([]:By)) (.rt ([48]:By))<|.rt v3
def Z6l(E0:Zt)(v3:By)(v5:Int)(v6:Int):LT Znk (By):=
.idA (Zd.int .i64) (A5.list E0.Color) v5 (bx (Zai E0)) 2 7 fun x1=>.ldC (Zd.int .i64) 34 x1 0<|.br (decide (v6 < x1)) (.slS ([65,67,74,82,69]:By) v5 (IntKind.wrap .i64 (v5+1)) fun x6=>.ok (v3.length+x6.length<=9223372036854775807)<|.g0 (.L2 E0 (v3++x6) v5 (IntKind.wrap .i64 (v6+1))))<|.g0 (.L1 E0 v3 (IntKind.wrap .i64 (v5+1)))
def Zamq(a0:Zt):LT Znk (By):=
.lb 1001<|.call (Z4p a0) fun x1=>.br (!x1) (.rt ([]:By))<|.go (.L0 a0 ([]:By) 0) [.relab 1001 3000]
def Zamr:LF Znk (By) := .m0 259 [.t 2] wS fun | .L0 E0 v3 v4=>([1,1,1,0,1,4],⟨47,[(1,.bptr 3000 0),(3,wS v3),(4,wI v4)],[(3000,.box (bx (Zai E0)))]⟩,Z6j E0 v3 v4) | .L1 E0 v3 v5=>([1,1,1,1,1,0,1,4],⟨47,[(1,.bptr 3000 0),(3,wS v3),(5,wI v5)],[(3000,.box (bx (Zai E0)))]⟩,Z6k E0 v3 v5) | .L2 E0 v3 v5 v6=>([1,1,1,1,1,0,1,4,5,1,0,4,1,4],⟨47,[(1,.bptr 3000 0),(3,wS v3),(5,wI v5),(6,wI v6)],[(3000,.box (bx (Zai E0)))]⟩,Z6l E0 v3 v5 v6)
def Zajb:=fun a0=>Zamr.run (Zamq a0)
theorem Zay0(a0){r}(h:Zajb a0=some r):Fn PR 259 [wA (Zai a0)] (wS r):=Zamr.fn h
def Z8d(a0:A6 Int):LT Empty (By):=
.lb 1001<|.call (Zayz a0) fun x1=>.call (Zay0 x1) fun x3=>.rt x3
def Z8e:LF Empty (By) := .z0 227 [.t 2] wS
def Z2l:=fun a0=>Z8e.run (Z8d a0)
theorem Zams(a0){r}(h:Z2l a0=some r):Fn PR 227 [wA ((cA6 (cI .i64)) a0)] (wS r):=Z8e.fn h
def Zadc(a0:Int)(a1:Zc):LT Empty Bool:=
.lb 1003<|.br (a0==21) (.call (Zid a1) fun x2=>.cs x2 (.k5 1<|.rt (a1.Zone==2))<|.k5 1<|.rt false)<|.call (Zid a1) fun x5=>.cs x5 (.k5 1<|.rt (a1.Zone==0))<|.k5 1<|.rt false
def Zadd:LF Empty Bool := .z0 228 [.t 4] wB
def Z91:=fun a0 a1=>Zadd.run (Zadc a0 a1)
theorem Zarx(a0)(a1){r}(h:Z91 a0 a1=some r):Fn PR 228 [wI a0,wA (Zo a1)] (wB r):=Zadd.fn h
inductive Ziz where
 | L0 (E0:Zs) (v5:Bool)
 | L1 (E0:Zs) (v5:Bool) (v6:Bool)
 | L2 (E0:Zs) (v5:Bool) (v6:Bool) (v7:Bool)
 | L3 (E0:Zs) (v5:Bool) (v6:Bool) (v7:Bool) (v8:Bool)
 | L4 (E0:Zs) (v5:Bool) (v6:Bool) (v7:Bool) (v8:Bool) (v9:Bool)
 | L5 (E0:Zs) (v5:Bool) (v6:Bool) (v7:Bool) (v8:Bool) (v9:Bool) (v10:Bool)
 | L6 (E0:Zs) (v5:Bool) (v6:Bool) (v7:Bool) (v8:Bool) (v9:Bool) (v10:Bool) (v11:Bool)
 | L7 (v5:Bool) (v6:Bool) (v7:Bool) (v8:Bool) (v9:Bool) (v10:Bool) (v11:Bool) (v12:Bool)
def Zyg(v5:Bool)(v6:Bool)(v7:Bool)(v8:Bool)(v9:Bool)(v10:Bool)(v11:Bool)(v12:Bool):LT Ziz Bool:=
.cs v5 (.k2 0<|.cs v6 (.k2 1<|.cs v7 (.k2 2<|.cs v8 (.k2 3<|.cs v9 (.k2 4<|.cs v10 (.k2 5<|.cs v11 (.k2 6<|.rt v12)<|.k2 6<|.rt false)<|.k2 5<|.b2 false<|.rt false)<|.k2 4<|.b4 false<|.rt false)<|.k2 3<|.b5 false<|.kb false<|.rt false)<|.k2 2<|.b8 false<|.rt false)<|.k2 1<|.b8 false<|.b2 false<|.rt false)<|.k2 0<|.b8 false<|.b4 false<|.rt false
def Zte(E0:Zs)(v5:Bool)(v6:Bool)(v7:Bool)(v8:Bool)(v9:Bool)(v10:Bool)(v11:Bool):LT Ziz Bool:=
.call (Zjw E0.Op 102) fun x1=>.br x1 (.call (Zarx E0.Op E0.Filter) fun x4=>.j0 (.L7 v5 v6 v7 v8 v9 v10 v11 x4) (Zyg v5 v6 v7 v8 v9 v10 v11 x4))<|.j0 (.L7 v5 v6 v7 v8 v9 v10 v11 (Z5 (Zo E0.Filter) (Zo (⟨0,0,0,0,0,0,0,([]:By),0,0,(⟨0,0⟩:Za),(⟨0,0⟩:Za),(⟨0,0⟩:Za)⟩:Zc)))) (Zyg v5 v6 v7 v8 v9 v10 v11 (Z5 (Zo E0.Filter) (Zo (⟨0,0,0,0,0,0,0,([]:By),0,0,(⟨0,0⟩:Za),(⟨0,0⟩:Za),(⟨0,0⟩:Za)⟩:Zc))))
def Zyh(E0:Zs)(v5:Bool)(v6:Bool)(v7:Bool)(v8:Bool)(v9:Bool)(v10:Bool):LT Ziz Bool:=
.call (Zjw E0.Op 112) fun x1=>.br x1 (.cs (!(Z5 ((cA6 (cI .i64)) E0.Pool) ((cA6 (cI .i64)) (⟨0,0,0,0,0,0⟩:A6 Int)))) (.k3 1<|.call (Zams E0.Pool) fun x5=>.k2 1<|.j0 (.L6 E0 v5 v6 v7 v8 v9 v10 (!(x5==([]:By)))) (Zte E0 v5 v6 v7 v8 v9 v10 (!(x5==([]:By)))))<|.k5 1<|.j0 (.L6 E0 v5 v6 v7 v8 v9 v10 false) (Zte E0 v5 v6 v7 v8 v9 v10 false))<|.j0 (.L6 E0 v5 v6 v7 v8 v9 v10 (Z5 ((cA6 (cI .i64)) E0.Pool) ((cA6 (cI .i64)) (⟨0,0,0,0,0,0⟩:A6 Int)))) (Zte E0 v5 v6 v7 v8 v9 v10 (Z5 ((cA6 (cI .i64)) E0.Pool) ((cA6 (cI .i64)) (⟨0,0,0,0,0,0⟩:A6 Int))))
def Zyi(E0:Zs)(v5:Bool)(v6:Bool)(v7:Bool)(v8:Bool)(v9:Bool):LT Ziz Bool:=
.len Zm E0.Mods<|.call (Zjw E0.Op 109) fun x2=>.br x2 (.call (Zayy E0.Mods) fun x5=>.j0 (.L5 E0 v5 v6 v7 v8 v9 x5) (Zyh E0 v5 v6 v7 v8 v9 x5))<|.j0 (.L5 E0 v5 v6 v7 v8 v9 ((E0.Mods.length:Int)==0)) (Zyh E0 v5 v6 v7 v8 v9 ((E0.Mods.length:Int)==0))
def Zyj(E0:Zs)(v5:Bool)(v6:Bool)(v7:Bool)(v8:Bool):LT Ziz Bool:=
.call (Zjw E0.Op 97) fun x1=>.br x1 (.call (Za4e E0.Amount) fun x4=>.j0 (.L4 E0 v5 v6 v7 v8 x4) (Zyi E0 v5 v6 v7 v8 x4))<|.j0 (.L4 E0 v5 v6 v7 v8 (Z5 (Zaq E0.Amount) (Zaq (⟨0,0,0,(⟨0,0,0,0,0,0,0,([]:By),0,0,(⟨0,0⟩:Za),(⟨0,0⟩:Za),(⟨0,0⟩:Za)⟩:Zc)⟩:Zbs)))) (Zyi E0 v5 v6 v7 v8 (Z5 (Zaq E0.Amount) (Zaq (⟨0,0,0,(⟨0,0,0,0,0,0,0,([]:By),0,0,(⟨0,0⟩:Za),(⟨0,0⟩:Za),(⟨0,0⟩:Za)⟩:Zc)⟩:Zbs))))
def Ztf(E0:Zs)(v5:Bool)(v6:Bool)(v7:Bool):LT Ziz Bool:=
.call (Zjw E0.Op 99) fun x1=>.br x1 (.call (Zacx E0.Card) fun x4=>.j0 (.L3 E0 v5 v6 v7 x4) (Zyj E0 v5 v6 v7 x4))<|.j0 (.L3 E0 v5 v6 v7 (E0.Card==([]:By))) (Zyj E0 v5 v6 v7 (E0.Card==([]:By)))
def Zpf(E0:Zs)(v5:Bool)(v6:Bool):LT Ziz Bool:=
.cs (E0.Counter==0) (.k5 0<|.kg 0<|.j0 (.L2 E0 v5 v6 true) (Ztf E0 v5 v6 true))<|.k3 0<|.call (Zjw E0.Op 107) fun x2=>.kg 0<|.cs x2 (.k3 1<|.call (Zag1 E0.Counter) fun x5=>.kg 1<|.kg 0<|.kg 1<|.kg 0<|.j0 (.L2 E0 v5 v6 (!(x5==([]:By)))) (Ztf E0 v5 v6 (!(x5==([]:By)))))<|.k4 1<|.kg 0<|.kg 1<|.kg 0<|.j0 (.L2 E0 v5 v6 false) (Ztf E0 v5 v6 false)
def Zyk(E0:Zs)(v5:Bool):LT Ziz Bool:=
.cs (E0.Zone==0) (.k8 0<|.j0 (.L1 E0 v5 true) (Zpf E0 v5 true))<|.k3 0<|.call (Zjw E0.Op 122) fun x2=>.kg 0<|.cs x2 (.k3 1<|.kg 0<|.kg 1<|.kg 0<|.cs (decide (E0.Zone > 0)) (.k3 2<|.kg 0<|.kg 2<|.kg 0<|.j0 (.L1 E0 v5 (decide (E0.Zone<=4))) (Zpf E0 v5 (decide (E0.Zone<=4))))<|.k3 2<|.kg 0<|.kg 2<|.kg 0<|.j0 (.L1 E0 v5 false) (Zpf E0 v5 false))<|.k3 1<|.kg 0<|.kg 1<|.kg 0<|.b3 false<|.kg 0<|.kb false<|.kg 0<|.j0 (.L1 E0 v5 false) (Zpf E0 v5 false)
def Zavu(a0:Zs)(a1:Int):LT Ziz Bool:=
.lb 1002<|.call (Zayw a0.Op) fun x1=>.br (x1==([]:By)) (.rt false)<|.call (Zjw a0.Op 114) fun x4=>.br x4 (.call (Za4d a0.Ref a1) fun x7=>.jn 0 (.L0 a0 x7) [.relab 1002 3000] (Zyk a0 x7))<|.jn 0 (.L0 a0 (Z5 (Zdu a0.Ref) (Zdu (⟨0,0,(⟨0,0,0,0,0,0,0,([]:By),0,0,(⟨0,0⟩:Za),(⟨0,0⟩:Za),(⟨0,0⟩:Za)⟩:Zc)⟩:Zhb)))) [.relab 1002 3000] (Zyk a0 (Z5 (Zdu a0.Ref) (Zdu (⟨0,0,(⟨0,0,0,0,0,0,0,([]:By),0,0,(⟨0,0⟩:Za),(⟨0,0⟩:Za),(⟨0,0⟩:Za)⟩:Zc)⟩:Zhb))))
def Zavv:LF Ziz Bool := .m0 180 [.t 4] wB fun | .L0 E0 v5=>([1,1,1,1],⟨138,[(2,.bptr 3000 0),(5,wB v5)],[(3000,.box (bx (Zq E0)))]⟩,Zyk E0 v5) | .L1 E0 v5 v6=>([1,1,1,1,1],⟨138,[(2,.bptr 3000 0),(5,wB v5),(6,wB v6)],[(3000,.box (bx (Zq E0)))]⟩,Zpf E0 v5 v6) | .L2 E0 v5 v6 v7=>([1,1,1,1,1,1],⟨138,[(2,.bptr 3000 0),(5,wB v5),(6,wB v6),(7,wB v7)],[(3000,.box (bx (Zq E0)))]⟩,Ztf E0 v5 v6 v7) | .L3 E0 v5 v6 v7 v8=>([1,1,1,1,1,1,1,1],⟨138,[(2,.bptr 3000 0),(5,wB v5),(6,wB v6),(7,wB v7),(8,wB v8)],[(3000,.box (bx (Zq E0)))]⟩,Zyj E0 v5 v6 v7 v8) | .L4 E0 v5 v6 v7 v8 v9=>([1,1,1,1,1,1,1,1,1,1],⟨138,[(2,.bptr 3000 0),(5,wB v5),(6,wB v6),(7,wB v7),(8,wB v8),(9,wB v9)],[(3000,.box (bx (Zq E0)))]⟩,Zyi E0 v5 v6 v7 v8 v9) | .L5 E0 v5 v6 v7 v8 v9 v10=>([1,1,1,1,1,1,1,1,1,1,1,1],⟨138,[(2,.bptr 3000 0),(5,wB v5),(6,wB v6),(7,wB v7),(8,wB v8),(9,wB v9),(10,wB v10)],[(3000,.box (bx (Zq E0)))]⟩,Zyh E0 v5 v6 v7 v8 v9 v10) | .L6 E0 v5 v6 v7 v8 v9 v10 v11=>([1,1,1,1,1,1,1,1,1,1,1,1,1,1],⟨138,[(2,.bptr 3000 0),(5,wB v5),(6,wB v6),(7,wB v7),(8,wB v8),(9,wB v9),(10,wB v10),(11,wB v11)],[(3000,.box (bx (Zq E0)))]⟩,Zte E0 v5 v6 v7 v8 v9 v10 v11) | .L7 v5 v6 v7 v8 v9 v10 v11 v12=>([1,1,1,1,1,1,1,1,1,1,1,1,1,1,1,1],⟨138,[(5,wB v5),(6,wB v6),(7,wB v7),(8,wB v8),(9,wB v9),(10,wB v10),(11,wB v11),(12,wB v12)],[]⟩,Zyg v5 v6 v7 v8 v9 v10 v11 v12)
def Zavw:=fun a0 a1=>Zavv.run (Zavu a0 a1)
theorem Za4f(a0)(a1){r}(h:Zavw a0 a1=some r):Fn PR 180 [wA (Zq a0),wI a1] (wB r):=Zavv.fn h
inductive Znx where
 | L0 (v0:List Zs) (v1:Int) (v5:Int)
def Zwm(v0:List Zs)(v1:Int)(v5:Int):LT Znx Bool:=
.len Zq v0<|.br (decide (v5 < (v0.length:Int))) (.idx Zq v0 v5 fun x3=>.call (Za4f x3 v1) fun x5=>.br (!x5) (.rt false)<|.g0 (.L0 v0 v1 (IntKind.wrap .i64 (v5+1))))<|.len Zq v0<|.cs (decide ((v0.length:Int)>=1)) (.k2 1<|.len Zq v0<|.k2 1<|.rt (decide ((v0.length:Int)<=8)))<|.k4 1<|.rt false
def Zaa6(a0:List Zs)(a1:Int):LT Znx Bool:=
.g0 (.L0 a0 a1 0)
def Zaa7:LF Znx Bool := .m0 128 [.t 4] wB fun | .L0 v0 v1 v5=>([1,0,1,4],⟨27,[(0,wL Zq v0),(1,wI v1),(5,wI v5)],[]⟩,Zwm v0 v1 v5)
def Z6m:=fun a0 a1=>Zaa7.run (Zaa6 a0 a1)
theorem Zapa(a0)(a1){r}(h:Z6m a0 a1=some r):Fn PR 128 [wL Zq a0,wI a1] (wB r):=Zaa7.fn h
inductive Znl where
 | L0 (E0:Zg) (v3:Bool)
 | L1 (E0:Zg) (v3:Bool)
 | L2 (E0:Zg) (v3:Bool)
 | L3 (E0:Zg) (v3:Bool)
 | L4 (E0:Zg) (v3:Bool)
def Zyl(E0:Zg)(v3:Bool):LT Znl Bool:=
.br v3 (.call (Zavn E0.Specs) fun x2=>.cs x2 (.k5 1<|.len Zab E0.Specs<|.kg 1<|.call (Zapa E0.Effects (E0.Specs.length:Int)) fun x6=>.kg 1<|.rt x6)<|.k5 1<|.k2 1<|.rt false)<|.len Zab E0.Specs<|.cs ((E0.Specs.length:Int)==0) (.k3 1<|.len Zq E0.Effects<|.k2 1<|.rt ((E0.Effects.length:Int)==0))<|.k5 1<|.rt false
def Zym(E0:Zg)(v3:Bool):LT Znl Bool:=
.br (E0.Kind==5) (.call (Za4c E0.Replace) fun x2=>.br (!x2) (.rt false)<|.j0 (.L4 E0 v3) (Zyl E0 v3))<|.br (!(Z5 (Zbk E0.Replace) (Zbk (⟨0,0,(⟨0,0,0,0,0,0,0,([]:By),0,0,(⟨0,0⟩:Za),(⟨0,0⟩:Za),(⟨0,0⟩:Za)⟩:Zc),0,0,0,0⟩:Za7)))) (.rt false)<|.j0 (.L4 E0 v3) (Zyl E0 v3)
def Zyn(E0:Zg)(v3:Bool):LT Znl Bool:=
.br (E0.Kind==4) (.call (Za4b E0.Trigger) fun x2=>.br (!x2) (.rt false)<|.j0 (.L3 E0 v3) (Zym E0 v3))<|.cs (!(Z5 (Zch E0.Trigger) (Zch (⟨0,0,(⟨0,0,0,0,0,0,0,([]:By),0,0,(⟨0,0⟩:Za),(⟨0,0⟩:Za),(⟨0,0⟩:Za)⟩:Zc)⟩:Zc3)))) (.k3 1<|.kn [0]<|.rt false)<|.k3 1<|.br E0.May (.rt false)<|.j0 (.L3 E0 v3) (Zym E0 v3)
def Zyo(E0:Zg)(v3:Bool):LT Znl Bool:=
.br (E0.Kind==3) (.call (Zave E0.Price) fun x2=>.br (!x2) (.rt false)<|.j0 (.L2 E0 v3) (Zyn E0 v3))<|.cs (!(Z5 (Zdz E0.Price) (Zdz (⟨(⟨0,0,(⟨0,0,0,0,0⟩:A5 Int)⟩:Zt),false,false,0⟩:Zic)))) (.k3 1<|.kn [0]<|.rt false)<|.k3 1<|.br E0.Slow (.rt false)<|.j0 (.L2 E0 v3) (Zyn E0 v3)
def Ztg(E0:Zg)(v3:Bool):LT Znl Bool:=
.br (E0.Kind==1) (.call (Zid E0.Filter) fun x2=>.cs (!x2) (.k5 1<|.b5 true<|.kn [0]<|.rt false)<|.k5 1<|.cs (E0.Filter.Zone != 0) (.k5 2<|.kn [0]<|.rt false)<|.k3 2<|.call (Zug E0.Mods) fun x6=>.k2 2<|.br (x6==([]:By)) (.rt false)<|.j0 (.L1 E0 v3) (Zyo E0 v3))<|.cs (!(Z5 (Zo E0.Filter) (Zo (⟨0,0,0,0,0,0,0,([]:By),0,0,(⟨0,0⟩:Za),(⟨0,0⟩:Za),(⟨0,0⟩:Za)⟩:Zc)))) (.k5 1<|.kn [0]<|.rt false)<|.k3 1<|.len Zm E0.Mods<|.k2 1<|.br (decide ((E0.Mods.length:Int) > 0)) (.rt false)<|.j0 (.L1 E0 v3) (Zyo E0 v3)
def Zavx(a0:Zg):LT Znl Bool:=
.lb 1001<|.cs (decide (a0.Kind < 1)) (.k4 0<|.kn [0]<|.rt false)<|.k4 0<|.br (decide (a0.Kind > 5)) (.rt false)<|.cs (a0.Kind==2) (.k4 2<|.b4 true<|.jn 0 (.L0 a0 true) [.relab 1001 3000] (Ztg a0 true))<|.k4 2<|.cs (a0.Kind==3) (.k4 3<|.jn 0 (.L0 a0 true) [.relab 1001 3000] (Ztg a0 true))<|.k4 3<|.jn 0 (.L0 a0 (a0.Kind==4)) [.relab 1001 3000] (Ztg a0 (a0.Kind==4))
def Zavy:LF Znl Bool := .m0 78 [.t 2] wB fun | .L0 E0 v3=>([1,1,1],⟨117,[(1,.bptr 3000 0),(3,wB v3)],[(3000,.box (bx (Zh E0)))]⟩,Ztg E0 v3) | .L1 E0 v3=>([1,1,1,1],⟨117,[(1,.bptr 3000 0),(3,wB v3)],[(3000,.box (bx (Zh E0)))]⟩,Zyo E0 v3) | .L2 E0 v3=>([1,1,1,1,1],⟨117,[(1,.bptr 3000 0),(3,wB v3)],[(3000,.box (bx (Zh E0)))]⟩,Zyn E0 v3) | .L3 E0 v3=>([1,1,1,1,1,1],⟨117,[(1,.bptr 3000 0),(3,wB v3)],[(3000,.box (bx (Zh E0)))]⟩,Zym E0 v3) | .L4 E0 v3=>([1,1,1,1,1,1,1],⟨117,[(1,.bptr 3000 0),(3,wB v3)],[(3000,.box (bx (Zh E0)))]⟩,Zyl E0 v3)
def Zavz:=fun a0=>Zavy.run (Zavx a0)
theorem Z45(a0){r}(h:Zavz a0=some r):Fn PR 78 [wA (Zh a0)] (wB r):=Zavy.fn h
def Zamt(a0:Zn):LT Empty Bool:=
.lb 1001<|.cs (a0.Line.Types==2) (.k5 0<|.rt true)<|.k5 0<|.rt (a0.Line.Types==4)
def Zamu:LF Empty Bool := .z0 79 [.t 2] wB
def Zajc:=fun a0=>Zamu.run (Zamt a0)
theorem Zay1(a0){r}(h:Zajc a0=some r):Fn PR 79 [wA (Z4 a0)] (wB r):=Zamu.fn h
inductive Zwn where
 | L0 (E0:Zn)
 | L1 (E0:Zn) (v3:Int) (v4:Int)
def Zyp(E0:Zn):LT Zwn Bool:=
.g0 (.L1 E0 0 0)
def Zade(E0:Zn)(v3:Int)(v4:Int):LT Zwn Bool:=
.len Zh E0.Abilities<|.br (decide (v4 < (E0.Abilities.length:Int))) (.idx Zh E0.Abilities v4 fun x3=>.call (Z45 x3) fun x5=>.br (!x5) (.rt false)<|.ag Zh x3 0<|.br (x3.Kind==2) (.g0 (.L1 E0 (IntKind.wrap .i64 (v3+1)) (IntKind.wrap .i64 (v4+1))))<|.g0 (.L1 E0 v3 (IntKind.wrap .i64 (v4+1))))<|.call (Zay1 E0) fun x15=>.br x15 (.cs (!E0.Token) (.k4 2<|.cs (E0.Keys==0) (.k3 3<|.len Zh E0.Abilities<|.k2 3<|.cs ((E0.Abilities.length:Int)==1) (.k3 4<|.rt (v3==1))<|.k3 4<|.rt false)<|.k5 3<|.b3 false<|.rt false)<|.k4 2<|.b8 false<|.rt false)<|.cs (v3==0) (.k4 2<|.cs (!E0.Token) (.k5 3<|.kg 2<|.kg 3<|.kg 2<|.cs ((Zbf .and .i64 E0.Line.Types 32)==0) (.k4 4<|.kg 2<|.kg 4<|.kg 2<|.rt true)<|.k4 4<|.kg 2<|.kg 4<|.kg 2<|.rt (Z5 (Zai E0.Cost) (Zai (⟨0,0,(⟨0,0,0,0,0⟩:A5 Int)⟩:Zt))))<|.k5 3<|.kg 2<|.kg 3<|.kg 2<|.b4 false<|.kg 2<|.kb false<|.kg 2<|.rt (Z5 (Zai E0.Cost) (Zai (⟨0,0,(⟨0,0,0,0,0⟩:A5 Int)⟩:Zt))))<|.k8 2<|.rt false
def Zav0(a0:Zn):LT Zwn Bool:=
.lb 1001<|.call (Zacx a0.Name) fun x1=>.cs (!x1) (.k5 0<|.b16 true<|.b2 true<|.kn [0]<|.rt false)<|.k3 0<|.call (Z4p a0.Cost) fun x4=>.k2 0<|.cs (!x4) (.k5 1<|.b8 true<|.b5 true<|.kn [0]<|.rt false)<|.k3 1<|.call (Za39 a0.Line) fun x7=>.k2 1<|.cs (!x7) (.k5 2<|.b8 true<|.kn [0]<|.rt false)<|.k3 2<|.call (Zaq8 a0.Keys) fun x10=>.k2 2<|.cs (!x10) (.k4 3<|.b4 true<|.kn [0]<|.rt false)<|.k4 3<|.cs (decide (a0.Color < 0)) (.k4 4<|.kn [0]<|.rt false)<|.k4 4<|.br (decide (a0.Color > 31)) (.rt false)<|.cs (decide (a0.Power < 0)) (.k4 6<|.b16 true<|.b3 true<|.kn [0]<|.rt false)<|.k4 6<|.cs (decide (a0.Power > 99)) (.k4 7<|.b8 true<|.b5 true<|.b2 true<|.kn [0]<|.rt false)<|.k4 7<|.cs (decide (a0.Tough < 0)) (.k4 8<|.b8 true<|.b3 true<|.kn [0]<|.rt false)<|.k4 8<|.cs (decide (a0.Tough > 99)) (.k5 9<|.kg 9<|.b5 true<|.kn [0]<|.rt false)<|.k2 9<|.call (Zalo a0) fun x19=>.k2 9<|.cs (!x19) (.k4 10<|.cs (a0.Power != 0) (.k3 11<|.kg 10<|.kg 11<|.kg 9<|.kg 10<|.kg 9<|.b5 true<|.kn [0]<|.rt false)<|.k3 11<|.kg 10<|.kg 11<|.kg 9<|.kg 10<|.kg 9<|.cs (a0.Tough != 0) (.k5 12<|.kn [0]<|.rt false)<|.k3 12<|.len Zh a0.Abilities<|.k2 12<|.br (decide ((a0.Abilities.length:Int) > 8)) (.rt false)<|.jn 0 (.L0 a0) [.relab 1001 3000] (Zyp a0))<|.k5 10<|.kg 9<|.kg 10<|.kg 9<|.b3 false<|.len Zh a0.Abilities<|.b2 false<|.br (decide ((a0.Abilities.length:Int) > 8)) (.rt false)<|.jn 0 (.L0 a0) [.relab 1001 3000] (Zyp a0)
def Zav1:LF Zwn Bool := .m0 43 [.t 2] wB fun | .L0 E0=>([1,1,1],⟨139,[(1,.bptr 3000 0)],[(3000,.box (bx (Z4 E0)))]⟩,Zyp E0) | .L1 E0 v3 v4=>([1,1,1,1,0,1,4],⟨139,[(1,.bptr 3000 0),(3,wI v3),(4,wI v4)],[(3000,.box (bx (Z4 E0)))]⟩,Zade E0 v3 v4)
def Zav2:=fun a0=>Zav1.run (Zav0 a0)
theorem Za4g(a0){r}(h:Zav2 a0=some r):Fn PR 43 [wA (Z4 a0)] (wB r):=Zav1.fn h
inductive Zuj where
 | L0 (v0:List Zn) (v1:By) (v5:Int)
def Z6n(v0:List Zn)(v1:By)(v5:Int):LT Zuj Int:=
.len Z4 v0<|.br (decide (v5 < (v0.length:Int))) (.idx Z4 v0 v5 fun x3=>.br (x3.Name==v1) (.rt v5)<|.g0 (.L0 v0 v1 (IntKind.wrap .i64 (v5+1))))<|.rt (-1)
def Zamv(a0:List Zn)(a1:By):LT Zuj Int:=
.g0 (.L0 a0 a1 0)
def Zamw:LF Zuj Int := .m0 44 [.t 4] wI fun | .L0 v0 v1 v5=>([1,0,1,4],⟨20,[(0,wL Z4 v0),(1,wS v1),(5,wI v5)],[]⟩,Z6n v0 v1 v5)
def Zajd:=fun a0 a1=>Zamw.run (Zamv a0 a1)
theorem Zay2(a0)(a1){r}(h:Zajd a0 a1=some r):Fn PR 44 [wL Z4 a0,wS a1] (wI r):=Zamw.fn h
inductive Zrp where
 | L0 (v0:List Zn) (v1:By) (v5:Int)
def Z2m(v0:List Zn)(v1:By)(v5:Int):LT Zrp Bool:=
.len Z4 v0<|.br (decide (v5 < (v0.length:Int))) (.idx Z4 v0 v5 fun x3=>.cs (x3.Name==v1) (.k3 1<|.ag Z4 x3 0<|.k3 1<|.br x3.Token (.rt true)<|.g0 (.L0 v0 v1 (IntKind.wrap .i64 (v5+1))))<|.k5 1<|.kg 1<|.kn [0]<|.g0 (.L0 v0 v1 (IntKind.wrap .i64 (v5+1))))<|.rt false
def Zag2(a0:List Zn)(a1:By):LT Zrp Bool:=
.g0 (.L0 a0 a1 0)
def Zag3:LF Zrp Bool := .m0 80 [.t 4] wB fun | .L0 v0 v1 v5=>([1,0,1,4],⟨26,[(0,wL Z4 v0),(1,wS v1),(5,wI v5)],[]⟩,Z2m v0 v1 v5)
def Zadf:=fun a0 a1=>Zag3.run (Zag2 a0 a1)
theorem Zav3(a0)(a1){r}(h:Zadf a0 a1=some r):Fn PR 80 [wL Z4 a0,wS a1] (wB r):=Zag3.fn h
inductive Zky where
 | L0 (v0:List Zn) (E0:Zn) (v5:Int)
 | L1 (v0:List Zn) (E0:Zn) (v5:Int) (v6:Int)
def Zwo(v0:List Zn)(E0:Zn)(v5:Int):LT Zky Bool:=
.len Zh E0.Abilities<|.br (decide (v5 < (E0.Abilities.length:Int))) (.g0 (.L1 v0 E0 v5 0))<|.rt true
def Zwp(v0:List Zn)(E0:Zn)(v5:Int)(v6:Int):LT Zky Bool:=
.idx Zh E0.Abilities v5 fun x1=>.len Zq x1.Effects<|.br (decide (v6 < (x1.Effects.length:Int))) (.ag Zh x1 0<|.idx Zq x1.Effects v6 fun x5=>.lb 1007<|.cs (x5.Op==12) (.k4 1<|.call (Zav3 v0 x5.Card) fun x8=>.k2 1<|.br (!x8) (.rt false)<|.g0 (.L1 v0 E0 v5 (IntKind.wrap .i64 (v6+1))))<|.k5 1<|.kg 1<|.kn [0]<|.g0 (.L1 v0 E0 v5 (IntKind.wrap .i64 (v6+1))))<|.g0 (.L0 v0 E0 (IntKind.wrap .i64 (v5+1)))
def Zaa8(a0:List Zn)(a1:Zn):LT Zky Bool:=
.lb 1003<|.go (.L0 a0 a1 0) [.relab 1003 3000]
def Zaa9:LF Zky Bool := .m0 45 [.t 4] wB fun | .L0 v0 E0 v5=>([1,0,1,4],⟨45,[(0,wL Z4 v0),(3,.bptr 3000 0),(5,wI v5)],[(3000,.box (bx (Z4 E0)))]⟩,Zwo v0 E0 v5) | .L1 v0 E0 v5 v6=>([1,0,1,4,5,1,0,4,1,4],⟨45,[(0,wL Z4 v0),(3,.bptr 3000 0),(5,wI v5),(6,wI v6)],[(3000,.box (bx (Z4 E0)))]⟩,Zwp v0 E0 v5 v6)
def Z6o:=fun a0 a1=>Zaa9.run (Zaa8 a0 a1)
theorem Zapb(a0)(a1){r}(h:Z6o a0 a1=some r):Fn PR 45 [wL Z4 a0,wA (Z4 a1)] (wB r):=Zaa9.fn h
inductive Zrq where
 | L0 (v0:List Zn) (v4:Int)
def Z2n(v0:List Zn)(v4:Int):LT Zrq (Int×Int):=
.len Z4 v0<|.br (decide (v4 < (v0.length:Int))) (.idx Z4 v0 v4 fun x3=>.call (Za4g x3) fun x5=>.br (!x5) (.rt (v4,9))<|.ag Z4 x3 0<|.call (Zay2 v0 x3.Name) fun x8=>.br (decide (x8 < v4)) (.rt (v4,6))<|.ag Z4 x3 0<|.call (Zapb v0 x3) fun x11=>.br (!x11) (.rt (v4,7))<|.g0 (.L0 v0 (IntKind.wrap .i64 (v4+1))))<|.rt ((-1),0)
def Zag4(a0:List Zn):LT Zrq (Int×Int):=
.len Z4 a0<|.br (decide ((a0.length:Int) > 256)) (.rt ((-1),5))<|.g0 (.L0 a0 0)
def Zag5:LF Zrq (Int×Int) := .m0 28 [.t 2,.t 3] (fun r=>(.tup [wI r.1,wI r.2])) fun | .L0 v0 v4=>([1,1,0,1,4],⟨39,[(0,wL Z4 v0),(4,wI v4)],[]⟩,Z2n v0 v4)
def Zadg:=fun a0=>Zag5.run (Zag4 a0)
theorem Zav4(a0){r}(h:Zadg a0=some r):Fn PR 28 [wL Z4 a0] (.tup [wI r.1,wI r.2]):=Zag5.fn h
def Zav5(a0:Int)(a1:Int)(a2:Int):LT Empty Bool:=
.cs (decide (a0>=a1)) (.k4 0<|.rt (decide (a0<=a2)))<|.k4 0<|.rt false
def Zav6:LF Empty Bool := .z0 46 [.t 6] wB
def Zav7:=fun a0 a1 a2=>Zav6.run (Zav5 a0 a1 a2)
theorem Zfs(a0)(a1)(a2){r}(h:Zav7 a0 a1 a2=some r):Fn PR 46 [wI a0,wI a1,wI a2] (wB r):=Zav6.fn h
inductive Zrr where
 | L0 (E0:A6 Int) (v3:Int)
def Z2o(E0:A6 Int)(v3:Int):LT Zrr Bool:=
.br (decide (v3 < 6)) (.idA (Zd.int .i64) (A6.list E0) v3 (bx ((cA6 (cI .i64)) E0)) 0 6 fun x2=>.ldC (Zd.int .i64) 10 x2 0<|.cs (decide (x2 < 0)) (.k5 1<|.kn [0]<|.rt false)<|.k2 1<|.idA (Zd.int .i64) (A6.list E0) v3 (bx ((cA6 (cI .i64)) E0)) 0 6 fun x5=>.kg 1<|.ldC (Zd.int .i64) 15 x5 1<|.k2 1<|.br (decide (x5 > 1000000)) (.rt false)<|.g0 (.L0 E0 (IntKind.wrap .i64 (v3+1))))<|.rt true
def Zag6(a0:A6 Int):LT Zrr Bool:=
.lb 1001<|.go (.L0 a0 0) [.relab 1001 3000]
def Zag7:LF Zrr Bool := .m0 81 [.t 2] wB fun | .L0 E0 v3=>([1,0,1,4],⟨18,[(1,.bptr 3000 0),(3,wI v3)],[(3000,.box (bx ((cA6 (cI .i64)) E0)))]⟩,Z2o E0 v3)
def Zadh:=fun a0=>Zag7.run (Zag6 a0)
theorem Zav8(a0){r}(h:Zadh a0=some r):Fn PR 81 [wA ((cA6 (cI .i64)) a0)] (wB r):=Zag7.fn h
inductive Zrs where
 | L0 (v1:Int) (E0:Zl) (v5:Int)
def Z2p(v1:Int)(E0:Zl)(v5:Int):LT Zrs Int:=
.len Zk E0.Objects<|.br (decide (v5 < (E0.Objects.length:Int))) (.idx Zk E0.Objects v5 fun x3=>.br (x3.Id==v1) (.rt v5)<|.g0 (.L0 v1 E0 (IntKind.wrap .i64 (v5+1))))<|.rt (-1)
def Zag8(a0:Zl)(a1:Int):LT Zrs Int:=
.lb 1002<|.go (.L0 a1 a0 0) [.relab 1002 3000]
def Zag9:LF Zrs Int := .m0 229 [.t 4] wI fun | .L0 v1 E0 v5=>([1,0,1,4],⟨22,[(1,wI v1),(2,.bptr 3000 0),(5,wI v5)],[(3000,.box (bx (Zaa E0)))]⟩,Z2p v1 E0 v5)
def Zadi:=fun a0 a1=>Zag9.run (Zag8 a0 a1)
theorem Zav9(a0)(a1){r}(h:Zadi a0 a1=some r):Fn PR 229 [wA (Zaa a0),wI a1] (wI r):=Zag9.fn h
def Zamx(a0:Zl)(a1:Int):LT Empty (Ze×Bool):=
.lb 1002<|.lb 1004<|.call (Zav9 a0 a1) fun x1=>.br (decide (x1 < 0)) (.rt ((⟨0,0,0,0,0,false,false,false,false,0,(⟨0,0,0⟩:A3 Int),0,0,0,false,0,0⟩:Ze),false))<|.idx Zk a0.Objects x1 fun x4=>.rt (x4,true)
def Zamy:LF Empty (Ze×Bool) := .z0 181 [.c 4 56 true 19,.t 5] (fun r=>(.tup [wA (Zk r.1),wB r.2]))
def Zaje:=fun a0 a1=>Zamy.run (Zamx a0 a1)
theorem Zay3(a0)(a1){r}(h:Zaje a0 a1=some r):Fn PR 181 [wA (Zaa a0),wI a1] (.tup [wA (Zk r.1),wB r.2]):=Zamy.fn h
def Zadj(a0:Zl)(a1:Int):LT Empty (Ze×Bool):=
.lb 1002<|.lb 1004<|.call (Zay3 a0 a1) fun x1=>.rt (x1.1,x1.2)
def Zadk:LF Empty (Ze×Bool) := .z0 129 [.c 4 56 true 19,.t 5] (fun r=>(.tup [wA (Zk r.1),wB r.2]))
def Z92:=fun a0 a1=>Zadk.run (Zadj a0 a1)
theorem Zaba(a0)(a1){r}(h:Z92 a0 a1=some r):Fn PR 129 [wA (Zaa a0),wI a1] (.tup [wA (Zk r.1),wB r.2]):=Zadk.fn h
inductive Zrt where
 | L0 (v0:List Int) (v1:Int) (v5:Int) (v6:Int)
def Z2q(v0:List Int)(v1:Int)(v5:Int)(v6:Int):LT Zrt Int:=
.len (cI .i64) v0<|.br (decide (v6 < (v0.length:Int))) (.idx (cI .i64) v0 v6 fun x3=>.br (x3==v1) (.g0 (.L0 v0 v1 (IntKind.wrap .i64 (v5+1)) (IntKind.wrap .i64 (v6+1))))<|.g0 (.L0 v0 v1 v5 (IntKind.wrap .i64 (v6+1))))<|.rt v5
def Zaha(a0:List Int)(a1:Int):LT Zrt Int:=
.g0 (.L0 a0 a1 0 0)
def Zahb:LF Zrt Int := .m0 130 [.t 4] wI fun | .L0 v0 v1 v5 v6=>([1,1,0,1,4],⟨22,[(0,wL (cI .i64) v0),(1,wI v1),(5,wI v5),(6,wI v6)],[]⟩,Z2q v0 v1 v5 v6)
def Zadl:=fun a0 a1=>Zahb.run (Zaha a0 a1)
theorem Z2r(a0)(a1){r}(h:Zadl a0 a1=some r):Fn PR 130 [wL (cI .i64) a0,wI a1] (wI r):=Zahb.fn h
inductive Zuk where
 | L0 (v1:List Int) (v2:Int) (v3:Int) (E0:Zl) (v9:Int)
def Z6p(v1:List Int)(v2:Int)(v3:Int)(E0:Zl)(v9:Int):LT Zuk Bool:=
.len (cI .i64) v1<|.br (decide (v9 < (v1.length:Int))) (.idx (cI .i64) v1 v9 fun x3=>.call (Zaba E0 x3) fun x5=>.lb 1010<|.cs (!x5.2) (.k5 1<|.b8 true<|.b5 true<|.kn [0]<|.rt false)<|.k5 1<|.cs (x5.1.Zone != v2) (.k5 2<|.b8 true<|.kn [0]<|.rt false)<|.k3 2<|.cs (decide (v3>=0)) (.k4 3<|.kg 2<|.kg 3<|.kg 2<|.cs (x5.1.Owner != v3) (.k8 4<|.kn [0]<|.rt false)<|.k4 4<|.ag (cI .i64) x3 0<|.k2 4<|.call (Z2r v1 x3) fun x11=>.k2 4<|.br (x11 != 1) (.rt false)<|.g0 (.L0 v1 v2 v3 E0 (IntKind.wrap .i64 (v9+1))))<|.k4 3<|.kg 2<|.kg 3<|.kg 2<|.b4 false<|.ag (cI .i64) x3 0<|.b2 false<|.call (Z2r v1 x3) fun x16=>.b2 false<|.br (x16 != 1) (.rt false)<|.g0 (.L0 v1 v2 v3 E0 (IntKind.wrap .i64 (v9+1))))<|.rt true
def Zamz(a0:Zl)(a1:List Int)(a2:Int)(a3:Int):LT Zuk Bool:=
.lb 1004<|.go (.L0 a1 a2 a3 a0 0) [.relab 1004 3000]
def Zam0:LF Zuk Bool := .m0 82 [.t 8] wB fun | .L0 v1 v2 v3 E0 v9=>([1,0,1,4],⟨54,[(1,wL (cI .i64) v1),(2,wI v2),(3,wI v3),(4,.bptr 3000 0),(9,wI v9)],[(3000,.box (bx (Zaa E0)))]⟩,Z6p v1 v2 v3 E0 v9)
def Zajf:=fun a0 a1 a2 a3=>Zam0.run (Zamz a0 a1 a2 a3)
theorem Zru(a0)(a1)(a2)(a3){r}(h:Zajf a0 a1 a2 a3=some r):Fn PR 82 [wA (Zaa a0),wL (cI .i64) a1,wI a2,wI a3] (wB r):=Zam0.fn h
inductive Zny where
 | L0 (E0:Zl) (v3:Int)
def Zwq(E0:Zl)(v3:Int):LT Zny Bool:=
.len Zbe E0.Players<|.br (decide (v3 < (E0.Players.length:Int))) (.idx Zbe E0.Players v3 fun x3=>.lb 1004<|.call (Zfs x3.Life (-1000000) 1000000) fun x5=>.cs (!x5) (.k5 1<|.b8 true<|.b2 true<|.kn [0]<|.rt false)<|.k3 1<|.call (Zfs x3.Venom 0 1000000) fun x8=>.k2 1<|.cs (!x8) (.k5 2<|.b5 true<|.kn [0]<|.rt false)<|.k3 2<|.call (Zfs x3.Lands 0 1000000) fun x11=>.k2 2<|.cs (!x11) (.k5 3<|.kn [0]<|.rt false)<|.k3 3<|.call (Zav8 x3.Pool) fun x14=>.k2 3<|.br (!x14) (.rt false)<|.call (Zru E0 x3.Library 2 v3) fun x17=>.cs (!x17) (.k5 5<|.k2 5<|.b5 true<|.b2 true<|.kn [0]<|.rt false)<|.k5 5<|.call (Zru E0 x3.Hand 1 v3) fun x20=>.k2 5<|.cs (!x20) (.k5 6<|.k2 6<|.kn [0]<|.rt false)<|.k5 6<|.call (Zru E0 x3.Graveyard 3 v3) fun x23=>.k2 6<|.br (!x23) (.rt false)<|.g0 (.L0 E0 (IntKind.wrap .i64 (v3+1))))<|.call (Zru E0 E0.Battlefield 0 (-1)) fun x28=>.cs x28 (.k4 1<|.call (Zru E0 E0.Exile 4 (-1)) fun x31=>.kg 1<|.rt x31)<|.k5 1<|.rt false
def Zabb(a0:Zl):LT Zny Bool:=
.lb 1001<|.len Zbe a0.Players<|.call (Zfs (a0.Players.length:Int) 2 4) fun x2=>.br (!x2) (.rt false)<|.go (.L0 a0 0) [.relab 1001 3000]
def Zabc:LF Zny Bool := .m0 47 [.t 2] wB fun | .L0 E0 v3=>([1,1,0,1,4],⟨76,[(1,.bptr 3000 0),(3,wI v3)],[(3000,.box (bx (Zaa E0)))]⟩,Zwq E0 v3)
def Z6q:=fun a0=>Zabc.run (Zabb a0)
theorem Zapc(a0){r}(h:Z6q a0=some r):Fn PR 47 [wA (Zaa a0)] (wB r):=Zabc.fn h
def Zadm(a0:Zl)(a1:Int):LT Empty Bool:=
.lb 1002<|.len Zbe a0.Players<|.call (Zfs a1 0 (IntKind.wrap .i64 ((a0.Players.length:Int) - 1))) fun x4=>.rt x4
def Zadn:LF Empty Bool := .z0 48 [.t 4] wB
def Z93:=fun a0 a1=>Zadn.run (Zadm a0 a1)
theorem Zi0(a0)(a1){r}(h:Z93 a0 a1=some r):Fn PR 48 [wA (Zaa a0),wI a1] (wB r):=Zadn.fn h
inductive Z2s where
 | L0 (E0:A3 Int) (v3:Int)
def Zado(E0:A3 Int)(v3:Int):LT Z2s Bool:=
.br (decide (v3 < 3)) (.idA (Zd.int .i64) (A3.list E0) v3 (bx ((cA3 (cI .i64)) E0)) 0 3 fun x2=>.ldC (Zd.int .i64) 10 x2 0<|.cs (decide (x2 < 0)) (.k5 1<|.kn [0]<|.rt false)<|.k2 1<|.idA (Zd.int .i64) (A3.list E0) v3 (bx ((cA3 (cI .i64)) E0)) 0 3 fun x5=>.kg 1<|.ldC (Zd.int .i64) 15 x5 1<|.k2 1<|.br (decide (x5 > 1000000)) (.rt false)<|.g0 (.L0 E0 (IntKind.wrap .i64 (v3+1))))<|.rt true
def Zawa(a0:A3 Int):LT Z2s Bool:=
.lb 1001<|.go (.L0 a0 0) [.relab 1001 3000]
def Zawb:LF Z2s Bool := .m0 131 [.t 2] wB fun | .L0 E0 v3=>([1,0,1,4],⟨18,[(1,.bptr 3000 0),(3,wI v3)],[(3000,.box (bx ((cA3 (cI .i64)) E0)))]⟩,Zado E0 v3)
def Zawc:=fun a0=>Zawb.run (Zawa a0)
theorem Za4h(a0){r}(h:Zawc a0=some r):Fn PR 131 [wA ((cA3 (cI .i64)) a0)] (wB r):=Zawb.fn h
def Zam1(a0:Ze):LT Empty Ze:=
.lb 1001<|.lb 1002<|.rt (⟨a0.Id,a0.Card,a0.Owner,a0.Control,a0.Zone,a0.Token,a0.Tapped,a0.Sick,a0.Deadly,a0.Damage,a0.Counters,a0.Stamp,a0.Copy,-1,false,0,a0.Shield⟩:Ze)
def Zam2:LF Empty Ze := .z0 132 [.c 2 56 true 19] (fun r=>(wA (Zk r)))
def Zajg:=fun a0=>Zam2.run (Zam1 a0)
theorem Zay4(a0){r}(h:Zajg a0=some r):Fn PR 132 [wA (Zk a0)] (wA (Zk r)):=Zam2.fn h
def Zahc(a0:Ze):LT Empty Ze:=
.lb 1001<|.lb 1002<|.rt (⟨a0.Id,a0.Card,a0.Owner,a0.Control,a0.Zone,a0.Token,a0.Tapped,a0.Sick,false,0,a0.Counters,a0.Stamp,a0.Copy,a0.Attack,a0.Blocked,a0.Blocks,0⟩:Ze)
def Zahd:LF Empty Ze := .z0 133 [.c 2 56 true 19] (fun r=>(wA (Zk r)))
def Zadp:=fun a0=>Zahd.run (Zahc a0)
theorem Zawd(a0){r}(h:Zadp a0=some r):Fn PR 133 [wA (Zk a0)] (wA (Zk r)):=Zahd.fn h
def Zawe(a0:Ze)(a1:Int)(a2:Int):LT Empty Bool:=
.lb 1003<|.cs (decide (a0.Id < 1)) (.k4 0<|.b16 true<|.b8 true<|.b5 true<|.b2 true<|.kn [0]<|.rt false)<|.k4 0<|.cs (decide (a0.Card < 0)) (.k5 1<|.b16 true<|.b8 true<|.b2 true<|.kn [0]<|.rt false)<|.k5 1<|.cs (decide (a0.Card>=a1)) (.k4 2<|.b16 true<|.b5 true<|.kb true<|.kn [0]<|.rt false)<|.k4 2<|.cs (decide (a0.Owner < 0)) (.k5 3<|.b16 true<|.kb true<|.kn [0]<|.rt false)<|.k5 3<|.cs (decide (a0.Owner>=a2)) (.k4 4<|.b8 true<|.b5 true<|.kn [0]<|.rt false)<|.k4 4<|.cs (decide (a0.Control < 0)) (.k5 5<|.b8 true<|.kn [0]<|.rt false)<|.k5 5<|.cs (decide (a0.Control>=a2)) (.k4 6<|.b4 true<|.kn [0]<|.rt false)<|.k4 6<|.cs (decide (a0.Zone < 0)) (.k4 7<|.kn [0]<|.rt false)<|.k4 7<|.br (decide (a0.Zone > 5)) (.rt false)<|.cs (decide (a0.Damage < 0)) (.k4 9<|.b16 true<|.b8 true<|.kn [0]<|.rt false)<|.k4 9<|.cs (decide (a0.Damage > 1000000)) (.k4 10<|.b16 true<|.b4 true<|.kn [0]<|.rt false)<|.k4 10<|.cs (decide (a0.Stamp < 0)) (.k4 11<|.b16 true<|.kn [0]<|.rt false)<|.k4 11<|.cs (decide (a0.Stamp > 1000000)) (.k4 12<|.b8 true<|.b4 true<|.kn [0]<|.rt false)<|.k4 12<|.cs (decide (a0.Blocks < 0)) (.k4 13<|.b8 true<|.kn [0]<|.rt false)<|.k4 13<|.cs (decide (a0.Blocks > 1000000)) (.k4 14<|.b4 true<|.kn [0]<|.rt false)<|.k4 14<|.cs (decide (a0.Shield < 0)) (.k4 15<|.kn [0]<|.rt false)<|.k4 15<|.br (decide (a0.Shield > 1000000)) (.rt false)<|.call (Za4h a0.Counters) fun x18=>.cs (!x18) (.k4 17<|.b8 true<|.b5 true<|.kb true<|.kn [0]<|.rt false)<|.k4 17<|.cs (decide (a0.Copy < (-1))) (.k5 18<|.b8 true<|.kb true<|.kn [0]<|.rt false)<|.k5 18<|.cs (decide (a0.Copy>=a1)) (.k4 19<|.b5 true<|.kn [0]<|.rt false)<|.k4 19<|.cs (decide (a0.Attack < (-1))) (.k5 20<|.kn [0]<|.rt false)<|.k5 20<|.br (decide (a0.Attack>=a2)) (.rt false)<|.cs (a0.Zone==0) (.k8 22<|.k5 22<|.rt true)<|.k3 22<|.call (Zay4 a0) fun x26=>.k2 22<|.cs (Z5 (Zk a0) (Zk x26)) (.k3 23<|.call (Zawd a0) fun x29=>.kg 23<|.kg 22<|.kg 23<|.kg 22<|.cs (Z5 (Zk a0) (Zk x29)) (.k3 24<|.kg 22<|.kg 24<|.kg 22<|.cs (!a0.Tapped) (.k3 25<|.kg 22<|.kg 25<|.kg 22<|.cs (!a0.Sick) (.k4 26<|.kg 22<|.kg 26<|.kg 22<|.rt (Z5 ((cA3 (cI .i64)) a0.Counters) ((cA3 (cI .i64)) (⟨0,0,0⟩:A3 Int))))<|.k4 26<|.kg 22<|.kg 26<|.kg 22<|.rt false)<|.k3 25<|.kg 22<|.kg 25<|.kg 22<|.b4 false<|.kg 22<|.kb false<|.kg 22<|.rt false)<|.k3 24<|.kg 22<|.kg 24<|.kg 22<|.b3 false<|.kg 22<|.kb false<|.kg 22<|.b4 false<|.kg 22<|.kb false<|.kg 22<|.rt false)<|.k4 23<|.kg 22<|.kg 23<|.kg 22<|.b3 false<|.kg 22<|.kb false<|.kg 22<|.b3 false<|.kg 22<|.kb false<|.kg 22<|.b4 false<|.kg 22<|.kb false<|.kg 22<|.rt false
def Zawf:LF Empty Bool := .z0 83 [.t 6] wB
def Zawg:=fun a0 a1 a2=>Zawf.run (Zawe a0 a1 a2)
theorem Za4i(a0)(a1)(a2){r}(h:Zawg a0 a1 a2=some r):Fn PR 83 [wA (Zk a0),wI a1,wI a2] (wB r):=Zawf.fn h
inductive Zpg where
 | L0 (v1:Int) (E0:Zl) (v5:Int) (v6:Int)
def Zzm(v1:Int)(E0:Zl)(v5:Int)(v6:Int):LT Zpg Int:=
.len Zbt E0.Stack<|.br (decide (v6 < (E0.Stack.length:Int))) (.idx Zbt E0.Stack v6 fun x3=>.cs (x3.Kind==1) (.k4 1<|.ag Zbt x3 0<|.k5 1<|.br (x3.Id==v1) (.g0 (.L0 v1 E0 (IntKind.wrap .i64 (v5+1)) (IntKind.wrap .i64 (v6+1))))<|.g0 (.L0 v1 E0 v5 (IntKind.wrap .i64 (v6+1))))<|.k8 1<|.kg 1<|.kn [0]<|.g0 (.L0 v1 E0 v5 (IntKind.wrap .i64 (v6+1))))<|.rt v5
def Zadq(a0:Zl)(a1:Int):LT Zpg Int:=
.lb 1002<|.go (.L0 a1 a0 0 0) [.relab 1002 3000]
def Zadr:LF Zpg Int := .m0 134 [.t 4] wI fun | .L0 v1 E0 v5 v6=>([1,1,0,1,4],⟨34,[(1,wI v1),(2,.bptr 3000 0),(5,wI v5),(6,wI v6)],[(3000,.box (bx (Zaa E0)))]⟩,Zzm v1 E0 v5 v6)
def Z94:=fun a0 a1=>Zadr.run (Zadq a0 a1)
theorem Zary(a0)(a1){r}(h:Z94 a0 a1=some r):Fn PR 134 [wA (Zaa a0),wI a1] (wI r):=Zadr.fn h
def Zam3(a0:List Int):LT Empty (List Int):=
.lb 1003<|.apR (cI .i64) 8 ([]:List Int) a0 fun x1=>.ret x1 [.relab 1003 5000]
def Zam4:LF Empty (List Int) := .z 182 [.t 2] true (fun r=>[(5000,wR (cI .i64) 1 r)]) (fun r=>(wO (cI .i64) 5000 r))
def Zajh:=fun a0=>Zam4.run (Zam3 a0)
theorem Zph(a0){r}(h:Zajh a0=some r):FnG PR 182 [] [wL (cI .i64) a0] [(5000,wR (cI .i64) 1 r)] (wO (cI .i64) 5000 r):=Zam4.fn h
def Zam5(a0:Zl)(a1:Int)(a2:Int):LT Empty (List Int):=
.lb 1003<|.br (a1==0) (.callF (Zph a0.Battlefield) 130000 fun x2=>.ret x2 [.relab 135000 5000])<|.br (a1==4) (.callF (Zph a0.Exile) 180000 fun x5=>.ret x5 [.relab 185000 5000])<|.cs (decide (a2 < 0)) (.k5 2<|.kg 2<|.kn [0]<|.ret ([]:List Int) [.own 6 5000 1])<|.k4 2<|.len Zbe a0.Players<|.k2 2<|.br (decide (a2>=(a0.Players.length:Int))) (.ret ([]:List Int) [.own 6 5000 1])<|.br (a1==1) (.idx Zbe a0.Players a2 fun x11=>.callF (Zph x11.Hand) 370000 fun x13=>.ret x13 [.relab 375000 5000])<|.br (a1==2) (.idx Zbe a0.Players a2 fun x16=>.callF (Zph x16.Library) 460000 fun x18=>.ret x18 [.relab 465000 5000])<|.br (a1==3) (.idx Zbe a0.Players a2 fun x21=>.callF (Zph x21.Graveyard) 550000 fun x23=>.ret x23 [.relab 555000 5000])<|.ret ([]:List Int) [.own 6 5000 1]
def Zam6:LF Empty (List Int) := .z 135 [.t 6] true (fun r=>[(5000,wR (cI .i64) 1 r)]) (fun r=>(wO (cI .i64) 5000 r))
def Z95:=fun a0 a1 a2=>Zam6.run (Zam5 a0 a1 a2)
theorem Zawh(a0)(a1)(a2){r}(h:Z95 a0 a1 a2=some r):FnG PR 135 [] [wA (Zaa a0),wI a1,wI a2] [(5000,wR (cI .i64) 1 r)] (wO (cI .i64) 5000 r):=Zam6.fn h
theorem Zay5(a0:Zl)(a1:Int)(a2:Int){r:List Int}(h:Z95 a0 a1 a2=some r):Fn PR 135 [wA (Zaa a0),wI a1,wI a2] (wL (cI .i64) r):=
 FnG.frozen (C:=LT.RL (cI .i64) r/\True) (Zawh a0 a1 a2 h) ⟨rfl,trivial⟩ (by kernel_rfl)
def Zads(a0:Zl)(a1:Ze):LT Empty Bool:=
.lb 1002<|.lb 1003<|.br (a1.Zone==5) (.call (Zary a0 a1.Id) fun x2=>.rt (x2==1))<|.call (Zay5 a0 a1.Zone a1.Owner) fun x4=>.call (Z2r x4 a1.Id) fun x6=>.rt (x6==1)
def Zadt:LF Empty Bool := .z0 84 [.t 4] wB
def Z96:=fun a0 a1=>Zadt.run (Zads a0 a1)
theorem Zabd(a0)(a1){r}(h:Z96 a0 a1=some r):Fn PR 84 [wA (Zaa a0),wA (Zk a1)] (wB r):=Zadt.fn h
inductive Znz where
 | L0 (v0:List Zn) (E0:Zl) (v5:Int)
def Zwr(v0:List Zn)(E0:Zl)(v5:Int):LT Znz Bool:=
.len Zk E0.Objects<|.br (decide (v5 < (E0.Objects.length:Int))) (.idx Zk E0.Objects v5 fun x3=>.lb 1006<|.len Z4 v0<|.len Zbe E0.Players<|.call (Za4i x3 (v0.length:Int) (E0.Players.length:Int)) fun x7=>.cs (!x7) (.k5 1<|.kg 1<|.b8 true<|.b3 true<|.kn [0]<|.rt false)<|.k5 1<|.kg 1<|.cs (decide (x3.Id>=E0.NextId)) (.k5 2<|.kg 2<|.b5 true<|.kn [0]<|.rt false)<|.k5 2<|.kg 2<|.cs (decide (x3.Stamp>=E0.NextStamp)) (.k5 3<|.kn [0]<|.rt false)<|.k3 3<|.cs (decide (v5 > 0)) (.k5 4<|.idx Zk E0.Objects (IntKind.wrap .i64 (v5 - 1)) fun x15=>.k5 4<|.kg 3<|.kg 4<|.kg 3<|.br (decide (x15.Id>=x3.Id)) (.rt false)<|.call (Zabd E0 x3) fun x18=>.br (!x18) (.rt false)<|.g0 (.L0 v0 E0 (IntKind.wrap .i64 (v5+1))))<|.k8 4<|.k2 4<|.kg 3<|.kg 4<|.kg 3<|.kn [0]<|.call (Zabd E0 x3) fun x23=>.br (!x23) (.rt false)<|.g0 (.L0 v0 E0 (IntKind.wrap .i64 (v5+1))))<|.rt true
def Zabe(a0:List Zn)(a1:Zl):LT Znz Bool:=
.lb 1003<|.len Zk a1.Objects<|.br (decide ((a1.Objects.length:Int) > 2048)) (.rt false)<|.go (.L0 a0 a1 0) [.relab 1003 3000]
def Zabf:LF Znz Bool := .m0 49 [.t 4] wB fun | .L0 v0 E0 v5=>([1,1,0,1,4],⟨65,[(0,wL Z4 v0),(3,.bptr 3000 0),(5,wI v5)],[(3000,.box (bx (Zaa E0)))]⟩,Zwr v0 E0 v5)
def Z6r:=fun a0 a1=>Zabf.run (Zabe a0 a1)
theorem Zqg(a0)(a1){r}(h:Z6r a0 a1=some r):Fn PR 49 [wL Z4 a0,wA (Zaa a1)] (wB r):=Zabf.fn h
inductive Zmf where
 | L0 (v0:List Zi) (v1:List Zi) (v5:Int)
def Zul(v0:List Zi)(v1:List Zi)(v5:Int):LT Zmf Bool:=
.len Zm v0<|.br (decide (v5 < (v0.length:Int))) (.idx Zm v0 v5 fun x3=>.idx Zm v1 v5 fun x5=>.br (!(Z5 (Zm x3) (Zm x5))) (.rt false)<|.g0 (.L0 v0 v1 (IntKind.wrap .i64 (v5+1))))<|.rt true
def Z8f(a0:List Zi)(a1:List Zi):LT Zmf Bool:=
.len Zm a0<|.len Zm a1<|.br ((a0.length:Int) != (a1.length:Int)) (.rt false)<|.g0 (.L0 a0 a1 0)
def Z8g:LF Zmf Bool := .m0 183 [.t 4] wB fun | .L0 v0 v1 v5=>([1,1,0,1,4],⟨26,[(0,wL Zm v0),(1,wL Zm v1),(5,wI v5)],[]⟩,Zul v0 v1 v5)
def Z2t:=fun a0 a1=>Z8g.run (Z8f a0 a1)
theorem Z46(a0)(a1){r}(h:Z2t a0 a1=some r):Fn PR 183 [wL Zm a0,wL Zm a1] (wB r):=Z8g.fn h
def Zam7(a0:Zs)(a1:Zs):LT Empty Bool:=
.lb 1002<|.lb 1003<|.cs (a0.Op==a1.Op) (.k5 0<|.kg 0<|.cs (Z5 (Zdu a0.Ref) (Zdu a1.Ref)) (.k5 1<|.kg 1<|.cs (Z5 (Zaq a0.Amount) (Zaq a1.Amount)) (.k5 2<|.kg 2<|.cs (a0.Counter==a1.Counter) (.k5 3<|.kg 3<|.cs (a0.Zone==a1.Zone) (.k5 4<|.kg 4<|.cs (a0.Card==a1.Card) (.k5 5<|.kg 5<|.cs (Z5 (Zo a0.Filter) (Zo a1.Filter)) (.k5 6<|.kg 6<|.cs (Z5 ((cA6 (cI .i64)) a0.Pool) ((cA6 (cI .i64)) a1.Pool)) (.k5 7<|.call (Z46 a0.Mods a1.Mods) fun x9=>.kg 7<|.rt x9)<|.k5 7<|.kg 7<|.rt false)<|.k5 6<|.kg 6<|.b5 false<|.kb false<|.rt false)<|.k5 5<|.kg 5<|.b8 false<|.b4 false<|.rt false)<|.k5 4<|.kg 4<|.b16 false<|.b2 false<|.rt false)<|.k5 3<|.kg 3<|.b16 false<|.b8 false<|.rt false)<|.k5 2<|.kg 2<|.b16 false<|.b8 false<|.b5 false<|.kb false<|.rt false)<|.k5 1<|.kg 1<|.b16 false<|.b16 false<|.b4 false<|.rt false)<|.k5 0<|.kg 0<|.b16 false<|.b16 false<|.b8 false<|.b2 false<|.rt false
def Zam8:LF Empty Bool := .z0 230 [.t 4] wB
def Zaji:=fun a0 a1=>Zam8.run (Zam7 a0 a1)
theorem Zay6(a0)(a1){r}(h:Zaji a0 a1=some r):Fn PR 230 [wA (Zq a0),wA (Zq a1)] (wB r):=Zam8.fn h
inductive Zmg where
 | L0 (v0:List Zs) (v1:List Zs) (v5:Int)
def Zum(v0:List Zs)(v1:List Zs)(v5:Int):LT Zmg Bool:=
.len Zq v0<|.br (decide (v5 < (v0.length:Int))) (.idx Zq v0 v5 fun x3=>.idx Zq v1 v5 fun x5=>.call (Zay6 x3 x5) fun x7=>.br (!x7) (.rt false)<|.g0 (.L0 v0 v1 (IntKind.wrap .i64 (v5+1))))<|.rt true
def Z8h(a0:List Zs)(a1:List Zs):LT Zmg Bool:=
.len Zq a0<|.len Zq a1<|.br ((a0.length:Int) != (a1.length:Int)) (.rt false)<|.g0 (.L0 a0 a1 0)
def Z8i:LF Zmg Bool := .m0 184 [.t 4] wB fun | .L0 v0 v1 v5=>([1,1,0,1,4],⟨27,[(0,wL Zq v0),(1,wL Zq v1),(5,wI v5)],[]⟩,Zum v0 v1 v5)
def Z2u:=fun a0 a1=>Z8i.run (Z8h a0 a1)
theorem Zam9(a0)(a1){r}(h:Z2u a0 a1=some r):Fn PR 184 [wL Zq a0,wL Zq a1] (wB r):=Z8i.fn h
inductive Zun where
 | L0 (E0:Zg) (E1:Zg) (v5:Int)
def Z6s(E0:Zg)(E1:Zg)(v5:Int):LT Zun Bool:=
.len Zab E0.Specs<|.br (decide (v5 < (E0.Specs.length:Int))) (.idx Zab E0.Specs v5 fun x3=>.idx Zab E1.Specs v5 fun x5=>.br (!(Z5 (Zab x3) (Zab x5))) (.rt false)<|.g0 (.L0 E0 E1 (IntKind.wrap .i64 (v5+1))))<|.cs (E0.Kind==E1.Kind) (.k5 1<|.kg 1<|.cs (Z5 (Zo E0.Filter) (Zo E1.Filter)) (.k5 2<|.call (Z46 E0.Mods E1.Mods) fun x12=>.kg 2<|.cs x12 (.k5 3<|.kg 3<|.cs (Z5 (Zdz E0.Price) (Zdz E1.Price)) (.k5 4<|.kg 4<|.cs (E0.Slow==E1.Slow) (.k5 5<|.kg 5<|.cs (Z5 (Zch E0.Trigger) (Zch E1.Trigger)) (.k5 6<|.kg 6<|.cs (E0.May==E1.May) (.k5 7<|.call (Zam9 E0.Effects E1.Effects) fun x19=>.kg 7<|.cs x19 (.k5 8<|.kg 8<|.rt (Z5 (Zbk E0.Replace) (Zbk E1.Replace)))<|.k5 8<|.kg 8<|.rt false)<|.k5 7<|.kg 7<|.b5 false<|.kb false<|.rt false)<|.k5 6<|.kg 6<|.b8 false<|.b4 false<|.rt false)<|.k5 5<|.kg 5<|.b16 false<|.b2 false<|.rt false)<|.k5 4<|.kg 4<|.b16 false<|.b8 false<|.rt false)<|.k5 3<|.kg 3<|.b16 false<|.b8 false<|.b5 false<|.kb false<|.rt false)<|.k5 2<|.kg 2<|.b16 false<|.b16 false<|.b4 false<|.rt false)<|.k5 1<|.kg 1<|.b16 false<|.b16 false<|.b8 false<|.b2 false<|.rt false
def Zana(a0:Zg)(a1:Zg):LT Zun Bool:=
.lb 1002<|.lb 1003<|.len Zab a0.Specs<|.len Zab a1.Specs<|.br ((a0.Specs.length:Int) != (a1.Specs.length:Int)) (.rt false)<|.go (.L0 a0 a1 0) [.relab 1002 3000,.relab 1003 3001]
def Zanb:LF Zun Bool := .m0 136 [.t 4] wB fun | .L0 E0 E1 v5=>([1,1,0,1,4],⟨92,[(2,.bptr 3000 0),(3,.bptr 3001 0),(5,wI v5)],[(3000,.box (bx (Zh E0))),(3001,.box (bx (Zh E1)))]⟩,Z6s E0 E1 v5)
def Zajj:=fun a0 a1=>Zanb.run (Zana a0 a1)
theorem Zay7(a0)(a1){r}(h:Zajj a0 a1=some r):Fn PR 136 [wA (Zh a0),wA (Zh a1)] (wB r):=Zanb.fn h
def Zanc(a0:Zl)(a1:Znh):LT Empty Bool:=
.lb 1002<|.lb 1003<|.call (Zfs a1.Id 1 (IntKind.wrap .i64 (a0.NextId - 1))) fun x3=>.cs (!x3) (.k5 0<|.b8 true<|.b3 true<|.kn [0]<|.rt false)<|.k3 0<|.call (Zfs a1.X 0 1000000) fun x6=>.k2 0<|.cs (!x6) (.k5 1<|.b5 true<|.kb true<|.kn [0]<|.rt false)<|.k3 1<|.len Zo9 a1.Targets<|.k2 1<|.cs (decide ((a1.Targets.length:Int) > 4)) (.k5 2<|.kg 2<|.kn [0]<|.rt false)<|.k4 2<|.call (Zi0 a0 a1.Control) fun x11=>.k2 2<|.br (!x11) (.rt false)<|.call (Zaba a0 a1.Id) fun x14=>.lb 1005<|.br (a1.Kind==1) (.call (Zay7 a1.Ability (⟨0,(⟨0,0,0,0,0,0,0,([]:By),0,0,(⟨0,0⟩:Za),(⟨0,0⟩:Za),(⟨0,0⟩:Za)⟩:Zc),([]:List Zi),(⟨(⟨0,0,(⟨0,0,0,0,0⟩:A5 Int)⟩:Zt),false,false,0⟩:Zic),false,(⟨0,0,(⟨0,0,0,0,0,0,0,([]:By),0,0,(⟨0,0⟩:Za),(⟨0,0⟩:Za),(⟨0,0⟩:Za)⟩:Zc)⟩:Zc3),false,([]:List Zba),([]:List Zs),(⟨0,0,(⟨0,0,0,0,0,0,0,([]:By),0,0,(⟨0,0⟩:Za),(⟨0,0⟩:Za),(⟨0,0⟩:Za)⟩:Zc),0,0,0,0⟩:Za7)⟩:Zg)) fun x17=>.cs (a1.Source==a1.Id) (.k2 5<|.cs x14.2 (.k4 6<|.cs (x14.1.Zone==5) (.k2 7<|.cs x17 (.k3 8<|.kg 7<|.kg 8<|.kg 7<|.rt true)<|.k3 8<|.call (Z45 a1.Ability) fun x23=>.kg 7<|.kg 8<|.kg 7<|.rt x23)<|.k4 7<|.rt false)<|.k4 6<|.b4 false<|.rt false)<|.k2 5<|.b8 false<|.rt false)<|.cs (a1.Kind==2) (.k3 5<|.cs (!x14.2) (.k3 6<|.call (Z45 a1.Ability) fun x27=>.kg 6<|.rt x27)<|.k4 6<|.rt false)<|.k3 5<|.b4 false<|.rt false
def Zand:LF Empty Bool := .z0 85 [.t 4] wB
def Zajk:=fun a0 a1=>Zand.run (Zanc a0 a1)
theorem Zay8(a0)(a1){r}(h:Zajk a0 a1=some r):Fn PR 85 [wA (Zaa a0),wA (Zbt a1)] (wB r):=Zand.fn h
inductive Z2v where
 | L0 (v0:List Int) (v3:Int)
def Zadu(v0:List Int)(v3:Int):LT Z2v Bool:=
.len (cI .i64) v0<|.br (decide (v3 < (v0.length:Int))) (.idx (cI .i64) v0 (IntKind.wrap .i64 (v3 - 1)) fun x5=>.idx (cI .i64) v0 v3 fun x7=>.br (decide (x5>=x7)) (.rt false)<|.g0 (.L0 v0 (IntKind.wrap .i64 (v3+1))))<|.rt true
def Zawi(a0:List Int):LT Z2v Bool:=
.g0 (.L0 a0 1)
def Zawj:LF Z2v Bool := .m0 86 [.t 2] wB fun | .L0 v0 v3=>([1,0,1,4],⟨20,[(0,wL (cI .i64) v0),(3,wI v3)],[]⟩,Zadu v0 v3)
def Zawk:=fun a0=>Zawj.run (Zawi a0)
theorem Za4j(a0){r}(h:Zawk a0=some r):Fn PR 86 [wL (cI .i64) a0] (wB r):=Zawj.fn h
inductive Zjx where
 | L0 (E0:Zl) (v3:Int)
 | L1 (E0:Zl) (v3:Int) (v4:Int)
 | L2 (E0:Zl) (v5:Int)
 | L3 (E0:Zl) (v7:Int)
def Z2w(E0:Zl)(v3:Int):LT Zjx Bool:=
.len Zbt E0.Stack<|.br (decide (v3 < (E0.Stack.length:Int))) (.idx Zbt E0.Stack v3 fun x3=>.call (Zay8 E0 x3) fun x5=>.br (!x5) (.rt false)<|.g0 (.L1 E0 v3 0))<|.g0 (.L2 E0 0)
def Z2x(E0:Zl)(v3:Int)(v4:Int):LT Zjx Bool:=
.br (decide (v4 < v3)) (.idx Zbt E0.Stack v4 fun x2=>.idx Zbt E0.Stack v3 fun x4=>.br (x2.Id==x4.Id) (.rt false)<|.g0 (.L1 E0 v3 (IntKind.wrap .i64 (v4+1))))<|.g0 (.L0 E0 (IntKind.wrap .i64 (v3+1)))
def Z2y(E0:Zl)(v5:Int):LT Zjx Bool:=
.len Zbv E0.Waiting<|.br (decide (v5 < (E0.Waiting.length:Int))) (.idx Zbv E0.Waiting v5 fun x3=>.lb 1006<|.call (Zi0 E0 x3.Control) fun x5=>.cs (!x5) (.k5 1<|.b5 true<|.kn [0]<|.rt false)<|.k5 1<|.cs (x3.Ability.Kind != 4) (.k5 2<|.kn [0]<|.rt false)<|.k3 2<|.call (Z45 x3.Ability) fun x9=>.k2 2<|.br (!x9) (.rt false)<|.g0 (.L2 E0 (IntKind.wrap .i64 (v5+1))))<|.g0 (.L3 E0 0)
def Z2z(E0:Zl)(v7:Int):LT Zjx Bool:=
.len Zca E0.Conts<|.br (decide (v7 < (E0.Conts.length:Int))) (.idx Zca E0.Conts v7 fun x3=>.lb 1008<|.call (Zi0 E0 x3.Control) fun x5=>.cs (!x5) (.k5 1<|.kg 1<|.b8 true<|.b5 true<|.b2 true<|.kn [0]<|.rt false)<|.k5 1<|.kg 1<|.cs (decide (x3.Stamp>=E0.NextStamp)) (.k5 2<|.b8 true<|.b2 true<|.kn [0]<|.rt false)<|.k3 2<|.call (Zfs x3.Until 1 2) fun x9=>.k2 2<|.cs (!x9) (.k5 3<|.b5 true<|.kn [0]<|.rt false)<|.k3 3<|.call (Za4j x3.Objects) fun x12=>.k2 3<|.cs (!x12) (.k5 4<|.kn [0]<|.rt false)<|.k3 4<|.call (Zug x3.Mods) fun x15=>.k2 4<|.br (x15==([]:By)) (.rt false)<|.g0 (.L3 E0 (IntKind.wrap .i64 (v7+1))))<|.rt true
def Zahe(a0:Zl):LT Zjx Bool:=
.lb 1001<|.len Zbt a0.Stack<|.cs (decide ((a0.Stack.length:Int) > 64)) (.k5 0<|.b5 true<|.kn [0]<|.rt false)<|.k3 0<|.len Zbv a0.Waiting<|.k2 0<|.cs (decide ((a0.Waiting.length:Int) > 64)) (.k5 1<|.kn [0]<|.rt false)<|.k3 1<|.len Zca a0.Conts<|.k2 1<|.br (decide ((a0.Conts.length:Int) > 64)) (.rt false)<|.go (.L0 a0 0) [.relab 1001 3000]
def Zahf:LF Zjx Bool := .m0 50 [.t 2] wB fun | .L0 E0 v3=>([1,1,0,1,4],⟨129,[(1,.bptr 3000 0),(3,wI v3)],[(3000,.box (bx (Zaa E0)))]⟩,Z2w E0 v3) | .L1 E0 v3 v4=>([1,1,0,1,4,5,1,0,4,1,1,4],⟨129,[(1,.bptr 3000 0),(3,wI v3),(4,wI v4)],[(3000,.box (bx (Zaa E0)))]⟩,Z2x E0 v3 v4) | .L2 E0 v5=>([1,1,1,0,1,4],⟨129,[(1,.bptr 3000 0),(5,wI v5)],[(3000,.box (bx (Zaa E0)))]⟩,Z2y E0 v5) | .L3 E0 v7=>([1,1,1,1,0,1,4],⟨129,[(1,.bptr 3000 0),(7,wI v7)],[(3000,.box (bx (Zaa E0)))]⟩,Z2z E0 v7)
def Zadv:=fun a0=>Zahf.run (Zahe a0)
theorem Zuo(a0){r}(h:Zadv a0=some r):Fn PR 50 [wA (Zaa a0)] (wB r):=Zahf.fn h
inductive Z20 where
 | L0 (v0:List Zn) (E0:Zl) (v5:Int)
def Zadw(v0:List Zn)(E0:Zl)(v5:Int):LT Z20 Bool:=
.len (cI .i64) E0.Extra<|.br (decide (v5 < (E0.Extra.length:Int))) (.idx (cI .i64) E0.Extra v5 fun x3=>.call (Zi0 E0 x3) fun x5=>.br (!x5) (.rt false)<|.g0 (.L0 v0 E0 (IntKind.wrap .i64 (v5+1))))<|.cs (E0.Over==1) (.k4 1<|.call (Zi0 E0 E0.Winner) fun x11=>.k2 1<|.cs (!x11) (.k5 2<|.kg 2<|.kn [0]<|.rt false)<|.k4 2<|.cs (E0.Over != 1) (.k3 3<|.kg 2<|.kg 3<|.kg 2<|.br (E0.Winner != (-1)) (.rt false)<|.call (Zqg v0 E0) fun x16=>.cs x16 (.k2 5<|.call (Zuo E0) fun x19=>.kg 5<|.rt x19)<|.k3 5<|.rt false)<|.k3 3<|.kg 2<|.kg 3<|.kg 2<|.kn [0]<|.call (Zqg v0 E0) fun x21=>.cs x21 (.k2 4<|.call (Zuo E0) fun x24=>.kg 4<|.rt x24)<|.k3 4<|.rt false)<|.k5 1<|.kg 1<|.b4 false<|.cs (E0.Over != 1) (.k3 2<|.kb false<|.kg 2<|.kb false<|.br (E0.Winner != (-1)) (.rt false)<|.call (Zqg v0 E0) fun x28=>.cs x28 (.k2 4<|.call (Zuo E0) fun x31=>.kg 4<|.rt x31)<|.k3 4<|.rt false)<|.k3 2<|.kb false<|.kg 2<|.kb false<|.kn [0]<|.call (Zqg v0 E0) fun x33=>.cs x33 (.k2 3<|.call (Zuo E0) fun x36=>.kg 3<|.rt x36)<|.k3 3<|.rt false
def Zawl(a0:List Zn)(a1:Zl):LT Z20 Bool:=
.lb 1003<|.call (Zfs a1.NextId 1 1000000) fun x1=>.cs (!x1) (.k5 0<|.b8 true<|.b5 true<|.b2 true<|.kn [0]<|.rt false)<|.k3 0<|.call (Zfs a1.NextStamp 1 1000000) fun x4=>.k2 0<|.cs (!x4) (.k5 1<|.b8 true<|.b2 true<|.kn [0]<|.rt false)<|.k3 1<|.call (Zfs a1.Turn 0 500) fun x7=>.k2 1<|.cs (!x7) (.k5 2<|.b5 true<|.kn [0]<|.rt false)<|.k3 2<|.call (Zfs a1.Step 0 10) fun x10=>.k2 2<|.cs (!x10) (.k5 3<|.kn [0]<|.rt false)<|.k3 3<|.len Zk a1.Objects<|.k2 3<|.br (decide ((a1.Objects.length:Int) > 2048)) (.rt false)<|.call (Zapc a1) fun x15=>.cs (!x15) (.k5 5<|.kg 5<|.b16 true<|.b8 true<|.kn [0]<|.rt false)<|.k4 5<|.call (Zi0 a1 a1.Active) fun x18=>.k2 5<|.cs (!x18) (.k5 6<|.kg 6<|.b16 true<|.b2 true<|.kn [0]<|.rt false)<|.k4 6<|.call (Zi0 a1 a1.Priority) fun x21=>.k2 6<|.cs (!x21) (.k8 7<|.b8 true<|.b2 true<|.kn [0]<|.rt false)<|.k5 7<|.len Zbe a1.Players<|.kg 7<|.call (Zfs a1.Passes 0 (a1.Players.length:Int)) fun x25=>.k2 7<|.cs (!x25) (.k5 8<|.b5 true<|.kn [0]<|.rt false)<|.k3 8<|.len (cI .i64) a1.Extra<|.k2 8<|.cs (decide ((a1.Extra.length:Int) > 500)) (.k5 9<|.kn [0]<|.rt false)<|.k3 9<|.call (Zfs a1.Over 0 2) fun x30=>.k2 9<|.br (!x30) (.rt false)<|.go (.L0 a0 a1 0) [.relab 1003 3000]
def Zawm:LF Z20 Bool := .m0 29 [.t 4] wB fun | .L0 v0 E0 v5=>([1,1,1,0,1,4],⟨114,[(0,wL Z4 v0),(3,.bptr 3000 0),(5,wI v5)],[(3000,.box (bx (Zaa E0)))]⟩,Zadw v0 E0 v5)
def Zawn:=fun a0 a1=>Zawm.run (Zawl a0 a1)
theorem Za4k(a0)(a1){r}(h:Zawn a0 a1=some r):Fn PR 29 [wL Z4 a0,wA (Zaa a1)] (wB r):=Zawm.fn h
def Zahg(a0:List Zn)(a1:Zl):LT Empty Bool:=
.lb 1003<|.call (Zav4 a0) fun x1=>.cs (x1.2==0) (.k3 0<|.call (Za4k a0 a1) fun x4=>.kg 0<|.rt x4)<|.k4 0<|.rt false
def Zahh:LF Empty Bool := .z0 10 [.t 4] wB
def Zadx:=fun a0 a1=>Zahh.run (Zahg a0 a1)
theorem Zawo(a0)(a1){r}(h:Zadx a0 a1=some r):Fn PR 10 [wL Z4 a0,wA (Zaa a1)] (wB r):=Zahh.fn h
inductive Z6t where
 | L0 (v0:List Ze) (E0:Zl) (E1:Zl) (v4:Int)
def Zawp(v0:List Ze)(E0:Zl)(E1:Zl)(v4:Int):LT Z6t Zl:=
.len Zk v0<|.br (decide (v4 < (v0.length:Int))) (.idx Zk v0 v4 fun x3=>.lb 1005<|.dr [.lit]<|.apR Zk 128 E1.Objects [(⟨IntKind.wrap .i64 (v4+1),x3.Card,x3.Owner,x3.Control,x3.Zone,x3.Token,x3.Tapped,x3.Sick,x3.Deadly,x3.Damage,x3.Counters,IntKind.wrap .i64 (v4+1),-1,-1,x3.Blocked,x3.Blocks,x3.Shield⟩:Ze)] fun x7=>.dr [.lit]<|.apR (cI .i64) 8 E1.Battlefield [IntKind.wrap .i64 (v4+1)] fun x10=>.g0 (.L0 v0 E0 (⟨E1.Players,x7,x10,E1.Exile,E1.Stack,E1.Waiting,E1.Conts,E1.Turn,E1.Active,E1.Step,E1.Begun,E1.Priority,E1.Passes,E1.NextId,E1.NextStamp,E1.Seed,E1.Extra,E1.Over,E1.Winner⟩:Zl) (IntKind.wrap .i64 (v4+1))))<|.ret E1 [.relab 40101 5001,.relab 40102 5002,.relab 40103 5003,.relab 40104 5004,.relab 40105 5005,.relab 40106 5006,.relab 40116 5016]
def Zay9(a0:List Ze):LT Z6t Zl:=
.lb 1002<|.dr [.lit]<|.len Zk a0<|.len Zk a0<|.lb 1003<|.go (.L0 a0 (⟨([]:List Zlb),([]:List Ze),([]:List Int),([]:List Int),([]:List Znh),([]:List Zlo),([]:List Zdn),0,0,0,false,0,0,0,0,0,([]:List Int),0,0⟩:Zl) (⟨[(⟨20,0,0,(⟨0,0,0,0,0,0⟩:A6 Int),false,false,([]:List Int),([]:List Int),([]:List Int)⟩:Zlb),(⟨20,0,0,(⟨0,0,0,0,0,0⟩:A6 Int),false,false,([]:List Int),([]:List Int),([]:List Int)⟩:Zlb)],([]:List Ze),([]:List Int),([]:List Int),([]:List Znh),([]:List Zlo),([]:List Zdn),1,0,3,true,0,0,IntKind.wrap .i64 ((a0.length:Int)+1),IntKind.wrap .i64 ((a0.length:Int)+1),0,([]:List Int),0,-1⟩:Zl) 0) [.relab 1002 3000,.relab 1003 3001,.ownb 3000 0 40000 14,.ownb 3000 1 40001 19,.ownb 3000 2 40002 1,.ownb 3000 3 40003 1,.ownb 3000 4 40004 94,.ownb 3000 5 40005 89,.ownb 3000 6 40006 6,.ownb 3000 16 40016 1,.ownb 3001 1 40101 19,.ownb 3001 2 40102 1,.ownb 3001 3 40103 1,.ownb 3001 4 40104 94,.ownb 3001 5 40105 89,.ownb 3001 6 40106 6,.ownb 3001 16 40116 1]
def Zahi:LF Z6t Zl := .m 30 [.c 2 31 true 19] true (fun r=>(tm16 r 5000)) (fun r=>(.agg (tm9 r 5000))) fun | .L0 v0 E0 E1 v4=>([1,1,0,1,4],⟨48,[(0,wL Zk v0),(2,.bptr 3000 0),(3,.bptr 3001 0),(4,wI v4)],((3000,.box [wO Zbe 40000 E0.Players,wO Zk 40001 E0.Objects,wO (cI .i64) 40002 E0.Battlefield,wO (cI .i64) 40003 E0.Exile,wO Zbt 40004 E0.Stack,wO Zbv 40005 E0.Waiting,wO Zca 40006 E0.Conts,wI E0.Turn,wI E0.Active,wI E0.Step,wB E0.Begun,wI E0.Priority,wI E0.Passes,wI E0.NextId,wI E0.NextStamp,.t (.int .u64 E0.Seed),wO (cI .i64) 40016 E0.Extra,wI E0.Over,wI E0.Winner])::(40000,wR Zbe 14 E0.Players)::(40001,wR Zk 19 E0.Objects)::(40002,wR (cI .i64) 1 E0.Battlefield)::(40003,wR (cI .i64) 1 E0.Exile)::(40004,wR Zbt 94 E0.Stack)::(40005,wR Zbv 89 E0.Waiting)::(40006,wR Zca 6 E0.Conts)::(40016,wR (cI .i64) 1 E0.Extra)::(3001,.box (tm9 E1 40100))::(tm16 E1 40100))⟩,Zawp v0 E0 E1 v4)
def Zarc:=fun a0=>Zahi.run (Zay9 a0)
theorem Zarz(a0){r}(h:Zarc a0=some r):FnG PR 30 [] [wL Zk a0] (tm16 r 5000) (.agg (tm9 r 5000)):=Zahi.fn h
theorem Zawq(a0:List Ze){r:Zl}(h:Zarc a0=some r):Fn PR 30 [wL Zk a0] (wA (Zaa r)):=
 FnG.frozen (C:=LT.RL Zk r.Objects/\LT.RL (cI .i64) r.Battlefield/\LT.RL (cI .i64) r.Exile/\LT.RL Zbt r.Stack/\LT.RL Zbv r.Waiting/\LT.RL Zca r.Conts/\LT.RL (cI .i64) r.Extra/\True) (Zarz a0 h) ⟨rfl,rfl,rfl,rfl,rfl,rfl,rfl,trivial⟩ (by kernel_rfl)
inductive Zpi where
 | L0 (E0:Zt) (v6:A5 Int) (v7:Int)
def Znm(E0:Zt)(v6:A5 Int)(v7:Int):LT Zpi Bool:=
.br (decide (v7 < 5)) (.idX (Zd.int .i64) (A5.list v6) v7 fun x2=>.cs (decide (x2 < 0)) (.k3 1<|.kn [0]<|.rt false)<|.k3 1<|.br (decide (x2 > 9)) (.rt false)<|.g0 (.L0 E0 v6 (IntKind.wrap .i64 (v7+1))))<|.cs (decide (E0.Generic>=0)) (.k4 1<|.cs (decide (E0.Generic<=99)) (.k4 2<|.cs (decide (E0.X>=0)) (.k4 3<|.rt (decide (E0.X<=2)))<|.k4 3<|.rt false)<|.k4 2<|.b4 false<|.rt false)<|.k4 1<|.b8 false<|.rt false
def Zady(a0:Zt):LT Zpi Bool:=
.lb 1001<|.go (.L0 a0 a0.Color 0) [.relab 1001 3000]
def Zyq:LF Zpi Bool := .m0 139 [.t 2] wB fun | .L0 E0 v6 v7=>([1,0,1,4],⟨35,[(1,.bptr 3000 0),(6,wA ((cA5 (cI .i64)) v6)),(7,wI v7)],[(3000,.box (bx (Zai E0)))]⟩,Znm E0 v6 v7)
def Z8j:=fun a0=>Zyq.run (Zady a0)
theorem Zane(a0){r}(h:Z8j a0=some r):Fn PR 139 [wA (Zai a0)] (wB r):=Zyq.fn h
inductive Zn0 where
 | L0 (v3:Int) (v16:A5 Int) (v17:Int)
def Zws(v3:Int)(v16:A5 Int)(v17:Int):LT Zn0 Int:=
.br (decide (v17 < 5)) (.idX (Zd.int .i64) (A5.list v16) v17 fun x2=>.br (decide (x2 > 0)) (.ok (¬ v17 < 0)<|.g0 (.L0 (Zbf .or .i64 v3 (Z10 .i64 1 v17)) v16 (IntKind.wrap .i64 (v17+1))))<|.g0 (.L0 v3 v16 (IntKind.wrap .i64 (v17+1))))<|.rt v3
def Zabg(a0:Zt):LT Zn0 Int:=
.lb 1001<|.call (Zane a0) fun x1=>.cs (!x1) (.k5 0<|.kn [0]<|.rt 0)<|.k5 0<|.br (Z5 ((cA5 (cI .i64)) a0.Color) ((cA5 (cI .i64)) (⟨0,0,0,0,0⟩:A5 Int))) (.rt 0)<|.g0 (.L0 0 a0.Color 0)
def Zabh:LF Zn0 Int := .m0 88 [.t 2] wI fun | .L0 v3 v16 v17=>([1,1,1,0,1,4],⟨29,[(3,wI v3),(16,wA ((cA5 (cI .i64)) v16)),(17,wI v17)],[]⟩,Zws v3 v16 v17)
def Z6u:=fun a0=>Zabh.run (Zabg a0)
theorem Zapd(a0){r}(h:Z6u a0=some r):Fn PR 88 [wA (Zai a0)] (wI r):=Zabh.fn h
def Zgo(a0:Bys)(hne:a0≠[]):LT Empty (Bys):=
.ne cS hne<|.kn [0]<|.lb 1005<|.apR cS 16 ([]:Bys) a0 fun x1=>.ret x1 [.relab 1005 5000]
def Zbo:LF Empty (Bys) := .z 89 [.t 2] true (fun r=>[(5000,wR cS 1 r)]) (fun r=>(wO cS 5000 r))
def Zd8(c:Nat):LT Empty (Bys):=
.kn [0]<|.ret ([]:Bys) [.own 2 5000 1]
def Zsz(c:Nat)(ad:Addr):LT Empty (Bys):=
.kn [0]<|.lb 1005<|.apR cS 16 ([]:Bys) ([]:Bys) fun x1=>.ret x1 [.relab 1005 5000]
open Classical in
def Zex(a0:Bys):Option (Bys):=if h:a0≠[] then Zbo.run (Zgo a0 h) else Zbo.run (Zd8 0)
theorem Zf7(a0:Bys){r:Bys}(h:Zex a0=some r):FnG PR 89 [] [wL cS a0] [(5000,wR cS 1 r)] (wO cS 5000 r):=by
 by_cases hne:a0=[]
 .subst hne
  have h0:Zbo.run (Zd8 0)=some r:=h
  exact FnG.split0 (fun e=>absurd rfl e) (fun _ a c=>by
   cases a with
   | none=>exact Zbo.fn (t:=Zd8 c) h0
   | some ad=>exact Zbo.fn (t:=Zsz c ad) h0)
 .have h0:Zbo.run (Zgo a0 hne)=some r:=by unfold Zex at h;rwa [dif_pos hne] at h
  exact FnG.split0 (fun _=>Zbo.fn h0) (fun e=>absurd (List.map_eq_nil_iff.1 e) hne)
def Zf8(a0:List Zi)(hne:a0≠[]):LT Empty (List Zi):=
.ne Zm hne<|.kn [0]<|.lb 1005<|.apR Zm 176 ([]:List Zi) a0 fun x1=>.ret x1 [.relab 1005 5000]
def Zbj:LF Empty (List Zi) := .z 32 [.t 2] true (fun r=>[(5000,wR Zm 20 r)]) (fun r=>(wO Zm 5000 r))
def Zdx(c:Nat):LT Empty (List Zi):=
.kn [0]<|.ret ([]:List Zi) [.own 2 5000 20]
def Zq4(c:Nat)(ad:Addr):LT Empty (List Zi):=
.kn [0]<|.lb 1005<|.apR Zm 176 ([]:List Zi) ([]:List Zi) fun x1=>.ret x1 [.relab 1005 5000]
open Classical in
def Zc4(a0:List Zi):Option (List Zi):=if h:a0≠[] then Zbj.run (Zf8 a0 h) else Zbj.run (Zdx 0)
theorem Ziu(a0:List Zi){r:List Zi}(h:Zc4 a0=some r):FnG PR 32 [] [wL Zm a0] [(5000,wR Zm 20 r)] (wO Zm 5000 r):=by
 by_cases hne:a0=[]
 .subst hne
  have h0:Zbj.run (Zdx 0)=some r:=h
  exact FnG.split0 (fun e=>absurd rfl e) (fun _ a c=>by
   cases a with
   | none=>exact Zbj.fn (t:=Zdx c) h0
   | some ad=>exact Zbj.fn (t:=Zq4 c ad) h0)
 .have h0:Zbj.run (Zf8 a0 hne)=some r:=by unfold Zc4 at h;rwa [dif_pos hne] at h
  exact FnG.split0 (fun _=>Zbj.fn h0) (fun e=>absurd (List.map_eq_nil_iff.1 e) hne)
theorem Zcp(a0:List Zi){r:List Zi}(h:Zc4 a0=some r):Fn PR 32 [wL Zm a0] (wL Zm r):=
 FnG.frozen (C:=LT.RL Zm r/\True) (Ziu a0 h) ⟨rfl,trivial⟩ (by kernel_rfl)
def Ze9(a0:List Zba)(hne:a0≠[]):LT Empty (List Zba):=
.ne Zab hne<|.kn [0]<|.lb 1005<|.apR Zab 144 ([]:List Zba) a0 fun x1=>.ret x1 [.relab 1005 5000]
def Zbc:LF Empty (List Zba) := .z 140 [.t 2] true (fun r=>[(5000,wR Zab 18 r)]) (fun r=>(wO Zab 5000 r))
def Zdg(c:Nat):LT Empty (List Zba):=
.kn [0]<|.ret ([]:List Zba) [.own 2 5000 18]
def Zpj(c:Nat)(ad:Addr):LT Empty (List Zba):=
.kn [0]<|.lb 1005<|.apR Zab 144 ([]:List Zba) ([]:List Zba) fun x1=>.ret x1 [.relab 1005 5000]
open Classical in
def Zcu(a0:List Zba):Option (List Zba):=if h:a0≠[] then Zbc.run (Ze9 a0 h) else Zbc.run (Zdg 0)
theorem Zh1(a0:List Zba){r:List Zba}(h:Zcu a0=some r):FnG PR 140 [] [wL Zab a0] [(5000,wR Zab 18 r)] (wO Zab 5000 r):=by
 by_cases hne:a0=[]
 .subst hne
  have h0:Zbc.run (Zdg 0)=some r:=h
  exact FnG.split0 (fun e=>absurd rfl e) (fun _ a c=>by
   cases a with
   | none=>exact Zbc.fn (t:=Zdg c) h0
   | some ad=>exact Zbc.fn (t:=Zpj c ad) h0)
 .have h0:Zbc.run (Ze9 a0 hne)=some r:=by unfold Zcu at h;rwa [dif_pos hne] at h
  exact FnG.split0 (fun _=>Zbc.fn h0) (fun e=>absurd (List.map_eq_nil_iff.1 e) hne)
theorem Zpk(a0:List Zba){r:List Zba}(h:Zcu a0=some r):Fn PR 140 [wL Zab a0] (wL Zab r):=
 FnG.frozen (C:=LT.RL Zab r/\True) (Zh1 a0 h) ⟨rfl,trivial⟩ (by kernel_rfl)
def Zee(a0:List Zs)(hne:a0≠[]):LT Empty (List Zs):=
.ne Zq hne<|.kn [0]<|.lb 1005<|.apR Zq 560 ([]:List Zs) a0 fun x1=>.ret x1 [.relab 1005 5000]
def Za1:LF Empty (List Zs) := .z 141 [.t 2] true (fun r=>[(5000,wR Zq 64 r)]) (fun r=>(wO Zq 5000 r))
def Zcs(c:Nat):LT Empty (List Zs):=
.kn [0]<|.ret ([]:List Zs) [.own 2 5000 64]
def Znn(c:Nat)(ad:Addr):LT Empty (List Zs):=
.kn [0]<|.lb 1005<|.apR Zq 560 ([]:List Zs) ([]:List Zs) fun x1=>.ret x1 [.relab 1005 5000]
open Classical in
def Zc5(a0:List Zs):Option (List Zs):=if h:a0≠[] then Za1.run (Zee a0 h) else Za1.run (Zcs 0)
theorem Zgv(a0:List Zs){r:List Zs}(h:Zc5 a0=some r):FnG PR 141 [] [wL Zq a0] [(5000,wR Zq 64 r)] (wO Zq 5000 r):=by
 by_cases hne:a0=[]
 .subst hne
  have h0:Za1.run (Zcs 0)=some r:=h
  exact FnG.split0 (fun e=>absurd rfl e) (fun _ a c=>by
   cases a with
   | none=>exact Za1.fn (t:=Zcs c) h0
   | some ad=>exact Za1.fn (t:=Znn c ad) h0)
 .have h0:Za1.run (Zee a0 hne)=some r:=by unfold Zc5 at h;rwa [dif_pos hne] at h
  exact FnG.split0 (fun _=>Za1.fn h0) (fun e=>absurd (List.map_eq_nil_iff.1 e) hne)
inductive Zie where
 | L0 (E0:Zg) (E1:Zg) (v18:Int) (v19:Int)
def Zoi(E0:Zg)(E1:Zg)(v18:Int)(v19:Int):LT Zie Zg:=
.br (decide (v19 < v18)) (.idxR Zq E0.Effects v19 fun x2=>.rl Zq E0.Effects<|.ldR Zq E0.Effects x2 2<|.call (Zcp x2.Mods) fun x4=>.plR Zq E0.Effects v19 0<|.rl Zq E0.Effects<|.setD Zq E0.Effects v19 x2 (⟨x2.Op,x2.Ref,x2.Amount,x2.Counter,x2.Zone,x2.Card,x2.Filter,x2.Pool,x4⟩:Zs) 2 63 [.sl (List.map Zm x4)] rfl fun x6=>.dr [.ahead 34,.relen 40049,.stop]<|.us [3]<|.us [3]<|.us [3]<|.us [3]<|.us [3]<|.us [3]<|.us [3]<|.g0 (.L0 (⟨E0.Kind,E0.Filter,E0.Mods,E0.Price,E0.Slow,E0.Trigger,E0.May,E0.Specs,x6,E0.Replace⟩:Zg) E1 v18 (IntKind.wrap .i64 (v19+1))))<|.ret E0 [.relab 40017 5017,.relab 40048 5048,.relab 40049 5049]
def Zyr(a0:Zg):LT Zie Zg:=
.lb 1001<|.lb 1002<|.callF (Ziu a0.Mods) 70000 fun x1=>.callF (Zh1 a0.Specs) 110000 fun x3=>.callF (Zgv a0.Effects) 150000 fun x5=>.lenO Zq x5<|.go (.L0 (⟨a0.Kind,a0.Filter,x1,a0.Price,a0.Slow,a0.Trigger,a0.May,x3,x5,a0.Replace⟩:Zg) (⟨0,(⟨0,0,0,0,0,0,0,([]:By),0,0,(⟨0,0⟩:Za),(⟨0,0⟩:Za),(⟨0,0⟩:Za)⟩:Zc),([]:List Zi),(⟨(⟨0,0,(⟨0,0,0,0,0⟩:A5 Int)⟩:Zt),false,false,0⟩:Zic),false,(⟨0,0,(⟨0,0,0,0,0,0,0,([]:By),0,0,(⟨0,0⟩:Za),(⟨0,0⟩:Za),(⟨0,0⟩:Za)⟩:Zc)⟩:Zc3),false,([]:List Zba),([]:List Zs),(⟨0,0,(⟨0,0,0,0,0,0,0,([]:By),0,0,(⟨0,0⟩:Za),(⟨0,0⟩:Za),(⟨0,0⟩:Za)⟩:Zc),0,0,0,0⟩:Za7)⟩:Zg) (x5.length:Int) 0) [.relab 1001 3000,.relab 1002 3001,.relab 75000 40017,.relab 115000 40048,.relab 155000 40049,.ownb 3001 17 40117 20,.ownb 3001 48 40148 18,.ownb 3001 49 40149 64]
def Zys:LF Zie Zg := .m 90 [.c 2 89 true 72] true (fun r=>(tm17 r 5000)) (fun r=>(.agg (tm1 r 5000))) fun | .L0 E0 E1 v18 v19=>([1,1,1,1,0,1,4],⟨36,[(1,.bptr 3000 0),(2,.bptr 3001 0),(18,wI v18),(19,wI v19)],((3000,.box (tm1 E0 40000))::(40017,wR Zm 20 E0.Mods)::(40048,wR Zab 18 E0.Specs)::(40049,wR Zq 64 E0.Effects)::(3001,.box (tm1 E1 40100))::(tm17 E1 40100))⟩,Zoi E0 E1 v18 v19)
def Zno:=fun a0=>Zys.run (Zyr a0)
theorem Z97(a0){r}(h:Zno a0=some r):FnG PR 90 [] [wA (Zh a0)] (tm17 r 5000) (.agg (tm1 r 5000)):=Zys.fn h
theorem Zab6(a0:Zg){r:Zg}(h:Zno a0=some r):Fn PR 90 [wA (Zh a0)] (wA (Zh r)):=
 FnG.frozen (C:=LT.RL Zm r.Mods/\LT.RL Zab r.Specs/\LT.RL Zq r.Effects/\True) (Z97 a0 h) ⟨rfl,rfl,rfl,trivial⟩ (by kernel_rfl)
inductive Zmh where
 | L0 (E0:Zb) (E1:Zb) (v32:List Zg) (v33:Int) (v34:Int)
def Zup(E0:Zb)(E1:Zb)(v32:List Zg)(v33:Int)(v34:Int):LT Zmh Zb:=
.br (decide (v34 < v33)) (.idx Zh v32 v34 fun x2=>.lb 1005<|.call (Zab6 x2) fun x4=>.dr [.lit]<|.apR Zh 640 E1.Abilities [x4] fun x6=>.g0 (.L0 E0 (⟨E1.Name,E1.Cost,E1.Colors,E1.Line,E1.Power,E1.Tough,E1.Keys,x6,E1.Control⟩:Zb) v32 v33 (IntKind.wrap .i64 (v34+1))))<|.ret E1 [.relab 40111 5011,.relab 40115 5015]
def Z8k(a0:Zn):LT Zmh Zb:=
.lb 1001<|.lb 1002<|.call (Zapd a0.Cost) fun x1=>.lb 1003<|.callF (Zf7 a0.Line.Subs) 290000 fun x3=>.len Zh a0.Abilities<|.go (.L0 (⟨([]:By),(⟨0,0,(⟨0,0,0,0,0⟩:A5 Int)⟩:Zt),0,(⟨0,0,([]:Bys)⟩:Zah),0,0,0,([]:List Zg),0⟩:Zb) (⟨a0.Name,a0.Cost,Zbf .or .i64 x1 a0.Color,(⟨a0.Line.Super,a0.Line.Types,x3⟩:Zah),a0.Power,a0.Tough,a0.Keys,([]:List Zg),0⟩:Zb) a0.Abilities (a0.Abilities.length:Int) 0) [.relab 1002 3000,.relab 1003 3001,.ownb 3000 11 40011 1,.ownb 3000 15 40015 72,.relab 295000 40111,.ownb 3001 15 40115 72]
def Z8l:LF Zmh Zb := .m 51 [.c 2 66 true 17] true (fun r=>[(5011,wR cS 1 r.Line.Subs),(5015,wR Zh 72 r.Abilities)]) (fun r=>(.agg (tm2 r 5000))) fun | .L0 E0 E1 v32 v33 v34=>([1,1,1,0,1,4],⟨47,[(2,.bptr 3000 0),(3,.bptr 3001 0),(32,wL Zh v32),(33,wI v33),(34,wI v34)],[(3000,.box (tm2 E0 40000)),(40011,wR cS 1 E0.Line.Subs),(40015,wR Zh 72 E0.Abilities),(3001,.box (tm2 E1 40100)),(40111,wR cS 1 E1.Line.Subs),(40115,wR Zh 72 E1.Abilities)]⟩,Zup E0 E1 v32 v33 v34)
def Z21:=fun a0=>Z8l.run (Z8k a0)
theorem Zajl(a0){r}(h:Z21 a0=some r):FnG PR 51 [] [wA (Z4 a0)] [(5011,wR cS 1 r.Line.Subs),(5015,wR Zh 72 r.Abilities)] (.agg (tm2 r 5000)):=Z8l.fn h
inductive Zth where
 | L0 (v0:List Zn) (E0:Ze) (E1:Zb) (v5:Int)
 | L1 (E0:Ze) (E1:Zb) (E2:Zb)
def Zqh(E0:Ze)(E1:Zb)(E2:Zb):LT Zth Zb:=
.cs (E0.Zone==0) (.k4 0<|.kn [0]<|.ret (⟨E2.Name,E2.Cost,E2.Colors,E2.Line,E2.Power,E2.Tough,E2.Keys,E2.Abilities,E0.Control⟩:Zb) [.relab 40211 5011,.relab 40215 5015])<|.k4 0<|.br (E0.Zone==5) (.ret (⟨E2.Name,E2.Cost,E2.Colors,E2.Line,E2.Power,E2.Tough,E2.Keys,E2.Abilities,E0.Control⟩:Zb) [.relab 40211 5011,.relab 40215 5015])<|.ret (⟨E2.Name,E2.Cost,E2.Colors,E2.Line,E2.Power,E2.Tough,E2.Keys,E2.Abilities,E0.Owner⟩:Zb) [.relab 40211 5011,.relab 40215 5015]
def Zuq(v0:List Zn)(E0:Ze)(E1:Zb)(v5:Int):LT Zth Zb:=
.lb 1006<|.cs (decide (v5>=0)) (.k3 0<|.len Z4 v0<|.k2 0<|.br (decide (v5 < (v0.length:Int))) (.idx Z4 v0 v5 fun x4=>.callF (Zajl x4) 270000 fun x6=>.jn 0 (.L1 E0 E1 x6) [.relab 1006 3002,.relab 275011 40211,.relab 275015 40215] (Zqh E0 E1 x6))<|.jn 0 (.L1 E0 E1 (⟨([]:By),(⟨0,0,(⟨0,0,0,0,0⟩:A5 Int)⟩:Zt),0,(⟨0,0,([]:Bys)⟩:Zah),0,0,0,([]:List Zg),0⟩:Zb)) (tm15 1000 3000 40200) (Zqh E0 E1 (⟨([]:By),(⟨0,0,(⟨0,0,0,0,0⟩:A5 Int)⟩:Zt),0,(⟨0,0,([]:Bys)⟩:Zah),0,0,0,([]:List Zg),0⟩:Zb)))<|.k5 0<|.kn [0]<|.jn 0 (.L1 E0 E1 (⟨([]:By),(⟨0,0,(⟨0,0,0,0,0⟩:A5 Int)⟩:Zt),0,(⟨0,0,([]:Bys)⟩:Zah),0,0,0,([]:List Zg),0⟩:Zb)) (tm15 1000 3000 40200) (Zqh E0 E1 (⟨([]:By),(⟨0,0,(⟨0,0,0,0,0⟩:A5 Int)⟩:Zt),0,(⟨0,0,([]:Bys)⟩:Zah),0,0,0,([]:List Zg),0⟩:Zb))
def Zard(a0:List Zn)(a1:Ze):LT Zth Zb:=
.lb 1003<|.lb 1004<|.br (decide (a1.Copy < 0)) (.jn 0 (.L0 a0 a1 (⟨([]:By),(⟨0,0,(⟨0,0,0,0,0⟩:A5 Int)⟩:Zt),0,(⟨0,0,([]:Bys)⟩:Zah),0,0,0,([]:List Zg),0⟩:Zb) a1.Card) (tm14 1000 3000 40100) (Zuq a0 a1 (⟨([]:By),(⟨0,0,(⟨0,0,0,0,0⟩:A5 Int)⟩:Zt),0,(⟨0,0,([]:Bys)⟩:Zah),0,0,0,([]:List Zg),0⟩:Zb) a1.Card))<|.jn 0 (.L0 a0 a1 (⟨([]:By),(⟨0,0,(⟨0,0,0,0,0⟩:A5 Int)⟩:Zt),0,(⟨0,0,([]:Bys)⟩:Zah),0,0,0,([]:List Zg),0⟩:Zb) a1.Copy) (tm14 1000 3000 40100) (Zuq a0 a1 (⟨([]:By),(⟨0,0,(⟨0,0,0,0,0⟩:A5 Int)⟩:Zt),0,(⟨0,0,([]:Bys)⟩:Zah),0,0,0,([]:List Zg),0⟩:Zb) a1.Copy)
def Zare:LF Zth Zb := .m 31 [.c 4 66 true 17] true (fun r=>[(5011,wR cS 1 r.Line.Subs),(5015,wR Zh 72 r.Abilities)]) (fun r=>(.agg (tm2 r 5000))) fun | .L0 v0 E0 E1 v5=>([1,1,1],⟨42,[(0,wL Z4 v0),(3,.bptr 3000 0),(4,.bptr 3001 0),(5,wI v5)],[(3000,.box (bx (Zk E0))),(3001,.box (tm2 E1 40100)),(40111,wR cS 1 E1.Line.Subs),(40115,wR Zh 72 E1.Abilities)]⟩,Zuq v0 E0 E1 v5) | .L1 E0 E1 E2=>([1,1,1,1,1],⟨42,[(3,.bptr 3000 0),(4,.bptr 3001 0),(6,.bptr 3002 0)],[(3000,.box (bx (Zk E0))),(3001,.box (tm2 E1 40100)),(40111,wR cS 1 E1.Line.Subs),(40115,wR Zh 72 E1.Abilities),(3002,.box (tm2 E2 40200)),(40211,wR cS 1 E2.Line.Subs),(40215,wR Zh 72 E2.Abilities)]⟩,Zqh E0 E1 E2)
def Zafk:=fun a0 a1=>Zare.run (Zard a0 a1)
theorem Zaza(a0)(a1){r}(h:Zafk a0 a1=some r):FnG PR 31 [] [wL Z4 a0,wA (Zk a1)] [(5011,wR cS 1 r.Line.Subs),(5015,wR Zh 72 r.Abilities)] (.agg (tm2 r 5000)):=Zare.fn h
theorem Zanf(a0:List Zn)(a1:Ze){r:Zb}(h:Zafk a0 a1=some r):Fn PR 31 [wL Z4 a0,wA (Zk a1)] (wA (Zf r)):=
 FnG.frozen (C:=LT.RL cS r.Line.Subs/\LT.RL Zh r.Abilities/\True) (Zaza a0 a1 h) ⟨rfl,rfl,trivial⟩ (by kernel_rfl)
def Zjj(a0:List Int)(hne:a0≠[]):LT Empty (List Int):=
.ne (cI .i64) hne<|.kn [0]<|.lb 1005<|.apR (cI .i64) 8 ([]:List Int) a0 fun x1=>.ret x1 [.relab 1005 5000]
def Zct:LF Empty (List Int) := .z 33 [.t 2] true (fun r=>[(5000,wR (cI .i64) 1 r)]) (fun r=>(wO (cI .i64) 5000 r))
def Zgc(c:Nat):LT Empty (List Int):=
.kn [0]<|.ret ([]:List Int) [.own 2 5000 1]
def Zzn(c:Nat)(ad:Addr):LT Empty (List Int):=
.kn [0]<|.lb 1005<|.apR (cI .i64) 8 ([]:List Int) ([]:List Int) fun x1=>.ret x1 [.relab 1005 5000]
open Classical in
def Zfh(a0:List Int):Option (List Int):=if h:a0≠[] then Zct.run (Zjj a0 h) else Zct.run (Zgc 0)
theorem Zyt(a0:List Int){r:List Int}(h:Zfh a0=some r):FnG PR 33 [] [wL (cI .i64) a0] [(5000,wR (cI .i64) 1 r)] (wO (cI .i64) 5000 r):=by
 by_cases hne:a0=[]
 .subst hne
  have h0:Zct.run (Zgc 0)=some r:=h
  exact FnG.split0 (fun e=>absurd rfl e) (fun _ a c=>by
   cases a with
   | none=>exact Zct.fn (t:=Zgc c) h0
   | some ad=>exact Zct.fn (t:=Zzn c ad) h0)
 .have h0:Zct.run (Zjj a0 hne)=some r:=by unfold Zfh at h;rwa [dif_pos hne] at h
  exact FnG.split0 (fun _=>Zct.fn h0) (fun e=>absurd (List.map_eq_nil_iff.1 e) hne)
theorem Zzo(a0:List Int){r:List Int}(h:Zfh a0=some r):Fn PR 33 [wL (cI .i64) a0] (wL (cI .i64) r):=
 FnG.frozen (C:=LT.RL (cI .i64) r/\True) (Zyt a0 h) ⟨rfl,trivial⟩ (by kernel_rfl)
inductive Zhl where
 | L0 (v0:List Zn) (E0:Zl) (v5:List Zal) (v13:List Ze) (v14:Int) (v15:Int)
 | L1 (v0:List Zn) (E0:Zl) (v5:List Zal) (E1:Ze) (v13:List Ze) (v14:Int) (v15:Int) (v25:List Zg) (v26:Int) (v27:Int)
 | L2 (v5:List Zal) (v54:List Zdn) (v55:Int) (v56:Int)
def Zur(v0:List Zn)(E0:Zl)(v5:List Zal)(v13:List Ze)(v14:Int)(v15:Int):LT Zhl (List Zal):=
.br (decide (v15 < v14)) (.idx Zk v13 v15 fun x2=>.lb 1007<|.br (x2.Zone != 0) (.g0 (.L0 v0 E0 v5 v13 v14 (IntKind.wrap .i64 (v15+1))))<|.call (Zanf v0 x2) fun x7=>.len Zh x7.Abilities<|.go (.L1 v0 E0 v5 x2 v13 v14 v15 x7.Abilities (x7.Abilities.length:Int) 0) [.relab 1007 3001])<|.len Zca E0.Conts<|.g0 (.L2 v5 E0.Conts (E0.Conts.length:Int) 0)
def Zus(v0:List Zn)(E0:Zl)(v5:List Zal)(E1:Ze)(v13:List Ze)(v14:Int)(v15:Int)(v25:List Zg)(v26:Int)(v27:Int):LT Zhl (List Zal):=
.br (decide (v27 < v26)) (.idx Zh v25 v27 fun x2=>.lb 1009<|.br (x2.Kind==1) (.call (Zcp x2.Mods) fun x5=>.dr [.lit]<|.apR Z2 224 v5 [(⟨E1.Id,v27,E1.Control,E1.Stamp,false,([]:List Int),x2.Filter,x5⟩:Zal)] fun x7=>.g0 (.L1 v0 E0 x7 E1 v13 v14 v15 v25 v26 (IntKind.wrap .i64 (v27+1))))<|.g0 (.L1 v0 E0 v5 E1 v13 v14 v15 v25 v26 (IntKind.wrap .i64 (v27+1))))<|.g0 (.L0 v0 E0 v5 v13 v14 (IntKind.wrap .i64 (v15+1)))
def Zut(v5:List Zal)(v54:List Zdn)(v55:Int)(v56:Int):LT Zhl (List Zal):=
.br (decide (v56 < v55)) (.idx Zca v54 v56 fun x2=>.lb 1011<|.call (Zzo x2.Objects) fun x4=>.call (Zcp x2.Mods) fun x6=>.dr [.lit]<|.apR Z2 224 v5 [(⟨x2.Source,-1,x2.Control,x2.Stamp,true,x4,(⟨0,0,0,0,0,0,0,([]:By),0,0,(⟨0,0⟩:Za),(⟨0,0⟩:Za),(⟨0,0⟩:Za)⟩:Zc),x6⟩:Zal)] fun x8=>.g0 (.L2 x8 v54 v55 (IntKind.wrap .i64 (v56+1))))<|.ret v5 [.relab 20005 5000]
def Z8m(a0:List Zn)(a1:Zl):LT Zhl (List Zal):=
.lb 1003<|.len Zk a1.Objects<|.go (.L0 a0 a1 ([]:List Zal) a1.Objects (a1.Objects.length:Int) 0) [.relab 1003 3000,.own 5 20005 23]
def Z8n:LF Zhl (List Zal) := .m 12 [.t 4] true (fun r=>[(5000,wR Z2 23 r)]) (fun r=>(wO Z2 5000 r)) fun | .L0 v0 E0 v5 v13 v14 v15=>([1,1,0,1,4],⟨78,[(0,wL Z4 v0),(3,.bptr 3000 0),(5,wO Z2 20005 v5),(13,wL Zk v13),(14,wI v14),(15,wI v15)],[(3000,.box (bx (Zaa E0))),(20005,wR Z2 23 v5)]⟩,Zur v0 E0 v5 v13 v14 v15) | .L1 v0 E0 v5 E1 v13 v14 v15 v25 v26 v27=>([1,1,0,1,4,5,1,1,0,4,1,1,1,4],⟨78,[(0,wL Z4 v0),(3,.bptr 3000 0),(5,wO Z2 20005 v5),(7,.bptr 3001 0),(13,wL Zk v13),(14,wI v14),(15,wI v15),(25,wL Zh v25),(26,wI v26),(27,wI v27)],[(3000,.box (bx (Zaa E0))),(20005,wR Z2 23 v5),(3001,.box (bx (Zk E1)))]⟩,Zus v0 E0 v5 E1 v13 v14 v15 v25 v26 v27) | .L2 v5 v54 v55 v56=>([1,1,1,0,1,4],⟨78,[(5,wO Z2 20005 v5),(54,wL Zca v54),(55,wI v55),(56,wI v56)],[(20005,wR Z2 23 v5)]⟩,Zut v5 v54 v55 v56)
def Zuu:=fun a0 a1=>Z8n.run (Z8m a0 a1)
theorem Zajm(a0)(a1){r}(h:Zuu a0 a1=some r):FnG PR 12 [] [wL Z4 a0,wA (Zaa a1)] [(5000,wR Z2 23 r)] (wO Z2 5000 r):=Z8n.fn h
theorem Z47(a0:List Zn)(a1:Zl){r:List Zal}(h:Zuu a0 a1=some r):Fn PR 12 [wL Z4 a0,wA (Zaa a1)] (wL Z2 r):=
 FnG.frozen (C:=LT.RL Z2 r/\True) (Zajm a0 a1 h) ⟨rfl,trivial⟩ (by kernel_rfl)
end
end Go.PW
