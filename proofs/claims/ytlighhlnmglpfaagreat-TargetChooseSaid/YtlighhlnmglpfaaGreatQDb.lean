import Derived.Test.YtlighhlnmglpfaaGreatQDa
set_option linter.all false
set_option maxRecDepth 100000
namespace Go.PW
open Go.RowKit
noncomputable section
inductive Zgl where
 | L0 (v0:(List UInt8)) (v8:Int) (v9:Int)
def Zej(v0:(List UInt8))(v8:Int)(v9:Int):LT Zgl Int:=
.br (decide (v9 < v8)) (.call (Zanx v9) fun x2=>.br (!(x2==v0)) (.g0 (.L0 v0 v8 (IntKind.wrap .i64 (v9+1))))<|.ok (¬ v9 < 0)<|.rt (shlI .i64 1 v9))<|.rt 0
def Zme(a0:(List UInt8))(a1:Int):LT Zgl Int:=
.g0 (.L0 a0 a1 0)
def Zgm:LF Zgl Int:=⟨201,[.t 6],false,fun | .L0 .. => [1,6,1,0,1,4],
 fun | .L0 v0 v8 v9=>⟨20,[(0,(wS v0)),(2,(.fn 203 [])),(8,(wI v8)),(9,(wI v9))],[]⟩,
 fun r=>[],fun r=>(wI r),fun | .L0 v0 v8 v9=>Zej v0 v8 v9⟩
def Zhp(a0:(List UInt8))(a1:Int):Option Int:=Zgm.run (Zme a0 a1)
theorem Zyc(a0:(List UInt8))(a1:Int){r:Int}(h:Zhp a0 a1=some r):Fn PR 201 [(wS a0),(wI a1),(.fn 203 [])] (wI r):=Zgm.fn h
def Zafu(a0:(List UInt8)):LT Empty Bool:=
.call (Zbat a0) fun x1=>.cs x1 (.k2 0<|.call (Zxl a0 2) fun x4=>.k2 0<|.cs (x4==0) (.k2 1<|.call (Zyc a0 6) fun x7=>.k2 1<|.rt (x7==0))<|.k4 1<|.rt false)<|.k4 0<|.b4 false<|.rt false
def Zafv:LF Empty Bool := .z 161 [.t 2] false (fun r=>[]) (fun r=>(wB r))
def Zaaf(a0:(List UInt8)):Option Bool:=Zafv.run (Zafu a0)
theorem Zazz(a0:(List UInt8)){r:Bool}(h:Zaaf a0=some r):Fn PR 161 [(wS a0)] (wB r):=Zafv.fn h
def Z2a(a0:Zd):LT Empty Bool:=
.lb 1001<|.call (Zb1 a0.Kind 3) fun x1=>.cs x1 (.k3 0<|.call (Zb1 a0.N 1000000) fun x4=>.kg 0<|.cs x4 (.k4 1<|.cs (a0.Kind != 0) (.k3 2<|.kg 1<|.kg 2<|.kg 1<|.rt true)<|.k3 2<|.kg 1<|.kg 2<|.kg 1<|.rt (a0.N==0))<|.k5 1<|.kg 1<|.rt false)<|.k4 0<|.b5 false<|.kb false<|.rt false
def Z2b:LF Empty Bool := .z 162 [.t 2] false (fun r=>[]) (fun r=>(wB r))
def Zum(a0:Zd):Option Bool:=Z2b.run (Z2a a0)
theorem Zop(a0:Zd){r:Bool}(h:Zum a0=some r):Fn PR 162 [(wA (Zcr a0))] (wB r):=Z2b.fn h
inductive Zv5 where
 | L0 (E0:Ze)
def Zm2(E0:Ze):LT Zv5 Bool:=
.call (Zop E0.Power) fun x1=>.cs x1 (.k3 0<|.call (Zop E0.Tough) fun x4=>.kg 0<|.cs x4 (.k3 1<|.call (Zop E0.Value) fun x7=>.kg 1<|.rt x7)<|.k4 1<|.rt false)<|.k4 0<|.b4 false<|.rt false
def Zaky(a0:Ze):LT Zv5 Bool:=
.lb 1001<|.call (Zb1 a0.Zone 5) fun x1=>.cs (!x1) (.k5 0<|.b8 true<|.b5 true<|.b2 true<|.kn [0]<|.rt false)<|.k3 0<|.call (Zb1 a0.Who 2) fun x4=>.k2 0<|.cs (!x4) (.k5 1<|.b8 true<|.b2 true<|.kn [0]<|.rt false)<|.k3 1<|.call (Zb1 a0.Self 2) fun x7=>.k2 1<|.cs (!x7) (.k5 2<|.b5 true<|.kn [0]<|.rt false)<|.k3 2<|.call (Zb1 a0.Tap 2) fun x10=>.k2 2<|.cs (!x10) (.k5 3<|.kn [0]<|.rt false)<|.k3 3<|.call (Zb1 a0.Keys 131071) fun x13=>.k2 3<|.br (!x13) (.rt false)<|.call (Zb1 a0.Types 63) fun x16=>.cs (!x16) (.k5 5<|.b5 true<|.b2 true<|.kn [0]<|.rt false)<|.k3 5<|.call (Zb1 a0.NotTypes 63) fun x19=>.k2 5<|.cs (!x19) (.k5 6<|.k2 6<|.kn [0]<|.rt false)<|.k5 6<|.k2 6<|.br ((Zbm .and .i64 a0.Types a0.NotTypes) != 0) (.rt false)<|.call (Zb1 a0.Colors 31) fun x23=>.cs (!x23) (.k5 8<|.b5 true<|.b2 true<|.kn [0]<|.rt false)<|.k3 8<|.call (Zb1 a0.NotColors 31) fun x26=>.k2 8<|.cs (!x26) (.k5 9<|.k2 9<|.kn [0]<|.rt false)<|.k5 9<|.k2 9<|.br ((Zbm .and .i64 a0.Colors a0.NotColors) != 0) (.rt false)<|.cs (!(a0.Sub==([]:List UInt8))) (.k3 11<|.call (Zazz a0.Sub) fun x31=>.k2 11<|.br (!x31) (.rt false)<|.jn 0 (.L0 a0) [.relab 1001 30000000] (Zm2 a0))<|.k5 11<|.kn [0]<|.jn 0 (.L0 a0) [.relab 1001 30000000] (Zm2 a0)
def Zpm:LF Zv5 Bool:=⟨111,[.t 2],false,fun | .L0 .. => [1,1,1,1,1],
 fun | .L0 E0=>⟨89,[(1,(.bptr 30000000 0))],[(30000000,.box (bx (Zy E0)))]⟩,
 fun r=>[],fun r=>(wB r),fun | .L0 E0=>Zm2 E0⟩
def Zafw(a0:Ze):Option Bool:=Zpm.run (Zaky a0)
theorem Za45(a0:Ze){r:Bool}(h:Zafw a0=some r):Fn PR 111 [(wA (Zy a0))] (wB r):=Zpm.fn h
def Z2c(a0:Int)(a1:Int)(a2:Int):LT Empty Bool:=
.cs (a1==0) (.k5 0<|.b5 true<|.rt ((Zbm .and .i64 a0 a2)==0))<|.k5 0<|.cs ((Zbm .and .i64 a0 a1) != 0) (.k5 1<|.rt ((Zbm .and .i64 a0 a2)==0))<|.k5 1<|.rt false
def Z2d:LF Empty Bool := .z 112 [.t 6] false (fun r=>[]) (fun r=>(wB r))
def Zun(a0:Int)(a1:Int)(a2:Int):Option Bool:=Z2d.run (Z2c a0 a1 a2)
theorem Zzx(a0:Int)(a1:Int)(a2:Int){r:Bool}(h:Zun a0 a1 a2=some r):Fn PR 112 [(wI a0),(wI a1),(wI a2)] (wB r):=Z2d.fn h
def Zakz(a0:Zd)(a1:Int):LT Empty Bool:=
.lb 1002<|.br (a0.Kind==0) (.rt true)<|.br (a0.Kind==1) (.rt (decide (a1≥a0.N)))<|.br (a0.Kind==2) (.rt (decide (a1≤a0.N)))<|.br (a0.Kind==3) (.rt (a1==a0.N))<|.rt false
def Zak0:LF Empty Bool := .z 114 [.t 4] false (fun r=>[]) (fun r=>(wB r))
def Zafx(a0:Zd)(a1:Int):Option Bool:=Zak0.run (Zakz a0 a1)
theorem Zafy(a0:Zd)(a1:Int){r:Bool}(h:Zafx a0 a1=some r):Fn PR 114 [(wA (Zcr a0)),(wI a1)] (wB r):=Zak0.fn h
inductive Zcg where
 | L0 (v0:(List (List UInt8))) (v1:(List UInt8)) (v7:Int) (v8:Int)
def Zb8(v0:(List (List UInt8)))(v1:(List UInt8))(v7:Int)(v8:Int):LT Zcg Int:=
.br (decide (v8 < v7)) (.idx cS v0 v8 fun x2=>.br (v1==x2) (.rt v8)<|.g0 (.L0 v0 v1 v7 (IntKind.wrap .i64 (v8+1))))<|.rt (-1)
def Zhm(a0:(List (List UInt8)))(a1:(List UInt8)):LT Zcg Int:=
.len cS a0<|.g0 (.L0 a0 a1 (a0.length:Int) 0)
def Zc9:LF Zcg Int:=⟨204,[.t 4],false,fun | .L0 .. => [1,0,1,4],
 fun | .L0 v0 v1 v7 v8=>⟨19,[(0,(wL cS v0)),(1,(wS v1)),(7,(wI v7)),(8,(wI v8))],[]⟩,
 fun r=>[],fun r=>(wI r),fun | .L0 v0 v1 v7 v8=>Zb8 v0 v1 v7 v8⟩
def Zis(a0:(List (List UInt8)))(a1:(List UInt8)):Option Int:=Zc9.run (Zhm a0 a1)
theorem Zqu(a0:(List (List UInt8)))(a1:(List UInt8)){r:Int}(h:Zis a0 a1=some r):Fn PR 204 [(wL cS a0),(wS a1)] (wI r):=Zc9.fn h
def Zgg(a0:(List (List UInt8)))(a1:(List UInt8)):LT Empty Bool:=
.call (Zqu a0 a1) fun x1=>.rt (decide (x1≥0))
def Zgh:LF Empty Bool := .z 163 [.t 4] false (fun r=>[]) (fun r=>(wB r))
def Zg8(a0:(List (List UInt8)))(a1:(List UInt8)):Option Bool:=Zgh.run (Zgg a0 a1)
theorem Zn9(a0:(List (List UInt8)))(a1:(List UInt8)){r:Bool}(h:Zg8 a0 a1=some r):Fn PR 163 [(wL cS a0),(wS a1)] (wB r):=Zgh.fn h
def Zab0(a0:Z8)(a1:(List UInt8)):LT Empty Bool:=
.lb 1002<|.call (Zn9 a0.Subs a1) fun x1=>.rt x1
def Zab1:LF Empty Bool := .z 115 [.t 4] false (fun r=>[]) (fun r=>(wB r))
def Z6k(a0:Z8)(a1:(List UInt8)):Option Bool:=Zab1.run (Zab0 a0 a1)
theorem Zavq(a0:Z8)(a1:(List UInt8)){r:Bool}(h:Z6k a0 a1=some r):Fn PR 115 [(wA (Zei a0)),(wS a1)] (wB r):=Zab1.fn h
def Zab2(a0:Int)(a1:Int):LT Empty Bool:=
.rt ((Zbm .and .i64 a0 a1)==a1)
def Zab3:LF Empty Bool := .z 71 [.t 4] false (fun r=>[]) (fun r=>(wB r))
def Zv6(a0:Int)(a1:Int):Option Bool:=Zab3.run (Zab2 a0 a1)
theorem Zuo(a0:Int)(a1:Int){r:Bool}(h:Zv6 a0 a1=some r):Fn PR 71 [(wI a0),(wI a1)] (wB r):=Zab3.fn h
inductive Zxm where
 | L0 (E0:Z1) (v6:(A5 Int)) (v7:Int)
def Zsi(E0:Z1)(v6:(A5 Int))(v7:Int):LT Zxm Bool:=
.br (decide (v7 < 5)) (.idX (Zn.int .i64) (A5.list v6) v7 fun x2=>.cs (decide (x2 < 0)) (.k3 1<|.kn [0]<|.rt false)<|.k3 1<|.br (decide (x2 > 9)) (.rt false)<|.g0 (.L0 E0 v6 (IntKind.wrap .i64 (v7+1))))<|.cs (decide (E0.Generic≥0)) (.k4 1<|.cs (decide (E0.Generic≤99)) (.k4 2<|.cs (decide (E0.X≥0)) (.k4 3<|.rt (decide (E0.X≤2)))<|.k4 3<|.rt false)<|.k4 2<|.b4 false<|.rt false)<|.k4 1<|.b8 false<|.rt false
def Zayt(a0:Z1):LT Zxm Bool:=
.lb 1001<|.go (.L0 a0 a0.Color 0) [.relab 1001 30000000]
def Zxn:LF Zxm Bool:=⟨164,[.t 2],false,fun | .L0 .. => [1,0,1,4],
 fun | .L0 E0 v6 v7=>⟨35,[(1,(.bptr 30000000 0)),(6,(wA ((cA5 (cI .i64)) v6))),(7,(wI v7))],[(30000000,.box (bx (Zaz E0)))]⟩,
 fun r=>[],fun r=>(wB r),fun | .L0 E0 v6 v7=>Zsi E0 v6 v7⟩
def Zavr(a0:Z1):Option Bool:=Zxn.run (Zayt a0)
theorem Zbau(a0:Z1){r:Bool}(h:Zavr a0=some r):Fn PR 164 [(wA (Zaz a0))] (wB r):=Zxn.fn h
def Zak1(a0:Int):LT Empty Int:=
.rt (Zt8 (Zrp a0 (-1000000)) 1000000)
def Zak2:LF Empty Int := .z 205 [.t 2] false (fun r=>[]) (fun r=>(wI r))
def Zafz(a0:Int):Option Int:=Zak2.run (Zak1 a0)
theorem Zi6(a0:Int){r:Int}(h:Zafz a0=some r):Fn PR 205 [(wI a0)] (wI r):=Zak2.fn h
def Zayu(a0:Int)(a1:Int):LT Empty Int:=
.call (Zi6 a0) fun x1=>.call (Zi6 a1) fun x3=>.call (Zi6 (IntKind.wrap .i64 (x1*x3))) fun x7=>.rt x7
def Zayv:LF Empty Int := .z 166 [.t 4] false (fun r=>[]) (fun r=>(wI r))
def Zavs(a0:Int)(a1:Int):Option Int:=Zayv.run (Zayu a0 a1)
theorem Zbav(a0:Int)(a1:Int){r:Int}(h:Zavs a0 a1=some r):Fn PR 166 [(wI a0),(wI a1)] (wI r):=Zayv.fn h
def Zayw(a0:Int)(a1:Int):LT Empty Int:=
.call (Zi6 a0) fun x1=>.call (Zi6 a1) fun x3=>.call (Zi6 (IntKind.wrap .i64 (x1+x3))) fun x7=>.rt x7
def Zayx:LF Empty Int := .z 165 [.t 4] false (fun r=>[]) (fun r=>(wI r))
def Zavt(a0:Int)(a1:Int):Option Int:=Zayx.run (Zayw a0 a1)
theorem Zbaw(a0:Int)(a1:Int){r:Int}(h:Zavt a0 a1=some r):Fn PR 165 [(wI a0),(wI a1)] (wI r):=Zayx.fn h
inductive Z2e where
 | L0 (v1:Int) (E0:Z1) (v5:Int) (v14:(A5 Int)) (v15:Int)
def Zkv(v1:Int)(E0:Z1)(v5:Int)(v14:(A5 Int))(v15:Int):LT Z2e Int:=
.br (decide (v15 < 5)) (.idX (Zn.int .i64) (A5.list v14) v15 fun x2=>.g0 (.L0 v1 E0 (IntKind.wrap .i64 (v5+x2)) v14 (IntKind.wrap .i64 (v15+1))))<|.call (Zbav E0.X (Zrp 0 v1)) fun x8=>.call (Zbaw v5 x8) fun x10=>.rt x10
def Zaf0(a0:Z1)(a1:Int):LT Z2e Int:=
.lb 1002<|.call (Zbau a0) fun x1=>.br (!x1) (.rt 0)<|.go (.L0 a1 a0 a0.Generic a0.Color 0) [.relab 1002 30000000]
def Zsj:LF Z2e Int:=⟨116,[.t 4],false,fun | .L0 .. => [1,1,1,0,1,4],
 fun | .L0 v1 E0 v5 v14 v15=>⟨29,[(1,(wI v1)),(2,(.bptr 30000000 0)),(5,(wI v5)),(14,(wA ((cA5 (cI .i64)) v14))),(15,(wI v15))],[(30000000,.box (bx (Zaz E0)))]⟩,
 fun r=>[],fun r=>(wI r),fun | .L0 v1 E0 v5 v14 v15=>Zkv v1 E0 v5 v14 v15⟩
def Zaag(a0:Z1)(a1:Int):Option Int:=Zsj.run (Zaf0 a0 a1)
theorem Zaz0(a0:Z1)(a1:Int){r:Int}(h:Zaag a0 a1=some r):Fn PR 116 [(wA (Zaz a0)),(wI a1)] (wI r):=Zsj.fn h
def Zrc(a0:Zd)(a1:Int)(b0:Bool):LT Empty Bool:=
.lb 1003<|.cs (a0.Kind==0) (.k4 0<|.rt true)<|.k2 0<|.cs b0 (.k3 1<|.call (Zafy a0 a1) fun x3=>.kg 0<|.kg 1<|.kg 0<|.rt x3)<|.k3 1<|.kg 0<|.kg 1<|.kg 0<|.rt false
def Zrd(b0:Bool):LF Empty Bool := .z 113 [.t 5] true (fun r=>[(0,.box (bx (cB b0)))]) (fun r=>(wB r))
def Zl2(a0:Zd)(a1:Int)(b0:Bool):Option Bool:=(Zrd b0).run (Zrc a0 a1 b0)
theorem Zof(a0:Zd)(a1:Int)(b0:Bool){r:Bool}(h:Zl2 a0 a1 b0=some r):FnG PR 113 [(0,.box (bx (cB b0)))] [(wA (Zcr a0)),(wI a1),(.bptr 0 0)] [(0,.box (bx (cB b0)))] (wB r):=(Zrd b0).fn h
inductive Zfi where
 | L0 (v3:Int) (E0:Zl) (E1:Za) (E2:Ze) (E3:Bool) (v30:Bool)
 | L1 (E0:Zl) (E1:Za) (E2:Ze) (E3:Bool) (v49:Bool)
 | L2 (E0:Zl) (E1:Za) (E2:Ze) (E3:Bool) (v68:Bool)
 | L3 (E0:Zl) (E1:Za) (E2:Ze) (E3:Bool) (v88:Bool)
 | L4 (E0:Za) (E1:Ze) (E2:Bool)
def Ze5(E0:Za)(E1:Ze)(E2:Bool):LT Zfi Bool:=
.callO (Zof E1.Power E0.Power E2) [30000002] 1280000 (fun x=>[]) fun x1=>.cs x1 (.k5 0<|.kg 0<|.callO (Zof E1.Tough E0.Tough E2) [30000002] 1350000 (fun x=>[]) fun x4=>.kg 0<|.cs x4 (.k5 1<|.call (Zaz0 E0.Cost 0) fun x7=>.kg 1<|.call (Zafy E1.Value x7) fun x9=>.kg 1<|.rt x9)<|.k5 1<|.k2 1<|.rt false)<|.k5 0<|.k2 0<|.b5 false<|.b2 false<|.rt false
def Zf2(E0:Zl)(E1:Za)(E2:Ze)(E3:Bool)(v88:Bool):LT Zfi Bool:=
.br v88 (.rt false)<|.cs (E2.Tap==1) (.k4 1<|.br (!E0.Tapped) (.kn [3]<|.rt false)<|.cs (E2.Tap==2) (.k3 3<|.br E0.Tapped (.rt false)<|.jn 0 (.L4 E1 E2 E3) [.pick [6,9,13] [30000001,30000002,30000003],.relab 30000001 30000000,.relab 30000002 30000001,.relab 30000003 30000002] (Ze5 E1 E2 E3))<|.k3 3<|.kn [0]<|.jn 0 (.L4 E1 E2 E3) [.pick [6,9,13] [30000001,30000002,30000003],.relab 30000001 30000000,.relab 30000002 30000001,.relab 30000003 30000002] (Ze5 E1 E2 E3))<|.k4 1<|.kn [0]<|.cs (E2.Tap==2) (.k3 2<|.br E0.Tapped (.rt false)<|.jn 0 (.L4 E1 E2 E3) [.pick [6,9,13] [30000001,30000002,30000003],.relab 30000001 30000000,.relab 30000002 30000001,.relab 30000003 30000002] (Ze5 E1 E2 E3))<|.k3 2<|.kn [0]<|.jn 0 (.L4 E1 E2 E3) [.pick [6,9,13] [30000001,30000002,30000003],.relab 30000001 30000000,.relab 30000002 30000001,.relab 30000003 30000002] (Ze5 E1 E2 E3)
def Zh3(E0:Zl)(E1:Za)(E2:Ze)(E3:Bool)(v68:Bool):LT Zfi Bool:=
.br v68 (.rt false)<|.cs (!(E2.Sub==([]:List UInt8))) (.k5 1<|.call (Zavq E1.Line E2.Sub) fun x3=>.k2 1<|.br (!x3) (.j0 (.L3 E0 E1 E2 E3 (!x3)) (Zf2 E0 E1 E2 E3 (!x3)))<|.call (Zuo E1.Keys E2.Keys) fun x6=>.j0 (.L3 E0 E1 E2 E3 (!x6)) (Zf2 E0 E1 E2 E3 (!x6)))<|.k5 1<|.k2 1<|.kn [0]<|.call (Zuo E1.Keys E2.Keys) fun x8=>.j0 (.L3 E0 E1 E2 E3 (!x8)) (Zf2 E0 E1 E2 E3 (!x8))
def Zd6(E0:Zl)(E1:Za)(E2:Ze)(E3:Bool)(v49:Bool):LT Zfi Bool:=
.br v49 (.rt false)<|.call (Zzx E1.Line.Types E2.Types E2.NotTypes) fun x2=>.br (!x2) (.j0 (.L2 E0 E1 E2 E3 (!x2)) (Zh3 E0 E1 E2 E3 (!x2)))<|.call (Zzx E1.Colors E2.Colors E2.NotColors) fun x5=>.j0 (.L2 E0 E1 E2 E3 (!x5)) (Zh3 E0 E1 E2 E3 (!x5))
def Zby(v3:Int)(E0:Zl)(E1:Za)(E2:Ze)(E3:Bool)(v30:Bool):LT Zfi Bool:=
.br v30 (.rt false)<|.cs (E2.Self==1) (.k5 1<|.br (E0.Id != v3) (.j0 (.L1 E0 E1 E2 E3 (E0.Id != v3)) (Zd6 E0 E1 E2 E3 (E0.Id != v3)))<|.cs (E2.Self==2) (.k5 3<|.j0 (.L1 E0 E1 E2 E3 (E0.Id==v3)) (Zd6 E0 E1 E2 E3 (E0.Id==v3)))<|.k5 3<|.j0 (.L1 E0 E1 E2 E3 false) (Zd6 E0 E1 E2 E3 false))<|.k5 1<|.kn [0]<|.cs (E2.Self==2) (.k5 2<|.j0 (.L1 E0 E1 E2 E3 (E0.Id==v3)) (Zd6 E0 E1 E2 E3 (E0.Id==v3)))<|.k5 2<|.j0 (.L1 E0 E1 E2 E3 false) (Zd6 E0 E1 E2 E3 false)
def Z8l(a0:Zl)(a1:Za)(a2:Int)(a3:Int)(a4:Ze):LT Zfi Bool:=
.lb 1005<|.lb 1006<|.lb 1009<|.call (Za45 a4) fun x1=>.cs (!x1) (.k5 0<|.kg 0<|.kn [0]<|.rt false)<|.k5 0<|.kg 0<|.br (a0.Zone != a4.Zone) (.rt false)<|.lb 1011<|.cs (a4.Who==1) (.k5 2<|.br (a1.Control != a2) (.jn 0 (.L0 a3 a0 a1 a4 ((Zbm .and .i64 a1.Line.Types 1) != 0) (a1.Control != a2)) [.relab 1005 30000000,.relab 1006 30000001,.relab 1009 30000002,.relab 1011 30000003] (Zby a3 a0 a1 a4 ((Zbm .and .i64 a1.Line.Types 1) != 0) (a1.Control != a2)))<|.cs (a4.Who==2) (.k5 4<|.jn 0 (.L0 a3 a0 a1 a4 ((Zbm .and .i64 a1.Line.Types 1) != 0) (a1.Control==a2)) [.relab 1005 30000000,.relab 1006 30000001,.relab 1009 30000002,.relab 1011 30000003] (Zby a3 a0 a1 a4 ((Zbm .and .i64 a1.Line.Types 1) != 0) (a1.Control==a2)))<|.k5 4<|.jn 0 (.L0 a3 a0 a1 a4 ((Zbm .and .i64 a1.Line.Types 1) != 0) false) [.relab 1005 30000000,.relab 1006 30000001,.relab 1009 30000002,.relab 1011 30000003] (Zby a3 a0 a1 a4 ((Zbm .and .i64 a1.Line.Types 1) != 0) false))<|.k5 2<|.kn [0]<|.cs (a4.Who==2) (.k5 3<|.jn 0 (.L0 a3 a0 a1 a4 ((Zbm .and .i64 a1.Line.Types 1) != 0) (a1.Control==a2)) [.relab 1005 30000000,.relab 1006 30000001,.relab 1009 30000002,.relab 1011 30000003] (Zby a3 a0 a1 a4 ((Zbm .and .i64 a1.Line.Types 1) != 0) (a1.Control==a2)))<|.k5 3<|.jn 0 (.L0 a3 a0 a1 a4 ((Zbm .and .i64 a1.Line.Types 1) != 0) false) [.relab 1005 30000000,.relab 1006 30000001,.relab 1009 30000002,.relab 1011 30000003] (Zby a3 a0 a1 a4 ((Zbm .and .i64 a1.Line.Types 1) != 0) false)
def Zfj:LF Zfi Bool:=⟨67,[.t 10],false,fun | .L0 .. => [1,1,1,1,1,0,4,1] | .L1 .. => [1,1,1,1,1,0,4,1,3,1] | .L2 .. => [1,1,1,1,1,0,4,1,3,1,3,1] | .L3 .. => [1,1,1,1,1,0,4,1,3,1,3,1,3,1] | .L4 .. => [1,1,1,1,1,1],
 fun | .L0 v3 E0 E1 E2 E3 v30=>⟨144,[(3,(wI v3)),(5,(.bptr 30000000 0)),(6,(.bptr 30000001 0)),(9,(.bptr 30000002 0)),(12,(.fn 112 [])),(13,(.fn 113 [(.bptr 30000003 0)])),(30,(wB v30))],[(30000000,.box (bx (Zs E0))),(30000001,.box (bx (Zk E1))),(30000002,.box (bx (Zy E2))),(30000003,.box (bx (cB E3)))]⟩ | .L1 E0 E1 E2 E3 v49=>⟨144,[(5,(.bptr 30000000 0)),(6,(.bptr 30000001 0)),(9,(.bptr 30000002 0)),(12,(.fn 112 [])),(13,(.fn 113 [(.bptr 30000003 0)])),(49,(wB v49))],[(30000000,.box (bx (Zs E0))),(30000001,.box (bx (Zk E1))),(30000002,.box (bx (Zy E2))),(30000003,.box (bx (cB E3)))]⟩ | .L2 E0 E1 E2 E3 v68=>⟨144,[(5,(.bptr 30000000 0)),(6,(.bptr 30000001 0)),(9,(.bptr 30000002 0)),(13,(.fn 113 [(.bptr 30000003 0)])),(68,(wB v68))],[(30000000,.box (bx (Zs E0))),(30000001,.box (bx (Zk E1))),(30000002,.box (bx (Zy E2))),(30000003,.box (bx (cB E3)))]⟩ | .L3 E0 E1 E2 E3 v88=>⟨144,[(5,(.bptr 30000000 0)),(6,(.bptr 30000001 0)),(9,(.bptr 30000002 0)),(13,(.fn 113 [(.bptr 30000003 0)])),(88,(wB v88))],[(30000000,.box (bx (Zs E0))),(30000001,.box (bx (Zk E1))),(30000002,.box (bx (Zy E2))),(30000003,.box (bx (cB E3)))]⟩ | .L4 E0 E1 E2=>⟨144,[(6,(.bptr 30000000 0)),(9,(.bptr 30000001 0)),(13,(.fn 113 [(.bptr 30000002 0)]))],[(30000000,.box (bx (Zk E0))),(30000001,.box (bx (Zy E1))),(30000002,.box (bx (cB E2)))]⟩,
 fun r=>[],fun r=>(wB r),fun | .L0 v3 E0 E1 E2 E3 v30=>Zby v3 E0 E1 E2 E3 v30 | .L1 E0 E1 E2 E3 v49=>Zd6 E0 E1 E2 E3 v49 | .L2 E0 E1 E2 E3 v68=>Zh3 E0 E1 E2 E3 v68 | .L3 E0 E1 E2 E3 v88=>Zf2 E0 E1 E2 E3 v88 | .L4 E0 E1 E2=>Ze5 E0 E1 E2⟩
def Z2f(a0:Zl)(a1:Za)(a2:Int)(a3:Int)(a4:Ze):Option Bool:=Zfj.run (Z8l a0 a1 a2 a3 a4)
theorem Zase(a0:Zl)(a1:Za)(a2:Int)(a3:Int)(a4:Ze){r:Bool}(h:Z2f a0 a1 a2 a3 a4=some r):Fn PR 67 [(wA (Zs a0)),(wA (Zk a1)),(wI a2),(wI a3),(wA (Zy a4))] (wB r):=Zfj.fn h
inductive Zsk where
 | L0 (v1:(List Za)) (v2:Int) (v3:Int) (E0:Ze) (v11:(List Int)) (v16:(List Zl)) (v17:Int) (v18:Int)
 | L1 (v1:(List Za)) (v2:Int) (v3:Int) (E0:Ze) (v11:(List Int)) (E1:Zl) (E2:Za) (v16:(List Zl)) (v17:Int) (v18:Int)
def Zkw(v1:(List Za))(v2:Int)(v3:Int)(E0:Ze)(v11:(List Int))(E1:Zl)(E2:Za)(v16:(List Zl))(v17:Int)(v18:Int):LT Zsk (List Int):=
.call (Zase E1 E2 v2 v3 E0) fun x1=>.br x1 (.dr [.lit]<|.apR (cI .i64) 8 v11 [E1.Id] fun x5=>.g0 (.L0 v1 v2 v3 E0 x5 v16 v17 (IntKind.wrap .i64 (v18+1))))<|.g0 (.L0 v1 v2 v3 E0 v11 v16 v17 (IntKind.wrap .i64 (v18+1)))
def Zkx(v1:(List Za))(v2:Int)(v3:Int)(E0:Ze)(v11:(List Int))(v16:(List Zl))(v17:Int)(v18:Int):LT Zsk (List Int):=
.br (decide (v18 < v17)) (.idx Zs v16 v18 fun x2=>.lb 1013<|.lb 1014<|.len Zk v1<|.br (decide (v18 < (v1.length:Int))) (.idx Zk v1 v18 fun x6=>.jn 0 (.L1 v1 v2 v3 E0 v11 x2 x6 v16 v17 v18) [.relab 1013 30000001,.relab 1014 30000002] (Zkw v1 v2 v3 E0 v11 x2 x6 v16 v17 v18))<|.jn 0 (.L1 v1 v2 v3 E0 v11 x2 (⟨([]:List UInt8),(⟨0,0,(⟨0,0,0,0,0⟩:(A5 Int))⟩:Z1),0,(⟨0,0,([]:(List (List UInt8)))⟩:Z8),0,0,0,([]:(List Zt)),0⟩:Za) v16 v17 v18) [.relab 1013 30000001,.relab 1014 30000002,.niltb 30000002 11,.niltb 30000002 15] (Zkw v1 v2 v3 E0 v11 x2 (⟨([]:List UInt8),(⟨0,0,(⟨0,0,0,0,0⟩:(A5 Int))⟩:Z1),0,(⟨0,0,([]:(List (List UInt8)))⟩:Z8),0,0,0,([]:(List Zt)),0⟩:Za) v16 v17 v18))<|.ret v11 [.relab 20000011 5000]
def Zaf1(a0:Zb)(a1:(List Za))(a2:Int)(a3:Int)(a4:Ze):LT Zsk (List Int):=
.lb 1005<|.lb 1009<|.len Zs a0.Objects<|.go (.L0 a1 a2 a3 a4 ([]:(List Int)) a0.Objects (a0.Objects.length:Int) 0) [.relab 1009 30000000,.own 11 20000011 1]
def Z2g:LF Zsk (List Int):=⟨34,[.t 10],true,fun | .L0 .. => [1,1,0,1,4] | .L1 .. => [1,1,0,1,4,5,1,1,0,4,1,1,1],
 fun | .L0 v1 v2 v3 E0 v11 v16 v17 v18=>⟨44,[(1,(wL Zk v1)),(2,(wI v2)),(3,(wI v3)),(9,(.bptr 30000000 0)),(11,(wO (cI .i64) 20000011 v11)),(16,(wL Zs v16)),(17,(wI v17)),(18,(wI v18))],[(30000000,.box (bx (Zy E0))),(20000011,wR (cI .i64) 1 v11)]⟩ | .L1 v1 v2 v3 E0 v11 E1 E2 v16 v17 v18=>⟨44,[(1,(wL Zk v1)),(2,(wI v2)),(3,(wI v3)),(9,(.bptr 30000000 0)),(11,(wO (cI .i64) 20000011 v11)),(13,(.bptr 30000001 0)),(14,(.bptr 30000002 0)),(16,(wL Zs v16)),(17,(wI v17)),(18,(wI v18))],[(30000000,.box (bx (Zy E0))),(20000011,wR (cI .i64) 1 v11),(30000001,.box (bx (Zs E1))),(30000002,.box (bx (Zk E2)))]⟩,
 fun r=>[(5000,wR (cI .i64) 1 r)],fun r=>(wO (cI .i64) 5000 r),fun | .L0 v1 v2 v3 E0 v11 v16 v17 v18=>Zkx v1 v2 v3 E0 v11 v16 v17 v18 | .L1 v1 v2 v3 E0 v11 E1 E2 v16 v17 v18=>Zkw v1 v2 v3 E0 v11 E1 E2 v16 v17 v18⟩
def Zz9(a0:Zb)(a1:(List Za))(a2:Int)(a3:Int)(a4:Ze):Option (List Int):=Z2g.run (Zaf1 a0 a1 a2 a3 a4)
theorem Zavu(a0:Zb)(a1:(List Za))(a2:Int)(a3:Int)(a4:Ze){r:(List Int)}(h:Zz9 a0 a1 a2 a3 a4=some r):FnG PR 34 [] [(wA (Zu a0)),(wL Zk a1),(wI a2),(wI a3),(wA (Zy a4))] [(5000,wR (cI .i64) 1 r)] (wO (cI .i64) 5000 r):=Z2g.fn h
def Zpn(a0:Zl)(b0:Int):LT Empty Bool:=
.lb 1002<|.rt (a0.Id==b0)
def Zpo(b0:Int):LF Empty Bool := .z 70 [.t 3] true (fun r=>[(0,.box (bx ((cI .i64) b0)))]) (fun r=>(wB r))
def Zkh(a0:Zl)(b0:Int):Option Bool:=(Zpo b0).run (Zpn a0 b0)
theorem Z2h(a0:Zl)(b0:Int){r:Bool}(h:Zkh a0 b0=some r):FnG PR 70 [(0,.box (bx ((cI .i64) b0)))] [(wA (Zs a0)),(.bptr 0 0)] [(0,.box (bx ((cI .i64) b0)))] (wB r):=(Zpo b0).fn h
inductive Za3 where
 | L0 (v0:(List Zl)) (c0:Int) (v7:Int) (v8:Int)
def Zbq(v0:(List Zl))(c0:Int)(v7:Int)(v8:Int):LT Za3 (Int×Int):=
.br (decide (v8 < v7)) (.idx Zs v0 v8 fun x2=>.callO (Z2h x2 c0) [0] 170000 (fun x=>[]) fun x4=>.br x4 (.rt (v8,c0))<|.g0 (.L0 v0 c0 v7 (IntKind.wrap .i64 (v8+1))))<|.rt ((-1),c0)
def Zcn(a0:(List Zl))(b0:Int):LT Za3 (Int×Int):=
.len Zs a0<|.g0 (.L0 a0 b0 (a0.length:Int) 0)
def Zco:LF Za3 (Int×Int):=⟨69,[.t 4],true,fun | .L0 .. => [1,0,1,4],
 fun | .L0 v0 c0 v7 v8=>⟨19,[(0,(wL Zs v0)),(1,(.fn 70 [(.bptr 0 0)])),(7,(wI v7)),(8,(wI v8))],[(0,.box (bx ((cI .i64) c0)))]⟩,
 fun r=>[(0,.box (bx ((cI .i64) r.2)))],fun r=>(wI r.1),fun | .L0 v0 c0 v7 v8=>Zbq v0 c0 v7 v8⟩
def Zbt(a0:(List Zl))(b0:Int):Option (Int×Int):=Zco.run (Zcn a0 b0)
theorem Zey(a0:(List Zl))(b0:Int){r:(Int×Int)}(h:Zbt a0 b0=some r):FnG PR 69 [(0,.box (bx ((cI .i64) b0)))] [(wL Zs a0),(.fn 70 [(.bptr 0 0)])] [(0,.box (bx ((cI .i64) r.2)))] (wI r.1):=Zco.fn h
inductive Zh4 where
 | L0 (E0:Zb) (E1:Zj) (E2:Int) (v9:Int) (E3:Za)
def Zg9(E0:Zb)(E1:Zj)(E2:Int)(v9:Int)(E3:Za):LT Zh4 Bool:=
.idx Zs E0.Objects v9 fun x1=>.br (x1.Zone==0) (.call (Zuo E3.Keys 2048) fun x4=>.cs x4 (.k5 1<|.kg 1<|.rt (E3.Control != E1.You))<|.k5 1<|.kg 1<|.rt false)<|.br (x1.Zone==5) (.rt (E2==E1.Source))<|.rt false
def Z40(a0:Zb)(a1:(List Za))(a2:Zj)(a3:Int):LT Zh4 Bool:=
.lb 1004<|.lb 1006<|.lb 1007<|.callU (Zey a0.Objects a3) [1007] 150000 fun x1=>.br (decide (x1.1 < 0)) (.rt true)<|.lb 1010<|.len Zk a1<|.br (decide (x1.1 < (a1.length:Int))) (.idx Zk a1 x1.1 fun x6=>.jn 0 (.L0 a0 a2 x1.2 x1.1 x6) [.relab 1004 30000000,.relab 1006 30000001,.relab 1007 30000002,.relab 1010 30000003] (Zg9 a0 a2 x1.2 x1.1 x6))<|.jn 0 (.L0 a0 a2 x1.2 x1.1 (⟨([]:List UInt8),(⟨0,0,(⟨0,0,0,0,0⟩:(A5 Int))⟩:Z1),0,(⟨0,0,([]:(List (List UInt8)))⟩:Z8),0,0,0,([]:(List Zt)),0⟩:Za)) [.relab 1004 30000000,.relab 1006 30000001,.relab 1007 30000002,.relab 1010 30000003,.niltb 30000003 11,.niltb 30000003 15] (Zg9 a0 a2 x1.2 x1.1 (⟨([]:List UInt8),(⟨0,0,(⟨0,0,0,0,0⟩:(A5 Int))⟩:Z1),0,(⟨0,0,([]:(List (List UInt8)))⟩:Z8),0,0,0,([]:(List Zt)),0⟩:Za))
def Z41:LF Zh4 Bool:=⟨37,[.t 8],false,fun | .L0 .. => [1,1,1,1,1],
 fun | .L0 E0 E1 E2 v9 E3=>⟨49,[(4,(.bptr 30000000 0)),(6,(.bptr 30000001 0)),(7,(.bptr 30000002 0)),(9,(wI v9)),(10,(.bptr 30000003 0))],[(30000000,.box (bx (Zu E0))),(30000001,.box (bx (Zao E1))),(30000002,.box (bx ((cI .i64) E2))),(30000003,.box (bx (Zk E3)))]⟩,
 fun r=>[],fun r=>(wB r),fun | .L0 E0 E1 E2 v9 E3=>Zg9 E0 E1 E2 v9 E3⟩
def Zyd(a0:Zb)(a1:(List Za))(a2:Zj)(a3:Int):Option Bool:=Z41.run (Z40 a0 a1 a2 a3)
theorem Zany(a0:Zb)(a1:(List Za))(a2:Zj)(a3:Int){r:Bool}(h:Zyd a0 a1 a2 a3=some r):Fn PR 37 [(wA (Zu a0)),(wL Zk a1),(wA (Zao a2)),(wI a3)] (wB r):=Z41.fn h
def Zjz(a0:Int)(a1:Zb)(a2:(List Za))(a3:Zj):LT Empty Bool:=
.call (Zany a1 a2 a3 a0) fun x1=>.rt x1
def Zj0:LF Empty Bool := .z 36 [.t 5] false (fun r=>[]) (fun r=>(wB r))
def Zgn(a0:Int)(a1:Zb)(a2:(List Za))(a3:Zj):Option Bool:=Zj0.run (Zjz a0 a1 a2 a3)
theorem Zi7(a0:Int)(a1:Zb)(a2:(List Za))(a3:Zj){r:Bool}(h:Zgn a0 a1 a2 a3=some r):Fn PR 36 [(wI a0),(.vptr (Zu a1)),(.vptr ((cL Zk) a2)),(.vptr (Zao a3))] (wB r):=Zj0.fn h
inductive Zbl where
 | L0 (v0:(List Int)) (w1_0:Zb) (w1_1:(List Za)) (w1_2:Zj) (v7:Int) (v8:Int)
def Zch(v0:(List Int))(w1_0:Zb)(w1_1:(List Za))(w1_2:Zj)(v7:Int)(v8:Int):LT Zbl Int:=
.br (decide (v8 < v7)) (.idx (cI .i64) v0 v8 fun x2=>.call (Zi7 x2 w1_0 w1_1 w1_2) fun x4=>.br x4 (.rt v8)<|.g0 (.L0 v0 w1_0 w1_1 w1_2 v7 (IntKind.wrap .i64 (v8+1))))<|.rt (-1)
def Zd7(a0:(List Int))(a1:Zb)(a1_1:(List Za))(a1_2:Zj):LT Zbl Int:=
.len (cI .i64) a0<|.g0 (.L0 a0 a1 a1_1 a1_2 (a0.length:Int) 0)
def Zd8:LF Zbl Int:=⟨68,[.t 4],false,fun | .L0 .. => [1,0,1,4],
 fun | .L0 v0 w1_0 w1_1 w1_2 v7 v8=>⟨19,[(0,(wL (cI .i64) v0)),(1,(.fn 36 [(.vptr (Zu w1_0)),(.vptr ((cL Zk) w1_1)),(.vptr (Zao w1_2))])),(7,(wI v7)),(8,(wI v8))],[]⟩,
 fun r=>[],fun r=>(wI r),fun | .L0 v0 w1_0 w1_1 w1_2 v7 v8=>Zch v0 w1_0 w1_1 w1_2 v7 v8⟩
def Zct(a0:(List Int))(a1:Zb)(a1_1:(List Za))(a1_2:Zj):Option Int:=Zd8.run (Zd7 a0 a1 a1_1 a1_2)
theorem Zhq(a0:(List Int))(a1:Zb)(a1_1:(List Za))(a1_2:Zj){r:Int}(h:Zct a0 a1 a1_1 a1_2=some r):Fn PR 68 [(wL (cI .i64) a0),(.fn 36 [(.vptr (Zu a1)),(.vptr ((cL Zk) a1_1)),(.vptr (Zao a1_2))])] (wI r):=Zd8.fn h
inductive Zbh where
 | L0 (v0:(List Int)) (w1_0:Zb) (w1_1:(List Za)) (w1_2:Zj) (v5:Int) (v6:Int)
def Zbz(v0:(List Int))(w1_0:Zb)(w1_1:(List Za))(w1_2:Zj)(v5:Int)(v6:Int):LT Zbh (List Int):=
.lenO (cI .i64) v0<|.br (decide (v6 < (v0.length:Int))) (.idxR (cI .i64) v0 v6 fun x3=>.ldR (cI .i64) v0 x3 2<|.call (Zi7 x3 w1_0 w1_1 w1_2) fun x5=>.br (!x5) (.idxR (cI .i64) v0 v5 fun x8=>.setR (cI .i64) v0 v5 x8 x3 5 0 [(.int .i64 x3)] rfl fun x10=>.dr [.ahead 34,.relen 20000000,.stop]<|.us [6]<|.us [6]<|.us [6]<|.us [6]<|.us [6]<|.us [6]<|.g0 (.L0 x10 w1_0 w1_1 w1_2 (IntKind.wrap .i64 (v5+1)) (IntKind.wrap .i64 (v6+1))))<|.g0 (.L0 v0 w1_0 w1_1 w1_2 v5 (IntKind.wrap .i64 (v6+1))))<|.tlR (cI .i64) v0 v5 0 fun x18=>.clR (cI .i64) v0 x18 0<|.dr [.ahead 39,.relen 20000000,.stop]<|.us [2]<|.us [2]<|.us [2]<|.trR (cI .i64) x18 v5 fun x20=>.ret x20 [.relab 20000000 5000]
def Zdc(b0:(List Int))(a1:Zb)(a1_1:(List Za))(a1_2:Zj):LT Zbh (List Int):=
.rl (cI .i64) b0<|.call (Zhq b0 a1 a1_1 a1_2) fun x1=>.br (x1==(-1)) (.ret b0 [.relab 0 5000])<|.go (.L0 b0 a1 a1_1 a1_2 x1 (IntKind.wrap .i64 (x1+1))) [.relab 0 20000000]
def Zdd:LF Zbh (List Int):=⟨35,[.t 4],true,fun | .L0 .. => [1,1,1,0,1,4],
 fun | .L0 v0 w1_0 w1_1 w1_2 v5 v6=>⟨42,[(0,(wO (cI .i64) 20000000 v0)),(1,(.fn 36 [(.vptr (Zu w1_0)),(.vptr ((cL Zk) w1_1)),(.vptr (Zao w1_2))])),(5,(wI v5)),(6,(wI v6))],[(20000000,wR (cI .i64) 1 v0)]⟩,
 fun r=>[(5000,wR (cI .i64) 1 r)],fun r=>(wO (cI .i64) 5000 r),fun | .L0 v0 w1_0 w1_1 w1_2 v5 v6=>Zbz v0 w1_0 w1_1 w1_2 v5 v6⟩
def Zb4(b0:(List Int))(a1:Zb)(a1_1:(List Za))(a1_2:Zj):Option (List Int):=Zdd.run (Zdc b0 a1 a1_1 a1_2)
theorem Zfx(b0:(List Int))(a1:Zb)(a1_1:(List Za))(a1_2:Zj){r:(List Int)}(h:Zb4 b0 a1 a1_1 a1_2=some r):FnG PR 35 [(0,wR (cI .i64) 1 b0)] [(wO (cI .i64) 0 b0),(.fn 36 [(.vptr (Zu a1)),(.vptr ((cL Zk) a1_1)),(.vptr (Zao a1_2))])] [(5000,wR (cI .i64) 1 r)] (wO (cI .i64) 5000 r):=Zdd.fn h
inductive Zky where
 | L0 (E0:Zb) (E1:(List Za)) (E2:Zj) (E3:Zr) (v9:(List Zi))
def Zi8(E0:Zb)(E1:(List Za))(E2:Zj)(E3:Zr)(v9:(List Zi)):LT Zky (List Zi):=
.br E3.Object (.callF (Zavu E0 E1 E2.You E2.Source E3.Filter) 290000 fun x2=>.callW (Zfx x2 E0 E1 E2) [295000] 320000 (fun _=>⟨rfl,Z01 (cI .i64) (fun _=>rfl) _,trivial⟩) fun x4=>.rl (cI .i64) x4<|.callS (Zxj 5 x4) 350000 (fun _=>⟨rfl,Z01 Zh (fun _=>rfl) _,trivial⟩) fun x6=>.rl Zh x6<|.apR Zh 24 v9 x6 fun x8=>.ret x8 [.relab 20000009 5000])<|.ret v9 [.relab 20000009 5000]
def Zab4(a0:Zb)(a1:(List Za))(a2:Zj)(a3:Zr):LT Zky (List Zi):=
.lb 1004<|.lb 1005<|.lb 1006<|.lb 1007<|.br a3.Player (.call (Zasd a0) fun x2=>.call (Zai6 6 x2) fun x4=>.apN Zh 1017 24 x4 fun x6=>.jn 0 (.L0 a0 a1 a2 a3 x6) [.relab 1004 30000000,.relab 1005 30000001,.relab 1006 30000002,.relab 1007 30000003,.relab 1017 20000009] (Zi8 a0 a1 a2 a3 x6))<|.jn 0 (.L0 a0 a1 a2 a3 ([]:(List Zi))) [.relab 1004 30000000,.relab 1005 30000001,.relab 1006 30000002,.relab 1007 30000003,.own 9 20000009 3] (Zi8 a0 a1 a2 a3 ([]:(List Zi)))
def Zab5:LF Zky (List Zi):=⟨13,[.t 8],true,fun | .L0 .. => [1,1,1],
 fun | .L0 E0 E1 E2 E3 v9=>⟨37,[(4,(.bptr 30000000 0)),(5,(.bptr 30000001 0)),(6,(.bptr 30000002 0)),(7,(.bptr 30000003 0)),(9,(wO Zh 20000009 v9))],[(30000000,.box (bx (Zu E0))),(30000001,.box (bx ((cL Zk) E1))),(30000002,.box (bx (Zao E2))),(30000003,.box (bx (Z4 E3))),(20000009,wR Zh 3 v9)]⟩,
 fun r=>[(5000,wR Zh 3 r)],fun r=>(wO Zh 5000 r),fun | .L0 E0 E1 E2 E3 v9=>Zi8 E0 E1 E2 E3 v9⟩
def Zv7(a0:Zb)(a1:(List Za))(a2:Zj)(a3:Zr):Option (List Zi):=Zab5.run (Zab4 a0 a1 a2 a3)
theorem Zasf(a0:Zb)(a1:(List Za))(a2:Zj)(a3:Zr){r:(List Zi)}(h:Zv7 a0 a1 a2 a3=some r):FnG PR 13 [] [(wA (Zu a0)),(wL Zk a1),(wA (Zao a2)),(wA (Z4 a3))] [(5000,wR Zh 3 r)] (wO Zh 5000 r):=Zab5.fn h
theorem Zgz(a0:Zb)(a1:(List Za))(a2:Zj)(a3:Zr){r:(List Zi)}(h:Zv7 a0 a1 a2 a3=some r):Fn PR 13 [(wA (Zu a0)),(wL Zk a1),(wA (Zao a2)),(wA (Z4 a3))] (wL Zh r):=
 FnG.frozen (C:=LT.RL Zh r∧True) (Zasf a0 a1 a2 a3 h) ⟨rfl,trivial⟩ (by kernel_rfl)
inductive Zi9 where
 | L0 (E0:Zm) (v3:Int) (v8:Int) (v9:Bool)
 | L1 (E0:Zm) (v3:Int) (v8:Int) (v19:Bool)
def Zkz(E0:Zm)(v3:Int)(v8:Int)(v19:Bool):LT Zi9 Bool:=
.br v19 (.rt (v3==0))<|.br (v8==3) (.cs (E0.Least==E0.Most) (.k4 2<|.cs (E0.Least==0) (.k4 3<|.kg 2<|.kg 3<|.kg 2<|.rt true)<|.k4 3<|.kg 2<|.kg 3<|.kg 2<|.rt (E0.Least==v3))<|.k5 2<|.kg 2<|.rt false)<|.br (v8==5) (.rt (E0.Least==E0.Most))<|.rt true
def Zdv(E0:Zm)(v3:Int)(v8:Int)(v9:Bool):LT Zi9 Bool:=
.br v9 (.rt (decide (v3≤1)))<|.br (v8==6) (.j0 (.L1 E0 v3 v8 (v8==6)) (Zkz E0 v3 v8 (v8==6)))<|.j0 (.L1 E0 v3 v8 (v8==7)) (Zkz E0 v3 v8 (v8==7))
def Zaf2(a0:Zm):LT Zi9 Bool:=
.lb 1001<|.len Zh a0.Options<|.br (a0.Kind==1) (.jn 0 (.L0 a0 (a0.Options.length:Int) a0.Kind (a0.Kind==1)) [.relab 1001 30000000] (Zdv a0 (a0.Options.length:Int) a0.Kind (a0.Kind==1)))<|.br (a0.Kind==2) (.jn 0 (.L0 a0 (a0.Options.length:Int) a0.Kind (a0.Kind==2)) [.relab 1001 30000000] (Zdv a0 (a0.Options.length:Int) a0.Kind (a0.Kind==2)))<|.br (a0.Kind==9) (.jn 0 (.L0 a0 (a0.Options.length:Int) a0.Kind (a0.Kind==9)) [.relab 1001 30000000] (Zdv a0 (a0.Options.length:Int) a0.Kind (a0.Kind==9)))<|.br (a0.Kind==10) (.jn 0 (.L0 a0 (a0.Options.length:Int) a0.Kind (a0.Kind==10)) [.relab 1001 30000000] (Zdv a0 (a0.Options.length:Int) a0.Kind (a0.Kind==10)))<|.br (a0.Kind==11) (.jn 0 (.L0 a0 (a0.Options.length:Int) a0.Kind (a0.Kind==11)) [.relab 1001 30000000] (Zdv a0 (a0.Options.length:Int) a0.Kind (a0.Kind==11)))<|.br (a0.Kind==4) (.jn 0 (.L0 a0 (a0.Options.length:Int) a0.Kind (a0.Kind==4)) [.relab 1001 30000000] (Zdv a0 (a0.Options.length:Int) a0.Kind (a0.Kind==4)))<|.jn 0 (.L0 a0 (a0.Options.length:Int) a0.Kind (a0.Kind==8)) [.relab 1001 30000000] (Zdv a0 (a0.Options.length:Int) a0.Kind (a0.Kind==8))
def Zaf3:LF Zi9 Bool:=⟨75,[.t 2],false,fun | .L0 .. => [1,1,0,1,4,1] | .L1 .. => [1,1,0,1,4,1,3,1],
 fun | .L0 E0 v3 v8 v9=>⟨49,[(1,(.bptr 30000000 0)),(3,(wI v3)),(8,(wI v8)),(9,(wB v9))],[(30000000,.box (bx (Zay E0)))]⟩ | .L1 E0 v3 v8 v19=>⟨49,[(1,(.bptr 30000000 0)),(3,(wI v3)),(8,(wI v8)),(19,(wB v19))],[(30000000,.box (bx (Zay E0)))]⟩,
 fun r=>[],fun r=>(wB r),fun | .L0 E0 v3 v8 v9=>Zdv E0 v3 v8 v9 | .L1 E0 v3 v8 v19=>Zkz E0 v3 v8 v19⟩
def Zaah(a0:Zm):Option Bool:=Zaf3.run (Zaf2 a0)
theorem Zaz1(a0:Zm){r:Bool}(h:Zaah a0=some r):Fn PR 75 [(wA (Zay a0))] (wB r):=Zaf3.fn h
inductive Zpp where
 | L0 (v3:(List Int)) (v5:Int) (v6:Int)
def Z2i(v3:(List Int))(v5:Int)(v6:Int):LT Zpp (List Int):=
.br (decide (v6 < v5)) (.dr [.lit]<|.apR (cI .i64) 8 v3 [v6] fun x3=>.g0 (.L0 x3 v5 (IntKind.wrap .i64 (v6+1))))<|.ret v3 [.relab 20000003 5000]
def Zak3(a0:Int):LT Zpp (List Int):=
.go (.L0 ([]:(List Int)) a0 0) [.own 3 20000003 1]
def Zak4:LF Zpp (List Int):=⟨124,[.t 2],true,fun | .L0 .. => [1,1,0,1,4],
 fun | .L0 v3 v5 v6=>⟨15,[(3,(wO (cI .i64) 20000003 v3)),(5,(wI v5)),(6,(wI v6))],[(20000003,wR (cI .i64) 1 v3)]⟩,
 fun r=>[(5000,wR (cI .i64) 1 r)],fun r=>(wO (cI .i64) 5000 r),fun | .L0 v3 v5 v6=>Z2i v3 v5 v6⟩
def Zaf4(a0:Int):Option (List Int):=Zak4.run (Zak3 a0)
theorem Zab6(a0:Int){r:(List Int)}(h:Zaf4 a0=some r):FnG PR 124 [] [(wI a0)] [(5000,wR (cI .i64) 1 r)] (wO (cI .i64) 5000 r):=Zak4.fn h
inductive Zk0 where
 | L0 (E0:Zm) (v3:Int) (v9:Int) (v10:Bool)
def Zet(E0:Zm)(v3:Int)(v9:Int)(v10:Bool):LT Zk0 (List Int):=
.br v10 (.lb 1016<|.ret [0] [.relab 1016 5000])<|.br (v9==3) (.callF (Zab6 (Zt8 (Zrp E0.Least 0) v3)) 250000 fun x4=>.ret x4 [.relab 255000 5000])<|.br (v9==4) (.callF (Zab6 v3) 290000 fun x7=>.ret x7 [.relab 295000 5000])<|.br (v9==5) (.lb 1033<|.ret [E0.Least] [.relab 1033 5000])<|.br (v9==8) (.br (decide (v3 > 0)) (.mk (cI .i64) 1039 8 0 v3 v3 fun x13=>.idxR (cI .i64) x13 0 fun x15=>.setR (cI .i64) x13 0 x15 E0.N 2 0 [(.int .i64 E0.N)] rfl fun x17=>.dr [.ahead 44,.relen 1039,.stop]<|.us [3]<|.us [3]<|.us [3]<|.us [3]<|.ret x17 [.relab 1039 5000])<|.ret ([]:(List Int)) [.own 2 5000 1])<|.ret ([]:(List Int)) [.own 2 5000 1]
def Zab7(a0:Zm):LT Zk0 (List Int):=
.lb 1001<|.len Zh a0.Options<|.br (a0.Kind==1) (.jn 0 (.L0 a0 (a0.Options.length:Int) a0.Kind (a0.Kind==1)) [.relab 1001 30000000] (Zet a0 (a0.Options.length:Int) a0.Kind (a0.Kind==1)))<|.br (a0.Kind==2) (.jn 0 (.L0 a0 (a0.Options.length:Int) a0.Kind (a0.Kind==2)) [.relab 1001 30000000] (Zet a0 (a0.Options.length:Int) a0.Kind (a0.Kind==2)))<|.br (a0.Kind==9) (.jn 0 (.L0 a0 (a0.Options.length:Int) a0.Kind (a0.Kind==9)) [.relab 1001 30000000] (Zet a0 (a0.Options.length:Int) a0.Kind (a0.Kind==9)))<|.br (a0.Kind==10) (.jn 0 (.L0 a0 (a0.Options.length:Int) a0.Kind (a0.Kind==10)) [.relab 1001 30000000] (Zet a0 (a0.Options.length:Int) a0.Kind (a0.Kind==10)))<|.jn 0 (.L0 a0 (a0.Options.length:Int) a0.Kind (a0.Kind==11)) [.relab 1001 30000000] (Zet a0 (a0.Options.length:Int) a0.Kind (a0.Kind==11))
def Zab8:LF Zk0 (List Int):=⟨76,[.t 2],true,fun | .L0 .. => [1,1,0,1,4,1],
 fun | .L0 E0 v3 v9 v10=>⟨45,[(1,(.bptr 30000000 0)),(3,(wI v3)),(9,(wI v9)),(10,(wB v10))],[(30000000,.box (bx (Zay E0)))]⟩,
 fun r=>[(5000,wR (cI .i64) 1 r)],fun r=>(wO (cI .i64) 5000 r),fun | .L0 E0 v3 v9 v10=>Zet E0 v3 v9 v10⟩
def Z6l(a0:Zm):Option (List Int):=Zab8.run (Zab7 a0)
theorem Zh5(a0:Zm){r:(List Int)}(h:Z6l a0=some r):FnG PR 76 [] [(wA (Zay a0))] [(5000,wR (cI .i64) 1 r)] (wO (cI .i64) 5000 r):=Zab8.fn h
def Zm3(a0:(List Zi)):LT Empty (List Zi):=
.apN Zh 1006 24 a0 fun x1=>.ret x1 [.relab 1006 5000]
def Zm4:LF Empty (List Zi) := .z 77 [.t 2] true (fun r=>[(5000,wR Zh 3 r)]) (fun r=>(wO Zh 5000 r))
def Zif(a0:(List Zi)):Option (List Zi):=Zm4.run (Zm3 a0)
theorem Zk1(a0:(List Zi)){r:(List Zi)}(h:Zif a0=some r):FnG PR 77 [] [(wL Zh a0)] [(5000,wR Zh 3 r)] (wO Zh 5000 r):=Zm4.fn h
inductive Zdi where
 | L0 (v0:(List Int)) (v1:Int) (v7:Int) (v8:Int)
def Zgb(v0:(List Int))(v1:Int)(v7:Int)(v8:Int):LT Zdi Int:=
.br (decide (v8 < v7)) (.idx (cI .i64) v0 v8 fun x2=>.br (v1==x2) (.rt v8)<|.g0 (.L0 v0 v1 v7 (IntKind.wrap .i64 (v8+1))))<|.rt (-1)
def Zmf(a0:(List Int))(a1:Int):LT Zdi Int:=
.len (cI .i64) a0<|.g0 (.L0 a0 a1 (a0.length:Int) 0)
def Zmg:LF Zdi Int:=⟨207,[.t 4],false,fun | .L0 .. => [1,0,1,4],
 fun | .L0 v0 v1 v7 v8=>⟨19,[(0,(wL (cI .i64) v0)),(1,(wI v1)),(7,(wI v7)),(8,(wI v8))],[]⟩,
 fun r=>[],fun r=>(wI r),fun | .L0 v0 v1 v7 v8=>Zgb v0 v1 v7 v8⟩
def Zhr(a0:(List Int))(a1:Int):Option Int:=Zmg.run (Zmf a0 a1)
theorem Zk2(a0:(List Int))(a1:Int){r:Int}(h:Zhr a0 a1=some r):Fn PR 207 [(wL (cI .i64) a0),(wI a1)] (wI r):=Zmg.fn h
def Zab9(a0:(List Int))(a1:Int):LT Empty Int:=
.call (Zk2 a0 a1) fun x1=>.rt x1
def Zaca:LF Empty Int := .z 172 [.t 4] false (fun r=>[]) (fun r=>(wI r))
def Z6m(a0:(List Int))(a1:Int):Option Int:=Zaca.run (Zab9 a0 a1)
theorem Zavv(a0:(List Int))(a1:Int){r:Int}(h:Z6m a0 a1=some r):Fn PR 172 [(wL (cI .i64) a0),(wI a1)] (wI r):=Zaca.fn h
inductive Zk3 where
 | L0 (v1:(List Int)) (E0:Zm) (v7:(List Int)) (v8:Int) (v9:Int)
def Zup(v1:(List Int))(E0:Zm)(v7:(List Int))(v8:Int)(v9:Int):LT Zk3 Bool:=
.br (decide (v9 < v8)) (.idx (cI .i64) v7 v9 fun x2=>.cs (decide (x2 < 0)) (.k5 1<|.kg 1<|.b5 true<|.kb true<|.kn [0]<|.rt false)<|.k4 1<|.len Zh E0.Options<|.k2 1<|.cs (decide (x2≥(E0.Options.length:Int))) (.k5 2<|.kg 2<|.kn [0]<|.rt false)<|.k3 2<|.call (Zavv v1 x2) fun x7=>.k3 2<|.br (x7 != v9) (.rt false)<|.g0 (.L0 v1 E0 v7 v8 (IntKind.wrap .i64 (v9+1))))<|.rt true
def Zacb(a0:Zm)(a1:(List Int)):LT Zk3 Bool:=
.lb 1002<|.len (cI .i64) a1<|.go (.L0 a1 a0 a1 (a1.length:Int) 0) [.relab 1002 30000000]
def Zacc:LF Zk3 Bool:=⟨125,[.t 4],false,fun | .L0 .. => [1,0,1,4],
 fun | .L0 v1 E0 v7 v8 v9=>⟨31,[(1,(wL (cI .i64) v1)),(2,(.bptr 30000000 0)),(7,(wL (cI .i64) v7)),(8,(wI v8)),(9,(wI v9))],[(30000000,.box (bx (Zay E0)))]⟩,
 fun r=>[],fun r=>(wB r),fun | .L0 v1 E0 v7 v8 v9=>Zup v1 E0 v7 v8 v9⟩
def Z6n(a0:Zm)(a1:(List Int)):Option Bool:=Zacc.run (Zacb a0 a1)
theorem Zoa(a0:Zm)(a1:(List Int)){r:Bool}(h:Z6n a0 a1=some r):Fn PR 125 [(wA (Zay a0)),(wL (cI .i64) a1)] (wB r):=Zacc.fn h
def Zja(a0:(List Int))(a1:Int):LT Empty Bool:=
.call (Zk2 a0 a1) fun x1=>.rt (decide (x1≥0))
def Zjb:LF Empty Bool := .z 208 [.t 4] false (fun r=>[]) (fun r=>(wB r))
def Zgc(a0:(List Int))(a1:Int):Option Bool:=Zjb.run (Zja a0 a1)
theorem Zty(a0:(List Int))(a1:Int){r:Bool}(h:Zgc a0 a1=some r):Fn PR 208 [(wL (cI .i64) a0),(wI a1)] (wB r):=Zjb.fn h
def Zak5(a0:(List Int))(a1:Int):LT Empty Bool:=
.call (Zty a0 a1) fun x1=>.rt x1
def Zak6:LF Empty Bool := .z 173 [.t 4] false (fun r=>[]) (fun r=>(wB r))
def Zaf5(a0:(List Int))(a1:Int):Option Bool:=Zak6.run (Zak5 a0 a1)
theorem Za46(a0:(List Int))(a1:Int){r:Bool}(h:Zaf5 a0 a1=some r):Fn PR 173 [(wL (cI .i64) a0),(wI a1)] (wB r):=Zak6.fn h
inductive Zjc where
 | L0 (E0:Zm) (v5:(List Int)) (v8:(List Int)) (v9:Int) (v10:Int)
def Zsl(E0:Zm)(v5:(List Int))(v8:(List Int))(v9:Int)(v10:Int):LT Zjc Bool:=
.br (decide (v10 < v9)) (.idx (cI .i64) v8 v10 fun x2=>.idx Zh E0.Options x2 fun x4=>.rl (cI .i64) v5<|.call (Za46 v5 x4.A) fun x6=>.br x6 (.rt false)<|.ag Zh x4 3<|.dr [.lit]<|.apR (cI .i64) 8 v5 [x4.A] fun x10=>.g0 (.L0 E0 x10 v8 v9 (IntKind.wrap .i64 (v10+1))))<|.rt true
def Z8m(a0:Zm)(a1:(List Int)):LT Zjc Bool:=
.lb 1002<|.len (cI .i64) a1<|.go (.L0 a0 ([]:(List Int)) a1 (a1.length:Int) 0) [.relab 1002 30000000,.own 5 20000005 1]
def Z8n:LF Zjc Bool:=⟨126,[.t 4],false,fun | .L0 .. => [1,1,0,1,4],
 fun | .L0 E0 v5 v8 v9 v10=>⟨32,[(2,(.bptr 30000000 0)),(5,(wO (cI .i64) 20000005 v5)),(8,(wL (cI .i64) v8)),(9,(wI v9)),(10,(wI v10))],[(30000000,.box (bx (Zay E0))),(20000005,wR (cI .i64) 1 v5)]⟩,
 fun r=>[],fun r=>(wB r),fun | .L0 E0 v5 v8 v9 v10=>Zsl E0 v5 v8 v9 v10⟩
def Z2j(a0:Zm)(a1:(List Int)):Option Bool:=Z8n.run (Z8m a0 a1)
theorem Zasg(a0:Zm)(a1:(List Int)){r:Bool}(h:Z2j a0 a1=some r):Fn PR 126 [(wA (Zay a0)),(wL (cI .i64) a1)] (wB r):=Z8n.fn h
inductive Zjd where
 | L0 (v1:(List Int)) (E0:Zm) (v5:Int) (v8:(List Int)) (v9:Int) (v10:Int)
def Zsm(v1:(List Int))(E0:Zm)(v5:Int)(v8:(List Int))(v9:Int)(v10:Int):LT Zjd Bool:=
.br (decide (v10 < v9)) (.idx (cI .i64) v8 v10 fun x2=>.cs (decide (x2 < 0)) (.k3 1<|.kn [0]<|.rt false)<|.k3 1<|.br (decide (x2 > 1000000)) (.rt false)<|.g0 (.L0 v1 E0 (IntKind.wrap .i64 (v5+x2)) v8 v9 (IntKind.wrap .i64 (v10+1))))<|.len (cI .i64) v1<|.len Zh E0.Options<|.cs ((v1.length:Int)==(E0.Options.length:Int)) (.k5 1<|.rt (v5==E0.N))<|.k5 1<|.rt false
def Z8o(a0:Zm)(a1:(List Int)):LT Zjd Bool:=
.lb 1002<|.len (cI .i64) a1<|.go (.L0 a1 a0 0 a1 (a1.length:Int) 0) [.relab 1002 30000000]
def Z8p:LF Zjd Bool:=⟨127,[.t 4],false,fun | .L0 .. => [1,1,0,1,4],
 fun | .L0 v1 E0 v5 v8 v9 v10=>⟨36,[(1,(wL (cI .i64) v1)),(2,(.bptr 30000000 0)),(5,(wI v5)),(8,(wL (cI .i64) v8)),(9,(wI v9)),(10,(wI v10))],[(30000000,.box (bx (Zay E0)))]⟩,
 fun r=>[],fun r=>(wB r),fun | .L0 v1 E0 v5 v8 v9 v10=>Zsm v1 E0 v5 v8 v9 v10⟩
def Z2k(a0:Zm)(a1:(List Int)):Option Bool:=Z8p.run (Z8o a0 a1)
theorem Zash(a0:Zm)(a1:(List Int)){r:Bool}(h:Z2k a0 a1=some r):Fn PR 127 [(wA (Zay a0)),(wL (cI .i64) a1)] (wB r):=Z8p.fn h
inductive Zlx where
 | L0 (v1:(List Int)) (E0:Zm) (v9:Int) (v10:Bool)
 | L1 (v1:(List Int)) (E0:Zm) (v9:Int) (v77:Bool)
def Zm5(v1:(List Int))(E0:Zm)(v9:Int)(v77:Bool):LT Zlx Bool:=
.br v77 (.call (Zoa E0 v1) fun x2=>.cs x2 (.k3 1<|.call (Zasg E0 v1) fun x5=>.kg 1<|.rt x5)<|.k4 1<|.rt false)<|.br (v9==8) (.call (Zash E0 v1) fun x8=>.rt x8)<|.rt false
def Zfu(v1:(List Int))(E0:Zm)(v9:Int)(v10:Bool):LT Zlx Bool:=
.br v10 (.len (cI .i64) v1<|.cs ((v1.length:Int)==1) (.k3 1<|.call (Zoa E0 v1) fun x4=>.kg 1<|.rt x4)<|.k4 1<|.rt false)<|.br (v9==3) (.len (cI .i64) v1<|.cs (decide ((v1.length:Int)≥E0.Least)) (.k2 2<|.len (cI .i64) v1<|.k4 2<|.cs (decide ((v1.length:Int)≤E0.Most)) (.k3 3<|.call (Zoa E0 v1) fun x10=>.kg 3<|.rt x10)<|.k4 3<|.rt false)<|.k5 2<|.kg 2<|.b4 false<|.rt false)<|.br (v9==4) (.len (cI .i64) v1<|.len Zh E0.Options<|.cs ((v1.length:Int)==(E0.Options.length:Int)) (.k3 3<|.call (Zoa E0 v1) fun x16=>.kg 3<|.rt x16)<|.k4 3<|.rt false)<|.br (v9==5) (.len (cI .i64) v1<|.cs ((v1.length:Int)==1) (.k2 4<|.idx (cI .i64) v1 0 fun x21=>.k5 4<|.cs (decide (x21≥E0.Least)) (.k2 5<|.ag (cI .i64) x21 0<|.k5 5<|.rt (decide (x21≤E0.Most)))<|.k5 5<|.k2 5<|.rt false)<|.k5 4<|.k2 4<|.b5 false<|.b2 false<|.rt false)<|.br (v9==6) (.j0 (.L1 v1 E0 v9 (v9==6)) (Zm5 v1 E0 v9 (v9==6)))<|.j0 (.L1 v1 E0 v9 (v9==7)) (Zm5 v1 E0 v9 (v9==7))
def Zak7(a0:Zm)(a1:(List Int)):LT Zlx Bool:=
.lb 1002<|.len (cI .i64) a1<|.br (decide ((a1.length:Int) > 256)) (.rt false)<|.br (a0.Kind==1) (.jn 0 (.L0 a1 a0 a0.Kind (a0.Kind==1)) [.relab 1002 30000000] (Zfu a1 a0 a0.Kind (a0.Kind==1)))<|.br (a0.Kind==2) (.jn 0 (.L0 a1 a0 a0.Kind (a0.Kind==2)) [.relab 1002 30000000] (Zfu a1 a0 a0.Kind (a0.Kind==2)))<|.br (a0.Kind==9) (.jn 0 (.L0 a1 a0 a0.Kind (a0.Kind==9)) [.relab 1002 30000000] (Zfu a1 a0 a0.Kind (a0.Kind==9)))<|.br (a0.Kind==10) (.jn 0 (.L0 a1 a0 a0.Kind (a0.Kind==10)) [.relab 1002 30000000] (Zfu a1 a0 a0.Kind (a0.Kind==10)))<|.jn 0 (.L0 a1 a0 a0.Kind (a0.Kind==11)) [.relab 1002 30000000] (Zfu a1 a0 a0.Kind (a0.Kind==11))
def Zak8:LF Zlx Bool:=⟨78,[.t 4],false,fun | .L0 .. => [1,1,0,1,4,1] | .L1 .. => [1,1,0,1,4,1,3,1,3,1,3,1,3,1],
 fun | .L0 v1 E0 v9 v10=>⟨93,[(1,(wL (cI .i64) v1)),(2,(.bptr 30000000 0)),(9,(wI v9)),(10,(wB v10))],[(30000000,.box (bx (Zay E0)))]⟩ | .L1 v1 E0 v9 v77=>⟨93,[(1,(wL (cI .i64) v1)),(2,(.bptr 30000000 0)),(9,(wI v9)),(77,(wB v77))],[(30000000,.box (bx (Zay E0)))]⟩,
 fun r=>[],fun r=>(wB r),fun | .L0 v1 E0 v9 v10=>Zfu v1 E0 v9 v10 | .L1 v1 E0 v9 v77=>Zm5 v1 E0 v9 v77⟩
def Zaf6(a0:Zm)(a1:(List Int)):Option Bool:=Zak8.run (Zak7 a0 a1)
theorem Za47(a0:Zm)(a1:(List Int)){r:Bool}(h:Zaf6 a0 a1=some r):Fn PR 78 [(wA (Zay a0)),(wL (cI .i64) a1)] (wB r):=Zak8.fn h
inductive Zbr where
 | L0 (v0:(List Zi)) (E0:Zi) (v7:Int) (v8:Int)
def Zc4(v0:(List Zi))(E0:Zi)(v7:Int)(v8:Int):LT Zbr Int:=
.br (decide (v8 < v7)) (.idx Zh v0 v8 fun x2=>.br (Zar (Zh E0) (Zh x2)) (.rt v8)<|.g0 (.L0 v0 E0 v7 (IntKind.wrap .i64 (v8+1))))<|.rt (-1)
def Zfd(a0:(List Zi))(a1:Zi):LT Zbr Int:=
.lb 1003<|.len Zh a0<|.go (.L0 a0 a1 (a0.length:Int) 0) [.relab 1003 30000000]
def Zfe:LF Zbr Int:=⟨74,[.t 4],false,fun | .L0 .. => [1,0,1,4],
 fun | .L0 v0 E0 v7 v8=>⟨19,[(0,(wL Zh v0)),(3,(.bptr 30000000 0)),(7,(wI v7)),(8,(wI v8))],[(30000000,.box (bx (Zh E0)))]⟩,
 fun r=>[],fun r=>(wI r),fun | .L0 v0 E0 v7 v8=>Zc4 v0 E0 v7 v8⟩
def Zdm(a0:(List Zi))(a1:Zi):Option Int:=Zfe.run (Zfd a0 a1)
theorem Zki(a0:(List Zi))(a1:Zi){r:Int}(h:Zdm a0 a1=some r):Fn PR 74 [(wL Zh a0),(wA (Zh a1))] (wI r):=Zfe.fn h
def Zeu(a0:(List Zi))(a1:Zi):LT Empty Bool:=
.lb 1003<|.call (Zki a0 a1) fun x1=>.rt (decide (x1≥0))
def Zev:LF Empty Bool := .z 42 [.t 4] false (fun r=>[]) (fun r=>(wB r))
def Zc5(a0:(List Zi))(a1:Zi):Option Bool:=Zev.run (Zeu a0 a1)
theorem Zel(a0:(List Zi))(a1:Zi){r:Bool}(h:Zc5 a0 a1=some r):Fn PR 42 [(wL Zh a0),(wA (Zh a1))] (wB r):=Zev.fn h
def Zak9(a0:Zb)(a1:(List Za))(a2:Zj)(a3:Zr)(a4:Zf):LT Empty Bool:=
.lb 1005<|.lb 1007<|.lb 1008<|.lb 1009<|.lb 1011<|.br (a4.Object != 0) (.call (Zgz a0 a1 a2 a3) fun x2=>.call (Zel x2 (⟨5,a4.Object,0⟩:Zi)) fun x4=>.rt x4)<|.call (Zgz a0 a1 a2 a3) fun x6=>.call (Zel x6 (⟨6,a4.Player,0⟩:Zi)) fun x8=>.rt x8
def Zala:LF Empty Bool := .z 15 [.t 10] false (fun r=>[]) (fun r=>(wB r))
def Zaf7(a0:Zb)(a1:(List Za))(a2:Zj)(a3:Zr)(a4:Zf):Option Bool:=Zala.run (Zak9 a0 a1 a2 a3 a4)
theorem Zm6(a0:Zb)(a1:(List Za))(a2:Zj)(a3:Zr)(a4:Zf){r:Bool}(h:Zaf7 a0 a1 a2 a3 a4=some r):Fn PR 15 [(wA (Zu a0)),(wL Zk a1),(wA (Zao a2)),(wA (Z4 a3)),(wA (Zo a4))] (wB r):=Zala.fn h
inductive Zk4 where
 | L0 (v1:(List Za)) (v3:(List Zr)) (E0:Zb) (E1:Zj) (v12:(List Zf)) (v13:Bool) (v19:(List Zf)) (v20:Int) (v21:Int)
def Zuq(v1:(List Za))(v3:(List Zr))(E0:Zb)(E1:Zj)(v12:(List Zf))(v13:Bool)(v19:(List Zf))(v20:Int)(v21:Int):LT Zk4 ((List Zf)×Bool):=
.br (decide (v21 < v20)) (.idx Zo v19 v21 fun x2=>.lb 1015<|.len Z4 v3<|.cs (decide (v21 < (v3.length:Int))) (.k5 1<|.kg 1<|.idx Z4 v3 v21 fun x6=>.k3 1<|.call (Zm6 E0 v1 E1 x6 x2) fun x8=>.kg 1<|.br x8 (.dr [.lit]<|.apR Zo 16 v12 [x2] fun x12=>.g0 (.L0 v1 v3 E0 E1 x12 true v19 v20 (IntKind.wrap .i64 (v21+1))))<|.dr [.lit]<|.apR Zo 16 v12 [(⟨(-1),(-1)⟩:Zf)] fun x18=>.g0 (.L0 v1 v3 E0 E1 x18 v13 v19 v20 (IntKind.wrap .i64 (v21+1))))<|.k8 1<|.k2 1<|.kn [0]<|.dr [.lit]<|.apR Zo 16 v12 [(⟨(-1),(-1)⟩:Zf)] fun x24=>.g0 (.L0 v1 v3 E0 E1 x24 v13 v19 v20 (IntKind.wrap .i64 (v21+1))))<|.ret (v12,v13) [.relab 20000012 5000]
def Zacd(a0:Zb)(a1:(List Za))(a2:Zj)(a3:(List Zr))(a4:(List Zf)):LT Zk4 ((List Zf)×Bool):=
.lb 1005<|.lb 1007<|.len Zo a4<|.len Zo a4<|.go (.L0 a1 a3 a0 a2 ([]:(List Zf)) ((a4.length:Int)==0) a4 (a4.length:Int) 0) [.relab 1005 30000000,.relab 1007 30000001,.own 12 20000012 2]
def Zace:LF Zk4 ((List Zf)×Bool):=⟨17,[.t 10,.t 11],true,fun | .L0 .. => [1,1,1,0,1,4],
 fun | .L0 v1 v3 E0 E1 v12 v13 v19 v20 v21=>⟨49,[(1,(wL Zk v1)),(3,(wL Z4 v3)),(5,(.bptr 30000000 0)),(7,(.bptr 30000001 0)),(12,(wO Zo 20000012 v12)),(13,(wB v13)),(19,(wL Zo v19)),(20,(wI v20)),(21,(wI v21))],[(30000000,.box (bx (Zu E0))),(30000001,.box (bx (Zao E1))),(20000012,wR Zo 2 v12)]⟩,
 fun r=>[(5000,wR Zo 2 r.1)],fun r=>(.tup [(wO Zo 5000 r.1),(wB r.2)]),fun | .L0 v1 v3 E0 E1 v12 v13 v19 v20 v21=>Zuq v1 v3 E0 E1 v12 v13 v19 v20 v21⟩
def Zv8(a0:Zb)(a1:(List Za))(a2:Zj)(a3:(List Zr))(a4:(List Zf)):Option ((List Zf)×Bool):=Zace.run (Zacd a0 a1 a2 a3 a4)
theorem Z42(a0:Zb)(a1:(List Za))(a2:Zj)(a3:(List Zr))(a4:(List Zf)){r:((List Zf)×Bool)}(h:Zv8 a0 a1 a2 a3 a4=some r):FnG PR 17 [] [(wA (Zu a0)),(wL Zk a1),(wA (Zao a2)),(wL Z4 a3),(wL Zo a4)] [(5000,wR Zo 2 r.1)] (.tup [(wO Zo 5000 r.1),(wB r.2)]):=Zace.fn h
theorem Z8q(a0:Zb)(a1:(List Za))(a2:Zj)(a3:(List Zr))(a4:(List Zf)){r:((List Zf)×Bool)}(h:Zv8 a0 a1 a2 a3 a4=some r):Fn PR 17 [(wA (Zu a0)),(wL Zk a1),(wA (Zao a2)),(wL Z4 a3),(wL Zo a4)] (.tup [(wL Zo r.1),(wB r.2)]):=
 FnG.frozen (C:=LT.RL Zo r.1∧True) (Z42 a0 a1 a2 a3 a4 h) ⟨rfl,trivial⟩ (by kernel_rfl)
inductive Zk5 where
 | L0 (v0:(List Zi)) (v1:(List Zi)) (v5:Int)
def Zur(v0:(List Zi))(v1:(List Zi))(v5:Int):LT Zk5 Bool:=
.len Zh v0<|.br (decide (v5 < (v0.length:Int))) (.idx Zh v0 v5 fun x3=>.idx Zh v1 v5 fun x5=>.br (!(Zar (Zh x3) (Zh x5))) (.rt false)<|.g0 (.L0 v0 v1 (IntKind.wrap .i64 (v5+1))))<|.rt true
def Zacf(a0:(List Zi))(a1:(List Zi)):LT Zk5 Bool:=
.len Zh a0<|.len Zh a1<|.br ((a0.length:Int) != (a1.length:Int)) (.rt false)<|.g0 (.L0 a0 a1 0)
def Zacg:LF Zk5 Bool:=⟨12,[.t 4],false,fun | .L0 .. => [1,1,0,1,4],
 fun | .L0 v0 v1 v5=>⟨26,[(0,(wL Zh v0)),(1,(wL Zh v1)),(5,(wI v5))],[]⟩,
 fun r=>[],fun r=>(wB r),fun | .L0 v0 v1 v5=>Zur v0 v1 v5⟩
def Z6o(a0:(List Zi))(a1:(List Zi)):Option Bool:=Zacg.run (Zacf a0 a1)
theorem Z8r(a0:(List Zi))(a1:(List Zi)){r:Bool}(h:Z6o a0 a1=some r):Fn PR 12 [(wL Zh a0),(wL Zh a1)] (wB r):=Zacg.fn h
def Zm7(b0:Z6)(a1:Zm):LT Empty ((List Int)×Z6):=
.lb 1003<|.b5 false<|.cs b0.waits (.k5 0<|.b3 true<|.kn [0]<|.callF (Zh5 a1) 260000 fun x2=>.ret (x2,b0) [.relab 265000 5000])<|.k5 0<|.cs b0.bad (.k3 1<|.kn [0]<|.callF (Zh5 a1) 260000 fun x5=>.ret (x5,b0) [.relab 265000 5000])<|.k2 1<|.call (Zaz1 a1) fun x7=>.kg 1<|.br x7 (.callF (Zh5 a1) 260000 fun x10=>.ret (x10,b0) [.relab 265000 5000])<|.len (cL (cI .i64)) b0.answers<|.br (b0.used==(b0.answers.length:Int)) (.callF (Zk1 a1.Options) 390000 fun x14=>.rl Zh x14<|.callS (Zh5 (⟨a1.Kind,a1.Player,a1.Source,a1.Least,a1.Most,a1.N,x14⟩:Zm)) 490000 (fun _=>⟨rfl,Z01 (cI .i64) (fun _=>rfl) _,trivial⟩) fun x16=>.rl Zh x14<|.rl Zh x14<|.rl Zh x14<|.rl Zh x14<|.rl Zh x14<|.ret (x16,(⟨b0.answers,b0.used,(⟨a1.Kind,a1.Player,a1.Source,a1.Least,a1.Most,a1.N,x14⟩:Zm),true,b0.bad⟩:Z6)) [.relab 495000 5000,.frz 395000])<|.idx (cL (cI .i64)) b0.answers b0.used fun x18=>.call (Za47 a1 x18) fun x22=>.br (!x22) (.callF (Zh5 a1) 750000 fun x25=>.ret (x25,(⟨b0.answers,IntKind.wrap .i64 (b0.used+1),b0.pending,b0.waits,true⟩:Z6)) [.relab 755000 5000])<|.callF (Zt3 x18) 770000 fun x27=>.ret (x27,(⟨b0.answers,IntKind.wrap .i64 (b0.used+1),b0.pending,b0.waits,b0.bad⟩:Z6)) [.relab 775000 5000]
def Zm8:LF Empty ((List Int)×Z6) := .z 43 [.t 4] true (fun r=>[(5000,wR (cI .i64) 1 r.1),(0,.box (bx (Zbk r.2)))]) (fun r=>(wO (cI .i64) 5000 r.1))
def Zig(b0:Z6)(a1:Zm):Option ((List Int)×Z6):=Zm8.run (Zm7 b0 a1)
theorem Zye(b0:Z6)(a1:Zm){r:((List Int)×Z6)}(h:Zig b0 a1=some r):FnG PR 43 [(0,.box (bx (Zbk b0)))] [(.bptr 0 0),(wA (Zay a1))] [(5000,wR (cI .i64) 1 r.1),(0,.box (bx (Zbk r.2)))] (wO (cI .i64) 5000 r.1):=Zm8.fn h
inductive Zdy where
 | L0 (c0:Z6) (v2:(List Za)) (E1:Zb) (E2:Zj) (v12:(List Zf)) (v18:(List Zr)) (v19:Int) (v20:Int)
 | L1 (c0:Z6) (v2:(List Za)) (E1:Zb) (E2:Zj) (v12:(List Zf)) (E3:Zi) (v18:(List Zr)) (v19:Int) (v20:Int)
def Zcy(c0:Z6)(v2:(List Za))(E1:Zb)(E2:Zj)(v12:(List Zf))(E3:Zi)(v18:(List Zr))(v19:Int)(v20:Int):LT Zdy ((List Zf)×Bool×Z6):=
.br (E3.Kind==5) (.dr [.lit]<|.apR Zo 16 v12 [(⟨E3.A,0⟩:Zf)] fun x3=>.g0 (.L0 c0 v2 E1 E2 x3 v18 v19 (IntKind.wrap .i64 (v20+1))))<|.dr [.lit]<|.apR Zo 16 v12 [(⟨0,E3.A⟩:Zf)] fun x9=>.g0 (.L0 c0 v2 E1 E2 x9 v18 v19 (IntKind.wrap .i64 (v20+1)))
def Zje(c0:Z6)(v2:(List Za))(E1:Zb)(E2:Zj)(v12:(List Zf))(v18:(List Zr))(v19:Int)(v20:Int):LT Zdy ((List Zf)×Bool×Z6):=
.br (decide (v20 < v19)) (.idx Z4 v18 v20 fun x2=>.lb 1014<|.call (Zgz E1 v2 E2 x2) fun x4=>.len Zh x4<|.br ((x4.length:Int)==0) (.ret (([]:(List Zf)),false,c0) [.own 10 5000 2])<|.callU (Zye c0 (⟨2,E2.You,E2.Source,0,0,0,x4⟩:Zm)) [0] 400000 fun x8=>.idx Zh x4 0 fun x10=>.lb 1017<|.lenO (cI .i64) x8.1<|.cs (decide ((x8.1.length:Int) > 0)) (.k2 2<|.idxR (cI .i64) x8.1 0 fun x14=>.kg 2<|.ldR (cI .i64) x8.1 x14 8<|.k2 2<|.cs (decide (x14≥0)) (.k2 3<|.plR (cI .i64) x8.1 0 6<|.kg 3<|.ldR (cI .i64) x8.1 x14 8<|.k2 3<|.len Zh x4<|.k2 3<|.br (decide (x14 < (x4.length:Int))) (.plR (cI .i64) x8.1 0 6<|.ldR (cI .i64) x8.1 x14 8<|.idx Zh x4 x14 fun x18=>.jn 0 (.L1 x8.2 v2 E1 E2 v12 x18 v18 v19 v20) [.relab 1017 30000003] (Zcy x8.2 v2 E1 E2 v12 x18 v18 v19 v20))<|.jn 0 (.L1 x8.2 v2 E1 E2 v12 x10 v18 v19 v20) [.relab 1017 30000003] (Zcy x8.2 v2 E1 E2 v12 x10 v18 v19 v20))<|.k5 3<|.k2 3<|.kn [0]<|.jn 0 (.L1 x8.2 v2 E1 E2 v12 x10 v18 v19 v20) [.relab 1017 30000003] (Zcy x8.2 v2 E1 E2 v12 x10 v18 v19 v20))<|.k5 2<|.b5 false<|.b2 false<|.kn [0]<|.jn 0 (.L1 x8.2 v2 E1 E2 v12 x10 v18 v19 v20) [.relab 1017 30000003] (Zcy x8.2 v2 E1 E2 v12 x10 v18 v19 v20))<|.ret (v12,true,c0) [.relab 20000012 5000]
def Zsn(b0:Z6)(a1:Zb)(a2:(List Za))(a3:Zj)(a4:(List Zr)):LT Zdy ((List Zf)×Bool×Z6):=
.lb 1006<|.lb 1008<|.len Z4 a4<|.go (.L0 b0 a2 a1 a3 ([]:(List Zf)) a4 (a4.length:Int) 0) [.relab 1006 30000001,.relab 1008 30000002,.own 12 20000012 2]
def Zso:LF Zdy ((List Zf)×Bool×Z6):=⟨20,[.t 10,.t 11],true,fun | .L0 .. => [1,1,0,1,4] | .L1 .. => [1,1,0,1,4,5,1,1,0,4,1,1,1,1,1,1],
 fun | .L0 c0 v2 E1 E2 v12 v18 v19 v20=>⟨83,[(0,(.bptr 0 0)),(2,(wL Zk v2)),(6,(.bptr 30000001 0)),(8,(.bptr 30000002 0)),(12,(wO Zo 20000012 v12)),(18,(wL Z4 v18)),(19,(wI v19)),(20,(wI v20))],[(0,.box (bx (Zbk c0))),(30000001,.box (bx (Zu E1))),(30000002,.box (bx (Zao E2))),(20000012,wR Zo 2 v12)]⟩ | .L1 c0 v2 E1 E2 v12 E3 v18 v19 v20=>⟨83,[(0,(.bptr 0 0)),(2,(wL Zk v2)),(6,(.bptr 30000001 0)),(8,(.bptr 30000002 0)),(12,(wO Zo 20000012 v12)),(17,(.bptr 30000003 0)),(18,(wL Z4 v18)),(19,(wI v19)),(20,(wI v20))],[(0,.box (bx (Zbk c0))),(30000001,.box (bx (Zu E1))),(30000002,.box (bx (Zao E2))),(20000012,wR Zo 2 v12),(30000003,.box (bx (Zh E3)))]⟩,
 fun r=>[(5000,wR Zo 2 r.1),(0,.box (bx (Zbk r.2.2)))],fun r=>(.tup [(wO Zo 5000 r.1),(wB r.2.1)]),fun | .L0 c0 v2 E1 E2 v12 v18 v19 v20=>Zje c0 v2 E1 E2 v12 v18 v19 v20 | .L1 c0 v2 E1 E2 v12 E3 v18 v19 v20=>Zcy c0 v2 E1 E2 v12 E3 v18 v19 v20⟩
def Zm9(b0:Z6)(a1:Zb)(a2:(List Za))(a3:Zj)(a4:(List Zr)):Option ((List Zf)×Bool×Z6):=Zso.run (Zsn b0 a1 a2 a3 a4)
theorem Zih(b0:Z6)(a1:Zb)(a2:(List Za))(a3:Zj)(a4:(List Zr)){r:((List Zf)×Bool×Z6)}(h:Zm9 b0 a1 a2 a3 a4=some r):FnG PR 20 [(0,.box (bx (Zbk b0)))] [(.bptr 0 0),(wA (Zu a1)),(wL Zk a2),(wA (Zao a3)),(wL Z4 a4)] [(5000,wR Zo 2 r.1),(0,.box (bx (Zbk r.2.2)))] (.tup [(wO Zo 5000 r.1),(wB r.2.1)]):=Zso.fn h
def Zna(b0:Z6):LT Empty Int:=
.kn [0]<|.rt b0.used
def Znb(b0:Z6):LF Empty Int := .z 29 [.t 2] true (fun r=>[(0,.box (bx (Zbk b0)))]) (fun r=>(wI r))
def Zii(b0:Z6):Option Int:=(Znb b0).run (Zna b0)
theorem Zk6(b0:Z6){r:Int}(h:Zii b0=some r):FnG PR 29 [(0,.box (bx (Zbk b0)))] [(.bptr 0 0)] [(0,.box (bx (Zbk b0)))] (wI r):=(Znb b0).fn h
def Zalb:LT Empty Bool:=
.dr [.lit]<|.dr [.lit]<|.dr [.lit]<|.lb 1001<|.lb 1002<|.dr [.lit]<|.lb 1004<|.dr [.lit]<|.dr [.lit]<|.callF (Z6j [[2]]) 290000 fun x7=>.dr [.lit]<|.callU (Zih x7 (⟨[(⟨20,0,0,(⟨0,0,0,0,0,0⟩:(A6 Int)),false,false,([]:(List Int)),([]:(List Int)),([]:(List Int))⟩:Za2),(⟨20,0,0,(⟨0,0,0,0,0,0⟩:(A6 Int)),false,false,([]:(List Int)),([]:(List Int)),([]:(List Int))⟩:Za2)],[(⟨4,0,0,0,0,false,false,false,false,0,(⟨0,0,0⟩:(A3 Int)),0,(-1),(-1),false,0,0⟩:Zl),(⟨6,0,1,1,0,false,false,false,false,0,(⟨0,0,0⟩:(A3 Int)),0,(-1),(-1),false,0,0⟩:Zl)],[4,6],([]:(List Int)),([]:(List Zdg)),([]:(List Zc0)),([]:(List Ze4)),0,0,0,false,0,0,7,1,0,([]:(List Int)),0,(-1)⟩:Zb) [(⟨([]:List UInt8),(⟨0,0,(⟨0,0,0,0,0⟩:(A5 Int))⟩:Z1),0,(⟨0,1,([]:(List (List UInt8)))⟩:Z8),0,0,0,([]:(List Zt)),0⟩:Za),(⟨([]:List UInt8),(⟨0,0,(⟨0,0,0,0,0⟩:(A5 Int))⟩:Z1),0,(⟨0,1,([]:(List (List UInt8)))⟩:Z8),0,0,2048,([]:(List Zt)),1⟩:Za)] (⟨0,0,0,([]:(List Zf)),(⟨0,0,0,0,0,0,0,0,0,0,false,false,(⟨0,0,0⟩:(A3 Int))⟩:Zh1)⟩:Zj) [(⟨true,true,(⟨0,0,0,1,0,0,0,([]:List UInt8),0,0,(⟨0,0⟩:Zd),(⟨0,0⟩:Zd),(⟨0,0⟩:Zd)⟩:Ze)⟩:Zr)]) [295000] 370000 fun x10=>.dr [.lit]<|.dr [.lit]<|.call (Z8q (⟨[(⟨20,0,0,(⟨0,0,0,0,0,0⟩:(A6 Int)),false,false,([]:(List Int)),([]:(List Int)),([]:(List Int))⟩:Za2),(⟨20,0,0,(⟨0,0,0,0,0,0⟩:(A6 Int)),false,false,([]:(List Int)),([]:(List Int)),([]:(List Int))⟩:Za2)],[(⟨4,0,0,0,0,false,false,false,false,0,(⟨0,0,0⟩:(A3 Int)),0,(-1),(-1),false,0,0⟩:Zl),(⟨6,0,1,1,0,false,false,false,false,0,(⟨0,0,0⟩:(A3 Int)),0,(-1),(-1),false,0,0⟩:Zl)],[4,6],([]:(List Int)),([]:(List Zdg)),([]:(List Zc0)),([]:(List Ze4)),0,0,0,false,0,0,7,1,0,([]:(List Int)),0,(-1)⟩:Zb) [(⟨([]:List UInt8),(⟨0,0,(⟨0,0,0,0,0⟩:(A5 Int))⟩:Z1),0,(⟨0,1,([]:(List (List UInt8)))⟩:Z8),0,0,0,([]:(List Zt)),0⟩:Za),(⟨([]:List UInt8),(⟨0,0,(⟨0,0,0,0,0⟩:(A5 Int))⟩:Z1),0,(⟨0,1,([]:(List (List UInt8)))⟩:Z8),0,0,2048,([]:(List Zt)),1⟩:Za)] (⟨0,0,0,([]:(List Zf)),(⟨0,0,0,0,0,0,0,0,0,0,false,false,(⟨0,0,0⟩:(A3 Int))⟩:Zh1)⟩:Zj) [(⟨true,true,(⟨0,0,0,1,0,0,0,([]:List UInt8),0,0,(⟨0,0⟩:Zd),(⟨0,0⟩:Zd),(⟨0,0⟩:Zd)⟩:Ze)⟩:Zr),(⟨true,true,(⟨0,0,0,1,0,0,0,([]:List UInt8),0,0,(⟨0,0⟩:Zd),(⟨0,0⟩:Zd),(⟨0,0⟩:Zd)⟩:Ze)⟩:Zr)] [(⟨4,0⟩:Zf),(⟨6,0⟩:Zf)]) fun x14=>.call (Zgz (⟨[(⟨20,0,0,(⟨0,0,0,0,0,0⟩:(A6 Int)),false,false,([]:(List Int)),([]:(List Int)),([]:(List Int))⟩:Za2),(⟨20,0,0,(⟨0,0,0,0,0,0⟩:(A6 Int)),false,false,([]:(List Int)),([]:(List Int)),([]:(List Int))⟩:Za2)],[(⟨4,0,0,0,0,false,false,false,false,0,(⟨0,0,0⟩:(A3 Int)),0,(-1),(-1),false,0,0⟩:Zl),(⟨6,0,1,1,0,false,false,false,false,0,(⟨0,0,0⟩:(A3 Int)),0,(-1),(-1),false,0,0⟩:Zl)],[4,6],([]:(List Int)),([]:(List Zdg)),([]:(List Zc0)),([]:(List Ze4)),0,0,0,false,0,0,7,1,0,([]:(List Int)),0,(-1)⟩:Zb) [(⟨([]:List UInt8),(⟨0,0,(⟨0,0,0,0,0⟩:(A5 Int))⟩:Z1),0,(⟨0,1,([]:(List (List UInt8)))⟩:Z8),0,0,0,([]:(List Zt)),0⟩:Za),(⟨([]:List UInt8),(⟨0,0,(⟨0,0,0,0,0⟩:(A5 Int))⟩:Z1),0,(⟨0,1,([]:(List (List UInt8)))⟩:Z8),0,0,2048,([]:(List Zt)),1⟩:Za)] (⟨0,0,0,([]:(List Zf)),(⟨0,0,0,0,0,0,0,0,0,0,false,false,(⟨0,0,0⟩:(A3 Int))⟩:Zh1)⟩:Zj) (⟨true,true,(⟨0,0,0,1,0,0,0,([]:List UInt8),0,0,(⟨0,0⟩:Zd),(⟨0,0⟩:Zd),(⟨0,0⟩:Zd)⟩:Ze)⟩:Zr)) fun x16=>.dr [.lit]<|.call (Z8r x16 [(⟨6,0,0⟩:Zi),(⟨6,1,0⟩:Zi),(⟨5,4,0⟩:Zi)]) fun x19=>.cs x19 (.k5 0<|.call (Zgz (⟨[(⟨20,0,0,(⟨0,0,0,0,0,0⟩:(A6 Int)),false,false,([]:(List Int)),([]:(List Int)),([]:(List Int))⟩:Za2),(⟨20,0,0,(⟨0,0,0,0,0,0⟩:(A6 Int)),false,false,([]:(List Int)),([]:(List Int)),([]:(List Int))⟩:Za2)],[(⟨4,0,0,0,0,false,false,false,false,0,(⟨0,0,0⟩:(A3 Int)),0,(-1),(-1),false,0,0⟩:Zl),(⟨6,0,1,1,0,false,false,false,false,0,(⟨0,0,0⟩:(A3 Int)),0,(-1),(-1),false,0,0⟩:Zl)],[4,6],([]:(List Int)),([]:(List Zdg)),([]:(List Zc0)),([]:(List Ze4)),0,0,0,false,0,0,7,1,0,([]:(List Int)),0,(-1)⟩:Zb) [(⟨([]:List UInt8),(⟨0,0,(⟨0,0,0,0,0⟩:(A5 Int))⟩:Z1),0,(⟨0,1,([]:(List (List UInt8)))⟩:Z8),0,0,0,([]:(List Zt)),0⟩:Za),(⟨([]:List UInt8),(⟨0,0,(⟨0,0,0,0,0⟩:(A5 Int))⟩:Z1),0,(⟨0,1,([]:(List (List UInt8)))⟩:Z8),0,0,2048,([]:(List Zt)),1⟩:Za)] (⟨1,0,0,([]:(List Zf)),(⟨0,0,0,0,0,0,0,0,0,0,false,false,(⟨0,0,0⟩:(A3 Int))⟩:Zh1)⟩:Zj) (⟨true,true,(⟨0,0,0,1,0,0,0,([]:List UInt8),0,0,(⟨0,0⟩:Zd),(⟨0,0⟩:Zd),(⟨0,0⟩:Zd)⟩:Ze)⟩:Zr)) fun x22=>.kg 0<|.len Zh x22<|.k2 0<|.cs ((x22.length:Int)==4) (.k2 1<|.cs x10.2.1 (.k2 2<|.lenO Zo x10.1<|.k2 2<|.cs ((x10.1.length:Int)==1) (.k2 3<|.idxR Zo x10.1 0 fun x29=>.kg 3<|.ldR Zo x10.1 x29 2<|.k3 3<|.cs (Zar (Zo x29) (Zo (⟨4,0⟩:Zf))) (.k2 4<|.callO (Zk6 x10.2.2) [295000] 890000 (fun x=>[]) fun x32=>.k2 4<|.cs (x32==1) (.k2 5<|.cs x14.2 (.k2 6<|.len Zo x14.1<|.k2 6<|.cs ((x14.1.length:Int)==2) (.k2 7<|.idx Zo x14.1 0 fun x38=>.k4 7<|.cs (Zar (Zo x38) (Zo (⟨4,0⟩:Zf))) (.k2 8<|.idx Zo x14.1 1 fun x41=>.k4 8<|.rt (Zar (Zo x41) (Zo (⟨(-1),(-1)⟩:Zf))))<|.k5 8<|.kg 8<|.rt false)<|.k5 7<|.kg 7<|.b5 false<|.kb false<|.rt false)<|.k4 6<|.b8 false<|.b4 false<|.rt false)<|.k2 5<|.b16 false<|.rt false)<|.k4 4<|.b16 false<|.b2 false<|.rt false)<|.k5 3<|.kg 3<|.b16 false<|.b5 false<|.kb false<|.rt false)<|.k4 2<|.b16 false<|.b8 false<|.b4 false<|.rt false)<|.k2 1<|.b16 false<|.b16 false<|.rt false)<|.k8 0<|.b16 false<|.b16 false<|.b2 false<|.rt false
def Zalc:LF Empty Bool := .z 10 [.t 0] false (fun r=>[]) (fun r=>(wB r))
def Zaf8:Option Bool:=Zalc.run (Zalb)
theorem Zb2{r:Bool}(h:Zaf8=some r):Fn PR 10 [] (wB r):=Zalc.fn h
inductive Znc where
 | L0 (E0:Z1) (v3:Int) (v4:Int) (v5:Int)
def Zyf(E0:Z1)(v3:Int)(v4:Int)(v5:Int):LT Znc Int:=
.br (decide (v5 < 5)) (.idA (Zn.int .i64) (A5.list E0.Color) v5 (bx (Zaz E0)) 2 7 fun x2=>.ldC (Zn.int .i64) 16 x2 0<|.br (decide (x2 > 0)) (.g0 (.L0 E0 (IntKind.wrap .i64 (v3+v4)) (IntKind.wrap .i64 (2*v4)) (IntKind.wrap .i64 (v5+1))))<|.g0 (.L0 E0 v3 (IntKind.wrap .i64 (2*v4)) (IntKind.wrap .i64 (v5+1))))<|.rt v3
def Zaf9(a0:Z1):LT Znc Int:=
.lb 1001<|.call (Zwv a0) fun x1=>.br (!x1) (.rt 0)<|.go (.L0 a0 0 1 0) [.relab 1001 30000000]
def Zaga:LF Znc Int:=⟨150,[.t 2],false,fun | .L0 .. => [1,1,1,1,0,1,4],
 fun | .L0 E0 v3 v4 v5=>⟨24,[(1,(.bptr 30000000 0)),(3,(wI v3)),(4,(wI v4)),(5,(wI v5))],[(30000000,.box (bx (Zaz E0)))]⟩,
 fun r=>[],fun r=>(wI r),fun | .L0 E0 v3 v4 v5=>Zyf E0 v3 v4 v5⟩
def Zaai(a0:Z1):Option Int:=Zaga.run (Zaf9 a0)
theorem Zaz2(a0:Z1){r:Int}(h:Zaai a0=some r):Fn PR 150 [(wA (Zaz a0))] (wI r):=Zaga.fn h
inductive Zk7 where
 | L0 (E0:Zt) (E1:Zt) (E2:Zt) (v4:Int)
def Zus(E0:Zt)(E1:Zt)(E2:Zt)(v4:Int):LT Zk7 Zt:=
.len Zaf E0.Effects<|.br (decide (v4 < (E0.Effects.length:Int))) (.idx Zaf E0.Effects v4 fun x3=>.lb 1005<|.lb 1030<|.apR Zab 176 ([]:(List Zz)) x3.Mods fun x5=>.dr [.ahead 38,.pick [37,36,35,34,33,32,31,5,29,28,27,26,25,22,21,20,19,18,1,2,3,4] [1005,1030,30000000,30000001,40000117,40000148,40000149,30000002,40000217,40000248,40000249],.frz 1030,.stop]<|.rl Zab x5<|.rl Zab x5<|.rl Zab x5<|.dr [.lit]<|.apR Zaf 560 E2.Effects [(⟨x3.Op,x3.Ref,x3.Amount,x3.Counter,x3.Zone,x3.Card,x3.Filter,x3.Pool,x5⟩:Z9)] fun x9=>.g0 (.L0 E0 E1 (⟨E2.Kind,E2.Filter,E2.Mods,E2.Price,E2.Slow,E2.Trigger,E2.May,E2.Specs,x9,E2.Replace⟩:Zt) (IntKind.wrap .i64 (v4+1))))<|.ret E2 [.relab 40000217 5017,.relab 40000248 5048,.relab 40000249 5049]
def Zach(a0:Zt):LT Zk7 Zt:=
.lb 1001<|.lb 1002<|.lb 1003<|.lb 1007<|.apR Zab 176 ([]:(List Zz)) a0.Mods fun x1=>.lb 1012<|.apR Z4 144 ([]:(List Zr)) a0.Specs fun x4=>.go (.L0 a0 (⟨0,(⟨0,0,0,0,0,0,0,([]:List UInt8),0,0,(⟨0,0⟩:Zd),(⟨0,0⟩:Zd),(⟨0,0⟩:Zd)⟩:Ze),([]:(List Zz)),(⟨(⟨0,0,(⟨0,0,0,0,0⟩:(A5 Int))⟩:Z1),false,false,0⟩:Zft),false,(⟨0,0,(⟨0,0,0,0,0,0,0,([]:List UInt8),0,0,(⟨0,0⟩:Zd),(⟨0,0⟩:Zd),(⟨0,0⟩:Zd)⟩:Ze)⟩:Zce),false,([]:(List Zr)),([]:(List Z9)),(⟨0,0,(⟨0,0,0,0,0,0,0,([]:List UInt8),0,0,(⟨0,0⟩:Zd),(⟨0,0⟩:Zd),(⟨0,0⟩:Zd)⟩:Ze),0,0,0,0⟩:Za6)⟩:Zt) (⟨a0.Kind,a0.Filter,x1,a0.Price,a0.Slow,a0.Trigger,a0.May,x4,([]:(List Z9)),a0.Replace⟩:Zt) 0) [.relab 1001 30000000,.relab 1002 30000001,.relab 1003 30000002,.ownb 30000001 17 40000117 20,.ownb 30000001 48 40000148 18,.ownb 30000001 49 40000149 64,.relab 1007 40000217,.relab 1012 40000248,.ownb 30000002 49 40000249 64]
def Zaci:LF Zk7 Zt:=⟨151,[.c 2 159 true 72],true,fun | .L0 .. => [1,1,1,1,1,0,1,4],
 fun | .L0 E0 E1 E2 v4=>⟨42,[(1,(.bptr 30000000 0)),(2,(.bptr 30000001 0)),(3,(.bptr 30000002 0)),(4,(wI v4))],[(30000000,.box (bx (Z3 E0))),(30000001,.box [(wI E1.Kind),(wI E1.Filter.Zone),(wI E1.Filter.Who),(wI E1.Filter.Self),(wI E1.Filter.Types),(wI E1.Filter.NotTypes),(wI E1.Filter.Colors),(wI E1.Filter.NotColors),(wS E1.Filter.Sub),(wI E1.Filter.Keys),(wI E1.Filter.Tap),(wI E1.Filter.Power.Kind),(wI E1.Filter.Power.N),(wI E1.Filter.Tough.Kind),(wI E1.Filter.Tough.N),(wI E1.Filter.Value.Kind),(wI E1.Filter.Value.N),(wO Zab 40000117 E1.Mods),(wI E1.Price.Mana.Generic),(wI E1.Price.Mana.X),(wI E1.Price.Mana.Color.a0),(wI E1.Price.Mana.Color.a1),(wI E1.Price.Mana.Color.a2),(wI E1.Price.Mana.Color.a3),(wI E1.Price.Mana.Color.a4),(wB E1.Price.Tap),(wB E1.Price.Sacrifice),(wI E1.Price.Life),(wB E1.Slow),(wI E1.Trigger.When),(wI E1.Trigger.Who),(wI E1.Trigger.Filter.Zone),(wI E1.Trigger.Filter.Who),(wI E1.Trigger.Filter.Self),(wI E1.Trigger.Filter.Types),(wI E1.Trigger.Filter.NotTypes),(wI E1.Trigger.Filter.Colors),(wI E1.Trigger.Filter.NotColors),(wS E1.Trigger.Filter.Sub),(wI E1.Trigger.Filter.Keys),(wI E1.Trigger.Filter.Tap),(wI E1.Trigger.Filter.Power.Kind),(wI E1.Trigger.Filter.Power.N),(wI E1.Trigger.Filter.Tough.Kind),(wI E1.Trigger.Filter.Tough.N),(wI E1.Trigger.Filter.Value.Kind),(wI E1.Trigger.Filter.Value.N),(wB E1.May),(wO Z4 40000148 E1.Specs),(wO Zaf 40000149 E1.Effects),(wI E1.Replace.On),(wI E1.Replace.Who),(wI E1.Replace.Filter.Zone),(wI E1.Replace.Filter.Who),(wI E1.Replace.Filter.Self),(wI E1.Replace.Filter.Types),(wI E1.Replace.Filter.NotTypes),(wI E1.Replace.Filter.Colors),(wI E1.Replace.Filter.NotColors),(wS E1.Replace.Filter.Sub),(wI E1.Replace.Filter.Keys),(wI E1.Replace.Filter.Tap),(wI E1.Replace.Filter.Power.Kind),(wI E1.Replace.Filter.Power.N),(wI E1.Replace.Filter.Tough.Kind),(wI E1.Replace.Filter.Tough.N),(wI E1.Replace.Filter.Value.Kind),(wI E1.Replace.Filter.Value.N),(wI E1.Replace.Do),(wI E1.Replace.N),(wI E1.Replace.Zone),(wI E1.Replace.Counter)]),(40000117,wR Zab 20 E1.Mods),(40000148,wR Z4 18 E1.Specs),(40000149,wR Zaf 64 E1.Effects),(30000002,.box [(wI E2.Kind),(wI E2.Filter.Zone),(wI E2.Filter.Who),(wI E2.Filter.Self),(wI E2.Filter.Types),(wI E2.Filter.NotTypes),(wI E2.Filter.Colors),(wI E2.Filter.NotColors),(wS E2.Filter.Sub),(wI E2.Filter.Keys),(wI E2.Filter.Tap),(wI E2.Filter.Power.Kind),(wI E2.Filter.Power.N),(wI E2.Filter.Tough.Kind),(wI E2.Filter.Tough.N),(wI E2.Filter.Value.Kind),(wI E2.Filter.Value.N),(wO Zab 40000217 E2.Mods),(wI E2.Price.Mana.Generic),(wI E2.Price.Mana.X),(wI E2.Price.Mana.Color.a0),(wI E2.Price.Mana.Color.a1),(wI E2.Price.Mana.Color.a2),(wI E2.Price.Mana.Color.a3),(wI E2.Price.Mana.Color.a4),(wB E2.Price.Tap),(wB E2.Price.Sacrifice),(wI E2.Price.Life),(wB E2.Slow),(wI E2.Trigger.When),(wI E2.Trigger.Who),(wI E2.Trigger.Filter.Zone),(wI E2.Trigger.Filter.Who),(wI E2.Trigger.Filter.Self),(wI E2.Trigger.Filter.Types),(wI E2.Trigger.Filter.NotTypes),(wI E2.Trigger.Filter.Colors),(wI E2.Trigger.Filter.NotColors),(wS E2.Trigger.Filter.Sub),(wI E2.Trigger.Filter.Keys),(wI E2.Trigger.Filter.Tap),(wI E2.Trigger.Filter.Power.Kind),(wI E2.Trigger.Filter.Power.N),(wI E2.Trigger.Filter.Tough.Kind),(wI E2.Trigger.Filter.Tough.N),(wI E2.Trigger.Filter.Value.Kind),(wI E2.Trigger.Filter.Value.N),(wB E2.May),(wO Z4 40000248 E2.Specs),(wO Zaf 40000249 E2.Effects),(wI E2.Replace.On),(wI E2.Replace.Who),(wI E2.Replace.Filter.Zone),(wI E2.Replace.Filter.Who),(wI E2.Replace.Filter.Self),(wI E2.Replace.Filter.Types),(wI E2.Replace.Filter.NotTypes),(wI E2.Replace.Filter.Colors),(wI E2.Replace.Filter.NotColors),(wS E2.Replace.Filter.Sub),(wI E2.Replace.Filter.Keys),(wI E2.Replace.Filter.Tap),(wI E2.Replace.Filter.Power.Kind),(wI E2.Replace.Filter.Power.N),(wI E2.Replace.Filter.Tough.Kind),(wI E2.Replace.Filter.Tough.N),(wI E2.Replace.Filter.Value.Kind),(wI E2.Replace.Filter.Value.N),(wI E2.Replace.Do),(wI E2.Replace.N),(wI E2.Replace.Zone),(wI E2.Replace.Counter)]),(40000217,wR Zab 20 E2.Mods),(40000248,wR Z4 18 E2.Specs),(40000249,wR Zaf 64 E2.Effects)]⟩,
 fun r=>[(5017,wR Zab 20 r.Mods),(5048,wR Z4 18 r.Specs),(5049,wR Zaf 64 r.Effects)],fun r=>(.agg [(wI r.Kind),(wI r.Filter.Zone),(wI r.Filter.Who),(wI r.Filter.Self),(wI r.Filter.Types),(wI r.Filter.NotTypes),(wI r.Filter.Colors),(wI r.Filter.NotColors),(wS r.Filter.Sub),(wI r.Filter.Keys),(wI r.Filter.Tap),(wI r.Filter.Power.Kind),(wI r.Filter.Power.N),(wI r.Filter.Tough.Kind),(wI r.Filter.Tough.N),(wI r.Filter.Value.Kind),(wI r.Filter.Value.N),(wO Zab 5017 r.Mods),(wI r.Price.Mana.Generic),(wI r.Price.Mana.X),(wI r.Price.Mana.Color.a0),(wI r.Price.Mana.Color.a1),(wI r.Price.Mana.Color.a2),(wI r.Price.Mana.Color.a3),(wI r.Price.Mana.Color.a4),(wB r.Price.Tap),(wB r.Price.Sacrifice),(wI r.Price.Life),(wB r.Slow),(wI r.Trigger.When),(wI r.Trigger.Who),(wI r.Trigger.Filter.Zone),(wI r.Trigger.Filter.Who),(wI r.Trigger.Filter.Self),(wI r.Trigger.Filter.Types),(wI r.Trigger.Filter.NotTypes),(wI r.Trigger.Filter.Colors),(wI r.Trigger.Filter.NotColors),(wS r.Trigger.Filter.Sub),(wI r.Trigger.Filter.Keys),(wI r.Trigger.Filter.Tap),(wI r.Trigger.Filter.Power.Kind),(wI r.Trigger.Filter.Power.N),(wI r.Trigger.Filter.Tough.Kind),(wI r.Trigger.Filter.Tough.N),(wI r.Trigger.Filter.Value.Kind),(wI r.Trigger.Filter.Value.N),(wB r.May),(wO Z4 5048 r.Specs),(wO Zaf 5049 r.Effects),(wI r.Replace.On),(wI r.Replace.Who),(wI r.Replace.Filter.Zone),(wI r.Replace.Filter.Who),(wI r.Replace.Filter.Self),(wI r.Replace.Filter.Types),(wI r.Replace.Filter.NotTypes),(wI r.Replace.Filter.Colors),(wI r.Replace.Filter.NotColors),(wS r.Replace.Filter.Sub),(wI r.Replace.Filter.Keys),(wI r.Replace.Filter.Tap),(wI r.Replace.Filter.Power.Kind),(wI r.Replace.Filter.Power.N),(wI r.Replace.Filter.Tough.Kind),(wI r.Replace.Filter.Tough.N),(wI r.Replace.Filter.Value.Kind),(wI r.Replace.Filter.Value.N),(wI r.Replace.Do),(wI r.Replace.N),(wI r.Replace.Zone),(wI r.Replace.Counter)]),fun | .L0 E0 E1 E2 v4=>Zus E0 E1 E2 v4⟩
def Zv9(a0:Zt):Option Zt:=Zaci.run (Zach a0)
theorem Zasi(a0:Zt){r:Zt}(h:Zv9 a0=some r):FnG PR 151 [] [(wA (Z3 a0))] [(5017,wR Zab 20 r.Mods),(5048,wR Z4 18 r.Specs),(5049,wR Zaf 64 r.Effects)] (.agg [(wI r.Kind),(wI r.Filter.Zone),(wI r.Filter.Who),(wI r.Filter.Self),(wI r.Filter.Types),(wI r.Filter.NotTypes),(wI r.Filter.Colors),(wI r.Filter.NotColors),(wS r.Filter.Sub),(wI r.Filter.Keys),(wI r.Filter.Tap),(wI r.Filter.Power.Kind),(wI r.Filter.Power.N),(wI r.Filter.Tough.Kind),(wI r.Filter.Tough.N),(wI r.Filter.Value.Kind),(wI r.Filter.Value.N),(wO Zab 5017 r.Mods),(wI r.Price.Mana.Generic),(wI r.Price.Mana.X),(wI r.Price.Mana.Color.a0),(wI r.Price.Mana.Color.a1),(wI r.Price.Mana.Color.a2),(wI r.Price.Mana.Color.a3),(wI r.Price.Mana.Color.a4),(wB r.Price.Tap),(wB r.Price.Sacrifice),(wI r.Price.Life),(wB r.Slow),(wI r.Trigger.When),(wI r.Trigger.Who),(wI r.Trigger.Filter.Zone),(wI r.Trigger.Filter.Who),(wI r.Trigger.Filter.Self),(wI r.Trigger.Filter.Types),(wI r.Trigger.Filter.NotTypes),(wI r.Trigger.Filter.Colors),(wI r.Trigger.Filter.NotColors),(wS r.Trigger.Filter.Sub),(wI r.Trigger.Filter.Keys),(wI r.Trigger.Filter.Tap),(wI r.Trigger.Filter.Power.Kind),(wI r.Trigger.Filter.Power.N),(wI r.Trigger.Filter.Tough.Kind),(wI r.Trigger.Filter.Tough.N),(wI r.Trigger.Filter.Value.Kind),(wI r.Trigger.Filter.Value.N),(wB r.May),(wO Z4 5048 r.Specs),(wO Zaf 5049 r.Effects),(wI r.Replace.On),(wI r.Replace.Who),(wI r.Replace.Filter.Zone),(wI r.Replace.Filter.Who),(wI r.Replace.Filter.Self),(wI r.Replace.Filter.Types),(wI r.Replace.Filter.NotTypes),(wI r.Replace.Filter.Colors),(wI r.Replace.Filter.NotColors),(wS r.Replace.Filter.Sub),(wI r.Replace.Filter.Keys),(wI r.Replace.Filter.Tap),(wI r.Replace.Filter.Power.Kind),(wI r.Replace.Filter.Power.N),(wI r.Replace.Filter.Tough.Kind),(wI r.Replace.Filter.Tough.N),(wI r.Replace.Filter.Value.Kind),(wI r.Replace.Filter.Value.N),(wI r.Replace.Do),(wI r.Replace.N),(wI r.Replace.Zone),(wI r.Replace.Counter)]):=Zaci.fn h
theorem Zavw(a0:Zt){r:Zt}(h:Zv9 a0=some r):Fn PR 151 [(wA (Z3 a0))] (wA (Z3 r)):=
 FnG.frozen (C:=LT.RL Zab r.Mods∧LT.RL Z4 r.Specs∧LT.RL Zaf r.Effects∧True) (Zasi a0 h) ⟨rfl,rfl,rfl,trivial⟩ (by kernel_rfl)
inductive Zk8 where
 | L0 (E0:Zq) (E1:Za) (E2:Za) (v4:Int)
def Zut(E0:Zq)(E1:Za)(E2:Za)(v4:Int):LT Zk8 Za:=
.len Z3 E0.Abilities<|.br (decide (v4 < (E0.Abilities.length:Int))) (.idx Z3 E0.Abilities v4 fun x3=>.call (Zavw x3) fun x5=>.dr [.lit]<|.apR Z3 640 E2.Abilities [x5] fun x8=>.g0 (.L0 E0 E1 (⟨E2.Name,E2.Cost,E2.Colors,E2.Line,E2.Power,E2.Tough,E2.Keys,x8,E2.Control⟩:Za) (IntKind.wrap .i64 (v4+1))))<|.ret E2 [.relab 40000211 5011,.relab 40000215 5015]
def Zacj(a0:Zq):LT Zk8 Za:=
.lb 1001<|.lb 1002<|.call (Zaz2 a0.Cost) fun x1=>.lb 1003<|.lb 1024<|.apR cS 16 ([]:(List (List UInt8))) a0.Line.Subs fun x3=>.go (.L0 a0 (⟨([]:List UInt8),(⟨0,0,(⟨0,0,0,0,0⟩:(A5 Int))⟩:Z1),0,(⟨0,0,([]:(List (List UInt8)))⟩:Z8),0,0,0,([]:(List Zt)),0⟩:Za) (⟨a0.Name,a0.Cost,Zbm .or .i64 x1 a0.Color,(⟨a0.Line.Super,a0.Line.Types,x3⟩:Z8),a0.Power,a0.Tough,a0.Keys,([]:(List Zt)),0⟩:Za) 0) [.relab 1001 30000000,.relab 1002 30000001,.relab 1003 30000002,.ownb 30000001 11 40000111 1,.ownb 30000001 15 40000115 72,.relab 1024 40000211,.ownb 30000002 15 40000215 72]
def Zack:LF Zk8 Za:=⟨98,[.c 2 77 true 17],true,fun | .L0 .. => [1,1,1,0,1,4],
 fun | .L0 E0 E1 E2 v4=>⟨50,[(1,(.bptr 30000000 0)),(2,(.bptr 30000001 0)),(3,(.bptr 30000002 0)),(4,(wI v4))],[(30000000,.box (bx (Zad E0))),(30000001,.box [(wS E1.Name),(wI E1.Cost.Generic),(wI E1.Cost.X),(wI E1.Cost.Color.a0),(wI E1.Cost.Color.a1),(wI E1.Cost.Color.a2),(wI E1.Cost.Color.a3),(wI E1.Cost.Color.a4),(wI E1.Colors),(wI E1.Line.Super),(wI E1.Line.Types),(wO cS 40000111 E1.Line.Subs),(wI E1.Power),(wI E1.Tough),(wI E1.Keys),(wO Z3 40000115 E1.Abilities),(wI E1.Control)]),(40000111,wR cS 1 E1.Line.Subs),(40000115,wR Z3 72 E1.Abilities),(30000002,.box [(wS E2.Name),(wI E2.Cost.Generic),(wI E2.Cost.X),(wI E2.Cost.Color.a0),(wI E2.Cost.Color.a1),(wI E2.Cost.Color.a2),(wI E2.Cost.Color.a3),(wI E2.Cost.Color.a4),(wI E2.Colors),(wI E2.Line.Super),(wI E2.Line.Types),(wO cS 40000211 E2.Line.Subs),(wI E2.Power),(wI E2.Tough),(wI E2.Keys),(wO Z3 40000215 E2.Abilities),(wI E2.Control)]),(40000211,wR cS 1 E2.Line.Subs),(40000215,wR Z3 72 E2.Abilities)]⟩,
 fun r=>[(5011,wR cS 1 r.Line.Subs),(5015,wR Z3 72 r.Abilities)],fun r=>(.agg [(wS r.Name),(wI r.Cost.Generic),(wI r.Cost.X),(wI r.Cost.Color.a0),(wI r.Cost.Color.a1),(wI r.Cost.Color.a2),(wI r.Cost.Color.a3),(wI r.Cost.Color.a4),(wI r.Colors),(wI r.Line.Super),(wI r.Line.Types),(wO cS 5011 r.Line.Subs),(wI r.Power),(wI r.Tough),(wI r.Keys),(wO Z3 5015 r.Abilities),(wI r.Control)]),fun | .L0 E0 E1 E2 v4=>Zut E0 E1 E2 v4⟩
def Z6p(a0:Zq):Option Za:=Zack.run (Zacj a0)
theorem Zasj(a0:Zq){r:Za}(h:Z6p a0=some r):FnG PR 98 [] [(wA (Zad a0))] [(5011,wR cS 1 r.Line.Subs),(5015,wR Z3 72 r.Abilities)] (.agg [(wS r.Name),(wI r.Cost.Generic),(wI r.Cost.X),(wI r.Cost.Color.a0),(wI r.Cost.Color.a1),(wI r.Cost.Color.a2),(wI r.Cost.Color.a3),(wI r.Cost.Color.a4),(wI r.Colors),(wI r.Line.Super),(wI r.Line.Types),(wO cS 5011 r.Line.Subs),(wI r.Power),(wI r.Tough),(wI r.Keys),(wO Z3 5015 r.Abilities),(wI r.Control)]):=Zack.fn h
inductive Zuu where
 | L0 (v0:(List Zq)) (E0:Zl) (E1:Za) (v5:Int)
 | L1 (E0:Zl) (E1:Za) (E2:Za)
def Zre(E0:Zl)(E1:Za)(E2:Za):LT Zuu Za:=
.cs (E0.Zone==0) (.k4 0<|.kn [0]<|.ret (⟨E2.Name,E2.Cost,E2.Colors,E2.Line,E2.Power,E2.Tough,E2.Keys,E2.Abilities,E0.Control⟩:Za) [.relab 40000211 5011,.relab 40000215 5015])<|.k4 0<|.br (E0.Zone==5) (.ret (⟨E2.Name,E2.Cost,E2.Colors,E2.Line,E2.Power,E2.Tough,E2.Keys,E2.Abilities,E0.Control⟩:Za) [.relab 40000211 5011,.relab 40000215 5015])<|.ret (⟨E2.Name,E2.Cost,E2.Colors,E2.Line,E2.Power,E2.Tough,E2.Keys,E2.Abilities,E0.Owner⟩:Za) [.relab 40000211 5011,.relab 40000215 5015]
def Zxo(v0:(List Zq))(E0:Zl)(E1:Za)(v5:Int):LT Zuu Za:=
.lb 1006<|.cs (decide (v5≥0)) (.k3 0<|.len Zad v0<|.k2 0<|.br (decide (v5 < (v0.length:Int))) (.idx Zad v0 v5 fun x4=>.callF (Zasj x4) 260000 fun x6=>.jn 0 (.L1 E0 E1 x6) [.relab 1006 30000002,.relab 265011 40000211,.relab 265015 40000215] (Zre E0 E1 x6))<|.jn 0 (.L1 E0 E1 (⟨([]:List UInt8),(⟨0,0,(⟨0,0,0,0,0⟩:(A5 Int))⟩:Z1),0,(⟨0,0,([]:(List (List UInt8)))⟩:Z8),0,0,0,([]:(List Zt)),0⟩:Za)) [.relab 1006 30000002,.ownb 30000002 11 40000211 1,.ownb 30000002 15 40000215 72] (Zre E0 E1 (⟨([]:List UInt8),(⟨0,0,(⟨0,0,0,0,0⟩:(A5 Int))⟩:Z1),0,(⟨0,0,([]:(List (List UInt8)))⟩:Z8),0,0,0,([]:(List Zt)),0⟩:Za)))<|.k5 0<|.kn [0]<|.jn 0 (.L1 E0 E1 (⟨([]:List UInt8),(⟨0,0,(⟨0,0,0,0,0⟩:(A5 Int))⟩:Z1),0,(⟨0,0,([]:(List (List UInt8)))⟩:Z8),0,0,0,([]:(List Zt)),0⟩:Za)) [.relab 1006 30000002,.ownb 30000002 11 40000211 1,.ownb 30000002 15 40000215 72] (Zre E0 E1 (⟨([]:List UInt8),(⟨0,0,(⟨0,0,0,0,0⟩:(A5 Int))⟩:Z1),0,(⟨0,0,([]:(List (List UInt8)))⟩:Z8),0,0,0,([]:(List Zt)),0⟩:Za))
def Za48(a0:(List Zq))(a1:Zl):LT Zuu Za:=
.lb 1003<|.lb 1004<|.br (decide (a1.Copy < 0)) (.jn 0 (.L0 a0 a1 (⟨([]:List UInt8),(⟨0,0,(⟨0,0,0,0,0⟩:(A5 Int))⟩:Z1),0,(⟨0,0,([]:(List (List UInt8)))⟩:Z8),0,0,0,([]:(List Zt)),0⟩:Za) a1.Card) [.relab 1003 30000000,.relab 1004 30000001,.ownb 30000001 11 40000111 1,.ownb 30000001 15 40000115 72] (Zxo a0 a1 (⟨([]:List UInt8),(⟨0,0,(⟨0,0,0,0,0⟩:(A5 Int))⟩:Z1),0,(⟨0,0,([]:(List (List UInt8)))⟩:Z8),0,0,0,([]:(List Zt)),0⟩:Za) a1.Card))<|.jn 0 (.L0 a0 a1 (⟨([]:List UInt8),(⟨0,0,(⟨0,0,0,0,0⟩:(A5 Int))⟩:Z1),0,(⟨0,0,([]:(List (List UInt8)))⟩:Z8),0,0,0,([]:(List Zt)),0⟩:Za) a1.Copy) [.relab 1003 30000000,.relab 1004 30000001,.ownb 30000001 11 40000111 1,.ownb 30000001 15 40000115 72] (Zxo a0 a1 (⟨([]:List UInt8),(⟨0,0,(⟨0,0,0,0,0⟩:(A5 Int))⟩:Z1),0,(⟨0,0,([]:(List (List UInt8)))⟩:Z8),0,0,0,([]:(List Zt)),0⟩:Za) a1.Copy)
def Za49:LF Zuu Za:=⟨61,[.c 4 77 true 17],true,fun | .L0 .. => [1,1,1] | .L1 .. => [1,1,1,1,1],
 fun | .L0 v0 E0 E1 v5=>⟨41,[(0,(wL Zad v0)),(3,(.bptr 30000000 0)),(4,(.bptr 30000001 0)),(5,(wI v5))],[(30000000,.box (bx (Zs E0))),(30000001,.box [(wS E1.Name),(wI E1.Cost.Generic),(wI E1.Cost.X),(wI E1.Cost.Color.a0),(wI E1.Cost.Color.a1),(wI E1.Cost.Color.a2),(wI E1.Cost.Color.a3),(wI E1.Cost.Color.a4),(wI E1.Colors),(wI E1.Line.Super),(wI E1.Line.Types),(wO cS 40000111 E1.Line.Subs),(wI E1.Power),(wI E1.Tough),(wI E1.Keys),(wO Z3 40000115 E1.Abilities),(wI E1.Control)]),(40000111,wR cS 1 E1.Line.Subs),(40000115,wR Z3 72 E1.Abilities)]⟩ | .L1 E0 E1 E2=>⟨41,[(3,(.bptr 30000000 0)),(4,(.bptr 30000001 0)),(6,(.bptr 30000002 0))],[(30000000,.box (bx (Zs E0))),(30000001,.box [(wS E1.Name),(wI E1.Cost.Generic),(wI E1.Cost.X),(wI E1.Cost.Color.a0),(wI E1.Cost.Color.a1),(wI E1.Cost.Color.a2),(wI E1.Cost.Color.a3),(wI E1.Cost.Color.a4),(wI E1.Colors),(wI E1.Line.Super),(wI E1.Line.Types),(wO cS 40000111 E1.Line.Subs),(wI E1.Power),(wI E1.Tough),(wI E1.Keys),(wO Z3 40000115 E1.Abilities),(wI E1.Control)]),(40000111,wR cS 1 E1.Line.Subs),(40000115,wR Z3 72 E1.Abilities),(30000002,.box [(wS E2.Name),(wI E2.Cost.Generic),(wI E2.Cost.X),(wI E2.Cost.Color.a0),(wI E2.Cost.Color.a1),(wI E2.Cost.Color.a2),(wI E2.Cost.Color.a3),(wI E2.Cost.Color.a4),(wI E2.Colors),(wI E2.Line.Super),(wI E2.Line.Types),(wO cS 40000211 E2.Line.Subs),(wI E2.Power),(wI E2.Tough),(wI E2.Keys),(wO Z3 40000215 E2.Abilities),(wI E2.Control)]),(40000211,wR cS 1 E2.Line.Subs),(40000215,wR Z3 72 E2.Abilities)]⟩,
 fun r=>[(5011,wR cS 1 r.Line.Subs),(5015,wR Z3 72 r.Abilities)],fun r=>(.agg [(wS r.Name),(wI r.Cost.Generic),(wI r.Cost.X),(wI r.Cost.Color.a0),(wI r.Cost.Color.a1),(wI r.Cost.Color.a2),(wI r.Cost.Color.a3),(wI r.Cost.Color.a4),(wI r.Colors),(wI r.Line.Super),(wI r.Line.Types),(wO cS 5011 r.Line.Subs),(wI r.Power),(wI r.Tough),(wI r.Keys),(wO Z3 5015 r.Abilities),(wI r.Control)]),fun | .L0 v0 E0 E1 v5=>Zxo v0 E0 E1 v5 | .L1 E0 E1 E2=>Zre E0 E1 E2⟩
def Zask(a0:(List Zq))(a1:Zl):Option Za:=Za49.run (Za48 a0 a1)
theorem Zbax(a0:(List Zq))(a1:Zl){r:Za}(h:Zask a0 a1=some r):FnG PR 61 [] [(wL Zad a0),(wA (Zs a1))] [(5011,wR cS 1 r.Line.Subs),(5015,wR Z3 72 r.Abilities)] (.agg [(wS r.Name),(wI r.Cost.Generic),(wI r.Cost.X),(wI r.Cost.Color.a0),(wI r.Cost.Color.a1),(wI r.Cost.Color.a2),(wI r.Cost.Color.a3),(wI r.Cost.Color.a4),(wI r.Colors),(wI r.Line.Super),(wI r.Line.Types),(wO cS 5011 r.Line.Subs),(wI r.Power),(wI r.Tough),(wI r.Keys),(wO Z3 5015 r.Abilities),(wI r.Control)]):=Za49.fn h
theorem Zayy(a0:(List Zq))(a1:Zl){r:Za}(h:Zask a0 a1=some r):Fn PR 61 [(wL Zad a0),(wA (Zs a1))] (wA (Zk r)):=
 FnG.frozen (C:=LT.RL cS r.Line.Subs∧LT.RL Z3 r.Abilities∧True) (Zbax a0 a1 h) ⟨rfl,rfl,trivial⟩ (by kernel_rfl)
inductive Zha where
 | L0 (v0:(List Zq)) (E0:Zb) (v5:(List Zx)) (v6:Int)
 | L1 (v0:(List Zq)) (E0:Zb) (v5:(List Zx)) (v6:Int) (E1:Zl) (E2:Za) (v9:Int)
 | L2 (E0:Zb) (v5:(List Zx)) (v11:Int)
def Zyg(v0:(List Zq))(E0:Zb)(v5:(List Zx))(v6:Int):LT Zha (List Zx):=
.len Zs E0.Objects<|.br (decide (v6 < (E0.Objects.length:Int))) (.idx Zs E0.Objects v6 fun x3=>.lb 1007<|.br (x3.Zone != 0) (.g0 (.L0 v0 E0 v5 (IntKind.wrap .i64 (v6+1))))<|.call (Zayy v0 x3) fun x8=>.lb 1008<|.go (.L1 v0 E0 v5 v6 x3 x8 0) [.relab 1007 30000001,.relab 1008 30000002])<|.g0 (.L2 E0 v5 0)
def Zyh(v0:(List Zq))(E0:Zb)(v5:(List Zx))(v6:Int)(E1:Zl)(E2:Za)(v9:Int):LT Zha (List Zx):=
.len Z3 E2.Abilities<|.br (decide (v9 < (E2.Abilities.length:Int))) (.idx Z3 E2.Abilities v9 fun x3=>.lb 1010<|.br (x3.Kind==1) (.dr [.lit]<|.apR Zp 224 v5 [(⟨E1.Id,v9,E1.Control,E1.Stamp,false,([]:(List Int)),x3.Filter,x3.Mods⟩:Zx)] fun x7=>.g0 (.L1 v0 E0 x7 v6 E1 E2 (IntKind.wrap .i64 (v9+1))))<|.g0 (.L1 v0 E0 v5 v6 E1 E2 (IntKind.wrap .i64 (v9+1))))<|.g0 (.L0 v0 E0 v5 (IntKind.wrap .i64 (v6+1)))
def Zyi(E0:Zb)(v5:(List Zx))(v11:Int):LT Zha (List Zx):=
.len Zbj E0.Conts<|.br (decide (v11 < (E0.Conts.length:Int))) (.idx Zbj E0.Conts v11 fun x3=>.lb 1012<|.dr [.lit]<|.apR Zp 224 v5 [(⟨x3.Source,(-1),x3.Control,x3.Stamp,true,x3.Objects,(⟨0,0,0,0,0,0,0,([]:List UInt8),0,0,(⟨0,0⟩:Zd),(⟨0,0⟩:Zd),(⟨0,0⟩:Zd)⟩:Ze),x3.Mods⟩:Zx)] fun x6=>.g0 (.L2 E0 x6 (IntKind.wrap .i64 (v11+1))))<|.ret v5 [.relab 20000005 5000]
def Zagb(a0:(List Zq))(a1:Zb):LT Zha (List Zx):=
.lb 1003<|.lb 1013<|.go (.L0 a0 a1 ([]:(List Zx)) 0) [.relab 1003 30000000,.relab 1013 20000005]
def Zagc:LF Zha (List Zx):=⟨60,[.t 4],true,fun | .L0 .. => [1,1,0,1,4] | .L1 .. => [1,1,0,1,4,5,1,0,4,1,1,1,1,4] | .L2 .. => [1,1,1,0,1,4],
 fun | .L0 v0 E0 v5 v6=>⟨89,[(0,(wL Zad v0)),(3,(.bptr 30000000 0)),(5,(wO Zp 20000005 v5)),(6,(wI v6))],[(30000000,.box (bx (Zu E0))),(20000005,wR Zp 23 v5)]⟩ | .L1 v0 E0 v5 v6 E1 E2 v9=>⟨89,[(0,(wL Zad v0)),(3,(.bptr 30000000 0)),(5,(wO Zp 20000005 v5)),(6,(wI v6)),(7,(.bptr 30000001 0)),(8,(.bptr 30000002 0)),(9,(wI v9))],[(30000000,.box (bx (Zu E0))),(20000005,wR Zp 23 v5),(30000001,.box (bx (Zs E1))),(30000002,.box (bx (Zk E2)))]⟩ | .L2 E0 v5 v11=>⟨89,[(3,(.bptr 30000000 0)),(5,(wO Zp 20000005 v5)),(11,(wI v11))],[(30000000,.box (bx (Zu E0))),(20000005,wR Zp 23 v5)]⟩,
 fun r=>[(5000,wR Zp 23 r)],fun r=>(wO Zp 5000 r),fun | .L0 v0 E0 v5 v6=>Zyg v0 E0 v5 v6 | .L1 v0 E0 v5 v6 E1 E2 v9=>Zyh v0 E0 v5 v6 E1 E2 v9 | .L2 E0 v5 v11=>Zyi E0 v5 v11⟩
def Z0a(a0:(List Zq))(a1:Zb):Option (List Zx):=Zagc.run (Zagb a0 a1)
theorem Zavx(a0:(List Zq))(a1:Zb){r:(List Zx)}(h:Z0a a0 a1=some r):FnG PR 60 [] [(wL Zad a0),(wA (Zu a1))] [(5000,wR Zp 23 r)] (wO Zp 5000 r):=Zagc.fn h
theorem Zaz3(a0:(List Zq))(a1:Zb){r:(List Zx)}(h:Z0a a0 a1=some r):Fn PR 60 [(wL Zad a0),(wA (Zu a1))] (wL Zp r):=
 FnG.frozen (C:=LT.RL Zp r∧True) (Zavx a0 a1 h) ⟨rfl,trivial⟩ (by kernel_rfl)
inductive Zpq where
 | L0 (v0:(List Zq)) (E0:Zb) (E1:Zc) (E2:Zc) (v6:Int)
def Z2l(v0:(List Zq))(E0:Zb)(E1:Zc)(E2:Zc)(v6:Int):LT Zpq Zc:=
.len Zs E0.Objects<|.br (decide (v6 < (E0.Objects.length:Int))) (.idx Zs E0.Objects v6 fun x3=>.call (Zayy v0 x3) fun x5=>.dr [.lit]<|.apR Zk 176 E2.All [x5] fun x8=>.g0 (.L0 v0 E0 E1 (⟨E2.S,x8,E2.L,E2.Begun,E2.Sets,E2.Blank⟩:Zc) (IntKind.wrap .i64 (v6+1))))<|.len Zp E2.L<|.mk cB 1034 1 false (E2.L.length:Int) (E2.L.length:Int) fun x14=>.len Zp E2.L<|.mk (cL (cI .i64)) 1039 24 [] (E2.L.length:Int) (E2.L.length:Int) fun x16=>.len Zs E0.Objects<|.mk cB 1044 1 false (E0.Objects.length:Int) (E0.Objects.length:Int) fun x18=>.ret (⟨E2.S,E2.All,E2.L,x14,x16,x18⟩:Zc) [.relab 40000219 5019,.relab 1034 5021,.relab 1039 5022,.relab 1044 5023]
def Zald(a0:(List Zq))(a1:Zb):LT Zpq Zc:=
.lb 1003<|.lb 1004<|.call (Zaz3 a0 a1) fun x1=>.lb 1005<|.go (.L0 a0 a1 (⟨(⟨([]:(List Za2)),([]:(List Zl)),([]:(List Int)),([]:(List Int)),([]:(List Zdg)),([]:(List Zc0)),([]:(List Ze4)),0,0,0,false,0,0,0,0,0,([]:(List Int)),0,0⟩:Zb),([]:(List Za)),([]:(List Zx)),([]:(List Bool)),([]:(List (List Int))),([]:(List Bool))⟩:Zc) (⟨a1,([]:(List Za)),x1,([]:(List Bool)),([]:(List (List Int))),([]:(List Bool))⟩:Zc) 0) [.relab 1003 30000000,.relab 1004 30000001,.relab 1005 30000002,.ownb 30000001 0 40000100 14,.ownb 30000001 1 40000101 19,.ownb 30000001 2 40000102 1,.ownb 30000001 3 40000103 1,.ownb 30000001 4 40000104 94,.ownb 30000001 5 40000105 89,.ownb 30000001 6 40000106 6,.ownb 30000001 16 40000116 1,.ownb 30000001 19 40000119 17,.ownb 30000001 20 40000120 23,.ownb 30000001 21 40000121 1,.ownb 30000001 22 40000122 1,.ownb 30000001 23 40000123 1,.ownb 30000002 19 40000219 17,.ownb 30000002 21 40000221 1,.ownb 30000002 22 40000222 1,.ownb 30000002 23 40000223 1]
def Zale:LF Zpq Zc:=⟨30,[.c 4 96 true 24],true,fun | .L0 .. => [1,1,0,1,4],
 fun | .L0 v0 E0 E1 E2 v6=>⟨47,[(0,(wL Zad v0)),(3,(.bptr 30000000 0)),(4,(.bptr 30000001 0)),(5,(.bptr 30000002 0)),(6,(wI v6))],[(30000000,.box (bx (Zu E0))),(30000001,.box [(wO Zag 40000100 E1.S.Players),(wO Zs 40000101 E1.S.Objects),(wO (cI .i64) 40000102 E1.S.Battlefield),(wO (cI .i64) 40000103 E1.S.Exile),(wO Zbd 40000104 E1.S.Stack),(wO Za7 40000105 E1.S.Waiting),(wO Zbj 40000106 E1.S.Conts),(wI E1.S.Turn),(wI E1.S.Active),(wI E1.S.Step),(wB E1.S.Begun),(wI E1.S.Priority),(wI E1.S.Passes),(wI E1.S.NextId),(wI E1.S.NextStamp),(.t (.int .u64 E1.S.Seed)),(wO (cI .i64) 40000116 E1.S.Extra),(wI E1.S.Over),(wI E1.S.Winner),(wO Zk 40000119 E1.All),(wO Zp 40000120 E1.L),(wO cB 40000121 E1.Begun),(wO (cL (cI .i64)) 40000122 E1.Sets),(wO cB 40000123 E1.Blank)]),(40000100,wR Zag 14 E1.S.Players),(40000101,wR Zs 19 E1.S.Objects),(40000102,wR (cI .i64) 1 E1.S.Battlefield),(40000103,wR (cI .i64) 1 E1.S.Exile),(40000104,wR Zbd 94 E1.S.Stack),(40000105,wR Za7 89 E1.S.Waiting),(40000106,wR Zbj 6 E1.S.Conts),(40000116,wR (cI .i64) 1 E1.S.Extra),(40000119,wR Zk 17 E1.All),(40000120,wR Zp 23 E1.L),(40000121,wR cB 1 E1.Begun),(40000122,wR (cL (cI .i64)) 1 E1.Sets),(40000123,wR cB 1 E1.Blank),(30000002,.box [(wL Zag E2.S.Players),(wL Zs E2.S.Objects),(wL (cI .i64) E2.S.Battlefield),(wL (cI .i64) E2.S.Exile),(wL Zbd E2.S.Stack),(wL Za7 E2.S.Waiting),(wL Zbj E2.S.Conts),(wI E2.S.Turn),(wI E2.S.Active),(wI E2.S.Step),(wB E2.S.Begun),(wI E2.S.Priority),(wI E2.S.Passes),(wI E2.S.NextId),(wI E2.S.NextStamp),(.t (.int .u64 E2.S.Seed)),(wL (cI .i64) E2.S.Extra),(wI E2.S.Over),(wI E2.S.Winner),(wO Zk 40000219 E2.All),(wL Zp E2.L),(wO cB 40000221 E2.Begun),(wO (cL (cI .i64)) 40000222 E2.Sets),(wO cB 40000223 E2.Blank)]),(40000219,wR Zk 17 E2.All),(40000221,wR cB 1 E2.Begun),(40000222,wR (cL (cI .i64)) 1 E2.Sets),(40000223,wR cB 1 E2.Blank)]⟩,
 fun r=>[(5019,wR Zk 17 r.All),(5021,wR cB 1 r.Begun),(5022,wR (cL (cI .i64)) 1 r.Sets),(5023,wR cB 1 r.Blank)],fun r=>(.agg [(wL Zag r.S.Players),(wL Zs r.S.Objects),(wL (cI .i64) r.S.Battlefield),(wL (cI .i64) r.S.Exile),(wL Zbd r.S.Stack),(wL Za7 r.S.Waiting),(wL Zbj r.S.Conts),(wI r.S.Turn),(wI r.S.Active),(wI r.S.Step),(wB r.S.Begun),(wI r.S.Priority),(wI r.S.Passes),(wI r.S.NextId),(wI r.S.NextStamp),(.t (.int .u64 r.S.Seed)),(wL (cI .i64) r.S.Extra),(wI r.S.Over),(wI r.S.Winner),(wO Zk 5019 r.All),(wL Zp r.L),(wO cB 5021 r.Begun),(wO (cL (cI .i64)) 5022 r.Sets),(wO cB 5023 r.Blank)]),fun | .L0 v0 E0 E1 E2 v6=>Z2l v0 E0 E1 E2 v6⟩
def Zagd(a0:(List Zq))(a1:Zb):Option Zc:=Zale.run (Zald a0 a1)
theorem Zaz4(a0:(List Zq))(a1:Zb){r:Zc}(h:Zagd a0 a1=some r):FnG PR 30 [] [(wL Zad a0),(wA (Zu a1))] [(5019,wR Zk 17 r.All),(5021,wR cB 1 r.Begun),(5022,wR (cL (cI .i64)) 1 r.Sets),(5023,wR cB 1 r.Blank)] (.agg [(wL Zag r.S.Players),(wL Zs r.S.Objects),(wL (cI .i64) r.S.Battlefield),(wL (cI .i64) r.S.Exile),(wL Zbd r.S.Stack),(wL Za7 r.S.Waiting),(wL Zbj r.S.Conts),(wI r.S.Turn),(wI r.S.Active),(wI r.S.Step),(wB r.S.Begun),(wI r.S.Priority),(wI r.S.Passes),(wI r.S.NextId),(wI r.S.NextStamp),(.t (.int .u64 r.S.Seed)),(wL (cI .i64) r.S.Extra),(wI r.S.Over),(wI r.S.Winner),(wO Zk 5019 r.All),(wL Zp r.L),(wO cB 5021 r.Begun),(wO (cL (cI .i64)) 5022 r.Sets),(wO cB 5023 r.Blank)]):=Zale.fn h
def Z6q(a0:Int):LT Empty Int:=
.br (decide (a0 > 1000000)) (.rt 1000000)<|.br (decide (a0 < (-1000000))) (.rt (-1000000))<|.rt a0
def Zalf:LF Empty Int := .z 153 [.t 2] false (fun r=>[]) (fun r=>(wI r))
def Zxp(a0:Int):Option Int:=Zalf.run (Z6q a0)
theorem Zdq(a0:Int){r:Int}(h:Zxp a0=some r):Fn PR 153 [(wI a0)] (wI r):=Zalf.fn h
def Zayz(a0:Int)(a1:Int):LT Empty Int:=
.call (Zdq a0) fun x1=>.call (Zdq a1) fun x3=>.call (Zdq (IntKind.wrap .i64 (x1 - x3))) fun x7=>.rt x7
def Zay0:LF Empty Int := .z 152 [.t 4] false (fun r=>[]) (fun r=>(wI r))
def Zavy(a0:Int)(a1:Int):Option Int:=Zay0.run (Zayz a0 a1)
theorem Zbay(a0:Int)(a1:Int){r:Int}(h:Zavy a0 a1=some r):Fn PR 152 [(wI a0),(wI a1)] (wI r):=Zay0.fn h
def Zalg(a0:(A3 Int)):LT Empty Int:=
.lb 1001<|.idA (Zn.int .i64) (A3.list a0) 0 (bx ((cA3 (cI .i64)) a0)) 0 3 fun x1=>.ldC (Zn.int .i64) 4 x1 0<|.idA (Zn.int .i64) (A3.list a0) 1 (bx ((cA3 (cI .i64)) a0)) 0 3 fun x3=>.ldC (Zn.int .i64) 6 x3 1<|.call (Zbay x1 x3) fun x5=>.rt x5
def Zalh:LF Empty Int := .z 99 [.t 2] false (fun r=>[]) (fun r=>(wI r))
def Zage(a0:(A3 Int)):Option Int:=Zalh.run (Zalg a0)
theorem Za5a(a0:(A3 Int)){r:Int}(h:Zage a0=some r):Fn PR 99 [(wA ((cA3 (cI .i64)) a0))] (wI r):=Zalh.fn h
def Zagf(a0:Int)(a1:Int):LT Empty Int:=
.call (Zdq a0) fun x1=>.call (Zdq a1) fun x3=>.call (Zdq (IntKind.wrap .i64 (x1+x3))) fun x7=>.rt x7
def Zay1:LF Empty Int := .z 100 [.t 4] false (fun r=>[]) (fun r=>(wI r))
def Z8s(a0:Int)(a1:Int):Option Int:=Zay1.run (Zagf a0 a1)
theorem Zkj(a0:Int)(a1:Int){r:Int}(h:Z8s a0 a1=some r):Fn PR 100 [(wI a0),(wI a1)] (wI r):=Zay1.fn h
inductive Zk9 where
 | L0 (E0:Zc) (E1:Zc) (E2:Zc) (v4:Int)
def Zuv(E0:Zc)(E1:Zc)(E2:Zc)(v4:Int):LT Zk9 Zc:=
.len Zk E0.All<|.br (decide (v4 < (E0.All.length:Int))) (.idx Zk E0.All v4 fun x3=>.lb 1005<|.idx Zs E0.S.Objects v4 fun x5=>.lb 1006<|.cs (x5.Zone==0) (.k4 1<|.dc ((1:Int)≠0) rfl<|.kg 1<|.dc ((2:Int)≠0) rfl<|.k2 1<|.br ((Int.tmod (Zms .i64 x3.Line.Types 1) 2)==1) (.call (Za5a x5.Counters) fun x9=>.call (Zkj x3.Power x9) fun x11=>.call (Zkj x3.Tough x9) fun x13=>.dr [.lit]<|.apR Zk 176 E2.All [(⟨x3.Name,x3.Cost,x3.Colors,x3.Line,x11,x13,x3.Keys,x3.Abilities,x3.Control⟩:Za)] fun x16=>.g0 (.L0 E0 E1 (⟨E2.S,x16,E2.L,E2.Begun,E2.Sets,E2.Blank⟩:Zc) (IntKind.wrap .i64 (v4+1))))<|.dr [.lit]<|.apR Zk 176 E2.All [x3] fun x22=>.g0 (.L0 E0 E1 (⟨E2.S,x22,E2.L,E2.Begun,E2.Sets,E2.Blank⟩:Zc) (IntKind.wrap .i64 (v4+1))))<|.k5 1<|.k2 1<|.kn [0]<|.dr [.lit]<|.apR Zk 176 E2.All [x3] fun x28=>.g0 (.L0 E0 E1 (⟨E2.S,x28,E2.L,E2.Begun,E2.Sets,E2.Blank⟩:Zc) (IntKind.wrap .i64 (v4+1))))<|.ret E2 [.relab 40000219 5019]
def Zacl(a0:Zc):LT Zk9 Zc:=
.lb 1001<|.lb 1002<|.lb 1003<|.go (.L0 a0 (⟨(⟨([]:(List Za2)),([]:(List Zl)),([]:(List Int)),([]:(List Int)),([]:(List Zdg)),([]:(List Zc0)),([]:(List Ze4)),0,0,0,false,0,0,0,0,0,([]:(List Int)),0,0⟩:Zb),([]:(List Za)),([]:(List Zx)),([]:(List Bool)),([]:(List (List Int))),([]:(List Bool))⟩:Zc) (⟨a0.S,([]:(List Za)),a0.L,a0.Begun,a0.Sets,a0.Blank⟩:Zc) 0) [.relab 1001 30000000,.relab 1002 30000001,.relab 1003 30000002,.ownb 30000001 0 40000100 14,.ownb 30000001 1 40000101 19,.ownb 30000001 2 40000102 1,.ownb 30000001 3 40000103 1,.ownb 30000001 4 40000104 94,.ownb 30000001 5 40000105 89,.ownb 30000001 6 40000106 6,.ownb 30000001 16 40000116 1,.ownb 30000001 19 40000119 17,.ownb 30000001 20 40000120 23,.ownb 30000001 21 40000121 1,.ownb 30000001 22 40000122 1,.ownb 30000001 23 40000123 1,.ownb 30000002 19 40000219 17]
def Zacm:LF Zk9 Zc:=⟨62,[.c 2 96 true 24],true,fun | .L0 .. => [1,1,1,0,1,4],
 fun | .L0 E0 E1 E2 v4=>⟨59,[(1,(.bptr 30000000 0)),(2,(.bptr 30000001 0)),(3,(.bptr 30000002 0)),(4,(wI v4))],[(30000000,.box (bx (Zae E0))),(30000001,.box [(wO Zag 40000100 E1.S.Players),(wO Zs 40000101 E1.S.Objects),(wO (cI .i64) 40000102 E1.S.Battlefield),(wO (cI .i64) 40000103 E1.S.Exile),(wO Zbd 40000104 E1.S.Stack),(wO Za7 40000105 E1.S.Waiting),(wO Zbj 40000106 E1.S.Conts),(wI E1.S.Turn),(wI E1.S.Active),(wI E1.S.Step),(wB E1.S.Begun),(wI E1.S.Priority),(wI E1.S.Passes),(wI E1.S.NextId),(wI E1.S.NextStamp),(.t (.int .u64 E1.S.Seed)),(wO (cI .i64) 40000116 E1.S.Extra),(wI E1.S.Over),(wI E1.S.Winner),(wO Zk 40000119 E1.All),(wO Zp 40000120 E1.L),(wO cB 40000121 E1.Begun),(wO (cL (cI .i64)) 40000122 E1.Sets),(wO cB 40000123 E1.Blank)]),(40000100,wR Zag 14 E1.S.Players),(40000101,wR Zs 19 E1.S.Objects),(40000102,wR (cI .i64) 1 E1.S.Battlefield),(40000103,wR (cI .i64) 1 E1.S.Exile),(40000104,wR Zbd 94 E1.S.Stack),(40000105,wR Za7 89 E1.S.Waiting),(40000106,wR Zbj 6 E1.S.Conts),(40000116,wR (cI .i64) 1 E1.S.Extra),(40000119,wR Zk 17 E1.All),(40000120,wR Zp 23 E1.L),(40000121,wR cB 1 E1.Begun),(40000122,wR (cL (cI .i64)) 1 E1.Sets),(40000123,wR cB 1 E1.Blank),(30000002,.box [(wL Zag E2.S.Players),(wL Zs E2.S.Objects),(wL (cI .i64) E2.S.Battlefield),(wL (cI .i64) E2.S.Exile),(wL Zbd E2.S.Stack),(wL Za7 E2.S.Waiting),(wL Zbj E2.S.Conts),(wI E2.S.Turn),(wI E2.S.Active),(wI E2.S.Step),(wB E2.S.Begun),(wI E2.S.Priority),(wI E2.S.Passes),(wI E2.S.NextId),(wI E2.S.NextStamp),(.t (.int .u64 E2.S.Seed)),(wL (cI .i64) E2.S.Extra),(wI E2.S.Over),(wI E2.S.Winner),(wO Zk 40000219 E2.All),(wL Zp E2.L),(wL cB E2.Begun),(wL (cL (cI .i64)) E2.Sets),(wL cB E2.Blank)]),(40000219,wR Zk 17 E2.All)]⟩,
 fun r=>[(5019,wR Zk 17 r.All)],fun r=>(.agg [(wL Zag r.S.Players),(wL Zs r.S.Objects),(wL (cI .i64) r.S.Battlefield),(wL (cI .i64) r.S.Exile),(wL Zbd r.S.Stack),(wL Za7 r.S.Waiting),(wL Zbj r.S.Conts),(wI r.S.Turn),(wI r.S.Active),(wI r.S.Step),(wB r.S.Begun),(wI r.S.Priority),(wI r.S.Passes),(wI r.S.NextId),(wI r.S.NextStamp),(.t (.int .u64 r.S.Seed)),(wL (cI .i64) r.S.Extra),(wI r.S.Over),(wI r.S.Winner),(wO Zk 5019 r.All),(wL Zp r.L),(wL cB r.Begun),(wL (cL (cI .i64)) r.Sets),(wL cB r.Blank)]),fun | .L0 E0 E1 E2 v4=>Zuv E0 E1 E2 v4⟩
def Z6r(a0:Zc):Option Zc:=Zacm.run (Zacl a0)
theorem Zasl(a0:Zc){r:Zc}(h:Z6r a0=some r):FnG PR 62 [] [(wA (Zae a0))] [(5019,wR Zk 17 r.All)] (.agg [(wL Zag r.S.Players),(wL Zs r.S.Objects),(wL (cI .i64) r.S.Battlefield),(wL (cI .i64) r.S.Exile),(wL Zbd r.S.Stack),(wL Za7 r.S.Waiting),(wL Zbj r.S.Conts),(wI r.S.Turn),(wI r.S.Active),(wI r.S.Step),(wB r.S.Begun),(wI r.S.Priority),(wI r.S.Passes),(wI r.S.NextId),(wI r.S.NextStamp),(.t (.int .u64 r.S.Seed)),(wL (cI .i64) r.S.Extra),(wI r.S.Over),(wI r.S.Winner),(wO Zk 5019 r.All),(wL Zp r.L),(wL cB r.Begun),(wL (cL (cI .i64)) r.Sets),(wL cB r.Blank)]):=Zacm.fn h
inductive Zij where
 | L0 (v3:Int) (v6:Bool)
 | L1 (v3:Int) (v11:Bool)
 | L2 (v3:Int) (v14:Bool)
def Zjf(v3:Int)(v14:Bool):LT Zij Int:=
.br v14 (.rt 4)<|.br (v3==11) (.rt 5)<|.br (v3==12) (.rt 6)<|.br (v3==13) (.rt 7)<|.br (v3==14) (.rt 8)<|.rt 0
def Znd(v3:Int)(v11:Bool):LT Zij Int:=
.br v11 (.rt 3)<|.br (v3==8) (.j0 (.L2 v3 (v3==8)) (Zjf v3 (v3==8)))<|.br (v3==9) (.j0 (.L2 v3 (v3==9)) (Zjf v3 (v3==9)))<|.j0 (.L2 v3 (v3==10)) (Zjf v3 (v3==10))
def Zhb(v3:Int)(v6:Bool):LT Zij Int:=
.br v6 (.rt 2)<|.br (v3==6) (.j0 (.L1 v3 (v3==6)) (Znd v3 (v3==6)))<|.j0 (.L1 v3 (v3==7)) (Znd v3 (v3==7))
def Zali(a0:Int):LT Zij Int:=
.br (a0==1) (.rt 1)<|.br (a0==2) (.j0 (.L0 a0 (a0==2)) (Zhb a0 (a0==2)))<|.br (a0==3) (.j0 (.L0 a0 (a0==3)) (Zhb a0 (a0==3)))<|.br (a0==4) (.j0 (.L0 a0 (a0==4)) (Zhb a0 (a0==4)))<|.j0 (.L0 a0 (a0==5)) (Zhb a0 (a0==5))
def Zalj:LF Zij Int:=⟨101,[.t 2],false,fun | .L0 .. => [1,0,1,4,1,3,1] | .L1 .. => [1,0,1,4,1,3,1,3,1] | .L2 .. => [1,0,1,4,1,3,1,3,1,3,1],
 fun | .L0 v3 v6=>⟨26,[(3,(wI v3)),(6,(wB v6))],[]⟩ | .L1 v3 v11=>⟨26,[(3,(wI v3)),(11,(wB v11))],[]⟩ | .L2 v3 v14=>⟨26,[(3,(wI v3)),(14,(wB v14))],[]⟩,
 fun r=>[],fun r=>(wI r),fun | .L0 v3 v6=>Zhb v3 v6 | .L1 v3 v11=>Znd v3 v11 | .L2 v3 v14=>Zjf v3 v14⟩
def Zcc(a0:Int):Option Int:=Zalj.run (Zali a0)
theorem Zsp(a0:Int){r:Int}(h:Zcc a0=some r):Fn PR 101 [(wI a0)] (wI r):=Zalj.fn h
inductive Zla where
 | L0 (v1:Int) (E0:Zx) (v5:Int)
def Zuw(v1:Int)(E0:Zx)(v5:Int):LT Zla Bool:=
.len Zab E0.Mods<|.br (decide (v5 < (E0.Mods.length:Int))) (.idx Zab E0.Mods v5 fun x3=>.call (Zsp x3.Kind) fun x5=>.br (x5==v1) (.rt true)<|.g0 (.L0 v1 E0 (IntKind.wrap .i64 (v5+1))))<|.rt false
def Zacn(a0:Zx)(a1:Int):LT Zla Bool:=
.lb 1002<|.go (.L0 a1 a0 0) [.relab 1002 30000000]
def Zaco:LF Zla Bool:=⟨63,[.t 4],false,fun | .L0 .. => [1,0,1,4],
 fun | .L0 v1 E0 v5=>⟨22,[(1,(wI v1)),(2,(.bptr 30000000 0)),(5,(wI v5))],[(30000000,.box (bx (Zp E0)))]⟩,
 fun r=>[],fun r=>(wB r),fun | .L0 v1 E0 v5=>Zuw v1 E0 v5⟩
def Z6s(a0:Zx)(a1:Int):Option Bool:=Zaco.run (Zacn a0 a1)
theorem Zavz(a0:Zx)(a1:Int){r:Bool}(h:Z6s a0 a1=some r):Fn PR 63 [(wA (Zp a0)),(wI a1)] (wB r):=Zaco.fn h
inductive Zpr where
 | L0 (v1:Int) (E0:Zb) (v5:Int)
def Z2m(v1:Int)(E0:Zb)(v5:Int):LT Zpr Int:=
.len Zs E0.Objects<|.br (decide (v5 < (E0.Objects.length:Int))) (.idx Zs E0.Objects v5 fun x3=>.br (x3.Id==v1) (.rt v5)<|.g0 (.L0 v1 E0 (IntKind.wrap .i64 (v5+1))))<|.rt (-1)
def Zalk(a0:Zb)(a1:Int):LT Zpr Int:=
.lb 1002<|.go (.L0 a1 a0 0) [.relab 1002 30000000]
def Zall:LF Zpr Int:=⟨157,[.t 4],false,fun | .L0 .. => [1,0,1,4],
 fun | .L0 v1 E0 v5=>⟨22,[(1,(wI v1)),(2,(.bptr 30000000 0)),(5,(wI v5))],[(30000000,.box (bx (Zu E0)))]⟩,
 fun r=>[],fun r=>(wI r),fun | .L0 v1 E0 v5=>Z2m v1 E0 v5⟩
def Zagg(a0:Zb)(a1:Int):Option Int:=Zall.run (Zalk a0 a1)
theorem Zagh(a0:Zb)(a1:Int){r:Int}(h:Zagg a0 a1=some r):Fn PR 157 [(wA (Zu a0)),(wI a1)] (wI r):=Zall.fn h
def Zagi(a0:Zc)(a1:Int):LT Empty Bool:=
.lb 1002<|.idx Zp a0.L a1 fun x1=>.cs x1.Fixed (.k5 0<|.kg 0<|.kn [0]<|.rt true)<|.k4 0<|.idx cB a0.Begun a1 fun x4=>.k2 0<|.br x4 (.rt true)<|.ag Zp x1 0<|.call (Zagh a0.S x1.Source) fun x7=>.cs (decide (x7 < 0)) (.k5 2<|.k2 2<|.rt true)<|.k4 2<|.idx cB a0.Blank x7 fun x10=>.k3 2<|.rt (!x10)
def Zagj:LF Empty Bool := .z 104 [.t 4] false (fun r=>[]) (fun r=>(wB r))
def Zaaj(a0:Zc)(a1:Int):Option Bool:=Zagj.run (Zagi a0 a1)
theorem Zp9(a0:Zc)(a1:Int){r:Bool}(h:Zaaj a0 a1=some r):Fn PR 104 [(wA (Zae a0)),(wI a1)] (wB r):=Zagj.fn h
inductive Zps where
 | L0 (v0:(List Int)) (v1:Int) (v5:Int)
def Z2n(v0:(List Int))(v1:Int)(v5:Int):LT Zps Int:=
.len (cI .i64) v0<|.br (decide (v5 < (v0.length:Int))) (.idx (cI .i64) v0 v5 fun x3=>.br (x3==v1) (.rt v5)<|.g0 (.L0 v0 v1 (IntKind.wrap .i64 (v5+1))))<|.rt (-1)
def Zalm(a0:(List Int))(a1:Int):LT Zps Int:=
.g0 (.L0 a0 a1 0)
def Zaln:LF Zps Int:=⟨158,[.t 4],false,fun | .L0 .. => [1,0,1,4],
 fun | .L0 v0 v1 v5=>⟨19,[(0,(wL (cI .i64) v0)),(1,(wI v1)),(5,(wI v5))],[]⟩,
 fun r=>[],fun r=>(wI r),fun | .L0 v0 v1 v5=>Z2n v0 v1 v5⟩
def Zagk(a0:(List Int))(a1:Int):Option Int:=Zaln.run (Zalm a0 a1)
theorem Za5b(a0:(List Int))(a1:Int){r:Int}(h:Zagk a0 a1=some r):Fn PR 158 [(wL (cI .i64) a0),(wI a1)] (wI r):=Zaln.fn h
def Zay2(a0:(List Int))(a1:Int):LT Empty Bool:=
.call (Za5b a0 a1) fun x1=>.rt (decide (x1≥0))
def Zay3:LF Empty Bool := .z 108 [.t 4] false (fun r=>[]) (fun r=>(wB r))
def Zav0(a0:(List Int))(a1:Int):Option Bool:=Zay3.run (Zay2 a0 a1)
theorem Zasm(a0:(List Int))(a1:Int){r:Bool}(h:Zav0 a0 a1=some r):Fn PR 108 [(wL (cI .i64) a0),(wI a1)] (wB r):=Zay3.fn h
def Zay4(a0:Zc)(a1:Int):LT Empty Int:=
.lb 1002<|.idx Zp a0.L a1 fun x1=>.call (Zagh a0.S x1.Source) fun x3=>.ag Zp x1 0<|.cs x1.Fixed (.k3 0<|.kn [0]<|.ag Zp x1 0<|.rt x1.Control)<|.k3 0<|.br (decide (x3 < 0)) (.ag Zp x1 0<|.rt x1.Control)<|.idx Zk a0.All x3 fun x7=>.rt x7.Control
def Zay5:LF Empty Int := .z 107 [.t 4] false (fun r=>[]) (fun r=>(wI r))
def Zav1(a0:Zc)(a1:Int):Option Int:=Zay5.run (Zay4 a0 a1)
theorem Z0b(a0:Zc)(a1:Int){r:Int}(h:Zav1 a0 a1=some r):Fn PR 107 [(wA (Zae a0)),(wI a1)] (wI r):=Zay5.fn h
def Zagl(a0:Int)(a1:Int)(a2:Int):LT Empty Bool:=
.br (a2==1) (.rt (a0==a1))<|.cs (a2 != 2) (.k4 1<|.rt true)<|.k4 1<|.rt (a0 != a1)
def Zay6:LF Empty Bool := .z 118 [.t 6] false (fun r=>[]) (fun r=>(wB r))
def Z8t(a0:Int)(a1:Int)(a2:Int):Option Bool:=Zay6.run (Zagl a0 a1 a2)
theorem Zbaz(a0:Int)(a1:Int)(a2:Int){r:Bool}(h:Z8t a0 a1 a2=some r):Fn PR 118 [(wI a0),(wI a1),(wI a2)] (wB r):=Zay6.fn h
def Zaak(a0:Int)(a1:Int)(a2:Int):LT Empty Bool:=
.br (a2==1) (.rt (a0==a1))<|.cs (a2 != 2) (.k4 1<|.rt true)<|.k4 1<|.rt (a0 != a1)
def Zasn:LF Empty Bool := .z 119 [.t 6] false (fun r=>[]) (fun r=>(wB r))
def Z2o(a0:Int)(a1:Int)(a2:Int):Option Bool:=Zasn.run (Zaak a0 a1 a2)
theorem Za75(a0:Int)(a1:Int)(a2:Int){r:Bool}(h:Z2o a0 a1 a2=some r):Fn PR 119 [(wI a0),(wI a1),(wI a2)] (wB r):=Zasn.fn h
def Zagm(a0:Bool)(a1:Int):LT Empty Bool:=
.br (a1==1) (.rt a0)<|.cs (a1 != 2) (.k3 1<|.rt true)<|.k3 1<|.rt (!a0)
def Zay7:LF Empty Bool := .z 120 [.t 4] false (fun r=>[]) (fun r=>(wB r))
def Z8u(a0:Bool)(a1:Int):Option Bool:=Zay7.run (Zagm a0 a1)
theorem Zba0(a0:Bool)(a1:Int){r:Bool}(h:Z8u a0 a1=some r):Fn PR 120 [(wB a0),(wI a1)] (wB r):=Zay7.fn h
def Zacp(a0:Int)(a1:Int):LT Empty Bool:=
.rt ((Zbm .and .i64 a0 a1) != 0)
def Zacq:LF Empty Bool := .z 121 [.t 4] false (fun r=>[]) (fun r=>(wB r))
def Zpt(a0:Int)(a1:Int):Option Bool:=Zacq.run (Zacp a0 a1)
theorem Zfk(a0:Int)(a1:Int){r:Bool}(h:Zpt a0 a1=some r):Fn PR 121 [(wI a0),(wI a1)] (wB r):=Zacq.fn h
def Z2p(a0:Z8)(a1:(List UInt8)):LT Empty Bool:=
.lb 1002<|.call (Z08 a0.Subs a1) fun x1=>.rt (decide (x1≥0))
def Zagn:LF Empty Bool := .z 122 [.t 4] false (fun r=>[]) (fun r=>(wB r))
def Zsq(a0:Z8)(a1:(List UInt8)):Option Bool:=Zagn.run (Z2p a0 a1)
theorem Zacr(a0:Z8)(a1:(List UInt8)){r:Bool}(h:Zsq a0 a1=some r):Fn PR 122 [(wA (Zei a0)),(wS a1)] (wB r):=Zagn.fn h
def Zay8(a0:Int)(a1:Int):LT Empty Bool:=
.rt ((Zbm .and .i64 a0 a1)==a1)
def Zay9:LF Empty Bool := .z 22 [.t 4] false (fun r=>[]) (fun r=>(wB r))
def Zaiw(a0:Int)(a1:Int):Option Bool:=Zay9.run (Zay8 a0 a1)
theorem Z0c(a0:Int)(a1:Int){r:Bool}(h:Zaiw a0 a1=some r):Fn PR 22 [(wI a0),(wI a1)] (wB r):=Zay9.fn h
def Z6t(a0:Zd)(a1:Int):LT Empty Bool:=
.lb 1002<|.br (a0.Kind==0) (.rt true)<|.br (a0.Kind==1) (.rt (decide (a1≥a0.N)))<|.br (a0.Kind==2) (.rt (decide (a1≤a0.N)))<|.br (a0.Kind==3) (.rt (a1==a0.N))<|.rt false
def Zalo:LF Empty Bool := .z 170 [.t 4] false (fun r=>[]) (fun r=>(wB r))
def Zxq(a0:Zd)(a1:Int):Option Bool:=Zalo.run (Z6t a0 a1)
theorem Zne(a0:Zd)(a1:Int){r:Bool}(h:Zxq a0 a1=some r):Fn PR 170 [(wA (Zcr a0)),(wI a1)] (wB r):=Zalo.fn h
def Zago(a0:Int)(a1:Int):LT Empty Int:=
.call (Zdq a0) fun x1=>.call (Zdq a1) fun x3=>.call (Zdq (IntKind.wrap .i64 (x1*x3))) fun x7=>.rt x7
def Zaza:LF Empty Int := .z 206 [.t 4] false (fun r=>[]) (fun r=>(wI r))
def Z8v(a0:Int)(a1:Int):Option Int:=Zaza.run (Zago a0 a1)
theorem Zaso(a0:Int)(a1:Int){r:Int}(h:Z8v a0 a1=some r):Fn PR 206 [(wI a0),(wI a1)] (wI r):=Zaza.fn h
inductive Zpu where
 | L0 (v1:Int) (E0:Z1) (v5:Int) (v6:Int)
def Zhc(v1:Int)(E0:Z1)(v5:Int)(v6:Int):LT Zpu Int:=
.br (decide (v6 < 5)) (.idA (Zn.int .i64) (A5.list E0.Color) v6 (bx (Zaz E0)) 2 7 fun x2=>.ldC (Zn.int .i64) 20 x2 0<|.call (Zkj v5 x2) fun x4=>.g0 (.L0 v1 E0 x4 (IntKind.wrap .i64 (v6+1))))<|.br (decide (v1 < 0)) (.call (Zaso E0.X 0) fun x9=>.call (Zkj v5 x9) fun x11=>.rt x11)<|.call (Zaso E0.X v1) fun x13=>.call (Zkj v5 x13) fun x15=>.rt x15
def Z6u(a0:Z1)(a1:Int):LT Zpu Int:=
.lb 1002<|.call (Zwv a0) fun x1=>.br (!x1) (.rt 0)<|.go (.L0 a1 a0 a0.Generic 0) [.relab 1002 30000000]
def Zwa:LF Zpu Int:=⟨171,[.t 4],false,fun | .L0 .. => [1,1,1,0,1,4],
 fun | .L0 v1 E0 v5 v6=>⟨30,[(1,(wI v1)),(2,(.bptr 30000000 0)),(5,(wI v5)),(6,(wI v6))],[(30000000,.box (bx (Zaz E0)))]⟩,
 fun r=>[],fun r=>(wI r),fun | .L0 v1 E0 v5 v6=>Zhc v1 E0 v5 v6⟩
def Zxr(a0:Z1)(a1:Int):Option Int:=Zwa.run (Z6u a0 a1)
theorem Z2q(a0:Z1)(a1:Int){r:Int}(h:Zxr a0 a1=some r):Fn PR 171 [(wA (Zaz a0)),(wI a1)] (wI r):=Zwa.fn h
inductive Znf where
 | L0 (E0:Za) (E1:Ze) (v5:Bool)
def Zff(E0:Za)(E1:Ze)(v5:Bool):LT Znf Bool:=
.cs (E1.Tough.Kind != 0) (.k2 0<|.cs v5 (.k5 1<|.call (Zne E1.Tough E0.Tough) fun x3=>.kg 0<|.kg 1<|.k2 0<|.br (!x3) (.rt false)<|.call (Z2q E0.Cost 0) fun x6=>.call (Zne E1.Value x6) fun x8=>.rt x8)<|.k5 1<|.kg 0<|.kg 1<|.k2 0<|.br (!false) (.rt false)<|.call (Z2q E0.Cost 0) fun x11=>.call (Zne E1.Value x11) fun x13=>.rt x13)<|.k5 0<|.kn [0]<|.call (Z2q E0.Cost 0) fun x15=>.call (Zne E1.Value x15) fun x17=>.rt x17
def Z2r(a0:Za)(a1:Ze):LT Znf Bool:=
.lb 1002<|.lb 1003<|.call (Zfk a0.Line.Types 1) fun x1=>.cs (a1.Power.Kind != 0) (.k2 0<|.cs x1 (.k5 1<|.call (Zne a1.Power a0.Power) fun x5=>.kg 0<|.kg 1<|.k2 0<|.br (!x5) (.rt false)<|.jn 0 (.L0 a0 a1 x1) [.relab 1002 30000000,.relab 1003 30000001] (Zff a0 a1 x1))<|.k5 1<|.kg 0<|.kg 1<|.k2 0<|.br (!false) (.rt false)<|.jn 0 (.L0 a0 a1 x1) [.relab 1002 30000000,.relab 1003 30000001] (Zff a0 a1 x1))<|.k5 0<|.kn [0]<|.jn 0 (.L0 a0 a1 x1) [.relab 1002 30000000,.relab 1003 30000001] (Zff a0 a1 x1)
def Z2s:LF Znf Bool:=⟨123,[.t 4],false,fun | .L0 .. => [1,1,1],
 fun | .L0 E0 E1 v5=>⟨46,[(2,(.bptr 30000000 0)),(3,(.bptr 30000001 0)),(5,(wB v5))],[(30000000,.box (bx (Zk E0))),(30000001,.box (bx (Zy E1)))]⟩,
 fun r=>[],fun r=>(wB r),fun | .L0 E0 E1 v5=>Zff E0 E1 v5⟩
def Zsr(a0:Za)(a1:Ze):Option Bool:=Z2s.run (Z2r a0 a1)
theorem Zacs(a0:Za)(a1:Ze){r:Bool}(h:Zsr a0 a1=some r):Fn PR 123 [(wA (Zk a0)),(wA (Zy a1))] (wB r):=Z2s.fn h
inductive Zjg where
 | L0 (E0:Za) (E1:Ze)
 | L1 (E0:Za) (E1:Ze)
def Zgd(E0:Za)(E1:Ze):LT Zjg Bool:=
.cs (!(E1.Sub==([]:List UInt8))) (.k5 0<|.call (Zacr E0.Line E1.Sub) fun x2=>.k2 0<|.cs (!x2) (.k5 1<|.k2 1<|.kn [0]<|.rt false)<|.k5 1<|.call (Z0c E0.Keys E1.Keys) fun x5=>.k2 1<|.br (!x5) (.rt false)<|.call (Zacs E0 E1) fun x8=>.rt x8)<|.k5 0<|.k2 0<|.b5 false<|.call (Z0c E0.Keys E1.Keys) fun x10=>.b2 false<|.br (!x10) (.rt false)<|.call (Zacs E0 E1) fun x13=>.rt x13
def Zge(E0:Za)(E1:Ze):LT Zjg Bool:=
.cs (E1.Colors != 0) (.k5 0<|.call (Zfk E0.Colors E1.Colors) fun x2=>.k2 0<|.cs (!x2) (.k5 1<|.kg 1<|.kn [0]<|.rt false)<|.k5 1<|.call (Zfk E0.Colors E1.NotColors) fun x5=>.kg 1<|.br x5 (.rt false)<|.j0 (.L1 E0 E1) (Zgd E0 E1))<|.k5 0<|.k2 0<|.b5 false<|.call (Zfk E0.Colors E1.NotColors) fun x8=>.kb false<|.br x8 (.rt false)<|.j0 (.L1 E0 E1) (Zgd E0 E1)
def Z2t(a0:Zl)(a1:Za)(a2:Int)(a3:Int)(a4:Ze):LT Zjg Bool:=
.lb 1005<|.lb 1006<|.lb 1009<|.call (Zfc a4) fun x1=>.cs (!x1) (.k5 0<|.kg 0<|.b16 true<|.b5 true<|.b2 true<|.kn [0]<|.rt false)<|.k5 0<|.kg 0<|.cs (a0.Zone != a4.Zone) (.k8 1<|.b8 true<|.b5 true<|.b2 true<|.kn [0]<|.rt false)<|.k5 1<|.kg 1<|.call (Zbaz a1.Control a2 a4.Who) fun x5=>.k2 1<|.cs (!x5) (.k8 2<|.b5 true<|.b2 true<|.kn [0]<|.rt false)<|.k5 2<|.kg 2<|.call (Za75 a0.Id a3 a4.Self) fun x8=>.k2 2<|.cs (!x8) (.k5 3<|.k2 3<|.kn [0]<|.rt false)<|.k5 3<|.call (Zba0 a0.Tapped a4.Tap) fun x11=>.k2 3<|.br (!x11) (.rt false)<|.cs (a4.Types != 0) (.k5 5<|.kg 5<|.call (Zfk a1.Line.Types a4.Types) fun x15=>.k2 5<|.cs (!x15) (.k5 6<|.k2 6<|.kn [0]<|.rt false)<|.k5 6<|.kg 6<|.call (Zfk a1.Line.Types a4.NotTypes) fun x18=>.kg 6<|.br x18 (.rt false)<|.jn 0 (.L0 a1 a4) [.relab 1006 30000000,.relab 1009 30000001] (Zge a1 a4))<|.k8 5<|.b5 false<|.kb false<|.call (Zfk a1.Line.Types a4.NotTypes) fun x21=>.kb false<|.br x21 (.rt false)<|.jn 0 (.L0 a1 a4) [.relab 1006 30000000,.relab 1009 30000001] (Zge a1 a4)
def Zss:LF Zjg Bool:=⟨72,[.t 10],false,fun | .L0 .. => [1,1,1] | .L1 .. => [1,1,1,1],
 fun | .L0 E0 E1=>⟨107,[(6,(.bptr 30000000 0)),(9,(.bptr 30000001 0))],[(30000000,.box (bx (Zk E0))),(30000001,.box (bx (Zy E1)))]⟩ | .L1 E0 E1=>⟨107,[(6,(.bptr 30000000 0)),(9,(.bptr 30000001 0))],[(30000000,.box (bx (Zk E0))),(30000001,.box (bx (Zy E1)))]⟩,
 fun r=>[],fun r=>(wB r),fun | .L0 E0 E1=>Zge E0 E1 | .L1 E0 E1=>Zgd E0 E1⟩
def Zst(a0:Zl)(a1:Za)(a2:Int)(a3:Int)(a4:Ze):Option Bool:=Zss.run (Z2t a0 a1 a2 a3 a4)
theorem Zyj(a0:Zl)(a1:Za)(a2:Int)(a3:Int)(a4:Ze){r:Bool}(h:Zst a0 a1 a2 a3 a4=some r):Fn PR 72 [(wA (Zs a0)),(wA (Zk a1)),(wI a2),(wI a3),(wA (Zy a4))] (wB r):=Zss.fn h
inductive Zlb where
 | L0 (v1:Int) (E0:Zc) (v5:(List Int)) (E1:Zx) (v7:Int)
def Zux(v1:Int)(E0:Zc)(v5:(List Int))(E1:Zx)(v7:Int):LT Zlb (List Int):=
.len Zs E0.S.Objects<|.br (decide (v7 < (E0.S.Objects.length:Int))) (.idx Zs E0.S.Objects v7 fun x3=>.lb 1008<|.br (x3.Zone != 0) (.g0 (.L0 v1 E0 v5 E1 (IntKind.wrap .i64 (v7+1))))<|.cs E1.Fixed (.k5 2<|.call (Zasm E1.Objects x3.Id) fun x9=>.kg 2<|.cs x9 (.k5 3<|.kg 3<|.kn [0]<|.dr [.lit]<|.apR (cI .i64) 8 v5 [x3.Id] fun x13=>.g0 (.L0 v1 E0 x13 E1 (IntKind.wrap .i64 (v7+1))))<|.k4 3<|.cs (!E1.Fixed) (.k5 4<|.idx Zk E0.All v7 fun x19=>.k4 4<|.call (Z0b E0 v1) fun x21=>.k5 4<|.call (Zyj x3 x19 x21 E1.Source E1.Filter) fun x23=>.kg 3<|.kg 4<|.kg 3<|.br x23 (.dr [.lit]<|.apR (cI .i64) 8 v5 [x3.Id] fun x27=>.g0 (.L0 v1 E0 x27 E1 (IntKind.wrap .i64 (v7+1))))<|.g0 (.L0 v1 E0 v5 E1 (IntKind.wrap .i64 (v7+1))))<|.k8 4<|.k5 4<|.kg 4<|.kg 3<|.kg 4<|.kg 3<|.kn [0]<|.g0 (.L0 v1 E0 v5 E1 (IntKind.wrap .i64 (v7+1))))<|.k5 2<|.kg 2<|.b4 false<|.cs (!E1.Fixed) (.k5 3<|.idx Zk E0.All v7 fun x37=>.k4 3<|.call (Z0b E0 v1) fun x39=>.k5 3<|.call (Zyj x3 x37 x39 E1.Source E1.Filter) fun x41=>.kb false<|.kg 3<|.kb false<|.br x41 (.dr [.lit]<|.apR (cI .i64) 8 v5 [x3.Id] fun x45=>.g0 (.L0 v1 E0 x45 E1 (IntKind.wrap .i64 (v7+1))))<|.g0 (.L0 v1 E0 v5 E1 (IntKind.wrap .i64 (v7+1))))<|.k8 3<|.k5 3<|.kg 3<|.kb false<|.kg 3<|.kb false<|.kn [0]<|.g0 (.L0 v1 E0 v5 E1 (IntKind.wrap .i64 (v7+1))))<|.rl (cI .i64) v5<|.rt v5
def Zact(a0:Zc)(a1:Int):LT Zlb (List Int):=
.lb 1002<|.idx cB a0.Begun a1 fun x1=>.br x1 (.idx (cL (cI .i64)) a0.Sets a1 fun x4=>.rt x4)<|.lb 1019<|.call (Zp9 a0 a1) fun x6=>.br (!x6) (.rl (cI .i64) ([]:(List Int))<|.rt ([]:(List Int)))<|.idx Zp a0.L a1 fun x9=>.lb 1006<|.go (.L0 a1 a0 ([]:(List Int)) x9 0) [.relab 1002 30000000,.relab 1006 30000001,.relab 1019 20000005]
def Zacu:LF Zlb (List Int):=⟨105,[.t 4],false,fun | .L0 .. => [1,1,1,1,1,0,1,4],
 fun | .L0 v1 E0 v5 E1 v7=>⟨83,[(1,(wI v1)),(2,(.bptr 30000000 0)),(5,(wO (cI .i64) 20000005 v5)),(6,(.bptr 30000001 0)),(7,(wI v7))],[(30000000,.box (bx (Zae E0))),(20000005,wR (cI .i64) 1 v5),(30000001,.box (bx (Zp E1)))]⟩,
 fun r=>[],fun r=>(wL (cI .i64) r),fun | .L0 v1 E0 v5 E1 v7=>Zux v1 E0 v5 E1 v7⟩
def Z6v(a0:Zc)(a1:Int):Option (List Int):=Zacu.run (Zact a0 a1)
theorem Zuy(a0:Zc)(a1:Int){r:(List Int)}(h:Z6v a0 a1=some r):Fn PR 105 [(wA (Zae a0)),(wI a1)] (wL (cI .i64) r):=Zacu.fn h
def Za5c(a0:(List Za))(a1:Int):LT Empty Za:=
.lb 1004<|.cs (decide (a1 < 0)) (.k5 0<|.kn [0]<|.rt (⟨([]:List UInt8),(⟨0,0,(⟨0,0,0,0,0⟩:(A5 Int))⟩:Z1),0,(⟨0,0,([]:(List (List UInt8)))⟩:Z8),0,0,0,([]:(List Zt)),0⟩:Za))<|.k3 0<|.len Zk a0<|.k2 0<|.br (decide (a1≥(a0.length:Int))) (.rt (⟨([]:List UInt8),(⟨0,0,(⟨0,0,0,0,0⟩:(A5 Int))⟩:Z1),0,(⟨0,0,([]:(List (List UInt8)))⟩:Z8),0,0,0,([]:(List Zt)),0⟩:Za))<|.idx Zk a0 a1 fun x4=>.rt x4
def Za5d:LF Empty Za := .z 73 [.c 4 77 true 17] false (fun r=>[]) (fun r=>(wA (Zk r)))
def Za5e(a0:(List Za))(a1:Int):Option Za:=Za5d.run (Za5c a0 a1)
theorem Zbdn(a0:(List Za))(a1:Int){r:Za}(h:Za5e a0 a1=some r):Fn PR 73 [(wL Zk a0),(wI a1)] (wA (Zk r)):=Za5d.fn h
inductive Zaal where
 | L0 (v1:(List Za)) (v2:Int) (v3:Int) (E0:Zb) (E1:Ze) (v11:(List Int)) (v12:Int)
def Zpv(v1:(List Za))(v2:Int)(v3:Int)(E0:Zb)(E1:Ze)(v11:(List Int))(v12:Int):LT Zaal (List Int):=
.len Zs E0.Objects<|.br (decide (v12 < (E0.Objects.length:Int))) (.idx Zs E0.Objects v12 fun x3=>.call (Zbdn v1 v12) fun x5=>.call (Zyj x3 x5 v2 v3 E1) fun x7=>.br x7 (.ag Zs x3 0<|.dr [.lit]<|.apR (cI .i64) 8 v11 [x3.Id] fun x11=>.g0 (.L0 v1 v2 v3 E0 E1 x11 (IntKind.wrap .i64 (v12+1))))<|.g0 (.L0 v1 v2 v3 E0 E1 v11 (IntKind.wrap .i64 (v12+1))))<|.ret v11 [.relab 20000011 5000]
def Zasp(a0:Zb)(a1:(List Za))(a2:Int)(a3:Int)(a4:Ze):LT Zaal (List Int):=
.lb 1005<|.lb 1009<|.go (.L0 a1 a2 a3 a0 a4 ([]:(List Int)) 0) [.relab 1005 30000000,.relab 1009 30000001,.own 11 20000011 1]
def Zaam:LF Zaal (List Int):=⟨39,[.t 10],true,fun | .L0 .. => [1,1,0,1,4],
 fun | .L0 v1 v2 v3 E0 E1 v11 v12=>⟨42,[(1,(wL Zk v1)),(2,(wI v2)),(3,(wI v3)),(5,(.bptr 30000000 0)),(9,(.bptr 30000001 0)),(11,(wO (cI .i64) 20000011 v11)),(12,(wI v12))],[(30000000,.box (bx (Zu E0))),(30000001,.box (bx (Zy E1))),(20000011,wR (cI .i64) 1 v11)]⟩,
 fun r=>[(5000,wR (cI .i64) 1 r)],fun r=>(wO (cI .i64) 5000 r),fun | .L0 v1 v2 v3 E0 E1 v11 v12=>Zpv v1 v2 v3 E0 E1 v11 v12⟩
def Z2u(a0:Zb)(a1:(List Za))(a2:Int)(a3:Int)(a4:Ze):Option (List Int):=Zaam.run (Zasp a0 a1 a2 a3 a4)
theorem Za5f(a0:Zb)(a1:(List Za))(a2:Int)(a3:Int)(a4:Ze){r:(List Int)}(h:Z2u a0 a1 a2 a3 a4=some r):FnG PR 39 [] [(wA (Zu a0)),(wL Zk a1),(wI a2),(wI a3),(wA (Zy a4))] [(5000,wR (cI .i64) 1 r)] (wO (cI .i64) 5000 r):=Zaam.fn h
theorem Zalp(a0:Zb)(a1:(List Za))(a2:Int)(a3:Int)(a4:Ze){r:(List Int)}(h:Z2u a0 a1 a2 a3 a4=some r):Fn PR 39 [(wA (Zu a0)),(wL Zk a1),(wI a2),(wI a3),(wA (Zy a4))] (wL (cI .i64) r):=
 FnG.frozen (C:=LT.RL (cI .i64) r∧True) (Za5f a0 a1 a2 a3 a4 h) ⟨rfl,trivial⟩ (by kernel_rfl)
inductive Zlc where
 | L0 (v1:Int) (v2:Int) (E0:Zc) (v7:(List Int)) (E1:Zx) (v9:Int)
def Zuz(v1:Int)(v2:Int)(E0:Zc)(v7:(List Int))(E1:Zx)(v9:Int):LT Zlc (List Int):=
.len Zab E1.Mods<|.br (decide (v9 < (E1.Mods.length:Int))) (.idx Zab E1.Mods v9 fun x3=>.call (Zsp x3.Kind) fun x5=>.br (x5 != v2) (.g0 (.L0 v1 v2 E0 v7 E1 (IntKind.wrap .i64 (v9+1))))<|.ag Zab x3 0<|.br (x3.Kind==11) (.call (Z0b E0 v1) fun x11=>.ag Zab x3 0<|.call (Zalp E0.S E0.All x11 E1.Source x3.Filter) fun x13=>.len (cI .i64) x13<|.dr [.lit]<|.apR (cI .i64) 8 v7 [(x13.length:Int)] fun x17=>.g0 (.L0 v1 v2 E0 x17 E1 (IntKind.wrap .i64 (v9+1))))<|.dr [.lit]<|.apR (cI .i64) 8 v7 [0] fun x23=>.g0 (.L0 v1 v2 E0 x23 E1 (IntKind.wrap .i64 (v9+1))))<|.ret v7 [.relab 20000007 5000]
def Zacv(a0:Zc)(a1:Int)(a2:Int):LT Zlc (List Int):=
.lb 1003<|.lb 1011<|.idx Zp a0.L a1 fun x1=>.lb 1008<|.go (.L0 a1 a2 a0 ([]:(List Int)) x1 0) [.relab 1003 30000000,.relab 1008 30000001,.relab 1011 20000007]
def Zacw:LF Zlc (List Int):=⟨106,[.t 6],true,fun | .L0 .. => [1,1,1,0,1,4],
 fun | .L0 v1 v2 E0 v7 E1 v9=>⟨62,[(1,(wI v1)),(2,(wI v2)),(3,(.bptr 30000000 0)),(7,(wO (cI .i64) 20000007 v7)),(8,(.bptr 30000001 0)),(9,(wI v9))],[(30000000,.box (bx (Zae E0))),(20000007,wR (cI .i64) 1 v7),(30000001,.box (bx (Zp E1)))]⟩,
 fun r=>[(5000,wR (cI .i64) 1 r)],fun r=>(wO (cI .i64) 5000 r),fun | .L0 v1 v2 E0 v7 E1 v9=>Zuz v1 v2 E0 v7 E1 v9⟩
def Zwb(a0:Zc)(a1:Int)(a2:Int):Option (List Int):=Zacw.run (Zacv a0 a1 a2)
theorem Zasq(a0:Zc)(a1:Int)(a2:Int){r:(List Int)}(h:Zwb a0 a1 a2=some r):FnG PR 106 [] [(wA (Zae a0)),(wI a1),(wI a2)] [(5000,wR (cI .i64) 1 r)] (wO (cI .i64) 5000 r):=Zacw.fn h
theorem Zu0(a0:Zc)(a1:Int)(a2:Int){r:(List Int)}(h:Zwb a0 a1 a2=some r):Fn PR 106 [(wA (Zae a0)),(wI a1),(wI a2)] (wL (cI .i64) r):=
 FnG.frozen (C:=LT.RL (cI .i64) r∧True) (Zasq a0 a1 a2 h) ⟨rfl,trivial⟩ (by kernel_rfl)
inductive Zjh where
 | L0 (v1:(List UInt8)) (E0:Z8) (E1:Z8) (v5:(List (List UInt8))) (v6:Int)
 | L1 (v1:(List UInt8)) (E0:Z8) (E1:Z8) (v5:(List (List UInt8))) (v6:Int)
def Zld(v1:(List UInt8))(E0:Z8)(E1:Z8)(v5:(List (List UInt8)))(v6:Int):LT Zjh Z8:=
.lb 1045<|.dr [.ahead 48,.frz 20000005,.stop]<|.rl cS v5<|.rl cS v5<|.sl cS v5 0 v6 fun x1=>.apR cS 16 ([]:(List (List UInt8))) x1 fun x4=>.dr [.lit]<|.apR cS 16 x4 [v1] fun x8=>.slN cS v5 v6 fun x11=>.apR cS 16 x8 x11 fun x13=>.ret (⟨E0.Super,E0.Types,x13⟩:Z8) [.relab 1045 5002]
def Zyk(v1:(List UInt8))(E0:Z8)(E1:Z8)(v5:(List (List UInt8)))(v6:Int):LT Zjh Z8:=
.lenO cS v5<|.cs (decide (v6 < (v5.length:Int))) (.k3 0<|.idxR cS v5 v6 fun x3=>.kg 0<|.ldR cS v5 x3 2<|.k3 0<|.br (Op.bytesLess x3 v1) (.g0 (.L0 v1 E0 E1 v5 (IntKind.wrap .i64 (v6+1))))<|.j0 (.L1 v1 E0 E1 v5 v6) (Zld v1 E0 E1 v5 v6))<|.k5 0<|.k2 0<|.kn [0]<|.j0 (.L1 v1 E0 E1 v5 v6) (Zld v1 E0 E1 v5 v6)
def Zagp(a0:Z8)(a1:(List UInt8)):LT Zjh Z8:=
.lb 1002<|.lb 1004<|.lb 1008<|.apR cS 16 ([]:(List (List UInt8))) a0.Subs fun x1=>.call (Zru a1) fun x4=>.cs (!x4) (.k4 0<|.b4 true<|.kn [0]<|.ret (⟨a0.Super,a0.Types,x1⟩:Z8) [.relab 1008 5002])<|.k3 0<|.call (Zacr a0 a1) fun x7=>.kg 0<|.cs x7 (.k4 1<|.kn [0]<|.ret (⟨a0.Super,a0.Types,x1⟩:Z8) [.relab 1008 5002])<|.k2 1<|.lenO cS x1<|.k2 1<|.br (decide ((x1.length:Int)≥4)) (.ret (⟨a0.Super,a0.Types,x1⟩:Z8) [.relab 1008 5002])<|.go (.L0 a1 a0 (⟨0,0,([]:(List (List UInt8)))⟩:Z8) x1 0) [.relab 1002 30000000,.relab 1004 30000001,.relab 1008 20000005,.ownb 30000001 2 40000102 1]
def Zagq:LF Zjh Z8:=⟨199,[.c 4 74 true 3],true,fun | .L0 .. => [1,1,1,1,0,4] | .L1 .. => [1,1,1,1,1],
 fun | .L0 v1 E0 E1 v5 v6=>⟨64,[(1,(wS v1)),(2,(.bptr 30000000 0)),(4,(.bptr 30000001 0)),(5,(wO cS 20000005 v5)),(6,(wI v6))],[(30000000,.box (bx (Zei E0))),(30000001,.box [(wI E1.Super),(wI E1.Types),(wO cS 40000102 E1.Subs)]),(40000102,wR cS 1 E1.Subs),(20000005,wR cS 1 v5)]⟩ | .L1 v1 E0 E1 v5 v6=>⟨64,[(1,(wS v1)),(2,(.bptr 30000000 0)),(4,(.bptr 30000001 0)),(5,(wO cS 20000005 v5)),(6,(wI v6))],[(30000000,.box (bx (Zei E0))),(30000001,.box [(wI E1.Super),(wI E1.Types),(wO cS 40000102 E1.Subs)]),(40000102,wR cS 1 E1.Subs),(20000005,wR cS 1 v5)]⟩,
 fun r=>[(5002,wR cS 1 r.Subs)],fun r=>(.agg [(wI r.Super),(wI r.Types),(wO cS 5002 r.Subs)]),fun | .L0 v1 E0 E1 v5 v6=>Zyk v1 E0 E1 v5 v6 | .L1 v1 E0 E1 v5 v6=>Zld v1 E0 E1 v5 v6⟩
def Zaan(a0:Z8)(a1:(List UInt8)):Option Z8:=Zagq.run (Zagp a0 a1)
theorem Zav2(a0:Z8)(a1:(List UInt8)){r:Z8}(h:Zaan a0 a1=some r):FnG PR 199 [] [(wA (Zei a0)),(wS a1)] [(5002,wR cS 1 r.Subs)] (.agg [(wI r.Super),(wI r.Types),(wO cS 5002 r.Subs)]):=Zagq.fn h
def Zalq(a0:Za)(a1:Zz)(a2:Int)(a3:Int):LT Empty Za:=
.lb 1004<|.lb 1005<|.lb 1008<|.call (Zaew a1) fun x1=>.br (!x1) (.rt a0)<|.br (a1.Kind==1) (.rt (⟨a0.Name,a0.Cost,a0.Colors,a0.Line,a0.Power,a0.Tough,a0.Keys,a0.Abilities,a2⟩:Za))<|.br (a1.Kind==2) (.rt (⟨a0.Name,a0.Cost,a0.Colors,(⟨a0.Line.Super,a1.N,a0.Line.Subs⟩:Z8),a0.Power,a0.Tough,a0.Keys,a0.Abilities,a0.Control⟩:Za))<|.br (a1.Kind==3) (.rt (⟨a0.Name,a0.Cost,a0.Colors,(⟨a0.Line.Super,Zbm .or .i64 a0.Line.Types a1.N,a0.Line.Subs⟩:Z8),a0.Power,a0.Tough,a0.Keys,a0.Abilities,a0.Control⟩:Za))<|.br (a1.Kind==4) (.lb 1040<|.rl cS [a1.Sub]<|.rt (⟨a0.Name,a0.Cost,a0.Colors,(⟨a0.Line.Super,a0.Line.Types,[a1.Sub]⟩:Z8),a0.Power,a0.Tough,a0.Keys,a0.Abilities,a0.Control⟩:Za))<|.br (a1.Kind==5) (.callF (Zav2 a0.Line a1.Sub) 500000 fun x10=>.rl cS x10.Subs<|.rt (⟨a0.Name,a0.Cost,a0.Colors,x10,a0.Power,a0.Tough,a0.Keys,a0.Abilities,a0.Control⟩:Za))<|.br (a1.Kind==6) (.rt (⟨a0.Name,a0.Cost,a1.N,a0.Line,a0.Power,a0.Tough,a0.Keys,a0.Abilities,a0.Control⟩:Za))<|.br (a1.Kind==7) (.rt (⟨a0.Name,a0.Cost,Zbm .or .i64 a0.Colors a1.N,a0.Line,a0.Power,a0.Tough,a0.Keys,a0.Abilities,a0.Control⟩:Za))<|.br (a1.Kind==8) (.rt (⟨a0.Name,a0.Cost,a0.Colors,a0.Line,a0.Power,a0.Tough,Zbm .or .i64 a0.Keys a1.N,a0.Abilities,a0.Control⟩:Za))<|.br (a1.Kind==9) (.rt (⟨a0.Name,a0.Cost,a0.Colors,a0.Line,a0.Power,a0.Tough,Zbm .andNot .i64 a0.Keys a1.N,a0.Abilities,a0.Control⟩:Za))<|.br (a1.Kind==10) (.rt (⟨a0.Name,a0.Cost,a0.Colors,a0.Line,a0.Power,a0.Tough,0,([]:(List Zt)),a0.Control⟩:Za))<|.br (a1.Kind==11) (.call (Zdq a3) fun x18=>.call (Zdq a3) fun x20=>.rt (⟨a0.Name,a0.Cost,a0.Colors,a0.Line,x18,x20,a0.Keys,a0.Abilities,a0.Control⟩:Za))<|.br (a1.Kind==12) (.rt (⟨a0.Name,a0.Cost,a0.Colors,a0.Line,a1.N,a1.M,a0.Keys,a0.Abilities,a0.Control⟩:Za))<|.br (a1.Kind==13) (.call (Zkj a0.Power a1.N) fun x24=>.call (Zkj a0.Tough a1.M) fun x26=>.rt (⟨a0.Name,a0.Cost,a0.Colors,a0.Line,x24,x26,a0.Keys,a0.Abilities,a0.Control⟩:Za))<|.br (a1.Kind==14) (.rt (⟨a0.Name,a0.Cost,a0.Colors,a0.Line,a0.Tough,a0.Power,a0.Keys,a0.Abilities,a0.Control⟩:Za))<|.rt a0
def Zalr:LF Empty Za := .z 159 [.c 8 77 true 17] false (fun r=>[]) (fun r=>(wA (Zk r)))
def Zagr(a0:Za)(a1:Zz)(a2:Int)(a3:Int):Option Za:=Zalr.run (Zalq a0 a1 a2 a3)
theorem Za5g(a0:Za)(a1:Zz)(a2:Int)(a3:Int){r:Za}(h:Zagr a0 a1 a2 a3=some r):Fn PR 159 [(wA (Zk a0)),(wA (Zab a1)),(wI a2),(wI a3)] (wA (Zk r)):=Zalr.fn h
inductive Zji where
 | L0 (v2:Int) (v3:Int) (v4:(List Int)) (E0:Za) (E1:Zx) (E2:Za) (v11:Int) (v12:Int)
def Zsu(v2:Int)(v3:Int)(v4:(List Int))(E0:Za)(E1:Zx)(E2:Za)(v11:Int)(v12:Int):LT Zji Za:=
.len Zab E1.Mods<|.br (decide (v12 < (E1.Mods.length:Int))) (.idx Zab E1.Mods v12 fun x3=>.call (Zsp x3.Kind) fun x5=>.br (x5==v2) (.ag Zab x3 0<|.idx (cI .i64) v4 v11 fun x8=>.call (Za5g E0 x3 v3 x8) fun x10=>.g0 (.L0 v2 v3 v4 x10 E1 E2 (IntKind.wrap .i64 (v11+1)) (IntKind.wrap .i64 (v12+1))))<|.g0 (.L0 v2 v3 v4 E0 E1 E2 v11 (IntKind.wrap .i64 (v12+1))))<|.rt E0
def Z8w(a0:Za)(a1:Zx)(a2:Int)(a3:Int)(a4:(List Int)):LT Zji Za:=
.lb 1005<|.lb 1006<|.lb 1010<|.go (.L0 a2 a3 a4 a0 a1 (⟨([]:List UInt8),(⟨0,0,(⟨0,0,0,0,0⟩:(A5 Int))⟩:Z1),0,(⟨0,0,([]:(List (List UInt8)))⟩:Z8),0,0,0,([]:(List Zt)),0⟩:Za) 0 0) [.relab 1005 30000000,.relab 1006 30000001,.relab 1010 30000002,.ownb 30000002 11 40000211 1,.ownb 30000002 15 40000215 72]
def Z8x:LF Zji Za:=⟨109,[.c 10 77 true 17],false,fun | .L0 .. => [1,1,0,1,4],
 fun | .L0 v2 v3 v4 E0 E1 E2 v11 v12=>⟨44,[(2,(wI v2)),(3,(wI v3)),(4,(wL (cI .i64) v4)),(5,(.bptr 30000000 0)),(6,(.bptr 30000001 0)),(10,(.bptr 30000002 0)),(11,(wI v11)),(12,(wI v12))],[(30000000,.box (bx (Zk E0))),(30000001,.box (bx (Zp E1))),(30000002,.box [(wS E2.Name),(wI E2.Cost.Generic),(wI E2.Cost.X),(wI E2.Cost.Color.a0),(wI E2.Cost.Color.a1),(wI E2.Cost.Color.a2),(wI E2.Cost.Color.a3),(wI E2.Cost.Color.a4),(wI E2.Colors),(wI E2.Line.Super),(wI E2.Line.Types),(wO cS 40000211 E2.Line.Subs),(wI E2.Power),(wI E2.Tough),(wI E2.Keys),(wO Z3 40000215 E2.Abilities),(wI E2.Control)]),(40000211,wR cS 1 E2.Line.Subs),(40000215,wR Z3 72 E2.Abilities)]⟩,
 fun r=>[],fun r=>(wA (Zk r)),fun | .L0 v2 v3 v4 E0 E1 E2 v11 v12=>Zsu v2 v3 v4 E0 E1 E2 v11 v12⟩
def Z2v(a0:Za)(a1:Zx)(a2:Int)(a3:Int)(a4:(List Int)):Option Za:=Z8x.run (Z8w a0 a1 a2 a3 a4)
theorem Zasr(a0:Za)(a1:Zx)(a2:Int)(a3:Int)(a4:(List Int)){r:Za}(h:Z2v a0 a1 a2 a3 a4=some r):Fn PR 109 [(wA (Zk a0)),(wA (Zp a1)),(wI a2),(wI a3),(wL (cI .i64) a4)] (wA (Zk r)):=Z8x.fn h
inductive Zpw where
 | L0 (v1:Int) (E0:Zx) (v5:Int)
def Z2w(v1:Int)(E0:Zx)(v5:Int):LT Zpw Bool:=
.len Zab E0.Mods<|.br (decide (v5 < (E0.Mods.length:Int))) (.idx Zab E0.Mods v5 fun x3=>.cs (x3.Kind==10) (.k4 1<|.ag Zab x3 0<|.k3 1<|.call (Zsp x3.Kind) fun x6=>.k3 1<|.br (x6==v1) (.rt true)<|.g0 (.L0 v1 E0 (IntKind.wrap .i64 (v5+1))))<|.k8 1<|.k2 1<|.kn [0]<|.g0 (.L0 v1 E0 (IntKind.wrap .i64 (v5+1))))<|.rt false
def Zals(a0:Zx)(a1:Int):LT Zpw Bool:=
.lb 1002<|.go (.L0 a1 a0 0) [.relab 1002 30000000]
def Zalt:LF Zpw Bool:=⟨110,[.t 4],false,fun | .L0 .. => [1,0,1,4],
 fun | .L0 v1 E0 v5=>⟨31,[(1,(wI v1)),(2,(.bptr 30000000 0)),(5,(wI v5))],[(30000000,.box (bx (Zp E0)))]⟩,
 fun r=>[],fun r=>(wB r),fun | .L0 v1 E0 v5=>Z2w v1 E0 v5⟩
def Zags(a0:Zx)(a1:Int):Option Bool:=Zalt.run (Zals a0 a1)
theorem Za5h(a0:Zx)(a1:Int){r:Bool}(h:Zags a0 a1=some r):Fn PR 110 [(wA (Zp a0)),(wI a1)] (wB r):=Zalt.fn h
inductive Zle where
 | L0 (v1:Int) (v2:Int) (E0:Zc) (E1:Zc) (v7:(List Int)) (v8:(List Int)) (v9:Int) (E2:Zc) (v11:Int)
def Zu1(v1:Int)(v2:Int)(E0:Zc)(E1:Zc)(v7:(List Int))(v8:(List Int))(v9:Int)(E2:Zc)(v11:Int):LT Zle Zc:=
.len Zs E0.S.Objects<|.br (decide (v11 < (E0.S.Objects.length:Int))) (.idx Zs E0.S.Objects v11 fun x3=>.call (Zasm v7 x3.Id) fun x5=>.br (!x5) (.g0 (.L0 v1 v2 E0 E1 v7 v8 v9 E2 (IntKind.wrap .i64 (v11+1))))<|.idx Zk E0.All v11 fun x10=>.idx Zp E0.L v1 fun x12=>.call (Zasr x10 x12 v2 v9 v8) fun x14=>.idxR Zk E2.All v11 fun x16=>.setR Zk E2.All v11 x16 x14 11 0 [(.str x14.Name),(.int .i64 x14.Cost.Generic),(.int .i64 x14.Cost.X),(.int .i64 x14.Cost.Color.a0),(.int .i64 x14.Cost.Color.a1),(.int .i64 x14.Cost.Color.a2),(.int .i64 x14.Cost.Color.a3),(.int .i64 x14.Cost.Color.a4),(.int .i64 x14.Colors),(.int .i64 x14.Line.Super),(.int .i64 x14.Line.Types),(.sl (List.map cS x14.Line.Subs)),(.int .i64 x14.Power),(.int .i64 x14.Tough),(.int .i64 x14.Keys),(.sl (List.map Z3 x14.Abilities)),(.int .i64 x14.Control)] rfl fun x18=>.dr [.ahead 101,.relen 40000219,.stop]<|.us [12]<|.us [12]<|.us [12]<|.ag Zp x12 6<|.call (Za5h x12 v2) fun x20=>.br x20 (.idxR cB E2.Blank v11 fun x23=>.setR cB E2.Blank v11 x23 true 15 0 [(.bool true)] rfl fun x25=>.dr [.ahead 71,.relen 40000223,.stop]<|.us [16]<|.us [16]<|.us [16]<|.g0 (.L0 v1 v2 E0 E1 v7 v8 v9 (⟨E2.S,x18,E2.L,E2.Begun,E2.Sets,x25⟩:Zc) (IntKind.wrap .i64 (v11+1))))<|.g0 (.L0 v1 v2 E0 E1 v7 v8 v9 (⟨E2.S,x18,E2.L,E2.Begun,E2.Sets,E2.Blank⟩:Zc) (IntKind.wrap .i64 (v11+1))))<|.rl Zk E2.All<|.rl cB E2.Begun<|.rl (cL (cI .i64)) E2.Sets<|.rl cB E2.Blank<|.rt E2
def Zacx(a0:Zc)(a1:Int)(a2:Int):LT Zle Zc:=
.lb 1003<|.lb 1006<|.call (Zp9 a0 a1) fun x1=>.br (!x1) (.rt a0)<|.call (Zuy a0 a1) fun x4=>.call (Zu0 a0 a1 a2) fun x6=>.call (Z0b a0 a1) fun x8=>.lb 1010<|.apN Zk 1036 176 a0.All fun x10=>.apN cB 1042 1 a0.Begun fun x13=>.apN (cL (cI .i64)) 1048 24 a0.Sets fun x16=>.apN cB 1054 1 a0.Blank fun x19=>.idxR cB x13 a1 fun x22=>.setR cB x13 a1 x22 true 2 0 [(.bool true)] rfl fun x24=>.dr [.ahead 60,.relen 1042,.stop]<|.us [3]<|.us [3]<|.us [3]<|.us [3]<|.idxR (cL (cI .i64)) x16 a1 fun x26=>.setR (cL (cI .i64)) x16 a1 x26 x4 6 0 [(.sl (List.map (cI .i64) x4))] rfl fun x28=>.dr [.ahead 11,.relen 1048,.stop]<|.us [7]<|.us [7]<|.us [7]<|.us [7]<|.go (.L0 a1 a2 a0 (⟨(⟨([]:(List Za2)),([]:(List Zl)),([]:(List Int)),([]:(List Int)),([]:(List Zdg)),([]:(List Zc0)),([]:(List Ze4)),0,0,0,false,0,0,0,0,0,([]:(List Int)),0,0⟩:Zb),([]:(List Za)),([]:(List Zx)),([]:(List Bool)),([]:(List (List Int))),([]:(List Bool))⟩:Zc) x4 x6 x8 (⟨a0.S,x10,a0.L,x24,x28,x19⟩:Zc) 0) [.relab 1003 30000000,.relab 1006 30000001,.relab 1010 30000002,.ownb 30000001 0 40000100 14,.ownb 30000001 1 40000101 19,.ownb 30000001 2 40000102 1,.ownb 30000001 3 40000103 1,.ownb 30000001 4 40000104 94,.ownb 30000001 5 40000105 89,.ownb 30000001 6 40000106 6,.ownb 30000001 16 40000116 1,.ownb 30000001 19 40000119 17,.ownb 30000001 20 40000120 23,.ownb 30000001 21 40000121 1,.ownb 30000001 22 40000122 1,.ownb 30000001 23 40000123 1,.relab 1036 40000219,.relab 1042 40000221,.relab 1048 40000222,.relab 1054 40000223]
def Zacy:LF Zle Zc:=⟨65,[.c 6 96 true 24],false,fun | .L0 .. => [1,1,1,1,1,1,1,1,1,1,1,1,0,1,4],
 fun | .L0 v1 v2 E0 E1 v7 v8 v9 E2 v11=>⟨113,[(1,(wI v1)),(2,(wI v2)),(3,(.bptr 30000000 0)),(6,(.bptr 30000001 0)),(7,(wL (cI .i64) v7)),(8,(wL (cI .i64) v8)),(9,(wI v9)),(10,(.bptr 30000002 0)),(11,(wI v11))],[(30000000,.box (bx (Zae E0))),(30000001,.box [(wO Zag 40000100 E1.S.Players),(wO Zs 40000101 E1.S.Objects),(wO (cI .i64) 40000102 E1.S.Battlefield),(wO (cI .i64) 40000103 E1.S.Exile),(wO Zbd 40000104 E1.S.Stack),(wO Za7 40000105 E1.S.Waiting),(wO Zbj 40000106 E1.S.Conts),(wI E1.S.Turn),(wI E1.S.Active),(wI E1.S.Step),(wB E1.S.Begun),(wI E1.S.Priority),(wI E1.S.Passes),(wI E1.S.NextId),(wI E1.S.NextStamp),(.t (.int .u64 E1.S.Seed)),(wO (cI .i64) 40000116 E1.S.Extra),(wI E1.S.Over),(wI E1.S.Winner),(wO Zk 40000119 E1.All),(wO Zp 40000120 E1.L),(wO cB 40000121 E1.Begun),(wO (cL (cI .i64)) 40000122 E1.Sets),(wO cB 40000123 E1.Blank)]),(40000100,wR Zag 14 E1.S.Players),(40000101,wR Zs 19 E1.S.Objects),(40000102,wR (cI .i64) 1 E1.S.Battlefield),(40000103,wR (cI .i64) 1 E1.S.Exile),(40000104,wR Zbd 94 E1.S.Stack),(40000105,wR Za7 89 E1.S.Waiting),(40000106,wR Zbj 6 E1.S.Conts),(40000116,wR (cI .i64) 1 E1.S.Extra),(40000119,wR Zk 17 E1.All),(40000120,wR Zp 23 E1.L),(40000121,wR cB 1 E1.Begun),(40000122,wR (cL (cI .i64)) 1 E1.Sets),(40000123,wR cB 1 E1.Blank),(30000002,.box [(wL Zag E2.S.Players),(wL Zs E2.S.Objects),(wL (cI .i64) E2.S.Battlefield),(wL (cI .i64) E2.S.Exile),(wL Zbd E2.S.Stack),(wL Za7 E2.S.Waiting),(wL Zbj E2.S.Conts),(wI E2.S.Turn),(wI E2.S.Active),(wI E2.S.Step),(wB E2.S.Begun),(wI E2.S.Priority),(wI E2.S.Passes),(wI E2.S.NextId),(wI E2.S.NextStamp),(.t (.int .u64 E2.S.Seed)),(wL (cI .i64) E2.S.Extra),(wI E2.S.Over),(wI E2.S.Winner),(wO Zk 40000219 E2.All),(wL Zp E2.L),(wO cB 40000221 E2.Begun),(wO (cL (cI .i64)) 40000222 E2.Sets),(wO cB 40000223 E2.Blank)]),(40000219,wR Zk 17 E2.All),(40000221,wR cB 1 E2.Begun),(40000222,wR (cL (cI .i64)) 1 E2.Sets),(40000223,wR cB 1 E2.Blank)]⟩,
 fun r=>[],fun r=>(wA (Zae r)),fun | .L0 v1 v2 E0 E1 v7 v8 v9 E2 v11=>Zu1 v1 v2 E0 E1 v7 v8 v9 E2 v11⟩
def Z6w(a0:Zc)(a1:Int)(a2:Int):Option Zc:=Zacy.run (Zacx a0 a1 a2)
theorem Z8y(a0:Zc)(a1:Int)(a2:Int){r:Zc}(h:Z6w a0 a1 a2=some r):Fn PR 65 [(wA (Zae a0)),(wI a1),(wI a2)] (wA (Zae r)):=Zacy.fn h
inductive Zsv where
 | L0 (v0:(List Int)) (v1:(List Int)) (v5:Int)
def Z6x(v0:(List Int))(v1:(List Int))(v5:Int):LT Zsv Bool:=
.len (cI .i64) v0<|.br (decide (v5 < (v0.length:Int))) (.idx (cI .i64) v0 v5 fun x3=>.idx (cI .i64) v1 v5 fun x5=>.br (x3 != x5) (.rt false)<|.g0 (.L0 v0 v1 (IntKind.wrap .i64 (v5+1))))<|.rt true
def Zass(a0:(List Int))(a1:(List Int)):LT Zsv Bool:=
.len (cI .i64) a0<|.len (cI .i64) a1<|.br ((a0.length:Int) != (a1.length:Int)) (.rt false)<|.g0 (.L0 a0 a1 0)
def Zast:LF Zsv Bool:=⟨154,[.t 4],false,fun | .L0 .. => [1,1,0,1,4],
 fun | .L0 v0 v1 v5=>⟨26,[(0,(wL (cI .i64) v0)),(1,(wL (cI .i64) v1)),(5,(wI v5))],[]⟩,
 fun r=>[],fun r=>(wB r),fun | .L0 v0 v1 v5=>Z6x v0 v1 v5⟩
def Zanz(a0:(List Int))(a1:(List Int)):Option Bool:=Zast.run (Zass a0 a1)
theorem Zalu(a0:(List Int))(a1:(List Int)){r:Bool}(h:Zanz a0 a1=some r):Fn PR 154 [(wL (cI .i64) a0),(wL (cI .i64) a1)] (wB r):=Zast.fn h
def Zalv(a0:Zc)(a1:Int)(a2:Int)(a3:Int):LT Empty Bool:=
.lb 1004<|.br (a1==a2) (.rt false)<|.call (Z8y a0 a2 a3) fun x2=>.lb 1009<|.call (Zp9 a0 a1) fun x4=>.call (Zp9 x2 a1) fun x6=>.cs (!(x4==x6)) (.k8 1<|.kg 1<|.b8 true<|.b3 true<|.rt true)<|.k3 1<|.call (Zuy a0 a1) fun x9=>.k3 1<|.call (Zuy x2 a1) fun x11=>.kg 1<|.call (Zalu x9 x11) fun x13=>.k2 1<|.cs (!x13) (.k8 2<|.k3 2<|.rt true)<|.k4 2<|.call (Zu0 a0 a1 a3) fun x16=>.k4 2<|.call (Zu0 x2 a1 a3) fun x18=>.kg 2<|.call (Zalu x16 x18) fun x20=>.k2 2<|.rt (!x20)
def Zalw:LF Empty Bool := .z 102 [.t 8] false (fun r=>[]) (fun r=>(wB r))
def Zagt(a0:Zc)(a1:Int)(a2:Int)(a3:Int):Option Bool:=Zalw.run (Zalv a0 a1 a2 a3)
theorem Za5i(a0:Zc)(a1:Int)(a2:Int)(a3:Int){r:Bool}(h:Zagt a0 a1 a2 a3=some r):Fn PR 102 [(wA (Zae a0)),(wI a1),(wI a2),(wI a3)] (wB r):=Zalw.fn h
inductive Zxs where
 | L0 (v0:(List Int)) (v1:Int) (v5:Int)
def Zaao(v0:(List Int))(v1:Int)(v5:Int):LT Zxs Bool:=
.len (cI .i64) v0<|.br (decide (v5 < (v0.length:Int))) (.idx (cI .i64) v0 v5 fun x3=>.br (x3==v1) (.rt true)<|.g0 (.L0 v0 v1 (IntKind.wrap .i64 (v5+1))))<|.rt false
def Zazb(a0:(List Int))(a1:Int):LT Zxs Bool:=
.g0 (.L0 a0 a1 0)
def Zazc:LF Zxs Bool:=⟨197,[.t 4],false,fun | .L0 .. => [1,0,1,4],
 fun | .L0 v0 v1 v5=>⟨18,[(0,(wL (cI .i64) v0)),(1,(wI v1)),(5,(wI v5))],[]⟩,
 fun r=>[],fun r=>(wB r),fun | .L0 v0 v1 v5=>Zaao v0 v1 v5⟩
def Zav3(a0:(List Int))(a1:Int):Option Bool:=Zazc.run (Zazb a0 a1)
theorem Zaap(a0:(List Int))(a1:Int){r:Bool}(h:Zav3 a0 a1=some r):Fn PR 197 [(wL (cI .i64) a0),(wI a1)] (wB r):=Zazc.fn h
inductive Zjj where
 | L0 (v0:(List Int)) (v3:(List Int)) (v4:Int)
def Zsw(v0:(List Int))(v3:(List Int))(v4:Int):LT Zjj (List Int):=
.len (cI .i64) v0<|.br (decide (v4 < (v0.length:Int))) (.idx (cI .i64) v0 v4 fun x3=>.cs (decide (x3≥0)) (.k4 1<|.ag (cI .i64) x3 0<|.k2 1<|.rl (cI .i64) v3<|.call (Zaap v3 x3) fun x6=>.k2 1<|.br (!x6) (.ag (cI .i64) x3 0<|.dr [.lit]<|.apR (cI .i64) 8 v3 [x3] fun x10=>.g0 (.L0 v0 x10 (IntKind.wrap .i64 (v4+1))))<|.g0 (.L0 v0 v3 (IntKind.wrap .i64 (v4+1))))<|.k8 1<|.kn [0]<|.g0 (.L0 v0 v3 (IntKind.wrap .i64 (v4+1))))<|.ret v3 [.relab 20000003 5000]
def Z8z(a0:(List Int)):LT Zjj (List Int):=
.go (.L0 a0 ([]:(List Int)) 0) [.own 3 20000003 1]
def Z80:LF Zjj (List Int):=⟨195,[.t 2],true,fun | .L0 .. => [1,1,0,1,4],
 fun | .L0 v0 v3 v4=>⟨33,[(0,(wL (cI .i64) v0)),(3,(wO (cI .i64) 20000003 v3)),(4,(wI v4))],[(20000003,wR (cI .i64) 1 v3)]⟩,
 fun r=>[(5000,wR (cI .i64) 1 r)],fun r=>(wO (cI .i64) 5000 r),fun | .L0 v0 v3 v4=>Zsw v0 v3 v4⟩
def Zsx(a0:(List Int)):Option (List Int):=Z80.run (Z8z a0)
theorem Zan0(a0:(List Int)){r:(List Int)}(h:Zsx a0=some r):FnG PR 195 [] [(wL (cI .i64) a0)] [(5000,wR (cI .i64) 1 r)] (wO (cI .i64) 5000 r):=Z80.fn h
theorem Zasu(a0:(List Int)){r:(List Int)}(h:Zsx a0=some r):Fn PR 195 [(wL (cI .i64) a0)] (wL (cI .i64) r):=
 FnG.frozen (C:=LT.RL (cI .i64) r∧True) (Zan0 a0 h) ⟨rfl,trivial⟩ (by kernel_rfl)
def Zasv(a0:(List (List Bool)))(a1:Int)(a2:Int):LT Empty Bool:=
.len (cL cB) a0<|.cs (decide (a1 < (a0.length:Int))) (.k4 0<|.idx (cL cB) a0 a1 fun x3=>.k2 0<|.len cB x3<|.k2 0<|.cs (decide (a2 < (x3.length:Int))) (.k3 1<|.ag (cL cB) x3 0<|.k3 1<|.idx cB x3 a2 fun x7=>.k2 1<|.rt x7)<|.k8 1<|.rt false)<|.k8 0<|.b8 false<|.rt false
def Zasw:LF Empty Bool := .z 196 [.t 6] false (fun r=>[]) (fun r=>(wB r))
def Zan1(a0:(List (List Bool)))(a1:Int)(a2:Int):Option Bool:=Zasw.run (Zasv a0 a1 a2)
theorem Z6y(a0:(List (List Bool)))(a1:Int)(a2:Int){r:Bool}(h:Zan1 a0 a1 a2=some r):Fn PR 196 [(wL (cL cB) a0),(wI a1),(wI a2)] (wB r):=Zasw.fn h
inductive Zgf where
 | L0 (v0:(List Int)) (v1:(List (List Bool))) (v2:Int) (v7:(List Int)) (v8:Int)
 | L1 (v0:(List Int)) (v1:(List (List Bool))) (v7:(List Int)) (v9:Int)
 | L2 (v0:(List Int)) (v1:(List (List Bool))) (v7:(List Int)) (v9:Int) (v10:Int)
def Zu2(v0:(List Int))(v1:(List (List Bool)))(v2:Int)(v7:(List Int))(v8:Int):LT Zgf (List Int):=
.len (cI .i64) v0<|.br (decide (v8 < (v0.length:Int))) (.idx (cI .i64) v0 v8 fun x3=>.call (Z6y v1 v2 x3) fun x5=>.br x5 (.ag (cI .i64) x3 0<|.dr [.lit]<|.apR (cI .i64) 8 v7 [x3] fun x9=>.g0 (.L0 v0 v1 v2 x9 (IntKind.wrap .i64 (v8+1))))<|.g0 (.L0 v0 v1 v2 v7 (IntKind.wrap .i64 (v8+1))))<|.g0 (.L1 v0 v1 v7 0)
def Zu3(v0:(List Int))(v1:(List (List Bool)))(v7:(List Int))(v9:Int):LT Zgf (List Int):=
.lenO (cI .i64) v7<|.br (decide (v9 < (v7.length:Int))) (.g0 (.L2 v0 v1 v7 v9 0))<|.ret v7 [.relab 20000007 5000]
def Zu4(v0:(List Int))(v1:(List (List Bool)))(v7:(List Int))(v9:Int)(v10:Int):LT Zgf (List Int):=
.len (cI .i64) v0<|.br (decide (v10 < (v0.length:Int))) (.idxR (cI .i64) v7 v9 fun x3=>.ldR (cI .i64) v7 x3 2<|.idx (cI .i64) v0 v10 fun x5=>.call (Z6y v1 x3 x5) fun x7=>.cs x7 (.k4 1<|.ag (cI .i64) x5 3<|.k2 1<|.rl (cI .i64) v7<|.call (Zaap v7 x5) fun x10=>.k2 1<|.br (!x10) (.ag (cI .i64) x5 3<|.dr [.lit]<|.apR (cI .i64) 8 v7 [x5] fun x14=>.g0 (.L2 v0 v1 x14 v9 (IntKind.wrap .i64 (v10+1))))<|.g0 (.L2 v0 v1 v7 v9 (IntKind.wrap .i64 (v10+1))))<|.k8 1<|.kn [0]<|.g0 (.L2 v0 v1 v7 v9 (IntKind.wrap .i64 (v10+1))))<|.g0 (.L1 v0 v1 v7 (IntKind.wrap .i64 (v9+1)))
def Zacz(a0:(List Int))(a1:(List (List Bool)))(a2:Int):LT Zgf (List Int):=
.go (.L0 a0 a1 a2 ([]:(List Int)) 0) [.own 7 20000007 1]
def Zac0:LF Zgf (List Int):=⟨198,[.t 6],true,fun | .L0 .. => [1,1,0,1,4] | .L1 .. => [1,1,1,0,1,4] | .L2 .. => [1,1,1,0,1,4,5,1,0,4,1,4],
 fun | .L0 v0 v1 v2 v7 v8=>⟨70,[(0,(wL (cI .i64) v0)),(1,(wL (cL cB) v1)),(2,(wI v2)),(7,(wO (cI .i64) 20000007 v7)),(8,(wI v8))],[(20000007,wR (cI .i64) 1 v7)]⟩ | .L1 v0 v1 v7 v9=>⟨70,[(0,(wL (cI .i64) v0)),(1,(wL (cL cB) v1)),(7,(wO (cI .i64) 20000007 v7)),(9,(wI v9))],[(20000007,wR (cI .i64) 1 v7)]⟩ | .L2 v0 v1 v7 v9 v10=>⟨70,[(0,(wL (cI .i64) v0)),(1,(wL (cL cB) v1)),(7,(wO (cI .i64) 20000007 v7)),(9,(wI v9)),(10,(wI v10))],[(20000007,wR (cI .i64) 1 v7)]⟩,
 fun r=>[(5000,wR (cI .i64) 1 r)],fun r=>(wO (cI .i64) 5000 r),fun | .L0 v0 v1 v2 v7 v8=>Zu2 v0 v1 v2 v7 v8 | .L1 v0 v1 v7 v9=>Zu3 v0 v1 v7 v9 | .L2 v0 v1 v7 v9 v10=>Zu4 v0 v1 v7 v9 v10⟩
def Zwc(a0:(List Int))(a1:(List (List Bool)))(a2:Int):Option (List Int):=Zac0.run (Zacz a0 a1 a2)
theorem Zasx(a0:(List Int))(a1:(List (List Bool)))(a2:Int){r:(List Int)}(h:Zwc a0 a1 a2=some r):FnG PR 198 [] [(wL (cI .i64) a0),(wL (cL cB) a1),(wI a2)] [(5000,wR (cI .i64) 1 r)] (wO (cI .i64) 5000 r):=Zac0.fn h
theorem Zav4(a0:(List Int))(a1:(List (List Bool)))(a2:Int){r:(List Int)}(h:Zwc a0 a1 a2=some r):Fn PR 198 [(wL (cI .i64) a0),(wL (cL cB) a1),(wI a2)] (wL (cI .i64) r):=
 FnG.frozen (C:=LT.RL (cI .i64) r∧True) (Zasx a0 a1 a2 h) ⟨rfl,trivial⟩ (by kernel_rfl)
end
end Go.PW
