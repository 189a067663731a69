import Derived.Test.YtlighhlnmglpfaaGreatQDb
set_option linter.all false
set_option maxRecDepth 100000
namespace Go.PW
open Go.RowKit
noncomputable section
inductive Zly where
 | L0 (v1:(List (List Bool))) (v5:(List Int)) (v6:(List Int)) (v7:Int)
 | L1 (v1:(List (List Bool))) (v5:(List Int)) (v6:(List Int)) (v7:Int) (v8:Bool) (v9:Int)
def Z2x(v1:(List (List Bool)))(v5:(List Int))(v6:(List Int))(v7:Int):LT Zly (List Int):=
.len (cI .i64) v5<|.br (decide (v7 < (v5.length:Int))) (.g0 (.L1 v1 v5 v6 v7 true 0))<|.ret v6 [.relab 20000006 5000]
def Z2y(v1:(List (List Bool)))(v5:(List Int))(v6:(List Int))(v7:Int)(v8:Bool)(v9:Int):LT Zly (List Int):=
.len (cI .i64) v5<|.br (decide (v9 < (v5.length:Int))) (.cs (v9 != v7) (.k4 1<|.idx (cI .i64) v5 v7 fun x4=>.k4 1<|.idx (cI .i64) v5 v9 fun x6=>.k2 1<|.call (Z6y v1 x4 x6) fun x8=>.kg 1<|.cs x8 (.k5 2<|.ag (cI .i64) x6 3<|.k2 2<|.call (Zav4 v5 v1 x6) fun x11=>.k3 2<|.ag (cI .i64) x4 0<|.k2 2<|.call (Zaap x11 x4) fun x13=>.k2 2<|.br (!x13) (.g0 (.L1 v1 v5 v6 v7 false (IntKind.wrap .i64 (v9+1))))<|.g0 (.L1 v1 v5 v6 v7 v8 (IntKind.wrap .i64 (v9+1))))<|.k8 2<|.k5 2<|.kg 2<|.kn [0]<|.g0 (.L1 v1 v5 v6 v7 v8 (IntKind.wrap .i64 (v9+1))))<|.k8 1<|.k3 1<|.b8 false<|.b5 false<|.kb false<|.kn [0]<|.g0 (.L1 v1 v5 v6 v7 v8 (IntKind.wrap .i64 (v9+1))))<|.br v8 (.idx (cI .i64) v5 v7 fun x25=>.dr [.lit]<|.apR (cI .i64) 8 v6 [x25] fun x28=>.g0 (.L0 v1 v5 x28 (IntKind.wrap .i64 (v7+1))))<|.g0 (.L0 v1 v5 v6 (IntKind.wrap .i64 (v7+1)))
def Zalx(a0:(List Int))(a1:(List (List Bool))):LT Zly (List Int):=
.call (Zasu a0) fun x1=>.go (.L0 a1 x1 ([]:(List Int)) 0) [.own 6 20000006 1]
def Zaly:LF Zly (List Int):=⟨155,[.t 4],true,fun | .L0 .. => [1,1,1,0,1,4] | .L1 .. => [1,1,1,0,1,4,5,1,0,4,1,0,1,4],
 fun | .L0 v1 v5 v6 v7=>⟨63,[(1,(wL (cL cB) v1)),(5,(wL (cI .i64) v5)),(6,(wO (cI .i64) 20000006 v6)),(7,(wI v7))],[(20000006,wR (cI .i64) 1 v6)]⟩ | .L1 v1 v5 v6 v7 v8 v9=>⟨63,[(1,(wL (cL cB) v1)),(5,(wL (cI .i64) v5)),(6,(wO (cI .i64) 20000006 v6)),(7,(wI v7)),(8,(wB v8)),(9,(wI v9))],[(20000006,wR (cI .i64) 1 v6)]⟩,
 fun r=>[(5000,wR (cI .i64) 1 r)],fun r=>(wO (cI .i64) 5000 r),fun | .L0 v1 v5 v6 v7=>Z2x v1 v5 v6 v7 | .L1 v1 v5 v6 v7 v8 v9=>Z2y v1 v5 v6 v7 v8 v9⟩
def Z43(a0:(List Int))(a1:(List (List Bool))):Option (List Int):=Zaly.run (Zalx a0 a1)
theorem Zaz5(a0:(List Int))(a1:(List (List Bool))){r:(List Int)}(h:Z43 a0 a1=some r):FnG PR 155 [] [(wL (cI .i64) a0),(wL (cL cB) a1)] [(5000,wR (cI .i64) 1 r)] (wO (cI .i64) 5000 r):=Zaly.fn h
theorem Za5j(a0:(List Int))(a1:(List (List Bool))){r:(List Int)}(h:Z43 a0 a1=some r):Fn PR 155 [(wL (cI .i64) a0),(wL (cL cB) a1)] (wL (cI .i64) r):=
 FnG.frozen (C:=LT.RL (cI .i64) r∧True) (Zaz5 a0 a1 h) ⟨rfl,trivial⟩ (by kernel_rfl)
def Zalz(a0:(List Int))(a1:Int):LT Empty Int:=
.len (cI .i64) a0<|.br (decide (a1 < (a0.length:Int))) (.idx (cI .i64) a0 a1 fun x3=>.rt x3)<|.rt 0
def Zal0:LF Empty Int := .z 156 [.t 4] false (fun r=>[]) (fun r=>(wI r))
def Zagu(a0:(List Int))(a1:Int):Option Int:=Zal0.run (Zalz a0 a1)
theorem Z2z(a0:(List Int))(a1:Int){r:Int}(h:Zagu a0 a1=some r):Fn PR 156 [(wL (cI .i64) a0),(wI a1)] (wI r):=Zal0.fn h
inductive Zsy where
 | L0 (v1:(List Int)) (v7:(List Int)) (v8:Int) (v9:Int)
def Z6z(v1:(List Int))(v7:(List Int))(v8:Int)(v9:Int):LT Zsy Int:=
.len (cI .i64) v7<|.br (decide (v9 < (v7.length:Int))) (.idx (cI .i64) v7 v9 fun x3=>.call (Z2z v1 x3) fun x5=>.cs (decide (v8 < 0)) (.k5 1<|.kg 1<|.b8 true<|.kn [0]<|.ag (cI .i64) x3 0<|.g0 (.L0 v1 v7 x3 (IntKind.wrap .i64 (v9+1))))<|.k4 1<|.call (Z2z v1 v8) fun x10=>.k2 1<|.cs (decide (x5 < x10)) (.k8 2<|.kn [0]<|.ag (cI .i64) x3 0<|.g0 (.L0 v1 v7 x3 (IntKind.wrap .i64 (v9+1))))<|.k4 2<|.call (Z2z v1 v8) fun x15=>.k2 2<|.cs (x5==x15) (.k3 3<|.ag (cI .i64) x3 0<|.k3 3<|.kg 2<|.kg 3<|.kg 2<|.br (decide (x3 < v8)) (.ag (cI .i64) x3 0<|.g0 (.L0 v1 v7 x3 (IntKind.wrap .i64 (v9+1))))<|.g0 (.L0 v1 v7 v8 (IntKind.wrap .i64 (v9+1))))<|.k5 3<|.kg 3<|.kg 2<|.kg 3<|.kg 2<|.kn [0]<|.g0 (.L0 v1 v7 v8 (IntKind.wrap .i64 (v9+1))))<|.rt v8
def Zasy(a0:(List Int))(a1:(List Int))(a2:(List (List Bool))):LT Zsy Int:=
.call (Za5j a0 a2) fun x1=>.g0 (.L0 a1 x1 (-1) 0)
def Zasz:LF Zsy Int:=⟨103,[.t 6],false,fun | .L0 .. => [1,1,1,0,1,4],
 fun | .L0 v1 v7 v8 v9=>⟨55,[(1,(wL (cI .i64) v1)),(7,(wL (cI .i64) v7)),(8,(wI v8)),(9,(wI v9))],[]⟩,
 fun r=>[],fun r=>(wI r),fun | .L0 v1 v7 v8 v9=>Z6z v1 v7 v8 v9⟩
def Zan2(a0:(List Int))(a1:(List Int))(a2:(List (List Bool))):Option Int:=Zasz.run (Zasy a0 a1 a2)
theorem Za76(a0:(List Int))(a1:(List Int))(a2:(List (List Bool))){r:Int}(h:Zan2 a0 a1 a2=some r):Fn PR 103 [(wL (cI .i64) a0),(wL (cI .i64) a1),(wL (cL cB) a2)] (wI r):=Zasz.fn h
inductive Zkk where
 | L0 (v1:(List Int)) (v2:Int) (E0:Zc) (v7:(List Int)) (v8:(List (List Bool))) (v9:Int)
 | L1 (v1:(List Int)) (v2:Int) (E0:Zc) (v7:(List Int)) (v8:(List (List Bool))) (v10:Int)
 | L2 (v1:(List Int)) (v2:Int) (E0:Zc) (v7:(List Int)) (v8:(List (List Bool))) (v10:Int) (v11:Int)
def Z60(v1:(List Int))(v2:Int)(E0:Zc)(v7:(List Int))(v8:(List (List Bool)))(v9:Int):LT Zkk Int:=
.len Zp E0.L<|.br (decide (v9 < (E0.L.length:Int))) (.idx Zp E0.L v9 fun x3=>.dr [.lit]<|.apR (cI .i64) 8 v7 [x3.Stamp] fun x6=>.len Zp E0.L<|.mk cB 1034 1 false (E0.L.length:Int) (E0.L.length:Int) fun x9=>.mkM cB 1035 1034 x9<|.apM cB 24 v8 x9 fun x12=>.g0 (.L0 v1 v2 E0 x6 x12 (IntKind.wrap .i64 (v9+1))))<|.g0 (.L1 v1 v2 E0 v7 v8 0)
def Z61(v1:(List Int))(v2:Int)(E0:Zc)(v7:(List Int))(v8:(List (List Bool)))(v10:Int):LT Zkk Int:=
.len (cI .i64) v1<|.br (decide (v10 < (v1.length:Int))) (.g0 (.L2 v1 v2 E0 v7 v8 v10 0))<|.rl (cI .i64) v7<|.rl (cL cB) v8<|.call (Za76 v1 v7 v8) fun x3=>.rt x3
def Z62(v1:(List Int))(v2:Int)(E0:Zc)(v7:(List Int))(v8:(List (List Bool)))(v10:Int)(v11:Int):LT Zkk Int:=
.len (cI .i64) v1<|.br (decide (v11 < (v1.length:Int))) (.idx (cI .i64) v1 v10 fun x3=>.idM cB v8 x3 fun x5=>.ldM cB v8 3<|.idx (cI .i64) v1 v11 fun x7=>.ag (cI .i64) x3 0<|.ag (cI .i64) x7 5<|.call (Za5i E0 x3 x7 v2) fun x9=>.idN cB v8 x5 x7 3 fun x11=>.stM cB v8 x3 x5 x7 x9 3 8 fun x13=>.dr [.ahead 47,.relen 20000008,.stop]<|.us [9]<|.us [9]<|.g0 (.L2 v1 v2 E0 v7 x13 v10 (IntKind.wrap .i64 (v11+1))))<|.g0 (.L1 v1 v2 E0 v7 v8 (IntKind.wrap .i64 (v10+1)))
def Zas0(a0:Zc)(a1:(List Int))(a2:Int):LT Zkk Int:=
.lb 1003<|.lb 1012<|.m0 1013<|.go (.L0 a1 a2 a0 ([]:(List Int)) ([]:(List (List Bool))) 0) [.relab 1003 30000000,.relab 1012 20000007,.relab 1013 20000008]
def Zas1:LF Zkk Int:=⟨64,[.t 6],false,fun | .L0 .. => [1,1,1,0,1,4] | .L1 .. => [1,1,1,1,0,1,4] | .L2 .. => [1,1,1,1,0,1,4,5,1,0,4,1,4],
 fun | .L0 v1 v2 E0 v7 v8 v9=>⟨76,[(1,(wL (cI .i64) v1)),(2,(wI v2)),(3,(.bptr 30000000 0)),(7,(wO (cI .i64) 20000007 v7)),(8,(wM (cL cB) 20000008 v8)),(9,(wI v9))],[(30000000,.box (bx (Zae E0))),(20000007,wR (cI .i64) 1 v7),(20000008,wT (cL cB) v8)]⟩ | .L1 v1 v2 E0 v7 v8 v10=>⟨76,[(1,(wL (cI .i64) v1)),(2,(wI v2)),(3,(.bptr 30000000 0)),(7,(wO (cI .i64) 20000007 v7)),(8,(wM (cL cB) 20000008 v8)),(10,(wI v10))],[(30000000,.box (bx (Zae E0))),(20000007,wR (cI .i64) 1 v7),(20000008,wT (cL cB) v8)]⟩ | .L2 v1 v2 E0 v7 v8 v10 v11=>⟨76,[(1,(wL (cI .i64) v1)),(2,(wI v2)),(3,(.bptr 30000000 0)),(7,(wO (cI .i64) 20000007 v7)),(8,(wM (cL cB) 20000008 v8)),(10,(wI v10)),(11,(wI v11))],[(30000000,.box (bx (Zae E0))),(20000007,wR (cI .i64) 1 v7),(20000008,wT (cL cB) v8)]⟩,
 fun r=>[],fun r=>(wI r),fun | .L0 v1 v2 E0 v7 v8 v9=>Z60 v1 v2 E0 v7 v8 v9 | .L1 v1 v2 E0 v7 v8 v10=>Z61 v1 v2 E0 v7 v8 v10 | .L2 v1 v2 E0 v7 v8 v10 v11=>Z62 v1 v2 E0 v7 v8 v10 v11⟩
def Zan3(a0:Zc)(a1:(List Int))(a2:Int):Option Int:=Zas1.run (Zas0 a0 a1 a2)
theorem Za77(a0:Zc)(a1:(List Int))(a2:Int){r:Int}(h:Zan3 a0 a1 a2=some r):Fn PR 64 [(wA (Zae a0)),(wL (cI .i64) a1),(wI a2)] (wI r):=Zas1.fn h
inductive Zlf where
 | L0 (v0:(List Int)) (v1:Int) (v5:(List Int)) (v6:Int)
def Zu5(v0:(List Int))(v1:Int)(v5:(List Int))(v6:Int):LT Zlf (List Int):=
.len (cI .i64) v0<|.br (decide (v6 < (v0.length:Int))) (.idx (cI .i64) v0 v6 fun x3=>.br (x3 != v1) (.ag (cI .i64) x3 0<|.dr [.lit]<|.apR (cI .i64) 8 v5 [x3] fun x7=>.g0 (.L0 v0 v1 x7 (IntKind.wrap .i64 (v6+1))))<|.g0 (.L0 v0 v1 v5 (IntKind.wrap .i64 (v6+1))))<|.ret v5 [.relab 20000005 5000]
def Zac1(a0:(List Int))(a1:Int):LT Zlf (List Int):=
.go (.L0 a0 a1 ([]:(List Int)) 0) [.own 5 20000005 1]
def Zac2:LF Zlf (List Int):=⟨66,[.t 4],true,fun | .L0 .. => [1,1,0,1,4],
 fun | .L0 v0 v1 v5 v6=>⟨27,[(0,(wL (cI .i64) v0)),(1,(wI v1)),(5,(wO (cI .i64) 20000005 v5)),(6,(wI v6))],[(20000005,wR (cI .i64) 1 v5)]⟩,
 fun r=>[(5000,wR (cI .i64) 1 r)],fun r=>(wO (cI .i64) 5000 r),fun | .L0 v0 v1 v5 v6=>Zu5 v0 v1 v5 v6⟩
def Z63(a0:(List Int))(a1:Int):Option (List Int):=Zac2.run (Zac1 a0 a1)
theorem Zas2(a0:(List Int))(a1:Int){r:(List Int)}(h:Z63 a0 a1=some r):FnG PR 66 [] [(wL (cI .i64) a0),(wI a1)] [(5000,wR (cI .i64) 1 r)] (wO (cI .i64) 5000 r):=Zac2.fn h
inductive Zjk where
 | L0 (v1:Int) (E0:Zc) (E1:Zc) (v6:(List Int)) (v7:Int)
 | L1 (v1:Int) (E0:Zc) (E1:Zc) (v6:(List Int)) (v8:(List Int)) (v9:Int) (v10:Int)
def Zyl(v1:Int)(E0:Zc)(E1:Zc)(v6:(List Int))(v7:Int):LT Zjk (Zc×(List Int)):=
.len Zp E0.L<|.br (decide (v7 < (E0.L.length:Int))) (.idx Zp E0.L v7 fun x3=>.call (Zavz x3 v1) fun x5=>.br x5 (.dr [.lit]<|.apR (cI .i64) 8 v6 [v7] fun x9=>.g0 (.L0 v1 E0 E1 x9 (IntKind.wrap .i64 (v7+1))))<|.g0 (.L0 v1 E0 E1 v6 (IntKind.wrap .i64 (v7+1))))<|.lb 1035<|.lenO (cI .i64) v6<|.go (.L1 v1 E0 E1 v6 ([]:(List Int)) (v6.length:Int) 0) [.relab 1035 20000008]
def Zym(v1:Int)(E0:Zc)(E1:Zc)(v6:(List Int))(v8:(List Int))(v9:Int)(v10:Int):LT Zjk (Zc×(List Int)):=
.br (decide (v10 < v9)) (.rl (cI .i64) v6<|.call (Za77 E0 v6 v1) fun x2=>.dr [.lit]<|.apR (cI .i64) 8 v8 [x2] fun x5=>.call (Z8y E0 x2 v1) fun x8=>.rl (cI .i64) v6<|.callS (Zas2 v6 x2) 580000 (fun _=>⟨rfl,Z01 (cI .i64) (fun _=>rfl) _,trivial⟩) fun x10=>.go (.L1 v1 x8 E1 x10 x5 v9 (IntKind.wrap .i64 (v10+1))) [.pick [1,2,4,6,8,9,10] [585000,30000000,20000008,30000001,40000100,40000101,40000102,40000103,40000104,40000105,40000106,40000116,40000119,40000120,40000121,40000122,40000123],.relab 585000 20000006])<|.ret (E0,v8) [.relab 20000008 5100]
def Zagv(a0:Zc)(a1:Int):LT Zjk (Zc×(List Int)):=
.lb 1002<|.lb 1004<|.br (a1==7) (.callF (Zasl a0) 160000 fun x2=>.lb 1016<|.rl Zk x2.All<|.go (.L0 a1 x2 (⟨(⟨([]:(List Za2)),([]:(List Zl)),([]:(List Int)),([]:(List Int)),([]:(List Zdg)),([]:(List Zc0)),([]:(List Ze4)),0,0,0,false,0,0,0,0,0,([]:(List Int)),0,0⟩:Zb),([]:(List Za)),([]:(List Zx)),([]:(List Bool)),([]:(List (List Int))),([]:(List Bool))⟩:Zc) ([]:(List Int)) 0) [.relab 1002 30000000,.relab 1004 30000001,.relab 1016 20000006,.frz 165019,.ownb 30000001 0 40000100 14,.ownb 30000001 1 40000101 19,.ownb 30000001 2 40000102 1,.ownb 30000001 3 40000103 1,.ownb 30000001 4 40000104 94,.ownb 30000001 5 40000105 89,.ownb 30000001 6 40000106 6,.ownb 30000001 16 40000116 1,.ownb 30000001 19 40000119 17,.ownb 30000001 20 40000120 23,.ownb 30000001 21 40000121 1,.ownb 30000001 22 40000122 1,.ownb 30000001 23 40000123 1])<|.lb 1016<|.go (.L0 a1 a0 (⟨(⟨([]:(List Za2)),([]:(List Zl)),([]:(List Int)),([]:(List Int)),([]:(List Zdg)),([]:(List Zc0)),([]:(List Ze4)),0,0,0,false,0,0,0,0,0,([]:(List Int)),0,0⟩:Zb),([]:(List Za)),([]:(List Zx)),([]:(List Bool)),([]:(List (List Int))),([]:(List Bool))⟩:Zc) ([]:(List Int)) 0) [.relab 1002 30000000,.relab 1004 30000001,.relab 1016 20000006,.ownb 30000001 0 40000100 14,.ownb 30000001 1 40000101 19,.ownb 30000001 2 40000102 1,.ownb 30000001 3 40000103 1,.ownb 30000001 4 40000104 94,.ownb 30000001 5 40000105 89,.ownb 30000001 6 40000106 6,.ownb 30000001 16 40000116 1,.ownb 30000001 19 40000119 17,.ownb 30000001 20 40000120 23,.ownb 30000001 21 40000121 1,.ownb 30000001 22 40000122 1,.ownb 30000001 23 40000123 1]
def Zagw:LF Zjk (Zc×(List Int)):=⟨31,[.c 4 96 true 24,.t 5],true,fun | .L0 .. => [1,1,1,0,1,4] | .L1 .. => [1,1,1,1,1,1,0,1,4],
 fun | .L0 v1 E0 E1 v6 v7=>⟨60,[(1,(wI v1)),(2,(.bptr 30000000 0)),(4,(.bptr 30000001 0)),(6,(wO (cI .i64) 20000006 v6)),(7,(wI v7))],[(30000000,.box (bx (Zae E0))),(30000001,.box [(wO Zag 40000100 E1.S.Players),(wO Zs 40000101 E1.S.Objects),(wO (cI .i64) 40000102 E1.S.Battlefield),(wO (cI .i64) 40000103 E1.S.Exile),(wO Zbd 40000104 E1.S.Stack),(wO Za7 40000105 E1.S.Waiting),(wO Zbj 40000106 E1.S.Conts),(wI E1.S.Turn),(wI E1.S.Active),(wI E1.S.Step),(wB E1.S.Begun),(wI E1.S.Priority),(wI E1.S.Passes),(wI E1.S.NextId),(wI E1.S.NextStamp),(.t (.int .u64 E1.S.Seed)),(wO (cI .i64) 40000116 E1.S.Extra),(wI E1.S.Over),(wI E1.S.Winner),(wO Zk 40000119 E1.All),(wO Zp 40000120 E1.L),(wO cB 40000121 E1.Begun),(wO (cL (cI .i64)) 40000122 E1.Sets),(wO cB 40000123 E1.Blank)]),(40000100,wR Zag 14 E1.S.Players),(40000101,wR Zs 19 E1.S.Objects),(40000102,wR (cI .i64) 1 E1.S.Battlefield),(40000103,wR (cI .i64) 1 E1.S.Exile),(40000104,wR Zbd 94 E1.S.Stack),(40000105,wR Za7 89 E1.S.Waiting),(40000106,wR Zbj 6 E1.S.Conts),(40000116,wR (cI .i64) 1 E1.S.Extra),(40000119,wR Zk 17 E1.All),(40000120,wR Zp 23 E1.L),(40000121,wR cB 1 E1.Begun),(40000122,wR (cL (cI .i64)) 1 E1.Sets),(40000123,wR cB 1 E1.Blank),(20000006,wR (cI .i64) 1 v6)]⟩ | .L1 v1 E0 E1 v6 v8 v9 v10=>⟨60,[(1,(wI v1)),(2,(.bptr 30000000 0)),(4,(.bptr 30000001 0)),(6,(wO (cI .i64) 20000006 v6)),(8,(wO (cI .i64) 20000008 v8)),(9,(wI v9)),(10,(wI v10))],[(30000000,.box (bx (Zae E0))),(30000001,.box [(wO Zag 40000100 E1.S.Players),(wO Zs 40000101 E1.S.Objects),(wO (cI .i64) 40000102 E1.S.Battlefield),(wO (cI .i64) 40000103 E1.S.Exile),(wO Zbd 40000104 E1.S.Stack),(wO Za7 40000105 E1.S.Waiting),(wO Zbj 40000106 E1.S.Conts),(wI E1.S.Turn),(wI E1.S.Active),(wI E1.S.Step),(wB E1.S.Begun),(wI E1.S.Priority),(wI E1.S.Passes),(wI E1.S.NextId),(wI E1.S.NextStamp),(.t (.int .u64 E1.S.Seed)),(wO (cI .i64) 40000116 E1.S.Extra),(wI E1.S.Over),(wI E1.S.Winner),(wO Zk 40000119 E1.All),(wO Zp 40000120 E1.L),(wO cB 40000121 E1.Begun),(wO (cL (cI .i64)) 40000122 E1.Sets),(wO cB 40000123 E1.Blank)]),(40000100,wR Zag 14 E1.S.Players),(40000101,wR Zs 19 E1.S.Objects),(40000102,wR (cI .i64) 1 E1.S.Battlefield),(40000103,wR (cI .i64) 1 E1.S.Exile),(40000104,wR Zbd 94 E1.S.Stack),(40000105,wR Za7 89 E1.S.Waiting),(40000106,wR Zbj 6 E1.S.Conts),(40000116,wR (cI .i64) 1 E1.S.Extra),(40000119,wR Zk 17 E1.All),(40000120,wR Zp 23 E1.L),(40000121,wR cB 1 E1.Begun),(40000122,wR (cL (cI .i64)) 1 E1.Sets),(40000123,wR cB 1 E1.Blank),(20000006,wR (cI .i64) 1 v6),(20000008,wR (cI .i64) 1 v8)]⟩,
 fun r=>[(5100,wR (cI .i64) 1 r.2)],fun r=>(.tup [(wA (Zae r.1)),(wO (cI .i64) 5100 r.2)]),fun | .L0 v1 E0 E1 v6 v7=>Zyl v1 E0 E1 v6 v7 | .L1 v1 E0 E1 v6 v8 v9 v10=>Zym v1 E0 E1 v6 v8 v9 v10⟩
def Zaaq(a0:Zc)(a1:Int):Option (Zc×(List Int)):=Zagw.run (Zagv a0 a1)
theorem Zav5(a0:Zc)(a1:Int){r:(Zc×(List Int))}(h:Zaaq a0 a1=some r):FnG PR 31 [] [(wA (Zae a0)),(wI a1)] [(5100,wR (cI .i64) 1 r.2)] (.tup [(wA (Zae r.1)),(wO (cI .i64) 5100 r.2)]):=Zagw.fn h
inductive Zxt where
 | L0 (E0:Zc) (v6:Int)
def Zaar(E0:Zc)(v6:Int):LT Zxt (List Za):=
.br (decide (v6≤8)) (.callF (Zav5 E0 v6) 180000 fun x2=>.g0 (.L0 x2.1 (IntKind.wrap .i64 (v6+1))))<|.rt E0.All
def Zazd(a0:(List Zq))(a1:Zb):LT Zxt (List Za):=
.lb 1003<|.callF (Zaz4 a0 a1) 100000 fun x1=>.lb 1005<|.rl Zk x1.All<|.rl cB x1.Begun<|.rl (cL (cI .i64)) x1.Sets<|.rl cB x1.Blank<|.go (.L0 x1 1) [.relab 1005 30000000,.frz 105019,.frz 105021,.frz 105022,.frz 105023]
def Zaze:LF Zxt (List Za):=⟨11,[.t 4],false,fun | .L0 .. => [1,1,0,1,4],
 fun | .L0 E0 v6=>⟨22,[(5,(.bptr 30000000 0)),(6,(wI v6))],[(30000000,.box (bx (Zae E0)))]⟩,
 fun r=>[],fun r=>(wL Zk r),fun | .L0 E0 v6=>Zaar E0 v6⟩
def Zav6(a0:(List Zq))(a1:Zb):Option (List Za):=Zaze.run (Zazd a0 a1)
theorem Zsz(a0:(List Zq))(a1:Zb){r:(List Za)}(h:Zav6 a0 a1=some r):Fn PR 11 [(wL Zad a0),(wA (Zu a1))] (wL Zk r):=Zaze.fn h
inductive Zng where
 | L0 (E0:Zb) (v3:(List Int)) (v4:Int)
def Zyn(E0:Zb)(v3:(List Int))(v4:Int):LT Zng (List Int):=
.len Zag E0.Players<|.br (decide (v4 < (E0.Players.length:Int))) (.idx Zag E0.Players v4 fun x3=>.br (!x3.Lost) (.dr [.lit]<|.apR (cI .i64) 8 v3 [v4] fun x7=>.g0 (.L0 E0 x7 (IntKind.wrap .i64 (v4+1))))<|.g0 (.L0 E0 v3 (IntKind.wrap .i64 (v4+1))))<|.ret v3 [.relab 20000003 5000]
def Zagx(a0:Zb):LT Zng (List Int):=
.lb 1001<|.go (.L0 a0 ([]:(List Int)) 0) [.relab 1001 30000000,.own 3 20000003 1]
def Zagy:LF Zng (List Int):=⟨38,[.t 2],true,fun | .L0 .. => [1,1,0,1,4],
 fun | .L0 E0 v3 v4=>⟨24,[(1,(.bptr 30000000 0)),(3,(wO (cI .i64) 20000003 v3)),(4,(wI v4))],[(30000000,.box (bx (Zu E0))),(20000003,wR (cI .i64) 1 v3)]⟩,
 fun r=>[(5000,wR (cI .i64) 1 r)],fun r=>(wO (cI .i64) 5000 r),fun | .L0 E0 v3 v4=>Zyn E0 v3 v4⟩
def Z0d(a0:Zb):Option (List Int):=Zagy.run (Zagx a0)
theorem Zav7(a0:Zb){r:(List Int)}(h:Z0d a0=some r):FnG PR 38 [] [(wA (Zu a0))] [(5000,wR (cI .i64) 1 r)] (wO (cI .i64) 5000 r):=Zagy.fn h
theorem Zaz6(a0:Zb){r:(List Int)}(h:Z0d a0=some r):Fn PR 38 [(wA (Zu a0))] (wL (cI .i64) r):=
 FnG.frozen (C:=LT.RL (cI .i64) r∧True) (Zav7 a0 h) ⟨rfl,trivial⟩ (by kernel_rfl)
inductive Zpx where
 | L0 (v1:Int) (E0:Zb) (v5:Int)
def Z20(v1:Int)(E0:Zb)(v5:Int):LT Zpx Int:=
.len Zs E0.Objects<|.br (decide (v5 < (E0.Objects.length:Int))) (.idx Zs E0.Objects v5 fun x3=>.br (x3.Id==v1) (.rt v5)<|.g0 (.L0 v1 E0 (IntKind.wrap .i64 (v5+1))))<|.rt (-1)
def Zal1(a0:Zb)(a1:Int):LT Zpx Int:=
.lb 1002<|.go (.L0 a1 a0 0) [.relab 1002 30000000]
def Zal2:LF Zpx Int:=⟨40,[.t 4],false,fun | .L0 .. => [1,0,1,4],
 fun | .L0 v1 E0 v5=>⟨22,[(1,(wI v1)),(2,(.bptr 30000000 0)),(5,(wI v5))],[(30000000,.box (bx (Zu E0)))]⟩,
 fun r=>[],fun r=>(wI r),fun | .L0 v1 E0 v5=>Z20 v1 E0 v5⟩
def Zagz(a0:Zb)(a1:Int):Option Int:=Zal2.run (Zal1 a0 a1)
theorem Za5k(a0:Zb)(a1:Int){r:Int}(h:Zagz a0 a1=some r):Fn PR 40 [(wA (Zu a0)),(wI a1)] (wI r):=Zal2.fn h
def Zag0(a0:Zb)(a1:(List Za))(a2:Int)(a3:Int):LT Empty Bool:=
.lb 1004<|.cs (decide (a2≥0)) (.k3 0<|.len Zk a1<|.k2 0<|.cs (decide (a2 < (a1.length:Int))) (.k4 1<|.idx Zs a0.Objects a2 fun x4=>.k4 1<|.cs (x4.Zone==0) (.k3 2<|.idx Zk a1 a2 fun x7=>.k3 2<|.call (Z0c x7.Keys 2048) fun x9=>.kg 2<|.cs x9 (.k3 3<|.ag Zk x7 3<|.k5 3<|.rt (x7.Control != a3))<|.k8 3<|.rt false)<|.k5 2<|.k2 2<|.b8 false<|.rt false)<|.k8 1<|.b8 false<|.b5 false<|.b2 false<|.rt false)<|.k5 0<|.b16 false<|.b5 false<|.b2 false<|.rt false
def Zag1:LF Empty Bool := .z 41 [.t 8] false (fun r=>[]) (fun r=>(wB r))
def Zaas(a0:Zb)(a1:(List Za))(a2:Int)(a3:Int):Option Bool:=Zag1.run (Zag0 a0 a1 a2 a3)
theorem Zaz7(a0:Zb)(a1:(List Za))(a2:Int)(a3:Int){r:Bool}(h:Zaas a0 a1 a2 a3=some r):Fn PR 41 [(wA (Zu a0)),(wL Zk a1),(wI a2),(wI a3)] (wB r):=Zag1.fn h
inductive Zkl where
 | L0 (v1:(List Za)) (E0:Zb) (E1:Zj) (E2:Zr) (v9:(List Zi)) (v10:(List Int)) (v11:Int)
 | L1 (v1:(List Za)) (E0:Zb) (E1:Zj) (E2:Zr) (v9:(List Zi))
 | L2 (v1:(List Za)) (E0:Zb) (E1:Zj) (v9:(List Zi)) (v12:(List Int)) (v13:Int)
def Zpy(v1:(List Za))(E0:Zb)(E1:Zj)(E2:Zr)(v9:(List Zi)):LT Zkl (List Zi):=
.br (!E2.Object) (.ret v9 [.relab 20000009 5000])<|.call (Zalp E0 v1 E1.You E1.Source E2.Filter) fun x2=>.g0 (.L2 v1 E0 E1 v9 x2 0)
def Z64(v1:(List Za))(E0:Zb)(E1:Zj)(E2:Zr)(v9:(List Zi))(v10:(List Int))(v11:Int):LT Zkl (List Zi):=
.len (cI .i64) v10<|.br (decide (v11 < (v10.length:Int))) (.idx (cI .i64) v10 v11 fun x3=>.dr [.lit]<|.apR Zh 24 v9 [(⟨6,x3,0⟩:Zi)] fun x6=>.g0 (.L0 v1 E0 E1 E2 x6 v10 (IntKind.wrap .i64 (v11+1))))<|.j0 (.L1 v1 E0 E1 E2 v9) (Zpy v1 E0 E1 E2 v9)
def Z65(v1:(List Za))(E0:Zb)(E1:Zj)(v9:(List Zi))(v12:(List Int))(v13:Int):LT Zkl (List Zi):=
.len (cI .i64) v12<|.br (decide (v13 < (v12.length:Int))) (.idx (cI .i64) v12 v13 fun x3=>.call (Za5k E0 x3) fun x5=>.cs (decide (x5 < 0)) (.k5 1<|.k2 1<|.b8 true<|.b2 true<|.kn [0]<|.g0 (.L2 v1 E0 E1 v9 v12 (IntKind.wrap .i64 (v13+1))))<|.k5 1<|.kg 1<|.call (Zaz7 E0 v1 x5 E1.You) fun x10=>.kg 1<|.cs x10 (.k8 2<|.k2 2<|.kn [0]<|.g0 (.L2 v1 E0 E1 v9 v12 (IntKind.wrap .i64 (v13+1))))<|.k3 2<|.ag (cI .i64) x3 0<|.k5 2<|.cs (x3==E1.Source) (.k4 3<|.idx Zs E0.Objects x5 fun x16=>.k3 3<|.kg 2<|.kg 3<|.kg 2<|.br (x16.Zone==5) (.g0 (.L2 v1 E0 E1 v9 v12 (IntKind.wrap .i64 (v13+1))))<|.ag (cI .i64) x3 0<|.dr [.lit]<|.apR Zh 24 v9 [(⟨5,x3,0⟩:Zi)] fun x22=>.g0 (.L2 v1 E0 E1 x22 v12 (IntKind.wrap .i64 (v13+1))))<|.k5 3<|.k2 3<|.kg 2<|.kg 3<|.kg 2<|.kn [0]<|.ag (cI .i64) x3 0<|.dr [.lit]<|.apR Zh 24 v9 [(⟨5,x3,0⟩:Zi)] fun x28=>.g0 (.L2 v1 E0 E1 x28 v12 (IntKind.wrap .i64 (v13+1))))<|.ret v9 [.relab 20000009 5000]
def Zas3(a0:Zb)(a1:(List Za))(a2:Zj)(a3:Zr):LT Zkl (List Zi):=
.lb 1004<|.lb 1006<|.lb 1007<|.br a3.Player (.call (Zaz6 a0) fun x2=>.go (.L0 a1 a0 a2 a3 ([]:(List Zi)) x2 0) [.relab 1004 30000000,.relab 1006 30000001,.relab 1007 30000002,.own 9 20000009 3])<|.jn 0 (.L1 a1 a0 a2 a3 ([]:(List Zi))) [.relab 1004 30000000,.relab 1006 30000001,.relab 1007 30000002,.own 9 20000009 3] (Zpy a1 a0 a2 a3 ([]:(List Zi)))
def Zas4:LF Zkl (List Zi):=⟨14,[.t 8],true,fun | .L0 .. => [1,1,0,1,2,1,1,4] | .L1 .. => [1,1,1] | .L2 .. => [1,1,1,1,1,0,1,4],
 fun | .L0 v1 E0 E1 E2 v9 v10 v11=>⟨95,[(1,(wL Zk v1)),(4,(.bptr 30000000 0)),(6,(.bptr 30000001 0)),(7,(.bptr 30000002 0)),(9,(wO Zh 20000009 v9)),(10,(wL (cI .i64) v10)),(11,(wI v11))],[(30000000,.box (bx (Zu E0))),(30000001,.box (bx (Zao E1))),(30000002,.box (bx (Z4 E2))),(20000009,wR Zh 3 v9)]⟩ | .L1 v1 E0 E1 E2 v9=>⟨95,[(1,(wL Zk v1)),(4,(.bptr 30000000 0)),(6,(.bptr 30000001 0)),(7,(.bptr 30000002 0)),(9,(wO Zh 20000009 v9))],[(30000000,.box (bx (Zu E0))),(30000001,.box (bx (Zao E1))),(30000002,.box (bx (Z4 E2))),(20000009,wR Zh 3 v9)]⟩ | .L2 v1 E0 E1 v9 v12 v13=>⟨95,[(1,(wL Zk v1)),(4,(.bptr 30000000 0)),(6,(.bptr 30000001 0)),(9,(wO Zh 20000009 v9)),(12,(wL (cI .i64) v12)),(13,(wI v13))],[(30000000,.box (bx (Zu E0))),(30000001,.box (bx (Zao E1))),(20000009,wR Zh 3 v9)]⟩,
 fun r=>[(5000,wR Zh 3 r)],fun r=>(wO Zh 5000 r),fun | .L0 v1 E0 E1 E2 v9 v10 v11=>Z64 v1 E0 E1 E2 v9 v10 v11 | .L1 v1 E0 E1 E2 v9=>Zpy v1 E0 E1 E2 v9 | .L2 v1 E0 E1 v9 v12 v13=>Z65 v1 E0 E1 v9 v12 v13⟩
def Zaat(a0:Zb)(a1:(List Za))(a2:Zj)(a3:Zr):Option (List Zi):=Zas4.run (Zas3 a0 a1 a2 a3)
theorem Za5l(a0:Zb)(a1:(List Za))(a2:Zj)(a3:Zr){r:(List Zi)}(h:Zaat a0 a1 a2 a3=some r):FnG PR 14 [] [(wA (Zu a0)),(wL Zk a1),(wA (Zao a2)),(wA (Z4 a3))] [(5000,wR Zh 3 r)] (wO Zh 5000 r):=Zas4.fn h
theorem Zwd(a0:Zb)(a1:(List Za))(a2:Zj)(a3:Zr){r:(List Zi)}(h:Zaat a0 a1 a2 a3=some r):Fn PR 14 [(wA (Zu a0)),(wL Zk a1),(wA (Zao a2)),(wA (Z4 a3))] (wL Zh r):=
 FnG.frozen (C:=LT.RL Zh r∧True) (Za5l a0 a1 a2 a3 h) ⟨rfl,trivial⟩ (by kernel_rfl)
inductive Z21 where
 | L0 (E0:Zi) (v12:(List Zi)) (v13:Int)
def Zag2(E0:Zi)(v12:(List Zi))(v13:Int):LT Z21 Bool:=
.len Zh v12<|.br (decide (v13 < (v12.length:Int))) (.idx Zh v12 v13 fun x3=>.br (Zar (Zh x3) (Zh E0)) (.rt true)<|.g0 (.L0 E0 v12 (IntKind.wrap .i64 (v13+1))))<|.rt false
def Za5m(a0:Zb)(a1:(List Za))(a2:Zj)(a3:Zr)(a4:Zf):LT Z21 Bool:=
.lb 1005<|.lb 1007<|.lb 1008<|.lb 1009<|.lb 1011<|.br (a4.Object != 0) (.call (Zwd a0 a1 a2 a3) fun x2=>.go (.L0 (⟨5,a4.Object,0⟩:Zi) x2 0) [.relab 1011 30000000])<|.call (Zwd a0 a1 a2 a3) fun x4=>.go (.L0 (⟨6,a4.Player,0⟩:Zi) x4 0) [.relab 1011 30000000]
def Za5n:LF Z21 Bool:=⟨16,[.t 10],false,fun | .L0 .. => [1,1,1,1,0,1,4],
 fun | .L0 E0 v12 v13=>⟨40,[(11,(.bptr 30000000 0)),(12,(wL Zh v12)),(13,(wI v13))],[(30000000,.box (bx (Zh E0)))]⟩,
 fun r=>[],fun r=>(wB r),fun | .L0 E0 v12 v13=>Zag2 E0 v12 v13⟩
def Za5o(a0:Zb)(a1:(List Za))(a2:Zj)(a3:Zr)(a4:Zf):Option Bool:=Za5n.run (Za5m a0 a1 a2 a3 a4)
theorem Zazf(a0:Zb)(a1:(List Za))(a2:Zj)(a3:Zr)(a4:Zf){r:Bool}(h:Za5o a0 a1 a2 a3 a4=some r):Fn PR 16 [(wA (Zu a0)),(wL Zk a1),(wA (Zao a2)),(wA (Z4 a3)),(wA (Zo a4))] (wB r):=Za5n.fn h
inductive Zfl where
 | L0 (E0:Zb) (E1:Z0) (v7:(List Za)) (v8:Int)
 | L1 (E0:Zb) (E1:Z0) (v7:(List Za)) (v8:Int) (v9:Int)
def Zoq(E0:Zb)(E1:Z0)(v7:(List Za))(v8:Int):LT Zfl Bool:=
.len Z4 E1.Specs<|.br (decide (v8 < (E1.Specs.length:Int))) (.idx Z4 E1.Specs v8 fun x3=>.call (Zgz E0 v7 E1.Ctx x3) fun x5=>.ag Z4 x3 0<|.call (Zwd E0 v7 E1.Ctx x3) fun x7=>.call (Z8r x5 x7) fun x9=>.br (!x9) (.rt false)<|.g0 (.L1 E0 E1 v7 v8 0))<|.call (Zb2) fun x12=>.rt x12
def Zor(E0:Zb)(E1:Z0)(v7:(List Za))(v8:Int)(v9:Int):LT Zfl Bool:=
.len Zo E1.Targets<|.br (decide (v9 < (E1.Targets.length:Int))) (.idx Z4 E1.Specs v8 fun x3=>.idx Zo E1.Targets v9 fun x5=>.call (Zm6 E0 v7 E1.Ctx x3 x5) fun x7=>.ag Z4 x3 0<|.ag Zo x5 3<|.call (Zazf E0 v7 E1.Ctx x3 x5) fun x9=>.br (!(x7==x9)) (.rt false)<|.g0 (.L1 E0 E1 v7 v8 (IntKind.wrap .i64 (v9+1))))<|.g0 (.L0 E0 E1 v7 (IntKind.wrap .i64 (v8+1)))
def Z22(a0:(List Zq))(a1:Zb)(a2:Z0):LT Zfl Bool:=
.lb 1004<|.lb 1005<|.call (Zm1 a0 a1) fun x1=>.cs (!x1) (.k4 0<|.kn [0]<|.call (Zb2) fun x4=>.rt x4)<|.k2 0<|.call (Zsd a2) fun x6=>.k2 0<|.br (!x6) (.call (Zb2) fun x9=>.rt x9)<|.call (Zsz a0 a1) fun x11=>.go (.L0 a1 a2 x11 0) [.relab 1004 30000000,.relab 1005 30000001]
def Z23:LF Zfl Bool:=⟨3,[.t 6],false,fun | .L0 .. => [1,1,1,0,1,4] | .L1 .. => [1,1,1,0,1,4,5,1,0,4,1,1,4],
 fun | .L0 E0 E1 v7 v8=>⟨91,[(4,(.bptr 30000000 0)),(5,(.bptr 30000001 0)),(7,(wL Zk v7)),(8,(wI v8))],[(30000000,.box (bx (Zu E0))),(30000001,.box (bx (Za4 E1)))]⟩ | .L1 E0 E1 v7 v8 v9=>⟨91,[(4,(.bptr 30000000 0)),(5,(.bptr 30000001 0)),(7,(wL Zk v7)),(8,(wI v8)),(9,(wI v9))],[(30000000,.box (bx (Zu E0))),(30000001,.box (bx (Za4 E1)))]⟩,
 fun r=>[],fun r=>(wB r),fun | .L0 E0 E1 v7 v8=>Zoq E0 E1 v7 v8 | .L1 E0 E1 v7 v8 v9=>Zor E0 E1 v7 v8 v9⟩
def Zu6(a0:(List Zq))(a1:Zb)(a2:Z0):Option Bool:=Z23.run (Z22 a0 a1 a2)
theorem Zai8(a0:(List Zq))(a1:Zb)(a2:Z0){r:Bool}(h:Zu6 a0 a1 a2=some r):Fn PR 3 [(wL Zad a0),(wA (Zu a1)),(wA (Za4 a2))] (wB r):=Z23.fn h
inductive Zs0 where
 | L0 (v1:(List Za)) (v3:(List Zr)) (v4:(List Zf)) (E0:Zb) (E1:Zj) (v12:(List Zf)) (v13:Bool) (v14:Int)
def Z66(v1:(List Za))(v3:(List Zr))(v4:(List Zf))(E0:Zb)(E1:Zj)(v12:(List Zf))(v13:Bool)(v14:Int):LT Zs0 ((List Zf)×Bool):=
.len Zo v4<|.br (decide (v14 < (v4.length:Int))) (.len Z4 v3<|.cs (decide (v14 < (v3.length:Int))) (.k5 1<|.kg 1<|.idx Z4 v3 v14 fun x5=>.k4 1<|.idx Zo v4 v14 fun x7=>.k2 1<|.call (Zazf E0 v1 E1 x5 x7) fun x9=>.kg 1<|.br x9 (.ag Zo x7 3<|.dr [.lit]<|.apR Zo 16 v12 [x7] fun x13=>.g0 (.L0 v1 v3 v4 E0 E1 x13 true (IntKind.wrap .i64 (v14+1))))<|.dr [.lit]<|.apR Zo 16 v12 [(⟨(-1),(-1)⟩:Zf)] fun x19=>.g0 (.L0 v1 v3 v4 E0 E1 x19 v13 (IntKind.wrap .i64 (v14+1))))<|.k8 1<|.k5 1<|.kn [0]<|.dr [.lit]<|.apR Zo 16 v12 [(⟨(-1),(-1)⟩:Zf)] fun x25=>.g0 (.L0 v1 v3 v4 E0 E1 x25 v13 (IntKind.wrap .i64 (v14+1))))<|.ret (v12,v13) [.relab 20000012 5000]
def Zas5(a0:Zb)(a1:(List Za))(a2:Zj)(a3:(List Zr))(a4:(List Zf)):LT Zs0 ((List Zf)×Bool):=
.lb 1005<|.lb 1007<|.len Zo a4<|.go (.L0 a1 a3 a4 a0 a2 ([]:(List Zf)) ((a4.length:Int)==0) 0) [.relab 1005 30000000,.relab 1007 30000001,.own 12 20000012 2]
def Zas6:LF Zs0 ((List Zf)×Bool):=⟨18,[.t 10,.t 11],true,fun | .L0 .. => [1,1,1,0,1,4],
 fun | .L0 v1 v3 v4 E0 E1 v12 v13 v14=>⟨55,[(1,(wL Zk v1)),(3,(wL Z4 v3)),(4,(wL Zo v4)),(5,(.bptr 30000000 0)),(7,(.bptr 30000001 0)),(12,(wO Zo 20000012 v12)),(13,(wB v13)),(14,(wI v14))],[(30000000,.box (bx (Zu E0))),(30000001,.box (bx (Zao E1))),(20000012,wR Zo 2 v12)]⟩,
 fun r=>[(5000,wR Zo 2 r.1)],fun r=>(.tup [(wO Zo 5000 r.1),(wB r.2)]),fun | .L0 v1 v3 v4 E0 E1 v12 v13 v14=>Z66 v1 v3 v4 E0 E1 v12 v13 v14⟩
def Zaau(a0:Zb)(a1:(List Za))(a2:Zj)(a3:(List Zr))(a4:(List Zf)):Option ((List Zf)×Bool):=Zas6.run (Zas5 a0 a1 a2 a3 a4)
theorem Za5p(a0:Zb)(a1:(List Za))(a2:Zj)(a3:(List Zr))(a4:(List Zf)){r:((List Zf)×Bool)}(h:Zaau a0 a1 a2 a3 a4=some r):FnG PR 18 [] [(wA (Zu a0)),(wL Zk a1),(wA (Zao a2)),(wL Z4 a3),(wL Zo a4)] [(5000,wR Zo 2 r.1)] (.tup [(wO Zo 5000 r.1),(wB r.2)]):=Zas6.fn h
theorem Za78(a0:Zb)(a1:(List Za))(a2:Zj)(a3:(List Zr))(a4:(List Zf)){r:((List Zf)×Bool)}(h:Zaau a0 a1 a2 a3 a4=some r):Fn PR 18 [(wA (Zu a0)),(wL Zk a1),(wA (Zao a2)),(wL Z4 a3),(wL Zo a4)] (.tup [(wL Zo r.1),(wB r.2)]):=
 FnG.frozen (C:=LT.RL Zo r.1∧True) (Za5p a0 a1 a2 a3 a4 h) ⟨rfl,trivial⟩ (by kernel_rfl)
inductive Zlg where
 | L0 (v0:(List Zf)) (v1:(List Zf)) (v5:Int)
def Zu7(v0:(List Zf))(v1:(List Zf))(v5:Int):LT Zlg Bool:=
.len Zo v0<|.br (decide (v5 < (v0.length:Int))) (.idx Zo v0 v5 fun x3=>.idx Zo v1 v5 fun x5=>.br (!(Zar (Zo x3) (Zo x5))) (.rt false)<|.g0 (.L0 v0 v1 (IntKind.wrap .i64 (v5+1))))<|.rt true
def Zac3(a0:(List Zf))(a1:(List Zf)):LT Zlg Bool:=
.len Zo a0<|.len Zo a1<|.br ((a0.length:Int) != (a1.length:Int)) (.rt false)<|.g0 (.L0 a0 a1 0)
def Zac4:LF Zlg Bool:=⟨19,[.t 4],false,fun | .L0 .. => [1,1,0,1,4],
 fun | .L0 v0 v1 v5=>⟨26,[(0,(wL Zo v0)),(1,(wL Zo v1)),(5,(wI v5))],[]⟩,
 fun r=>[],fun r=>(wB r),fun | .L0 v0 v1 v5=>Zu7 v0 v1 v5⟩
def Z67(a0:(List Zf))(a1:(List Zf)):Option Bool:=Zac4.run (Zac3 a0 a1)
theorem Zu8(a0:(List Zf))(a1:(List Zf)){r:Bool}(h:Z67 a0 a1=some r):Fn PR 19 [(wL Zo a0),(wL Zo a1)] (wB r):=Zac4.fn h
def Z24(a0:(List Zq))(a1:Zb)(a2:Z0):LT Empty Bool:=
.lb 1004<|.lb 1005<|.call (Zm1 a0 a1) fun x1=>.cs (!x1) (.k4 0<|.kn [0]<|.call (Zb2) fun x4=>.rt x4)<|.k2 0<|.call (Zsd a2) fun x6=>.k2 0<|.br (!x6) (.call (Zb2) fun x9=>.rt x9)<|.call (Zsz a0 a1) fun x11=>.call (Z8q a1 x11 a2.Ctx a2.Specs a2.Targets) fun x13=>.call (Za78 a1 x11 a2.Ctx a2.Specs a2.Targets) fun x15=>.call (Zu8 x13.1 x15.1) fun x17=>.cs x17 (.k4 2<|.cs (x13.2==x15.2) (.kg 3<|.call (Zb2) fun x21=>.kg 3<|.rt x21)<|.k2 3<|.rt false)<|.k4 2<|.b2 false<|.rt false
def Z25:LF Empty Bool := .z 4 [.t 6] false (fun r=>[]) (fun r=>(wB r))
def Zu9(a0:(List Zq))(a1:Zb)(a2:Z0):Option Bool:=Z25.run (Z24 a0 a1 a2)
theorem Zai9(a0:(List Zq))(a1:Zb)(a2:Z0){r:Bool}(h:Zu9 a0 a1 a2=some r):Fn PR 4 [(wL Zad a0),(wA (Zu a1)),(wA (Za4 a2))] (wB r):=Z25.fn h
inductive Zgi where
 | L0 (E0:Zb) (E1:Z0) (v7:(List Za)) (v8:(List Zf)) (v10:Int)
def Znh(E0:Zb)(E1:Z0)(v7:(List Za))(v8:(List Zf))(v10:Int):LT Zgi Bool:=
.lenO Zo v8<|.br (decide (v10 < (v8.length:Int))) (.idx Z4 E1.Specs v10 fun x3=>.idxR Zo v8 v10 fun x5=>.ldR Zo v8 x5 5<|.call (Zm6 E0 v7 E1.Ctx x3 x5) fun x7=>.br (!x7) (.rt false)<|.g0 (.L0 E0 E1 v7 v8 (IntKind.wrap .i64 (v10+1))))<|.rl Zo v8<|.callS (Z42 E0 v7 E1.Ctx E1.Specs v8) 830000 (fun _=>⟨rfl,Z01 Zo (fun _=>rfl) _,trivial⟩) fun x12=>.rl Zo v8<|.rl Zo x12.1<|.call (Zu8 v8 x12.1) fun x14=>.cs x14 (.k2 1<|.cs x12.2 (.kg 2<|.call (Zb2) fun x18=>.kg 2<|.rt x18)<|.k2 2<|.rt false)<|.k2 1<|.b2 false<|.rt false
def Zzy(a0:(List Zq))(a1:Zb)(a2:Z0):LT Zgi Bool:=
.lb 1004<|.lb 1005<|.call (Zm1 a0 a1) fun x1=>.cs (!x1) (.k4 0<|.kn [0]<|.call (Zb2) fun x4=>.rt x4)<|.k2 0<|.call (Zsd a2) fun x6=>.k2 0<|.br (!x6) (.call (Zb2) fun x9=>.rt x9)<|.call (Zsz a0 a1) fun x11=>.callF (Z6j a2.Answers) 300000 fun x13=>.callU (Zih x13 a1 x11 a2.Ctx a2.Specs) [305000] 370000 fun x15=>.br (!x15.2.1) (.lenO Zo x15.1<|.cs ((x15.1.length:Int)==0) (.kg 3<|.call (Zb2) fun x20=>.kg 3<|.rt x20)<|.k2 3<|.rt false)<|.lenO Zo x15.1<|.len Z4 a2.Specs<|.br ((x15.1.length:Int) != (a2.Specs.length:Int)) (.rt false)<|.go (.L0 a1 a2 x11 x15.1 0) [.relab 1004 30000000,.relab 1005 30000001,.relab 375000 20000008]
def Zzz:LF Zgi Bool:=⟨5,[.t 6],false,fun | .L0 .. => [1,1,1,1,1,1,0,1,4],
 fun | .L0 E0 E1 v7 v8 v10=>⟨94,[(4,(.bptr 30000000 0)),(5,(.bptr 30000001 0)),(7,(wL Zk v7)),(8,(wO Zo 20000008 v8)),(10,(wI v10))],[(30000000,.box (bx (Zu E0))),(30000001,.box (bx (Za4 E1))),(20000008,wR Zo 2 v8)]⟩,
 fun r=>[],fun r=>(wB r),fun | .L0 E0 E1 v7 v8 v10=>Znh E0 E1 v7 v8 v10⟩
def Zs1(a0:(List Zq))(a1:Zb)(a2:Z0):Option Bool:=Zzz.run (Zzy a0 a1 a2)
theorem Zag3(a0:(List Zq))(a1:Zb)(a2:Z0){r:Bool}(h:Zs1 a0 a1 a2=some r):Fn PR 5 [(wL Zad a0),(wA (Zu a1)),(wA (Za4 a2))] (wB r):=Zzz.fn h
inductive Zc2 where
 | L0 (E0:Zb) (E1:Z0) (v7:(List Za)) (v8:Int)
 | L1 (E0:Zb) (E1:Z0) (v7:(List Za)) (v8:Int) (E2:Zl) (v10:Int)
 | L2 (E0:Zb) (E1:Z0) (v7:(List Za)) (v11:Int)
 | L3 (E0:Zb) (E1:Z0) (v7:(List Za)) (v11:Int) (v12:Int)
def Zl3(E0:Zb)(E1:Z0)(v7:(List Za))(v8:Int):LT Zc2 Bool:=
.len Zs E0.Objects<|.cs (decide (v8 < (E0.Objects.length:Int))) (.k3 0<|.len Zk v7<|.k2 0<|.br (decide (v8 < (v7.length:Int))) (.idx Zs E0.Objects v8 fun x5=>.lb 1009<|.cs (x5.Zone != 0) (.k8 2<|.b8 true<|.b2 true<|.kn [0]<|.g0 (.L0 E0 E1 v7 (IntKind.wrap .i64 (v8+1))))<|.k3 2<|.idx Zk v7 v8 fun x10=>.k3 2<|.call (Z0c x10.Keys 2048) fun x12=>.k2 2<|.cs (!x12) (.k8 3<|.k2 3<|.kn [0]<|.g0 (.L0 E0 E1 v7 (IntKind.wrap .i64 (v8+1))))<|.k3 3<|.ag Zk x10 3<|.k5 3<|.k2 3<|.br (x10.Control==E1.Ctx.You) (.g0 (.L0 E0 E1 v7 (IntKind.wrap .i64 (v8+1))))<|.go (.L1 E0 E1 v7 v8 x5 0) [.relab 1009 30000002])<|.g0 (.L2 E0 E1 v7 0))<|.k5 0<|.kn [0]<|.g0 (.L2 E0 E1 v7 0)
def Zl4(E0:Zb)(E1:Z0)(v7:(List Za))(v8:Int)(E2:Zl)(v10:Int):LT Zc2 Bool:=
.len Z4 E1.Specs<|.br (decide (v10 < (E1.Specs.length:Int))) (.idx Z4 E1.Specs v10 fun x3=>.call (Zm6 E0 v7 E1.Ctx x3 (⟨E2.Id,0⟩:Zf)) fun x5=>.br x5 (.rt false)<|.g0 (.L1 E0 E1 v7 v8 E2 (IntKind.wrap .i64 (v10+1))))<|.g0 (.L0 E0 E1 v7 (IntKind.wrap .i64 (v8+1)))
def Zl5(E0:Zb)(E1:Z0)(v7:(List Za))(v11:Int):LT Zc2 Bool:=
.len Zag E0.Players<|.br (decide (v11 < (E0.Players.length:Int))) (.g0 (.L3 E0 E1 v7 v11 0))<|.call (Zb2) fun x3=>.rt x3
def Zl6(E0:Zb)(E1:Z0)(v7:(List Za))(v11:Int)(v12:Int):LT Zc2 Bool:=
.len Z4 E1.Specs<|.br (decide (v12 < (E1.Specs.length:Int))) (.idx Z4 E1.Specs v12 fun x3=>.call (Zm6 E0 v7 E1.Ctx x3 (⟨0,v11⟩:Zf)) fun x5=>.ag Z4 x3 0<|.cs x3.Player (.k4 1<|.idx Zag E0.Players v11 fun x8=>.k4 1<|.br (!(x5==(!x8.Lost))) (.rt false)<|.g0 (.L3 E0 E1 v7 v11 (IntKind.wrap .i64 (v12+1))))<|.k8 1<|.br (!(x5==false)) (.rt false)<|.g0 (.L3 E0 E1 v7 v11 (IntKind.wrap .i64 (v12+1))))<|.g0 (.L2 E0 E1 v7 (IntKind.wrap .i64 (v11+1)))
def Zxu(a0:(List Zq))(a1:Zb)(a2:Z0):LT Zc2 Bool:=
.lb 1004<|.lb 1005<|.call (Zm1 a0 a1) fun x1=>.cs (!x1) (.k4 0<|.kn [0]<|.call (Zb2) fun x4=>.rt x4)<|.k2 0<|.call (Zsd a2) fun x6=>.k2 0<|.br (!x6) (.call (Zb2) fun x9=>.rt x9)<|.call (Zsz a0 a1) fun x11=>.go (.L0 a1 a2 x11 0) [.relab 1004 30000000,.relab 1005 30000001]
def Zxv:LF Zc2 Bool:=⟨6,[.t 6],false,fun | .L0 .. => [1,1,1,0,1,4] | .L1 .. => [1,1,1,0,1,4,5,1,0,4,1,1,1,4] | .L2 .. => [1,1,1,1,0,1,4] | .L3 .. => [1,1,1,1,0,1,4,5,1,0,4,1,4],
 fun | .L0 E0 E1 v7 v8=>⟨130,[(4,(.bptr 30000000 0)),(5,(.bptr 30000001 0)),(7,(wL Zk v7)),(8,(wI v8))],[(30000000,.box (bx (Zu E0))),(30000001,.box (bx (Za4 E1)))]⟩ | .L1 E0 E1 v7 v8 E2 v10=>⟨130,[(4,(.bptr 30000000 0)),(5,(.bptr 30000001 0)),(7,(wL Zk v7)),(8,(wI v8)),(9,(.bptr 30000002 0)),(10,(wI v10))],[(30000000,.box (bx (Zu E0))),(30000001,.box (bx (Za4 E1))),(30000002,.box (bx (Zs E2)))]⟩ | .L2 E0 E1 v7 v11=>⟨130,[(4,(.bptr 30000000 0)),(5,(.bptr 30000001 0)),(7,(wL Zk v7)),(11,(wI v11))],[(30000000,.box (bx (Zu E0))),(30000001,.box (bx (Za4 E1)))]⟩ | .L3 E0 E1 v7 v11 v12=>⟨130,[(4,(.bptr 30000000 0)),(5,(.bptr 30000001 0)),(7,(wL Zk v7)),(11,(wI v11)),(12,(wI v12))],[(30000000,.box (bx (Zu E0))),(30000001,.box (bx (Za4 E1)))]⟩,
 fun r=>[],fun r=>(wB r),fun | .L0 E0 E1 v7 v8=>Zl3 E0 E1 v7 v8 | .L1 E0 E1 v7 v8 E2 v10=>Zl4 E0 E1 v7 v8 E2 v10 | .L2 E0 E1 v7 v11=>Zl5 E0 E1 v7 v11 | .L3 E0 E1 v7 v11 v12=>Zl6 E0 E1 v7 v11 v12⟩
def Zqv(a0:(List Zq))(a1:Zb)(a2:Z0):Option Bool:=Zxv.run (Zxu a0 a1 a2)
theorem Zads(a0:(List Zq))(a1:Zb)(a2:Z0){r:Bool}(h:Zqv a0 a1 a2=some r):Fn PR 6 [(wL Zad a0),(wA (Zu a1)),(wA (Za4 a2))] (wB r):=Zxv.fn h
def Zag4(a0:(List Int)):LT Empty (List Int):=
.apN (cI .i64) 1006 8 a0 fun x1=>.ret x1 [.relab 1006 5000]
def Zag5:LF Empty (List Int) := .z 45 [.t 2] true (fun r=>[(5000,wR (cI .i64) 1 r)]) (fun r=>(wO (cI .i64) 5000 r))
def Z0e(a0:(List Int)):Option (List Int):=Zag5.run (Zag4 a0)
theorem Z81(a0:(List Int)){r:(List Int)}(h:Z0e a0=some r):FnG PR 45 [] [(wL (cI .i64) a0)] [(5000,wR (cI .i64) 1 r)] (wO (cI .i64) 5000 r):=Zag5.fn h
theorem Zaz8(a0:(List Int)){r:(List Int)}(h:Z0e a0=some r):Fn PR 45 [(wL (cI .i64) a0)] (wL (cI .i64) r):=
 FnG.frozen (C:=LT.RL (cI .i64) r∧True) (Z81 a0 h) ⟨rfl,trivial⟩ (by kernel_rfl)
inductive Zxw where
 | L0 (v0:(List (List Int))) (E0:Zg) (v4:Int)
def Zaav(v0:(List (List Int)))(E0:Zg)(v4:Int):LT Zxw Zg:=
.len (cL (cI .i64)) v0<|.br (decide (v4 < (v0.length:Int))) (.idx (cL (cI .i64)) v0 v4 fun x3=>.call (Zaz8 x3) fun x5=>.dr [.lit]<|.apR (cL (cI .i64)) 24 E0.Answers [x5] fun x8=>.g0 (.L0 v0 (⟨x8,E0.Choice,E0.Waits,E0.Wrong,E0.N⟩:Zg) (IntKind.wrap .i64 (v4+1))))<|.rl (cL (cI .i64)) E0.Answers<|.rl Zh E0.Choice.Options<|.ret E0 [.frz 40000000,.frz 40000007,.relab 30000000 5000]
def Zazg(a0:(List (List Int))):LT Zxw Zg:=
.lb 1006<|.go (.L0 a0 (⟨([]:(List (List Int))),(⟨0,0,0,0,0,0,([]:(List Zi))⟩:Zm),false,false,0⟩:Zg) 0) [.relab 1006 30000000,.ownb 30000000 0 40000000 1,.ownb 30000000 7 40000007 3]
def Zazh:LF Zxw Zg:=⟨23,[.t 2],true,fun | .L0 .. => [1,1,0,1,4],
 fun | .L0 v0 E0 v4=>⟨28,[(0,(wL (cL (cI .i64)) v0)),(3,(.bptr 30000000 0)),(4,(wI v4))],[(30000000,.box [(wO (cL (cI .i64)) 40000000 E0.Answers),(wI E0.Choice.Kind),(wI E0.Choice.Player),(wI E0.Choice.Source),(wI E0.Choice.Least),(wI E0.Choice.Most),(wI E0.Choice.N),(wO Zh 40000007 E0.Choice.Options),(wB E0.Waits),(wB E0.Wrong),(wI E0.N)]),(40000000,wR (cL (cI .i64)) 1 E0.Answers),(40000007,wR Zh 3 E0.Choice.Options)]⟩,
 fun r=>[(5000,.box (bx (Zai r)))],fun r=>(.bptr 5000 0),fun | .L0 v0 E0 v4=>Zaav v0 E0 v4⟩
def Zav8(a0:(List (List Int))):Option Zg:=Zazh.run (Zazg a0)
theorem Za79(a0:(List (List Int))){r:Zg}(h:Zav8 a0=some r):FnG PR 23 [] [(wL (cL (cI .i64)) a0)] [(5000,.box (bx (Zai r)))] (.bptr 5000 0):=Zazh.fn h
def Zag6(a0:Int):LT Empty Bool:=
.cs (a0==1) (.k3 0<|.b8 true<|.kb true<|.rt true)<|.k3 0<|.cs (a0==2) (.k3 1<|.b5 true<|.kb true<|.rt true)<|.k3 1<|.cs (a0==9) (.k3 2<|.b3 true<|.rt true)<|.k3 2<|.cs (a0==10) (.k3 3<|.rt true)<|.k3 3<|.rt (a0==11)
def Zag7:LF Empty Bool := .z 128 [.t 2] false (fun r=>[]) (fun r=>(wB r))
def Zaaw(a0:Int):Option Bool:=Zag7.run (Zag6 a0)
theorem Zyo(a0:Int){r:Bool}(h:Zaaw a0=some r):Fn PR 128 [(wI a0)] (wB r):=Zag7.fn h
inductive Zni where
 | L0 (E0:Zm) (v3:Int) (v23:Int) (v24:Bool)
def Zlh(E0:Zm)(v3:Int)(v23:Int)(v24:Bool):LT Zni Bool:=
.br v24 (.rt (v3==0))<|.br (v23==3) (.cs (E0.Least==E0.Most) (.k4 2<|.cs (E0.Least==0) (.k4 3<|.kg 2<|.kg 3<|.kg 2<|.rt true)<|.k4 3<|.kg 2<|.kg 3<|.kg 2<|.rt (E0.Least==v3))<|.k5 2<|.kg 2<|.rt false)<|.br (v23==5) (.rt (E0.Least==E0.Most))<|.rt true
def Zag8(a0:Zm):LT Zni Bool:=
.lb 1001<|.len Zh a0.Options<|.call (Zyo a0.Kind) fun x2=>.cs x2 (.k4 0<|.b4 true<|.kn [0]<|.rt (decide ((a0.Options.length:Int)≤1)))<|.k4 0<|.cs (a0.Kind==4) (.k4 1<|.kn [0]<|.rt (decide ((a0.Options.length:Int)≤1)))<|.k4 1<|.br (a0.Kind==8) (.rt (decide ((a0.Options.length:Int)≤1)))<|.br (a0.Kind==6) (.jn 0 (.L0 a0 (a0.Options.length:Int) a0.Kind (a0.Kind==6)) [.relab 1001 30000000] (Zlh a0 (a0.Options.length:Int) a0.Kind (a0.Kind==6)))<|.jn 0 (.L0 a0 (a0.Options.length:Int) a0.Kind (a0.Kind==7)) [.relab 1001 30000000] (Zlh a0 (a0.Options.length:Int) a0.Kind (a0.Kind==7))
def Zag9:LF Zni Bool:=⟨79,[.t 2],false,fun | .L0 .. => [1,1,1,0,1,4,1],
 fun | .L0 E0 v3 v23 v24=>⟨54,[(1,(.bptr 30000000 0)),(3,(wI v3)),(23,(wI v23)),(24,(wB v24))],[(30000000,.box (bx (Zay E0)))]⟩,
 fun r=>[],fun r=>(wB r),fun | .L0 E0 v3 v23 v24=>Zlh E0 v3 v23 v24⟩
def Zaax(a0:Zm):Option Bool:=Zag9.run (Zag8 a0)
theorem Zaz9(a0:Zm){r:Bool}(h:Zaax a0=some r):Fn PR 79 [(wA (Zay a0))] (wB r):=Zag9.fn h
inductive Zpz where
 | L0 (v0:Int) (v3:(List Int)) (v4:Int)
def Z26(v0:Int)(v3:(List Int))(v4:Int):LT Zpz (List Int):=
.br (decide (v4 < v0)) (.dr [.lit]<|.apR (cI .i64) 8 v3 [v4] fun x3=>.g0 (.L0 v0 x3 (IntKind.wrap .i64 (v4+1))))<|.ret v3 [.relab 20000003 5000]
def Zal3(a0:Int):LT Zpz (List Int):=
.go (.L0 a0 ([]:(List Int)) 0) [.own 3 20000003 1]
def Zal4:LF Zpz (List Int):=⟨129,[.t 2],true,fun | .L0 .. => [1,1,0,1,4],
 fun | .L0 v0 v3 v4=>⟨15,[(0,(wI v0)),(3,(wO (cI .i64) 20000003 v3)),(4,(wI v4))],[(20000003,wR (cI .i64) 1 v3)]⟩,
 fun r=>[(5000,wR (cI .i64) 1 r)],fun r=>(wO (cI .i64) 5000 r),fun | .L0 v0 v3 v4=>Z26 v0 v3 v4⟩
def Zaha(a0:Int):Option (List Int):=Zal4.run (Zal3 a0)
theorem Zac5(a0:Int){r:(List Int)}(h:Zaha a0=some r):FnG PR 129 [] [(wI a0)] [(5000,wR (cI .i64) 1 r)] (wO (cI .i64) 5000 r):=Zal4.fn h
def Zac6(a0:Zm):LT Empty (List Int):=
.lb 1001<|.len Zh a0.Options<|.call (Zyo a0.Kind) fun x2=>.br x2 (.lb 1011<|.ret [0] [.relab 1011 5000])<|.br (a0.Kind==3) (.callF (Zac5 (Zt8 (Zrp a0.Least 0) (a0.Options.length:Int))) 220000 fun x7=>.ret x7 [.relab 225000 5000])<|.br (a0.Kind==4) (.callF (Zac5 (a0.Options.length:Int)) 260000 fun x10=>.ret x10 [.relab 265000 5000])<|.br (a0.Kind==5) (.lb 1030<|.ret [a0.Least] [.relab 1030 5000])<|.br (a0.Kind==8) (.mk (cI .i64) 1034 8 0 (a0.Options.length:Int) (a0.Options.length:Int) fun x15=>.br (decide ((a0.Options.length:Int) > 0)) (.idxR (cI .i64) x15 0 fun x18=>.setR (cI .i64) x15 0 x18 a0.N 2 0 [(.int .i64 a0.N)] rfl fun x20=>.dr [.ahead 41,.relen 1034,.stop]<|.us [3]<|.us [3]<|.us [3]<|.us [3]<|.ret x20 [.relab 1034 5000])<|.ret x15 [.relab 1034 5000])<|.ret ([]:(List Int)) [.own 2 5000 1]
def Zac7:LF Empty (List Int) := .z 80 [.t 2] true (fun r=>[(5000,wR (cI .i64) 1 r)]) (fun r=>(wO (cI .i64) 5000 r))
def Z68(a0:Zm):Option (List Int):=Zac7.run (Zac6 a0)
theorem Zh6(a0:Zm){r:(List Int)}(h:Z68 a0=some r):FnG PR 80 [] [(wA (Zay a0))] [(5000,wR (cI .i64) 1 r)] (wO (cI .i64) 5000 r):=Zac7.fn h
def Zas7(a0:Zm):LT Empty Zm:=
.lb 1001<|.lb 1002<|.apN Zh 1007 24 a0.Options fun x1=>.ret (⟨a0.Kind,a0.Player,a0.Source,a0.Least,a0.Most,a0.N,x1⟩:Zm) [.relab 1007 5006]
def Zas8:LF Empty Zm := .z 81 [.c 2 111 true 7] true (fun r=>[(5006,wR Zh 3 r.Options)]) (fun r=>(.agg [(wI r.Kind),(wI r.Player),(wI r.Source),(wI r.Least),(wI r.Most),(wI r.N),(wO Zh 5006 r.Options)]))
def Zaay(a0:Zm):Option Zm:=Zas8.run (Zas7 a0)
theorem Zahb(a0:Zm){r:Zm}(h:Zaay a0=some r):FnG PR 81 [] [(wA (Zay a0))] [(5006,wR Zh 3 r.Options)] (.agg [(wI r.Kind),(wI r.Player),(wI r.Source),(wI r.Least),(wI r.Most),(wI r.N),(wO Zh 5006 r.Options)]):=Zas8.fn h
theorem Za8a(a0:Zm){r:Zm}(h:Zaay a0=some r):Fn PR 81 [(wA (Zay a0))] (wA (Zay r)):=
 FnG.frozen (C:=LT.RL Zh r.Options∧True) (Zahb a0 h) ⟨rfl,trivial⟩ (by kernel_rfl)
inductive Zhv where
 | L0 (v0:(List Int)) (v1:Int) (v5:Int)
 | L1 (v0:(List Int)) (v1:Int) (v5:Int) (v6:Int)
def Zva(v0:(List Int))(v1:Int)(v5:Int):LT Zhv Bool:=
.len (cI .i64) v0<|.br (decide (v5 < (v0.length:Int))) (.idx (cI .i64) v0 v5 fun x3=>.cs (decide (x3 < 0)) (.k5 1<|.k2 1<|.kn [0]<|.rt false)<|.k3 1<|.ag (cI .i64) x3 0<|.k4 1<|.br (decide (x3≥v1)) (.rt false)<|.g0 (.L1 v0 v1 v5 0))<|.rt true
def Zvb(v0:(List Int))(v1:Int)(v5:Int)(v6:Int):LT Zhv Bool:=
.br (decide (v6 < v5)) (.idx (cI .i64) v0 v6 fun x2=>.idx (cI .i64) v0 v5 fun x4=>.br (x2==x4) (.rt false)<|.g0 (.L1 v0 v1 v5 (IntKind.wrap .i64 (v6+1))))<|.g0 (.L0 v0 v1 (IntKind.wrap .i64 (v5+1)))
def Zac8(a0:(List Int))(a1:Int):LT Zhv Bool:=
.g0 (.L0 a0 a1 0)
def Zac9:LF Zhv Bool:=⟨130,[.t 4],false,fun | .L0 .. => [1,0,1,4] | .L1 .. => [1,0,1,4,5,1,0,4,1,1,4],
 fun | .L0 v0 v1 v5=>⟨40,[(0,(wL (cI .i64) v0)),(1,(wI v1)),(5,(wI v5))],[]⟩ | .L1 v0 v1 v5 v6=>⟨40,[(0,(wL (cI .i64) v0)),(1,(wI v1)),(5,(wI v5)),(6,(wI v6))],[]⟩,
 fun r=>[],fun r=>(wB r),fun | .L0 v0 v1 v5=>Zva v0 v1 v5 | .L1 v0 v1 v5 v6=>Zvb v0 v1 v5 v6⟩
def Z69(a0:(List Int))(a1:Int):Option Bool:=Zac9.run (Zac8 a0 a1)
theorem Zob(a0:(List Int))(a1:Int){r:Bool}(h:Z69 a0 a1=some r):Fn PR 130 [(wL (cI .i64) a0),(wI a1)] (wB r):=Zac9.fn h
inductive Zlz where
 | L0 (v1:(List Int)) (E0:Zm) (v5:Int)
 | L1 (v1:(List Int)) (E0:Zm) (v5:Int) (v6:Int)
def Z27(v1:(List Int))(E0:Zm)(v5:Int):LT Zlz Bool:=
.len (cI .i64) v1<|.br (decide (v5 < (v1.length:Int))) (.g0 (.L1 v1 E0 v5 0))<|.rt true
def Z28(v1:(List Int))(E0:Zm)(v5:Int)(v6:Int):LT Zlz Bool:=
.br (decide (v6 < v5)) (.idx (cI .i64) v1 v6 fun x2=>.idx Zh E0.Options x2 fun x4=>.idx (cI .i64) v1 v5 fun x6=>.idx Zh E0.Options x6 fun x8=>.br (x4.A==x8.A) (.rt false)<|.g0 (.L1 v1 E0 v5 (IntKind.wrap .i64 (v6+1))))<|.g0 (.L0 v1 E0 (IntKind.wrap .i64 (v5+1)))
def Zal5(a0:Zm)(a1:(List Int)):LT Zlz Bool:=
.lb 1002<|.go (.L0 a1 a0 0) [.relab 1002 30000000]
def Zal6:LF Zlz Bool:=⟨131,[.t 4],false,fun | .L0 .. => [1,0,1,4] | .L1 .. => [1,0,1,4,5,1,0,4,1,4],
 fun | .L0 v1 E0 v5=>⟨37,[(1,(wL (cI .i64) v1)),(2,(.bptr 30000000 0)),(5,(wI v5))],[(30000000,.box (bx (Zay E0)))]⟩ | .L1 v1 E0 v5 v6=>⟨37,[(1,(wL (cI .i64) v1)),(2,(.bptr 30000000 0)),(5,(wI v5)),(6,(wI v6))],[(30000000,.box (bx (Zay E0)))]⟩,
 fun r=>[],fun r=>(wB r),fun | .L0 v1 E0 v5=>Z27 v1 E0 v5 | .L1 v1 E0 v5 v6=>Z28 v1 E0 v5 v6⟩
def Zahc(a0:Zm)(a1:(List Int)):Option Bool:=Zal6.run (Zal5 a0 a1)
theorem Za5q(a0:Zm)(a1:(List Int)){r:Bool}(h:Zahc a0 a1=some r):Fn PR 131 [(wA (Zay a0)),(wL (cI .i64) a1)] (wB r):=Zal6.fn h
inductive Zl0 where
 | L0 (v1:(List Int)) (E0:Zm) (v5:Int) (v26:Int) (v78:Bool)
 | L1 (v1:(List Int)) (E0:Zm) (v5:Int) (v6:Int) (v7:Int)
def Znj(v1:(List Int))(E0:Zm)(v5:Int)(v26:Int)(v78:Bool):LT Zl0 Bool:=
.br v78 (.call (Zob v1 v5) fun x2=>.cs x2 (.k3 1<|.call (Za5q E0 v1) fun x5=>.kg 1<|.rt x5)<|.k4 1<|.rt false)<|.br (v26==8) (.g0 (.L1 v1 E0 v5 0 0))<|.rt false
def Z29(v1:(List Int))(E0:Zm)(v5:Int)(v6:Int)(v7:Int):LT Zl0 Bool:=
.len (cI .i64) v1<|.br (decide (v7 < (v1.length:Int))) (.idx (cI .i64) v1 v7 fun x3=>.cs (decide (x3 < 0)) (.k5 1<|.kg 1<|.kn [0]<|.rt false)<|.k3 1<|.ag (cI .i64) x3 0<|.k3 1<|.br (decide (x3 > 1000000)) (.rt false)<|.ag (cI .i64) x3 0<|.g0 (.L1 v1 E0 v5 (IntKind.wrap .i64 (v6+x3)) (IntKind.wrap .i64 (v7+1))))<|.len (cI .i64) v1<|.cs ((v1.length:Int)==v5) (.k5 1<|.rt (v6==E0.N))<|.k5 1<|.rt false
def Zal7(a0:Zm)(a1:(List Int)):LT Zl0 Bool:=
.lb 1002<|.len Zh a0.Options<|.len (cI .i64) a1<|.br (decide ((a1.length:Int) > 256)) (.rt false)<|.call (Zyo a0.Kind) fun x4=>.br x4 (.len (cI .i64) a1<|.cs ((a1.length:Int)==1) (.k3 2<|.call (Zob a1 (a0.Options.length:Int)) fun x8=>.kg 2<|.rt x8)<|.k4 2<|.rt false)<|.br (a0.Kind==3) (.call (Zob a1 (a0.Options.length:Int)) fun x11=>.cs x11 (.k2 3<|.len (cI .i64) a1<|.k4 3<|.cs (decide ((a1.length:Int)≥a0.Least)) (.k2 4<|.len (cI .i64) a1<|.k4 4<|.rt (decide ((a1.length:Int)≤a0.Most)))<|.k5 4<|.kg 4<|.rt false)<|.k5 3<|.kg 3<|.b5 false<|.kb false<|.rt false)<|.br (a0.Kind==4) (.call (Zob a1 (a0.Options.length:Int)) fun x16=>.cs x16 (.k2 4<|.len (cI .i64) a1<|.k3 4<|.rt ((a1.length:Int)==(a0.Options.length:Int)))<|.k5 4<|.rt false)<|.br (a0.Kind==5) (.len (cI .i64) a1<|.cs ((a1.length:Int)==1) (.k2 5<|.idx (cI .i64) a1 0 fun x21=>.k5 5<|.cs (decide (x21≥a0.Least)) (.k2 6<|.ag (cI .i64) x21 0<|.k5 6<|.rt (decide (x21≤a0.Most)))<|.k5 6<|.k2 6<|.rt false)<|.k5 5<|.k2 5<|.b5 false<|.b2 false<|.rt false)<|.br (a0.Kind==6) (.jn 0 (.L0 a1 a0 (a0.Options.length:Int) a0.Kind (a0.Kind==6)) [.relab 1002 30000000] (Znj a1 a0 (a0.Options.length:Int) a0.Kind (a0.Kind==6)))<|.jn 0 (.L0 a1 a0 (a0.Options.length:Int) a0.Kind (a0.Kind==7)) [.relab 1002 30000000] (Znj a1 a0 (a0.Options.length:Int) a0.Kind (a0.Kind==7))
def Zal8:LF Zl0 Bool:=⟨82,[.t 4],false,fun | .L0 .. => [1,1,1,1,0,1,4,1,3,1,3,1,3,1] | .L1 .. => [1,1,1,1,0,1,4,1,3,1,3,1,3,1,3,1,2,1,0,1,4],
 fun | .L0 v1 E0 v5 v26 v78=>⟨125,[(1,(wL (cI .i64) v1)),(2,(.bptr 30000000 0)),(5,(wI v5)),(26,(wI v26)),(78,(wB v78))],[(30000000,.box (bx (Zay E0)))]⟩ | .L1 v1 E0 v5 v6 v7=>⟨125,[(1,(wL (cI .i64) v1)),(2,(.bptr 30000000 0)),(5,(wI v5)),(6,(wI v6)),(7,(wI v7))],[(30000000,.box (bx (Zay E0)))]⟩,
 fun r=>[],fun r=>(wB r),fun | .L0 v1 E0 v5 v26 v78=>Znj v1 E0 v5 v26 v78 | .L1 v1 E0 v5 v6 v7=>Z29 v1 E0 v5 v6 v7⟩
def Zahd(a0:Zm)(a1:(List Int)):Option Bool:=Zal8.run (Zal7 a0 a1)
theorem Za5r(a0:Zm)(a1:(List Int)){r:Bool}(h:Zahd a0 a1=some r):Fn PR 82 [(wA (Zay a0)),(wL (cI .i64) a1)] (wB r):=Zal8.fn h
def Znk(b0:Zg)(a1:Zm):LT Empty ((List Int)×Zg):=
.lb 1003<|.b2 false<|.call (Zaz9 a1) fun x1=>.kb false<|.cs x1 (.k5 0<|.b5 true<|.kn [0]<|.callF (Zh6 a1) 260000 fun x4=>.ret (x4,b0) [.relab 265000 5000])<|.k5 0<|.cs b0.Waits (.k5 1<|.kn [0]<|.callF (Zh6 a1) 260000 fun x7=>.ret (x7,b0) [.relab 265000 5000])<|.k5 1<|.br b0.Wrong (.callF (Zh6 a1) 260000 fun x10=>.ret (x10,b0) [.relab 265000 5000])<|.len (cL (cI .i64)) b0.Answers<|.br (decide (b0.N≥(b0.Answers.length:Int))) (.call (Za8a a1) fun x14=>.callF (Zh6 a1) 460000 fun x16=>.ret (x16,(⟨b0.Answers,x14,true,b0.Wrong,b0.N⟩:Zg)) [.relab 465000 5000])<|.idx (cL (cI .i64)) b0.Answers b0.N fun x18=>.call (Za5r a1 x18) fun x22=>.br (!x22) (.callF (Zh6 a1) 730000 fun x25=>.ret (x25,(⟨b0.Answers,b0.Choice,b0.Waits,true,IntKind.wrap .i64 (b0.N+1)⟩:Zg)) [.relab 735000 5000])<|.callF (Z81 x18) 750000 fun x27=>.ret (x27,(⟨b0.Answers,b0.Choice,b0.Waits,b0.Wrong,IntKind.wrap .i64 (b0.N+1)⟩:Zg)) [.relab 755000 5000]
def Znl:LF Empty ((List Int)×Zg) := .z 46 [.t 4] true (fun r=>[(5000,wR (cI .i64) 1 r.1),(0,.box (bx (Zai r.2)))]) (fun r=>(wO (cI .i64) 5000 r.1))
def Zik(b0:Zg)(a1:Zm):Option ((List Int)×Zg):=Znl.run (Znk b0 a1)
theorem Zyp(b0:Zg)(a1:Zm){r:((List Int)×Zg)}(h:Zik b0 a1=some r):FnG PR 46 [(0,.box (bx (Zai b0)))] [(.bptr 0 0),(wA (Zay a1))] [(5000,wR (cI .i64) 1 r.1),(0,.box (bx (Zai r.2)))] (wO (cI .i64) 5000 r.1):=Znl.fn h
inductive Zfb where
 | L0 (c0:Zg) (v2:(List Za)) (v4:(List Zr)) (E1:Zb) (E2:Zj) (v12:(List Zf)) (v13:Int)
 | L1 (c0:Zg) (v2:(List Za)) (v4:(List Zr)) (E1:Zb) (E2:Zj) (v12:(List Zf)) (v13:Int) (E3:Zi)
def Zdr(c0:Zg)(v2:(List Za))(v4:(List Zr))(E1:Zb)(E2:Zj)(v12:(List Zf))(v13:Int)(E3:Zi):LT Zfb ((List Zf)×Bool×Zg):=
.br (E3.Kind==5) (.dr [.lit]<|.apR Zo 16 v12 [(⟨E3.A,0⟩:Zf)] fun x3=>.g0 (.L0 c0 v2 v4 E1 E2 x3 (IntKind.wrap .i64 (v13+1))))<|.dr [.lit]<|.apR Zo 16 v12 [(⟨0,E3.A⟩:Zf)] fun x9=>.g0 (.L0 c0 v2 v4 E1 E2 x9 (IntKind.wrap .i64 (v13+1)))
def Znm(c0:Zg)(v2:(List Za))(v4:(List Zr))(E1:Zb)(E2:Zj)(v12:(List Zf))(v13:Int):LT Zfb ((List Zf)×Bool×Zg):=
.len Z4 v4<|.br (decide (v13 < (v4.length:Int))) (.idx Z4 v4 v13 fun x3=>.call (Zwd E1 v2 E2 x3) fun x5=>.len Zh x5<|.br ((x5.length:Int)==0) (.ret (([]:(List Zf)),false,c0) [.own 10 5000 2])<|.callU (Zyp c0 (⟨2,E2.You,E2.Source,0,0,0,x5⟩:Zm)) [0] 420000 fun x9=>.idx Zh x5 0 fun x11=>.lb 1016<|.lenO (cI .i64) x9.1<|.cs (decide ((x9.1.length:Int) > 0)) (.k2 2<|.idxR (cI .i64) x9.1 0 fun x15=>.kg 2<|.ldR (cI .i64) x9.1 x15 8<|.k2 2<|.cs (decide (x15≥0)) (.k2 3<|.plR (cI .i64) x9.1 0 6<|.kg 3<|.ldR (cI .i64) x9.1 x15 8<|.k2 3<|.len Zh x5<|.k2 3<|.br (decide (x15 < (x5.length:Int))) (.plR (cI .i64) x9.1 0 6<|.ldR (cI .i64) x9.1 x15 8<|.idx Zh x5 x15 fun x19=>.jn 0 (.L1 x9.2 v2 v4 E1 E2 v12 v13 x19) [.relab 1016 30000003] (Zdr x9.2 v2 v4 E1 E2 v12 v13 x19))<|.jn 0 (.L1 x9.2 v2 v4 E1 E2 v12 v13 x11) [.relab 1016 30000003] (Zdr x9.2 v2 v4 E1 E2 v12 v13 x11))<|.k5 3<|.k2 3<|.kn [0]<|.jn 0 (.L1 x9.2 v2 v4 E1 E2 v12 v13 x11) [.relab 1016 30000003] (Zdr x9.2 v2 v4 E1 E2 v12 v13 x11))<|.k5 2<|.b5 false<|.b2 false<|.kn [0]<|.jn 0 (.L1 x9.2 v2 v4 E1 E2 v12 v13 x11) [.relab 1016 30000003] (Zdr x9.2 v2 v4 E1 E2 v12 v13 x11))<|.ret (v12,true,c0) [.relab 20000012 5000]
def Zz0(b0:Zg)(a1:Zb)(a2:(List Za))(a3:Zj)(a4:(List Zr)):LT Zfb ((List Zf)×Bool×Zg):=
.lb 1006<|.lb 1008<|.go (.L0 b0 a2 a4 a1 a3 ([]:(List Zf)) 0) [.relab 1006 30000001,.relab 1008 30000002,.own 12 20000012 2]
def Zz1:LF Zfb ((List Zf)×Bool×Zg):=⟨24,[.t 10,.t 11],true,fun | .L0 .. => [1,1,0,1,4] | .L1 .. => [1,1,0,1,4,5,1,0,4,1,1,1,1,1],
 fun | .L0 c0 v2 v4 E1 E2 v12 v13=>⟨84,[(0,(.bptr 0 0)),(2,(wL Zk v2)),(4,(wL Z4 v4)),(6,(.bptr 30000001 0)),(8,(.bptr 30000002 0)),(12,(wO Zo 20000012 v12)),(13,(wI v13))],[(0,.box (bx (Zai c0))),(30000001,.box (bx (Zu E1))),(30000002,.box (bx (Zao E2))),(20000012,wR Zo 2 v12)]⟩ | .L1 c0 v2 v4 E1 E2 v12 v13 E3=>⟨84,[(0,(.bptr 0 0)),(2,(wL Zk v2)),(4,(wL Z4 v4)),(6,(.bptr 30000001 0)),(8,(.bptr 30000002 0)),(12,(wO Zo 20000012 v12)),(13,(wI v13)),(16,(.bptr 30000003 0))],[(0,.box (bx (Zai c0))),(30000001,.box (bx (Zu E1))),(30000002,.box (bx (Zao E2))),(20000012,wR Zo 2 v12),(30000003,.box (bx (Zh E3)))]⟩,
 fun r=>[(5000,wR Zo 2 r.1),(0,.box (bx (Zai r.2.2)))],fun r=>(.tup [(wO Zo 5000 r.1),(wB r.2.1)]),fun | .L0 c0 v2 v4 E1 E2 v12 v13=>Znm c0 v2 v4 E1 E2 v12 v13 | .L1 c0 v2 v4 E1 E2 v12 v13 E3=>Zdr c0 v2 v4 E1 E2 v12 v13 E3⟩
def Zs2(b0:Zg)(a1:Zb)(a2:(List Za))(a3:Zj)(a4:(List Zr)):Option ((List Zf)×Bool×Zg):=Zz1.run (Zz0 b0 a1 a2 a3 a4)
theorem Zadt(b0:Zg)(a1:Zb)(a2:(List Za))(a3:Zj)(a4:(List Zr)){r:((List Zf)×Bool×Zg)}(h:Zs2 b0 a1 a2 a3 a4=some r):FnG PR 24 [(0,.box (bx (Zai b0)))] [(.bptr 0 0),(wA (Zu a1)),(wL Zk a2),(wA (Zao a3)),(wL Z4 a4)] [(5000,wR Zo 2 r.1),(0,.box (bx (Zai r.2.2)))] (.tup [(wO Zo 5000 r.1),(wB r.2.1)]):=Zz1.fn h
def Zj1(b0:Z6):LT Empty (Zm×Bool):=
.lb 1002<|.b5 false<|.kb false<|.br (!b0.waits) (.ret ((⟨0,0,0,0,0,0,([]:(List Zi))⟩:Zm),false) [.ownb 1002 6 5006 3])<|.lb 1004<|.callF (Zk1 b0.pending.Options) 220000 fun x2=>.ret ((⟨b0.pending.Kind,b0.pending.Player,b0.pending.Source,b0.pending.Least,b0.pending.Most,b0.pending.N,x2⟩:Zm),true) [.relab 225000 5006]
def Zj2(b0:Z6):LF Empty (Zm×Bool) := .z 47 [.c 2 111 true 7,.t 3] true (fun r=>[(5006,wR Zh 3 r.1.Options),(0,.box (bx (Zbk b0)))]) (fun r=>(.tup [(.agg [(wI r.1.Kind),(wI r.1.Player),(wI r.1.Source),(wI r.1.Least),(wI r.1.Most),(wI r.1.N),(wO Zh 5006 r.1.Options)]),(wB r.2)]))
def Zgo(b0:Z6):Option (Zm×Bool):=(Zj2 b0).run (Zj1 b0)
theorem Ztz(b0:Z6){r:(Zm×Bool)}(h:Zgo b0=some r):FnG PR 47 [(0,.box (bx (Zbk b0)))] [(.bptr 0 0)] [(5006,wR Zh 3 r.1.Options),(0,.box (bx (Zbk b0)))] (.tup [(.agg [(wI r.1.Kind),(wI r.1.Player),(wI r.1.Source),(wI r.1.Least),(wI r.1.Most),(wI r.1.N),(wO Zh 5006 r.1.Options)]),(wB r.2)]):=(Zj2 b0).fn h
def Zj3(b0:Zg):LT Empty (Zm×Bool):=
.lb 1002<|.b5 false<|.kb false<|.br (!b0.Waits) (.ret ((⟨0,0,0,0,0,0,([]:(List Zi))⟩:Zm),false) [.ownb 1002 6 5006 3])<|.callF (Zahb b0.Choice) 190000 fun x2=>.ret (x2,true) [.relab 195006 5006]
def Zj4(b0:Zg):LF Empty (Zm×Bool) := .z 48 [.c 2 111 true 7,.t 3] true (fun r=>[(5006,wR Zh 3 r.1.Options),(0,.box (bx (Zai b0)))]) (fun r=>(.tup [(.agg [(wI r.1.Kind),(wI r.1.Player),(wI r.1.Source),(wI r.1.Least),(wI r.1.Most),(wI r.1.N),(wO Zh 5006 r.1.Options)]),(wB r.2)]))
def Zgp(b0:Zg):Option (Zm×Bool):=(Zj4 b0).run (Zj3 b0)
theorem Zt0(b0:Zg){r:(Zm×Bool)}(h:Zgp b0=some r):FnG PR 48 [(0,.box (bx (Zai b0)))] [(.bptr 0 0)] [(5006,wR Zh 3 r.1.Options),(0,.box (bx (Zai b0)))] (.tup [(.agg [(wI r.1.Kind),(wI r.1.Player),(wI r.1.Source),(wI r.1.Least),(wI r.1.Most),(wI r.1.N),(wO Zh 5006 r.1.Options)]),(wB r.2)]):=(Zj4 b0).fn h
def Zog(b0:Z6):LT Empty Bool:=
.b5 true<|.rt b0.bad
def Zoh(b0:Z6):LF Empty Bool := .z 49 [.t 2] true (fun r=>[(0,.box (bx (Zbk b0)))]) (fun r=>(wB r))
def Zjl(b0:Z6):Option Bool:=(Zoh b0).run (Zog b0)
theorem Z0f(b0:Z6){r:Bool}(h:Zjl b0=some r):FnG PR 49 [(0,.box (bx (Zbk b0)))] [(.bptr 0 0)] [(0,.box (bx (Zbk b0)))] (wB r):=(Zoh b0).fn h
def Zoi(b0:Zg):LT Empty Bool:=
.b5 true<|.rt b0.Wrong
def Zoj(b0:Zg):LF Empty Bool := .z 50 [.t 2] true (fun r=>[(0,.box (bx (Zai b0)))]) (fun r=>(wB r))
def Zjm(b0:Zg):Option Bool:=(Zoj b0).run (Zoi b0)
theorem Z0g(b0:Zg){r:Bool}(h:Zjm b0=some r):FnG PR 50 [(0,.box (bx (Zai b0)))] [(.bptr 0 0)] [(0,.box (bx (Zai b0)))] (wB r):=(Zoj b0).fn h
def Znn(b0:Zg):LT Empty Int:=
.kn [0]<|.rt b0.N
def Zno(b0:Zg):LF Empty Int := .z 51 [.t 2] true (fun r=>[(0,.box (bx (Zai b0)))]) (fun r=>(wI r))
def Zil(b0:Zg):Option Int:=(Zno b0).run (Znn b0)
theorem Zyq(b0:Zg){r:Int}(h:Zil b0=some r):FnG PR 51 [(0,.box (bx (Zai b0)))] [(.bptr 0 0)] [(0,.box (bx (Zai b0)))] (wI r):=(Zno b0).fn h
inductive Zew where
 | L0 (c0:Z6) (c1:Zg) (E2:Zm) (E3:Zm) (v9:Int)
def Zim(c0:Z6)(c1:Zg)(E2:Zm)(E3:Zm)(v9:Int):LT Zew (Bool×Z6×Zg):=
.lenO Zh E2.Options<|.br (decide (v9 < (E2.Options.length:Int))) (.idxR Zh E2.Options v9 fun x3=>.ldR Zh E2.Options x3 2<|.idxR Zh E3.Options v9 fun x5=>.ldR Zh E3.Options x5 5<|.br (!(Zar (Zh x3) (Zh x5))) (.rt (false,c0,c1))<|.g0 (.L0 c0 c1 E2 E3 (IntKind.wrap .i64 (v9+1))))<|.cs (E2.Kind==E3.Kind) (.k5 1<|.kg 1<|.cs (E2.Player==E3.Player) (.k5 2<|.kg 2<|.cs (E2.Source==E3.Source) (.k5 3<|.kg 3<|.cs (E2.Least==E3.Least) (.k5 4<|.kg 4<|.cs (E2.Most==E3.Most) (.k5 5<|.kg 5<|.rt ((E2.N==E3.N),c0,c1))<|.k5 5<|.kg 5<|.rt (false,c0,c1))<|.k5 4<|.kg 4<|.b5 false<|.kb false<|.rt (false,c0,c1))<|.k5 3<|.kg 3<|.b8 false<|.b4 false<|.rt (false,c0,c1))<|.k5 2<|.kg 2<|.b16 false<|.b2 false<|.rt (false,c0,c1))<|.k5 1<|.kg 1<|.b16 false<|.b8 false<|.rt (false,c0,c1)
def Zrf(b0:Z6)(b1:Zg):LT Zew (Bool×Z6×Zg):=
.callO (Ztz b0) [0] 130000 (fun x=>[(5006,wR Zh 3 x.1.Options)]) fun x1=>.lb 1005<|.callO (Zt0 b1) [1] 180000 (fun x=>[(5006,wR Zh 3 x.1.Options)]) fun x3=>.lb 1007<|.cs (!(x1.2==x3.2)) (.k5 0<|.kg 0<|.b8 true<|.b5 true<|.kb true<|.kn [0]<|.rt (false,b0,b1))<|.k2 0<|.callO (Z0f b0) [0] 260000 (fun x=>[]) fun x6=>.k2 0<|.callO (Z0g b1) [1] 280000 (fun x=>[]) fun x8=>.k2 0<|.cs (!(x6==x8)) (.k5 1<|.kg 1<|.b8 true<|.kn [0]<|.rt (false,b0,b1))<|.k2 1<|.callO (Zk6 b0) [0] 330000 (fun x=>[]) fun x11=>.k2 1<|.callO (Zyq b1) [1] 350000 (fun x=>[]) fun x13=>.k2 1<|.cs (x11 != x13) (.k8 2<|.kn [0]<|.rt (false,b0,b1))<|.k3 2<|.lenO Zh x1.1.Options<|.k3 2<|.lenO Zh x3.1.Options<|.k2 2<|.br ((x1.1.Options.length:Int) != (x3.1.Options.length:Int)) (.rt (false,b0,b1))<|.go (.L0 b0 b1 x1.1 x3.1 0) [.relab 1005 30000002,.relab 1007 30000003,.relab 135006 40000206,.relab 185006 40000306]
def Zrg:LF Zew (Bool×Z6×Zg):=⟨25,[.t 4],true,fun | .L0 .. => [1,1,1,1,0,1,4],
 fun | .L0 c0 c1 E2 E3 v9=>⟨104,[(0,(.bptr 0 0)),(1,(.bptr 1 0)),(5,(.bptr 30000002 0)),(7,(.bptr 30000003 0)),(9,(wI v9))],[(0,.box (bx (Zbk c0))),(1,.box (bx (Zai c1))),(30000002,.box [(wI E2.Kind),(wI E2.Player),(wI E2.Source),(wI E2.Least),(wI E2.Most),(wI E2.N),(wO Zh 40000206 E2.Options)]),(40000206,wR Zh 3 E2.Options),(30000003,.box [(wI E3.Kind),(wI E3.Player),(wI E3.Source),(wI E3.Least),(wI E3.Most),(wI E3.N),(wO Zh 40000306 E3.Options)]),(40000306,wR Zh 3 E3.Options)]⟩,
 fun r=>[(0,.box (bx (Zbk r.2.1))),(1,.box (bx (Zai r.2.2)))],fun r=>(wB r.1),fun | .L0 c0 c1 E2 E3 v9=>Zim c0 c1 E2 E3 v9⟩
def Zl7(b0:Z6)(b1:Zg):Option (Bool×Z6×Zg):=Zrg.run (Zrf b0 b1)
theorem Z34(b0:Z6)(b1:Zg){r:(Bool×Z6×Zg)}(h:Zl7 b0 b1=some r):FnG PR 25 [(0,.box (bx (Zbk b0))),(1,.box (bx (Zai b1)))] [(.bptr 0 0),(.bptr 1 0)] [(0,.box (bx (Zbk r.2.1))),(1,.box (bx (Zai r.2.2)))] (wB r.1):=Zrg.fn h
def Zxx(a0:(List Zq))(a1:Zb)(a2:Z0):LT Empty Bool:=
.lb 1004<|.lb 1005<|.call (Zm1 a0 a1) fun x1=>.cs (!x1) (.k4 0<|.kn [0]<|.call (Zb2) fun x4=>.rt x4)<|.k2 0<|.call (Zsd a2) fun x6=>.k2 0<|.br (!x6) (.call (Zb2) fun x9=>.rt x9)<|.call (Zsz a0 a1) fun x11=>.callF (Z6j a2.Answers) 300000 fun x13=>.callF (Za79 a2.Answers) 330000 fun x15=>.callU (Zih x13 a1 x11 a2.Ctx a2.Specs) [305000] 420000 fun x17=>.callU (Zadt x15 a1 x11 a2.Ctx a2.Specs) [335000] 530000 fun x19=>.callU (Z34 x17.2.2 x19.2.2) [305000,335000] 580000 fun x21=>.cs x21.1 (.k3 2<|.rl Zo x17.1<|.rl Zo x19.1<|.call (Zu8 x17.1 x19.1) fun x24=>.kg 2<|.cs x24 (.k4 3<|.cs (x17.2.1==x19.2.1) (.kg 4<|.call (Zb2) fun x28=>.kg 4<|.rt x28)<|.k2 4<|.rt false)<|.k4 3<|.b2 false<|.rt false)<|.k4 2<|.b5 false<|.kb false<|.rt false
def Zxy:LF Empty Bool := .z 7 [.t 6] false (fun r=>[]) (fun r=>(wB r))
def Zqw(a0:(List Zq))(a1:Zb)(a2:Z0):Option Bool:=Zxy.run (Zxx a0 a1 a2)
theorem Zadu(a0:(List Zq))(a1:Zb)(a2:Z0){r:Bool}(h:Zqw a0 a1 a2=some r):Fn PR 7 [(wL Zad a0),(wA (Zu a1)),(wA (Za4 a2))] (wB r):=Zxy.fn h
end
end Go.PW
