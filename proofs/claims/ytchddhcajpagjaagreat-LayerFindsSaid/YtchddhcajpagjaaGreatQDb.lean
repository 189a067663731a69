import Derived.Test.YtchddhcajpagjaaGreatQDa
set_option linter.all false
set_option maxRecDepth 100000
namespace Go.PW
open Go.RowKit
noncomputable section
inductive Zn1 where
 | L0 (v0:List Zn) (E0:Zj) (v19:List Ze) (v20:Int) (v21:Int)
def Zwt(v0:List Zn)(E0:Zj)(v19:List Ze)(v20:Int)(v21:Int):LT Zn1 Zj:=
.br (decide (v21 < v20)) (.idx Zk v19 v21 fun x2=>.lb 1007<|.call (Zanf v0 x2) fun x4=>.dr [.lit]<|.apR Zf 176 E0.traits [x4] fun x6=>.g0 (.L0 v0 (⟨E0.s,E0.forces,x6,E0.dropped,E0.done,E0.hits⟩:Zj) v19 v20 (IntKind.wrap .i64 (v21+1))))<|.len Z2 E0.forces<|.mk cB 1045 1 false (E0.forces.length:Int) (E0.forces.length:Int) fun x12=>.len Z2 E0.forces<|.mk (cL (cI .i64)) 1051 24 [] (E0.forces.length:Int) (E0.forces.length:Int) fun x14=>.ret (⟨E0.s,E0.forces,E0.traits,E0.dropped,x12,x14⟩:Zj) [.relab 3000 5000,.relab 40020 5021,.relab 40021 5022,.relab 1045 5023,.relab 1051 5024]
def Zabi(a0:List Zn)(a1:Zl):LT Zn1 Zj:=
.lb 1003<|.call (Z47 a0 a1) fun x1=>.len Zk a1.Objects<|.mk cB 1015 1 false (a1.Objects.length:Int) (a1.Objects.length:Int) fun x4=>.lb 1017<|.len Zk a1.Objects<|.go (.L0 a0 (⟨a1,x1,([]:List Zb),x4,([]:List Bool),([]:List (List Int))⟩:Zj) a1.Objects (a1.Objects.length:Int) 0) [.relab 1017 3000,.ownb 3000 20 40020 17,.relab 1015 40021,.ownb 3000 22 40022 1,.ownb 3000 23 40023 1]
def Zabj:LF Zn1 Zj := .m 34 [.t 4] true (fun r=>[(5000,.box (tm5 r 5000)),(5021,wR Zf 17 r.traits),(5022,wR cB 1 r.dropped),(5023,wR cB 1 r.done),(5024,wR (cL (cI .i64)) 1 r.hits)]) (fun r=>(.bptr 5000 0)) fun | .L0 v0 E0 v19 v20 v21=>([1,1,0,1,4],⟨57,[(0,wL Z4 v0),(5,.bptr 3000 0),(19,wL Zk v19),(20,wI v20),(21,wI v21)],((3000,.box (tm7 E0 40000))::(tm19 E0 40000))⟩,Zwt v0 E0 v19 v20 v21)
def Z6v:=fun a0 a1=>Zabj.run (Zabi a0 a1)
theorem Zang(a0)(a1){r}(h:Z6v a0 a1=some r):FnG PR 34 [] [wL Z4 a0,wA (Zaa a1)] [(5000,.box (tm5 r 5000)),(5021,wR Zf 17 r.traits),(5022,wR cB 1 r.dropped),(5023,wR cB 1 r.done),(5024,wR (cL (cI .i64)) 1 r.hits)] (.bptr 5000 0):=Zabj.fn h
def Z6w(a0:Int):LT Empty Int:=
.rt (minI (maxI a0 (-1000000)) 1000000)
def Zahj:LF Empty Int := .z0 143 [.t 2] wI
def Zyu:=fun a0=>Zahj.run (Z6w a0)
theorem Zez(a0){r}(h:Zyu a0=some r):Fn PR 143 [wI a0] (wI r):=Zahj.fn h
def Zarf(a0:Int)(a1:Int):LT Empty Int:=
.call (Zez a0) fun x1=>.call (Zez a1) fun x3=>.call (Zez (IntKind.wrap .i64 (x1 - x3))) fun x7=>.rt x7
def Zarg:LF Empty Int := .z0 142 [.t 4] wI
def Zape:=fun a0 a1=>Zarg.run (Zarf a0 a1)
theorem Za1v(a0)(a1){r}(h:Zape a0 a1=some r):Fn PR 142 [wI a0,wI a1] (wI r):=Zarg.fn h
def Z48(a0:A3 Int):LT Empty Int:=
.lb 1001<|.idA (Zd.int .i64) (A3.list a0) 0 (bx ((cA3 (cI .i64)) a0)) 0 3 fun x1=>.ldC (Zd.int .i64) 4 x1 0<|.idA (Zd.int .i64) (A3.list a0) 1 (bx ((cA3 (cI .i64)) a0)) 0 3 fun x3=>.ldC (Zd.int .i64) 6 x3 1<|.call (Za1v x1 x3) fun x5=>.rt x5
def Z49:LF Empty Int := .z0 91 [.t 2] wI
def Zzp:=fun a0=>Z49.run (Z48 a0)
theorem Zajn(a0){r}(h:Zzp a0=some r):Fn PR 91 [wA ((cA3 (cI .i64)) a0)] (wI r):=Z49.fn h
def Zadz(a0:Int)(a1:Int):LT Empty Int:=
.call (Zez a0) fun x1=>.call (Zez a1) fun x3=>.call (Zez (IntKind.wrap .i64 (x1+x3))) fun x7=>.rt x7
def Zarh:LF Empty Int := .z0 92 [.t 4] wI
def Z8o:=fun a0 a1=>Zarh.run (Zadz a0 a1)
theorem Zuv(a0)(a1){r}(h:Z8o a0 a1=some r):Fn PR 92 [wI a0,wI a1] (wI r):=Zarh.fn h
inductive Zlq where
 | L0 (v0:Int) (v3:Int) (v6:Bool)
 | L1 (v0:Int) (v3:Int) (v11:Bool)
 | L2 (v0:Int) (v3:Int) (v14:Bool)
def Zmi(v0:Int)(v3:Int)(v14:Bool):LT Zlq Int:=
.br v14 (.rt 4)<|.br (v3==11) (.kn [2]<|.rt (IntKind.wrap .i64 ((IntKind.wrap .i64 (5+v0)) - 11)))<|.br (v3==12) (.kn [3]<|.rt (IntKind.wrap .i64 ((IntKind.wrap .i64 (5+v0)) - 11)))<|.br (v3==13) (.kn [4]<|.rt (IntKind.wrap .i64 ((IntKind.wrap .i64 (5+v0)) - 11)))<|.br (v3==14) (.rt (IntKind.wrap .i64 ((IntKind.wrap .i64 (5+v0)) - 11)))<|.rt 0
def Zpl(v0:Int)(v3:Int)(v11:Bool):LT Zlq Int:=
.br v11 (.rt 3)<|.br (v3==8) (.j0 (.L2 v0 v3 (v3==8)) (Zmi v0 v3 (v3==8)))<|.br (v3==9) (.j0 (.L2 v0 v3 (v3==9)) (Zmi v0 v3 (v3==9)))<|.j0 (.L2 v0 v3 (v3==10)) (Zmi v0 v3 (v3==10))
def Zj9(v0:Int)(v3:Int)(v6:Bool):LT Zlq Int:=
.br v6 (.rt 2)<|.br (v3==6) (.j0 (.L1 v0 v3 (v3==6)) (Zpl v0 v3 (v3==6)))<|.j0 (.L1 v0 v3 (v3==7)) (Zpl v0 v3 (v3==7))
def Zahk(a0:Int):LT Zlq Int:=
.br (a0==1) (.rt 1)<|.br (a0==2) (.j0 (.L0 a0 a0 (a0==2)) (Zj9 a0 a0 (a0==2)))<|.br (a0==3) (.j0 (.L0 a0 a0 (a0==3)) (Zj9 a0 a0 (a0==3)))<|.br (a0==4) (.j0 (.L0 a0 a0 (a0==4)) (Zj9 a0 a0 (a0==4)))<|.j0 (.L0 a0 a0 (a0==5)) (Zj9 a0 a0 (a0==5))
def Zahl:LF Zlq Int := .m0 95 [.t 2] wI fun | .L0 v0 v3 v6=>([1,0,1,4,1,3,1],⟨26,[(0,wI v0),(3,wI v3),(6,wB v6)],[]⟩,Zj9 v0 v3 v6) | .L1 v0 v3 v11=>([1,0,1,4,1,3,1,3,1],⟨26,[(0,wI v0),(3,wI v3),(11,wB v11)],[]⟩,Zpl v0 v3 v11) | .L2 v0 v3 v14=>([1,0,1,4,1,3,1,3,1,3,1],⟨26,[(0,wI v0),(3,wI v3),(14,wB v14)],[]⟩,Zmi v0 v3 v14)
def Zad0:=fun a0=>Zahl.run (Zahk a0)
theorem Zuw(a0){r}(h:Zad0 a0=some r):Fn PR 95 [wI a0] (wI r):=Zahl.fn h
def Zrv(a0:Zi)(b0:Int):LT Empty Bool:=
.lb 1002<|.call (Zuw a0.Kind) fun x1=>.rt (x1==b0)
def Zrw(b0:Int):LF Empty Bool := .z 94 [.t 3] true (fun r=>[(0,.box (bx ((cI .i64) b0)))]) (fun r=>(wB r))
def Znp(a0:Zi)(b0:Int):Option Bool:=(Zrw b0).run (Zrv a0 b0)
theorem Z22(a0:Zi)(b0:Int){r:Bool}(h:Znp a0 b0=some r):FnG PR 94 [(0,.box (bx ((cI .i64) b0)))] [wA (Zm a0),.bptr 0 0] [(0,.box (bx ((cI .i64) b0)))] (wB r):=(Zrw b0).fn h
inductive Zaz where
 | L0 (v0:List Zi) (c0:Int) (v7:Int) (v8:Int)
def Zb3(v0:List Zi)(c0:Int)(v7:Int)(v8:Int):LT Zaz (Int×Int):=
.br (decide (v8 < v7)) (.idx Zm v0 v8 fun x2=>.callO (Z22 x2 c0) [0] 170000 (fun x=>[]) fun x4=>.br x4 (.rt (v8,c0))<|.g0 (.L0 v0 c0 v7 (IntKind.wrap .i64 (v8+1))))<|.rt ((-1),c0)
def Zd2(a0:List Zi)(b0:Int):LT Zaz (Int×Int):=
.len Zm a0<|.g0 (.L0 a0 b0 (a0.length:Int) 0)
def Zd3:LF Zaz (Int×Int) := .m 144 [.t 4] true (fun r=>[(0,.box (bx ((cI .i64) r.2)))]) (fun r=>(wI r.1)) fun | .L0 v0 c0 v7 v8=>([1,0,1,4],⟨19,[(0,wL Zm v0),(1,.fn 94 [.bptr 0 0]),(7,wI v7),(8,wI v8)],[(0,.box (bx ((cI .i64) c0)))]⟩,Zb3 v0 c0 v7 v8)
def Zci:=fun a0 b0=>Zd3.run (Zd2 a0 b0)
theorem Zhm(a0)(b0){r}(h:Zci a0 b0=some r):FnG PR 144 [(0,.box (bx ((cI .i64) b0)))] [wL Zm a0,.fn 94 [.bptr 0 0]] [(0,.box (bx ((cI .i64) r.2)))] (wI r.1):=Zd3.fn h
def Zdv(a0:List Zi)(b0:Int):LT Empty (Bool×Int):=
.callU (Zhm a0 b0) [0] 80000 fun x1=>.rt (decide (x1.1>=0),x1.2)
def Zdw:LF Empty (Bool×Int) := .z 93 [.t 4] true (fun r=>[(0,.box (bx ((cI .i64) r.2)))]) (fun r=>(wB r.1))
def Zb4:=fun a0 b0=>Zdw.run (Zdv a0 b0)
theorem Zhd(a0)(b0){r}(h:Zb4 a0 b0=some r):FnG PR 93 [(0,.box (bx ((cI .i64) b0)))] [wL Zm a0,.fn 94 [.bptr 0 0]] [(0,.box (bx ((cI .i64) r.2)))] (wB r.1):=Zdw.fn h
def Z5a(a0:Zal)(a1:Int):LT Empty Bool:=
.lb 1002<|.lb 1003<|.callU (Zhd a0.Mods a1) [1003] 90000 fun x1=>.rt x1.1
def Z5b:LF Empty Bool := .z0 53 [.t 4] wB
def Zzq:=fun a0 a1=>Z5b.run (Z5a a0 a1)
theorem Zajo(a0)(a1){r}(h:Zzq a0 a1=some r):Fn PR 53 [wA (Z2 a0),wI a1] (wB r):=Z5b.fn h
inductive Zjf where
 | L0 (v1:Int) (E0:Zc) (v5:Bool)
def Zif(v1:Int)(E0:Zc)(v5:Bool):LT Zjf Bool:=
.br (v1==1) (.rt (E0.Who != 0))<|.br (v1==2) (.cs ((Zbf .or .i64 E0.Types E0.NotTypes) != 0) (.k4 2<|.b2 true<|.rt true)<|.k4 2<|.cs (!(E0.Sub==([]:By))) (.k2 3<|.rt true)<|.k2 3<|.rt v5)<|.br (v1==3) (.rt ((Zbf .or .i64 E0.Colors E0.NotColors) != 0))<|.br (v1==4) (.rt (E0.Keys != 0))<|.rt v5
def Z0w(a0:Zc)(a1:Int):LT Zjf Bool:=
.lb 1002<|.cs (a0.Power.Kind != 0) (.k5 0<|.jn 0 (.L0 a1 a0 true) [.relab 1002 3000] (Zif a1 a0 true))<|.k5 0<|.jn 0 (.L0 a1 a0 (a0.Tough.Kind != 0)) [.relab 1002 3000] (Zif a1 a0 (a0.Tough.Kind != 0))
def Z0x:LF Zjf Bool := .m0 150 [.t 4] wB fun | .L0 v1 E0 v5=>([1,1],⟨52,[(1,wI v1),(2,.bptr 3000 0),(5,wB v5)],[(3000,.box (bx (Zo E0)))]⟩,Zif v1 E0 v5)
def Zux:=fun a0 a1=>Z0x.run (Z0w a0 a1)
theorem Zyv(a0)(a1){r}(h:Zux a0 a1=some r):Fn PR 150 [wA (Zo a0),wI a1] (wB r):=Z0x.fn h
def Z23(a0:Int):LT Empty Bool:=
.rt (a0 != a0)
def Z24:LF Empty Bool := .z0 119 [.t 2] wB
def Zwu:=fun a0=>Z24.run (Z23 a0)
theorem Z0y(a0){r}(h:Zwu a0=some r):Fn PR 119 [wI a0] (wB r):=Z24.fn h
def Zyw(a0:Int)(a1:Int):LT Empty Int:=
.call (Z0y a0) fun x1=>.call (Z0y a1) fun x3=>.br x1 (.br x3 (.rt 0)<|.rt (-1))<|.br x3 (.rt 1)<|.br (decide (a0 < a1)) (.rt (-1))<|.br (decide (a0 > a1)) (.rt 1)<|.rt 0
def Zyx:LF Empty Int := .z0 72 [.t 4] wI
def Zs0:=fun a0 a1=>Zyx.run (Zyw a0 a1)
theorem Zab7(a0)(a1){r}(h:Zs0 a0 a1=some r):Fn PR 72 [wI a0,wI a1] (wI r):=Zyx.fn h
def Z5c(a0:Ze)(a1:Int):LT Empty Int:=
.lb 1002<|.call (Zab7 a0.Id a1) fun x1=>.rt x1
def Z5d:LF Empty Int := .z0 71 [.t 4] wI
def Zzr:=fun a0 a1=>Z5d.run (Z5c a0 a1)
theorem Z25(a0)(a1){r}(h:Zzr a0 a1=some r):Fn PR 71 [wA (Zk a0),wI a1] (wI r):=Z5d.fn h
inductive Zag where
 | L0 (v0:List Ze) (v1:Int) (v8:Int) (v9:Int) (v10:Int)
def Zbd(v0:List Ze)(v1:Int)(v8:Int)(v9:Int)(v10:Int):LT Zag (Int×Bool):=
.br (decide (v9 < v10)) (.dc (¬ (1:Int) < 0) rfl<|.idx Zk v0 (IntKind.wrap .i64 (shrI .u64 (IntKind.wrap .u64 (IntKind.wrap .i64 (v9+v10))) 1)) fun x7=>.call (Z25 x7 v1) fun x9=>.br (decide (x9 < 0)) (.g0 (.L0 v0 v1 v8 (IntKind.wrap .i64 ((IntKind.wrap .i64 (shrI .u64 (IntKind.wrap .u64 (IntKind.wrap .i64 (v9+v10))) 1))+1)) v10))<|.g0 (.L0 v0 v1 v8 v9 (IntKind.wrap .i64 (shrI .u64 (IntKind.wrap .u64 (IntKind.wrap .i64 (v9+v10))) 1))))<|.cs (decide (v9 < v8)) (.k4 1<|.idx Zk v0 v9 fun x15=>.k3 1<|.call (Z25 x15 v1) fun x17=>.k2 1<|.rt (v9,x17==0))<|.k8 1<|.kg 1<|.rt (v9,false)
def Zcm(a0:List Ze)(a1:Int):LT Zag (Int×Bool):=
.len Zk a0<|.g0 (.L0 a0 a1 (a0.length:Int) 0 (a0.length:Int))
def Zcn:LF Zag (Int×Bool) := .m0 70 [.t 6,.t 7] (fun r=>(.tup [wI r.1,wB r.2])) fun | .L0 v0 v1 v8 v9 v10=>([1,1,1,0,4],⟨49,[(0,wL Zk v0),(1,wI v1),(2,.fn 71 []),(8,wI v8),(9,wI v9),(10,wI v10)],[]⟩,Zbd v0 v1 v8 v9 v10)
def Zbi:=fun a0 a1=>Zcn.run (Zcm a0 a1)
theorem Zfa(a0)(a1){r}(h:Zbi a0 a1=some r):Fn PR 70 [wL Zk a0,wI a1,.fn 71 []] (.tup [wI r.1,wB r.2]):=Zcn.fn h
def Zabk(a0:Zl)(a1:Int):LT Empty Int:=
.lb 1002<|.call (Zfa a0.Objects a1) fun x1=>.br (!x1.2) (.rt (-1))<|.rt x1.1
def Zabl:LF Empty Int := .z0 42 [.t 4] wI
def Z6x:=fun a0 a1=>Zabl.run (Zabk a0 a1)
theorem Zwv(a0)(a1){r}(h:Z6x a0 a1=some r):Fn PR 42 [wA (Zaa a0),wI a1] (wI r):=Zabl.fn h
inductive Zep where
 | L0 (v0:List Int) (v1:Int) (v7:Int) (v8:Int)
def Zi1(v0:List Int)(v1:Int)(v7:Int)(v8:Int):LT Zep Int:=
.br (decide (v8 < v7)) (.idx (cI .i64) v0 v8 fun x2=>.br (v1==x2) (.rt v8)<|.g0 (.L0 v0 v1 v7 (IntKind.wrap .i64 (v8+1))))<|.rt (-1)
def Zon(a0:List Int)(a1:Int):LT Zep Int:=
.len (cI .i64) a0<|.g0 (.L0 a0 a1 (a0.length:Int) 0)
def Zoo:LF Zep Int := .m0 193 [.t 4] wI fun | .L0 v0 v1 v7 v8=>([1,0,1,4],⟨19,[(0,wL (cI .i64) v0),(1,wI v1),(7,wI v7),(8,wI v8)],[]⟩,Zi1 v0 v1 v7 v8)
def Zkt:=fun a0 a1=>Zoo.run (Zon a0 a1)
theorem Zi2(a0)(a1){r}(h:Zkt a0 a1=some r):Fn PR 193 [wL (cI .i64) a0,wI a1] (wI r):=Zoo.fn h
def Zmj(a0:List Int)(a1:Int):LT Empty Bool:=
.call (Zi2 a0 a1) fun x1=>.rt (decide (x1>=0))
def Zmk:LF Empty Bool := .z0 155 [.t 4] wB
def Zi3:=fun a0 a1=>Zmk.run (Zmj a0 a1)
theorem Zlv(a0)(a1){r}(h:Zi3 a0 a1=some r):Fn PR 155 [wL (cI .i64) a0,wI a1] (wB r):=Zmk.fn h
def Z26(a0:Int)(a1:Int):LT Empty Bool:=
.cs (decide (a0>=0)) (.k4 0<|.rt (decide (a0<=a1)))<|.k4 0<|.rt false
def Z27:LF Empty Bool := .z0 245 [.t 4] wB
def Zww:=fun a0 a1=>Z27.run (Z26 a0 a1)
theorem Zcq(a0)(a1){r}(h:Zww a0 a1=some r):Fn PR 245 [wI a0,wI a1] (wB r):=Z27.fn h
inductive Zti where
 | L0 (v36:List Int) (v37:Int) (v38:Int)
def Znq(v36:List Int)(v37:Int)(v38:Int):LT Zti Bool:=
.br (decide (v38 < v37)) (.idx (cI .u8) v36 v38 fun x2=>.cs (decide (x2 < 97)) (.k3 1<|.b3 true<|.cs (decide (x2 < 48)) (.k2 2<|.kb true<|.kg 2<|.b4 true<|.br (x2 != 45) (.rt false)<|.g0 (.L0 v36 v37 (IntKind.wrap .i64 (v38+1))))<|.k2 2<|.kb true<|.kg 2<|.kb true<|.cs (decide (x2 > 57)) (.k3 3<|.br (x2 != 45) (.rt false)<|.g0 (.L0 v36 v37 (IntKind.wrap .i64 (v38+1))))<|.k3 3<|.kn [0]<|.g0 (.L0 v36 v37 (IntKind.wrap .i64 (v38+1))))<|.k3 1<|.cs (decide (x2 > 122)) (.k3 2<|.cs (decide (x2 < 48)) (.k2 3<|.kg 2<|.kg 3<|.kg 2<|.b3 true<|.br (x2 != 45) (.rt false)<|.g0 (.L0 v36 v37 (IntKind.wrap .i64 (v38+1))))<|.k2 3<|.kg 2<|.kg 3<|.kg 2<|.cs (decide (x2 > 57)) (.k3 4<|.br (x2 != 45) (.rt false)<|.g0 (.L0 v36 v37 (IntKind.wrap .i64 (v38+1))))<|.k3 4<|.kn [0]<|.g0 (.L0 v36 v37 (IntKind.wrap .i64 (v38+1))))<|.k5 2<|.b3 false<|.kn [0]<|.g0 (.L0 v36 v37 (IntKind.wrap .i64 (v38+1))))<|.rt true
def Zad1(a0:By):LT Zti Bool:=
.lenS a0<|.cs ((a0.length:Int)==0) (.k4 0<|.b16 true<|.b2 true<|.kn [0]<|.rt false)<|.k2 0<|.lenS a0<|.k2 0<|.cs (decide ((a0.length:Int) > 32)) (.k4 1<|.b8 true<|.b5 true<|.kb true<|.kn [0]<|.rt false)<|.k2 1<|.idxS a0 0 fun x4=>.k2 1<|.cs (decide ((UInt8.toNat x4:Int) < 97)) (.k4 2<|.b8 true<|.b2 true<|.kn [0]<|.rt false)<|.k2 2<|.idxS a0 0 fun x7=>.k2 2<|.cs (decide ((UInt8.toNat x7:Int) > 122)) (.k5 3<|.k2 3<|.b3 true<|.kn [0]<|.rt false)<|.k3 3<|.lenS a0<|.k2 3<|.idxS a0 (IntKind.wrap .i64 ((a0.length:Int) - 1)) fun x12=>.k2 3<|.cs ((UInt8.toNat x12:Int)==45) (.k3 4<|.kn [0]<|.rt false)<|.k2 4<|.call (Zab5 a0 ([45,45]:By)) fun x15=>.kg 4<|.br x15 (.rt false)<|.bys a0 fun x18=>.len (cI .u8) x18<|.g0 (.L0 x18 (x18.length:Int) 0)
def Zyy:LF Zti Bool := .m0 249 [.t 2] wB fun | .L0 v36 v37 v38=>([1,1,0,1,4],⟨61,[(36,wL (cI .u8) v36),(37,wI v37),(38,wI v38)],[]⟩,Znq v36 v37 v38)
def Z8p:=fun a0=>Zyy.run (Zad1 a0)
theorem Za1w(a0){r}(h:Z8p a0=some r):Fn PR 249 [wS a0] (wB r):=Zyy.fn h
def Z28(a0:Int):LT Empty (By):=
.idX Zd.str (A2.list (⟨([98,97,115,105,99]:By),([117,110,105,113,117,101]:By)⟩:A2 (By))) a0 fun x1=>.rt x1
def Zs1:LF Empty (By) := .z0 251 [.t 2] wS
def Zqi:=fun a0=>Zs1.run (Z28 a0)
theorem Zafu(a0){r}(h:Zqi a0=some r):Fn PR 251 [wI a0] (wS r):=Zs1.fn h
def Z5e(a0:Int):LT Empty (By):=
.idX Zd.str (A6.list (⟨([99,114,101,97,116,117,114,101]:By),([105,110,115,116,97,110,116]:By),([114,105,116,117,97,108]:By),([114,101,108,105,99]:By),([99,104,97,114,109]:By),([108,97,110,100]:By)⟩:A6 (By))) a0 fun x1=>.rt x1
def Zuy:LF Empty (By) := .z0 252 [.t 2] wS
def Zsi:=fun a0=>Zuy.run (Z5e a0)
theorem Zajp(a0){r}(h:Zsi a0=some r):Fn PR 252 [wI a0] (wS r):=Zuy.fn h
inductive Zef where
 | L0 (v0:By) (v8:Int) (v9:Int)
def Zcz(v0:By)(v8:Int)(v9:Int):LT Zef Int:=
.br (decide (v9 < v8)) (.call (Zafu v9) fun x2=>.br (!(x2==v0)) (.g0 (.L0 v0 v8 (IntKind.wrap .i64 (v9+1))))<|.ok (¬ v9 < 0)<|.rt (Z10 .i64 1 v9))<|.rt 0
def Zi4(a0:By)(a1:Int):LT Zef Int:=
.g0 (.L0 a0 a1 0)
def Zi5:LF Zef Int := .m0 250 [.t 6] wI fun | .L0 v0 v8 v9=>([1,6,1,0,1,4],⟨20,[(0,wS v0),(2,.fn 251 []),(8,wI v8),(9,wI v9)],[]⟩,Zcz v0 v8 v9)
def Ze0:=fun a0 a1=>Zi5.run (Zi4 a0 a1)
theorem Zyz(a0)(a1){r}(h:Ze0 a0 a1=some r):Fn PR 250 [wS a0,wI a1,.fn 251 []] (wI r):=Zi5.fn h
inductive Zeq where
 | L0 (v0:By) (v8:Int) (v9:Int)
def Zdc(v0:By)(v8:Int)(v9:Int):LT Zeq Int:=
.br (decide (v9 < v8)) (.call (Zajp v9) fun x2=>.br (!(x2==v0)) (.g0 (.L0 v0 v8 (IntKind.wrap .i64 (v9+1))))<|.ok (¬ v9 < 0)<|.rt (Z10 .i64 1 v9))<|.rt 0
def Zjk(a0:By)(a1:Int):LT Zeq Int:=
.g0 (.L0 a0 a1 0)
def Zjl:LF Zeq Int := .m0 250 [.t 6] wI fun | .L0 v0 v8 v9=>([1,6,1,0,1,4],⟨20,[(0,wS v0),(2,.fn 252 []),(8,wI v8),(9,wI v9)],[]⟩,Zdc v0 v8 v9)
def Zfi:=fun a0 a1=>Zjl.run (Zjk a0 a1)
theorem Zzs(a0)(a1){r}(h:Zfi a0 a1=some r):Fn PR 250 [wS a0,wI a1,.fn 252 []] (wI r):=Zjl.fn h
def Z29(a0:By):LT Empty Bool:=
.call (Za1w a0) fun x1=>.cs x1 (.k2 0<|.call (Zyz a0 2) fun x4=>.k2 0<|.cs (x4==0) (.k2 1<|.call (Zzs a0 6) fun x7=>.k2 1<|.rt (x7==0))<|.k4 1<|.rt false)<|.k4 0<|.b4 false<|.rt false
def Zad2:LF Empty Bool := .z0 204 [.t 2] wB
def Zuz:=fun a0=>Zad2.run (Z29 a0)
theorem Zzt(a0){r}(h:Zuz a0=some r):Fn PR 204 [wS a0] (wB r):=Zad2.fn h
def Z3a(a0:Za):LT Empty Bool:=
.lb 1001<|.call (Zcq a0.Kind 3) fun x1=>.cs x1 (.k3 0<|.call (Zcq a0.N 1000000) fun x4=>.kg 0<|.cs x4 (.k4 1<|.cs (a0.Kind != 0) (.k3 2<|.kg 1<|.kg 2<|.kg 1<|.rt true)<|.k3 2<|.kg 1<|.kg 2<|.kg 1<|.rt (a0.N==0))<|.k5 1<|.kg 1<|.rt false)<|.k4 0<|.b5 false<|.kb false<|.rt false
def Z3b:LF Empty Bool := .z0 246 [.t 2] wB
def Zwx:=fun a0=>Z3b.run (Z3a a0)
theorem Zq5(a0){r}(h:Zwx a0=some r):Fn PR 246 [wA (Zce a0)] (wB r):=Z3b.fn h
inductive Zxl where
 | L0 (E0:Zc)
def Zpm(E0:Zc):LT Zxl Bool:=
.call (Zq5 E0.Power) fun x1=>.cs x1 (.k3 0<|.call (Zq5 E0.Tough) fun x4=>.kg 0<|.cs x4 (.k3 1<|.call (Zq5 E0.Value) fun x7=>.kg 1<|.rt x7)<|.k4 1<|.rt false)<|.k4 0<|.b4 false<|.rt false
def Zahm(a0:Zc):LT Zxl Bool:=
.lb 1001<|.call (Zcq a0.Zone 5) fun x1=>.cs (!x1) (.k5 0<|.b8 true<|.b5 true<|.b2 true<|.kn [0]<|.rt false)<|.k3 0<|.call (Zcq a0.Who 2) fun x4=>.k2 0<|.cs (!x4) (.k5 1<|.b8 true<|.b2 true<|.kn [0]<|.rt false)<|.k3 1<|.call (Zcq a0.Self 2) fun x7=>.k2 1<|.cs (!x7) (.k5 2<|.b5 true<|.kn [0]<|.rt false)<|.k3 2<|.call (Zcq a0.Tap 2) fun x10=>.k2 2<|.cs (!x10) (.k5 3<|.kn [0]<|.rt false)<|.k3 3<|.call (Zcq a0.Keys 131071) fun x13=>.k2 3<|.br (!x13) (.rt false)<|.call (Zcq a0.Types 63) fun x16=>.cs (!x16) (.k5 5<|.b5 true<|.b2 true<|.kn [0]<|.rt false)<|.k3 5<|.call (Zcq a0.NotTypes 63) fun x19=>.k2 5<|.cs (!x19) (.k5 6<|.k2 6<|.kn [0]<|.rt false)<|.k5 6<|.k2 6<|.br ((Zbf .and .i64 a0.Types a0.NotTypes) != 0) (.rt false)<|.call (Zcq a0.Colors 31) fun x23=>.cs (!x23) (.k5 8<|.b5 true<|.b2 true<|.kn [0]<|.rt false)<|.k3 8<|.call (Zcq a0.NotColors 31) fun x26=>.k2 8<|.cs (!x26) (.k5 9<|.k2 9<|.kn [0]<|.rt false)<|.k5 9<|.k2 9<|.br ((Zbf .and .i64 a0.Colors a0.NotColors) != 0) (.rt false)<|.cs (!(a0.Sub==([]:By))) (.k3 11<|.call (Zzt a0.Sub) fun x31=>.k2 11<|.br (!x31) (.rt false)<|.jn 0 (.L0 a0) [.relab 1001 3000] (Zpm a0))<|.k5 11<|.kn [0]<|.jn 0 (.L0 a0) [.relab 1001 3000] (Zpm a0)
def Zrx:LF Zxl Bool := .m0 194 [.t 2] wB fun | .L0 E0=>([1,1,1,1,1],⟨89,[(1,.bptr 3000 0)],[(3000,.box (bx (Zo E0)))]⟩,Zpm E0)
def Z5f:=fun a0=>Zrx.run (Zahm a0)
theorem Zad3(a0){r}(h:Z5f a0=some r):Fn PR 194 [wA (Zo a0)] (wB r):=Zrx.fn h
def Zs2(a0:Int)(a1:Int)(a2:Int):LT Empty Bool:=
.cs (a1==0) (.k5 0<|.b5 true<|.rt ((Zbf .and .i64 a0 a2)==0))<|.k5 0<|.cs ((Zbf .and .i64 a0 a1) != 0) (.k5 1<|.rt ((Zbf .and .i64 a0 a2)==0))<|.k5 1<|.rt false
def Z3c:LF Empty Bool := .z0 195 [.t 6] wB
def Zml:=fun a0 a1 a2=>Z3c.run (Zs2 a0 a1 a2)
theorem Z0z(a0)(a1)(a2){r}(h:Zml a0 a1 a2=some r):Fn PR 195 [wI a0,wI a1,wI a2] (wB r):=Z3c.fn h
def Z6y(a0:Za)(a1:Int):LT Empty Bool:=
.lb 1002<|.br (a0.Kind==0) (.rt true)<|.br (a0.Kind==1) (.rt (decide (a1>=a0.N)))<|.br (a0.Kind==2) (.rt (decide (a1<=a0.N)))<|.br (a0.Kind==3) (.rt (a1==a0.N))<|.rt false
def Zahn:LF Empty Bool := .z0 197 [.t 4] wB
def Zy0:=fun a0 a1=>Zahn.run (Z6y a0 a1)
theorem Zad4(a0)(a1){r}(h:Zy0 a0 a1=some r):Fn PR 197 [wA (Zce a0),wI a1] (wB r):=Zahn.fn h
inductive Zbp where
 | L0 (v0:Bys) (v1:By) (v7:Int) (v8:Int)
def Zbl(v0:Bys)(v1:By)(v7:Int)(v8:Int):LT Zbp Int:=
.br (decide (v8 < v7)) (.idx cS v0 v8 fun x2=>.br (v1==x2) (.rt v8)<|.g0 (.L0 v0 v1 v7 (IntKind.wrap .i64 (v8+1))))<|.rt (-1)
def Zgp(a0:Bys)(a1:By):LT Zbp Int:=
.len cS a0<|.g0 (.L0 a0 a1 (a0.length:Int) 0)
def Zeh:LF Zbp Int := .m0 263 [.t 4] wI fun | .L0 v0 v1 v7 v8=>([1,0,1,4],⟨19,[(0,wL cS v0),(1,wS v1),(7,wI v7),(8,wI v8)],[]⟩,Zbl v0 v1 v7 v8)
def Zey:=fun a0 a1=>Zeh.run (Zgp a0 a1)
theorem Zs3(a0)(a1){r}(h:Zey a0 a1=some r):Fn PR 263 [wL cS a0,wS a1] (wI r):=Zeh.fn h
def Zfl(a0:Bys)(a1:By):LT Empty Bool:=
.call (Zs3 a0 a1) fun x1=>.rt (decide (x1>=0))
def Zjg:LF Empty Bool := .z0 247 [.t 4] wB
def Zd9:=fun a0 a1=>Zjg.run (Zfl a0 a1)
theorem Zqj(a0)(a1){r}(h:Zd9 a0 a1=some r):Fn PR 247 [wL cS a0,wS a1] (wB r):=Zjg.fn h
def Zzu(a0:Zah)(a1:By):LT Empty Bool:=
.lb 1002<|.call (Zqj a0.Subs a1) fun x1=>.rt x1
def Zabm:LF Empty Bool := .z0 198 [.t 4] wB
def Zry:=fun a0 a1=>Zabm.run (Zzu a0 a1)
theorem Z8q(a0)(a1){r}(h:Zry a0 a1=some r):Fn PR 198 [wA (Zh5 a0),wS a1] (wB r):=Zabm.fn h
def Zabn(a0:Int)(a1:Int):LT Empty Bool:=
.rt ((Zbf .and .i64 a0 a1)==a1)
def Zabo:LF Empty Bool := .z0 199 [.t 4] wB
def Zxm:=fun a0 a1=>Zabo.run (Zabn a0 a1)
theorem Z8r(a0)(a1){r}(h:Zxm a0 a1=some r):Fn PR 199 [wI a0,wI a1] (wB r):=Zabo.fn h
def Zad5(a0:Int)(a1:Int):LT Empty Int:=
.call (Zez a0) fun x1=>.call (Zez a1) fun x3=>.call (Zez (IntKind.wrap .i64 (x1*x3))) fun x7=>.rt x7
def Zari:LF Empty Int := .z0 248 [.t 4] wI
def Z8s:=fun a0 a1=>Zari.run (Zad5 a0 a1)
theorem Za1x(a0)(a1){r}(h:Z8s a0 a1=some r):Fn PR 248 [wI a0,wI a1] (wI r):=Zari.fn h
inductive Zpn where
 | L0 (v1:Int) (E0:Zt) (v5:Int) (v14:A5 Int) (v15:Int)
def Zi6(v1:Int)(E0:Zt)(v5:Int)(v14:A5 Int)(v15:Int):LT Zpn Int:=
.br (decide (v15 < 5)) (.idX (Zd.int .i64) (A5.list v14) v15 fun x2=>.g0 (.L0 v1 E0 (IntKind.wrap .i64 (v5+x2)) v14 (IntKind.wrap .i64 (v15+1))))<|.call (Za1x E0.X (maxI 0 v1)) fun x8=>.call (Zuv v5 x8) fun x10=>.rt x10
def Z3d(a0:Zt)(a1:Int):LT Zpn Int:=
.lb 1002<|.call (Zane a0) fun x1=>.br (!x1) (.rt 0)<|.go (.L0 a1 a0 a0.Generic a0.Color 0) [.relab 1002 3000]
def Zu0:LF Zpn Int := .m0 200 [.t 4] wI fun | .L0 v1 E0 v5 v14 v15=>([1,1,1,0,1,4],⟨29,[(1,wI v1),(2,.bptr 3000 0),(5,wI v5),(14,wA ((cA5 (cI .i64)) v14)),(15,wI v15)],[(3000,.box (bx (Zai E0)))]⟩,Zi6 v1 E0 v5 v14 v15)
def Zu1:=fun a0 a1=>Zu0.run (Z3d a0 a1)
theorem Zar0(a0)(a1){r}(h:Zu1 a0 a1=some r):Fn PR 200 [wA (Zai a0),wI a1] (wI r):=Zu0.fn h
def Zmm(a0:Za)(a1:Int)(b0:Bool):LT Empty Bool:=
.lb 1003<|.cs (a0.Kind==0) (.k4 0<|.rt true)<|.k2 0<|.cs b0 (.k3 1<|.call (Zad4 a0 a1) fun x3=>.kg 0<|.kg 1<|.kg 0<|.rt x3)<|.k3 1<|.kg 0<|.kg 1<|.kg 0<|.rt false
def Ztj(b0:Bool):LF Empty Bool := .z 196 [.t 5] true (fun r=>[(0,.box (bx (cB b0)))]) (fun r=>(wB r))
def Zhh(a0:Za)(a1:Int)(b0:Bool):Option Bool:=(Ztj b0).run (Zmm a0 a1 b0)
theorem Zqy(a0:Za)(a1:Int)(b0:Bool){r:Bool}(h:Zhh a0 a1 b0=some r):FnG PR 196 [(0,.box (bx (cB b0)))] [wA (Zce a0),wI a1,.bptr 0 0] [(0,.box (bx (cB b0)))] (wB r):=(Ztj b0).fn h
inductive Zfb where
 | L0 (v3:Int) (E0:Ze) (E1:Zb) (E2:Zc) (E3:Bool) (v30:Bool)
 | L1 (E0:Ze) (E1:Zb) (E2:Zc) (E3:Bool) (v49:Bool)
 | L2 (E0:Ze) (E1:Zb) (E2:Zc) (E3:Bool) (v68:Bool)
 | L3 (E0:Ze) (E1:Zb) (E2:Zc) (E3:Bool) (v88:Bool)
 | L4 (E0:Zb) (E1:Zc) (E2:Bool)
def Zer(E0:Zb)(E1:Zc)(E2:Bool):LT Zfb Bool:=
.callO (Zqy E1.Power E0.Power E2) [3002] 1280000 (fun x=>[]) fun x1=>.cs x1 (.k5 0<|.kg 0<|.callO (Zqy E1.Tough E0.Tough E2) [3002] 1350000 (fun x=>[]) fun x4=>.kg 0<|.cs x4 (.k5 1<|.call (Zar0 E0.Cost 0) fun x7=>.kg 1<|.call (Zad4 E1.Value x7) fun x9=>.kg 1<|.rt x9)<|.k5 1<|.k2 1<|.rt false)<|.k5 0<|.k2 0<|.b5 false<|.b2 false<|.rt false
def Zft(E0:Ze)(E1:Zb)(E2:Zc)(E3:Bool)(v88:Bool):LT Zfb Bool:=
.br v88 (.rt false)<|.cs (E2.Tap==1) (.k4 1<|.br (!E0.Tapped) (.kn [3]<|.rt false)<|.cs (E2.Tap==2) (.k3 3<|.br E0.Tapped (.rt false)<|.jn 0 (.L4 E1 E2 E3) (tm11 3000) (Zer E1 E2 E3))<|.k3 3<|.kn [0]<|.jn 0 (.L4 E1 E2 E3) (tm11 3000) (Zer E1 E2 E3))<|.k4 1<|.kn [0]<|.cs (E2.Tap==2) (.k3 2<|.br E0.Tapped (.rt false)<|.jn 0 (.L4 E1 E2 E3) (tm11 3000) (Zer E1 E2 E3))<|.k3 2<|.kn [0]<|.jn 0 (.L4 E1 E2 E3) (tm11 3000) (Zer E1 E2 E3)
def Zg1(E0:Ze)(E1:Zb)(E2:Zc)(E3:Bool)(v68:Bool):LT Zfb Bool:=
.br v68 (.rt false)<|.cs (!(E2.Sub==([]:By))) (.k5 1<|.call (Z8q E1.Line E2.Sub) fun x3=>.k2 1<|.br (!x3) (.j0 (.L3 E0 E1 E2 E3 (!x3)) (Zft E0 E1 E2 E3 (!x3)))<|.call (Z8r E1.Keys E2.Keys) fun x6=>.j0 (.L3 E0 E1 E2 E3 (!x6)) (Zft E0 E1 E2 E3 (!x6)))<|.k5 1<|.k2 1<|.kn [0]<|.call (Z8r E1.Keys E2.Keys) fun x8=>.j0 (.L3 E0 E1 E2 E3 (!x8)) (Zft E0 E1 E2 E3 (!x8))
def Zd0(E0:Ze)(E1:Zb)(E2:Zc)(E3:Bool)(v49:Bool):LT Zfb Bool:=
.br v49 (.rt false)<|.call (Z0z E1.Line.Types E2.Types E2.NotTypes) fun x2=>.br (!x2) (.j0 (.L2 E0 E1 E2 E3 (!x2)) (Zg1 E0 E1 E2 E3 (!x2)))<|.call (Z0z E1.Colors E2.Colors E2.NotColors) fun x5=>.j0 (.L2 E0 E1 E2 E3 (!x5)) (Zg1 E0 E1 E2 E3 (!x5))
def Zbu(v3:Int)(E0:Ze)(E1:Zb)(E2:Zc)(E3:Bool)(v30:Bool):LT Zfb Bool:=
.br v30 (.rt false)<|.cs (E2.Self==1) (.k5 1<|.br (E0.Id != v3) (.j0 (.L1 E0 E1 E2 E3 (E0.Id != v3)) (Zd0 E0 E1 E2 E3 (E0.Id != v3)))<|.cs (E2.Self==2) (.k5 3<|.j0 (.L1 E0 E1 E2 E3 (E0.Id==v3)) (Zd0 E0 E1 E2 E3 (E0.Id==v3)))<|.k5 3<|.j0 (.L1 E0 E1 E2 E3 false) (Zd0 E0 E1 E2 E3 false))<|.k5 1<|.kn [0]<|.cs (E2.Self==2) (.k5 2<|.j0 (.L1 E0 E1 E2 E3 (E0.Id==v3)) (Zd0 E0 E1 E2 E3 (E0.Id==v3)))<|.k5 2<|.j0 (.L1 E0 E1 E2 E3 false) (Zd0 E0 E1 E2 E3 false)
def Zwy(a0:Ze)(a1:Zb)(a2:Int)(a3:Int)(a4:Zc):LT Zfb Bool:=
.lb 1005<|.lb 1006<|.lb 1009<|.call (Zad3 a4) fun x1=>.cs (!x1) (.k5 0<|.kg 0<|.kn [0]<|.rt false)<|.k5 0<|.kg 0<|.br (a0.Zone != a4.Zone) (.rt false)<|.lb 1011<|.cs (a4.Who==1) (.k5 2<|.br (a1.Control != a2) (.jn 0 (.L0 a3 a0 a1 a4 ((Zbf .and .i64 a1.Line.Types 1) != 0) (a1.Control != a2)) (tm12 1000 3000) (Zbu a3 a0 a1 a4 ((Zbf .and .i64 a1.Line.Types 1) != 0) (a1.Control != a2)))<|.cs (a4.Who==2) (.k5 4<|.jn 0 (.L0 a3 a0 a1 a4 ((Zbf .and .i64 a1.Line.Types 1) != 0) (a1.Control==a2)) (tm12 1000 3000) (Zbu a3 a0 a1 a4 ((Zbf .and .i64 a1.Line.Types 1) != 0) (a1.Control==a2)))<|.k5 4<|.jn 0 (.L0 a3 a0 a1 a4 ((Zbf .and .i64 a1.Line.Types 1) != 0) false) (tm12 1000 3000) (Zbu a3 a0 a1 a4 ((Zbf .and .i64 a1.Line.Types 1) != 0) false))<|.k5 2<|.kn [0]<|.cs (a4.Who==2) (.k5 3<|.jn 0 (.L0 a3 a0 a1 a4 ((Zbf .and .i64 a1.Line.Types 1) != 0) (a1.Control==a2)) (tm12 1000 3000) (Zbu a3 a0 a1 a4 ((Zbf .and .i64 a1.Line.Types 1) != 0) (a1.Control==a2)))<|.k5 3<|.jn 0 (.L0 a3 a0 a1 a4 ((Zbf .and .i64 a1.Line.Types 1) != 0) false) (tm12 1000 3000) (Zbu a3 a0 a1 a4 ((Zbf .and .i64 a1.Line.Types 1) != 0) false)
def Zhn:LF Zfb Bool := .m0 156 [.t 10] wB fun | .L0 v3 E0 E1 E2 E3 v30=>([1,1,1,1,1,0,4,1],⟨144,[(3,wI v3),(5,.bptr 3000 0),(6,.bptr 3001 0),(9,.bptr 3002 0),(12,.fn 195 []),(13,.fn 196 [.bptr 3003 0]),(30,wB v30)],[(3000,.box (bx (Zk E0))),(3001,.box (bx (Zf E1))),(3002,.box (bx (Zo E2))),(3003,.box (bx (cB E3)))]⟩,Zbu v3 E0 E1 E2 E3 v30) | .L1 E0 E1 E2 E3 v49=>([1,1,1,1,1,0,4,1,3,1],⟨144,[(5,.bptr 3000 0),(6,.bptr 3001 0),(9,.bptr 3002 0),(12,.fn 195 []),(13,.fn 196 [.bptr 3003 0]),(49,wB v49)],[(3000,.box (bx (Zk E0))),(3001,.box (bx (Zf E1))),(3002,.box (bx (Zo E2))),(3003,.box (bx (cB E3)))]⟩,Zd0 E0 E1 E2 E3 v49) | .L2 E0 E1 E2 E3 v68=>([1,1,1,1,1,0,4,1,3,1,3,1],⟨144,[(5,.bptr 3000 0),(6,.bptr 3001 0),(9,.bptr 3002 0),(13,.fn 196 [.bptr 3003 0]),(68,wB v68)],[(3000,.box (bx (Zk E0))),(3001,.box (bx (Zf E1))),(3002,.box (bx (Zo E2))),(3003,.box (bx (cB E3)))]⟩,Zg1 E0 E1 E2 E3 v68) | .L3 E0 E1 E2 E3 v88=>([1,1,1,1,1,0,4,1,3,1,3,1,3,1],⟨144,[(5,.bptr 3000 0),(6,.bptr 3001 0),(9,.bptr 3002 0),(13,.fn 196 [.bptr 3003 0]),(88,wB v88)],[(3000,.box (bx (Zk E0))),(3001,.box (bx (Zf E1))),(3002,.box (bx (Zo E2))),(3003,.box (bx (cB E3)))]⟩,Zft E0 E1 E2 E3 v88) | .L4 E0 E1 E2=>([1,1,1,1,1,1],⟨144,[(6,.bptr 3000 0),(9,.bptr 3001 0),(13,.fn 196 [.bptr 3002 0])],[(3000,.box (bx (Zf E0))),(3001,.box (bx (Zo E1))),(3002,.box (bx (cB E2)))]⟩,Zer E0 E1 E2)
def Zpo:=fun a0 a1 a2 a3 a4=>Zhn.run (Zwy a0 a1 a2 a3 a4)
theorem Zu2(a0)(a1)(a2)(a3)(a4){r}(h:Zpo a0 a1 a2 a3 a4=some r):Fn PR 156 [wA (Zk a0),wA (Zf a1),wI a2,wI a3,wA (Zo a4)] (wB r):=Zhn.fn h
inductive Zu3 where
 | L0 (v1:List Zb) (v2:Int) (v3:Int) (E0:Zc) (v11:List Int) (v16:List Ze) (v17:Int) (v18:Int)
 | L1 (v1:List Zb) (v2:Int) (v3:Int) (E0:Zc) (v11:List Int) (E1:Ze) (E2:Zb) (v16:List Ze) (v17:Int) (v18:Int)
def Zn2(v1:List Zb)(v2:Int)(v3:Int)(E0:Zc)(v11:List Int)(E1:Ze)(E2:Zb)(v16:List Ze)(v17:Int)(v18:Int):LT Zu3 (List Int):=
.call (Zu2 E1 E2 v2 v3 E0) fun x1=>.br x1 (.dr [.lit]<|.apR (cI .i64) 8 v11 [E1.Id] fun x4=>.g0 (.L0 v1 v2 v3 E0 x4 v16 v17 (IntKind.wrap .i64 (v18+1))))<|.g0 (.L0 v1 v2 v3 E0 v11 v16 v17 (IntKind.wrap .i64 (v18+1)))
def Zn3(v1:List Zb)(v2:Int)(v3:Int)(E0:Zc)(v11:List Int)(v16:List Ze)(v17:Int)(v18:Int):LT Zu3 (List Int):=
.br (decide (v18 < v17)) (.idx Zk v16 v18 fun x2=>.lb 1013<|.lb 1014<|.len Zf v1<|.br (decide (v18 < (v1.length:Int))) (.idx Zf v1 v18 fun x6=>.jn 0 (.L1 v1 v2 v3 E0 v11 x2 x6 v16 v17 v18) [.relab 1013 3001,.relab 1014 3002] (Zn2 v1 v2 v3 E0 v11 x2 x6 v16 v17 v18))<|.jn 0 (.L1 v1 v2 v3 E0 v11 x2 (⟨([]:By),(⟨0,0,(⟨0,0,0,0,0⟩:A5 Int)⟩:Zt),0,(⟨0,0,([]:Bys)⟩:Zah),0,0,0,([]:List Zg),0⟩:Zb) v16 v17 v18) [.relab 1013 3001,.relab 1014 3002,.niltb 3002 11,.niltb 3002 15] (Zn2 v1 v2 v3 E0 v11 x2 (⟨([]:By),(⟨0,0,(⟨0,0,0,0,0⟩:A5 Int)⟩:Zt),0,(⟨0,0,([]:Bys)⟩:Zah),0,0,0,([]:List Zg),0⟩:Zb) v16 v17 v18))<|.ret v11 [.relab 20011 5000]
def Zad6(a0:Zl)(a1:List Zb)(a2:Int)(a3:Int)(a4:Zc):LT Zu3 (List Int):=
.lb 1005<|.lb 1009<|.len Zk a0.Objects<|.go (.L0 a1 a2 a3 a4 ([]:List Int) a0.Objects (a0.Objects.length:Int) 0) [.relab 1009 3000,.own 11 20011 1]
def Z3e:LF Zu3 (List Int) := .m 157 [.t 10] true (fun r=>[(5000,wR (cI .i64) 1 r)]) (fun r=>(wO (cI .i64) 5000 r)) fun | .L0 v1 v2 v3 E0 v11 v16 v17 v18=>([1,1,0,1,4],⟨44,[(1,wL Zf v1),(2,wI v2),(3,wI v3),(9,.bptr 3000 0),(11,wO (cI .i64) 20011 v11),(16,wL Zk v16),(17,wI v17),(18,wI v18)],[(3000,.box (bx (Zo E0))),(20011,wR (cI .i64) 1 v11)]⟩,Zn3 v1 v2 v3 E0 v11 v16 v17 v18) | .L1 v1 v2 v3 E0 v11 E1 E2 v16 v17 v18=>([1,1,0,1,4,5,1,1,0,4,1,1,1],⟨44,[(1,wL Zf v1),(2,wI v2),(3,wI v3),(9,.bptr 3000 0),(11,wO (cI .i64) 20011 v11),(13,.bptr 3001 0),(14,.bptr 3002 0),(16,wL Zk v16),(17,wI v17),(18,wI v18)],[(3000,.box (bx (Zo E0))),(20011,wR (cI .i64) 1 v11),(3001,.box (bx (Zk E1))),(3002,.box (bx (Zf E2)))]⟩,Zn2 v1 v2 v3 E0 v11 E1 E2 v16 v17 v18)
def Z1c:=fun a0 a1 a2 a3 a4=>Z3e.run (Zad6 a0 a1 a2 a3 a4)
theorem Zapf(a0)(a1)(a2)(a3)(a4){r}(h:Z1c a0 a1 a2 a3 a4=some r):FnG PR 157 [] [wA (Zaa a0),wL Zf a1,wI a2,wI a3,wA (Zo a4)] [(5000,wR (cI .i64) 1 r)] (wO (cI .i64) 5000 r):=Z3e.fn h
inductive Zes where
 | L0 (v0:List Int) (v1:List Int) (v12:Int) (v13:Int)
def Zi7(v0:List Int)(v1:List Int)(v12:Int)(v13:Int):LT Zes Bool:=
.br (decide (v13 < v12)) (.idx (cI .i64) v0 v13 fun x2=>.idx (cI .i64) v1 v13 fun x4=>.br (x2 != x4) (.rt false)<|.g0 (.L0 v0 v1 v12 (IntKind.wrap .i64 (v13+1))))<|.rt true
def Zop(a0:List Int)(a1:List Int):LT Zes Bool:=
.len (cI .i64) a0<|.len (cI .i64) a1<|.br ((a0.length:Int) != (a1.length:Int)) (.rt false)<|.len (cI .i64) a0<|.g0 (.L0 a0 a1 (a0.length:Int) 0)
def Zoq:LF Zes Bool := .m0 101 [.t 4] wB fun | .L0 v0 v1 v12 v13=>([1,1,0,1,4],⟨26,[(0,wL (cI .i64) v0),(1,wL (cI .i64) v1),(12,wI v12),(13,wI v13)],[]⟩,Zi7 v0 v1 v12 v13)
def Zku:=fun a0 a1=>Zoq.run (Zop a0 a1)
theorem Zn4(a0)(a1){r}(h:Zku a0 a1=some r):Fn PR 101 [wL (cI .i64) a0,wL (cI .i64) a1] (wB r):=Zoq.fn h
def Zpp(a0:Zbb)(a1:Zbb):LT Empty Bool:=
.lb 1002<|.lb 1003<|.cs (!(a0.active==a1.active)) (.k5 0<|.k2 0<|.b5 true<|.b2 true<|.rt true)<|.k5 0<|.call (Zn4 a0.hits a1.hits) fun x2=>.k2 0<|.cs (!x2) (.k5 1<|.k2 1<|.rt true)<|.k5 1<|.call (Zn4 a0.numbers a1.numbers) fun x5=>.k2 1<|.rt (!x5)
def Zpq:LF Empty Bool := .z0 100 [.t 4] wB
def Zlr:=fun a0 a1=>Zpq.run (Zpp a0 a1)
theorem Z1d(a0)(a1){r}(h:Zlr a0 a1=some r):Fn PR 100 [wA (Zf6 a0),wA (Zf6 a1)] (wB r):=Zpq.fn h
def Zig(a0:List Bool)(hne:a0≠[]):LT Empty (List Bool):=
.ne cB hne<|.kn [0]<|.lb 1005<|.apR cB 1 ([]:List Bool) a0 fun x1=>.ret x1 [.relab 1005 5000]
def Zb9:LF Empty (List Bool) := .z 153 [.t 2] true (fun r=>[(5000,wR cB 1 r)]) (fun r=>(wO cB 5000 r))
def Zfc(c:Nat):LT Empty (List Bool):=
.kn [0]<|.ret ([]:List Bool) [.own 2 5000 1]
def Zwz(c:Nat)(ad:Addr):LT Empty (List Bool):=
.kn [0]<|.lb 1005<|.apR cB 1 ([]:List Bool) ([]:List Bool) fun x1=>.ret x1 [.relab 1005 5000]
open Classical in
def Zgn(a0:List Bool):Option (List Bool):=if h:a0≠[] then Zb9.run (Zig a0 h) else Zb9.run (Zfc 0)
theorem Zlw(a0:List Bool){r:List Bool}(h:Zgn a0=some r):FnG PR 153 [] [wL cB a0] [(5000,wR cB 1 r)] (wO cB 5000 r):=by
 by_cases hne:a0=[]
 .subst hne
  have h0:Zb9.run (Zfc 0)=some r:=h
  exact FnG.split0 (fun e=>absurd rfl e) (fun _ a c=>by
   cases a with
   | none=>exact Zb9.fn (t:=Zfc c) h0
   | some ad=>exact Zb9.fn (t:=Zwz c ad) h0)
 .have h0:Zb9.run (Zig a0 hne)=some r:=by unfold Zgn at h;rwa [dif_pos hne] at h
  exact FnG.split0 (fun _=>Zb9.fn h0) (fun e=>absurd (List.map_eq_nil_iff.1 e) hne)
def Zd1(a0:List Zg)(hne:a0≠[]):LT Empty (List Zg):=
.ne Zh hne<|.kn [0]<|.lb 1005<|.apR Zh 640 ([]:List Zg) a0 fun x1=>.ret x1 [.relab 1005 5000]
def Zay:LF Empty (List Zg) := .z 201 [.t 2] true (fun r=>[(5000,wR Zh 72 r)]) (fun r=>(wO Zh 5000 r))
def Zcb(c:Nat):LT Empty (List Zg):=
.kn [0]<|.ret ([]:List Zg) [.own 2 5000 72]
def Zmn(c:Nat)(ad:Addr):LT Empty (List Zg):=
.kn [0]<|.lb 1005<|.apR Zh 640 ([]:List Zg) ([]:List Zg) fun x1=>.ret x1 [.relab 1005 5000]
open Classical in
def Zcx(a0:List Zg):Option (List Zg):=if h:a0≠[] then Zay.run (Zd1 a0 h) else Zay.run (Zcb 0)
theorem Zl5(a0:List Zg){r:List Zg}(h:Zcx a0=some r):FnG PR 201 [] [wL Zh a0] [(5000,wR Zh 72 r)] (wO Zh 5000 r):=by
 by_cases hne:a0=[]
 .subst hne
  have h0:Zay.run (Zcb 0)=some r:=h
  exact FnG.split0 (fun e=>absurd rfl e) (fun _ a c=>by
   cases a with
   | none=>exact Zay.fn (t:=Zcb c) h0
   | some ad=>exact Zay.fn (t:=Zmn c ad) h0)
 .have h0:Zay.run (Zd1 a0 hne)=some r:=by unfold Zcx at h;rwa [dif_pos hne] at h
  exact FnG.split0 (fun _=>Zay.fn h0) (fun e=>absurd (List.map_eq_nil_iff.1 e) hne)
inductive Zmo where
 | L0 (E0:Zb) (E1:Zb) (v18:Int) (v19:Int)
 | L1 (y45000015:Zg) (E0:Zb) (E1:Zb) (v18:Int) (v19:Int) (v54:Int) (v55:Int) (v4:Int)
def Zzv(E0:Zb)(E1:Zb)(v18:Int)(v19:Int):LT Zmo Zb:=
.br (decide (v19 < v18)) (.idxR Zh E0.Abilities v19 fun x2=>.dr [.ahead 7,.opn 40015 (Int.toNat v19) (Zh x2),.stop]<|.us [2]<|.iq v19<|.iq v19<|.rl Zh E0.Abilities<|.rl Zh E0.Abilities<|.rl Zh E0.Abilities<|.call (Zcp x2.Mods) fun x4=>.rl Zh E0.Abilities<|.rl Zh E0.Abilities<|.rl Zh E0.Abilities<|.call (Zpk x2.Specs) fun x6=>.rl Zh E0.Abilities<|.rl Zh E0.Abilities<|.rl Zh E0.Abilities<|.callF (Zgv x2.Effects) 440000 fun x8=>.rl Zh E0.Abilities<|.rl Zh E0.Abilities<|.rl Zh E0.Abilities<|.rl Zh E0.Abilities<|.rl Zh E0.Abilities<|.rl Zh E0.Abilities<|.rl Zh E0.Abilities<|.rl Zh E0.Abilities<|.rl Zh E0.Abilities<|.rl Zh E0.Abilities<|.rl Zh E0.Abilities<|.rl Zh E0.Abilities<|.lenO Zq x8<|.go (.L1 (⟨x2.Kind,x2.Filter,x4,x2.Price,x2.Slow,x2.Trigger,x2.May,x6,x8,x2.Replace⟩:Zg) E0 E1 v18 v19 (x8.length:Int) 0 v19) [.relab 40015 45000015,.relab 445000 46000049])<|.ret E0 [.relab 40011 5011,.relab 40015 5015]
def Zzw(y45000015:Zg)(E0:Zb)(E1:Zb)(v18:Int)(v19:Int)(v54:Int)(v55:Int)(v4:Int):LT Zmo Zb:=
.br (decide (v55 < v54)) (.rl Zh E0.Abilities<|.rl Zh E0.Abilities<|.rl Zh E0.Abilities<|.rl Zh E0.Abilities<|.rl Zh E0.Abilities<|.rl Zh E0.Abilities<|.idxR Zq y45000015.Effects v55 fun x2=>.rl Zq y45000015.Effects<|.ldR Zq y45000015.Effects x2 2<|.call (Zcp x2.Mods) fun x4=>.plR Zq y45000015.Effects v55 0<|.rl Zq y45000015.Effects<|.setD Zq y45000015.Effects v55 x2 (⟨x2.Op,x2.Ref,x2.Amount,x2.Counter,x2.Zone,x2.Card,x2.Filter,x2.Pool,x4⟩:Zs) 2 63 [.sl (List.map Zm x4)] rfl fun x6=>.dr [.ahead 74,.relen 46000049,.stop]<|.us [3]<|.us [3]<|.us [3]<|.us [3]<|.us [3]<|.us [3]<|.us [3]<|.g0 (.L1 (⟨y45000015.Kind,y45000015.Filter,y45000015.Mods,y45000015.Price,y45000015.Slow,y45000015.Trigger,y45000015.May,y45000015.Specs,x6,y45000015.Replace⟩:Zg) E0 E1 v18 v19 v54 (IntKind.wrap .i64 (v55+1)) v4))<|.clsR Zh E0.Abilities v4 y45000015 fun x10=>.dr [.ahead 75,.frz 46000049,.cls 45000015 (List.map Zh x10),.relen 45000015,.stop]<|.rl Zq y45000015.Effects<|.us [0]<|.rl Zh E0.Abilities<|.rl Zh E0.Abilities<|.us [1]<|.us [1]<|.go (.L0 (⟨E0.Name,E0.Cost,E0.Colors,E0.Line,E0.Power,E0.Tough,E0.Keys,x10,E0.Control⟩:Zb) E1 v18 (IntKind.wrap .i64 (v19+1))) [.relab 45000015 40015]
def Zad7(a0:Zb):LT Zmo Zb:=
.lb 1001<|.lb 1002<|.callF (Zf7 a0.Line.Subs) 100000 fun x1=>.callF (Zl5 a0.Abilities) 150000 fun x3=>.lenO Zh x3<|.go (.L0 (⟨a0.Name,a0.Cost,a0.Colors,(⟨a0.Line.Super,a0.Line.Types,x1⟩:Zah),a0.Power,a0.Tough,a0.Keys,x3,a0.Control⟩:Zb) (⟨([]:By),(⟨0,0,(⟨0,0,0,0,0⟩:A5 Int)⟩:Zt),0,(⟨0,0,([]:Bys)⟩:Zah),0,0,0,([]:List Zg),0⟩:Zb) (x3.length:Int) 0) [.relab 1001 3000,.relab 1002 3001,.relab 105000 40011,.relab 155000 40015,.ownb 3001 11 40111 1,.ownb 3001 15 40115 72]
def Zad8:LF Zmo Zb := .m 158 [.c 2 66 true 17] true (fun r=>[(5011,wR cS 1 r.Line.Subs),(5015,wR Zh 72 r.Abilities)]) (fun r=>(.agg (tm2 r 5000))) fun | .L0 E0 E1 v18 v19=>([1,1,1,0,1,4],⟨77,[(1,.bptr 3000 0),(2,.bptr 3001 0),(18,wI v18),(19,wI v19)],[(3000,.box (tm2 E0 40000)),(40011,wR cS 1 E0.Line.Subs),(40015,wR Zh 72 E0.Abilities),(3001,.box (tm2 E1 40100)),(40111,wR cS 1 E1.Line.Subs),(40115,wR Zh 72 E1.Abilities)]⟩,Zzv E0 E1 v18 v19) | .L1 y45000015 E0 E1 v18 v19 v54 v55 v4=>([1,1,1,0,1,4,5,1,1,0,4,1,1,1,1,4],⟨77,[(1,.bptr 3000 0),(2,.bptr 3001 0),(4,.own 45000015 (.pp (List.map Zh E0.Abilities).length 0)),(18,wI v18),(19,wI v19),(54,wI v54),(55,wI v55)],[(3000,.box [wS E0.Name,wI E0.Cost.Generic,wI E0.Cost.X,wI E0.Cost.Color.a0,wI E0.Cost.Color.a1,wI E0.Cost.Color.a2,wI E0.Cost.Color.a3,wI E0.Cost.Color.a4,wI E0.Colors,wI E0.Line.Super,wI E0.Line.Types,wO cS 40011 E0.Line.Subs,wI E0.Power,wI E0.Tough,wI E0.Keys,.own 45000015 (.pw (List.map Zh E0.Abilities).length),wI E0.Control]),(40011,wR cS 1 E0.Line.Subs),(46000049,wR Zq 64 y45000015.Effects),(45000015,.prow 72 (Int.toNat v4) (List.map Zh E0.Abilities) [wI y45000015.Kind,wI y45000015.Filter.Zone,wI y45000015.Filter.Who,wI y45000015.Filter.Self,wI y45000015.Filter.Types,wI y45000015.Filter.NotTypes,wI y45000015.Filter.Colors,wI y45000015.Filter.NotColors,wS y45000015.Filter.Sub,wI y45000015.Filter.Keys,wI y45000015.Filter.Tap,wI y45000015.Filter.Power.Kind,wI y45000015.Filter.Power.N,wI y45000015.Filter.Tough.Kind,wI y45000015.Filter.Tough.N,wI y45000015.Filter.Value.Kind,wI y45000015.Filter.Value.N,wL Zm y45000015.Mods,wI y45000015.Price.Mana.Generic,wI y45000015.Price.Mana.X,wI y45000015.Price.Mana.Color.a0,wI y45000015.Price.Mana.Color.a1,wI y45000015.Price.Mana.Color.a2,wI y45000015.Price.Mana.Color.a3,wI y45000015.Price.Mana.Color.a4,wB y45000015.Price.Tap,wB y45000015.Price.Sacrifice,wI y45000015.Price.Life,wB y45000015.Slow,wI y45000015.Trigger.When,wI y45000015.Trigger.Who,wI y45000015.Trigger.Filter.Zone,wI y45000015.Trigger.Filter.Who,wI y45000015.Trigger.Filter.Self,wI y45000015.Trigger.Filter.Types,wI y45000015.Trigger.Filter.NotTypes,wI y45000015.Trigger.Filter.Colors,wI y45000015.Trigger.Filter.NotColors,wS y45000015.Trigger.Filter.Sub,wI y45000015.Trigger.Filter.Keys,wI y45000015.Trigger.Filter.Tap,wI y45000015.Trigger.Filter.Power.Kind,wI y45000015.Trigger.Filter.Power.N,wI y45000015.Trigger.Filter.Tough.Kind,wI y45000015.Trigger.Filter.Tough.N,wI y45000015.Trigger.Filter.Value.Kind,wI y45000015.Trigger.Filter.Value.N,wB y45000015.May,wL Zab y45000015.Specs,wO Zq 46000049 y45000015.Effects,wI y45000015.Replace.On,wI y45000015.Replace.Who,wI y45000015.Replace.Filter.Zone,wI y45000015.Replace.Filter.Who,wI y45000015.Replace.Filter.Self,wI y45000015.Replace.Filter.Types,wI y45000015.Replace.Filter.NotTypes,wI y45000015.Replace.Filter.Colors,wI y45000015.Replace.Filter.NotColors,wS y45000015.Replace.Filter.Sub,wI y45000015.Replace.Filter.Keys,wI y45000015.Replace.Filter.Tap,wI y45000015.Replace.Filter.Power.Kind,wI y45000015.Replace.Filter.Power.N,wI y45000015.Replace.Filter.Tough.Kind,wI y45000015.Replace.Filter.Tough.N,wI y45000015.Replace.Filter.Value.Kind,wI y45000015.Replace.Filter.Value.N,wI y45000015.Replace.Do,wI y45000015.Replace.N,wI y45000015.Replace.Zone,wI y45000015.Replace.Counter]),(3001,.box (tm2 E1 40100)),(40111,wR cS 1 E1.Line.Subs),(40115,wR Zh 72 E1.Abilities)]⟩,Zzw y45000015 E0 E1 v18 v19 v54 v55 v4)
def Z98:=fun a0=>Zad8.run (Zad7 a0)
theorem Zapg(a0){r}(h:Z98 a0=some r):FnG PR 158 [] [wA (Zf a0)] [(5011,wR cS 1 r.Line.Subs),(5015,wR Zh 72 r.Abilities)] (.agg (tm2 r 5000)):=Zad8.fn h
def Zawr(a0:Int)(a1:Int)(a2:Int):LT Empty Bool:=
.cs (decide (a0>=a1)) (.k4 0<|.rt (decide (a0<=a2)))<|.k4 0<|.rt false
def Zaws:LF Empty Bool := .z0 202 [.t 6] wB
def Zawt:=fun a0 a1 a2=>Zaws.run (Zawr a0 a1 a2)
theorem Zld(a0)(a1)(a2){r}(h:Zawt a0 a1 a2=some r):Fn PR 202 [wI a0,wI a1,wI a2] (wB r):=Zaws.fn h
inductive Zqk where
 | L0 (E0:Zi) (E1:Zi) (E2:Zi) (v8:Int) (v9:Bool)
 | L1 (E0:Zi) (E1:Zi) (E2:Zi) (v8:Int) (v19:Bool)
def Zrz(E0:Zi)(E1:Zi)(E2:Zi)(v8:Int)(v19:Bool):LT Zqk Zi:=
.br v19 (.rt (⟨E2.Kind,E2.N,E2.M,E0.Sub,E2.Filter⟩:Zi))<|.br (v8==11) (.rt (⟨E2.Kind,E2.N,E2.M,E2.Sub,E0.Filter⟩:Zi))<|.br (v8==12) (.kn [3]<|.rt (⟨E2.Kind,E0.N,E0.M,E2.Sub,E2.Filter⟩:Zi))<|.br (v8==13) (.rt (⟨E2.Kind,E0.N,E0.M,E2.Sub,E2.Filter⟩:Zi))<|.rt E2
def Zh8(E0:Zi)(E1:Zi)(E2:Zi)(v8:Int)(v9:Bool):LT Zqk Zi:=
.br v9 (.rt (⟨E2.Kind,E0.N,E2.M,E2.Sub,E2.Filter⟩:Zi))<|.br (v8==4) (.j0 (.L1 E0 E1 E2 v8 (v8==4)) (Zrz E0 E1 E2 v8 (v8==4)))<|.j0 (.L1 E0 E1 E2 v8 (v8==5)) (Zrz E0 E1 E2 v8 (v8==5))
def Zanh(a0:Zi):LT Zqk Zi:=
.lb 1001<|.lb 1002<|.lb 1003<|.br (a0.Kind==2) (.jn 0 (.L0 a0 (⟨0,0,0,([]:By),(⟨0,0,0,0,0,0,0,([]:By),0,0,(⟨0,0⟩:Za),(⟨0,0⟩:Za),(⟨0,0⟩:Za)⟩:Zc)⟩:Zi) (⟨a0.Kind,0,0,([]:By),(⟨0,0,0,0,0,0,0,([]:By),0,0,(⟨0,0⟩:Za),(⟨0,0⟩:Za),(⟨0,0⟩:Za)⟩:Zc)⟩:Zi) a0.Kind (a0.Kind==2)) (tm13 1000 3000) (Zh8 a0 (⟨0,0,0,([]:By),(⟨0,0,0,0,0,0,0,([]:By),0,0,(⟨0,0⟩:Za),(⟨0,0⟩:Za),(⟨0,0⟩:Za)⟩:Zc)⟩:Zi) (⟨a0.Kind,0,0,([]:By),(⟨0,0,0,0,0,0,0,([]:By),0,0,(⟨0,0⟩:Za),(⟨0,0⟩:Za),(⟨0,0⟩:Za)⟩:Zc)⟩:Zi) a0.Kind (a0.Kind==2)))<|.br (a0.Kind==3) (.jn 0 (.L0 a0 (⟨0,0,0,([]:By),(⟨0,0,0,0,0,0,0,([]:By),0,0,(⟨0,0⟩:Za),(⟨0,0⟩:Za),(⟨0,0⟩:Za)⟩:Zc)⟩:Zi) (⟨a0.Kind,0,0,([]:By),(⟨0,0,0,0,0,0,0,([]:By),0,0,(⟨0,0⟩:Za),(⟨0,0⟩:Za),(⟨0,0⟩:Za)⟩:Zc)⟩:Zi) a0.Kind (a0.Kind==3)) (tm13 1000 3000) (Zh8 a0 (⟨0,0,0,([]:By),(⟨0,0,0,0,0,0,0,([]:By),0,0,(⟨0,0⟩:Za),(⟨0,0⟩:Za),(⟨0,0⟩:Za)⟩:Zc)⟩:Zi) (⟨a0.Kind,0,0,([]:By),(⟨0,0,0,0,0,0,0,([]:By),0,0,(⟨0,0⟩:Za),(⟨0,0⟩:Za),(⟨0,0⟩:Za)⟩:Zc)⟩:Zi) a0.Kind (a0.Kind==3)))<|.br (a0.Kind==6) (.jn 0 (.L0 a0 (⟨0,0,0,([]:By),(⟨0,0,0,0,0,0,0,([]:By),0,0,(⟨0,0⟩:Za),(⟨0,0⟩:Za),(⟨0,0⟩:Za)⟩:Zc)⟩:Zi) (⟨a0.Kind,0,0,([]:By),(⟨0,0,0,0,0,0,0,([]:By),0,0,(⟨0,0⟩:Za),(⟨0,0⟩:Za),(⟨0,0⟩:Za)⟩:Zc)⟩:Zi) a0.Kind (a0.Kind==6)) (tm13 1000 3000) (Zh8 a0 (⟨0,0,0,([]:By),(⟨0,0,0,0,0,0,0,([]:By),0,0,(⟨0,0⟩:Za),(⟨0,0⟩:Za),(⟨0,0⟩:Za)⟩:Zc)⟩:Zi) (⟨a0.Kind,0,0,([]:By),(⟨0,0,0,0,0,0,0,([]:By),0,0,(⟨0,0⟩:Za),(⟨0,0⟩:Za),(⟨0,0⟩:Za)⟩:Zc)⟩:Zi) a0.Kind (a0.Kind==6)))<|.br (a0.Kind==7) (.jn 0 (.L0 a0 (⟨0,0,0,([]:By),(⟨0,0,0,0,0,0,0,([]:By),0,0,(⟨0,0⟩:Za),(⟨0,0⟩:Za),(⟨0,0⟩:Za)⟩:Zc)⟩:Zi) (⟨a0.Kind,0,0,([]:By),(⟨0,0,0,0,0,0,0,([]:By),0,0,(⟨0,0⟩:Za),(⟨0,0⟩:Za),(⟨0,0⟩:Za)⟩:Zc)⟩:Zi) a0.Kind (a0.Kind==7)) (tm13 1000 3000) (Zh8 a0 (⟨0,0,0,([]:By),(⟨0,0,0,0,0,0,0,([]:By),0,0,(⟨0,0⟩:Za),(⟨0,0⟩:Za),(⟨0,0⟩:Za)⟩:Zc)⟩:Zi) (⟨a0.Kind,0,0,([]:By),(⟨0,0,0,0,0,0,0,([]:By),0,0,(⟨0,0⟩:Za),(⟨0,0⟩:Za),(⟨0,0⟩:Za)⟩:Zc)⟩:Zi) a0.Kind (a0.Kind==7)))<|.br (a0.Kind==8) (.jn 0 (.L0 a0 (⟨0,0,0,([]:By),(⟨0,0,0,0,0,0,0,([]:By),0,0,(⟨0,0⟩:Za),(⟨0,0⟩:Za),(⟨0,0⟩:Za)⟩:Zc)⟩:Zi) (⟨a0.Kind,0,0,([]:By),(⟨0,0,0,0,0,0,0,([]:By),0,0,(⟨0,0⟩:Za),(⟨0,0⟩:Za),(⟨0,0⟩:Za)⟩:Zc)⟩:Zi) a0.Kind (a0.Kind==8)) (tm13 1000 3000) (Zh8 a0 (⟨0,0,0,([]:By),(⟨0,0,0,0,0,0,0,([]:By),0,0,(⟨0,0⟩:Za),(⟨0,0⟩:Za),(⟨0,0⟩:Za)⟩:Zc)⟩:Zi) (⟨a0.Kind,0,0,([]:By),(⟨0,0,0,0,0,0,0,([]:By),0,0,(⟨0,0⟩:Za),(⟨0,0⟩:Za),(⟨0,0⟩:Za)⟩:Zc)⟩:Zi) a0.Kind (a0.Kind==8)))<|.jn 0 (.L0 a0 (⟨0,0,0,([]:By),(⟨0,0,0,0,0,0,0,([]:By),0,0,(⟨0,0⟩:Za),(⟨0,0⟩:Za),(⟨0,0⟩:Za)⟩:Zc)⟩:Zi) (⟨a0.Kind,0,0,([]:By),(⟨0,0,0,0,0,0,0,([]:By),0,0,(⟨0,0⟩:Za),(⟨0,0⟩:Za),(⟨0,0⟩:Za)⟩:Zc)⟩:Zi) a0.Kind (a0.Kind==9)) (tm13 1000 3000) (Zh8 a0 (⟨0,0,0,([]:By),(⟨0,0,0,0,0,0,0,([]:By),0,0,(⟨0,0⟩:Za),(⟨0,0⟩:Za),(⟨0,0⟩:Za)⟩:Zc)⟩:Zi) (⟨a0.Kind,0,0,([]:By),(⟨0,0,0,0,0,0,0,([]:By),0,0,(⟨0,0⟩:Za),(⟨0,0⟩:Za),(⟨0,0⟩:Za)⟩:Zc)⟩:Zi) a0.Kind (a0.Kind==9))
def Zani:LF Zqk Zi := .m0 203 [.c 2 79 true 20] (fun r=>(wA (Zm r))) fun | .L0 E0 E1 E2 v8 v9=>([1,1,0,1,4,1],⟨40,[(1,.bptr 3000 0),(2,.bptr 3001 0),(3,.bptr 3002 0),(8,wI v8),(9,wB v9)],[(3000,.box (bx (Zm E0))),(3001,.box (bx (Zm E1))),(3002,.box (bx (Zm E2)))]⟩,Zh8 E0 E1 E2 v8 v9) | .L1 E0 E1 E2 v8 v19=>([1,1,0,1,4,1,3,1],⟨40,[(1,.bptr 3000 0),(2,.bptr 3001 0),(3,.bptr 3002 0),(8,wI v8),(19,wB v19)],[(3000,.box (bx (Zm E0))),(3001,.box (bx (Zm E1))),(3002,.box (bx (Zm E2)))]⟩,Zrz E0 E1 E2 v8 v19)
def Zajq:=fun a0=>Zani.run (Zanh a0)
theorem Zazb(a0){r}(h:Zajq a0=some r):Fn PR 203 [wA (Zm a0)] (wA (Zm r)):=Zani.fn h
inductive Zs4 where
 | L0 (E0:Zi) (v14:Int) (v15:Bool)
 | L1 (E0:Zi) (v14:Int) (v27:Bool)
 | L2 (E0:Zi) (v14:Int) (v43:Bool)
def Zy1(E0:Zi)(v14:Int)(v43:Bool):LT Zs4 Bool:=
.br v43 (.call (Zld E0.N 1 131071) fun x2=>.rt x2)<|.br (v14==11) (.call (Zad3 E0.Filter) fun x5=>.rt x5)<|.br (v14==12) (.call (Zld E0.N 0 99) fun x8=>.cs x8 (.k3 3<|.call (Zld E0.M 0 99) fun x11=>.kg 3<|.rt x11)<|.k4 3<|.rt false)<|.br (v14==13) (.call (Zld E0.N (-99) 99) fun x14=>.cs x14 (.k3 4<|.call (Zld E0.M (-99) 99) fun x17=>.kg 4<|.rt x17)<|.k4 4<|.rt false)<|.rt true
def Zy2(E0:Zi)(v14:Int)(v27:Bool):LT Zs4 Bool:=
.br v27 (.call (Zzt E0.Sub) fun x2=>.rt x2)<|.br (v14==6) (.call (Zld E0.N 0 31) fun x5=>.rt x5)<|.br (v14==7) (.call (Zld E0.N 1 31) fun x8=>.rt x8)<|.br (v14==8) (.j0 (.L2 E0 v14 (v14==8)) (Zy1 E0 v14 (v14==8)))<|.j0 (.L2 E0 v14 (v14==9)) (Zy1 E0 v14 (v14==9))
def Zy3(E0:Zi)(v14:Int)(v15:Bool):LT Zs4 Bool:=
.br v15 (.call (Zld E0.N 1 63) fun x2=>.cs x2 (.k5 1<|.rt ((Zbf .and .i64 E0.N 6)==0))<|.k5 1<|.rt false)<|.br (v14==4) (.j0 (.L1 E0 v14 (v14==4)) (Zy2 E0 v14 (v14==4)))<|.j0 (.L1 E0 v14 (v14==5)) (Zy2 E0 v14 (v14==5))
def Zawu(a0:Zi):LT Zs4 Bool:=
.lb 1001<|.call (Zld a0.Kind 1 14) fun x1=>.cs (!x1) (.k5 0<|.kn [0]<|.rt false)<|.k3 0<|.call (Zazb a0) fun x4=>.k2 0<|.br (!(Z5 (Zm a0) (Zm x4))) (.rt false)<|.br (a0.Kind==2) (.jn 0 (.L0 a0 a0.Kind (a0.Kind==2)) [.relab 1001 3000] (Zy3 a0 a0.Kind (a0.Kind==2)))<|.jn 0 (.L0 a0 a0.Kind (a0.Kind==3)) [.relab 1001 3000] (Zy3 a0 a0.Kind (a0.Kind==3))
def Zawv:LF Zs4 Bool := .m0 159 [.t 2] wB fun | .L0 E0 v14 v15=>([1,1,0,1,4,1],⟨74,[(1,.bptr 3000 0),(14,wI v14),(15,wB v15)],[(3000,.box (bx (Zm E0)))]⟩,Zy3 E0 v14 v15) | .L1 E0 v14 v27=>([1,1,0,1,4,1,3,1],⟨74,[(1,.bptr 3000 0),(14,wI v14),(27,wB v27)],[(3000,.box (bx (Zm E0)))]⟩,Zy2 E0 v14 v27) | .L2 E0 v14 v43=>([1,1,0,1,4,1,3,1,3,1,3,1,3,1],⟨74,[(1,.bptr 3000 0),(14,wI v14),(43,wB v43)],[(3000,.box (bx (Zm E0)))]⟩,Zy1 E0 v14 v43)
def Zaww:=fun a0=>Zawv.run (Zawu a0)
theorem Za4l(a0){r}(h:Zaww a0=some r):Fn PR 159 [wA (Zm a0)] (wB r):=Zawv.fn h
def Zv9(a0:By)(a1:By):LT Empty Bool:=
.rt (!(Op.bytesLess a0 a1))
def Zwa:LF Empty Bool := .z0 206 [.t 3] wB
def Zq6:=fun a0 a1=>Zwa.run (Zv9 a0 a1)
theorem Z99(a0)(a1){r}(h:Zq6 a0 a1=some r):Fn PR 206 [wS a0,.vptr (cS a1)] (wB r):=Zwa.fn h
inductive Za2 where
 | L0 (v0:Bys) (w1_0:By) (v7:Int) (v8:Int)
def Zcj(v0:Bys)(w1_0:By)(v7:Int)(v8:Int):LT Za2 Int:=
.br (decide (v8 < v7)) (.idx cS v0 v8 fun x2=>.call (Z99 x2 w1_0) fun x4=>.br x4 (.rt v8)<|.g0 (.L0 v0 w1_0 v7 (IntKind.wrap .i64 (v8+1))))<|.rt (-1)
def Zel(a0:Bys)(a1:By):LT Za2 Int:=
.len cS a0<|.g0 (.L0 a0 a1 (a0.length:Int) 0)
def Zem:LF Za2 Int := .m0 205 [.t 4] wI fun | .L0 v0 w1_0 v7 v8=>([1,0,1,4],⟨19,[(0,wL cS v0),(1,.fn 206 [.vptr (cS w1_0)]),(7,wI v7),(8,wI v8)],[]⟩,Zcj v0 w1_0 v7 v8)
def Zcv:=fun a0 a1=>Zem.run (Zel a0 a1)
theorem Zi8(a0)(a1){r}(h:Zcv a0 a1=some r):Fn PR 205 [wL cS a0,.fn 206 [.vptr (cS a1)]] (wI r):=Zem.fn h
def Zg2(b0:Bys)(a1:Int)(b1:Bys):Option (Bys):=ins? 16 b0 a1 b1
theorem Zf9(b0)(a1)(b1){r}(h:Zg2 b0 a1 b1=some r):FnG PR 207 [(0,wR cS 1 b0),(1,wR cS 1 b1)] [wO cS 0 b0,wI a1,wO cS 1 b1] [(5000,wR cS 1 r)] (wO cS 5000 r):=Za6u.okO (fun x=>⟨_,rfl⟩) b0 a1 b1 h
def Zabp(a0:Zah)(a1:By):LT Empty Zah:=
.lb 1002<|.lb 1003<|.lb 1004<|.callF (Zf7 a0.Subs) 90000 fun x1=>.call (Zzt a1) fun x3=>.cs (!x3) (.k4 0<|.b5 true<|.kn [0]<|.ret (⟨a0.Super,a0.Types,x1⟩:Zah) [.relab 95000 5002])<|.k3 0<|.rl cS x1<|.call (Z8q (⟨a0.Super,a0.Types,x1⟩:Zah) a1) fun x6=>.kg 0<|.cs x6 (.k5 1<|.kn [0]<|.ret (⟨a0.Super,a0.Types,x1⟩:Zah) [.relab 95000 5002])<|.k3 1<|.lenO cS x1<|.k2 1<|.br (decide ((x1.length:Int)>=4)) (.ret (⟨a0.Super,a0.Types,x1⟩:Zah) [.relab 95000 5002])<|.rl cS x1<|.call (Zi8 x1 a1) fun x10=>.br (decide (x10 < 0)) (.lenO cS x1<|.lb 1038<|.callU (Zf9 x1 (x1.length:Int) [a1]) [95000,1038] 400000 fun x13=>.ret (⟨a0.Super,a0.Types,x13⟩:Zah) [.relab 405000 5002])<|.lb 1038<|.callU (Zf9 x1 x10 [a1]) [95000,1038] 400000 fun x15=>.ret (⟨a0.Super,a0.Types,x15⟩:Zah) [.relab 405000 5002]
def Zabq:LF Empty Zah := .z 160 [.c 4 63 true 3] true (fun r=>[(5002,wR cS 1 r.Subs)]) (fun r=>(.agg [wI r.Super,wI r.Types,wO cS 5002 r.Subs]))
def Z6z:=fun a0 a1=>Zabq.run (Zabp a0 a1)
theorem Zanj(a0)(a1){r}(h:Z6z a0 a1=some r):FnG PR 160 [] [wA (Zh5 a0),wS a1] [(5002,wR cS 1 r.Subs)] (.agg [wI r.Super,wI r.Types,wO cS 5002 r.Subs]):=Zabq.fn h
def Zaho(a0:Zb)(a1:Zi)(a2:Int)(a3:Int):LT Empty Zb:=
.lb 1004<|.lb 1005<|.lb 1008<|.callF (Zapg a0) 110000 fun x1=>.call (Za4l a1) fun x3=>.br (!x3) (.ret x1 [.relab 115011 5011,.relab 115015 5015])<|.br (a1.Kind==1) (.ret (⟨x1.Name,x1.Cost,x1.Colors,x1.Line,x1.Power,x1.Tough,x1.Keys,x1.Abilities,a2⟩:Zb) [.relab 115011 5011,.relab 115015 5015])<|.br (a1.Kind==2) (.ret (⟨x1.Name,x1.Cost,x1.Colors,(⟨x1.Line.Super,a1.N,x1.Line.Subs⟩:Zah),x1.Power,x1.Tough,x1.Keys,x1.Abilities,x1.Control⟩:Zb) [.relab 115011 5011,.relab 115015 5015])<|.br (a1.Kind==3) (.ret (⟨x1.Name,x1.Cost,x1.Colors,(⟨x1.Line.Super,Zbf .or .i64 x1.Line.Types a1.N,x1.Line.Subs⟩:Zah),x1.Power,x1.Tough,x1.Keys,x1.Abilities,x1.Control⟩:Zb) [.relab 115011 5011,.relab 115015 5015])<|.br (a1.Kind==4) (.lb 1041<|.ret (⟨x1.Name,x1.Cost,x1.Colors,(⟨x1.Line.Super,x1.Line.Types,[a1.Sub]⟩:Zah),x1.Power,x1.Tough,x1.Keys,x1.Abilities,x1.Control⟩:Zb) [.relab 1041 5011,.relab 115015 5015])<|.br (a1.Kind==5) (.rl cS x1.Line.Subs<|.callS (Zanj x1.Line a1.Sub) 510000 (fun _=>⟨rfl,Z1z cS (fun _=>rfl) _,trivial⟩) fun x11=>.ret (⟨x1.Name,x1.Cost,x1.Colors,x11,x1.Power,x1.Tough,x1.Keys,x1.Abilities,x1.Control⟩:Zb) [.relab 515002 5011,.relab 115015 5015])<|.br (a1.Kind==6) (.ret (⟨x1.Name,x1.Cost,a1.N,x1.Line,x1.Power,x1.Tough,x1.Keys,x1.Abilities,x1.Control⟩:Zb) [.relab 115011 5011,.relab 115015 5015])<|.br (a1.Kind==7) (.ret (⟨x1.Name,x1.Cost,Zbf .or .i64 x1.Colors a1.N,x1.Line,x1.Power,x1.Tough,x1.Keys,x1.Abilities,x1.Control⟩:Zb) [.relab 115011 5011,.relab 115015 5015])<|.br (a1.Kind==8) (.ret (⟨x1.Name,x1.Cost,x1.Colors,x1.Line,x1.Power,x1.Tough,Zbf .or .i64 x1.Keys a1.N,x1.Abilities,x1.Control⟩:Zb) [.relab 115011 5011,.relab 115015 5015])<|.br (a1.Kind==9) (.ret (⟨x1.Name,x1.Cost,x1.Colors,x1.Line,x1.Power,x1.Tough,Zbf .andNot .i64 x1.Keys a1.N,x1.Abilities,x1.Control⟩:Zb) [.relab 115011 5011,.relab 115015 5015])<|.br (a1.Kind==10) (.ret (⟨x1.Name,x1.Cost,x1.Colors,x1.Line,x1.Power,x1.Tough,0,([]:List Zg),x1.Control⟩:Zb) [.relab 115011 5011,.ownb 1008 15 5015 72])<|.br (a1.Kind==11) (.call (Zez a3) fun x19=>.call (Zez a3) fun x21=>.ret (⟨x1.Name,x1.Cost,x1.Colors,x1.Line,x19,x21,x1.Keys,x1.Abilities,x1.Control⟩:Zb) [.relab 115011 5011,.relab 115015 5015])<|.br (a1.Kind==12) (.ret (⟨x1.Name,x1.Cost,x1.Colors,x1.Line,a1.N,a1.M,x1.Keys,x1.Abilities,x1.Control⟩:Zb) [.relab 115011 5011,.relab 115015 5015])<|.br (a1.Kind==13) (.call (Zuv x1.Power a1.N) fun x25=>.call (Zuv x1.Tough a1.M) fun x27=>.ret (⟨x1.Name,x1.Cost,x1.Colors,x1.Line,x25,x27,x1.Keys,x1.Abilities,x1.Control⟩:Zb) [.relab 115011 5011,.relab 115015 5015])<|.br (a1.Kind==14) (.ret (⟨x1.Name,x1.Cost,x1.Colors,x1.Line,x1.Tough,x1.Power,x1.Keys,x1.Abilities,x1.Control⟩:Zb) [.relab 115011 5011,.relab 115015 5015])<|.ret x1 [.relab 115011 5011,.relab 115015 5015]
def Zahp:LF Empty Zb := .z 106 [.c 8 66 true 17] true (fun r=>[(5011,wR cS 1 r.Line.Subs),(5015,wR Zh 72 r.Abilities)]) (fun r=>(.agg (tm2 r 5000)))
def Z5g:=fun a0 a1 a2 a3=>Zahp.run (Zaho a0 a1 a2 a3)
theorem Zar1(a0)(a1)(a2)(a3){r}(h:Z5g a0 a1 a2 a3=some r):FnG PR 106 [] [wA (Zf a0),wA (Zm a1),wI a2,wI a3] [(5011,wR cS 1 r.Line.Subs),(5015,wR Zh 72 r.Abilities)] (.agg (tm2 r 5000)):=Zahp.fn h
theorem Zawx(a0:Zb)(a1:Zi)(a2:Int)(a3:Int){r:Zb}(h:Z5g a0 a1 a2 a3=some r):Fn PR 106 [wA (Zf a0),wA (Zm a1),wI a2,wI a3] (wA (Zf r)):=
 FnG.frozen (C:=LT.RL cS r.Line.Subs/\LT.RL Zh r.Abilities/\True) (Zar1 a0 a1 a2 a3 h) ⟨rfl,rfl,trivial⟩ (by kernel_rfl)
inductive Zjh where
 | L0 (v3:List Int) (v6:List Int) (v7:Int) (v8:Int)
def Zpr(v3:List Int)(v6:List Int)(v7:Int)(v8:Int):LT Zjh (List Int):=
.br (decide (v8 < v7)) (.idx (cI .i64) v6 v8 fun x2=>.cs (decide (x2>=0)) (.k3 1<|.rl (cI .i64) v3<|.call (Zlv v3 x2) fun x5=>.k2 1<|.br (!x5) (.dr [.lit]<|.apR (cI .i64) 8 v3 [x2] fun x8=>.g0 (.L0 x8 v6 v7 (IntKind.wrap .i64 (v8+1))))<|.g0 (.L0 v3 v6 v7 (IntKind.wrap .i64 (v8+1))))<|.k5 1<|.kn [0]<|.g0 (.L0 v3 v6 v7 (IntKind.wrap .i64 (v8+1))))<|.ret v3 [.relab 20003 5000]
def Z00(a0:List Int):LT Zjh (List Int):=
.len (cI .i64) a0<|.go (.L0 ([]:List Int) a0 (a0.length:Int) 0) [.own 3 20003 1]
def Z01:LF Zjh (List Int) := .m 145 [.t 2] true (fun r=>[(5000,wR (cI .i64) 1 r)]) (fun r=>(wO (cI .i64) 5000 r)) fun | .L0 v3 v6 v7 v8=>([1,1,0,1,4],⟨26,[(3,wO (cI .i64) 20003 v3),(6,wL (cI .i64) v6),(7,wI v7),(8,wI v8)],[(20003,wR (cI .i64) 1 v3)]⟩,Zpr v3 v6 v7 v8)
def Zor:=fun a0=>Z01.run (Z00 a0)
theorem Zab8(a0){r}(h:Zor a0=some r):FnG PR 145 [] [wL (cI .i64) a0] [(5000,wR (cI .i64) 1 r)] (wO (cI .i64) 5000 r):=Z01.fn h
theorem Zad9(a0:List Int){r:List Int}(h:Zor a0=some r):Fn PR 145 [wL (cI .i64) a0] (wL (cI .i64) r):=
 FnG.frozen (C:=LT.RL (cI .i64) r/\True) (Zab8 a0 h) ⟨rfl,trivial⟩ (by kernel_rfl)
def Z5h(a0:List (List Bool))(a1:Int)(a2:Int):LT Empty Bool:=
.cs (decide (a1>=0)) (.k3 0<|.cs (decide (a2>=0)) (.k3 1<|.len (cL cB) a0<|.k2 1<|.cs (decide (a1 < (a0.length:Int))) (.k4 2<|.idx (cL cB) a0 a1 fun x5=>.k2 2<|.len cB x5<|.k2 2<|.cs (decide (a2 < (x5.length:Int))) (.k3 3<|.ag (cL cB) x5 0<|.k3 3<|.idx cB x5 a2 fun x9=>.k2 3<|.rt x9)<|.k8 3<|.rt false)<|.k8 2<|.b8 false<|.rt false)<|.k5 1<|.b16 false<|.rt false)<|.k3 0<|.b16 false<|.b5 false<|.rt false
def Z5i:LF Empty Bool := .z0 149 [.t 6] wB
def Zzx:=fun a0 a1 a2=>Z5i.run (Z5h a0 a1 a2)
theorem Z3f(a0)(a1)(a2){r}(h:Zzx a0 a1 a2=some r):Fn PR 149 [wL (cL cB) a0,wI a1,wI a2] (wB r):=Z5i.fn h
inductive Zfd where
 | L0 (v1:List (List Bool)) (E0:List Int) (v5:Int) (E1:List (List Bool)) (v17:Int) (v18:Int)
 | L1 (v1:List (List Bool)) (E0:List Int) (v5:Int) (E1:List (List Bool)) (v7:Int) (v17:Int) (v18:Int) (v26:Int) (v27:Int)
 | L2 (E0:List Int) (v5:Int) (E1:List (List Bool)) (v48:Int) (v49:Int)
 | L3 (E0:List Int) (v5:Int) (E1:List (List Bool)) (v9:Int) (v48:Int) (v49:Int) (v52:Int) (v53:Int)
 | L4 (E0:List Int) (v5:Int) (E1:List (List Bool)) (v9:Int) (v10:Int) (v48:Int) (v49:Int) (v52:Int) (v53:Int) (v56:Int) (v57:Int)
def Zu4(v1:List (List Bool))(E0:List Int)(v5:Int)(E1:List (List Bool))(v17:Int)(v18:Int):LT Zfd ((List Int)×(List (List Bool))):=
.br (decide (v18 < v17)) (.mk cB 1024 1 false v5 v5 fun x2=>.idM cB E1 v18 fun x4=>.stR cB E1 v18 x2 0 fun x6=>.dr [.ahead 26,.relen 40100,.stop]<|.us [2]<|.us [2]<|.g0 (.L1 v1 E0 v5 x6 v18 v17 v18 v5 0))<|.g0 (.L2 E0 v5 E1 v5 0)
def Zu5(v1:List (List Bool))(E0:List Int)(v5:Int)(E1:List (List Bool))(v7:Int)(v17:Int)(v18:Int)(v26:Int)(v27:Int):LT Zfd ((List Int)×(List (List Bool))):=
.br (decide (v27 < v26)) (.idM cB E1 v7 fun x2=>.ldM cB E1 0<|.idx (cI .i64) E0 v7 fun x4=>.idx (cI .i64) E0 v27 fun x6=>.call (Z3f v1 x4 x6) fun x8=>.idN cB E1 x2 v27 0 fun x10=>.stM cB E1 v7 x2 v27 x8 0 8 fun x12=>.dr [.ahead 46,.relen 40100,.stop]<|.us [10]<|.us [10]<|.g0 (.L1 v1 E0 v5 x12 v7 v17 v18 v26 (IntKind.wrap .i64 (v27+1))))<|.g0 (.L0 v1 E0 v5 E1 v17 (IntKind.wrap .i64 (v18+1)))
def Zu6(E0:List Int)(v5:Int)(E1:List (List Bool))(v48:Int)(v49:Int):LT Zfd ((List Int)×(List (List Bool))):=
.br (decide (v49 < v48)) (.g0 (.L3 E0 v5 E1 v49 v48 v49 v5 0))<|.rl (cL cB) E1<|.ret (E0,E1) [.frz 3000,.frz 40100,.frz 3001]
def Zu7(E0:List Int)(v5:Int)(E1:List (List Bool))(v9:Int)(v48:Int)(v49:Int)(v52:Int)(v53:Int):LT Zfd ((List Int)×(List (List Bool))):=
.br (decide (v53 < v52)) (.g0 (.L4 E0 v5 E1 v9 v53 v48 v49 v52 v53 v5 0))<|.g0 (.L2 E0 v5 E1 v48 (IntKind.wrap .i64 (v49+1)))
def Zu8(E0:List Int)(v5:Int)(E1:List (List Bool))(v9:Int)(v10:Int)(v48:Int)(v49:Int)(v52:Int)(v53:Int)(v56:Int)(v57:Int):LT Zfd ((List Int)×(List (List Bool))):=
.br (decide (v57 < v56)) (.idM cB E1 v10 fun x2=>.ldM cB E1 0<|.idN cB E1 x2 v9 0 fun x4=>.ldN cB E1 x2 x4 1 3<|.cs x4 (.k3 1<|.idM cB E1 v9 fun x7=>.kg 1<|.ldM cB E1 4<|.k2 1<|.idN cB E1 x7 v57 4 fun x9=>.kg 1<|.ldN cB E1 x7 x9 5 7<|.kg 1<|.br x9 (.idM cB E1 v10 fun x12=>.ldM cB E1 8<|.idN cB E1 x12 v57 8 fun x14=>.stM cB E1 v10 x12 v57 true 8 10 fun x16=>.dr [.ahead 82,.relen 40100,.stop]<|.us [12]<|.us [12]<|.us [12]<|.us [12]<|.g0 (.L4 E0 v5 x16 v9 v10 v48 v49 v52 v53 v56 (IntKind.wrap .i64 (v57+1))))<|.g0 (.L4 E0 v5 E1 v9 v10 v48 v49 v52 v53 v56 (IntKind.wrap .i64 (v57+1))))<|.k8 1<|.kn [0]<|.g0 (.L4 E0 v5 E1 v9 v10 v48 v49 v52 v53 v56 (IntKind.wrap .i64 (v57+1))))<|.g0 (.L3 E0 v5 E1 v9 v48 v49 v52 (IntKind.wrap .i64 (v53+1)))
def Z8t(a0:List Int)(a1:List (List Bool)):LT Zfd ((List Int)×(List (List Bool))):=
.lb 1002<|.len (cI .i64) a0<|.mkE cB 1015 24 (a0.length:Int) (a0.length:Int) fun x2=>.dr [.ahead 6,.tomat 1015,.stop]<|.us [0]<|.lb 1006<|.lenO (cL cB) x2<|.go (.L0 a1 a0 (a0.length:Int) x2 (x2.length:Int) 0) [.relab 1002 3000,.relab 1006 3001,.relab 1015 40100]
def Z8u:LF Zfd ((List Int)×(List (List Bool))) := .m0 146 [.t 4] (fun r=>(.fn 192 [.vptr ((cL (cI .i64)) r.1),.vptr ((cL (cL cB)) r.2)])) fun | .L0 v1 E0 v5 E1 v17 v18=>([1,1,1,0,1,4],⟨86,[(1,wL (cL cB) v1),(2,.bptr 3000 0),(5,wI v5),(6,.bptr 3001 0),(17,wI v17),(18,wI v18)],[(3000,.box (bx ((cL (cI .i64)) E0))),(3001,.box [wM (cL cB) 40100 E1]),(40100,wT (cL cB) E1)]⟩,Zu4 v1 E0 v5 E1 v17 v18) | .L1 v1 E0 v5 E1 v7 v17 v18 v26 v27=>([1,1,1,0,1,4,5,1,1,0,4,1,1,1,4],⟨86,[(1,wL (cL cB) v1),(2,.bptr 3000 0),(5,wI v5),(6,.bptr 3001 0),(7,wI v7),(17,wI v17),(18,wI v18),(26,wI v26),(27,wI v27)],[(3000,.box (bx ((cL (cI .i64)) E0))),(3001,.box [wM (cL cB) 40100 E1]),(40100,wT (cL cB) E1)]⟩,Zu5 v1 E0 v5 E1 v7 v17 v18 v26 v27) | .L2 E0 v5 E1 v48 v49=>([1,1,1,1,0,1,4],⟨86,[(2,.bptr 3000 0),(5,wI v5),(6,.bptr 3001 0),(48,wI v48),(49,wI v49)],[(3000,.box (bx ((cL (cI .i64)) E0))),(3001,.box [wM (cL cB) 40100 E1]),(40100,wT (cL cB) E1)]⟩,Zu6 E0 v5 E1 v48 v49) | .L3 E0 v5 E1 v9 v48 v49 v52 v53=>([1,1,1,1,0,1,4,5,1,1,0,4,1,1,4],⟨86,[(2,.bptr 3000 0),(5,wI v5),(6,.bptr 3001 0),(9,wI v9),(48,wI v48),(49,wI v49),(52,wI v52),(53,wI v53)],[(3000,.box (bx ((cL (cI .i64)) E0))),(3001,.box [wM (cL cB) 40100 E1]),(40100,wT (cL cB) E1)]⟩,Zu7 E0 v5 E1 v9 v48 v49 v52 v53) | .L4 E0 v5 E1 v9 v10 v48 v49 v52 v53 v56 v57=>([1,1,1,1,0,1,4,5,1,1,0,4,1,1,4,5,1,1,0,4,1,1,4],⟨86,[(2,.bptr 3000 0),(5,wI v5),(6,.bptr 3001 0),(9,wI v9),(10,wI v10),(48,wI v48),(49,wI v49),(52,wI v52),(53,wI v53),(56,wI v56),(57,wI v57)],[(3000,.box (bx ((cL (cI .i64)) E0))),(3001,.box [wM (cL cB) 40100 E1]),(40100,wT (cL cB) E1)]⟩,Zu8 E0 v5 E1 v9 v10 v48 v49 v52 v53 v56 v57)
def Z3g:=fun a0 a1=>Z8u.run (Z8t a0 a1)
theorem Zank(a0)(a1){r}(h:Z3g a0 a1=some r):Fn PR 146 [wL (cI .i64) a0,wL (cL cB) a1] (.fn 192 [.vptr ((cL (cI .i64)) r.1),.vptr ((cL (cL cB)) r.2)]):=Z8u.fn h
def Zps(a0:Int)(a1:Int)(a2:List Int)(a3:List (List Bool)):LT Empty Bool:=
.call (Zi2 a2 a0) fun x1=>.call (Zi2 a2 a1) fun x3=>.cs (decide (x1>=0)) (.k3 0<|.cs (decide (x3>=0)) (.k3 1<|.idx (cL cB) a3 x1 fun x7=>.k3 1<|.idx cB x7 x3 fun x9=>.k2 1<|.rt x9)<|.k8 1<|.rt false)<|.k3 0<|.b8 false<|.rt false
def Zpt:LF Empty Bool := .z0 192 [.t 6] wB
def Zls:=fun a0 a1 a2 a3=>Zpt.run (Zps a0 a1 a2 a3)
theorem Z1e(a0)(a1)(a2)(a3){r}(h:Zls a0 a1 a2 a3=some r):Fn PR 192 [wI a0,wI a1,.vptr ((cL (cI .i64)) a2),.vptr ((cL (cL cB)) a3)] (wB r):=Zpt.fn h
def Zkn(a0:Int)(b0:Int)(b1:List (List Bool))(b2:(List Int)×(List (List Bool))):LT Empty Bool:=
.cs (a0 != b0) (.k4 0<|.call (Z3f b1 b0 a0) fun x2=>.kg 0<|.cs x2 (.k4 1<|.call (Z1e a0 b0 b2.1 b2.2) fun x5=>.k2 1<|.rt (!x5))<|.k5 1<|.kg 1<|.rt false)<|.k5 0<|.b5 false<|.kb false<|.rt false
def Zko(b0:Int)(b1:List (List Bool))(b2:(List Int)×(List (List Bool))):LF Empty Bool := .z 148 [.t 5] true (fun r=>[(0,.box (bx ((cI .i64) b0))),(1,.box (bx ((cL (cL cB)) b1))),(2,.box [.fn 192 [.vptr ((cL (cI .i64)) b2.1),.vptr ((cL (cL cB)) b2.2)]])]) (fun r=>(wB r))
def Zhf(a0:Int)(b0:Int)(b1:List (List Bool))(b2:(List Int)×(List (List Bool))):Option Bool:=(Zko b0 b1 b2).run (Zkn a0 b0 b1 b2)
theorem Zr0(a0:Int)(b0:Int)(b1:List (List Bool))(b2:(List Int)×(List (List Bool))){r:Bool}(h:Zhf a0 b0 b1 b2=some r):FnG PR 148 [(0,.box (bx ((cI .i64) b0))),(1,.box (bx ((cL (cL cB)) b1))),(2,.box [.fn 192 [.vptr ((cL (cI .i64)) b2.1),.vptr ((cL (cL cB)) b2.2)]])] [wI a0,.bptr 0 0,.bptr 1 0,.bptr 2 0] [(0,.box (bx ((cI .i64) b0))),(1,.box (bx ((cL (cL cB)) b1))),(2,.box [.fn 192 [.vptr ((cL (cI .i64)) b2.1),.vptr ((cL (cL cB)) b2.2)]])] (wB r):=(Zko b0 b1 b2).fn h
inductive Zbh where
 | L0 (v0:List Int) (c0:Int) (c1:List (List Bool)) (c2:(List Int)×(List (List Bool))) (v7:Int) (v8:Int)
def Zc7(v0:List Int)(c0:Int)(c1:List (List Bool))(c2:(List Int)×(List (List Bool)))(v7:Int)(v8:Int):LT Zbh (Int×Int×(List (List Bool))×((List Int)×(List (List Bool)))):=
.br (decide (v8 < v7)) (.idx (cI .i64) v0 v8 fun x2=>.callO (Zr0 x2 c0 c1 c2) [0,1,2] 170000 (fun x=>[]) fun x4=>.br x4 (.rt (v8,c0,c1,c2))<|.g0 (.L0 v0 c0 c1 c2 v7 (IntKind.wrap .i64 (v8+1))))<|.rt ((-1),c0,c1,c2)
def Zfu(a0:List Int)(b0:Int)(b1:List (List Bool))(b2:(List Int)×(List (List Bool))):LT Zbh (Int×Int×(List (List Bool))×((List Int)×(List (List Bool)))):=
.len (cI .i64) a0<|.g0 (.L0 a0 b0 b1 b2 (a0.length:Int) 0)
def Zfv:LF Zbh (Int×Int×(List (List Bool))×((List Int)×(List (List Bool)))) := .m 107 [.t 4] true (fun r=>[(0,.box (bx ((cI .i64) r.2.1))),(1,.box (bx ((cL (cL cB)) r.2.2.1))),(2,.box [.fn 192 [.vptr ((cL (cI .i64)) r.2.2.2.1),.vptr ((cL (cL cB)) r.2.2.2.2)]])]) (fun r=>(wI r.1)) fun | .L0 v0 c0 c1 c2 v7 v8=>([1,0,1,4],⟨19,[(0,wL (cI .i64) v0),(1,.fn 148 [.bptr 0 0,.bptr 1 0,.bptr 2 0]),(7,wI v7),(8,wI v8)],[(0,.box (bx ((cI .i64) c0))),(1,.box (bx ((cL (cL cB)) c1))),(2,.box [.fn 192 [.vptr ((cL (cI .i64)) c2.1),.vptr ((cL (cL cB)) c2.2)]])]⟩,Zc7 v0 c0 c1 c2 v7 v8)
def Zds:=fun a0 b0 b1 b2=>Zfv.run (Zfu a0 b0 b1 b2)
theorem Zkk(a0)(b0)(b1)(b2){r}(h:Zds a0 b0 b1 b2=some r):FnG PR 107 [(0,.box (bx ((cI .i64) b0))),(1,.box (bx ((cL (cL cB)) b1))),(2,.box [.fn 192 [.vptr ((cL (cI .i64)) b2.1),.vptr ((cL (cL cB)) b2.2)]])] [wL (cI .i64) a0,.fn 148 [.bptr 0 0,.bptr 1 0,.bptr 2 0]] [(0,.box (bx ((cI .i64) r.2.1))),(1,.box (bx ((cL (cL cB)) r.2.2.1))),(2,.box [.fn 192 [.vptr ((cL (cI .i64)) r.2.2.2.1),.vptr ((cL (cL cB)) r.2.2.2.2)]])] (wI r.1):=Zfv.fn h
def Ze1(a0:List Int)(b0:Int)(b1:List (List Bool))(b2:(List Int)×(List (List Bool))):LT Empty (Bool×Int×(List (List Bool))×((List Int)×(List (List Bool)))):=
.callU (Zkk a0 b0 b1 b2) [0,1,2] 80000 fun x1=>.rt (decide (x1.1>=0),x1.2.1,x1.2.2.1,x1.2.2.2)
def Ze2:LF Empty (Bool×Int×(List (List Bool))×((List Int)×(List (List Bool)))) := .z 147 [.t 4] true (fun r=>[(0,.box (bx ((cI .i64) r.2.1))),(1,.box (bx ((cL (cL cB)) r.2.2.1))),(2,.box [.fn 192 [.vptr ((cL (cI .i64)) r.2.2.2.1),.vptr ((cL (cL cB)) r.2.2.2.2)]])]) (fun r=>(wB r.1))
def Zc8:=fun a0 b0 b1 b2=>Ze2.run (Ze1 a0 b0 b1 b2)
theorem Zjm(a0)(b0)(b1)(b2){r}(h:Zc8 a0 b0 b1 b2=some r):FnG PR 147 [(0,.box (bx ((cI .i64) b0))),(1,.box (bx ((cL (cL cB)) b1))),(2,.box [.fn 192 [.vptr ((cL (cI .i64)) b2.1),.vptr ((cL (cL cB)) b2.2)]])] [wL (cI .i64) a0,.fn 148 [.bptr 0 0,.bptr 1 0,.bptr 2 0]] [(0,.box (bx ((cI .i64) r.2.1))),(1,.box (bx ((cL (cL cB)) r.2.2.1))),(2,.box [.fn 192 [.vptr ((cL (cI .i64)) r.2.2.2.1),.vptr ((cL (cL cB)) r.2.2.2.2)]])] (wB r.1):=Ze2.fn h
inductive Zmp where
 | L0 (E0:List (List Bool)) (v5:List Int) (E1:(List Int)×(List (List Bool))) (v7:List Int) (v16:List Int) (v17:Int) (v18:Int)
def Zu9(E0:List (List Bool))(v5:List Int)(E1:(List Int)×(List (List Bool)))(v7:List Int)(v16:List Int)(v17:Int)(v18:Int):LT Zmp (List Int):=
.br (decide (v18 < v17)) (.idx (cI .i64) v16 v18 fun x2=>.lb 1009<|.callU (Zjm v5 x2 E0 E1) [1009,3000,3001] 250000 fun x4=>.br (!x4.1) (.dr [.lit]<|.apR (cI .i64) 8 v7 [x4.2.1] fun x7=>.g0 (.L0 x4.2.2.1 v5 x4.2.2.2 x7 v16 v17 (IntKind.wrap .i64 (v18+1))))<|.g0 (.L0 x4.2.2.1 v5 x4.2.2.2 v7 v16 v17 (IntKind.wrap .i64 (v18+1))))<|.ret v7 [.relab 20007 5000]
def Z8v(a0:List Int)(a1:List (List Bool)):LT Zmp (List Int):=
.lb 1003<|.call (Zad9 a0) fun x1=>.call (Zank x1 a1) fun x3=>.lb 1006<|.len (cI .i64) x1<|.go (.L0 a1 x1 x3 ([]:List Int) x1 (x1.length:Int) 0) [.relab 1003 3000,.relab 1006 3001,.own 7 20007 1]
def Z8w:LF Zmp (List Int) := .m 96 [.t 4] true (fun r=>[(5000,wR (cI .i64) 1 r)]) (fun r=>(wO (cI .i64) 5000 r)) fun | .L0 E0 v5 E1 v7 v16 v17 v18=>([1,1,1,1,0,1,4],⟨33,[(3,.bptr 3000 0),(5,wL (cI .i64) v5),(6,.bptr 3001 0),(7,wO (cI .i64) 20007 v7),(16,wL (cI .i64) v16),(17,wI v17),(18,wI v18)],[(3000,.box (bx ((cL (cL cB)) E0))),(3001,.box [.fn 192 [.vptr ((cL (cI .i64)) E1.1),.vptr ((cL (cL cB)) E1.2)]]),(20007,wR (cI .i64) 1 v7)]⟩,Zu9 E0 v5 E1 v7 v16 v17 v18)
def Zva:=fun a0 a1=>Z8w.run (Z8v a0 a1)
theorem Zajr(a0)(a1){r}(h:Zva a0 a1=some r):FnG PR 96 [] [wL (cI .i64) a0,wL (cL cB) a1] [(5000,wR (cI .i64) 1 r)] (wO (cI .i64) 5000 r):=Z8w.fn h
theorem Zanl(a0:List Int)(a1:List (List Bool)){r:List Int}(h:Zva a0 a1=some r):Fn PR 96 [wL (cI .i64) a0,wL (cL cB) a1] (wL (cI .i64) r):=
 FnG.frozen (C:=LT.RL (cI .i64) r/\True) (Zajr a0 a1 h) ⟨rfl,trivial⟩ (by kernel_rfl)
def Z8x(a0:List Int)(a1:Int):LT Empty Int:=
.len (cI .i64) a0<|.br (decide (a1 < (a0.length:Int))) (.idx (cI .i64) a0 a1 fun x3=>.rt x3)<|.rt 0
def Z8y:LF Empty Int := .z0 97 [.t 4] wI
def Z3h:=fun a0 a1=>Z8y.run (Z8x a0 a1)
theorem Z5j(a0)(a1){r}(h:Z3h a0 a1=some r):Fn PR 97 [wL (cI .i64) a0,wI a1] (wI r):=Z8y.fn h
inductive Zn5 where
 | L0 (v1:List Int) (v7:Int) (v14:List Int) (v15:Int) (v16:Int)
def Zw0(v1:List Int)(v7:Int)(v14:List Int)(v15:Int)(v16:Int):LT Zn5 Int:=
.br (decide (v16 < v15)) (.idx (cI .i64) v14 v16 fun x2=>.br (decide (v7 < 0)) (.g0 (.L0 v1 x2 v14 v15 (IntKind.wrap .i64 (v16+1))))<|.call (Z5j v1 x2) fun x7=>.call (Z5j v1 v7) fun x9=>.cs (decide (x7 < x9)) (.k5 2<|.kg 2<|.kn [0]<|.g0 (.L0 v1 x2 v14 v15 (IntKind.wrap .i64 (v16+1))))<|.k4 2<|.cs (x7==x9) (.k3 3<|.kg 2<|.kg 3<|.kg 2<|.br (decide (x2 < v7)) (.g0 (.L0 v1 x2 v14 v15 (IntKind.wrap .i64 (v16+1))))<|.g0 (.L0 v1 v7 v14 v15 (IntKind.wrap .i64 (v16+1))))<|.k3 3<|.kg 2<|.kg 3<|.kg 2<|.kn [0]<|.g0 (.L0 v1 v7 v14 v15 (IntKind.wrap .i64 (v16+1))))<|.rt v7
def Zabr(a0:List Int)(a1:List Int)(a2:List (List Bool)):LT Zn5 Int:=
.call (Zanl a0 a2) fun x1=>.len (cI .i64) x1<|.g0 (.L0 a1 (-1) x1 (x1.length:Int) 0)
def Zabs:LF Zn5 Int := .m0 54 [.t 6] wI fun | .L0 v1 v7 v14 v15 v16=>([1,1,0,1,4],⟨45,[(1,wL (cI .i64) v1),(7,wI v7),(14,wL (cI .i64) v14),(15,wI v15),(16,wI v16)],[]⟩,Zw0 v1 v7 v14 v15 v16)
def Z60:=fun a0 a1 a2=>Zabs.run (Zabr a0 a1 a2)
theorem Zaph(a0)(a1)(a2){r}(h:Z60 a0 a1 a2=some r):Fn PR 54 [wL (cI .i64) a0,wL (cI .i64) a1,wL (cL cB) a2] (wI r):=Zabs.fn h
inductive Zd4 where
 | L0 (c0:Zj) (v10:List Ze) (v11:Int) (v12:Int)
def Zho(c0:Zj)(v10:List Ze)(v11:Int)(v12:Int):LT Zd4 Zj:=
.br (decide (v12 < v11)) (.idx Zk v10 v12 fun x2=>.lb 1003<|.idxR Zf c0.traits v12 fun x4=>.cs (x2.Zone==0) (.k2 1<|.rl Zf c0.traits<|.kg 1<|.rl Zf c0.traits<|.kg 1<|.rl Zf c0.traits<|.kg 1<|.ldR Zf c0.traits x4 5<|.k3 1<|.br ((Zbf .and .i64 x4.Line.Types 1) != 0) (.call (Zajn x2.Counters) fun x8=>.rl Zf c0.traits<|.rl Zf c0.traits<|.ldR Zf c0.traits x4 5<|.call (Zuv x4.Power x8) fun x10=>.rl Zf c0.traits<|.rl Zf c0.traits<|.ldR Zf c0.traits x4 5<|.call (Zuv x4.Tough x8) fun x12=>.rl Zf c0.traits<|.rl Zf c0.traits<|.setD Zf c0.traits v12 x4 (⟨x4.Name,x4.Cost,x4.Colors,x4.Line,x10,x4.Tough,x4.Keys,x4.Abilities,x4.Control⟩:Zb) 5 12 [.int .i64 x10] rfl fun x14=>.us [8]<|.us [8]<|.setE Zf c0.traits x14 v12 (⟨x4.Name,x4.Cost,x4.Colors,x4.Line,x10,x4.Tough,x4.Keys,x4.Abilities,x4.Control⟩:Zb) (⟨((⟨x4.Name,x4.Cost,x4.Colors,x4.Line,x10,x4.Tough,x4.Keys,x4.Abilities,x4.Control⟩:Zb)).Name,(⟨(((⟨x4.Name,x4.Cost,x4.Colors,x4.Line,x10,x4.Tough,x4.Keys,x4.Abilities,x4.Control⟩:Zb)).Cost).Generic,(((⟨x4.Name,x4.Cost,x4.Colors,x4.Line,x10,x4.Tough,x4.Keys,x4.Abilities,x4.Control⟩:Zb)).Cost).X,(((⟨x4.Name,x4.Cost,x4.Colors,x4.Line,x10,x4.Tough,x4.Keys,x4.Abilities,x4.Control⟩:Zb)).Cost).Color⟩:Zt),((⟨x4.Name,x4.Cost,x4.Colors,x4.Line,x10,x4.Tough,x4.Keys,x4.Abilities,x4.Control⟩:Zb)).Colors,((⟨x4.Name,x4.Cost,x4.Colors,x4.Line,x10,x4.Tough,x4.Keys,x4.Abilities,x4.Control⟩:Zb)).Line,((⟨x4.Name,x4.Cost,x4.Colors,x4.Line,x10,x4.Tough,x4.Keys,x4.Abilities,x4.Control⟩:Zb)).Power,x12,((⟨x4.Name,x4.Cost,x4.Colors,x4.Line,x10,x4.Tough,x4.Keys,x4.Abilities,x4.Control⟩:Zb)).Keys,((⟨x4.Name,x4.Cost,x4.Colors,x4.Line,x10,x4.Tough,x4.Keys,x4.Abilities,x4.Control⟩:Zb)).Abilities,((⟨x4.Name,x4.Cost,x4.Colors,x4.Line,x10,x4.Tough,x4.Keys,x4.Abilities,x4.Control⟩:Zb)).Control⟩:Zb) 7 12 13 [.int .i64 x12] rfl fun x16=>.dr [.ahead 56,.relen 1,.stop]<|.us [9]<|.us [9]<|.us [9]<|.us [9]<|.us [9]<|.us [9]<|.us [9]<|.us [9]<|.us [9]<|.us [9]<|.us [9]<|.us [9]<|.us [9]<|.us [9]<|.us [9]<|.us [9]<|.us [9]<|.us [9]<|.us [9]<|.us [9]<|.g0 (.L0 (⟨c0.s,c0.forces,x16,c0.dropped,c0.done,c0.hits⟩:Zj) v10 v11 (IntKind.wrap .i64 (v12+1))))<|.g0 (.L0 c0 v10 v11 (IntKind.wrap .i64 (v12+1))))<|.k8 1<|.kn [0]<|.g0 (.L0 c0 v10 v11 (IntKind.wrap .i64 (v12+1))))<|.rt c0
def Zm4(b0:Zj):LT Zd4 Zj:=
.len Zk b0.s.Objects<|.g0 (.L0 b0 b0.s.Objects (b0.s.Objects.length:Int) 0)
def Zm5:LF Zd4 Zj := .m 52 [] true (fun r=>[(0,.box (tm0 r)),(1,wR Zf 17 r.traits),(2,wR cB 1 r.dropped),(3,wR cB 1 r.done),(4,wR (cL (cI .i64)) 1 r.hits)]) (fun r => .tup []) fun | .L0 c0 v10 v11 v12=>([1,4],⟨57,[(0,.bptr 0 0),(10,wL Zk v10),(11,wI v11),(12,wI v12)],[(0,.box (tm0 c0)),(1,wR Zf 17 c0.traits),(2,wR cB 1 c0.dropped),(3,wR cB 1 c0.done),(4,wR (cL (cI .i64)) 1 c0.hits)]⟩,Zho c0 v10 v11 v12)
def Zjn:=fun b0=>Zm5.run (Zm4 b0)
theorem Zv2(b0){r}(h:Zjn b0=some r):FnG PR 52 [(0,.box (tm0 b0)),(1,wR Zf 17 b0.traits),(2,wR cB 1 b0.dropped),(3,wR cB 1 b0.done),(4,wR (cL (cI .i64)) 1 b0.hits)] [.bptr 0 0] [(0,.box (tm0 r)),(1,wR Zf 17 r.traits),(2,wR cB 1 r.dropped),(3,wR cB 1 r.done),(4,wR (cL (cI .i64)) 1 r.hits)] (.tup []):=Zm5.fn h
inductive Zdq where
 | L0 (v1:Int) (v2:Int) (E1:Zal) (v18:List Zi) (v19:Int) (v20:Int)
def Zg3(b0:Zj)(v1:Int)(v2:Int)(E1:Zal)(v18:List Zi)(v19:Int)(v20:Int):LT Zdq Bool:=
.br (decide (v20 < v19)) (.idx Zm v18 v20 fun x2=>.lb 1009<|.cs (x2.Kind==11) (.k3 1<|.call (Zuw x2.Kind) fun x5=>.k3 1<|.cs (x5==v2) (.k4 2<|.call (Zyv x2.Filter v2) fun x8=>.kg 2<|.br x8 (.rt true)<|.g0 (.L0 v1 v2 E1 v18 v19 (IntKind.wrap .i64 (v20+1))))<|.k5 2<|.kn [0]<|.g0 (.L0 v1 v2 E1 v18 v19 (IntKind.wrap .i64 (v20+1))))<|.k5 1<|.kg 1<|.b5 false<|.kn [0]<|.g0 (.L0 v1 v2 E1 v18 v19 (IntKind.wrap .i64 (v20+1))))<|.cs (!E1.Fixed) (.k5 1<|.kg 1<|.idxR cB b0.done v1 fun x18=>.kg 1<|.ldR cB b0.done x18 2<|.k2 1<|.cs (!x18) (.k3 2<|.cs (v2==4) (.k4 3<|.kg 2<|.kg 3<|.kg 2<|.rt true)<|.k4 3<|.call (Zyv E1.Filter v2) fun x22=>.kg 2<|.kg 3<|.kg 2<|.rt x22)<|.k5 2<|.rt false)<|.k8 1<|.kg 1<|.b5 false<|.rt false
def Zlx(b0:Zj)(a1:Int)(a2:Int):LT Zdq Bool:=
.idx Z2 b0.forces a1 fun x1=>.lb 1007<|.len Zm x1.Mods<|.go (.L0 a1 a2 x1 x1.Mods (x1.Mods.length:Int) 0) [.relab 1007 3001]
def Zly(b0:Zj):LF Zdq Bool := .m 98 [.t 6] true (fun r=>[(0,.box (tm0 b0)),(1,wR Zf 17 b0.traits),(2,wR cB 1 b0.dropped),(3,wR cB 1 b0.done),(4,wR (cL (cI .i64)) 1 b0.hits)]) wB fun | .L0 v1 v2 E1 v18 v19 v20=>([1,1,0,1,4],⟨64,[(0,.bptr 0 0),(1,wI v1),(2,wI v2),(7,.bptr 3001 0),(18,wL Zm v18),(19,wI v19),(20,wI v20)],[(0,.box (tm0 b0)),(1,wR Zf 17 b0.traits),(2,wR cB 1 b0.dropped),(3,wR cB 1 b0.done),(4,wR (cL (cI .i64)) 1 b0.hits),(3001,.box (bx (Z2 E1)))]⟩,Zg3 b0 v1 v2 E1 v18 v19 v20)
def Zih(b0:Zj)(a1:Int)(a2:Int):Option Bool:=(Zly b0).run (Zlx b0 a1 a2)
theorem Ztq(b0:Zj)(a1:Int)(a2:Int){r:Bool}(h:Zih b0 a1 a2=some r):FnG PR 98 [(0,.box (tm0 b0)),(1,wR Zf 17 b0.traits),(2,wR cB 1 b0.dropped),(3,wR cB 1 b0.done),(4,wR (cL (cI .i64)) 1 b0.hits)] [.bptr 0 0,wI a1,wI a2] [(0,.box (tm0 b0)),(1,wR Zf 17 b0.traits),(2,wR cB 1 b0.dropped),(3,wR cB 1 b0.done),(4,wR (cL (cI .i64)) 1 b0.hits)] (wB r):=(Zly b0).fn h
def Zmq(b0:Zj)(a1:Int):LT Empty Bool:=
.idx Z2 b0.forces a1 fun x1=>.lb 1005<|.cs x1.Fixed (.k8 0<|.kn [0]<|.rt true)<|.k5 0<|.kg 0<|.idxR cB b0.done a1 fun x4=>.kg 0<|.ldR cB b0.done x4 5<|.kg 0<|.br x4 (.rt true)<|.call (Zwv b0.s x1.Source) fun x7=>.cs (decide (x7 < 0)) (.k8 2<|.kg 2<|.rt true)<|.k5 2<|.kg 2<|.idxR cB b0.dropped x7 fun x10=>.kg 2<|.ldR cB b0.dropped x10 8<|.k2 2<|.rt (!x10)
def Zmr(b0:Zj):LF Empty Bool := .z 151 [.t 4] true (fun r=>[(0,.box (tm0 b0)),(1,wR Zf 17 b0.traits),(2,wR cB 1 b0.dropped),(3,wR cB 1 b0.done),(4,wR (cL (cI .i64)) 1 b0.hits)]) (fun r=>(wB r))
def Zi9(b0:Zj)(a1:Int):Option Bool:=(Zmr b0).run (Zmq b0 a1)
theorem Zle(b0:Zj)(a1:Int){r:Bool}(h:Zi9 b0 a1=some r):FnG PR 151 [(0,.box (tm0 b0)),(1,wR Zf 17 b0.traits),(2,wR cB 1 b0.dropped),(3,wR cB 1 b0.done),(4,wR (cL (cI .i64)) 1 b0.hits)] [.bptr 0 0,wI a1] [(0,.box (tm0 b0)),(1,wR Zf 17 b0.traits),(2,wR cB 1 b0.dropped),(3,wR cB 1 b0.done),(4,wR (cL (cI .i64)) 1 b0.hits)] (wB r):=(Zmr b0).fn h
def Zos(b0:Zj)(a1:Int):LT Empty Int:=
.idx Z2 b0.forces a1 fun x1=>.lb 1005<|.call (Zwv b0.s x1.Source) fun x3=>.cs (!x1.Fixed) (.k3 0<|.br (decide (x3>=0)) (.idxR Zf b0.traits x3 fun x7=>.rl Zf b0.traits<|.ldR Zf b0.traits x7 5<|.rt x7.Control)<|.rt x1.Control)<|.k3 0<|.kn [0]<|.rt x1.Control
def Zot(b0:Zj):LF Empty Int := .z 105 [.t 4] true (fun r=>[(0,.box (tm0 b0)),(1,wR Zf 17 b0.traits),(2,wR cB 1 b0.dropped),(3,wR cB 1 b0.done),(4,wR (cL (cI .i64)) 1 b0.hits)]) (fun r=>(wI r))
def Zkv(b0:Zj)(a1:Int):Option Int:=(Zot b0).run (Zos b0 a1)
theorem Zii(b0:Zj)(a1:Int){r:Int}(h:Zkv b0 a1=some r):FnG PR 105 [(0,.box (tm0 b0)),(1,wR Zf 17 b0.traits),(2,wR cB 1 b0.dropped),(3,wR cB 1 b0.done),(4,wR (cL (cI .i64)) 1 b0.hits)] [.bptr 0 0,wI a1] [(0,.box (tm0 b0)),(1,wR Zf 17 b0.traits),(2,wR cB 1 b0.dropped),(3,wR cB 1 b0.done),(4,wR (cL (cI .i64)) 1 b0.hits)] (wI r):=(Zot b0).fn h
inductive Zdh where
 | L0 (E1:Zal) (v6:Int) (v7:List Int) (v42:List Ze) (v43:Int) (v44:Int)
def Zgq(b0:Zj)(E1:Zal)(v6:Int)(v7:List Int)(v42:List Ze)(v43:Int)(v44:Int):LT Zdh (List Int):=
.br (decide (v44 < v43)) (.idx Zk v42 v44 fun x2=>.lb 1009<|.cs (x2.Zone==0) (.k3 1<|.cs E1.Fixed (.k5 2<|.call (Zlv E1.Objects x2.Id) fun x6=>.kg 1<|.kg 2<|.kg 1<|.cs x6 (.k5 3<|.kg 1<|.kg 3<|.kg 1<|.kn [0]<|.dr [.lit]<|.apR (cI .i64) 8 v7 [v44] fun x9=>.g0 (.L0 E1 v6 x9 v42 v43 (IntKind.wrap .i64 (v44+1))))<|.k4 3<|.cs (!E1.Fixed) (.k5 4<|.k2 4<|.idxR Zf b0.traits v44 fun x15=>.kg 4<|.ldR Zf b0.traits x15 5<|.k5 4<|.kg 4<|.call (Zu2 x2 x15 v6 E1.Source E1.Filter) fun x17=>.kg 3<|.kg 4<|.kg 1<|.kg 3<|.kg 1<|.br x17 (.dr [.lit]<|.apR (cI .i64) 8 v7 [v44] fun x20=>.g0 (.L0 E1 v6 x20 v42 v43 (IntKind.wrap .i64 (v44+1))))<|.g0 (.L0 E1 v6 v7 v42 v43 (IntKind.wrap .i64 (v44+1))))<|.k8 4<|.k5 4<|.kg 4<|.kg 3<|.kg 4<|.kg 1<|.kg 3<|.kg 1<|.kn [0]<|.g0 (.L0 E1 v6 v7 v42 v43 (IntKind.wrap .i64 (v44+1))))<|.k5 2<|.kg 1<|.kg 2<|.kg 1<|.b4 false<|.cs (!E1.Fixed) (.k5 3<|.k2 3<|.idxR Zf b0.traits v44 fun x30=>.kg 3<|.ldR Zf b0.traits x30 5<|.k5 3<|.kg 3<|.call (Zu2 x2 x30 v6 E1.Source E1.Filter) fun x32=>.kb false<|.kg 3<|.kg 1<|.kb false<|.kg 1<|.br x32 (.dr [.lit]<|.apR (cI .i64) 8 v7 [v44] fun x35=>.g0 (.L0 E1 v6 x35 v42 v43 (IntKind.wrap .i64 (v44+1))))<|.g0 (.L0 E1 v6 v7 v42 v43 (IntKind.wrap .i64 (v44+1))))<|.k8 3<|.k5 3<|.kg 3<|.kb false<|.kg 3<|.kg 1<|.kb false<|.kg 1<|.kn [0]<|.g0 (.L0 E1 v6 v7 v42 v43 (IntKind.wrap .i64 (v44+1))))<|.k5 1<|.k2 1<|.kn [0]<|.g0 (.L0 E1 v6 v7 v42 v43 (IntKind.wrap .i64 (v44+1))))<|.rl (cI .i64) v7<|.rl (cI .i64) v7<|.rl (cI .i64) v7<|.ret v7 [.frz 20007]
def Zlf(b0:Zj)(a1:Int):LT Zdh (List Int):=
.idxR cB b0.done a1 fun x1=>.ldR cB b0.done x1 2<|.br x1 (.idxR (cL (cI .i64)) b0.hits a1 fun x4=>.ldR (cL (cI .i64)) b0.hits x4 5<|.rt x4)<|.callO (Zle b0 a1) [0,1,2,3,4] 270000 (fun x=>[]) fun x6=>.br (!x6) (.ret ([]:List Int) [.nilt 4])<|.idx Z2 b0.forces a1 fun x9=>.callO (Zii b0 a1) [0,1,2,3,4] 380000 (fun x=>[]) fun x11=>.lb 1005<|.len Zk b0.s.Objects<|.go (.L0 x9 x11 ([]:List Int) b0.s.Objects (b0.s.Objects.length:Int) 0) [.relab 1005 3001,.own 7 20007 1]
def Zlg(b0:Zj):LF Zdh (List Int) := .m 103 [.t 4] true (fun r=>[(0,.box (tm0 b0)),(1,wR Zf 17 b0.traits),(2,wR cB 1 b0.dropped),(3,wR cB 1 b0.done),(4,wR (cL (cI .i64)) 1 b0.hits)]) (fun r=>(wL (cI .i64) r)) fun | .L0 E1 v6 v7 v42 v43 v44=>([1,1,1,1,1,0,1,4],⟨90,[(0,.bptr 0 0),(5,.bptr 3001 0),(6,wI v6),(7,wO (cI .i64) 20007 v7),(42,wL Zk v42),(43,wI v43),(44,wI v44)],[(0,.box (tm0 b0)),(1,wR Zf 17 b0.traits),(2,wR cB 1 b0.dropped),(3,wR cB 1 b0.done),(4,wR (cL (cI .i64)) 1 b0.hits),(3001,.box (bx (Z2 E1))),(20007,wR (cI .i64) 1 v7)]⟩,Zgq b0 E1 v6 v7 v42 v43 v44)
def Zhp(b0:Zj)(a1:Int):Option (List Int):=(Zlg b0).run (Zlf b0 a1)
theorem Zka(b0:Zj)(a1:Int){r:List Int}(h:Zhp b0 a1=some r):FnG PR 103 [(0,.box (tm0 b0)),(1,wR Zf 17 b0.traits),(2,wR cB 1 b0.dropped),(3,wR cB 1 b0.done),(4,wR (cL (cI .i64)) 1 b0.hits)] [.bptr 0 0,wI a1] [(0,.box (tm0 b0)),(1,wR Zf 17 b0.traits),(2,wR cB 1 b0.dropped),(3,wR cB 1 b0.done),(4,wR (cL (cI .i64)) 1 b0.hits)] (wL (cI .i64) r):=(Zlg b0).fn h
inductive Zdr where
 | L0 (v1:Int) (v2:Int) (E1:Zal) (v8:List Int) (v23:List Zi) (v24:Int) (v25:Int)
def Zg4(b0:Zj)(v1:Int)(v2:Int)(E1:Zal)(v8:List Int)(v23:List Zi)(v24:Int)(v25:Int):LT Zdr (List Int):=
.br (decide (v25 < v24)) (.idx Zm v23 v25 fun x2=>.lb 1010<|.cs (x2.Kind==11) (.k3 1<|.call (Zuw x2.Kind) fun x5=>.k3 1<|.br (x5==v2) (.callO (Zii b0 v1) [0,1,2,3,4] 530000 (fun x=>[]) fun x8=>.rl Zf b0.traits<|.callS (Zapf b0.s b0.traits x8 E1.Source x2.Filter) 580000 (fun _=>⟨rfl,Z1z (cI .i64) (fun _=>rfl) _,trivial⟩) fun x10=>.lenO (cI .i64) x10<|.idxR (cI .i64) v8 v25 fun x12=>.setD (cI .i64) v8 v25 x12 (x10.length:Int) 5 0 [.int .i64 (x10.length:Int)] rfl fun x14=>.dr [.ahead 60,.relen 20008,.stop]<|.us [6]<|.us [6]<|.us [6]<|.g0 (.L0 v1 v2 E1 x14 v23 v24 (IntKind.wrap .i64 (v25+1))))<|.g0 (.L0 v1 v2 E1 v8 v23 v24 (IntKind.wrap .i64 (v25+1))))<|.k5 1<|.kg 1<|.kn [0]<|.g0 (.L0 v1 v2 E1 v8 v23 v24 (IntKind.wrap .i64 (v25+1))))<|.ret v8 [.relab 20008 5000]
def Zlz(b0:Zj)(a1:Int)(a2:Int):LT Zdr (List Int):=
.idx Z2 b0.forces a1 fun x1=>.lb 1007<|.len Zm x1.Mods<|.mk (cI .i64) 1021 8 0 (x1.Mods.length:Int) (x1.Mods.length:Int) fun x4=>.len Zm x1.Mods<|.go (.L0 a1 a2 x1 x4 x1.Mods (x1.Mods.length:Int) 0) [.relab 1007 3001,.relab 1021 20008]
def Zl0(b0:Zj):LF Zdr (List Int) := .m 104 [.t 6] true (fun r=>[(5000,wR (cI .i64) 1 r),(0,.box (tm0 b0)),(1,wR Zf 17 b0.traits),(2,wR cB 1 b0.dropped),(3,wR cB 1 b0.done),(4,wR (cL (cI .i64)) 1 b0.hits)]) (fun r=>(wO (cI .i64) 5000 r)) fun | .L0 v1 v2 E1 v8 v23 v24 v25=>([1,1,1,0,1,4],⟨62,[(0,.bptr 0 0),(1,wI v1),(2,wI v2),(7,.bptr 3001 0),(8,wO (cI .i64) 20008 v8),(23,wL Zm v23),(24,wI v24),(25,wI v25)],[(0,.box (tm0 b0)),(1,wR Zf 17 b0.traits),(2,wR cB 1 b0.dropped),(3,wR cB 1 b0.done),(4,wR (cL (cI .i64)) 1 b0.hits),(3001,.box (bx (Z2 E1))),(20008,wR (cI .i64) 1 v8)]⟩,Zg4 b0 v1 v2 E1 v8 v23 v24 v25)
def Zij(b0:Zj)(a1:Int)(a2:Int):Option (List Int):=(Zl0 b0).run (Zlz b0 a1 a2)
theorem Zkp(b0:Zj)(a1:Int)(a2:Int){r:List Int}(h:Zij b0 a1 a2=some r):FnG PR 104 [(0,.box (tm0 b0)),(1,wR Zf 17 b0.traits),(2,wR cB 1 b0.dropped),(3,wR cB 1 b0.done),(4,wR (cL (cI .i64)) 1 b0.hits)] [.bptr 0 0,wI a1,wI a2] [(5000,wR (cI .i64) 1 r),(0,.box (tm0 b0)),(1,wR Zf 17 b0.traits),(2,wR cB 1 b0.dropped),(3,wR cB 1 b0.done),(4,wR (cL (cI .i64)) 1 b0.hits)] (wO (cI .i64) 5000 r):=(Zl0 b0).fn h
def Zn6(b0:Zj)(a1:Int)(a2:Int):LT Empty Zbb:=
.lb 1006<|.callO (Zle b0 a1) [0,1,2,3,4] 100000 (fun x=>[]) fun x1=>.callO (Zka b0 a1) [0,1,2,3,4] 130000 (fun x=>[]) fun x3=>.callO (Zkp b0 a1 a2) [0,1,2,3,4] 170000 (fun x=>[(5000,wR (cI .i64) 1 x)]) fun x5=>.ret (⟨x1,x3,x5⟩:Zbb) [.relab 175000 5002]
def Zn7(b0:Zj):LF Empty Zbb := .z 99 [.c 6 174 true 3] true (fun r=>[(5002,wR (cI .i64) 1 r.numbers),(0,.box (tm0 b0)),(1,wR Zf 17 b0.traits),(2,wR cB 1 b0.dropped),(3,wR cB 1 b0.done),(4,wR (cL (cI .i64)) 1 b0.hits)]) (fun r=>(.agg [wB r.active,wL (cI .i64) r.hits,wO (cI .i64) 5002 r.numbers]))
def Zkb(b0:Zj)(a1:Int)(a2:Int):Option Zbb:=(Zn7 b0).run (Zn6 b0 a1 a2)
theorem Zms(b0:Zj)(a1:Int)(a2:Int){r:Zbb}(h:Zkb b0 a1 a2=some r):FnG PR 99 [(0,.box (tm0 b0)),(1,wR Zf 17 b0.traits),(2,wR cB 1 b0.dropped),(3,wR cB 1 b0.done),(4,wR (cL (cI .i64)) 1 b0.hits)] [.bptr 0 0,wI a1,wI a2] [(5002,wR (cI .i64) 1 r.numbers),(0,.box (tm0 b0)),(1,wR Zf 17 b0.traits),(2,wR cB 1 b0.dropped),(3,wR cB 1 b0.done),(4,wR (cL (cI .i64)) 1 b0.hits)] (.agg [wB r.active,wL (cI .i64) r.hits,wO (cI .i64) 5002 r.numbers]):=(Zn7 b0).fn h
def Zdo(a0:List (Opq 17))(hne:a0≠[]):LT Empty (List (Opq 17)):=
.ne (Zln (k:=17)) hne<|.kn [0]<|.lb 1005<|.apR (Zln (k:=17)) 176 ([]:List (Opq 17)) a0 fun x1=>.ret x1 [.relab 1005 5000]
def Zat:LF Empty (List (Opq 17)) := .z 152 [.t 2] true (fun r=>[(5000,wR (Zln (k:=17)) 17 r)]) (fun r=>(wO (Zln (k:=17)) 5000 r))
def Zdi(c:Nat):LT Empty (List (Opq 17)):=
.kn [0]<|.ret ([]:List (Opq 17)) [.own 2 5000 17]
def Zlh(c:Nat)(ad:Addr):LT Empty (List (Opq 17)):=
.kn [0]<|.lb 1005<|.apR (Zln (k:=17)) 176 ([]:List (Opq 17)) ([]:List (Opq 17)) fun x1=>.ret x1 [.relab 1005 5000]
open Classical in
def Zcc(a0:List (Opq 17)):Option (List (Opq 17)):=if h:a0≠[] then Zat.run (Zdo a0 h) else Zat.run (Zdi 0)
theorem Zkw(a0:List (Opq 17)){r:List (Opq 17)}(h:Zcc a0=some r):FnG PR 152 [] [wL (Zln (k:=17)) a0] [(5000,wR (Zln (k:=17)) 17 r)] (wO (Zln (k:=17)) 5000 r):=by
 by_cases hne:a0=[]
 .subst hne
  have h0:Zat.run (Zdi 0)=some r:=h
  exact FnG.split0 (fun e=>absurd rfl e) (fun _ a c=>by
   cases a with
   | none=>exact Zat.fn (t:=Zdi c) h0
   | some ad=>exact Zat.fn (t:=Zlh c ad) h0)
 .have h0:Zat.run (Zdo a0 hne)=some r:=by unfold Zcc at h;rwa [dif_pos hne] at h
  exact FnG.split0 (fun _=>Zat.fn h0) (fun e=>absurd (List.map_eq_nil_iff.1 e) hne)
theorem Znr:Zrf PR 152 17 176:=Zrf.of (g:=Zcc) (fun a h=>by
 unfold Zcc
 by_cases e:a=[]
 .subst e;rfl
 .rw [dif_pos e];unfold LF.run;dsimp only [Zdo,LT.den];rw [Za0e h (by decide)];rfl) (fun a _ h=>Zkw a h)
def Zfm(a0:List (Opq 1))(hne:a0≠[]):LT Empty (List (Opq 1)):=
.ne (Zln (k:=1)) hne<|.kn [0]<|.lb 1005<|.apR (Zln (k:=1)) 24 ([]:List (Opq 1)) a0 fun x1=>.ret x1 [.relab 1005 5000]
def Zbg:LF Empty (List (Opq 1)) := .z 154 [.t 2] true (fun r=>[(5000,wR (Zln (k:=1)) 1 r)]) (fun r=>(wO (Zln (k:=1)) 5000 r))
def Zfe(c:Nat):LT Empty (List (Opq 1)):=
.kn [0]<|.ret ([]:List (Opq 1)) [.own 2 5000 1]
def Zql(c:Nat)(ad:Addr):LT Empty (List (Opq 1)):=
.kn [0]<|.lb 1005<|.apR (Zln (k:=1)) 24 ([]:List (Opq 1)) ([]:List (Opq 1)) fun x1=>.ret x1 [.relab 1005 5000]
open Classical in
def Zea(a0:List (Opq 1)):Option (List (Opq 1)):=if h:a0≠[] then Zbg.run (Zfm a0 h) else Zbg.run (Zfe 0)
theorem Zpu(a0:List (Opq 1)){r:List (Opq 1)}(h:Zea a0=some r):FnG PR 154 [] [wL (Zln (k:=1)) a0] [(5000,wR (Zln (k:=1)) 1 r)] (wO (Zln (k:=1)) 5000 r):=by
 by_cases hne:a0=[]
 .subst hne
  have h0:Zbg.run (Zfe 0)=some r:=h
  exact FnG.split0 (fun e=>absurd rfl e) (fun _ a c=>by
   cases a with
   | none=>exact Zbg.fn (t:=Zfe c) h0
   | some ad=>exact Zbg.fn (t:=Zql c ad) h0)
 .have h0:Zbg.run (Zfm a0 hne)=some r:=by unfold Zea at h;rwa [dif_pos hne] at h
  exact FnG.split0 (fun _=>Zbg.fn h0) (fun e=>absurd (List.map_eq_nil_iff.1 e) hne)
theorem Zvb:Zrf PR 154 1 24:=Zrf.of (g:=Zea) (fun a h=>by
 unfold Zea
 by_cases e:a=[]
 .subst e;rfl
 .rw [dif_pos e];unfold LF.run;dsimp only [Zfm,LT.den];rw [Za0e h (by decide)];rfl) (fun a _ h=>Zpu a h)
def Zmt(b0:Zj):LT Empty Zj:=
.lb 1003<|.callC Znr Zf 1011 b0.traits<|.rl cB b0.dropped<|.callS (Zlw b0.dropped) 170000 (fun _=>⟨rfl,Z1z cB (fun _=>rfl) _,trivial⟩) fun x4=>.rl cB b0.done<|.callS (Zlw b0.done) 220000 (fun _=>⟨rfl,Z1z cB (fun _=>rfl) _,trivial⟩) fun x6=>.callC Zvb (cL (cI .i64)) 1026 b0.hits<|.ret (⟨b0.s,b0.forces,b0.traits,x4,x6,b0.hits⟩:Zj) [.relab 1003 5000,.relab 1011 5021,.relab 175000 5022,.relab 225000 5023,.relab 1026 5024]
def Zmu(b0:Zj):LF Empty Zj := .z 102 [.t 2] true (fun r=>[(5000,.box (tm5 r 5000)),(5021,wR Zf 17 r.traits),(5022,wR cB 1 r.dropped),(5023,wR cB 1 r.done),(5024,wR (cL (cI .i64)) 1 r.hits),(0,.box (tm0 b0)),(1,wR Zf 17 b0.traits),(2,wR cB 1 b0.dropped),(3,wR cB 1 b0.done),(4,wR (cL (cI .i64)) 1 b0.hits)]) (fun r=>(.bptr 5000 0))
def Zja(b0:Zj):Option Zj:=(Zmu b0).run (Zmt b0)
theorem Zvc(b0:Zj){r:Zj}(h:Zja b0=some r):FnG PR 102 [(0,.box (tm0 b0)),(1,wR Zf 17 b0.traits),(2,wR cB 1 b0.dropped),(3,wR cB 1 b0.done),(4,wR (cL (cI .i64)) 1 b0.hits)] [.bptr 0 0] [(5000,.box (tm5 r 5000)),(5021,wR Zf 17 r.traits),(5022,wR cB 1 r.dropped),(5023,wR cB 1 r.done),(5024,wR (cL (cI .i64)) 1 r.hits),(0,.box (tm0 b0)),(1,wR Zf 17 b0.traits),(2,wR cB 1 b0.dropped),(3,wR cB 1 b0.done),(4,wR (cL (cI .i64)) 1 b0.hits)] (.bptr 5000 0):=(Zmu b0).fn h
inductive Zc0 where
 | L0 (c0:Zj) (v1:Int) (v2:Int) (v6:List Int) (v7:List Int) (v8:Int) (v23:List Int) (v24:Int) (v25:Int)
 | L1 (c0:Zj) (v1:Int) (v2:Int) (v6:List Int) (v7:List Int) (v8:Int) (v10:Int) (v23:List Int) (v24:Int) (v25:Int) (v36:List Zi) (v37:Int) (v38:Int)
def Zhq(c0:Zj)(v1:Int)(v2:Int)(v6:List Int)(v7:List Int)(v8:Int)(v23:List Int)(v24:Int)(v25:Int):LT Zc0 Zj:=
.br (decide (v25 < v24)) (.idx (cI .i64) v23 v25 fun x2=>.idx Z2 c0.forces v1 fun x4=>.len Zm x4.Mods<|.g0 (.L1 c0 v1 v2 v6 v7 v8 x2 v23 v24 v25 x4.Mods (x4.Mods.length:Int) 0))<|.idxR cB c0.done v1 fun x7=>.setD cB c0.done v1 x7 true 2 0 [.bool true] rfl fun x9=>.idxR (cL (cI .i64)) c0.hits v1 fun x11=>.setD (cL (cI .i64)) c0.hits v1 x11 v6 8 0 [.sl (List.map (cI .i64) v6)] rfl fun x13=>.us [3]<|.us [3]<|.us [3]<|.us [9]<|.us [9]<|.us [9]<|.ret (⟨c0.s,c0.forces,c0.traits,c0.dropped,x9,x13⟩:Zj) [.relen 3,.relen 4]
def Zhr(c0:Zj)(v1:Int)(v2:Int)(v6:List Int)(v7:List Int)(v8:Int)(v10:Int)(v23:List Int)(v24:Int)(v25:Int)(v36:List Zi)(v37:Int)(v38:Int):LT Zc0 Zj:=
.br (decide (v38 < v37)) (.idx Zm v36 v38 fun x2=>.lb 1012<|.call (Zuw x2.Kind) fun x4=>.br (x4 != v2) (.g0 (.L1 c0 v1 v2 v6 v7 v8 v10 v23 v24 v25 v36 v37 (IntKind.wrap .i64 (v38+1))))<|.idxR Zf c0.traits v10 fun x9=>.ldR Zf c0.traits x9 5<|.idxR (cI .i64) v7 v38 fun x11=>.ldR (cI .i64) v7 x11 8<|.call (Zawx x9 x2 v8 x11) fun x13=>.plR Zf c0.traits v10 3<|.setD Zf c0.traits v10 x9 x13 5 0 (tm10 x13) rfl fun x15=>.dr [.ahead 68,.relen 1,.stop]<|.us [9]<|.us [9]<|.us [9]<|.us [9]<|.us [9]<|.br (x2.Kind==10) (.idxR cB c0.dropped v10 fun x18=>.setR cB c0.dropped v10 x18 true 14 0 [.bool true] rfl fun x20=>.dr [.ahead 77,.relen 2,.stop]<|.us [15]<|.us [15]<|.us [15]<|.g0 (.L1 (⟨c0.s,c0.forces,x15,x20,c0.done,c0.hits⟩:Zj) v1 v2 v6 v7 v8 v10 v23 v24 v25 v36 v37 (IntKind.wrap .i64 (v38+1))))<|.g0 (.L1 (⟨c0.s,c0.forces,x15,c0.dropped,c0.done,c0.hits⟩:Zj) v1 v2 v6 v7 v8 v10 v23 v24 v25 v36 v37 (IntKind.wrap .i64 (v38+1))))<|.g0 (.L0 c0 v1 v2 v6 v7 v8 v23 v24 (IntKind.wrap .i64 (v25+1)))
def Zm6(b0:Zj)(a1:Int)(a2:Int):LT Zc0 Zj:=
.callO (Zka b0 a1) [0,1,2,3,4] 160000 (fun x=>[]) fun x1=>.callO (Zkp b0 a1 a2) [0,1,2,3,4] 200000 (fun x=>[(5000,wR (cI .i64) 1 x)]) fun x3=>.callO (Zii b0 a1) [0,1,2,3,4] 230000 (fun x=>[]) fun x5=>.len (cI .i64) x1<|.go (.L0 b0 a1 a2 x1 x3 x5 x1 (x1.length:Int) 0) [.relab 205000 20007]
def Zm7:LF Zc0 Zj := .m 56 [] true (fun r=>[(0,.box (tm0 r)),(1,wR Zf 17 r.traits),(2,wR cB 1 r.dropped),(3,wR cB 1 r.done),(4,wR (cL (cI .i64)) 1 r.hits)]) (fun r => .tup []) fun | .L0 c0 v1 v2 v6 v7 v8 v23 v24 v25=>([1,0,1,4],⟨92,[(0,.bptr 0 0),(1,wI v1),(2,wI v2),(6,wL (cI .i64) v6),(7,wO (cI .i64) 20007 v7),(8,wI v8),(23,wL (cI .i64) v23),(24,wI v24),(25,wI v25)],[(0,.box (tm0 c0)),(1,wR Zf 17 c0.traits),(2,wR cB 1 c0.dropped),(3,wR cB 1 c0.done),(4,wR (cL (cI .i64)) 1 c0.hits),(20007,wR (cI .i64) 1 v7)]⟩,Zhq c0 v1 v2 v6 v7 v8 v23 v24 v25) | .L1 c0 v1 v2 v6 v7 v8 v10 v23 v24 v25 v36 v37 v38=>([1,0,1,4,5,1,1,0,4,1,1,4],⟨92,[(0,.bptr 0 0),(1,wI v1),(2,wI v2),(6,wL (cI .i64) v6),(7,wO (cI .i64) 20007 v7),(8,wI v8),(10,wI v10),(23,wL (cI .i64) v23),(24,wI v24),(25,wI v25),(36,wL Zm v36),(37,wI v37),(38,wI v38)],[(0,.box (tm0 c0)),(1,wR Zf 17 c0.traits),(2,wR cB 1 c0.dropped),(3,wR cB 1 c0.done),(4,wR (cL (cI .i64)) 1 c0.hits),(20007,wR (cI .i64) 1 v7)]⟩,Zhr c0 v1 v2 v6 v7 v8 v10 v23 v24 v25 v36 v37 v38)
def Zjo:=fun b0 a1 a2=>Zm7.run (Zm6 b0 a1 a2)
theorem Zl1(b0)(a1)(a2){r}(h:Zjo b0 a1 a2=some r):FnG PR 56 [(0,.box (tm0 b0)),(1,wR Zf 17 b0.traits),(2,wR cB 1 b0.dropped),(3,wR cB 1 b0.done),(4,wR (cL (cI .i64)) 1 b0.hits)] [.bptr 0 0,wI a1,wI a2] [(0,.box (tm0 r)),(1,wR Zf 17 r.traits),(2,wR cB 1 r.dropped),(3,wR cB 1 r.done),(4,wR (cL (cI .i64)) 1 r.hits)] (.tup []):=Zm7.fn h
inductive Za8 where
 | L0 (v2:Int) (v7:List (List Bool)) (v27:Int) (v28:Int)
 | L1 (v2:Int) (v7:List (List Bool)) (v9:List (Int×Zbb)) (v43:Int) (v44:Int)
 | L2 (v2:Int) (v7:List (List Bool)) (v9:List (Int×Zbb)) (v69:Int) (v70:Int)
 | L3 (v2:Int) (v7:List (List Bool)) (v9:List (Int×Zbb)) (v14:Int) (E1:Zj) (v69:Int) (v70:Int) (v81:Int) (v82:Int)
def Zfn(b0:Zj)(a1:List Int)(v2:Int)(v7:List (List Bool))(v27:Int)(v28:Int):LT Za8 (List (List Bool)):=
.br (decide (v28 < v27)) (.len Z2 b0.forces<|.mk cB 1038 1 false (b0.forces.length:Int) (b0.forces.length:Int) fun x2=>.idM cB v7 v28 fun x4=>.stR cB v7 v28 x2 0 fun x6=>.dr [.ahead 40,.relen 20007,.stop]<|.us [2]<|.us [2]<|.g0 (.L0 v2 x6 v27 (IntKind.wrap .i64 (v28+1))))<|.lb 1041<|.lenO (cI .i64) a1<|.go (.L1 v2 v7 ([]:List (Int×Zbb)) (a1.length:Int) 0) [.relab 1041 20009]
def Zfo(b0:Zj)(a1:List Int)(v2:Int)(v7:List (List Bool))(v9:List (Int×Zbb))(v43:Int)(v44:Int):LT Za8 (List (List Bool)):=
.br (decide (v44 < v43)) (.idxR (cI .i64) a1 v44 fun x2=>.ldR (cI .i64) a1 x2 2<|.callO (Ztq b0 x2 v2) [0,2,3,4,5] 520000 (fun x=>[]) fun x4=>.br x4 (.callO (Zms b0 x2 v2) [0,2,3,4,5] 580000 (fun x=>[(5002,wR (cI .i64) 1 x.numbers)]) fun x7=>.dr [.ahead 1000000,.frz 585002,.stop]<|.rl (cI .i64) x7.numbers<|.stG Zf6 v9 x2 x7 (.agg [wB x7.active,wL (cI .i64) x7.hits,wL (cI .i64) x7.numbers]) (wA (Zf6 x7)) rfl fun x9=>.g0 (.L1 v2 v7 x9 v43 (IntKind.wrap .i64 (v44+1))))<|.g0 (.L1 v2 v7 v9 v43 (IntKind.wrap .i64 (v44+1))))<|.lenG Zf6 v9<|.cs ((v9.length:Int)==0) (.k4 1<|.kn [0]<|.rl (cL cB) v7<|.rl (cL cB) v7<|.rl (cL cB) v7<|.ret v7 [.frz 20007])<|.k2 1<|.lenO (cI .i64) a1<|.k2 1<|.br (decide ((a1.length:Int) < 2)) (.rl (cL cB) v7<|.rl (cL cB) v7<|.rl (cL cB) v7<|.ret v7 [.frz 20007])<|.lenO (cI .i64) a1<|.g0 (.L2 v2 v7 v9 (a1.length:Int) 0)
def Zfp(b0:Zj)(a1:List Int)(v2:Int)(v7:List (List Bool))(v9:List (Int×Zbb))(v69:Int)(v70:Int):LT Za8 (List (List Bool)):=
.br (decide (v70 < v69)) (.idxR (cI .i64) a1 v70 fun x2=>.ldR (cI .i64) a1 x2 2<|.callO (Zvc b0) [0,2,3,4,5] 760000 (fun x=>[(5000,.box [wL Zbe x.s.Players,wL Zk x.s.Objects,wL (cI .i64) x.s.Battlefield,wL (cI .i64) x.s.Exile,wL Zbt x.s.Stack,wL Zbv x.s.Waiting,wL Zca x.s.Conts,wI x.s.Turn,wI x.s.Active,wI x.s.Step,wB x.s.Begun,wI x.s.Priority,wI x.s.Passes,wI x.s.NextId,wI x.s.NextStamp,.t (.int .u64 x.s.Seed),wL (cI .i64) x.s.Extra,wI x.s.Over,wI x.s.Winner,wL Z2 x.forces,wO Zf 5021 x.traits,wO cB 5022 x.dropped,wO cB 5023 x.done,wO (cL (cI .i64)) 5024 x.hits]),(5021,wR Zf 17 x.traits),(5022,wR cB 1 x.dropped),(5023,wR cB 1 x.done),(5024,wR (cL (cI .i64)) 1 x.hits)]) fun x4=>.callU (Zl1 x4 x2 v2) [765000,765021,765022,765023,765024] 800000 fun x6=>.lenO (cI .i64) a1<|.go (.L3 v2 v7 v9 x2 x6 v69 v70 (a1.length:Int) 0) [.relab 765000 3001,.relab 765021 40120,.relab 765022 40121,.relab 765023 40122,.relab 765024 40123])<|.rl (cL cB) v7<|.rl (cL cB) v7<|.rl (cL cB) v7<|.ret v7 [.frz 20007]
def Zfq(b0:Zj)(a1:List Int)(v2:Int)(v7:List (List Bool))(v9:List (Int×Zbb))(v14:Int)(E1:Zj)(v69:Int)(v70:Int)(v81:Int)(v82:Int):LT Za8 (List (List Bool)):=
.br (decide (v82 < v81)) (.idxR (cI .i64) a1 v82 fun x2=>.ldR (cI .i64) a1 x2 2<|.lkG Zf6 v9 x2 (⟨false,[],[]⟩:Zbb) fun x4=>.lb 1018<|.cs x4.2 (.k4 1<|.br (x2 != v14) (.idM cB v7 x2 fun x8=>.ldM cB v7 3<|.callO (Zms E1 x2 v2) [3001,40120,40121,40122,40123] 1090000 (fun x=>[(5002,wR (cI .i64) 1 x.numbers)]) fun x10=>.rl (cI .i64) x10.numbers<|.call (Z1d x4.1 x10) fun x12=>.idN cB v7 x8 v14 3 fun x14=>.stM cB v7 x2 x8 v14 x12 3 5 fun x16=>.dr [.ahead 111,.relen 20007,.stop]<|.us [7]<|.us [7]<|.g0 (.L3 v2 x16 v9 v14 E1 v69 v70 v81 (IntKind.wrap .i64 (v82+1))))<|.g0 (.L3 v2 v7 v9 v14 E1 v69 v70 v81 (IntKind.wrap .i64 (v82+1))))<|.k4 1<|.kn [0]<|.g0 (.L3 v2 v7 v9 v14 E1 v69 v70 v81 (IntKind.wrap .i64 (v82+1))))<|.g0 (.L2 v2 v7 v9 v69 (IntKind.wrap .i64 (v70+1)))
def Zjy(b0:Zj)(a1:List Int)(a2:Int):LT Za8 (List (List Bool)):=
.len Z2 b0.forces<|.mkE cB 1025 24 (b0.forces.length:Int) (b0.forces.length:Int) fun x2=>.dr [.ahead 7,.tomat 1025,.stop]<|.us [0]<|.lenO (cL cB) x2<|.go (.L0 a2 x2 (x2.length:Int) 0) [.relab 1025 20007]
def Zjz(b0:Zj)(a1:List Int):LF Za8 (List (List Bool)) := .m 55 [.t 6] true (fun r=>[(0,.box (tm3 b0)),(1,wR (cI .i64) 1 a1),(2,wR Zf 17 b0.traits),(3,wR cB 1 b0.dropped),(4,wR cB 1 b0.done),(5,wR (cL (cI .i64)) 1 b0.hits)]) (fun r=>(wL (cL cB) r)) fun | .L0 v2 v7 v27 v28=>([1,1,0,1,4],⟨114,[(0,.bptr 0 0),(1,wO (cI .i64) 1 a1),(2,wI v2),(7,wM (cL cB) 20007 v7),(27,wI v27),(28,wI v28)],[(0,.box (tm3 b0)),(2,wR Zf 17 b0.traits),(3,wR cB 1 b0.dropped),(4,wR cB 1 b0.done),(5,wR (cL (cI .i64)) 1 b0.hits),(1,wR (cI .i64) 1 a1),(20007,wT (cL cB) v7)]⟩,Zfn b0 a1 v2 v7 v27 v28) | .L1 v2 v7 v9 v43 v44=>([1,1,1,1,0,1,4],⟨114,[(0,.bptr 0 0),(1,wO (cI .i64) 1 a1),(2,wI v2),(7,wM (cL cB) 20007 v7),(9,.own 20009 .map),(42,wO (cI .i64) 1 a1),(43,wI v43),(44,wI v44)],[(0,.box (tm3 b0)),(2,wR Zf 17 b0.traits),(3,wR cB 1 b0.dropped),(4,wR cB 1 b0.done),(5,wR (cL (cI .i64)) 1 b0.hits),(1,wR (cI .i64) 1 a1),(20007,wT (cL cB) v7),(20009,wG true Zf6 v9)]⟩,Zfo b0 a1 v2 v7 v9 v43 v44) | .L2 v2 v7 v9 v69 v70=>([1,1,1,1,1,1,1,0,1,4],⟨114,[(0,.bptr 0 0),(1,wO (cI .i64) 1 a1),(2,wI v2),(7,wM (cL cB) 20007 v7),(9,.own 20009 .map),(12,.fn 100 []),(68,wO (cI .i64) 1 a1),(69,wI v69),(70,wI v70)],[(0,.box (tm3 b0)),(2,wR Zf 17 b0.traits),(3,wR cB 1 b0.dropped),(4,wR cB 1 b0.done),(5,wR (cL (cI .i64)) 1 b0.hits),(1,wR (cI .i64) 1 a1),(20007,wT (cL cB) v7),(20009,wG true Zf6 v9)]⟩,Zfp b0 a1 v2 v7 v9 v69 v70) | .L3 v2 v7 v9 v14 E1 v69 v70 v81 v82=>([1,1,1,1,1,1,1,0,1,4,5,1,1,0,4,1,1,1,1,4],⟨114,[(0,.bptr 0 0),(1,wO (cI .i64) 1 a1),(2,wI v2),(7,wM (cL cB) 20007 v7),(9,.own 20009 .map),(12,.fn 100 []),(14,wI v14),(15,.bptr 3001 0),(68,wO (cI .i64) 1 a1),(69,wI v69),(70,wI v70),(80,wO (cI .i64) 1 a1),(81,wI v81),(82,wI v82)],((0,.box (tm3 b0))::(2,wR Zf 17 b0.traits)::(3,wR cB 1 b0.dropped)::(4,wR cB 1 b0.done)::(5,wR (cL (cI .i64)) 1 b0.hits)::(1,wR (cI .i64) 1 a1)::(20007,wT (cL cB) v7)::(20009,wG true Zf6 v9)::(3001,.box (tm7 E1 40100))::(tm19 E1 40100))⟩,Zfq b0 a1 v2 v7 v9 v14 E1 v69 v70 v81 v82)
def Zgr(b0:Zj)(a1:List Int)(a2:Int):Option (List (List Bool)):=(Zjz b0 a1).run (Zjy b0 a1 a2)
theorem Zqm(b0:Zj)(a1:List Int)(a2:Int){r:List (List Bool)}(h:Zgr b0 a1 a2=some r):FnG PR 55 [(0,.box (tm3 b0)),(1,wR (cI .i64) 1 a1),(2,wR Zf 17 b0.traits),(3,wR cB 1 b0.dropped),(4,wR cB 1 b0.done),(5,wR (cL (cI .i64)) 1 b0.hits)] [.bptr 0 0,wO (cI .i64) 1 a1,wI a2] [(0,.box (tm3 b0)),(1,wR (cI .i64) 1 a1),(2,wR Zf 17 b0.traits),(3,wR cB 1 b0.dropped),(4,wR cB 1 b0.done),(5,wR (cL (cI .i64)) 1 b0.hits)] (wL (cL cB) r):=(Zjz b0 a1).fn h
def Zmv(a0:Int)(a1:Int):LT Empty Bool:=
.rt (a0==a1)
def Zmw:LF Empty Bool := .z0 58 [.t 3] wB
def Zjb:=fun a0 a1=>Zmw.run (Zmv a0 a1)
theorem Zl2(a0)(a1){r}(h:Zjb a0 a1=some r):Fn PR 58 [wI a0,.vptr ((cI .i64) a1)] (wB r):=Zmw.fn h
inductive Za0 where
 | L0 (v0:List Int) (w1_0:Int) (v7:Int) (v8:Int)
def Zb5(v0:List Int)(w1_0:Int)(v7:Int)(v8:Int):LT Za0 Int:=
.br (decide (v8 < v7)) (.idx (cI .i64) v0 v8 fun x2=>.call (Zl2 x2 w1_0) fun x4=>.br x4 (.rt v8)<|.g0 (.L0 v0 w1_0 v7 (IntKind.wrap .i64 (v8+1))))<|.rt (-1)
def Zd5(a0:List Int)(a1:Int):LT Za0 Int:=
.len (cI .i64) a0<|.g0 (.L0 a0 a1 (a0.length:Int) 0)
def Zd6:LF Za0 Int := .m0 107 [.t 4] wI fun | .L0 v0 w1_0 v7 v8=>([1,0,1,4],⟨19,[(0,wL (cI .i64) v0),(1,.fn 58 [.vptr ((cI .i64) w1_0)]),(7,wI v7),(8,wI v8)],[]⟩,Zb5 v0 w1_0 v7 v8)
def Zck:=fun a0 a1=>Zd6.run (Zd5 a0 a1)
theorem Zh9(a0)(a1){r}(h:Zck a0 a1=some r):Fn PR 107 [wL (cI .i64) a0,.fn 58 [.vptr ((cI .i64) a1)]] (wI r):=Zd6.fn h
inductive Zar where
 | L0 (v0:List Int) (w1_0:Int) (v5:Int) (v6:Int)
def Zbr(v0:List Int)(w1_0:Int)(v5:Int)(v6:Int):LT Zar (List Int):=
.lenO (cI .i64) v0<|.br (decide (v6 < (v0.length:Int))) (.idxR (cI .i64) v0 v6 fun x2=>.ldR (cI .i64) v0 x2 2<|.call (Zl2 x2 w1_0) fun x4=>.br (!x4) (.idxR (cI .i64) v0 v5 fun x7=>.setR (cI .i64) v0 v5 x7 x2 5 0 [.int .i64 x2] rfl fun x9=>.dr [.ahead 34,.relen 20000,.stop]<|.us [6]<|.us [6]<|.us [6]<|.us [6]<|.us [6]<|.us [6]<|.g0 (.L0 x9 w1_0 (IntKind.wrap .i64 (v5+1)) (IntKind.wrap .i64 (v6+1))))<|.g0 (.L0 v0 w1_0 v5 (IntKind.wrap .i64 (v6+1))))<|.tlR (cI .i64) v0 v5 0 fun x17=>.clR (cI .i64) v0 x17 0<|.dr [.ahead 39,.relen 20000,.stop]<|.us [2]<|.us [2]<|.us [2]<|.trR (cI .i64) x17 v5 fun x20=>.ret x20 [.relab 20000 5000]
def Zdj(b0:List Int)(a1:Int):LT Zar (List Int):=
.rl (cI .i64) b0<|.call (Zh9 b0 a1) fun x1=>.br (x1==(-1)) (.ret b0 [.relab 0 5000])<|.go (.L0 b0 a1 x1 (IntKind.wrap .i64 (x1+1))) [.relab 0 20000]
def Zdk:LF Zar (List Int) := .m 57 [.t 4] true (fun r=>[(5000,wR (cI .i64) 1 r)]) (fun r=>(wO (cI .i64) 5000 r)) fun | .L0 v0 w1_0 v5 v6=>([1,1,1,0,1,4],⟨42,[(0,wO (cI .i64) 20000 v0),(1,.fn 58 [.vptr ((cI .i64) w1_0)]),(5,wI v5),(6,wI v6)],[(20000,wR (cI .i64) 1 v0)]⟩,Zbr v0 w1_0 v5 v6)
def Zby:=fun b0 a1=>Zdk.run (Zdj b0 a1)
theorem Zgs(b0)(a1){r}(h:Zby b0 a1=some r):FnG PR 57 [(0,wR (cI .i64) 1 b0)] [wO (cI .i64) 0 b0,.fn 58 [.vptr ((cI .i64) a1)]] [(5000,wR (cI .i64) 1 r)] (wO (cI .i64) 5000 r):=Zdk.fn h
inductive Zc1 where
 | L0 (c0:Zj) (v1:Int) (v5:List Int) (v6:List Int) (v7:List Int) (v18:List Zal) (v19:Int) (v20:Int)
 | L1 (c0:Zj) (v1:Int) (v5:List Int) (v6:List Int) (v7:List Int)
def Zhs(c0:Zj)(v1:Int)(v5:List Int)(v6:List Int)(v7:List Int)(v18:List Zal)(v19:Int)(v20:Int):LT Zc1 ((List Int)×Zj):=
.br (decide (v20 < v19)) (.idx Z2 v18 v20 fun x2=>.lb 1009<|.dr [.lit]<|.apR (cI .i64) 8 v7 [x2.Stamp] fun x4=>.call (Zajo x2 v1) fun x7=>.br x7 (.dr [.lit]<|.apR (cI .i64) 8 v5 [v20] fun x10=>.g0 (.L0 c0 v1 x10 v6 x4 v18 v19 (IntKind.wrap .i64 (v20+1))))<|.g0 (.L0 c0 v1 v5 v6 x4 v18 v19 (IntKind.wrap .i64 (v20+1))))<|.g0 (.L1 c0 v1 v5 v6 v7)
def Zht(c0:Zj)(v1:Int)(v5:List Int)(v6:List Int)(v7:List Int):LT Zc1 ((List Int)×Zj):=
.lenO (cI .i64) v5<|.br (decide ((v5.length:Int) > 0)) (.callO (Zqm c0 v5 v1) [0,20005,1,2,3,4] 470000 (fun x=>[]) fun x2=>.rl (cI .i64) v5<|.rl (cI .i64) v7<|.call (Zaph v5 v7 x2) fun x4=>.lb 1010<|.br (decide (x4 < 0)) (.ret (v6,c0) [.relab 20006 5000])<|.callU (Zl1 c0 x4 v1) [0,1,2,3,4] 550000 fun x7=>.dr [.lit]<|.apR (cI .i64) 8 v6 [x4] fun x9=>.callW (Zgs v5 x4) [20005] 620000 (fun _=>⟨rfl,Z1z (cI .i64) (fun _=>rfl) _,trivial⟩) fun x12=>.go (.L1 x7 v1 x12 x9 v7) [.relab 625000 20005])<|.ret (v6,c0) [.relab 20006 5000]
def Zm8(b0:Zj)(a1:Int):LT Zc1 ((List Int)×Zj):=
.br (a1==7) (.callU (Zv2 b0) [0,1,2,3,4] 150000 fun x2=>.len Z2 x2.forces<|.go (.L0 x2 a1 ([]:List Int) ([]:List Int) ([]:List Int) x2.forces (x2.forces.length:Int) 0) [.own 5 20005 1,.own 6 20006 1,.own 7 20007 1])<|.len Z2 b0.forces<|.go (.L0 b0 a1 ([]:List Int) ([]:List Int) ([]:List Int) b0.forces (b0.forces.length:Int) 0) [.own 5 20005 1,.own 6 20006 1,.own 7 20007 1]
def Zm9:LF Zc1 ((List Int)×Zj) := .m 35 [.t 4] true (fun r=>[(5000,wR (cI .i64) 1 r.1),(0,.box (tm0 r.2)),(1,wR Zf 17 r.2.traits),(2,wR cB 1 r.2.dropped),(3,wR cB 1 r.2.done),(4,wR (cL (cI .i64)) 1 r.2.hits)]) (fun r=>(wO (cI .i64) 5000 r.1)) fun | .L0 c0 v1 v5 v6 v7 v18 v19 v20=>([1,1,1,0,1,4],⟨63,[(0,.bptr 0 0),(1,wI v1),(5,wO (cI .i64) 20005 v5),(6,wO (cI .i64) 20006 v6),(7,wO (cI .i64) 20007 v7),(18,wL Z2 v18),(19,wI v19),(20,wI v20)],[(0,.box (tm0 c0)),(1,wR Zf 17 c0.traits),(2,wR cB 1 c0.dropped),(3,wR cB 1 c0.done),(4,wR (cL (cI .i64)) 1 c0.hits),(20005,wR (cI .i64) 1 v5),(20006,wR (cI .i64) 1 v6),(20007,wR (cI .i64) 1 v7)]⟩,Zhs c0 v1 v5 v6 v7 v18 v19 v20) | .L1 c0 v1 v5 v6 v7=>([1,1,1,1,0,4],⟨63,[(0,.bptr 0 0),(1,wI v1),(5,wO (cI .i64) 20005 v5),(6,wO (cI .i64) 20006 v6),(7,wO (cI .i64) 20007 v7)],[(0,.box (tm0 c0)),(1,wR Zf 17 c0.traits),(2,wR cB 1 c0.dropped),(3,wR cB 1 c0.done),(4,wR (cL (cI .i64)) 1 c0.hits),(20005,wR (cI .i64) 1 v5),(20006,wR (cI .i64) 1 v6),(20007,wR (cI .i64) 1 v7)]⟩,Zht c0 v1 v5 v6 v7)
def Zjp:=fun b0 a1=>Zm9.run (Zm8 b0 a1)
theorem Zv3(b0)(a1){r}(h:Zjp b0 a1=some r):FnG PR 35 [(0,.box (tm0 b0)),(1,wR Zf 17 b0.traits),(2,wR cB 1 b0.dropped),(3,wR cB 1 b0.done),(4,wR (cL (cI .i64)) 1 b0.hits)] [.bptr 0 0,wI a1] [(5000,wR (cI .i64) 1 r.1),(0,.box (tm0 r.2)),(1,wR Zf 17 r.2.traits),(2,wR cB 1 r.2.dropped),(3,wR cB 1 r.2.done),(4,wR (cL (cI .i64)) 1 r.2.hits)] (wO (cI .i64) 5000 r.1):=Zm9.fn h
inductive Zr1 where
 | L0 (E0:Zj) (v6:Int)
def Z3i(E0:Zj)(v6:Int):LT Zr1 (List Zb):=
.br (decide (v6<=8)) (.callU (Zv3 E0 v6) [3000,40020,40021,40022,40023] 170000 fun x2=>.g0 (.L0 x2.2 (IntKind.wrap .i64 (v6+1))))<|.ret E0.traits [.relab 40020 5000]
def Zahq(a0:List Zn)(a1:Zl):LT Zr1 (List Zb):=
.lb 1003<|.callF (Zang a0 a1) 100000 fun x1=>.go (.L0 x1 1) [.relab 105000 3000,.relab 105021 40020,.relab 105022 40021,.relab 105023 40022,.relab 105024 40023]
def Zahr:LF Zr1 (List Zb) := .m 17 [.t 4] true (fun r=>[(5000,wR Zf 17 r)]) (fun r=>(wO Zf 5000 r)) fun | .L0 E0 v6=>([1,1,0,1,4],⟨21,[(5,.bptr 3000 0),(6,wI v6)],((3000,.box (tm7 E0 40000))::(tm19 E0 40000))⟩,Z3i E0 v6)
def Ztk:=fun a0 a1=>Zahr.run (Zahq a0 a1)
theorem Zar2(a0)(a1){r}(h:Ztk a0 a1=some r):FnG PR 17 [] [wL Z4 a0,wA (Zaa a1)] [(5000,wR Zf 17 r)] (wO Zf 5000 r):=Zahr.fn h
theorem Z3j(a0:List Zn)(a1:Zl){r:List Zb}(h:Ztk a0 a1=some r):Fn PR 17 [wL Z4 a0,wA (Zaa a1)] (wL Zf r):=
 FnG.frozen (C:=LT.RL Zf r/\True) (Zar2 a0 a1 h) ⟨rfl,trivial⟩ (by kernel_rfl)
def Zazc:LT Empty Bool:=
.dr [.lit]<|.dr [.lit]<|.dr [.lit]<|.dr [.lit]<|.call (Zawq [(⟨0,0,0,0,0,false,false,false,false,0,(⟨1,0,0⟩:A3 Int),0,0,0,false,0,0⟩:Ze),(⟨0,1,0,0,0,false,false,false,false,0,(⟨0,0,0⟩:A3 Int),0,0,0,false,0,0⟩:Ze)]) fun x3=>.lb 1002<|.call (Z3j [(⟨([97]:By),false,(⟨0,0,(⟨0,0,0,0,0⟩:A5 Int)⟩:Zt),0,(⟨0,1,([]:Bys)⟩:Zah),2,2,0,([]:List Zg)⟩:Zn),(⟨([98]:By),false,(⟨0,0,(⟨0,0,0,0,0⟩:A5 Int)⟩:Zt),0,(⟨0,16,([]:Bys)⟩:Zah),0,0,0,[(⟨1,(⟨0,0,0,1,0,0,0,([]:By),0,0,(⟨0,0⟩:Za),(⟨0,0⟩:Za),(⟨0,0⟩:Za)⟩:Zc),[(⟨13,1,1,([]:By),(⟨0,0,0,0,0,0,0,([]:By),0,0,(⟨0,0⟩:Za),(⟨0,0⟩:Za),(⟨0,0⟩:Za)⟩:Zc)⟩:Zi)],(⟨(⟨0,0,(⟨0,0,0,0,0⟩:A5 Int)⟩:Zt),false,false,0⟩:Zic),false,(⟨0,0,(⟨0,0,0,0,0,0,0,([]:By),0,0,(⟨0,0⟩:Za),(⟨0,0⟩:Za),(⟨0,0⟩:Za)⟩:Zc)⟩:Zc3),false,([]:List Zba),([]:List Zs),(⟨0,0,(⟨0,0,0,0,0,0,0,([]:By),0,0,(⟨0,0⟩:Za),(⟨0,0⟩:Za),(⟨0,0⟩:Za)⟩:Zc),0,0,0,0⟩:Za7)⟩:Zg)]⟩:Zn)] x3) fun x5=>.call (Z47 [(⟨([97]:By),false,(⟨0,0,(⟨0,0,0,0,0⟩:A5 Int)⟩:Zt),0,(⟨0,1,([]:Bys)⟩:Zah),2,2,0,([]:List Zg)⟩:Zn),(⟨([98]:By),false,(⟨0,0,(⟨0,0,0,0,0⟩:A5 Int)⟩:Zt),0,(⟨0,16,([]:Bys)⟩:Zah),0,0,0,[(⟨1,(⟨0,0,0,1,0,0,0,([]:By),0,0,(⟨0,0⟩:Za),(⟨0,0⟩:Za),(⟨0,0⟩:Za)⟩:Zc),[(⟨13,1,1,([]:By),(⟨0,0,0,0,0,0,0,([]:By),0,0,(⟨0,0⟩:Za),(⟨0,0⟩:Za),(⟨0,0⟩:Za)⟩:Zc)⟩:Zi)],(⟨(⟨0,0,(⟨0,0,0,0,0⟩:A5 Int)⟩:Zt),false,false,0⟩:Zic),false,(⟨0,0,(⟨0,0,0,0,0,0,0,([]:By),0,0,(⟨0,0⟩:Za),(⟨0,0⟩:Za),(⟨0,0⟩:Za)⟩:Zc)⟩:Zc3),false,([]:List Zba),([]:List Zs),(⟨0,0,(⟨0,0,0,0,0,0,0,([]:By),0,0,(⟨0,0⟩:Za),(⟨0,0⟩:Za),(⟨0,0⟩:Za)⟩:Zc),0,0,0,0⟩:Za7)⟩:Zg)]⟩:Zn)] x3) fun x7=>.len Zf x5<|.cs ((x5.length:Int)==2) (.k2 0<|.idx Zf x5 0 fun x11=>.k4 0<|.cs (x11.Power==4) (.k2 1<|.ag Zf x11 0<|.k4 1<|.cs (x11.Tough==4) (.k2 2<|.idx Zf x5 1 fun x15=>.k4 2<|.cs (x15.Name==([98]:By)) (.k2 3<|.len Z2 x7<|.k2 3<|.cs ((x7.length:Int)==1) (.k2 4<|.idx Z2 x7 0 fun x20=>.k4 4<|.rt (x20.Source==2))<|.k5 4<|.kg 4<|.rt false)<|.k4 3<|.b5 false<|.kb false<|.rt false)<|.k5 2<|.kg 2<|.b8 false<|.b2 false<|.rt false)<|.k5 1<|.kg 1<|.b16 false<|.rt false)<|.k5 0<|.kg 0<|.b16 false<|.b5 false<|.kb false<|.rt false
def Zahs:LF Empty Bool := .z0 11 [.t 0] wB
def Zarj:=Zahs.run (Zazc)
theorem Zvd{r}(h:Zarj=some r):Fn PR 11 [] (wB r):=Zahs.fn h
end
end Go.PW
