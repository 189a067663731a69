import Derived.Test.YtchddhcajpagjaaGreatQDa
set_option linter.all false
set_option maxRecDepth 100000
namespace Go.PW
open Go.RowKit
noncomputable section
inductive Zne where
 | L0 (v0:List Zm) (E0:Zc) (v19:List Zg) (v20:Int) (v21:Int)
def Z6r(v0:List Zm)(E0:Zc)(v19:List Zg)(v20:Int)(v21:Int):LT Zne Zc:=
.br (decide (v21 < v20)) (.idx Zn v19 v21 fun x2=>.lb 1007<|.call (Zamr v0 x2) fun x4=>.dr [.lit]<|.apR Zi 176 E0.traits [x4] fun x6=>.g0 (.L0 v0 (⟨E0.s,E0.forces,x6,E0.dropped,E0.done,E0.hits⟩:Zc) v19 v20 (IntKind.wrap .i64 (v21+1))))<|.len Z4 E0.forces<|.mk cB 1045 1 false (E0.forces.length:Int) (E0.forces.length:Int) fun x12=>.len Z4 E0.forces<|.mk (cL (cI .i64)) 1051 24 [] (E0.forces.length:Int) (E0.forces.length:Int) fun x14=>.ret (⟨E0.s,E0.forces,E0.traits,E0.dropped,x12,x14⟩:Zc) [.relab 3000 5000,.relab 40020 5021,.relab 40021 5022,.relab 1045 5023,.relab 1051 5024]
def Z9p(a0:List Zm)(a1:Zk):LT Zne Zc:=
.lb 1003<|.call (Z3g a0 a1) fun x1=>.len Zn a1.Objects<|.mk cB 1015 1 false (a1.Objects.length:Int) (a1.Objects.length:Int) fun x4=>.lb 1017<|.len Zn a1.Objects<|.go (.L0 a0 (⟨a1,x1,([]:List Zb),x4,([]:List Bool),([]:List (List Int))⟩:Zc) a1.Objects (a1.Objects.length:Int) 0) [.relab 1017 3000,.ownb 3000 20 40020 17,.relab 1015 40021,.ownb 3000 22 40022 1,.ownb 3000 23 40023 1]
def Zx4:LF Zne Zc := .m 34 [.t 4] true (fun r=>[(5000,.box (tm5 r 5000)),(5021,wR Zi 17 r.traits),(5022,wR cB 1 r.dropped),(5023,wR cB 1 r.done),(5024,wR (cL (cI .i64)) 1 r.hits)]) (fun r=>(.bptr 5000 0)) fun | .L0 v0 E0 v19 v20 v21=>([1,1,0,1,4],⟨57,[(0,wL Z6 v0),(5,.bptr 3000 0),(19,wL Zn v19),(20,wI v20),(21,wI v21)],((3000,.box (tm7 E0 40000))::(tm19 E0 40000))⟩,Z6r v0 E0 v19 v20 v21)
def Zag4:=fun a0 a1=>Zx4.run (Z9p a0 a1)
theorem Zams(a0)(a1){r}(h:Zag4 a0 a1=some r):FnG PR 34 [] [wL Z6 a0,wA (Z9 a1)] [(5000,.box (tm5 r 5000)),(5021,wR Zi 17 r.traits),(5022,wR cB 1 r.dropped),(5023,wR cB 1 r.done),(5024,wR (cL (cI .i64)) 1 r.hits)] (.bptr 5000 0):=Zx4.fn h
def Z46(a0:Int):LT Empty Int:=
.rt (minI (maxI a0 (-1000000)) 1000000)
def Zag5:LF Empty Int := .z0 143 [.t 2] wI
def Z3h:=fun a0=>Zag5.run (Z46 a0)
theorem Zek(a0){r}(h:Z3h a0=some r):Fn PR 143 [wI a0] (wI r):=Zag5.fn h
def Zar1(a0:Int)(a1:Int):LT Empty Int:=
.call (Zek a0) fun x1=>.call (Zek a1) fun x3=>.call (Zek (IntKind.wrap .i64 (x1 - x3))) fun x7=>.rt x7
def Zar2:LF Empty Int := .z0 142 [.t 4] wI
def Za1y:=fun a0 a1=>Zar2.run (Zar1 a0 a1)
theorem Za3w(a0)(a1){r}(h:Za1y a0 a1=some r):Fn PR 142 [wI a0,wI a1] (wI r):=Zar2.fn h
def Z3i(a0:A3 Int):LT Empty Int:=
.lb 1001<|.idA (Zf.int .i64) (A3.list a0) 0 (bx ((cA3 (cI .i64)) a0)) 0 3 fun x1=>.ldC (Zf.int .i64) 4 x1 0<|.idA (Zf.int .i64) (A3.list a0) 1 (bx ((cA3 (cI .i64)) a0)) 0 3 fun x3=>.ldC (Zf.int .i64) 6 x3 1<|.call (Za3w x1 x3) fun x5=>.rt x5
def Z3j:LF Empty Int := .z0 91 [.t 2] wI
def Z9q:=fun a0=>Z3j.run (Z3i a0)
theorem Zaiz(a0){r}(h:Z9q a0=some r):Fn PR 91 [wA ((cA3 (cI .i64)) a0)] (wI r):=Z3j.fn h
def Zacu(a0:Int)(a1:Int):LT Empty Int:=
.call (Zek a0) fun x1=>.call (Zek a1) fun x3=>.call (Zek (IntKind.wrap .i64 (x1+x3))) fun x7=>.rt x7
def Zar3:LF Empty Int := .z0 92 [.t 4] wI
def Zaem:=fun a0 a1=>Zar3.run (Zacu a0 a1)
theorem Ztn(a0)(a1){r}(h:Zaem a0 a1=some r):Fn PR 92 [wI a0,wI a1] (wI r):=Zar3.fn h
inductive Zky where
 | L0 (v0:Int) (v3:Int) (v6:Bool)
 | L1 (v0:Int) (v3:Int) (v11:Bool)
 | L2 (v0:Int) (v3:Int) (v14:Bool)
def Zlq(v0:Int)(v3:Int)(v14:Bool):LT Zky Int:=
.br v14 (.rt 4)<|.br (v3==11) (.kn [2]<|.rt (IntKind.wrap .i64 ((IntKind.wrap .i64 (5+v0)) - 11)))<|.br (v3==12) (.kn [3]<|.rt (IntKind.wrap .i64 ((IntKind.wrap .i64 (5+v0)) - 11)))<|.br (v3==13) (.kn [4]<|.rt (IntKind.wrap .i64 ((IntKind.wrap .i64 (5+v0)) - 11)))<|.br (v3==14) (.rt (IntKind.wrap .i64 ((IntKind.wrap .i64 (5+v0)) - 11)))<|.rt 0
def Zo5(v0:Int)(v3:Int)(v11:Bool):LT Zky Int:=
.br v11 (.rt 3)<|.br (v3==8) (.j0 (.L2 v0 v3 (v3==8)) (Zlq v0 v3 (v3==8)))<|.br (v3==9) (.j0 (.L2 v0 v3 (v3==9)) (Zlq v0 v3 (v3==9)))<|.j0 (.L2 v0 v3 (v3==10)) (Zlq v0 v3 (v3==10))
def Zjb(v0:Int)(v3:Int)(v6:Bool):LT Zky Int:=
.br v6 (.rt 2)<|.br (v3==6) (.j0 (.L1 v0 v3 (v3==6)) (Zo5 v0 v3 (v3==6)))<|.j0 (.L1 v0 v3 (v3==7)) (Zo5 v0 v3 (v3==7))
def Zag6(a0:Int):LT Zky Int:=
.br (a0==1) (.rt 1)<|.br (a0==2) (.j0 (.L0 a0 a0 (a0==2)) (Zjb a0 a0 (a0==2)))<|.br (a0==3) (.j0 (.L0 a0 a0 (a0==3)) (Zjb a0 a0 (a0==3)))<|.br (a0==4) (.j0 (.L0 a0 a0 (a0==4)) (Zjb a0 a0 (a0==4)))<|.j0 (.L0 a0 a0 (a0==5)) (Zjb a0 a0 (a0==5))
def Zag7:LF Zky Int := .m0 95 [.t 2] wI fun | .L0 v0 v3 v6=>([1,0,1,4,1,3,1],⟨26,[(0,wI v0),(3,wI v3),(6,wB v6)],[]⟩,Zjb v0 v3 v6) | .L1 v0 v3 v11=>([1,0,1,4,1,3,1,3,1],⟨26,[(0,wI v0),(3,wI v3),(11,wB v11)],[]⟩,Zo5 v0 v3 v11) | .L2 v0 v3 v14=>([1,0,1,4,1,3,1,3,1,3,1],⟨26,[(0,wI v0),(3,wI v3),(14,wB v14)],[]⟩,Zlq v0 v3 v14)
def Zar4:=fun a0=>Zag7.run (Zag6 a0)
theorem Zto(a0){r}(h:Zar4 a0=some r):Fn PR 95 [wI a0] (wI r):=Zag7.fn h
def Zq4(a0:Zd)(b0:Int):LT Empty Bool:=
.lb 1002<|.call (Zto a0.Kind) fun x1=>.rt (x1==b0)
def Zq5(b0:Int):LF Empty Bool := .z 94 [.t 3] true (fun r=>[(0,.box (bx ((cI .i64) b0)))]) (fun r=>(wB r))
def Ztp(a0:Zd)(b0:Int):Option Bool:=(Zq5 b0).run (Zq4 a0 b0)
theorem Z0w(a0:Zd)(b0:Int){r:Bool}(h:Ztp a0 b0=some r):FnG PR 94 [(0,.box (bx ((cI .i64) b0)))] [wA (Zl a0),.bptr 0 0] [(0,.box (bx ((cI .i64) b0)))] (wB r):=(Zq5 b0).fn h
inductive Zaz where
 | L0 (v0:List Zd) (c0:Int) (v7:Int) (v8:Int)
def Zdl(v0:List Zd)(c0:Int)(v7:Int)(v8:Int):LT Zaz (Int×Int):=
.br (decide (v8 < v7)) (.idx Zl v0 v8 fun x2=>.callO (Z0w x2 c0) [0] 170000 (fun x=>[]) fun x4=>.br x4 (.rt (v8,c0))<|.g0 (.L0 v0 c0 v7 (IntKind.wrap .i64 (v8+1))))<|.rt ((-1),c0)
def Zdr(a0:List Zd)(b0:Int):LT Zaz (Int×Int):=
.len Zl a0<|.g0 (.L0 a0 b0 (a0.length:Int) 0)
def Zbw:LF Zaz (Int×Int) := .m 144 [.t 4] true (fun r=>[(0,.box (bx ((cI .i64) r.2)))]) (fun r=>(wI r.1)) fun | .L0 v0 c0 v7 v8=>([1,0,1,4],⟨19,[(0,wL Zl v0),(1,.fn 94 [.bptr 0 0]),(7,wI v7),(8,wI v8)],[(0,.box (bx ((cI .i64) c0)))]⟩,Zdl v0 c0 v7 v8)
def Zd1:=fun a0 b0=>Zbw.run (Zdr a0 b0)
theorem Zgy(a0)(b0){r}(h:Zd1 a0 b0=some r):FnG PR 144 [(0,.box (bx ((cI .i64) b0)))] [wL Zl a0,.fn 94 [.bptr 0 0]] [(0,.box (bx ((cI .i64) r.2)))] (wI r.1):=Zbw.fn h
def Zdg(a0:List Zd)(b0:Int):LT Empty (Bool×Int):=
.callU (Zgy a0 b0) [0] 80000 fun x1=>.rt (decide (x1.1>=0),x1.2)
def Zdh:LF Empty (Bool×Int) := .z 93 [.t 4] true (fun r=>[(0,.box (bx ((cI .i64) r.2)))]) (fun r=>(wB r.1))
def Zdm:=fun a0 b0=>Zdh.run (Zdg a0 b0)
theorem Zgp(a0)(b0){r}(h:Zdm a0 b0=some r):FnG PR 93 [(0,.box (bx ((cI .i64) b0)))] [wL Zl a0,.fn 94 [.bptr 0 0]] [(0,.box (bx ((cI .i64) r.2)))] (wB r.1):=Zdh.fn h
def Z3k(a0:Zv)(a1:Int):LT Empty Bool:=
.lb 1002<|.lb 1003<|.callU (Zgp a0.Mods a1) [1003] 90000 fun x1=>.rt x1.1
def Z3l:LF Empty Bool := .z0 53 [.t 4] wB
def Z9r:=fun a0 a1=>Z3l.run (Z3k a0 a1)
theorem Zai0(a0)(a1){r}(h:Z9r a0 a1=some r):Fn PR 53 [wA (Z4 a0),wI a1] (wB r):=Z3l.fn h
inductive Zie where
 | L0 (v1:Int) (E0:Ze) (v5:Bool)
def Zhq(v1:Int)(E0:Ze)(v5:Bool):LT Zie Bool:=
.br (v1==1) (.rt (E0.Who != 0))<|.br (v1==2) (.cs ((Zay .or .i64 E0.Types E0.NotTypes) != 0) (.k4 2<|.b2 true<|.rt true)<|.k4 2<|.cs (!(E0.Sub==([]:By))) (.k2 3<|.rt true)<|.k2 3<|.rt v5)<|.br (v1==3) (.rt ((Zay .or .i64 E0.Colors E0.NotColors) != 0))<|.br (v1==4) (.rt (E0.Keys != 0))<|.rt v5
def Zy8(a0:Ze)(a1:Int):LT Zie Bool:=
.lb 1002<|.cs (a0.Power.Kind != 0) (.k5 0<|.jn 0 (.L0 a1 a0 true) [.relab 1002 3000] (Zhq a1 a0 true))<|.k5 0<|.jn 0 (.L0 a1 a0 (a0.Tough.Kind != 0)) [.relab 1002 3000] (Zhq a1 a0 (a0.Tough.Kind != 0))
def Zy9:LF Zie Bool := .m0 150 [.t 4] wB fun | .L0 v1 E0 v5=>([1,1],⟨52,[(1,wI v1),(2,.bptr 3000 0),(5,wB v5)],[(3000,.box (bx (Zo E0)))]⟩,Zhq v1 E0 v5)
def Z3m:=fun a0 a1=>Zy9.run (Zy8 a0 a1)
theorem Zw8(a0)(a1){r}(h:Z3m a0 a1=some r):Fn PR 150 [wA (Zo a0),wI a1] (wB r):=Zy9.fn h
def Z0x(a0:Int):LT Empty Bool:=
.rt (a0 != a0)
def Z0y:LF Empty Bool := .z0 119 [.t 2] wB
def Z6s:=fun a0=>Z0y.run (Z0x a0)
theorem Zza(a0){r}(h:Z6s a0=some r):Fn PR 119 [wI a0] (wB r):=Z0y.fn h
def Zw9(a0:Int)(a1:Int):LT Empty Int:=
.call (Zza a0) fun x1=>.call (Zza a1) fun x3=>.br x1 (.br x3 (.rt 0)<|.rt (-1))<|.br x3 (.rt 1)<|.br (decide (a0 < a1)) (.rt (-1))<|.br (decide (a0 > a1)) (.rt 1)<|.rt 0
def Zxa:LF Empty Int := .z0 72 [.t 4] wI
def Z0z:=fun a0 a1=>Zxa.run (Zw9 a0 a1)
theorem Zaaw(a0)(a1){r}(h:Z0z a0 a1=some r):Fn PR 72 [wI a0,wI a1] (wI r):=Zxa.fn h
def Z3n(a0:Zg)(a1:Int):LT Empty Int:=
.lb 1002<|.call (Zaaw a0.Id a1) fun x1=>.rt x1
def Z3o:LF Empty Int := .z0 71 [.t 4] wI
def Z9s:=fun a0 a1=>Z3o.run (Z3n a0 a1)
theorem Z00(a0)(a1){r}(h:Z9s a0 a1=some r):Fn PR 71 [wA (Zn a0),wI a1] (wI r):=Z3o.fn h
inductive Zaf where
 | L0 (v0:List Zg) (v1:Int) (v8:Int) (v9:Int) (v10:Int)
def Zbz(v0:List Zg)(v1:Int)(v8:Int)(v9:Int)(v10:Int):LT Zaf (Int×Bool):=
.br (decide (v9 < v10)) (.dc (¬ (1:Int) < 0) rfl<|.idx Zn v0 (IntKind.wrap .i64 (shrI .u64 (IntKind.wrap .u64 (IntKind.wrap .i64 (v9+v10))) 1)) fun x7=>.call (Z00 x7 v1) fun x9=>.br (decide (x9 < 0)) (.g0 (.L0 v0 v1 v8 (IntKind.wrap .i64 ((IntKind.wrap .i64 (shrI .u64 (IntKind.wrap .u64 (IntKind.wrap .i64 (v9+v10))) 1))+1)) v10))<|.g0 (.L0 v0 v1 v8 v9 (IntKind.wrap .i64 (shrI .u64 (IntKind.wrap .u64 (IntKind.wrap .i64 (v9+v10))) 1))))<|.cs (decide (v9 < v8)) (.k4 1<|.idx Zn v0 v9 fun x15=>.k3 1<|.call (Z00 x15 v1) fun x17=>.k2 1<|.rt (v9,x17==0))<|.k8 1<|.kg 1<|.rt (v9,false)
def Zb9(a0:List Zg)(a1:Int):LT Zaf (Int×Bool):=
.len Zn a0<|.g0 (.L0 a0 a1 (a0.length:Int) 0 (a0.length:Int))
def Zbd:LF Zaf (Int×Bool) := .m0 70 [.t 6,.t 7] (fun r=>(.tup [wI r.1,wB r.2])) fun | .L0 v0 v1 v8 v9 v10=>([1,1,1,0,4],⟨49,[(0,wL Zn v0),(1,wI v1),(2,.fn 71 []),(8,wI v8),(9,wI v9),(10,wI v10)],[]⟩,Zbz v0 v1 v8 v9 v10)
def Zcf:=fun a0 a1=>Zbd.run (Zb9 a0 a1)
theorem Zet(a0)(a1){r}(h:Zcf a0 a1=some r):Fn PR 70 [wL Zn a0,wI a1,.fn 71 []] (.tup [wI r.1,wB r.2]):=Zbd.fn h
def Z9t(a0:Zk)(a1:Int):LT Empty Int:=
.lb 1002<|.call (Zet a0.Objects a1) fun x1=>.br (!x1.2) (.rt (-1))<|.rt x1.1
def Z9u:LF Empty Int := .z0 42 [.t 4] wI
def Zag8:=fun a0 a1=>Z9u.run (Z9t a0 a1)
theorem Z6t(a0)(a1){r}(h:Zag8 a0 a1=some r):Fn PR 42 [wA (Z9 a0),wI a1] (wI r):=Z9u.fn h
inductive Zed where
 | L0 (v0:List Int) (v1:Int) (v7:Int) (v8:Int)
def Znf(v0:List Int)(v1:Int)(v7:Int)(v8:Int):LT Zed Int:=
.br (decide (v8 < v7)) (.idx (cI .i64) v0 v8 fun x2=>.br (v1==x2) (.rt v8)<|.g0 (.L0 v0 v1 v7 (IntKind.wrap .i64 (v8+1))))<|.rt (-1)
def Zn8(a0:List Int)(a1:Int):LT Zed Int:=
.len (cI .i64) a0<|.g0 (.L0 a0 a1 (a0.length:Int) 0)
def Zip:LF Zed Int := .m0 193 [.t 4] wI fun | .L0 v0 v1 v7 v8=>([1,0,1,4],⟨19,[(0,wL (cI .i64) v0),(1,wI v1),(7,wI v7),(8,wI v8)],[]⟩,Znf v0 v1 v7 v8)
def Zp9:=fun a0 a1=>Zip.run (Zn8 a0 a1)
theorem Zh8(a0)(a1){r}(h:Zp9 a0 a1=some r):Fn PR 193 [wL (cI .i64) a0,wI a1] (wI r):=Zip.fn h
def Zlr(a0:List Int)(a1:Int):LT Empty Bool:=
.call (Zh8 a0 a1) fun x1=>.rt (decide (x1>=0))
def Zls:LF Empty Bool := .z0 155 [.t 4] wB
def Zng:=fun a0 a1=>Zls.run (Zlr a0 a1)
theorem Zk0(a0)(a1){r}(h:Zng a0 a1=some r):Fn PR 155 [wL (cI .i64) a0,wI a1] (wB r):=Zls.fn h
def Z01(a0:Int)(a1:Int):LT Empty Bool:=
.cs (decide (a0>=0)) (.k4 0<|.rt (decide (a0<=a1)))<|.k4 0<|.rt false
def Z02:LF Empty Bool := .z0 245 [.t 4] wB
def Zvb:=fun a0 a1=>Z02.run (Z01 a0 a1)
theorem Zcc(a0)(a1){r}(h:Zvb a0 a1=some r):Fn PR 245 [wI a0,wI a1] (wB r):=Z02.fn h
inductive Z3p where
 | L0 (v36:List Int) (v37:Int) (v38:Int)
def Ztq(v36:List Int)(v37:Int)(v38:Int):LT Z3p Bool:=
.br (decide (v38 < v37)) (.idx (cI .u8) v36 v38 fun x2=>.cs (decide (x2 < 97)) (.k3 1<|.b3 true<|.cs (decide (x2 < 48)) (.k2 2<|.kb true<|.kg 2<|.b4 true<|.br (x2 != 45) (.rt false)<|.g0 (.L0 v36 v37 (IntKind.wrap .i64 (v38+1))))<|.k2 2<|.kb true<|.kg 2<|.kb true<|.cs (decide (x2 > 57)) (.k3 3<|.br (x2 != 45) (.rt false)<|.g0 (.L0 v36 v37 (IntKind.wrap .i64 (v38+1))))<|.k3 3<|.kn [0]<|.g0 (.L0 v36 v37 (IntKind.wrap .i64 (v38+1))))<|.k3 1<|.cs (decide (x2 > 122)) (.k3 2<|.cs (decide (x2 < 48)) (.k2 3<|.kg 2<|.kg 3<|.kg 2<|.b3 true<|.br (x2 != 45) (.rt false)<|.g0 (.L0 v36 v37 (IntKind.wrap .i64 (v38+1))))<|.k2 3<|.kg 2<|.kg 3<|.kg 2<|.cs (decide (x2 > 57)) (.k3 4<|.br (x2 != 45) (.rt false)<|.g0 (.L0 v36 v37 (IntKind.wrap .i64 (v38+1))))<|.k3 4<|.kn [0]<|.g0 (.L0 v36 v37 (IntKind.wrap .i64 (v38+1))))<|.k5 2<|.b3 false<|.kn [0]<|.g0 (.L0 v36 v37 (IntKind.wrap .i64 (v38+1))))<|.rt true
def Zar5(a0:By):LT Z3p Bool:=
.lenS a0<|.cs ((a0.length:Int)==0) (.k4 0<|.b16 true<|.b2 true<|.kn [0]<|.rt false)<|.k2 0<|.lenS a0<|.k2 0<|.cs (decide ((a0.length:Int) > 32)) (.k4 1<|.b8 true<|.b5 true<|.kb true<|.kn [0]<|.rt false)<|.k2 1<|.idxS a0 0 fun x4=>.k2 1<|.cs (decide ((UInt8.toNat x4:Int) < 97)) (.k4 2<|.b8 true<|.b2 true<|.kn [0]<|.rt false)<|.k2 2<|.idxS a0 0 fun x7=>.k2 2<|.cs (decide ((UInt8.toNat x7:Int) > 122)) (.k5 3<|.k2 3<|.b3 true<|.kn [0]<|.rt false)<|.k3 3<|.lenS a0<|.k2 3<|.idxS a0 (IntKind.wrap .i64 ((a0.length:Int) - 1)) fun x12=>.k2 3<|.cs ((UInt8.toNat x12:Int)==45) (.k3 4<|.kn [0]<|.rt false)<|.k2 4<|.call (Zaau a0 ([45,45]:By)) fun x15=>.kg 4<|.br x15 (.rt false)<|.bys a0 fun x18=>.len (cI .u8) x18<|.g0 (.L0 x18 (x18.length:Int) 0)
def Zxb:LF Z3p Bool := .m0 249 [.t 2] wB fun | .L0 v36 v37 v38=>([1,1,0,1,4],⟨61,[(36,wL (cI .u8) v36),(37,wI v37),(38,wI v38)],[]⟩,Ztq v36 v37 v38)
def Zao4:=fun a0=>Zxb.run (Zar5 a0)
theorem Za3x(a0){r}(h:Zao4 a0=some r):Fn PR 249 [wS a0] (wB r):=Zxb.fn h
def Z03(a0:Int):LT Empty (By):=
.idX Zf.str (A2.list (⟨([98,97,115,105,99]:By),([117,110,105,113,117,101]:By)⟩:A2 (By))) a0 fun x1=>.rt x1
def Zr3:LF Empty (By) := .z0 251 [.t 2] wS
def Zvc:=fun a0=>Zr3.run (Z03 a0)
theorem Zaez(a0){r}(h:Zvc a0=some r):Fn PR 251 [wI a0] (wS r):=Zr3.fn h
def Z3q(a0:Int):LT Empty (By):=
.idX Zf.str (A6.list (⟨([99,114,101,97,116,117,114,101]:By),([105,110,115,116,97,110,116]:By),([114,105,116,117,97,108]:By),([114,101,108,105,99]:By),([99,104,97,114,109]:By),([108,97,110,100]:By)⟩:A6 (By))) a0 fun x1=>.rt x1
def Ztr:LF Empty (By) := .z0 252 [.t 2] wS
def Zx5:=fun a0=>Ztr.run (Z3q a0)
theorem Zai1(a0){r}(h:Zx5 a0=some r):Fn PR 252 [wI a0] (wS r):=Ztr.fn h
inductive Zh9 where
 | L0 (v0:By) (v8:Int) (v9:Int)
def Ze9(v0:By)(v8:Int)(v9:Int):LT Zh9 Int:=
.br (decide (v9 < v8)) (.call (Zaez v9) fun x2=>.br (!(x2==v0)) (.g0 (.L0 v0 v8 (IntKind.wrap .i64 (v9+1))))<|.ok (¬ v9 < 0)<|.rt (Z0a .i64 1 v9))<|.rt 0
def Znh(a0:By)(a1:Int):LT Zh9 Int:=
.g0 (.L0 a0 a1 0)
def Zia:LF Zh9 Int := .m0 250 [.t 6] wI fun | .L0 v0 v8 v9=>([1,6,1,0,1,4],⟨20,[(0,wS v0),(2,.fn 251 []),(8,wI v8),(9,wI v9)],[]⟩,Ze9 v0 v8 v9)
def Zjc:=fun a0 a1=>Zia.run (Znh a0 a1)
theorem Zxc(a0)(a1){r}(h:Zjc a0 a1=some r):Fn PR 250 [wS a0,wI a1,.fn 251 []] (wI r):=Zia.fn h
inductive Ziq where
 | L0 (v0:By) (v8:Int) (v9:Int)
def Zft(v0:By)(v8:Int)(v9:Int):LT Ziq Int:=
.br (decide (v9 < v8)) (.call (Zai1 v9) fun x2=>.br (!(x2==v0)) (.g0 (.L0 v0 v8 (IntKind.wrap .i64 (v9+1))))<|.ok (¬ v9 < 0)<|.rt (Z0a .i64 1 v9))<|.rt 0
def Zn9(a0:By)(a1:Int):LT Ziq Int:=
.g0 (.L0 a0 a1 0)
def Zir:LF Ziq Int := .m0 250 [.t 6] wI fun | .L0 v0 v8 v9=>([1,6,1,0,1,4],⟨20,[(0,wS v0),(2,.fn 252 []),(8,wI v8),(9,wI v9)],[]⟩,Zft v0 v8 v9)
def Zjw:=fun a0 a1=>Zir.run (Zn9 a0 a1)
theorem Zx6(a0)(a1){r}(h:Zjw a0 a1=some r):Fn PR 250 [wS a0,wI a1,.fn 252 []] (wI r):=Zir.fn h
def Zacv(a0:By):LT Empty Bool:=
.call (Za3x a0) fun x1=>.cs x1 (.k2 0<|.call (Zxc a0 2) fun x4=>.k2 0<|.cs (x4==0) (.k2 1<|.call (Zx6 a0 6) fun x7=>.k2 1<|.rt (x7==0))<|.k4 1<|.rt false)<|.k4 0<|.b4 false<|.rt false
def Zacw:LF Empty Bool := .z0 204 [.t 2] wB
def Zzn:=fun a0=>Zacw.run (Zacv a0)
theorem Zx7(a0){r}(h:Zzn a0=some r):Fn PR 204 [wS a0] (wB r):=Zacw.fn h
def Z04(a0:Za):LT Empty Bool:=
.lb 1001<|.call (Zcc a0.Kind 3) fun x1=>.cs x1 (.k3 0<|.call (Zcc a0.N 1000000) fun x4=>.kg 0<|.cs x4 (.k4 1<|.cs (a0.Kind != 0) (.k3 2<|.kg 1<|.kg 2<|.kg 1<|.rt true)<|.k3 2<|.kg 1<|.kg 2<|.kg 1<|.rt (a0.N==0))<|.k5 1<|.kg 1<|.rt false)<|.k4 0<|.b5 false<|.kb false<|.rt false
def Z05:LF Empty Bool := .z0 246 [.t 2] wB
def Zvd:=fun a0=>Z05.run (Z04 a0)
theorem Zqi(a0){r}(h:Zvd a0=some r):Fn PR 246 [wA (Zb4 a0)] (wB r):=Z05.fn h
inductive Zv4 where
 | L0 (E0:Ze)
def Zo6(E0:Ze):LT Zv4 Bool:=
.call (Zqi E0.Power) fun x1=>.cs x1 (.k3 0<|.call (Zqi E0.Tough) fun x4=>.kg 0<|.cs x4 (.k3 1<|.call (Zqi E0.Value) fun x7=>.kg 1<|.rt x7)<|.k4 1<|.rt false)<|.k4 0<|.b4 false<|.rt false
def Zag9(a0:Ze):LT Zv4 Bool:=
.lb 1001<|.call (Zcc a0.Zone 5) fun x1=>.cs (!x1) (.k5 0<|.b8 true<|.b5 true<|.b2 true<|.kn [0]<|.rt false)<|.k3 0<|.call (Zcc a0.Who 2) fun x4=>.k2 0<|.cs (!x4) (.k5 1<|.b8 true<|.b2 true<|.kn [0]<|.rt false)<|.k3 1<|.call (Zcc a0.Self 2) fun x7=>.k2 1<|.cs (!x7) (.k5 2<|.b5 true<|.kn [0]<|.rt false)<|.k3 2<|.call (Zcc a0.Tap 2) fun x10=>.k2 2<|.cs (!x10) (.k5 3<|.kn [0]<|.rt false)<|.k3 3<|.call (Zcc a0.Keys 131071) fun x13=>.k2 3<|.br (!x13) (.rt false)<|.call (Zcc a0.Types 63) fun x16=>.cs (!x16) (.k5 5<|.b5 true<|.b2 true<|.kn [0]<|.rt false)<|.k3 5<|.call (Zcc a0.NotTypes 63) fun x19=>.k2 5<|.cs (!x19) (.k5 6<|.k2 6<|.kn [0]<|.rt false)<|.k5 6<|.k2 6<|.br ((Zay .and .i64 a0.Types a0.NotTypes) != 0) (.rt false)<|.call (Zcc a0.Colors 31) fun x23=>.cs (!x23) (.k5 8<|.b5 true<|.b2 true<|.kn [0]<|.rt false)<|.k3 8<|.call (Zcc a0.NotColors 31) fun x26=>.k2 8<|.cs (!x26) (.k5 9<|.k2 9<|.kn [0]<|.rt false)<|.k5 9<|.k2 9<|.br ((Zay .and .i64 a0.Colors a0.NotColors) != 0) (.rt false)<|.cs (!(a0.Sub==([]:By))) (.k3 11<|.call (Zx7 a0.Sub) fun x31=>.k2 11<|.br (!x31) (.rt false)<|.jn 0 (.L0 a0) [.relab 1001 3000] (Zo6 a0))<|.k5 11<|.kn [0]<|.jn 0 (.L0 a0) [.relab 1001 3000] (Zo6 a0)
def Zq6:LF Zv4 Bool := .m0 194 [.t 2] wB fun | .L0 E0=>([1,1,1,1,1],⟨89,[(1,.bptr 3000 0)],[(3000,.box (bx (Zo E0)))]⟩,Zo6 E0)
def Z3r:=fun a0=>Zq6.run (Zag9 a0)
theorem Zacx(a0){r}(h:Z3r a0=some r):Fn PR 194 [wA (Zo a0)] (wB r):=Zq6.fn h
def Z06(a0:Int)(a1:Int)(a2:Int):LT Empty Bool:=
.cs (a1==0) (.k5 0<|.b5 true<|.rt ((Zay .and .i64 a0 a2)==0))<|.k5 0<|.cs ((Zay .and .i64 a0 a1) != 0) (.k5 1<|.rt ((Zay .and .i64 a0 a2)==0))<|.k5 1<|.rt false
def Z07:LF Empty Bool := .z0 195 [.t 6] wB
def Zve:=fun a0 a1 a2=>Z07.run (Z06 a0 a1 a2)
theorem Zzb(a0)(a1)(a2){r}(h:Zve a0 a1 a2=some r):Fn PR 195 [wI a0,wI a1,wI a2] (wB r):=Z07.fn h
def Zaha(a0:Za)(a1:Int):LT Empty Bool:=
.lb 1002<|.br (a0.Kind==0) (.rt true)<|.br (a0.Kind==1) (.rt (decide (a1>=a0.N)))<|.br (a0.Kind==2) (.rt (decide (a1<=a0.N)))<|.br (a0.Kind==3) (.rt (a1==a0.N))<|.rt false
def Zahb:LF Empty Bool := .z0 197 [.t 4] wB
def Zacy:=fun a0 a1=>Zahb.run (Zaha a0 a1)
theorem Zacz(a0)(a1){r}(h:Zacy a0 a1=some r):Fn PR 197 [wA (Zb4 a0),wI a1] (wB r):=Zahb.fn h
inductive Zcu where
 | L0 (v0:Bys) (v1:By) (v7:Int) (v8:Int)
def Zcm(v0:Bys)(v1:By)(v7:Int)(v8:Int):LT Zcu Int:=
.br (decide (v8 < v7)) (.idx cS v0 v8 fun x2=>.br (v1==x2) (.rt v8)<|.g0 (.L0 v0 v1 v7 (IntKind.wrap .i64 (v8+1))))<|.rt (-1)
def Zjn(a0:Bys)(a1:By):LT Zcu Int:=
.len cS a0<|.g0 (.L0 a0 a1 (a0.length:Int) 0)
def Zd6:LF Zcu Int := .m0 263 [.t 4] wI fun | .L0 v0 v1 v7 v8=>([1,0,1,4],⟨19,[(0,wL cS v0),(1,wS v1),(7,wI v7),(8,wI v8)],[]⟩,Zcm v0 v1 v7 v8)
def Zk1:=fun a0 a1=>Zd6.run (Zjn a0 a1)
theorem Zr4(a0)(a1){r}(h:Zk1 a0 a1=some r):Fn PR 263 [wL cS a0,wS a1] (wI r):=Zd6.fn h
def Zif(a0:Bys)(a1:By):LT Empty Bool:=
.call (Zr4 a0 a1) fun x1=>.rt (decide (x1>=0))
def Zig:LF Empty Bool := .z0 247 [.t 4] wB
def Zjd:=fun a0 a1=>Zig.run (Zif a0 a1)
theorem Zpz(a0)(a1){r}(h:Zjd a0 a1=some r):Fn PR 247 [wL cS a0,wS a1] (wB r):=Zig.fn h
def Z9v(a0:Zac)(a1:By):LT Empty Bool:=
.lb 1002<|.call (Zpz a0.Subs a1) fun x1=>.rt x1
def Z9w:LF Empty Bool := .z0 198 [.t 4] wB
def Zv5:=fun a0 a1=>Z9w.run (Z9v a0 a1)
theorem Z6u(a0)(a1){r}(h:Zv5 a0 a1=some r):Fn PR 198 [wA (Zhd a0),wS a1] (wB r):=Z9w.fn h
def Zasv(a0:Int)(a1:Int):LT Empty Bool:=
.rt ((Zay .and .i64 a0 a1)==a1)
def Z9x:LF Empty Bool := .z0 199 [.t 4] wB
def Zahc:=fun a0 a1=>Z9x.run (Zasv a0 a1)
theorem Z6v(a0)(a1){r}(h:Zahc a0 a1=some r):Fn PR 199 [wI a0,wI a1] (wB r):=Z9x.fn h
def Zar6(a0:Int)(a1:Int):LT Empty Int:=
.call (Zek a0) fun x1=>.call (Zek a1) fun x3=>.call (Zek (IntKind.wrap .i64 (x1*x3))) fun x7=>.rt x7
def Zar7:LF Empty Int := .z0 248 [.t 4] wI
def Zao5:=fun a0 a1=>Zar7.run (Zar6 a0 a1)
theorem Za3y(a0)(a1){r}(h:Zao5 a0 a1=some r):Fn PR 248 [wI a0,wI a1] (wI r):=Zar7.fn h
inductive Z08 where
 | L0 (v1:Int) (E0:Zt) (v5:Int) (v14:A5 Int) (v15:Int)
def Zni(v1:Int)(E0:Zt)(v5:Int)(v14:A5 Int)(v15:Int):LT Z08 Int:=
.br (decide (v15 < 5)) (.idX (Zf.int .i64) (A5.list v14) v15 fun x2=>.g0 (.L0 v1 E0 (IntKind.wrap .i64 (v5+x2)) v14 (IntKind.wrap .i64 (v15+1))))<|.call (Za3y E0.X (maxI 0 v1)) fun x8=>.call (Ztn v5 x8) fun x10=>.rt x10
def Zac0(a0:Zt)(a1:Int):LT Z08 Int:=
.lb 1002<|.call (Zamq a0) fun x1=>.br (!x1) (.rt 0)<|.go (.L0 a1 a0 a0.Generic a0.Color 0) [.relab 1002 3000]
def Zts:LF Z08 Int := .m0 200 [.t 4] wI fun | .L0 v1 E0 v5 v14 v15=>([1,1,1,0,1,4],⟨29,[(1,wI v1),(2,.bptr 3000 0),(5,wI v5),(14,wA ((cA5 (cI .i64)) v14)),(15,wI v15)],[(3000,.box (bx (Zah E0)))]⟩,Zni v1 E0 v5 v14 v15)
def Z8c:=fun a0 a1=>Zts.run (Zac0 a0 a1)
theorem Zasw(a0)(a1){r}(h:Z8c a0 a1=some r):Fn PR 200 [wA (Zah a0),wI a1] (wI r):=Zts.fn h
def Zso(a0:Za)(a1:Int)(b0:Bool):LT Empty Bool:=
.lb 1003<|.cs (a0.Kind==0) (.k4 0<|.rt true)<|.k2 0<|.cs b0 (.k3 1<|.call (Zacz a0 a1) fun x3=>.kg 0<|.kg 1<|.kg 0<|.rt x3)<|.k3 1<|.kg 0<|.kg 1<|.kg 0<|.rt false
def Zsp(b0:Bool):LF Empty Bool := .z 196 [.t 5] true (fun r=>[(0,.box (bx (cB b0)))]) (fun r=>(wB r))
def Zn2(a0:Za)(a1:Int)(b0:Bool):Option Bool:=(Zsp b0).run (Zso a0 a1 b0)
theorem Zqa(a0:Za)(a1:Int)(b0:Bool){r:Bool}(h:Zn2 a0 a1 b0=some r):FnG PR 196 [(0,.box (bx (cB b0)))] [wA (Zb4 a0),wI a1,.bptr 0 0] [(0,.box (bx (cB b0)))] (wB r):=(Zsp b0).fn h
inductive Zgz where
 | L0 (v3:Int) (E0:Zg) (E1:Zb) (E2:Ze) (E3:Bool) (v30:Bool)
 | L1 (E0:Zg) (E1:Zb) (E2:Ze) (E3:Bool) (v49:Bool)
 | L2 (E0:Zg) (E1:Zb) (E2:Ze) (E3:Bool) (v68:Bool)
 | L3 (E0:Zg) (E1:Zb) (E2:Ze) (E3:Bool) (v88:Bool)
 | L4 (E0:Zb) (E1:Ze) (E2:Bool)
def Zgh(E0:Zb)(E1:Ze)(E2:Bool):LT Zgz Bool:=
.callO (Zqa E1.Power E0.Power E2) [3002] 1280000 (fun x=>[]) fun x1=>.cs x1 (.k5 0<|.kg 0<|.callO (Zqa E1.Tough E0.Tough E2) [3002] 1350000 (fun x=>[]) fun x4=>.kg 0<|.cs x4 (.k5 1<|.call (Zasw E0.Cost 0) fun x7=>.kg 1<|.call (Zacz E1.Value x7) fun x9=>.kg 1<|.rt x9)<|.k5 1<|.k2 1<|.rt false)<|.k5 0<|.k2 0<|.b5 false<|.b2 false<|.rt false
def Zh2(E0:Zg)(E1:Zb)(E2:Ze)(E3:Bool)(v88:Bool):LT Zgz Bool:=
.br v88 (.rt false)<|.cs (E2.Tap==1) (.k4 1<|.br (!E0.Tapped) (.kn [3]<|.rt false)<|.cs (E2.Tap==2) (.k3 3<|.br E0.Tapped (.rt false)<|.jn 0 (.L4 E1 E2 E3) (tm11 3000) (Zgh E1 E2 E3))<|.k3 3<|.kn [0]<|.jn 0 (.L4 E1 E2 E3) (tm11 3000) (Zgh E1 E2 E3))<|.k4 1<|.kn [0]<|.cs (E2.Tap==2) (.k3 2<|.br E0.Tapped (.rt false)<|.jn 0 (.L4 E1 E2 E3) (tm11 3000) (Zgh E1 E2 E3))<|.k3 2<|.kn [0]<|.jn 0 (.L4 E1 E2 E3) (tm11 3000) (Zgh E1 E2 E3)
def Zkh(E0:Zg)(E1:Zb)(E2:Ze)(E3:Bool)(v68:Bool):LT Zgz Bool:=
.br v68 (.rt false)<|.cs (!(E2.Sub==([]:By))) (.k5 1<|.call (Z6u E1.Line E2.Sub) fun x3=>.k2 1<|.br (!x3) (.j0 (.L3 E0 E1 E2 E3 (!x3)) (Zh2 E0 E1 E2 E3 (!x3)))<|.call (Z6v E1.Keys E2.Keys) fun x6=>.j0 (.L3 E0 E1 E2 E3 (!x6)) (Zh2 E0 E1 E2 E3 (!x6)))<|.k5 1<|.k2 1<|.kn [0]<|.call (Z6v E1.Keys E2.Keys) fun x8=>.j0 (.L3 E0 E1 E2 E3 (!x8)) (Zh2 E0 E1 E2 E3 (!x8))
def Zfa(E0:Zg)(E1:Zb)(E2:Ze)(E3:Bool)(v49:Bool):LT Zgz Bool:=
.br v49 (.rt false)<|.call (Zzb E1.Line.Types E2.Types E2.NotTypes) fun x2=>.br (!x2) (.j0 (.L2 E0 E1 E2 E3 (!x2)) (Zkh E0 E1 E2 E3 (!x2)))<|.call (Zzb E1.Colors E2.Colors E2.NotColors) fun x5=>.j0 (.L2 E0 E1 E2 E3 (!x5)) (Zkh E0 E1 E2 E3 (!x5))
def Zb0(v3:Int)(E0:Zg)(E1:Zb)(E2:Ze)(E3:Bool)(v30:Bool):LT Zgz Bool:=
.br v30 (.rt false)<|.cs (E2.Self==1) (.k5 1<|.br (E0.Id != v3) (.j0 (.L1 E0 E1 E2 E3 (E0.Id != v3)) (Zfa E0 E1 E2 E3 (E0.Id != v3)))<|.cs (E2.Self==2) (.k5 3<|.j0 (.L1 E0 E1 E2 E3 (E0.Id==v3)) (Zfa E0 E1 E2 E3 (E0.Id==v3)))<|.k5 3<|.j0 (.L1 E0 E1 E2 E3 false) (Zfa E0 E1 E2 E3 false))<|.k5 1<|.kn [0]<|.cs (E2.Self==2) (.k5 2<|.j0 (.L1 E0 E1 E2 E3 (E0.Id==v3)) (Zfa E0 E1 E2 E3 (E0.Id==v3)))<|.k5 2<|.j0 (.L1 E0 E1 E2 E3 false) (Zfa E0 E1 E2 E3 false)
def Z6w(a0:Zg)(a1:Zb)(a2:Int)(a3:Int)(a4:Ze):LT Zgz Bool:=
.lb 1005<|.lb 1006<|.lb 1009<|.call (Zacx a4) fun x1=>.cs (!x1) (.k5 0<|.kg 0<|.kn [0]<|.rt false)<|.k5 0<|.kg 0<|.br (a0.Zone != a4.Zone) (.rt false)<|.lb 1011<|.cs (a4.Who==1) (.k5 2<|.br (a1.Control != a2) (.jn 0 (.L0 a3 a0 a1 a4 ((Zay .and .i64 a1.Line.Types 1) != 0) (a1.Control != a2)) (tm12 1000 3000) (Zb0 a3 a0 a1 a4 ((Zay .and .i64 a1.Line.Types 1) != 0) (a1.Control != a2)))<|.cs (a4.Who==2) (.k5 4<|.jn 0 (.L0 a3 a0 a1 a4 ((Zay .and .i64 a1.Line.Types 1) != 0) (a1.Control==a2)) (tm12 1000 3000) (Zb0 a3 a0 a1 a4 ((Zay .and .i64 a1.Line.Types 1) != 0) (a1.Control==a2)))<|.k5 4<|.jn 0 (.L0 a3 a0 a1 a4 ((Zay .and .i64 a1.Line.Types 1) != 0) false) (tm12 1000 3000) (Zb0 a3 a0 a1 a4 ((Zay .and .i64 a1.Line.Types 1) != 0) false))<|.k5 2<|.kn [0]<|.cs (a4.Who==2) (.k5 3<|.jn 0 (.L0 a3 a0 a1 a4 ((Zay .and .i64 a1.Line.Types 1) != 0) (a1.Control==a2)) (tm12 1000 3000) (Zb0 a3 a0 a1 a4 ((Zay .and .i64 a1.Line.Types 1) != 0) (a1.Control==a2)))<|.k5 3<|.jn 0 (.L0 a3 a0 a1 a4 ((Zay .and .i64 a1.Line.Types 1) != 0) false) (tm12 1000 3000) (Zb0 a3 a0 a1 a4 ((Zay .and .i64 a1.Line.Types 1) != 0) false)
def Zg0:LF Zgz Bool := .m0 156 [.t 10] wB fun | .L0 v3 E0 E1 E2 E3 v30=>([1,1,1,1,1,0,4,1],⟨144,[(3,wI v3),(5,.bptr 3000 0),(6,.bptr 3001 0),(9,.bptr 3002 0),(12,.fn 195 []),(13,.fn 196 [.bptr 3003 0]),(30,wB v30)],[(3000,.box (bx (Zn E0))),(3001,.box (bx (Zi E1))),(3002,.box (bx (Zo E2))),(3003,.box (bx (cB E3)))]⟩,Zb0 v3 E0 E1 E2 E3 v30) | .L1 E0 E1 E2 E3 v49=>([1,1,1,1,1,0,4,1,3,1],⟨144,[(5,.bptr 3000 0),(6,.bptr 3001 0),(9,.bptr 3002 0),(12,.fn 195 []),(13,.fn 196 [.bptr 3003 0]),(49,wB v49)],[(3000,.box (bx (Zn E0))),(3001,.box (bx (Zi E1))),(3002,.box (bx (Zo E2))),(3003,.box (bx (cB E3)))]⟩,Zfa E0 E1 E2 E3 v49) | .L2 E0 E1 E2 E3 v68=>([1,1,1,1,1,0,4,1,3,1,3,1],⟨144,[(5,.bptr 3000 0),(6,.bptr 3001 0),(9,.bptr 3002 0),(13,.fn 196 [.bptr 3003 0]),(68,wB v68)],[(3000,.box (bx (Zn E0))),(3001,.box (bx (Zi E1))),(3002,.box (bx (Zo E2))),(3003,.box (bx (cB E3)))]⟩,Zkh E0 E1 E2 E3 v68) | .L3 E0 E1 E2 E3 v88=>([1,1,1,1,1,0,4,1,3,1,3,1,3,1],⟨144,[(5,.bptr 3000 0),(6,.bptr 3001 0),(9,.bptr 3002 0),(13,.fn 196 [.bptr 3003 0]),(88,wB v88)],[(3000,.box (bx (Zn E0))),(3001,.box (bx (Zi E1))),(3002,.box (bx (Zo E2))),(3003,.box (bx (cB E3)))]⟩,Zh2 E0 E1 E2 E3 v88) | .L4 E0 E1 E2=>([1,1,1,1,1,1],⟨144,[(6,.bptr 3000 0),(9,.bptr 3001 0),(13,.fn 196 [.bptr 3002 0])],[(3000,.box (bx (Zi E0))),(3001,.box (bx (Zo E1))),(3002,.box (bx (cB E2)))]⟩,Zgh E0 E1 E2)
def Ztt:=fun a0 a1 a2 a3 a4=>Zg0.run (Z6w a0 a1 a2 a3 a4)
theorem Ztu(a0)(a1)(a2)(a3)(a4){r}(h:Ztt a0 a1 a2 a3 a4=some r):Fn PR 156 [wA (Zn a0),wA (Zi a1),wI a2,wI a3,wA (Zo a4)] (wB r):=Zg0.fn h
inductive Ztv where
 | L0 (v1:List Zb) (v2:Int) (v3:Int) (E0:Ze) (v11:List Int) (v16:List Zg) (v17:Int) (v18:Int)
 | L1 (v1:List Zb) (v2:Int) (v3:Int) (E0:Ze) (v11:List Int) (E1:Zg) (E2:Zb) (v16:List Zg) (v17:Int) (v18:Int)
def Znj(v1:List Zb)(v2:Int)(v3:Int)(E0:Ze)(v11:List Int)(E1:Zg)(E2:Zb)(v16:List Zg)(v17:Int)(v18:Int):LT Ztv (List Int):=
.call (Ztu E1 E2 v2 v3 E0) fun x1=>.br x1 (.dr [.lit]<|.apR (cI .i64) 8 v11 [E1.Id] fun x4=>.g0 (.L0 v1 v2 v3 E0 x4 v16 v17 (IntKind.wrap .i64 (v18+1))))<|.g0 (.L0 v1 v2 v3 E0 v11 v16 v17 (IntKind.wrap .i64 (v18+1)))
def Znk(v1:List Zb)(v2:Int)(v3:Int)(E0:Ze)(v11:List Int)(v16:List Zg)(v17:Int)(v18:Int):LT Ztv (List Int):=
.br (decide (v18 < v17)) (.idx Zn v16 v18 fun x2=>.lb 1013<|.lb 1014<|.len Zi v1<|.br (decide (v18 < (v1.length:Int))) (.idx Zi v1 v18 fun x6=>.jn 0 (.L1 v1 v2 v3 E0 v11 x2 x6 v16 v17 v18) [.relab 1013 3001,.relab 1014 3002] (Znj v1 v2 v3 E0 v11 x2 x6 v16 v17 v18))<|.jn 0 (.L1 v1 v2 v3 E0 v11 x2 (⟨([]:By),(⟨0,0,(⟨0,0,0,0,0⟩:A5 Int)⟩:Zt),0,(⟨0,0,([]:Bys)⟩:Zac),0,0,0,([]:List Zh),0⟩:Zb) v16 v17 v18) [.relab 1013 3001,.relab 1014 3002,.niltb 3002 11,.niltb 3002 15] (Znj v1 v2 v3 E0 v11 x2 (⟨([]:By),(⟨0,0,(⟨0,0,0,0,0⟩:A5 Int)⟩:Zt),0,(⟨0,0,([]:Bys)⟩:Zac),0,0,0,([]:List Zh),0⟩:Zb) v16 v17 v18))<|.ret v11 [.relab 20011 5000]
def Zac1(a0:Zk)(a1:List Zb)(a2:Int)(a3:Int)(a4:Ze):LT Ztv (List Int):=
.lb 1005<|.lb 1009<|.len Zn a0.Objects<|.go (.L0 a1 a2 a3 a4 ([]:List Int) a0.Objects (a0.Objects.length:Int) 0) [.relab 1009 3000,.own 11 20011 1]
def Z09:LF Ztv (List Int) := .m 157 [.t 10] true (fun r=>[(5000,wR (cI .i64) 1 r)]) (fun r=>(wO (cI .i64) 5000 r)) fun | .L0 v1 v2 v3 E0 v11 v16 v17 v18=>([1,1,0,1,4],⟨44,[(1,wL Zi v1),(2,wI v2),(3,wI v3),(9,.bptr 3000 0),(11,wO (cI .i64) 20011 v11),(16,wL Zn v16),(17,wI v17),(18,wI v18)],[(3000,.box (bx (Zo E0))),(20011,wR (cI .i64) 1 v11)]⟩,Znk v1 v2 v3 E0 v11 v16 v17 v18) | .L1 v1 v2 v3 E0 v11 E1 E2 v16 v17 v18=>([1,1,0,1,4,5,1,1,0,4,1,1,1],⟨44,[(1,wL Zi v1),(2,wI v2),(3,wI v3),(9,.bptr 3000 0),(11,wO (cI .i64) 20011 v11),(13,.bptr 3001 0),(14,.bptr 3002 0),(16,wL Zn v16),(17,wI v17),(18,wI v18)],[(3000,.box (bx (Zo E0))),(20011,wR (cI .i64) 1 v11),(3001,.box (bx (Zn E1))),(3002,.box (bx (Zi E2)))]⟩,Znj v1 v2 v3 E0 v11 E1 E2 v16 v17 v18)
def Zzo:=fun a0 a1 a2 a3 a4=>Z09.run (Zac1 a0 a1 a2 a3 a4)
theorem Zao6(a0)(a1)(a2)(a3)(a4){r}(h:Zzo a0 a1 a2 a3 a4=some r):FnG PR 157 [] [wA (Z9 a0),wL Zi a1,wI a2,wI a3,wA (Zo a4)] [(5000,wR (cI .i64) 1 r)] (wO (cI .i64) 5000 r):=Z09.fn h
inductive Zee where
 | L0 (v0:List Int) (v1:List Int) (v12:Int) (v13:Int)
def Znl(v0:List Int)(v1:List Int)(v12:Int)(v13:Int):LT Zee Bool:=
.br (decide (v13 < v12)) (.idx (cI .i64) v0 v13 fun x2=>.idx (cI .i64) v1 v13 fun x4=>.br (x2 != x4) (.rt false)<|.g0 (.L0 v0 v1 v12 (IntKind.wrap .i64 (v13+1))))<|.rt true
def Zoa(a0:List Int)(a1:List Int):LT Zee Bool:=
.len (cI .i64) a0<|.len (cI .i64) a1<|.br ((a0.length:Int) != (a1.length:Int)) (.rt false)<|.len (cI .i64) a0<|.g0 (.L0 a0 a1 (a0.length:Int) 0)
def Zis:LF Zee Bool := .m0 101 [.t 4] wB fun | .L0 v0 v1 v12 v13=>([1,1,0,1,4],⟨26,[(0,wL (cI .i64) v0),(1,wL (cI .i64) v1),(12,wI v12),(13,wI v13)],[]⟩,Znl v0 v1 v12 v13)
def Zqb:=fun a0 a1=>Zis.run (Zoa a0 a1)
theorem Znm(a0)(a1){r}(h:Zqb a0 a1=some r):Fn PR 101 [wL (cI .i64) a0,wL (cI .i64) a1] (wB r):=Zis.fn h
def Zo7(a0:Zaa)(a1:Zaa):LT Empty Bool:=
.lb 1002<|.lb 1003<|.cs (!(a0.active==a1.active)) (.k5 0<|.k2 0<|.b5 true<|.b2 true<|.rt true)<|.k5 0<|.call (Znm a0.hits a1.hits) fun x2=>.k2 0<|.cs (!x2) (.k5 1<|.k2 1<|.rt true)<|.k5 1<|.call (Znm a0.numbers a1.numbers) fun x5=>.k2 1<|.rt (!x5)
def Zo8:LF Empty Bool := .z0 100 [.t 4] wB
def Zq7:=fun a0 a1=>Zo8.run (Zo7 a0 a1)
theorem Zzp(a0)(a1){r}(h:Zq7 a0 a1=some r):Fn PR 100 [wA (Zfl a0),wA (Zfl a1)] (wB r):=Zo8.fn h
def Zhr(a0:List Bool)(hne:a0≠[]):LT Empty (List Bool):=
.ne cB hne<|.kn [0]<|.lb 1005<|.apR cB 1 ([]:List Bool) a0 fun x1=>.ret x1 [.relab 1005 5000]
def Zbx:LF Empty (List Bool) := .z 153 [.t 2] true (fun r=>[(5000,wR cB 1 r)]) (fun r=>(wO cB 5000 r))
def Zeu(c:Nat):LT Empty (List Bool):=
.kn [0]<|.ret ([]:List Bool) [.own 2 5000 1]
def Zvf(c:Nat)(ad:Addr):LT Empty (List Bool):=
.kn [0]<|.lb 1005<|.apR cB 1 ([]:List Bool) ([]:List Bool) fun x1=>.ret x1 [.relab 1005 5000]
open Classical in
def Zf3(a0:List Bool):Option (List Bool):=if h:a0≠[] then Zbx.run (Zhr a0 h) else Zbx.run (Zeu 0)
theorem Zk2(a0:List Bool){r:List Bool}(h:Zf3 a0=some r):FnG PR 153 [] [wL cB a0] [(5000,wR cB 1 r)] (wO cB 5000 r):=by
 by_cases hne:a0=[]
 .subst hne
  have h0:Zbx.run (Zeu 0)=some r:=h
  exact FnG.split0 (fun e=>absurd rfl e) (fun _ a c=>by
   cases a with
   | none=>exact Zbx.fn (t:=Zeu c) h0
   | some ad=>exact Zbx.fn (t:=Zvf c ad) h0)
 .have h0:Zbx.run (Zhr a0 hne)=some r:=by unfold Zf3 at h;rwa [dif_pos hne] at h
  exact FnG.split0 (fun _=>Zbx.fn h0) (fun e=>absurd (List.map_eq_nil_iff.1 e) hne)
def Zdq(a0:List Zh)(hne:a0≠[]):LT Empty (List Zh):=
.ne Zj hne<|.kn [0]<|.lb 1005<|.apR Zj 640 ([]:List Zh) a0 fun x1=>.ret x1 [.relab 1005 5000]
def Zax:LF Empty (List Zh) := .z 201 [.t 2] true (fun r=>[(5000,wR Zj 72 r)]) (fun r=>(wO Zj 5000 r))
def Zb1(c:Nat):LT Empty (List Zh):=
.kn [0]<|.ret ([]:List Zh) [.own 2 5000 72]
def Zlt(c:Nat)(ad:Addr):LT Empty (List Zh):=
.kn [0]<|.lb 1005<|.apR Zj 640 ([]:List Zh) ([]:List Zh) fun x1=>.ret x1 [.relab 1005 5000]
open Classical in
def Zcl(a0:List Zh):Option (List Zh):=if h:a0≠[] then Zax.run (Zdq a0 h) else Zax.run (Zb1 0)
theorem Zla(a0:List Zh){r:List Zh}(h:Zcl a0=some r):FnG PR 201 [] [wL Zj a0] [(5000,wR Zj 72 r)] (wO Zj 5000 r):=by
 by_cases hne:a0=[]
 .subst hne
  have h0:Zax.run (Zb1 0)=some r:=h
  exact FnG.split0 (fun e=>absurd rfl e) (fun _ a c=>by
   cases a with
   | none=>exact Zax.fn (t:=Zb1 c) h0
   | some ad=>exact Zax.fn (t:=Zlt c ad) h0)
 .have h0:Zax.run (Zdq a0 hne)=some r:=by unfold Zcl at h;rwa [dif_pos hne] at h
  exact FnG.split0 (fun _=>Zax.fn h0) (fun e=>absurd (List.map_eq_nil_iff.1 e) hne)
inductive Zlu where
 | L0 (E0:Zb) (E1:Zb) (v18:Int) (v19:Int)
 | L1 (y45000015:Zh) (E0:Zb) (E1:Zb) (v18:Int) (v19:Int) (v54:Int) (v55:Int) (v4:Int)
def Z9y(E0:Zb)(E1:Zb)(v18:Int)(v19:Int):LT Zlu Zb:=
.br (decide (v19 < v18)) (.idxR Zj E0.Abilities v19 fun x2=>.dr [.ahead 7,.opn 40015 (Int.toNat v19) (Zj x2),.stop]<|.us [2]<|.iq v19<|.iq v19<|.rl Zj E0.Abilities<|.rl Zj E0.Abilities<|.rl Zj E0.Abilities<|.call (Zcb x2.Mods) fun x4=>.rl Zj E0.Abilities<|.rl Zj E0.Abilities<|.rl Zj E0.Abilities<|.call (Zo3 x2.Specs) fun x6=>.rl Zj E0.Abilities<|.rl Zj E0.Abilities<|.rl Zj E0.Abilities<|.callF (Zgb x2.Effects) 440000 fun x8=>.rl Zj E0.Abilities<|.rl Zj E0.Abilities<|.rl Zj E0.Abilities<|.rl Zj E0.Abilities<|.rl Zj E0.Abilities<|.rl Zj E0.Abilities<|.rl Zj E0.Abilities<|.rl Zj E0.Abilities<|.rl Zj E0.Abilities<|.rl Zj E0.Abilities<|.rl Zj E0.Abilities<|.rl Zj E0.Abilities<|.lenO Zq x8<|.go (.L1 (⟨x2.Kind,x2.Filter,x4,x2.Price,x2.Slow,x2.Trigger,x2.May,x6,x8,x2.Replace⟩:Zh) E0 E1 v18 v19 (x8.length:Int) 0 v19) [.relab 40015 45000015,.relab 445000 46000049])<|.ret E0 [.relab 40011 5011,.relab 40015 5015]
def Z9z(y45000015:Zh)(E0:Zb)(E1:Zb)(v18:Int)(v19:Int)(v54:Int)(v55:Int)(v4:Int):LT Zlu Zb:=
.br (decide (v55 < v54)) (.rl Zj E0.Abilities<|.rl Zj E0.Abilities<|.rl Zj E0.Abilities<|.rl Zj E0.Abilities<|.rl Zj E0.Abilities<|.rl Zj E0.Abilities<|.idxR Zq y45000015.Effects v55 fun x2=>.rl Zq y45000015.Effects<|.ldR Zq y45000015.Effects x2 2<|.call (Zcb x2.Mods) fun x4=>.plR Zq y45000015.Effects v55 0<|.rl Zq y45000015.Effects<|.setD Zq y45000015.Effects v55 x2 (⟨x2.Op,x2.Ref,x2.Amount,x2.Counter,x2.Zone,x2.Card,x2.Filter,x2.Pool,x4⟩:Zs) 2 63 [.sl (List.map Zl x4)] rfl fun x6=>.dr [.ahead 74,.relen 46000049,.stop]<|.us [3]<|.us [3]<|.us [3]<|.us [3]<|.us [3]<|.us [3]<|.us [3]<|.g0 (.L1 (⟨y45000015.Kind,y45000015.Filter,y45000015.Mods,y45000015.Price,y45000015.Slow,y45000015.Trigger,y45000015.May,y45000015.Specs,x6,y45000015.Replace⟩:Zh) E0 E1 v18 v19 v54 (IntKind.wrap .i64 (v55+1)) v4))<|.clsR Zj E0.Abilities v4 y45000015 fun x10=>.dr [.ahead 75,.frz 46000049,.cls 45000015 (List.map Zj x10),.relen 45000015,.stop]<|.rl Zq y45000015.Effects<|.us [0]<|.rl Zj E0.Abilities<|.rl Zj E0.Abilities<|.us [1]<|.us [1]<|.go (.L0 (⟨E0.Name,E0.Cost,E0.Colors,E0.Line,E0.Power,E0.Tough,E0.Keys,x10,E0.Control⟩:Zb) E1 v18 (IntKind.wrap .i64 (v19+1))) [.relab 45000015 40015]
def Zac2(a0:Zb):LT Zlu Zb:=
.lb 1001<|.lb 1002<|.callF (Zfm a0.Line.Subs) 100000 fun x1=>.callF (Zla a0.Abilities) 150000 fun x3=>.lenO Zj x3<|.go (.L0 (⟨a0.Name,a0.Cost,a0.Colors,(⟨a0.Line.Super,a0.Line.Types,x1⟩:Zac),a0.Power,a0.Tough,a0.Keys,x3,a0.Control⟩:Zb) (⟨([]:By),(⟨0,0,(⟨0,0,0,0,0⟩:A5 Int)⟩:Zt),0,(⟨0,0,([]:Bys)⟩:Zac),0,0,0,([]:List Zh),0⟩:Zb) (x3.length:Int) 0) [.relab 1001 3000,.relab 1002 3001,.relab 105000 40011,.relab 155000 40015,.ownb 3001 11 40111 1,.ownb 3001 15 40115 72]
def Ztw:LF Zlu Zb := .m 158 [.c 2 66 true 17] true (fun r=>[(5011,wR cS 1 r.Line.Subs),(5015,wR Zj 72 r.Abilities)]) (fun r=>(.agg (tm2 r 5000))) fun | .L0 E0 E1 v18 v19=>([1,1,1,0,1,4],⟨77,[(1,.bptr 3000 0),(2,.bptr 3001 0),(18,wI v18),(19,wI v19)],[(3000,.box (tm2 E0 40000)),(40011,wR cS 1 E0.Line.Subs),(40015,wR Zj 72 E0.Abilities),(3001,.box (tm2 E1 40100)),(40111,wR cS 1 E1.Line.Subs),(40115,wR Zj 72 E1.Abilities)]⟩,Z9y E0 E1 v18 v19) | .L1 y45000015 E0 E1 v18 v19 v54 v55 v4=>([1,1,1,0,1,4,5,1,1,0,4,1,1,1,1,4],⟨77,[(1,.bptr 3000 0),(2,.bptr 3001 0),(4,.own 45000015 (.pp (List.map Zj E0.Abilities).length 0)),(18,wI v18),(19,wI v19),(54,wI v54),(55,wI v55)],[(3000,.box [wS E0.Name,wI E0.Cost.Generic,wI E0.Cost.X,wI E0.Cost.Color.a0,wI E0.Cost.Color.a1,wI E0.Cost.Color.a2,wI E0.Cost.Color.a3,wI E0.Cost.Color.a4,wI E0.Colors,wI E0.Line.Super,wI E0.Line.Types,wO cS 40011 E0.Line.Subs,wI E0.Power,wI E0.Tough,wI E0.Keys,.own 45000015 (.pw (List.map Zj E0.Abilities).length),wI E0.Control]),(40011,wR cS 1 E0.Line.Subs),(46000049,wR Zq 64 y45000015.Effects),(45000015,.prow 72 (Int.toNat v4) (List.map Zj E0.Abilities) [wI y45000015.Kind,wI y45000015.Filter.Zone,wI y45000015.Filter.Who,wI y45000015.Filter.Self,wI y45000015.Filter.Types,wI y45000015.Filter.NotTypes,wI y45000015.Filter.Colors,wI y45000015.Filter.NotColors,wS y45000015.Filter.Sub,wI y45000015.Filter.Keys,wI y45000015.Filter.Tap,wI y45000015.Filter.Power.Kind,wI y45000015.Filter.Power.N,wI y45000015.Filter.Tough.Kind,wI y45000015.Filter.Tough.N,wI y45000015.Filter.Value.Kind,wI y45000015.Filter.Value.N,wL Zl y45000015.Mods,wI y45000015.Price.Mana.Generic,wI y45000015.Price.Mana.X,wI y45000015.Price.Mana.Color.a0,wI y45000015.Price.Mana.Color.a1,wI y45000015.Price.Mana.Color.a2,wI y45000015.Price.Mana.Color.a3,wI y45000015.Price.Mana.Color.a4,wB y45000015.Price.Tap,wB y45000015.Price.Sacrifice,wI y45000015.Price.Life,wB y45000015.Slow,wI y45000015.Trigger.When,wI y45000015.Trigger.Who,wI y45000015.Trigger.Filter.Zone,wI y45000015.Trigger.Filter.Who,wI y45000015.Trigger.Filter.Self,wI y45000015.Trigger.Filter.Types,wI y45000015.Trigger.Filter.NotTypes,wI y45000015.Trigger.Filter.Colors,wI y45000015.Trigger.Filter.NotColors,wS y45000015.Trigger.Filter.Sub,wI y45000015.Trigger.Filter.Keys,wI y45000015.Trigger.Filter.Tap,wI y45000015.Trigger.Filter.Power.Kind,wI y45000015.Trigger.Filter.Power.N,wI y45000015.Trigger.Filter.Tough.Kind,wI y45000015.Trigger.Filter.Tough.N,wI y45000015.Trigger.Filter.Value.Kind,wI y45000015.Trigger.Filter.Value.N,wB y45000015.May,wL Zad y45000015.Specs,wO Zq 46000049 y45000015.Effects,wI y45000015.Replace.On,wI y45000015.Replace.Who,wI y45000015.Replace.Filter.Zone,wI y45000015.Replace.Filter.Who,wI y45000015.Replace.Filter.Self,wI y45000015.Replace.Filter.Types,wI y45000015.Replace.Filter.NotTypes,wI y45000015.Replace.Filter.Colors,wI y45000015.Replace.Filter.NotColors,wS y45000015.Replace.Filter.Sub,wI y45000015.Replace.Filter.Keys,wI y45000015.Replace.Filter.Tap,wI y45000015.Replace.Filter.Power.Kind,wI y45000015.Replace.Filter.Power.N,wI y45000015.Replace.Filter.Tough.Kind,wI y45000015.Replace.Filter.Tough.N,wI y45000015.Replace.Filter.Value.Kind,wI y45000015.Replace.Filter.Value.N,wI y45000015.Replace.Do,wI y45000015.Replace.N,wI y45000015.Replace.Zone,wI y45000015.Replace.Counter]),(3001,.box (tm2 E1 40100)),(40111,wR cS 1 E1.Line.Subs),(40115,wR Zj 72 E1.Abilities)]⟩,Z9z y45000015 E0 E1 v18 v19 v54 v55 v4)
def Zamt:=fun a0=>Ztw.run (Zac2 a0)
theorem Zao7(a0){r}(h:Zamt a0=some r):FnG PR 158 [] [wA (Zi a0)] [(5011,wR cS 1 r.Line.Subs),(5015,wR Zj 72 r.Abilities)] (.agg (tm2 r 5000)):=Ztw.fn h
def Zaxw(a0:Int)(a1:Int)(a2:Int):LT Empty Bool:=
.cs (decide (a0>=a1)) (.k4 0<|.rt (decide (a0<=a2)))<|.k4 0<|.rt false
def Zaxx:LF Empty Bool := .z0 202 [.t 6] wB
def Za7x:=fun a0 a1 a2=>Zaxx.run (Zaxw a0 a1 a2)
theorem Zki(a0)(a1)(a2){r}(h:Za7x a0 a1 a2=some r):Fn PR 202 [wI a0,wI a1,wI a2] (wB r):=Zaxx.fn h
inductive Zp0 where
 | L0 (E0:Zd) (E1:Zd) (E2:Zd) (v8:Int) (v9:Bool)
 | L1 (E0:Zd) (E1:Zd) (E2:Zd) (v8:Int) (v19:Bool)
def Zq8(E0:Zd)(E1:Zd)(E2:Zd)(v8:Int)(v19:Bool):LT Zp0 Zd:=
.br v19 (.rt (⟨E2.Kind,E2.N,E2.M,E0.Sub,E2.Filter⟩:Zd))<|.br (v8==11) (.rt (⟨E2.Kind,E2.N,E2.M,E2.Sub,E0.Filter⟩:Zd))<|.br (v8==12) (.kn [3]<|.rt (⟨E2.Kind,E0.N,E0.M,E2.Sub,E2.Filter⟩:Zd))<|.br (v8==13) (.rt (⟨E2.Kind,E0.N,E0.M,E2.Sub,E2.Filter⟩:Zd))<|.rt E2
def Zhg(E0:Zd)(E1:Zd)(E2:Zd)(v8:Int)(v9:Bool):LT Zp0 Zd:=
.br v9 (.rt (⟨E2.Kind,E0.N,E2.M,E2.Sub,E2.Filter⟩:Zd))<|.br (v8==4) (.j0 (.L1 E0 E1 E2 v8 (v8==4)) (Zq8 E0 E1 E2 v8 (v8==4)))<|.j0 (.L1 E0 E1 E2 v8 (v8==5)) (Zq8 E0 E1 E2 v8 (v8==5))
def Zamu(a0:Zd):LT Zp0 Zd:=
.lb 1001<|.lb 1002<|.lb 1003<|.br (a0.Kind==2) (.jn 0 (.L0 a0 (⟨0,0,0,([]:By),(⟨0,0,0,0,0,0,0,([]:By),0,0,(⟨0,0⟩:Za),(⟨0,0⟩:Za),(⟨0,0⟩:Za)⟩:Ze)⟩:Zd) (⟨a0.Kind,0,0,([]:By),(⟨0,0,0,0,0,0,0,([]:By),0,0,(⟨0,0⟩:Za),(⟨0,0⟩:Za),(⟨0,0⟩:Za)⟩:Ze)⟩:Zd) a0.Kind (a0.Kind==2)) (tm13 1000 3000) (Zhg a0 (⟨0,0,0,([]:By),(⟨0,0,0,0,0,0,0,([]:By),0,0,(⟨0,0⟩:Za),(⟨0,0⟩:Za),(⟨0,0⟩:Za)⟩:Ze)⟩:Zd) (⟨a0.Kind,0,0,([]:By),(⟨0,0,0,0,0,0,0,([]:By),0,0,(⟨0,0⟩:Za),(⟨0,0⟩:Za),(⟨0,0⟩:Za)⟩:Ze)⟩:Zd) a0.Kind (a0.Kind==2)))<|.br (a0.Kind==3) (.jn 0 (.L0 a0 (⟨0,0,0,([]:By),(⟨0,0,0,0,0,0,0,([]:By),0,0,(⟨0,0⟩:Za),(⟨0,0⟩:Za),(⟨0,0⟩:Za)⟩:Ze)⟩:Zd) (⟨a0.Kind,0,0,([]:By),(⟨0,0,0,0,0,0,0,([]:By),0,0,(⟨0,0⟩:Za),(⟨0,0⟩:Za),(⟨0,0⟩:Za)⟩:Ze)⟩:Zd) a0.Kind (a0.Kind==3)) (tm13 1000 3000) (Zhg a0 (⟨0,0,0,([]:By),(⟨0,0,0,0,0,0,0,([]:By),0,0,(⟨0,0⟩:Za),(⟨0,0⟩:Za),(⟨0,0⟩:Za)⟩:Ze)⟩:Zd) (⟨a0.Kind,0,0,([]:By),(⟨0,0,0,0,0,0,0,([]:By),0,0,(⟨0,0⟩:Za),(⟨0,0⟩:Za),(⟨0,0⟩:Za)⟩:Ze)⟩:Zd) a0.Kind (a0.Kind==3)))<|.br (a0.Kind==6) (.jn 0 (.L0 a0 (⟨0,0,0,([]:By),(⟨0,0,0,0,0,0,0,([]:By),0,0,(⟨0,0⟩:Za),(⟨0,0⟩:Za),(⟨0,0⟩:Za)⟩:Ze)⟩:Zd) (⟨a0.Kind,0,0,([]:By),(⟨0,0,0,0,0,0,0,([]:By),0,0,(⟨0,0⟩:Za),(⟨0,0⟩:Za),(⟨0,0⟩:Za)⟩:Ze)⟩:Zd) a0.Kind (a0.Kind==6)) (tm13 1000 3000) (Zhg a0 (⟨0,0,0,([]:By),(⟨0,0,0,0,0,0,0,([]:By),0,0,(⟨0,0⟩:Za),(⟨0,0⟩:Za),(⟨0,0⟩:Za)⟩:Ze)⟩:Zd) (⟨a0.Kind,0,0,([]:By),(⟨0,0,0,0,0,0,0,([]:By),0,0,(⟨0,0⟩:Za),(⟨0,0⟩:Za),(⟨0,0⟩:Za)⟩:Ze)⟩:Zd) a0.Kind (a0.Kind==6)))<|.br (a0.Kind==7) (.jn 0 (.L0 a0 (⟨0,0,0,([]:By),(⟨0,0,0,0,0,0,0,([]:By),0,0,(⟨0,0⟩:Za),(⟨0,0⟩:Za),(⟨0,0⟩:Za)⟩:Ze)⟩:Zd) (⟨a0.Kind,0,0,([]:By),(⟨0,0,0,0,0,0,0,([]:By),0,0,(⟨0,0⟩:Za),(⟨0,0⟩:Za),(⟨0,0⟩:Za)⟩:Ze)⟩:Zd) a0.Kind (a0.Kind==7)) (tm13 1000 3000) (Zhg a0 (⟨0,0,0,([]:By),(⟨0,0,0,0,0,0,0,([]:By),0,0,(⟨0,0⟩:Za),(⟨0,0⟩:Za),(⟨0,0⟩:Za)⟩:Ze)⟩:Zd) (⟨a0.Kind,0,0,([]:By),(⟨0,0,0,0,0,0,0,([]:By),0,0,(⟨0,0⟩:Za),(⟨0,0⟩:Za),(⟨0,0⟩:Za)⟩:Ze)⟩:Zd) a0.Kind (a0.Kind==7)))<|.br (a0.Kind==8) (.jn 0 (.L0 a0 (⟨0,0,0,([]:By),(⟨0,0,0,0,0,0,0,([]:By),0,0,(⟨0,0⟩:Za),(⟨0,0⟩:Za),(⟨0,0⟩:Za)⟩:Ze)⟩:Zd) (⟨a0.Kind,0,0,([]:By),(⟨0,0,0,0,0,0,0,([]:By),0,0,(⟨0,0⟩:Za),(⟨0,0⟩:Za),(⟨0,0⟩:Za)⟩:Ze)⟩:Zd) a0.Kind (a0.Kind==8)) (tm13 1000 3000) (Zhg a0 (⟨0,0,0,([]:By),(⟨0,0,0,0,0,0,0,([]:By),0,0,(⟨0,0⟩:Za),(⟨0,0⟩:Za),(⟨0,0⟩:Za)⟩:Ze)⟩:Zd) (⟨a0.Kind,0,0,([]:By),(⟨0,0,0,0,0,0,0,([]:By),0,0,(⟨0,0⟩:Za),(⟨0,0⟩:Za),(⟨0,0⟩:Za)⟩:Ze)⟩:Zd) a0.Kind (a0.Kind==8)))<|.jn 0 (.L0 a0 (⟨0,0,0,([]:By),(⟨0,0,0,0,0,0,0,([]:By),0,0,(⟨0,0⟩:Za),(⟨0,0⟩:Za),(⟨0,0⟩:Za)⟩:Ze)⟩:Zd) (⟨a0.Kind,0,0,([]:By),(⟨0,0,0,0,0,0,0,([]:By),0,0,(⟨0,0⟩:Za),(⟨0,0⟩:Za),(⟨0,0⟩:Za)⟩:Ze)⟩:Zd) a0.Kind (a0.Kind==9)) (tm13 1000 3000) (Zhg a0 (⟨0,0,0,([]:By),(⟨0,0,0,0,0,0,0,([]:By),0,0,(⟨0,0⟩:Za),(⟨0,0⟩:Za),(⟨0,0⟩:Za)⟩:Ze)⟩:Zd) (⟨a0.Kind,0,0,([]:By),(⟨0,0,0,0,0,0,0,([]:By),0,0,(⟨0,0⟩:Za),(⟨0,0⟩:Za),(⟨0,0⟩:Za)⟩:Ze)⟩:Zd) a0.Kind (a0.Kind==9))
def Zamv:LF Zp0 Zd := .m0 203 [.c 2 79 true 20] (fun r=>(wA (Zl r))) fun | .L0 E0 E1 E2 v8 v9=>([1,1,0,1,4,1],⟨40,[(1,.bptr 3000 0),(2,.bptr 3001 0),(3,.bptr 3002 0),(8,wI v8),(9,wB v9)],[(3000,.box (bx (Zl E0))),(3001,.box (bx (Zl E1))),(3002,.box (bx (Zl E2)))]⟩,Zhg E0 E1 E2 v8 v9) | .L1 E0 E1 E2 v8 v19=>([1,1,0,1,4,1,3,1],⟨40,[(1,.bptr 3000 0),(2,.bptr 3001 0),(3,.bptr 3002 0),(8,wI v8),(19,wB v19)],[(3000,.box (bx (Zl E0))),(3001,.box (bx (Zl E1))),(3002,.box (bx (Zl E2)))]⟩,Zq8 E0 E1 E2 v8 v19)
def Zaxy:=fun a0=>Zamv.run (Zamu a0)
theorem Za0r(a0){r}(h:Zaxy a0=some r):Fn PR 203 [wA (Zl a0)] (wA (Zl r)):=Zamv.fn h
inductive Zr5 where
 | L0 (E0:Zd) (v14:Int) (v15:Bool)
 | L1 (E0:Zd) (v14:Int) (v27:Bool)
 | L2 (E0:Zd) (v14:Int) (v43:Bool)
def Zxd(E0:Zd)(v14:Int)(v43:Bool):LT Zr5 Bool:=
.br v43 (.call (Zki E0.N 1 131071) fun x2=>.rt x2)<|.br (v14==11) (.call (Zacx E0.Filter) fun x5=>.rt x5)<|.br (v14==12) (.call (Zki E0.N 0 99) fun x8=>.cs x8 (.k3 3<|.call (Zki E0.M 0 99) fun x11=>.kg 3<|.rt x11)<|.k4 3<|.rt false)<|.br (v14==13) (.call (Zki E0.N (-99) 99) fun x14=>.cs x14 (.k3 4<|.call (Zki E0.M (-99) 99) fun x17=>.kg 4<|.rt x17)<|.k4 4<|.rt false)<|.rt true
def Zxe(E0:Zd)(v14:Int)(v27:Bool):LT Zr5 Bool:=
.br v27 (.call (Zx7 E0.Sub) fun x2=>.rt x2)<|.br (v14==6) (.call (Zki E0.N 0 31) fun x5=>.rt x5)<|.br (v14==7) (.call (Zki E0.N 1 31) fun x8=>.rt x8)<|.br (v14==8) (.j0 (.L2 E0 v14 (v14==8)) (Zxd E0 v14 (v14==8)))<|.j0 (.L2 E0 v14 (v14==9)) (Zxd E0 v14 (v14==9))
def Zxf(E0:Zd)(v14:Int)(v15:Bool):LT Zr5 Bool:=
.br v15 (.call (Zki E0.N 1 63) fun x2=>.cs x2 (.k5 1<|.rt ((Zay .and .i64 E0.N 6)==0))<|.k5 1<|.rt false)<|.br (v14==4) (.j0 (.L1 E0 v14 (v14==4)) (Zxe E0 v14 (v14==4)))<|.j0 (.L1 E0 v14 (v14==5)) (Zxe E0 v14 (v14==5))
def Zaxz(a0:Zd):LT Zr5 Bool:=
.lb 1001<|.call (Zki a0.Kind 1 14) fun x1=>.cs (!x1) (.k5 0<|.kn [0]<|.rt false)<|.k3 0<|.call (Za0r a0) fun x4=>.k2 0<|.br (!(Zy (Zl a0) (Zl x4))) (.rt false)<|.br (a0.Kind==2) (.jn 0 (.L0 a0 a0.Kind (a0.Kind==2)) [.relab 1001 3000] (Zxf a0 a0.Kind (a0.Kind==2)))<|.jn 0 (.L0 a0 a0.Kind (a0.Kind==3)) [.relab 1001 3000] (Zxf a0 a0.Kind (a0.Kind==3))
def Zax0:LF Zr5 Bool := .m0 159 [.t 2] wB fun | .L0 E0 v14 v15=>([1,1,0,1,4,1],⟨74,[(1,.bptr 3000 0),(14,wI v14),(15,wB v15)],[(3000,.box (bx (Zl E0)))]⟩,Zxf E0 v14 v15) | .L1 E0 v14 v27=>([1,1,0,1,4,1,3,1],⟨74,[(1,.bptr 3000 0),(14,wI v14),(27,wB v27)],[(3000,.box (bx (Zl E0)))]⟩,Zxe E0 v14 v27) | .L2 E0 v14 v43=>([1,1,0,1,4,1,3,1,3,1,3,1,3,1],⟨74,[(1,.bptr 3000 0),(14,wI v14),(43,wB v43)],[(3000,.box (bx (Zl E0)))]⟩,Zxd E0 v14 v43)
def Za7y:=fun a0=>Zax0.run (Zaxz a0)
theorem Za7z(a0){r}(h:Za7y a0=some r):Fn PR 159 [wA (Zl a0)] (wB r):=Zax0.fn h
def Zus(a0:By)(a1:By):LT Empty Bool:=
.rt (!(Op.bytesLess a0 a1))
def Zut:LF Empty Bool := .z0 206 [.t 3] wB
def Zzc:=fun a0 a1=>Zut.run (Zus a0 a1)
theorem Z8d(a0)(a1){r}(h:Zzc a0 a1=some r):Fn PR 206 [wS a0,.vptr (cS a1)] (wB r):=Zut.fn h
inductive Za2 where
 | L0 (v0:Bys) (w1_0:By) (v7:Int) (v8:Int)
def Zd2(v0:Bys)(w1_0:By)(v7:Int)(v8:Int):LT Za2 Int:=
.br (decide (v8 < v7)) (.idx cS v0 v8 fun x2=>.call (Z8d x2 w1_0) fun x4=>.br x4 (.rt v8)<|.g0 (.L0 v0 w1_0 v7 (IntKind.wrap .i64 (v8+1))))<|.rt (-1)
def Zea(a0:Bys)(a1:By):LT Za2 Int:=
.len cS a0<|.g0 (.L0 a0 a1 (a0.length:Int) 0)
def Zcd:LF Za2 Int := .m0 205 [.t 4] wI fun | .L0 v0 w1_0 v7 v8=>([1,0,1,4],⟨19,[(0,wL cS v0),(1,.fn 206 [.vptr (cS w1_0)]),(7,wI v7),(8,wI v8)],[]⟩,Zd2 v0 w1_0 v7 v8)
def Zei:=fun a0 a1=>Zcd.run (Zea a0 a1)
theorem Zib(a0)(a1){r}(h:Zei a0 a1=some r):Fn PR 205 [wL cS a0,.fn 206 [.vptr (cS a1)]] (wI r):=Zcd.fn h
def Zgi(b0:Bys)(a1:Int)(b1:Bys):Option (Bys):=ins? 16 b0 a1 b1
theorem Zfo(b0)(a1)(b1){r}(h:Zgi b0 a1 b1=some r):FnG PR 207 [(0,wR cS 1 b0),(1,wR cS 1 b1)] [wO cS 0 b0,wI a1,wO cS 1 b1] [(5000,wR cS 1 r)] (wO cS 5000 r):=Zbaz.okO (fun x=>⟨_,rfl⟩) b0 a1 b1 h
def Z90(a0:Zac)(a1:By):LT Empty Zac:=
.lb 1002<|.lb 1003<|.lb 1004<|.callF (Zfm a0.Subs) 90000 fun x1=>.call (Zx7 a1) fun x3=>.cs (!x3) (.k4 0<|.b5 true<|.kn [0]<|.ret (⟨a0.Super,a0.Types,x1⟩:Zac) [.relab 95000 5002])<|.k3 0<|.rl cS x1<|.call (Z6u (⟨a0.Super,a0.Types,x1⟩:Zac) a1) fun x6=>.kg 0<|.cs x6 (.k5 1<|.kn [0]<|.ret (⟨a0.Super,a0.Types,x1⟩:Zac) [.relab 95000 5002])<|.k3 1<|.lenO cS x1<|.k2 1<|.br (decide ((x1.length:Int)>=4)) (.ret (⟨a0.Super,a0.Types,x1⟩:Zac) [.relab 95000 5002])<|.rl cS x1<|.call (Zib x1 a1) fun x10=>.br (decide (x10 < 0)) (.lenO cS x1<|.lb 1038<|.callU (Zfo x1 (x1.length:Int) [a1]) [95000,1038] 400000 fun x13=>.ret (⟨a0.Super,a0.Types,x13⟩:Zac) [.relab 405000 5002])<|.lb 1038<|.callU (Zfo x1 x10 [a1]) [95000,1038] 400000 fun x15=>.ret (⟨a0.Super,a0.Types,x15⟩:Zac) [.relab 405000 5002]
def Z91:LF Empty Zac := .z 160 [.c 4 63 true 3] true (fun r=>[(5002,wR cS 1 r.Subs)]) (fun r=>(.agg [wI r.Super,wI r.Types,wO cS 5002 r.Subs]))
def Zahd:=fun a0 a1=>Z91.run (Z90 a0 a1)
theorem Zamw(a0)(a1){r}(h:Zahd a0 a1=some r):FnG PR 160 [] [wA (Zhd a0),wS a1] [(5002,wR cS 1 r.Subs)] (.agg [wI r.Super,wI r.Types,wO cS 5002 r.Subs]):=Z91.fn h
def Zahe(a0:Zb)(a1:Zd)(a2:Int)(a3:Int):LT Empty Zb:=
.lb 1004<|.lb 1005<|.lb 1008<|.callF (Zao7 a0) 110000 fun x1=>.call (Za7z a1) fun x3=>.br (!x3) (.ret x1 [.relab 115011 5011,.relab 115015 5015])<|.br (a1.Kind==1) (.ret (⟨x1.Name,x1.Cost,x1.Colors,x1.Line,x1.Power,x1.Tough,x1.Keys,x1.Abilities,a2⟩:Zb) [.relab 115011 5011,.relab 115015 5015])<|.br (a1.Kind==2) (.ret (⟨x1.Name,x1.Cost,x1.Colors,(⟨x1.Line.Super,a1.N,x1.Line.Subs⟩:Zac),x1.Power,x1.Tough,x1.Keys,x1.Abilities,x1.Control⟩:Zb) [.relab 115011 5011,.relab 115015 5015])<|.br (a1.Kind==3) (.ret (⟨x1.Name,x1.Cost,x1.Colors,(⟨x1.Line.Super,Zay .or .i64 x1.Line.Types a1.N,x1.Line.Subs⟩:Zac),x1.Power,x1.Tough,x1.Keys,x1.Abilities,x1.Control⟩:Zb) [.relab 115011 5011,.relab 115015 5015])<|.br (a1.Kind==4) (.lb 1041<|.ret (⟨x1.Name,x1.Cost,x1.Colors,(⟨x1.Line.Super,x1.Line.Types,[a1.Sub]⟩:Zac),x1.Power,x1.Tough,x1.Keys,x1.Abilities,x1.Control⟩:Zb) [.relab 1041 5011,.relab 115015 5015])<|.br (a1.Kind==5) (.rl cS x1.Line.Subs<|.callS (Zamw x1.Line a1.Sub) 510000 (fun _=>⟨rfl,Zrv cS (fun _=>rfl) _,trivial⟩) fun x11=>.ret (⟨x1.Name,x1.Cost,x1.Colors,x11,x1.Power,x1.Tough,x1.Keys,x1.Abilities,x1.Control⟩:Zb) [.relab 515002 5011,.relab 115015 5015])<|.br (a1.Kind==6) (.ret (⟨x1.Name,x1.Cost,a1.N,x1.Line,x1.Power,x1.Tough,x1.Keys,x1.Abilities,x1.Control⟩:Zb) [.relab 115011 5011,.relab 115015 5015])<|.br (a1.Kind==7) (.ret (⟨x1.Name,x1.Cost,Zay .or .i64 x1.Colors a1.N,x1.Line,x1.Power,x1.Tough,x1.Keys,x1.Abilities,x1.Control⟩:Zb) [.relab 115011 5011,.relab 115015 5015])<|.br (a1.Kind==8) (.ret (⟨x1.Name,x1.Cost,x1.Colors,x1.Line,x1.Power,x1.Tough,Zay .or .i64 x1.Keys a1.N,x1.Abilities,x1.Control⟩:Zb) [.relab 115011 5011,.relab 115015 5015])<|.br (a1.Kind==9) (.ret (⟨x1.Name,x1.Cost,x1.Colors,x1.Line,x1.Power,x1.Tough,Zay .andNot .i64 x1.Keys a1.N,x1.Abilities,x1.Control⟩:Zb) [.relab 115011 5011,.relab 115015 5015])<|.br (a1.Kind==10) (.ret (⟨x1.Name,x1.Cost,x1.Colors,x1.Line,x1.Power,x1.Tough,0,([]:List Zh),x1.Control⟩:Zb) [.relab 115011 5011,.ownb 1008 15 5015 72])<|.br (a1.Kind==11) (.call (Zek a3) fun x19=>.call (Zek a3) fun x21=>.ret (⟨x1.Name,x1.Cost,x1.Colors,x1.Line,x19,x21,x1.Keys,x1.Abilities,x1.Control⟩:Zb) [.relab 115011 5011,.relab 115015 5015])<|.br (a1.Kind==12) (.ret (⟨x1.Name,x1.Cost,x1.Colors,x1.Line,a1.N,a1.M,x1.Keys,x1.Abilities,x1.Control⟩:Zb) [.relab 115011 5011,.relab 115015 5015])<|.br (a1.Kind==13) (.call (Ztn x1.Power a1.N) fun x25=>.call (Ztn x1.Tough a1.M) fun x27=>.ret (⟨x1.Name,x1.Cost,x1.Colors,x1.Line,x25,x27,x1.Keys,x1.Abilities,x1.Control⟩:Zb) [.relab 115011 5011,.relab 115015 5015])<|.br (a1.Kind==14) (.ret (⟨x1.Name,x1.Cost,x1.Colors,x1.Line,x1.Tough,x1.Power,x1.Keys,x1.Abilities,x1.Control⟩:Zb) [.relab 115011 5011,.relab 115015 5015])<|.ret x1 [.relab 115011 5011,.relab 115015 5015]
def Zahf:LF Empty Zb := .z 106 [.c 8 66 true 17] true (fun r=>[(5011,wR cS 1 r.Line.Subs),(5015,wR Zj 72 r.Abilities)]) (fun r=>(.agg (tm2 r 5000)))
def Zac3:=fun a0 a1 a2 a3=>Zahf.run (Zahe a0 a1 a2 a3)
theorem Zasx(a0)(a1)(a2)(a3){r}(h:Zac3 a0 a1 a2 a3=some r):FnG PR 106 [] [wA (Zi a0),wA (Zl a1),wI a2,wI a3] [(5011,wR cS 1 r.Line.Subs),(5015,wR Zj 72 r.Abilities)] (.agg (tm2 r 5000)):=Zahf.fn h
theorem Zax1(a0:Zb)(a1:Zd)(a2:Int)(a3:Int){r:Zb}(h:Zac3 a0 a1 a2 a3=some r):Fn PR 106 [wA (Zi a0),wA (Zl a1),wI a2,wI a3] (wA (Zi r)):=
 FnG.frozen (C:=LT.RL cS r.Line.Subs/\LT.RL Zj r.Abilities/\True) (Zasx a0 a1 a2 a3 h) ⟨rfl,rfl,trivial⟩ (by kernel_rfl)
inductive Zih where
 | L0 (v3:List Int) (v6:List Int) (v7:Int) (v8:Int)
def Zxg(v3:List Int)(v6:List Int)(v7:Int)(v8:Int):LT Zih (List Int):=
.br (decide (v8 < v7)) (.idx (cI .i64) v6 v8 fun x2=>.cs (decide (x2>=0)) (.k3 1<|.rl (cI .i64) v3<|.call (Zk0 v3 x2) fun x5=>.k2 1<|.br (!x5) (.dr [.lit]<|.apR (cI .i64) 8 v3 [x2] fun x8=>.g0 (.L0 x8 v6 v7 (IntKind.wrap .i64 (v8+1))))<|.g0 (.L0 v3 v6 v7 (IntKind.wrap .i64 (v8+1))))<|.k5 1<|.kn [0]<|.g0 (.L0 v3 v6 v7 (IntKind.wrap .i64 (v8+1))))<|.ret v3 [.relab 20003 5000]
def Zzd(a0:List Int):LT Zih (List Int):=
.len (cI .i64) a0<|.go (.L0 ([]:List Int) a0 (a0.length:Int) 0) [.own 3 20003 1]
def Zqj:LF Zih (List Int) := .m 145 [.t 2] true (fun r=>[(5000,wR (cI .i64) 1 r)]) (fun r=>(wO (cI .i64) 5000 r)) fun | .L0 v3 v6 v7 v8=>([1,1,0,1,4],⟨26,[(3,wO (cI .i64) 20003 v3),(6,wL (cI .i64) v6),(7,wI v7),(8,wI v8)],[(20003,wR (cI .i64) 1 v3)]⟩,Zxg v3 v6 v7 v8)
def Ztx:=fun a0=>Zqj.run (Zzd a0)
theorem Zaax(a0){r}(h:Ztx a0=some r):FnG PR 145 [] [wL (cI .i64) a0] [(5000,wR (cI .i64) 1 r)] (wO (cI .i64) 5000 r):=Zqj.fn h
theorem Zac4(a0:List Int){r:List Int}(h:Ztx a0=some r):Fn PR 145 [wL (cI .i64) a0] (wL (cI .i64) r):=
 FnG.frozen (C:=LT.RL (cI .i64) r/\True) (Zaax a0 h) ⟨rfl,trivial⟩ (by kernel_rfl)
def Z3s(a0:List (List Bool))(a1:Int)(a2:Int):LT Empty Bool:=
.cs (decide (a1>=0)) (.k3 0<|.cs (decide (a2>=0)) (.k3 1<|.len (cL cB) a0<|.k2 1<|.cs (decide (a1 < (a0.length:Int))) (.k4 2<|.idx (cL cB) a0 a1 fun x5=>.k2 2<|.len cB x5<|.k2 2<|.cs (decide (a2 < (x5.length:Int))) (.k3 3<|.ag (cL cB) x5 0<|.k3 3<|.idx cB x5 a2 fun x9=>.k2 3<|.rt x9)<|.k8 3<|.rt false)<|.k8 2<|.b8 false<|.rt false)<|.k5 1<|.b16 false<|.rt false)<|.k3 0<|.b16 false<|.b5 false<|.rt false
def Z3t:LF Empty Bool := .z0 149 [.t 6] wB
def Z92:=fun a0 a1 a2=>Z3t.run (Z3s a0 a1 a2)
theorem Z1a(a0)(a1)(a2){r}(h:Z92 a0 a1 a2=some r):Fn PR 149 [wL (cL cB) a0,wI a1,wI a2] (wB r):=Z3t.fn h
inductive Zev where
 | L0 (v1:List (List Bool)) (E0:List Int) (v5:Int) (E1:List (List Bool)) (v17:Int) (v18:Int)
 | L1 (v1:List (List Bool)) (E0:List Int) (v5:Int) (E1:List (List Bool)) (v7:Int) (v17:Int) (v18:Int) (v26:Int) (v27:Int)
 | L2 (E0:List Int) (v5:Int) (E1:List (List Bool)) (v48:Int) (v49:Int)
 | L3 (E0:List Int) (v5:Int) (E1:List (List Bool)) (v9:Int) (v48:Int) (v49:Int) (v52:Int) (v53:Int)
 | L4 (E0:List Int) (v5:Int) (E1:List (List Bool)) (v9:Int) (v10:Int) (v48:Int) (v49:Int) (v52:Int) (v53:Int) (v56:Int) (v57:Int)
def Z3u(v1:List (List Bool))(E0:List Int)(v5:Int)(E1:List (List Bool))(v17:Int)(v18:Int):LT Zev ((List Int)×(List (List Bool))):=
.br (decide (v18 < v17)) (.mk cB 1024 1 false v5 v5 fun x2=>.idM cB E1 v18 fun x4=>.stR cB E1 v18 x2 0 fun x6=>.dr [.ahead 26,.relen 40100,.stop]<|.us [2]<|.us [2]<|.g0 (.L1 v1 E0 v5 x6 v18 v17 v18 v5 0))<|.g0 (.L2 E0 v5 E1 v5 0)
def Z3v(v1:List (List Bool))(E0:List Int)(v5:Int)(E1:List (List Bool))(v7:Int)(v17:Int)(v18:Int)(v26:Int)(v27:Int):LT Zev ((List Int)×(List (List Bool))):=
.br (decide (v27 < v26)) (.idM cB E1 v7 fun x2=>.ldM cB E1 0<|.idx (cI .i64) E0 v7 fun x4=>.idx (cI .i64) E0 v27 fun x6=>.call (Z1a v1 x4 x6) fun x8=>.idN cB E1 x2 v27 0 fun x10=>.stM cB E1 v7 x2 v27 x8 0 8 fun x12=>.dr [.ahead 46,.relen 40100,.stop]<|.us [10]<|.us [10]<|.g0 (.L1 v1 E0 v5 x12 v7 v17 v18 v26 (IntKind.wrap .i64 (v27+1))))<|.g0 (.L0 v1 E0 v5 E1 v17 (IntKind.wrap .i64 (v18+1)))
def Z3w(E0:List Int)(v5:Int)(E1:List (List Bool))(v48:Int)(v49:Int):LT Zev ((List Int)×(List (List Bool))):=
.br (decide (v49 < v48)) (.g0 (.L3 E0 v5 E1 v49 v48 v49 v5 0))<|.rl (cL cB) E1<|.ret (E0,E1) [.frz 3000,.frz 40100,.frz 3001]
def Z3x(E0:List Int)(v5:Int)(E1:List (List Bool))(v9:Int)(v48:Int)(v49:Int)(v52:Int)(v53:Int):LT Zev ((List Int)×(List (List Bool))):=
.br (decide (v53 < v52)) (.g0 (.L4 E0 v5 E1 v9 v53 v48 v49 v52 v53 v5 0))<|.g0 (.L2 E0 v5 E1 v48 (IntKind.wrap .i64 (v49+1)))
def Z3y(E0:List Int)(v5:Int)(E1:List (List Bool))(v9:Int)(v10:Int)(v48:Int)(v49:Int)(v52:Int)(v53:Int)(v56:Int)(v57:Int):LT Zev ((List Int)×(List (List Bool))):=
.br (decide (v57 < v56)) (.idM cB E1 v10 fun x2=>.ldM cB E1 0<|.idN cB E1 x2 v9 0 fun x4=>.ldN cB E1 x2 x4 1 3<|.cs x4 (.k3 1<|.idM cB E1 v9 fun x7=>.kg 1<|.ldM cB E1 4<|.k2 1<|.idN cB E1 x7 v57 4 fun x9=>.kg 1<|.ldN cB E1 x7 x9 5 7<|.kg 1<|.br x9 (.idM cB E1 v10 fun x12=>.ldM cB E1 8<|.idN cB E1 x12 v57 8 fun x14=>.stM cB E1 v10 x12 v57 true 8 10 fun x16=>.dr [.ahead 82,.relen 40100,.stop]<|.us [12]<|.us [12]<|.us [12]<|.us [12]<|.g0 (.L4 E0 v5 x16 v9 v10 v48 v49 v52 v53 v56 (IntKind.wrap .i64 (v57+1))))<|.g0 (.L4 E0 v5 E1 v9 v10 v48 v49 v52 v53 v56 (IntKind.wrap .i64 (v57+1))))<|.k8 1<|.kn [0]<|.g0 (.L4 E0 v5 E1 v9 v10 v48 v49 v52 v53 v56 (IntKind.wrap .i64 (v57+1))))<|.g0 (.L3 E0 v5 E1 v9 v48 v49 v52 (IntKind.wrap .i64 (v53+1)))
def Z6x(a0:List Int)(a1:List (List Bool)):LT Zev ((List Int)×(List (List Bool))):=
.lb 1002<|.len (cI .i64) a0<|.mkE cB 1015 24 (a0.length:Int) (a0.length:Int) fun x2=>.dr [.ahead 6,.tomat 1015,.stop]<|.us [0]<|.lb 1006<|.lenO (cL cB) x2<|.go (.L0 a1 a0 (a0.length:Int) x2 (x2.length:Int) 0) [.relab 1002 3000,.relab 1006 3001,.relab 1015 40100]
def Zg1:LF Zev ((List Int)×(List (List Bool))) := .m0 146 [.t 4] (fun r=>(.fn 192 [.vptr ((cL (cI .i64)) r.1),.vptr ((cL (cL cB)) r.2)])) fun | .L0 v1 E0 v5 E1 v17 v18=>([1,1,1,0,1,4],⟨86,[(1,wL (cL cB) v1),(2,.bptr 3000 0),(5,wI v5),(6,.bptr 3001 0),(17,wI v17),(18,wI v18)],[(3000,.box (bx ((cL (cI .i64)) E0))),(3001,.box [wM (cL cB) 40100 E1]),(40100,wT (cL cB) E1)]⟩,Z3u v1 E0 v5 E1 v17 v18) | .L1 v1 E0 v5 E1 v7 v17 v18 v26 v27=>([1,1,1,0,1,4,5,1,1,0,4,1,1,1,4],⟨86,[(1,wL (cL cB) v1),(2,.bptr 3000 0),(5,wI v5),(6,.bptr 3001 0),(7,wI v7),(17,wI v17),(18,wI v18),(26,wI v26),(27,wI v27)],[(3000,.box (bx ((cL (cI .i64)) E0))),(3001,.box [wM (cL cB) 40100 E1]),(40100,wT (cL cB) E1)]⟩,Z3v v1 E0 v5 E1 v7 v17 v18 v26 v27) | .L2 E0 v5 E1 v48 v49=>([1,1,1,1,0,1,4],⟨86,[(2,.bptr 3000 0),(5,wI v5),(6,.bptr 3001 0),(48,wI v48),(49,wI v49)],[(3000,.box (bx ((cL (cI .i64)) E0))),(3001,.box [wM (cL cB) 40100 E1]),(40100,wT (cL cB) E1)]⟩,Z3w E0 v5 E1 v48 v49) | .L3 E0 v5 E1 v9 v48 v49 v52 v53=>([1,1,1,1,0,1,4,5,1,1,0,4,1,1,4],⟨86,[(2,.bptr 3000 0),(5,wI v5),(6,.bptr 3001 0),(9,wI v9),(48,wI v48),(49,wI v49),(52,wI v52),(53,wI v53)],[(3000,.box (bx ((cL (cI .i64)) E0))),(3001,.box [wM (cL cB) 40100 E1]),(40100,wT (cL cB) E1)]⟩,Z3x E0 v5 E1 v9 v48 v49 v52 v53) | .L4 E0 v5 E1 v9 v10 v48 v49 v52 v53 v56 v57=>([1,1,1,1,0,1,4,5,1,1,0,4,1,1,4,5,1,1,0,4,1,1,4],⟨86,[(2,.bptr 3000 0),(5,wI v5),(6,.bptr 3001 0),(9,wI v9),(10,wI v10),(48,wI v48),(49,wI v49),(52,wI v52),(53,wI v53),(56,wI v56),(57,wI v57)],[(3000,.box (bx ((cL (cI .i64)) E0))),(3001,.box [wM (cL cB) 40100 E1]),(40100,wT (cL cB) E1)]⟩,Z3y E0 v5 E1 v9 v10 v48 v49 v52 v53 v56 v57)
def Zac5:=fun a0 a1=>Zg1.run (Z6x a0 a1)
theorem Zamx(a0)(a1){r}(h:Zac5 a0 a1=some r):Fn PR 146 [wL (cI .i64) a0,wL (cL cB) a1] (.fn 192 [.vptr ((cL (cI .i64)) r.1),.vptr ((cL (cL cB)) r.2)]):=Zg1.fn h
def Zo9(a0:Int)(a1:Int)(a2:List Int)(a3:List (List Bool)):LT Empty Bool:=
.call (Zh8 a2 a0) fun x1=>.call (Zh8 a2 a1) fun x3=>.cs (decide (x1>=0)) (.k3 0<|.cs (decide (x3>=0)) (.k3 1<|.idx (cL cB) a3 x1 fun x7=>.k3 1<|.idx cB x7 x3 fun x9=>.k2 1<|.rt x9)<|.k8 1<|.rt false)<|.k3 0<|.b8 false<|.rt false
def Zpa:LF Empty Bool := .z0 192 [.t 6] wB
def Zq9:=fun a0 a1 a2 a3=>Zpa.run (Zo9 a0 a1 a2 a3)
theorem Zzq(a0)(a1)(a2)(a3){r}(h:Zq9 a0 a1 a2 a3=some r):Fn PR 192 [wI a0,wI a1,.vptr ((cL (cI .i64)) a2),.vptr ((cL (cL cB)) a3)] (wB r):=Zpa.fn h
def Zjo(a0:Int)(b0:Int)(b1:List (List Bool))(b2:(List Int)×(List (List Bool))):LT Empty Bool:=
.cs (a0 != b0) (.k4 0<|.call (Z1a b1 b0 a0) fun x2=>.kg 0<|.cs x2 (.k4 1<|.call (Zzq a0 b0 b2.1 b2.2) fun x5=>.k2 1<|.rt (!x5))<|.k5 1<|.kg 1<|.rt false)<|.k5 0<|.b5 false<|.kb false<|.rt false
def Zjp(b0:Int)(b1:List (List Bool))(b2:(List Int)×(List (List Bool))):LF Empty Bool := .z 148 [.t 5] true (fun r=>[(0,.box (bx ((cI .i64) b0))),(1,.box (bx ((cL (cL cB)) b1))),(2,.box [.fn 192 [.vptr ((cL (cI .i64)) b2.1),.vptr ((cL (cL cB)) b2.2)]])]) (fun r=>(wB r))
def Zk3(a0:Int)(b0:Int)(b1:List (List Bool))(b2:(List Int)×(List (List Bool))):Option Bool:=(Zjp b0 b1 b2).run (Zjo a0 b0 b1 b2)
theorem Zra(a0:Int)(b0:Int)(b1:List (List Bool))(b2:(List Int)×(List (List Bool))){r:Bool}(h:Zk3 a0 b0 b1 b2=some r):FnG PR 148 [(0,.box (bx ((cI .i64) b0))),(1,.box (bx ((cL (cL cB)) b1))),(2,.box [.fn 192 [.vptr ((cL (cI .i64)) b2.1),.vptr ((cL (cL cB)) b2.2)]])] [wI a0,.bptr 0 0,.bptr 1 0,.bptr 2 0] [(0,.box (bx ((cI .i64) b0))),(1,.box (bx ((cL (cL cB)) b1))),(2,.box [.fn 192 [.vptr ((cL (cI .i64)) b2.1),.vptr ((cL (cL cB)) b2.2)]])] (wB r):=(Zjp b0 b1 b2).fn h
inductive Zbf where
 | L0 (v0:List Int) (c0:Int) (c1:List (List Bool)) (c2:(List Int)×(List (List Bool))) (v7:Int) (v8:Int)
def Ze0(v0:List Int)(c0:Int)(c1:List (List Bool))(c2:(List Int)×(List (List Bool)))(v7:Int)(v8:Int):LT Zbf (Int×Int×(List (List Bool))×((List Int)×(List (List Bool)))):=
.br (decide (v8 < v7)) (.idx (cI .i64) v0 v8 fun x2=>.callO (Zra x2 c0 c1 c2) [0,1,2] 170000 (fun x=>[]) fun x4=>.br x4 (.rt (v8,c0,c1,c2))<|.g0 (.L0 v0 c0 c1 c2 v7 (IntKind.wrap .i64 (v8+1))))<|.rt ((-1),c0,c1,c2)
def Zfb(a0:List Int)(b0:Int)(b1:List (List Bool))(b2:(List Int)×(List (List Bool))):LT Zbf (Int×Int×(List (List Bool))×((List Int)×(List (List Bool)))):=
.len (cI .i64) a0<|.g0 (.L0 a0 b0 b1 b2 (a0.length:Int) 0)
def Zc5:LF Zbf (Int×Int×(List (List Bool))×((List Int)×(List (List Bool)))) := .m 107 [.t 4] true (fun r=>[(0,.box (bx ((cI .i64) r.2.1))),(1,.box (bx ((cL (cL cB)) r.2.2.1))),(2,.box [.fn 192 [.vptr ((cL (cI .i64)) r.2.2.2.1),.vptr ((cL (cL cB)) r.2.2.2.2)]])]) (fun r=>(wI r.1)) fun | .L0 v0 c0 c1 c2 v7 v8=>([1,0,1,4],⟨19,[(0,wL (cI .i64) v0),(1,.fn 148 [.bptr 0 0,.bptr 1 0,.bptr 2 0]),(7,wI v7),(8,wI v8)],[(0,.box (bx ((cI .i64) c0))),(1,.box (bx ((cL (cL cB)) c1))),(2,.box [.fn 192 [.vptr ((cL (cI .i64)) c2.1),.vptr ((cL (cL cB)) c2.2)]])]⟩,Ze0 v0 c0 c1 c2 v7 v8)
def Zfv:=fun a0 b0 b1 b2=>Zc5.run (Zfb a0 b0 b1 b2)
theorem Zjk(a0)(b0)(b1)(b2){r}(h:Zfv a0 b0 b1 b2=some r):FnG PR 107 [(0,.box (bx ((cI .i64) b0))),(1,.box (bx ((cL (cL cB)) b1))),(2,.box [.fn 192 [.vptr ((cL (cI .i64)) b2.1),.vptr ((cL (cL cB)) b2.2)]])] [wL (cI .i64) a0,.fn 148 [.bptr 0 0,.bptr 1 0,.bptr 2 0]] [(0,.box (bx ((cI .i64) r.2.1))),(1,.box (bx ((cL (cL cB)) r.2.2.1))),(2,.box [.fn 192 [.vptr ((cL (cI .i64)) r.2.2.2.1),.vptr ((cL (cL cB)) r.2.2.2.2)]])] (wI r.1):=Zc5.fn h
def Zel(a0:List Int)(b0:Int)(b1:List (List Bool))(b2:(List Int)×(List (List Bool))):LT Empty (Bool×Int×(List (List Bool))×((List Int)×(List (List Bool)))):=
.callU (Zjk a0 b0 b1 b2) [0,1,2] 80000 fun x1=>.rt (decide (x1.1>=0),x1.2.1,x1.2.2.1,x1.2.2.2)
def Zem:LF Empty (Bool×Int×(List (List Bool))×((List Int)×(List (List Bool)))) := .z 147 [.t 4] true (fun r=>[(0,.box (bx ((cI .i64) r.2.1))),(1,.box (bx ((cL (cL cB)) r.2.2.1))),(2,.box [.fn 192 [.vptr ((cL (cI .i64)) r.2.2.2.1),.vptr ((cL (cL cB)) r.2.2.2.2)]])]) (fun r=>(wB r.1))
def Ze1:=fun a0 b0 b1 b2=>Zem.run (Zel a0 b0 b1 b2)
theorem Zit(a0)(b0)(b1)(b2){r}(h:Ze1 a0 b0 b1 b2=some r):FnG PR 147 [(0,.box (bx ((cI .i64) b0))),(1,.box (bx ((cL (cL cB)) b1))),(2,.box [.fn 192 [.vptr ((cL (cI .i64)) b2.1),.vptr ((cL (cL cB)) b2.2)]])] [wL (cI .i64) a0,.fn 148 [.bptr 0 0,.bptr 1 0,.bptr 2 0]] [(0,.box (bx ((cI .i64) r.2.1))),(1,.box (bx ((cL (cL cB)) r.2.2.1))),(2,.box [.fn 192 [.vptr ((cL (cI .i64)) r.2.2.2.1),.vptr ((cL (cL cB)) r.2.2.2.2)]])] (wB r.1):=Zem.fn h
inductive Zlv where
 | L0 (E0:List (List Bool)) (v5:List Int) (E1:(List Int)×(List (List Bool))) (v7:List Int) (v16:List Int) (v17:Int) (v18:Int)
def Z3z(E0:List (List Bool))(v5:List Int)(E1:(List Int)×(List (List Bool)))(v7:List Int)(v16:List Int)(v17:Int)(v18:Int):LT Zlv (List Int):=
.br (decide (v18 < v17)) (.idx (cI .i64) v16 v18 fun x2=>.lb 1009<|.callU (Zit v5 x2 E0 E1) [1009,3000,3001] 250000 fun x4=>.br (!x4.1) (.dr [.lit]<|.apR (cI .i64) 8 v7 [x4.2.1] fun x7=>.g0 (.L0 x4.2.2.1 v5 x4.2.2.2 x7 v16 v17 (IntKind.wrap .i64 (v18+1))))<|.g0 (.L0 x4.2.2.1 v5 x4.2.2.2 v7 v16 v17 (IntKind.wrap .i64 (v18+1))))<|.ret v7 [.relab 20007 5000]
def Z6y(a0:List Int)(a1:List (List Bool)):LT Zlv (List Int):=
.lb 1003<|.call (Zac4 a0) fun x1=>.call (Zamx x1 a1) fun x3=>.lb 1006<|.len (cI .i64) x1<|.go (.L0 a1 x1 x3 ([]:List Int) x1 (x1.length:Int) 0) [.relab 1003 3000,.relab 1006 3001,.own 7 20007 1]
def Zvg:LF Zlv (List Int) := .m 96 [.t 4] true (fun r=>[(5000,wR (cI .i64) 1 r)]) (fun r=>(wO (cI .i64) 5000 r)) fun | .L0 E0 v5 E1 v7 v16 v17 v18=>([1,1,1,1,0,1,4],⟨33,[(3,.bptr 3000 0),(5,wL (cI .i64) v5),(6,.bptr 3001 0),(7,wO (cI .i64) 20007 v7),(16,wL (cI .i64) v16),(17,wI v17),(18,wI v18)],[(3000,.box (bx ((cL (cL cB)) E0))),(3001,.box [.fn 192 [.vptr ((cL (cI .i64)) E1.1),.vptr ((cL (cL cB)) E1.2)]]),(20007,wR (cI .i64) 1 v7)]⟩,Z3z E0 v5 E1 v7 v16 v17 v18)
def Z1b:=fun a0 a1=>Zvg.run (Z6y a0 a1)
theorem Zai2(a0)(a1){r}(h:Z1b a0 a1=some r):FnG PR 96 [] [wL (cI .i64) a0,wL (cL cB) a1] [(5000,wR (cI .i64) 1 r)] (wO (cI .i64) 5000 r):=Zvg.fn h
theorem Zamy(a0:List Int)(a1:List (List Bool)){r:List Int}(h:Z1b a0 a1=some r):Fn PR 96 [wL (cI .i64) a0,wL (cL cB) a1] (wL (cI .i64) r):=
 FnG.frozen (C:=LT.RL (cI .i64) r/\True) (Zai2 a0 a1 h) ⟨rfl,trivial⟩ (by kernel_rfl)
def Z6z(a0:List Int)(a1:Int):LT Empty Int:=
.len (cI .i64) a0<|.br (decide (a1 < (a0.length:Int))) (.idx (cI .i64) a0 a1 fun x3=>.rt x3)<|.rt 0
def Z60:LF Empty Int := .z0 97 [.t 4] wI
def Zac6:=fun a0 a1=>Z60.run (Z6z a0 a1)
theorem Z30(a0)(a1){r}(h:Zac6 a0 a1=some r):Fn PR 97 [wL (cI .i64) a0,wI a1] (wI r):=Z60.fn h
inductive Znn where
 | L0 (v1:List Int) (v7:Int) (v14:List Int) (v15:Int) (v16:Int)
def Z61(v1:List Int)(v7:Int)(v14:List Int)(v15:Int)(v16:Int):LT Znn Int:=
.br (decide (v16 < v15)) (.idx (cI .i64) v14 v16 fun x2=>.br (decide (v7 < 0)) (.g0 (.L0 v1 x2 v14 v15 (IntKind.wrap .i64 (v16+1))))<|.call (Z30 v1 x2) fun x7=>.call (Z30 v1 v7) fun x9=>.cs (decide (x7 < x9)) (.k5 2<|.kg 2<|.kn [0]<|.g0 (.L0 v1 x2 v14 v15 (IntKind.wrap .i64 (v16+1))))<|.k4 2<|.cs (x7==x9) (.k3 3<|.kg 2<|.kg 3<|.kg 2<|.br (decide (x2 < v7)) (.g0 (.L0 v1 x2 v14 v15 (IntKind.wrap .i64 (v16+1))))<|.g0 (.L0 v1 v7 v14 v15 (IntKind.wrap .i64 (v16+1))))<|.k3 3<|.kg 2<|.kg 3<|.kg 2<|.kn [0]<|.g0 (.L0 v1 v7 v14 v15 (IntKind.wrap .i64 (v16+1))))<|.rt v7
def Z93(a0:List Int)(a1:List Int)(a2:List (List Bool)):LT Znn Int:=
.call (Zamy a0 a2) fun x1=>.len (cI .i64) x1<|.g0 (.L0 a1 (-1) x1 (x1.length:Int) 0)
def Zx8:LF Znn Int := .m0 54 [.t 6] wI fun | .L0 v1 v7 v14 v15 v16=>([1,1,0,1,4],⟨45,[(1,wL (cI .i64) v1),(7,wI v7),(14,wL (cI .i64) v14),(15,wI v15),(16,wI v16)],[]⟩,Z61 v1 v7 v14 v15 v16)
def Zahg:=fun a0 a1 a2=>Zx8.run (Z93 a0 a1 a2)
theorem Zao8(a0)(a1)(a2){r}(h:Zahg a0 a1 a2=some r):Fn PR 54 [wL (cI .i64) a0,wL (cI .i64) a1,wL (cL cB) a2] (wI r):=Zx8.fn h
inductive Zds where
 | L0 (c0:Zc) (v10:List Zg) (v11:Int) (v12:Int)
def Zg2(c0:Zc)(v10:List Zg)(v11:Int)(v12:Int):LT Zds Zc:=
.br (decide (v12 < v11)) (.idx Zn v10 v12 fun x2=>.lb 1003<|.idxR Zi c0.traits v12 fun x4=>.cs (x2.Zone==0) (.k2 1<|.rl Zi c0.traits<|.kg 1<|.rl Zi c0.traits<|.kg 1<|.rl Zi c0.traits<|.kg 1<|.ldR Zi c0.traits x4 5<|.k3 1<|.br ((Zay .and .i64 x4.Line.Types 1) != 0) (.call (Zaiz x2.Counters) fun x8=>.rl Zi c0.traits<|.rl Zi c0.traits<|.ldR Zi c0.traits x4 5<|.call (Ztn x4.Power x8) fun x10=>.rl Zi c0.traits<|.rl Zi c0.traits<|.ldR Zi c0.traits x4 5<|.call (Ztn x4.Tough x8) fun x12=>.rl Zi c0.traits<|.rl Zi c0.traits<|.setD Zi c0.traits v12 x4 (⟨x4.Name,x4.Cost,x4.Colors,x4.Line,x10,x4.Tough,x4.Keys,x4.Abilities,x4.Control⟩:Zb) 5 12 [.int .i64 x10] rfl fun x14=>.us [8]<|.us [8]<|.setE Zi c0.traits x14 v12 (⟨x4.Name,x4.Cost,x4.Colors,x4.Line,x10,x4.Tough,x4.Keys,x4.Abilities,x4.Control⟩:Zb) (⟨((⟨x4.Name,x4.Cost,x4.Colors,x4.Line,x10,x4.Tough,x4.Keys,x4.Abilities,x4.Control⟩:Zb)).Name,(⟨(((⟨x4.Name,x4.Cost,x4.Colors,x4.Line,x10,x4.Tough,x4.Keys,x4.Abilities,x4.Control⟩:Zb)).Cost).Generic,(((⟨x4.Name,x4.Cost,x4.Colors,x4.Line,x10,x4.Tough,x4.Keys,x4.Abilities,x4.Control⟩:Zb)).Cost).X,(((⟨x4.Name,x4.Cost,x4.Colors,x4.Line,x10,x4.Tough,x4.Keys,x4.Abilities,x4.Control⟩:Zb)).Cost).Color⟩:Zt),((⟨x4.Name,x4.Cost,x4.Colors,x4.Line,x10,x4.Tough,x4.Keys,x4.Abilities,x4.Control⟩:Zb)).Colors,((⟨x4.Name,x4.Cost,x4.Colors,x4.Line,x10,x4.Tough,x4.Keys,x4.Abilities,x4.Control⟩:Zb)).Line,((⟨x4.Name,x4.Cost,x4.Colors,x4.Line,x10,x4.Tough,x4.Keys,x4.Abilities,x4.Control⟩:Zb)).Power,x12,((⟨x4.Name,x4.Cost,x4.Colors,x4.Line,x10,x4.Tough,x4.Keys,x4.Abilities,x4.Control⟩:Zb)).Keys,((⟨x4.Name,x4.Cost,x4.Colors,x4.Line,x10,x4.Tough,x4.Keys,x4.Abilities,x4.Control⟩:Zb)).Abilities,((⟨x4.Name,x4.Cost,x4.Colors,x4.Line,x10,x4.Tough,x4.Keys,x4.Abilities,x4.Control⟩:Zb)).Control⟩:Zb) 7 12 13 [.int .i64 x12] rfl fun x16=>.dr [.ahead 56,.relen 1,.stop]<|.us [9]<|.us [9]<|.us [9]<|.us [9]<|.us [9]<|.us [9]<|.us [9]<|.us [9]<|.us [9]<|.us [9]<|.us [9]<|.us [9]<|.us [9]<|.us [9]<|.us [9]<|.us [9]<|.us [9]<|.us [9]<|.us [9]<|.us [9]<|.g0 (.L0 (⟨c0.s,c0.forces,x16,c0.dropped,c0.done,c0.hits⟩:Zc) v10 v11 (IntKind.wrap .i64 (v12+1))))<|.g0 (.L0 c0 v10 v11 (IntKind.wrap .i64 (v12+1))))<|.k8 1<|.kn [0]<|.g0 (.L0 c0 v10 v11 (IntKind.wrap .i64 (v12+1))))<|.rt c0
def Zmj(b0:Zc):LT Zds Zc:=
.len Zn b0.s.Objects<|.g0 (.L0 b0 b0.s.Objects (b0.s.Objects.length:Int) 0)
def Zmk:LF Zds Zc := .m 52 [] true (fun r=>[(0,.box (tm0 r)),(1,wR Zi 17 r.traits),(2,wR cB 1 r.dropped),(3,wR cB 1 r.done),(4,wR (cL (cI .i64)) 1 r.hits)]) (fun r => .tup []) fun | .L0 c0 v10 v11 v12=>([1,4],⟨57,[(0,.bptr 0 0),(10,wL Zn v10),(11,wI v11),(12,wI v12)],[(0,.box (tm0 c0)),(1,wR Zi 17 c0.traits),(2,wR cB 1 c0.dropped),(3,wR cB 1 c0.done),(4,wR (cL (cI .i64)) 1 c0.hits)]⟩,Zg2 c0 v10 v11 v12)
def Ziu:=fun b0=>Zmk.run (Zmj b0)
theorem Zuk(b0){r}(h:Ziu b0=some r):FnG PR 52 [(0,.box (tm0 b0)),(1,wR Zi 17 b0.traits),(2,wR cB 1 b0.dropped),(3,wR cB 1 b0.done),(4,wR (cL (cI .i64)) 1 b0.hits)] [.bptr 0 0] [(0,.box (tm0 r)),(1,wR Zi 17 r.traits),(2,wR cB 1 r.dropped),(3,wR cB 1 r.done),(4,wR (cL (cI .i64)) 1 r.hits)] (.tup []):=Zmk.fn h
inductive Zdb where
 | L0 (v1:Int) (v2:Int) (E1:Zv) (v18:List Zd) (v19:Int) (v20:Int)
def Zkj(b0:Zc)(v1:Int)(v2:Int)(E1:Zv)(v18:List Zd)(v19:Int)(v20:Int):LT Zdb Bool:=
.br (decide (v20 < v19)) (.idx Zl v18 v20 fun x2=>.lb 1009<|.cs (x2.Kind==11) (.k3 1<|.call (Zto x2.Kind) fun x5=>.k3 1<|.cs (x5==v2) (.k4 2<|.call (Zw8 x2.Filter v2) fun x8=>.kg 2<|.br x8 (.rt true)<|.g0 (.L0 v1 v2 E1 v18 v19 (IntKind.wrap .i64 (v20+1))))<|.k5 2<|.kn [0]<|.g0 (.L0 v1 v2 E1 v18 v19 (IntKind.wrap .i64 (v20+1))))<|.k5 1<|.kg 1<|.b5 false<|.kn [0]<|.g0 (.L0 v1 v2 E1 v18 v19 (IntKind.wrap .i64 (v20+1))))<|.cs (!E1.Fixed) (.k5 1<|.kg 1<|.idxR cB b0.done v1 fun x18=>.kg 1<|.ldR cB b0.done x18 2<|.k2 1<|.cs (!x18) (.k3 2<|.cs (v2==4) (.k4 3<|.kg 2<|.kg 3<|.kg 2<|.rt true)<|.k4 3<|.call (Zw8 E1.Filter v2) fun x22=>.kg 2<|.kg 3<|.kg 2<|.rt x22)<|.k5 2<|.rt false)<|.k8 1<|.kg 1<|.b5 false<|.rt false
def Zk4(b0:Zc)(a1:Int)(a2:Int):LT Zdb Bool:=
.idx Z4 b0.forces a1 fun x1=>.lb 1007<|.len Zl x1.Mods<|.go (.L0 a1 a2 x1 x1.Mods (x1.Mods.length:Int) 0) [.relab 1007 3001]
def Zgs(b0:Zc):LF Zdb Bool := .m 98 [.t 6] true (fun r=>[(0,.box (tm0 b0)),(1,wR Zi 17 b0.traits),(2,wR cB 1 b0.dropped),(3,wR cB 1 b0.done),(4,wR (cL (cI .i64)) 1 b0.hits)]) wB fun | .L0 v1 v2 E1 v18 v19 v20=>([1,1,0,1,4],⟨64,[(0,.bptr 0 0),(1,wI v1),(2,wI v2),(7,.bptr 3001 0),(18,wL Zl v18),(19,wI v19),(20,wI v20)],[(0,.box (tm0 b0)),(1,wR Zi 17 b0.traits),(2,wR cB 1 b0.dropped),(3,wR cB 1 b0.done),(4,wR (cL (cI .i64)) 1 b0.hits),(3001,.box (bx (Z4 E1)))]⟩,Zkj b0 v1 v2 E1 v18 v19 v20)
def Zml(b0:Zc)(a1:Int)(a2:Int):Option Bool:=(Zgs b0).run (Zk4 b0 a1 a2)
theorem Zss(b0:Zc)(a1:Int)(a2:Int){r:Bool}(h:Zml b0 a1 a2=some r):FnG PR 98 [(0,.box (tm0 b0)),(1,wR Zi 17 b0.traits),(2,wR cB 1 b0.dropped),(3,wR cB 1 b0.done),(4,wR (cL (cI .i64)) 1 b0.hits)] [.bptr 0 0,wI a1,wI a2] [(0,.box (tm0 b0)),(1,wR Zi 17 b0.traits),(2,wR cB 1 b0.dropped),(3,wR cB 1 b0.done),(4,wR (cL (cI .i64)) 1 b0.hits)] (wB r):=(Zgs b0).fn h
def Zlw(b0:Zc)(a1:Int):LT Empty Bool:=
.idx Z4 b0.forces a1 fun x1=>.lb 1005<|.cs x1.Fixed (.k8 0<|.kn [0]<|.rt true)<|.k5 0<|.kg 0<|.idxR cB b0.done a1 fun x4=>.kg 0<|.ldR cB b0.done x4 5<|.kg 0<|.br x4 (.rt true)<|.call (Z6t b0.s x1.Source) fun x7=>.cs (decide (x7 < 0)) (.k8 2<|.kg 2<|.rt true)<|.k5 2<|.kg 2<|.idxR cB b0.dropped x7 fun x10=>.kg 2<|.ldR cB b0.dropped x10 8<|.k2 2<|.rt (!x10)
def Zlx(b0:Zc):LF Empty Bool := .z 151 [.t 4] true (fun r=>[(0,.box (tm0 b0)),(1,wR Zi 17 b0.traits),(2,wR cB 1 b0.dropped),(3,wR cB 1 b0.done),(4,wR (cL (cI .i64)) 1 b0.hits)]) (fun r=>(wB r))
def Zno(b0:Zc)(a1:Int):Option Bool:=(Zlx b0).run (Zlw b0 a1)
theorem Zkk(b0:Zc)(a1:Int){r:Bool}(h:Zno b0 a1=some r):FnG PR 151 [(0,.box (tm0 b0)),(1,wR Zi 17 b0.traits),(2,wR cB 1 b0.dropped),(3,wR cB 1 b0.done),(4,wR (cL (cI .i64)) 1 b0.hits)] [.bptr 0 0,wI a1] [(0,.box (tm0 b0)),(1,wR Zi 17 b0.traits),(2,wR cB 1 b0.dropped),(3,wR cB 1 b0.done),(4,wR (cL (cI .i64)) 1 b0.hits)] (wB r):=(Zlx b0).fn h
def Zob(b0:Zc)(a1:Int):LT Empty Int:=
.idx Z4 b0.forces a1 fun x1=>.lb 1005<|.call (Z6t b0.s x1.Source) fun x3=>.cs (!x1.Fixed) (.k3 0<|.br (decide (x3>=0)) (.idxR Zi b0.traits x3 fun x7=>.rl Zi b0.traits<|.ldR Zi b0.traits x7 5<|.rt x7.Control)<|.rt x1.Control)<|.k3 0<|.kn [0]<|.rt x1.Control
def Zoc(b0:Zc):LF Empty Int := .z 105 [.t 4] true (fun r=>[(0,.box (tm0 b0)),(1,wR Zi 17 b0.traits),(2,wR cB 1 b0.dropped),(3,wR cB 1 b0.done),(4,wR (cL (cI .i64)) 1 b0.hits)]) (fun r=>(wI r))
def Zqc(b0:Zc)(a1:Int):Option Int:=(Zoc b0).run (Zob b0 a1)
theorem Zhs(b0:Zc)(a1:Int){r:Int}(h:Zqc b0 a1=some r):FnG PR 105 [(0,.box (tm0 b0)),(1,wR Zi 17 b0.traits),(2,wR cB 1 b0.dropped),(3,wR cB 1 b0.done),(4,wR (cL (cI .i64)) 1 b0.hits)] [.bptr 0 0,wI a1] [(0,.box (tm0 b0)),(1,wR Zi 17 b0.traits),(2,wR cB 1 b0.dropped),(3,wR cB 1 b0.done),(4,wR (cL (cI .i64)) 1 b0.hits)] (wI r):=(Zoc b0).fn h
inductive Zc6 where
 | L0 (E1:Zv) (v6:Int) (v7:List Int) (v42:List Zg) (v43:Int) (v44:Int)
def Zjq(b0:Zc)(E1:Zv)(v6:Int)(v7:List Int)(v42:List Zg)(v43:Int)(v44:Int):LT Zc6 (List Int):=
.br (decide (v44 < v43)) (.idx Zn v42 v44 fun x2=>.lb 1009<|.cs (x2.Zone==0) (.k3 1<|.cs E1.Fixed (.k5 2<|.call (Zk0 E1.Objects x2.Id) fun x6=>.kg 1<|.kg 2<|.kg 1<|.cs x6 (.k5 3<|.kg 1<|.kg 3<|.kg 1<|.kn [0]<|.dr [.lit]<|.apR (cI .i64) 8 v7 [v44] fun x9=>.g0 (.L0 E1 v6 x9 v42 v43 (IntKind.wrap .i64 (v44+1))))<|.k4 3<|.cs (!E1.Fixed) (.k5 4<|.k2 4<|.idxR Zi b0.traits v44 fun x15=>.kg 4<|.ldR Zi b0.traits x15 5<|.k5 4<|.kg 4<|.call (Ztu x2 x15 v6 E1.Source E1.Filter) fun x17=>.kg 3<|.kg 4<|.kg 1<|.kg 3<|.kg 1<|.br x17 (.dr [.lit]<|.apR (cI .i64) 8 v7 [v44] fun x20=>.g0 (.L0 E1 v6 x20 v42 v43 (IntKind.wrap .i64 (v44+1))))<|.g0 (.L0 E1 v6 v7 v42 v43 (IntKind.wrap .i64 (v44+1))))<|.k8 4<|.k5 4<|.kg 4<|.kg 3<|.kg 4<|.kg 1<|.kg 3<|.kg 1<|.kn [0]<|.g0 (.L0 E1 v6 v7 v42 v43 (IntKind.wrap .i64 (v44+1))))<|.k5 2<|.kg 1<|.kg 2<|.kg 1<|.b4 false<|.cs (!E1.Fixed) (.k5 3<|.k2 3<|.idxR Zi b0.traits v44 fun x30=>.kg 3<|.ldR Zi b0.traits x30 5<|.k5 3<|.kg 3<|.call (Ztu x2 x30 v6 E1.Source E1.Filter) fun x32=>.kb false<|.kg 3<|.kg 1<|.kb false<|.kg 1<|.br x32 (.dr [.lit]<|.apR (cI .i64) 8 v7 [v44] fun x35=>.g0 (.L0 E1 v6 x35 v42 v43 (IntKind.wrap .i64 (v44+1))))<|.g0 (.L0 E1 v6 v7 v42 v43 (IntKind.wrap .i64 (v44+1))))<|.k8 3<|.k5 3<|.kg 3<|.kb false<|.kg 3<|.kg 1<|.kb false<|.kg 1<|.kn [0]<|.g0 (.L0 E1 v6 v7 v42 v43 (IntKind.wrap .i64 (v44+1))))<|.k5 1<|.k2 1<|.kn [0]<|.g0 (.L0 E1 v6 v7 v42 v43 (IntKind.wrap .i64 (v44+1))))<|.rl (cI .i64) v7<|.rl (cI .i64) v7<|.rl (cI .i64) v7<|.ret v7 [.frz 20007]
def Zkl(b0:Zc)(a1:Int):LT Zc6 (List Int):=
.idxR cB b0.done a1 fun x1=>.ldR cB b0.done x1 2<|.br x1 (.idxR (cL (cI .i64)) b0.hits a1 fun x4=>.ldR (cL (cI .i64)) b0.hits x4 5<|.rt x4)<|.callO (Zkk b0 a1) [0,1,2,3,4] 270000 (fun x=>[]) fun x6=>.br (!x6) (.ret ([]:List Int) [.nilt 4])<|.idx Z4 b0.forces a1 fun x9=>.callO (Zhs b0 a1) [0,1,2,3,4] 380000 (fun x=>[]) fun x11=>.lb 1005<|.len Zn b0.s.Objects<|.go (.L0 x9 x11 ([]:List Int) b0.s.Objects (b0.s.Objects.length:Int) 0) [.relab 1005 3001,.own 7 20007 1]
def Zgj(b0:Zc):LF Zc6 (List Int) := .m 103 [.t 4] true (fun r=>[(0,.box (tm0 b0)),(1,wR Zi 17 b0.traits),(2,wR cB 1 b0.dropped),(3,wR cB 1 b0.done),(4,wR (cL (cI .i64)) 1 b0.hits)]) (fun r=>(wL (cI .i64) r)) fun | .L0 E1 v6 v7 v42 v43 v44=>([1,1,1,1,1,0,1,4],⟨90,[(0,.bptr 0 0),(5,.bptr 3001 0),(6,wI v6),(7,wO (cI .i64) 20007 v7),(42,wL Zn v42),(43,wI v43),(44,wI v44)],[(0,.box (tm0 b0)),(1,wR Zi 17 b0.traits),(2,wR cB 1 b0.dropped),(3,wR cB 1 b0.done),(4,wR (cL (cI .i64)) 1 b0.hits),(3001,.box (bx (Z4 E1))),(20007,wR (cI .i64) 1 v7)]⟩,Zjq b0 E1 v6 v7 v42 v43 v44)
def Zly(b0:Zc)(a1:Int):Option (List Int):=(Zgj b0).run (Zkl b0 a1)
theorem Zje(b0:Zc)(a1:Int){r:List Int}(h:Zly b0 a1=some r):FnG PR 103 [(0,.box (tm0 b0)),(1,wR Zi 17 b0.traits),(2,wR cB 1 b0.dropped),(3,wR cB 1 b0.done),(4,wR (cL (cI .i64)) 1 b0.hits)] [.bptr 0 0,wI a1] [(0,.box (tm0 b0)),(1,wR Zi 17 b0.traits),(2,wR cB 1 b0.dropped),(3,wR cB 1 b0.done),(4,wR (cL (cI .i64)) 1 b0.hits)] (wL (cI .i64) r):=(Zgj b0).fn h
inductive Zdc where
 | L0 (v1:Int) (v2:Int) (E1:Zv) (v8:List Int) (v23:List Zd) (v24:Int) (v25:Int)
def Zkm(b0:Zc)(v1:Int)(v2:Int)(E1:Zv)(v8:List Int)(v23:List Zd)(v24:Int)(v25:Int):LT Zdc (List Int):=
.br (decide (v25 < v24)) (.idx Zl v23 v25 fun x2=>.lb 1010<|.cs (x2.Kind==11) (.k3 1<|.call (Zto x2.Kind) fun x5=>.k3 1<|.br (x5==v2) (.callO (Zhs b0 v1) [0,1,2,3,4] 530000 (fun x=>[]) fun x8=>.rl Zi b0.traits<|.callS (Zao6 b0.s b0.traits x8 E1.Source x2.Filter) 580000 (fun _=>⟨rfl,Zrv (cI .i64) (fun _=>rfl) _,trivial⟩) fun x10=>.lenO (cI .i64) x10<|.idxR (cI .i64) v8 v25 fun x12=>.setD (cI .i64) v8 v25 x12 (x10.length:Int) 5 0 [.int .i64 (x10.length:Int)] rfl fun x14=>.dr [.ahead 60,.relen 20008,.stop]<|.us [6]<|.us [6]<|.us [6]<|.g0 (.L0 v1 v2 E1 x14 v23 v24 (IntKind.wrap .i64 (v25+1))))<|.g0 (.L0 v1 v2 E1 v8 v23 v24 (IntKind.wrap .i64 (v25+1))))<|.k5 1<|.kg 1<|.kn [0]<|.g0 (.L0 v1 v2 E1 v8 v23 v24 (IntKind.wrap .i64 (v25+1))))<|.ret v8 [.relab 20008 5000]
def Zk5(b0:Zc)(a1:Int)(a2:Int):LT Zdc (List Int):=
.idx Z4 b0.forces a1 fun x1=>.lb 1007<|.len Zl x1.Mods<|.mk (cI .i64) 1021 8 0 (x1.Mods.length:Int) (x1.Mods.length:Int) fun x4=>.len Zl x1.Mods<|.go (.L0 a1 a2 x1 x4 x1.Mods (x1.Mods.length:Int) 0) [.relab 1007 3001,.relab 1021 20008]
def Zgt(b0:Zc):LF Zdc (List Int) := .m 104 [.t 6] true (fun r=>[(5000,wR (cI .i64) 1 r),(0,.box (tm0 b0)),(1,wR Zi 17 b0.traits),(2,wR cB 1 b0.dropped),(3,wR cB 1 b0.done),(4,wR (cL (cI .i64)) 1 b0.hits)]) (fun r=>(wO (cI .i64) 5000 r)) fun | .L0 v1 v2 E1 v8 v23 v24 v25=>([1,1,1,0,1,4],⟨62,[(0,.bptr 0 0),(1,wI v1),(2,wI v2),(7,.bptr 3001 0),(8,wO (cI .i64) 20008 v8),(23,wL Zl v23),(24,wI v24),(25,wI v25)],[(0,.box (tm0 b0)),(1,wR Zi 17 b0.traits),(2,wR cB 1 b0.dropped),(3,wR cB 1 b0.done),(4,wR (cL (cI .i64)) 1 b0.hits),(3001,.box (bx (Z4 E1))),(20008,wR (cI .i64) 1 v8)]⟩,Zkm b0 v1 v2 E1 v8 v23 v24 v25)
def Zmm(b0:Zc)(a1:Int)(a2:Int):Option (List Int):=(Zgt b0).run (Zk5 b0 a1 a2)
theorem Zjr(b0:Zc)(a1:Int)(a2:Int){r:List Int}(h:Zmm b0 a1 a2=some r):FnG PR 104 [(0,.box (tm0 b0)),(1,wR Zi 17 b0.traits),(2,wR cB 1 b0.dropped),(3,wR cB 1 b0.done),(4,wR (cL (cI .i64)) 1 b0.hits)] [.bptr 0 0,wI a1,wI a2] [(5000,wR (cI .i64) 1 r),(0,.box (tm0 b0)),(1,wR Zi 17 b0.traits),(2,wR cB 1 b0.dropped),(3,wR cB 1 b0.done),(4,wR (cL (cI .i64)) 1 b0.hits)] (wO (cI .i64) 5000 r):=(Zgt b0).fn h
def Znp(b0:Zc)(a1:Int)(a2:Int):LT Empty Zaa:=
.lb 1006<|.callO (Zkk b0 a1) [0,1,2,3,4] 100000 (fun x=>[]) fun x1=>.callO (Zje b0 a1) [0,1,2,3,4] 130000 (fun x=>[]) fun x3=>.callO (Zjr b0 a1 a2) [0,1,2,3,4] 170000 (fun x=>[(5000,wR (cI .i64) 1 x)]) fun x5=>.ret (⟨x1,x3,x5⟩:Zaa) [.relab 175000 5002]
def Znq(b0:Zc):LF Empty Zaa := .z 99 [.c 6 174 true 3] true (fun r=>[(5002,wR (cI .i64) 1 r.numbers),(0,.box (tm0 b0)),(1,wR Zi 17 b0.traits),(2,wR cB 1 b0.dropped),(3,wR cB 1 b0.done),(4,wR (cL (cI .i64)) 1 b0.hits)]) (fun r=>(.agg [wB r.active,wL (cI .i64) r.hits,wO (cI .i64) 5002 r.numbers]))
def Zpb(b0:Zc)(a1:Int)(a2:Int):Option Zaa:=(Znq b0).run (Znp b0 a1 a2)
theorem Zlz(b0:Zc)(a1:Int)(a2:Int){r:Zaa}(h:Zpb b0 a1 a2=some r):FnG PR 99 [(0,.box (tm0 b0)),(1,wR Zi 17 b0.traits),(2,wR cB 1 b0.dropped),(3,wR cB 1 b0.done),(4,wR (cL (cI .i64)) 1 b0.hits)] [.bptr 0 0,wI a1,wI a2] [(5002,wR (cI .i64) 1 r.numbers),(0,.box (tm0 b0)),(1,wR Zi 17 b0.traits),(2,wR cB 1 b0.dropped),(3,wR cB 1 b0.done),(4,wR (cL (cI .i64)) 1 b0.hits)] (.agg [wB r.active,wL (cI .i64) r.hits,wO (cI .i64) 5002 r.numbers]):=(Znq b0).fn h
def Zc9(a0:List (Opq 17))(hne:a0≠[]):LT Empty (List (Opq 17)):=
.ne (Zkv (k:=17)) hne<|.kn [0]<|.lb 1005<|.apR (Zkv (k:=17)) 176 ([]:List (Opq 17)) a0 fun x1=>.ret x1 [.relab 1005 5000]
def Zat:LF Empty (List (Opq 17)) := .z 152 [.t 2] true (fun r=>[(5000,wR (Zkv (k:=17)) 17 r)]) (fun r=>(wO (Zkv (k:=17)) 5000 r))
def Zc7(c:Nat):LT Empty (List (Opq 17)):=
.kn [0]<|.ret ([]:List (Opq 17)) [.own 2 5000 17]
def Zkn(c:Nat)(ad:Addr):LT Empty (List (Opq 17)):=
.kn [0]<|.lb 1005<|.apR (Zkv (k:=17)) 176 ([]:List (Opq 17)) ([]:List (Opq 17)) fun x1=>.ret x1 [.relab 1005 5000]
open Classical in
def Zb2(a0:List (Opq 17)):Option (List (Opq 17)):=if h:a0≠[] then Zat.run (Zc9 a0 h) else Zat.run (Zc7 0)
theorem Zjx(a0:List (Opq 17)){r:List (Opq 17)}(h:Zb2 a0=some r):FnG PR 152 [] [wL (Zkv (k:=17)) a0] [(5000,wR (Zkv (k:=17)) 17 r)] (wO (Zkv (k:=17)) 5000 r):=by
 by_cases hne:a0=[]
 .subst hne
  have h0:Zat.run (Zc7 0)=some r:=h
  exact FnG.split0 (fun e=>absurd rfl e) (fun _ a c=>by
   cases a with
   | none=>exact Zat.fn (t:=Zc7 c) h0
   | some ad=>exact Zat.fn (t:=Zkn c ad) h0)
 .have h0:Zat.run (Zc9 a0 hne)=some r:=by unfold Zb2 at h;rwa [dif_pos hne] at h
  exact FnG.split0 (fun _=>Zat.fn h0) (fun e=>absurd (List.map_eq_nil_iff.1 e) hne)
theorem Zm3:Zqq PR 152 17 176:=Zqq.of (g:=Zb2) (fun a h=>by
 unfold Zb2
 by_cases e:a=[]
 .subst e;rfl
 .rw [dif_pos e];unfold LF.run;dsimp only [Zc9,LT.den];rw [Za1v h (by decide)];rfl) (fun a _ h=>Zjx a h)
def Ze5(a0:List (Opq 1))(hne:a0≠[]):LT Empty (List (Opq 1)):=
.ne (Zkv (k:=1)) hne<|.kn [0]<|.lb 1005<|.apR (Zkv (k:=1)) 24 ([]:List (Opq 1)) a0 fun x1=>.ret x1 [.relab 1005 5000]
def Zbe:LF Empty (List (Opq 1)) := .z 154 [.t 2] true (fun r=>[(5000,wR (Zkv (k:=1)) 1 r)]) (fun r=>(wO (Zkv (k:=1)) 5000 r))
def Zew(c:Nat):LT Empty (List (Opq 1)):=
.kn [0]<|.ret ([]:List (Opq 1)) [.own 2 5000 1]
def Zp1(c:Nat)(ad:Addr):LT Empty (List (Opq 1)):=
.kn [0]<|.lb 1005<|.apR (Zkv (k:=1)) 24 ([]:List (Opq 1)) ([]:List (Opq 1)) fun x1=>.ret x1 [.relab 1005 5000]
open Classical in
def Zdw(a0:List (Opq 1)):Option (List (Opq 1)):=if h:a0≠[] then Zbe.run (Ze5 a0 h) else Zbe.run (Zew 0)
theorem Zpc(a0:List (Opq 1)){r:List (Opq 1)}(h:Zdw a0=some r):FnG PR 154 [] [wL (Zkv (k:=1)) a0] [(5000,wR (Zkv (k:=1)) 1 r)] (wO (Zkv (k:=1)) 5000 r):=by
 by_cases hne:a0=[]
 .subst hne
  have h0:Zbe.run (Zew 0)=some r:=h
  exact FnG.split0 (fun e=>absurd rfl e) (fun _ a c=>by
   cases a with
   | none=>exact Zbe.fn (t:=Zew c) h0
   | some ad=>exact Zbe.fn (t:=Zp1 c ad) h0)
 .have h0:Zbe.run (Ze5 a0 hne)=some r:=by unfold Zdw at h;rwa [dif_pos hne] at h
  exact FnG.split0 (fun _=>Zbe.fn h0) (fun e=>absurd (List.map_eq_nil_iff.1 e) hne)
theorem Zty:Zqq PR 154 1 24:=Zqq.of (g:=Zdw) (fun a h=>by
 unfold Zdw
 by_cases e:a=[]
 .subst e;rfl
 .rw [dif_pos e];unfold LF.run;dsimp only [Ze5,LT.den];rw [Za1v h (by decide)];rfl) (fun a _ h=>Zpc a h)
def Zl0(b0:Zc):LT Empty Zc:=
.lb 1003<|.callC Zm3 Zi 1011 b0.traits<|.rl cB b0.dropped<|.callS (Zk2 b0.dropped) 170000 (fun _=>⟨rfl,Zrv cB (fun _=>rfl) _,trivial⟩) fun x4=>.rl cB b0.done<|.callS (Zk2 b0.done) 220000 (fun _=>⟨rfl,Zrv cB (fun _=>rfl) _,trivial⟩) fun x6=>.callC Zty (cL (cI .i64)) 1026 b0.hits<|.ret (⟨b0.s,b0.forces,b0.traits,x4,x6,b0.hits⟩:Zc) [.relab 1003 5000,.relab 1011 5021,.relab 175000 5022,.relab 225000 5023,.relab 1026 5024]
def Zl1(b0:Zc):LF Empty Zc := .z 102 [.t 2] true (fun r=>[(5000,.box (tm5 r 5000)),(5021,wR Zi 17 r.traits),(5022,wR cB 1 r.dropped),(5023,wR cB 1 r.done),(5024,wR (cL (cI .i64)) 1 r.hits),(0,.box (tm0 b0)),(1,wR Zi 17 b0.traits),(2,wR cB 1 b0.dropped),(3,wR cB 1 b0.done),(4,wR (cL (cI .i64)) 1 b0.hits)]) (fun r=>(.bptr 5000 0))
def Znr(b0:Zc):Option Zc:=(Zl1 b0).run (Zl0 b0)
theorem Ztz(b0:Zc){r:Zc}(h:Znr b0=some r):FnG PR 102 [(0,.box (tm0 b0)),(1,wR Zi 17 b0.traits),(2,wR cB 1 b0.dropped),(3,wR cB 1 b0.done),(4,wR (cL (cI .i64)) 1 b0.hits)] [.bptr 0 0] [(5000,.box (tm5 r 5000)),(5021,wR Zi 17 r.traits),(5022,wR cB 1 r.dropped),(5023,wR cB 1 r.done),(5024,wR (cL (cI .i64)) 1 r.hits),(0,.box (tm0 b0)),(1,wR Zi 17 b0.traits),(2,wR cB 1 b0.dropped),(3,wR cB 1 b0.done),(4,wR (cL (cI .i64)) 1 b0.hits)] (.bptr 5000 0):=(Zl1 b0).fn h
inductive Zcp where
 | L0 (c0:Zc) (v1:Int) (v2:Int) (v6:List Int) (v7:List Int) (v8:Int) (v23:List Int) (v24:Int) (v25:Int)
 | L1 (c0:Zc) (v1:Int) (v2:Int) (v6:List Int) (v7:List Int) (v8:Int) (v10:Int) (v23:List Int) (v24:Int) (v25:Int) (v36:List Zd) (v37:Int) (v38:Int)
def Zl2(c0:Zc)(v1:Int)(v2:Int)(v6:List Int)(v7:List Int)(v8:Int)(v23:List Int)(v24:Int)(v25:Int):LT Zcp Zc:=
.br (decide (v25 < v24)) (.idx (cI .i64) v23 v25 fun x2=>.idx Z4 c0.forces v1 fun x4=>.len Zl x4.Mods<|.g0 (.L1 c0 v1 v2 v6 v7 v8 x2 v23 v24 v25 x4.Mods (x4.Mods.length:Int) 0))<|.idxR cB c0.done v1 fun x7=>.setD cB c0.done v1 x7 true 2 0 [.bool true] rfl fun x9=>.idxR (cL (cI .i64)) c0.hits v1 fun x11=>.setD (cL (cI .i64)) c0.hits v1 x11 v6 8 0 [.sl (List.map (cI .i64) v6)] rfl fun x13=>.us [3]<|.us [3]<|.us [3]<|.us [9]<|.us [9]<|.us [9]<|.ret (⟨c0.s,c0.forces,c0.traits,c0.dropped,x9,x13⟩:Zc) [.relen 3,.relen 4]
def Zl3(c0:Zc)(v1:Int)(v2:Int)(v6:List Int)(v7:List Int)(v8:Int)(v10:Int)(v23:List Int)(v24:Int)(v25:Int)(v36:List Zd)(v37:Int)(v38:Int):LT Zcp Zc:=
.br (decide (v38 < v37)) (.idx Zl v36 v38 fun x2=>.lb 1012<|.call (Zto x2.Kind) fun x4=>.br (x4 != v2) (.g0 (.L1 c0 v1 v2 v6 v7 v8 v10 v23 v24 v25 v36 v37 (IntKind.wrap .i64 (v38+1))))<|.idxR Zi c0.traits v10 fun x9=>.ldR Zi c0.traits x9 5<|.idxR (cI .i64) v7 v38 fun x11=>.ldR (cI .i64) v7 x11 8<|.call (Zax1 x9 x2 v8 x11) fun x13=>.plR Zi c0.traits v10 3<|.setD Zi c0.traits v10 x9 x13 5 0 (tm10 x13) rfl fun x15=>.dr [.ahead 68,.relen 1,.stop]<|.us [9]<|.us [9]<|.us [9]<|.us [9]<|.us [9]<|.br (x2.Kind==10) (.idxR cB c0.dropped v10 fun x18=>.setR cB c0.dropped v10 x18 true 14 0 [.bool true] rfl fun x20=>.dr [.ahead 77,.relen 2,.stop]<|.us [15]<|.us [15]<|.us [15]<|.g0 (.L1 (⟨c0.s,c0.forces,x15,x20,c0.done,c0.hits⟩:Zc) v1 v2 v6 v7 v8 v10 v23 v24 v25 v36 v37 (IntKind.wrap .i64 (v38+1))))<|.g0 (.L1 (⟨c0.s,c0.forces,x15,c0.dropped,c0.done,c0.hits⟩:Zc) v1 v2 v6 v7 v8 v10 v23 v24 v25 v36 v37 (IntKind.wrap .i64 (v38+1))))<|.g0 (.L0 c0 v1 v2 v6 v7 v8 v23 v24 (IntKind.wrap .i64 (v25+1)))
def Zmn(b0:Zc)(a1:Int)(a2:Int):LT Zcp Zc:=
.callO (Zje b0 a1) [0,1,2,3,4] 160000 (fun x=>[]) fun x1=>.callO (Zjr b0 a1 a2) [0,1,2,3,4] 200000 (fun x=>[(5000,wR (cI .i64) 1 x)]) fun x3=>.callO (Zhs b0 a1) [0,1,2,3,4] 230000 (fun x=>[]) fun x5=>.len (cI .i64) x1<|.go (.L0 b0 a1 a2 x1 x3 x5 x1 (x1.length:Int) 0) [.relab 205000 20007]
def Zfc:LF Zcp Zc := .m 56 [] true (fun r=>[(0,.box (tm0 r)),(1,wR Zi 17 r.traits),(2,wR cB 1 r.dropped),(3,wR cB 1 r.done),(4,wR (cL (cI .i64)) 1 r.hits)]) (fun r => .tup []) fun | .L0 c0 v1 v2 v6 v7 v8 v23 v24 v25=>([1,0,1,4],⟨92,[(0,.bptr 0 0),(1,wI v1),(2,wI v2),(6,wL (cI .i64) v6),(7,wO (cI .i64) 20007 v7),(8,wI v8),(23,wL (cI .i64) v23),(24,wI v24),(25,wI v25)],[(0,.box (tm0 c0)),(1,wR Zi 17 c0.traits),(2,wR cB 1 c0.dropped),(3,wR cB 1 c0.done),(4,wR (cL (cI .i64)) 1 c0.hits),(20007,wR (cI .i64) 1 v7)]⟩,Zl2 c0 v1 v2 v6 v7 v8 v23 v24 v25) | .L1 c0 v1 v2 v6 v7 v8 v10 v23 v24 v25 v36 v37 v38=>([1,0,1,4,5,1,1,0,4,1,1,4],⟨92,[(0,.bptr 0 0),(1,wI v1),(2,wI v2),(6,wL (cI .i64) v6),(7,wO (cI .i64) 20007 v7),(8,wI v8),(10,wI v10),(23,wL (cI .i64) v23),(24,wI v24),(25,wI v25),(36,wL Zl v36),(37,wI v37),(38,wI v38)],[(0,.box (tm0 c0)),(1,wR Zi 17 c0.traits),(2,wR cB 1 c0.dropped),(3,wR cB 1 c0.done),(4,wR (cL (cI .i64)) 1 c0.hits),(20007,wR (cI .i64) 1 v7)]⟩,Zl3 c0 v1 v2 v6 v7 v8 v10 v23 v24 v25 v36 v37 v38)
def Zod:=fun b0 a1 a2=>Zfc.run (Zmn b0 a1 a2)
theorem Zk6(b0)(a1)(a2){r}(h:Zod b0 a1 a2=some r):FnG PR 56 [(0,.box (tm0 b0)),(1,wR Zi 17 b0.traits),(2,wR cB 1 b0.dropped),(3,wR cB 1 b0.done),(4,wR (cL (cI .i64)) 1 b0.hits)] [.bptr 0 0,wI a1,wI a2] [(0,.box (tm0 r)),(1,wR Zi 17 r.traits),(2,wR cB 1 r.dropped),(3,wR cB 1 r.done),(4,wR (cL (cI .i64)) 1 r.hits)] (.tup []):=Zfc.fn h
inductive Za7 where
 | L0 (v2:Int) (v7:List (List Bool)) (v27:Int) (v28:Int)
 | L1 (v2:Int) (v7:List (List Bool)) (v9:List (Int×Zaa)) (v43:Int) (v44:Int)
 | L2 (v2:Int) (v7:List (List Bool)) (v9:List (Int×Zaa)) (v69:Int) (v70:Int)
 | L3 (v2:Int) (v7:List (List Bool)) (v9:List (Int×Zaa)) (v14:Int) (E1:Zc) (v69:Int) (v70:Int) (v81:Int) (v82:Int)
def Zii(b0:Zc)(a1:List Int)(v2:Int)(v7:List (List Bool))(v27:Int)(v28:Int):LT Za7 (List (List Bool)):=
.br (decide (v28 < v27)) (.len Z4 b0.forces<|.mk cB 1038 1 false (b0.forces.length:Int) (b0.forces.length:Int) fun x3=>.idM cB v7 v28 fun x5=>.stR cB v7 v28 x3 0 fun x7=>.dr [.ahead 40,.relen 20007,.stop]<|.us [2]<|.us [2]<|.g0 (.L0 v2 x7 v27 (IntKind.wrap .i64 (v28+1))))<|.lb 1041<|.lenO (cI .i64) a1<|.go (.L1 v2 v7 ([]:List (Int×Zaa)) (a1.length:Int) 0) [.relab 1041 20009]
def Zij(b0:Zc)(a1:List Int)(v2:Int)(v7:List (List Bool))(v9:List (Int×Zaa))(v43:Int)(v44:Int):LT Za7 (List (List Bool)):=
.br (decide (v44 < v43)) (.idxR (cI .i64) a1 v44 fun x2=>.ldR (cI .i64) a1 x2 2<|.callO (Zss b0 x2 v2) [0,2,3,4,5] 520000 (fun x=>[]) fun x4=>.br x4 (.callO (Zlz b0 x2 v2) [0,2,3,4,5] 580000 (fun x=>[(5002,wR (cI .i64) 1 x.numbers)]) fun x7=>.dr [.ahead 1000000,.frz 585002,.stop]<|.rl (cI .i64) x7.numbers<|.stG Zfl v9 x2 x7 (.agg [wB x7.active,wL (cI .i64) x7.hits,wL (cI .i64) x7.numbers]) (wA (Zfl x7)) rfl fun x9=>.g0 (.L1 v2 v7 x9 v43 (IntKind.wrap .i64 (v44+1))))<|.g0 (.L1 v2 v7 v9 v43 (IntKind.wrap .i64 (v44+1))))<|.lenG Zfl v9<|.cs ((v9.length:Int)==0) (.k4 1<|.kn [0]<|.rl (cL cB) v7<|.rl (cL cB) v7<|.rl (cL cB) v7<|.ret v7 [.frz 20007])<|.k2 1<|.lenO (cI .i64) a1<|.k2 1<|.br (decide ((a1.length:Int) < 2)) (.rl (cL cB) v7<|.rl (cL cB) v7<|.rl (cL cB) v7<|.ret v7 [.frz 20007])<|.lenO (cI .i64) a1<|.g0 (.L2 v2 v7 v9 (a1.length:Int) 0)
def Zik(b0:Zc)(a1:List Int)(v2:Int)(v7:List (List Bool))(v9:List (Int×Zaa))(v69:Int)(v70:Int):LT Za7 (List (List Bool)):=
.br (decide (v70 < v69)) (.idxR (cI .i64) a1 v70 fun x2=>.ldR (cI .i64) a1 x2 2<|.callO (Ztz b0) [0,2,3,4,5] 760000 (fun x=>[(5000,.box [wL Zbc x.s.Players,wL Zn x.s.Objects,wL (cI .i64) x.s.Battlefield,wL (cI .i64) x.s.Exile,wL Zbl x.s.Stack,wL Zbn x.s.Waiting,wL Zam x.s.Conts,wI x.s.Turn,wI x.s.Active,wI x.s.Step,wB x.s.Begun,wI x.s.Priority,wI x.s.Passes,wI x.s.NextId,wI x.s.NextStamp,.t (.int .u64 x.s.Seed),wL (cI .i64) x.s.Extra,wI x.s.Over,wI x.s.Winner,wL Z4 x.forces,wO Zi 5021 x.traits,wO cB 5022 x.dropped,wO cB 5023 x.done,wO (cL (cI .i64)) 5024 x.hits]),(5021,wR Zi 17 x.traits),(5022,wR cB 1 x.dropped),(5023,wR cB 1 x.done),(5024,wR (cL (cI .i64)) 1 x.hits)]) fun x4=>.callU (Zk6 x4 x2 v2) [765000,765021,765022,765023,765024] 800000 fun x6=>.lenO (cI .i64) a1<|.go (.L3 v2 v7 v9 x2 x6 v69 v70 (a1.length:Int) 0) [.relab 765000 3001,.relab 765021 40120,.relab 765022 40121,.relab 765023 40122,.relab 765024 40123])<|.rl (cL cB) v7<|.rl (cL cB) v7<|.rl (cL cB) v7<|.ret v7 [.frz 20007]
def Zil(b0:Zc)(a1:List Int)(v2:Int)(v7:List (List Bool))(v9:List (Int×Zaa))(v14:Int)(E1:Zc)(v69:Int)(v70:Int)(v81:Int)(v82:Int):LT Za7 (List (List Bool)):=
.br (decide (v82 < v81)) (.idxR (cI .i64) a1 v82 fun x2=>.ldR (cI .i64) a1 x2 2<|.lkG Zfl v9 x2 (⟨false,[],[]⟩:Zaa) fun x4=>.lb 1018<|.cs x4.2 (.k4 1<|.br (x2 != v14) (.idM cB v7 x2 fun x8=>.ldM cB v7 3<|.callO (Zlz E1 x2 v2) [3001,40120,40121,40122,40123] 1090000 (fun x=>[(5002,wR (cI .i64) 1 x.numbers)]) fun x10=>.rl (cI .i64) x10.numbers<|.call (Zzp x4.1 x10) fun x12=>.idN cB v7 x8 v14 3 fun x14=>.stM cB v7 x2 x8 v14 x12 3 5 fun x16=>.dr [.ahead 111,.relen 20007,.stop]<|.us [7]<|.us [7]<|.g0 (.L3 v2 x16 v9 v14 E1 v69 v70 v81 (IntKind.wrap .i64 (v82+1))))<|.g0 (.L3 v2 v7 v9 v14 E1 v69 v70 v81 (IntKind.wrap .i64 (v82+1))))<|.k4 1<|.kn [0]<|.g0 (.L3 v2 v7 v9 v14 E1 v69 v70 v81 (IntKind.wrap .i64 (v82+1))))<|.g0 (.L2 v2 v7 v9 v69 (IntKind.wrap .i64 (v70+1)))
def Zi4(b0:Zc)(a1:List Int)(a2:Int):LT Za7 (List (List Bool)):=
.len Z4 b0.forces<|.mkE cB 1025 24 (b0.forces.length:Int) (b0.forces.length:Int) fun x2=>.dr [.ahead 7,.tomat 1025,.stop]<|.us [0]<|.lenO (cL cB) x2<|.go (.L0 a2 x2 (x2.length:Int) 0) [.relab 1025 20007]
def Zbq(b0:Zc)(a1:List Int):LF Za7 (List (List Bool)) := .m 55 [.t 6] true (fun r=>[(0,.box (tm3 b0)),(1,wR (cI .i64) 1 a1),(2,wR Zi 17 b0.traits),(3,wR cB 1 b0.dropped),(4,wR cB 1 b0.done),(5,wR (cL (cI .i64)) 1 b0.hits)]) (fun r=>(wL (cL cB) r)) fun | .L0 v2 v7 v27 v28=>([1,1,0,1,4],⟨114,[(0,.bptr 0 0),(1,wO (cI .i64) 1 a1),(2,wI v2),(7,wM (cL cB) 20007 v7),(27,wI v27),(28,wI v28)],[(0,.box (tm3 b0)),(2,wR Zi 17 b0.traits),(3,wR cB 1 b0.dropped),(4,wR cB 1 b0.done),(5,wR (cL (cI .i64)) 1 b0.hits),(1,wR (cI .i64) 1 a1),(20007,wT (cL cB) v7)]⟩,Zii b0 a1 v2 v7 v27 v28) | .L1 v2 v7 v9 v43 v44=>([1,1,1,1,0,1,4],⟨114,[(0,.bptr 0 0),(1,wO (cI .i64) 1 a1),(2,wI v2),(7,wM (cL cB) 20007 v7),(9,.own 20009 .map),(42,wO (cI .i64) 1 a1),(43,wI v43),(44,wI v44)],[(0,.box (tm3 b0)),(2,wR Zi 17 b0.traits),(3,wR cB 1 b0.dropped),(4,wR cB 1 b0.done),(5,wR (cL (cI .i64)) 1 b0.hits),(1,wR (cI .i64) 1 a1),(20007,wT (cL cB) v7),(20009,wG true Zfl v9)]⟩,Zij b0 a1 v2 v7 v9 v43 v44) | .L2 v2 v7 v9 v69 v70=>([1,1,1,1,1,1,1,0,1,4],⟨114,[(0,.bptr 0 0),(1,wO (cI .i64) 1 a1),(2,wI v2),(7,wM (cL cB) 20007 v7),(9,.own 20009 .map),(12,.fn 100 []),(68,wO (cI .i64) 1 a1),(69,wI v69),(70,wI v70)],[(0,.box (tm3 b0)),(2,wR Zi 17 b0.traits),(3,wR cB 1 b0.dropped),(4,wR cB 1 b0.done),(5,wR (cL (cI .i64)) 1 b0.hits),(1,wR (cI .i64) 1 a1),(20007,wT (cL cB) v7),(20009,wG true Zfl v9)]⟩,Zik b0 a1 v2 v7 v9 v69 v70) | .L3 v2 v7 v9 v14 E1 v69 v70 v81 v82=>([1,1,1,1,1,1,1,0,1,4,5,1,1,0,4,1,1,1,1,4],⟨114,[(0,.bptr 0 0),(1,wO (cI .i64) 1 a1),(2,wI v2),(7,wM (cL cB) 20007 v7),(9,.own 20009 .map),(12,.fn 100 []),(14,wI v14),(15,.bptr 3001 0),(68,wO (cI .i64) 1 a1),(69,wI v69),(70,wI v70),(80,wO (cI .i64) 1 a1),(81,wI v81),(82,wI v82)],((0,.box (tm3 b0))::(2,wR Zi 17 b0.traits)::(3,wR cB 1 b0.dropped)::(4,wR cB 1 b0.done)::(5,wR (cL (cI .i64)) 1 b0.hits)::(1,wR (cI .i64) 1 a1)::(20007,wT (cL cB) v7)::(20009,wG true Zfl v9)::(3001,.box (tm7 E1 40100))::(tm19 E1 40100))⟩,Zil b0 a1 v2 v7 v9 v14 E1 v69 v70 v81 v82)
def Zjs(b0:Zc)(a1:List Int)(a2:Int):Option (List (List Bool)):=(Zbq b0 a1).run (Zi4 b0 a1 a2)
theorem Zp2(b0:Zc)(a1:List Int)(a2:Int){r:List (List Bool)}(h:Zjs b0 a1 a2=some r):FnG PR 55 [(0,.box (tm3 b0)),(1,wR (cI .i64) 1 a1),(2,wR Zi 17 b0.traits),(3,wR cB 1 b0.dropped),(4,wR cB 1 b0.done),(5,wR (cL (cI .i64)) 1 b0.hits)] [.bptr 0 0,wO (cI .i64) 1 a1,wI a2] [(0,.box (tm3 b0)),(1,wR (cI .i64) 1 a1),(2,wR Zi 17 b0.traits),(3,wR cB 1 b0.dropped),(4,wR cB 1 b0.done),(5,wR (cL (cI .i64)) 1 b0.hits)] (wL (cL cB) r):=(Zbq b0 a1).fn h
def Zl4(a0:Int)(a1:Int):LT Empty Bool:=
.rt (a0==a1)
def Zl5:LF Empty Bool := .z0 58 [.t 3] wB
def Zns:=fun a0 a1=>Zl5.run (Zl4 a0 a1)
theorem Zk7(a0)(a1){r}(h:Zns a0 a1=some r):Fn PR 58 [wI a0,.vptr ((cI .i64) a1)] (wB r):=Zl5.fn h
inductive Za0 where
 | L0 (v0:List Int) (w1_0:Int) (v7:Int) (v8:Int)
def Zdn(v0:List Int)(w1_0:Int)(v7:Int)(v8:Int):LT Za0 Int:=
.br (decide (v8 < v7)) (.idx (cI .i64) v0 v8 fun x2=>.call (Zk7 x2 w1_0) fun x4=>.br x4 (.rt v8)<|.g0 (.L0 v0 w1_0 v7 (IntKind.wrap .i64 (v8+1))))<|.rt (-1)
def Zdt(a0:List Int)(a1:Int):LT Za0 Int:=
.len (cI .i64) a0<|.g0 (.L0 a0 a1 (a0.length:Int) 0)
def Zby:LF Za0 Int := .m0 107 [.t 4] wI fun | .L0 v0 w1_0 v7 v8=>([1,0,1,4],⟨19,[(0,wL (cI .i64) v0),(1,.fn 58 [.vptr ((cI .i64) w1_0)]),(7,wI v7),(8,wI v8)],[]⟩,Zdn v0 w1_0 v7 v8)
def Zd3:=fun a0 a1=>Zby.run (Zdt a0 a1)
theorem Zhh(a0)(a1){r}(h:Zd3 a0 a1=some r):Fn PR 107 [wL (cI .i64) a0,.fn 58 [.vptr ((cI .i64) a1)]] (wI r):=Zby.fn h
inductive Zar where
 | L0 (v0:List Int) (w1_0:Int) (v5:Int) (v6:Int)
def Zcx(v0:List Int)(w1_0:Int)(v5:Int)(v6:Int):LT Zar (List Int):=
.lenO (cI .i64) v0<|.br (decide (v6 < (v0.length:Int))) (.idxR (cI .i64) v0 v6 fun x2=>.ldR (cI .i64) v0 x2 2<|.call (Zk7 x2 w1_0) fun x4=>.br (!x4) (.idxR (cI .i64) v0 v5 fun x7=>.setR (cI .i64) v0 v5 x7 x2 5 0 [.int .i64 x2] rfl fun x9=>.dr [.ahead 34,.relen 20000,.stop]<|.us [6]<|.us [6]<|.us [6]<|.us [6]<|.us [6]<|.us [6]<|.g0 (.L0 x9 w1_0 (IntKind.wrap .i64 (v5+1)) (IntKind.wrap .i64 (v6+1))))<|.g0 (.L0 v0 w1_0 v5 (IntKind.wrap .i64 (v6+1))))<|.tlR (cI .i64) v0 v5 0 fun x17=>.clR (cI .i64) v0 x17 0<|.dr [.ahead 39,.relen 20000,.stop]<|.us [2]<|.us [2]<|.us [2]<|.trR (cI .i64) x17 v5 fun x20=>.ret x20 [.relab 20000 5000]
def Zc8(b0:List Int)(a1:Int):LT Zar (List Int):=
.rl (cI .i64) b0<|.call (Zhh b0 a1) fun x1=>.br (x1==(-1)) (.ret b0 [.relab 0 5000])<|.go (.L0 b0 a1 x1 (IntKind.wrap .i64 (x1+1))) [.relab 0 20000]
def Zbm:LF Zar (List Int) := .m 57 [.t 4] true (fun r=>[(5000,wR (cI .i64) 1 r)]) (fun r=>(wO (cI .i64) 5000 r)) fun | .L0 v0 w1_0 v5 v6=>([1,1,1,0,1,4],⟨42,[(0,wO (cI .i64) 20000 v0),(1,.fn 58 [.vptr ((cI .i64) w1_0)]),(5,wI v5),(6,wI v6)],[(20000,wR (cI .i64) 1 v0)]⟩,Zcx v0 w1_0 v5 v6)
def Zdd:=fun b0 a1=>Zbm.run (Zc8 b0 a1)
theorem Zf8(b0)(a1){r}(h:Zdd b0 a1=some r):FnG PR 57 [(0,wR (cI .i64) 1 b0)] [wO (cI .i64) 0 b0,.fn 58 [.vptr ((cI .i64) a1)]] [(5000,wR (cI .i64) 1 r)] (wO (cI .i64) 5000 r):=Zbm.fn h
inductive Zcq where
 | L0 (c0:Zc) (v1:Int) (v5:List Int) (v6:List Int) (v7:List Int) (v18:List Zv) (v19:Int) (v20:Int)
 | L1 (c0:Zc) (v1:Int) (v5:List Int) (v6:List Int) (v7:List Int)
def Zl6(c0:Zc)(v1:Int)(v5:List Int)(v6:List Int)(v7:List Int)(v18:List Zv)(v19:Int)(v20:Int):LT Zcq ((List Int)×Zc):=
.br (decide (v20 < v19)) (.idx Z4 v18 v20 fun x2=>.lb 1009<|.dr [.lit]<|.apR (cI .i64) 8 v7 [x2.Stamp] fun x4=>.call (Zai0 x2 v1) fun x7=>.br x7 (.dr [.lit]<|.apR (cI .i64) 8 v5 [v20] fun x10=>.g0 (.L0 c0 v1 x10 v6 x4 v18 v19 (IntKind.wrap .i64 (v20+1))))<|.g0 (.L0 c0 v1 v5 v6 x4 v18 v19 (IntKind.wrap .i64 (v20+1))))<|.g0 (.L1 c0 v1 v5 v6 v7)
def Zl7(c0:Zc)(v1:Int)(v5:List Int)(v6:List Int)(v7:List Int):LT Zcq ((List Int)×Zc):=
.lenO (cI .i64) v5<|.br (decide ((v5.length:Int) > 0)) (.callO (Zp2 c0 v5 v1) [0,20005,1,2,3,4] 470000 (fun x=>[]) fun x2=>.rl (cI .i64) v5<|.rl (cI .i64) v7<|.call (Zao8 v5 v7 x2) fun x4=>.lb 1010<|.br (decide (x4 < 0)) (.ret (v6,c0) [.relab 20006 5000])<|.callU (Zk6 c0 x4 v1) [0,1,2,3,4] 550000 fun x7=>.dr [.lit]<|.apR (cI .i64) 8 v6 [x4] fun x9=>.callW (Zf8 v5 x4) [20005] 620000 (fun _=>⟨rfl,Zrv (cI .i64) (fun _=>rfl) _,trivial⟩) fun x12=>.go (.L1 x7 v1 x12 x9 v7) [.relab 625000 20005])<|.ret (v6,c0) [.relab 20006 5000]
def Zmo(b0:Zc)(a1:Int):LT Zcq ((List Int)×Zc):=
.br (a1==7) (.callU (Zuk b0) [0,1,2,3,4] 150000 fun x2=>.len Z4 x2.forces<|.go (.L0 x2 a1 ([]:List Int) ([]:List Int) ([]:List Int) x2.forces (x2.forces.length:Int) 0) [.own 5 20005 1,.own 6 20006 1,.own 7 20007 1])<|.len Z4 b0.forces<|.go (.L0 b0 a1 ([]:List Int) ([]:List Int) ([]:List Int) b0.forces (b0.forces.length:Int) 0) [.own 5 20005 1,.own 6 20006 1,.own 7 20007 1]
def Zfd:LF Zcq ((List Int)×Zc) := .m 35 [.t 4] true (fun r=>[(5000,wR (cI .i64) 1 r.1),(0,.box (tm0 r.2)),(1,wR Zi 17 r.2.traits),(2,wR cB 1 r.2.dropped),(3,wR cB 1 r.2.done),(4,wR (cL (cI .i64)) 1 r.2.hits)]) (fun r=>(wO (cI .i64) 5000 r.1)) fun | .L0 c0 v1 v5 v6 v7 v18 v19 v20=>([1,1,1,0,1,4],⟨63,[(0,.bptr 0 0),(1,wI v1),(5,wO (cI .i64) 20005 v5),(6,wO (cI .i64) 20006 v6),(7,wO (cI .i64) 20007 v7),(18,wL Z4 v18),(19,wI v19),(20,wI v20)],[(0,.box (tm0 c0)),(1,wR Zi 17 c0.traits),(2,wR cB 1 c0.dropped),(3,wR cB 1 c0.done),(4,wR (cL (cI .i64)) 1 c0.hits),(20005,wR (cI .i64) 1 v5),(20006,wR (cI .i64) 1 v6),(20007,wR (cI .i64) 1 v7)]⟩,Zl6 c0 v1 v5 v6 v7 v18 v19 v20) | .L1 c0 v1 v5 v6 v7=>([1,1,1,1,0,4],⟨63,[(0,.bptr 0 0),(1,wI v1),(5,wO (cI .i64) 20005 v5),(6,wO (cI .i64) 20006 v6),(7,wO (cI .i64) 20007 v7)],[(0,.box (tm0 c0)),(1,wR Zi 17 c0.traits),(2,wR cB 1 c0.dropped),(3,wR cB 1 c0.done),(4,wR (cL (cI .i64)) 1 c0.hits),(20005,wR (cI .i64) 1 v5),(20006,wR (cI .i64) 1 v6),(20007,wR (cI .i64) 1 v7)]⟩,Zl7 c0 v1 v5 v6 v7)
def Zoe:=fun b0 a1=>Zfd.run (Zmo b0 a1)
theorem Zul(b0)(a1){r}(h:Zoe b0 a1=some r):FnG PR 35 [(0,.box (tm0 b0)),(1,wR Zi 17 b0.traits),(2,wR cB 1 b0.dropped),(3,wR cB 1 b0.done),(4,wR (cL (cI .i64)) 1 b0.hits)] [.bptr 0 0,wI a1] [(5000,wR (cI .i64) 1 r.1),(0,.box (tm0 r.2)),(1,wR Zi 17 r.2.traits),(2,wR cB 1 r.2.dropped),(3,wR cB 1 r.2.done),(4,wR (cL (cI .i64)) 1 r.2.hits)] (wO (cI .i64) 5000 r.1):=Zfd.fn h
inductive Zrb where
 | L0 (E0:Zc) (v6:Int)
def Zac7(E0:Zc)(v6:Int):LT Zrb (List Zb):=
.br (decide (v6<=8)) (.callU (Zul E0 v6) [3000,40020,40021,40022,40023] 170000 fun x2=>.g0 (.L0 x2.2 (IntKind.wrap .i64 (v6+1))))<|.ret E0.traits [.relab 40020 5000]
def Zahh(a0:List Zm)(a1:Zk):LT Zrb (List Zb):=
.lb 1003<|.callF (Zams a0 a1) 100000 fun x1=>.go (.L0 x1 1) [.relab 105000 3000,.relab 105021 40020,.relab 105022 40021,.relab 105023 40022,.relab 105024 40023]
def Z47:LF Zrb (List Zb) := .m 17 [.t 4] true (fun r=>[(5000,wR Zi 17 r)]) (fun r=>(wO Zi 5000 r)) fun | .L0 E0 v6=>([1,1,0,1,4],⟨21,[(5,.bptr 3000 0),(6,wI v6)],((3000,.box (tm7 E0 40000))::(tm19 E0 40000))⟩,Zac7 E0 v6)
def Zxh:=fun a0 a1=>Z47.run (Zahh a0 a1)
theorem Zasy(a0)(a1){r}(h:Zxh a0 a1=some r):FnG PR 17 [] [wL Z6 a0,wA (Z9 a1)] [(5000,wR Zi 17 r)] (wO Zi 5000 r):=Z47.fn h
theorem Z1c(a0:List Zm)(a1:Zk){r:List Zb}(h:Zxh a0 a1=some r):Fn PR 17 [wL Z6 a0,wA (Z9 a1)] (wL Zi r):=
 FnG.frozen (C:=LT.RL Zi r/\True) (Zasy a0 a1 h) ⟨rfl,trivial⟩ (by kernel_rfl)
def Za0s:LT Empty Bool:=
.dr [.lit]<|.dr [.lit]<|.dr [.lit]<|.dr [.lit]<|.call (Zaxv [(⟨0,0,0,0,0,false,false,false,false,0,(⟨1,0,0⟩:A3 Int),0,0,0,false,0,0⟩:Zg),(⟨0,1,0,0,0,false,false,false,false,0,(⟨0,0,0⟩:A3 Int),0,0,0,false,0,0⟩:Zg)]) fun x3=>.lb 1002<|.call (Z1c [(⟨([97]:By),false,(⟨0,0,(⟨0,0,0,0,0⟩:A5 Int)⟩:Zt),0,(⟨0,1,([]:Bys)⟩:Zac),2,2,0,([]:List Zh)⟩:Zm),(⟨([98]:By),false,(⟨0,0,(⟨0,0,0,0,0⟩:A5 Int)⟩:Zt),0,(⟨0,16,([]:Bys)⟩:Zac),0,0,0,[(⟨1,(⟨0,0,0,1,0,0,0,([]:By),0,0,(⟨0,0⟩:Za),(⟨0,0⟩:Za),(⟨0,0⟩:Za)⟩:Ze),[(⟨13,1,1,([]:By),(⟨0,0,0,0,0,0,0,([]:By),0,0,(⟨0,0⟩:Za),(⟨0,0⟩:Za),(⟨0,0⟩:Za)⟩:Ze)⟩:Zd)],(⟨(⟨0,0,(⟨0,0,0,0,0⟩:A5 Int)⟩:Zt),false,false,0⟩:Zhn),false,(⟨0,0,(⟨0,0,0,0,0,0,0,([]:By),0,0,(⟨0,0⟩:Za),(⟨0,0⟩:Za),(⟨0,0⟩:Za)⟩:Ze)⟩:Zcs),false,([]:List Za9),([]:List Zs),(⟨0,0,(⟨0,0,0,0,0,0,0,([]:By),0,0,(⟨0,0⟩:Za),(⟨0,0⟩:Za),(⟨0,0⟩:Za)⟩:Ze),0,0,0,0⟩:Za6)⟩:Zh)]⟩:Zm)] x3) fun x5=>.call (Z3g [(⟨([97]:By),false,(⟨0,0,(⟨0,0,0,0,0⟩:A5 Int)⟩:Zt),0,(⟨0,1,([]:Bys)⟩:Zac),2,2,0,([]:List Zh)⟩:Zm),(⟨([98]:By),false,(⟨0,0,(⟨0,0,0,0,0⟩:A5 Int)⟩:Zt),0,(⟨0,16,([]:Bys)⟩:Zac),0,0,0,[(⟨1,(⟨0,0,0,1,0,0,0,([]:By),0,0,(⟨0,0⟩:Za),(⟨0,0⟩:Za),(⟨0,0⟩:Za)⟩:Ze),[(⟨13,1,1,([]:By),(⟨0,0,0,0,0,0,0,([]:By),0,0,(⟨0,0⟩:Za),(⟨0,0⟩:Za),(⟨0,0⟩:Za)⟩:Ze)⟩:Zd)],(⟨(⟨0,0,(⟨0,0,0,0,0⟩:A5 Int)⟩:Zt),false,false,0⟩:Zhn),false,(⟨0,0,(⟨0,0,0,0,0,0,0,([]:By),0,0,(⟨0,0⟩:Za),(⟨0,0⟩:Za),(⟨0,0⟩:Za)⟩:Ze)⟩:Zcs),false,([]:List Za9),([]:List Zs),(⟨0,0,(⟨0,0,0,0,0,0,0,([]:By),0,0,(⟨0,0⟩:Za),(⟨0,0⟩:Za),(⟨0,0⟩:Za)⟩:Ze),0,0,0,0⟩:Za6)⟩:Zh)]⟩:Zm)] x3) fun x7=>.len Zi x5<|.cs ((x5.length:Int)==2) (.k2 0<|.idx Zi x5 0 fun x11=>.k4 0<|.cs (x11.Power==4) (.k2 1<|.ag Zi x11 0<|.k4 1<|.cs (x11.Tough==4) (.k2 2<|.idx Zi x5 1 fun x15=>.k4 2<|.cs (x15.Name==([98]:By)) (.k2 3<|.len Z4 x7<|.k2 3<|.cs ((x7.length:Int)==1) (.k2 4<|.idx Z4 x7 0 fun x20=>.k4 4<|.rt (x20.Source==2))<|.k5 4<|.kg 4<|.rt false)<|.k4 3<|.b5 false<|.kb false<|.rt false)<|.k5 2<|.kg 2<|.b8 false<|.b2 false<|.rt false)<|.k5 1<|.kg 1<|.b16 false<|.rt false)<|.k5 0<|.kg 0<|.b16 false<|.b5 false<|.kb false<|.rt false
def Zahi:LF Empty Bool := .z0 11 [.t 0] wB
def Zar8:=Zahi.run (Za0s)
theorem Z1d{r}(h:Zar8=some r):Fn PR 11 [] (wB r):=Zahi.fn h
end
end Go.PW
