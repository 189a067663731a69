import Derived.Test.YtncgejlelfefdaaGreatQDa
set_option linter.all false
set_option maxRecDepth 100000
namespace Go.PW
open Go.RowKit
noncomputable section
inductive Zie where
 | L0 (v0:By) (v8:Int) (v9:Int)
def Zfm(v0:By)(v8:Int)(v9:Int):LT Zie Int:=
.br (decide (v9 < v8)) (.call (Zak6 v9) fun x2=>.br (!(x2==v0)) (.g0 (.L0 v0 v8 (IntKind.wrap .i64 (v9+1))))<|.ok (¬ v9 < 0)<|.rt (Z1c .i64 1 v9))<|.rt 0
def Zmh(a0:By)(a1:Int):LT Zie Int:=
.g0 (.L0 a0 a1 0)
def Zif:LF Zie Int := .m0 254 [.t 6] wI fun | .L0 v0 v8 v9=>([1,6,1,0,1,4],⟨20,[(0,wS v0),(2,.fn 255 []),(8,wI v8),(9,wI v9)],[]⟩,Zfm v0 v8 v9)
def Zi8:=fun a0 a1=>Zif.run (Zmh a0 a1)
theorem Zxt(a0)(a1){r}(h:Zi8 a0 a1=some r):Fn PR 254 [wS a0,wI a1,.fn 255 []] (wI r):=Zif.fn h
inductive Zip where
 | L0 (v0:By) (v8:Int) (v9:Int)
def Zfw(v0:By)(v8:Int)(v9:Int):LT Zip Int:=
.br (decide (v9 < v8)) (.call (Zapy v9) fun x2=>.br (!(x2==v0)) (.g0 (.L0 v0 v8 (IntKind.wrap .i64 (v9+1))))<|.ok (¬ v9 < 0)<|.rt (Z1c .i64 1 v9))<|.rt 0
def Znt(a0:By)(a1:Int):LT Zip Int:=
.g0 (.L0 a0 a1 0)
def Ziq:LF Zip Int := .m0 254 [.t 6] wI fun | .L0 v0 v8 v9=>([1,6,1,0,1,4],⟨20,[(0,wS v0),(2,.fn 256 []),(8,wI v8),(9,wI v9)],[]⟩,Zfw v0 v8 v9)
def Zjo:=fun a0 a1=>Ziq.run (Znt a0 a1)
theorem Zyu(a0)(a1){r}(h:Zjo a0 a1=some r):Fn PR 254 [wS a0,wI a1,.fn 256 []] (wI r):=Ziq.fn h
def Zagy(a0:By):LT Empty Bool:=
.call (Zbet a0) fun x1=>.cs x1 (.k2 0<|.call (Zxt a0 2) fun x4=>.k2 0<|.cs (x4==0) (.k2 1<|.call (Zyu a0 6) fun x7=>.k2 1<|.rt (x7==0))<|.k4 1<|.rt false)<|.k4 0<|.b4 false<|.rt false
def Zagz:LF Empty Bool := .z0 220 [.t 2] wB
def Zaa0:=fun a0=>Zagz.run (Zagy a0)
theorem Za2p(a0){r}(h:Zaa0 a0=some r):Fn PR 220 [wS a0] (wB r):=Zagz.fn h
def Z11(a0:Zj):LT Empty Bool:=
.lb 1001<|.call (Zcg a0.Kind 3) fun x1=>.cs x1 (.k3 0<|.call (Zcg a0.N 1000000) fun x4=>.kg 0<|.cs x4 (.k4 1<|.cs (a0.Kind != 0) (.k3 2<|.kg 1<|.kg 2<|.kg 1<|.rt true)<|.k3 2<|.kg 1<|.kg 2<|.kg 1<|.rt (a0.N==0))<|.k5 1<|.kg 1<|.rt false)<|.k4 0<|.b5 false<|.kb false<|.rt false
def Z12:LF Empty Bool := .z0 221 [.t 2] wB
def Zvp:=fun a0=>Z12.run (Z11 a0)
theorem Zpv(a0){r}(h:Zvp a0=some r):Fn PR 221 [wA (Zcf a0)] (wB r):=Z12.fn h
inductive Zwr where
 | L0 (E0:Zm)
def Zoi(E0:Zm):LT Zwr Bool:=
.call (Zpv E0.Power) fun x1=>.cs x1 (.k3 0<|.call (Zpv E0.Tough) fun x4=>.kg 0<|.cs x4 (.k3 1<|.call (Zpv E0.Value) fun x7=>.kg 1<|.rt x7)<|.k4 1<|.rt false)<|.k4 0<|.b4 false<|.rt false
def Zam9(a0:Zm):LT Zwr Bool:=
.lb 1001<|.call (Zcg a0.Zone 5) fun x1=>.cs (!x1) (.k5 0<|.b8 true<|.b5 true<|.b2 true<|.kn [0]<|.rt false)<|.k3 0<|.call (Zcg a0.Who 2) fun x4=>.k2 0<|.cs (!x4) (.k5 1<|.b8 true<|.b2 true<|.kn [0]<|.rt false)<|.k3 1<|.call (Zcg a0.Self 2) fun x7=>.k2 1<|.cs (!x7) (.k5 2<|.b5 true<|.kn [0]<|.rt false)<|.k3 2<|.call (Zcg a0.Tap 2) fun x10=>.k2 2<|.cs (!x10) (.k5 3<|.kn [0]<|.rt false)<|.k3 3<|.call (Zcg a0.Keys 131071) fun x13=>.k2 3<|.br (!x13) (.rt false)<|.call (Zcg a0.Types 63) fun x16=>.cs (!x16) (.k5 5<|.b5 true<|.b2 true<|.kn [0]<|.rt false)<|.k3 5<|.call (Zcg a0.NotTypes 63) fun x19=>.k2 5<|.cs (!x19) (.k5 6<|.k2 6<|.kn [0]<|.rt false)<|.k5 6<|.k2 6<|.br ((Zbl .and .i64 a0.Types a0.NotTypes) != 0) (.rt false)<|.call (Zcg a0.Colors 31) fun x23=>.cs (!x23) (.k5 8<|.b5 true<|.b2 true<|.kn [0]<|.rt false)<|.k3 8<|.call (Zcg a0.NotColors 31) fun x26=>.k2 8<|.cs (!x26) (.k5 9<|.k2 9<|.kn [0]<|.rt false)<|.k5 9<|.k2 9<|.br ((Zbl .and .i64 a0.Colors a0.NotColors) != 0) (.rt false)<|.cs (!(a0.Sub==([]:By))) (.k3 11<|.call (Za2p a0.Sub) fun x31=>.k2 11<|.br (!x31) (.rt false)<|.jn 0 (.L0 a0) [.relab 1001 3000] (Zoi a0))<|.k5 11<|.kn [0]<|.jn 0 (.L0 a0) [.relab 1001 3000] (Zoi a0)
def Zql:LF Zwr Bool := .m0 174 [.t 2] wB fun | .L0 E0=>([1,1,1,1,1],⟨89,[(1,.bptr 3000 0)],[(3000,.box (bx (Z0 E0)))]⟩,Zoi E0)
def Zag0:=fun a0=>Zql.run (Zam9 a0)
theorem Za78(a0){r}(h:Zag0 a0=some r):Fn PR 174 [wA (Z0 a0)] (wB r):=Zql.fn h
def Z13(a0:Int)(a1:Int)(a2:Int):LT Empty Bool:=
.cs (a1==0) (.k5 0<|.b5 true<|.rt ((Zbl .and .i64 a0 a2)==0))<|.k5 0<|.cs ((Zbl .and .i64 a0 a1) != 0) (.k5 1<|.rt ((Zbl .and .i64 a0 a2)==0))<|.k5 1<|.rt false
def Z14:LF Empty Bool := .z0 175 [.t 6] wB
def Zvq:=fun a0 a1 a2=>Z14.run (Z13 a0 a1 a2)
theorem Zz8(a0)(a1)(a2){r}(h:Zvq a0 a1 a2=some r):Fn PR 175 [wI a0,wI a1,wI a2] (wB r):=Z14.fn h
def Zana(a0:Zj)(a1:Int):LT Empty Bool:=
.lb 1002<|.br (a0.Kind==0) (.rt true)<|.br (a0.Kind==1) (.rt (decide (a1>=a0.N)))<|.br (a0.Kind==2) (.rt (decide (a1<=a0.N)))<|.br (a0.Kind==3) (.rt (a1==a0.N))<|.rt false
def Zanb:LF Empty Bool := .z0 177 [.t 4] wB
def Zag1:=fun a0 a1=>Zanb.run (Zana a0 a1)
theorem Zag2(a0)(a1){r}(h:Zag1 a0 a1=some r):Fn PR 177 [wA (Zcf a0),wI a1] (wB r):=Zanb.fn h
inductive Zc1 where
 | L0 (v0:Bys) (v1:By) (v7:Int) (v8:Int)
def Zcw(v0:Bys)(v1:By)(v7:Int)(v8:Int):LT Zc1 Int:=
.br (decide (v8 < v7)) (.idx cS v0 v8 fun x2=>.br (v1==x2) (.rt v8)<|.g0 (.L0 v0 v1 v7 (IntKind.wrap .i64 (v8+1))))<|.rt (-1)
def Zjl(a0:Bys)(a1:By):LT Zc1 Int:=
.len cS a0<|.g0 (.L0 a0 a1 (a0.length:Int) 0)
def Zep:LF Zc1 Int := .m0 257 [.t 4] wI fun | .L0 v0 v1 v7 v8=>([1,0,1,4],⟨19,[(0,wL cS v0),(1,wS v1),(7,wI v7),(8,wI v8)],[]⟩,Zcw v0 v1 v7 v8)
def Zkf:=fun a0 a1=>Zep.run (Zjl a0 a1)
theorem Zrr(a0)(a1){r}(h:Zkf a0 a1=some r):Fn PR 257 [wL cS a0,wS a1] (wI r):=Zep.fn h
def Zih(a0:Bys)(a1:By):LT Empty Bool:=
.call (Zrr a0 a1) fun x1=>.rt (decide (x1>=0))
def Zii:LF Empty Bool := .z0 222 [.t 4] wB
def Zi9:=fun a0 a1=>Zii.run (Zih a0 a1)
theorem Zph(a0)(a1){r}(h:Zi9 a0 a1=some r):Fn PR 222 [wL cS a0,wS a1] (wB r):=Zii.fn h
def Zac0(a0:Zaf)(a1:By):LT Empty Bool:=
.lb 1002<|.call (Zph a0.Subs a1) fun x1=>.rt x1
def Zac1:LF Empty Bool := .z0 178 [.t 4] wB
def Z6c:=fun a0 a1=>Zac1.run (Zac0 a0 a1)
theorem Zayh(a0)(a1){r}(h:Z6c a0 a1=some r):Fn PR 178 [wA (Zfv a0),wS a1] (wB r):=Zac1.fn h
def Za2q(a0:Int)(a1:Int):LT Empty Bool:=
.rt ((Zbl .and .i64 a0 a1)==a1)
def Zac2:LF Empty Bool := .z0 179 [.t 4] wB
def Zanc:=fun a0 a1=>Zac2.run (Za2q a0 a1)
theorem Z8f(a0)(a1){r}(h:Zanc a0 a1=some r):Fn PR 179 [wI a0,wI a1] (wB r):=Zac2.fn h
inductive Zoj where
 | L0 (E0:Z2) (v6:A5 Int) (v7:Int)
def Zpi(E0:Z2)(v6:A5 Int)(v7:Int):LT Zoj Bool:=
.br (decide (v7 < 5)) (.idX (Zn.int .i64) (A5.list v6) v7 fun x2=>.cs (decide (x2 < 0)) (.k3 1<|.kn [0]<|.rt false)<|.k3 1<|.br (decide (x2 > 9)) (.rt false)<|.g0 (.L0 E0 v6 (IntKind.wrap .i64 (v7+1))))<|.cs (decide (E0.Generic>=0)) (.k4 1<|.cs (decide (E0.Generic<=99)) (.k4 2<|.cs (decide (E0.X>=0)) (.k4 3<|.rt (decide (E0.X<=2)))<|.k4 3<|.rt false)<|.k4 2<|.b4 false<|.rt false)<|.k4 1<|.b8 false<|.rt false
def Zag3(a0:Z2):LT Zoj Bool:=
.lb 1001<|.go (.L0 a0 a0.Color 0) [.relab 1001 3000]
def Zsg:LF Zoj Bool := .m0 223 [.t 2] wB fun | .L0 E0 v6 v7=>([1,0,1,4],⟨35,[(1,.bptr 3000 0),(6,wA ((cA5 (cI .i64)) v6)),(7,wI v7)],[(3000,.box (bx (Zav E0)))]⟩,Zpi E0 v6 v7)
def Zakq:=fun a0=>Zsg.run (Zag3 a0)
theorem Zaui(a0){r}(h:Zakq a0=some r):Fn PR 223 [wA (Zav a0)] (wB r):=Zsg.fn h
def Z6d(a0:Int):LT Empty Int:=
.rt (Zia (Zsy a0 (-1000000)) 1000000)
def Zand:LF Empty Int := .z0 87 [.t 2] wI
def Z4u:=fun a0=>Zand.run (Z6d a0)
theorem Zgp(a0){r}(h:Z4u a0=some r):Fn PR 87 [wI a0] (wI r):=Zand.fn h
def Zag4(a0:Int)(a1:Int):LT Empty Int:=
.call (Zgp a0) fun x1=>.call (Zgp a1) fun x3=>.call (Zgp (IntKind.wrap .i64 (x1*x3))) fun x7=>.rt x7
def Za07:LF Empty Int := .z0 36 [.t 4] wI
def Zakr:=fun a0 a1=>Za07.run (Zag4 a0 a1)
theorem Zauj(a0)(a1){r}(h:Zakr a0 a1=some r):Fn PR 36 [wI a0,wI a1] (wI r):=Za07.fn h
def Zag5(a0:Int)(a1:Int):LT Empty Int:=
.call (Zgp a0) fun x1=>.call (Zgp a1) fun x3=>.call (Zgp (IntKind.wrap .i64 (x1+x3))) fun x7=>.rt x7
def Za08:LF Empty Int := .z0 37 [.t 4] wI
def Zaks:=fun a0 a1=>Za08.run (Zag5 a0 a1)
theorem Zaa1(a0)(a1){r}(h:Zaks a0 a1=some r):Fn PR 37 [wI a0,wI a1] (wI r):=Za08.fn h
inductive Z15 where
 | L0 (v1:Int) (E0:Z2) (v5:Int) (v14:A5 Int) (v15:Int)
def Zmi(v1:Int)(E0:Z2)(v5:Int)(v14:A5 Int)(v15:Int):LT Z15 Int:=
.br (decide (v15 < 5)) (.idX (Zn.int .i64) (A5.list v14) v15 fun x2=>.g0 (.L0 v1 E0 (IntKind.wrap .i64 (v5+x2)) v14 (IntKind.wrap .i64 (v15+1))))<|.call (Zauj E0.X (Zsy 0 v1)) fun x8=>.call (Zaa1 v5 x8) fun x10=>.rt x10
def Zag6(a0:Z2)(a1:Int):LT Z15 Int:=
.lb 1002<|.call (Zaui a0) fun x1=>.br (!x1) (.rt 0)<|.go (.L0 a1 a0 a0.Generic a0.Color 0) [.relab 1002 3000]
def Ztn:LF Z15 Int := .m0 180 [.t 4] wI fun | .L0 v1 E0 v5 v14 v15=>([1,1,1,0,1,4],⟨29,[(1,wI v1),(2,.bptr 3000 0),(5,wI v5),(14,wA ((cA5 (cI .i64)) v14)),(15,wI v15)],[(3000,.box (bx (Zav E0)))]⟩,Zmi v1 E0 v5 v14 v15)
def Zaa2:=fun a0 a1=>Ztn.run (Zag6 a0 a1)
theorem Za2r(a0)(a1){r}(h:Zaa2 a0 a1=some r):Fn PR 180 [wA (Zav a0),wI a1] (wI r):=Ztn.fn h
def Zsh(a0:Zj)(a1:Int)(b0:Bool):LT Empty Bool:=
.lb 1003<|.cs (a0.Kind==0) (.k4 0<|.rt true)<|.k2 0<|.cs b0 (.k3 1<|.call (Zag2 a0 a1) fun x3=>.kg 0<|.kg 1<|.kg 0<|.rt x3)<|.k3 1<|.kg 0<|.kg 1<|.kg 0<|.rt false
def Zsi(b0:Bool):LF Empty Bool := .z 176 [.t 5] true (fun r=>[(0,.box (bx (cB b0)))]) (fun r=>(wB r))
def Znf(a0:Zj)(a1:Int)(b0:Bool):Option Bool:=(Zsi b0).run (Zsh a0 a1 b0)
theorem Zpp(a0:Zj)(a1:Int)(b0:Bool){r:Bool}(h:Znf a0 a1 b0=some r):FnG PR 176 [(0,.box (bx (cB b0)))] [wA (Zcf a0),wI a1,.bptr 0 0] [(0,.box (bx (cB b0)))] (wB r):=(Zsi b0).fn h
inductive Zhd where
 | L0 (v3:Int) (E0:Zc) (E1:Zb) (E2:Zm) (E3:Bool) (v30:Bool)
 | L1 (E0:Zc) (E1:Zb) (E2:Zm) (E3:Bool) (v49:Bool)
 | L2 (E0:Zc) (E1:Zb) (E2:Zm) (E3:Bool) (v68:Bool)
 | L3 (E0:Zc) (E1:Zb) (E2:Zm) (E3:Bool) (v88:Bool)
 | L4 (E0:Zb) (E1:Zm) (E2:Bool)
def Zgq(E0:Zb)(E1:Zm)(E2:Bool):LT Zhd Bool:=
.callO (Zpp E1.Power E0.Power E2) [3002] 1280000 (fun x=>[]) fun x1=>.cs x1 (.k5 0<|.kg 0<|.callO (Zpp E1.Tough E0.Tough E2) [3002] 1350000 (fun x=>[]) fun x4=>.kg 0<|.cs x4 (.k5 1<|.call (Za2r E0.Cost 0) fun x7=>.kg 1<|.call (Zag2 E1.Value x7) fun x9=>.kg 1<|.rt x9)<|.k5 1<|.k2 1<|.rt false)<|.k5 0<|.k2 0<|.b5 false<|.b2 false<|.rt false
def Zh7(E0:Zc)(E1:Zb)(E2:Zm)(E3:Bool)(v88:Bool):LT Zhd Bool:=
.br v88 (.rt false)<|.cs (E2.Tap==1) (.k4 1<|.br (!E0.Tapped) (.kn [3]<|.rt false)<|.cs (E2.Tap==2) (.k3 3<|.br E0.Tapped (.rt false)<|.jn 0 (.L4 E1 E2 E3) (tm15 3000) (Zgq E1 E2 E3))<|.k3 3<|.kn [0]<|.jn 0 (.L4 E1 E2 E3) (tm15 3000) (Zgq E1 E2 E3))<|.k4 1<|.kn [0]<|.cs (E2.Tap==2) (.k3 2<|.br E0.Tapped (.rt false)<|.jn 0 (.L4 E1 E2 E3) (tm15 3000) (Zgq E1 E2 E3))<|.k3 2<|.kn [0]<|.jn 0 (.L4 E1 E2 E3) (tm15 3000) (Zgq E1 E2 E3)
def Zj2(E0:Zc)(E1:Zb)(E2:Zm)(E3:Bool)(v68:Bool):LT Zhd Bool:=
.br v68 (.rt false)<|.cs (!(E2.Sub==([]:By))) (.k5 1<|.call (Zayh E1.Line E2.Sub) fun x3=>.k2 1<|.br (!x3) (.j0 (.L3 E0 E1 E2 E3 (!x3)) (Zh7 E0 E1 E2 E3 (!x3)))<|.call (Z8f E1.Keys E2.Keys) fun x6=>.j0 (.L3 E0 E1 E2 E3 (!x6)) (Zh7 E0 E1 E2 E3 (!x6)))<|.k5 1<|.k2 1<|.kn [0]<|.call (Z8f E1.Keys E2.Keys) fun x8=>.j0 (.L3 E0 E1 E2 E3 (!x8)) (Zh7 E0 E1 E2 E3 (!x8))
def Zfn(E0:Zc)(E1:Zb)(E2:Zm)(E3:Bool)(v49:Bool):LT Zhd Bool:=
.br v49 (.rt false)<|.call (Zz8 E1.Line.Types E2.Types E2.NotTypes) fun x2=>.br (!x2) (.j0 (.L2 E0 E1 E2 E3 (!x2)) (Zj2 E0 E1 E2 E3 (!x2)))<|.call (Zz8 E1.Colors E2.Colors E2.NotColors) fun x5=>.j0 (.L2 E0 E1 E2 E3 (!x5)) (Zj2 E0 E1 E2 E3 (!x5))
def Zcc(v3:Int)(E0:Zc)(E1:Zb)(E2:Zm)(E3:Bool)(v30:Bool):LT Zhd Bool:=
.br v30 (.rt false)<|.cs (E2.Self==1) (.k5 1<|.br (E0.Id != v3) (.j0 (.L1 E0 E1 E2 E3 (E0.Id != v3)) (Zfn E0 E1 E2 E3 (E0.Id != v3)))<|.cs (E2.Self==2) (.k5 3<|.j0 (.L1 E0 E1 E2 E3 (E0.Id==v3)) (Zfn E0 E1 E2 E3 (E0.Id==v3)))<|.k5 3<|.j0 (.L1 E0 E1 E2 E3 false) (Zfn E0 E1 E2 E3 false))<|.k5 1<|.kn [0]<|.cs (E2.Self==2) (.k5 2<|.j0 (.L1 E0 E1 E2 E3 (E0.Id==v3)) (Zfn E0 E1 E2 E3 (E0.Id==v3)))<|.k5 2<|.j0 (.L1 E0 E1 E2 E3 false) (Zfn E0 E1 E2 E3 false)
def Z8g(a0:Zc)(a1:Zb)(a2:Int)(a3:Int)(a4:Zm):LT Zhd Bool:=
.lb 1005<|.lb 1006<|.lb 1009<|.call (Za78 a4) fun x1=>.cs (!x1) (.k5 0<|.kg 0<|.kn [0]<|.rt false)<|.k5 0<|.kg 0<|.br (a0.Zone != a4.Zone) (.rt false)<|.lb 1011<|.cs (a4.Who==1) (.k5 2<|.br (a1.Control != a2) (.jn 0 (.L0 a3 a0 a1 a4 ((Zbl .and .i64 a1.Line.Types 1) != 0) (a1.Control != a2)) (tm18 1000 3000) (Zcc a3 a0 a1 a4 ((Zbl .and .i64 a1.Line.Types 1) != 0) (a1.Control != a2)))<|.cs (a4.Who==2) (.k5 4<|.jn 0 (.L0 a3 a0 a1 a4 ((Zbl .and .i64 a1.Line.Types 1) != 0) (a1.Control==a2)) (tm18 1000 3000) (Zcc a3 a0 a1 a4 ((Zbl .and .i64 a1.Line.Types 1) != 0) (a1.Control==a2)))<|.k5 4<|.jn 0 (.L0 a3 a0 a1 a4 ((Zbl .and .i64 a1.Line.Types 1) != 0) false) (tm18 1000 3000) (Zcc a3 a0 a1 a4 ((Zbl .and .i64 a1.Line.Types 1) != 0) false))<|.k5 2<|.kn [0]<|.cs (a4.Who==2) (.k5 3<|.jn 0 (.L0 a3 a0 a1 a4 ((Zbl .and .i64 a1.Line.Types 1) != 0) (a1.Control==a2)) (tm18 1000 3000) (Zcc a3 a0 a1 a4 ((Zbl .and .i64 a1.Line.Types 1) != 0) (a1.Control==a2)))<|.k5 3<|.jn 0 (.L0 a3 a0 a1 a4 ((Zbl .and .i64 a1.Line.Types 1) != 0) false) (tm18 1000 3000) (Zcc a3 a0 a1 a4 ((Zbl .and .i64 a1.Line.Types 1) != 0) false)
def Zhe:LF Zhd Bool := .m0 134 [.t 10] wB fun | .L0 v3 E0 E1 E2 E3 v30=>([1,1,1,1,1,0,4,1],⟨144,[(3,wI v3),(5,.bptr 3000 0),(6,.bptr 3001 0),(9,.bptr 3002 0),(12,.fn 175 []),(13,.fn 176 [.bptr 3003 0]),(30,wB v30)],[(3000,.box (bx (Zi E0))),(3001,.box (bx (Zp E1))),(3002,.box (bx (Z0 E2))),(3003,.box (bx (cB E3)))]⟩,Zcc v3 E0 E1 E2 E3 v30) | .L1 E0 E1 E2 E3 v49=>([1,1,1,1,1,0,4,1,3,1],⟨144,[(5,.bptr 3000 0),(6,.bptr 3001 0),(9,.bptr 3002 0),(12,.fn 175 []),(13,.fn 176 [.bptr 3003 0]),(49,wB v49)],[(3000,.box (bx (Zi E0))),(3001,.box (bx (Zp E1))),(3002,.box (bx (Z0 E2))),(3003,.box (bx (cB E3)))]⟩,Zfn E0 E1 E2 E3 v49) | .L2 E0 E1 E2 E3 v68=>([1,1,1,1,1,0,4,1,3,1,3,1],⟨144,[(5,.bptr 3000 0),(6,.bptr 3001 0),(9,.bptr 3002 0),(13,.fn 176 [.bptr 3003 0]),(68,wB v68)],[(3000,.box (bx (Zi E0))),(3001,.box (bx (Zp E1))),(3002,.box (bx (Z0 E2))),(3003,.box (bx (cB E3)))]⟩,Zj2 E0 E1 E2 E3 v68) | .L3 E0 E1 E2 E3 v88=>([1,1,1,1,1,0,4,1,3,1,3,1,3,1],⟨144,[(5,.bptr 3000 0),(6,.bptr 3001 0),(9,.bptr 3002 0),(13,.fn 176 [.bptr 3003 0]),(88,wB v88)],[(3000,.box (bx (Zi E0))),(3001,.box (bx (Zp E1))),(3002,.box (bx (Z0 E2))),(3003,.box (bx (cB E3)))]⟩,Zh7 E0 E1 E2 E3 v88) | .L4 E0 E1 E2=>([1,1,1,1,1,1],⟨144,[(6,.bptr 3000 0),(9,.bptr 3001 0),(13,.fn 176 [.bptr 3002 0])],[(3000,.box (bx (Zp E0))),(3001,.box (bx (Z0 E1))),(3002,.box (bx (cB E2)))]⟩,Zgq E0 E1 E2)
def Zto:=fun a0 a1 a2 a3 a4=>Zhe.run (Z8g a0 a1 a2 a3 a4)
theorem Zauk(a0)(a1)(a2)(a3)(a4){r}(h:Zto a0 a1 a2 a3 a4=some r):Fn PR 134 [wA (Zi a0),wA (Zp a1),wI a2,wI a3,wA (Z0 a4)] (wB r):=Zhe.fn h
def Z8h(a0:Za)(a1:Int)(a2:Int)(a3:Int):LT Empty Bool:=
.lb 1004<|.cs (decide (a1 < 0)) (.k5 0<|.kg 0<|.b5 true<|.b2 true<|.kn [0]<|.rt false)<|.k4 0<|.len Zq a0.Players<|.k2 0<|.cs (decide (a1>=(a0.Players.length:Int))) (.k5 1<|.k2 1<|.kn [0]<|.rt false)<|.k4 1<|.idx Zq a0.Players a1 fun x4=>.k3 1<|.br x4.Lost (.rt false)<|.br (a3==0) (.rt true)<|.br (a3==1) (.rt (a1==a2))<|.cs (a3==2) (.k4 5<|.rt (a1 != a2))<|.k4 5<|.rt false
def Z8i:LF Empty Bool := .z0 136 [.t 8] wB
def Zag7:=fun a0 a1 a2 a3=>Z8i.run (Z8h a0 a1 a2 a3)
theorem Zaul(a0)(a1)(a2)(a3){r}(h:Zag7 a0 a1 a2 a3=some r):Fn PR 136 [wA (Zo a0),wI a1,wI a2,wI a3] (wB r):=Z8i.fn h
inductive Zmj where
 | L0 (v3:Int) (v16:A5 Int) (v17:Int)
def Z8j(v3:Int)(v16:A5 Int)(v17:Int):LT Zmj Int:=
.br (decide (v17 < 5)) (.idX (Zn.int .i64) (A5.list v16) v17 fun x2=>.br (decide (x2 > 0)) (.ok (¬ v17 < 0)<|.g0 (.L0 (Zbl .or .i64 v3 (Z1c .i64 1 v17)) v16 (IntKind.wrap .i64 (v17+1))))<|.g0 (.L0 v3 v16 (IntKind.wrap .i64 (v17+1))))<|.rt v3
def Zac3(a0:Z2):LT Zmj Int:=
.lb 1001<|.call (Zaui a0) fun x1=>.cs (!x1) (.k5 0<|.kn [0]<|.rt 0)<|.k5 0<|.br (Zah ((cA5 (cI .i64)) a0.Color) ((cA5 (cI .i64)) (⟨0,0,0,0,0⟩:A5 Int))) (.rt 0)<|.g0 (.L0 0 a0.Color 0)
def Zyv:LF Zmj Int := .m0 224 [.t 2] wI fun | .L0 v3 v16 v17=>([1,1,1,0,1,4],⟨29,[(3,wI v3),(16,wA ((cA5 (cI .i64)) v16)),(17,wI v17)],[]⟩,Z8j v3 v16 v17)
def Zane:=fun a0=>Zyv.run (Zac3 a0)
theorem Zayi(a0){r}(h:Zane a0=some r):Fn PR 224 [wA (Zav a0)] (wI r):=Zyv.fn h
def Zga(a0:Bys)(hne:a0≠[]):LT Empty (Bys):=
.ne cS hne<|.kn [0]<|.lb 1005<|.apR cS 16 ([]:Bys) a0 fun x1=>.ret x1 [.relab 1005 5000]
def Zbu:LF Empty (Bys) := .z 225 [.t 2] true (fun r=>[(5000,wR cS 1 r)]) (fun r=>(wO cS 5000 r))
def Zeb(c:Nat):LT Empty (Bys):=
.kn [0]<|.ret ([]:Bys) [.own 2 5000 1]
def Zrs(c:Nat)(ad:Addr):LT Empty (Bys):=
.kn [0]<|.lb 1005<|.apR cS 16 ([]:Bys) ([]:Bys) fun x1=>.ret x1 [.relab 1005 5000]
open Classical in
def Zez(a0:Bys):Option (Bys):=if h:a0≠[] then Zbu.run (Zga a0 h) else Zbu.run (Zeb 0)
theorem Zqm(a0:Bys){r:Bys}(h:Zez a0=some r):FnG PR 225 [] [wL cS a0] [(5000,wR cS 1 r)] (wO cS 5000 r):=by
 by_cases hne:a0=[]
 .subst hne
  have h0:Zbu.run (Zeb 0)=some r:=h
  exact FnG.split0 (fun e=>absurd rfl e) (fun _ a c=>by
   cases a with
   | none=>exact Zbu.fn (t:=Zeb c) h0
   | some ad=>exact Zbu.fn (t:=Zrs c ad) h0)
 .have h0:Zbu.run (Zga a0 hne)=some r:=by unfold Zez at h;rwa [dif_pos hne] at h
  exact FnG.split0 (fun _=>Zbu.fn h0) (fun e=>absurd (by simpa using e) hne)
def Zfs(a0:List Zv)(hne:a0≠[]):LT Empty (List Zv):=
.ne Zu hne<|.kn [0]<|.lb 1005<|.apR Zu 176 ([]:List Zv) a0 fun x1=>.ret x1 [.relab 1005 5000]
def Zbr:LF Empty (List Zv) := .z 84 [.t 2] true (fun r=>[(5000,wR Zu 20 r)]) (fun r=>(wO Zu 5000 r))
def Zdx(c:Nat):LT Empty (List Zv):=
.kn [0]<|.ret ([]:List Zv) [.own 2 5000 20]
def Zpw(c:Nat)(ad:Addr):LT Empty (List Zv):=
.kn [0]<|.lb 1005<|.apR Zu 176 ([]:List Zv) ([]:List Zv) fun x1=>.ret x1 [.relab 1005 5000]
open Classical in
def Zc2(a0:List Zv):Option (List Zv):=if h:a0≠[] then Zbr.run (Zfs a0 h) else Zbr.run (Zdx 0)
theorem Ze7(a0:List Zv){r:List Zv}(h:Zc2 a0=some r):FnG PR 84 [] [wL Zu a0] [(5000,wR Zu 20 r)] (wO Zu 5000 r):=by
 by_cases hne:a0=[]
 .subst hne
  have h0:Zbr.run (Zdx 0)=some r:=h
  exact FnG.split0 (fun e=>absurd rfl e) (fun _ a c=>by
   cases a with
   | none=>exact Zbr.fn (t:=Zdx c) h0
   | some ad=>exact Zbr.fn (t:=Zpw c ad) h0)
 .have h0:Zbr.run (Zfs a0 hne)=some r:=by unfold Zc2 at h;rwa [dif_pos hne] at h
  exact FnG.split0 (fun _=>Zbr.fn h0) (fun e=>absurd (by simpa using e) hne)
theorem Zfg(a0:List Zv){r:List Zv}(h:Zc2 a0=some r):Fn PR 84 [wL Zu a0] (wL Zu r):=
 FnG.frozen (C:=LT.RL Zu r/\True) (Ze7 a0 h) ⟨rfl,trivial⟩ (by kernel_rfl)
def Ze8(a0:List Za9)(hne:a0≠[]):LT Empty (List Za9):=
.ne Zao hne<|.kn [0]<|.lb 1005<|.apR Zao 144 ([]:List Za9) a0 fun x1=>.ret x1 [.relab 1005 5000]
def Zbn:LF Empty (List Za9) := .z 138 [.t 2] true (fun r=>[(5000,wR Zao 18 r)]) (fun r=>(wO Zao 5000 r))
def Zdh(c:Nat):LT Empty (List Za9):=
.kn [0]<|.ret ([]:List Za9) [.own 2 5000 18]
def Zok(c:Nat)(ad:Addr):LT Empty (List Za9):=
.kn [0]<|.lb 1005<|.apR Zao 144 ([]:List Za9) ([]:List Za9) fun x1=>.ret x1 [.relab 1005 5000]
open Classical in
def Zd3(a0:List Za9):Option (List Za9):=if h:a0≠[] then Zbn.run (Ze8 a0 h) else Zbn.run (Zdh 0)
theorem Zhj(a0:List Za9){r:List Za9}(h:Zd3 a0=some r):FnG PR 138 [] [wL Zao a0] [(5000,wR Zao 18 r)] (wO Zao 5000 r):=by
 by_cases hne:a0=[]
 .subst hne
  have h0:Zbn.run (Zdh 0)=some r:=h
  exact FnG.split0 (fun e=>absurd rfl e) (fun _ a c=>by
   cases a with
   | none=>exact Zbn.fn (t:=Zdh c) h0
   | some ad=>exact Zbn.fn (t:=Zok c ad) h0)
 .have h0:Zbn.run (Ze8 a0 hne)=some r:=by unfold Zd3 at h;rwa [dif_pos hne] at h
  exact FnG.split0 (fun _=>Zbn.fn h0) (fun e=>absurd (by simpa using e) hne)
def Zeh(a0:List Z6)(hne:a0≠[]):LT Empty (List Z6):=
.ne Zz hne<|.kn [0]<|.lb 1005<|.apR Zz 560 ([]:List Z6) a0 fun x1=>.ret x1 [.relab 1005 5000]
def Zbf:LF Empty (List Z6) := .z 139 [.t 2] true (fun r=>[(5000,wR Zz 64 r)]) (fun r=>(wO Zz 5000 r))
def Zcl(c:Nat):LT Empty (List Z6):=
.kn [0]<|.ret ([]:List Z6) [.own 2 5000 64]
def Zly(c:Nat)(ad:Addr):LT Empty (List Z6):=
.kn [0]<|.lb 1005<|.apR Zz 560 ([]:List Z6) ([]:List Z6) fun x1=>.ret x1 [.relab 1005 5000]
open Classical in
def Zc3(a0:List Z6):Option (List Z6):=if h:a0≠[] then Zbf.run (Zeh a0 h) else Zbf.run (Zcl 0)
theorem Zgd(a0:List Z6){r:List Z6}(h:Zc3 a0=some r):FnG PR 139 [] [wL Zz a0] [(5000,wR Zz 64 r)] (wO Zz 5000 r):=by
 by_cases hne:a0=[]
 .subst hne
  have h0:Zbf.run (Zcl 0)=some r:=h
  exact FnG.split0 (fun e=>absurd rfl e) (fun _ a c=>by
   cases a with
   | none=>exact Zbf.fn (t:=Zcl c) h0
   | some ad=>exact Zbf.fn (t:=Zly c ad) h0)
 .have h0:Zbf.run (Zeh a0 hne)=some r:=by unfold Zc3 at h;rwa [dif_pos hne] at h
  exact FnG.split0 (fun _=>Zbf.fn h0) (fun e=>absurd (by simpa using e) hne)
inductive Zhv where
 | L0 (E0:Zh) (E1:Zh) (v18:Int) (v19:Int)
def Zu3(E0:Zh)(E1:Zh)(v18:Int)(v19:Int):LT Zhv Zh:=
.br (decide (v19 < v18)) (.idxR Zz E0.Effects v19 fun x2=>.rl Zz E0.Effects<|.ldR Zz E0.Effects x2 2<|.call (Zfg x2.Mods) fun x4=>.plR Zz E0.Effects v19 0<|.rl Zz E0.Effects<|.setR Zz E0.Effects v19 x2 (⟨x2.Op,x2.Ref,x2.Amount,x2.Counter,x2.Zone,x2.Card,x2.Filter,x2.Pool,x4⟩:Z6) 2 63 [.sl (List.map Zu x4)] rfl fun x6=>.dr [.ahead 34,.relen 40049,.stop]<|.us [3]<|.us [3]<|.us [3]<|.us [3]<|.us [3]<|.us [3]<|.us [3]<|.g0 (.L0 (⟨E0.Kind,E0.Filter,E0.Mods,E0.Price,E0.Slow,E0.Trigger,E0.May,E0.Specs,x6,E0.Replace⟩:Zh) E1 v18 (IntKind.wrap .i64 (v19+1))))<|.ret E0 (tm24 40000 5000)
def Zxu(a0:Zh):LT Zhv Zh:=
.lb 1001<|.lb 1002<|.callF (Ze7 a0.Mods) 70000 fun x1=>.callF (Zhj a0.Specs) 110000 fun x3=>.callF (Zgd a0.Effects) 150000 fun x5=>.lenO Zz x5<|.go (.L0 (⟨a0.Kind,a0.Filter,x1,a0.Price,a0.Slow,a0.Trigger,a0.May,x3,x5,a0.Replace⟩:Zh) (⟨0,(⟨0,0,0,0,0,0,0,([]:By),0,0,(⟨0,0⟩:Zj),(⟨0,0⟩:Zj),(⟨0,0⟩:Zj)⟩:Zm),([]:List Zv),(⟨(⟨0,0,(⟨0,0,0,0,0⟩:A5 Int)⟩:Z2),false,false,0⟩:Ze0),false,(⟨0,0,(⟨0,0,0,0,0,0,0,([]:By),0,0,(⟨0,0⟩:Zj),(⟨0,0⟩:Zj),(⟨0,0⟩:Zj)⟩:Zm)⟩:Zb4),false,([]:List Za9),([]:List Z6),(⟨0,0,(⟨0,0,0,0,0,0,0,([]:By),0,0,(⟨0,0⟩:Zj),(⟨0,0⟩:Zj),(⟨0,0⟩:Zj)⟩:Zm),0,0,0,0⟩:Z4)⟩:Zh) (x5.length:Int) 0) [.relab 1001 3000,.relab 1002 3001,.relab 75000 40017,.relab 115000 40048,.relab 155000 40049,.ownb 3001 17 40117 20,.ownb 3001 48 40148 18,.ownb 3001 49 40149 64]
def Zol:LF Zhv Zh := .m 226 [.c 2 88 true 72] true (fun r=>(Zyn r 5000)) (fun r=>(.agg (tm0 r 5000))) fun | .L0 E0 E1 v18 v19=>([1,1,1,1,0,1,4],⟨36,[(1,.bptr 3000 0),(2,.bptr 3001 0),(18,wI v18),(19,wI v19)],((3000,.box (tm0 E0 40000))::(40017,wR Zu 20 E0.Mods)::(40048,wR Zao 18 E0.Specs)::(40049,wR Zz 64 E0.Effects)::(3001,.box (tm0 E1 40100))::(Zyn E1 40100))⟩,Zu3 E0 E1 v18 v19)
def Zrt:=fun a0=>Zol.run (Zxu a0)
theorem Zaa3(a0){r}(h:Zrt a0=some r):FnG PR 226 [] [wA (Zr a0)] (Zyn r 5000) (.agg (tm0 r 5000)):=Zol.fn h
theorem Zaem(a0:Zh){r:Zh}(h:Zrt a0=some r):Fn PR 226 [wA (Zr a0)] (wA (Zr r)):=
 FnG.frozen (C:=LT.RL Zu r.Mods/\LT.RL Zao r.Specs/\LT.RL Zz r.Effects/\True) (Zaa3 a0 h) ⟨rfl,rfl,rfl,trivial⟩ (by kernel_rfl)
inductive Zkt where
 | L0 (E0:Zb) (E1:Zb) (v32:List Zh) (v33:Int) (v34:Int)
def Z4v(E0:Zb)(E1:Zb)(v32:List Zh)(v33:Int)(v34:Int):LT Zkt Zb:=
.br (decide (v34 < v33)) (.idx Zr v32 v34 fun x2=>.lb 1005<|.call (Zaem x2) fun x4=>.dr [.lit]<|.apR Zr 640 E1.Abilities [x4] fun x6=>.g0 (.L0 E0 (⟨E1.Name,E1.Cost,E1.Colors,E1.Line,E1.Power,E1.Tough,E1.Keys,x6,E1.Control⟩:Zb) v32 v33 (IntKind.wrap .i64 (v34+1))))<|.ret E1 [.relab 40111 5011,.relab 40115 5015]
def Z8k(a0:Zg):LT Zkt Zb:=
.lb 1001<|.lb 1002<|.call (Zayi a0.Cost) fun x1=>.lb 1003<|.callF (Zqm a0.Line.Subs) 290000 fun x3=>.len Zr a0.Abilities<|.go (.L0 (⟨([]:By),(⟨0,0,(⟨0,0,0,0,0⟩:A5 Int)⟩:Z2),0,(⟨0,0,([]:Bys)⟩:Zaf),0,0,0,([]:List Zh),0⟩:Zb) (⟨a0.Name,a0.Cost,Zbl .or .i64 x1 a0.Color,(⟨a0.Line.Super,a0.Line.Types,x3⟩:Zaf),a0.Power,a0.Tough,a0.Keys,([]:List Zh),0⟩:Zb) a0.Abilities (a0.Abilities.length:Int) 0) [.relab 1002 3000,.relab 1003 3001,.ownb 3000 11 40011 1,.ownb 3000 15 40015 72,.relab 295000 40111,.ownb 3001 15 40115 72]
def Zvr:LF Zkt Zb := .m 181 [.c 2 72 true 17] true (fun r=>[(5011,wR cS 1 r.Line.Subs),(5015,wR Zr 72 r.Abilities)]) (fun r=>(.agg (tm2 r 5000))) fun | .L0 E0 E1 v32 v33 v34=>([1,1,1,0,1,4],⟨47,[(2,.bptr 3000 0),(3,.bptr 3001 0),(32,wL Zr v32),(33,wI v33),(34,wI v34)],[(3000,.box (tm2 E0 40000)),(40011,wR cS 1 E0.Line.Subs),(40015,wR Zr 72 E0.Abilities),(3001,.box (tm2 E1 40100)),(40111,wR cS 1 E1.Line.Subs),(40115,wR Zr 72 E1.Abilities)]⟩,Z4v E0 E1 v32 v33 v34)
def Zag8:=fun a0=>Zvr.run (Z8k a0)
theorem Zapz(a0){r}(h:Zag8 a0=some r):FnG PR 181 [] [wA (Zs a0)] [(5011,wR cS 1 r.Line.Subs),(5015,wR Zr 72 r.Abilities)] (.agg (tm2 r 5000)):=Zvr.fn h
inductive Zsj where
 | L0 (v0:List Zg) (E0:Zc) (E1:Zb) (v5:Int)
 | L1 (E0:Zc) (E1:Zb) (E2:Zb)
def Zpj(E0:Zc)(E1:Zb)(E2:Zb):LT Zsj Zb:=
.cs (E0.Zone==0) (.k4 0<|.kn [0]<|.ret (⟨E2.Name,E2.Cost,E2.Colors,E2.Line,E2.Power,E2.Tough,E2.Keys,E2.Abilities,E0.Control⟩:Zb) [.relab 40211 5011,.relab 40215 5015])<|.k4 0<|.br (E0.Zone==5) (.ret (⟨E2.Name,E2.Cost,E2.Colors,E2.Line,E2.Power,E2.Tough,E2.Keys,E2.Abilities,E0.Control⟩:Zb) [.relab 40211 5011,.relab 40215 5015])<|.ret (⟨E2.Name,E2.Cost,E2.Colors,E2.Line,E2.Power,E2.Tough,E2.Keys,E2.Abilities,E0.Owner⟩:Zb) [.relab 40211 5011,.relab 40215 5015]
def Ztp(v0:List Zg)(E0:Zc)(E1:Zb)(v5:Int):LT Zsj Zb:=
.lb 1006<|.cs (decide (v5>=0)) (.k3 0<|.len Zs v0<|.k2 0<|.br (decide (v5 < (v0.length:Int))) (.idx Zs v0 v5 fun x4=>.callF (Zapz x4) 270000 fun x6=>.jn 0 (.L1 E0 E1 x6) [.relab 1006 3002,.relab 275011 40211,.relab 275015 40215] (Zpj E0 E1 x6))<|.jn 0 (.L1 E0 E1 (⟨([]:By),(⟨0,0,(⟨0,0,0,0,0⟩:A5 Int)⟩:Z2),0,(⟨0,0,([]:Bys)⟩:Zaf),0,0,0,([]:List Zh),0⟩:Zb)) (tm25 1000 3000 40200) (Zpj E0 E1 (⟨([]:By),(⟨0,0,(⟨0,0,0,0,0⟩:A5 Int)⟩:Z2),0,(⟨0,0,([]:Bys)⟩:Zaf),0,0,0,([]:List Zh),0⟩:Zb)))<|.k5 0<|.kn [0]<|.jn 0 (.L1 E0 E1 (⟨([]:By),(⟨0,0,(⟨0,0,0,0,0⟩:A5 Int)⟩:Z2),0,(⟨0,0,([]:Bys)⟩:Zaf),0,0,0,([]:List Zh),0⟩:Zb)) (tm25 1000 3000 40200) (Zpj E0 E1 (⟨([]:By),(⟨0,0,(⟨0,0,0,0,0⟩:A5 Int)⟩:Z2),0,(⟨0,0,([]:Bys)⟩:Zaf),0,0,0,([]:List Zh),0⟩:Zb))
def Za09(a0:List Zg)(a1:Zc):LT Zsj Zb:=
.lb 1003<|.lb 1004<|.br (decide (a1.Copy < 0)) (.jn 0 (.L0 a0 a1 (⟨([]:By),(⟨0,0,(⟨0,0,0,0,0⟩:A5 Int)⟩:Z2),0,(⟨0,0,([]:Bys)⟩:Zaf),0,0,0,([]:List Zh),0⟩:Zb) a1.Card) (tm20 1000 3000 40100) (Ztp a0 a1 (⟨([]:By),(⟨0,0,(⟨0,0,0,0,0⟩:A5 Int)⟩:Z2),0,(⟨0,0,([]:Bys)⟩:Zaf),0,0,0,([]:List Zh),0⟩:Zb) a1.Card))<|.jn 0 (.L0 a0 a1 (⟨([]:By),(⟨0,0,(⟨0,0,0,0,0⟩:A5 Int)⟩:Z2),0,(⟨0,0,([]:Bys)⟩:Zaf),0,0,0,([]:List Zh),0⟩:Zb) a1.Copy) (tm20 1000 3000 40100) (Ztp a0 a1 (⟨([]:By),(⟨0,0,(⟨0,0,0,0,0⟩:A5 Int)⟩:Z2),0,(⟨0,0,([]:Bys)⟩:Zaf),0,0,0,([]:List Zh),0⟩:Zb) a1.Copy)
def Za1a:LF Zsj Zb := .m 137 [.c 4 72 true 17] true (fun r=>[(5011,wR cS 1 r.Line.Subs),(5015,wR Zr 72 r.Abilities)]) (fun r=>(.agg (tm2 r 5000))) fun | .L0 v0 E0 E1 v5=>([1,1,1],⟨42,[(0,wL Zs v0),(3,.bptr 3000 0),(4,.bptr 3001 0),(5,wI v5)],[(3000,.box (bx (Zi E0))),(3001,.box (tm2 E1 40100)),(40111,wR cS 1 E1.Line.Subs),(40115,wR Zr 72 E1.Abilities)]⟩,Ztp v0 E0 E1 v5) | .L1 E0 E1 E2=>([1,1,1,1,1],⟨42,[(3,.bptr 3000 0),(4,.bptr 3001 0),(6,.bptr 3002 0)],[(3000,.box (bx (Zi E0))),(3001,.box (tm2 E1 40100)),(40111,wR cS 1 E1.Line.Subs),(40115,wR Zr 72 E1.Abilities),(3002,.box (tm2 E2 40200)),(40211,wR cS 1 E2.Line.Subs),(40215,wR Zr 72 E2.Abilities)]⟩,Zpj E0 E1 E2)
def Zbcz:=fun a0 a1=>Za1a.run (Za09 a0 a1)
theorem Zbbm(a0)(a1){r}(h:Zbcz a0 a1=some r):FnG PR 137 [] [wL Zs a0,wA (Zi a1)] [(5011,wR cS 1 r.Line.Subs),(5015,wR Zr 72 r.Abilities)] (.agg (tm2 r 5000)):=Za1a.fn h
def Zxv(a0:List Zg)(a1:Za)(a2:Ze):LT Empty (Zc×Zb×Bool):=
.lb 1004<|.lb 1005<|.lb 1006<|.lb 1007<|.call (Zoh a1 a2.Object) fun x1=>.lb 1009<|.callF (Zbbm a0 x1.1) 220000 fun x3=>.lb 1011<|.ret ((⟨x1.1.Id,x1.1.Card,x1.1.Owner,a2.Player,0,x1.1.Token,x1.1.Tapped,x1.1.Sick,x1.1.Deadly,x1.1.Damage,x1.1.Counters,x1.1.Stamp,x1.1.Copy,x1.1.Attack,x1.1.Blocked,x1.1.Blocks,x1.1.Shield⟩:Zc),(⟨x3.Name,x3.Cost,x3.Colors,x3.Line,x3.Power,x3.Tough,x3.Keys,x3.Abilities,a2.Player⟩:Zb),x1.2) [.relab 225011 5111,.relab 225015 5115]
def Zxw:LF Empty (Zc×Zb×Bool) := .z 73 [.c 6 52 true 19,.c 7 72 true 17,.t 8] true (fun r=>[(5111,wR cS 1 r.2.1.Line.Subs),(5115,wR Zr 72 r.2.1.Abilities)]) (fun r=>(.tup [wA (Zi r.1),.agg (tm2 r.2.1 5100),wB r.2.2]))
def Zru:=fun a0 a1 a2=>Zxw.run (Zxv a0 a1 a2)
theorem Zaa4(a0)(a1)(a2){r}(h:Zru a0 a1 a2=some r):FnG PR 73 [] [wL Zs a0,wA (Zo a1),wA (Zy a2)] [(5111,wR cS 1 r.2.1.Line.Subs),(5115,wR Zr 72 r.2.1.Abilities)] (.tup [wA (Zi r.1),.agg (tm2 r.2.1 5100),wB r.2.2]):=Zxw.fn h
theorem Zng(a0:List Zg)(a1:Za)(a2:Ze){r:Zc×Zb×Bool}(h:Zru a0 a1 a2=some r):Fn PR 73 [wL Zs a0,wA (Zo a1),wA (Zy a2)] (.tup [wA (Zi r.1),wA (Zp r.2.1),wB r.2.2]):=
 FnG.frozen (C:=LT.RL cS r.2.1.Line.Subs/\LT.RL Zr r.2.1.Abilities/\True) (Zaa4 a0 a1 a2 h) ⟨rfl,rfl,trivial⟩ (by kernel_rfl)
def Zij(a0:Zc)(a1:Zb)(a2:Bool)(b0:Int)(b1:Int)(b2:Z4):LT Empty Bool:=
.lb 1006<|.lb 1007<|.cs a2 (.k5 0<|.k2 0<|.call (Zauk a0 a1 b0 b1 b2.Filter) fun x2=>.kg 0<|.rt x2)<|.k8 0<|.rt false
def Zik(b0:Int)(b1:Int)(b2:Z4):LF Empty Bool := .z 133 [.t 9] true (fun r=>[(0,.box (bx ((cI .i64) b0))),(1,.box (bx ((cI .i64) b1))),(2,.box (bx (Zat b2)))]) (fun r=>(wB r))
def Zja(a0:Zc)(a1:Zb)(a2:Bool)(b0:Int)(b1:Int)(b2:Z4):Option Bool:=(Zik b0 b1 b2).run (Zij a0 a1 a2 b0 b1 b2)
theorem Zdi(a0:Zc)(a1:Zb)(a2:Bool)(b0:Int)(b1:Int)(b2:Z4){r:Bool}(h:Zja a0 a1 a2 b0 b1 b2=some r):FnG PR 133 [(0,.box (bx ((cI .i64) b0))),(1,.box (bx ((cI .i64) b1))),(2,.box (bx (Zat b2)))] [wA (Zi a0),wA (Zp a1),wB a2,.bptr 0 0,.bptr 1 0,.bptr 2 0] [(0,.box (bx ((cI .i64) b0))),(1,.box (bx ((cI .i64) b1))),(2,.box (bx (Zat b2)))] (wB r):=(Zik b0 b1 b2).fn h
def Zg4(b0:Za)(b1:Ze)(b2:Int)(b3:Z4):LT Empty Bool:=
.call (Zaul b0 b1.Player b2 b3.Who) fun x1=>.rt x1
def Zg5(b0:Za)(b1:Ze)(b2:Int)(b3:Z4):LF Empty Bool := .z 135 [.t 4] true (fun r=>[(0,.box (bx (Zo b0))),(1,.box (bx (Zy b1))),(2,.box (bx ((cI .i64) b2))),(3,.box (bx (Zat b3)))]) (fun r=>(wB r))
def Zhk(b0:Za)(b1:Ze)(b2:Int)(b3:Z4):Option Bool:=(Zg5 b0 b1 b2 b3).run (Zg4 b0 b1 b2 b3)
theorem Zbv(b0:Za)(b1:Ze)(b2:Int)(b3:Z4){r:Bool}(h:Zhk b0 b1 b2 b3=some r):FnG PR 135 [(0,.box (bx (Zo b0))),(1,.box (bx (Zy b1))),(2,.box (bx ((cI .i64) b2))),(3,.box (bx (Zat b3)))] [.bptr 0 0,.bptr 1 0,.bptr 2 0,.bptr 3 0] [(0,.box (bx (Zo b0))),(1,.box (bx (Zy b1))),(2,.box (bx ((cI .i64) b2))),(3,.box (bx (Zat b3)))] (wB r):=(Zg5 b0 b1 b2 b3).fn h
def Zz9(a0:List Zg)(a1:Za)(a2:List Zb)(a3:Ze)(a4:Z4)(a5:Int)(a6:Int):LT Empty Bool:=
.lb 1008<|.lb 1010<|.lb 1011<|.lb 1012<|.lb 1013<|.br (a4.On != a3.Kind) (.rt false)<|.br (a3.Kind==1) (.br (a4.Who==0) (.cs (a3.Object != 0) (.k5 3<|.kg 3<|.call (Zh6 a1 a2 a3.Object) fun x5=>.k4 3<|.callO (Zdi x5.1 x5.2.1 x5.2.2 a5 a6 a4) [1012,1013,1011] 450000 (fun x=>[]) fun x7=>.kg 3<|.rt x7)<|.k8 3<|.k3 3<|.rt false)<|.cs (a3.Object==0) (.k2 3<|.callO (Zbv a1 a3 a5 a4) [1008,1010,1012,1011] 520000 (fun x=>[]) fun x10=>.kg 3<|.rt x10)<|.k3 3<|.rt false)<|.br (a3.Kind==2) (.br (a4.Do==5) (.cs (a3.From==0) (.k4 4<|.cs (a3.To==3) (.k5 5<|.kg 5<|.call (Zh6 a1 a2 a3.Object) fun x16=>.k4 5<|.callO (Zdi x16.1 x16.2.1 x16.2.2 a5 a6 a4) [1012,1013,1011] 770000 (fun x=>[]) fun x18=>.kg 5<|.rt x18)<|.k8 5<|.k3 5<|.rt false)<|.k4 4<|.b8 false<|.b3 false<|.rt false)<|.cs (a3.To==0) (.k5 4<|.call (Zng a0 a1 a3) fun x21=>.k4 4<|.callO (Zdi x21.1 x21.2.1 x21.2.2 a5 a6 a4) [1012,1013,1011] 910000 (fun x=>[]) fun x23=>.kg 4<|.rt x23)<|.k8 4<|.k2 4<|.rt false)<|.br (a3.Kind==8) (.call (Zh6 a1 a2 a3.Object) fun x26=>.callO (Zdi x26.1 x26.2.1 x26.2.2 a5 a6 a4) [1012,1013,1011] 1040000 (fun x=>[]) fun x28=>.rt x28)<|.br (a3.Kind==3) (.kn [5]<|.callO (Zbv a1 a3 a5 a4) [1008,1010,1012,1011] 1110000 (fun x=>[]) fun x31=>.rt x31)<|.br (a3.Kind==4) (.kn [6]<|.callO (Zbv a1 a3 a5 a4) [1008,1010,1012,1011] 1110000 (fun x=>[]) fun x34=>.rt x34)<|.br (a3.Kind==5) (.kn [7]<|.callO (Zbv a1 a3 a5 a4) [1008,1010,1012,1011] 1110000 (fun x=>[]) fun x37=>.rt x37)<|.br (a3.Kind==10) (.callO (Zbv a1 a3 a5 a4) [1008,1010,1012,1011] 1110000 (fun x=>[]) fun x40=>.rt x40)<|.rt false
def Z0a:LF Empty Bool := .z0 72 [.t 14] wB
def Z4w:=fun a0 a1 a2 a3 a4 a5 a6=>Z0a.run (Zz9 a0 a1 a2 a3 a4 a5 a6)
theorem Zom(a0)(a1)(a2)(a3)(a4)(a5)(a6){r}(h:Z4w a0 a1 a2 a3 a4 a5 a6=some r):Fn PR 72 [wL Zs a0,wA (Zo a1),wL Zp a2,wA (Zy a3),wA (Zat a4),wI a5,wI a6] (wB r):=Z0a.fn h
inductive Zeu where
 | L0 (v0:List Zg) (v2:List Zb) (E0:Za) (E1:Ze) (v9:List Zd)
 | L1 (v0:List Zg) (v2:List Zb) (E0:Za) (E1:Ze) (v9:List Zd) (v63:List Zc) (v64:Int) (v65:Int)
 | L2 (v0:List Zg) (v2:List Zb) (E0:Za) (E1:Ze) (v9:List Zd) (E2:Zc) (E3:Zb) (v63:List Zc) (v64:Int) (v65:Int) (v79:List Zh) (v80:Int) (v81:Int)
 | L3 (v0:List Zg) (v2:List Zb) (E0:Za) (E1:Ze) (v9:List Zd) (E2:Zc) (v134:List Zh) (v135:Int) (v136:Int)
def Zd8(v0:List Zg)(v2:List Zb)(E0:Za)(E1:Ze)(v9:List Zd):LT Zeu (List Zd):=
.len Zi E0.Objects<|.g0 (.L1 v0 v2 E0 E1 v9 E0.Objects (E0.Objects.length:Int) 0)
def Zxx(v0:List Zg)(v2:List Zb)(E0:Za)(E1:Ze)(v9:List Zd)(v63:List Zc)(v64:Int)(v65:Int):LT Zeu (List Zd):=
.br (decide (v65 < v64)) (.idx Zi v63 v65 fun x2=>.lb 1014<|.call (Zh6 E0 v2 x2.Id) fun x4=>.lb 1015<|.lb 1016<|.len Zr x4.2.1.Abilities<|.go (.L2 v0 v2 E0 E1 v9 x2 x4.2.1 v63 v64 v65 x4.2.1.Abilities (x4.2.1.Abilities.length:Int) 0) [.relab 1014 3002,.relab 1016 3003])<|.cs (E1.Kind != 2) (.k4 1<|.kn [0]<|.ret v9 [.relab 20009 5000])<|.k4 1<|.br (E1.To != 0) (.ret v9 [.relab 20009 5000])<|.call (Zng v0 E0 E1) fun x9=>.lb 1020<|.lb 1021<|.len Zr x9.2.1.Abilities<|.go (.L3 v0 v2 E0 E1 v9 x9.1 x9.2.1.Abilities (x9.2.1.Abilities.length:Int) 0) [.relab 1020 3002]
def Zxy(v0:List Zg)(v2:List Zb)(E0:Za)(E1:Ze)(v9:List Zd)(E2:Zc)(E3:Zb)(v63:List Zc)(v64:Int)(v65:Int)(v79:List Zh)(v80:Int)(v81:Int):LT Zeu (List Zd):=
.br (decide (v81 < v80)) (.idx Zr v79 v81 fun x2=>.lb 1019<|.cs (E2.Zone==0) (.k4 1<|.cs (x2.Kind==5) (.k8 2<|.k3 2<|.call (Zom v0 E0 v2 E1 x2.Replace E3.Control E2.Id) fun x6=>.kg 2<|.br x6 (.dr [.lit]<|.apR Zf 24 v9 [(⟨12,E2.Id,v81⟩:Zd)] fun x9=>.g0 (.L2 v0 v2 E0 E1 x9 E2 E3 v63 v64 v65 v79 v80 (IntKind.wrap .i64 (v81+1))))<|.g0 (.L2 v0 v2 E0 E1 v9 E2 E3 v63 v64 v65 v79 v80 (IntKind.wrap .i64 (v81+1))))<|.k8 2<|.k4 2<|.kn [0]<|.g0 (.L2 v0 v2 E0 E1 v9 E2 E3 v63 v64 v65 v79 v80 (IntKind.wrap .i64 (v81+1))))<|.k4 1<|.b8 false<|.b4 false<|.kn [0]<|.g0 (.L2 v0 v2 E0 E1 v9 E2 E3 v63 v64 v65 v79 v80 (IntKind.wrap .i64 (v81+1))))<|.g0 (.L1 v0 v2 E0 E1 v9 v63 v64 (IntKind.wrap .i64 (v65+1)))
def Zxz(v0:List Zg)(v2:List Zb)(E0:Za)(E1:Ze)(v9:List Zd)(E2:Zc)(v134:List Zh)(v135:Int)(v136:Int):LT Zeu (List Zd):=
.br (decide (v136 < v135)) (.idx Zr v134 v136 fun x2=>.lb 1024<|.lb 1025<|.cs (x2.Kind==5) (.k4 1<|.cs (x2.Replace.Do==6) (.k3 2<|.kg 1<|.kg 2<|.kg 1<|.b5 true<|.cs (x2.Replace.Filter.Self==1) (.k8 3<|.k2 3<|.call (Zom v0 E0 v2 E1 x2.Replace E1.Player E2.Id) fun x7=>.kg 3<|.br x7 (.dr [.lit]<|.apR Zf 24 v9 [(⟨12,E2.Id,v136⟩:Zd)] fun x10=>.g0 (.L3 v0 v2 E0 E1 x10 E2 v134 v135 (IntKind.wrap .i64 (v136+1))))<|.g0 (.L3 v0 v2 E0 E1 v9 E2 v134 v135 (IntKind.wrap .i64 (v136+1))))<|.k8 3<|.k3 3<|.kn [0]<|.g0 (.L3 v0 v2 E0 E1 v9 E2 v134 v135 (IntKind.wrap .i64 (v136+1))))<|.k3 2<|.kg 1<|.kg 2<|.kg 1<|.cs (x2.Replace.Do==7) (.k5 3<|.cs (x2.Replace.Filter.Self==1) (.k8 4<|.k2 4<|.call (Zom v0 E0 v2 E1 x2.Replace E1.Player E2.Id) fun x21=>.kg 4<|.br x21 (.dr [.lit]<|.apR Zf 24 v9 [(⟨12,E2.Id,v136⟩:Zd)] fun x24=>.g0 (.L3 v0 v2 E0 E1 x24 E2 v134 v135 (IntKind.wrap .i64 (v136+1))))<|.g0 (.L3 v0 v2 E0 E1 v9 E2 v134 v135 (IntKind.wrap .i64 (v136+1))))<|.k8 4<|.k3 4<|.kn [0]<|.g0 (.L3 v0 v2 E0 E1 v9 E2 v134 v135 (IntKind.wrap .i64 (v136+1))))<|.k5 3<|.b8 false<|.b3 false<|.kn [0]<|.g0 (.L3 v0 v2 E0 E1 v9 E2 v134 v135 (IntKind.wrap .i64 (v136+1))))<|.k5 1<|.kg 1<|.b16 false<|.kn [0]<|.g0 (.L3 v0 v2 E0 E1 v9 E2 v134 v135 (IntKind.wrap .i64 (v136+1))))<|.ret v9 [.relab 20009 5000]
def Z0b(a0:List Zg)(a1:Za)(a2:List Zb)(a3:Ze):LT Zeu (List Zd):=
.lb 1005<|.lb 1007<|.call (Zbbl a0 a1 a3) fun x1=>.br (!x1) (.ret ([]:List Zd) [.own 8 5000 3])<|.call (Zh6 a1 a2 a3.Object) fun x4=>.lb 1010<|.lb 1011<|.cs x4.2.2 (.k4 1<|.cs (a3.Kind==1) (.k4 2<|.cs (a3.Object != 0) (.k4 3<|.br (decide (x4.1.Shield > 0)) (.dr [.lit]<|.apN Zf 1061 24 [(⟨12,x4.1.Id,-1⟩:Zd)] fun x10=>.jn 0 (.L0 a0 a2 a1 a3 x10) [.relab 1005 3000,.relab 1007 3001,.relab 1061 20009] (Zd8 a0 a2 a1 a3 x10))<|.jn 0 (.L0 a0 a2 a1 a3 ([]:List Zd)) (tm21 1000 3000 20000) (Zd8 a0 a2 a1 a3 ([]:List Zd)))<|.k4 3<|.kn [0]<|.jn 0 (.L0 a0 a2 a1 a3 ([]:List Zd)) (tm21 1000 3000 20000) (Zd8 a0 a2 a1 a3 ([]:List Zd)))<|.k4 2<|.b4 false<|.kn [0]<|.jn 0 (.L0 a0 a2 a1 a3 ([]:List Zd)) (tm21 1000 3000 20000) (Zd8 a0 a2 a1 a3 ([]:List Zd)))<|.k4 1<|.b8 false<|.kn [0]<|.jn 0 (.L0 a0 a2 a1 a3 ([]:List Zd)) (tm21 1000 3000 20000) (Zd8 a0 a2 a1 a3 ([]:List Zd))
def Zil:LF Zeu (List Zd) := .m 28 [.t 8] true (fun r=>[(5000,wR Zf 3 r)]) (fun r=>(wO Zf 5000 r)) fun | .L0 v0 v2 E0 E1 v9=>([1,1,1,1],⟨183,[(0,wL Zs v0),(2,wL Zp v2),(5,.bptr 3000 0),(7,.bptr 3001 0),(9,wO Zf 20009 v9)],[(3000,.box (bx (Zo E0))),(3001,.box (bx (Zy E1))),(20009,wR Zf 3 v9)]⟩,Zd8 v0 v2 E0 E1 v9) | .L1 v0 v2 E0 E1 v9 v63 v64 v65=>([1,1,1,1,0,1,4],⟨183,[(0,wL Zs v0),(2,wL Zp v2),(5,.bptr 3000 0),(7,.bptr 3001 0),(9,wO Zf 20009 v9),(63,wL Zi v63),(64,wI v64),(65,wI v65)],[(3000,.box (bx (Zo E0))),(3001,.box (bx (Zy E1))),(20009,wR Zf 3 v9)]⟩,Zxx v0 v2 E0 E1 v9 v63 v64 v65) | .L2 v0 v2 E0 E1 v9 E2 E3 v63 v64 v65 v79 v80 v81=>([1,1,1,1,0,1,4,5,1,1,0,4,1,1,1,4],⟨183,[(0,wL Zs v0),(2,wL Zp v2),(5,.bptr 3000 0),(7,.bptr 3001 0),(9,wO Zf 20009 v9),(14,.bptr 3002 0),(16,.bptr 3003 0),(63,wL Zi v63),(64,wI v64),(65,wI v65),(79,wL Zr v79),(80,wI v80),(81,wI v81)],[(3000,.box (bx (Zo E0))),(3001,.box (bx (Zy E1))),(20009,wR Zf 3 v9),(3002,.box (bx (Zi E2))),(3003,.box (bx (Zp E3)))]⟩,Zxy v0 v2 E0 E1 v9 E2 E3 v63 v64 v65 v79 v80 v81) | .L3 v0 v2 E0 E1 v9 E2 v134 v135 v136=>([1,1,1,1,1,1,1,0,1,4],⟨183,[(0,wL Zs v0),(2,wL Zp v2),(5,.bptr 3000 0),(7,.bptr 3001 0),(9,wO Zf 20009 v9),(20,.bptr 3002 0),(134,wL Zr v134),(135,wI v135),(136,wI v136)],[(3000,.box (bx (Zo E0))),(3001,.box (bx (Zy E1))),(20009,wR Zf 3 v9),(3002,.box (bx (Zi E2)))]⟩,Zxz v0 v2 E0 E1 v9 E2 v134 v135 v136)
def Ztq:=fun a0 a1 a2 a3=>Zil.run (Z0b a0 a1 a2 a3)
theorem Zu4(a0)(a1)(a2)(a3){r}(h:Ztq a0 a1 a2 a3=some r):FnG PR 28 [] [wL Zs a0,wA (Zo a1),wL Zp a2,wA (Zy a3)] [(5000,wR Zf 3 r)] (wO Zf 5000 r):=Zil.fn h
theorem Zag9(a0:List Zg)(a1:Za)(a2:List Zb)(a3:Ze){r:List Zd}(h:Ztq a0 a1 a2 a3=some r):Fn PR 28 [wL Zs a0,wA (Zo a1),wL Zp a2,wA (Zy a3)] (wL Zf r):=
 FnG.frozen (C:=LT.RL Zf r/\True) (Zu4 a0 a1 a2 a3 h) ⟨rfl,trivial⟩ (by kernel_rfl)
inductive Zb3 where
 | L0 (v0:List Zd) (E0:Zd) (v7:Int) (v8:Int)
def Zgr(v0:List Zd)(E0:Zd)(v7:Int)(v8:Int):LT Zb3 Int:=
.br (decide (v8 < v7)) (.idx Zf v0 v8 fun x2=>.br (Zah (Zf E0) (Zf x2)) (.rt v8)<|.g0 (.L0 v0 E0 v7 (IntKind.wrap .i64 (v8+1))))<|.rt (-1)
def Zg6(a0:List Zd)(a1:Zd):LT Zb3 Int:=
.lb 1003<|.len Zf a0<|.go (.L0 a0 a1 (a0.length:Int) 0) [.relab 1003 3000]
def Zei:LF Zb3 Int := .m0 74 [.t 4] wI fun | .L0 v0 E0 v7 v8=>([1,0,1,4],⟨19,[(0,wL Zf v0),(3,.bptr 3000 0),(7,wI v7),(8,wI v8)],[(3000,.box (bx (Zf E0)))]⟩,Zgr v0 E0 v7 v8)
def Zhl:=fun a0 a1=>Zei.run (Zg6 a0 a1)
theorem Zlz(a0)(a1){r}(h:Zhl a0 a1=some r):Fn PR 74 [wL Zf a0,wA (Zf a1)] (wI r):=Zei.fn h
def Zf6(a0:List Zd)(a1:Zd):LT Empty Bool:=
.lb 1003<|.call (Zlz a0 a1) fun x1=>.rt (decide (x1>=0))
def Zf7:LF Empty Bool := .z0 30 [.t 4] wB
def Zgs:=fun a0 a1=>Zf7.run (Zf6 a0 a1)
theorem Zfz(a0)(a1){r}(h:Zgs a0 a1=some r):Fn PR 30 [wL Zf a0,wA (Zf a1)] (wB r):=Zf7.fn h
def Ztr(a0:Zd)(a1:List Zd):LT Empty Bool:=
.lb 1002<|.call (Zfz a1 a0) fun x1=>.rt x1
def Zts:LF Empty Bool := .z0 29 [.t 3] wB
def Zx0:=fun a0 a1=>Zts.run (Ztr a0 a1)
theorem Zsk(a0)(a1){r}(h:Zx0 a0 a1=some r):Fn PR 29 [wA (Zf a0),.vptr ((cL Zf) a1)] (wB r):=Zts.fn h
inductive Za2 where
 | L0 (v0:List Zd) (w1_0:List Zd) (v7:Int) (v8:Int)
def Zc7(v0:List Zd)(w1_0:List Zd)(v7:Int)(v8:Int):LT Za2 Int:=
.br (decide (v8 < v7)) (.idx Zf v0 v8 fun x2=>.call (Zsk x2 w1_0) fun x4=>.br x4 (.rt v8)<|.g0 (.L0 v0 w1_0 v7 (IntKind.wrap .i64 (v8+1))))<|.rt (-1)
def Zdj(a0:List Zd)(a1:List Zd):LT Za2 Int:=
.len Zf a0<|.g0 (.L0 a0 a1 (a0.length:Int) 0)
def Zb1:LF Za2 Int := .m0 69 [.t 4] wI fun | .L0 v0 w1_0 v7 v8=>([1,0,1,4],⟨19,[(0,wL Zf v0),(1,.fn 29 [.vptr ((cL Zf) w1_0)]),(7,wI v7),(8,wI v8)],[]⟩,Zc7 v0 w1_0 v7 v8)
def Zds:=fun a0 a1=>Zb1.run (Zdj a0 a1)
theorem Zgg(a0)(a1){r}(h:Zds a0 a1=some r):Fn PR 69 [wL Zf a0,.fn 29 [.vptr ((cL Zf) a1)]] (wI r):=Zb1.fn h
inductive Zaw where
 | L0 (v0:List Zd) (w1_0:List Zd) (v5:Int) (v6:Int)
def Zci(v0:List Zd)(w1_0:List Zd)(v5:Int)(v6:Int):LT Zaw (List Zd):=
.lenO Zf v0<|.br (decide (v6 < (v0.length:Int))) (.idxR Zf v0 v6 fun x3=>.ldR Zf v0 x3 2<|.lb 1007<|.call (Zsk x3 w1_0) fun x5=>.br (!x5) (.idxR Zf v0 v5 fun x8=>.setR Zf v0 v5 x8 x3 5 0 [.int .i64 x3.Kind,.int .i64 x3.A,.int .i64 x3.B] rfl fun x10=>.dr [.ahead 34,.relen 20000,.stop]<|.us [6]<|.us [6]<|.us [6]<|.us [6]<|.us [6]<|.us [6]<|.g0 (.L0 x10 w1_0 (IntKind.wrap .i64 (v5+1)) (IntKind.wrap .i64 (v6+1))))<|.g0 (.L0 v0 w1_0 v5 (IntKind.wrap .i64 (v6+1))))<|.tlR Zf v0 v5 (⟨0,0,0⟩:Zd) fun x18=>.clR Zf v0 x18 0<|.dr [.ahead 39,.relen 20000,.stop]<|.us [2]<|.us [2]<|.us [2]<|.trR Zf x18 v5 fun x20=>.ret x20 [.relab 20000 5000]
def Zcq(b0:List Zd)(a1:List Zd):LT Zaw (List Zd):=
.rl Zf b0<|.call (Zgg b0 a1) fun x1=>.br (x1==(-1)) (.ret b0 [.relab 0 5000])<|.go (.L0 b0 a1 x1 (IntKind.wrap .i64 (x1+1))) [.relab 0 20000]
def Zbs:LF Zaw (List Zd) := .m 27 [.t 4] true (fun r=>[(5000,wR Zf 3 r)]) (fun r=>(wO Zf 5000 r)) fun | .L0 v0 w1_0 v5 v6=>([1,1,1,0,1,4],⟨42,[(0,wO Zf 20000 v0),(1,.fn 29 [.vptr ((cL Zf) w1_0)]),(5,wI v5),(6,wI v6)],[(20000,wR Zf 3 v0)]⟩,Zci v0 w1_0 v5 v6)
def Zcx:=fun b0 a1=>Zbs.run (Zcq b0 a1)
theorem Zfh(b0)(a1){r}(h:Zcx b0 a1=some r):FnG PR 27 [(0,wR Zf 3 b0)] [wO Zf 0 b0,.fn 29 [.vptr ((cL Zf) a1)]] [(5000,wR Zf 3 r)] (wO Zf 5000 r):=Zbs.fn h
def Z8l(a0:List Zg)(a1:Za)(a2:List Zb)(a3:Ze)(a4:List Zd):LT Empty (List Zd):=
.lb 1006<|.lb 1008<|.lb 1009<|.callF (Zu4 a0 a1 a2 a3) 160000 fun x1=>.callW (Zfh x1 a4) [165000] 180000 (fun _=>⟨rfl,Z1b Zf (fun _=>rfl) _,trivial⟩) fun x3=>.ret x3 [.relab 185000 5000]
def Z8m:LF Empty (List Zd) := .z 13 [.t 10] true (fun r=>[(5000,wR Zf 3 r)]) (fun r=>(wO Zf 5000 r))
def Z16:=fun a0 a1 a2 a3 a4=>Z8m.run (Z8l a0 a1 a2 a3 a4)
theorem Zl0(a0)(a1)(a2)(a3)(a4){r}(h:Z16 a0 a1 a2 a3 a4=some r):FnG PR 13 [] [wL Zs a0,wA (Zo a1),wL Zp a2,wA (Zy a3),wL Zf a4] [(5000,wR Zf 3 r)] (wO Zf 5000 r):=Z8m.fn h
theorem Zh8(a0:List Zg)(a1:Za)(a2:List Zb)(a3:Ze)(a4:List Zd){r:List Zd}(h:Z16 a0 a1 a2 a3 a4=some r):Fn PR 13 [wL Zs a0,wA (Zo a1),wL Zp a2,wA (Zy a3),wL Zf a4] (wL Zf r):=
 FnG.frozen (C:=LT.RL Zf r/\True) (Zl0 a0 a1 a2 a3 a4 h) ⟨rfl,trivial⟩ (by kernel_rfl)
def Zej(a0:List Z9)(hne:a0≠[]):LT Empty (List Z9):=
.ne Zq hne<|.kn [0]<|.lb 1005<|.apR Zq 152 ([]:List Z9) a0 fun x1=>.ret x1 [.relab 1005 5000]
def Zbg:LF Empty (List Z9) := .z 75 [.t 2] true (fun r=>[(5000,wR Zq 14 r)]) (fun r=>(wO Zq 5000 r))
def Zcm(c:Nat):LT Empty (List Z9):=
.kn [0]<|.ret ([]:List Z9) [.own 2 5000 14]
def Zl1(c:Nat)(ad:Addr):LT Empty (List Z9):=
.kn [0]<|.lb 1005<|.apR Zq 152 ([]:List Z9) ([]:List Z9) fun x1=>.ret x1 [.relab 1005 5000]
open Classical in
def Zc4(a0:List Z9):Option (List Z9):=if h:a0≠[] then Zbg.run (Zej a0 h) else Zbg.run (Zcm 0)
theorem Zla(a0:List Z9){r:List Z9}(h:Zc4 a0=some r):FnG PR 75 [] [wL Zq a0] [(5000,wR Zq 14 r)] (wO Zq 5000 r):=by
 by_cases hne:a0=[]
 .subst hne
  have h0:Zbg.run (Zcm 0)=some r:=h
  exact FnG.split0 (fun e=>absurd rfl e) (fun _ a c=>by
   cases a with
   | none=>exact Zbg.fn (t:=Zcm c) h0
   | some ad=>exact Zbg.fn (t:=Zl1 c ad) h0)
 .have h0:Zbg.run (Zej a0 hne)=some r:=by unfold Zc4 at h;rwa [dif_pos hne] at h
  exact FnG.split0 (fun _=>Zbg.fn h0) (fun e=>absurd (by simpa using e) hne)
def Zir(a0:List Int)(hne:a0≠[]):LT Empty (List Int):=
.ne (cI .i64) hne<|.kn [0]<|.lb 1005<|.apR (cI .i64) 8 ([]:List Int) a0 fun x1=>.ret x1 [.relab 1005 5000]
def Zcn:LF Empty (List Int) := .z 78 [.t 2] true (fun r=>[(5000,wR (cI .i64) 1 r)]) (fun r=>(wO (cI .i64) 5000 r))
def Zfx(c:Nat):LT Empty (List Int):=
.kn [0]<|.ret ([]:List Int) [.own 2 5000 1]
def Zyw(c:Nat)(ad:Addr):LT Empty (List Int):=
.kn [0]<|.lb 1005<|.apR (cI .i64) 8 ([]:List Int) ([]:List Int) fun x1=>.ret x1 [.relab 1005 5000]
open Classical in
def Zfc(a0:List Int):Option (List Int):=if h:a0≠[] then Zcn.run (Zir a0 h) else Zcn.run (Zfx 0)
theorem Zb8(a0:List Int){r:List Int}(h:Zfc a0=some r):FnG PR 78 [] [wL (cI .i64) a0] [(5000,wR (cI .i64) 1 r)] (wO (cI .i64) 5000 r):=by
 by_cases hne:a0=[]
 .subst hne
  have h0:Zcn.run (Zfx 0)=some r:=h
  exact FnG.split0 (fun e=>absurd rfl e) (fun _ a c=>by
   cases a with
   | none=>exact Zcn.fn (t:=Zfx c) h0
   | some ad=>exact Zcn.fn (t:=Zyw c ad) h0)
 .have h0:Zcn.run (Zir a0 hne)=some r:=by unfold Zfc at h;rwa [dif_pos hne] at h
  exact FnG.split0 (fun _=>Zcn.fn h0) (fun e=>absurd (by simpa using e) hne)
theorem Zyx(a0:List Int){r:List Int}(h:Zfc a0=some r):Fn PR 78 [wL (cI .i64) a0] (wL (cI .i64) r):=
 FnG.frozen (C:=LT.RL (cI .i64) r/\True) (Zb8 a0 h) ⟨rfl,trivial⟩ (by kernel_rfl)
def Z0c(a0:Z9):LT Empty Z9:=
.lb 1001<|.lb 1002<|.callF (Zb8 a0.Library) 60000 fun x1=>.callF (Zb8 a0.Hand) 100000 fun x3=>.callF (Zb8 a0.Graveyard) 140000 fun x5=>.ret (⟨a0.Life,a0.Venom,a0.Lands,a0.Pool,a0.Failed,a0.Lost,x1,x3,x5⟩:Z9) [.relab 65000 5011,.relab 105000 5012,.relab 145000 5013]
def Z0d:LF Empty Z9 := .z 76 [.c 2 58 true 14] true (fun r=>[(5011,wR (cI .i64) 1 r.Library),(5012,wR (cI .i64) 1 r.Hand),(5013,wR (cI .i64) 1 r.Graveyard)]) (fun r=>(.agg (tm17 r 5000)))
def Ztt:=fun a0=>Z0d.run (Z0c a0)
theorem Zaen(a0){r}(h:Ztt a0=some r):FnG PR 76 [] [wA (Zq a0)] [(5011,wR (cI .i64) 1 r.Library),(5012,wR (cI .i64) 1 r.Hand),(5013,wR (cI .i64) 1 r.Graveyard)] (.agg (tm17 r 5000)):=Z0d.fn h
theorem Zaha(a0:Z9){r:Z9}(h:Ztt a0=some r):Fn PR 76 [wA (Zq a0)] (wA (Zq r)):=
 FnG.frozen (C:=LT.RL (cI .i64) r.Library/\LT.RL (cI .i64) r.Hand/\LT.RL (cI .i64) r.Graveyard/\True) (Zaen a0 h) ⟨rfl,rfl,rfl,trivial⟩ (by kernel_rfl)
def Zek(a0:List Zc)(hne:a0≠[]):LT Empty (List Zc):=
.ne Zi hne<|.kn [0]<|.lb 1005<|.apR Zi 128 ([]:List Zc) a0 fun x1=>.ret x1 [.relab 1005 5000]
def Zbh:LF Empty (List Zc) := .z 77 [.t 2] true (fun r=>[(5000,wR Zi 19 r)]) (fun r=>(wO Zi 5000 r))
def Zco(c:Nat):LT Empty (List Zc):=
.kn [0]<|.ret ([]:List Zc) [.own 2 5000 19]
def Zl2(c:Nat)(ad:Addr):LT Empty (List Zc):=
.kn [0]<|.lb 1005<|.apR Zi 128 ([]:List Zc) ([]:List Zc) fun x1=>.ret x1 [.relab 1005 5000]
open Classical in
def Zc5(a0:List Zc):Option (List Zc):=if h:a0≠[] then Zbh.run (Zek a0 h) else Zbh.run (Zco 0)
theorem Zlb(a0:List Zc){r:List Zc}(h:Zc5 a0=some r):FnG PR 77 [] [wL Zi a0] [(5000,wR Zi 19 r)] (wO Zi 5000 r):=by
 by_cases hne:a0=[]
 .subst hne
  have h0:Zbh.run (Zco 0)=some r:=h
  exact FnG.split0 (fun e=>absurd rfl e) (fun _ a c=>by
   cases a with
   | none=>exact Zbh.fn (t:=Zco c) h0
   | some ad=>exact Zbh.fn (t:=Zl2 c ad) h0)
 .have h0:Zbh.run (Zek a0 hne)=some r:=by unfold Zc5 at h;rwa [dif_pos hne] at h
  exact FnG.split0 (fun _=>Zbh.fn h0) (fun e=>absurd (by simpa using e) hne)
def Ze9(a0:List Zai)(hne:a0≠[]):LT Empty (List Zai):=
.ne Z3 hne<|.kn [0]<|.lb 1005<|.apR Z3 824 ([]:List Zai) a0 fun x1=>.ret x1 [.relab 1005 5000]
def Zbo:LF Empty (List Zai) := .z 79 [.t 2] true (fun r=>[(5000,wR Z3 94 r)]) (fun r=>(wO Z3 5000 r))
def Zdk(c:Nat):LT Empty (List Zai):=
.kn [0]<|.ret ([]:List Zai) [.own 2 5000 94]
def Zon(c:Nat)(ad:Addr):LT Empty (List Zai):=
.kn [0]<|.lb 1005<|.apR Z3 824 ([]:List Zai) ([]:List Zai) fun x1=>.ret x1 [.relab 1005 5000]
open Classical in
def Zd4(a0:List Zai):Option (List Zai):=if h:a0≠[] then Zbo.run (Ze9 a0 h) else Zbo.run (Zdk 0)
theorem Znv(a0:List Zai){r:List Zai}(h:Zd4 a0=some r):FnG PR 79 [] [wL Z3 a0] [(5000,wR Z3 94 r)] (wO Z3 5000 r):=by
 by_cases hne:a0=[]
 .subst hne
  have h0:Zbo.run (Zdk 0)=some r:=h
  exact FnG.split0 (fun e=>absurd rfl e) (fun _ a c=>by
   cases a with
   | none=>exact Zbo.fn (t:=Zdk c) h0
   | some ad=>exact Zbo.fn (t:=Zon c ad) h0)
 .have h0:Zbo.run (Ze9 a0 hne)=some r:=by unfold Zd4 at h;rwa [dif_pos hne] at h
  exact FnG.split0 (fun _=>Zbo.fn h0) (fun e=>absurd (by simpa using e) hne)
inductive Zhw where
 | L0 (E0:Zh) (E1:Zh) (v18:Int) (v19:Int)
def Zu5(E0:Zh)(E1:Zh)(v18:Int)(v19:Int):LT Zhw Zh:=
.br (decide (v19 < v18)) (.idxR Zz E0.Effects v19 fun x2=>.rl Zz E0.Effects<|.ldR Zz E0.Effects x2 2<|.call (Zfg x2.Mods) fun x4=>.plR Zz E0.Effects v19 0<|.rl Zz E0.Effects<|.setR Zz E0.Effects v19 x2 (⟨x2.Op,x2.Ref,x2.Amount,x2.Counter,x2.Zone,x2.Card,x2.Filter,x2.Pool,x4⟩:Z6) 2 63 [.sl (List.map Zu x4)] rfl fun x6=>.dr [.ahead 34,.relen 40049,.stop]<|.us [3]<|.us [3]<|.us [3]<|.us [3]<|.us [3]<|.us [3]<|.us [3]<|.g0 (.L0 (⟨E0.Kind,E0.Filter,E0.Mods,E0.Price,E0.Slow,E0.Trigger,E0.May,E0.Specs,x6,E0.Replace⟩:Zh) E1 v18 (IntKind.wrap .i64 (v19+1))))<|.ret E0 (tm24 40000 5000)
def Zx1(a0:Zh):LT Zhw Zh:=
.lb 1001<|.lb 1002<|.callF (Ze7 a0.Mods) 70000 fun x1=>.callF (Zhj a0.Specs) 110000 fun x3=>.callF (Zgd a0.Effects) 150000 fun x5=>.lenO Zz x5<|.go (.L0 (⟨a0.Kind,a0.Filter,x1,a0.Price,a0.Slow,a0.Trigger,a0.May,x3,x5,a0.Replace⟩:Zh) (⟨0,(⟨0,0,0,0,0,0,0,([]:By),0,0,(⟨0,0⟩:Zj),(⟨0,0⟩:Zj),(⟨0,0⟩:Zj)⟩:Zm),([]:List Zv),(⟨(⟨0,0,(⟨0,0,0,0,0⟩:A5 Int)⟩:Z2),false,false,0⟩:Ze0),false,(⟨0,0,(⟨0,0,0,0,0,0,0,([]:By),0,0,(⟨0,0⟩:Zj),(⟨0,0⟩:Zj),(⟨0,0⟩:Zj)⟩:Zm)⟩:Zb4),false,([]:List Za9),([]:List Z6),(⟨0,0,(⟨0,0,0,0,0,0,0,([]:By),0,0,(⟨0,0⟩:Zj),(⟨0,0⟩:Zj),(⟨0,0⟩:Zj)⟩:Zm),0,0,0,0⟩:Z4)⟩:Zh) (x5.length:Int) 0) [.relab 1001 3000,.relab 1002 3001,.relab 75000 40017,.relab 115000 40048,.relab 155000 40049,.ownb 3001 17 40117 20,.ownb 3001 48 40148 18,.ownb 3001 49 40149 64]
def Zoo:LF Zhw Zh := .m 80 [.c 2 88 true 72] true (fun r=>(Zyn r 5000)) (fun r=>(.agg (tm0 r 5000))) fun | .L0 E0 E1 v18 v19=>([1,1,1,1,0,1,4],⟨36,[(1,.bptr 3000 0),(2,.bptr 3001 0),(18,wI v18),(19,wI v19)],((3000,.box (tm0 E0 40000))::(40017,wR Zu 20 E0.Mods)::(40048,wR Zao 18 E0.Specs)::(40049,wR Zz 64 E0.Effects)::(3001,.box (tm0 E1 40100))::(Zyn E1 40100))⟩,Zu5 E0 E1 v18 v19)
def Zrv:=fun a0=>Zoo.run (Zx1 a0)
theorem Zaa5(a0){r}(h:Zrv a0=some r):FnG PR 80 [] [wA (Zr a0)] (Zyn r 5000) (.agg (tm0 r 5000)):=Zoo.fn h
theorem Zu6(a0:Zh){r:Zh}(h:Zrv a0=some r):Fn PR 80 [wA (Zr a0)] (wA (Zr r)):=
 FnG.frozen (C:=LT.RL Zu r.Mods/\LT.RL Zao r.Specs/\LT.RL Zz r.Effects/\True) (Zaa5 a0 h) ⟨rfl,rfl,rfl,trivial⟩ (by kernel_rfl)
def Zel(a0:List Zbb)(hne:a0≠[]):LT Empty (List Zbb):=
.ne Zar hne<|.kn [0]<|.lb 1005<|.apR Zar 16 ([]:List Zbb) a0 fun x1=>.ret x1 [.relab 1005 5000]
def Zbi:LF Empty (List Zbb) := .z 81 [.t 2] true (fun r=>[(5000,wR Zar 2 r)]) (fun r=>(wO Zar 5000 r))
def Zcp(c:Nat):LT Empty (List Zbb):=
.kn [0]<|.ret ([]:List Zbb) [.own 2 5000 2]
def Zl3(c:Nat)(ad:Addr):LT Empty (List Zbb):=
.kn [0]<|.lb 1005<|.apR Zar 16 ([]:List Zbb) ([]:List Zbb) fun x1=>.ret x1 [.relab 1005 5000]
open Classical in
def Zb7(a0:List Zbb):Option (List Zbb):=if h:a0≠[] then Zbi.run (Zel a0 h) else Zbi.run (Zcp 0)
theorem Zlc(a0:List Zbb){r:List Zbb}(h:Zb7 a0=some r):FnG PR 81 [] [wL Zar a0] [(5000,wR Zar 2 r)] (wO Zar 5000 r):=by
 by_cases hne:a0=[]
 .subst hne
  have h0:Zbi.run (Zcp 0)=some r:=h
  exact FnG.split0 (fun e=>absurd rfl e) (fun _ a c=>by
   cases a with
   | none=>exact Zbi.fn (t:=Zcp c) h0
   | some ad=>exact Zbi.fn (t:=Zl3 c ad) h0)
 .have h0:Zbi.run (Zel a0 hne)=some r:=by unfold Zb7 at h;rwa [dif_pos hne] at h
  exact FnG.split0 (fun _=>Zbi.fn h0) (fun e=>absurd (by simpa using e) hne)
theorem Zl4(a0:List Zbb){r:List Zbb}(h:Zb7 a0=some r):Fn PR 81 [wL Zar a0] (wL Zar r):=
 FnG.frozen (C:=LT.RL Zar r/\True) (Zlc a0 h) ⟨rfl,trivial⟩ (by kernel_rfl)
def Zd6(a0:List Zad)(hne:a0≠[]):LT Empty (List Zad):=
.ne Zx hne<|.kn [0]<|.lb 1005<|.apR Zx 768 ([]:List Zad) a0 fun x1=>.ret x1 [.relab 1005 5000]
def Zba:LF Empty (List Zad) := .z 82 [.t 2] true (fun r=>[(5000,wR Zx 89 r)]) (fun r=>(wO Zx 5000 r))
def Zcd(c:Nat):LT Empty (List Zad):=
.kn [0]<|.ret ([]:List Zad) [.own 2 5000 89]
def Zku(c:Nat)(ad:Addr):LT Empty (List Zad):=
.kn [0]<|.lb 1005<|.apR Zx 768 ([]:List Zad) ([]:List Zad) fun x1=>.ret x1 [.relab 1005 5000]
open Classical in
def Zct(a0:List Zad):Option (List Zad):=if h:a0≠[] then Zba.run (Zd6 a0 h) else Zba.run (Zcd 0)
theorem Zkg(a0:List Zad){r:List Zad}(h:Zct a0=some r):FnG PR 82 [] [wL Zx a0] [(5000,wR Zx 89 r)] (wO Zx 5000 r):=by
 by_cases hne:a0=[]
 .subst hne
  have h0:Zba.run (Zcd 0)=some r:=h
  exact FnG.split0 (fun e=>absurd rfl e) (fun _ a c=>by
   cases a with
   | none=>exact Zba.fn (t:=Zcd c) h0
   | some ad=>exact Zba.fn (t:=Zku c ad) h0)
 .have h0:Zba.run (Zd6 a0 hne)=some r:=by unfold Zct at h;rwa [dif_pos hne] at h
  exact FnG.split0 (fun _=>Zba.fn h0) (fun e=>absurd (by simpa using e) hne)
def Zfa(a0:List Zap)(hne:a0≠[]):LT Empty (List Zap):=
.ne Z7 hne<|.kn [0]<|.lb 1005<|.apR Z7 80 ([]:List Zap) a0 fun x1=>.ret x1 [.relab 1005 5000]
def Zbp:LF Empty (List Zap) := .z 83 [.t 2] true (fun r=>[(5000,wR Z7 6 r)]) (fun r=>(wO Z7 5000 r))
def Zdl(c:Nat):LT Empty (List Zap):=
.kn [0]<|.ret ([]:List Zap) [.own 2 5000 6]
def Zop(c:Nat)(ad:Addr):LT Empty (List Zap):=
.kn [0]<|.lb 1005<|.apR Z7 80 ([]:List Zap) ([]:List Zap) fun x1=>.ret x1 [.relab 1005 5000]
open Classical in
def Zd5(a0:List Zap):Option (List Zap):=if h:a0≠[] then Zbp.run (Zfa a0 h) else Zbp.run (Zdl 0)
theorem Znw(a0:List Zap){r:List Zap}(h:Zd5 a0=some r):FnG PR 83 [] [wL Z7 a0] [(5000,wR Z7 6 r)] (wO Z7 5000 r):=by
 by_cases hne:a0=[]
 .subst hne
  have h0:Zbp.run (Zdl 0)=some r:=h
  exact FnG.split0 (fun e=>absurd rfl e) (fun _ a c=>by
   cases a with
   | none=>exact Zbp.fn (t:=Zdl c) h0
   | some ad=>exact Zbp.fn (t:=Zop c ad) h0)
 .have h0:Zbp.run (Zfa a0 hne)=some r:=by unfold Zd5 at h;rwa [dif_pos hne] at h
  exact FnG.split0 (fun _=>Zbp.fn h0) (fun e=>absurd (by simpa using e) hne)
inductive Zi2 where
 | L0 (E0:Za) (E1:Za) (v13:Int) (v14:Int)
 | L1 (E0:Za) (E1:Za) (v46:Int) (v47:Int)
 | L2 (E0:Za) (E1:Za) (v81:Int) (v82:Int)
 | L3 (E0:Za) (E1:Za) (v104:Int) (v105:Int)
def Zahb(E0:Za)(E1:Za)(v13:Int)(v14:Int):LT Zi2 Za:=
.br (decide (v14 < v13)) (.idxR Zq E0.Players v14 fun x2=>.ldR Zq E0.Players x2 2<|.call (Zaha x2) fun x4=>.plR Zq E0.Players v14 0<|.setR Zq E0.Players v14 x2 x4 2 0 [.int .i64 x4.Life,.int .i64 x4.Venom,.int .i64 x4.Lands,.int .i64 x4.Pool.a0,.int .i64 x4.Pool.a1,.int .i64 x4.Pool.a2,.int .i64 x4.Pool.a3,.int .i64 x4.Pool.a4,.int .i64 x4.Pool.a5,.bool x4.Failed,.bool x4.Lost,.sl (List.map (cI .i64) x4.Library),.sl (List.map (cI .i64) x4.Hand),.sl (List.map (cI .i64) x4.Graveyard)] rfl fun x6=>.dr [.ahead 27,.relen 40000,.stop]<|.us [3]<|.us [3]<|.us [3]<|.us [3]<|.us [3]<|.g0 (.L0 (⟨x6,E0.Objects,E0.Battlefield,E0.Exile,E0.Stack,E0.Waiting,E0.Conts,E0.Turn,E0.Active,E0.Step,E0.Begun,E0.Priority,E0.Passes,E0.NextId,E0.NextStamp,E0.Seed,E0.Extra,E0.Over,E0.Winner⟩:Za) E1 v13 (IntKind.wrap .i64 (v14+1))))<|.callF (Zlb E0.Objects) 310000 fun x10=>.callF (Zb8 E0.Battlefield) 350000 fun x12=>.callF (Zb8 E0.Exile) 390000 fun x14=>.callF (Znv E0.Stack) 430000 fun x16=>.lenO Z3 x16<|.go (.L1 (⟨E0.Players,x10,x12,x14,x16,E0.Waiting,E0.Conts,E0.Turn,E0.Active,E0.Step,E0.Begun,E0.Priority,E0.Passes,E0.NextId,E0.NextStamp,E0.Seed,E0.Extra,E0.Over,E0.Winner⟩:Za) E1 (x16.length:Int) 0) [.relab 315000 40001,.relab 355000 40002,.relab 395000 40003,.relab 435000 40004]
def Zahc(E0:Za)(E1:Za)(v46:Int)(v47:Int):LT Zi2 Za:=
.br (decide (v47 < v46)) (.idxR Z3 E0.Stack v47 fun x2=>.rl Z3 E0.Stack<|.ldR Z3 E0.Stack x2 2<|.call (Zu6 x2.Ability) fun x4=>.plR Z3 E0.Stack v47 0<|.rl Z3 E0.Stack<|.setR Z3 E0.Stack v47 x2 (⟨x2.Id,x2.Kind,x2.Source,x2.Control,x2.X,x2.Copy,x4,x2.Targets,x2.Event⟩:Zai) 2 6 (tm6 x4) rfl fun x6=>.dr [.ahead 15,.relen 40004,.stop]<|.us [3]<|.us [3]<|.us [3]<|.us [3]<|.us [3]<|.us [3]<|.us [3]<|.idxR Z3 x6 v47 fun x8=>.rl Z3 x6<|.ldR Z3 x6 x8 6<|.call (Zl4 x8.Targets) fun x10=>.plR Z3 x6 v47 4<|.rl Z3 x6<|.setR Z3 x6 v47 x8 (⟨x8.Id,x8.Kind,x8.Source,x8.Control,x8.X,x8.Copy,x8.Ability,x10,x8.Event⟩:Zai) 6 78 [.sl (List.map Zar x10)] rfl fun x12=>.dr [.ahead 74,.relen 40004,.stop]<|.us [7]<|.us [7]<|.us [7]<|.us [7]<|.us [7]<|.us [7]<|.us [7]<|.us [7]<|.us [7]<|.us [7]<|.us [7]<|.us [7]<|.us [7]<|.g0 (.L1 (⟨E0.Players,E0.Objects,E0.Battlefield,E0.Exile,x12,E0.Waiting,E0.Conts,E0.Turn,E0.Active,E0.Step,E0.Begun,E0.Priority,E0.Passes,E0.NextId,E0.NextStamp,E0.Seed,E0.Extra,E0.Over,E0.Winner⟩:Za) E1 v46 (IntKind.wrap .i64 (v47+1))))<|.callF (Zkg E0.Waiting) 780000 fun x16=>.lenO Zx x16<|.go (.L2 (⟨E0.Players,E0.Objects,E0.Battlefield,E0.Exile,E0.Stack,x16,E0.Conts,E0.Turn,E0.Active,E0.Step,E0.Begun,E0.Priority,E0.Passes,E0.NextId,E0.NextStamp,E0.Seed,E0.Extra,E0.Over,E0.Winner⟩:Za) E1 (x16.length:Int) 0) [.relab 785000 40005]
def Zahd(E0:Za)(E1:Za)(v81:Int)(v82:Int):LT Zi2 Za:=
.br (decide (v82 < v81)) (.idxR Zx E0.Waiting v82 fun x2=>.rl Zx E0.Waiting<|.ldR Zx E0.Waiting x2 2<|.call (Zu6 x2.Ability) fun x4=>.plR Zx E0.Waiting v82 0<|.rl Zx E0.Waiting<|.setR Zx E0.Waiting v82 x2 (⟨x2.Source,x2.Control,x4,x2.Event⟩:Zad) 2 2 (tm6 x4) rfl fun x6=>.dr [.ahead 97,.relen 40005,.stop]<|.us [3]<|.us [3]<|.us [3]<|.us [3]<|.us [3]<|.us [3]<|.us [3]<|.g0 (.L2 (⟨E0.Players,E0.Objects,E0.Battlefield,E0.Exile,E0.Stack,x6,E0.Conts,E0.Turn,E0.Active,E0.Step,E0.Begun,E0.Priority,E0.Passes,E0.NextId,E0.NextStamp,E0.Seed,E0.Extra,E0.Over,E0.Winner⟩:Za) E1 v81 (IntKind.wrap .i64 (v82+1))))<|.callF (Znw E0.Conts) 1010000 fun x10=>.lenO Z7 x10<|.go (.L3 (⟨E0.Players,E0.Objects,E0.Battlefield,E0.Exile,E0.Stack,E0.Waiting,x10,E0.Turn,E0.Active,E0.Step,E0.Begun,E0.Priority,E0.Passes,E0.NextId,E0.NextStamp,E0.Seed,E0.Extra,E0.Over,E0.Winner⟩:Za) E1 (x10.length:Int) 0) [.relab 1015000 40006]
def Zahe(E0:Za)(E1:Za)(v104:Int)(v105:Int):LT Zi2 Za:=
.br (decide (v105 < v104)) (.idxR Z7 E0.Conts v105 fun x2=>.rl Z7 E0.Conts<|.ldR Z7 E0.Conts x2 2<|.call (Zyx x2.Objects) fun x4=>.plR Z7 E0.Conts v105 0<|.rl Z7 E0.Conts<|.setR Z7 E0.Conts v105 x2 (⟨x2.Stamp,x2.Control,x2.Source,x2.Until,x4,x2.Mods⟩:Zap) 2 4 [.sl (List.map (cI .i64) x4)] rfl fun x6=>.dr [.ahead 28,.relen 40006,.stop]<|.us [3]<|.us [3]<|.us [3]<|.us [3]<|.us [3]<|.us [3]<|.us [3]<|.idxR Z7 x6 v105 fun x8=>.rl Z7 x6<|.ldR Z7 x6 x8 6<|.call (Zfg x8.Mods) fun x10=>.plR Z7 x6 v105 4<|.rl Z7 x6<|.setR Z7 x6 v105 x8 (⟨x8.Stamp,x8.Control,x8.Source,x8.Until,x8.Objects,x10⟩:Zap) 6 5 [.sl (List.map Zu x10)] rfl fun x12=>.dr [.ahead 132,.relen 40006,.stop]<|.us [7]<|.us [7]<|.us [7]<|.us [7]<|.us [7]<|.us [7]<|.us [7]<|.us [7]<|.us [7]<|.us [7]<|.us [7]<|.us [7]<|.us [7]<|.g0 (.L3 (⟨E0.Players,E0.Objects,E0.Battlefield,E0.Exile,E0.Stack,E0.Waiting,x12,E0.Turn,E0.Active,E0.Step,E0.Begun,E0.Priority,E0.Passes,E0.NextId,E0.NextStamp,E0.Seed,E0.Extra,E0.Over,E0.Winner⟩:Za) E1 v104 (IntKind.wrap .i64 (v105+1))))<|.callF (Zb8 E0.Extra) 1360000 fun x16=>.ret (⟨E0.Players,E0.Objects,E0.Battlefield,E0.Exile,E0.Stack,E0.Waiting,E0.Conts,E0.Turn,E0.Active,E0.Step,E0.Begun,E0.Priority,E0.Passes,E0.NextId,E0.NextStamp,E0.Seed,x16,E0.Over,E0.Winner⟩:Za) (tm26 40000 5000 1365000)
def Zanf(a0:Za):LT Zi2 Za:=
.lb 1001<|.lb 1002<|.callF (Zla a0.Players) 100000 fun x1=>.lenO Zq x1<|.go (.L0 (⟨x1,a0.Objects,a0.Battlefield,a0.Exile,a0.Stack,a0.Waiting,a0.Conts,a0.Turn,a0.Active,a0.Step,a0.Begun,a0.Priority,a0.Passes,a0.NextId,a0.NextStamp,a0.Seed,a0.Extra,a0.Over,a0.Winner⟩:Za) (⟨([]:List Z9),([]:List Zc),([]:List Int),([]:List Int),([]:List Zai),([]:List Zad),([]:List Zap),0,0,0,false,0,0,0,0,0,([]:List Int),0,0⟩:Za) (x1.length:Int) 0) [.relab 1001 3000,.relab 1002 3001,.relab 105000 40000,.ownb 3001 0 40100 14,.ownb 3001 1 40101 19,.ownb 3001 2 40102 1,.ownb 3001 3 40103 1,.ownb 3001 4 40104 94,.ownb 3001 5 40105 89,.ownb 3001 6 40106 6,.ownb 3001 16 40116 1]
def Zna:LF Zi2 Za := .m 31 [.c 2 31 true 19] true (fun r=>(tm3 r 5000)) (fun r=>(.agg (tm1 r 5000))) fun | .L0 E0 E1 v13 v14=>([1,1,0,1,4],⟨138,[(1,.bptr 3000 0),(2,.bptr 3001 0),(13,wI v13),(14,wI v14)],((3000,.box (tm14 E0 40000))::(40000,wR Zq 14 E0.Players)::(3001,.box (tm1 E1 40100))::(tm28 E1 40100))⟩,Zahb E0 E1 v13 v14) | .L1 E0 E1 v46 v47=>([1,1,1,1,1,1,1,0,1,4],⟨138,[(1,.bptr 3000 0),(2,.bptr 3001 0),(46,wI v46),(47,wI v47)],((3000,.box (tm13 E0 40000))::(40000,wR Zq 14 E0.Players)::(40001,wR Zi 19 E0.Objects)::(40002,wR (cI .i64) 1 E0.Battlefield)::(40003,wR (cI .i64) 1 E0.Exile)::(40004,wR Z3 94 E0.Stack)::(3001,.box (tm1 E1 40100))::(tm28 E1 40100))⟩,Zahc E0 E1 v46 v47) | .L2 E0 E1 v81 v82=>([1,1,1,1,1,1,1,1,1,0,1,4],⟨138,[(1,.bptr 3000 0),(2,.bptr 3001 0),(81,wI v81),(82,wI v82)],((3000,.box (tm12 E0 40000))::(40000,wR Zq 14 E0.Players)::(40001,wR Zi 19 E0.Objects)::(40002,wR (cI .i64) 1 E0.Battlefield)::(40003,wR (cI .i64) 1 E0.Exile)::(40004,wR Z3 94 E0.Stack)::(40005,wR Zx 89 E0.Waiting)::(3001,.box (tm1 E1 40100))::(tm28 E1 40100))⟩,Zahd E0 E1 v81 v82) | .L3 E0 E1 v104 v105=>([1,1,1,1,1,1,1,1,1,1,1,0,1,4],⟨138,[(1,.bptr 3000 0),(2,.bptr 3001 0),(104,wI v104),(105,wI v105)],((3000,.box (tm10 E0 40000))::(40000,wR Zq 14 E0.Players)::(40001,wR Zi 19 E0.Objects)::(40002,wR (cI .i64) 1 E0.Battlefield)::(40003,wR (cI .i64) 1 E0.Exile)::(40004,wR Z3 94 E0.Stack)::(40005,wR Zx 89 E0.Waiting)::(40006,wR Z7 6 E0.Conts)::(3001,.box (tm1 E1 40100))::(tm28 E1 40100))⟩,Zahe E0 E1 v104 v105)
def Za1b:=fun a0=>Zna.run (Zanf a0)
theorem Zac4(a0){r}(h:Za1b a0=some r):FnG PR 31 [] [wA (Zo a0)] (tm3 r 5000) (.agg (tm1 r 5000)):=Zna.fn h
inductive Zim where
 | L0 (E0:Zd) (E1:Z4) (E2:Zb)
def Zhx(E0:Zd)(E1:Z4)(E2:Zb):LT Zim Z4:=
.cs (decide (E0.B < 0)) (.k5 0<|.k2 0<|.kn [0]<|.rt (⟨0,0,(⟨0,0,0,0,0,0,0,([]:By),0,0,(⟨0,0⟩:Zj),(⟨0,0⟩:Zj),(⟨0,0⟩:Zj)⟩:Zm),0,0,0,0⟩:Z4))<|.k5 0<|.len Zr E2.Abilities<|.k2 0<|.br (decide (E0.B>=(E2.Abilities.length:Int))) (.rt (⟨0,0,(⟨0,0,0,0,0,0,0,([]:By),0,0,(⟨0,0⟩:Zj),(⟨0,0⟩:Zj),(⟨0,0⟩:Zj)⟩:Zm),0,0,0,0⟩:Z4))<|.idx Zr E2.Abilities E0.B fun x4=>.rt x4.Replace
def Z0e(a0:List Zg)(a1:Za)(a2:List Zb)(a3:Ze)(a4:Zd):LT Zim Z4:=
.lb 1006<|.lb 1008<|.lb 1009<|.lb 1010<|.call (Zh6 a1 a2 a4.A) fun x1=>.lb 1011<|.lb 1012<|.br (x1.1.Zone != 0) (.call (Zng a0 a1 a3) fun x4=>.jn 0 (.L0 a4 (⟨0,0,(⟨0,0,0,0,0,0,0,([]:By),0,0,(⟨0,0⟩:Zj),(⟨0,0⟩:Zj),(⟨0,0⟩:Zj)⟩:Zm),0,0,0,0⟩:Z4) x4.2.1) [.relab 1009 3000,.relab 1010 3001,.relab 1012 3002] (Zhx a4 (⟨0,0,(⟨0,0,0,0,0,0,0,([]:By),0,0,(⟨0,0⟩:Zj),(⟨0,0⟩:Zj),(⟨0,0⟩:Zj)⟩:Zm),0,0,0,0⟩:Z4) x4.2.1))<|.jn 0 (.L0 a4 (⟨0,0,(⟨0,0,0,0,0,0,0,([]:By),0,0,(⟨0,0⟩:Zj),(⟨0,0⟩:Zj),(⟨0,0⟩:Zj)⟩:Zm),0,0,0,0⟩:Z4) x1.2.1) [.relab 1009 3000,.relab 1010 3001,.relab 1012 3002] (Zhx a4 (⟨0,0,(⟨0,0,0,0,0,0,0,([]:By),0,0,(⟨0,0⟩:Zj),(⟨0,0⟩:Zj),(⟨0,0⟩:Zj)⟩:Zm),0,0,0,0⟩:Z4) x1.2.1)
def Z0f:LF Zim Z4 := .m0 32 [.c 10 79 true 22] (fun r=>(wA (Zat r))) fun | .L0 E0 E1 E2=>([1,1,1],⟨53,[(9,.bptr 3000 0),(10,.bptr 3001 0),(12,.bptr 3002 0)],[(3000,.box (bx (Zf E0))),(3001,.box (bx (Zat E1))),(3002,.box (bx (Zp E2)))]⟩,Zhx E0 E1 E2)
def Z4x:=fun a0 a1 a2 a3 a4=>Z0f.run (Z0e a0 a1 a2 a3 a4)
theorem Zahf(a0)(a1)(a2)(a3)(a4){r}(h:Z4x a0 a1 a2 a3 a4=some r):Fn PR 32 [wL Zs a0,wA (Zo a1),wL Zp a2,wA (Zy a3),wA (Zf a4)] (wA (Zat r)):=Z0f.fn h
def Z17(a0:Za)(a1:Zc):LT Empty Za:=
.lb 1002<|.lb 1003<|.lb 1004<|.rl Zq a0.Players<|.rl Zi a0.Objects<|.rl (cI .i64) a0.Battlefield<|.rl (cI .i64) a0.Exile<|.rl Z3 a0.Stack<|.rl Zx a0.Waiting<|.rl Z7 a0.Conts<|.rl (cI .i64) a0.Extra<|.call (Zact a0 a1.Id) fun x1=>.br (decide (x1>=0)) (.idxR Zi a0.Objects x1 fun x4=>.setR Zi a0.Objects x1 x4 a1 2 0 (tm11 a1) rfl fun x6=>.dr [.ahead 18,.pick [17,16,15,14,13,12,11,5,10,9,8,4,3,2,1] [1,1004,1003,1002,0,2,3,4,5,6,7],.relen 1,.stop]<|.us [3]<|.us [3]<|.us [3]<|.ret (⟨a0.Players,x6,a0.Battlefield,a0.Exile,a0.Stack,a0.Waiting,a0.Conts,a0.Turn,a0.Active,a0.Step,a0.Begun,a0.Priority,a0.Passes,a0.NextId,a0.NextStamp,a0.Seed,a0.Extra,a0.Over,a0.Winner⟩:Za) [.relab 0 5000,.relab 1 5001,.relab 2 5002,.relab 3 5003,.relab 4 5004,.relab 5 5005,.relab 6 5006,.relab 7 5016])<|.no
def Z18:LF Empty Za := .z 86 [.c 4 31 true 19] true (fun r=>(tm3 r 5000)) (fun r=>(.agg (tm1 r 5000)))
def Z8n:=fun a0 a1=>Z18.run (Z17 a0 a1)
theorem Zahg(a0)(a1){r}(h:Z8n a0 a1=some r):FnG PR 86 [(0,wR Zq 14 a0.Players),(1,wR Zi 19 a0.Objects),(2,wR (cI .i64) 1 a0.Battlefield),(3,wR (cI .i64) 1 a0.Exile),(4,wR Z3 94 a0.Stack),(5,wR Zx 89 a0.Waiting),(6,wR Z7 6 a0.Conts),(7,wR (cI .i64) 1 a0.Extra)] [.agg [wO Zq 0 a0.Players,wO Zi 1 a0.Objects,wO (cI .i64) 2 a0.Battlefield,wO (cI .i64) 3 a0.Exile,wO Z3 4 a0.Stack,wO Zx 5 a0.Waiting,wO Z7 6 a0.Conts,wI a0.Turn,wI a0.Active,wI a0.Step,wB a0.Begun,wI a0.Priority,wI a0.Passes,wI a0.NextId,wI a0.NextStamp,.t (.int .u64 a0.Seed),wO (cI .i64) 7 a0.Extra,wI a0.Over,wI a0.Winner],wA (Zi a1)] (tm3 r 5000) (.agg (tm1 r 5000)):=Z18.fn h
def Zaum(a0:Za)(a1:Zc):LT Empty Za:=
.lb 1002<|.lb 1003<|.lb 1004<|.callF (Zac4 a0) 70000 fun x1=>.callU (Zahg x1 a1) [75000,75001,75002,75003,75004,75005,75006,75016] 90000 fun x3=>.ret x3 (tm9 95000 5000)
def Zaun:LF Empty Za := .z 34 [.c 4 31 true 19] true (fun r=>(tm3 r 5000)) (fun r=>(.agg (tm1 r 5000)))
def Za79:=fun a0 a1=>Zaun.run (Zaum a0 a1)
theorem Za8a(a0)(a1){r}(h:Za79 a0 a1=some r):FnG PR 34 [] [wA (Zo a0),wA (Zi a1)] (tm3 r 5000) (.agg (tm1 r 5000)):=Zaun.fn h
def Za1c(a0:Int)(a1:Int):LT Empty Int:=
.call (Zgp a0) fun x1=>.call (Zgp a1) fun x3=>.call (Zgp (IntKind.wrap .i64 (x1 - x3))) fun x7=>.rt x7
def Za1d:LF Empty Int := .z0 35 [.t 4] wI
def Zbc0:=fun a0 a1=>Za1d.run (Za1c a0 a1)
theorem Zbeu(a0)(a1){r}(h:Zbc0 a0 a1=some r):Fn PR 35 [wI a0,wI a1] (wI r):=Za1d.fn h
def Zac5(a0:A3 Int)(a1:Int)(a2:Int):LT Empty (A3 Int):=
.lb 1003<|.lb 1006<|.cs (decide (a1>=0)) (.k3 0<|.br (decide (a1 < 3)) (.idA (Zn.int .i64) (A3.list a0) a1 (bx ((cA3 (cI .i64)) a0)) 0 3 fun x3=>.ldC (Zn.int .i64) 16 x3 0<|.call (Zaa1 x3 a2) fun x5=>.idA (Zn.int .i64) (A3.list a0) a1 (bx ((cA3 (cI .i64)) a0)) 0 3 fun x7=>.stA (A3.set? a0 a1 (Zsy x5 0)) (fun h=>Zbh3 (Zn.int .i64) ((bx ((cA3 (cI .i64)) a0)).take 0) ((bx ((cA3 (cI .i64)) a0)).drop 3) h) fun x9=>.rt x9)<|.rt a0)<|.k3 0<|.kn [0]<|.rt a0
def Zac6:LF Empty (A3 Int) := .z0 38 [.c 6 32 true 3] (fun r=>(wA ((cA3 (cI .i64)) r)))
def Zang:=fun a0 a1 a2=>Zac6.run (Zac5 a0 a1 a2)
theorem Zayj(a0)(a1)(a2){r}(h:Zang a0 a1 a2=some r):Fn PR 38 [wA ((cA3 (cI .i64)) a0),wI a1,wI a2] (wA ((cA3 (cI .i64)) r)):=Zac6.fn h
inductive Zj3 where
 | L0 (E0:Ze) (E1:Za) (E2:Ze) (E3:Za) (v14:Bool)
def Zcy(E0:Ze)(E1:Za)(E2:Ze)(E3:Za)(v14:Bool):LT Zj3 (Za×Ze×Bool):=
.cs v14 (.k4 0<|.br (decide (E0.Amount<=0)) (.ret (E3,(⟨0,0,0,0,0,0,0,0,0,0,false,false,(⟨0,0,0⟩:A3 Int)⟩:Ze),false) (tm9 40300 5000))<|.ret (E3,E0,true) (tm9 40300 5000))<|.k4 0<|.kn [0]<|.ret (E3,E0,true) (tm9 40300 5000)
def Z4y(a0:List Zg)(a1:Za)(a2:List Zb)(a3:Ze)(a4:Zd):LT Zj3 (Za×Ze×Bool):=
.lb 1006<|.lb 1008<|.lb 1009<|.lb 1010<|.lb 1011<|.callF (Zac4 a1) 210000 fun x1=>.lb 1013<|.call (Zag9 a0 a1 a2 a3) fun x3=>.call (Zfz x3 a4) fun x5=>.br (!x5) (.ret (x1,a3,true) (tm9 215000 5000))<|.call (Zahf a0 a1 a2 a3 a4) fun x8=>.lb 1015<|.br (a4.B==(-1)) (.rl Zq x1.Players<|.rl Zi x1.Objects<|.rl (cI .i64) x1.Battlefield<|.rl (cI .i64) x1.Exile<|.rl Z3 x1.Stack<|.rl Zx x1.Waiting<|.rl Z7 x1.Conts<|.rl (cI .i64) x1.Extra<|.call (Zoh x1 a4.A) fun x11=>.lb 1016<|.dr [.ahead 85,.frz 215000,.frz 215001,.frz 215002,.frz 215003,.frz 215004,.frz 215005,.frz 215006,.frz 215016,.stop]<|.rl Zq x1.Players<|.rl Zq x1.Players<|.rl Zq x1.Players<|.rl Zq x1.Players<|.rl Zi x1.Objects<|.rl Zi x1.Objects<|.rl Zi x1.Objects<|.rl Zi x1.Objects<|.rl (cI .i64) x1.Battlefield<|.rl (cI .i64) x1.Battlefield<|.rl (cI .i64) x1.Battlefield<|.rl (cI .i64) x1.Battlefield<|.rl (cI .i64) x1.Exile<|.rl (cI .i64) x1.Exile<|.rl (cI .i64) x1.Exile<|.rl (cI .i64) x1.Exile<|.rl Z3 x1.Stack<|.rl Z3 x1.Stack<|.rl Z3 x1.Stack<|.rl Z3 x1.Stack<|.rl Zx x1.Waiting<|.rl Zx x1.Waiting<|.rl Zx x1.Waiting<|.rl Zx x1.Waiting<|.rl Z7 x1.Conts<|.rl Z7 x1.Conts<|.rl Z7 x1.Conts<|.rl Z7 x1.Conts<|.rl (cI .i64) x1.Extra<|.rl (cI .i64) x1.Extra<|.rl (cI .i64) x1.Extra<|.rl (cI .i64) x1.Extra<|.callF (Za8a x1 (⟨x11.1.Id,x11.1.Card,x11.1.Owner,x11.1.Control,x11.1.Zone,x11.1.Token,x11.1.Tapped,x11.1.Sick,x11.1.Deadly,x11.1.Damage,x11.1.Counters,x11.1.Stamp,x11.1.Copy,x11.1.Attack,x11.1.Blocked,x11.1.Blocks,IntKind.wrap .i64 (x11.1.Shield - (Zia x11.1.Shield a3.Amount))⟩:Zc)) 860000 fun x17=>.jn 0 (.L0 (⟨a3.Kind,a3.Source,a3.Object,a3.Player,IntKind.wrap .i64 (a3.Amount - (Zia x11.1.Shield a3.Amount)),a3.From,a3.To,a3.Cause,a3.Counter,a3.Card,a3.Combat,a3.Tapped,a3.Extra⟩:Ze) (⟨([]:List Z9),([]:List Zc),([]:List Int),([]:List Int),([]:List Zai),([]:List Zad),([]:List Zap),0,0,0,false,0,0,0,0,0,([]:List Int),0,0⟩:Za) (⟨0,0,0,0,0,0,0,0,0,0,false,false,(⟨0,0,0⟩:A3 Int)⟩:Ze) x17 true) (tm4 1000 3000 40100 865000 40300) (Zcy (⟨a3.Kind,a3.Source,a3.Object,a3.Player,IntKind.wrap .i64 (a3.Amount - (Zia x11.1.Shield a3.Amount)),a3.From,a3.To,a3.Cause,a3.Counter,a3.Card,a3.Combat,a3.Tapped,a3.Extra⟩:Ze) (⟨([]:List Z9),([]:List Zc),([]:List Int),([]:List Int),([]:List Zai),([]:List Zad),([]:List Zap),0,0,0,false,0,0,0,0,0,([]:List Int),0,0⟩:Za) (⟨0,0,0,0,0,0,0,0,0,0,false,false,(⟨0,0,0⟩:A3 Int)⟩:Ze) x17 true))<|.cs (x8.Do==1) (.k4 2<|.kn [0]<|.ret (x1,(⟨0,0,0,0,0,0,0,0,0,0,false,false,(⟨0,0,0⟩:A3 Int)⟩:Ze),false) (tm9 215000 5000))<|.k4 2<|.br (x8.Do==8) (.ret (x1,(⟨0,0,0,0,0,0,0,0,0,0,false,false,(⟨0,0,0⟩:A3 Int)⟩:Ze),false) (tm9 215000 5000))<|.br (x8.Do==2) (.call (Zbeu a3.Amount x8.N) fun x22=>.jn 0 (.L0 (⟨a3.Kind,a3.Source,a3.Object,a3.Player,x22,a3.From,a3.To,a3.Cause,a3.Counter,a3.Card,a3.Combat,a3.Tapped,a3.Extra⟩:Ze) (⟨([]:List Z9),([]:List Zc),([]:List Int),([]:List Int),([]:List Zai),([]:List Zad),([]:List Zap),0,0,0,false,0,0,0,0,0,([]:List Int),0,0⟩:Za) (⟨0,0,0,0,0,0,0,0,0,0,false,false,(⟨0,0,0⟩:A3 Int)⟩:Ze) x1 true) (tm4 1000 3000 40100 215000 40300) (Zcy (⟨a3.Kind,a3.Source,a3.Object,a3.Player,x22,a3.From,a3.To,a3.Cause,a3.Counter,a3.Card,a3.Combat,a3.Tapped,a3.Extra⟩:Ze) (⟨([]:List Z9),([]:List Zc),([]:List Int),([]:List Int),([]:List Zai),([]:List Zad),([]:List Zap),0,0,0,false,0,0,0,0,0,([]:List Int),0,0⟩:Za) (⟨0,0,0,0,0,0,0,0,0,0,false,false,(⟨0,0,0⟩:A3 Int)⟩:Ze) x1 true))<|.br (x8.Do==3) (.call (Zauj 2 a3.Amount) fun x25=>.jn 0 (.L0 (⟨a3.Kind,a3.Source,a3.Object,a3.Player,x25,a3.From,a3.To,a3.Cause,a3.Counter,a3.Card,a3.Combat,a3.Tapped,a3.Extra⟩:Ze) (⟨([]:List Z9),([]:List Zc),([]:List Int),([]:List Int),([]:List Zai),([]:List Zad),([]:List Zap),0,0,0,false,0,0,0,0,0,([]:List Int),0,0⟩:Za) (⟨0,0,0,0,0,0,0,0,0,0,false,false,(⟨0,0,0⟩:A3 Int)⟩:Ze) x1 true) (tm4 1000 3000 40100 215000 40300) (Zcy (⟨a3.Kind,a3.Source,a3.Object,a3.Player,x25,a3.From,a3.To,a3.Cause,a3.Counter,a3.Card,a3.Combat,a3.Tapped,a3.Extra⟩:Ze) (⟨([]:List Z9),([]:List Zc),([]:List Int),([]:List Int),([]:List Zai),([]:List Zad),([]:List Zap),0,0,0,false,0,0,0,0,0,([]:List Int),0,0⟩:Za) (⟨0,0,0,0,0,0,0,0,0,0,false,false,(⟨0,0,0⟩:A3 Int)⟩:Ze) x1 true))<|.br (x8.Do==4) (.call (Zaa1 a3.Amount x8.N) fun x28=>.jn 0 (.L0 (⟨a3.Kind,a3.Source,a3.Object,a3.Player,x28,a3.From,a3.To,a3.Cause,a3.Counter,a3.Card,a3.Combat,a3.Tapped,a3.Extra⟩:Ze) (⟨([]:List Z9),([]:List Zc),([]:List Int),([]:List Int),([]:List Zai),([]:List Zad),([]:List Zap),0,0,0,false,0,0,0,0,0,([]:List Int),0,0⟩:Za) (⟨0,0,0,0,0,0,0,0,0,0,false,false,(⟨0,0,0⟩:A3 Int)⟩:Ze) x1 true) (tm4 1000 3000 40100 215000 40300) (Zcy (⟨a3.Kind,a3.Source,a3.Object,a3.Player,x28,a3.From,a3.To,a3.Cause,a3.Counter,a3.Card,a3.Combat,a3.Tapped,a3.Extra⟩:Ze) (⟨([]:List Z9),([]:List Zc),([]:List Int),([]:List Int),([]:List Zai),([]:List Zad),([]:List Zap),0,0,0,false,0,0,0,0,0,([]:List Int),0,0⟩:Za) (⟨0,0,0,0,0,0,0,0,0,0,false,false,(⟨0,0,0⟩:A3 Int)⟩:Ze) x1 true))<|.br (x8.Do==5) (.jn 0 (.L0 (⟨a3.Kind,a3.Source,a3.Object,a3.Player,a3.Amount,a3.From,x8.Zone,a3.Cause,a3.Counter,a3.Card,a3.Combat,a3.Tapped,a3.Extra⟩:Ze) (⟨([]:List Z9),([]:List Zc),([]:List Int),([]:List Int),([]:List Zai),([]:List Zad),([]:List Zap),0,0,0,false,0,0,0,0,0,([]:List Int),0,0⟩:Za) (⟨0,0,0,0,0,0,0,0,0,0,false,false,(⟨0,0,0⟩:A3 Int)⟩:Ze) x1 false) (tm4 1000 3000 40100 215000 40300) (Zcy (⟨a3.Kind,a3.Source,a3.Object,a3.Player,a3.Amount,a3.From,x8.Zone,a3.Cause,a3.Counter,a3.Card,a3.Combat,a3.Tapped,a3.Extra⟩:Ze) (⟨([]:List Z9),([]:List Zc),([]:List Int),([]:List Int),([]:List Zai),([]:List Zad),([]:List Zap),0,0,0,false,0,0,0,0,0,([]:List Int),0,0⟩:Za) (⟨0,0,0,0,0,0,0,0,0,0,false,false,(⟨0,0,0⟩:A3 Int)⟩:Ze) x1 false))<|.br (x8.Do==6) (.jn 0 (.L0 (⟨a3.Kind,a3.Source,a3.Object,a3.Player,a3.Amount,a3.From,a3.To,a3.Cause,a3.Counter,a3.Card,a3.Combat,true,a3.Extra⟩:Ze) (⟨([]:List Z9),([]:List Zc),([]:List Int),([]:List Int),([]:List Zai),([]:List Zad),([]:List Zap),0,0,0,false,0,0,0,0,0,([]:List Int),0,0⟩:Za) (⟨0,0,0,0,0,0,0,0,0,0,false,false,(⟨0,0,0⟩:A3 Int)⟩:Ze) x1 false) (tm4 1000 3000 40100 215000 40300) (Zcy (⟨a3.Kind,a3.Source,a3.Object,a3.Player,a3.Amount,a3.From,a3.To,a3.Cause,a3.Counter,a3.Card,a3.Combat,true,a3.Extra⟩:Ze) (⟨([]:List Z9),([]:List Zc),([]:List Int),([]:List Int),([]:List Zai),([]:List Zad),([]:List Zap),0,0,0,false,0,0,0,0,0,([]:List Int),0,0⟩:Za) (⟨0,0,0,0,0,0,0,0,0,0,false,false,(⟨0,0,0⟩:A3 Int)⟩:Ze) x1 false))<|.br (x8.Do==7) (.call (Zayj a3.Extra x8.Counter x8.N) fun x33=>.jn 0 (.L0 (⟨a3.Kind,a3.Source,a3.Object,a3.Player,a3.Amount,a3.From,a3.To,a3.Cause,a3.Counter,a3.Card,a3.Combat,a3.Tapped,x33⟩:Ze) (⟨([]:List Z9),([]:List Zc),([]:List Int),([]:List Int),([]:List Zai),([]:List Zad),([]:List Zap),0,0,0,false,0,0,0,0,0,([]:List Int),0,0⟩:Za) (⟨0,0,0,0,0,0,0,0,0,0,false,false,(⟨0,0,0⟩:A3 Int)⟩:Ze) x1 false) (tm4 1000 3000 40100 215000 40300) (Zcy (⟨a3.Kind,a3.Source,a3.Object,a3.Player,a3.Amount,a3.From,a3.To,a3.Cause,a3.Counter,a3.Card,a3.Combat,a3.Tapped,x33⟩:Ze) (⟨([]:List Z9),([]:List Zc),([]:List Int),([]:List Int),([]:List Zai),([]:List Zad),([]:List Zap),0,0,0,false,0,0,0,0,0,([]:List Int),0,0⟩:Za) (⟨0,0,0,0,0,0,0,0,0,0,false,false,(⟨0,0,0⟩:A3 Int)⟩:Ze) x1 false))<|.jn 0 (.L0 a3 (⟨([]:List Z9),([]:List Zc),([]:List Int),([]:List Int),([]:List Zai),([]:List Zad),([]:List Zap),0,0,0,false,0,0,0,0,0,([]:List Int),0,0⟩:Za) (⟨0,0,0,0,0,0,0,0,0,0,false,false,(⟨0,0,0⟩:A3 Int)⟩:Ze) x1 false) (tm4 1000 3000 40100 215000 40300) (Zcy a3 (⟨([]:List Z9),([]:List Zc),([]:List Int),([]:List Int),([]:List Zai),([]:List Zad),([]:List Zap),0,0,0,false,0,0,0,0,0,([]:List Int),0,0⟩:Za) (⟨0,0,0,0,0,0,0,0,0,0,false,false,(⟨0,0,0⟩:A3 Int)⟩:Ze) x1 false)
def Z4z:LF Zj3 (Za×Ze×Bool) := .m 14 [.c 10 31 true 19,.c 11 34 true 15,.t 12] true (fun r=>(tm3 r.1 5000)) (fun r=>(.tup [.agg (tm1 r.1 5000),wA (Zy r.2.1),wB r.2.2])) fun | .L0 E0 E1 E2 E3 v14=>([1,1,1,1,1,1],⟨135,[(8,.bptr 3000 0),(10,.bptr 3001 0),(11,.bptr 3002 0),(13,.bptr 3003 0),(14,wB v14)],((3000,.box (bx (Zy E0)))::(3001,.box (tm1 E1 40100))::(40100,wR Zq 14 E1.Players)::(40101,wR Zi 19 E1.Objects)::(40102,wR (cI .i64) 1 E1.Battlefield)::(40103,wR (cI .i64) 1 E1.Exile)::(40104,wR Z3 94 E1.Stack)::(40105,wR Zx 89 E1.Waiting)::(40106,wR Z7 6 E1.Conts)::(40116,wR (cI .i64) 1 E1.Extra)::(3002,.box (bx (Zy E2)))::(3003,.box (tm1 E3 40300))::(tm28 E3 40300))⟩,Zcy E0 E1 E2 E3 v14)
def Zyy:=fun a0 a1 a2 a3 a4=>Z4z.run (Z4y a0 a1 a2 a3 a4)
theorem Zpx(a0)(a1)(a2)(a3)(a4){r}(h:Zyy a0 a1 a2 a3 a4=some r):FnG PR 14 [] [wL Zs a0,wA (Zo a1),wL Zp a2,wA (Zy a3),wA (Zf a4)] (tm3 r.1 5000) (.tup [.agg (tm1 r.1 5000),wA (Zy r.2.1),wB r.2.2]):=Z4z.fn h
theorem Zl5(a0:List Zg)(a1:Za)(a2:List Zb)(a3:Ze)(a4:Zd){r:Za×Ze×Bool}(h:Zyy a0 a1 a2 a3 a4=some r):Fn PR 14 [wL Zs a0,wA (Zo a1),wL Zp a2,wA (Zy a3),wA (Zf a4)] (.tup [wA (Zo r.1),wA (Zy r.2.1),wB r.2.2]):=
 FnG.frozen (C:=LT.RL Zq r.1.Players/\LT.RL Zi r.1.Objects/\LT.RL (cI .i64) r.1.Battlefield/\LT.RL (cI .i64) r.1.Exile/\LT.RL Z3 r.1.Stack/\LT.RL Zx r.1.Waiting/\LT.RL Z7 r.1.Conts/\LT.RL (cI .i64) r.1.Extra/\True) (Zpx a0 a1 a2 a3 a4 h) ⟨rfl,rfl,rfl,rfl,rfl,rfl,rfl,rfl,trivial⟩ (by kernel_rfl)
def Zanh:LT Empty Bool:=
.call (Zayc) fun x1=>.lb 1001<|.lb 1002<|.lb 1019<|.call (Ztk) fun x3=>.rl Zp [(⟨([]:By),(⟨0,0,(⟨0,0,0,0,0⟩:A5 Int)⟩:Z2),0,(⟨0,0,([]:Bys)⟩:Zaf),0,0,0,([]:List Zh),0⟩:Zb)]<|.callS (Zl0 x3 x1.1 [(⟨([]:By),(⟨0,0,(⟨0,0,0,0,0⟩:A5 Int)⟩:Z2),0,(⟨0,0,([]:Bys)⟩:Zaf),0,0,0,([]:List Zh),0⟩:Zb)] x1.2 ([]:List Zd)) 250000 (fun _=>⟨rfl,Z1b Zf (fun _=>rfl) _,trivial⟩) fun x5=>.lb 1005<|.call (Ztk) fun x7=>.rl Zp [(⟨([]:By),(⟨0,0,(⟨0,0,0,0,0⟩:A5 Int)⟩:Z2),0,(⟨0,0,([]:Bys)⟩:Zaf),0,0,0,([]:List Zh),0⟩:Zb)]<|.callD (Zpx x7 x1.1 [(⟨([]:By),(⟨0,0,(⟨0,0,0,0,0⟩:A5 Int)⟩:Z2),0,(⟨0,0,([]:Bys)⟩:Zaf),0,0,0,([]:List Zh),0⟩:Zb)] x1.2 (⟨12,1,-1⟩:Zd)) 330000 fun x9=>.lb 1006<|.lb 1007<|.dr [.lit]<|.idxR Zp [(⟨([]:By),(⟨0,0,(⟨0,0,0,0,0⟩:A5 Int)⟩:Z2),0,(⟨0,0,([]:Bys)⟩:Zaf),0,0,0,([]:List Zh),0⟩:Zb)] 0 fun x11=>.rl Zp [(⟨([]:By),(⟨0,0,(⟨0,0,0,0,0⟩:A5 Int)⟩:Z2),0,(⟨0,0,([]:Bys)⟩:Zaf),0,0,0,([]:List Zh),0⟩:Zb)]<|.setR Zp [(⟨([]:By),(⟨0,0,(⟨0,0,0,0,0⟩:A5 Int)⟩:Z2),0,(⟨0,0,([]:Bys)⟩:Zaf),0,0,0,([]:List Zh),0⟩:Zb)] 0 x11 (⟨x11.Name,x11.Cost,x11.Colors,x11.Line,x11.Power,x11.Tough,x11.Keys,[(⟨5,(⟨0,0,0,0,0,0,0,([]:By),0,0,(⟨0,0⟩:Zj),(⟨0,0⟩:Zj),(⟨0,0⟩:Zj)⟩:Zm),([]:List Zv),(⟨(⟨0,0,(⟨0,0,0,0,0⟩:A5 Int)⟩:Z2),false,false,0⟩:Ze0),false,(⟨0,0,(⟨0,0,0,0,0,0,0,([]:By),0,0,(⟨0,0⟩:Zj),(⟨0,0⟩:Zj),(⟨0,0⟩:Zj)⟩:Zm)⟩:Zb4),false,([]:List Za9),([]:List Z6),(⟨1,1,(⟨0,0,0,0,0,0,0,([]:By),0,0,(⟨0,0⟩:Zj),(⟨0,0⟩:Zj),(⟨0,0⟩:Zj)⟩:Zm),1,0,0,0⟩:Z4)⟩:Zh)],x11.Control⟩:Zb) 2 15 [.sl (List.map Zr [(⟨5,(⟨0,0,0,0,0,0,0,([]:By),0,0,(⟨0,0⟩:Zj),(⟨0,0⟩:Zj),(⟨0,0⟩:Zj)⟩:Zm),([]:List Zv),(⟨(⟨0,0,(⟨0,0,0,0,0⟩:A5 Int)⟩:Z2),false,false,0⟩:Ze0),false,(⟨0,0,(⟨0,0,0,0,0,0,0,([]:By),0,0,(⟨0,0⟩:Zj),(⟨0,0⟩:Zj),(⟨0,0⟩:Zj)⟩:Zm)⟩:Zb4),false,([]:List Za9),([]:List Z6),(⟨1,1,(⟨0,0,0,0,0,0,0,([]:By),0,0,(⟨0,0⟩:Zj),(⟨0,0⟩:Zj),(⟨0,0⟩:Zj)⟩:Zm),1,0,0,0⟩:Z4)⟩:Zh)])] rfl fun x13=>.dr [.ahead 42,.relen 1019,.stop]<|.us [3]<|.us [3]<|.us [3]<|.us [3]<|.us [3]<|.us [3]<|.us [3]<|.lb 1009<|.call (Ztk) fun x15=>.rl Zp x13<|.callS (Zl0 x15 x1.1 x13 (⟨1,0,0,0,3,0,0,0,0,0,false,false,(⟨0,0,0⟩:A3 Int)⟩:Ze) ([]:List Zd)) 480000 (fun _=>⟨rfl,Z1b Zf (fun _=>rfl) _,trivial⟩) fun x17=>.call (Ztk) fun x19=>.rl Zp x13<|.callD (Zpx x19 x1.1 x13 (⟨1,0,0,0,3,0,0,0,0,0,false,false,(⟨0,0,0⟩:A3 Int)⟩:Ze) (⟨12,1,0⟩:Zd)) 550000 fun x21=>.lb 1011<|.lb 1012<|.lenO Zf x5<|.cs ((x5.length:Int)==1) (.k2 0<|.idxR Zf x5 0 fun x25=>.kg 0<|.ldR Zf x5 x25 6<|.k3 0<|.cs (Zah (Zf x25) (Zf (⟨12,1,-1⟩:Zd))) (.k2 1<|.cs x9.2.2 (.k4 2<|.cs (x9.2.1.Amount==1) (.k3 3<|.lenO Zi x9.1.Objects<|.k2 3<|.cs ((x9.1.Objects.length:Int)==1) (.k3 4<|.idxR Zi x9.1.Objects 0 fun x32=>.kg 4<|.rl Zi x9.1.Objects<|.kg 4<|.ldR Zi x9.1.Objects x32 9<|.k2 4<|.cs (x32.Shield==0) (.kg 5<|.call (Ztk) fun x35=>.k5 5<|.dr [.lit]<|.kg 5<|.rl Zp x13<|.callS (Zl0 x35 x1.1 x13 x1.2 [(⟨12,1,-1⟩:Zd)]) 980000 (fun _=>⟨rfl,Z1b Zf (fun _=>rfl) _,trivial⟩) fun x37=>.kg 5<|.lenO Zf x37<|.k2 5<|.cs ((x37.length:Int)==0) (.k2 6<|.lenO Zf x17<|.k2 6<|.cs ((x17.length:Int)==1) (.k2 7<|.idxR Zf x17 0 fun x43=>.kg 7<|.ldR Zf x17 x43 12<|.k3 7<|.cs (Zah (Zf x43) (Zf (⟨12,1,0⟩:Zd))) (.k3 8<|.cs (!x21.2.2) (.k4 9<|.rt (Zah (Zy x21.2.1) (Zy (⟨0,0,0,0,0,0,0,0,0,0,false,false,(⟨0,0,0⟩:A3 Int)⟩:Ze))))<|.k4 9<|.rt false)<|.k3 8<|.b4 false<|.rt false)<|.k5 7<|.kg 7<|.b5 false<|.b2 false<|.rt false)<|.k4 6<|.b8 false<|.b5 false<|.rt false)<|.k8 5<|.k2 5<|.b16 false<|.kb false<|.rt false)<|.k5 4<|.k2 4<|.b16 false<|.b8 false<|.b3 false<|.rt false)<|.k5 3<|.b16 false<|.b16 false<|.b2 false<|.rt false)<|.k4 2<|.b16 false<|.b16 false<|.b5 false<|.b2 false<|.rt false)<|.k2 1<|.b16 false<|.b16 false<|.b8 false<|.b3 false<|.rt false)<|.k5 0<|.kg 0<|.b16 false<|.b16 false<|.b8 false<|.b5 false<|.rt false
def Zani:LF Empty Bool := .z0 9 [.t 0] wB
def Zahh:=Zani.run (Zanh)
theorem Zb9{r}(h:Zahh=some r):Fn PR 9 [] (wB r):=Zani.fn h
inductive Zoq where
 | L0 (E0:Z2) (v3:Int) (v4:Int) (v5:Int)
def Zac7(E0:Z2)(v3:Int)(v4:Int)(v5:Int):LT Zoq Int:=
.br (decide (v5 < 5)) (.idA (Zn.int .i64) (A5.list E0.Color) v5 (bx (Zav E0)) 2 7 fun x2=>.ldC (Zn.int .i64) 16 x2 0<|.br (decide (x2 > 0)) (.g0 (.L0 E0 (IntKind.wrap .i64 (v3+v4)) (IntKind.wrap .i64 (2*v4)) (IntKind.wrap .i64 (v5+1))))<|.g0 (.L0 E0 v3 (IntKind.wrap .i64 (2*v4)) (IntKind.wrap .i64 (v5+1))))<|.rt v3
def Zahi(a0:Z2):LT Zoq Int:=
.lb 1001<|.call (Zw9 a0) fun x1=>.br (!x1) (.rt 0)<|.go (.L0 a0 0 1 0) [.relab 1001 3000]
def Z19:LF Zoq Int := .m0 165 [.t 2] wI fun | .L0 E0 v3 v4 v5=>([1,1,1,1,0,1,4],⟨24,[(1,.bptr 3000 0),(3,wI v3),(4,wI v4),(5,wI v5)],[(3000,.box (bx (Zav E0)))]⟩,Zac7 E0 v3 v4 v5)
def Zauo:=fun a0=>Z19.run (Zahi a0)
theorem Za2s(a0){r}(h:Zauo a0=some r):Fn PR 165 [wA (Zav a0)] (wI r):=Z19.fn h
inductive Zmk where
 | L0 (E0:Zh) (E1:Zh) (E2:Zh) (v4:Int)
def Z8o(E0:Zh)(E1:Zh)(E2:Zh)(v4:Int):LT Zmk Zh:=
.len Zz E0.Effects<|.br (decide (v4 < (E0.Effects.length:Int))) (.idx Zz E0.Effects v4 fun x3=>.lb 1005<|.lb 1030<|.apR Zu 176 ([]:List Zv) x3.Mods fun x5=>.dr (tm23 1000 3000 40100 40200)<|.rl Zu x5<|.rl Zu x5<|.rl Zu x5<|.dr [.lit]<|.apR Zz 560 E2.Effects [(⟨x3.Op,x3.Ref,x3.Amount,x3.Counter,x3.Zone,x3.Card,x3.Filter,x3.Pool,x5⟩:Z6)] fun x8=>.g0 (.L0 E0 E1 (⟨E2.Kind,E2.Filter,E2.Mods,E2.Price,E2.Slow,E2.Trigger,E2.May,E2.Specs,x8,E2.Replace⟩:Zh) (IntKind.wrap .i64 (v4+1))))<|.ret E2 (tm24 40200 5000)
def Zac8(a0:Zh):LT Zmk Zh:=
.lb 1001<|.lb 1002<|.lb 1003<|.lb 1007<|.apR Zu 176 ([]:List Zv) a0.Mods fun x1=>.lb 1012<|.apR Zao 144 ([]:List Za9) a0.Specs fun x4=>.go (.L0 a0 (⟨0,(⟨0,0,0,0,0,0,0,([]:By),0,0,(⟨0,0⟩:Zj),(⟨0,0⟩:Zj),(⟨0,0⟩:Zj)⟩:Zm),([]:List Zv),(⟨(⟨0,0,(⟨0,0,0,0,0⟩:A5 Int)⟩:Z2),false,false,0⟩:Ze0),false,(⟨0,0,(⟨0,0,0,0,0,0,0,([]:By),0,0,(⟨0,0⟩:Zj),(⟨0,0⟩:Zj),(⟨0,0⟩:Zj)⟩:Zm)⟩:Zb4),false,([]:List Za9),([]:List Z6),(⟨0,0,(⟨0,0,0,0,0,0,0,([]:By),0,0,(⟨0,0⟩:Zj),(⟨0,0⟩:Zj),(⟨0,0⟩:Zj)⟩:Zm),0,0,0,0⟩:Z4)⟩:Zh) (⟨a0.Kind,a0.Filter,x1,a0.Price,a0.Slow,a0.Trigger,a0.May,x4,([]:List Z6),a0.Replace⟩:Zh) 0) (tm22 1000 3000 40100 40200)
def Zyz:LF Zmk Zh := .m 166 [.c 2 88 true 72] true (fun r=>(Zyn r 5000)) (fun r=>(.agg (tm0 r 5000))) fun | .L0 E0 E1 E2 v4=>([1,1,1,1,1,0,1,4],⟨42,[(1,.bptr 3000 0),(2,.bptr 3001 0),(3,.bptr 3002 0),(4,wI v4)],((3000,.box (bx (Zr E0)))::(3001,.box (tm0 E1 40100))::(40117,wR Zu 20 E1.Mods)::(40148,wR Zao 18 E1.Specs)::(40149,wR Zz 64 E1.Effects)::(3002,.box (tm0 E2 40200))::(Zyn E2 40200))⟩,Z8o E0 E1 E2 v4)
def Z6e:=fun a0=>Zyz.run (Zac8 a0)
theorem Zaup(a0){r}(h:Z6e a0=some r):FnG PR 166 [] [wA (Zr a0)] (Zyn r 5000) (.agg (tm0 r 5000)):=Zyz.fn h
theorem Zayk(a0:Zh){r:Zh}(h:Z6e a0=some r):Fn PR 166 [wA (Zr a0)] (wA (Zr r)):=
 FnG.frozen (C:=LT.RL Zu r.Mods/\LT.RL Zao r.Specs/\LT.RL Zz r.Effects/\True) (Zaup a0 h) ⟨rfl,rfl,rfl,trivial⟩ (by kernel_rfl)
inductive Zml where
 | L0 (E0:Zg) (E1:Zb) (E2:Zb) (v4:Int)
def Z8p(E0:Zg)(E1:Zb)(E2:Zb)(v4:Int):LT Zml Zb:=
.len Zr E0.Abilities<|.br (decide (v4 < (E0.Abilities.length:Int))) (.idx Zr E0.Abilities v4 fun x3=>.call (Zayk x3) fun x5=>.dr [.lit]<|.apR Zr 640 E2.Abilities [x5] fun x7=>.g0 (.L0 E0 E1 (⟨E2.Name,E2.Cost,E2.Colors,E2.Line,E2.Power,E2.Tough,E2.Keys,x7,E2.Control⟩:Zb) (IntKind.wrap .i64 (v4+1))))<|.ret E2 [.relab 40211 5011,.relab 40215 5015]
def Zac9(a0:Zg):LT Zml Zb:=
.lb 1001<|.lb 1002<|.call (Za2s a0.Cost) fun x1=>.lb 1003<|.lb 1024<|.apR cS 16 ([]:Bys) a0.Line.Subs fun x3=>.go (.L0 a0 (⟨([]:By),(⟨0,0,(⟨0,0,0,0,0⟩:A5 Int)⟩:Z2),0,(⟨0,0,([]:Bys)⟩:Zaf),0,0,0,([]:List Zh),0⟩:Zb) (⟨a0.Name,a0.Cost,Zbl .or .i64 x1 a0.Color,(⟨a0.Line.Super,a0.Line.Types,x3⟩:Zaf),a0.Power,a0.Tough,a0.Keys,([]:List Zh),0⟩:Zb) 0) [.relab 1001 3000,.relab 1002 3001,.relab 1003 3002,.ownb 3001 11 40111 1,.ownb 3001 15 40115 72,.relab 1024 40211,.ownb 3002 15 40215 72]
def Zy0:LF Zml Zb := .m 109 [.c 2 72 true 17] true (fun r=>[(5011,wR cS 1 r.Line.Subs),(5015,wR Zr 72 r.Abilities)]) (fun r=>(.agg (tm2 r 5000))) fun | .L0 E0 E1 E2 v4=>([1,1,1,0,1,4],⟨50,[(1,.bptr 3000 0),(2,.bptr 3001 0),(3,.bptr 3002 0),(4,wI v4)],[(3000,.box (bx (Zs E0))),(3001,.box (tm2 E1 40100)),(40111,wR cS 1 E1.Line.Subs),(40115,wR Zr 72 E1.Abilities),(3002,.box (tm2 E2 40200)),(40211,wR cS 1 E2.Line.Subs),(40215,wR Zr 72 E2.Abilities)]⟩,Z8p E0 E1 E2 v4)
def Zanj:=fun a0=>Zy0.run (Zac9 a0)
theorem Zauq(a0){r}(h:Zanj a0=some r):FnG PR 109 [] [wA (Zs a0)] [(5011,wR cS 1 r.Line.Subs),(5015,wR Zr 72 r.Abilities)] (.agg (tm2 r 5000)):=Zy0.fn h
inductive Zvs where
 | L0 (v0:List Zg) (E0:Zc) (E1:Zb) (v5:Int)
 | L1 (E0:Zc) (E1:Zb) (E2:Zb)
def Zsl(E0:Zc)(E1:Zb)(E2:Zb):LT Zvs Zb:=
.cs (E0.Zone==0) (.k4 0<|.kn [0]<|.ret (⟨E2.Name,E2.Cost,E2.Colors,E2.Line,E2.Power,E2.Tough,E2.Keys,E2.Abilities,E0.Control⟩:Zb) [.relab 40211 5011,.relab 40215 5015])<|.k4 0<|.br (E0.Zone==5) (.ret (⟨E2.Name,E2.Cost,E2.Colors,E2.Line,E2.Power,E2.Tough,E2.Keys,E2.Abilities,E0.Control⟩:Zb) [.relab 40211 5011,.relab 40215 5015])<|.ret (⟨E2.Name,E2.Cost,E2.Colors,E2.Line,E2.Power,E2.Tough,E2.Keys,E2.Abilities,E0.Owner⟩:Zb) [.relab 40211 5011,.relab 40215 5015]
def Zx2(v0:List Zg)(E0:Zc)(E1:Zb)(v5:Int):LT Zvs Zb:=
.lb 1006<|.cs (decide (v5>=0)) (.k3 0<|.len Zs v0<|.k2 0<|.br (decide (v5 < (v0.length:Int))) (.idx Zs v0 v5 fun x4=>.callF (Zauq x4) 260000 fun x6=>.jn 0 (.L1 E0 E1 x6) [.relab 1006 3002,.relab 265011 40211,.relab 265015 40215] (Zsl E0 E1 x6))<|.jn 0 (.L1 E0 E1 (⟨([]:By),(⟨0,0,(⟨0,0,0,0,0⟩:A5 Int)⟩:Z2),0,(⟨0,0,([]:Bys)⟩:Zaf),0,0,0,([]:List Zh),0⟩:Zb)) (tm25 1000 3000 40200) (Zsl E0 E1 (⟨([]:By),(⟨0,0,(⟨0,0,0,0,0⟩:A5 Int)⟩:Z2),0,(⟨0,0,([]:Bys)⟩:Zaf),0,0,0,([]:List Zh),0⟩:Zb)))<|.k5 0<|.kn [0]<|.jn 0 (.L1 E0 E1 (⟨([]:By),(⟨0,0,(⟨0,0,0,0,0⟩:A5 Int)⟩:Z2),0,(⟨0,0,([]:Bys)⟩:Zaf),0,0,0,([]:List Zh),0⟩:Zb)) (tm25 1000 3000 40200) (Zsl E0 E1 (⟨([]:By),(⟨0,0,(⟨0,0,0,0,0⟩:A5 Int)⟩:Z2),0,(⟨0,0,([]:Bys)⟩:Zaf),0,0,0,([]:List Zh),0⟩:Zb))
def Za8b(a0:List Zg)(a1:Zc):LT Zvs Zb:=
.lb 1003<|.lb 1004<|.br (decide (a1.Copy < 0)) (.jn 0 (.L0 a0 a1 (⟨([]:By),(⟨0,0,(⟨0,0,0,0,0⟩:A5 Int)⟩:Z2),0,(⟨0,0,([]:Bys)⟩:Zaf),0,0,0,([]:List Zh),0⟩:Zb) a1.Card) (tm20 1000 3000 40100) (Zx2 a0 a1 (⟨([]:By),(⟨0,0,(⟨0,0,0,0,0⟩:A5 Int)⟩:Z2),0,(⟨0,0,([]:Bys)⟩:Zaf),0,0,0,([]:List Zh),0⟩:Zb) a1.Card))<|.jn 0 (.L0 a0 a1 (⟨([]:By),(⟨0,0,(⟨0,0,0,0,0⟩:A5 Int)⟩:Z2),0,(⟨0,0,([]:Bys)⟩:Zaf),0,0,0,([]:List Zh),0⟩:Zb) a1.Copy) (tm20 1000 3000 40100) (Zx2 a0 a1 (⟨([]:By),(⟨0,0,(⟨0,0,0,0,0⟩:A5 Int)⟩:Z2),0,(⟨0,0,([]:Bys)⟩:Zaf),0,0,0,([]:List Zh),0⟩:Zb) a1.Copy)
def Za8c:LF Zvs Zb := .m 60 [.c 4 72 true 17] true (fun r=>[(5011,wR cS 1 r.Line.Subs),(5015,wR Zr 72 r.Abilities)]) (fun r=>(.agg (tm2 r 5000))) fun | .L0 v0 E0 E1 v5=>([1,1,1],⟨41,[(0,wL Zs v0),(3,.bptr 3000 0),(4,.bptr 3001 0),(5,wI v5)],[(3000,.box (bx (Zi E0))),(3001,.box (tm2 E1 40100)),(40111,wR cS 1 E1.Line.Subs),(40115,wR Zr 72 E1.Abilities)]⟩,Zx2 v0 E0 E1 v5) | .L1 E0 E1 E2=>([1,1,1,1,1],⟨41,[(3,.bptr 3000 0),(4,.bptr 3001 0),(6,.bptr 3002 0)],[(3000,.box (bx (Zi E0))),(3001,.box (tm2 E1 40100)),(40111,wR cS 1 E1.Line.Subs),(40115,wR Zr 72 E1.Abilities),(3002,.box (tm2 E2 40200)),(40211,wR cS 1 E2.Line.Subs),(40215,wR Zr 72 E2.Abilities)]⟩,Zsl E0 E1 E2)
def Za8d:=fun a0 a1=>Za8c.run (Za8b a0 a1)
theorem Zbev(a0)(a1){r}(h:Za8d a0 a1=some r):FnG PR 60 [] [wL Zs a0,wA (Zi a1)] [(5011,wR cS 1 r.Line.Subs),(5015,wR Zr 72 r.Abilities)] (.agg (tm2 r 5000)):=Za8c.fn h
theorem Zx3(a0:List Zg)(a1:Zc){r:Zb}(h:Za8d a0 a1=some r):Fn PR 60 [wL Zs a0,wA (Zi a1)] (wA (Zp r)):=
 FnG.frozen (C:=LT.RL cS r.Line.Subs/\LT.RL Zr r.Abilities/\True) (Zbev a0 a1 h) ⟨rfl,rfl,trivial⟩ (by kernel_rfl)
inductive Zjb where
 | L0 (v0:List Zg) (E0:Za) (v5:List Z8) (v6:Int)
 | L1 (v0:List Zg) (E0:Za) (v5:List Z8) (v6:Int) (E1:Zc) (E2:Zb) (v9:Int)
 | L2 (E0:Za) (v5:List Z8) (v11:Int)
def Zada(v0:List Zg)(E0:Za)(v5:List Z8)(v6:Int):LT Zjb (List Z8):=
.len Zi E0.Objects<|.br (decide (v6 < (E0.Objects.length:Int))) (.idx Zi E0.Objects v6 fun x3=>.lb 1007<|.br (x3.Zone != 0) (.g0 (.L0 v0 E0 v5 (IntKind.wrap .i64 (v6+1))))<|.call (Zx3 v0 x3) fun x8=>.lb 1008<|.go (.L1 v0 E0 v5 v6 x3 x8 0) [.relab 1007 3001,.relab 1008 3002])<|.g0 (.L2 E0 v5 0)
def Zadb(v0:List Zg)(E0:Za)(v5:List Z8)(v6:Int)(E1:Zc)(E2:Zb)(v9:Int):LT Zjb (List Z8):=
.len Zr E2.Abilities<|.br (decide (v9 < (E2.Abilities.length:Int))) (.idx Zr E2.Abilities v9 fun x3=>.lb 1010<|.br (x3.Kind==1) (.dr [.lit]<|.apR Zt 224 v5 [(⟨E1.Id,v9,E1.Control,E1.Stamp,false,([]:List Int),x3.Filter,x3.Mods⟩:Z8)] fun x6=>.g0 (.L1 v0 E0 x6 v6 E1 E2 (IntKind.wrap .i64 (v9+1))))<|.g0 (.L1 v0 E0 v5 v6 E1 E2 (IntKind.wrap .i64 (v9+1))))<|.g0 (.L0 v0 E0 v5 (IntKind.wrap .i64 (v6+1)))
def Zadc(E0:Za)(v5:List Z8)(v11:Int):LT Zjb (List Z8):=
.len Z7 E0.Conts<|.br (decide (v11 < (E0.Conts.length:Int))) (.idx Z7 E0.Conts v11 fun x3=>.lb 1012<|.dr [.lit]<|.apR Zt 224 v5 [(⟨x3.Source,-1,x3.Control,x3.Stamp,true,x3.Objects,(⟨0,0,0,0,0,0,0,([]:By),0,0,(⟨0,0⟩:Zj),(⟨0,0⟩:Zj),(⟨0,0⟩:Zj)⟩:Zm),x3.Mods⟩:Z8)] fun x5=>.g0 (.L2 E0 x5 (IntKind.wrap .i64 (v11+1))))<|.ret v5 [.relab 20005 5000]
def Zahj(a0:List Zg)(a1:Za):LT Zjb (List Z8):=
.lb 1003<|.lb 1013<|.go (.L0 a0 a1 ([]:List Z8) 0) [.relab 1003 3000,.relab 1013 20005]
def Zor:LF Zjb (List Z8) := .m 59 [.t 4] true (fun r=>[(5000,wR Zt 23 r)]) (fun r=>(wO Zt 5000 r)) fun | .L0 v0 E0 v5 v6=>([1,1,0,1,4],⟨89,[(0,wL Zs v0),(3,.bptr 3000 0),(5,wO Zt 20005 v5),(6,wI v6)],[(3000,.box (bx (Zo E0))),(20005,wR Zt 23 v5)]⟩,Zada v0 E0 v5 v6) | .L1 v0 E0 v5 v6 E1 E2 v9=>([1,1,0,1,4,5,1,0,4,1,1,1,1,4],⟨89,[(0,wL Zs v0),(3,.bptr 3000 0),(5,wO Zt 20005 v5),(6,wI v6),(7,.bptr 3001 0),(8,.bptr 3002 0),(9,wI v9)],[(3000,.box (bx (Zo E0))),(20005,wR Zt 23 v5),(3001,.box (bx (Zi E1))),(3002,.box (bx (Zp E2)))]⟩,Zadb v0 E0 v5 v6 E1 E2 v9) | .L2 E0 v5 v11=>([1,1,1,0,1,4],⟨89,[(3,.bptr 3000 0),(5,wO Zt 20005 v5),(11,wI v11)],[(3000,.box (bx (Zo E0))),(20005,wR Zt 23 v5)]⟩,Zadc E0 v5 v11)
def Zaa6:=fun a0 a1=>Zor.run (Zahj a0 a1)
theorem Zayl(a0)(a1){r}(h:Zaa6 a0 a1=some r):FnG PR 59 [] [wL Zs a0,wA (Zo a1)] [(5000,wR Zt 23 r)] (wO Zt 5000 r):=Zor.fn h
theorem Za2t(a0:List Zg)(a1:Za){r:List Z8}(h:Zaa6 a0 a1=some r):Fn PR 59 [wL Zs a0,wA (Zo a1)] (wL Zt r):=
 FnG.frozen (C:=LT.RL Zt r/\True) (Zayl a0 a1 h) ⟨rfl,trivial⟩ (by kernel_rfl)
inductive Zqn where
 | L0 (v0:List Zg) (E0:Za) (E1:Zk) (E2:Zk) (v6:Int)
def Zahk(v0:List Zg)(E0:Za)(E1:Zk)(E2:Zk)(v6:Int):LT Zqn Zk:=
.len Zi E0.Objects<|.br (decide (v6 < (E0.Objects.length:Int))) (.idx Zi E0.Objects v6 fun x3=>.call (Zx3 v0 x3) fun x5=>.dr [.lit]<|.apR Zp 176 E2.All [x5] fun x7=>.g0 (.L0 v0 E0 E1 (⟨E2.S,x7,E2.L,E2.Begun,E2.Sets,E2.Blank⟩:Zk) (IntKind.wrap .i64 (v6+1))))<|.len Zt E2.L<|.mk cB 1034 1 false (E2.L.length:Int) (E2.L.length:Int) fun x13=>.len Zt E2.L<|.mk (cL (cI .i64)) 1039 24 [] (E2.L.length:Int) (E2.L.length:Int) fun x15=>.len Zi E0.Objects<|.mk cB 1044 1 false (E0.Objects.length:Int) (E0.Objects.length:Int) fun x17=>.ret (⟨E2.S,E2.All,E2.L,x13,x15,x17⟩:Zk) [.relab 40219 5019,.relab 1034 5021,.relab 1039 5022,.relab 1044 5023]
def Zank(a0:List Zg)(a1:Za):LT Zqn Zk:=
.lb 1003<|.lb 1004<|.call (Za2t a0 a1) fun x1=>.lb 1005<|.go (.L0 a0 a1 (⟨(⟨([]:List Z9),([]:List Zc),([]:List Int),([]:List Int),([]:List Zai),([]:List Zad),([]:List Zap),0,0,0,false,0,0,0,0,0,([]:List Int),0,0⟩:Za),([]:List Zb),([]:List Z8),([]:List Bool),([]:List (List Int)),([]:List Bool)⟩:Zk) (⟨a1,([]:List Zb),x1,([]:List Bool),([]:List (List Int)),([]:List Bool)⟩:Zk) 0) [.relab 1003 3000,.relab 1004 3001,.relab 1005 3002,.ownb 3001 0 40100 14,.ownb 3001 1 40101 19,.ownb 3001 2 40102 1,.ownb 3001 3 40103 1,.ownb 3001 4 40104 94,.ownb 3001 5 40105 89,.ownb 3001 6 40106 6,.ownb 3001 16 40116 1,.ownb 3001 19 40119 17,.ownb 3001 20 40120 23,.ownb 3001 21 40121 1,.ownb 3001 22 40122 1,.ownb 3001 23 40123 1,.ownb 3002 19 40219 17,.ownb 3002 21 40221 1,.ownb 3002 22 40222 1,.ownb 3002 23 40223 1]
def Z6f:LF Zqn Zk := .m 23 [.c 4 93 true 24] true (fun r=>(tm30 r 5000)) (fun r=>(.agg (tm7 r 5000))) fun | .L0 v0 E0 E1 E2 v6=>([1,1,0,1,4],⟨47,[(0,wL Zs v0),(3,.bptr 3000 0),(4,.bptr 3001 0),(5,.bptr 3002 0),(6,wI v6)],((3000,.box (bx (Zo E0)))::(3001,.box (tm5 E1 40100))::(40100,wR Zq 14 E1.S.Players)::(40101,wR Zi 19 E1.S.Objects)::(40102,wR (cI .i64) 1 E1.S.Battlefield)::(40103,wR (cI .i64) 1 E1.S.Exile)::(40104,wR Z3 94 E1.S.Stack)::(40105,wR Zx 89 E1.S.Waiting)::(40106,wR Z7 6 E1.S.Conts)::(40116,wR (cI .i64) 1 E1.S.Extra)::(40119,wR Zp 17 E1.All)::(40120,wR Zt 23 E1.L)::(40121,wR cB 1 E1.Begun)::(40122,wR (cL (cI .i64)) 1 E1.Sets)::(40123,wR cB 1 E1.Blank)::(3002,.box (tm7 E2 40200))::(tm30 E2 40200))⟩,Zahk v0 E0 E1 E2 v6)
def Za1e:=fun a0 a1=>Z6f.run (Zank a0 a1)
theorem Za2u(a0)(a1){r}(h:Za1e a0 a1=some r):FnG PR 23 [] [wL Zs a0,wA (Zo a1)] (tm30 r 5000) (.agg (tm7 r 5000)):=Z6f.fn h
def Z6g(a0:Int):LT Empty Int:=
.br (decide (a0 > 1000000)) (.rt 1000000)<|.br (decide (a0 < (-1000000))) (.rt (-1000000))<|.rt a0
def Zanl:LF Empty Int := .z0 89 [.t 2] wI
def Z40:=fun a0=>Zanl.run (Z6g a0)
theorem Ze1(a0){r}(h:Z40 a0=some r):Fn PR 89 [wI a0] (wI r):=Zanl.fn h
def Za1f(a0:Int)(a1:Int):LT Empty Int:=
.call (Ze1 a0) fun x1=>.call (Ze1 a1) fun x3=>.call (Ze1 (IntKind.wrap .i64 (x1 - x3))) fun x7=>.rt x7
def Za1g:LF Empty Int := .z0 41 [.t 4] wI
def Zbc1:=fun a0 a1=>Za1g.run (Za1f a0 a1)
theorem Zaur(a0)(a1){r}(h:Zbc1 a0 a1=some r):Fn PR 41 [wI a0,wI a1] (wI r):=Za1g.fn h
def Zanm(a0:A3 Int):LT Empty Int:=
.lb 1001<|.idA (Zn.int .i64) (A3.list a0) 0 (bx ((cA3 (cI .i64)) a0)) 0 3 fun x1=>.ldC (Zn.int .i64) 4 x1 0<|.idA (Zn.int .i64) (A3.list a0) 1 (bx ((cA3 (cI .i64)) a0)) 0 3 fun x3=>.ldC (Zn.int .i64) 6 x3 1<|.call (Zaur x1 x3) fun x5=>.rt x5
def Zann:LF Empty Int := .z0 110 [.t 2] wI
def Za1h:=fun a0=>Zann.run (Zanm a0)
theorem Za8e(a0){r}(h:Za1h a0=some r):Fn PR 110 [wA ((cA3 (cI .i64)) a0)] (wI r):=Zann.fn h
def Zahl(a0:Int)(a1:Int):LT Empty Int:=
.call (Ze1 a0) fun x1=>.call (Ze1 a1) fun x3=>.call (Ze1 (IntKind.wrap .i64 (x1+x3))) fun x7=>.rt x7
def Za1i:LF Empty Int := .z0 43 [.t 4] wI
def Zakt:=fun a0 a1=>Za1i.run (Zahl a0 a1)
theorem Zis(a0)(a1){r}(h:Zakt a0 a1=some r):Fn PR 43 [wI a0,wI a1] (wI r):=Za1i.fn h
inductive Zmm where
 | L0 (E0:Zk) (E1:Zk) (E2:Zk) (v4:Int)
def Z8q(E0:Zk)(E1:Zk)(E2:Zk)(v4:Int):LT Zmm Zk:=
.len Zp E0.All<|.br (decide (v4 < (E0.All.length:Int))) (.idx Zp E0.All v4 fun x3=>.lb 1005<|.idx Zi E0.S.Objects v4 fun x5=>.lb 1006<|.cs (x5.Zone==0) (.k4 1<|.dc ((1:Int)≠0) rfl<|.kg 1<|.dc ((2:Int)≠0) rfl<|.k2 1<|.br ((Int.tmod (Zn9 .i64 x3.Line.Types 1) 2)==1) (.call (Za8e x5.Counters) fun x9=>.call (Zis x3.Power x9) fun x11=>.call (Zis x3.Tough x9) fun x13=>.dr [.lit]<|.apR Zp 176 E2.All [(⟨x3.Name,x3.Cost,x3.Colors,x3.Line,x11,x13,x3.Keys,x3.Abilities,x3.Control⟩:Zb)] fun x15=>.g0 (.L0 E0 E1 (⟨E2.S,x15,E2.L,E2.Begun,E2.Sets,E2.Blank⟩:Zk) (IntKind.wrap .i64 (v4+1))))<|.dr [.lit]<|.apR Zp 176 E2.All [x3] fun x20=>.g0 (.L0 E0 E1 (⟨E2.S,x20,E2.L,E2.Begun,E2.Sets,E2.Blank⟩:Zk) (IntKind.wrap .i64 (v4+1))))<|.k5 1<|.k2 1<|.kn [0]<|.dr [.lit]<|.apR Zp 176 E2.All [x3] fun x25=>.g0 (.L0 E0 E1 (⟨E2.S,x25,E2.L,E2.Begun,E2.Sets,E2.Blank⟩:Zk) (IntKind.wrap .i64 (v4+1))))<|.ret E2 [.relab 40219 5019]
def Zadd(a0:Zk):LT Zmm Zk:=
.lb 1001<|.lb 1002<|.lb 1003<|.go (.L0 a0 (⟨(⟨([]:List Z9),([]:List Zc),([]:List Int),([]:List Int),([]:List Zai),([]:List Zad),([]:List Zap),0,0,0,false,0,0,0,0,0,([]:List Int),0,0⟩:Za),([]:List Zb),([]:List Z8),([]:List Bool),([]:List (List Int)),([]:List Bool)⟩:Zk) (⟨a0.S,([]:List Zb),a0.L,a0.Begun,a0.Sets,a0.Blank⟩:Zk) 0) [.relab 1001 3000,.relab 1002 3001,.relab 1003 3002,.ownb 3001 0 40100 14,.ownb 3001 1 40101 19,.ownb 3001 2 40102 1,.ownb 3001 3 40103 1,.ownb 3001 4 40104 94,.ownb 3001 5 40105 89,.ownb 3001 6 40106 6,.ownb 3001 16 40116 1,.ownb 3001 19 40119 17,.ownb 3001 20 40120 23,.ownb 3001 21 40121 1,.ownb 3001 22 40122 1,.ownb 3001 23 40123 1,.ownb 3002 19 40219 17]
def Zy1:LF Zmm Zk := .m 61 [.c 2 93 true 24] true (fun r=>[(5019,wR Zp 17 r.All)]) (fun r=>(.agg (tm8 r 5000))) fun | .L0 E0 E1 E2 v4=>([1,1,1,0,1,4],⟨59,[(1,.bptr 3000 0),(2,.bptr 3001 0),(3,.bptr 3002 0),(4,wI v4)],[(3000,.box (bx (Zak E0))),(3001,.box (tm5 E1 40100)),(40100,wR Zq 14 E1.S.Players),(40101,wR Zi 19 E1.S.Objects),(40102,wR (cI .i64) 1 E1.S.Battlefield),(40103,wR (cI .i64) 1 E1.S.Exile),(40104,wR Z3 94 E1.S.Stack),(40105,wR Zx 89 E1.S.Waiting),(40106,wR Z7 6 E1.S.Conts),(40116,wR (cI .i64) 1 E1.S.Extra),(40119,wR Zp 17 E1.All),(40120,wR Zt 23 E1.L),(40121,wR cB 1 E1.Begun),(40122,wR (cL (cI .i64)) 1 E1.Sets),(40123,wR cB 1 E1.Blank),(3002,.box (tm8 E2 40200)),(40219,wR Zp 17 E2.All)]⟩,Z8q E0 E1 E2 v4)
def Zano:=fun a0=>Zy1.run (Zadd a0)
theorem Zaus(a0){r}(h:Zano a0=some r):FnG PR 61 [] [wA (Zak a0)] [(5019,wR Zp 17 r.All)] (.agg (tm8 r 5000)):=Zy1.fn h
inductive Zkb where
 | L0 (v3:Int) (v6:Bool)
 | L1 (v3:Int) (v11:Bool)
 | L2 (v3:Int) (v14:Bool)
def Zkv(v3:Int)(v14:Bool):LT Zkb Int:=
.br v14 (.rt 4)<|.br (v3==11) (.rt 5)<|.br (v3==12) (.rt 6)<|.br (v3==13) (.rt 7)<|.br (v3==14) (.rt 8)<|.rt 0
def Zos(v3:Int)(v11:Bool):LT Zkb Int:=
.br v11 (.rt 3)<|.br (v3==8) (.j0 (.L2 v3 (v3==8)) (Zkv v3 (v3==8)))<|.br (v3==9) (.j0 (.L2 v3 (v3==9)) (Zkv v3 (v3==9)))<|.j0 (.L2 v3 (v3==10)) (Zkv v3 (v3==10))
def Zjc(v3:Int)(v6:Bool):LT Zkb Int:=
.br v6 (.rt 2)<|.br (v3==6) (.j0 (.L1 v3 (v3==6)) (Zos v3 (v3==6)))<|.j0 (.L1 v3 (v3==7)) (Zos v3 (v3==7))
def Zanp(a0:Int):LT Zkb Int:=
.br (a0==1) (.rt 1)<|.br (a0==2) (.j0 (.L0 a0 (a0==2)) (Zjc a0 (a0==2)))<|.br (a0==3) (.j0 (.L0 a0 (a0==3)) (Zjc a0 (a0==3)))<|.br (a0==4) (.j0 (.L0 a0 (a0==4)) (Zjc a0 (a0==4)))<|.j0 (.L0 a0 (a0==5)) (Zjc a0 (a0==5))
def Zanq:LF Zkb Int := .m0 111 [.t 2] wI fun | .L0 v3 v6=>([1,0,1,4,1,3,1],⟨26,[(3,wI v3),(6,wB v6)],[]⟩,Zjc v3 v6) | .L1 v3 v11=>([1,0,1,4,1,3,1,3,1],⟨26,[(3,wI v3),(11,wB v11)],[]⟩,Zos v3 v11) | .L2 v3 v14=>([1,0,1,4,1,3,1,3,1,3,1],⟨26,[(3,wI v3),(14,wB v14)],[]⟩,Zkv v3 v14)
def Zdm:=fun a0=>Zanq.run (Zanp a0)
theorem Ztu(a0){r}(h:Zdm a0=some r):Fn PR 111 [wI a0] (wI r):=Zanq.fn h
inductive Zmn where
 | L0 (v1:Int) (E0:Z8) (v5:Int)
def Z8r(v1:Int)(E0:Z8)(v5:Int):LT Zmn Bool:=
.len Zu E0.Mods<|.br (decide (v5 < (E0.Mods.length:Int))) (.idx Zu E0.Mods v5 fun x3=>.call (Ztu x3.Kind) fun x5=>.br (x5==v1) (.rt true)<|.g0 (.L0 v1 E0 (IntKind.wrap .i64 (v5+1))))<|.rt false
def Zade(a0:Z8)(a1:Int):LT Zmn Bool:=
.lb 1002<|.go (.L0 a1 a0 0) [.relab 1002 3000]
def Zy2:LF Zmn Bool := .m0 62 [.t 4] wB fun | .L0 v1 E0 v5=>([1,0,1,4],⟨22,[(1,wI v1),(2,.bptr 3000 0),(5,wI v5)],[(3000,.box (bx (Zt E0)))]⟩,Z8r v1 E0 v5)
def Zanr:=fun a0 a1=>Zy2.run (Zade a0 a1)
theorem Zaym(a0)(a1){r}(h:Zanr a0 a1=some r):Fn PR 62 [wA (Zt a0),wI a1] (wB r):=Zy2.fn h
inductive Zqo where
 | L0 (v1:Int) (E0:Za) (v5:Int)
def Zahm(v1:Int)(E0:Za)(v5:Int):LT Zqo Int:=
.len Zi E0.Objects<|.br (decide (v5 < (E0.Objects.length:Int))) (.idx Zi E0.Objects v5 fun x3=>.br (x3.Id==v1) (.rt v5)<|.g0 (.L0 v1 E0 (IntKind.wrap .i64 (v5+1))))<|.rt (-1)
def Zans(a0:Za)(a1:Int):LT Zqo Int:=
.lb 1002<|.go (.L0 a1 a0 0) [.relab 1002 3000]
def Z6h:LF Zqo Int := .m0 169 [.t 4] wI fun | .L0 v1 E0 v5=>([1,0,1,4],⟨22,[(1,wI v1),(2,.bptr 3000 0),(5,wI v5)],[(3000,.box (bx (Zo E0)))]⟩,Zahm v1 E0 v5)
def Za1j:=fun a0 a1=>Z6h.run (Zans a0 a1)
theorem Zahn(a0)(a1){r}(h:Za1j a0 a1=some r):Fn PR 169 [wA (Zo a0),wI a1] (wI r):=Z6h.fn h
def Zaho(a0:Zk)(a1:Int):LT Empty Bool:=
.lb 1002<|.idx Zt a0.L a1 fun x1=>.cs x1.Fixed (.k5 0<|.kg 0<|.kn [0]<|.rt true)<|.k4 0<|.idx cB a0.Begun a1 fun x4=>.k2 0<|.br x4 (.rt true)<|.ag Zt x1 0<|.call (Zahn a0.S x1.Source) fun x7=>.cs (decide (x7 < 0)) (.k5 2<|.k2 2<|.rt true)<|.k4 2<|.idx cB a0.Blank x7 fun x10=>.k3 2<|.rt (!x10)
def Zahp:LF Empty Bool := .z0 114 [.t 4] wB
def Zaut:=fun a0 a1=>Zahp.run (Zaho a0 a1)
theorem Zq5(a0)(a1){r}(h:Zaut a0 a1=some r):Fn PR 114 [wA (Zak a0),wI a1] (wB r):=Zahp.fn h
inductive Zqp where
 | L0 (v0:List Int) (v1:Int) (v5:Int)
def Zahq(v0:List Int)(v1:Int)(v5:Int):LT Zqp Int:=
.len (cI .i64) v0<|.br (decide (v5 < (v0.length:Int))) (.idx (cI .i64) v0 v5 fun x3=>.br (x3==v1) (.rt v5)<|.g0 (.L0 v0 v1 (IntKind.wrap .i64 (v5+1))))<|.rt (-1)
def Zant(a0:List Int)(a1:Int):LT Zqp Int:=
.g0 (.L0 a0 a1 0)
def Z6i:LF Zqp Int := .m0 172 [.t 4] wI fun | .L0 v0 v1 v5=>([1,0,1,4],⟨19,[(0,wL (cI .i64) v0),(1,wI v1),(5,wI v5)],[]⟩,Zahq v0 v1 v5)
def Za1k:=fun a0 a1=>Z6i.run (Zant a0 a1)
theorem Za8f(a0)(a1){r}(h:Za1k a0 a1=some r):Fn PR 172 [wL (cI .i64) a0,wI a1] (wI r):=Z6i.fn h
def Za1l(a0:List Int)(a1:Int):LT Empty Bool:=
.call (Za8f a0 a1) fun x1=>.rt (decide (x1>=0))
def Za1m:LF Empty Bool := .z0 118 [.t 4] wB
def Zbc2:=fun a0 a1=>Za1m.run (Za1l a0 a1)
theorem Zauu(a0)(a1){r}(h:Zbc2 a0 a1=some r):Fn PR 118 [wL (cI .i64) a0,wI a1] (wB r):=Za1m.fn h
def Za1n(a0:Zk)(a1:Int):LT Empty Int:=
.lb 1002<|.idx Zt a0.L a1 fun x1=>.call (Zahn a0.S x1.Source) fun x3=>.ag Zt x1 0<|.cs x1.Fixed (.k3 0<|.kn [0]<|.ag Zt x1 0<|.rt x1.Control)<|.k3 0<|.br (decide (x3 < 0)) (.ag Zt x1 0<|.rt x1.Control)<|.idx Zp a0.All x3 fun x7=>.rt x7.Control
def Za1o:LF Empty Int := .z0 117 [.t 4] wI
def Zbc3:=fun a0 a1=>Za1o.run (Za1n a0 a1)
theorem Z0q(a0)(a1){r}(h:Zbc3 a0 a1=some r):Fn PR 117 [wA (Zak a0),wI a1] (wI r):=Za1o.fn h
def Za1p(a0:Int)(a1:Int)(a2:Int):LT Empty Bool:=
.br (a2==1) (.rt (a0==a1))<|.cs (a2 != 2) (.k4 1<|.rt true)<|.k4 1<|.rt (a0 != a1)
def Za1q:LF Empty Bool := .z0 210 [.t 6] wB
def Zayn:=fun a0 a1 a2=>Za1q.run (Za1p a0 a1 a2)
theorem Zbew(a0)(a1)(a2){r}(h:Zayn a0 a1 a2=some r):Fn PR 210 [wI a0,wI a1,wI a2] (wB r):=Za1q.fn h
def Zauv(a0:Int)(a1:Int)(a2:Int):LT Empty Bool:=
.br (a2==1) (.rt (a0==a1))<|.cs (a2 != 2) (.k4 1<|.rt true)<|.k4 1<|.rt (a0 != a1)
def Zauw:LF Empty Bool := .z0 211 [.t 6] wB
def Zap0:=fun a0 a1 a2=>Zauw.run (Zauv a0 a1 a2)
theorem Zbbn(a0)(a1)(a2){r}(h:Zap0 a0 a1 a2=some r):Fn PR 211 [wI a0,wI a1,wI a2] (wB r):=Zauw.fn h
def Za1r(a0:Bool)(a1:Int):LT Empty Bool:=
.br (a1==1) (.rt a0)<|.cs (a1 != 2) (.k3 1<|.rt true)<|.k3 1<|.rt (!a0)
def Za1s:LF Empty Bool := .z0 212 [.t 4] wB
def Zayo:=fun a0 a1=>Za1s.run (Za1r a0 a1)
theorem Zbex(a0)(a1){r}(h:Zayo a0 a1=some r):Fn PR 212 [wB a0,wI a1] (wB r):=Za1s.fn h
def Za2v(a0:Int)(a1:Int):LT Empty Bool:=
.rt ((Zbl .and .i64 a0 a1) != 0)
def Zadf:LF Empty Bool := .z0 213 [.t 4] wB
def Z6j:=fun a0 a1=>Zadf.run (Za2v a0 a1)
theorem Zhf(a0)(a1){r}(h:Z6j a0 a1=some r):Fn PR 213 [wI a0,wI a1] (wB r):=Zadf.fn h
def Z2a(a0:Zaf)(a1:By):LT Empty Bool:=
.lb 1002<|.call (Z1i a0.Subs a1) fun x1=>.rt (decide (x1>=0))
def Zahr:LF Empty Bool := .z0 214 [.t 4] wB
def Z0r:=fun a0 a1=>Zahr.run (Z2a a0 a1)
theorem Zadg(a0)(a1){r}(h:Z0r a0 a1=some r):Fn PR 214 [wA (Zfv a0),wS a1] (wB r):=Zahr.fn h
def Zbi2(a0:Int)(a1:Int):LT Empty Bool:=
.rt ((Zbl .and .i64 a0 a1)==a1)
def Za1t:LF Empty Bool := .z0 215 [.t 4] wB
def Zbc4:=fun a0 a1=>Za1t.run (Zbi2 a0 a1)
theorem Zaux(a0)(a1){r}(h:Zbc4 a0 a1=some r):Fn PR 215 [wI a0,wI a1] (wB r):=Za1t.fn h
def Zanu(a0:Zj)(a1:Int):LT Empty Bool:=
.lb 1002<|.br (a0.Kind==0) (.rt true)<|.br (a0.Kind==1) (.rt (decide (a1>=a0.N)))<|.br (a0.Kind==2) (.rt (decide (a1<=a0.N)))<|.br (a0.Kind==3) (.rt (a1==a0.N))<|.rt false
def Zanv:LF Empty Bool := .z0 251 [.t 4] wB
def Zahs:=fun a0 a1=>Zanv.run (Zanu a0 a1)
theorem Zot(a0)(a1){r}(h:Zahs a0 a1=some r):Fn PR 251 [wA (Zcf a0),wI a1] (wB r):=Zanv.fn h
def Zaht(a0:Int)(a1:Int):LT Empty Int:=
.call (Ze1 a0) fun x1=>.call (Ze1 a1) fun x3=>.call (Ze1 (IntKind.wrap .i64 (x1*x3))) fun x7=>.rt x7
def Za1u:LF Empty Int := .z0 42 [.t 4] wI
def Zaku:=fun a0 a1=>Za1u.run (Zaht a0 a1)
theorem Zaa7(a0)(a1){r}(h:Zaku a0 a1=some r):Fn PR 42 [wI a0,wI a1] (wI r):=Za1u.fn h
inductive Z6k where
 | L0 (v1:Int) (E0:Z2) (v5:Int) (v6:Int)
def Zou(v1:Int)(E0:Z2)(v5:Int)(v6:Int):LT Z6k Int:=
.br (decide (v6 < 5)) (.idA (Zn.int .i64) (A5.list E0.Color) v6 (bx (Zav E0)) 2 7 fun x2=>.ldC (Zn.int .i64) 20 x2 0<|.call (Zis v5 x2) fun x4=>.g0 (.L0 v1 E0 x4 (IntKind.wrap .i64 (v6+1))))<|.br (decide (v1 < 0)) (.call (Zaa7 E0.X 0) fun x9=>.call (Zis v5 x9) fun x11=>.rt x11)<|.call (Zaa7 E0.X v1) fun x13=>.call (Zis v5 x13) fun x15=>.rt x15
def Zanw(a0:Z2)(a1:Int):LT Z6k Int:=
.lb 1002<|.call (Zw9 a0) fun x1=>.br (!x1) (.rt 0)<|.go (.L0 a1 a0 a0.Generic 0) [.relab 1002 3000]
def Zws:LF Z6k Int := .m0 252 [.t 4] wI fun | .L0 v1 E0 v5 v6=>([1,1,1,0,1,4],⟨30,[(1,wI v1),(2,.bptr 3000 0),(5,wI v5),(6,wI v6)],[(3000,.box (bx (Zav E0)))]⟩,Zou v1 E0 v5 v6)
def Zahu:=fun a0 a1=>Zws.run (Zanw a0 a1)
theorem Z2b(a0)(a1){r}(h:Zahu a0 a1=some r):Fn PR 252 [wA (Zav a0),wI a1] (wI r):=Zws.fn h
inductive Z2c where
 | L0 (E0:Zb) (E1:Zm) (v5:Bool)
def Zjt(E0:Zb)(E1:Zm)(v5:Bool):LT Z2c Bool:=
.cs (E1.Tough.Kind != 0) (.k2 0<|.cs v5 (.k5 1<|.call (Zot E1.Tough E0.Tough) fun x3=>.kg 0<|.kg 1<|.k2 0<|.br (!x3) (.rt false)<|.call (Z2b E0.Cost 0) fun x6=>.call (Zot E1.Value x6) fun x8=>.rt x8)<|.k5 1<|.kg 0<|.kg 1<|.k2 0<|.br (!false) (.rt false)<|.call (Z2b E0.Cost 0) fun x11=>.call (Zot E1.Value x11) fun x13=>.rt x13)<|.k5 0<|.kn [0]<|.call (Z2b E0.Cost 0) fun x15=>.call (Zot E1.Value x15) fun x17=>.rt x17
def Zahv(a0:Zb)(a1:Zm):LT Z2c Bool:=
.lb 1002<|.lb 1003<|.call (Zhf a0.Line.Types 1) fun x1=>.cs (a1.Power.Kind != 0) (.k2 0<|.cs x1 (.k5 1<|.call (Zot a1.Power a0.Power) fun x5=>.kg 0<|.kg 1<|.k2 0<|.br (!x5) (.rt false)<|.jn 0 (.L0 a0 a1 x1) [.relab 1002 3000,.relab 1003 3001] (Zjt a0 a1 x1))<|.k5 1<|.kg 0<|.kg 1<|.k2 0<|.br (!false) (.rt false)<|.jn 0 (.L0 a0 a1 x1) [.relab 1002 3000,.relab 1003 3001] (Zjt a0 a1 x1))<|.k5 0<|.kn [0]<|.jn 0 (.L0 a0 a1 x1) [.relab 1002 3000,.relab 1003 3001] (Zjt a0 a1 x1)
def Z2d:LF Z2c Bool := .m0 216 [.t 4] wB fun | .L0 E0 E1 v5=>([1,1,1],⟨46,[(2,.bptr 3000 0),(3,.bptr 3001 0),(5,wB v5)],[(3000,.box (bx (Zp E0))),(3001,.box (bx (Z0 E1)))]⟩,Zjt E0 E1 v5)
def Zaa8:=fun a0 a1=>Z2d.run (Zahv a0 a1)
theorem Zadh(a0)(a1){r}(h:Zaa8 a0 a1=some r):Fn PR 216 [wA (Zp a0),wA (Z0 a1)] (wB r):=Z2d.fn h
inductive Ztv where
 | L0 (E0:Zb) (E1:Zm)
 | L1 (E0:Zb) (E1:Zm)
def Zmo(E0:Zb)(E1:Zm):LT Ztv Bool:=
.cs (!(E1.Sub==([]:By))) (.k5 0<|.call (Zadg E0.Line E1.Sub) fun x2=>.k2 0<|.cs (!x2) (.k5 1<|.k2 1<|.kn [0]<|.rt false)<|.k5 1<|.call (Zaux E0.Keys E1.Keys) fun x5=>.k2 1<|.br (!x5) (.rt false)<|.call (Zadh E0 E1) fun x8=>.rt x8)<|.k5 0<|.k2 0<|.b5 false<|.call (Zaux E0.Keys E1.Keys) fun x10=>.b2 false<|.br (!x10) (.rt false)<|.call (Zadh E0 E1) fun x13=>.rt x13
def Zmp(E0:Zb)(E1:Zm):LT Ztv Bool:=
.cs (E1.Colors != 0) (.k5 0<|.call (Zhf E0.Colors E1.Colors) fun x2=>.k2 0<|.cs (!x2) (.k5 1<|.kg 1<|.kn [0]<|.rt false)<|.k5 1<|.call (Zhf E0.Colors E1.NotColors) fun x5=>.kg 1<|.br x5 (.rt false)<|.j0 (.L1 E0 E1) (Zmo E0 E1))<|.k5 0<|.k2 0<|.b5 false<|.call (Zhf E0.Colors E1.NotColors) fun x8=>.kb false<|.br x8 (.rt false)<|.j0 (.L1 E0 E1) (Zmo E0 E1)
def Zahw(a0:Zc)(a1:Zb)(a2:Int)(a3:Int)(a4:Zm):LT Ztv Bool:=
.lb 1005<|.lb 1006<|.lb 1009<|.call (Zg3 a4) fun x1=>.cs (!x1) (.k5 0<|.kg 0<|.b16 true<|.b5 true<|.b2 true<|.kn [0]<|.rt false)<|.k5 0<|.kg 0<|.cs (a0.Zone != a4.Zone) (.k8 1<|.b8 true<|.b5 true<|.b2 true<|.kn [0]<|.rt false)<|.k5 1<|.kg 1<|.call (Zbew a1.Control a2 a4.Who) fun x5=>.k2 1<|.cs (!x5) (.k8 2<|.b5 true<|.b2 true<|.kn [0]<|.rt false)<|.k5 2<|.kg 2<|.call (Zbbn a0.Id a3 a4.Self) fun x8=>.k2 2<|.cs (!x8) (.k5 3<|.k2 3<|.kn [0]<|.rt false)<|.k5 3<|.call (Zbex a0.Tapped a4.Tap) fun x11=>.k2 3<|.br (!x11) (.rt false)<|.cs (a4.Types != 0) (.k5 5<|.kg 5<|.call (Zhf a1.Line.Types a4.Types) fun x15=>.k2 5<|.cs (!x15) (.k5 6<|.k2 6<|.kn [0]<|.rt false)<|.k5 6<|.kg 6<|.call (Zhf a1.Line.Types a4.NotTypes) fun x18=>.kg 6<|.br x18 (.rt false)<|.jn 0 (.L0 a1 a4) [.relab 1006 3000,.relab 1009 3001] (Zmp a1 a4))<|.k8 5<|.b5 false<|.kb false<|.call (Zhf a1.Line.Types a4.NotTypes) fun x21=>.kb false<|.br x21 (.rt false)<|.jn 0 (.L0 a1 a4) [.relab 1006 3000,.relab 1009 3001] (Zmp a1 a4)
def Ztw:LF Ztv Bool := .m0 170 [.t 10] wB fun | .L0 E0 E1=>([1,1,1],⟨107,[(6,.bptr 3000 0),(9,.bptr 3001 0)],[(3000,.box (bx (Zp E0))),(3001,.box (bx (Z0 E1)))]⟩,Zmp E0 E1) | .L1 E0 E1=>([1,1,1,1],⟨107,[(6,.bptr 3000 0),(9,.bptr 3001 0)],[(3000,.box (bx (Zp E0))),(3001,.box (bx (Z0 E1)))]⟩,Zmo E0 E1)
def Z0s:=fun a0 a1 a2 a3 a4=>Ztw.run (Zahw a0 a1 a2 a3 a4)
theorem Zmq(a0)(a1)(a2)(a3)(a4){r}(h:Z0s a0 a1 a2 a3 a4=some r):Fn PR 170 [wA (Zi a0),wA (Zp a1),wI a2,wI a3,wA (Z0 a4)] (wB r):=Ztw.fn h
inductive Zmr where
 | L0 (v1:Int) (E0:Zk) (v5:List Int) (E1:Z8) (v7:Int)
def Z8s(v1:Int)(E0:Zk)(v5:List Int)(E1:Z8)(v7:Int):LT Zmr (List Int):=
.len Zi E0.S.Objects<|.br (decide (v7 < (E0.S.Objects.length:Int))) (.idx Zi E0.S.Objects v7 fun x3=>.lb 1008<|.br (x3.Zone != 0) (.g0 (.L0 v1 E0 v5 E1 (IntKind.wrap .i64 (v7+1))))<|.cs E1.Fixed (.k5 2<|.call (Zauu E1.Objects x3.Id) fun x9=>.kg 2<|.cs x9 (.k5 3<|.kg 3<|.kn [0]<|.dr [.lit]<|.apR (cI .i64) 8 v5 [x3.Id] fun x12=>.g0 (.L0 v1 E0 x12 E1 (IntKind.wrap .i64 (v7+1))))<|.k4 3<|.cs (!E1.Fixed) (.k5 4<|.idx Zp E0.All v7 fun x18=>.k4 4<|.call (Z0q E0 v1) fun x20=>.k5 4<|.call (Zmq x3 x18 x20 E1.Source E1.Filter) fun x22=>.kg 3<|.kg 4<|.kg 3<|.br x22 (.dr [.lit]<|.apR (cI .i64) 8 v5 [x3.Id] fun x25=>.g0 (.L0 v1 E0 x25 E1 (IntKind.wrap .i64 (v7+1))))<|.g0 (.L0 v1 E0 v5 E1 (IntKind.wrap .i64 (v7+1))))<|.k8 4<|.k5 4<|.kg 4<|.kg 3<|.kg 4<|.kg 3<|.kn [0]<|.g0 (.L0 v1 E0 v5 E1 (IntKind.wrap .i64 (v7+1))))<|.k5 2<|.kg 2<|.b4 false<|.cs (!E1.Fixed) (.k5 3<|.idx Zp E0.All v7 fun x35=>.k4 3<|.call (Z0q E0 v1) fun x37=>.k5 3<|.call (Zmq x3 x35 x37 E1.Source E1.Filter) fun x39=>.kb false<|.kg 3<|.kb false<|.br x39 (.dr [.lit]<|.apR (cI .i64) 8 v5 [x3.Id] fun x42=>.g0 (.L0 v1 E0 x42 E1 (IntKind.wrap .i64 (v7+1))))<|.g0 (.L0 v1 E0 v5 E1 (IntKind.wrap .i64 (v7+1))))<|.k8 3<|.k5 3<|.kg 3<|.kb false<|.kg 3<|.kb false<|.kn [0]<|.g0 (.L0 v1 E0 v5 E1 (IntKind.wrap .i64 (v7+1))))<|.rl (cI .i64) v5<|.rt v5
def Zadi(a0:Zk)(a1:Int):LT Zmr (List Int):=
.lb 1002<|.idx cB a0.Begun a1 fun x1=>.br x1 (.idx (cL (cI .i64)) a0.Sets a1 fun x4=>.rt x4)<|.lb 1019<|.call (Zq5 a0 a1) fun x6=>.br (!x6) (.rl (cI .i64) ([]:List Int)<|.rt ([]:List Int))<|.idx Zt a0.L a1 fun x9=>.lb 1006<|.go (.L0 a1 a0 ([]:List Int) x9 0) [.relab 1002 3000,.relab 1006 3001,.relab 1019 20005]
def Zy3:LF Zmr (List Int) := .m0 115 [.t 4] (fun r=>(wL (cI .i64) r)) fun | .L0 v1 E0 v5 E1 v7=>([1,1,1,1,1,0,1,4],⟨83,[(1,wI v1),(2,.bptr 3000 0),(5,wO (cI .i64) 20005 v5),(6,.bptr 3001 0),(7,wI v7)],[(3000,.box (bx (Zak E0))),(20005,wR (cI .i64) 1 v5),(3001,.box (bx (Zt E1)))]⟩,Z8s v1 E0 v5 E1 v7)
def Zanx:=fun a0 a1=>Zy3.run (Zadi a0 a1)
theorem Zvt(a0)(a1){r}(h:Zanx a0 a1=some r):Fn PR 115 [wA (Zak a0),wI a1] (wL (cI .i64) r):=Zy3.fn h
def Za8g(a0:List Zb)(a1:Int):LT Empty Zb:=
.lb 1004<|.cs (decide (a1 < 0)) (.k5 0<|.kn [0]<|.rt (⟨([]:By),(⟨0,0,(⟨0,0,0,0,0⟩:A5 Int)⟩:Z2),0,(⟨0,0,([]:Bys)⟩:Zaf),0,0,0,([]:List Zh),0⟩:Zb))<|.k3 0<|.len Zp a0<|.k2 0<|.br (decide (a1>=(a0.length:Int))) (.rt (⟨([]:By),(⟨0,0,(⟨0,0,0,0,0⟩:A5 Int)⟩:Z2),0,(⟨0,0,([]:Bys)⟩:Zaf),0,0,0,([]:List Zh),0⟩:Zb))<|.idx Zp a0 a1 fun x4=>.rt x4
def Za8h:LF Empty Zb := .z0 217 [.c 4 72 true 17] (fun r=>(wA (Zp r)))
def Za8i:=fun a0 a1=>Za8h.run (Za8g a0 a1)
theorem Zbi3(a0)(a1){r}(h:Za8i a0 a1=some r):Fn PR 217 [wL Zp a0,wI a1] (wA (Zp r)):=Za8h.fn h
inductive Zaa9 where
 | L0 (v1:List Zb) (v2:Int) (v3:Int) (E0:Za) (E1:Zm) (v11:List Int) (v12:Int)
def Zqq(v1:List Zb)(v2:Int)(v3:Int)(E0:Za)(E1:Zm)(v11:List Int)(v12:Int):LT Zaa9 (List Int):=
.len Zi E0.Objects<|.br (decide (v12 < (E0.Objects.length:Int))) (.idx Zi E0.Objects v12 fun x3=>.call (Zbi3 v1 v12) fun x5=>.call (Zmq x3 x5 v2 v3 E1) fun x7=>.br x7 (.ag Zi x3 0<|.dr [.lit]<|.apR (cI .i64) 8 v11 [x3.Id] fun x10=>.g0 (.L0 v1 v2 v3 E0 E1 x10 (IntKind.wrap .i64 (v12+1))))<|.g0 (.L0 v1 v2 v3 E0 E1 v11 (IntKind.wrap .i64 (v12+1))))<|.ret v11 [.relab 20011 5000]
def Zauy(a0:Za)(a1:List Zb)(a2:Int)(a3:Int)(a4:Zm):LT Zaa9 (List Int):=
.lb 1005<|.lb 1009<|.go (.L0 a1 a2 a3 a0 a4 ([]:List Int) 0) [.relab 1005 3000,.relab 1009 3001,.own 11 20011 1]
def Zaba:LF Zaa9 (List Int) := .m 171 [.t 10] true (fun r=>[(5000,wR (cI .i64) 1 r)]) (fun r=>(wO (cI .i64) 5000 r)) fun | .L0 v1 v2 v3 E0 E1 v11 v12=>([1,1,0,1,4],⟨42,[(1,wL Zp v1),(2,wI v2),(3,wI v3),(5,.bptr 3000 0),(9,.bptr 3001 0),(11,wO (cI .i64) 20011 v11),(12,wI v12)],[(3000,.box (bx (Zo E0))),(3001,.box (bx (Z0 E1))),(20011,wR (cI .i64) 1 v11)]⟩,Zqq v1 v2 v3 E0 E1 v11 v12)
def Z2e:=fun a0 a1 a2 a3 a4=>Zaba.run (Zauy a0 a1 a2 a3 a4)
theorem Za8j(a0)(a1)(a2)(a3)(a4){r}(h:Z2e a0 a1 a2 a3 a4=some r):FnG PR 171 [] [wA (Zo a0),wL Zp a1,wI a2,wI a3,wA (Z0 a4)] [(5000,wR (cI .i64) 1 r)] (wO (cI .i64) 5000 r):=Zaba.fn h
theorem Zbbo(a0:Za)(a1:List Zb)(a2:Int)(a3:Int)(a4:Zm){r:List Int}(h:Z2e a0 a1 a2 a3 a4=some r):Fn PR 171 [wA (Zo a0),wL Zp a1,wI a2,wI a3,wA (Z0 a4)] (wL (cI .i64) r):=
 FnG.frozen (C:=LT.RL (cI .i64) r/\True) (Za8j a0 a1 a2 a3 a4 h) ⟨rfl,trivial⟩ (by kernel_rfl)
inductive Zms where
 | L0 (v1:Int) (v2:Int) (E0:Zk) (v7:List Int) (E1:Z8) (v9:Int)
def Z8t(v1:Int)(v2:Int)(E0:Zk)(v7:List Int)(E1:Z8)(v9:Int):LT Zms (List Int):=
.len Zu E1.Mods<|.br (decide (v9 < (E1.Mods.length:Int))) (.idx Zu E1.Mods v9 fun x3=>.call (Ztu x3.Kind) fun x5=>.br (x5 != v2) (.g0 (.L0 v1 v2 E0 v7 E1 (IntKind.wrap .i64 (v9+1))))<|.ag Zu x3 0<|.br (x3.Kind==11) (.call (Z0q E0 v1) fun x11=>.ag Zu x3 0<|.call (Zbbo E0.S E0.All x11 E1.Source x3.Filter) fun x13=>.len (cI .i64) x13<|.dr [.lit]<|.apR (cI .i64) 8 v7 [(x13.length:Int)] fun x16=>.g0 (.L0 v1 v2 E0 x16 E1 (IntKind.wrap .i64 (v9+1))))<|.dr [.lit]<|.apR (cI .i64) 8 v7 [0] fun x21=>.g0 (.L0 v1 v2 E0 x21 E1 (IntKind.wrap .i64 (v9+1))))<|.ret v7 [.relab 20007 5000]
def Zadj(a0:Zk)(a1:Int)(a2:Int):LT Zms (List Int):=
.lb 1003<|.lb 1011<|.idx Zt a0.L a1 fun x1=>.lb 1008<|.go (.L0 a1 a2 a0 ([]:List Int) x1 0) [.relab 1003 3000,.relab 1008 3001,.relab 1011 20007]
def Zy4:LF Zms (List Int) := .m 116 [.t 6] true (fun r=>[(5000,wR (cI .i64) 1 r)]) (fun r=>(wO (cI .i64) 5000 r)) fun | .L0 v1 v2 E0 v7 E1 v9=>([1,1,1,0,1,4],⟨62,[(1,wI v1),(2,wI v2),(3,.bptr 3000 0),(7,wO (cI .i64) 20007 v7),(8,.bptr 3001 0),(9,wI v9)],[(3000,.box (bx (Zak E0))),(20007,wR (cI .i64) 1 v7),(3001,.box (bx (Zt E1)))]⟩,Z8t v1 v2 E0 v7 E1 v9)
def Z6l:=fun a0 a1 a2=>Zy4.run (Zadj a0 a1 a2)
theorem Zauz(a0)(a1)(a2){r}(h:Z6l a0 a1 a2=some r):FnG PR 116 [] [wA (Zak a0),wI a1,wI a2] [(5000,wR (cI .i64) 1 r)] (wO (cI .i64) 5000 r):=Zy4.fn h
theorem Zvu(a0:Zk)(a1:Int)(a2:Int){r:List Int}(h:Z6l a0 a1 a2=some r):Fn PR 116 [wA (Zak a0),wI a1,wI a2] (wL (cI .i64) r):=
 FnG.frozen (C:=LT.RL (cI .i64) r/\True) (Zauz a0 a1 a2 h) ⟨rfl,trivial⟩ (by kernel_rfl)
inductive Zkw where
 | L0 (v1:By) (E0:Zaf) (E1:Zaf) (v5:Bys) (v6:Int)
 | L1 (v1:By) (E0:Zaf) (E1:Zaf) (v5:Bys) (v6:Int)
def Zmt(v1:By)(E0:Zaf)(E1:Zaf)(v5:Bys)(v6:Int):LT Zkw Zaf:=
.lb 1045<|.dr [.ahead 48,.frz 20005,.stop]<|.rl cS v5<|.rl cS v5<|.sl cS v5 0 v6 fun x1=>.apR cS 16 ([]:Bys) x1 fun x4=>.dr [.lit]<|.apR cS 16 x4 [v1] fun x7=>.slN cS v5 v6 fun x10=>.apR cS 16 x7 x10 fun x12=>.ret (⟨E0.Super,E0.Types,x12⟩:Zaf) [.relab 1045 5002]
def Zadk(v1:By)(E0:Zaf)(E1:Zaf)(v5:Bys)(v6:Int):LT Zkw Zaf:=
.lenO cS v5<|.cs (decide (v6 < (v5.length:Int))) (.k3 0<|.idxR cS v5 v6 fun x3=>.kg 0<|.ldR cS v5 x3 2<|.k3 0<|.br (Op.bytesLess x3 v1) (.g0 (.L0 v1 E0 E1 v5 (IntKind.wrap .i64 (v6+1))))<|.j0 (.L1 v1 E0 E1 v5 v6) (Zmt v1 E0 E1 v5 v6))<|.k5 0<|.k2 0<|.kn [0]<|.j0 (.L1 v1 E0 E1 v5 v6) (Zmt v1 E0 E1 v5 v6)
def Zahx(a0:Zaf)(a1:By):LT Zkw Zaf:=
.lb 1002<|.lb 1004<|.lb 1008<|.apR cS 16 ([]:Bys) a0.Subs fun x1=>.call (Zs6 a1) fun x4=>.cs (!x4) (.k4 0<|.b4 true<|.kn [0]<|.ret (⟨a0.Super,a0.Types,x1⟩:Zaf) [.relab 1008 5002])<|.k3 0<|.call (Zadg a0 a1) fun x7=>.kg 0<|.cs x7 (.k4 1<|.kn [0]<|.ret (⟨a0.Super,a0.Types,x1⟩:Zaf) [.relab 1008 5002])<|.k2 1<|.lenO cS x1<|.k2 1<|.br (decide ((x1.length:Int)>=4)) (.ret (⟨a0.Super,a0.Types,x1⟩:Zaf) [.relab 1008 5002])<|.go (.L0 a1 a0 (⟨0,0,([]:Bys)⟩:Zaf) x1 0) [.relab 1002 3000,.relab 1004 3001,.relab 1008 20005,.ownb 3001 2 40102 1]
def Z2f:LF Zkw Zaf := .m 218 [.c 4 69 true 3] true (fun r=>[(5002,wR cS 1 r.Subs)]) (fun r=>(.agg [wI r.Super,wI r.Types,wO cS 5002 r.Subs])) fun | .L0 v1 E0 E1 v5 v6=>([1,1,1,1,0,4],⟨64,[(1,wS v1),(2,.bptr 3000 0),(4,.bptr 3001 0),(5,wO cS 20005 v5),(6,wI v6)],[(3000,.box (bx (Zfv E0))),(3001,.box [wI E1.Super,wI E1.Types,wO cS 40102 E1.Subs]),(40102,wR cS 1 E1.Subs),(20005,wR cS 1 v5)]⟩,Zadk v1 E0 E1 v5 v6) | .L1 v1 E0 E1 v5 v6=>([1,1,1,1,1],⟨64,[(1,wS v1),(2,.bptr 3000 0),(4,.bptr 3001 0),(5,wO cS 20005 v5),(6,wI v6)],[(3000,.box (bx (Zfv E0))),(3001,.box [wI E1.Super,wI E1.Types,wO cS 40102 E1.Subs]),(40102,wR cS 1 E1.Subs),(20005,wR cS 1 v5)]⟩,Zmt v1 E0 E1 v5 v6)
def Zau0:=fun a0 a1=>Z2f.run (Zahx a0 a1)
theorem Zayp(a0)(a1){r}(h:Zau0 a0 a1=some r):FnG PR 218 [] [wA (Zfv a0),wS a1] [(5002,wR cS 1 r.Subs)] (.agg [wI r.Super,wI r.Types,wO cS 5002 r.Subs]):=Z2f.fn h
end
end Go.PW
