import Derived.Test.YtchddhcajpagjaaGreatQC
import Derived.Test.YtchddhcajpagjaaGreatQE
set_option linter.all false
set_option maxRecDepth 100000
namespace Go.PW
open Go.Proofs.Tryz
open Go.RowKit
def Nl:∀(d:Nat) (ts:List aa),WT Go.Proofs.Tryz.prog d 60 ts->∃x,ts=cu x/\Z8f x:=by
 intro d ts h;cases d with
 |zero=>cases h
 |succ d=>
  simp only[WT,underlying60]at h;replace h:Seq (WT Go.Proofs.Tryz.prog d) [3,3,58] ts:=h;simp only[Seq]at h;obtain⟨_,_,rfl,h0,_,_,rfl,h1,_,_,rfl,h2,rfl⟩:=h;obtain⟨x0,rfl,o0⟩:=(Z3 underlying3) d _ h0;obtain⟨x1,rfl,o1⟩:=(Z3 underlying3) d _ h1;obtain⟨x2,rfl,o2⟩:=(Zb7 underlying58 (Z3 underlying3)) d _ h2;exact⟨⟨x0,x1,x2⟩,by simp only[cu,cV],o0,o1,o2⟩
def Zb8:∀(d:Nat) (ts:List aa),WT Go.Proofs.Tryz.prog d 63 ts->∃x,ts=hH x/\Z8g x:=by
 intro d ts h;cases d with
 |zero=>cases h
 |succ d=>
  simp only[WT,underlying63]at h;replace h:Seq (WT Go.Proofs.Tryz.prog d) [3,3,61] ts:=h;simp only[Seq]at h;obtain⟨_,_,rfl,h0,_,_,rfl,h1,_,_,rfl,h2,rfl⟩:=h;obtain⟨x0,rfl,o0⟩:=(Z3 underlying3) d _ h0;obtain⟨x1,rfl,o1⟩:=(Z3 underlying3) d _ h1;obtain⟨x2,rfl,o2⟩:=(eJ underlying61 (by kernel_rfl:Go.Proofs.Tryz.prog.bytesOf 9=16) (rT underlying9)) d _ h2;exact⟨⟨x0,x1,x2⟩,by simp only[hH,cV],o0,o1,o2⟩
def AD:∀(d:Nat) (ts:List aa),WT Go.Proofs.Tryz.prog d 39 ts->∃x,ts=gd x/\uX x:=by
 intro d ts h;cases d with
 |zero=>cases h
 |succ d=>
  simp only[WT,underlying39]at h;replace h:Seq (WT Go.Proofs.Tryz.prog d) [3,3] ts:=h;simp only[Seq]at h;obtain⟨_,_,rfl,h0,_,_,rfl,h1,rfl⟩:=h;obtain⟨x0,rfl,o0⟩:=(Z3 underlying3) d _ h0;obtain⟨x1,rfl,o1⟩:=(Z3 underlying3) d _ h1;exact⟨⟨x0,x1⟩,by simp only[gd,cV],o0,o1⟩
def kV:∀(d:Nat) (ts:List aa),WT Go.Proofs.Tryz.prog d 41 ts->∃x,ts=aX x/\jE x:=by
 intro d ts h;cases d with
 |zero=>cases h
 |succ d=>
  simp only[WT,underlying41]at h;replace h:Seq (WT Go.Proofs.Tryz.prog d) [3,3,3,3,3,3,3,9,3,3,39,39,39] ts:=h;simp only[Seq]at h;obtain⟨_,_,rfl,h0,_,_,rfl,h1,_,_,rfl,h2,_,_,rfl,h3,_,_,rfl,h4,_,_,rfl,h5,_,_,rfl,h6,_,_,rfl,h7,_,_,rfl,h8,_,_,rfl,h9,_,_,rfl,h10,_,_,rfl,h11,_,_,rfl,h12,rfl⟩:=h;obtain⟨x0,rfl,o0⟩:=(Z3 underlying3) d _ h0;obtain⟨x1,rfl,o1⟩:=(Z3 underlying3) d _ h1;obtain⟨x2,rfl,o2⟩:=(Z3 underlying3) d _ h2;obtain⟨x3,rfl,o3⟩:=(Z3 underlying3) d _ h3;obtain⟨x4,rfl,o4⟩:=(Z3 underlying3) d _ h4;obtain⟨x5,rfl,o5⟩:=(Z3 underlying3) d _ h5;obtain⟨x6,rfl,o6⟩:=(Z3 underlying3) d _ h6;obtain⟨x7,rfl,o7⟩:=(rT underlying9) d _ h7;obtain⟨x8,rfl,o8⟩:=(Z3 underlying3) d _ h8;obtain⟨x9,rfl,o9⟩:=(Z3 underlying3) d _ h9;obtain⟨x10,rfl,o10⟩:=AD d _ h10;obtain⟨x11,rfl,o11⟩:=AD d _ h11;obtain⟨x12,rfl,o12⟩:=AD d _ h12;exact⟨⟨x0,x1,x2,x3,x4,x5,x6,x7,x8,x9,x10,x11,x12⟩,by simp only[aX,cV],o0,o1,o2,o3,o4,o5,o6,o7,o8,o9,o10,o11,o12⟩
def Z4x:∀(d:Nat) (ts:List aa),WT Go.Proofs.Tryz.prog d 79 ts->∃x,ts=ay x/\qU x:=by
 intro d ts h;cases d with
 |zero=>cases h
 |succ d=>
  simp only[WT,underlying79]at h;replace h:Seq (WT Go.Proofs.Tryz.prog d) [3,3,3,9,41] ts:=h;simp only[Seq]at h;obtain⟨_,_,rfl,h0,_,_,rfl,h1,_,_,rfl,h2,_,_,rfl,h3,_,_,rfl,h4,rfl⟩:=h;obtain⟨x0,rfl,o0⟩:=(Z3 underlying3) d _ h0;obtain⟨x1,rfl,o1⟩:=(Z3 underlying3) d _ h1;obtain⟨x2,rfl,o2⟩:=(Z3 underlying3) d _ h2;obtain⟨x3,rfl,o3⟩:=(rT underlying9) d _ h3;obtain⟨x4,rfl,o4⟩:=kV d _ h4;exact⟨⟨x0,x1,x2,x3,x4⟩,by simp only[ay,cV],o0,o1,o2,o3,o4⟩
def Zb9:∀(d:Nat) (ts:List aa),WT Go.Proofs.Tryz.prog d 81 ts->∃x,ts=jW x/\JF x:=by
 intro d ts h;cases d with
 |zero=>cases h
 |succ d=>
  simp only[WT,underlying81]at h;replace h:Seq (WT Go.Proofs.Tryz.prog d) [60,4,4,3] ts:=h;simp only[Seq]at h;obtain⟨_,_,rfl,h0,_,_,rfl,h1,_,_,rfl,h2,_,_,rfl,h3,rfl⟩:=h;obtain⟨x0,rfl,o0⟩:=Nl d _ h0;obtain⟨x1,rfl,o1⟩:=(fx underlying4) d _ h1;obtain⟨x2,rfl,o2⟩:=(fx underlying4) d _ h2;obtain⟨x3,rfl,o3⟩:=(Z3 underlying3) d _ h3;exact⟨⟨x0,x1,x2,x3⟩,by simp only[jW,cV],o0,o1,o2,o3⟩
def Zca:∀(d:Nat) (ts:List aa),WT Go.Proofs.Tryz.prog d 83 ts->∃x,ts=jz x/\zA x:=by
 intro d ts h;cases d with
 |zero=>cases h
 |succ d=>
  simp only[WT,underlying83]at h;replace h:Seq (WT Go.Proofs.Tryz.prog d) [3,3,41] ts:=h;simp only[Seq]at h;obtain⟨_,_,rfl,h0,_,_,rfl,h1,_,_,rfl,h2,rfl⟩:=h;obtain⟨x0,rfl,o0⟩:=(Z3 underlying3) d _ h0;obtain⟨x1,rfl,o1⟩:=(Z3 underlying3) d _ h1;obtain⟨x2,rfl,o2⟩:=kV d _ h2;exact⟨⟨x0,x1,x2⟩,by simp only[jz,cV],o0,o1,o2⟩
def Zcb:∀(d:Nat) (ts:List aa),WT Go.Proofs.Tryz.prog d 133 ts->∃x,ts=cn x/\Z8h x:=by
 intro d ts h;cases d with
 |zero=>cases h
 |succ d=>
  simp only[WT,underlying133]at h;replace h:Seq (WT Go.Proofs.Tryz.prog d) [4,4,41] ts:=h;simp only[Seq]at h;obtain⟨_,_,rfl,h0,_,_,rfl,h1,_,_,rfl,h2,rfl⟩:=h;obtain⟨x0,rfl,o0⟩:=(fx underlying4) d _ h0;obtain⟨x1,rfl,o1⟩:=(fx underlying4) d _ h1;obtain⟨x2,rfl,o2⟩:=kV d _ h2;exact⟨⟨x0,x1,x2⟩,by simp only[cn,cV],o0,o1,o2⟩
def Zcc:∀(d:Nat) (ts:List aa),WT Go.Proofs.Tryz.prog d 136 ts->∃x,ts=hJ x/\zB x:=by
 intro d ts h;cases d with
 |zero=>cases h
 |succ d=>
  simp only[WT,underlying136]at h;replace h:Seq (WT Go.Proofs.Tryz.prog d) [3,3,41] ts:=h;simp only[Seq]at h;obtain⟨_,_,rfl,h0,_,_,rfl,h1,_,_,rfl,h2,rfl⟩:=h;obtain⟨x0,rfl,o0⟩:=(Z3 underlying3) d _ h0;obtain⟨x1,rfl,o1⟩:=(Z3 underlying3) d _ h1;obtain⟨x2,rfl,o2⟩:=kV d _ h2;exact⟨⟨x0,x1,x2⟩,by simp only[hJ,cV],o0,o1,o2⟩
def Zcd:∀(d:Nat) (ts:List aa),WT Go.Proofs.Tryz.prog d 138 ts->∃x,ts=dL x/\Z0l x:=by
 intro d ts h;cases d with
 |zero=>cases h
 |succ d=>
  simp only[WT,underlying138]at h;replace h:Seq (WT Go.Proofs.Tryz.prog d) [3,3,3,41] ts:=h;simp only[Seq]at h;obtain⟨_,_,rfl,h0,_,_,rfl,h1,_,_,rfl,h2,_,_,rfl,h3,rfl⟩:=h;obtain⟨x0,rfl,o0⟩:=(Z3 underlying3) d _ h0;obtain⟨x1,rfl,o1⟩:=(Z3 underlying3) d _ h1;obtain⟨x2,rfl,o2⟩:=(Z3 underlying3) d _ h2;obtain⟨x3,rfl,o3⟩:=kV d _ h3;exact⟨⟨x0,x1,x2,x3⟩,by simp only[dL,cV],o0,o1,o2,o3⟩
def Zce:∀(d:Nat) (ts:List aa),WT Go.Proofs.Tryz.prog d 140 ts->∃x,ts=bj x/\Z0m x:=by
 intro d ts h;cases d with
 |zero=>cases h
 |succ d=>
  simp only[WT,underlying140]at h;replace h:Seq (WT Go.Proofs.Tryz.prog d) [3,136,138,3,3,9,41,117,42] ts:=h;simp only[Seq]at h;obtain⟨_,_,rfl,h0,_,_,rfl,h1,_,_,rfl,h2,_,_,rfl,h3,_,_,rfl,h4,_,_,rfl,h5,_,_,rfl,h6,_,_,rfl,h7,_,_,rfl,h8,rfl⟩:=h;obtain⟨x0,rfl,o0⟩:=(Z3 underlying3) d _ h0;obtain⟨x1,rfl,o1⟩:=Zcc d _ h1;obtain⟨x2,rfl,o2⟩:=Zcd d _ h2;obtain⟨x3,rfl,o3⟩:=(Z3 underlying3) d _ h3;obtain⟨x4,rfl,o4⟩:=(Z3 underlying3) d _ h4;obtain⟨x5,rfl,o5⟩:=(rT underlying9) d _ h5;obtain⟨x6,rfl,o6⟩:=kV d _ h6;obtain⟨x7,rfl,o7⟩:=(Nm underlying117 (Z3 underlying3)) d _ h7;obtain⟨x8,rfl,o8⟩:=(eJ underlying42 (by kernel_rfl:Go.Proofs.Tryz.prog.bytesOf 79=176) Z4x) d _ h8;exact⟨⟨x0,x1,x2,x3,x4,x5,x6,x7,x8⟩,by simp only[bj,cV],o0,o1,o2,o3,o4,o5,o6,o7,o8⟩
def Zcf:∀(d:Nat) (ts:List aa),WT Go.Proofs.Tryz.prog d 87 ts->∃x,ts=gB x/\zC x:=by
 intro d ts h;cases d with
 |zero=>cases h
 |succ d=>
  simp only[WT,underlying87]at h;replace h:Seq (WT Go.Proofs.Tryz.prog d) [3,3,41,3,3,3,3] ts:=h;simp only[Seq]at h;obtain⟨_,_,rfl,h0,_,_,rfl,h1,_,_,rfl,h2,_,_,rfl,h3,_,_,rfl,h4,_,_,rfl,h5,_,_,rfl,h6,rfl⟩:=h;obtain⟨x0,rfl,o0⟩:=(Z3 underlying3) d _ h0;obtain⟨x1,rfl,o1⟩:=(Z3 underlying3) d _ h1;obtain⟨x2,rfl,o2⟩:=kV d _ h2;obtain⟨x3,rfl,o3⟩:=(Z3 underlying3) d _ h3;obtain⟨x4,rfl,o4⟩:=(Z3 underlying3) d _ h4;obtain⟨x5,rfl,o5⟩:=(Z3 underlying3) d _ h5;obtain⟨x6,rfl,o6⟩:=(Z3 underlying3) d _ h6;exact⟨⟨x0,x1,x2,x3,x4,x5,x6⟩,by simp only[gB,cV],o0,o1,o2,o3,o4,o5,o6⟩
def AE:∀(d:Nat) (ts:List aa),WT Go.Proofs.Tryz.prog d 89 ts->∃x,ts=aC x/\qV x:=by
 intro d ts h;cases d with
 |zero=>cases h
 |succ d=>
  simp only[WT,underlying89]at h;replace h:Seq (WT Go.Proofs.Tryz.prog d) [3,41,42,81,4,83,4,84,85,87] ts:=h;simp only[Seq]at h;obtain⟨_,_,rfl,h0,_,_,rfl,h1,_,_,rfl,h2,_,_,rfl,h3,_,_,rfl,h4,_,_,rfl,h5,_,_,rfl,h6,_,_,rfl,h7,_,_,rfl,h8,_,_,rfl,h9,rfl⟩:=h;obtain⟨x0,rfl,o0⟩:=(Z3 underlying3) d _ h0;obtain⟨x1,rfl,o1⟩:=kV d _ h1;obtain⟨x2,rfl,o2⟩:=(eJ underlying42 (by kernel_rfl:Go.Proofs.Tryz.prog.bytesOf 79=176) Z4x) d _ h2;obtain⟨x3,rfl,o3⟩:=Zb9 d _ h3;obtain⟨x4,rfl,o4⟩:=(fx underlying4) d _ h4;obtain⟨x5,rfl,o5⟩:=Zca d _ h5;obtain⟨x6,rfl,o6⟩:=(fx underlying4) d _ h6;obtain⟨x7,rfl,o7⟩:=(eJ underlying84 (by kernel_rfl:Go.Proofs.Tryz.prog.bytesOf 133=144) Zcb) d _ h7;obtain⟨x8,rfl,o8⟩:=(eJ underlying85 (by kernel_rfl:Go.Proofs.Tryz.prog.bytesOf 140=560) Zce) d _ h8;obtain⟨x9,rfl,o9⟩:=Zcf d _ h9;exact⟨⟨x0,x1,x2,x3,x4,x5,x6,x7,x8,x9⟩,by simp only[aC,cV],o0,o1,o2,o3,o4,o5,o6,o7,o8,o9⟩
def Zcg:∀(d:Nat) (ts:List aa),WT Go.Proofs.Tryz.prog d 77 ts->∃x,ts=bf x/\JG x:=by
 intro d ts h;cases d with
 |zero=>cases h
 |succ d=>
  simp only[WT,underlying77]at h;replace h:Seq (WT Go.Proofs.Tryz.prog d) [9,4,60,3,63,3,3,3,64] ts:=h;simp only[Seq]at h;obtain⟨_,_,rfl,h0,_,_,rfl,h1,_,_,rfl,h2,_,_,rfl,h3,_,_,rfl,h4,_,_,rfl,h5,_,_,rfl,h6,_,_,rfl,h7,_,_,rfl,h8,rfl⟩:=h;obtain⟨x0,rfl,o0⟩:=(rT underlying9) d _ h0;obtain⟨x1,rfl,o1⟩:=(fx underlying4) d _ h1;obtain⟨x2,rfl,o2⟩:=Nl d _ h2;obtain⟨x3,rfl,o3⟩:=(Z3 underlying3) d _ h3;obtain⟨x4,rfl,o4⟩:=Zb8 d _ h4;obtain⟨x5,rfl,o5⟩:=(Z3 underlying3) d _ h5;obtain⟨x6,rfl,o6⟩:=(Z3 underlying3) d _ h6;obtain⟨x7,rfl,o7⟩:=(Z3 underlying3) d _ h7;obtain⟨x8,rfl,o8⟩:=(eJ underlying64 (by kernel_rfl:Go.Proofs.Tryz.prog.bytesOf 89=640) AE) d _ h8;exact⟨⟨x0,x1,x2,x3,x4,x5,x6,x7,x8⟩,by simp only[bf,cV],o0,o1,o2,o3,o4,o5,o6,o7,o8⟩
def Zch:∀(d:Nat) (ts:List aa),WT Go.Proofs.Tryz.prog d 119 ts->∃x,ts=cY x/\Z0n x:=by
 intro d ts h;cases d with
 |zero=>cases h
 |succ d=>
  simp only[WT,underlying119]at h;replace h:Seq (WT Go.Proofs.Tryz.prog d) [3,3,3,117,4,4,25,25,25] ts:=h;simp only[Seq]at h;obtain⟨_,_,rfl,h0,_,_,rfl,h1,_,_,rfl,h2,_,_,rfl,h3,_,_,rfl,h4,_,_,rfl,h5,_,_,rfl,h6,_,_,rfl,h7,_,_,rfl,h8,rfl⟩:=h;obtain⟨x0,rfl,o0⟩:=(Z3 underlying3) d _ h0;obtain⟨x1,rfl,o1⟩:=(Z3 underlying3) d _ h1;obtain⟨x2,rfl,o2⟩:=(Z3 underlying3) d _ h2;obtain⟨x3,rfl,o3⟩:=(Nm underlying117 (Z3 underlying3)) d _ h3;obtain⟨x4,rfl,o4⟩:=(fx underlying4) d _ h4;obtain⟨x5,rfl,o5⟩:=(fx underlying4) d _ h5;obtain⟨x6,rfl,o6⟩:=(eJ underlying25 (by kernel_rfl:Go.Proofs.Tryz.prog.bytesOf 3=8) (Z3 underlying3)) d _ h6;obtain⟨x7,rfl,o7⟩:=(eJ underlying25 (by kernel_rfl:Go.Proofs.Tryz.prog.bytesOf 3=8) (Z3 underlying3)) d _ h7;obtain⟨x8,rfl,o8⟩:=(eJ underlying25 (by kernel_rfl:Go.Proofs.Tryz.prog.bytesOf 3=8) (Z3 underlying3)) d _ h8;exact⟨⟨x0,x1,x2,x3,x4,x5,x6,x7,x8⟩,by simp only[cY,cV],o0,o1,o2,o3,o4,o5,o6,o7,o8⟩
def Zci:∀(d:Nat) (ts:List aa),WT Go.Proofs.Tryz.prog d 56 ts->∃x,ts=aE x/\JH x:=by
 intro d ts h;cases d with
 |zero=>cases h
 |succ d=>
  simp only[WT,underlying56]at h;replace h:Seq (WT Go.Proofs.Tryz.prog d) [3,3,3,3,3,4,4,4,4,3,54,3,3,3,4,3,3] ts:=h;simp only[Seq]at h;obtain⟨_,_,rfl,h0,_,_,rfl,h1,_,_,rfl,h2,_,_,rfl,h3,_,_,rfl,h4,_,_,rfl,h5,_,_,rfl,h6,_,_,rfl,h7,_,_,rfl,h8,_,_,rfl,h9,_,_,rfl,h10,_,_,rfl,h11,_,_,rfl,h12,_,_,rfl,h13,_,_,rfl,h14,_,_,rfl,h15,_,_,rfl,h16,rfl⟩:=h;obtain⟨x0,rfl,o0⟩:=(Z3 underlying3) d _ h0;obtain⟨x1,rfl,o1⟩:=(Z3 underlying3) d _ h1;obtain⟨x2,rfl,o2⟩:=(Z3 underlying3) d _ h2;obtain⟨x3,rfl,o3⟩:=(Z3 underlying3) d _ h3;obtain⟨x4,rfl,o4⟩:=(Z3 underlying3) d _ h4;obtain⟨x5,rfl,o5⟩:=(fx underlying4) d _ h5;obtain⟨x6,rfl,o6⟩:=(fx underlying4) d _ h6;obtain⟨x7,rfl,o7⟩:=(fx underlying4) d _ h7;obtain⟨x8,rfl,o8⟩:=(fx underlying4) d _ h8;obtain⟨x9,rfl,o9⟩:=(Z3 underlying3) d _ h9;obtain⟨x10,rfl,o10⟩:=(Nn underlying54 (Z3 underlying3)) d _ h10;obtain⟨x11,rfl,o11⟩:=(Z3 underlying3) d _ h11;obtain⟨x12,rfl,o12⟩:=(Z3 underlying3) d _ h12;obtain⟨x13,rfl,o13⟩:=(Z3 underlying3) d _ h13;obtain⟨x14,rfl,o14⟩:=(fx underlying4) d _ h14;obtain⟨x15,rfl,o15⟩:=(Z3 underlying3) d _ h15;obtain⟨x16,rfl,o16⟩:=(Z3 underlying3) d _ h16;exact⟨⟨x0,x1,x2,x3,x4,x5,x6,x7,x8,x9,x10,x11,x12,x13,x14,x15,x16⟩,by simp only[aE,cV],o0,o1,o2,o3,o4,o5,o6,o7,o8,o9,o10,o11,o12,o13,o14,o15,o16⟩
def Zcj:∀(d:Nat) (ts:List aa),WT Go.Proofs.Tryz.prog d 280 ts->∃x,ts=qy x/\JI x:=by
 intro d ts h;cases d with
 |zero=>cases h
 |succ d=>
  simp only[WT,underlying280]at h;replace h:Seq (WT Go.Proofs.Tryz.prog d) [3,3] ts:=h;simp only[Seq]at h;obtain⟨_,_,rfl,h0,_,_,rfl,h1,rfl⟩:=h;obtain⟨x0,rfl,o0⟩:=(Z3 underlying3) d _ h0;obtain⟨x1,rfl,o1⟩:=(Z3 underlying3) d _ h1;exact⟨⟨x0,x1⟩,by simp only[qy,cV],o0,o1⟩
def No:∀(d:Nat) (ts:List aa),WT Go.Proofs.Tryz.prog d 158 ts->∃x,ts=qI x/\Z30 x:=by
 intro d ts h;cases d with
 |zero=>cases h
 |succ d=>
  simp only[WT,underlying158]at h;replace h:Seq (WT Go.Proofs.Tryz.prog d) [3,3,3,3,3,3,3,3,3,3,4,4,54] ts:=h;simp only[Seq]at h;obtain⟨_,_,rfl,h0,_,_,rfl,h1,_,_,rfl,h2,_,_,rfl,h3,_,_,rfl,h4,_,_,rfl,h5,_,_,rfl,h6,_,_,rfl,h7,_,_,rfl,h8,_,_,rfl,h9,_,_,rfl,h10,_,_,rfl,h11,_,_,rfl,h12,rfl⟩:=h;obtain⟨x0,rfl,o0⟩:=(Z3 underlying3) d _ h0;obtain⟨x1,rfl,o1⟩:=(Z3 underlying3) d _ h1;obtain⟨x2,rfl,o2⟩:=(Z3 underlying3) d _ h2;obtain⟨x3,rfl,o3⟩:=(Z3 underlying3) d _ h3;obtain⟨x4,rfl,o4⟩:=(Z3 underlying3) d _ h4;obtain⟨x5,rfl,o5⟩:=(Z3 underlying3) d _ h5;obtain⟨x6,rfl,o6⟩:=(Z3 underlying3) d _ h6;obtain⟨x7,rfl,o7⟩:=(Z3 underlying3) d _ h7;obtain⟨x8,rfl,o8⟩:=(Z3 underlying3) d _ h8;obtain⟨x9,rfl,o9⟩:=(Z3 underlying3) d _ h9;obtain⟨x10,rfl,o10⟩:=(fx underlying4) d _ h10;obtain⟨x11,rfl,o11⟩:=(fx underlying4) d _ h11;obtain⟨x12,rfl,o12⟩:=(Nn underlying54 (Z3 underlying3)) d _ h12;exact⟨⟨x0,x1,x2,x3,x4,x5,x6,x7,x8,x9,x10,x11,x12⟩,by simp only[qI,cV],o0,o1,o2,o3,o4,o5,o6,o7,o8,o9,o10,o11,o12⟩
def Zck:∀(d:Nat) (ts:List aa),WT Go.Proofs.Tryz.prog d 160 ts->∃x,ts=cU x/\Z8i x:=by
 intro d ts h;cases d with
 |zero=>cases h
 |succ d=>
  simp only[WT,underlying160]at h;replace h:Seq (WT Go.Proofs.Tryz.prog d) [3,3,3,3,3,4,89,156,158] ts:=h;simp only[Seq]at h;obtain⟨_,_,rfl,h0,_,_,rfl,h1,_,_,rfl,h2,_,_,rfl,h3,_,_,rfl,h4,_,_,rfl,h5,_,_,rfl,h6,_,_,rfl,h7,_,_,rfl,h8,rfl⟩:=h;obtain⟨x0,rfl,o0⟩:=(Z3 underlying3) d _ h0;obtain⟨x1,rfl,o1⟩:=(Z3 underlying3) d _ h1;obtain⟨x2,rfl,o2⟩:=(Z3 underlying3) d _ h2;obtain⟨x3,rfl,o3⟩:=(Z3 underlying3) d _ h3;obtain⟨x4,rfl,o4⟩:=(Z3 underlying3) d _ h4;obtain⟨x5,rfl,o5⟩:=(fx underlying4) d _ h5;obtain⟨x6,rfl,o6⟩:=AE d _ h6;obtain⟨x7,rfl,o7⟩:=(eJ underlying156 (by kernel_rfl:Go.Proofs.Tryz.prog.bytesOf 280=16) Zcj) d _ h7;obtain⟨x8,rfl,o8⟩:=No d _ h8;exact⟨⟨x0,x1,x2,x3,x4,x5,x6,x7,x8⟩,by simp only[cU,cV],o0,o1,o2,o3,o4,o5,o6,o7,o8⟩
def Zcl:∀(d:Nat) (ts:List aa),WT Go.Proofs.Tryz.prog d 162 ts->∃x,ts=dC x/\zD x:=by
 intro d ts h;cases d with
 |zero=>cases h
 |succ d=>
  simp only[WT,underlying162]at h;replace h:Seq (WT Go.Proofs.Tryz.prog d) [3,3,89,158] ts:=h;simp only[Seq]at h;obtain⟨_,_,rfl,h0,_,_,rfl,h1,_,_,rfl,h2,_,_,rfl,h3,rfl⟩:=h;obtain⟨x0,rfl,o0⟩:=(Z3 underlying3) d _ h0;obtain⟨x1,rfl,o1⟩:=(Z3 underlying3) d _ h1;obtain⟨x2,rfl,o2⟩:=AE d _ h2;obtain⟨x3,rfl,o3⟩:=No d _ h3;exact⟨⟨x0,x1,x2,x3⟩,by simp only[dC,cV],o0,o1,o2,o3⟩
def Zcm:∀(d:Nat) (ts:List aa),WT Go.Proofs.Tryz.prog d 93 ts->∃x,ts=cZ x/\Z8j x:=by
 intro d ts h;cases d with
 |zero=>cases h
 |succ d=>
  simp only[WT,underlying93]at h;replace h:Seq (WT Go.Proofs.Tryz.prog d) [3,3,3,3,25,42] ts:=h;simp only[Seq]at h;obtain⟨_,_,rfl,h0,_,_,rfl,h1,_,_,rfl,h2,_,_,rfl,h3,_,_,rfl,h4,_,_,rfl,h5,rfl⟩:=h;obtain⟨x0,rfl,o0⟩:=(Z3 underlying3) d _ h0;obtain⟨x1,rfl,o1⟩:=(Z3 underlying3) d _ h1;obtain⟨x2,rfl,o2⟩:=(Z3 underlying3) d _ h2;obtain⟨x3,rfl,o3⟩:=(Z3 underlying3) d _ h3;obtain⟨x4,rfl,o4⟩:=(eJ underlying25 (by kernel_rfl:Go.Proofs.Tryz.prog.bytesOf 3=8) (Z3 underlying3)) d _ h4;obtain⟨x5,rfl,o5⟩:=(eJ underlying42 (by kernel_rfl:Go.Proofs.Tryz.prog.bytesOf 79=176) Z4x) d _ h5;exact⟨⟨x0,x1,x2,x3,x4,x5⟩,by simp only[cZ,cV],o0,o1,o2,o3,o4,o5⟩
def Zcn:∀(d:Nat) (ts:List aa),WT Go.Proofs.Tryz.prog d 31 ts->∃x,ts=Z1 x/\JJ x:=by
 intro d ts h;cases d with
 |zero=>cases h
 |succ d=>
  simp only[WT,underlying31]at h;replace h:Seq (WT Go.Proofs.Tryz.prog d) [23,24,25,25,26,27,28,3,3,3,4,3,3,3,3,29,25,3,3] ts:=h;simp only[Seq]at h;obtain⟨_,_,rfl,h0,_,_,rfl,h1,_,_,rfl,h2,_,_,rfl,h3,_,_,rfl,h4,_,_,rfl,h5,_,_,rfl,h6,_,_,rfl,h7,_,_,rfl,h8,_,_,rfl,h9,_,_,rfl,h10,_,_,rfl,h11,_,_,rfl,h12,_,_,rfl,h13,_,_,rfl,h14,_,_,rfl,h15,_,_,rfl,h16,_,_,rfl,h17,_,_,rfl,h18,rfl⟩:=h;obtain⟨x0,rfl,o0⟩:=(eJ underlying23 (by kernel_rfl:Go.Proofs.Tryz.prog.bytesOf 119=152) Zch) d _ h0;obtain⟨x1,rfl,o1⟩:=(eJ underlying24 (by kernel_rfl:Go.Proofs.Tryz.prog.bytesOf 56=128) Zci) d _ h1;obtain⟨x2,rfl,o2⟩:=(eJ underlying25 (by kernel_rfl:Go.Proofs.Tryz.prog.bytesOf 3=8) (Z3 underlying3)) d _ h2;obtain⟨x3,rfl,o3⟩:=(eJ underlying25 (by kernel_rfl:Go.Proofs.Tryz.prog.bytesOf 3=8) (Z3 underlying3)) d _ h3;obtain⟨x4,rfl,o4⟩:=(eJ underlying26 (by kernel_rfl:Go.Proofs.Tryz.prog.bytesOf 160=824) Zck) d _ h4;obtain⟨x5,rfl,o5⟩:=(eJ underlying27 (by kernel_rfl:Go.Proofs.Tryz.prog.bytesOf 162=768) Zcl) d _ h5;obtain⟨x6,rfl,o6⟩:=(eJ underlying28 (by kernel_rfl:Go.Proofs.Tryz.prog.bytesOf 93=80) Zcm) d _ h6;obtain⟨x7,rfl,o7⟩:=(Z3 underlying3) d _ h7;obtain⟨x8,rfl,o8⟩:=(Z3 underlying3) d _ h8;obtain⟨x9,rfl,o9⟩:=(Z3 underlying3) d _ h9;obtain⟨x10,rfl,o10⟩:=(fx underlying4) d _ h10;obtain⟨x11,rfl,o11⟩:=(Z3 underlying3) d _ h11;obtain⟨x12,rfl,o12⟩:=(Z3 underlying3) d _ h12;obtain⟨x13,rfl,o13⟩:=(Z3 underlying3) d _ h13;obtain⟨x14,rfl,o14⟩:=(Z3 underlying3) d _ h14;obtain⟨x15,rfl,o15⟩:=(Z3 underlying29) d _ h15;obtain⟨x16,rfl,o16⟩:=(eJ underlying25 (by kernel_rfl:Go.Proofs.Tryz.prog.bytesOf 3=8) (Z3 underlying3)) d _ h16;obtain⟨x17,rfl,o17⟩:=(Z3 underlying3) d _ h17;obtain⟨x18,rfl,o18⟩:=(Z3 underlying3) d _ h18;exact⟨⟨x0,x1,x2,x3,x4,x5,x6,x7,x8,x9,x10,x11,x12,x13,x14,x15,x16,x17,x18⟩,by simp only[Z1,cV],o0,o1,o2,o3,o4,o5,o6,o7,o8,o9,o10,o11,o12,o13,o14,o15,o16,o17,o18⟩
end Go.PW
