import Derived.Test.YtchddhcajpagjaaGreatQC
import Derived.Test.YtchddhcajpagjaaGreatQE
set_option linter.all false
set_option maxRecDepth 100000
namespace Go.PW
open Go.Proofs.Tryz
open Go.RowKit
def Oz:∀(d:Nat) (ts:List aa),WT Go.Proofs.Tryz.prog d 60 ts->∃x,ts=cc x/\Z8m x:=by
 intro d ts h;cases d with
 |zero=>cases h
 |succ d=>
  simp only[WT,underlying60]at h;replace h:Seq (WT Go.Proofs.Tryz.prog d) [3,3,58] ts:=h;simp only[Seq]at h;obtain⟨_,_,rfl,h0,_,_,rfl,h1,_,_,rfl,h2,rfl⟩:=h;obtain⟨x0,rfl,o0⟩:=(Z4 underlying3) d _ h0;obtain⟨x1,rfl,o1⟩:=(Z4 underlying3) d _ h1;obtain⟨x2,rfl,o2⟩:=(ZkA underlying58 (Z4 underlying3)) d _ h2;exact⟨⟨x0,x1,x2⟩,by simp only[cc,cW],o0,o1,o2⟩
def ZkB:∀(d:Nat) (ts:List aa),WT Go.Proofs.Tryz.prog d 63 ts->∃x,ts=hX x/\Z8n x:=by
 intro d ts h;cases d with
 |zero=>cases h
 |succ d=>
  simp only[WT,underlying63]at h;replace h:Seq (WT Go.Proofs.Tryz.prog d) [3,3,61] ts:=h;simp only[Seq]at h;obtain⟨_,_,rfl,h0,_,_,rfl,h1,_,_,rfl,h2,rfl⟩:=h;obtain⟨x0,rfl,o0⟩:=(Z4 underlying3) d _ h0;obtain⟨x1,rfl,o1⟩:=(Z4 underlying3) d _ h1;obtain⟨x2,rfl,o2⟩:=(eK underlying61 (by kernel_rfl:Go.Proofs.Tryz.prog.bytesOf 9=16) (r5 underlying9)) d _ h2;exact⟨⟨x0,x1,x2⟩,by simp only[hX,cW],o0,o1,o2⟩
def AZ:∀(d:Nat) (ts:List aa),WT Go.Proofs.Tryz.prog d 39 ts->∃x,ts=fm x/\u6 x:=by
 intro d ts h;cases d with
 |zero=>cases h
 |succ d=>
  simp only[WT,underlying39]at h;replace h:Seq (WT Go.Proofs.Tryz.prog d) [3,3] ts:=h;simp only[Seq]at h;obtain⟨_,_,rfl,h0,_,_,rfl,h1,rfl⟩:=h;obtain⟨x0,rfl,o0⟩:=(Z4 underlying3) d _ h0;obtain⟨x1,rfl,o1⟩:=(Z4 underlying3) d _ h1;exact⟨⟨x0,x1⟩,by simp only[fm,cW],o0,o1⟩
def kX:∀(d:Nat) (ts:List aa),WT Go.Proofs.Tryz.prog d 41 ts->∃x,ts=aU x/\jG x:=by
 intro d ts h;cases d with
 |zero=>cases h
 |succ d=>
  simp only[WT,underlying41]at h;replace h:Seq (WT Go.Proofs.Tryz.prog d) [3,3,3,3,3,3,3,9,3,3,39,39,39] ts:=h;simp only[Seq]at h;obtain⟨_,_,rfl,h0,_,_,rfl,h1,_,_,rfl,h2,_,_,rfl,h3,_,_,rfl,h4,_,_,rfl,h5,_,_,rfl,h6,_,_,rfl,h7,_,_,rfl,h8,_,_,rfl,h9,_,_,rfl,h10,_,_,rfl,h11,_,_,rfl,h12,rfl⟩:=h;obtain⟨x0,rfl,o0⟩:=(Z4 underlying3) d _ h0;obtain⟨x1,rfl,o1⟩:=(Z4 underlying3) d _ h1;obtain⟨x2,rfl,o2⟩:=(Z4 underlying3) d _ h2;obtain⟨x3,rfl,o3⟩:=(Z4 underlying3) d _ h3;obtain⟨x4,rfl,o4⟩:=(Z4 underlying3) d _ h4;obtain⟨x5,rfl,o5⟩:=(Z4 underlying3) d _ h5;obtain⟨x6,rfl,o6⟩:=(Z4 underlying3) d _ h6;obtain⟨x7,rfl,o7⟩:=(r5 underlying9) d _ h7;obtain⟨x8,rfl,o8⟩:=(Z4 underlying3) d _ h8;obtain⟨x9,rfl,o9⟩:=(Z4 underlying3) d _ h9;obtain⟨x10,rfl,o10⟩:=AZ d _ h10;obtain⟨x11,rfl,o11⟩:=AZ d _ h11;obtain⟨x12,rfl,o12⟩:=AZ d _ h12;exact⟨⟨x0,x1,x2,x3,x4,x5,x6,x7,x8,x9,x10,x11,x12⟩,by simp only[aU,cW],o0,o1,o2,o3,o4,o5,o6,o7,o8,o9,o10,o11,o12⟩
def Z48:∀(d:Nat) (ts:List aa),WT Go.Proofs.Tryz.prog d 79 ts->∃x,ts=ax x/\qZ x:=by
 intro d ts h;cases d with
 |zero=>cases h
 |succ d=>
  simp only[WT,underlying79]at h;replace h:Seq (WT Go.Proofs.Tryz.prog d) [3,3,3,9,41] ts:=h;simp only[Seq]at h;obtain⟨_,_,rfl,h0,_,_,rfl,h1,_,_,rfl,h2,_,_,rfl,h3,_,_,rfl,h4,rfl⟩:=h;obtain⟨x0,rfl,o0⟩:=(Z4 underlying3) d _ h0;obtain⟨x1,rfl,o1⟩:=(Z4 underlying3) d _ h1;obtain⟨x2,rfl,o2⟩:=(Z4 underlying3) d _ h2;obtain⟨x3,rfl,o3⟩:=(r5 underlying9) d _ h3;obtain⟨x4,rfl,o4⟩:=kX d _ h4;exact⟨⟨x0,x1,x2,x3,x4⟩,by simp only[ax,cW],o0,o1,o2,o3,o4⟩
def ZkC:∀(d:Nat) (ts:List aa),WT Go.Proofs.Tryz.prog d 81 ts->∃x,ts=gG x/\Ko x:=by
 intro d ts h;cases d with
 |zero=>cases h
 |succ d=>
  simp only[WT,underlying81]at h;replace h:Seq (WT Go.Proofs.Tryz.prog d) [60,4,4,3] ts:=h;simp only[Seq]at h;obtain⟨_,_,rfl,h0,_,_,rfl,h1,_,_,rfl,h2,_,_,rfl,h3,rfl⟩:=h;obtain⟨x0,rfl,o0⟩:=Oz d _ h0;obtain⟨x1,rfl,o1⟩:=(fC underlying4) d _ h1;obtain⟨x2,rfl,o2⟩:=(fC underlying4) d _ h2;obtain⟨x3,rfl,o3⟩:=(Z4 underlying3) d _ h3;exact⟨⟨x0,x1,x2,x3⟩,by simp only[gG,cW],o0,o1,o2,o3⟩
def ZkD:∀(d:Nat) (ts:List aa),WT Go.Proofs.Tryz.prog d 83 ts->∃x,ts=gj x/\zN x:=by
 intro d ts h;cases d with
 |zero=>cases h
 |succ d=>
  simp only[WT,underlying83]at h;replace h:Seq (WT Go.Proofs.Tryz.prog d) [3,3,41] ts:=h;simp only[Seq]at h;obtain⟨_,_,rfl,h0,_,_,rfl,h1,_,_,rfl,h2,rfl⟩:=h;obtain⟨x0,rfl,o0⟩:=(Z4 underlying3) d _ h0;obtain⟨x1,rfl,o1⟩:=(Z4 underlying3) d _ h1;obtain⟨x2,rfl,o2⟩:=kX d _ h2;exact⟨⟨x0,x1,x2⟩,by simp only[gj,cW],o0,o1,o2⟩
def ZkE:∀(d:Nat) (ts:List aa),WT Go.Proofs.Tryz.prog d 133 ts->∃x,ts=bK x/\Z8o x:=by
 intro d ts h;cases d with
 |zero=>cases h
 |succ d=>
  simp only[WT,underlying133]at h;replace h:Seq (WT Go.Proofs.Tryz.prog d) [4,4,41] ts:=h;simp only[Seq]at h;obtain⟨_,_,rfl,h0,_,_,rfl,h1,_,_,rfl,h2,rfl⟩:=h;obtain⟨x0,rfl,o0⟩:=(fC underlying4) d _ h0;obtain⟨x1,rfl,o1⟩:=(fC underlying4) d _ h1;obtain⟨x2,rfl,o2⟩:=kX d _ h2;exact⟨⟨x0,x1,x2⟩,by simp only[bK,cW],o0,o1,o2⟩
def ZkF:∀(d:Nat) (ts:List aa),WT Go.Proofs.Tryz.prog d 136 ts->∃x,ts=fp x/\zO x:=by
 intro d ts h;cases d with
 |zero=>cases h
 |succ d=>
  simp only[WT,underlying136]at h;replace h:Seq (WT Go.Proofs.Tryz.prog d) [3,3,41] ts:=h;simp only[Seq]at h;obtain⟨_,_,rfl,h0,_,_,rfl,h1,_,_,rfl,h2,rfl⟩:=h;obtain⟨x0,rfl,o0⟩:=(Z4 underlying3) d _ h0;obtain⟨x1,rfl,o1⟩:=(Z4 underlying3) d _ h1;obtain⟨x2,rfl,o2⟩:=kX d _ h2;exact⟨⟨x0,x1,x2⟩,by simp only[fp,cW],o0,o1,o2⟩
def ZkG:∀(d:Nat) (ts:List aa),WT Go.Proofs.Tryz.prog d 138 ts->∃x,ts=de x/\Z0x x:=by
 intro d ts h;cases d with
 |zero=>cases h
 |succ d=>
  simp only[WT,underlying138]at h;replace h:Seq (WT Go.Proofs.Tryz.prog d) [3,3,3,41] ts:=h;simp only[Seq]at h;obtain⟨_,_,rfl,h0,_,_,rfl,h1,_,_,rfl,h2,_,_,rfl,h3,rfl⟩:=h;obtain⟨x0,rfl,o0⟩:=(Z4 underlying3) d _ h0;obtain⟨x1,rfl,o1⟩:=(Z4 underlying3) d _ h1;obtain⟨x2,rfl,o2⟩:=(Z4 underlying3) d _ h2;obtain⟨x3,rfl,o3⟩:=kX d _ h3;exact⟨⟨x0,x1,x2,x3⟩,by simp only[de,cW],o0,o1,o2,o3⟩
def ZkH:∀(d:Nat) (ts:List aa),WT Go.Proofs.Tryz.prog d 140 ts->∃x,ts=bc x/\Z0y x:=by
 intro d ts h;cases d with
 |zero=>cases h
 |succ d=>
  simp only[WT,underlying140]at h;replace h:Seq (WT Go.Proofs.Tryz.prog d) [3,136,138,3,3,9,41,117,42] ts:=h;simp only[Seq]at h;obtain⟨_,_,rfl,h0,_,_,rfl,h1,_,_,rfl,h2,_,_,rfl,h3,_,_,rfl,h4,_,_,rfl,h5,_,_,rfl,h6,_,_,rfl,h7,_,_,rfl,h8,rfl⟩:=h;obtain⟨x0,rfl,o0⟩:=(Z4 underlying3) d _ h0;obtain⟨x1,rfl,o1⟩:=ZkF d _ h1;obtain⟨x2,rfl,o2⟩:=ZkG d _ h2;obtain⟨x3,rfl,o3⟩:=(Z4 underlying3) d _ h3;obtain⟨x4,rfl,o4⟩:=(Z4 underlying3) d _ h4;obtain⟨x5,rfl,o5⟩:=(r5 underlying9) d _ h5;obtain⟨x6,rfl,o6⟩:=kX d _ h6;obtain⟨x7,rfl,o7⟩:=(OA underlying117 (Z4 underlying3)) d _ h7;obtain⟨x8,rfl,o8⟩:=(eK underlying42 (by kernel_rfl:Go.Proofs.Tryz.prog.bytesOf 79=176) Z48) d _ h8;exact⟨⟨x0,x1,x2,x3,x4,x5,x6,x7,x8⟩,by simp only[bc,cW],o0,o1,o2,o3,o4,o5,o6,o7,o8⟩
def ZkI:∀(d:Nat) (ts:List aa),WT Go.Proofs.Tryz.prog d 87 ts->∃x,ts=fa x/\zP x:=by
 intro d ts h;cases d with
 |zero=>cases h
 |succ d=>
  simp only[WT,underlying87]at h;replace h:Seq (WT Go.Proofs.Tryz.prog d) [3,3,41,3,3,3,3] ts:=h;simp only[Seq]at h;obtain⟨_,_,rfl,h0,_,_,rfl,h1,_,_,rfl,h2,_,_,rfl,h3,_,_,rfl,h4,_,_,rfl,h5,_,_,rfl,h6,rfl⟩:=h;obtain⟨x0,rfl,o0⟩:=(Z4 underlying3) d _ h0;obtain⟨x1,rfl,o1⟩:=(Z4 underlying3) d _ h1;obtain⟨x2,rfl,o2⟩:=kX d _ h2;obtain⟨x3,rfl,o3⟩:=(Z4 underlying3) d _ h3;obtain⟨x4,rfl,o4⟩:=(Z4 underlying3) d _ h4;obtain⟨x5,rfl,o5⟩:=(Z4 underlying3) d _ h5;obtain⟨x6,rfl,o6⟩:=(Z4 underlying3) d _ h6;exact⟨⟨x0,x1,x2,x3,x4,x5,x6⟩,by simp only[fa,cW],o0,o1,o2,o3,o4,o5,o6⟩
def A0:∀(d:Nat) (ts:List aa),WT Go.Proofs.Tryz.prog d 89 ts->∃x,ts=aC x/\q9 x:=by
 intro d ts h;cases d with
 |zero=>cases h
 |succ d=>
  simp only[WT,underlying89]at h;replace h:Seq (WT Go.Proofs.Tryz.prog d) [3,41,42,81,4,83,4,84,85,87] ts:=h;simp only[Seq]at h;obtain⟨_,_,rfl,h0,_,_,rfl,h1,_,_,rfl,h2,_,_,rfl,h3,_,_,rfl,h4,_,_,rfl,h5,_,_,rfl,h6,_,_,rfl,h7,_,_,rfl,h8,_,_,rfl,h9,rfl⟩:=h;obtain⟨x0,rfl,o0⟩:=(Z4 underlying3) d _ h0;obtain⟨x1,rfl,o1⟩:=kX d _ h1;obtain⟨x2,rfl,o2⟩:=(eK underlying42 (by kernel_rfl:Go.Proofs.Tryz.prog.bytesOf 79=176) Z48) d _ h2;obtain⟨x3,rfl,o3⟩:=ZkC d _ h3;obtain⟨x4,rfl,o4⟩:=(fC underlying4) d _ h4;obtain⟨x5,rfl,o5⟩:=ZkD d _ h5;obtain⟨x6,rfl,o6⟩:=(fC underlying4) d _ h6;obtain⟨x7,rfl,o7⟩:=(eK underlying84 (by kernel_rfl:Go.Proofs.Tryz.prog.bytesOf 133=144) ZkE) d _ h7;obtain⟨x8,rfl,o8⟩:=(eK underlying85 (by kernel_rfl:Go.Proofs.Tryz.prog.bytesOf 140=560) ZkH) d _ h8;obtain⟨x9,rfl,o9⟩:=ZkI d _ h9;exact⟨⟨x0,x1,x2,x3,x4,x5,x6,x7,x8,x9⟩,by simp only[aC,cW],o0,o1,o2,o3,o4,o5,o6,o7,o8,o9⟩
def ZkJ:∀(d:Nat) (ts:List aa),WT Go.Proofs.Tryz.prog d 77 ts->∃x,ts=Z0 x/\Kp x:=by
 intro d ts h;cases d with
 |zero=>cases h
 |succ d=>
  simp only[WT,underlying77]at h;replace h:Seq (WT Go.Proofs.Tryz.prog d) [9,4,60,3,63,3,3,3,64] ts:=h;simp only[Seq]at h;obtain⟨_,_,rfl,h0,_,_,rfl,h1,_,_,rfl,h2,_,_,rfl,h3,_,_,rfl,h4,_,_,rfl,h5,_,_,rfl,h6,_,_,rfl,h7,_,_,rfl,h8,rfl⟩:=h;obtain⟨x0,rfl,o0⟩:=(r5 underlying9) d _ h0;obtain⟨x1,rfl,o1⟩:=(fC underlying4) d _ h1;obtain⟨x2,rfl,o2⟩:=Oz d _ h2;obtain⟨x3,rfl,o3⟩:=(Z4 underlying3) d _ h3;obtain⟨x4,rfl,o4⟩:=ZkB d _ h4;obtain⟨x5,rfl,o5⟩:=(Z4 underlying3) d _ h5;obtain⟨x6,rfl,o6⟩:=(Z4 underlying3) d _ h6;obtain⟨x7,rfl,o7⟩:=(Z4 underlying3) d _ h7;obtain⟨x8,rfl,o8⟩:=(eK underlying64 (by kernel_rfl:Go.Proofs.Tryz.prog.bytesOf 89=640) A0) d _ h8;exact⟨⟨x0,x1,x2,x3,x4,x5,x6,x7,x8⟩,by simp only[Z0,cW],o0,o1,o2,o3,o4,o5,o6,o7,o8⟩
def ZkK:∀(d:Nat) (ts:List aa),WT Go.Proofs.Tryz.prog d 119 ts->∃x,ts=cZ x/\Z0z x:=by
 intro d ts h;cases d with
 |zero=>cases h
 |succ d=>
  simp only[WT,underlying119]at h;replace h:Seq (WT Go.Proofs.Tryz.prog d) [3,3,3,117,4,4,25,25,25] ts:=h;simp only[Seq]at h;obtain⟨_,_,rfl,h0,_,_,rfl,h1,_,_,rfl,h2,_,_,rfl,h3,_,_,rfl,h4,_,_,rfl,h5,_,_,rfl,h6,_,_,rfl,h7,_,_,rfl,h8,rfl⟩:=h;obtain⟨x0,rfl,o0⟩:=(Z4 underlying3) d _ h0;obtain⟨x1,rfl,o1⟩:=(Z4 underlying3) d _ h1;obtain⟨x2,rfl,o2⟩:=(Z4 underlying3) d _ h2;obtain⟨x3,rfl,o3⟩:=(OA underlying117 (Z4 underlying3)) d _ h3;obtain⟨x4,rfl,o4⟩:=(fC underlying4) d _ h4;obtain⟨x5,rfl,o5⟩:=(fC underlying4) d _ h5;obtain⟨x6,rfl,o6⟩:=(eK underlying25 (by kernel_rfl:Go.Proofs.Tryz.prog.bytesOf 3=8) (Z4 underlying3)) d _ h6;obtain⟨x7,rfl,o7⟩:=(eK underlying25 (by kernel_rfl:Go.Proofs.Tryz.prog.bytesOf 3=8) (Z4 underlying3)) d _ h7;obtain⟨x8,rfl,o8⟩:=(eK underlying25 (by kernel_rfl:Go.Proofs.Tryz.prog.bytesOf 3=8) (Z4 underlying3)) d _ h8;exact⟨⟨x0,x1,x2,x3,x4,x5,x6,x7,x8⟩,by simp only[cZ,cW],o0,o1,o2,o3,o4,o5,o6,o7,o8⟩
def ZkL:∀(d:Nat) (ts:List aa),WT Go.Proofs.Tryz.prog d 56 ts->∃x,ts=aH x/\Kq x:=by
 intro d ts h;cases d with
 |zero=>cases h
 |succ d=>
  simp only[WT,underlying56]at h;replace h:Seq (WT Go.Proofs.Tryz.prog d) [3,3,3,3,3,4,4,4,4,3,54,3,3,3,4,3,3] ts:=h;simp only[Seq]at h;obtain⟨_,_,rfl,h0,_,_,rfl,h1,_,_,rfl,h2,_,_,rfl,h3,_,_,rfl,h4,_,_,rfl,h5,_,_,rfl,h6,_,_,rfl,h7,_,_,rfl,h8,_,_,rfl,h9,_,_,rfl,h10,_,_,rfl,h11,_,_,rfl,h12,_,_,rfl,h13,_,_,rfl,h14,_,_,rfl,h15,_,_,rfl,h16,rfl⟩:=h;obtain⟨x0,rfl,o0⟩:=(Z4 underlying3) d _ h0;obtain⟨x1,rfl,o1⟩:=(Z4 underlying3) d _ h1;obtain⟨x2,rfl,o2⟩:=(Z4 underlying3) d _ h2;obtain⟨x3,rfl,o3⟩:=(Z4 underlying3) d _ h3;obtain⟨x4,rfl,o4⟩:=(Z4 underlying3) d _ h4;obtain⟨x5,rfl,o5⟩:=(fC underlying4) d _ h5;obtain⟨x6,rfl,o6⟩:=(fC underlying4) d _ h6;obtain⟨x7,rfl,o7⟩:=(fC underlying4) d _ h7;obtain⟨x8,rfl,o8⟩:=(fC underlying4) d _ h8;obtain⟨x9,rfl,o9⟩:=(Z4 underlying3) d _ h9;obtain⟨x10,rfl,o10⟩:=(OB underlying54 (Z4 underlying3)) d _ h10;obtain⟨x11,rfl,o11⟩:=(Z4 underlying3) d _ h11;obtain⟨x12,rfl,o12⟩:=(Z4 underlying3) d _ h12;obtain⟨x13,rfl,o13⟩:=(Z4 underlying3) d _ h13;obtain⟨x14,rfl,o14⟩:=(fC underlying4) d _ h14;obtain⟨x15,rfl,o15⟩:=(Z4 underlying3) d _ h15;obtain⟨x16,rfl,o16⟩:=(Z4 underlying3) d _ h16;exact⟨⟨x0,x1,x2,x3,x4,x5,x6,x7,x8,x9,x10,x11,x12,x13,x14,x15,x16⟩,by simp only[aH,cW],o0,o1,o2,o3,o4,o5,o6,o7,o8,o9,o10,o11,o12,o13,o14,o15,o16⟩
def ZkM:∀(d:Nat) (ts:List aa),WT Go.Proofs.Tryz.prog d 280 ts->∃x,ts=qD x/\Kr x:=by
 intro d ts h;cases d with
 |zero=>cases h
 |succ d=>
  simp only[WT,underlying280]at h;replace h:Seq (WT Go.Proofs.Tryz.prog d) [3,3] ts:=h;simp only[Seq]at h;obtain⟨_,_,rfl,h0,_,_,rfl,h1,rfl⟩:=h;obtain⟨x0,rfl,o0⟩:=(Z4 underlying3) d _ h0;obtain⟨x1,rfl,o1⟩:=(Z4 underlying3) d _ h1;exact⟨⟨x0,x1⟩,by simp only[qD,cW],o0,o1⟩
def OC:∀(d:Nat) (ts:List aa),WT Go.Proofs.Tryz.prog d 158 ts->∃x,ts=qN x/\Z4c x:=by
 intro d ts h;cases d with
 |zero=>cases h
 |succ d=>
  simp only[WT,underlying158]at h;replace h:Seq (WT Go.Proofs.Tryz.prog d) [3,3,3,3,3,3,3,3,3,3,4,4,54] ts:=h;simp only[Seq]at h;obtain⟨_,_,rfl,h0,_,_,rfl,h1,_,_,rfl,h2,_,_,rfl,h3,_,_,rfl,h4,_,_,rfl,h5,_,_,rfl,h6,_,_,rfl,h7,_,_,rfl,h8,_,_,rfl,h9,_,_,rfl,h10,_,_,rfl,h11,_,_,rfl,h12,rfl⟩:=h;obtain⟨x0,rfl,o0⟩:=(Z4 underlying3) d _ h0;obtain⟨x1,rfl,o1⟩:=(Z4 underlying3) d _ h1;obtain⟨x2,rfl,o2⟩:=(Z4 underlying3) d _ h2;obtain⟨x3,rfl,o3⟩:=(Z4 underlying3) d _ h3;obtain⟨x4,rfl,o4⟩:=(Z4 underlying3) d _ h4;obtain⟨x5,rfl,o5⟩:=(Z4 underlying3) d _ h5;obtain⟨x6,rfl,o6⟩:=(Z4 underlying3) d _ h6;obtain⟨x7,rfl,o7⟩:=(Z4 underlying3) d _ h7;obtain⟨x8,rfl,o8⟩:=(Z4 underlying3) d _ h8;obtain⟨x9,rfl,o9⟩:=(Z4 underlying3) d _ h9;obtain⟨x10,rfl,o10⟩:=(fC underlying4) d _ h10;obtain⟨x11,rfl,o11⟩:=(fC underlying4) d _ h11;obtain⟨x12,rfl,o12⟩:=(OB underlying54 (Z4 underlying3)) d _ h12;exact⟨⟨x0,x1,x2,x3,x4,x5,x6,x7,x8,x9,x10,x11,x12⟩,by simp only[qN,cW],o0,o1,o2,o3,o4,o5,o6,o7,o8,o9,o10,o11,o12⟩
def ZkN:∀(d:Nat) (ts:List aa),WT Go.Proofs.Tryz.prog d 160 ts->∃x,ts=cV x/\Z8p x:=by
 intro d ts h;cases d with
 |zero=>cases h
 |succ d=>
  simp only[WT,underlying160]at h;replace h:Seq (WT Go.Proofs.Tryz.prog d) [3,3,3,3,3,4,89,156,158] ts:=h;simp only[Seq]at h;obtain⟨_,_,rfl,h0,_,_,rfl,h1,_,_,rfl,h2,_,_,rfl,h3,_,_,rfl,h4,_,_,rfl,h5,_,_,rfl,h6,_,_,rfl,h7,_,_,rfl,h8,rfl⟩:=h;obtain⟨x0,rfl,o0⟩:=(Z4 underlying3) d _ h0;obtain⟨x1,rfl,o1⟩:=(Z4 underlying3) d _ h1;obtain⟨x2,rfl,o2⟩:=(Z4 underlying3) d _ h2;obtain⟨x3,rfl,o3⟩:=(Z4 underlying3) d _ h3;obtain⟨x4,rfl,o4⟩:=(Z4 underlying3) d _ h4;obtain⟨x5,rfl,o5⟩:=(fC underlying4) d _ h5;obtain⟨x6,rfl,o6⟩:=A0 d _ h6;obtain⟨x7,rfl,o7⟩:=(eK underlying156 (by kernel_rfl:Go.Proofs.Tryz.prog.bytesOf 280=16) ZkM) d _ h7;obtain⟨x8,rfl,o8⟩:=OC d _ h8;exact⟨⟨x0,x1,x2,x3,x4,x5,x6,x7,x8⟩,by simp only[cV,cW],o0,o1,o2,o3,o4,o5,o6,o7,o8⟩
def ZkO:∀(d:Nat) (ts:List aa),WT Go.Proofs.Tryz.prog d 162 ts->∃x,ts=dE x/\zQ x:=by
 intro d ts h;cases d with
 |zero=>cases h
 |succ d=>
  simp only[WT,underlying162]at h;replace h:Seq (WT Go.Proofs.Tryz.prog d) [3,3,89,158] ts:=h;simp only[Seq]at h;obtain⟨_,_,rfl,h0,_,_,rfl,h1,_,_,rfl,h2,_,_,rfl,h3,rfl⟩:=h;obtain⟨x0,rfl,o0⟩:=(Z4 underlying3) d _ h0;obtain⟨x1,rfl,o1⟩:=(Z4 underlying3) d _ h1;obtain⟨x2,rfl,o2⟩:=A0 d _ h2;obtain⟨x3,rfl,o3⟩:=OC d _ h3;exact⟨⟨x0,x1,x2,x3⟩,by simp only[dE,cW],o0,o1,o2,o3⟩
def ZkP:∀(d:Nat) (ts:List aa),WT Go.Proofs.Tryz.prog d 93 ts->∃x,ts=c6 x/\Z8q x:=by
 intro d ts h;cases d with
 |zero=>cases h
 |succ d=>
  simp only[WT,underlying93]at h;replace h:Seq (WT Go.Proofs.Tryz.prog d) [3,3,3,3,25,42] ts:=h;simp only[Seq]at h;obtain⟨_,_,rfl,h0,_,_,rfl,h1,_,_,rfl,h2,_,_,rfl,h3,_,_,rfl,h4,_,_,rfl,h5,rfl⟩:=h;obtain⟨x0,rfl,o0⟩:=(Z4 underlying3) d _ h0;obtain⟨x1,rfl,o1⟩:=(Z4 underlying3) d _ h1;obtain⟨x2,rfl,o2⟩:=(Z4 underlying3) d _ h2;obtain⟨x3,rfl,o3⟩:=(Z4 underlying3) d _ h3;obtain⟨x4,rfl,o4⟩:=(eK underlying25 (by kernel_rfl:Go.Proofs.Tryz.prog.bytesOf 3=8) (Z4 underlying3)) d _ h4;obtain⟨x5,rfl,o5⟩:=(eK underlying42 (by kernel_rfl:Go.Proofs.Tryz.prog.bytesOf 79=176) Z48) d _ h5;exact⟨⟨x0,x1,x2,x3,x4,x5⟩,by simp only[c6,cW],o0,o1,o2,o3,o4,o5⟩
def ZkQ:∀(d:Nat) (ts:List aa),WT Go.Proofs.Tryz.prog d 31 ts->∃x,ts=Z6 x/\Ks x:=by
 intro d ts h;cases d with
 |zero=>cases h
 |succ d=>
  simp only[WT,underlying31]at h;replace h:Seq (WT Go.Proofs.Tryz.prog d) [23,24,25,25,26,27,28,3,3,3,4,3,3,3,3,29,25,3,3] ts:=h;simp only[Seq]at h;obtain⟨_,_,rfl,h0,_,_,rfl,h1,_,_,rfl,h2,_,_,rfl,h3,_,_,rfl,h4,_,_,rfl,h5,_,_,rfl,h6,_,_,rfl,h7,_,_,rfl,h8,_,_,rfl,h9,_,_,rfl,h10,_,_,rfl,h11,_,_,rfl,h12,_,_,rfl,h13,_,_,rfl,h14,_,_,rfl,h15,_,_,rfl,h16,_,_,rfl,h17,_,_,rfl,h18,rfl⟩:=h;obtain⟨x0,rfl,o0⟩:=(eK underlying23 (by kernel_rfl:Go.Proofs.Tryz.prog.bytesOf 119=152) ZkK) d _ h0;obtain⟨x1,rfl,o1⟩:=(eK underlying24 (by kernel_rfl:Go.Proofs.Tryz.prog.bytesOf 56=128) ZkL) d _ h1;obtain⟨x2,rfl,o2⟩:=(eK underlying25 (by kernel_rfl:Go.Proofs.Tryz.prog.bytesOf 3=8) (Z4 underlying3)) d _ h2;obtain⟨x3,rfl,o3⟩:=(eK underlying25 (by kernel_rfl:Go.Proofs.Tryz.prog.bytesOf 3=8) (Z4 underlying3)) d _ h3;obtain⟨x4,rfl,o4⟩:=(eK underlying26 (by kernel_rfl:Go.Proofs.Tryz.prog.bytesOf 160=824) ZkN) d _ h4;obtain⟨x5,rfl,o5⟩:=(eK underlying27 (by kernel_rfl:Go.Proofs.Tryz.prog.bytesOf 162=768) ZkO) d _ h5;obtain⟨x6,rfl,o6⟩:=(eK underlying28 (by kernel_rfl:Go.Proofs.Tryz.prog.bytesOf 93=80) ZkP) d _ h6;obtain⟨x7,rfl,o7⟩:=(Z4 underlying3) d _ h7;obtain⟨x8,rfl,o8⟩:=(Z4 underlying3) d _ h8;obtain⟨x9,rfl,o9⟩:=(Z4 underlying3) d _ h9;obtain⟨x10,rfl,o10⟩:=(fC underlying4) d _ h10;obtain⟨x11,rfl,o11⟩:=(Z4 underlying3) d _ h11;obtain⟨x12,rfl,o12⟩:=(Z4 underlying3) d _ h12;obtain⟨x13,rfl,o13⟩:=(Z4 underlying3) d _ h13;obtain⟨x14,rfl,o14⟩:=(Z4 underlying3) d _ h14;obtain⟨x15,rfl,o15⟩:=(Z4 underlying29) d _ h15;obtain⟨x16,rfl,o16⟩:=(eK underlying25 (by kernel_rfl:Go.Proofs.Tryz.prog.bytesOf 3=8) (Z4 underlying3)) d _ h16;obtain⟨x17,rfl,o17⟩:=(Z4 underlying3) d _ h17;obtain⟨x18,rfl,o18⟩:=(Z4 underlying3) d _ h18;exact⟨⟨x0,x1,x2,x3,x4,x5,x6,x7,x8,x9,x10,x11,x12,x13,x14,x15,x16,x17,x18⟩,by simp only[Z6,cW],o0,o1,o2,o3,o4,o5,o6,o7,o8,o9,o10,o11,o12,o13,o14,o15,o16,o17,o18⟩
end Go.PW
