import Derived.Test.YtdjfkajcchcdkaaGreatQC
import Derived.Test.YtdjfkajcchcdkaaGreatQE
set_option linter.all false
set_option maxRecDepth 100000
namespace Go.PW
open Go.Proofs.Tryz
open Go.RowKit
def My:∀(d:Nat) (ts:List U),WT Go.Proofs.Tryz.prog d 39 ts->∃x,ts=cJ x/\zR x:=by
 intro d ts h;cases d with
 |zero=>cases h
 |succ d=>
  simp only[WT,underlying39]at h;replace h:Seq (WT Go.Proofs.Tryz.prog d) [3,3,37] ts:=h;simp only[Seq]at h;obtain⟨_,_,rfl,h0,_,_,rfl,h1,_,_,rfl,h2,rfl⟩:=h;obtain⟨x0,rfl,o0⟩:=(Z8 underlying3) d _ h0;obtain⟨x1,rfl,o1⟩:=(Z8 underlying3) d _ h1;obtain⟨x2,rfl,o2⟩:=(Zc5 underlying37 (Z8 underlying3)) d _ h2;exact⟨⟨x0,x1,x2⟩,by simp only[cJ,cC],o0,o1,o2⟩
def Zc6:∀(d:Nat) (ts:List U),WT Go.Proofs.Tryz.prog d 121 ts->∃x,ts=jd x/\zS x:=by
 intro d ts h;cases d with
 |zero=>cases h
 |succ d=>
  simp only[WT,underlying121]at h;replace h:Seq (WT Go.Proofs.Tryz.prog d) [3,3,119] ts:=h;simp only[Seq]at h;obtain⟨_,_,rfl,h0,_,_,rfl,h1,_,_,rfl,h2,rfl⟩:=h;obtain⟨x0,rfl,o0⟩:=(Z8 underlying3) d _ h0;obtain⟨x1,rfl,o1⟩:=(Z8 underlying3) d _ h1;obtain⟨x2,rfl,o2⟩:=(dE underlying119 (by kernel_rfl:Go.Proofs.Tryz.prog.bytesOf 9=16) (qZ underlying9)) d _ h2;exact⟨⟨x0,x1,x2⟩,by simp only[jd,cC],o0,o1,o2⟩
def Z12:∀(d:Nat) (ts:List U),WT Go.Proofs.Tryz.prog d 33 ts->∃x,ts=e9 x/\uT x:=by
 intro d ts h;cases d with
 |zero=>cases h
 |succ d=>
  simp only[WT,underlying33]at h;replace h:Seq (WT Go.Proofs.Tryz.prog d) [3,3] ts:=h;simp only[Seq]at h;obtain⟨_,_,rfl,h0,_,_,rfl,h1,rfl⟩:=h;obtain⟨x0,rfl,o0⟩:=(Z8 underlying3) d _ h0;obtain⟨x1,rfl,o1⟩:=(Z8 underlying3) d _ h1;exact⟨⟨x0,x1⟩,by simp only[e9,cC],o0,o1⟩
def kH:∀(d:Nat) (ts:List U),WT Go.Proofs.Tryz.prog d 35 ts->∃x,ts=bf x/\jc x:=by
 intro d ts h;cases d with
 |zero=>cases h
 |succ d=>
  simp only[WT,underlying35]at h;replace h:Seq (WT Go.Proofs.Tryz.prog d) [3,3,3,3,3,3,3,9,3,3,33,33,33] ts:=h;simp only[Seq]at h;obtain⟨_,_,rfl,h0,_,_,rfl,h1,_,_,rfl,h2,_,_,rfl,h3,_,_,rfl,h4,_,_,rfl,h5,_,_,rfl,h6,_,_,rfl,h7,_,_,rfl,h8,_,_,rfl,h9,_,_,rfl,h10,_,_,rfl,h11,_,_,rfl,h12,rfl⟩:=h;obtain⟨x0,rfl,o0⟩:=(Z8 underlying3) d _ h0;obtain⟨x1,rfl,o1⟩:=(Z8 underlying3) d _ h1;obtain⟨x2,rfl,o2⟩:=(Z8 underlying3) d _ h2;obtain⟨x3,rfl,o3⟩:=(Z8 underlying3) d _ h3;obtain⟨x4,rfl,o4⟩:=(Z8 underlying3) d _ h4;obtain⟨x5,rfl,o5⟩:=(Z8 underlying3) d _ h5;obtain⟨x6,rfl,o6⟩:=(Z8 underlying3) d _ h6;obtain⟨x7,rfl,o7⟩:=(qZ underlying9) d _ h7;obtain⟨x8,rfl,o8⟩:=(Z8 underlying3) d _ h8;obtain⟨x9,rfl,o9⟩:=(Z8 underlying3) d _ h9;obtain⟨x10,rfl,o10⟩:=Z12 d _ h10;obtain⟨x11,rfl,o11⟩:=Z12 d _ h11;obtain⟨x12,rfl,o12⟩:=Z12 d _ h12;exact⟨⟨x0,x1,x2,x3,x4,x5,x6,x7,x8,x9,x10,x11,x12⟩,by simp only[bf,cC],o0,o1,o2,o3,o4,o5,o6,o7,o8,o9,o10,o11,o12⟩
def Z9i:∀(d:Nat) (ts:List U),WT Go.Proofs.Tryz.prog d 144 ts->∃x,ts=aF x/\qo x:=by
 intro d ts h;cases d with
 |zero=>cases h
 |succ d=>
  simp only[WT,underlying144]at h;replace h:Seq (WT Go.Proofs.Tryz.prog d) [3,3,3,9,35] ts:=h;simp only[Seq]at h;obtain⟨_,_,rfl,h0,_,_,rfl,h1,_,_,rfl,h2,_,_,rfl,h3,_,_,rfl,h4,rfl⟩:=h;obtain⟨x0,rfl,o0⟩:=(Z8 underlying3) d _ h0;obtain⟨x1,rfl,o1⟩:=(Z8 underlying3) d _ h1;obtain⟨x2,rfl,o2⟩:=(Z8 underlying3) d _ h2;obtain⟨x3,rfl,o3⟩:=(qZ underlying9) d _ h3;obtain⟨x4,rfl,o4⟩:=kH d _ h4;exact⟨⟨x0,x1,x2,x3,x4⟩,by simp only[aF,cC],o0,o1,o2,o3,o4⟩
def Zc7:∀(d:Nat) (ts:List U),WT Go.Proofs.Tryz.prog d 41 ts->∃x,ts=hN x/\Js x:=by
 intro d ts h;cases d with
 |zero=>cases h
 |succ d=>
  simp only[WT,underlying41]at h;replace h:Seq (WT Go.Proofs.Tryz.prog d) [39,4,4,3] ts:=h;simp only[Seq]at h;obtain⟨_,_,rfl,h0,_,_,rfl,h1,_,_,rfl,h2,_,_,rfl,h3,rfl⟩:=h;obtain⟨x0,rfl,o0⟩:=My d _ h0;obtain⟨x1,rfl,o1⟩:=(fg underlying4) d _ h1;obtain⟨x2,rfl,o2⟩:=(fg underlying4) d _ h2;obtain⟨x3,rfl,o3⟩:=(Z8 underlying3) d _ h3;exact⟨⟨x0,x1,x2,x3⟩,by simp only[hN,cC],o0,o1,o2,o3⟩
def Zc8:∀(d:Nat) (ts:List U),WT Go.Proofs.Tryz.prog d 43 ts->∃x,ts=gP x/\Z1n x:=by
 intro d ts h;cases d with
 |zero=>cases h
 |succ d=>
  simp only[WT,underlying43]at h;replace h:Seq (WT Go.Proofs.Tryz.prog d) [3,3,35] ts:=h;simp only[Seq]at h;obtain⟨_,_,rfl,h0,_,_,rfl,h1,_,_,rfl,h2,rfl⟩:=h;obtain⟨x0,rfl,o0⟩:=(Z8 underlying3) d _ h0;obtain⟨x1,rfl,o1⟩:=(Z8 underlying3) d _ h1;obtain⟨x2,rfl,o2⟩:=kH d _ h2;exact⟨⟨x0,x1,x2⟩,by simp only[gP,cC],o0,o1,o2⟩
def Zc9:∀(d:Nat) (ts:List U),WT Go.Proofs.Tryz.prog d 179 ts->∃x,ts=bS x/\zT x:=by
 intro d ts h;cases d with
 |zero=>cases h
 |succ d=>
  simp only[WT,underlying179]at h;replace h:Seq (WT Go.Proofs.Tryz.prog d) [4,4,35] ts:=h;simp only[Seq]at h;obtain⟨_,_,rfl,h0,_,_,rfl,h1,_,_,rfl,h2,rfl⟩:=h;obtain⟨x0,rfl,o0⟩:=(fg underlying4) d _ h0;obtain⟨x1,rfl,o1⟩:=(fg underlying4) d _ h1;obtain⟨x2,rfl,o2⟩:=kH d _ h2;exact⟨⟨x0,x1,x2⟩,by simp only[bS,cC],o0,o1,o2⟩
def Zda:∀(d:Nat) (ts:List U),WT Go.Proofs.Tryz.prog d 66 ts->∃x,ts=fQ x/\zU x:=by
 intro d ts h;cases d with
 |zero=>cases h
 |succ d=>
  simp only[WT,underlying66]at h;replace h:Seq (WT Go.Proofs.Tryz.prog d) [3,3,35] ts:=h;simp only[Seq]at h;obtain⟨_,_,rfl,h0,_,_,rfl,h1,_,_,rfl,h2,rfl⟩:=h;obtain⟨x0,rfl,o0⟩:=(Z8 underlying3) d _ h0;obtain⟨x1,rfl,o1⟩:=(Z8 underlying3) d _ h1;obtain⟨x2,rfl,o2⟩:=kH d _ h2;exact⟨⟨x0,x1,x2⟩,by simp only[fQ,cC],o0,o1,o2⟩
def Zdb:∀(d:Nat) (ts:List U),WT Go.Proofs.Tryz.prog d 68 ts->∃x,ts=dB x/\Z4p x:=by
 intro d ts h;cases d with
 |zero=>cases h
 |succ d=>
  simp only[WT,underlying68]at h;replace h:Seq (WT Go.Proofs.Tryz.prog d) [3,3,3,35] ts:=h;simp only[Seq]at h;obtain⟨_,_,rfl,h0,_,_,rfl,h1,_,_,rfl,h2,_,_,rfl,h3,rfl⟩:=h;obtain⟨x0,rfl,o0⟩:=(Z8 underlying3) d _ h0;obtain⟨x1,rfl,o1⟩:=(Z8 underlying3) d _ h1;obtain⟨x2,rfl,o2⟩:=(Z8 underlying3) d _ h2;obtain⟨x3,rfl,o3⟩:=kH d _ h3;exact⟨⟨x0,x1,x2,x3⟩,by simp only[dB,cC],o0,o1,o2,o3⟩
def Zdc:∀(d:Nat) (ts:List U),WT Go.Proofs.Tryz.prog d 72 ts->∃x,ts=bl x/\Z4q x:=by
 intro d ts h;cases d with
 |zero=>cases h
 |succ d=>
  simp only[WT,underlying72]at h;replace h:Seq (WT Go.Proofs.Tryz.prog d) [3,66,68,3,3,9,35,70,36] ts:=h;simp only[Seq]at h;obtain⟨_,_,rfl,h0,_,_,rfl,h1,_,_,rfl,h2,_,_,rfl,h3,_,_,rfl,h4,_,_,rfl,h5,_,_,rfl,h6,_,_,rfl,h7,_,_,rfl,h8,rfl⟩:=h;obtain⟨x0,rfl,o0⟩:=(Z8 underlying3) d _ h0;obtain⟨x1,rfl,o1⟩:=Zda d _ h1;obtain⟨x2,rfl,o2⟩:=Zdb d _ h2;obtain⟨x3,rfl,o3⟩:=(Z8 underlying3) d _ h3;obtain⟨x4,rfl,o4⟩:=(Z8 underlying3) d _ h4;obtain⟨x5,rfl,o5⟩:=(qZ underlying9) d _ h5;obtain⟨x6,rfl,o6⟩:=kH d _ h6;obtain⟨x7,rfl,o7⟩:=(Mz underlying70 (Z8 underlying3)) d _ h7;obtain⟨x8,rfl,o8⟩:=(dE underlying36 (by kernel_rfl:Go.Proofs.Tryz.prog.bytesOf 144=176) Z9i) d _ h8;exact⟨⟨x0,x1,x2,x3,x4,x5,x6,x7,x8⟩,by simp only[bl,cC],o0,o1,o2,o3,o4,o5,o6,o7,o8⟩
def Zdd:∀(d:Nat) (ts:List U),WT Go.Proofs.Tryz.prog d 47 ts->∃x,ts=fw x/\Z1o x:=by
 intro d ts h;cases d with
 |zero=>cases h
 |succ d=>
  simp only[WT,underlying47]at h;replace h:Seq (WT Go.Proofs.Tryz.prog d) [3,3,35,3,3,3,3] ts:=h;simp only[Seq]at h;obtain⟨_,_,rfl,h0,_,_,rfl,h1,_,_,rfl,h2,_,_,rfl,h3,_,_,rfl,h4,_,_,rfl,h5,_,_,rfl,h6,rfl⟩:=h;obtain⟨x0,rfl,o0⟩:=(Z8 underlying3) d _ h0;obtain⟨x1,rfl,o1⟩:=(Z8 underlying3) d _ h1;obtain⟨x2,rfl,o2⟩:=kH d _ h2;obtain⟨x3,rfl,o3⟩:=(Z8 underlying3) d _ h3;obtain⟨x4,rfl,o4⟩:=(Z8 underlying3) d _ h4;obtain⟨x5,rfl,o5⟩:=(Z8 underlying3) d _ h5;obtain⟨x6,rfl,o6⟩:=(Z8 underlying3) d _ h6;exact⟨⟨x0,x1,x2,x3,x4,x5,x6⟩,by simp only[fw,cC],o0,o1,o2,o3,o4,o5,o6⟩
def AP:∀(d:Nat) (ts:List U),WT Go.Proofs.Tryz.prog d 49 ts->∃x,ts=aD x/\qp x:=by
 intro d ts h;cases d with
 |zero=>cases h
 |succ d=>
  simp only[WT,underlying49]at h;replace h:Seq (WT Go.Proofs.Tryz.prog d) [3,35,36,41,4,43,4,44,45,47] ts:=h;simp only[Seq]at h;obtain⟨_,_,rfl,h0,_,_,rfl,h1,_,_,rfl,h2,_,_,rfl,h3,_,_,rfl,h4,_,_,rfl,h5,_,_,rfl,h6,_,_,rfl,h7,_,_,rfl,h8,_,_,rfl,h9,rfl⟩:=h;obtain⟨x0,rfl,o0⟩:=(Z8 underlying3) d _ h0;obtain⟨x1,rfl,o1⟩:=kH d _ h1;obtain⟨x2,rfl,o2⟩:=(dE underlying36 (by kernel_rfl:Go.Proofs.Tryz.prog.bytesOf 144=176) Z9i) d _ h2;obtain⟨x3,rfl,o3⟩:=Zc7 d _ h3;obtain⟨x4,rfl,o4⟩:=(fg underlying4) d _ h4;obtain⟨x5,rfl,o5⟩:=Zc8 d _ h5;obtain⟨x6,rfl,o6⟩:=(fg underlying4) d _ h6;obtain⟨x7,rfl,o7⟩:=(dE underlying44 (by kernel_rfl:Go.Proofs.Tryz.prog.bytesOf 179=144) Zc9) d _ h7;obtain⟨x8,rfl,o8⟩:=(dE underlying45 (by kernel_rfl:Go.Proofs.Tryz.prog.bytesOf 72=560) Zdc) d _ h8;obtain⟨x9,rfl,o9⟩:=Zdd d _ h9;exact⟨⟨x0,x1,x2,x3,x4,x5,x6,x7,x8,x9⟩,by simp only[aD,cC],o0,o1,o2,o3,o4,o5,o6,o7,o8,o9⟩
def Jl:∀(d:Nat) (ts:List U),WT Go.Proofs.Tryz.prog d 124 ts->∃x,ts=bA x/\Jt x:=by
 intro d ts h;cases d with
 |zero=>cases h
 |succ d=>
  simp only[WT,underlying124]at h;replace h:Seq (WT Go.Proofs.Tryz.prog d) [9,4,39,3,121,3,3,3,122] ts:=h;simp only[Seq]at h;obtain⟨_,_,rfl,h0,_,_,rfl,h1,_,_,rfl,h2,_,_,rfl,h3,_,_,rfl,h4,_,_,rfl,h5,_,_,rfl,h6,_,_,rfl,h7,_,_,rfl,h8,rfl⟩:=h;obtain⟨x0,rfl,o0⟩:=(qZ underlying9) d _ h0;obtain⟨x1,rfl,o1⟩:=(fg underlying4) d _ h1;obtain⟨x2,rfl,o2⟩:=My d _ h2;obtain⟨x3,rfl,o3⟩:=(Z8 underlying3) d _ h3;obtain⟨x4,rfl,o4⟩:=Zc6 d _ h4;obtain⟨x5,rfl,o5⟩:=(Z8 underlying3) d _ h5;obtain⟨x6,rfl,o6⟩:=(Z8 underlying3) d _ h6;obtain⟨x7,rfl,o7⟩:=(Z8 underlying3) d _ h7;obtain⟨x8,rfl,o8⟩:=(dE underlying122 (by kernel_rfl:Go.Proofs.Tryz.prog.bytesOf 49=640) AP) d _ h8;exact⟨⟨x0,x1,x2,x3,x4,x5,x6,x7,x8⟩,by simp only[bA,cC],o0,o1,o2,o3,o4,o5,o6,o7,o8⟩
def Zde:∀(d:Nat) (ts:List U),WT Go.Proofs.Tryz.prog d 80 ts->∃x,ts=ba x/\Z4r x:=by
 intro d ts h;cases d with
 |zero=>cases h
 |succ d=>
  simp only[WT,underlying80]at h;replace h:Seq (WT Go.Proofs.Tryz.prog d) [3,3,3,70,4,4,25,25,25] ts:=h;simp only[Seq]at h;obtain⟨_,_,rfl,h0,_,_,rfl,h1,_,_,rfl,h2,_,_,rfl,h3,_,_,rfl,h4,_,_,rfl,h5,_,_,rfl,h6,_,_,rfl,h7,_,_,rfl,h8,rfl⟩:=h;obtain⟨x0,rfl,o0⟩:=(Z8 underlying3) d _ h0;obtain⟨x1,rfl,o1⟩:=(Z8 underlying3) d _ h1;obtain⟨x2,rfl,o2⟩:=(Z8 underlying3) d _ h2;obtain⟨x3,rfl,o3⟩:=(Mz underlying70 (Z8 underlying3)) d _ h3;obtain⟨x4,rfl,o4⟩:=(fg underlying4) d _ h4;obtain⟨x5,rfl,o5⟩:=(fg underlying4) d _ h5;obtain⟨x6,rfl,o6⟩:=(dE underlying25 (by kernel_rfl:Go.Proofs.Tryz.prog.bytesOf 3=8) (Z8 underlying3)) d _ h6;obtain⟨x7,rfl,o7⟩:=(dE underlying25 (by kernel_rfl:Go.Proofs.Tryz.prog.bytesOf 3=8) (Z8 underlying3)) d _ h7;obtain⟨x8,rfl,o8⟩:=(dE underlying25 (by kernel_rfl:Go.Proofs.Tryz.prog.bytesOf 3=8) (Z8 underlying3)) d _ h8;exact⟨⟨x0,x1,x2,x3,x4,x5,x6,x7,x8⟩,by simp only[ba,cC],o0,o1,o2,o3,o4,o5,o6,o7,o8⟩
def Zdf:∀(d:Nat) (ts:List U),WT Go.Proofs.Tryz.prog d 64 ts->∃x,ts=aC x/\Ju x:=by
 intro d ts h;cases d with
 |zero=>cases h
 |succ d=>
  simp only[WT,underlying64]at h;replace h:Seq (WT Go.Proofs.Tryz.prog d) [3,3,3,3,3,4,4,4,4,3,51,3,3,3,4,3,3] ts:=h;simp only[Seq]at h;obtain⟨_,_,rfl,h0,_,_,rfl,h1,_,_,rfl,h2,_,_,rfl,h3,_,_,rfl,h4,_,_,rfl,h5,_,_,rfl,h6,_,_,rfl,h7,_,_,rfl,h8,_,_,rfl,h9,_,_,rfl,h10,_,_,rfl,h11,_,_,rfl,h12,_,_,rfl,h13,_,_,rfl,h14,_,_,rfl,h15,_,_,rfl,h16,rfl⟩:=h;obtain⟨x0,rfl,o0⟩:=(Z8 underlying3) d _ h0;obtain⟨x1,rfl,o1⟩:=(Z8 underlying3) d _ h1;obtain⟨x2,rfl,o2⟩:=(Z8 underlying3) d _ h2;obtain⟨x3,rfl,o3⟩:=(Z8 underlying3) d _ h3;obtain⟨x4,rfl,o4⟩:=(Z8 underlying3) d _ h4;obtain⟨x5,rfl,o5⟩:=(fg underlying4) d _ h5;obtain⟨x6,rfl,o6⟩:=(fg underlying4) d _ h6;obtain⟨x7,rfl,o7⟩:=(fg underlying4) d _ h7;obtain⟨x8,rfl,o8⟩:=(fg underlying4) d _ h8;obtain⟨x9,rfl,o9⟩:=(Z8 underlying3) d _ h9;obtain⟨x10,rfl,o10⟩:=(MA underlying51 (Z8 underlying3)) d _ h10;obtain⟨x11,rfl,o11⟩:=(Z8 underlying3) d _ h11;obtain⟨x12,rfl,o12⟩:=(Z8 underlying3) d _ h12;obtain⟨x13,rfl,o13⟩:=(Z8 underlying3) d _ h13;obtain⟨x14,rfl,o14⟩:=(fg underlying4) d _ h14;obtain⟨x15,rfl,o15⟩:=(Z8 underlying3) d _ h15;obtain⟨x16,rfl,o16⟩:=(Z8 underlying3) d _ h16;exact⟨⟨x0,x1,x2,x3,x4,x5,x6,x7,x8,x9,x10,x11,x12,x13,x14,x15,x16⟩,by simp only[aC,cC],o0,o1,o2,o3,o4,o5,o6,o7,o8,o9,o10,o11,o12,o13,o14,o15,o16⟩
def Zdg:∀(d:Nat) (ts:List U),WT Go.Proofs.Tryz.prog d 137 ts->∃x,ts=cc x/\Jv x:=by
 intro d ts h;cases d with
 |zero=>cases h
 |succ d=>
  simp only[WT,underlying137]at h;replace h:Seq (WT Go.Proofs.Tryz.prog d) [3,3] ts:=h;simp only[Seq]at h;obtain⟨_,_,rfl,h0,_,_,rfl,h1,rfl⟩:=h;obtain⟨x0,rfl,o0⟩:=(Z8 underlying3) d _ h0;obtain⟨x1,rfl,o1⟩:=(Z8 underlying3) d _ h1;exact⟨⟨x0,x1⟩,by simp only[cc,cC],o0,o1⟩
def MB:∀(d:Nat) (ts:List U),WT Go.Proofs.Tryz.prog d 53 ts->∃x,ts=jK x/\Z8m x:=by
 intro d ts h;cases d with
 |zero=>cases h
 |succ d=>
  simp only[WT,underlying53]at h;replace h:Seq (WT Go.Proofs.Tryz.prog d) [3,3,3,3,3,3,3,3,3,3,4,4,51] ts:=h;simp only[Seq]at h;obtain⟨_,_,rfl,h0,_,_,rfl,h1,_,_,rfl,h2,_,_,rfl,h3,_,_,rfl,h4,_,_,rfl,h5,_,_,rfl,h6,_,_,rfl,h7,_,_,rfl,h8,_,_,rfl,h9,_,_,rfl,h10,_,_,rfl,h11,_,_,rfl,h12,rfl⟩:=h;obtain⟨x0,rfl,o0⟩:=(Z8 underlying3) d _ h0;obtain⟨x1,rfl,o1⟩:=(Z8 underlying3) d _ h1;obtain⟨x2,rfl,o2⟩:=(Z8 underlying3) d _ h2;obtain⟨x3,rfl,o3⟩:=(Z8 underlying3) d _ h3;obtain⟨x4,rfl,o4⟩:=(Z8 underlying3) d _ h4;obtain⟨x5,rfl,o5⟩:=(Z8 underlying3) d _ h5;obtain⟨x6,rfl,o6⟩:=(Z8 underlying3) d _ h6;obtain⟨x7,rfl,o7⟩:=(Z8 underlying3) d _ h7;obtain⟨x8,rfl,o8⟩:=(Z8 underlying3) d _ h8;obtain⟨x9,rfl,o9⟩:=(Z8 underlying3) d _ h9;obtain⟨x10,rfl,o10⟩:=(fg underlying4) d _ h10;obtain⟨x11,rfl,o11⟩:=(fg underlying4) d _ h11;obtain⟨x12,rfl,o12⟩:=(MA underlying51 (Z8 underlying3)) d _ h12;exact⟨⟨x0,x1,x2,x3,x4,x5,x6,x7,x8,x9,x10,x11,x12⟩,by simp only[jK,cC],o0,o1,o2,o3,o4,o5,o6,o7,o8,o9,o10,o11,o12⟩
def Zdh:∀(d:Nat) (ts:List U),WT Go.Proofs.Tryz.prog d 55 ts->∃x,ts=ax x/\zV x:=by
 intro d ts h;cases d with
 |zero=>cases h
 |succ d=>
  simp only[WT,underlying55]at h;replace h:Seq (WT Go.Proofs.Tryz.prog d) [3,3,3,3,3,4,49,50,53] ts:=h;simp only[Seq]at h;obtain⟨_,_,rfl,h0,_,_,rfl,h1,_,_,rfl,h2,_,_,rfl,h3,_,_,rfl,h4,_,_,rfl,h5,_,_,rfl,h6,_,_,rfl,h7,_,_,rfl,h8,rfl⟩:=h;obtain⟨x0,rfl,o0⟩:=(Z8 underlying3) d _ h0;obtain⟨x1,rfl,o1⟩:=(Z8 underlying3) d _ h1;obtain⟨x2,rfl,o2⟩:=(Z8 underlying3) d _ h2;obtain⟨x3,rfl,o3⟩:=(Z8 underlying3) d _ h3;obtain⟨x4,rfl,o4⟩:=(Z8 underlying3) d _ h4;obtain⟨x5,rfl,o5⟩:=(fg underlying4) d _ h5;obtain⟨x6,rfl,o6⟩:=AP d _ h6;obtain⟨x7,rfl,o7⟩:=(dE underlying50 (by kernel_rfl:Go.Proofs.Tryz.prog.bytesOf 137=16) Zdg) d _ h7;obtain⟨x8,rfl,o8⟩:=MB d _ h8;exact⟨⟨x0,x1,x2,x3,x4,x5,x6,x7,x8⟩,by simp only[ax,cC],o0,o1,o2,o3,o4,o5,o6,o7,o8⟩
def Zdi:∀(d:Nat) (ts:List U),WT Go.Proofs.Tryz.prog d 84 ts->∃x,ts=bz x/\Z1p x:=by
 intro d ts h;cases d with
 |zero=>cases h
 |succ d=>
  simp only[WT,underlying84]at h;replace h:Seq (WT Go.Proofs.Tryz.prog d) [3,3,49,53] ts:=h;simp only[Seq]at h;obtain⟨_,_,rfl,h0,_,_,rfl,h1,_,_,rfl,h2,_,_,rfl,h3,rfl⟩:=h;obtain⟨x0,rfl,o0⟩:=(Z8 underlying3) d _ h0;obtain⟨x1,rfl,o1⟩:=(Z8 underlying3) d _ h1;obtain⟨x2,rfl,o2⟩:=AP d _ h2;obtain⟨x3,rfl,o3⟩:=MB d _ h3;exact⟨⟨x0,x1,x2,x3⟩,by simp only[bz,cC],o0,o1,o2,o3⟩
def Zdj:∀(d:Nat) (ts:List U),WT Go.Proofs.Tryz.prog d 141 ts->∃x,ts=bD x/\zW x:=by
 intro d ts h;cases d with
 |zero=>cases h
 |succ d=>
  simp only[WT,underlying141]at h;replace h:Seq (WT Go.Proofs.Tryz.prog d) [3,3,3,3,25,36] ts:=h;simp only[Seq]at h;obtain⟨_,_,rfl,h0,_,_,rfl,h1,_,_,rfl,h2,_,_,rfl,h3,_,_,rfl,h4,_,_,rfl,h5,rfl⟩:=h;obtain⟨x0,rfl,o0⟩:=(Z8 underlying3) d _ h0;obtain⟨x1,rfl,o1⟩:=(Z8 underlying3) d _ h1;obtain⟨x2,rfl,o2⟩:=(Z8 underlying3) d _ h2;obtain⟨x3,rfl,o3⟩:=(Z8 underlying3) d _ h3;obtain⟨x4,rfl,o4⟩:=(dE underlying25 (by kernel_rfl:Go.Proofs.Tryz.prog.bytesOf 3=8) (Z8 underlying3)) d _ h4;obtain⟨x5,rfl,o5⟩:=(dE underlying36 (by kernel_rfl:Go.Proofs.Tryz.prog.bytesOf 144=176) Z9i) d _ h5;exact⟨⟨x0,x1,x2,x3,x4,x5⟩,by simp only[bD,cC],o0,o1,o2,o3,o4,o5⟩
def Jm:∀(d:Nat) (ts:List U),WT Go.Proofs.Tryz.prog d 31 ts->∃x,ts=aH x/\Jw x:=by
 intro d ts h;cases d with
 |zero=>cases h
 |succ d=>
  simp only[WT,underlying31]at h;replace h:Seq (WT Go.Proofs.Tryz.prog d) [23,24,25,25,26,27,28,3,3,3,4,3,3,3,3,29,25,3,3] ts:=h;simp only[Seq]at h;obtain⟨_,_,rfl,h0,_,_,rfl,h1,_,_,rfl,h2,_,_,rfl,h3,_,_,rfl,h4,_,_,rfl,h5,_,_,rfl,h6,_,_,rfl,h7,_,_,rfl,h8,_,_,rfl,h9,_,_,rfl,h10,_,_,rfl,h11,_,_,rfl,h12,_,_,rfl,h13,_,_,rfl,h14,_,_,rfl,h15,_,_,rfl,h16,_,_,rfl,h17,_,_,rfl,h18,rfl⟩:=h;obtain⟨x0,rfl,o0⟩:=(dE underlying23 (by kernel_rfl:Go.Proofs.Tryz.prog.bytesOf 80=152) Zde) d _ h0;obtain⟨x1,rfl,o1⟩:=(dE underlying24 (by kernel_rfl:Go.Proofs.Tryz.prog.bytesOf 64=128) Zdf) d _ h1;obtain⟨x2,rfl,o2⟩:=(dE underlying25 (by kernel_rfl:Go.Proofs.Tryz.prog.bytesOf 3=8) (Z8 underlying3)) d _ h2;obtain⟨x3,rfl,o3⟩:=(dE underlying25 (by kernel_rfl:Go.Proofs.Tryz.prog.bytesOf 3=8) (Z8 underlying3)) d _ h3;obtain⟨x4,rfl,o4⟩:=(dE underlying26 (by kernel_rfl:Go.Proofs.Tryz.prog.bytesOf 55=824) Zdh) d _ h4;obtain⟨x5,rfl,o5⟩:=(dE underlying27 (by kernel_rfl:Go.Proofs.Tryz.prog.bytesOf 84=768) Zdi) d _ h5;obtain⟨x6,rfl,o6⟩:=(dE underlying28 (by kernel_rfl:Go.Proofs.Tryz.prog.bytesOf 141=80) Zdj) d _ h6;obtain⟨x7,rfl,o7⟩:=(Z8 underlying3) d _ h7;obtain⟨x8,rfl,o8⟩:=(Z8 underlying3) d _ h8;obtain⟨x9,rfl,o9⟩:=(Z8 underlying3) d _ h9;obtain⟨x10,rfl,o10⟩:=(fg underlying4) d _ h10;obtain⟨x11,rfl,o11⟩:=(Z8 underlying3) d _ h11;obtain⟨x12,rfl,o12⟩:=(Z8 underlying3) d _ h12;obtain⟨x13,rfl,o13⟩:=(Z8 underlying3) d _ h13;obtain⟨x14,rfl,o14⟩:=(Z8 underlying3) d _ h14;obtain⟨x15,rfl,o15⟩:=(Z8 underlying29) d _ h15;obtain⟨x16,rfl,o16⟩:=(dE underlying25 (by kernel_rfl:Go.Proofs.Tryz.prog.bytesOf 3=8) (Z8 underlying3)) d _ h16;obtain⟨x17,rfl,o17⟩:=(Z8 underlying3) d _ h17;obtain⟨x18,rfl,o18⟩:=(Z8 underlying3) d _ h18;exact⟨⟨x0,x1,x2,x3,x4,x5,x6,x7,x8,x9,x10,x11,x12,x13,x14,x15,x16,x17,x18⟩,by simp only[aH,cC],o0,o1,o2,o3,o4,o5,o6,o7,o8,o9,o10,o11,o12,o13,o14,o15,o16,o17,o18⟩
end Go.PW
