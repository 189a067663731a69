import Derived.Test.YtdjfkajcchcdkaaGreatQC
import Derived.Test.YtdjfkajcchcdkaaGreatQE
set_option linter.all false
set_option maxRecDepth 100000
namespace Go.PW
open Go.Proofs.Tryz
open Go.RowKit
def Gu:∀(d:Nat) (ts:List U),WT Go.Proofs.Tryz.prog d 39 ts->∃x,ts=cn x/\Z58 x:=by
 intro d ts h;cases d with
 |zero=>cases h
 |succ d=>
  simp only[WT,underlying39]at h;replace h:Seq (WT Go.Proofs.Tryz.prog d) [3,3,37] ts:=h;simp only[Seq]at h;obtain⟨_,_,rfl,h0,_,_,rfl,h1,_,_,rfl,h2,rfl⟩:=h;obtain⟨x0,rfl,o0⟩:=(Z7 underlying3) d _ h0;obtain⟨x1,rfl,o1⟩:=(Z7 underlying3) d _ h1;obtain⟨x2,rfl,o2⟩:=(UB underlying37 (Z7 underlying3)) d _ h2;exact⟨⟨x0,x1,x2⟩,by simp only[cn,cU],o0,o1,o2⟩
def UC:∀(d:Nat) (ts:List U),WT Go.Proofs.Tryz.prog d 121 ts->∃x,ts=iN x/\Z59 x:=by
 intro d ts h;cases d with
 |zero=>cases h
 |succ d=>
  simp only[WT,underlying121]at h;replace h:Seq (WT Go.Proofs.Tryz.prog d) [3,3,119] ts:=h;simp only[Seq]at h;obtain⟨_,_,rfl,h0,_,_,rfl,h1,_,_,rfl,h2,rfl⟩:=h;obtain⟨x0,rfl,o0⟩:=(Z7 underlying3) d _ h0;obtain⟨x1,rfl,o1⟩:=(Z7 underlying3) d _ h1;obtain⟨x2,rfl,o2⟩:=(dR underlying119 (by kernel_rfl:Go.Proofs.Tryz.prog.bytesOf 9=16) (oY underlying9)) d _ h2;exact⟨⟨x0,x1,x2⟩,by simp only[iN,cU],o0,o1,o2⟩
def yg:∀(d:Nat) (ts:List U),WT Go.Proofs.Tryz.prog d 33 ts->∃x,ts=eG x/\sg x:=by
 intro d ts h;cases d with
 |zero=>cases h
 |succ d=>
  simp only[WT,underlying33]at h;replace h:Seq (WT Go.Proofs.Tryz.prog d) [3,3] ts:=h;simp only[Seq]at h;obtain⟨_,_,rfl,h0,_,_,rfl,h1,rfl⟩:=h;obtain⟨x0,rfl,o0⟩:=(Z7 underlying3) d _ h0;obtain⟨x1,rfl,o1⟩:=(Z7 underlying3) d _ h1;exact⟨⟨x0,x1⟩,by simp only[eG,cU],o0,o1⟩
def ka:∀(d:Nat) (ts:List U),WT Go.Proofs.Tryz.prog d 35 ts->∃x,ts=bg x/\iM x:=by
 intro d ts h;cases d with
 |zero=>cases h
 |succ d=>
  simp only[WT,underlying35]at h;replace h:Seq (WT Go.Proofs.Tryz.prog d) [3,3,3,3,3,3,3,9,3,3,33,33,33] ts:=h;simp only[Seq]at h;obtain⟨_,_,rfl,h0,_,_,rfl,h1,_,_,rfl,h2,_,_,rfl,h3,_,_,rfl,h4,_,_,rfl,h5,_,_,rfl,h6,_,_,rfl,h7,_,_,rfl,h8,_,_,rfl,h9,_,_,rfl,h10,_,_,rfl,h11,_,_,rfl,h12,rfl⟩:=h;obtain⟨x0,rfl,o0⟩:=(Z7 underlying3) d _ h0;obtain⟨x1,rfl,o1⟩:=(Z7 underlying3) d _ h1;obtain⟨x2,rfl,o2⟩:=(Z7 underlying3) d _ h2;obtain⟨x3,rfl,o3⟩:=(Z7 underlying3) d _ h3;obtain⟨x4,rfl,o4⟩:=(Z7 underlying3) d _ h4;obtain⟨x5,rfl,o5⟩:=(Z7 underlying3) d _ h5;obtain⟨x6,rfl,o6⟩:=(Z7 underlying3) d _ h6;obtain⟨x7,rfl,o7⟩:=(oY underlying9) d _ h7;obtain⟨x8,rfl,o8⟩:=(Z7 underlying3) d _ h8;obtain⟨x9,rfl,o9⟩:=(Z7 underlying3) d _ h9;obtain⟨x10,rfl,o10⟩:=yg d _ h10;obtain⟨x11,rfl,o11⟩:=yg d _ h11;obtain⟨x12,rfl,o12⟩:=yg d _ h12;exact⟨⟨x0,x1,x2,x3,x4,x5,x6,x7,x8,x9,x10,x11,x12⟩,by simp only[bg,cU],o0,o1,o2,o3,o4,o5,o6,o7,o8,o9,o10,o11,o12⟩
def Z2x:∀(d:Nat) (ts:List U),WT Go.Proofs.Tryz.prog d 144 ts->∃x,ts=av x/\oy x:=by
 intro d ts h;cases d with
 |zero=>cases h
 |succ d=>
  simp only[WT,underlying144]at h;replace h:Seq (WT Go.Proofs.Tryz.prog d) [3,3,3,9,35] ts:=h;simp only[Seq]at h;obtain⟨_,_,rfl,h0,_,_,rfl,h1,_,_,rfl,h2,_,_,rfl,h3,_,_,rfl,h4,rfl⟩:=h;obtain⟨x0,rfl,o0⟩:=(Z7 underlying3) d _ h0;obtain⟨x1,rfl,o1⟩:=(Z7 underlying3) d _ h1;obtain⟨x2,rfl,o2⟩:=(Z7 underlying3) d _ h2;obtain⟨x3,rfl,o3⟩:=(oY underlying9) d _ h3;obtain⟨x4,rfl,o4⟩:=ka d _ h4;exact⟨⟨x0,x1,x2,x3,x4⟩,by simp only[av,cU],o0,o1,o2,o3,o4⟩
def UD:∀(d:Nat) (ts:List U),WT Go.Proofs.Tryz.prog d 41 ts->∃x,ts=gB x/\Ea x:=by
 intro d ts h;cases d with
 |zero=>cases h
 |succ d=>
  simp only[WT,underlying41]at h;replace h:Seq (WT Go.Proofs.Tryz.prog d) [39,4,4,3] ts:=h;simp only[Seq]at h;obtain⟨_,_,rfl,h0,_,_,rfl,h1,_,_,rfl,h2,_,_,rfl,h3,rfl⟩:=h;obtain⟨x0,rfl,o0⟩:=Gu d _ h0;obtain⟨x1,rfl,o1⟩:=(eL underlying4) d _ h1;obtain⟨x2,rfl,o2⟩:=(eL underlying4) d _ h2;obtain⟨x3,rfl,o3⟩:=(Z7 underlying3) d _ h3;exact⟨⟨x0,x1,x2,x3⟩,by simp only[gB,cU],o0,o1,o2,o3⟩
def UE:∀(d:Nat) (ts:List U),WT Go.Proofs.Tryz.prog d 43 ts->∃x,ts=fZ x/\wC x:=by
 intro d ts h;cases d with
 |zero=>cases h
 |succ d=>
  simp only[WT,underlying43]at h;replace h:Seq (WT Go.Proofs.Tryz.prog d) [3,3,35] ts:=h;simp only[Seq]at h;obtain⟨_,_,rfl,h0,_,_,rfl,h1,_,_,rfl,h2,rfl⟩:=h;obtain⟨x0,rfl,o0⟩:=(Z7 underlying3) d _ h0;obtain⟨x1,rfl,o1⟩:=(Z7 underlying3) d _ h1;obtain⟨x2,rfl,o2⟩:=ka d _ h2;exact⟨⟨x0,x1,x2⟩,by simp only[fZ,cU],o0,o1,o2⟩
def UF:∀(d:Nat) (ts:List U),WT Go.Proofs.Tryz.prog d 179 ts->∃x,ts=Z4 x/\Z6a x:=by
 intro d ts h;cases d with
 |zero=>cases h
 |succ d=>
  simp only[WT,underlying179]at h;replace h:Seq (WT Go.Proofs.Tryz.prog d) [4,4,35] ts:=h;simp only[Seq]at h;obtain⟨_,_,rfl,h0,_,_,rfl,h1,_,_,rfl,h2,rfl⟩:=h;obtain⟨x0,rfl,o0⟩:=(eL underlying4) d _ h0;obtain⟨x1,rfl,o1⟩:=(eL underlying4) d _ h1;obtain⟨x2,rfl,o2⟩:=ka d _ h2;exact⟨⟨x0,x1,x2⟩,by simp only[Z4,cU],o0,o1,o2⟩
def UG:∀(d:Nat) (ts:List U),WT Go.Proofs.Tryz.prog d 66 ts->∃x,ts=fi x/\Z9r x:=by
 intro d ts h;cases d with
 |zero=>cases h
 |succ d=>
  simp only[WT,underlying66]at h;replace h:Seq (WT Go.Proofs.Tryz.prog d) [3,3,35] ts:=h;simp only[Seq]at h;obtain⟨_,_,rfl,h0,_,_,rfl,h1,_,_,rfl,h2,rfl⟩:=h;obtain⟨x0,rfl,o0⟩:=(Z7 underlying3) d _ h0;obtain⟨x1,rfl,o1⟩:=(Z7 underlying3) d _ h1;obtain⟨x2,rfl,o2⟩:=ka d _ h2;exact⟨⟨x0,x1,x2⟩,by simp only[fi,cU],o0,o1,o2⟩
def UH:∀(d:Nat) (ts:List U),WT Go.Proofs.Tryz.prog d 68 ts->∃x,ts=c6 x/\wD x:=by
 intro d ts h;cases d with
 |zero=>cases h
 |succ d=>
  simp only[WT,underlying68]at h;replace h:Seq (WT Go.Proofs.Tryz.prog d) [3,3,3,35] ts:=h;simp only[Seq]at h;obtain⟨_,_,rfl,h0,_,_,rfl,h1,_,_,rfl,h2,_,_,rfl,h3,rfl⟩:=h;obtain⟨x0,rfl,o0⟩:=(Z7 underlying3) d _ h0;obtain⟨x1,rfl,o1⟩:=(Z7 underlying3) d _ h1;obtain⟨x2,rfl,o2⟩:=(Z7 underlying3) d _ h2;obtain⟨x3,rfl,o3⟩:=ka d _ h3;exact⟨⟨x0,x1,x2,x3⟩,by simp only[c6,cU],o0,o1,o2,o3⟩
def UI:∀(d:Nat) (ts:List U),WT Go.Proofs.Tryz.prog d 72 ts->∃x,ts=aR x/\wE x:=by
 intro d ts h;cases d with
 |zero=>cases h
 |succ d=>
  simp only[WT,underlying72]at h;replace h:Seq (WT Go.Proofs.Tryz.prog d) [3,66,68,3,3,9,35,70,36] ts:=h;simp only[Seq]at h;obtain⟨_,_,rfl,h0,_,_,rfl,h1,_,_,rfl,h2,_,_,rfl,h3,_,_,rfl,h4,_,_,rfl,h5,_,_,rfl,h6,_,_,rfl,h7,_,_,rfl,h8,rfl⟩:=h;obtain⟨x0,rfl,o0⟩:=(Z7 underlying3) d _ h0;obtain⟨x1,rfl,o1⟩:=UG d _ h1;obtain⟨x2,rfl,o2⟩:=UH d _ h2;obtain⟨x3,rfl,o3⟩:=(Z7 underlying3) d _ h3;obtain⟨x4,rfl,o4⟩:=(Z7 underlying3) d _ h4;obtain⟨x5,rfl,o5⟩:=(oY underlying9) d _ h5;obtain⟨x6,rfl,o6⟩:=ka d _ h6;obtain⟨x7,rfl,o7⟩:=(Gv underlying70 (Z7 underlying3)) d _ h7;obtain⟨x8,rfl,o8⟩:=(dR underlying36 (by kernel_rfl:Go.Proofs.Tryz.prog.bytesOf 144=176) Z2x) d _ h8;exact⟨⟨x0,x1,x2,x3,x4,x5,x6,x7,x8⟩,by simp only[aR,cU],o0,o1,o2,o3,o4,o5,o6,o7,o8⟩
def UJ:∀(d:Nat) (ts:List U),WT Go.Proofs.Tryz.prog d 47 ts->∃x,ts=eZ x/\wF x:=by
 intro d ts h;cases d with
 |zero=>cases h
 |succ d=>
  simp only[WT,underlying47]at h;replace h:Seq (WT Go.Proofs.Tryz.prog d) [3,3,35,3,3,3,3] ts:=h;simp only[Seq]at h;obtain⟨_,_,rfl,h0,_,_,rfl,h1,_,_,rfl,h2,_,_,rfl,h3,_,_,rfl,h4,_,_,rfl,h5,_,_,rfl,h6,rfl⟩:=h;obtain⟨x0,rfl,o0⟩:=(Z7 underlying3) d _ h0;obtain⟨x1,rfl,o1⟩:=(Z7 underlying3) d _ h1;obtain⟨x2,rfl,o2⟩:=ka d _ h2;obtain⟨x3,rfl,o3⟩:=(Z7 underlying3) d _ h3;obtain⟨x4,rfl,o4⟩:=(Z7 underlying3) d _ h4;obtain⟨x5,rfl,o5⟩:=(Z7 underlying3) d _ h5;obtain⟨x6,rfl,o6⟩:=(Z7 underlying3) d _ h6;exact⟨⟨x0,x1,x2,x3,x4,x5,x6⟩,by simp only[eZ,cU],o0,o1,o2,o3,o4,o5,o6⟩
def yh:∀(d:Nat) (ts:List U),WT Go.Proofs.Tryz.prog d 49 ts->∃x,ts=aE x/\oz x:=by
 intro d ts h;cases d with
 |zero=>cases h
 |succ d=>
  simp only[WT,underlying49]at h;replace h:Seq (WT Go.Proofs.Tryz.prog d) [3,35,36,41,4,43,4,44,45,47] ts:=h;simp only[Seq]at h;obtain⟨_,_,rfl,h0,_,_,rfl,h1,_,_,rfl,h2,_,_,rfl,h3,_,_,rfl,h4,_,_,rfl,h5,_,_,rfl,h6,_,_,rfl,h7,_,_,rfl,h8,_,_,rfl,h9,rfl⟩:=h;obtain⟨x0,rfl,o0⟩:=(Z7 underlying3) d _ h0;obtain⟨x1,rfl,o1⟩:=ka d _ h1;obtain⟨x2,rfl,o2⟩:=(dR underlying36 (by kernel_rfl:Go.Proofs.Tryz.prog.bytesOf 144=176) Z2x) d _ h2;obtain⟨x3,rfl,o3⟩:=UD d _ h3;obtain⟨x4,rfl,o4⟩:=(eL underlying4) d _ h4;obtain⟨x5,rfl,o5⟩:=UE d _ h5;obtain⟨x6,rfl,o6⟩:=(eL underlying4) d _ h6;obtain⟨x7,rfl,o7⟩:=(dR underlying44 (by kernel_rfl:Go.Proofs.Tryz.prog.bytesOf 179=144) UF) d _ h7;obtain⟨x8,rfl,o8⟩:=(dR underlying45 (by kernel_rfl:Go.Proofs.Tryz.prog.bytesOf 72=560) UI) d _ h8;obtain⟨x9,rfl,o9⟩:=UJ d _ h9;exact⟨⟨x0,x1,x2,x3,x4,x5,x6,x7,x8,x9⟩,by simp only[aE,cU],o0,o1,o2,o3,o4,o5,o6,o7,o8,o9⟩
def D6:∀(d:Nat) (ts:List U),WT Go.Proofs.Tryz.prog d 124 ts->∃x,ts=Z8 x/\Eb x:=by
 intro d ts h;cases d with
 |zero=>cases h
 |succ d=>
  simp only[WT,underlying124]at h;replace h:Seq (WT Go.Proofs.Tryz.prog d) [9,4,39,3,121,3,3,3,122] ts:=h;simp only[Seq]at h;obtain⟨_,_,rfl,h0,_,_,rfl,h1,_,_,rfl,h2,_,_,rfl,h3,_,_,rfl,h4,_,_,rfl,h5,_,_,rfl,h6,_,_,rfl,h7,_,_,rfl,h8,rfl⟩:=h;obtain⟨x0,rfl,o0⟩:=(oY underlying9) d _ h0;obtain⟨x1,rfl,o1⟩:=(eL underlying4) d _ h1;obtain⟨x2,rfl,o2⟩:=Gu d _ h2;obtain⟨x3,rfl,o3⟩:=(Z7 underlying3) d _ h3;obtain⟨x4,rfl,o4⟩:=UC d _ h4;obtain⟨x5,rfl,o5⟩:=(Z7 underlying3) d _ h5;obtain⟨x6,rfl,o6⟩:=(Z7 underlying3) d _ h6;obtain⟨x7,rfl,o7⟩:=(Z7 underlying3) d _ h7;obtain⟨x8,rfl,o8⟩:=(dR underlying122 (by kernel_rfl:Go.Proofs.Tryz.prog.bytesOf 49=640) yh) d _ h8;exact⟨⟨x0,x1,x2,x3,x4,x5,x6,x7,x8⟩,by simp only[Z8,cU],o0,o1,o2,o3,o4,o5,o6,o7,o8⟩
def UK:∀(d:Nat) (ts:List U),WT Go.Proofs.Tryz.prog d 80 ts->∃x,ts=aJ x/\wH x:=by
 intro d ts h;cases d with
 |zero=>cases h
 |succ d=>
  simp only[WT,underlying80]at h;replace h:Seq (WT Go.Proofs.Tryz.prog d) [3,3,3,70,4,4,25,25,25] ts:=h;simp only[Seq]at h;obtain⟨_,_,rfl,h0,_,_,rfl,h1,_,_,rfl,h2,_,_,rfl,h3,_,_,rfl,h4,_,_,rfl,h5,_,_,rfl,h6,_,_,rfl,h7,_,_,rfl,h8,rfl⟩:=h;obtain⟨x0,rfl,o0⟩:=(Z7 underlying3) d _ h0;obtain⟨x1,rfl,o1⟩:=(Z7 underlying3) d _ h1;obtain⟨x2,rfl,o2⟩:=(Z7 underlying3) d _ h2;obtain⟨x3,rfl,o3⟩:=(Gv underlying70 (Z7 underlying3)) d _ h3;obtain⟨x4,rfl,o4⟩:=(eL underlying4) d _ h4;obtain⟨x5,rfl,o5⟩:=(eL underlying4) d _ h5;obtain⟨x6,rfl,o6⟩:=(dR underlying25 (by kernel_rfl:Go.Proofs.Tryz.prog.bytesOf 3=8) (Z7 underlying3)) d _ h6;obtain⟨x7,rfl,o7⟩:=(dR underlying25 (by kernel_rfl:Go.Proofs.Tryz.prog.bytesOf 3=8) (Z7 underlying3)) d _ h7;obtain⟨x8,rfl,o8⟩:=(dR underlying25 (by kernel_rfl:Go.Proofs.Tryz.prog.bytesOf 3=8) (Z7 underlying3)) d _ h8;exact⟨⟨x0,x1,x2,x3,x4,x5,x6,x7,x8⟩,by simp only[aJ,cU],o0,o1,o2,o3,o4,o5,o6,o7,o8⟩
def UL:∀(d:Nat) (ts:List U),WT Go.Proofs.Tryz.prog d 64 ts->∃x,ts=au x/\Ec x:=by
 intro d ts h;cases d with
 |zero=>cases h
 |succ d=>
  simp only[WT,underlying64]at h;replace h:Seq (WT Go.Proofs.Tryz.prog d) [3,3,3,3,3,4,4,4,4,3,51,3,3,3,4,3,3] ts:=h;simp only[Seq]at h;obtain⟨_,_,rfl,h0,_,_,rfl,h1,_,_,rfl,h2,_,_,rfl,h3,_,_,rfl,h4,_,_,rfl,h5,_,_,rfl,h6,_,_,rfl,h7,_,_,rfl,h8,_,_,rfl,h9,_,_,rfl,h10,_,_,rfl,h11,_,_,rfl,h12,_,_,rfl,h13,_,_,rfl,h14,_,_,rfl,h15,_,_,rfl,h16,rfl⟩:=h;obtain⟨x0,rfl,o0⟩:=(Z7 underlying3) d _ h0;obtain⟨x1,rfl,o1⟩:=(Z7 underlying3) d _ h1;obtain⟨x2,rfl,o2⟩:=(Z7 underlying3) d _ h2;obtain⟨x3,rfl,o3⟩:=(Z7 underlying3) d _ h3;obtain⟨x4,rfl,o4⟩:=(Z7 underlying3) d _ h4;obtain⟨x5,rfl,o5⟩:=(eL underlying4) d _ h5;obtain⟨x6,rfl,o6⟩:=(eL underlying4) d _ h6;obtain⟨x7,rfl,o7⟩:=(eL underlying4) d _ h7;obtain⟨x8,rfl,o8⟩:=(eL underlying4) d _ h8;obtain⟨x9,rfl,o9⟩:=(Z7 underlying3) d _ h9;obtain⟨x10,rfl,o10⟩:=(Gw underlying51 (Z7 underlying3)) d _ h10;obtain⟨x11,rfl,o11⟩:=(Z7 underlying3) d _ h11;obtain⟨x12,rfl,o12⟩:=(Z7 underlying3) d _ h12;obtain⟨x13,rfl,o13⟩:=(Z7 underlying3) d _ h13;obtain⟨x14,rfl,o14⟩:=(eL underlying4) d _ h14;obtain⟨x15,rfl,o15⟩:=(Z7 underlying3) d _ h15;obtain⟨x16,rfl,o16⟩:=(Z7 underlying3) d _ h16;exact⟨⟨x0,x1,x2,x3,x4,x5,x6,x7,x8,x9,x10,x11,x12,x13,x14,x15,x16⟩,by simp only[au,cU],o0,o1,o2,o3,o4,o5,o6,o7,o8,o9,o10,o11,o12,o13,o14,o15,o16⟩
def UM:∀(d:Nat) (ts:List U),WT Go.Proofs.Tryz.prog d 137 ts->∃x,ts=Z0 x/\Ed x:=by
 intro d ts h;cases d with
 |zero=>cases h
 |succ d=>
  simp only[WT,underlying137]at h;replace h:Seq (WT Go.Proofs.Tryz.prog d) [3,3] ts:=h;simp only[Seq]at h;obtain⟨_,_,rfl,h0,_,_,rfl,h1,rfl⟩:=h;obtain⟨x0,rfl,o0⟩:=(Z7 underlying3) d _ h0;obtain⟨x1,rfl,o1⟩:=(Z7 underlying3) d _ h1;exact⟨⟨x0,x1⟩,by simp only[Z0,cU],o0,o1⟩
def Z8c:∀(d:Nat) (ts:List U),WT Go.Proofs.Tryz.prog d 53 ts->∃x,ts=ga x/\Z2i x:=by
 intro d ts h;cases d with
 |zero=>cases h
 |succ d=>
  simp only[WT,underlying53]at h;replace h:Seq (WT Go.Proofs.Tryz.prog d) [3,3,3,3,3,3,3,3,3,3,4,4,51] ts:=h;simp only[Seq]at h;obtain⟨_,_,rfl,h0,_,_,rfl,h1,_,_,rfl,h2,_,_,rfl,h3,_,_,rfl,h4,_,_,rfl,h5,_,_,rfl,h6,_,_,rfl,h7,_,_,rfl,h8,_,_,rfl,h9,_,_,rfl,h10,_,_,rfl,h11,_,_,rfl,h12,rfl⟩:=h;obtain⟨x0,rfl,o0⟩:=(Z7 underlying3) d _ h0;obtain⟨x1,rfl,o1⟩:=(Z7 underlying3) d _ h1;obtain⟨x2,rfl,o2⟩:=(Z7 underlying3) d _ h2;obtain⟨x3,rfl,o3⟩:=(Z7 underlying3) d _ h3;obtain⟨x4,rfl,o4⟩:=(Z7 underlying3) d _ h4;obtain⟨x5,rfl,o5⟩:=(Z7 underlying3) d _ h5;obtain⟨x6,rfl,o6⟩:=(Z7 underlying3) d _ h6;obtain⟨x7,rfl,o7⟩:=(Z7 underlying3) d _ h7;obtain⟨x8,rfl,o8⟩:=(Z7 underlying3) d _ h8;obtain⟨x9,rfl,o9⟩:=(Z7 underlying3) d _ h9;obtain⟨x10,rfl,o10⟩:=(eL underlying4) d _ h10;obtain⟨x11,rfl,o11⟩:=(eL underlying4) d _ h11;obtain⟨x12,rfl,o12⟩:=(Gw underlying51 (Z7 underlying3)) d _ h12;exact⟨⟨x0,x1,x2,x3,x4,x5,x6,x7,x8,x9,x10,x11,x12⟩,by simp only[ga,cU],o0,o1,o2,o3,o4,o5,o6,o7,o8,o9,o10,o11,o12⟩
def wx:∀(d:Nat) (ts:List U),WT Go.Proofs.Tryz.prog d 55 ts->∃x,ts=ak x/\Z6b x:=by
 intro d ts h;cases d with
 |zero=>cases h
 |succ d=>
  simp only[WT,underlying55]at h;replace h:Seq (WT Go.Proofs.Tryz.prog d) [3,3,3,3,3,4,49,50,53] ts:=h;simp only[Seq]at h;obtain⟨_,_,rfl,h0,_,_,rfl,h1,_,_,rfl,h2,_,_,rfl,h3,_,_,rfl,h4,_,_,rfl,h5,_,_,rfl,h6,_,_,rfl,h7,_,_,rfl,h8,rfl⟩:=h;obtain⟨x0,rfl,o0⟩:=(Z7 underlying3) d _ h0;obtain⟨x1,rfl,o1⟩:=(Z7 underlying3) d _ h1;obtain⟨x2,rfl,o2⟩:=(Z7 underlying3) d _ h2;obtain⟨x3,rfl,o3⟩:=(Z7 underlying3) d _ h3;obtain⟨x4,rfl,o4⟩:=(Z7 underlying3) d _ h4;obtain⟨x5,rfl,o5⟩:=(eL underlying4) d _ h5;obtain⟨x6,rfl,o6⟩:=yh d _ h6;obtain⟨x7,rfl,o7⟩:=(dR underlying50 (by kernel_rfl:Go.Proofs.Tryz.prog.bytesOf 137=16) UM) d _ h7;obtain⟨x8,rfl,o8⟩:=Z8c d _ h8;exact⟨⟨x0,x1,x2,x3,x4,x5,x6,x7,x8⟩,by simp only[ak,cU],o0,o1,o2,o3,o4,o5,o6,o7,o8⟩
def UN:∀(d:Nat) (ts:List U),WT Go.Proofs.Tryz.prog d 84 ts->∃x,ts=aY x/\wJ x:=by
 intro d ts h;cases d with
 |zero=>cases h
 |succ d=>
  simp only[WT,underlying84]at h;replace h:Seq (WT Go.Proofs.Tryz.prog d) [3,3,49,53] ts:=h;simp only[Seq]at h;obtain⟨_,_,rfl,h0,_,_,rfl,h1,_,_,rfl,h2,_,_,rfl,h3,rfl⟩:=h;obtain⟨x0,rfl,o0⟩:=(Z7 underlying3) d _ h0;obtain⟨x1,rfl,o1⟩:=(Z7 underlying3) d _ h1;obtain⟨x2,rfl,o2⟩:=yh d _ h2;obtain⟨x3,rfl,o3⟩:=Z8c d _ h3;exact⟨⟨x0,x1,x2,x3⟩,by simp only[aY,cU],o0,o1,o2,o3⟩
def UO:∀(d:Nat) (ts:List U),WT Go.Proofs.Tryz.prog d 141 ts->∃x,ts=aV x/\Z6c x:=by
 intro d ts h;cases d with
 |zero=>cases h
 |succ d=>
  simp only[WT,underlying141]at h;replace h:Seq (WT Go.Proofs.Tryz.prog d) [3,3,3,3,25,36] ts:=h;simp only[Seq]at h;obtain⟨_,_,rfl,h0,_,_,rfl,h1,_,_,rfl,h2,_,_,rfl,h3,_,_,rfl,h4,_,_,rfl,h5,rfl⟩:=h;obtain⟨x0,rfl,o0⟩:=(Z7 underlying3) d _ h0;obtain⟨x1,rfl,o1⟩:=(Z7 underlying3) d _ h1;obtain⟨x2,rfl,o2⟩:=(Z7 underlying3) d _ h2;obtain⟨x3,rfl,o3⟩:=(Z7 underlying3) d _ h3;obtain⟨x4,rfl,o4⟩:=(dR underlying25 (by kernel_rfl:Go.Proofs.Tryz.prog.bytesOf 3=8) (Z7 underlying3)) d _ h4;obtain⟨x5,rfl,o5⟩:=(dR underlying36 (by kernel_rfl:Go.Proofs.Tryz.prog.bytesOf 144=176) Z2x) d _ h5;exact⟨⟨x0,x1,x2,x3,x4,x5⟩,by simp only[aV,cU],o0,o1,o2,o3,o4,o5⟩
def Z8d:∀(d:Nat) (ts:List U),WT Go.Proofs.Tryz.prog d 31 ts->∃x,ts=aC x/\Ee x:=by
 intro d ts h;cases d with
 |zero=>cases h
 |succ d=>
  simp only[WT,underlying31]at h;replace h:Seq (WT Go.Proofs.Tryz.prog d) [23,24,25,25,26,27,28,3,3,3,4,3,3,3,3,29,25,3,3] ts:=h;simp only[Seq]at h;obtain⟨_,_,rfl,h0,_,_,rfl,h1,_,_,rfl,h2,_,_,rfl,h3,_,_,rfl,h4,_,_,rfl,h5,_,_,rfl,h6,_,_,rfl,h7,_,_,rfl,h8,_,_,rfl,h9,_,_,rfl,h10,_,_,rfl,h11,_,_,rfl,h12,_,_,rfl,h13,_,_,rfl,h14,_,_,rfl,h15,_,_,rfl,h16,_,_,rfl,h17,_,_,rfl,h18,rfl⟩:=h;obtain⟨x0,rfl,o0⟩:=(dR underlying23 (by kernel_rfl:Go.Proofs.Tryz.prog.bytesOf 80=152) UK) d _ h0;obtain⟨x1,rfl,o1⟩:=(dR underlying24 (by kernel_rfl:Go.Proofs.Tryz.prog.bytesOf 64=128) UL) d _ h1;obtain⟨x2,rfl,o2⟩:=(dR underlying25 (by kernel_rfl:Go.Proofs.Tryz.prog.bytesOf 3=8) (Z7 underlying3)) d _ h2;obtain⟨x3,rfl,o3⟩:=(dR underlying25 (by kernel_rfl:Go.Proofs.Tryz.prog.bytesOf 3=8) (Z7 underlying3)) d _ h3;obtain⟨x4,rfl,o4⟩:=(dR underlying26 (by kernel_rfl:Go.Proofs.Tryz.prog.bytesOf 55=824) wx) d _ h4;obtain⟨x5,rfl,o5⟩:=(dR underlying27 (by kernel_rfl:Go.Proofs.Tryz.prog.bytesOf 84=768) UN) d _ h5;obtain⟨x6,rfl,o6⟩:=(dR underlying28 (by kernel_rfl:Go.Proofs.Tryz.prog.bytesOf 141=80) UO) d _ h6;obtain⟨x7,rfl,o7⟩:=(Z7 underlying3) d _ h7;obtain⟨x8,rfl,o8⟩:=(Z7 underlying3) d _ h8;obtain⟨x9,rfl,o9⟩:=(Z7 underlying3) d _ h9;obtain⟨x10,rfl,o10⟩:=(eL underlying4) d _ h10;obtain⟨x11,rfl,o11⟩:=(Z7 underlying3) d _ h11;obtain⟨x12,rfl,o12⟩:=(Z7 underlying3) d _ h12;obtain⟨x13,rfl,o13⟩:=(Z7 underlying3) d _ h13;obtain⟨x14,rfl,o14⟩:=(Z7 underlying3) d _ h14;obtain⟨x15,rfl,o15⟩:=(Z7 underlying29) d _ h15;obtain⟨x16,rfl,o16⟩:=(dR underlying25 (by kernel_rfl:Go.Proofs.Tryz.prog.bytesOf 3=8) (Z7 underlying3)) d _ h16;obtain⟨x17,rfl,o17⟩:=(Z7 underlying3) d _ h17;obtain⟨x18,rfl,o18⟩:=(Z7 underlying3) d _ h18;exact⟨⟨x0,x1,x2,x3,x4,x5,x6,x7,x8,x9,x10,x11,x12,x13,x14,x15,x16,x17,x18⟩,by simp only[aC,cU],o0,o1,o2,o3,o4,o5,o6,o7,o8,o9,o10,o11,o12,o13,o14,o15,o16,o17,o18⟩
end Go.PW
