import Derived.Test.YtchddhcajpagjaaGreatQT
import Derived.Test.YtchddhcajpagjaaGreatQE
set_option linter.all false
set_option maxRecDepth 100000
namespace Go.PW
open Go.RowKit
theorem Z5m:∀ (d:Nat) (ts:List Zd),WT Go.Proofs.Tryz.prog d 60 ts->∃ x,ts=Zae x/\Z1b x:=by
 intro d ts h
 cases d with
 | zero=>cases h
 | succ d=>
  simp only [WT,Go.Proofs.Tryz.underlying60] at h
  replace h:Seq (WT Go.Proofs.Tryz.prog d) [3,3,58] ts:=h
  simp only [Seq] at h
  obtain⟨_,_,rfl,h0,_,_,rfl,h1,_,_,rfl,h2,rfl⟩:=h
  obtain⟨x0,rfl,o0⟩:=(Zv Go.Proofs.Tryz.underlying3) d _ h0
  obtain⟨x1,rfl,o1⟩:=(Zv Go.Proofs.Tryz.underlying3) d _ h1
  obtain⟨x2,rfl,o2⟩:=(Za3i Go.Proofs.Tryz.underlying58 (Zv Go.Proofs.Tryz.underlying3)) d _ h2
  exact⟨⟨x0,x1,x2⟩,by simp only [Zae,List.append_nil],o0,o1,o2⟩
theorem Zanc:∀ (d:Nat) (ts:List Zd),WT Go.Proofs.Tryz.prog d 63 ts->∃ x,ts=Zd8 x/\Z1c x:=by
 intro d ts h
 cases d with
 | zero=>cases h
 | succ d=>
  simp only [WT,Go.Proofs.Tryz.underlying63] at h
  replace h:Seq (WT Go.Proofs.Tryz.prog d) [3,3,61] ts:=h
  simp only [Seq] at h
  obtain⟨_,_,rfl,h0,_,_,rfl,h1,_,_,rfl,h2,rfl⟩:=h
  obtain⟨x0,rfl,o0⟩:=(Zv Go.Proofs.Tryz.underlying3) d _ h0
  obtain⟨x1,rfl,o1⟩:=(Zv Go.Proofs.Tryz.underlying3) d _ h1
  obtain⟨x2,rfl,o2⟩:=(Zcw Go.Proofs.Tryz.underlying61 (by kernel_rfl:Go.Proofs.Tryz.prog.bytesOf 9=16) (Z6d Go.Proofs.Tryz.underlying9)) d _ h2
  exact⟨⟨x0,x1,x2⟩,by simp only [Zd8,List.append_nil],o0,o1,o2⟩
theorem Zsa:∀ (d:Nat) (ts:List Zd),WT Go.Proofs.Tryz.prog d 39 ts->∃ x,ts=Zb8 x/\Zqf x:=by
 intro d ts h
 cases d with
 | zero=>cases h
 | succ d=>
  simp only [WT,Go.Proofs.Tryz.underlying39] at h
  replace h:Seq (WT Go.Proofs.Tryz.prog d) [3,3] ts:=h
  simp only [Seq] at h
  obtain⟨_,_,rfl,h0,_,_,rfl,h1,rfl⟩:=h
  obtain⟨x0,rfl,o0⟩:=(Zv Go.Proofs.Tryz.underlying3) d _ h0
  obtain⟨x1,rfl,o1⟩:=(Zv Go.Proofs.Tryz.underlying3) d _ h1
  exact⟨⟨x0,x1⟩,by simp only [Zb8,List.append_nil],o0,o1⟩
theorem Zdx:∀ (d:Nat) (ts:List Zd),WT Go.Proofs.Tryz.prog d 41 ts->∃ x,ts=Zn x/\Zdb x:=by
 intro d ts h
 cases d with
 | zero=>cases h
 | succ d=>
  simp only [WT,Go.Proofs.Tryz.underlying41] at h
  replace h:Seq (WT Go.Proofs.Tryz.prog d) [3,3,3,3,3,3,3,9,3,3,39,39,39] ts:=h
  simp only [Seq] at h
  obtain⟨_,_,rfl,h0,_,_,rfl,h1,_,_,rfl,h2,_,_,rfl,h3,_,_,rfl,h4,_,_,rfl,h5,_,_,rfl,h6,_,_,rfl,h7,_,_,rfl,h8,_,_,rfl,h9,_,_,rfl,h10,_,_,rfl,h11,_,_,rfl,h12,rfl⟩:=h
  obtain⟨x0,rfl,o0⟩:=(Zv Go.Proofs.Tryz.underlying3) d _ h0
  obtain⟨x1,rfl,o1⟩:=(Zv Go.Proofs.Tryz.underlying3) d _ h1
  obtain⟨x2,rfl,o2⟩:=(Zv Go.Proofs.Tryz.underlying3) d _ h2
  obtain⟨x3,rfl,o3⟩:=(Zv Go.Proofs.Tryz.underlying3) d _ h3
  obtain⟨x4,rfl,o4⟩:=(Zv Go.Proofs.Tryz.underlying3) d _ h4
  obtain⟨x5,rfl,o5⟩:=(Zv Go.Proofs.Tryz.underlying3) d _ h5
  obtain⟨x6,rfl,o6⟩:=(Zv Go.Proofs.Tryz.underlying3) d _ h6
  obtain⟨x7,rfl,o7⟩:=(Z6d Go.Proofs.Tryz.underlying9) d _ h7
  obtain⟨x8,rfl,o8⟩:=(Zv Go.Proofs.Tryz.underlying3) d _ h8
  obtain⟨x9,rfl,o9⟩:=(Zv Go.Proofs.Tryz.underlying3) d _ h9
  obtain⟨x10,rfl,o10⟩:=Zsa d _ h10
  obtain⟨x11,rfl,o11⟩:=Zsa d _ h11
  obtain⟨x12,rfl,o12⟩:=Zsa d _ h12
  exact⟨⟨x0,x1,x2,x3,x4,x5,x6,x7,x8,x9,x10,x11,x12⟩,by simp only [Zn,List.append_nil],o0,o1,o2,o3,o4,o5,o6,o7,o8,o9,o10,o11,o12⟩
theorem Zyq:∀ (d:Nat) (ts:List Zd),WT Go.Proofs.Tryz.prog d 79 ts->∃ x,ts=Zl x/\Zqg x:=by
 intro d ts h
 cases d with
 | zero=>cases h
 | succ d=>
  simp only [WT,Go.Proofs.Tryz.underlying79] at h
  replace h:Seq (WT Go.Proofs.Tryz.prog d) [3,3,3,9,41] ts:=h
  simp only [Seq] at h
  obtain⟨_,_,rfl,h0,_,_,rfl,h1,_,_,rfl,h2,_,_,rfl,h3,_,_,rfl,h4,rfl⟩:=h
  obtain⟨x0,rfl,o0⟩:=(Zv Go.Proofs.Tryz.underlying3) d _ h0
  obtain⟨x1,rfl,o1⟩:=(Zv Go.Proofs.Tryz.underlying3) d _ h1
  obtain⟨x2,rfl,o2⟩:=(Zv Go.Proofs.Tryz.underlying3) d _ h2
  obtain⟨x3,rfl,o3⟩:=(Z6d Go.Proofs.Tryz.underlying9) d _ h3
  obtain⟨x4,rfl,o4⟩:=Zdx d _ h4
  exact⟨⟨x0,x1,x2,x3,x4⟩,by simp only [Zl,List.append_nil],o0,o1,o2,o3,o4⟩
theorem Zaki:∀ (d:Nat) (ts:List Zd),WT Go.Proofs.Tryz.prog d 81 ts->∃ x,ts=Zfh x/\Z8d x:=by
 intro d ts h
 cases d with
 | zero=>cases h
 | succ d=>
  simp only [WT,Go.Proofs.Tryz.underlying81] at h
  replace h:Seq (WT Go.Proofs.Tryz.prog d) [60,4,4,3] ts:=h
  simp only [Seq] at h
  obtain⟨_,_,rfl,h0,_,_,rfl,h1,_,_,rfl,h2,_,_,rfl,h3,rfl⟩:=h
  obtain⟨x0,rfl,o0⟩:=Z5m d _ h0
  obtain⟨x1,rfl,o1⟩:=(Zd1 Go.Proofs.Tryz.underlying4) d _ h1
  obtain⟨x2,rfl,o2⟩:=(Zd1 Go.Proofs.Tryz.underlying4) d _ h2
  obtain⟨x3,rfl,o3⟩:=(Zv Go.Proofs.Tryz.underlying3) d _ h3
  exact⟨⟨x0,x1,x2,x3⟩,by simp only [Zfh,List.append_nil],o0,o1,o2,o3⟩
theorem Zad7:∀ (d:Nat) (ts:List Zd),WT Go.Proofs.Tryz.prog d 83 ts->∃ x,ts=Zda x/\Zry x:=by
 intro d ts h
 cases d with
 | zero=>cases h
 | succ d=>
  simp only [WT,Go.Proofs.Tryz.underlying83] at h
  replace h:Seq (WT Go.Proofs.Tryz.prog d) [3,3,41] ts:=h
  simp only [Seq] at h
  obtain⟨_,_,rfl,h0,_,_,rfl,h1,_,_,rfl,h2,rfl⟩:=h
  obtain⟨x0,rfl,o0⟩:=(Zv Go.Proofs.Tryz.underlying3) d _ h0
  obtain⟨x1,rfl,o1⟩:=(Zv Go.Proofs.Tryz.underlying3) d _ h1
  obtain⟨x2,rfl,o2⟩:=Zdx d _ h2
  exact⟨⟨x0,x1,x2⟩,by simp only [Zda,List.append_nil],o0,o1,o2⟩
theorem Zand:∀ (d:Nat) (ts:List Zd),WT Go.Proofs.Tryz.prog d 133 ts->∃ x,ts=Zah x/\Z1d x:=by
 intro d ts h
 cases d with
 | zero=>cases h
 | succ d=>
  simp only [WT,Go.Proofs.Tryz.underlying133] at h
  replace h:Seq (WT Go.Proofs.Tryz.prog d) [4,4,41] ts:=h
  simp only [Seq] at h
  obtain⟨_,_,rfl,h0,_,_,rfl,h1,_,_,rfl,h2,rfl⟩:=h
  obtain⟨x0,rfl,o0⟩:=(Zd1 Go.Proofs.Tryz.underlying4) d _ h0
  obtain⟨x1,rfl,o1⟩:=(Zd1 Go.Proofs.Tryz.underlying4) d _ h1
  obtain⟨x2,rfl,o2⟩:=Zdx d _ h2
  exact⟨⟨x0,x1,x2⟩,by simp only [Zah,List.append_nil],o0,o1,o2⟩
theorem Zash:∀ (d:Nat) (ts:List Zd),WT Go.Proofs.Tryz.prog d 136 ts->∃ x,ts=Zeg x/\Z38 x:=by
 intro d ts h
 cases d with
 | zero=>cases h
 | succ d=>
  simp only [WT,Go.Proofs.Tryz.underlying136] at h
  replace h:Seq (WT Go.Proofs.Tryz.prog d) [3,3,41] ts:=h
  simp only [Seq] at h
  obtain⟨_,_,rfl,h0,_,_,rfl,h1,_,_,rfl,h2,rfl⟩:=h
  obtain⟨x0,rfl,o0⟩:=(Zv Go.Proofs.Tryz.underlying3) d _ h0
  obtain⟨x1,rfl,o1⟩:=(Zv Go.Proofs.Tryz.underlying3) d _ h1
  obtain⟨x2,rfl,o2⟩:=Zdx d _ h2
  exact⟨⟨x0,x1,x2⟩,by simp only [Zeg,List.append_nil],o0,o1,o2⟩
theorem Zah4:∀ (d:Nat) (ts:List Zd),WT Go.Proofs.Tryz.prog d 138 ts->∃ x,ts=Zar x/\Zur x:=by
 intro d ts h
 cases d with
 | zero=>cases h
 | succ d=>
  simp only [WT,Go.Proofs.Tryz.underlying138] at h
  replace h:Seq (WT Go.Proofs.Tryz.prog d) [3,3,3,41] ts:=h
  simp only [Seq] at h
  obtain⟨_,_,rfl,h0,_,_,rfl,h1,_,_,rfl,h2,_,_,rfl,h3,rfl⟩:=h
  obtain⟨x0,rfl,o0⟩:=(Zv Go.Proofs.Tryz.underlying3) d _ h0
  obtain⟨x1,rfl,o1⟩:=(Zv Go.Proofs.Tryz.underlying3) d _ h1
  obtain⟨x2,rfl,o2⟩:=(Zv Go.Proofs.Tryz.underlying3) d _ h2
  obtain⟨x3,rfl,o3⟩:=Zdx d _ h3
  exact⟨⟨x0,x1,x2,x3⟩,by simp only [Zar,List.append_nil],o0,o1,o2,o3⟩
theorem Zah5:∀ (d:Nat) (ts:List Zd),WT Go.Proofs.Tryz.prog d 140 ts->∃ x,ts=Zt x/\Zus x:=by
 intro d ts h
 cases d with
 | zero=>cases h
 | succ d=>
  simp only [WT,Go.Proofs.Tryz.underlying140] at h
  replace h:Seq (WT Go.Proofs.Tryz.prog d) [3,136,138,3,3,9,41,117,42] ts:=h
  simp only [Seq] at h
  obtain⟨_,_,rfl,h0,_,_,rfl,h1,_,_,rfl,h2,_,_,rfl,h3,_,_,rfl,h4,_,_,rfl,h5,_,_,rfl,h6,_,_,rfl,h7,_,_,rfl,h8,rfl⟩:=h
  obtain⟨x0,rfl,o0⟩:=(Zv Go.Proofs.Tryz.underlying3) d _ h0
  obtain⟨x1,rfl,o1⟩:=Zash d _ h1
  obtain⟨x2,rfl,o2⟩:=Zah4 d _ h2
  obtain⟨x3,rfl,o3⟩:=(Zv Go.Proofs.Tryz.underlying3) d _ h3
  obtain⟨x4,rfl,o4⟩:=(Zv Go.Proofs.Tryz.underlying3) d _ h4
  obtain⟨x5,rfl,o5⟩:=(Z6d Go.Proofs.Tryz.underlying9) d _ h5
  obtain⟨x6,rfl,o6⟩:=Zdx d _ h6
  obtain⟨x7,rfl,o7⟩:=(Za1e Go.Proofs.Tryz.underlying117 (Zv Go.Proofs.Tryz.underlying3)) d _ h7
  obtain⟨x8,rfl,o8⟩:=(Zcw Go.Proofs.Tryz.underlying42 (by kernel_rfl:Go.Proofs.Tryz.prog.bytesOf 79=176) Zyq) d _ h8
  exact⟨⟨x0,x1,x2,x3,x4,x5,x6,x7,x8⟩,by simp only [Zt,List.append_nil],o0,o1,o2,o3,o4,o5,o6,o7,o8⟩
theorem Zad8:∀ (d:Nat) (ts:List Zd),WT Go.Proofs.Tryz.prog d 87 ts->∃ x,ts=Zbt x/\Zrz x:=by
 intro d ts h
 cases d with
 | zero=>cases h
 | succ d=>
  simp only [WT,Go.Proofs.Tryz.underlying87] at h
  replace h:Seq (WT Go.Proofs.Tryz.prog d) [3,3,41,3,3,3,3] ts:=h
  simp only [Seq] at h
  obtain⟨_,_,rfl,h0,_,_,rfl,h1,_,_,rfl,h2,_,_,rfl,h3,_,_,rfl,h4,_,_,rfl,h5,_,_,rfl,h6,rfl⟩:=h
  obtain⟨x0,rfl,o0⟩:=(Zv Go.Proofs.Tryz.underlying3) d _ h0
  obtain⟨x1,rfl,o1⟩:=(Zv Go.Proofs.Tryz.underlying3) d _ h1
  obtain⟨x2,rfl,o2⟩:=Zdx d _ h2
  obtain⟨x3,rfl,o3⟩:=(Zv Go.Proofs.Tryz.underlying3) d _ h3
  obtain⟨x4,rfl,o4⟩:=(Zv Go.Proofs.Tryz.underlying3) d _ h4
  obtain⟨x5,rfl,o5⟩:=(Zv Go.Proofs.Tryz.underlying3) d _ h5
  obtain⟨x6,rfl,o6⟩:=(Zv Go.Proofs.Tryz.underlying3) d _ h6
  exact⟨⟨x0,x1,x2,x3,x4,x5,x6⟩,by simp only [Zbt,List.append_nil],o0,o1,o2,o3,o4,o5,o6⟩
theorem Zn9:∀ (d:Nat) (ts:List Zd),WT Go.Proofs.Tryz.prog d 89 ts->∃ x,ts=Zi x/\Zix x:=by
 intro d ts h
 cases d with
 | zero=>cases h
 | succ d=>
  simp only [WT,Go.Proofs.Tryz.underlying89] at h
  replace h:Seq (WT Go.Proofs.Tryz.prog d) [3,41,42,81,4,83,4,84,85,87] ts:=h
  simp only [Seq] at h
  obtain⟨_,_,rfl,h0,_,_,rfl,h1,_,_,rfl,h2,_,_,rfl,h3,_,_,rfl,h4,_,_,rfl,h5,_,_,rfl,h6,_,_,rfl,h7,_,_,rfl,h8,_,_,rfl,h9,rfl⟩:=h
  obtain⟨x0,rfl,o0⟩:=(Zv Go.Proofs.Tryz.underlying3) d _ h0
  obtain⟨x1,rfl,o1⟩:=Zdx d _ h1
  obtain⟨x2,rfl,o2⟩:=(Zcw Go.Proofs.Tryz.underlying42 (by kernel_rfl:Go.Proofs.Tryz.prog.bytesOf 79=176) Zyq) d _ h2
  obtain⟨x3,rfl,o3⟩:=Zaki d _ h3
  obtain⟨x4,rfl,o4⟩:=(Zd1 Go.Proofs.Tryz.underlying4) d _ h4
  obtain⟨x5,rfl,o5⟩:=Zad7 d _ h5
  obtain⟨x6,rfl,o6⟩:=(Zd1 Go.Proofs.Tryz.underlying4) d _ h6
  obtain⟨x7,rfl,o7⟩:=(Zcw Go.Proofs.Tryz.underlying84 (by kernel_rfl:Go.Proofs.Tryz.prog.bytesOf 133=144) Zand) d _ h7
  obtain⟨x8,rfl,o8⟩:=(Zcw Go.Proofs.Tryz.underlying85 (by kernel_rfl:Go.Proofs.Tryz.prog.bytesOf 140=560) Zah5) d _ h8
  obtain⟨x9,rfl,o9⟩:=Zad8 d _ h9
  exact⟨⟨x0,x1,x2,x3,x4,x5,x6,x7,x8,x9⟩,by simp only [Zi,List.append_nil],o0,o1,o2,o3,o4,o5,o6,o7,o8,o9⟩
theorem Zane:∀ (d:Nat) (ts:List Zd),WT Go.Proofs.Tryz.prog d 77 ts->∃ x,ts=Zu x/\Zabr x:=by
 intro d ts h
 cases d with
 | zero=>cases h
 | succ d=>
  simp only [WT,Go.Proofs.Tryz.underlying77] at h
  replace h:Seq (WT Go.Proofs.Tryz.prog d) [9,4,60,3,63,3,3,3,64] ts:=h
  simp only [Seq] at h
  obtain⟨_,_,rfl,h0,_,_,rfl,h1,_,_,rfl,h2,_,_,rfl,h3,_,_,rfl,h4,_,_,rfl,h5,_,_,rfl,h6,_,_,rfl,h7,_,_,rfl,h8,rfl⟩:=h
  obtain⟨x0,rfl,o0⟩:=(Z6d Go.Proofs.Tryz.underlying9) d _ h0
  obtain⟨x1,rfl,o1⟩:=(Zd1 Go.Proofs.Tryz.underlying4) d _ h1
  obtain⟨x2,rfl,o2⟩:=Z5m d _ h2
  obtain⟨x3,rfl,o3⟩:=(Zv Go.Proofs.Tryz.underlying3) d _ h3
  obtain⟨x4,rfl,o4⟩:=Zanc d _ h4
  obtain⟨x5,rfl,o5⟩:=(Zv Go.Proofs.Tryz.underlying3) d _ h5
  obtain⟨x6,rfl,o6⟩:=(Zv Go.Proofs.Tryz.underlying3) d _ h6
  obtain⟨x7,rfl,o7⟩:=(Zv Go.Proofs.Tryz.underlying3) d _ h7
  obtain⟨x8,rfl,o8⟩:=(Zcw Go.Proofs.Tryz.underlying64 (by kernel_rfl:Go.Proofs.Tryz.prog.bytesOf 89=640) Zn9) d _ h8
  exact⟨⟨x0,x1,x2,x3,x4,x5,x6,x7,x8⟩,by simp only [Zu,List.append_nil],o0,o1,o2,o3,o4,o5,o6,o7,o8⟩
theorem Zah6:∀ (d:Nat) (ts:List Zd),WT Go.Proofs.Tryz.prog d 119 ts->∃ x,ts=Zav x/\Zut x:=by
 intro d ts h
 cases d with
 | zero=>cases h
 | succ d=>
  simp only [WT,Go.Proofs.Tryz.underlying119] at h
  replace h:Seq (WT Go.Proofs.Tryz.prog d) [3,3,3,117,4,4,25,25,25] ts:=h
  simp only [Seq] at h
  obtain⟨_,_,rfl,h0,_,_,rfl,h1,_,_,rfl,h2,_,_,rfl,h3,_,_,rfl,h4,_,_,rfl,h5,_,_,rfl,h6,_,_,rfl,h7,_,_,rfl,h8,rfl⟩:=h
  obtain⟨x0,rfl,o0⟩:=(Zv Go.Proofs.Tryz.underlying3) d _ h0
  obtain⟨x1,rfl,o1⟩:=(Zv Go.Proofs.Tryz.underlying3) d _ h1
  obtain⟨x2,rfl,o2⟩:=(Zv Go.Proofs.Tryz.underlying3) d _ h2
  obtain⟨x3,rfl,o3⟩:=(Za1e Go.Proofs.Tryz.underlying117 (Zv Go.Proofs.Tryz.underlying3)) d _ h3
  obtain⟨x4,rfl,o4⟩:=(Zd1 Go.Proofs.Tryz.underlying4) d _ h4
  obtain⟨x5,rfl,o5⟩:=(Zd1 Go.Proofs.Tryz.underlying4) d _ h5
  obtain⟨x6,rfl,o6⟩:=(Zcw Go.Proofs.Tryz.underlying25 (by kernel_rfl:Go.Proofs.Tryz.prog.bytesOf 3=8) (Zv Go.Proofs.Tryz.underlying3)) d _ h6
  obtain⟨x7,rfl,o7⟩:=(Zcw Go.Proofs.Tryz.underlying25 (by kernel_rfl:Go.Proofs.Tryz.prog.bytesOf 3=8) (Zv Go.Proofs.Tryz.underlying3)) d _ h7
  obtain⟨x8,rfl,o8⟩:=(Zcw Go.Proofs.Tryz.underlying25 (by kernel_rfl:Go.Proofs.Tryz.prog.bytesOf 3=8) (Zv Go.Proofs.Tryz.underlying3)) d _ h8
  exact⟨⟨x0,x1,x2,x3,x4,x5,x6,x7,x8⟩,by simp only [Zav,List.append_nil],o0,o1,o2,o3,o4,o5,o6,o7,o8⟩
theorem Zah7:∀ (d:Nat) (ts:List Zd),WT Go.Proofs.Tryz.prog d 56 ts->∃ x,ts=Zj x/\Z5h x:=by
 intro d ts h
 cases d with
 | zero=>cases h
 | succ d=>
  simp only [WT,Go.Proofs.Tryz.underlying56] at h
  replace h:Seq (WT Go.Proofs.Tryz.prog d) [3,3,3,3,3,4,4,4,4,3,54,3,3,3,4,3,3] ts:=h
  simp only [Seq] at h
  obtain⟨_,_,rfl,h0,_,_,rfl,h1,_,_,rfl,h2,_,_,rfl,h3,_,_,rfl,h4,_,_,rfl,h5,_,_,rfl,h6,_,_,rfl,h7,_,_,rfl,h8,_,_,rfl,h9,_,_,rfl,h10,_,_,rfl,h11,_,_,rfl,h12,_,_,rfl,h13,_,_,rfl,h14,_,_,rfl,h15,_,_,rfl,h16,rfl⟩:=h
  obtain⟨x0,rfl,o0⟩:=(Zv Go.Proofs.Tryz.underlying3) d _ h0
  obtain⟨x1,rfl,o1⟩:=(Zv Go.Proofs.Tryz.underlying3) d _ h1
  obtain⟨x2,rfl,o2⟩:=(Zv Go.Proofs.Tryz.underlying3) d _ h2
  obtain⟨x3,rfl,o3⟩:=(Zv Go.Proofs.Tryz.underlying3) d _ h3
  obtain⟨x4,rfl,o4⟩:=(Zv Go.Proofs.Tryz.underlying3) d _ h4
  obtain⟨x5,rfl,o5⟩:=(Zd1 Go.Proofs.Tryz.underlying4) d _ h5
  obtain⟨x6,rfl,o6⟩:=(Zd1 Go.Proofs.Tryz.underlying4) d _ h6
  obtain⟨x7,rfl,o7⟩:=(Zd1 Go.Proofs.Tryz.underlying4) d _ h7
  obtain⟨x8,rfl,o8⟩:=(Zd1 Go.Proofs.Tryz.underlying4) d _ h8
  obtain⟨x9,rfl,o9⟩:=(Zv Go.Proofs.Tryz.underlying3) d _ h9
  obtain⟨x10,rfl,o10⟩:=(Za1d Go.Proofs.Tryz.underlying54 (Zv Go.Proofs.Tryz.underlying3)) d _ h10
  obtain⟨x11,rfl,o11⟩:=(Zv Go.Proofs.Tryz.underlying3) d _ h11
  obtain⟨x12,rfl,o12⟩:=(Zv Go.Proofs.Tryz.underlying3) d _ h12
  obtain⟨x13,rfl,o13⟩:=(Zv Go.Proofs.Tryz.underlying3) d _ h13
  obtain⟨x14,rfl,o14⟩:=(Zd1 Go.Proofs.Tryz.underlying4) d _ h14
  obtain⟨x15,rfl,o15⟩:=(Zv Go.Proofs.Tryz.underlying3) d _ h15
  obtain⟨x16,rfl,o16⟩:=(Zv Go.Proofs.Tryz.underlying3) d _ h16
  exact⟨⟨x0,x1,x2,x3,x4,x5,x6,x7,x8,x9,x10,x11,x12,x13,x14,x15,x16⟩,by simp only [Zj,List.append_nil],o0,o1,o2,o3,o4,o5,o6,o7,o8,o9,o10,o11,o12,o13,o14,o15,o16⟩
theorem Zah8:∀ (d:Nat) (ts:List Zd),WT Go.Proofs.Tryz.prog d 280 ts->∃ x,ts=Zk1 x/\Z5i x:=by
 intro d ts h
 cases d with
 | zero=>cases h
 | succ d=>
  simp only [WT,Go.Proofs.Tryz.underlying280] at h
  replace h:Seq (WT Go.Proofs.Tryz.prog d) [3,3] ts:=h
  simp only [Seq] at h
  obtain⟨_,_,rfl,h0,_,_,rfl,h1,rfl⟩:=h
  obtain⟨x0,rfl,o0⟩:=(Zv Go.Proofs.Tryz.underlying3) d _ h0
  obtain⟨x1,rfl,o1⟩:=(Zv Go.Proofs.Tryz.underlying3) d _ h1
  exact⟨⟨x0,x1⟩,by simp only [Zk1,List.append_nil],o0,o1⟩
theorem Z25:∀ (d:Nat) (ts:List Zd),WT Go.Proofs.Tryz.prog d 158 ts->∃ x,ts=Zmv x/\Zye x:=by
 intro d ts h
 cases d with
 | zero=>cases h
 | succ d=>
  simp only [WT,Go.Proofs.Tryz.underlying158] at h
  replace h:Seq (WT Go.Proofs.Tryz.prog d) [3,3,3,3,3,3,3,3,3,3,4,4,54] ts:=h
  simp only [Seq] at h
  obtain⟨_,_,rfl,h0,_,_,rfl,h1,_,_,rfl,h2,_,_,rfl,h3,_,_,rfl,h4,_,_,rfl,h5,_,_,rfl,h6,_,_,rfl,h7,_,_,rfl,h8,_,_,rfl,h9,_,_,rfl,h10,_,_,rfl,h11,_,_,rfl,h12,rfl⟩:=h
  obtain⟨x0,rfl,o0⟩:=(Zv Go.Proofs.Tryz.underlying3) d _ h0
  obtain⟨x1,rfl,o1⟩:=(Zv Go.Proofs.Tryz.underlying3) d _ h1
  obtain⟨x2,rfl,o2⟩:=(Zv Go.Proofs.Tryz.underlying3) d _ h2
  obtain⟨x3,rfl,o3⟩:=(Zv Go.Proofs.Tryz.underlying3) d _ h3
  obtain⟨x4,rfl,o4⟩:=(Zv Go.Proofs.Tryz.underlying3) d _ h4
  obtain⟨x5,rfl,o5⟩:=(Zv Go.Proofs.Tryz.underlying3) d _ h5
  obtain⟨x6,rfl,o6⟩:=(Zv Go.Proofs.Tryz.underlying3) d _ h6
  obtain⟨x7,rfl,o7⟩:=(Zv Go.Proofs.Tryz.underlying3) d _ h7
  obtain⟨x8,rfl,o8⟩:=(Zv Go.Proofs.Tryz.underlying3) d _ h8
  obtain⟨x9,rfl,o9⟩:=(Zv Go.Proofs.Tryz.underlying3) d _ h9
  obtain⟨x10,rfl,o10⟩:=(Zd1 Go.Proofs.Tryz.underlying4) d _ h10
  obtain⟨x11,rfl,o11⟩:=(Zd1 Go.Proofs.Tryz.underlying4) d _ h11
  obtain⟨x12,rfl,o12⟩:=(Za1d Go.Proofs.Tryz.underlying54 (Zv Go.Proofs.Tryz.underlying3)) d _ h12
  exact⟨⟨x0,x1,x2,x3,x4,x5,x6,x7,x8,x9,x10,x11,x12⟩,by simp only [Zmv,List.append_nil],o0,o1,o2,o3,o4,o5,o6,o7,o8,o9,o10,o11,o12⟩
theorem Zanf:∀ (d:Nat) (ts:List Zd),WT Go.Proofs.Tryz.prog d 160 ts->∃ x,ts=Za4 x/\Z1e x:=by
 intro d ts h
 cases d with
 | zero=>cases h
 | succ d=>
  simp only [WT,Go.Proofs.Tryz.underlying160] at h
  replace h:Seq (WT Go.Proofs.Tryz.prog d) [3,3,3,3,3,4,89,156,158] ts:=h
  simp only [Seq] at h
  obtain⟨_,_,rfl,h0,_,_,rfl,h1,_,_,rfl,h2,_,_,rfl,h3,_,_,rfl,h4,_,_,rfl,h5,_,_,rfl,h6,_,_,rfl,h7,_,_,rfl,h8,rfl⟩:=h
  obtain⟨x0,rfl,o0⟩:=(Zv Go.Proofs.Tryz.underlying3) d _ h0
  obtain⟨x1,rfl,o1⟩:=(Zv Go.Proofs.Tryz.underlying3) d _ h1
  obtain⟨x2,rfl,o2⟩:=(Zv Go.Proofs.Tryz.underlying3) d _ h2
  obtain⟨x3,rfl,o3⟩:=(Zv Go.Proofs.Tryz.underlying3) d _ h3
  obtain⟨x4,rfl,o4⟩:=(Zv Go.Proofs.Tryz.underlying3) d _ h4
  obtain⟨x5,rfl,o5⟩:=(Zd1 Go.Proofs.Tryz.underlying4) d _ h5
  obtain⟨x6,rfl,o6⟩:=Zn9 d _ h6
  obtain⟨x7,rfl,o7⟩:=(Zcw Go.Proofs.Tryz.underlying156 (by kernel_rfl:Go.Proofs.Tryz.prog.bytesOf 280=16) Zah8) d _ h7
  obtain⟨x8,rfl,o8⟩:=Z25 d _ h8
  exact⟨⟨x0,x1,x2,x3,x4,x5,x6,x7,x8⟩,by simp only [Za4,List.append_nil],o0,o1,o2,o3,o4,o5,o6,o7,o8⟩
theorem Zad9:∀ (d:Nat) (ts:List Zd),WT Go.Proofs.Tryz.prog d 162 ts->∃ x,ts=Za6 x/\Zr0 x:=by
 intro d ts h
 cases d with
 | zero=>cases h
 | succ d=>
  simp only [WT,Go.Proofs.Tryz.underlying162] at h
  replace h:Seq (WT Go.Proofs.Tryz.prog d) [3,3,89,158] ts:=h
  simp only [Seq] at h
  obtain⟨_,_,rfl,h0,_,_,rfl,h1,_,_,rfl,h2,_,_,rfl,h3,rfl⟩:=h
  obtain⟨x0,rfl,o0⟩:=(Zv Go.Proofs.Tryz.underlying3) d _ h0
  obtain⟨x1,rfl,o1⟩:=(Zv Go.Proofs.Tryz.underlying3) d _ h1
  obtain⟨x2,rfl,o2⟩:=Zn9 d _ h2
  obtain⟨x3,rfl,o3⟩:=Z25 d _ h3
  exact⟨⟨x0,x1,x2,x3⟩,by simp only [Za6,List.append_nil],o0,o1,o2,o3⟩
theorem Zang:∀ (d:Nat) (ts:List Zd),WT Go.Proofs.Tryz.prog d 93 ts->∃ x,ts=Zba x/\Z1f x:=by
 intro d ts h
 cases d with
 | zero=>cases h
 | succ d=>
  simp only [WT,Go.Proofs.Tryz.underlying93] at h
  replace h:Seq (WT Go.Proofs.Tryz.prog d) [3,3,3,3,25,42] ts:=h
  simp only [Seq] at h
  obtain⟨_,_,rfl,h0,_,_,rfl,h1,_,_,rfl,h2,_,_,rfl,h3,_,_,rfl,h4,_,_,rfl,h5,rfl⟩:=h
  obtain⟨x0,rfl,o0⟩:=(Zv Go.Proofs.Tryz.underlying3) d _ h0
  obtain⟨x1,rfl,o1⟩:=(Zv Go.Proofs.Tryz.underlying3) d _ h1
  obtain⟨x2,rfl,o2⟩:=(Zv Go.Proofs.Tryz.underlying3) d _ h2
  obtain⟨x3,rfl,o3⟩:=(Zv Go.Proofs.Tryz.underlying3) d _ h3
  obtain⟨x4,rfl,o4⟩:=(Zcw Go.Proofs.Tryz.underlying25 (by kernel_rfl:Go.Proofs.Tryz.prog.bytesOf 3=8) (Zv Go.Proofs.Tryz.underlying3)) d _ h4
  obtain⟨x5,rfl,o5⟩:=(Zcw Go.Proofs.Tryz.underlying42 (by kernel_rfl:Go.Proofs.Tryz.prog.bytesOf 79=176) Zyq) d _ h5
  exact⟨⟨x0,x1,x2,x3,x4,x5⟩,by simp only [Zba,List.append_nil],o0,o1,o2,o3,o4,o5⟩
theorem Zakj:∀ (d:Nat) (ts:List Zd),WT Go.Proofs.Tryz.prog d 31 ts->∃ x,ts=Z1 x/\Z8e x:=by
 intro d ts h
 cases d with
 | zero=>cases h
 | succ d=>
  simp only [WT,Go.Proofs.Tryz.underlying31] at h
  replace h:Seq (WT Go.Proofs.Tryz.prog d) [23,24,25,25,26,27,28,3,3,3,4,3,3,3,3,29,25,3,3] ts:=h
  simp only [Seq] at h
  obtain⟨_,_,rfl,h0,_,_,rfl,h1,_,_,rfl,h2,_,_,rfl,h3,_,_,rfl,h4,_,_,rfl,h5,_,_,rfl,h6,_,_,rfl,h7,_,_,rfl,h8,_,_,rfl,h9,_,_,rfl,h10,_,_,rfl,h11,_,_,rfl,h12,_,_,rfl,h13,_,_,rfl,h14,_,_,rfl,h15,_,_,rfl,h16,_,_,rfl,h17,_,_,rfl,h18,rfl⟩:=h
  obtain⟨x0,rfl,o0⟩:=(Zcw Go.Proofs.Tryz.underlying23 (by kernel_rfl:Go.Proofs.Tryz.prog.bytesOf 119=152) Zah6) d _ h0
  obtain⟨x1,rfl,o1⟩:=(Zcw Go.Proofs.Tryz.underlying24 (by kernel_rfl:Go.Proofs.Tryz.prog.bytesOf 56=128) Zah7) d _ h1
  obtain⟨x2,rfl,o2⟩:=(Zcw Go.Proofs.Tryz.underlying25 (by kernel_rfl:Go.Proofs.Tryz.prog.bytesOf 3=8) (Zv Go.Proofs.Tryz.underlying3)) d _ h2
  obtain⟨x3,rfl,o3⟩:=(Zcw Go.Proofs.Tryz.underlying25 (by kernel_rfl:Go.Proofs.Tryz.prog.bytesOf 3=8) (Zv Go.Proofs.Tryz.underlying3)) d _ h3
  obtain⟨x4,rfl,o4⟩:=(Zcw Go.Proofs.Tryz.underlying26 (by kernel_rfl:Go.Proofs.Tryz.prog.bytesOf 160=824) Zanf) d _ h4
  obtain⟨x5,rfl,o5⟩:=(Zcw Go.Proofs.Tryz.underlying27 (by kernel_rfl:Go.Proofs.Tryz.prog.bytesOf 162=768) Zad9) d _ h5
  obtain⟨x6,rfl,o6⟩:=(Zcw Go.Proofs.Tryz.underlying28 (by kernel_rfl:Go.Proofs.Tryz.prog.bytesOf 93=80) Zang) d _ h6
  obtain⟨x7,rfl,o7⟩:=(Zv Go.Proofs.Tryz.underlying3) d _ h7
  obtain⟨x8,rfl,o8⟩:=(Zv Go.Proofs.Tryz.underlying3) d _ h8
  obtain⟨x9,rfl,o9⟩:=(Zv Go.Proofs.Tryz.underlying3) d _ h9
  obtain⟨x10,rfl,o10⟩:=(Zd1 Go.Proofs.Tryz.underlying4) d _ h10
  obtain⟨x11,rfl,o11⟩:=(Zv Go.Proofs.Tryz.underlying3) d _ h11
  obtain⟨x12,rfl,o12⟩:=(Zv Go.Proofs.Tryz.underlying3) d _ h12
  obtain⟨x13,rfl,o13⟩:=(Zv Go.Proofs.Tryz.underlying3) d _ h13
  obtain⟨x14,rfl,o14⟩:=(Zv Go.Proofs.Tryz.underlying3) d _ h14
  obtain⟨x15,rfl,o15⟩:=(Zv Go.Proofs.Tryz.underlying29) d _ h15
  obtain⟨x16,rfl,o16⟩:=(Zcw Go.Proofs.Tryz.underlying25 (by kernel_rfl:Go.Proofs.Tryz.prog.bytesOf 3=8) (Zv Go.Proofs.Tryz.underlying3)) d _ h16
  obtain⟨x17,rfl,o17⟩:=(Zv Go.Proofs.Tryz.underlying3) d _ h17
  obtain⟨x18,rfl,o18⟩:=(Zv Go.Proofs.Tryz.underlying3) d _ h18
  exact⟨⟨x0,x1,x2,x3,x4,x5,x6,x7,x8,x9,x10,x11,x12,x13,x14,x15,x16,x17,x18⟩,by simp only [Z1,List.append_nil],o0,o1,o2,o3,o4,o5,o6,o7,o8,o9,o10,o11,o12,o13,o14,o15,o16,o17,o18⟩
end Go.PW
