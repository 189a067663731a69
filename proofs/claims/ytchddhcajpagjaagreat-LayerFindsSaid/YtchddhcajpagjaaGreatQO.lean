import Derived.Test.YtchddhcajpagjaaGreatQT
import Derived.Test.YtchddhcajpagjaaGreatQE
set_option linter.all false
set_option maxRecDepth 100000
namespace Go.PW
open Go.RowKit
theorem Zab4:∀ (d:Nat) (ts:List Zd),WT Go.Proofs.Tryz.prog d 60 ts->∃ x,ts=Zai x/\Z67 x:=by
 intro d ts h
 cases d with
 | zero=>cases h
 | succ d=>
  simp only [WT,Go.Proofs.Tryz.underlying60] at h
  replace h:Seq (WT Go.Proofs.Tryz.prog d) [3,3,58] ts:=h
  simp only [Seq] at h
  obtain⟨_,_,rfl,h0,_,_,rfl,h1,_,_,rfl,h2,rfl⟩:=h
  obtain⟨x0,rfl,o0⟩:=(Zw Go.Proofs.Tryz.underlying3) d _ h0
  obtain⟨x1,rfl,o1⟩:=(Zw Go.Proofs.Tryz.underlying3) d _ h1
  obtain⟨x2,rfl,o2⟩:=(Zbac Go.Proofs.Tryz.underlying58 (Zw Go.Proofs.Tryz.underlying3)) d _ h2
  exact⟨⟨x0,x1,x2⟩,by simp only [Zai,List.append_nil],o0,o1,o2⟩
theorem Zasx:∀ (d:Nat) (ts:List Zd),WT Go.Proofs.Tryz.prog d 63 ts->∃ x,ts=Zh5 x/\Z68 x:=by
 intro d ts h
 cases d with
 | zero=>cases h
 | succ d=>
  simp only [WT,Go.Proofs.Tryz.underlying63] at h
  replace h:Seq (WT Go.Proofs.Tryz.prog d) [3,3,61] ts:=h
  simp only [Seq] at h
  obtain⟨_,_,rfl,h0,_,_,rfl,h1,_,_,rfl,h2,rfl⟩:=h
  obtain⟨x0,rfl,o0⟩:=(Zw Go.Proofs.Tryz.underlying3) d _ h0
  obtain⟨x1,rfl,o1⟩:=(Zw Go.Proofs.Tryz.underlying3) d _ h1
  obtain⟨x2,rfl,o2⟩:=(Zek Go.Proofs.Tryz.underlying61 (by kernel_rfl:Go.Proofs.Tryz.prog.bytesOf 9=16) (Zacs Go.Proofs.Tryz.underlying9)) d _ h2
  exact⟨⟨x0,x1,x2⟩,by simp only [Zh5,List.append_nil],o0,o1,o2⟩
theorem Zxd:∀ (d:Nat) (ts:List Zd),WT Go.Proofs.Tryz.prog d 39 ts->∃ x,ts=Zce x/\Zvg x:=by
 intro d ts h
 cases d with
 | zero=>cases h
 | succ d=>
  simp only [WT,Go.Proofs.Tryz.underlying39] at h
  replace h:Seq (WT Go.Proofs.Tryz.prog d) [3,3] ts:=h
  simp only [Seq] at h
  obtain⟨_,_,rfl,h0,_,_,rfl,h1,rfl⟩:=h
  obtain⟨x0,rfl,o0⟩:=(Zw Go.Proofs.Tryz.underlying3) d _ h0
  obtain⟨x1,rfl,o1⟩:=(Zw Go.Proofs.Tryz.underlying3) d _ h1
  exact⟨⟨x0,x1⟩,by simp only [Zce,List.append_nil],o0,o1⟩
theorem Zfx:∀ (d:Nat) (ts:List Zd),WT Go.Proofs.Tryz.prog d 41 ts->∃ x,ts=Zo x/\Ze5 x:=by
 intro d ts h
 cases d with
 | zero=>cases h
 | succ d=>
  simp only [WT,Go.Proofs.Tryz.underlying41] at h
  replace h:Seq (WT Go.Proofs.Tryz.prog d) [3,3,3,3,3,3,3,9,3,3,39,39,39] ts:=h
  simp only [Seq] at h
  obtain⟨_,_,rfl,h0,_,_,rfl,h1,_,_,rfl,h2,_,_,rfl,h3,_,_,rfl,h4,_,_,rfl,h5,_,_,rfl,h6,_,_,rfl,h7,_,_,rfl,h8,_,_,rfl,h9,_,_,rfl,h10,_,_,rfl,h11,_,_,rfl,h12,rfl⟩:=h
  obtain⟨x0,rfl,o0⟩:=(Zw Go.Proofs.Tryz.underlying3) d _ h0
  obtain⟨x1,rfl,o1⟩:=(Zw Go.Proofs.Tryz.underlying3) d _ h1
  obtain⟨x2,rfl,o2⟩:=(Zw Go.Proofs.Tryz.underlying3) d _ h2
  obtain⟨x3,rfl,o3⟩:=(Zw Go.Proofs.Tryz.underlying3) d _ h3
  obtain⟨x4,rfl,o4⟩:=(Zw Go.Proofs.Tryz.underlying3) d _ h4
  obtain⟨x5,rfl,o5⟩:=(Zw Go.Proofs.Tryz.underlying3) d _ h5
  obtain⟨x6,rfl,o6⟩:=(Zw Go.Proofs.Tryz.underlying3) d _ h6
  obtain⟨x7,rfl,o7⟩:=(Zacs Go.Proofs.Tryz.underlying9) d _ h7
  obtain⟨x8,rfl,o8⟩:=(Zw Go.Proofs.Tryz.underlying3) d _ h8
  obtain⟨x9,rfl,o9⟩:=(Zw Go.Proofs.Tryz.underlying3) d _ h9
  obtain⟨x10,rfl,o10⟩:=Zxd d _ h10
  obtain⟨x11,rfl,o11⟩:=Zxd d _ h11
  obtain⟨x12,rfl,o12⟩:=Zxd d _ h12
  exact⟨⟨x0,x1,x2,x3,x4,x5,x6,x7,x8,x9,x10,x11,x12⟩,by simp only [Zo,List.append_nil],o0,o1,o2,o3,o4,o5,o6,o7,o8,o9,o10,o11,o12⟩
theorem Z38:∀ (d:Nat) (ts:List Zd),WT Go.Proofs.Tryz.prog d 79 ts->∃ x,ts=Zm x/\Zvh x:=by
 intro d ts h
 cases d with
 | zero=>cases h
 | succ d=>
  simp only [WT,Go.Proofs.Tryz.underlying79] at h
  replace h:Seq (WT Go.Proofs.Tryz.prog d) [3,3,3,9,41] ts:=h
  simp only [Seq] at h
  obtain⟨_,_,rfl,h0,_,_,rfl,h1,_,_,rfl,h2,_,_,rfl,h3,_,_,rfl,h4,rfl⟩:=h
  obtain⟨x0,rfl,o0⟩:=(Zw Go.Proofs.Tryz.underlying3) d _ h0
  obtain⟨x1,rfl,o1⟩:=(Zw Go.Proofs.Tryz.underlying3) d _ h1
  obtain⟨x2,rfl,o2⟩:=(Zw Go.Proofs.Tryz.underlying3) d _ h2
  obtain⟨x3,rfl,o3⟩:=(Zacs Go.Proofs.Tryz.underlying9) d _ h3
  obtain⟨x4,rfl,o4⟩:=Zfx d _ h4
  exact⟨⟨x0,x1,x2,x3,x4⟩,by simp only [Zm,List.append_nil],o0,o1,o2,o3,o4⟩
theorem Zap9:∀ (d:Nat) (ts:List Zd),WT Go.Proofs.Tryz.prog d 81 ts->∃ x,ts=Zdz x/\Zaeh x:=by
 intro d ts h
 cases d with
 | zero=>cases h
 | succ d=>
  simp only [WT,Go.Proofs.Tryz.underlying81] at h
  replace h:Seq (WT Go.Proofs.Tryz.prog d) [60,4,4,3] ts:=h
  simp only [Seq] at h
  obtain⟨_,_,rfl,h0,_,_,rfl,h1,_,_,rfl,h2,_,_,rfl,h3,rfl⟩:=h
  obtain⟨x0,rfl,o0⟩:=Zab4 d _ h0
  obtain⟨x1,rfl,o1⟩:=(Zfz Go.Proofs.Tryz.underlying4) d _ h1
  obtain⟨x2,rfl,o2⟩:=(Zfz Go.Proofs.Tryz.underlying4) d _ h2
  obtain⟨x3,rfl,o3⟩:=(Zw Go.Proofs.Tryz.underlying3) d _ h3
  exact⟨⟨x0,x1,x2,x3⟩,by simp only [Zdz,List.append_nil],o0,o1,o2,o3⟩
theorem Zako:∀ (d:Nat) (ts:List Zd),WT Go.Proofs.Tryz.prog d 83 ts->∃ x,ts=Zch x/\Zw2 x:=by
 intro d ts h
 cases d with
 | zero=>cases h
 | succ d=>
  simp only [WT,Go.Proofs.Tryz.underlying83] at h
  replace h:Seq (WT Go.Proofs.Tryz.prog d) [3,3,41] ts:=h
  simp only [Seq] at h
  obtain⟨_,_,rfl,h0,_,_,rfl,h1,_,_,rfl,h2,rfl⟩:=h
  obtain⟨x0,rfl,o0⟩:=(Zw Go.Proofs.Tryz.underlying3) d _ h0
  obtain⟨x1,rfl,o1⟩:=(Zw Go.Proofs.Tryz.underlying3) d _ h1
  obtain⟨x2,rfl,o2⟩:=Zfx d _ h2
  exact⟨⟨x0,x1,x2⟩,by simp only [Zch,List.append_nil],o0,o1,o2⟩
theorem Zasy:∀ (d:Nat) (ts:List Zd),WT Go.Proofs.Tryz.prog d 133 ts->∃ x,ts=Zab x/\Z69 x:=by
 intro d ts h
 cases d with
 | zero=>cases h
 | succ d=>
  simp only [WT,Go.Proofs.Tryz.underlying133] at h
  replace h:Seq (WT Go.Proofs.Tryz.prog d) [4,4,41] ts:=h
  simp only [Seq] at h
  obtain⟨_,_,rfl,h0,_,_,rfl,h1,_,_,rfl,h2,rfl⟩:=h
  obtain⟨x0,rfl,o0⟩:=(Zfz Go.Proofs.Tryz.underlying4) d _ h0
  obtain⟨x1,rfl,o1⟩:=(Zfz Go.Proofs.Tryz.underlying4) d _ h1
  obtain⟨x2,rfl,o2⟩:=Zfx d _ h2
  exact⟨⟨x0,x1,x2⟩,by simp only [Zab,List.append_nil],o0,o1,o2⟩
theorem Zax9:∀ (d:Nat) (ts:List Zd),WT Go.Proofs.Tryz.prog d 136 ts->∃ x,ts=Zdu x/\Zaad x:=by
 intro d ts h
 cases d with
 | zero=>cases h
 | succ d=>
  simp only [WT,Go.Proofs.Tryz.underlying136] at h
  replace h:Seq (WT Go.Proofs.Tryz.prog d) [3,3,41] ts:=h
  simp only [Seq] at h
  obtain⟨_,_,rfl,h0,_,_,rfl,h1,_,_,rfl,h2,rfl⟩:=h
  obtain⟨x0,rfl,o0⟩:=(Zw Go.Proofs.Tryz.underlying3) d _ h0
  obtain⟨x1,rfl,o1⟩:=(Zw Go.Proofs.Tryz.underlying3) d _ h1
  obtain⟨x2,rfl,o2⟩:=Zfx d _ h2
  exact⟨⟨x0,x1,x2⟩,by simp only [Zdu,List.append_nil],o0,o1,o2⟩
theorem Zaoi:∀ (d:Nat) (ts:List Zd),WT Go.Proofs.Tryz.prog d 138 ts->∃ x,ts=Zaq x/\Zzy x:=by
 intro d ts h
 cases d with
 | zero=>cases h
 | succ d=>
  simp only [WT,Go.Proofs.Tryz.underlying138] at h
  replace h:Seq (WT Go.Proofs.Tryz.prog d) [3,3,3,41] ts:=h
  simp only [Seq] at h
  obtain⟨_,_,rfl,h0,_,_,rfl,h1,_,_,rfl,h2,_,_,rfl,h3,rfl⟩:=h
  obtain⟨x0,rfl,o0⟩:=(Zw Go.Proofs.Tryz.underlying3) d _ h0
  obtain⟨x1,rfl,o1⟩:=(Zw Go.Proofs.Tryz.underlying3) d _ h1
  obtain⟨x2,rfl,o2⟩:=(Zw Go.Proofs.Tryz.underlying3) d _ h2
  obtain⟨x3,rfl,o3⟩:=Zfx d _ h3
  exact⟨⟨x0,x1,x2,x3⟩,by simp only [Zaq,List.append_nil],o0,o1,o2,o3⟩
theorem Zaoj:∀ (d:Nat) (ts:List Zd),WT Go.Proofs.Tryz.prog d 140 ts->∃ x,ts=Zq x/\Zzz x:=by
 intro d ts h
 cases d with
 | zero=>cases h
 | succ d=>
  simp only [WT,Go.Proofs.Tryz.underlying140] at h
  replace h:Seq (WT Go.Proofs.Tryz.prog d) [3,136,138,3,3,9,41,117,42] ts:=h
  simp only [Seq] at h
  obtain⟨_,_,rfl,h0,_,_,rfl,h1,_,_,rfl,h2,_,_,rfl,h3,_,_,rfl,h4,_,_,rfl,h5,_,_,rfl,h6,_,_,rfl,h7,_,_,rfl,h8,rfl⟩:=h
  obtain⟨x0,rfl,o0⟩:=(Zw Go.Proofs.Tryz.underlying3) d _ h0
  obtain⟨x1,rfl,o1⟩:=Zax9 d _ h1
  obtain⟨x2,rfl,o2⟩:=Zaoi d _ h2
  obtain⟨x3,rfl,o3⟩:=(Zw Go.Proofs.Tryz.underlying3) d _ h3
  obtain⟨x4,rfl,o4⟩:=(Zw Go.Proofs.Tryz.underlying3) d _ h4
  obtain⟨x5,rfl,o5⟩:=(Zacs Go.Proofs.Tryz.underlying9) d _ h5
  obtain⟨x6,rfl,o6⟩:=Zfx d _ h6
  obtain⟨x7,rfl,o7⟩:=(Za7i Go.Proofs.Tryz.underlying117 (Zw Go.Proofs.Tryz.underlying3)) d _ h7
  obtain⟨x8,rfl,o8⟩:=(Zek Go.Proofs.Tryz.underlying42 (by kernel_rfl:Go.Proofs.Tryz.prog.bytesOf 79=176) Z38) d _ h8
  exact⟨⟨x0,x1,x2,x3,x4,x5,x6,x7,x8⟩,by simp only [Zq,List.append_nil],o0,o1,o2,o3,o4,o5,o6,o7,o8⟩
theorem Zakp:∀ (d:Nat) (ts:List Zd),WT Go.Proofs.Tryz.prog d 87 ts->∃ x,ts=Zbk x/\Zw3 x:=by
 intro d ts h
 cases d with
 | zero=>cases h
 | succ d=>
  simp only [WT,Go.Proofs.Tryz.underlying87] at h
  replace h:Seq (WT Go.Proofs.Tryz.prog d) [3,3,41,3,3,3,3] ts:=h
  simp only [Seq] at h
  obtain⟨_,_,rfl,h0,_,_,rfl,h1,_,_,rfl,h2,_,_,rfl,h3,_,_,rfl,h4,_,_,rfl,h5,_,_,rfl,h6,rfl⟩:=h
  obtain⟨x0,rfl,o0⟩:=(Zw Go.Proofs.Tryz.underlying3) d _ h0
  obtain⟨x1,rfl,o1⟩:=(Zw Go.Proofs.Tryz.underlying3) d _ h1
  obtain⟨x2,rfl,o2⟩:=Zfx d _ h2
  obtain⟨x3,rfl,o3⟩:=(Zw Go.Proofs.Tryz.underlying3) d _ h3
  obtain⟨x4,rfl,o4⟩:=(Zw Go.Proofs.Tryz.underlying3) d _ h4
  obtain⟨x5,rfl,o5⟩:=(Zw Go.Proofs.Tryz.underlying3) d _ h5
  obtain⟨x6,rfl,o6⟩:=(Zw Go.Proofs.Tryz.underlying3) d _ h6
  exact⟨⟨x0,x1,x2,x3,x4,x5,x6⟩,by simp only [Zbk,List.append_nil],o0,o1,o2,o3,o4,o5,o6⟩
theorem Zs8:∀ (d:Nat) (ts:List Zd),WT Go.Proofs.Tryz.prog d 89 ts->∃ x,ts=Zh x/\Zmy x:=by
 intro d ts h
 cases d with
 | zero=>cases h
 | succ d=>
  simp only [WT,Go.Proofs.Tryz.underlying89] at h
  replace h:Seq (WT Go.Proofs.Tryz.prog d) [3,41,42,81,4,83,4,84,85,87] ts:=h
  simp only [Seq] at h
  obtain⟨_,_,rfl,h0,_,_,rfl,h1,_,_,rfl,h2,_,_,rfl,h3,_,_,rfl,h4,_,_,rfl,h5,_,_,rfl,h6,_,_,rfl,h7,_,_,rfl,h8,_,_,rfl,h9,rfl⟩:=h
  obtain⟨x0,rfl,o0⟩:=(Zw Go.Proofs.Tryz.underlying3) d _ h0
  obtain⟨x1,rfl,o1⟩:=Zfx d _ h1
  obtain⟨x2,rfl,o2⟩:=(Zek Go.Proofs.Tryz.underlying42 (by kernel_rfl:Go.Proofs.Tryz.prog.bytesOf 79=176) Z38) d _ h2
  obtain⟨x3,rfl,o3⟩:=Zap9 d _ h3
  obtain⟨x4,rfl,o4⟩:=(Zfz Go.Proofs.Tryz.underlying4) d _ h4
  obtain⟨x5,rfl,o5⟩:=Zako d _ h5
  obtain⟨x6,rfl,o6⟩:=(Zfz Go.Proofs.Tryz.underlying4) d _ h6
  obtain⟨x7,rfl,o7⟩:=(Zek Go.Proofs.Tryz.underlying84 (by kernel_rfl:Go.Proofs.Tryz.prog.bytesOf 133=144) Zasy) d _ h7
  obtain⟨x8,rfl,o8⟩:=(Zek Go.Proofs.Tryz.underlying85 (by kernel_rfl:Go.Proofs.Tryz.prog.bytesOf 140=560) Zaoj) d _ h8
  obtain⟨x9,rfl,o9⟩:=Zakp d _ h9
  exact⟨⟨x0,x1,x2,x3,x4,x5,x6,x7,x8,x9⟩,by simp only [Zh,List.append_nil],o0,o1,o2,o3,o4,o5,o6,o7,o8,o9⟩
theorem Zasz:∀ (d:Nat) (ts:List Zd),WT Go.Proofs.Tryz.prog d 77 ts->∃ x,ts=Z4 x/\Zah0 x:=by
 intro d ts h
 cases d with
 | zero=>cases h
 | succ d=>
  simp only [WT,Go.Proofs.Tryz.underlying77] at h
  replace h:Seq (WT Go.Proofs.Tryz.prog d) [9,4,60,3,63,3,3,3,64] ts:=h
  simp only [Seq] at h
  obtain⟨_,_,rfl,h0,_,_,rfl,h1,_,_,rfl,h2,_,_,rfl,h3,_,_,rfl,h4,_,_,rfl,h5,_,_,rfl,h6,_,_,rfl,h7,_,_,rfl,h8,rfl⟩:=h
  obtain⟨x0,rfl,o0⟩:=(Zacs Go.Proofs.Tryz.underlying9) d _ h0
  obtain⟨x1,rfl,o1⟩:=(Zfz Go.Proofs.Tryz.underlying4) d _ h1
  obtain⟨x2,rfl,o2⟩:=Zab4 d _ h2
  obtain⟨x3,rfl,o3⟩:=(Zw Go.Proofs.Tryz.underlying3) d _ h3
  obtain⟨x4,rfl,o4⟩:=Zasx d _ h4
  obtain⟨x5,rfl,o5⟩:=(Zw Go.Proofs.Tryz.underlying3) d _ h5
  obtain⟨x6,rfl,o6⟩:=(Zw Go.Proofs.Tryz.underlying3) d _ h6
  obtain⟨x7,rfl,o7⟩:=(Zw Go.Proofs.Tryz.underlying3) d _ h7
  obtain⟨x8,rfl,o8⟩:=(Zek Go.Proofs.Tryz.underlying64 (by kernel_rfl:Go.Proofs.Tryz.prog.bytesOf 89=640) Zs8) d _ h8
  exact⟨⟨x0,x1,x2,x3,x4,x5,x6,x7,x8⟩,by simp only [Z4,List.append_nil],o0,o1,o2,o3,o4,o5,o6,o7,o8⟩
theorem Zaok:∀ (d:Nat) (ts:List Zd),WT Go.Proofs.Tryz.prog d 119 ts->∃ x,ts=Zbe x/\Zz0 x:=by
 intro d ts h
 cases d with
 | zero=>cases h
 | succ d=>
  simp only [WT,Go.Proofs.Tryz.underlying119] at h
  replace h:Seq (WT Go.Proofs.Tryz.prog d) [3,3,3,117,4,4,25,25,25] ts:=h
  simp only [Seq] at h
  obtain⟨_,_,rfl,h0,_,_,rfl,h1,_,_,rfl,h2,_,_,rfl,h3,_,_,rfl,h4,_,_,rfl,h5,_,_,rfl,h6,_,_,rfl,h7,_,_,rfl,h8,rfl⟩:=h
  obtain⟨x0,rfl,o0⟩:=(Zw Go.Proofs.Tryz.underlying3) d _ h0
  obtain⟨x1,rfl,o1⟩:=(Zw Go.Proofs.Tryz.underlying3) d _ h1
  obtain⟨x2,rfl,o2⟩:=(Zw Go.Proofs.Tryz.underlying3) d _ h2
  obtain⟨x3,rfl,o3⟩:=(Za7i Go.Proofs.Tryz.underlying117 (Zw Go.Proofs.Tryz.underlying3)) d _ h3
  obtain⟨x4,rfl,o4⟩:=(Zfz Go.Proofs.Tryz.underlying4) d _ h4
  obtain⟨x5,rfl,o5⟩:=(Zfz Go.Proofs.Tryz.underlying4) d _ h5
  obtain⟨x6,rfl,o6⟩:=(Zek Go.Proofs.Tryz.underlying25 (by kernel_rfl:Go.Proofs.Tryz.prog.bytesOf 3=8) (Zw Go.Proofs.Tryz.underlying3)) d _ h6
  obtain⟨x7,rfl,o7⟩:=(Zek Go.Proofs.Tryz.underlying25 (by kernel_rfl:Go.Proofs.Tryz.prog.bytesOf 3=8) (Zw Go.Proofs.Tryz.underlying3)) d _ h7
  obtain⟨x8,rfl,o8⟩:=(Zek Go.Proofs.Tryz.underlying25 (by kernel_rfl:Go.Proofs.Tryz.prog.bytesOf 3=8) (Zw Go.Proofs.Tryz.underlying3)) d _ h8
  exact⟨⟨x0,x1,x2,x3,x4,x5,x6,x7,x8⟩,by simp only [Zbe,List.append_nil],o0,o1,o2,o3,o4,o5,o6,o7,o8⟩
theorem Zaol:∀ (d:Nat) (ts:List Zd),WT Go.Proofs.Tryz.prog d 56 ts->∃ x,ts=Zk x/\Zabx x:=by
 intro d ts h
 cases d with
 | zero=>cases h
 | succ d=>
  simp only [WT,Go.Proofs.Tryz.underlying56] at h
  replace h:Seq (WT Go.Proofs.Tryz.prog d) [3,3,3,3,3,4,4,4,4,3,54,3,3,3,4,3,3] ts:=h
  simp only [Seq] at h
  obtain⟨_,_,rfl,h0,_,_,rfl,h1,_,_,rfl,h2,_,_,rfl,h3,_,_,rfl,h4,_,_,rfl,h5,_,_,rfl,h6,_,_,rfl,h7,_,_,rfl,h8,_,_,rfl,h9,_,_,rfl,h10,_,_,rfl,h11,_,_,rfl,h12,_,_,rfl,h13,_,_,rfl,h14,_,_,rfl,h15,_,_,rfl,h16,rfl⟩:=h
  obtain⟨x0,rfl,o0⟩:=(Zw Go.Proofs.Tryz.underlying3) d _ h0
  obtain⟨x1,rfl,o1⟩:=(Zw Go.Proofs.Tryz.underlying3) d _ h1
  obtain⟨x2,rfl,o2⟩:=(Zw Go.Proofs.Tryz.underlying3) d _ h2
  obtain⟨x3,rfl,o3⟩:=(Zw Go.Proofs.Tryz.underlying3) d _ h3
  obtain⟨x4,rfl,o4⟩:=(Zw Go.Proofs.Tryz.underlying3) d _ h4
  obtain⟨x5,rfl,o5⟩:=(Zfz Go.Proofs.Tryz.underlying4) d _ h5
  obtain⟨x6,rfl,o6⟩:=(Zfz Go.Proofs.Tryz.underlying4) d _ h6
  obtain⟨x7,rfl,o7⟩:=(Zfz Go.Proofs.Tryz.underlying4) d _ h7
  obtain⟨x8,rfl,o8⟩:=(Zfz Go.Proofs.Tryz.underlying4) d _ h8
  obtain⟨x9,rfl,o9⟩:=(Zw Go.Proofs.Tryz.underlying3) d _ h9
  obtain⟨x10,rfl,o10⟩:=(Za7h Go.Proofs.Tryz.underlying54 (Zw Go.Proofs.Tryz.underlying3)) d _ h10
  obtain⟨x11,rfl,o11⟩:=(Zw Go.Proofs.Tryz.underlying3) d _ h11
  obtain⟨x12,rfl,o12⟩:=(Zw Go.Proofs.Tryz.underlying3) d _ h12
  obtain⟨x13,rfl,o13⟩:=(Zw Go.Proofs.Tryz.underlying3) d _ h13
  obtain⟨x14,rfl,o14⟩:=(Zfz Go.Proofs.Tryz.underlying4) d _ h14
  obtain⟨x15,rfl,o15⟩:=(Zw Go.Proofs.Tryz.underlying3) d _ h15
  obtain⟨x16,rfl,o16⟩:=(Zw Go.Proofs.Tryz.underlying3) d _ h16
  exact⟨⟨x0,x1,x2,x3,x4,x5,x6,x7,x8,x9,x10,x11,x12,x13,x14,x15,x16⟩,by simp only [Zk,List.append_nil],o0,o1,o2,o3,o4,o5,o6,o7,o8,o9,o10,o11,o12,o13,o14,o15,o16⟩
theorem Zaom:∀ (d:Nat) (ts:List Zd),WT Go.Proofs.Tryz.prog d 280 ts->∃ x,ts=Zo9 x/\Zaby x:=by
 intro d ts h
 cases d with
 | zero=>cases h
 | succ d=>
  simp only [WT,Go.Proofs.Tryz.underlying280] at h
  replace h:Seq (WT Go.Proofs.Tryz.prog d) [3,3] ts:=h
  simp only [Seq] at h
  obtain⟨_,_,rfl,h0,_,_,rfl,h1,rfl⟩:=h
  obtain⟨x0,rfl,o0⟩:=(Zw Go.Proofs.Tryz.underlying3) d _ h0
  obtain⟨x1,rfl,o1⟩:=(Zw Go.Proofs.Tryz.underlying3) d _ h1
  exact⟨⟨x0,x1⟩,by simp only [Zo9,List.append_nil],o0,o1⟩
theorem Z9a:∀ (d:Nat) (ts:List Zd),WT Go.Proofs.Tryz.prog d 158 ts->∃ x,ts=Zrh x/\Z3q x:=by
 intro d ts h
 cases d with
 | zero=>cases h
 | succ d=>
  simp only [WT,Go.Proofs.Tryz.underlying158] at h
  replace h:Seq (WT Go.Proofs.Tryz.prog d) [3,3,3,3,3,3,3,3,3,3,4,4,54] ts:=h
  simp only [Seq] at h
  obtain⟨_,_,rfl,h0,_,_,rfl,h1,_,_,rfl,h2,_,_,rfl,h3,_,_,rfl,h4,_,_,rfl,h5,_,_,rfl,h6,_,_,rfl,h7,_,_,rfl,h8,_,_,rfl,h9,_,_,rfl,h10,_,_,rfl,h11,_,_,rfl,h12,rfl⟩:=h
  obtain⟨x0,rfl,o0⟩:=(Zw Go.Proofs.Tryz.underlying3) d _ h0
  obtain⟨x1,rfl,o1⟩:=(Zw Go.Proofs.Tryz.underlying3) d _ h1
  obtain⟨x2,rfl,o2⟩:=(Zw Go.Proofs.Tryz.underlying3) d _ h2
  obtain⟨x3,rfl,o3⟩:=(Zw Go.Proofs.Tryz.underlying3) d _ h3
  obtain⟨x4,rfl,o4⟩:=(Zw Go.Proofs.Tryz.underlying3) d _ h4
  obtain⟨x5,rfl,o5⟩:=(Zw Go.Proofs.Tryz.underlying3) d _ h5
  obtain⟨x6,rfl,o6⟩:=(Zw Go.Proofs.Tryz.underlying3) d _ h6
  obtain⟨x7,rfl,o7⟩:=(Zw Go.Proofs.Tryz.underlying3) d _ h7
  obtain⟨x8,rfl,o8⟩:=(Zw Go.Proofs.Tryz.underlying3) d _ h8
  obtain⟨x9,rfl,o9⟩:=(Zw Go.Proofs.Tryz.underlying3) d _ h9
  obtain⟨x10,rfl,o10⟩:=(Zfz Go.Proofs.Tryz.underlying4) d _ h10
  obtain⟨x11,rfl,o11⟩:=(Zfz Go.Proofs.Tryz.underlying4) d _ h11
  obtain⟨x12,rfl,o12⟩:=(Za7h Go.Proofs.Tryz.underlying54 (Zw Go.Proofs.Tryz.underlying3)) d _ h12
  exact⟨⟨x0,x1,x2,x3,x4,x5,x6,x7,x8,x9,x10,x11,x12⟩,by simp only [Zrh,List.append_nil],o0,o1,o2,o3,o4,o5,o6,o7,o8,o9,o10,o11,o12⟩
theorem Zas0:∀ (d:Nat) (ts:List Zd),WT Go.Proofs.Tryz.prog d 160 ts->∃ x,ts=Zbt x/\Z7a x:=by
 intro d ts h
 cases d with
 | zero=>cases h
 | succ d=>
  simp only [WT,Go.Proofs.Tryz.underlying160] at h
  replace h:Seq (WT Go.Proofs.Tryz.prog d) [3,3,3,3,3,4,89,156,158] ts:=h
  simp only [Seq] at h
  obtain⟨_,_,rfl,h0,_,_,rfl,h1,_,_,rfl,h2,_,_,rfl,h3,_,_,rfl,h4,_,_,rfl,h5,_,_,rfl,h6,_,_,rfl,h7,_,_,rfl,h8,rfl⟩:=h
  obtain⟨x0,rfl,o0⟩:=(Zw Go.Proofs.Tryz.underlying3) d _ h0
  obtain⟨x1,rfl,o1⟩:=(Zw Go.Proofs.Tryz.underlying3) d _ h1
  obtain⟨x2,rfl,o2⟩:=(Zw Go.Proofs.Tryz.underlying3) d _ h2
  obtain⟨x3,rfl,o3⟩:=(Zw Go.Proofs.Tryz.underlying3) d _ h3
  obtain⟨x4,rfl,o4⟩:=(Zw Go.Proofs.Tryz.underlying3) d _ h4
  obtain⟨x5,rfl,o5⟩:=(Zfz Go.Proofs.Tryz.underlying4) d _ h5
  obtain⟨x6,rfl,o6⟩:=Zs8 d _ h6
  obtain⟨x7,rfl,o7⟩:=(Zek Go.Proofs.Tryz.underlying156 (by kernel_rfl:Go.Proofs.Tryz.prog.bytesOf 280=16) Zaom) d _ h7
  obtain⟨x8,rfl,o8⟩:=Z9a d _ h8
  exact⟨⟨x0,x1,x2,x3,x4,x5,x6,x7,x8⟩,by simp only [Zbt,List.append_nil],o0,o1,o2,o3,o4,o5,o6,o7,o8⟩
theorem Zakq:∀ (d:Nat) (ts:List Zd),WT Go.Proofs.Tryz.prog d 162 ts->∃ x,ts=Zbv x/\Zw4 x:=by
 intro d ts h
 cases d with
 | zero=>cases h
 | succ d=>
  simp only [WT,Go.Proofs.Tryz.underlying162] at h
  replace h:Seq (WT Go.Proofs.Tryz.prog d) [3,3,89,158] ts:=h
  simp only [Seq] at h
  obtain⟨_,_,rfl,h0,_,_,rfl,h1,_,_,rfl,h2,_,_,rfl,h3,rfl⟩:=h
  obtain⟨x0,rfl,o0⟩:=(Zw Go.Proofs.Tryz.underlying3) d _ h0
  obtain⟨x1,rfl,o1⟩:=(Zw Go.Proofs.Tryz.underlying3) d _ h1
  obtain⟨x2,rfl,o2⟩:=Zs8 d _ h2
  obtain⟨x3,rfl,o3⟩:=Z9a d _ h3
  exact⟨⟨x0,x1,x2,x3⟩,by simp only [Zbv,List.append_nil],o0,o1,o2,o3⟩
theorem Zas1:∀ (d:Nat) (ts:List Zd),WT Go.Proofs.Tryz.prog d 93 ts->∃ x,ts=Zca x/\Z7b x:=by
 intro d ts h
 cases d with
 | zero=>cases h
 | succ d=>
  simp only [WT,Go.Proofs.Tryz.underlying93] at h
  replace h:Seq (WT Go.Proofs.Tryz.prog d) [3,3,3,3,25,42] ts:=h
  simp only [Seq] at h
  obtain⟨_,_,rfl,h0,_,_,rfl,h1,_,_,rfl,h2,_,_,rfl,h3,_,_,rfl,h4,_,_,rfl,h5,rfl⟩:=h
  obtain⟨x0,rfl,o0⟩:=(Zw Go.Proofs.Tryz.underlying3) d _ h0
  obtain⟨x1,rfl,o1⟩:=(Zw Go.Proofs.Tryz.underlying3) d _ h1
  obtain⟨x2,rfl,o2⟩:=(Zw Go.Proofs.Tryz.underlying3) d _ h2
  obtain⟨x3,rfl,o3⟩:=(Zw Go.Proofs.Tryz.underlying3) d _ h3
  obtain⟨x4,rfl,o4⟩:=(Zek Go.Proofs.Tryz.underlying25 (by kernel_rfl:Go.Proofs.Tryz.prog.bytesOf 3=8) (Zw Go.Proofs.Tryz.underlying3)) d _ h4
  obtain⟨x5,rfl,o5⟩:=(Zek Go.Proofs.Tryz.underlying42 (by kernel_rfl:Go.Proofs.Tryz.prog.bytesOf 79=176) Z38) d _ h5
  exact⟨⟨x0,x1,x2,x3,x4,x5⟩,by simp only [Zca,List.append_nil],o0,o1,o2,o3,o4,o5⟩
theorem Zaqa:∀ (d:Nat) (ts:List Zd),WT Go.Proofs.Tryz.prog d 31 ts->∃ x,ts=Zaa x/\Zaei x:=by
 intro d ts h
 cases d with
 | zero=>cases h
 | succ d=>
  simp only [WT,Go.Proofs.Tryz.underlying31] at h
  replace h:Seq (WT Go.Proofs.Tryz.prog d) [23,24,25,25,26,27,28,3,3,3,4,3,3,3,3,29,25,3,3] ts:=h
  simp only [Seq] at h
  obtain⟨_,_,rfl,h0,_,_,rfl,h1,_,_,rfl,h2,_,_,rfl,h3,_,_,rfl,h4,_,_,rfl,h5,_,_,rfl,h6,_,_,rfl,h7,_,_,rfl,h8,_,_,rfl,h9,_,_,rfl,h10,_,_,rfl,h11,_,_,rfl,h12,_,_,rfl,h13,_,_,rfl,h14,_,_,rfl,h15,_,_,rfl,h16,_,_,rfl,h17,_,_,rfl,h18,rfl⟩:=h
  obtain⟨x0,rfl,o0⟩:=(Zek Go.Proofs.Tryz.underlying23 (by kernel_rfl:Go.Proofs.Tryz.prog.bytesOf 119=152) Zaok) d _ h0
  obtain⟨x1,rfl,o1⟩:=(Zek Go.Proofs.Tryz.underlying24 (by kernel_rfl:Go.Proofs.Tryz.prog.bytesOf 56=128) Zaol) d _ h1
  obtain⟨x2,rfl,o2⟩:=(Zek Go.Proofs.Tryz.underlying25 (by kernel_rfl:Go.Proofs.Tryz.prog.bytesOf 3=8) (Zw Go.Proofs.Tryz.underlying3)) d _ h2
  obtain⟨x3,rfl,o3⟩:=(Zek Go.Proofs.Tryz.underlying25 (by kernel_rfl:Go.Proofs.Tryz.prog.bytesOf 3=8) (Zw Go.Proofs.Tryz.underlying3)) d _ h3
  obtain⟨x4,rfl,o4⟩:=(Zek Go.Proofs.Tryz.underlying26 (by kernel_rfl:Go.Proofs.Tryz.prog.bytesOf 160=824) Zas0) d _ h4
  obtain⟨x5,rfl,o5⟩:=(Zek Go.Proofs.Tryz.underlying27 (by kernel_rfl:Go.Proofs.Tryz.prog.bytesOf 162=768) Zakq) d _ h5
  obtain⟨x6,rfl,o6⟩:=(Zek Go.Proofs.Tryz.underlying28 (by kernel_rfl:Go.Proofs.Tryz.prog.bytesOf 93=80) Zas1) d _ h6
  obtain⟨x7,rfl,o7⟩:=(Zw Go.Proofs.Tryz.underlying3) d _ h7
  obtain⟨x8,rfl,o8⟩:=(Zw Go.Proofs.Tryz.underlying3) d _ h8
  obtain⟨x9,rfl,o9⟩:=(Zw Go.Proofs.Tryz.underlying3) d _ h9
  obtain⟨x10,rfl,o10⟩:=(Zfz Go.Proofs.Tryz.underlying4) d _ h10
  obtain⟨x11,rfl,o11⟩:=(Zw Go.Proofs.Tryz.underlying3) d _ h11
  obtain⟨x12,rfl,o12⟩:=(Zw Go.Proofs.Tryz.underlying3) d _ h12
  obtain⟨x13,rfl,o13⟩:=(Zw Go.Proofs.Tryz.underlying3) d _ h13
  obtain⟨x14,rfl,o14⟩:=(Zw Go.Proofs.Tryz.underlying3) d _ h14
  obtain⟨x15,rfl,o15⟩:=(Zw Go.Proofs.Tryz.underlying29) d _ h15
  obtain⟨x16,rfl,o16⟩:=(Zek Go.Proofs.Tryz.underlying25 (by kernel_rfl:Go.Proofs.Tryz.prog.bytesOf 3=8) (Zw Go.Proofs.Tryz.underlying3)) d _ h16
  obtain⟨x17,rfl,o17⟩:=(Zw Go.Proofs.Tryz.underlying3) d _ h17
  obtain⟨x18,rfl,o18⟩:=(Zw Go.Proofs.Tryz.underlying3) d _ h18
  exact⟨⟨x0,x1,x2,x3,x4,x5,x6,x7,x8,x9,x10,x11,x12,x13,x14,x15,x16,x17,x18⟩,by simp only [Zaa,List.append_nil],o0,o1,o2,o3,o4,o5,o6,o7,o8,o9,o10,o11,o12,o13,o14,o15,o16,o17,o18⟩
end Go.PW
