import Derived.Test.YtchddhcajpagjaaGreatQT
import Derived.Test.YtchddhcajpagjaaGreatQE
set_option linter.all false
set_option maxRecDepth 100000
namespace Go.PW
open Go.RowKit
theorem Zaa0:∀ (d:Nat) (ts:List Zh),WT Go.Proofs.Tryz.prog d 60 ts->∃ x,ts=Zaf x/\Z5f x:=by
 intro d ts h
 cases d with
 | zero=>cases h
 | succ d=>
  simp only [WT,Go.Proofs.Tryz.underlying60] at h
  replace h:Seq (WT Go.Proofs.Tryz.prog d) [3,3,58] ts:=h
  simp only [Seq] at h
  obtain⟨_,_,rfl,h0,_,_,rfl,h1,_,_,rfl,h2,rfl⟩:=h
  obtain⟨x0,rfl,o0⟩:=(Zy Go.Proofs.Tryz.underlying3) d _ h0
  obtain⟨x1,rfl,o1⟩:=(Zy Go.Proofs.Tryz.underlying3) d _ h1
  obtain⟨x2,rfl,o2⟩:=(Zbk3 Go.Proofs.Tryz.underlying58 (Zy Go.Proofs.Tryz.underlying3)) d _ h2
  exact⟨⟨x0,x1,x2⟩,by simp only [Zaf,List.append_nil],o0,o1,o2⟩
theorem Zat3:∀ (d:Nat) (ts:List Zh),WT Go.Proofs.Tryz.prog d 63 ts->∃ x,ts=Zhg x/\Z5g x:=by
 intro d ts h
 cases d with
 | zero=>cases h
 | succ d=>
  simp only [WT,Go.Proofs.Tryz.underlying63] at h
  replace h:Seq (WT Go.Proofs.Tryz.prog d) [3,3,61] ts:=h
  simp only [Seq] at h
  obtain⟨_,_,rfl,h0,_,_,rfl,h1,_,_,rfl,h2,rfl⟩:=h
  obtain⟨x0,rfl,o0⟩:=(Zy Go.Proofs.Tryz.underlying3) d _ h0
  obtain⟨x1,rfl,o1⟩:=(Zy Go.Proofs.Tryz.underlying3) d _ h1
  obtain⟨x2,rfl,o2⟩:=(Zd9 Go.Proofs.Tryz.underlying61 (by kernel_rfl:Go.Proofs.Tryz.prog.bytesOf 9=16) (Zabq Go.Proofs.Tryz.underlying9)) d _ h2
  exact⟨⟨x0,x1,x2⟩,by simp only [Zhg,List.append_nil],o0,o1,o2⟩
theorem Zv0:∀ (d:Nat) (ts:List Zh),WT Go.Proofs.Tryz.prog d 39 ts->∃ x,ts=Zb3 x/\Zt6 x:=by
 intro d ts h
 cases d with
 | zero=>cases h
 | succ d=>
  simp only [WT,Go.Proofs.Tryz.underlying39] at h
  replace h:Seq (WT Go.Proofs.Tryz.prog d) [3,3] ts:=h
  simp only [Seq] at h
  obtain⟨_,_,rfl,h0,_,_,rfl,h1,rfl⟩:=h
  obtain⟨x0,rfl,o0⟩:=(Zy Go.Proofs.Tryz.underlying3) d _ h0
  obtain⟨x1,rfl,o1⟩:=(Zy Go.Proofs.Tryz.underlying3) d _ h1
  exact⟨⟨x0,x1⟩,by simp only [Zb3,List.append_nil],o0,o1⟩
theorem Zff:∀ (d:Nat) (ts:List Zh),WT Go.Proofs.Tryz.prog d 41 ts->∃ x,ts=Zo x/\Zep x:=by
 intro d ts h
 cases d with
 | zero=>cases h
 | succ d=>
  simp only [WT,Go.Proofs.Tryz.underlying41] at h
  replace h:Seq (WT Go.Proofs.Tryz.prog d) [3,3,3,3,3,3,3,9,3,3,39,39,39] ts:=h
  simp only [Seq] at h
  obtain⟨_,_,rfl,h0,_,_,rfl,h1,_,_,rfl,h2,_,_,rfl,h3,_,_,rfl,h4,_,_,rfl,h5,_,_,rfl,h6,_,_,rfl,h7,_,_,rfl,h8,_,_,rfl,h9,_,_,rfl,h10,_,_,rfl,h11,_,_,rfl,h12,rfl⟩:=h
  obtain⟨x0,rfl,o0⟩:=(Zy Go.Proofs.Tryz.underlying3) d _ h0
  obtain⟨x1,rfl,o1⟩:=(Zy Go.Proofs.Tryz.underlying3) d _ h1
  obtain⟨x2,rfl,o2⟩:=(Zy Go.Proofs.Tryz.underlying3) d _ h2
  obtain⟨x3,rfl,o3⟩:=(Zy Go.Proofs.Tryz.underlying3) d _ h3
  obtain⟨x4,rfl,o4⟩:=(Zy Go.Proofs.Tryz.underlying3) d _ h4
  obtain⟨x5,rfl,o5⟩:=(Zy Go.Proofs.Tryz.underlying3) d _ h5
  obtain⟨x6,rfl,o6⟩:=(Zy Go.Proofs.Tryz.underlying3) d _ h6
  obtain⟨x7,rfl,o7⟩:=(Zabq Go.Proofs.Tryz.underlying9) d _ h7
  obtain⟨x8,rfl,o8⟩:=(Zy Go.Proofs.Tryz.underlying3) d _ h8
  obtain⟨x9,rfl,o9⟩:=(Zy Go.Proofs.Tryz.underlying3) d _ h9
  obtain⟨x10,rfl,o10⟩:=Zv0 d _ h10
  obtain⟨x11,rfl,o11⟩:=Zv0 d _ h11
  obtain⟨x12,rfl,o12⟩:=Zv0 d _ h12
  exact⟨⟨x0,x1,x2,x3,x4,x5,x6,x7,x8,x9,x10,x11,x12⟩,by simp only [Zo,List.append_nil],o0,o1,o2,o3,o4,o5,o6,o7,o8,o9,o10,o11,o12⟩
theorem Z2d:∀ (d:Nat) (ts:List Zh),WT Go.Proofs.Tryz.prog d 79 ts->∃ x,ts=Zk x/\Zt7 x:=by
 intro d ts h
 cases d with
 | zero=>cases h
 | succ d=>
  simp only [WT,Go.Proofs.Tryz.underlying79] at h
  replace h:Seq (WT Go.Proofs.Tryz.prog d) [3,3,3,9,41] ts:=h
  simp only [Seq] at h
  obtain⟨_,_,rfl,h0,_,_,rfl,h1,_,_,rfl,h2,_,_,rfl,h3,_,_,rfl,h4,rfl⟩:=h
  obtain⟨x0,rfl,o0⟩:=(Zy Go.Proofs.Tryz.underlying3) d _ h0
  obtain⟨x1,rfl,o1⟩:=(Zy Go.Proofs.Tryz.underlying3) d _ h1
  obtain⟨x2,rfl,o2⟩:=(Zy Go.Proofs.Tryz.underlying3) d _ h2
  obtain⟨x3,rfl,o3⟩:=(Zabq Go.Proofs.Tryz.underlying9) d _ h3
  obtain⟨x4,rfl,o4⟩:=Zff d _ h4
  exact⟨⟨x0,x1,x2,x3,x4⟩,by simp only [Zk,List.append_nil],o0,o1,o2,o3,o4⟩
theorem Zaqj:∀ (d:Nat) (ts:List Zh),WT Go.Proofs.Tryz.prog d 81 ts->∃ x,ts=Zdk x/\Zadm x:=by
 intro d ts h
 cases d with
 | zero=>cases h
 | succ d=>
  simp only [WT,Go.Proofs.Tryz.underlying81] at h
  replace h:Seq (WT Go.Proofs.Tryz.prog d) [60,4,4,3] ts:=h
  simp only [Seq] at h
  obtain⟨_,_,rfl,h0,_,_,rfl,h1,_,_,rfl,h2,_,_,rfl,h3,rfl⟩:=h
  obtain⟨x0,rfl,o0⟩:=Zaa0 d _ h0
  obtain⟨x1,rfl,o1⟩:=(Zfh Go.Proofs.Tryz.underlying4) d _ h1
  obtain⟨x2,rfl,o2⟩:=(Zfh Go.Proofs.Tryz.underlying4) d _ h2
  obtain⟨x3,rfl,o3⟩:=(Zy Go.Proofs.Tryz.underlying3) d _ h3
  exact⟨⟨x0,x1,x2,x3⟩,by simp only [Zdk,List.append_nil],o0,o1,o2,o3⟩
theorem Zaj8:∀ (d:Nat) (ts:List Zh),WT Go.Proofs.Tryz.prog d 83 ts->∃ x,ts=Zb6 x/\Zvl x:=by
 intro d ts h
 cases d with
 | zero=>cases h
 | succ d=>
  simp only [WT,Go.Proofs.Tryz.underlying83] at h
  replace h:Seq (WT Go.Proofs.Tryz.prog d) [3,3,41] ts:=h
  simp only [Seq] at h
  obtain⟨_,_,rfl,h0,_,_,rfl,h1,_,_,rfl,h2,rfl⟩:=h
  obtain⟨x0,rfl,o0⟩:=(Zy Go.Proofs.Tryz.underlying3) d _ h0
  obtain⟨x1,rfl,o1⟩:=(Zy Go.Proofs.Tryz.underlying3) d _ h1
  obtain⟨x2,rfl,o2⟩:=Zff d _ h2
  exact⟨⟨x0,x1,x2⟩,by simp only [Zb6,List.append_nil],o0,o1,o2⟩
theorem Zat4:∀ (d:Nat) (ts:List Zh),WT Go.Proofs.Tryz.prog d 133 ts->∃ x,ts=Z9 x/\Z5h x:=by
 intro d ts h
 cases d with
 | zero=>cases h
 | succ d=>
  simp only [WT,Go.Proofs.Tryz.underlying133] at h
  replace h:Seq (WT Go.Proofs.Tryz.prog d) [4,4,41] ts:=h
  simp only [Seq] at h
  obtain⟨_,_,rfl,h0,_,_,rfl,h1,_,_,rfl,h2,rfl⟩:=h
  obtain⟨x0,rfl,o0⟩:=(Zfh Go.Proofs.Tryz.underlying4) d _ h0
  obtain⟨x1,rfl,o1⟩:=(Zfh Go.Proofs.Tryz.underlying4) d _ h1
  obtain⟨x2,rfl,o2⟩:=Zff d _ h2
  exact⟨⟨x0,x1,x2⟩,by simp only [Z9,List.append_nil],o0,o1,o2⟩
theorem Zaz0:∀ (d:Nat) (ts:List Zh),WT Go.Proofs.Tryz.prog d 136 ts->∃ x,ts=Zdf x/\Z8o x:=by
 intro d ts h
 cases d with
 | zero=>cases h
 | succ d=>
  simp only [WT,Go.Proofs.Tryz.underlying136] at h
  replace h:Seq (WT Go.Proofs.Tryz.prog d) [3,3,41] ts:=h
  simp only [Seq] at h
  obtain⟨_,_,rfl,h0,_,_,rfl,h1,_,_,rfl,h2,rfl⟩:=h
  obtain⟨x0,rfl,o0⟩:=(Zy Go.Proofs.Tryz.underlying3) d _ h0
  obtain⟨x1,rfl,o1⟩:=(Zy Go.Proofs.Tryz.underlying3) d _ h1
  obtain⟨x2,rfl,o2⟩:=Zff d _ h2
  exact⟨⟨x0,x1,x2⟩,by simp only [Zdf,List.append_nil],o0,o1,o2⟩
theorem Zaog:∀ (d:Nat) (ts:List Zh),WT Go.Proofs.Tryz.prog d 138 ts->∃ x,ts=Zap x/\Zyg x:=by
 intro d ts h
 cases d with
 | zero=>cases h
 | succ d=>
  simp only [WT,Go.Proofs.Tryz.underlying138] at h
  replace h:Seq (WT Go.Proofs.Tryz.prog d) [3,3,3,41] ts:=h
  simp only [Seq] at h
  obtain⟨_,_,rfl,h0,_,_,rfl,h1,_,_,rfl,h2,_,_,rfl,h3,rfl⟩:=h
  obtain⟨x0,rfl,o0⟩:=(Zy Go.Proofs.Tryz.underlying3) d _ h0
  obtain⟨x1,rfl,o1⟩:=(Zy Go.Proofs.Tryz.underlying3) d _ h1
  obtain⟨x2,rfl,o2⟩:=(Zy Go.Proofs.Tryz.underlying3) d _ h2
  obtain⟨x3,rfl,o3⟩:=Zff d _ h3
  exact⟨⟨x0,x1,x2,x3⟩,by simp only [Zap,List.append_nil],o0,o1,o2,o3⟩
theorem Zaoh:∀ (d:Nat) (ts:List Zh),WT Go.Proofs.Tryz.prog d 140 ts->∃ x,ts=Zq x/\Zyh x:=by
 intro d ts h
 cases d with
 | zero=>cases h
 | succ d=>
  simp only [WT,Go.Proofs.Tryz.underlying140] at h
  replace h:Seq (WT Go.Proofs.Tryz.prog d) [3,136,138,3,3,9,41,117,42] ts:=h
  simp only [Seq] at h
  obtain⟨_,_,rfl,h0,_,_,rfl,h1,_,_,rfl,h2,_,_,rfl,h3,_,_,rfl,h4,_,_,rfl,h5,_,_,rfl,h6,_,_,rfl,h7,_,_,rfl,h8,rfl⟩:=h
  obtain⟨x0,rfl,o0⟩:=(Zy Go.Proofs.Tryz.underlying3) d _ h0
  obtain⟨x1,rfl,o1⟩:=Zaz0 d _ h1
  obtain⟨x2,rfl,o2⟩:=Zaog d _ h2
  obtain⟨x3,rfl,o3⟩:=(Zy Go.Proofs.Tryz.underlying3) d _ h3
  obtain⟨x4,rfl,o4⟩:=(Zy Go.Proofs.Tryz.underlying3) d _ h4
  obtain⟨x5,rfl,o5⟩:=(Zabq Go.Proofs.Tryz.underlying9) d _ h5
  obtain⟨x6,rfl,o6⟩:=Zff d _ h6
  obtain⟨x7,rfl,o7⟩:=(Zbcw Go.Proofs.Tryz.underlying117 (Zy Go.Proofs.Tryz.underlying3)) d _ h7
  obtain⟨x8,rfl,o8⟩:=(Zd9 Go.Proofs.Tryz.underlying42 (by kernel_rfl:Go.Proofs.Tryz.prog.bytesOf 79=176) Z2d) d _ h8
  exact⟨⟨x0,x1,x2,x3,x4,x5,x6,x7,x8⟩,by simp only [Zq,List.append_nil],o0,o1,o2,o3,o4,o5,o6,o7,o8⟩
theorem Zaj9:∀ (d:Nat) (ts:List Zh),WT Go.Proofs.Tryz.prog d 87 ts->∃ x,ts=Zbf x/\Zvm x:=by
 intro d ts h
 cases d with
 | zero=>cases h
 | succ d=>
  simp only [WT,Go.Proofs.Tryz.underlying87] at h
  replace h:Seq (WT Go.Proofs.Tryz.prog d) [3,3,41,3,3,3,3] ts:=h
  simp only [Seq] at h
  obtain⟨_,_,rfl,h0,_,_,rfl,h1,_,_,rfl,h2,_,_,rfl,h3,_,_,rfl,h4,_,_,rfl,h5,_,_,rfl,h6,rfl⟩:=h
  obtain⟨x0,rfl,o0⟩:=(Zy Go.Proofs.Tryz.underlying3) d _ h0
  obtain⟨x1,rfl,o1⟩:=(Zy Go.Proofs.Tryz.underlying3) d _ h1
  obtain⟨x2,rfl,o2⟩:=Zff d _ h2
  obtain⟨x3,rfl,o3⟩:=(Zy Go.Proofs.Tryz.underlying3) d _ h3
  obtain⟨x4,rfl,o4⟩:=(Zy Go.Proofs.Tryz.underlying3) d _ h4
  obtain⟨x5,rfl,o5⟩:=(Zy Go.Proofs.Tryz.underlying3) d _ h5
  obtain⟨x6,rfl,o6⟩:=(Zy Go.Proofs.Tryz.underlying3) d _ h6
  exact⟨⟨x0,x1,x2,x3,x4,x5,x6⟩,by simp only [Zbf,List.append_nil],o0,o1,o2,o3,o4,o5,o6⟩
theorem Zsf:∀ (d:Nat) (ts:List Zh),WT Go.Proofs.Tryz.prog d 89 ts->∃ x,ts=Zi x/\Zma x:=by
 intro d ts h
 cases d with
 | zero=>cases h
 | succ d=>
  simp only [WT,Go.Proofs.Tryz.underlying89] at h
  replace h:Seq (WT Go.Proofs.Tryz.prog d) [3,41,42,81,4,83,4,84,85,87] ts:=h
  simp only [Seq] at h
  obtain⟨_,_,rfl,h0,_,_,rfl,h1,_,_,rfl,h2,_,_,rfl,h3,_,_,rfl,h4,_,_,rfl,h5,_,_,rfl,h6,_,_,rfl,h7,_,_,rfl,h8,_,_,rfl,h9,rfl⟩:=h
  obtain⟨x0,rfl,o0⟩:=(Zy Go.Proofs.Tryz.underlying3) d _ h0
  obtain⟨x1,rfl,o1⟩:=Zff d _ h1
  obtain⟨x2,rfl,o2⟩:=(Zd9 Go.Proofs.Tryz.underlying42 (by kernel_rfl:Go.Proofs.Tryz.prog.bytesOf 79=176) Z2d) d _ h2
  obtain⟨x3,rfl,o3⟩:=Zaqj d _ h3
  obtain⟨x4,rfl,o4⟩:=(Zfh Go.Proofs.Tryz.underlying4) d _ h4
  obtain⟨x5,rfl,o5⟩:=Zaj8 d _ h5
  obtain⟨x6,rfl,o6⟩:=(Zfh Go.Proofs.Tryz.underlying4) d _ h6
  obtain⟨x7,rfl,o7⟩:=(Zd9 Go.Proofs.Tryz.underlying84 (by kernel_rfl:Go.Proofs.Tryz.prog.bytesOf 133=144) Zat4) d _ h7
  obtain⟨x8,rfl,o8⟩:=(Zd9 Go.Proofs.Tryz.underlying85 (by kernel_rfl:Go.Proofs.Tryz.prog.bytesOf 140=560) Zaoh) d _ h8
  obtain⟨x9,rfl,o9⟩:=Zaj9 d _ h9
  exact⟨⟨x0,x1,x2,x3,x4,x5,x6,x7,x8,x9⟩,by simp only [Zi,List.append_nil],o0,o1,o2,o3,o4,o5,o6,o7,o8,o9⟩
theorem Zat5:∀ (d:Nat) (ts:List Zh),WT Go.Proofs.Tryz.prog d 77 ts->∃ x,ts=Zw x/\Zah4 x:=by
 intro d ts h
 cases d with
 | zero=>cases h
 | succ d=>
  simp only [WT,Go.Proofs.Tryz.underlying77] at h
  replace h:Seq (WT Go.Proofs.Tryz.prog d) [9,4,60,3,63,3,3,3,64] ts:=h
  simp only [Seq] at h
  obtain⟨_,_,rfl,h0,_,_,rfl,h1,_,_,rfl,h2,_,_,rfl,h3,_,_,rfl,h4,_,_,rfl,h5,_,_,rfl,h6,_,_,rfl,h7,_,_,rfl,h8,rfl⟩:=h
  obtain⟨x0,rfl,o0⟩:=(Zabq Go.Proofs.Tryz.underlying9) d _ h0
  obtain⟨x1,rfl,o1⟩:=(Zfh Go.Proofs.Tryz.underlying4) d _ h1
  obtain⟨x2,rfl,o2⟩:=Zaa0 d _ h2
  obtain⟨x3,rfl,o3⟩:=(Zy Go.Proofs.Tryz.underlying3) d _ h3
  obtain⟨x4,rfl,o4⟩:=Zat3 d _ h4
  obtain⟨x5,rfl,o5⟩:=(Zy Go.Proofs.Tryz.underlying3) d _ h5
  obtain⟨x6,rfl,o6⟩:=(Zy Go.Proofs.Tryz.underlying3) d _ h6
  obtain⟨x7,rfl,o7⟩:=(Zy Go.Proofs.Tryz.underlying3) d _ h7
  obtain⟨x8,rfl,o8⟩:=(Zd9 Go.Proofs.Tryz.underlying64 (by kernel_rfl:Go.Proofs.Tryz.prog.bytesOf 89=640) Zsf) d _ h8
  exact⟨⟨x0,x1,x2,x3,x4,x5,x6,x7,x8⟩,by simp only [Zw,List.append_nil],o0,o1,o2,o3,o4,o5,o6,o7,o8⟩
theorem Zaoi:∀ (d:Nat) (ts:List Zh),WT Go.Proofs.Tryz.prog d 119 ts->∃ x,ts=Zba x/\Zyi x:=by
 intro d ts h
 cases d with
 | zero=>cases h
 | succ d=>
  simp only [WT,Go.Proofs.Tryz.underlying119] at h
  replace h:Seq (WT Go.Proofs.Tryz.prog d) [3,3,3,117,4,4,25,25,25] ts:=h
  simp only [Seq] at h
  obtain⟨_,_,rfl,h0,_,_,rfl,h1,_,_,rfl,h2,_,_,rfl,h3,_,_,rfl,h4,_,_,rfl,h5,_,_,rfl,h6,_,_,rfl,h7,_,_,rfl,h8,rfl⟩:=h
  obtain⟨x0,rfl,o0⟩:=(Zy Go.Proofs.Tryz.underlying3) d _ h0
  obtain⟨x1,rfl,o1⟩:=(Zy Go.Proofs.Tryz.underlying3) d _ h1
  obtain⟨x2,rfl,o2⟩:=(Zy Go.Proofs.Tryz.underlying3) d _ h2
  obtain⟨x3,rfl,o3⟩:=(Zbcw Go.Proofs.Tryz.underlying117 (Zy Go.Proofs.Tryz.underlying3)) d _ h3
  obtain⟨x4,rfl,o4⟩:=(Zfh Go.Proofs.Tryz.underlying4) d _ h4
  obtain⟨x5,rfl,o5⟩:=(Zfh Go.Proofs.Tryz.underlying4) d _ h5
  obtain⟨x6,rfl,o6⟩:=(Zd9 Go.Proofs.Tryz.underlying25 (by kernel_rfl:Go.Proofs.Tryz.prog.bytesOf 3=8) (Zy Go.Proofs.Tryz.underlying3)) d _ h6
  obtain⟨x7,rfl,o7⟩:=(Zd9 Go.Proofs.Tryz.underlying25 (by kernel_rfl:Go.Proofs.Tryz.prog.bytesOf 3=8) (Zy Go.Proofs.Tryz.underlying3)) d _ h7
  obtain⟨x8,rfl,o8⟩:=(Zd9 Go.Proofs.Tryz.underlying25 (by kernel_rfl:Go.Proofs.Tryz.prog.bytesOf 3=8) (Zy Go.Proofs.Tryz.underlying3)) d _ h8
  exact⟨⟨x0,x1,x2,x3,x4,x5,x6,x7,x8⟩,by simp only [Zba,List.append_nil],o0,o1,o2,o3,o4,o5,o6,o7,o8⟩
theorem Zaoj:∀ (d:Nat) (ts:List Zh),WT Go.Proofs.Tryz.prog d 56 ts->∃ x,ts=Zn x/\Zaah x:=by
 intro d ts h
 cases d with
 | zero=>cases h
 | succ d=>
  simp only [WT,Go.Proofs.Tryz.underlying56] at h
  replace h:Seq (WT Go.Proofs.Tryz.prog d) [3,3,3,3,3,4,4,4,4,3,54,3,3,3,4,3,3] ts:=h
  simp only [Seq] at h
  obtain⟨_,_,rfl,h0,_,_,rfl,h1,_,_,rfl,h2,_,_,rfl,h3,_,_,rfl,h4,_,_,rfl,h5,_,_,rfl,h6,_,_,rfl,h7,_,_,rfl,h8,_,_,rfl,h9,_,_,rfl,h10,_,_,rfl,h11,_,_,rfl,h12,_,_,rfl,h13,_,_,rfl,h14,_,_,rfl,h15,_,_,rfl,h16,rfl⟩:=h
  obtain⟨x0,rfl,o0⟩:=(Zy Go.Proofs.Tryz.underlying3) d _ h0
  obtain⟨x1,rfl,o1⟩:=(Zy Go.Proofs.Tryz.underlying3) d _ h1
  obtain⟨x2,rfl,o2⟩:=(Zy Go.Proofs.Tryz.underlying3) d _ h2
  obtain⟨x3,rfl,o3⟩:=(Zy Go.Proofs.Tryz.underlying3) d _ h3
  obtain⟨x4,rfl,o4⟩:=(Zy Go.Proofs.Tryz.underlying3) d _ h4
  obtain⟨x5,rfl,o5⟩:=(Zfh Go.Proofs.Tryz.underlying4) d _ h5
  obtain⟨x6,rfl,o6⟩:=(Zfh Go.Proofs.Tryz.underlying4) d _ h6
  obtain⟨x7,rfl,o7⟩:=(Zfh Go.Proofs.Tryz.underlying4) d _ h7
  obtain⟨x8,rfl,o8⟩:=(Zfh Go.Proofs.Tryz.underlying4) d _ h8
  obtain⟨x9,rfl,o9⟩:=(Zy Go.Proofs.Tryz.underlying3) d _ h9
  obtain⟨x10,rfl,o10⟩:=(Zbcv Go.Proofs.Tryz.underlying54 (Zy Go.Proofs.Tryz.underlying3)) d _ h10
  obtain⟨x11,rfl,o11⟩:=(Zy Go.Proofs.Tryz.underlying3) d _ h11
  obtain⟨x12,rfl,o12⟩:=(Zy Go.Proofs.Tryz.underlying3) d _ h12
  obtain⟨x13,rfl,o13⟩:=(Zy Go.Proofs.Tryz.underlying3) d _ h13
  obtain⟨x14,rfl,o14⟩:=(Zfh Go.Proofs.Tryz.underlying4) d _ h14
  obtain⟨x15,rfl,o15⟩:=(Zy Go.Proofs.Tryz.underlying3) d _ h15
  obtain⟨x16,rfl,o16⟩:=(Zy Go.Proofs.Tryz.underlying3) d _ h16
  exact⟨⟨x0,x1,x2,x3,x4,x5,x6,x7,x8,x9,x10,x11,x12,x13,x14,x15,x16⟩,by simp only [Zn,List.append_nil],o0,o1,o2,o3,o4,o5,o6,o7,o8,o9,o10,o11,o12,o13,o14,o15,o16⟩
theorem Zaok:∀ (d:Nat) (ts:List Zh),WT Go.Proofs.Tryz.prog d 280 ts->∃ x,ts=Zor x/\Zaai x:=by
 intro d ts h
 cases d with
 | zero=>cases h
 | succ d=>
  simp only [WT,Go.Proofs.Tryz.underlying280] at h
  replace h:Seq (WT Go.Proofs.Tryz.prog d) [3,3] ts:=h
  simp only [Seq] at h
  obtain⟨_,_,rfl,h0,_,_,rfl,h1,rfl⟩:=h
  obtain⟨x0,rfl,o0⟩:=(Zy Go.Proofs.Tryz.underlying3) d _ h0
  obtain⟨x1,rfl,o1⟩:=(Zy Go.Proofs.Tryz.underlying3) d _ h1
  exact⟨⟨x0,x1⟩,by simp only [Zor,List.append_nil],o0,o1⟩
theorem Z7m:∀ (d:Nat) (ts:List Zh),WT Go.Proofs.Tryz.prog d 158 ts->∃ x,ts=Zqt x/\Z1q x:=by
 intro d ts h
 cases d with
 | zero=>cases h
 | succ d=>
  simp only [WT,Go.Proofs.Tryz.underlying158] at h
  replace h:Seq (WT Go.Proofs.Tryz.prog d) [3,3,3,3,3,3,3,3,3,3,4,4,54] ts:=h
  simp only [Seq] at h
  obtain⟨_,_,rfl,h0,_,_,rfl,h1,_,_,rfl,h2,_,_,rfl,h3,_,_,rfl,h4,_,_,rfl,h5,_,_,rfl,h6,_,_,rfl,h7,_,_,rfl,h8,_,_,rfl,h9,_,_,rfl,h10,_,_,rfl,h11,_,_,rfl,h12,rfl⟩:=h
  obtain⟨x0,rfl,o0⟩:=(Zy Go.Proofs.Tryz.underlying3) d _ h0
  obtain⟨x1,rfl,o1⟩:=(Zy Go.Proofs.Tryz.underlying3) d _ h1
  obtain⟨x2,rfl,o2⟩:=(Zy Go.Proofs.Tryz.underlying3) d _ h2
  obtain⟨x3,rfl,o3⟩:=(Zy Go.Proofs.Tryz.underlying3) d _ h3
  obtain⟨x4,rfl,o4⟩:=(Zy Go.Proofs.Tryz.underlying3) d _ h4
  obtain⟨x5,rfl,o5⟩:=(Zy Go.Proofs.Tryz.underlying3) d _ h5
  obtain⟨x6,rfl,o6⟩:=(Zy Go.Proofs.Tryz.underlying3) d _ h6
  obtain⟨x7,rfl,o7⟩:=(Zy Go.Proofs.Tryz.underlying3) d _ h7
  obtain⟨x8,rfl,o8⟩:=(Zy Go.Proofs.Tryz.underlying3) d _ h8
  obtain⟨x9,rfl,o9⟩:=(Zy Go.Proofs.Tryz.underlying3) d _ h9
  obtain⟨x10,rfl,o10⟩:=(Zfh Go.Proofs.Tryz.underlying4) d _ h10
  obtain⟨x11,rfl,o11⟩:=(Zfh Go.Proofs.Tryz.underlying4) d _ h11
  obtain⟨x12,rfl,o12⟩:=(Zbcv Go.Proofs.Tryz.underlying54 (Zy Go.Proofs.Tryz.underlying3)) d _ h12
  exact⟨⟨x0,x1,x2,x3,x4,x5,x6,x7,x8,x9,x10,x11,x12⟩,by simp only [Zqt,List.append_nil],o0,o1,o2,o3,o4,o5,o6,o7,o8,o9,o10,o11,o12⟩
theorem Zat6:∀ (d:Nat) (ts:List Zh),WT Go.Proofs.Tryz.prog d 160 ts->∃ x,ts=Zbj x/\Z5i x:=by
 intro d ts h
 cases d with
 | zero=>cases h
 | succ d=>
  simp only [WT,Go.Proofs.Tryz.underlying160] at h
  replace h:Seq (WT Go.Proofs.Tryz.prog d) [3,3,3,3,3,4,89,156,158] ts:=h
  simp only [Seq] at h
  obtain⟨_,_,rfl,h0,_,_,rfl,h1,_,_,rfl,h2,_,_,rfl,h3,_,_,rfl,h4,_,_,rfl,h5,_,_,rfl,h6,_,_,rfl,h7,_,_,rfl,h8,rfl⟩:=h
  obtain⟨x0,rfl,o0⟩:=(Zy Go.Proofs.Tryz.underlying3) d _ h0
  obtain⟨x1,rfl,o1⟩:=(Zy Go.Proofs.Tryz.underlying3) d _ h1
  obtain⟨x2,rfl,o2⟩:=(Zy Go.Proofs.Tryz.underlying3) d _ h2
  obtain⟨x3,rfl,o3⟩:=(Zy Go.Proofs.Tryz.underlying3) d _ h3
  obtain⟨x4,rfl,o4⟩:=(Zy Go.Proofs.Tryz.underlying3) d _ h4
  obtain⟨x5,rfl,o5⟩:=(Zfh Go.Proofs.Tryz.underlying4) d _ h5
  obtain⟨x6,rfl,o6⟩:=Zsf d _ h6
  obtain⟨x7,rfl,o7⟩:=(Zd9 Go.Proofs.Tryz.underlying156 (by kernel_rfl:Go.Proofs.Tryz.prog.bytesOf 280=16) Zaok) d _ h7
  obtain⟨x8,rfl,o8⟩:=Z7m d _ h8
  exact⟨⟨x0,x1,x2,x3,x4,x5,x6,x7,x8⟩,by simp only [Zbj,List.append_nil],o0,o1,o2,o3,o4,o5,o6,o7,o8⟩
theorem Zaka:∀ (d:Nat) (ts:List Zh),WT Go.Proofs.Tryz.prog d 162 ts->∃ x,ts=Zbl x/\Zvn x:=by
 intro d ts h
 cases d with
 | zero=>cases h
 | succ d=>
  simp only [WT,Go.Proofs.Tryz.underlying162] at h
  replace h:Seq (WT Go.Proofs.Tryz.prog d) [3,3,89,158] ts:=h
  simp only [Seq] at h
  obtain⟨_,_,rfl,h0,_,_,rfl,h1,_,_,rfl,h2,_,_,rfl,h3,rfl⟩:=h
  obtain⟨x0,rfl,o0⟩:=(Zy Go.Proofs.Tryz.underlying3) d _ h0
  obtain⟨x1,rfl,o1⟩:=(Zy Go.Proofs.Tryz.underlying3) d _ h1
  obtain⟨x2,rfl,o2⟩:=Zsf d _ h2
  obtain⟨x3,rfl,o3⟩:=Z7m d _ h3
  exact⟨⟨x0,x1,x2,x3⟩,by simp only [Zbl,List.append_nil],o0,o1,o2,o3⟩
theorem Zat7:∀ (d:Nat) (ts:List Zh),WT Go.Proofs.Tryz.prog d 93 ts->∃ x,ts=Zbx x/\Z5j x:=by
 intro d ts h
 cases d with
 | zero=>cases h
 | succ d=>
  simp only [WT,Go.Proofs.Tryz.underlying93] at h
  replace h:Seq (WT Go.Proofs.Tryz.prog d) [3,3,3,3,25,42] ts:=h
  simp only [Seq] at h
  obtain⟨_,_,rfl,h0,_,_,rfl,h1,_,_,rfl,h2,_,_,rfl,h3,_,_,rfl,h4,_,_,rfl,h5,rfl⟩:=h
  obtain⟨x0,rfl,o0⟩:=(Zy Go.Proofs.Tryz.underlying3) d _ h0
  obtain⟨x1,rfl,o1⟩:=(Zy Go.Proofs.Tryz.underlying3) d _ h1
  obtain⟨x2,rfl,o2⟩:=(Zy Go.Proofs.Tryz.underlying3) d _ h2
  obtain⟨x3,rfl,o3⟩:=(Zy Go.Proofs.Tryz.underlying3) d _ h3
  obtain⟨x4,rfl,o4⟩:=(Zd9 Go.Proofs.Tryz.underlying25 (by kernel_rfl:Go.Proofs.Tryz.prog.bytesOf 3=8) (Zy Go.Proofs.Tryz.underlying3)) d _ h4
  obtain⟨x5,rfl,o5⟩:=(Zd9 Go.Proofs.Tryz.underlying42 (by kernel_rfl:Go.Proofs.Tryz.prog.bytesOf 79=176) Z2d) d _ h5
  exact⟨⟨x0,x1,x2,x3,x4,x5⟩,by simp only [Zbx,List.append_nil],o0,o1,o2,o3,o4,o5⟩
theorem Zaqk:∀ (d:Nat) (ts:List Zh),WT Go.Proofs.Tryz.prog d 31 ts->∃ x,ts=Zae x/\Zadn x:=by
 intro d ts h
 cases d with
 | zero=>cases h
 | succ d=>
  simp only [WT,Go.Proofs.Tryz.underlying31] at h
  replace h:Seq (WT Go.Proofs.Tryz.prog d) [23,24,25,25,26,27,28,3,3,3,4,3,3,3,3,29,25,3,3] ts:=h
  simp only [Seq] at h
  obtain⟨_,_,rfl,h0,_,_,rfl,h1,_,_,rfl,h2,_,_,rfl,h3,_,_,rfl,h4,_,_,rfl,h5,_,_,rfl,h6,_,_,rfl,h7,_,_,rfl,h8,_,_,rfl,h9,_,_,rfl,h10,_,_,rfl,h11,_,_,rfl,h12,_,_,rfl,h13,_,_,rfl,h14,_,_,rfl,h15,_,_,rfl,h16,_,_,rfl,h17,_,_,rfl,h18,rfl⟩:=h
  obtain⟨x0,rfl,o0⟩:=(Zd9 Go.Proofs.Tryz.underlying23 (by kernel_rfl:Go.Proofs.Tryz.prog.bytesOf 119=152) Zaoi) d _ h0
  obtain⟨x1,rfl,o1⟩:=(Zd9 Go.Proofs.Tryz.underlying24 (by kernel_rfl:Go.Proofs.Tryz.prog.bytesOf 56=128) Zaoj) d _ h1
  obtain⟨x2,rfl,o2⟩:=(Zd9 Go.Proofs.Tryz.underlying25 (by kernel_rfl:Go.Proofs.Tryz.prog.bytesOf 3=8) (Zy Go.Proofs.Tryz.underlying3)) d _ h2
  obtain⟨x3,rfl,o3⟩:=(Zd9 Go.Proofs.Tryz.underlying25 (by kernel_rfl:Go.Proofs.Tryz.prog.bytesOf 3=8) (Zy Go.Proofs.Tryz.underlying3)) d _ h3
  obtain⟨x4,rfl,o4⟩:=(Zd9 Go.Proofs.Tryz.underlying26 (by kernel_rfl:Go.Proofs.Tryz.prog.bytesOf 160=824) Zat6) d _ h4
  obtain⟨x5,rfl,o5⟩:=(Zd9 Go.Proofs.Tryz.underlying27 (by kernel_rfl:Go.Proofs.Tryz.prog.bytesOf 162=768) Zaka) d _ h5
  obtain⟨x6,rfl,o6⟩:=(Zd9 Go.Proofs.Tryz.underlying28 (by kernel_rfl:Go.Proofs.Tryz.prog.bytesOf 93=80) Zat7) d _ h6
  obtain⟨x7,rfl,o7⟩:=(Zy Go.Proofs.Tryz.underlying3) d _ h7
  obtain⟨x8,rfl,o8⟩:=(Zy Go.Proofs.Tryz.underlying3) d _ h8
  obtain⟨x9,rfl,o9⟩:=(Zy Go.Proofs.Tryz.underlying3) d _ h9
  obtain⟨x10,rfl,o10⟩:=(Zfh Go.Proofs.Tryz.underlying4) d _ h10
  obtain⟨x11,rfl,o11⟩:=(Zy Go.Proofs.Tryz.underlying3) d _ h11
  obtain⟨x12,rfl,o12⟩:=(Zy Go.Proofs.Tryz.underlying3) d _ h12
  obtain⟨x13,rfl,o13⟩:=(Zy Go.Proofs.Tryz.underlying3) d _ h13
  obtain⟨x14,rfl,o14⟩:=(Zy Go.Proofs.Tryz.underlying3) d _ h14
  obtain⟨x15,rfl,o15⟩:=(Zy Go.Proofs.Tryz.underlying29) d _ h15
  obtain⟨x16,rfl,o16⟩:=(Zd9 Go.Proofs.Tryz.underlying25 (by kernel_rfl:Go.Proofs.Tryz.prog.bytesOf 3=8) (Zy Go.Proofs.Tryz.underlying3)) d _ h16
  obtain⟨x17,rfl,o17⟩:=(Zy Go.Proofs.Tryz.underlying3) d _ h17
  obtain⟨x18,rfl,o18⟩:=(Zy Go.Proofs.Tryz.underlying3) d _ h18
  exact⟨⟨x0,x1,x2,x3,x4,x5,x6,x7,x8,x9,x10,x11,x12,x13,x14,x15,x16,x17,x18⟩,by simp only [Zae,List.append_nil],o0,o1,o2,o3,o4,o5,o6,o7,o8,o9,o10,o11,o12,o13,o14,o15,o16,o17,o18⟩
end Go.PW
