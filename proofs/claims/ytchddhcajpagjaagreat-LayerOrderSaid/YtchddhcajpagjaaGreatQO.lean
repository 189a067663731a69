import Derived.Test.YtchddhcajpagjaaGreatQT
import Derived.Test.YtchddhcajpagjaaGreatQE
set_option linter.all false
set_option maxRecDepth 100000
namespace Go.PW
open Go.Proofs.Tryz
open Go.RowKit
theorem Zaat:∀ (d:Nat) (ts:List Zf),WT Go.Proofs.Tryz.prog d 60 ts->∃ x,ts=Zah x/\Z5a x:=by
 intro d ts h
 cases d with
 | zero=>cases h
 | succ d=>
  simp only [WT,underlying60] at h
  replace h:Seq (WT Go.Proofs.Tryz.prog d) [3,3,58] ts:=h
  simp only [Seq] at h
  obtain⟨_,_,rfl,h0,_,_,rfl,h1,_,_,rfl,h2,rfl⟩:=h
  obtain⟨x0,rfl,o0⟩:=(Zu underlying3) d _ h0
  obtain⟨x1,rfl,o1⟩:=(Zu underlying3) d _ h1
  obtain⟨x2,rfl,o2⟩:=(Zbky underlying58 (Zu underlying3)) d _ h2
  exact⟨⟨x0,x1,x2⟩,by simp only [Zah,List.append_nil],o0,o1,o2⟩
theorem Zatt:∀ (d:Nat) (ts:List Zf),WT Go.Proofs.Tryz.prog d 63 ts->∃ x,ts=Zhd x/\Z5b x:=by
 intro d ts h
 cases d with
 | zero=>cases h
 | succ d=>
  simp only [WT,underlying63] at h
  replace h:Seq (WT Go.Proofs.Tryz.prog d) [3,3,61] ts:=h
  simp only [Seq] at h
  obtain⟨_,_,rfl,h0,_,_,rfl,h1,_,_,rfl,h2,rfl⟩:=h
  obtain⟨x0,rfl,o0⟩:=(Zu underlying3) d _ h0
  obtain⟨x1,rfl,o1⟩:=(Zu underlying3) d _ h1
  obtain⟨x2,rfl,o2⟩:=(Zd9 underlying61 (by kernel_rfl:Go.Proofs.Tryz.prog.bytesOf 9=16) (Zabj underlying9)) d _ h2
  exact⟨⟨x0,x1,x2⟩,by simp only [Zhd,List.append_nil],o0,o1,o2⟩
theorem Zvw:∀ (d:Nat) (ts:List Zf),WT Go.Proofs.Tryz.prog d 39 ts->∃ x,ts=Zb4 x/\Zt2 x:=by
 intro d ts h
 cases d with
 | zero=>cases h
 | succ d=>
  simp only [WT,underlying39] at h
  replace h:Seq (WT Go.Proofs.Tryz.prog d) [3,3] ts:=h
  simp only [Seq] at h
  obtain⟨_,_,rfl,h0,_,_,rfl,h1,rfl⟩:=h
  obtain⟨x0,rfl,o0⟩:=(Zu underlying3) d _ h0
  obtain⟨x1,rfl,o1⟩:=(Zu underlying3) d _ h1
  exact⟨⟨x0,x1⟩,by simp only [Zb4,List.append_nil],o0,o1⟩
theorem Zfe:∀ (d:Nat) (ts:List Zf),WT Go.Proofs.Tryz.prog d 41 ts->∃ x,ts=Zo x/\Zep x:=by
 intro d ts h
 cases d with
 | zero=>cases h
 | succ d=>
  simp only [WT,underlying41] at h
  replace h:Seq (WT Go.Proofs.Tryz.prog d) [3,3,3,3,3,3,3,9,3,3,39,39,39] ts:=h
  simp only [Seq] at h
  obtain⟨_,_,rfl,h0,_,_,rfl,h1,_,_,rfl,h2,_,_,rfl,h3,_,_,rfl,h4,_,_,rfl,h5,_,_,rfl,h6,_,_,rfl,h7,_,_,rfl,h8,_,_,rfl,h9,_,_,rfl,h10,_,_,rfl,h11,_,_,rfl,h12,rfl⟩:=h
  obtain⟨x0,rfl,o0⟩:=(Zu underlying3) d _ h0
  obtain⟨x1,rfl,o1⟩:=(Zu underlying3) d _ h1
  obtain⟨x2,rfl,o2⟩:=(Zu underlying3) d _ h2
  obtain⟨x3,rfl,o3⟩:=(Zu underlying3) d _ h3
  obtain⟨x4,rfl,o4⟩:=(Zu underlying3) d _ h4
  obtain⟨x5,rfl,o5⟩:=(Zu underlying3) d _ h5
  obtain⟨x6,rfl,o6⟩:=(Zu underlying3) d _ h6
  obtain⟨x7,rfl,o7⟩:=(Zabj underlying9) d _ h7
  obtain⟨x8,rfl,o8⟩:=(Zu underlying3) d _ h8
  obtain⟨x9,rfl,o9⟩:=(Zu underlying3) d _ h9
  obtain⟨x10,rfl,o10⟩:=Zvw d _ h10
  obtain⟨x11,rfl,o11⟩:=Zvw d _ h11
  obtain⟨x12,rfl,o12⟩:=Zvw d _ h12
  exact⟨⟨x0,x1,x2,x3,x4,x5,x6,x7,x8,x9,x10,x11,x12⟩,by simp only [Zo,List.append_nil],o0,o1,o2,o3,o4,o5,o6,o7,o8,o9,o10,o11,o12⟩
theorem Z19:∀ (d:Nat) (ts:List Zf),WT Go.Proofs.Tryz.prog d 79 ts->∃ x,ts=Zl x/\Zt3 x:=by
 intro d ts h
 cases d with
 | zero=>cases h
 | succ d=>
  simp only [WT,underlying79] at h
  replace h:Seq (WT Go.Proofs.Tryz.prog d) [3,3,3,9,41] ts:=h
  simp only [Seq] at h
  obtain⟨_,_,rfl,h0,_,_,rfl,h1,_,_,rfl,h2,_,_,rfl,h3,_,_,rfl,h4,rfl⟩:=h
  obtain⟨x0,rfl,o0⟩:=(Zu underlying3) d _ h0
  obtain⟨x1,rfl,o1⟩:=(Zu underlying3) d _ h1
  obtain⟨x2,rfl,o2⟩:=(Zu underlying3) d _ h2
  obtain⟨x3,rfl,o3⟩:=(Zabj underlying9) d _ h3
  obtain⟨x4,rfl,o4⟩:=Zfe d _ h4
  exact⟨⟨x0,x1,x2,x3,x4⟩,by simp only [Zl,List.append_nil],o0,o1,o2,o3,o4⟩
theorem Zaqf:∀ (d:Nat) (ts:List Zf),WT Go.Proofs.Tryz.prog d 81 ts->∃ x,ts=Zdk x/\Zadg x:=by
 intro d ts h
 cases d with
 | zero=>cases h
 | succ d=>
  simp only [WT,underlying81] at h
  replace h:Seq (WT Go.Proofs.Tryz.prog d) [60,4,4,3] ts:=h
  simp only [Seq] at h
  obtain⟨_,_,rfl,h0,_,_,rfl,h1,_,_,rfl,h2,_,_,rfl,h3,rfl⟩:=h
  obtain⟨x0,rfl,o0⟩:=Zaat d _ h0
  obtain⟨x1,rfl,o1⟩:=(Zfg underlying4) d _ h1
  obtain⟨x2,rfl,o2⟩:=(Zfg underlying4) d _ h2
  obtain⟨x3,rfl,o3⟩:=(Zu underlying3) d _ h3
  exact⟨⟨x0,x1,x2,x3⟩,by simp only [Zdk,List.append_nil],o0,o1,o2,o3⟩
theorem Zaj1:∀ (d:Nat) (ts:List Zf),WT Go.Proofs.Tryz.prog d 83 ts->∃ x,ts=Zb8 x/\Zvh x:=by
 intro d ts h
 cases d with
 | zero=>cases h
 | succ d=>
  simp only [WT,underlying83] at h
  replace h:Seq (WT Go.Proofs.Tryz.prog d) [3,3,41] ts:=h
  simp only [Seq] at h
  obtain⟨_,_,rfl,h0,_,_,rfl,h1,_,_,rfl,h2,rfl⟩:=h
  obtain⟨x0,rfl,o0⟩:=(Zu underlying3) d _ h0
  obtain⟨x1,rfl,o1⟩:=(Zu underlying3) d _ h1
  obtain⟨x2,rfl,o2⟩:=Zfe d _ h2
  exact⟨⟨x0,x1,x2⟩,by simp only [Zb8,List.append_nil],o0,o1,o2⟩
theorem Zatu:∀ (d:Nat) (ts:List Zf),WT Go.Proofs.Tryz.prog d 133 ts->∃ x,ts=Zad x/\Z5c x:=by
 intro d ts h
 cases d with
 | zero=>cases h
 | succ d=>
  simp only [WT,underlying133] at h
  replace h:Seq (WT Go.Proofs.Tryz.prog d) [4,4,41] ts:=h
  simp only [Seq] at h
  obtain⟨_,_,rfl,h0,_,_,rfl,h1,_,_,rfl,h2,rfl⟩:=h
  obtain⟨x0,rfl,o0⟩:=(Zfg underlying4) d _ h0
  obtain⟨x1,rfl,o1⟩:=(Zfg underlying4) d _ h1
  obtain⟨x2,rfl,o2⟩:=Zfe d _ h2
  exact⟨⟨x0,x1,x2⟩,by simp only [Zad,List.append_nil],o0,o1,o2⟩
theorem Zazo:∀ (d:Nat) (ts:List Zf),WT Go.Proofs.Tryz.prog d 136 ts->∃ x,ts=Zdf x/\Z8j x:=by
 intro d ts h
 cases d with
 | zero=>cases h
 | succ d=>
  simp only [WT,underlying136] at h
  replace h:Seq (WT Go.Proofs.Tryz.prog d) [3,3,41] ts:=h
  simp only [Seq] at h
  obtain⟨_,_,rfl,h0,_,_,rfl,h1,_,_,rfl,h2,rfl⟩:=h
  obtain⟨x0,rfl,o0⟩:=(Zu underlying3) d _ h0
  obtain⟨x1,rfl,o1⟩:=(Zu underlying3) d _ h1
  obtain⟨x2,rfl,o2⟩:=Zfe d _ h2
  exact⟨⟨x0,x1,x2⟩,by simp only [Zdf,List.append_nil],o0,o1,o2⟩
theorem Zaob:∀ (d:Nat) (ts:List Zf),WT Go.Proofs.Tryz.prog d 138 ts->∃ x,ts=Zaq x/\Zya x:=by
 intro d ts h
 cases d with
 | zero=>cases h
 | succ d=>
  simp only [WT,underlying138] at h
  replace h:Seq (WT Go.Proofs.Tryz.prog d) [3,3,3,41] ts:=h
  simp only [Seq] at h
  obtain⟨_,_,rfl,h0,_,_,rfl,h1,_,_,rfl,h2,_,_,rfl,h3,rfl⟩:=h
  obtain⟨x0,rfl,o0⟩:=(Zu underlying3) d _ h0
  obtain⟨x1,rfl,o1⟩:=(Zu underlying3) d _ h1
  obtain⟨x2,rfl,o2⟩:=(Zu underlying3) d _ h2
  obtain⟨x3,rfl,o3⟩:=Zfe d _ h3
  exact⟨⟨x0,x1,x2,x3⟩,by simp only [Zaq,List.append_nil],o0,o1,o2,o3⟩
theorem Zaoc:∀ (d:Nat) (ts:List Zf),WT Go.Proofs.Tryz.prog d 140 ts->∃ x,ts=Zq x/\Zyb x:=by
 intro d ts h
 cases d with
 | zero=>cases h
 | succ d=>
  simp only [WT,underlying140] at h
  replace h:Seq (WT Go.Proofs.Tryz.prog d) [3,136,138,3,3,9,41,117,42] ts:=h
  simp only [Seq] at h
  obtain⟨_,_,rfl,h0,_,_,rfl,h1,_,_,rfl,h2,_,_,rfl,h3,_,_,rfl,h4,_,_,rfl,h5,_,_,rfl,h6,_,_,rfl,h7,_,_,rfl,h8,rfl⟩:=h
  obtain⟨x0,rfl,o0⟩:=(Zu underlying3) d _ h0
  obtain⟨x1,rfl,o1⟩:=Zazo d _ h1
  obtain⟨x2,rfl,o2⟩:=Zaob d _ h2
  obtain⟨x3,rfl,o3⟩:=(Zu underlying3) d _ h3
  obtain⟨x4,rfl,o4⟩:=(Zu underlying3) d _ h4
  obtain⟨x5,rfl,o5⟩:=(Zabj underlying9) d _ h5
  obtain⟨x6,rfl,o6⟩:=Zfe d _ h6
  obtain⟨x7,rfl,o7⟩:=(Zbcm underlying117 (Zu underlying3)) d _ h7
  obtain⟨x8,rfl,o8⟩:=(Zd9 underlying42 (by kernel_rfl:Go.Proofs.Tryz.prog.bytesOf 79=176) Z19) d _ h8
  exact⟨⟨x0,x1,x2,x3,x4,x5,x6,x7,x8⟩,by simp only [Zq,List.append_nil],o0,o1,o2,o3,o4,o5,o6,o7,o8⟩
theorem Zaj2:∀ (d:Nat) (ts:List Zf),WT Go.Proofs.Tryz.prog d 87 ts->∃ x,ts=Zbh x/\Zvi x:=by
 intro d ts h
 cases d with
 | zero=>cases h
 | succ d=>
  simp only [WT,underlying87] at h
  replace h:Seq (WT Go.Proofs.Tryz.prog d) [3,3,41,3,3,3,3] ts:=h
  simp only [Seq] at h
  obtain⟨_,_,rfl,h0,_,_,rfl,h1,_,_,rfl,h2,_,_,rfl,h3,_,_,rfl,h4,_,_,rfl,h5,_,_,rfl,h6,rfl⟩:=h
  obtain⟨x0,rfl,o0⟩:=(Zu underlying3) d _ h0
  obtain⟨x1,rfl,o1⟩:=(Zu underlying3) d _ h1
  obtain⟨x2,rfl,o2⟩:=Zfe d _ h2
  obtain⟨x3,rfl,o3⟩:=(Zu underlying3) d _ h3
  obtain⟨x4,rfl,o4⟩:=(Zu underlying3) d _ h4
  obtain⟨x5,rfl,o5⟩:=(Zu underlying3) d _ h5
  obtain⟨x6,rfl,o6⟩:=(Zu underlying3) d _ h6
  exact⟨⟨x0,x1,x2,x3,x4,x5,x6⟩,by simp only [Zbh,List.append_nil],o0,o1,o2,o3,o4,o5,o6⟩
theorem Zsc:∀ (d:Nat) (ts:List Zf),WT Go.Proofs.Tryz.prog d 89 ts->∃ x,ts=Zj x/\Zma x:=by
 intro d ts h
 cases d with
 | zero=>cases h
 | succ d=>
  simp only [WT,underlying89] at h
  replace h:Seq (WT Go.Proofs.Tryz.prog d) [3,41,42,81,4,83,4,84,85,87] ts:=h
  simp only [Seq] at h
  obtain⟨_,_,rfl,h0,_,_,rfl,h1,_,_,rfl,h2,_,_,rfl,h3,_,_,rfl,h4,_,_,rfl,h5,_,_,rfl,h6,_,_,rfl,h7,_,_,rfl,h8,_,_,rfl,h9,rfl⟩:=h
  obtain⟨x0,rfl,o0⟩:=(Zu underlying3) d _ h0
  obtain⟨x1,rfl,o1⟩:=Zfe d _ h1
  obtain⟨x2,rfl,o2⟩:=(Zd9 underlying42 (by kernel_rfl:Go.Proofs.Tryz.prog.bytesOf 79=176) Z19) d _ h2
  obtain⟨x3,rfl,o3⟩:=Zaqf d _ h3
  obtain⟨x4,rfl,o4⟩:=(Zfg underlying4) d _ h4
  obtain⟨x5,rfl,o5⟩:=Zaj1 d _ h5
  obtain⟨x6,rfl,o6⟩:=(Zfg underlying4) d _ h6
  obtain⟨x7,rfl,o7⟩:=(Zd9 underlying84 (by kernel_rfl:Go.Proofs.Tryz.prog.bytesOf 133=144) Zatu) d _ h7
  obtain⟨x8,rfl,o8⟩:=(Zd9 underlying85 (by kernel_rfl:Go.Proofs.Tryz.prog.bytesOf 140=560) Zaoc) d _ h8
  obtain⟨x9,rfl,o9⟩:=Zaj2 d _ h9
  exact⟨⟨x0,x1,x2,x3,x4,x5,x6,x7,x8,x9⟩,by simp only [Zj,List.append_nil],o0,o1,o2,o3,o4,o5,o6,o7,o8,o9⟩
theorem Zatv:∀ (d:Nat) (ts:List Zf),WT Go.Proofs.Tryz.prog d 77 ts->∃ x,ts=Z6 x/\Zahw x:=by
 intro d ts h
 cases d with
 | zero=>cases h
 | succ d=>
  simp only [WT,underlying77] at h
  replace h:Seq (WT Go.Proofs.Tryz.prog d) [9,4,60,3,63,3,3,3,64] ts:=h
  simp only [Seq] at h
  obtain⟨_,_,rfl,h0,_,_,rfl,h1,_,_,rfl,h2,_,_,rfl,h3,_,_,rfl,h4,_,_,rfl,h5,_,_,rfl,h6,_,_,rfl,h7,_,_,rfl,h8,rfl⟩:=h
  obtain⟨x0,rfl,o0⟩:=(Zabj underlying9) d _ h0
  obtain⟨x1,rfl,o1⟩:=(Zfg underlying4) d _ h1
  obtain⟨x2,rfl,o2⟩:=Zaat d _ h2
  obtain⟨x3,rfl,o3⟩:=(Zu underlying3) d _ h3
  obtain⟨x4,rfl,o4⟩:=Zatt d _ h4
  obtain⟨x5,rfl,o5⟩:=(Zu underlying3) d _ h5
  obtain⟨x6,rfl,o6⟩:=(Zu underlying3) d _ h6
  obtain⟨x7,rfl,o7⟩:=(Zu underlying3) d _ h7
  obtain⟨x8,rfl,o8⟩:=(Zd9 underlying64 (by kernel_rfl:Go.Proofs.Tryz.prog.bytesOf 89=640) Zsc) d _ h8
  exact⟨⟨x0,x1,x2,x3,x4,x5,x6,x7,x8⟩,by simp only [Z6,List.append_nil],o0,o1,o2,o3,o4,o5,o6,o7,o8⟩
theorem Zaod:∀ (d:Nat) (ts:List Zf),WT Go.Proofs.Tryz.prog d 119 ts->∃ x,ts=Zbc x/\Zyc x:=by
 intro d ts h
 cases d with
 | zero=>cases h
 | succ d=>
  simp only [WT,underlying119] at h
  replace h:Seq (WT Go.Proofs.Tryz.prog d) [3,3,3,117,4,4,25,25,25] ts:=h
  simp only [Seq] at h
  obtain⟨_,_,rfl,h0,_,_,rfl,h1,_,_,rfl,h2,_,_,rfl,h3,_,_,rfl,h4,_,_,rfl,h5,_,_,rfl,h6,_,_,rfl,h7,_,_,rfl,h8,rfl⟩:=h
  obtain⟨x0,rfl,o0⟩:=(Zu underlying3) d _ h0
  obtain⟨x1,rfl,o1⟩:=(Zu underlying3) d _ h1
  obtain⟨x2,rfl,o2⟩:=(Zu underlying3) d _ h2
  obtain⟨x3,rfl,o3⟩:=(Zbcm underlying117 (Zu underlying3)) d _ h3
  obtain⟨x4,rfl,o4⟩:=(Zfg underlying4) d _ h4
  obtain⟨x5,rfl,o5⟩:=(Zfg underlying4) d _ h5
  obtain⟨x6,rfl,o6⟩:=(Zd9 underlying25 (by kernel_rfl:Go.Proofs.Tryz.prog.bytesOf 3=8) (Zu underlying3)) d _ h6
  obtain⟨x7,rfl,o7⟩:=(Zd9 underlying25 (by kernel_rfl:Go.Proofs.Tryz.prog.bytesOf 3=8) (Zu underlying3)) d _ h7
  obtain⟨x8,rfl,o8⟩:=(Zd9 underlying25 (by kernel_rfl:Go.Proofs.Tryz.prog.bytesOf 3=8) (Zu underlying3)) d _ h8
  exact⟨⟨x0,x1,x2,x3,x4,x5,x6,x7,x8⟩,by simp only [Zbc,List.append_nil],o0,o1,o2,o3,o4,o5,o6,o7,o8⟩
theorem Zaoe:∀ (d:Nat) (ts:List Zf),WT Go.Proofs.Tryz.prog d 56 ts->∃ x,ts=Zn x/\Zaab x:=by
 intro d ts h
 cases d with
 | zero=>cases h
 | succ d=>
  simp only [WT,underlying56] at h
  replace h:Seq (WT Go.Proofs.Tryz.prog d) [3,3,3,3,3,4,4,4,4,3,54,3,3,3,4,3,3] ts:=h
  simp only [Seq] at h
  obtain⟨_,_,rfl,h0,_,_,rfl,h1,_,_,rfl,h2,_,_,rfl,h3,_,_,rfl,h4,_,_,rfl,h5,_,_,rfl,h6,_,_,rfl,h7,_,_,rfl,h8,_,_,rfl,h9,_,_,rfl,h10,_,_,rfl,h11,_,_,rfl,h12,_,_,rfl,h13,_,_,rfl,h14,_,_,rfl,h15,_,_,rfl,h16,rfl⟩:=h
  obtain⟨x0,rfl,o0⟩:=(Zu underlying3) d _ h0
  obtain⟨x1,rfl,o1⟩:=(Zu underlying3) d _ h1
  obtain⟨x2,rfl,o2⟩:=(Zu underlying3) d _ h2
  obtain⟨x3,rfl,o3⟩:=(Zu underlying3) d _ h3
  obtain⟨x4,rfl,o4⟩:=(Zu underlying3) d _ h4
  obtain⟨x5,rfl,o5⟩:=(Zfg underlying4) d _ h5
  obtain⟨x6,rfl,o6⟩:=(Zfg underlying4) d _ h6
  obtain⟨x7,rfl,o7⟩:=(Zfg underlying4) d _ h7
  obtain⟨x8,rfl,o8⟩:=(Zfg underlying4) d _ h8
  obtain⟨x9,rfl,o9⟩:=(Zu underlying3) d _ h9
  obtain⟨x10,rfl,o10⟩:=(Zbcl underlying54 (Zu underlying3)) d _ h10
  obtain⟨x11,rfl,o11⟩:=(Zu underlying3) d _ h11
  obtain⟨x12,rfl,o12⟩:=(Zu underlying3) d _ h12
  obtain⟨x13,rfl,o13⟩:=(Zu underlying3) d _ h13
  obtain⟨x14,rfl,o14⟩:=(Zfg underlying4) d _ h14
  obtain⟨x15,rfl,o15⟩:=(Zu underlying3) d _ h15
  obtain⟨x16,rfl,o16⟩:=(Zu underlying3) d _ h16
  exact⟨⟨x0,x1,x2,x3,x4,x5,x6,x7,x8,x9,x10,x11,x12,x13,x14,x15,x16⟩,by simp only [Zn,List.append_nil],o0,o1,o2,o3,o4,o5,o6,o7,o8,o9,o10,o11,o12,o13,o14,o15,o16⟩
theorem Zaof:∀ (d:Nat) (ts:List Zf),WT Go.Proofs.Tryz.prog d 280 ts->∃ x,ts=Zos x/\Zaac x:=by
 intro d ts h
 cases d with
 | zero=>cases h
 | succ d=>
  simp only [WT,underlying280] at h
  replace h:Seq (WT Go.Proofs.Tryz.prog d) [3,3] ts:=h
  simp only [Seq] at h
  obtain⟨_,_,rfl,h0,_,_,rfl,h1,rfl⟩:=h
  obtain⟨x0,rfl,o0⟩:=(Zu underlying3) d _ h0
  obtain⟨x1,rfl,o1⟩:=(Zu underlying3) d _ h1
  exact⟨⟨x0,x1⟩,by simp only [Zos,List.append_nil],o0,o1⟩
theorem Z7h:∀ (d:Nat) (ts:List Zf),WT Go.Proofs.Tryz.prog d 158 ts->∃ x,ts=Zqs x/\Z1m x:=by
 intro d ts h
 cases d with
 | zero=>cases h
 | succ d=>
  simp only [WT,underlying158] at h
  replace h:Seq (WT Go.Proofs.Tryz.prog d) [3,3,3,3,3,3,3,3,3,3,4,4,54] ts:=h
  simp only [Seq] at h
  obtain⟨_,_,rfl,h0,_,_,rfl,h1,_,_,rfl,h2,_,_,rfl,h3,_,_,rfl,h4,_,_,rfl,h5,_,_,rfl,h6,_,_,rfl,h7,_,_,rfl,h8,_,_,rfl,h9,_,_,rfl,h10,_,_,rfl,h11,_,_,rfl,h12,rfl⟩:=h
  obtain⟨x0,rfl,o0⟩:=(Zu underlying3) d _ h0
  obtain⟨x1,rfl,o1⟩:=(Zu underlying3) d _ h1
  obtain⟨x2,rfl,o2⟩:=(Zu underlying3) d _ h2
  obtain⟨x3,rfl,o3⟩:=(Zu underlying3) d _ h3
  obtain⟨x4,rfl,o4⟩:=(Zu underlying3) d _ h4
  obtain⟨x5,rfl,o5⟩:=(Zu underlying3) d _ h5
  obtain⟨x6,rfl,o6⟩:=(Zu underlying3) d _ h6
  obtain⟨x7,rfl,o7⟩:=(Zu underlying3) d _ h7
  obtain⟨x8,rfl,o8⟩:=(Zu underlying3) d _ h8
  obtain⟨x9,rfl,o9⟩:=(Zu underlying3) d _ h9
  obtain⟨x10,rfl,o10⟩:=(Zfg underlying4) d _ h10
  obtain⟨x11,rfl,o11⟩:=(Zfg underlying4) d _ h11
  obtain⟨x12,rfl,o12⟩:=(Zbcl underlying54 (Zu underlying3)) d _ h12
  exact⟨⟨x0,x1,x2,x3,x4,x5,x6,x7,x8,x9,x10,x11,x12⟩,by simp only [Zqs,List.append_nil],o0,o1,o2,o3,o4,o5,o6,o7,o8,o9,o10,o11,o12⟩
theorem Zatw:∀ (d:Nat) (ts:List Zf),WT Go.Proofs.Tryz.prog d 160 ts->∃ x,ts=Zbl x/\Z5d x:=by
 intro d ts h
 cases d with
 | zero=>cases h
 | succ d=>
  simp only [WT,underlying160] at h
  replace h:Seq (WT Go.Proofs.Tryz.prog d) [3,3,3,3,3,4,89,156,158] ts:=h
  simp only [Seq] at h
  obtain⟨_,_,rfl,h0,_,_,rfl,h1,_,_,rfl,h2,_,_,rfl,h3,_,_,rfl,h4,_,_,rfl,h5,_,_,rfl,h6,_,_,rfl,h7,_,_,rfl,h8,rfl⟩:=h
  obtain⟨x0,rfl,o0⟩:=(Zu underlying3) d _ h0
  obtain⟨x1,rfl,o1⟩:=(Zu underlying3) d _ h1
  obtain⟨x2,rfl,o2⟩:=(Zu underlying3) d _ h2
  obtain⟨x3,rfl,o3⟩:=(Zu underlying3) d _ h3
  obtain⟨x4,rfl,o4⟩:=(Zu underlying3) d _ h4
  obtain⟨x5,rfl,o5⟩:=(Zfg underlying4) d _ h5
  obtain⟨x6,rfl,o6⟩:=Zsc d _ h6
  obtain⟨x7,rfl,o7⟩:=(Zd9 underlying156 (by kernel_rfl:Go.Proofs.Tryz.prog.bytesOf 280=16) Zaof) d _ h7
  obtain⟨x8,rfl,o8⟩:=Z7h d _ h8
  exact⟨⟨x0,x1,x2,x3,x4,x5,x6,x7,x8⟩,by simp only [Zbl,List.append_nil],o0,o1,o2,o3,o4,o5,o6,o7,o8⟩
theorem Zaj3:∀ (d:Nat) (ts:List Zf),WT Go.Proofs.Tryz.prog d 162 ts->∃ x,ts=Zbn x/\Zvj x:=by
 intro d ts h
 cases d with
 | zero=>cases h
 | succ d=>
  simp only [WT,underlying162] at h
  replace h:Seq (WT Go.Proofs.Tryz.prog d) [3,3,89,158] ts:=h
  simp only [Seq] at h
  obtain⟨_,_,rfl,h0,_,_,rfl,h1,_,_,rfl,h2,_,_,rfl,h3,rfl⟩:=h
  obtain⟨x0,rfl,o0⟩:=(Zu underlying3) d _ h0
  obtain⟨x1,rfl,o1⟩:=(Zu underlying3) d _ h1
  obtain⟨x2,rfl,o2⟩:=Zsc d _ h2
  obtain⟨x3,rfl,o3⟩:=Z7h d _ h3
  exact⟨⟨x0,x1,x2,x3⟩,by simp only [Zbn,List.append_nil],o0,o1,o2,o3⟩
theorem Zatx:∀ (d:Nat) (ts:List Zf),WT Go.Proofs.Tryz.prog d 93 ts->∃ x,ts=Zam x/\Z5e x:=by
 intro d ts h
 cases d with
 | zero=>cases h
 | succ d=>
  simp only [WT,underlying93] at h
  replace h:Seq (WT Go.Proofs.Tryz.prog d) [3,3,3,3,25,42] ts:=h
  simp only [Seq] at h
  obtain⟨_,_,rfl,h0,_,_,rfl,h1,_,_,rfl,h2,_,_,rfl,h3,_,_,rfl,h4,_,_,rfl,h5,rfl⟩:=h
  obtain⟨x0,rfl,o0⟩:=(Zu underlying3) d _ h0
  obtain⟨x1,rfl,o1⟩:=(Zu underlying3) d _ h1
  obtain⟨x2,rfl,o2⟩:=(Zu underlying3) d _ h2
  obtain⟨x3,rfl,o3⟩:=(Zu underlying3) d _ h3
  obtain⟨x4,rfl,o4⟩:=(Zd9 underlying25 (by kernel_rfl:Go.Proofs.Tryz.prog.bytesOf 3=8) (Zu underlying3)) d _ h4
  obtain⟨x5,rfl,o5⟩:=(Zd9 underlying42 (by kernel_rfl:Go.Proofs.Tryz.prog.bytesOf 79=176) Z19) d _ h5
  exact⟨⟨x0,x1,x2,x3,x4,x5⟩,by simp only [Zam,List.append_nil],o0,o1,o2,o3,o4,o5⟩
theorem Zaqg:∀ (d:Nat) (ts:List Zf),WT Go.Proofs.Tryz.prog d 31 ts->∃ x,ts=Z9 x/\Zadh x:=by
 intro d ts h
 cases d with
 | zero=>cases h
 | succ d=>
  simp only [WT,underlying31] at h
  replace h:Seq (WT Go.Proofs.Tryz.prog d) [23,24,25,25,26,27,28,3,3,3,4,3,3,3,3,29,25,3,3] ts:=h
  simp only [Seq] at h
  obtain⟨_,_,rfl,h0,_,_,rfl,h1,_,_,rfl,h2,_,_,rfl,h3,_,_,rfl,h4,_,_,rfl,h5,_,_,rfl,h6,_,_,rfl,h7,_,_,rfl,h8,_,_,rfl,h9,_,_,rfl,h10,_,_,rfl,h11,_,_,rfl,h12,_,_,rfl,h13,_,_,rfl,h14,_,_,rfl,h15,_,_,rfl,h16,_,_,rfl,h17,_,_,rfl,h18,rfl⟩:=h
  obtain⟨x0,rfl,o0⟩:=(Zd9 underlying23 (by kernel_rfl:Go.Proofs.Tryz.prog.bytesOf 119=152) Zaod) d _ h0
  obtain⟨x1,rfl,o1⟩:=(Zd9 underlying24 (by kernel_rfl:Go.Proofs.Tryz.prog.bytesOf 56=128) Zaoe) d _ h1
  obtain⟨x2,rfl,o2⟩:=(Zd9 underlying25 (by kernel_rfl:Go.Proofs.Tryz.prog.bytesOf 3=8) (Zu underlying3)) d _ h2
  obtain⟨x3,rfl,o3⟩:=(Zd9 underlying25 (by kernel_rfl:Go.Proofs.Tryz.prog.bytesOf 3=8) (Zu underlying3)) d _ h3
  obtain⟨x4,rfl,o4⟩:=(Zd9 underlying26 (by kernel_rfl:Go.Proofs.Tryz.prog.bytesOf 160=824) Zatw) d _ h4
  obtain⟨x5,rfl,o5⟩:=(Zd9 underlying27 (by kernel_rfl:Go.Proofs.Tryz.prog.bytesOf 162=768) Zaj3) d _ h5
  obtain⟨x6,rfl,o6⟩:=(Zd9 underlying28 (by kernel_rfl:Go.Proofs.Tryz.prog.bytesOf 93=80) Zatx) d _ h6
  obtain⟨x7,rfl,o7⟩:=(Zu underlying3) d _ h7
  obtain⟨x8,rfl,o8⟩:=(Zu underlying3) d _ h8
  obtain⟨x9,rfl,o9⟩:=(Zu underlying3) d _ h9
  obtain⟨x10,rfl,o10⟩:=(Zfg underlying4) d _ h10
  obtain⟨x11,rfl,o11⟩:=(Zu underlying3) d _ h11
  obtain⟨x12,rfl,o12⟩:=(Zu underlying3) d _ h12
  obtain⟨x13,rfl,o13⟩:=(Zu underlying3) d _ h13
  obtain⟨x14,rfl,o14⟩:=(Zu underlying3) d _ h14
  obtain⟨x15,rfl,o15⟩:=(Zu underlying29) d _ h15
  obtain⟨x16,rfl,o16⟩:=(Zd9 underlying25 (by kernel_rfl:Go.Proofs.Tryz.prog.bytesOf 3=8) (Zu underlying3)) d _ h16
  obtain⟨x17,rfl,o17⟩:=(Zu underlying3) d _ h17
  obtain⟨x18,rfl,o18⟩:=(Zu underlying3) d _ h18
  exact⟨⟨x0,x1,x2,x3,x4,x5,x6,x7,x8,x9,x10,x11,x12,x13,x14,x15,x16,x17,x18⟩,by simp only [Z9,List.append_nil],o0,o1,o2,o3,o4,o5,o6,o7,o8,o9,o10,o11,o12,o13,o14,o15,o16,o17,o18⟩
end Go.PW
