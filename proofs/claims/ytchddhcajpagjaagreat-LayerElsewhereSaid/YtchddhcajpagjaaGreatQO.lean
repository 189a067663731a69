import Derived.Test.YtchddhcajpagjaaGreatQT
import Derived.Test.YtchddhcajpagjaaGreatQE
set_option linter.all false
set_option maxRecDepth 100000
namespace Go.PW
open Go.RowKit
theorem Zaar:∀ (d:Nat) (ts:List Zf),WT Go.Proofs.Tryz.prog d 60 ts->∃ x,ts=Zae x/\Z5e x:=by
 intro d ts h
 cases d with
 | zero=>cases h
 | succ d=>
  simp only [WT,Go.Proofs.Tryz.underlying60] at h
  replace h:Seq (WT Go.Proofs.Tryz.prog d) [3,3,58] ts:=h
  simp only [Seq] at h
  obtain⟨_,_,rfl,h0,_,_,rfl,h1,_,_,rfl,h2,rfl⟩:=h
  obtain⟨x0,rfl,o0⟩:=(Zy Go.Proofs.Tryz.underlying3) d _ h0
  obtain⟨x1,rfl,o1⟩:=(Zy Go.Proofs.Tryz.underlying3) d _ h1
  obtain⟨x2,rfl,o2⟩:=(Zbgr Go.Proofs.Tryz.underlying58 (Zy Go.Proofs.Tryz.underlying3)) d _ h2
  exact⟨⟨x0,x1,x2⟩,by simp only [Zae,List.append_nil],o0,o1,o2⟩
theorem Zas0:∀ (d:Nat) (ts:List Zf),WT Go.Proofs.Tryz.prog d 63 ts->∃ x,ts=Zhk x/\Z5f x:=by
 intro d ts h
 cases d with
 | zero=>cases h
 | succ d=>
  simp only [WT,Go.Proofs.Tryz.underlying63] at h
  replace h:Seq (WT Go.Proofs.Tryz.prog d) [3,3,61] ts:=h
  simp only [Seq] at h
  obtain⟨_,_,rfl,h0,_,_,rfl,h1,_,_,rfl,h2,rfl⟩:=h
  obtain⟨x0,rfl,o0⟩:=(Zy Go.Proofs.Tryz.underlying3) d _ h0
  obtain⟨x1,rfl,o1⟩:=(Zy Go.Proofs.Tryz.underlying3) d _ h1
  obtain⟨x2,rfl,o2⟩:=(Zea Go.Proofs.Tryz.underlying61 (by kernel_rfl:Go.Proofs.Tryz.prog.bytesOf 9=16) (Zabf Go.Proofs.Tryz.underlying9)) d _ h2
  exact⟨⟨x0,x1,x2⟩,by simp only [Zhk,List.append_nil],o0,o1,o2⟩
theorem Zvv:∀ (d:Nat) (ts:List Zf),WT Go.Proofs.Tryz.prog d 39 ts->∃ x,ts=Zb4 x/\Ztz x:=by
 intro d ts h
 cases d with
 | zero=>cases h
 | succ d=>
  simp only [WT,Go.Proofs.Tryz.underlying39] at h
  replace h:Seq (WT Go.Proofs.Tryz.prog d) [3,3] ts:=h
  simp only [Seq] at h
  obtain⟨_,_,rfl,h0,_,_,rfl,h1,rfl⟩:=h
  obtain⟨x0,rfl,o0⟩:=(Zy Go.Proofs.Tryz.underlying3) d _ h0
  obtain⟨x1,rfl,o1⟩:=(Zy Go.Proofs.Tryz.underlying3) d _ h1
  exact⟨⟨x0,x1⟩,by simp only [Zb4,List.append_nil],o0,o1⟩
theorem Zfk:∀ (d:Nat) (ts:List Zf),WT Go.Proofs.Tryz.prog d 41 ts->∃ x,ts=Zo x/\Zeu x:=by
 intro d ts h
 cases d with
 | zero=>cases h
 | succ d=>
  simp only [WT,Go.Proofs.Tryz.underlying41] at h
  replace h:Seq (WT Go.Proofs.Tryz.prog d) [3,3,3,3,3,3,3,9,3,3,39,39,39] ts:=h
  simp only [Seq] at h
  obtain⟨_,_,rfl,h0,_,_,rfl,h1,_,_,rfl,h2,_,_,rfl,h3,_,_,rfl,h4,_,_,rfl,h5,_,_,rfl,h6,_,_,rfl,h7,_,_,rfl,h8,_,_,rfl,h9,_,_,rfl,h10,_,_,rfl,h11,_,_,rfl,h12,rfl⟩:=h
  obtain⟨x0,rfl,o0⟩:=(Zy Go.Proofs.Tryz.underlying3) d _ h0
  obtain⟨x1,rfl,o1⟩:=(Zy Go.Proofs.Tryz.underlying3) d _ h1
  obtain⟨x2,rfl,o2⟩:=(Zy Go.Proofs.Tryz.underlying3) d _ h2
  obtain⟨x3,rfl,o3⟩:=(Zy Go.Proofs.Tryz.underlying3) d _ h3
  obtain⟨x4,rfl,o4⟩:=(Zy Go.Proofs.Tryz.underlying3) d _ h4
  obtain⟨x5,rfl,o5⟩:=(Zy Go.Proofs.Tryz.underlying3) d _ h5
  obtain⟨x6,rfl,o6⟩:=(Zy Go.Proofs.Tryz.underlying3) d _ h6
  obtain⟨x7,rfl,o7⟩:=(Zabf Go.Proofs.Tryz.underlying9) d _ h7
  obtain⟨x8,rfl,o8⟩:=(Zy Go.Proofs.Tryz.underlying3) d _ h8
  obtain⟨x9,rfl,o9⟩:=(Zy Go.Proofs.Tryz.underlying3) d _ h9
  obtain⟨x10,rfl,o10⟩:=Zvv d _ h10
  obtain⟨x11,rfl,o11⟩:=Zvv d _ h11
  obtain⟨x12,rfl,o12⟩:=Zvv d _ h12
  exact⟨⟨x0,x1,x2,x3,x4,x5,x6,x7,x8,x9,x10,x11,x12⟩,by simp only [Zo,List.append_nil],o0,o1,o2,o3,o4,o5,o6,o7,o8,o9,o10,o11,o12⟩
theorem Z2a:∀ (d:Nat) (ts:List Zf),WT Go.Proofs.Tryz.prog d 79 ts->∃ x,ts=Zm x/\Zt0 x:=by
 intro d ts h
 cases d with
 | zero=>cases h
 | succ d=>
  simp only [WT,Go.Proofs.Tryz.underlying79] at h
  replace h:Seq (WT Go.Proofs.Tryz.prog d) [3,3,3,9,41] ts:=h
  simp only [Seq] at h
  obtain⟨_,_,rfl,h0,_,_,rfl,h1,_,_,rfl,h2,_,_,rfl,h3,_,_,rfl,h4,rfl⟩:=h
  obtain⟨x0,rfl,o0⟩:=(Zy Go.Proofs.Tryz.underlying3) d _ h0
  obtain⟨x1,rfl,o1⟩:=(Zy Go.Proofs.Tryz.underlying3) d _ h1
  obtain⟨x2,rfl,o2⟩:=(Zy Go.Proofs.Tryz.underlying3) d _ h2
  obtain⟨x3,rfl,o3⟩:=(Zabf Go.Proofs.Tryz.underlying9) d _ h3
  obtain⟨x4,rfl,o4⟩:=Zfk d _ h4
  exact⟨⟨x0,x1,x2,x3,x4⟩,by simp only [Zm,List.append_nil],o0,o1,o2,o3,o4⟩
theorem Zap1:∀ (d:Nat) (ts:List Zf),WT Go.Proofs.Tryz.prog d 81 ts->∃ x,ts=Zdj x/\Zadb x:=by
 intro d ts h
 cases d with
 | zero=>cases h
 | succ d=>
  simp only [WT,Go.Proofs.Tryz.underlying81] at h
  replace h:Seq (WT Go.Proofs.Tryz.prog d) [60,4,4,3] ts:=h
  simp only [Seq] at h
  obtain⟨_,_,rfl,h0,_,_,rfl,h1,_,_,rfl,h2,_,_,rfl,h3,rfl⟩:=h
  obtain⟨x0,rfl,o0⟩:=Zaar d _ h0
  obtain⟨x1,rfl,o1⟩:=(Zfm Go.Proofs.Tryz.underlying4) d _ h1
  obtain⟨x2,rfl,o2⟩:=(Zfm Go.Proofs.Tryz.underlying4) d _ h2
  obtain⟨x3,rfl,o3⟩:=(Zy Go.Proofs.Tryz.underlying3) d _ h3
  exact⟨⟨x0,x1,x2,x3⟩,by simp only [Zdj,List.append_nil],o0,o1,o2,o3⟩
theorem Zajq:∀ (d:Nat) (ts:List Zf),WT Go.Proofs.Tryz.prog d 83 ts->∃ x,ts=Zb7 x/\Zvh x:=by
 intro d ts h
 cases d with
 | zero=>cases h
 | succ d=>
  simp only [WT,Go.Proofs.Tryz.underlying83] at h
  replace h:Seq (WT Go.Proofs.Tryz.prog d) [3,3,41] ts:=h
  simp only [Seq] at h
  obtain⟨_,_,rfl,h0,_,_,rfl,h1,_,_,rfl,h2,rfl⟩:=h
  obtain⟨x0,rfl,o0⟩:=(Zy Go.Proofs.Tryz.underlying3) d _ h0
  obtain⟨x1,rfl,o1⟩:=(Zy Go.Proofs.Tryz.underlying3) d _ h1
  obtain⟨x2,rfl,o2⟩:=Zfk d _ h2
  exact⟨⟨x0,x1,x2⟩,by simp only [Zb7,List.append_nil],o0,o1,o2⟩
theorem Zas1:∀ (d:Nat) (ts:List Zf),WT Go.Proofs.Tryz.prog d 133 ts->∃ x,ts=Z8 x/\Z5g x:=by
 intro d ts h
 cases d with
 | zero=>cases h
 | succ d=>
  simp only [WT,Go.Proofs.Tryz.underlying133] at h
  replace h:Seq (WT Go.Proofs.Tryz.prog d) [4,4,41] ts:=h
  simp only [Seq] at h
  obtain⟨_,_,rfl,h0,_,_,rfl,h1,_,_,rfl,h2,rfl⟩:=h
  obtain⟨x0,rfl,o0⟩:=(Zfm Go.Proofs.Tryz.underlying4) d _ h0
  obtain⟨x1,rfl,o1⟩:=(Zfm Go.Proofs.Tryz.underlying4) d _ h1
  obtain⟨x2,rfl,o2⟩:=Zfk d _ h2
  exact⟨⟨x0,x1,x2⟩,by simp only [Z8,List.append_nil],o0,o1,o2⟩
theorem Zayp:∀ (d:Nat) (ts:List Zf),WT Go.Proofs.Tryz.prog d 136 ts->∃ x,ts=Zdd x/\Z8n x:=by
 intro d ts h
 cases d with
 | zero=>cases h
 | succ d=>
  simp only [WT,Go.Proofs.Tryz.underlying136] at h
  replace h:Seq (WT Go.Proofs.Tryz.prog d) [3,3,41] ts:=h
  simp only [Seq] at h
  obtain⟨_,_,rfl,h0,_,_,rfl,h1,_,_,rfl,h2,rfl⟩:=h
  obtain⟨x0,rfl,o0⟩:=(Zy Go.Proofs.Tryz.underlying3) d _ h0
  obtain⟨x1,rfl,o1⟩:=(Zy Go.Proofs.Tryz.underlying3) d _ h1
  obtain⟨x2,rfl,o2⟩:=Zfk d _ h2
  exact⟨⟨x0,x1,x2⟩,by simp only [Zdd,List.append_nil],o0,o1,o2⟩
theorem Zans:∀ (d:Nat) (ts:List Zf),WT Go.Proofs.Tryz.prog d 138 ts->∃ x,ts=Zan x/\Zyf x:=by
 intro d ts h
 cases d with
 | zero=>cases h
 | succ d=>
  simp only [WT,Go.Proofs.Tryz.underlying138] at h
  replace h:Seq (WT Go.Proofs.Tryz.prog d) [3,3,3,41] ts:=h
  simp only [Seq] at h
  obtain⟨_,_,rfl,h0,_,_,rfl,h1,_,_,rfl,h2,_,_,rfl,h3,rfl⟩:=h
  obtain⟨x0,rfl,o0⟩:=(Zy Go.Proofs.Tryz.underlying3) d _ h0
  obtain⟨x1,rfl,o1⟩:=(Zy Go.Proofs.Tryz.underlying3) d _ h1
  obtain⟨x2,rfl,o2⟩:=(Zy Go.Proofs.Tryz.underlying3) d _ h2
  obtain⟨x3,rfl,o3⟩:=Zfk d _ h3
  exact⟨⟨x0,x1,x2,x3⟩,by simp only [Zan,List.append_nil],o0,o1,o2,o3⟩
theorem Zant:∀ (d:Nat) (ts:List Zf),WT Go.Proofs.Tryz.prog d 140 ts->∃ x,ts=Zq x/\Zyg x:=by
 intro d ts h
 cases d with
 | zero=>cases h
 | succ d=>
  simp only [WT,Go.Proofs.Tryz.underlying140] at h
  replace h:Seq (WT Go.Proofs.Tryz.prog d) [3,136,138,3,3,9,41,117,42] ts:=h
  simp only [Seq] at h
  obtain⟨_,_,rfl,h0,_,_,rfl,h1,_,_,rfl,h2,_,_,rfl,h3,_,_,rfl,h4,_,_,rfl,h5,_,_,rfl,h6,_,_,rfl,h7,_,_,rfl,h8,rfl⟩:=h
  obtain⟨x0,rfl,o0⟩:=(Zy Go.Proofs.Tryz.underlying3) d _ h0
  obtain⟨x1,rfl,o1⟩:=Zayp d _ h1
  obtain⟨x2,rfl,o2⟩:=Zans d _ h2
  obtain⟨x3,rfl,o3⟩:=(Zy Go.Proofs.Tryz.underlying3) d _ h3
  obtain⟨x4,rfl,o4⟩:=(Zy Go.Proofs.Tryz.underlying3) d _ h4
  obtain⟨x5,rfl,o5⟩:=(Zabf Go.Proofs.Tryz.underlying9) d _ h5
  obtain⟨x6,rfl,o6⟩:=Zfk d _ h6
  obtain⟨x7,rfl,o7⟩:=(Za94 Go.Proofs.Tryz.underlying117 (Zy Go.Proofs.Tryz.underlying3)) d _ h7
  obtain⟨x8,rfl,o8⟩:=(Zea Go.Proofs.Tryz.underlying42 (by kernel_rfl:Go.Proofs.Tryz.prog.bytesOf 79=176) Z2a) d _ h8
  exact⟨⟨x0,x1,x2,x3,x4,x5,x6,x7,x8⟩,by simp only [Zq,List.append_nil],o0,o1,o2,o3,o4,o5,o6,o7,o8⟩
theorem Zajr:∀ (d:Nat) (ts:List Zf),WT Go.Proofs.Tryz.prog d 87 ts->∃ x,ts=Zbe x/\Zvi x:=by
 intro d ts h
 cases d with
 | zero=>cases h
 | succ d=>
  simp only [WT,Go.Proofs.Tryz.underlying87] at h
  replace h:Seq (WT Go.Proofs.Tryz.prog d) [3,3,41,3,3,3,3] ts:=h
  simp only [Seq] at h
  obtain⟨_,_,rfl,h0,_,_,rfl,h1,_,_,rfl,h2,_,_,rfl,h3,_,_,rfl,h4,_,_,rfl,h5,_,_,rfl,h6,rfl⟩:=h
  obtain⟨x0,rfl,o0⟩:=(Zy Go.Proofs.Tryz.underlying3) d _ h0
  obtain⟨x1,rfl,o1⟩:=(Zy Go.Proofs.Tryz.underlying3) d _ h1
  obtain⟨x2,rfl,o2⟩:=Zfk d _ h2
  obtain⟨x3,rfl,o3⟩:=(Zy Go.Proofs.Tryz.underlying3) d _ h3
  obtain⟨x4,rfl,o4⟩:=(Zy Go.Proofs.Tryz.underlying3) d _ h4
  obtain⟨x5,rfl,o5⟩:=(Zy Go.Proofs.Tryz.underlying3) d _ h5
  obtain⟨x6,rfl,o6⟩:=(Zy Go.Proofs.Tryz.underlying3) d _ h6
  exact⟨⟨x0,x1,x2,x3,x4,x5,x6⟩,by simp only [Zbe,List.append_nil],o0,o1,o2,o3,o4,o5,o6⟩
theorem Zr8:∀ (d:Nat) (ts:List Zf),WT Go.Proofs.Tryz.prog d 89 ts->∃ x,ts=Zg x/\Zl3 x:=by
 intro d ts h
 cases d with
 | zero=>cases h
 | succ d=>
  simp only [WT,Go.Proofs.Tryz.underlying89] at h
  replace h:Seq (WT Go.Proofs.Tryz.prog d) [3,41,42,81,4,83,4,84,85,87] ts:=h
  simp only [Seq] at h
  obtain⟨_,_,rfl,h0,_,_,rfl,h1,_,_,rfl,h2,_,_,rfl,h3,_,_,rfl,h4,_,_,rfl,h5,_,_,rfl,h6,_,_,rfl,h7,_,_,rfl,h8,_,_,rfl,h9,rfl⟩:=h
  obtain⟨x0,rfl,o0⟩:=(Zy Go.Proofs.Tryz.underlying3) d _ h0
  obtain⟨x1,rfl,o1⟩:=Zfk d _ h1
  obtain⟨x2,rfl,o2⟩:=(Zea Go.Proofs.Tryz.underlying42 (by kernel_rfl:Go.Proofs.Tryz.prog.bytesOf 79=176) Z2a) d _ h2
  obtain⟨x3,rfl,o3⟩:=Zap1 d _ h3
  obtain⟨x4,rfl,o4⟩:=(Zfm Go.Proofs.Tryz.underlying4) d _ h4
  obtain⟨x5,rfl,o5⟩:=Zajq d _ h5
  obtain⟨x6,rfl,o6⟩:=(Zfm Go.Proofs.Tryz.underlying4) d _ h6
  obtain⟨x7,rfl,o7⟩:=(Zea Go.Proofs.Tryz.underlying84 (by kernel_rfl:Go.Proofs.Tryz.prog.bytesOf 133=144) Zas1) d _ h7
  obtain⟨x8,rfl,o8⟩:=(Zea Go.Proofs.Tryz.underlying85 (by kernel_rfl:Go.Proofs.Tryz.prog.bytesOf 140=560) Zant) d _ h8
  obtain⟨x9,rfl,o9⟩:=Zajr d _ h9
  exact⟨⟨x0,x1,x2,x3,x4,x5,x6,x7,x8,x9⟩,by simp only [Zg,List.append_nil],o0,o1,o2,o3,o4,o5,o6,o7,o8,o9⟩
theorem Zas2:∀ (d:Nat) (ts:List Zf),WT Go.Proofs.Tryz.prog d 77 ts->∃ x,ts=Zz x/\Zaho x:=by
 intro d ts h
 cases d with
 | zero=>cases h
 | succ d=>
  simp only [WT,Go.Proofs.Tryz.underlying77] at h
  replace h:Seq (WT Go.Proofs.Tryz.prog d) [9,4,60,3,63,3,3,3,64] ts:=h
  simp only [Seq] at h
  obtain⟨_,_,rfl,h0,_,_,rfl,h1,_,_,rfl,h2,_,_,rfl,h3,_,_,rfl,h4,_,_,rfl,h5,_,_,rfl,h6,_,_,rfl,h7,_,_,rfl,h8,rfl⟩:=h
  obtain⟨x0,rfl,o0⟩:=(Zabf Go.Proofs.Tryz.underlying9) d _ h0
  obtain⟨x1,rfl,o1⟩:=(Zfm Go.Proofs.Tryz.underlying4) d _ h1
  obtain⟨x2,rfl,o2⟩:=Zaar d _ h2
  obtain⟨x3,rfl,o3⟩:=(Zy Go.Proofs.Tryz.underlying3) d _ h3
  obtain⟨x4,rfl,o4⟩:=Zas0 d _ h4
  obtain⟨x5,rfl,o5⟩:=(Zy Go.Proofs.Tryz.underlying3) d _ h5
  obtain⟨x6,rfl,o6⟩:=(Zy Go.Proofs.Tryz.underlying3) d _ h6
  obtain⟨x7,rfl,o7⟩:=(Zy Go.Proofs.Tryz.underlying3) d _ h7
  obtain⟨x8,rfl,o8⟩:=(Zea Go.Proofs.Tryz.underlying64 (by kernel_rfl:Go.Proofs.Tryz.prog.bytesOf 89=640) Zr8) d _ h8
  exact⟨⟨x0,x1,x2,x3,x4,x5,x6,x7,x8⟩,by simp only [Zz,List.append_nil],o0,o1,o2,o3,o4,o5,o6,o7,o8⟩
theorem Zanu:∀ (d:Nat) (ts:List Zf),WT Go.Proofs.Tryz.prog d 119 ts->∃ x,ts=Za9 x/\Zyh x:=by
 intro d ts h
 cases d with
 | zero=>cases h
 | succ d=>
  simp only [WT,Go.Proofs.Tryz.underlying119] at h
  replace h:Seq (WT Go.Proofs.Tryz.prog d) [3,3,3,117,4,4,25,25,25] ts:=h
  simp only [Seq] at h
  obtain⟨_,_,rfl,h0,_,_,rfl,h1,_,_,rfl,h2,_,_,rfl,h3,_,_,rfl,h4,_,_,rfl,h5,_,_,rfl,h6,_,_,rfl,h7,_,_,rfl,h8,rfl⟩:=h
  obtain⟨x0,rfl,o0⟩:=(Zy Go.Proofs.Tryz.underlying3) d _ h0
  obtain⟨x1,rfl,o1⟩:=(Zy Go.Proofs.Tryz.underlying3) d _ h1
  obtain⟨x2,rfl,o2⟩:=(Zy Go.Proofs.Tryz.underlying3) d _ h2
  obtain⟨x3,rfl,o3⟩:=(Za94 Go.Proofs.Tryz.underlying117 (Zy Go.Proofs.Tryz.underlying3)) d _ h3
  obtain⟨x4,rfl,o4⟩:=(Zfm Go.Proofs.Tryz.underlying4) d _ h4
  obtain⟨x5,rfl,o5⟩:=(Zfm Go.Proofs.Tryz.underlying4) d _ h5
  obtain⟨x6,rfl,o6⟩:=(Zea Go.Proofs.Tryz.underlying25 (by kernel_rfl:Go.Proofs.Tryz.prog.bytesOf 3=8) (Zy Go.Proofs.Tryz.underlying3)) d _ h6
  obtain⟨x7,rfl,o7⟩:=(Zea Go.Proofs.Tryz.underlying25 (by kernel_rfl:Go.Proofs.Tryz.prog.bytesOf 3=8) (Zy Go.Proofs.Tryz.underlying3)) d _ h7
  obtain⟨x8,rfl,o8⟩:=(Zea Go.Proofs.Tryz.underlying25 (by kernel_rfl:Go.Proofs.Tryz.prog.bytesOf 3=8) (Zy Go.Proofs.Tryz.underlying3)) d _ h8
  exact⟨⟨x0,x1,x2,x3,x4,x5,x6,x7,x8⟩,by simp only [Za9,List.append_nil],o0,o1,o2,o3,o4,o5,o6,o7,o8⟩
theorem Zanv:∀ (d:Nat) (ts:List Zf),WT Go.Proofs.Tryz.prog d 56 ts->∃ x,ts=Zl x/\Zaaa x:=by
 intro d ts h
 cases d with
 | zero=>cases h
 | succ d=>
  simp only [WT,Go.Proofs.Tryz.underlying56] at h
  replace h:Seq (WT Go.Proofs.Tryz.prog d) [3,3,3,3,3,4,4,4,4,3,54,3,3,3,4,3,3] ts:=h
  simp only [Seq] at h
  obtain⟨_,_,rfl,h0,_,_,rfl,h1,_,_,rfl,h2,_,_,rfl,h3,_,_,rfl,h4,_,_,rfl,h5,_,_,rfl,h6,_,_,rfl,h7,_,_,rfl,h8,_,_,rfl,h9,_,_,rfl,h10,_,_,rfl,h11,_,_,rfl,h12,_,_,rfl,h13,_,_,rfl,h14,_,_,rfl,h15,_,_,rfl,h16,rfl⟩:=h
  obtain⟨x0,rfl,o0⟩:=(Zy Go.Proofs.Tryz.underlying3) d _ h0
  obtain⟨x1,rfl,o1⟩:=(Zy Go.Proofs.Tryz.underlying3) d _ h1
  obtain⟨x2,rfl,o2⟩:=(Zy Go.Proofs.Tryz.underlying3) d _ h2
  obtain⟨x3,rfl,o3⟩:=(Zy Go.Proofs.Tryz.underlying3) d _ h3
  obtain⟨x4,rfl,o4⟩:=(Zy Go.Proofs.Tryz.underlying3) d _ h4
  obtain⟨x5,rfl,o5⟩:=(Zfm Go.Proofs.Tryz.underlying4) d _ h5
  obtain⟨x6,rfl,o6⟩:=(Zfm Go.Proofs.Tryz.underlying4) d _ h6
  obtain⟨x7,rfl,o7⟩:=(Zfm Go.Proofs.Tryz.underlying4) d _ h7
  obtain⟨x8,rfl,o8⟩:=(Zfm Go.Proofs.Tryz.underlying4) d _ h8
  obtain⟨x9,rfl,o9⟩:=(Zy Go.Proofs.Tryz.underlying3) d _ h9
  obtain⟨x10,rfl,o10⟩:=(Za93 Go.Proofs.Tryz.underlying54 (Zy Go.Proofs.Tryz.underlying3)) d _ h10
  obtain⟨x11,rfl,o11⟩:=(Zy Go.Proofs.Tryz.underlying3) d _ h11
  obtain⟨x12,rfl,o12⟩:=(Zy Go.Proofs.Tryz.underlying3) d _ h12
  obtain⟨x13,rfl,o13⟩:=(Zy Go.Proofs.Tryz.underlying3) d _ h13
  obtain⟨x14,rfl,o14⟩:=(Zfm Go.Proofs.Tryz.underlying4) d _ h14
  obtain⟨x15,rfl,o15⟩:=(Zy Go.Proofs.Tryz.underlying3) d _ h15
  obtain⟨x16,rfl,o16⟩:=(Zy Go.Proofs.Tryz.underlying3) d _ h16
  exact⟨⟨x0,x1,x2,x3,x4,x5,x6,x7,x8,x9,x10,x11,x12,x13,x14,x15,x16⟩,by simp only [Zl,List.append_nil],o0,o1,o2,o3,o4,o5,o6,o7,o8,o9,o10,o11,o12,o13,o14,o15,o16⟩
theorem Zanw:∀ (d:Nat) (ts:List Zf),WT Go.Proofs.Tryz.prog d 280 ts->∃ x,ts=Zoi x/\Zaab x:=by
 intro d ts h
 cases d with
 | zero=>cases h
 | succ d=>
  simp only [WT,Go.Proofs.Tryz.underlying280] at h
  replace h:Seq (WT Go.Proofs.Tryz.prog d) [3,3] ts:=h
  simp only [Seq] at h
  obtain⟨_,_,rfl,h0,_,_,rfl,h1,rfl⟩:=h
  obtain⟨x0,rfl,o0⟩:=(Zy Go.Proofs.Tryz.underlying3) d _ h0
  obtain⟨x1,rfl,o1⟩:=(Zy Go.Proofs.Tryz.underlying3) d _ h1
  exact⟨⟨x0,x1⟩,by simp only [Zoi,List.append_nil],o0,o1⟩
theorem Z7l:∀ (d:Nat) (ts:List Zf),WT Go.Proofs.Tryz.prog d 158 ts->∃ x,ts=Zqn x/\Z1r x:=by
 intro d ts h
 cases d with
 | zero=>cases h
 | succ d=>
  simp only [WT,Go.Proofs.Tryz.underlying158] at h
  replace h:Seq (WT Go.Proofs.Tryz.prog d) [3,3,3,3,3,3,3,3,3,3,4,4,54] ts:=h
  simp only [Seq] at h
  obtain⟨_,_,rfl,h0,_,_,rfl,h1,_,_,rfl,h2,_,_,rfl,h3,_,_,rfl,h4,_,_,rfl,h5,_,_,rfl,h6,_,_,rfl,h7,_,_,rfl,h8,_,_,rfl,h9,_,_,rfl,h10,_,_,rfl,h11,_,_,rfl,h12,rfl⟩:=h
  obtain⟨x0,rfl,o0⟩:=(Zy Go.Proofs.Tryz.underlying3) d _ h0
  obtain⟨x1,rfl,o1⟩:=(Zy Go.Proofs.Tryz.underlying3) d _ h1
  obtain⟨x2,rfl,o2⟩:=(Zy Go.Proofs.Tryz.underlying3) d _ h2
  obtain⟨x3,rfl,o3⟩:=(Zy Go.Proofs.Tryz.underlying3) d _ h3
  obtain⟨x4,rfl,o4⟩:=(Zy Go.Proofs.Tryz.underlying3) d _ h4
  obtain⟨x5,rfl,o5⟩:=(Zy Go.Proofs.Tryz.underlying3) d _ h5
  obtain⟨x6,rfl,o6⟩:=(Zy Go.Proofs.Tryz.underlying3) d _ h6
  obtain⟨x7,rfl,o7⟩:=(Zy Go.Proofs.Tryz.underlying3) d _ h7
  obtain⟨x8,rfl,o8⟩:=(Zy Go.Proofs.Tryz.underlying3) d _ h8
  obtain⟨x9,rfl,o9⟩:=(Zy Go.Proofs.Tryz.underlying3) d _ h9
  obtain⟨x10,rfl,o10⟩:=(Zfm Go.Proofs.Tryz.underlying4) d _ h10
  obtain⟨x11,rfl,o11⟩:=(Zfm Go.Proofs.Tryz.underlying4) d _ h11
  obtain⟨x12,rfl,o12⟩:=(Za93 Go.Proofs.Tryz.underlying54 (Zy Go.Proofs.Tryz.underlying3)) d _ h12
  exact⟨⟨x0,x1,x2,x3,x4,x5,x6,x7,x8,x9,x10,x11,x12⟩,by simp only [Zqn,List.append_nil],o0,o1,o2,o3,o4,o5,o6,o7,o8,o9,o10,o11,o12⟩
theorem Zas3:∀ (d:Nat) (ts:List Zf),WT Go.Proofs.Tryz.prog d 160 ts->∃ x,ts=Zbj x/\Z5h x:=by
 intro d ts h
 cases d with
 | zero=>cases h
 | succ d=>
  simp only [WT,Go.Proofs.Tryz.underlying160] at h
  replace h:Seq (WT Go.Proofs.Tryz.prog d) [3,3,3,3,3,4,89,156,158] ts:=h
  simp only [Seq] at h
  obtain⟨_,_,rfl,h0,_,_,rfl,h1,_,_,rfl,h2,_,_,rfl,h3,_,_,rfl,h4,_,_,rfl,h5,_,_,rfl,h6,_,_,rfl,h7,_,_,rfl,h8,rfl⟩:=h
  obtain⟨x0,rfl,o0⟩:=(Zy Go.Proofs.Tryz.underlying3) d _ h0
  obtain⟨x1,rfl,o1⟩:=(Zy Go.Proofs.Tryz.underlying3) d _ h1
  obtain⟨x2,rfl,o2⟩:=(Zy Go.Proofs.Tryz.underlying3) d _ h2
  obtain⟨x3,rfl,o3⟩:=(Zy Go.Proofs.Tryz.underlying3) d _ h3
  obtain⟨x4,rfl,o4⟩:=(Zy Go.Proofs.Tryz.underlying3) d _ h4
  obtain⟨x5,rfl,o5⟩:=(Zfm Go.Proofs.Tryz.underlying4) d _ h5
  obtain⟨x6,rfl,o6⟩:=Zr8 d _ h6
  obtain⟨x7,rfl,o7⟩:=(Zea Go.Proofs.Tryz.underlying156 (by kernel_rfl:Go.Proofs.Tryz.prog.bytesOf 280=16) Zanw) d _ h7
  obtain⟨x8,rfl,o8⟩:=Z7l d _ h8
  exact⟨⟨x0,x1,x2,x3,x4,x5,x6,x7,x8⟩,by simp only [Zbj,List.append_nil],o0,o1,o2,o3,o4,o5,o6,o7,o8⟩
theorem Zajs:∀ (d:Nat) (ts:List Zf),WT Go.Proofs.Tryz.prog d 162 ts->∃ x,ts=Zbm x/\Zvj x:=by
 intro d ts h
 cases d with
 | zero=>cases h
 | succ d=>
  simp only [WT,Go.Proofs.Tryz.underlying162] at h
  replace h:Seq (WT Go.Proofs.Tryz.prog d) [3,3,89,158] ts:=h
  simp only [Seq] at h
  obtain⟨_,_,rfl,h0,_,_,rfl,h1,_,_,rfl,h2,_,_,rfl,h3,rfl⟩:=h
  obtain⟨x0,rfl,o0⟩:=(Zy Go.Proofs.Tryz.underlying3) d _ h0
  obtain⟨x1,rfl,o1⟩:=(Zy Go.Proofs.Tryz.underlying3) d _ h1
  obtain⟨x2,rfl,o2⟩:=Zr8 d _ h2
  obtain⟨x3,rfl,o3⟩:=Z7l d _ h3
  exact⟨⟨x0,x1,x2,x3⟩,by simp only [Zbm,List.append_nil],o0,o1,o2,o3⟩
theorem Zas4:∀ (d:Nat) (ts:List Zf),WT Go.Proofs.Tryz.prog d 93 ts->∃ x,ts=Zbz x/\Z5i x:=by
 intro d ts h
 cases d with
 | zero=>cases h
 | succ d=>
  simp only [WT,Go.Proofs.Tryz.underlying93] at h
  replace h:Seq (WT Go.Proofs.Tryz.prog d) [3,3,3,3,25,42] ts:=h
  simp only [Seq] at h
  obtain⟨_,_,rfl,h0,_,_,rfl,h1,_,_,rfl,h2,_,_,rfl,h3,_,_,rfl,h4,_,_,rfl,h5,rfl⟩:=h
  obtain⟨x0,rfl,o0⟩:=(Zy Go.Proofs.Tryz.underlying3) d _ h0
  obtain⟨x1,rfl,o1⟩:=(Zy Go.Proofs.Tryz.underlying3) d _ h1
  obtain⟨x2,rfl,o2⟩:=(Zy Go.Proofs.Tryz.underlying3) d _ h2
  obtain⟨x3,rfl,o3⟩:=(Zy Go.Proofs.Tryz.underlying3) d _ h3
  obtain⟨x4,rfl,o4⟩:=(Zea Go.Proofs.Tryz.underlying25 (by kernel_rfl:Go.Proofs.Tryz.prog.bytesOf 3=8) (Zy Go.Proofs.Tryz.underlying3)) d _ h4
  obtain⟨x5,rfl,o5⟩:=(Zea Go.Proofs.Tryz.underlying42 (by kernel_rfl:Go.Proofs.Tryz.prog.bytesOf 79=176) Z2a) d _ h5
  exact⟨⟨x0,x1,x2,x3,x4,x5⟩,by simp only [Zbz,List.append_nil],o0,o1,o2,o3,o4,o5⟩
theorem Zap2:∀ (d:Nat) (ts:List Zf),WT Go.Proofs.Tryz.prog d 31 ts->∃ x,ts=Zad x/\Zadc x:=by
 intro d ts h
 cases d with
 | zero=>cases h
 | succ d=>
  simp only [WT,Go.Proofs.Tryz.underlying31] at h
  replace h:Seq (WT Go.Proofs.Tryz.prog d) [23,24,25,25,26,27,28,3,3,3,4,3,3,3,3,29,25,3,3] ts:=h
  simp only [Seq] at h
  obtain⟨_,_,rfl,h0,_,_,rfl,h1,_,_,rfl,h2,_,_,rfl,h3,_,_,rfl,h4,_,_,rfl,h5,_,_,rfl,h6,_,_,rfl,h7,_,_,rfl,h8,_,_,rfl,h9,_,_,rfl,h10,_,_,rfl,h11,_,_,rfl,h12,_,_,rfl,h13,_,_,rfl,h14,_,_,rfl,h15,_,_,rfl,h16,_,_,rfl,h17,_,_,rfl,h18,rfl⟩:=h
  obtain⟨x0,rfl,o0⟩:=(Zea Go.Proofs.Tryz.underlying23 (by kernel_rfl:Go.Proofs.Tryz.prog.bytesOf 119=152) Zanu) d _ h0
  obtain⟨x1,rfl,o1⟩:=(Zea Go.Proofs.Tryz.underlying24 (by kernel_rfl:Go.Proofs.Tryz.prog.bytesOf 56=128) Zanv) d _ h1
  obtain⟨x2,rfl,o2⟩:=(Zea Go.Proofs.Tryz.underlying25 (by kernel_rfl:Go.Proofs.Tryz.prog.bytesOf 3=8) (Zy Go.Proofs.Tryz.underlying3)) d _ h2
  obtain⟨x3,rfl,o3⟩:=(Zea Go.Proofs.Tryz.underlying25 (by kernel_rfl:Go.Proofs.Tryz.prog.bytesOf 3=8) (Zy Go.Proofs.Tryz.underlying3)) d _ h3
  obtain⟨x4,rfl,o4⟩:=(Zea Go.Proofs.Tryz.underlying26 (by kernel_rfl:Go.Proofs.Tryz.prog.bytesOf 160=824) Zas3) d _ h4
  obtain⟨x5,rfl,o5⟩:=(Zea Go.Proofs.Tryz.underlying27 (by kernel_rfl:Go.Proofs.Tryz.prog.bytesOf 162=768) Zajs) d _ h5
  obtain⟨x6,rfl,o6⟩:=(Zea Go.Proofs.Tryz.underlying28 (by kernel_rfl:Go.Proofs.Tryz.prog.bytesOf 93=80) Zas4) d _ h6
  obtain⟨x7,rfl,o7⟩:=(Zy Go.Proofs.Tryz.underlying3) d _ h7
  obtain⟨x8,rfl,o8⟩:=(Zy Go.Proofs.Tryz.underlying3) d _ h8
  obtain⟨x9,rfl,o9⟩:=(Zy Go.Proofs.Tryz.underlying3) d _ h9
  obtain⟨x10,rfl,o10⟩:=(Zfm Go.Proofs.Tryz.underlying4) d _ h10
  obtain⟨x11,rfl,o11⟩:=(Zy Go.Proofs.Tryz.underlying3) d _ h11
  obtain⟨x12,rfl,o12⟩:=(Zy Go.Proofs.Tryz.underlying3) d _ h12
  obtain⟨x13,rfl,o13⟩:=(Zy Go.Proofs.Tryz.underlying3) d _ h13
  obtain⟨x14,rfl,o14⟩:=(Zy Go.Proofs.Tryz.underlying3) d _ h14
  obtain⟨x15,rfl,o15⟩:=(Zy Go.Proofs.Tryz.underlying29) d _ h15
  obtain⟨x16,rfl,o16⟩:=(Zea Go.Proofs.Tryz.underlying25 (by kernel_rfl:Go.Proofs.Tryz.prog.bytesOf 3=8) (Zy Go.Proofs.Tryz.underlying3)) d _ h16
  obtain⟨x17,rfl,o17⟩:=(Zy Go.Proofs.Tryz.underlying3) d _ h17
  obtain⟨x18,rfl,o18⟩:=(Zy Go.Proofs.Tryz.underlying3) d _ h18
  exact⟨⟨x0,x1,x2,x3,x4,x5,x6,x7,x8,x9,x10,x11,x12,x13,x14,x15,x16,x17,x18⟩,by simp only [Zad,List.append_nil],o0,o1,o2,o3,o4,o5,o6,o7,o8,o9,o10,o11,o12,o13,o14,o15,o16,o17,o18⟩
end Go.PW
