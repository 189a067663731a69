import Derived.Test.YtnoofnejcoadfaaGreatDoorQT
import Derived.Test.YtnoofnejcoadfaaGreatDoorQE
set_option linter.all false
set_option maxRecDepth 100000
namespace Go.PW
open Go.RowKit
theorem Z7d : ∀ (d : Nat) (ts : List Zf), WT Go.Proofs.Tryz.prog d 78 ts → ∃ x, ts = Zaq x ∧ Z1j x := by
 intro d ts h
 cases d with
 | zero => cases h
 | succ d =>
  simp only [WT, Go.Proofs.Tryz.underlying78] at h
  replace h : Seq (WT Go.Proofs.Tryz.prog d) [3, 3, 76] ts := h
  simp only [Seq] at h
  obtain ⟨_, _, rfl, h0, _, _, rfl, h1, _, _, rfl, h2, rfl⟩ := h
  obtain ⟨x0, rfl, o0⟩ := (Z1 Go.Proofs.Tryz.underlying3) d _ h0
  obtain ⟨x1, rfl, o1⟩ := (Z1 Go.Proofs.Tryz.underlying3) d _ h1
  obtain ⟨x2, rfl, o2⟩ := (Za8y Go.Proofs.Tryz.underlying76 (Z1 Go.Proofs.Tryz.underlying3)) d _ h2
  exact ⟨⟨x0, x1, x2⟩, by simp only [Zaq, List.append_nil], o0, o1, o2⟩
theorem Zarv : ∀ (d : Nat) (ts : List Zf), WT Go.Proofs.Tryz.prog d 75 ts → ∃ x, ts = Zd6 x ∧ Z1k x := by
 intro d ts h
 cases d with
 | zero => cases h
 | succ d =>
  simp only [WT, Go.Proofs.Tryz.underlying75] at h
  replace h : Seq (WT Go.Proofs.Tryz.prog d) [3, 3, 73] ts := h
  simp only [Seq] at h
  obtain ⟨_, _, rfl, h0, _, _, rfl, h1, _, _, rfl, h2, rfl⟩ := h
  obtain ⟨x0, rfl, o0⟩ := (Z1 Go.Proofs.Tryz.underlying3) d _ h0
  obtain ⟨x1, rfl, o1⟩ := (Z1 Go.Proofs.Tryz.underlying3) d _ h1
  obtain ⟨x2, rfl, o2⟩ := (Zcz Go.Proofs.Tryz.underlying73 (by kernel_rfl : Go.Proofs.Tryz.prog.bytesOf 9 = 16) (Z70 Go.Proofs.Tryz.underlying9)) d _ h2
  exact ⟨⟨x0, x1, x2⟩, by simp only [Zd6, List.append_nil], o0, o1, o2⟩
theorem Zre : ∀ (d : Nat) (ts : List Zf), WT Go.Proofs.Tryz.prog d 39 ts → ∃ x, ts = Zck x ∧ Zpj x := by
 intro d ts h
 cases d with
 | zero => cases h
 | succ d =>
  simp only [WT, Go.Proofs.Tryz.underlying39] at h
  replace h : Seq (WT Go.Proofs.Tryz.prog d) [3, 3] ts := h
  simp only [Seq] at h
  obtain ⟨_, _, rfl, h0, _, _, rfl, h1, rfl⟩ := h
  obtain ⟨x0, rfl, o0⟩ := (Z1 Go.Proofs.Tryz.underlying3) d _ h0
  obtain ⟨x1, rfl, o1⟩ := (Z1 Go.Proofs.Tryz.underlying3) d _ h1
  exact ⟨⟨x0, x1⟩, by simp only [Zck, List.append_nil], o0, o1⟩
theorem Zd0 : ∀ (d : Nat) (ts : List Zf), WT Go.Proofs.Tryz.prog d 41 ts → ∃ x, ts = Zm x ∧ Zdk x := by
 intro d ts h
 cases d with
 | zero => cases h
 | succ d =>
  simp only [WT, Go.Proofs.Tryz.underlying41] at h
  replace h : Seq (WT Go.Proofs.Tryz.prog d) [3, 3, 3, 3, 3, 3, 3, 9, 3, 3, 39, 39, 39] ts := h
  simp only [Seq] at h
  obtain ⟨_, _, rfl, h0, _, _, rfl, h1, _, _, rfl, h2, _, _, rfl, h3, _, _, rfl, h4, _, _, rfl, h5, _, _, rfl, h6, _, _, rfl, h7, _, _, rfl, h8, _, _, rfl, h9, _, _, rfl, h10, _, _, rfl, h11, _, _, rfl, h12, rfl⟩ := h
  obtain ⟨x0, rfl, o0⟩ := (Z1 Go.Proofs.Tryz.underlying3) d _ h0
  obtain ⟨x1, rfl, o1⟩ := (Z1 Go.Proofs.Tryz.underlying3) d _ h1
  obtain ⟨x2, rfl, o2⟩ := (Z1 Go.Proofs.Tryz.underlying3) d _ h2
  obtain ⟨x3, rfl, o3⟩ := (Z1 Go.Proofs.Tryz.underlying3) d _ h3
  obtain ⟨x4, rfl, o4⟩ := (Z1 Go.Proofs.Tryz.underlying3) d _ h4
  obtain ⟨x5, rfl, o5⟩ := (Z1 Go.Proofs.Tryz.underlying3) d _ h5
  obtain ⟨x6, rfl, o6⟩ := (Z1 Go.Proofs.Tryz.underlying3) d _ h6
  obtain ⟨x7, rfl, o7⟩ := (Z70 Go.Proofs.Tryz.underlying9) d _ h7
  obtain ⟨x8, rfl, o8⟩ := (Z1 Go.Proofs.Tryz.underlying3) d _ h8
  obtain ⟨x9, rfl, o9⟩ := (Z1 Go.Proofs.Tryz.underlying3) d _ h9
  obtain ⟨x10, rfl, o10⟩ := Zre d _ h10
  obtain ⟨x11, rfl, o11⟩ := Zre d _ h11
  obtain ⟨x12, rfl, o12⟩ := Zre d _ h12
  exact ⟨⟨x0, x1, x2, x3, x4, x5, x6, x7, x8, x9, x10, x11, x12⟩, by simp only [Zm, List.append_nil], o0, o1, o2, o3, o4, o5, o6, o7, o8, o9, o10, o11, o12⟩
theorem Zyg : ∀ (d : Nat) (ts : List Zf), WT Go.Proofs.Tryz.prog d 164 ts → ∃ x, ts = Z0 x ∧ Zpk x := by
 intro d ts h
 cases d with
 | zero => cases h
 | succ d =>
  simp only [WT, Go.Proofs.Tryz.underlying164] at h
  replace h : Seq (WT Go.Proofs.Tryz.prog d) [3, 3, 3, 9, 41] ts := h
  simp only [Seq] at h
  obtain ⟨_, _, rfl, h0, _, _, rfl, h1, _, _, rfl, h2, _, _, rfl, h3, _, _, rfl, h4, rfl⟩ := h
  obtain ⟨x0, rfl, o0⟩ := (Z1 Go.Proofs.Tryz.underlying3) d _ h0
  obtain ⟨x1, rfl, o1⟩ := (Z1 Go.Proofs.Tryz.underlying3) d _ h1
  obtain ⟨x2, rfl, o2⟩ := (Z1 Go.Proofs.Tryz.underlying3) d _ h2
  obtain ⟨x3, rfl, o3⟩ := (Z70 Go.Proofs.Tryz.underlying9) d _ h3
  obtain ⟨x4, rfl, o4⟩ := Zd0 d _ h4
  exact ⟨⟨x0, x1, x2, x3, x4⟩, by simp only [Z0, List.append_nil], o0, o1, o2, o3, o4⟩
theorem Zaop : ∀ (d : Nat) (ts : List Zf), WT Go.Proofs.Tryz.prog d 136 ts → ∃ x, ts = Ze9 x ∧ Zaam x := by
 intro d ts h
 cases d with
 | zero => cases h
 | succ d =>
  simp only [WT, Go.Proofs.Tryz.underlying136] at h
  replace h : Seq (WT Go.Proofs.Tryz.prog d) [78, 4, 4, 3] ts := h
  simp only [Seq] at h
  obtain ⟨_, _, rfl, h0, _, _, rfl, h1, _, _, rfl, h2, _, _, rfl, h3, rfl⟩ := h
  obtain ⟨x0, rfl, o0⟩ := Z7d d _ h0
  obtain ⟨x1, rfl, o1⟩ := (Zd2 Go.Proofs.Tryz.underlying4) d _ h1
  obtain ⟨x2, rfl, o2⟩ := (Zd2 Go.Proofs.Tryz.underlying4) d _ h2
  obtain ⟨x3, rfl, o3⟩ := (Z1 Go.Proofs.Tryz.underlying3) d _ h3
  exact ⟨⟨x0, x1, x2, x3⟩, by simp only [Ze9, List.append_nil], o0, o1, o2, o3⟩
theorem Zahj : ∀ (d : Nat) (ts : List Zf), WT Go.Proofs.Tryz.prog d 138 ts → ∃ x, ts = Zdj x ∧ Zq1 x := by
 intro d ts h
 cases d with
 | zero => cases h
 | succ d =>
  simp only [WT, Go.Proofs.Tryz.underlying138] at h
  replace h : Seq (WT Go.Proofs.Tryz.prog d) [3, 3, 41] ts := h
  simp only [Seq] at h
  obtain ⟨_, _, rfl, h0, _, _, rfl, h1, _, _, rfl, h2, rfl⟩ := h
  obtain ⟨x0, rfl, o0⟩ := (Z1 Go.Proofs.Tryz.underlying3) d _ h0
  obtain ⟨x1, rfl, o1⟩ := (Z1 Go.Proofs.Tryz.underlying3) d _ h1
  obtain ⟨x2, rfl, o2⟩ := Zd0 d _ h2
  exact ⟨⟨x0, x1, x2⟩, by simp only [Zdj, List.append_nil], o0, o1, o2⟩
theorem Zarw : ∀ (d : Nat) (ts : List Zf), WT Go.Proofs.Tryz.prog d 202 ts → ∃ x, ts = Za6 x ∧ Z1l x := by
 intro d ts h
 cases d with
 | zero => cases h
 | succ d =>
  simp only [WT, Go.Proofs.Tryz.underlying202] at h
  replace h : Seq (WT Go.Proofs.Tryz.prog d) [4, 4, 41] ts := h
  simp only [Seq] at h
  obtain ⟨_, _, rfl, h0, _, _, rfl, h1, _, _, rfl, h2, rfl⟩ := h
  obtain ⟨x0, rfl, o0⟩ := (Zd2 Go.Proofs.Tryz.underlying4) d _ h0
  obtain ⟨x1, rfl, o1⟩ := (Zd2 Go.Proofs.Tryz.underlying4) d _ h1
  obtain ⟨x2, rfl, o2⟩ := Zd0 d _ h2
  exact ⟨⟨x0, x1, x2⟩, by simp only [Za6, List.append_nil], o0, o1, o2⟩
theorem Zabf : ∀ (d : Nat) (ts : List Zf), WT Go.Proofs.Tryz.prog d 45 ts → ∃ x, ts = Zbg x ∧ Zvb x := by
 intro d ts h
 cases d with
 | zero => cases h
 | succ d =>
  simp only [WT, Go.Proofs.Tryz.underlying45] at h
  replace h : Seq (WT Go.Proofs.Tryz.prog d) [3, 3, 41] ts := h
  simp only [Seq] at h
  obtain ⟨_, _, rfl, h0, _, _, rfl, h1, _, _, rfl, h2, rfl⟩ := h
  obtain ⟨x0, rfl, o0⟩ := (Z1 Go.Proofs.Tryz.underlying3) d _ h0
  obtain ⟨x1, rfl, o1⟩ := (Z1 Go.Proofs.Tryz.underlying3) d _ h1
  obtain ⟨x2, rfl, o2⟩ := Zd0 d _ h2
  exact ⟨⟨x0, x1, x2⟩, by simp only [Zbg, List.append_nil], o0, o1, o2⟩
theorem Zz0 : ∀ (d : Nat) (ts : List Zf), WT Go.Proofs.Tryz.prog d 43 ts → ∃ x, ts = Zah x ∧ Zms x := by
 intro d ts h
 cases d with
 | zero => cases h
 | succ d =>
  simp only [WT, Go.Proofs.Tryz.underlying43] at h
  replace h : Seq (WT Go.Proofs.Tryz.prog d) [3, 3, 3, 41] ts := h
  simp only [Seq] at h
  obtain ⟨_, _, rfl, h0, _, _, rfl, h1, _, _, rfl, h2, _, _, rfl, h3, rfl⟩ := h
  obtain ⟨x0, rfl, o0⟩ := (Z1 Go.Proofs.Tryz.underlying3) d _ h0
  obtain ⟨x1, rfl, o1⟩ := (Z1 Go.Proofs.Tryz.underlying3) d _ h1
  obtain ⟨x2, rfl, o2⟩ := (Z1 Go.Proofs.Tryz.underlying3) d _ h2
  obtain ⟨x3, rfl, o3⟩ := Zd0 d _ h3
  exact ⟨⟨x0, x1, x2, x3⟩, by simp only [Zah, List.append_nil], o0, o1, o2, o3⟩
theorem Zal9 : ∀ (d : Nat) (ts : List Zf), WT Go.Proofs.Tryz.prog d 146 ts → ∃ x, ts = Z5 x ∧ Zt0 x := by
 intro d ts h
 cases d with
 | zero => cases h
 | succ d =>
  simp only [WT, Go.Proofs.Tryz.underlying146] at h
  replace h : Seq (WT Go.Proofs.Tryz.prog d) [3, 45, 43, 3, 3, 9, 41, 58, 120] ts := h
  simp only [Seq] at h
  obtain ⟨_, _, rfl, h0, _, _, rfl, h1, _, _, rfl, h2, _, _, rfl, h3, _, _, rfl, h4, _, _, rfl, h5, _, _, rfl, h6, _, _, rfl, h7, _, _, rfl, h8, rfl⟩ := h
  obtain ⟨x0, rfl, o0⟩ := (Z1 Go.Proofs.Tryz.underlying3) d _ h0
  obtain ⟨x1, rfl, o1⟩ := Zabf d _ h1
  obtain ⟨x2, rfl, o2⟩ := Zz0 d _ h2
  obtain ⟨x3, rfl, o3⟩ := (Z1 Go.Proofs.Tryz.underlying3) d _ h3
  obtain ⟨x4, rfl, o4⟩ := (Z1 Go.Proofs.Tryz.underlying3) d _ h4
  obtain ⟨x5, rfl, o5⟩ := (Z70 Go.Proofs.Tryz.underlying9) d _ h5
  obtain ⟨x6, rfl, o6⟩ := Zd0 d _ h6
  obtain ⟨x7, rfl, o7⟩ := (Za57 Go.Proofs.Tryz.underlying58 (Z1 Go.Proofs.Tryz.underlying3)) d _ h7
  obtain ⟨x8, rfl, o8⟩ := (Zcz Go.Proofs.Tryz.underlying120 (by kernel_rfl : Go.Proofs.Tryz.prog.bytesOf 164 = 176) Zyg) d _ h8
  exact ⟨⟨x0, x1, x2, x3, x4, x5, x6, x7, x8⟩, by simp only [Z5, List.append_nil], o0, o1, o2, o3, o4, o5, o6, o7, o8⟩
theorem Zahk : ∀ (d : Nat) (ts : List Zf), WT Go.Proofs.Tryz.prog d 142 ts → ∃ x, ts = Zbu x ∧ Zq2 x := by
 intro d ts h
 cases d with
 | zero => cases h
 | succ d =>
  simp only [WT, Go.Proofs.Tryz.underlying142] at h
  replace h : Seq (WT Go.Proofs.Tryz.prog d) [3, 3, 41, 3, 3, 3, 3] ts := h
  simp only [Seq] at h
  obtain ⟨_, _, rfl, h0, _, _, rfl, h1, _, _, rfl, h2, _, _, rfl, h3, _, _, rfl, h4, _, _, rfl, h5, _, _, rfl, h6, rfl⟩ := h
  obtain ⟨x0, rfl, o0⟩ := (Z1 Go.Proofs.Tryz.underlying3) d _ h0
  obtain ⟨x1, rfl, o1⟩ := (Z1 Go.Proofs.Tryz.underlying3) d _ h1
  obtain ⟨x2, rfl, o2⟩ := Zd0 d _ h2
  obtain ⟨x3, rfl, o3⟩ := (Z1 Go.Proofs.Tryz.underlying3) d _ h3
  obtain ⟨x4, rfl, o4⟩ := (Z1 Go.Proofs.Tryz.underlying3) d _ h4
  obtain ⟨x5, rfl, o5⟩ := (Z1 Go.Proofs.Tryz.underlying3) d _ h5
  obtain ⟨x6, rfl, o6⟩ := (Z1 Go.Proofs.Tryz.underlying3) d _ h6
  exact ⟨⟨x0, x1, x2, x3, x4, x5, x6⟩, by simp only [Zbu, List.append_nil], o0, o1, o2, o3, o4, o5, o6⟩
theorem Znl : ∀ (d : Nat) (ts : List Zf), WT Go.Proofs.Tryz.prog d 144 ts → ∃ x, ts = Zu x ∧ Zie x := by
 intro d ts h
 cases d with
 | zero => cases h
 | succ d =>
  simp only [WT, Go.Proofs.Tryz.underlying144] at h
  replace h : Seq (WT Go.Proofs.Tryz.prog d) [3, 41, 120, 136, 4, 138, 4, 139, 140, 142] ts := h
  simp only [Seq] at h
  obtain ⟨_, _, rfl, h0, _, _, rfl, h1, _, _, rfl, h2, _, _, rfl, h3, _, _, rfl, h4, _, _, rfl, h5, _, _, rfl, h6, _, _, rfl, h7, _, _, rfl, h8, _, _, rfl, h9, rfl⟩ := h
  obtain ⟨x0, rfl, o0⟩ := (Z1 Go.Proofs.Tryz.underlying3) d _ h0
  obtain ⟨x1, rfl, o1⟩ := Zd0 d _ h1
  obtain ⟨x2, rfl, o2⟩ := (Zcz Go.Proofs.Tryz.underlying120 (by kernel_rfl : Go.Proofs.Tryz.prog.bytesOf 164 = 176) Zyg) d _ h2
  obtain ⟨x3, rfl, o3⟩ := Zaop d _ h3
  obtain ⟨x4, rfl, o4⟩ := (Zd2 Go.Proofs.Tryz.underlying4) d _ h4
  obtain ⟨x5, rfl, o5⟩ := Zahj d _ h5
  obtain ⟨x6, rfl, o6⟩ := (Zd2 Go.Proofs.Tryz.underlying4) d _ h6
  obtain ⟨x7, rfl, o7⟩ := (Zcz Go.Proofs.Tryz.underlying139 (by kernel_rfl : Go.Proofs.Tryz.prog.bytesOf 202 = 144) Zarw) d _ h7
  obtain ⟨x8, rfl, o8⟩ := (Zcz Go.Proofs.Tryz.underlying140 (by kernel_rfl : Go.Proofs.Tryz.prog.bytesOf 146 = 560) Zal9) d _ h8
  obtain ⟨x9, rfl, o9⟩ := Zahk d _ h9
  exact ⟨⟨x0, x1, x2, x3, x4, x5, x6, x7, x8, x9⟩, by simp only [Zu, List.append_nil], o0, o1, o2, o3, o4, o5, o6, o7, o8, o9⟩
theorem Zarx : ∀ (d : Nat) (ts : List Zf), WT Go.Proofs.Tryz.prog d 111 ts → ∃ x, ts = Z6 x ∧ Zaes x := by
 intro d ts h
 cases d with
 | zero => cases h
 | succ d =>
  simp only [WT, Go.Proofs.Tryz.underlying111] at h
  replace h : Seq (WT Go.Proofs.Tryz.prog d) [9, 4, 78, 3, 75, 3, 3, 3, 79] ts := h
  simp only [Seq] at h
  obtain ⟨_, _, rfl, h0, _, _, rfl, h1, _, _, rfl, h2, _, _, rfl, h3, _, _, rfl, h4, _, _, rfl, h5, _, _, rfl, h6, _, _, rfl, h7, _, _, rfl, h8, rfl⟩ := h
  obtain ⟨x0, rfl, o0⟩ := (Z70 Go.Proofs.Tryz.underlying9) d _ h0
  obtain ⟨x1, rfl, o1⟩ := (Zd2 Go.Proofs.Tryz.underlying4) d _ h1
  obtain ⟨x2, rfl, o2⟩ := Z7d d _ h2
  obtain ⟨x3, rfl, o3⟩ := (Z1 Go.Proofs.Tryz.underlying3) d _ h3
  obtain ⟨x4, rfl, o4⟩ := Zarv d _ h4
  obtain ⟨x5, rfl, o5⟩ := (Z1 Go.Proofs.Tryz.underlying3) d _ h5
  obtain ⟨x6, rfl, o6⟩ := (Z1 Go.Proofs.Tryz.underlying3) d _ h6
  obtain ⟨x7, rfl, o7⟩ := (Z1 Go.Proofs.Tryz.underlying3) d _ h7
  obtain ⟨x8, rfl, o8⟩ := (Zcz Go.Proofs.Tryz.underlying79 (by kernel_rfl : Go.Proofs.Tryz.prog.bytesOf 144 = 640) Znl) d _ h8
  exact ⟨⟨x0, x1, x2, x3, x4, x5, x6, x7, x8⟩, by simp only [Z6, List.append_nil], o0, o1, o2, o3, o4, o5, o6, o7, o8⟩
theorem Zama : ∀ (d : Nat) (ts : List Zf), WT Go.Proofs.Tryz.prog d 60 ts → ∃ x, ts = Z2 x ∧ Zt1 x := by
 intro d ts h
 cases d with
 | zero => cases h
 | succ d =>
  simp only [WT, Go.Proofs.Tryz.underlying60] at h
  replace h : Seq (WT Go.Proofs.Tryz.prog d) [3, 3, 3, 58, 4, 4, 25, 25, 25] ts := h
  simp only [Seq] at h
  obtain ⟨_, _, rfl, h0, _, _, rfl, h1, _, _, rfl, h2, _, _, rfl, h3, _, _, rfl, h4, _, _, rfl, h5, _, _, rfl, h6, _, _, rfl, h7, _, _, rfl, h8, rfl⟩ := h
  obtain ⟨x0, rfl, o0⟩ := (Z1 Go.Proofs.Tryz.underlying3) d _ h0
  obtain ⟨x1, rfl, o1⟩ := (Z1 Go.Proofs.Tryz.underlying3) d _ h1
  obtain ⟨x2, rfl, o2⟩ := (Z1 Go.Proofs.Tryz.underlying3) d _ h2
  obtain ⟨x3, rfl, o3⟩ := (Za57 Go.Proofs.Tryz.underlying58 (Z1 Go.Proofs.Tryz.underlying3)) d _ h3
  obtain ⟨x4, rfl, o4⟩ := (Zd2 Go.Proofs.Tryz.underlying4) d _ h4
  obtain ⟨x5, rfl, o5⟩ := (Zd2 Go.Proofs.Tryz.underlying4) d _ h5
  obtain ⟨x6, rfl, o6⟩ := (Zcz Go.Proofs.Tryz.underlying25 (by kernel_rfl : Go.Proofs.Tryz.prog.bytesOf 3 = 8) (Z1 Go.Proofs.Tryz.underlying3)) d _ h6
  obtain ⟨x7, rfl, o7⟩ := (Zcz Go.Proofs.Tryz.underlying25 (by kernel_rfl : Go.Proofs.Tryz.prog.bytesOf 3 = 8) (Z1 Go.Proofs.Tryz.underlying3)) d _ h7
  obtain ⟨x8, rfl, o8⟩ := (Zcz Go.Proofs.Tryz.underlying25 (by kernel_rfl : Go.Proofs.Tryz.prog.bytesOf 3 = 8) (Z1 Go.Proofs.Tryz.underlying3)) d _ h8
  exact ⟨⟨x0, x1, x2, x3, x4, x5, x6, x7, x8⟩, by simp only [Z2, List.append_nil], o0, o1, o2, o3, o4, o5, o6, o7, o8⟩
theorem Zamb : ∀ (d : Nat) (ts : List Zf), WT Go.Proofs.Tryz.prog d 62 ts → ∃ x, ts = Zh x ∧ Z6y x := by
 intro d ts h
 cases d with
 | zero => cases h
 | succ d =>
  simp only [WT, Go.Proofs.Tryz.underlying62] at h
  replace h : Seq (WT Go.Proofs.Tryz.prog d) [3, 3, 3, 3, 3, 4, 4, 4, 4, 3, 33, 3, 3, 3, 4, 3, 3] ts := h
  simp only [Seq] at h
  obtain ⟨_, _, rfl, h0, _, _, rfl, h1, _, _, rfl, h2, _, _, rfl, h3, _, _, rfl, h4, _, _, rfl, h5, _, _, rfl, h6, _, _, rfl, h7, _, _, rfl, h8, _, _, rfl, h9, _, _, rfl, h10, _, _, rfl, h11, _, _, rfl, h12, _, _, rfl, h13, _, _, rfl, h14, _, _, rfl, h15, _, _, rfl, h16, rfl⟩ := h
  obtain ⟨x0, rfl, o0⟩ := (Z1 Go.Proofs.Tryz.underlying3) d _ h0
  obtain ⟨x1, rfl, o1⟩ := (Z1 Go.Proofs.Tryz.underlying3) d _ h1
  obtain ⟨x2, rfl, o2⟩ := (Z1 Go.Proofs.Tryz.underlying3) d _ h2
  obtain ⟨x3, rfl, o3⟩ := (Z1 Go.Proofs.Tryz.underlying3) d _ h3
  obtain ⟨x4, rfl, o4⟩ := (Z1 Go.Proofs.Tryz.underlying3) d _ h4
  obtain ⟨x5, rfl, o5⟩ := (Zd2 Go.Proofs.Tryz.underlying4) d _ h5
  obtain ⟨x6, rfl, o6⟩ := (Zd2 Go.Proofs.Tryz.underlying4) d _ h6
  obtain ⟨x7, rfl, o7⟩ := (Zd2 Go.Proofs.Tryz.underlying4) d _ h7
  obtain ⟨x8, rfl, o8⟩ := (Zd2 Go.Proofs.Tryz.underlying4) d _ h8
  obtain ⟨x9, rfl, o9⟩ := (Z1 Go.Proofs.Tryz.underlying3) d _ h9
  obtain ⟨x10, rfl, o10⟩ := (Za56 Go.Proofs.Tryz.underlying33 (Z1 Go.Proofs.Tryz.underlying3)) d _ h10
  obtain ⟨x11, rfl, o11⟩ := (Z1 Go.Proofs.Tryz.underlying3) d _ h11
  obtain ⟨x12, rfl, o12⟩ := (Z1 Go.Proofs.Tryz.underlying3) d _ h12
  obtain ⟨x13, rfl, o13⟩ := (Z1 Go.Proofs.Tryz.underlying3) d _ h13
  obtain ⟨x14, rfl, o14⟩ := (Zd2 Go.Proofs.Tryz.underlying4) d _ h14
  obtain ⟨x15, rfl, o15⟩ := (Z1 Go.Proofs.Tryz.underlying3) d _ h15
  obtain ⟨x16, rfl, o16⟩ := (Z1 Go.Proofs.Tryz.underlying3) d _ h16
  exact ⟨⟨x0, x1, x2, x3, x4, x5, x6, x7, x8, x9, x10, x11, x12, x13, x14, x15, x16⟩, by simp only [Zh, List.append_nil], o0, o1, o2, o3, o4, o5, o6, o7, o8, o9, o10, o11, o12, o13, o14, o15, o16⟩
theorem Zz1 : ∀ (d : Nat) (ts : List Zf), WT Go.Proofs.Tryz.prog d 83 ts → ∃ x, ts = Zbj x ∧ Zt2 x := by
 intro d ts h
 cases d with
 | zero => cases h
 | succ d =>
  simp only [WT, Go.Proofs.Tryz.underlying83] at h
  replace h : Seq (WT Go.Proofs.Tryz.prog d) [3, 3] ts := h
  simp only [Seq] at h
  obtain ⟨_, _, rfl, h0, _, _, rfl, h1, rfl⟩ := h
  obtain ⟨x0, rfl, o0⟩ := (Z1 Go.Proofs.Tryz.underlying3) d _ h0
  obtain ⟨x1, rfl, o1⟩ := (Z1 Go.Proofs.Tryz.underlying3) d _ h1
  exact ⟨⟨x0, x1⟩, by simp only [Zbj, List.append_nil], o0, o1⟩
theorem Zrf : ∀ (d : Nat) (ts : List Zf), WT Go.Proofs.Tryz.prog d 35 ts → ∃ x, ts = Zjp x ∧ Zpl x := by
 intro d ts h
 cases d with
 | zero => cases h
 | succ d =>
  simp only [WT, Go.Proofs.Tryz.underlying35] at h
  replace h : Seq (WT Go.Proofs.Tryz.prog d) [3, 3, 3, 3, 3, 3, 3, 3, 3, 3, 4, 4, 33] ts := h
  simp only [Seq] at h
  obtain ⟨_, _, rfl, h0, _, _, rfl, h1, _, _, rfl, h2, _, _, rfl, h3, _, _, rfl, h4, _, _, rfl, h5, _, _, rfl, h6, _, _, rfl, h7, _, _, rfl, h8, _, _, rfl, h9, _, _, rfl, h10, _, _, rfl, h11, _, _, rfl, h12, rfl⟩ := h
  obtain ⟨x0, rfl, o0⟩ := (Z1 Go.Proofs.Tryz.underlying3) d _ h0
  obtain ⟨x1, rfl, o1⟩ := (Z1 Go.Proofs.Tryz.underlying3) d _ h1
  obtain ⟨x2, rfl, o2⟩ := (Z1 Go.Proofs.Tryz.underlying3) d _ h2
  obtain ⟨x3, rfl, o3⟩ := (Z1 Go.Proofs.Tryz.underlying3) d _ h3
  obtain ⟨x4, rfl, o4⟩ := (Z1 Go.Proofs.Tryz.underlying3) d _ h4
  obtain ⟨x5, rfl, o5⟩ := (Z1 Go.Proofs.Tryz.underlying3) d _ h5
  obtain ⟨x6, rfl, o6⟩ := (Z1 Go.Proofs.Tryz.underlying3) d _ h6
  obtain ⟨x7, rfl, o7⟩ := (Z1 Go.Proofs.Tryz.underlying3) d _ h7
  obtain ⟨x8, rfl, o8⟩ := (Z1 Go.Proofs.Tryz.underlying3) d _ h8
  obtain ⟨x9, rfl, o9⟩ := (Z1 Go.Proofs.Tryz.underlying3) d _ h9
  obtain ⟨x10, rfl, o10⟩ := (Zd2 Go.Proofs.Tryz.underlying4) d _ h10
  obtain ⟨x11, rfl, o11⟩ := (Zd2 Go.Proofs.Tryz.underlying4) d _ h11
  obtain ⟨x12, rfl, o12⟩ := (Za56 Go.Proofs.Tryz.underlying33 (Z1 Go.Proofs.Tryz.underlying3)) d _ h12
  exact ⟨⟨x0, x1, x2, x3, x4, x5, x6, x7, x8, x9, x10, x11, x12⟩, by simp only [Zjp, List.append_nil], o0, o1, o2, o3, o4, o5, o6, o7, o8, o9, o10, o11, o12⟩
theorem Zary : ∀ (d : Nat) (ts : List Zf), WT Go.Proofs.Tryz.prog d 154 ts → ∃ x, ts = Zai x ∧ Z1m x := by
 intro d ts h
 cases d with
 | zero => cases h
 | succ d =>
  simp only [WT, Go.Proofs.Tryz.underlying154] at h
  replace h : Seq (WT Go.Proofs.Tryz.prog d) [3, 3, 3, 3, 3, 4, 144, 32, 35] ts := h
  simp only [Seq] at h
  obtain ⟨_, _, rfl, h0, _, _, rfl, h1, _, _, rfl, h2, _, _, rfl, h3, _, _, rfl, h4, _, _, rfl, h5, _, _, rfl, h6, _, _, rfl, h7, _, _, rfl, h8, rfl⟩ := h
  obtain ⟨x0, rfl, o0⟩ := (Z1 Go.Proofs.Tryz.underlying3) d _ h0
  obtain ⟨x1, rfl, o1⟩ := (Z1 Go.Proofs.Tryz.underlying3) d _ h1
  obtain ⟨x2, rfl, o2⟩ := (Z1 Go.Proofs.Tryz.underlying3) d _ h2
  obtain ⟨x3, rfl, o3⟩ := (Z1 Go.Proofs.Tryz.underlying3) d _ h3
  obtain ⟨x4, rfl, o4⟩ := (Z1 Go.Proofs.Tryz.underlying3) d _ h4
  obtain ⟨x5, rfl, o5⟩ := (Zd2 Go.Proofs.Tryz.underlying4) d _ h5
  obtain ⟨x6, rfl, o6⟩ := Znl d _ h6
  obtain ⟨x7, rfl, o7⟩ := (Zcz Go.Proofs.Tryz.underlying32 (by kernel_rfl : Go.Proofs.Tryz.prog.bytesOf 83 = 16) Zz1) d _ h7
  obtain ⟨x8, rfl, o8⟩ := Zrf d _ h8
  exact ⟨⟨x0, x1, x2, x3, x4, x5, x6, x7, x8⟩, by simp only [Zai, List.append_nil], o0, o1, o2, o3, o4, o5, o6, o7, o8⟩
theorem Zahl : ∀ (d : Nat) (ts : List Zf), WT Go.Proofs.Tryz.prog d 156 ts → ∃ x, ts = Zab x ∧ Zq3 x := by
 intro d ts h
 cases d with
 | zero => cases h
 | succ d =>
  simp only [WT, Go.Proofs.Tryz.underlying156] at h
  replace h : Seq (WT Go.Proofs.Tryz.prog d) [3, 3, 144, 35] ts := h
  simp only [Seq] at h
  obtain ⟨_, _, rfl, h0, _, _, rfl, h1, _, _, rfl, h2, _, _, rfl, h3, rfl⟩ := h
  obtain ⟨x0, rfl, o0⟩ := (Z1 Go.Proofs.Tryz.underlying3) d _ h0
  obtain ⟨x1, rfl, o1⟩ := (Z1 Go.Proofs.Tryz.underlying3) d _ h1
  obtain ⟨x2, rfl, o2⟩ := Znl d _ h2
  obtain ⟨x3, rfl, o3⟩ := Zrf d _ h3
  exact ⟨⟨x0, x1, x2, x3⟩, by simp only [Zab, List.append_nil], o0, o1, o2, o3⟩
theorem Zarz : ∀ (d : Nat) (ts : List Zf), WT Go.Proofs.Tryz.prog d 158 ts → ∃ x, ts = Zap x ∧ Z1n x := by
 intro d ts h
 cases d with
 | zero => cases h
 | succ d =>
  simp only [WT, Go.Proofs.Tryz.underlying158] at h
  replace h : Seq (WT Go.Proofs.Tryz.prog d) [3, 3, 3, 3, 25, 120] ts := h
  simp only [Seq] at h
  obtain ⟨_, _, rfl, h0, _, _, rfl, h1, _, _, rfl, h2, _, _, rfl, h3, _, _, rfl, h4, _, _, rfl, h5, rfl⟩ := h
  obtain ⟨x0, rfl, o0⟩ := (Z1 Go.Proofs.Tryz.underlying3) d _ h0
  obtain ⟨x1, rfl, o1⟩ := (Z1 Go.Proofs.Tryz.underlying3) d _ h1
  obtain ⟨x2, rfl, o2⟩ := (Z1 Go.Proofs.Tryz.underlying3) d _ h2
  obtain ⟨x3, rfl, o3⟩ := (Z1 Go.Proofs.Tryz.underlying3) d _ h3
  obtain ⟨x4, rfl, o4⟩ := (Zcz Go.Proofs.Tryz.underlying25 (by kernel_rfl : Go.Proofs.Tryz.prog.bytesOf 3 = 8) (Z1 Go.Proofs.Tryz.underlying3)) d _ h4
  obtain ⟨x5, rfl, o5⟩ := (Zcz Go.Proofs.Tryz.underlying120 (by kernel_rfl : Go.Proofs.Tryz.prog.bytesOf 164 = 176) Zyg) d _ h5
  exact ⟨⟨x0, x1, x2, x3, x4, x5⟩, by simp only [Zap, List.append_nil], o0, o1, o2, o3, o4, o5⟩
theorem Zaoq : ∀ (d : Nat) (ts : List Zf), WT Go.Proofs.Tryz.prog d 31 ts → ∃ x, ts = Zo x ∧ Zaan x := by
 intro d ts h
 cases d with
 | zero => cases h
 | succ d =>
  simp only [WT, Go.Proofs.Tryz.underlying31] at h
  replace h : Seq (WT Go.Proofs.Tryz.prog d) [23, 24, 25, 25, 26, 27, 28, 3, 3, 3, 4, 3, 3, 3, 3, 29, 25, 3, 3] ts := h
  simp only [Seq] at h
  obtain ⟨_, _, rfl, h0, _, _, rfl, h1, _, _, rfl, h2, _, _, rfl, h3, _, _, rfl, h4, _, _, rfl, h5, _, _, rfl, h6, _, _, rfl, h7, _, _, rfl, h8, _, _, rfl, h9, _, _, rfl, h10, _, _, rfl, h11, _, _, rfl, h12, _, _, rfl, h13, _, _, rfl, h14, _, _, rfl, h15, _, _, rfl, h16, _, _, rfl, h17, _, _, rfl, h18, rfl⟩ := h
  obtain ⟨x0, rfl, o0⟩ := (Zcz Go.Proofs.Tryz.underlying23 (by kernel_rfl : Go.Proofs.Tryz.prog.bytesOf 60 = 152) Zama) d _ h0
  obtain ⟨x1, rfl, o1⟩ := (Zcz Go.Proofs.Tryz.underlying24 (by kernel_rfl : Go.Proofs.Tryz.prog.bytesOf 62 = 128) Zamb) d _ h1
  obtain ⟨x2, rfl, o2⟩ := (Zcz Go.Proofs.Tryz.underlying25 (by kernel_rfl : Go.Proofs.Tryz.prog.bytesOf 3 = 8) (Z1 Go.Proofs.Tryz.underlying3)) d _ h2
  obtain ⟨x3, rfl, o3⟩ := (Zcz Go.Proofs.Tryz.underlying25 (by kernel_rfl : Go.Proofs.Tryz.prog.bytesOf 3 = 8) (Z1 Go.Proofs.Tryz.underlying3)) d _ h3
  obtain ⟨x4, rfl, o4⟩ := (Zcz Go.Proofs.Tryz.underlying26 (by kernel_rfl : Go.Proofs.Tryz.prog.bytesOf 154 = 824) Zary) d _ h4
  obtain ⟨x5, rfl, o5⟩ := (Zcz Go.Proofs.Tryz.underlying27 (by kernel_rfl : Go.Proofs.Tryz.prog.bytesOf 156 = 768) Zahl) d _ h5
  obtain ⟨x6, rfl, o6⟩ := (Zcz Go.Proofs.Tryz.underlying28 (by kernel_rfl : Go.Proofs.Tryz.prog.bytesOf 158 = 80) Zarz) d _ h6
  obtain ⟨x7, rfl, o7⟩ := (Z1 Go.Proofs.Tryz.underlying3) d _ h7
  obtain ⟨x8, rfl, o8⟩ := (Z1 Go.Proofs.Tryz.underlying3) d _ h8
  obtain ⟨x9, rfl, o9⟩ := (Z1 Go.Proofs.Tryz.underlying3) d _ h9
  obtain ⟨x10, rfl, o10⟩ := (Zd2 Go.Proofs.Tryz.underlying4) d _ h10
  obtain ⟨x11, rfl, o11⟩ := (Z1 Go.Proofs.Tryz.underlying3) d _ h11
  obtain ⟨x12, rfl, o12⟩ := (Z1 Go.Proofs.Tryz.underlying3) d _ h12
  obtain ⟨x13, rfl, o13⟩ := (Z1 Go.Proofs.Tryz.underlying3) d _ h13
  obtain ⟨x14, rfl, o14⟩ := (Z1 Go.Proofs.Tryz.underlying3) d _ h14
  obtain ⟨x15, rfl, o15⟩ := (Z1 Go.Proofs.Tryz.underlying29) d _ h15
  obtain ⟨x16, rfl, o16⟩ := (Zcz Go.Proofs.Tryz.underlying25 (by kernel_rfl : Go.Proofs.Tryz.prog.bytesOf 3 = 8) (Z1 Go.Proofs.Tryz.underlying3)) d _ h16
  obtain ⟨x17, rfl, o17⟩ := (Z1 Go.Proofs.Tryz.underlying3) d _ h17
  obtain ⟨x18, rfl, o18⟩ := (Z1 Go.Proofs.Tryz.underlying3) d _ h18
  exact ⟨⟨x0, x1, x2, x3, x4, x5, x6, x7, x8, x9, x10, x11, x12, x13, x14, x15, x16, x17, x18⟩, by simp only [Zo, List.append_nil], o0, o1, o2, o3, o4, o5, o6, o7, o8, o9, o10, o11, o12, o13, o14, o15, o16, o17, o18⟩
theorem Zahm : ∀ (d : Nat) (ts : List Zf), WT Go.Proofs.Tryz.prog d 37 ts → ∃ x, ts = Zbo x ∧ Zq4 x := by
 intro d ts h
 cases d with
 | zero => cases h
 | succ d =>
  simp only [WT, Go.Proofs.Tryz.underlying37] at h
  replace h : Seq (WT Go.Proofs.Tryz.prog d) [3, 3, 3, 32, 35] ts := h
  simp only [Seq] at h
  obtain ⟨_, _, rfl, h0, _, _, rfl, h1, _, _, rfl, h2, _, _, rfl, h3, _, _, rfl, h4, rfl⟩ := h
  obtain ⟨x0, rfl, o0⟩ := (Z1 Go.Proofs.Tryz.underlying3) d _ h0
  obtain ⟨x1, rfl, o1⟩ := (Z1 Go.Proofs.Tryz.underlying3) d _ h1
  obtain ⟨x2, rfl, o2⟩ := (Z1 Go.Proofs.Tryz.underlying3) d _ h2
  obtain ⟨x3, rfl, o3⟩ := (Zcz Go.Proofs.Tryz.underlying32 (by kernel_rfl : Go.Proofs.Tryz.prog.bytesOf 83 = 16) Zz1) d _ h3
  obtain ⟨x4, rfl, o4⟩ := Zrf d _ h4
  exact ⟨⟨x0, x1, x2, x3, x4⟩, by simp only [Zbo, List.append_nil], o0, o1, o2, o3, o4⟩
theorem Zyh : ∀ (d : Nat) (ts : List Zf), WT Go.Proofs.Tryz.prog d 47 ts → ∃ x, ts = Zfn x ∧ Zmj x := by
 intro d ts h
 cases d with
 | zero => cases h
 | succ d =>
  simp only [WT, Go.Proofs.Tryz.underlying47] at h
  replace h : Seq (WT Go.Proofs.Tryz.prog d) [37, 43, 45] ts := h
  simp only [Seq] at h
  obtain ⟨_, _, rfl, h0, _, _, rfl, h1, _, _, rfl, h2, rfl⟩ := h
  obtain ⟨x0, rfl, o0⟩ := Zahm d _ h0
  obtain ⟨x1, rfl, o1⟩ := Zz0 d _ h1
  obtain ⟨x2, rfl, o2⟩ := Zabf d _ h2
  exact ⟨⟨x0, x1, x2⟩, by simp only [Zfn, List.append_nil], o0, o1, o2⟩
end Go.PW
