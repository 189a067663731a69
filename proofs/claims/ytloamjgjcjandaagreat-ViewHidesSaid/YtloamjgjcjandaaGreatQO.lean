import Derived.Test.YtloamjgjcjandaaGreatQT
import Derived.Test.YtloamjgjcjandaaGreatQE
set_option linter.all false
set_option maxRecDepth 100000
namespace Go.PW
open Go.RowKit
theorem Z3f : ∀ (d : Nat) (ts : List Zg), WT Go.Proofs.Tryz.prog d 84 ts → ∃ x, ts = Zbp x ∧ Zzy x := by
 intro d ts h
 cases d with
 | zero => cases h
 | succ d =>
  simp only [WT, Go.Proofs.Tryz.underlying84] at h
  replace h : Seq (WT Go.Proofs.Tryz.prog d) [3, 3, 82] ts := h
  simp only [Seq] at h
  obtain ⟨_, _, rfl, h0, _, _, rfl, h1, _, _, rfl, h2, rfl⟩ := h
  obtain ⟨x0, rfl, o0⟩ := (Zt Go.Proofs.Tryz.underlying3) d _ h0
  obtain ⟨x1, rfl, o1⟩ := (Zt Go.Proofs.Tryz.underlying3) d _ h1
  obtain ⟨x2, rfl, o2⟩ := (Zauq Go.Proofs.Tryz.underlying82 (Zt Go.Proofs.Tryz.underlying3)) d _ h2
  exact ⟨⟨x0, x1, x2⟩, by simp only [Zbp, List.append_nil], o0, o1, o2⟩
theorem Zah5 : ∀ (d : Nat) (ts : List Zg), WT Go.Proofs.Tryz.prog d 124 ts → ∃ x, ts = Zm0 x ∧ Zzz x := by
 intro d ts h
 cases d with
 | zero => cases h
 | succ d =>
  simp only [WT, Go.Proofs.Tryz.underlying124] at h
  replace h : Seq (WT Go.Proofs.Tryz.prog d) [3, 3, 122] ts := h
  simp only [Seq] at h
  obtain ⟨_, _, rfl, h0, _, _, rfl, h1, _, _, rfl, h2, rfl⟩ := h
  obtain ⟨x0, rfl, o0⟩ := (Zt Go.Proofs.Tryz.underlying3) d _ h0
  obtain ⟨x1, rfl, o1⟩ := (Zt Go.Proofs.Tryz.underlying3) d _ h1
  obtain ⟨x2, rfl, o2⟩ := (Zdi Go.Proofs.Tryz.underlying122 (by kernel_rfl : Go.Proofs.Tryz.prog.bytesOf 9 = 16) (Z5i Go.Proofs.Tryz.underlying9)) d _ h2
  exact ⟨⟨x0, x1, x2⟩, by simp only [Zm0, List.append_nil], o0, o1, o2⟩
theorem Zrv : ∀ (d : Nat) (ts : List Zg), WT Go.Proofs.Tryz.prog d 78 ts → ∃ x, ts = Zfu x ∧ Zqp x := by
 intro d ts h
 cases d with
 | zero => cases h
 | succ d =>
  simp only [WT, Go.Proofs.Tryz.underlying78] at h
  replace h : Seq (WT Go.Proofs.Tryz.prog d) [3, 3] ts := h
  simp only [Seq] at h
  obtain ⟨_, _, rfl, h0, _, _, rfl, h1, rfl⟩ := h
  obtain ⟨x0, rfl, o0⟩ := (Zt Go.Proofs.Tryz.underlying3) d _ h0
  obtain ⟨x1, rfl, o1⟩ := (Zt Go.Proofs.Tryz.underlying3) d _ h1
  exact ⟨⟨x0, x1⟩, by simp only [Zfu, List.append_nil], o0, o1⟩
theorem Zfr : ∀ (d : Nat) (ts : List Zg), WT Go.Proofs.Tryz.prog d 80 ts → ∃ x, ts = Zp x ∧ Zfb x := by
 intro d ts h
 cases d with
 | zero => cases h
 | succ d =>
  simp only [WT, Go.Proofs.Tryz.underlying80] at h
  replace h : Seq (WT Go.Proofs.Tryz.prog d) [3, 3, 3, 3, 3, 3, 3, 9, 3, 3, 78, 78, 78] ts := h
  simp only [Seq] at h
  obtain ⟨_, _, rfl, h0, _, _, rfl, h1, _, _, rfl, h2, _, _, rfl, h3, _, _, rfl, h4, _, _, rfl, h5, _, _, rfl, h6, _, _, rfl, h7, _, _, rfl, h8, _, _, rfl, h9, _, _, rfl, h10, _, _, rfl, h11, _, _, rfl, h12, rfl⟩ := h
  obtain ⟨x0, rfl, o0⟩ := (Zt Go.Proofs.Tryz.underlying3) d _ h0
  obtain ⟨x1, rfl, o1⟩ := (Zt Go.Proofs.Tryz.underlying3) d _ h1
  obtain ⟨x2, rfl, o2⟩ := (Zt Go.Proofs.Tryz.underlying3) d _ h2
  obtain ⟨x3, rfl, o3⟩ := (Zt Go.Proofs.Tryz.underlying3) d _ h3
  obtain ⟨x4, rfl, o4⟩ := (Zt Go.Proofs.Tryz.underlying3) d _ h4
  obtain ⟨x5, rfl, o5⟩ := (Zt Go.Proofs.Tryz.underlying3) d _ h5
  obtain ⟨x6, rfl, o6⟩ := (Zt Go.Proofs.Tryz.underlying3) d _ h6
  obtain ⟨x7, rfl, o7⟩ := (Z5i Go.Proofs.Tryz.underlying9) d _ h7
  obtain ⟨x8, rfl, o8⟩ := (Zt Go.Proofs.Tryz.underlying3) d _ h8
  obtain ⟨x9, rfl, o9⟩ := (Zt Go.Proofs.Tryz.underlying3) d _ h9
  obtain ⟨x10, rfl, o10⟩ := Zrv d _ h10
  obtain ⟨x11, rfl, o11⟩ := Zrv d _ h11
  obtain ⟨x12, rfl, o12⟩ := Zrv d _ h12
  exact ⟨⟨x0, x1, x2, x3, x4, x5, x6, x7, x8, x9, x10, x11, x12⟩, by simp only [Zp, List.append_nil], o0, o1, o2, o3, o4, o5, o6, o7, o8, o9, o10, o11, o12⟩
theorem Zxg : ∀ (d : Nat) (ts : List Zg), WT Go.Proofs.Tryz.prog d 136 ts → ∃ x, ts = Zn x ∧ Zqq x := by
 intro d ts h
 cases d with
 | zero => cases h
 | succ d =>
  simp only [WT, Go.Proofs.Tryz.underlying136] at h
  replace h : Seq (WT Go.Proofs.Tryz.prog d) [3, 3, 3, 9, 80] ts := h
  simp only [Seq] at h
  obtain ⟨_, _, rfl, h0, _, _, rfl, h1, _, _, rfl, h2, _, _, rfl, h3, _, _, rfl, h4, rfl⟩ := h
  obtain ⟨x0, rfl, o0⟩ := (Zt Go.Proofs.Tryz.underlying3) d _ h0
  obtain ⟨x1, rfl, o1⟩ := (Zt Go.Proofs.Tryz.underlying3) d _ h1
  obtain ⟨x2, rfl, o2⟩ := (Zt Go.Proofs.Tryz.underlying3) d _ h2
  obtain ⟨x3, rfl, o3⟩ := (Z5i Go.Proofs.Tryz.underlying9) d _ h3
  obtain ⟨x4, rfl, o4⟩ := Zfr d _ h4
  exact ⟨⟨x0, x1, x2, x3, x4⟩, by simp only [Zn, List.append_nil], o0, o1, o2, o3, o4⟩
theorem Zaf8 : ∀ (d : Nat) (ts : List Zg), WT Go.Proofs.Tryz.prog d 86 ts → ∃ x, ts = Zdb x ∧ Z5k x := by
 intro d ts h
 cases d with
 | zero => cases h
 | succ d =>
  simp only [WT, Go.Proofs.Tryz.underlying86] at h
  replace h : Seq (WT Go.Proofs.Tryz.prog d) [84, 4, 4, 3] ts := h
  simp only [Seq] at h
  obtain ⟨_, _, rfl, h0, _, _, rfl, h1, _, _, rfl, h2, _, _, rfl, h3, rfl⟩ := h
  obtain ⟨x0, rfl, o0⟩ := Z3f d _ h0
  obtain ⟨x1, rfl, o1⟩ := (Zfs Go.Proofs.Tryz.underlying4) d _ h1
  obtain ⟨x2, rfl, o2⟩ := (Zfs Go.Proofs.Tryz.underlying4) d _ h2
  obtain ⟨x3, rfl, o3⟩ := (Zt Go.Proofs.Tryz.underlying3) d _ h3
  exact ⟨⟨x0, x1, x2, x3⟩, by simp only [Zdb, List.append_nil], o0, o1, o2, o3⟩
theorem Zaa5 : ∀ (d : Nat) (ts : List Zg), WT Go.Proofs.Tryz.prog d 88 ts → ∃ x, ts = Zb8 x ∧ Zrq x := by
 intro d ts h
 cases d with
 | zero => cases h
 | succ d =>
  simp only [WT, Go.Proofs.Tryz.underlying88] at h
  replace h : Seq (WT Go.Proofs.Tryz.prog d) [3, 3, 80] ts := h
  simp only [Seq] at h
  obtain ⟨_, _, rfl, h0, _, _, rfl, h1, _, _, rfl, h2, rfl⟩ := h
  obtain ⟨x0, rfl, o0⟩ := (Zt Go.Proofs.Tryz.underlying3) d _ h0
  obtain ⟨x1, rfl, o1⟩ := (Zt Go.Proofs.Tryz.underlying3) d _ h1
  obtain ⟨x2, rfl, o2⟩ := Zfr d _ h2
  exact ⟨⟨x0, x1, x2⟩, by simp only [Zb8, List.append_nil], o0, o1, o2⟩
theorem Zah6 : ∀ (d : Nat) (ts : List Zg), WT Go.Proofs.Tryz.prog d 166 ts → ∃ x, ts = Zy x ∧ Zz0 x := by
 intro d ts h
 cases d with
 | zero => cases h
 | succ d =>
  simp only [WT, Go.Proofs.Tryz.underlying166] at h
  replace h : Seq (WT Go.Proofs.Tryz.prog d) [4, 4, 80] ts := h
  simp only [Seq] at h
  obtain ⟨_, _, rfl, h0, _, _, rfl, h1, _, _, rfl, h2, rfl⟩ := h
  obtain ⟨x0, rfl, o0⟩ := (Zfs Go.Proofs.Tryz.underlying4) d _ h0
  obtain ⟨x1, rfl, o1⟩ := (Zfs Go.Proofs.Tryz.underlying4) d _ h1
  obtain ⟨x2, rfl, o2⟩ := Zfr d _ h2
  exact ⟨⟨x0, x1, x2⟩, by simp only [Zy, List.append_nil], o0, o1, o2⟩
theorem Zamz : ∀ (d : Nat) (ts : List Zg), WT Go.Proofs.Tryz.prog d 139 ts → ∃ x, ts = Zct x ∧ Z2b x := by
 intro d ts h
 cases d with
 | zero => cases h
 | succ d =>
  simp only [WT, Go.Proofs.Tryz.underlying139] at h
  replace h : Seq (WT Go.Proofs.Tryz.prog d) [3, 3, 80] ts := h
  simp only [Seq] at h
  obtain ⟨_, _, rfl, h0, _, _, rfl, h1, _, _, rfl, h2, rfl⟩ := h
  obtain ⟨x0, rfl, o0⟩ := (Zt Go.Proofs.Tryz.underlying3) d _ h0
  obtain ⟨x1, rfl, o1⟩ := (Zt Go.Proofs.Tryz.underlying3) d _ h1
  obtain ⟨x2, rfl, o2⟩ := Zfr d _ h2
  exact ⟨⟨x0, x1, x2⟩, by simp only [Zct, List.append_nil], o0, o1, o2⟩
theorem Zaey : ∀ (d : Nat) (ts : List Zg), WT Go.Proofs.Tryz.prog d 141 ts → ∃ x, ts = Zbe x ∧ Zt0 x := by
 intro d ts h
 cases d with
 | zero => cases h
 | succ d =>
  simp only [WT, Go.Proofs.Tryz.underlying141] at h
  replace h : Seq (WT Go.Proofs.Tryz.prog d) [3, 3, 3, 80] ts := h
  simp only [Seq] at h
  obtain ⟨_, _, rfl, h0, _, _, rfl, h1, _, _, rfl, h2, _, _, rfl, h3, rfl⟩ := h
  obtain ⟨x0, rfl, o0⟩ := (Zt Go.Proofs.Tryz.underlying3) d _ h0
  obtain ⟨x1, rfl, o1⟩ := (Zt Go.Proofs.Tryz.underlying3) d _ h1
  obtain ⟨x2, rfl, o2⟩ := (Zt Go.Proofs.Tryz.underlying3) d _ h2
  obtain ⟨x3, rfl, o3⟩ := Zfr d _ h3
  exact ⟨⟨x0, x1, x2, x3⟩, by simp only [Zbe, List.append_nil], o0, o1, o2, o3⟩
theorem Zaez : ∀ (d : Nat) (ts : List Zg), WT Go.Proofs.Tryz.prog d 143 ts → ∃ x, ts = Zo x ∧ Zt1 x := by
 intro d ts h
 cases d with
 | zero => cases h
 | succ d =>
  simp only [WT, Go.Proofs.Tryz.underlying143] at h
  replace h : Seq (WT Go.Proofs.Tryz.prog d) [3, 139, 141, 3, 3, 9, 80, 57, 81] ts := h
  simp only [Seq] at h
  obtain ⟨_, _, rfl, h0, _, _, rfl, h1, _, _, rfl, h2, _, _, rfl, h3, _, _, rfl, h4, _, _, rfl, h5, _, _, rfl, h6, _, _, rfl, h7, _, _, rfl, h8, rfl⟩ := h
  obtain ⟨x0, rfl, o0⟩ := (Zt Go.Proofs.Tryz.underlying3) d _ h0
  obtain ⟨x1, rfl, o1⟩ := Zamz d _ h1
  obtain ⟨x2, rfl, o2⟩ := Zaey d _ h2
  obtain ⟨x3, rfl, o3⟩ := (Zt Go.Proofs.Tryz.underlying3) d _ h3
  obtain ⟨x4, rfl, o4⟩ := (Zt Go.Proofs.Tryz.underlying3) d _ h4
  obtain ⟨x5, rfl, o5⟩ := (Z5i Go.Proofs.Tryz.underlying9) d _ h5
  obtain ⟨x6, rfl, o6⟩ := Zfr d _ h6
  obtain ⟨x7, rfl, o7⟩ := (Zasy Go.Proofs.Tryz.underlying57 (Zt Go.Proofs.Tryz.underlying3)) d _ h7
  obtain ⟨x8, rfl, o8⟩ := (Zdi Go.Proofs.Tryz.underlying81 (by kernel_rfl : Go.Proofs.Tryz.prog.bytesOf 136 = 176) Zxg) d _ h8
  exact ⟨⟨x0, x1, x2, x3, x4, x5, x6, x7, x8⟩, by simp only [Zo, List.append_nil], o0, o1, o2, o3, o4, o5, o6, o7, o8⟩
theorem Zaa6 : ∀ (d : Nat) (ts : List Zg), WT Go.Proofs.Tryz.prog d 92 ts → ∃ x, ts = Zbu x ∧ Zrr x := by
 intro d ts h
 cases d with
 | zero => cases h
 | succ d =>
  simp only [WT, Go.Proofs.Tryz.underlying92] at h
  replace h : Seq (WT Go.Proofs.Tryz.prog d) [3, 3, 80, 3, 3, 3, 3] ts := h
  simp only [Seq] at h
  obtain ⟨_, _, rfl, h0, _, _, rfl, h1, _, _, rfl, h2, _, _, rfl, h3, _, _, rfl, h4, _, _, rfl, h5, _, _, rfl, h6, rfl⟩ := h
  obtain ⟨x0, rfl, o0⟩ := (Zt Go.Proofs.Tryz.underlying3) d _ h0
  obtain ⟨x1, rfl, o1⟩ := (Zt Go.Proofs.Tryz.underlying3) d _ h1
  obtain ⟨x2, rfl, o2⟩ := Zfr d _ h2
  obtain ⟨x3, rfl, o3⟩ := (Zt Go.Proofs.Tryz.underlying3) d _ h3
  obtain ⟨x4, rfl, o4⟩ := (Zt Go.Proofs.Tryz.underlying3) d _ h4
  obtain ⟨x5, rfl, o5⟩ := (Zt Go.Proofs.Tryz.underlying3) d _ h5
  obtain ⟨x6, rfl, o6⟩ := (Zt Go.Proofs.Tryz.underlying3) d _ h6
  exact ⟨⟨x0, x1, x2, x3, x4, x5, x6⟩, by simp only [Zbu, List.append_nil], o0, o1, o2, o3, o4, o5, o6⟩
theorem Zpc : ∀ (d : Nat) (ts : List Zg), WT Go.Proofs.Tryz.prog d 94 ts → ∃ x, ts = Zah x ∧ Zji x := by
 intro d ts h
 cases d with
 | zero => cases h
 | succ d =>
  simp only [WT, Go.Proofs.Tryz.underlying94] at h
  replace h : Seq (WT Go.Proofs.Tryz.prog d) [3, 80, 81, 86, 4, 88, 4, 89, 90, 92] ts := h
  simp only [Seq] at h
  obtain ⟨_, _, rfl, h0, _, _, rfl, h1, _, _, rfl, h2, _, _, rfl, h3, _, _, rfl, h4, _, _, rfl, h5, _, _, rfl, h6, _, _, rfl, h7, _, _, rfl, h8, _, _, rfl, h9, rfl⟩ := h
  obtain ⟨x0, rfl, o0⟩ := (Zt Go.Proofs.Tryz.underlying3) d _ h0
  obtain ⟨x1, rfl, o1⟩ := Zfr d _ h1
  obtain ⟨x2, rfl, o2⟩ := (Zdi Go.Proofs.Tryz.underlying81 (by kernel_rfl : Go.Proofs.Tryz.prog.bytesOf 136 = 176) Zxg) d _ h2
  obtain ⟨x3, rfl, o3⟩ := Zaf8 d _ h3
  obtain ⟨x4, rfl, o4⟩ := (Zfs Go.Proofs.Tryz.underlying4) d _ h4
  obtain ⟨x5, rfl, o5⟩ := Zaa5 d _ h5
  obtain ⟨x6, rfl, o6⟩ := (Zfs Go.Proofs.Tryz.underlying4) d _ h6
  obtain ⟨x7, rfl, o7⟩ := (Zdi Go.Proofs.Tryz.underlying89 (by kernel_rfl : Go.Proofs.Tryz.prog.bytesOf 166 = 144) Zah6) d _ h7
  obtain ⟨x8, rfl, o8⟩ := (Zdi Go.Proofs.Tryz.underlying90 (by kernel_rfl : Go.Proofs.Tryz.prog.bytesOf 143 = 560) Zaez) d _ h8
  obtain ⟨x9, rfl, o9⟩ := Zaa6 d _ h9
  exact ⟨⟨x0, x1, x2, x3, x4, x5, x6, x7, x8, x9⟩, by simp only [Zah, List.append_nil], o0, o1, o2, o3, o4, o5, o6, o7, o8, o9⟩
theorem Zah7 : ∀ (d : Nat) (ts : List Zg), WT Go.Proofs.Tryz.prog d 127 ts → ∃ x, ts = Zaa x ∧ Zz1 x := by
 intro d ts h
 cases d with
 | zero => cases h
 | succ d =>
  simp only [WT, Go.Proofs.Tryz.underlying127] at h
  replace h : Seq (WT Go.Proofs.Tryz.prog d) [9, 4, 84, 3, 124, 3, 3, 3, 125] ts := h
  simp only [Seq] at h
  obtain ⟨_, _, rfl, h0, _, _, rfl, h1, _, _, rfl, h2, _, _, rfl, h3, _, _, rfl, h4, _, _, rfl, h5, _, _, rfl, h6, _, _, rfl, h7, _, _, rfl, h8, rfl⟩ := h
  obtain ⟨x0, rfl, o0⟩ := (Z5i Go.Proofs.Tryz.underlying9) d _ h0
  obtain ⟨x1, rfl, o1⟩ := (Zfs Go.Proofs.Tryz.underlying4) d _ h1
  obtain ⟨x2, rfl, o2⟩ := Z3f d _ h2
  obtain ⟨x3, rfl, o3⟩ := (Zt Go.Proofs.Tryz.underlying3) d _ h3
  obtain ⟨x4, rfl, o4⟩ := Zah5 d _ h4
  obtain ⟨x5, rfl, o5⟩ := (Zt Go.Proofs.Tryz.underlying3) d _ h5
  obtain ⟨x6, rfl, o6⟩ := (Zt Go.Proofs.Tryz.underlying3) d _ h6
  obtain ⟨x7, rfl, o7⟩ := (Zt Go.Proofs.Tryz.underlying3) d _ h7
  obtain ⟨x8, rfl, o8⟩ := (Zdi Go.Proofs.Tryz.underlying125 (by kernel_rfl : Go.Proofs.Tryz.prog.bytesOf 94 = 640) Zpc) d _ h8
  exact ⟨⟨x0, x1, x2, x3, x4, x5, x6, x7, x8⟩, by simp only [Zaa, List.append_nil], o0, o1, o2, o3, o4, o5, o6, o7, o8⟩
theorem Zae0 : ∀ (d : Nat) (ts : List Zg), WT Go.Proofs.Tryz.prog d 59 ts → ∃ x, ts = Zd x ∧ Zt2 x := by
 intro d ts h
 cases d with
 | zero => cases h
 | succ d =>
  simp only [WT, Go.Proofs.Tryz.underlying59] at h
  replace h : Seq (WT Go.Proofs.Tryz.prog d) [3, 3, 3, 57, 4, 4, 25, 25, 25] ts := h
  simp only [Seq] at h
  obtain ⟨_, _, rfl, h0, _, _, rfl, h1, _, _, rfl, h2, _, _, rfl, h3, _, _, rfl, h4, _, _, rfl, h5, _, _, rfl, h6, _, _, rfl, h7, _, _, rfl, h8, rfl⟩ := h
  obtain ⟨x0, rfl, o0⟩ := (Zt Go.Proofs.Tryz.underlying3) d _ h0
  obtain ⟨x1, rfl, o1⟩ := (Zt Go.Proofs.Tryz.underlying3) d _ h1
  obtain ⟨x2, rfl, o2⟩ := (Zt Go.Proofs.Tryz.underlying3) d _ h2
  obtain ⟨x3, rfl, o3⟩ := (Zasy Go.Proofs.Tryz.underlying57 (Zt Go.Proofs.Tryz.underlying3)) d _ h3
  obtain ⟨x4, rfl, o4⟩ := (Zfs Go.Proofs.Tryz.underlying4) d _ h4
  obtain ⟨x5, rfl, o5⟩ := (Zfs Go.Proofs.Tryz.underlying4) d _ h5
  obtain ⟨x6, rfl, o6⟩ := (Zdi Go.Proofs.Tryz.underlying25 (by kernel_rfl : Go.Proofs.Tryz.prog.bytesOf 3 = 8) (Zt Go.Proofs.Tryz.underlying3)) d _ h6
  obtain ⟨x7, rfl, o7⟩ := (Zdi Go.Proofs.Tryz.underlying25 (by kernel_rfl : Go.Proofs.Tryz.prog.bytesOf 3 = 8) (Zt Go.Proofs.Tryz.underlying3)) d _ h7
  obtain ⟨x8, rfl, o8⟩ := (Zdi Go.Proofs.Tryz.underlying25 (by kernel_rfl : Go.Proofs.Tryz.prog.bytesOf 3 = 8) (Zt Go.Proofs.Tryz.underlying3)) d _ h8
  exact ⟨⟨x0, x1, x2, x3, x4, x5, x6, x7, x8⟩, by simp only [Zd, List.append_nil], o0, o1, o2, o3, o4, o5, o6, o7, o8⟩
theorem Zae1 : ∀ (d : Nat) (ts : List Zg), WT Go.Proofs.Tryz.prog d 44 ts → ∃ x, ts = Zb x ∧ Z21 x := by
 intro d ts h
 cases d with
 | zero => cases h
 | succ d =>
  simp only [WT, Go.Proofs.Tryz.underlying44] at h
  replace h : Seq (WT Go.Proofs.Tryz.prog d) [3, 3, 3, 3, 3, 4, 4, 4, 4, 3, 42, 3, 3, 3, 4, 3, 3] ts := h
  simp only [Seq] at h
  obtain ⟨_, _, rfl, h0, _, _, rfl, h1, _, _, rfl, h2, _, _, rfl, h3, _, _, rfl, h4, _, _, rfl, h5, _, _, rfl, h6, _, _, rfl, h7, _, _, rfl, h8, _, _, rfl, h9, _, _, rfl, h10, _, _, rfl, h11, _, _, rfl, h12, _, _, rfl, h13, _, _, rfl, h14, _, _, rfl, h15, _, _, rfl, h16, rfl⟩ := h
  obtain ⟨x0, rfl, o0⟩ := (Zt Go.Proofs.Tryz.underlying3) d _ h0
  obtain ⟨x1, rfl, o1⟩ := (Zt Go.Proofs.Tryz.underlying3) d _ h1
  obtain ⟨x2, rfl, o2⟩ := (Zt Go.Proofs.Tryz.underlying3) d _ h2
  obtain ⟨x3, rfl, o3⟩ := (Zt Go.Proofs.Tryz.underlying3) d _ h3
  obtain ⟨x4, rfl, o4⟩ := (Zt Go.Proofs.Tryz.underlying3) d _ h4
  obtain ⟨x5, rfl, o5⟩ := (Zfs Go.Proofs.Tryz.underlying4) d _ h5
  obtain ⟨x6, rfl, o6⟩ := (Zfs Go.Proofs.Tryz.underlying4) d _ h6
  obtain ⟨x7, rfl, o7⟩ := (Zfs Go.Proofs.Tryz.underlying4) d _ h7
  obtain ⟨x8, rfl, o8⟩ := (Zfs Go.Proofs.Tryz.underlying4) d _ h8
  obtain ⟨x9, rfl, o9⟩ := (Zt Go.Proofs.Tryz.underlying3) d _ h9
  obtain ⟨x10, rfl, o10⟩ := (Zasx Go.Proofs.Tryz.underlying42 (Zt Go.Proofs.Tryz.underlying3)) d _ h10
  obtain ⟨x11, rfl, o11⟩ := (Zt Go.Proofs.Tryz.underlying3) d _ h11
  obtain ⟨x12, rfl, o12⟩ := (Zt Go.Proofs.Tryz.underlying3) d _ h12
  obtain ⟨x13, rfl, o13⟩ := (Zt Go.Proofs.Tryz.underlying3) d _ h13
  obtain ⟨x14, rfl, o14⟩ := (Zfs Go.Proofs.Tryz.underlying4) d _ h14
  obtain ⟨x15, rfl, o15⟩ := (Zt Go.Proofs.Tryz.underlying3) d _ h15
  obtain ⟨x16, rfl, o16⟩ := (Zt Go.Proofs.Tryz.underlying3) d _ h16
  exact ⟨⟨x0, x1, x2, x3, x4, x5, x6, x7, x8, x9, x10, x11, x12, x13, x14, x15, x16⟩, by simp only [Zb, List.append_nil], o0, o1, o2, o3, o4, o5, o6, o7, o8, o9, o10, o11, o12, o13, o14, o15, o16⟩
theorem Zae2 : ∀ (d : Nat) (ts : List Zg), WT Go.Proofs.Tryz.prog d 132 ts → ∃ x, ts = Z1 x ∧ Z22 x := by
 intro d ts h
 cases d with
 | zero => cases h
 | succ d =>
  simp only [WT, Go.Proofs.Tryz.underlying132] at h
  replace h : Seq (WT Go.Proofs.Tryz.prog d) [3, 3] ts := h
  simp only [Seq] at h
  obtain ⟨_, _, rfl, h0, _, _, rfl, h1, rfl⟩ := h
  obtain ⟨x0, rfl, o0⟩ := (Zt Go.Proofs.Tryz.underlying3) d _ h0
  obtain ⟨x1, rfl, o1⟩ := (Zt Go.Proofs.Tryz.underlying3) d _ h1
  exact ⟨⟨x0, x1⟩, by simp only [Z1, List.append_nil], o0, o1⟩
theorem Z1b : ∀ (d : Nat) (ts : List Zg), WT Go.Proofs.Tryz.prog d 97 ts → ∃ x, ts = Zcr x ∧ Zw3 x := by
 intro d ts h
 cases d with
 | zero => cases h
 | succ d =>
  simp only [WT, Go.Proofs.Tryz.underlying97] at h
  replace h : Seq (WT Go.Proofs.Tryz.prog d) [3, 3, 3, 3, 3, 3, 3, 3, 3, 3, 4, 4, 42] ts := h
  simp only [Seq] at h
  obtain ⟨_, _, rfl, h0, _, _, rfl, h1, _, _, rfl, h2, _, _, rfl, h3, _, _, rfl, h4, _, _, rfl, h5, _, _, rfl, h6, _, _, rfl, h7, _, _, rfl, h8, _, _, rfl, h9, _, _, rfl, h10, _, _, rfl, h11, _, _, rfl, h12, rfl⟩ := h
  obtain ⟨x0, rfl, o0⟩ := (Zt Go.Proofs.Tryz.underlying3) d _ h0
  obtain ⟨x1, rfl, o1⟩ := (Zt Go.Proofs.Tryz.underlying3) d _ h1
  obtain ⟨x2, rfl, o2⟩ := (Zt Go.Proofs.Tryz.underlying3) d _ h2
  obtain ⟨x3, rfl, o3⟩ := (Zt Go.Proofs.Tryz.underlying3) d _ h3
  obtain ⟨x4, rfl, o4⟩ := (Zt Go.Proofs.Tryz.underlying3) d _ h4
  obtain ⟨x5, rfl, o5⟩ := (Zt Go.Proofs.Tryz.underlying3) d _ h5
  obtain ⟨x6, rfl, o6⟩ := (Zt Go.Proofs.Tryz.underlying3) d _ h6
  obtain ⟨x7, rfl, o7⟩ := (Zt Go.Proofs.Tryz.underlying3) d _ h7
  obtain ⟨x8, rfl, o8⟩ := (Zt Go.Proofs.Tryz.underlying3) d _ h8
  obtain ⟨x9, rfl, o9⟩ := (Zt Go.Proofs.Tryz.underlying3) d _ h9
  obtain ⟨x10, rfl, o10⟩ := (Zfs Go.Proofs.Tryz.underlying4) d _ h10
  obtain ⟨x11, rfl, o11⟩ := (Zfs Go.Proofs.Tryz.underlying4) d _ h11
  obtain ⟨x12, rfl, o12⟩ := (Zasx Go.Proofs.Tryz.underlying42 (Zt Go.Proofs.Tryz.underlying3)) d _ h12
  exact ⟨⟨x0, x1, x2, x3, x4, x5, x6, x7, x8, x9, x10, x11, x12⟩, by simp only [Zcr, List.append_nil], o0, o1, o2, o3, o4, o5, o6, o7, o8, o9, o10, o11, o12⟩
theorem Zah8 : ∀ (d : Nat) (ts : List Zg), WT Go.Proofs.Tryz.prog d 99 ts → ∃ x, ts = Zf x ∧ Zz2 x := by
 intro d ts h
 cases d with
 | zero => cases h
 | succ d =>
  simp only [WT, Go.Proofs.Tryz.underlying99] at h
  replace h : Seq (WT Go.Proofs.Tryz.prog d) [3, 3, 3, 3, 3, 4, 94, 95, 97] ts := h
  simp only [Seq] at h
  obtain ⟨_, _, rfl, h0, _, _, rfl, h1, _, _, rfl, h2, _, _, rfl, h3, _, _, rfl, h4, _, _, rfl, h5, _, _, rfl, h6, _, _, rfl, h7, _, _, rfl, h8, rfl⟩ := h
  obtain ⟨x0, rfl, o0⟩ := (Zt Go.Proofs.Tryz.underlying3) d _ h0
  obtain ⟨x1, rfl, o1⟩ := (Zt Go.Proofs.Tryz.underlying3) d _ h1
  obtain ⟨x2, rfl, o2⟩ := (Zt Go.Proofs.Tryz.underlying3) d _ h2
  obtain ⟨x3, rfl, o3⟩ := (Zt Go.Proofs.Tryz.underlying3) d _ h3
  obtain ⟨x4, rfl, o4⟩ := (Zt Go.Proofs.Tryz.underlying3) d _ h4
  obtain ⟨x5, rfl, o5⟩ := (Zfs Go.Proofs.Tryz.underlying4) d _ h5
  obtain ⟨x6, rfl, o6⟩ := Zpc d _ h6
  obtain ⟨x7, rfl, o7⟩ := (Zdi Go.Proofs.Tryz.underlying95 (by kernel_rfl : Go.Proofs.Tryz.prog.bytesOf 132 = 16) Zae2) d _ h7
  obtain ⟨x8, rfl, o8⟩ := Z1b d _ h8
  exact ⟨⟨x0, x1, x2, x3, x4, x5, x6, x7, x8⟩, by simp only [Zf, List.append_nil], o0, o1, o2, o3, o4, o5, o6, o7, o8⟩
theorem Zaa7 : ∀ (d : Nat) (ts : List Zg), WT Go.Proofs.Tryz.prog d 103 ts → ∃ x, ts = Ze x ∧ Zrs x := by
 intro d ts h
 cases d with
 | zero => cases h
 | succ d =>
  simp only [WT, Go.Proofs.Tryz.underlying103] at h
  replace h : Seq (WT Go.Proofs.Tryz.prog d) [3, 3, 94, 97] ts := h
  simp only [Seq] at h
  obtain ⟨_, _, rfl, h0, _, _, rfl, h1, _, _, rfl, h2, _, _, rfl, h3, rfl⟩ := h
  obtain ⟨x0, rfl, o0⟩ := (Zt Go.Proofs.Tryz.underlying3) d _ h0
  obtain ⟨x1, rfl, o1⟩ := (Zt Go.Proofs.Tryz.underlying3) d _ h1
  obtain ⟨x2, rfl, o2⟩ := Zpc d _ h2
  obtain ⟨x3, rfl, o3⟩ := Z1b d _ h3
  exact ⟨⟨x0, x1, x2, x3⟩, by simp only [Ze, List.append_nil], o0, o1, o2, o3⟩
theorem Zah9 : ∀ (d : Nat) (ts : List Zg), WT Go.Proofs.Tryz.prog d 107 ts → ∃ x, ts = Zk x ∧ Zz3 x := by
 intro d ts h
 cases d with
 | zero => cases h
 | succ d =>
  simp only [WT, Go.Proofs.Tryz.underlying107] at h
  replace h : Seq (WT Go.Proofs.Tryz.prog d) [3, 3, 3, 3, 25, 81] ts := h
  simp only [Seq] at h
  obtain ⟨_, _, rfl, h0, _, _, rfl, h1, _, _, rfl, h2, _, _, rfl, h3, _, _, rfl, h4, _, _, rfl, h5, rfl⟩ := h
  obtain ⟨x0, rfl, o0⟩ := (Zt Go.Proofs.Tryz.underlying3) d _ h0
  obtain ⟨x1, rfl, o1⟩ := (Zt Go.Proofs.Tryz.underlying3) d _ h1
  obtain ⟨x2, rfl, o2⟩ := (Zt Go.Proofs.Tryz.underlying3) d _ h2
  obtain ⟨x3, rfl, o3⟩ := (Zt Go.Proofs.Tryz.underlying3) d _ h3
  obtain ⟨x4, rfl, o4⟩ := (Zdi Go.Proofs.Tryz.underlying25 (by kernel_rfl : Go.Proofs.Tryz.prog.bytesOf 3 = 8) (Zt Go.Proofs.Tryz.underlying3)) d _ h4
  obtain ⟨x5, rfl, o5⟩ := (Zdi Go.Proofs.Tryz.underlying81 (by kernel_rfl : Go.Proofs.Tryz.prog.bytesOf 136 = 176) Zxg) d _ h5
  exact ⟨⟨x0, x1, x2, x3, x4, x5⟩, by simp only [Zk, List.append_nil], o0, o1, o2, o3, o4, o5⟩
theorem Z1c : ∀ (d : Nat) (ts : List Zg), WT Go.Proofs.Tryz.prog d 31 ts → ∃ x, ts = Zr x ∧ Zqr x := by
 intro d ts h
 cases d with
 | zero => cases h
 | succ d =>
  simp only [WT, Go.Proofs.Tryz.underlying31] at h
  replace h : Seq (WT Go.Proofs.Tryz.prog d) [23, 24, 25, 25, 26, 27, 28, 3, 3, 3, 4, 3, 3, 3, 3, 29, 25, 3, 3] ts := h
  simp only [Seq] at h
  obtain ⟨_, _, rfl, h0, _, _, rfl, h1, _, _, rfl, h2, _, _, rfl, h3, _, _, rfl, h4, _, _, rfl, h5, _, _, rfl, h6, _, _, rfl, h7, _, _, rfl, h8, _, _, rfl, h9, _, _, rfl, h10, _, _, rfl, h11, _, _, rfl, h12, _, _, rfl, h13, _, _, rfl, h14, _, _, rfl, h15, _, _, rfl, h16, _, _, rfl, h17, _, _, rfl, h18, rfl⟩ := h
  obtain ⟨x0, rfl, o0⟩ := (Zdi Go.Proofs.Tryz.underlying23 (by kernel_rfl : Go.Proofs.Tryz.prog.bytesOf 59 = 152) Zae0) d _ h0
  obtain ⟨x1, rfl, o1⟩ := (Zdi Go.Proofs.Tryz.underlying24 (by kernel_rfl : Go.Proofs.Tryz.prog.bytesOf 44 = 128) Zae1) d _ h1
  obtain ⟨x2, rfl, o2⟩ := (Zdi Go.Proofs.Tryz.underlying25 (by kernel_rfl : Go.Proofs.Tryz.prog.bytesOf 3 = 8) (Zt Go.Proofs.Tryz.underlying3)) d _ h2
  obtain ⟨x3, rfl, o3⟩ := (Zdi Go.Proofs.Tryz.underlying25 (by kernel_rfl : Go.Proofs.Tryz.prog.bytesOf 3 = 8) (Zt Go.Proofs.Tryz.underlying3)) d _ h3
  obtain ⟨x4, rfl, o4⟩ := (Zdi Go.Proofs.Tryz.underlying26 (by kernel_rfl : Go.Proofs.Tryz.prog.bytesOf 99 = 824) Zah8) d _ h4
  obtain ⟨x5, rfl, o5⟩ := (Zdi Go.Proofs.Tryz.underlying27 (by kernel_rfl : Go.Proofs.Tryz.prog.bytesOf 103 = 768) Zaa7) d _ h5
  obtain ⟨x6, rfl, o6⟩ := (Zdi Go.Proofs.Tryz.underlying28 (by kernel_rfl : Go.Proofs.Tryz.prog.bytesOf 107 = 80) Zah9) d _ h6
  obtain ⟨x7, rfl, o7⟩ := (Zt Go.Proofs.Tryz.underlying3) d _ h7
  obtain ⟨x8, rfl, o8⟩ := (Zt Go.Proofs.Tryz.underlying3) d _ h8
  obtain ⟨x9, rfl, o9⟩ := (Zt Go.Proofs.Tryz.underlying3) d _ h9
  obtain ⟨x10, rfl, o10⟩ := (Zfs Go.Proofs.Tryz.underlying4) d _ h10
  obtain ⟨x11, rfl, o11⟩ := (Zt Go.Proofs.Tryz.underlying3) d _ h11
  obtain ⟨x12, rfl, o12⟩ := (Zt Go.Proofs.Tryz.underlying3) d _ h12
  obtain ⟨x13, rfl, o13⟩ := (Zt Go.Proofs.Tryz.underlying3) d _ h13
  obtain ⟨x14, rfl, o14⟩ := (Zt Go.Proofs.Tryz.underlying3) d _ h14
  obtain ⟨x15, rfl, o15⟩ := (Zt Go.Proofs.Tryz.underlying29) d _ h15
  obtain ⟨x16, rfl, o16⟩ := (Zdi Go.Proofs.Tryz.underlying25 (by kernel_rfl : Go.Proofs.Tryz.prog.bytesOf 3 = 8) (Zt Go.Proofs.Tryz.underlying3)) d _ h16
  obtain ⟨x17, rfl, o17⟩ := (Zt Go.Proofs.Tryz.underlying3) d _ h17
  obtain ⟨x18, rfl, o18⟩ := (Zt Go.Proofs.Tryz.underlying3) d _ h18
  exact ⟨⟨x0, x1, x2, x3, x4, x5, x6, x7, x8, x9, x10, x11, x12, x13, x14, x15, x16, x17, x18⟩, by simp only [Zr, List.append_nil], o0, o1, o2, o3, o4, o5, o6, o7, o8, o9, o10, o11, o12, o13, o14, o15, o16, o17, o18⟩
theorem Zae3 : ∀ (d : Nat) (ts : List Zg), WT Go.Proofs.Tryz.prog d 65 ts → ∃ x, ts = Zq x ∧ Z23 x := by
 intro d ts h
 cases d with
 | zero => cases h
 | succ d =>
  simp only [WT, Go.Proofs.Tryz.underlying65] at h
  replace h : Seq (WT Go.Proofs.Tryz.prog d) [3, 3, 3] ts := h
  simp only [Seq] at h
  obtain ⟨_, _, rfl, h0, _, _, rfl, h1, _, _, rfl, h2, rfl⟩ := h
  obtain ⟨x0, rfl, o0⟩ := (Zt Go.Proofs.Tryz.underlying3) d _ h0
  obtain ⟨x1, rfl, o1⟩ := (Zt Go.Proofs.Tryz.underlying3) d _ h1
  obtain ⟨x2, rfl, o2⟩ := (Zt Go.Proofs.Tryz.underlying3) d _ h2
  exact ⟨⟨x0, x1, x2⟩, by simp only [Zq, List.append_nil], o0, o1, o2⟩
theorem Zae4 : ∀ (d : Nat) (ts : List Zg), WT Go.Proofs.Tryz.prog d 35 ts → ∃ x, ts = Ze6 x ∧ Zt3 x := by
 intro d ts h
 cases d with
 | zero => cases h
 | succ d =>
  simp only [WT, Go.Proofs.Tryz.underlying35] at h
  replace h : Seq (WT Go.Proofs.Tryz.prog d) [3, 3, 3, 3, 3, 3, 33] ts := h
  simp only [Seq] at h
  obtain ⟨_, _, rfl, h0, _, _, rfl, h1, _, _, rfl, h2, _, _, rfl, h3, _, _, rfl, h4, _, _, rfl, h5, _, _, rfl, h6, rfl⟩ := h
  obtain ⟨x0, rfl, o0⟩ := (Zt Go.Proofs.Tryz.underlying3) d _ h0
  obtain ⟨x1, rfl, o1⟩ := (Zt Go.Proofs.Tryz.underlying3) d _ h1
  obtain ⟨x2, rfl, o2⟩ := (Zt Go.Proofs.Tryz.underlying3) d _ h2
  obtain ⟨x3, rfl, o3⟩ := (Zt Go.Proofs.Tryz.underlying3) d _ h3
  obtain ⟨x4, rfl, o4⟩ := (Zt Go.Proofs.Tryz.underlying3) d _ h4
  obtain ⟨x5, rfl, o5⟩ := (Zt Go.Proofs.Tryz.underlying3) d _ h5
  obtain ⟨x6, rfl, o6⟩ := (Zdi Go.Proofs.Tryz.underlying33 (by kernel_rfl : Go.Proofs.Tryz.prog.bytesOf 65 = 24) Zae3) d _ h6
  exact ⟨⟨x0, x1, x2, x3, x4, x5, x6⟩, by simp only [Ze6, List.append_nil], o0, o1, o2, o3, o4, o5, o6⟩
theorem Zaia : ∀ (d : Nat) (ts : List Zg), WT Go.Proofs.Tryz.prog d 38 ts → ∃ x, ts = Zdm x ∧ Z8v x := by
 intro d ts h
 cases d with
 | zero => cases h
 | succ d =>
  simp only [WT, Go.Proofs.Tryz.underlying38] at h
  replace h : Seq (WT Go.Proofs.Tryz.prog d) [22, 31, 32, 35, 3, 36] ts := h
  simp only [Seq] at h
  obtain ⟨_, _, rfl, h0, _, _, rfl, h1, _, _, rfl, h2, _, _, rfl, h3, _, _, rfl, h4, _, _, rfl, h5, rfl⟩ := h
  obtain ⟨x0, rfl, o0⟩ := (Zdi Go.Proofs.Tryz.underlying22 (by kernel_rfl : Go.Proofs.Tryz.prog.bytesOf 127 = 176) Zah7) d _ h0
  obtain ⟨x1, rfl, o1⟩ := Z1c d _ h1
  obtain ⟨x2, rfl, o2⟩ := (Zdi Go.Proofs.Tryz.underlying32 (by kernel_rfl : Go.Proofs.Tryz.prog.bytesOf 25 = 24) (Zdi Go.Proofs.Tryz.underlying25 (by kernel_rfl : Go.Proofs.Tryz.prog.bytesOf 3 = 8) (Zt Go.Proofs.Tryz.underlying3))) d _ h2
  obtain ⟨x3, rfl, o3⟩ := Zae4 d _ h3
  obtain ⟨x4, rfl, o4⟩ := (Zt Go.Proofs.Tryz.underlying3) d _ h4
  obtain ⟨x5, rfl, o5⟩ := (Zdi Go.Proofs.Tryz.underlying36 (by kernel_rfl : Go.Proofs.Tryz.prog.bytesOf 31 = 280) Z1c) d _ h5
  exact ⟨⟨x0, x1, x2, x3, x4, x5⟩, by simp only [Zdm, List.append_nil], o0, o1, o2, o3, o4, o5⟩
end Go.PW
