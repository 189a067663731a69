import Derived.Test.YtloamjgjcjandaaGreatQT
import Derived.Test.YtloamjgjcjandaaGreatQE
set_option linter.all false
set_option maxRecDepth 100000
namespace Go.PW
open Go.RowKit
theorem Z2m : ∀ (d : Nat) (ts : List Zg), WT Go.Proofs.Tryz.prog d 84 ts → ∃ x, ts = Zbo x ∧ Zy0 x := by
 intro d ts h
 cases d with
 | zero => cases h
 | succ d =>
  simp only [WT, Go.Proofs.Tryz.underlying84] at h
  replace h : Seq (WT Go.Proofs.Tryz.prog d) [3, 3, 82] ts := h
  simp only [Seq] at h
  obtain ⟨_, _, rfl, h0, _, _, rfl, h1, _, _, rfl, h2, rfl⟩ := h
  obtain ⟨x0, rfl, o0⟩ := (Zv Go.Proofs.Tryz.underlying3) d _ h0
  obtain ⟨x1, rfl, o1⟩ := (Zv Go.Proofs.Tryz.underlying3) d _ h1
  obtain ⟨x2, rfl, o2⟩ := (Zatm Go.Proofs.Tryz.underlying82 (Zv Go.Proofs.Tryz.underlying3)) d _ h2
  exact ⟨⟨x0, x1, x2⟩, by simp only [Zbo, List.append_nil], o0, o1, o2⟩
theorem Zaho : ∀ (d : Nat) (ts : List Zg), WT Go.Proofs.Tryz.prog d 124 ts → ∃ x, ts = Zmg x ∧ Zy1 x := by
 intro d ts h
 cases d with
 | zero => cases h
 | succ d =>
  simp only [WT, Go.Proofs.Tryz.underlying124] at h
  replace h : Seq (WT Go.Proofs.Tryz.prog d) [3, 3, 122] ts := h
  simp only [Seq] at h
  obtain ⟨_, _, rfl, h0, _, _, rfl, h1, _, _, rfl, h2, rfl⟩ := h
  obtain ⟨x0, rfl, o0⟩ := (Zv Go.Proofs.Tryz.underlying3) d _ h0
  obtain ⟨x1, rfl, o1⟩ := (Zv Go.Proofs.Tryz.underlying3) d _ h1
  obtain ⟨x2, rfl, o2⟩ := (Zdi Go.Proofs.Tryz.underlying122 (by kernel_rfl : Go.Proofs.Tryz.prog.bytesOf 9 = 16) (Z4u Go.Proofs.Tryz.underlying9)) d _ h2
  exact ⟨⟨x0, x1, x2⟩, by simp only [Zmg, List.append_nil], o0, o1, o2⟩
theorem Zq7 : ∀ (d : Nat) (ts : List Zg), WT Go.Proofs.Tryz.prog d 78 ts → ∃ x, ts = Zfu x ∧ Zp0 x := by
 intro d ts h
 cases d with
 | zero => cases h
 | succ d =>
  simp only [WT, Go.Proofs.Tryz.underlying78] at h
  replace h : Seq (WT Go.Proofs.Tryz.prog d) [3, 3] ts := h
  simp only [Seq] at h
  obtain ⟨_, _, rfl, h0, _, _, rfl, h1, rfl⟩ := h
  obtain ⟨x0, rfl, o0⟩ := (Zv Go.Proofs.Tryz.underlying3) d _ h0
  obtain ⟨x1, rfl, o1⟩ := (Zv Go.Proofs.Tryz.underlying3) d _ h1
  exact ⟨⟨x0, x1⟩, by simp only [Zfu, List.append_nil], o0, o1⟩
theorem Zfr : ∀ (d : Nat) (ts : List Zg), WT Go.Proofs.Tryz.prog d 80 ts → ∃ x, ts = Zq x ∧ Zfb x := by
 intro d ts h
 cases d with
 | zero => cases h
 | succ d =>
  simp only [WT, Go.Proofs.Tryz.underlying80] at h
  replace h : Seq (WT Go.Proofs.Tryz.prog d) [3, 3, 3, 3, 3, 3, 3, 9, 3, 3, 78, 78, 78] ts := h
  simp only [Seq] at h
  obtain ⟨_, _, rfl, h0, _, _, rfl, h1, _, _, rfl, h2, _, _, rfl, h3, _, _, rfl, h4, _, _, rfl, h5, _, _, rfl, h6, _, _, rfl, h7, _, _, rfl, h8, _, _, rfl, h9, _, _, rfl, h10, _, _, rfl, h11, _, _, rfl, h12, rfl⟩ := h
  obtain ⟨x0, rfl, o0⟩ := (Zv Go.Proofs.Tryz.underlying3) d _ h0
  obtain ⟨x1, rfl, o1⟩ := (Zv Go.Proofs.Tryz.underlying3) d _ h1
  obtain ⟨x2, rfl, o2⟩ := (Zv Go.Proofs.Tryz.underlying3) d _ h2
  obtain ⟨x3, rfl, o3⟩ := (Zv Go.Proofs.Tryz.underlying3) d _ h3
  obtain ⟨x4, rfl, o4⟩ := (Zv Go.Proofs.Tryz.underlying3) d _ h4
  obtain ⟨x5, rfl, o5⟩ := (Zv Go.Proofs.Tryz.underlying3) d _ h5
  obtain ⟨x6, rfl, o6⟩ := (Zv Go.Proofs.Tryz.underlying3) d _ h6
  obtain ⟨x7, rfl, o7⟩ := (Z4u Go.Proofs.Tryz.underlying9) d _ h7
  obtain ⟨x8, rfl, o8⟩ := (Zv Go.Proofs.Tryz.underlying3) d _ h8
  obtain ⟨x9, rfl, o9⟩ := (Zv Go.Proofs.Tryz.underlying3) d _ h9
  obtain ⟨x10, rfl, o10⟩ := Zq7 d _ h10
  obtain ⟨x11, rfl, o11⟩ := Zq7 d _ h11
  obtain ⟨x12, rfl, o12⟩ := Zq7 d _ h12
  exact ⟨⟨x0, x1, x2, x3, x4, x5, x6, x7, x8, x9, x10, x11, x12⟩, by simp only [Zq, List.append_nil], o0, o1, o2, o3, o4, o5, o6, o7, o8, o9, o10, o11, o12⟩
theorem Zwn : ∀ (d : Nat) (ts : List Zg), WT Go.Proofs.Tryz.prog d 136 ts → ∃ x, ts = Zn x ∧ Zp1 x := by
 intro d ts h
 cases d with
 | zero => cases h
 | succ d =>
  simp only [WT, Go.Proofs.Tryz.underlying136] at h
  replace h : Seq (WT Go.Proofs.Tryz.prog d) [3, 3, 3, 9, 80] ts := h
  simp only [Seq] at h
  obtain ⟨_, _, rfl, h0, _, _, rfl, h1, _, _, rfl, h2, _, _, rfl, h3, _, _, rfl, h4, rfl⟩ := h
  obtain ⟨x0, rfl, o0⟩ := (Zv Go.Proofs.Tryz.underlying3) d _ h0
  obtain ⟨x1, rfl, o1⟩ := (Zv Go.Proofs.Tryz.underlying3) d _ h1
  obtain ⟨x2, rfl, o2⟩ := (Zv Go.Proofs.Tryz.underlying3) d _ h2
  obtain ⟨x3, rfl, o3⟩ := (Z4u Go.Proofs.Tryz.underlying9) d _ h3
  obtain ⟨x4, rfl, o4⟩ := Zfr d _ h4
  exact ⟨⟨x0, x1, x2, x3, x4⟩, by simp only [Zn, List.append_nil], o0, o1, o2, o3, o4⟩
theorem Zafr : ∀ (d : Nat) (ts : List Zg), WT Go.Proofs.Tryz.prog d 86 ts → ∃ x, ts = Zda x ∧ Z4w x := by
 intro d ts h
 cases d with
 | zero => cases h
 | succ d =>
  simp only [WT, Go.Proofs.Tryz.underlying86] at h
  replace h : Seq (WT Go.Proofs.Tryz.prog d) [84, 4, 4, 3] ts := h
  simp only [Seq] at h
  obtain ⟨_, _, rfl, h0, _, _, rfl, h1, _, _, rfl, h2, _, _, rfl, h3, rfl⟩ := h
  obtain ⟨x0, rfl, o0⟩ := Z2m d _ h0
  obtain ⟨x1, rfl, o1⟩ := (Zfs Go.Proofs.Tryz.underlying4) d _ h1
  obtain ⟨x2, rfl, o2⟩ := (Zfs Go.Proofs.Tryz.underlying4) d _ h2
  obtain ⟨x3, rfl, o3⟩ := (Zv Go.Proofs.Tryz.underlying3) d _ h3
  exact ⟨⟨x0, x1, x2, x3⟩, by simp only [Zda, List.append_nil], o0, o1, o2, o3⟩
theorem Zaaj : ∀ (d : Nat) (ts : List Zg), WT Go.Proofs.Tryz.prog d 88 ts → ∃ x, ts = Zb8 x ∧ Zq3 x := by
 intro d ts h
 cases d with
 | zero => cases h
 | succ d =>
  simp only [WT, Go.Proofs.Tryz.underlying88] at h
  replace h : Seq (WT Go.Proofs.Tryz.prog d) [3, 3, 80] ts := h
  simp only [Seq] at h
  obtain ⟨_, _, rfl, h0, _, _, rfl, h1, _, _, rfl, h2, rfl⟩ := h
  obtain ⟨x0, rfl, o0⟩ := (Zv Go.Proofs.Tryz.underlying3) d _ h0
  obtain ⟨x1, rfl, o1⟩ := (Zv Go.Proofs.Tryz.underlying3) d _ h1
  obtain ⟨x2, rfl, o2⟩ := Zfr d _ h2
  exact ⟨⟨x0, x1, x2⟩, by simp only [Zb8, List.append_nil], o0, o1, o2⟩
theorem Zahp : ∀ (d : Nat) (ts : List Zg), WT Go.Proofs.Tryz.prog d 166 ts → ∃ x, ts = Zx x ∧ Zy2 x := by
 intro d ts h
 cases d with
 | zero => cases h
 | succ d =>
  simp only [WT, Go.Proofs.Tryz.underlying166] at h
  replace h : Seq (WT Go.Proofs.Tryz.prog d) [4, 4, 80] ts := h
  simp only [Seq] at h
  obtain ⟨_, _, rfl, h0, _, _, rfl, h1, _, _, rfl, h2, rfl⟩ := h
  obtain ⟨x0, rfl, o0⟩ := (Zfs Go.Proofs.Tryz.underlying4) d _ h0
  obtain ⟨x1, rfl, o1⟩ := (Zfs Go.Proofs.Tryz.underlying4) d _ h1
  obtain ⟨x2, rfl, o2⟩ := Zfr d _ h2
  exact ⟨⟨x0, x1, x2⟩, by simp only [Zx, List.append_nil], o0, o1, o2⟩
theorem Zal5 : ∀ (d : Nat) (ts : List Zg), WT Go.Proofs.Tryz.prog d 139 ts → ∃ x, ts = Zcu x ∧ Z1d x := by
 intro d ts h
 cases d with
 | zero => cases h
 | succ d =>
  simp only [WT, Go.Proofs.Tryz.underlying139] at h
  replace h : Seq (WT Go.Proofs.Tryz.prog d) [3, 3, 80] ts := h
  simp only [Seq] at h
  obtain ⟨_, _, rfl, h0, _, _, rfl, h1, _, _, rfl, h2, rfl⟩ := h
  obtain ⟨x0, rfl, o0⟩ := (Zv Go.Proofs.Tryz.underlying3) d _ h0
  obtain ⟨x1, rfl, o1⟩ := (Zv Go.Proofs.Tryz.underlying3) d _ h1
  obtain ⟨x2, rfl, o2⟩ := Zfr d _ h2
  exact ⟨⟨x0, x1, x2⟩, by simp only [Zcu, List.append_nil], o0, o1, o2⟩
theorem Zaee : ∀ (d : Nat) (ts : List Zg), WT Go.Proofs.Tryz.prog d 141 ts → ∃ x, ts = Zbc x ∧ Zs7 x := by
 intro d ts h
 cases d with
 | zero => cases h
 | succ d =>
  simp only [WT, Go.Proofs.Tryz.underlying141] at h
  replace h : Seq (WT Go.Proofs.Tryz.prog d) [3, 3, 3, 80] ts := h
  simp only [Seq] at h
  obtain ⟨_, _, rfl, h0, _, _, rfl, h1, _, _, rfl, h2, _, _, rfl, h3, rfl⟩ := h
  obtain ⟨x0, rfl, o0⟩ := (Zv Go.Proofs.Tryz.underlying3) d _ h0
  obtain ⟨x1, rfl, o1⟩ := (Zv Go.Proofs.Tryz.underlying3) d _ h1
  obtain ⟨x2, rfl, o2⟩ := (Zv Go.Proofs.Tryz.underlying3) d _ h2
  obtain ⟨x3, rfl, o3⟩ := Zfr d _ h3
  exact ⟨⟨x0, x1, x2, x3⟩, by simp only [Zbc, List.append_nil], o0, o1, o2, o3⟩
theorem Zaef : ∀ (d : Nat) (ts : List Zg), WT Go.Proofs.Tryz.prog d 143 ts → ∃ x, ts = Zo x ∧ Zs8 x := by
 intro d ts h
 cases d with
 | zero => cases h
 | succ d =>
  simp only [WT, Go.Proofs.Tryz.underlying143] at h
  replace h : Seq (WT Go.Proofs.Tryz.prog d) [3, 139, 141, 3, 3, 9, 80, 57, 81] ts := h
  simp only [Seq] at h
  obtain ⟨_, _, rfl, h0, _, _, rfl, h1, _, _, rfl, h2, _, _, rfl, h3, _, _, rfl, h4, _, _, rfl, h5, _, _, rfl, h6, _, _, rfl, h7, _, _, rfl, h8, rfl⟩ := h
  obtain ⟨x0, rfl, o0⟩ := (Zv Go.Proofs.Tryz.underlying3) d _ h0
  obtain ⟨x1, rfl, o1⟩ := Zal5 d _ h1
  obtain ⟨x2, rfl, o2⟩ := Zaee d _ h2
  obtain ⟨x3, rfl, o3⟩ := (Zv Go.Proofs.Tryz.underlying3) d _ h3
  obtain ⟨x4, rfl, o4⟩ := (Zv Go.Proofs.Tryz.underlying3) d _ h4
  obtain ⟨x5, rfl, o5⟩ := (Z4u Go.Proofs.Tryz.underlying9) d _ h5
  obtain ⟨x6, rfl, o6⟩ := Zfr d _ h6
  obtain ⟨x7, rfl, o7⟩ := (Zarz Go.Proofs.Tryz.underlying57 (Zv Go.Proofs.Tryz.underlying3)) d _ h7
  obtain ⟨x8, rfl, o8⟩ := (Zdi Go.Proofs.Tryz.underlying81 (by kernel_rfl : Go.Proofs.Tryz.prog.bytesOf 136 = 176) Zwn) d _ h8
  exact ⟨⟨x0, x1, x2, x3, x4, x5, x6, x7, x8⟩, by simp only [Zo, List.append_nil], o0, o1, o2, o3, o4, o5, o6, o7, o8⟩
theorem Zaak : ∀ (d : Nat) (ts : List Zg), WT Go.Proofs.Tryz.prog d 92 ts → ∃ x, ts = Zbu x ∧ Zq4 x := by
 intro d ts h
 cases d with
 | zero => cases h
 | succ d =>
  simp only [WT, Go.Proofs.Tryz.underlying92] at h
  replace h : Seq (WT Go.Proofs.Tryz.prog d) [3, 3, 80, 3, 3, 3, 3] ts := h
  simp only [Seq] at h
  obtain ⟨_, _, rfl, h0, _, _, rfl, h1, _, _, rfl, h2, _, _, rfl, h3, _, _, rfl, h4, _, _, rfl, h5, _, _, rfl, h6, rfl⟩ := h
  obtain ⟨x0, rfl, o0⟩ := (Zv Go.Proofs.Tryz.underlying3) d _ h0
  obtain ⟨x1, rfl, o1⟩ := (Zv Go.Proofs.Tryz.underlying3) d _ h1
  obtain ⟨x2, rfl, o2⟩ := Zfr d _ h2
  obtain ⟨x3, rfl, o3⟩ := (Zv Go.Proofs.Tryz.underlying3) d _ h3
  obtain ⟨x4, rfl, o4⟩ := (Zv Go.Proofs.Tryz.underlying3) d _ h4
  obtain ⟨x5, rfl, o5⟩ := (Zv Go.Proofs.Tryz.underlying3) d _ h5
  obtain ⟨x6, rfl, o6⟩ := (Zv Go.Proofs.Tryz.underlying3) d _ h6
  exact ⟨⟨x0, x1, x2, x3, x4, x5, x6⟩, by simp only [Zbu, List.append_nil], o0, o1, o2, o3, o4, o5, o6⟩
theorem Zoo : ∀ (d : Nat) (ts : List Zg), WT Go.Proofs.Tryz.prog d 94 ts → ∃ x, ts = Zah x ∧ Zi8 x := by
 intro d ts h
 cases d with
 | zero => cases h
 | succ d =>
  simp only [WT, Go.Proofs.Tryz.underlying94] at h
  replace h : Seq (WT Go.Proofs.Tryz.prog d) [3, 80, 81, 86, 4, 88, 4, 89, 90, 92] ts := h
  simp only [Seq] at h
  obtain ⟨_, _, rfl, h0, _, _, rfl, h1, _, _, rfl, h2, _, _, rfl, h3, _, _, rfl, h4, _, _, rfl, h5, _, _, rfl, h6, _, _, rfl, h7, _, _, rfl, h8, _, _, rfl, h9, rfl⟩ := h
  obtain ⟨x0, rfl, o0⟩ := (Zv Go.Proofs.Tryz.underlying3) d _ h0
  obtain ⟨x1, rfl, o1⟩ := Zfr d _ h1
  obtain ⟨x2, rfl, o2⟩ := (Zdi Go.Proofs.Tryz.underlying81 (by kernel_rfl : Go.Proofs.Tryz.prog.bytesOf 136 = 176) Zwn) d _ h2
  obtain ⟨x3, rfl, o3⟩ := Zafr d _ h3
  obtain ⟨x4, rfl, o4⟩ := (Zfs Go.Proofs.Tryz.underlying4) d _ h4
  obtain ⟨x5, rfl, o5⟩ := Zaaj d _ h5
  obtain ⟨x6, rfl, o6⟩ := (Zfs Go.Proofs.Tryz.underlying4) d _ h6
  obtain ⟨x7, rfl, o7⟩ := (Zdi Go.Proofs.Tryz.underlying89 (by kernel_rfl : Go.Proofs.Tryz.prog.bytesOf 166 = 144) Zahp) d _ h7
  obtain ⟨x8, rfl, o8⟩ := (Zdi Go.Proofs.Tryz.underlying90 (by kernel_rfl : Go.Proofs.Tryz.prog.bytesOf 143 = 560) Zaef) d _ h8
  obtain ⟨x9, rfl, o9⟩ := Zaak d _ h9
  exact ⟨⟨x0, x1, x2, x3, x4, x5, x6, x7, x8, x9⟩, by simp only [Zah, List.append_nil], o0, o1, o2, o3, o4, o5, o6, o7, o8, o9⟩
theorem Zahq : ∀ (d : Nat) (ts : List Zg), WT Go.Proofs.Tryz.prog d 127 ts → ∃ x, ts = Zat x ∧ Zy3 x := by
 intro d ts h
 cases d with
 | zero => cases h
 | succ d =>
  simp only [WT, Go.Proofs.Tryz.underlying127] at h
  replace h : Seq (WT Go.Proofs.Tryz.prog d) [9, 4, 84, 3, 124, 3, 3, 3, 125] ts := h
  simp only [Seq] at h
  obtain ⟨_, _, rfl, h0, _, _, rfl, h1, _, _, rfl, h2, _, _, rfl, h3, _, _, rfl, h4, _, _, rfl, h5, _, _, rfl, h6, _, _, rfl, h7, _, _, rfl, h8, rfl⟩ := h
  obtain ⟨x0, rfl, o0⟩ := (Z4u Go.Proofs.Tryz.underlying9) d _ h0
  obtain ⟨x1, rfl, o1⟩ := (Zfs Go.Proofs.Tryz.underlying4) d _ h1
  obtain ⟨x2, rfl, o2⟩ := Z2m d _ h2
  obtain ⟨x3, rfl, o3⟩ := (Zv Go.Proofs.Tryz.underlying3) d _ h3
  obtain ⟨x4, rfl, o4⟩ := Zaho d _ h4
  obtain ⟨x5, rfl, o5⟩ := (Zv Go.Proofs.Tryz.underlying3) d _ h5
  obtain ⟨x6, rfl, o6⟩ := (Zv Go.Proofs.Tryz.underlying3) d _ h6
  obtain ⟨x7, rfl, o7⟩ := (Zv Go.Proofs.Tryz.underlying3) d _ h7
  obtain ⟨x8, rfl, o8⟩ := (Zdi Go.Proofs.Tryz.underlying125 (by kernel_rfl : Go.Proofs.Tryz.prog.bytesOf 94 = 640) Zoo) d _ h8
  exact ⟨⟨x0, x1, x2, x3, x4, x5, x6, x7, x8⟩, by simp only [Zat, List.append_nil], o0, o1, o2, o3, o4, o5, o6, o7, o8⟩
theorem Zaeg : ∀ (d : Nat) (ts : List Zg), WT Go.Proofs.Tryz.prog d 59 ts → ∃ x, ts = Zf x ∧ Zs9 x := by
 intro d ts h
 cases d with
 | zero => cases h
 | succ d =>
  simp only [WT, Go.Proofs.Tryz.underlying59] at h
  replace h : Seq (WT Go.Proofs.Tryz.prog d) [3, 3, 3, 57, 4, 4, 25, 25, 25] ts := h
  simp only [Seq] at h
  obtain ⟨_, _, rfl, h0, _, _, rfl, h1, _, _, rfl, h2, _, _, rfl, h3, _, _, rfl, h4, _, _, rfl, h5, _, _, rfl, h6, _, _, rfl, h7, _, _, rfl, h8, rfl⟩ := h
  obtain ⟨x0, rfl, o0⟩ := (Zv Go.Proofs.Tryz.underlying3) d _ h0
  obtain ⟨x1, rfl, o1⟩ := (Zv Go.Proofs.Tryz.underlying3) d _ h1
  obtain ⟨x2, rfl, o2⟩ := (Zv Go.Proofs.Tryz.underlying3) d _ h2
  obtain ⟨x3, rfl, o3⟩ := (Zarz Go.Proofs.Tryz.underlying57 (Zv Go.Proofs.Tryz.underlying3)) d _ h3
  obtain ⟨x4, rfl, o4⟩ := (Zfs Go.Proofs.Tryz.underlying4) d _ h4
  obtain ⟨x5, rfl, o5⟩ := (Zfs Go.Proofs.Tryz.underlying4) d _ h5
  obtain ⟨x6, rfl, o6⟩ := (Zdi Go.Proofs.Tryz.underlying25 (by kernel_rfl : Go.Proofs.Tryz.prog.bytesOf 3 = 8) (Zv Go.Proofs.Tryz.underlying3)) d _ h6
  obtain ⟨x7, rfl, o7⟩ := (Zdi Go.Proofs.Tryz.underlying25 (by kernel_rfl : Go.Proofs.Tryz.prog.bytesOf 3 = 8) (Zv Go.Proofs.Tryz.underlying3)) d _ h7
  obtain ⟨x8, rfl, o8⟩ := (Zdi Go.Proofs.Tryz.underlying25 (by kernel_rfl : Go.Proofs.Tryz.prog.bytesOf 3 = 8) (Zv Go.Proofs.Tryz.underlying3)) d _ h8
  exact ⟨⟨x0, x1, x2, x3, x4, x5, x6, x7, x8⟩, by simp only [Zf, List.append_nil], o0, o1, o2, o3, o4, o5, o6, o7, o8⟩
theorem Zaeh : ∀ (d : Nat) (ts : List Zg), WT Go.Proofs.Tryz.prog d 44 ts → ∃ x, ts = Zb x ∧ Z18 x := by
 intro d ts h
 cases d with
 | zero => cases h
 | succ d =>
  simp only [WT, Go.Proofs.Tryz.underlying44] at h
  replace h : Seq (WT Go.Proofs.Tryz.prog d) [3, 3, 3, 3, 3, 4, 4, 4, 4, 3, 42, 3, 3, 3, 4, 3, 3] ts := h
  simp only [Seq] at h
  obtain ⟨_, _, rfl, h0, _, _, rfl, h1, _, _, rfl, h2, _, _, rfl, h3, _, _, rfl, h4, _, _, rfl, h5, _, _, rfl, h6, _, _, rfl, h7, _, _, rfl, h8, _, _, rfl, h9, _, _, rfl, h10, _, _, rfl, h11, _, _, rfl, h12, _, _, rfl, h13, _, _, rfl, h14, _, _, rfl, h15, _, _, rfl, h16, rfl⟩ := h
  obtain ⟨x0, rfl, o0⟩ := (Zv Go.Proofs.Tryz.underlying3) d _ h0
  obtain ⟨x1, rfl, o1⟩ := (Zv Go.Proofs.Tryz.underlying3) d _ h1
  obtain ⟨x2, rfl, o2⟩ := (Zv Go.Proofs.Tryz.underlying3) d _ h2
  obtain ⟨x3, rfl, o3⟩ := (Zv Go.Proofs.Tryz.underlying3) d _ h3
  obtain ⟨x4, rfl, o4⟩ := (Zv Go.Proofs.Tryz.underlying3) d _ h4
  obtain ⟨x5, rfl, o5⟩ := (Zfs Go.Proofs.Tryz.underlying4) d _ h5
  obtain ⟨x6, rfl, o6⟩ := (Zfs Go.Proofs.Tryz.underlying4) d _ h6
  obtain ⟨x7, rfl, o7⟩ := (Zfs Go.Proofs.Tryz.underlying4) d _ h7
  obtain ⟨x8, rfl, o8⟩ := (Zfs Go.Proofs.Tryz.underlying4) d _ h8
  obtain ⟨x9, rfl, o9⟩ := (Zv Go.Proofs.Tryz.underlying3) d _ h9
  obtain ⟨x10, rfl, o10⟩ := (Zary Go.Proofs.Tryz.underlying42 (Zv Go.Proofs.Tryz.underlying3)) d _ h10
  obtain ⟨x11, rfl, o11⟩ := (Zv Go.Proofs.Tryz.underlying3) d _ h11
  obtain ⟨x12, rfl, o12⟩ := (Zv Go.Proofs.Tryz.underlying3) d _ h12
  obtain ⟨x13, rfl, o13⟩ := (Zv Go.Proofs.Tryz.underlying3) d _ h13
  obtain ⟨x14, rfl, o14⟩ := (Zfs Go.Proofs.Tryz.underlying4) d _ h14
  obtain ⟨x15, rfl, o15⟩ := (Zv Go.Proofs.Tryz.underlying3) d _ h15
  obtain ⟨x16, rfl, o16⟩ := (Zv Go.Proofs.Tryz.underlying3) d _ h16
  exact ⟨⟨x0, x1, x2, x3, x4, x5, x6, x7, x8, x9, x10, x11, x12, x13, x14, x15, x16⟩, by simp only [Zb, List.append_nil], o0, o1, o2, o3, o4, o5, o6, o7, o8, o9, o10, o11, o12, o13, o14, o15, o16⟩
theorem Zaei : ∀ (d : Nat) (ts : List Zg), WT Go.Proofs.Tryz.prog d 132 ts → ∃ x, ts = Z1 x ∧ Z19 x := by
 intro d ts h
 cases d with
 | zero => cases h
 | succ d =>
  simp only [WT, Go.Proofs.Tryz.underlying132] at h
  replace h : Seq (WT Go.Proofs.Tryz.prog d) [3, 3] ts := h
  simp only [Seq] at h
  obtain ⟨_, _, rfl, h0, _, _, rfl, h1, rfl⟩ := h
  obtain ⟨x0, rfl, o0⟩ := (Zv Go.Proofs.Tryz.underlying3) d _ h0
  obtain ⟨x1, rfl, o1⟩ := (Zv Go.Proofs.Tryz.underlying3) d _ h1
  exact ⟨⟨x0, x1⟩, by simp only [Z1, List.append_nil], o0, o1⟩
theorem Z0f : ∀ (d : Nat) (ts : List Zg), WT Go.Proofs.Tryz.prog d 97 ts → ∃ x, ts = Zcs x ∧ Zwb x := by
 intro d ts h
 cases d with
 | zero => cases h
 | succ d =>
  simp only [WT, Go.Proofs.Tryz.underlying97] at h
  replace h : Seq (WT Go.Proofs.Tryz.prog d) [3, 3, 3, 3, 3, 3, 3, 3, 3, 3, 4, 4, 42] ts := h
  simp only [Seq] at h
  obtain ⟨_, _, rfl, h0, _, _, rfl, h1, _, _, rfl, h2, _, _, rfl, h3, _, _, rfl, h4, _, _, rfl, h5, _, _, rfl, h6, _, _, rfl, h7, _, _, rfl, h8, _, _, rfl, h9, _, _, rfl, h10, _, _, rfl, h11, _, _, rfl, h12, rfl⟩ := h
  obtain ⟨x0, rfl, o0⟩ := (Zv Go.Proofs.Tryz.underlying3) d _ h0
  obtain ⟨x1, rfl, o1⟩ := (Zv Go.Proofs.Tryz.underlying3) d _ h1
  obtain ⟨x2, rfl, o2⟩ := (Zv Go.Proofs.Tryz.underlying3) d _ h2
  obtain ⟨x3, rfl, o3⟩ := (Zv Go.Proofs.Tryz.underlying3) d _ h3
  obtain ⟨x4, rfl, o4⟩ := (Zv Go.Proofs.Tryz.underlying3) d _ h4
  obtain ⟨x5, rfl, o5⟩ := (Zv Go.Proofs.Tryz.underlying3) d _ h5
  obtain ⟨x6, rfl, o6⟩ := (Zv Go.Proofs.Tryz.underlying3) d _ h6
  obtain ⟨x7, rfl, o7⟩ := (Zv Go.Proofs.Tryz.underlying3) d _ h7
  obtain ⟨x8, rfl, o8⟩ := (Zv Go.Proofs.Tryz.underlying3) d _ h8
  obtain ⟨x9, rfl, o9⟩ := (Zv Go.Proofs.Tryz.underlying3) d _ h9
  obtain ⟨x10, rfl, o10⟩ := (Zfs Go.Proofs.Tryz.underlying4) d _ h10
  obtain ⟨x11, rfl, o11⟩ := (Zfs Go.Proofs.Tryz.underlying4) d _ h11
  obtain ⟨x12, rfl, o12⟩ := (Zary Go.Proofs.Tryz.underlying42 (Zv Go.Proofs.Tryz.underlying3)) d _ h12
  exact ⟨⟨x0, x1, x2, x3, x4, x5, x6, x7, x8, x9, x10, x11, x12⟩, by simp only [Zcs, List.append_nil], o0, o1, o2, o3, o4, o5, o6, o7, o8, o9, o10, o11, o12⟩
theorem Zahr : ∀ (d : Nat) (ts : List Zg), WT Go.Proofs.Tryz.prog d 99 ts → ∃ x, ts = Ze x ∧ Zy4 x := by
 intro d ts h
 cases d with
 | zero => cases h
 | succ d =>
  simp only [WT, Go.Proofs.Tryz.underlying99] at h
  replace h : Seq (WT Go.Proofs.Tryz.prog d) [3, 3, 3, 3, 3, 4, 94, 95, 97] ts := h
  simp only [Seq] at h
  obtain ⟨_, _, rfl, h0, _, _, rfl, h1, _, _, rfl, h2, _, _, rfl, h3, _, _, rfl, h4, _, _, rfl, h5, _, _, rfl, h6, _, _, rfl, h7, _, _, rfl, h8, rfl⟩ := h
  obtain ⟨x0, rfl, o0⟩ := (Zv Go.Proofs.Tryz.underlying3) d _ h0
  obtain ⟨x1, rfl, o1⟩ := (Zv Go.Proofs.Tryz.underlying3) d _ h1
  obtain ⟨x2, rfl, o2⟩ := (Zv Go.Proofs.Tryz.underlying3) d _ h2
  obtain ⟨x3, rfl, o3⟩ := (Zv Go.Proofs.Tryz.underlying3) d _ h3
  obtain ⟨x4, rfl, o4⟩ := (Zv Go.Proofs.Tryz.underlying3) d _ h4
  obtain ⟨x5, rfl, o5⟩ := (Zfs Go.Proofs.Tryz.underlying4) d _ h5
  obtain ⟨x6, rfl, o6⟩ := Zoo d _ h6
  obtain ⟨x7, rfl, o7⟩ := (Zdi Go.Proofs.Tryz.underlying95 (by kernel_rfl : Go.Proofs.Tryz.prog.bytesOf 132 = 16) Zaei) d _ h7
  obtain ⟨x8, rfl, o8⟩ := Z0f d _ h8
  exact ⟨⟨x0, x1, x2, x3, x4, x5, x6, x7, x8⟩, by simp only [Ze, List.append_nil], o0, o1, o2, o3, o4, o5, o6, o7, o8⟩
theorem Zaal : ∀ (d : Nat) (ts : List Zg), WT Go.Proofs.Tryz.prog d 103 ts → ∃ x, ts = Zd x ∧ Zq5 x := by
 intro d ts h
 cases d with
 | zero => cases h
 | succ d =>
  simp only [WT, Go.Proofs.Tryz.underlying103] at h
  replace h : Seq (WT Go.Proofs.Tryz.prog d) [3, 3, 94, 97] ts := h
  simp only [Seq] at h
  obtain ⟨_, _, rfl, h0, _, _, rfl, h1, _, _, rfl, h2, _, _, rfl, h3, rfl⟩ := h
  obtain ⟨x0, rfl, o0⟩ := (Zv Go.Proofs.Tryz.underlying3) d _ h0
  obtain ⟨x1, rfl, o1⟩ := (Zv Go.Proofs.Tryz.underlying3) d _ h1
  obtain ⟨x2, rfl, o2⟩ := Zoo d _ h2
  obtain ⟨x3, rfl, o3⟩ := Z0f d _ h3
  exact ⟨⟨x0, x1, x2, x3⟩, by simp only [Zd, List.append_nil], o0, o1, o2, o3⟩
theorem Zahs : ∀ (d : Nat) (ts : List Zg), WT Go.Proofs.Tryz.prog d 107 ts → ∃ x, ts = Zi x ∧ Zy5 x := by
 intro d ts h
 cases d with
 | zero => cases h
 | succ d =>
  simp only [WT, Go.Proofs.Tryz.underlying107] at h
  replace h : Seq (WT Go.Proofs.Tryz.prog d) [3, 3, 3, 3, 25, 81] ts := h
  simp only [Seq] at h
  obtain ⟨_, _, rfl, h0, _, _, rfl, h1, _, _, rfl, h2, _, _, rfl, h3, _, _, rfl, h4, _, _, rfl, h5, rfl⟩ := h
  obtain ⟨x0, rfl, o0⟩ := (Zv Go.Proofs.Tryz.underlying3) d _ h0
  obtain ⟨x1, rfl, o1⟩ := (Zv Go.Proofs.Tryz.underlying3) d _ h1
  obtain ⟨x2, rfl, o2⟩ := (Zv Go.Proofs.Tryz.underlying3) d _ h2
  obtain ⟨x3, rfl, o3⟩ := (Zv Go.Proofs.Tryz.underlying3) d _ h3
  obtain ⟨x4, rfl, o4⟩ := (Zdi Go.Proofs.Tryz.underlying25 (by kernel_rfl : Go.Proofs.Tryz.prog.bytesOf 3 = 8) (Zv Go.Proofs.Tryz.underlying3)) d _ h4
  obtain ⟨x5, rfl, o5⟩ := (Zdi Go.Proofs.Tryz.underlying81 (by kernel_rfl : Go.Proofs.Tryz.prog.bytesOf 136 = 176) Zwn) d _ h5
  exact ⟨⟨x0, x1, x2, x3, x4, x5⟩, by simp only [Zi, List.append_nil], o0, o1, o2, o3, o4, o5⟩
theorem Z0g : ∀ (d : Nat) (ts : List Zg), WT Go.Proofs.Tryz.prog d 31 ts → ∃ x, ts = Zr x ∧ Zp2 x := by
 intro d ts h
 cases d with
 | zero => cases h
 | succ d =>
  simp only [WT, Go.Proofs.Tryz.underlying31] at h
  replace h : Seq (WT Go.Proofs.Tryz.prog d) [23, 24, 25, 25, 26, 27, 28, 3, 3, 3, 4, 3, 3, 3, 3, 29, 25, 3, 3] ts := h
  simp only [Seq] at h
  obtain ⟨_, _, rfl, h0, _, _, rfl, h1, _, _, rfl, h2, _, _, rfl, h3, _, _, rfl, h4, _, _, rfl, h5, _, _, rfl, h6, _, _, rfl, h7, _, _, rfl, h8, _, _, rfl, h9, _, _, rfl, h10, _, _, rfl, h11, _, _, rfl, h12, _, _, rfl, h13, _, _, rfl, h14, _, _, rfl, h15, _, _, rfl, h16, _, _, rfl, h17, _, _, rfl, h18, rfl⟩ := h
  obtain ⟨x0, rfl, o0⟩ := (Zdi Go.Proofs.Tryz.underlying23 (by kernel_rfl : Go.Proofs.Tryz.prog.bytesOf 59 = 152) Zaeg) d _ h0
  obtain ⟨x1, rfl, o1⟩ := (Zdi Go.Proofs.Tryz.underlying24 (by kernel_rfl : Go.Proofs.Tryz.prog.bytesOf 44 = 128) Zaeh) d _ h1
  obtain ⟨x2, rfl, o2⟩ := (Zdi Go.Proofs.Tryz.underlying25 (by kernel_rfl : Go.Proofs.Tryz.prog.bytesOf 3 = 8) (Zv Go.Proofs.Tryz.underlying3)) d _ h2
  obtain ⟨x3, rfl, o3⟩ := (Zdi Go.Proofs.Tryz.underlying25 (by kernel_rfl : Go.Proofs.Tryz.prog.bytesOf 3 = 8) (Zv Go.Proofs.Tryz.underlying3)) d _ h3
  obtain ⟨x4, rfl, o4⟩ := (Zdi Go.Proofs.Tryz.underlying26 (by kernel_rfl : Go.Proofs.Tryz.prog.bytesOf 99 = 824) Zahr) d _ h4
  obtain ⟨x5, rfl, o5⟩ := (Zdi Go.Proofs.Tryz.underlying27 (by kernel_rfl : Go.Proofs.Tryz.prog.bytesOf 103 = 768) Zaal) d _ h5
  obtain ⟨x6, rfl, o6⟩ := (Zdi Go.Proofs.Tryz.underlying28 (by kernel_rfl : Go.Proofs.Tryz.prog.bytesOf 107 = 80) Zahs) d _ h6
  obtain ⟨x7, rfl, o7⟩ := (Zv Go.Proofs.Tryz.underlying3) d _ h7
  obtain ⟨x8, rfl, o8⟩ := (Zv Go.Proofs.Tryz.underlying3) d _ h8
  obtain ⟨x9, rfl, o9⟩ := (Zv Go.Proofs.Tryz.underlying3) d _ h9
  obtain ⟨x10, rfl, o10⟩ := (Zfs Go.Proofs.Tryz.underlying4) d _ h10
  obtain ⟨x11, rfl, o11⟩ := (Zv Go.Proofs.Tryz.underlying3) d _ h11
  obtain ⟨x12, rfl, o12⟩ := (Zv Go.Proofs.Tryz.underlying3) d _ h12
  obtain ⟨x13, rfl, o13⟩ := (Zv Go.Proofs.Tryz.underlying3) d _ h13
  obtain ⟨x14, rfl, o14⟩ := (Zv Go.Proofs.Tryz.underlying3) d _ h14
  obtain ⟨x15, rfl, o15⟩ := (Zv Go.Proofs.Tryz.underlying29) d _ h15
  obtain ⟨x16, rfl, o16⟩ := (Zdi Go.Proofs.Tryz.underlying25 (by kernel_rfl : Go.Proofs.Tryz.prog.bytesOf 3 = 8) (Zv Go.Proofs.Tryz.underlying3)) d _ h16
  obtain ⟨x17, rfl, o17⟩ := (Zv Go.Proofs.Tryz.underlying3) d _ h17
  obtain ⟨x18, rfl, o18⟩ := (Zv Go.Proofs.Tryz.underlying3) d _ h18
  exact ⟨⟨x0, x1, x2, x3, x4, x5, x6, x7, x8, x9, x10, x11, x12, x13, x14, x15, x16, x17, x18⟩, by simp only [Zr, List.append_nil], o0, o1, o2, o3, o4, o5, o6, o7, o8, o9, o10, o11, o12, o13, o14, o15, o16, o17, o18⟩
theorem Zaej : ∀ (d : Nat) (ts : List Zg), WT Go.Proofs.Tryz.prog d 65 ts → ∃ x, ts = Zp x ∧ Z2a x := by
 intro d ts h
 cases d with
 | zero => cases h
 | succ d =>
  simp only [WT, Go.Proofs.Tryz.underlying65] at h
  replace h : Seq (WT Go.Proofs.Tryz.prog d) [3, 3, 3] ts := h
  simp only [Seq] at h
  obtain ⟨_, _, rfl, h0, _, _, rfl, h1, _, _, rfl, h2, rfl⟩ := h
  obtain ⟨x0, rfl, o0⟩ := (Zv Go.Proofs.Tryz.underlying3) d _ h0
  obtain ⟨x1, rfl, o1⟩ := (Zv Go.Proofs.Tryz.underlying3) d _ h1
  obtain ⟨x2, rfl, o2⟩ := (Zv Go.Proofs.Tryz.underlying3) d _ h2
  exact ⟨⟨x0, x1, x2⟩, by simp only [Zp, List.append_nil], o0, o1, o2⟩
theorem Zaek : ∀ (d : Nat) (ts : List Zg), WT Go.Proofs.Tryz.prog d 35 ts → ∃ x, ts = Ze6 x ∧ Zta x := by
 intro d ts h
 cases d with
 | zero => cases h
 | succ d =>
  simp only [WT, Go.Proofs.Tryz.underlying35] at h
  replace h : Seq (WT Go.Proofs.Tryz.prog d) [3, 3, 3, 3, 3, 3, 33] ts := h
  simp only [Seq] at h
  obtain ⟨_, _, rfl, h0, _, _, rfl, h1, _, _, rfl, h2, _, _, rfl, h3, _, _, rfl, h4, _, _, rfl, h5, _, _, rfl, h6, rfl⟩ := h
  obtain ⟨x0, rfl, o0⟩ := (Zv Go.Proofs.Tryz.underlying3) d _ h0
  obtain ⟨x1, rfl, o1⟩ := (Zv Go.Proofs.Tryz.underlying3) d _ h1
  obtain ⟨x2, rfl, o2⟩ := (Zv Go.Proofs.Tryz.underlying3) d _ h2
  obtain ⟨x3, rfl, o3⟩ := (Zv Go.Proofs.Tryz.underlying3) d _ h3
  obtain ⟨x4, rfl, o4⟩ := (Zv Go.Proofs.Tryz.underlying3) d _ h4
  obtain ⟨x5, rfl, o5⟩ := (Zv Go.Proofs.Tryz.underlying3) d _ h5
  obtain ⟨x6, rfl, o6⟩ := (Zdi Go.Proofs.Tryz.underlying33 (by kernel_rfl : Go.Proofs.Tryz.prog.bytesOf 65 = 24) Zaej) d _ h6
  exact ⟨⟨x0, x1, x2, x3, x4, x5, x6⟩, by simp only [Ze6, List.append_nil], o0, o1, o2, o3, o4, o5, o6⟩
theorem Z2n : ∀ (d : Nat) (ts : List Zg), WT Go.Proofs.Tryz.prog d 38 ts → ∃ x, ts = Zcn x ∧ Z8c x := by
 intro d ts h
 cases d with
 | zero => cases h
 | succ d =>
  simp only [WT, Go.Proofs.Tryz.underlying38] at h
  replace h : Seq (WT Go.Proofs.Tryz.prog d) [22, 31, 32, 35, 3, 36] ts := h
  simp only [Seq] at h
  obtain ⟨_, _, rfl, h0, _, _, rfl, h1, _, _, rfl, h2, _, _, rfl, h3, _, _, rfl, h4, _, _, rfl, h5, rfl⟩ := h
  obtain ⟨x0, rfl, o0⟩ := (Zdi Go.Proofs.Tryz.underlying22 (by kernel_rfl : Go.Proofs.Tryz.prog.bytesOf 127 = 176) Zahq) d _ h0
  obtain ⟨x1, rfl, o1⟩ := Z0g d _ h1
  obtain ⟨x2, rfl, o2⟩ := (Zdi Go.Proofs.Tryz.underlying32 (by kernel_rfl : Go.Proofs.Tryz.prog.bytesOf 25 = 24) (Zdi Go.Proofs.Tryz.underlying25 (by kernel_rfl : Go.Proofs.Tryz.prog.bytesOf 3 = 8) (Zv Go.Proofs.Tryz.underlying3))) d _ h2
  obtain ⟨x3, rfl, o3⟩ := Zaek d _ h3
  obtain ⟨x4, rfl, o4⟩ := (Zv Go.Proofs.Tryz.underlying3) d _ h4
  obtain ⟨x5, rfl, o5⟩ := (Zdi Go.Proofs.Tryz.underlying36 (by kernel_rfl : Go.Proofs.Tryz.prog.bytesOf 31 = 280) Z0g) d _ h5
  exact ⟨⟨x0, x1, x2, x3, x4, x5⟩, by simp only [Zcn, List.append_nil], o0, o1, o2, o3, o4, o5⟩
end Go.PW
