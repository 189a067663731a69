import Derived.Test.YtloamjgjcjandaaGreatQT
import Derived.Test.YtloamjgjcjandaaGreatQE
set_option linter.all false
namespace Go.PW
open Go.RowKit
theorem Zamw : ∀ (d : Nat) (ts : List Tree), WT Go.Proofs.Tryz.prog d 84 ts → ∃ x, ts = Zd2 x ∧ Zag7 x := by
 intro d ts h
 cases d with
 | zero => cases h
 | succ d =>
  simp only [WT, Go.Proofs.Tryz.underlying84] at h
  replace h : Seq (WT Go.Proofs.Tryz.prog d) [3, 3, 82] ts := h
  simp only [Seq] at h
  obtain ⟨_, _, rfl, h0, _, _, rfl, h1, _, _, rfl, h2, rfl⟩ := h
  obtain ⟨x0, rfl, o0⟩ := (Z6 Go.Proofs.Tryz.underlying3) d _ h0
  obtain ⟨x1, rfl, o1⟩ := (Z6 Go.Proofs.Tryz.underlying3) d _ h1
  obtain ⟨x2, rfl, o2⟩ := (Zbrx Go.Proofs.Tryz.underlying82 (Z6 Go.Proofs.Tryz.underlying3)) d _ h2
  exact ⟨⟨x0, x1, x2⟩, by simp only [Zd2, List.append_nil], o0, o1, o2⟩
theorem Za83 : ∀ (d : Nat) (ts : List Tree), WT Go.Proofs.Tryz.prog d 124 ts → ∃ x, ts = Zx6 x ∧ Zag8 x := by
 intro d ts h
 cases d with
 | zero => cases h
 | succ d =>
  simp only [WT, Go.Proofs.Tryz.underlying124] at h
  replace h : Seq (WT Go.Proofs.Tryz.prog d) [3, 3, 122] ts := h
  simp only [Seq] at h
  obtain ⟨_, _, rfl, h0, _, _, rfl, h1, _, _, rfl, h2, rfl⟩ := h
  obtain ⟨x0, rfl, o0⟩ := (Z6 Go.Proofs.Tryz.underlying3) d _ h0
  obtain ⟨x1, rfl, o1⟩ := (Z6 Go.Proofs.Tryz.underlying3) d _ h1
  obtain ⟨x2, rfl, o2⟩ := (Zf9 Go.Proofs.Tryz.underlying122 (by kernel_rfl : Go.Proofs.Tryz.prog.bytesOf 9 = 16) (Zaoz Go.Proofs.Tryz.underlying9)) d _ h2
  exact ⟨⟨x0, x1, x2⟩, by simp only [Zx6, List.append_nil], o0, o1, o2⟩
theorem Z5s : ∀ (d : Nat) (ts : List Tree), WT Go.Proofs.Tryz.prog d 78 ts → ∃ x, ts = Zjd x ∧ Z27 x := by
 intro d ts h
 cases d with
 | zero => cases h
 | succ d =>
  simp only [WT, Go.Proofs.Tryz.underlying78] at h
  replace h : Seq (WT Go.Proofs.Tryz.prog d) [3, 3] ts := h
  simp only [Seq] at h
  obtain ⟨_, _, rfl, h0, _, _, rfl, h1, rfl⟩ := h
  obtain ⟨x0, rfl, o0⟩ := (Z6 Go.Proofs.Tryz.underlying3) d _ h0
  obtain ⟨x1, rfl, o1⟩ := (Z6 Go.Proofs.Tryz.underlying3) d _ h1
  exact ⟨⟨x0, x1⟩, by simp only [Zjd, List.append_nil], o0, o1⟩
theorem Zj3 : ∀ (d : Nat) (ts : List Tree), WT Go.Proofs.Tryz.prog d 80 ts → ∃ x, ts = Zx x ∧ Zje x := by
 intro d ts h
 cases d with
 | zero => cases h
 | succ d =>
  simp only [WT, Go.Proofs.Tryz.underlying80] at h
  replace h : Seq (WT Go.Proofs.Tryz.prog d) [3, 3, 3, 3, 3, 3, 3, 9, 3, 3, 78, 78, 78] ts := h
  simp only [Seq] at h
  obtain ⟨_, _, rfl, h0, _, _, rfl, h1, _, _, rfl, h2, _, _, rfl, h3, _, _, rfl, h4, _, _, rfl, h5, _, _, rfl, h6, _, _, rfl, h7, _, _, rfl, h8, _, _, rfl, h9, _, _, rfl, h10, _, _, rfl, h11, _, _, rfl, h12, rfl⟩ := h
  obtain ⟨x0, rfl, o0⟩ := (Z6 Go.Proofs.Tryz.underlying3) d _ h0
  obtain ⟨x1, rfl, o1⟩ := (Z6 Go.Proofs.Tryz.underlying3) d _ h1
  obtain ⟨x2, rfl, o2⟩ := (Z6 Go.Proofs.Tryz.underlying3) d _ h2
  obtain ⟨x3, rfl, o3⟩ := (Z6 Go.Proofs.Tryz.underlying3) d _ h3
  obtain ⟨x4, rfl, o4⟩ := (Z6 Go.Proofs.Tryz.underlying3) d _ h4
  obtain ⟨x5, rfl, o5⟩ := (Z6 Go.Proofs.Tryz.underlying3) d _ h5
  obtain ⟨x6, rfl, o6⟩ := (Z6 Go.Proofs.Tryz.underlying3) d _ h6
  obtain ⟨x7, rfl, o7⟩ := (Zaoz Go.Proofs.Tryz.underlying9) d _ h7
  obtain ⟨x8, rfl, o8⟩ := (Z6 Go.Proofs.Tryz.underlying3) d _ h8
  obtain ⟨x9, rfl, o9⟩ := (Z6 Go.Proofs.Tryz.underlying3) d _ h9
  obtain ⟨x10, rfl, o10⟩ := Z5s d _ h10
  obtain ⟨x11, rfl, o11⟩ := Z5s d _ h11
  obtain ⟨x12, rfl, o12⟩ := Z5s d _ h12
  exact ⟨⟨x0, x1, x2, x3, x4, x5, x6, x7, x8, x9, x10, x11, x12⟩, by simp only [Zx, List.append_nil], o0, o1, o2, o3, o4, o5, o6, o7, o8, o9, o10, o11, o12⟩
theorem Zab0 : ∀ (d : Nat) (ts : List Tree), WT Go.Proofs.Tryz.prog d 136 ts → ∃ x, ts = Zp x ∧ Z28 x := by
 intro d ts h
 cases d with
 | zero => cases h
 | succ d =>
  simp only [WT, Go.Proofs.Tryz.underlying136] at h
  replace h : Seq (WT Go.Proofs.Tryz.prog d) [3, 3, 3, 9, 80] ts := h
  simp only [Seq] at h
  obtain ⟨_, _, rfl, h0, _, _, rfl, h1, _, _, rfl, h2, _, _, rfl, h3, _, _, rfl, h4, rfl⟩ := h
  obtain ⟨x0, rfl, o0⟩ := (Z6 Go.Proofs.Tryz.underlying3) d _ h0
  obtain ⟨x1, rfl, o1⟩ := (Z6 Go.Proofs.Tryz.underlying3) d _ h1
  obtain ⟨x2, rfl, o2⟩ := (Z6 Go.Proofs.Tryz.underlying3) d _ h2
  obtain ⟨x3, rfl, o3⟩ := (Zaoz Go.Proofs.Tryz.underlying9) d _ h3
  obtain ⟨x4, rfl, o4⟩ := Zj3 d _ h4
  exact ⟨⟨x0, x1, x2, x3, x4⟩, by simp only [Zp, List.append_nil], o0, o1, o2, o3, o4⟩
theorem Za41 : ∀ (d : Nat) (ts : List Tree), WT Go.Proofs.Tryz.prog d 86 ts → ∃ x, ts = Ze2 x ∧ Zapj x := by
 intro d ts h
 cases d with
 | zero => cases h
 | succ d =>
  simp only [WT, Go.Proofs.Tryz.underlying86] at h
  replace h : Seq (WT Go.Proofs.Tryz.prog d) [84, 4, 4, 3] ts := h
  simp only [Seq] at h
  obtain ⟨_, _, rfl, h0, _, _, rfl, h1, _, _, rfl, h2, _, _, rfl, h3, rfl⟩ := h
  obtain ⟨x0, rfl, o0⟩ := Zamw d _ h0
  obtain ⟨x1, rfl, o1⟩ := (Zj8 Go.Proofs.Tryz.underlying4) d _ h1
  obtain ⟨x2, rfl, o2⟩ := (Zj8 Go.Proofs.Tryz.underlying4) d _ h2
  obtain ⟨x3, rfl, o3⟩ := (Z6 Go.Proofs.Tryz.underlying3) d _ h3
  exact ⟨⟨x0, x1, x2, x3⟩, by simp only [Ze2, List.append_nil], o0, o1, o2, o3⟩
theorem Zawz : ∀ (d : Nat) (ts : List Tree), WT Go.Proofs.Tryz.prog d 88 ts → ∃ x, ts = Zc4 x ∧ Z5p x := by
 intro d ts h
 cases d with
 | zero => cases h
 | succ d =>
  simp only [WT, Go.Proofs.Tryz.underlying88] at h
  replace h : Seq (WT Go.Proofs.Tryz.prog d) [3, 3, 80] ts := h
  simp only [Seq] at h
  obtain ⟨_, _, rfl, h0, _, _, rfl, h1, _, _, rfl, h2, rfl⟩ := h
  obtain ⟨x0, rfl, o0⟩ := (Z6 Go.Proofs.Tryz.underlying3) d _ h0
  obtain ⟨x1, rfl, o1⟩ := (Z6 Go.Proofs.Tryz.underlying3) d _ h1
  obtain ⟨x2, rfl, o2⟩ := Zj3 d _ h2
  exact ⟨⟨x0, x1, x2⟩, by simp only [Zc4, List.append_nil], o0, o1, o2⟩
theorem Za84 : ∀ (d : Nat) (ts : List Tree), WT Go.Proofs.Tryz.prog d 166 ts → ∃ x, ts = Z3 x ∧ Zag9 x := by
 intro d ts h
 cases d with
 | zero => cases h
 | succ d =>
  simp only [WT, Go.Proofs.Tryz.underlying166] at h
  replace h : Seq (WT Go.Proofs.Tryz.prog d) [4, 4, 80] ts := h
  simp only [Seq] at h
  obtain ⟨_, _, rfl, h0, _, _, rfl, h1, _, _, rfl, h2, rfl⟩ := h
  obtain ⟨x0, rfl, o0⟩ := (Zj8 Go.Proofs.Tryz.underlying4) d _ h0
  obtain ⟨x1, rfl, o1⟩ := (Zj8 Go.Proofs.Tryz.underlying4) d _ h1
  obtain ⟨x2, rfl, o2⟩ := Zj3 d _ h2
  exact ⟨⟨x0, x1, x2⟩, by simp only [Z3, List.append_nil], o0, o1, o2⟩
theorem Zbdp : ∀ (d : Nat) (ts : List Tree), WT Go.Proofs.Tryz.prog d 139 ts → ∃ x, ts = Zfk x ∧ Zak7 x := by
 intro d ts h
 cases d with
 | zero => cases h
 | succ d =>
  simp only [WT, Go.Proofs.Tryz.underlying139] at h
  replace h : Seq (WT Go.Proofs.Tryz.prog d) [3, 3, 80] ts := h
  simp only [Seq] at h
  obtain ⟨_, _, rfl, h0, _, _, rfl, h1, _, _, rfl, h2, rfl⟩ := h
  obtain ⟨x0, rfl, o0⟩ := (Z6 Go.Proofs.Tryz.underlying3) d _ h0
  obtain ⟨x1, rfl, o1⟩ := (Z6 Go.Proofs.Tryz.underlying3) d _ h1
  obtain ⟨x2, rfl, o2⟩ := Zj3 d _ h2
  exact ⟨⟨x0, x1, x2⟩, by simp only [Zfk, List.append_nil], o0, o1, o2⟩
theorem Za0p : ∀ (d : Nat) (ts : List Tree), WT Go.Proofs.Tryz.prog d 141 ts → ∃ x, ts = Zb2 x ∧ Z8e x := by
 intro d ts h
 cases d with
 | zero => cases h
 | succ d =>
  simp only [WT, Go.Proofs.Tryz.underlying141] at h
  replace h : Seq (WT Go.Proofs.Tryz.prog d) [3, 3, 3, 80] ts := h
  simp only [Seq] at h
  obtain ⟨_, _, rfl, h0, _, _, rfl, h1, _, _, rfl, h2, _, _, rfl, h3, rfl⟩ := h
  obtain ⟨x0, rfl, o0⟩ := (Z6 Go.Proofs.Tryz.underlying3) d _ h0
  obtain ⟨x1, rfl, o1⟩ := (Z6 Go.Proofs.Tryz.underlying3) d _ h1
  obtain ⟨x2, rfl, o2⟩ := (Z6 Go.Proofs.Tryz.underlying3) d _ h2
  obtain ⟨x3, rfl, o3⟩ := Zj3 d _ h3
  exact ⟨⟨x0, x1, x2, x3⟩, by simp only [Zb2, List.append_nil], o0, o1, o2, o3⟩
theorem Za0q : ∀ (d : Nat) (ts : List Tree), WT Go.Proofs.Tryz.prog d 143 ts → ∃ x, ts = Zj x ∧ Z8f x := by
 intro d ts h
 cases d with
 | zero => cases h
 | succ d =>
  simp only [WT, Go.Proofs.Tryz.underlying143] at h
  replace h : Seq (WT Go.Proofs.Tryz.prog d) [3, 139, 141, 3, 3, 9, 80, 57, 81] ts := h
  simp only [Seq] at h
  obtain ⟨_, _, rfl, h0, _, _, rfl, h1, _, _, rfl, h2, _, _, rfl, h3, _, _, rfl, h4, _, _, rfl, h5, _, _, rfl, h6, _, _, rfl, h7, _, _, rfl, h8, rfl⟩ := h
  obtain ⟨x0, rfl, o0⟩ := (Z6 Go.Proofs.Tryz.underlying3) d _ h0
  obtain ⟨x1, rfl, o1⟩ := Zbdp d _ h1
  obtain ⟨x2, rfl, o2⟩ := Za0p d _ h2
  obtain ⟨x3, rfl, o3⟩ := (Z6 Go.Proofs.Tryz.underlying3) d _ h3
  obtain ⟨x4, rfl, o4⟩ := (Z6 Go.Proofs.Tryz.underlying3) d _ h4
  obtain ⟨x5, rfl, o5⟩ := (Zaoz Go.Proofs.Tryz.underlying9) d _ h5
  obtain ⟨x6, rfl, o6⟩ := Zj3 d _ h6
  obtain ⟨x7, rfl, o7⟩ := (Zbpb Go.Proofs.Tryz.underlying57 (Z6 Go.Proofs.Tryz.underlying3)) d _ h7
  obtain ⟨x8, rfl, o8⟩ := (Zf9 Go.Proofs.Tryz.underlying81 (by kernel_rfl : Go.Proofs.Tryz.prog.bytesOf 136 = 176) Zab0) d _ h8
  exact ⟨⟨x0, x1, x2, x3, x4, x5, x6, x7, x8⟩, by simp only [Zj, List.append_nil], o0, o1, o2, o3, o4, o5, o6, o7, o8⟩
theorem Zaw0 : ∀ (d : Nat) (ts : List Tree), WT Go.Proofs.Tryz.prog d 92 ts → ∃ x, ts = Zbw x ∧ Z5q x := by
 intro d ts h
 cases d with
 | zero => cases h
 | succ d =>
  simp only [WT, Go.Proofs.Tryz.underlying92] at h
  replace h : Seq (WT Go.Proofs.Tryz.prog d) [3, 3, 80, 3, 3, 3, 3] ts := h
  simp only [Seq] at h
  obtain ⟨_, _, rfl, h0, _, _, rfl, h1, _, _, rfl, h2, _, _, rfl, h3, _, _, rfl, h4, _, _, rfl, h5, _, _, rfl, h6, rfl⟩ := h
  obtain ⟨x0, rfl, o0⟩ := (Z6 Go.Proofs.Tryz.underlying3) d _ h0
  obtain ⟨x1, rfl, o1⟩ := (Z6 Go.Proofs.Tryz.underlying3) d _ h1
  obtain ⟨x2, rfl, o2⟩ := Zj3 d _ h2
  obtain ⟨x3, rfl, o3⟩ := (Z6 Go.Proofs.Tryz.underlying3) d _ h3
  obtain ⟨x4, rfl, o4⟩ := (Z6 Go.Proofs.Tryz.underlying3) d _ h4
  obtain ⟨x5, rfl, o5⟩ := (Z6 Go.Proofs.Tryz.underlying3) d _ h5
  obtain ⟨x6, rfl, o6⟩ := (Z6 Go.Proofs.Tryz.underlying3) d _ h6
  exact ⟨⟨x0, x1, x2, x3, x4, x5, x6⟩, by simp only [Zbw, List.append_nil], o0, o1, o2, o3, o4, o5, o6⟩
theorem Z0s : ∀ (d : Nat) (ts : List Tree), WT Go.Proofs.Tryz.prog d 94 ts → ∃ x, ts = Zac x ∧ Zr4 x := by
 intro d ts h
 cases d with
 | zero => cases h
 | succ d =>
  simp only [WT, Go.Proofs.Tryz.underlying94] at h
  replace h : Seq (WT Go.Proofs.Tryz.prog d) [3, 80, 81, 86, 4, 88, 4, 89, 90, 92] ts := h
  simp only [Seq] at h
  obtain ⟨_, _, rfl, h0, _, _, rfl, h1, _, _, rfl, h2, _, _, rfl, h3, _, _, rfl, h4, _, _, rfl, h5, _, _, rfl, h6, _, _, rfl, h7, _, _, rfl, h8, _, _, rfl, h9, rfl⟩ := h
  obtain ⟨x0, rfl, o0⟩ := (Z6 Go.Proofs.Tryz.underlying3) d _ h0
  obtain ⟨x1, rfl, o1⟩ := Zj3 d _ h1
  obtain ⟨x2, rfl, o2⟩ := (Zf9 Go.Proofs.Tryz.underlying81 (by kernel_rfl : Go.Proofs.Tryz.prog.bytesOf 136 = 176) Zab0) d _ h2
  obtain ⟨x3, rfl, o3⟩ := Za41 d _ h3
  obtain ⟨x4, rfl, o4⟩ := (Zj8 Go.Proofs.Tryz.underlying4) d _ h4
  obtain ⟨x5, rfl, o5⟩ := Zawz d _ h5
  obtain ⟨x6, rfl, o6⟩ := (Zj8 Go.Proofs.Tryz.underlying4) d _ h6
  obtain ⟨x7, rfl, o7⟩ := (Zf9 Go.Proofs.Tryz.underlying89 (by kernel_rfl : Go.Proofs.Tryz.prog.bytesOf 166 = 144) Za84) d _ h7
  obtain ⟨x8, rfl, o8⟩ := (Zf9 Go.Proofs.Tryz.underlying90 (by kernel_rfl : Go.Proofs.Tryz.prog.bytesOf 143 = 560) Za0q) d _ h8
  obtain ⟨x9, rfl, o9⟩ := Zaw0 d _ h9
  exact ⟨⟨x0, x1, x2, x3, x4, x5, x6, x7, x8, x9⟩, by simp only [Zac, List.append_nil], o0, o1, o2, o3, o4, o5, o6, o7, o8, o9⟩
theorem Za85 : ∀ (d : Nat) (ts : List Tree), WT Go.Proofs.Tryz.prog d 127 ts → ∃ x, ts = Z8 x ∧ Zaha x := by
 intro d ts h
 cases d with
 | zero => cases h
 | succ d =>
  simp only [WT, Go.Proofs.Tryz.underlying127] at h
  replace h : Seq (WT Go.Proofs.Tryz.prog d) [9, 4, 84, 3, 124, 3, 3, 3, 125] ts := h
  simp only [Seq] at h
  obtain ⟨_, _, rfl, h0, _, _, rfl, h1, _, _, rfl, h2, _, _, rfl, h3, _, _, rfl, h4, _, _, rfl, h5, _, _, rfl, h6, _, _, rfl, h7, _, _, rfl, h8, rfl⟩ := h
  obtain ⟨x0, rfl, o0⟩ := (Zaoz Go.Proofs.Tryz.underlying9) d _ h0
  obtain ⟨x1, rfl, o1⟩ := (Zj8 Go.Proofs.Tryz.underlying4) d _ h1
  obtain ⟨x2, rfl, o2⟩ := Zamw d _ h2
  obtain ⟨x3, rfl, o3⟩ := (Z6 Go.Proofs.Tryz.underlying3) d _ h3
  obtain ⟨x4, rfl, o4⟩ := Za83 d _ h4
  obtain ⟨x5, rfl, o5⟩ := (Z6 Go.Proofs.Tryz.underlying3) d _ h5
  obtain ⟨x6, rfl, o6⟩ := (Z6 Go.Proofs.Tryz.underlying3) d _ h6
  obtain ⟨x7, rfl, o7⟩ := (Z6 Go.Proofs.Tryz.underlying3) d _ h7
  obtain ⟨x8, rfl, o8⟩ := (Zf9 Go.Proofs.Tryz.underlying125 (by kernel_rfl : Go.Proofs.Tryz.prog.bytesOf 94 = 640) Z0s) d _ h8
  exact ⟨⟨x0, x1, x2, x3, x4, x5, x6, x7, x8⟩, by simp only [Z8, List.append_nil], o0, o1, o2, o3, o4, o5, o6, o7, o8⟩
theorem Za0r : ∀ (d : Nat) (ts : List Tree), WT Go.Proofs.Tryz.prog d 59 ts → ∃ x, ts = Zg x ∧ Z8g x := by
 intro d ts h
 cases d with
 | zero => cases h
 | succ d =>
  simp only [WT, Go.Proofs.Tryz.underlying59] at h
  replace h : Seq (WT Go.Proofs.Tryz.prog d) [3, 3, 3, 57, 4, 4, 25, 25, 25] ts := h
  simp only [Seq] at h
  obtain ⟨_, _, rfl, h0, _, _, rfl, h1, _, _, rfl, h2, _, _, rfl, h3, _, _, rfl, h4, _, _, rfl, h5, _, _, rfl, h6, _, _, rfl, h7, _, _, rfl, h8, rfl⟩ := h
  obtain ⟨x0, rfl, o0⟩ := (Z6 Go.Proofs.Tryz.underlying3) d _ h0
  obtain ⟨x1, rfl, o1⟩ := (Z6 Go.Proofs.Tryz.underlying3) d _ h1
  obtain ⟨x2, rfl, o2⟩ := (Z6 Go.Proofs.Tryz.underlying3) d _ h2
  obtain ⟨x3, rfl, o3⟩ := (Zbpb Go.Proofs.Tryz.underlying57 (Z6 Go.Proofs.Tryz.underlying3)) d _ h3
  obtain ⟨x4, rfl, o4⟩ := (Zj8 Go.Proofs.Tryz.underlying4) d _ h4
  obtain ⟨x5, rfl, o5⟩ := (Zj8 Go.Proofs.Tryz.underlying4) d _ h5
  obtain ⟨x6, rfl, o6⟩ := (Zf9 Go.Proofs.Tryz.underlying25 (by kernel_rfl : Go.Proofs.Tryz.prog.bytesOf 3 = 8) (Z6 Go.Proofs.Tryz.underlying3)) d _ h6
  obtain ⟨x7, rfl, o7⟩ := (Zf9 Go.Proofs.Tryz.underlying25 (by kernel_rfl : Go.Proofs.Tryz.prog.bytesOf 3 = 8) (Z6 Go.Proofs.Tryz.underlying3)) d _ h7
  obtain ⟨x8, rfl, o8⟩ := (Zf9 Go.Proofs.Tryz.underlying25 (by kernel_rfl : Go.Proofs.Tryz.prog.bytesOf 3 = 8) (Z6 Go.Proofs.Tryz.underlying3)) d _ h8
  exact ⟨⟨x0, x1, x2, x3, x4, x5, x6, x7, x8⟩, by simp only [Zg, List.append_nil], o0, o1, o2, o3, o4, o5, o6, o7, o8⟩
theorem Za0s : ∀ (d : Nat) (ts : List Tree), WT Go.Proofs.Tryz.prog d 44 ts → ∃ x, ts = Zc x ∧ Zamt x := by
 intro d ts h
 cases d with
 | zero => cases h
 | succ d =>
  simp only [WT, Go.Proofs.Tryz.underlying44] at h
  replace h : Seq (WT Go.Proofs.Tryz.prog d) [3, 3, 3, 3, 3, 4, 4, 4, 4, 3, 42, 3, 3, 3, 4, 3, 3] ts := h
  simp only [Seq] at h
  obtain ⟨_, _, rfl, h0, _, _, rfl, h1, _, _, rfl, h2, _, _, rfl, h3, _, _, rfl, h4, _, _, rfl, h5, _, _, rfl, h6, _, _, rfl, h7, _, _, rfl, h8, _, _, rfl, h9, _, _, rfl, h10, _, _, rfl, h11, _, _, rfl, h12, _, _, rfl, h13, _, _, rfl, h14, _, _, rfl, h15, _, _, rfl, h16, rfl⟩ := h
  obtain ⟨x0, rfl, o0⟩ := (Z6 Go.Proofs.Tryz.underlying3) d _ h0
  obtain ⟨x1, rfl, o1⟩ := (Z6 Go.Proofs.Tryz.underlying3) d _ h1
  obtain ⟨x2, rfl, o2⟩ := (Z6 Go.Proofs.Tryz.underlying3) d _ h2
  obtain ⟨x3, rfl, o3⟩ := (Z6 Go.Proofs.Tryz.underlying3) d _ h3
  obtain ⟨x4, rfl, o4⟩ := (Z6 Go.Proofs.Tryz.underlying3) d _ h4
  obtain ⟨x5, rfl, o5⟩ := (Zj8 Go.Proofs.Tryz.underlying4) d _ h5
  obtain ⟨x6, rfl, o6⟩ := (Zj8 Go.Proofs.Tryz.underlying4) d _ h6
  obtain ⟨x7, rfl, o7⟩ := (Zj8 Go.Proofs.Tryz.underlying4) d _ h7
  obtain ⟨x8, rfl, o8⟩ := (Zj8 Go.Proofs.Tryz.underlying4) d _ h8
  obtain ⟨x9, rfl, o9⟩ := (Z6 Go.Proofs.Tryz.underlying3) d _ h9
  obtain ⟨x10, rfl, o10⟩ := (Zbpa Go.Proofs.Tryz.underlying42 (Z6 Go.Proofs.Tryz.underlying3)) d _ h10
  obtain ⟨x11, rfl, o11⟩ := (Z6 Go.Proofs.Tryz.underlying3) d _ h11
  obtain ⟨x12, rfl, o12⟩ := (Z6 Go.Proofs.Tryz.underlying3) d _ h12
  obtain ⟨x13, rfl, o13⟩ := (Z6 Go.Proofs.Tryz.underlying3) d _ h13
  obtain ⟨x14, rfl, o14⟩ := (Zj8 Go.Proofs.Tryz.underlying4) d _ h14
  obtain ⟨x15, rfl, o15⟩ := (Z6 Go.Proofs.Tryz.underlying3) d _ h15
  obtain ⟨x16, rfl, o16⟩ := (Z6 Go.Proofs.Tryz.underlying3) d _ h16
  exact ⟨⟨x0, x1, x2, x3, x4, x5, x6, x7, x8, x9, x10, x11, x12, x13, x14, x15, x16⟩, by simp only [Zc, List.append_nil], o0, o1, o2, o3, o4, o5, o6, o7, o8, o9, o10, o11, o12, o13, o14, o15, o16⟩
theorem Za0t : ∀ (d : Nat) (ts : List Tree), WT Go.Proofs.Tryz.prog d 132 ts → ∃ x, ts = Zae x ∧ Zamu x := by
 intro d ts h
 cases d with
 | zero => cases h
 | succ d =>
  simp only [WT, Go.Proofs.Tryz.underlying132] at h
  replace h : Seq (WT Go.Proofs.Tryz.prog d) [3, 3] ts := h
  simp only [Seq] at h
  obtain ⟨_, _, rfl, h0, _, _, rfl, h1, rfl⟩ := h
  obtain ⟨x0, rfl, o0⟩ := (Z6 Go.Proofs.Tryz.underlying3) d _ h0
  obtain ⟨x1, rfl, o1⟩ := (Z6 Go.Proofs.Tryz.underlying3) d _ h1
  exact ⟨⟨x0, x1⟩, by simp only [Zae, List.append_nil], o0, o1⟩
theorem Zait : ∀ (d : Nat) (ts : List Tree), WT Go.Proofs.Tryz.prog d 97 ts → ∃ x, ts = Zic x ∧ Zabz x := by
 intro d ts h
 cases d with
 | zero => cases h
 | succ d =>
  simp only [WT, Go.Proofs.Tryz.underlying97] at h
  replace h : Seq (WT Go.Proofs.Tryz.prog d) [3, 3, 3, 3, 3, 3, 3, 3, 3, 3, 4, 4, 42] ts := h
  simp only [Seq] at h
  obtain ⟨_, _, rfl, h0, _, _, rfl, h1, _, _, rfl, h2, _, _, rfl, h3, _, _, rfl, h4, _, _, rfl, h5, _, _, rfl, h6, _, _, rfl, h7, _, _, rfl, h8, _, _, rfl, h9, _, _, rfl, h10, _, _, rfl, h11, _, _, rfl, h12, rfl⟩ := h
  obtain ⟨x0, rfl, o0⟩ := (Z6 Go.Proofs.Tryz.underlying3) d _ h0
  obtain ⟨x1, rfl, o1⟩ := (Z6 Go.Proofs.Tryz.underlying3) d _ h1
  obtain ⟨x2, rfl, o2⟩ := (Z6 Go.Proofs.Tryz.underlying3) d _ h2
  obtain ⟨x3, rfl, o3⟩ := (Z6 Go.Proofs.Tryz.underlying3) d _ h3
  obtain ⟨x4, rfl, o4⟩ := (Z6 Go.Proofs.Tryz.underlying3) d _ h4
  obtain ⟨x5, rfl, o5⟩ := (Z6 Go.Proofs.Tryz.underlying3) d _ h5
  obtain ⟨x6, rfl, o6⟩ := (Z6 Go.Proofs.Tryz.underlying3) d _ h6
  obtain ⟨x7, rfl, o7⟩ := (Z6 Go.Proofs.Tryz.underlying3) d _ h7
  obtain ⟨x8, rfl, o8⟩ := (Z6 Go.Proofs.Tryz.underlying3) d _ h8
  obtain ⟨x9, rfl, o9⟩ := (Z6 Go.Proofs.Tryz.underlying3) d _ h9
  obtain ⟨x10, rfl, o10⟩ := (Zj8 Go.Proofs.Tryz.underlying4) d _ h10
  obtain ⟨x11, rfl, o11⟩ := (Zj8 Go.Proofs.Tryz.underlying4) d _ h11
  obtain ⟨x12, rfl, o12⟩ := (Zbpa Go.Proofs.Tryz.underlying42 (Z6 Go.Proofs.Tryz.underlying3)) d _ h12
  exact ⟨⟨x0, x1, x2, x3, x4, x5, x6, x7, x8, x9, x10, x11, x12⟩, by simp only [Zic, List.append_nil], o0, o1, o2, o3, o4, o5, o6, o7, o8, o9, o10, o11, o12⟩
theorem Za86 : ∀ (d : Nat) (ts : List Tree), WT Go.Proofs.Tryz.prog d 99 ts → ∃ x, ts = Zl x ∧ Zahb x := by
 intro d ts h
 cases d with
 | zero => cases h
 | succ d =>
  simp only [WT, Go.Proofs.Tryz.underlying99] at h
  replace h : Seq (WT Go.Proofs.Tryz.prog d) [3, 3, 3, 3, 3, 4, 94, 95, 97] ts := h
  simp only [Seq] at h
  obtain ⟨_, _, rfl, h0, _, _, rfl, h1, _, _, rfl, h2, _, _, rfl, h3, _, _, rfl, h4, _, _, rfl, h5, _, _, rfl, h6, _, _, rfl, h7, _, _, rfl, h8, rfl⟩ := h
  obtain ⟨x0, rfl, o0⟩ := (Z6 Go.Proofs.Tryz.underlying3) d _ h0
  obtain ⟨x1, rfl, o1⟩ := (Z6 Go.Proofs.Tryz.underlying3) d _ h1
  obtain ⟨x2, rfl, o2⟩ := (Z6 Go.Proofs.Tryz.underlying3) d _ h2
  obtain ⟨x3, rfl, o3⟩ := (Z6 Go.Proofs.Tryz.underlying3) d _ h3
  obtain ⟨x4, rfl, o4⟩ := (Z6 Go.Proofs.Tryz.underlying3) d _ h4
  obtain ⟨x5, rfl, o5⟩ := (Zj8 Go.Proofs.Tryz.underlying4) d _ h5
  obtain ⟨x6, rfl, o6⟩ := Z0s d _ h6
  obtain ⟨x7, rfl, o7⟩ := (Zf9 Go.Proofs.Tryz.underlying95 (by kernel_rfl : Go.Proofs.Tryz.prog.bytesOf 132 = 16) Za0t) d _ h7
  obtain ⟨x8, rfl, o8⟩ := Zait d _ h8
  exact ⟨⟨x0, x1, x2, x3, x4, x5, x6, x7, x8⟩, by simp only [Zl, List.append_nil], o0, o1, o2, o3, o4, o5, o6, o7, o8⟩
theorem Zaw1 : ∀ (d : Nat) (ts : List Tree), WT Go.Proofs.Tryz.prog d 103 ts → ∃ x, ts = Zm x ∧ Z5r x := by
 intro d ts h
 cases d with
 | zero => cases h
 | succ d =>
  simp only [WT, Go.Proofs.Tryz.underlying103] at h
  replace h : Seq (WT Go.Proofs.Tryz.prog d) [3, 3, 94, 97] ts := h
  simp only [Seq] at h
  obtain ⟨_, _, rfl, h0, _, _, rfl, h1, _, _, rfl, h2, _, _, rfl, h3, rfl⟩ := h
  obtain ⟨x0, rfl, o0⟩ := (Z6 Go.Proofs.Tryz.underlying3) d _ h0
  obtain ⟨x1, rfl, o1⟩ := (Z6 Go.Proofs.Tryz.underlying3) d _ h1
  obtain ⟨x2, rfl, o2⟩ := Z0s d _ h2
  obtain ⟨x3, rfl, o3⟩ := Zait d _ h3
  exact ⟨⟨x0, x1, x2, x3⟩, by simp only [Zm, List.append_nil], o0, o1, o2, o3⟩
theorem Za87 : ∀ (d : Nat) (ts : List Tree), WT Go.Proofs.Tryz.prog d 107 ts → ∃ x, ts = Zn x ∧ Zahc x := by
 intro d ts h
 cases d with
 | zero => cases h
 | succ d =>
  simp only [WT, Go.Proofs.Tryz.underlying107] at h
  replace h : Seq (WT Go.Proofs.Tryz.prog d) [3, 3, 3, 3, 25, 81] ts := h
  simp only [Seq] at h
  obtain ⟨_, _, rfl, h0, _, _, rfl, h1, _, _, rfl, h2, _, _, rfl, h3, _, _, rfl, h4, _, _, rfl, h5, rfl⟩ := h
  obtain ⟨x0, rfl, o0⟩ := (Z6 Go.Proofs.Tryz.underlying3) d _ h0
  obtain ⟨x1, rfl, o1⟩ := (Z6 Go.Proofs.Tryz.underlying3) d _ h1
  obtain ⟨x2, rfl, o2⟩ := (Z6 Go.Proofs.Tryz.underlying3) d _ h2
  obtain ⟨x3, rfl, o3⟩ := (Z6 Go.Proofs.Tryz.underlying3) d _ h3
  obtain ⟨x4, rfl, o4⟩ := (Zf9 Go.Proofs.Tryz.underlying25 (by kernel_rfl : Go.Proofs.Tryz.prog.bytesOf 3 = 8) (Z6 Go.Proofs.Tryz.underlying3)) d _ h4
  obtain ⟨x5, rfl, o5⟩ := (Zf9 Go.Proofs.Tryz.underlying81 (by kernel_rfl : Go.Proofs.Tryz.prog.bytesOf 136 = 176) Zab0) d _ h5
  exact ⟨⟨x0, x1, x2, x3, x4, x5⟩, by simp only [Zn, List.append_nil], o0, o1, o2, o3, o4, o5⟩
theorem Zaiu : ∀ (d : Nat) (ts : List Tree), WT Go.Proofs.Tryz.prog d 31 ts → ∃ x, ts = Z4 x ∧ Z29 x := by
 intro d ts h
 cases d with
 | zero => cases h
 | succ d =>
  simp only [WT, Go.Proofs.Tryz.underlying31] at h
  replace h : Seq (WT Go.Proofs.Tryz.prog d) [23, 24, 25, 25, 26, 27, 28, 3, 3, 3, 4, 3, 3, 3, 3, 29, 25, 3, 3] ts := h
  simp only [Seq] at h
  obtain ⟨_, _, rfl, h0, _, _, rfl, h1, _, _, rfl, h2, _, _, rfl, h3, _, _, rfl, h4, _, _, rfl, h5, _, _, rfl, h6, _, _, rfl, h7, _, _, rfl, h8, _, _, rfl, h9, _, _, rfl, h10, _, _, rfl, h11, _, _, rfl, h12, _, _, rfl, h13, _, _, rfl, h14, _, _, rfl, h15, _, _, rfl, h16, _, _, rfl, h17, _, _, rfl, h18, rfl⟩ := h
  obtain ⟨x0, rfl, o0⟩ := (Zf9 Go.Proofs.Tryz.underlying23 (by kernel_rfl : Go.Proofs.Tryz.prog.bytesOf 59 = 152) Za0r) d _ h0
  obtain ⟨x1, rfl, o1⟩ := (Zf9 Go.Proofs.Tryz.underlying24 (by kernel_rfl : Go.Proofs.Tryz.prog.bytesOf 44 = 128) Za0s) d _ h1
  obtain ⟨x2, rfl, o2⟩ := (Zf9 Go.Proofs.Tryz.underlying25 (by kernel_rfl : Go.Proofs.Tryz.prog.bytesOf 3 = 8) (Z6 Go.Proofs.Tryz.underlying3)) d _ h2
  obtain ⟨x3, rfl, o3⟩ := (Zf9 Go.Proofs.Tryz.underlying25 (by kernel_rfl : Go.Proofs.Tryz.prog.bytesOf 3 = 8) (Z6 Go.Proofs.Tryz.underlying3)) d _ h3
  obtain ⟨x4, rfl, o4⟩ := (Zf9 Go.Proofs.Tryz.underlying26 (by kernel_rfl : Go.Proofs.Tryz.prog.bytesOf 99 = 824) Za86) d _ h4
  obtain ⟨x5, rfl, o5⟩ := (Zf9 Go.Proofs.Tryz.underlying27 (by kernel_rfl : Go.Proofs.Tryz.prog.bytesOf 103 = 768) Zaw1) d _ h5
  obtain ⟨x6, rfl, o6⟩ := (Zf9 Go.Proofs.Tryz.underlying28 (by kernel_rfl : Go.Proofs.Tryz.prog.bytesOf 107 = 80) Za87) d _ h6
  obtain ⟨x7, rfl, o7⟩ := (Z6 Go.Proofs.Tryz.underlying3) d _ h7
  obtain ⟨x8, rfl, o8⟩ := (Z6 Go.Proofs.Tryz.underlying3) d _ h8
  obtain ⟨x9, rfl, o9⟩ := (Z6 Go.Proofs.Tryz.underlying3) d _ h9
  obtain ⟨x10, rfl, o10⟩ := (Zj8 Go.Proofs.Tryz.underlying4) d _ h10
  obtain ⟨x11, rfl, o11⟩ := (Z6 Go.Proofs.Tryz.underlying3) d _ h11
  obtain ⟨x12, rfl, o12⟩ := (Z6 Go.Proofs.Tryz.underlying3) d _ h12
  obtain ⟨x13, rfl, o13⟩ := (Z6 Go.Proofs.Tryz.underlying3) d _ h13
  obtain ⟨x14, rfl, o14⟩ := (Z6 Go.Proofs.Tryz.underlying3) d _ h14
  obtain ⟨x15, rfl, o15⟩ := (Z6 Go.Proofs.Tryz.underlying29) d _ h15
  obtain ⟨x16, rfl, o16⟩ := (Zf9 Go.Proofs.Tryz.underlying25 (by kernel_rfl : Go.Proofs.Tryz.prog.bytesOf 3 = 8) (Z6 Go.Proofs.Tryz.underlying3)) d _ h16
  obtain ⟨x17, rfl, o17⟩ := (Z6 Go.Proofs.Tryz.underlying3) d _ h17
  obtain ⟨x18, rfl, o18⟩ := (Z6 Go.Proofs.Tryz.underlying3) d _ h18
  exact ⟨⟨x0, x1, x2, x3, x4, x5, x6, x7, x8, x9, x10, x11, x12, x13, x14, x15, x16, x17, x18⟩, by simp only [Z4, List.append_nil], o0, o1, o2, o3, o4, o5, o6, o7, o8, o9, o10, o11, o12, o13, o14, o15, o16, o17, o18⟩
theorem Za0u : ∀ (d : Nat) (ts : List Tree), WT Go.Proofs.Tryz.prog d 65 ts → ∃ x, ts = Zu x ∧ Zamv x := by
 intro d ts h
 cases d with
 | zero => cases h
 | succ d =>
  simp only [WT, Go.Proofs.Tryz.underlying65] at h
  replace h : Seq (WT Go.Proofs.Tryz.prog d) [3, 3, 3] ts := h
  simp only [Seq] at h
  obtain ⟨_, _, rfl, h0, _, _, rfl, h1, _, _, rfl, h2, rfl⟩ := h
  obtain ⟨x0, rfl, o0⟩ := (Z6 Go.Proofs.Tryz.underlying3) d _ h0
  obtain ⟨x1, rfl, o1⟩ := (Z6 Go.Proofs.Tryz.underlying3) d _ h1
  obtain ⟨x2, rfl, o2⟩ := (Z6 Go.Proofs.Tryz.underlying3) d _ h2
  exact ⟨⟨x0, x1, x2⟩, by simp only [Zu, List.append_nil], o0, o1, o2⟩
theorem Za0v : ∀ (d : Nat) (ts : List Tree), WT Go.Proofs.Tryz.prog d 35 ts → ∃ x, ts = Zlj x ∧ Z8h x := by
 intro d ts h
 cases d with
 | zero => cases h
 | succ d =>
  simp only [WT, Go.Proofs.Tryz.underlying35] at h
  replace h : Seq (WT Go.Proofs.Tryz.prog d) [3, 3, 3, 3, 3, 3, 33] ts := h
  simp only [Seq] at h
  obtain ⟨_, _, rfl, h0, _, _, rfl, h1, _, _, rfl, h2, _, _, rfl, h3, _, _, rfl, h4, _, _, rfl, h5, _, _, rfl, h6, rfl⟩ := h
  obtain ⟨x0, rfl, o0⟩ := (Z6 Go.Proofs.Tryz.underlying3) d _ h0
  obtain ⟨x1, rfl, o1⟩ := (Z6 Go.Proofs.Tryz.underlying3) d _ h1
  obtain ⟨x2, rfl, o2⟩ := (Z6 Go.Proofs.Tryz.underlying3) d _ h2
  obtain ⟨x3, rfl, o3⟩ := (Z6 Go.Proofs.Tryz.underlying3) d _ h3
  obtain ⟨x4, rfl, o4⟩ := (Z6 Go.Proofs.Tryz.underlying3) d _ h4
  obtain ⟨x5, rfl, o5⟩ := (Z6 Go.Proofs.Tryz.underlying3) d _ h5
  obtain ⟨x6, rfl, o6⟩ := (Zf9 Go.Proofs.Tryz.underlying33 (by kernel_rfl : Go.Proofs.Tryz.prog.bytesOf 65 = 24) Za0u) d _ h6
  exact ⟨⟨x0, x1, x2, x3, x4, x5, x6⟩, by simp only [Zlj, List.append_nil], o0, o1, o2, o3, o4, o5, o6⟩
theorem Za88 : ∀ (d : Nat) (ts : List Tree), WT Go.Proofs.Tryz.prog d 38 ts → ∃ x, ts = Ze3 x ∧ Zauv x := by
 intro d ts h
 cases d with
 | zero => cases h
 | succ d =>
  simp only [WT, Go.Proofs.Tryz.underlying38] at h
  replace h : Seq (WT Go.Proofs.Tryz.prog d) [22, 31, 32, 35, 3, 36] ts := h
  simp only [Seq] at h
  obtain ⟨_, _, rfl, h0, _, _, rfl, h1, _, _, rfl, h2, _, _, rfl, h3, _, _, rfl, h4, _, _, rfl, h5, rfl⟩ := h
  obtain ⟨x0, rfl, o0⟩ := (Zf9 Go.Proofs.Tryz.underlying22 (by kernel_rfl : Go.Proofs.Tryz.prog.bytesOf 127 = 176) Za85) d _ h0
  obtain ⟨x1, rfl, o1⟩ := Zaiu d _ h1
  obtain ⟨x2, rfl, o2⟩ := (Zf9 Go.Proofs.Tryz.underlying32 (by kernel_rfl : Go.Proofs.Tryz.prog.bytesOf 25 = 24) (Zf9 Go.Proofs.Tryz.underlying25 (by kernel_rfl : Go.Proofs.Tryz.prog.bytesOf 3 = 8) (Z6 Go.Proofs.Tryz.underlying3))) d _ h2
  obtain ⟨x3, rfl, o3⟩ := Za0v d _ h3
  obtain ⟨x4, rfl, o4⟩ := (Z6 Go.Proofs.Tryz.underlying3) d _ h4
  obtain ⟨x5, rfl, o5⟩ := (Zf9 Go.Proofs.Tryz.underlying36 (by kernel_rfl : Go.Proofs.Tryz.prog.bytesOf 31 = 280) Zaiu) d _ h5
  exact ⟨⟨x0, x1, x2, x3, x4, x5⟩, by simp only [Ze3, List.append_nil], o0, o1, o2, o3, o4, o5⟩
end Go.PW
