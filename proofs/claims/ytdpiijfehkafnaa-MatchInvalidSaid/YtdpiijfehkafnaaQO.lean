import Derived.Test.YtdpiijfehkafnaaQT
import Derived.Test.YtdpiijfehkafnaaQE
namespace Go.PW
open Go.RowKit
theorem open_api_Object : ∀ (d : Nat) (ts : List Tree), WT Go.Proofs.Try.prog d 24 ts → ∃ x, ts = c_api_Object x ∧ ok_api_Object x := by
  intro d ts h
  cases d with
  | zero => cases h
  | succ d =>
    simp only [WT, Go.Proofs.Try.underlying24] at h
    replace h : Seq (WT Go.Proofs.Try.prog d) [3, 3, 3, 3, 3, 4, 4, 4, 4, 3, 22, 3, 3, 3, 4, 3, 3] ts := h
    simp only [Seq] at h
    obtain ⟨_, _, rfl, h0, _, _, rfl, h1, _, _, rfl, h2, _, _, rfl, h3, _, _, rfl, h4, _, _, rfl, h5, _, _, rfl, h6, _, _, rfl, h7, _, _, rfl, h8, _, _, rfl, h9, _, _, rfl, h10, _, _, rfl, h11, _, _, rfl, h12, _, _, rfl, h13, _, _, rfl, h14, _, _, rfl, h15, _, _, rfl, h16, rfl⟩ := h
    obtain ⟨x0, rfl, o0⟩ := (WT_int Go.Proofs.Try.underlying3) d _ h0
    obtain ⟨x1, rfl, o1⟩ := (WT_int Go.Proofs.Try.underlying3) d _ h1
    obtain ⟨x2, rfl, o2⟩ := (WT_int Go.Proofs.Try.underlying3) d _ h2
    obtain ⟨x3, rfl, o3⟩ := (WT_int Go.Proofs.Try.underlying3) d _ h3
    obtain ⟨x4, rfl, o4⟩ := (WT_int Go.Proofs.Try.underlying3) d _ h4
    obtain ⟨x5, rfl, o5⟩ := (WT_bool Go.Proofs.Try.underlying4) d _ h5
    obtain ⟨x6, rfl, o6⟩ := (WT_bool Go.Proofs.Try.underlying4) d _ h6
    obtain ⟨x7, rfl, o7⟩ := (WT_bool Go.Proofs.Try.underlying4) d _ h7
    obtain ⟨x8, rfl, o8⟩ := (WT_bool Go.Proofs.Try.underlying4) d _ h8
    obtain ⟨x9, rfl, o9⟩ := (WT_int Go.Proofs.Try.underlying3) d _ h9
    obtain ⟨x10, rfl, o10⟩ := (WT_A3 Go.Proofs.Try.underlying22 (WT_int Go.Proofs.Try.underlying3)) d _ h10
    obtain ⟨x11, rfl, o11⟩ := (WT_int Go.Proofs.Try.underlying3) d _ h11
    obtain ⟨x12, rfl, o12⟩ := (WT_int Go.Proofs.Try.underlying3) d _ h12
    obtain ⟨x13, rfl, o13⟩ := (WT_int Go.Proofs.Try.underlying3) d _ h13
    obtain ⟨x14, rfl, o14⟩ := (WT_bool Go.Proofs.Try.underlying4) d _ h14
    obtain ⟨x15, rfl, o15⟩ := (WT_int Go.Proofs.Try.underlying3) d _ h15
    obtain ⟨x16, rfl, o16⟩ := (WT_int Go.Proofs.Try.underlying3) d _ h16
    exact ⟨⟨x0, x1, x2, x3, x4, x5, x6, x7, x8, x9, x10, x11, x12, x13, x14, x15, x16⟩, by simp only [c_api_Object, List.append_nil], o0, o1, o2, o3, o4, o5, o6, o7, o8, o9, o10, o11, o12, o13, o14, o15, o16⟩
theorem open_api_Cost : ∀ (d : Nat) (ts : List Tree), WT Go.Proofs.Try.prog d 27 ts → ∃ x, ts = c_api_Cost x ∧ ok_api_Cost x := by
  intro d ts h
  cases d with
  | zero => cases h
  | succ d =>
    simp only [WT, Go.Proofs.Try.underlying27] at h
    replace h : Seq (WT Go.Proofs.Try.prog d) [3, 3, 25] ts := h
    simp only [Seq] at h
    obtain ⟨_, _, rfl, h0, _, _, rfl, h1, _, _, rfl, h2, rfl⟩ := h
    obtain ⟨x0, rfl, o0⟩ := (WT_int Go.Proofs.Try.underlying3) d _ h0
    obtain ⟨x1, rfl, o1⟩ := (WT_int Go.Proofs.Try.underlying3) d _ h1
    obtain ⟨x2, rfl, o2⟩ := (WT_A5 Go.Proofs.Try.underlying25 (WT_int Go.Proofs.Try.underlying3)) d _ h2
    exact ⟨⟨x0, x1, x2⟩, by simp only [c_api_Cost, List.append_nil], o0, o1, o2⟩
theorem open_api_Line : ∀ (d : Nat) (ts : List Tree), WT Go.Proofs.Try.prog d 30 ts → ∃ x, ts = c_api_Line x ∧ ok_api_Line x := by
  intro d ts h
  cases d with
  | zero => cases h
  | succ d =>
    simp only [WT, Go.Proofs.Try.underlying30] at h
    replace h : Seq (WT Go.Proofs.Try.prog d) [3, 3, 28] ts := h
    simp only [Seq] at h
    obtain ⟨_, _, rfl, h0, _, _, rfl, h1, _, _, rfl, h2, rfl⟩ := h
    obtain ⟨x0, rfl, o0⟩ := (WT_int Go.Proofs.Try.underlying3) d _ h0
    obtain ⟨x1, rfl, o1⟩ := (WT_int Go.Proofs.Try.underlying3) d _ h1
    obtain ⟨x2, rfl, o2⟩ := (WT_list Go.Proofs.Try.underlying28 (by kernel_rfl : Go.Proofs.Try.prog.bytesOf 9 = 16) (WT_str Go.Proofs.Try.underlying9)) d _ h2
    exact ⟨⟨x0, x1, x2⟩, by simp only [c_api_Line, List.append_nil], o0, o1, o2⟩
theorem open_api_Bound : ∀ (d : Nat) (ts : List Tree), WT Go.Proofs.Try.prog d 37 ts → ∃ x, ts = c_api_Bound x ∧ ok_api_Bound x := by
  intro d ts h
  cases d with
  | zero => cases h
  | succ d =>
    simp only [WT, Go.Proofs.Try.underlying37] at h
    replace h : Seq (WT Go.Proofs.Try.prog d) [3, 3] ts := h
    simp only [Seq] at h
    obtain ⟨_, _, rfl, h0, _, _, rfl, h1, rfl⟩ := h
    obtain ⟨x0, rfl, o0⟩ := (WT_int Go.Proofs.Try.underlying3) d _ h0
    obtain ⟨x1, rfl, o1⟩ := (WT_int Go.Proofs.Try.underlying3) d _ h1
    exact ⟨⟨x0, x1⟩, by simp only [c_api_Bound, List.append_nil], o0, o1⟩
theorem open_api_Filter : ∀ (d : Nat) (ts : List Tree), WT Go.Proofs.Try.prog d 39 ts → ∃ x, ts = c_api_Filter x ∧ ok_api_Filter x := by
  intro d ts h
  cases d with
  | zero => cases h
  | succ d =>
    simp only [WT, Go.Proofs.Try.underlying39] at h
    replace h : Seq (WT Go.Proofs.Try.prog d) [3, 3, 3, 3, 3, 3, 3, 9, 3, 3, 37, 37, 37] ts := h
    simp only [Seq] at h
    obtain ⟨_, _, rfl, h0, _, _, rfl, h1, _, _, rfl, h2, _, _, rfl, h3, _, _, rfl, h4, _, _, rfl, h5, _, _, rfl, h6, _, _, rfl, h7, _, _, rfl, h8, _, _, rfl, h9, _, _, rfl, h10, _, _, rfl, h11, _, _, rfl, h12, rfl⟩ := h
    obtain ⟨x0, rfl, o0⟩ := (WT_int Go.Proofs.Try.underlying3) d _ h0
    obtain ⟨x1, rfl, o1⟩ := (WT_int Go.Proofs.Try.underlying3) d _ h1
    obtain ⟨x2, rfl, o2⟩ := (WT_int Go.Proofs.Try.underlying3) d _ h2
    obtain ⟨x3, rfl, o3⟩ := (WT_int Go.Proofs.Try.underlying3) d _ h3
    obtain ⟨x4, rfl, o4⟩ := (WT_int Go.Proofs.Try.underlying3) d _ h4
    obtain ⟨x5, rfl, o5⟩ := (WT_int Go.Proofs.Try.underlying3) d _ h5
    obtain ⟨x6, rfl, o6⟩ := (WT_int Go.Proofs.Try.underlying3) d _ h6
    obtain ⟨x7, rfl, o7⟩ := (WT_str Go.Proofs.Try.underlying9) d _ h7
    obtain ⟨x8, rfl, o8⟩ := (WT_int Go.Proofs.Try.underlying3) d _ h8
    obtain ⟨x9, rfl, o9⟩ := (WT_int Go.Proofs.Try.underlying3) d _ h9
    obtain ⟨x10, rfl, o10⟩ := open_api_Bound d _ h10
    obtain ⟨x11, rfl, o11⟩ := open_api_Bound d _ h11
    obtain ⟨x12, rfl, o12⟩ := open_api_Bound d _ h12
    exact ⟨⟨x0, x1, x2, x3, x4, x5, x6, x7, x8, x9, x10, x11, x12⟩, by simp only [c_api_Filter, List.append_nil], o0, o1, o2, o3, o4, o5, o6, o7, o8, o9, o10, o11, o12⟩
theorem open_api_Mod : ∀ (d : Nat) (ts : List Tree), WT Go.Proofs.Try.prog d 106 ts → ∃ x, ts = c_api_Mod x ∧ ok_api_Mod x := by
  intro d ts h
  cases d with
  | zero => cases h
  | succ d =>
    simp only [WT, Go.Proofs.Try.underlying106] at h
    replace h : Seq (WT Go.Proofs.Try.prog d) [3, 3, 3, 9, 39] ts := h
    simp only [Seq] at h
    obtain ⟨_, _, rfl, h0, _, _, rfl, h1, _, _, rfl, h2, _, _, rfl, h3, _, _, rfl, h4, rfl⟩ := h
    obtain ⟨x0, rfl, o0⟩ := (WT_int Go.Proofs.Try.underlying3) d _ h0
    obtain ⟨x1, rfl, o1⟩ := (WT_int Go.Proofs.Try.underlying3) d _ h1
    obtain ⟨x2, rfl, o2⟩ := (WT_int Go.Proofs.Try.underlying3) d _ h2
    obtain ⟨x3, rfl, o3⟩ := (WT_str Go.Proofs.Try.underlying9) d _ h3
    obtain ⟨x4, rfl, o4⟩ := open_api_Filter d _ h4
    exact ⟨⟨x0, x1, x2, x3, x4⟩, by simp only [c_api_Mod, List.append_nil], o0, o1, o2, o3, o4⟩
theorem open_api_Price : ∀ (d : Nat) (ts : List Tree), WT Go.Proofs.Try.prog d 80 ts → ∃ x, ts = c_api_Price x ∧ ok_api_Price x := by
  intro d ts h
  cases d with
  | zero => cases h
  | succ d =>
    simp only [WT, Go.Proofs.Try.underlying80] at h
    replace h : Seq (WT Go.Proofs.Try.prog d) [27, 4, 4, 3] ts := h
    simp only [Seq] at h
    obtain ⟨_, _, rfl, h0, _, _, rfl, h1, _, _, rfl, h2, _, _, rfl, h3, rfl⟩ := h
    obtain ⟨x0, rfl, o0⟩ := open_api_Cost d _ h0
    obtain ⟨x1, rfl, o1⟩ := (WT_bool Go.Proofs.Try.underlying4) d _ h1
    obtain ⟨x2, rfl, o2⟩ := (WT_bool Go.Proofs.Try.underlying4) d _ h2
    obtain ⟨x3, rfl, o3⟩ := (WT_int Go.Proofs.Try.underlying3) d _ h3
    exact ⟨⟨x0, x1, x2, x3⟩, by simp only [c_api_Price, List.append_nil], o0, o1, o2, o3⟩
theorem open_api_Trigger : ∀ (d : Nat) (ts : List Tree), WT Go.Proofs.Try.prog d 82 ts → ∃ x, ts = c_api_Trigger x ∧ ok_api_Trigger x := by
  intro d ts h
  cases d with
  | zero => cases h
  | succ d =>
    simp only [WT, Go.Proofs.Try.underlying82] at h
    replace h : Seq (WT Go.Proofs.Try.prog d) [3, 3, 39] ts := h
    simp only [Seq] at h
    obtain ⟨_, _, rfl, h0, _, _, rfl, h1, _, _, rfl, h2, rfl⟩ := h
    obtain ⟨x0, rfl, o0⟩ := (WT_int Go.Proofs.Try.underlying3) d _ h0
    obtain ⟨x1, rfl, o1⟩ := (WT_int Go.Proofs.Try.underlying3) d _ h1
    obtain ⟨x2, rfl, o2⟩ := open_api_Filter d _ h2
    exact ⟨⟨x0, x1, x2⟩, by simp only [c_api_Trigger, List.append_nil], o0, o1, o2⟩
theorem open_api_Spec : ∀ (d : Nat) (ts : List Tree), WT Go.Proofs.Try.prog d 108 ts → ∃ x, ts = c_api_Spec x ∧ ok_api_Spec x := by
  intro d ts h
  cases d with
  | zero => cases h
  | succ d =>
    simp only [WT, Go.Proofs.Try.underlying108] at h
    replace h : Seq (WT Go.Proofs.Try.prog d) [4, 4, 39] ts := h
    simp only [Seq] at h
    obtain ⟨_, _, rfl, h0, _, _, rfl, h1, _, _, rfl, h2, rfl⟩ := h
    obtain ⟨x0, rfl, o0⟩ := (WT_bool Go.Proofs.Try.underlying4) d _ h0
    obtain ⟨x1, rfl, o1⟩ := (WT_bool Go.Proofs.Try.underlying4) d _ h1
    obtain ⟨x2, rfl, o2⟩ := open_api_Filter d _ h2
    exact ⟨⟨x0, x1, x2⟩, by simp only [c_api_Spec, List.append_nil], o0, o1, o2⟩
theorem open_api_Ref : ∀ (d : Nat) (ts : List Tree), WT Go.Proofs.Try.prog d 115 ts → ∃ x, ts = c_api_Ref x ∧ ok_api_Ref x := by
  intro d ts h
  cases d with
  | zero => cases h
  | succ d =>
    simp only [WT, Go.Proofs.Try.underlying115] at h
    replace h : Seq (WT Go.Proofs.Try.prog d) [3, 3, 39] ts := h
    simp only [Seq] at h
    obtain ⟨_, _, rfl, h0, _, _, rfl, h1, _, _, rfl, h2, rfl⟩ := h
    obtain ⟨x0, rfl, o0⟩ := (WT_int Go.Proofs.Try.underlying3) d _ h0
    obtain ⟨x1, rfl, o1⟩ := (WT_int Go.Proofs.Try.underlying3) d _ h1
    obtain ⟨x2, rfl, o2⟩ := open_api_Filter d _ h2
    exact ⟨⟨x0, x1, x2⟩, by simp only [c_api_Ref, List.append_nil], o0, o1, o2⟩
theorem open_api_Amount : ∀ (d : Nat) (ts : List Tree), WT Go.Proofs.Try.prog d 117 ts → ∃ x, ts = c_api_Amount x ∧ ok_api_Amount x := by
  intro d ts h
  cases d with
  | zero => cases h
  | succ d =>
    simp only [WT, Go.Proofs.Try.underlying117] at h
    replace h : Seq (WT Go.Proofs.Try.prog d) [3, 3, 3, 39] ts := h
    simp only [Seq] at h
    obtain ⟨_, _, rfl, h0, _, _, rfl, h1, _, _, rfl, h2, _, _, rfl, h3, rfl⟩ := h
    obtain ⟨x0, rfl, o0⟩ := (WT_int Go.Proofs.Try.underlying3) d _ h0
    obtain ⟨x1, rfl, o1⟩ := (WT_int Go.Proofs.Try.underlying3) d _ h1
    obtain ⟨x2, rfl, o2⟩ := (WT_int Go.Proofs.Try.underlying3) d _ h2
    obtain ⟨x3, rfl, o3⟩ := open_api_Filter d _ h3
    exact ⟨⟨x0, x1, x2, x3⟩, by simp only [c_api_Amount, List.append_nil], o0, o1, o2, o3⟩
theorem open_api_Effect : ∀ (d : Nat) (ts : List Tree), WT Go.Proofs.Try.prog d 119 ts → ∃ x, ts = c_api_Effect x ∧ ok_api_Effect x := by
  intro d ts h
  cases d with
  | zero => cases h
  | succ d =>
    simp only [WT, Go.Proofs.Try.underlying119] at h
    replace h : Seq (WT Go.Proofs.Try.prog d) [3, 115, 117, 3, 3, 9, 39, 57, 78] ts := h
    simp only [Seq] at h
    obtain ⟨_, _, rfl, h0, _, _, rfl, h1, _, _, rfl, h2, _, _, rfl, h3, _, _, rfl, h4, _, _, rfl, h5, _, _, rfl, h6, _, _, rfl, h7, _, _, rfl, h8, rfl⟩ := h
    obtain ⟨x0, rfl, o0⟩ := (WT_int Go.Proofs.Try.underlying3) d _ h0
    obtain ⟨x1, rfl, o1⟩ := open_api_Ref d _ h1
    obtain ⟨x2, rfl, o2⟩ := open_api_Amount d _ h2
    obtain ⟨x3, rfl, o3⟩ := (WT_int Go.Proofs.Try.underlying3) d _ h3
    obtain ⟨x4, rfl, o4⟩ := (WT_int Go.Proofs.Try.underlying3) d _ h4
    obtain ⟨x5, rfl, o5⟩ := (WT_str Go.Proofs.Try.underlying9) d _ h5
    obtain ⟨x6, rfl, o6⟩ := open_api_Filter d _ h6
    obtain ⟨x7, rfl, o7⟩ := (WT_A6 Go.Proofs.Try.underlying57 (WT_int Go.Proofs.Try.underlying3)) d _ h7
    obtain ⟨x8, rfl, o8⟩ := (WT_list Go.Proofs.Try.underlying78 (by kernel_rfl : Go.Proofs.Try.prog.bytesOf 106 = 176) open_api_Mod) d _ h8
    exact ⟨⟨x0, x1, x2, x3, x4, x5, x6, x7, x8⟩, by simp only [c_api_Effect, List.append_nil], o0, o1, o2, o3, o4, o5, o6, o7, o8⟩
theorem open_api_Replace : ∀ (d : Nat) (ts : List Tree), WT Go.Proofs.Try.prog d 86 ts → ∃ x, ts = c_api_Replace x ∧ ok_api_Replace x := by
  intro d ts h
  cases d with
  | zero => cases h
  | succ d =>
    simp only [WT, Go.Proofs.Try.underlying86] at h
    replace h : Seq (WT Go.Proofs.Try.prog d) [3, 3, 39, 3, 3, 3, 3] ts := h
    simp only [Seq] at h
    obtain ⟨_, _, rfl, h0, _, _, rfl, h1, _, _, rfl, h2, _, _, rfl, h3, _, _, rfl, h4, _, _, rfl, h5, _, _, rfl, h6, rfl⟩ := h
    obtain ⟨x0, rfl, o0⟩ := (WT_int Go.Proofs.Try.underlying3) d _ h0
    obtain ⟨x1, rfl, o1⟩ := (WT_int Go.Proofs.Try.underlying3) d _ h1
    obtain ⟨x2, rfl, o2⟩ := open_api_Filter d _ h2
    obtain ⟨x3, rfl, o3⟩ := (WT_int Go.Proofs.Try.underlying3) d _ h3
    obtain ⟨x4, rfl, o4⟩ := (WT_int Go.Proofs.Try.underlying3) d _ h4
    obtain ⟨x5, rfl, o5⟩ := (WT_int Go.Proofs.Try.underlying3) d _ h5
    obtain ⟨x6, rfl, o6⟩ := (WT_int Go.Proofs.Try.underlying3) d _ h6
    exact ⟨⟨x0, x1, x2, x3, x4, x5, x6⟩, by simp only [c_api_Replace, List.append_nil], o0, o1, o2, o3, o4, o5, o6⟩
theorem open_api_Ability : ∀ (d : Nat) (ts : List Tree), WT Go.Proofs.Try.prog d 88 ts → ∃ x, ts = c_api_Ability x ∧ ok_api_Ability x := by
  intro d ts h
  cases d with
  | zero => cases h
  | succ d =>
    simp only [WT, Go.Proofs.Try.underlying88] at h
    replace h : Seq (WT Go.Proofs.Try.prog d) [3, 39, 78, 80, 4, 82, 4, 83, 84, 86] ts := h
    simp only [Seq] at h
    obtain ⟨_, _, rfl, h0, _, _, rfl, h1, _, _, rfl, h2, _, _, rfl, h3, _, _, rfl, h4, _, _, rfl, h5, _, _, rfl, h6, _, _, rfl, h7, _, _, rfl, h8, _, _, rfl, h9, rfl⟩ := h
    obtain ⟨x0, rfl, o0⟩ := (WT_int Go.Proofs.Try.underlying3) d _ h0
    obtain ⟨x1, rfl, o1⟩ := open_api_Filter d _ h1
    obtain ⟨x2, rfl, o2⟩ := (WT_list Go.Proofs.Try.underlying78 (by kernel_rfl : Go.Proofs.Try.prog.bytesOf 106 = 176) open_api_Mod) d _ h2
    obtain ⟨x3, rfl, o3⟩ := open_api_Price d _ h3
    obtain ⟨x4, rfl, o4⟩ := (WT_bool Go.Proofs.Try.underlying4) d _ h4
    obtain ⟨x5, rfl, o5⟩ := open_api_Trigger d _ h5
    obtain ⟨x6, rfl, o6⟩ := (WT_bool Go.Proofs.Try.underlying4) d _ h6
    obtain ⟨x7, rfl, o7⟩ := (WT_list Go.Proofs.Try.underlying83 (by kernel_rfl : Go.Proofs.Try.prog.bytesOf 108 = 144) open_api_Spec) d _ h7
    obtain ⟨x8, rfl, o8⟩ := (WT_list Go.Proofs.Try.underlying84 (by kernel_rfl : Go.Proofs.Try.prog.bytesOf 119 = 560) open_api_Effect) d _ h8
    obtain ⟨x9, rfl, o9⟩ := open_api_Replace d _ h9
    exact ⟨⟨x0, x1, x2, x3, x4, x5, x6, x7, x8, x9⟩, by simp only [c_api_Ability, List.append_nil], o0, o1, o2, o3, o4, o5, o6, o7, o8, o9⟩
theorem open_api_Traits : ∀ (d : Nat) (ts : List Tree), WT Go.Proofs.Try.prog d 33 ts → ∃ x, ts = c_api_Traits x ∧ ok_api_Traits x := by
  intro d ts h
  cases d with
  | zero => cases h
  | succ d =>
    simp only [WT, Go.Proofs.Try.underlying33] at h
    replace h : Seq (WT Go.Proofs.Try.prog d) [9, 27, 3, 30, 3, 3, 3, 31, 3] ts := h
    simp only [Seq] at h
    obtain ⟨_, _, rfl, h0, _, _, rfl, h1, _, _, rfl, h2, _, _, rfl, h3, _, _, rfl, h4, _, _, rfl, h5, _, _, rfl, h6, _, _, rfl, h7, _, _, rfl, h8, rfl⟩ := h
    obtain ⟨x0, rfl, o0⟩ := (WT_str Go.Proofs.Try.underlying9) d _ h0
    obtain ⟨x1, rfl, o1⟩ := open_api_Cost d _ h1
    obtain ⟨x2, rfl, o2⟩ := (WT_int Go.Proofs.Try.underlying3) d _ h2
    obtain ⟨x3, rfl, o3⟩ := open_api_Line d _ h3
    obtain ⟨x4, rfl, o4⟩ := (WT_int Go.Proofs.Try.underlying3) d _ h4
    obtain ⟨x5, rfl, o5⟩ := (WT_int Go.Proofs.Try.underlying3) d _ h5
    obtain ⟨x6, rfl, o6⟩ := (WT_int Go.Proofs.Try.underlying3) d _ h6
    obtain ⟨x7, rfl, o7⟩ := (WT_list Go.Proofs.Try.underlying31 (by kernel_rfl : Go.Proofs.Try.prog.bytesOf 88 = 640) open_api_Ability) d _ h7
    obtain ⟨x8, rfl, o8⟩ := (WT_int Go.Proofs.Try.underlying3) d _ h8
    exact ⟨⟨x0, x1, x2, x3, x4, x5, x6, x7, x8⟩, by simp only [c_api_Traits, List.append_nil], o0, o1, o2, o3, o4, o5, o6, o7, o8⟩
theorem open_cardgamelaw29_Ask : ∀ (d : Nat) (ts : List Tree), WT Go.Proofs.Try.prog d 35 ts → ∃ x, ts = c_cardgamelaw29_Ask x ∧ ok_cardgamelaw29_Ask x := by
  intro d ts h
  cases d with
  | zero => cases h
  | succ d =>
    simp only [WT, Go.Proofs.Try.underlying35] at h
    replace h : Seq (WT Go.Proofs.Try.prog d) [24, 33, 3, 3] ts := h
    simp only [Seq] at h
    obtain ⟨_, _, rfl, h0, _, _, rfl, h1, _, _, rfl, h2, _, _, rfl, h3, rfl⟩ := h
    obtain ⟨x0, rfl, o0⟩ := open_api_Object d _ h0
    obtain ⟨x1, rfl, o1⟩ := open_api_Traits d _ h1
    obtain ⟨x2, rfl, o2⟩ := (WT_int Go.Proofs.Try.underlying3) d _ h2
    obtain ⟨x3, rfl, o3⟩ := (WT_int Go.Proofs.Try.underlying3) d _ h3
    exact ⟨⟨x0, x1, x2, x3⟩, by simp only [c_cardgamelaw29_Ask, List.append_nil], o0, o1, o2, o3⟩
theorem open_api_Player : ∀ (d : Nat) (ts : List Tree), WT Go.Proofs.Try.prog d 59 ts → ∃ x, ts = c_api_Player x ∧ ok_api_Player x := by
  intro d ts h
  cases d with
  | zero => cases h
  | succ d =>
    simp only [WT, Go.Proofs.Try.underlying59] at h
    replace h : Seq (WT Go.Proofs.Try.prog d) [3, 3, 3, 57, 4, 4, 47, 47, 47] ts := h
    simp only [Seq] at h
    obtain ⟨_, _, rfl, h0, _, _, rfl, h1, _, _, rfl, h2, _, _, rfl, h3, _, _, rfl, h4, _, _, rfl, h5, _, _, rfl, h6, _, _, rfl, h7, _, _, rfl, h8, rfl⟩ := h
    obtain ⟨x0, rfl, o0⟩ := (WT_int Go.Proofs.Try.underlying3) d _ h0
    obtain ⟨x1, rfl, o1⟩ := (WT_int Go.Proofs.Try.underlying3) d _ h1
    obtain ⟨x2, rfl, o2⟩ := (WT_int Go.Proofs.Try.underlying3) d _ h2
    obtain ⟨x3, rfl, o3⟩ := (WT_A6 Go.Proofs.Try.underlying57 (WT_int Go.Proofs.Try.underlying3)) d _ h3
    obtain ⟨x4, rfl, o4⟩ := (WT_bool Go.Proofs.Try.underlying4) d _ h4
    obtain ⟨x5, rfl, o5⟩ := (WT_bool Go.Proofs.Try.underlying4) d _ h5
    obtain ⟨x6, rfl, o6⟩ := (WT_list Go.Proofs.Try.underlying47 (by kernel_rfl : Go.Proofs.Try.prog.bytesOf 3 = 8) (WT_int Go.Proofs.Try.underlying3)) d _ h6
    obtain ⟨x7, rfl, o7⟩ := (WT_list Go.Proofs.Try.underlying47 (by kernel_rfl : Go.Proofs.Try.prog.bytesOf 3 = 8) (WT_int Go.Proofs.Try.underlying3)) d _ h7
    obtain ⟨x8, rfl, o8⟩ := (WT_list Go.Proofs.Try.underlying47 (by kernel_rfl : Go.Proofs.Try.prog.bytesOf 3 = 8) (WT_int Go.Proofs.Try.underlying3)) d _ h8
    exact ⟨⟨x0, x1, x2, x3, x4, x5, x6, x7, x8⟩, by simp only [c_api_Player, List.append_nil], o0, o1, o2, o3, o4, o5, o6, o7, o8⟩
theorem open_api_Target : ∀ (d : Nat) (ts : List Tree), WT Go.Proofs.Try.prog d 146 ts → ∃ x, ts = c_api_Target x ∧ ok_api_Target x := by
  intro d ts h
  cases d with
  | zero => cases h
  | succ d =>
    simp only [WT, Go.Proofs.Try.underlying146] at h
    replace h : Seq (WT Go.Proofs.Try.prog d) [3, 3] ts := h
    simp only [Seq] at h
    obtain ⟨_, _, rfl, h0, _, _, rfl, h1, rfl⟩ := h
    obtain ⟨x0, rfl, o0⟩ := (WT_int Go.Proofs.Try.underlying3) d _ h0
    obtain ⟨x1, rfl, o1⟩ := (WT_int Go.Proofs.Try.underlying3) d _ h1
    exact ⟨⟨x0, x1⟩, by simp only [c_api_Target, List.append_nil], o0, o1⟩
theorem open_api_Event : ∀ (d : Nat) (ts : List Tree), WT Go.Proofs.Try.prog d 91 ts → ∃ x, ts = c_api_Event x ∧ ok_api_Event x := by
  intro d ts h
  cases d with
  | zero => cases h
  | succ d =>
    simp only [WT, Go.Proofs.Try.underlying91] at h
    replace h : Seq (WT Go.Proofs.Try.prog d) [3, 3, 3, 3, 3, 3, 3, 3, 3, 3, 4, 4, 22] ts := h
    simp only [Seq] at h
    obtain ⟨_, _, rfl, h0, _, _, rfl, h1, _, _, rfl, h2, _, _, rfl, h3, _, _, rfl, h4, _, _, rfl, h5, _, _, rfl, h6, _, _, rfl, h7, _, _, rfl, h8, _, _, rfl, h9, _, _, rfl, h10, _, _, rfl, h11, _, _, rfl, h12, rfl⟩ := h
    obtain ⟨x0, rfl, o0⟩ := (WT_int Go.Proofs.Try.underlying3) d _ h0
    obtain ⟨x1, rfl, o1⟩ := (WT_int Go.Proofs.Try.underlying3) d _ h1
    obtain ⟨x2, rfl, o2⟩ := (WT_int Go.Proofs.Try.underlying3) d _ h2
    obtain ⟨x3, rfl, o3⟩ := (WT_int Go.Proofs.Try.underlying3) d _ h3
    obtain ⟨x4, rfl, o4⟩ := (WT_int Go.Proofs.Try.underlying3) d _ h4
    obtain ⟨x5, rfl, o5⟩ := (WT_int Go.Proofs.Try.underlying3) d _ h5
    obtain ⟨x6, rfl, o6⟩ := (WT_int Go.Proofs.Try.underlying3) d _ h6
    obtain ⟨x7, rfl, o7⟩ := (WT_int Go.Proofs.Try.underlying3) d _ h7
    obtain ⟨x8, rfl, o8⟩ := (WT_int Go.Proofs.Try.underlying3) d _ h8
    obtain ⟨x9, rfl, o9⟩ := (WT_int Go.Proofs.Try.underlying3) d _ h9
    obtain ⟨x10, rfl, o10⟩ := (WT_bool Go.Proofs.Try.underlying4) d _ h10
    obtain ⟨x11, rfl, o11⟩ := (WT_bool Go.Proofs.Try.underlying4) d _ h11
    obtain ⟨x12, rfl, o12⟩ := (WT_A3 Go.Proofs.Try.underlying22 (WT_int Go.Proofs.Try.underlying3)) d _ h12
    exact ⟨⟨x0, x1, x2, x3, x4, x5, x6, x7, x8, x9, x10, x11, x12⟩, by simp only [c_api_Event, List.append_nil], o0, o1, o2, o3, o4, o5, o6, o7, o8, o9, o10, o11, o12⟩
theorem open_api_Item : ∀ (d : Nat) (ts : List Tree), WT Go.Proofs.Try.prog d 93 ts → ∃ x, ts = c_api_Item x ∧ ok_api_Item x := by
  intro d ts h
  cases d with
  | zero => cases h
  | succ d =>
    simp only [WT, Go.Proofs.Try.underlying93] at h
    replace h : Seq (WT Go.Proofs.Try.prog d) [3, 3, 3, 3, 3, 4, 88, 89, 91] ts := h
    simp only [Seq] at h
    obtain ⟨_, _, rfl, h0, _, _, rfl, h1, _, _, rfl, h2, _, _, rfl, h3, _, _, rfl, h4, _, _, rfl, h5, _, _, rfl, h6, _, _, rfl, h7, _, _, rfl, h8, rfl⟩ := h
    obtain ⟨x0, rfl, o0⟩ := (WT_int Go.Proofs.Try.underlying3) d _ h0
    obtain ⟨x1, rfl, o1⟩ := (WT_int Go.Proofs.Try.underlying3) d _ h1
    obtain ⟨x2, rfl, o2⟩ := (WT_int Go.Proofs.Try.underlying3) d _ h2
    obtain ⟨x3, rfl, o3⟩ := (WT_int Go.Proofs.Try.underlying3) d _ h3
    obtain ⟨x4, rfl, o4⟩ := (WT_int Go.Proofs.Try.underlying3) d _ h4
    obtain ⟨x5, rfl, o5⟩ := (WT_bool Go.Proofs.Try.underlying4) d _ h5
    obtain ⟨x6, rfl, o6⟩ := open_api_Ability d _ h6
    obtain ⟨x7, rfl, o7⟩ := (WT_list Go.Proofs.Try.underlying89 (by kernel_rfl : Go.Proofs.Try.prog.bytesOf 146 = 16) open_api_Target) d _ h7
    obtain ⟨x8, rfl, o8⟩ := open_api_Event d _ h8
    exact ⟨⟨x0, x1, x2, x3, x4, x5, x6, x7, x8⟩, by simp only [c_api_Item, List.append_nil], o0, o1, o2, o3, o4, o5, o6, o7, o8⟩
theorem open_api_Waiting : ∀ (d : Nat) (ts : List Tree), WT Go.Proofs.Try.prog d 96 ts → ∃ x, ts = c_api_Waiting x ∧ ok_api_Waiting x := by
  intro d ts h
  cases d with
  | zero => cases h
  | succ d =>
    simp only [WT, Go.Proofs.Try.underlying96] at h
    replace h : Seq (WT Go.Proofs.Try.prog d) [3, 3, 88, 91] ts := h
    simp only [Seq] at h
    obtain ⟨_, _, rfl, h0, _, _, rfl, h1, _, _, rfl, h2, _, _, rfl, h3, rfl⟩ := h
    obtain ⟨x0, rfl, o0⟩ := (WT_int Go.Proofs.Try.underlying3) d _ h0
    obtain ⟨x1, rfl, o1⟩ := (WT_int Go.Proofs.Try.underlying3) d _ h1
    obtain ⟨x2, rfl, o2⟩ := open_api_Ability d _ h2
    obtain ⟨x3, rfl, o3⟩ := open_api_Event d _ h3
    exact ⟨⟨x0, x1, x2, x3⟩, by simp only [c_api_Waiting, List.append_nil], o0, o1, o2, o3⟩
theorem open_api_Cont : ∀ (d : Nat) (ts : List Tree), WT Go.Proofs.Try.prog d 98 ts → ∃ x, ts = c_api_Cont x ∧ ok_api_Cont x := by
  intro d ts h
  cases d with
  | zero => cases h
  | succ d =>
    simp only [WT, Go.Proofs.Try.underlying98] at h
    replace h : Seq (WT Go.Proofs.Try.prog d) [3, 3, 3, 3, 47, 78] ts := h
    simp only [Seq] at h
    obtain ⟨_, _, rfl, h0, _, _, rfl, h1, _, _, rfl, h2, _, _, rfl, h3, _, _, rfl, h4, _, _, rfl, h5, rfl⟩ := h
    obtain ⟨x0, rfl, o0⟩ := (WT_int Go.Proofs.Try.underlying3) d _ h0
    obtain ⟨x1, rfl, o1⟩ := (WT_int Go.Proofs.Try.underlying3) d _ h1
    obtain ⟨x2, rfl, o2⟩ := (WT_int Go.Proofs.Try.underlying3) d _ h2
    obtain ⟨x3, rfl, o3⟩ := (WT_int Go.Proofs.Try.underlying3) d _ h3
    obtain ⟨x4, rfl, o4⟩ := (WT_list Go.Proofs.Try.underlying47 (by kernel_rfl : Go.Proofs.Try.prog.bytesOf 3 = 8) (WT_int Go.Proofs.Try.underlying3)) d _ h4
    obtain ⟨x5, rfl, o5⟩ := (WT_list Go.Proofs.Try.underlying78 (by kernel_rfl : Go.Proofs.Try.prog.bytesOf 106 = 176) open_api_Mod) d _ h5
    exact ⟨⟨x0, x1, x2, x3, x4, x5⟩, by simp only [c_api_Cont, List.append_nil], o0, o1, o2, o3, o4, o5⟩
theorem open_api_State : ∀ (d : Nat) (ts : List Tree), WT Go.Proofs.Try.prog d 53 ts → ∃ x, ts = c_api_State x ∧ ok_api_State x := by
  intro d ts h
  cases d with
  | zero => cases h
  | succ d =>
    simp only [WT, Go.Proofs.Try.underlying53] at h
    replace h : Seq (WT Go.Proofs.Try.prog d) [45, 46, 47, 47, 48, 49, 50, 3, 3, 3, 4, 3, 3, 3, 3, 51, 47, 3, 3] ts := h
    simp only [Seq] at h
    obtain ⟨_, _, rfl, h0, _, _, rfl, h1, _, _, rfl, h2, _, _, rfl, h3, _, _, rfl, h4, _, _, rfl, h5, _, _, rfl, h6, _, _, rfl, h7, _, _, rfl, h8, _, _, rfl, h9, _, _, rfl, h10, _, _, rfl, h11, _, _, rfl, h12, _, _, rfl, h13, _, _, rfl, h14, _, _, rfl, h15, _, _, rfl, h16, _, _, rfl, h17, _, _, rfl, h18, rfl⟩ := h
    obtain ⟨x0, rfl, o0⟩ := (WT_list Go.Proofs.Try.underlying45 (by kernel_rfl : Go.Proofs.Try.prog.bytesOf 59 = 152) open_api_Player) d _ h0
    obtain ⟨x1, rfl, o1⟩ := (WT_list Go.Proofs.Try.underlying46 (by kernel_rfl : Go.Proofs.Try.prog.bytesOf 24 = 128) open_api_Object) d _ h1
    obtain ⟨x2, rfl, o2⟩ := (WT_list Go.Proofs.Try.underlying47 (by kernel_rfl : Go.Proofs.Try.prog.bytesOf 3 = 8) (WT_int Go.Proofs.Try.underlying3)) d _ h2
    obtain ⟨x3, rfl, o3⟩ := (WT_list Go.Proofs.Try.underlying47 (by kernel_rfl : Go.Proofs.Try.prog.bytesOf 3 = 8) (WT_int Go.Proofs.Try.underlying3)) d _ h3
    obtain ⟨x4, rfl, o4⟩ := (WT_list Go.Proofs.Try.underlying48 (by kernel_rfl : Go.Proofs.Try.prog.bytesOf 93 = 824) open_api_Item) d _ h4
    obtain ⟨x5, rfl, o5⟩ := (WT_list Go.Proofs.Try.underlying49 (by kernel_rfl : Go.Proofs.Try.prog.bytesOf 96 = 768) open_api_Waiting) d _ h5
    obtain ⟨x6, rfl, o6⟩ := (WT_list Go.Proofs.Try.underlying50 (by kernel_rfl : Go.Proofs.Try.prog.bytesOf 98 = 80) open_api_Cont) d _ h6
    obtain ⟨x7, rfl, o7⟩ := (WT_int Go.Proofs.Try.underlying3) d _ h7
    obtain ⟨x8, rfl, o8⟩ := (WT_int Go.Proofs.Try.underlying3) d _ h8
    obtain ⟨x9, rfl, o9⟩ := (WT_int Go.Proofs.Try.underlying3) d _ h9
    obtain ⟨x10, rfl, o10⟩ := (WT_bool Go.Proofs.Try.underlying4) d _ h10
    obtain ⟨x11, rfl, o11⟩ := (WT_int Go.Proofs.Try.underlying3) d _ h11
    obtain ⟨x12, rfl, o12⟩ := (WT_int Go.Proofs.Try.underlying3) d _ h12
    obtain ⟨x13, rfl, o13⟩ := (WT_int Go.Proofs.Try.underlying3) d _ h13
    obtain ⟨x14, rfl, o14⟩ := (WT_int Go.Proofs.Try.underlying3) d _ h14
    obtain ⟨x15, rfl, o15⟩ := (WT_int Go.Proofs.Try.underlying51) d _ h15
    obtain ⟨x16, rfl, o16⟩ := (WT_list Go.Proofs.Try.underlying47 (by kernel_rfl : Go.Proofs.Try.prog.bytesOf 3 = 8) (WT_int Go.Proofs.Try.underlying3)) d _ h16
    obtain ⟨x17, rfl, o17⟩ := (WT_int Go.Proofs.Try.underlying3) d _ h17
    obtain ⟨x18, rfl, o18⟩ := (WT_int Go.Proofs.Try.underlying3) d _ h18
    exact ⟨⟨x0, x1, x2, x3, x4, x5, x6, x7, x8, x9, x10, x11, x12, x13, x14, x15, x16, x17, x18⟩, by simp only [c_api_State, List.append_nil], o0, o1, o2, o3, o4, o5, o6, o7, o8, o9, o10, o11, o12, o13, o14, o15, o16, o17, o18⟩
theorem open_cardgamelaw29_Lists : ∀ (d : Nat) (ts : List Tree), WT Go.Proofs.Try.prog d 63 ts → ∃ x, ts = c_cardgamelaw29_Lists x ∧ ok_cardgamelaw29_Lists x := by
  intro d ts h
  cases d with
  | zero => cases h
  | succ d =>
    simp only [WT, Go.Proofs.Try.underlying63] at h
    replace h : Seq (WT Go.Proofs.Try.prog d) [53, 61, 39, 3, 3] ts := h
    simp only [Seq] at h
    obtain ⟨_, _, rfl, h0, _, _, rfl, h1, _, _, rfl, h2, _, _, rfl, h3, _, _, rfl, h4, rfl⟩ := h
    obtain ⟨x0, rfl, o0⟩ := open_api_State d _ h0
    obtain ⟨x1, rfl, o1⟩ := (WT_list Go.Proofs.Try.underlying61 (by kernel_rfl : Go.Proofs.Try.prog.bytesOf 33 = 176) open_api_Traits) d _ h1
    obtain ⟨x2, rfl, o2⟩ := open_api_Filter d _ h2
    obtain ⟨x3, rfl, o3⟩ := (WT_int Go.Proofs.Try.underlying3) d _ h3
    obtain ⟨x4, rfl, o4⟩ := (WT_int Go.Proofs.Try.underlying3) d _ h4
    exact ⟨⟨x0, x1, x2, x3, x4⟩, by simp only [c_cardgamelaw29_Lists, List.append_nil], o0, o1, o2, o3, o4⟩
end Go.PW
