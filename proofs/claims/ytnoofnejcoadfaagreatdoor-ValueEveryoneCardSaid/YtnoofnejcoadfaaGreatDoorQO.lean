import Derived.Test.YtnoofnejcoadfaaGreatDoorQT
import Derived.Test.YtnoofnejcoadfaaGreatDoorQE
set_option linter.all false
set_option maxRecDepth 100000
namespace Go.PW
open Go.RowKit
theorem Z0q : ∀ (d : Nat) (ts : List Ze), WT Go.Proofs.Tryz.prog d 78 ts → ∃ x, ts = Zah x ∧ Zwl x := by
 intro d ts h
 cases d with
 | zero => cases h
 | succ d =>
  simp only [WT, Go.Proofs.Tryz.underlying78] at h
  replace h : Seq (WT Go.Proofs.Tryz.prog d) [3, 3, 76] ts := h
  simp only [Seq] at h
  obtain ⟨_, _, rfl, h0, _, _, rfl, h1, _, _, rfl, h2, rfl⟩ := h
  obtain ⟨x0, rfl, o0⟩ := (Zr Go.Proofs.Tryz.underlying3) d _ h0
  obtain ⟨x1, rfl, o1⟩ := (Zr Go.Proofs.Tryz.underlying3) d _ h1
  obtain ⟨x2, rfl, o2⟩ := (Zawq Go.Proofs.Tryz.underlying76 (Zr Go.Proofs.Tryz.underlying3)) d _ h2
  exact ⟨⟨x0, x1, x2⟩, by simp only [Zah, List.append_nil], o0, o1, o2⟩
theorem Zags : ∀ (d : Nat) (ts : List Ze), WT Go.Proofs.Tryz.prog d 75 ts → ∃ x, ts = Zff x ∧ Zwm x := by
 intro d ts h
 cases d with
 | zero => cases h
 | succ d =>
  simp only [WT, Go.Proofs.Tryz.underlying75] at h
  replace h : Seq (WT Go.Proofs.Tryz.prog d) [3, 3, 73] ts := h
  simp only [Seq] at h
  obtain ⟨_, _, rfl, h0, _, _, rfl, h1, _, _, rfl, h2, rfl⟩ := h
  obtain ⟨x0, rfl, o0⟩ := (Zr Go.Proofs.Tryz.underlying3) d _ h0
  obtain ⟨x1, rfl, o1⟩ := (Zr Go.Proofs.Tryz.underlying3) d _ h1
  obtain ⟨x2, rfl, o2⟩ := (Zcr Go.Proofs.Tryz.underlying73 (by kernel_rfl : Go.Proofs.Tryz.prog.bytesOf 9 = 16) (Z08 Go.Proofs.Tryz.underlying9)) d _ h2
  exact ⟨⟨x0, x1, x2⟩, by simp only [Zff, List.append_nil], o0, o1, o2⟩
theorem Zoe : ∀ (d : Nat) (ts : List Ze), WT Go.Proofs.Tryz.prog d 39 ts → ∃ x, ts = Zb8 x ∧ Zm8 x := by
 intro d ts h
 cases d with
 | zero => cases h
 | succ d =>
  simp only [WT, Go.Proofs.Tryz.underlying39] at h
  replace h : Seq (WT Go.Proofs.Tryz.prog d) [3, 3] ts := h
  simp only [Seq] at h
  obtain ⟨_, _, rfl, h0, _, _, rfl, h1, rfl⟩ := h
  obtain ⟨x0, rfl, o0⟩ := (Zr Go.Proofs.Tryz.underlying3) d _ h0
  obtain ⟨x1, rfl, o1⟩ := (Zr Go.Proofs.Tryz.underlying3) d _ h1
  exact ⟨⟨x0, x1⟩, by simp only [Zb8, List.append_nil], o0, o1⟩
theorem Zdf : ∀ (d : Nat) (ts : List Ze), WT Go.Proofs.Tryz.prog d 41 ts → ∃ x, ts = Zg x ∧ Zc2 x := by
 intro d ts h
 cases d with
 | zero => cases h
 | succ d =>
  simp only [WT, Go.Proofs.Tryz.underlying41] at h
  replace h : Seq (WT Go.Proofs.Tryz.prog d) [3, 3, 3, 3, 3, 3, 3, 9, 3, 3, 39, 39, 39] ts := h
  simp only [Seq] at h
  obtain ⟨_, _, rfl, h0, _, _, rfl, h1, _, _, rfl, h2, _, _, rfl, h3, _, _, rfl, h4, _, _, rfl, h5, _, _, rfl, h6, _, _, rfl, h7, _, _, rfl, h8, _, _, rfl, h9, _, _, rfl, h10, _, _, rfl, h11, _, _, rfl, h12, rfl⟩ := h
  obtain ⟨x0, rfl, o0⟩ := (Zr Go.Proofs.Tryz.underlying3) d _ h0
  obtain ⟨x1, rfl, o1⟩ := (Zr Go.Proofs.Tryz.underlying3) d _ h1
  obtain ⟨x2, rfl, o2⟩ := (Zr Go.Proofs.Tryz.underlying3) d _ h2
  obtain ⟨x3, rfl, o3⟩ := (Zr Go.Proofs.Tryz.underlying3) d _ h3
  obtain ⟨x4, rfl, o4⟩ := (Zr Go.Proofs.Tryz.underlying3) d _ h4
  obtain ⟨x5, rfl, o5⟩ := (Zr Go.Proofs.Tryz.underlying3) d _ h5
  obtain ⟨x6, rfl, o6⟩ := (Zr Go.Proofs.Tryz.underlying3) d _ h6
  obtain ⟨x7, rfl, o7⟩ := (Z08 Go.Proofs.Tryz.underlying9) d _ h7
  obtain ⟨x8, rfl, o8⟩ := (Zr Go.Proofs.Tryz.underlying3) d _ h8
  obtain ⟨x9, rfl, o9⟩ := (Zr Go.Proofs.Tryz.underlying3) d _ h9
  obtain ⟨x10, rfl, o10⟩ := Zoe d _ h10
  obtain ⟨x11, rfl, o11⟩ := Zoe d _ h11
  obtain ⟨x12, rfl, o12⟩ := Zoe d _ h12
  exact ⟨⟨x0, x1, x2, x3, x4, x5, x6, x7, x8, x9, x10, x11, x12⟩, by simp only [Zg, List.append_nil], o0, o1, o2, o3, o4, o5, o6, o7, o8, o9, o10, o11, o12⟩
theorem Zt1 : ∀ (d : Nat) (ts : List Ze), WT Go.Proofs.Tryz.prog d 164 ts → ∃ x, ts = Z9 x ∧ Zm9 x := by
 intro d ts h
 cases d with
 | zero => cases h
 | succ d =>
  simp only [WT, Go.Proofs.Tryz.underlying164] at h
  replace h : Seq (WT Go.Proofs.Tryz.prog d) [3, 3, 3, 9, 41] ts := h
  simp only [Seq] at h
  obtain ⟨_, _, rfl, h0, _, _, rfl, h1, _, _, rfl, h2, _, _, rfl, h3, _, _, rfl, h4, rfl⟩ := h
  obtain ⟨x0, rfl, o0⟩ := (Zr Go.Proofs.Tryz.underlying3) d _ h0
  obtain ⟨x1, rfl, o1⟩ := (Zr Go.Proofs.Tryz.underlying3) d _ h1
  obtain ⟨x2, rfl, o2⟩ := (Zr Go.Proofs.Tryz.underlying3) d _ h2
  obtain ⟨x3, rfl, o3⟩ := (Z08 Go.Proofs.Tryz.underlying9) d _ h3
  obtain ⟨x4, rfl, o4⟩ := Zdf d _ h4
  exact ⟨⟨x0, x1, x2, x3, x4⟩, by simp only [Z9, List.append_nil], o0, o1, o2, o3, o4⟩
theorem Zaec : ∀ (d : Nat) (ts : List Ze), WT Go.Proofs.Tryz.prog d 136 ts → ∃ x, ts = Zel x ∧ Z25 x := by
 intro d ts h
 cases d with
 | zero => cases h
 | succ d =>
  simp only [WT, Go.Proofs.Tryz.underlying136] at h
  replace h : Seq (WT Go.Proofs.Tryz.prog d) [78, 4, 4, 3] ts := h
  simp only [Seq] at h
  obtain ⟨_, _, rfl, h0, _, _, rfl, h1, _, _, rfl, h2, _, _, rfl, h3, rfl⟩ := h
  obtain ⟨x0, rfl, o0⟩ := Z0q d _ h0
  obtain ⟨x1, rfl, o1⟩ := (Zdh Go.Proofs.Tryz.underlying4) d _ h1
  obtain ⟨x2, rfl, o2⟩ := (Zdh Go.Proofs.Tryz.underlying4) d _ h2
  obtain ⟨x3, rfl, o3⟩ := (Zr Go.Proofs.Tryz.underlying3) d _ h3
  exact ⟨⟨x0, x1, x2, x3⟩, by simp only [Zel, List.append_nil], o0, o1, o2, o3⟩
theorem Z87 : ∀ (d : Nat) (ts : List Ze), WT Go.Proofs.Tryz.prog d 138 ts → ∃ x, ts = Zc1 x ∧ Zn7 x := by
 intro d ts h
 cases d with
 | zero => cases h
 | succ d =>
  simp only [WT, Go.Proofs.Tryz.underlying138] at h
  replace h : Seq (WT Go.Proofs.Tryz.prog d) [3, 3, 41] ts := h
  simp only [Seq] at h
  obtain ⟨_, _, rfl, h0, _, _, rfl, h1, _, _, rfl, h2, rfl⟩ := h
  obtain ⟨x0, rfl, o0⟩ := (Zr Go.Proofs.Tryz.underlying3) d _ h0
  obtain ⟨x1, rfl, o1⟩ := (Zr Go.Proofs.Tryz.underlying3) d _ h1
  obtain ⟨x2, rfl, o2⟩ := Zdf d _ h2
  exact ⟨⟨x0, x1, x2⟩, by simp only [Zc1, List.append_nil], o0, o1, o2⟩
theorem Zagt : ∀ (d : Nat) (ts : List Ze), WT Go.Proofs.Tryz.prog d 202 ts → ∃ x, ts = Zbg x ∧ Zwn x := by
 intro d ts h
 cases d with
 | zero => cases h
 | succ d =>
  simp only [WT, Go.Proofs.Tryz.underlying202] at h
  replace h : Seq (WT Go.Proofs.Tryz.prog d) [4, 4, 41] ts := h
  simp only [Seq] at h
  obtain ⟨_, _, rfl, h0, _, _, rfl, h1, _, _, rfl, h2, rfl⟩ := h
  obtain ⟨x0, rfl, o0⟩ := (Zdh Go.Proofs.Tryz.underlying4) d _ h0
  obtain ⟨x1, rfl, o1⟩ := (Zdh Go.Proofs.Tryz.underlying4) d _ h1
  obtain ⟨x2, rfl, o2⟩ := Zdf d _ h2
  exact ⟨⟨x0, x1, x2⟩, by simp only [Zbg, List.append_nil], o0, o1, o2⟩
theorem Zak9 : ∀ (d : Nat) (ts : List Ze), WT Go.Proofs.Tryz.prog d 45 ts → ∃ x, ts = Zbh x ∧ Zzg x := by
 intro d ts h
 cases d with
 | zero => cases h
 | succ d =>
  simp only [WT, Go.Proofs.Tryz.underlying45] at h
  replace h : Seq (WT Go.Proofs.Tryz.prog d) [3, 3, 41] ts := h
  simp only [Seq] at h
  obtain ⟨_, _, rfl, h0, _, _, rfl, h1, _, _, rfl, h2, rfl⟩ := h
  obtain ⟨x0, rfl, o0⟩ := (Zr Go.Proofs.Tryz.underlying3) d _ h0
  obtain ⟨x1, rfl, o1⟩ := (Zr Go.Proofs.Tryz.underlying3) d _ h1
  obtain ⟨x2, rfl, o2⟩ := Zdf d _ h2
  exact ⟨⟨x0, x1, x2⟩, by simp only [Zbh, List.append_nil], o0, o1, o2⟩
theorem Zacj : ∀ (d : Nat) (ts : List Ze), WT Go.Proofs.Tryz.prog d 43 ts → ∃ x, ts = Z1 x ∧ Zp9 x := by
 intro d ts h
 cases d with
 | zero => cases h
 | succ d =>
  simp only [WT, Go.Proofs.Tryz.underlying43] at h
  replace h : Seq (WT Go.Proofs.Tryz.prog d) [3, 3, 3, 41] ts := h
  simp only [Seq] at h
  obtain ⟨_, _, rfl, h0, _, _, rfl, h1, _, _, rfl, h2, _, _, rfl, h3, rfl⟩ := h
  obtain ⟨x0, rfl, o0⟩ := (Zr Go.Proofs.Tryz.underlying3) d _ h0
  obtain ⟨x1, rfl, o1⟩ := (Zr Go.Proofs.Tryz.underlying3) d _ h1
  obtain ⟨x2, rfl, o2⟩ := (Zr Go.Proofs.Tryz.underlying3) d _ h2
  obtain ⟨x3, rfl, o3⟩ := Zdf d _ h3
  exact ⟨⟨x0, x1, x2, x3⟩, by simp only [Z1, List.append_nil], o0, o1, o2, o3⟩
theorem Zack : ∀ (d : Nat) (ts : List Ze), WT Go.Proofs.Tryz.prog d 146 ts → ∃ x, ts = Z5 x ∧ Zqa x := by
 intro d ts h
 cases d with
 | zero => cases h
 | succ d =>
  simp only [WT, Go.Proofs.Tryz.underlying146] at h
  replace h : Seq (WT Go.Proofs.Tryz.prog d) [3, 45, 43, 3, 3, 9, 41, 58, 120] ts := h
  simp only [Seq] at h
  obtain ⟨_, _, rfl, h0, _, _, rfl, h1, _, _, rfl, h2, _, _, rfl, h3, _, _, rfl, h4, _, _, rfl, h5, _, _, rfl, h6, _, _, rfl, h7, _, _, rfl, h8, rfl⟩ := h
  obtain ⟨x0, rfl, o0⟩ := (Zr Go.Proofs.Tryz.underlying3) d _ h0
  obtain ⟨x1, rfl, o1⟩ := Zak9 d _ h1
  obtain ⟨x2, rfl, o2⟩ := Zacj d _ h2
  obtain ⟨x3, rfl, o3⟩ := (Zr Go.Proofs.Tryz.underlying3) d _ h3
  obtain ⟨x4, rfl, o4⟩ := (Zr Go.Proofs.Tryz.underlying3) d _ h4
  obtain ⟨x5, rfl, o5⟩ := (Z08 Go.Proofs.Tryz.underlying9) d _ h5
  obtain ⟨x6, rfl, o6⟩ := Zdf d _ h6
  obtain ⟨x7, rfl, o7⟩ := (Zatt Go.Proofs.Tryz.underlying58 (Zr Go.Proofs.Tryz.underlying3)) d _ h7
  obtain ⟨x8, rfl, o8⟩ := (Zcr Go.Proofs.Tryz.underlying120 (by kernel_rfl : Go.Proofs.Tryz.prog.bytesOf 164 = 176) Zt1) d _ h8
  exact ⟨⟨x0, x1, x2, x3, x4, x5, x6, x7, x8⟩, by simp only [Z5, List.append_nil], o0, o1, o2, o3, o4, o5, o6, o7, o8⟩
theorem Z88 : ∀ (d : Nat) (ts : List Ze), WT Go.Proofs.Tryz.prog d 142 ts → ∃ x, ts = Zbk x ∧ Zn8 x := by
 intro d ts h
 cases d with
 | zero => cases h
 | succ d =>
  simp only [WT, Go.Proofs.Tryz.underlying142] at h
  replace h : Seq (WT Go.Proofs.Tryz.prog d) [3, 3, 41, 3, 3, 3, 3] ts := h
  simp only [Seq] at h
  obtain ⟨_, _, rfl, h0, _, _, rfl, h1, _, _, rfl, h2, _, _, rfl, h3, _, _, rfl, h4, _, _, rfl, h5, _, _, rfl, h6, rfl⟩ := h
  obtain ⟨x0, rfl, o0⟩ := (Zr Go.Proofs.Tryz.underlying3) d _ h0
  obtain ⟨x1, rfl, o1⟩ := (Zr Go.Proofs.Tryz.underlying3) d _ h1
  obtain ⟨x2, rfl, o2⟩ := Zdf d _ h2
  obtain ⟨x3, rfl, o3⟩ := (Zr Go.Proofs.Tryz.underlying3) d _ h3
  obtain ⟨x4, rfl, o4⟩ := (Zr Go.Proofs.Tryz.underlying3) d _ h4
  obtain ⟨x5, rfl, o5⟩ := (Zr Go.Proofs.Tryz.underlying3) d _ h5
  obtain ⟨x6, rfl, o6⟩ := (Zr Go.Proofs.Tryz.underlying3) d _ h6
  exact ⟨⟨x0, x1, x2, x3, x4, x5, x6⟩, by simp only [Zbk, List.append_nil], o0, o1, o2, o3, o4, o5, o6⟩
theorem Zlk : ∀ (d : Nat) (ts : List Ze), WT Go.Proofs.Tryz.prog d 144 ts → ∃ x, ts = Zae x ∧ Zhd x := by
 intro d ts h
 cases d with
 | zero => cases h
 | succ d =>
  simp only [WT, Go.Proofs.Tryz.underlying144] at h
  replace h : Seq (WT Go.Proofs.Tryz.prog d) [3, 41, 120, 136, 4, 138, 4, 139, 140, 142] ts := h
  simp only [Seq] at h
  obtain ⟨_, _, rfl, h0, _, _, rfl, h1, _, _, rfl, h2, _, _, rfl, h3, _, _, rfl, h4, _, _, rfl, h5, _, _, rfl, h6, _, _, rfl, h7, _, _, rfl, h8, _, _, rfl, h9, rfl⟩ := h
  obtain ⟨x0, rfl, o0⟩ := (Zr Go.Proofs.Tryz.underlying3) d _ h0
  obtain ⟨x1, rfl, o1⟩ := Zdf d _ h1
  obtain ⟨x2, rfl, o2⟩ := (Zcr Go.Proofs.Tryz.underlying120 (by kernel_rfl : Go.Proofs.Tryz.prog.bytesOf 164 = 176) Zt1) d _ h2
  obtain ⟨x3, rfl, o3⟩ := Zaec d _ h3
  obtain ⟨x4, rfl, o4⟩ := (Zdh Go.Proofs.Tryz.underlying4) d _ h4
  obtain ⟨x5, rfl, o5⟩ := Z87 d _ h5
  obtain ⟨x6, rfl, o6⟩ := (Zdh Go.Proofs.Tryz.underlying4) d _ h6
  obtain ⟨x7, rfl, o7⟩ := (Zcr Go.Proofs.Tryz.underlying139 (by kernel_rfl : Go.Proofs.Tryz.prog.bytesOf 202 = 144) Zagt) d _ h7
  obtain ⟨x8, rfl, o8⟩ := (Zcr Go.Proofs.Tryz.underlying140 (by kernel_rfl : Go.Proofs.Tryz.prog.bytesOf 146 = 560) Zack) d _ h8
  obtain ⟨x9, rfl, o9⟩ := Z88 d _ h9
  exact ⟨⟨x0, x1, x2, x3, x4, x5, x6, x7, x8, x9⟩, by simp only [Zae, List.append_nil], o0, o1, o2, o3, o4, o5, o6, o7, o8, o9⟩
theorem Zagu : ∀ (d : Nat) (ts : List Ze), WT Go.Proofs.Tryz.prog d 111 ts → ∃ x, ts = Z3 x ∧ Z6u x := by
 intro d ts h
 cases d with
 | zero => cases h
 | succ d =>
  simp only [WT, Go.Proofs.Tryz.underlying111] at h
  replace h : Seq (WT Go.Proofs.Tryz.prog d) [9, 4, 78, 3, 75, 3, 3, 3, 79] ts := h
  simp only [Seq] at h
  obtain ⟨_, _, rfl, h0, _, _, rfl, h1, _, _, rfl, h2, _, _, rfl, h3, _, _, rfl, h4, _, _, rfl, h5, _, _, rfl, h6, _, _, rfl, h7, _, _, rfl, h8, rfl⟩ := h
  obtain ⟨x0, rfl, o0⟩ := (Z08 Go.Proofs.Tryz.underlying9) d _ h0
  obtain ⟨x1, rfl, o1⟩ := (Zdh Go.Proofs.Tryz.underlying4) d _ h1
  obtain ⟨x2, rfl, o2⟩ := Z0q d _ h2
  obtain ⟨x3, rfl, o3⟩ := (Zr Go.Proofs.Tryz.underlying3) d _ h3
  obtain ⟨x4, rfl, o4⟩ := Zags d _ h4
  obtain ⟨x5, rfl, o5⟩ := (Zr Go.Proofs.Tryz.underlying3) d _ h5
  obtain ⟨x6, rfl, o6⟩ := (Zr Go.Proofs.Tryz.underlying3) d _ h6
  obtain ⟨x7, rfl, o7⟩ := (Zr Go.Proofs.Tryz.underlying3) d _ h7
  obtain ⟨x8, rfl, o8⟩ := (Zcr Go.Proofs.Tryz.underlying79 (by kernel_rfl : Go.Proofs.Tryz.prog.bytesOf 144 = 640) Zlk) d _ h8
  exact ⟨⟨x0, x1, x2, x3, x4, x5, x6, x7, x8⟩, by simp only [Z3, List.append_nil], o0, o1, o2, o3, o4, o5, o6, o7, o8⟩
theorem Zacl : ∀ (d : Nat) (ts : List Ze), WT Go.Proofs.Tryz.prog d 60 ts → ∃ x, ts = Z6 x ∧ Zqb x := by
 intro d ts h
 cases d with
 | zero => cases h
 | succ d =>
  simp only [WT, Go.Proofs.Tryz.underlying60] at h
  replace h : Seq (WT Go.Proofs.Tryz.prog d) [3, 3, 3, 58, 4, 4, 25, 25, 25] ts := h
  simp only [Seq] at h
  obtain ⟨_, _, rfl, h0, _, _, rfl, h1, _, _, rfl, h2, _, _, rfl, h3, _, _, rfl, h4, _, _, rfl, h5, _, _, rfl, h6, _, _, rfl, h7, _, _, rfl, h8, rfl⟩ := h
  obtain ⟨x0, rfl, o0⟩ := (Zr Go.Proofs.Tryz.underlying3) d _ h0
  obtain ⟨x1, rfl, o1⟩ := (Zr Go.Proofs.Tryz.underlying3) d _ h1
  obtain ⟨x2, rfl, o2⟩ := (Zr Go.Proofs.Tryz.underlying3) d _ h2
  obtain ⟨x3, rfl, o3⟩ := (Zatt Go.Proofs.Tryz.underlying58 (Zr Go.Proofs.Tryz.underlying3)) d _ h3
  obtain ⟨x4, rfl, o4⟩ := (Zdh Go.Proofs.Tryz.underlying4) d _ h4
  obtain ⟨x5, rfl, o5⟩ := (Zdh Go.Proofs.Tryz.underlying4) d _ h5
  obtain ⟨x6, rfl, o6⟩ := (Zcr Go.Proofs.Tryz.underlying25 (by kernel_rfl : Go.Proofs.Tryz.prog.bytesOf 3 = 8) (Zr Go.Proofs.Tryz.underlying3)) d _ h6
  obtain ⟨x7, rfl, o7⟩ := (Zcr Go.Proofs.Tryz.underlying25 (by kernel_rfl : Go.Proofs.Tryz.prog.bytesOf 3 = 8) (Zr Go.Proofs.Tryz.underlying3)) d _ h7
  obtain ⟨x8, rfl, o8⟩ := (Zcr Go.Proofs.Tryz.underlying25 (by kernel_rfl : Go.Proofs.Tryz.prog.bytesOf 3 = 8) (Zr Go.Proofs.Tryz.underlying3)) d _ h8
  exact ⟨⟨x0, x1, x2, x3, x4, x5, x6, x7, x8⟩, by simp only [Z6, List.append_nil], o0, o1, o2, o3, o4, o5, o6, o7, o8⟩
theorem Zacm : ∀ (d : Nat) (ts : List Ze), WT Go.Proofs.Tryz.prog d 62 ts → ∃ x, ts = Zi x ∧ Z0i x := by
 intro d ts h
 cases d with
 | zero => cases h
 | succ d =>
  simp only [WT, Go.Proofs.Tryz.underlying62] at h
  replace h : Seq (WT Go.Proofs.Tryz.prog d) [3, 3, 3, 3, 3, 4, 4, 4, 4, 3, 33, 3, 3, 3, 4, 3, 3] ts := h
  simp only [Seq] at h
  obtain ⟨_, _, rfl, h0, _, _, rfl, h1, _, _, rfl, h2, _, _, rfl, h3, _, _, rfl, h4, _, _, rfl, h5, _, _, rfl, h6, _, _, rfl, h7, _, _, rfl, h8, _, _, rfl, h9, _, _, rfl, h10, _, _, rfl, h11, _, _, rfl, h12, _, _, rfl, h13, _, _, rfl, h14, _, _, rfl, h15, _, _, rfl, h16, rfl⟩ := h
  obtain ⟨x0, rfl, o0⟩ := (Zr Go.Proofs.Tryz.underlying3) d _ h0
  obtain ⟨x1, rfl, o1⟩ := (Zr Go.Proofs.Tryz.underlying3) d _ h1
  obtain ⟨x2, rfl, o2⟩ := (Zr Go.Proofs.Tryz.underlying3) d _ h2
  obtain ⟨x3, rfl, o3⟩ := (Zr Go.Proofs.Tryz.underlying3) d _ h3
  obtain ⟨x4, rfl, o4⟩ := (Zr Go.Proofs.Tryz.underlying3) d _ h4
  obtain ⟨x5, rfl, o5⟩ := (Zdh Go.Proofs.Tryz.underlying4) d _ h5
  obtain ⟨x6, rfl, o6⟩ := (Zdh Go.Proofs.Tryz.underlying4) d _ h6
  obtain ⟨x7, rfl, o7⟩ := (Zdh Go.Proofs.Tryz.underlying4) d _ h7
  obtain ⟨x8, rfl, o8⟩ := (Zdh Go.Proofs.Tryz.underlying4) d _ h8
  obtain ⟨x9, rfl, o9⟩ := (Zr Go.Proofs.Tryz.underlying3) d _ h9
  obtain ⟨x10, rfl, o10⟩ := (Zats Go.Proofs.Tryz.underlying33 (Zr Go.Proofs.Tryz.underlying3)) d _ h10
  obtain ⟨x11, rfl, o11⟩ := (Zr Go.Proofs.Tryz.underlying3) d _ h11
  obtain ⟨x12, rfl, o12⟩ := (Zr Go.Proofs.Tryz.underlying3) d _ h12
  obtain ⟨x13, rfl, o13⟩ := (Zr Go.Proofs.Tryz.underlying3) d _ h13
  obtain ⟨x14, rfl, o14⟩ := (Zdh Go.Proofs.Tryz.underlying4) d _ h14
  obtain ⟨x15, rfl, o15⟩ := (Zr Go.Proofs.Tryz.underlying3) d _ h15
  obtain ⟨x16, rfl, o16⟩ := (Zr Go.Proofs.Tryz.underlying3) d _ h16
  exact ⟨⟨x0, x1, x2, x3, x4, x5, x6, x7, x8, x9, x10, x11, x12, x13, x14, x15, x16⟩, by simp only [Zi, List.append_nil], o0, o1, o2, o3, o4, o5, o6, o7, o8, o9, o10, o11, o12, o13, o14, o15, o16⟩
theorem Zacn : ∀ (d : Nat) (ts : List Ze), WT Go.Proofs.Tryz.prog d 83 ts → ∃ x, ts = Zcx x ∧ Z0j x := by
 intro d ts h
 cases d with
 | zero => cases h
 | succ d =>
  simp only [WT, Go.Proofs.Tryz.underlying83] at h
  replace h : Seq (WT Go.Proofs.Tryz.prog d) [3, 3] ts := h
  simp only [Seq] at h
  obtain ⟨_, _, rfl, h0, _, _, rfl, h1, rfl⟩ := h
  obtain ⟨x0, rfl, o0⟩ := (Zr Go.Proofs.Tryz.underlying3) d _ h0
  obtain ⟨x1, rfl, o1⟩ := (Zr Go.Proofs.Tryz.underlying3) d _ h1
  exact ⟨⟨x0, x1⟩, by simp only [Zcx, List.append_nil], o0, o1⟩
theorem Zyg : ∀ (d : Nat) (ts : List Ze), WT Go.Proofs.Tryz.prog d 35 ts → ∃ x, ts = Zib x ∧ Zti x := by
 intro d ts h
 cases d with
 | zero => cases h
 | succ d =>
  simp only [WT, Go.Proofs.Tryz.underlying35] at h
  replace h : Seq (WT Go.Proofs.Tryz.prog d) [3, 3, 3, 3, 3, 3, 3, 3, 3, 3, 4, 4, 33] ts := h
  simp only [Seq] at h
  obtain ⟨_, _, rfl, h0, _, _, rfl, h1, _, _, rfl, h2, _, _, rfl, h3, _, _, rfl, h4, _, _, rfl, h5, _, _, rfl, h6, _, _, rfl, h7, _, _, rfl, h8, _, _, rfl, h9, _, _, rfl, h10, _, _, rfl, h11, _, _, rfl, h12, rfl⟩ := h
  obtain ⟨x0, rfl, o0⟩ := (Zr Go.Proofs.Tryz.underlying3) d _ h0
  obtain ⟨x1, rfl, o1⟩ := (Zr Go.Proofs.Tryz.underlying3) d _ h1
  obtain ⟨x2, rfl, o2⟩ := (Zr Go.Proofs.Tryz.underlying3) d _ h2
  obtain ⟨x3, rfl, o3⟩ := (Zr Go.Proofs.Tryz.underlying3) d _ h3
  obtain ⟨x4, rfl, o4⟩ := (Zr Go.Proofs.Tryz.underlying3) d _ h4
  obtain ⟨x5, rfl, o5⟩ := (Zr Go.Proofs.Tryz.underlying3) d _ h5
  obtain ⟨x6, rfl, o6⟩ := (Zr Go.Proofs.Tryz.underlying3) d _ h6
  obtain ⟨x7, rfl, o7⟩ := (Zr Go.Proofs.Tryz.underlying3) d _ h7
  obtain ⟨x8, rfl, o8⟩ := (Zr Go.Proofs.Tryz.underlying3) d _ h8
  obtain ⟨x9, rfl, o9⟩ := (Zr Go.Proofs.Tryz.underlying3) d _ h9
  obtain ⟨x10, rfl, o10⟩ := (Zdh Go.Proofs.Tryz.underlying4) d _ h10
  obtain ⟨x11, rfl, o11⟩ := (Zdh Go.Proofs.Tryz.underlying4) d _ h11
  obtain ⟨x12, rfl, o12⟩ := (Zats Go.Proofs.Tryz.underlying33 (Zr Go.Proofs.Tryz.underlying3)) d _ h12
  exact ⟨⟨x0, x1, x2, x3, x4, x5, x6, x7, x8, x9, x10, x11, x12⟩, by simp only [Zib, List.append_nil], o0, o1, o2, o3, o4, o5, o6, o7, o8, o9, o10, o11, o12⟩
theorem Zagv : ∀ (d : Nat) (ts : List Ze), WT Go.Proofs.Tryz.prog d 154 ts → ∃ x, ts = Zay x ∧ Zwo x := by
 intro d ts h
 cases d with
 | zero => cases h
 | succ d =>
  simp only [WT, Go.Proofs.Tryz.underlying154] at h
  replace h : Seq (WT Go.Proofs.Tryz.prog d) [3, 3, 3, 3, 3, 4, 144, 32, 35] ts := h
  simp only [Seq] at h
  obtain ⟨_, _, rfl, h0, _, _, rfl, h1, _, _, rfl, h2, _, _, rfl, h3, _, _, rfl, h4, _, _, rfl, h5, _, _, rfl, h6, _, _, rfl, h7, _, _, rfl, h8, rfl⟩ := h
  obtain ⟨x0, rfl, o0⟩ := (Zr Go.Proofs.Tryz.underlying3) d _ h0
  obtain ⟨x1, rfl, o1⟩ := (Zr Go.Proofs.Tryz.underlying3) d _ h1
  obtain ⟨x2, rfl, o2⟩ := (Zr Go.Proofs.Tryz.underlying3) d _ h2
  obtain ⟨x3, rfl, o3⟩ := (Zr Go.Proofs.Tryz.underlying3) d _ h3
  obtain ⟨x4, rfl, o4⟩ := (Zr Go.Proofs.Tryz.underlying3) d _ h4
  obtain ⟨x5, rfl, o5⟩ := (Zdh Go.Proofs.Tryz.underlying4) d _ h5
  obtain ⟨x6, rfl, o6⟩ := Zlk d _ h6
  obtain ⟨x7, rfl, o7⟩ := (Zcr Go.Proofs.Tryz.underlying32 (by kernel_rfl : Go.Proofs.Tryz.prog.bytesOf 83 = 16) Zacn) d _ h7
  obtain ⟨x8, rfl, o8⟩ := Zyg d _ h8
  exact ⟨⟨x0, x1, x2, x3, x4, x5, x6, x7, x8⟩, by simp only [Zay, List.append_nil], o0, o1, o2, o3, o4, o5, o6, o7, o8⟩
theorem Z89 : ∀ (d : Nat) (ts : List Ze), WT Go.Proofs.Tryz.prog d 156 ts → ∃ x, ts = Zaz x ∧ Zn9 x := by
 intro d ts h
 cases d with
 | zero => cases h
 | succ d =>
  simp only [WT, Go.Proofs.Tryz.underlying156] at h
  replace h : Seq (WT Go.Proofs.Tryz.prog d) [3, 3, 144, 35] ts := h
  simp only [Seq] at h
  obtain ⟨_, _, rfl, h0, _, _, rfl, h1, _, _, rfl, h2, _, _, rfl, h3, rfl⟩ := h
  obtain ⟨x0, rfl, o0⟩ := (Zr Go.Proofs.Tryz.underlying3) d _ h0
  obtain ⟨x1, rfl, o1⟩ := (Zr Go.Proofs.Tryz.underlying3) d _ h1
  obtain ⟨x2, rfl, o2⟩ := Zlk d _ h2
  obtain ⟨x3, rfl, o3⟩ := Zyg d _ h3
  exact ⟨⟨x0, x1, x2, x3⟩, by simp only [Zaz, List.append_nil], o0, o1, o2, o3⟩
theorem Zagw : ∀ (d : Nat) (ts : List Ze), WT Go.Proofs.Tryz.prog d 158 ts → ∃ x, ts = Zbr x ∧ Zwp x := by
 intro d ts h
 cases d with
 | zero => cases h
 | succ d =>
  simp only [WT, Go.Proofs.Tryz.underlying158] at h
  replace h : Seq (WT Go.Proofs.Tryz.prog d) [3, 3, 3, 3, 25, 120] ts := h
  simp only [Seq] at h
  obtain ⟨_, _, rfl, h0, _, _, rfl, h1, _, _, rfl, h2, _, _, rfl, h3, _, _, rfl, h4, _, _, rfl, h5, rfl⟩ := h
  obtain ⟨x0, rfl, o0⟩ := (Zr Go.Proofs.Tryz.underlying3) d _ h0
  obtain ⟨x1, rfl, o1⟩ := (Zr Go.Proofs.Tryz.underlying3) d _ h1
  obtain ⟨x2, rfl, o2⟩ := (Zr Go.Proofs.Tryz.underlying3) d _ h2
  obtain ⟨x3, rfl, o3⟩ := (Zr Go.Proofs.Tryz.underlying3) d _ h3
  obtain ⟨x4, rfl, o4⟩ := (Zcr Go.Proofs.Tryz.underlying25 (by kernel_rfl : Go.Proofs.Tryz.prog.bytesOf 3 = 8) (Zr Go.Proofs.Tryz.underlying3)) d _ h4
  obtain ⟨x5, rfl, o5⟩ := (Zcr Go.Proofs.Tryz.underlying120 (by kernel_rfl : Go.Proofs.Tryz.prog.bytesOf 164 = 176) Zt1) d _ h5
  exact ⟨⟨x0, x1, x2, x3, x4, x5⟩, by simp only [Zbr, List.append_nil], o0, o1, o2, o3, o4, o5⟩
theorem Zaed : ∀ (d : Nat) (ts : List Ze), WT Go.Proofs.Tryz.prog d 31 ts → ∃ x, ts = Zn x ∧ Z26 x := by
 intro d ts h
 cases d with
 | zero => cases h
 | succ d =>
  simp only [WT, Go.Proofs.Tryz.underlying31] at h
  replace h : Seq (WT Go.Proofs.Tryz.prog d) [23, 24, 25, 25, 26, 27, 28, 3, 3, 3, 4, 3, 3, 3, 3, 29, 25, 3, 3] ts := h
  simp only [Seq] at h
  obtain ⟨_, _, rfl, h0, _, _, rfl, h1, _, _, rfl, h2, _, _, rfl, h3, _, _, rfl, h4, _, _, rfl, h5, _, _, rfl, h6, _, _, rfl, h7, _, _, rfl, h8, _, _, rfl, h9, _, _, rfl, h10, _, _, rfl, h11, _, _, rfl, h12, _, _, rfl, h13, _, _, rfl, h14, _, _, rfl, h15, _, _, rfl, h16, _, _, rfl, h17, _, _, rfl, h18, rfl⟩ := h
  obtain ⟨x0, rfl, o0⟩ := (Zcr Go.Proofs.Tryz.underlying23 (by kernel_rfl : Go.Proofs.Tryz.prog.bytesOf 60 = 152) Zacl) d _ h0
  obtain ⟨x1, rfl, o1⟩ := (Zcr Go.Proofs.Tryz.underlying24 (by kernel_rfl : Go.Proofs.Tryz.prog.bytesOf 62 = 128) Zacm) d _ h1
  obtain ⟨x2, rfl, o2⟩ := (Zcr Go.Proofs.Tryz.underlying25 (by kernel_rfl : Go.Proofs.Tryz.prog.bytesOf 3 = 8) (Zr Go.Proofs.Tryz.underlying3)) d _ h2
  obtain ⟨x3, rfl, o3⟩ := (Zcr Go.Proofs.Tryz.underlying25 (by kernel_rfl : Go.Proofs.Tryz.prog.bytesOf 3 = 8) (Zr Go.Proofs.Tryz.underlying3)) d _ h3
  obtain ⟨x4, rfl, o4⟩ := (Zcr Go.Proofs.Tryz.underlying26 (by kernel_rfl : Go.Proofs.Tryz.prog.bytesOf 154 = 824) Zagv) d _ h4
  obtain ⟨x5, rfl, o5⟩ := (Zcr Go.Proofs.Tryz.underlying27 (by kernel_rfl : Go.Proofs.Tryz.prog.bytesOf 156 = 768) Z89) d _ h5
  obtain ⟨x6, rfl, o6⟩ := (Zcr Go.Proofs.Tryz.underlying28 (by kernel_rfl : Go.Proofs.Tryz.prog.bytesOf 158 = 80) Zagw) d _ h6
  obtain ⟨x7, rfl, o7⟩ := (Zr Go.Proofs.Tryz.underlying3) d _ h7
  obtain ⟨x8, rfl, o8⟩ := (Zr Go.Proofs.Tryz.underlying3) d _ h8
  obtain ⟨x9, rfl, o9⟩ := (Zr Go.Proofs.Tryz.underlying3) d _ h9
  obtain ⟨x10, rfl, o10⟩ := (Zdh Go.Proofs.Tryz.underlying4) d _ h10
  obtain ⟨x11, rfl, o11⟩ := (Zr Go.Proofs.Tryz.underlying3) d _ h11
  obtain ⟨x12, rfl, o12⟩ := (Zr Go.Proofs.Tryz.underlying3) d _ h12
  obtain ⟨x13, rfl, o13⟩ := (Zr Go.Proofs.Tryz.underlying3) d _ h13
  obtain ⟨x14, rfl, o14⟩ := (Zr Go.Proofs.Tryz.underlying3) d _ h14
  obtain ⟨x15, rfl, o15⟩ := (Zr Go.Proofs.Tryz.underlying29) d _ h15
  obtain ⟨x16, rfl, o16⟩ := (Zcr Go.Proofs.Tryz.underlying25 (by kernel_rfl : Go.Proofs.Tryz.prog.bytesOf 3 = 8) (Zr Go.Proofs.Tryz.underlying3)) d _ h16
  obtain ⟨x17, rfl, o17⟩ := (Zr Go.Proofs.Tryz.underlying3) d _ h17
  obtain ⟨x18, rfl, o18⟩ := (Zr Go.Proofs.Tryz.underlying3) d _ h18
  exact ⟨⟨x0, x1, x2, x3, x4, x5, x6, x7, x8, x9, x10, x11, x12, x13, x14, x15, x16, x17, x18⟩, by simp only [Zn, List.append_nil], o0, o1, o2, o3, o4, o5, o6, o7, o8, o9, o10, o11, o12, o13, o14, o15, o16, o17, o18⟩
end Go.PW
