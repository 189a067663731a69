import Derived.Test.YthnagpmgjlnioaaQT
import Derived.Test.YthnagpmgjlnioaaQE
namespace Go.PW
open Go.RowKit
theorem open_api_Option : ∀ (d : Nat) (ts : List Tree), WT Go.Proofs.Try.prog d 55 ts → ∃ x, ts = c_api_Option x ∧ ok_api_Option x := by
  intro d ts h
  cases d with
  | zero => cases h
  | succ d =>
    simp only [WT, Go.Proofs.Try.underlying55] at h
    replace h : Seq (WT Go.Proofs.Try.prog d) [3, 3, 3] ts := h
    simp only [Seq] at h
    obtain ⟨_, _, rfl, h0, _, _, rfl, h1, _, _, rfl, h2, rfl⟩ := h
    obtain ⟨x0, rfl, o0⟩ := (WT_int Go.Proofs.Try.underlying3) d _ h0
    obtain ⟨x1, rfl, o1⟩ := (WT_int Go.Proofs.Try.underlying3) d _ h1
    obtain ⟨x2, rfl, o2⟩ := (WT_int Go.Proofs.Try.underlying3) d _ h2
    exact ⟨⟨x0, x1, x2⟩, by simp only [c_api_Option, List.append_nil], o0, o1, o2⟩
theorem open_api_Choice : ∀ (d : Nat) (ts : List Tree), WT Go.Proofs.Try.prog d 24 ts → ∃ x, ts = c_api_Choice x ∧ ok_api_Choice x := by
  intro d ts h
  cases d with
  | zero => cases h
  | succ d =>
    simp only [WT, Go.Proofs.Try.underlying24] at h
    replace h : Seq (WT Go.Proofs.Try.prog d) [3, 3, 3, 3, 3, 3, 22] ts := h
    simp only [Seq] at h
    obtain ⟨_, _, rfl, h0, _, _, rfl, h1, _, _, rfl, h2, _, _, rfl, h3, _, _, rfl, h4, _, _, rfl, h5, _, _, rfl, h6, rfl⟩ := h
    obtain ⟨x0, rfl, o0⟩ := (WT_int Go.Proofs.Try.underlying3) d _ h0
    obtain ⟨x1, rfl, o1⟩ := (WT_int Go.Proofs.Try.underlying3) d _ h1
    obtain ⟨x2, rfl, o2⟩ := (WT_int Go.Proofs.Try.underlying3) d _ h2
    obtain ⟨x3, rfl, o3⟩ := (WT_int Go.Proofs.Try.underlying3) d _ h3
    obtain ⟨x4, rfl, o4⟩ := (WT_int Go.Proofs.Try.underlying3) d _ h4
    obtain ⟨x5, rfl, o5⟩ := (WT_int Go.Proofs.Try.underlying3) d _ h5
    obtain ⟨x6, rfl, o6⟩ := (WT_list Go.Proofs.Try.underlying22 (by kernel_rfl : Go.Proofs.Try.prog.bytesOf 55 = 24) open_api_Option) d _ h6
    exact ⟨⟨x0, x1, x2, x3, x4, x5, x6⟩, by simp only [c_api_Choice, List.append_nil], o0, o1, o2, o3, o4, o5, o6⟩
theorem open_ask_Asker : ∀ (d : Nat) (ts : List Tree), WT Go.Proofs.Try.prog d 49 ts → ∃ x, ts = c_ask_Asker x ∧ ok_ask_Asker x := by
  intro d ts h
  cases d with
  | zero => cases h
  | succ d =>
    simp only [WT, Go.Proofs.Try.underlying49] at h
    replace h : Seq (WT Go.Proofs.Try.prog d) [28, 3, 24, 4, 4] ts := h
    simp only [Seq] at h
    obtain ⟨_, _, rfl, h0, _, _, rfl, h1, _, _, rfl, h2, _, _, rfl, h3, _, _, rfl, h4, rfl⟩ := h
    obtain ⟨x0, rfl, o0⟩ := (WT_list Go.Proofs.Try.underlying28 (by kernel_rfl : Go.Proofs.Try.prog.bytesOf 25 = 24) (WT_list Go.Proofs.Try.underlying25 (by kernel_rfl : Go.Proofs.Try.prog.bytesOf 3 = 8) (WT_int Go.Proofs.Try.underlying3))) d _ h0
    obtain ⟨x1, rfl, o1⟩ := (WT_int Go.Proofs.Try.underlying3) d _ h1
    obtain ⟨x2, rfl, o2⟩ := open_api_Choice d _ h2
    obtain ⟨x3, rfl, o3⟩ := (WT_bool Go.Proofs.Try.underlying4) d _ h3
    obtain ⟨x4, rfl, o4⟩ := (WT_bool Go.Proofs.Try.underlying4) d _ h4
    exact ⟨⟨x0, x1, x2, x3, x4⟩, by simp only [c_ask_Asker, List.append_nil], o0, o1, o2, o3, o4⟩
theorem open_cardgameref36_Asker : ∀ (d : Nat) (ts : List Tree), WT Go.Proofs.Try.prog d 52 ts → ∃ x, ts = c_cardgameref36_Asker x ∧ ok_cardgameref36_Asker x := by
  intro d ts h
  cases d with
  | zero => cases h
  | succ d =>
    simp only [WT, Go.Proofs.Try.underlying52] at h
    replace h : Seq (WT Go.Proofs.Try.prog d) [28, 24, 4, 4, 3] ts := h
    simp only [Seq] at h
    obtain ⟨_, _, rfl, h0, _, _, rfl, h1, _, _, rfl, h2, _, _, rfl, h3, _, _, rfl, h4, rfl⟩ := h
    obtain ⟨x0, rfl, o0⟩ := (WT_list Go.Proofs.Try.underlying28 (by kernel_rfl : Go.Proofs.Try.prog.bytesOf 25 = 24) (WT_list Go.Proofs.Try.underlying25 (by kernel_rfl : Go.Proofs.Try.prog.bytesOf 3 = 8) (WT_int Go.Proofs.Try.underlying3))) d _ h0
    obtain ⟨x1, rfl, o1⟩ := open_api_Choice d _ h1
    obtain ⟨x2, rfl, o2⟩ := (WT_bool Go.Proofs.Try.underlying4) d _ h2
    obtain ⟨x3, rfl, o3⟩ := (WT_bool Go.Proofs.Try.underlying4) d _ h3
    obtain ⟨x4, rfl, o4⟩ := (WT_int Go.Proofs.Try.underlying3) d _ h4
    exact ⟨⟨x0, x1, x2, x3, x4⟩, by simp only [c_cardgameref36_Asker, List.append_nil], o0, o1, o2, o3, o4⟩
end Go.PW
