import Derived.Test.YthnagpmgjlnioaaPwS
import Derived.Test.YthnagpmgjlnioaaQD
namespace Go.PW
open Go.RowKit
theorem eqs_api_Option (x y : api_Option) (r s : List Tree) : eqTs (c_api_Option x ++ r) (c_api_Option y ++ s) = (decide (x = y) && eqTs r s) := by
  obtain ⟨x0, x1, x2⟩ := x
  obtain ⟨y0, y1, y2⟩ := y
  simp only [c_api_Option, List.append_assoc, (eqs_cI .i64), api_Option.mk.injEq, Bool.decide_and, Bool.and_assoc]
theorem eq_api_Option (x y : api_Option) : eqTs (c_api_Option x) (c_api_Option y) = decide (x = y) := eq_of_eqs eqs_api_Option x y
def ok_api_Option (x : api_Option) : Prop := (fun n => IntKind.min .i64 ≤ n ∧ n ≤ IntKind.max .i64) x.Kind ∧ (fun n => IntKind.min .i64 ≤ n ∧ n ≤ IntKind.max .i64) x.A ∧ (fun n => IntKind.min .i64 ≤ n ∧ n ≤ IntKind.max .i64) x.B
def ok_api_Choice (x : api_Choice) : Prop := (fun n => IntKind.min .i64 ≤ n ∧ n ≤ IntKind.max .i64) x.Kind ∧ (fun n => IntKind.min .i64 ≤ n ∧ n ≤ IntKind.max .i64) x.Player ∧ (fun n => IntKind.min .i64 ≤ n ∧ n ≤ IntKind.max .i64) x.Source ∧ (fun n => IntKind.min .i64 ≤ n ∧ n ≤ IntKind.max .i64) x.Least ∧ (fun n => IntKind.min .i64 ≤ n ∧ n ≤ IntKind.max .i64) x.Most ∧ (fun n => IntKind.min .i64 ≤ n ∧ n ≤ IntKind.max .i64) x.N ∧ (OkL 24 ok_api_Option) x.Options
def ok_ask_Asker (x : ask_Asker) : Prop := (OkL 24 (OkL 8 (fun n => IntKind.min .i64 ≤ n ∧ n ≤ IntKind.max .i64))) x.answers ∧ (fun n => IntKind.min .i64 ≤ n ∧ n ≤ IntKind.max .i64) x.used ∧ ok_api_Choice x.pending ∧ (fun _ => True) x.waits ∧ (fun _ => True) x.bad
def ok_cardgameref36_Asker (x : cardgameref36_Asker) : Prop := (OkL 24 (OkL 8 (fun n => IntKind.min .i64 ≤ n ∧ n ≤ IntKind.max .i64))) x.Answers ∧ ok_api_Choice x.Choice ∧ (fun _ => True) x.Waits ∧ (fun _ => True) x.Wrong ∧ (fun n => IntKind.min .i64 ≤ n ∧ n ≤ IntKind.max .i64) x.N
end Go.PW
