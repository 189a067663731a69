import Derived.Test.YtdpiijfehkafnaaPwS
import Derived.Test.YtdpiijfehkafnaaQD
namespace Go.PW
open Go.RowKit
theorem eqs_api_Object (x y : api_Object) (r s : List Tree) : eqTs (c_api_Object x ++ r) (c_api_Object y ++ s) = (decide (x = y) && eqTs r s) := by
  obtain ⟨x0, x1, x2, x3, x4, x5, x6, x7, x8, x9, x10, x11, x12, x13, x14, x15, x16⟩ := x
  obtain ⟨y0, y1, y2, y3, y4, y5, y6, y7, y8, y9, y10, y11, y12, y13, y14, y15, y16⟩ := y
  simp only [c_api_Object, List.append_assoc, (eqs_cA3 (eqs_cI .i64)), (eqs_cI .i64), eqs_cB, api_Object.mk.injEq, Bool.decide_and, Bool.and_assoc]
theorem eq_api_Object (x y : api_Object) : eqTs (c_api_Object x) (c_api_Object y) = decide (x = y) := eq_of_eqs eqs_api_Object x y
theorem eqs_api_Cost (x y : api_Cost) (r s : List Tree) : eqTs (c_api_Cost x ++ r) (c_api_Cost y ++ s) = (decide (x = y) && eqTs r s) := by
  obtain ⟨x0, x1, x2⟩ := x
  obtain ⟨y0, y1, y2⟩ := y
  simp only [c_api_Cost, List.append_assoc, (eqs_cA5 (eqs_cI .i64)), (eqs_cI .i64), api_Cost.mk.injEq, Bool.decide_and, Bool.and_assoc]
theorem eq_api_Cost (x y : api_Cost) : eqTs (c_api_Cost x) (c_api_Cost y) = decide (x = y) := eq_of_eqs eqs_api_Cost x y
theorem eqs_api_Bound (x y : api_Bound) (r s : List Tree) : eqTs (c_api_Bound x ++ r) (c_api_Bound y ++ s) = (decide (x = y) && eqTs r s) := by
  obtain ⟨x0, x1⟩ := x
  obtain ⟨y0, y1⟩ := y
  simp only [c_api_Bound, List.append_assoc, (eqs_cI .i64), api_Bound.mk.injEq, Bool.decide_and, Bool.and_assoc]
theorem eq_api_Bound (x y : api_Bound) : eqTs (c_api_Bound x) (c_api_Bound y) = decide (x = y) := eq_of_eqs eqs_api_Bound x y
theorem eqs_api_Filter (x y : api_Filter) (r s : List Tree) : eqTs (c_api_Filter x ++ r) (c_api_Filter y ++ s) = (decide (x = y) && eqTs r s) := by
  obtain ⟨x0, x1, x2, x3, x4, x5, x6, x7, x8, x9, x10, x11, x12⟩ := x
  obtain ⟨y0, y1, y2, y3, y4, y5, y6, y7, y8, y9, y10, y11, y12⟩ := y
  simp only [c_api_Filter, List.append_assoc, (eqs_cI .i64), eqs_api_Bound, eqs_cS, api_Filter.mk.injEq, Bool.decide_and, Bool.and_assoc]
theorem eq_api_Filter (x y : api_Filter) : eqTs (c_api_Filter x) (c_api_Filter y) = decide (x = y) := eq_of_eqs eqs_api_Filter x y
theorem eqs_api_Mod (x y : api_Mod) (r s : List Tree) : eqTs (c_api_Mod x ++ r) (c_api_Mod y ++ s) = (decide (x = y) && eqTs r s) := by
  obtain ⟨x0, x1, x2, x3, x4⟩ := x
  obtain ⟨y0, y1, y2, y3, y4⟩ := y
  simp only [c_api_Mod, List.append_assoc, (eqs_cI .i64), eqs_api_Filter, eqs_cS, api_Mod.mk.injEq, Bool.decide_and, Bool.and_assoc]
theorem eq_api_Mod (x y : api_Mod) : eqTs (c_api_Mod x) (c_api_Mod y) = decide (x = y) := eq_of_eqs eqs_api_Mod x y
theorem eqs_api_Price (x y : api_Price) (r s : List Tree) : eqTs (c_api_Price x ++ r) (c_api_Price y ++ s) = (decide (x = y) && eqTs r s) := by
  obtain ⟨x0, x1, x2, x3⟩ := x
  obtain ⟨y0, y1, y2, y3⟩ := y
  simp only [c_api_Price, List.append_assoc, (eqs_cI .i64), eqs_api_Cost, eqs_cB, api_Price.mk.injEq, Bool.decide_and, Bool.and_assoc]
theorem eq_api_Price (x y : api_Price) : eqTs (c_api_Price x) (c_api_Price y) = decide (x = y) := eq_of_eqs eqs_api_Price x y
theorem eqs_api_Trigger (x y : api_Trigger) (r s : List Tree) : eqTs (c_api_Trigger x ++ r) (c_api_Trigger y ++ s) = (decide (x = y) && eqTs r s) := by
  obtain ⟨x0, x1, x2⟩ := x
  obtain ⟨y0, y1, y2⟩ := y
  simp only [c_api_Trigger, List.append_assoc, (eqs_cI .i64), eqs_api_Filter, api_Trigger.mk.injEq, Bool.decide_and, Bool.and_assoc]
theorem eq_api_Trigger (x y : api_Trigger) : eqTs (c_api_Trigger x) (c_api_Trigger y) = decide (x = y) := eq_of_eqs eqs_api_Trigger x y
theorem eqs_api_Spec (x y : api_Spec) (r s : List Tree) : eqTs (c_api_Spec x ++ r) (c_api_Spec y ++ s) = (decide (x = y) && eqTs r s) := by
  obtain ⟨x0, x1, x2⟩ := x
  obtain ⟨y0, y1, y2⟩ := y
  simp only [c_api_Spec, List.append_assoc, eqs_api_Filter, eqs_cB, api_Spec.mk.injEq, Bool.decide_and, Bool.and_assoc]
theorem eq_api_Spec (x y : api_Spec) : eqTs (c_api_Spec x) (c_api_Spec y) = decide (x = y) := eq_of_eqs eqs_api_Spec x y
theorem eqs_api_Ref (x y : api_Ref) (r s : List Tree) : eqTs (c_api_Ref x ++ r) (c_api_Ref y ++ s) = (decide (x = y) && eqTs r s) := by
  obtain ⟨x0, x1, x2⟩ := x
  obtain ⟨y0, y1, y2⟩ := y
  simp only [c_api_Ref, List.append_assoc, (eqs_cI .i64), eqs_api_Filter, api_Ref.mk.injEq, Bool.decide_and, Bool.and_assoc]
theorem eq_api_Ref (x y : api_Ref) : eqTs (c_api_Ref x) (c_api_Ref y) = decide (x = y) := eq_of_eqs eqs_api_Ref x y
theorem eqs_api_Amount (x y : api_Amount) (r s : List Tree) : eqTs (c_api_Amount x ++ r) (c_api_Amount y ++ s) = (decide (x = y) && eqTs r s) := by
  obtain ⟨x0, x1, x2, x3⟩ := x
  obtain ⟨y0, y1, y2, y3⟩ := y
  simp only [c_api_Amount, List.append_assoc, (eqs_cI .i64), eqs_api_Filter, api_Amount.mk.injEq, Bool.decide_and, Bool.and_assoc]
theorem eq_api_Amount (x y : api_Amount) : eqTs (c_api_Amount x) (c_api_Amount y) = decide (x = y) := eq_of_eqs eqs_api_Amount x y
theorem eqs_api_Replace (x y : api_Replace) (r s : List Tree) : eqTs (c_api_Replace x ++ r) (c_api_Replace y ++ s) = (decide (x = y) && eqTs r s) := by
  obtain ⟨x0, x1, x2, x3, x4, x5, x6⟩ := x
  obtain ⟨y0, y1, y2, y3, y4, y5, y6⟩ := y
  simp only [c_api_Replace, List.append_assoc, (eqs_cI .i64), eqs_api_Filter, api_Replace.mk.injEq, Bool.decide_and, Bool.and_assoc]
theorem eq_api_Replace (x y : api_Replace) : eqTs (c_api_Replace x) (c_api_Replace y) = decide (x = y) := eq_of_eqs eqs_api_Replace x y
theorem eqs_api_Target (x y : api_Target) (r s : List Tree) : eqTs (c_api_Target x ++ r) (c_api_Target y ++ s) = (decide (x = y) && eqTs r s) := by
  obtain ⟨x0, x1⟩ := x
  obtain ⟨y0, y1⟩ := y
  simp only [c_api_Target, List.append_assoc, (eqs_cI .i64), api_Target.mk.injEq, Bool.decide_and, Bool.and_assoc]
theorem eq_api_Target (x y : api_Target) : eqTs (c_api_Target x) (c_api_Target y) = decide (x = y) := eq_of_eqs eqs_api_Target x y
theorem eqs_api_Event (x y : api_Event) (r s : List Tree) : eqTs (c_api_Event x ++ r) (c_api_Event y ++ s) = (decide (x = y) && eqTs r s) := by
  obtain ⟨x0, x1, x2, x3, x4, x5, x6, x7, x8, x9, x10, x11, x12⟩ := x
  obtain ⟨y0, y1, y2, y3, y4, y5, y6, y7, y8, y9, y10, y11, y12⟩ := y
  simp only [c_api_Event, List.append_assoc, (eqs_cA3 (eqs_cI .i64)), (eqs_cI .i64), eqs_cB, api_Event.mk.injEq, Bool.decide_and, Bool.and_assoc]
theorem eq_api_Event (x y : api_Event) : eqTs (c_api_Event x) (c_api_Event y) = decide (x = y) := eq_of_eqs eqs_api_Event x y
def ok_api_Object (x : api_Object) : Prop := (fun n => IntKind.min .i64 ≤ n ∧ n ≤ IntKind.max .i64) x.Id ∧ (fun n => IntKind.min .i64 ≤ n ∧ n ≤ IntKind.max .i64) x.Card ∧ (fun n => IntKind.min .i64 ≤ n ∧ n ≤ IntKind.max .i64) x.Owner ∧ (fun n => IntKind.min .i64 ≤ n ∧ n ≤ IntKind.max .i64) x.Control ∧ (fun n => IntKind.min .i64 ≤ n ∧ n ≤ IntKind.max .i64) x.Zone ∧ (fun _ => True) x.Token ∧ (fun _ => True) x.Tapped ∧ (fun _ => True) x.Sick ∧ (fun _ => True) x.Deadly ∧ (fun n => IntKind.min .i64 ≤ n ∧ n ≤ IntKind.max .i64) x.Damage ∧ (OkA3 (fun n => IntKind.min .i64 ≤ n ∧ n ≤ IntKind.max .i64)) x.Counters ∧ (fun n => IntKind.min .i64 ≤ n ∧ n ≤ IntKind.max .i64) x.Stamp ∧ (fun n => IntKind.min .i64 ≤ n ∧ n ≤ IntKind.max .i64) x.Copy ∧ (fun n => IntKind.min .i64 ≤ n ∧ n ≤ IntKind.max .i64) x.Attack ∧ (fun _ => True) x.Blocked ∧ (fun n => IntKind.min .i64 ≤ n ∧ n ≤ IntKind.max .i64) x.Blocks ∧ (fun n => IntKind.min .i64 ≤ n ∧ n ≤ IntKind.max .i64) x.Shield
def ok_api_Cost (x : api_Cost) : Prop := (fun n => IntKind.min .i64 ≤ n ∧ n ≤ IntKind.max .i64) x.Generic ∧ (fun n => IntKind.min .i64 ≤ n ∧ n ≤ IntKind.max .i64) x.X ∧ (OkA5 (fun n => IntKind.min .i64 ≤ n ∧ n ≤ IntKind.max .i64)) x.Color
def ok_api_Line (x : api_Line) : Prop := (fun n => IntKind.min .i64 ≤ n ∧ n ≤ IntKind.max .i64) x.Super ∧ (fun n => IntKind.min .i64 ≤ n ∧ n ≤ IntKind.max .i64) x.Types ∧ (OkL 16 (fun s => s.length ≤ reachBytes)) x.Subs
def ok_api_Bound (x : api_Bound) : Prop := (fun n => IntKind.min .i64 ≤ n ∧ n ≤ IntKind.max .i64) x.Kind ∧ (fun n => IntKind.min .i64 ≤ n ∧ n ≤ IntKind.max .i64) x.N
def ok_api_Filter (x : api_Filter) : Prop := (fun n => IntKind.min .i64 ≤ n ∧ n ≤ IntKind.max .i64) x.Zone ∧ (fun n => IntKind.min .i64 ≤ n ∧ n ≤ IntKind.max .i64) x.Who ∧ (fun n => IntKind.min .i64 ≤ n ∧ n ≤ IntKind.max .i64) x.Self ∧ (fun n => IntKind.min .i64 ≤ n ∧ n ≤ IntKind.max .i64) x.Types ∧ (fun n => IntKind.min .i64 ≤ n ∧ n ≤ IntKind.max .i64) x.NotTypes ∧ (fun n => IntKind.min .i64 ≤ n ∧ n ≤ IntKind.max .i64) x.Colors ∧ (fun n => IntKind.min .i64 ≤ n ∧ n ≤ IntKind.max .i64) x.NotColors ∧ (fun s => s.length ≤ reachBytes) x.Sub ∧ (fun n => IntKind.min .i64 ≤ n ∧ n ≤ IntKind.max .i64) x.Keys ∧ (fun n => IntKind.min .i64 ≤ n ∧ n ≤ IntKind.max .i64) x.Tap ∧ ok_api_Bound x.Power ∧ ok_api_Bound x.Tough ∧ ok_api_Bound x.Value
def ok_api_Mod (x : api_Mod) : Prop := (fun n => IntKind.min .i64 ≤ n ∧ n ≤ IntKind.max .i64) x.Kind ∧ (fun n => IntKind.min .i64 ≤ n ∧ n ≤ IntKind.max .i64) x.N ∧ (fun n => IntKind.min .i64 ≤ n ∧ n ≤ IntKind.max .i64) x.M ∧ (fun s => s.length ≤ reachBytes) x.Sub ∧ ok_api_Filter x.Filter
def ok_api_Price (x : api_Price) : Prop := ok_api_Cost x.Mana ∧ (fun _ => True) x.Tap ∧ (fun _ => True) x.Sacrifice ∧ (fun n => IntKind.min .i64 ≤ n ∧ n ≤ IntKind.max .i64) x.Life
def ok_api_Trigger (x : api_Trigger) : Prop := (fun n => IntKind.min .i64 ≤ n ∧ n ≤ IntKind.max .i64) x.When ∧ (fun n => IntKind.min .i64 ≤ n ∧ n ≤ IntKind.max .i64) x.Who ∧ ok_api_Filter x.Filter
def ok_api_Spec (x : api_Spec) : Prop := (fun _ => True) x.Player ∧ (fun _ => True) x.Object ∧ ok_api_Filter x.Filter
def ok_api_Ref (x : api_Ref) : Prop := (fun n => IntKind.min .i64 ≤ n ∧ n ≤ IntKind.max .i64) x.Kind ∧ (fun n => IntKind.min .i64 ≤ n ∧ n ≤ IntKind.max .i64) x.N ∧ ok_api_Filter x.Filter
def ok_api_Amount (x : api_Amount) : Prop := (fun n => IntKind.min .i64 ≤ n ∧ n ≤ IntKind.max .i64) x.Kind ∧ (fun n => IntKind.min .i64 ≤ n ∧ n ≤ IntKind.max .i64) x.N ∧ (fun n => IntKind.min .i64 ≤ n ∧ n ≤ IntKind.max .i64) x.Counter ∧ ok_api_Filter x.Filter
def ok_api_Effect (x : api_Effect) : Prop := (fun n => IntKind.min .i64 ≤ n ∧ n ≤ IntKind.max .i64) x.Op ∧ ok_api_Ref x.Ref ∧ ok_api_Amount x.Amount ∧ (fun n => IntKind.min .i64 ≤ n ∧ n ≤ IntKind.max .i64) x.Counter ∧ (fun n => IntKind.min .i64 ≤ n ∧ n ≤ IntKind.max .i64) x.Zone ∧ (fun s => s.length ≤ reachBytes) x.Card ∧ ok_api_Filter x.Filter ∧ (OkA6 (fun n => IntKind.min .i64 ≤ n ∧ n ≤ IntKind.max .i64)) x.Pool ∧ (OkL 176 ok_api_Mod) x.Mods
def ok_api_Replace (x : api_Replace) : Prop := (fun n => IntKind.min .i64 ≤ n ∧ n ≤ IntKind.max .i64) x.On ∧ (fun n => IntKind.min .i64 ≤ n ∧ n ≤ IntKind.max .i64) x.Who ∧ ok_api_Filter x.Filter ∧ (fun n => IntKind.min .i64 ≤ n ∧ n ≤ IntKind.max .i64) x.Do ∧ (fun n => IntKind.min .i64 ≤ n ∧ n ≤ IntKind.max .i64) x.N ∧ (fun n => IntKind.min .i64 ≤ n ∧ n ≤ IntKind.max .i64) x.Zone ∧ (fun n => IntKind.min .i64 ≤ n ∧ n ≤ IntKind.max .i64) x.Counter
def ok_api_Ability (x : api_Ability) : Prop := (fun n => IntKind.min .i64 ≤ n ∧ n ≤ IntKind.max .i64) x.Kind ∧ ok_api_Filter x.Filter ∧ (OkL 176 ok_api_Mod) x.Mods ∧ ok_api_Price x.Price ∧ (fun _ => True) x.Slow ∧ ok_api_Trigger x.Trigger ∧ (fun _ => True) x.May ∧ (OkL 144 ok_api_Spec) x.Specs ∧ (OkL 560 ok_api_Effect) x.Effects ∧ ok_api_Replace x.Replace
def ok_api_Traits (x : api_Traits) : Prop := (fun s => s.length ≤ reachBytes) x.Name ∧ ok_api_Cost x.Cost ∧ (fun n => IntKind.min .i64 ≤ n ∧ n ≤ IntKind.max .i64) x.Colors ∧ ok_api_Line x.Line ∧ (fun n => IntKind.min .i64 ≤ n ∧ n ≤ IntKind.max .i64) x.Power ∧ (fun n => IntKind.min .i64 ≤ n ∧ n ≤ IntKind.max .i64) x.Tough ∧ (fun n => IntKind.min .i64 ≤ n ∧ n ≤ IntKind.max .i64) x.Keys ∧ (OkL 640 ok_api_Ability) x.Abilities ∧ (fun n => IntKind.min .i64 ≤ n ∧ n ≤ IntKind.max .i64) x.Control
def ok_cardgamelaw29_Ask (x : cardgamelaw29_Ask) : Prop := ok_api_Object x.Object ∧ ok_api_Traits x.Traits ∧ (fun n => IntKind.min .i64 ≤ n ∧ n ≤ IntKind.max .i64) x.You ∧ (fun n => IntKind.min .i64 ≤ n ∧ n ≤ IntKind.max .i64) x.Source
def ok_api_Player (x : api_Player) : Prop := (fun n => IntKind.min .i64 ≤ n ∧ n ≤ IntKind.max .i64) x.Life ∧ (fun n => IntKind.min .i64 ≤ n ∧ n ≤ IntKind.max .i64) x.Venom ∧ (fun n => IntKind.min .i64 ≤ n ∧ n ≤ IntKind.max .i64) x.Lands ∧ (OkA6 (fun n => IntKind.min .i64 ≤ n ∧ n ≤ IntKind.max .i64)) x.Pool ∧ (fun _ => True) x.Failed ∧ (fun _ => True) x.Lost ∧ (OkL 8 (fun n => IntKind.min .i64 ≤ n ∧ n ≤ IntKind.max .i64)) x.Library ∧ (OkL 8 (fun n => IntKind.min .i64 ≤ n ∧ n ≤ IntKind.max .i64)) x.Hand ∧ (OkL 8 (fun n => IntKind.min .i64 ≤ n ∧ n ≤ IntKind.max .i64)) x.Graveyard
def ok_api_Target (x : api_Target) : Prop := (fun n => IntKind.min .i64 ≤ n ∧ n ≤ IntKind.max .i64) x.Object ∧ (fun n => IntKind.min .i64 ≤ n ∧ n ≤ IntKind.max .i64) x.Player
def ok_api_Event (x : api_Event) : Prop := (fun n => IntKind.min .i64 ≤ n ∧ n ≤ IntKind.max .i64) x.Kind ∧ (fun n => IntKind.min .i64 ≤ n ∧ n ≤ IntKind.max .i64) x.Source ∧ (fun n => IntKind.min .i64 ≤ n ∧ n ≤ IntKind.max .i64) x.Object ∧ (fun n => IntKind.min .i64 ≤ n ∧ n ≤ IntKind.max .i64) x.Player ∧ (fun n => IntKind.min .i64 ≤ n ∧ n ≤ IntKind.max .i64) x.Amount ∧ (fun n => IntKind.min .i64 ≤ n ∧ n ≤ IntKind.max .i64) x.From ∧ (fun n => IntKind.min .i64 ≤ n ∧ n ≤ IntKind.max .i64) x.To ∧ (fun n => IntKind.min .i64 ≤ n ∧ n ≤ IntKind.max .i64) x.Cause ∧ (fun n => IntKind.min .i64 ≤ n ∧ n ≤ IntKind.max .i64) x.Counter ∧ (fun n => IntKind.min .i64 ≤ n ∧ n ≤ IntKind.max .i64) x.Card ∧ (fun _ => True) x.Combat ∧ (fun _ => True) x.Tapped ∧ (OkA3 (fun n => IntKind.min .i64 ≤ n ∧ n ≤ IntKind.max .i64)) x.Extra
def ok_api_Item (x : api_Item) : Prop := (fun n => IntKind.min .i64 ≤ n ∧ n ≤ IntKind.max .i64) x.Id ∧ (fun n => IntKind.min .i64 ≤ n ∧ n ≤ IntKind.max .i64) x.Kind ∧ (fun n => IntKind.min .i64 ≤ n ∧ n ≤ IntKind.max .i64) x.Source ∧ (fun n => IntKind.min .i64 ≤ n ∧ n ≤ IntKind.max .i64) x.Control ∧ (fun n => IntKind.min .i64 ≤ n ∧ n ≤ IntKind.max .i64) x.X ∧ (fun _ => True) x.Copy ∧ ok_api_Ability x.Ability ∧ (OkL 16 ok_api_Target) x.Targets ∧ ok_api_Event x.Event
def ok_api_Waiting (x : api_Waiting) : Prop := (fun n => IntKind.min .i64 ≤ n ∧ n ≤ IntKind.max .i64) x.Source ∧ (fun n => IntKind.min .i64 ≤ n ∧ n ≤ IntKind.max .i64) x.Control ∧ ok_api_Ability x.Ability ∧ ok_api_Event x.Event
def ok_api_Cont (x : api_Cont) : Prop := (fun n => IntKind.min .i64 ≤ n ∧ n ≤ IntKind.max .i64) x.Stamp ∧ (fun n => IntKind.min .i64 ≤ n ∧ n ≤ IntKind.max .i64) x.Control ∧ (fun n => IntKind.min .i64 ≤ n ∧ n ≤ IntKind.max .i64) x.Source ∧ (fun n => IntKind.min .i64 ≤ n ∧ n ≤ IntKind.max .i64) x.Until ∧ (OkL 8 (fun n => IntKind.min .i64 ≤ n ∧ n ≤ IntKind.max .i64)) x.Objects ∧ (OkL 176 ok_api_Mod) x.Mods
def ok_api_State (x : api_State) : Prop := (OkL 152 ok_api_Player) x.Players ∧ (OkL 128 ok_api_Object) x.Objects ∧ (OkL 8 (fun n => IntKind.min .i64 ≤ n ∧ n ≤ IntKind.max .i64)) x.Battlefield ∧ (OkL 8 (fun n => IntKind.min .i64 ≤ n ∧ n ≤ IntKind.max .i64)) x.Exile ∧ (OkL 824 ok_api_Item) x.Stack ∧ (OkL 768 ok_api_Waiting) x.Waiting ∧ (OkL 80 ok_api_Cont) x.Conts ∧ (fun n => IntKind.min .i64 ≤ n ∧ n ≤ IntKind.max .i64) x.Turn ∧ (fun n => IntKind.min .i64 ≤ n ∧ n ≤ IntKind.max .i64) x.Active ∧ (fun n => IntKind.min .i64 ≤ n ∧ n ≤ IntKind.max .i64) x.Step ∧ (fun _ => True) x.Begun ∧ (fun n => IntKind.min .i64 ≤ n ∧ n ≤ IntKind.max .i64) x.Priority ∧ (fun n => IntKind.min .i64 ≤ n ∧ n ≤ IntKind.max .i64) x.Passes ∧ (fun n => IntKind.min .i64 ≤ n ∧ n ≤ IntKind.max .i64) x.NextId ∧ (fun n => IntKind.min .i64 ≤ n ∧ n ≤ IntKind.max .i64) x.NextStamp ∧ (fun n => IntKind.min .u64 ≤ n ∧ n ≤ IntKind.max .u64) x.Seed ∧ (OkL 8 (fun n => IntKind.min .i64 ≤ n ∧ n ≤ IntKind.max .i64)) x.Extra ∧ (fun n => IntKind.min .i64 ≤ n ∧ n ≤ IntKind.max .i64) x.Over ∧ (fun n => IntKind.min .i64 ≤ n ∧ n ≤ IntKind.max .i64) x.Winner
def ok_cardgamelaw29_Lists (x : cardgamelaw29_Lists) : Prop := ok_api_State x.S ∧ (OkL 176 ok_api_Traits) x.All ∧ ok_api_Filter x.F ∧ (fun n => IntKind.min .i64 ≤ n ∧ n ≤ IntKind.max .i64) x.You ∧ (fun n => IntKind.min .i64 ≤ n ∧ n ≤ IntKind.max .i64) x.Source
end Go.PW
