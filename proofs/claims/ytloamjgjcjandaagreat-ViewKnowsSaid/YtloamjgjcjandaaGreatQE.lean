import Derived.Test.YtloamjgjcjandaaGreatPwS
import Derived.Test.YtloamjgjcjandaaGreatQD
set_option linter.all false
namespace Go.PW
open Go.RowKit
theorem Zbc8 (x y : Zah) (r s : List Tree) : eqTs (Zd2 x ++ r) (Zd2 y ++ s) = (decide (x = y) && eqTs r s) := by
 obtain ⟨x0, x1, x2⟩ := x
 obtain ⟨y0, y1, y2⟩ := y
 simp only [Zd2, List.append_assoc, (Zbo8 (Zni .i64)), (Zni .i64), Zah.mk.injEq, Bool.decide_and, Bool.and_assoc]
theorem Za8i (x y : Ze) (r s : List Tree) : eqTs (Zjd x ++ r) (Zjd y ++ s) = (decide (x = y) && eqTs r s) := by
 obtain ⟨x0, x1⟩ := x
 obtain ⟨y0, y1⟩ := y
 simp only [Zjd, List.append_assoc, (Zni .i64), Ze.mk.injEq, Bool.decide_and, Bool.and_assoc]
theorem Zmw (x y : Zi) (r s : List Tree) : eqTs (Zv x ++ r) (Zv y ++ s) = (decide (x = y) && eqTs r s) := by
 obtain ⟨x0, x1, x2, x3, x4, x5, x6, x7, x8, x9, x10, x11, x12⟩ := x
 obtain ⟨y0, y1, y2, y3, y4, y5, y6, y7, y8, y9, y10, y11, y12⟩ := y
 simp only [Zv, List.append_assoc, (Zni .i64), Za8i, Zbm6, Zi.mk.injEq, Bool.decide_and, Bool.and_assoc]
theorem Zame (x y : Zi) : eqTs (Zv x) (Zv y) = decide (x = y) := Zky Zmw x y
theorem Zbht (x y : Zg) (r s : List Tree) : eqTs (Zp x ++ r) (Zp y ++ s) = (decide (x = y) && eqTs r s) := by
 obtain ⟨x0, x1, x2, x3, x4⟩ := x
 obtain ⟨y0, y1, y2, y3, y4⟩ := y
 simp only [Zp, List.append_assoc, (Zni .i64), Zmw, Zbm6, Zg.mk.injEq, Bool.decide_and, Bool.and_assoc]
theorem Zbk8 (x y : Zg) : eqTs (Zp x) (Zp y) = decide (x = y) := Zky Zbht x y
theorem Za8j (x y : Zih) (r s : List Tree) : eqTs (Ze2 x ++ r) (Ze2 y ++ s) = (decide (x = y) && eqTs r s) := by
 obtain ⟨x0, x1, x2, x3⟩ := x
 obtain ⟨y0, y1, y2, y3⟩ := y
 simp only [Ze2, List.append_assoc, (Zni .i64), Zbc8, Zazo, Zih.mk.injEq, Bool.decide_and, Bool.and_assoc]
theorem Zbc9 (x y : Zih) : eqTs (Ze2 x) (Ze2 y) = decide (x = y) := Zky Za8j x y
theorem Za0a (x y : Zdj) (r s : List Tree) : eqTs (Zc2 x ++ r) (Zc2 y ++ s) = (decide (x = y) && eqTs r s) := by
 obtain ⟨x0, x1, x2⟩ := x
 obtain ⟨y0, y1, y2⟩ := y
 simp only [Zc2, List.append_assoc, (Zni .i64), Zmw, Zdj.mk.injEq, Bool.decide_and, Bool.and_assoc]
theorem Za4j (x y : Zdj) : eqTs (Zc2 x) (Zc2 y) = decide (x = y) := Zky Za0a x y
theorem Zbda (x y : Zai) (r s : List Tree) : eqTs (Z3 x ++ r) (Z3 y ++ s) = (decide (x = y) && eqTs r s) := by
 obtain ⟨x0, x1, x2⟩ := x
 obtain ⟨y0, y1, y2⟩ := y
 simp only [Z3, List.append_assoc, Zmw, Zazo, Zai.mk.injEq, Bool.decide_and, Bool.and_assoc]
theorem Zbhu (x y : Zai) : eqTs (Z3 x) (Z3 y) = decide (x = y) := Zky Zbda x y
theorem Zbhv (x y : Zgo) (r s : List Tree) : eqTs (Zfj x ++ r) (Zfj y ++ s) = (decide (x = y) && eqTs r s) := by
 obtain ⟨x0, x1, x2⟩ := x
 obtain ⟨y0, y1, y2⟩ := y
 simp only [Zfj, List.append_assoc, (Zni .i64), Zmw, Zgo.mk.injEq, Bool.decide_and, Bool.and_assoc]
theorem Zbk9 (x y : Zgo) : eqTs (Zfj x) (Zfj y) = decide (x = y) := Zky Zbhv x y
theorem Za4k (x y : Zd3) (r s : List Tree) : eqTs (Zb2 x ++ r) (Zb2 y ++ s) = (decide (x = y) && eqTs r s) := by
 obtain ⟨x0, x1, x2, x3⟩ := x
 obtain ⟨y0, y1, y2, y3⟩ := y
 simp only [Zb2, List.append_assoc, (Zni .i64), Zmw, Zd3.mk.injEq, Bool.decide_and, Bool.and_assoc]
theorem Za8k (x y : Zd3) : eqTs (Zb2 x) (Zb2 y) = decide (x = y) := Zky Za4k x y
theorem Za0b (x y : Za1) (r s : List Tree) : eqTs (Zbw x ++ r) (Zbw y ++ s) = (decide (x = y) && eqTs r s) := by
 obtain ⟨x0, x1, x2, x3, x4, x5, x6⟩ := x
 obtain ⟨y0, y1, y2, y3, y4, y5, y6⟩ := y
 simp only [Zbw, List.append_assoc, (Zni .i64), Zmw, Za1.mk.injEq, Bool.decide_and, Bool.and_assoc]
theorem Za4l (x y : Za1) : eqTs (Zbw x) (Zbw y) = decide (x = y) := Zky Za0b x y
theorem Za4m (x y : Zf) (r s : List Tree) : eqTs (Zd x ++ r) (Zd y ++ s) = (decide (x = y) && eqTs r s) := by
 obtain ⟨x0, x1, x2, x3, x4, x5, x6, x7, x8, x9, x10, x11, x12, x13, x14, x15, x16⟩ := x
 obtain ⟨y0, y1, y2, y3, y4, y5, y6, y7, y8, y9, y10, y11, y12, y13, y14, y15, y16⟩ := y
 simp only [Zd, List.append_assoc, (Zbkg (Zni .i64)), (Zni .i64), Zazo, Zf.mk.injEq, Bool.decide_and, Bool.and_assoc]
theorem Za8l (x y : Zf) : eqTs (Zd x) (Zd y) = decide (x = y) := Zky Za4m x y
theorem Za4n (x y : Zar) (r s : List Tree) : eqTs (Zad x ++ r) (Zad y ++ s) = (decide (x = y) && eqTs r s) := by
 obtain ⟨x0, x1⟩ := x
 obtain ⟨y0, y1⟩ := y
 simp only [Zad, List.append_assoc, (Zni .i64), Zar.mk.injEq, Bool.decide_and, Bool.and_assoc]
theorem Za8m (x y : Zar) : eqTs (Zad x) (Zad y) = decide (x = y) := Zky Za4n x y
theorem Za8n (x y : Zwc) (r s : List Tree) : eqTs (Zib x ++ r) (Zib y ++ s) = (decide (x = y) && eqTs r s) := by
 obtain ⟨x0, x1, x2, x3, x4, x5, x6, x7, x8, x9, x10, x11, x12⟩ := x
 obtain ⟨y0, y1, y2, y3, y4, y5, y6, y7, y8, y9, y10, y11, y12⟩ := y
 simp only [Zib, List.append_assoc, (Zbkg (Zni .i64)), (Zni .i64), Zazo, Zwc.mk.injEq, Bool.decide_and, Bool.and_assoc]
theorem Zao2 (x y : Zwc) : eqTs (Zib x) (Zib y) = decide (x = y) := Zky Za8n x y
theorem Za4o (x y : Z5) (r s : List Tree) : eqTs (Z1 x ++ r) (Z1 y ++ s) = (decide (x = y) && eqTs r s) := by
 obtain ⟨x0, x1, x2⟩ := x
 obtain ⟨y0, y1, y2⟩ := y
 simp only [Z1, List.append_assoc, (Zni .i64), Z5.mk.injEq, Bool.decide_and, Bool.and_assoc]
theorem Za8o (x y : Z5) : eqTs (Z1 x) (Z1 y) = decide (x = y) := Zky Za4o x y
def Zagy (x : Zah) : Prop := (fun n => IntKind.min .i64 ≤ n ∧ n ≤ IntKind.max .i64) x.Generic ∧ (fun n => IntKind.min .i64 ≤ n ∧ n ≤ IntKind.max .i64) x.X ∧ (OkA5 (fun n => IntKind.min .i64 ≤ n ∧ n ≤ IntKind.max .i64)) x.Color
def Zagz (x : Zkr) : Prop := (fun n => IntKind.min .i64 ≤ n ∧ n ≤ IntKind.max .i64) x.Super ∧ (fun n => IntKind.min .i64 ≤ n ∧ n ≤ IntKind.max .i64) x.Types ∧ (OkL 16 (fun s => s.length ≤ reachBytes)) x.Subs
def Z2w (x : Ze) : Prop := (fun n => IntKind.min .i64 ≤ n ∧ n ≤ IntKind.max .i64) x.Kind ∧ (fun n => IntKind.min .i64 ≤ n ∧ n ≤ IntKind.max .i64) x.N
def Zje (x : Zi) : Prop := (fun n => IntKind.min .i64 ≤ n ∧ n ≤ IntKind.max .i64) x.Zone ∧ (fun n => IntKind.min .i64 ≤ n ∧ n ≤ IntKind.max .i64) x.Who ∧ (fun n => IntKind.min .i64 ≤ n ∧ n ≤ IntKind.max .i64) x.Self ∧ (fun n => IntKind.min .i64 ≤ n ∧ n ≤ IntKind.max .i64) x.Types ∧ (fun n => IntKind.min .i64 ≤ n ∧ n ≤ IntKind.max .i64) x.NotTypes ∧ (fun n => IntKind.min .i64 ≤ n ∧ n ≤ IntKind.max .i64) x.Colors ∧ (fun n => IntKind.min .i64 ≤ n ∧ n ≤ IntKind.max .i64) x.NotColors ∧ (fun s => s.length ≤ reachBytes) x.Sub ∧ (fun n => IntKind.min .i64 ≤ n ∧ n ≤ IntKind.max .i64) x.Keys ∧ (fun n => IntKind.min .i64 ≤ n ∧ n ≤ IntKind.max .i64) x.Tap ∧ Z2w x.Power ∧ Z2w x.Tough ∧ Z2w x.Value
def Z2x (x : Zg) : Prop := (fun n => IntKind.min .i64 ≤ n ∧ n ≤ IntKind.max .i64) x.Kind ∧ (fun n => IntKind.min .i64 ≤ n ∧ n ≤ IntKind.max .i64) x.N ∧ (fun n => IntKind.min .i64 ≤ n ∧ n ≤ IntKind.max .i64) x.M ∧ (fun s => s.length ≤ reachBytes) x.Sub ∧ Zje x.Filter
def Zao3 (x : Zih) : Prop := Zagy x.Mana ∧ (fun _ => True) x.Tap ∧ (fun _ => True) x.Sacrifice ∧ (fun n => IntKind.min .i64 ≤ n ∧ n ≤ IntKind.max .i64) x.Life
def Z5d (x : Zdj) : Prop := (fun n => IntKind.min .i64 ≤ n ∧ n ≤ IntKind.max .i64) x.When ∧ (fun n => IntKind.min .i64 ≤ n ∧ n ≤ IntKind.max .i64) x.Who ∧ Zje x.Filter
def Zag0 (x : Zai) : Prop := (fun _ => True) x.Player ∧ (fun _ => True) x.Object ∧ Zje x.Filter
def Zaky (x : Zgo) : Prop := (fun n => IntKind.min .i64 ≤ n ∧ n ≤ IntKind.max .i64) x.Kind ∧ (fun n => IntKind.min .i64 ≤ n ∧ n ≤ IntKind.max .i64) x.N ∧ Zje x.Filter
def Z75 (x : Zd3) : Prop := (fun n => IntKind.min .i64 ≤ n ∧ n ≤ IntKind.max .i64) x.Kind ∧ (fun n => IntKind.min .i64 ≤ n ∧ n ≤ IntKind.max .i64) x.N ∧ (fun n => IntKind.min .i64 ≤ n ∧ n ≤ IntKind.max .i64) x.Counter ∧ Zje x.Filter
def Z76 (x : Zj) : Prop := (fun n => IntKind.min .i64 ≤ n ∧ n ≤ IntKind.max .i64) x.Op ∧ Zaky x.Ref ∧ Z75 x.Amount ∧ (fun n => IntKind.min .i64 ≤ n ∧ n ≤ IntKind.max .i64) x.Counter ∧ (fun n => IntKind.min .i64 ≤ n ∧ n ≤ IntKind.max .i64) x.Zone ∧ (fun s => s.length ≤ reachBytes) x.Card ∧ Zje x.Filter ∧ (OkA6 (fun n => IntKind.min .i64 ≤ n ∧ n ≤ IntKind.max .i64)) x.Pool ∧ (OkL 176 Z2x) x.Mods
def Z5e (x : Za1) : Prop := (fun n => IntKind.min .i64 ≤ n ∧ n ≤ IntKind.max .i64) x.On ∧ (fun n => IntKind.min .i64 ≤ n ∧ n ≤ IntKind.max .i64) x.Who ∧ Zje x.Filter ∧ (fun n => IntKind.min .i64 ≤ n ∧ n ≤ IntKind.max .i64) x.Do ∧ (fun n => IntKind.min .i64 ≤ n ∧ n ≤ IntKind.max .i64) x.N ∧ (fun n => IntKind.min .i64 ≤ n ∧ n ≤ IntKind.max .i64) x.Zone ∧ (fun n => IntKind.min .i64 ≤ n ∧ n ≤ IntKind.max .i64) x.Counter
def Zr1 (x : Zq) : Prop := (fun n => IntKind.min .i64 ≤ n ∧ n ≤ IntKind.max .i64) x.Kind ∧ Zje x.Filter ∧ (OkL 176 Z2x) x.Mods ∧ Zao3 x.Price ∧ (fun _ => True) x.Slow ∧ Z5d x.Trigger ∧ (fun _ => True) x.May ∧ (OkL 144 Zag0) x.Specs ∧ (OkL 560 Z76) x.Effects ∧ Z5e x.Replace
def Zag1 (x : Zu) : Prop := (fun s => s.length ≤ reachBytes) x.Name ∧ (fun _ => True) x.Token ∧ Zagy x.Cost ∧ (fun n => IntKind.min .i64 ≤ n ∧ n ≤ IntKind.max .i64) x.Color ∧ Zagz x.Line ∧ (fun n => IntKind.min .i64 ≤ n ∧ n ≤ IntKind.max .i64) x.Power ∧ (fun n => IntKind.min .i64 ≤ n ∧ n ≤ IntKind.max .i64) x.Tough ∧ (fun n => IntKind.min .i64 ≤ n ∧ n ≤ IntKind.max .i64) x.Keys ∧ (OkL 640 Zr1) x.Abilities
def Z77 (x : Zaa) : Prop := (fun n => IntKind.min .i64 ≤ n ∧ n ≤ IntKind.max .i64) x.Life ∧ (fun n => IntKind.min .i64 ≤ n ∧ n ≤ IntKind.max .i64) x.Venom ∧ (fun n => IntKind.min .i64 ≤ n ∧ n ≤ IntKind.max .i64) x.Lands ∧ (OkA6 (fun n => IntKind.min .i64 ≤ n ∧ n ≤ IntKind.max .i64)) x.Pool ∧ (fun _ => True) x.Failed ∧ (fun _ => True) x.Lost ∧ (OkL 8 (fun n => IntKind.min .i64 ≤ n ∧ n ≤ IntKind.max .i64)) x.Library ∧ (OkL 8 (fun n => IntKind.min .i64 ≤ n ∧ n ≤ IntKind.max .i64)) x.Hand ∧ (OkL 8 (fun n => IntKind.min .i64 ≤ n ∧ n ≤ IntKind.max .i64)) x.Graveyard
def Zamf (x : Zf) : Prop := (fun n => IntKind.min .i64 ≤ n ∧ n ≤ IntKind.max .i64) x.Id ∧ (fun n => IntKind.min .i64 ≤ n ∧ n ≤ IntKind.max .i64) x.Card ∧ (fun n => IntKind.min .i64 ≤ n ∧ n ≤ IntKind.max .i64) x.Owner ∧ (fun n => IntKind.min .i64 ≤ n ∧ n ≤ IntKind.max .i64) x.Control ∧ (fun n => IntKind.min .i64 ≤ n ∧ n ≤ IntKind.max .i64) x.Zone ∧ (fun _ => True) x.Token ∧ (fun _ => True) x.Tapped ∧ (fun _ => True) x.Sick ∧ (fun _ => True) x.Deadly ∧ (fun n => IntKind.min .i64 ≤ n ∧ n ≤ IntKind.max .i64) x.Damage ∧ (OkA3 (fun n => IntKind.min .i64 ≤ n ∧ n ≤ IntKind.max .i64)) x.Counters ∧ (fun n => IntKind.min .i64 ≤ n ∧ n ≤ IntKind.max .i64) x.Stamp ∧ (fun n => IntKind.min .i64 ≤ n ∧ n ≤ IntKind.max .i64) x.Copy ∧ (fun n => IntKind.min .i64 ≤ n ∧ n ≤ IntKind.max .i64) x.Attack ∧ (fun _ => True) x.Blocked ∧ (fun n => IntKind.min .i64 ≤ n ∧ n ≤ IntKind.max .i64) x.Blocks ∧ (fun n => IntKind.min .i64 ≤ n ∧ n ≤ IntKind.max .i64) x.Shield
def Zamg (x : Zar) : Prop := (fun n => IntKind.min .i64 ≤ n ∧ n ≤ IntKind.max .i64) x.Object ∧ (fun n => IntKind.min .i64 ≤ n ∧ n ≤ IntKind.max .i64) x.Player
def Zabs (x : Zwc) : Prop := (fun n => IntKind.min .i64 ≤ n ∧ n ≤ IntKind.max .i64) x.Kind ∧ (fun n => IntKind.min .i64 ≤ n ∧ n ≤ IntKind.max .i64) x.Source ∧ (fun n => IntKind.min .i64 ≤ n ∧ n ≤ IntKind.max .i64) x.Object ∧ (fun n => IntKind.min .i64 ≤ n ∧ n ≤ IntKind.max .i64) x.Player ∧ (fun n => IntKind.min .i64 ≤ n ∧ n ≤ IntKind.max .i64) x.Amount ∧ (fun n => IntKind.min .i64 ≤ n ∧ n ≤ IntKind.max .i64) x.From ∧ (fun n => IntKind.min .i64 ≤ n ∧ n ≤ IntKind.max .i64) x.To ∧ (fun n => IntKind.min .i64 ≤ n ∧ n ≤ IntKind.max .i64) x.Cause ∧ (fun n => IntKind.min .i64 ≤ n ∧ n ≤ IntKind.max .i64) x.Counter ∧ (fun n => IntKind.min .i64 ≤ n ∧ n ≤ IntKind.max .i64) x.Card ∧ (fun _ => True) x.Combat ∧ (fun _ => True) x.Tapped ∧ (OkA3 (fun n => IntKind.min .i64 ≤ n ∧ n ≤ IntKind.max .i64)) x.Extra
def Zag2 (x : Zag) : Prop := (fun n => IntKind.min .i64 ≤ n ∧ n ≤ IntKind.max .i64) x.Id ∧ (fun n => IntKind.min .i64 ≤ n ∧ n ≤ IntKind.max .i64) x.Kind ∧ (fun n => IntKind.min .i64 ≤ n ∧ n ≤ IntKind.max .i64) x.Source ∧ (fun n => IntKind.min .i64 ≤ n ∧ n ≤ IntKind.max .i64) x.Control ∧ (fun n => IntKind.min .i64 ≤ n ∧ n ≤ IntKind.max .i64) x.X ∧ (fun _ => True) x.Copy ∧ Zr1 x.Ability ∧ (OkL 16 Zamg) x.Targets ∧ Zabs x.Event
def Z5f (x : Z7) : Prop := (fun n => IntKind.min .i64 ≤ n ∧ n ≤ IntKind.max .i64) x.Source ∧ (fun n => IntKind.min .i64 ≤ n ∧ n ≤ IntKind.max .i64) x.Control ∧ Zr1 x.Ability ∧ Zabs x.Event
def Zag3 (x : Zao) : Prop := (fun n => IntKind.min .i64 ≤ n ∧ n ≤ IntKind.max .i64) x.Stamp ∧ (fun n => IntKind.min .i64 ≤ n ∧ n ≤ IntKind.max .i64) x.Control ∧ (fun n => IntKind.min .i64 ≤ n ∧ n ≤ IntKind.max .i64) x.Source ∧ (fun n => IntKind.min .i64 ≤ n ∧ n ≤ IntKind.max .i64) x.Until ∧ (OkL 8 (fun n => IntKind.min .i64 ≤ n ∧ n ≤ IntKind.max .i64)) x.Objects ∧ (OkL 176 Z2x) x.Mods
def Z2y (x : Zc) : Prop := (OkL 152 Z77) x.Players ∧ (OkL 128 Zamf) x.Objects ∧ (OkL 8 (fun n => IntKind.min .i64 ≤ n ∧ n ≤ IntKind.max .i64)) x.Battlefield ∧ (OkL 8 (fun n => IntKind.min .i64 ≤ n ∧ n ≤ IntKind.max .i64)) x.Exile ∧ (OkL 824 Zag2) x.Stack ∧ (OkL 768 Z5f) x.Waiting ∧ (OkL 80 Zag3) x.Conts ∧ (fun n => IntKind.min .i64 ≤ n ∧ n ≤ IntKind.max .i64) x.Turn ∧ (fun n => IntKind.min .i64 ≤ n ∧ n ≤ IntKind.max .i64) x.Active ∧ (fun n => IntKind.min .i64 ≤ n ∧ n ≤ IntKind.max .i64) x.Step ∧ (fun _ => True) x.Begun ∧ (fun n => IntKind.min .i64 ≤ n ∧ n ≤ IntKind.max .i64) x.Priority ∧ (fun n => IntKind.min .i64 ≤ n ∧ n ≤ IntKind.max .i64) x.Passes ∧ (fun n => IntKind.min .i64 ≤ n ∧ n ≤ IntKind.max .i64) x.NextId ∧ (fun n => IntKind.min .i64 ≤ n ∧ n ≤ IntKind.max .i64) x.NextStamp ∧ (fun n => IntKind.min .u64 ≤ n ∧ n ≤ IntKind.max .u64) x.Seed ∧ (OkL 8 (fun n => IntKind.min .i64 ≤ n ∧ n ≤ IntKind.max .i64)) x.Extra ∧ (fun n => IntKind.min .i64 ≤ n ∧ n ≤ IntKind.max .i64) x.Over ∧ (fun n => IntKind.min .i64 ≤ n ∧ n ≤ IntKind.max .i64) x.Winner
def Zamh (x : Z5) : Prop := (fun n => IntKind.min .i64 ≤ n ∧ n ≤ IntKind.max .i64) x.Kind ∧ (fun n => IntKind.min .i64 ≤ n ∧ n ≤ IntKind.max .i64) x.A ∧ (fun n => IntKind.min .i64 ≤ n ∧ n ≤ IntKind.max .i64) x.B
def Z78 (x : Zdd) : Prop := (fun n => IntKind.min .i64 ≤ n ∧ n ≤ IntKind.max .i64) x.Kind ∧ (fun n => IntKind.min .i64 ≤ n ∧ n ≤ IntKind.max .i64) x.Player ∧ (fun n => IntKind.min .i64 ≤ n ∧ n ≤ IntKind.max .i64) x.Source ∧ (fun n => IntKind.min .i64 ≤ n ∧ n ≤ IntKind.max .i64) x.Least ∧ (fun n => IntKind.min .i64 ≤ n ∧ n ≤ IntKind.max .i64) x.Most ∧ (fun n => IntKind.min .i64 ≤ n ∧ n ≤ IntKind.max .i64) x.N ∧ (OkL 24 Zamh) x.Options
def Zaug (x : Zan) : Prop := (OkL 176 Zag1) x.Cards ∧ Z2y x.State ∧ (OkL 24 (OkL 8 (fun n => IntKind.min .i64 ≤ n ∧ n ≤ IntKind.max .i64))) x.Answers ∧ Z78 x.Pending ∧ (fun n => IntKind.min .i64 ≤ n ∧ n ≤ IntKind.max .i64) x.Forced ∧ (OkL 280 Z2y) x.Seen
end Go.PW
