import Derived.Test.YtloamjgjcjandaaGreatPwS
import Derived.Test.YtloamjgjcjandaaGreatQD
set_option linter.all false
namespace Go.PW
open Go.RowKit
theorem Zbdm (x y : Zai) (r s : List Tree) : eqTs (Zd2 x ++ r) (Zd2 y ++ s) = (decide (x = y) && eqTs r s) := by
 obtain ⟨x0, x1, x2⟩ := x
 obtain ⟨y0, y1, y2⟩ := y
 simp only [Zd2, List.append_assoc, (Zbpo (Znn .i64)), (Znn .i64), Zai.mk.injEq, Bool.decide_and, Bool.and_assoc]
theorem Za8x (x y : Ze) (r s : List Tree) : eqTs (Zjd x ++ r) (Zjd y ++ s) = (decide (x = y) && eqTs r s) := by
 obtain ⟨x0, x1⟩ := x
 obtain ⟨y0, y1⟩ := y
 simp only [Zjd, List.append_assoc, (Znn .i64), Ze.mk.injEq, Bool.decide_and, Bool.and_assoc]
theorem Zmz (x y : Zi) (r s : List Tree) : eqTs (Zx x ++ r) (Zx y ++ s) = (decide (x = y) && eqTs r s) := by
 obtain ⟨x0, x1, x2, x3, x4, x5, x6, x7, x8, x9, x10, x11, x12⟩ := x
 obtain ⟨y0, y1, y2, y3, y4, y5, y6, y7, y8, y9, y10, y11, y12⟩ := y
 simp only [Zx, List.append_assoc, (Znn .i64), Za8x, Zbno, Zi.mk.injEq, Bool.decide_and, Bool.and_assoc]
theorem Zamr (x y : Zi) : eqTs (Zx x) (Zx y) = decide (x = y) := Zk0 Zmz x y
theorem Zbib (x y : Zh) (r s : List Tree) : eqTs (Zp x ++ r) (Zp y ++ s) = (decide (x = y) && eqTs r s) := by
 obtain ⟨x0, x1, x2, x3, x4⟩ := x
 obtain ⟨y0, y1, y2, y3, y4⟩ := y
 simp only [Zp, List.append_assoc, (Znn .i64), Zmz, Zbno, Zh.mk.injEq, Bool.decide_and, Bool.and_assoc]
theorem Zblq (x y : Zh) : eqTs (Zp x) (Zp y) = decide (x = y) := Zk0 Zbib x y
theorem Za8y (x y : Zii) (r s : List Tree) : eqTs (Ze2 x ++ r) (Ze2 y ++ s) = (decide (x = y) && eqTs r s) := by
 obtain ⟨x0, x1, x2, x3⟩ := x
 obtain ⟨y0, y1, y2, y3⟩ := y
 simp only [Ze2, List.append_assoc, (Znn .i64), Zbdm, Zaz0, Zii.mk.injEq, Bool.decide_and, Bool.and_assoc]
theorem Zbdn (x y : Zii) : eqTs (Ze2 x) (Ze2 y) = decide (x = y) := Zk0 Za8y x y
theorem Za0n (x y : Zdk) (r s : List Tree) : eqTs (Zc4 x ++ r) (Zc4 y ++ s) = (decide (x = y) && eqTs r s) := by
 obtain ⟨x0, x1, x2⟩ := x
 obtain ⟨y0, y1, y2⟩ := y
 simp only [Zc4, List.append_assoc, (Znn .i64), Zmz, Zdk.mk.injEq, Bool.decide_and, Bool.and_assoc]
theorem Za4v (x y : Zdk) : eqTs (Zc4 x) (Zc4 y) = decide (x = y) := Zk0 Za0n x y
theorem Zbdo (x y : Zaj) (r s : List Tree) : eqTs (Z3 x ++ r) (Z3 y ++ s) = (decide (x = y) && eqTs r s) := by
 obtain ⟨x0, x1, x2⟩ := x
 obtain ⟨y0, y1, y2⟩ := y
 simp only [Z3, List.append_assoc, Zmz, Zaz0, Zaj.mk.injEq, Bool.decide_and, Bool.and_assoc]
theorem Zbic (x y : Zaj) : eqTs (Z3 x) (Z3 y) = decide (x = y) := Zk0 Zbdo x y
theorem Zbid (x y : Zgp) (r s : List Tree) : eqTs (Zfk x ++ r) (Zfk y ++ s) = (decide (x = y) && eqTs r s) := by
 obtain ⟨x0, x1, x2⟩ := x
 obtain ⟨y0, y1, y2⟩ := y
 simp only [Zfk, List.append_assoc, (Znn .i64), Zmz, Zgp.mk.injEq, Bool.decide_and, Bool.and_assoc]
theorem Zblr (x y : Zgp) : eqTs (Zfk x) (Zfk y) = decide (x = y) := Zk0 Zbid x y
theorem Za4w (x y : Zd3) (r s : List Tree) : eqTs (Zb2 x ++ r) (Zb2 y ++ s) = (decide (x = y) && eqTs r s) := by
 obtain ⟨x0, x1, x2, x3⟩ := x
 obtain ⟨y0, y1, y2, y3⟩ := y
 simp only [Zb2, List.append_assoc, (Znn .i64), Zmz, Zd3.mk.injEq, Bool.decide_and, Bool.and_assoc]
theorem Za8z (x y : Zd3) : eqTs (Zb2 x) (Zb2 y) = decide (x = y) := Zk0 Za4w x y
theorem Za0o (x y : Za2) (r s : List Tree) : eqTs (Zbw x ++ r) (Zbw y ++ s) = (decide (x = y) && eqTs r s) := by
 obtain ⟨x0, x1, x2, x3, x4, x5, x6⟩ := x
 obtain ⟨y0, y1, y2, y3, y4, y5, y6⟩ := y
 simp only [Zbw, List.append_assoc, (Znn .i64), Zmz, Za2.mk.injEq, Bool.decide_and, Bool.and_assoc]
theorem Za4x (x y : Za2) : eqTs (Zbw x) (Zbw y) = decide (x = y) := Zk0 Za0o x y
theorem Za4y (x y : Zf) (r s : List Tree) : eqTs (Zc x ++ r) (Zc y ++ s) = (decide (x = y) && eqTs r s) := by
 obtain ⟨x0, x1, x2, x3, x4, x5, x6, x7, x8, x9, x10, x11, x12, x13, x14, x15, x16⟩ := x
 obtain ⟨y0, y1, y2, y3, y4, y5, y6, y7, y8, y9, y10, y11, y12, y13, y14, y15, y16⟩ := y
 simp only [Zc, List.append_assoc, (Zbky (Znn .i64)), (Znn .i64), Zaz0, Zf.mk.injEq, Bool.decide_and, Bool.and_assoc]
theorem Zams (x y : Zf) : eqTs (Zc x) (Zc y) = decide (x = y) := Zk0 Za4y x y
theorem Za4z (x y : Zaq) (r s : List Tree) : eqTs (Zae x ++ r) (Zae y ++ s) = (decide (x = y) && eqTs r s) := by
 obtain ⟨x0, x1⟩ := x
 obtain ⟨y0, y1⟩ := y
 simp only [Zae, List.append_assoc, (Znn .i64), Zaq.mk.injEq, Bool.decide_and, Bool.and_assoc]
theorem Za80 (x y : Zaq) : eqTs (Zae x) (Zae y) = decide (x = y) := Zk0 Za4z x y
theorem Za81 (x y : Zwi) (r s : List Tree) : eqTs (Zic x ++ r) (Zic y ++ s) = (decide (x = y) && eqTs r s) := by
 obtain ⟨x0, x1, x2, x3, x4, x5, x6, x7, x8, x9, x10, x11, x12⟩ := x
 obtain ⟨y0, y1, y2, y3, y4, y5, y6, y7, y8, y9, y10, y11, y12⟩ := y
 simp only [Zic, List.append_assoc, (Zbky (Znn .i64)), (Znn .i64), Zaz0, Zwi.mk.injEq, Bool.decide_and, Bool.and_assoc]
theorem Zapi (x y : Zwi) : eqTs (Zic x) (Zic y) = decide (x = y) := Zk0 Za81 x y
theorem Za40 (x y : Z5) (r s : List Tree) : eqTs (Zu x ++ r) (Zu y ++ s) = (decide (x = y) && eqTs r s) := by
 obtain ⟨x0, x1, x2⟩ := x
 obtain ⟨y0, y1, y2⟩ := y
 simp only [Zu, List.append_assoc, (Znn .i64), Z5.mk.injEq, Bool.decide_and, Bool.and_assoc]
theorem Za82 (x y : Z5) : eqTs (Zu x) (Zu y) = decide (x = y) := Zk0 Za40 x y
def Zag7 (x : Zai) : Prop := (fun n => IntKind.min .i64 ≤ n ∧ n ≤ IntKind.max .i64) x.Generic ∧ (fun n => IntKind.min .i64 ≤ n ∧ n ≤ IntKind.max .i64) x.X ∧ (OkA5 (fun n => IntKind.min .i64 ≤ n ∧ n ≤ IntKind.max .i64)) x.Color
def Zag8 (x : Zkt) : Prop := (fun n => IntKind.min .i64 ≤ n ∧ n ≤ IntKind.max .i64) x.Super ∧ (fun n => IntKind.min .i64 ≤ n ∧ n ≤ IntKind.max .i64) x.Types ∧ (OkL 16 (fun s => s.length ≤ reachBytes)) x.Subs
def Z27 (x : Ze) : Prop := (fun n => IntKind.min .i64 ≤ n ∧ n ≤ IntKind.max .i64) x.Kind ∧ (fun n => IntKind.min .i64 ≤ n ∧ n ≤ IntKind.max .i64) x.N
def Zje (x : Zi) : Prop := (fun n => IntKind.min .i64 ≤ n ∧ n ≤ IntKind.max .i64) x.Zone ∧ (fun n => IntKind.min .i64 ≤ n ∧ n ≤ IntKind.max .i64) x.Who ∧ (fun n => IntKind.min .i64 ≤ n ∧ n ≤ IntKind.max .i64) x.Self ∧ (fun n => IntKind.min .i64 ≤ n ∧ n ≤ IntKind.max .i64) x.Types ∧ (fun n => IntKind.min .i64 ≤ n ∧ n ≤ IntKind.max .i64) x.NotTypes ∧ (fun n => IntKind.min .i64 ≤ n ∧ n ≤ IntKind.max .i64) x.Colors ∧ (fun n => IntKind.min .i64 ≤ n ∧ n ≤ IntKind.max .i64) x.NotColors ∧ (fun s => s.length ≤ reachBytes) x.Sub ∧ (fun n => IntKind.min .i64 ≤ n ∧ n ≤ IntKind.max .i64) x.Keys ∧ (fun n => IntKind.min .i64 ≤ n ∧ n ≤ IntKind.max .i64) x.Tap ∧ Z27 x.Power ∧ Z27 x.Tough ∧ Z27 x.Value
def Z28 (x : Zh) : Prop := (fun n => IntKind.min .i64 ≤ n ∧ n ≤ IntKind.max .i64) x.Kind ∧ (fun n => IntKind.min .i64 ≤ n ∧ n ≤ IntKind.max .i64) x.N ∧ (fun n => IntKind.min .i64 ≤ n ∧ n ≤ IntKind.max .i64) x.M ∧ (fun s => s.length ≤ reachBytes) x.Sub ∧ Zje x.Filter
def Zapj (x : Zii) : Prop := Zag7 x.Mana ∧ (fun _ => True) x.Tap ∧ (fun _ => True) x.Sacrifice ∧ (fun n => IntKind.min .i64 ≤ n ∧ n ≤ IntKind.max .i64) x.Life
def Z5p (x : Zdk) : Prop := (fun n => IntKind.min .i64 ≤ n ∧ n ≤ IntKind.max .i64) x.When ∧ (fun n => IntKind.min .i64 ≤ n ∧ n ≤ IntKind.max .i64) x.Who ∧ Zje x.Filter
def Zag9 (x : Zaj) : Prop := (fun _ => True) x.Player ∧ (fun _ => True) x.Object ∧ Zje x.Filter
def Zak7 (x : Zgp) : Prop := (fun n => IntKind.min .i64 ≤ n ∧ n ≤ IntKind.max .i64) x.Kind ∧ (fun n => IntKind.min .i64 ≤ n ∧ n ≤ IntKind.max .i64) x.N ∧ Zje x.Filter
def Z8e (x : Zd3) : Prop := (fun n => IntKind.min .i64 ≤ n ∧ n ≤ IntKind.max .i64) x.Kind ∧ (fun n => IntKind.min .i64 ≤ n ∧ n ≤ IntKind.max .i64) x.N ∧ (fun n => IntKind.min .i64 ≤ n ∧ n ≤ IntKind.max .i64) x.Counter ∧ Zje x.Filter
def Z8f (x : Zk) : Prop := (fun n => IntKind.min .i64 ≤ n ∧ n ≤ IntKind.max .i64) x.Op ∧ Zak7 x.Ref ∧ Z8e x.Amount ∧ (fun n => IntKind.min .i64 ≤ n ∧ n ≤ IntKind.max .i64) x.Counter ∧ (fun n => IntKind.min .i64 ≤ n ∧ n ≤ IntKind.max .i64) x.Zone ∧ (fun s => s.length ≤ reachBytes) x.Card ∧ Zje x.Filter ∧ (OkA6 (fun n => IntKind.min .i64 ≤ n ∧ n ≤ IntKind.max .i64)) x.Pool ∧ (OkL 176 Z28) x.Mods
def Z5q (x : Za2) : Prop := (fun n => IntKind.min .i64 ≤ n ∧ n ≤ IntKind.max .i64) x.On ∧ (fun n => IntKind.min .i64 ≤ n ∧ n ≤ IntKind.max .i64) x.Who ∧ Zje x.Filter ∧ (fun n => IntKind.min .i64 ≤ n ∧ n ≤ IntKind.max .i64) x.Do ∧ (fun n => IntKind.min .i64 ≤ n ∧ n ≤ IntKind.max .i64) x.N ∧ (fun n => IntKind.min .i64 ≤ n ∧ n ≤ IntKind.max .i64) x.Zone ∧ (fun n => IntKind.min .i64 ≤ n ∧ n ≤ IntKind.max .i64) x.Counter
def Zr4 (x : Zs) : Prop := (fun n => IntKind.min .i64 ≤ n ∧ n ≤ IntKind.max .i64) x.Kind ∧ Zje x.Filter ∧ (OkL 176 Z28) x.Mods ∧ Zapj x.Price ∧ (fun _ => True) x.Slow ∧ Z5p x.Trigger ∧ (fun _ => True) x.May ∧ (OkL 144 Zag9) x.Specs ∧ (OkL 560 Z8f) x.Effects ∧ Z5q x.Replace
def Zaha (x : Zw) : Prop := (fun s => s.length ≤ reachBytes) x.Name ∧ (fun _ => True) x.Token ∧ Zag7 x.Cost ∧ (fun n => IntKind.min .i64 ≤ n ∧ n ≤ IntKind.max .i64) x.Color ∧ Zag8 x.Line ∧ (fun n => IntKind.min .i64 ≤ n ∧ n ≤ IntKind.max .i64) x.Power ∧ (fun n => IntKind.min .i64 ≤ n ∧ n ≤ IntKind.max .i64) x.Tough ∧ (fun n => IntKind.min .i64 ≤ n ∧ n ≤ IntKind.max .i64) x.Keys ∧ (OkL 640 Zr4) x.Abilities
def Z8g (x : Zaa) : Prop := (fun n => IntKind.min .i64 ≤ n ∧ n ≤ IntKind.max .i64) x.Life ∧ (fun n => IntKind.min .i64 ≤ n ∧ n ≤ IntKind.max .i64) x.Venom ∧ (fun n => IntKind.min .i64 ≤ n ∧ n ≤ IntKind.max .i64) x.Lands ∧ (OkA6 (fun n => IntKind.min .i64 ≤ n ∧ n ≤ IntKind.max .i64)) x.Pool ∧ (fun _ => True) x.Failed ∧ (fun _ => True) x.Lost ∧ (OkL 8 (fun n => IntKind.min .i64 ≤ n ∧ n ≤ IntKind.max .i64)) x.Library ∧ (OkL 8 (fun n => IntKind.min .i64 ≤ n ∧ n ≤ IntKind.max .i64)) x.Hand ∧ (OkL 8 (fun n => IntKind.min .i64 ≤ n ∧ n ≤ IntKind.max .i64)) x.Graveyard
def Zamt (x : Zf) : Prop := (fun n => IntKind.min .i64 ≤ n ∧ n ≤ IntKind.max .i64) x.Id ∧ (fun n => IntKind.min .i64 ≤ n ∧ n ≤ IntKind.max .i64) x.Card ∧ (fun n => IntKind.min .i64 ≤ n ∧ n ≤ IntKind.max .i64) x.Owner ∧ (fun n => IntKind.min .i64 ≤ n ∧ n ≤ IntKind.max .i64) x.Control ∧ (fun n => IntKind.min .i64 ≤ n ∧ n ≤ IntKind.max .i64) x.Zone ∧ (fun _ => True) x.Token ∧ (fun _ => True) x.Tapped ∧ (fun _ => True) x.Sick ∧ (fun _ => True) x.Deadly ∧ (fun n => IntKind.min .i64 ≤ n ∧ n ≤ IntKind.max .i64) x.Damage ∧ (OkA3 (fun n => IntKind.min .i64 ≤ n ∧ n ≤ IntKind.max .i64)) x.Counters ∧ (fun n => IntKind.min .i64 ≤ n ∧ n ≤ IntKind.max .i64) x.Stamp ∧ (fun n => IntKind.min .i64 ≤ n ∧ n ≤ IntKind.max .i64) x.Copy ∧ (fun n => IntKind.min .i64 ≤ n ∧ n ≤ IntKind.max .i64) x.Attack ∧ (fun _ => True) x.Blocked ∧ (fun n => IntKind.min .i64 ≤ n ∧ n ≤ IntKind.max .i64) x.Blocks ∧ (fun n => IntKind.min .i64 ≤ n ∧ n ≤ IntKind.max .i64) x.Shield
def Zamu (x : Zaq) : Prop := (fun n => IntKind.min .i64 ≤ n ∧ n ≤ IntKind.max .i64) x.Object ∧ (fun n => IntKind.min .i64 ≤ n ∧ n ≤ IntKind.max .i64) x.Player
def Zabz (x : Zwi) : Prop := (fun n => IntKind.min .i64 ≤ n ∧ n ≤ IntKind.max .i64) x.Kind ∧ (fun n => IntKind.min .i64 ≤ n ∧ n ≤ IntKind.max .i64) x.Source ∧ (fun n => IntKind.min .i64 ≤ n ∧ n ≤ IntKind.max .i64) x.Object ∧ (fun n => IntKind.min .i64 ≤ n ∧ n ≤ IntKind.max .i64) x.Player ∧ (fun n => IntKind.min .i64 ≤ n ∧ n ≤ IntKind.max .i64) x.Amount ∧ (fun n => IntKind.min .i64 ≤ n ∧ n ≤ IntKind.max .i64) x.From ∧ (fun n => IntKind.min .i64 ≤ n ∧ n ≤ IntKind.max .i64) x.To ∧ (fun n => IntKind.min .i64 ≤ n ∧ n ≤ IntKind.max .i64) x.Cause ∧ (fun n => IntKind.min .i64 ≤ n ∧ n ≤ IntKind.max .i64) x.Counter ∧ (fun n => IntKind.min .i64 ≤ n ∧ n ≤ IntKind.max .i64) x.Card ∧ (fun _ => True) x.Combat ∧ (fun _ => True) x.Tapped ∧ (OkA3 (fun n => IntKind.min .i64 ≤ n ∧ n ≤ IntKind.max .i64)) x.Extra
def Zahb (x : Zao) : Prop := (fun n => IntKind.min .i64 ≤ n ∧ n ≤ IntKind.max .i64) x.Id ∧ (fun n => IntKind.min .i64 ≤ n ∧ n ≤ IntKind.max .i64) x.Kind ∧ (fun n => IntKind.min .i64 ≤ n ∧ n ≤ IntKind.max .i64) x.Source ∧ (fun n => IntKind.min .i64 ≤ n ∧ n ≤ IntKind.max .i64) x.Control ∧ (fun n => IntKind.min .i64 ≤ n ∧ n ≤ IntKind.max .i64) x.X ∧ (fun _ => True) x.Copy ∧ Zr4 x.Ability ∧ (OkL 16 Zamu) x.Targets ∧ Zabz x.Event
def Z5r (x : Z7) : Prop := (fun n => IntKind.min .i64 ≤ n ∧ n ≤ IntKind.max .i64) x.Source ∧ (fun n => IntKind.min .i64 ≤ n ∧ n ≤ IntKind.max .i64) x.Control ∧ Zr4 x.Ability ∧ Zabz x.Event
def Zahc (x : Zar) : Prop := (fun n => IntKind.min .i64 ≤ n ∧ n ≤ IntKind.max .i64) x.Stamp ∧ (fun n => IntKind.min .i64 ≤ n ∧ n ≤ IntKind.max .i64) x.Control ∧ (fun n => IntKind.min .i64 ≤ n ∧ n ≤ IntKind.max .i64) x.Source ∧ (fun n => IntKind.min .i64 ≤ n ∧ n ≤ IntKind.max .i64) x.Until ∧ (OkL 8 (fun n => IntKind.min .i64 ≤ n ∧ n ≤ IntKind.max .i64)) x.Objects ∧ (OkL 176 Z28) x.Mods
def Z29 (x : Zd) : Prop := (OkL 152 Z8g) x.Players ∧ (OkL 128 Zamt) x.Objects ∧ (OkL 8 (fun n => IntKind.min .i64 ≤ n ∧ n ≤ IntKind.max .i64)) x.Battlefield ∧ (OkL 8 (fun n => IntKind.min .i64 ≤ n ∧ n ≤ IntKind.max .i64)) x.Exile ∧ (OkL 824 Zahb) x.Stack ∧ (OkL 768 Z5r) x.Waiting ∧ (OkL 80 Zahc) x.Conts ∧ (fun n => IntKind.min .i64 ≤ n ∧ n ≤ IntKind.max .i64) x.Turn ∧ (fun n => IntKind.min .i64 ≤ n ∧ n ≤ IntKind.max .i64) x.Active ∧ (fun n => IntKind.min .i64 ≤ n ∧ n ≤ IntKind.max .i64) x.Step ∧ (fun _ => True) x.Begun ∧ (fun n => IntKind.min .i64 ≤ n ∧ n ≤ IntKind.max .i64) x.Priority ∧ (fun n => IntKind.min .i64 ≤ n ∧ n ≤ IntKind.max .i64) x.Passes ∧ (fun n => IntKind.min .i64 ≤ n ∧ n ≤ IntKind.max .i64) x.NextId ∧ (fun n => IntKind.min .i64 ≤ n ∧ n ≤ IntKind.max .i64) x.NextStamp ∧ (fun n => IntKind.min .u64 ≤ n ∧ n ≤ IntKind.max .u64) x.Seed ∧ (OkL 8 (fun n => IntKind.min .i64 ≤ n ∧ n ≤ IntKind.max .i64)) x.Extra ∧ (fun n => IntKind.min .i64 ≤ n ∧ n ≤ IntKind.max .i64) x.Over ∧ (fun n => IntKind.min .i64 ≤ n ∧ n ≤ IntKind.max .i64) x.Winner
def Zamv (x : Z5) : Prop := (fun n => IntKind.min .i64 ≤ n ∧ n ≤ IntKind.max .i64) x.Kind ∧ (fun n => IntKind.min .i64 ≤ n ∧ n ≤ IntKind.max .i64) x.A ∧ (fun n => IntKind.min .i64 ≤ n ∧ n ≤ IntKind.max .i64) x.B
def Z8h (x : Zdf) : Prop := (fun n => IntKind.min .i64 ≤ n ∧ n ≤ IntKind.max .i64) x.Kind ∧ (fun n => IntKind.min .i64 ≤ n ∧ n ≤ IntKind.max .i64) x.Player ∧ (fun n => IntKind.min .i64 ≤ n ∧ n ≤ IntKind.max .i64) x.Source ∧ (fun n => IntKind.min .i64 ≤ n ∧ n ≤ IntKind.max .i64) x.Least ∧ (fun n => IntKind.min .i64 ≤ n ∧ n ≤ IntKind.max .i64) x.Most ∧ (fun n => IntKind.min .i64 ≤ n ∧ n ≤ IntKind.max .i64) x.N ∧ (OkL 24 Zamv) x.Options
def Zauv (x : Zab) : Prop := (OkL 176 Zaha) x.Cards ∧ Z29 x.State ∧ (OkL 24 (OkL 8 (fun n => IntKind.min .i64 ≤ n ∧ n ≤ IntKind.max .i64))) x.Answers ∧ Z8h x.Pending ∧ (fun n => IntKind.min .i64 ≤ n ∧ n ≤ IntKind.max .i64) x.Forced ∧ (OkL 280 Z29) x.Seen
end Go.PW
