import Derived.Test.YtloamjgjcjandaaGreatPwS
import Derived.Test.YtloamjgjcjandaaGreatQD
set_option linter.all false
set_option maxRecDepth 100000
namespace Go.PW
open Go.RowKit
theorem Zald (x y : Zay) (r s : List Zg) : Zw (Zbo x ++ r) (Zbo y ++ s) = (decide (x = y) && Zw r s) := by
 obtain ⟨x0, x1, x2⟩ := x
 obtain ⟨y0, y1, y2⟩ := y
 simp only [Zbo, List.append_assoc, (Zask (Zhf .i64)), (Zhf .i64), Zay.mk.injEq, Bool.decide_and, Bool.and_assoc]
theorem Zag1 (x y : Zc) (r s : List Zg) : Zw (Zfu x ++ r) (Zfu y ++ s) = (decide (x = y) && Zw r s) := by
 obtain ⟨x0, x1⟩ := x
 obtain ⟨y0, y1⟩ := y
 simp only [Zfu, List.append_assoc, (Zhf .i64), Zc.mk.injEq, Bool.decide_and, Bool.and_assoc]
theorem Zg3 (x y : Zh) (r s : List Zg) : Zw (Zq x ++ r) (Zq y ++ s) = (decide (x = y) && Zw r s) := by
 obtain ⟨x0, x1, x2, x3, x4, x5, x6, x7, x8, x9, x10, x11, x12⟩ := x
 obtain ⟨y0, y1, y2, y3, y4, y5, y6, y7, y8, y9, y10, y11, y12⟩ := y
 simp only [Zq, List.append_assoc, (Zhf .i64), Zag1, Zaqh, Zh.mk.injEq, Bool.decide_and, Bool.and_assoc]
theorem Zn3 (x y : Zh) : Zw (Zq x) (Zq y) = decide (x = y) := Zga Zg3 x y
theorem Zand (x y : Zj) (r s : List Zg) : Zw (Zn x ++ r) (Zn y ++ s) = (decide (x = y) && Zw r s) := by
 obtain ⟨x0, x1, x2, x3, x4⟩ := x
 obtain ⟨y0, y1, y2, y3, y4⟩ := y
 simp only [Zn, List.append_assoc, (Zhf .i64), Zg3, Zaqh, Zj.mk.injEq, Bool.decide_and, Bool.and_assoc]
theorem Z1c (x y : Zj) : Zw (Zn x) (Zn y) = decide (x = y) := Zga Zand x y
theorem Zag2 (x y : Ze5) (r s : List Zg) : Zw (Zda x ++ r) (Zda y ++ s) = (decide (x = y) && Zw r s) := by
 obtain ⟨x0, x1, x2, x3⟩ := x
 obtain ⟨y0, y1, y2, y3⟩ := y
 simp only [Zda, List.append_assoc, (Zhf .i64), Zald, Zadb, Ze5.mk.injEq, Bool.decide_and, Bool.and_assoc]
theorem Z4v (x y : Ze5) : Zw (Zda x) (Zda y) = decide (x = y) := Zga Zag2 x y
theorem Zadc (x y : Zce) (r s : List Zg) : Zw (Zb8 x ++ r) (Zb8 y ++ s) = (decide (x = y) && Zw r s) := by
 obtain ⟨x0, x1, x2⟩ := x
 obtain ⟨y0, y1, y2⟩ := y
 simp only [Zb8, List.append_assoc, (Zhf .i64), Zg3, Zce.mk.injEq, Bool.decide_and, Bool.and_assoc]
theorem Zz4 (x y : Zce) : Zw (Zb8 x) (Zb8 y) = decide (x = y) := Zga Zadc x y
theorem Zale (x y : Zaz) (r s : List Zg) : Zw (Zx x ++ r) (Zx y ++ s) = (decide (x = y) && Zw r s) := by
 obtain ⟨x0, x1, x2⟩ := x
 obtain ⟨y0, y1, y2⟩ := y
 simp only [Zx, List.append_assoc, Zg3, Zadb, Zaz.mk.injEq, Bool.decide_and, Bool.and_assoc]
theorem Z8b (x y : Zaz) : Zw (Zx x) (Zx y) = decide (x = y) := Zga Zale x y
theorem Zane (x y : Zeq) (r s : List Zg) : Zw (Zcu x ++ r) (Zcu y ++ s) = (decide (x = y) && Zw r s) := by
 obtain ⟨x0, x1, x2⟩ := x
 obtain ⟨y0, y1, y2⟩ := y
 simp only [Zcu, List.append_assoc, (Zhf .i64), Zg3, Zeq.mk.injEq, Bool.decide_and, Bool.and_assoc]
theorem Zadd (x y : Zeq) : Zw (Zcu x) (Zcu y) = decide (x = y) := Zga Zane x y
theorem Zafa (x y : Zcf) (r s : List Zg) : Zw (Zbc x ++ r) (Zbc y ++ s) = (decide (x = y) && Zw r s) := by
 obtain ⟨x0, x1, x2, x3⟩ := x
 obtain ⟨y0, y1, y2, y3⟩ := y
 simp only [Zbc, List.append_assoc, (Zhf .i64), Zg3, Zcf.mk.injEq, Bool.decide_and, Bool.and_assoc]
theorem Z14 (x y : Zcf) : Zw (Zbc x) (Zbc y) = decide (x = y) := Zga Zafa x y
theorem Zade (x y : Za3) (r s : List Zg) : Zw (Zbu x ++ r) (Zbu y ++ s) = (decide (x = y) && Zw r s) := by
 obtain ⟨x0, x1, x2, x3, x4, x5, x6⟩ := x
 obtain ⟨y0, y1, y2, y3, y4, y5, y6⟩ := y
 simp only [Zbu, List.append_assoc, (Zhf .i64), Zg3, Za3.mk.injEq, Bool.decide_and, Bool.and_assoc]
theorem Zz5 (x y : Za3) : Zw (Zbu x) (Zbu y) = decide (x = y) := Zga Zade x y
theorem Zafb (x y : Zm) (r s : List Zg) : Zw (Zb x ++ r) (Zb y ++ s) = (decide (x = y) && Zw r s) := by
 obtain ⟨x0, x1, x2, x3, x4, x5, x6, x7, x8, x9, x10, x11, x12, x13, x14, x15, x16⟩ := x
 obtain ⟨y0, y1, y2, y3, y4, y5, y6, y7, y8, y9, y10, y11, y12, y13, y14, y15, y16⟩ := y
 simp only [Zb, List.append_assoc, (Zany (Zhf .i64)), (Zhf .i64), Zadb, Zm.mk.injEq, Bool.decide_and, Bool.and_assoc]
theorem Z15 (x y : Zm) : Zw (Zb x) (Zb y) = decide (x = y) := Zga Zafb x y
theorem Zafc (x y : Zbb) (r s : List Zg) : Zw (Z1 x ++ r) (Z1 y ++ s) = (decide (x = y) && Zw r s) := by
 obtain ⟨x0, x1⟩ := x
 obtain ⟨y0, y1⟩ := y
 simp only [Z1, List.append_assoc, (Zhf .i64), Zbb.mk.injEq, Bool.decide_and, Bool.and_assoc]
theorem Z16 (x y : Zbb) : Zw (Z1 x) (Z1 y) = decide (x = y) := Zga Zafc x y
theorem Zag3 (x y : Zld) (r s : List Zg) : Zw (Zcs x ++ r) (Zcs y ++ s) = (decide (x = y) && Zw r s) := by
 obtain ⟨x0, x1, x2, x3, x4, x5, x6, x7, x8, x9, x10, x11, x12⟩ := x
 obtain ⟨y0, y1, y2, y3, y4, y5, y6, y7, y8, y9, y10, y11, y12⟩ := y
 simp only [Zcs, List.append_assoc, (Zany (Zhf .i64)), (Zhf .i64), Zadb, Zld.mk.injEq, Bool.decide_and, Bool.and_assoc]
theorem Zpz (x y : Zld) : Zw (Zcs x) (Zcs y) = decide (x = y) := Zga Zag3 x y
theorem Zafd (x y : Z5) (r s : List Zg) : Zw (Zp x ++ r) (Zp y ++ s) = (decide (x = y) && Zw r s) := by
 obtain ⟨x0, x1, x2⟩ := x
 obtain ⟨y0, y1, y2⟩ := y
 simp only [Zp, List.append_assoc, (Zhf .i64), Z5.mk.injEq, Bool.decide_and, Bool.and_assoc]
theorem Z17 (x y : Z5) : Zw (Zp x) (Zp y) = decide (x = y) := Zga Zafd x y
def Zy0 (x : Zay) : Prop := (fun n => IntKind.min .i64 ≤ n ∧ n ≤ IntKind.max .i64) x.Generic ∧ (fun n => IntKind.min .i64 ≤ n ∧ n ≤ IntKind.max .i64) x.X ∧ (OkA5 (fun n => IntKind.min .i64 ≤ n ∧ n ≤ IntKind.max .i64)) x.Color
def Zy1 (x : Zg0) : Prop := (fun n => IntKind.min .i64 ≤ n ∧ n ≤ IntKind.max .i64) x.Super ∧ (fun n => IntKind.min .i64 ≤ n ∧ n ≤ IntKind.max .i64) x.Types ∧ (OkL 16 (fun s => s.length ≤ reachBytes)) x.Subs
def Zp0 (x : Zc) : Prop := (fun n => IntKind.min .i64 ≤ n ∧ n ≤ IntKind.max .i64) x.Kind ∧ (fun n => IntKind.min .i64 ≤ n ∧ n ≤ IntKind.max .i64) x.N
def Zfb (x : Zh) : Prop := (fun n => IntKind.min .i64 ≤ n ∧ n ≤ IntKind.max .i64) x.Zone ∧ (fun n => IntKind.min .i64 ≤ n ∧ n ≤ IntKind.max .i64) x.Who ∧ (fun n => IntKind.min .i64 ≤ n ∧ n ≤ IntKind.max .i64) x.Self ∧ (fun n => IntKind.min .i64 ≤ n ∧ n ≤ IntKind.max .i64) x.Types ∧ (fun n => IntKind.min .i64 ≤ n ∧ n ≤ IntKind.max .i64) x.NotTypes ∧ (fun n => IntKind.min .i64 ≤ n ∧ n ≤ IntKind.max .i64) x.Colors ∧ (fun n => IntKind.min .i64 ≤ n ∧ n ≤ IntKind.max .i64) x.NotColors ∧ (fun s => s.length ≤ reachBytes) x.Sub ∧ (fun n => IntKind.min .i64 ≤ n ∧ n ≤ IntKind.max .i64) x.Keys ∧ (fun n => IntKind.min .i64 ≤ n ∧ n ≤ IntKind.max .i64) x.Tap ∧ Zp0 x.Power ∧ Zp0 x.Tough ∧ Zp0 x.Value
def Zp1 (x : Zj) : Prop := (fun n => IntKind.min .i64 ≤ n ∧ n ≤ IntKind.max .i64) x.Kind ∧ (fun n => IntKind.min .i64 ≤ n ∧ n ≤ IntKind.max .i64) x.N ∧ (fun n => IntKind.min .i64 ≤ n ∧ n ≤ IntKind.max .i64) x.M ∧ (fun s => s.length ≤ reachBytes) x.Sub ∧ Zfb x.Filter
def Z4w (x : Ze5) : Prop := Zy0 x.Mana ∧ (fun _ => True) x.Tap ∧ (fun _ => True) x.Sacrifice ∧ (fun n => IntKind.min .i64 ≤ n ∧ n ≤ IntKind.max .i64) x.Life
def Zq3 (x : Zce) : Prop := (fun n => IntKind.min .i64 ≤ n ∧ n ≤ IntKind.max .i64) x.When ∧ (fun n => IntKind.min .i64 ≤ n ∧ n ≤ IntKind.max .i64) x.Who ∧ Zfb x.Filter
def Zy2 (x : Zaz) : Prop := (fun _ => True) x.Player ∧ (fun _ => True) x.Object ∧ Zfb x.Filter
def Z1d (x : Zeq) : Prop := (fun n => IntKind.min .i64 ≤ n ∧ n ≤ IntKind.max .i64) x.Kind ∧ (fun n => IntKind.min .i64 ≤ n ∧ n ≤ IntKind.max .i64) x.N ∧ Zfb x.Filter
def Zs7 (x : Zcf) : Prop := (fun n => IntKind.min .i64 ≤ n ∧ n ≤ IntKind.max .i64) x.Kind ∧ (fun n => IntKind.min .i64 ≤ n ∧ n ≤ IntKind.max .i64) x.N ∧ (fun n => IntKind.min .i64 ≤ n ∧ n ≤ IntKind.max .i64) x.Counter ∧ Zfb x.Filter
def Zs8 (x : Zl) : Prop := (fun n => IntKind.min .i64 ≤ n ∧ n ≤ IntKind.max .i64) x.Op ∧ Z1d x.Ref ∧ Zs7 x.Amount ∧ (fun n => IntKind.min .i64 ≤ n ∧ n ≤ IntKind.max .i64) x.Counter ∧ (fun n => IntKind.min .i64 ≤ n ∧ n ≤ IntKind.max .i64) x.Zone ∧ (fun s => s.length ≤ reachBytes) x.Card ∧ Zfb x.Filter ∧ (OkA6 (fun n => IntKind.min .i64 ≤ n ∧ n ≤ IntKind.max .i64)) x.Pool ∧ (OkL 176 Zp1) x.Mods
def Zq4 (x : Za3) : Prop := (fun n => IntKind.min .i64 ≤ n ∧ n ≤ IntKind.max .i64) x.On ∧ (fun n => IntKind.min .i64 ≤ n ∧ n ≤ IntKind.max .i64) x.Who ∧ Zfb x.Filter ∧ (fun n => IntKind.min .i64 ≤ n ∧ n ≤ IntKind.max .i64) x.Do ∧ (fun n => IntKind.min .i64 ≤ n ∧ n ≤ IntKind.max .i64) x.N ∧ (fun n => IntKind.min .i64 ≤ n ∧ n ≤ IntKind.max .i64) x.Zone ∧ (fun n => IntKind.min .i64 ≤ n ∧ n ≤ IntKind.max .i64) x.Counter
def Zi8 (x : Zk) : Prop := (fun n => IntKind.min .i64 ≤ n ∧ n ≤ IntKind.max .i64) x.Kind ∧ Zfb x.Filter ∧ (OkL 176 Zp1) x.Mods ∧ Z4w x.Price ∧ (fun _ => True) x.Slow ∧ Zq3 x.Trigger ∧ (fun _ => True) x.May ∧ (OkL 144 Zy2) x.Specs ∧ (OkL 560 Zs8) x.Effects ∧ Zq4 x.Replace
def Zy3 (x : Zt) : Prop := (fun s => s.length ≤ reachBytes) x.Name ∧ (fun _ => True) x.Token ∧ Zy0 x.Cost ∧ (fun n => IntKind.min .i64 ≤ n ∧ n ≤ IntKind.max .i64) x.Color ∧ Zy1 x.Line ∧ (fun n => IntKind.min .i64 ≤ n ∧ n ≤ IntKind.max .i64) x.Power ∧ (fun n => IntKind.min .i64 ≤ n ∧ n ≤ IntKind.max .i64) x.Tough ∧ (fun n => IntKind.min .i64 ≤ n ∧ n ≤ IntKind.max .i64) x.Keys ∧ (OkL 640 Zi8) x.Abilities
def Zs9 (x : Z0) : Prop := (fun n => IntKind.min .i64 ≤ n ∧ n ≤ IntKind.max .i64) x.Life ∧ (fun n => IntKind.min .i64 ≤ n ∧ n ≤ IntKind.max .i64) x.Venom ∧ (fun n => IntKind.min .i64 ≤ n ∧ n ≤ IntKind.max .i64) x.Lands ∧ (OkA6 (fun n => IntKind.min .i64 ≤ n ∧ n ≤ IntKind.max .i64)) x.Pool ∧ (fun _ => True) x.Failed ∧ (fun _ => True) x.Lost ∧ (OkL 8 (fun n => IntKind.min .i64 ≤ n ∧ n ≤ IntKind.max .i64)) x.Library ∧ (OkL 8 (fun n => IntKind.min .i64 ≤ n ∧ n ≤ IntKind.max .i64)) x.Hand ∧ (OkL 8 (fun n => IntKind.min .i64 ≤ n ∧ n ≤ IntKind.max .i64)) x.Graveyard
def Z18 (x : Zm) : Prop := (fun n => IntKind.min .i64 ≤ n ∧ n ≤ IntKind.max .i64) x.Id ∧ (fun n => IntKind.min .i64 ≤ n ∧ n ≤ IntKind.max .i64) x.Card ∧ (fun n => IntKind.min .i64 ≤ n ∧ n ≤ IntKind.max .i64) x.Owner ∧ (fun n => IntKind.min .i64 ≤ n ∧ n ≤ IntKind.max .i64) x.Control ∧ (fun n => IntKind.min .i64 ≤ n ∧ n ≤ IntKind.max .i64) x.Zone ∧ (fun _ => True) x.Token ∧ (fun _ => True) x.Tapped ∧ (fun _ => True) x.Sick ∧ (fun _ => True) x.Deadly ∧ (fun n => IntKind.min .i64 ≤ n ∧ n ≤ IntKind.max .i64) x.Damage ∧ (OkA3 (fun n => IntKind.min .i64 ≤ n ∧ n ≤ IntKind.max .i64)) x.Counters ∧ (fun n => IntKind.min .i64 ≤ n ∧ n ≤ IntKind.max .i64) x.Stamp ∧ (fun n => IntKind.min .i64 ≤ n ∧ n ≤ IntKind.max .i64) x.Copy ∧ (fun n => IntKind.min .i64 ≤ n ∧ n ≤ IntKind.max .i64) x.Attack ∧ (fun _ => True) x.Blocked ∧ (fun n => IntKind.min .i64 ≤ n ∧ n ≤ IntKind.max .i64) x.Blocks ∧ (fun n => IntKind.min .i64 ≤ n ∧ n ≤ IntKind.max .i64) x.Shield
def Z19 (x : Zbb) : Prop := (fun n => IntKind.min .i64 ≤ n ∧ n ≤ IntKind.max .i64) x.Object ∧ (fun n => IntKind.min .i64 ≤ n ∧ n ≤ IntKind.max .i64) x.Player
def Zwb (x : Zld) : Prop := (fun n => IntKind.min .i64 ≤ n ∧ n ≤ IntKind.max .i64) x.Kind ∧ (fun n => IntKind.min .i64 ≤ n ∧ n ≤ IntKind.max .i64) x.Source ∧ (fun n => IntKind.min .i64 ≤ n ∧ n ≤ IntKind.max .i64) x.Object ∧ (fun n => IntKind.min .i64 ≤ n ∧ n ≤ IntKind.max .i64) x.Player ∧ (fun n => IntKind.min .i64 ≤ n ∧ n ≤ IntKind.max .i64) x.Amount ∧ (fun n => IntKind.min .i64 ≤ n ∧ n ≤ IntKind.max .i64) x.From ∧ (fun n => IntKind.min .i64 ≤ n ∧ n ≤ IntKind.max .i64) x.To ∧ (fun n => IntKind.min .i64 ≤ n ∧ n ≤ IntKind.max .i64) x.Cause ∧ (fun n => IntKind.min .i64 ≤ n ∧ n ≤ IntKind.max .i64) x.Counter ∧ (fun n => IntKind.min .i64 ≤ n ∧ n ≤ IntKind.max .i64) x.Card ∧ (fun _ => True) x.Combat ∧ (fun _ => True) x.Tapped ∧ (OkA3 (fun n => IntKind.min .i64 ≤ n ∧ n ≤ IntKind.max .i64)) x.Extra
def Zy4 (x : Z6) : Prop := (fun n => IntKind.min .i64 ≤ n ∧ n ≤ IntKind.max .i64) x.Id ∧ (fun n => IntKind.min .i64 ≤ n ∧ n ≤ IntKind.max .i64) x.Kind ∧ (fun n => IntKind.min .i64 ≤ n ∧ n ≤ IntKind.max .i64) x.Source ∧ (fun n => IntKind.min .i64 ≤ n ∧ n ≤ IntKind.max .i64) x.Control ∧ (fun n => IntKind.min .i64 ≤ n ∧ n ≤ IntKind.max .i64) x.X ∧ (fun _ => True) x.Copy ∧ Zi8 x.Ability ∧ (OkL 16 Z19) x.Targets ∧ Zwb x.Event
def Zq5 (x : Zy) : Prop := (fun n => IntKind.min .i64 ≤ n ∧ n ≤ IntKind.max .i64) x.Source ∧ (fun n => IntKind.min .i64 ≤ n ∧ n ≤ IntKind.max .i64) x.Control ∧ Zi8 x.Ability ∧ Zwb x.Event
def Zy5 (x : Zab) : Prop := (fun n => IntKind.min .i64 ≤ n ∧ n ≤ IntKind.max .i64) x.Stamp ∧ (fun n => IntKind.min .i64 ≤ n ∧ n ≤ IntKind.max .i64) x.Control ∧ (fun n => IntKind.min .i64 ≤ n ∧ n ≤ IntKind.max .i64) x.Source ∧ (fun n => IntKind.min .i64 ≤ n ∧ n ≤ IntKind.max .i64) x.Until ∧ (OkL 8 (fun n => IntKind.min .i64 ≤ n ∧ n ≤ IntKind.max .i64)) x.Objects ∧ (OkL 176 Zp1) x.Mods
def Zp2 (x : Za) : Prop := (OkL 152 Zs9) x.Players ∧ (OkL 128 Z18) x.Objects ∧ (OkL 8 (fun n => IntKind.min .i64 ≤ n ∧ n ≤ IntKind.max .i64)) x.Battlefield ∧ (OkL 8 (fun n => IntKind.min .i64 ≤ n ∧ n ≤ IntKind.max .i64)) x.Exile ∧ (OkL 824 Zy4) x.Stack ∧ (OkL 768 Zq5) x.Waiting ∧ (OkL 80 Zy5) x.Conts ∧ (fun n => IntKind.min .i64 ≤ n ∧ n ≤ IntKind.max .i64) x.Turn ∧ (fun n => IntKind.min .i64 ≤ n ∧ n ≤ IntKind.max .i64) x.Active ∧ (fun n => IntKind.min .i64 ≤ n ∧ n ≤ IntKind.max .i64) x.Step ∧ (fun _ => True) x.Begun ∧ (fun n => IntKind.min .i64 ≤ n ∧ n ≤ IntKind.max .i64) x.Priority ∧ (fun n => IntKind.min .i64 ≤ n ∧ n ≤ IntKind.max .i64) x.Passes ∧ (fun n => IntKind.min .i64 ≤ n ∧ n ≤ IntKind.max .i64) x.NextId ∧ (fun n => IntKind.min .i64 ≤ n ∧ n ≤ IntKind.max .i64) x.NextStamp ∧ (fun n => IntKind.min .u64 ≤ n ∧ n ≤ IntKind.max .u64) x.Seed ∧ (OkL 8 (fun n => IntKind.min .i64 ≤ n ∧ n ≤ IntKind.max .i64)) x.Extra ∧ (fun n => IntKind.min .i64 ≤ n ∧ n ≤ IntKind.max .i64) x.Over ∧ (fun n => IntKind.min .i64 ≤ n ∧ n ≤ IntKind.max .i64) x.Winner
def Z2a (x : Z5) : Prop := (fun n => IntKind.min .i64 ≤ n ∧ n ≤ IntKind.max .i64) x.Kind ∧ (fun n => IntKind.min .i64 ≤ n ∧ n ≤ IntKind.max .i64) x.A ∧ (fun n => IntKind.min .i64 ≤ n ∧ n ≤ IntKind.max .i64) x.B
def Zta (x : Za0) : Prop := (fun n => IntKind.min .i64 ≤ n ∧ n ≤ IntKind.max .i64) x.Kind ∧ (fun n => IntKind.min .i64 ≤ n ∧ n ≤ IntKind.max .i64) x.Player ∧ (fun n => IntKind.min .i64 ≤ n ∧ n ≤ IntKind.max .i64) x.Source ∧ (fun n => IntKind.min .i64 ≤ n ∧ n ≤ IntKind.max .i64) x.Least ∧ (fun n => IntKind.min .i64 ≤ n ∧ n ≤ IntKind.max .i64) x.Most ∧ (fun n => IntKind.min .i64 ≤ n ∧ n ≤ IntKind.max .i64) x.N ∧ (OkL 24 Z2a) x.Options
def Z8c (x : Z8) : Prop := (OkL 176 Zy3) x.Cards ∧ Zp2 x.State ∧ (OkL 24 (OkL 8 (fun n => IntKind.min .i64 ≤ n ∧ n ≤ IntKind.max .i64))) x.Answers ∧ Zta x.Pending ∧ (fun n => IntKind.min .i64 ≤ n ∧ n ≤ IntKind.max .i64) x.Forced ∧ (OkL 280 Zp2) x.Seen
end Go.PW
