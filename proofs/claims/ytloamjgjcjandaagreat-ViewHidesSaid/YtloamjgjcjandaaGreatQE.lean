import Derived.Test.YtloamjgjcjandaaGreatPwS
import Derived.Test.YtloamjgjcjandaaGreatQD
set_option linter.all false
set_option maxRecDepth 100000
namespace Go.PW
open Go.RowKit
theorem Zal3 (x y : Zay) (r s : List Zg) : Zx (Zbp x ++ r) (Zbp y ++ s) = (decide (x = y) && Zx r s) := by
 obtain ⟨x0, x1, x2⟩ := x
 obtain ⟨y0, y1, y2⟩ := y
 simp only [Zbp, List.append_assoc, (Zatl (Zhm .i64)), (Zhm .i64), Zay.mk.injEq, Bool.decide_and, Bool.and_assoc]
theorem Zahf (x y : Zc) (r s : List Zg) : Zx (Zfu x ++ r) (Zfu y ++ s) = (decide (x = y) && Zx r s) := by
 obtain ⟨x0, x1⟩ := x
 obtain ⟨y0, y1⟩ := y
 simp only [Zfu, List.append_assoc, (Zhm .i64), Zc.mk.injEq, Bool.decide_and, Bool.and_assoc]
theorem Zg8 (x y : Zi) (r s : List Zg) : Zx (Zp x ++ r) (Zp y ++ s) = (decide (x = y) && Zx r s) := by
 obtain ⟨x0, x1, x2, x3, x4, x5, x6, x7, x8, x9, x10, x11, x12⟩ := x
 obtain ⟨y0, y1, y2, y3, y4, y5, y6, y7, y8, y9, y10, y11, y12⟩ := y
 simp only [Zp, List.append_assoc, (Zhm .i64), Zahf, Zaq7, Zi.mk.injEq, Bool.decide_and, Bool.and_assoc]
theorem Zoq (x y : Zi) : Zx (Zp x) (Zp y) = decide (x = y) := Zga Zg8 x y
theorem Zany (x y : Zj) (r s : List Zg) : Zx (Zn x ++ r) (Zn y ++ s) = (decide (x = y) && Zx r s) := by
 obtain ⟨x0, x1, x2, x3, x4⟩ := x
 obtain ⟨y0, y1, y2, y3, y4⟩ := y
 simp only [Zn, List.append_assoc, (Zhm .i64), Zg8, Zaq7, Zj.mk.injEq, Bool.decide_and, Bool.and_assoc]
theorem Z2a (x y : Zj) : Zx (Zn x) (Zn y) = decide (x = y) := Zga Zany x y
theorem Zahg (x y : Ze5) (r s : List Zg) : Zx (Zdb x ++ r) (Zdb y ++ s) = (decide (x = y) && Zx r s) := by
 obtain ⟨x0, x1, x2, x3⟩ := x
 obtain ⟨y0, y1, y2, y3⟩ := y
 simp only [Zdb, List.append_assoc, (Zhm .i64), Zal3, Zadu, Ze5.mk.injEq, Bool.decide_and, Bool.and_assoc]
theorem Z5j (x y : Ze5) : Zx (Zdb x) (Zdb y) = decide (x = y) := Zga Zahg x y
theorem Zadv (x y : Zce) (r s : List Zg) : Zx (Zb8 x ++ r) (Zb8 y ++ s) = (decide (x = y) && Zx r s) := by
 obtain ⟨x0, x1, x2⟩ := x
 obtain ⟨y0, y1, y2⟩ := y
 simp only [Zb8, List.append_assoc, (Zhm .i64), Zg8, Zce.mk.injEq, Bool.decide_and, Bool.and_assoc]
theorem Z01 (x y : Zce) : Zx (Zb8 x) (Zb8 y) = decide (x = y) := Zga Zadv x y
theorem Zal4 (x y : Zaz) (r s : List Zg) : Zx (Zy x ++ r) (Zy y ++ s) = (decide (x = y) && Zx r s) := by
 obtain ⟨x0, x1, x2⟩ := x
 obtain ⟨y0, y1, y2⟩ := y
 simp only [Zy, List.append_assoc, Zg8, Zadu, Zaz.mk.injEq, Bool.decide_and, Bool.and_assoc]
theorem Z8u (x y : Zaz) : Zx (Zy x) (Zy y) = decide (x = y) := Zga Zal4 x y
theorem Zanz (x y : Zeq) (r s : List Zg) : Zx (Zct x ++ r) (Zct y ++ s) = (decide (x = y) && Zx r s) := by
 obtain ⟨x0, x1, x2⟩ := x
 obtain ⟨y0, y1, y2⟩ := y
 simp only [Zct, List.append_assoc, (Zhm .i64), Zg8, Zeq.mk.injEq, Bool.decide_and, Bool.and_assoc]
theorem Zadw (x y : Zeq) : Zx (Zct x) (Zct y) = decide (x = y) := Zga Zanz x y
theorem Zafs (x y : Zcf) (r s : List Zg) : Zx (Zbe x ++ r) (Zbe y ++ s) = (decide (x = y) && Zx r s) := by
 obtain ⟨x0, x1, x2, x3⟩ := x
 obtain ⟨y0, y1, y2, y3⟩ := y
 simp only [Zbe, List.append_assoc, (Zhm .i64), Zg8, Zcf.mk.injEq, Bool.decide_and, Bool.and_assoc]
theorem Z2x (x y : Zcf) : Zx (Zbe x) (Zbe y) = decide (x = y) := Zga Zafs x y
theorem Zadx (x y : Za2) (r s : List Zg) : Zx (Zbu x ++ r) (Zbu y ++ s) = (decide (x = y) && Zx r s) := by
 obtain ⟨x0, x1, x2, x3, x4, x5, x6⟩ := x
 obtain ⟨y0, y1, y2, y3, y4, y5, y6⟩ := y
 simp only [Zbu, List.append_assoc, (Zhm .i64), Zg8, Za2.mk.injEq, Bool.decide_and, Bool.and_assoc]
theorem Z02 (x y : Za2) : Zx (Zbu x) (Zbu y) = decide (x = y) := Zga Zadx x y
theorem Zaft (x y : Zh) (r s : List Zg) : Zx (Zb x ++ r) (Zb y ++ s) = (decide (x = y) && Zx r s) := by
 obtain ⟨x0, x1, x2, x3, x4, x5, x6, x7, x8, x9, x10, x11, x12, x13, x14, x15, x16⟩ := x
 obtain ⟨y0, y1, y2, y3, y4, y5, y6, y7, y8, y9, y10, y11, y12, y13, y14, y15, y16⟩ := y
 simp only [Zb, List.append_assoc, (Zaoi (Zhm .i64)), (Zhm .i64), Zadu, Zh.mk.injEq, Bool.decide_and, Bool.and_assoc]
theorem Z2y (x y : Zh) : Zx (Zb x) (Zb y) = decide (x = y) := Zga Zaft x y
theorem Zafu (x y : Zbd) (r s : List Zg) : Zx (Z1 x ++ r) (Z1 y ++ s) = (decide (x = y) && Zx r s) := by
 obtain ⟨x0, x1⟩ := x
 obtain ⟨y0, y1⟩ := y
 simp only [Z1, List.append_assoc, (Zhm .i64), Zbd.mk.injEq, Bool.decide_and, Bool.and_assoc]
theorem Z2z (x y : Zbd) : Zx (Z1 x) (Z1 y) = decide (x = y) := Zga Zafu x y
theorem Zahh (x y : Zlt) (r s : List Zg) : Zx (Zcr x ++ r) (Zcr y ++ s) = (decide (x = y) && Zx r s) := by
 obtain ⟨x0, x1, x2, x3, x4, x5, x6, x7, x8, x9, x10, x11, x12⟩ := x
 obtain ⟨y0, y1, y2, y3, y4, y5, y6, y7, y8, y9, y10, y11, y12⟩ := y
 simp only [Zcr, List.append_assoc, (Zaoi (Zhm .i64)), (Zhm .i64), Zadu, Zlt.mk.injEq, Bool.decide_and, Bool.and_assoc]
theorem Zqo (x y : Zlt) : Zx (Zcr x) (Zcr y) = decide (x = y) := Zga Zahh x y
theorem Zafv (x y : Z7) (r s : List Zg) : Zx (Zq x ++ r) (Zq y ++ s) = (decide (x = y) && Zx r s) := by
 obtain ⟨x0, x1, x2⟩ := x
 obtain ⟨y0, y1, y2⟩ := y
 simp only [Zq, List.append_assoc, (Zhm .i64), Z7.mk.injEq, Bool.decide_and, Bool.and_assoc]
theorem Z20 (x y : Z7) : Zx (Zq x) (Zq y) = decide (x = y) := Zga Zafv x y
def Zzy (x : Zay) : Prop := (fun n => IntKind.min .i64 ≤ n ∧ n ≤ IntKind.max .i64) x.Generic ∧ (fun n => IntKind.min .i64 ≤ n ∧ n ≤ IntKind.max .i64) x.X ∧ (OkA5 (fun n => IntKind.min .i64 ≤ n ∧ n ≤ IntKind.max .i64)) x.Color
def Zzz (x : Zg4) : Prop := (fun n => IntKind.min .i64 ≤ n ∧ n ≤ IntKind.max .i64) x.Super ∧ (fun n => IntKind.min .i64 ≤ n ∧ n ≤ IntKind.max .i64) x.Types ∧ (OkL 16 (fun s => s.length ≤ reachBytes)) x.Subs
def Zqp (x : Zc) : Prop := (fun n => IntKind.min .i64 ≤ n ∧ n ≤ IntKind.max .i64) x.Kind ∧ (fun n => IntKind.min .i64 ≤ n ∧ n ≤ IntKind.max .i64) x.N
def Zfb (x : Zi) : Prop := (fun n => IntKind.min .i64 ≤ n ∧ n ≤ IntKind.max .i64) x.Zone ∧ (fun n => IntKind.min .i64 ≤ n ∧ n ≤ IntKind.max .i64) x.Who ∧ (fun n => IntKind.min .i64 ≤ n ∧ n ≤ IntKind.max .i64) x.Self ∧ (fun n => IntKind.min .i64 ≤ n ∧ n ≤ IntKind.max .i64) x.Types ∧ (fun n => IntKind.min .i64 ≤ n ∧ n ≤ IntKind.max .i64) x.NotTypes ∧ (fun n => IntKind.min .i64 ≤ n ∧ n ≤ IntKind.max .i64) x.Colors ∧ (fun n => IntKind.min .i64 ≤ n ∧ n ≤ IntKind.max .i64) x.NotColors ∧ (fun s => s.length ≤ reachBytes) x.Sub ∧ (fun n => IntKind.min .i64 ≤ n ∧ n ≤ IntKind.max .i64) x.Keys ∧ (fun n => IntKind.min .i64 ≤ n ∧ n ≤ IntKind.max .i64) x.Tap ∧ Zqp x.Power ∧ Zqp x.Tough ∧ Zqp x.Value
def Zqq (x : Zj) : Prop := (fun n => IntKind.min .i64 ≤ n ∧ n ≤ IntKind.max .i64) x.Kind ∧ (fun n => IntKind.min .i64 ≤ n ∧ n ≤ IntKind.max .i64) x.N ∧ (fun n => IntKind.min .i64 ≤ n ∧ n ≤ IntKind.max .i64) x.M ∧ (fun s => s.length ≤ reachBytes) x.Sub ∧ Zfb x.Filter
def Z5k (x : Ze5) : Prop := Zzy x.Mana ∧ (fun _ => True) x.Tap ∧ (fun _ => True) x.Sacrifice ∧ (fun n => IntKind.min .i64 ≤ n ∧ n ≤ IntKind.max .i64) x.Life
def Zrq (x : Zce) : Prop := (fun n => IntKind.min .i64 ≤ n ∧ n ≤ IntKind.max .i64) x.When ∧ (fun n => IntKind.min .i64 ≤ n ∧ n ≤ IntKind.max .i64) x.Who ∧ Zfb x.Filter
def Zz0 (x : Zaz) : Prop := (fun _ => True) x.Player ∧ (fun _ => True) x.Object ∧ Zfb x.Filter
def Z2b (x : Zeq) : Prop := (fun n => IntKind.min .i64 ≤ n ∧ n ≤ IntKind.max .i64) x.Kind ∧ (fun n => IntKind.min .i64 ≤ n ∧ n ≤ IntKind.max .i64) x.N ∧ Zfb x.Filter
def Zt0 (x : Zcf) : Prop := (fun n => IntKind.min .i64 ≤ n ∧ n ≤ IntKind.max .i64) x.Kind ∧ (fun n => IntKind.min .i64 ≤ n ∧ n ≤ IntKind.max .i64) x.N ∧ (fun n => IntKind.min .i64 ≤ n ∧ n ≤ IntKind.max .i64) x.Counter ∧ Zfb x.Filter
def Zt1 (x : Zm) : Prop := (fun n => IntKind.min .i64 ≤ n ∧ n ≤ IntKind.max .i64) x.Op ∧ Z2b x.Ref ∧ Zt0 x.Amount ∧ (fun n => IntKind.min .i64 ≤ n ∧ n ≤ IntKind.max .i64) x.Counter ∧ (fun n => IntKind.min .i64 ≤ n ∧ n ≤ IntKind.max .i64) x.Zone ∧ (fun s => s.length ≤ reachBytes) x.Card ∧ Zfb x.Filter ∧ (OkA6 (fun n => IntKind.min .i64 ≤ n ∧ n ≤ IntKind.max .i64)) x.Pool ∧ (OkL 176 Zqq) x.Mods
def Zrr (x : Za2) : Prop := (fun n => IntKind.min .i64 ≤ n ∧ n ≤ IntKind.max .i64) x.On ∧ (fun n => IntKind.min .i64 ≤ n ∧ n ≤ IntKind.max .i64) x.Who ∧ Zfb x.Filter ∧ (fun n => IntKind.min .i64 ≤ n ∧ n ≤ IntKind.max .i64) x.Do ∧ (fun n => IntKind.min .i64 ≤ n ∧ n ≤ IntKind.max .i64) x.N ∧ (fun n => IntKind.min .i64 ≤ n ∧ n ≤ IntKind.max .i64) x.Zone ∧ (fun n => IntKind.min .i64 ≤ n ∧ n ≤ IntKind.max .i64) x.Counter
def Zji (x : Zl) : Prop := (fun n => IntKind.min .i64 ≤ n ∧ n ≤ IntKind.max .i64) x.Kind ∧ Zfb x.Filter ∧ (OkL 176 Zqq) x.Mods ∧ Z5k x.Price ∧ (fun _ => True) x.Slow ∧ Zrq x.Trigger ∧ (fun _ => True) x.May ∧ (OkL 144 Zz0) x.Specs ∧ (OkL 560 Zt1) x.Effects ∧ Zrr x.Replace
def Zz1 (x : Zs) : Prop := (fun s => s.length ≤ reachBytes) x.Name ∧ (fun _ => True) x.Token ∧ Zzy x.Cost ∧ (fun n => IntKind.min .i64 ≤ n ∧ n ≤ IntKind.max .i64) x.Color ∧ Zzz x.Line ∧ (fun n => IntKind.min .i64 ≤ n ∧ n ≤ IntKind.max .i64) x.Power ∧ (fun n => IntKind.min .i64 ≤ n ∧ n ≤ IntKind.max .i64) x.Tough ∧ (fun n => IntKind.min .i64 ≤ n ∧ n ≤ IntKind.max .i64) x.Keys ∧ (OkL 640 Zji) x.Abilities
def Zt2 (x : Zv) : Prop := (fun n => IntKind.min .i64 ≤ n ∧ n ≤ IntKind.max .i64) x.Life ∧ (fun n => IntKind.min .i64 ≤ n ∧ n ≤ IntKind.max .i64) x.Venom ∧ (fun n => IntKind.min .i64 ≤ n ∧ n ≤ IntKind.max .i64) x.Lands ∧ (OkA6 (fun n => IntKind.min .i64 ≤ n ∧ n ≤ IntKind.max .i64)) x.Pool ∧ (fun _ => True) x.Failed ∧ (fun _ => True) x.Lost ∧ (OkL 8 (fun n => IntKind.min .i64 ≤ n ∧ n ≤ IntKind.max .i64)) x.Library ∧ (OkL 8 (fun n => IntKind.min .i64 ≤ n ∧ n ≤ IntKind.max .i64)) x.Hand ∧ (OkL 8 (fun n => IntKind.min .i64 ≤ n ∧ n ≤ IntKind.max .i64)) x.Graveyard
def Z21 (x : Zh) : Prop := (fun n => IntKind.min .i64 ≤ n ∧ n ≤ IntKind.max .i64) x.Id ∧ (fun n => IntKind.min .i64 ≤ n ∧ n ≤ IntKind.max .i64) x.Card ∧ (fun n => IntKind.min .i64 ≤ n ∧ n ≤ IntKind.max .i64) x.Owner ∧ (fun n => IntKind.min .i64 ≤ n ∧ n ≤ IntKind.max .i64) x.Control ∧ (fun n => IntKind.min .i64 ≤ n ∧ n ≤ IntKind.max .i64) x.Zone ∧ (fun _ => True) x.Token ∧ (fun _ => True) x.Tapped ∧ (fun _ => True) x.Sick ∧ (fun _ => True) x.Deadly ∧ (fun n => IntKind.min .i64 ≤ n ∧ n ≤ IntKind.max .i64) x.Damage ∧ (OkA3 (fun n => IntKind.min .i64 ≤ n ∧ n ≤ IntKind.max .i64)) x.Counters ∧ (fun n => IntKind.min .i64 ≤ n ∧ n ≤ IntKind.max .i64) x.Stamp ∧ (fun n => IntKind.min .i64 ≤ n ∧ n ≤ IntKind.max .i64) x.Copy ∧ (fun n => IntKind.min .i64 ≤ n ∧ n ≤ IntKind.max .i64) x.Attack ∧ (fun _ => True) x.Blocked ∧ (fun n => IntKind.min .i64 ≤ n ∧ n ≤ IntKind.max .i64) x.Blocks ∧ (fun n => IntKind.min .i64 ≤ n ∧ n ≤ IntKind.max .i64) x.Shield
def Z22 (x : Zbd) : Prop := (fun n => IntKind.min .i64 ≤ n ∧ n ≤ IntKind.max .i64) x.Object ∧ (fun n => IntKind.min .i64 ≤ n ∧ n ≤ IntKind.max .i64) x.Player
def Zw3 (x : Zlt) : Prop := (fun n => IntKind.min .i64 ≤ n ∧ n ≤ IntKind.max .i64) x.Kind ∧ (fun n => IntKind.min .i64 ≤ n ∧ n ≤ IntKind.max .i64) x.Source ∧ (fun n => IntKind.min .i64 ≤ n ∧ n ≤ IntKind.max .i64) x.Object ∧ (fun n => IntKind.min .i64 ≤ n ∧ n ≤ IntKind.max .i64) x.Player ∧ (fun n => IntKind.min .i64 ≤ n ∧ n ≤ IntKind.max .i64) x.Amount ∧ (fun n => IntKind.min .i64 ≤ n ∧ n ≤ IntKind.max .i64) x.From ∧ (fun n => IntKind.min .i64 ≤ n ∧ n ≤ IntKind.max .i64) x.To ∧ (fun n => IntKind.min .i64 ≤ n ∧ n ≤ IntKind.max .i64) x.Cause ∧ (fun n => IntKind.min .i64 ≤ n ∧ n ≤ IntKind.max .i64) x.Counter ∧ (fun n => IntKind.min .i64 ≤ n ∧ n ≤ IntKind.max .i64) x.Card ∧ (fun _ => True) x.Combat ∧ (fun _ => True) x.Tapped ∧ (OkA3 (fun n => IntKind.min .i64 ≤ n ∧ n ≤ IntKind.max .i64)) x.Extra
def Zz2 (x : Z4) : Prop := (fun n => IntKind.min .i64 ≤ n ∧ n ≤ IntKind.max .i64) x.Id ∧ (fun n => IntKind.min .i64 ≤ n ∧ n ≤ IntKind.max .i64) x.Kind ∧ (fun n => IntKind.min .i64 ≤ n ∧ n ≤ IntKind.max .i64) x.Source ∧ (fun n => IntKind.min .i64 ≤ n ∧ n ≤ IntKind.max .i64) x.Control ∧ (fun n => IntKind.min .i64 ≤ n ∧ n ≤ IntKind.max .i64) x.X ∧ (fun _ => True) x.Copy ∧ Zji x.Ability ∧ (OkL 16 Z22) x.Targets ∧ Zw3 x.Event
def Zrs (x : Zz) : Prop := (fun n => IntKind.min .i64 ≤ n ∧ n ≤ IntKind.max .i64) x.Source ∧ (fun n => IntKind.min .i64 ≤ n ∧ n ≤ IntKind.max .i64) x.Control ∧ Zji x.Ability ∧ Zw3 x.Event
def Zz3 (x : Zaf) : Prop := (fun n => IntKind.min .i64 ≤ n ∧ n ≤ IntKind.max .i64) x.Stamp ∧ (fun n => IntKind.min .i64 ≤ n ∧ n ≤ IntKind.max .i64) x.Control ∧ (fun n => IntKind.min .i64 ≤ n ∧ n ≤ IntKind.max .i64) x.Source ∧ (fun n => IntKind.min .i64 ≤ n ∧ n ≤ IntKind.max .i64) x.Until ∧ (OkL 8 (fun n => IntKind.min .i64 ≤ n ∧ n ≤ IntKind.max .i64)) x.Objects ∧ (OkL 176 Zqq) x.Mods
def Zqr (x : Za) : Prop := (OkL 152 Zt2) x.Players ∧ (OkL 128 Z21) x.Objects ∧ (OkL 8 (fun n => IntKind.min .i64 ≤ n ∧ n ≤ IntKind.max .i64)) x.Battlefield ∧ (OkL 8 (fun n => IntKind.min .i64 ≤ n ∧ n ≤ IntKind.max .i64)) x.Exile ∧ (OkL 824 Zz2) x.Stack ∧ (OkL 768 Zrs) x.Waiting ∧ (OkL 80 Zz3) x.Conts ∧ (fun n => IntKind.min .i64 ≤ n ∧ n ≤ IntKind.max .i64) x.Turn ∧ (fun n => IntKind.min .i64 ≤ n ∧ n ≤ IntKind.max .i64) x.Active ∧ (fun n => IntKind.min .i64 ≤ n ∧ n ≤ IntKind.max .i64) x.Step ∧ (fun _ => True) x.Begun ∧ (fun n => IntKind.min .i64 ≤ n ∧ n ≤ IntKind.max .i64) x.Priority ∧ (fun n => IntKind.min .i64 ≤ n ∧ n ≤ IntKind.max .i64) x.Passes ∧ (fun n => IntKind.min .i64 ≤ n ∧ n ≤ IntKind.max .i64) x.NextId ∧ (fun n => IntKind.min .i64 ≤ n ∧ n ≤ IntKind.max .i64) x.NextStamp ∧ (fun n => IntKind.min .u64 ≤ n ∧ n ≤ IntKind.max .u64) x.Seed ∧ (OkL 8 (fun n => IntKind.min .i64 ≤ n ∧ n ≤ IntKind.max .i64)) x.Extra ∧ (fun n => IntKind.min .i64 ≤ n ∧ n ≤ IntKind.max .i64) x.Over ∧ (fun n => IntKind.min .i64 ≤ n ∧ n ≤ IntKind.max .i64) x.Winner
def Z23 (x : Z7) : Prop := (fun n => IntKind.min .i64 ≤ n ∧ n ≤ IntKind.max .i64) x.Kind ∧ (fun n => IntKind.min .i64 ≤ n ∧ n ≤ IntKind.max .i64) x.A ∧ (fun n => IntKind.min .i64 ≤ n ∧ n ≤ IntKind.max .i64) x.B
def Zt3 (x : Za9) : Prop := (fun n => IntKind.min .i64 ≤ n ∧ n ≤ IntKind.max .i64) x.Kind ∧ (fun n => IntKind.min .i64 ≤ n ∧ n ≤ IntKind.max .i64) x.Player ∧ (fun n => IntKind.min .i64 ≤ n ∧ n ≤ IntKind.max .i64) x.Source ∧ (fun n => IntKind.min .i64 ≤ n ∧ n ≤ IntKind.max .i64) x.Least ∧ (fun n => IntKind.min .i64 ≤ n ∧ n ≤ IntKind.max .i64) x.Most ∧ (fun n => IntKind.min .i64 ≤ n ∧ n ≤ IntKind.max .i64) x.N ∧ (OkL 24 Z23) x.Options
def Z8v (x : Z0) : Prop := (OkL 176 Zz1) x.Cards ∧ Zqr x.State ∧ (OkL 24 (OkL 8 (fun n => IntKind.min .i64 ≤ n ∧ n ≤ IntKind.max .i64))) x.Answers ∧ Zt3 x.Pending ∧ (fun n => IntKind.min .i64 ≤ n ∧ n ≤ IntKind.max .i64) x.Forced ∧ (OkL 280 Zqr) x.Seen
end Go.PW
