import Derived.Test.YtloamjgjcjandaaGreatPwR
set_option linter.all false
namespace Go.PW
open Go.RowKit
noncomputable section
structure Zah where
 Generic : Int
 X : Int
 Color : (A5 Int)
 deriving DecidableEq, Inhabited
def Zd2 (x : Zah) : List Tree := (cI .i64) x.Generic ++ ((cI .i64) x.X ++ ((cA5 (cI .i64)) x.Color))
structure Zkr where
 Super : Int
 Types : Int
 Subs : (List (List UInt8))
 deriving DecidableEq, Inhabited
def Zxz (x : Zkr) : List Tree := (cI .i64) x.Super ++ ((cI .i64) x.Types ++ ((cL cS) x.Subs))
structure Ze where
 Kind : Int
 N : Int
 deriving DecidableEq, Inhabited
def Zjd (x : Ze) : List Tree := (cI .i64) x.Kind ++ ((cI .i64) x.N)
structure Zi where
 Zone : Int
 Who : Int
 Self : Int
 Types : Int
 NotTypes : Int
 Colors : Int
 NotColors : Int
 Sub : (List UInt8)
 Keys : Int
 Tap : Int
 Power : Ze
 Tough : Ze
 Value : Ze
 deriving DecidableEq, Inhabited
def Zv (x : Zi) : List Tree := (cI .i64) x.Zone ++ ((cI .i64) x.Who ++ ((cI .i64) x.Self ++ ((cI .i64) x.Types ++ ((cI .i64) x.NotTypes ++ ((cI .i64) x.Colors ++ ((cI .i64) x.NotColors ++ (cS x.Sub ++ ((cI .i64) x.Keys ++ ((cI .i64) x.Tap ++ (Zjd x.Power ++ (Zjd x.Tough ++ (Zjd x.Value))))))))))))
structure Zg where
 Kind : Int
 N : Int
 M : Int
 Sub : (List UInt8)
 Filter : Zi
 deriving DecidableEq, Inhabited
def Zp (x : Zg) : List Tree := (cI .i64) x.Kind ++ ((cI .i64) x.N ++ ((cI .i64) x.M ++ (cS x.Sub ++ (Zv x.Filter))))
structure Zih where
 Mana : Zah
 Tap : Bool
 Sacrifice : Bool
 Life : Int
 deriving DecidableEq, Inhabited
def Ze2 (x : Zih) : List Tree := Zd2 x.Mana ++ (cB x.Tap ++ (cB x.Sacrifice ++ ((cI .i64) x.Life)))
structure Zdj where
 When : Int
 Who : Int
 Filter : Zi
 deriving DecidableEq, Inhabited
def Zc2 (x : Zdj) : List Tree := (cI .i64) x.When ++ ((cI .i64) x.Who ++ (Zv x.Filter))
structure Zai where
 Player : Bool
 Object : Bool
 Filter : Zi
 deriving DecidableEq, Inhabited
def Z3 (x : Zai) : List Tree := cB x.Player ++ (cB x.Object ++ (Zv x.Filter))
structure Zgo where
 Kind : Int
 N : Int
 Filter : Zi
 deriving DecidableEq, Inhabited
def Zfj (x : Zgo) : List Tree := (cI .i64) x.Kind ++ ((cI .i64) x.N ++ (Zv x.Filter))
structure Zd3 where
 Kind : Int
 N : Int
 Counter : Int
 Filter : Zi
 deriving DecidableEq, Inhabited
def Zb2 (x : Zd3) : List Tree := (cI .i64) x.Kind ++ ((cI .i64) x.N ++ ((cI .i64) x.Counter ++ (Zv x.Filter)))
structure Zj where
 Op : Int
 Ref : Zgo
 Amount : Zd3
 Counter : Int
 Zone : Int
 Card : (List UInt8)
 Filter : Zi
 Pool : (A6 Int)
 Mods : (List Zg)
 deriving DecidableEq, Inhabited
def Zk (x : Zj) : List Tree := (cI .i64) x.Op ++ (Zfj x.Ref ++ (Zb2 x.Amount ++ ((cI .i64) x.Counter ++ ((cI .i64) x.Zone ++ (cS x.Card ++ (Zv x.Filter ++ ((cA6 (cI .i64)) x.Pool ++ ((cL Zp) x.Mods))))))))
structure Za1 where
 On : Int
 Who : Int
 Filter : Zi
 Do : Int
 N : Int
 Zone : Int
 Counter : Int
 deriving DecidableEq, Inhabited
def Zbw (x : Za1) : List Tree := (cI .i64) x.On ++ ((cI .i64) x.Who ++ (Zv x.Filter ++ ((cI .i64) x.Do ++ ((cI .i64) x.N ++ ((cI .i64) x.Zone ++ ((cI .i64) x.Counter))))))
structure Zq where
 Kind : Int
 Filter : Zi
 Mods : (List Zg)
 Price : Zih
 Slow : Bool
 Trigger : Zdj
 May : Bool
 Specs : (List Zai)
 Effects : (List Zj)
 Replace : Za1
 deriving DecidableEq, Inhabited
def Zab (x : Zq) : List Tree := (cI .i64) x.Kind ++ (Zv x.Filter ++ ((cL Zp) x.Mods ++ (Ze2 x.Price ++ (cB x.Slow ++ (Zc2 x.Trigger ++ (cB x.May ++ ((cL Z3) x.Specs ++ ((cL Zk) x.Effects ++ (Zbw x.Replace)))))))))
structure Zu where
 Name : (List UInt8)
 Token : Bool
 Cost : Zah
 Color : Int
 Line : Zkr
 Power : Int
 Tough : Int
 Keys : Int
 Abilities : (List Zq)
 deriving DecidableEq, Inhabited
def Z8 (x : Zu) : List Tree := cS x.Name ++ (cB x.Token ++ (Zd2 x.Cost ++ ((cI .i64) x.Color ++ (Zxz x.Line ++ ((cI .i64) x.Power ++ ((cI .i64) x.Tough ++ ((cI .i64) x.Keys ++ ((cL Zab) x.Abilities))))))))
structure Zaa where
 Life : Int
 Venom : Int
 Lands : Int
 Pool : (A6 Int)
 Failed : Bool
 Lost : Bool
 Library : (List Int)
 Hand : (List Int)
 Graveyard : (List Int)
 deriving DecidableEq, Inhabited
def Zh (x : Zaa) : List Tree := (cI .i64) x.Life ++ ((cI .i64) x.Venom ++ ((cI .i64) x.Lands ++ ((cA6 (cI .i64)) x.Pool ++ (cB x.Failed ++ (cB x.Lost ++ ((cL (cI .i64)) x.Library ++ ((cL (cI .i64)) x.Hand ++ ((cL (cI .i64)) x.Graveyard))))))))
structure Zf where
 Id : Int
 Card : Int
 Owner : Int
 Control : Int
 Zone : Int
 Token : Bool
 Tapped : Bool
 Sick : Bool
 Deadly : Bool
 Damage : Int
 Counters : (A3 Int)
 Stamp : Int
 Copy : Int
 Attack : Int
 Blocked : Bool
 Blocks : Int
 Shield : Int
 deriving DecidableEq, Inhabited
def Zd (x : Zf) : List Tree := (cI .i64) x.Id ++ ((cI .i64) x.Card ++ ((cI .i64) x.Owner ++ ((cI .i64) x.Control ++ ((cI .i64) x.Zone ++ (cB x.Token ++ (cB x.Tapped ++ (cB x.Sick ++ (cB x.Deadly ++ ((cI .i64) x.Damage ++ ((cA3 (cI .i64)) x.Counters ++ ((cI .i64) x.Stamp ++ ((cI .i64) x.Copy ++ ((cI .i64) x.Attack ++ (cB x.Blocked ++ ((cI .i64) x.Blocks ++ ((cI .i64) x.Shield))))))))))))))))
structure Zar where
 Object : Int
 Player : Int
 deriving DecidableEq, Inhabited
def Zad (x : Zar) : List Tree := (cI .i64) x.Object ++ ((cI .i64) x.Player)
structure Zwc where
 Kind : Int
 Source : Int
 Object : Int
 Player : Int
 Amount : Int
 From : Int
 To : Int
 Cause : Int
 Counter : Int
 Card : Int
 Combat : Bool
 Tapped : Bool
 Extra : (A3 Int)
 deriving DecidableEq, Inhabited
def Zib (x : Zwc) : List Tree := (cI .i64) x.Kind ++ ((cI .i64) x.Source ++ ((cI .i64) x.Object ++ ((cI .i64) x.Player ++ ((cI .i64) x.Amount ++ ((cI .i64) x.From ++ ((cI .i64) x.To ++ ((cI .i64) x.Cause ++ ((cI .i64) x.Counter ++ ((cI .i64) x.Card ++ (cB x.Combat ++ (cB x.Tapped ++ ((cA3 (cI .i64)) x.Extra))))))))))))
structure Zag where
 Id : Int
 Kind : Int
 Source : Int
 Control : Int
 X : Int
 Copy : Bool
 Ability : Zq
 Targets : (List Zar)
 Event : Zwc
 deriving DecidableEq, Inhabited
def Zl (x : Zag) : List Tree := (cI .i64) x.Id ++ ((cI .i64) x.Kind ++ ((cI .i64) x.Source ++ ((cI .i64) x.Control ++ ((cI .i64) x.X ++ (cB x.Copy ++ (Zab x.Ability ++ ((cL Zad) x.Targets ++ (Zib x.Event))))))))
structure Z7 where
 Source : Int
 Control : Int
 Ability : Zq
 Event : Zwc
 deriving DecidableEq, Inhabited
def Zm (x : Z7) : List Tree := (cI .i64) x.Source ++ ((cI .i64) x.Control ++ (Zab x.Ability ++ (Zib x.Event)))
structure Zao where
 Stamp : Int
 Control : Int
 Source : Int
 Until : Int
 Objects : (List Int)
 Mods : (List Zg)
 deriving DecidableEq, Inhabited
def Zn (x : Zao) : List Tree := (cI .i64) x.Stamp ++ ((cI .i64) x.Control ++ ((cI .i64) x.Source ++ ((cI .i64) x.Until ++ ((cL (cI .i64)) x.Objects ++ ((cL Zp) x.Mods)))))
structure Zc where
 Players : (List Zaa)
 Objects : (List Zf)
 Battlefield : (List Int)
 Exile : (List Int)
 Stack : (List Zag)
 Waiting : (List Z7)
 Conts : (List Zao)
 Turn : Int
 Active : Int
 Step : Int
 Begun : Bool
 Priority : Int
 Passes : Int
 NextId : Int
 NextStamp : Int
 Seed : Int
 Extra : (List Int)
 Over : Int
 Winner : Int
 deriving DecidableEq, Inhabited
def Z4 (x : Zc) : List Tree := (cL Zh) x.Players ++ ((cL Zd) x.Objects ++ ((cL (cI .i64)) x.Battlefield ++ ((cL (cI .i64)) x.Exile ++ ((cL Zl) x.Stack ++ ((cL Zm) x.Waiting ++ ((cL Zn) x.Conts ++ ((cI .i64) x.Turn ++ ((cI .i64) x.Active ++ ((cI .i64) x.Step ++ (cB x.Begun ++ ((cI .i64) x.Priority ++ ((cI .i64) x.Passes ++ ((cI .i64) x.NextId ++ ((cI .i64) x.NextStamp ++ ((cI .u64) x.Seed ++ ((cL (cI .i64)) x.Extra ++ ((cI .i64) x.Over ++ ((cI .i64) x.Winner))))))))))))))))))
structure Z5 where
 Kind : Int
 A : Int
 B : Int
 deriving DecidableEq, Inhabited
def Z1 (x : Z5) : List Tree := (cI .i64) x.Kind ++ ((cI .i64) x.A ++ ((cI .i64) x.B))
structure Zdd where
 Kind : Int
 Player : Int
 Source : Int
 Least : Int
 Most : Int
 N : Int
 Options : (List Z5)
 deriving DecidableEq, Inhabited
def Zlg (x : Zdd) : List Tree := (cI .i64) x.Kind ++ ((cI .i64) x.Player ++ ((cI .i64) x.Source ++ ((cI .i64) x.Least ++ ((cI .i64) x.Most ++ ((cI .i64) x.N ++ ((cL Z1) x.Options))))))
structure Zan where
 Cards : (List Zu)
 State : Zc
 Answers : (List (List Int))
 Pending : Zdd
 Forced : Int
 Seen : (List Zc)
 deriving DecidableEq, Inhabited
def Zge (x : Zan) : List Tree := (cL Z8) x.Cards ++ (Z4 x.State ++ ((cL (cL (cI .i64))) x.Answers ++ (Zlg x.Pending ++ ((cI .i64) x.Forced ++ ((cL Z4) x.Seen)))))
structure Zct where
 Life : Int
 Venom : Int
 Lands : Int
 Library : Int
 Hand : Int
 Pool : (A6 Int)
 Lost : Bool
 Graveyard : (List Int)
 deriving DecidableEq, Inhabited
def Za2 (x : Zct) : List Tree := (cI .i64) x.Life ++ ((cI .i64) x.Venom ++ ((cI .i64) x.Lands ++ ((cI .i64) x.Library ++ ((cI .i64) x.Hand ++ ((cA6 (cI .i64)) x.Pool ++ (cB x.Lost ++ ((cL (cI .i64)) x.Graveyard)))))))
structure Zaq where
 Player : Int
 Players : (List Zct)
 Hand : (List Int)
 Objects : (List Zf)
 Battlefield : (List Int)
 Exile : (List Int)
 Stack : (List Zag)
 Waiting : (List Z7)
 Conts : (List Zao)
 Turn : Int
 Active : Int
 Step : Int
 Priority : Int
 Passes : Int
 NextId : Int
 Over : Int
 Winner : Int
 Extra : (List Int)
 Pending : Zdd
 deriving DecidableEq, Inhabited
def Zod (x : Zaq) : List Tree := (cI .i64) x.Player ++ ((cL Za2) x.Players ++ ((cL (cI .i64)) x.Hand ++ ((cL Zd) x.Objects ++ ((cL (cI .i64)) x.Battlefield ++ ((cL (cI .i64)) x.Exile ++ ((cL Zl) x.Stack ++ ((cL Zm) x.Waiting ++ ((cL Zn) x.Conts ++ ((cI .i64) x.Turn ++ ((cI .i64) x.Active ++ ((cI .i64) x.Step ++ ((cI .i64) x.Priority ++ ((cI .i64) x.Passes ++ ((cI .i64) x.NextId ++ ((cI .i64) x.Over ++ ((cI .i64) x.Winner ++ ((cL (cI .i64)) x.Extra ++ (Zlg x.Pending))))))))))))))))))
abbrev Zp9 := Empty
def Zbc3 : Zp9 → Option (Zp9 ⊕ Bool) := fun s => nomatch s
def Zaok (a0 : Int) : Option (Zp9 ⊕ Bool) :=
 bif decide (a0 ≥ 97) then
 some (.inr (decide (a0 ≤ 122)))
 else
 some (.inr false)
noncomputable def Zaic (a0 : Int) : Option Bool := (Zaok a0).bind (endO Zbc3)
inductive Zmo where
 | L0 (v0 : (List UInt8)) (v3 : Int)
 | L1 (v0 : (List UInt8)) (v3 : Int)
def Zsx (v0 : (List UInt8)) (v3 : Int) : Option (Zmo ⊕ Bool) :=
 bif decide (v3 > 0) then
 Option.bind (idx? v0 v3) fun x2 =>
 bif ((UInt8.toNat x2 : Int) == 45) then
 Option.bind (idx? v0 (IntKind.wrap .i64 (v3 - 1))) fun x7 =>
 bif ((UInt8.toNat x7 : Int) == 45) then
 some (.inr false)
 else
 some (.inl (.L0 v0 (IntKind.wrap .i64 (v3 + 1))))
 else
 some (.inl (.L0 v0 (IntKind.wrap .i64 (v3 + 1))))
 else
 some (.inl (.L0 v0 (IntKind.wrap .i64 (v3 + 1))))
def Zaer (v0 : (List UInt8)) (v3 : Int) : Option (Zmo ⊕ Bool) :=
 bif decide (v3 < (v0.length : Int)) then
 Option.bind (idx? v0 v3) fun x3 =>
 Option.bind (Zaic (UInt8.toNat x3 : Int)) fun x5 =>
 bif (!x5) then
 Option.bind (idx? v0 v3) fun x8 =>
 bif decide ((UInt8.toNat x8 : Int) < 48) then
 Option.bind (idx? v0 v3) fun x11 =>
 bif ((UInt8.toNat x11 : Int) != 45) then
 some (.inr false)
 else
 Zsx v0 v3
 else
 Option.bind (idx? v0 v3) fun x14 =>
 bif decide ((UInt8.toNat x14 : Int) > 57) then
 Option.bind (idx? v0 v3) fun x17 =>
 bif ((UInt8.toNat x17 : Int) != 45) then
 some (.inr false)
 else
 Zsx v0 v3
 else
 Zsx v0 v3
 else
 Zsx v0 v3
 else
 some (.inr true)
def Zbhc : Zmo → Option (Zmo ⊕ Bool)
 | .L0 v0 v3 => Zaer v0 v3
 | .L1 v0 v3 => Zsx v0 v3
def Zav1 (a0 : (List UInt8)) : Option (Zmo ⊕ Bool) :=
 bif decide ((a0.length : Int) < 1) then
 some (.inr false)
 else
 bif decide ((a0.length : Int) > 32) then
 some (.inr false)
 else
 Option.bind (idx? a0 0) fun x4 =>
 Option.bind (Zaic (UInt8.toNat x4 : Int)) fun x6 =>
 bif (!x6) then
 some (.inr false)
 else
 Option.bind (idx? a0 (IntKind.wrap .i64 ((a0.length : Int) - 1))) fun x11 =>
 bif ((UInt8.toNat x11 : Int) == 45) then
 some (.inr false)
 else
 some (.inl (.L0 a0 0))
noncomputable def Zaid (a0 : (List UInt8)) : Option Bool := (Zav1 a0).bind (endO Zbhc)
inductive Zn2 where
 | L0 (E0 : Zah) (v3 : Int)
def Z69 (E0 : Zah) (v3 : Int) : Option (Zn2 ⊕ Bool) :=
 bif decide (v3 < 5) then
 Option.bind (idx? (A5.list E0.Color) v3) fun x2 =>
 bif decide (x2 < 0) then
 some (.inr false)
 else
 Option.bind (idx? (A5.list E0.Color) v3) fun x5 =>
 bif decide (x5 > 9) then
 some (.inr false)
 else
 some (.inl (.L0 E0 (IntKind.wrap .i64 (v3 + 1))))
 else
 some (.inr true)
def Zy3 : Zn2 → Option (Zn2 ⊕ Bool)
 | .L0 E0 v3 => Z69 E0 v3
def Zav2 (a0 : Zah) : Option (Zn2 ⊕ Bool) :=
 bif decide (a0.Generic < 0) then
 some (.inr false)
 else
 bif decide (a0.Generic > 99) then
 some (.inr false)
 else
 bif decide (a0.X < 0) then
 some (.inr false)
 else
 bif decide (a0.X > 2) then
 some (.inr false)
 else
 some (.inl (.L0 a0 0))
noncomputable def Zaa9 (a0 : Zah) : Option Bool := (Zav2 a0).bind (endO Zy3)
abbrev Zho := Empty
def Zanq : Zho → Option (Zho ⊕ (List (List UInt8))) := fun s => nomatch s
def Z0e : Option (Zho ⊕ (List (List UInt8))) :=
 some (.inr [([98, 97, 115, 105, 99] : List UInt8), ([117, 110, 105, 113, 117, 101] : List UInt8)])
noncomputable def Zrl : Option (List (List UInt8)) := (Z0e).bind (endO Zanq)
inductive Zkb where
 | L0 (v0 : (List (List UInt8))) (v1 : (List UInt8)) (v5 : Int)
def Z12 (v0 : (List (List UInt8))) (v1 : (List UInt8)) (v5 : Int) : Option (Zkb ⊕ Int) :=
 bif decide (v5 < (v0.length : Int)) then
 Option.bind (idx? v0 v5) fun x3 =>
 bif (x3 == v1) then
 some (.inr v5)
 else
 some (.inl (.L0 v0 v1 (IntKind.wrap .i64 (v5 + 1))))
 else
 some (.inr (-1))
def Za3y : Zkb → Option (Zkb ⊕ Int)
 | .L0 v0 v1 v5 => Z12 v0 v1 v5
def Zaf9 (a0 : (List (List UInt8))) (a1 : (List UInt8)) : Option (Zkb ⊕ Int) :=
 some (.inl (.L0 a0 a1 0))
noncomputable def Z7a (a0 : (List (List UInt8))) (a1 : (List UInt8)) : Option Int := (Zaf9 a0 a1).bind (endO Za3y)
abbrev Zim := Empty
def Zaol : Zim → Option (Zim ⊕ (List (List UInt8))) := fun s => nomatch s
def Z13 : Option (Zim ⊕ (List (List UInt8))) :=
 some (.inr [([99, 114, 101, 97, 116, 117, 114, 101] : List UInt8), ([105, 110, 115, 116, 97, 110, 116] : List UInt8), ([114, 105, 116, 117, 97, 108] : List UInt8), ([114, 101, 108, 105, 99] : List UInt8), ([99, 104, 97, 114, 109] : List UInt8), ([108, 97, 110, 100] : List UInt8)])
noncomputable def Zpz : Option (List (List UInt8)) := (Z13).bind (endO Zaol)
abbrev Zm1 := Empty
def Za3z : Zm1 → Option (Zm1 ⊕ Bool) := fun s => nomatch s
def Zaga (a0 : (List UInt8)) : Option (Zm1 ⊕ Bool) :=
 Option.bind (Zaid a0) fun x1 =>
 bif x1 then
 Option.bind (Zrl) fun x4 =>
 Option.bind (Z7a x4 a0) fun x6 =>
 bif decide (x6 < 0) then
 Option.bind (Zpz) fun x9 =>
 Option.bind (Z7a x9 a0) fun x11 =>
 some (.inr (decide (x11 < 0)))
 else
 some (.inr false)
 else
 some (.inr false)
noncomputable def Z03 (a0 : (List UInt8)) : Option Bool := (Zaga a0).bind (endO Za3z)
inductive Znj where
 | L0 (v0 : Int) (v1 : Int) (v5 : Int)
def Z91 (v0 : Int) (v1 : Int) (v5 : Int) : Option (Znj ⊕ Bool) :=
 bif decide (v5 < v1) then
 some (.inl (.L0 (quoI .i64 v0 2) v1 (IntKind.wrap .i64 (v5 + 1))))
 else
 some (.inr ((Int.tmod v0 2) == 1))
def Zbc4 : Znj → Option (Znj ⊕ Bool)
 | .L0 v0 v1 v5 => Z91 v0 v1 v5
def Zaom (a0 : Int) (a1 : Int) : Option (Znj ⊕ Bool) :=
 some (.inl (.L0 a0 a1 0))
noncomputable def Zaaq (a0 : Int) (a1 : Int) : Option Bool := (Zaom a0 a1).bind (endO Zbc4)
inductive Zpd where
 | L0 (E0 : Zkr) (v3 : Int)
def Zaes (E0 : Zkr) (v3 : Int) : Option (Zpd ⊕ Bool) :=
 bif decide (v3 < (E0.Subs.length : Int)) then
 Option.bind (idx? E0.Subs v3) fun x3 =>
 Option.bind (Z03 x3) fun x5 =>
 bif (!x5) then
 some (.inr false)
 else
 bif decide (v3 > 0) then
 Option.bind (idx? E0.Subs (IntKind.wrap .i64 (v3 - 1))) fun x11 =>
 bif (!(Op.bytesLess x11 x3)) then
 some (.inr false)
 else
 some (.inl (.L0 E0 (IntKind.wrap .i64 (v3 + 1))))
 else
 some (.inl (.L0 E0 (IntKind.wrap .i64 (v3 + 1))))
 else
 bif (E0.Types == 2) then
 some (.inr true)
 else
 bif (E0.Types == 4) then
 some (.inr true)
 else
 Option.bind (Zaaq E0.Types 1) fun x20 =>
 bif (!x20) then
 Option.bind (Zaaq E0.Types 2) fun x23 =>
 some (.inr (!x23))
 else
 some (.inr false)
def Zbhd : Zpd → Option (Zpd ⊕ Bool)
 | .L0 E0 v3 => Zaes E0 v3
def Zav3 (a0 : Zkr) : Option (Zpd ⊕ Bool) :=
 bif decide (a0.Super < 0) then
 some (.inr false)
 else
 bif decide (a0.Super > 3) then
 some (.inr false)
 else
 bif decide (a0.Types < 1) then
 some (.inr false)
 else
 bif decide (a0.Types > 63) then
 some (.inr false)
 else
 bif decide ((a0.Subs.length : Int) > 4) then
 some (.inr false)
 else
 some (.inl (.L0 a0 0))
noncomputable def Zazr (a0 : Zkr) : Option Bool := (Zav3 a0).bind (endO Zbhd)
abbrev Zta := Empty
def Zbhe : Zta → Option (Zta ⊕ Bool) := fun s => nomatch s
def Zav4 (a0 : Int) : Option (Zta ⊕ Bool) :=
 bif decide (a0 ≥ 0) then
 some (.inr (decide (a0 ≤ 131071)))
 else
 some (.inr false)
noncomputable def Zaon (a0 : Int) : Option Bool := (Zav4 a0).bind (endO Zbhe)
abbrev Zjh := Empty
def Zash : Zjh → Option (Zjh ⊕ Bool) := fun s => nomatch s
def Z4y (a0 : Zu) : Option (Zjh ⊕ Bool) :=
 some (.inr ((Zzf .and .i64 a0.Line.Types 1) != 0))
noncomputable def Z14 (a0 : Zu) : Option Bool := (Z4y a0).bind (endO Zash)
inductive Zkc where
 | L0 (v0 : Int) (v1 : Int) (v7 : Int)
def Z15 (v0 : Int) (v1 : Int) (v7 : Int) : Option (Zkc ⊕ Bool) :=
 bif decide (v7 < 6) then
 bif ((Int.tmod v0 2) == 1) then
 bif ((Int.tmod v1 2) == 1) then
 some (.inr false)
 else
 some (.inl (.L0 (quoI .i64 v0 2) (quoI .i64 v1 2) (IntKind.wrap .i64 (v7 + 1))))
 else
 some (.inl (.L0 (quoI .i64 v0 2) (quoI .i64 v1 2) (IntKind.wrap .i64 (v7 + 1))))
 else
 some (.inr true)
def Za30 : Zkc → Option (Zkc ⊕ Bool)
 | .L0 v0 v1 v7 => Z15 v0 v1 v7
def Zagb (a0 : Int) (a1 : Int) (a2 : Int) : Option (Zkc ⊕ Bool) :=
 bif decide (a0 < 0) then
 some (.inr false)
 else
 bif decide (a0 > a2) then
 some (.inr false)
 else
 bif decide (a1 < 0) then
 some (.inr false)
 else
 bif decide (a1 > a2) then
 some (.inr false)
 else
 some (.inl (.L0 a0 a1 0))
noncomputable def Z7b (a0 : Int) (a1 : Int) (a2 : Int) : Option Bool := (Zagb a0 a1 a2).bind (endO Za30)
abbrev Zm2 := Empty
def Za31 : Zm2 → Option (Zm2 ⊕ Bool) := fun s => nomatch s
def Zagc (a0 : Ze) : Option (Zm2 ⊕ Bool) :=
 bif decide (a0.Kind < 0) then
 some (.inr false)
 else
 bif decide (a0.Kind > 3) then
 some (.inr false)
 else
 bif decide (a0.N < 0) then
 some (.inr false)
 else
 bif decide (a0.N > 1000000) then
 some (.inr false)
 else
 bif (a0.Kind != 0) then
 some (.inr true)
 else
 some (.inr (a0.N == 0))
noncomputable def Z04 (a0 : Ze) : Option Bool := (Zagc a0).bind (endO Za31)
inductive Zpe where
 | L0 (E0 : Zi)
def Z05 (E0 : Zi) : Option (Zpe ⊕ Bool) :=
 Option.bind (Z04 E0.Power) fun x1 =>
 bif x1 then
 Option.bind (Z04 E0.Tough) fun x4 =>
 bif x4 then
 Option.bind (Z04 E0.Value) fun x7 =>
 some (.inr x7)
 else
 some (.inr false)
 else
 some (.inr false)
def Zbhf : Zpe → Option (Zpe ⊕ Bool)
 | .L0 E0 => Z05 E0
def Zav5 (a0 : Zi) : Option (Zpe ⊕ Bool) :=
 bif decide (a0.Zone < 0) then
 some (.inr false)
 else
 bif decide (a0.Zone > 5) then
 some (.inr false)
 else
 bif decide (a0.Who < 0) then
 some (.inr false)
 else
 bif decide (a0.Who > 2) then
 some (.inr false)
 else
 bif decide (a0.Self < 0) then
 some (.inr false)
 else
 bif decide (a0.Self > 2) then
 some (.inr false)
 else
 bif decide (a0.Tap < 0) then
 some (.inr false)
 else
 bif decide (a0.Tap > 2) then
 some (.inr false)
 else
 Option.bind (Z7b a0.Types a0.NotTypes 63) fun x9 =>
 bif (!x9) then
 some (.inr false)
 else
 Option.bind (Z7b a0.Colors a0.NotColors 31) fun x12 =>
 bif (!x12) then
 some (.inr false)
 else
 bif (!(a0.Sub == ([] : List UInt8))) then
 Option.bind (Z03 a0.Sub) fun x16 =>
 bif (!x16) then
 some (.inr false)
 else
 bif decide (a0.Keys < 0) then
 some (.inr false)
 else
 bif decide (a0.Keys > 131071) then
 some (.inr false)
 else
 Z05 a0
 else
 bif decide (a0.Keys < 0) then
 some (.inr false)
 else
 bif decide (a0.Keys > 131071) then
 some (.inr false)
 else
 Z05 a0
noncomputable def Zqa (a0 : Zi) : Option Bool := (Zav5 a0).bind (endO Zbhf)
inductive Zji where
 | L0 (E0 : Zg) (E1 : Zg) (v7 : Int) (v8 : Bool)
 | L1 (E0 : Zg) (E1 : Zg) (v7 : Int) (v16 : Bool)
def Zuv (E0 : Zg) (E1 : Zg) (v7 : Int) (v16 : Bool) : Option (Zji ⊕ Zg) :=
 bif v16 then
 some (.inr (⟨E0.Kind, E0.N, E0.M, ([] : List UInt8), E0.Filter⟩ : Zg))
 else
 bif (v7 == 11) then
 some (.inr (⟨E0.Kind, E0.N, E0.M, E0.Sub, (⟨0, 0, 0, 0, 0, 0, 0, ([] : List UInt8), 0, 0, (⟨0, 0⟩ : Ze), (⟨0, 0⟩ : Ze), (⟨0, 0⟩ : Ze)⟩ : Zi)⟩ : Zg))
 else
 bif (v7 == 12) then
 some (.inr (⟨E0.Kind, 0, 0, E0.Sub, E0.Filter⟩ : Zg))
 else
 bif (v7 == 13) then
 some (.inr (⟨E0.Kind, 0, 0, E0.Sub, E0.Filter⟩ : Zg))
 else
 some (.inr E0)
def Zlc (E0 : Zg) (E1 : Zg) (v7 : Int) (v8 : Bool) : Option (Zji ⊕ Zg) :=
 bif v8 then
 some (.inr (⟨E0.Kind, 0, E0.M, E0.Sub, E0.Filter⟩ : Zg))
 else
 bif (v7 == 4) then
 Zuv E0 E1 v7 (v7 == 4)
 else
 Zuv E0 E1 v7 (v7 == 5)
def Za7r : Zji → Option (Zji ⊕ Zg)
 | .L0 E0 E1 v7 v8 => Zlc E0 E1 v7 v8
 | .L1 E0 E1 v7 v16 => Zuv E0 E1 v7 v16
def Zajo (a0 : Zg) : Option (Zji ⊕ Zg) :=
 bif (a0.Kind == 2) then
 Zlc (⟨0, a0.N, a0.M, a0.Sub, a0.Filter⟩ : Zg) (⟨0, 0, 0, ([] : List UInt8), (⟨0, 0, 0, 0, 0, 0, 0, ([] : List UInt8), 0, 0, (⟨0, 0⟩ : Ze), (⟨0, 0⟩ : Ze), (⟨0, 0⟩ : Ze)⟩ : Zi)⟩ : Zg) a0.Kind (a0.Kind == 2)
 else
 bif (a0.Kind == 3) then
 Zlc (⟨0, a0.N, a0.M, a0.Sub, a0.Filter⟩ : Zg) (⟨0, 0, 0, ([] : List UInt8), (⟨0, 0, 0, 0, 0, 0, 0, ([] : List UInt8), 0, 0, (⟨0, 0⟩ : Ze), (⟨0, 0⟩ : Ze), (⟨0, 0⟩ : Ze)⟩ : Zi)⟩ : Zg) a0.Kind (a0.Kind == 3)
 else
 bif (a0.Kind == 6) then
 Zlc (⟨0, a0.N, a0.M, a0.Sub, a0.Filter⟩ : Zg) (⟨0, 0, 0, ([] : List UInt8), (⟨0, 0, 0, 0, 0, 0, 0, ([] : List UInt8), 0, 0, (⟨0, 0⟩ : Ze), (⟨0, 0⟩ : Ze), (⟨0, 0⟩ : Ze)⟩ : Zi)⟩ : Zg) a0.Kind (a0.Kind == 6)
 else
 bif (a0.Kind == 7) then
 Zlc (⟨0, a0.N, a0.M, a0.Sub, a0.Filter⟩ : Zg) (⟨0, 0, 0, ([] : List UInt8), (⟨0, 0, 0, 0, 0, 0, 0, ([] : List UInt8), 0, 0, (⟨0, 0⟩ : Ze), (⟨0, 0⟩ : Ze), (⟨0, 0⟩ : Ze)⟩ : Zi)⟩ : Zg) a0.Kind (a0.Kind == 7)
 else
 bif (a0.Kind == 8) then
 Zlc (⟨0, a0.N, a0.M, a0.Sub, a0.Filter⟩ : Zg) (⟨0, 0, 0, ([] : List UInt8), (⟨0, 0, 0, 0, 0, 0, 0, ([] : List UInt8), 0, 0, (⟨0, 0⟩ : Ze), (⟨0, 0⟩ : Ze), (⟨0, 0⟩ : Ze)⟩ : Zi)⟩ : Zg) a0.Kind (a0.Kind == 8)
 else
 Zlc (⟨0, a0.N, a0.M, a0.Sub, a0.Filter⟩ : Zg) (⟨0, 0, 0, ([] : List UInt8), (⟨0, 0, 0, 0, 0, 0, 0, ([] : List UInt8), 0, 0, (⟨0, 0⟩ : Ze), (⟨0, 0⟩ : Ze), (⟨0, 0⟩ : Ze)⟩ : Zi)⟩ : Zg) a0.Kind (a0.Kind == 9)
noncomputable def Zajp (a0 : Zg) : Option Zg := (Zajo a0).bind (endO Za7r)
abbrev Zm3 := Empty
def Za32 : Zm3 → Option (Zm3 ⊕ Bool) := fun s => nomatch s
def Zagd (a0 : Int) : Option (Zm3 ⊕ Bool) :=
 bif decide (a0 ≥ 1) then
 bif decide (a0 ≤ 63) then
 some (.inr ((Zzf .and .i64 a0 6) == 0))
 else
 some (.inr false)
 else
 some (.inr false)
noncomputable def Zaet (a0 : Int) : Option Bool := (Zagd a0).bind (endO Za32)
inductive Zks where
 | L0 (E0 : Zg) (v18 : Int) (v19 : Bool)
 | L1 (E0 : Zg) (v18 : Int) (v25 : Bool)
 | L2 (E0 : Zg) (v18 : Int) (v51 : Bool)
def Z06 (E0 : Zg) (v18 : Int) (v51 : Bool) : Option (Zks ⊕ Bool) :=
 bif v51 then
 bif decide (E0.N ≥ 1) then
 some (.inr (decide (E0.N ≤ 131071)))
 else
 some (.inr false)
 else
 bif (v18 == 11) then
 Option.bind (Zqa E0.Filter) fun x4 =>
 some (.inr x4)
 else
 bif (v18 == 12) then
 bif decide (E0.N ≥ 0) then
 bif decide (E0.N ≤ 99) then
 bif decide (E0.M ≥ 0) then
 some (.inr (decide (E0.M ≤ 99)))
 else
 some (.inr false)
 else
 some (.inr false)
 else
 some (.inr false)
 else
 bif (v18 == 13) then
 bif decide (E0.N ≥ (-99)) then
 bif decide (E0.N ≤ 99) then
 bif decide (E0.M ≥ (-99)) then
 some (.inr (decide (E0.M ≤ 99)))
 else
 some (.inr false)
 else
 some (.inr false)
 else
 some (.inr false)
 else
 some (.inr true)
def Z07 (E0 : Zg) (v18 : Int) (v25 : Bool) : Option (Zks ⊕ Bool) :=
 bif v25 then
 Option.bind (Z03 E0.Sub) fun x2 =>
 some (.inr x2)
 else
 bif (v18 == 6) then
 bif decide (E0.N ≥ 0) then
 some (.inr (decide (E0.N ≤ 31)))
 else
 some (.inr false)
 else
 bif (v18 == 7) then
 bif decide (E0.N ≥ 1) then
 some (.inr (decide (E0.N ≤ 31)))
 else
 some (.inr false)
 else
 bif (v18 == 8) then
 Z06 E0 v18 (v18 == 8)
 else
 Z06 E0 v18 (v18 == 9)
def Z08 (E0 : Zg) (v18 : Int) (v19 : Bool) : Option (Zks ⊕ Bool) :=
 bif v19 then
 Option.bind (Zaet E0.N) fun x2 =>
 some (.inr x2)
 else
 bif (v18 == 4) then
 Z07 E0 v18 (v18 == 4)
 else
 Z07 E0 v18 (v18 == 5)
def Zbhg : Zks → Option (Zks ⊕ Bool)
 | .L0 E0 v18 v19 => Z08 E0 v18 v19
 | .L1 E0 v18 v25 => Z07 E0 v18 v25
 | .L2 E0 v18 v51 => Z06 E0 v18 v51
def Zav6 (a0 : Zg) : Option (Zks ⊕ Bool) :=
 bif decide (a0.Kind < 1) then
 some (.inr false)
 else
 bif decide (a0.Kind > 14) then
 some (.inr false)
 else
 Option.bind (Zajp a0) fun x3 =>
 bif (!(eqTs (Zp x3) (Zp (⟨0, 0, 0, ([] : List UInt8), (⟨0, 0, 0, 0, 0, 0, 0, ([] : List UInt8), 0, 0, (⟨0, 0⟩ : Ze), (⟨0, 0⟩ : Ze), (⟨0, 0⟩ : Ze)⟩ : Zi)⟩ : Zg)))) then
 some (.inr false)
 else
 bif (a0.Kind == 2) then
 Z08 a0 a0.Kind (a0.Kind == 2)
 else
 Z08 a0 a0.Kind (a0.Kind == 3)
noncomputable def Zaoo (a0 : Zg) : Option Bool := (Zav6 a0).bind (endO Zbhg)
inductive Zi5 where
 | L0 (v0 : (List (List UInt8))) (v1 : Int) (v2 : (List UInt8)) (v7 : (List UInt8)) (v8 : Int)
def Zzi (v0 : (List (List UInt8))) (v1 : Int) (v2 : (List UInt8)) (v7 : (List UInt8)) (v8 : Int) : Option (Zi5 ⊕ (List UInt8)) :=
 bif decide (v8 < (v0.length : Int)) then
 Option.bind (Zaaq v1 v8) fun x3 =>
 bif x3 then
 bif (!(v7 == ([] : List UInt8))) then
 Option.bind (ok? (decide (v7.length + v2.length ≤ 9223372036854775807))) fun x8 =>
 Option.bind (idx? v0 v8) fun x10 =>
 Option.bind (ok? (decide ((v7 ++ v2).length + x10.length ≤ 9223372036854775807))) fun x13 =>
 some (.inl (.L0 v0 v1 v2 ((v7 ++ v2) ++ x10) (IntKind.wrap .i64 (v8 + 1))))
 else
 Option.bind (idx? v0 v8) fun x17 =>
 Option.bind (ok? (decide (v7.length + x17.length ≤ 9223372036854775807))) fun x20 =>
 some (.inl (.L0 v0 v1 v2 (v7 ++ x17) (IntKind.wrap .i64 (v8 + 1))))
 else
 some (.inl (.L0 v0 v1 v2 v7 (IntKind.wrap .i64 (v8 + 1))))
 else
 some (.inr v7)
def Zazs : Zi5 → Option (Zi5 ⊕ (List UInt8))
 | .L0 v0 v1 v2 v7 v8 => Zzi v0 v1 v2 v7 v8
def Zaba (a0 : (List (List UInt8))) (a1 : Int) (a2 : (List UInt8)) : Option (Zi5 ⊕ (List UInt8)) :=
 some (.inl (.L0 a0 a1 a2 ([] : List UInt8) 0))
noncomputable def Z92 (a0 : (List (List UInt8))) (a1 : Int) (a2 : (List UInt8)) : Option (List UInt8) := (Zaba a0 a1 a2).bind (endO Zazs)
abbrev Zin := Empty
def Zaop : Zin → Option (Zin ⊕ (List UInt8)) := fun s => nomatch s
def Z16 (a0 : Int) : Option (Zin ⊕ (List UInt8)) :=
 bif decide (a0 < 1) then
 some (.inr ([] : List UInt8))
 else
 bif decide (a0 > 63) then
 some (.inr ([] : List UInt8))
 else
 Option.bind (Zpz) fun x3 =>
 Option.bind (Z92 x3 a0 ([43] : List UInt8)) fun x5 =>
 some (.inr x5)
noncomputable def Zp0 (a0 : Int) : Option (List UInt8) := (Z16 a0).bind (endO Zaop)
abbrev Ztb := Empty
def Zbhh : Ztb → Option (Ztb ⊕ Bool) := fun s => nomatch s
def Zav7 (a0 : Int) : Option (Ztb ⊕ Bool) :=
 bif decide (a0 ≥ 0) then
 some (.inr (decide (a0 ≤ 31)))
 else
 some (.inr false)
noncomputable def Zazt (a0 : Int) : Option Bool := (Zav7 a0).bind (endO Zbhh)
abbrev Zoe := Empty
def Za7s : Zoe → Option (Zoe ⊕ (List UInt8)) := fun s => nomatch s
def Zajq (a0 : Int) : Option (Zoe ⊕ (List UInt8)) :=
 bif (a0 == 0) then
 some (.inr ([97, 109, 98, 101, 114] : List UInt8))
 else
 bif (a0 == 1) then
 some (.inr ([99, 111, 98, 97, 108, 116] : List UInt8))
 else
 bif (a0 == 2) then
 some (.inr ([106, 101, 116] : List UInt8))
 else
 bif (a0 == 3) then
 some (.inr ([114, 117, 98, 121] : List UInt8))
 else
 bif (a0 == 4) then
 some (.inr ([101, 109, 101, 114, 97, 108, 100] : List UInt8))
 else
 some (.inr ([] : List UInt8))
noncomputable def Z0f (a0 : Int) : Option (List UInt8) := (Zajq a0).bind (endO Za7s)
inductive Zlh where
 | L0 (v0 : Int) (v3 : (List UInt8)) (v4 : Int)
def Z58 (v0 : Int) (v3 : (List UInt8)) (v4 : Int) : Option (Zlh ⊕ (List UInt8)) :=
 bif decide (v4 < 5) then
 Option.bind (ok? (decide (¬ v4 < 0))) fun x2 =>
 Option.bind (ok? (decide ((shlI .i64 1 v4) ≠ 0))) fun x4 =>
 bif ((Int.tmod (quoI .i64 v0 (shlI .i64 1 v4)) 2) == 1) then
 bif (!(v3 == ([] : List UInt8))) then
 Option.bind (ok? (decide (v3.length + ([43] : List UInt8).length ≤ 9223372036854775807))) fun x8 =>
 Option.bind (Z0f v4) fun x10 =>
 Option.bind (ok? (decide ((v3 ++ ([43] : List UInt8)).length + x10.length ≤ 9223372036854775807))) fun x13 =>
 some (.inl (.L0 v0 ((v3 ++ ([43] : List UInt8)) ++ x10) (IntKind.wrap .i64 (v4 + 1))))
 else
 Option.bind (Z0f v4) fun x17 =>
 Option.bind (ok? (decide (v3.length + x17.length ≤ 9223372036854775807))) fun x20 =>
 some (.inl (.L0 v0 (v3 ++ x17) (IntKind.wrap .i64 (v4 + 1))))
 else
 some (.inl (.L0 v0 v3 (IntKind.wrap .i64 (v4 + 1))))
 else
 some (.inr v3)
def Za7t : Zlh → Option (Zlh ⊕ (List UInt8))
 | .L0 v0 v3 v4 => Z58 v0 v3 v4
def Zajr (a0 : Int) : Option (Zlh ⊕ (List UInt8)) :=
 Option.bind (Zazt a0) fun x1 =>
 bif (!x1) then
 some (.inr ([] : List UInt8))
 else
 bif (a0 == 0) then
 some (.inr ([110, 111, 110, 101] : List UInt8))
 else
 some (.inl (.L0 a0 ([] : List UInt8) 0))
noncomputable def Zabb (a0 : Int) : Option (List UInt8) := (Zajr a0).bind (endO Za7t)
abbrev Zm4 := Empty
def Za33 : Zm4 → Option (Zm4 ⊕ (List (List UInt8))) := fun s => nomatch s
def Zage : Option (Zm4 ⊕ (List (List UInt8))) :=
 some (.inr [([102, 108, 121, 105, 110, 103] : List UInt8), ([114, 101, 97, 99, 104] : List UInt8), ([104, 97, 115, 116, 101] : List UInt8), ([118, 105, 103, 105, 108, 97, 110, 116] : List UInt8), ([116, 114, 97, 109, 112, 108, 101] : List UInt8), ([102, 105, 114, 115, 116, 45, 115, 116, 114, 105, 107, 101] : List UInt8), ([100, 111, 117, 98, 108, 101, 45, 115, 116, 114, 105, 107, 101] : List UInt8), ([100, 101, 97, 100, 108, 121] : List UInt8), ([108, 105, 102, 101, 108, 105, 110, 107] : List UInt8), ([109, 101, 110, 97, 99, 101] : List UInt8), ([100, 101, 102, 101, 110, 100, 101, 114] : List UInt8), ([119, 97, 114, 100, 101, 100] : List UInt8), ([115, 116, 117, 114, 100, 121] : List UInt8), ([101, 108, 117, 115, 105, 118, 101] : List UInt8), ([110, 111, 45, 97, 116, 116, 97, 99, 107] : List UInt8), ([110, 111, 45, 98, 108, 111, 99, 107] : List UInt8), ([109, 117, 115, 116, 45, 97, 116, 116, 97, 99, 107] : List UInt8)])
noncomputable def Z7c : Option (List (List UInt8)) := (Zage).bind (endO Za33)
abbrev Zof := Empty
def Za7u : Zof → Option (Zof ⊕ (List UInt8)) := fun s => nomatch s
def Zajs (a0 : Int) : Option (Zof ⊕ (List UInt8)) :=
 bif decide (a0 < 0) then
 some (.inr ([] : List UInt8))
 else
 bif decide (a0 > 16) then
 some (.inr ([] : List UInt8))
 else
 Option.bind (Z7c) fun x3 =>
 Option.bind (idx? x3 a0) fun x5 =>
 some (.inr x5)
noncomputable def Z4z (a0 : Int) : Option (List UInt8) := (Zajs a0).bind (endO Za7u)
inductive Zli where
 | L0 (v0 : Int) (v3 : (List UInt8)) (v4 : Int)
def Z59 (v0 : Int) (v3 : (List UInt8)) (v4 : Int) : Option (Zli ⊕ (List UInt8)) :=
 bif decide (v4 < 17) then
 bif ((Int.tmod v0 2) == 1) then
 bif (!(v3 == ([] : List UInt8))) then
 Option.bind (ok? (decide (v3.length + ([43] : List UInt8).length ≤ 9223372036854775807))) fun x4 =>
 Option.bind (Z4z v4) fun x6 =>
 Option.bind (ok? (decide ((v3 ++ ([43] : List UInt8)).length + x6.length ≤ 9223372036854775807))) fun x9 =>
 some (.inl (.L0 (quoI .i64 v0 2) ((v3 ++ ([43] : List UInt8)) ++ x6) (IntKind.wrap .i64 (v4 + 1))))
 else
 Option.bind (Z4z v4) fun x13 =>
 Option.bind (ok? (decide (v3.length + x13.length ≤ 9223372036854775807))) fun x16 =>
 some (.inl (.L0 (quoI .i64 v0 2) (v3 ++ x13) (IntKind.wrap .i64 (v4 + 1))))
 else
 some (.inl (.L0 (quoI .i64 v0 2) v3 (IntKind.wrap .i64 (v4 + 1))))
 else
 bif (v3 == ([] : List UInt8)) then
 some (.inr ([110, 111, 110, 101] : List UInt8))
 else
 some (.inr v3)
def Za7v : Zli → Option (Zli ⊕ (List UInt8))
 | .L0 v0 v3 v4 => Z59 v0 v3 v4
def Zajt (a0 : Int) : Option (Zli ⊕ (List UInt8)) :=
 Option.bind (Zaon a0) fun x1 =>
 bif (!x1) then
 some (.inr ([] : List UInt8))
 else
 some (.inl (.L0 a0 ([] : List UInt8) 0))
noncomputable def Zabc (a0 : Int) : Option (List UInt8) := (Zajt a0).bind (endO Za7v)
abbrev Zio := Empty
def Zaoq : Zio → Option (Zio ⊕ (List (List UInt8))) := fun s => nomatch s
def Z17 : Option (Zio ⊕ (List (List UInt8))) :=
 some (.inr [([] : List UInt8), ([105, 110, 45, 104, 97, 110, 100] : List UInt8), ([105, 110, 45, 108, 105, 98, 114, 97, 114, 121] : List UInt8), ([105, 110, 45, 103, 114, 97, 118, 101, 121, 97, 114, 100] : List UInt8), ([105, 110, 45, 101, 120, 105, 108, 101] : List UInt8), ([111, 110, 45, 115, 116, 97, 99, 107] : List UInt8)])
noncomputable def Zuc : Option (List (List UInt8)) := (Z17).bind (endO Zaoq)
abbrev Zjj := Empty
def Zasi : Zjj → Option (Zjj ⊕ (List (List UInt8))) := fun s => nomatch s
def Z40 : Option (Zjj ⊕ (List (List UInt8))) :=
 some (.inr [([] : List UInt8), ([121, 111, 117, 114, 115] : List UInt8), ([116, 104, 101, 105, 114, 115] : List UInt8)])
noncomputable def Zwd : Option (List (List UInt8)) := (Z40).bind (endO Zasi)
abbrev Zip := Empty
def Zaor : Zip → Option (Zip ⊕ (List (List UInt8))) := fun s => nomatch s
def Z18 : Option (Zip ⊕ (List (List UInt8))) :=
 some (.inr [([] : List UInt8), ([115, 101, 108, 102] : List UInt8), ([111, 116, 104, 101, 114] : List UInt8)])
noncomputable def Zud : Option (List (List UInt8)) := (Z18).bind (endO Zaor)
abbrev Zjk := Empty
def Zasj : Zjk → Option (Zjk ⊕ (List (List UInt8))) := fun s => nomatch s
def Z41 : Option (Zjk ⊕ (List (List UInt8))) :=
 some (.inr [([] : List UInt8), ([116, 97, 112, 112, 101, 100] : List UInt8), ([117, 110, 116, 97, 112, 112, 101, 100] : List UInt8)])
noncomputable def Zwe : Option (List (List UInt8)) := (Z41).bind (endO Zasj)
inductive Znk where
 | L0 (v0 : Int) (v1 : Int) (v5 : Int)
def Z93 (v0 : Int) (v1 : Int) (v5 : Int) : Option (Znk ⊕ Bool) :=
 bif decide (v5 < v1) then
 some (.inl (.L0 (quoI .i64 v0 2) v1 (IntKind.wrap .i64 (v5 + 1))))
 else
 some (.inr ((Int.tmod v0 2) == 1))
def Zbc5 : Znk → Option (Znk ⊕ Bool)
 | .L0 v0 v1 v5 => Z93 v0 v1 v5
def Zaos (a0 : Int) (a1 : Int) : Option (Znk ⊕ Bool) :=
 some (.inl (.L0 a0 a1 0))
noncomputable def Z09 (a0 : Int) (a1 : Int) : Option Bool := (Zaos a0 a1).bind (endO Zbc5)
inductive Zg2 where
 | L0 (v0 : Int) (v3 : Int) (v4 : Int)
def Zvk (v0 : Int) (v3 : Int) (v4 : Int) : Option (Zg2 ⊕ (List UInt8)) :=
 bif decide (v4 < v0) then
 some (.inl (.L0 v0 (IntKind.wrap .i64 (v3 * 2)) (IntKind.wrap .i64 (v4 + 1))))
 else
 Option.bind (Zp0 v3) fun x6 =>
 some (.inr x6)
def Zask : Zg2 → Option (Zg2 ⊕ (List UInt8))
 | .L0 v0 v3 v4 => Zvk v0 v3 v4
def Z42 (a0 : Int) : Option (Zg2 ⊕ (List UInt8)) :=
 some (.inl (.L0 a0 1 0))
noncomputable def Zwf (a0 : Int) : Option (List UInt8) := (Z42 a0).bind (endO Zask)
abbrev Zm5 := Empty
def Za34 : Zm5 → Option (Zm5 ⊕ (List (List UInt8))) := fun s => nomatch s
def Zagf : Option (Zm5 ⊕ (List (List UInt8))) :=
 some (.inr [([] : List UInt8), ([62, 61] : List UInt8), ([60, 61] : List UInt8), ([61] : List UInt8)])
noncomputable def Z7d : Option (List (List UInt8)) := (Zagf).bind (endO Za34)
inductive Zlj where
 | L0 (v0 : Int) (v3 : (List UInt8))
def Zme (v0 : Int) (v3 : (List UInt8)) : Option (Zlj ⊕ (List UInt8)) :=
 bif decide (v0 > 0) then
 Option.bind (str? [IntKind.wrap .u8 (IntKind.wrap .u64 (48 + (Int.tmod v0 10)))]) fun x5 =>
 Option.bind (ok? (decide (x5.length + v3.length ≤ 9223372036854775807))) fun x9 =>
 some (.inl (.L0 (quoI .u64 v0 10) (x5 ++ v3)))
 else
 some (.inr v3)
def Z19 : Zlj → Option (Zlj ⊕ (List UInt8))
 | .L0 v0 v3 => Zme v0 v3
def Zabd (a0 : Int) : Option (Zlj ⊕ (List UInt8)) :=
 Option.bind (str? [IntKind.wrap .u8 (IntKind.wrap .u64 (48 + (Int.tmod a0 10)))]) fun x4 =>
 some (.inl (.L0 (quoI .u64 a0 10) x4))
noncomputable def Z2a (a0 : Int) : Option (List UInt8) := (Zabd a0).bind (endO Z19)
abbrev Zog := Empty
def Za7w : Zog → Option (Zog ⊕ (List UInt8)) := fun s => nomatch s
def Zaju (a0 : Int) : Option (Zog ⊕ (List UInt8)) :=
 bif decide (a0 < 0) then
 Option.bind (Z2a (IntKind.wrap .u64 (0 - (IntKind.wrap .u64 a0)))) fun x4 =>
 Option.bind (ok? (decide (([45] : List UInt8).length + x4.length ≤ 9223372036854775807))) fun x7 =>
 some (.inr (([45] : List UInt8) ++ x4))
 else
 Option.bind (Z2a (IntKind.wrap .u64 a0)) fun x10 =>
 some (.inr x10)
noncomputable def Ztc (a0 : Int) : Option (List UInt8) := (Zaju a0).bind (endO Za7w)
abbrev Ziq := Empty
def Zaot : Ziq → Option (Ziq ⊕ (List UInt8)) := fun s => nomatch s
def Z2b (a0 : (List UInt8)) (a1 : Ze) : Option (Ziq ⊕ (List UInt8)) :=
 bif (a1.Kind == 0) then
 some (.inr ([] : List UInt8))
 else
 Option.bind (Z7d) fun x2 =>
 Option.bind (idx? x2 a1.Kind) fun x4 =>
 Option.bind (ok? (decide (a0.length + x4.length ≤ 9223372036854775807))) fun x8 =>
 Option.bind (Ztc a1.N) fun x10 =>
 Option.bind (ok? (decide ((a0 ++ x4).length + x10.length ≤ 9223372036854775807))) fun x13 =>
 some (.inr ((a0 ++ x4) ++ x10))
noncomputable def Zp1 (a0 : (List UInt8)) (a1 : Ze) : Option (List UInt8) := (Z2b a0 a1).bind (endO Zaot)
inductive Zlk where
 | L0 (v0 : (List (List UInt8))) (v1 : (List UInt8)) (v5 : (List UInt8)) (v6 : Int)
def Z6a (v0 : (List (List UInt8))) (v1 : (List UInt8)) (v5 : (List UInt8)) (v6 : Int) : Option (Zlk ⊕ (List UInt8)) :=
 bif decide (v6 < (v0.length : Int)) then
 bif decide (v6 > 0) then
 Option.bind (ok? (decide (v5.length + v1.length ≤ 9223372036854775807))) fun x5 =>
 Option.bind (idx? v0 v6) fun x7 =>
 Option.bind (ok? (decide ((v5 ++ v1).length + x7.length ≤ 9223372036854775807))) fun x10 =>
 some (.inl (.L0 v0 v1 ((v5 ++ v1) ++ x7) (IntKind.wrap .i64 (v6 + 1))))
 else
 Option.bind (idx? v0 v6) fun x14 =>
 Option.bind (ok? (decide (v5.length + x14.length ≤ 9223372036854775807))) fun x17 =>
 some (.inl (.L0 v0 v1 (v5 ++ x14) (IntKind.wrap .i64 (v6 + 1))))
 else
 some (.inr v5)
def Za7x : Zlk → Option (Zlk ⊕ (List UInt8))
 | .L0 v0 v1 v5 v6 => Z6a v0 v1 v5 v6
def Zajv (a0 : (List (List UInt8))) (a1 : (List UInt8)) : Option (Zlk ⊕ (List UInt8)) :=
 some (.inl (.L0 a0 a1 ([] : List UInt8) 0))
noncomputable def Zajw (a0 : (List (List UInt8))) (a1 : (List UInt8)) : Option (List UInt8) := (Zajv a0 a1).bind (endO Za7x)
abbrev Zjl := Empty
def Zasl : Zjl → Option (Zjl ⊕ (List (List UInt8))) := fun s => nomatch s
def Z43 (b0 : (List (List UInt8))) (a1 : (List UInt8)) : Option (Zjl ⊕ (List (List UInt8))) :=
 bif (a1 == ([] : List UInt8)) then
 some (.inr b0)
 else
 Option.bind (app? 16 b0 [a1]) fun x3 =>
 some (.inr x3)
noncomputable def Zkd (b0 : (List (List UInt8))) (a1 : (List UInt8)) : Option (List (List UInt8)) := (Z43 b0 a1).bind (endO Zasl)
inductive Ze3 where
 | L0 (E0 : Zi) (v6 : (List (List UInt8))) (v7 : (List (List UInt8))) (v8 : Int)
 | L1 (E0 : Zi) (v6 : (List (List UInt8))) (v7 : (List (List UInt8))) (v9 : Int)
 | L2 (E0 : Zi) (v6 : (List (List UInt8))) (v7 : (List (List UInt8))) (v10 : Int)
 | L3 (E0 : Zi) (v6 : (List (List UInt8))) (v7 : (List (List UInt8))) (v11 : Int)
 | L4 (E0 : Zi) (v6 : (List (List UInt8))) (v7 : (List (List UInt8)))
 | L5 (E0 : Zi) (v6 : (List (List UInt8))) (v7 : (List (List UInt8))) (v12 : Int)
def Zuw (E0 : Zi) (v6 : (List (List UInt8))) (v7 : (List (List UInt8))) : Option (Ze3 ⊕ (List UInt8)) :=
 some (.inl (.L5 E0 v6 v7 0))
def Z6b (E0 : Zi) (v6 : (List (List UInt8))) (v7 : (List (List UInt8))) (v8 : Int) : Option (Ze3 ⊕ (List UInt8)) :=
 bif decide (v8 < 6) then
 Option.bind (Z09 E0.Types v8) fun x2 =>
 bif x2 then
 Option.bind (Zwf v8) fun x5 =>
 Option.bind (app? 16 v7 [x5]) fun x8 =>
 some (.inl (.L0 E0 v6 x8 (IntKind.wrap .i64 (v8 + 1))))
 else
 some (.inl (.L0 E0 v6 v7 (IntKind.wrap .i64 (v8 + 1))))
 else
 some (.inl (.L1 E0 v6 v7 0))
def Z6c (E0 : Zi) (v6 : (List (List UInt8))) (v7 : (List (List UInt8))) (v9 : Int) : Option (Ze3 ⊕ (List UInt8)) :=
 bif decide (v9 < 6) then
 Option.bind (Z09 E0.NotTypes v9) fun x2 =>
 bif x2 then
 Option.bind (Zwf v9) fun x5 =>
 Option.bind (ok? (decide (([110, 111, 110, 45] : List UInt8).length + x5.length ≤ 9223372036854775807))) fun x8 =>
 Option.bind (app? 16 v7 [(([110, 111, 110, 45] : List UInt8) ++ x5)]) fun x11 =>
 some (.inl (.L1 E0 v6 x11 (IntKind.wrap .i64 (v9 + 1))))
 else
 some (.inl (.L1 E0 v6 v7 (IntKind.wrap .i64 (v9 + 1))))
 else
 some (.inl (.L2 E0 v6 v7 0))
def Z6d (E0 : Zi) (v6 : (List (List UInt8))) (v7 : (List (List UInt8))) (v10 : Int) : Option (Ze3 ⊕ (List UInt8)) :=
 bif decide (v10 < 5) then
 Option.bind (Z09 E0.Colors v10) fun x2 =>
 bif x2 then
 Option.bind (Z0f v10) fun x5 =>
 Option.bind (app? 16 v7 [x5]) fun x8 =>
 some (.inl (.L2 E0 v6 x8 (IntKind.wrap .i64 (v10 + 1))))
 else
 some (.inl (.L2 E0 v6 v7 (IntKind.wrap .i64 (v10 + 1))))
 else
 some (.inl (.L3 E0 v6 v7 0))
def Z6e (E0 : Zi) (v6 : (List (List UInt8))) (v7 : (List (List UInt8))) (v11 : Int) : Option (Ze3 ⊕ (List UInt8)) :=
 bif decide (v11 < 5) then
 Option.bind (Z09 E0.NotColors v11) fun x2 =>
 bif x2 then
 Option.bind (Z0f v11) fun x5 =>
 Option.bind (ok? (decide (([110, 111, 110, 45] : List UInt8).length + x5.length ≤ 9223372036854775807))) fun x8 =>
 Option.bind (app? 16 v7 [(([110, 111, 110, 45] : List UInt8) ++ x5)]) fun x11 =>
 some (.inl (.L3 E0 v6 x11 (IntKind.wrap .i64 (v11 + 1))))
 else
 some (.inl (.L3 E0 v6 v7 (IntKind.wrap .i64 (v11 + 1))))
 else
 bif (!(E0.Sub == ([] : List UInt8))) then
 Option.bind (ok? (decide (([115, 117, 98, 58] : List UInt8).length + E0.Sub.length ≤ 9223372036854775807))) fun x21 =>
 Option.bind (app? 16 v7 [(([115, 117, 98, 58] : List UInt8) ++ E0.Sub)]) fun x24 =>
 Zuw E0 v6 x24
 else
 Zuw E0 v6 v7
def Z6f (E0 : Zi) (v6 : (List (List UInt8))) (v7 : (List (List UInt8))) (v12 : Int) : Option (Ze3 ⊕ (List UInt8)) :=
 bif decide (v12 < 17) then
 Option.bind (Z09 E0.Keys v12) fun x2 =>
 bif x2 then
 Option.bind (Z4z v12) fun x5 =>
 Option.bind (ok? (decide (([119, 105, 116, 104, 58] : List UInt8).length + x5.length ≤ 9223372036854775807))) fun x8 =>
 Option.bind (app? 16 v7 [(([119, 105, 116, 104, 58] : List UInt8) ++ x5)]) fun x11 =>
 some (.inl (.L5 E0 v6 x11 (IntKind.wrap .i64 (v12 + 1))))
 else
 some (.inl (.L5 E0 v6 v7 (IntKind.wrap .i64 (v12 + 1))))
 else
 Option.bind (idx? v6 E0.Tap) fun x19 =>
 Option.bind (Zkd v7 x19) fun x21 =>
 Option.bind (Zp1 ([112, 111, 119, 101, 114] : List UInt8) E0.Power) fun x23 =>
 Option.bind (Zkd x21 x23) fun x25 =>
 Option.bind (Zp1 ([116, 111, 117, 103, 104] : List UInt8) E0.Tough) fun x27 =>
 Option.bind (Zkd x25 x27) fun x29 =>
 Option.bind (Zp1 ([118, 97, 108, 117, 101] : List UInt8) E0.Value) fun x31 =>
 Option.bind (Zkd x29 x31) fun x33 =>
 bif ((x33.length : Int) == 0) then
 some (.inr ([97, 110, 121] : List UInt8))
 else
 Option.bind (Zajw x33 ([32] : List UInt8)) fun x37 =>
 some (.inr x37)
def Za7y : Ze3 → Option (Ze3 ⊕ (List UInt8))
 | .L0 E0 v6 v7 v8 => Z6b E0 v6 v7 v8
 | .L1 E0 v6 v7 v9 => Z6c E0 v6 v7 v9
 | .L2 E0 v6 v7 v10 => Z6d E0 v6 v7 v10
 | .L3 E0 v6 v7 v11 => Z6e E0 v6 v7 v11
 | .L4 E0 v6 v7 => Zuw E0 v6 v7
 | .L5 E0 v6 v7 v12 => Z6f E0 v6 v7 v12
def Zajx (a0 : Zi) : Option (Ze3 ⊕ (List UInt8)) :=
 Option.bind (Zqa a0) fun x1 =>
 bif (!x1) then
 some (.inr ([] : List UInt8))
 else
 Option.bind (Zuc) fun x4 =>
 Option.bind (Zwd) fun x6 =>
 Option.bind (Zud) fun x8 =>
 Option.bind (Zwe) fun x10 =>
 Option.bind (idx? x4 a0.Zone) fun x12 =>
 Option.bind (Zkd ([] : (List (List UInt8))) x12) fun x14 =>
 Option.bind (idx? x6 a0.Who) fun x16 =>
 Option.bind (Zkd x14 x16) fun x18 =>
 Option.bind (idx? x8 a0.Self) fun x20 =>
 Option.bind (Zkd x18 x20) fun x22 =>
 some (.inl (.L0 a0 x10 x22 0))
noncomputable def Zajy (a0 : Zi) : Option (List UInt8) := (Zajx a0).bind (endO Za7y)
abbrev Zoh := Empty
def Za7z : Zoh → Option (Zoh ⊕ (List UInt8)) := fun s => nomatch s
def Zajz (a0 : Zg) : Option (Zoh ⊕ (List UInt8)) :=
 Option.bind (Zaoo a0) fun x1 =>
 bif (!x1) then
 some (.inr ([] : List UInt8))
 else
 bif (a0.Kind == 1) then
 some (.inr ([99, 111, 110, 116, 114, 111, 108] : List UInt8))
 else
 bif (a0.Kind == 2) then
 Option.bind (Zp0 a0.N) fun x6 =>
 Option.bind (ok? (decide (([116, 121, 112, 101, 115, 61] : List UInt8).length + x6.length ≤ 9223372036854775807))) fun x9 =>
 some (.inr (([116, 121, 112, 101, 115, 61] : List UInt8) ++ x6))
 else
 bif (a0.Kind == 3) then
 Option.bind (Zp0 a0.N) fun x12 =>
 Option.bind (ok? (decide (([116, 121, 112, 101, 115, 43, 61] : List UInt8).length + x12.length ≤ 9223372036854775807))) fun x15 =>
 some (.inr (([116, 121, 112, 101, 115, 43, 61] : List UInt8) ++ x12))
 else
 bif (a0.Kind == 4) then
 Option.bind (ok? (decide (([115, 117, 98, 61] : List UInt8).length + a0.Sub.length ≤ 9223372036854775807))) fun x19 =>
 some (.inr (([115, 117, 98, 61] : List UInt8) ++ a0.Sub))
 else
 bif (a0.Kind == 5) then
 Option.bind (ok? (decide (([115, 117, 98, 43, 61] : List UInt8).length + a0.Sub.length ≤ 9223372036854775807))) fun x23 =>
 some (.inr (([115, 117, 98, 43, 61] : List UInt8) ++ a0.Sub))
 else
 bif (a0.Kind == 6) then
 Option.bind (Zabb a0.N) fun x26 =>
 Option.bind (ok? (decide (([99, 111, 108, 111, 114, 115, 61] : List UInt8).length + x26.length ≤ 9223372036854775807))) fun x29 =>
 some (.inr (([99, 111, 108, 111, 114, 115, 61] : List UInt8) ++ x26))
 else
 bif (a0.Kind == 7) then
 Option.bind (Zabb a0.N) fun x32 =>
 Option.bind (ok? (decide (([99, 111, 108, 111, 114, 115, 43, 61] : List UInt8).length + x32.length ≤ 9223372036854775807))) fun x35 =>
 some (.inr (([99, 111, 108, 111, 114, 115, 43, 61] : List UInt8) ++ x32))
 else
 bif (a0.Kind == 8) then
 Option.bind (Zabc a0.N) fun x38 =>
 Option.bind (ok? (decide (([107, 101, 121, 115, 43, 61] : List UInt8).length + x38.length ≤ 9223372036854775807))) fun x41 =>
 some (.inr (([107, 101, 121, 115, 43, 61] : List UInt8) ++ x38))
 else
 bif (a0.Kind == 9) then
 Option.bind (Zabc a0.N) fun x44 =>
 Option.bind (ok? (decide (([107, 101, 121, 115, 45, 61] : List UInt8).length + x44.length ≤ 9223372036854775807))) fun x47 =>
 some (.inr (([107, 101, 121, 115, 45, 61] : List UInt8) ++ x44))
 else
 bif (a0.Kind == 10) then
 some (.inr ([98, 108, 97, 110, 107] : List UInt8))
 else
 bif (a0.Kind == 11) then
 Option.bind (Zajy a0.Filter) fun x51 =>
 Option.bind (ok? (decide (([112, 116, 61, 99, 111, 117, 110, 116, 40] : List UInt8).length + x51.length ≤ 9223372036854775807))) fun x53 =>
 Option.bind (ok? (decide ((([112, 116, 61, 99, 111, 117, 110, 116, 40] : List UInt8) ++ x51).length + ([41] : List UInt8).length ≤ 9223372036854775807))) fun x55 =>
 some (.inr ((([112, 116, 61, 99, 111, 117, 110, 116, 40] : List UInt8) ++ x51) ++ ([41] : List UInt8)))
 else
 bif (a0.Kind == 12) then
 Option.bind (Ztc a0.N) fun x58 =>
 Option.bind (ok? (decide (([112, 116, 61] : List UInt8).length + x58.length ≤ 9223372036854775807))) fun x61 =>
 Option.bind (ok? (decide ((([112, 116, 61] : List UInt8) ++ x58).length + ([47] : List UInt8).length ≤ 9223372036854775807))) fun x63 =>
 Option.bind (Ztc a0.M) fun x65 =>
 Option.bind (ok? (decide (((([112, 116, 61] : List UInt8) ++ x58) ++ ([47] : List UInt8)).length + x65.length ≤ 9223372036854775807))) fun x68 =>
 some (.inr (((([112, 116, 61] : List UInt8) ++ x58) ++ ([47] : List UInt8)) ++ x65))
 else
 bif (a0.Kind == 13) then
 Option.bind (Ztc a0.N) fun x71 =>
 Option.bind (ok? (decide (([112, 116, 43, 61] : List UInt8).length + x71.length ≤ 9223372036854775807))) fun x74 =>
 Option.bind (ok? (decide ((([112, 116, 43, 61] : List UInt8) ++ x71).length + ([47] : List UInt8).length ≤ 9223372036854775807))) fun x76 =>
 Option.bind (Ztc a0.M) fun x78 =>
 Option.bind (ok? (decide (((([112, 116, 43, 61] : List UInt8) ++ x71) ++ ([47] : List UInt8)).length + x78.length ≤ 9223372036854775807))) fun x81 =>
 some (.inr (((([112, 116, 43, 61] : List UInt8) ++ x71) ++ ([47] : List UInt8)) ++ x78))
 else
 some (.inr ([112, 116, 45, 115, 119, 105, 116, 99, 104] : List UInt8))
noncomputable def Zabe (a0 : Zg) : Option (List UInt8) := (Zajz a0).bind (endO Za7z)
inductive Zg3 where
 | L0 (v0 : (List Zg)) (v3 : (List UInt8)) (v4 : Int)
def Zvl (v0 : (List Zg)) (v3 : (List UInt8)) (v4 : Int) : Option (Zg3 ⊕ (List UInt8)) :=
 bif decide (v4 < (v0.length : Int)) then
 Option.bind (idx? v0 v4) fun x3 =>
 Option.bind (Zaoo x3) fun x5 =>
 bif (!x5) then
 some (.inr ([] : List UInt8))
 else
 bif decide (v4 > 0) then
 Option.bind (ok? (decide (v3.length + ([44, 32] : List UInt8).length ≤ 9223372036854775807))) fun x9 =>
 Option.bind (Zabe x3) fun x11 =>
 Option.bind (ok? (decide ((v3 ++ ([44, 32] : List UInt8)).length + x11.length ≤ 9223372036854775807))) fun x13 =>
 some (.inl (.L0 v0 ((v3 ++ ([44, 32] : List UInt8)) ++ x11) (IntKind.wrap .i64 (v4 + 1))))
 else
 Option.bind (Zabe x3) fun x17 =>
 Option.bind (ok? (decide (v3.length + x17.length ≤ 9223372036854775807))) fun x19 =>
 some (.inl (.L0 v0 (v3 ++ x17) (IntKind.wrap .i64 (v4 + 1))))
 else
 some (.inr v3)
def Zasm : Zg3 → Option (Zg3 ⊕ (List UInt8))
 | .L0 v0 v3 v4 => Zvl v0 v3 v4
def Z44 (a0 : (List Zg)) : Option (Zg3 ⊕ (List UInt8)) :=
 bif ((a0.length : Int) == 0) then
 some (.inr ([] : List UInt8))
 else
 bif decide ((a0.length : Int) > 6) then
 some (.inr ([] : List UInt8))
 else
 some (.inl (.L0 a0 ([] : List UInt8) 0))
noncomputable def Zrm (a0 : (List Zg)) : Option (List UInt8) := (Z44 a0).bind (endO Zasm)
abbrev Zm6 := Empty
def Za35 : Zm6 → Option (Zm6 ⊕ Bool) := fun s => nomatch s
def Zagg (a0 : Zih) : Option (Zm6 ⊕ Bool) :=
 Option.bind (Zaa9 a0.Mana) fun x1 =>
 bif x1 then
 bif (a0.Mana.X == 0) then
 bif decide (a0.Life ≥ 0) then
 some (.inr (decide (a0.Life ≤ 99)))
 else
 some (.inr false)
 else
 some (.inr false)
 else
 some (.inr false)
noncomputable def Zaeu (a0 : Zih) : Option Bool := (Zagg a0).bind (endO Za35)
abbrev Zoi := Empty
def Za70 : Zoi → Option (Zoi ⊕ (List UInt8)) := fun s => nomatch s
def Zaj0 (a0 : Int) : Option (Zoi ⊕ (List UInt8)) :=
 bif (a0 == 1) then
 some (.inr ([101, 110, 116, 101, 114, 115] : List UInt8))
 else
 bif (a0 == 2) then
 some (.inr ([108, 101, 97, 118, 101, 115] : List UInt8))
 else
 bif (a0 == 3) then
 some (.inr ([100, 105, 101, 115] : List UInt8))
 else
 bif (a0 == 4) then
 some (.inr ([97, 116, 116, 97, 99, 107, 115] : List UInt8))
 else
 bif (a0 == 5) then
 some (.inr ([98, 108, 111, 99, 107, 115] : List UInt8))
 else
 bif (a0 == 6) then
 some (.inr ([100, 101, 97, 108, 115] : List UInt8))
 else
 bif (a0 == 7) then
 some (.inr ([100, 101, 97, 108, 116] : List UInt8))
 else
 bif (a0 == 8) then
 some (.inr ([100, 114, 97, 119, 115] : List UInt8))
 else
 bif (a0 == 9) then
 some (.inr ([99, 97, 115, 116, 115] : List UInt8))
 else
 bif (a0 == 10) then
 some (.inr ([117, 112, 107, 101, 101, 112] : List UInt8))
 else
 bif (a0 == 11) then
 some (.inr ([101, 110, 100] : List UInt8))
 else
 bif (a0 == 12) then
 some (.inr ([103, 97, 105, 110, 115] : List UInt8))
 else
 bif (a0 == 13) then
 some (.inr ([108, 111, 115, 101, 115] : List UInt8))
 else
 bif (a0 == 14) then
 some (.inr ([112, 108, 97, 99, 101, 100] : List UInt8))
 else
 some (.inr ([] : List UInt8))
noncomputable def Zabf (a0 : Int) : Option (List UInt8) := (Zaj0 a0).bind (endO Za70)
abbrev Zll := Empty
def Zazu : Zll → Option (Zll ⊕ Bool) := fun s => nomatch s
def Zabg (a0 : Int) : Option (Zll ⊕ Bool) :=
 bif (a0 == 8) then
 some (.inr true)
 else
 bif (a0 == 9) then
 some (.inr true)
 else
 bif (a0 == 10) then
 some (.inr true)
 else
 bif (a0 == 11) then
 some (.inr true)
 else
 bif (a0 == 12) then
 some (.inr true)
 else
 some (.inr (a0 == 13))
noncomputable def Z2c (a0 : Int) : Option Bool := (Zabg a0).bind (endO Zazu)
abbrev Zir := Empty
def Zaou : Zir → Option (Zir ⊕ Bool) := fun s => nomatch s
def Z2d (a0 : Int) : Option (Zir ⊕ Bool) :=
 Option.bind (Zabf a0) fun x1 =>
 bif (!(x1 == ([] : List UInt8))) then
 Option.bind (Z2c a0) fun x4 =>
 bif (!x4) then
 some (.inr true)
 else
 some (.inr (a0 == 9))
 else
 some (.inr false)
noncomputable def Zzj (a0 : Int) : Option Bool := (Z2d a0).bind (endO Zaou)
inductive Zpf where
 | L0 (E0 : Zdj)
def Z1a (E0 : Zdj) : Option (Zpf ⊕ Bool) :=
 Option.bind (Zzj E0.When) fun x1 =>
 bif (!x1) then
 some (.inr (eqTs (Zv E0.Filter) (Zv (⟨0, 0, 0, 0, 0, 0, 0, ([] : List UInt8), 0, 0, (⟨0, 0⟩ : Ze), (⟨0, 0⟩ : Ze), (⟨0, 0⟩ : Ze)⟩ : Zi))))
 else
 bif (E0.When == 9) then
 Option.bind (Zqa E0.Filter) fun x5 =>
 bif x5 then
 some (.inr (E0.Filter.Zone == 5))
 else
 some (.inr false)
 else
 Option.bind (Zqa E0.Filter) fun x8 =>
 bif x8 then
 some (.inr (E0.Filter.Zone == 0))
 else
 some (.inr false)
def Zbhi : Zpf → Option (Zpf ⊕ Bool)
 | .L0 E0 => Z1a E0
def Zav8 (a0 : Zdj) : Option (Zpf ⊕ Bool) :=
 Option.bind (Zabf a0.When) fun x1 =>
 bif (x1 == ([] : List UInt8)) then
 some (.inr false)
 else
 bif decide (a0.Who < 0) then
 some (.inr false)
 else
 bif decide (a0.Who > 2) then
 some (.inr false)
 else
 Option.bind (Z2c a0.When) fun x6 =>
 bif (!x6) then
 bif (a0.Who != 0) then
 some (.inr false)
 else
 Z1a a0
 else
 Z1a a0
noncomputable def Zazv (a0 : Zdj) : Option Bool := (Zav8 a0).bind (endO Zbhi)
abbrev Zm7 := Empty
def Za36 : Zm7 → Option (Zm7 ⊕ Bool) := fun s => nomatch s
def Zagh (a0 : Zi) : Option (Zm7 ⊕ Bool) :=
 Option.bind (Zqa a0) fun x1 =>
 bif x1 then
 some (.inr (a0.Zone == 0))
 else
 some (.inr false)
noncomputable def Z1b (a0 : Zi) : Option Bool := (Zagh a0).bind (endO Za36)
abbrev Zm8 := Empty
def Za37 : Zm8 → Option (Zm8 ⊕ Bool) := fun s => nomatch s
def Zagi (a0 : Za1) : Option (Zm8 ⊕ Bool) :=
 bif (a0.Who != 0) then
 some (.inr false)
 else
 Option.bind (Z1b a0.Filter) fun x2 =>
 bif (!x2) then
 some (.inr false)
 else
 bif (a0.Do == 5) then
 bif (a0.N == 0) then
 bif (a0.Counter == 0) then
 bif (a0.Zone == 1) then
 some (.inr true)
 else
 bif (a0.Zone == 2) then
 some (.inr true)
 else
 some (.inr (a0.Zone == 4))
 else
 some (.inr false)
 else
 some (.inr false)
 else
 bif (a0.Do == 6) then
 bif (a0.N == 0) then
 bif (a0.Counter == 0) then
 some (.inr (a0.Zone == 0))
 else
 some (.inr false)
 else
 some (.inr false)
 else
 bif (a0.Do == 7) then
 bif (a0.Zone == 0) then
 bif decide (a0.N ≥ 1) then
 bif decide (a0.N ≤ 99) then
 bif decide (a0.Counter ≥ 0) then
 some (.inr (decide (a0.Counter < 3)))
 else
 some (.inr false)
 else
 some (.inr false)
 else
 some (.inr false)
 else
 some (.inr false)
 else
 some (.inr false)
noncomputable def Zaev (a0 : Za1) : Option Bool := (Zagi a0).bind (endO Za37)
abbrev Zm9 := Empty
def Za38 : Zm9 → Option (Zm9 ⊕ Bool) := fun s => nomatch s
def Zagj (a0 : Za1) : Option (Zm9 ⊕ Bool) :=
 bif (a0.Zone != 0) then
 some (.inr false)
 else
 bif (a0.Counter != 0) then
 some (.inr false)
 else
 bif (a0.Do == 2) then
 bif decide (a0.N ≥ 1) then
 some (.inr (decide (a0.N ≤ 99)))
 else
 some (.inr false)
 else
 bif (a0.Do == 4) then
 bif decide (a0.N ≥ 1) then
 some (.inr (decide (a0.N ≤ 99)))
 else
 some (.inr false)
 else
 some (.inr (a0.N == 0))
noncomputable def Zaew (a0 : Za1) : Option Bool := (Zagj a0).bind (endO Za38)
inductive Zkt where
 | L0 (E0 : Za1) (v3 : Bool) (v4 : Bool)
 | L1 (E0 : Za1) (v3 : Bool)
 | L2 (E0 : Za1) (v3 : Bool) (v4 : Bool) (v109 : Bool)
def Zwg (E0 : Za1) (v3 : Bool) (v4 : Bool) (v109 : Bool) : Option (Zkt ⊕ Bool) :=
 bif v109 then
 bif v4 then
 bif decide (E0.Who ≥ 0) then
 bif decide (E0.Who ≤ 2) then
 some (.inr v3)
 else
 some (.inr false)
 else
 some (.inr false)
 else
 some (.inr false)
 else
 some (.inr false)
def Zsy (E0 : Za1) (v3 : Bool) : Option (Zkt ⊕ Bool) :=
 bif (E0.Who == 0) then
 Option.bind (Z1b E0.Filter) fun x2 =>
 bif x2 then
 some (.inr true)
 else
 bif (E0.Who == 1) then
 some (.inr v3)
 else
 bif (E0.Who == 2) then
 some (.inr v3)
 else
 some (.inr false)
 else
 bif (E0.Who == 1) then
 some (.inr v3)
 else
 bif (E0.Who == 2) then
 some (.inr v3)
 else
 some (.inr false)
def Zwh (E0 : Za1) (v3 : Bool) (v4 : Bool) : Option (Zkt ⊕ Bool) :=
 bif (E0.On == 1) then
 bif (E0.Do != 1) then
 bif (E0.Do != 2) then
 bif (E0.Do != 3) then
 bif (E0.Do != 4) then
 some (.inr false)
 else
 Zsy E0 v3
 else
 Zsy E0 v3
 else
 Zsy E0 v3
 else
 Zsy E0 v3
 else
 bif (E0.On == 8) then
 bif v4 then
 bif (E0.Who == 0) then
 Option.bind (Z1b E0.Filter) fun x9 =>
 some (.inr x9)
 else
 some (.inr false)
 else
 some (.inr false)
 else
 bif (E0.On == 3) then
 bif (E0.Do == 4) then
 bif decide (E0.Who ≥ 0) then
 bif decide (E0.Who ≤ 2) then
 some (.inr v3)
 else
 some (.inr false)
 else
 some (.inr false)
 else
 bif (E0.Do == 8) then
 bif decide (E0.Who ≥ 0) then
 bif decide (E0.Who ≤ 2) then
 some (.inr v3)
 else
 some (.inr false)
 else
 some (.inr false)
 else
 some (.inr false)
 else
 bif (E0.On == 4) then
 Zwg E0 v3 v4 (E0.On == 4)
 else
 bif (E0.On == 5) then
 Zwg E0 v3 v4 (E0.On == 5)
 else
 Zwg E0 v3 v4 (E0.On == 10)
def Zbhj : Zkt → Option (Zkt ⊕ Bool)
 | .L0 E0 v3 v4 => Zwh E0 v3 v4
 | .L1 E0 v3 => Zsy E0 v3
 | .L2 E0 v3 v4 v109 => Zwg E0 v3 v4 v109
def Zav9 (a0 : Za1) : Option (Zkt ⊕ Bool) :=
 bif (a0.On == 2) then
 Option.bind (Zaev a0) fun x2 =>
 some (.inr x2)
 else
 Option.bind (Zaew a0) fun x4 =>
 bif (!x4) then
 some (.inr false)
 else
 bif (a0.Do == 3) then
 Zwh a0 (eqTs (Zv a0.Filter) (Zv (⟨0, 0, 0, 0, 0, 0, 0, ([] : List UInt8), 0, 0, (⟨0, 0⟩ : Ze), (⟨0, 0⟩ : Ze), (⟨0, 0⟩ : Ze)⟩ : Zi))) true
 else
 bif (a0.Do == 4) then
 Zwh a0 (eqTs (Zv a0.Filter) (Zv (⟨0, 0, 0, 0, 0, 0, 0, ([] : List UInt8), 0, 0, (⟨0, 0⟩ : Ze), (⟨0, 0⟩ : Ze), (⟨0, 0⟩ : Ze)⟩ : Zi))) true
 else
 Zwh a0 (eqTs (Zv a0.Filter) (Zv (⟨0, 0, 0, 0, 0, 0, 0, ([] : List UInt8), 0, 0, (⟨0, 0⟩ : Ze), (⟨0, 0⟩ : Ze), (⟨0, 0⟩ : Ze)⟩ : Zi))) (a0.Do == 8)
noncomputable def Zazw (a0 : Za1) : Option Bool := (Zav9 a0).bind (endO Zbhj)
abbrev Zoj := Empty
def Za71 : Zoj → Option (Zoj ⊕ Bool) := fun s => nomatch s
def Zaj1 (a0 : Zai) : Option (Zoj ⊕ Bool) :=
 bif (!a0.Object) then
 bif a0.Player then
 some (.inr (eqTs (Zv a0.Filter) (Zv (⟨0, 0, 0, 0, 0, 0, 0, ([] : List UInt8), 0, 0, (⟨0, 0⟩ : Ze), (⟨0, 0⟩ : Ze), (⟨0, 0⟩ : Ze)⟩ : Zi))))
 else
 some (.inr false)
 else
 Option.bind (Zqa a0.Filter) fun x3 =>
 bif x3 then
 bif (a0.Filter.Zone == 0) then
 some (.inr true)
 else
 bif (a0.Filter.Zone == 3) then
 some (.inr true)
 else
 some (.inr (a0.Filter.Zone == 5))
 else
 some (.inr false)
noncomputable def Zaj2 (a0 : Zai) : Option Bool := (Zaj1 a0).bind (endO Za71)
inductive Zke where
 | L0 (v0 : (List Zai)) (v3 : Int)
def Z2e (v0 : (List Zai)) (v3 : Int) : Option (Zke ⊕ Bool) :=
 bif decide (v3 < (v0.length : Int)) then
 Option.bind (idx? v0 v3) fun x3 =>
 Option.bind (Zaj2 x3) fun x5 =>
 bif (!x5) then
 some (.inr false)
 else
 some (.inl (.L0 v0 (IntKind.wrap .i64 (v3 + 1))))
 else
 some (.inr (decide ((v0.length : Int) ≤ 4)))
def Za39 : Zke → Option (Zke ⊕ Bool)
 | .L0 v0 v3 => Z2e v0 v3
def Zagk (a0 : (List Zai)) : Option (Zke ⊕ Bool) :=
 some (.inl (.L0 a0 0))
noncomputable def Zaex (a0 : (List Zai)) : Option Bool := (Zagk a0).bind (endO Za39)
abbrev Zok := Empty
def Za72 : Zok → Option (Zok ⊕ (List UInt8)) := fun s => nomatch s
def Zaj3 (a0 : Int) : Option (Zok ⊕ (List UInt8)) :=
 bif decide (a0 < 1) then
 some (.inr ([] : List UInt8))
 else
 bif decide (a0 > 26) then
 some (.inr ([] : List UInt8))
 else
 Option.bind (idx? [([100, 97, 109, 97, 103, 101] : List UInt8), ([100, 101, 115, 116, 114, 111, 121] : List UInt8), ([109, 111, 118, 101] : List UInt8), ([100, 114, 97, 119] : List UInt8), ([100, 105, 115, 99, 97, 114, 100] : List UInt8), ([103, 97, 105, 110] : List UInt8), ([108, 111, 115, 101] : List UInt8), ([116, 97, 112] : List UInt8), ([117, 110, 116, 97, 112] : List UInt8), ([112, 117, 116] : List UInt8), ([116, 97, 107, 101] : List UInt8), ([99, 114, 101, 97, 116, 101] : List UInt8), ([109, 111, 100] : List UInt8), ([109, 97, 110, 97] : List UInt8), ([99, 111, 117, 110, 116, 101, 114] : List UInt8), ([99, 111, 112, 121] : List UInt8), ([98, 101, 99, 111, 109, 101] : List UInt8), ([115, 97, 99, 114, 105, 102, 105, 99, 101] : List UInt8), ([109, 105, 108, 108] : List UInt8), ([115, 99, 114, 121] : List UInt8), ([115, 101, 97, 114, 99, 104] : List UInt8), ([115, 104, 105, 101, 108, 100] : List UInt8), ([116, 117, 114, 110] : List UInt8), ([119, 105, 110] : List UInt8), ([100, 101, 102, 101, 97, 116] : List UInt8), ([118, 101, 110, 111, 109] : List UInt8)] (IntKind.wrap .i64 (a0 - 1))) fun x6 =>
 some (.inr x6)
noncomputable def Zaj4 (a0 : Int) : Option (List UInt8) := (Zaj3 a0).bind (endO Za72)
inductive Zjm where
 | L0 (v3 : Int) (v4 : Bool)
 | L1 (v3 : Int) (v14 : Bool)
def Zux (v3 : Int) (v14 : Bool) : Option (Zjm ⊕ (List UInt8)) :=
 bif v14 then
 some (.inr ([114, 107, 97] : List UInt8))
 else
 bif (v3 == 12) then
 some (.inr ([114, 99, 97] : List UInt8))
 else
 bif (v3 == 13) then
 some (.inr ([114, 109] : List UInt8))
 else
 bif (v3 == 14) then
 some (.inr ([112] : List UInt8))
 else
 bif (v3 == 18) then
 some (.inr ([114, 97, 102] : List UInt8))
 else
 bif (v3 == 20) then
 some (.inr ([97] : List UInt8))
 else
 bif (v3 == 21) then
 some (.inr ([102] : List UInt8))
 else
 bif (v3 == 23) then
 some (.inr ([] : List UInt8))
 else
 bif (v3 == 24) then
 some (.inr ([] : List UInt8))
 else
 some (.inr ([114, 97] : List UInt8))
def Zkf (v3 : Int) (v4 : Bool) : Option (Zjm ⊕ (List UInt8)) :=
 bif v4 then
 some (.inr ([114] : List UInt8))
 else
 bif (v3 == 3) then
 some (.inr ([114, 122] : List UInt8))
 else
 bif (v3 == 10) then
 Zux v3 (v3 == 10)
 else
 Zux v3 (v3 == 11)
def Za73 : Zjm → Option (Zjm ⊕ (List UInt8))
 | .L0 v3 v4 => Zkf v3 v4
 | .L1 v3 v14 => Zux v3 v14
def Zaj5 (a0 : Int) : Option (Zjm ⊕ (List UInt8)) :=
 bif (a0 == 2) then
 Zkf a0 (a0 == 2)
 else
 bif (a0 == 8) then
 Zkf a0 (a0 == 8)
 else
 bif (a0 == 9) then
 Zkf a0 (a0 == 9)
 else
 bif (a0 == 15) then
 Zkf a0 (a0 == 15)
 else
 bif (a0 == 16) then
 Zkf a0 (a0 == 16)
 else
 bif (a0 == 17) then
 Zkf a0 (a0 == 17)
 else
 Zkf a0 (a0 == 25)
noncomputable def Zaj6 (a0 : Int) : Option (List UInt8) := (Zaj5 a0).bind (endO Za73)
inductive Zlm where
 | L0 (v1 : Int) (v5 : (List UInt8)) (v6 : Int)
def Z6g (v1 : Int) (v5 : (List UInt8)) (v6 : Int) : Option (Zlm ⊕ Bool) :=
 bif decide (v6 < (v5.length : Int)) then
 Option.bind (idx? v5 v6) fun x3 =>
 bif ((UInt8.toNat x3 : Int) == v1) then
 some (.inr true)
 else
 some (.inl (.L0 v1 v5 (IntKind.wrap .i64 (v6 + 1))))
 else
 some (.inr false)
def Za74 : Zlm → Option (Zlm ⊕ Bool)
 | .L0 v1 v5 v6 => Z6g v1 v5 v6
def Zaj7 (a0 : Int) (a1 : Int) : Option (Zlm ⊕ Bool) :=
 Option.bind (Zaj6 a0) fun x1 =>
 some (.inl (.L0 a1 x1 0))
noncomputable def Zpg (a0 : Int) (a1 : Int) : Option Bool := (Zaj7 a0 a1).bind (endO Za74)
abbrev Zjn := Empty
def Zasn : Zjn → Option (Zjn ⊕ Bool) := fun s => nomatch s
def Z45 (a0 : Int) : Option (Zjn ⊕ Bool) :=
 bif (a0 == 3) then
 some (.inr true)
 else
 some (.inr (a0 == 8))
noncomputable def Z2f (a0 : Int) : Option Bool := (Z45 a0).bind (endO Zasn)
inductive Zmp where
 | L0 (v1 : Int) (E0 : Zgo)
 | L1 (E0 : Zgo)
def Z1c (E0 : Zgo) : Option (Zmp ⊕ Bool) :=
 bif (E0.Kind == 4) then
 Option.bind (Zqa E0.Filter) fun x2 =>
 some (.inr x2)
 else
 some (.inr (eqTs (Zv E0.Filter) (Zv (⟨0, 0, 0, 0, 0, 0, 0, ([] : List UInt8), 0, 0, (⟨0, 0⟩ : Ze), (⟨0, 0⟩ : Ze), (⟨0, 0⟩ : Ze)⟩ : Zi))))
def Z1d (v1 : Int) (E0 : Zgo) : Option (Zmp ⊕ Bool) :=
 bif decide (E0.Kind < 1) then
 some (.inr false)
 else
 bif decide (E0.Kind > 8) then
 some (.inr false)
 else
 Option.bind (Z2f E0.Kind) fun x3 =>
 bif x3 then
 bif decide (E0.N < 1) then
 some (.inr false)
 else
 bif decide (E0.N > v1) then
 some (.inr false)
 else
 Z1c E0
 else
 bif (E0.N != 0) then
 some (.inr false)
 else
 Z1c E0
def Zbhk : Zmp → Option (Zmp ⊕ Bool)
 | .L0 v1 E0 => Z1d v1 E0
 | .L1 E0 => Z1c E0
def Zawa (a0 : Zgo) (a1 : Int) : Option (Zmp ⊕ Bool) :=
 bif decide (a1 > 4) then
 Z1d 4 a0
 else
 Z1d a1 a0
noncomputable def Zazx (a0 : Zgo) (a1 : Int) : Option Bool := (Zawa a0 a1).bind (endO Zbhk)
abbrev Zol := Empty
def Za75 : Zol → Option (Zol ⊕ (List UInt8)) := fun s => nomatch s
def Zaj8 (a0 : Int) : Option (Zol ⊕ (List UInt8)) :=
 bif (a0 == 0) then
 some (.inr ([112, 108, 117, 115] : List UInt8))
 else
 bif (a0 == 1) then
 some (.inr ([109, 105, 110, 117, 115] : List UInt8))
 else
 bif (a0 == 2) then
 some (.inr ([99, 104, 97, 114, 103, 101] : List UInt8))
 else
 some (.inr ([] : List UInt8))
noncomputable def Zabh (a0 : Int) : Option (List UInt8) := (Zaj8 a0).bind (endO Za75)
abbrev Ztd := Empty
def Zbhl : Ztd → Option (Ztd ⊕ Bool) := fun s => nomatch s
def Zawb (a0 : Zd3) : Option (Ztd ⊕ Bool) :=
 bif (a0.Kind == 0) then
 bif decide (a0.N < 0) then
 some (.inr false)
 else
 bif decide (a0.N > 1000000) then
 some (.inr false)
 else
 bif decide (a0.Kind ≥ 0) then
 bif decide (a0.Kind ≤ 7) then
 some (.inr (eqTs (Zb2 (⟨a0.Kind, 0, a0.Counter, a0.Filter⟩ : Zd3)) (Zb2 (⟨a0.Kind, 0, 0, (⟨0, 0, 0, 0, 0, 0, 0, ([] : List UInt8), 0, 0, (⟨0, 0⟩ : Ze), (⟨0, 0⟩ : Ze), (⟨0, 0⟩ : Ze)⟩ : Zi)⟩ : Zd3))))
 else
 some (.inr false)
 else
 some (.inr false)
 else
 bif (a0.Kind == 2) then
 bif decide (a0.N < 1) then
 some (.inr false)
 else
 bif decide (a0.N > 99) then
 some (.inr false)
 else
 Option.bind (Zqa a0.Filter) fun x9 =>
 bif (!x9) then
 some (.inr false)
 else
 bif decide (a0.Kind ≥ 0) then
 bif decide (a0.Kind ≤ 7) then
 some (.inr (eqTs (Zb2 (⟨a0.Kind, 0, a0.Counter, (⟨0, 0, 0, 0, 0, 0, 0, ([] : List UInt8), 0, 0, (⟨0, 0⟩ : Ze), (⟨0, 0⟩ : Ze), (⟨0, 0⟩ : Ze)⟩ : Zi)⟩ : Zd3)) (Zb2 (⟨a0.Kind, 0, 0, (⟨0, 0, 0, 0, 0, 0, 0, ([] : List UInt8), 0, 0, (⟨0, 0⟩ : Ze), (⟨0, 0⟩ : Ze), (⟨0, 0⟩ : Ze)⟩ : Zi)⟩ : Zd3))))
 else
 some (.inr false)
 else
 some (.inr false)
 else
 bif (a0.Kind == 4) then
 Option.bind (Zabh a0.Counter) fun x15 =>
 bif (x15 == ([] : List UInt8)) then
 some (.inr false)
 else
 bif decide (a0.Kind ≥ 0) then
 bif decide (a0.Kind ≤ 7) then
 some (.inr (eqTs (Zb2 (⟨a0.Kind, a0.N, 0, a0.Filter⟩ : Zd3)) (Zb2 (⟨a0.Kind, 0, 0, (⟨0, 0, 0, 0, 0, 0, 0, ([] : List UInt8), 0, 0, (⟨0, 0⟩ : Ze), (⟨0, 0⟩ : Ze), (⟨0, 0⟩ : Ze)⟩ : Zi)⟩ : Zd3))))
 else
 some (.inr false)
 else
 some (.inr false)
 else
 bif decide (a0.Kind ≥ 0) then
 bif decide (a0.Kind ≤ 7) then
 some (.inr (eqTs (Zb2 a0) (Zb2 (⟨a0.Kind, 0, 0, (⟨0, 0, 0, 0, 0, 0, 0, ([] : List UInt8), 0, 0, (⟨0, 0⟩ : Ze), (⟨0, 0⟩ : Ze), (⟨0, 0⟩ : Ze)⟩ : Zi)⟩ : Zd3))))
 else
 some (.inr false)
 else
 some (.inr false)
noncomputable def Zazy (a0 : Zd3) : Option Bool := (Zawb a0).bind (endO Zbhl)
abbrev Zom := Empty
def Za76 : Zom → Option (Zom ⊕ Bool) := fun s => nomatch s
def Zaj9 (a0 : (List Zg)) : Option (Zom ⊕ Bool) :=
 Option.bind (Zrm a0) fun x1 =>
 some (.inr (!(x1 == ([] : List UInt8))))
noncomputable def Zaka (a0 : (List Zg)) : Option Bool := (Zaj9 a0).bind (endO Za76)
inductive Zln where
 | L0 (E0 : (A6 Int)) (E1 : Zah) (E2 : Zah) (v4 : Int)
def Z6h (E0 : (A6 Int)) (E1 : Zah) (E2 : Zah) (v4 : Int) : Option (Zln ⊕ Zah) :=
 bif decide (v4 < 5) then
 Option.bind (idx? (A6.list E0) (IntKind.wrap .i64 (v4 + 1))) fun x4 =>
 Option.bind (idx? (A5.list E2.Color) v4) fun x6 =>
 Option.bind (A5.set? E2.Color v4 x4) fun x8 =>
 some (.inl (.L0 E0 E1 (⟨E2.Generic, E2.X, x8⟩ : Zah) (IntKind.wrap .i64 (v4 + 1))))
 else
 some (.inr E2)
def Za77 : Zln → Option (Zln ⊕ Zah)
 | .L0 E0 E1 E2 v4 => Z6h E0 E1 E2 v4
def Zakb (a0 : (A6 Int)) : Option (Zln ⊕ Zah) :=
 Option.bind (idx? (A6.list a0) 0) fun x1 =>
 some (.inl (.L0 a0 (⟨0, 0, (⟨0, 0, 0, 0, 0⟩ : (A5 Int))⟩ : Zah) (⟨x1, 0, (⟨0, 0, 0, 0, 0⟩ : (A5 Int))⟩ : Zah) 0))
noncomputable def Zakc (a0 : (A6 Int)) : Option Zah := (Zakb a0).bind (endO Za77)
inductive Zhp where
 | L0 (E0 : Zah) (v3 : (List UInt8)) (v4 : Int)
 | L1 (E0 : Zah) (v3 : (List UInt8)) (v5 : Int)
 | L2 (E0 : Zah) (v3 : (List UInt8)) (v5 : Int) (v6 : Int)
def Z6i (E0 : Zah) (v3 : (List UInt8)) (v4 : Int) : Option (Zhp ⊕ (List UInt8)) :=
 bif decide (v4 < E0.X) then
 Option.bind (ok? (decide (v3.length + ([88] : List UInt8).length ≤ 9223372036854775807))) fun x2 =>
 some (.inl (.L0 E0 (v3 ++ ([88] : List UInt8)) (IntKind.wrap .i64 (v4 + 1))))
 else
 bif (E0.Generic != 0) then
 Option.bind (Ztc E0.Generic) fun x7 =>
 Option.bind (ok? (decide (v3.length + x7.length ≤ 9223372036854775807))) fun x10 =>
 some (.inl (.L1 E0 (v3 ++ x7) 0))
 else
 some (.inl (.L1 E0 v3 0))
def Z6j (E0 : Zah) (v3 : (List UInt8)) (v5 : Int) : Option (Zhp ⊕ (List UInt8)) :=
 bif decide (v5 < 5) then
 some (.inl (.L2 E0 v3 v5 0))
 else
 bif (v3 == ([] : List UInt8)) then
 some (.inr ([48] : List UInt8))
 else
 some (.inr v3)
def Z6k (E0 : Zah) (v3 : (List UInt8)) (v5 : Int) (v6 : Int) : Option (Zhp ⊕ (List UInt8)) :=
 Option.bind (idx? (A5.list E0.Color) v5) fun x1 =>
 bif decide (v6 < x1) then
 Option.bind (slice? ([65, 67, 74, 82, 69] : List UInt8) v5 (IntKind.wrap .i64 (v5 + 1))) fun x6 =>
 Option.bind (ok? (decide (v3.length + x6.length ≤ 9223372036854775807))) fun x8 =>
 some (.inl (.L2 E0 (v3 ++ x6) v5 (IntKind.wrap .i64 (v6 + 1))))
 else
 some (.inl (.L1 E0 v3 (IntKind.wrap .i64 (v5 + 1))))
def Za78 : Zhp → Option (Zhp ⊕ (List UInt8))
 | .L0 E0 v3 v4 => Z6i E0 v3 v4
 | .L1 E0 v3 v5 => Z6j E0 v3 v5
 | .L2 E0 v3 v5 v6 => Z6k E0 v3 v5 v6
def Zakd (a0 : Zah) : Option (Zhp ⊕ (List UInt8)) :=
 Option.bind (Zaa9 a0) fun x1 =>
 bif (!x1) then
 some (.inr ([] : List UInt8))
 else
 some (.inl (.L0 a0 ([] : List UInt8) 0))
noncomputable def Zake (a0 : Zah) : Option (List UInt8) := (Zakd a0).bind (endO Za78)
abbrev Zjo := Empty
def Zaso : Zjo → Option (Zjo ⊕ (List UInt8)) := fun s => nomatch s
def Z46 (a0 : (A6 Int)) : Option (Zjo ⊕ (List UInt8)) :=
 Option.bind (Zakc a0) fun x1 =>
 Option.bind (Zake x1) fun x3 =>
 some (.inr x3)
noncomputable def Z2g (a0 : (A6 Int)) : Option (List UInt8) := (Z46 a0).bind (endO Zaso)
abbrev Zlo := Empty
def Zazz : Zlo → Option (Zlo ⊕ Bool) := fun s => nomatch s
def Zabi (a0 : Int) (a1 : Zi) : Option (Zlo ⊕ Bool) :=
 bif (a0 == 21) then
 Option.bind (Zqa a1) fun x2 =>
 bif x2 then
 some (.inr (a1.Zone == 2))
 else
 some (.inr false)
 else
 Option.bind (Zqa a1) fun x5 =>
 bif x5 then
 some (.inr (a1.Zone == 0))
 else
 some (.inr false)
noncomputable def Z94 (a0 : Int) (a1 : Zi) : Option Bool := (Zabi a0 a1).bind (endO Zazz)
inductive Zfh where
 | L0 (E0 : Zj) (v5 : Bool)
 | L1 (E0 : Zj) (v5 : Bool) (v6 : Bool)
 | L2 (E0 : Zj) (v5 : Bool) (v6 : Bool) (v7 : Bool)
 | L3 (E0 : Zj) (v5 : Bool) (v6 : Bool) (v7 : Bool) (v8 : Bool)
 | L4 (E0 : Zj) (v5 : Bool) (v6 : Bool) (v7 : Bool) (v8 : Bool) (v9 : Bool)
 | L5 (E0 : Zj) (v5 : Bool) (v6 : Bool) (v7 : Bool) (v8 : Bool) (v9 : Bool) (v10 : Bool)
 | L6 (E0 : Zj) (v5 : Bool) (v6 : Bool) (v7 : Bool) (v8 : Bool) (v9 : Bool) (v10 : Bool) (v11 : Bool)
 | L7 (v5 : Bool) (v6 : Bool) (v7 : Bool) (v8 : Bool) (v9 : Bool) (v10 : Bool) (v11 : Bool) (v12 : Bool)
def Z1e (v5 : Bool) (v6 : Bool) (v7 : Bool) (v8 : Bool) (v9 : Bool) (v10 : Bool) (v11 : Bool) (v12 : Bool) : Option (Zfh ⊕ Bool) :=
 bif v5 then
 bif v6 then
 bif v7 then
 bif v8 then
 bif v9 then
 bif v10 then
 bif v11 then
 some (.inr v12)
 else
 some (.inr false)
 else
 some (.inr false)
 else
 some (.inr false)
 else
 some (.inr false)
 else
 some (.inr false)
 else
 some (.inr false)
 else
 some (.inr false)
def Zwi (E0 : Zj) (v5 : Bool) (v6 : Bool) (v7 : Bool) (v8 : Bool) (v9 : Bool) (v10 : Bool) (v11 : Bool) : Option (Zfh ⊕ Bool) :=
 Option.bind (Zpg E0.Op 102) fun x1 =>
 bif x1 then
 Option.bind (Z94 E0.Op E0.Filter) fun x4 =>
 Z1e v5 v6 v7 v8 v9 v10 v11 x4
 else
 Z1e v5 v6 v7 v8 v9 v10 v11 (eqTs (Zv E0.Filter) (Zv (⟨0, 0, 0, 0, 0, 0, 0, ([] : List UInt8), 0, 0, (⟨0, 0⟩ : Ze), (⟨0, 0⟩ : Ze), (⟨0, 0⟩ : Ze)⟩ : Zi)))
def Z1f (E0 : Zj) (v5 : Bool) (v6 : Bool) (v7 : Bool) (v8 : Bool) (v9 : Bool) (v10 : Bool) : Option (Zfh ⊕ Bool) :=
 Option.bind (Zpg E0.Op 112) fun x1 =>
 bif x1 then
 bif (!(eqTs ((cA6 (cI .i64)) E0.Pool) ((cA6 (cI .i64)) (⟨0, 0, 0, 0, 0, 0⟩ : (A6 Int))))) then
 Option.bind (Z2g E0.Pool) fun x5 =>
 Zwi E0 v5 v6 v7 v8 v9 v10 (!(x5 == ([] : List UInt8)))
 else
 Zwi E0 v5 v6 v7 v8 v9 v10 false
 else
 Zwi E0 v5 v6 v7 v8 v9 v10 (eqTs ((cA6 (cI .i64)) E0.Pool) ((cA6 (cI .i64)) (⟨0, 0, 0, 0, 0, 0⟩ : (A6 Int))))
def Z1g (E0 : Zj) (v5 : Bool) (v6 : Bool) (v7 : Bool) (v8 : Bool) (v9 : Bool) : Option (Zfh ⊕ Bool) :=
 Option.bind (Zpg E0.Op 109) fun x2 =>
 bif x2 then
 Option.bind (Zaka E0.Mods) fun x5 =>
 Z1f E0 v5 v6 v7 v8 v9 x5
 else
 Z1f E0 v5 v6 v7 v8 v9 ((E0.Mods.length : Int) == 0)
def Z1h (E0 : Zj) (v5 : Bool) (v6 : Bool) (v7 : Bool) (v8 : Bool) : Option (Zfh ⊕ Bool) :=
 Option.bind (Zpg E0.Op 97) fun x1 =>
 bif x1 then
 Option.bind (Zazy E0.Amount) fun x4 =>
 Z1g E0 v5 v6 v7 v8 x4
 else
 Z1g E0 v5 v6 v7 v8 (eqTs (Zb2 E0.Amount) (Zb2 (⟨0, 0, 0, (⟨0, 0, 0, 0, 0, 0, 0, ([] : List UInt8), 0, 0, (⟨0, 0⟩ : Ze), (⟨0, 0⟩ : Ze), (⟨0, 0⟩ : Ze)⟩ : Zi)⟩ : Zd3)))
def Zwj (E0 : Zj) (v5 : Bool) (v6 : Bool) (v7 : Bool) : Option (Zfh ⊕ Bool) :=
 Option.bind (Zpg E0.Op 99) fun x1 =>
 bif x1 then
 Option.bind (Zaid E0.Card) fun x4 =>
 Z1h E0 v5 v6 v7 x4
 else
 Z1h E0 v5 v6 v7 (E0.Card == ([] : List UInt8))
def Zsz (E0 : Zj) (v5 : Bool) (v6 : Bool) : Option (Zfh ⊕ Bool) :=
 bif (E0.Counter == 0) then
 Zwj E0 v5 v6 true
 else
 Option.bind (Zpg E0.Op 107) fun x2 =>
 bif x2 then
 Option.bind (Zabh E0.Counter) fun x5 =>
 Zwj E0 v5 v6 (!(x5 == ([] : List UInt8)))
 else
 Zwj E0 v5 v6 false
def Z1i (E0 : Zj) (v5 : Bool) : Option (Zfh ⊕ Bool) :=
 bif (E0.Zone == 0) then
 Zsz E0 v5 true
 else
 Option.bind (Zpg E0.Op 122) fun x2 =>
 bif x2 then
 bif decide (E0.Zone > 0) then
 Zsz E0 v5 (decide (E0.Zone ≤ 4))
 else
 Zsz E0 v5 false
 else
 Zsz E0 v5 false
def Zbhm : Zfh → Option (Zfh ⊕ Bool)
 | .L0 E0 v5 => Z1i E0 v5
 | .L1 E0 v5 v6 => Zsz E0 v5 v6
 | .L2 E0 v5 v6 v7 => Zwj E0 v5 v6 v7
 | .L3 E0 v5 v6 v7 v8 => Z1h E0 v5 v6 v7 v8
 | .L4 E0 v5 v6 v7 v8 v9 => Z1g E0 v5 v6 v7 v8 v9
 | .L5 E0 v5 v6 v7 v8 v9 v10 => Z1f E0 v5 v6 v7 v8 v9 v10
 | .L6 E0 v5 v6 v7 v8 v9 v10 v11 => Zwi E0 v5 v6 v7 v8 v9 v10 v11
 | .L7 v5 v6 v7 v8 v9 v10 v11 v12 => Z1e v5 v6 v7 v8 v9 v10 v11 v12
def Zawc (a0 : Zj) (a1 : Int) : Option (Zfh ⊕ Bool) :=
 Option.bind (Zaj4 a0.Op) fun x1 =>
 bif (x1 == ([] : List UInt8)) then
 some (.inr false)
 else
 Option.bind (Zpg a0.Op 114) fun x4 =>
 bif x4 then
 Option.bind (Zazx a0.Ref a1) fun x7 =>
 Z1i a0 x7
 else
 Z1i a0 (eqTs (Zfj a0.Ref) (Zfj (⟨0, 0, (⟨0, 0, 0, 0, 0, 0, 0, ([] : List UInt8), 0, 0, (⟨0, 0⟩ : Ze), (⟨0, 0⟩ : Ze), (⟨0, 0⟩ : Ze)⟩ : Zi)⟩ : Zgo)))
noncomputable def Zaz0 (a0 : Zj) (a1 : Int) : Option Bool := (Zawc a0 a1).bind (endO Zbhm)
inductive Zhw where
 | L0 (v0 : (List Zj)) (v1 : Int) (v5 : Int)
def Zx0 (v0 : (List Zj)) (v1 : Int) (v5 : Int) : Option (Zhw ⊕ Bool) :=
 bif decide (v5 < (v0.length : Int)) then
 Option.bind (idx? v0 v5) fun x3 =>
 Option.bind (Zaz0 x3 v1) fun x5 =>
 bif (!x5) then
 some (.inr false)
 else
 some (.inl (.L0 v0 v1 (IntKind.wrap .i64 (v5 + 1))))
 else
 bif decide ((v0.length : Int) ≥ 1) then
 some (.inr (decide ((v0.length : Int) ≤ 8)))
 else
 some (.inr false)
def Zawd : Zhw → Option (Zhw ⊕ Bool)
 | .L0 v0 v1 v5 => Zx0 v0 v1 v5
def Z71 (a0 : (List Zj)) (a1 : Int) : Option (Zhw ⊕ Bool) :=
 some (.inl (.L0 a0 a1 0))
noncomputable def Z6l (a0 : (List Zj)) (a1 : Int) : Option Bool := (Z71 a0 a1).bind (endO Zawd)
inductive Zhq where
 | L0 (E0 : Zq) (v3 : Bool)
 | L1 (E0 : Zq) (v3 : Bool)
 | L2 (E0 : Zq) (v3 : Bool)
 | L3 (E0 : Zq) (v3 : Bool)
 | L4 (E0 : Zq) (v3 : Bool)
def Z1j (E0 : Zq) (v3 : Bool) : Option (Zhq ⊕ Bool) :=
 bif v3 then
 Option.bind (Zaex E0.Specs) fun x2 =>
 bif x2 then
 Option.bind (Z6l E0.Effects (E0.Specs.length : Int)) fun x6 =>
 some (.inr x6)
 else
 some (.inr false)
 else
 bif ((E0.Specs.length : Int) == 0) then
 some (.inr ((E0.Effects.length : Int) == 0))
 else
 some (.inr false)
def Z1k (E0 : Zq) (v3 : Bool) : Option (Zhq ⊕ Bool) :=
 bif (E0.Kind == 5) then
 Option.bind (Zazw E0.Replace) fun x2 =>
 bif (!x2) then
 some (.inr false)
 else
 Z1j E0 v3
 else
 bif (!(eqTs (Zbw E0.Replace) (Zbw (⟨0, 0, (⟨0, 0, 0, 0, 0, 0, 0, ([] : List UInt8), 0, 0, (⟨0, 0⟩ : Ze), (⟨0, 0⟩ : Ze), (⟨0, 0⟩ : Ze)⟩ : Zi), 0, 0, 0, 0⟩ : Za1)))) then
 some (.inr false)
 else
 Z1j E0 v3
def Z1l (E0 : Zq) (v3 : Bool) : Option (Zhq ⊕ Bool) :=
 bif (E0.Kind == 4) then
 Option.bind (Zazv E0.Trigger) fun x2 =>
 bif (!x2) then
 some (.inr false)
 else
 Z1k E0 v3
 else
 bif (!(eqTs (Zc2 E0.Trigger) (Zc2 (⟨0, 0, (⟨0, 0, 0, 0, 0, 0, 0, ([] : List UInt8), 0, 0, (⟨0, 0⟩ : Ze), (⟨0, 0⟩ : Ze), (⟨0, 0⟩ : Ze)⟩ : Zi)⟩ : Zdj)))) then
 some (.inr false)
 else
 bif E0.May then
 some (.inr false)
 else
 Z1k E0 v3
def Z1m (E0 : Zq) (v3 : Bool) : Option (Zhq ⊕ Bool) :=
 bif (E0.Kind == 3) then
 Option.bind (Zaeu E0.Price) fun x2 =>
 bif (!x2) then
 some (.inr false)
 else
 Z1l E0 v3
 else
 bif (!(eqTs (Ze2 E0.Price) (Ze2 (⟨(⟨0, 0, (⟨0, 0, 0, 0, 0⟩ : (A5 Int))⟩ : Zah), false, false, 0⟩ : Zih)))) then
 some (.inr false)
 else
 bif E0.Slow then
 some (.inr false)
 else
 Z1l E0 v3
def Zwk (E0 : Zq) (v3 : Bool) : Option (Zhq ⊕ Bool) :=
 bif (E0.Kind == 1) then
 Option.bind (Zqa E0.Filter) fun x2 =>
 bif (!x2) then
 some (.inr false)
 else
 bif (E0.Filter.Zone != 0) then
 some (.inr false)
 else
 Option.bind (Zrm E0.Mods) fun x6 =>
 bif (x6 == ([] : List UInt8)) then
 some (.inr false)
 else
 Z1m E0 v3
 else
 bif (!(eqTs (Zv E0.Filter) (Zv (⟨0, 0, 0, 0, 0, 0, 0, ([] : List UInt8), 0, 0, (⟨0, 0⟩ : Ze), (⟨0, 0⟩ : Ze), (⟨0, 0⟩ : Ze)⟩ : Zi)))) then
 some (.inr false)
 else
 bif decide ((E0.Mods.length : Int) > 0) then
 some (.inr false)
 else
 Z1m E0 v3
def Zbhn : Zhq → Option (Zhq ⊕ Bool)
 | .L0 E0 v3 => Zwk E0 v3
 | .L1 E0 v3 => Z1m E0 v3
 | .L2 E0 v3 => Z1l E0 v3
 | .L3 E0 v3 => Z1k E0 v3
 | .L4 E0 v3 => Z1j E0 v3
def Zawe (a0 : Zq) : Option (Zhq ⊕ Bool) :=
 bif decide (a0.Kind < 1) then
 some (.inr false)
 else
 bif decide (a0.Kind > 5) then
 some (.inr false)
 else
 bif (a0.Kind == 2) then
 Zwk a0 true
 else
 bif (a0.Kind == 3) then
 Zwk a0 true
 else
 Zwk a0 (a0.Kind == 4)
noncomputable def Zabj (a0 : Zq) : Option Bool := (Zawe a0).bind (endO Zbhn)
abbrev Zon := Empty
def Za79 : Zon → Option (Zon ⊕ Bool) := fun s => nomatch s
def Zakf (a0 : Zu) : Option (Zon ⊕ Bool) :=
 bif (a0.Line.Types == 2) then
 some (.inr true)
 else
 some (.inr (a0.Line.Types == 4))
noncomputable def Zakg (a0 : Zu) : Option Bool := (Zakf a0).bind (endO Za79)
inductive Zmq where
 | L0 (E0 : Zu)
 | L1 (E0 : Zu) (v3 : Int) (v4 : Int)
def Z1n (E0 : Zu) : Option (Zmq ⊕ Bool) :=
 some (.inl (.L1 E0 0 0))
def Zaey (E0 : Zu) (v3 : Int) (v4 : Int) : Option (Zmq ⊕ Bool) :=
 bif decide (v4 < (E0.Abilities.length : Int)) then
 Option.bind (idx? E0.Abilities v4) fun x3 =>
 Option.bind (Zabj x3) fun x5 =>
 bif (!x5) then
 some (.inr false)
 else
 bif (x3.Kind == 2) then
 some (.inl (.L1 E0 (IntKind.wrap .i64 (v3 + 1)) (IntKind.wrap .i64 (v4 + 1))))
 else
 some (.inl (.L1 E0 v3 (IntKind.wrap .i64 (v4 + 1))))
 else
 Option.bind (Zakg E0) fun x15 =>
 bif x15 then
 bif (!E0.Token) then
 bif (E0.Keys == 0) then
 bif ((E0.Abilities.length : Int) == 1) then
 some (.inr (v3 == 1))
 else
 some (.inr false)
 else
 some (.inr false)
 else
 some (.inr false)
 else
 bif (v3 == 0) then
 bif (!E0.Token) then
 bif ((Zzf .and .i64 E0.Line.Types 32) == 0) then
 some (.inr true)
 else
 some (.inr (eqTs (Zd2 E0.Cost) (Zd2 (⟨0, 0, (⟨0, 0, 0, 0, 0⟩ : (A5 Int))⟩ : Zah))))
 else
 some (.inr (eqTs (Zd2 E0.Cost) (Zd2 (⟨0, 0, (⟨0, 0, 0, 0, 0⟩ : (A5 Int))⟩ : Zah))))
 else
 some (.inr false)
def Zbho : Zmq → Option (Zmq ⊕ Bool)
 | .L0 E0 => Z1n E0
 | .L1 E0 v3 v4 => Zaey E0 v3 v4
def Zawf (a0 : Zu) : Option (Zmq ⊕ Bool) :=
 Option.bind (Zaid a0.Name) fun x1 =>
 bif (!x1) then
 some (.inr false)
 else
 Option.bind (Zaa9 a0.Cost) fun x4 =>
 bif (!x4) then
 some (.inr false)
 else
 Option.bind (Zazr a0.Line) fun x7 =>
 bif (!x7) then
 some (.inr false)
 else
 Option.bind (Zaon a0.Keys) fun x10 =>
 bif (!x10) then
 some (.inr false)
 else
 bif decide (a0.Color < 0) then
 some (.inr false)
 else
 bif decide (a0.Color > 31) then
 some (.inr false)
 else
 bif decide (a0.Power < 0) then
 some (.inr false)
 else
 bif decide (a0.Power > 99) then
 some (.inr false)
 else
 bif decide (a0.Tough < 0) then
 some (.inr false)
 else
 bif decide (a0.Tough > 99) then
 some (.inr false)
 else
 Option.bind (Z14 a0) fun x19 =>
 bif (!x19) then
 bif (a0.Power != 0) then
 some (.inr false)
 else
 bif (a0.Tough != 0) then
 some (.inr false)
 else
 bif decide ((a0.Abilities.length : Int) > 8) then
 some (.inr false)
 else
 Z1n a0
 else
 bif decide ((a0.Abilities.length : Int) > 8) then
 some (.inr false)
 else
 Z1n a0
noncomputable def Zaz1 (a0 : Zu) : Option Bool := (Zawf a0).bind (endO Zbho)
inductive Zlp where
 | L0 (v0 : (List Zu)) (v1 : (List UInt8)) (v5 : Int)
def Z6m (v0 : (List Zu)) (v1 : (List UInt8)) (v5 : Int) : Option (Zlp ⊕ Int) :=
 bif decide (v5 < (v0.length : Int)) then
 Option.bind (idx? v0 v5) fun x3 =>
 bif (x3.Name == v1) then
 some (.inr v5)
 else
 some (.inl (.L0 v0 v1 (IntKind.wrap .i64 (v5 + 1))))
 else
 some (.inr (-1))
def Za8a : Zlp → Option (Zlp ⊕ Int)
 | .L0 v0 v1 v5 => Z6m v0 v1 v5
def Zakh (a0 : (List Zu)) (a1 : (List UInt8)) : Option (Zlp ⊕ Int) :=
 some (.inl (.L0 a0 a1 0))
noncomputable def Zaki (a0 : (List Zu)) (a1 : (List UInt8)) : Option Int := (Zakh a0 a1).bind (endO Za8a)
inductive Zkg where
 | L0 (v0 : (List Zu)) (v1 : (List UInt8)) (v5 : Int)
def Z2h (v0 : (List Zu)) (v1 : (List UInt8)) (v5 : Int) : Option (Zkg ⊕ Bool) :=
 bif decide (v5 < (v0.length : Int)) then
 Option.bind (idx? v0 v5) fun x3 =>
 bif (x3.Name == v1) then
 bif x3.Token then
 some (.inr true)
 else
 some (.inl (.L0 v0 v1 (IntKind.wrap .i64 (v5 + 1))))
 else
 some (.inl (.L0 v0 v1 (IntKind.wrap .i64 (v5 + 1))))
 else
 some (.inr false)
def Za4a : Zkg → Option (Zkg ⊕ Bool)
 | .L0 v0 v1 v5 => Z2h v0 v1 v5
def Zagl (a0 : (List Zu)) (a1 : (List UInt8)) : Option (Zkg ⊕ Bool) :=
 some (.inl (.L0 a0 a1 0))
noncomputable def Zaez (a0 : (List Zu)) (a1 : (List UInt8)) : Option Bool := (Zagl a0 a1).bind (endO Za4a)
inductive Zf8 where
 | L0 (v0 : (List Zu)) (E0 : Zu) (v5 : Int)
 | L1 (v0 : (List Zu)) (E0 : Zu) (v5 : Int) (v6 : Int)
def Zx1 (v0 : (List Zu)) (E0 : Zu) (v5 : Int) : Option (Zf8 ⊕ Bool) :=
 bif decide (v5 < (E0.Abilities.length : Int)) then
 some (.inl (.L1 v0 E0 v5 0))
 else
 some (.inr true)
def Zx2 (v0 : (List Zu)) (E0 : Zu) (v5 : Int) (v6 : Int) : Option (Zf8 ⊕ Bool) :=
 Option.bind (idx? E0.Abilities v5) fun x1 =>
 bif decide (v6 < (x1.Effects.length : Int)) then
 Option.bind (idx? x1.Effects v6) fun x5 =>
 bif (x5.Op == 12) then
 Option.bind (Zaez v0 x5.Card) fun x8 =>
 bif (!x8) then
 some (.inr false)
 else
 some (.inl (.L1 v0 E0 v5 (IntKind.wrap .i64 (v6 + 1))))
 else
 some (.inl (.L1 v0 E0 v5 (IntKind.wrap .i64 (v6 + 1))))
 else
 some (.inl (.L0 v0 E0 (IntKind.wrap .i64 (v5 + 1))))
def Zawg : Zf8 → Option (Zf8 ⊕ Bool)
 | .L0 v0 E0 v5 => Zx1 v0 E0 v5
 | .L1 v0 E0 v5 v6 => Zx2 v0 E0 v5 v6
def Z72 (a0 : (List Zu)) (a1 : Zu) : Option (Zf8 ⊕ Bool) :=
 some (.inl (.L0 a0 a1 0))
noncomputable def Z6n (a0 : (List Zu)) (a1 : Zu) : Option Bool := (Z72 a0 a1).bind (endO Zawg)
inductive Zkh where
 | L0 (v0 : (List Zu)) (v4 : Int)
def Z2i (v0 : (List Zu)) (v4 : Int) : Option (Zkh ⊕ (Int × Int)) :=
 bif decide (v4 < (v0.length : Int)) then
 Option.bind (idx? v0 v4) fun x3 =>
 Option.bind (Zaz1 x3) fun x5 =>
 bif (!x5) then
 some (.inr (v4, 9))
 else
 Option.bind (Zaki v0 x3.Name) fun x8 =>
 bif decide (x8 < v4) then
 some (.inr (v4, 6))
 else
 Option.bind (Z6n v0 x3) fun x11 =>
 bif (!x11) then
 some (.inr (v4, 7))
 else
 some (.inl (.L0 v0 (IntKind.wrap .i64 (v4 + 1))))
 else
 some (.inr ((-1), 0))
def Za4b : Zkh → Option (Zkh ⊕ (Int × Int))
 | .L0 v0 v4 => Z2i v0 v4
def Zagm (a0 : (List Zu)) : Option (Zkh ⊕ (Int × Int)) :=
 bif decide ((a0.length : Int) > 256) then
 some (.inr ((-1), 5))
 else
 some (.inl (.L0 a0 0))
noncomputable def Zae0 (a0 : (List Zu)) : Option (Int × Int) := (Zagm a0).bind (endO Za4b)
abbrev Zte := Empty
def Zbhp : Zte → Option (Zte ⊕ Bool) := fun s => nomatch s
def Zawh (a0 : Int) (a1 : Int) (a2 : Int) : Option (Zte ⊕ Bool) :=
 bif decide (a0 ≥ a1) then
 some (.inr (decide (a0 ≤ a2)))
 else
 some (.inr false)
noncomputable def Znl (a0 : Int) (a1 : Int) (a2 : Int) : Option Bool := (Zawh a0 a1 a2).bind (endO Zbhp)
inductive Zki where
 | L0 (E0 : (A6 Int)) (v3 : Int)
def Z2j (E0 : (A6 Int)) (v3 : Int) : Option (Zki ⊕ Bool) :=
 bif decide (v3 < 6) then
 Option.bind (idx? (A6.list E0) v3) fun x2 =>
 bif decide (x2 < 0) then
 some (.inr false)
 else
 Option.bind (idx? (A6.list E0) v3) fun x5 =>
 bif decide (x5 > 1000000) then
 some (.inr false)
 else
 some (.inl (.L0 E0 (IntKind.wrap .i64 (v3 + 1))))
 else
 some (.inr true)
def Za4c : Zki → Option (Zki ⊕ Bool)
 | .L0 E0 v3 => Z2j E0 v3
def Zagn (a0 : (A6 Int)) : Option (Zki ⊕ Bool) :=
 some (.inl (.L0 a0 0))
noncomputable def Zae1 (a0 : (A6 Int)) : Option Bool := (Zagn a0).bind (endO Za4c)
inductive Zkj where
 | L0 (v1 : Int) (E0 : Zc) (v5 : Int)
def Zkk (v1 : Int) (E0 : Zc) (v5 : Int) : Option (Zkj ⊕ Int) :=
 bif decide (v5 < (E0.Objects.length : Int)) then
 Option.bind (idx? E0.Objects v5) fun x3 =>
 bif (x3.Id == v1) then
 some (.inr v5)
 else
 some (.inl (.L0 v1 E0 (IntKind.wrap .i64 (v5 + 1))))
 else
 some (.inr (-1))
def Z47 : Zkj → Option (Zkj ⊕ Int)
 | .L0 v1 E0 v5 => Zkk v1 E0 v5
def Z6o (a0 : Zc) (a1 : Int) : Option (Zkj ⊕ Int) :=
 some (.inl (.L0 a1 a0 0))
noncomputable def Z1o (a0 : Zc) (a1 : Int) : Option Int := (Z6o a0 a1).bind (endO Z47)
abbrev Zoo := Empty
def Za8b : Zoo → Option (Zoo ⊕ (Zf × Bool)) := fun s => nomatch s
def Z95 (a0 : Zc) (a1 : Int) : Option (Zoo ⊕ (Zf × Bool)) :=
 Option.bind (Z1o a0 a1) fun x1 =>
 bif decide (x1 < 0) then
 some (.inr ((⟨0, 0, 0, 0, 0, false, false, false, false, 0, (⟨0, 0, 0⟩ : (A3 Int)), 0, 0, 0, false, 0, 0⟩ : Zf), false))
 else
 Option.bind (idx? a0.Objects x1) fun x4 =>
 some (.inr (x4, true))
noncomputable def Zabk (a0 : Zc) (a1 : Int) : Option (Zf × Bool) := (Z95 a0 a1).bind (endO Za8b)
abbrev Zlq := Empty
def Zaz2 : Zlq → Option (Zlq ⊕ (Zf × Bool)) := fun s => nomatch s
def Z2k (a0 : Zc) (a1 : Int) : Option (Zlq ⊕ (Zf × Bool)) :=
 Option.bind (Zabk a0 a1) fun x1 =>
 some (.inr (x1.1, x1.2))
noncomputable def Ztf (a0 : Zc) (a1 : Int) : Option (Zf × Bool) := (Z2k a0 a1).bind (endO Zaz2)
inductive Zkl where
 | L0 (v0 : (List Int)) (v1 : Int) (v5 : Int) (v6 : Int)
def Zrn (v0 : (List Int)) (v1 : Int) (v5 : Int) (v6 : Int) : Option (Zkl ⊕ Int) :=
 bif decide (v6 < (v0.length : Int)) then
 Option.bind (idx? v0 v6) fun x3 =>
 bif (x3 == v1) then
 some (.inl (.L0 v0 v1 (IntKind.wrap .i64 (v5 + 1)) (IntKind.wrap .i64 (v6 + 1))))
 else
 some (.inl (.L0 v0 v1 v5 (IntKind.wrap .i64 (v6 + 1))))
 else
 some (.inr v5)
def Zaie : Zkl → Option (Zkl ⊕ Int)
 | .L0 v0 v1 v5 v6 => Zrn v0 v1 v5 v6
def Z6p (a0 : (List Int)) (a1 : Int) : Option (Zkl ⊕ Int) :=
 some (.inl (.L0 a0 a1 0 0))
noncomputable def Zqb (a0 : (List Int)) (a1 : Int) : Option Int := (Z6p a0 a1).bind (endO Zaie)
inductive Zjp where
 | L0 (v1 : (List Int)) (v2 : Int) (v3 : Int) (E0 : Zc) (v9 : Int)
def Zuy (v1 : (List Int)) (v2 : Int) (v3 : Int) (E0 : Zc) (v9 : Int) : Option (Zjp ⊕ Bool) :=
 bif decide (v9 < (v1.length : Int)) then
 Option.bind (idx? v1 v9) fun x3 =>
 Option.bind (Ztf E0 x3) fun x5 =>
 bif (!x5.2) then
 some (.inr false)
 else
 bif (x5.1.Zone != v2) then
 some (.inr false)
 else
 bif decide (v3 ≥ 0) then
 bif (x5.1.Owner != v3) then
 some (.inr false)
 else
 Option.bind (Zqb v1 x3) fun x11 =>
 bif (x11 != 1) then
 some (.inr false)
 else
 some (.inl (.L0 v1 v2 v3 E0 (IntKind.wrap .i64 (v9 + 1))))
 else
 Option.bind (Zqb v1 x3) fun x16 =>
 bif (x16 != 1) then
 some (.inr false)
 else
 some (.inl (.L0 v1 v2 v3 E0 (IntKind.wrap .i64 (v9 + 1))))
 else
 some (.inr true)
def Zamd : Zjp → Option (Zjp ⊕ Bool)
 | .L0 v1 v2 v3 E0 v9 => Zuy v1 v2 v3 E0 v9
def Z96 (a0 : Zc) (a1 : (List Int)) (a2 : Int) (a3 : Int) : Option (Zjp ⊕ Bool) :=
 some (.inl (.L0 a1 a2 a3 a0 0))
noncomputable def Zii (a0 : Zc) (a1 : (List Int)) (a2 : Int) (a3 : Int) : Option Bool := (Z96 a0 a1 a2 a3).bind (endO Zamd)
inductive Zhx where
 | L0 (E0 : Zc) (v3 : Int)
def Zo8 (E0 : Zc) (v3 : Int) : Option (Zhx ⊕ Bool) :=
 bif decide (v3 < (E0.Players.length : Int)) then
 Option.bind (idx? E0.Players v3) fun x3 =>
 Option.bind (Znl x3.Life (-1000000) 1000000) fun x5 =>
 bif (!x5) then
 some (.inr false)
 else
 Option.bind (Znl x3.Venom 0 1000000) fun x8 =>
 bif (!x8) then
 some (.inr false)
 else
 Option.bind (Znl x3.Lands 0 1000000) fun x11 =>
 bif (!x11) then
 some (.inr false)
 else
 Option.bind (Zae1 x3.Pool) fun x14 =>
 bif (!x14) then
 some (.inr false)
 else
 Option.bind (Zii E0 x3.Library 2 v3) fun x17 =>
 bif (!x17) then
 some (.inr false)
 else
 Option.bind (Zii E0 x3.Hand 1 v3) fun x20 =>
 bif (!x20) then
 some (.inr false)
 else
 Option.bind (Zii E0 x3.Graveyard 3 v3) fun x23 =>
 bif (!x23) then
 some (.inr false)
 else
 some (.inl (.L0 E0 (IntKind.wrap .i64 (v3 + 1))))
 else
 Option.bind (Zii E0 E0.Battlefield 0 (-1)) fun x28 =>
 bif x28 then
 Option.bind (Zii E0 E0.Exile 4 (-1)) fun x31 =>
 some (.inr x31)
 else
 some (.inr false)
def Zabl : Zhx → Option (Zhx ⊕ Bool)
 | .L0 E0 v3 => Zo8 E0 v3
def Zzk (a0 : Zc) : Option (Zhx ⊕ Bool) :=
 Option.bind (Znl (a0.Players.length : Int) 2 4) fun x2 =>
 bif (!x2) then
 some (.inr false)
 else
 some (.inl (.L0 a0 0))
noncomputable def Zqp (a0 : Zc) : Option Bool := (Zzk a0).bind (endO Zabl)
abbrev Zlr := Empty
def Zaz3 : Zlr → Option (Zlr ⊕ Bool) := fun s => nomatch s
def Zabm (a0 : Zc) (a1 : Int) : Option (Zlr ⊕ Bool) :=
 Option.bind (Znl a1 0 (IntKind.wrap .i64 ((a0.Players.length : Int) - 1))) fun x4 =>
 some (.inr x4)
noncomputable def Zna (a0 : Zc) (a1 : Int) : Option Bool := (Zabm a0 a1).bind (endO Zaz3)
inductive Zph where
 | L0 (E0 : (A3 Int)) (v3 : Int)
def Zae2 (E0 : (A3 Int)) (v3 : Int) : Option (Zph ⊕ Bool) :=
 bif decide (v3 < 3) then
 Option.bind (idx? (A3.list E0) v3) fun x2 =>
 bif decide (x2 < 0) then
 some (.inr false)
 else
 Option.bind (idx? (A3.list E0) v3) fun x5 =>
 bif decide (x5 > 1000000) then
 some (.inr false)
 else
 some (.inl (.L0 E0 (IntKind.wrap .i64 (v3 + 1))))
 else
 some (.inr true)
def Zbhq : Zph → Option (Zph ⊕ Bool)
 | .L0 E0 v3 => Zae2 E0 v3
def Zawi (a0 : (A3 Int)) : Option (Zph ⊕ Bool) :=
 some (.inl (.L0 a0 0))
noncomputable def Zaz4 (a0 : (A3 Int)) : Option Bool := (Zawi a0).bind (endO Zbhq)
abbrev Zop := Empty
def Za8c : Zop → Option (Zop ⊕ Zf) := fun s => nomatch s
def Zakj (a0 : Zf) : Option (Zop ⊕ Zf) :=
 some (.inr (⟨a0.Id, a0.Card, a0.Owner, a0.Control, a0.Zone, a0.Token, a0.Tapped, a0.Sick, a0.Deadly, a0.Damage, a0.Counters, a0.Stamp, a0.Copy, (-1), false, 0, a0.Shield⟩ : Zf))
noncomputable def Zakk (a0 : Zf) : Option Zf := (Zakj a0).bind (endO Za8c)
abbrev Znb := Empty
def Za4d : Znb → Option (Znb ⊕ Zf) := fun s => nomatch s
def Zago (a0 : Zf) : Option (Znb ⊕ Zf) :=
 some (.inr (⟨a0.Id, a0.Card, a0.Owner, a0.Control, a0.Zone, a0.Token, a0.Tapped, a0.Sick, false, 0, a0.Counters, a0.Stamp, a0.Copy, a0.Attack, a0.Blocked, a0.Blocks, 0⟩ : Zf))
noncomputable def Zae3 (a0 : Zf) : Option Zf := (Zago a0).bind (endO Za4d)
abbrev Ztg := Empty
def Zbhr : Ztg → Option (Ztg ⊕ Bool) := fun s => nomatch s
def Zawj (a0 : Zf) (a1 : Int) (a2 : Int) : Option (Ztg ⊕ Bool) :=
 bif decide (a0.Id < 1) then
 some (.inr false)
 else
 bif decide (a0.Card < 0) then
 some (.inr false)
 else
 bif decide (a0.Card ≥ a1) then
 some (.inr false)
 else
 bif decide (a0.Owner < 0) then
 some (.inr false)
 else
 bif decide (a0.Owner ≥ a2) then
 some (.inr false)
 else
 bif decide (a0.Control < 0) then
 some (.inr false)
 else
 bif decide (a0.Control ≥ a2) then
 some (.inr false)
 else
 bif decide (a0.Zone < 0) then
 some (.inr false)
 else
 bif decide (a0.Zone > 5) then
 some (.inr false)
 else
 bif decide (a0.Damage < 0) then
 some (.inr false)
 else
 bif decide (a0.Damage > 1000000) then
 some (.inr false)
 else
 bif decide (a0.Stamp < 0) then
 some (.inr false)
 else
 bif decide (a0.Stamp > 1000000) then
 some (.inr false)
 else
 bif decide (a0.Blocks < 0) then
 some (.inr false)
 else
 bif decide (a0.Blocks > 1000000) then
 some (.inr false)
 else
 bif decide (a0.Shield < 0) then
 some (.inr false)
 else
 bif decide (a0.Shield > 1000000) then
 some (.inr false)
 else
 Option.bind (Zaz4 a0.Counters) fun x18 =>
 bif (!x18) then
 some (.inr false)
 else
 bif decide (a0.Copy < (-1)) then
 some (.inr false)
 else
 bif decide (a0.Copy ≥ a1) then
 some (.inr false)
 else
 bif decide (a0.Attack < (-1)) then
 some (.inr false)
 else
 bif decide (a0.Attack ≥ a2) then
 some (.inr false)
 else
 bif (a0.Zone == 0) then
 some (.inr true)
 else
 Option.bind (Zakk a0) fun x26 =>
 bif eqTs (Zd a0) (Zd x26) then
 Option.bind (Zae3 a0) fun x29 =>
 bif eqTs (Zd a0) (Zd x29) then
 bif (!a0.Tapped) then
 bif (!a0.Sick) then
 some (.inr (eqTs ((cA3 (cI .i64)) a0.Counters) ((cA3 (cI .i64)) (⟨0, 0, 0⟩ : (A3 Int)))))
 else
 some (.inr false)
 else
 some (.inr false)
 else
 some (.inr false)
 else
 some (.inr false)
noncomputable def Zaz5 (a0 : Zf) (a1 : Int) (a2 : Int) : Option Bool := (Zawj a0 a1 a2).bind (endO Zbhr)
inductive Zi6 where
 | L0 (v1 : Int) (E0 : Zc) (v5 : Int) (v6 : Int)
def Zzl (v1 : Int) (E0 : Zc) (v5 : Int) (v6 : Int) : Option (Zi6 ⊕ Int) :=
 bif decide (v6 < (E0.Stack.length : Int)) then
 Option.bind (idx? E0.Stack v6) fun x3 =>
 bif (x3.Kind == 1) then
 bif (x3.Id == v1) then
 some (.inl (.L0 v1 E0 (IntKind.wrap .i64 (v5 + 1)) (IntKind.wrap .i64 (v6 + 1))))
 else
 some (.inl (.L0 v1 E0 v5 (IntKind.wrap .i64 (v6 + 1))))
 else
 some (.inl (.L0 v1 E0 v5 (IntKind.wrap .i64 (v6 + 1))))
 else
 some (.inr v5)
def Zaz6 : Zi6 → Option (Zi6 ⊕ Int)
 | .L0 v1 E0 v5 v6 => Zzl v1 E0 v5 v6
def Zabn (a0 : Zc) (a1 : Int) : Option (Zi6 ⊕ Int) :=
 some (.inl (.L0 a1 a0 0 0))
noncomputable def Z97 (a0 : Zc) (a1 : Int) : Option Int := (Zabn a0 a1).bind (endO Zaz6)
abbrev Zoq := Empty
def Za8d : Zoq → Option (Zoq ⊕ (List Int)) := fun s => nomatch s
def Z98 (a0 : (List Int)) : Option (Zoq ⊕ (List Int)) :=
 Option.bind (app? 8 ([] : (List Int)) a0) fun x1 =>
 some (.inr x1)
noncomputable def Zqq (a0 : (List Int)) : Option (List Int) := (Z98 a0).bind (endO Za8d)
abbrev Zor := Empty
def Za8e : Zor → Option (Zor ⊕ (List Int)) := fun s => nomatch s
def Z99 (a0 : Zc) (a1 : Int) (a2 : Int) : Option (Zor ⊕ (List Int)) :=
 bif (a1 == 0) then
 Option.bind (Zqq a0.Battlefield) fun x2 =>
 some (.inr x2)
 else
 bif (a1 == 4) then
 Option.bind (Zqq a0.Exile) fun x5 =>
 some (.inr x5)
 else
 bif decide (a2 < 0) then
 some (.inr ([] : (List Int)))
 else
 bif decide (a2 ≥ (a0.Players.length : Int)) then
 some (.inr ([] : (List Int)))
 else
 bif (a1 == 1) then
 Option.bind (idx? a0.Players a2) fun x11 =>
 Option.bind (Zqq x11.Hand) fun x13 =>
 some (.inr x13)
 else
 bif (a1 == 2) then
 Option.bind (idx? a0.Players a2) fun x16 =>
 Option.bind (Zqq x16.Library) fun x18 =>
 some (.inr x18)
 else
 bif (a1 == 3) then
 Option.bind (idx? a0.Players a2) fun x21 =>
 Option.bind (Zqq x21.Graveyard) fun x23 =>
 some (.inr x23)
 else
 some (.inr ([] : (List Int)))
noncomputable def Z48 (a0 : Zc) (a1 : Int) (a2 : Int) : Option (List Int) := (Z99 a0 a1 a2).bind (endO Za8e)
abbrev Zls := Empty
def Zaz7 : Zls → Option (Zls ⊕ Bool) := fun s => nomatch s
def Z2l (a0 : Zc) (a1 : Zf) : Option (Zls ⊕ Bool) :=
 bif (a1.Zone == 5) then
 Option.bind (Z97 a0 a1.Id) fun x2 =>
 some (.inr (x2 == 1))
 else
 Option.bind (Z48 a0 a1.Zone a1.Owner) fun x4 =>
 Option.bind (Zqb x4 a1.Id) fun x6 =>
 some (.inr (x6 == 1))
noncomputable def Zos (a0 : Zc) (a1 : Zf) : Option Bool := (Z2l a0 a1).bind (endO Zaz7)
inductive Zhy where
 | L0 (v0 : (List Zu)) (E0 : Zc) (v5 : Int)
def Zo9 (v0 : (List Zu)) (E0 : Zc) (v5 : Int) : Option (Zhy ⊕ Bool) :=
 bif decide (v5 < (E0.Objects.length : Int)) then
 Option.bind (idx? E0.Objects v5) fun x3 =>
 Option.bind (Zaz5 x3 (v0.length : Int) (E0.Players.length : Int)) fun x7 =>
 bif (!x7) then
 some (.inr false)
 else
 bif decide (x3.Id ≥ E0.NextId) then
 some (.inr false)
 else
 bif decide (x3.Stamp ≥ E0.NextStamp) then
 some (.inr false)
 else
 bif decide (v5 > 0) then
 Option.bind (idx? E0.Objects (IntKind.wrap .i64 (v5 - 1))) fun x15 =>
 bif decide (x15.Id ≥ x3.Id) then
 some (.inr false)
 else
 Option.bind (Zos E0 x3) fun x18 =>
 bif (!x18) then
 some (.inr false)
 else
 some (.inl (.L0 v0 E0 (IntKind.wrap .i64 (v5 + 1))))
 else
 Option.bind (Zos E0 x3) fun x23 =>
 bif (!x23) then
 some (.inr false)
 else
 some (.inl (.L0 v0 E0 (IntKind.wrap .i64 (v5 + 1))))
 else
 some (.inr true)
def Zabo : Zhy → Option (Zhy ⊕ Bool)
 | .L0 v0 E0 v5 => Zo9 v0 E0 v5
def Zzm (a0 : (List Zu)) (a1 : Zc) : Option (Zhy ⊕ Bool) :=
 bif decide ((a1.Objects.length : Int) > 2048) then
 some (.inr false)
 else
 some (.inl (.L0 a0 a1 0))
noncomputable def Zic (a0 : (List Zu)) (a1 : Zc) : Option Bool := (Zzm a0 a1).bind (endO Zabo)
inductive Zg4 where
 | L0 (v0 : (List Zg)) (v1 : (List Zg)) (v5 : Int)
def Zvm (v0 : (List Zg)) (v1 : (List Zg)) (v5 : Int) : Option (Zg4 ⊕ Bool) :=
 bif decide (v5 < (v0.length : Int)) then
 Option.bind (idx? v0 v5) fun x3 =>
 Option.bind (idx? v1 v5) fun x5 =>
 bif (!(eqTs (Zp x3) (Zp x5))) then
 some (.inr false)
 else
 some (.inl (.L0 v0 v1 (IntKind.wrap .i64 (v5 + 1))))
 else
 some (.inr true)
def Zasp : Zg4 → Option (Zg4 ⊕ Bool)
 | .L0 v0 v1 v5 => Zvm v0 v1 v5
def Z49 (a0 : (List Zg)) (a1 : (List Zg)) : Option (Zg4 ⊕ Bool) :=
 bif ((a0.length : Int) != (a1.length : Int)) then
 some (.inr false)
 else
 some (.inl (.L0 a0 a1 0))
noncomputable def Zwl (a0 : (List Zg)) (a1 : (List Zg)) : Option Bool := (Z49 a0 a1).bind (endO Zasp)
abbrev Zot := Empty
def Za8f : Zot → Option (Zot ⊕ Bool) := fun s => nomatch s
def Zakl (a0 : Zj) (a1 : Zj) : Option (Zot ⊕ Bool) :=
 bif (a0.Op == a1.Op) then
 bif eqTs (Zfj a0.Ref) (Zfj a1.Ref) then
 bif eqTs (Zb2 a0.Amount) (Zb2 a1.Amount) then
 bif (a0.Counter == a1.Counter) then
 bif (a0.Zone == a1.Zone) then
 bif (a0.Card == a1.Card) then
 bif eqTs (Zv a0.Filter) (Zv a1.Filter) then
 bif eqTs ((cA6 (cI .i64)) a0.Pool) ((cA6 (cI .i64)) a1.Pool) then
 Option.bind (Zwl a0.Mods a1.Mods) fun x9 =>
 some (.inr x9)
 else
 some (.inr false)
 else
 some (.inr false)
 else
 some (.inr false)
 else
 some (.inr false)
 else
 some (.inr false)
 else
 some (.inr false)
 else
 some (.inr false)
 else
 some (.inr false)
noncomputable def Zakm (a0 : Zj) (a1 : Zj) : Option Bool := (Zakl a0 a1).bind (endO Za8f)
inductive Zg5 where
 | L0 (v0 : (List Zj)) (v1 : (List Zj)) (v5 : Int)
def Zvn (v0 : (List Zj)) (v1 : (List Zj)) (v5 : Int) : Option (Zg5 ⊕ Bool) :=
 bif decide (v5 < (v0.length : Int)) then
 Option.bind (idx? v0 v5) fun x3 =>
 Option.bind (idx? v1 v5) fun x5 =>
 Option.bind (Zakm x3 x5) fun x7 =>
 bif (!x7) then
 some (.inr false)
 else
 some (.inl (.L0 v0 v1 (IntKind.wrap .i64 (v5 + 1))))
 else
 some (.inr true)
def Zasq : Zg5 → Option (Zg5 ⊕ Bool)
 | .L0 v0 v1 v5 => Zvn v0 v1 v5
def Z5a (a0 : (List Zj)) (a1 : (List Zj)) : Option (Zg5 ⊕ Bool) :=
 bif ((a0.length : Int) != (a1.length : Int)) then
 some (.inr false)
 else
 some (.inl (.L0 a0 a1 0))
noncomputable def Z2m (a0 : (List Zj)) (a1 : (List Zj)) : Option Bool := (Z5a a0 a1).bind (endO Zasq)
inductive Zlt where
 | L0 (E0 : Zq) (E1 : Zq) (v5 : Int)
def Z6q (E0 : Zq) (E1 : Zq) (v5 : Int) : Option (Zlt ⊕ Bool) :=
 bif decide (v5 < (E0.Specs.length : Int)) then
 Option.bind (idx? E0.Specs v5) fun x3 =>
 Option.bind (idx? E1.Specs v5) fun x5 =>
 bif (!(eqTs (Z3 x3) (Z3 x5))) then
 some (.inr false)
 else
 some (.inl (.L0 E0 E1 (IntKind.wrap .i64 (v5 + 1))))
 else
 bif (E0.Kind == E1.Kind) then
 bif eqTs (Zv E0.Filter) (Zv E1.Filter) then
 Option.bind (Zwl E0.Mods E1.Mods) fun x12 =>
 bif x12 then
 bif eqTs (Ze2 E0.Price) (Ze2 E1.Price) then
 bif (E0.Slow == E1.Slow) then
 bif eqTs (Zc2 E0.Trigger) (Zc2 E1.Trigger) then
 bif (E0.May == E1.May) then
 Option.bind (Z2m E0.Effects E1.Effects) fun x19 =>
 bif x19 then
 some (.inr (eqTs (Zbw E0.Replace) (Zbw E1.Replace)))
 else
 some (.inr false)
 else
 some (.inr false)
 else
 some (.inr false)
 else
 some (.inr false)
 else
 some (.inr false)
 else
 some (.inr false)
 else
 some (.inr false)
 else
 some (.inr false)
def Za8g : Zlt → Option (Zlt ⊕ Bool)
 | .L0 E0 E1 v5 => Z6q E0 E1 v5
def Zakn (a0 : Zq) (a1 : Zq) : Option (Zlt ⊕ Bool) :=
 bif ((a0.Specs.length : Int) != (a1.Specs.length : Int)) then
 some (.inr false)
 else
 some (.inl (.L0 a0 a1 0))
noncomputable def Zako (a0 : Zq) (a1 : Zq) : Option Bool := (Zakn a0 a1).bind (endO Za8g)
abbrev Zou := Empty
def Za8h : Zou → Option (Zou ⊕ Bool) := fun s => nomatch s
def Zakp (a0 : Zc) (a1 : Zag) : Option (Zou ⊕ Bool) :=
 Option.bind (Znl a1.Id 1 (IntKind.wrap .i64 (a0.NextId - 1))) fun x3 =>
 bif (!x3) then
 some (.inr false)
 else
 Option.bind (Znl a1.X 0 1000000) fun x6 =>
 bif (!x6) then
 some (.inr false)
 else
 bif decide ((a1.Targets.length : Int) > 4) then
 some (.inr false)
 else
 Option.bind (Zna a0 a1.Control) fun x11 =>
 bif (!x11) then
 some (.inr false)
 else
 Option.bind (Ztf a0 a1.Id) fun x14 =>
 bif (a1.Kind == 1) then
 Option.bind (Zako a1.Ability (⟨0, (⟨0, 0, 0, 0, 0, 0, 0, ([] : List UInt8), 0, 0, (⟨0, 0⟩ : Ze), (⟨0, 0⟩ : Ze), (⟨0, 0⟩ : Ze)⟩ : Zi), ([] : (List Zg)), (⟨(⟨0, 0, (⟨0, 0, 0, 0, 0⟩ : (A5 Int))⟩ : Zah), false, false, 0⟩ : Zih), false, (⟨0, 0, (⟨0, 0, 0, 0, 0, 0, 0, ([] : List UInt8), 0, 0, (⟨0, 0⟩ : Ze), (⟨0, 0⟩ : Ze), (⟨0, 0⟩ : Ze)⟩ : Zi)⟩ : Zdj), false, ([] : (List Zai)), ([] : (List Zj)), (⟨0, 0, (⟨0, 0, 0, 0, 0, 0, 0, ([] : List UInt8), 0, 0, (⟨0, 0⟩ : Ze), (⟨0, 0⟩ : Ze), (⟨0, 0⟩ : Ze)⟩ : Zi), 0, 0, 0, 0⟩ : Za1)⟩ : Zq)) fun x17 =>
 bif (a1.Source == a1.Id) then
 bif x14.2 then
 bif (x14.1.Zone == 5) then
 bif x17 then
 some (.inr true)
 else
 Option.bind (Zabj a1.Ability) fun x23 =>
 some (.inr x23)
 else
 some (.inr false)
 else
 some (.inr false)
 else
 some (.inr false)
 else
 bif (a1.Kind == 2) then
 bif (!x14.2) then
 Option.bind (Zabj a1.Ability) fun x27 =>
 some (.inr x27)
 else
 some (.inr false)
 else
 some (.inr false)
noncomputable def Zakq (a0 : Zc) (a1 : Zag) : Option Bool := (Zakp a0 a1).bind (endO Za8h)
inductive Zpi where
 | L0 (v0 : (List Int)) (v3 : Int)
def Zae4 (v0 : (List Int)) (v3 : Int) : Option (Zpi ⊕ Bool) :=
 bif decide (v3 < (v0.length : Int)) then
 Option.bind (idx? v0 (IntKind.wrap .i64 (v3 - 1))) fun x5 =>
 Option.bind (idx? v0 v3) fun x7 =>
 bif decide (x5 ≥ x7) then
 some (.inr false)
 else
 some (.inl (.L0 v0 (IntKind.wrap .i64 (v3 + 1))))
 else
 some (.inr true)
def Zbhs : Zpi → Option (Zpi ⊕ Bool)
 | .L0 v0 v3 => Zae4 v0 v3
def Zawk (a0 : (List Int)) : Option (Zpi ⊕ Bool) :=
 some (.inl (.L0 a0 1))
noncomputable def Zaz8 (a0 : (List Int)) : Option Bool := (Zawk a0).bind (endO Zbhs)
inductive Zfp where
 | L0 (E0 : Zc) (v3 : Int)
 | L1 (E0 : Zc) (v3 : Int) (v4 : Int)
 | L2 (E0 : Zc) (v5 : Int)
 | L3 (E0 : Zc) (v7 : Int)
def Z2n (E0 : Zc) (v3 : Int) : Option (Zfp ⊕ Bool) :=
 bif decide (v3 < (E0.Stack.length : Int)) then
 Option.bind (idx? E0.Stack v3) fun x3 =>
 Option.bind (Zakq E0 x3) fun x5 =>
 bif (!x5) then
 some (.inr false)
 else
 some (.inl (.L1 E0 v3 0))
 else
 some (.inl (.L2 E0 0))
def Z2o (E0 : Zc) (v3 : Int) (v4 : Int) : Option (Zfp ⊕ Bool) :=
 bif decide (v4 < v3) then
 Option.bind (idx? E0.Stack v4) fun x2 =>
 Option.bind (idx? E0.Stack v3) fun x4 =>
 bif (x2.Id == x4.Id) then
 some (.inr false)
 else
 some (.inl (.L1 E0 v3 (IntKind.wrap .i64 (v4 + 1))))
 else
 some (.inl (.L0 E0 (IntKind.wrap .i64 (v3 + 1))))
def Z2p (E0 : Zc) (v5 : Int) : Option (Zfp ⊕ Bool) :=
 bif decide (v5 < (E0.Waiting.length : Int)) then
 Option.bind (idx? E0.Waiting v5) fun x3 =>
 Option.bind (Zna E0 x3.Control) fun x5 =>
 bif (!x5) then
 some (.inr false)
 else
 bif (x3.Ability.Kind != 4) then
 some (.inr false)
 else
 Option.bind (Zabj x3.Ability) fun x9 =>
 bif (!x9) then
 some (.inr false)
 else
 some (.inl (.L2 E0 (IntKind.wrap .i64 (v5 + 1))))
 else
 some (.inl (.L3 E0 0))
def Z2q (E0 : Zc) (v7 : Int) : Option (Zfp ⊕ Bool) :=
 bif decide (v7 < (E0.Conts.length : Int)) then
 Option.bind (idx? E0.Conts v7) fun x3 =>
 Option.bind (Zna E0 x3.Control) fun x5 =>
 bif (!x5) then
 some (.inr false)
 else
 bif decide (x3.Stamp ≥ E0.NextStamp) then
 some (.inr false)
 else
 Option.bind (Znl x3.Until 1 2) fun x9 =>
 bif (!x9) then
 some (.inr false)
 else
 Option.bind (Zaz8 x3.Objects) fun x12 =>
 bif (!x12) then
 some (.inr false)
 else
 Option.bind (Zrm x3.Mods) fun x15 =>
 bif (x15 == ([] : List UInt8)) then
 some (.inr false)
 else
 some (.inl (.L3 E0 (IntKind.wrap .i64 (v7 + 1))))
 else
 some (.inr true)
def Za4e : Zfp → Option (Zfp ⊕ Bool)
 | .L0 E0 v3 => Z2n E0 v3
 | .L1 E0 v3 v4 => Z2o E0 v3 v4
 | .L2 E0 v5 => Z2p E0 v5
 | .L3 E0 v7 => Z2q E0 v7
def Zagp (a0 : Zc) : Option (Zfp ⊕ Bool) :=
 bif decide ((a0.Stack.length : Int) > 64) then
 some (.inr false)
 else
 bif decide ((a0.Waiting.length : Int) > 64) then
 some (.inr false)
 else
 bif decide ((a0.Conts.length : Int) > 64) then
 some (.inr false)
 else
 some (.inl (.L0 a0 0))
noncomputable def Zs0 (a0 : Zc) : Option Bool := (Zagp a0).bind (endO Za4e)
inductive Zmr where
 | L0 (v0 : (List Zu)) (E0 : Zc) (v5 : Int)
def Z1p (v0 : (List Zu)) (E0 : Zc) (v5 : Int) : Option (Zmr ⊕ Bool) :=
 bif decide (v5 < (E0.Extra.length : Int)) then
 Option.bind (idx? E0.Extra v5) fun x3 =>
 Option.bind (Zna E0 x3) fun x5 =>
 bif (!x5) then
 some (.inr false)
 else
 some (.inl (.L0 v0 E0 (IntKind.wrap .i64 (v5 + 1))))
 else
 bif (E0.Over == 1) then
 Option.bind (Zna E0 E0.Winner) fun x11 =>
 bif (!x11) then
 some (.inr false)
 else
 bif (E0.Over != 1) then
 bif (E0.Winner != (-1)) then
 some (.inr false)
 else
 Option.bind (Zic v0 E0) fun x16 =>
 bif x16 then
 Option.bind (Zs0 E0) fun x19 =>
 some (.inr x19)
 else
 some (.inr false)
 else
 Option.bind (Zic v0 E0) fun x21 =>
 bif x21 then
 Option.bind (Zs0 E0) fun x24 =>
 some (.inr x24)
 else
 some (.inr false)
 else
 bif (E0.Over != 1) then
 bif (E0.Winner != (-1)) then
 some (.inr false)
 else
 Option.bind (Zic v0 E0) fun x28 =>
 bif x28 then
 Option.bind (Zs0 E0) fun x31 =>
 some (.inr x31)
 else
 some (.inr false)
 else
 Option.bind (Zic v0 E0) fun x33 =>
 bif x33 then
 Option.bind (Zs0 E0) fun x36 =>
 some (.inr x36)
 else
 some (.inr false)
def Zauf : Zmr → Option (Zmr ⊕ Bool)
 | .L0 v0 E0 v5 => Z1p v0 E0 v5
def Zakr (a0 : (List Zu)) (a1 : Zc) : Option (Zmr ⊕ Bool) :=
 Option.bind (Znl a1.NextId 1 1000000) fun x1 =>
 bif (!x1) then
 some (.inr false)
 else
 Option.bind (Znl a1.NextStamp 1 1000000) fun x4 =>
 bif (!x4) then
 some (.inr false)
 else
 Option.bind (Znl a1.Turn 0 500) fun x7 =>
 bif (!x7) then
 some (.inr false)
 else
 Option.bind (Znl a1.Step 0 10) fun x10 =>
 bif (!x10) then
 some (.inr false)
 else
 bif decide ((a1.Objects.length : Int) > 2048) then
 some (.inr false)
 else
 Option.bind (Zqp a1) fun x15 =>
 bif (!x15) then
 some (.inr false)
 else
 Option.bind (Zna a1 a1.Active) fun x18 =>
 bif (!x18) then
 some (.inr false)
 else
 Option.bind (Zna a1 a1.Priority) fun x21 =>
 bif (!x21) then
 some (.inr false)
 else
 Option.bind (Znl a1.Passes 0 (a1.Players.length : Int)) fun x25 =>
 bif (!x25) then
 some (.inr false)
 else
 bif decide ((a1.Extra.length : Int) > 500) then
 some (.inr false)
 else
 Option.bind (Znl a1.Over 0 2) fun x30 =>
 bif (!x30) then
 some (.inr false)
 else
 some (.inl (.L0 a0 a1 0))
noncomputable def Z7e (a0 : (List Zu)) (a1 : Zc) : Option Bool := (Zakr a0 a1).bind (endO Zauf)
inductive Zkm where
 | L0 (v0 : (List Zu)) (E0 : Zc) (v5 : Int)
def Zro (v0 : (List Zu)) (E0 : Zc) (v5 : Int) : Option (Zkm ⊕ Bool) :=
 bif decide (v5 < (E0.Players.length : Int)) then
 Option.bind (idx? E0.Players v5) fun x3 =>
 bif decide ((IntKind.wrap .i64 ((IntKind.wrap .i64 ((x3.Library.length : Int) + (x3.Hand.length : Int))) + (x3.Graveyard.length : Int))) > 60) then
 some (.inr false)
 else
 some (.inl (.L0 v0 E0 (IntKind.wrap .i64 (v5 + 1))))
 else
 Option.bind (Zae0 v0) fun x15 =>
 bif (x15.2 == 0) then
 Option.bind (Z7e v0 E0) fun x18 =>
 some (.inr x18)
 else
 some (.inr false)
def Zaif : Zkm → Option (Zkm ⊕ Bool)
 | .L0 v0 E0 v5 => Zro v0 E0 v5
def Z6r (a0 : (List Zu)) (a1 : Zc) : Option (Zkm ⊕ Bool) :=
 bif decide ((a0.length : Int) > 12) then
 some (.inr false)
 else
 bif decide ((a1.Players.length : Int) > 4) then
 some (.inr false)
 else
 bif decide ((a1.Objects.length : Int) > 60) then
 some (.inr false)
 else
 bif decide ((a1.Battlefield.length : Int) > 60) then
 some (.inr false)
 else
 bif decide ((a1.Exile.length : Int) > 60) then
 some (.inr false)
 else
 bif decide ((a1.Stack.length : Int) > 8) then
 some (.inr false)
 else
 bif decide ((a1.Waiting.length : Int) > 8) then
 some (.inr false)
 else
 bif decide ((a1.Conts.length : Int) > 8) then
 some (.inr false)
 else
 bif decide ((a1.Extra.length : Int) > 20) then
 some (.inr false)
 else
 some (.inl (.L0 a0 a1 0))
noncomputable def Z7f (a0 : (List Zu)) (a1 : Zc) : Option Bool := (Z6r a0 a1).bind (endO Zaif)
abbrev Zqc := Empty
def Zbc6 : Zqc → Option (Zqc ⊕ Bool) := fun s => nomatch s
def Zae5 (a0 : Zan) : Option (Zqc ⊕ Bool) :=
 Option.bind (Z7f a0.Cards a0.State) fun x1 =>
 bif x1 then
 some (.inr (decide ((a0.Pending.Options.length : Int) ≤ 100)))
 else
 some (.inr false)
noncomputable def Zaar (a0 : Zan) : Option Bool := (Zae5 a0).bind (endO Zbc6)
inductive Znc where
 | L0 (E0 : Zan) (E1 : Zc) (v2 : (List Int)) (v3 : Int)
def Zaov (E0 : Zan) (E1 : Zc) (v2 : (List Int)) (v3 : Int) : Option (Znc ⊕ Zan) :=
 bif decide (v3 < 3) then
 Option.bind (idx? v2 v3) fun x4 =>
 Option.bind (app? 128 E1.Objects [(⟨IntKind.wrap .i64 (v3 + 1), 0, Int.tmod v3 2, Int.tmod v3 2, x4, false, false, false, false, 0, (⟨0, 0, 0⟩ : (A3 Int)), 0, (-1), (-1), false, 0, 0⟩ : Zf)]) fun x7 =>
 some (.inl (.L0 E0 (⟨E1.Players, x7, E1.Battlefield, E1.Exile, E1.Stack, E1.Waiting, E1.Conts, E1.Turn, E1.Active, E1.Step, E1.Begun, E1.Priority, E1.Passes, E1.NextId, E1.NextStamp, E1.Seed, E1.Extra, E1.Over, E1.Winner⟩ : Zc) v2 (IntKind.wrap .i64 (v3 + 1))))
 else
 some (.inr (⟨[(⟨([111, 97, 107] : List UInt8), false, (⟨0, 0, (⟨0, 0, 0, 0, 0⟩ : (A5 Int))⟩ : Zah), 0, (⟨0, 8, ([] : (List (List UInt8)))⟩ : Zkr), 0, 0, 0, ([] : (List Zq))⟩ : Zu)], E1, ([] : (List (List Int))), (⟨3, 0, 0, 0, 1, 0, [(⟨5, 3, 0⟩ : Z5)]⟩ : Zdd), 0, ([] : (List Zc))⟩ : Zan))
def Za4f : Znc → Option (Znc ⊕ Zan)
 | .L0 E0 E1 v2 v3 => Zaov E0 E1 v2 v3
def Zagq : Option (Znc ⊕ Zan) :=
 some (.inl (.L0 (⟨([] : (List Zu)), (⟨([] : (List Zaa)), ([] : (List Zf)), ([] : (List Int)), ([] : (List Int)), ([] : (List Zag)), ([] : (List Z7)), ([] : (List Zao)), 0, 0, 0, false, 0, 0, 0, 0, 0, ([] : (List Int)), 0, 0⟩ : Zc), ([] : (List (List Int))), (⟨0, 0, 0, 0, 0, 0, ([] : (List Z5))⟩ : Zdd), 0, ([] : (List Zc))⟩ : Zan) (⟨[(⟨20, 0, 0, (⟨0, 0, 0, 0, 0, 0⟩ : (A6 Int)), false, false, [3], [1], ([] : (List Int))⟩ : Zaa), (⟨18, 0, 0, (⟨0, 0, 0, 0, 0, 0⟩ : (A6 Int)), false, false, ([] : (List Int)), [2], ([] : (List Int))⟩ : Zaa)], ([] : (List Zf)), ([] : (List Int)), ([] : (List Int)), ([] : (List Zag)), ([] : (List Z7)), ([] : (List Zao)), 1, 0, 3, false, 0, 0, 4, 1, 0, ([] : (List Int)), 0, (-1)⟩ : Zc) [1, 1, 2] 0))
noncomputable def Z7g : Option Zan := (Zagq).bind (endO Za4f)
abbrev Zbg := Empty
def Zrp : Zbg → Option (Zbg ⊕ (List Zaa)) := fun s => nomatch s
def Zec (a0 : (List Zaa)) : Option (Zbg ⊕ (List Zaa)) :=
 Option.bind (app? 152 ([] : (List Zaa)) a0) fun x1 =>
 some (.inr x1)
noncomputable def Zfy (a0 : (List Zaa)) : Option (List Zaa) := (Zec a0).bind (endO Zrp)
abbrev Zdn := Empty
def Z5b : Zdn → Option (Zdn ⊕ (List Int)) := fun s => nomatch s
def Zis (a0 : (List Int)) : Option (Zdn ⊕ (List Int)) :=
 Option.bind (app? 8 ([] : (List Int)) a0) fun x1 =>
 some (.inr x1)
noncomputable def Zc1 (a0 : (List Int)) : Option (List Int) := (Zis a0).bind (endO Z5b)
abbrev Zjw := Empty
def Zaks : Zjw → Option (Zjw ⊕ Zaa) := fun s => nomatch s
def Zyh (a0 : Zaa) : Option (Zjw ⊕ Zaa) :=
 Option.bind (Zc1 a0.Library) fun x1 =>
 Option.bind (Zc1 a0.Hand) fun x3 =>
 Option.bind (Zc1 a0.Graveyard) fun x5 =>
 some (.inr (⟨a0.Life, a0.Venom, a0.Lands, a0.Pool, a0.Failed, a0.Lost, x1, x3, x5⟩ : Zaa))
noncomputable def Zqd (a0 : Zaa) : Option Zaa := (Zyh a0).bind (endO Zaks)
abbrev Zbh := Empty
def Zrq : Zbh → Option (Zbh ⊕ (List Zf)) := fun s => nomatch s
def Zed (a0 : (List Zf)) : Option (Zbh ⊕ (List Zf)) :=
 Option.bind (app? 128 ([] : (List Zf)) a0) fun x1 =>
 some (.inr x1)
noncomputable def Zfz (a0 : (List Zf)) : Option (List Zf) := (Zed a0).bind (endO Zrq)
abbrev Zby := Empty
def Zu6 : Zby → Option (Zby ⊕ (List Zag)) := fun s => nomatch s
def Zfd (a0 : (List Zag)) : Option (Zby ⊕ (List Zag)) :=
 Option.bind (app? 824 ([] : (List Zag)) a0) fun x1 =>
 some (.inr x1)
noncomputable def Zhc (a0 : (List Zag)) : Option (List Zag) := (Zfd a0).bind (endO Zu6)
abbrev Zb7 := Empty
def Zwm : Zb7 → Option (Zb7 ⊕ (List Zg)) := fun s => nomatch s
def Zfq (a0 : (List Zg)) : Option (Zb7 ⊕ (List Zg)) :=
 Option.bind (app? 176 ([] : (List Zg)) a0) fun x1 =>
 some (.inr x1)
noncomputable def Zdp (a0 : (List Zg)) : Option (List Zg) := (Zfq a0).bind (endO Zwm)
abbrev Zbz := Empty
def Zu7 : Zbz → Option (Zbz ⊕ (List Zai)) := fun s => nomatch s
def Zfe (a0 : (List Zai)) : Option (Zbz ⊕ (List Zai)) :=
 Option.bind (app? 144 ([] : (List Zai)) a0) fun x1 =>
 some (.inr x1)
noncomputable def Zhd (a0 : (List Zai)) : Option (List Zai) := (Zfe a0).bind (endO Zu7)
abbrev Zbi := Empty
def Zrr : Zbi → Option (Zbi ⊕ (List Zj)) := fun s => nomatch s
def Zee (a0 : (List Zj)) : Option (Zbi ⊕ (List Zj)) :=
 Option.bind (app? 560 ([] : (List Zj)) a0) fun x1 =>
 some (.inr x1)
noncomputable def Zf0 (a0 : (List Zj)) : Option (List Zj) := (Zee a0).bind (endO Zrr)
inductive Zgf where
 | L0 (E0 : Zq) (E1 : Zq) (v18 : Int) (v19 : Int)
def Zj9 (E0 : Zq) (E1 : Zq) (v18 : Int) (v19 : Int) : Option (Zgf ⊕ Zq) :=
 bif decide (v19 < v18) then
 Option.bind (idx? E0.Effects v19) fun x2 =>
 Option.bind (Zdp x2.Mods) fun x4 =>
 Option.bind (set? E0.Effects v19 (⟨x2.Op, x2.Ref, x2.Amount, x2.Counter, x2.Zone, x2.Card, x2.Filter, x2.Pool, x4⟩ : Zj)) fun x6 =>
 some (.inl (.L0 (⟨E0.Kind, E0.Filter, E0.Mods, E0.Price, E0.Slow, E0.Trigger, E0.May, E0.Specs, x6, E0.Replace⟩ : Zq) E1 v18 (IntKind.wrap .i64 (v19 + 1))))
 else
 some (.inr E0)
def Zrs : Zgf → Option (Zgf ⊕ Zq)
 | .L0 E0 E1 v18 v19 => Zj9 E0 E1 v18 v19
def Zwn (a0 : Zq) : Option (Zgf ⊕ Zq) :=
 Option.bind (Zdp a0.Mods) fun x1 =>
 Option.bind (Zhd a0.Specs) fun x3 =>
 Option.bind (Zf0 a0.Effects) fun x5 =>
 some (.inl (.L0 (⟨a0.Kind, a0.Filter, x1, a0.Price, a0.Slow, a0.Trigger, a0.May, x3, x5, a0.Replace⟩ : Zq) (⟨0, (⟨0, 0, 0, 0, 0, 0, 0, ([] : List UInt8), 0, 0, (⟨0, 0⟩ : Ze), (⟨0, 0⟩ : Ze), (⟨0, 0⟩ : Ze)⟩ : Zi), ([] : (List Zg)), (⟨(⟨0, 0, (⟨0, 0, 0, 0, 0⟩ : (A5 Int))⟩ : Zah), false, false, 0⟩ : Zih), false, (⟨0, 0, (⟨0, 0, 0, 0, 0, 0, 0, ([] : List UInt8), 0, 0, (⟨0, 0⟩ : Ze), (⟨0, 0⟩ : Ze), (⟨0, 0⟩ : Ze)⟩ : Zi)⟩ : Zdj), false, ([] : (List Zai)), ([] : (List Zj)), (⟨0, 0, (⟨0, 0, 0, 0, 0, 0, 0, ([] : List UInt8), 0, 0, (⟨0, 0⟩ : Ze), (⟨0, 0⟩ : Ze), (⟨0, 0⟩ : Ze)⟩ : Zi), 0, 0, 0, 0⟩ : Za1)⟩ : Zq) (x5.length : Int) 0))
noncomputable def Zms (a0 : Zq) : Option Zq := (Zwn a0).bind (endO Zrs)
abbrev Zbj := Empty
def Zrt : Zbj → Option (Zbj ⊕ (List Zar)) := fun s => nomatch s
def Zef (a0 : (List Zar)) : Option (Zbj ⊕ (List Zar)) :=
 Option.bind (app? 16 ([] : (List Zar)) a0) fun x1 =>
 some (.inr x1)
noncomputable def Zey (a0 : (List Zar)) : Option (List Zar) := (Zef a0).bind (endO Zrt)
abbrev Zbb := Empty
def Zqr : Zbb → Option (Zbb ⊕ (List Z7)) := fun s => nomatch s
def Zdq (a0 : (List Z7)) : Option (Zbb ⊕ (List Z7)) :=
 Option.bind (app? 768 ([] : (List Z7)) a0) fun x1 =>
 some (.inr x1)
noncomputable def Zfu (a0 : (List Z7)) : Option (List Z7) := (Zdq a0).bind (endO Zqr)
abbrev Zb0 := Empty
def Zu8 : Zb0 → Option (Zb0 ⊕ (List Zao)) := fun s => nomatch s
def Zff (a0 : (List Zao)) : Option (Zb0 ⊕ (List Zao)) :=
 Option.bind (app? 80 ([] : (List Zao)) a0) fun x1 =>
 some (.inr x1)
noncomputable def Zhe (a0 : (List Zao)) : Option (List Zao) := (Zff a0).bind (endO Zu8)
inductive Zgm where
 | L0 (E0 : Zc) (E1 : Zc) (v13 : Int) (v14 : Int)
 | L1 (E0 : Zc) (E1 : Zc) (v46 : Int) (v47 : Int)
 | L2 (E0 : Zc) (E1 : Zc) (v81 : Int) (v82 : Int)
 | L3 (E0 : Zc) (E1 : Zc) (v104 : Int) (v105 : Int)
def Zru (E0 : Zc) (E1 : Zc) (v13 : Int) (v14 : Int) : Option (Zgm ⊕ Zc) :=
 bif decide (v14 < v13) then
 Option.bind (idx? E0.Players v14) fun x2 =>
 Option.bind (Zqd x2) fun x4 =>
 Option.bind (set? E0.Players v14 x4) fun x6 =>
 some (.inl (.L0 (⟨x6, E0.Objects, E0.Battlefield, E0.Exile, E0.Stack, E0.Waiting, E0.Conts, E0.Turn, E0.Active, E0.Step, E0.Begun, E0.Priority, E0.Passes, E0.NextId, E0.NextStamp, E0.Seed, E0.Extra, E0.Over, E0.Winner⟩ : Zc) E1 v13 (IntKind.wrap .i64 (v14 + 1))))
 else
 Option.bind (Zfz E0.Objects) fun x10 =>
 Option.bind (Zc1 E0.Battlefield) fun x12 =>
 Option.bind (Zc1 E0.Exile) fun x14 =>
 Option.bind (Zhc E0.Stack) fun x16 =>
 some (.inl (.L1 (⟨E0.Players, x10, x12, x14, x16, E0.Waiting, E0.Conts, E0.Turn, E0.Active, E0.Step, E0.Begun, E0.Priority, E0.Passes, E0.NextId, E0.NextStamp, E0.Seed, E0.Extra, E0.Over, E0.Winner⟩ : Zc) E1 (x16.length : Int) 0))
def Zrv (E0 : Zc) (E1 : Zc) (v46 : Int) (v47 : Int) : Option (Zgm ⊕ Zc) :=
 bif decide (v47 < v46) then
 Option.bind (idx? E0.Stack v47) fun x2 =>
 Option.bind (Zms x2.Ability) fun x4 =>
 Option.bind (set? E0.Stack v47 (⟨x2.Id, x2.Kind, x2.Source, x2.Control, x2.X, x2.Copy, x4, x2.Targets, x2.Event⟩ : Zag)) fun x6 =>
 Option.bind (idx? x6 v47) fun x8 =>
 Option.bind (Zey x8.Targets) fun x10 =>
 Option.bind (set? x6 v47 (⟨x8.Id, x8.Kind, x8.Source, x8.Control, x8.X, x8.Copy, x8.Ability, x10, x8.Event⟩ : Zag)) fun x12 =>
 some (.inl (.L1 (⟨E0.Players, E0.Objects, E0.Battlefield, E0.Exile, x12, E0.Waiting, E0.Conts, E0.Turn, E0.Active, E0.Step, E0.Begun, E0.Priority, E0.Passes, E0.NextId, E0.NextStamp, E0.Seed, E0.Extra, E0.Over, E0.Winner⟩ : Zc) E1 v46 (IntKind.wrap .i64 (v47 + 1))))
 else
 Option.bind (Zfu E0.Waiting) fun x16 =>
 some (.inl (.L2 (⟨E0.Players, E0.Objects, E0.Battlefield, E0.Exile, E0.Stack, x16, E0.Conts, E0.Turn, E0.Active, E0.Step, E0.Begun, E0.Priority, E0.Passes, E0.NextId, E0.NextStamp, E0.Seed, E0.Extra, E0.Over, E0.Winner⟩ : Zc) E1 (x16.length : Int) 0))
def Zrw (E0 : Zc) (E1 : Zc) (v81 : Int) (v82 : Int) : Option (Zgm ⊕ Zc) :=
 bif decide (v82 < v81) then
 Option.bind (idx? E0.Waiting v82) fun x2 =>
 Option.bind (Zms x2.Ability) fun x4 =>
 Option.bind (set? E0.Waiting v82 (⟨x2.Source, x2.Control, x4, x2.Event⟩ : Z7)) fun x6 =>
 some (.inl (.L2 (⟨E0.Players, E0.Objects, E0.Battlefield, E0.Exile, E0.Stack, x6, E0.Conts, E0.Turn, E0.Active, E0.Step, E0.Begun, E0.Priority, E0.Passes, E0.NextId, E0.NextStamp, E0.Seed, E0.Extra, E0.Over, E0.Winner⟩ : Zc) E1 v81 (IntKind.wrap .i64 (v82 + 1))))
 else
 Option.bind (Zhe E0.Conts) fun x10 =>
 some (.inl (.L3 (⟨E0.Players, E0.Objects, E0.Battlefield, E0.Exile, E0.Stack, E0.Waiting, x10, E0.Turn, E0.Active, E0.Step, E0.Begun, E0.Priority, E0.Passes, E0.NextId, E0.NextStamp, E0.Seed, E0.Extra, E0.Over, E0.Winner⟩ : Zc) E1 (x10.length : Int) 0))
def Zrx (E0 : Zc) (E1 : Zc) (v104 : Int) (v105 : Int) : Option (Zgm ⊕ Zc) :=
 bif decide (v105 < v104) then
 Option.bind (idx? E0.Conts v105) fun x2 =>
 Option.bind (Zc1 x2.Objects) fun x4 =>
 Option.bind (set? E0.Conts v105 (⟨x2.Stamp, x2.Control, x2.Source, x2.Until, x4, x2.Mods⟩ : Zao)) fun x6 =>
 Option.bind (idx? x6 v105) fun x8 =>
 Option.bind (Zdp x8.Mods) fun x10 =>
 Option.bind (set? x6 v105 (⟨x8.Stamp, x8.Control, x8.Source, x8.Until, x8.Objects, x10⟩ : Zao)) fun x12 =>
 some (.inl (.L3 (⟨E0.Players, E0.Objects, E0.Battlefield, E0.Exile, E0.Stack, E0.Waiting, x12, E0.Turn, E0.Active, E0.Step, E0.Begun, E0.Priority, E0.Passes, E0.NextId, E0.NextStamp, E0.Seed, E0.Extra, E0.Over, E0.Winner⟩ : Zc) E1 v104 (IntKind.wrap .i64 (v105 + 1))))
 else
 Option.bind (Zc1 E0.Extra) fun x16 =>
 some (.inr (⟨E0.Players, E0.Objects, E0.Battlefield, E0.Exile, E0.Stack, E0.Waiting, E0.Conts, E0.Turn, E0.Active, E0.Step, E0.Begun, E0.Priority, E0.Passes, E0.NextId, E0.NextStamp, E0.Seed, x16, E0.Over, E0.Winner⟩ : Zc))
def Zfr : Zgm → Option (Zgm ⊕ Zc)
 | .L0 E0 E1 v13 v14 => Zru E0 E1 v13 v14
 | .L1 E0 E1 v46 v47 => Zrv E0 E1 v46 v47
 | .L2 E0 E1 v81 v82 => Zrw E0 E1 v81 v82
 | .L3 E0 E1 v104 v105 => Zrx E0 E1 v104 v105
def Zagr (a0 : Zc) : Option (Zgm ⊕ Zc) :=
 Option.bind (Zfy a0.Players) fun x1 =>
 some (.inl (.L0 (⟨x1, a0.Objects, a0.Battlefield, a0.Exile, a0.Stack, a0.Waiting, a0.Conts, a0.Turn, a0.Active, a0.Step, a0.Begun, a0.Priority, a0.Passes, a0.NextId, a0.NextStamp, a0.Seed, a0.Extra, a0.Over, a0.Winner⟩ : Zc) (⟨([] : (List Zaa)), ([] : (List Zf)), ([] : (List Int)), ([] : (List Int)), ([] : (List Zag)), ([] : (List Z7)), ([] : (List Zao)), 0, 0, 0, false, 0, 0, 0, 0, 0, ([] : (List Int)), 0, 0⟩ : Zc) (x1.length : Int) 0))
noncomputable def Z7h (a0 : Zc) : Option Zc := (Zagr a0).bind (endO Zfr)
abbrev Zij := Empty
def Zags : Zij → Option (Zij ⊕ Bool) := fun s => nomatch s
def Z4l (a0 : Zf) (b0 : Int) : Option (Zij ⊕ Bool) :=
 some (.inr (a0.Id == b0))
noncomputable def Zyi (a0 : Zf) (b0 : Int) : Option Bool := (Z4l a0 b0).bind (endO Zags)
inductive Zae where
 | L0 (v0 : (List Zf)) (b0 : Int) (v7 : Int) (v8 : Int)
def Zam (v0 : (List Zf)) (b0 : Int) (v7 : Int) (v8 : Int) : Option (Zae ⊕ (Int × Int)) :=
 bif decide (v8 < v7) then
 Option.bind (idx? v0 v8) fun x2 =>
 Option.bind (Zyi x2 b0) fun x4 =>
 bif x4 then
 some (.inr (v8, b0))
 else
 some (.inl (.L0 v0 b0 v7 (IntKind.wrap .i64 (v8 + 1))))
 else
 some (.inr ((-1), b0))
def Za8 : Zae → Option (Zae ⊕ (Int × Int))
 | .L0 v0 b0 v7 v8 => Zam v0 b0 v7 v8
def Zek (a0 : (List Zf)) (b0 : Int) : Option (Zae ⊕ (Int × Int)) :=
 some (.inl (.L0 a0 b0 (a0.length : Int) 0))
noncomputable def Ze4 (a0 : (List Zf)) (b0 : Int) : Option (Int × Int) := (Zek a0 b0).bind (endO Za8)
abbrev Zpj := Empty
def Zaz9 : Zpj → Option (Zpj ⊕ Int) := fun s => nomatch s
def Zabp (a0 : Zc) (a1 : Int) : Option (Zpj ⊕ Int) :=
 Option.bind (Ze4 a0.Objects a1) fun x1 =>
 some (.inr x1.1)
noncomputable def Zakt (a0 : Zc) (a1 : Int) : Option Int := (Zabp a0 a1).bind (endO Zaz9)
abbrev Zqs := Empty
def Za4g : Zqs → Option (Zqs ⊕ (Zf × Bool)) := fun s => nomatch s
def Zagt (a0 : Zc) (a1 : Int) : Option (Zqs ⊕ (Zf × Bool)) :=
 Option.bind (Zakt a0 a1) fun x1 =>
 bif decide (x1 < 0) then
 some (.inr ((⟨0, 0, 0, 0, 0, false, false, false, false, 0, (⟨0, 0, 0⟩ : (A3 Int)), 0, 0, 0, false, 0, 0⟩ : Zf), false))
 else
 Option.bind (idx? a0.Objects x1) fun x4 =>
 some (.inr (x4, true))
noncomputable def Zae6 (a0 : Zc) (a1 : Int) : Option (Zf × Bool) := (Zagt a0 a1).bind (endO Za4g)
inductive Zdo where
 | L0 (v0 : (List Int)) (v1 : Int) (v7 : Int) (v8 : Int)
def Zf9 (v0 : (List Int)) (v1 : Int) (v7 : Int) (v8 : Int) : Option (Zdo ⊕ Int) :=
 bif decide (v8 < v7) then
 Option.bind (idx? v0 v8) fun x2 =>
 bif (v1 == x2) then
 some (.inr v8)
 else
 some (.inl (.L0 v0 v1 v7 (IntKind.wrap .i64 (v8 + 1))))
 else
 some (.inr (-1))
def Zfs : Zdo → Option (Zdo ⊕ Int)
 | .L0 v0 v1 v7 v8 => Zf9 v0 v1 v7 v8
def Zov (a0 : (List Int)) (a1 : Int) : Option (Zdo ⊕ Int) :=
 some (.inl (.L0 a0 a1 (a0.length : Int) 0))
noncomputable def Zpu (a0 : (List Int)) (a1 : Int) : Option Int := (Zov a0 a1).bind (endO Zfs)
abbrev Zev := Empty
def Z1t : Zev → Option (Zev ⊕ Bool) := fun s => nomatch s
def Zmt (a0 : (List Int)) (a1 : Int) : Option (Zev ⊕ Bool) :=
 Option.bind (Zpu a0 a1) fun x1 =>
 some (.inr (decide (x1 ≥ 0)))
noncomputable def Zhz (a0 : (List Int)) (a1 : Int) : Option Bool := (Zmt a0 a1).bind (endO Z1t)
inductive Zlu where
 | L0 (v1 : Int) (v2 : Int) (E0 : Zc) (E1 : Zf) (v20 : Int) (v21 : Int)
def Zp2 (v1 : Int) (v2 : Int) (E0 : Zc) (E1 : Zf) (v20 : Int) (v21 : Int) : Option (Zlu ⊕ Bool) :=
 bif decide (v21 < v20) then
 Option.bind (idx? E0.Players v21) fun x2 =>
 Option.bind (Zhz x2.Library v2) fun x4 =>
 bif x4 then
 some (.inr false)
 else
 bif (v21 != v1) then
 Option.bind (Zhz x2.Hand v2) fun x8 =>
 bif x8 then
 some (.inr false)
 else
 some (.inl (.L0 v1 v2 E0 E1 v20 (IntKind.wrap .i64 (v21 + 1))))
 else
 some (.inl (.L0 v1 v2 E0 E1 v20 (IntKind.wrap .i64 (v21 + 1))))
 else
 bif (E1.Zone != 2) then
 bif (E1.Zone != 1) then
 some (.inr true)
 else
 bif decide (v1 ≥ 0) then
 some (.inr (decide (v1 < (E0.Players.length : Int))))
 else
 some (.inr false)
 else
 some (.inr false)
def Z2r : Zlu → Option (Zlu ⊕ Bool)
 | .L0 v1 v2 E0 E1 v20 v21 => Zp2 v1 v2 E0 E1 v20 v21
def Zabq (a0 : Zc) (a1 : Int) (a2 : Int) : Option (Zlu ⊕ Bool) :=
 Option.bind (Zae6 a0 a2) fun x1 =>
 bif (!x1.2) then
 some (.inr false)
 else
 some (.inl (.L0 a1 a2 a0 x1.1 (a0.Players.length : Int) 0))
noncomputable def Zow (a0 : Zc) (a1 : Int) (a2 : Int) : Option Bool := (Zabq a0 a1 a2).bind (endO Z2r)
abbrev Zbk := Empty
def Zry : Zbk → Option (Zbk ⊕ (List Z5)) := fun s => nomatch s
def Zeg (a0 : (List Z5)) : Option (Zbk ⊕ (List Z5)) :=
 Option.bind (app? 24 ([] : (List Z5)) a0) fun x1 =>
 some (.inr x1)
noncomputable def Zf1 (a0 : (List Z5)) : Option (List Z5) := (Zeg a0).bind (endO Zry)
abbrev Zi7 := Empty
def Zaig : Zi7 → Option (Zi7 ⊕ Bool) := fun s => nomatch s
def Zwo (a0 : Z5) (b0 : Int) : Option (Zi7 ⊕ Bool) :=
 bif (a0.Kind == 5) then
 some (.inr (a0.A == b0))
 else
 some (.inr false)
noncomputable def Zth (a0 : Z5) (b0 : Int) : Option Bool := (Zwo a0 b0).bind (endO Zaig)
inductive Zaf where
 | L0 (v0 : (List Z5)) (b0 : Int) (v7 : Int) (v8 : Int)
def Zbd (v0 : (List Z5)) (b0 : Int) (v7 : Int) (v8 : Int) : Option (Zaf ⊕ (Int × Int)) :=
 bif decide (v8 < v7) then
 Option.bind (idx? v0 v8) fun x2 =>
 Option.bind (Zth x2 b0) fun x4 =>
 bif x4 then
 some (.inr (v8, b0))
 else
 some (.inl (.L0 v0 b0 v7 (IntKind.wrap .i64 (v8 + 1))))
 else
 some (.inr ((-1), b0))
def Zba : Zaf → Option (Zaf ⊕ (Int × Int))
 | .L0 v0 b0 v7 v8 => Zbd v0 b0 v7 v8
def Zew (a0 : (List Z5)) (b0 : Int) : Option (Zaf ⊕ (Int × Int)) :=
 some (.inl (.L0 a0 b0 (a0.length : Int) 0))
noncomputable def Ze6 (a0 : (List Z5)) (b0 : Int) : Option (Int × Int) := (Zew a0 b0).bind (endO Zba)
abbrev Zas := Empty
def Zk0 : Zas → Option (Zas ⊕ (Bool × Int)) := fun s => nomatch s
def Zeb (a0 : (List Z5)) (b0 : Int) : Option (Zas ⊕ (Bool × Int)) :=
 Option.bind (Ze6 a0 b0) fun x1 =>
 some (.inr (decide (x1.1 ≥ 0), x1.2))
noncomputable def Zcw (a0 : (List Z5)) (b0 : Int) : Option (Bool × Int) := (Zeb a0 b0).bind (endO Zk0)
abbrev Zg6 := Empty
def Zabr : Zg6 → Option (Zg6 ⊕ Bool) := fun s => nomatch s
def Zrz (a0 : Int) (b0 : Zan) (b1 : Int) : Option (Zg6 ⊕ Bool) :=
 bif (b0.Pending.Kind != 0) then
 bif (b0.Pending.Player == b1) then
 Option.bind (Zcw b0.Pending.Options a0) fun x3 =>
 some (.inr x3.1)
 else
 some (.inr false)
 else
 some (.inr false)
noncomputable def Zps (a0 : Int) (b0 : Zan) (b1 : Int) : Option Bool := (Zrz a0 b0 b1).bind (endO Zabr)
inductive Znm where
 | L0 (E0 : Zan) (E1 : Int) (E2 : Zaq) (E3 : Zc) (E4 : Zaq) (v47 : (List Zaa)) (v48 : Int) (v49 : Int)
 | L1 (E0 : Zan) (E1 : Int) (E2 : Zaq) (E3 : Zc) (E4 : Zaq) (v86 : (List Zf)) (v87 : Int) (v88 : Int)
def Zx3 (E0 : Zan) (E1 : Int) (E2 : Zaq) (E3 : Zc) (E4 : Zaq) (v47 : (List Zaa)) (v48 : Int) (v49 : Int) : Option (Znm ⊕ Zaq) :=
 bif decide (v49 < v48) then
 Option.bind (idx? v47 v49) fun x2 =>
 Option.bind (app? 120 E4.Players [(⟨x2.Life, x2.Venom, x2.Lands, (x2.Library.length : Int), (x2.Hand.length : Int), x2.Pool, x2.Lost, x2.Graveyard⟩ : Zct)]) fun x7 =>
 bif (v49 == E1) then
 some (.inl (.L0 E0 E1 E2 E3 (⟨E4.Player, x7, x2.Hand, E4.Objects, E4.Battlefield, E4.Exile, E4.Stack, E4.Waiting, E4.Conts, E4.Turn, E4.Active, E4.Step, E4.Priority, E4.Passes, E4.NextId, E4.Over, E4.Winner, E4.Extra, E4.Pending⟩ : Zaq) v47 v48 (IntKind.wrap .i64 (v49 + 1))))
 else
 some (.inl (.L0 E0 E1 E2 E3 (⟨E4.Player, x7, E4.Hand, E4.Objects, E4.Battlefield, E4.Exile, E4.Stack, E4.Waiting, E4.Conts, E4.Turn, E4.Active, E4.Step, E4.Priority, E4.Passes, E4.NextId, E4.Over, E4.Winner, E4.Extra, E4.Pending⟩ : Zaq) v47 v48 (IntKind.wrap .i64 (v49 + 1))))
 else
 some (.inl (.L1 E0 E1 E2 E3 E4 E3.Objects (E3.Objects.length : Int) 0))
def Zx4 (E0 : Zan) (E1 : Int) (E2 : Zaq) (E3 : Zc) (E4 : Zaq) (v86 : (List Zf)) (v87 : Int) (v88 : Int) : Option (Znm ⊕ Zaq) :=
 bif decide (v88 < v87) then
 Option.bind (idx? v86 v88) fun x2 =>
 Option.bind (Zow E3 E1 x2.Id) fun x4 =>
 bif x4 then
 Option.bind (app? 128 E4.Objects [x2]) fun x8 =>
 some (.inl (.L1 E0 E1 E2 E3 (⟨E4.Player, E4.Players, E4.Hand, x8, E4.Battlefield, E4.Exile, E4.Stack, E4.Waiting, E4.Conts, E4.Turn, E4.Active, E4.Step, E4.Priority, E4.Passes, E4.NextId, E4.Over, E4.Winner, E4.Extra, E4.Pending⟩ : Zaq) v86 v87 (IntKind.wrap .i64 (v88 + 1))))
 else
 Option.bind (Zps x2.Id E0 E1) fun x14 =>
 bif x14 then
 Option.bind (app? 128 E4.Objects [x2]) fun x18 =>
 some (.inl (.L1 E0 E1 E2 E3 (⟨E4.Player, E4.Players, E4.Hand, x18, E4.Battlefield, E4.Exile, E4.Stack, E4.Waiting, E4.Conts, E4.Turn, E4.Active, E4.Step, E4.Priority, E4.Passes, E4.NextId, E4.Over, E4.Winner, E4.Extra, E4.Pending⟩ : Zaq) v86 v87 (IntKind.wrap .i64 (v88 + 1))))
 else
 some (.inl (.L1 E0 E1 E2 E3 E4 v86 v87 (IntKind.wrap .i64 (v88 + 1))))
 else
 bif (E0.Pending.Player == E1) then
 Option.bind (Zf1 E0.Pending.Options) fun x27 =>
 some (.inr (⟨E4.Player, E4.Players, E4.Hand, E4.Objects, E4.Battlefield, E4.Exile, E4.Stack, E4.Waiting, E4.Conts, E4.Turn, E4.Active, E4.Step, E4.Priority, E4.Passes, E4.NextId, E4.Over, E4.Winner, E4.Extra, (⟨E0.Pending.Kind, E0.Pending.Player, E0.Pending.Source, E0.Pending.Least, E0.Pending.Most, E0.Pending.N, x27⟩ : Zdd)⟩ : Zaq))
 else
 some (.inr (⟨E4.Player, E4.Players, E4.Hand, E4.Objects, E4.Battlefield, E4.Exile, E4.Stack, E4.Waiting, E4.Conts, E4.Turn, E4.Active, E4.Step, E4.Priority, E4.Passes, E4.NextId, E4.Over, E4.Winner, E4.Extra, (⟨E0.Pending.Kind, E0.Pending.Player, 0, 0, 0, 0, ([] : (List Z5))⟩ : Zdd)⟩ : Zaq))
def Zwp : Znm → Option (Znm ⊕ Zaq)
 | .L0 E0 E1 E2 E3 E4 v47 v48 v49 => Zx3 E0 E1 E2 E3 E4 v47 v48 v49
 | .L1 E0 E1 E2 E3 E4 v86 v87 v88 => Zx4 E0 E1 E2 E3 E4 v86 v87 v88
def Zaow (a0 : Zan) (a1 : Int) : Option (Znm ⊕ Zaq) :=
 Option.bind (Z7h a0.State) fun x1 =>
 some (.inl (.L0 a0 a1 (⟨0, ([] : (List Zct)), ([] : (List Int)), ([] : (List Zf)), ([] : (List Int)), ([] : (List Int)), ([] : (List Zag)), ([] : (List Z7)), ([] : (List Zao)), 0, 0, 0, 0, 0, 0, 0, 0, ([] : (List Int)), (⟨0, 0, 0, 0, 0, 0, ([] : (List Z5))⟩ : Zdd)⟩ : Zaq) x1 (⟨a1, ([] : (List Zct)), ([] : (List Int)), ([] : (List Zf)), x1.Battlefield, x1.Exile, x1.Stack, x1.Waiting, x1.Conts, x1.Turn, x1.Active, x1.Step, x1.Priority, x1.Passes, x1.NextId, x1.Over, x1.Winner, x1.Extra, (⟨0, 0, 0, 0, 0, 0, ([] : (List Z5))⟩ : Zdd)⟩ : Zaq) x1.Players (x1.Players.length : Int) 0))
noncomputable def Zaas (a0 : Zan) (a1 : Int) : Option Zaq := (Zaow a0 a1).bind (endO Zwp)
inductive Zlv where
 | L0 (v0 : (List Int)) (v1 : (List Int)) (v5 : Int)
def Zuz (v0 : (List Int)) (v1 : (List Int)) (v5 : Int) : Option (Zlv ⊕ Bool) :=
 bif decide (v5 < (v0.length : Int)) then
 Option.bind (idx? v0 v5) fun x3 =>
 Option.bind (idx? v1 v5) fun x5 =>
 bif (x3 != x5) then
 some (.inr false)
 else
 some (.inl (.L0 v0 v1 (IntKind.wrap .i64 (v5 + 1))))
 else
 some (.inr true)
def Z73 : Zlv → Option (Zlv ⊕ Bool)
 | .L0 v0 v1 v5 => Zuz v0 v1 v5
def Zaku (a0 : (List Int)) (a1 : (List Int)) : Option (Zlv ⊕ Bool) :=
 bif ((a0.length : Int) != (a1.length : Int)) then
 some (.inr false)
 else
 some (.inl (.L0 a0 a1 0))
noncomputable def Zakv (a0 : (List Int)) (a1 : (List Int)) : Option Bool := (Zaku a0 a1).bind (endO Z73)
inductive Zcf where
 | L0 (v0 : (List Int)) (v1 : (List Int)) (v12 : Int) (v13 : Int)
def Zga (v0 : (List Int)) (v1 : (List Int)) (v12 : Int) (v13 : Int) : Option (Zcf ⊕ Bool) :=
 bif decide (v13 < v12) then
 Option.bind (idx? v0 v13) fun x2 =>
 Option.bind (idx? v1 v13) fun x4 =>
 bif (x2 != x4) then
 some (.inr false)
 else
 some (.inl (.L0 v0 v1 v12 (IntKind.wrap .i64 (v13 + 1))))
 else
 some (.inr true)
def Zmu : Zcf → Option (Zcf ⊕ Bool)
 | .L0 v0 v1 v12 v13 => Zga v0 v1 v12 v13
def Zox (a0 : (List Int)) (a1 : (List Int)) : Option (Zcf ⊕ Bool) :=
 bif ((a0.length : Int) != (a1.length : Int)) then
 some (.inr false)
 else
 some (.inl (.L0 a0 a1 (a0.length : Int) 0))
noncomputable def Zej (a0 : (List Int)) (a1 : (List Int)) : Option Bool := (Zox a0 a1).bind (endO Zmu)
inductive Zau where
 | L0 (v0 : (List Zf)) (v1 : (List Zf)) (v12 : Int) (v13 : Int)
def Zcy (v0 : (List Zf)) (v1 : (List Zf)) (v12 : Int) (v13 : Int) : Option (Zau ⊕ Bool) :=
 bif decide (v13 < v12) then
 Option.bind (idx? v0 v13) fun x2 =>
 Option.bind (idx? v1 v13) fun x4 =>
 bif (!(eqTs (Zd x2) (Zd x4))) then
 some (.inr false)
 else
 some (.inl (.L0 v0 v1 v12 (IntKind.wrap .i64 (v13 + 1))))
 else
 some (.inr true)
def Zg7 : Zau → Option (Zau ⊕ Bool)
 | .L0 v0 v1 v12 v13 => Zcy v0 v1 v12 v13
def Zh0 (a0 : (List Zf)) (a1 : (List Zf)) : Option (Zau ⊕ Bool) :=
 bif ((a0.length : Int) != (a1.length : Int)) then
 some (.inr false)
 else
 some (.inl (.L0 a0 a1 (a0.length : Int) 0))
noncomputable def Zf2 (a0 : (List Zf)) (a1 : (List Zf)) : Option Bool := (Zh0 a0 a1).bind (endO Zg7)
abbrev Zlw := Empty
def Zaox : Zlw → Option (Zlw ⊕ Bool) := fun s => nomatch s
def Z2s (a0 : Zct) (a1 : Zct) : Option (Zlw ⊕ Bool) :=
 bif (a0.Life == a1.Life) then
 bif (a0.Venom == a1.Venom) then
 bif (a0.Lands == a1.Lands) then
 bif (a0.Library == a1.Library) then
 bif (a0.Hand == a1.Hand) then
 bif eqTs ((cA6 (cI .i64)) a0.Pool) ((cA6 (cI .i64)) a1.Pool) then
 bif (a0.Lost == a1.Lost) then
 Option.bind (Zej a0.Graveyard a1.Graveyard) fun x8 =>
 some (.inr x8)
 else
 some (.inr false)
 else
 some (.inr false)
 else
 some (.inr false)
 else
 some (.inr false)
 else
 some (.inr false)
 else
 some (.inr false)
 else
 some (.inr false)
noncomputable def Zzn (a0 : Zct) (a1 : Zct) : Option Bool := (Z2s a0 a1).bind (endO Zaox)
inductive Zav where
 | L0 (v0 : (List Zar)) (v1 : (List Zar)) (v12 : Int) (v13 : Int)
def Zcz (v0 : (List Zar)) (v1 : (List Zar)) (v12 : Int) (v13 : Int) : Option (Zav ⊕ Bool) :=
 bif decide (v13 < v12) then
 Option.bind (idx? v0 v13) fun x2 =>
 Option.bind (idx? v1 v13) fun x4 =>
 bif (!(eqTs (Zad x2) (Zad x4))) then
 some (.inr false)
 else
 some (.inl (.L0 v0 v1 v12 (IntKind.wrap .i64 (v13 + 1))))
 else
 some (.inr true)
def Zg8 : Zav → Option (Zav ⊕ Bool)
 | .L0 v0 v1 v12 v13 => Zcz v0 v1 v12 v13
def Zh1 (a0 : (List Zar)) (a1 : (List Zar)) : Option (Zav ⊕ Bool) :=
 bif ((a0.length : Int) != (a1.length : Int)) then
 some (.inr false)
 else
 some (.inl (.L0 a0 a1 (a0.length : Int) 0))
noncomputable def Zf3 (a0 : (List Zar)) (a1 : (List Zar)) : Option Bool := (Zh1 a0 a1).bind (endO Zg8)
inductive Zbf where
 | L0 (v0 : (List Zg)) (v1 : (List Zg)) (v12 : Int) (v13 : Int)
def Zea (v0 : (List Zg)) (v1 : (List Zg)) (v12 : Int) (v13 : Int) : Option (Zbf ⊕ Bool) :=
 bif decide (v13 < v12) then
 Option.bind (idx? v0 v13) fun x2 =>
 Option.bind (idx? v1 v13) fun x4 =>
 bif (!(eqTs (Zp x2) (Zp x4))) then
 some (.inr false)
 else
 some (.inl (.L0 v0 v1 v12 (IntKind.wrap .i64 (v13 + 1))))
 else
 some (.inr true)
def Zi8 : Zbf → Option (Zbf ⊕ Bool)
 | .L0 v0 v1 v12 v13 => Zea v0 v1 v12 v13
def Zkn (a0 : (List Zg)) (a1 : (List Zg)) : Option (Zbf ⊕ Bool) :=
 bif ((a0.length : Int) != (a1.length : Int)) then
 some (.inr false)
 else
 some (.inl (.L0 a0 a1 (a0.length : Int) 0))
noncomputable def Ze5 (a0 : (List Zg)) (a1 : (List Zg)) : Option Bool := (Zkn a0 a1).bind (endO Zi8)
inductive Za9 where
 | L0 (v0 : (List Zai)) (v1 : (List Zai)) (v12 : Int) (v13 : Int)
def Zdl (v0 : (List Zai)) (v1 : (List Zai)) (v12 : Int) (v13 : Int) : Option (Za9 ⊕ Bool) :=
 bif decide (v13 < v12) then
 Option.bind (idx? v0 v13) fun x2 =>
 Option.bind (idx? v1 v13) fun x4 =>
 bif (!(eqTs (Z3 x2) (Z3 x4))) then
 some (.inr false)
 else
 some (.inl (.L0 v0 v1 v12 (IntKind.wrap .i64 (v13 + 1))))
 else
 some (.inr true)
def Zik : Za9 → Option (Za9 ⊕ Bool)
 | .L0 v0 v1 v12 v13 => Zdl v0 v1 v12 v13
def Zjq (a0 : (List Zai)) (a1 : (List Zai)) : Option (Za9 ⊕ Bool) :=
 bif ((a0.length : Int) != (a1.length : Int)) then
 some (.inr false)
 else
 some (.inl (.L0 a0 a1 (a0.length : Int) 0))
noncomputable def Zhf (a0 : (List Zai)) (a1 : (List Zai)) : Option Bool := (Zjq a0 a1).bind (endO Zik)
abbrev Zjx := Empty
def Zakw : Zjx → Option (Zjx ⊕ Bool) := fun s => nomatch s
def Zyj (a0 : Zj) (a1 : Zj) : Option (Zjx ⊕ Bool) :=
 bif (a0.Op == a1.Op) then
 bif eqTs (Zfj a0.Ref) (Zfj a1.Ref) then
 bif eqTs (Zb2 a0.Amount) (Zb2 a1.Amount) then
 bif (a0.Counter == a1.Counter) then
 bif (a0.Zone == a1.Zone) then
 bif (a0.Card == a1.Card) then
 bif eqTs (Zv a0.Filter) (Zv a1.Filter) then
 bif eqTs ((cA6 (cI .i64)) a0.Pool) ((cA6 (cI .i64)) a1.Pool) then
 Option.bind (Ze5 a0.Mods a1.Mods) fun x9 =>
 some (.inr x9)
 else
 some (.inr false)
 else
 some (.inr false)
 else
 some (.inr false)
 else
 some (.inr false)
 else
 some (.inr false)
 else
 some (.inr false)
 else
 some (.inr false)
 else
 some (.inr false)
noncomputable def Zvo (a0 : Zj) (a1 : Zj) : Option Bool := (Zyj a0 a1).bind (endO Zakw)
inductive Zr where
 | L0 (v1 : (List Zj)) (v15 : (List Zj)) (v16 : Int) (v17 : Int)
def Zac (v1 : (List Zj)) (v15 : (List Zj)) (v16 : Int) (v17 : Int) : Option (Zr ⊕ Bool) :=
 bif decide (v17 < v16) then
 Option.bind (idx? v15 v17) fun x2 =>
 Option.bind (idx? v1 v17) fun x4 =>
 Option.bind (Zvo x2 x4) fun x6 =>
 bif (!x6) then
 some (.inr false)
 else
 some (.inl (.L0 v1 v15 v16 (IntKind.wrap .i64 (v17 + 1))))
 else
 some (.inr true)
def Zb3 : Zr → Option (Zr ⊕ Bool)
 | .L0 v1 v15 v16 v17 => Zac v1 v15 v16 v17
def Zb5 (a0 : (List Zj)) (a1 : (List Zj)) : Option (Zr ⊕ Bool) :=
 bif ((a0.length : Int) != (a1.length : Int)) then
 some (.inr false)
 else
 some (.inl (.L0 a1 a0 (a0.length : Int) 0))
noncomputable def Zbc (a0 : (List Zj)) (a1 : (List Zj)) : Option Bool := (Zb5 a0 a1).bind (endO Zb3)
abbrev Zi9 := Empty
def Zaih : Zi9 → Option (Zi9 ⊕ Bool) := fun s => nomatch s
def Zwq (a0 : Zq) (a1 : Zq) : Option (Zi9 ⊕ Bool) :=
 bif (a0.Kind == a1.Kind) then
 bif eqTs (Zv a0.Filter) (Zv a1.Filter) then
 Option.bind (Ze5 a0.Mods a1.Mods) fun x3 =>
 bif x3 then
 bif eqTs (Ze2 a0.Price) (Ze2 a1.Price) then
 bif (a0.Slow == a1.Slow) then
 bif eqTs (Zc2 a0.Trigger) (Zc2 a1.Trigger) then
 bif (a0.May == a1.May) then
 Option.bind (Zhf a0.Specs a1.Specs) fun x10 =>
 bif x10 then
 Option.bind (Zbc a0.Effects a1.Effects) fun x13 =>
 bif x13 then
 some (.inr (eqTs (Zbw a0.Replace) (Zbw a1.Replace)))
 else
 some (.inr false)
 else
 some (.inr false)
 else
 some (.inr false)
 else
 some (.inr false)
 else
 some (.inr false)
 else
 some (.inr false)
 else
 some (.inr false)
 else
 some (.inr false)
 else
 some (.inr false)
noncomputable def Zpk (a0 : Zq) (a1 : Zq) : Option Bool := (Zwq a0 a1).bind (endO Zaih)
abbrev Zlx := Empty
def Zaoy : Zlx → Option (Zlx ⊕ Bool) := fun s => nomatch s
def Z2t (a0 : Zag) (a1 : Zag) : Option (Zlx ⊕ Bool) :=
 bif (a0.Id == a1.Id) then
 bif (a0.Kind == a1.Kind) then
 bif (a0.Source == a1.Source) then
 bif (a0.Control == a1.Control) then
 bif (a0.X == a1.X) then
 bif (a0.Copy == a1.Copy) then
 bif eqTs (Zib a0.Event) (Zib a1.Event) then
 Option.bind (Zf3 a0.Targets a1.Targets) fun x8 =>
 bif x8 then
 Option.bind (Zpk a0.Ability a1.Ability) fun x11 =>
 some (.inr x11)
 else
 some (.inr false)
 else
 some (.inr false)
 else
 some (.inr false)
 else
 some (.inr false)
 else
 some (.inr false)
 else
 some (.inr false)
 else
 some (.inr false)
 else
 some (.inr false)
noncomputable def Zzo (a0 : Zag) (a1 : Zag) : Option Bool := (Z2t a0 a1).bind (endO Zaoy)
abbrev Zja := Empty
def Zaii : Zja → Option (Zja ⊕ Bool) := fun s => nomatch s
def Zwr (a0 : Z7) (a1 : Z7) : Option (Zja ⊕ Bool) :=
 bif (a0.Source == a1.Source) then
 bif (a0.Control == a1.Control) then
 bif eqTs (Zib a0.Event) (Zib a1.Event) then
 Option.bind (Zpk a0.Ability a1.Ability) fun x4 =>
 some (.inr x4)
 else
 some (.inr false)
 else
 some (.inr false)
 else
 some (.inr false)
noncomputable def Zti (a0 : Z7) (a1 : Z7) : Option Bool := (Zwr a0 a1).bind (endO Zaii)
abbrev Zly := Empty
def Zaoz : Zly → Option (Zly ⊕ Bool) := fun s => nomatch s
def Z2u (a0 : Zao) (a1 : Zao) : Option (Zly ⊕ Bool) :=
 bif (a0.Stamp == a1.Stamp) then
 bif (a0.Control == a1.Control) then
 bif (a0.Source == a1.Source) then
 bif (a0.Until == a1.Until) then
 Option.bind (Zej a0.Objects a1.Objects) fun x5 =>
 bif x5 then
 Option.bind (Ze5 a0.Mods a1.Mods) fun x8 =>
 some (.inr x8)
 else
 some (.inr false)
 else
 some (.inr false)
 else
 some (.inr false)
 else
 some (.inr false)
 else
 some (.inr false)
noncomputable def Zzp (a0 : Zao) (a1 : Zao) : Option Bool := (Z2u a0 a1).bind (endO Zaoz)
inductive Zaw where
 | L0 (v0 : (List Z5)) (v1 : (List Z5)) (v12 : Int) (v13 : Int)
def Zc0 (v0 : (List Z5)) (v1 : (List Z5)) (v12 : Int) (v13 : Int) : Option (Zaw ⊕ Bool) :=
 bif decide (v13 < v12) then
 Option.bind (idx? v0 v13) fun x2 =>
 Option.bind (idx? v1 v13) fun x4 =>
 bif (!(eqTs (Z1 x2) (Z1 x4))) then
 some (.inr false)
 else
 some (.inl (.L0 v0 v1 v12 (IntKind.wrap .i64 (v13 + 1))))
 else
 some (.inr true)
def Zg9 : Zaw → Option (Zaw ⊕ Bool)
 | .L0 v0 v1 v12 v13 => Zc0 v0 v1 v12 v13
def Zh2 (a0 : (List Z5)) (a1 : (List Z5)) : Option (Zaw ⊕ Bool) :=
 bif ((a0.length : Int) != (a1.length : Int)) then
 some (.inr false)
 else
 some (.inl (.L0 a0 a1 (a0.length : Int) 0))
noncomputable def Zf4 (a0 : (List Z5)) (a1 : (List Z5)) : Option Bool := (Zh2 a0 a1).bind (endO Zg9)
abbrev Zjy := Empty
def Zakx : Zjy → Option (Zjy ⊕ Bool) := fun s => nomatch s
def Zyk (a0 : Zdd) (a1 : Zdd) : Option (Zjy ⊕ Bool) :=
 bif (a0.Kind == a1.Kind) then
 bif (a0.Player == a1.Player) then
 bif (a0.Source == a1.Source) then
 bif (a0.Least == a1.Least) then
 bif (a0.Most == a1.Most) then
 bif (a0.N == a1.N) then
 Option.bind (Zf4 a0.Options a1.Options) fun x7 =>
 some (.inr x7)
 else
 some (.inr false)
 else
 some (.inr false)
 else
 some (.inr false)
 else
 some (.inr false)
 else
 some (.inr false)
 else
 some (.inr false)
noncomputable def Zvp (a0 : Zdd) (a1 : Zdd) : Option Bool := (Zyk a0 a1).bind (endO Zakx)
inductive Zw where
 | L0 (v1 : (List Zct)) (v15 : (List Zct)) (v16 : Int) (v17 : Int)
def Zaj (v1 : (List Zct)) (v15 : (List Zct)) (v16 : Int) (v17 : Int) : Option (Zw ⊕ Bool) :=
 bif decide (v17 < v16) then
 Option.bind (idx? v15 v17) fun x2 =>
 Option.bind (idx? v1 v17) fun x4 =>
 Option.bind (Zzn x2 x4) fun x6 =>
 bif (!x6) then
 some (.inr false)
 else
 some (.inl (.L0 v1 v15 v16 (IntKind.wrap .i64 (v17 + 1))))
 else
 some (.inr true)
def Zcc : Zw → Option (Zw ⊕ Bool)
 | .L0 v1 v15 v16 v17 => Zaj v1 v15 v16 v17
def Zcj (a0 : (List Zct)) (a1 : (List Zct)) : Option (Zw ⊕ Bool) :=
 bif ((a0.length : Int) != (a1.length : Int)) then
 some (.inr false)
 else
 some (.inl (.L0 a1 a0 (a0.length : Int) 0))
noncomputable def Zbq (a0 : (List Zct)) (a1 : (List Zct)) : Option Bool := (Zcj a0 a1).bind (endO Zcc)
inductive Zx where
 | L0 (v1 : (List Zag)) (v15 : (List Zag)) (v16 : Int) (v17 : Int)
def Zak (v1 : (List Zag)) (v15 : (List Zag)) (v16 : Int) (v17 : Int) : Option (Zx ⊕ Bool) :=
 bif decide (v17 < v16) then
 Option.bind (idx? v15 v17) fun x2 =>
 Option.bind (idx? v1 v17) fun x4 =>
 Option.bind (Zzo x2 x4) fun x6 =>
 bif (!x6) then
 some (.inr false)
 else
 some (.inl (.L0 v1 v15 v16 (IntKind.wrap .i64 (v17 + 1))))
 else
 some (.inr true)
def Zcd : Zx → Option (Zx ⊕ Bool)
 | .L0 v1 v15 v16 v17 => Zak v1 v15 v16 v17
def Zck (a0 : (List Zag)) (a1 : (List Zag)) : Option (Zx ⊕ Bool) :=
 bif ((a0.length : Int) != (a1.length : Int)) then
 some (.inr false)
 else
 some (.inl (.L0 a1 a0 (a0.length : Int) 0))
noncomputable def Zbr (a0 : (List Zag)) (a1 : (List Zag)) : Option Bool := (Zck a0 a1).bind (endO Zcd)
inductive Zo where
 | L0 (v1 : (List Z7)) (v15 : (List Z7)) (v16 : Int) (v17 : Int)
def Z9 (v1 : (List Z7)) (v15 : (List Z7)) (v16 : Int) (v17 : Int) : Option (Zo ⊕ Bool) :=
 bif decide (v17 < v16) then
 Option.bind (idx? v15 v17) fun x2 =>
 Option.bind (idx? v1 v17) fun x4 =>
 Option.bind (Zti x2 x4) fun x6 =>
 bif (!x6) then
 some (.inr false)
 else
 some (.inl (.L0 v1 v15 v16 (IntKind.wrap .i64 (v17 + 1))))
 else
 some (.inr true)
def Zbp : Zo → Option (Zo ⊕ Bool)
 | .L0 v1 v15 v16 v17 => Z9 v1 v15 v16 v17
def Zbu (a0 : (List Z7)) (a1 : (List Z7)) : Option (Zo ⊕ Bool) :=
 bif ((a0.length : Int) != (a1.length : Int)) then
 some (.inr false)
 else
 some (.inl (.L0 a1 a0 (a0.length : Int) 0))
noncomputable def Za5 (a0 : (List Z7)) (a1 : (List Z7)) : Option Bool := (Zbu a0 a1).bind (endO Zbp)
inductive Zy where
 | L0 (v1 : (List Zao)) (v15 : (List Zao)) (v16 : Int) (v17 : Int)
def Zal (v1 : (List Zao)) (v15 : (List Zao)) (v16 : Int) (v17 : Int) : Option (Zy ⊕ Bool) :=
 bif decide (v17 < v16) then
 Option.bind (idx? v15 v17) fun x2 =>
 Option.bind (idx? v1 v17) fun x4 =>
 Option.bind (Zzp x2 x4) fun x6 =>
 bif (!x6) then
 some (.inr false)
 else
 some (.inl (.L0 v1 v15 v16 (IntKind.wrap .i64 (v17 + 1))))
 else
 some (.inr true)
def Zce : Zy → Option (Zy ⊕ Bool)
 | .L0 v1 v15 v16 v17 => Zal v1 v15 v16 v17
def Zcl (a0 : (List Zao)) (a1 : (List Zao)) : Option (Zy ⊕ Bool) :=
 bif ((a0.length : Int) != (a1.length : Int)) then
 some (.inr false)
 else
 some (.inl (.L0 a1 a0 (a0.length : Int) 0))
noncomputable def Zbs (a0 : (List Zao)) (a1 : (List Zao)) : Option Bool := (Zcl a0 a1).bind (endO Zce)
inductive Znd where
 | L0 (E0 : Zaq) (E1 : Zaq) (v5 : Bool)
def Znn (E0 : Zaq) (E1 : Zaq) (v5 : Bool) : Option (Znd ⊕ Bool) :=
 bif v5 then
 Option.bind (Zbq E0.Players E1.Players) fun x2 =>
 bif x2 then
 Option.bind (Zbr E0.Stack E1.Stack) fun x5 =>
 bif x5 then
 Option.bind (Za5 E0.Waiting E1.Waiting) fun x8 =>
 bif x8 then
 Option.bind (Zbs E0.Conts E1.Conts) fun x11 =>
 bif x11 then
 Option.bind (Zvp E0.Pending E1.Pending) fun x14 =>
 some (.inr x14)
 else
 some (.inr false)
 else
 some (.inr false)
 else
 some (.inr false)
 else
 some (.inr false)
 else
 some (.inr false)
def Za4h : Znd → Option (Znd ⊕ Bool)
 | .L0 E0 E1 v5 => Znn E0 E1 v5
def Zagu (a0 : Zaq) (a1 : Zaq) : Option (Znd ⊕ Bool) :=
 bif (a0.Player != a1.Player) then
 some (.inr false)
 else
 bif (a0.Turn != a1.Turn) then
 some (.inr false)
 else
 bif (a0.Active != a1.Active) then
 some (.inr false)
 else
 bif (a0.Step != a1.Step) then
 some (.inr false)
 else
 bif (a0.Priority != a1.Priority) then
 some (.inr false)
 else
 bif (a0.Passes != a1.Passes) then
 some (.inr false)
 else
 bif (a0.NextId != a1.NextId) then
 some (.inr false)
 else
 bif (a0.Over != a1.Over) then
 some (.inr false)
 else
 bif (a0.Winner != a1.Winner) then
 some (.inr false)
 else
 Option.bind (Zej a0.Hand a1.Hand) fun x10 =>
 bif x10 then
 Option.bind (Zf2 a0.Objects a1.Objects) fun x13 =>
 bif x13 then
 Option.bind (Zej a0.Battlefield a1.Battlefield) fun x16 =>
 bif x16 then
 Option.bind (Zej a0.Exile a1.Exile) fun x19 =>
 bif x19 then
 Option.bind (Zej a0.Extra a1.Extra) fun x22 =>
 Znn a0 a1 x22
 else
 Znn a0 a1 false
 else
 Znn a0 a1 false
 else
 Znn a0 a1 false
 else
 Znn a0 a1 false
noncomputable def Z7i (a0 : Zaq) (a1 : Zaq) : Option Bool := (Zagu a0 a1).bind (endO Za4h)
abbrev Zqt := Empty
def Za4i : Zqt → Option (Zqt ⊕ Bool) := fun s => nomatch s
def Zagv : Option (Zqt ⊕ Bool) :=
 Option.bind (Z7g) fun x1 =>
 Option.bind (Zaas x1 0) fun x3 =>
 Option.bind (Zaas x1 1) fun x5 =>
 bif ((x3.Objects.length : Int) == 2) then
 Option.bind (idx? x3.Objects 0) fun x9 =>
 bif (x9.Id == 1) then
 Option.bind (idx? x3.Objects 1) fun x12 =>
 bif (x12.Id == 3) then
 bif ((x3.Pending.Options.length : Int) == 1) then
 Option.bind (Zakv x3.Hand [1]) fun x18 =>
 bif x18 then
 bif ((x5.Objects.length : Int) == 1) then
 Option.bind (idx? x5.Objects 0) fun x23 =>
 bif (x23.Id == 2) then
 bif ((x5.Pending.Options.length : Int) == 0) then
 bif (x5.Pending.Kind == 3) then
 bif ((x5.Players.length : Int) == 2) then
 Option.bind (idx? x5.Players 0) fun x31 =>
 bif (x31.Hand == 1) then
 bif (x31.Library == 1) then
 Option.bind (Zow x1.State 0 1) fun x35 =>
 bif x35 then
 Option.bind (Zow x1.State 1 1) fun x38 =>
 bif (!x38) then
 Option.bind (Zow x1.State 0 3) fun x41 =>
 bif (!x41) then
 Option.bind (Z7i x3 x3) fun x44 =>
 bif x44 then
 Option.bind (Z7i x3 x5) fun x47 =>
 some (.inr (!x47))
 else
 some (.inr false)
 else
 some (.inr false)
 else
 some (.inr false)
 else
 some (.inr false)
 else
 some (.inr false)
 else
 some (.inr false)
 else
 some (.inr false)
 else
 some (.inr false)
 else
 some (.inr false)
 else
 some (.inr false)
 else
 some (.inr false)
 else
 some (.inr false)
 else
 some (.inr false)
 else
 some (.inr false)
 else
 some (.inr false)
 else
 some (.inr false)
noncomputable def Z7j : Option Bool := (Zagv).bind (endO Za4i)
inductive Zne where
 | L0 (v0 : (List Int)) (v1 : Int) (v5 : Int)
def Zr0 (v0 : (List Int)) (v1 : Int) (v5 : Int) : Option (Zne ⊕ Int) :=
 bif decide (v5 < (v0.length : Int)) then
 Option.bind (idx? v0 v5) fun x3 =>
 bif (x3 == v1) then
 some (.inr v5)
 else
 some (.inl (.L0 v0 v1 (IntKind.wrap .i64 (v5 + 1))))
 else
 some (.inr (-1))
def Zpa : Zne → Option (Zne ⊕ Int)
 | .L0 v0 v1 v5 => Zr0 v0 v1 v5
def Zagw (a0 : (List Int)) (a1 : Int) : Option (Zne ⊕ Int) :=
 some (.inl (.L0 a0 a1 0))
noncomputable def Zao0 (a0 : (List Int)) (a1 : Int) : Option Int := (Zagw a0 a1).bind (endO Zpa)
abbrev Zws := Empty
def Zbc7 : Zws → Option (Zws ⊕ Bool) := fun s => nomatch s
def Zao1 (a0 : (List Int)) (a1 : Int) : Option (Zws ⊕ Bool) :=
 Option.bind (Zao0 a0 a1) fun x1 =>
 some (.inr (decide (x1 ≥ 0)))
noncomputable def Zasg (a0 : (List Int)) (a1 : Int) : Option Bool := (Zao1 a0 a1).bind (endO Zbc7)
inductive Znf where
 | L0 (v1 : Int) (v2 : Int) (E0 : Zc) (v7 : Int)
def Zno (v1 : Int) (v2 : Int) (E0 : Zc) (v7 : Int) : Option (Znf ⊕ Bool) :=
 bif decide (v7 < (E0.Objects.length : Int)) then
 Option.bind (idx? E0.Objects v7) fun x3 =>
 bif (x3.Id == v2) then
 bif (x3.Zone != 2) then
 bif (x3.Zone != 1) then
 some (.inr true)
 else
 bif decide (v1 ≥ 0) then
 bif decide (v1 < (E0.Players.length : Int)) then
 Option.bind (idx? E0.Players v1) fun x11 =>
 Option.bind (Zasg x11.Hand v2) fun x13 =>
 some (.inr x13)
 else
 some (.inr false)
 else
 some (.inr false)
 else
 some (.inr false)
 else
 some (.inl (.L0 v1 v2 E0 (IntKind.wrap .i64 (v7 + 1))))
 else
 some (.inr false)
def Z5c : Znf → Option (Znf ⊕ Bool)
 | .L0 v1 v2 E0 v7 => Zno v1 v2 E0 v7
def Zagx (a0 : Zc) (a1 : Int) (a2 : Int) : Option (Znf ⊕ Bool) :=
 some (.inl (.L0 a1 a2 a0 0))
noncomputable def Z7k (a0 : Zc) (a1 : Int) (a2 : Int) : Option Bool := (Zagx a0 a1 a2).bind (endO Z5c)
inductive Zit where
 | L0 (v1 : Int) (v2 : Int) (E0 : Zan) (v7 : Int)
def Zmv (v1 : Int) (v2 : Int) (E0 : Zan) (v7 : Int) : Option (Zit ⊕ Bool) :=
 bif decide (v7 < (E0.State.Objects.length : Int)) then
 Option.bind (idx? E0.State.Objects v7) fun x3 =>
 Option.bind (Zow E0.State v1 x3.Id) fun x5 =>
 Option.bind (Z7k E0.State v1 x3.Id) fun x7 =>
 bif (!(x5 == x7)) then
 some (.inr false)
 else
 some (.inl (.L0 v1 v2 E0 (IntKind.wrap .i64 (v7 + 1))))
 else
 Option.bind (Zow E0.State v1 v2) fun x12 =>
 Option.bind (Z7k E0.State v1 v2) fun x14 =>
 bif (x12 == x14) then
 Option.bind (Z7j) fun x17 =>
 some (.inr x17)
 else
 some (.inr false)
def Z7l : Zit → Option (Zit ⊕ Bool)
 | .L0 v1 v2 E0 v7 => Zmv v1 v2 E0 v7
def Z2v (a0 : Zan) (a1 : Int) (a2 : Int) : Option (Zit ⊕ Bool) :=
 Option.bind (Zaar a0) fun x1 =>
 bif (!x1) then
 Option.bind (Z7j) fun x4 =>
 some (.inr x4)
 else
 some (.inl (.L0 a1 a2 a0 0))
noncomputable def Z74 (a0 : Zan) (a1 : Int) (a2 : Int) : Option Bool := (Z2v a0 a1 a2).bind (endO Z7l)
end
end Go.PW
