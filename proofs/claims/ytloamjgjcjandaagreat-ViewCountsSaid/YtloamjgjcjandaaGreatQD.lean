import Derived.Test.YtloamjgjcjandaaGreatPwR
set_option linter.all false
namespace Go.PW
open Go.RowKit
noncomputable section
structure Zai where
 Generic : Int
 X : Int
 Color : (A5 Int)
 deriving DecidableEq, Inhabited
def Zd2 (x : Zai) : List Tree := (cI .i64) x.Generic ++ ((cI .i64) x.X ++ ((cA5 (cI .i64)) x.Color))
structure Zkt where
 Super : Int
 Types : Int
 Subs : (List (List UInt8))
 deriving DecidableEq, Inhabited
def Zx6 (x : Zkt) : List Tree := (cI .i64) x.Super ++ ((cI .i64) x.Types ++ ((cL cS) x.Subs))
structure Ze where
 Kind : Int
 N : Int
 deriving DecidableEq, Inhabited
def Zjd (x : Ze) : List Tree := (cI .i64) x.Kind ++ ((cI .i64) x.N)
structure Zi where
 Zone : Int
 Who : Int
 Self : Int
 Types : Int
 NotTypes : Int
 Colors : Int
 NotColors : Int
 Sub : (List UInt8)
 Keys : Int
 Tap : Int
 Power : Ze
 Tough : Ze
 Value : Ze
 deriving DecidableEq, Inhabited
def Zx (x : Zi) : List Tree := (cI .i64) x.Zone ++ ((cI .i64) x.Who ++ ((cI .i64) x.Self ++ ((cI .i64) x.Types ++ ((cI .i64) x.NotTypes ++ ((cI .i64) x.Colors ++ ((cI .i64) x.NotColors ++ (cS x.Sub ++ ((cI .i64) x.Keys ++ ((cI .i64) x.Tap ++ (Zjd x.Power ++ (Zjd x.Tough ++ (Zjd x.Value))))))))))))
structure Zh where
 Kind : Int
 N : Int
 M : Int
 Sub : (List UInt8)
 Filter : Zi
 deriving DecidableEq, Inhabited
def Zp (x : Zh) : List Tree := (cI .i64) x.Kind ++ ((cI .i64) x.N ++ ((cI .i64) x.M ++ (cS x.Sub ++ (Zx x.Filter))))
structure Zii where
 Mana : Zai
 Tap : Bool
 Sacrifice : Bool
 Life : Int
 deriving DecidableEq, Inhabited
def Ze2 (x : Zii) : List Tree := Zd2 x.Mana ++ (cB x.Tap ++ (cB x.Sacrifice ++ ((cI .i64) x.Life)))
structure Zdk where
 When : Int
 Who : Int
 Filter : Zi
 deriving DecidableEq, Inhabited
def Zc4 (x : Zdk) : List Tree := (cI .i64) x.When ++ ((cI .i64) x.Who ++ (Zx x.Filter))
structure Zaj where
 Player : Bool
 Object : Bool
 Filter : Zi
 deriving DecidableEq, Inhabited
def Z3 (x : Zaj) : List Tree := cB x.Player ++ (cB x.Object ++ (Zx x.Filter))
structure Zgp where
 Kind : Int
 N : Int
 Filter : Zi
 deriving DecidableEq, Inhabited
def Zfk (x : Zgp) : List Tree := (cI .i64) x.Kind ++ ((cI .i64) x.N ++ (Zx x.Filter))
structure Zd3 where
 Kind : Int
 N : Int
 Counter : Int
 Filter : Zi
 deriving DecidableEq, Inhabited
def Zb2 (x : Zd3) : List Tree := (cI .i64) x.Kind ++ ((cI .i64) x.N ++ ((cI .i64) x.Counter ++ (Zx x.Filter)))
structure Zk where
 Op : Int
 Ref : Zgp
 Amount : Zd3
 Counter : Int
 Zone : Int
 Card : (List UInt8)
 Filter : Zi
 Pool : (A6 Int)
 Mods : (List Zh)
 deriving DecidableEq, Inhabited
def Zj (x : Zk) : List Tree := (cI .i64) x.Op ++ (Zfk x.Ref ++ (Zb2 x.Amount ++ ((cI .i64) x.Counter ++ ((cI .i64) x.Zone ++ (cS x.Card ++ (Zx x.Filter ++ ((cA6 (cI .i64)) x.Pool ++ ((cL Zp) x.Mods))))))))
structure Za2 where
 On : Int
 Who : Int
 Filter : Zi
 Do : Int
 N : Int
 Zone : Int
 Counter : Int
 deriving DecidableEq, Inhabited
def Zbw (x : Za2) : List Tree := (cI .i64) x.On ++ ((cI .i64) x.Who ++ (Zx x.Filter ++ ((cI .i64) x.Do ++ ((cI .i64) x.N ++ ((cI .i64) x.Zone ++ ((cI .i64) x.Counter))))))
structure Zs where
 Kind : Int
 Filter : Zi
 Mods : (List Zh)
 Price : Zii
 Slow : Bool
 Trigger : Zdk
 May : Bool
 Specs : (List Zaj)
 Effects : (List Zk)
 Replace : Za2
 deriving DecidableEq, Inhabited
def Zac (x : Zs) : List Tree := (cI .i64) x.Kind ++ (Zx x.Filter ++ ((cL Zp) x.Mods ++ (Ze2 x.Price ++ (cB x.Slow ++ (Zc4 x.Trigger ++ (cB x.May ++ ((cL Z3) x.Specs ++ ((cL Zj) x.Effects ++ (Zbw x.Replace)))))))))
structure Zw where
 Name : (List UInt8)
 Token : Bool
 Cost : Zai
 Color : Int
 Line : Zkt
 Power : Int
 Tough : Int
 Keys : Int
 Abilities : (List Zs)
 deriving DecidableEq, Inhabited
def Z8 (x : Zw) : List Tree := cS x.Name ++ (cB x.Token ++ (Zd2 x.Cost ++ ((cI .i64) x.Color ++ (Zx6 x.Line ++ ((cI .i64) x.Power ++ ((cI .i64) x.Tough ++ ((cI .i64) x.Keys ++ ((cL Zac) x.Abilities))))))))
structure Zaa where
 Life : Int
 Venom : Int
 Lands : Int
 Pool : (A6 Int)
 Failed : Bool
 Lost : Bool
 Library : (List Int)
 Hand : (List Int)
 Graveyard : (List Int)
 deriving DecidableEq, Inhabited
def Zg (x : Zaa) : List Tree := (cI .i64) x.Life ++ ((cI .i64) x.Venom ++ ((cI .i64) x.Lands ++ ((cA6 (cI .i64)) x.Pool ++ (cB x.Failed ++ (cB x.Lost ++ ((cL (cI .i64)) x.Library ++ ((cL (cI .i64)) x.Hand ++ ((cL (cI .i64)) x.Graveyard))))))))
structure Zf where
 Id : Int
 Card : Int
 Owner : Int
 Control : Int
 Zone : Int
 Token : Bool
 Tapped : Bool
 Sick : Bool
 Deadly : Bool
 Damage : Int
 Counters : (A3 Int)
 Stamp : Int
 Copy : Int
 Attack : Int
 Blocked : Bool
 Blocks : Int
 Shield : Int
 deriving DecidableEq, Inhabited
def Zc (x : Zf) : List Tree := (cI .i64) x.Id ++ ((cI .i64) x.Card ++ ((cI .i64) x.Owner ++ ((cI .i64) x.Control ++ ((cI .i64) x.Zone ++ (cB x.Token ++ (cB x.Tapped ++ (cB x.Sick ++ (cB x.Deadly ++ ((cI .i64) x.Damage ++ ((cA3 (cI .i64)) x.Counters ++ ((cI .i64) x.Stamp ++ ((cI .i64) x.Copy ++ ((cI .i64) x.Attack ++ (cB x.Blocked ++ ((cI .i64) x.Blocks ++ ((cI .i64) x.Shield))))))))))))))))
structure Zaq where
 Object : Int
 Player : Int
 deriving DecidableEq, Inhabited
def Zae (x : Zaq) : List Tree := (cI .i64) x.Object ++ ((cI .i64) x.Player)
structure Zwi where
 Kind : Int
 Source : Int
 Object : Int
 Player : Int
 Amount : Int
 From : Int
 To : Int
 Cause : Int
 Counter : Int
 Card : Int
 Combat : Bool
 Tapped : Bool
 Extra : (A3 Int)
 deriving DecidableEq, Inhabited
def Zic (x : Zwi) : List Tree := (cI .i64) x.Kind ++ ((cI .i64) x.Source ++ ((cI .i64) x.Object ++ ((cI .i64) x.Player ++ ((cI .i64) x.Amount ++ ((cI .i64) x.From ++ ((cI .i64) x.To ++ ((cI .i64) x.Cause ++ ((cI .i64) x.Counter ++ ((cI .i64) x.Card ++ (cB x.Combat ++ (cB x.Tapped ++ ((cA3 (cI .i64)) x.Extra))))))))))))
structure Zao where
 Id : Int
 Kind : Int
 Source : Int
 Control : Int
 X : Int
 Copy : Bool
 Ability : Zs
 Targets : (List Zaq)
 Event : Zwi
 deriving DecidableEq, Inhabited
def Zl (x : Zao) : List Tree := (cI .i64) x.Id ++ ((cI .i64) x.Kind ++ ((cI .i64) x.Source ++ ((cI .i64) x.Control ++ ((cI .i64) x.X ++ (cB x.Copy ++ (Zac x.Ability ++ ((cL Zae) x.Targets ++ (Zic x.Event))))))))
structure Z7 where
 Source : Int
 Control : Int
 Ability : Zs
 Event : Zwi
 deriving DecidableEq, Inhabited
def Zm (x : Z7) : List Tree := (cI .i64) x.Source ++ ((cI .i64) x.Control ++ (Zac x.Ability ++ (Zic x.Event)))
structure Zar where
 Stamp : Int
 Control : Int
 Source : Int
 Until : Int
 Objects : (List Int)
 Mods : (List Zh)
 deriving DecidableEq, Inhabited
def Zn (x : Zar) : List Tree := (cI .i64) x.Stamp ++ ((cI .i64) x.Control ++ ((cI .i64) x.Source ++ ((cI .i64) x.Until ++ ((cL (cI .i64)) x.Objects ++ ((cL Zp) x.Mods)))))
structure Zd where
 Players : (List Zaa)
 Objects : (List Zf)
 Battlefield : (List Int)
 Exile : (List Int)
 Stack : (List Zao)
 Waiting : (List Z7)
 Conts : (List Zar)
 Turn : Int
 Active : Int
 Step : Int
 Begun : Bool
 Priority : Int
 Passes : Int
 NextId : Int
 NextStamp : Int
 Seed : Int
 Extra : (List Int)
 Over : Int
 Winner : Int
 deriving DecidableEq, Inhabited
def Z4 (x : Zd) : List Tree := (cL Zg) x.Players ++ ((cL Zc) x.Objects ++ ((cL (cI .i64)) x.Battlefield ++ ((cL (cI .i64)) x.Exile ++ ((cL Zl) x.Stack ++ ((cL Zm) x.Waiting ++ ((cL Zn) x.Conts ++ ((cI .i64) x.Turn ++ ((cI .i64) x.Active ++ ((cI .i64) x.Step ++ (cB x.Begun ++ ((cI .i64) x.Priority ++ ((cI .i64) x.Passes ++ ((cI .i64) x.NextId ++ ((cI .i64) x.NextStamp ++ ((cI .u64) x.Seed ++ ((cL (cI .i64)) x.Extra ++ ((cI .i64) x.Over ++ ((cI .i64) x.Winner))))))))))))))))))
structure Z5 where
 Kind : Int
 A : Int
 B : Int
 deriving DecidableEq, Inhabited
def Zu (x : Z5) : List Tree := (cI .i64) x.Kind ++ ((cI .i64) x.A ++ ((cI .i64) x.B))
structure Zdf where
 Kind : Int
 Player : Int
 Source : Int
 Least : Int
 Most : Int
 N : Int
 Options : (List Z5)
 deriving DecidableEq, Inhabited
def Zlj (x : Zdf) : List Tree := (cI .i64) x.Kind ++ ((cI .i64) x.Player ++ ((cI .i64) x.Source ++ ((cI .i64) x.Least ++ ((cI .i64) x.Most ++ ((cI .i64) x.N ++ ((cL Zu) x.Options))))))
structure Zab where
 Cards : (List Zw)
 State : Zd
 Answers : (List (List Int))
 Pending : Zdf
 Forced : Int
 Seen : (List Zd)
 deriving DecidableEq, Inhabited
def Ze3 (x : Zab) : List Tree := (cL Z8) x.Cards ++ (Z4 x.State ++ ((cL (cL (cI .i64))) x.Answers ++ (Zlj x.Pending ++ ((cI .i64) x.Forced ++ ((cL Z4) x.Seen)))))
structure Zcy where
 Life : Int
 Venom : Int
 Lands : Int
 Library : Int
 Hand : Int
 Pool : (A6 Int)
 Lost : Bool
 Graveyard : (List Int)
 deriving DecidableEq, Inhabited
def Zag (x : Zcy) : List Tree := (cI .i64) x.Life ++ ((cI .i64) x.Venom ++ ((cI .i64) x.Lands ++ ((cI .i64) x.Library ++ ((cI .i64) x.Hand ++ ((cA6 (cI .i64)) x.Pool ++ (cB x.Lost ++ ((cL (cI .i64)) x.Graveyard)))))))
structure Zas where
 Player : Int
 Players : (List Zcy)
 Hand : (List Int)
 Objects : (List Zf)
 Battlefield : (List Int)
 Exile : (List Int)
 Stack : (List Zao)
 Waiting : (List Z7)
 Conts : (List Zar)
 Turn : Int
 Active : Int
 Step : Int
 Priority : Int
 Passes : Int
 NextId : Int
 Over : Int
 Winner : Int
 Extra : (List Int)
 Pending : Zdf
 deriving DecidableEq, Inhabited
def Zkr (x : Zas) : List Tree := (cI .i64) x.Player ++ ((cL Zag) x.Players ++ ((cL (cI .i64)) x.Hand ++ ((cL Zc) x.Objects ++ ((cL (cI .i64)) x.Battlefield ++ ((cL (cI .i64)) x.Exile ++ ((cL Zl) x.Stack ++ ((cL Zm) x.Waiting ++ ((cL Zn) x.Conts ++ ((cI .i64) x.Turn ++ ((cI .i64) x.Active ++ ((cI .i64) x.Step ++ ((cI .i64) x.Priority ++ ((cI .i64) x.Passes ++ ((cI .i64) x.NextId ++ ((cI .i64) x.Over ++ ((cI .i64) x.Winner ++ ((cL (cI .i64)) x.Extra ++ (Zlj x.Pending))))))))))))))))))
abbrev Zqb := Empty
def Zbdh : Zqb → Option (Zqb ⊕ Bool) := fun s => nomatch s
def Zao0 (a0 : Int) : Option (Zqb ⊕ Bool) :=
 bif decide (a0 ≥ 97) then
 some (.inr (decide (a0 ≤ 122)))
 else
 some (.inr false)
noncomputable def Zaim (a0 : Int) : Option Bool := (Zao0 a0).bind (endO Zbdh)
inductive Zms where
 | L0 (v0 : (List UInt8)) (v3 : Int)
 | L1 (v0 : (List UInt8)) (v3 : Int)
def Zs0 (v0 : (List UInt8)) (v3 : Int) : Option (Zms ⊕ Bool) :=
 bif decide (v3 > 0) then
 Option.bind (idx? v0 v3) fun x2 =>
 bif ((UInt8.toNat x2 : Int) == 45) then
 Option.bind (idx? v0 (IntKind.wrap .i64 (v3 - 1))) fun x7 =>
 bif ((UInt8.toNat x7 : Int) == 45) then
 some (.inr false)
 else
 some (.inl (.L0 v0 (IntKind.wrap .i64 (v3 + 1))))
 else
 some (.inl (.L0 v0 (IntKind.wrap .i64 (v3 + 1))))
 else
 some (.inl (.L0 v0 (IntKind.wrap .i64 (v3 + 1))))
def Zaex (v0 : (List UInt8)) (v3 : Int) : Option (Zms ⊕ Bool) :=
 bif decide (v3 < (v0.length : Int)) then
 Option.bind (idx? v0 v3) fun x3 =>
 Option.bind (Zaim (UInt8.toNat x3 : Int)) fun x5 =>
 bif (!x5) then
 Option.bind (idx? v0 v3) fun x8 =>
 bif decide ((UInt8.toNat x8 : Int) < 48) then
 Option.bind (idx? v0 v3) fun x11 =>
 bif ((UInt8.toNat x11 : Int) != 45) then
 some (.inr false)
 else
 Zs0 v0 v3
 else
 Option.bind (idx? v0 v3) fun x14 =>
 bif decide ((UInt8.toNat x14 : Int) > 57) then
 Option.bind (idx? v0 v3) fun x17 =>
 bif ((UInt8.toNat x17 : Int) != 45) then
 some (.inr false)
 else
 Zs0 v0 v3
 else
 Zs0 v0 v3
 else
 Zs0 v0 v3
 else
 some (.inr true)
def Zbhu : Zms → Option (Zms ⊕ Bool)
 | .L0 v0 v3 => Zaex v0 v3
 | .L1 v0 v3 => Zs0 v0 v3
def Zawf (a0 : (List UInt8)) : Option (Zms ⊕ Bool) :=
 bif decide ((a0.length : Int) < 1) then
 some (.inr false)
 else
 bif decide ((a0.length : Int) > 32) then
 some (.inr false)
 else
 Option.bind (idx? a0 0) fun x4 =>
 Option.bind (Zaim (UInt8.toNat x4 : Int)) fun x6 =>
 bif (!x6) then
 some (.inr false)
 else
 Option.bind (idx? a0 (IntKind.wrap .i64 ((a0.length : Int) - 1))) fun x11 =>
 bif ((UInt8.toNat x11 : Int) == 45) then
 some (.inr false)
 else
 some (.inl (.L0 a0 0))
noncomputable def Zain (a0 : (List UInt8)) : Option Bool := (Zawf a0).bind (endO Zbhu)
inductive Zn8 where
 | L0 (E0 : Zai) (v3 : Int)
def Z7m (E0 : Zai) (v3 : Int) : Option (Zn8 ⊕ Bool) :=
 bif decide (v3 < 5) then
 Option.bind (idx? (A5.list E0.Color) v3) fun x2 =>
 bif decide (x2 < 0) then
 some (.inr false)
 else
 Option.bind (idx? (A5.list E0.Color) v3) fun x5 =>
 bif decide (x5 > 9) then
 some (.inr false)
 else
 some (.inl (.L0 E0 (IntKind.wrap .i64 (v3 + 1))))
 else
 some (.inr true)
def Zzc : Zn8 → Option (Zn8 ⊕ Bool)
 | .L0 E0 v3 => Z7m E0 v3
def Zawg (a0 : Zai) : Option (Zn8 ⊕ Bool) :=
 bif decide (a0.Generic < 0) then
 some (.inr false)
 else
 bif decide (a0.Generic > 99) then
 some (.inr false)
 else
 bif decide (a0.X < 0) then
 some (.inr false)
 else
 bif decide (a0.X > 2) then
 some (.inr false)
 else
 some (.inl (.L0 a0 0))
noncomputable def Zabg (a0 : Zai) : Option Bool := (Zawg a0).bind (endO Zzc)
abbrev Zhp := Empty
def Zan6 : Zhp → Option (Zhp ⊕ (List (List UInt8))) := fun s => nomatch s
def Z0p : Option (Zhp ⊕ (List (List UInt8))) :=
 some (.inr [([98, 97, 115, 105, 99] : List UInt8), ([117, 110, 105, 113, 117, 101] : List UInt8)])
noncomputable def Zro : Option (List (List UInt8)) := (Z0p).bind (endO Zan6)
inductive Zkb where
 | L0 (v0 : (List (List UInt8))) (v1 : (List UInt8)) (v5 : Int)
def Z2e (v0 : (List (List UInt8))) (v1 : (List UInt8)) (v5 : Int) : Option (Zkb ⊕ Int) :=
 bif decide (v5 < (v0.length : Int)) then
 Option.bind (idx? v0 v5) fun x3 =>
 bif (x3 == v1) then
 some (.inr v5)
 else
 some (.inl (.L0 v0 v1 (IntKind.wrap .i64 (v5 + 1))))
 else
 some (.inr (-1))
def Za4a : Zkb → Option (Zkb ⊕ Int)
 | .L0 v0 v1 v5 => Z2e v0 v1 v5
def Zagh (a0 : (List (List UInt8))) (a1 : (List UInt8)) : Option (Zkb ⊕ Int) :=
 some (.inl (.L0 a0 a1 0))
noncomputable def Z7n (a0 : (List (List UInt8))) (a1 : (List UInt8)) : Option Int := (Zagh a0 a1).bind (endO Za4a)
abbrev Zin := Empty
def Zao1 : Zin → Option (Zin ⊕ (List (List UInt8))) := fun s => nomatch s
def Z2f : Option (Zin ⊕ (List (List UInt8))) :=
 some (.inr [([99, 114, 101, 97, 116, 117, 114, 101] : List UInt8), ([105, 110, 115, 116, 97, 110, 116] : List UInt8), ([114, 105, 116, 117, 97, 108] : List UInt8), ([114, 101, 108, 105, 99] : List UInt8), ([99, 104, 97, 114, 109] : List UInt8), ([108, 97, 110, 100] : List UInt8)])
noncomputable def Zp3 : Option (List (List UInt8)) := (Z2f).bind (endO Zao1)
abbrev Zm4 := Empty
def Za4b : Zm4 → Option (Zm4 ⊕ Bool) := fun s => nomatch s
def Zagi (a0 : (List UInt8)) : Option (Zm4 ⊕ Bool) :=
 Option.bind (Zain a0) fun x1 =>
 bif x1 then
 Option.bind (Zro) fun x4 =>
 Option.bind (Z7n x4 a0) fun x6 =>
 bif decide (x6 < 0) then
 Option.bind (Zp3) fun x9 =>
 Option.bind (Z7n x9 a0) fun x11 =>
 some (.inr (decide (x11 < 0)))
 else
 some (.inr false)
 else
 some (.inr false)
noncomputable def Z1e (a0 : (List UInt8)) : Option Bool := (Zagi a0).bind (endO Za4b)
inductive Zno where
 | L0 (v0 : Int) (v1 : Int) (v5 : Int)
def Z99 (v0 : Int) (v1 : Int) (v5 : Int) : Option (Zno ⊕ Bool) :=
 bif decide (v5 < v1) then
 some (.inl (.L0 (quoI .i64 v0 2) v1 (IntKind.wrap .i64 (v5 + 1))))
 else
 some (.inr ((Int.tmod v0 2) == 1))
def Zbdi : Zno → Option (Zno ⊕ Bool)
 | .L0 v0 v1 v5 => Z99 v0 v1 v5
def Zao2 (a0 : Int) (a1 : Int) : Option (Zno ⊕ Bool) :=
 some (.inl (.L0 a0 a1 0))
noncomputable def Zaay (a0 : Int) (a1 : Int) : Option Bool := (Zao2 a0 a1).bind (endO Zbdi)
inductive Zph where
 | L0 (E0 : Zkt) (v3 : Int)
def Zaey (E0 : Zkt) (v3 : Int) : Option (Zph ⊕ Bool) :=
 bif decide (v3 < (E0.Subs.length : Int)) then
 Option.bind (idx? E0.Subs v3) fun x3 =>
 Option.bind (Z1e x3) fun x5 =>
 bif (!x5) then
 some (.inr false)
 else
 bif decide (v3 > 0) then
 Option.bind (idx? E0.Subs (IntKind.wrap .i64 (v3 - 1))) fun x11 =>
 bif (!(Op.bytesLess x11 x3)) then
 some (.inr false)
 else
 some (.inl (.L0 E0 (IntKind.wrap .i64 (v3 + 1))))
 else
 some (.inl (.L0 E0 (IntKind.wrap .i64 (v3 + 1))))
 else
 bif (E0.Types == 2) then
 some (.inr true)
 else
 bif (E0.Types == 4) then
 some (.inr true)
 else
 Option.bind (Zaay E0.Types 1) fun x20 =>
 bif (!x20) then
 Option.bind (Zaay E0.Types 2) fun x23 =>
 some (.inr (!x23))
 else
 some (.inr false)
def Zbhv : Zph → Option (Zph ⊕ Bool)
 | .L0 E0 v3 => Zaey E0 v3
def Zawh (a0 : Zkt) : Option (Zph ⊕ Bool) :=
 bif decide (a0.Super < 0) then
 some (.inr false)
 else
 bif decide (a0.Super > 3) then
 some (.inr false)
 else
 bif decide (a0.Types < 1) then
 some (.inr false)
 else
 bif decide (a0.Types > 63) then
 some (.inr false)
 else
 bif decide ((a0.Subs.length : Int) > 4) then
 some (.inr false)
 else
 some (.inl (.L0 a0 0))
noncomputable def Zaz4 (a0 : Zkt) : Option Bool := (Zawh a0).bind (endO Zbhv)
abbrev Ztd := Empty
def Zbhw : Ztd → Option (Ztd ⊕ Bool) := fun s => nomatch s
def Zawi (a0 : Int) : Option (Ztd ⊕ Bool) :=
 bif decide (a0 ≥ 0) then
 some (.inr (decide (a0 ≤ 131071)))
 else
 some (.inr false)
noncomputable def Zao3 (a0 : Int) : Option Bool := (Zawi a0).bind (endO Zbhw)
abbrev Zjh := Empty
def Zasu : Zjh → Option (Zjh ⊕ Bool) := fun s => nomatch s
def Z48 (a0 : Zw) : Option (Zjh ⊕ Bool) :=
 some (.inr ((Zzn .and .i64 a0.Line.Types 1) != 0))
noncomputable def Z2g (a0 : Zw) : Option Bool := (Z48 a0).bind (endO Zasu)
inductive Zkc where
 | L0 (v0 : Int) (v1 : Int) (v7 : Int)
def Z2h (v0 : Int) (v1 : Int) (v7 : Int) : Option (Zkc ⊕ Bool) :=
 bif decide (v7 < 6) then
 bif ((Int.tmod v0 2) == 1) then
 bif ((Int.tmod v1 2) == 1) then
 some (.inr false)
 else
 some (.inl (.L0 (quoI .i64 v0 2) (quoI .i64 v1 2) (IntKind.wrap .i64 (v7 + 1))))
 else
 some (.inl (.L0 (quoI .i64 v0 2) (quoI .i64 v1 2) (IntKind.wrap .i64 (v7 + 1))))
 else
 some (.inr true)
def Za4c : Zkc → Option (Zkc ⊕ Bool)
 | .L0 v0 v1 v7 => Z2h v0 v1 v7
def Zagj (a0 : Int) (a1 : Int) (a2 : Int) : Option (Zkc ⊕ Bool) :=
 bif decide (a0 < 0) then
 some (.inr false)
 else
 bif decide (a0 > a2) then
 some (.inr false)
 else
 bif decide (a1 < 0) then
 some (.inr false)
 else
 bif decide (a1 > a2) then
 some (.inr false)
 else
 some (.inl (.L0 a0 a1 0))
noncomputable def Z7o (a0 : Int) (a1 : Int) (a2 : Int) : Option Bool := (Zagj a0 a1 a2).bind (endO Za4c)
abbrev Zm5 := Empty
def Za4d : Zm5 → Option (Zm5 ⊕ Bool) := fun s => nomatch s
def Zagk (a0 : Ze) : Option (Zm5 ⊕ Bool) :=
 bif decide (a0.Kind < 0) then
 some (.inr false)
 else
 bif decide (a0.Kind > 3) then
 some (.inr false)
 else
 bif decide (a0.N < 0) then
 some (.inr false)
 else
 bif decide (a0.N > 1000000) then
 some (.inr false)
 else
 bif (a0.Kind != 0) then
 some (.inr true)
 else
 some (.inr (a0.N == 0))
noncomputable def Z1f (a0 : Ze) : Option Bool := (Zagk a0).bind (endO Za4d)
inductive Zpi where
 | L0 (E0 : Zi)
def Z1g (E0 : Zi) : Option (Zpi ⊕ Bool) :=
 Option.bind (Z1f E0.Power) fun x1 =>
 bif x1 then
 Option.bind (Z1f E0.Tough) fun x4 =>
 bif x4 then
 Option.bind (Z1f E0.Value) fun x7 =>
 some (.inr x7)
 else
 some (.inr false)
 else
 some (.inr false)
def Zbhx : Zpi → Option (Zpi ⊕ Bool)
 | .L0 E0 => Z1g E0
def Zawj (a0 : Zi) : Option (Zpi ⊕ Bool) :=
 bif decide (a0.Zone < 0) then
 some (.inr false)
 else
 bif decide (a0.Zone > 5) then
 some (.inr false)
 else
 bif decide (a0.Who < 0) then
 some (.inr false)
 else
 bif decide (a0.Who > 2) then
 some (.inr false)
 else
 bif decide (a0.Self < 0) then
 some (.inr false)
 else
 bif decide (a0.Self > 2) then
 some (.inr false)
 else
 bif decide (a0.Tap < 0) then
 some (.inr false)
 else
 bif decide (a0.Tap > 2) then
 some (.inr false)
 else
 Option.bind (Z7o a0.Types a0.NotTypes 63) fun x9 =>
 bif (!x9) then
 some (.inr false)
 else
 Option.bind (Z7o a0.Colors a0.NotColors 31) fun x12 =>
 bif (!x12) then
 some (.inr false)
 else
 bif (!(a0.Sub == ([] : List UInt8))) then
 Option.bind (Z1e a0.Sub) fun x16 =>
 bif (!x16) then
 some (.inr false)
 else
 bif decide (a0.Keys < 0) then
 some (.inr false)
 else
 bif decide (a0.Keys > 131071) then
 some (.inr false)
 else
 Z1g a0
 else
 bif decide (a0.Keys < 0) then
 some (.inr false)
 else
 bif decide (a0.Keys > 131071) then
 some (.inr false)
 else
 Z1g a0
noncomputable def Zqc (a0 : Zi) : Option Bool := (Zawj a0).bind (endO Zbhx)
inductive Zji where
 | L0 (E0 : Zh) (E1 : Zh) (v7 : Int) (v8 : Bool)
 | L1 (E0 : Zh) (E1 : Zh) (v7 : Int) (v16 : Bool)
def Zu0 (E0 : Zh) (E1 : Zh) (v7 : Int) (v16 : Bool) : Option (Zji ⊕ Zh) :=
 bif v16 then
 some (.inr { E0 with Sub := ([] : List UInt8) })
 else
 bif (v7 == 11) then
 some (.inr { E0 with Filter := (⟨0, 0, 0, 0, 0, 0, 0, ([] : List UInt8), 0, 0, (⟨0, 0⟩ : Ze), (⟨0, 0⟩ : Ze), (⟨0, 0⟩ : Ze)⟩ : Zi) })
 else
 bif (v7 == 12) then
 some (.inr (⟨E0.Kind, 0, 0, E0.Sub, E0.Filter⟩ : Zh))
 else
 bif (v7 == 13) then
 some (.inr (⟨E0.Kind, 0, 0, E0.Sub, E0.Filter⟩ : Zh))
 else
 some (.inr E0)
def Zle (E0 : Zh) (E1 : Zh) (v7 : Int) (v8 : Bool) : Option (Zji ⊕ Zh) :=
 bif v8 then
 some (.inr { E0 with N := 0 })
 else
 bif (v7 == 4) then
 Zu0 E0 E1 v7 (v7 == 4)
 else
 Zu0 E0 E1 v7 (v7 == 5)
def Za76 : Zji → Option (Zji ⊕ Zh)
 | .L0 E0 E1 v7 v8 => Zle E0 E1 v7 v8
 | .L1 E0 E1 v7 v16 => Zu0 E0 E1 v7 v16
def Zajx (a0 : Zh) : Option (Zji ⊕ Zh) :=
 bif (a0.Kind == 2) then
 Zle { a0 with Kind := 0 } (⟨0, 0, 0, ([] : List UInt8), (⟨0, 0, 0, 0, 0, 0, 0, ([] : List UInt8), 0, 0, (⟨0, 0⟩ : Ze), (⟨0, 0⟩ : Ze), (⟨0, 0⟩ : Ze)⟩ : Zi)⟩ : Zh) a0.Kind (a0.Kind == 2)
 else
 bif (a0.Kind == 3) then
 Zle { a0 with Kind := 0 } (⟨0, 0, 0, ([] : List UInt8), (⟨0, 0, 0, 0, 0, 0, 0, ([] : List UInt8), 0, 0, (⟨0, 0⟩ : Ze), (⟨0, 0⟩ : Ze), (⟨0, 0⟩ : Ze)⟩ : Zi)⟩ : Zh) a0.Kind (a0.Kind == 3)
 else
 bif (a0.Kind == 6) then
 Zle { a0 with Kind := 0 } (⟨0, 0, 0, ([] : List UInt8), (⟨0, 0, 0, 0, 0, 0, 0, ([] : List UInt8), 0, 0, (⟨0, 0⟩ : Ze), (⟨0, 0⟩ : Ze), (⟨0, 0⟩ : Ze)⟩ : Zi)⟩ : Zh) a0.Kind (a0.Kind == 6)
 else
 bif (a0.Kind == 7) then
 Zle { a0 with Kind := 0 } (⟨0, 0, 0, ([] : List UInt8), (⟨0, 0, 0, 0, 0, 0, 0, ([] : List UInt8), 0, 0, (⟨0, 0⟩ : Ze), (⟨0, 0⟩ : Ze), (⟨0, 0⟩ : Ze)⟩ : Zi)⟩ : Zh) a0.Kind (a0.Kind == 7)
 else
 bif (a0.Kind == 8) then
 Zle { a0 with Kind := 0 } (⟨0, 0, 0, ([] : List UInt8), (⟨0, 0, 0, 0, 0, 0, 0, ([] : List UInt8), 0, 0, (⟨0, 0⟩ : Ze), (⟨0, 0⟩ : Ze), (⟨0, 0⟩ : Ze)⟩ : Zi)⟩ : Zh) a0.Kind (a0.Kind == 8)
 else
 Zle { a0 with Kind := 0 } (⟨0, 0, 0, ([] : List UInt8), (⟨0, 0, 0, 0, 0, 0, 0, ([] : List UInt8), 0, 0, (⟨0, 0⟩ : Ze), (⟨0, 0⟩ : Ze), (⟨0, 0⟩ : Ze)⟩ : Zi)⟩ : Zh) a0.Kind (a0.Kind == 9)
noncomputable def Zajy (a0 : Zh) : Option Zh := (Zajx a0).bind (endO Za76)
abbrev Zm6 := Empty
def Za4e : Zm6 → Option (Zm6 ⊕ Bool) := fun s => nomatch s
def Zagl (a0 : Int) : Option (Zm6 ⊕ Bool) :=
 bif decide (a0 ≥ 1) then
 bif decide (a0 ≤ 63) then
 some (.inr ((Zzn .and .i64 a0 6) == 0))
 else
 some (.inr false)
 else
 some (.inr false)
noncomputable def Zaez (a0 : Int) : Option Bool := (Zagl a0).bind (endO Za4e)
inductive Zku where
 | L0 (E0 : Zh) (v18 : Int) (v19 : Bool)
 | L1 (E0 : Zh) (v18 : Int) (v25 : Bool)
 | L2 (E0 : Zh) (v18 : Int) (v51 : Bool)
def Z1h (E0 : Zh) (v18 : Int) (v51 : Bool) : Option (Zku ⊕ Bool) :=
 bif v51 then
 bif decide (E0.N ≥ 1) then
 some (.inr (decide (E0.N ≤ 131071)))
 else
 some (.inr false)
 else
 bif (v18 == 11) then
 Option.bind (Zqc E0.Filter) fun x4 =>
 some (.inr x4)
 else
 bif (v18 == 12) then
 bif decide (E0.N ≥ 0) then
 bif decide (E0.N ≤ 99) then
 bif decide (E0.M ≥ 0) then
 some (.inr (decide (E0.M ≤ 99)))
 else
 some (.inr false)
 else
 some (.inr false)
 else
 some (.inr false)
 else
 bif (v18 == 13) then
 bif decide (E0.N ≥ (-99)) then
 bif decide (E0.N ≤ 99) then
 bif decide (E0.M ≥ (-99)) then
 some (.inr (decide (E0.M ≤ 99)))
 else
 some (.inr false)
 else
 some (.inr false)
 else
 some (.inr false)
 else
 some (.inr true)
def Z1i (E0 : Zh) (v18 : Int) (v25 : Bool) : Option (Zku ⊕ Bool) :=
 bif v25 then
 Option.bind (Z1e E0.Sub) fun x2 =>
 some (.inr x2)
 else
 bif (v18 == 6) then
 bif decide (E0.N ≥ 0) then
 some (.inr (decide (E0.N ≤ 31)))
 else
 some (.inr false)
 else
 bif (v18 == 7) then
 bif decide (E0.N ≥ 1) then
 some (.inr (decide (E0.N ≤ 31)))
 else
 some (.inr false)
 else
 bif (v18 == 8) then
 Z1h E0 v18 (v18 == 8)
 else
 Z1h E0 v18 (v18 == 9)
def Z1j (E0 : Zh) (v18 : Int) (v19 : Bool) : Option (Zku ⊕ Bool) :=
 bif v19 then
 Option.bind (Zaez E0.N) fun x2 =>
 some (.inr x2)
 else
 bif (v18 == 4) then
 Z1i E0 v18 (v18 == 4)
 else
 Z1i E0 v18 (v18 == 5)
def Zbhy : Zku → Option (Zku ⊕ Bool)
 | .L0 E0 v18 v19 => Z1j E0 v18 v19
 | .L1 E0 v18 v25 => Z1i E0 v18 v25
 | .L2 E0 v18 v51 => Z1h E0 v18 v51
def Zawk (a0 : Zh) : Option (Zku ⊕ Bool) :=
 bif decide (a0.Kind < 1) then
 some (.inr false)
 else
 bif decide (a0.Kind > 14) then
 some (.inr false)
 else
 Option.bind (Zajy a0) fun x3 =>
 bif (!(eqTs (Zp x3) (Zp (⟨0, 0, 0, ([] : List UInt8), (⟨0, 0, 0, 0, 0, 0, 0, ([] : List UInt8), 0, 0, (⟨0, 0⟩ : Ze), (⟨0, 0⟩ : Ze), (⟨0, 0⟩ : Ze)⟩ : Zi)⟩ : Zh)))) then
 some (.inr false)
 else
 bif (a0.Kind == 2) then
 Z1j a0 a0.Kind (a0.Kind == 2)
 else
 Z1j a0 a0.Kind (a0.Kind == 3)
noncomputable def Zao4 (a0 : Zh) : Option Bool := (Zawk a0).bind (endO Zbhy)
inductive Zi5 where
 | L0 (v0 : (List (List UInt8))) (v1 : Int) (v2 : (List UInt8)) (v7 : (List UInt8)) (v8 : Int)
def Zzq (v0 : (List (List UInt8))) (v1 : Int) (v2 : (List UInt8)) (v7 : (List UInt8)) (v8 : Int) : Option (Zi5 ⊕ (List UInt8)) :=
 bif decide (v8 < (v0.length : Int)) then
 Option.bind (Zaay v1 v8) fun x3 =>
 bif x3 then
 bif (!(v7 == ([] : List UInt8))) then
 Option.bind (ok? (decide (v7.length + v2.length ≤ 9223372036854775807))) fun x8 =>
 Option.bind (idx? v0 v8) fun x10 =>
 Option.bind (ok? (decide ((v7 ++ v2).length + x10.length ≤ 9223372036854775807))) fun x13 =>
 some (.inl (.L0 v0 v1 v2 ((v7 ++ v2) ++ x10) (IntKind.wrap .i64 (v8 + 1))))
 else
 Option.bind (idx? v0 v8) fun x17 =>
 Option.bind (ok? (decide (v7.length + x17.length ≤ 9223372036854775807))) fun x20 =>
 some (.inl (.L0 v0 v1 v2 (v7 ++ x17) (IntKind.wrap .i64 (v8 + 1))))
 else
 some (.inl (.L0 v0 v1 v2 v7 (IntKind.wrap .i64 (v8 + 1))))
 else
 some (.inr v7)
def Zaz5 : Zi5 → Option (Zi5 ⊕ (List UInt8))
 | .L0 v0 v1 v2 v7 v8 => Zzq v0 v1 v2 v7 v8
def Zabh (a0 : (List (List UInt8))) (a1 : Int) (a2 : (List UInt8)) : Option (Zi5 ⊕ (List UInt8)) :=
 some (.inl (.L0 a0 a1 a2 ([] : List UInt8) 0))
noncomputable def Zaaa (a0 : (List (List UInt8))) (a1 : Int) (a2 : (List UInt8)) : Option (List UInt8) := (Zabh a0 a1 a2).bind (endO Zaz5)
abbrev Zio := Empty
def Zao5 : Zio → Option (Zio ⊕ (List UInt8)) := fun s => nomatch s
def Z2i (a0 : Int) : Option (Zio ⊕ (List UInt8)) :=
 bif decide (a0 < 1) then
 some (.inr ([] : List UInt8))
 else
 bif decide (a0 > 63) then
 some (.inr ([] : List UInt8))
 else
 Option.bind (Zp3) fun x3 =>
 Option.bind (Zaaa x3 a0 ([43] : List UInt8)) fun x5 =>
 some (.inr x5)
noncomputable def Zp4 (a0 : Int) : Option (List UInt8) := (Z2i a0).bind (endO Zao5)
abbrev Zte := Empty
def Zbhz : Zte → Option (Zte ⊕ Bool) := fun s => nomatch s
def Zawl (a0 : Int) : Option (Zte ⊕ Bool) :=
 bif decide (a0 ≥ 0) then
 some (.inr (decide (a0 ≤ 31)))
 else
 some (.inr false)
noncomputable def Zaz6 (a0 : Int) : Option Bool := (Zawl a0).bind (endO Zbhz)
abbrev Zok := Empty
def Za77 : Zok → Option (Zok ⊕ (List UInt8)) := fun s => nomatch s
def Zajz (a0 : Int) : Option (Zok ⊕ (List UInt8)) :=
 bif (a0 == 0) then
 some (.inr ([97, 109, 98, 101, 114] : List UInt8))
 else
 bif (a0 == 1) then
 some (.inr ([99, 111, 98, 97, 108, 116] : List UInt8))
 else
 bif (a0 == 2) then
 some (.inr ([106, 101, 116] : List UInt8))
 else
 bif (a0 == 3) then
 some (.inr ([114, 117, 98, 121] : List UInt8))
 else
 bif (a0 == 4) then
 some (.inr ([101, 109, 101, 114, 97, 108, 100] : List UInt8))
 else
 some (.inr ([] : List UInt8))
noncomputable def Z0q (a0 : Int) : Option (List UInt8) := (Zajz a0).bind (endO Za77)
inductive Zlk where
 | L0 (v0 : Int) (v3 : (List UInt8)) (v4 : Int)
def Z6k (v0 : Int) (v3 : (List UInt8)) (v4 : Int) : Option (Zlk ⊕ (List UInt8)) :=
 bif decide (v4 < 5) then
 Option.bind (ok? (decide (¬ v4 < 0))) fun x2 =>
 Option.bind (ok? (decide ((shlI .i64 1 v4) ≠ 0))) fun x4 =>
 bif ((Int.tmod (quoI .i64 v0 (shlI .i64 1 v4)) 2) == 1) then
 bif (!(v3 == ([] : List UInt8))) then
 Option.bind (ok? (decide (v3.length + ([43] : List UInt8).length ≤ 9223372036854775807))) fun x8 =>
 Option.bind (Z0q v4) fun x10 =>
 Option.bind (ok? (decide ((v3 ++ ([43] : List UInt8)).length + x10.length ≤ 9223372036854775807))) fun x13 =>
 some (.inl (.L0 v0 ((v3 ++ ([43] : List UInt8)) ++ x10) (IntKind.wrap .i64 (v4 + 1))))
 else
 Option.bind (Z0q v4) fun x17 =>
 Option.bind (ok? (decide (v3.length + x17.length ≤ 9223372036854775807))) fun x20 =>
 some (.inl (.L0 v0 (v3 ++ x17) (IntKind.wrap .i64 (v4 + 1))))
 else
 some (.inl (.L0 v0 v3 (IntKind.wrap .i64 (v4 + 1))))
 else
 some (.inr v3)
def Za78 : Zlk → Option (Zlk ⊕ (List UInt8))
 | .L0 v0 v3 v4 => Z6k v0 v3 v4
def Zaj0 (a0 : Int) : Option (Zlk ⊕ (List UInt8)) :=
 Option.bind (Zaz6 a0) fun x1 =>
 bif (!x1) then
 some (.inr ([] : List UInt8))
 else
 bif (a0 == 0) then
 some (.inr ([110, 111, 110, 101] : List UInt8))
 else
 some (.inl (.L0 a0 ([] : List UInt8) 0))
noncomputable def Zabi (a0 : Int) : Option (List UInt8) := (Zaj0 a0).bind (endO Za78)
abbrev Zm7 := Empty
def Za4f : Zm7 → Option (Zm7 ⊕ (List (List UInt8))) := fun s => nomatch s
def Zagm : Option (Zm7 ⊕ (List (List UInt8))) :=
 some (.inr [([102, 108, 121, 105, 110, 103] : List UInt8), ([114, 101, 97, 99, 104] : List UInt8), ([104, 97, 115, 116, 101] : List UInt8), ([118, 105, 103, 105, 108, 97, 110, 116] : List UInt8), ([116, 114, 97, 109, 112, 108, 101] : List UInt8), ([102, 105, 114, 115, 116, 45, 115, 116, 114, 105, 107, 101] : List UInt8), ([100, 111, 117, 98, 108, 101, 45, 115, 116, 114, 105, 107, 101] : List UInt8), ([100, 101, 97, 100, 108, 121] : List UInt8), ([108, 105, 102, 101, 108, 105, 110, 107] : List UInt8), ([109, 101, 110, 97, 99, 101] : List UInt8), ([100, 101, 102, 101, 110, 100, 101, 114] : List UInt8), ([119, 97, 114, 100, 101, 100] : List UInt8), ([115, 116, 117, 114, 100, 121] : List UInt8), ([101, 108, 117, 115, 105, 118, 101] : List UInt8), ([110, 111, 45, 97, 116, 116, 97, 99, 107] : List UInt8), ([110, 111, 45, 98, 108, 111, 99, 107] : List UInt8), ([109, 117, 115, 116, 45, 97, 116, 116, 97, 99, 107] : List UInt8)])
noncomputable def Z7p : Option (List (List UInt8)) := (Zagm).bind (endO Za4f)
abbrev Zol := Empty
def Za79 : Zol → Option (Zol ⊕ (List UInt8)) := fun s => nomatch s
def Zaj1 (a0 : Int) : Option (Zol ⊕ (List UInt8)) :=
 bif decide (a0 < 0) then
 some (.inr ([] : List UInt8))
 else
 bif decide (a0 > 16) then
 some (.inr ([] : List UInt8))
 else
 Option.bind (Z7p) fun x3 =>
 Option.bind (idx? x3 a0) fun x5 =>
 some (.inr x5)
noncomputable def Z49 (a0 : Int) : Option (List UInt8) := (Zaj1 a0).bind (endO Za79)
inductive Zll where
 | L0 (v0 : Int) (v3 : (List UInt8)) (v4 : Int)
def Z6l (v0 : Int) (v3 : (List UInt8)) (v4 : Int) : Option (Zll ⊕ (List UInt8)) :=
 bif decide (v4 < 17) then
 bif ((Int.tmod v0 2) == 1) then
 bif (!(v3 == ([] : List UInt8))) then
 Option.bind (ok? (decide (v3.length + ([43] : List UInt8).length ≤ 9223372036854775807))) fun x4 =>
 Option.bind (Z49 v4) fun x6 =>
 Option.bind (ok? (decide ((v3 ++ ([43] : List UInt8)).length + x6.length ≤ 9223372036854775807))) fun x9 =>
 some (.inl (.L0 (quoI .i64 v0 2) ((v3 ++ ([43] : List UInt8)) ++ x6) (IntKind.wrap .i64 (v4 + 1))))
 else
 Option.bind (Z49 v4) fun x13 =>
 Option.bind (ok? (decide (v3.length + x13.length ≤ 9223372036854775807))) fun x16 =>
 some (.inl (.L0 (quoI .i64 v0 2) (v3 ++ x13) (IntKind.wrap .i64 (v4 + 1))))
 else
 some (.inl (.L0 (quoI .i64 v0 2) v3 (IntKind.wrap .i64 (v4 + 1))))
 else
 bif (v3 == ([] : List UInt8)) then
 some (.inr ([110, 111, 110, 101] : List UInt8))
 else
 some (.inr v3)
def Za8a : Zll → Option (Zll ⊕ (List UInt8))
 | .L0 v0 v3 v4 => Z6l v0 v3 v4
def Zaj2 (a0 : Int) : Option (Zll ⊕ (List UInt8)) :=
 Option.bind (Zao3 a0) fun x1 =>
 bif (!x1) then
 some (.inr ([] : List UInt8))
 else
 some (.inl (.L0 a0 ([] : List UInt8) 0))
noncomputable def Zabj (a0 : Int) : Option (List UInt8) := (Zaj2 a0).bind (endO Za8a)
abbrev Zip := Empty
def Zao6 : Zip → Option (Zip ⊕ (List (List UInt8))) := fun s => nomatch s
def Z2j : Option (Zip ⊕ (List (List UInt8))) :=
 some (.inr [([] : List UInt8), ([105, 110, 45, 104, 97, 110, 100] : List UInt8), ([105, 110, 45, 108, 105, 98, 114, 97, 114, 121] : List UInt8), ([105, 110, 45, 103, 114, 97, 118, 101, 121, 97, 114, 100] : List UInt8), ([105, 110, 45, 101, 120, 105, 108, 101] : List UInt8), ([111, 110, 45, 115, 116, 97, 99, 107] : List UInt8)])
noncomputable def Zuh : Option (List (List UInt8)) := (Z2j).bind (endO Zao6)
abbrev Zjj := Empty
def Zasv : Zjj → Option (Zjj ⊕ (List (List UInt8))) := fun s => nomatch s
def Z5a : Option (Zjj ⊕ (List (List UInt8))) :=
 some (.inr [([] : List UInt8), ([121, 111, 117, 114, 115] : List UInt8), ([116, 104, 101, 105, 114, 115] : List UInt8)])
noncomputable def Zwj : Option (List (List UInt8)) := (Z5a).bind (endO Zasv)
abbrev Ziq := Empty
def Zao7 : Ziq → Option (Ziq ⊕ (List (List UInt8))) := fun s => nomatch s
def Z2k : Option (Ziq ⊕ (List (List UInt8))) :=
 some (.inr [([] : List UInt8), ([115, 101, 108, 102] : List UInt8), ([111, 116, 104, 101, 114] : List UInt8)])
noncomputable def Zui : Option (List (List UInt8)) := (Z2k).bind (endO Zao7)
abbrev Zjk := Empty
def Zasw : Zjk → Option (Zjk ⊕ (List (List UInt8))) := fun s => nomatch s
def Z5b : Option (Zjk ⊕ (List (List UInt8))) :=
 some (.inr [([] : List UInt8), ([116, 97, 112, 112, 101, 100] : List UInt8), ([117, 110, 116, 97, 112, 112, 101, 100] : List UInt8)])
noncomputable def Zwk : Option (List (List UInt8)) := (Z5b).bind (endO Zasw)
inductive Znp where
 | L0 (v0 : Int) (v1 : Int) (v5 : Int)
def Zaab (v0 : Int) (v1 : Int) (v5 : Int) : Option (Znp ⊕ Bool) :=
 bif decide (v5 < v1) then
 some (.inl (.L0 (quoI .i64 v0 2) v1 (IntKind.wrap .i64 (v5 + 1))))
 else
 some (.inr ((Int.tmod v0 2) == 1))
def Zbdj : Znp → Option (Znp ⊕ Bool)
 | .L0 v0 v1 v5 => Zaab v0 v1 v5
def Zao8 (a0 : Int) (a1 : Int) : Option (Znp ⊕ Bool) :=
 some (.inl (.L0 a0 a1 0))
noncomputable def Z1k (a0 : Int) (a1 : Int) : Option Bool := (Zao8 a0 a1).bind (endO Zbdj)
inductive Zg3 where
 | L0 (v0 : Int) (v3 : Int) (v4 : Int)
def Zvq (v0 : Int) (v3 : Int) (v4 : Int) : Option (Zg3 ⊕ (List UInt8)) :=
 bif decide (v4 < v0) then
 some (.inl (.L0 v0 (IntKind.wrap .i64 (v3 * 2)) (IntKind.wrap .i64 (v4 + 1))))
 else
 Option.bind (Zp4 v3) fun x6 =>
 some (.inr x6)
def Zasx : Zg3 → Option (Zg3 ⊕ (List UInt8))
 | .L0 v0 v3 v4 => Zvq v0 v3 v4
def Z5c (a0 : Int) : Option (Zg3 ⊕ (List UInt8)) :=
 some (.inl (.L0 a0 1 0))
noncomputable def Zwl (a0 : Int) : Option (List UInt8) := (Z5c a0).bind (endO Zasx)
abbrev Zm8 := Empty
def Za4g : Zm8 → Option (Zm8 ⊕ (List (List UInt8))) := fun s => nomatch s
def Zagn : Option (Zm8 ⊕ (List (List UInt8))) :=
 some (.inr [([] : List UInt8), ([62, 61] : List UInt8), ([60, 61] : List UInt8), ([61] : List UInt8)])
noncomputable def Z7q : Option (List (List UInt8)) := (Zagn).bind (endO Za4g)
inductive Zlm where
 | L0 (v0 : Int) (v3 : (List UInt8))
def Zmj (v0 : Int) (v3 : (List UInt8)) : Option (Zlm ⊕ (List UInt8)) :=
 bif decide (v0 > 0) then
 Option.bind (str? [IntKind.wrap .u8 (IntKind.wrap .u64 (48 + (Int.tmod v0 10)))]) fun x5 =>
 Option.bind (ok? (decide (x5.length + v3.length ≤ 9223372036854775807))) fun x9 =>
 some (.inl (.L0 (quoI .u64 v0 10) (x5 ++ v3)))
 else
 some (.inr v3)
def Z2l : Zlm → Option (Zlm ⊕ (List UInt8))
 | .L0 v0 v3 => Zmj v0 v3
def Zabk (a0 : Int) : Option (Zlm ⊕ (List UInt8)) :=
 Option.bind (str? [IntKind.wrap .u8 (IntKind.wrap .u64 (48 + (Int.tmod a0 10)))]) fun x4 =>
 some (.inl (.L0 (quoI .u64 a0 10) x4))
noncomputable def Z2m (a0 : Int) : Option (List UInt8) := (Zabk a0).bind (endO Z2l)
abbrev Zom := Empty
def Za8b : Zom → Option (Zom ⊕ (List UInt8)) := fun s => nomatch s
def Zaj3 (a0 : Int) : Option (Zom ⊕ (List UInt8)) :=
 bif decide (a0 < 0) then
 Option.bind (Z2m (IntKind.wrap .u64 (0 - (IntKind.wrap .u64 a0)))) fun x4 =>
 Option.bind (ok? (decide (([45] : List UInt8).length + x4.length ≤ 9223372036854775807))) fun x7 =>
 some (.inr (([45] : List UInt8) ++ x4))
 else
 Option.bind (Z2m (IntKind.wrap .u64 a0)) fun x10 =>
 some (.inr x10)
noncomputable def Ztf (a0 : Int) : Option (List UInt8) := (Zaj3 a0).bind (endO Za8b)
abbrev Zir := Empty
def Zao9 : Zir → Option (Zir ⊕ (List UInt8)) := fun s => nomatch s
def Z2n (a0 : (List UInt8)) (a1 : Ze) : Option (Zir ⊕ (List UInt8)) :=
 bif (a1.Kind == 0) then
 some (.inr ([] : List UInt8))
 else
 Option.bind (Z7q) fun x2 =>
 Option.bind (idx? x2 a1.Kind) fun x4 =>
 Option.bind (ok? (decide (a0.length + x4.length ≤ 9223372036854775807))) fun x8 =>
 Option.bind (Ztf a1.N) fun x10 =>
 Option.bind (ok? (decide ((a0 ++ x4).length + x10.length ≤ 9223372036854775807))) fun x13 =>
 some (.inr ((a0 ++ x4) ++ x10))
noncomputable def Zp5 (a0 : (List UInt8)) (a1 : Ze) : Option (List UInt8) := (Z2n a0 a1).bind (endO Zao9)
inductive Zln where
 | L0 (v0 : (List (List UInt8))) (v1 : (List UInt8)) (v5 : (List UInt8)) (v6 : Int)
def Z6m (v0 : (List (List UInt8))) (v1 : (List UInt8)) (v5 : (List UInt8)) (v6 : Int) : Option (Zln ⊕ (List UInt8)) :=
 bif decide (v6 < (v0.length : Int)) then
 bif decide (v6 > 0) then
 Option.bind (ok? (decide (v5.length + v1.length ≤ 9223372036854775807))) fun x5 =>
 Option.bind (idx? v0 v6) fun x7 =>
 Option.bind (ok? (decide ((v5 ++ v1).length + x7.length ≤ 9223372036854775807))) fun x10 =>
 some (.inl (.L0 v0 v1 ((v5 ++ v1) ++ x7) (IntKind.wrap .i64 (v6 + 1))))
 else
 Option.bind (idx? v0 v6) fun x14 =>
 Option.bind (ok? (decide (v5.length + x14.length ≤ 9223372036854775807))) fun x17 =>
 some (.inl (.L0 v0 v1 (v5 ++ x14) (IntKind.wrap .i64 (v6 + 1))))
 else
 some (.inr v5)
def Za8c : Zln → Option (Zln ⊕ (List UInt8))
 | .L0 v0 v1 v5 v6 => Z6m v0 v1 v5 v6
def Zaj4 (a0 : (List (List UInt8))) (a1 : (List UInt8)) : Option (Zln ⊕ (List UInt8)) :=
 some (.inl (.L0 a0 a1 ([] : List UInt8) 0))
noncomputable def Zaj5 (a0 : (List (List UInt8))) (a1 : (List UInt8)) : Option (List UInt8) := (Zaj4 a0 a1).bind (endO Za8c)
abbrev Zjl := Empty
def Zasy : Zjl → Option (Zjl ⊕ (List (List UInt8))) := fun s => nomatch s
def Z5d (b0 : (List (List UInt8))) (a1 : (List UInt8)) : Option (Zjl ⊕ (List (List UInt8))) :=
 bif (a1 == ([] : List UInt8)) then
 some (.inr b0)
 else
 Option.bind (app? 16 b0 [a1]) fun x3 =>
 some (.inr x3)
noncomputable def Zkd (b0 : (List (List UInt8))) (a1 : (List UInt8)) : Option (List (List UInt8)) := (Z5d b0 a1).bind (endO Zasy)
inductive Ze4 where
 | L0 (E0 : Zi) (v6 : (List (List UInt8))) (v7 : (List (List UInt8))) (v8 : Int)
 | L1 (E0 : Zi) (v6 : (List (List UInt8))) (v7 : (List (List UInt8))) (v9 : Int)
 | L2 (E0 : Zi) (v6 : (List (List UInt8))) (v7 : (List (List UInt8))) (v10 : Int)
 | L3 (E0 : Zi) (v6 : (List (List UInt8))) (v7 : (List (List UInt8))) (v11 : Int)
 | L4 (E0 : Zi) (v6 : (List (List UInt8))) (v7 : (List (List UInt8)))
 | L5 (E0 : Zi) (v6 : (List (List UInt8))) (v7 : (List (List UInt8))) (v12 : Int)
def Zu1 (E0 : Zi) (v6 : (List (List UInt8))) (v7 : (List (List UInt8))) : Option (Ze4 ⊕ (List UInt8)) :=
 some (.inl (.L5 E0 v6 v7 0))
def Z6n (E0 : Zi) (v6 : (List (List UInt8))) (v7 : (List (List UInt8))) (v8 : Int) : Option (Ze4 ⊕ (List UInt8)) :=
 bif decide (v8 < 6) then
 Option.bind (Z1k E0.Types v8) fun x2 =>
 bif x2 then
 Option.bind (Zwl v8) fun x5 =>
 Option.bind (app? 16 v7 [x5]) fun x8 =>
 some (.inl (.L0 E0 v6 x8 (IntKind.wrap .i64 (v8 + 1))))
 else
 some (.inl (.L0 E0 v6 v7 (IntKind.wrap .i64 (v8 + 1))))
 else
 some (.inl (.L1 E0 v6 v7 0))
def Z6o (E0 : Zi) (v6 : (List (List UInt8))) (v7 : (List (List UInt8))) (v9 : Int) : Option (Ze4 ⊕ (List UInt8)) :=
 bif decide (v9 < 6) then
 Option.bind (Z1k E0.NotTypes v9) fun x2 =>
 bif x2 then
 Option.bind (Zwl v9) fun x5 =>
 Option.bind (ok? (decide (([110, 111, 110, 45] : List UInt8).length + x5.length ≤ 9223372036854775807))) fun x8 =>
 Option.bind (app? 16 v7 [(([110, 111, 110, 45] : List UInt8) ++ x5)]) fun x11 =>
 some (.inl (.L1 E0 v6 x11 (IntKind.wrap .i64 (v9 + 1))))
 else
 some (.inl (.L1 E0 v6 v7 (IntKind.wrap .i64 (v9 + 1))))
 else
 some (.inl (.L2 E0 v6 v7 0))
def Z6p (E0 : Zi) (v6 : (List (List UInt8))) (v7 : (List (List UInt8))) (v10 : Int) : Option (Ze4 ⊕ (List UInt8)) :=
 bif decide (v10 < 5) then
 Option.bind (Z1k E0.Colors v10) fun x2 =>
 bif x2 then
 Option.bind (Z0q v10) fun x5 =>
 Option.bind (app? 16 v7 [x5]) fun x8 =>
 some (.inl (.L2 E0 v6 x8 (IntKind.wrap .i64 (v10 + 1))))
 else
 some (.inl (.L2 E0 v6 v7 (IntKind.wrap .i64 (v10 + 1))))
 else
 some (.inl (.L3 E0 v6 v7 0))
def Z6q (E0 : Zi) (v6 : (List (List UInt8))) (v7 : (List (List UInt8))) (v11 : Int) : Option (Ze4 ⊕ (List UInt8)) :=
 bif decide (v11 < 5) then
 Option.bind (Z1k E0.NotColors v11) fun x2 =>
 bif x2 then
 Option.bind (Z0q v11) fun x5 =>
 Option.bind (ok? (decide (([110, 111, 110, 45] : List UInt8).length + x5.length ≤ 9223372036854775807))) fun x8 =>
 Option.bind (app? 16 v7 [(([110, 111, 110, 45] : List UInt8) ++ x5)]) fun x11 =>
 some (.inl (.L3 E0 v6 x11 (IntKind.wrap .i64 (v11 + 1))))
 else
 some (.inl (.L3 E0 v6 v7 (IntKind.wrap .i64 (v11 + 1))))
 else
 bif (!(E0.Sub == ([] : List UInt8))) then
 Option.bind (ok? (decide (([115, 117, 98, 58] : List UInt8).length + E0.Sub.length ≤ 9223372036854775807))) fun x21 =>
 Option.bind (app? 16 v7 [(([115, 117, 98, 58] : List UInt8) ++ E0.Sub)]) fun x24 =>
 Zu1 E0 v6 x24
 else
 Zu1 E0 v6 v7
def Z6r (E0 : Zi) (v6 : (List (List UInt8))) (v7 : (List (List UInt8))) (v12 : Int) : Option (Ze4 ⊕ (List UInt8)) :=
 bif decide (v12 < 17) then
 Option.bind (Z1k E0.Keys v12) fun x2 =>
 bif x2 then
 Option.bind (Z49 v12) fun x5 =>
 Option.bind (ok? (decide (([119, 105, 116, 104, 58] : List UInt8).length + x5.length ≤ 9223372036854775807))) fun x8 =>
 Option.bind (app? 16 v7 [(([119, 105, 116, 104, 58] : List UInt8) ++ x5)]) fun x11 =>
 some (.inl (.L5 E0 v6 x11 (IntKind.wrap .i64 (v12 + 1))))
 else
 some (.inl (.L5 E0 v6 v7 (IntKind.wrap .i64 (v12 + 1))))
 else
 Option.bind (idx? v6 E0.Tap) fun x19 =>
 Option.bind (Zkd v7 x19) fun x21 =>
 Option.bind (Zp5 ([112, 111, 119, 101, 114] : List UInt8) E0.Power) fun x23 =>
 Option.bind (Zkd x21 x23) fun x25 =>
 Option.bind (Zp5 ([116, 111, 117, 103, 104] : List UInt8) E0.Tough) fun x27 =>
 Option.bind (Zkd x25 x27) fun x29 =>
 Option.bind (Zp5 ([118, 97, 108, 117, 101] : List UInt8) E0.Value) fun x31 =>
 Option.bind (Zkd x29 x31) fun x33 =>
 bif ((x33.length : Int) == 0) then
 some (.inr ([97, 110, 121] : List UInt8))
 else
 Option.bind (Zaj5 x33 ([32] : List UInt8)) fun x37 =>
 some (.inr x37)
def Za8d : Ze4 → Option (Ze4 ⊕ (List UInt8))
 | .L0 E0 v6 v7 v8 => Z6n E0 v6 v7 v8
 | .L1 E0 v6 v7 v9 => Z6o E0 v6 v7 v9
 | .L2 E0 v6 v7 v10 => Z6p E0 v6 v7 v10
 | .L3 E0 v6 v7 v11 => Z6q E0 v6 v7 v11
 | .L4 E0 v6 v7 => Zu1 E0 v6 v7
 | .L5 E0 v6 v7 v12 => Z6r E0 v6 v7 v12
def Zaj6 (a0 : Zi) : Option (Ze4 ⊕ (List UInt8)) :=
 Option.bind (Zqc a0) fun x1 =>
 bif (!x1) then
 some (.inr ([] : List UInt8))
 else
 Option.bind (Zuh) fun x4 =>
 Option.bind (Zwj) fun x6 =>
 Option.bind (Zui) fun x8 =>
 Option.bind (Zwk) fun x10 =>
 Option.bind (idx? x4 a0.Zone) fun x12 =>
 Option.bind (Zkd ([] : (List (List UInt8))) x12) fun x14 =>
 Option.bind (idx? x6 a0.Who) fun x16 =>
 Option.bind (Zkd x14 x16) fun x18 =>
 Option.bind (idx? x8 a0.Self) fun x20 =>
 Option.bind (Zkd x18 x20) fun x22 =>
 some (.inl (.L0 a0 x10 x22 0))
noncomputable def Zaj7 (a0 : Zi) : Option (List UInt8) := (Zaj6 a0).bind (endO Za8d)
abbrev Zon := Empty
def Za8e : Zon → Option (Zon ⊕ (List UInt8)) := fun s => nomatch s
def Zaj8 (a0 : Zh) : Option (Zon ⊕ (List UInt8)) :=
 Option.bind (Zao4 a0) fun x1 =>
 bif (!x1) then
 some (.inr ([] : List UInt8))
 else
 bif (a0.Kind == 1) then
 some (.inr ([99, 111, 110, 116, 114, 111, 108] : List UInt8))
 else
 bif (a0.Kind == 2) then
 Option.bind (Zp4 a0.N) fun x6 =>
 Option.bind (ok? (decide (([116, 121, 112, 101, 115, 61] : List UInt8).length + x6.length ≤ 9223372036854775807))) fun x9 =>
 some (.inr (([116, 121, 112, 101, 115, 61] : List UInt8) ++ x6))
 else
 bif (a0.Kind == 3) then
 Option.bind (Zp4 a0.N) fun x12 =>
 Option.bind (ok? (decide (([116, 121, 112, 101, 115, 43, 61] : List UInt8).length + x12.length ≤ 9223372036854775807))) fun x15 =>
 some (.inr (([116, 121, 112, 101, 115, 43, 61] : List UInt8) ++ x12))
 else
 bif (a0.Kind == 4) then
 Option.bind (ok? (decide (([115, 117, 98, 61] : List UInt8).length + a0.Sub.length ≤ 9223372036854775807))) fun x19 =>
 some (.inr (([115, 117, 98, 61] : List UInt8) ++ a0.Sub))
 else
 bif (a0.Kind == 5) then
 Option.bind (ok? (decide (([115, 117, 98, 43, 61] : List UInt8).length + a0.Sub.length ≤ 9223372036854775807))) fun x23 =>
 some (.inr (([115, 117, 98, 43, 61] : List UInt8) ++ a0.Sub))
 else
 bif (a0.Kind == 6) then
 Option.bind (Zabi a0.N) fun x26 =>
 Option.bind (ok? (decide (([99, 111, 108, 111, 114, 115, 61] : List UInt8).length + x26.length ≤ 9223372036854775807))) fun x29 =>
 some (.inr (([99, 111, 108, 111, 114, 115, 61] : List UInt8) ++ x26))
 else
 bif (a0.Kind == 7) then
 Option.bind (Zabi a0.N) fun x32 =>
 Option.bind (ok? (decide (([99, 111, 108, 111, 114, 115, 43, 61] : List UInt8).length + x32.length ≤ 9223372036854775807))) fun x35 =>
 some (.inr (([99, 111, 108, 111, 114, 115, 43, 61] : List UInt8) ++ x32))
 else
 bif (a0.Kind == 8) then
 Option.bind (Zabj a0.N) fun x38 =>
 Option.bind (ok? (decide (([107, 101, 121, 115, 43, 61] : List UInt8).length + x38.length ≤ 9223372036854775807))) fun x41 =>
 some (.inr (([107, 101, 121, 115, 43, 61] : List UInt8) ++ x38))
 else
 bif (a0.Kind == 9) then
 Option.bind (Zabj a0.N) fun x44 =>
 Option.bind (ok? (decide (([107, 101, 121, 115, 45, 61] : List UInt8).length + x44.length ≤ 9223372036854775807))) fun x47 =>
 some (.inr (([107, 101, 121, 115, 45, 61] : List UInt8) ++ x44))
 else
 bif (a0.Kind == 10) then
 some (.inr ([98, 108, 97, 110, 107] : List UInt8))
 else
 bif (a0.Kind == 11) then
 Option.bind (Zaj7 a0.Filter) fun x51 =>
 Option.bind (ok? (decide (([112, 116, 61, 99, 111, 117, 110, 116, 40] : List UInt8).length + x51.length ≤ 9223372036854775807))) fun x53 =>
 Option.bind (ok? (decide ((([112, 116, 61, 99, 111, 117, 110, 116, 40] : List UInt8) ++ x51).length + ([41] : List UInt8).length ≤ 9223372036854775807))) fun x55 =>
 some (.inr ((([112, 116, 61, 99, 111, 117, 110, 116, 40] : List UInt8) ++ x51) ++ ([41] : List UInt8)))
 else
 bif (a0.Kind == 12) then
 Option.bind (Ztf a0.N) fun x58 =>
 Option.bind (ok? (decide (([112, 116, 61] : List UInt8).length + x58.length ≤ 9223372036854775807))) fun x61 =>
 Option.bind (ok? (decide ((([112, 116, 61] : List UInt8) ++ x58).length + ([47] : List UInt8).length ≤ 9223372036854775807))) fun x63 =>
 Option.bind (Ztf a0.M) fun x65 =>
 Option.bind (ok? (decide (((([112, 116, 61] : List UInt8) ++ x58) ++ ([47] : List UInt8)).length + x65.length ≤ 9223372036854775807))) fun x68 =>
 some (.inr (((([112, 116, 61] : List UInt8) ++ x58) ++ ([47] : List UInt8)) ++ x65))
 else
 bif (a0.Kind == 13) then
 Option.bind (Ztf a0.N) fun x71 =>
 Option.bind (ok? (decide (([112, 116, 43, 61] : List UInt8).length + x71.length ≤ 9223372036854775807))) fun x74 =>
 Option.bind (ok? (decide ((([112, 116, 43, 61] : List UInt8) ++ x71).length + ([47] : List UInt8).length ≤ 9223372036854775807))) fun x76 =>
 Option.bind (Ztf a0.M) fun x78 =>
 Option.bind (ok? (decide (((([112, 116, 43, 61] : List UInt8) ++ x71) ++ ([47] : List UInt8)).length + x78.length ≤ 9223372036854775807))) fun x81 =>
 some (.inr (((([112, 116, 43, 61] : List UInt8) ++ x71) ++ ([47] : List UInt8)) ++ x78))
 else
 some (.inr ([112, 116, 45, 115, 119, 105, 116, 99, 104] : List UInt8))
noncomputable def Zabl (a0 : Zh) : Option (List UInt8) := (Zaj8 a0).bind (endO Za8e)
inductive Zg4 where
 | L0 (v0 : (List Zh)) (v3 : (List UInt8)) (v4 : Int)
def Zvr (v0 : (List Zh)) (v3 : (List UInt8)) (v4 : Int) : Option (Zg4 ⊕ (List UInt8)) :=
 bif decide (v4 < (v0.length : Int)) then
 Option.bind (idx? v0 v4) fun x3 =>
 Option.bind (Zao4 x3) fun x5 =>
 bif (!x5) then
 some (.inr ([] : List UInt8))
 else
 bif decide (v4 > 0) then
 Option.bind (ok? (decide (v3.length + ([44, 32] : List UInt8).length ≤ 9223372036854775807))) fun x9 =>
 Option.bind (Zabl x3) fun x11 =>
 Option.bind (ok? (decide ((v3 ++ ([44, 32] : List UInt8)).length + x11.length ≤ 9223372036854775807))) fun x13 =>
 some (.inl (.L0 v0 ((v3 ++ ([44, 32] : List UInt8)) ++ x11) (IntKind.wrap .i64 (v4 + 1))))
 else
 Option.bind (Zabl x3) fun x17 =>
 Option.bind (ok? (decide (v3.length + x17.length ≤ 9223372036854775807))) fun x19 =>
 some (.inl (.L0 v0 (v3 ++ x17) (IntKind.wrap .i64 (v4 + 1))))
 else
 some (.inr v3)
def Zasz : Zg4 → Option (Zg4 ⊕ (List UInt8))
 | .L0 v0 v3 v4 => Zvr v0 v3 v4
def Z5e (a0 : (List Zh)) : Option (Zg4 ⊕ (List UInt8)) :=
 bif ((a0.length : Int) == 0) then
 some (.inr ([] : List UInt8))
 else
 bif decide ((a0.length : Int) > 6) then
 some (.inr ([] : List UInt8))
 else
 some (.inl (.L0 a0 ([] : List UInt8) 0))
noncomputable def Zrp (a0 : (List Zh)) : Option (List UInt8) := (Z5e a0).bind (endO Zasz)
abbrev Zm9 := Empty
def Za4h : Zm9 → Option (Zm9 ⊕ Bool) := fun s => nomatch s
def Zago (a0 : Zii) : Option (Zm9 ⊕ Bool) :=
 Option.bind (Zabg a0.Mana) fun x1 =>
 bif x1 then
 bif (a0.Mana.X == 0) then
 bif decide (a0.Life ≥ 0) then
 some (.inr (decide (a0.Life ≤ 99)))
 else
 some (.inr false)
 else
 some (.inr false)
 else
 some (.inr false)
noncomputable def Zae0 (a0 : Zii) : Option Bool := (Zago a0).bind (endO Za4h)
abbrev Zoo := Empty
def Za8f : Zoo → Option (Zoo ⊕ (List UInt8)) := fun s => nomatch s
def Zaj9 (a0 : Int) : Option (Zoo ⊕ (List UInt8)) :=
 bif (a0 == 1) then
 some (.inr ([101, 110, 116, 101, 114, 115] : List UInt8))
 else
 bif (a0 == 2) then
 some (.inr ([108, 101, 97, 118, 101, 115] : List UInt8))
 else
 bif (a0 == 3) then
 some (.inr ([100, 105, 101, 115] : List UInt8))
 else
 bif (a0 == 4) then
 some (.inr ([97, 116, 116, 97, 99, 107, 115] : List UInt8))
 else
 bif (a0 == 5) then
 some (.inr ([98, 108, 111, 99, 107, 115] : List UInt8))
 else
 bif (a0 == 6) then
 some (.inr ([100, 101, 97, 108, 115] : List UInt8))
 else
 bif (a0 == 7) then
 some (.inr ([100, 101, 97, 108, 116] : List UInt8))
 else
 bif (a0 == 8) then
 some (.inr ([100, 114, 97, 119, 115] : List UInt8))
 else
 bif (a0 == 9) then
 some (.inr ([99, 97, 115, 116, 115] : List UInt8))
 else
 bif (a0 == 10) then
 some (.inr ([117, 112, 107, 101, 101, 112] : List UInt8))
 else
 bif (a0 == 11) then
 some (.inr ([101, 110, 100] : List UInt8))
 else
 bif (a0 == 12) then
 some (.inr ([103, 97, 105, 110, 115] : List UInt8))
 else
 bif (a0 == 13) then
 some (.inr ([108, 111, 115, 101, 115] : List UInt8))
 else
 bif (a0 == 14) then
 some (.inr ([112, 108, 97, 99, 101, 100] : List UInt8))
 else
 some (.inr ([] : List UInt8))
noncomputable def Zabm (a0 : Int) : Option (List UInt8) := (Zaj9 a0).bind (endO Za8f)
abbrev Zlo := Empty
def Zaz7 : Zlo → Option (Zlo ⊕ Bool) := fun s => nomatch s
def Zabn (a0 : Int) : Option (Zlo ⊕ Bool) :=
 bif (a0 == 8) then
 some (.inr true)
 else
 bif (a0 == 9) then
 some (.inr true)
 else
 bif (a0 == 10) then
 some (.inr true)
 else
 bif (a0 == 11) then
 some (.inr true)
 else
 bif (a0 == 12) then
 some (.inr true)
 else
 some (.inr (a0 == 13))
noncomputable def Z2o (a0 : Int) : Option Bool := (Zabn a0).bind (endO Zaz7)
abbrev Zis := Empty
def Zapa : Zis → Option (Zis ⊕ Bool) := fun s => nomatch s
def Z2p (a0 : Int) : Option (Zis ⊕ Bool) :=
 Option.bind (Zabm a0) fun x1 =>
 bif (!(x1 == ([] : List UInt8))) then
 Option.bind (Z2o a0) fun x4 =>
 bif (!x4) then
 some (.inr true)
 else
 some (.inr (a0 == 9))
 else
 some (.inr false)
noncomputable def Zzr (a0 : Int) : Option Bool := (Z2p a0).bind (endO Zapa)
inductive Zpj where
 | L0 (E0 : Zdk)
def Z1l (E0 : Zdk) : Option (Zpj ⊕ Bool) :=
 Option.bind (Zzr E0.When) fun x1 =>
 bif (!x1) then
 some (.inr (eqTs (Zx E0.Filter) (Zx (⟨0, 0, 0, 0, 0, 0, 0, ([] : List UInt8), 0, 0, (⟨0, 0⟩ : Ze), (⟨0, 0⟩ : Ze), (⟨0, 0⟩ : Ze)⟩ : Zi))))
 else
 bif (E0.When == 9) then
 Option.bind (Zqc E0.Filter) fun x5 =>
 bif x5 then
 some (.inr (E0.Filter.Zone == 5))
 else
 some (.inr false)
 else
 Option.bind (Zqc E0.Filter) fun x8 =>
 bif x8 then
 some (.inr (E0.Filter.Zone == 0))
 else
 some (.inr false)
def Zbh0 : Zpj → Option (Zpj ⊕ Bool)
 | .L0 E0 => Z1l E0
def Zawm (a0 : Zdk) : Option (Zpj ⊕ Bool) :=
 Option.bind (Zabm a0.When) fun x1 =>
 bif (x1 == ([] : List UInt8)) then
 some (.inr false)
 else
 bif decide (a0.Who < 0) then
 some (.inr false)
 else
 bif decide (a0.Who > 2) then
 some (.inr false)
 else
 Option.bind (Z2o a0.When) fun x6 =>
 bif (!x6) then
 bif (a0.Who != 0) then
 some (.inr false)
 else
 Z1l a0
 else
 Z1l a0
noncomputable def Zaz8 (a0 : Zdk) : Option Bool := (Zawm a0).bind (endO Zbh0)
abbrev Zna := Empty
def Za4i : Zna → Option (Zna ⊕ Bool) := fun s => nomatch s
def Zagp (a0 : Zi) : Option (Zna ⊕ Bool) :=
 Option.bind (Zqc a0) fun x1 =>
 bif x1 then
 some (.inr (a0.Zone == 0))
 else
 some (.inr false)
noncomputable def Z1m (a0 : Zi) : Option Bool := (Zagp a0).bind (endO Za4i)
abbrev Znb := Empty
def Za4j : Znb → Option (Znb ⊕ Bool) := fun s => nomatch s
def Zagq (a0 : Za2) : Option (Znb ⊕ Bool) :=
 bif (a0.Who != 0) then
 some (.inr false)
 else
 Option.bind (Z1m a0.Filter) fun x2 =>
 bif (!x2) then
 some (.inr false)
 else
 bif (a0.Do == 5) then
 bif (a0.N == 0) then
 bif (a0.Counter == 0) then
 bif (a0.Zone == 1) then
 some (.inr true)
 else
 bif (a0.Zone == 2) then
 some (.inr true)
 else
 some (.inr (a0.Zone == 4))
 else
 some (.inr false)
 else
 some (.inr false)
 else
 bif (a0.Do == 6) then
 bif (a0.N == 0) then
 bif (a0.Counter == 0) then
 some (.inr (a0.Zone == 0))
 else
 some (.inr false)
 else
 some (.inr false)
 else
 bif (a0.Do == 7) then
 bif (a0.Zone == 0) then
 bif decide (a0.N ≥ 1) then
 bif decide (a0.N ≤ 99) then
 bif decide (a0.Counter ≥ 0) then
 some (.inr (decide (a0.Counter < 3)))
 else
 some (.inr false)
 else
 some (.inr false)
 else
 some (.inr false)
 else
 some (.inr false)
 else
 some (.inr false)
noncomputable def Zae1 (a0 : Za2) : Option Bool := (Zagq a0).bind (endO Za4j)
abbrev Znc := Empty
def Za4k : Znc → Option (Znc ⊕ Bool) := fun s => nomatch s
def Zagr (a0 : Za2) : Option (Znc ⊕ Bool) :=
 bif (a0.Zone != 0) then
 some (.inr false)
 else
 bif (a0.Counter != 0) then
 some (.inr false)
 else
 bif (a0.Do == 2) then
 bif decide (a0.N ≥ 1) then
 some (.inr (decide (a0.N ≤ 99)))
 else
 some (.inr false)
 else
 bif (a0.Do == 4) then
 bif decide (a0.N ≥ 1) then
 some (.inr (decide (a0.N ≤ 99)))
 else
 some (.inr false)
 else
 some (.inr (a0.N == 0))
noncomputable def Zae2 (a0 : Za2) : Option Bool := (Zagr a0).bind (endO Za4k)
inductive Zkv where
 | L0 (E0 : Za2) (v3 : Bool) (v4 : Bool)
 | L1 (E0 : Za2) (v3 : Bool)
 | L2 (E0 : Za2) (v3 : Bool) (v4 : Bool) (v109 : Bool)
def Zwm (E0 : Za2) (v3 : Bool) (v4 : Bool) (v109 : Bool) : Option (Zkv ⊕ Bool) :=
 bif v109 then
 bif v4 then
 bif decide (E0.Who ≥ 0) then
 bif decide (E0.Who ≤ 2) then
 some (.inr v3)
 else
 some (.inr false)
 else
 some (.inr false)
 else
 some (.inr false)
 else
 some (.inr false)
def Zs1 (E0 : Za2) (v3 : Bool) : Option (Zkv ⊕ Bool) :=
 bif (E0.Who == 0) then
 Option.bind (Z1m E0.Filter) fun x2 =>
 bif x2 then
 some (.inr true)
 else
 bif (E0.Who == 1) then
 some (.inr v3)
 else
 bif (E0.Who == 2) then
 some (.inr v3)
 else
 some (.inr false)
 else
 bif (E0.Who == 1) then
 some (.inr v3)
 else
 bif (E0.Who == 2) then
 some (.inr v3)
 else
 some (.inr false)
def Zwn (E0 : Za2) (v3 : Bool) (v4 : Bool) : Option (Zkv ⊕ Bool) :=
 bif (E0.On == 1) then
 bif (E0.Do != 1) then
 bif (E0.Do != 2) then
 bif (E0.Do != 3) then
 bif (E0.Do != 4) then
 some (.inr false)
 else
 Zs1 E0 v3
 else
 Zs1 E0 v3
 else
 Zs1 E0 v3
 else
 Zs1 E0 v3
 else
 bif (E0.On == 8) then
 bif v4 then
 bif (E0.Who == 0) then
 Option.bind (Z1m E0.Filter) fun x9 =>
 some (.inr x9)
 else
 some (.inr false)
 else
 some (.inr false)
 else
 bif (E0.On == 3) then
 bif (E0.Do == 4) then
 bif decide (E0.Who ≥ 0) then
 bif decide (E0.Who ≤ 2) then
 some (.inr v3)
 else
 some (.inr false)
 else
 some (.inr false)
 else
 bif (E0.Do == 8) then
 bif decide (E0.Who ≥ 0) then
 bif decide (E0.Who ≤ 2) then
 some (.inr v3)
 else
 some (.inr false)
 else
 some (.inr false)
 else
 some (.inr false)
 else
 bif (E0.On == 4) then
 Zwm E0 v3 v4 (E0.On == 4)
 else
 bif (E0.On == 5) then
 Zwm E0 v3 v4 (E0.On == 5)
 else
 Zwm E0 v3 v4 (E0.On == 10)
def Zbh1 : Zkv → Option (Zkv ⊕ Bool)
 | .L0 E0 v3 v4 => Zwn E0 v3 v4
 | .L1 E0 v3 => Zs1 E0 v3
 | .L2 E0 v3 v4 v109 => Zwm E0 v3 v4 v109
def Zawn (a0 : Za2) : Option (Zkv ⊕ Bool) :=
 bif (a0.On == 2) then
 Option.bind (Zae1 a0) fun x2 =>
 some (.inr x2)
 else
 Option.bind (Zae2 a0) fun x4 =>
 bif (!x4) then
 some (.inr false)
 else
 bif (a0.Do == 3) then
 Zwn a0 (eqTs (Zx a0.Filter) (Zx (⟨0, 0, 0, 0, 0, 0, 0, ([] : List UInt8), 0, 0, (⟨0, 0⟩ : Ze), (⟨0, 0⟩ : Ze), (⟨0, 0⟩ : Ze)⟩ : Zi))) true
 else
 bif (a0.Do == 4) then
 Zwn a0 (eqTs (Zx a0.Filter) (Zx (⟨0, 0, 0, 0, 0, 0, 0, ([] : List UInt8), 0, 0, (⟨0, 0⟩ : Ze), (⟨0, 0⟩ : Ze), (⟨0, 0⟩ : Ze)⟩ : Zi))) true
 else
 Zwn a0 (eqTs (Zx a0.Filter) (Zx (⟨0, 0, 0, 0, 0, 0, 0, ([] : List UInt8), 0, 0, (⟨0, 0⟩ : Ze), (⟨0, 0⟩ : Ze), (⟨0, 0⟩ : Ze)⟩ : Zi))) (a0.Do == 8)
noncomputable def Zaz9 (a0 : Za2) : Option Bool := (Zawn a0).bind (endO Zbh1)
abbrev Zop := Empty
def Za8g : Zop → Option (Zop ⊕ Bool) := fun s => nomatch s
def Zaka (a0 : Zaj) : Option (Zop ⊕ Bool) :=
 bif (!a0.Object) then
 bif a0.Player then
 some (.inr (eqTs (Zx a0.Filter) (Zx (⟨0, 0, 0, 0, 0, 0, 0, ([] : List UInt8), 0, 0, (⟨0, 0⟩ : Ze), (⟨0, 0⟩ : Ze), (⟨0, 0⟩ : Ze)⟩ : Zi))))
 else
 some (.inr false)
 else
 Option.bind (Zqc a0.Filter) fun x3 =>
 bif x3 then
 bif (a0.Filter.Zone == 0) then
 some (.inr true)
 else
 bif (a0.Filter.Zone == 3) then
 some (.inr true)
 else
 some (.inr (a0.Filter.Zone == 5))
 else
 some (.inr false)
noncomputable def Zakb (a0 : Zaj) : Option Bool := (Zaka a0).bind (endO Za8g)
inductive Zke where
 | L0 (v0 : (List Zaj)) (v3 : Int)
def Z2q (v0 : (List Zaj)) (v3 : Int) : Option (Zke ⊕ Bool) :=
 bif decide (v3 < (v0.length : Int)) then
 Option.bind (idx? v0 v3) fun x3 =>
 Option.bind (Zakb x3) fun x5 =>
 bif (!x5) then
 some (.inr false)
 else
 some (.inl (.L0 v0 (IntKind.wrap .i64 (v3 + 1))))
 else
 some (.inr (decide ((v0.length : Int) ≤ 4)))
def Za4l : Zke → Option (Zke ⊕ Bool)
 | .L0 v0 v3 => Z2q v0 v3
def Zags (a0 : (List Zaj)) : Option (Zke ⊕ Bool) :=
 some (.inl (.L0 a0 0))
noncomputable def Zae3 (a0 : (List Zaj)) : Option Bool := (Zags a0).bind (endO Za4l)
abbrev Zoq := Empty
def Za8h : Zoq → Option (Zoq ⊕ (List UInt8)) := fun s => nomatch s
def Zakc (a0 : Int) : Option (Zoq ⊕ (List UInt8)) :=
 bif decide (a0 < 1) then
 some (.inr ([] : List UInt8))
 else
 bif decide (a0 > 26) then
 some (.inr ([] : List UInt8))
 else
 Option.bind (idx? [([100, 97, 109, 97, 103, 101] : List UInt8), ([100, 101, 115, 116, 114, 111, 121] : List UInt8), ([109, 111, 118, 101] : List UInt8), ([100, 114, 97, 119] : List UInt8), ([100, 105, 115, 99, 97, 114, 100] : List UInt8), ([103, 97, 105, 110] : List UInt8), ([108, 111, 115, 101] : List UInt8), ([116, 97, 112] : List UInt8), ([117, 110, 116, 97, 112] : List UInt8), ([112, 117, 116] : List UInt8), ([116, 97, 107, 101] : List UInt8), ([99, 114, 101, 97, 116, 101] : List UInt8), ([109, 111, 100] : List UInt8), ([109, 97, 110, 97] : List UInt8), ([99, 111, 117, 110, 116, 101, 114] : List UInt8), ([99, 111, 112, 121] : List UInt8), ([98, 101, 99, 111, 109, 101] : List UInt8), ([115, 97, 99, 114, 105, 102, 105, 99, 101] : List UInt8), ([109, 105, 108, 108] : List UInt8), ([115, 99, 114, 121] : List UInt8), ([115, 101, 97, 114, 99, 104] : List UInt8), ([115, 104, 105, 101, 108, 100] : List UInt8), ([116, 117, 114, 110] : List UInt8), ([119, 105, 110] : List UInt8), ([100, 101, 102, 101, 97, 116] : List UInt8), ([118, 101, 110, 111, 109] : List UInt8)] (IntKind.wrap .i64 (a0 - 1))) fun x6 =>
 some (.inr x6)
noncomputable def Zakd (a0 : Int) : Option (List UInt8) := (Zakc a0).bind (endO Za8h)
inductive Zjm where
 | L0 (v3 : Int) (v4 : Bool)
 | L1 (v3 : Int) (v14 : Bool)
def Zu2 (v3 : Int) (v14 : Bool) : Option (Zjm ⊕ (List UInt8)) :=
 bif v14 then
 some (.inr ([114, 107, 97] : List UInt8))
 else
 bif (v3 == 12) then
 some (.inr ([114, 99, 97] : List UInt8))
 else
 bif (v3 == 13) then
 some (.inr ([114, 109] : List UInt8))
 else
 bif (v3 == 14) then
 some (.inr ([112] : List UInt8))
 else
 bif (v3 == 18) then
 some (.inr ([114, 97, 102] : List UInt8))
 else
 bif (v3 == 20) then
 some (.inr ([97] : List UInt8))
 else
 bif (v3 == 21) then
 some (.inr ([102] : List UInt8))
 else
 bif (v3 == 23) then
 some (.inr ([] : List UInt8))
 else
 bif (v3 == 24) then
 some (.inr ([] : List UInt8))
 else
 some (.inr ([114, 97] : List UInt8))
def Zkf (v3 : Int) (v4 : Bool) : Option (Zjm ⊕ (List UInt8)) :=
 bif v4 then
 some (.inr ([114] : List UInt8))
 else
 bif (v3 == 3) then
 some (.inr ([114, 122] : List UInt8))
 else
 bif (v3 == 10) then
 Zu2 v3 (v3 == 10)
 else
 Zu2 v3 (v3 == 11)
def Za8i : Zjm → Option (Zjm ⊕ (List UInt8))
 | .L0 v3 v4 => Zkf v3 v4
 | .L1 v3 v14 => Zu2 v3 v14
def Zake (a0 : Int) : Option (Zjm ⊕ (List UInt8)) :=
 bif (a0 == 2) then
 Zkf a0 (a0 == 2)
 else
 bif (a0 == 8) then
 Zkf a0 (a0 == 8)
 else
 bif (a0 == 9) then
 Zkf a0 (a0 == 9)
 else
 bif (a0 == 15) then
 Zkf a0 (a0 == 15)
 else
 bif (a0 == 16) then
 Zkf a0 (a0 == 16)
 else
 bif (a0 == 17) then
 Zkf a0 (a0 == 17)
 else
 Zkf a0 (a0 == 25)
noncomputable def Zakf (a0 : Int) : Option (List UInt8) := (Zake a0).bind (endO Za8i)
inductive Zlp where
 | L0 (v1 : Int) (v5 : (List UInt8)) (v6 : Int)
def Z6s (v1 : Int) (v5 : (List UInt8)) (v6 : Int) : Option (Zlp ⊕ Bool) :=
 bif decide (v6 < (v5.length : Int)) then
 Option.bind (idx? v5 v6) fun x3 =>
 bif ((UInt8.toNat x3 : Int) == v1) then
 some (.inr true)
 else
 some (.inl (.L0 v1 v5 (IntKind.wrap .i64 (v6 + 1))))
 else
 some (.inr false)
def Za8j : Zlp → Option (Zlp ⊕ Bool)
 | .L0 v1 v5 v6 => Z6s v1 v5 v6
def Zakg (a0 : Int) (a1 : Int) : Option (Zlp ⊕ Bool) :=
 Option.bind (Zakf a0) fun x1 =>
 some (.inl (.L0 a1 x1 0))
noncomputable def Zpk (a0 : Int) (a1 : Int) : Option Bool := (Zakg a0 a1).bind (endO Za8j)
abbrev Zjn := Empty
def Zas0 : Zjn → Option (Zjn ⊕ Bool) := fun s => nomatch s
def Z5f (a0 : Int) : Option (Zjn ⊕ Bool) :=
 bif (a0 == 3) then
 some (.inr true)
 else
 some (.inr (a0 == 8))
noncomputable def Z2r (a0 : Int) : Option Bool := (Z5f a0).bind (endO Zas0)
inductive Zmt where
 | L0 (v1 : Int) (E0 : Zgp)
 | L1 (E0 : Zgp)
def Z1n (E0 : Zgp) : Option (Zmt ⊕ Bool) :=
 bif (E0.Kind == 4) then
 Option.bind (Zqc E0.Filter) fun x2 =>
 some (.inr x2)
 else
 some (.inr (eqTs (Zx E0.Filter) (Zx (⟨0, 0, 0, 0, 0, 0, 0, ([] : List UInt8), 0, 0, (⟨0, 0⟩ : Ze), (⟨0, 0⟩ : Ze), (⟨0, 0⟩ : Ze)⟩ : Zi))))
def Z1o (v1 : Int) (E0 : Zgp) : Option (Zmt ⊕ Bool) :=
 bif decide (E0.Kind < 1) then
 some (.inr false)
 else
 bif decide (E0.Kind > 8) then
 some (.inr false)
 else
 Option.bind (Z2r E0.Kind) fun x3 =>
 bif x3 then
 bif decide (E0.N < 1) then
 some (.inr false)
 else
 bif decide (E0.N > v1) then
 some (.inr false)
 else
 Z1n E0
 else
 bif (E0.N != 0) then
 some (.inr false)
 else
 Z1n E0
def Zbh2 : Zmt → Option (Zmt ⊕ Bool)
 | .L0 v1 E0 => Z1o v1 E0
 | .L1 E0 => Z1n E0
def Zawo (a0 : Zgp) (a1 : Int) : Option (Zmt ⊕ Bool) :=
 bif decide (a1 > 4) then
 Z1o 4 a0
 else
 Z1o a1 a0
noncomputable def Za0a (a0 : Zgp) (a1 : Int) : Option Bool := (Zawo a0 a1).bind (endO Zbh2)
abbrev Zor := Empty
def Za8k : Zor → Option (Zor ⊕ (List UInt8)) := fun s => nomatch s
def Zakh (a0 : Int) : Option (Zor ⊕ (List UInt8)) :=
 bif (a0 == 0) then
 some (.inr ([112, 108, 117, 115] : List UInt8))
 else
 bif (a0 == 1) then
 some (.inr ([109, 105, 110, 117, 115] : List UInt8))
 else
 bif (a0 == 2) then
 some (.inr ([99, 104, 97, 114, 103, 101] : List UInt8))
 else
 some (.inr ([] : List UInt8))
noncomputable def Zabo (a0 : Int) : Option (List UInt8) := (Zakh a0).bind (endO Za8k)
abbrev Ztg := Empty
def Zbh3 : Ztg → Option (Ztg ⊕ Bool) := fun s => nomatch s
def Zawp (a0 : Zd3) : Option (Ztg ⊕ Bool) :=
 bif (a0.Kind == 0) then
 bif decide (a0.N < 0) then
 some (.inr false)
 else
 bif decide (a0.N > 1000000) then
 some (.inr false)
 else
 bif decide (a0.Kind ≥ 0) then
 bif decide (a0.Kind ≤ 7) then
 some (.inr (eqTs (Zb2 (⟨a0.Kind, 0, a0.Counter, a0.Filter⟩ : Zd3)) (Zb2 (⟨a0.Kind, 0, 0, (⟨0, 0, 0, 0, 0, 0, 0, ([] : List UInt8), 0, 0, (⟨0, 0⟩ : Ze), (⟨0, 0⟩ : Ze), (⟨0, 0⟩ : Ze)⟩ : Zi)⟩ : Zd3))))
 else
 some (.inr false)
 else
 some (.inr false)
 else
 bif (a0.Kind == 2) then
 bif decide (a0.N < 1) then
 some (.inr false)
 else
 bif decide (a0.N > 99) then
 some (.inr false)
 else
 Option.bind (Zqc a0.Filter) fun x9 =>
 bif (!x9) then
 some (.inr false)
 else
 bif decide (a0.Kind ≥ 0) then
 bif decide (a0.Kind ≤ 7) then
 some (.inr (eqTs (Zb2 (⟨a0.Kind, 0, a0.Counter, (⟨0, 0, 0, 0, 0, 0, 0, ([] : List UInt8), 0, 0, (⟨0, 0⟩ : Ze), (⟨0, 0⟩ : Ze), (⟨0, 0⟩ : Ze)⟩ : Zi)⟩ : Zd3)) (Zb2 (⟨a0.Kind, 0, 0, (⟨0, 0, 0, 0, 0, 0, 0, ([] : List UInt8), 0, 0, (⟨0, 0⟩ : Ze), (⟨0, 0⟩ : Ze), (⟨0, 0⟩ : Ze)⟩ : Zi)⟩ : Zd3))))
 else
 some (.inr false)
 else
 some (.inr false)
 else
 bif (a0.Kind == 4) then
 Option.bind (Zabo a0.Counter) fun x15 =>
 bif (x15 == ([] : List UInt8)) then
 some (.inr false)
 else
 bif decide (a0.Kind ≥ 0) then
 bif decide (a0.Kind ≤ 7) then
 some (.inr (eqTs (Zb2 (⟨a0.Kind, a0.N, 0, a0.Filter⟩ : Zd3)) (Zb2 (⟨a0.Kind, 0, 0, (⟨0, 0, 0, 0, 0, 0, 0, ([] : List UInt8), 0, 0, (⟨0, 0⟩ : Ze), (⟨0, 0⟩ : Ze), (⟨0, 0⟩ : Ze)⟩ : Zi)⟩ : Zd3))))
 else
 some (.inr false)
 else
 some (.inr false)
 else
 bif decide (a0.Kind ≥ 0) then
 bif decide (a0.Kind ≤ 7) then
 some (.inr (eqTs (Zb2 a0) (Zb2 (⟨a0.Kind, 0, 0, (⟨0, 0, 0, 0, 0, 0, 0, ([] : List UInt8), 0, 0, (⟨0, 0⟩ : Ze), (⟨0, 0⟩ : Ze), (⟨0, 0⟩ : Ze)⟩ : Zi)⟩ : Zd3))))
 else
 some (.inr false)
 else
 some (.inr false)
noncomputable def Za0b (a0 : Zd3) : Option Bool := (Zawp a0).bind (endO Zbh3)
abbrev Zos := Empty
def Za8l : Zos → Option (Zos ⊕ Bool) := fun s => nomatch s
def Zaki (a0 : (List Zh)) : Option (Zos ⊕ Bool) :=
 Option.bind (Zrp a0) fun x1 =>
 some (.inr (!(x1 == ([] : List UInt8))))
noncomputable def Zakj (a0 : (List Zh)) : Option Bool := (Zaki a0).bind (endO Za8l)
inductive Zlq where
 | L0 (E0 : (A6 Int)) (E1 : Zai) (E2 : Zai) (v4 : Int)
def Z6t (E0 : (A6 Int)) (E1 : Zai) (E2 : Zai) (v4 : Int) : Option (Zlq ⊕ Zai) :=
 bif decide (v4 < 5) then
 Option.bind (idx? (A6.list E0) (IntKind.wrap .i64 (v4 + 1))) fun x4 =>
 Option.bind (idx? (A5.list E2.Color) v4) fun x6 =>
 Option.bind (A5.set? E2.Color v4 x4) fun x8 =>
 some (.inl (.L0 E0 E1 (⟨E2.Generic, E2.X, x8⟩ : Zai) (IntKind.wrap .i64 (v4 + 1))))
 else
 some (.inr E2)
def Za8m : Zlq → Option (Zlq ⊕ Zai)
 | .L0 E0 E1 E2 v4 => Z6t E0 E1 E2 v4
def Zakk (a0 : (A6 Int)) : Option (Zlq ⊕ Zai) :=
 Option.bind (idx? (A6.list a0) 0) fun x1 =>
 some (.inl (.L0 a0 (⟨0, 0, (⟨0, 0, 0, 0, 0⟩ : (A5 Int))⟩ : Zai) (⟨x1, 0, (⟨0, 0, 0, 0, 0⟩ : (A5 Int))⟩ : Zai) 0))
noncomputable def Zakl (a0 : (A6 Int)) : Option Zai := (Zakk a0).bind (endO Za8m)
inductive Zhq where
 | L0 (E0 : Zai) (v3 : (List UInt8)) (v4 : Int)
 | L1 (E0 : Zai) (v3 : (List UInt8)) (v5 : Int)
 | L2 (E0 : Zai) (v3 : (List UInt8)) (v5 : Int) (v6 : Int)
def Z6u (E0 : Zai) (v3 : (List UInt8)) (v4 : Int) : Option (Zhq ⊕ (List UInt8)) :=
 bif decide (v4 < E0.X) then
 Option.bind (ok? (decide (v3.length + ([88] : List UInt8).length ≤ 9223372036854775807))) fun x2 =>
 some (.inl (.L0 E0 (v3 ++ ([88] : List UInt8)) (IntKind.wrap .i64 (v4 + 1))))
 else
 bif (E0.Generic != 0) then
 Option.bind (Ztf E0.Generic) fun x7 =>
 Option.bind (ok? (decide (v3.length + x7.length ≤ 9223372036854775807))) fun x10 =>
 some (.inl (.L1 E0 (v3 ++ x7) 0))
 else
 some (.inl (.L1 E0 v3 0))
def Z6v (E0 : Zai) (v3 : (List UInt8)) (v5 : Int) : Option (Zhq ⊕ (List UInt8)) :=
 bif decide (v5 < 5) then
 some (.inl (.L2 E0 v3 v5 0))
 else
 bif (v3 == ([] : List UInt8)) then
 some (.inr ([48] : List UInt8))
 else
 some (.inr v3)
def Z6w (E0 : Zai) (v3 : (List UInt8)) (v5 : Int) (v6 : Int) : Option (Zhq ⊕ (List UInt8)) :=
 Option.bind (idx? (A5.list E0.Color) v5) fun x1 =>
 bif decide (v6 < x1) then
 Option.bind (slice? ([65, 67, 74, 82, 69] : List UInt8) v5 (IntKind.wrap .i64 (v5 + 1))) fun x6 =>
 Option.bind (ok? (decide (v3.length + x6.length ≤ 9223372036854775807))) fun x8 =>
 some (.inl (.L2 E0 (v3 ++ x6) v5 (IntKind.wrap .i64 (v6 + 1))))
 else
 some (.inl (.L1 E0 v3 (IntKind.wrap .i64 (v5 + 1))))
def Za8n : Zhq → Option (Zhq ⊕ (List UInt8))
 | .L0 E0 v3 v4 => Z6u E0 v3 v4
 | .L1 E0 v3 v5 => Z6v E0 v3 v5
 | .L2 E0 v3 v5 v6 => Z6w E0 v3 v5 v6
def Zakm (a0 : Zai) : Option (Zhq ⊕ (List UInt8)) :=
 Option.bind (Zabg a0) fun x1 =>
 bif (!x1) then
 some (.inr ([] : List UInt8))
 else
 some (.inl (.L0 a0 ([] : List UInt8) 0))
noncomputable def Zakn (a0 : Zai) : Option (List UInt8) := (Zakm a0).bind (endO Za8n)
abbrev Zjo := Empty
def Zas1 : Zjo → Option (Zjo ⊕ (List UInt8)) := fun s => nomatch s
def Z5g (a0 : (A6 Int)) : Option (Zjo ⊕ (List UInt8)) :=
 Option.bind (Zakl a0) fun x1 =>
 Option.bind (Zakn x1) fun x3 =>
 some (.inr x3)
noncomputable def Z2s (a0 : (A6 Int)) : Option (List UInt8) := (Z5g a0).bind (endO Zas1)
abbrev Zlr := Empty
def Za0c : Zlr → Option (Zlr ⊕ Bool) := fun s => nomatch s
def Zabp (a0 : Int) (a1 : Zi) : Option (Zlr ⊕ Bool) :=
 bif (a0 == 21) then
 Option.bind (Zqc a1) fun x2 =>
 bif x2 then
 some (.inr (a1.Zone == 2))
 else
 some (.inr false)
 else
 Option.bind (Zqc a1) fun x5 =>
 bif x5 then
 some (.inr (a1.Zone == 0))
 else
 some (.inr false)
noncomputable def Zaac (a0 : Int) (a1 : Zi) : Option Bool := (Zabp a0 a1).bind (endO Za0c)
inductive Zfi where
 | L0 (E0 : Zk) (v5 : Bool)
 | L1 (E0 : Zk) (v5 : Bool) (v6 : Bool)
 | L2 (E0 : Zk) (v5 : Bool) (v6 : Bool) (v7 : Bool)
 | L3 (E0 : Zk) (v5 : Bool) (v6 : Bool) (v7 : Bool) (v8 : Bool)
 | L4 (E0 : Zk) (v5 : Bool) (v6 : Bool) (v7 : Bool) (v8 : Bool) (v9 : Bool)
 | L5 (E0 : Zk) (v5 : Bool) (v6 : Bool) (v7 : Bool) (v8 : Bool) (v9 : Bool) (v10 : Bool)
 | L6 (E0 : Zk) (v5 : Bool) (v6 : Bool) (v7 : Bool) (v8 : Bool) (v9 : Bool) (v10 : Bool) (v11 : Bool)
 | L7 (v5 : Bool) (v6 : Bool) (v7 : Bool) (v8 : Bool) (v9 : Bool) (v10 : Bool) (v11 : Bool) (v12 : Bool)
def Z1p (v5 : Bool) (v6 : Bool) (v7 : Bool) (v8 : Bool) (v9 : Bool) (v10 : Bool) (v11 : Bool) (v12 : Bool) : Option (Zfi ⊕ Bool) :=
 bif v5 then
 bif v6 then
 bif v7 then
 bif v8 then
 bif v9 then
 bif v10 then
 bif v11 then
 some (.inr v12)
 else
 some (.inr false)
 else
 some (.inr false)
 else
 some (.inr false)
 else
 some (.inr false)
 else
 some (.inr false)
 else
 some (.inr false)
 else
 some (.inr false)
def Zwo (E0 : Zk) (v5 : Bool) (v6 : Bool) (v7 : Bool) (v8 : Bool) (v9 : Bool) (v10 : Bool) (v11 : Bool) : Option (Zfi ⊕ Bool) :=
 Option.bind (Zpk E0.Op 102) fun x1 =>
 bif x1 then
 Option.bind (Zaac E0.Op E0.Filter) fun x4 =>
 Z1p v5 v6 v7 v8 v9 v10 v11 x4
 else
 Z1p v5 v6 v7 v8 v9 v10 v11 (eqTs (Zx E0.Filter) (Zx (⟨0, 0, 0, 0, 0, 0, 0, ([] : List UInt8), 0, 0, (⟨0, 0⟩ : Ze), (⟨0, 0⟩ : Ze), (⟨0, 0⟩ : Ze)⟩ : Zi)))
def Z1q (E0 : Zk) (v5 : Bool) (v6 : Bool) (v7 : Bool) (v8 : Bool) (v9 : Bool) (v10 : Bool) : Option (Zfi ⊕ Bool) :=
 Option.bind (Zpk E0.Op 112) fun x1 =>
 bif x1 then
 bif (!(eqTs ((cA6 (cI .i64)) E0.Pool) ((cA6 (cI .i64)) (⟨0, 0, 0, 0, 0, 0⟩ : (A6 Int))))) then
 Option.bind (Z2s E0.Pool) fun x5 =>
 Zwo E0 v5 v6 v7 v8 v9 v10 (!(x5 == ([] : List UInt8)))
 else
 Zwo E0 v5 v6 v7 v8 v9 v10 false
 else
 Zwo E0 v5 v6 v7 v8 v9 v10 (eqTs ((cA6 (cI .i64)) E0.Pool) ((cA6 (cI .i64)) (⟨0, 0, 0, 0, 0, 0⟩ : (A6 Int))))
def Z1r (E0 : Zk) (v5 : Bool) (v6 : Bool) (v7 : Bool) (v8 : Bool) (v9 : Bool) : Option (Zfi ⊕ Bool) :=
 Option.bind (Zpk E0.Op 109) fun x2 =>
 bif x2 then
 Option.bind (Zakj E0.Mods) fun x5 =>
 Z1q E0 v5 v6 v7 v8 v9 x5
 else
 Z1q E0 v5 v6 v7 v8 v9 ((E0.Mods.length : Int) == 0)
def Z1s (E0 : Zk) (v5 : Bool) (v6 : Bool) (v7 : Bool) (v8 : Bool) : Option (Zfi ⊕ Bool) :=
 Option.bind (Zpk E0.Op 97) fun x1 =>
 bif x1 then
 Option.bind (Za0b E0.Amount) fun x4 =>
 Z1r E0 v5 v6 v7 v8 x4
 else
 Z1r E0 v5 v6 v7 v8 (eqTs (Zb2 E0.Amount) (Zb2 (⟨0, 0, 0, (⟨0, 0, 0, 0, 0, 0, 0, ([] : List UInt8), 0, 0, (⟨0, 0⟩ : Ze), (⟨0, 0⟩ : Ze), (⟨0, 0⟩ : Ze)⟩ : Zi)⟩ : Zd3)))
def Zwp (E0 : Zk) (v5 : Bool) (v6 : Bool) (v7 : Bool) : Option (Zfi ⊕ Bool) :=
 Option.bind (Zpk E0.Op 99) fun x1 =>
 bif x1 then
 Option.bind (Zain E0.Card) fun x4 =>
 Z1s E0 v5 v6 v7 x4
 else
 Z1s E0 v5 v6 v7 (E0.Card == ([] : List UInt8))
def Zs2 (E0 : Zk) (v5 : Bool) (v6 : Bool) : Option (Zfi ⊕ Bool) :=
 bif (E0.Counter == 0) then
 Zwp E0 v5 v6 true
 else
 Option.bind (Zpk E0.Op 107) fun x2 =>
 bif x2 then
 Option.bind (Zabo E0.Counter) fun x5 =>
 Zwp E0 v5 v6 (!(x5 == ([] : List UInt8)))
 else
 Zwp E0 v5 v6 false
def Z1t (E0 : Zk) (v5 : Bool) : Option (Zfi ⊕ Bool) :=
 bif (E0.Zone == 0) then
 Zs2 E0 v5 true
 else
 Option.bind (Zpk E0.Op 122) fun x2 =>
 bif x2 then
 bif decide (E0.Zone > 0) then
 Zs2 E0 v5 (decide (E0.Zone ≤ 4))
 else
 Zs2 E0 v5 false
 else
 Zs2 E0 v5 false
def Zbh4 : Zfi → Option (Zfi ⊕ Bool)
 | .L0 E0 v5 => Z1t E0 v5
 | .L1 E0 v5 v6 => Zs2 E0 v5 v6
 | .L2 E0 v5 v6 v7 => Zwp E0 v5 v6 v7
 | .L3 E0 v5 v6 v7 v8 => Z1s E0 v5 v6 v7 v8
 | .L4 E0 v5 v6 v7 v8 v9 => Z1r E0 v5 v6 v7 v8 v9
 | .L5 E0 v5 v6 v7 v8 v9 v10 => Z1q E0 v5 v6 v7 v8 v9 v10
 | .L6 E0 v5 v6 v7 v8 v9 v10 v11 => Zwo E0 v5 v6 v7 v8 v9 v10 v11
 | .L7 v5 v6 v7 v8 v9 v10 v11 v12 => Z1p v5 v6 v7 v8 v9 v10 v11 v12
def Zawq (a0 : Zk) (a1 : Int) : Option (Zfi ⊕ Bool) :=
 Option.bind (Zakd a0.Op) fun x1 =>
 bif (x1 == ([] : List UInt8)) then
 some (.inr false)
 else
 Option.bind (Zpk a0.Op 114) fun x4 =>
 bif x4 then
 Option.bind (Za0a a0.Ref a1) fun x7 =>
 Z1t a0 x7
 else
 Z1t a0 (eqTs (Zfk a0.Ref) (Zfk (⟨0, 0, (⟨0, 0, 0, 0, 0, 0, 0, ([] : List UInt8), 0, 0, (⟨0, 0⟩ : Ze), (⟨0, 0⟩ : Ze), (⟨0, 0⟩ : Ze)⟩ : Zi)⟩ : Zgp)))
noncomputable def Za0d (a0 : Zk) (a1 : Int) : Option Bool := (Zawq a0 a1).bind (endO Zbh4)
inductive Zhx where
 | L0 (v0 : (List Zk)) (v1 : Int) (v5 : Int)
def Zx7 (v0 : (List Zk)) (v1 : Int) (v5 : Int) : Option (Zhx ⊕ Bool) :=
 bif decide (v5 < (v0.length : Int)) then
 Option.bind (idx? v0 v5) fun x3 =>
 Option.bind (Za0d x3 v1) fun x5 =>
 bif (!x5) then
 some (.inr false)
 else
 some (.inl (.L0 v0 v1 (IntKind.wrap .i64 (v5 + 1))))
 else
 bif decide ((v0.length : Int) ≥ 1) then
 some (.inr (decide ((v0.length : Int) ≤ 8)))
 else
 some (.inr false)
def Zawr : Zhx → Option (Zhx ⊕ Bool)
 | .L0 v0 v1 v5 => Zx7 v0 v1 v5
def Z8b (a0 : (List Zk)) (a1 : Int) : Option (Zhx ⊕ Bool) :=
 some (.inl (.L0 a0 a1 0))
noncomputable def Z6x (a0 : (List Zk)) (a1 : Int) : Option Bool := (Z8b a0 a1).bind (endO Zawr)
inductive Zhr where
 | L0 (E0 : Zs) (v3 : Bool)
 | L1 (E0 : Zs) (v3 : Bool)
 | L2 (E0 : Zs) (v3 : Bool)
 | L3 (E0 : Zs) (v3 : Bool)
 | L4 (E0 : Zs) (v3 : Bool)
def Z1u (E0 : Zs) (v3 : Bool) : Option (Zhr ⊕ Bool) :=
 bif v3 then
 Option.bind (Zae3 E0.Specs) fun x2 =>
 bif x2 then
 Option.bind (Z6x E0.Effects (E0.Specs.length : Int)) fun x6 =>
 some (.inr x6)
 else
 some (.inr false)
 else
 bif ((E0.Specs.length : Int) == 0) then
 some (.inr ((E0.Effects.length : Int) == 0))
 else
 some (.inr false)
def Z1v (E0 : Zs) (v3 : Bool) : Option (Zhr ⊕ Bool) :=
 bif (E0.Kind == 5) then
 Option.bind (Zaz9 E0.Replace) fun x2 =>
 bif (!x2) then
 some (.inr false)
 else
 Z1u E0 v3
 else
 bif (!(eqTs (Zbw E0.Replace) (Zbw (⟨0, 0, (⟨0, 0, 0, 0, 0, 0, 0, ([] : List UInt8), 0, 0, (⟨0, 0⟩ : Ze), (⟨0, 0⟩ : Ze), (⟨0, 0⟩ : Ze)⟩ : Zi), 0, 0, 0, 0⟩ : Za2)))) then
 some (.inr false)
 else
 Z1u E0 v3
def Z1w (E0 : Zs) (v3 : Bool) : Option (Zhr ⊕ Bool) :=
 bif (E0.Kind == 4) then
 Option.bind (Zaz8 E0.Trigger) fun x2 =>
 bif (!x2) then
 some (.inr false)
 else
 Z1v E0 v3
 else
 bif (!(eqTs (Zc4 E0.Trigger) (Zc4 (⟨0, 0, (⟨0, 0, 0, 0, 0, 0, 0, ([] : List UInt8), 0, 0, (⟨0, 0⟩ : Ze), (⟨0, 0⟩ : Ze), (⟨0, 0⟩ : Ze)⟩ : Zi)⟩ : Zdk)))) then
 some (.inr false)
 else
 bif E0.May then
 some (.inr false)
 else
 Z1v E0 v3
def Z1x (E0 : Zs) (v3 : Bool) : Option (Zhr ⊕ Bool) :=
 bif (E0.Kind == 3) then
 Option.bind (Zae0 E0.Price) fun x2 =>
 bif (!x2) then
 some (.inr false)
 else
 Z1w E0 v3
 else
 bif (!(eqTs (Ze2 E0.Price) (Ze2 (⟨(⟨0, 0, (⟨0, 0, 0, 0, 0⟩ : (A5 Int))⟩ : Zai), false, false, 0⟩ : Zii)))) then
 some (.inr false)
 else
 bif E0.Slow then
 some (.inr false)
 else
 Z1w E0 v3
def Zwq (E0 : Zs) (v3 : Bool) : Option (Zhr ⊕ Bool) :=
 bif (E0.Kind == 1) then
 Option.bind (Zqc E0.Filter) fun x2 =>
 bif (!x2) then
 some (.inr false)
 else
 bif (E0.Filter.Zone != 0) then
 some (.inr false)
 else
 Option.bind (Zrp E0.Mods) fun x6 =>
 bif (x6 == ([] : List UInt8)) then
 some (.inr false)
 else
 Z1x E0 v3
 else
 bif (!(eqTs (Zx E0.Filter) (Zx (⟨0, 0, 0, 0, 0, 0, 0, ([] : List UInt8), 0, 0, (⟨0, 0⟩ : Ze), (⟨0, 0⟩ : Ze), (⟨0, 0⟩ : Ze)⟩ : Zi)))) then
 some (.inr false)
 else
 bif decide ((E0.Mods.length : Int) > 0) then
 some (.inr false)
 else
 Z1x E0 v3
def Zbh5 : Zhr → Option (Zhr ⊕ Bool)
 | .L0 E0 v3 => Zwq E0 v3
 | .L1 E0 v3 => Z1x E0 v3
 | .L2 E0 v3 => Z1w E0 v3
 | .L3 E0 v3 => Z1v E0 v3
 | .L4 E0 v3 => Z1u E0 v3
def Zaws (a0 : Zs) : Option (Zhr ⊕ Bool) :=
 bif decide (a0.Kind < 1) then
 some (.inr false)
 else
 bif decide (a0.Kind > 5) then
 some (.inr false)
 else
 bif (a0.Kind == 2) then
 Zwq a0 true
 else
 bif (a0.Kind == 3) then
 Zwq a0 true
 else
 Zwq a0 (a0.Kind == 4)
noncomputable def Zabq (a0 : Zs) : Option Bool := (Zaws a0).bind (endO Zbh5)
abbrev Zot := Empty
def Za8o : Zot → Option (Zot ⊕ Bool) := fun s => nomatch s
def Zako (a0 : Zw) : Option (Zot ⊕ Bool) :=
 bif (a0.Line.Types == 2) then
 some (.inr true)
 else
 some (.inr (a0.Line.Types == 4))
noncomputable def Zakp (a0 : Zw) : Option Bool := (Zako a0).bind (endO Za8o)
inductive Zmu where
 | L0 (E0 : Zw)
 | L1 (E0 : Zw) (v3 : Int) (v4 : Int)
def Z1y (E0 : Zw) : Option (Zmu ⊕ Bool) :=
 some (.inl (.L1 E0 0 0))
def Zae4 (E0 : Zw) (v3 : Int) (v4 : Int) : Option (Zmu ⊕ Bool) :=
 bif decide (v4 < (E0.Abilities.length : Int)) then
 Option.bind (idx? E0.Abilities v4) fun x3 =>
 Option.bind (Zabq x3) fun x5 =>
 bif (!x5) then
 some (.inr false)
 else
 bif (x3.Kind == 2) then
 some (.inl (.L1 E0 (IntKind.wrap .i64 (v3 + 1)) (IntKind.wrap .i64 (v4 + 1))))
 else
 some (.inl (.L1 E0 v3 (IntKind.wrap .i64 (v4 + 1))))
 else
 Option.bind (Zakp E0) fun x15 =>
 bif x15 then
 bif (!E0.Token) then
 bif (E0.Keys == 0) then
 bif ((E0.Abilities.length : Int) == 1) then
 some (.inr (v3 == 1))
 else
 some (.inr false)
 else
 some (.inr false)
 else
 some (.inr false)
 else
 bif (v3 == 0) then
 bif (!E0.Token) then
 bif ((Zzn .and .i64 E0.Line.Types 32) == 0) then
 some (.inr true)
 else
 some (.inr (eqTs (Zd2 E0.Cost) (Zd2 (⟨0, 0, (⟨0, 0, 0, 0, 0⟩ : (A5 Int))⟩ : Zai))))
 else
 some (.inr (eqTs (Zd2 E0.Cost) (Zd2 (⟨0, 0, (⟨0, 0, 0, 0, 0⟩ : (A5 Int))⟩ : Zai))))
 else
 some (.inr false)
def Zbh6 : Zmu → Option (Zmu ⊕ Bool)
 | .L0 E0 => Z1y E0
 | .L1 E0 v3 v4 => Zae4 E0 v3 v4
def Zawt (a0 : Zw) : Option (Zmu ⊕ Bool) :=
 Option.bind (Zain a0.Name) fun x1 =>
 bif (!x1) then
 some (.inr false)
 else
 Option.bind (Zabg a0.Cost) fun x4 =>
 bif (!x4) then
 some (.inr false)
 else
 Option.bind (Zaz4 a0.Line) fun x7 =>
 bif (!x7) then
 some (.inr false)
 else
 Option.bind (Zao3 a0.Keys) fun x10 =>
 bif (!x10) then
 some (.inr false)
 else
 bif decide (a0.Color < 0) then
 some (.inr false)
 else
 bif decide (a0.Color > 31) then
 some (.inr false)
 else
 bif decide (a0.Power < 0) then
 some (.inr false)
 else
 bif decide (a0.Power > 99) then
 some (.inr false)
 else
 bif decide (a0.Tough < 0) then
 some (.inr false)
 else
 bif decide (a0.Tough > 99) then
 some (.inr false)
 else
 Option.bind (Z2g a0) fun x19 =>
 bif (!x19) then
 bif (a0.Power != 0) then
 some (.inr false)
 else
 bif (a0.Tough != 0) then
 some (.inr false)
 else
 bif decide ((a0.Abilities.length : Int) > 8) then
 some (.inr false)
 else
 Z1y a0
 else
 bif decide ((a0.Abilities.length : Int) > 8) then
 some (.inr false)
 else
 Z1y a0
noncomputable def Za0e (a0 : Zw) : Option Bool := (Zawt a0).bind (endO Zbh6)
inductive Zls where
 | L0 (v0 : (List Zw)) (v1 : (List UInt8)) (v5 : Int)
def Z6y (v0 : (List Zw)) (v1 : (List UInt8)) (v5 : Int) : Option (Zls ⊕ Int) :=
 bif decide (v5 < (v0.length : Int)) then
 Option.bind (idx? v0 v5) fun x3 =>
 bif (x3.Name == v1) then
 some (.inr v5)
 else
 some (.inl (.L0 v0 v1 (IntKind.wrap .i64 (v5 + 1))))
 else
 some (.inr (-1))
def Za8p : Zls → Option (Zls ⊕ Int)
 | .L0 v0 v1 v5 => Z6y v0 v1 v5
def Zakq (a0 : (List Zw)) (a1 : (List UInt8)) : Option (Zls ⊕ Int) :=
 some (.inl (.L0 a0 a1 0))
noncomputable def Zakr (a0 : (List Zw)) (a1 : (List UInt8)) : Option Int := (Zakq a0 a1).bind (endO Za8p)
inductive Zkg where
 | L0 (v0 : (List Zw)) (v1 : (List UInt8)) (v5 : Int)
def Z2t (v0 : (List Zw)) (v1 : (List UInt8)) (v5 : Int) : Option (Zkg ⊕ Bool) :=
 bif decide (v5 < (v0.length : Int)) then
 Option.bind (idx? v0 v5) fun x3 =>
 bif (x3.Name == v1) then
 bif x3.Token then
 some (.inr true)
 else
 some (.inl (.L0 v0 v1 (IntKind.wrap .i64 (v5 + 1))))
 else
 some (.inl (.L0 v0 v1 (IntKind.wrap .i64 (v5 + 1))))
 else
 some (.inr false)
def Za4m : Zkg → Option (Zkg ⊕ Bool)
 | .L0 v0 v1 v5 => Z2t v0 v1 v5
def Zagt (a0 : (List Zw)) (a1 : (List UInt8)) : Option (Zkg ⊕ Bool) :=
 some (.inl (.L0 a0 a1 0))
noncomputable def Zae5 (a0 : (List Zw)) (a1 : (List UInt8)) : Option Bool := (Zagt a0 a1).bind (endO Za4m)
inductive Zga where
 | L0 (v0 : (List Zw)) (E0 : Zw) (v5 : Int)
 | L1 (v0 : (List Zw)) (E0 : Zw) (v5 : Int) (v6 : Int)
def Zx8 (v0 : (List Zw)) (E0 : Zw) (v5 : Int) : Option (Zga ⊕ Bool) :=
 bif decide (v5 < (E0.Abilities.length : Int)) then
 some (.inl (.L1 v0 E0 v5 0))
 else
 some (.inr true)
def Zx9 (v0 : (List Zw)) (E0 : Zw) (v5 : Int) (v6 : Int) : Option (Zga ⊕ Bool) :=
 Option.bind (idx? E0.Abilities v5) fun x1 =>
 bif decide (v6 < (x1.Effects.length : Int)) then
 Option.bind (idx? x1.Effects v6) fun x5 =>
 bif (x5.Op == 12) then
 Option.bind (Zae5 v0 x5.Card) fun x8 =>
 bif (!x8) then
 some (.inr false)
 else
 some (.inl (.L1 v0 E0 v5 (IntKind.wrap .i64 (v6 + 1))))
 else
 some (.inl (.L1 v0 E0 v5 (IntKind.wrap .i64 (v6 + 1))))
 else
 some (.inl (.L0 v0 E0 (IntKind.wrap .i64 (v5 + 1))))
def Zawu : Zga → Option (Zga ⊕ Bool)
 | .L0 v0 E0 v5 => Zx8 v0 E0 v5
 | .L1 v0 E0 v5 v6 => Zx9 v0 E0 v5 v6
def Z8c (a0 : (List Zw)) (a1 : Zw) : Option (Zga ⊕ Bool) :=
 some (.inl (.L0 a0 a1 0))
noncomputable def Z6z (a0 : (List Zw)) (a1 : Zw) : Option Bool := (Z8c a0 a1).bind (endO Zawu)
inductive Zkh where
 | L0 (v0 : (List Zw)) (v4 : Int)
def Z2u (v0 : (List Zw)) (v4 : Int) : Option (Zkh ⊕ (Int × Int)) :=
 bif decide (v4 < (v0.length : Int)) then
 Option.bind (idx? v0 v4) fun x3 =>
 Option.bind (Za0e x3) fun x5 =>
 bif (!x5) then
 some (.inr (v4, 9))
 else
 Option.bind (Zakr v0 x3.Name) fun x8 =>
 bif decide (x8 < v4) then
 some (.inr (v4, 6))
 else
 Option.bind (Z6z v0 x3) fun x11 =>
 bif (!x11) then
 some (.inr (v4, 7))
 else
 some (.inl (.L0 v0 (IntKind.wrap .i64 (v4 + 1))))
 else
 some (.inr ((-1), 0))
def Za4n : Zkh → Option (Zkh ⊕ (Int × Int))
 | .L0 v0 v4 => Z2u v0 v4
def Zagu (a0 : (List Zw)) : Option (Zkh ⊕ (Int × Int)) :=
 bif decide ((a0.length : Int) > 256) then
 some (.inr ((-1), 5))
 else
 some (.inl (.L0 a0 0))
noncomputable def Zae6 (a0 : (List Zw)) : Option (Int × Int) := (Zagu a0).bind (endO Za4n)
abbrev Zth := Empty
def Zbh7 : Zth → Option (Zth ⊕ Bool) := fun s => nomatch s
def Zawv (a0 : Int) (a1 : Int) (a2 : Int) : Option (Zth ⊕ Bool) :=
 bif decide (a0 ≥ a1) then
 some (.inr (decide (a0 ≤ a2)))
 else
 some (.inr false)
noncomputable def Znq (a0 : Int) (a1 : Int) (a2 : Int) : Option Bool := (Zawv a0 a1 a2).bind (endO Zbh7)
inductive Zki where
 | L0 (E0 : (A6 Int)) (v3 : Int)
def Z2v (E0 : (A6 Int)) (v3 : Int) : Option (Zki ⊕ Bool) :=
 bif decide (v3 < 6) then
 Option.bind (idx? (A6.list E0) v3) fun x2 =>
 bif decide (x2 < 0) then
 some (.inr false)
 else
 Option.bind (idx? (A6.list E0) v3) fun x5 =>
 bif decide (x5 > 1000000) then
 some (.inr false)
 else
 some (.inl (.L0 E0 (IntKind.wrap .i64 (v3 + 1))))
 else
 some (.inr true)
def Za4o : Zki → Option (Zki ⊕ Bool)
 | .L0 E0 v3 => Z2v E0 v3
def Zagv (a0 : (A6 Int)) : Option (Zki ⊕ Bool) :=
 some (.inl (.L0 a0 0))
noncomputable def Zae7 (a0 : (A6 Int)) : Option Bool := (Zagv a0).bind (endO Za4o)
inductive Zkj where
 | L0 (v1 : Int) (E0 : Zd) (v5 : Int)
def Zkk (v1 : Int) (E0 : Zd) (v5 : Int) : Option (Zkj ⊕ Int) :=
 bif decide (v5 < (E0.Objects.length : Int)) then
 Option.bind (idx? E0.Objects v5) fun x3 =>
 bif (x3.Id == v1) then
 some (.inr v5)
 else
 some (.inl (.L0 v1 E0 (IntKind.wrap .i64 (v5 + 1))))
 else
 some (.inr (-1))
def Z5h : Zkj → Option (Zkj ⊕ Int)
 | .L0 v1 E0 v5 => Zkk v1 E0 v5
def Z60 (a0 : Zd) (a1 : Int) : Option (Zkj ⊕ Int) :=
 some (.inl (.L0 a1 a0 0))
noncomputable def Z1z (a0 : Zd) (a1 : Int) : Option Int := (Z60 a0 a1).bind (endO Z5h)
abbrev Zou := Empty
def Za8q : Zou → Option (Zou ⊕ (Zf × Bool)) := fun s => nomatch s
def Zaad (a0 : Zd) (a1 : Int) : Option (Zou ⊕ (Zf × Bool)) :=
 Option.bind (Z1z a0 a1) fun x1 =>
 bif decide (x1 < 0) then
 some (.inr ((⟨0, 0, 0, 0, 0, false, false, false, false, 0, (⟨0, 0, 0⟩ : (A3 Int)), 0, 0, 0, false, 0, 0⟩ : Zf), false))
 else
 Option.bind (idx? a0.Objects x1) fun x4 =>
 some (.inr (x4, true))
noncomputable def Zabr (a0 : Zd) (a1 : Int) : Option (Zf × Bool) := (Zaad a0 a1).bind (endO Za8q)
abbrev Zlt := Empty
def Za0f : Zlt → Option (Zlt ⊕ (Zf × Bool)) := fun s => nomatch s
def Z2w (a0 : Zd) (a1 : Int) : Option (Zlt ⊕ (Zf × Bool)) :=
 Option.bind (Zabr a0 a1) fun x1 =>
 some (.inr (x1.1, x1.2))
noncomputable def Zti (a0 : Zd) (a1 : Int) : Option (Zf × Bool) := (Z2w a0 a1).bind (endO Za0f)
inductive Zkl where
 | L0 (v0 : (List Int)) (v1 : Int) (v5 : Int) (v6 : Int)
def Zrq (v0 : (List Int)) (v1 : Int) (v5 : Int) (v6 : Int) : Option (Zkl ⊕ Int) :=
 bif decide (v6 < (v0.length : Int)) then
 Option.bind (idx? v0 v6) fun x3 =>
 bif (x3 == v1) then
 some (.inl (.L0 v0 v1 (IntKind.wrap .i64 (v5 + 1)) (IntKind.wrap .i64 (v6 + 1))))
 else
 some (.inl (.L0 v0 v1 v5 (IntKind.wrap .i64 (v6 + 1))))
 else
 some (.inr v5)
def Zaio : Zkl → Option (Zkl ⊕ Int)
 | .L0 v0 v1 v5 v6 => Zrq v0 v1 v5 v6
def Z61 (a0 : (List Int)) (a1 : Int) : Option (Zkl ⊕ Int) :=
 some (.inl (.L0 a0 a1 0 0))
noncomputable def Zqd (a0 : (List Int)) (a1 : Int) : Option Int := (Z61 a0 a1).bind (endO Zaio)
inductive Zjp where
 | L0 (v1 : (List Int)) (v2 : Int) (v3 : Int) (E0 : Zd) (v9 : Int)
def Zu3 (v1 : (List Int)) (v2 : Int) (v3 : Int) (E0 : Zd) (v9 : Int) : Option (Zjp ⊕ Bool) :=
 bif decide (v9 < (v1.length : Int)) then
 Option.bind (idx? v1 v9) fun x3 =>
 Option.bind (Zti E0 x3) fun x5 =>
 bif (!x5.2) then
 some (.inr false)
 else
 bif (x5.1.Zone != v2) then
 some (.inr false)
 else
 bif decide (v3 ≥ 0) then
 bif (x5.1.Owner != v3) then
 some (.inr false)
 else
 Option.bind (Zqd v1 x3) fun x11 =>
 bif (x11 != 1) then
 some (.inr false)
 else
 some (.inl (.L0 v1 v2 v3 E0 (IntKind.wrap .i64 (v9 + 1))))
 else
 Option.bind (Zqd v1 x3) fun x16 =>
 bif (x16 != 1) then
 some (.inr false)
 else
 some (.inl (.L0 v1 v2 v3 E0 (IntKind.wrap .i64 (v9 + 1))))
 else
 some (.inr true)
def Zamq : Zjp → Option (Zjp ⊕ Bool)
 | .L0 v1 v2 v3 E0 v9 => Zu3 v1 v2 v3 E0 v9
def Zaae (a0 : Zd) (a1 : (List Int)) (a2 : Int) (a3 : Int) : Option (Zjp ⊕ Bool) :=
 some (.inl (.L0 a1 a2 a3 a0 0))
noncomputable def Zij (a0 : Zd) (a1 : (List Int)) (a2 : Int) (a3 : Int) : Option Bool := (Zaae a0 a1 a2 a3).bind (endO Zamq)
inductive Zhy where
 | L0 (E0 : Zd) (v3 : Int)
def Zpc (E0 : Zd) (v3 : Int) : Option (Zhy ⊕ Bool) :=
 bif decide (v3 < (E0.Players.length : Int)) then
 Option.bind (idx? E0.Players v3) fun x3 =>
 Option.bind (Znq x3.Life (-1000000) 1000000) fun x5 =>
 bif (!x5) then
 some (.inr false)
 else
 Option.bind (Znq x3.Venom 0 1000000) fun x8 =>
 bif (!x8) then
 some (.inr false)
 else
 Option.bind (Znq x3.Lands 0 1000000) fun x11 =>
 bif (!x11) then
 some (.inr false)
 else
 Option.bind (Zae7 x3.Pool) fun x14 =>
 bif (!x14) then
 some (.inr false)
 else
 Option.bind (Zij E0 x3.Library 2 v3) fun x17 =>
 bif (!x17) then
 some (.inr false)
 else
 Option.bind (Zij E0 x3.Hand 1 v3) fun x20 =>
 bif (!x20) then
 some (.inr false)
 else
 Option.bind (Zij E0 x3.Graveyard 3 v3) fun x23 =>
 bif (!x23) then
 some (.inr false)
 else
 some (.inl (.L0 E0 (IntKind.wrap .i64 (v3 + 1))))
 else
 Option.bind (Zij E0 E0.Battlefield 0 (-1)) fun x28 =>
 bif x28 then
 Option.bind (Zij E0 E0.Exile 4 (-1)) fun x31 =>
 some (.inr x31)
 else
 some (.inr false)
def Zabs : Zhy → Option (Zhy ⊕ Bool)
 | .L0 E0 v3 => Zpc E0 v3
def Zzs (a0 : Zd) : Option (Zhy ⊕ Bool) :=
 Option.bind (Znq (a0.Players.length : Int) 2 4) fun x2 =>
 bif (!x2) then
 some (.inr false)
 else
 some (.inl (.L0 a0 0))
noncomputable def Zqr (a0 : Zd) : Option Bool := (Zzs a0).bind (endO Zabs)
abbrev Zlu := Empty
def Za0g : Zlu → Option (Zlu ⊕ Bool) := fun s => nomatch s
def Zabt (a0 : Zd) (a1 : Int) : Option (Zlu ⊕ Bool) :=
 Option.bind (Znq a1 0 (IntKind.wrap .i64 ((a0.Players.length : Int) - 1))) fun x4 =>
 some (.inr x4)
noncomputable def Znd (a0 : Zd) (a1 : Int) : Option Bool := (Zabt a0 a1).bind (endO Za0g)
inductive Zpl where
 | L0 (E0 : (A3 Int)) (v3 : Int)
def Zae8 (E0 : (A3 Int)) (v3 : Int) : Option (Zpl ⊕ Bool) :=
 bif decide (v3 < 3) then
 Option.bind (idx? (A3.list E0) v3) fun x2 =>
 bif decide (x2 < 0) then
 some (.inr false)
 else
 Option.bind (idx? (A3.list E0) v3) fun x5 =>
 bif decide (x5 > 1000000) then
 some (.inr false)
 else
 some (.inl (.L0 E0 (IntKind.wrap .i64 (v3 + 1))))
 else
 some (.inr true)
def Zbh8 : Zpl → Option (Zpl ⊕ Bool)
 | .L0 E0 v3 => Zae8 E0 v3
def Zaww (a0 : (A3 Int)) : Option (Zpl ⊕ Bool) :=
 some (.inl (.L0 a0 0))
noncomputable def Za0h (a0 : (A3 Int)) : Option Bool := (Zaww a0).bind (endO Zbh8)
abbrev Zov := Empty
def Za8r : Zov → Option (Zov ⊕ Zf) := fun s => nomatch s
def Zaks (a0 : Zf) : Option (Zov ⊕ Zf) :=
 some (.inr { a0 with Attack := (-1), Blocked := false, Blocks := 0 })
noncomputable def Zakt (a0 : Zf) : Option Zf := (Zaks a0).bind (endO Za8r)
abbrev Zne := Empty
def Za4p : Zne → Option (Zne ⊕ Zf) := fun s => nomatch s
def Zagw (a0 : Zf) : Option (Zne ⊕ Zf) :=
 some (.inr { a0 with Deadly := false, Damage := 0, Shield := 0 })
noncomputable def Zae9 (a0 : Zf) : Option Zf := (Zagw a0).bind (endO Za4p)
abbrev Ztj := Empty
def Zbh9 : Ztj → Option (Ztj ⊕ Bool) := fun s => nomatch s
def Zawx (a0 : Zf) (a1 : Int) (a2 : Int) : Option (Ztj ⊕ Bool) :=
 bif decide (a0.Id < 1) then
 some (.inr false)
 else
 bif decide (a0.Card < 0) then
 some (.inr false)
 else
 bif decide (a0.Card ≥ a1) then
 some (.inr false)
 else
 bif decide (a0.Owner < 0) then
 some (.inr false)
 else
 bif decide (a0.Owner ≥ a2) then
 some (.inr false)
 else
 bif decide (a0.Control < 0) then
 some (.inr false)
 else
 bif decide (a0.Control ≥ a2) then
 some (.inr false)
 else
 bif decide (a0.Zone < 0) then
 some (.inr false)
 else
 bif decide (a0.Zone > 5) then
 some (.inr false)
 else
 bif decide (a0.Damage < 0) then
 some (.inr false)
 else
 bif decide (a0.Damage > 1000000) then
 some (.inr false)
 else
 bif decide (a0.Stamp < 0) then
 some (.inr false)
 else
 bif decide (a0.Stamp > 1000000) then
 some (.inr false)
 else
 bif decide (a0.Blocks < 0) then
 some (.inr false)
 else
 bif decide (a0.Blocks > 1000000) then
 some (.inr false)
 else
 bif decide (a0.Shield < 0) then
 some (.inr false)
 else
 bif decide (a0.Shield > 1000000) then
 some (.inr false)
 else
 Option.bind (Za0h a0.Counters) fun x18 =>
 bif (!x18) then
 some (.inr false)
 else
 bif decide (a0.Copy < (-1)) then
 some (.inr false)
 else
 bif decide (a0.Copy ≥ a1) then
 some (.inr false)
 else
 bif decide (a0.Attack < (-1)) then
 some (.inr false)
 else
 bif decide (a0.Attack ≥ a2) then
 some (.inr false)
 else
 bif (a0.Zone == 0) then
 some (.inr true)
 else
 Option.bind (Zakt a0) fun x26 =>
 bif eqTs (Zc a0) (Zc x26) then
 Option.bind (Zae9 a0) fun x29 =>
 bif eqTs (Zc a0) (Zc x29) then
 bif (!a0.Tapped) then
 bif (!a0.Sick) then
 some (.inr (eqTs ((cA3 (cI .i64)) a0.Counters) ((cA3 (cI .i64)) (⟨0, 0, 0⟩ : (A3 Int)))))
 else
 some (.inr false)
 else
 some (.inr false)
 else
 some (.inr false)
 else
 some (.inr false)
noncomputable def Za0i (a0 : Zf) (a1 : Int) (a2 : Int) : Option Bool := (Zawx a0 a1 a2).bind (endO Zbh9)
inductive Zi6 where
 | L0 (v1 : Int) (E0 : Zd) (v5 : Int) (v6 : Int)
def Zzt (v1 : Int) (E0 : Zd) (v5 : Int) (v6 : Int) : Option (Zi6 ⊕ Int) :=
 bif decide (v6 < (E0.Stack.length : Int)) then
 Option.bind (idx? E0.Stack v6) fun x3 =>
 bif (x3.Kind == 1) then
 bif (x3.Id == v1) then
 some (.inl (.L0 v1 E0 (IntKind.wrap .i64 (v5 + 1)) (IntKind.wrap .i64 (v6 + 1))))
 else
 some (.inl (.L0 v1 E0 v5 (IntKind.wrap .i64 (v6 + 1))))
 else
 some (.inl (.L0 v1 E0 v5 (IntKind.wrap .i64 (v6 + 1))))
 else
 some (.inr v5)
def Za0j : Zi6 → Option (Zi6 ⊕ Int)
 | .L0 v1 E0 v5 v6 => Zzt v1 E0 v5 v6
def Zabu (a0 : Zd) (a1 : Int) : Option (Zi6 ⊕ Int) :=
 some (.inl (.L0 a1 a0 0 0))
noncomputable def Zaaf (a0 : Zd) (a1 : Int) : Option Int := (Zabu a0 a1).bind (endO Za0j)
abbrev Zow := Empty
def Za8s : Zow → Option (Zow ⊕ (List Int)) := fun s => nomatch s
def Zaag (a0 : (List Int)) : Option (Zow ⊕ (List Int)) :=
 Option.bind (app? 8 ([] : (List Int)) a0) fun x1 =>
 some (.inr x1)
noncomputable def Zqs (a0 : (List Int)) : Option (List Int) := (Zaag a0).bind (endO Za8s)
abbrev Zox := Empty
def Za8t : Zox → Option (Zox ⊕ (List Int)) := fun s => nomatch s
def Zaah (a0 : Zd) (a1 : Int) (a2 : Int) : Option (Zox ⊕ (List Int)) :=
 bif (a1 == 0) then
 Option.bind (Zqs a0.Battlefield) fun x2 =>
 some (.inr x2)
 else
 bif (a1 == 4) then
 Option.bind (Zqs a0.Exile) fun x5 =>
 some (.inr x5)
 else
 bif decide (a2 < 0) then
 some (.inr ([] : (List Int)))
 else
 bif decide (a2 ≥ (a0.Players.length : Int)) then
 some (.inr ([] : (List Int)))
 else
 bif (a1 == 1) then
 Option.bind (idx? a0.Players a2) fun x11 =>
 Option.bind (Zqs x11.Hand) fun x13 =>
 some (.inr x13)
 else
 bif (a1 == 2) then
 Option.bind (idx? a0.Players a2) fun x16 =>
 Option.bind (Zqs x16.Library) fun x18 =>
 some (.inr x18)
 else
 bif (a1 == 3) then
 Option.bind (idx? a0.Players a2) fun x21 =>
 Option.bind (Zqs x21.Graveyard) fun x23 =>
 some (.inr x23)
 else
 some (.inr ([] : (List Int)))
noncomputable def Z5i (a0 : Zd) (a1 : Int) (a2 : Int) : Option (List Int) := (Zaah a0 a1 a2).bind (endO Za8t)
abbrev Zlv := Empty
def Za0k : Zlv → Option (Zlv ⊕ Bool) := fun s => nomatch s
def Z2x (a0 : Zd) (a1 : Zf) : Option (Zlv ⊕ Bool) :=
 bif (a1.Zone == 5) then
 Option.bind (Zaaf a0 a1.Id) fun x2 =>
 some (.inr (x2 == 1))
 else
 Option.bind (Z5i a0 a1.Zone a1.Owner) fun x4 =>
 Option.bind (Zqd x4 a1.Id) fun x6 =>
 some (.inr (x6 == 1))
noncomputable def Zoy (a0 : Zd) (a1 : Zf) : Option Bool := (Z2x a0 a1).bind (endO Za0k)
inductive Zhz where
 | L0 (v0 : (List Zw)) (E0 : Zd) (v5 : Int)
def Zpd (v0 : (List Zw)) (E0 : Zd) (v5 : Int) : Option (Zhz ⊕ Bool) :=
 bif decide (v5 < (E0.Objects.length : Int)) then
 Option.bind (idx? E0.Objects v5) fun x3 =>
 Option.bind (Za0i x3 (v0.length : Int) (E0.Players.length : Int)) fun x7 =>
 bif (!x7) then
 some (.inr false)
 else
 bif decide (x3.Id ≥ E0.NextId) then
 some (.inr false)
 else
 bif decide (x3.Stamp ≥ E0.NextStamp) then
 some (.inr false)
 else
 bif decide (v5 > 0) then
 Option.bind (idx? E0.Objects (IntKind.wrap .i64 (v5 - 1))) fun x15 =>
 bif decide (x15.Id ≥ x3.Id) then
 some (.inr false)
 else
 Option.bind (Zoy E0 x3) fun x18 =>
 bif (!x18) then
 some (.inr false)
 else
 some (.inl (.L0 v0 E0 (IntKind.wrap .i64 (v5 + 1))))
 else
 Option.bind (Zoy E0 x3) fun x23 =>
 bif (!x23) then
 some (.inr false)
 else
 some (.inl (.L0 v0 E0 (IntKind.wrap .i64 (v5 + 1))))
 else
 some (.inr true)
def Zabv : Zhz → Option (Zhz ⊕ Bool)
 | .L0 v0 E0 v5 => Zpd v0 E0 v5
def Zzu (a0 : (List Zw)) (a1 : Zd) : Option (Zhz ⊕ Bool) :=
 bif decide ((a1.Objects.length : Int) > 2048) then
 some (.inr false)
 else
 some (.inl (.L0 a0 a1 0))
noncomputable def Zid (a0 : (List Zw)) (a1 : Zd) : Option Bool := (Zzu a0 a1).bind (endO Zabv)
inductive Zg5 where
 | L0 (v0 : (List Zh)) (v1 : (List Zh)) (v5 : Int)
def Zvs (v0 : (List Zh)) (v1 : (List Zh)) (v5 : Int) : Option (Zg5 ⊕ Bool) :=
 bif decide (v5 < (v0.length : Int)) then
 Option.bind (idx? v0 v5) fun x3 =>
 Option.bind (idx? v1 v5) fun x5 =>
 bif (!(eqTs (Zp x3) (Zp x5))) then
 some (.inr false)
 else
 some (.inl (.L0 v0 v1 (IntKind.wrap .i64 (v5 + 1))))
 else
 some (.inr true)
def Zas2 : Zg5 → Option (Zg5 ⊕ Bool)
 | .L0 v0 v1 v5 => Zvs v0 v1 v5
def Z5j (a0 : (List Zh)) (a1 : (List Zh)) : Option (Zg5 ⊕ Bool) :=
 bif ((a0.length : Int) != (a1.length : Int)) then
 some (.inr false)
 else
 some (.inl (.L0 a0 a1 0))
noncomputable def Zwr (a0 : (List Zh)) (a1 : (List Zh)) : Option Bool := (Z5j a0 a1).bind (endO Zas2)
abbrev Zoz := Empty
def Za8u : Zoz → Option (Zoz ⊕ Bool) := fun s => nomatch s
def Zaku (a0 : Zk) (a1 : Zk) : Option (Zoz ⊕ Bool) :=
 bif (a0.Op == a1.Op) then
 bif eqTs (Zfk a0.Ref) (Zfk a1.Ref) then
 bif eqTs (Zb2 a0.Amount) (Zb2 a1.Amount) then
 bif (a0.Counter == a1.Counter) then
 bif (a0.Zone == a1.Zone) then
 bif (a0.Card == a1.Card) then
 bif eqTs (Zx a0.Filter) (Zx a1.Filter) then
 bif eqTs ((cA6 (cI .i64)) a0.Pool) ((cA6 (cI .i64)) a1.Pool) then
 Option.bind (Zwr a0.Mods a1.Mods) fun x9 =>
 some (.inr x9)
 else
 some (.inr false)
 else
 some (.inr false)
 else
 some (.inr false)
 else
 some (.inr false)
 else
 some (.inr false)
 else
 some (.inr false)
 else
 some (.inr false)
 else
 some (.inr false)
noncomputable def Zakv (a0 : Zk) (a1 : Zk) : Option Bool := (Zaku a0 a1).bind (endO Za8u)
inductive Zg6 where
 | L0 (v0 : (List Zk)) (v1 : (List Zk)) (v5 : Int)
def Zvt (v0 : (List Zk)) (v1 : (List Zk)) (v5 : Int) : Option (Zg6 ⊕ Bool) :=
 bif decide (v5 < (v0.length : Int)) then
 Option.bind (idx? v0 v5) fun x3 =>
 Option.bind (idx? v1 v5) fun x5 =>
 Option.bind (Zakv x3 x5) fun x7 =>
 bif (!x7) then
 some (.inr false)
 else
 some (.inl (.L0 v0 v1 (IntKind.wrap .i64 (v5 + 1))))
 else
 some (.inr true)
def Zas3 : Zg6 → Option (Zg6 ⊕ Bool)
 | .L0 v0 v1 v5 => Zvt v0 v1 v5
def Z5k (a0 : (List Zk)) (a1 : (List Zk)) : Option (Zg6 ⊕ Bool) :=
 bif ((a0.length : Int) != (a1.length : Int)) then
 some (.inr false)
 else
 some (.inl (.L0 a0 a1 0))
noncomputable def Z2y (a0 : (List Zk)) (a1 : (List Zk)) : Option Bool := (Z5k a0 a1).bind (endO Zas3)
inductive Zlw where
 | L0 (E0 : Zs) (E1 : Zs) (v5 : Int)
def Z62 (E0 : Zs) (E1 : Zs) (v5 : Int) : Option (Zlw ⊕ Bool) :=
 bif decide (v5 < (E0.Specs.length : Int)) then
 Option.bind (idx? E0.Specs v5) fun x3 =>
 Option.bind (idx? E1.Specs v5) fun x5 =>
 bif (!(eqTs (Z3 x3) (Z3 x5))) then
 some (.inr false)
 else
 some (.inl (.L0 E0 E1 (IntKind.wrap .i64 (v5 + 1))))
 else
 bif (E0.Kind == E1.Kind) then
 bif eqTs (Zx E0.Filter) (Zx E1.Filter) then
 Option.bind (Zwr E0.Mods E1.Mods) fun x12 =>
 bif x12 then
 bif eqTs (Ze2 E0.Price) (Ze2 E1.Price) then
 bif (E0.Slow == E1.Slow) then
 bif eqTs (Zc4 E0.Trigger) (Zc4 E1.Trigger) then
 bif (E0.May == E1.May) then
 Option.bind (Z2y E0.Effects E1.Effects) fun x19 =>
 bif x19 then
 some (.inr (eqTs (Zbw E0.Replace) (Zbw E1.Replace)))
 else
 some (.inr false)
 else
 some (.inr false)
 else
 some (.inr false)
 else
 some (.inr false)
 else
 some (.inr false)
 else
 some (.inr false)
 else
 some (.inr false)
 else
 some (.inr false)
def Za8v : Zlw → Option (Zlw ⊕ Bool)
 | .L0 E0 E1 v5 => Z62 E0 E1 v5
def Zakw (a0 : Zs) (a1 : Zs) : Option (Zlw ⊕ Bool) :=
 bif ((a0.Specs.length : Int) != (a1.Specs.length : Int)) then
 some (.inr false)
 else
 some (.inl (.L0 a0 a1 0))
noncomputable def Zakx (a0 : Zs) (a1 : Zs) : Option Bool := (Zakw a0 a1).bind (endO Za8v)
abbrev Zo0 := Empty
def Za8w : Zo0 → Option (Zo0 ⊕ Bool) := fun s => nomatch s
def Zaky (a0 : Zd) (a1 : Zao) : Option (Zo0 ⊕ Bool) :=
 Option.bind (Znq a1.Id 1 (IntKind.wrap .i64 (a0.NextId - 1))) fun x3 =>
 bif (!x3) then
 some (.inr false)
 else
 Option.bind (Znq a1.X 0 1000000) fun x6 =>
 bif (!x6) then
 some (.inr false)
 else
 bif decide ((a1.Targets.length : Int) > 4) then
 some (.inr false)
 else
 Option.bind (Znd a0 a1.Control) fun x11 =>
 bif (!x11) then
 some (.inr false)
 else
 Option.bind (Zti a0 a1.Id) fun x14 =>
 bif (a1.Kind == 1) then
 Option.bind (Zakx a1.Ability (⟨0, (⟨0, 0, 0, 0, 0, 0, 0, ([] : List UInt8), 0, 0, (⟨0, 0⟩ : Ze), (⟨0, 0⟩ : Ze), (⟨0, 0⟩ : Ze)⟩ : Zi), ([] : (List Zh)), (⟨(⟨0, 0, (⟨0, 0, 0, 0, 0⟩ : (A5 Int))⟩ : Zai), false, false, 0⟩ : Zii), false, (⟨0, 0, (⟨0, 0, 0, 0, 0, 0, 0, ([] : List UInt8), 0, 0, (⟨0, 0⟩ : Ze), (⟨0, 0⟩ : Ze), (⟨0, 0⟩ : Ze)⟩ : Zi)⟩ : Zdk), false, ([] : (List Zaj)), ([] : (List Zk)), (⟨0, 0, (⟨0, 0, 0, 0, 0, 0, 0, ([] : List UInt8), 0, 0, (⟨0, 0⟩ : Ze), (⟨0, 0⟩ : Ze), (⟨0, 0⟩ : Ze)⟩ : Zi), 0, 0, 0, 0⟩ : Za2)⟩ : Zs)) fun x17 =>
 bif (a1.Source == a1.Id) then
 bif x14.2 then
 bif (x14.1.Zone == 5) then
 bif x17 then
 some (.inr true)
 else
 Option.bind (Zabq a1.Ability) fun x23 =>
 some (.inr x23)
 else
 some (.inr false)
 else
 some (.inr false)
 else
 some (.inr false)
 else
 bif (a1.Kind == 2) then
 bif (!x14.2) then
 Option.bind (Zabq a1.Ability) fun x27 =>
 some (.inr x27)
 else
 some (.inr false)
 else
 some (.inr false)
noncomputable def Zakz (a0 : Zd) (a1 : Zao) : Option Bool := (Zaky a0 a1).bind (endO Za8w)
inductive Zpm where
 | L0 (v0 : (List Int)) (v3 : Int)
def Zafa (v0 : (List Int)) (v3 : Int) : Option (Zpm ⊕ Bool) :=
 bif decide (v3 < (v0.length : Int)) then
 Option.bind (idx? v0 (IntKind.wrap .i64 (v3 - 1))) fun x5 =>
 Option.bind (idx? v0 v3) fun x7 =>
 bif decide (x5 ≥ x7) then
 some (.inr false)
 else
 some (.inl (.L0 v0 (IntKind.wrap .i64 (v3 + 1))))
 else
 some (.inr true)
def Zbia : Zpm → Option (Zpm ⊕ Bool)
 | .L0 v0 v3 => Zafa v0 v3
def Zawy (a0 : (List Int)) : Option (Zpm ⊕ Bool) :=
 some (.inl (.L0 a0 1))
noncomputable def Za0l (a0 : (List Int)) : Option Bool := (Zawy a0).bind (endO Zbia)
inductive Zfq where
 | L0 (E0 : Zd) (v3 : Int)
 | L1 (E0 : Zd) (v3 : Int) (v4 : Int)
 | L2 (E0 : Zd) (v5 : Int)
 | L3 (E0 : Zd) (v7 : Int)
def Z2z (E0 : Zd) (v3 : Int) : Option (Zfq ⊕ Bool) :=
 bif decide (v3 < (E0.Stack.length : Int)) then
 Option.bind (idx? E0.Stack v3) fun x3 =>
 Option.bind (Zakz E0 x3) fun x5 =>
 bif (!x5) then
 some (.inr false)
 else
 some (.inl (.L1 E0 v3 0))
 else
 some (.inl (.L2 E0 0))
def Z20 (E0 : Zd) (v3 : Int) (v4 : Int) : Option (Zfq ⊕ Bool) :=
 bif decide (v4 < v3) then
 Option.bind (idx? E0.Stack v4) fun x2 =>
 Option.bind (idx? E0.Stack v3) fun x4 =>
 bif (x2.Id == x4.Id) then
 some (.inr false)
 else
 some (.inl (.L1 E0 v3 (IntKind.wrap .i64 (v4 + 1))))
 else
 some (.inl (.L0 E0 (IntKind.wrap .i64 (v3 + 1))))
def Z21 (E0 : Zd) (v5 : Int) : Option (Zfq ⊕ Bool) :=
 bif decide (v5 < (E0.Waiting.length : Int)) then
 Option.bind (idx? E0.Waiting v5) fun x3 =>
 Option.bind (Znd E0 x3.Control) fun x5 =>
 bif (!x5) then
 some (.inr false)
 else
 bif (x3.Ability.Kind != 4) then
 some (.inr false)
 else
 Option.bind (Zabq x3.Ability) fun x9 =>
 bif (!x9) then
 some (.inr false)
 else
 some (.inl (.L2 E0 (IntKind.wrap .i64 (v5 + 1))))
 else
 some (.inl (.L3 E0 0))
def Z22 (E0 : Zd) (v7 : Int) : Option (Zfq ⊕ Bool) :=
 bif decide (v7 < (E0.Conts.length : Int)) then
 Option.bind (idx? E0.Conts v7) fun x3 =>
 Option.bind (Znd E0 x3.Control) fun x5 =>
 bif (!x5) then
 some (.inr false)
 else
 bif decide (x3.Stamp ≥ E0.NextStamp) then
 some (.inr false)
 else
 Option.bind (Znq x3.Until 1 2) fun x9 =>
 bif (!x9) then
 some (.inr false)
 else
 Option.bind (Za0l x3.Objects) fun x12 =>
 bif (!x12) then
 some (.inr false)
 else
 Option.bind (Zrp x3.Mods) fun x15 =>
 bif (x15 == ([] : List UInt8)) then
 some (.inr false)
 else
 some (.inl (.L3 E0 (IntKind.wrap .i64 (v7 + 1))))
 else
 some (.inr true)
def Za4q : Zfq → Option (Zfq ⊕ Bool)
 | .L0 E0 v3 => Z2z E0 v3
 | .L1 E0 v3 v4 => Z20 E0 v3 v4
 | .L2 E0 v5 => Z21 E0 v5
 | .L3 E0 v7 => Z22 E0 v7
def Zagx (a0 : Zd) : Option (Zfq ⊕ Bool) :=
 bif decide ((a0.Stack.length : Int) > 64) then
 some (.inr false)
 else
 bif decide ((a0.Waiting.length : Int) > 64) then
 some (.inr false)
 else
 bif decide ((a0.Conts.length : Int) > 64) then
 some (.inr false)
 else
 some (.inl (.L0 a0 0))
noncomputable def Zs3 (a0 : Zd) : Option Bool := (Zagx a0).bind (endO Za4q)
inductive Zmv where
 | L0 (v0 : (List Zw)) (E0 : Zd) (v5 : Int)
def Z10 (v0 : (List Zw)) (E0 : Zd) (v5 : Int) : Option (Zmv ⊕ Bool) :=
 bif decide (v5 < (E0.Extra.length : Int)) then
 Option.bind (idx? E0.Extra v5) fun x3 =>
 Option.bind (Znd E0 x3) fun x5 =>
 bif (!x5) then
 some (.inr false)
 else
 some (.inl (.L0 v0 E0 (IntKind.wrap .i64 (v5 + 1))))
 else
 bif (E0.Over == 1) then
 Option.bind (Znd E0 E0.Winner) fun x11 =>
 bif (!x11) then
 some (.inr false)
 else
 bif (E0.Over != 1) then
 bif (E0.Winner != (-1)) then
 some (.inr false)
 else
 Option.bind (Zid v0 E0) fun x16 =>
 bif x16 then
 Option.bind (Zs3 E0) fun x19 =>
 some (.inr x19)
 else
 some (.inr false)
 else
 Option.bind (Zid v0 E0) fun x21 =>
 bif x21 then
 Option.bind (Zs3 E0) fun x24 =>
 some (.inr x24)
 else
 some (.inr false)
 else
 bif (E0.Over != 1) then
 bif (E0.Winner != (-1)) then
 some (.inr false)
 else
 Option.bind (Zid v0 E0) fun x28 =>
 bif x28 then
 Option.bind (Zs3 E0) fun x31 =>
 some (.inr x31)
 else
 some (.inr false)
 else
 Option.bind (Zid v0 E0) fun x33 =>
 bif x33 then
 Option.bind (Zs3 E0) fun x36 =>
 some (.inr x36)
 else
 some (.inr false)
def Zauu : Zmv → Option (Zmv ⊕ Bool)
 | .L0 v0 E0 v5 => Z10 v0 E0 v5
def Zak0 (a0 : (List Zw)) (a1 : Zd) : Option (Zmv ⊕ Bool) :=
 Option.bind (Znq a1.NextId 1 1000000) fun x1 =>
 bif (!x1) then
 some (.inr false)
 else
 Option.bind (Znq a1.NextStamp 1 1000000) fun x4 =>
 bif (!x4) then
 some (.inr false)
 else
 Option.bind (Znq a1.Turn 0 500) fun x7 =>
 bif (!x7) then
 some (.inr false)
 else
 Option.bind (Znq a1.Step 0 10) fun x10 =>
 bif (!x10) then
 some (.inr false)
 else
 bif decide ((a1.Objects.length : Int) > 2048) then
 some (.inr false)
 else
 Option.bind (Zqr a1) fun x15 =>
 bif (!x15) then
 some (.inr false)
 else
 Option.bind (Znd a1 a1.Active) fun x18 =>
 bif (!x18) then
 some (.inr false)
 else
 Option.bind (Znd a1 a1.Priority) fun x21 =>
 bif (!x21) then
 some (.inr false)
 else
 Option.bind (Znq a1.Passes 0 (a1.Players.length : Int)) fun x25 =>
 bif (!x25) then
 some (.inr false)
 else
 bif decide ((a1.Extra.length : Int) > 500) then
 some (.inr false)
 else
 Option.bind (Znq a1.Over 0 2) fun x30 =>
 bif (!x30) then
 some (.inr false)
 else
 some (.inl (.L0 a0 a1 0))
noncomputable def Z7r (a0 : (List Zw)) (a1 : Zd) : Option Bool := (Zak0 a0 a1).bind (endO Zauu)
inductive Zkm where
 | L0 (v0 : (List Zw)) (E0 : Zd) (v5 : Int)
def Zrr (v0 : (List Zw)) (E0 : Zd) (v5 : Int) : Option (Zkm ⊕ Bool) :=
 bif decide (v5 < (E0.Players.length : Int)) then
 Option.bind (idx? E0.Players v5) fun x3 =>
 bif decide ((IntKind.wrap .i64 ((IntKind.wrap .i64 ((x3.Library.length : Int) + (x3.Hand.length : Int))) + (x3.Graveyard.length : Int))) > 60) then
 some (.inr false)
 else
 some (.inl (.L0 v0 E0 (IntKind.wrap .i64 (v5 + 1))))
 else
 Option.bind (Zae6 v0) fun x15 =>
 bif (x15.2 == 0) then
 Option.bind (Z7r v0 E0) fun x18 =>
 some (.inr x18)
 else
 some (.inr false)
def Zaip : Zkm → Option (Zkm ⊕ Bool)
 | .L0 v0 E0 v5 => Zrr v0 E0 v5
def Z63 (a0 : (List Zw)) (a1 : Zd) : Option (Zkm ⊕ Bool) :=
 bif decide ((a0.length : Int) > 12) then
 some (.inr false)
 else
 bif decide ((a1.Players.length : Int) > 4) then
 some (.inr false)
 else
 bif decide ((a1.Objects.length : Int) > 60) then
 some (.inr false)
 else
 bif decide ((a1.Battlefield.length : Int) > 60) then
 some (.inr false)
 else
 bif decide ((a1.Exile.length : Int) > 60) then
 some (.inr false)
 else
 bif decide ((a1.Stack.length : Int) > 8) then
 some (.inr false)
 else
 bif decide ((a1.Waiting.length : Int) > 8) then
 some (.inr false)
 else
 bif decide ((a1.Conts.length : Int) > 8) then
 some (.inr false)
 else
 bif decide ((a1.Extra.length : Int) > 20) then
 some (.inr false)
 else
 some (.inl (.L0 a0 a1 0))
noncomputable def Z7s (a0 : (List Zw)) (a1 : Zd) : Option Bool := (Z63 a0 a1).bind (endO Zaip)
abbrev Zqe := Empty
def Zbdk : Zqe → Option (Zqe ⊕ Bool) := fun s => nomatch s
def Zafb (a0 : Zab) : Option (Zqe ⊕ Bool) :=
 Option.bind (Z7s a0.Cards a0.State) fun x1 =>
 bif x1 then
 some (.inr (decide ((a0.Pending.Options.length : Int) ≤ 100)))
 else
 some (.inr false)
noncomputable def Zaaz (a0 : Zab) : Option Bool := (Zafb a0).bind (endO Zbdk)
inductive Znf where
 | L0 (E0 : Zab) (E1 : Zd) (v2 : (List Int)) (v3 : Int)
def Zapb (E0 : Zab) (E1 : Zd) (v2 : (List Int)) (v3 : Int) : Option (Znf ⊕ Zab) :=
 bif decide (v3 < 3) then
 Option.bind (idx? v2 v3) fun x4 =>
 Option.bind (app? 128 E1.Objects [(⟨IntKind.wrap .i64 (v3 + 1), 0, Int.tmod v3 2, Int.tmod v3 2, x4, false, false, false, false, 0, (⟨0, 0, 0⟩ : (A3 Int)), 0, (-1), (-1), false, 0, 0⟩ : Zf)]) fun x7 =>
 some (.inl (.L0 E0 { E1 with Objects := x7 } v2 (IntKind.wrap .i64 (v3 + 1))))
 else
 some (.inr (⟨[(⟨([111, 97, 107] : List UInt8), false, (⟨0, 0, (⟨0, 0, 0, 0, 0⟩ : (A5 Int))⟩ : Zai), 0, (⟨0, 8, ([] : (List (List UInt8)))⟩ : Zkt), 0, 0, 0, ([] : (List Zs))⟩ : Zw)], E1, ([] : (List (List Int))), (⟨3, 0, 0, 0, 1, 0, [(⟨5, 3, 0⟩ : Z5)]⟩ : Zdf), 0, ([] : (List Zd))⟩ : Zab))
def Za4r : Znf → Option (Znf ⊕ Zab)
 | .L0 E0 E1 v2 v3 => Zapb E0 E1 v2 v3
def Zagy : Option (Znf ⊕ Zab) :=
 some (.inl (.L0 (⟨([] : (List Zw)), (⟨([] : (List Zaa)), ([] : (List Zf)), ([] : (List Int)), ([] : (List Int)), ([] : (List Zao)), ([] : (List Z7)), ([] : (List Zar)), 0, 0, 0, false, 0, 0, 0, 0, 0, ([] : (List Int)), 0, 0⟩ : Zd), ([] : (List (List Int))), (⟨0, 0, 0, 0, 0, 0, ([] : (List Z5))⟩ : Zdf), 0, ([] : (List Zd))⟩ : Zab) (⟨[(⟨20, 0, 0, (⟨0, 0, 0, 0, 0, 0⟩ : (A6 Int)), false, false, [3], [1], ([] : (List Int))⟩ : Zaa), (⟨18, 0, 0, (⟨0, 0, 0, 0, 0, 0⟩ : (A6 Int)), false, false, ([] : (List Int)), [2], ([] : (List Int))⟩ : Zaa)], ([] : (List Zf)), ([] : (List Int)), ([] : (List Int)), ([] : (List Zao)), ([] : (List Z7)), ([] : (List Zar)), 1, 0, 3, false, 0, 0, 4, 1, 0, ([] : (List Int)), 0, (-1)⟩ : Zd) [1, 1, 2] 0))
noncomputable def Z7t : Option Zab := (Zagy).bind (endO Za4r)
abbrev Zbg := Empty
def Zrs : Zbg → Option (Zbg ⊕ (List Zaa)) := fun s => nomatch s
def Zec (a0 : (List Zaa)) : Option (Zbg ⊕ (List Zaa)) :=
 Option.bind (app? 152 ([] : (List Zaa)) a0) fun x1 =>
 some (.inr x1)
noncomputable def Zf0 (a0 : (List Zaa)) : Option (List Zaa) := (Zec a0).bind (endO Zrs)
abbrev Zdn := Empty
def Z5l : Zdn → Option (Zdn ⊕ (List Int)) := fun s => nomatch s
def Zit (a0 : (List Int)) : Option (Zdn ⊕ (List Int)) :=
 Option.bind (app? 8 ([] : (List Int)) a0) fun x1 =>
 some (.inr x1)
noncomputable def Zc3 (a0 : (List Int)) : Option (List Int) := (Zit a0).bind (endO Z5l)
abbrev Zjw := Empty
def Zak1 : Zjw → Option (Zjw ⊕ Zaa) := fun s => nomatch s
def Zyp (a0 : Zaa) : Option (Zjw ⊕ Zaa) :=
 Option.bind (Zc3 a0.Library) fun x1 =>
 Option.bind (Zc3 a0.Hand) fun x3 =>
 Option.bind (Zc3 a0.Graveyard) fun x5 =>
 some (.inr { a0 with Library := x1, Hand := x3, Graveyard := x5 })
noncomputable def Zqf (a0 : Zaa) : Option Zaa := (Zyp a0).bind (endO Zak1)
abbrev Zbh := Empty
def Zrt : Zbh → Option (Zbh ⊕ (List Zf)) := fun s => nomatch s
def Zed (a0 : (List Zf)) : Option (Zbh ⊕ (List Zf)) :=
 Option.bind (app? 128 ([] : (List Zf)) a0) fun x1 =>
 some (.inr x1)
noncomputable def Zf1 (a0 : (List Zf)) : Option (List Zf) := (Zed a0).bind (endO Zrt)
abbrev Zby := Empty
def Zvb : Zby → Option (Zby ⊕ (List Zao)) := fun s => nomatch s
def Zfe (a0 : (List Zao)) : Option (Zby ⊕ (List Zao)) :=
 Option.bind (app? 824 ([] : (List Zao)) a0) fun x1 =>
 some (.inr x1)
noncomputable def Zhd (a0 : (List Zao)) : Option (List Zao) := (Zfe a0).bind (endO Zvb)
abbrev Zb7 := Empty
def Zws : Zb7 → Option (Zb7 ⊕ (List Zh)) := fun s => nomatch s
def Zfr (a0 : (List Zh)) : Option (Zb7 ⊕ (List Zh)) :=
 Option.bind (app? 176 ([] : (List Zh)) a0) fun x1 =>
 some (.inr x1)
noncomputable def Zdp (a0 : (List Zh)) : Option (List Zh) := (Zfr a0).bind (endO Zws)
abbrev Zbz := Empty
def Zvc : Zbz → Option (Zbz ⊕ (List Zaj)) := fun s => nomatch s
def Zff (a0 : (List Zaj)) : Option (Zbz ⊕ (List Zaj)) :=
 Option.bind (app? 144 ([] : (List Zaj)) a0) fun x1 =>
 some (.inr x1)
noncomputable def Zhe (a0 : (List Zaj)) : Option (List Zaj) := (Zff a0).bind (endO Zvc)
abbrev Zbi := Empty
def Zru : Zbi → Option (Zbi ⊕ (List Zk)) := fun s => nomatch s
def Zee (a0 : (List Zk)) : Option (Zbi ⊕ (List Zk)) :=
 Option.bind (app? 560 ([] : (List Zk)) a0) fun x1 =>
 some (.inr x1)
noncomputable def Zf2 (a0 : (List Zk)) : Option (List Zk) := (Zee a0).bind (endO Zru)
inductive Zgg where
 | L0 (E0 : Zs) (E1 : Zs) (v18 : Int) (v19 : Int)
def Zj9 (E0 : Zs) (E1 : Zs) (v18 : Int) (v19 : Int) : Option (Zgg ⊕ Zs) :=
 bif decide (v19 < v18) then
 Option.bind (idx? E0.Effects v19) fun x2 =>
 Option.bind (Zdp x2.Mods) fun x4 =>
 Option.bind (set? E0.Effects v19 { x2 with Mods := x4 }) fun x6 =>
 some (.inl (.L0 { E0 with Effects := x6 } E1 v18 (IntKind.wrap .i64 (v19 + 1))))
 else
 some (.inr E0)
def Zrv : Zgg → Option (Zgg ⊕ Zs)
 | .L0 E0 E1 v18 v19 => Zj9 E0 E1 v18 v19
def Zwt (a0 : Zs) : Option (Zgg ⊕ Zs) :=
 Option.bind (Zdp a0.Mods) fun x1 =>
 Option.bind (Zhe a0.Specs) fun x3 =>
 Option.bind (Zf2 a0.Effects) fun x5 =>
 some (.inl (.L0 { a0 with Mods := x1, Specs := x3, Effects := x5 } (⟨0, (⟨0, 0, 0, 0, 0, 0, 0, ([] : List UInt8), 0, 0, (⟨0, 0⟩ : Ze), (⟨0, 0⟩ : Ze), (⟨0, 0⟩ : Ze)⟩ : Zi), ([] : (List Zh)), (⟨(⟨0, 0, (⟨0, 0, 0, 0, 0⟩ : (A5 Int))⟩ : Zai), false, false, 0⟩ : Zii), false, (⟨0, 0, (⟨0, 0, 0, 0, 0, 0, 0, ([] : List UInt8), 0, 0, (⟨0, 0⟩ : Ze), (⟨0, 0⟩ : Ze), (⟨0, 0⟩ : Ze)⟩ : Zi)⟩ : Zdk), false, ([] : (List Zaj)), ([] : (List Zk)), (⟨0, 0, (⟨0, 0, 0, 0, 0, 0, 0, ([] : List UInt8), 0, 0, (⟨0, 0⟩ : Ze), (⟨0, 0⟩ : Ze), (⟨0, 0⟩ : Ze)⟩ : Zi), 0, 0, 0, 0⟩ : Za2)⟩ : Zs) (x5.length : Int) 0))
noncomputable def Zmw (a0 : Zs) : Option Zs := (Zwt a0).bind (endO Zrv)
abbrev Zbj := Empty
def Zrw : Zbj → Option (Zbj ⊕ (List Zaq)) := fun s => nomatch s
def Zef (a0 : (List Zaq)) : Option (Zbj ⊕ (List Zaq)) :=
 Option.bind (app? 16 ([] : (List Zaq)) a0) fun x1 =>
 some (.inr x1)
noncomputable def Zey (a0 : (List Zaq)) : Option (List Zaq) := (Zef a0).bind (endO Zrw)
abbrev Zbb := Empty
def Zqt : Zbb → Option (Zbb ⊕ (List Z7)) := fun s => nomatch s
def Zdq (a0 : (List Z7)) : Option (Zbb ⊕ (List Z7)) :=
 Option.bind (app? 768 ([] : (List Z7)) a0) fun x1 =>
 some (.inr x1)
noncomputable def Zfv (a0 : (List Z7)) : Option (List Z7) := (Zdq a0).bind (endO Zqt)
abbrev Zb0 := Empty
def Zvd : Zb0 → Option (Zb0 ⊕ (List Zar)) := fun s => nomatch s
def Zfg (a0 : (List Zar)) : Option (Zb0 ⊕ (List Zar)) :=
 Option.bind (app? 80 ([] : (List Zar)) a0) fun x1 =>
 some (.inr x1)
noncomputable def Zhf (a0 : (List Zar)) : Option (List Zar) := (Zfg a0).bind (endO Zvd)
inductive Zgn where
 | L0 (E0 : Zd) (E1 : Zd) (v13 : Int) (v14 : Int)
 | L1 (E0 : Zd) (E1 : Zd) (v46 : Int) (v47 : Int)
 | L2 (E0 : Zd) (E1 : Zd) (v81 : Int) (v82 : Int)
 | L3 (E0 : Zd) (E1 : Zd) (v104 : Int) (v105 : Int)
def Zrx (E0 : Zd) (E1 : Zd) (v13 : Int) (v14 : Int) : Option (Zgn ⊕ Zd) :=
 bif decide (v14 < v13) then
 Option.bind (idx? E0.Players v14) fun x2 =>
 Option.bind (Zqf x2) fun x4 =>
 Option.bind (set? E0.Players v14 x4) fun x6 =>
 some (.inl (.L0 { E0 with Players := x6 } E1 v13 (IntKind.wrap .i64 (v14 + 1))))
 else
 Option.bind (Zf1 E0.Objects) fun x10 =>
 Option.bind (Zc3 E0.Battlefield) fun x12 =>
 Option.bind (Zc3 E0.Exile) fun x14 =>
 Option.bind (Zhd E0.Stack) fun x16 =>
 some (.inl (.L1 { E0 with Objects := x10, Battlefield := x12, Exile := x14, Stack := x16 } E1 (x16.length : Int) 0))
def Zry (E0 : Zd) (E1 : Zd) (v46 : Int) (v47 : Int) : Option (Zgn ⊕ Zd) :=
 bif decide (v47 < v46) then
 Option.bind (idx? E0.Stack v47) fun x2 =>
 Option.bind (Zmw x2.Ability) fun x4 =>
 Option.bind (set? E0.Stack v47 { x2 with Ability := x4 }) fun x6 =>
 Option.bind (idx? x6 v47) fun x8 =>
 Option.bind (Zey x8.Targets) fun x10 =>
 Option.bind (set? x6 v47 { x8 with Targets := x10 }) fun x12 =>
 some (.inl (.L1 { E0 with Stack := x12 } E1 v46 (IntKind.wrap .i64 (v47 + 1))))
 else
 Option.bind (Zfv E0.Waiting) fun x16 =>
 some (.inl (.L2 { E0 with Waiting := x16 } E1 (x16.length : Int) 0))
def Zrz (E0 : Zd) (E1 : Zd) (v81 : Int) (v82 : Int) : Option (Zgn ⊕ Zd) :=
 bif decide (v82 < v81) then
 Option.bind (idx? E0.Waiting v82) fun x2 =>
 Option.bind (Zmw x2.Ability) fun x4 =>
 Option.bind (set? E0.Waiting v82 (⟨x2.Source, x2.Control, x4, x2.Event⟩ : Z7)) fun x6 =>
 some (.inl (.L2 { E0 with Waiting := x6 } E1 v81 (IntKind.wrap .i64 (v82 + 1))))
 else
 Option.bind (Zhf E0.Conts) fun x10 =>
 some (.inl (.L3 { E0 with Conts := x10 } E1 (x10.length : Int) 0))
def Zr0 (E0 : Zd) (E1 : Zd) (v104 : Int) (v105 : Int) : Option (Zgn ⊕ Zd) :=
 bif decide (v105 < v104) then
 Option.bind (idx? E0.Conts v105) fun x2 =>
 Option.bind (Zc3 x2.Objects) fun x4 =>
 Option.bind (set? E0.Conts v105 { x2 with Objects := x4 }) fun x6 =>
 Option.bind (idx? x6 v105) fun x8 =>
 Option.bind (Zdp x8.Mods) fun x10 =>
 Option.bind (set? x6 v105 { x8 with Mods := x10 }) fun x12 =>
 some (.inl (.L3 { E0 with Conts := x12 } E1 v104 (IntKind.wrap .i64 (v105 + 1))))
 else
 Option.bind (Zc3 E0.Extra) fun x16 =>
 some (.inr { E0 with Extra := x16 })
def Zfs : Zgn → Option (Zgn ⊕ Zd)
 | .L0 E0 E1 v13 v14 => Zrx E0 E1 v13 v14
 | .L1 E0 E1 v46 v47 => Zry E0 E1 v46 v47
 | .L2 E0 E1 v81 v82 => Zrz E0 E1 v81 v82
 | .L3 E0 E1 v104 v105 => Zr0 E0 E1 v104 v105
def Zagz (a0 : Zd) : Option (Zgn ⊕ Zd) :=
 Option.bind (Zf0 a0.Players) fun x1 =>
 some (.inl (.L0 { a0 with Players := x1 } (⟨([] : (List Zaa)), ([] : (List Zf)), ([] : (List Int)), ([] : (List Int)), ([] : (List Zao)), ([] : (List Z7)), ([] : (List Zar)), 0, 0, 0, false, 0, 0, 0, 0, 0, ([] : (List Int)), 0, 0⟩ : Zd) (x1.length : Int) 0))
noncomputable def Z7u (a0 : Zd) : Option Zd := (Zagz a0).bind (endO Zfs)
abbrev Zik := Empty
def Zag0 : Zik → Option (Zik ⊕ Bool) := fun s => nomatch s
def Z4v (a0 : Zf) (b0 : Int) : Option (Zik ⊕ Bool) :=
 some (.inr (a0.Id == b0))
noncomputable def Zyq (a0 : Zf) (b0 : Int) : Option Bool := (Z4v a0 b0).bind (endO Zag0)
inductive Zaf where
 | L0 (v0 : (List Zf)) (b0 : Int) (v7 : Int) (v8 : Int)
def Zan (v0 : (List Zf)) (b0 : Int) (v7 : Int) (v8 : Int) : Option (Zaf ⊕ (Int × Int)) :=
 bif decide (v8 < v7) then
 Option.bind (idx? v0 v8) fun x2 =>
 Option.bind (Zyq x2 b0) fun x4 =>
 bif x4 then
 some (.inr (v8, b0))
 else
 some (.inl (.L0 v0 b0 v7 (IntKind.wrap .i64 (v8 + 1))))
 else
 some (.inr ((-1), b0))
def Za8 : Zaf → Option (Zaf ⊕ (Int × Int))
 | .L0 v0 b0 v7 v8 => Zan v0 b0 v7 v8
def Zek (a0 : (List Zf)) (b0 : Int) : Option (Zaf ⊕ (Int × Int)) :=
 some (.inl (.L0 a0 b0 (a0.length : Int) 0))
noncomputable def Ze5 (a0 : (List Zf)) (b0 : Int) : Option (Int × Int) := (Zek a0 b0).bind (endO Za8)
abbrev Zpn := Empty
def Za0m : Zpn → Option (Zpn ⊕ Int) := fun s => nomatch s
def Zabw (a0 : Zd) (a1 : Int) : Option (Zpn ⊕ Int) :=
 Option.bind (Ze5 a0.Objects a1) fun x1 =>
 some (.inr x1.1)
noncomputable def Zak2 (a0 : Zd) (a1 : Int) : Option Int := (Zabw a0 a1).bind (endO Za0m)
abbrev Zqu := Empty
def Za4s : Zqu → Option (Zqu ⊕ (Zf × Bool)) := fun s => nomatch s
def Zag1 (a0 : Zd) (a1 : Int) : Option (Zqu ⊕ (Zf × Bool)) :=
 Option.bind (Zak2 a0 a1) fun x1 =>
 bif decide (x1 < 0) then
 some (.inr ((⟨0, 0, 0, 0, 0, false, false, false, false, 0, (⟨0, 0, 0⟩ : (A3 Int)), 0, 0, 0, false, 0, 0⟩ : Zf), false))
 else
 Option.bind (idx? a0.Objects x1) fun x4 =>
 some (.inr (x4, true))
noncomputable def Zafc (a0 : Zd) (a1 : Int) : Option (Zf × Bool) := (Zag1 a0 a1).bind (endO Za4s)
inductive Zdo where
 | L0 (v0 : (List Int)) (v1 : Int) (v7 : Int) (v8 : Int)
def Zgb (v0 : (List Int)) (v1 : Int) (v7 : Int) (v8 : Int) : Option (Zdo ⊕ Int) :=
 bif decide (v8 < v7) then
 Option.bind (idx? v0 v8) fun x2 =>
 bif (v1 == x2) then
 some (.inr v8)
 else
 some (.inl (.L0 v0 v1 v7 (IntKind.wrap .i64 (v8 + 1))))
 else
 some (.inr (-1))
def Zft : Zdo → Option (Zdo ⊕ Int)
 | .L0 v0 v1 v7 v8 => Zgb v0 v1 v7 v8
def Zo1 (a0 : (List Int)) (a1 : Int) : Option (Zdo ⊕ Int) :=
 some (.inl (.L0 a0 a1 (a0.length : Int) 0))
noncomputable def Zpy (a0 : (List Int)) (a1 : Int) : Option Int := (Zo1 a0 a1).bind (endO Zft)
abbrev Zev := Empty
def Z15 : Zev → Option (Zev ⊕ Bool) := fun s => nomatch s
def Zmx (a0 : (List Int)) (a1 : Int) : Option (Zev ⊕ Bool) :=
 Option.bind (Zpy a0 a1) fun x1 =>
 some (.inr (decide (x1 ≥ 0)))
noncomputable def Zh0 (a0 : (List Int)) (a1 : Int) : Option Bool := (Zmx a0 a1).bind (endO Z15)
inductive Zlx where
 | L0 (v1 : Int) (v2 : Int) (E0 : Zd) (E1 : Zf) (v20 : Int) (v21 : Int)
def Zp6 (v1 : Int) (v2 : Int) (E0 : Zd) (E1 : Zf) (v20 : Int) (v21 : Int) : Option (Zlx ⊕ Bool) :=
 bif decide (v21 < v20) then
 Option.bind (idx? E0.Players v21) fun x2 =>
 Option.bind (Zh0 x2.Library v2) fun x4 =>
 bif x4 then
 some (.inr false)
 else
 bif (v21 != v1) then
 Option.bind (Zh0 x2.Hand v2) fun x8 =>
 bif x8 then
 some (.inr false)
 else
 some (.inl (.L0 v1 v2 E0 E1 v20 (IntKind.wrap .i64 (v21 + 1))))
 else
 some (.inl (.L0 v1 v2 E0 E1 v20 (IntKind.wrap .i64 (v21 + 1))))
 else
 bif (E1.Zone != 2) then
 bif (E1.Zone != 1) then
 some (.inr true)
 else
 bif decide (v1 ≥ 0) then
 some (.inr (decide (v1 < (E0.Players.length : Int))))
 else
 some (.inr false)
 else
 some (.inr false)
def Z23 : Zlx → Option (Zlx ⊕ Bool)
 | .L0 v1 v2 E0 E1 v20 v21 => Zp6 v1 v2 E0 E1 v20 v21
def Zabx (a0 : Zd) (a1 : Int) (a2 : Int) : Option (Zlx ⊕ Bool) :=
 Option.bind (Zafc a0 a2) fun x1 =>
 bif (!x1.2) then
 some (.inr false)
 else
 some (.inl (.L0 a1 a2 a0 x1.1 (a0.Players.length : Int) 0))
noncomputable def Ztk (a0 : Zd) (a1 : Int) (a2 : Int) : Option Bool := (Zabx a0 a1 a2).bind (endO Z23)
abbrev Zbk := Empty
def Zr1 : Zbk → Option (Zbk ⊕ (List Z5)) := fun s => nomatch s
def Zeg (a0 : (List Z5)) : Option (Zbk ⊕ (List Z5)) :=
 Option.bind (app? 24 ([] : (List Z5)) a0) fun x1 =>
 some (.inr x1)
noncomputable def Zf3 (a0 : (List Z5)) : Option (List Z5) := (Zeg a0).bind (endO Zr1)
abbrev Zi7 := Empty
def Zaiq : Zi7 → Option (Zi7 ⊕ Bool) := fun s => nomatch s
def Zwu (a0 : Z5) (b0 : Int) : Option (Zi7 ⊕ Bool) :=
 bif (a0.Kind == 5) then
 some (.inr (a0.A == b0))
 else
 some (.inr false)
noncomputable def Ztl (a0 : Z5) (b0 : Int) : Option Bool := (Zwu a0 b0).bind (endO Zaiq)
inductive Zah where
 | L0 (v0 : (List Z5)) (b0 : Int) (v7 : Int) (v8 : Int)
def Zbd (v0 : (List Z5)) (b0 : Int) (v7 : Int) (v8 : Int) : Option (Zah ⊕ (Int × Int)) :=
 bif decide (v8 < v7) then
 Option.bind (idx? v0 v8) fun x2 =>
 Option.bind (Ztl x2 b0) fun x4 =>
 bif x4 then
 some (.inr (v8, b0))
 else
 some (.inl (.L0 v0 b0 v7 (IntKind.wrap .i64 (v8 + 1))))
 else
 some (.inr ((-1), b0))
def Zba : Zah → Option (Zah ⊕ (Int × Int))
 | .L0 v0 b0 v7 v8 => Zbd v0 b0 v7 v8
def Zew (a0 : (List Z5)) (b0 : Int) : Option (Zah ⊕ (Int × Int)) :=
 some (.inl (.L0 a0 b0 (a0.length : Int) 0))
noncomputable def Ze7 (a0 : (List Z5)) (b0 : Int) : Option (Int × Int) := (Zew a0 b0).bind (endO Zba)
abbrev Zat := Empty
def Zk2 : Zat → Option (Zat ⊕ (Bool × Int)) := fun s => nomatch s
def Zeb (a0 : (List Z5)) (b0 : Int) : Option (Zat ⊕ (Bool × Int)) :=
 Option.bind (Ze7 a0 b0) fun x1 =>
 some (.inr (decide (x1.1 ≥ 0), x1.2))
noncomputable def Zcw (a0 : (List Z5)) (b0 : Int) : Option (Bool × Int) := (Zeb a0 b0).bind (endO Zk2)
abbrev Zg7 := Empty
def Zaby : Zg7 → Option (Zg7 ⊕ Bool) := fun s => nomatch s
def Zr2 (a0 : Int) (b0 : Zab) (b1 : Int) : Option (Zg7 ⊕ Bool) :=
 bif (b0.Pending.Kind != 0) then
 bif (b0.Pending.Player == b1) then
 Option.bind (Zcw b0.Pending.Options a0) fun x3 =>
 some (.inr x3.1)
 else
 some (.inr false)
 else
 some (.inr false)
noncomputable def Zpw (a0 : Int) (b0 : Zab) (b1 : Int) : Option Bool := (Zr2 a0 b0 b1).bind (endO Zaby)
inductive Znr where
 | L0 (E0 : Zab) (E1 : Int) (E2 : Zas) (E3 : Zd) (E4 : Zas) (v47 : (List Zaa)) (v48 : Int) (v49 : Int)
 | L1 (E0 : Zab) (E1 : Int) (E2 : Zas) (E3 : Zd) (E4 : Zas) (v86 : (List Zf)) (v87 : Int) (v88 : Int)
def Zya (E0 : Zab) (E1 : Int) (E2 : Zas) (E3 : Zd) (E4 : Zas) (v47 : (List Zaa)) (v48 : Int) (v49 : Int) : Option (Znr ⊕ Zas) :=
 bif decide (v49 < v48) then
 Option.bind (idx? v47 v49) fun x2 =>
 Option.bind (app? 120 E4.Players [{ x2 with Library := (x2.Library.length : Int), Hand := (x2.Hand.length : Int) }]) fun x7 =>
 bif (v49 == E1) then
 some (.inl (.L0 E0 E1 E2 E3 { E4 with Players := x7, Hand := x2.Hand } v47 v48 (IntKind.wrap .i64 (v49 + 1))))
 else
 some (.inl (.L0 E0 E1 E2 E3 { E4 with Players := x7 } v47 v48 (IntKind.wrap .i64 (v49 + 1))))
 else
 some (.inl (.L1 E0 E1 E2 E3 E4 E3.Objects (E3.Objects.length : Int) 0))
def Zyb (E0 : Zab) (E1 : Int) (E2 : Zas) (E3 : Zd) (E4 : Zas) (v86 : (List Zf)) (v87 : Int) (v88 : Int) : Option (Znr ⊕ Zas) :=
 bif decide (v88 < v87) then
 Option.bind (idx? v86 v88) fun x2 =>
 Option.bind (Ztk E3 E1 x2.Id) fun x4 =>
 bif x4 then
 Option.bind (app? 128 E4.Objects [x2]) fun x8 =>
 some (.inl (.L1 E0 E1 E2 E3 { E4 with Objects := x8 } v86 v87 (IntKind.wrap .i64 (v88 + 1))))
 else
 Option.bind (Zpw x2.Id E0 E1) fun x14 =>
 bif x14 then
 Option.bind (app? 128 E4.Objects [x2]) fun x18 =>
 some (.inl (.L1 E0 E1 E2 E3 { E4 with Objects := x18 } v86 v87 (IntKind.wrap .i64 (v88 + 1))))
 else
 some (.inl (.L1 E0 E1 E2 E3 E4 v86 v87 (IntKind.wrap .i64 (v88 + 1))))
 else
 bif (E0.Pending.Player == E1) then
 Option.bind (Zf3 E0.Pending.Options) fun x27 =>
 some (.inr { E4 with Pending := (⟨E0.Pending.Kind, E0.Pending.Player, E0.Pending.Source, E0.Pending.Least, E0.Pending.Most, E0.Pending.N, x27⟩ : Zdf) })
 else
 some (.inr { E4 with Pending := (⟨E0.Pending.Kind, E0.Pending.Player, 0, 0, 0, 0, ([] : (List Z5))⟩ : Zdf) })
def Zwv : Znr → Option (Znr ⊕ Zas)
 | .L0 E0 E1 E2 E3 E4 v47 v48 v49 => Zya E0 E1 E2 E3 E4 v47 v48 v49
 | .L1 E0 E1 E2 E3 E4 v86 v87 v88 => Zyb E0 E1 E2 E3 E4 v86 v87 v88
def Zapc (a0 : Zab) (a1 : Int) : Option (Znr ⊕ Zas) :=
 Option.bind (Z7u a0.State) fun x1 =>
 some (.inl (.L0 a0 a1 (⟨0, ([] : (List Zcy)), ([] : (List Int)), ([] : (List Zf)), ([] : (List Int)), ([] : (List Int)), ([] : (List Zao)), ([] : (List Z7)), ([] : (List Zar)), 0, 0, 0, 0, 0, 0, 0, 0, ([] : (List Int)), (⟨0, 0, 0, 0, 0, 0, ([] : (List Z5))⟩ : Zdf)⟩ : Zas) x1 { x1 with Player := a1, Players := ([] : (List Zcy)), Hand := ([] : (List Int)), Objects := ([] : (List Zf)), Pending := (⟨0, 0, 0, 0, 0, 0, ([] : (List Z5))⟩ : Zdf) } x1.Players (x1.Players.length : Int) 0))
noncomputable def Z5m (a0 : Zab) (a1 : Int) : Option Zas := (Zapc a0 a1).bind (endO Zwv)
inductive Zly where
 | L0 (v0 : (List Int)) (v1 : (List Int)) (v5 : Int)
def Zu4 (v0 : (List Int)) (v1 : (List Int)) (v5 : Int) : Option (Zly ⊕ Bool) :=
 bif decide (v5 < (v0.length : Int)) then
 Option.bind (idx? v0 v5) fun x3 =>
 Option.bind (idx? v1 v5) fun x5 =>
 bif (x3 != x5) then
 some (.inr false)
 else
 some (.inl (.L0 v0 v1 (IntKind.wrap .i64 (v5 + 1))))
 else
 some (.inr true)
def Z8d : Zly → Option (Zly ⊕ Bool)
 | .L0 v0 v1 v5 => Zu4 v0 v1 v5
def Zak3 (a0 : (List Int)) (a1 : (List Int)) : Option (Zly ⊕ Bool) :=
 bif ((a0.length : Int) != (a1.length : Int)) then
 some (.inr false)
 else
 some (.inl (.L0 a0 a1 0))
noncomputable def Zak4 (a0 : (List Int)) (a1 : (List Int)) : Option Bool := (Zak3 a0 a1).bind (endO Z8d)
inductive Zcg where
 | L0 (v0 : (List Int)) (v1 : (List Int)) (v12 : Int) (v13 : Int)
def Zgc (v0 : (List Int)) (v1 : (List Int)) (v12 : Int) (v13 : Int) : Option (Zcg ⊕ Bool) :=
 bif decide (v13 < v12) then
 Option.bind (idx? v0 v13) fun x2 =>
 Option.bind (idx? v1 v13) fun x4 =>
 bif (x2 != x4) then
 some (.inr false)
 else
 some (.inl (.L0 v0 v1 v12 (IntKind.wrap .i64 (v13 + 1))))
 else
 some (.inr true)
def Zmy : Zcg → Option (Zcg ⊕ Bool)
 | .L0 v0 v1 v12 v13 => Zgc v0 v1 v12 v13
def Zo2 (a0 : (List Int)) (a1 : (List Int)) : Option (Zcg ⊕ Bool) :=
 bif ((a0.length : Int) != (a1.length : Int)) then
 some (.inr false)
 else
 some (.inl (.L0 a0 a1 (a0.length : Int) 0))
noncomputable def Zej (a0 : (List Int)) (a1 : (List Int)) : Option Bool := (Zo2 a0 a1).bind (endO Zmy)
inductive Zav where
 | L0 (v0 : (List Zf)) (v1 : (List Zf)) (v12 : Int) (v13 : Int)
def Zcz (v0 : (List Zf)) (v1 : (List Zf)) (v12 : Int) (v13 : Int) : Option (Zav ⊕ Bool) :=
 bif decide (v13 < v12) then
 Option.bind (idx? v0 v13) fun x2 =>
 Option.bind (idx? v1 v13) fun x4 =>
 bif (!(eqTs (Zc x2) (Zc x4))) then
 some (.inr false)
 else
 some (.inl (.L0 v0 v1 v12 (IntKind.wrap .i64 (v13 + 1))))
 else
 some (.inr true)
def Zg8 : Zav → Option (Zav ⊕ Bool)
 | .L0 v0 v1 v12 v13 => Zcz v0 v1 v12 v13
def Zh1 (a0 : (List Zf)) (a1 : (List Zf)) : Option (Zav ⊕ Bool) :=
 bif ((a0.length : Int) != (a1.length : Int)) then
 some (.inr false)
 else
 some (.inl (.L0 a0 a1 (a0.length : Int) 0))
noncomputable def Zf4 (a0 : (List Zf)) (a1 : (List Zf)) : Option Bool := (Zh1 a0 a1).bind (endO Zg8)
abbrev Zlz := Empty
def Zapd : Zlz → Option (Zlz ⊕ Bool) := fun s => nomatch s
def Z24 (a0 : Zcy) (a1 : Zcy) : Option (Zlz ⊕ Bool) :=
 bif (a0.Life == a1.Life) then
 bif (a0.Venom == a1.Venom) then
 bif (a0.Lands == a1.Lands) then
 bif (a0.Library == a1.Library) then
 bif (a0.Hand == a1.Hand) then
 bif eqTs ((cA6 (cI .i64)) a0.Pool) ((cA6 (cI .i64)) a1.Pool) then
 bif (a0.Lost == a1.Lost) then
 Option.bind (Zej a0.Graveyard a1.Graveyard) fun x8 =>
 some (.inr x8)
 else
 some (.inr false)
 else
 some (.inr false)
 else
 some (.inr false)
 else
 some (.inr false)
 else
 some (.inr false)
 else
 some (.inr false)
 else
 some (.inr false)
noncomputable def Zzv (a0 : Zcy) (a1 : Zcy) : Option Bool := (Z24 a0 a1).bind (endO Zapd)
inductive Zaw where
 | L0 (v0 : (List Zaq)) (v1 : (List Zaq)) (v12 : Int) (v13 : Int)
def Zc0 (v0 : (List Zaq)) (v1 : (List Zaq)) (v12 : Int) (v13 : Int) : Option (Zaw ⊕ Bool) :=
 bif decide (v13 < v12) then
 Option.bind (idx? v0 v13) fun x2 =>
 Option.bind (idx? v1 v13) fun x4 =>
 bif (!(eqTs (Zae x2) (Zae x4))) then
 some (.inr false)
 else
 some (.inl (.L0 v0 v1 v12 (IntKind.wrap .i64 (v13 + 1))))
 else
 some (.inr true)
def Zg9 : Zaw → Option (Zaw ⊕ Bool)
 | .L0 v0 v1 v12 v13 => Zc0 v0 v1 v12 v13
def Zh2 (a0 : (List Zaq)) (a1 : (List Zaq)) : Option (Zaw ⊕ Bool) :=
 bif ((a0.length : Int) != (a1.length : Int)) then
 some (.inr false)
 else
 some (.inl (.L0 a0 a1 (a0.length : Int) 0))
noncomputable def Zf5 (a0 : (List Zaq)) (a1 : (List Zaq)) : Option Bool := (Zh2 a0 a1).bind (endO Zg9)
inductive Zbf where
 | L0 (v0 : (List Zh)) (v1 : (List Zh)) (v12 : Int) (v13 : Int)
def Zea (v0 : (List Zh)) (v1 : (List Zh)) (v12 : Int) (v13 : Int) : Option (Zbf ⊕ Bool) :=
 bif decide (v13 < v12) then
 Option.bind (idx? v0 v13) fun x2 =>
 Option.bind (idx? v1 v13) fun x4 =>
 bif (!(eqTs (Zp x2) (Zp x4))) then
 some (.inr false)
 else
 some (.inl (.L0 v0 v1 v12 (IntKind.wrap .i64 (v13 + 1))))
 else
 some (.inr true)
def Zi8 : Zbf → Option (Zbf ⊕ Bool)
 | .L0 v0 v1 v12 v13 => Zea v0 v1 v12 v13
def Zkn (a0 : (List Zh)) (a1 : (List Zh)) : Option (Zbf ⊕ Bool) :=
 bif ((a0.length : Int) != (a1.length : Int)) then
 some (.inr false)
 else
 some (.inl (.L0 a0 a1 (a0.length : Int) 0))
noncomputable def Ze6 (a0 : (List Zh)) (a1 : (List Zh)) : Option Bool := (Zkn a0 a1).bind (endO Zi8)
inductive Za9 where
 | L0 (v0 : (List Zaj)) (v1 : (List Zaj)) (v12 : Int) (v13 : Int)
def Zdl (v0 : (List Zaj)) (v1 : (List Zaj)) (v12 : Int) (v13 : Int) : Option (Za9 ⊕ Bool) :=
 bif decide (v13 < v12) then
 Option.bind (idx? v0 v13) fun x2 =>
 Option.bind (idx? v1 v13) fun x4 =>
 bif (!(eqTs (Z3 x2) (Z3 x4))) then
 some (.inr false)
 else
 some (.inl (.L0 v0 v1 v12 (IntKind.wrap .i64 (v13 + 1))))
 else
 some (.inr true)
def Zil : Za9 → Option (Za9 ⊕ Bool)
 | .L0 v0 v1 v12 v13 => Zdl v0 v1 v12 v13
def Zjq (a0 : (List Zaj)) (a1 : (List Zaj)) : Option (Za9 ⊕ Bool) :=
 bif ((a0.length : Int) != (a1.length : Int)) then
 some (.inr false)
 else
 some (.inl (.L0 a0 a1 (a0.length : Int) 0))
noncomputable def Zhg (a0 : (List Zaj)) (a1 : (List Zaj)) : Option Bool := (Zjq a0 a1).bind (endO Zil)
abbrev Zjx := Empty
def Zak5 : Zjx → Option (Zjx ⊕ Bool) := fun s => nomatch s
def Zyr (a0 : Zk) (a1 : Zk) : Option (Zjx ⊕ Bool) :=
 bif (a0.Op == a1.Op) then
 bif eqTs (Zfk a0.Ref) (Zfk a1.Ref) then
 bif eqTs (Zb2 a0.Amount) (Zb2 a1.Amount) then
 bif (a0.Counter == a1.Counter) then
 bif (a0.Zone == a1.Zone) then
 bif (a0.Card == a1.Card) then
 bif eqTs (Zx a0.Filter) (Zx a1.Filter) then
 bif eqTs ((cA6 (cI .i64)) a0.Pool) ((cA6 (cI .i64)) a1.Pool) then
 Option.bind (Ze6 a0.Mods a1.Mods) fun x9 =>
 some (.inr x9)
 else
 some (.inr false)
 else
 some (.inr false)
 else
 some (.inr false)
 else
 some (.inr false)
 else
 some (.inr false)
 else
 some (.inr false)
 else
 some (.inr false)
 else
 some (.inr false)
noncomputable def Zvu (a0 : Zk) (a1 : Zk) : Option Bool := (Zyr a0 a1).bind (endO Zak5)
inductive Zt where
 | L0 (v1 : (List Zk)) (v15 : (List Zk)) (v16 : Int) (v17 : Int)
def Zad (v1 : (List Zk)) (v15 : (List Zk)) (v16 : Int) (v17 : Int) : Option (Zt ⊕ Bool) :=
 bif decide (v17 < v16) then
 Option.bind (idx? v15 v17) fun x2 =>
 Option.bind (idx? v1 v17) fun x4 =>
 Option.bind (Zvu x2 x4) fun x6 =>
 bif (!x6) then
 some (.inr false)
 else
 some (.inl (.L0 v1 v15 v16 (IntKind.wrap .i64 (v17 + 1))))
 else
 some (.inr true)
def Zb3 : Zt → Option (Zt ⊕ Bool)
 | .L0 v1 v15 v16 v17 => Zad v1 v15 v16 v17
def Zb5 (a0 : (List Zk)) (a1 : (List Zk)) : Option (Zt ⊕ Bool) :=
 bif ((a0.length : Int) != (a1.length : Int)) then
 some (.inr false)
 else
 some (.inl (.L0 a1 a0 (a0.length : Int) 0))
noncomputable def Zbc (a0 : (List Zk)) (a1 : (List Zk)) : Option Bool := (Zb5 a0 a1).bind (endO Zb3)
abbrev Zi9 := Empty
def Zair : Zi9 → Option (Zi9 ⊕ Bool) := fun s => nomatch s
def Zww (a0 : Zs) (a1 : Zs) : Option (Zi9 ⊕ Bool) :=
 bif (a0.Kind == a1.Kind) then
 bif eqTs (Zx a0.Filter) (Zx a1.Filter) then
 Option.bind (Ze6 a0.Mods a1.Mods) fun x3 =>
 bif x3 then
 bif eqTs (Ze2 a0.Price) (Ze2 a1.Price) then
 bif (a0.Slow == a1.Slow) then
 bif eqTs (Zc4 a0.Trigger) (Zc4 a1.Trigger) then
 bif (a0.May == a1.May) then
 Option.bind (Zhg a0.Specs a1.Specs) fun x10 =>
 bif x10 then
 Option.bind (Zbc a0.Effects a1.Effects) fun x13 =>
 bif x13 then
 some (.inr (eqTs (Zbw a0.Replace) (Zbw a1.Replace)))
 else
 some (.inr false)
 else
 some (.inr false)
 else
 some (.inr false)
 else
 some (.inr false)
 else
 some (.inr false)
 else
 some (.inr false)
 else
 some (.inr false)
 else
 some (.inr false)
 else
 some (.inr false)
noncomputable def Zpo (a0 : Zs) (a1 : Zs) : Option Bool := (Zww a0 a1).bind (endO Zair)
abbrev Zl0 := Empty
def Zape : Zl0 → Option (Zl0 ⊕ Bool) := fun s => nomatch s
def Z25 (a0 : Zao) (a1 : Zao) : Option (Zl0 ⊕ Bool) :=
 bif (a0.Id == a1.Id) then
 bif (a0.Kind == a1.Kind) then
 bif (a0.Source == a1.Source) then
 bif (a0.Control == a1.Control) then
 bif (a0.X == a1.X) then
 bif (a0.Copy == a1.Copy) then
 bif eqTs (Zic a0.Event) (Zic a1.Event) then
 Option.bind (Zf5 a0.Targets a1.Targets) fun x8 =>
 bif x8 then
 Option.bind (Zpo a0.Ability a1.Ability) fun x11 =>
 some (.inr x11)
 else
 some (.inr false)
 else
 some (.inr false)
 else
 some (.inr false)
 else
 some (.inr false)
 else
 some (.inr false)
 else
 some (.inr false)
 else
 some (.inr false)
 else
 some (.inr false)
noncomputable def Zzw (a0 : Zao) (a1 : Zao) : Option Bool := (Z25 a0 a1).bind (endO Zape)
abbrev Zja := Empty
def Zais : Zja → Option (Zja ⊕ Bool) := fun s => nomatch s
def Zwx (a0 : Z7) (a1 : Z7) : Option (Zja ⊕ Bool) :=
 bif (a0.Source == a1.Source) then
 bif (a0.Control == a1.Control) then
 bif eqTs (Zic a0.Event) (Zic a1.Event) then
 Option.bind (Zpo a0.Ability a1.Ability) fun x4 =>
 some (.inr x4)
 else
 some (.inr false)
 else
 some (.inr false)
 else
 some (.inr false)
noncomputable def Ztm (a0 : Z7) (a1 : Z7) : Option Bool := (Zwx a0 a1).bind (endO Zais)
abbrev Zl1 := Empty
def Zapf : Zl1 → Option (Zl1 ⊕ Bool) := fun s => nomatch s
def Z26 (a0 : Zar) (a1 : Zar) : Option (Zl1 ⊕ Bool) :=
 bif (a0.Stamp == a1.Stamp) then
 bif (a0.Control == a1.Control) then
 bif (a0.Source == a1.Source) then
 bif (a0.Until == a1.Until) then
 Option.bind (Zej a0.Objects a1.Objects) fun x5 =>
 bif x5 then
 Option.bind (Ze6 a0.Mods a1.Mods) fun x8 =>
 some (.inr x8)
 else
 some (.inr false)
 else
 some (.inr false)
 else
 some (.inr false)
 else
 some (.inr false)
 else
 some (.inr false)
noncomputable def Zzx (a0 : Zar) (a1 : Zar) : Option Bool := (Z26 a0 a1).bind (endO Zapf)
inductive Zax where
 | L0 (v0 : (List Z5)) (v1 : (List Z5)) (v12 : Int) (v13 : Int)
def Zc1 (v0 : (List Z5)) (v1 : (List Z5)) (v12 : Int) (v13 : Int) : Option (Zax ⊕ Bool) :=
 bif decide (v13 < v12) then
 Option.bind (idx? v0 v13) fun x2 =>
 Option.bind (idx? v1 v13) fun x4 =>
 bif (!(eqTs (Zu x2) (Zu x4))) then
 some (.inr false)
 else
 some (.inl (.L0 v0 v1 v12 (IntKind.wrap .i64 (v13 + 1))))
 else
 some (.inr true)
def Zha : Zax → Option (Zax ⊕ Bool)
 | .L0 v0 v1 v12 v13 => Zc1 v0 v1 v12 v13
def Zh3 (a0 : (List Z5)) (a1 : (List Z5)) : Option (Zax ⊕ Bool) :=
 bif ((a0.length : Int) != (a1.length : Int)) then
 some (.inr false)
 else
 some (.inl (.L0 a0 a1 (a0.length : Int) 0))
noncomputable def Zf6 (a0 : (List Z5)) (a1 : (List Z5)) : Option Bool := (Zh3 a0 a1).bind (endO Zha)
abbrev Zjy := Empty
def Zak6 : Zjy → Option (Zjy ⊕ Bool) := fun s => nomatch s
def Zys (a0 : Zdf) (a1 : Zdf) : Option (Zjy ⊕ Bool) :=
 bif (a0.Kind == a1.Kind) then
 bif (a0.Player == a1.Player) then
 bif (a0.Source == a1.Source) then
 bif (a0.Least == a1.Least) then
 bif (a0.Most == a1.Most) then
 bif (a0.N == a1.N) then
 Option.bind (Zf6 a0.Options a1.Options) fun x7 =>
 some (.inr x7)
 else
 some (.inr false)
 else
 some (.inr false)
 else
 some (.inr false)
 else
 some (.inr false)
 else
 some (.inr false)
 else
 some (.inr false)
noncomputable def Zvv (a0 : Zdf) (a1 : Zdf) : Option Bool := (Zys a0 a1).bind (endO Zak6)
inductive Zy where
 | L0 (v1 : (List Zcy)) (v15 : (List Zcy)) (v16 : Int) (v17 : Int)
def Zak (v1 : (List Zcy)) (v15 : (List Zcy)) (v16 : Int) (v17 : Int) : Option (Zy ⊕ Bool) :=
 bif decide (v17 < v16) then
 Option.bind (idx? v15 v17) fun x2 =>
 Option.bind (idx? v1 v17) fun x4 =>
 Option.bind (Zzv x2 x4) fun x6 =>
 bif (!x6) then
 some (.inr false)
 else
 some (.inl (.L0 v1 v15 v16 (IntKind.wrap .i64 (v17 + 1))))
 else
 some (.inr true)
def Zcd : Zy → Option (Zy ⊕ Bool)
 | .L0 v1 v15 v16 v17 => Zak v1 v15 v16 v17
def Zck (a0 : (List Zcy)) (a1 : (List Zcy)) : Option (Zy ⊕ Bool) :=
 bif ((a0.length : Int) != (a1.length : Int)) then
 some (.inr false)
 else
 some (.inl (.L0 a1 a0 (a0.length : Int) 0))
noncomputable def Zbq (a0 : (List Zcy)) (a1 : (List Zcy)) : Option Bool := (Zck a0 a1).bind (endO Zcd)
inductive Zz where
 | L0 (v1 : (List Zao)) (v15 : (List Zao)) (v16 : Int) (v17 : Int)
def Zal (v1 : (List Zao)) (v15 : (List Zao)) (v16 : Int) (v17 : Int) : Option (Zz ⊕ Bool) :=
 bif decide (v17 < v16) then
 Option.bind (idx? v15 v17) fun x2 =>
 Option.bind (idx? v1 v17) fun x4 =>
 Option.bind (Zzw x2 x4) fun x6 =>
 bif (!x6) then
 some (.inr false)
 else
 some (.inl (.L0 v1 v15 v16 (IntKind.wrap .i64 (v17 + 1))))
 else
 some (.inr true)
def Zce : Zz → Option (Zz ⊕ Bool)
 | .L0 v1 v15 v16 v17 => Zal v1 v15 v16 v17
def Zcl (a0 : (List Zao)) (a1 : (List Zao)) : Option (Zz ⊕ Bool) :=
 bif ((a0.length : Int) != (a1.length : Int)) then
 some (.inr false)
 else
 some (.inl (.L0 a1 a0 (a0.length : Int) 0))
noncomputable def Zbr (a0 : (List Zao)) (a1 : (List Zao)) : Option Bool := (Zcl a0 a1).bind (endO Zce)
inductive Zo where
 | L0 (v1 : (List Z7)) (v15 : (List Z7)) (v16 : Int) (v17 : Int)
def Z9 (v1 : (List Z7)) (v15 : (List Z7)) (v16 : Int) (v17 : Int) : Option (Zo ⊕ Bool) :=
 bif decide (v17 < v16) then
 Option.bind (idx? v15 v17) fun x2 =>
 Option.bind (idx? v1 v17) fun x4 =>
 Option.bind (Ztm x2 x4) fun x6 =>
 bif (!x6) then
 some (.inr false)
 else
 some (.inl (.L0 v1 v15 v16 (IntKind.wrap .i64 (v17 + 1))))
 else
 some (.inr true)
def Zbp : Zo → Option (Zo ⊕ Bool)
 | .L0 v1 v15 v16 v17 => Z9 v1 v15 v16 v17
def Zbu (a0 : (List Z7)) (a1 : (List Z7)) : Option (Zo ⊕ Bool) :=
 bif ((a0.length : Int) != (a1.length : Int)) then
 some (.inr false)
 else
 some (.inl (.L0 a1 a0 (a0.length : Int) 0))
noncomputable def Za5 (a0 : (List Z7)) (a1 : (List Z7)) : Option Bool := (Zbu a0 a1).bind (endO Zbp)
inductive Z0 where
 | L0 (v1 : (List Zar)) (v15 : (List Zar)) (v16 : Int) (v17 : Int)
def Zam (v1 : (List Zar)) (v15 : (List Zar)) (v16 : Int) (v17 : Int) : Option (Z0 ⊕ Bool) :=
 bif decide (v17 < v16) then
 Option.bind (idx? v15 v17) fun x2 =>
 Option.bind (idx? v1 v17) fun x4 =>
 Option.bind (Zzx x2 x4) fun x6 =>
 bif (!x6) then
 some (.inr false)
 else
 some (.inl (.L0 v1 v15 v16 (IntKind.wrap .i64 (v17 + 1))))
 else
 some (.inr true)
def Zcf : Z0 → Option (Z0 ⊕ Bool)
 | .L0 v1 v15 v16 v17 => Zam v1 v15 v16 v17
def Zcm (a0 : (List Zar)) (a1 : (List Zar)) : Option (Z0 ⊕ Bool) :=
 bif ((a0.length : Int) != (a1.length : Int)) then
 some (.inr false)
 else
 some (.inl (.L0 a1 a0 (a0.length : Int) 0))
noncomputable def Zbs (a0 : (List Zar)) (a1 : (List Zar)) : Option Bool := (Zcm a0 a1).bind (endO Zcf)
inductive Zng where
 | L0 (E0 : Zas) (E1 : Zas) (v5 : Bool)
def Zns (E0 : Zas) (E1 : Zas) (v5 : Bool) : Option (Zng ⊕ Bool) :=
 bif v5 then
 Option.bind (Zbq E0.Players E1.Players) fun x2 =>
 bif x2 then
 Option.bind (Zbr E0.Stack E1.Stack) fun x5 =>
 bif x5 then
 Option.bind (Za5 E0.Waiting E1.Waiting) fun x8 =>
 bif x8 then
 Option.bind (Zbs E0.Conts E1.Conts) fun x11 =>
 bif x11 then
 Option.bind (Zvv E0.Pending E1.Pending) fun x14 =>
 some (.inr x14)
 else
 some (.inr false)
 else
 some (.inr false)
 else
 some (.inr false)
 else
 some (.inr false)
 else
 some (.inr false)
def Za4t : Zng → Option (Zng ⊕ Bool)
 | .L0 E0 E1 v5 => Zns E0 E1 v5
def Zag2 (a0 : Zas) (a1 : Zas) : Option (Zng ⊕ Bool) :=
 bif (a0.Player != a1.Player) then
 some (.inr false)
 else
 bif (a0.Turn != a1.Turn) then
 some (.inr false)
 else
 bif (a0.Active != a1.Active) then
 some (.inr false)
 else
 bif (a0.Step != a1.Step) then
 some (.inr false)
 else
 bif (a0.Priority != a1.Priority) then
 some (.inr false)
 else
 bif (a0.Passes != a1.Passes) then
 some (.inr false)
 else
 bif (a0.NextId != a1.NextId) then
 some (.inr false)
 else
 bif (a0.Over != a1.Over) then
 some (.inr false)
 else
 bif (a0.Winner != a1.Winner) then
 some (.inr false)
 else
 Option.bind (Zej a0.Hand a1.Hand) fun x10 =>
 bif x10 then
 Option.bind (Zf4 a0.Objects a1.Objects) fun x13 =>
 bif x13 then
 Option.bind (Zej a0.Battlefield a1.Battlefield) fun x16 =>
 bif x16 then
 Option.bind (Zej a0.Exile a1.Exile) fun x19 =>
 bif x19 then
 Option.bind (Zej a0.Extra a1.Extra) fun x22 =>
 Zns a0 a1 x22
 else
 Zns a0 a1 false
 else
 Zns a0 a1 false
 else
 Zns a0 a1 false
 else
 Zns a0 a1 false
noncomputable def Z7v (a0 : Zas) (a1 : Zas) : Option Bool := (Zag2 a0 a1).bind (endO Za4t)
abbrev Zqv := Empty
def Za4u : Zqv → Option (Zqv ⊕ Bool) := fun s => nomatch s
def Zag3 : Option (Zqv ⊕ Bool) :=
 Option.bind (Z7t) fun x1 =>
 Option.bind (Z5m x1 0) fun x3 =>
 Option.bind (Z5m x1 1) fun x5 =>
 bif ((x3.Objects.length : Int) == 2) then
 Option.bind (idx? x3.Objects 0) fun x9 =>
 bif (x9.Id == 1) then
 Option.bind (idx? x3.Objects 1) fun x12 =>
 bif (x12.Id == 3) then
 bif ((x3.Pending.Options.length : Int) == 1) then
 Option.bind (Zak4 x3.Hand [1]) fun x18 =>
 bif x18 then
 bif ((x5.Objects.length : Int) == 1) then
 Option.bind (idx? x5.Objects 0) fun x23 =>
 bif (x23.Id == 2) then
 bif ((x5.Pending.Options.length : Int) == 0) then
 bif (x5.Pending.Kind == 3) then
 bif ((x5.Players.length : Int) == 2) then
 Option.bind (idx? x5.Players 0) fun x31 =>
 bif (x31.Hand == 1) then
 bif (x31.Library == 1) then
 Option.bind (Ztk x1.State 0 1) fun x35 =>
 bif x35 then
 Option.bind (Ztk x1.State 1 1) fun x38 =>
 bif (!x38) then
 Option.bind (Ztk x1.State 0 3) fun x41 =>
 bif (!x41) then
 Option.bind (Z7v x3 x3) fun x44 =>
 bif x44 then
 Option.bind (Z7v x3 x5) fun x47 =>
 some (.inr (!x47))
 else
 some (.inr false)
 else
 some (.inr false)
 else
 some (.inr false)
 else
 some (.inr false)
 else
 some (.inr false)
 else
 some (.inr false)
 else
 some (.inr false)
 else
 some (.inr false)
 else
 some (.inr false)
 else
 some (.inr false)
 else
 some (.inr false)
 else
 some (.inr false)
 else
 some (.inr false)
 else
 some (.inr false)
 else
 some (.inr false)
 else
 some (.inr false)
noncomputable def Z11 : Option Bool := (Zag3).bind (endO Za4u)
inductive Znh where
 | L0 (v0 : (List Int)) (v1 : Int) (v5 : Int)
def Zr3 (v0 : (List Int)) (v1 : Int) (v5 : Int) : Option (Znh ⊕ Int) :=
 bif decide (v5 < (v0.length : Int)) then
 Option.bind (idx? v0 v5) fun x3 =>
 bif (x3 == v1) then
 some (.inr v5)
 else
 some (.inl (.L0 v0 v1 (IntKind.wrap .i64 (v5 + 1))))
 else
 some (.inr (-1))
def Zpe : Znh → Option (Znh ⊕ Int)
 | .L0 v0 v1 v5 => Zr3 v0 v1 v5
def Zag4 (a0 : (List Int)) (a1 : Int) : Option (Znh ⊕ Int) :=
 some (.inl (.L0 a0 a1 0))
noncomputable def Zapg (a0 : (List Int)) (a1 : Int) : Option Int := (Zag4 a0 a1).bind (endO Zpe)
abbrev Zwy := Empty
def Zbdl : Zwy → Option (Zwy ⊕ Bool) := fun s => nomatch s
def Zaph (a0 : (List Int)) (a1 : Int) : Option (Zwy ⊕ Bool) :=
 Option.bind (Zapg a0 a1) fun x1 =>
 some (.inr (decide (x1 ≥ 0)))
noncomputable def Zast (a0 : (List Int)) (a1 : Int) : Option Bool := (Zaph a0 a1).bind (endO Zbdl)
inductive Zni where
 | L0 (v1 : Int) (v2 : Int) (E0 : Zd) (v7 : Int)
def Znt (v1 : Int) (v2 : Int) (E0 : Zd) (v7 : Int) : Option (Zni ⊕ Bool) :=
 bif decide (v7 < (E0.Objects.length : Int)) then
 Option.bind (idx? E0.Objects v7) fun x3 =>
 bif (x3.Id == v2) then
 bif (x3.Zone != 2) then
 bif (x3.Zone != 1) then
 some (.inr true)
 else
 bif decide (v1 ≥ 0) then
 bif decide (v1 < (E0.Players.length : Int)) then
 Option.bind (idx? E0.Players v1) fun x11 =>
 Option.bind (Zast x11.Hand v2) fun x13 =>
 some (.inr x13)
 else
 some (.inr false)
 else
 some (.inr false)
 else
 some (.inr false)
 else
 some (.inl (.L0 v1 v2 E0 (IntKind.wrap .i64 (v7 + 1))))
 else
 some (.inr false)
def Z5n : Zni → Option (Zni ⊕ Bool)
 | .L0 v1 v2 E0 v7 => Znt v1 v2 E0 v7
def Zag5 (a0 : Zd) (a1 : Int) (a2 : Int) : Option (Zni ⊕ Bool) :=
 some (.inl (.L0 a1 a2 a0 0))
noncomputable def Zafd (a0 : Zd) (a1 : Int) (a2 : Int) : Option Bool := (Zag5 a0 a1 a2).bind (endO Z5n)
inductive Znj where
 | L0 (v1 : Int) (v2 : Int) (E0 : Zab) (v7 : Int)
def Zko (v1 : Int) (v2 : Int) (E0 : Zab) (v7 : Int) : Option (Znj ⊕ Bool) :=
 bif decide (v7 < (E0.Pending.Options.length : Int)) then
 bif (E0.Pending.Kind != 0) then
 bif (E0.Pending.Player == v1) then
 Option.bind (idx? E0.Pending.Options v7) fun x5 =>
 bif (x5.Kind == 5) then
 Option.bind (idx? E0.State.Objects v2) fun x8 =>
 bif (x5.A == x8.Id) then
 some (.inr true)
 else
 some (.inl (.L0 v1 v2 E0 (IntKind.wrap .i64 (v7 + 1))))
 else
 some (.inl (.L0 v1 v2 E0 (IntKind.wrap .i64 (v7 + 1))))
 else
 some (.inr false)
 else
 some (.inr false)
 else
 some (.inr false)
def Zyc : Znj → Option (Znj ⊕ Bool)
 | .L0 v1 v2 E0 v7 => Zko v1 v2 E0 v7
def Zag6 (a0 : Zab) (a1 : Int) (a2 : Int) : Option (Znj ⊕ Bool) :=
 Option.bind (idx? a0.State.Objects a2) fun x1 =>
 Option.bind (Zafd a0.State a1 x1.Id) fun x3 =>
 bif x3 then
 some (.inr true)
 else
 some (.inl (.L0 a1 a2 a0 0))
noncomputable def Zafe (a0 : Zab) (a1 : Int) (a2 : Int) : Option Bool := (Zag6 a0 a1 a2).bind (endO Zyc)
inductive Zfx where
 | L0 (v1 : Int) (E0 : Zab) (E1 : Zas) (v6 : Int)
 | L1 (v1 : Int) (E0 : Zab) (E1 : Zas) (v8 : Int) (v9 : Int)
def Zme (v1 : Int) (E0 : Zab) (E1 : Zas) (v6 : Int) : Option (Zfx ⊕ Bool) :=
 bif decide (v6 < (E1.Players.length : Int)) then
 Option.bind (idx? E0.State.Players v6) fun x3 =>
 Option.bind (idx? E1.Players v6) fun x5 =>
 bif (x5.Library != (x3.Library.length : Int)) then
 some (.inr false)
 else
 bif (x5.Hand != (x3.Hand.length : Int)) then
 some (.inr false)
 else
 bif (x5.Life != x3.Life) then
 some (.inr false)
 else
 some (.inl (.L0 v1 E0 E1 (IntKind.wrap .i64 (v6 + 1))))
 else
 some (.inl (.L1 v1 E0 E1 0 0))
def Zmf (v1 : Int) (E0 : Zab) (E1 : Zas) (v8 : Int) (v9 : Int) : Option (Zfx ⊕ Bool) :=
 bif decide (v9 < (E0.State.Objects.length : Int)) then
 Option.bind (Zafe E0 v1 v9) fun x3 =>
 bif x3 then
 bif decide (v8 ≥ (E1.Objects.length : Int)) then
 some (.inr false)
 else
 Option.bind (idx? E1.Objects v8) fun x8 =>
 Option.bind (idx? E0.State.Objects v9) fun x10 =>
 bif (!(eqTs (Zc x8) (Zc x10))) then
 some (.inr false)
 else
 some (.inl (.L1 v1 E0 E1 (IntKind.wrap .i64 (v8 + 1)) (IntKind.wrap .i64 (v9 + 1))))
 else
 some (.inl (.L1 v1 E0 E1 v8 (IntKind.wrap .i64 (v9 + 1))))
 else
 bif (v8 == (E1.Objects.length : Int)) then
 bif (v1 == E0.Pending.Player) then
 Option.bind (Z11) fun x22 =>
 some (.inr x22)
 else
 bif ((E1.Pending.Options.length : Int) == 0) then
 Option.bind (Z11) fun x26 =>
 some (.inr x26)
 else
 some (.inr false)
 else
 some (.inr false)
def Zve : Zfx → Option (Zfx ⊕ Bool)
 | .L0 v1 E0 E1 v6 => Zme v1 E0 E1 v6
 | .L1 v1 E0 E1 v8 v9 => Zmf v1 E0 E1 v8 v9
def Z0r (a0 : Zab) (a1 : Int) : Option (Zfx ⊕ Bool) :=
 Option.bind (Zaaz a0) fun x1 =>
 bif (!x1) then
 Option.bind (Z11) fun x4 =>
 some (.inr x4)
 else
 Option.bind (Z5m a0 a1) fun x6 =>
 bif ((x6.Players.length : Int) != (a0.State.Players.length : Int)) then
 some (.inr false)
 else
 some (.inl (.L0 a1 a0 x6 0))
noncomputable def Z5o (a0 : Zab) (a1 : Int) : Option Bool := (Z0r a0 a1).bind (endO Zve)
end
end Go.PW
