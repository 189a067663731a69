import Derived.Test.YtnoofnejcoadfaaGreatDoorQT
import Derived.Test.YtnoofnejcoadfaaGreatDoorQC
set_option linter.all false
set_option maxRecDepth 100000
namespace Go.PW
open Go.RowKit
noncomputable section
structure Zp where
 Generic : Int
 X : Int
 Color : (A5 Int)
 deriving DecidableEq, Inhabited
def Zaq (x : Zp) : List Zf := (cI .i64) x.Generic ++ ((cI .i64) x.X ++ ((cA5 (cI .i64)) x.Color))
instance : Cl Zaq 7 := ⟨fun _ => rfl⟩
structure Zs where
 Super : Int
 Types : Int
 Subs : (List (List UInt8))
 deriving DecidableEq, Inhabited
def Zd6 (x : Zs) : List Zf := (cI .i64) x.Super ++ ((cI .i64) x.Types ++ ((cL cS) x.Subs))
instance : Cl Zd6 3 := ⟨fun _ => rfl⟩
structure Zd where
 Kind : Int
 N : Int
 deriving DecidableEq, Inhabited
def Zck (x : Zd) : List Zf := (cI .i64) x.Kind ++ ((cI .i64) x.N)
instance : Cl Zck 2 := ⟨fun _ => rfl⟩
structure Ze where
 Zone : Int
 Who : Int
 Self : Int
 Types : Int
 NotTypes : Int
 Colors : Int
 NotColors : Int
 Sub : (List UInt8)
 Keys : Int
 Tap : Int
 Power : Zd
 Tough : Zd
 Value : Zd
 deriving DecidableEq, Inhabited
def Zm (x : Ze) : List Zf := (cI .i64) x.Zone ++ ((cI .i64) x.Who ++ ((cI .i64) x.Self ++ ((cI .i64) x.Types ++ ((cI .i64) x.NotTypes ++ ((cI .i64) x.Colors ++ ((cI .i64) x.NotColors ++ (cS x.Sub ++ ((cI .i64) x.Keys ++ ((cI .i64) x.Tap ++ (Zck x.Power ++ (Zck x.Tough ++ (Zck x.Value))))))))))))
instance : Cl Zm 16 := ⟨fun _ => rfl⟩
structure Zr where
 Kind : Int
 N : Int
 M : Int
 Sub : (List UInt8)
 Filter : Ze
 deriving DecidableEq, Inhabited
def Z0 (x : Zr) : List Zf := (cI .i64) x.Kind ++ ((cI .i64) x.N ++ ((cI .i64) x.M ++ (cS x.Sub ++ (Zm x.Filter))))
instance : Cl Z0 20 := ⟨fun _ => rfl⟩
structure Zfj where
 Mana : Zp
 Tap : Bool
 Sacrifice : Bool
 Life : Int
 deriving DecidableEq, Inhabited
def Ze9 (x : Zfj) : List Zf := Zaq x.Mana ++ (cB x.Tap ++ (cB x.Sacrifice ++ ((cI .i64) x.Life)))
instance : Cl Ze9 10 := ⟨fun _ => rfl⟩
structure Zb6 where
 When : Int
 Who : Int
 Filter : Ze
 deriving DecidableEq, Inhabited
def Zdj (x : Zb6) : List Zf := (cI .i64) x.When ++ ((cI .i64) x.Who ++ (Zm x.Filter))
instance : Cl Zdj 18 := ⟨fun _ => rfl⟩
structure Zcs where
 Player : Bool
 Object : Bool
 Filter : Ze
 deriving DecidableEq, Inhabited
def Za6 (x : Zcs) : List Zf := cB x.Player ++ (cB x.Object ++ (Zm x.Filter))
instance : Cl Za6 18 := ⟨fun _ => rfl⟩
structure Zal where
 Kind : Int
 N : Int
 Filter : Ze
 deriving DecidableEq, Inhabited
def Zbg (x : Zal) : List Zf := (cI .i64) x.Kind ++ ((cI .i64) x.N ++ (Zm x.Filter))
instance : Cl Zbg 18 := ⟨fun _ => rfl⟩
structure Z3 where
 Kind : Int
 N : Int
 Counter : Int
 Filter : Ze
 deriving DecidableEq, Inhabited
def Zah (x : Z3) : List Zf := (cI .i64) x.Kind ++ ((cI .i64) x.N ++ ((cI .i64) x.Counter ++ (Zm x.Filter)))
instance : Cl Zah 19 := ⟨fun _ => rfl⟩
structure Zz where
 Op : Int
 Ref : Zal
 Amount : Z3
 Counter : Int
 Zone : Int
 Card : (List UInt8)
 Filter : Ze
 Pool : (A6 Int)
 Mods : (List Zr)
 deriving DecidableEq, Inhabited
def Z5 (x : Zz) : List Zf := (cI .i64) x.Op ++ (Zbg x.Ref ++ (Zah x.Amount ++ ((cI .i64) x.Counter ++ ((cI .i64) x.Zone ++ (cS x.Card ++ (Zm x.Filter ++ ((cA6 (cI .i64)) x.Pool ++ ((cL Z0) x.Mods))))))))
instance : Cl Z5 64 := ⟨fun _ => rfl⟩
structure Zay where
 On : Int
 Who : Int
 Filter : Ze
 Do : Int
 N : Int
 Zone : Int
 Counter : Int
 deriving DecidableEq, Inhabited
def Zbu (x : Zay) : List Zf := (cI .i64) x.On ++ ((cI .i64) x.Who ++ (Zm x.Filter ++ ((cI .i64) x.Do ++ ((cI .i64) x.N ++ ((cI .i64) x.Zone ++ ((cI .i64) x.Counter))))))
instance : Cl Zbu 22 := ⟨fun _ => rfl⟩
structure Zj where
 Kind : Int
 Filter : Ze
 Mods : (List Zr)
 Price : Zfj
 Slow : Bool
 Trigger : Zb6
 May : Bool
 Specs : (List Zcs)
 Effects : (List Zz)
 Replace : Zay
 deriving DecidableEq, Inhabited
def Zu (x : Zj) : List Zf := (cI .i64) x.Kind ++ (Zm x.Filter ++ ((cL Z0) x.Mods ++ (Ze9 x.Price ++ (cB x.Slow ++ (Zdj x.Trigger ++ (cB x.May ++ ((cL Za6) x.Specs ++ ((cL Z5) x.Effects ++ (Zbu x.Replace)))))))))
instance : Cl Zu 72 := ⟨fun _ => rfl⟩
structure Zn where
 Name : (List UInt8)
 Token : Bool
 Cost : Zp
 Color : Int
 Line : Zs
 Power : Int
 Tough : Int
 Keys : Int
 Abilities : (List Zj)
 deriving DecidableEq, Inhabited
def Z6 (x : Zn) : List Zf := cS x.Name ++ (cB x.Token ++ (Zaq x.Cost ++ ((cI .i64) x.Color ++ (Zd6 x.Line ++ ((cI .i64) x.Power ++ ((cI .i64) x.Tough ++ ((cI .i64) x.Keys ++ ((cL Zu) x.Abilities))))))))
instance : Cl Z6 17 := ⟨fun _ => rfl⟩
structure Zam where
 Life : Int
 Venom : Int
 Lands : Int
 Pool : (A6 Int)
 Failed : Bool
 Lost : Bool
 Library : (List Int)
 Hand : (List Int)
 Graveyard : (List Int)
 deriving DecidableEq, Inhabited
def Z2 (x : Zam) : List Zf := (cI .i64) x.Life ++ ((cI .i64) x.Venom ++ ((cI .i64) x.Lands ++ ((cA6 (cI .i64)) x.Pool ++ (cB x.Failed ++ (cB x.Lost ++ ((cL (cI .i64)) x.Library ++ ((cL (cI .i64)) x.Hand ++ ((cL (cI .i64)) x.Graveyard))))))))
instance : Cl Z2 14 := ⟨fun _ => rfl⟩
structure Zg where
 Id : Int
 Card : Int
 Owner : Int
 Control : Int
 Zone : Int
 Token : Bool
 Tapped : Bool
 Sick : Bool
 Deadly : Bool
 Damage : Int
 Counters : (A3 Int)
 Stamp : Int
 Copy : Int
 Attack : Int
 Blocked : Bool
 Blocks : Int
 Shield : Int
 deriving DecidableEq, Inhabited
def Zh (x : Zg) : List Zf := (cI .i64) x.Id ++ ((cI .i64) x.Card ++ ((cI .i64) x.Owner ++ ((cI .i64) x.Control ++ ((cI .i64) x.Zone ++ (cB x.Token ++ (cB x.Tapped ++ (cB x.Sick ++ (cB x.Deadly ++ ((cI .i64) x.Damage ++ ((cA3 (cI .i64)) x.Counters ++ ((cI .i64) x.Stamp ++ ((cI .i64) x.Copy ++ ((cI .i64) x.Attack ++ (cB x.Blocked ++ ((cI .i64) x.Blocks ++ ((cI .i64) x.Shield))))))))))))))))
instance : Cl Zh 19 := ⟨fun _ => rfl⟩
structure Zac where
 Object : Int
 Player : Int
 deriving DecidableEq, Inhabited
def Zbj (x : Zac) : List Zf := (cI .i64) x.Object ++ ((cI .i64) x.Player)
instance : Cl Zbj 2 := ⟨fun _ => rfl⟩
structure Zej where
 Kind : Int
 Source : Int
 Object : Int
 Player : Int
 Amount : Int
 From : Int
 To : Int
 Cause : Int
 Counter : Int
 Card : Int
 Combat : Bool
 Tapped : Bool
 Extra : (A3 Int)
 deriving DecidableEq, Inhabited
def Zjp (x : Zej) : List Zf := (cI .i64) x.Kind ++ ((cI .i64) x.Source ++ ((cI .i64) x.Object ++ ((cI .i64) x.Player ++ ((cI .i64) x.Amount ++ ((cI .i64) x.From ++ ((cI .i64) x.To ++ ((cI .i64) x.Cause ++ ((cI .i64) x.Counter ++ ((cI .i64) x.Card ++ (cB x.Combat ++ (cB x.Tapped ++ ((cA3 (cI .i64)) x.Extra))))))))))))
instance : Cl Zjp 15 := ⟨fun _ => rfl⟩
structure Zee where
 Id : Int
 Kind : Int
 Source : Int
 Control : Int
 X : Int
 Copy : Bool
 Ability : Zj
 Targets : (List Zac)
 Event : Zej
 deriving DecidableEq, Inhabited
def Zai (x : Zee) : List Zf := (cI .i64) x.Id ++ ((cI .i64) x.Kind ++ ((cI .i64) x.Source ++ ((cI .i64) x.Control ++ ((cI .i64) x.X ++ (cB x.Copy ++ (Zu x.Ability ++ ((cL Zbj) x.Targets ++ (Zjp x.Event))))))))
instance : Cl Zai 94 := ⟨fun _ => rfl⟩
structure Zd4 where
 Source : Int
 Control : Int
 Ability : Zj
 Event : Zej
 deriving DecidableEq, Inhabited
def Zab (x : Zd4) : List Zf := (cI .i64) x.Source ++ ((cI .i64) x.Control ++ (Zu x.Ability ++ (Zjp x.Event)))
instance : Cl Zab 89 := ⟨fun _ => rfl⟩
structure Zgo where
 Stamp : Int
 Control : Int
 Source : Int
 Until : Int
 Objects : (List Int)
 Mods : (List Zr)
 deriving DecidableEq, Inhabited
def Zap (x : Zgo) : List Zf := (cI .i64) x.Stamp ++ ((cI .i64) x.Control ++ ((cI .i64) x.Source ++ ((cI .i64) x.Until ++ ((cL (cI .i64)) x.Objects ++ ((cL Z0) x.Mods)))))
instance : Cl Zap 6 := ⟨fun _ => rfl⟩
structure Zb where
 Players : (List Zam)
 Objects : (List Zg)
 Battlefield : (List Int)
 Exile : (List Int)
 Stack : (List Zee)
 Waiting : (List Zd4)
 Conts : (List Zgo)
 Turn : Int
 Active : Int
 Step : Int
 Begun : Bool
 Priority : Int
 Passes : Int
 NextId : Int
 NextStamp : Int
 Seed : Int
 Extra : (List Int)
 Over : Int
 Winner : Int
 deriving DecidableEq, Inhabited
def Zo (x : Zb) : List Zf := (cL Z2) x.Players ++ ((cL Zh) x.Objects ++ ((cL (cI .i64)) x.Battlefield ++ ((cL (cI .i64)) x.Exile ++ ((cL Zai) x.Stack ++ ((cL Zab) x.Waiting ++ ((cL Zap) x.Conts ++ ((cI .i64) x.Turn ++ ((cI .i64) x.Active ++ ((cI .i64) x.Step ++ (cB x.Begun ++ ((cI .i64) x.Priority ++ ((cI .i64) x.Passes ++ ((cI .i64) x.NextId ++ ((cI .i64) x.NextStamp ++ ((cI .u64) x.Seed ++ ((cL (cI .i64)) x.Extra ++ ((cI .i64) x.Over ++ ((cI .i64) x.Winner))))))))))))))))))
instance : Cl Zo 19 := ⟨fun _ => rfl⟩
structure Zy where
 You : Int
 Source : Int
 X : Int
 Targets : (List Zac)
 Event : Zej
 deriving DecidableEq, Inhabited
def Zbo (x : Zy) : List Zf := (cI .i64) x.You ++ ((cI .i64) x.Source ++ ((cI .i64) x.X ++ ((cL Zbj) x.Targets ++ (Zjp x.Event))))
instance : Cl Zbo 19 := ⟨fun _ => rfl⟩
structure Zco where
 Ctx : Zy
 Amount : Z3
 Ref : Zal
 deriving DecidableEq, Inhabited
def Zfn (x : Zco) : List Zf := Zbo x.Ctx ++ (Zah x.Amount ++ (Zbg x.Ref))
instance : Cl Zfn 56 := ⟨fun _ => rfl⟩
structure Za where
 Name : (List UInt8)
 Cost : Zp
 Colors : Int
 Line : Zs
 Power : Int
 Tough : Int
 Keys : Int
 Abilities : (List Zj)
 Control : Int
 deriving DecidableEq, Inhabited
def Zk (x : Za) : List Zf := cS x.Name ++ (Zaq x.Cost ++ ((cI .i64) x.Colors ++ (Zd6 x.Line ++ ((cI .i64) x.Power ++ ((cI .i64) x.Tough ++ ((cI .i64) x.Keys ++ ((cL Zu) x.Abilities ++ ((cI .i64) x.Control))))))))
instance : Cl Zk 17 := ⟨fun _ => rfl⟩
structure Zl where
 Source : Int
 Ability : Int
 Control : Int
 Stamp : Int
 Fixed : Bool
 Objects : (List Int)
 Filter : Ze
 Mods : (List Zr)
 deriving DecidableEq, Inhabited
def Zi (x : Zl) : List Zf := (cI .i64) x.Source ++ ((cI .i64) x.Ability ++ ((cI .i64) x.Control ++ ((cI .i64) x.Stamp ++ (cB x.Fixed ++ ((cL (cI .i64)) x.Objects ++ (Zm x.Filter ++ ((cL Z0) x.Mods)))))))
instance : Cl Zi 23 := ⟨fun _ => rfl⟩
structure Zc where
 S : Zb
 All : (List Za)
 L : (List Zl)
 Begun : (List Bool)
 Sets : (List (List Int))
 Blank : (List Bool)
 deriving DecidableEq, Inhabited
def Z4 (x : Zc) : List Zf := Zo x.S ++ ((cL Zk) x.All ++ ((cL Zi) x.L ++ ((cL cB) x.Begun ++ ((cL (cL (cI .i64))) x.Sets ++ ((cL cB) x.Blank)))))
instance : Cl Z4 24 := ⟨fun _ => rfl⟩
end
end Go.PW
