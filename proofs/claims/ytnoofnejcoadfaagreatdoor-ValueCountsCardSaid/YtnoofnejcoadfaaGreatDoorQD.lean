import Derived.Test.YtnoofnejcoadfaaGreatDoorQT
import Derived.Test.YtnoofnejcoadfaaGreatDoorQC
set_option linter.all false
set_option maxRecDepth 100000
namespace Go.PW
open Go.RowKit
noncomputable section
structure Zp where
 Generic : Int
 X : Int
 Color : (A5 Int)
 deriving DecidableEq, Inhabited
def Zas (x : Zp) : List Zg := (cI .i64) x.Generic ++ ((cI .i64) x.X ++ ((cA5 (cI .i64)) x.Color))
instance : Cl Zas 7 := ⟨fun _ => rfl⟩
structure Zu where
 Super : Int
 Types : Int
 Subs : (List (List UInt8))
 deriving DecidableEq, Inhabited
def Zeb (x : Zu) : List Zg := (cI .i64) x.Super ++ ((cI .i64) x.Types ++ ((cL cS) x.Subs))
instance : Cl Zeb 3 := ⟨fun _ => rfl⟩
structure Zd where
 Kind : Int
 N : Int
 deriving DecidableEq, Inhabited
def Zcq (x : Zd) : List Zg := (cI .i64) x.Kind ++ ((cI .i64) x.N)
instance : Cl Zcq 2 := ⟨fun _ => rfl⟩
structure Ze where
 Zone : Int
 Who : Int
 Self : Int
 Types : Int
 NotTypes : Int
 Colors : Int
 NotColors : Int
 Sub : (List UInt8)
 Keys : Int
 Tap : Int
 Power : Zd
 Tough : Zd
 Value : Zd
 deriving DecidableEq, Inhabited
def Zn (x : Ze) : List Zg := (cI .i64) x.Zone ++ ((cI .i64) x.Who ++ ((cI .i64) x.Self ++ ((cI .i64) x.Types ++ ((cI .i64) x.NotTypes ++ ((cI .i64) x.Colors ++ ((cI .i64) x.NotColors ++ (cS x.Sub ++ ((cI .i64) x.Keys ++ ((cI .i64) x.Tap ++ (Zcq x.Power ++ (Zcq x.Tough ++ (Zcq x.Value))))))))))))
instance : Cl Zn 16 := ⟨fun _ => rfl⟩
structure Zr where
 Kind : Int
 N : Int
 M : Int
 Sub : (List UInt8)
 Filter : Ze
 deriving DecidableEq, Inhabited
def Z1 (x : Zr) : List Zg := (cI .i64) x.Kind ++ ((cI .i64) x.N ++ ((cI .i64) x.M ++ (cS x.Sub ++ (Zn x.Filter))))
instance : Cl Z1 20 := ⟨fun _ => rfl⟩
structure Zfq where
 Mana : Zp
 Tap : Bool
 Sacrifice : Bool
 Life : Int
 deriving DecidableEq, Inhabited
def Zfg (x : Zfq) : List Zg := Zas x.Mana ++ (cB x.Tap ++ (cB x.Sacrifice ++ ((cI .i64) x.Life)))
instance : Cl Zfg 10 := ⟨fun _ => rfl⟩
structure Zcb where
 When : Int
 Who : Int
 Filter : Ze
 deriving DecidableEq, Inhabited
def Zdm (x : Zcb) : List Zg := (cI .i64) x.When ++ ((cI .i64) x.Who ++ (Zn x.Filter))
instance : Cl Zdm 18 := ⟨fun _ => rfl⟩
structure Zcy where
 Player : Bool
 Object : Bool
 Filter : Ze
 deriving DecidableEq, Inhabited
def Za8 (x : Zcy) : List Zg := cB x.Player ++ (cB x.Object ++ (Zn x.Filter))
instance : Cl Za8 18 := ⟨fun _ => rfl⟩
structure Zak where
 Kind : Int
 N : Int
 Filter : Ze
 deriving DecidableEq, Inhabited
def Zbg (x : Zak) : List Zg := (cI .i64) x.Kind ++ ((cI .i64) x.N ++ (Zn x.Filter))
instance : Cl Zbg 18 := ⟨fun _ => rfl⟩
structure Zw where
 Kind : Int
 N : Int
 Counter : Int
 Filter : Ze
 deriving DecidableEq, Inhabited
def Zaf (x : Zw) : List Zg := (cI .i64) x.Kind ++ ((cI .i64) x.N ++ ((cI .i64) x.Counter ++ (Zn x.Filter)))
instance : Cl Zaf 19 := ⟨fun _ => rfl⟩
structure Z0 where
 Op : Int
 Ref : Zak
 Amount : Zw
 Counter : Int
 Zone : Int
 Card : (List UInt8)
 Filter : Ze
 Pool : (A6 Int)
 Mods : (List Zr)
 deriving DecidableEq, Inhabited
def Z6 (x : Z0) : List Zg := (cI .i64) x.Op ++ (Zbg x.Ref ++ (Zaf x.Amount ++ ((cI .i64) x.Counter ++ ((cI .i64) x.Zone ++ (cS x.Card ++ (Zn x.Filter ++ ((cA6 (cI .i64)) x.Pool ++ ((cL Z1) x.Mods))))))))
instance : Cl Z6 64 := ⟨fun _ => rfl⟩
structure Zaz where
 On : Int
 Who : Int
 Filter : Ze
 Do : Int
 N : Int
 Zone : Int
 Counter : Int
 deriving DecidableEq, Inhabited
def Zbz (x : Zaz) : List Zg := (cI .i64) x.On ++ ((cI .i64) x.Who ++ (Zn x.Filter ++ ((cI .i64) x.Do ++ ((cI .i64) x.N ++ ((cI .i64) x.Zone ++ ((cI .i64) x.Counter))))))
instance : Cl Zbz 22 := ⟨fun _ => rfl⟩
structure Zk where
 Kind : Int
 Filter : Ze
 Mods : (List Zr)
 Price : Zfq
 Slow : Bool
 Trigger : Zcb
 May : Bool
 Specs : (List Zcy)
 Effects : (List Z0)
 Replace : Zaz
 deriving DecidableEq, Inhabited
def Zx (x : Zk) : List Zg := (cI .i64) x.Kind ++ (Zn x.Filter ++ ((cL Z1) x.Mods ++ (Zfg x.Price ++ (cB x.Slow ++ (Zdm x.Trigger ++ (cB x.May ++ ((cL Za8) x.Specs ++ ((cL Z6) x.Effects ++ (Zbz x.Replace)))))))))
instance : Cl Zx 72 := ⟨fun _ => rfl⟩
structure Zl where
 Name : (List UInt8)
 Token : Bool
 Cost : Zp
 Color : Int
 Line : Zu
 Power : Int
 Tough : Int
 Keys : Int
 Abilities : (List Zk)
 deriving DecidableEq, Inhabited
def Z4 (x : Zl) : List Zg := cS x.Name ++ (cB x.Token ++ (Zas x.Cost ++ ((cI .i64) x.Color ++ (Zeb x.Line ++ ((cI .i64) x.Power ++ ((cI .i64) x.Tough ++ ((cI .i64) x.Keys ++ ((cL Zx) x.Abilities))))))))
instance : Cl Z4 17 := ⟨fun _ => rfl⟩
structure Za1 where
 Life : Int
 Venom : Int
 Lands : Int
 Pool : (A6 Int)
 Failed : Bool
 Lost : Bool
 Library : (List Int)
 Hand : (List Int)
 Graveyard : (List Int)
 deriving DecidableEq, Inhabited
def Z2 (x : Za1) : List Zg := (cI .i64) x.Life ++ ((cI .i64) x.Venom ++ ((cI .i64) x.Lands ++ ((cA6 (cI .i64)) x.Pool ++ (cB x.Failed ++ (cB x.Lost ++ ((cL (cI .i64)) x.Library ++ ((cL (cI .i64)) x.Hand ++ ((cL (cI .i64)) x.Graveyard))))))))
instance : Cl Z2 14 := ⟨fun _ => rfl⟩
structure Zf where
 Id : Int
 Card : Int
 Owner : Int
 Control : Int
 Zone : Int
 Token : Bool
 Tapped : Bool
 Sick : Bool
 Deadly : Bool
 Damage : Int
 Counters : (A3 Int)
 Stamp : Int
 Copy : Int
 Attack : Int
 Blocked : Bool
 Blocks : Int
 Shield : Int
 deriving DecidableEq, Inhabited
def Zh (x : Zf) : List Zg := (cI .i64) x.Id ++ ((cI .i64) x.Card ++ ((cI .i64) x.Owner ++ ((cI .i64) x.Control ++ ((cI .i64) x.Zone ++ (cB x.Token ++ (cB x.Tapped ++ (cB x.Sick ++ (cB x.Deadly ++ ((cI .i64) x.Damage ++ ((cA3 (cI .i64)) x.Counters ++ ((cI .i64) x.Stamp ++ ((cI .i64) x.Copy ++ ((cI .i64) x.Attack ++ (cB x.Blocked ++ ((cI .i64) x.Blocks ++ ((cI .i64) x.Shield))))))))))))))))
instance : Cl Zh 19 := ⟨fun _ => rfl⟩
structure Zaj where
 Object : Int
 Player : Int
 deriving DecidableEq, Inhabited
def Zbj (x : Zaj) : List Zg := (cI .i64) x.Object ++ ((cI .i64) x.Player)
instance : Cl Zbj 2 := ⟨fun _ => rfl⟩
structure Zek where
 Kind : Int
 Source : Int
 Object : Int
 Player : Int
 Amount : Int
 From : Int
 To : Int
 Cause : Int
 Counter : Int
 Card : Int
 Combat : Bool
 Tapped : Bool
 Extra : (A3 Int)
 deriving DecidableEq, Inhabited
def Zj1 (x : Zek) : List Zg := (cI .i64) x.Kind ++ ((cI .i64) x.Source ++ ((cI .i64) x.Object ++ ((cI .i64) x.Player ++ ((cI .i64) x.Amount ++ ((cI .i64) x.From ++ ((cI .i64) x.To ++ ((cI .i64) x.Cause ++ ((cI .i64) x.Counter ++ ((cI .i64) x.Card ++ (cB x.Combat ++ (cB x.Tapped ++ ((cA3 (cI .i64)) x.Extra))))))))))))
instance : Cl Zj1 15 := ⟨fun _ => rfl⟩
structure Zeg where
 Id : Int
 Kind : Int
 Source : Int
 Control : Int
 X : Int
 Copy : Bool
 Ability : Zk
 Targets : (List Zaj)
 Event : Zek
 deriving DecidableEq, Inhabited
def Zal (x : Zeg) : List Zg := (cI .i64) x.Id ++ ((cI .i64) x.Kind ++ ((cI .i64) x.Source ++ ((cI .i64) x.Control ++ ((cI .i64) x.X ++ (cB x.Copy ++ (Zx x.Ability ++ ((cL Zbj) x.Targets ++ (Zj1 x.Event))))))))
instance : Cl Zal 94 := ⟨fun _ => rfl⟩
structure Zd8 where
 Source : Int
 Control : Int
 Ability : Zk
 Event : Zek
 deriving DecidableEq, Inhabited
def Zae (x : Zd8) : List Zg := (cI .i64) x.Source ++ ((cI .i64) x.Control ++ (Zx x.Ability ++ (Zj1 x.Event)))
instance : Cl Zae 89 := ⟨fun _ => rfl⟩
structure Zgz where
 Stamp : Int
 Control : Int
 Source : Int
 Until : Int
 Objects : (List Int)
 Mods : (List Zr)
 deriving DecidableEq, Inhabited
def Zaq (x : Zgz) : List Zg := (cI .i64) x.Stamp ++ ((cI .i64) x.Control ++ ((cI .i64) x.Source ++ ((cI .i64) x.Until ++ ((cL (cI .i64)) x.Objects ++ ((cL Z1) x.Mods)))))
instance : Cl Zaq 6 := ⟨fun _ => rfl⟩
structure Zb where
 Players : (List Za1)
 Objects : (List Zf)
 Battlefield : (List Int)
 Exile : (List Int)
 Stack : (List Zeg)
 Waiting : (List Zd8)
 Conts : (List Zgz)
 Turn : Int
 Active : Int
 Step : Int
 Begun : Bool
 Priority : Int
 Passes : Int
 NextId : Int
 NextStamp : Int
 Seed : Int
 Extra : (List Int)
 Over : Int
 Winner : Int
 deriving DecidableEq, Inhabited
def Zo (x : Zb) : List Zg := (cL Z2) x.Players ++ ((cL Zh) x.Objects ++ ((cL (cI .i64)) x.Battlefield ++ ((cL (cI .i64)) x.Exile ++ ((cL Zal) x.Stack ++ ((cL Zae) x.Waiting ++ ((cL Zaq) x.Conts ++ ((cI .i64) x.Turn ++ ((cI .i64) x.Active ++ ((cI .i64) x.Step ++ (cB x.Begun ++ ((cI .i64) x.Priority ++ ((cI .i64) x.Passes ++ ((cI .i64) x.NextId ++ ((cI .i64) x.NextStamp ++ ((cI .u64) x.Seed ++ ((cL (cI .i64)) x.Extra ++ ((cI .i64) x.Over ++ ((cI .i64) x.Winner))))))))))))))))))
instance : Cl Zo 19 := ⟨fun _ => rfl⟩
structure Zs where
 You : Int
 Source : Int
 X : Int
 Targets : (List Zaj)
 Event : Zek
 deriving DecidableEq, Inhabited
def Zbd (x : Zs) : List Zg := (cI .i64) x.You ++ ((cI .i64) x.Source ++ ((cI .i64) x.X ++ ((cL Zbj) x.Targets ++ (Zj1 x.Event))))
instance : Cl Zbd 19 := ⟨fun _ => rfl⟩
structure Zaa where
 Ctx : Zs
 Amount : Zw
 Ref : Zak
 deriving DecidableEq, Inhabited
def Zbq (x : Zaa) : List Zg := Zbd x.Ctx ++ (Zaf x.Amount ++ (Zbg x.Ref))
instance : Cl Zbq 56 := ⟨fun _ => rfl⟩
structure Za where
 Name : (List UInt8)
 Cost : Zp
 Colors : Int
 Line : Zu
 Power : Int
 Tough : Int
 Keys : Int
 Abilities : (List Zk)
 Control : Int
 deriving DecidableEq, Inhabited
def Zi (x : Za) : List Zg := cS x.Name ++ (Zas x.Cost ++ ((cI .i64) x.Colors ++ (Zeb x.Line ++ ((cI .i64) x.Power ++ ((cI .i64) x.Tough ++ ((cI .i64) x.Keys ++ ((cL Zx) x.Abilities ++ ((cI .i64) x.Control))))))))
instance : Cl Zi 17 := ⟨fun _ => rfl⟩
structure Zm where
 Source : Int
 Ability : Int
 Control : Int
 Stamp : Int
 Fixed : Bool
 Objects : (List Int)
 Filter : Ze
 Mods : (List Zr)
 deriving DecidableEq, Inhabited
def Zj (x : Zm) : List Zg := (cI .i64) x.Source ++ ((cI .i64) x.Ability ++ ((cI .i64) x.Control ++ ((cI .i64) x.Stamp ++ (cB x.Fixed ++ ((cL (cI .i64)) x.Objects ++ (Zn x.Filter ++ ((cL Z1) x.Mods)))))))
instance : Cl Zj 23 := ⟨fun _ => rfl⟩
structure Zc where
 S : Zb
 All : (List Za)
 L : (List Zm)
 Begun : (List Bool)
 Sets : (List (List Int))
 Blank : (List Bool)
 deriving DecidableEq, Inhabited
def Z5 (x : Zc) : List Zg := Zo x.S ++ ((cL Zi) x.All ++ ((cL Zj) x.L ++ ((cL cB) x.Begun ++ ((cL (cL (cI .i64))) x.Sets ++ ((cL cB) x.Blank)))))
instance : Cl Z5 24 := ⟨fun _ => rfl⟩
end
end Go.PW
