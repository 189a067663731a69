import Derived.Test.YtnoofnejcoadfaaGreatDoorQT
import Derived.Test.YtnoofnejcoadfaaGreatDoorQC
set_option linter.all false
set_option maxRecDepth 100000
namespace Go.PW
open Go.RowKit
noncomputable section
structure Zl where
 Generic : Int
 X : Int
 Color : (A5 Int)
 deriving DecidableEq, Inhabited
def Zah (x : Zl) : List Ze := (cI .i64) x.Generic ++ ((cI .i64) x.X ++ ((cA5 (cI .i64)) x.Color))
instance : Cl Zah 7 := ⟨fun _ => rfl⟩
structure Z7 where
 Super : Int
 Types : Int
 Subs : (List (List UInt8))
 deriving DecidableEq, Inhabited
def Zff (x : Z7) : List Ze := (cI .i64) x.Super ++ ((cI .i64) x.Types ++ ((cL cS) x.Subs))
instance : Cl Zff 3 := ⟨fun _ => rfl⟩
structure Za where
 Kind : Int
 N : Int
 deriving DecidableEq, Inhabited
def Zb8 (x : Za) : List Ze := (cI .i64) x.Kind ++ ((cI .i64) x.N)
instance : Cl Zb8 2 := ⟨fun _ => rfl⟩
structure Zc where
 Zone : Int
 Who : Int
 Self : Int
 Types : Int
 NotTypes : Int
 Colors : Int
 NotColors : Int
 Sub : (List UInt8)
 Keys : Int
 Tap : Int
 Power : Za
 Tough : Za
 Value : Za
 deriving DecidableEq, Inhabited
def Zg (x : Zc) : List Ze := (cI .i64) x.Zone ++ ((cI .i64) x.Who ++ ((cI .i64) x.Self ++ ((cI .i64) x.Types ++ ((cI .i64) x.NotTypes ++ ((cI .i64) x.Colors ++ ((cI .i64) x.NotColors ++ (cS x.Sub ++ ((cI .i64) x.Keys ++ ((cI .i64) x.Tap ++ (Zb8 x.Power ++ (Zb8 x.Tough ++ (Zb8 x.Value))))))))))))
instance : Cl Zg 16 := ⟨fun _ => rfl⟩
structure Zh where
 Kind : Int
 N : Int
 M : Int
 Sub : (List UInt8)
 Filter : Zc
 deriving DecidableEq, Inhabited
def Z9 (x : Zh) : List Ze := (cI .i64) x.Kind ++ ((cI .i64) x.N ++ ((cI .i64) x.M ++ (cS x.Sub ++ (Zg x.Filter))))
instance : Cl Z9 20 := ⟨fun _ => rfl⟩
structure Zfl where
 Mana : Zl
 Tap : Bool
 Sacrifice : Bool
 Life : Int
 deriving DecidableEq, Inhabited
def Zel (x : Zfl) : List Ze := Zah x.Mana ++ (cB x.Tap ++ (cB x.Sacrifice ++ ((cI .i64) x.Life)))
instance : Cl Zel 10 := ⟨fun _ => rfl⟩
structure Zb9 where
 When : Int
 Who : Int
 Filter : Zc
 deriving DecidableEq, Inhabited
def Zc1 (x : Zb9) : List Ze := (cI .i64) x.When ++ ((cI .i64) x.Who ++ (Zg x.Filter))
instance : Cl Zc1 18 := ⟨fun _ => rfl⟩
structure Zcw where
 Player : Bool
 Object : Bool
 Filter : Zc
 deriving DecidableEq, Inhabited
def Zbg (x : Zcw) : List Ze := cB x.Player ++ (cB x.Object ++ (Zg x.Filter))
instance : Cl Zbg 18 := ⟨fun _ => rfl⟩
structure Z4 where
 Kind : Int
 N : Int
 Filter : Zc
 deriving DecidableEq, Inhabited
def Zbh (x : Z4) : List Ze := (cI .i64) x.Kind ++ ((cI .i64) x.N ++ (Zg x.Filter))
instance : Cl Zbh 18 := ⟨fun _ => rfl⟩
structure Zt where
 Kind : Int
 N : Int
 Counter : Int
 Filter : Zc
 deriving DecidableEq, Inhabited
def Z1 (x : Zt) : List Ze := (cI .i64) x.Kind ++ ((cI .i64) x.N ++ ((cI .i64) x.Counter ++ (Zg x.Filter)))
instance : Cl Z1 19 := ⟨fun _ => rfl⟩
structure Zs where
 Op : Int
 Ref : Z4
 Amount : Zt
 Counter : Int
 Zone : Int
 Card : (List UInt8)
 Filter : Zc
 Pool : (A6 Int)
 Mods : (List Zh)
 deriving DecidableEq, Inhabited
def Z5 (x : Zs) : List Ze := (cI .i64) x.Op ++ (Zbh x.Ref ++ (Z1 x.Amount ++ ((cI .i64) x.Counter ++ ((cI .i64) x.Zone ++ (cS x.Card ++ (Zg x.Filter ++ ((cA6 (cI .i64)) x.Pool ++ ((cL Z9) x.Mods))))))))
instance : Cl Z5 64 := ⟨fun _ => rfl⟩
structure Zaj where
 On : Int
 Who : Int
 Filter : Zc
 Do : Int
 N : Int
 Zone : Int
 Counter : Int
 deriving DecidableEq, Inhabited
def Zbk (x : Zaj) : List Ze := (cI .i64) x.On ++ ((cI .i64) x.Who ++ (Zg x.Filter ++ ((cI .i64) x.Do ++ ((cI .i64) x.N ++ ((cI .i64) x.Zone ++ ((cI .i64) x.Counter))))))
instance : Cl Zbk 22 := ⟨fun _ => rfl⟩
structure Zk where
 Kind : Int
 Filter : Zc
 Mods : (List Zh)
 Price : Zfl
 Slow : Bool
 Trigger : Zb9
 May : Bool
 Specs : (List Zcw)
 Effects : (List Zs)
 Replace : Zaj
 deriving DecidableEq, Inhabited
def Zae (x : Zk) : List Ze := (cI .i64) x.Kind ++ (Zg x.Filter ++ ((cL Z9) x.Mods ++ (Zel x.Price ++ (cB x.Slow ++ (Zc1 x.Trigger ++ (cB x.May ++ ((cL Zbg) x.Specs ++ ((cL Z5) x.Effects ++ (Zbk x.Replace)))))))))
instance : Cl Zae 72 := ⟨fun _ => rfl⟩
structure Zq where
 Name : (List UInt8)
 Token : Bool
 Cost : Zl
 Color : Int
 Line : Z7
 Power : Int
 Tough : Int
 Keys : Int
 Abilities : (List Zk)
 deriving DecidableEq, Inhabited
def Z3 (x : Zq) : List Ze := cS x.Name ++ (cB x.Token ++ (Zah x.Cost ++ ((cI .i64) x.Color ++ (Zff x.Line ++ ((cI .i64) x.Power ++ ((cI .i64) x.Tough ++ ((cI .i64) x.Keys ++ ((cL Zae) x.Abilities))))))))
instance : Cl Z3 17 := ⟨fun _ => rfl⟩
structure Zas where
 Life : Int
 Venom : Int
 Lands : Int
 Pool : (A6 Int)
 Failed : Bool
 Lost : Bool
 Library : (List Int)
 Hand : (List Int)
 Graveyard : (List Int)
 deriving DecidableEq, Inhabited
def Z6 (x : Zas) : List Ze := (cI .i64) x.Life ++ ((cI .i64) x.Venom ++ ((cI .i64) x.Lands ++ ((cA6 (cI .i64)) x.Pool ++ (cB x.Failed ++ (cB x.Lost ++ ((cL (cI .i64)) x.Library ++ ((cL (cI .i64)) x.Hand ++ ((cL (cI .i64)) x.Graveyard))))))))
instance : Cl Z6 14 := ⟨fun _ => rfl⟩
structure Zf where
 Id : Int
 Card : Int
 Owner : Int
 Control : Int
 Zone : Int
 Token : Bool
 Tapped : Bool
 Sick : Bool
 Deadly : Bool
 Damage : Int
 Counters : (A3 Int)
 Stamp : Int
 Copy : Int
 Attack : Int
 Blocked : Bool
 Blocks : Int
 Shield : Int
 deriving DecidableEq, Inhabited
def Zi (x : Zf) : List Ze := (cI .i64) x.Id ++ ((cI .i64) x.Card ++ ((cI .i64) x.Owner ++ ((cI .i64) x.Control ++ ((cI .i64) x.Zone ++ (cB x.Token ++ (cB x.Tapped ++ (cB x.Sick ++ (cB x.Deadly ++ ((cI .i64) x.Damage ++ ((cA3 (cI .i64)) x.Counters ++ ((cI .i64) x.Stamp ++ ((cI .i64) x.Copy ++ ((cI .i64) x.Attack ++ (cB x.Blocked ++ ((cI .i64) x.Blocks ++ ((cI .i64) x.Shield))))))))))))))))
instance : Cl Zi 19 := ⟨fun _ => rfl⟩
structure Zx where
 Object : Int
 Player : Int
 deriving DecidableEq, Inhabited
def Zcx (x : Zx) : List Ze := (cI .i64) x.Object ++ ((cI .i64) x.Player)
instance : Cl Zcx 2 := ⟨fun _ => rfl⟩
structure Zbi where
 Kind : Int
 Source : Int
 Object : Int
 Player : Int
 Amount : Int
 From : Int
 To : Int
 Cause : Int
 Counter : Int
 Card : Int
 Combat : Bool
 Tapped : Bool
 Extra : (A3 Int)
 deriving DecidableEq, Inhabited
def Zib (x : Zbi) : List Ze := (cI .i64) x.Kind ++ ((cI .i64) x.Source ++ ((cI .i64) x.Object ++ ((cI .i64) x.Player ++ ((cI .i64) x.Amount ++ ((cI .i64) x.From ++ ((cI .i64) x.To ++ ((cI .i64) x.Cause ++ ((cI .i64) x.Counter ++ ((cI .i64) x.Card ++ (cB x.Combat ++ (cB x.Tapped ++ ((cA3 (cI .i64)) x.Extra))))))))))))
instance : Cl Zib 15 := ⟨fun _ => rfl⟩
structure Zgv where
 Id : Int
 Kind : Int
 Source : Int
 Control : Int
 X : Int
 Copy : Bool
 Ability : Zk
 Targets : (List Zx)
 Event : Zbi
 deriving DecidableEq, Inhabited
def Zay (x : Zgv) : List Ze := (cI .i64) x.Id ++ ((cI .i64) x.Kind ++ ((cI .i64) x.Source ++ ((cI .i64) x.Control ++ ((cI .i64) x.X ++ (cB x.Copy ++ (Zae x.Ability ++ ((cL Zcx) x.Targets ++ (Zib x.Event))))))))
instance : Cl Zay 94 := ⟨fun _ => rfl⟩
structure Zic where
 Source : Int
 Control : Int
 Ability : Zk
 Event : Zbi
 deriving DecidableEq, Inhabited
def Zaz (x : Zic) : List Ze := (cI .i64) x.Source ++ ((cI .i64) x.Control ++ (Zae x.Ability ++ (Zib x.Event)))
instance : Cl Zaz 89 := ⟨fun _ => rfl⟩
structure Znu where
 Stamp : Int
 Control : Int
 Source : Int
 Until : Int
 Objects : (List Int)
 Mods : (List Zh)
 deriving DecidableEq, Inhabited
def Zbr (x : Znu) : List Ze := (cI .i64) x.Stamp ++ ((cI .i64) x.Control ++ ((cI .i64) x.Source ++ ((cI .i64) x.Until ++ ((cL (cI .i64)) x.Objects ++ ((cL Z9) x.Mods)))))
instance : Cl Zbr 6 := ⟨fun _ => rfl⟩
structure Zb where
 Players : (List Zas)
 Objects : (List Zf)
 Battlefield : (List Int)
 Exile : (List Int)
 Stack : (List Zgv)
 Waiting : (List Zic)
 Conts : (List Znu)
 Turn : Int
 Active : Int
 Step : Int
 Begun : Bool
 Priority : Int
 Passes : Int
 NextId : Int
 NextStamp : Int
 Seed : Int
 Extra : (List Int)
 Over : Int
 Winner : Int
 deriving DecidableEq, Inhabited
def Zn (x : Zb) : List Ze := (cL Z6) x.Players ++ ((cL Zi) x.Objects ++ ((cL (cI .i64)) x.Battlefield ++ ((cL (cI .i64)) x.Exile ++ ((cL Zay) x.Stack ++ ((cL Zaz) x.Waiting ++ ((cL Zbr) x.Conts ++ ((cI .i64) x.Turn ++ ((cI .i64) x.Active ++ ((cI .i64) x.Step ++ (cB x.Begun ++ ((cI .i64) x.Priority ++ ((cI .i64) x.Passes ++ ((cI .i64) x.NextId ++ ((cI .i64) x.NextStamp ++ ((cI .u64) x.Seed ++ ((cL (cI .i64)) x.Extra ++ ((cI .i64) x.Over ++ ((cI .i64) x.Winner))))))))))))))))))
instance : Cl Zn 19 := ⟨fun _ => rfl⟩
structure Zo where
 You : Int
 Source : Int
 X : Int
 Targets : (List Zx)
 Event : Zbi
 deriving DecidableEq, Inhabited
def Zdl (x : Zo) : List Ze := (cI .i64) x.You ++ ((cI .i64) x.Source ++ ((cI .i64) x.X ++ ((cL Zcx) x.Targets ++ (Zib x.Event))))
instance : Cl Zdl 19 := ⟨fun _ => rfl⟩
structure Zd where
 Name : (List UInt8)
 Cost : Zl
 Colors : Int
 Line : Z7
 Power : Int
 Tough : Int
 Keys : Int
 Abilities : (List Zk)
 Control : Int
 deriving DecidableEq, Inhabited
def Zaa (x : Zd) : List Ze := cS x.Name ++ (Zah x.Cost ++ ((cI .i64) x.Colors ++ (Zff x.Line ++ ((cI .i64) x.Power ++ ((cI .i64) x.Tough ++ ((cI .i64) x.Keys ++ ((cL Zae) x.Abilities ++ ((cI .i64) x.Control))))))))
instance : Cl Zaa 17 := ⟨fun _ => rfl⟩
end
end Go.PW
