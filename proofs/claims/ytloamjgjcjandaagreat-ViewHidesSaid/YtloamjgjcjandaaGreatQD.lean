import Derived.Test.YtloamjgjcjandaaGreatQT
set_option linter.all false
set_option maxRecDepth 100000
namespace Go.PW
open Go.RowKit
noncomputable section
structure Zay where
 Generic : Int
 X : Int
 Color : (A5 Int)
 deriving DecidableEq, Inhabited
def Zbp (x : Zay) : List Zg := (cI .i64) x.Generic ++ ((cI .i64) x.X ++ ((cA5 (cI .i64)) x.Color))
instance : Cl Zbp 7 := ⟨fun _ => rfl⟩
structure Zg4 where
 Super : Int
 Types : Int
 Subs : (List (List UInt8))
 deriving DecidableEq, Inhabited
def Zm0 (x : Zg4) : List Zg := (cI .i64) x.Super ++ ((cI .i64) x.Types ++ ((cL cS) x.Subs))
instance : Cl Zm0 3 := ⟨fun _ => rfl⟩
structure Zc where
 Kind : Int
 N : Int
 deriving DecidableEq, Inhabited
def Zfu (x : Zc) : List Zg := (cI .i64) x.Kind ++ ((cI .i64) x.N)
instance : Cl Zfu 2 := ⟨fun _ => rfl⟩
structure Zi where
 Zone : Int
 Who : Int
 Self : Int
 Types : Int
 NotTypes : Int
 Colors : Int
 NotColors : Int
 Sub : (List UInt8)
 Keys : Int
 Tap : Int
 Power : Zc
 Tough : Zc
 Value : Zc
 deriving DecidableEq, Inhabited
def Zp (x : Zi) : List Zg := (cI .i64) x.Zone ++ ((cI .i64) x.Who ++ ((cI .i64) x.Self ++ ((cI .i64) x.Types ++ ((cI .i64) x.NotTypes ++ ((cI .i64) x.Colors ++ ((cI .i64) x.NotColors ++ (cS x.Sub ++ ((cI .i64) x.Keys ++ ((cI .i64) x.Tap ++ (Zfu x.Power ++ (Zfu x.Tough ++ (Zfu x.Value))))))))))))
instance : Cl Zp 16 := ⟨fun _ => rfl⟩
structure Zj where
 Kind : Int
 N : Int
 M : Int
 Sub : (List UInt8)
 Filter : Zi
 deriving DecidableEq, Inhabited
def Zn (x : Zj) : List Zg := (cI .i64) x.Kind ++ ((cI .i64) x.N ++ ((cI .i64) x.M ++ (cS x.Sub ++ (Zp x.Filter))))
instance : Cl Zn 20 := ⟨fun _ => rfl⟩
structure Ze5 where
 Mana : Zay
 Tap : Bool
 Sacrifice : Bool
 Life : Int
 deriving DecidableEq, Inhabited
def Zdb (x : Ze5) : List Zg := Zbp x.Mana ++ (cB x.Tap ++ (cB x.Sacrifice ++ ((cI .i64) x.Life)))
instance : Cl Zdb 10 := ⟨fun _ => rfl⟩
structure Zce where
 When : Int
 Who : Int
 Filter : Zi
 deriving DecidableEq, Inhabited
def Zb8 (x : Zce) : List Zg := (cI .i64) x.When ++ ((cI .i64) x.Who ++ (Zp x.Filter))
instance : Cl Zb8 18 := ⟨fun _ => rfl⟩
structure Zaz where
 Player : Bool
 Object : Bool
 Filter : Zi
 deriving DecidableEq, Inhabited
def Zy (x : Zaz) : List Zg := cB x.Player ++ (cB x.Object ++ (Zp x.Filter))
instance : Cl Zy 18 := ⟨fun _ => rfl⟩
structure Zeq where
 Kind : Int
 N : Int
 Filter : Zi
 deriving DecidableEq, Inhabited
def Zct (x : Zeq) : List Zg := (cI .i64) x.Kind ++ ((cI .i64) x.N ++ (Zp x.Filter))
instance : Cl Zct 18 := ⟨fun _ => rfl⟩
structure Zcf where
 Kind : Int
 N : Int
 Counter : Int
 Filter : Zi
 deriving DecidableEq, Inhabited
def Zbe (x : Zcf) : List Zg := (cI .i64) x.Kind ++ ((cI .i64) x.N ++ ((cI .i64) x.Counter ++ (Zp x.Filter)))
instance : Cl Zbe 19 := ⟨fun _ => rfl⟩
structure Zm where
 Op : Int
 Ref : Zeq
 Amount : Zcf
 Counter : Int
 Zone : Int
 Card : (List UInt8)
 Filter : Zi
 Pool : (A6 Int)
 Mods : (List Zj)
 deriving DecidableEq, Inhabited
def Zo (x : Zm) : List Zg := (cI .i64) x.Op ++ (Zct x.Ref ++ (Zbe x.Amount ++ ((cI .i64) x.Counter ++ ((cI .i64) x.Zone ++ (cS x.Card ++ (Zp x.Filter ++ ((cA6 (cI .i64)) x.Pool ++ ((cL Zn) x.Mods))))))))
instance : Cl Zo 64 := ⟨fun _ => rfl⟩
structure Za2 where
 On : Int
 Who : Int
 Filter : Zi
 Do : Int
 N : Int
 Zone : Int
 Counter : Int
 deriving DecidableEq, Inhabited
def Zbu (x : Za2) : List Zg := (cI .i64) x.On ++ ((cI .i64) x.Who ++ (Zp x.Filter ++ ((cI .i64) x.Do ++ ((cI .i64) x.N ++ ((cI .i64) x.Zone ++ ((cI .i64) x.Counter))))))
instance : Cl Zbu 22 := ⟨fun _ => rfl⟩
structure Zl where
 Kind : Int
 Filter : Zi
 Mods : (List Zj)
 Price : Ze5
 Slow : Bool
 Trigger : Zce
 May : Bool
 Specs : (List Zaz)
 Effects : (List Zm)
 Replace : Za2
 deriving DecidableEq, Inhabited
def Zah (x : Zl) : List Zg := (cI .i64) x.Kind ++ (Zp x.Filter ++ ((cL Zn) x.Mods ++ (Zdb x.Price ++ (cB x.Slow ++ (Zb8 x.Trigger ++ (cB x.May ++ ((cL Zy) x.Specs ++ ((cL Zo) x.Effects ++ (Zbu x.Replace)))))))))
instance : Cl Zah 72 := ⟨fun _ => rfl⟩
structure Zs where
 Name : (List UInt8)
 Token : Bool
 Cost : Zay
 Color : Int
 Line : Zg4
 Power : Int
 Tough : Int
 Keys : Int
 Abilities : (List Zl)
 deriving DecidableEq, Inhabited
def Zaa (x : Zs) : List Zg := cS x.Name ++ (cB x.Token ++ (Zbp x.Cost ++ ((cI .i64) x.Color ++ (Zm0 x.Line ++ ((cI .i64) x.Power ++ ((cI .i64) x.Tough ++ ((cI .i64) x.Keys ++ ((cL Zah) x.Abilities))))))))
instance : Cl Zaa 17 := ⟨fun _ => rfl⟩
structure Zv where
 Life : Int
 Venom : Int
 Lands : Int
 Pool : (A6 Int)
 Failed : Bool
 Lost : Bool
 Library : (List Int)
 Hand : (List Int)
 Graveyard : (List Int)
 deriving DecidableEq, Inhabited
def Zd (x : Zv) : List Zg := (cI .i64) x.Life ++ ((cI .i64) x.Venom ++ ((cI .i64) x.Lands ++ ((cA6 (cI .i64)) x.Pool ++ (cB x.Failed ++ (cB x.Lost ++ ((cL (cI .i64)) x.Library ++ ((cL (cI .i64)) x.Hand ++ ((cL (cI .i64)) x.Graveyard))))))))
instance : Cl Zd 14 := ⟨fun _ => rfl⟩
structure Zh where
 Id : Int
 Card : Int
 Owner : Int
 Control : Int
 Zone : Int
 Token : Bool
 Tapped : Bool
 Sick : Bool
 Deadly : Bool
 Damage : Int
 Counters : (A3 Int)
 Stamp : Int
 Copy : Int
 Attack : Int
 Blocked : Bool
 Blocks : Int
 Shield : Int
 deriving DecidableEq, Inhabited
def Zb (x : Zh) : List Zg := (cI .i64) x.Id ++ ((cI .i64) x.Card ++ ((cI .i64) x.Owner ++ ((cI .i64) x.Control ++ ((cI .i64) x.Zone ++ (cB x.Token ++ (cB x.Tapped ++ (cB x.Sick ++ (cB x.Deadly ++ ((cI .i64) x.Damage ++ ((cA3 (cI .i64)) x.Counters ++ ((cI .i64) x.Stamp ++ ((cI .i64) x.Copy ++ ((cI .i64) x.Attack ++ (cB x.Blocked ++ ((cI .i64) x.Blocks ++ ((cI .i64) x.Shield))))))))))))))))
instance : Cl Zb 19 := ⟨fun _ => rfl⟩
structure Zbd where
 Object : Int
 Player : Int
 deriving DecidableEq, Inhabited
def Z1 (x : Zbd) : List Zg := (cI .i64) x.Object ++ ((cI .i64) x.Player)
instance : Cl Z1 2 := ⟨fun _ => rfl⟩
structure Zlt where
 Kind : Int
 Source : Int
 Object : Int
 Player : Int
 Amount : Int
 From : Int
 To : Int
 Cause : Int
 Counter : Int
 Card : Int
 Combat : Bool
 Tapped : Bool
 Extra : (A3 Int)
 deriving DecidableEq, Inhabited
def Zcr (x : Zlt) : List Zg := (cI .i64) x.Kind ++ ((cI .i64) x.Source ++ ((cI .i64) x.Object ++ ((cI .i64) x.Player ++ ((cI .i64) x.Amount ++ ((cI .i64) x.From ++ ((cI .i64) x.To ++ ((cI .i64) x.Cause ++ ((cI .i64) x.Counter ++ ((cI .i64) x.Card ++ (cB x.Combat ++ (cB x.Tapped ++ ((cA3 (cI .i64)) x.Extra))))))))))))
instance : Cl Zcr 15 := ⟨fun _ => rfl⟩
structure Z4 where
 Id : Int
 Kind : Int
 Source : Int
 Control : Int
 X : Int
 Copy : Bool
 Ability : Zl
 Targets : (List Zbd)
 Event : Zlt
 deriving DecidableEq, Inhabited
def Zf (x : Z4) : List Zg := (cI .i64) x.Id ++ ((cI .i64) x.Kind ++ ((cI .i64) x.Source ++ ((cI .i64) x.Control ++ ((cI .i64) x.X ++ (cB x.Copy ++ (Zah x.Ability ++ ((cL Z1) x.Targets ++ (Zcr x.Event))))))))
instance : Cl Zf 94 := ⟨fun _ => rfl⟩
structure Zz where
 Source : Int
 Control : Int
 Ability : Zl
 Event : Zlt
 deriving DecidableEq, Inhabited
def Ze (x : Zz) : List Zg := (cI .i64) x.Source ++ ((cI .i64) x.Control ++ (Zah x.Ability ++ (Zcr x.Event)))
instance : Cl Ze 89 := ⟨fun _ => rfl⟩
structure Zaf where
 Stamp : Int
 Control : Int
 Source : Int
 Until : Int
 Objects : (List Int)
 Mods : (List Zj)
 deriving DecidableEq, Inhabited
def Zk (x : Zaf) : List Zg := (cI .i64) x.Stamp ++ ((cI .i64) x.Control ++ ((cI .i64) x.Source ++ ((cI .i64) x.Until ++ ((cL (cI .i64)) x.Objects ++ ((cL Zn) x.Mods)))))
instance : Cl Zk 6 := ⟨fun _ => rfl⟩
structure Za where
 Players : (List Zv)
 Objects : (List Zh)
 Battlefield : (List Int)
 Exile : (List Int)
 Stack : (List Z4)
 Waiting : (List Zz)
 Conts : (List Zaf)
 Turn : Int
 Active : Int
 Step : Int
 Begun : Bool
 Priority : Int
 Passes : Int
 NextId : Int
 NextStamp : Int
 Seed : Int
 Extra : (List Int)
 Over : Int
 Winner : Int
 deriving DecidableEq, Inhabited
def Zr (x : Za) : List Zg := (cL Zd) x.Players ++ ((cL Zb) x.Objects ++ ((cL (cI .i64)) x.Battlefield ++ ((cL (cI .i64)) x.Exile ++ ((cL Zf) x.Stack ++ ((cL Ze) x.Waiting ++ ((cL Zk) x.Conts ++ ((cI .i64) x.Turn ++ ((cI .i64) x.Active ++ ((cI .i64) x.Step ++ (cB x.Begun ++ ((cI .i64) x.Priority ++ ((cI .i64) x.Passes ++ ((cI .i64) x.NextId ++ ((cI .i64) x.NextStamp ++ ((cI .u64) x.Seed ++ ((cL (cI .i64)) x.Extra ++ ((cI .i64) x.Over ++ ((cI .i64) x.Winner))))))))))))))))))
instance : Cl Zr 19 := ⟨fun _ => rfl⟩
structure Z7 where
 Kind : Int
 A : Int
 B : Int
 deriving DecidableEq, Inhabited
def Zq (x : Z7) : List Zg := (cI .i64) x.Kind ++ ((cI .i64) x.A ++ ((cI .i64) x.B))
instance : Cl Zq 3 := ⟨fun _ => rfl⟩
structure Za9 where
 Kind : Int
 Player : Int
 Source : Int
 Least : Int
 Most : Int
 N : Int
 Options : (List Z7)
 deriving DecidableEq, Inhabited
def Ze6 (x : Za9) : List Zg := (cI .i64) x.Kind ++ ((cI .i64) x.Player ++ ((cI .i64) x.Source ++ ((cI .i64) x.Least ++ ((cI .i64) x.Most ++ ((cI .i64) x.N ++ ((cL Zq) x.Options))))))
instance : Cl Ze6 7 := ⟨fun _ => rfl⟩
structure Z0 where
 Cards : (List Zs)
 State : Za
 Answers : (List (List Int))
 Pending : Za9
 Forced : Int
 Seen : (List Za)
 deriving DecidableEq, Inhabited
def Zdm (x : Z0) : List Zg := (cL Zaa) x.Cards ++ (Zr x.State ++ ((cL (cL (cI .i64))) x.Answers ++ (Ze6 x.Pending ++ ((cI .i64) x.Forced ++ ((cL Zr) x.Seen)))))
instance : Cl Zdm 30 := ⟨fun _ => rfl⟩
structure Zb4 where
 Life : Int
 Venom : Int
 Lands : Int
 Library : Int
 Hand : Int
 Pool : (A6 Int)
 Lost : Bool
 Graveyard : (List Int)
 deriving DecidableEq, Inhabited
def Zba (x : Zb4) : List Zg := (cI .i64) x.Life ++ ((cI .i64) x.Venom ++ ((cI .i64) x.Lands ++ ((cI .i64) x.Library ++ ((cI .i64) x.Hand ++ ((cA6 (cI .i64)) x.Pool ++ (cB x.Lost ++ ((cL (cI .i64)) x.Graveyard)))))))
instance : Cl Zba 13 := ⟨fun _ => rfl⟩
structure Zab where
 Player : Int
 Players : (List Zb4)
 Hand : (List Int)
 Objects : (List Zh)
 Battlefield : (List Int)
 Exile : (List Int)
 Stack : (List Z4)
 Waiting : (List Zz)
 Conts : (List Zaf)
 Turn : Int
 Active : Int
 Step : Int
 Priority : Int
 Passes : Int
 NextId : Int
 Over : Int
 Winner : Int
 Extra : (List Int)
 Pending : Za9
 deriving DecidableEq, Inhabited
def Zgk (x : Zab) : List Zg := (cI .i64) x.Player ++ ((cL Zba) x.Players ++ ((cL (cI .i64)) x.Hand ++ ((cL Zb) x.Objects ++ ((cL (cI .i64)) x.Battlefield ++ ((cL (cI .i64)) x.Exile ++ ((cL Zf) x.Stack ++ ((cL Ze) x.Waiting ++ ((cL Zk) x.Conts ++ ((cI .i64) x.Turn ++ ((cI .i64) x.Active ++ ((cI .i64) x.Step ++ ((cI .i64) x.Priority ++ ((cI .i64) x.Passes ++ ((cI .i64) x.NextId ++ ((cI .i64) x.Over ++ ((cI .i64) x.Winner ++ ((cL (cI .i64)) x.Extra ++ (Ze6 x.Pending))))))))))))))))))
instance : Cl Zgk 25 := ⟨fun _ => rfl⟩
end
end Go.PW
