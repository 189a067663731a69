import Derived.Test.YtncgejlelfefdaaGreatQT
import Derived.Test.YtncgejlelfefdaaGreatQC
set_option linter.all false
set_option maxRecDepth 100000
namespace Go.PW
open Go.RowKit
noncomputable section
structure Z2 where
 Generic:Int
 X:Int
 Color:(A5 Int)
 deriving DecidableEq,Inhabited
def Zav(x:Z2):List Zn:=(cI .i64) x.Generic++((cI .i64) x.X++((cA5 (cI .i64)) x.Color))
instance:Cl Zav 7:=⟨fun _=>rfl⟩
structure Zaf where
 Super:Int
 Types:Int
 Subs:(Bys)
 deriving DecidableEq,Inhabited
def Zfv(x:Zaf):List Zn:=(cI .i64) x.Super++((cI .i64) x.Types++((cL cS) x.Subs))
instance:Cl Zfv 3:=⟨fun _=>rfl⟩
structure Zj where
 Kind:Int
 N:Int
 deriving DecidableEq,Inhabited
def Zcf(x:Zj):List Zn:=(cI .i64) x.Kind++((cI .i64) x.N)
instance:Cl Zcf 2:=⟨fun _=>rfl⟩
structure Zm where
 Zone:Int
 Who:Int
 Self:Int
 Types:Int
 NotTypes:Int
 Colors:Int
 NotColors:Int
 Sub:(By)
 Keys:Int
 Tap:Int
 Power:Zj
 Tough:Zj
 Value:Zj
 deriving DecidableEq,Inhabited
def Z0(x:Zm):List Zn:=(cI .i64) x.Zone++((cI .i64) x.Who++((cI .i64) x.Self++((cI .i64) x.Types++((cI .i64) x.NotTypes++((cI .i64) x.Colors++((cI .i64) x.NotColors++(cS x.Sub++((cI .i64) x.Keys++((cI .i64) x.Tap++(Zcf x.Power++(Zcf x.Tough++(Zcf x.Value))))))))))))
instance:Cl Z0 16:=⟨fun _=>rfl⟩
structure Zv where
 Kind:Int
 N:Int
 M:Int
 Sub:(By)
 Filter:Zm
 deriving DecidableEq,Inhabited
def Zu(x:Zv):List Zn:=(cI .i64) x.Kind++((cI .i64) x.N++((cI .i64) x.M++(cS x.Sub++(Z0 x.Filter))))
instance:Cl Zu 20:=⟨fun _=>rfl⟩
structure Ze0 where
 Mana:Z2
 Tap:Bool
 Sacrifice:Bool
 Life:Int
 deriving DecidableEq,Inhabited
def Ze4(x:Ze0):List Zn:=Zav x.Mana++(cB x.Tap++(cB x.Sacrifice++((cI .i64) x.Life)))
instance:Cl Ze4 10:=⟨fun _=>rfl⟩
structure Zb4 where
 When:Int
 Who:Int
 Filter:Zm
 deriving DecidableEq,Inhabited
def Zdb(x:Zb4):List Zn:=(cI .i64) x.When++((cI .i64) x.Who++(Z0 x.Filter))
instance:Cl Zdb 18:=⟨fun _=>rfl⟩
structure Za9 where
 Player:Bool
 Object:Bool
 Filter:Zm
 deriving DecidableEq,Inhabited
def Zao(x:Za9):List Zn:=cB x.Player++(cB x.Object++(Z0 x.Filter))
instance:Cl Zao 18:=⟨fun _=>rfl⟩
structure Zgy where
 Kind:Int
 N:Int
 Filter:Zm
 deriving DecidableEq,Inhabited
def Zet(x:Zgy):List Zn:=(cI .i64) x.Kind++((cI .i64) x.N++(Z0 x.Filter))
instance:Cl Zet 18:=⟨fun _=>rfl⟩
structure Zb0 where
 Kind:Int
 N:Int
 Counter:Int
 Filter:Zm
 deriving DecidableEq,Inhabited
def Za5(x:Zb0):List Zn:=(cI .i64) x.Kind++((cI .i64) x.N++((cI .i64) x.Counter++(Z0 x.Filter)))
instance:Cl Za5 19:=⟨fun _=>rfl⟩
structure Z6 where
 Op:Int
 Ref:Zgy
 Amount:Zb0
 Counter:Int
 Zone:Int
 Card:(By)
 Filter:Zm
 Pool:(A6 Int)
 Mods:(List Zv)
 deriving DecidableEq,Inhabited
def Zz(x:Z6):List Zn:=(cI .i64) x.Op++(Zet x.Ref++(Za5 x.Amount++((cI .i64) x.Counter++((cI .i64) x.Zone++(cS x.Card++(Z0 x.Filter++((cA6 (cI .i64)) x.Pool++((cL Zu) x.Mods))))))))
instance:Cl Zz 64:=⟨fun _=>rfl⟩
structure Z4 where
 On:Int
 Who:Int
 Filter:Zm
 Do:Int
 N:Int
 Zone:Int
 Counter:Int
 deriving DecidableEq,Inhabited
def Zat(x:Z4):List Zn:=(cI .i64) x.On++((cI .i64) x.Who++(Z0 x.Filter++((cI .i64) x.Do++((cI .i64) x.N++((cI .i64) x.Zone++((cI .i64) x.Counter))))))
instance:Cl Zat 22:=⟨fun _=>rfl⟩
structure Zh where
 Kind:Int
 Filter:Zm
 Mods:(List Zv)
 Price:Ze0
 Slow:Bool
 Trigger:Zb4
 May:Bool
 Specs:(List Za9)
 Effects:(List Z6)
 Replace:Z4
 deriving DecidableEq,Inhabited
def Zr(x:Zh):List Zn:=(cI .i64) x.Kind++(Z0 x.Filter++((cL Zu) x.Mods++(Ze4 x.Price++(cB x.Slow++(Zdb x.Trigger++(cB x.May++((cL Zao) x.Specs++((cL Zz) x.Effects++(Zat x.Replace)))))))))
instance:Cl Zr 72:=⟨fun _=>rfl⟩
structure Zg where
 Name:(By)
 Token:Bool
 Cost:Z2
 Color:Int
 Line:Zaf
 Power:Int
 Tough:Int
 Keys:Int
 Abilities:(List Zh)
 deriving DecidableEq,Inhabited
def Zs(x:Zg):List Zn:=cS x.Name++(cB x.Token++(Zav x.Cost++((cI .i64) x.Color++(Zfv x.Line++((cI .i64) x.Power++((cI .i64) x.Tough++((cI .i64) x.Keys++((cL Zr) x.Abilities))))))))
instance:Cl Zs 17:=⟨fun _=>rfl⟩
structure Z9 where
 Life:Int
 Venom:Int
 Lands:Int
 Pool:(A6 Int)
 Failed:Bool
 Lost:Bool
 Library:(List Int)
 Hand:(List Int)
 Graveyard:(List Int)
 deriving DecidableEq,Inhabited
def Zq(x:Z9):List Zn:=(cI .i64) x.Life++((cI .i64) x.Venom++((cI .i64) x.Lands++((cA6 (cI .i64)) x.Pool++(cB x.Failed++(cB x.Lost++((cL (cI .i64)) x.Library++((cL (cI .i64)) x.Hand++((cL (cI .i64)) x.Graveyard))))))))
instance:Cl Zq 14:=⟨fun _=>rfl⟩
structure Zc where
 Id:Int
 Card:Int
 Owner:Int
 Control:Int
 Zone:Int
 Token:Bool
 Tapped:Bool
 Sick:Bool
 Deadly:Bool
 Damage:Int
 Counters:(A3 Int)
 Stamp:Int
 Copy:Int
 Attack:Int
 Blocked:Bool
 Blocks:Int
 Shield:Int
 deriving DecidableEq,Inhabited
def Zi(x:Zc):List Zn:=(cI .i64) x.Id++((cI .i64) x.Card++((cI .i64) x.Owner++((cI .i64) x.Control++((cI .i64) x.Zone++(cB x.Token++(cB x.Tapped++(cB x.Sick++(cB x.Deadly++((cI .i64) x.Damage++((cA3 (cI .i64)) x.Counters++((cI .i64) x.Stamp++((cI .i64) x.Copy++((cI .i64) x.Attack++(cB x.Blocked++((cI .i64) x.Blocks++((cI .i64) x.Shield))))))))))))))))
instance:Cl Zi 19:=⟨fun _=>rfl⟩
structure Zbb where
 Object:Int
 Player:Int
 deriving DecidableEq,Inhabited
def Zar(x:Zbb):List Zn:=(cI .i64) x.Object++((cI .i64) x.Player)
instance:Cl Zar 2:=⟨fun _=>rfl⟩
structure Ze where
 Kind:Int
 Source:Int
 Object:Int
 Player:Int
 Amount:Int
 From:Int
 To:Int
 Cause:Int
 Counter:Int
 Card:Int
 Combat:Bool
 Tapped:Bool
 Extra:(A3 Int)
 deriving DecidableEq,Inhabited
def Zy(x:Ze):List Zn:=(cI .i64) x.Kind++((cI .i64) x.Source++((cI .i64) x.Object++((cI .i64) x.Player++((cI .i64) x.Amount++((cI .i64) x.From++((cI .i64) x.To++((cI .i64) x.Cause++((cI .i64) x.Counter++((cI .i64) x.Card++(cB x.Combat++(cB x.Tapped++((cA3 (cI .i64)) x.Extra))))))))))))
instance:Cl Zy 15:=⟨fun _=>rfl⟩
structure Zai where
 Id:Int
 Kind:Int
 Source:Int
 Control:Int
 X:Int
 Copy:Bool
 Ability:Zh
 Targets:(List Zbb)
 Event:Ze
 deriving DecidableEq,Inhabited
def Z3(x:Zai):List Zn:=(cI .i64) x.Id++((cI .i64) x.Kind++((cI .i64) x.Source++((cI .i64) x.Control++((cI .i64) x.X++(cB x.Copy++(Zr x.Ability++((cL Zar) x.Targets++(Zy x.Event))))))))
instance:Cl Z3 94:=⟨fun _=>rfl⟩
structure Zad where
 Source:Int
 Control:Int
 Ability:Zh
 Event:Ze
 deriving DecidableEq,Inhabited
def Zx(x:Zad):List Zn:=(cI .i64) x.Source++((cI .i64) x.Control++(Zr x.Ability++(Zy x.Event)))
instance:Cl Zx 89:=⟨fun _=>rfl⟩
structure Zap where
 Stamp:Int
 Control:Int
 Source:Int
 Until:Int
 Objects:(List Int)
 Mods:(List Zv)
 deriving DecidableEq,Inhabited
def Z7(x:Zap):List Zn:=(cI .i64) x.Stamp++((cI .i64) x.Control++((cI .i64) x.Source++((cI .i64) x.Until++((cL (cI .i64)) x.Objects++((cL Zu) x.Mods)))))
instance:Cl Z7 6:=⟨fun _=>rfl⟩
structure Za where
 Players:(List Z9)
 Objects:(List Zc)
 Battlefield:(List Int)
 Exile:(List Int)
 Stack:(List Zai)
 Waiting:(List Zad)
 Conts:(List Zap)
 Turn:Int
 Active:Int
 Step:Int
 Begun:Bool
 Priority:Int
 Passes:Int
 NextId:Int
 NextStamp:Int
 Seed:Int
 Extra:(List Int)
 Over:Int
 Winner:Int
 deriving DecidableEq,Inhabited
def Zo(x:Za):List Zn:=(cL Zq) x.Players++((cL Zi) x.Objects++((cL (cI .i64)) x.Battlefield++((cL (cI .i64)) x.Exile++((cL Z3) x.Stack++((cL Zx) x.Waiting++((cL Z7) x.Conts++((cI .i64) x.Turn++((cI .i64) x.Active++((cI .i64) x.Step++(cB x.Begun++((cI .i64) x.Priority++((cI .i64) x.Passes++((cI .i64) x.NextId++((cI .i64) x.NextStamp++((cI .u64) x.Seed++((cL (cI .i64)) x.Extra++((cI .i64) x.Over++((cI .i64) x.Winner))))))))))))))))))
instance:Cl Zo 19:=⟨fun _=>rfl⟩
structure Zb where
 Name:(By)
 Cost:Z2
 Colors:Int
 Line:Zaf
 Power:Int
 Tough:Int
 Keys:Int
 Abilities:(List Zh)
 Control:Int
 deriving DecidableEq,Inhabited
def Zp(x:Zb):List Zn:=cS x.Name++(Zav x.Cost++((cI .i64) x.Colors++(Zfv x.Line++((cI .i64) x.Power++((cI .i64) x.Tough++((cI .i64) x.Keys++((cL Zr) x.Abilities++((cI .i64) x.Control))))))))
instance:Cl Zp 17:=⟨fun _=>rfl⟩
structure Zd where
 Kind:Int
 A:Int
 B:Int
 deriving DecidableEq,Inhabited
def Zf(x:Zd):List Zn:=(cI .i64) x.Kind++((cI .i64) x.A++((cI .i64) x.B))
instance:Cl Zf 3:=⟨fun _=>rfl⟩
structure Zbm where
 Event:Ze
 Option:Zd
 deriving DecidableEq,Inhabited
def Zck(x:Zbm):List Zn:=Zy x.Event++(Zf x.Option)
instance:Cl Zck 18:=⟨fun _=>rfl⟩
structure Z8 where
 Source:Int
 Ability:Int
 Control:Int
 Stamp:Int
 Fixed:Bool
 Objects:(List Int)
 Filter:Zm
 Mods:(List Zv)
 deriving DecidableEq,Inhabited
def Zt(x:Z8):List Zn:=(cI .i64) x.Source++((cI .i64) x.Ability++((cI .i64) x.Control++((cI .i64) x.Stamp++(cB x.Fixed++((cL (cI .i64)) x.Objects++(Z0 x.Filter++((cL Zu) x.Mods)))))))
instance:Cl Zt 23:=⟨fun _=>rfl⟩
structure Zk where
 S:Za
 All:(List Zb)
 L:(List Z8)
 Begun:(List Bool)
 Sets:(List (List Int))
 Blank:(List Bool)
 deriving DecidableEq,Inhabited
def Zak(x:Zk):List Zn:=Zo x.S++((cL Zp) x.All++((cL Zt) x.L++((cL cB) x.Begun++((cL (cL (cI .i64))) x.Sets++((cL cB) x.Blank)))))
instance:Cl Zak 24:=⟨fun _=>rfl⟩
end
end Go.PW
