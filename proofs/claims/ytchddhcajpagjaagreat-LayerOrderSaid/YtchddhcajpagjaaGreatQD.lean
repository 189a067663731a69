import Derived.Test.YtchddhcajpagjaaGreatQT
import Derived.Test.YtchddhcajpagjaaGreatQC
set_option linter.all false
set_option maxRecDepth 100000
namespace Go.PW
open Go.RowKit
noncomputable section
structure Zt where
 Generic:Int
 X:Int
 Color:(A5 Int)
 deriving DecidableEq,Inhabited
def Zah(x:Zt):List Zf:=(cI .i64) x.Generic++((cI .i64) x.X++((cA5 (cI .i64)) x.Color))
instance:Cl Zah 7:=⟨fun _=>rfl⟩
structure Zac where
 Super:Int
 Types:Int
 Subs:(Bys)
 deriving DecidableEq,Inhabited
def Zhd(x:Zac):List Zf:=(cI .i64) x.Super++((cI .i64) x.Types++((cL cS) x.Subs))
instance:Cl Zhd 3:=⟨fun _=>rfl⟩
structure Za where
 Kind:Int
 N:Int
 deriving DecidableEq,Inhabited
def Zb4(x:Za):List Zf:=(cI .i64) x.Kind++((cI .i64) x.N)
instance:Cl Zb4 2:=⟨fun _=>rfl⟩
structure Ze where
 Zone:Int
 Who:Int
 Self:Int
 Types:Int
 NotTypes:Int
 Colors:Int
 NotColors:Int
 Sub:(By)
 Keys:Int
 Tap:Int
 Power:Za
 Tough:Za
 Value:Za
 deriving DecidableEq,Inhabited
def Zo(x:Ze):List Zf:=(cI .i64) x.Zone++((cI .i64) x.Who++((cI .i64) x.Self++((cI .i64) x.Types++((cI .i64) x.NotTypes++((cI .i64) x.Colors++((cI .i64) x.NotColors++(cS x.Sub++((cI .i64) x.Keys++((cI .i64) x.Tap++(Zb4 x.Power++(Zb4 x.Tough++(Zb4 x.Value))))))))))))
instance:Cl Zo 16:=⟨fun _=>rfl⟩
structure Zd where
 Kind:Int
 N:Int
 M:Int
 Sub:(By)
 Filter:Ze
 deriving DecidableEq,Inhabited
def Zl(x:Zd):List Zf:=(cI .i64) x.Kind++((cI .i64) x.N++((cI .i64) x.M++(cS x.Sub++(Zo x.Filter))))
instance:Cl Zl 20:=⟨fun _=>rfl⟩
structure Zhn where
 Mana:Zt
 Tap:Bool
 Sacrifice:Bool
 Life:Int
 deriving DecidableEq,Inhabited
def Zdk(x:Zhn):List Zf:=Zah x.Mana++(cB x.Tap++(cB x.Sacrifice++((cI .i64) x.Life)))
instance:Cl Zdk 10:=⟨fun _=>rfl⟩
structure Zcs where
 When:Int
 Who:Int
 Filter:Ze
 deriving DecidableEq,Inhabited
def Zb8(x:Zcs):List Zf:=(cI .i64) x.When++((cI .i64) x.Who++(Zo x.Filter))
instance:Cl Zb8 18:=⟨fun _=>rfl⟩
structure Za9 where
 Player:Bool
 Object:Bool
 Filter:Ze
 deriving DecidableEq,Inhabited
def Zad(x:Za9):List Zf:=cB x.Player++(cB x.Object++(Zo x.Filter))
instance:Cl Zad 18:=⟨fun _=>rfl⟩
structure Zgn where
 Kind:Int
 N:Int
 Filter:Ze
 deriving DecidableEq,Inhabited
def Zdf(x:Zgn):List Zf:=(cI .i64) x.Kind++((cI .i64) x.N++(Zo x.Filter))
instance:Cl Zdf 18:=⟨fun _=>rfl⟩
structure Zbk where
 Kind:Int
 N:Int
 Counter:Int
 Filter:Ze
 deriving DecidableEq,Inhabited
def Zaq(x:Zbk):List Zf:=(cI .i64) x.Kind++((cI .i64) x.N++((cI .i64) x.Counter++(Zo x.Filter)))
instance:Cl Zaq 19:=⟨fun _=>rfl⟩
structure Zs where
 Op:Int
 Ref:Zgn
 Amount:Zbk
 Counter:Int
 Zone:Int
 Card:(By)
 Filter:Ze
 Pool:(A6 Int)
 Mods:(List Zd)
 deriving DecidableEq,Inhabited
def Zq(x:Zs):List Zf:=(cI .i64) x.Op++(Zdf x.Ref++(Zaq x.Amount++((cI .i64) x.Counter++((cI .i64) x.Zone++(cS x.Card++(Zo x.Filter++((cA6 (cI .i64)) x.Pool++((cL Zl) x.Mods))))))))
instance:Cl Zq 64:=⟨fun _=>rfl⟩
structure Za6 where
 On:Int
 Who:Int
 Filter:Ze
 Do:Int
 N:Int
 Zone:Int
 Counter:Int
 deriving DecidableEq,Inhabited
def Zbh(x:Za6):List Zf:=(cI .i64) x.On++((cI .i64) x.Who++(Zo x.Filter++((cI .i64) x.Do++((cI .i64) x.N++((cI .i64) x.Zone++((cI .i64) x.Counter))))))
instance:Cl Zbh 22:=⟨fun _=>rfl⟩
structure Zh where
 Kind:Int
 Filter:Ze
 Mods:(List Zd)
 Price:Zhn
 Slow:Bool
 Trigger:Zcs
 May:Bool
 Specs:(List Za9)
 Effects:(List Zs)
 Replace:Za6
 deriving DecidableEq,Inhabited
def Zj(x:Zh):List Zf:=(cI .i64) x.Kind++(Zo x.Filter++((cL Zl) x.Mods++(Zdk x.Price++(cB x.Slow++(Zb8 x.Trigger++(cB x.May++((cL Zad) x.Specs++((cL Zq) x.Effects++(Zbh x.Replace)))))))))
instance:Cl Zj 72:=⟨fun _=>rfl⟩
structure Zm where
 Name:(By)
 Token:Bool
 Cost:Zt
 Color:Int
 Line:Zac
 Power:Int
 Tough:Int
 Keys:Int
 Abilities:(List Zh)
 deriving DecidableEq,Inhabited
def Z6(x:Zm):List Zf:=cS x.Name++(cB x.Token++(Zah x.Cost++((cI .i64) x.Color++(Zhd x.Line++((cI .i64) x.Power++((cI .i64) x.Tough++((cI .i64) x.Keys++((cL Zj) x.Abilities))))))))
instance:Cl Z6 17:=⟨fun _=>rfl⟩
structure Zkf where
 Life:Int
 Venom:Int
 Lands:Int
 Pool:(A6 Int)
 Failed:Bool
 Lost:Bool
 Library:(List Int)
 Hand:(List Int)
 Graveyard:(List Int)
 deriving DecidableEq,Inhabited
def Zbc(x:Zkf):List Zf:=(cI .i64) x.Life++((cI .i64) x.Venom++((cI .i64) x.Lands++((cA6 (cI .i64)) x.Pool++(cB x.Failed++(cB x.Lost++((cL (cI .i64)) x.Library++((cL (cI .i64)) x.Hand++((cL (cI .i64)) x.Graveyard))))))))
instance:Cl Zbc 14:=⟨fun _=>rfl⟩
structure Zg where
 Id:Int
 Card:Int
 Owner:Int
 Control:Int
 Zone:Int
 Token:Bool
 Tapped:Bool
 Sick:Bool
 Deadly:Bool
 Damage:Int
 Counters:(A3 Int)
 Stamp:Int
 Copy:Int
 Attack:Int
 Blocked:Bool
 Blocks:Int
 Shield:Int
 deriving DecidableEq,Inhabited
def Zn(x:Zg):List Zf:=(cI .i64) x.Id++((cI .i64) x.Card++((cI .i64) x.Owner++((cI .i64) x.Control++((cI .i64) x.Zone++(cB x.Token++(cB x.Tapped++(cB x.Sick++(cB x.Deadly++((cI .i64) x.Damage++((cA3 (cI .i64)) x.Counters++((cI .i64) x.Stamp++((cI .i64) x.Copy++((cI .i64) x.Attack++(cB x.Blocked++((cI .i64) x.Blocks++((cI .i64) x.Shield))))))))))))))))
instance:Cl Zn 19:=⟨fun _=>rfl⟩
structure Zs8 where
 Object:Int
 Player:Int
 deriving DecidableEq,Inhabited
def Zos(x:Zs8):List Zf:=(cI .i64) x.Object++((cI .i64) x.Player)
instance:Cl Zos 2:=⟨fun _=>rfl⟩
structure Z2o where
 Kind:Int
 Source:Int
 Object:Int
 Player:Int
 Amount:Int
 From:Int
 To:Int
 Cause:Int
 Counter:Int
 Card:Int
 Combat:Bool
 Tapped:Bool
 Extra:(A3 Int)
 deriving DecidableEq,Inhabited
def Zqs(x:Z2o):List Zf:=(cI .i64) x.Kind++((cI .i64) x.Source++((cI .i64) x.Object++((cI .i64) x.Player++((cI .i64) x.Amount++((cI .i64) x.From++((cI .i64) x.To++((cI .i64) x.Cause++((cI .i64) x.Counter++((cI .i64) x.Card++(cB x.Combat++(cB x.Tapped++((cA3 (cI .i64)) x.Extra))))))))))))
instance:Cl Zqs 15:=⟨fun _=>rfl⟩
structure Zmw where
 Id:Int
 Kind:Int
 Source:Int
 Control:Int
 X:Int
 Copy:Bool
 Ability:Zh
 Targets:(List Zs8)
 Event:Z2o
 deriving DecidableEq,Inhabited
def Zbl(x:Zmw):List Zf:=(cI .i64) x.Id++((cI .i64) x.Kind++((cI .i64) x.Source++((cI .i64) x.Control++((cI .i64) x.X++(cB x.Copy++(Zj x.Ability++((cL Zos) x.Targets++(Zqs x.Event))))))))
instance:Cl Zbl 94:=⟨fun _=>rfl⟩
structure Zkw where
 Source:Int
 Control:Int
 Ability:Zh
 Event:Z2o
 deriving DecidableEq,Inhabited
def Zbn(x:Zkw):List Zf:=(cI .i64) x.Source++((cI .i64) x.Control++(Zj x.Ability++(Zqs x.Event)))
instance:Cl Zbn 89:=⟨fun _=>rfl⟩
structure Zav where
 Stamp:Int
 Control:Int
 Source:Int
 Until:Int
 Objects:(List Int)
 Mods:(List Zd)
 deriving DecidableEq,Inhabited
def Zam(x:Zav):List Zf:=(cI .i64) x.Stamp++((cI .i64) x.Control++((cI .i64) x.Source++((cI .i64) x.Until++((cL (cI .i64)) x.Objects++((cL Zl) x.Mods)))))
instance:Cl Zam 6:=⟨fun _=>rfl⟩
structure Zk where
 Players:(List Zkf)
 Objects:(List Zg)
 Battlefield:(List Int)
 Exile:(List Int)
 Stack:(List Zmw)
 Waiting:(List Zkw)
 Conts:(List Zav)
 Turn:Int
 Active:Int
 Step:Int
 Begun:Bool
 Priority:Int
 Passes:Int
 NextId:Int
 NextStamp:Int
 Seed:Int
 Extra:(List Int)
 Over:Int
 Winner:Int
 deriving DecidableEq,Inhabited
def Z9(x:Zk):List Zf:=(cL Zbc) x.Players++((cL Zn) x.Objects++((cL (cI .i64)) x.Battlefield++((cL (cI .i64)) x.Exile++((cL Zbl) x.Stack++((cL Zbn) x.Waiting++((cL Zam) x.Conts++((cI .i64) x.Turn++((cI .i64) x.Active++((cI .i64) x.Step++(cB x.Begun++((cI .i64) x.Priority++((cI .i64) x.Passes++((cI .i64) x.NextId++((cI .i64) x.NextStamp++((cI .u64) x.Seed++((cL (cI .i64)) x.Extra++((cI .i64) x.Over++((cI .i64) x.Winner))))))))))))))))))
instance:Cl Z9 19:=⟨fun _=>rfl⟩
structure Zv where
 Source:Int
 Ability:Int
 Control:Int
 Stamp:Int
 Fixed:Bool
 Objects:(List Int)
 Filter:Ze
 Mods:(List Zd)
 deriving DecidableEq,Inhabited
def Z4(x:Zv):List Zf:=(cI .i64) x.Source++((cI .i64) x.Ability++((cI .i64) x.Control++((cI .i64) x.Stamp++(cB x.Fixed++((cL (cI .i64)) x.Objects++(Zo x.Filter++((cL Zl) x.Mods)))))))
instance:Cl Z4 23:=⟨fun _=>rfl⟩
structure Zb where
 Name:(By)
 Cost:Zt
 Colors:Int
 Line:Zac
 Power:Int
 Tough:Int
 Keys:Int
 Abilities:(List Zh)
 Control:Int
 deriving DecidableEq,Inhabited
def Zi(x:Zb):List Zf:=cS x.Name++(Zah x.Cost++((cI .i64) x.Colors++(Zhd x.Line++((cI .i64) x.Power++((cI .i64) x.Tough++((cI .i64) x.Keys++((cL Zj) x.Abilities++((cI .i64) x.Control))))))))
instance:Cl Zi 17:=⟨fun _=>rfl⟩
structure Zc where
 s:Zk
 forces:(List Zv)
 traits:(List Zb)
 dropped:(List Bool)
 done:(List Bool)
 hits:(List (List Int))
 deriving DecidableEq,Inhabited
structure Zaa where
 active:Bool
 hits:(List Int)
 numbers:(List Int)
 deriving DecidableEq,Inhabited
def Zfl(x:Zaa):List Zf:=cB x.active++((cL (cI .i64)) x.hits++((cL (cI .i64)) x.numbers))
instance:Cl Zfl 3:=⟨fun _=>rfl⟩
end
end Go.PW
