import Derived.Test.YtchddhcajpagjaaGreatQT
import Derived.Test.YtchddhcajpagjaaGreatQC
set_option linter.all false
set_option maxRecDepth 100000
namespace Go.PW
open Go.RowKit
noncomputable section
structure Zt where
 Generic:Int
 X:Int
 Color:(A5 Int)
 deriving DecidableEq,Inhabited
def Zai(x:Zt):List Zd:=(cI .i64) x.Generic++((cI .i64) x.X++((cA5 (cI .i64)) x.Color))
instance:Cl Zai 7:=⟨fun _=>rfl⟩
structure Zah where
 Super:Int
 Types:Int
 Subs:(Bys)
 deriving DecidableEq,Inhabited
def Zh5(x:Zah):List Zd:=(cI .i64) x.Super++((cI .i64) x.Types++((cL cS) x.Subs))
instance:Cl Zh5 3:=⟨fun _=>rfl⟩
structure Za where
 Kind:Int
 N:Int
 deriving DecidableEq,Inhabited
def Zce(x:Za):List Zd:=(cI .i64) x.Kind++((cI .i64) x.N)
instance:Cl Zce 2:=⟨fun _=>rfl⟩
structure Zc where
 Zone:Int
 Who:Int
 Self:Int
 Types:Int
 NotTypes:Int
 Colors:Int
 NotColors:Int
 Sub:(By)
 Keys:Int
 Tap:Int
 Power:Za
 Tough:Za
 Value:Za
 deriving DecidableEq,Inhabited
def Zo(x:Zc):List Zd:=(cI .i64) x.Zone++((cI .i64) x.Who++((cI .i64) x.Self++((cI .i64) x.Types++((cI .i64) x.NotTypes++((cI .i64) x.Colors++((cI .i64) x.NotColors++(cS x.Sub++((cI .i64) x.Keys++((cI .i64) x.Tap++(Zce x.Power++(Zce x.Tough++(Zce x.Value))))))))))))
instance:Cl Zo 16:=⟨fun _=>rfl⟩
structure Zi where
 Kind:Int
 N:Int
 M:Int
 Sub:(By)
 Filter:Zc
 deriving DecidableEq,Inhabited
def Zm(x:Zi):List Zd:=(cI .i64) x.Kind++((cI .i64) x.N++((cI .i64) x.M++(cS x.Sub++(Zo x.Filter))))
instance:Cl Zm 20:=⟨fun _=>rfl⟩
structure Zic where
 Mana:Zt
 Tap:Bool
 Sacrifice:Bool
 Life:Int
 deriving DecidableEq,Inhabited
def Zdz(x:Zic):List Zd:=Zai x.Mana++(cB x.Tap++(cB x.Sacrifice++((cI .i64) x.Life)))
instance:Cl Zdz 10:=⟨fun _=>rfl⟩
structure Zc3 where
 When:Int
 Who:Int
 Filter:Zc
 deriving DecidableEq,Inhabited
def Zch(x:Zc3):List Zd:=(cI .i64) x.When++((cI .i64) x.Who++(Zo x.Filter))
instance:Cl Zch 18:=⟨fun _=>rfl⟩
structure Zba where
 Player:Bool
 Object:Bool
 Filter:Zc
 deriving DecidableEq,Inhabited
def Zab(x:Zba):List Zd:=cB x.Player++(cB x.Object++(Zo x.Filter))
instance:Cl Zab 18:=⟨fun _=>rfl⟩
structure Zhb where
 Kind:Int
 N:Int
 Filter:Zc
 deriving DecidableEq,Inhabited
def Zdu(x:Zhb):List Zd:=(cI .i64) x.Kind++((cI .i64) x.N++(Zo x.Filter))
instance:Cl Zdu 18:=⟨fun _=>rfl⟩
structure Zbs where
 Kind:Int
 N:Int
 Counter:Int
 Filter:Zc
 deriving DecidableEq,Inhabited
def Zaq(x:Zbs):List Zd:=(cI .i64) x.Kind++((cI .i64) x.N++((cI .i64) x.Counter++(Zo x.Filter)))
instance:Cl Zaq 19:=⟨fun _=>rfl⟩
structure Zs where
 Op:Int
 Ref:Zhb
 Amount:Zbs
 Counter:Int
 Zone:Int
 Card:(By)
 Filter:Zc
 Pool:(A6 Int)
 Mods:(List Zi)
 deriving DecidableEq,Inhabited
def Zq(x:Zs):List Zd:=(cI .i64) x.Op++(Zdu x.Ref++(Zaq x.Amount++((cI .i64) x.Counter++((cI .i64) x.Zone++(cS x.Card++(Zo x.Filter++((cA6 (cI .i64)) x.Pool++((cL Zm) x.Mods))))))))
instance:Cl Zq 64:=⟨fun _=>rfl⟩
structure Za7 where
 On:Int
 Who:Int
 Filter:Zc
 Do:Int
 N:Int
 Zone:Int
 Counter:Int
 deriving DecidableEq,Inhabited
def Zbk(x:Za7):List Zd:=(cI .i64) x.On++((cI .i64) x.Who++(Zo x.Filter++((cI .i64) x.Do++((cI .i64) x.N++((cI .i64) x.Zone++((cI .i64) x.Counter))))))
instance:Cl Zbk 22:=⟨fun _=>rfl⟩
structure Zg where
 Kind:Int
 Filter:Zc
 Mods:(List Zi)
 Price:Zic
 Slow:Bool
 Trigger:Zc3
 May:Bool
 Specs:(List Zba)
 Effects:(List Zs)
 Replace:Za7
 deriving DecidableEq,Inhabited
def Zh(x:Zg):List Zd:=(cI .i64) x.Kind++(Zo x.Filter++((cL Zm) x.Mods++(Zdz x.Price++(cB x.Slow++(Zch x.Trigger++(cB x.May++((cL Zab) x.Specs++((cL Zq) x.Effects++(Zbk x.Replace)))))))))
instance:Cl Zh 72:=⟨fun _=>rfl⟩
structure Zn where
 Name:(By)
 Token:Bool
 Cost:Zt
 Color:Int
 Line:Zah
 Power:Int
 Tough:Int
 Keys:Int
 Abilities:(List Zg)
 deriving DecidableEq,Inhabited
def Z4(x:Zn):List Zd:=cS x.Name++(cB x.Token++(Zai x.Cost++((cI .i64) x.Color++(Zh5 x.Line++((cI .i64) x.Power++((cI .i64) x.Tough++((cI .i64) x.Keys++((cL Zh) x.Abilities))))))))
instance:Cl Z4 17:=⟨fun _=>rfl⟩
structure Zlb where
 Life:Int
 Venom:Int
 Lands:Int
 Pool:(A6 Int)
 Failed:Bool
 Lost:Bool
 Library:(List Int)
 Hand:(List Int)
 Graveyard:(List Int)
 deriving DecidableEq,Inhabited
def Zbe(x:Zlb):List Zd:=(cI .i64) x.Life++((cI .i64) x.Venom++((cI .i64) x.Lands++((cA6 (cI .i64)) x.Pool++(cB x.Failed++(cB x.Lost++((cL (cI .i64)) x.Library++((cL (cI .i64)) x.Hand++((cL (cI .i64)) x.Graveyard))))))))
instance:Cl Zbe 14:=⟨fun _=>rfl⟩
structure Ze where
 Id:Int
 Card:Int
 Owner:Int
 Control:Int
 Zone:Int
 Token:Bool
 Tapped:Bool
 Sick:Bool
 Deadly:Bool
 Damage:Int
 Counters:(A3 Int)
 Stamp:Int
 Copy:Int
 Attack:Int
 Blocked:Bool
 Blocks:Int
 Shield:Int
 deriving DecidableEq,Inhabited
def Zk(x:Ze):List Zd:=(cI .i64) x.Id++((cI .i64) x.Card++((cI .i64) x.Owner++((cI .i64) x.Control++((cI .i64) x.Zone++(cB x.Token++(cB x.Tapped++(cB x.Sick++(cB x.Deadly++((cI .i64) x.Damage++((cA3 (cI .i64)) x.Counters++((cI .i64) x.Stamp++((cI .i64) x.Copy++((cI .i64) x.Attack++(cB x.Blocked++((cI .i64) x.Blocks++((cI .i64) x.Shield))))))))))))))))
instance:Cl Zk 19:=⟨fun _=>rfl⟩
structure Zt6 where
 Object:Int
 Player:Int
 deriving DecidableEq,Inhabited
def Zo9(x:Zt6):List Zd:=(cI .i64) x.Object++((cI .i64) x.Player)
instance:Cl Zo9 2:=⟨fun _=>rfl⟩
structure Z4o where
 Kind:Int
 Source:Int
 Object:Int
 Player:Int
 Amount:Int
 From:Int
 To:Int
 Cause:Int
 Counter:Int
 Card:Int
 Combat:Bool
 Tapped:Bool
 Extra:(A3 Int)
 deriving DecidableEq,Inhabited
def Zrh(x:Z4o):List Zd:=(cI .i64) x.Kind++((cI .i64) x.Source++((cI .i64) x.Object++((cI .i64) x.Player++((cI .i64) x.Amount++((cI .i64) x.From++((cI .i64) x.To++((cI .i64) x.Cause++((cI .i64) x.Counter++((cI .i64) x.Card++(cB x.Combat++(cB x.Tapped++((cA3 (cI .i64)) x.Extra))))))))))))
instance:Cl Zrh 15:=⟨fun _=>rfl⟩
structure Znh where
 Id:Int
 Kind:Int
 Source:Int
 Control:Int
 X:Int
 Copy:Bool
 Ability:Zg
 Targets:(List Zt6)
 Event:Z4o
 deriving DecidableEq,Inhabited
def Zbt(x:Znh):List Zd:=(cI .i64) x.Id++((cI .i64) x.Kind++((cI .i64) x.Source++((cI .i64) x.Control++((cI .i64) x.X++(cB x.Copy++(Zh x.Ability++((cL Zo9) x.Targets++(Zrh x.Event))))))))
instance:Cl Zbt 94:=⟨fun _=>rfl⟩
structure Zlo where
 Source:Int
 Control:Int
 Ability:Zg
 Event:Z4o
 deriving DecidableEq,Inhabited
def Zbv(x:Zlo):List Zd:=(cI .i64) x.Source++((cI .i64) x.Control++(Zh x.Ability++(Zrh x.Event)))
instance:Cl Zbv 89:=⟨fun _=>rfl⟩
structure Zdn where
 Stamp:Int
 Control:Int
 Source:Int
 Until:Int
 Objects:(List Int)
 Mods:(List Zi)
 deriving DecidableEq,Inhabited
def Zca(x:Zdn):List Zd:=(cI .i64) x.Stamp++((cI .i64) x.Control++((cI .i64) x.Source++((cI .i64) x.Until++((cL (cI .i64)) x.Objects++((cL Zm) x.Mods)))))
instance:Cl Zca 6:=⟨fun _=>rfl⟩
structure Zl where
 Players:(List Zlb)
 Objects:(List Ze)
 Battlefield:(List Int)
 Exile:(List Int)
 Stack:(List Znh)
 Waiting:(List Zlo)
 Conts:(List Zdn)
 Turn:Int
 Active:Int
 Step:Int
 Begun:Bool
 Priority:Int
 Passes:Int
 NextId:Int
 NextStamp:Int
 Seed:Int
 Extra:(List Int)
 Over:Int
 Winner:Int
 deriving DecidableEq,Inhabited
def Zaa(x:Zl):List Zd:=(cL Zbe) x.Players++((cL Zk) x.Objects++((cL (cI .i64)) x.Battlefield++((cL (cI .i64)) x.Exile++((cL Zbt) x.Stack++((cL Zbv) x.Waiting++((cL Zca) x.Conts++((cI .i64) x.Turn++((cI .i64) x.Active++((cI .i64) x.Step++(cB x.Begun++((cI .i64) x.Priority++((cI .i64) x.Passes++((cI .i64) x.NextId++((cI .i64) x.NextStamp++((cI .u64) x.Seed++((cL (cI .i64)) x.Extra++((cI .i64) x.Over++((cI .i64) x.Winner))))))))))))))))))
instance:Cl Zaa 19:=⟨fun _=>rfl⟩
structure Zal where
 Source:Int
 Ability:Int
 Control:Int
 Stamp:Int
 Fixed:Bool
 Objects:(List Int)
 Filter:Zc
 Mods:(List Zi)
 deriving DecidableEq,Inhabited
def Z2(x:Zal):List Zd:=(cI .i64) x.Source++((cI .i64) x.Ability++((cI .i64) x.Control++((cI .i64) x.Stamp++(cB x.Fixed++((cL (cI .i64)) x.Objects++(Zo x.Filter++((cL Zm) x.Mods)))))))
instance:Cl Z2 23:=⟨fun _=>rfl⟩
structure Zb where
 Name:(By)
 Cost:Zt
 Colors:Int
 Line:Zah
 Power:Int
 Tough:Int
 Keys:Int
 Abilities:(List Zg)
 Control:Int
 deriving DecidableEq,Inhabited
def Zf(x:Zb):List Zd:=cS x.Name++(Zai x.Cost++((cI .i64) x.Colors++(Zh5 x.Line++((cI .i64) x.Power++((cI .i64) x.Tough++((cI .i64) x.Keys++((cL Zh) x.Abilities++((cI .i64) x.Control))))))))
instance:Cl Zf 17:=⟨fun _=>rfl⟩
structure Zj where
 s:Zl
 forces:(List Zal)
 traits:(List Zb)
 dropped:(List Bool)
 done:(List Bool)
 hits:(List (List Int))
 deriving DecidableEq,Inhabited
structure Zbb where
 active:Bool
 hits:(List Int)
 numbers:(List Int)
 deriving DecidableEq,Inhabited
def Zf6(x:Zbb):List Zd:=cB x.active++((cL (cI .i64)) x.hits++((cL (cI .i64)) x.numbers))
instance:Cl Zf6 3:=⟨fun _=>rfl⟩
end
end Go.PW
