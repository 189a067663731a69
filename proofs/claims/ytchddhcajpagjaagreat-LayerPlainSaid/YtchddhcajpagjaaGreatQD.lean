import Derived.Test.YtchddhcajpagjaaGreatQT
import Derived.Test.YtchddhcajpagjaaGreatQC
set_option linter.all false
set_option maxRecDepth 100000
namespace Go.PW
open Go.RowKit
noncomputable section
structure Zt where
 Generic:Int
 X:Int
 Color:(A5 Int)
 deriving DecidableEq,Inhabited
def Zaf(x:Zt):List Zh:=(cI .i64) x.Generic++((cI .i64) x.X++((cA5 (cI .i64)) x.Color))
instance:Cl Zaf 7:=⟨fun _=>rfl⟩
structure Z7 where
 Super:Int
 Types:Int
 Subs:(Bys)
 deriving DecidableEq,Inhabited
def Zhg(x:Z7):List Zh:=(cI .i64) x.Super++((cI .i64) x.Types++((cL cS) x.Subs))
instance:Cl Zhg 3:=⟨fun _=>rfl⟩
structure Zb where
 Kind:Int
 N:Int
 deriving DecidableEq,Inhabited
def Zb3(x:Zb):List Zh:=(cI .i64) x.Kind++((cI .i64) x.N)
instance:Cl Zb3 2:=⟨fun _=>rfl⟩
structure Zg where
 Zone:Int
 Who:Int
 Self:Int
 Types:Int
 NotTypes:Int
 Colors:Int
 NotColors:Int
 Sub:(By)
 Keys:Int
 Tap:Int
 Power:Zb
 Tough:Zb
 Value:Zb
 deriving DecidableEq,Inhabited
def Zo(x:Zg):List Zh:=(cI .i64) x.Zone++((cI .i64) x.Who++((cI .i64) x.Self++((cI .i64) x.Types++((cI .i64) x.NotTypes++((cI .i64) x.Colors++((cI .i64) x.NotColors++(cS x.Sub++((cI .i64) x.Keys++((cI .i64) x.Tap++(Zb3 x.Power++(Zb3 x.Tough++(Zb3 x.Value))))))))))))
instance:Cl Zo 16:=⟨fun _=>rfl⟩
structure Zc where
 Kind:Int
 N:Int
 M:Int
 Sub:(By)
 Filter:Zg
 deriving DecidableEq,Inhabited
def Zk(x:Zc):List Zh:=(cI .i64) x.Kind++((cI .i64) x.N++((cI .i64) x.M++(cS x.Sub++(Zo x.Filter))))
instance:Cl Zk 20:=⟨fun _=>rfl⟩
structure Zgs where
 Mana:Zt
 Tap:Bool
 Sacrifice:Bool
 Life:Int
 deriving DecidableEq,Inhabited
def Zdk(x:Zgs):List Zh:=Zaf x.Mana++(cB x.Tap++(cB x.Sacrifice++((cI .i64) x.Life)))
instance:Cl Zdk 10:=⟨fun _=>rfl⟩
structure Zcg where
 When:Int
 Who:Int
 Filter:Zg
 deriving DecidableEq,Inhabited
def Zb6(x:Zcg):List Zh:=(cI .i64) x.When++((cI .i64) x.Who++(Zo x.Filter))
instance:Cl Zb6 18:=⟨fun _=>rfl⟩
structure Zaz where
 Player:Bool
 Object:Bool
 Filter:Zg
 deriving DecidableEq,Inhabited
def Z9(x:Zaz):List Zh:=cB x.Player++(cB x.Object++(Zo x.Filter))
instance:Cl Z9 18:=⟨fun _=>rfl⟩
structure Zgn where
 Kind:Int
 N:Int
 Filter:Zg
 deriving DecidableEq,Inhabited
def Zdf(x:Zgn):List Zh:=(cI .i64) x.Kind++((cI .i64) x.N++(Zo x.Filter))
instance:Cl Zdf 18:=⟨fun _=>rfl⟩
structure Zbi where
 Kind:Int
 N:Int
 Counter:Int
 Filter:Zg
 deriving DecidableEq,Inhabited
def Zap(x:Zbi):List Zh:=(cI .i64) x.Kind++((cI .i64) x.N++((cI .i64) x.Counter++(Zo x.Filter)))
instance:Cl Zap 19:=⟨fun _=>rfl⟩
structure Zs where
 Op:Int
 Ref:Zgn
 Amount:Zbi
 Counter:Int
 Zone:Int
 Card:(By)
 Filter:Zg
 Pool:(A6 Int)
 Mods:(List Zc)
 deriving DecidableEq,Inhabited
def Zq(x:Zs):List Zh:=(cI .i64) x.Op++(Zdf x.Ref++(Zap x.Amount++((cI .i64) x.Counter++((cI .i64) x.Zone++(cS x.Card++(Zo x.Filter++((cA6 (cI .i64)) x.Pool++((cL Zk) x.Mods))))))))
instance:Cl Zq 64:=⟨fun _=>rfl⟩
structure Za1 where
 On:Int
 Who:Int
 Filter:Zg
 Do:Int
 N:Int
 Zone:Int
 Counter:Int
 deriving DecidableEq,Inhabited
def Zbf(x:Za1):List Zh:=(cI .i64) x.On++((cI .i64) x.Who++(Zo x.Filter++((cI .i64) x.Do++((cI .i64) x.N++((cI .i64) x.Zone++((cI .i64) x.Counter))))))
instance:Cl Zbf 22:=⟨fun _=>rfl⟩
structure Zd where
 Kind:Int
 Filter:Zg
 Mods:(List Zc)
 Price:Zgs
 Slow:Bool
 Trigger:Zcg
 May:Bool
 Specs:(List Zaz)
 Effects:(List Zs)
 Replace:Za1
 deriving DecidableEq,Inhabited
def Zi(x:Zd):List Zh:=(cI .i64) x.Kind++(Zo x.Filter++((cL Zk) x.Mods++(Zdk x.Price++(cB x.Slow++(Zb6 x.Trigger++(cB x.May++((cL Z9) x.Specs++((cL Zq) x.Effects++(Zbf x.Replace)))))))))
instance:Cl Zi 72:=⟨fun _=>rfl⟩
structure Zl where
 Name:(By)
 Token:Bool
 Cost:Zt
 Color:Int
 Line:Z7
 Power:Int
 Tough:Int
 Keys:Int
 Abilities:(List Zd)
 deriving DecidableEq,Inhabited
def Zw(x:Zl):List Zh:=cS x.Name++(cB x.Token++(Zaf x.Cost++((cI .i64) x.Color++(Zhg x.Line++((cI .i64) x.Power++((cI .i64) x.Tough++((cI .i64) x.Keys++((cL Zi) x.Abilities))))))))
instance:Cl Zw 17:=⟨fun _=>rfl⟩
structure Zkg where
 Life:Int
 Venom:Int
 Lands:Int
 Pool:(A6 Int)
 Failed:Bool
 Lost:Bool
 Library:(List Int)
 Hand:(List Int)
 Graveyard:(List Int)
 deriving DecidableEq,Inhabited
def Zba(x:Zkg):List Zh:=(cI .i64) x.Life++((cI .i64) x.Venom++((cI .i64) x.Lands++((cA6 (cI .i64)) x.Pool++(cB x.Failed++(cB x.Lost++((cL (cI .i64)) x.Library++((cL (cI .i64)) x.Hand++((cL (cI .i64)) x.Graveyard))))))))
instance:Cl Zba 14:=⟨fun _=>rfl⟩
structure Zf where
 Id:Int
 Card:Int
 Owner:Int
 Control:Int
 Zone:Int
 Token:Bool
 Tapped:Bool
 Sick:Bool
 Deadly:Bool
 Damage:Int
 Counters:(A3 Int)
 Stamp:Int
 Copy:Int
 Attack:Int
 Blocked:Bool
 Blocks:Int
 Shield:Int
 deriving DecidableEq,Inhabited
def Zn(x:Zf):List Zh:=(cI .i64) x.Id++((cI .i64) x.Card++((cI .i64) x.Owner++((cI .i64) x.Control++((cI .i64) x.Zone++(cB x.Token++(cB x.Tapped++(cB x.Sick++(cB x.Deadly++((cI .i64) x.Damage++((cA3 (cI .i64)) x.Counters++((cI .i64) x.Stamp++((cI .i64) x.Copy++((cI .i64) x.Attack++(cB x.Blocked++((cI .i64) x.Blocks++((cI .i64) x.Shield))))))))))))))))
instance:Cl Zn 19:=⟨fun _=>rfl⟩
structure Ztc where
 Object:Int
 Player:Int
 deriving DecidableEq,Inhabited
def Zor(x:Ztc):List Zh:=(cI .i64) x.Object++((cI .i64) x.Player)
instance:Cl Zor 2:=⟨fun _=>rfl⟩
structure Z2s where
 Kind:Int
 Source:Int
 Object:Int
 Player:Int
 Amount:Int
 From:Int
 To:Int
 Cause:Int
 Counter:Int
 Card:Int
 Combat:Bool
 Tapped:Bool
 Extra:(A3 Int)
 deriving DecidableEq,Inhabited
def Zqt(x:Z2s):List Zh:=(cI .i64) x.Kind++((cI .i64) x.Source++((cI .i64) x.Object++((cI .i64) x.Player++((cI .i64) x.Amount++((cI .i64) x.From++((cI .i64) x.To++((cI .i64) x.Cause++((cI .i64) x.Counter++((cI .i64) x.Card++(cB x.Combat++(cB x.Tapped++((cA3 (cI .i64)) x.Extra))))))))))))
instance:Cl Zqt 15:=⟨fun _=>rfl⟩
structure Zmv where
 Id:Int
 Kind:Int
 Source:Int
 Control:Int
 X:Int
 Copy:Bool
 Ability:Zd
 Targets:(List Ztc)
 Event:Z2s
 deriving DecidableEq,Inhabited
def Zbj(x:Zmv):List Zh:=(cI .i64) x.Id++((cI .i64) x.Kind++((cI .i64) x.Source++((cI .i64) x.Control++((cI .i64) x.X++(cB x.Copy++(Zi x.Ability++((cL Zor) x.Targets++(Zqt x.Event))))))))
instance:Cl Zbj 94:=⟨fun _=>rfl⟩
structure Zkx where
 Source:Int
 Control:Int
 Ability:Zd
 Event:Z2s
 deriving DecidableEq,Inhabited
def Zbl(x:Zkx):List Zh:=(cI .i64) x.Source++((cI .i64) x.Control++(Zi x.Ability++(Zqt x.Event)))
instance:Cl Zbl 89:=⟨fun _=>rfl⟩
structure Zc7 where
 Stamp:Int
 Control:Int
 Source:Int
 Until:Int
 Objects:(List Int)
 Mods:(List Zc)
 deriving DecidableEq,Inhabited
def Zbx(x:Zc7):List Zh:=(cI .i64) x.Stamp++((cI .i64) x.Control++((cI .i64) x.Source++((cI .i64) x.Until++((cL (cI .i64)) x.Objects++((cL Zk) x.Mods)))))
instance:Cl Zbx 6:=⟨fun _=>rfl⟩
structure Zm where
 Players:(List Zkg)
 Objects:(List Zf)
 Battlefield:(List Int)
 Exile:(List Int)
 Stack:(List Zmv)
 Waiting:(List Zkx)
 Conts:(List Zc7)
 Turn:Int
 Active:Int
 Step:Int
 Begun:Bool
 Priority:Int
 Passes:Int
 NextId:Int
 NextStamp:Int
 Seed:Int
 Extra:(List Int)
 Over:Int
 Winner:Int
 deriving DecidableEq,Inhabited
def Zae(x:Zm):List Zh:=(cL Zba) x.Players++((cL Zn) x.Objects++((cL (cI .i64)) x.Battlefield++((cL (cI .i64)) x.Exile++((cL Zbj) x.Stack++((cL Zbl) x.Waiting++((cL Zbx) x.Conts++((cI .i64) x.Turn++((cI .i64) x.Active++((cI .i64) x.Step++(cB x.Begun++((cI .i64) x.Priority++((cI .i64) x.Passes++((cI .i64) x.NextId++((cI .i64) x.NextStamp++((cI .u64) x.Seed++((cL (cI .i64)) x.Extra++((cI .i64) x.Over++((cI .i64) x.Winner))))))))))))))))))
instance:Cl Zae 19:=⟨fun _=>rfl⟩
structure Z0 where
 Source:Int
 Ability:Int
 Control:Int
 Stamp:Int
 Fixed:Bool
 Objects:(List Int)
 Filter:Zg
 Mods:(List Zc)
 deriving DecidableEq,Inhabited
def Z6(x:Z0):List Zh:=(cI .i64) x.Source++((cI .i64) x.Ability++((cI .i64) x.Control++((cI .i64) x.Stamp++(cB x.Fixed++((cL (cI .i64)) x.Objects++(Zo x.Filter++((cL Zk) x.Mods)))))))
instance:Cl Z6 23:=⟨fun _=>rfl⟩
structure Za where
 Name:(By)
 Cost:Zt
 Colors:Int
 Line:Z7
 Power:Int
 Tough:Int
 Keys:Int
 Abilities:(List Zd)
 Control:Int
 deriving DecidableEq,Inhabited
def Zj(x:Za):List Zh:=cS x.Name++(Zaf x.Cost++((cI .i64) x.Colors++(Zhg x.Line++((cI .i64) x.Power++((cI .i64) x.Tough++((cI .i64) x.Keys++((cL Zi) x.Abilities++((cI .i64) x.Control))))))))
instance:Cl Zj 17:=⟨fun _=>rfl⟩
structure Ze where
 s:Zm
 forces:(List Z0)
 traits:(List Za)
 dropped:(List Bool)
 done:(List Bool)
 hits:(List (List Int))
 deriving DecidableEq,Inhabited
structure Zac where
 active:Bool
 hits:(List Int)
 numbers:(List Int)
 deriving DecidableEq,Inhabited
def Zfl(x:Zac):List Zh:=cB x.active++((cL (cI .i64)) x.hits++((cL (cI .i64)) x.numbers))
instance:Cl Zfl 3:=⟨fun _=>rfl⟩
end
end Go.PW
