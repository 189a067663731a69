import Derived.Test.YtchddhcajpagjaaGreatQT
import Derived.Test.YtchddhcajpagjaaGreatQC
set_option linter.all false
set_option maxRecDepth 100000
namespace Go.PW
open Go.RowKit
noncomputable section
structure Zr where
 Generic:Int
 X:Int
 Color:(A5 Int)
 deriving DecidableEq,Inhabited
def Zae(x:Zr):List Zd:=(cI .i64) x.Generic++((cI .i64) x.X++((cA5 (cI .i64)) x.Color))
instance:Cl Zae 7:=⟨fun _=>rfl⟩
structure Z6 where
 Super:Int
 Types:Int
 Subs:(Bys)
 deriving DecidableEq,Inhabited
def Zd8(x:Z6):List Zd:=(cI .i64) x.Super++((cI .i64) x.Types++((cL cS) x.Subs))
instance:Cl Zd8 3:=⟨fun _=>rfl⟩
structure Za where
 Kind:Int
 N:Int
 deriving DecidableEq,Inhabited
def Zb8(x:Za):List Zd:=(cI .i64) x.Kind++((cI .i64) x.N)
instance:Cl Zb8 2:=⟨fun _=>rfl⟩
structure Zc where
 Zone:Int
 Who:Int
 Self:Int
 Types:Int
 NotTypes:Int
 Colors:Int
 NotColors:Int
 Sub:(By)
 Keys:Int
 Tap:Int
 Power:Za
 Tough:Za
 Value:Za
 deriving DecidableEq,Inhabited
def Zn(x:Zc):List Zd:=(cI .i64) x.Zone++((cI .i64) x.Who++((cI .i64) x.Self++((cI .i64) x.Types++((cI .i64) x.NotTypes++((cI .i64) x.Colors++((cI .i64) x.NotColors++(cS x.Sub++((cI .i64) x.Keys++((cI .i64) x.Tap++(Zb8 x.Power++(Zb8 x.Tough++(Zb8 x.Value))))))))))))
instance:Cl Zn 16:=⟨fun _=>rfl⟩
structure Zh where
 Kind:Int
 N:Int
 M:Int
 Sub:(By)
 Filter:Zc
 deriving DecidableEq,Inhabited
def Zl(x:Zh):List Zd:=(cI .i64) x.Kind++((cI .i64) x.N++((cI .i64) x.M++(cS x.Sub++(Zn x.Filter))))
instance:Cl Zl 20:=⟨fun _=>rfl⟩
structure Zfq where
 Mana:Zr
 Tap:Bool
 Sacrifice:Bool
 Life:Int
 deriving DecidableEq,Inhabited
def Zfh(x:Zfq):List Zd:=Zae x.Mana++(cB x.Tap++(cB x.Sacrifice++((cI .i64) x.Life)))
instance:Cl Zfh 10:=⟨fun _=>rfl⟩
structure Zbx where
 When:Int
 Who:Int
 Filter:Zc
 deriving DecidableEq,Inhabited
def Zda(x:Zbx):List Zd:=(cI .i64) x.When++((cI .i64) x.Who++(Zn x.Filter))
instance:Cl Zda 18:=⟨fun _=>rfl⟩
structure Zat where
 Player:Bool
 Object:Bool
 Filter:Zc
 deriving DecidableEq,Inhabited
def Zah(x:Zat):List Zd:=cB x.Player++(cB x.Object++(Zn x.Filter))
instance:Cl Zah 18:=⟨fun _=>rfl⟩
structure Ze6 where
 Kind:Int
 N:Int
 Filter:Zc
 deriving DecidableEq,Inhabited
def Zeg(x:Ze6):List Zd:=(cI .i64) x.Kind++((cI .i64) x.N++(Zn x.Filter))
instance:Cl Zeg 18:=⟨fun _=>rfl⟩
structure Za9 where
 Kind:Int
 N:Int
 Counter:Int
 Filter:Zc
 deriving DecidableEq,Inhabited
def Zar(x:Za9):List Zd:=(cI .i64) x.Kind++((cI .i64) x.N++((cI .i64) x.Counter++(Zn x.Filter)))
instance:Cl Zar 19:=⟨fun _=>rfl⟩
structure Zs where
 Op:Int
 Ref:Ze6
 Amount:Za9
 Counter:Int
 Zone:Int
 Card:(By)
 Filter:Zc
 Pool:(A6 Int)
 Mods:(List Zh)
 deriving DecidableEq,Inhabited
def Zt(x:Zs):List Zd:=(cI .i64) x.Op++(Zeg x.Ref++(Zar x.Amount++((cI .i64) x.Counter++((cI .i64) x.Zone++(cS x.Card++(Zn x.Filter++((cA6 (cI .i64)) x.Pool++((cL Zl) x.Mods))))))))
instance:Cl Zt 64:=⟨fun _=>rfl⟩
structure Zas where
 On:Int
 Who:Int
 Filter:Zc
 Do:Int
 N:Int
 Zone:Int
 Counter:Int
 deriving DecidableEq,Inhabited
def Zbt(x:Zas):List Zd:=(cI .i64) x.On++((cI .i64) x.Who++(Zn x.Filter++((cI .i64) x.Do++((cI .i64) x.N++((cI .i64) x.Zone++((cI .i64) x.Counter))))))
instance:Cl Zbt 22:=⟨fun _=>rfl⟩
structure Ze where
 Kind:Int
 Filter:Zc
 Mods:(List Zh)
 Price:Zfq
 Slow:Bool
 Trigger:Zbx
 May:Bool
 Specs:(List Zat)
 Effects:(List Zs)
 Replace:Zas
 deriving DecidableEq,Inhabited
def Zi(x:Ze):List Zd:=(cI .i64) x.Kind++(Zn x.Filter++((cL Zl) x.Mods++(Zfh x.Price++(cB x.Slow++(Zda x.Trigger++(cB x.May++((cL Zah) x.Specs++((cL Zt) x.Effects++(Zbt x.Replace)))))))))
instance:Cl Zi 72:=⟨fun _=>rfl⟩
structure Zk where
 Name:(By)
 Token:Bool
 Cost:Zr
 Color:Int
 Line:Z6
 Power:Int
 Tough:Int
 Keys:Int
 Abilities:(List Ze)
 deriving DecidableEq,Inhabited
def Zu(x:Zk):List Zd:=cS x.Name++(cB x.Token++(Zae x.Cost++((cI .i64) x.Color++(Zd8 x.Line++((cI .i64) x.Power++((cI .i64) x.Tough++((cI .i64) x.Keys++((cL Zi) x.Abilities))))))))
instance:Cl Zu 17:=⟨fun _=>rfl⟩
structure Zhq where
 Life:Int
 Venom:Int
 Lands:Int
 Pool:(A6 Int)
 Failed:Bool
 Lost:Bool
 Library:(List Int)
 Hand:(List Int)
 Graveyard:(List Int)
 deriving DecidableEq,Inhabited
def Zav(x:Zhq):List Zd:=(cI .i64) x.Life++((cI .i64) x.Venom++((cI .i64) x.Lands++((cA6 (cI .i64)) x.Pool++(cB x.Failed++(cB x.Lost++((cL (cI .i64)) x.Library++((cL (cI .i64)) x.Hand++((cL (cI .i64)) x.Graveyard))))))))
instance:Cl Zav 14:=⟨fun _=>rfl⟩
structure Zf where
 Id:Int
 Card:Int
 Owner:Int
 Control:Int
 Zone:Int
 Token:Bool
 Tapped:Bool
 Sick:Bool
 Deadly:Bool
 Damage:Int
 Counters:(A3 Int)
 Stamp:Int
 Copy:Int
 Attack:Int
 Blocked:Bool
 Blocks:Int
 Shield:Int
 deriving DecidableEq,Inhabited
def Zj(x:Zf):List Zd:=(cI .i64) x.Id++((cI .i64) x.Card++((cI .i64) x.Owner++((cI .i64) x.Control++((cI .i64) x.Zone++(cB x.Token++(cB x.Tapped++(cB x.Sick++(cB x.Deadly++((cI .i64) x.Damage++((cA3 (cI .i64)) x.Counters++((cI .i64) x.Stamp++((cI .i64) x.Copy++((cI .i64) x.Attack++(cB x.Blocked++((cI .i64) x.Blocks++((cI .i64) x.Shield))))))))))))))))
instance:Cl Zj 19:=⟨fun _=>rfl⟩
structure Zpb where
 Object:Int
 Player:Int
 deriving DecidableEq,Inhabited
def Zk1(x:Zpb):List Zd:=(cI .i64) x.Object++((cI .i64) x.Player)
instance:Cl Zk1 2:=⟨fun _=>rfl⟩
structure Zy8 where
 Kind:Int
 Source:Int
 Object:Int
 Player:Int
 Amount:Int
 From:Int
 To:Int
 Cause:Int
 Counter:Int
 Card:Int
 Combat:Bool
 Tapped:Bool
 Extra:(A3 Int)
 deriving DecidableEq,Inhabited
def Zmv(x:Zy8):List Zd:=(cI .i64) x.Kind++((cI .i64) x.Source++((cI .i64) x.Object++((cI .i64) x.Player++((cI .i64) x.Amount++((cI .i64) x.From++((cI .i64) x.To++((cI .i64) x.Cause++((cI .i64) x.Counter++((cI .i64) x.Card++(cB x.Combat++(cB x.Tapped++((cA3 (cI .i64)) x.Extra))))))))))))
instance:Cl Zmv 15:=⟨fun _=>rfl⟩
structure Zjh where
 Id:Int
 Kind:Int
 Source:Int
 Control:Int
 X:Int
 Copy:Bool
 Ability:Ze
 Targets:(List Zpb)
 Event:Zy8
 deriving DecidableEq,Inhabited
def Za4(x:Zjh):List Zd:=(cI .i64) x.Id++((cI .i64) x.Kind++((cI .i64) x.Source++((cI .i64) x.Control++((cI .i64) x.X++(cB x.Copy++(Zi x.Ability++((cL Zk1) x.Targets++(Zmv x.Event))))))))
instance:Cl Za4 94:=⟨fun _=>rfl⟩
structure Zh2 where
 Source:Int
 Control:Int
 Ability:Ze
 Event:Zy8
 deriving DecidableEq,Inhabited
def Za6(x:Zh2):List Zd:=(cI .i64) x.Source++((cI .i64) x.Control++(Zi x.Ability++(Zmv x.Event)))
instance:Cl Za6 89:=⟨fun _=>rfl⟩
structure Zb9 where
 Stamp:Int
 Control:Int
 Source:Int
 Until:Int
 Objects:(List Int)
 Mods:(List Zh)
 deriving DecidableEq,Inhabited
def Zba(x:Zb9):List Zd:=(cI .i64) x.Stamp++((cI .i64) x.Control++((cI .i64) x.Source++((cI .i64) x.Until++((cL (cI .i64)) x.Objects++((cL Zl) x.Mods)))))
instance:Cl Zba 6:=⟨fun _=>rfl⟩
structure Zo where
 Players:(List Zhq)
 Objects:(List Zf)
 Battlefield:(List Int)
 Exile:(List Int)
 Stack:(List Zjh)
 Waiting:(List Zh2)
 Conts:(List Zb9)
 Turn:Int
 Active:Int
 Step:Int
 Begun:Bool
 Priority:Int
 Passes:Int
 NextId:Int
 NextStamp:Int
 Seed:Int
 Extra:(List Int)
 Over:Int
 Winner:Int
 deriving DecidableEq,Inhabited
def Z1(x:Zo):List Zd:=(cL Zav) x.Players++((cL Zj) x.Objects++((cL (cI .i64)) x.Battlefield++((cL (cI .i64)) x.Exile++((cL Za4) x.Stack++((cL Za6) x.Waiting++((cL Zba) x.Conts++((cI .i64) x.Turn++((cI .i64) x.Active++((cI .i64) x.Step++(cB x.Begun++((cI .i64) x.Priority++((cI .i64) x.Passes++((cI .i64) x.NextId++((cI .i64) x.NextStamp++((cI .u64) x.Seed++((cL (cI .i64)) x.Extra++((cI .i64) x.Over++((cI .i64) x.Winner))))))))))))))))))
instance:Cl Z1 19:=⟨fun _=>rfl⟩
structure Zad where
 Source:Int
 Ability:Int
 Control:Int
 Stamp:Int
 Fixed:Bool
 Objects:(List Int)
 Filter:Zc
 Mods:(List Zh)
 deriving DecidableEq,Inhabited
def Zx(x:Zad):List Zd:=(cI .i64) x.Source++((cI .i64) x.Ability++((cI .i64) x.Control++((cI .i64) x.Stamp++(cB x.Fixed++((cL (cI .i64)) x.Objects++(Zn x.Filter++((cL Zl) x.Mods)))))))
instance:Cl Zx 23:=⟨fun _=>rfl⟩
structure Z2 where
 Source:Int
 Ability:Int
 Control:Int
 Stamp:Int
 Fixed:Bool
 Objects:(List Int)
 Filter:Zc
 Mods:(List Zh)
 deriving DecidableEq,Inhabited
def Zab(x:Z2):List Zd:=(cI .i64) x.Source++((cI .i64) x.Ability++((cI .i64) x.Control++((cI .i64) x.Stamp++(cB x.Fixed++((cL (cI .i64)) x.Objects++(Zn x.Filter++((cL Zl) x.Mods)))))))
instance:Cl Zab 23:=⟨fun _=>rfl⟩
structure Zb where
 Name:(By)
 Cost:Zr
 Colors:Int
 Line:Z6
 Power:Int
 Tough:Int
 Keys:Int
 Abilities:(List Ze)
 Control:Int
 deriving DecidableEq,Inhabited
def Zg(x:Zb):List Zd:=cS x.Name++(Zae x.Cost++((cI .i64) x.Colors++(Zd8 x.Line++((cI .i64) x.Power++((cI .i64) x.Tough++((cI .i64) x.Keys++((cL Zi) x.Abilities++((cI .i64) x.Control))))))))
instance:Cl Zg 17:=⟨fun _=>rfl⟩
structure Zm where
 s:Zo
 forces:(List Zad)
 traits:(List Zb)
 dropped:(List Bool)
 done:(List Bool)
 hits:(List (List Int))
 deriving DecidableEq,Inhabited
structure Zcf where
 active:Bool
 hits:(List Int)
 numbers:(List Int)
 deriving DecidableEq,Inhabited
def Zd5(x:Zcf):List Zd:=cB x.active++((cL (cI .i64)) x.hits++((cL (cI .i64)) x.numbers))
instance:Cl Zd5 3:=⟨fun _=>rfl⟩
end
end Go.PW
