import Derived.Test.YtchddhcajpagjaaGreatQT
import Derived.Test.YtchddhcajpagjaaGreatQC
set_option linter.all false
set_option maxRecDepth 100000
namespace Go.PW
open Go.RowKit
noncomputable section
structure Zs where
 Generic:Int
 X:Int
 Color:(A5 Int)
 deriving DecidableEq,Inhabited
def Zae(x:Zs):List Zf:=(cI .i64) x.Generic++((cI .i64) x.X++((cA5 (cI .i64)) x.Color))
instance:Cl Zae 7:=⟨fun _=>rfl⟩
structure Zab where
 Super:Int
 Types:Int
 Subs:(Bys)
 deriving DecidableEq,Inhabited
def Zhk(x:Zab):List Zf:=(cI .i64) x.Super++((cI .i64) x.Types++((cL cS) x.Subs))
instance:Cl Zhk 3:=⟨fun _=>rfl⟩
structure Zb where
 Kind:Int
 N:Int
 deriving DecidableEq,Inhabited
def Zb4(x:Zb):List Zf:=(cI .i64) x.Kind++((cI .i64) x.N)
instance:Cl Zb4 2:=⟨fun _=>rfl⟩
structure Zd where
 Zone:Int
 Who:Int
 Self:Int
 Types:Int
 NotTypes:Int
 Colors:Int
 NotColors:Int
 Sub:(By)
 Keys:Int
 Tap:Int
 Power:Zb
 Tough:Zb
 Value:Zb
 deriving DecidableEq,Inhabited
def Zo(x:Zd):List Zf:=(cI .i64) x.Zone++((cI .i64) x.Who++((cI .i64) x.Self++((cI .i64) x.Types++((cI .i64) x.NotTypes++((cI .i64) x.Colors++((cI .i64) x.NotColors++(cS x.Sub++((cI .i64) x.Keys++((cI .i64) x.Tap++(Zb4 x.Power++(Zb4 x.Tough++(Zb4 x.Value))))))))))))
instance:Cl Zo 16:=⟨fun _=>rfl⟩
structure Zi where
 Kind:Int
 N:Int
 M:Int
 Sub:(By)
 Filter:Zd
 deriving DecidableEq,Inhabited
def Zm(x:Zi):List Zf:=(cI .i64) x.Kind++((cI .i64) x.N++((cI .i64) x.M++(cS x.Sub++(Zo x.Filter))))
instance:Cl Zm 20:=⟨fun _=>rfl⟩
structure Zgx where
 Mana:Zs
 Tap:Bool
 Sacrifice:Bool
 Life:Int
 deriving DecidableEq,Inhabited
def Zdj(x:Zgx):List Zf:=Zae x.Mana++(cB x.Tap++(cB x.Sacrifice++((cI .i64) x.Life)))
instance:Cl Zdj 10:=⟨fun _=>rfl⟩
structure Zch where
 When:Int
 Who:Int
 Filter:Zd
 deriving DecidableEq,Inhabited
def Zb7(x:Zch):List Zf:=(cI .i64) x.When++((cI .i64) x.Who++(Zo x.Filter))
instance:Cl Zb7 18:=⟨fun _=>rfl⟩
structure Zaw where
 Player:Bool
 Object:Bool
 Filter:Zd
 deriving DecidableEq,Inhabited
def Z8(x:Zaw):List Zf:=cB x.Player++(cB x.Object++(Zo x.Filter))
instance:Cl Z8 18:=⟨fun _=>rfl⟩
structure Zgt where
 Kind:Int
 N:Int
 Filter:Zd
 deriving DecidableEq,Inhabited
def Zdd(x:Zgt):List Zf:=(cI .i64) x.Kind++((cI .i64) x.N++(Zo x.Filter))
instance:Cl Zdd 18:=⟨fun _=>rfl⟩
structure Zbi where
 Kind:Int
 N:Int
 Counter:Int
 Filter:Zd
 deriving DecidableEq,Inhabited
def Zan(x:Zbi):List Zf:=(cI .i64) x.Kind++((cI .i64) x.N++((cI .i64) x.Counter++(Zo x.Filter)))
instance:Cl Zan 19:=⟨fun _=>rfl⟩
structure Zt where
 Op:Int
 Ref:Zgt
 Amount:Zbi
 Counter:Int
 Zone:Int
 Card:(By)
 Filter:Zd
 Pool:(A6 Int)
 Mods:(List Zi)
 deriving DecidableEq,Inhabited
def Zq(x:Zt):List Zf:=(cI .i64) x.Op++(Zdd x.Ref++(Zan x.Amount++((cI .i64) x.Counter++((cI .i64) x.Zone++(cS x.Card++(Zo x.Filter++((cA6 (cI .i64)) x.Pool++((cL Zm) x.Mods))))))))
instance:Cl Zq 64:=⟨fun _=>rfl⟩
structure Zay where
 On:Int
 Who:Int
 Filter:Zd
 Do:Int
 N:Int
 Zone:Int
 Counter:Int
 deriving DecidableEq,Inhabited
def Zbe(x:Zay):List Zf:=(cI .i64) x.On++((cI .i64) x.Who++(Zo x.Filter++((cI .i64) x.Do++((cI .i64) x.N++((cI .i64) x.Zone++((cI .i64) x.Counter))))))
instance:Cl Zbe 22:=⟨fun _=>rfl⟩
structure Ze where
 Kind:Int
 Filter:Zd
 Mods:(List Zi)
 Price:Zgx
 Slow:Bool
 Trigger:Zch
 May:Bool
 Specs:(List Zaw)
 Effects:(List Zt)
 Replace:Zay
 deriving DecidableEq,Inhabited
def Zg(x:Ze):List Zf:=(cI .i64) x.Kind++(Zo x.Filter++((cL Zm) x.Mods++(Zdj x.Price++(cB x.Slow++(Zb7 x.Trigger++(cB x.May++((cL Z8) x.Specs++((cL Zq) x.Effects++(Zbe x.Replace)))))))))
instance:Cl Zg 72:=⟨fun _=>rfl⟩
structure Zk where
 Name:(By)
 Token:Bool
 Cost:Zs
 Color:Int
 Line:Zab
 Power:Int
 Tough:Int
 Keys:Int
 Abilities:(List Ze)
 deriving DecidableEq,Inhabited
def Zz(x:Zk):List Zf:=cS x.Name++(cB x.Token++(Zae x.Cost++((cI .i64) x.Color++(Zhk x.Line++((cI .i64) x.Power++((cI .i64) x.Tough++((cI .i64) x.Keys++((cL Zg) x.Abilities))))))))
instance:Cl Zz 17:=⟨fun _=>rfl⟩
structure Zj9 where
 Life:Int
 Venom:Int
 Lands:Int
 Pool:(A6 Int)
 Failed:Bool
 Lost:Bool
 Library:(List Int)
 Hand:(List Int)
 Graveyard:(List Int)
 deriving DecidableEq,Inhabited
def Za9(x:Zj9):List Zf:=(cI .i64) x.Life++((cI .i64) x.Venom++((cI .i64) x.Lands++((cA6 (cI .i64)) x.Pool++(cB x.Failed++(cB x.Lost++((cL (cI .i64)) x.Library++((cL (cI .i64)) x.Hand++((cL (cI .i64)) x.Graveyard))))))))
instance:Cl Za9 14:=⟨fun _=>rfl⟩
structure Zc where
 Id:Int
 Card:Int
 Owner:Int
 Control:Int
 Zone:Int
 Token:Bool
 Tapped:Bool
 Sick:Bool
 Deadly:Bool
 Damage:Int
 Counters:(A3 Int)
 Stamp:Int
 Copy:Int
 Attack:Int
 Blocked:Bool
 Blocks:Int
 Shield:Int
 deriving DecidableEq,Inhabited
def Zl(x:Zc):List Zf:=(cI .i64) x.Id++((cI .i64) x.Card++((cI .i64) x.Owner++((cI .i64) x.Control++((cI .i64) x.Zone++(cB x.Token++(cB x.Tapped++(cB x.Sick++(cB x.Deadly++((cI .i64) x.Damage++((cA3 (cI .i64)) x.Counters++((cI .i64) x.Stamp++((cI .i64) x.Copy++((cI .i64) x.Attack++(cB x.Blocked++((cI .i64) x.Blocks++((cI .i64) x.Shield))))))))))))))))
instance:Cl Zl 19:=⟨fun _=>rfl⟩
structure Zs7 where
 Object:Int
 Player:Int
 deriving DecidableEq,Inhabited
def Zoi(x:Zs7):List Zf:=(cI .i64) x.Object++((cI .i64) x.Player)
instance:Cl Zoi 2:=⟨fun _=>rfl⟩
structure Z2p where
 Kind:Int
 Source:Int
 Object:Int
 Player:Int
 Amount:Int
 From:Int
 To:Int
 Cause:Int
 Counter:Int
 Card:Int
 Combat:Bool
 Tapped:Bool
 Extra:(A3 Int)
 deriving DecidableEq,Inhabited
def Zqn(x:Z2p):List Zf:=(cI .i64) x.Kind++((cI .i64) x.Source++((cI .i64) x.Object++((cI .i64) x.Player++((cI .i64) x.Amount++((cI .i64) x.From++((cI .i64) x.To++((cI .i64) x.Cause++((cI .i64) x.Counter++((cI .i64) x.Card++(cB x.Combat++(cB x.Tapped++((cA3 (cI .i64)) x.Extra))))))))))))
instance:Cl Zqn 15:=⟨fun _=>rfl⟩
structure Zmp where
 Id:Int
 Kind:Int
 Source:Int
 Control:Int
 X:Int
 Copy:Bool
 Ability:Ze
 Targets:(List Zs7)
 Event:Z2p
 deriving DecidableEq,Inhabited
def Zbj(x:Zmp):List Zf:=(cI .i64) x.Id++((cI .i64) x.Kind++((cI .i64) x.Source++((cI .i64) x.Control++((cI .i64) x.X++(cB x.Copy++(Zg x.Ability++((cL Zoi) x.Targets++(Zqn x.Event))))))))
instance:Cl Zbj 94:=⟨fun _=>rfl⟩
structure Zkp where
 Source:Int
 Control:Int
 Ability:Ze
 Event:Z2p
 deriving DecidableEq,Inhabited
def Zbm(x:Zkp):List Zf:=(cI .i64) x.Source++((cI .i64) x.Control++(Zg x.Ability++(Zqn x.Event)))
instance:Cl Zbm 89:=⟨fun _=>rfl⟩
structure Zc6 where
 Stamp:Int
 Control:Int
 Source:Int
 Until:Int
 Objects:(List Int)
 Mods:(List Zi)
 deriving DecidableEq,Inhabited
def Zbz(x:Zc6):List Zf:=(cI .i64) x.Stamp++((cI .i64) x.Control++((cI .i64) x.Source++((cI .i64) x.Until++((cL (cI .i64)) x.Objects++((cL Zm) x.Mods)))))
instance:Cl Zbz 6:=⟨fun _=>rfl⟩
structure Zn where
 Players:(List Zj9)
 Objects:(List Zc)
 Battlefield:(List Int)
 Exile:(List Int)
 Stack:(List Zmp)
 Waiting:(List Zkp)
 Conts:(List Zc6)
 Turn:Int
 Active:Int
 Step:Int
 Begun:Bool
 Priority:Int
 Passes:Int
 NextId:Int
 NextStamp:Int
 Seed:Int
 Extra:(List Int)
 Over:Int
 Winner:Int
 deriving DecidableEq,Inhabited
def Zad(x:Zn):List Zf:=(cL Za9) x.Players++((cL Zl) x.Objects++((cL (cI .i64)) x.Battlefield++((cL (cI .i64)) x.Exile++((cL Zbj) x.Stack++((cL Zbm) x.Waiting++((cL Zbz) x.Conts++((cI .i64) x.Turn++((cI .i64) x.Active++((cI .i64) x.Step++(cB x.Begun++((cI .i64) x.Priority++((cI .i64) x.Passes++((cI .i64) x.NextId++((cI .i64) x.NextStamp++((cI .u64) x.Seed++((cL (cI .i64)) x.Extra++((cI .i64) x.Over++((cI .i64) x.Winner))))))))))))))))))
instance:Cl Zad 19:=⟨fun _=>rfl⟩
structure Zaj where
 Source:Int
 Ability:Int
 Control:Int
 Stamp:Int
 Fixed:Bool
 Objects:(List Int)
 Filter:Zd
 Mods:(List Zi)
 deriving DecidableEq,Inhabited
def Z4(x:Zaj):List Zf:=(cI .i64) x.Source++((cI .i64) x.Ability++((cI .i64) x.Control++((cI .i64) x.Stamp++(cB x.Fixed++((cL (cI .i64)) x.Objects++(Zo x.Filter++((cL Zm) x.Mods)))))))
instance:Cl Z4 23:=⟨fun _=>rfl⟩
structure Za where
 Name:(By)
 Cost:Zs
 Colors:Int
 Line:Zab
 Power:Int
 Tough:Int
 Keys:Int
 Abilities:(List Ze)
 Control:Int
 deriving DecidableEq,Inhabited
def Zh(x:Za):List Zf:=cS x.Name++(Zae x.Cost++((cI .i64) x.Colors++(Zhk x.Line++((cI .i64) x.Power++((cI .i64) x.Tough++((cI .i64) x.Keys++((cL Zg) x.Abilities++((cI .i64) x.Control))))))))
instance:Cl Zh 17:=⟨fun _=>rfl⟩
structure Zj where
 s:Zn
 forces:(List Zaj)
 traits:(List Za)
 dropped:(List Bool)
 done:(List Bool)
 hits:(List (List Int))
 deriving DecidableEq,Inhabited
structure Za7 where
 active:Bool
 hits:(List Int)
 numbers:(List Int)
 deriving DecidableEq,Inhabited
def Zfq(x:Za7):List Zf:=cB x.active++((cL (cI .i64)) x.hits++((cL (cI .i64)) x.numbers))
instance:Cl Zfq 3:=⟨fun _=>rfl⟩
end
end Go.PW
