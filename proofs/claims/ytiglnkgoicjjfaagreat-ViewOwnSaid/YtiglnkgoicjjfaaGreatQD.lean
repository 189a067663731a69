import Derived.Test.YtiglnkgoicjjfaaGreatQT
set_option linter.all false
set_option maxRecDepth 100000
namespace Go.PW
open Go.RowKit
noncomputable section
structure Zbz where
 Generic:Int
 X:Int
 Color:(A5 Int)
 deriving DecidableEq,Inhabited
def Zb2(x:Zbz):List Zb:=(cI .i64) x.Generic++((cI .i64) x.X++((cA5 (cI .i64)) x.Color))
instance:Cl Zb2 7:=⟨fun _=>rfl⟩
structure Zki where
 Super:Int
 Types:Int
 Subs:(Bys)
 deriving DecidableEq,Inhabited
def Zoj(x:Zki):List Zb:=(cI .i64) x.Super++((cI .i64) x.Types++((cL cS) x.Subs))
instance:Cl Zoj 3:=⟨fun _=>rfl⟩
structure Zg where
 Kind:Int
 N:Int
 deriving DecidableEq,Inhabited
def Zgy(x:Zg):List Zb:=(cI .i64) x.Kind++((cI .i64) x.N)
instance:Cl Zgy 2:=⟨fun _=>rfl⟩
structure Zn where
 Zone:Int
 Who:Int
 Self:Int
 Types:Int
 NotTypes:Int
 Colors:Int
 NotColors:Int
 Sub:(By)
 Keys:Int
 Tap:Int
 Power:Zg
 Tough:Zg
 Value:Zg
 deriving DecidableEq,Inhabited
def Zy(x:Zn):List Zb:=(cI .i64) x.Zone++((cI .i64) x.Who++((cI .i64) x.Self++((cI .i64) x.Types++((cI .i64) x.NotTypes++((cI .i64) x.Colors++((cI .i64) x.NotColors++(cS x.Sub++((cI .i64) x.Keys++((cI .i64) x.Tap++(Zgy x.Power++(Zgy x.Tough++(Zgy x.Value))))))))))))
instance:Cl Zy 16:=⟨fun _=>rfl⟩
structure Zq where
 Kind:Int
 N:Int
 M:Int
 Sub:(By)
 Filter:Zn
 deriving DecidableEq,Inhabited
def Zk(x:Zq):List Zb:=(cI .i64) x.Kind++((cI .i64) x.N++((cI .i64) x.M++(cS x.Sub++(Zy x.Filter))))
instance:Cl Zk 20:=⟨fun _=>rfl⟩
structure Zh6 where
 Mana:Zbz
 Tap:Bool
 Sacrifice:Bool
 Life:Int
 deriving DecidableEq,Inhabited
def Zei(x:Zh6):List Zb:=Zb2 x.Mana++(cB x.Tap++(cB x.Sacrifice++((cI .i64) x.Life)))
instance:Cl Zei 10:=⟨fun _=>rfl⟩
structure Zd0 where
 When:Int
 Who:Int
 Filter:Zn
 deriving DecidableEq,Inhabited
def Zcz(x:Zd0):List Zb:=(cI .i64) x.When++((cI .i64) x.Who++(Zy x.Filter))
instance:Cl Zcz 18:=⟨fun _=>rfl⟩
structure Zbp where
 Player:Bool
 Object:Bool
 Filter:Zn
 deriving DecidableEq,Inhabited
def Z7(x:Zbp):List Zb:=cB x.Player++(cB x.Object++(Zy x.Filter))
instance:Cl Z7 18:=⟨fun _=>rfl⟩
structure Zgw where
 Kind:Int
 N:Int
 Filter:Zn
 deriving DecidableEq,Inhabited
def Zeh(x:Zgw):List Zb:=(cI .i64) x.Kind++((cI .i64) x.N++(Zy x.Filter))
instance:Cl Zeh 18:=⟨fun _=>rfl⟩
structure Zdt where
 Kind:Int
 N:Int
 Counter:Int
 Filter:Zn
 deriving DecidableEq,Inhabited
def Zbn(x:Zdt):List Zb:=(cI .i64) x.Kind++((cI .i64) x.N++((cI .i64) x.Counter++(Zy x.Filter)))
instance:Cl Zbn 19:=⟨fun _=>rfl⟩
structure Zv where
 Op:Int
 Ref:Zgw
 Amount:Zdt
 Counter:Int
 Zone:Int
 Card:(By)
 Filter:Zn
 Pool:(A6 Int)
 Mods:(List Zq)
 deriving DecidableEq,Inhabited
def Zo(x:Zv):List Zb:=(cI .i64) x.Op++(Zeh x.Ref++(Zbn x.Amount++((cI .i64) x.Counter++((cI .i64) x.Zone++(cS x.Card++(Zy x.Filter++((cA6 (cI .i64)) x.Pool++((cL Zk) x.Mods))))))))
instance:Cl Zo 64:=⟨fun _=>rfl⟩
structure Zbx where
 On:Int
 Who:Int
 Filter:Zn
 Do:Int
 N:Int
 Zone:Int
 Counter:Int
 deriving DecidableEq,Inhabited
def Zb8(x:Zbx):List Zb:=(cI .i64) x.On++((cI .i64) x.Who++(Zy x.Filter++((cI .i64) x.Do++((cI .i64) x.N++((cI .i64) x.Zone++((cI .i64) x.Counter))))))
instance:Cl Zb8 22:=⟨fun _=>rfl⟩
structure Zs where
 Kind:Int
 Filter:Zn
 Mods:(List Zq)
 Price:Zh6
 Slow:Bool
 Trigger:Zd0
 May:Bool
 Specs:(List Zbp)
 Effects:(List Zv)
 Replace:Zbx
 deriving DecidableEq,Inhabited
def Zay(x:Zs):List Zb:=(cI .i64) x.Kind++(Zy x.Filter++((cL Zk) x.Mods++(Zei x.Price++(cB x.Slow++(Zcz x.Trigger++(cB x.May++((cL Z7) x.Specs++((cL Zo) x.Effects++(Zb8 x.Replace)))))))))
instance:Cl Zay 72:=⟨fun _=>rfl⟩
structure Zai where
 Name:(By)
 Token:Bool
 Cost:Zbz
 Color:Int
 Line:Zki
 Power:Int
 Tough:Int
 Keys:Int
 Abilities:(List Zs)
 deriving DecidableEq,Inhabited
def Zax(x:Zai):List Zb:=cS x.Name++(cB x.Token++(Zb2 x.Cost++((cI .i64) x.Color++(Zoj x.Line++((cI .i64) x.Power++((cI .i64) x.Tough++((cI .i64) x.Keys++((cL Zay) x.Abilities))))))))
instance:Cl Zax 17:=⟨fun _=>rfl⟩
structure Z5 where
 Life:Int
 Venom:Int
 Lands:Int
 Pool:(A6 Int)
 Failed:Bool
 Lost:Bool
 Library:(List Int)
 Hand:(List Int)
 Graveyard:(List Int)
 deriving DecidableEq,Inhabited
def Ze(x:Z5):List Zb:=(cI .i64) x.Life++((cI .i64) x.Venom++((cI .i64) x.Lands++((cA6 (cI .i64)) x.Pool++(cB x.Failed++(cB x.Lost++((cL (cI .i64)) x.Library++((cL (cI .i64)) x.Hand++((cL (cI .i64)) x.Graveyard))))))))
instance:Cl Ze 14:=⟨fun _=>rfl⟩
structure Zp where
 Id:Int
 Card:Int
 Owner:Int
 Control:Int
 Zone:Int
 Token:Bool
 Tapped:Bool
 Sick:Bool
 Deadly:Bool
 Damage:Int
 Counters:(A3 Int)
 Stamp:Int
 Copy:Int
 Attack:Int
 Blocked:Bool
 Blocks:Int
 Shield:Int
 deriving DecidableEq,Inhabited
def Zc(x:Zp):List Zb:=(cI .i64) x.Id++((cI .i64) x.Card++((cI .i64) x.Owner++((cI .i64) x.Control++((cI .i64) x.Zone++(cB x.Token++(cB x.Tapped++(cB x.Sick++(cB x.Deadly++((cI .i64) x.Damage++((cA3 (cI .i64)) x.Counters++((cI .i64) x.Stamp++((cI .i64) x.Copy++((cI .i64) x.Attack++(cB x.Blocked++((cI .i64) x.Blocks++((cI .i64) x.Shield))))))))))))))))
instance:Cl Zc 19:=⟨fun _=>rfl⟩
structure Zbj where
 Object:Int
 Player:Int
 deriving DecidableEq,Inhabited
def Zaa(x:Zbj):List Zb:=(cI .i64) x.Object++((cI .i64) x.Player)
instance:Cl Zaa 2:=⟨fun _=>rfl⟩
structure Zne where
 Kind:Int
 Source:Int
 Object:Int
 Player:Int
 Amount:Int
 From:Int
 To:Int
 Cause:Int
 Counter:Int
 Card:Int
 Combat:Bool
 Tapped:Bool
 Extra:(A3 Int)
 deriving DecidableEq,Inhabited
def Zdm(x:Zne):List Zb:=(cI .i64) x.Kind++((cI .i64) x.Source++((cI .i64) x.Object++((cI .i64) x.Player++((cI .i64) x.Amount++((cI .i64) x.From++((cI .i64) x.To++((cI .i64) x.Cause++((cI .i64) x.Counter++((cI .i64) x.Card++(cB x.Combat++(cB x.Tapped++((cA3 (cI .i64)) x.Extra))))))))))))
instance:Cl Zdm 15:=⟨fun _=>rfl⟩
structure Zal where
 Id:Int
 Kind:Int
 Source:Int
 Control:Int
 X:Int
 Copy:Bool
 Ability:Zs
 Targets:(List Zbj)
 Event:Zne
 deriving DecidableEq,Inhabited
def Zf(x:Zal):List Zb:=(cI .i64) x.Id++((cI .i64) x.Kind++((cI .i64) x.Source++((cI .i64) x.Control++((cI .i64) x.X++(cB x.Copy++(Zay x.Ability++((cL Zaa) x.Targets++(Zdm x.Event))))))))
instance:Cl Zf 94:=⟨fun _=>rfl⟩
structure Zab where
 Source:Int
 Control:Int
 Ability:Zs
 Event:Zne
 deriving DecidableEq,Inhabited
def Zd(x:Zab):List Zb:=(cI .i64) x.Source++((cI .i64) x.Control++(Zay x.Ability++(Zdm x.Event)))
instance:Cl Zd 89:=⟨fun _=>rfl⟩
structure Za1 where
 Stamp:Int
 Control:Int
 Source:Int
 Until:Int
 Objects:(List Int)
 Mods:(List Zq)
 deriving DecidableEq,Inhabited
def Zh(x:Za1):List Zb:=(cI .i64) x.Stamp++((cI .i64) x.Control++((cI .i64) x.Source++((cI .i64) x.Until++((cL (cI .i64)) x.Objects++((cL Zk) x.Mods)))))
instance:Cl Zh 6:=⟨fun _=>rfl⟩
structure Za where
 Players:(List Z5)
 Objects:(List Zp)
 Battlefield:(List Int)
 Exile:(List Int)
 Stack:(List Zal)
 Waiting:(List Zab)
 Conts:(List Za1)
 Turn:Int
 Active:Int
 Step:Int
 Begun:Bool
 Priority:Int
 Passes:Int
 NextId:Int
 NextStamp:Int
 Seed:Int
 Extra:(List Int)
 Over:Int
 Winner:Int
 deriving DecidableEq,Inhabited
def Zr(x:Za):List Zb:=(cL Ze) x.Players++((cL Zc) x.Objects++((cL (cI .i64)) x.Battlefield++((cL (cI .i64)) x.Exile++((cL Zf) x.Stack++((cL Zd) x.Waiting++((cL Zh) x.Conts++((cI .i64) x.Turn++((cI .i64) x.Active++((cI .i64) x.Step++(cB x.Begun++((cI .i64) x.Priority++((cI .i64) x.Passes++((cI .i64) x.NextId++((cI .i64) x.NextStamp++((cI .u64) x.Seed++((cL (cI .i64)) x.Extra++((cI .i64) x.Over++((cI .i64) x.Winner))))))))))))))))))
instance:Cl Zr 19:=⟨fun _=>rfl⟩
structure Zaf where
 Kind:Int
 A:Int
 B:Int
 deriving DecidableEq,Inhabited
def Zl(x:Zaf):List Zb:=(cI .i64) x.Kind++((cI .i64) x.A++((cI .i64) x.B))
instance:Cl Zl 3:=⟨fun _=>rfl⟩
structure Zbc where
 Kind:Int
 Player:Int
 Source:Int
 Least:Int
 Most:Int
 N:Int
 Options:(List Zaf)
 deriving DecidableEq,Inhabited
def Zf6(x:Zbc):List Zb:=(cI .i64) x.Kind++((cI .i64) x.Player++((cI .i64) x.Source++((cI .i64) x.Least++((cI .i64) x.Most++((cI .i64) x.N++((cL Zl) x.Options))))))
instance:Cl Zf6 7:=⟨fun _=>rfl⟩
structure Z6 where
 Cards:(List Zai)
 State:Za
 Answers:(List (List Int))
 Pending:Zbc
 Forced:Int
 Seen:(List Za)
 deriving DecidableEq,Inhabited
def Zb3(x:Z6):List Zb:=(cL Zax) x.Cards++(Zr x.State++((cL (cL (cI .i64))) x.Answers++(Zf6 x.Pending++((cI .i64) x.Forced++((cL Zr) x.Seen)))))
instance:Cl Zb3 30:=⟨fun _=>rfl⟩
structure Zc3 where
 Life:Int
 Venom:Int
 Lands:Int
 Library:Int
 Hand:Int
 Pool:(A6 Int)
 Lost:Bool
 Graveyard:(List Int)
 deriving DecidableEq,Inhabited
def Z8(x:Zc3):List Zb:=(cI .i64) x.Life++((cI .i64) x.Venom++((cI .i64) x.Lands++((cI .i64) x.Library++((cI .i64) x.Hand++((cA6 (cI .i64)) x.Pool++(cB x.Lost++((cL (cI .i64)) x.Graveyard)))))))
instance:Cl Z8 13:=⟨fun _=>rfl⟩
structure Zj where
 Player:Int
 Players:(List Zc3)
 Hand:(List Int)
 Objects:(List Zp)
 Battlefield:(List Int)
 Exile:(List Int)
 Stack:(List Zal)
 Waiting:(List Zab)
 Conts:(List Za1)
 Turn:Int
 Active:Int
 Step:Int
 Priority:Int
 Passes:Int
 NextId:Int
 Over:Int
 Winner:Int
 Extra:(List Int)
 Pending:Zbc
 deriving DecidableEq,Inhabited
def Zeg(x:Zj):List Zb:=(cI .i64) x.Player++((cL Z8) x.Players++((cL (cI .i64)) x.Hand++((cL Zc) x.Objects++((cL (cI .i64)) x.Battlefield++((cL (cI .i64)) x.Exile++((cL Zf) x.Stack++((cL Zd) x.Waiting++((cL Zh) x.Conts++((cI .i64) x.Turn++((cI .i64) x.Active++((cI .i64) x.Step++((cI .i64) x.Priority++((cI .i64) x.Passes++((cI .i64) x.NextId++((cI .i64) x.Over++((cI .i64) x.Winner++((cL (cI .i64)) x.Extra++(Zf6 x.Pending))))))))))))))))))
instance:Cl Zeg 25:=⟨fun _=>rfl⟩
end
end Go.PW
