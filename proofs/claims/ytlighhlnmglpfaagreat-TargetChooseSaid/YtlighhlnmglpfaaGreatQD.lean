import Derived.Test.YtlighhlnmglpfaaGreatQT
import Derived.Test.YtlighhlnmglpfaaGreatQC
set_option linter.all false
set_option maxRecDepth 100000
namespace Go.PW
open Go.RowKit
noncomputable section
structure Z1 where
 Generic:Int
 X:Int
 Color:(A5 Int)
 deriving DecidableEq,Inhabited
def Zaz(x:Z1):List Zn:=(cI .i64) x.Generic++((cI .i64) x.X++((cA5 (cI .i64)) x.Color))
instance:Cl Zaz 7:=⟨fun _=>rfl⟩
structure Z8 where
 Super:Int
 Types:Int
 Subs:(List (List UInt8))
 deriving DecidableEq,Inhabited
def Zei(x:Z8):List Zn:=(cI .i64) x.Super++((cI .i64) x.Types++((cL cS) x.Subs))
instance:Cl Zei 3:=⟨fun _=>rfl⟩
structure Zd where
 Kind:Int
 N:Int
 deriving DecidableEq,Inhabited
def Zcr(x:Zd):List Zn:=(cI .i64) x.Kind++((cI .i64) x.N)
instance:Cl Zcr 2:=⟨fun _=>rfl⟩
structure Ze where
 Zone:Int
 Who:Int
 Self:Int
 Types:Int
 NotTypes:Int
 Colors:Int
 NotColors:Int
 Sub:(List UInt8)
 Keys:Int
 Tap:Int
 Power:Zd
 Tough:Zd
 Value:Zd
 deriving DecidableEq,Inhabited
def Zy(x:Ze):List Zn:=(cI .i64) x.Zone++((cI .i64) x.Who++((cI .i64) x.Self++((cI .i64) x.Types++((cI .i64) x.NotTypes++((cI .i64) x.Colors++((cI .i64) x.NotColors++(cS x.Sub++((cI .i64) x.Keys++((cI .i64) x.Tap++(Zcr x.Power++(Zcr x.Tough++(Zcr x.Value))))))))))))
instance:Cl Zy 16:=⟨fun _=>rfl⟩
structure Zz where
 Kind:Int
 N:Int
 M:Int
 Sub:(List UInt8)
 Filter:Ze
 deriving DecidableEq,Inhabited
def Zab(x:Zz):List Zn:=(cI .i64) x.Kind++((cI .i64) x.N++((cI .i64) x.M++(cS x.Sub++(Zy x.Filter))))
instance:Cl Zab 20:=⟨fun _=>rfl⟩
structure Zft where
 Mana:Z1
 Tap:Bool
 Sacrifice:Bool
 Life:Int
 deriving DecidableEq,Inhabited
def Zfp(x:Zft):List Zn:=Zaz x.Mana++(cB x.Tap++(cB x.Sacrifice++((cI .i64) x.Life)))
instance:Cl Zfp 10:=⟨fun _=>rfl⟩
structure Zce where
 When:Int
 Who:Int
 Filter:Ze
 deriving DecidableEq,Inhabited
def Zdu(x:Zce):List Zn:=(cI .i64) x.When++((cI .i64) x.Who++(Zy x.Filter))
instance:Cl Zdu 18:=⟨fun _=>rfl⟩
structure Zr where
 Player:Bool
 Object:Bool
 Filter:Ze
 deriving DecidableEq,Inhabited
def Z4(x:Zr):List Zn:=cB x.Player++(cB x.Object++(Zy x.Filter))
instance:Cl Z4 18:=⟨fun _=>rfl⟩
structure Zed where
 Kind:Int
 N:Int
 Filter:Ze
 deriving DecidableEq,Inhabited
def Zdp(x:Zed):List Zn:=(cI .i64) x.Kind++((cI .i64) x.N++(Zy x.Filter))
instance:Cl Zdp 18:=⟨fun _=>rfl⟩
structure Zbn where
 Kind:Int
 N:Int
 Counter:Int
 Filter:Ze
 deriving DecidableEq,Inhabited
def Zbc(x:Zbn):List Zn:=(cI .i64) x.Kind++((cI .i64) x.N++((cI .i64) x.Counter++(Zy x.Filter)))
instance:Cl Zbc 19:=⟨fun _=>rfl⟩
structure Z9 where
 Op:Int
 Ref:Zed
 Amount:Zbn
 Counter:Int
 Zone:Int
 Card:(List UInt8)
 Filter:Ze
 Pool:(A6 Int)
 Mods:(List Zz)
 deriving DecidableEq,Inhabited
def Zaf(x:Z9):List Zn:=(cI .i64) x.Op++(Zdp x.Ref++(Zbc x.Amount++((cI .i64) x.Counter++((cI .i64) x.Zone++(cS x.Card++(Zy x.Filter++((cA6 (cI .i64)) x.Pool++((cL Zab) x.Mods))))))))
instance:Cl Zaf 64:=⟨fun _=>rfl⟩
structure Za6 where
 On:Int
 Who:Int
 Filter:Ze
 Do:Int
 N:Int
 Zone:Int
 Counter:Int
 deriving DecidableEq,Inhabited
def Zb6(x:Za6):List Zn:=(cI .i64) x.On++((cI .i64) x.Who++(Zy x.Filter++((cI .i64) x.Do++((cI .i64) x.N++((cI .i64) x.Zone++((cI .i64) x.Counter))))))
instance:Cl Zb6 22:=⟨fun _=>rfl⟩
structure Zt where
 Kind:Int
 Filter:Ze
 Mods:(List Zz)
 Price:Zft
 Slow:Bool
 Trigger:Zce
 May:Bool
 Specs:(List Zr)
 Effects:(List Z9)
 Replace:Za6
 deriving DecidableEq,Inhabited
def Z3(x:Zt):List Zn:=(cI .i64) x.Kind++(Zy x.Filter++((cL Zab) x.Mods++(Zfp x.Price++(cB x.Slow++(Zdu x.Trigger++(cB x.May++((cL Z4) x.Specs++((cL Zaf) x.Effects++(Zb6 x.Replace)))))))))
instance:Cl Z3 72:=⟨fun _=>rfl⟩
structure Zq where
 Name:(List UInt8)
 Token:Bool
 Cost:Z1
 Color:Int
 Line:Z8
 Power:Int
 Tough:Int
 Keys:Int
 Abilities:(List Zt)
 deriving DecidableEq,Inhabited
def Zad(x:Zq):List Zn:=cS x.Name++(cB x.Token++(Zaz x.Cost++((cI .i64) x.Color++(Zei x.Line++((cI .i64) x.Power++((cI .i64) x.Tough++((cI .i64) x.Keys++((cL Z3) x.Abilities))))))))
instance:Cl Zad 17:=⟨fun _=>rfl⟩
structure Za2 where
 Life:Int
 Venom:Int
 Lands:Int
 Pool:(A6 Int)
 Failed:Bool
 Lost:Bool
 Library:(List Int)
 Hand:(List Int)
 Graveyard:(List Int)
 deriving DecidableEq,Inhabited
def Zag(x:Za2):List Zn:=(cI .i64) x.Life++((cI .i64) x.Venom++((cI .i64) x.Lands++((cA6 (cI .i64)) x.Pool++(cB x.Failed++(cB x.Lost++((cL (cI .i64)) x.Library++((cL (cI .i64)) x.Hand++((cL (cI .i64)) x.Graveyard))))))))
instance:Cl Zag 14:=⟨fun _=>rfl⟩
structure Zl where
 Id:Int
 Card:Int
 Owner:Int
 Control:Int
 Zone:Int
 Token:Bool
 Tapped:Bool
 Sick:Bool
 Deadly:Bool
 Damage:Int
 Counters:(A3 Int)
 Stamp:Int
 Copy:Int
 Attack:Int
 Blocked:Bool
 Blocks:Int
 Shield:Int
 deriving DecidableEq,Inhabited
def Zs(x:Zl):List Zn:=(cI .i64) x.Id++((cI .i64) x.Card++((cI .i64) x.Owner++((cI .i64) x.Control++((cI .i64) x.Zone++(cB x.Token++(cB x.Tapped++(cB x.Sick++(cB x.Deadly++((cI .i64) x.Damage++((cA3 (cI .i64)) x.Counters++((cI .i64) x.Stamp++((cI .i64) x.Copy++((cI .i64) x.Attack++(cB x.Blocked++((cI .i64) x.Blocks++((cI .i64) x.Shield))))))))))))))))
instance:Cl Zs 19:=⟨fun _=>rfl⟩
structure Zf where
 Object:Int
 Player:Int
 deriving DecidableEq,Inhabited
def Zo(x:Zf):List Zn:=(cI .i64) x.Object++((cI .i64) x.Player)
instance:Cl Zo 2:=⟨fun _=>rfl⟩
structure Zh1 where
 Kind:Int
 Source:Int
 Object:Int
 Player:Int
 Amount:Int
 From:Int
 To:Int
 Cause:Int
 Counter:Int
 Card:Int
 Combat:Bool
 Tapped:Bool
 Extra:(A3 Int)
 deriving DecidableEq,Inhabited
def Zlv(x:Zh1):List Zn:=(cI .i64) x.Kind++((cI .i64) x.Source++((cI .i64) x.Object++((cI .i64) x.Player++((cI .i64) x.Amount++((cI .i64) x.From++((cI .i64) x.To++((cI .i64) x.Cause++((cI .i64) x.Counter++((cI .i64) x.Card++(cB x.Combat++(cB x.Tapped++((cA3 (cI .i64)) x.Extra))))))))))))
instance:Cl Zlv 15:=⟨fun _=>rfl⟩
structure Zdg where
 Id:Int
 Kind:Int
 Source:Int
 Control:Int
 X:Int
 Copy:Bool
 Ability:Zt
 Targets:(List Zf)
 Event:Zh1
 deriving DecidableEq,Inhabited
def Zbd(x:Zdg):List Zn:=(cI .i64) x.Id++((cI .i64) x.Kind++((cI .i64) x.Source++((cI .i64) x.Control++((cI .i64) x.X++(cB x.Copy++(Z3 x.Ability++((cL Zo) x.Targets++(Zlv x.Event))))))))
instance:Cl Zbd 94:=⟨fun _=>rfl⟩
structure Zc0 where
 Source:Int
 Control:Int
 Ability:Zt
 Event:Zh1
 deriving DecidableEq,Inhabited
def Za7(x:Zc0):List Zn:=(cI .i64) x.Source++((cI .i64) x.Control++(Z3 x.Ability++(Zlv x.Event)))
instance:Cl Za7 89:=⟨fun _=>rfl⟩
structure Ze4 where
 Stamp:Int
 Control:Int
 Source:Int
 Until:Int
 Objects:(List Int)
 Mods:(List Zz)
 deriving DecidableEq,Inhabited
def Zbj(x:Ze4):List Zn:=(cI .i64) x.Stamp++((cI .i64) x.Control++((cI .i64) x.Source++((cI .i64) x.Until++((cL (cI .i64)) x.Objects++((cL Zab) x.Mods)))))
instance:Cl Zbj 6:=⟨fun _=>rfl⟩
structure Zb where
 Players:(List Za2)
 Objects:(List Zl)
 Battlefield:(List Int)
 Exile:(List Int)
 Stack:(List Zdg)
 Waiting:(List Zc0)
 Conts:(List Ze4)
 Turn:Int
 Active:Int
 Step:Int
 Begun:Bool
 Priority:Int
 Passes:Int
 NextId:Int
 NextStamp:Int
 Seed:Int
 Extra:(List Int)
 Over:Int
 Winner:Int
 deriving DecidableEq,Inhabited
def Zu(x:Zb):List Zn:=(cL Zag) x.Players++((cL Zs) x.Objects++((cL (cI .i64)) x.Battlefield++((cL (cI .i64)) x.Exile++((cL Zbd) x.Stack++((cL Za7) x.Waiting++((cL Zbj) x.Conts++((cI .i64) x.Turn++((cI .i64) x.Active++((cI .i64) x.Step++(cB x.Begun++((cI .i64) x.Priority++((cI .i64) x.Passes++((cI .i64) x.NextId++((cI .i64) x.NextStamp++((cI .u64) x.Seed++((cL (cI .i64)) x.Extra++((cI .i64) x.Over++((cI .i64) x.Winner))))))))))))))))))
instance:Cl Zu 19:=⟨fun _=>rfl⟩
structure Zj where
 You:Int
 Source:Int
 X:Int
 Targets:(List Zf)
 Event:Zh1
 deriving DecidableEq,Inhabited
def Zao(x:Zj):List Zn:=(cI .i64) x.You++((cI .i64) x.Source++((cI .i64) x.X++((cL Zo) x.Targets++(Zlv x.Event))))
instance:Cl Zao 19:=⟨fun _=>rfl⟩
structure Z0 where
 Ctx:Zj
 Specs:(List Zr)
 Targets:(List Zf)
 Answers:(List (List Int))
 deriving DecidableEq,Inhabited
def Za4(x:Z0):List Zn:=Zao x.Ctx++((cL Z4) x.Specs++((cL Zo) x.Targets++((cL (cL (cI .i64))) x.Answers)))
instance:Cl Za4 22:=⟨fun _=>rfl⟩
structure Za where
 Name:(List UInt8)
 Cost:Z1
 Colors:Int
 Line:Z8
 Power:Int
 Tough:Int
 Keys:Int
 Abilities:(List Zt)
 Control:Int
 deriving DecidableEq,Inhabited
def Zk(x:Za):List Zn:=cS x.Name++(Zaz x.Cost++((cI .i64) x.Colors++(Zei x.Line++((cI .i64) x.Power++((cI .i64) x.Tough++((cI .i64) x.Keys++((cL Z3) x.Abilities++((cI .i64) x.Control))))))))
instance:Cl Zk 17:=⟨fun _=>rfl⟩
structure Zi where
 Kind:Int
 A:Int
 B:Int
 deriving DecidableEq,Inhabited
def Zh(x:Zi):List Zn:=(cI .i64) x.Kind++((cI .i64) x.A++((cI .i64) x.B))
instance:Cl Zh 3:=⟨fun _=>rfl⟩
structure Zx where
 Source:Int
 Ability:Int
 Control:Int
 Stamp:Int
 Fixed:Bool
 Objects:(List Int)
 Filter:Ze
 Mods:(List Zz)
 deriving DecidableEq,Inhabited
def Zp(x:Zx):List Zn:=(cI .i64) x.Source++((cI .i64) x.Ability++((cI .i64) x.Control++((cI .i64) x.Stamp++(cB x.Fixed++((cL (cI .i64)) x.Objects++(Zy x.Filter++((cL Zab) x.Mods)))))))
instance:Cl Zp 23:=⟨fun _=>rfl⟩
structure Zc where
 S:Zb
 All:(List Za)
 L:(List Zx)
 Begun:(List Bool)
 Sets:(List (List Int))
 Blank:(List Bool)
 deriving DecidableEq,Inhabited
def Zae(x:Zc):List Zn:=Zu x.S++((cL Zk) x.All++((cL Zp) x.L++((cL cB) x.Begun++((cL (cL (cI .i64))) x.Sets++((cL cB) x.Blank)))))
instance:Cl Zae 24:=⟨fun _=>rfl⟩
structure Zm where
 Kind:Int
 Player:Int
 Source:Int
 Least:Int
 Most:Int
 N:Int
 Options:(List Zi)
 deriving DecidableEq,Inhabited
def Zay(x:Zm):List Zn:=(cI .i64) x.Kind++((cI .i64) x.Player++((cI .i64) x.Source++((cI .i64) x.Least++((cI .i64) x.Most++((cI .i64) x.N++((cL Zh) x.Options))))))
instance:Cl Zay 7:=⟨fun _=>rfl⟩
structure Z6 where
 answers:(List (List Int))
 used:Int
 pending:Zm
 waits:Bool
 bad:Bool
 deriving DecidableEq,Inhabited
def Zbk(x:Z6):List Zn:=(cL (cL (cI .i64))) x.answers++((cI .i64) x.used++(Zay x.pending++(cB x.waits++(cB x.bad))))
instance:Cl Zbk 11:=⟨fun _=>rfl⟩
structure Zg where
 Answers:(List (List Int))
 Choice:Zm
 Waits:Bool
 Wrong:Bool
 N:Int
 deriving DecidableEq,Inhabited
def Zai(x:Zg):List Zn:=(cL (cL (cI .i64))) x.Answers++(Zay x.Choice++(cB x.Waits++(cB x.Wrong++((cI .i64) x.N))))
instance:Cl Zai 11:=⟨fun _=>rfl⟩
end
end Go.PW
