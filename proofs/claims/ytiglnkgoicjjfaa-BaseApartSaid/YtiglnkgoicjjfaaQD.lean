import Derived.Test.YtiglnkgoicjjfaaQT
set_option linter.all false
set_option maxRecDepth 100000
namespace Go.PW
open Go.RowKit
noncomputable section
structure Zr where
 Generic:Int
 X:Int
 Color:(A5 Int)
 deriving DecidableEq,Inhabited
def Za1(x:Zr):List Za:=(cI .i64) x.Generic++((cI .i64) x.X++((cA5 (cI .i64)) x.Color))
instance:Cl Za1 7:=⟨fun _=>rfl⟩
structure Z6 where
 Super:Int
 Types:Int
 Subs:(Bys)
 deriving DecidableEq,Inhabited
def Zh8(x:Z6):List Za:=(cI .i64) x.Super++((cI .i64) x.Types++((cL cS) x.Subs))
instance:Cl Zh8 3:=⟨fun _=>rfl⟩
structure Zp where
 Kind:Int
 N:Int
 deriving DecidableEq,Inhabited
def Zdo(x:Zp):List Za:=(cI .i64) x.Kind++((cI .i64) x.N)
instance:Cl Zdo 2:=⟨fun _=>rfl⟩
structure Z8 where
 Zone:Int
 Who:Int
 Self:Int
 Types:Int
 NotTypes:Int
 Colors:Int
 NotColors:Int
 Sub:(By)
 Keys:Int
 Tap:Int
 Power:Zp
 Tough:Zp
 Value:Zp
 deriving DecidableEq,Inhabited
def Zap(x:Z8):List Za:=(cI .i64) x.Zone++((cI .i64) x.Who++((cI .i64) x.Self++((cI .i64) x.Types++((cI .i64) x.NotTypes++((cI .i64) x.Colors++((cI .i64) x.NotColors++(cS x.Sub++((cI .i64) x.Keys++((cI .i64) x.Tap++(Zdo x.Power++(Zdo x.Tough++(Zdo x.Value))))))))))))
instance:Cl Zap 16:=⟨fun _=>rfl⟩
structure Z4 where
 Kind:Int
 N:Int
 M:Int
 Sub:(By)
 Filter:Z8
 deriving DecidableEq,Inhabited
def Zj(x:Z4):List Za:=(cI .i64) x.Kind++((cI .i64) x.N++((cI .i64) x.M++(cS x.Sub++(Zap x.Filter))))
instance:Cl Zj 20:=⟨fun _=>rfl⟩
structure Zds where
 Mana:Zr
 Tap:Bool
 Sacrifice:Bool
 Life:Int
 deriving DecidableEq,Inhabited
def Zcv(x:Zds):List Za:=Za1 x.Mana++(cB x.Tap++(cB x.Sacrifice++((cI .i64) x.Life)))
instance:Cl Zcv 10:=⟨fun _=>rfl⟩
structure Zb5 where
 When:Int
 Who:Int
 Filter:Z8
 deriving DecidableEq,Inhabited
def Zb1(x:Zb5):List Za:=(cI .i64) x.When++((cI .i64) x.Who++(Zap x.Filter))
instance:Cl Zb1 18:=⟨fun _=>rfl⟩
structure Zai where
 Player:Bool
 Object:Bool
 Filter:Z8
 deriving DecidableEq,Inhabited
def Zm(x:Zai):List Za:=cB x.Player++(cB x.Object++(Zap x.Filter))
instance:Cl Zm 18:=⟨fun _=>rfl⟩
structure Zkn where
 Kind:Int
 N:Int
 Filter:Z8
 deriving DecidableEq,Inhabited
def Zdt(x:Zkn):List Za:=(cI .i64) x.Kind++((cI .i64) x.N++(Zap x.Filter))
instance:Cl Zdt 18:=⟨fun _=>rfl⟩
structure Zgg where
 Kind:Int
 N:Int
 Counter:Int
 Filter:Z8
 deriving DecidableEq,Inhabited
def Zcc(x:Zgg):List Za:=(cI .i64) x.Kind++((cI .i64) x.N++((cI .i64) x.Counter++(Zap x.Filter)))
instance:Cl Zcc 19:=⟨fun _=>rfl⟩
structure Zy where
 Op:Int
 Ref:Zkn
 Amount:Zgg
 Counter:Int
 Zone:Int
 Card:(By)
 Filter:Z8
 Pool:(A6 Int)
 Mods:(List Z4)
 deriving DecidableEq,Inhabited
def Zf(x:Zy):List Za:=(cI .i64) x.Op++(Zdt x.Ref++(Zcc x.Amount++((cI .i64) x.Counter++((cI .i64) x.Zone++(cS x.Card++(Zap x.Filter++((cA6 (cI .i64)) x.Pool++((cL Zj) x.Mods))))))))
instance:Cl Zf 64:=⟨fun _=>rfl⟩
structure Zb6 where
 On:Int
 Who:Int
 Filter:Z8
 Do:Int
 N:Int
 Zone:Int
 Counter:Int
 deriving DecidableEq,Inhabited
def Zb2(x:Zb6):List Za:=(cI .i64) x.On++((cI .i64) x.Who++(Zap x.Filter++((cI .i64) x.Do++((cI .i64) x.N++((cI .i64) x.Zone++((cI .i64) x.Counter))))))
instance:Cl Zb2 22:=⟨fun _=>rfl⟩
structure Zd where
 Kind:Int
 Filter:Z8
 Mods:(List Z4)
 Price:Zds
 Slow:Bool
 Trigger:Zb5
 May:Bool
 Specs:(List Zai)
 Effects:(List Zy)
 Replace:Zb6
 deriving DecidableEq,Inhabited
def Zc(x:Zd):List Za:=(cI .i64) x.Kind++(Zap x.Filter++((cL Zj) x.Mods++(Zcv x.Price++(cB x.Slow++(Zb1 x.Trigger++(cB x.May++((cL Zm) x.Specs++((cL Zf) x.Effects++(Zb2 x.Replace)))))))))
instance:Cl Zc 72:=⟨fun _=>rfl⟩
structure Zt where
 Name:(By)
 Token:Bool
 Cost:Zr
 Color:Int
 Line:Z6
 Power:Int
 Tough:Int
 Keys:Int
 Abilities:(List Zd)
 deriving DecidableEq,Inhabited
def Zae(x:Zt):List Za:=cS x.Name++(cB x.Token++(Za1 x.Cost++((cI .i64) x.Color++(Zh8 x.Line++((cI .i64) x.Power++((cI .i64) x.Tough++((cI .i64) x.Keys++((cL Zc) x.Abilities))))))))
instance:Cl Zae 17:=⟨fun _=>rfl⟩
structure Zu where
 Id:Int
 Card:Int
 Owner:Int
 Control:Int
 Zone:Int
 Token:Bool
 Tapped:Bool
 Sick:Bool
 Deadly:Bool
 Damage:Int
 Counters:(A3 Int)
 Stamp:Int
 Copy:Int
 Attack:Int
 Blocked:Bool
 Blocks:Int
 Shield:Int
 deriving DecidableEq,Inhabited
def Zau(x:Zu):List Za:=(cI .i64) x.Id++((cI .i64) x.Card++((cI .i64) x.Owner++((cI .i64) x.Control++((cI .i64) x.Zone++(cB x.Token++(cB x.Tapped++(cB x.Sick++(cB x.Deadly++((cI .i64) x.Damage++((cA3 (cI .i64)) x.Counters++((cI .i64) x.Stamp++((cI .i64) x.Copy++((cI .i64) x.Attack++(cB x.Blocked++((cI .i64) x.Blocks++((cI .i64) x.Shield))))))))))))))))
instance:Cl Zau 19:=⟨fun _=>rfl⟩
structure Zb where
 Name:(By)
 Cost:Zr
 Colors:Int
 Line:Z6
 Power:Int
 Tough:Int
 Keys:Int
 Abilities:(List Zd)
 Control:Int
 deriving DecidableEq,Inhabited
def Zak(x:Zb):List Za:=cS x.Name++(Za1 x.Cost++((cI .i64) x.Colors++(Zh8 x.Line++((cI .i64) x.Power++((cI .i64) x.Tough++((cI .i64) x.Keys++((cL Zc) x.Abilities++((cI .i64) x.Control))))))))
instance:Cl Zak 17:=⟨fun _=>rfl⟩
end
end Go.PW
