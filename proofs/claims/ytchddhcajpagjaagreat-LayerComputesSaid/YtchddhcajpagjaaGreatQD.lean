import Derived.Test.YtchddhcajpagjaaGreatQC
set_option linter.all false
set_option maxRecDepth 100000
namespace Go.PW
open Go.RowKit
noncomputable section
structure aJ where
 Generic:Int
 X:Int
 Color:(A5 Int)
 deriving DecidableEq,Inhabited
def cc(x:aJ):List aa:=(cI .i64) x.Generic++((cI .i64) x.X++((cA5 (cI .i64)) x.Color))
instance:Cl cc 7:=⟨λ_=>rfl⟩
structure aK where
 Super:Int
 Types:Int
 Subs:(Bys)
 deriving DecidableEq,Inhabited
def hX(x:aK):List aa:=(cI .i64) x.Super++((cI .i64) x.Types++((cL cS) x.Subs))
instance:Cl hX 3:=⟨λ_=>rfl⟩
structure ah where
 Kind:Int
 N:Int
 deriving DecidableEq,Inhabited
def fm(x:ah):List aa:=(cI .i64) x.Kind++((cI .i64) x.N)
instance:Cl fm 2:=⟨λ_=>rfl⟩
structure al where
 Zone:Int
 Who:Int
 Self:Int
 Types:Int
 NotTypes:Int
 Colors:Int
 NotColors:Int
 Sub:(By)
 Keys:Int
 Tap:Int
 Power:ah
 Tough:ah
 Value:ah
 deriving DecidableEq,Inhabited
def aU(x:al):List aa:=(cI .i64) x.Zone++((cI .i64) x.Who++((cI .i64) x.Self++((cI .i64) x.Types++((cI .i64) x.NotTypes++((cI .i64) x.Colors++((cI .i64) x.NotColors++(cS x.Sub++((cI .i64) x.Keys++((cI .i64) x.Tap++(fm x.Power++(fm x.Tough++(fm x.Value))))))))))))
instance:Cl aU 16:=⟨λ_=>rfl⟩
structure af where
 Kind:Int
 N:Int
 M:Int
 Sub:(By)
 Filter:al
 deriving DecidableEq,Inhabited
def ax(x:af):List aa:=(cI .i64) x.Kind++((cI .i64) x.N++((cI .i64) x.M++(cS x.Sub++(aU x.Filter))))
instance:Cl ax 20:=⟨λ_=>rfl⟩
structure iE where
 Mana:aJ
 Tap:Bool
 Sacrifice:Bool
 Life:Int
 deriving DecidableEq,Inhabited
def gG(x:iE):List aa:=cc x.Mana++(cB x.Tap++(cB x.Sacrifice++((cI .i64) x.Life)))
instance:Cl gG 10:=⟨λ_=>rfl⟩
structure fH where
 When:Int
 Who:Int
 Filter:al
 deriving DecidableEq,Inhabited
def gj(x:fH):List aa:=(cI .i64) x.When++((cI .i64) x.Who++(aU x.Filter))
instance:Cl gj 18:=⟨λ_=>rfl⟩
structure cj where
 Player:Bool
 Object:Bool
 Filter:al
 deriving DecidableEq,Inhabited
def bK(x:cj):List aa:=cB x.Player++(cB x.Object++(aU x.Filter))
instance:Cl bK 18:=⟨λ_=>rfl⟩
structure fU where
 Kind:Int
 N:Int
 Filter:al
 deriving DecidableEq,Inhabited
def fp(x:fU):List aa:=(cI .i64) x.Kind++((cI .i64) x.N++(aU x.Filter))
instance:Cl fp 18:=⟨λ_=>rfl⟩
structure dU where
 Kind:Int
 N:Int
 Counter:Int
 Filter:al
 deriving DecidableEq,Inhabited
def de(x:dU):List aa:=(cI .i64) x.Kind++((cI .i64) x.N++((cI .i64) x.Counter++(aU x.Filter)))
instance:Cl de 19:=⟨λ_=>rfl⟩
structure aX where
 Op:Int
 Ref:fU
 Amount:dU
 Counter:Int
 Zone:Int
 Card:(By)
 Filter:al
 Pool:(A6 Int)
 Mods:(List af)
 deriving DecidableEq,Inhabited
def bc(x:aX):List aa:=(cI .i64) x.Op++(fp x.Ref++(de x.Amount++((cI .i64) x.Counter++((cI .i64) x.Zone++(cS x.Card++(aU x.Filter++((cA6 (cI .i64)) x.Pool++((cL ax) x.Mods))))))))
instance:Cl bc 64:=⟨λ_=>rfl⟩
structure dq where
 On:Int
 Who:Int
 Filter:al
 Do:Int
 N:Int
 Zone:Int
 Counter:Int
 deriving DecidableEq,Inhabited
def fa(x:dq):List aa:=(cI .i64) x.On++((cI .i64) x.Who++(aU x.Filter++((cI .i64) x.Do++((cI .i64) x.N++((cI .i64) x.Zone++((cI .i64) x.Counter))))))
instance:Cl fa 22:=⟨λ_=>rfl⟩
structure an where
 Kind:Int
 Filter:al
 Mods:(List af)
 Price:iE
 Slow:Bool
 Trigger:fH
 May:Bool
 Specs:(List cj)
 Effects:(List aX)
 Replace:dq
 deriving DecidableEq,Inhabited
def aC(x:an):List aa:=(cI .i64) x.Kind++(aU x.Filter++((cL ax) x.Mods++(gG x.Price++(cB x.Slow++(gj x.Trigger++(cB x.May++((cL bK) x.Specs++((cL bc) x.Effects++(fa x.Replace)))))))))
instance:Cl aC 72:=⟨λ_=>rfl⟩
structure aq where
 Name:(By)
 Token:Bool
 Cost:aJ
 Color:Int
 Line:aK
 Power:Int
 Tough:Int
 Keys:Int
 Abilities:(List an)
 deriving DecidableEq,Inhabited
def Z0(x:aq):List aa:=cS x.Name++(cB x.Token++(cc x.Cost++((cI .i64) x.Color++(hX x.Line++((cI .i64) x.Power++((cI .i64) x.Tough++((cI .i64) x.Keys++((cL aC) x.Abilities))))))))
instance:Cl Z0 17:=⟨λ_=>rfl⟩
structure hY where
 Life:Int
 Venom:Int
 Lands:Int
 Pool:(A6 Int)
 Failed:Bool
 Lost:Bool
 Library:(List Int)
 Hand:(List Int)
 Graveyard:(List Int)
 deriving DecidableEq,Inhabited
def cZ(x:hY):List aa:=(cI .i64) x.Life++((cI .i64) x.Venom++((cI .i64) x.Lands++((cA6 (cI .i64)) x.Pool++(cB x.Failed++(cB x.Lost++((cL (cI .i64)) x.Library++((cL (cI .i64)) x.Hand++((cL (cI .i64)) x.Graveyard))))))))
instance:Cl cZ 14:=⟨λ_=>rfl⟩
structure aj where
 Id:Int
 Card:Int
 Owner:Int
 Control:Int
 Zone:Int
 Token:Bool
 Tapped:Bool
 Sick:Bool
 Deadly:Bool
 Damage:Int
 Counters:(A3 Int)
 Stamp:Int
 Copy:Int
 Attack:Int
 Blocked:Bool
 Blocks:Int
 Shield:Int
 deriving DecidableEq,Inhabited
def aH(x:aj):List aa:=(cI .i64) x.Id++((cI .i64) x.Card++((cI .i64) x.Owner++((cI .i64) x.Control++((cI .i64) x.Zone++(cB x.Token++(cB x.Tapped++(cB x.Sick++(cB x.Deadly++((cI .i64) x.Damage++((cA3 (cI .i64)) x.Counters++((cI .i64) x.Stamp++((cI .i64) x.Copy++((cI .i64) x.Attack++(cB x.Blocked++((cI .i64) x.Blocks++((cI .i64) x.Shield))))))))))))))))
instance:Cl aH 19:=⟨λ_=>rfl⟩
structure po where
 Object:Int
 Player:Int
 deriving DecidableEq,Inhabited
def qD(x:po):List aa:=(cI .i64) x.Object++((cI .i64) x.Player)
instance:Cl qD 2:=⟨λ_=>rfl⟩
structure Z5m where
 Kind:Int
 Source:Int
 Object:Int
 Player:Int
 Amount:Int
 From:Int
 To:Int
 Cause:Int
 Counter:Int
 Card:Int
 Combat:Bool
 Tapped:Bool
 Extra:(A3 Int)
 deriving DecidableEq,Inhabited
def qN(x:Z5m):List aa:=(cI .i64) x.Kind++((cI .i64) x.Source++((cI .i64) x.Object++((cI .i64) x.Player++((cI .i64) x.Amount++((cI .i64) x.From++((cI .i64) x.To++((cI .i64) x.Cause++((cI .i64) x.Counter++((cI .i64) x.Card++(cB x.Combat++(cB x.Tapped++((cA3 (cI .i64)) x.Extra))))))))))))
instance:Cl qN 15:=⟨λ_=>rfl⟩
structure gI where
 Id:Int
 Kind:Int
 Source:Int
 Control:Int
 X:Int
 Copy:Bool
 Ability:an
 Targets:(List po)
 Event:Z5m
 deriving DecidableEq,Inhabited
def cV(x:gI):List aa:=(cI .i64) x.Id++((cI .i64) x.Kind++((cI .i64) x.Source++((cI .i64) x.Control++((cI .i64) x.X++(cB x.Copy++(aC x.Ability++((cL qD) x.Targets++(qN x.Event))))))))
instance:Cl cV 94:=⟨λ_=>rfl⟩
structure iG where
 Source:Int
 Control:Int
 Ability:an
 Event:Z5m
 deriving DecidableEq,Inhabited
def dE(x:iG):List aa:=(cI .i64) x.Source++((cI .i64) x.Control++(aC x.Ability++(qN x.Event)))
instance:Cl dE 89:=⟨λ_=>rfl⟩
structure du where
 Stamp:Int
 Control:Int
 Source:Int
 Until:Int
 Objects:(List Int)
 Mods:(List af)
 deriving DecidableEq,Inhabited
def c6(x:du):List aa:=(cI .i64) x.Stamp++((cI .i64) x.Control++((cI .i64) x.Source++((cI .i64) x.Until++((cL (cI .i64)) x.Objects++((cL ax) x.Mods)))))
instance:Cl c6 6:=⟨λ_=>rfl⟩
structure av where
 Players:(List hY)
 Objects:(List aj)
 Battlefield:(List Int)
 Exile:(List Int)
 Stack:(List gI)
 Waiting:(List iG)
 Conts:(List du)
 Turn:Int
 Active:Int
 Step:Int
 Begun:Bool
 Priority:Int
 Passes:Int
 NextId:Int
 NextStamp:Int
 Seed:Int
 Extra:(List Int)
 Over:Int
 Winner:Int
 deriving DecidableEq,Inhabited
def Z6(x:av):List aa:=(cL cZ) x.Players++((cL aH) x.Objects++((cL (cI .i64)) x.Battlefield++((cL (cI .i64)) x.Exile++((cL cV) x.Stack++((cL dE) x.Waiting++((cL c6) x.Conts++((cI .i64) x.Turn++((cI .i64) x.Active++((cI .i64) x.Step++(cB x.Begun++((cI .i64) x.Priority++((cI .i64) x.Passes++((cI .i64) x.NextId++((cI .i64) x.NextStamp++((cI .u64) x.Seed++((cL (cI .i64)) x.Extra++((cI .i64) x.Over++((cI .i64) x.Winner))))))))))))))))))
instance:Cl Z6 19:=⟨λ_=>rfl⟩
structure Z2 where
 Source:Int
 Ability:Int
 Control:Int
 Stamp:Int
 Fixed:Bool
 Objects:(List Int)
 Filter:al
 Mods:(List af)
 deriving DecidableEq,Inhabited
def cf(x:Z2):List aa:=(cI .i64) x.Source++((cI .i64) x.Ability++((cI .i64) x.Control++((cI .i64) x.Stamp++(cB x.Fixed++((cL (cI .i64)) x.Objects++(aU x.Filter++((cL ax) x.Mods)))))))
instance:Cl cf 23:=⟨λ_=>rfl⟩
structure bd where
 Source:Int
 Ability:Int
 Control:Int
 Stamp:Int
 Fixed:Bool
 Objects:(List Int)
 Filter:al
 Mods:(List af)
 deriving DecidableEq,Inhabited
def bI(x:bd):List aa:=(cI .i64) x.Source++((cI .i64) x.Ability++((cI .i64) x.Control++((cI .i64) x.Stamp++(cB x.Fixed++((cL (cI .i64)) x.Objects++(aU x.Filter++((cL ax) x.Mods)))))))
instance:Cl bI 23:=⟨λ_=>rfl⟩
structure ab where
 Name:(By)
 Cost:aJ
 Colors:Int
 Line:aK
 Power:Int
 Tough:Int
 Keys:Int
 Abilities:(List an)
 Control:Int
 deriving DecidableEq,Inhabited
def ao(x:ab):List aa:=cS x.Name++(cc x.Cost++((cI .i64) x.Colors++(hX x.Line++((cI .i64) x.Power++((cI .i64) x.Tough++((cI .i64) x.Keys++((cL aC) x.Abilities++((cI .i64) x.Control))))))))
instance:Cl ao 17:=⟨λ_=>rfl⟩
structure ak where
 s:av
 forces:(List Z2)
 traits:(List ab)
 dropped:(List Bool)
 done:(List Bool)
 hits:(List (List Int))
 deriving DecidableEq,Inhabited
structure au where
 S:av
 All:(List ab)
 L:(List bd)
 Begun:(List Bool)
 Sets:(List (List Int))
 Blank:(List Bool)
 deriving DecidableEq,Inhabited
def dF(x:au):List aa:=Z6 x.S++((cL ao) x.All++((cL bI) x.L++((cL cB) x.Begun++((cL (cL (cI .i64))) x.Sets++((cL cB) x.Blank)))))
instance:Cl dF 24:=⟨λ_=>rfl⟩
structure bP where
 active:Bool
 hits:(List Int)
 numbers:(List Int)
 deriving DecidableEq,Inhabited
def jD(x:bP):List aa:=cB x.active++((cL (cI .i64)) x.hits++((cL (cI .i64)) x.numbers))
instance:Cl jD 3:=⟨λ_=>rfl⟩
end
end Go.PW
