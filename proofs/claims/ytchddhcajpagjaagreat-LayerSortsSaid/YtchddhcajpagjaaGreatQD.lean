import Derived.Test.YtchddhcajpagjaaGreatQC
set_option linter.all false
set_option maxRecDepth 100000
namespace Go.PW
open Go.RowKit
noncomputable section
structure aK where
 Generic:Int
 X:Int
 Color:(A5 Int)
 deriving DecidableEq,Inhabited
def cu(x:aK):List aa:=(cI .i64) x.Generic++((cI .i64) x.X++((cA5 (cI .i64)) x.Color))
instance:Cl cu 7:=⟨λ_=>rfl⟩
structure aI where
 Super:Int
 Types:Int
 Subs:(Bys)
 deriving DecidableEq,Inhabited
def hH(x:aI):List aa:=(cI .i64) x.Super++((cI .i64) x.Types++((cL cS) x.Subs))
instance:Cl hH 3:=⟨λ_=>rfl⟩
structure ah where
 Kind:Int
 N:Int
 deriving DecidableEq,Inhabited
def gd(x:ah):List aa:=(cI .i64) x.Kind++((cI .i64) x.N)
instance:Cl gd 2:=⟨λ_=>rfl⟩
structure al where
 Zone:Int
 Who:Int
 Self:Int
 Types:Int
 NotTypes:Int
 Colors:Int
 NotColors:Int
 Sub:(By)
 Keys:Int
 Tap:Int
 Power:ah
 Tough:ah
 Value:ah
 deriving DecidableEq,Inhabited
def aX(x:al):List aa:=(cI .i64) x.Zone++((cI .i64) x.Who++((cI .i64) x.Self++((cI .i64) x.Types++((cI .i64) x.NotTypes++((cI .i64) x.Colors++((cI .i64) x.NotColors++(cS x.Sub++((cI .i64) x.Keys++((cI .i64) x.Tap++(gd x.Power++(gd x.Tough++(gd x.Value))))))))))))
instance:Cl aX 16:=⟨λ_=>rfl⟩
structure af where
 Kind:Int
 N:Int
 M:Int
 Sub:(By)
 Filter:al
 deriving DecidableEq,Inhabited
def ay(x:af):List aa:=(cI .i64) x.Kind++((cI .i64) x.N++((cI .i64) x.M++(cS x.Sub++(aX x.Filter))))
instance:Cl ay 20:=⟨λ_=>rfl⟩
structure iY where
 Mana:aK
 Tap:Bool
 Sacrifice:Bool
 Life:Int
 deriving DecidableEq,Inhabited
def jW(x:iY):List aa:=cu x.Mana++(cB x.Tap++(cB x.Sacrifice++((cI .i64) x.Life)))
instance:Cl jW 10:=⟨λ_=>rfl⟩
structure fN where
 When:Int
 Who:Int
 Filter:al
 deriving DecidableEq,Inhabited
def jz(x:fN):List aa:=(cI .i64) x.When++((cI .i64) x.Who++(aX x.Filter))
instance:Cl jz 18:=⟨λ_=>rfl⟩
structure ck where
 Player:Bool
 Object:Bool
 Filter:al
 deriving DecidableEq,Inhabited
def cn(x:ck):List aa:=cB x.Player++(cB x.Object++(aX x.Filter))
instance:Cl cn 18:=⟨λ_=>rfl⟩
structure gf where
 Kind:Int
 N:Int
 Filter:al
 deriving DecidableEq,Inhabited
def hJ(x:gf):List aa:=(cI .i64) x.Kind++((cI .i64) x.N++(aX x.Filter))
instance:Cl hJ 18:=⟨λ_=>rfl⟩
structure ec where
 Kind:Int
 N:Int
 Counter:Int
 Filter:al
 deriving DecidableEq,Inhabited
def dL(x:ec):List aa:=(cI .i64) x.Kind++((cI .i64) x.N++((cI .i64) x.Counter++(aX x.Filter)))
instance:Cl dL 19:=⟨λ_=>rfl⟩
structure aZ where
 Op:Int
 Ref:gf
 Amount:ec
 Counter:Int
 Zone:Int
 Card:(By)
 Filter:al
 Pool:(A6 Int)
 Mods:(List af)
 deriving DecidableEq,Inhabited
def bj(x:aZ):List aa:=(cI .i64) x.Op++(hJ x.Ref++(dL x.Amount++((cI .i64) x.Counter++((cI .i64) x.Zone++(cS x.Card++(aX x.Filter++((cA6 (cI .i64)) x.Pool++((cL ay) x.Mods))))))))
instance:Cl bj 64:=⟨λ_=>rfl⟩
structure dx where
 On:Int
 Who:Int
 Filter:al
 Do:Int
 N:Int
 Zone:Int
 Counter:Int
 deriving DecidableEq,Inhabited
def gB(x:dx):List aa:=(cI .i64) x.On++((cI .i64) x.Who++(aX x.Filter++((cI .i64) x.Do++((cI .i64) x.N++((cI .i64) x.Zone++((cI .i64) x.Counter))))))
instance:Cl gB 22:=⟨λ_=>rfl⟩
structure ar where
 Kind:Int
 Filter:al
 Mods:(List af)
 Price:iY
 Slow:Bool
 Trigger:fN
 May:Bool
 Specs:(List ck)
 Effects:(List aZ)
 Replace:dx
 deriving DecidableEq,Inhabited
def aC(x:ar):List aa:=(cI .i64) x.Kind++(aX x.Filter++((cL ay) x.Mods++(jW x.Price++(cB x.Slow++(jz x.Trigger++(cB x.May++((cL cn) x.Specs++((cL bj) x.Effects++(gB x.Replace)))))))))
instance:Cl aC 72:=⟨λ_=>rfl⟩
structure an where
 Name:(By)
 Token:Bool
 Cost:aK
 Color:Int
 Line:aI
 Power:Int
 Tough:Int
 Keys:Int
 Abilities:(List ar)
 deriving DecidableEq,Inhabited
def bf(x:an):List aa:=cS x.Name++(cB x.Token++(cu x.Cost++((cI .i64) x.Color++(hH x.Line++((cI .i64) x.Power++((cI .i64) x.Tough++((cI .i64) x.Keys++((cL aC) x.Abilities))))))))
instance:Cl bf 17:=⟨λ_=>rfl⟩
structure hP where
 Life:Int
 Venom:Int
 Lands:Int
 Pool:(A6 Int)
 Failed:Bool
 Lost:Bool
 Library:(List Int)
 Hand:(List Int)
 Graveyard:(List Int)
 deriving DecidableEq,Inhabited
def cY(x:hP):List aa:=(cI .i64) x.Life++((cI .i64) x.Venom++((cI .i64) x.Lands++((cA6 (cI .i64)) x.Pool++(cB x.Failed++(cB x.Lost++((cL (cI .i64)) x.Library++((cL (cI .i64)) x.Hand++((cL (cI .i64)) x.Graveyard))))))))
instance:Cl cY 14:=⟨λ_=>rfl⟩
structure aj where
 Id:Int
 Card:Int
 Owner:Int
 Control:Int
 Zone:Int
 Token:Bool
 Tapped:Bool
 Sick:Bool
 Deadly:Bool
 Damage:Int
 Counters:(A3 Int)
 Stamp:Int
 Copy:Int
 Attack:Int
 Blocked:Bool
 Blocks:Int
 Shield:Int
 deriving DecidableEq,Inhabited
def aE(x:aj):List aa:=(cI .i64) x.Id++((cI .i64) x.Card++((cI .i64) x.Owner++((cI .i64) x.Control++((cI .i64) x.Zone++(cB x.Token++(cB x.Tapped++(cB x.Sick++(cB x.Deadly++((cI .i64) x.Damage++((cA3 (cI .i64)) x.Counters++((cI .i64) x.Stamp++((cI .i64) x.Copy++((cI .i64) x.Attack++(cB x.Blocked++((cI .i64) x.Blocks++((cI .i64) x.Shield))))))))))))))))
instance:Cl aE 19:=⟨λ_=>rfl⟩
structure pg where
 Object:Int
 Player:Int
 deriving DecidableEq,Inhabited
def qy(x:pg):List aa:=(cI .i64) x.Object++((cI .i64) x.Player)
instance:Cl qy 2:=⟨λ_=>rfl⟩
structure Z5b where
 Kind:Int
 Source:Int
 Object:Int
 Player:Int
 Amount:Int
 From:Int
 To:Int
 Cause:Int
 Counter:Int
 Card:Int
 Combat:Bool
 Tapped:Bool
 Extra:(A3 Int)
 deriving DecidableEq,Inhabited
def qI(x:Z5b):List aa:=(cI .i64) x.Kind++((cI .i64) x.Source++((cI .i64) x.Object++((cI .i64) x.Player++((cI .i64) x.Amount++((cI .i64) x.From++((cI .i64) x.To++((cI .i64) x.Cause++((cI .i64) x.Counter++((cI .i64) x.Card++(cB x.Combat++(cB x.Tapped++((cA3 (cI .i64)) x.Extra))))))))))))
instance:Cl qI 15:=⟨λ_=>rfl⟩
structure gE where
 Id:Int
 Kind:Int
 Source:Int
 Control:Int
 X:Int
 Copy:Bool
 Ability:ar
 Targets:(List pg)
 Event:Z5b
 deriving DecidableEq,Inhabited
def cU(x:gE):List aa:=(cI .i64) x.Id++((cI .i64) x.Kind++((cI .i64) x.Source++((cI .i64) x.Control++((cI .i64) x.X++(cB x.Copy++(aC x.Ability++((cL qy) x.Targets++(qI x.Event))))))))
instance:Cl cU 94:=⟨λ_=>rfl⟩
structure iC where
 Source:Int
 Control:Int
 Ability:ar
 Event:Z5b
 deriving DecidableEq,Inhabited
def dC(x:iC):List aa:=(cI .i64) x.Source++((cI .i64) x.Control++(aC x.Ability++(qI x.Event)))
instance:Cl dC 89:=⟨λ_=>rfl⟩
structure dn where
 Stamp:Int
 Control:Int
 Source:Int
 Until:Int
 Objects:(List Int)
 Mods:(List af)
 deriving DecidableEq,Inhabited
def cZ(x:dn):List aa:=(cI .i64) x.Stamp++((cI .i64) x.Control++((cI .i64) x.Source++((cI .i64) x.Until++((cL (cI .i64)) x.Objects++((cL ay) x.Mods)))))
instance:Cl cZ 6:=⟨λ_=>rfl⟩
structure ao where
 Players:(List hP)
 Objects:(List aj)
 Battlefield:(List Int)
 Exile:(List Int)
 Stack:(List gE)
 Waiting:(List iC)
 Conts:(List dn)
 Turn:Int
 Active:Int
 Step:Int
 Begun:Bool
 Priority:Int
 Passes:Int
 NextId:Int
 NextStamp:Int
 Seed:Int
 Extra:(List Int)
 Over:Int
 Winner:Int
 deriving DecidableEq,Inhabited
def Z1(x:ao):List aa:=(cL cY) x.Players++((cL aE) x.Objects++((cL (cI .i64)) x.Battlefield++((cL (cI .i64)) x.Exile++((cL cU) x.Stack++((cL dC) x.Waiting++((cL cZ) x.Conts++((cI .i64) x.Turn++((cI .i64) x.Active++((cI .i64) x.Step++(cB x.Begun++((cI .i64) x.Priority++((cI .i64) x.Passes++((cI .i64) x.NextId++((cI .i64) x.NextStamp++((cI .u64) x.Seed++((cL (cI .i64)) x.Extra++((cI .i64) x.Over++((cI .i64) x.Winner))))))))))))))))))
instance:Cl Z1 19:=⟨λ_=>rfl⟩
structure Z2 where
 Source:Int
 Ability:Int
 Control:Int
 Stamp:Int
 Fixed:Bool
 Objects:(List Int)
 Filter:al
 Mods:(List af)
 deriving DecidableEq,Inhabited
def cb(x:Z2):List aa:=(cI .i64) x.Source++((cI .i64) x.Ability++((cI .i64) x.Control++((cI .i64) x.Stamp++(cB x.Fixed++((cL (cI .i64)) x.Objects++(aX x.Filter++((cL ay) x.Mods)))))))
instance:Cl cb 23:=⟨λ_=>rfl⟩
structure ba where
 Source:Int
 Ability:Int
 Control:Int
 Stamp:Int
 Fixed:Bool
 Objects:(List Int)
 Filter:al
 Mods:(List af)
 deriving DecidableEq,Inhabited
def bH(x:ba):List aa:=(cI .i64) x.Source++((cI .i64) x.Ability++((cI .i64) x.Control++((cI .i64) x.Stamp++(cB x.Fixed++((cL (cI .i64)) x.Objects++(aX x.Filter++((cL ay) x.Mods)))))))
instance:Cl bH 23:=⟨λ_=>rfl⟩
structure ae where
 Name:(By)
 Cost:aK
 Colors:Int
 Line:aI
 Power:Int
 Tough:Int
 Keys:Int
 Abilities:(List ar)
 Control:Int
 deriving DecidableEq,Inhabited
def av(x:ae):List aa:=cS x.Name++(cu x.Cost++((cI .i64) x.Colors++(hH x.Line++((cI .i64) x.Power++((cI .i64) x.Tough++((cI .i64) x.Keys++((cL aC) x.Abilities++((cI .i64) x.Control))))))))
instance:Cl av 17:=⟨λ_=>rfl⟩
structure ak where
 s:ao
 forces:(List Z2)
 traits:(List ae)
 dropped:(List Bool)
 done:(List Bool)
 hits:(List (List Int))
 deriving DecidableEq,Inhabited
structure au where
 S:ao
 All:(List ae)
 L:(List ba)
 Begun:(List Bool)
 Sets:(List (List Int))
 Blank:(List Bool)
 deriving DecidableEq,Inhabited
def dD(x:au):List aa:=Z1 x.S++((cL av) x.All++((cL bH) x.L++((cL cB) x.Begun++((cL (cL (cI .i64))) x.Sets++((cL cB) x.Blank)))))
instance:Cl dD 24:=⟨λ_=>rfl⟩
structure bM where
 active:Bool
 hits:(List Int)
 numbers:(List Int)
 deriving DecidableEq,Inhabited
def jB(x:bM):List aa:=cB x.active++((cL (cI .i64)) x.hits++((cL (cI .i64)) x.numbers))
instance:Cl jB 3:=⟨λ_=>rfl⟩
end
end Go.PW
