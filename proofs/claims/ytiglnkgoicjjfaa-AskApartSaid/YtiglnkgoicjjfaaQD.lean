import Derived.Test.YtiglnkgoicjjfaaQT
set_option linter.all false
set_option maxRecDepth 100000
namespace Go.PW
open Go.RowKit
noncomputable section
structure Znh where
 Generic:Int
 X:Int
 Color:(A5 Int)
 deriving DecidableEq,Inhabited
def Zh2(x:Znh):List Za:=(cI .i64) x.Generic++((cI .i64) x.X++((cA5 (cI .i64)) x.Color))
structure Zhg where
 Kind:Int
 N:Int
 deriving DecidableEq,Inhabited
def Zdw(x:Zhg):List Za:=(cI .i64) x.Kind++((cI .i64) x.N)
structure Zcs where
 Zone:Int
 Who:Int
 Self:Int
 Types:Int
 NotTypes:Int
 Colors:Int
 NotColors:Int
 Sub:(By)
 Keys:Int
 Tap:Int
 Power:Zhg
 Tough:Zhg
 Value:Zhg
 deriving DecidableEq,Inhabited
def Zbs(x:Zcs):List Za:=(cI .i64) x.Zone++((cI .i64) x.Who++((cI .i64) x.Self++((cI .i64) x.Types++((cI .i64) x.NotTypes++((cI .i64) x.Colors++((cI .i64) x.NotColors++(cS x.Sub++((cI .i64) x.Keys++((cI .i64) x.Tap++(Zdw x.Power++(Zdw x.Tough++(Zdw x.Value))))))))))))
structure Zt8 where
 Kind:Int
 N:Int
 M:Int
 Sub:(By)
 Filter:Zcs
 deriving DecidableEq,Inhabited
def Zln(x:Zt8):List Za:=(cI .i64) x.Kind++((cI .i64) x.N++((cI .i64) x.M++(cS x.Sub++(Zbs x.Filter))))
structure Zqf where
 Mana:Znh
 Tap:Bool
 Sacrifice:Bool
 Life:Int
 deriving DecidableEq,Inhabited
def Zjf(x:Zqf):List Za:=Zh2 x.Mana++(cB x.Tap++(cB x.Sacrifice++((cI .i64) x.Life)))
structure Zmo where
 When:Int
 Who:Int
 Filter:Zcs
 deriving DecidableEq,Inhabited
def Zhq(x:Zmo):List Za:=(cI .i64) x.When++((cI .i64) x.Who++(Zbs x.Filter))
structure Zsq where
 Player:Bool
 Object:Bool
 Filter:Zcs
 deriving DecidableEq,Inhabited
def Zkl(x:Zsq):List Za:=cB x.Player++(cB x.Object++(Zbs x.Filter))
structure Zt9 where
 Kind:Int
 N:Int
 Filter:Zcs
 deriving DecidableEq,Inhabited
def Zlo(x:Zt9):List Za:=(cI .i64) x.Kind++((cI .i64) x.N++(Zbs x.Filter))
structure Zos where
 Kind:Int
 N:Int
 Counter:Int
 Filter:Zcs
 deriving DecidableEq,Inhabited
def Zik(x:Zos):List Za:=(cI .i64) x.Kind++((cI .i64) x.N++((cI .i64) x.Counter++(Zbs x.Filter)))
structure Zmp where
 On:Int
 Who:Int
 Filter:Zcs
 Do:Int
 N:Int
 Zone:Int
 Counter:Int
 deriving DecidableEq,Inhabited
def Zhr(x:Zmp):List Za:=(cI .i64) x.On++((cI .i64) x.Who++(Zbs x.Filter++((cI .i64) x.Do++((cI .i64) x.N++((cI .i64) x.Zone++((cI .i64) x.Counter))))))
structure Zaz where
 Kind:Int
 A:Int
 B:Int
 deriving DecidableEq,Inhabited
def Zl(x:Zaz):List Za:=(cI .i64) x.Kind++((cI .i64) x.A++((cI .i64) x.B))
instance:Cl Zl 3:=⟨fun _=>rfl⟩
structure Zd where
 Kind:Int
 Player:Int
 Source:Int
 Least:Int
 Most:Int
 N:Int
 Options:(List Zaz)
 deriving DecidableEq,Inhabited
def Zp(x:Zd):List Za:=(cI .i64) x.Kind++((cI .i64) x.Player++((cI .i64) x.Source++((cI .i64) x.Least++((cI .i64) x.Most++((cI .i64) x.N++((cL Zl) x.Options))))))
instance:Cl Zp 7:=⟨fun _=>rfl⟩
structure Zt where
 answers:(List (List Int))
 used:Int
 pending:Zd
 waits:Bool
 bad:Bool
 deriving DecidableEq,Inhabited
def Zac(x:Zt):List Za:=(cL (cL (cI .i64))) x.answers++((cI .i64) x.used++(Zp x.pending++(cB x.waits++(cB x.bad))))
instance:Cl Zac 11:=⟨fun _=>rfl⟩
end
end Go.PW
