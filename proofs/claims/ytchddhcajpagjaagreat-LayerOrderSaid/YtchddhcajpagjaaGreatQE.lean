import Derived.Test.YtchddhcajpagjaaGreatPwS
import Derived.Test.YtchddhcajpagjaaGreatQD
set_option linter.all false
set_option maxRecDepth 100000
namespace Go.PW
open Go.RowKit
theorem Zas2(x y:Za)(r s:List Zf):Zy (Zb4 x++r) (Zb4 y++s)=(decide (x=y)&&Zy r s):=by
 obtain⟨x0,x1⟩:=x
 obtain⟨y0,y1⟩:=y
 simp only [Zb4,List.append_assoc,Zabh .i64,Za.mk.injEq,Bool.decide_and,Bool.and_assoc]
theorem Z66(x y:Ze)(r s:List Zf):Zy (Zo x++r) (Zo y++s)=(decide (x=y)&&Zy r s):=by
 obtain⟨x0,x1,x2,x3,x4,x5,x6,x7,x8,x9,x10,x11,x12⟩:=x
 obtain⟨y0,y1,y2,y3,y4,y5,y6,y7,y8,y9,y10,y11,y12⟩:=y
 simp only [Zo,List.append_assoc,Zabh .i64,Zas2,Za6z,Ze.mk.injEq,Bool.decide_and,Bool.and_assoc]
theorem Za0v(x y:Zd)(r s:List Zf):Zy (Zl x++r) (Zl y++s)=(decide (x=y)&&Zy r s):=by
 obtain⟨x0,x1,x2,x3,x4⟩:=x
 obtain⟨y0,y1,y2,y3,y4⟩:=y
 simp only [Zl,List.append_assoc,Zabh .i64,Z66,Za6z,Zd.mk.injEq,Bool.decide_and,Bool.and_assoc]
theorem Zhi(x y:Zd):Zy (Zl x) (Zl y)=decide (x=y):=Zabi Za0v x y
theorem Zapf(x y:Zbk)(r s:List Zf):Zy (Zaq x++r) (Zaq y++s)=(decide (x=y)&&Zy r s):=by
 obtain⟨x0,x1,x2,x3⟩:=x
 obtain⟨y0,y1,y2,y3⟩:=y
 simp only [Zaq,List.append_assoc,Zabh .i64,Z66,Zbk.mk.injEq,Bool.decide_and,Bool.and_assoc]
def Z5a(x:Zt):Prop:=(fun n=>IntKind.min .i64<=n/\n<=IntKind.max .i64) x.Generic/\(fun n=>IntKind.min .i64<=n/\n<=IntKind.max .i64) x.X/\(OkA5 (fun n=>IntKind.min .i64<=n/\n<=IntKind.max .i64)) x.Color
def Z5b(x:Zac):Prop:=(fun n=>IntKind.min .i64<=n/\n<=IntKind.max .i64) x.Super/\(fun n=>IntKind.min .i64<=n/\n<=IntKind.max .i64) x.Types/\(OkL 16 (fun s=>s.length<=reachBytes)) x.Subs
def Zt2(x:Za):Prop:=(fun n=>IntKind.min .i64<=n/\n<=IntKind.max .i64) x.Kind/\(fun n=>IntKind.min .i64<=n/\n<=IntKind.max .i64) x.N
def Zep(x:Ze):Prop:=(fun n=>IntKind.min .i64<=n/\n<=IntKind.max .i64) x.Zone/\(fun n=>IntKind.min .i64<=n/\n<=IntKind.max .i64) x.Who/\(fun n=>IntKind.min .i64<=n/\n<=IntKind.max .i64) x.Self/\(fun n=>IntKind.min .i64<=n/\n<=IntKind.max .i64) x.Types/\(fun n=>IntKind.min .i64<=n/\n<=IntKind.max .i64) x.NotTypes/\(fun n=>IntKind.min .i64<=n/\n<=IntKind.max .i64) x.Colors/\(fun n=>IntKind.min .i64<=n/\n<=IntKind.max .i64) x.NotColors/\(fun s=>s.length<=reachBytes) x.Sub/\(fun n=>IntKind.min .i64<=n/\n<=IntKind.max .i64) x.Keys/\(fun n=>IntKind.min .i64<=n/\n<=IntKind.max .i64) x.Tap/\Zt2 x.Power/\Zt2 x.Tough/\Zt2 x.Value
def Zt3(x:Zd):Prop:=(fun n=>IntKind.min .i64<=n/\n<=IntKind.max .i64) x.Kind/\(fun n=>IntKind.min .i64<=n/\n<=IntKind.max .i64) x.N/\(fun n=>IntKind.min .i64<=n/\n<=IntKind.max .i64) x.M/\(fun s=>s.length<=reachBytes) x.Sub/\Zep x.Filter
def Zadg(x:Zhn):Prop:=Z5a x.Mana/\(fun _=>True) x.Tap/\(fun _=>True) x.Sacrifice/\(fun n=>IntKind.min .i64<=n/\n<=IntKind.max .i64) x.Life
def Zvh(x:Zcs):Prop:=(fun n=>IntKind.min .i64<=n/\n<=IntKind.max .i64) x.When/\(fun n=>IntKind.min .i64<=n/\n<=IntKind.max .i64) x.Who/\Zep x.Filter
def Z5c(x:Za9):Prop:=(fun _=>True) x.Player/\(fun _=>True) x.Object/\Zep x.Filter
def Z8j(x:Zgn):Prop:=(fun n=>IntKind.min .i64<=n/\n<=IntKind.max .i64) x.Kind/\(fun n=>IntKind.min .i64<=n/\n<=IntKind.max .i64) x.N/\Zep x.Filter
def Zya(x:Zbk):Prop:=(fun n=>IntKind.min .i64<=n/\n<=IntKind.max .i64) x.Kind/\(fun n=>IntKind.min .i64<=n/\n<=IntKind.max .i64) x.N/\(fun n=>IntKind.min .i64<=n/\n<=IntKind.max .i64) x.Counter/\Zep x.Filter
def Zyb(x:Zs):Prop:=(fun n=>IntKind.min .i64<=n/\n<=IntKind.max .i64) x.Op/\Z8j x.Ref/\Zya x.Amount/\(fun n=>IntKind.min .i64<=n/\n<=IntKind.max .i64) x.Counter/\(fun n=>IntKind.min .i64<=n/\n<=IntKind.max .i64) x.Zone/\(fun s=>s.length<=reachBytes) x.Card/\Zep x.Filter/\(OkA6 (fun n=>IntKind.min .i64<=n/\n<=IntKind.max .i64)) x.Pool/\(OkL 176 Zt3) x.Mods
def Zvi(x:Za6):Prop:=(fun n=>IntKind.min .i64<=n/\n<=IntKind.max .i64) x.On/\(fun n=>IntKind.min .i64<=n/\n<=IntKind.max .i64) x.Who/\Zep x.Filter/\(fun n=>IntKind.min .i64<=n/\n<=IntKind.max .i64) x.Do/\(fun n=>IntKind.min .i64<=n/\n<=IntKind.max .i64) x.N/\(fun n=>IntKind.min .i64<=n/\n<=IntKind.max .i64) x.Zone/\(fun n=>IntKind.min .i64<=n/\n<=IntKind.max .i64) x.Counter
def Zma(x:Zh):Prop:=(fun n=>IntKind.min .i64<=n/\n<=IntKind.max .i64) x.Kind/\Zep x.Filter/\(OkL 176 Zt3) x.Mods/\Zadg x.Price/\(fun _=>True) x.Slow/\Zvh x.Trigger/\(fun _=>True) x.May/\(OkL 144 Z5c) x.Specs/\(OkL 560 Zyb) x.Effects/\Zvi x.Replace
def Zahw(x:Zm):Prop:=(fun s=>s.length<=reachBytes) x.Name/\(fun _=>True) x.Token/\Z5a x.Cost/\(fun n=>IntKind.min .i64<=n/\n<=IntKind.max .i64) x.Color/\Z5b x.Line/\(fun n=>IntKind.min .i64<=n/\n<=IntKind.max .i64) x.Power/\(fun n=>IntKind.min .i64<=n/\n<=IntKind.max .i64) x.Tough/\(fun n=>IntKind.min .i64<=n/\n<=IntKind.max .i64) x.Keys/\(OkL 640 Zma) x.Abilities
def Zyc(x:Zkf):Prop:=(fun n=>IntKind.min .i64<=n/\n<=IntKind.max .i64) x.Life/\(fun n=>IntKind.min .i64<=n/\n<=IntKind.max .i64) x.Venom/\(fun n=>IntKind.min .i64<=n/\n<=IntKind.max .i64) x.Lands/\(OkA6 (fun n=>IntKind.min .i64<=n/\n<=IntKind.max .i64)) x.Pool/\(fun _=>True) x.Failed/\(fun _=>True) x.Lost/\(OkL 8 (fun n=>IntKind.min .i64<=n/\n<=IntKind.max .i64)) x.Library/\(OkL 8 (fun n=>IntKind.min .i64<=n/\n<=IntKind.max .i64)) x.Hand/\(OkL 8 (fun n=>IntKind.min .i64<=n/\n<=IntKind.max .i64)) x.Graveyard
def Zaab(x:Zg):Prop:=(fun n=>IntKind.min .i64<=n/\n<=IntKind.max .i64) x.Id/\(fun n=>IntKind.min .i64<=n/\n<=IntKind.max .i64) x.Card/\(fun n=>IntKind.min .i64<=n/\n<=IntKind.max .i64) x.Owner/\(fun n=>IntKind.min .i64<=n/\n<=IntKind.max .i64) x.Control/\(fun n=>IntKind.min .i64<=n/\n<=IntKind.max .i64) x.Zone/\(fun _=>True) x.Token/\(fun _=>True) x.Tapped/\(fun _=>True) x.Sick/\(fun _=>True) x.Deadly/\(fun n=>IntKind.min .i64<=n/\n<=IntKind.max .i64) x.Damage/\(OkA3 (fun n=>IntKind.min .i64<=n/\n<=IntKind.max .i64)) x.Counters/\(fun n=>IntKind.min .i64<=n/\n<=IntKind.max .i64) x.Stamp/\(fun n=>IntKind.min .i64<=n/\n<=IntKind.max .i64) x.Copy/\(fun n=>IntKind.min .i64<=n/\n<=IntKind.max .i64) x.Attack/\(fun _=>True) x.Blocked/\(fun n=>IntKind.min .i64<=n/\n<=IntKind.max .i64) x.Blocks/\(fun n=>IntKind.min .i64<=n/\n<=IntKind.max .i64) x.Shield
def Zaac(x:Zs8):Prop:=(fun n=>IntKind.min .i64<=n/\n<=IntKind.max .i64) x.Object/\(fun n=>IntKind.min .i64<=n/\n<=IntKind.max .i64) x.Player
def Z1m(x:Z2o):Prop:=(fun n=>IntKind.min .i64<=n/\n<=IntKind.max .i64) x.Kind/\(fun n=>IntKind.min .i64<=n/\n<=IntKind.max .i64) x.Source/\(fun n=>IntKind.min .i64<=n/\n<=IntKind.max .i64) x.Object/\(fun n=>IntKind.min .i64<=n/\n<=IntKind.max .i64) x.Player/\(fun n=>IntKind.min .i64<=n/\n<=IntKind.max .i64) x.Amount/\(fun n=>IntKind.min .i64<=n/\n<=IntKind.max .i64) x.From/\(fun n=>IntKind.min .i64<=n/\n<=IntKind.max .i64) x.To/\(fun n=>IntKind.min .i64<=n/\n<=IntKind.max .i64) x.Cause/\(fun n=>IntKind.min .i64<=n/\n<=IntKind.max .i64) x.Counter/\(fun n=>IntKind.min .i64<=n/\n<=IntKind.max .i64) x.Card/\(fun _=>True) x.Combat/\(fun _=>True) x.Tapped/\(OkA3 (fun n=>IntKind.min .i64<=n/\n<=IntKind.max .i64)) x.Extra
def Z5d(x:Zmw):Prop:=(fun n=>IntKind.min .i64<=n/\n<=IntKind.max .i64) x.Id/\(fun n=>IntKind.min .i64<=n/\n<=IntKind.max .i64) x.Kind/\(fun n=>IntKind.min .i64<=n/\n<=IntKind.max .i64) x.Source/\(fun n=>IntKind.min .i64<=n/\n<=IntKind.max .i64) x.Control/\(fun n=>IntKind.min .i64<=n/\n<=IntKind.max .i64) x.X/\(fun _=>True) x.Copy/\Zma x.Ability/\(OkL 16 Zaac) x.Targets/\Z1m x.Event
def Zvj(x:Zkw):Prop:=(fun n=>IntKind.min .i64<=n/\n<=IntKind.max .i64) x.Source/\(fun n=>IntKind.min .i64<=n/\n<=IntKind.max .i64) x.Control/\Zma x.Ability/\Z1m x.Event
def Z5e(x:Zav):Prop:=(fun n=>IntKind.min .i64<=n/\n<=IntKind.max .i64) x.Stamp/\(fun n=>IntKind.min .i64<=n/\n<=IntKind.max .i64) x.Control/\(fun n=>IntKind.min .i64<=n/\n<=IntKind.max .i64) x.Source/\(fun n=>IntKind.min .i64<=n/\n<=IntKind.max .i64) x.Until/\(OkL 8 (fun n=>IntKind.min .i64<=n/\n<=IntKind.max .i64)) x.Objects/\(OkL 176 Zt3) x.Mods
def Zadh(x:Zk):Prop:=(OkL 152 Zyc) x.Players/\(OkL 128 Zaab) x.Objects/\(OkL 8 (fun n=>IntKind.min .i64<=n/\n<=IntKind.max .i64)) x.Battlefield/\(OkL 8 (fun n=>IntKind.min .i64<=n/\n<=IntKind.max .i64)) x.Exile/\(OkL 824 Z5d) x.Stack/\(OkL 768 Zvj) x.Waiting/\(OkL 80 Z5e) x.Conts/\(fun n=>IntKind.min .i64<=n/\n<=IntKind.max .i64) x.Turn/\(fun n=>IntKind.min .i64<=n/\n<=IntKind.max .i64) x.Active/\(fun n=>IntKind.min .i64<=n/\n<=IntKind.max .i64) x.Step/\(fun _=>True) x.Begun/\(fun n=>IntKind.min .i64<=n/\n<=IntKind.max .i64) x.Priority/\(fun n=>IntKind.min .i64<=n/\n<=IntKind.max .i64) x.Passes/\(fun n=>IntKind.min .i64<=n/\n<=IntKind.max .i64) x.NextId/\(fun n=>IntKind.min .i64<=n/\n<=IntKind.max .i64) x.NextStamp/\(fun n=>IntKind.min .u64<=n/\n<=IntKind.max .u64) x.Seed/\(OkL 8 (fun n=>IntKind.min .i64<=n/\n<=IntKind.max .i64)) x.Extra/\(fun n=>IntKind.min .i64<=n/\n<=IntKind.max .i64) x.Over/\(fun n=>IntKind.min .i64<=n/\n<=IntKind.max .i64) x.Winner
end Go.PW
