import Derived.Test.YtchddhcajpagjaaGreatPwS
import Derived.Test.YtchddhcajpagjaaGreatQD
set_option linter.all false
set_option maxRecDepth 100000
namespace Go.PW
open Go.RowKit
theorem Zamm(x y:Za)(r s:List Zd):Zac (Zb8 x++r) (Zb8 y++s)=(decide (x=y)&&Zac r s):=by
 obtain⟨x0,x1⟩:=x
 obtain⟨y0,y1⟩:=y
 simp only [Zb8,List.append_assoc,Z6c .i64,Za.mk.injEq,Bool.decide_and,Bool.and_assoc]
theorem Zrx(x y:Zc)(r s:List Zd):Zac (Zn x++r) (Zn y++s)=(decide (x=y)&&Zac r s):=by
 obtain⟨x0,x1,x2,x3,x4,x5,x6,x7,x8,x9,x10,x11,x12⟩:=x
 obtain⟨y0,y1,y2,y3,y4,y5,y6,y7,y8,y9,y10,y11,y12⟩:=y
 simp only [Zn,List.append_assoc,Z6c .i64,Zamm,Zax5,Zc.mk.injEq,Bool.decide_and,Bool.and_assoc]
theorem Zamn(x y:Zc):Zac (Zn x) (Zn y)=decide (x=y):=Zy7 Zrx x y
theorem Zats(x y:Zh)(r s:List Zd):Zac (Zl x++r) (Zl y++s)=(decide (x=y)&&Zac r s):=by
 obtain⟨x0,x1,x2,x3,x4⟩:=x
 obtain⟨y0,y1,y2,y3,y4⟩:=y
 simp only [Zl,List.append_assoc,Z6c .i64,Zrx,Zax5,Zh.mk.injEq,Bool.decide_and,Bool.and_assoc]
theorem Z37(x y:Zh):Zac (Zl x) (Zl y)=decide (x=y):=Zy7 Zats x y
theorem Zajw(x y:Za9)(r s:List Zd):Zac (Zar x++r) (Zar y++s)=(decide (x=y)&&Zac r s):=by
 obtain⟨x0,x1,x2,x3⟩:=x
 obtain⟨y0,y1,y2,y3⟩:=y
 simp only [Zar,List.append_assoc,Z6c .i64,Zrx,Za9.mk.injEq,Bool.decide_and,Bool.and_assoc]
def Z1b(x:Zr):Prop:=(fun n=>IntKind.min .i64<=n/\n<=IntKind.max .i64) x.Generic/\(fun n=>IntKind.min .i64<=n/\n<=IntKind.max .i64) x.X/\(OkA5 (fun n=>IntKind.min .i64<=n/\n<=IntKind.max .i64)) x.Color
def Z1c(x:Z6):Prop:=(fun n=>IntKind.min .i64<=n/\n<=IntKind.max .i64) x.Super/\(fun n=>IntKind.min .i64<=n/\n<=IntKind.max .i64) x.Types/\(OkL 16 (fun s=>s.length<=reachBytes)) x.Subs
def Zqf(x:Za):Prop:=(fun n=>IntKind.min .i64<=n/\n<=IntKind.max .i64) x.Kind/\(fun n=>IntKind.min .i64<=n/\n<=IntKind.max .i64) x.N
def Zdb(x:Zc):Prop:=(fun n=>IntKind.min .i64<=n/\n<=IntKind.max .i64) x.Zone/\(fun n=>IntKind.min .i64<=n/\n<=IntKind.max .i64) x.Who/\(fun n=>IntKind.min .i64<=n/\n<=IntKind.max .i64) x.Self/\(fun n=>IntKind.min .i64<=n/\n<=IntKind.max .i64) x.Types/\(fun n=>IntKind.min .i64<=n/\n<=IntKind.max .i64) x.NotTypes/\(fun n=>IntKind.min .i64<=n/\n<=IntKind.max .i64) x.Colors/\(fun n=>IntKind.min .i64<=n/\n<=IntKind.max .i64) x.NotColors/\(fun s=>s.length<=reachBytes) x.Sub/\(fun n=>IntKind.min .i64<=n/\n<=IntKind.max .i64) x.Keys/\(fun n=>IntKind.min .i64<=n/\n<=IntKind.max .i64) x.Tap/\Zqf x.Power/\Zqf x.Tough/\Zqf x.Value
def Zqg(x:Zh):Prop:=(fun n=>IntKind.min .i64<=n/\n<=IntKind.max .i64) x.Kind/\(fun n=>IntKind.min .i64<=n/\n<=IntKind.max .i64) x.N/\(fun n=>IntKind.min .i64<=n/\n<=IntKind.max .i64) x.M/\(fun s=>s.length<=reachBytes) x.Sub/\Zdb x.Filter
def Z8d(x:Zfq):Prop:=Z1b x.Mana/\(fun _=>True) x.Tap/\(fun _=>True) x.Sacrifice/\(fun n=>IntKind.min .i64<=n/\n<=IntKind.max .i64) x.Life
def Zry(x:Zbx):Prop:=(fun n=>IntKind.min .i64<=n/\n<=IntKind.max .i64) x.When/\(fun n=>IntKind.min .i64<=n/\n<=IntKind.max .i64) x.Who/\Zdb x.Filter
def Z1d(x:Zat):Prop:=(fun _=>True) x.Player/\(fun _=>True) x.Object/\Zdb x.Filter
def Z38(x:Ze6):Prop:=(fun n=>IntKind.min .i64<=n/\n<=IntKind.max .i64) x.Kind/\(fun n=>IntKind.min .i64<=n/\n<=IntKind.max .i64) x.N/\Zdb x.Filter
def Zur(x:Za9):Prop:=(fun n=>IntKind.min .i64<=n/\n<=IntKind.max .i64) x.Kind/\(fun n=>IntKind.min .i64<=n/\n<=IntKind.max .i64) x.N/\(fun n=>IntKind.min .i64<=n/\n<=IntKind.max .i64) x.Counter/\Zdb x.Filter
def Zus(x:Zs):Prop:=(fun n=>IntKind.min .i64<=n/\n<=IntKind.max .i64) x.Op/\Z38 x.Ref/\Zur x.Amount/\(fun n=>IntKind.min .i64<=n/\n<=IntKind.max .i64) x.Counter/\(fun n=>IntKind.min .i64<=n/\n<=IntKind.max .i64) x.Zone/\(fun s=>s.length<=reachBytes) x.Card/\Zdb x.Filter/\(OkA6 (fun n=>IntKind.min .i64<=n/\n<=IntKind.max .i64)) x.Pool/\(OkL 176 Zqg) x.Mods
def Zrz(x:Zas):Prop:=(fun n=>IntKind.min .i64<=n/\n<=IntKind.max .i64) x.On/\(fun n=>IntKind.min .i64<=n/\n<=IntKind.max .i64) x.Who/\Zdb x.Filter/\(fun n=>IntKind.min .i64<=n/\n<=IntKind.max .i64) x.Do/\(fun n=>IntKind.min .i64<=n/\n<=IntKind.max .i64) x.N/\(fun n=>IntKind.min .i64<=n/\n<=IntKind.max .i64) x.Zone/\(fun n=>IntKind.min .i64<=n/\n<=IntKind.max .i64) x.Counter
def Zix(x:Ze):Prop:=(fun n=>IntKind.min .i64<=n/\n<=IntKind.max .i64) x.Kind/\Zdb x.Filter/\(OkL 176 Zqg) x.Mods/\Z8d x.Price/\(fun _=>True) x.Slow/\Zry x.Trigger/\(fun _=>True) x.May/\(OkL 144 Z1d) x.Specs/\(OkL 560 Zus) x.Effects/\Zrz x.Replace
def Zabr(x:Zk):Prop:=(fun s=>s.length<=reachBytes) x.Name/\(fun _=>True) x.Token/\Z1b x.Cost/\(fun n=>IntKind.min .i64<=n/\n<=IntKind.max .i64) x.Color/\Z1c x.Line/\(fun n=>IntKind.min .i64<=n/\n<=IntKind.max .i64) x.Power/\(fun n=>IntKind.min .i64<=n/\n<=IntKind.max .i64) x.Tough/\(fun n=>IntKind.min .i64<=n/\n<=IntKind.max .i64) x.Keys/\(OkL 640 Zix) x.Abilities
def Zut(x:Zhq):Prop:=(fun n=>IntKind.min .i64<=n/\n<=IntKind.max .i64) x.Life/\(fun n=>IntKind.min .i64<=n/\n<=IntKind.max .i64) x.Venom/\(fun n=>IntKind.min .i64<=n/\n<=IntKind.max .i64) x.Lands/\(OkA6 (fun n=>IntKind.min .i64<=n/\n<=IntKind.max .i64)) x.Pool/\(fun _=>True) x.Failed/\(fun _=>True) x.Lost/\(OkL 8 (fun n=>IntKind.min .i64<=n/\n<=IntKind.max .i64)) x.Library/\(OkL 8 (fun n=>IntKind.min .i64<=n/\n<=IntKind.max .i64)) x.Hand/\(OkL 8 (fun n=>IntKind.min .i64<=n/\n<=IntKind.max .i64)) x.Graveyard
def Z5h(x:Zf):Prop:=(fun n=>IntKind.min .i64<=n/\n<=IntKind.max .i64) x.Id/\(fun n=>IntKind.min .i64<=n/\n<=IntKind.max .i64) x.Card/\(fun n=>IntKind.min .i64<=n/\n<=IntKind.max .i64) x.Owner/\(fun n=>IntKind.min .i64<=n/\n<=IntKind.max .i64) x.Control/\(fun n=>IntKind.min .i64<=n/\n<=IntKind.max .i64) x.Zone/\(fun _=>True) x.Token/\(fun _=>True) x.Tapped/\(fun _=>True) x.Sick/\(fun _=>True) x.Deadly/\(fun n=>IntKind.min .i64<=n/\n<=IntKind.max .i64) x.Damage/\(OkA3 (fun n=>IntKind.min .i64<=n/\n<=IntKind.max .i64)) x.Counters/\(fun n=>IntKind.min .i64<=n/\n<=IntKind.max .i64) x.Stamp/\(fun n=>IntKind.min .i64<=n/\n<=IntKind.max .i64) x.Copy/\(fun n=>IntKind.min .i64<=n/\n<=IntKind.max .i64) x.Attack/\(fun _=>True) x.Blocked/\(fun n=>IntKind.min .i64<=n/\n<=IntKind.max .i64) x.Blocks/\(fun n=>IntKind.min .i64<=n/\n<=IntKind.max .i64) x.Shield
def Z5i(x:Zpb):Prop:=(fun n=>IntKind.min .i64<=n/\n<=IntKind.max .i64) x.Object/\(fun n=>IntKind.min .i64<=n/\n<=IntKind.max .i64) x.Player
def Zye(x:Zy8):Prop:=(fun n=>IntKind.min .i64<=n/\n<=IntKind.max .i64) x.Kind/\(fun n=>IntKind.min .i64<=n/\n<=IntKind.max .i64) x.Source/\(fun n=>IntKind.min .i64<=n/\n<=IntKind.max .i64) x.Object/\(fun n=>IntKind.min .i64<=n/\n<=IntKind.max .i64) x.Player/\(fun n=>IntKind.min .i64<=n/\n<=IntKind.max .i64) x.Amount/\(fun n=>IntKind.min .i64<=n/\n<=IntKind.max .i64) x.From/\(fun n=>IntKind.min .i64<=n/\n<=IntKind.max .i64) x.To/\(fun n=>IntKind.min .i64<=n/\n<=IntKind.max .i64) x.Cause/\(fun n=>IntKind.min .i64<=n/\n<=IntKind.max .i64) x.Counter/\(fun n=>IntKind.min .i64<=n/\n<=IntKind.max .i64) x.Card/\(fun _=>True) x.Combat/\(fun _=>True) x.Tapped/\(OkA3 (fun n=>IntKind.min .i64<=n/\n<=IntKind.max .i64)) x.Extra
def Z1e(x:Zjh):Prop:=(fun n=>IntKind.min .i64<=n/\n<=IntKind.max .i64) x.Id/\(fun n=>IntKind.min .i64<=n/\n<=IntKind.max .i64) x.Kind/\(fun n=>IntKind.min .i64<=n/\n<=IntKind.max .i64) x.Source/\(fun n=>IntKind.min .i64<=n/\n<=IntKind.max .i64) x.Control/\(fun n=>IntKind.min .i64<=n/\n<=IntKind.max .i64) x.X/\(fun _=>True) x.Copy/\Zix x.Ability/\(OkL 16 Z5i) x.Targets/\Zye x.Event
def Zr0(x:Zh2):Prop:=(fun n=>IntKind.min .i64<=n/\n<=IntKind.max .i64) x.Source/\(fun n=>IntKind.min .i64<=n/\n<=IntKind.max .i64) x.Control/\Zix x.Ability/\Zye x.Event
def Z1f(x:Zb9):Prop:=(fun n=>IntKind.min .i64<=n/\n<=IntKind.max .i64) x.Stamp/\(fun n=>IntKind.min .i64<=n/\n<=IntKind.max .i64) x.Control/\(fun n=>IntKind.min .i64<=n/\n<=IntKind.max .i64) x.Source/\(fun n=>IntKind.min .i64<=n/\n<=IntKind.max .i64) x.Until/\(OkL 8 (fun n=>IntKind.min .i64<=n/\n<=IntKind.max .i64)) x.Objects/\(OkL 176 Zqg) x.Mods
def Z8e(x:Zo):Prop:=(OkL 152 Zut) x.Players/\(OkL 128 Z5h) x.Objects/\(OkL 8 (fun n=>IntKind.min .i64<=n/\n<=IntKind.max .i64)) x.Battlefield/\(OkL 8 (fun n=>IntKind.min .i64<=n/\n<=IntKind.max .i64)) x.Exile/\(OkL 824 Z1e) x.Stack/\(OkL 768 Zr0) x.Waiting/\(OkL 80 Z1f) x.Conts/\(fun n=>IntKind.min .i64<=n/\n<=IntKind.max .i64) x.Turn/\(fun n=>IntKind.min .i64<=n/\n<=IntKind.max .i64) x.Active/\(fun n=>IntKind.min .i64<=n/\n<=IntKind.max .i64) x.Step/\(fun _=>True) x.Begun/\(fun n=>IntKind.min .i64<=n/\n<=IntKind.max .i64) x.Priority/\(fun n=>IntKind.min .i64<=n/\n<=IntKind.max .i64) x.Passes/\(fun n=>IntKind.min .i64<=n/\n<=IntKind.max .i64) x.NextId/\(fun n=>IntKind.min .i64<=n/\n<=IntKind.max .i64) x.NextStamp/\(fun n=>IntKind.min .u64<=n/\n<=IntKind.max .u64) x.Seed/\(OkL 8 (fun n=>IntKind.min .i64<=n/\n<=IntKind.max .i64)) x.Extra/\(fun n=>IntKind.min .i64<=n/\n<=IntKind.max .i64) x.Over/\(fun n=>IntKind.min .i64<=n/\n<=IntKind.max .i64) x.Winner
end Go.PW
