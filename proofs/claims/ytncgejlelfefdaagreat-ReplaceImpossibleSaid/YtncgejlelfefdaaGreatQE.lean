import Derived.Test.YtncgejlelfefdaaGreatPwS
import Derived.Test.YtncgejlelfefdaaGreatQD
set_option linter.all false
set_option maxRecDepth 100000
namespace Go.PW
open Go.RowKit
theorem Za20(x y:Zj)(r s:List Zn):Zah (Zcf x++r) (Zcf y++s)=(decide (x=y)&&Zah r s):=by
 obtain⟨x0,x1⟩:=x
 obtain⟨y0,y1⟩:=y
 simp only [Zcf,List.append_assoc,Z7j .i64,Zj.mk.injEq,Bool.decide_and,Bool.and_assoc]
theorem Zays(x y:Zm)(r s:List Zn):Zah (Z0 x++r) (Z0 y++s)=(decide (x=y)&&Zah r s):=by
 obtain⟨x0,x1,x2,x3,x4,x5,x6,x7,x8,x9,x10,x11,x12⟩:=x
 obtain⟨y0,y1,y2,y3,y4,y5,y6,y7,y8,y9,y10,y11,y12⟩:=y
 simp only [Z0,List.append_assoc,Z7j .i64,Za20,Zbqx,Zm.mk.injEq,Bool.decide_and,Bool.and_assoc]
theorem Zayt(x y:Zb0)(r s:List Zn):Zah (Za5 x++r) (Za5 y++s)=(decide (x=y)&&Zah r s):=by
 obtain⟨x0,x1,x2,x3⟩:=x
 obtain⟨y0,y1,y2,y3⟩:=y
 simp only [Za5,List.append_assoc,Z7j .i64,Zays,Zb0.mk.injEq,Bool.decide_and,Bool.and_assoc]
theorem Zayu(x y:Zbb)(r s:List Zn):Zah (Zar x++r) (Zar y++s)=(decide (x=y)&&Zah r s):=by
 obtain⟨x0,x1⟩:=x
 obtain⟨y0,y1⟩:=y
 simp only [Zar,List.append_assoc,Z7j .i64,Zbb.mk.injEq,Bool.decide_and,Bool.and_assoc]
theorem Za21(x y:Zbb):Zah (Zar x) (Zar y)=decide (x=y):=Z30 Zayu x y
theorem Zayv(x y:Zd)(r s:List Zn):Zah (Zf x++r) (Zf y++s)=(decide (x=y)&&Zah r s):=by
 obtain⟨x0,x1,x2⟩:=x
 obtain⟨y0,y1,y2⟩:=y
 simp only [Zf,List.append_assoc,Z7j .i64,Zd.mk.injEq,Bool.decide_and,Bool.and_assoc]
theorem Zadw(x y:Zd):Zah (Zf x) (Zf y)=decide (x=y):=Z30 Zayv x y
def Z6s(x:Z2):Prop:=(fun n=>IntKind.min .i64<=n/\n<=IntKind.max .i64) x.Generic/\(fun n=>IntKind.min .i64<=n/\n<=IntKind.max .i64) x.X/\(OkA5 (fun n=>IntKind.min .i64<=n/\n<=IntKind.max .i64)) x.Color
def Z6t(x:Zaf):Prop:=(fun n=>IntKind.min .i64<=n/\n<=IntKind.max .i64) x.Super/\(fun n=>IntKind.min .i64<=n/\n<=IntKind.max .i64) x.Types/\(OkL 16 (fun s=>s.length<=reachBytes)) x.Subs
def Zt7(x:Zj):Prop:=(fun n=>IntKind.min .i64<=n/\n<=IntKind.max .i64) x.Kind/\(fun n=>IntKind.min .i64<=n/\n<=IntKind.max .i64) x.N
def Ze5(x:Zm):Prop:=(fun n=>IntKind.min .i64<=n/\n<=IntKind.max .i64) x.Zone/\(fun n=>IntKind.min .i64<=n/\n<=IntKind.max .i64) x.Who/\(fun n=>IntKind.min .i64<=n/\n<=IntKind.max .i64) x.Self/\(fun n=>IntKind.min .i64<=n/\n<=IntKind.max .i64) x.Types/\(fun n=>IntKind.min .i64<=n/\n<=IntKind.max .i64) x.NotTypes/\(fun n=>IntKind.min .i64<=n/\n<=IntKind.max .i64) x.Colors/\(fun n=>IntKind.min .i64<=n/\n<=IntKind.max .i64) x.NotColors/\(fun s=>s.length<=reachBytes) x.Sub/\(fun n=>IntKind.min .i64<=n/\n<=IntKind.max .i64) x.Keys/\(fun n=>IntKind.min .i64<=n/\n<=IntKind.max .i64) x.Tap/\Zt7 x.Power/\Zt7 x.Tough/\Zt7 x.Value
def Zt8(x:Zv):Prop:=(fun n=>IntKind.min .i64<=n/\n<=IntKind.max .i64) x.Kind/\(fun n=>IntKind.min .i64<=n/\n<=IntKind.max .i64) x.N/\(fun n=>IntKind.min .i64<=n/\n<=IntKind.max .i64) x.M/\(fun s=>s.length<=reachBytes) x.Sub/\Ze5 x.Filter
def Zaix(x:Ze0):Prop:=Z6s x.Mana/\(fun _=>True) x.Tap/\(fun _=>True) x.Sacrifice/\(fun n=>IntKind.min .i64<=n/\n<=IntKind.max .i64) x.Life
def Zv0(x:Zb4):Prop:=(fun n=>IntKind.min .i64<=n/\n<=IntKind.max .i64) x.When/\(fun n=>IntKind.min .i64<=n/\n<=IntKind.max .i64) x.Who/\Ze5 x.Filter
def Z6u(x:Za9):Prop:=(fun _=>True) x.Player/\(fun _=>True) x.Object/\Ze5 x.Filter
def Zabf(x:Zgy):Prop:=(fun n=>IntKind.min .i64<=n/\n<=IntKind.max .i64) x.Kind/\(fun n=>IntKind.min .i64<=n/\n<=IntKind.max .i64) x.N/\Ze5 x.Filter
def Zy9(x:Zb0):Prop:=(fun n=>IntKind.min .i64<=n/\n<=IntKind.max .i64) x.Kind/\(fun n=>IntKind.min .i64<=n/\n<=IntKind.max .i64) x.N/\(fun n=>IntKind.min .i64<=n/\n<=IntKind.max .i64) x.Counter/\Ze5 x.Filter
def Zza(x:Z6):Prop:=(fun n=>IntKind.min .i64<=n/\n<=IntKind.max .i64) x.Op/\Zabf x.Ref/\Zy9 x.Amount/\(fun n=>IntKind.min .i64<=n/\n<=IntKind.max .i64) x.Counter/\(fun n=>IntKind.min .i64<=n/\n<=IntKind.max .i64) x.Zone/\(fun s=>s.length<=reachBytes) x.Card/\Ze5 x.Filter/\(OkA6 (fun n=>IntKind.min .i64<=n/\n<=IntKind.max .i64)) x.Pool/\(OkL 176 Zt8) x.Mods
def Zv1(x:Z4):Prop:=(fun n=>IntKind.min .i64<=n/\n<=IntKind.max .i64) x.On/\(fun n=>IntKind.min .i64<=n/\n<=IntKind.max .i64) x.Who/\Ze5 x.Filter/\(fun n=>IntKind.min .i64<=n/\n<=IntKind.max .i64) x.Do/\(fun n=>IntKind.min .i64<=n/\n<=IntKind.max .i64) x.N/\(fun n=>IntKind.min .i64<=n/\n<=IntKind.max .i64) x.Zone/\(fun n=>IntKind.min .i64<=n/\n<=IntKind.max .i64) x.Counter
def Zk2(x:Zh):Prop:=(fun n=>IntKind.min .i64<=n/\n<=IntKind.max .i64) x.Kind/\Ze5 x.Filter/\(OkL 176 Zt8) x.Mods/\Zaix x.Price/\(fun _=>True) x.Slow/\Zv0 x.Trigger/\(fun _=>True) x.May/\(OkL 144 Z6u) x.Specs/\(OkL 560 Zza) x.Effects/\Zv1 x.Replace
def Zaot(x:Zg):Prop:=(fun s=>s.length<=reachBytes) x.Name/\(fun _=>True) x.Token/\Z6s x.Cost/\(fun n=>IntKind.min .i64<=n/\n<=IntKind.max .i64) x.Color/\Z6t x.Line/\(fun n=>IntKind.min .i64<=n/\n<=IntKind.max .i64) x.Power/\(fun n=>IntKind.min .i64<=n/\n<=IntKind.max .i64) x.Tough/\(fun n=>IntKind.min .i64<=n/\n<=IntKind.max .i64) x.Keys/\(OkL 640 Zk2) x.Abilities
def Zzb(x:Z9):Prop:=(fun n=>IntKind.min .i64<=n/\n<=IntKind.max .i64) x.Life/\(fun n=>IntKind.min .i64<=n/\n<=IntKind.max .i64) x.Venom/\(fun n=>IntKind.min .i64<=n/\n<=IntKind.max .i64) x.Lands/\(OkA6 (fun n=>IntKind.min .i64<=n/\n<=IntKind.max .i64)) x.Pool/\(fun _=>True) x.Failed/\(fun _=>True) x.Lost/\(OkL 8 (fun n=>IntKind.min .i64<=n/\n<=IntKind.max .i64)) x.Library/\(OkL 8 (fun n=>IntKind.min .i64<=n/\n<=IntKind.max .i64)) x.Hand/\(OkL 8 (fun n=>IntKind.min .i64<=n/\n<=IntKind.max .i64)) x.Graveyard
def Zadx(x:Zc):Prop:=(fun n=>IntKind.min .i64<=n/\n<=IntKind.max .i64) x.Id/\(fun n=>IntKind.min .i64<=n/\n<=IntKind.max .i64) x.Card/\(fun n=>IntKind.min .i64<=n/\n<=IntKind.max .i64) x.Owner/\(fun n=>IntKind.min .i64<=n/\n<=IntKind.max .i64) x.Control/\(fun n=>IntKind.min .i64<=n/\n<=IntKind.max .i64) x.Zone/\(fun _=>True) x.Token/\(fun _=>True) x.Tapped/\(fun _=>True) x.Sick/\(fun _=>True) x.Deadly/\(fun n=>IntKind.min .i64<=n/\n<=IntKind.max .i64) x.Damage/\(OkA3 (fun n=>IntKind.min .i64<=n/\n<=IntKind.max .i64)) x.Counters/\(fun n=>IntKind.min .i64<=n/\n<=IntKind.max .i64) x.Stamp/\(fun n=>IntKind.min .i64<=n/\n<=IntKind.max .i64) x.Copy/\(fun n=>IntKind.min .i64<=n/\n<=IntKind.max .i64) x.Attack/\(fun _=>True) x.Blocked/\(fun n=>IntKind.min .i64<=n/\n<=IntKind.max .i64) x.Blocks/\(fun n=>IntKind.min .i64<=n/\n<=IntKind.max .i64) x.Shield
def Zady(x:Zbb):Prop:=(fun n=>IntKind.min .i64<=n/\n<=IntKind.max .i64) x.Object/\(fun n=>IntKind.min .i64<=n/\n<=IntKind.max .i64) x.Player
def Zt9(x:Ze):Prop:=(fun n=>IntKind.min .i64<=n/\n<=IntKind.max .i64) x.Kind/\(fun n=>IntKind.min .i64<=n/\n<=IntKind.max .i64) x.Source/\(fun n=>IntKind.min .i64<=n/\n<=IntKind.max .i64) x.Object/\(fun n=>IntKind.min .i64<=n/\n<=IntKind.max .i64) x.Player/\(fun n=>IntKind.min .i64<=n/\n<=IntKind.max .i64) x.Amount/\(fun n=>IntKind.min .i64<=n/\n<=IntKind.max .i64) x.From/\(fun n=>IntKind.min .i64<=n/\n<=IntKind.max .i64) x.To/\(fun n=>IntKind.min .i64<=n/\n<=IntKind.max .i64) x.Cause/\(fun n=>IntKind.min .i64<=n/\n<=IntKind.max .i64) x.Counter/\(fun n=>IntKind.min .i64<=n/\n<=IntKind.max .i64) x.Card/\(fun _=>True) x.Combat/\(fun _=>True) x.Tapped/\(OkA3 (fun n=>IntKind.min .i64<=n/\n<=IntKind.max .i64)) x.Extra
def Z6v(x:Zai):Prop:=(fun n=>IntKind.min .i64<=n/\n<=IntKind.max .i64) x.Id/\(fun n=>IntKind.min .i64<=n/\n<=IntKind.max .i64) x.Kind/\(fun n=>IntKind.min .i64<=n/\n<=IntKind.max .i64) x.Source/\(fun n=>IntKind.min .i64<=n/\n<=IntKind.max .i64) x.Control/\(fun n=>IntKind.min .i64<=n/\n<=IntKind.max .i64) x.X/\(fun _=>True) x.Copy/\Zk2 x.Ability/\(OkL 16 Zady) x.Targets/\Zt9 x.Event
def Zv2(x:Zad):Prop:=(fun n=>IntKind.min .i64<=n/\n<=IntKind.max .i64) x.Source/\(fun n=>IntKind.min .i64<=n/\n<=IntKind.max .i64) x.Control/\Zk2 x.Ability/\Zt9 x.Event
def Z6w(x:Zap):Prop:=(fun n=>IntKind.min .i64<=n/\n<=IntKind.max .i64) x.Stamp/\(fun n=>IntKind.min .i64<=n/\n<=IntKind.max .i64) x.Control/\(fun n=>IntKind.min .i64<=n/\n<=IntKind.max .i64) x.Source/\(fun n=>IntKind.min .i64<=n/\n<=IntKind.max .i64) x.Until/\(OkL 8 (fun n=>IntKind.min .i64<=n/\n<=IntKind.max .i64)) x.Objects/\(OkL 176 Zt8) x.Mods
def Zaiy(x:Za):Prop:=(OkL 152 Zzb) x.Players/\(OkL 128 Zadx) x.Objects/\(OkL 8 (fun n=>IntKind.min .i64<=n/\n<=IntKind.max .i64)) x.Battlefield/\(OkL 8 (fun n=>IntKind.min .i64<=n/\n<=IntKind.max .i64)) x.Exile/\(OkL 824 Z6v) x.Stack/\(OkL 768 Zv2) x.Waiting/\(OkL 80 Z6w) x.Conts/\(fun n=>IntKind.min .i64<=n/\n<=IntKind.max .i64) x.Turn/\(fun n=>IntKind.min .i64<=n/\n<=IntKind.max .i64) x.Active/\(fun n=>IntKind.min .i64<=n/\n<=IntKind.max .i64) x.Step/\(fun _=>True) x.Begun/\(fun n=>IntKind.min .i64<=n/\n<=IntKind.max .i64) x.Priority/\(fun n=>IntKind.min .i64<=n/\n<=IntKind.max .i64) x.Passes/\(fun n=>IntKind.min .i64<=n/\n<=IntKind.max .i64) x.NextId/\(fun n=>IntKind.min .i64<=n/\n<=IntKind.max .i64) x.NextStamp/\(fun n=>IntKind.min .u64<=n/\n<=IntKind.max .u64) x.Seed/\(OkL 8 (fun n=>IntKind.min .i64<=n/\n<=IntKind.max .i64)) x.Extra/\(fun n=>IntKind.min .i64<=n/\n<=IntKind.max .i64) x.Over/\(fun n=>IntKind.min .i64<=n/\n<=IntKind.max .i64) x.Winner
def Zadz(x:Zd):Prop:=(fun n=>IntKind.min .i64<=n/\n<=IntKind.max .i64) x.Kind/\(fun n=>IntKind.min .i64<=n/\n<=IntKind.max .i64) x.A/\(fun n=>IntKind.min .i64<=n/\n<=IntKind.max .i64) x.B
def Z9b(x:Zbm):Prop:=Zt9 x.Event/\Zadz x.Option
end Go.PW
