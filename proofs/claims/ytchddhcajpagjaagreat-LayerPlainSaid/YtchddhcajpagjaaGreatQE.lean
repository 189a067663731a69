import Derived.Test.YtchddhcajpagjaaGreatPwS
import Derived.Test.YtchddhcajpagjaaGreatQD
set_option linter.all false
set_option maxRecDepth 100000
namespace Go.PW
open Go.RowKit
theorem Zata(x y:Zb)(r s:List Zh):Z1 (Zb3 x++r) (Zb3 y++s)=(decide (x=y)&&Z1 r s):=by
 obtain⟨x0,x1⟩:=x
 obtain⟨y0,y1⟩:=y
 simp only [Zb3,List.append_assoc,Zabo .i64,Zb.mk.injEq,Bool.decide_and,Bool.and_assoc]
theorem Z7b(x y:Zg)(r s:List Zh):Z1 (Zo x++r) (Zo y++s)=(decide (x=y)&&Z1 r s):=by
 obtain⟨x0,x1,x2,x3,x4,x5,x6,x7,x8,x9,x10,x11,x12⟩:=x
 obtain⟨y0,y1,y2,y3,y4,y5,y6,y7,y8,y9,y10,y11,y12⟩:=y
 simp only [Zo,List.append_assoc,Zabo .i64,Zata,Za7c,Zg.mk.injEq,Bool.decide_and,Bool.and_assoc]
theorem Za06(x y:Zc)(r s:List Zh):Z1 (Zk x++r) (Zk y++s)=(decide (x=y)&&Z1 r s):=by
 obtain⟨x0,x1,x2,x3,x4⟩:=x
 obtain⟨y0,y1,y2,y3,y4⟩:=y
 simp only [Zk,List.append_assoc,Zabo .i64,Z7b,Za7c,Zc.mk.injEq,Bool.decide_and,Bool.and_assoc]
theorem Zhl(x y:Zc):Z1 (Zk x) (Zk y)=decide (x=y):=Zabp Za06 x y
theorem Zapj(x y:Zbi)(r s:List Zh):Z1 (Zap x++r) (Zap y++s)=(decide (x=y)&&Z1 r s):=by
 obtain⟨x0,x1,x2,x3⟩:=x
 obtain⟨y0,y1,y2,y3⟩:=y
 simp only [Zap,List.append_assoc,Zabo .i64,Z7b,Zbi.mk.injEq,Bool.decide_and,Bool.and_assoc]
def Z5f(x:Zt):Prop:=(fun n=>IntKind.min .i64<=n/\n<=IntKind.max .i64) x.Generic/\(fun n=>IntKind.min .i64<=n/\n<=IntKind.max .i64) x.X/\(OkA5 (fun n=>IntKind.min .i64<=n/\n<=IntKind.max .i64)) x.Color
def Z5g(x:Z7):Prop:=(fun n=>IntKind.min .i64<=n/\n<=IntKind.max .i64) x.Super/\(fun n=>IntKind.min .i64<=n/\n<=IntKind.max .i64) x.Types/\(OkL 16 (fun s=>s.length<=reachBytes)) x.Subs
def Zt6(x:Zb):Prop:=(fun n=>IntKind.min .i64<=n/\n<=IntKind.max .i64) x.Kind/\(fun n=>IntKind.min .i64<=n/\n<=IntKind.max .i64) x.N
def Zep(x:Zg):Prop:=(fun n=>IntKind.min .i64<=n/\n<=IntKind.max .i64) x.Zone/\(fun n=>IntKind.min .i64<=n/\n<=IntKind.max .i64) x.Who/\(fun n=>IntKind.min .i64<=n/\n<=IntKind.max .i64) x.Self/\(fun n=>IntKind.min .i64<=n/\n<=IntKind.max .i64) x.Types/\(fun n=>IntKind.min .i64<=n/\n<=IntKind.max .i64) x.NotTypes/\(fun n=>IntKind.min .i64<=n/\n<=IntKind.max .i64) x.Colors/\(fun n=>IntKind.min .i64<=n/\n<=IntKind.max .i64) x.NotColors/\(fun s=>s.length<=reachBytes) x.Sub/\(fun n=>IntKind.min .i64<=n/\n<=IntKind.max .i64) x.Keys/\(fun n=>IntKind.min .i64<=n/\n<=IntKind.max .i64) x.Tap/\Zt6 x.Power/\Zt6 x.Tough/\Zt6 x.Value
def Zt7(x:Zc):Prop:=(fun n=>IntKind.min .i64<=n/\n<=IntKind.max .i64) x.Kind/\(fun n=>IntKind.min .i64<=n/\n<=IntKind.max .i64) x.N/\(fun n=>IntKind.min .i64<=n/\n<=IntKind.max .i64) x.M/\(fun s=>s.length<=reachBytes) x.Sub/\Zep x.Filter
def Zadm(x:Zgs):Prop:=Z5f x.Mana/\(fun _=>True) x.Tap/\(fun _=>True) x.Sacrifice/\(fun n=>IntKind.min .i64<=n/\n<=IntKind.max .i64) x.Life
def Zvl(x:Zcg):Prop:=(fun n=>IntKind.min .i64<=n/\n<=IntKind.max .i64) x.When/\(fun n=>IntKind.min .i64<=n/\n<=IntKind.max .i64) x.Who/\Zep x.Filter
def Z5h(x:Zaz):Prop:=(fun _=>True) x.Player/\(fun _=>True) x.Object/\Zep x.Filter
def Z8o(x:Zgn):Prop:=(fun n=>IntKind.min .i64<=n/\n<=IntKind.max .i64) x.Kind/\(fun n=>IntKind.min .i64<=n/\n<=IntKind.max .i64) x.N/\Zep x.Filter
def Zyg(x:Zbi):Prop:=(fun n=>IntKind.min .i64<=n/\n<=IntKind.max .i64) x.Kind/\(fun n=>IntKind.min .i64<=n/\n<=IntKind.max .i64) x.N/\(fun n=>IntKind.min .i64<=n/\n<=IntKind.max .i64) x.Counter/\Zep x.Filter
def Zyh(x:Zs):Prop:=(fun n=>IntKind.min .i64<=n/\n<=IntKind.max .i64) x.Op/\Z8o x.Ref/\Zyg x.Amount/\(fun n=>IntKind.min .i64<=n/\n<=IntKind.max .i64) x.Counter/\(fun n=>IntKind.min .i64<=n/\n<=IntKind.max .i64) x.Zone/\(fun s=>s.length<=reachBytes) x.Card/\Zep x.Filter/\(OkA6 (fun n=>IntKind.min .i64<=n/\n<=IntKind.max .i64)) x.Pool/\(OkL 176 Zt7) x.Mods
def Zvm(x:Za1):Prop:=(fun n=>IntKind.min .i64<=n/\n<=IntKind.max .i64) x.On/\(fun n=>IntKind.min .i64<=n/\n<=IntKind.max .i64) x.Who/\Zep x.Filter/\(fun n=>IntKind.min .i64<=n/\n<=IntKind.max .i64) x.Do/\(fun n=>IntKind.min .i64<=n/\n<=IntKind.max .i64) x.N/\(fun n=>IntKind.min .i64<=n/\n<=IntKind.max .i64) x.Zone/\(fun n=>IntKind.min .i64<=n/\n<=IntKind.max .i64) x.Counter
def Zma(x:Zd):Prop:=(fun n=>IntKind.min .i64<=n/\n<=IntKind.max .i64) x.Kind/\Zep x.Filter/\(OkL 176 Zt7) x.Mods/\Zadm x.Price/\(fun _=>True) x.Slow/\Zvl x.Trigger/\(fun _=>True) x.May/\(OkL 144 Z5h) x.Specs/\(OkL 560 Zyh) x.Effects/\Zvm x.Replace
def Zah4(x:Zl):Prop:=(fun s=>s.length<=reachBytes) x.Name/\(fun _=>True) x.Token/\Z5f x.Cost/\(fun n=>IntKind.min .i64<=n/\n<=IntKind.max .i64) x.Color/\Z5g x.Line/\(fun n=>IntKind.min .i64<=n/\n<=IntKind.max .i64) x.Power/\(fun n=>IntKind.min .i64<=n/\n<=IntKind.max .i64) x.Tough/\(fun n=>IntKind.min .i64<=n/\n<=IntKind.max .i64) x.Keys/\(OkL 640 Zma) x.Abilities
def Zyi(x:Zkg):Prop:=(fun n=>IntKind.min .i64<=n/\n<=IntKind.max .i64) x.Life/\(fun n=>IntKind.min .i64<=n/\n<=IntKind.max .i64) x.Venom/\(fun n=>IntKind.min .i64<=n/\n<=IntKind.max .i64) x.Lands/\(OkA6 (fun n=>IntKind.min .i64<=n/\n<=IntKind.max .i64)) x.Pool/\(fun _=>True) x.Failed/\(fun _=>True) x.Lost/\(OkL 8 (fun n=>IntKind.min .i64<=n/\n<=IntKind.max .i64)) x.Library/\(OkL 8 (fun n=>IntKind.min .i64<=n/\n<=IntKind.max .i64)) x.Hand/\(OkL 8 (fun n=>IntKind.min .i64<=n/\n<=IntKind.max .i64)) x.Graveyard
def Zaah(x:Zf):Prop:=(fun n=>IntKind.min .i64<=n/\n<=IntKind.max .i64) x.Id/\(fun n=>IntKind.min .i64<=n/\n<=IntKind.max .i64) x.Card/\(fun n=>IntKind.min .i64<=n/\n<=IntKind.max .i64) x.Owner/\(fun n=>IntKind.min .i64<=n/\n<=IntKind.max .i64) x.Control/\(fun n=>IntKind.min .i64<=n/\n<=IntKind.max .i64) x.Zone/\(fun _=>True) x.Token/\(fun _=>True) x.Tapped/\(fun _=>True) x.Sick/\(fun _=>True) x.Deadly/\(fun n=>IntKind.min .i64<=n/\n<=IntKind.max .i64) x.Damage/\(OkA3 (fun n=>IntKind.min .i64<=n/\n<=IntKind.max .i64)) x.Counters/\(fun n=>IntKind.min .i64<=n/\n<=IntKind.max .i64) x.Stamp/\(fun n=>IntKind.min .i64<=n/\n<=IntKind.max .i64) x.Copy/\(fun n=>IntKind.min .i64<=n/\n<=IntKind.max .i64) x.Attack/\(fun _=>True) x.Blocked/\(fun n=>IntKind.min .i64<=n/\n<=IntKind.max .i64) x.Blocks/\(fun n=>IntKind.min .i64<=n/\n<=IntKind.max .i64) x.Shield
def Zaai(x:Ztc):Prop:=(fun n=>IntKind.min .i64<=n/\n<=IntKind.max .i64) x.Object/\(fun n=>IntKind.min .i64<=n/\n<=IntKind.max .i64) x.Player
def Z1q(x:Z2s):Prop:=(fun n=>IntKind.min .i64<=n/\n<=IntKind.max .i64) x.Kind/\(fun n=>IntKind.min .i64<=n/\n<=IntKind.max .i64) x.Source/\(fun n=>IntKind.min .i64<=n/\n<=IntKind.max .i64) x.Object/\(fun n=>IntKind.min .i64<=n/\n<=IntKind.max .i64) x.Player/\(fun n=>IntKind.min .i64<=n/\n<=IntKind.max .i64) x.Amount/\(fun n=>IntKind.min .i64<=n/\n<=IntKind.max .i64) x.From/\(fun n=>IntKind.min .i64<=n/\n<=IntKind.max .i64) x.To/\(fun n=>IntKind.min .i64<=n/\n<=IntKind.max .i64) x.Cause/\(fun n=>IntKind.min .i64<=n/\n<=IntKind.max .i64) x.Counter/\(fun n=>IntKind.min .i64<=n/\n<=IntKind.max .i64) x.Card/\(fun _=>True) x.Combat/\(fun _=>True) x.Tapped/\(OkA3 (fun n=>IntKind.min .i64<=n/\n<=IntKind.max .i64)) x.Extra
def Z5i(x:Zmv):Prop:=(fun n=>IntKind.min .i64<=n/\n<=IntKind.max .i64) x.Id/\(fun n=>IntKind.min .i64<=n/\n<=IntKind.max .i64) x.Kind/\(fun n=>IntKind.min .i64<=n/\n<=IntKind.max .i64) x.Source/\(fun n=>IntKind.min .i64<=n/\n<=IntKind.max .i64) x.Control/\(fun n=>IntKind.min .i64<=n/\n<=IntKind.max .i64) x.X/\(fun _=>True) x.Copy/\Zma x.Ability/\(OkL 16 Zaai) x.Targets/\Z1q x.Event
def Zvn(x:Zkx):Prop:=(fun n=>IntKind.min .i64<=n/\n<=IntKind.max .i64) x.Source/\(fun n=>IntKind.min .i64<=n/\n<=IntKind.max .i64) x.Control/\Zma x.Ability/\Z1q x.Event
def Z5j(x:Zc7):Prop:=(fun n=>IntKind.min .i64<=n/\n<=IntKind.max .i64) x.Stamp/\(fun n=>IntKind.min .i64<=n/\n<=IntKind.max .i64) x.Control/\(fun n=>IntKind.min .i64<=n/\n<=IntKind.max .i64) x.Source/\(fun n=>IntKind.min .i64<=n/\n<=IntKind.max .i64) x.Until/\(OkL 8 (fun n=>IntKind.min .i64<=n/\n<=IntKind.max .i64)) x.Objects/\(OkL 176 Zt7) x.Mods
def Zadn(x:Zm):Prop:=(OkL 152 Zyi) x.Players/\(OkL 128 Zaah) x.Objects/\(OkL 8 (fun n=>IntKind.min .i64<=n/\n<=IntKind.max .i64)) x.Battlefield/\(OkL 8 (fun n=>IntKind.min .i64<=n/\n<=IntKind.max .i64)) x.Exile/\(OkL 824 Z5i) x.Stack/\(OkL 768 Zvn) x.Waiting/\(OkL 80 Z5j) x.Conts/\(fun n=>IntKind.min .i64<=n/\n<=IntKind.max .i64) x.Turn/\(fun n=>IntKind.min .i64<=n/\n<=IntKind.max .i64) x.Active/\(fun n=>IntKind.min .i64<=n/\n<=IntKind.max .i64) x.Step/\(fun _=>True) x.Begun/\(fun n=>IntKind.min .i64<=n/\n<=IntKind.max .i64) x.Priority/\(fun n=>IntKind.min .i64<=n/\n<=IntKind.max .i64) x.Passes/\(fun n=>IntKind.min .i64<=n/\n<=IntKind.max .i64) x.NextId/\(fun n=>IntKind.min .i64<=n/\n<=IntKind.max .i64) x.NextStamp/\(fun n=>IntKind.min .u64<=n/\n<=IntKind.max .u64) x.Seed/\(OkL 8 (fun n=>IntKind.min .i64<=n/\n<=IntKind.max .i64)) x.Extra/\(fun n=>IntKind.min .i64<=n/\n<=IntKind.max .i64) x.Over/\(fun n=>IntKind.min .i64<=n/\n<=IntKind.max .i64) x.Winner
end Go.PW
