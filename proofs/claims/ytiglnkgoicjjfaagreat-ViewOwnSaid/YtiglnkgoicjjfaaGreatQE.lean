import Derived.Test.YtiglnkgoicjjfaaGreatPwY
import Derived.Test.YtiglnkgoicjjfaaGreatQD
set_option linter.all false
set_option maxRecDepth 100000
namespace Go.PW
open Go.RowKit
theorem Zao7(x y:Zbz)(r s:List Zb):Z2 (Zb2 x++r) (Zb2 y++s)=(decide (x=y)&&Z2 r s):=by
 obtain⟨x0,x1,x2⟩:=x
 obtain⟨y0,y1,y2⟩:=y
 simp only [Zb2,List.append_assoc,Zazo (Zi0 .i64),Zi0 .i64,Zbz.mk.injEq,Bool.decide_and,Bool.and_assoc]
theorem Zakb(x y:Zg)(r s:List Zb):Z2 (Zgy x++r) (Zgy y++s)=(decide (x=y)&&Z2 r s):=by
 obtain⟨x0,x1⟩:=x
 obtain⟨y0,y1⟩:=y
 simp only [Zgy,List.append_assoc,Zi0 .i64,Zg.mk.injEq,Bool.decide_and,Bool.and_assoc]
theorem Zin(x y:Zn)(r s:List Zb):Z2 (Zy x++r) (Zy y++s)=(decide (x=y)&&Z2 r s):=by
 obtain⟨x0,x1,x2,x3,x4,x5,x6,x7,x8,x9,x10,x11,x12⟩:=x
 obtain⟨y0,y1,y2,y3,y4,y5,y6,y7,y8,y9,y10,y11,y12⟩:=y
 simp only [Zy,List.append_assoc,Zi0 .i64,Zakb,Zavt,Zn.mk.injEq,Bool.decide_and,Bool.and_assoc]
theorem Zp5(x y:Zn):Z2 (Zy x) (Zy y)=decide (x=y):=Zha Zin x y
theorem Zara(x y:Zq)(r s:List Zb):Z2 (Zk x++r) (Zk y++s)=(decide (x=y)&&Z2 r s):=by
 obtain⟨x0,x1,x2,x3,x4⟩:=x
 obtain⟨y0,y1,y2,y3,y4⟩:=y
 simp only [Zk,List.append_assoc,Zi0 .i64,Zin,Zavt,Zq.mk.injEq,Bool.decide_and,Bool.and_assoc]
theorem Z45(x y:Zq):Z2 (Zk x) (Zk y)=decide (x=y):=Zha Zara x y
theorem Zakc(x y:Zh6)(r s:List Zb):Z2 (Zei x++r) (Zei y++s)=(decide (x=y)&&Z2 r s):=by
 obtain⟨x0,x1,x2,x3⟩:=x
 obtain⟨y0,y1,y2,y3⟩:=y
 simp only [Zei,List.append_assoc,Zi0 .i64,Zao7,Zaeo,Zh6.mk.injEq,Bool.decide_and,Bool.and_assoc]
theorem Z8k(x y:Zh6):Z2 (Zei x) (Zei y)=decide (x=y):=Zha Zakc x y
theorem Zago(x y:Zd0)(r s:List Zb):Z2 (Zcz x++r) (Zcz y++s)=(decide (x=y)&&Z2 r s):=by
 obtain⟨x0,x1,x2⟩:=x
 obtain⟨y0,y1,y2⟩:=y
 simp only [Zcz,List.append_assoc,Zi0 .i64,Zin,Zd0.mk.injEq,Bool.decide_and,Bool.and_assoc]
theorem Z3n(x y:Zd0):Z2 (Zcz x) (Zcz y)=decide (x=y):=Zha Zago x y
theorem Zao8(x y:Zbp)(r s:List Zb):Z2 (Z7 x++r) (Z7 y++s)=(decide (x=y)&&Z2 r s):=by
 obtain⟨x0,x1,x2⟩:=x
 obtain⟨y0,y1,y2⟩:=y
 simp only [Z7,List.append_assoc,Zin,Zaeo,Zbp.mk.injEq,Bool.decide_and,Bool.and_assoc]
theorem Zabl(x y:Zbp):Z2 (Z7 x) (Z7 y)=decide (x=y):=Zha Zao8 x y
theorem Zarb(x y:Zgw)(r s:List Zb):Z2 (Zeh x++r) (Zeh y++s)=(decide (x=y)&&Z2 r s):=by
 obtain⟨x0,x1,x2⟩:=x
 obtain⟨y0,y1,y2⟩:=y
 simp only [Zeh,List.append_assoc,Zi0 .i64,Zin,Zgw.mk.injEq,Bool.decide_and,Bool.and_assoc]
theorem Zagp(x y:Zgw):Z2 (Zeh x) (Zeh y)=decide (x=y):=Zha Zarb x y
theorem Zaig(x y:Zdt)(r s:List Zb):Z2 (Zbn x++r) (Zbn y++s)=(decide (x=y)&&Z2 r s):=by
 obtain⟨x0,x1,x2,x3⟩:=x
 obtain⟨y0,y1,y2,y3⟩:=y
 simp only [Zbn,List.append_assoc,Zi0 .i64,Zin,Zdt.mk.injEq,Bool.decide_and,Bool.and_assoc]
theorem Z51(x y:Zdt):Z2 (Zbn x) (Zbn y)=decide (x=y):=Zha Zaig x y
theorem Zagq(x y:Zbx)(r s:List Zb):Z2 (Zb8 x++r) (Zb8 y++s)=(decide (x=y)&&Z2 r s):=by
 obtain⟨x0,x1,x2,x3,x4,x5,x6⟩:=x
 obtain⟨y0,y1,y2,y3,y4,y5,y6⟩:=y
 simp only [Zb8,List.append_assoc,Zi0 .i64,Zin,Zbx.mk.injEq,Bool.decide_and,Bool.and_assoc]
theorem Z3o(x y:Zbx):Z2 (Zb8 x) (Zb8 y)=decide (x=y):=Zha Zagq x y
theorem Zaih(x y:Zp)(r s:List Zb):Z2 (Zc x++r) (Zc y++s)=(decide (x=y)&&Z2 r s):=by
 obtain⟨x0,x1,x2,x3,x4,x5,x6,x7,x8,x9,x10,x11,x12,x13,x14,x15,x16⟩:=x
 obtain⟨y0,y1,y2,y3,y4,y5,y6,y7,y8,y9,y10,y11,y12,y13,y14,y15,y16⟩:=y
 simp only [Zc,List.append_assoc,Zasb (Zi0 .i64),Zi0 .i64,Zaeo,Zp.mk.injEq,Bool.decide_and,Bool.and_assoc]
theorem Z52(x y:Zp):Z2 (Zc x) (Zc y)=decide (x=y):=Zha Zaih x y
theorem Zaii(x y:Zbj)(r s:List Zb):Z2 (Zaa x++r) (Zaa y++s)=(decide (x=y)&&Z2 r s):=by
 obtain⟨x0,x1⟩:=x
 obtain⟨y0,y1⟩:=y
 simp only [Zaa,List.append_assoc,Zi0 .i64,Zbj.mk.injEq,Bool.decide_and,Bool.and_assoc]
theorem Z53(x y:Zbj):Z2 (Zaa x) (Zaa y)=decide (x=y):=Zha Zaii x y
theorem Zakd(x y:Zne)(r s:List Zb):Z2 (Zdm x++r) (Zdm y++s)=(decide (x=y)&&Z2 r s):=by
 obtain⟨x0,x1,x2,x3,x4,x5,x6,x7,x8,x9,x10,x11,x12⟩:=x
 obtain⟨y0,y1,y2,y3,y4,y5,y6,y7,y8,y9,y10,y11,y12⟩:=y
 simp only [Zdm,List.append_assoc,Zasb (Zi0 .i64),Zi0 .i64,Zaeo,Zne.mk.injEq,Bool.decide_and,Bool.and_assoc]
theorem Zse(x y:Zne):Z2 (Zdm x) (Zdm y)=decide (x=y):=Zha Zakd x y
theorem Zaij(x y:Zaf)(r s:List Zb):Z2 (Zl x++r) (Zl y++s)=(decide (x=y)&&Z2 r s):=by
 obtain⟨x0,x1,x2⟩:=x
 obtain⟨y0,y1,y2⟩:=y
 simp only [Zl,List.append_assoc,Zi0 .i64,Zaf.mk.injEq,Bool.decide_and,Bool.and_assoc]
theorem Z54(x y:Zaf):Z2 (Zl x) (Zl y)=decide (x=y):=Zha Zaij x y
def Z2e(x:Zbz):Prop:=(fun n=>IntKind.min .i64<=n/\n<=IntKind.max .i64) x.Generic/\(fun n=>IntKind.min .i64<=n/\n<=IntKind.max .i64) x.X/\(OkA5 (fun n=>IntKind.min .i64<=n/\n<=IntKind.max .i64)) x.Color
def Z2f(x:Zki):Prop:=(fun n=>IntKind.min .i64<=n/\n<=IntKind.max .i64) x.Super/\(fun n=>IntKind.min .i64<=n/\n<=IntKind.max .i64) x.Types/\(OkL 16 (fun s=>s.length<=reachBytes)) x.Subs
def Zsf(x:Zg):Prop:=(fun n=>IntKind.min .i64<=n/\n<=IntKind.max .i64) x.Kind/\(fun n=>IntKind.min .i64<=n/\n<=IntKind.max .i64) x.N
def Zgd(x:Zn):Prop:=(fun n=>IntKind.min .i64<=n/\n<=IntKind.max .i64) x.Zone/\(fun n=>IntKind.min .i64<=n/\n<=IntKind.max .i64) x.Who/\(fun n=>IntKind.min .i64<=n/\n<=IntKind.max .i64) x.Self/\(fun n=>IntKind.min .i64<=n/\n<=IntKind.max .i64) x.Types/\(fun n=>IntKind.min .i64<=n/\n<=IntKind.max .i64) x.NotTypes/\(fun n=>IntKind.min .i64<=n/\n<=IntKind.max .i64) x.Colors/\(fun n=>IntKind.min .i64<=n/\n<=IntKind.max .i64) x.NotColors/\(fun s=>s.length<=reachBytes) x.Sub/\(fun n=>IntKind.min .i64<=n/\n<=IntKind.max .i64) x.Keys/\(fun n=>IntKind.min .i64<=n/\n<=IntKind.max .i64) x.Tap/\Zsf x.Power/\Zsf x.Tough/\Zsf x.Value
def Zsg(x:Zq):Prop:=(fun n=>IntKind.min .i64<=n/\n<=IntKind.max .i64) x.Kind/\(fun n=>IntKind.min .i64<=n/\n<=IntKind.max .i64) x.N/\(fun n=>IntKind.min .i64<=n/\n<=IntKind.max .i64) x.M/\(fun s=>s.length<=reachBytes) x.Sub/\Zgd x.Filter
def Z8l(x:Zh6):Prop:=Z2e x.Mana/\(fun _=>True) x.Tap/\(fun _=>True) x.Sacrifice/\(fun n=>IntKind.min .i64<=n/\n<=IntKind.max .i64) x.Life
def Ztv(x:Zd0):Prop:=(fun n=>IntKind.min .i64<=n/\n<=IntKind.max .i64) x.When/\(fun n=>IntKind.min .i64<=n/\n<=IntKind.max .i64) x.Who/\Zgd x.Filter
def Z2g(x:Zbp):Prop:=(fun _=>True) x.Player/\(fun _=>True) x.Object/\Zgd x.Filter
def Z46(x:Zgw):Prop:=(fun n=>IntKind.min .i64<=n/\n<=IntKind.max .i64) x.Kind/\(fun n=>IntKind.min .i64<=n/\n<=IntKind.max .i64) x.N/\Zgd x.Filter
def Zwd(x:Zdt):Prop:=(fun n=>IntKind.min .i64<=n/\n<=IntKind.max .i64) x.Kind/\(fun n=>IntKind.min .i64<=n/\n<=IntKind.max .i64) x.N/\(fun n=>IntKind.min .i64<=n/\n<=IntKind.max .i64) x.Counter/\Zgd x.Filter
def Zwe(x:Zv):Prop:=(fun n=>IntKind.min .i64<=n/\n<=IntKind.max .i64) x.Op/\Z46 x.Ref/\Zwd x.Amount/\(fun n=>IntKind.min .i64<=n/\n<=IntKind.max .i64) x.Counter/\(fun n=>IntKind.min .i64<=n/\n<=IntKind.max .i64) x.Zone/\(fun s=>s.length<=reachBytes) x.Card/\Zgd x.Filter/\(OkA6 (fun n=>IntKind.min .i64<=n/\n<=IntKind.max .i64)) x.Pool/\(OkL 176 Zsg) x.Mods
def Ztw(x:Zbx):Prop:=(fun n=>IntKind.min .i64<=n/\n<=IntKind.max .i64) x.On/\(fun n=>IntKind.min .i64<=n/\n<=IntKind.max .i64) x.Who/\Zgd x.Filter/\(fun n=>IntKind.min .i64<=n/\n<=IntKind.max .i64) x.Do/\(fun n=>IntKind.min .i64<=n/\n<=IntKind.max .i64) x.N/\(fun n=>IntKind.min .i64<=n/\n<=IntKind.max .i64) x.Zone/\(fun n=>IntKind.min .i64<=n/\n<=IntKind.max .i64) x.Counter
def Zk3(x:Zs):Prop:=(fun n=>IntKind.min .i64<=n/\n<=IntKind.max .i64) x.Kind/\Zgd x.Filter/\(OkL 176 Zsg) x.Mods/\Z8l x.Price/\(fun _=>True) x.Slow/\Ztv x.Trigger/\(fun _=>True) x.May/\(OkL 144 Z2g) x.Specs/\(OkL 560 Zwe) x.Effects/\Ztw x.Replace
def Z2h(x:Zai):Prop:=(fun s=>s.length<=reachBytes) x.Name/\(fun _=>True) x.Token/\Z2e x.Cost/\(fun n=>IntKind.min .i64<=n/\n<=IntKind.max .i64) x.Color/\Z2f x.Line/\(fun n=>IntKind.min .i64<=n/\n<=IntKind.max .i64) x.Power/\(fun n=>IntKind.min .i64<=n/\n<=IntKind.max .i64) x.Tough/\(fun n=>IntKind.min .i64<=n/\n<=IntKind.max .i64) x.Keys/\(OkL 640 Zk3) x.Abilities
def Zwf(x:Z5):Prop:=(fun n=>IntKind.min .i64<=n/\n<=IntKind.max .i64) x.Life/\(fun n=>IntKind.min .i64<=n/\n<=IntKind.max .i64) x.Venom/\(fun n=>IntKind.min .i64<=n/\n<=IntKind.max .i64) x.Lands/\(OkA6 (fun n=>IntKind.min .i64<=n/\n<=IntKind.max .i64)) x.Pool/\(fun _=>True) x.Failed/\(fun _=>True) x.Lost/\(OkL 8 (fun n=>IntKind.min .i64<=n/\n<=IntKind.max .i64)) x.Library/\(OkL 8 (fun n=>IntKind.min .i64<=n/\n<=IntKind.max .i64)) x.Hand/\(OkL 8 (fun n=>IntKind.min .i64<=n/\n<=IntKind.max .i64)) x.Graveyard
def Z55(x:Zp):Prop:=(fun n=>IntKind.min .i64<=n/\n<=IntKind.max .i64) x.Id/\(fun n=>IntKind.min .i64<=n/\n<=IntKind.max .i64) x.Card/\(fun n=>IntKind.min .i64<=n/\n<=IntKind.max .i64) x.Owner/\(fun n=>IntKind.min .i64<=n/\n<=IntKind.max .i64) x.Control/\(fun n=>IntKind.min .i64<=n/\n<=IntKind.max .i64) x.Zone/\(fun _=>True) x.Token/\(fun _=>True) x.Tapped/\(fun _=>True) x.Sick/\(fun _=>True) x.Deadly/\(fun n=>IntKind.min .i64<=n/\n<=IntKind.max .i64) x.Damage/\(OkA3 (fun n=>IntKind.min .i64<=n/\n<=IntKind.max .i64)) x.Counters/\(fun n=>IntKind.min .i64<=n/\n<=IntKind.max .i64) x.Stamp/\(fun n=>IntKind.min .i64<=n/\n<=IntKind.max .i64) x.Copy/\(fun n=>IntKind.min .i64<=n/\n<=IntKind.max .i64) x.Attack/\(fun _=>True) x.Blocked/\(fun n=>IntKind.min .i64<=n/\n<=IntKind.max .i64) x.Blocks/\(fun n=>IntKind.min .i64<=n/\n<=IntKind.max .i64) x.Shield
def Z56(x:Zbj):Prop:=(fun n=>IntKind.min .i64<=n/\n<=IntKind.max .i64) x.Object/\(fun n=>IntKind.min .i64<=n/\n<=IntKind.max .i64) x.Player
def Zzc(x:Zne):Prop:=(fun n=>IntKind.min .i64<=n/\n<=IntKind.max .i64) x.Kind/\(fun n=>IntKind.min .i64<=n/\n<=IntKind.max .i64) x.Source/\(fun n=>IntKind.min .i64<=n/\n<=IntKind.max .i64) x.Object/\(fun n=>IntKind.min .i64<=n/\n<=IntKind.max .i64) x.Player/\(fun n=>IntKind.min .i64<=n/\n<=IntKind.max .i64) x.Amount/\(fun n=>IntKind.min .i64<=n/\n<=IntKind.max .i64) x.From/\(fun n=>IntKind.min .i64<=n/\n<=IntKind.max .i64) x.To/\(fun n=>IntKind.min .i64<=n/\n<=IntKind.max .i64) x.Cause/\(fun n=>IntKind.min .i64<=n/\n<=IntKind.max .i64) x.Counter/\(fun n=>IntKind.min .i64<=n/\n<=IntKind.max .i64) x.Card/\(fun _=>True) x.Combat/\(fun _=>True) x.Tapped/\(OkA3 (fun n=>IntKind.min .i64<=n/\n<=IntKind.max .i64)) x.Extra
def Z2i(x:Zal):Prop:=(fun n=>IntKind.min .i64<=n/\n<=IntKind.max .i64) x.Id/\(fun n=>IntKind.min .i64<=n/\n<=IntKind.max .i64) x.Kind/\(fun n=>IntKind.min .i64<=n/\n<=IntKind.max .i64) x.Source/\(fun n=>IntKind.min .i64<=n/\n<=IntKind.max .i64) x.Control/\(fun n=>IntKind.min .i64<=n/\n<=IntKind.max .i64) x.X/\(fun _=>True) x.Copy/\Zk3 x.Ability/\(OkL 16 Z56) x.Targets/\Zzc x.Event
def Ztx(x:Zab):Prop:=(fun n=>IntKind.min .i64<=n/\n<=IntKind.max .i64) x.Source/\(fun n=>IntKind.min .i64<=n/\n<=IntKind.max .i64) x.Control/\Zk3 x.Ability/\Zzc x.Event
def Z2j(x:Za1):Prop:=(fun n=>IntKind.min .i64<=n/\n<=IntKind.max .i64) x.Stamp/\(fun n=>IntKind.min .i64<=n/\n<=IntKind.max .i64) x.Control/\(fun n=>IntKind.min .i64<=n/\n<=IntKind.max .i64) x.Source/\(fun n=>IntKind.min .i64<=n/\n<=IntKind.max .i64) x.Until/\(OkL 8 (fun n=>IntKind.min .i64<=n/\n<=IntKind.max .i64)) x.Objects/\(OkL 176 Zsg) x.Mods
def Zsh(x:Za):Prop:=(OkL 152 Zwf) x.Players/\(OkL 128 Z55) x.Objects/\(OkL 8 (fun n=>IntKind.min .i64<=n/\n<=IntKind.max .i64)) x.Battlefield/\(OkL 8 (fun n=>IntKind.min .i64<=n/\n<=IntKind.max .i64)) x.Exile/\(OkL 824 Z2i) x.Stack/\(OkL 768 Ztx) x.Waiting/\(OkL 80 Z2j) x.Conts/\(fun n=>IntKind.min .i64<=n/\n<=IntKind.max .i64) x.Turn/\(fun n=>IntKind.min .i64<=n/\n<=IntKind.max .i64) x.Active/\(fun n=>IntKind.min .i64<=n/\n<=IntKind.max .i64) x.Step/\(fun _=>True) x.Begun/\(fun n=>IntKind.min .i64<=n/\n<=IntKind.max .i64) x.Priority/\(fun n=>IntKind.min .i64<=n/\n<=IntKind.max .i64) x.Passes/\(fun n=>IntKind.min .i64<=n/\n<=IntKind.max .i64) x.NextId/\(fun n=>IntKind.min .i64<=n/\n<=IntKind.max .i64) x.NextStamp/\(fun n=>IntKind.min .u64<=n/\n<=IntKind.max .u64) x.Seed/\(OkL 8 (fun n=>IntKind.min .i64<=n/\n<=IntKind.max .i64)) x.Extra/\(fun n=>IntKind.min .i64<=n/\n<=IntKind.max .i64) x.Over/\(fun n=>IntKind.min .i64<=n/\n<=IntKind.max .i64) x.Winner
def Z57(x:Zaf):Prop:=(fun n=>IntKind.min .i64<=n/\n<=IntKind.max .i64) x.Kind/\(fun n=>IntKind.min .i64<=n/\n<=IntKind.max .i64) x.A/\(fun n=>IntKind.min .i64<=n/\n<=IntKind.max .i64) x.B
def Zwg(x:Zbc):Prop:=(fun n=>IntKind.min .i64<=n/\n<=IntKind.max .i64) x.Kind/\(fun n=>IntKind.min .i64<=n/\n<=IntKind.max .i64) x.Player/\(fun n=>IntKind.min .i64<=n/\n<=IntKind.max .i64) x.Source/\(fun n=>IntKind.min .i64<=n/\n<=IntKind.max .i64) x.Least/\(fun n=>IntKind.min .i64<=n/\n<=IntKind.max .i64) x.Most/\(fun n=>IntKind.min .i64<=n/\n<=IntKind.max .i64) x.N/\(OkL 24 Z57) x.Options
def Zabm(x:Z6):Prop:=(OkL 176 Z2h) x.Cards/\Zsh x.State/\(OkL 24 (OkL 8 (fun n=>IntKind.min .i64<=n/\n<=IntKind.max .i64))) x.Answers/\Zwg x.Pending/\(fun n=>IntKind.min .i64<=n/\n<=IntKind.max .i64) x.Forced/\(OkL 280 Zsh) x.Seen
end Go.PW
