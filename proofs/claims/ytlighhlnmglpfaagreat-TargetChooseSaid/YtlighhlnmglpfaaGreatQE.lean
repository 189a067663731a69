import Derived.Test.YtlighhlnmglpfaaGreatPwS
import Derived.Test.YtlighhlnmglpfaaGreatQD
set_option linter.all false
set_option maxRecDepth 100000
namespace Go.PW
open Go.RowKit
theorem Za0a(x y:Zd)(r s:List Zn):Zar (Zcr x++r) (Zcr y++s)=(decide (x=y)&&Zar r s):=by
 obtain⟨x0,x1⟩:=x
 obtain⟨y0,y1⟩:=y
 simp only [Zcr,List.append_assoc,(Zaej .i64),Zd.mk.injEq,Bool.decide_and,Bool.and_assoc]
theorem Zav9(x y:Ze)(r s:List Zn):Zar (Zy x++r) (Zy y++s)=(decide (x=y)&&Zar r s):=by
 obtain⟨x0,x1,x2,x3,x4,x5,x6,x7,x8,x9,x10,x11,x12⟩:=x
 obtain⟨y0,y1,y2,y3,y4,y5,y6,y7,y8,y9,y10,y11,y12⟩:=y
 simp only [Zy,List.append_assoc,(Zaej .i64),Za0a,Zbi4,Ze.mk.injEq,Bool.decide_and,Bool.and_assoc]
theorem Zawa(x y:Zbn)(r s:List Zn):Zar (Zbc x++r) (Zbc y++s)=(decide (x=y)&&Zar r s):=by
 obtain⟨x0,x1,x2,x3⟩:=x
 obtain⟨y0,y1,y2,y3⟩:=y
 simp only [Zbc,List.append_assoc,(Zaej .i64),Zav9,Zbn.mk.injEq,Bool.decide_and,Bool.and_assoc]
theorem Zawb(x y:Zf)(r s:List Zn):Zar (Zo x++r) (Zo y++s)=(decide (x=y)&&Zar r s):=by
 obtain⟨x0,x1⟩:=x
 obtain⟨y0,y1⟩:=y
 simp only [Zo,List.append_assoc,(Zaej .i64),Zf.mk.injEq,Bool.decide_and,Bool.and_assoc]
theorem Zada(x y:Zf):Zar (Zo x) (Zo y)=decide (x=y):=Zaek Zawb x y
theorem Zawc(x y:Zi)(r s:List Zn):Zar (Zh x++r) (Zh y++s)=(decide (x=y)&&Zar r s):=by
 obtain⟨x0,x1,x2⟩:=x
 obtain⟨y0,y1,y2⟩:=y
 simp only [Zh,List.append_assoc,(Zaej .i64),Zi.mk.injEq,Bool.decide_and,Bool.and_assoc]
theorem Zqa(x y:Zi):Zar (Zh x) (Zh y)=decide (x=y):=Zaek Zawc x y
def Z7a(x:Z1):Prop:=(fun n=>IntKind.min .i64≤n∧n≤IntKind.max .i64) x.Generic∧(fun n=>IntKind.min .i64≤n∧n≤IntKind.max .i64) x.X∧(OkA5 (fun n=>IntKind.min .i64≤n∧n≤IntKind.max .i64)) x.Color
def Z7b(x:Z8):Prop:=(fun n=>IntKind.min .i64≤n∧n≤IntKind.max .i64) x.Super∧(fun n=>IntKind.min .i64≤n∧n≤IntKind.max .i64) x.Types∧(OkL 16 (fun s=>s.length≤reachBytes)) x.Subs
def Zs3(x:Zd):Prop:=(fun n=>IntKind.min .i64≤n∧n≤IntKind.max .i64) x.Kind∧(fun n=>IntKind.min .i64≤n∧n≤IntKind.max .i64) x.N
def Zdw(x:Ze):Prop:=(fun n=>IntKind.min .i64≤n∧n≤IntKind.max .i64) x.Zone∧(fun n=>IntKind.min .i64≤n∧n≤IntKind.max .i64) x.Who∧(fun n=>IntKind.min .i64≤n∧n≤IntKind.max .i64) x.Self∧(fun n=>IntKind.min .i64≤n∧n≤IntKind.max .i64) x.Types∧(fun n=>IntKind.min .i64≤n∧n≤IntKind.max .i64) x.NotTypes∧(fun n=>IntKind.min .i64≤n∧n≤IntKind.max .i64) x.Colors∧(fun n=>IntKind.min .i64≤n∧n≤IntKind.max .i64) x.NotColors∧(fun s=>s.length≤reachBytes) x.Sub∧(fun n=>IntKind.min .i64≤n∧n≤IntKind.max .i64) x.Keys∧(fun n=>IntKind.min .i64≤n∧n≤IntKind.max .i64) x.Tap∧Zs3 x.Power∧Zs3 x.Tough∧Zs3 x.Value
def Zs4(x:Zz):Prop:=(fun n=>IntKind.min .i64≤n∧n≤IntKind.max .i64) x.Kind∧(fun n=>IntKind.min .i64≤n∧n≤IntKind.max .i64) x.N∧(fun n=>IntKind.min .i64≤n∧n≤IntKind.max .i64) x.M∧(fun s=>s.length≤reachBytes) x.Sub∧Zdw x.Filter
def Zahe(x:Zft):Prop:=Z7a x.Mana∧(fun _=>True) x.Tap∧(fun _=>True) x.Sacrifice∧(fun n=>IntKind.min .i64≤n∧n≤IntKind.max .i64) x.Life
def Zvc(x:Zce):Prop:=(fun n=>IntKind.min .i64≤n∧n≤IntKind.max .i64) x.When∧(fun n=>IntKind.min .i64≤n∧n≤IntKind.max .i64) x.Who∧Zdw x.Filter
def Zwe(x:Zr):Prop:=(fun _=>True) x.Player∧(fun _=>True) x.Object∧Zdw x.Filter
def Zaaz(x:Zed):Prop:=(fun n=>IntKind.min .i64≤n∧n≤IntKind.max .i64) x.Kind∧(fun n=>IntKind.min .i64≤n∧n≤IntKind.max .i64) x.N∧Zdw x.Filter
def Zyr(x:Zbn):Prop:=(fun n=>IntKind.min .i64≤n∧n≤IntKind.max .i64) x.Kind∧(fun n=>IntKind.min .i64≤n∧n≤IntKind.max .i64) x.N∧(fun n=>IntKind.min .i64≤n∧n≤IntKind.max .i64) x.Counter∧Zdw x.Filter
def Zys(x:Z9):Prop:=(fun n=>IntKind.min .i64≤n∧n≤IntKind.max .i64) x.Op∧Zaaz x.Ref∧Zyr x.Amount∧(fun n=>IntKind.min .i64≤n∧n≤IntKind.max .i64) x.Counter∧(fun n=>IntKind.min .i64≤n∧n≤IntKind.max .i64) x.Zone∧(fun s=>s.length≤reachBytes) x.Card∧Zdw x.Filter∧(OkA6 (fun n=>IntKind.min .i64≤n∧n≤IntKind.max .i64)) x.Pool∧(OkL 176 Zs4) x.Mods
def Zvd(x:Za6):Prop:=(fun n=>IntKind.min .i64≤n∧n≤IntKind.max .i64) x.On∧(fun n=>IntKind.min .i64≤n∧n≤IntKind.max .i64) x.Who∧Zdw x.Filter∧(fun n=>IntKind.min .i64≤n∧n≤IntKind.max .i64) x.Do∧(fun n=>IntKind.min .i64≤n∧n≤IntKind.max .i64) x.N∧(fun n=>IntKind.min .i64≤n∧n≤IntKind.max .i64) x.Zone∧(fun n=>IntKind.min .i64≤n∧n≤IntKind.max .i64) x.Counter
def Zjn(x:Zt):Prop:=(fun n=>IntKind.min .i64≤n∧n≤IntKind.max .i64) x.Kind∧Zdw x.Filter∧(OkL 176 Zs4) x.Mods∧Zahe x.Price∧(fun _=>True) x.Slow∧Zvc x.Trigger∧(fun _=>True) x.May∧(OkL 144 Zwe) x.Specs∧(OkL 560 Zys) x.Effects∧Zvd x.Replace
def Zal9(x:Zq):Prop:=(fun s=>s.length≤reachBytes) x.Name∧(fun _=>True) x.Token∧Z7a x.Cost∧(fun n=>IntKind.min .i64≤n∧n≤IntKind.max .i64) x.Color∧Z7b x.Line∧(fun n=>IntKind.min .i64≤n∧n≤IntKind.max .i64) x.Power∧(fun n=>IntKind.min .i64≤n∧n≤IntKind.max .i64) x.Tough∧(fun n=>IntKind.min .i64≤n∧n≤IntKind.max .i64) x.Keys∧(OkL 640 Zjn) x.Abilities
def Zyt(x:Za2):Prop:=(fun n=>IntKind.min .i64≤n∧n≤IntKind.max .i64) x.Life∧(fun n=>IntKind.min .i64≤n∧n≤IntKind.max .i64) x.Venom∧(fun n=>IntKind.min .i64≤n∧n≤IntKind.max .i64) x.Lands∧(OkA6 (fun n=>IntKind.min .i64≤n∧n≤IntKind.max .i64)) x.Pool∧(fun _=>True) x.Failed∧(fun _=>True) x.Lost∧(OkL 8 (fun n=>IntKind.min .i64≤n∧n≤IntKind.max .i64)) x.Library∧(OkL 8 (fun n=>IntKind.min .i64≤n∧n≤IntKind.max .i64)) x.Hand∧(OkL 8 (fun n=>IntKind.min .i64≤n∧n≤IntKind.max .i64)) x.Graveyard
def Zadb(x:Zl):Prop:=(fun n=>IntKind.min .i64≤n∧n≤IntKind.max .i64) x.Id∧(fun n=>IntKind.min .i64≤n∧n≤IntKind.max .i64) x.Card∧(fun n=>IntKind.min .i64≤n∧n≤IntKind.max .i64) x.Owner∧(fun n=>IntKind.min .i64≤n∧n≤IntKind.max .i64) x.Control∧(fun n=>IntKind.min .i64≤n∧n≤IntKind.max .i64) x.Zone∧(fun _=>True) x.Token∧(fun _=>True) x.Tapped∧(fun _=>True) x.Sick∧(fun _=>True) x.Deadly∧(fun n=>IntKind.min .i64≤n∧n≤IntKind.max .i64) x.Damage∧(OkA3 (fun n=>IntKind.min .i64≤n∧n≤IntKind.max .i64)) x.Counters∧(fun n=>IntKind.min .i64≤n∧n≤IntKind.max .i64) x.Stamp∧(fun n=>IntKind.min .i64≤n∧n≤IntKind.max .i64) x.Copy∧(fun n=>IntKind.min .i64≤n∧n≤IntKind.max .i64) x.Attack∧(fun _=>True) x.Blocked∧(fun n=>IntKind.min .i64≤n∧n≤IntKind.max .i64) x.Blocks∧(fun n=>IntKind.min .i64≤n∧n≤IntKind.max .i64) x.Shield
def Zqb(x:Zf):Prop:=(fun n=>IntKind.min .i64≤n∧n≤IntKind.max .i64) x.Object∧(fun n=>IntKind.min .i64≤n∧n≤IntKind.max .i64) x.Player
def Zs5(x:Zh1):Prop:=(fun n=>IntKind.min .i64≤n∧n≤IntKind.max .i64) x.Kind∧(fun n=>IntKind.min .i64≤n∧n≤IntKind.max .i64) x.Source∧(fun n=>IntKind.min .i64≤n∧n≤IntKind.max .i64) x.Object∧(fun n=>IntKind.min .i64≤n∧n≤IntKind.max .i64) x.Player∧(fun n=>IntKind.min .i64≤n∧n≤IntKind.max .i64) x.Amount∧(fun n=>IntKind.min .i64≤n∧n≤IntKind.max .i64) x.From∧(fun n=>IntKind.min .i64≤n∧n≤IntKind.max .i64) x.To∧(fun n=>IntKind.min .i64≤n∧n≤IntKind.max .i64) x.Cause∧(fun n=>IntKind.min .i64≤n∧n≤IntKind.max .i64) x.Counter∧(fun n=>IntKind.min .i64≤n∧n≤IntKind.max .i64) x.Card∧(fun _=>True) x.Combat∧(fun _=>True) x.Tapped∧(OkA3 (fun n=>IntKind.min .i64≤n∧n≤IntKind.max .i64)) x.Extra
def Z7c(x:Zdg):Prop:=(fun n=>IntKind.min .i64≤n∧n≤IntKind.max .i64) x.Id∧(fun n=>IntKind.min .i64≤n∧n≤IntKind.max .i64) x.Kind∧(fun n=>IntKind.min .i64≤n∧n≤IntKind.max .i64) x.Source∧(fun n=>IntKind.min .i64≤n∧n≤IntKind.max .i64) x.Control∧(fun n=>IntKind.min .i64≤n∧n≤IntKind.max .i64) x.X∧(fun _=>True) x.Copy∧Zjn x.Ability∧(OkL 16 Zqb) x.Targets∧Zs5 x.Event
def Zve(x:Zc0):Prop:=(fun n=>IntKind.min .i64≤n∧n≤IntKind.max .i64) x.Source∧(fun n=>IntKind.min .i64≤n∧n≤IntKind.max .i64) x.Control∧Zjn x.Ability∧Zs5 x.Event
def Z7d(x:Ze4):Prop:=(fun n=>IntKind.min .i64≤n∧n≤IntKind.max .i64) x.Stamp∧(fun n=>IntKind.min .i64≤n∧n≤IntKind.max .i64) x.Control∧(fun n=>IntKind.min .i64≤n∧n≤IntKind.max .i64) x.Source∧(fun n=>IntKind.min .i64≤n∧n≤IntKind.max .i64) x.Until∧(OkL 8 (fun n=>IntKind.min .i64≤n∧n≤IntKind.max .i64)) x.Objects∧(OkL 176 Zs4) x.Mods
def Zahf(x:Zb):Prop:=(OkL 152 Zyt) x.Players∧(OkL 128 Zadb) x.Objects∧(OkL 8 (fun n=>IntKind.min .i64≤n∧n≤IntKind.max .i64)) x.Battlefield∧(OkL 8 (fun n=>IntKind.min .i64≤n∧n≤IntKind.max .i64)) x.Exile∧(OkL 824 Z7c) x.Stack∧(OkL 768 Zve) x.Waiting∧(OkL 80 Z7d) x.Conts∧(fun n=>IntKind.min .i64≤n∧n≤IntKind.max .i64) x.Turn∧(fun n=>IntKind.min .i64≤n∧n≤IntKind.max .i64) x.Active∧(fun n=>IntKind.min .i64≤n∧n≤IntKind.max .i64) x.Step∧(fun _=>True) x.Begun∧(fun n=>IntKind.min .i64≤n∧n≤IntKind.max .i64) x.Priority∧(fun n=>IntKind.min .i64≤n∧n≤IntKind.max .i64) x.Passes∧(fun n=>IntKind.min .i64≤n∧n≤IntKind.max .i64) x.NextId∧(fun n=>IntKind.min .i64≤n∧n≤IntKind.max .i64) x.NextStamp∧(fun n=>IntKind.min .u64≤n∧n≤IntKind.max .u64) x.Seed∧(OkL 8 (fun n=>IntKind.min .i64≤n∧n≤IntKind.max .i64)) x.Extra∧(fun n=>IntKind.min .i64≤n∧n≤IntKind.max .i64) x.Over∧(fun n=>IntKind.min .i64≤n∧n≤IntKind.max .i64) x.Winner
def Zvf(x:Zj):Prop:=(fun n=>IntKind.min .i64≤n∧n≤IntKind.max .i64) x.You∧(fun n=>IntKind.min .i64≤n∧n≤IntKind.max .i64) x.Source∧(fun n=>IntKind.min .i64≤n∧n≤IntKind.max .i64) x.X∧(OkL 16 Zqb) x.Targets∧Zs5 x.Event
def Zp0(x:Z0):Prop:=Zvf x.Ctx∧(OkL 144 Zwe) x.Specs∧(OkL 16 Zqb) x.Targets∧(OkL 24 (OkL 8 (fun n=>IntKind.min .i64≤n∧n≤IntKind.max .i64))) x.Answers
end Go.PW
