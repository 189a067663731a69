import Derived.Test.YtiglnkgoicjjfaaPwYi
import Derived.Test.YtiglnkgoicjjfaaProg
import Derived.KernelRfl
set_option linter.all false
set_option maxRecDepth 100000
namespace Go.PW
open Go.RowKit
abbrev By:=List UInt8
abbrev Bys:=List By
noncomputable abbrev PR:=Go.Proofs.Try.prog
abbrev zi:PV := .t (.int .i64 0)
abbrev zb:PV := .t (.bool false)
abbrev zs:PV := .t (.str [])
abbrev ki:LK := .i .i64
def T:TS:=[
 (3,⟨false,1,8,some [zi],.int .i64,none⟩),
 (4,⟨false,1,1,some [zb],.bool,none⟩),
 (9,⟨false,1,16,some [zs],.str,none⟩),
 (22,⟨false,1,24,some [.nils],.slice 80,none⟩),
 (23,⟨true,3,24,some [zi,zi,zi],.arr 3 3,some (30,[ki,ki,ki])⟩),
 (25,⟨true,19,128,some [zi,zi,zi,zi,zi,zb,zb,zb,zb,zi,zi,zi,zi,zi,zi,zi,zb,zi,zi],.struct [(0,3),(1,3),(2,3),(3,3),(4,3),(5,4),(6,4),(7,4),(8,4),(9,3),(10,23),(13,3),(14,3),(15,3),(16,4),(17,3),(18,3)],some (30,[ki,ki,ki,ki,ki,.b,.b,.b,.b,ki,ki,ki,ki,ki,ki,ki,.b,ki,ki])⟩),
 (27,⟨true,5,40,some [zi,zi,zi,zi,zi],.arr 5 3,some (30,[ki,ki,ki,ki,ki])⟩),
 (29,⟨true,7,56,some [zi,zi,zi,zi,zi,zi,zi],.struct [(0,3),(1,3),(2,27)],some (30,[ki,ki,ki,ki,ki,ki,ki])⟩),
 (30,⟨false,1,24,some [.nils],.slice 9,none⟩),
 (32,⟨true,3,40,some [zi,zi,.nils],.struct [(0,3),(1,3),(2,30)],none⟩),
 (33,⟨false,1,24,some [.nils],.slice 52,none⟩),
 (35,⟨true,17,176,some [zs,zi,zi,zi,zi,zi,zi,zi,zi,zi,zi,.nils,zi,zi,zi,.nils,zi],.struct [(0,9),(1,29),(8,3),(9,32),(12,3),(13,3),(14,3),(15,33),(16,3)],none⟩),
 (39,⟨true,2,16,some [zi,zi],.struct [(0,3),(1,3)],some (30,[ki,ki])⟩),
 (41,⟨true,16,136,some [zi,zi,zi,zi,zi,zi,zi,zs,zi,zi,zi,zi,zi,zi,zi,zi],.struct [(0,3),(1,3),(2,3),(3,3),(4,3),(5,3),(6,3),(7,9),(8,3),(9,3),(10,39),(12,39),(14,39)],some (30,[ki,ki,ki,ki,ki,ki,ki,.s,ki,ki,ki,ki,ki,ki,ki,ki])⟩),
 (42,⟨false,1,24,some [.nils],.slice 54,none⟩),
 (44,⟨true,10,72,some [zi,zi,zi,zi,zi,zi,zi,zb,zb,zi],.struct [(0,29),(7,4),(8,4),(9,3)],some (30,[ki,ki,ki,ki,ki,ki,ki,.b,.b,ki])⟩),
 (46,⟨true,18,152,some [zi,zi,zi,zi,zi,zi,zi,zi,zi,zs,zi,zi,zi,zi,zi,zi,zi,zi],.struct [(0,3),(1,3),(2,41)],some (30,[ki,ki,ki,ki,ki,ki,ki,ki,ki,.s,ki,ki,ki,ki,ki,ki,ki,ki])⟩),
 (47,⟨false,1,24,some [.nils],.slice 56,none⟩),
 (48,⟨false,1,24,some [.nils],.slice 64,none⟩),
 (50,⟨true,22,184,some [zi,zi,zi,zi,zi,zi,zi,zi,zi,zs,zi,zi,zi,zi,zi,zi,zi,zi,zi,zi,zi,zi],.struct [(0,3),(1,3),(2,41),(18,3),(19,3),(20,3),(21,3)],some (30,[ki,ki,ki,ki,ki,ki,ki,ki,ki,.s,ki,ki,ki,ki,ki,ki,ki,ki,ki,ki,ki,ki])⟩),
 (52,⟨true,72,640,some [zi,zi,zi,zi,zi,zi,zi,zi,zs,zi,zi,zi,zi,zi,zi,zi,zi,.nils,zi,zi,zi,zi,zi,zi,zi,zb,zb,zi,zb,zi,zi,zi,zi,zi,zi,zi,zi,zi,zs,zi,zi,zi,zi,zi,zi,zi,zi,zb,.nils,.nils,zi,zi,zi,zi,zi,zi,zi,zi,zi,zs,zi,zi,zi,zi,zi,zi,zi,zi,zi,zi,zi,zi],.struct [(0,3),(1,41),(17,42),(18,44),(28,4),(29,46),(47,4),(48,47),(49,48),(50,50)],none⟩),
 (54,⟨true,20,176,some [zi,zi,zi,zs,zi,zi,zi,zi,zi,zi,zi,zs,zi,zi,zi,zi,zi,zi,zi,zi],.struct [(0,3),(1,3),(2,3),(3,9),(4,41)],some (30,[ki,ki,ki,.s,ki,ki,ki,ki,ki,ki,ki,.s,ki,ki,ki,ki,ki,ki,ki,ki])⟩),
 (56,⟨true,18,144,some [zb,zb,zi,zi,zi,zi,zi,zi,zi,zs,zi,zi,zi,zi,zi,zi,zi,zi],.struct [(0,4),(1,4),(2,41)],some (30,[.b,.b,ki,ki,ki,ki,ki,ki,ki,.s,ki,ki,ki,ki,ki,ki,ki,ki])⟩),
 (58,⟨true,18,152,some [zi,zi,zi,zi,zi,zi,zi,zi,zi,zs,zi,zi,zi,zi,zi,zi,zi,zi],.struct [(0,3),(1,3),(2,41)],some (30,[ki,ki,ki,ki,ki,ki,ki,ki,ki,.s,ki,ki,ki,ki,ki,ki,ki,ki])⟩),
 (60,⟨true,19,160,some [zi,zi,zi,zi,zi,zi,zi,zi,zi,zi,zs,zi,zi,zi,zi,zi,zi,zi,zi],.struct [(0,3),(1,3),(2,3),(3,41)],some (30,[ki,ki,ki,ki,ki,ki,ki,ki,ki,ki,.s,ki,ki,ki,ki,ki,ki,ki,ki])⟩),
 (62,⟨true,6,48,some [zi,zi,zi,zi,zi,zi],.arr 6 3,some (30,[ki,ki,ki,ki,ki,ki])⟩),
 (64,⟨true,64,560,some [zi,zi,zi,zi,zi,zi,zi,zi,zi,zi,zs,zi,zi,zi,zi,zi,zi,zi,zi,zi,zi,zi,zi,zi,zi,zi,zi,zi,zi,zs,zi,zi,zi,zi,zi,zi,zi,zi,zi,zi,zs,zi,zi,zi,zi,zi,zi,zi,zs,zi,zi,zi,zi,zi,zi,zi,zi,zi,zi,zi,zi,zi,zi,.nils],.struct [(0,3),(1,58),(19,60),(38,3),(39,3),(40,9),(41,41),(57,62),(63,42)],none⟩),
 (67,⟨false,1,24,some [.nils],.slice 73,none⟩),
 (68,⟨false,1,24,some [.nils],.slice 94,none⟩),
 (70,⟨true,7,72,some [zi,zi,zi,zi,zi,zi,.nils],.struct [(0,3),(1,3),(2,3),(3,3),(4,3),(5,3),(6,68)],none⟩),
 (72,⟨false,1,24,some [.nils],.slice 70,none⟩),
 (73,⟨false,1,24,some [.nils],.slice 3,none⟩),
 (74,⟨false,1,8,some [.t (.con (.pointer none))],.ptr,none⟩),
 (80,⟨true,17,176,some [zs,zb,zi,zi,zi,zi,zi,zi,zi,zi,zi,zi,.nils,zi,zi,zi,.nils],.struct [(0,9),(1,4),(2,29),(9,3),(10,32),(13,3),(14,3),(15,3),(16,33)],none⟩),
 (82,⟨false,1,8,some [.t (.con .nilFunc)],.other,none⟩),
 (89,⟨true,11,112,some [.nils,zi,zi,zi,zi,zi,zi,zi,.nils,zb,zb],.struct [(0,67),(1,3),(2,70),(9,4),(10,4)],none⟩),
 (94,⟨true,3,24,some [zi,zi,zi],.struct [(0,3),(1,3),(2,3)],some (30,[ki,ki,ki])⟩),
 (102,⟨false,1,8,some [.t (.con .nilFunc)],.other,none⟩)]
theorem hT:TOK PR T:=TOK.of_eq (by kernel_rfl)
theorem hm:PR.follows .mixedOrders=true:=by kernel_rfl
instance:Sd PR T:=⟨hm,hT⟩
end Go.PW
