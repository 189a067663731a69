import Derived.Test.YtiglnkgoicjjfaaGreatPwYi
import Derived.Test.YtiglnkgoicjjfaaGreatProg
import Derived.KernelRfl
set_option linter.all false
set_option maxRecDepth 100000
namespace Go.PW
open Go.RowKit
abbrev By:=List UInt8
abbrev Bys:=List By
noncomputable abbrev PR:=Go.Proofs.Tryz.prog
abbrev zi:PV := .t (.int .i64 0)
abbrev zb:PV := .t (.bool false)
abbrev zs:PV := .t (.str [])
abbrev ki:LK := .i .i64
def T:TS:=[
 (3,⟨false,1,8,some [zi],.int .i64,none⟩),
 (4,⟨false,1,1,some [zb],.bool,none⟩),
 (5,⟨false,1,1,some [.t (.int .u8 0)],.int .u8,none⟩),
 (9,⟨false,1,16,some [zs],.str,none⟩),
 (22,⟨false,1,24,some [.nils],.slice 108,none⟩),
 (23,⟨false,1,24,some [.nils],.slice 63,none⟩),
 (24,⟨false,1,24,some [.nils],.slice 48,none⟩),
 (25,⟨false,1,24,some [.nils],.slice 3,none⟩),
 (26,⟨false,1,24,some [.nils],.slice 87,none⟩),
 (27,⟨false,1,24,some [.nils],.slice 90,none⟩),
 (28,⟨false,1,24,some [.nils],.slice 92,none⟩),
 (29,⟨false,1,8,some [.t (.int .u64 0)],.int .u64,none⟩),
 (31,⟨true,19,280,some [.nils,.nils,.nils,.nils,.nils,.nils,.nils,zi,zi,zi,zb,zi,zi,zi,zi,.t (.int .u64 0),.nils,zi,zi],.struct [(0,23),(1,24),(2,25),(3,25),(4,26),(5,27),(6,28),(7,3),(8,3),(9,3),(10,4),(11,3),(12,3),(13,3),(14,3),(15,29),(16,25),(17,3),(18,3)],none⟩),
 (32,⟨false,1,24,some [.nils],.slice 25,none⟩),
 (33,⟨false,1,24,some [.nils],.slice 50,none⟩),
 (35,⟨true,7,72,some [zi,zi,zi,zi,zi,zi,.nils],.struct [(0,3),(1,3),(2,3),(3,3),(4,3),(5,3),(6,33)],none⟩),
 (36,⟨false,1,24,some [.nils],.slice 31,none⟩),
 (38,⟨true,30,432,some [.nils,.nils,.nils,.nils,.nils,.nils,.nils,.nils,zi,zi,zi,zb,zi,zi,zi,zi,.t (.int .u64 0),.nils,zi,zi,.nils,zi,zi,zi,zi,zi,zi,.nils,zi,.nils],.struct [(0,22),(1,31),(20,32),(21,35),(28,3),(29,36)],none⟩),
 (42,⟨false,1,24,some [.nils],.slice 54,none⟩),
 (44,⟨true,25,360,some [zi,.nils,.nils,.nils,.nils,.nils,.nils,.nils,.nils,zi,zi,zi,zi,zi,zi,zi,zi,.nils,zi,zi,zi,zi,zi,zi,.nils],.struct [(0,3),(1,42),(2,25),(3,24),(4,25),(5,25),(6,26),(7,27),(8,28),(9,3),(10,3),(11,3),(12,3),(13,3),(14,3),(15,3),(16,3),(17,25),(18,35)],none⟩),
 (46,⟨true,3,24,some [zi,zi,zi],.arr 3 3,some (30,[ki,ki,ki])⟩),
 (48,⟨true,19,128,some [zi,zi,zi,zi,zi,zb,zb,zb,zb,zi,zi,zi,zi,zi,zi,zi,zb,zi,zi],.struct [(0,3),(1,3),(2,3),(3,3),(4,3),(5,4),(6,4),(7,4),(8,4),(9,3),(10,46),(13,3),(14,3),(15,3),(16,4),(17,3),(18,3)],some (30,[ki,ki,ki,ki,ki,.b,.b,.b,.b,ki,ki,ki,ki,ki,ki,ki,.b,ki,ki])⟩),
 (50,⟨true,3,24,some [zi,zi,zi],.struct [(0,3),(1,3),(2,3)],some (30,[ki,ki,ki])⟩),
 (52,⟨true,6,48,some [zi,zi,zi,zi,zi,zi],.arr 6 3,some (30,[ki,ki,ki,ki,ki,ki])⟩),
 (54,⟨true,13,120,some [zi,zi,zi,zi,zi,zi,zi,zi,zi,zi,zi,zb,.nils],.struct [(0,3),(1,3),(2,3),(3,3),(4,3),(5,52),(11,4),(12,25)],none⟩),
 (63,⟨true,14,152,some [zi,zi,zi,zi,zi,zi,zi,zi,zi,zb,zb,.nils,.nils,.nils],.struct [(0,3),(1,3),(2,3),(3,52),(9,4),(10,4),(11,25),(12,25),(13,25)],none⟩),
 (66,⟨true,2,16,some [zi,zi],.struct [(0,3),(1,3)],some (30,[ki,ki])⟩),
 (68,⟨true,16,136,some [zi,zi,zi,zi,zi,zi,zi,zs,zi,zi,zi,zi,zi,zi,zi,zi],.struct [(0,3),(1,3),(2,3),(3,3),(4,3),(5,3),(6,3),(7,9),(8,3),(9,3),(10,66),(12,66),(14,66)],some (30,[ki,ki,ki,ki,ki,ki,ki,.s,ki,ki,ki,ki,ki,ki,ki,ki])⟩),
 (69,⟨false,1,24,some [.nils],.slice 138,none⟩),
 (70,⟨true,5,40,some [zi,zi,zi,zi,zi],.arr 5 3,some (30,[ki,ki,ki,ki,ki])⟩),
 (72,⟨true,7,56,some [zi,zi,zi,zi,zi,zi,zi],.struct [(0,3),(1,3),(2,70)],some (30,[ki,ki,ki,ki,ki,ki,ki])⟩),
 (74,⟨true,10,72,some [zi,zi,zi,zi,zi,zi,zi,zb,zb,zi],.struct [(0,72),(7,4),(8,4),(9,3)],some (30,[ki,ki,ki,ki,ki,ki,ki,.b,.b,ki])⟩),
 (76,⟨true,18,152,some [zi,zi,zi,zi,zi,zi,zi,zi,zi,zs,zi,zi,zi,zi,zi,zi,zi,zi],.struct [(0,3),(1,3),(2,68)],some (30,[ki,ki,ki,ki,ki,ki,ki,ki,ki,.s,ki,ki,ki,ki,ki,ki,ki,ki])⟩),
 (77,⟨false,1,24,some [.nils],.slice 155,none⟩),
 (78,⟨false,1,24,some [.nils],.slice 126,none⟩),
 (80,⟨true,22,184,some [zi,zi,zi,zi,zi,zi,zi,zi,zi,zs,zi,zi,zi,zi,zi,zi,zi,zi,zi,zi,zi,zi],.struct [(0,3),(1,3),(2,68),(18,3),(19,3),(20,3),(21,3)],some (30,[ki,ki,ki,ki,ki,ki,ki,ki,ki,.s,ki,ki,ki,ki,ki,ki,ki,ki,ki,ki,ki,ki])⟩),
 (82,⟨true,72,640,some [zi,zi,zi,zi,zi,zi,zi,zi,zs,zi,zi,zi,zi,zi,zi,zi,zi,.nils,zi,zi,zi,zi,zi,zi,zi,zb,zb,zi,zb,zi,zi,zi,zi,zi,zi,zi,zi,zi,zs,zi,zi,zi,zi,zi,zi,zi,zi,zb,.nils,.nils,zi,zi,zi,zi,zi,zi,zi,zi,zi,zs,zi,zi,zi,zi,zi,zi,zi,zi,zi,zi,zi,zi],.struct [(0,3),(1,68),(17,69),(18,74),(28,4),(29,76),(47,4),(48,77),(49,78),(50,80)],none⟩),
 (83,⟨false,1,24,some [.nils],.slice 133,none⟩),
 (85,⟨true,15,112,some [zi,zi,zi,zi,zi,zi,zi,zi,zi,zi,zb,zb,zi,zi,zi],.struct [(0,3),(1,3),(2,3),(3,3),(4,3),(5,3),(6,3),(7,3),(8,3),(9,3),(10,4),(11,4),(12,46)],some (30,[ki,ki,ki,ki,ki,ki,ki,ki,ki,ki,.b,.b,ki,ki,ki])⟩),
 (87,⟨true,94,824,some [zi,zi,zi,zi,zi,zb,zi,zi,zi,zi,zi,zi,zi,zi,zs,zi,zi,zi,zi,zi,zi,zi,zi,.nils,zi,zi,zi,zi,zi,zi,zi,zb,zb,zi,zb,zi,zi,zi,zi,zi,zi,zi,zi,zi,zs,zi,zi,zi,zi,zi,zi,zi,zi,zb,.nils,.nils,zi,zi,zi,zi,zi,zi,zi,zi,zi,zs,zi,zi,zi,zi,zi,zi,zi,zi,zi,zi,zi,zi,.nils,zi,zi,zi,zi,zi,zi,zi,zi,zi,zi,zb,zb,zi,zi,zi],.struct [(0,3),(1,3),(2,3),(3,3),(4,3),(5,4),(6,82),(78,83),(79,85)],none⟩),
 (90,⟨true,89,768,some [zi,zi,zi,zi,zi,zi,zi,zi,zi,zi,zs,zi,zi,zi,zi,zi,zi,zi,zi,.nils,zi,zi,zi,zi,zi,zi,zi,zb,zb,zi,zb,zi,zi,zi,zi,zi,zi,zi,zi,zi,zs,zi,zi,zi,zi,zi,zi,zi,zi,zb,.nils,.nils,zi,zi,zi,zi,zi,zi,zi,zi,zi,zs,zi,zi,zi,zi,zi,zi,zi,zi,zi,zi,zi,zi,zi,zi,zi,zi,zi,zi,zi,zi,zi,zi,zb,zb,zi,zi,zi],.struct [(0,3),(1,3),(2,82),(74,85)],none⟩),
 (92,⟨true,6,80,some [zi,zi,zi,zi,.nils,.nils],.struct [(0,3),(1,3),(2,3),(3,3),(4,25),(5,69)],none⟩),
 (95,⟨false,1,8,some [.t (.con .nilFunc)],.other,none⟩),
 (100,⟨false,1,8,some [zi],.int .i64,none⟩),
 (103,⟨false,1,24,some [.nils],.slice 9,none⟩),
 (105,⟨true,3,40,some [zi,zi,.nils],.struct [(0,3),(1,3),(2,103)],none⟩),
 (106,⟨false,1,24,some [.nils],.slice 82,none⟩),
 (108,⟨true,17,176,some [zs,zb,zi,zi,zi,zi,zi,zi,zi,zi,zi,zi,.nils,zi,zi,zi,.nils],.struct [(0,9),(1,4),(2,72),(9,3),(10,105),(13,3),(14,3),(15,3),(16,106)],none⟩),
 (114,⟨false,1,8,some [.t (.con .nilFunc)],.other,none⟩),
 (116,⟨false,1,8,some [.t (.con .nilFunc)],.other,none⟩),
 (118,⟨false,1,8,some [.t (.con .nilFunc)],.other,none⟩),
 (120,⟨false,1,8,some [.t (.con .nilFunc)],.other,none⟩),
 (122,⟨true,18,152,some [zi,zi,zi,zi,zi,zi,zi,zi,zi,zs,zi,zi,zi,zi,zi,zi,zi,zi],.struct [(0,3),(1,3),(2,68)],some (30,[ki,ki,ki,ki,ki,ki,ki,ki,ki,.s,ki,ki,ki,ki,ki,ki,ki,ki])⟩),
 (124,⟨true,19,160,some [zi,zi,zi,zi,zi,zi,zi,zi,zi,zi,zs,zi,zi,zi,zi,zi,zi,zi,zi],.struct [(0,3),(1,3),(2,3),(3,68)],some (30,[ki,ki,ki,ki,ki,ki,ki,ki,ki,ki,.s,ki,ki,ki,ki,ki,ki,ki,ki])⟩),
 (126,⟨true,64,560,some [zi,zi,zi,zi,zi,zi,zi,zi,zi,zi,zs,zi,zi,zi,zi,zi,zi,zi,zi,zi,zi,zi,zi,zi,zi,zi,zi,zi,zi,zs,zi,zi,zi,zi,zi,zi,zi,zi,zi,zi,zs,zi,zi,zi,zi,zi,zi,zi,zs,zi,zi,zi,zi,zi,zi,zi,zi,zi,zi,zi,zi,zi,zi,.nils],.struct [(0,3),(1,122),(19,124),(38,3),(39,3),(40,9),(41,68),(57,52),(63,69)],none⟩),
 (133,⟨true,2,16,some [zi,zi],.struct [(0,3),(1,3)],some (30,[ki,ki])⟩),
 (138,⟨true,20,176,some [zi,zi,zi,zs,zi,zi,zi,zi,zi,zi,zi,zs,zi,zi,zi,zi,zi,zi,zi,zi],.struct [(0,3),(1,3),(2,3),(3,9),(4,68)],some (30,[ki,ki,ki,.s,ki,ki,ki,ki,ki,ki,ki,.s,ki,ki,ki,ki,ki,ki,ki,ki])⟩),
 (155,⟨true,18,144,some [zb,zb,zi,zi,zi,zi,zi,zi,zi,zs,zi,zi,zi,zi,zi,zi,zi,zi],.struct [(0,4),(1,4),(2,68)],some (30,[.b,.b,ki,ki,ki,ki,ki,ki,ki,.s,ki,ki,ki,ki,ki,ki,ki,ki])⟩),
 (170,⟨false,1,8,some [.t (.con .nilFunc)],.other,none⟩),
 (173,⟨false,1,8,some [.t (.con .nilFunc)],.other,none⟩),
 (209,⟨false,1,24,some [.nils],.slice 5,none⟩)]
theorem hT:TOK PR T:=TOK.of_eq (by kernel_rfl)
theorem hm:PR.follows .mixedOrders=true:=by kernel_rfl
instance:Sd PR T:=⟨hm,hT⟩
end Go.PW
