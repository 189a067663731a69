import Derived.Test.YtlighhlnmglpfaaGreatPwYb
import Derived.Test.YtlighhlnmglpfaaGreatProg
import Derived.KernelRfl
set_option linter.all false
set_option maxRecDepth 100000
namespace Go.PW
open Go.RowKit
noncomputable abbrev PR:=Go.Proofs.Tryz.prog
abbrev zi:PV := .t (.int .i64 0)
abbrev zb:PV := .t (.bool false)
abbrev zs:PV := .t (.str [])
abbrev ki:LK := .i .i64
def T:TS:=[
 (3,⟨false,1,8,some [zi],.int .i64,none⟩),
 (4,⟨false,1,1,some [zb],.bool,none⟩),
 (5,⟨false,1,1,some [.t (.int .u8 0)],.int .u8,none⟩),
 (9,⟨false,1,16,some [zs],.str,none⟩),
 (22,⟨false,1,24,some [.nils],.slice 121,none⟩),
 (23,⟨false,1,24,some [.nils],.slice 81,none⟩),
 (24,⟨false,1,24,some [.nils],.slice 67,none⟩),
 (25,⟨false,1,24,some [.nils],.slice 3,none⟩),
 (26,⟨false,1,24,some [.nils],.slice 173,none⟩),
 (27,⟨false,1,24,some [.nils],.slice 175,none⟩),
 (28,⟨false,1,24,some [.nils],.slice 177,none⟩),
 (29,⟨false,1,8,some [.t (.int .u64 0)],.int .u64,none⟩),
 (31,⟨true,19,280,some [.nils,.nils,.nils,.nils,.nils,.nils,.nils,zi,zi,zi,zb,zi,zi,zi,zi,.t (.int .u64 0),.nils,zi,zi],.struct [(0,23),(1,24),(2,25),(3,25),(4,26),(5,27),(6,28),(7,3),(8,3),(9,3),(10,4),(11,3),(12,3),(13,3),(14,3),(15,29),(16,25),(17,3),(18,3)],none⟩),
 (32,⟨false,1,24,some [.nils],.slice 58,none⟩),
 (33,⟨true,3,24,some [zi,zi,zi],.arr 3 3,some (30,[ki,ki,ki])⟩),
 (35,⟨true,15,112,some [zi,zi,zi,zi,zi,zi,zi,zi,zi,zi,zb,zb,zi,zi,zi],.struct [(0,3),(1,3),(2,3),(3,3),(4,3),(5,3),(6,3),(7,3),(8,3),(9,3),(10,4),(11,4),(12,33)],some (30,[ki,ki,ki,ki,ki,ki,ki,ki,ki,ki,.b,.b,ki,ki,ki])⟩),
 (37,⟨true,19,160,some [zi,zi,zi,.nils,zi,zi,zi,zi,zi,zi,zi,zi,zi,zi,zb,zb,zi,zi,zi],.struct [(0,3),(1,3),(2,3),(3,32),(4,35)],none⟩),
 (38,⟨false,1,24,some [.nils],.slice 55,none⟩),
 (39,⟨false,1,24,some [.nils],.slice 25,none⟩),
 (41,⟨true,22,232,some [zi,zi,zi,.nils,zi,zi,zi,zi,zi,zi,zi,zi,zi,zi,zb,zb,zi,zi,zi,.nils,.nils,.nils],.struct [(0,37),(19,38),(20,32),(21,39)],none⟩),
 (45,⟨false,1,24,some [.nils],.slice 77,none⟩),
 (48,⟨false,1,24,some [.nils],.slice 91,none⟩),
 (51,⟨true,2,16,some [zi,zi],.struct [(0,3),(1,3)],some (30,[ki,ki])⟩),
 (53,⟨true,16,136,some [zi,zi,zi,zi,zi,zi,zi,zs,zi,zi,zi,zi,zi,zi,zi,zi],.struct [(0,3),(1,3),(2,3),(3,3),(4,3),(5,3),(6,3),(7,9),(8,3),(9,3),(10,51),(12,51),(14,51)],some (30,[ki,ki,ki,ki,ki,ki,ki,.s,ki,ki,ki,ki,ki,ki,ki,ki])⟩),
 (55,⟨true,18,144,some [zb,zb,zi,zi,zi,zi,zi,zi,zi,zs,zi,zi,zi,zi,zi,zi,zi,zi],.struct [(0,4),(1,4),(2,53)],some (30,[.b,.b,ki,ki,ki,ki,ki,ki,ki,.s,ki,ki,ki,ki,ki,ki,ki,ki])⟩),
 (58,⟨true,2,16,some [zi,zi],.struct [(0,3),(1,3)],some (30,[ki,ki])⟩),
 (64,⟨false,1,8,some [.t (.con (.pointer none))],.ptr,none⟩),
 (67,⟨true,19,128,some [zi,zi,zi,zi,zi,zb,zb,zb,zb,zi,zi,zi,zi,zi,zi,zi,zb,zi,zi],.struct [(0,3),(1,3),(2,3),(3,3),(4,3),(5,4),(6,4),(7,4),(8,4),(9,3),(10,33),(13,3),(14,3),(15,3),(16,4),(17,3),(18,3)],some (30,[ki,ki,ki,ki,ki,.b,.b,.b,.b,ki,ki,ki,ki,ki,ki,ki,.b,ki,ki])⟩),
 (69,⟨true,5,40,some [zi,zi,zi,zi,zi],.arr 5 3,some (30,[ki,ki,ki,ki,ki])⟩),
 (71,⟨true,7,56,some [zi,zi,zi,zi,zi,zi,zi],.struct [(0,3),(1,3),(2,69)],some (30,[ki,ki,ki,ki,ki,ki,ki])⟩),
 (72,⟨false,1,24,some [.nils],.slice 9,none⟩),
 (74,⟨true,3,40,some [zi,zi,.nils],.struct [(0,3),(1,3),(2,72)],none⟩),
 (75,⟨false,1,24,some [.nils],.slice 159,none⟩),
 (77,⟨true,17,176,some [zs,zi,zi,zi,zi,zi,zi,zi,zi,zi,zi,.nils,zi,zi,zi,.nils,zi],.struct [(0,9),(1,71),(8,3),(9,74),(12,3),(13,3),(14,3),(15,75),(16,3)],none⟩),
 (79,⟨true,6,48,some [zi,zi,zi,zi,zi,zi],.arr 6 3,some (30,[ki,ki,ki,ki,ki,ki])⟩),
 (81,⟨true,14,152,some [zi,zi,zi,zi,zi,zi,zi,zi,zi,zb,zb,.nils,.nils,.nils],.struct [(0,3),(1,3),(2,3),(3,79),(9,4),(10,4),(11,25),(12,25),(13,25)],none⟩),
 (82,⟨false,1,8,some [.t (.con (.pointer none))],.ptr,none⟩),
 (86,⟨false,1,8,some [zi],.int .i64,none⟩),
 (91,⟨true,3,24,some [zi,zi,zi],.struct [(0,3),(1,3),(2,3)],some (30,[ki,ki,ki])⟩),
 (93,⟨false,1,24,some [.nils],.slice 133,none⟩),
 (94,⟨false,1,24,some [.nils],.slice 4,none⟩),
 (96,⟨true,24,400,some [.nils,.nils,.nils,.nils,.nils,.nils,.nils,zi,zi,zi,zb,zi,zi,zi,zi,.t (.int .u64 0),.nils,zi,zi,.nils,.nils,.nils,.nils,.nils],.struct [(0,31),(19,45),(20,93),(21,94),(22,39),(23,94)],none⟩),
 (111,⟨true,7,72,some [zi,zi,zi,zi,zi,zi,.nils],.struct [(0,3),(1,3),(2,3),(3,3),(4,3),(5,3),(6,48)],none⟩),
 (113,⟨true,11,112,some [.nils,zi,zi,zi,zi,zi,zi,zi,.nils,zb,zb],.struct [(0,39),(1,3),(2,111),(9,4),(10,4)],none⟩),
 (116,⟨true,11,112,some [.nils,zi,zi,zi,zi,zi,zi,.nils,zb,zb,zi],.struct [(0,39),(1,111),(8,4),(9,4),(10,3)],none⟩),
 (121,⟨true,17,176,some [zs,zb,zi,zi,zi,zi,zi,zi,zi,zi,zi,zi,.nils,zi,zi,zi,.nils],.struct [(0,9),(1,4),(2,71),(9,3),(10,74),(13,3),(14,3),(15,3),(16,75)],none⟩),
 (131,⟨false,1,24,some [.nils],.slice 185,none⟩),
 (133,⟨true,23,224,some [zi,zi,zi,zi,zb,.nils,zi,zi,zi,zi,zi,zi,zi,zs,zi,zi,zi,zi,zi,zi,zi,zi,.nils],.struct [(0,3),(1,3),(2,3),(3,3),(4,4),(5,25),(6,53),(22,131)],none⟩),
 (152,⟨true,10,72,some [zi,zi,zi,zi,zi,zi,zi,zb,zb,zi],.struct [(0,71),(7,4),(8,4),(9,3)],some (30,[ki,ki,ki,ki,ki,ki,ki,.b,.b,ki])⟩),
 (154,⟨true,18,152,some [zi,zi,zi,zi,zi,zi,zi,zi,zi,zs,zi,zi,zi,zi,zi,zi,zi,zi],.struct [(0,3),(1,3),(2,53)],some (30,[ki,ki,ki,ki,ki,ki,ki,ki,ki,.s,ki,ki,ki,ki,ki,ki,ki,ki])⟩),
 (155,⟨false,1,24,some [.nils],.slice 165,none⟩),
 (157,⟨true,22,184,some [zi,zi,zi,zi,zi,zi,zi,zi,zi,zs,zi,zi,zi,zi,zi,zi,zi,zi,zi,zi,zi,zi],.struct [(0,3),(1,3),(2,53),(18,3),(19,3),(20,3),(21,3)],some (30,[ki,ki,ki,ki,ki,ki,ki,ki,ki,.s,ki,ki,ki,ki,ki,ki,ki,ki,ki,ki,ki,ki])⟩),
 (159,⟨true,72,640,some [zi,zi,zi,zi,zi,zi,zi,zi,zs,zi,zi,zi,zi,zi,zi,zi,zi,.nils,zi,zi,zi,zi,zi,zi,zi,zb,zb,zi,zb,zi,zi,zi,zi,zi,zi,zi,zi,zi,zs,zi,zi,zi,zi,zi,zi,zi,zi,zb,.nils,.nils,zi,zi,zi,zi,zi,zi,zi,zi,zi,zs,zi,zi,zi,zi,zi,zi,zi,zi,zi,zi,zi,zi],.struct [(0,3),(1,53),(17,131),(18,152),(28,4),(29,154),(47,4),(48,38),(49,155),(50,157)],none⟩),
 (161,⟨true,18,152,some [zi,zi,zi,zi,zi,zi,zi,zi,zi,zs,zi,zi,zi,zi,zi,zi,zi,zi],.struct [(0,3),(1,3),(2,53)],some (30,[ki,ki,ki,ki,ki,ki,ki,ki,ki,.s,ki,ki,ki,ki,ki,ki,ki,ki])⟩),
 (163,⟨true,19,160,some [zi,zi,zi,zi,zi,zi,zi,zi,zi,zi,zs,zi,zi,zi,zi,zi,zi,zi,zi],.struct [(0,3),(1,3),(2,3),(3,53)],some (30,[ki,ki,ki,ki,ki,ki,ki,ki,ki,ki,.s,ki,ki,ki,ki,ki,ki,ki,ki])⟩),
 (165,⟨true,64,560,some [zi,zi,zi,zi,zi,zi,zi,zi,zi,zi,zs,zi,zi,zi,zi,zi,zi,zi,zi,zi,zi,zi,zi,zi,zi,zi,zi,zi,zi,zs,zi,zi,zi,zi,zi,zi,zi,zi,zi,zi,zs,zi,zi,zi,zi,zi,zi,zi,zs,zi,zi,zi,zi,zi,zi,zi,zi,zi,zi,zi,zi,zi,zi,.nils],.struct [(0,3),(1,161),(19,163),(38,3),(39,3),(40,9),(41,53),(57,79),(63,131)],none⟩),
 (173,⟨true,94,824,some [zi,zi,zi,zi,zi,zb,zi,zi,zi,zi,zi,zi,zi,zi,zs,zi,zi,zi,zi,zi,zi,zi,zi,.nils,zi,zi,zi,zi,zi,zi,zi,zb,zb,zi,zb,zi,zi,zi,zi,zi,zi,zi,zi,zi,zs,zi,zi,zi,zi,zi,zi,zi,zi,zb,.nils,.nils,zi,zi,zi,zi,zi,zi,zi,zi,zi,zs,zi,zi,zi,zi,zi,zi,zi,zi,zi,zi,zi,zi,.nils,zi,zi,zi,zi,zi,zi,zi,zi,zi,zi,zb,zb,zi,zi,zi],.struct [(0,3),(1,3),(2,3),(3,3),(4,3),(5,4),(6,159),(78,32),(79,35)],none⟩),
 (175,⟨true,89,768,some [zi,zi,zi,zi,zi,zi,zi,zi,zi,zi,zs,zi,zi,zi,zi,zi,zi,zi,zi,.nils,zi,zi,zi,zi,zi,zi,zi,zb,zb,zi,zb,zi,zi,zi,zi,zi,zi,zi,zi,zi,zs,zi,zi,zi,zi,zi,zi,zi,zi,zb,.nils,.nils,zi,zi,zi,zi,zi,zi,zi,zi,zi,zs,zi,zi,zi,zi,zi,zi,zi,zi,zi,zi,zi,zi,zi,zi,zi,zi,zi,zi,zi,zi,zi,zi,zb,zb,zi,zi,zi],.struct [(0,3),(1,3),(2,159),(74,35)],none⟩),
 (177,⟨true,6,80,some [zi,zi,zi,zi,.nils,.nils],.struct [(0,3),(1,3),(2,3),(3,3),(4,25),(5,131)],none⟩),
 (185,⟨true,20,176,some [zi,zi,zi,zs,zi,zi,zi,zi,zi,zi,zi,zs,zi,zi,zi,zi,zi,zi,zi,zi],.struct [(0,3),(1,3),(2,3),(3,9),(4,53)],some (30,[ki,ki,ki,.s,ki,ki,ki,ki,ki,ki,ki,.s,ki,ki,ki,ki,ki,ki,ki,ki])⟩),
 (186,⟨false,1,24,some [.nils],.slice 94,none⟩),
 (250,⟨false,1,24,some [.nils],.slice 5,none⟩),
 (251,⟨true,2,32,some [zs,zs],.arr 2 9,some (30,[.s,.s])⟩),
 (252,⟨true,6,96,some [zs,zs,zs,zs,zs,zs],.arr 6 9,some (30,[.s,.s,.s,.s,.s,.s])⟩),
 (258,⟨false,1,4,some [.t (.int .u32 0)],.int .u32,none⟩)]
theorem hT:TOK PR T:=TOK.of_eq (by kernel_rfl)
theorem hm:PR.follows .mixedOrders=true:=by kernel_rfl
instance:Sd PR T:=⟨hm,hT⟩
end Go.PW
