import Derived.Test.YtncgejlelfefdaaGreatPwYb
import Derived.Test.YtncgejlelfefdaaGreatProg
import Derived.KernelRfl
set_option linter.all false
set_option maxRecDepth 100000
namespace Go.PW
open Go.RowKit
abbrev By:=List UInt8
abbrev Bys:=List By
noncomputable abbrev PR:=Go.Proofs.Tryz.prog
abbrev zi:PV := .t (.int .i64 0)
abbrev zb:PV := .t (.bool false)
abbrev zs:PV := .t (.str [])
abbrev ki:LK := .i .i64
def T:TS:=[
 (3,⟨false,1,8,some [zi],.int .i64,none⟩),
 (4,⟨false,1,1,some [zb],.bool,none⟩),
 (5,⟨false,1,1,some [.t (.int .u8 0)],.int .u8,none⟩),
 (9,⟨false,1,16,some [zs],.str,none⟩),
 (22,⟨false,1,24,some [.nils],.slice 111,none⟩),
 (23,⟨false,1,24,some [.nils],.slice 58,none⟩),
 (24,⟨false,1,24,some [.nils],.slice 52,none⟩),
 (25,⟨false,1,24,some [.nils],.slice 3,none⟩),
 (26,⟨false,1,24,some [.nils],.slice 142,none⟩),
 (27,⟨false,1,24,some [.nils],.slice 149,none⟩),
 (28,⟨false,1,24,some [.nils],.slice 152,none⟩),
 (29,⟨false,1,8,some [.t (.int .u64 0)],.int .u64,none⟩),
 (31,⟨true,19,280,some [.nils,.nils,.nils,.nils,.nils,.nils,.nils,zi,zi,zi,zb,zi,zi,zi,zi,.t (.int .u64 0),.nils,zi,zi],.struct [(0,23),(1,24),(2,25),(3,25),(4,26),(5,27),(6,28),(7,3),(8,3),(9,3),(10,4),(11,3),(12,3),(13,3),(14,3),(15,29),(16,25),(17,3),(18,3)],none⟩),
 (32,⟨true,3,24,some [zi,zi,zi],.arr 3 3,some (30,[ki,ki,ki])⟩),
 (34,⟨true,15,112,some [zi,zi,zi,zi,zi,zi,zi,zi,zi,zi,zb,zb,zi,zi,zi],.struct [(0,3),(1,3),(2,3),(3,3),(4,3),(5,3),(6,3),(7,3),(8,3),(9,3),(10,4),(11,4),(12,32)],some (30,[ki,ki,ki,ki,ki,ki,ki,ki,ki,ki,.b,.b,ki,ki,ki])⟩),
 (37,⟨false,1,24,some [.nils],.slice 72,none⟩),
 (39,⟨false,1,24,some [.nils],.slice 44,none⟩),
 (44,⟨true,3,24,some [zi,zi,zi],.struct [(0,3),(1,3),(2,3)],some (30,[ki,ki,ki])⟩),
 (46,⟨true,18,136,some [zi,zi,zi,zi,zi,zi,zi,zi,zi,zi,zb,zb,zi,zi,zi,zi,zi,zi],.struct [(0,34),(15,44)],some (30,[ki,ki,ki,ki,ki,ki,ki,ki,ki,ki,.b,.b,ki,ki,ki,ki,ki,ki])⟩),
 (52,⟨true,19,128,some [zi,zi,zi,zi,zi,zb,zb,zb,zb,zi,zi,zi,zi,zi,zi,zi,zb,zi,zi],.struct [(0,3),(1,3),(2,3),(3,3),(4,3),(5,4),(6,4),(7,4),(8,4),(9,3),(10,32),(13,3),(14,3),(15,3),(16,4),(17,3),(18,3)],some (30,[ki,ki,ki,ki,ki,.b,.b,.b,.b,ki,ki,ki,ki,ki,ki,ki,.b,ki,ki])⟩),
 (56,⟨true,6,48,some [zi,zi,zi,zi,zi,zi],.arr 6 3,some (30,[ki,ki,ki,ki,ki,ki])⟩),
 (58,⟨true,14,152,some [zi,zi,zi,zi,zi,zi,zi,zi,zi,zb,zb,.nils,.nils,.nils],.struct [(0,3),(1,3),(2,3),(3,56),(9,4),(10,4),(11,25),(12,25),(13,25)],none⟩),
 (59,⟨false,1,8,some [zi],.int .i64,none⟩),
 (64,⟨true,5,40,some [zi,zi,zi,zi,zi],.arr 5 3,some (30,[ki,ki,ki,ki,ki])⟩),
 (66,⟨true,7,56,some [zi,zi,zi,zi,zi,zi,zi],.struct [(0,3),(1,3),(2,64)],some (30,[ki,ki,ki,ki,ki,ki,ki])⟩),
 (67,⟨false,1,24,some [.nils],.slice 9,none⟩),
 (69,⟨true,3,40,some [zi,zi,.nils],.struct [(0,3),(1,3),(2,67)],none⟩),
 (70,⟨false,1,24,some [.nils],.slice 88,none⟩),
 (72,⟨true,17,176,some [zs,zi,zi,zi,zi,zi,zi,zi,zi,zi,zi,.nils,zi,zi,zi,.nils,zi],.struct [(0,9),(1,66),(8,3),(9,69),(12,3),(13,3),(14,3),(15,70),(16,3)],none⟩),
 (75,⟨true,2,16,some [zi,zi],.struct [(0,3),(1,3)],some (30,[ki,ki])⟩),
 (77,⟨true,16,136,some [zi,zi,zi,zi,zi,zi,zi,zs,zi,zi,zi,zi,zi,zi,zi,zi],.struct [(0,3),(1,3),(2,3),(3,3),(4,3),(5,3),(6,3),(7,9),(8,3),(9,3),(10,75),(12,75),(14,75)],some (30,[ki,ki,ki,ki,ki,ki,ki,.s,ki,ki,ki,ki,ki,ki,ki,ki])⟩),
 (79,⟨true,22,184,some [zi,zi,zi,zi,zi,zi,zi,zi,zi,zs,zi,zi,zi,zi,zi,zi,zi,zi,zi,zi,zi,zi],.struct [(0,3),(1,3),(2,77),(18,3),(19,3),(20,3),(21,3)],some (30,[ki,ki,ki,ki,ki,ki,ki,ki,ki,.s,ki,ki,ki,ki,ki,ki,ki,ki,ki,ki,ki,ki])⟩),
 (80,⟨false,1,24,some [.nils],.slice 155,none⟩),
 (82,⟨true,10,72,some [zi,zi,zi,zi,zi,zi,zi,zb,zb,zi],.struct [(0,66),(7,4),(8,4),(9,3)],some (30,[ki,ki,ki,ki,ki,ki,ki,.b,.b,ki])⟩),
 (84,⟨true,18,152,some [zi,zi,zi,zi,zi,zi,zi,zi,zi,zs,zi,zi,zi,zi,zi,zi,zi,zi],.struct [(0,3),(1,3),(2,77)],some (30,[ki,ki,ki,ki,ki,ki,ki,ki,ki,.s,ki,ki,ki,ki,ki,ki,ki,ki])⟩),
 (85,⟨false,1,24,some [.nils],.slice 201,none⟩),
 (86,⟨false,1,24,some [.nils],.slice 170,none⟩),
 (88,⟨true,72,640,some [zi,zi,zi,zi,zi,zi,zi,zi,zs,zi,zi,zi,zi,zi,zi,zi,zi,.nils,zi,zi,zi,zi,zi,zi,zi,zb,zb,zi,zb,zi,zi,zi,zi,zi,zi,zi,zi,zi,zs,zi,zi,zi,zi,zi,zi,zi,zi,zb,.nils,.nils,zi,zi,zi,zi,zi,zi,zi,zi,zi,zs,zi,zi,zi,zi,zi,zi,zi,zi,zi,zi,zi,zi],.struct [(0,3),(1,77),(17,80),(18,82),(28,4),(29,84),(47,4),(48,85),(49,86),(50,79)],none⟩),
 (89,⟨false,1,24,some [.nils],.slice 124,none⟩),
 (90,⟨false,1,24,some [.nils],.slice 4,none⟩),
 (91,⟨false,1,24,some [.nils],.slice 25,none⟩),
 (93,⟨true,24,400,some [.nils,.nils,.nils,.nils,.nils,.nils,.nils,zi,zi,zi,zb,zi,zi,zi,zi,.t (.int .u64 0),.nils,zi,zi,.nils,.nils,.nils,.nils,.nils],.struct [(0,31),(19,37),(20,89),(21,90),(22,91),(23,90)],none⟩),
 (111,⟨true,17,176,some [zs,zb,zi,zi,zi,zi,zi,zi,zi,zi,zi,zi,.nils,zi,zi,zi,.nils],.struct [(0,9),(1,4),(2,66),(9,3),(10,69),(13,3),(14,3),(15,3),(16,70)],none⟩),
 (124,⟨true,23,224,some [zi,zi,zi,zi,zb,.nils,zi,zi,zi,zi,zi,zi,zi,zs,zi,zi,zi,zi,zi,zi,zi,zi,.nils],.struct [(0,3),(1,3),(2,3),(3,3),(4,4),(5,25),(6,77),(22,80)],none⟩),
 (140,⟨false,1,24,some [.nils],.slice 146,none⟩),
 (142,⟨true,94,824,some [zi,zi,zi,zi,zi,zb,zi,zi,zi,zi,zi,zi,zi,zi,zs,zi,zi,zi,zi,zi,zi,zi,zi,.nils,zi,zi,zi,zi,zi,zi,zi,zb,zb,zi,zb,zi,zi,zi,zi,zi,zi,zi,zi,zi,zs,zi,zi,zi,zi,zi,zi,zi,zi,zb,.nils,.nils,zi,zi,zi,zi,zi,zi,zi,zi,zi,zs,zi,zi,zi,zi,zi,zi,zi,zi,zi,zi,zi,zi,.nils,zi,zi,zi,zi,zi,zi,zi,zi,zi,zi,zb,zb,zi,zi,zi],.struct [(0,3),(1,3),(2,3),(3,3),(4,3),(5,4),(6,88),(78,140),(79,34)],none⟩),
 (146,⟨true,2,16,some [zi,zi],.struct [(0,3),(1,3)],some (30,[ki,ki])⟩),
 (149,⟨true,89,768,some [zi,zi,zi,zi,zi,zi,zi,zi,zi,zi,zs,zi,zi,zi,zi,zi,zi,zi,zi,.nils,zi,zi,zi,zi,zi,zi,zi,zb,zb,zi,zb,zi,zi,zi,zi,zi,zi,zi,zi,zi,zs,zi,zi,zi,zi,zi,zi,zi,zi,zb,.nils,.nils,zi,zi,zi,zi,zi,zi,zi,zi,zi,zs,zi,zi,zi,zi,zi,zi,zi,zi,zi,zi,zi,zi,zi,zi,zi,zi,zi,zi,zi,zi,zi,zi,zb,zb,zi,zi,zi],.struct [(0,3),(1,3),(2,88),(74,34)],none⟩),
 (152,⟨true,6,80,some [zi,zi,zi,zi,.nils,.nils],.struct [(0,3),(1,3),(2,3),(3,3),(4,25),(5,80)],none⟩),
 (155,⟨true,20,176,some [zi,zi,zi,zs,zi,zi,zi,zi,zi,zi,zi,zs,zi,zi,zi,zi,zi,zi,zi,zi],.struct [(0,3),(1,3),(2,3),(3,9),(4,77)],some (30,[ki,ki,ki,.s,ki,ki,ki,ki,ki,ki,ki,.s,ki,ki,ki,ki,ki,ki,ki,ki])⟩),
 (166,⟨true,18,152,some [zi,zi,zi,zi,zi,zi,zi,zi,zi,zs,zi,zi,zi,zi,zi,zi,zi,zi],.struct [(0,3),(1,3),(2,77)],some (30,[ki,ki,ki,ki,ki,ki,ki,ki,ki,.s,ki,ki,ki,ki,ki,ki,ki,ki])⟩),
 (168,⟨true,19,160,some [zi,zi,zi,zi,zi,zi,zi,zi,zi,zi,zs,zi,zi,zi,zi,zi,zi,zi,zi],.struct [(0,3),(1,3),(2,3),(3,77)],some (30,[ki,ki,ki,ki,ki,ki,ki,ki,ki,ki,.s,ki,ki,ki,ki,ki,ki,ki,ki])⟩),
 (170,⟨true,64,560,some [zi,zi,zi,zi,zi,zi,zi,zi,zi,zi,zs,zi,zi,zi,zi,zi,zi,zi,zi,zi,zi,zi,zi,zi,zi,zi,zi,zi,zi,zs,zi,zi,zi,zi,zi,zi,zi,zi,zi,zi,zs,zi,zi,zi,zi,zi,zi,zi,zs,zi,zi,zi,zi,zi,zi,zi,zi,zi,zi,zi,zi,zi,zi,.nils],.struct [(0,3),(1,166),(19,168),(38,3),(39,3),(40,9),(41,77),(57,56),(63,80)],none⟩),
 (181,⟨false,1,24,some [.nils],.slice 90,none⟩),
 (201,⟨true,18,144,some [zb,zb,zi,zi,zi,zi,zi,zi,zi,zs,zi,zi,zi,zi,zi,zi,zi,zi],.struct [(0,4),(1,4),(2,77)],some (30,[.b,.b,ki,ki,ki,ki,ki,ki,ki,.s,ki,ki,ki,ki,ki,ki,ki,ki])⟩),
 (261,⟨false,1,24,some [.nils],.slice 5,none⟩),
 (263,⟨true,2,32,some [zs,zs],.arr 2 9,some (30,[.s,.s])⟩),
 (264,⟨true,6,96,some [zs,zs,zs,zs,zs,zs],.arr 6 9,some (30,[.s,.s,.s,.s,.s,.s])⟩),
 (268,⟨false,1,4,some [.t (.int .u32 0)],.int .u32,none⟩)]
theorem hT:TOK PR T:=TOK.of_eq (by kernel_rfl)
theorem hm:PR.follows .mixedOrders=true:=by kernel_rfl
instance:Sd PR T:=⟨hm,hT⟩
end Go.PW
