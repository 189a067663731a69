import Derived.Test.YtdjfkajcchcdkaaGreatPwYi
import Derived.Test.YtdjfkajcchcdkaaGreatProg
import Derived.KernelRfl
import Derived.Shelf.Strings.Search3
import Derived.Shelf.Vars
import Derived.HandedShaped
set_option linter.all false
set_option maxRecDepth 100000
namespace Go.PW
open Go.RowKit
abbrev By:=List UInt8
abbrev Bys:=List By
noncomputable abbrev PR:=Go.Proofs.Tryz.prog
abbrev zi:PV :=.t (.int .i64 0)
abbrev zb:PV :=.t (.bool false)
abbrev zs:PV :=.t (.str [])
abbrev ki:LK :=.i .i64
def T:TS:=[
 (3,⟨false,1,8,some [zi],.int .i64,none⟩),
 (4,⟨false,1,1,some [zb],.bool,none⟩),
 (5,⟨false,1,1,some [.t (.int .u8 0)],.int .u8,none⟩),
 (9,⟨false,1,16,some [zs],.str,none⟩),
 (22,⟨false,1,24,some [.nils],.slice 124,none⟩),
 (23,⟨false,1,24,some [.nils],.slice 80,none⟩),
 (24,⟨false,1,24,some [.nils],.slice 64,none⟩),
 (25,⟨false,1,24,some [.nils],.slice 3,none⟩),
 (26,⟨false,1,24,some [.nils],.slice 55,none⟩),
 (27,⟨false,1,24,some [.nils],.slice 84,none⟩),
 (28,⟨false,1,24,some [.nils],.slice 141,none⟩),
 (29,⟨false,1,8,some [.t (.int .u64 0)],.int .u64,none⟩),
 (31,⟨true,19,280,some [.nils,.nils,.nils,.nils,.nils,.nils,.nils,zi,zi,zi,zb,zi,zi,zi,zi,.t (.int .u64 0),.nils,zi,zi],.struct [(0,23),(1,24),(2,25),(3,25),(4,26),(5,27),(6,28),(7,3),(8,3),(9,3),(10,4),(11,3),(12,3),(13,3),(14,3),(15,29),(16,25),(17,3),(18,3)],none⟩),
 (33,⟨true,2,16,some [zi,zi],.struct [(0,3),(1,3)],some (30,[ki,ki])⟩),
 (35,⟨true,16,136,some [zi,zi,zi,zi,zi,zi,zi,zs,zi,zi,zi,zi,zi,zi,zi,zi],.struct [(0,3),(1,3),(2,3),(3,3),(4,3),(5,3),(6,3),(7,9),(8,3),(9,3),(10,33),(12,33),(14,33)],some (30,[ki,ki,ki,ki,ki,ki,ki,.s,ki,ki,ki,ki,ki,ki,ki,ki])⟩),
 (36,⟨false,1,24,some [.nils],.slice 144,none⟩),
 (37,⟨true,5,40,some [zi,zi,zi,zi,zi],.arr 5 3,some (30,[ki,ki,ki,ki,ki])⟩),
 (39,⟨true,7,56,some [zi,zi,zi,zi,zi,zi,zi],.struct [(0,3),(1,3),(2,37)],some (30,[ki,ki,ki,ki,ki,ki,ki])⟩),
 (41,⟨true,10,72,some [zi,zi,zi,zi,zi,zi,zi,zb,zb,zi],.struct [(0,39),(7,4),(8,4),(9,3)],some (30,[ki,ki,ki,ki,ki,ki,ki,.b,.b,ki])⟩),
 (43,⟨true,18,152,some [zi,zi,zi,zi,zi,zi,zi,zi,zi,zs,zi,zi,zi,zi,zi,zi,zi,zi],.struct [(0,3),(1,3),(2,35)],some (30,[ki,ki,ki,ki,ki,ki,ki,ki,ki,.s,ki,ki,ki,ki,ki,ki,ki,ki])⟩),
 (44,⟨false,1,24,some [.nils],.slice 179,none⟩),
 (45,⟨false,1,24,some [.nils],.slice 72,none⟩),
 (47,⟨true,22,184,some [zi,zi,zi,zi,zi,zi,zi,zi,zi,zs,zi,zi,zi,zi,zi,zi,zi,zi,zi,zi,zi,zi],.struct [(0,3),(1,3),(2,35),(18,3),(19,3),(20,3),(21,3)],some (30,[ki,ki,ki,ki,ki,ki,ki,ki,ki,.s,ki,ki,ki,ki,ki,ki,ki,ki,ki,ki,ki,ki])⟩),
 (49,⟨true,72,640,some [zi,zi,zi,zi,zi,zi,zi,zi,zs,zi,zi,zi,zi,zi,zi,zi,zi,.nils,zi,zi,zi,zi,zi,zi,zi,zb,zb,zi,zb,zi,zi,zi,zi,zi,zi,zi,zi,zi,zs,zi,zi,zi,zi,zi,zi,zi,zi,zb,.nils,.nils,zi,zi,zi,zi,zi,zi,zi,zi,zi,zs,zi,zi,zi,zi,zi,zi,zi,zi,zi,zi,zi,zi],.struct [(0,3),(1,35),(17,36),(18,41),(28,4),(29,43),(47,4),(48,44),(49,45),(50,47)],none⟩),
 (50,⟨false,1,24,some [.nils],.slice 137,none⟩),
 (51,⟨true,3,24,some [zi,zi,zi],.arr 3 3,some (30,[ki,ki,ki])⟩),
 (53,⟨true,15,112,some [zi,zi,zi,zi,zi,zi,zi,zi,zi,zi,zb,zb,zi,zi,zi],.struct [(0,3),(1,3),(2,3),(3,3),(4,3),(5,3),(6,3),(7,3),(8,3),(9,3),(10,4),(11,4),(12,51)],some (30,[ki,ki,ki,ki,ki,ki,ki,ki,ki,ki,.b,.b,ki,ki,ki])⟩),
 (55,⟨true,94,824,some [zi,zi,zi,zi,zi,zb,zi,zi,zi,zi,zi,zi,zi,zi,zs,zi,zi,zi,zi,zi,zi,zi,zi,.nils,zi,zi,zi,zi,zi,zi,zi,zb,zb,zi,zb,zi,zi,zi,zi,zi,zi,zi,zi,zi,zs,zi,zi,zi,zi,zi,zi,zi,zi,zb,.nils,.nils,zi,zi,zi,zi,zi,zi,zi,zi,zi,zs,zi,zi,zi,zi,zi,zi,zi,zi,zi,zi,zi,zi,.nils,zi,zi,zi,zi,zi,zi,zi,zi,zi,zi,zb,zb,zi,zi,zi],.struct [(0,3),(1,3),(2,3),(3,3),(4,3),(5,4),(6,49),(78,50),(79,53)],none⟩),
 (64,⟨true,19,128,some [zi,zi,zi,zi,zi,zb,zb,zb,zb,zi,zi,zi,zi,zi,zi,zi,zb,zi,zi],.struct [(0,3),(1,3),(2,3),(3,3),(4,3),(5,4),(6,4),(7,4),(8,4),(9,3),(10,51),(13,3),(14,3),(15,3),(16,4),(17,3),(18,3)],some (30,[ki,ki,ki,ki,ki,.b,.b,.b,.b,ki,ki,ki,ki,ki,ki,ki,.b,ki,ki])⟩),
 (66,⟨true,18,152,some [zi,zi,zi,zi,zi,zi,zi,zi,zi,zs,zi,zi,zi,zi,zi,zi,zi,zi],.struct [(0,3),(1,3),(2,35)],some (30,[ki,ki,ki,ki,ki,ki,ki,ki,ki,.s,ki,ki,ki,ki,ki,ki,ki,ki])⟩),
 (68,⟨true,19,160,some [zi,zi,zi,zi,zi,zi,zi,zi,zi,zi,zs,zi,zi,zi,zi,zi,zi,zi,zi],.struct [(0,3),(1,3),(2,3),(3,35)],some (30,[ki,ki,ki,ki,ki,ki,ki,ki,ki,ki,.s,ki,ki,ki,ki,ki,ki,ki,ki])⟩),
 (70,⟨true,6,48,some [zi,zi,zi,zi,zi,zi],.arr 6 3,some (30,[ki,ki,ki,ki,ki,ki])⟩),
 (72,⟨true,64,560,some [zi,zi,zi,zi,zi,zi,zi,zi,zi,zi,zs,zi,zi,zi,zi,zi,zi,zi,zi,zi,zi,zi,zi,zi,zi,zi,zi,zi,zi,zs,zi,zi,zi,zi,zi,zi,zi,zi,zi,zi,zs,zi,zi,zi,zi,zi,zi,zi,zs,zi,zi,zi,zi,zi,zi,zi,zi,zi,zi,zi,zi,zi,zi,.nils],.struct [(0,3),(1,66),(19,68),(38,3),(39,3),(40,9),(41,35),(57,70),(63,36)],none⟩),
 (73,⟨false,1,24,some [.nils],.slice 25,none⟩),
 (75,⟨false,1,8,some [.t (.con (.pointer none))],.ptr,none⟩),
 (80,⟨true,14,152,some [zi,zi,zi,zi,zi,zi,zi,zi,zi,zb,zb,.nils,.nils,.nils],.struct [(0,3),(1,3),(2,3),(3,70),(9,4),(10,4),(11,25),(12,25),(13,25)],none⟩),
 (84,⟨true,89,768,some [zi,zi,zi,zi,zi,zi,zi,zi,zi,zi,zs,zi,zi,zi,zi,zi,zi,zi,zi,.nils,zi,zi,zi,zi,zi,zi,zi,zb,zb,zi,zb,zi,zi,zi,zi,zi,zi,zi,zi,zi,zs,zi,zi,zi,zi,zi,zi,zi,zi,zb,.nils,.nils,zi,zi,zi,zi,zi,zi,zi,zi,zi,zs,zi,zi,zi,zi,zi,zi,zi,zi,zi,zi,zi,zi,zi,zi,zi,zi,zi,zi,zi,zi,zi,zi,zb,zb,zi,zi,zi],.struct [(0,3),(1,3),(2,49),(74,53)],none⟩),
 (85,⟨false,1,8,some [.t (.con (.pointer none))],.ptr,none⟩),
 (89,⟨false,1,8,some [zi],.int .i64,none⟩),
 (95,⟨false,1,8,some [.t (.con .nilFunc)],.other,none⟩),
 (97,⟨false,1,24,some [.nils],.slice 105,none⟩),
 (99,⟨true,7,72,some [zi,zi,zi,zi,zi,zi,.nils],.struct [(0,3),(1,3),(2,3),(3,3),(4,3),(5,3),(6,97)],none⟩),
 (101,⟨true,11,112,some [.nils,zi,zi,zi,zi,zi,zi,zi,.nils,zb,zb],.struct [(0,73),(1,3),(2,99),(9,4),(10,4)],none⟩),
 (103,⟨false,1,8,some [.t (.con (.map none))],.map 3 97,none⟩),
 (105,⟨true,3,24,some [zi,zi,zi],.struct [(0,3),(1,3),(2,3)],some (30,[ki,ki,ki])⟩),
 (115,⟨true,11,112,some [.nils,zi,zi,zi,zi,zi,zi,.nils,zb,zb,zi],.struct [(0,73),(1,99),(8,4),(9,4),(10,3)],none⟩),
 (119,⟨false,1,24,some [.nils],.slice 9,none⟩),
 (121,⟨true,3,40,some [zi,zi,.nils],.struct [(0,3),(1,3),(2,119)],none⟩),
 (122,⟨false,1,24,some [.nils],.slice 49,none⟩),
 (124,⟨true,17,176,some [zs,zb,zi,zi,zi,zi,zi,zi,zi,zi,zi,zi,.nils,zi,zi,zi,.nils],.struct [(0,9),(1,4),(2,39),(9,3),(10,121),(13,3),(14,3),(15,3),(16,122)],none⟩),
 (137,⟨true,2,16,some [zi,zi],.struct [(0,3),(1,3)],some (30,[ki,ki])⟩),
 (141,⟨true,6,80,some [zi,zi,zi,zi,.nils,.nils],.struct [(0,3),(1,3),(2,3),(3,3),(4,25),(5,36)],none⟩),
 (144,⟨true,20,176,some [zi,zi,zi,zs,zi,zi,zi,zi,zi,zi,zi,zs,zi,zi,zi,zi,zi,zi,zi,zi],.struct [(0,3),(1,3),(2,3),(3,9),(4,35)],some (30,[ki,ki,ki,.s,ki,ki,ki,ki,ki,ki,ki,.s,ki,ki,ki,ki,ki,ki,ki,ki])⟩),
 (157,⟨true,19,160,some [zi,zi,zi,.nils,zi,zi,zi,zi,zi,zi,zi,zi,zi,zi,zb,zb,zi,zi,zi],.struct [(0,3),(1,3),(2,3),(3,50),(4,53)],none⟩),
 (160,⟨false,1,24,some [.nils],.slice 220,none⟩),
 (164,⟨false,1,8,some [.t (.con .nilFunc)],.other,none⟩),
 (167,⟨false,1,8,some [.t (.con .nilFunc)],.other,none⟩),
 (179,⟨true,18,144,some [zb,zb,zi,zi,zi,zi,zi,zi,zi,zs,zi,zi,zi,zi,zi,zi,zi,zi],.struct [(0,4),(1,4),(2,35)],some (30,[.b,.b,ki,ki,ki,ki,ki,ki,ki,.s,ki,ki,ki,ki,ki,ki,ki,ki])⟩),
 (185,⟨false,1,8,some [.t (.con (.pointer none))],.ptr,none⟩),
 (187,⟨false,1,24,some [.nils],.slice 223,none⟩),
 (188,⟨false,1,24,some [.nils],.slice 4,none⟩),
 (190,⟨true,24,400,some [.nils,.nils,.nils,.nils,.nils,.nils,.nils,zi,zi,zi,zb,zi,zi,zi,zi,.t (.int .u64 0),.nils,zi,zi,.nils,.nils,.nils,.nils,.nils],.struct [(0,31),(19,187),(20,160),(21,188),(22,188),(23,73)],none⟩),
 (191,⟨false,1,24,some [.nils],.slice 233,none⟩),
 (193,⟨true,24,400,some [.nils,.nils,.nils,.nils,.nils,.nils,.nils,zi,zi,zi,zb,zi,zi,zi,zi,.t (.int .u64 0),.nils,zi,zi,.nils,.nils,.nils,.nils,.nils],.struct [(0,31),(19,160),(20,191),(21,188),(22,73),(23,188)],none⟩),
 (198,⟨false,1,8,some [.t (.con .nilFunc)],.other,none⟩),
 (210,⟨false,1,8,some [.t (.con .nilFunc)],.other,none⟩),
 (220,⟨true,17,176,some [zs,zi,zi,zi,zi,zi,zi,zi,zi,zi,zi,.nils,zi,zi,zi,.nils,zi],.struct [(0,9),(1,39),(8,3),(9,121),(12,3),(13,3),(14,3),(15,122),(16,3)],none⟩),
 (223,⟨true,23,224,some [zi,zi,zi,zi,zb,.nils,zi,zi,zi,zi,zi,zi,zi,zs,zi,zi,zi,zi,zi,zi,zi,zi,.nils],.struct [(0,3),(1,3),(2,3),(3,3),(4,4),(5,25),(6,35),(22,36)],none⟩),
 (226,⟨false,1,24,some [.nils],.slice 188,none⟩),
 (233,⟨true,23,224,some [zi,zi,zi,zi,zb,.nils,zi,zi,zi,zi,zi,zi,zi,zs,zi,zi,zi,zi,zi,zi,zi,zi,.nils],.struct [(0,3),(1,3),(2,3),(3,3),(4,4),(5,25),(6,35),(22,36)],none⟩),
 (240,⟨false,1,8,some [.t (.con .nilFunc)],.other,none⟩),
 (249,⟨false,1,8,some [.t (.con .nilFunc)],.other,none⟩),
 (256,⟨false,1,8,some [.t (.con (.map none))],.map 3 258,none⟩),
 (258,⟨true,3,56,some [zb,.nils,.nils],.struct [(0,4),(1,25),(2,25)],none⟩),
 (302,⟨false,1,24,some [.nils],.slice 5,none⟩),
 (306,⟨false,1,8,some [.t (.con .nilFunc)],.other,none⟩),
 (313,⟨false,1,8,some [.t (.int .u64 0)],.int .u64,none⟩),
 (317,⟨true,2,32,some [zs,zs],.arr 2 9,some (30,[.s,.s])⟩),
 (318,⟨true,6,96,some [zs,zs,zs,zs,zs,zs],.arr 6 9,some (30,[.s,.s,.s,.s,.s,.s])⟩),
 (322,⟨false,1,4,some [.t (.int .u32 0)],.int .u32,none⟩)]
def hT:TOK PR T:=TOK.of_eq ar
def hm:PR.follows .mixedOrders=true:=ar
instance:Sd PR T:=⟨hm,hT⟩
end Go.PW
namespace Go.PW
open Go.Proofs.Tryz
open Go.RowKit Go.Proofs Go.Shelf
noncomputable def ZfQ:Ren:=⟨λx=>if x=17 then 334 else if x=22 then 315 else if x=29 then 328 else if x=30 then 329 else if x=36 then 332 else x,λx=>if x=0 then 0 else if x=3 then 3 else if x=4 then 4 else if x=9 then 9 else if x=24 then 119 else x,λx=>x⟩
def ZfR:Lays2.n22 Go.Proofs.Tryz.prog ZfQ where
 mixed:=ar
 f17:=func334.trans (dw some ar)
 f22:=func315.trans (dw some ar)
 f29:=func328.trans (dw some ar)
 f30:=func329.trans (dw some ar)
 f36:=func332.trans (dw some ar)
 t0:=underlying0
 a0:=isAgg0
 z0:=sizeOf0
 v0:=zeroValue0
 t3:=underlying3
 a3:=isAgg3
 z3:=sizeOf3
 v3:=zeroValue3
 t4:=underlying4
 a4:=isAgg4
 z4:=sizeOf4
 v4:=zeroValue4
 t9:=underlying9
 a9:=isAgg9
 z9:=sizeOf9
 v9:=zeroValue9
 t24:=underlying119
 a24:=isAgg119
 z24:=sizeOf119
 v24:=zeroValue119
 i9:=ar
def Zcr:Z4b PR 315 9 (.string ⟨#[]⟩) 16:=Z4b.str ZfR
noncomputable def ZfS:Ren:=⟨λx=>if x=21 then 34 else if x=27 then 74 else if x=28 then 75 else if x=35 then 109 else if x=39 then 145 else x,λx=>if x=0 then 0 else if x=3 then 3 else if x=4 then 4 else if x=22 then 25 else x,λx=>x⟩
def ZfT:Lays2.n21 Go.Proofs.Tryz.prog ZfS where
 mixed:=ar
 f21:=func34.trans (dw some ar)
 f27:=func74.trans (dw some ar)
 f28:=func75.trans (dw some ar)
 f35:=func109.trans (dw some ar)
 f39:=func145.trans (dw some ar)
 t0:=underlying0
 a0:=isAgg0
 z0:=sizeOf0
 v0:=zeroValue0
 t3:=underlying3
 a3:=isAgg3
 z3:=sizeOf3
 v3:=zeroValue3
 t4:=underlying4
 a4:=isAgg4
 z4:=sizeOf4
 v4:=zeroValue4
 t22:=underlying25
 a22:=isAgg25
 z22:=sizeOf25
 v22:=zeroValue25
 i3:=ar
def ZfU:Z4b PR 34 3 (.int .i64 0) 8:=Z4b.int ZfT
end Go.PW
namespace Go.PW
open Go.Proofs.Tryz
open Go.RowKit Go.Proofs Go.Shelf
noncomputable def Ze5:Ren:=⟨λx=>if x=143 then 333 else if x=144 then 331 else if x=217 then 336 else if x=219 then 335 else if x=224 then 338 else if x=225 then 337 else if x=266 then 340 else if x=267 then 339 else if x=314 then 341 else x,λx=>if x=3 then 3 else if x=4 then 4 else if x=5 then 5 else if x=9 then 9 else if x=46 then 313 else if x=51 then 322 else if x=146 then 323 else x,λx=>if x=1 then 0 else x⟩
def Ze6:Lays.n144 Go.Proofs.Tryz.prog Ze5 where
 mixed:=ar
 f143:=func333.trans (dw some ar)
 f144:=func331.trans (dw some ar)
 f217:=func336.trans (dw some ar)
 f219:=func335.trans (dw some ar)
 f224:=func338.trans (dw some ar)
 f225:=func337.trans (dw some ar)
 f266:=func340.trans (dw some ar)
 f267:=func339.trans (dw some ar)
 f314:=func341.trans (dw some ar)
 t3:=underlying3
 a3:=isAgg3
 z3:=sizeOf3
 v3:=zeroValue3
 t4:=underlying4
 a4:=isAgg4
 z4:=sizeOf4
 v4:=zeroValue4
 t5:=underlying5
 a5:=isAgg5
 z5:=sizeOf5
 v5:=zeroValue5
 t9:=underlying9
 a9:=isAgg9
 z9:=sizeOf9
 v9:=zeroValue9
 t46:=underlying313
 a46:=isAgg313
 z46:=sizeOf313
 v46:=zeroValue313
 t51:=underlying322
 a51:=isAgg322
 z51:=sizeOf322
 v51:=zeroValue322
 t146:=underlying323
 a146:=isAgg323
 z146:=sizeOf323
 v146:=zeroValue323
 g1:=ar
def Zcb(s sub:List UInt8){r:Bool}(h:strings_Contains s sub=some r):Fn Go.Proofs.Tryz.prog 331 [.t (.str s),.t (.str sub)] (.t (.bool r)):=by
 unfold strings_Contains at h;split at h
 .rename_i hl;cases h;refine FnG.ofW ⟨_,(Go.Proofs.Tryz.f331.body).getD .skip,func331,by kernel_rfl,by kernel_rfl⟩ λw vals hgl hv=>?_;obtain⟨c,hv⟩:=hv;simp only[VRs,VR,Z9]at hv;obtain⟨v1,r1,rfl,rfl,v2,r2,rfl,rfl,rfl⟩:=hv;obtain⟨_,m,hm⟩:=hgl 0 .anyInt (by unfold gset;first|exact .head _|exact .tail _ (.head _));exact(Any.strings_Contains Ze6 ⟨s.toArray⟩ ⟨sub.toArray⟩ m w (by simpa[ByteArray.size]using hl) hm).mono λe w' ⟨h1,h2⟩=>by subst h1 h2;exact⟨_,rfl,rfl,by simp[VR,Z9]⟩
 cases h
end Go.PW
