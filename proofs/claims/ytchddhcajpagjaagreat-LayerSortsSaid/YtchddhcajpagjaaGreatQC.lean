import Derived.Test.YtchddhcajpagjaaGreatPwYi
import Derived.Test.YtchddhcajpagjaaGreatProg
import Derived.KernelRfl
import Derived.Shelf.Strings.Search3
import Derived.Shelf.Vars
import Derived.HandedShaped
set_option linter.all false
set_option maxRecDepth 100000
namespace Go.PW
open Go.RowKit
abbrev By:=List UInt8
abbrev Bys:=List By
noncomputable abbrev PR:=Go.Proofs.Tryz.prog
abbrev zi:PV :=.t (.int .i64 0)
abbrev zb:PV :=.t (.bool false)
abbrev zs:PV :=.t (.str [])
abbrev ki:LK :=.i .i64
def T:TS:=[
 (3,⟨false,1,8,some [zi],.int .i64,none⟩),
 (4,⟨false,1,1,some [zb],.bool,none⟩),
 (5,⟨false,1,1,some [.t (.int .u8 0)],.int .u8,none⟩),
 (9,⟨false,1,16,some [zs],.str,none⟩),
 (22,⟨false,1,24,some [.nils],.slice 77,none⟩),
 (23,⟨false,1,24,some [.nils],.slice 119,none⟩),
 (24,⟨false,1,24,some [.nils],.slice 56,none⟩),
 (25,⟨false,1,24,some [.nils],.slice 3,none⟩),
 (26,⟨false,1,24,some [.nils],.slice 160,none⟩),
 (27,⟨false,1,24,some [.nils],.slice 162,none⟩),
 (28,⟨false,1,24,some [.nils],.slice 93,none⟩),
 (29,⟨false,1,8,some [.t (.int .u64 0)],.int .u64,none⟩),
 (31,⟨true,19,280,some [.nils,.nils,.nils,.nils,.nils,.nils,.nils,zi,zi,zi,zb,zi,zi,zi,zi,.t (.int .u64 0),.nils,zi,zi],.struct [(0,23),(1,24),(2,25),(3,25),(4,26),(5,27),(6,28),(7,3),(8,3),(9,3),(10,4),(11,3),(12,3),(13,3),(14,3),(15,29),(16,25),(17,3),(18,3)],none⟩),
 (34,⟨false,1,24,some [.nils],.slice 44,none⟩),
 (36,⟨false,1,24,some [.nils],.slice 45,none⟩),
 (39,⟨true,2,16,some [zi,zi],.struct [(0,3),(1,3)],some (30,[ki,ki])⟩),
 (41,⟨true,16,136,some [zi,zi,zi,zi,zi,zi,zi,zs,zi,zi,zi,zi,zi,zi,zi,zi],.struct [(0,3),(1,3),(2,3),(3,3),(4,3),(5,3),(6,3),(7,9),(8,3),(9,3),(10,39),(12,39),(14,39)],some (30,[ki,ki,ki,ki,ki,ki,ki,.s,ki,ki,ki,ki,ki,ki,ki,ki])⟩),
 (42,⟨false,1,24,some [.nils],.slice 79,none⟩),
 (44,⟨true,23,224,some [zi,zi,zi,zi,zb,.nils,zi,zi,zi,zi,zi,zi,zi,zs,zi,zi,zi,zi,zi,zi,zi,zi,.nils],.struct [(0,3),(1,3),(2,3),(3,3),(4,4),(5,25),(6,41),(22,42)],none⟩),
 (45,⟨true,23,224,some [zi,zi,zi,zi,zb,.nils,zi,zi,zi,zi,zi,zi,zi,zs,zi,zi,zi,zi,zi,zi,zi,zi,.nils],.struct [(0,3),(1,3),(2,3),(3,3),(4,4),(5,25),(6,41),(22,42)],none⟩),
 (49,⟨false,1,24,some [.nils],.slice 66,none⟩),
 (54,⟨true,3,24,some [zi,zi,zi],.arr 3 3,some (30,[ki,ki,ki])⟩),
 (56,⟨true,19,128,some [zi,zi,zi,zi,zi,zb,zb,zb,zb,zi,zi,zi,zi,zi,zi,zi,zb,zi,zi],.struct [(0,3),(1,3),(2,3),(3,3),(4,3),(5,4),(6,4),(7,4),(8,4),(9,3),(10,54),(13,3),(14,3),(15,3),(16,4),(17,3),(18,3)],some (30,[ki,ki,ki,ki,ki,.b,.b,.b,.b,ki,ki,ki,ki,ki,ki,ki,.b,ki,ki])⟩),
 (58,⟨true,5,40,some [zi,zi,zi,zi,zi],.arr 5 3,some (30,[ki,ki,ki,ki,ki])⟩),
 (60,⟨true,7,56,some [zi,zi,zi,zi,zi,zi,zi],.struct [(0,3),(1,3),(2,58)],some (30,[ki,ki,ki,ki,ki,ki,ki])⟩),
 (61,⟨false,1,24,some [.nils],.slice 9,none⟩),
 (63,⟨true,3,40,some [zi,zi,.nils],.struct [(0,3),(1,3),(2,61)],none⟩),
 (64,⟨false,1,24,some [.nils],.slice 89,none⟩),
 (66,⟨true,17,176,some [zs,zi,zi,zi,zi,zi,zi,zi,zi,zi,zi,.nils,zi,zi,zi,.nils,zi],.struct [(0,9),(1,60),(8,3),(9,63),(12,3),(13,3),(14,3),(15,64),(16,3)],none⟩),
 (73,⟨false,1,8,some [zi],.int .i64,none⟩),
 (77,⟨true,17,176,some [zs,zb,zi,zi,zi,zi,zi,zi,zi,zi,zi,zi,.nils,zi,zi,zi,.nils],.struct [(0,9),(1,4),(2,60),(9,3),(10,63),(13,3),(14,3),(15,3),(16,64)],none⟩),
 (79,⟨true,20,176,some [zi,zi,zi,zs,zi,zi,zi,zi,zi,zi,zi,zs,zi,zi,zi,zi,zi,zi,zi,zi],.struct [(0,3),(1,3),(2,3),(3,9),(4,41)],some (30,[ki,ki,ki,.s,ki,ki,ki,ki,ki,ki,ki,.s,ki,ki,ki,ki,ki,ki,ki,ki])⟩),
 (81,⟨true,10,72,some [zi,zi,zi,zi,zi,zi,zi,zb,zb,zi],.struct [(0,60),(7,4),(8,4),(9,3)],some (30,[ki,ki,ki,ki,ki,ki,ki,.b,.b,ki])⟩),
 (83,⟨true,18,152,some [zi,zi,zi,zi,zi,zi,zi,zi,zi,zs,zi,zi,zi,zi,zi,zi,zi,zi],.struct [(0,3),(1,3),(2,41)],some (30,[ki,ki,ki,ki,ki,ki,ki,ki,ki,.s,ki,ki,ki,ki,ki,ki,ki,ki])⟩),
 (84,⟨false,1,24,some [.nils],.slice 133,none⟩),
 (85,⟨false,1,24,some [.nils],.slice 140,none⟩),
 (87,⟨true,22,184,some [zi,zi,zi,zi,zi,zi,zi,zi,zi,zs,zi,zi,zi,zi,zi,zi,zi,zi,zi,zi,zi,zi],.struct [(0,3),(1,3),(2,41),(18,3),(19,3),(20,3),(21,3)],some (30,[ki,ki,ki,ki,ki,ki,ki,ki,ki,.s,ki,ki,ki,ki,ki,ki,ki,ki,ki,ki,ki,ki])⟩),
 (89,⟨true,72,640,some [zi,zi,zi,zi,zi,zi,zi,zi,zs,zi,zi,zi,zi,zi,zi,zi,zi,.nils,zi,zi,zi,zi,zi,zi,zi,zb,zb,zi,zb,zi,zi,zi,zi,zi,zi,zi,zi,zi,zs,zi,zi,zi,zi,zi,zi,zi,zi,zb,.nils,.nils,zi,zi,zi,zi,zi,zi,zi,zi,zi,zs,zi,zi,zi,zi,zi,zi,zi,zi,zi,zi,zi,zi],.struct [(0,3),(1,41),(17,42),(18,81),(28,4),(29,83),(47,4),(48,84),(49,85),(50,87)],none⟩),
 (93,⟨true,6,80,some [zi,zi,zi,zi,.nils,.nils],.struct [(0,3),(1,3),(2,3),(3,3),(4,25),(5,42)],none⟩),
 (95,⟨false,1,8,some [.t (.con (.pointer none))],.ptr,none⟩),
 (98,⟨false,1,24,some [.nils],.slice 4,none⟩),
 (99,⟨false,1,24,some [.nils],.slice 25,none⟩),
 (101,⟨true,24,400,some [.nils,.nils,.nils,.nils,.nils,.nils,.nils,zi,zi,zi,zb,zi,zi,zi,zi,.t (.int .u64 0),.nils,zi,zi,.nils,.nils,.nils,.nils,.nils],.struct [(0,31),(19,34),(20,49),(21,98),(22,98),(23,99)],none⟩),
 (103,⟨true,24,400,some [.nils,.nils,.nils,.nils,.nils,.nils,.nils,zi,zi,zi,zb,zi,zi,zi,zi,.t (.int .u64 0),.nils,zi,zi,.nils,.nils,.nils,.nils,.nils],.struct [(0,31),(19,49),(20,36),(21,98),(22,99),(23,98)],none⟩),
 (117,⟨true,6,48,some [zi,zi,zi,zi,zi,zi],.arr 6 3,some (30,[ki,ki,ki,ki,ki,ki])⟩),
 (119,⟨true,14,152,some [zi,zi,zi,zi,zi,zi,zi,zi,zi,zb,zb,.nils,.nils,.nils],.struct [(0,3),(1,3),(2,3),(3,117),(9,4),(10,4),(11,25),(12,25),(13,25)],none⟩),
 (122,⟨false,1,24,some [.nils],.slice 98,none⟩),
 (126,⟨false,1,8,some [.t (.con .nilFunc)],.other,none⟩),
 (133,⟨true,18,144,some [zb,zb,zi,zi,zi,zi,zi,zi,zi,zs,zi,zi,zi,zi,zi,zi,zi,zi],.struct [(0,4),(1,4),(2,41)],some (30,[.b,.b,ki,ki,ki,ki,ki,ki,ki,.s,ki,ki,ki,ki,ki,ki,ki,ki])⟩),
 (136,⟨true,18,152,some [zi,zi,zi,zi,zi,zi,zi,zi,zi,zs,zi,zi,zi,zi,zi,zi,zi,zi],.struct [(0,3),(1,3),(2,41)],some (30,[ki,ki,ki,ki,ki,ki,ki,ki,ki,.s,ki,ki,ki,ki,ki,ki,ki,ki])⟩),
 (138,⟨true,19,160,some [zi,zi,zi,zi,zi,zi,zi,zi,zi,zi,zs,zi,zi,zi,zi,zi,zi,zi,zi],.struct [(0,3),(1,3),(2,3),(3,41)],some (30,[ki,ki,ki,ki,ki,ki,ki,ki,ki,ki,.s,ki,ki,ki,ki,ki,ki,ki,ki])⟩),
 (140,⟨true,64,560,some [zi,zi,zi,zi,zi,zi,zi,zi,zi,zi,zs,zi,zi,zi,zi,zi,zi,zi,zi,zi,zi,zi,zi,zi,zi,zi,zi,zi,zi,zs,zi,zi,zi,zi,zi,zi,zi,zi,zi,zi,zs,zi,zi,zi,zi,zi,zi,zi,zs,zi,zi,zi,zi,zi,zi,zi,zi,zi,zi,zi,zi,zi,zi,.nils],.struct [(0,3),(1,136),(19,138),(38,3),(39,3),(40,9),(41,41),(57,117),(63,42)],none⟩),
 (145,⟨false,1,8,some [.t (.con .nilFunc)],.other,none⟩),
 (146,⟨false,1,8,some [.t (.con .nilFunc)],.other,none⟩),
 (156,⟨false,1,24,some [.nils],.slice 280,none⟩),
 (158,⟨true,15,112,some [zi,zi,zi,zi,zi,zi,zi,zi,zi,zi,zb,zb,zi,zi,zi],.struct [(0,3),(1,3),(2,3),(3,3),(4,3),(5,3),(6,3),(7,3),(8,3),(9,3),(10,4),(11,4),(12,54)],some (30,[ki,ki,ki,ki,ki,ki,ki,ki,ki,ki,.b,.b,ki,ki,ki])⟩),
 (160,⟨true,94,824,some [zi,zi,zi,zi,zi,zb,zi,zi,zi,zi,zi,zi,zi,zi,zs,zi,zi,zi,zi,zi,zi,zi,zi,.nils,zi,zi,zi,zi,zi,zi,zi,zb,zb,zi,zb,zi,zi,zi,zi,zi,zi,zi,zi,zi,zs,zi,zi,zi,zi,zi,zi,zi,zi,zb,.nils,.nils,zi,zi,zi,zi,zi,zi,zi,zi,zi,zs,zi,zi,zi,zi,zi,zi,zi,zi,zi,zi,zi,zi,.nils,zi,zi,zi,zi,zi,zi,zi,zi,zi,zi,zb,zb,zi,zi,zi],.struct [(0,3),(1,3),(2,3),(3,3),(4,3),(5,4),(6,89),(78,156),(79,158)],none⟩),
 (162,⟨true,89,768,some [zi,zi,zi,zi,zi,zi,zi,zi,zi,zi,zs,zi,zi,zi,zi,zi,zi,zi,zi,.nils,zi,zi,zi,zi,zi,zi,zi,zb,zb,zi,zb,zi,zi,zi,zi,zi,zi,zi,zi,zi,zs,zi,zi,zi,zi,zi,zi,zi,zi,zb,.nils,.nils,zi,zi,zi,zi,zi,zi,zi,zi,zi,zs,zi,zi,zi,zi,zi,zi,zi,zi,zi,zi,zi,zi,zi,zi,zi,zi,zi,zi,zi,zi,zi,zi,zb,zb,zi,zi,zi],.struct [(0,3),(1,3),(2,89),(74,158)],none⟩),
 (168,⟨false,1,8,some [.t (.con .nilFunc)],.other,none⟩),
 (171,⟨false,1,8,some [.t (.con (.map none))],.map 3 174,none⟩),
 (172,⟨false,1,8,some [.t (.con .nilFunc)],.other,none⟩),
 (174,⟨true,3,56,some [zb,.nils,.nils],.struct [(0,4),(1,25),(2,25)],none⟩),
 (189,⟨false,1,8,some [.t (.int .u64 0)],.int .u64,none⟩),
 (220,⟨false,1,8,some [.t (.con .nilFunc)],.other,none⟩),
 (254,⟨false,1,24,some [.nils],.slice 5,none⟩),
 (256,⟨true,2,32,some [zs,zs],.arr 2 9,some (30,[.s,.s])⟩),
 (257,⟨true,6,96,some [zs,zs,zs,zs,zs,zs],.arr 6 9,some (30,[.s,.s,.s,.s,.s,.s])⟩),
 (261,⟨false,1,4,some [.t (.int .u32 0)],.int .u32,none⟩),
 (280,⟨true,2,16,some [zi,zi],.struct [(0,3),(1,3)],some (30,[ki,ki])⟩)]
def hT:TOK PR T:=TOK.of_eq bp
def hm:PR.follows .mixedOrders=true:=bp
instance:Sd PR T:=⟨hm,hT⟩
end Go.PW
namespace Go.PW
open Go.Proofs.Tryz
open Go.RowKit Go.Proofs Go.Shelf
noncomputable def Zkz:Ren:=⟨λx=>if x=17 then 268 else if x=22 then 207 else if x=29 then 253 else if x=30 then 254 else if x=36 then 265 else x,λx=>if x=0 then 0 else if x=3 then 3 else if x=4 then 4 else if x=9 then 9 else if x=24 then 61 else x,λx=>x⟩
def ZkA:Lays2.n22 Go.Proofs.Tryz.prog Zkz where
 mixed:=bp
 f17:=func268.trans (fA some bp)
 f22:=func207.trans (fA some bp)
 f29:=func253.trans (fA some bp)
 f30:=func254.trans (fA some bp)
 f36:=func265.trans (fA some bp)
 t0:=underlying0
 a0:=isAgg0
 z0:=sizeOf0
 v0:=zeroValue0
 t3:=underlying3
 a3:=isAgg3
 z3:=sizeOf3
 v3:=zeroValue3
 t4:=underlying4
 a4:=isAgg4
 z4:=sizeOf4
 v4:=zeroValue4
 t9:=underlying9
 a9:=isAgg9
 z9:=sizeOf9
 v9:=zeroValue9
 t24:=underlying61
 a24:=isAgg61
 z24:=sizeOf61
 v24:=zeroValue61
 i9:=bp
def ZkB:Z7i PR 207 9 (.string ⟨#[]⟩) 16:=Z7i.str ZkA
end Go.PW
namespace Go.PW
open Go.Proofs.Tryz
open Go.RowKit Go.Proofs Go.Shelf
noncomputable def ZdG:Ren:=⟨λx=>if x=143 then 267 else if x=144 then 264 else if x=217 then 270 else if x=219 then 269 else if x=224 then 272 else if x=225 then 271 else if x=266 then 274 else if x=267 then 273 else if x=314 then 275 else x,λx=>if x=3 then 3 else if x=4 then 4 else if x=5 then 5 else if x=9 then 9 else if x=46 then 189 else if x=51 then 261 else if x=146 then 262 else x,λx=>if x=1 then 0 else x⟩
def ZdH:Lays.n144 Go.Proofs.Tryz.prog ZdG where
 mixed:=bp
 f143:=func267.trans (fA some bp)
 f144:=func264.trans (fA some bp)
 f217:=func270.trans (fA some bp)
 f219:=func269.trans (fA some bp)
 f224:=func272.trans (fA some bp)
 f225:=func271.trans (fA some bp)
 f266:=func274.trans (fA some bp)
 f267:=func273.trans (fA some bp)
 f314:=func275.trans (fA some bp)
 t3:=underlying3
 a3:=isAgg3
 z3:=sizeOf3
 v3:=zeroValue3
 t4:=underlying4
 a4:=isAgg4
 z4:=sizeOf4
 v4:=zeroValue4
 t5:=underlying5
 a5:=isAgg5
 z5:=sizeOf5
 v5:=zeroValue5
 t9:=underlying9
 a9:=isAgg9
 z9:=sizeOf9
 v9:=zeroValue9
 t46:=underlying189
 a46:=isAgg189
 z46:=sizeOf189
 v46:=zeroValue189
 t51:=underlying261
 a51:=isAgg261
 z51:=sizeOf261
 v51:=zeroValue261
 t146:=underlying262
 a146:=isAgg262
 z146:=sizeOf262
 v146:=zeroValue262
 g1:=bp
def ZdI(s sub:List UInt8){r:Bool}(h:strings_Contains s sub=some r):Fn Go.Proofs.Tryz.prog 264 [.t (.str s),.t (.str sub)] (.t (.bool r)):=by
 unfold strings_Contains at h;split at h
 .rename_i hl;cases h;refine FnG.ofW ⟨_,(Go.Proofs.Tryz.f264.body).getD .skip,func264,by kernel_rfl,by kernel_rfl⟩ λw vals hgl hv=>?_;obtain⟨c,hv⟩:=hv;simp only[VRs,VR,Z7]at hv;obtain⟨v1,r1,rfl,rfl,v2,r2,rfl,rfl,rfl⟩:=hv;obtain⟨_,m,hm⟩:=hgl 0 .anyInt (by unfold gset;first|exact .head _|exact .tail _ (.head _));exact(Any.strings_Contains ZdH ⟨s.toArray⟩ ⟨sub.toArray⟩ m w (by simpa[ByteArray.size]using hl) hm).mono λe w' ⟨h1,h2⟩=>by subst h1 h2;exact⟨_,rfl,rfl,by simp[VR,Z7]⟩
 cases h
end Go.PW
