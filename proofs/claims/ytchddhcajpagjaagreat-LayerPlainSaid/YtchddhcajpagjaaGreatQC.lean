import Derived.Test.YtchddhcajpagjaaGreatQI
import Derived.Test.YtchddhcajpagjaaGreatQT
import Derived.Shelf.Strings.Search3
import Derived.Shelf.Vars
import Derived.HandedShaped
set_option linter.all false
namespace Go.PW
open Go.RowKit Go.Proofs Go.Shelf
noncomputable def Zbba:Ren:=⟨fun x=>if x=143 then 267 else if x=144 then 264 else if x=217 then 270 else if x=219 then 269 else if x=224 then 272 else if x=225 then 271 else if x=266 then 274 else if x=267 then 273 else if x=314 then 275 else x,fun x=>if x=3 then 3 else if x=4 then 4 else if x=5 then 5 else if x=9 then 9 else if x=46 then 189 else if x=51 then 261 else if x=146 then 262 else x,fun x=>if x=1 then 0 else x⟩
theorem Za7i:Lays.n144 Go.Proofs.Tryz.prog Zbba where
 mixed:=by kernel_rfl
 f143:=Go.Proofs.Tryz.func267.trans (congrArg some (by kernel_rfl))
 f144:=Go.Proofs.Tryz.func264.trans (congrArg some (by kernel_rfl))
 f217:=Go.Proofs.Tryz.func270.trans (congrArg some (by kernel_rfl))
 f219:=Go.Proofs.Tryz.func269.trans (congrArg some (by kernel_rfl))
 f224:=Go.Proofs.Tryz.func272.trans (congrArg some (by kernel_rfl))
 f225:=Go.Proofs.Tryz.func271.trans (congrArg some (by kernel_rfl))
 f266:=Go.Proofs.Tryz.func274.trans (congrArg some (by kernel_rfl))
 f267:=Go.Proofs.Tryz.func273.trans (congrArg some (by kernel_rfl))
 f314:=Go.Proofs.Tryz.func275.trans (congrArg some (by kernel_rfl))
 t3:=Go.Proofs.Tryz.underlying3
 a3:=Go.Proofs.Tryz.isAgg3
 z3:=Go.Proofs.Tryz.sizeOf3
 v3:=Go.Proofs.Tryz.zeroValue3
 t4:=Go.Proofs.Tryz.underlying4
 a4:=Go.Proofs.Tryz.isAgg4
 z4:=Go.Proofs.Tryz.sizeOf4
 v4:=Go.Proofs.Tryz.zeroValue4
 t5:=Go.Proofs.Tryz.underlying5
 a5:=Go.Proofs.Tryz.isAgg5
 z5:=Go.Proofs.Tryz.sizeOf5
 v5:=Go.Proofs.Tryz.zeroValue5
 t9:=Go.Proofs.Tryz.underlying9
 a9:=Go.Proofs.Tryz.isAgg9
 z9:=Go.Proofs.Tryz.sizeOf9
 v9:=Go.Proofs.Tryz.zeroValue9
 t46:=Go.Proofs.Tryz.underlying189
 a46:=Go.Proofs.Tryz.isAgg189
 z46:=Go.Proofs.Tryz.sizeOf189
 v46:=Go.Proofs.Tryz.zeroValue189
 t51:=Go.Proofs.Tryz.underlying261
 a51:=Go.Proofs.Tryz.isAgg261
 z51:=Go.Proofs.Tryz.sizeOf261
 v51:=Go.Proofs.Tryz.zeroValue261
 t146:=Go.Proofs.Tryz.underlying262
 a146:=Go.Proofs.Tryz.isAgg262
 z146:=Go.Proofs.Tryz.sizeOf262
 v146:=Go.Proofs.Tryz.zeroValue262
 g1:=by kernel_rfl
theorem Zaa1(s sub:List UInt8){r:Bool}(h:strings_Contains s sub=some r):Fn Go.Proofs.Tryz.prog 264 [.t (.str s),.t (.str sub)] (.t (.bool r)):=by
 unfold strings_Contains at h
 split at h
 .rename_i hl
  cases h
  refine FnG.ofW ⟨_,(Go.Proofs.Tryz.f264.body).getD .skip,Go.Proofs.Tryz.func264,by kernel_rfl,by kernel_rfl⟩ fun w vals hgl hv=>?_
  obtain⟨c,hv⟩:=hv
  simp only [VRs,VR,Z2] at hv
  obtain⟨v1,r1,rfl,rfl,v2,r2,rfl,rfl,rfl⟩:=hv
  obtain⟨_,m,hm⟩:=hgl 0 .anyInt (by unfold gset;first | exact .head _ | exact .tail _ (.head _))
  exact (Any.strings_Contains Za7i ⟨s.toArray⟩ ⟨sub.toArray⟩ m w (by simpa [ByteArray.size] using hl) hm).mono fun e w' ⟨h1,h2⟩=>by
   subst h1 h2
   exact⟨_,rfl,rfl,by simp [VR,Z2]⟩
 .cases h
end Go.PW
