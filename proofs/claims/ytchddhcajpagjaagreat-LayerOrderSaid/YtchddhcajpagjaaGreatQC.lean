import Derived.Test.YtchddhcajpagjaaGreatQI
import Derived.Test.YtchddhcajpagjaaGreatQT
import Derived.Shelf.Strings.Search3
import Derived.Shelf.Vars
import Derived.HandedShaped
set_option linter.all false
namespace Go.PW
open Go.Proofs.Tryz
open Go.RowKit Go.Proofs Go.Shelf
noncomputable def Zba0:Ren:=⟨fun x=>if x=143 then 267 else if x=144 then 264 else if x=217 then 270 else if x=219 then 269 else if x=224 then 272 else if x=225 then 271 else if x=266 then 274 else if x=267 then 273 else if x=314 then 275 else x,fun x=>if x=3 then 3 else if x=4 then 4 else if x=5 then 5 else if x=9 then 9 else if x=46 then 189 else if x=51 then 261 else if x=146 then 262 else x,fun x=>if x=1 then 0 else x⟩
theorem Za64:Lays.n144 Go.Proofs.Tryz.prog Zba0 where
 mixed:=by kernel_rfl
 f143:=func267.trans (congrArg some (by kernel_rfl))
 f144:=func264.trans (congrArg some (by kernel_rfl))
 f217:=func270.trans (congrArg some (by kernel_rfl))
 f219:=func269.trans (congrArg some (by kernel_rfl))
 f224:=func272.trans (congrArg some (by kernel_rfl))
 f225:=func271.trans (congrArg some (by kernel_rfl))
 f266:=func274.trans (congrArg some (by kernel_rfl))
 f267:=func273.trans (congrArg some (by kernel_rfl))
 f314:=func275.trans (congrArg some (by kernel_rfl))
 t3:=underlying3
 a3:=isAgg3
 z3:=sizeOf3
 v3:=zeroValue3
 t4:=underlying4
 a4:=isAgg4
 z4:=sizeOf4
 v4:=zeroValue4
 t5:=underlying5
 a5:=isAgg5
 z5:=sizeOf5
 v5:=zeroValue5
 t9:=underlying9
 a9:=isAgg9
 z9:=sizeOf9
 v9:=zeroValue9
 t46:=underlying189
 a46:=isAgg189
 z46:=sizeOf189
 v46:=zeroValue189
 t51:=underlying261
 a51:=isAgg261
 z51:=sizeOf261
 v51:=zeroValue261
 t146:=underlying262
 a146:=isAgg262
 z146:=sizeOf262
 v146:=zeroValue262
 g1:=by kernel_rfl
theorem Zaau(s sub:List UInt8){r:Bool}(h:strings_Contains s sub=some r):Fn Go.Proofs.Tryz.prog 264 [.t (.str s),.t (.str sub)] (.t (.bool r)):=by
 unfold strings_Contains at h
 split at h
 .rename_i hl
  cases h
  refine FnG.ofW ⟨_,(Go.Proofs.Tryz.f264.body).getD .skip,func264,by kernel_rfl,by kernel_rfl⟩ fun w vals hgl hv=>?_
  obtain⟨c,hv⟩:=hv
  simp only [VRs,VR,Z0] at hv
  obtain⟨v1,r1,rfl,rfl,v2,r2,rfl,rfl,rfl⟩:=hv
  obtain⟨_,m,hm⟩:=hgl 0 .anyInt (by unfold gset;first | exact .head _ | exact .tail _ (.head _))
  exact (Any.strings_Contains Za64 ⟨s.toArray⟩ ⟨sub.toArray⟩ m w (by simpa [ByteArray.size] using hl) hm).mono fun e w' ⟨h1,h2⟩=>by
   subst h1 h2
   exact⟨_,rfl,rfl,by simp [VR,Z0]⟩
 .cases h
end Go.PW
