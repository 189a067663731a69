import Derived.Test.YtlighhlnmglpfaaGreatQT
import Derived.Shelf.Strings.Search3
import Derived.Shelf.Vars
import Derived.HandedShaped
set_option linter.all false
namespace Go.PW
open Go.RowKit Go.Proofs Go.Shelf
noncomputable def Zbfs:Ren:=⟨fun x=>if x=143 then 240 else if x=144 then 233 else if x=217 then 242 else if x=219 then 241 else if x=224 then 244 else if x=225 then 243 else if x=266 then 246 else if x=267 then 245 else if x=314 then 247 else x,fun x=>if x=3 then 3 else if x=4 then 4 else if x=5 then 5 else if x=9 then 9 else if x=46 then 257 else if x=51 then 258 else if x=146 then 259 else x,fun x=>if x=1 then 0 else x⟩
theorem Zbda:Lays.n144 Go.Proofs.Tryz.prog Zbfs where
 mixed:=by kernel_rfl
 f143:=Go.Proofs.Tryz.func240.trans (congrArg some (by kernel_rfl))
 f144:=Go.Proofs.Tryz.func233.trans (congrArg some (by kernel_rfl))
 f217:=Go.Proofs.Tryz.func242.trans (congrArg some (by kernel_rfl))
 f219:=Go.Proofs.Tryz.func241.trans (congrArg some (by kernel_rfl))
 f224:=Go.Proofs.Tryz.func244.trans (congrArg some (by kernel_rfl))
 f225:=Go.Proofs.Tryz.func243.trans (congrArg some (by kernel_rfl))
 f266:=Go.Proofs.Tryz.func246.trans (congrArg some (by kernel_rfl))
 f267:=Go.Proofs.Tryz.func245.trans (congrArg some (by kernel_rfl))
 f314:=Go.Proofs.Tryz.func247.trans (congrArg some (by kernel_rfl))
 t3:=Go.Proofs.Tryz.underlying3
 a3:=Go.Proofs.Tryz.isAgg3
 z3:=Go.Proofs.Tryz.sizeOf3
 v3:=Go.Proofs.Tryz.zeroValue3
 t4:=Go.Proofs.Tryz.underlying4
 a4:=Go.Proofs.Tryz.isAgg4
 z4:=Go.Proofs.Tryz.sizeOf4
 v4:=Go.Proofs.Tryz.zeroValue4
 t5:=Go.Proofs.Tryz.underlying5
 a5:=Go.Proofs.Tryz.isAgg5
 z5:=Go.Proofs.Tryz.sizeOf5
 v5:=Go.Proofs.Tryz.zeroValue5
 t9:=Go.Proofs.Tryz.underlying9
 a9:=Go.Proofs.Tryz.isAgg9
 z9:=Go.Proofs.Tryz.sizeOf9
 v9:=Go.Proofs.Tryz.zeroValue9
 t46:=Go.Proofs.Tryz.underlying257
 a46:=Go.Proofs.Tryz.isAgg257
 z46:=Go.Proofs.Tryz.sizeOf257
 v46:=Go.Proofs.Tryz.zeroValue257
 t51:=Go.Proofs.Tryz.underlying258
 a51:=Go.Proofs.Tryz.isAgg258
 z51:=Go.Proofs.Tryz.sizeOf258
 v51:=Go.Proofs.Tryz.zeroValue258
 t146:=Go.Proofs.Tryz.underlying259
 a146:=Go.Proofs.Tryz.isAgg259
 z146:=Go.Proofs.Tryz.sizeOf259
 v146:=Go.Proofs.Tryz.zeroValue259
 g1:=by kernel_rfl
theorem Zadr(s sub:List UInt8){r:Bool}(h:strings_Contains s sub=some r):Fn Go.Proofs.Tryz.prog 233 [.t (.str s),.t (.str sub)] (.t (.bool r)):=by
 unfold strings_Contains at h
 split at h
 ·rename_i hl
  cases h
  refine FnG.ofW ⟨_,(Go.Proofs.Tryz.f233.body).getD .skip,Go.Proofs.Tryz.func233,by kernel_rfl,by kernel_rfl⟩ fun w vals hgl hv=>?_
  obtain⟨c,hv⟩:=hv
  simp only [VRs,VR,Zam] at hv
  obtain⟨v1,r1,rfl,rfl,v2,r2,rfl,rfl,rfl⟩:=hv
  obtain⟨_,m,hm⟩:=hgl 0 .anyInt (by unfold gset;first | exact .head _ | exact .tail _ (.head _))
  exact (Any.strings_Contains Zbda ⟨s.toArray⟩ ⟨sub.toArray⟩ m w (by simpa [ByteArray.size] using hl) hm).mono fun e w' ⟨h1,h2⟩=>by
   subst h1 h2
   exact⟨_,rfl,rfl,by simp [VR,Zam]⟩
 ·cases h
end Go.PW
