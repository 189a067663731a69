import Derived.Test.YtchddhcajpagjaaGreatQY
set_option linter.all false
namespace Go.Proofs.YtchddhcajpagjaaGreat
open Go.ChangeShapes Go.WideShapes Go.ChangeAt Go.RowKit Go.PW
set_option maxRecDepth 100000 in
theorem Zafc(os:Os)(started:os.Started)(H:Type)(enc:TypeId×Value->H) :
 ReturnsInHanded {} Tryz.checked os 5 .any (Rows.layerOrderSpec.pre6 enc Tryz.prog Tryz.f5 Rows.layerOrderRow.domain false) (Rows.layerOrderSpec.post enc Tryz.prog Tryz.f5 false true false false):=by
 refine returnsInHanded_of_change_shaped (C:=Tryz.checked) Tryz.own started (by kernel_rfl) Tryz.func5
  (ChangeSpec.witness6 (enc:=enc) (C:=Tryz.checked) false ⟨#[],#[.slice none 0 0,.agg #[.slice none 0 0,.slice none 0 0,.slice none 0 0,.slice none 0 0,.slice none 0 0,.slice none 0 0,.slice none 0 0,.int .i64 0,.int .i64 0,.int .i64 0,.bool false,.int .i64 0,.int .i64 0,.int .i64 0,.int .i64 0,.int .u64 0,.slice none 0 0,.int .i64 0,.int .i64 0],.int .i64 0],[]⟩ 8 (by kernel_rfl) (by kernel_rfl) (by kernel_rfl) (by kernel_rfl)) ?_
 intro W base args ds gs before hval0 hW hcnd hwt hsh _
 have hval:∀ (j:Nat) t v,Tryz.f5.params[j]?=some t->args[j]?=some v->Value.okWide Tryz.prog W .any base t v:=hval0
 have hW':=hW
 obtain⟨p,q,hA0,hV,rfl,hfz,hnd⟩:=hW
 have hA:DataW.TrodAll enc Tryz.prog W 0 (fun _=>true) true Tryz.f5.params.toList args.toList ds p:=hA0
 have hwt':(DataW.weightsEach Tryz.prog (Tryz.f5.params.toList++_) (ds++gs)).all (· <= reachBytes)=true:=hwt
 rw [Tryz.params5] at hA hval hwt'
 obtain⟨v0,v1,v2,d0,d1,d2,p0,p1,p2,rfl,rfl,rfl,h0,h1,h2⟩:=trodAll_three hA
 obtain⟨rfl,rfl⟩:=trodVars_none hV
 obtain⟨x0,hx0,hv0⟩:=Zaif (D:=30) (Zd9 Go.Proofs.Tryz.underlying22 (by kernel_rfl:Go.Proofs.Tryz.prog.bytesOf 77=176) Zatv) (by kernel_rfl) (hval 0 22 v0 rfl rfl) h0 (Z7z hwt' (i:=0) (t:=22) (d:=d0) rfl rfl)
 rw [Zbap Go.Proofs.Tryz.underlying22] at hv0
 obtain⟨x1,hx1,hv1⟩:=Zaif (D:=30) Zaqg (by kernel_rfl) (hval 1 31 v1 rfl rfl) h1 (Z7z hwt' (i:=1) (t:=31) (d:=d1) rfl rfl)
 rw [Za60 Go.Proofs.Tryz.underlying31] at hv1
 obtain⟨x2,hx2,hv2⟩:=Zaif (D:=30) (Zu Go.Proofs.Tryz.underlying3) (by kernel_rfl) (hval 2 3 v2 rfl rfl) h2 (Z7z hwt' (i:=2) (t:=3) (d:=d2) rfl rfl)
 rw [Zbgh Go.Proofs.Tryz.underlying3] at hv2
 refine (Za6x (Zbl6 hsh) (qs:=[_,_,_]) (Zae0 x0 x1 x2 ((@Zad2 x0 x1 x2 (Zfk hx0 (fun _ h=>Zap0 h)) (Zank hx1)).eq)) (by simp only [VRs];exact⟨v0,_,rfl,hv0,v1,_,rfl,hv1,v2,[],rfl,hv2,rfl⟩)).mono fun e W' ⟨he,hB⟩=>?_
 subst he
 have hlt:∀ x∈p0++(p1++p2),x.block < W.heap.size:=fun x hx=>hW'.lt x (by simpa using hx)
 exact⟨_,rfl,_,_,_,[],_,[],hW',trodAll_mk1 (shut_bool Tryz.underlying4 true),trodAll_mk3 (Below.trod Tryz.laidOut (by kernel_rfl) (of_decide_eq_true (by kernel_rfl)) h0 hB (fun x hx=>hlt x (by simp [hx]))) (Below.trod Tryz.laidOut (by kernel_rfl) (of_decide_eq_true (by kernel_rfl)) h1 hB (fun x hx=>hlt x (by simp [hx]))) (Below.trod Tryz.laidOut (by kernel_rfl) (of_decide_eq_true (by kernel_rfl)) h2 hB (fun x hx=>hlt x (by simp [hx]))),rfl,hB.frame _,fun h=>by cases h⟩
theorem Zf0{a b:Bool}(h:a=true)(g:b=true):(a&&b)=true:=by subst h;subst g;rfl
theorem Zaqh:(Rows.layerOrderRow.inPlace==Tryz.pinned.checked.prog.inPlace 5)=true:=by kernel_rfl
theorem Zaqi:(Rows.layerOrderRow.unfollowed==Tryz.pinned.checked.prog.unfollowed 5)=true:=by kernel_rfl
theorem Zaqj:(Rows.layerOrderRow.recurses==Tryz.pinned.checked.prog.recurses 5)=true:=by kernel_rfl
theorem Zaqk:(Rows.layerOrderRow.named==Tryz.pinned.checked.prog.varsNamed 5)=true:=by kernel_rfl
theorem Zaql:(Rows.layerOrderRow.maps==(Tryz.f5.params.toList++Rows.layerOrderSpec.plain.varTypes Tryz.pinned.checked.prog).any (Tryz.pinned.checked.prog.mapsRec ·))=true:=by kernel_rfl
theorem Zaqm:(Rows.layerOrderRow.ifaces==(Tryz.f5.params.toList++Rows.layerOrderSpec.plain.varTypes Tryz.pinned.checked.prog).any (Tryz.pinned.checked.prog.ifacesRec ·))=true:=by kernel_rfl
theorem Zaqn:(Rows.layerOrderRow.loops==(Tryz.f5.params.toList++Rows.layerOrderSpec.plain.varTypes Tryz.pinned.checked.prog).any (Tryz.pinned.checked.prog.loopsFrom ·))=true:=by kernel_rfl
theorem Zaqo:(Rows.layerOrderRow.wideKeys==(Tryz.f5.params.toList++Rows.layerOrderSpec.plain.varTypes Tryz.pinned.checked.prog++Tryz.f5.resultTypes.toList).any (Tryz.pinned.checked.prog.wideKeysFrom ·))=true:=by kernel_rfl
theorem Zaqp:(Rows.layerOrderRow.veiled==(Tryz.f5.params.toList++Rows.layerOrderSpec.plain.varTypes Tryz.pinned.checked.prog++Tryz.f5.resultTypes.toList).any (Tryz.pinned.checked.prog.veiledRec ·))=true:=by kernel_rfl
theorem Zaqq:Rows.layerOrderRow.veiledFits Tryz.pinned.checked.prog Tryz.f5.params.toList (Tryz.f5.params.toList++Rows.layerOrderSpec.plain.varTypes Tryz.pinned.checked.prog++Tryz.f5.resultTypes.toList)=true:=by kernel_rfl
set_option maxRecDepth 100000 in
theorem Zafd:joinedFacts Tryz.pinned.checked.prog 5 Tryz.f5 Rows.layerOrderSpec Rows.layerOrderRow=true:=by
 unfold joinedFacts
 exact Zf0 (Zf0 (Zf0 (Zf0 (Zf0 (Zf0 (Zf0 (Zf0 (Zf0 (Zf0 (Zf0 (Zf0 (Zf0 (Zf0 (Zf0 (Zf0 (Zf0 (Zf0 (Zf0 (Zf0 (Zf0 (Zf0 (Zf0 (Zf0 (Zf0 (Zf0 (Zf0 (Zf0 (Zf0 (Zf0 (Zf0 (by kernel_rfl) (by kernel_rfl)) (by kernel_rfl)) (by kernel_rfl)) (by kernel_rfl)) (by kernel_rfl)) (by kernel_rfl)) (by kernel_rfl)) (by kernel_rfl)) Zaqh) Zaqi) Zaqj) Zaqk) Zaql) Zaqm) (by kernel_rfl)) Zaqn) Zaqo) (by kernel_rfl)) (by kernel_rfl)) (by kernel_rfl)) (by kernel_rfl)) (by kernel_rfl)) (by kernel_rfl)) (by kernel_rfl)) (by kernel_rfl)) (by kernel_rfl)) (by kernel_rfl)) (by kernel_rfl)) (by kernel_rfl)) Zaqp) Zaqq
theorem layerOrder_holds:Rows.LayerOrderSaid:=
 OpenClaim.holds_of_wide 5 Tryz.f5 rfl rfl rfl rfl rfl rfl rfl ⟨rfl,rfl,rfl,rfl,rfl⟩ rfl rfl rfl rfl rfl (by kernel_rfl) Tryz.func5 Zafd
  (of_decide_eq_true (by kernel_rfl)) (by unfold Func.isWrapper;first | (rw [if_pos (by decide +kernel)];kernel_rfl) | (rw [if_neg (by decide +kernel)];exact⟨rfl,rfl⟩))
  (fun os started H enc _=>Zafc os started H enc)
end Go.Proofs.YtchddhcajpagjaaGreat
