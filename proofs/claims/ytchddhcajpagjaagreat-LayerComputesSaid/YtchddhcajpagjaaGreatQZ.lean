import Derived.Test.YtchddhcajpagjaaGreatQY
set_option linter.all false
namespace Go.Proofs.YtchddhcajpagjaaGreat
open Go.ChangeShapes Go.WideShapes Go.ChangeAt Go.RowKit Go.PW
set_option maxRecDepth 100000 in
theorem ZoP(os:Os)(started:os.Started)(H:Type)(enc:TypeId×Value->H) :
 ReturnsInHanded {} Tryz.checked os 4 .any (Rows.layerComputesSpec.pre6 enc Tryz.prog Tryz.f4 Rows.layerComputesRow.domain false) (Rows.layerComputesSpec.post enc Tryz.prog Tryz.f4 false true false false):=by
 refine returnsInHanded_of_change_shaped (C:=Tryz.checked) Tryz.own started (by kernel_rfl) Tryz.func4
  (ChangeSpec.witness6 (enc:=enc) (C:=Tryz.checked) false ⟨#[],#[.slice none 0 0,.agg #[.slice none 0 0,.slice none 0 0,.slice none 0 0,.slice none 0 0,.slice none 0 0,.slice none 0 0,.slice none 0 0,.int .i64 0,.int .i64 0,.int .i64 0,.bool false,.int .i64 0,.int .i64 0,.int .i64 0,.int .i64 0,.int .u64 0,.slice none 0 0,.int .i64 0,.int .i64 0]],[]⟩ 8 (by kernel_rfl) (by kernel_rfl) (by kernel_rfl) (by kernel_rfl)) ?_
 intro W base args ds gs before hval0 hW hcnd hwt hsh _;have hval:∀(j:Nat) t v,Tryz.f4.params[j]?=some t->args[j]?=some v->Value.okWide Tryz.prog W .any base t v:=hval0;have hW':=hW;obtain⟨p,q,hA0,hV,rfl,hfz,hnd⟩:=hW;have hA:DataW.TrodAll enc Tryz.prog W 0 (λ_=>true) true Tryz.f4.params.toList args.toList ds p:=hA0;have hwt':(DataW.weightsEach Tryz.prog (Tryz.f4.params.toList++_) (ds++gs)).all (· <= reachBytes)=true:=hwt;rw[Tryz.params4]at hA hval hwt';obtain⟨v0,v1,d0,d1,p0,p1,rfl,rfl,rfl,h0,h1⟩:=trodAll_two hA;obtain⟨rfl,rfl⟩:=trodVars_none hV;obtain⟨x0,hx0,hv0⟩:=Qh (D:=30) (eK Go.Proofs.Tryz.underlying22 (by kernel_rfl:Go.Proofs.Tryz.prog.bytesOf 77=176) ZkJ) (by kernel_rfl) (hval 0 22 v0 rfl rfl) h0 (Qi hwt' (i:=0) (t:=22) (d:=d0) rfl rfl);rw[ZoQ Go.Proofs.Tryz.underlying22]at hv0;obtain⟨x1,hx1,hv1⟩:=Qh (D:=30) ZkQ (by kernel_rfl) (hval 1 31 v1 rfl rfl) h1 (Qi hwt' (i:=1) (t:=31) (d:=d1) rfl rfl);rw[ZoR Go.Proofs.Tryz.underlying31]at hv1;refine(ZoS (ZoT hsh) (qs:=[_,_]) (ZoL x0 x1 ((@ZiV x0 x1 (eM hx0 (λ_ h=>ZoU h)) (ZoV hx1)).eq)) (by simp only[VRs];exact⟨v0,_,rfl,hv0,v1,[],rfl,hv1,rfl⟩)).mono λe W' ⟨he,hB⟩=>?_;subst he;have hlt:∀x∈p0++p1,x.block<W.heap.size:=λx hx=>hW'.lt x (by simpa using hx);exact⟨_,rfl,_,_,_,[],_,[],hW',trodAll_mk1 (shut_bool Tryz.underlying4 true),trodAll_mk2 (Below.trod Tryz.laidOut (by kernel_rfl) (of_decide_eq_true (by kernel_rfl)) h0 hB (λx hx=>hlt x (by simp[hx]))) (Below.trod Tryz.laidOut (by kernel_rfl) (of_decide_eq_true (by kernel_rfl)) h1 hB (λx hx=>hlt x (by simp[hx]))),rfl,hB.frame _,λh=>by cases h⟩
theorem cY{a b:Bool}(h:a=true)(g:b=true):(a&&b)=true:=by subst h;subst g;rfl
theorem ZoW:(Rows.layerComputesRow.inPlace==Tryz.pinned.checked.prog.inPlace 4)=true:=by kernel_rfl
theorem ZoX:(Rows.layerComputesRow.unfollowed==Tryz.pinned.checked.prog.unfollowed 4)=true:=by kernel_rfl
theorem ZoY:(Rows.layerComputesRow.recurses==Tryz.pinned.checked.prog.recurses 4)=true:=by kernel_rfl
theorem ZoZ:(Rows.layerComputesRow.named==Tryz.pinned.checked.prog.varsNamed 4)=true:=by kernel_rfl
theorem ZpA:(Rows.layerComputesRow.maps==(Tryz.f4.params.toList++Rows.layerComputesSpec.plain.varTypes Tryz.pinned.checked.prog).any (Tryz.pinned.checked.prog.mapsRec ·))=true:=by kernel_rfl
theorem ZpB:(Rows.layerComputesRow.ifaces==(Tryz.f4.params.toList++Rows.layerComputesSpec.plain.varTypes Tryz.pinned.checked.prog).any (Tryz.pinned.checked.prog.ifacesRec ·))=true:=by kernel_rfl
theorem ZpC:(Rows.layerComputesRow.loops==(Tryz.f4.params.toList++Rows.layerComputesSpec.plain.varTypes Tryz.pinned.checked.prog).any (Tryz.pinned.checked.prog.loopsFrom ·))=true:=by kernel_rfl
theorem ZpD:(Rows.layerComputesRow.wideKeys==(Tryz.f4.params.toList++Rows.layerComputesSpec.plain.varTypes Tryz.pinned.checked.prog++Tryz.f4.resultTypes.toList).any (Tryz.pinned.checked.prog.wideKeysFrom ·))=true:=by kernel_rfl
theorem ZpE:(Rows.layerComputesRow.veiled==(Tryz.f4.params.toList++Rows.layerComputesSpec.plain.varTypes Tryz.pinned.checked.prog++Tryz.f4.resultTypes.toList).any (Tryz.pinned.checked.prog.veiledRec ·))=true:=by kernel_rfl
theorem ZpF:Rows.layerComputesRow.veiledFits Tryz.pinned.checked.prog Tryz.f4.params.toList (Tryz.f4.params.toList++Rows.layerComputesSpec.plain.varTypes Tryz.pinned.checked.prog++Tryz.f4.resultTypes.toList)=true:=by kernel_rfl
set_option maxRecDepth 100000 in
theorem ZpG:joinedFacts Tryz.pinned.checked.prog 4 Tryz.f4 Rows.layerComputesSpec Rows.layerComputesRow=true:=by unfold joinedFacts;exact cY (cY (cY (cY (cY (cY (cY (cY (cY (cY (cY (cY (cY (cY (cY (cY (cY (cY (cY (cY (cY (cY (cY (cY (cY (cY (cY (cY (cY (cY (cY (by kernel_rfl) (by kernel_rfl)) (by kernel_rfl)) (by kernel_rfl)) (by kernel_rfl)) (by kernel_rfl)) (by kernel_rfl)) (by kernel_rfl)) (by kernel_rfl)) ZoW) ZoX) ZoY) ZoZ) ZpA) ZpB) (by kernel_rfl)) ZpC) ZpD) (by kernel_rfl)) (by kernel_rfl)) (by kernel_rfl)) (by kernel_rfl)) (by kernel_rfl)) (by kernel_rfl)) (by kernel_rfl)) (by kernel_rfl)) (by kernel_rfl)) (by kernel_rfl)) (by kernel_rfl)) (by kernel_rfl)) ZpE) ZpF
theorem layerComputes_holds:Rows.LayerComputesSaid:=
 OpenClaim.holds_of_wide 4 Tryz.f4 rfl rfl rfl rfl rfl rfl rfl ⟨rfl,rfl,rfl,rfl,rfl⟩ rfl rfl rfl rfl rfl (by kernel_rfl) Tryz.func4 ZpG
  (of_decide_eq_true (by kernel_rfl)) (by unfold Func.isWrapper;first|(rw[if_pos (by decide+kernel)];kernel_rfl)|(rw[if_neg (by decide+kernel)];exact⟨rfl,rfl⟩))
  (λos started H enc _=>ZoP os started H enc)
end Go.Proofs.YtchddhcajpagjaaGreat
