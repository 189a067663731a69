import Derived.Test.YtchddhcajpagjaaGreatQY
set_option linter.all false
namespace Go.Proofs.YtchddhcajpagjaaGreat
open Go.ChangeShapes Go.WideShapes Go.ChangeAt Go.RowKit Go.PW
set_option maxRecDepth 100000 in
theorem Zaf7(os:Os)(started:os.Started)(H:Type)(enc:TypeId×Value->H) :
 ReturnsInHanded {} Tryz.checked os 8 .any (Rows.layerFindsSpec.pre6 enc Tryz.prog Tryz.f8 Rows.layerFindsRow.domain false) (Rows.layerFindsSpec.post enc Tryz.prog Tryz.f8 false true false false):=by
 refine returnsInHanded_of_change_shaped (C:=Tryz.checked) Tryz.own started (by kernel_rfl) Tryz.func8
  (ChangeSpec.witness6 (enc:=enc) (C:=Tryz.checked) false ⟨#[],#[.slice none 0 0,.agg #[.slice none 0 0,.slice none 0 0,.slice none 0 0,.slice none 0 0,.slice none 0 0,.slice none 0 0,.slice none 0 0,.int .i64 0,.int .i64 0,.int .i64 0,.bool false,.int .i64 0,.int .i64 0,.int .i64 0,.int .i64 0,.int .u64 0,.slice none 0 0,.int .i64 0,.int .i64 0],.int .i64 0],[]⟩ 8 (by kernel_rfl) (by kernel_rfl) (by kernel_rfl) (by kernel_rfl)) ?_
 intro W base args ds gs before hval0 hW hcnd hwt hsh _
 have hval:∀ (j:Nat) t v,Tryz.f8.params[j]?=some t->args[j]?=some v->Value.okWide Tryz.prog W .any base t v:=hval0
 have hW':=hW
 obtain⟨p,q,hA0,hV,rfl,hfz,hnd⟩:=hW
 have hA:DataW.TrodAll enc Tryz.prog W 0 (fun _=>true) true Tryz.f8.params.toList args.toList ds p:=hA0
 have hwt':(DataW.weightsEach Tryz.prog (Tryz.f8.params.toList++_) (ds++gs)).all (· <= reachBytes)=true:=hwt
 rw [Tryz.params8] at hA hval hwt'
 obtain⟨v0,v1,v2,d0,d1,d2,p0,p1,p2,rfl,rfl,rfl,h0,h1,h2⟩:=trodAll_three hA
 obtain⟨rfl,rfl⟩:=trodVars_none hV
 obtain⟨x0,hx0,hv0⟩:=Zaii (D:=30) (Zek Go.Proofs.Tryz.underlying22 (by kernel_rfl:Go.Proofs.Tryz.prog.bytesOf 77=176) Zasz) (by kernel_rfl) (hval 0 22 v0 rfl rfl) h0 (Z9s hwt' (i:=0) (t:=22) (d:=d0) rfl rfl)
 rw [Za6n Go.Proofs.Tryz.underlying22] at hv0
 obtain⟨x1,hx1,hv1⟩:=Zaii (D:=30) Zaqa (by kernel_rfl) (hval 1 31 v1 rfl rfl) h1 (Z9s hwt' (i:=1) (t:=31) (d:=d1) rfl rfl)
 rw [Za30 Go.Proofs.Tryz.underlying31] at hv1
 obtain⟨x2,hx2,hv2⟩:=Zaii (D:=30) (Zw Go.Proofs.Tryz.underlying3) (by kernel_rfl) (hval 2 3 v2 rfl rfl) h2 (Z9s hwt' (i:=2) (t:=3) (d:=d2) rfl rfl)
 rw [Za9g Go.Proofs.Tryz.underlying3] at hv2
 refine (Za3y (Zbag hsh) (qs:=[_,_,_]) (Zafv x0 x1 x2 ((@Zae1 x0 x1 x2 (Zf5 hx0 (fun _ h=>Zapv h)) (Zan0 hx1)).eq)) (by simp only [VRs];exact⟨v0,_,rfl,hv0,v1,_,rfl,hv1,v2,[],rfl,hv2,rfl⟩)).mono fun e W' ⟨he,hB⟩=>?_
 subst he
 have hlt:∀ x∈p0++(p1++p2),x.block < W.heap.size:=fun x hx=>hW'.lt x (by simpa using hx)
 exact⟨_,rfl,_,_,_,[],_,[],hW',trodAll_mk1 (shut_bool Tryz.underlying4 true),trodAll_mk3 (Below.trod Tryz.laidOut (by kernel_rfl) (of_decide_eq_true (by kernel_rfl)) h0 hB (fun x hx=>hlt x (by simp [hx]))) (Below.trod Tryz.laidOut (by kernel_rfl) (of_decide_eq_true (by kernel_rfl)) h1 hB (fun x hx=>hlt x (by simp [hx]))) (Below.trod Tryz.laidOut (by kernel_rfl) (of_decide_eq_true (by kernel_rfl)) h2 hB (fun x hx=>hlt x (by simp [hx]))),rfl,hB.frame _,fun h=>by cases h⟩
theorem Zgi{a b:Bool}(h:a=true)(g:b=true):(a&&b)=true:=by subst h;subst g;rfl
theorem Zaqb:(Rows.layerFindsRow.inPlace==Tryz.pinned.checked.prog.inPlace 8)=true:=by kernel_rfl
theorem Zaqc:(Rows.layerFindsRow.unfollowed==Tryz.pinned.checked.prog.unfollowed 8)=true:=by kernel_rfl
theorem Zaqd:(Rows.layerFindsRow.recurses==Tryz.pinned.checked.prog.recurses 8)=true:=by kernel_rfl
theorem Zaqe:(Rows.layerFindsRow.named==Tryz.pinned.checked.prog.varsNamed 8)=true:=by kernel_rfl
theorem Zaqf:(Rows.layerFindsRow.maps==(Tryz.f8.params.toList++Rows.layerFindsSpec.plain.varTypes Tryz.pinned.checked.prog).any (Tryz.pinned.checked.prog.mapsRec ·))=true:=by kernel_rfl
theorem Zaqg:(Rows.layerFindsRow.ifaces==(Tryz.f8.params.toList++Rows.layerFindsSpec.plain.varTypes Tryz.pinned.checked.prog).any (Tryz.pinned.checked.prog.ifacesRec ·))=true:=by kernel_rfl
theorem Zaqh:(Rows.layerFindsRow.loops==(Tryz.f8.params.toList++Rows.layerFindsSpec.plain.varTypes Tryz.pinned.checked.prog).any (Tryz.pinned.checked.prog.loopsFrom ·))=true:=by kernel_rfl
theorem Zaqi:(Rows.layerFindsRow.wideKeys==(Tryz.f8.params.toList++Rows.layerFindsSpec.plain.varTypes Tryz.pinned.checked.prog++Tryz.f8.resultTypes.toList).any (Tryz.pinned.checked.prog.wideKeysFrom ·))=true:=by kernel_rfl
theorem Zaqj:(Rows.layerFindsRow.veiled==(Tryz.f8.params.toList++Rows.layerFindsSpec.plain.varTypes Tryz.pinned.checked.prog++Tryz.f8.resultTypes.toList).any (Tryz.pinned.checked.prog.veiledRec ·))=true:=by kernel_rfl
theorem Zaqk:Rows.layerFindsRow.veiledFits Tryz.pinned.checked.prog Tryz.f8.params.toList (Tryz.f8.params.toList++Rows.layerFindsSpec.plain.varTypes Tryz.pinned.checked.prog++Tryz.f8.resultTypes.toList)=true:=by kernel_rfl
set_option maxRecDepth 100000 in
theorem Zaf8:joinedFacts Tryz.pinned.checked.prog 8 Tryz.f8 Rows.layerFindsSpec Rows.layerFindsRow=true:=by
 unfold joinedFacts
 exact Zgi (Zgi (Zgi (Zgi (Zgi (Zgi (Zgi (Zgi (Zgi (Zgi (Zgi (Zgi (Zgi (Zgi (Zgi (Zgi (Zgi (Zgi (Zgi (Zgi (Zgi (Zgi (Zgi (Zgi (Zgi (Zgi (Zgi (Zgi (Zgi (Zgi (Zgi (by kernel_rfl) (by kernel_rfl)) (by kernel_rfl)) (by kernel_rfl)) (by kernel_rfl)) (by kernel_rfl)) (by kernel_rfl)) (by kernel_rfl)) (by kernel_rfl)) Zaqb) Zaqc) Zaqd) Zaqe) Zaqf) Zaqg) (by kernel_rfl)) Zaqh) Zaqi) (by kernel_rfl)) (by kernel_rfl)) (by kernel_rfl)) (by kernel_rfl)) (by kernel_rfl)) (by kernel_rfl)) (by kernel_rfl)) (by kernel_rfl)) (by kernel_rfl)) (by kernel_rfl)) (by kernel_rfl)) (by kernel_rfl)) Zaqj) Zaqk
theorem layerFinds_holds:Rows.LayerFindsSaid:=
 OpenClaim.holds_of_wide 8 Tryz.f8 rfl rfl rfl rfl rfl rfl rfl ⟨rfl,rfl,rfl,rfl,rfl⟩ rfl rfl rfl rfl rfl (by kernel_rfl) Tryz.func8 Zaf8
  (of_decide_eq_true (by kernel_rfl)) (by unfold Func.isWrapper;first | (rw [if_pos (by decide +kernel)];kernel_rfl) | (rw [if_neg (by decide +kernel)];exact⟨rfl,rfl⟩))
  (fun os started H enc _=>Zaf7 os started H enc)
end Go.Proofs.YtchddhcajpagjaaGreat
