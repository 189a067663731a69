import Derived.Test.YtchddhcajpagjaaGreatQY
set_option linter.all false
namespace Go.Proofs.YtchddhcajpagjaaGreat
open Go.ChangeShapes Go.WideShapes Go.ChangeAt Go.RowKit Go.PW
set_option maxRecDepth 100000 in
theorem Zafj(os:Os)(started:os.Started)(H:Type)(enc:TypeId×Value->H) :
 ReturnsInHanded {} Tryz.checked os 7 .any (Rows.layerPlainSpec.pre6 enc Tryz.prog Tryz.f7 Rows.layerPlainRow.domain false) (Rows.layerPlainSpec.post enc Tryz.prog Tryz.f7 false true false false):=by
 refine returnsInHanded_of_change_shaped (C:=Tryz.checked) Tryz.own started (by kernel_rfl) Tryz.func7
  (ChangeSpec.witness6 (enc:=enc) (C:=Tryz.checked) false ⟨#[],#[.slice none 0 0,.agg #[.slice none 0 0,.slice none 0 0,.slice none 0 0,.slice none 0 0,.slice none 0 0,.slice none 0 0,.slice none 0 0,.int .i64 0,.int .i64 0,.int .i64 0,.bool false,.int .i64 0,.int .i64 0,.int .i64 0,.int .i64 0,.int .u64 0,.slice none 0 0,.int .i64 0,.int .i64 0]],[]⟩ 8 (by kernel_rfl) (by kernel_rfl) (by kernel_rfl) (by kernel_rfl)) ?_
 intro W base args ds gs before hval0 hW hcnd hwt hsh _
 have hval:∀ (j:Nat) t v,Tryz.f7.params[j]?=some t->args[j]?=some v->Value.okWide Tryz.prog W .any base t v:=hval0
 have hW':=hW
 obtain⟨p,q,hA0,hV,rfl,hfz,hnd⟩:=hW
 have hA:DataW.TrodAll enc Tryz.prog W 0 (fun _=>true) true Tryz.f7.params.toList args.toList ds p:=hA0
 have hwt':(DataW.weightsEach Tryz.prog (Tryz.f7.params.toList++_) (ds++gs)).all (· <= reachBytes)=true:=hwt
 rw [Tryz.params7] at hA hval hwt'
 obtain⟨v0,v1,d0,d1,p0,p1,rfl,rfl,rfl,h0,h1⟩:=trodAll_two hA
 obtain⟨rfl,rfl⟩:=trodVars_none hV
 obtain⟨x0,hx0,hv0⟩:=Zav3 (D:=30) (Zd9 Go.Proofs.Tryz.underlying22 (by kernel_rfl:Go.Proofs.Tryz.prog.bytesOf 77=176) Zat5) (by kernel_rfl) (hval 0 22 v0 rfl rfl) h0 (Zak1 hwt' (i:=0) (t:=22) (d:=d0) rfl rfl)
 rw [Zbaz Go.Proofs.Tryz.underlying22] at hv0
 obtain⟨x1,hx1,hv1⟩:=Zav3 (D:=30) Zaqk (by kernel_rfl) (hval 1 31 v1 rfl rfl) h1 (Zak1 hwt' (i:=1) (t:=31) (d:=d1) rfl rfl)
 rw [Za7d Go.Proofs.Tryz.underlying31] at hv1
 refine (Za7a (Zbl9 hsh) (qs:=[_,_]) (Zae7 x0 x1 ((@Zad9 x0 x1 (Zfk hx0 (fun _ h=>Zap3 h)) (Zanp hx1)).eq)) (by simp only [VRs];exact⟨v0,_,rfl,hv0,v1,[],rfl,hv1,rfl⟩)).mono fun e W' ⟨he,hB⟩=>?_
 subst he
 have hlt:∀ x∈p0++p1,x.block < W.heap.size:=fun x hx=>hW'.lt x (by simpa using hx)
 exact⟨_,rfl,_,_,_,[],_,[],hW',trodAll_mk1 (shut_bool Tryz.underlying4 true),trodAll_mk2 (Below.trod Tryz.laidOut (by kernel_rfl) (of_decide_eq_true (by kernel_rfl)) h0 hB (fun x hx=>hlt x (by simp [hx]))) (Below.trod Tryz.laidOut (by kernel_rfl) (of_decide_eq_true (by kernel_rfl)) h1 hB (fun x hx=>hlt x (by simp [hx]))),rfl,hB.frame _,fun h=>by cases h⟩
theorem Zfz{a b:Bool}(h:a=true)(g:b=true):(a&&b)=true:=by subst h;subst g;rfl
theorem Zaql:(Rows.layerPlainRow.inPlace==Tryz.pinned.checked.prog.inPlace 7)=true:=by kernel_rfl
theorem Zaqm:(Rows.layerPlainRow.unfollowed==Tryz.pinned.checked.prog.unfollowed 7)=true:=by kernel_rfl
theorem Zaqn:(Rows.layerPlainRow.recurses==Tryz.pinned.checked.prog.recurses 7)=true:=by kernel_rfl
theorem Zaqo:(Rows.layerPlainRow.named==Tryz.pinned.checked.prog.varsNamed 7)=true:=by kernel_rfl
theorem Zaqp:(Rows.layerPlainRow.maps==(Tryz.f7.params.toList++Rows.layerPlainSpec.plain.varTypes Tryz.pinned.checked.prog).any (Tryz.pinned.checked.prog.mapsRec ·))=true:=by kernel_rfl
theorem Zaqq:(Rows.layerPlainRow.ifaces==(Tryz.f7.params.toList++Rows.layerPlainSpec.plain.varTypes Tryz.pinned.checked.prog).any (Tryz.pinned.checked.prog.ifacesRec ·))=true:=by kernel_rfl
theorem Zaqr:(Rows.layerPlainRow.loops==(Tryz.f7.params.toList++Rows.layerPlainSpec.plain.varTypes Tryz.pinned.checked.prog).any (Tryz.pinned.checked.prog.loopsFrom ·))=true:=by kernel_rfl
theorem Zaqs:(Rows.layerPlainRow.wideKeys==(Tryz.f7.params.toList++Rows.layerPlainSpec.plain.varTypes Tryz.pinned.checked.prog++Tryz.f7.resultTypes.toList).any (Tryz.pinned.checked.prog.wideKeysFrom ·))=true:=by kernel_rfl
theorem Zaqt:(Rows.layerPlainRow.veiled==(Tryz.f7.params.toList++Rows.layerPlainSpec.plain.varTypes Tryz.pinned.checked.prog++Tryz.f7.resultTypes.toList).any (Tryz.pinned.checked.prog.veiledRec ·))=true:=by kernel_rfl
theorem Zaqu:Rows.layerPlainRow.veiledFits Tryz.pinned.checked.prog Tryz.f7.params.toList (Tryz.f7.params.toList++Rows.layerPlainSpec.plain.varTypes Tryz.pinned.checked.prog++Tryz.f7.resultTypes.toList)=true:=by kernel_rfl
set_option maxRecDepth 100000 in
theorem Zafk:joinedFacts Tryz.pinned.checked.prog 7 Tryz.f7 Rows.layerPlainSpec Rows.layerPlainRow=true:=by
 unfold joinedFacts
 exact Zfz (Zfz (Zfz (Zfz (Zfz (Zfz (Zfz (Zfz (Zfz (Zfz (Zfz (Zfz (Zfz (Zfz (Zfz (Zfz (Zfz (Zfz (Zfz (Zfz (Zfz (Zfz (Zfz (Zfz (Zfz (Zfz (Zfz (Zfz (Zfz (Zfz (Zfz (by kernel_rfl) (by kernel_rfl)) (by kernel_rfl)) (by kernel_rfl)) (by kernel_rfl)) (by kernel_rfl)) (by kernel_rfl)) (by kernel_rfl)) (by kernel_rfl)) Zaql) Zaqm) Zaqn) Zaqo) Zaqp) Zaqq) (by kernel_rfl)) Zaqr) Zaqs) (by kernel_rfl)) (by kernel_rfl)) (by kernel_rfl)) (by kernel_rfl)) (by kernel_rfl)) (by kernel_rfl)) (by kernel_rfl)) (by kernel_rfl)) (by kernel_rfl)) (by kernel_rfl)) (by kernel_rfl)) (by kernel_rfl)) Zaqt) Zaqu
theorem layerPlain_holds:Rows.LayerPlainSaid:=
 OpenClaim.holds_of_wide 7 Tryz.f7 rfl rfl rfl rfl rfl rfl rfl ⟨rfl,rfl,rfl,rfl,rfl⟩ rfl rfl rfl rfl rfl (by kernel_rfl) Tryz.func7 Zafk
  (of_decide_eq_true (by kernel_rfl)) (by unfold Func.isWrapper;first | (rw [if_pos (by decide +kernel)];kernel_rfl) | (rw [if_neg (by decide +kernel)];exact⟨rfl,rfl⟩))
  (fun os started H enc _=>Zafj os started H enc)
end Go.Proofs.YtchddhcajpagjaaGreat
