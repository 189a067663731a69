import Derived.Test.YtiglnkgoicjjfaaGreatQY
set_option linter.all false
namespace Go.Proofs.YtiglnkgoicjjfaaGreat
open Go.ChangeShapes Go.WideShapes Go.ChangeAt Go.RowKit Go.PW
set_option maxRecDepth 100000 in
theorem Zaiz(os:Os)(started:os.Started)(H:Type)(enc:TypeId×Value->H) :
 ReturnsInHanded {} Tryz.checked os 3 .any (Rows.viewOwnSpec.pre6 enc Tryz.prog Tryz.f3 Rows.viewOwnRow.domain false) (Rows.viewOwnSpec.post enc Tryz.prog Tryz.f3 false true false false):=by
 refine returnsInHanded_of_change_shaped (C:=Tryz.checked) Tryz.own started (by kernel_rfl) Tryz.func3
  (ChangeSpec.witness6 (enc:=enc) (C:=Tryz.checked) false ⟨#[],#[.agg #[.slice none 0 0,.slice none 0 0,.slice none 0 0,.slice none 0 0,.slice none 0 0,.slice none 0 0,.slice none 0 0,.slice none 0 0,.int .i64 0,.int .i64 0,.int .i64 0,.bool false,.int .i64 0,.int .i64 0,.int .i64 0,.int .i64 0,.int .u64 0,.slice none 0 0,.int .i64 0,.int .i64 0,.slice none 0 0,.int .i64 0,.int .i64 0,.int .i64 0,.int .i64 0,.int .i64 0,.int .i64 0,.slice none 0 0,.int .i64 0,.slice none 0 0],.int .i64 0],[]⟩ 8 (by kernel_rfl) (by kernel_rfl) (by kernel_rfl) (by kernel_rfl)) ?_
 intro W base args ds gs before hval0 hW hcnd hwt hsh _
 have hval:∀ (j:Nat) t v,Tryz.f3.params[j]?=some t->args[j]?=some v->Value.okWide Tryz.prog W .any base t v:=hval0
 have hW':=hW
 obtain⟨p,q,hA0,hV,rfl,hfz,hnd⟩:=hW
 have hA:DataW.TrodAll enc Tryz.prog W 0 (fun _=>true) true Tryz.f3.params.toList args.toList ds p:=hA0
 have hwt':(DataW.weightsEach Tryz.prog (Tryz.f3.params.toList++_) (ds++gs)).all (· <= reachBytes)=true:=hwt
 rw [Tryz.params3] at hA hval hwt'
 obtain⟨v0,v1,d0,d1,p0,p1,rfl,rfl,rfl,h0,h1⟩:=trodAll_two hA
 obtain⟨rfl,rfl⟩:=trodVars_none hV
 obtain⟨x0,hx0,hv0⟩:=Zamy (D:=30) Zak8 (by kernel_rfl) (hval 0 38 v0 rfl rfl) h0 (Zaep hwt' (i:=0) (t:=38) (d:=d0) rfl rfl)
 rw [Zavu Go.Proofs.Tryz.underlying38] at hv0
 obtain⟨x1,hx1,hv1⟩:=Zamy (D:=30) (Z0 Go.Proofs.Tryz.underlying3) (by kernel_rfl) (hval 1 3 v1 rfl rfl) h1 (Zaep hwt' (i:=1) (t:=3) (d:=d1) rfl rfl)
 rw [Za0m Go.Proofs.Tryz.underlying3] at hv1
 refine (Zavs (Za1a W) (qs:=[_,_]) (Zaif x0 x1 ((@Zag9 x0 x1 (Zaip hx0)).eq)) (by simp only [VRs];exact⟨v0,_,rfl,hv0,v1,[],rfl,hv1,rfl⟩)).mono fun e W' ⟨he,hB⟩=>?_
 subst he
 have hlt:∀ x∈p0++p1,x.block < W.heap.size:=fun x hx=>hW'.lt x (by simpa using hx)
 exact⟨_,rfl,_,_,_,[],_,[],hW',trodAll_mk1 (shut_bool Tryz.underlying4 true),trodAll_mk2 (Below.trod Tryz.laidOut (by kernel_rfl) (of_decide_eq_true (by kernel_rfl)) h0 hB (fun x hx=>hlt x (by simp [hx]))) (Below.trod Tryz.laidOut (by kernel_rfl) (of_decide_eq_true (by kernel_rfl)) h1 hB (fun x hx=>hlt x (by simp [hx]))),rfl,hB.frame _,fun h=>by cases h⟩
theorem Zg7{a b:Bool}(h:a=true)(g:b=true):(a&&b)=true:=by subst h;subst g;rfl
theorem Zari:(Rows.viewOwnRow.inPlace==Tryz.pinned.checked.prog.inPlace 3)=true:=by kernel_rfl
theorem Zarj:(Rows.viewOwnRow.unfollowed==Tryz.pinned.checked.prog.unfollowed 3)=true:=by kernel_rfl
theorem Zark:(Rows.viewOwnRow.recurses==Tryz.pinned.checked.prog.recurses 3)=true:=by kernel_rfl
theorem Zarl:(Rows.viewOwnRow.named==Tryz.pinned.checked.prog.varsNamed 3)=true:=by kernel_rfl
theorem Zarm:(Rows.viewOwnRow.maps==(Tryz.f3.params.toList++Rows.viewOwnSpec.plain.varTypes Tryz.pinned.checked.prog).any (Tryz.pinned.checked.prog.mapsRec ·))=true:=by kernel_rfl
theorem Zarn:(Rows.viewOwnRow.ifaces==(Tryz.f3.params.toList++Rows.viewOwnSpec.plain.varTypes Tryz.pinned.checked.prog).any (Tryz.pinned.checked.prog.ifacesRec ·))=true:=by kernel_rfl
theorem Zaro:(Rows.viewOwnRow.loops==(Tryz.f3.params.toList++Rows.viewOwnSpec.plain.varTypes Tryz.pinned.checked.prog).any (Tryz.pinned.checked.prog.loopsFrom ·))=true:=by kernel_rfl
theorem Zarp:(Rows.viewOwnRow.wideKeys==(Tryz.f3.params.toList++Rows.viewOwnSpec.plain.varTypes Tryz.pinned.checked.prog++Tryz.f3.resultTypes.toList).any (Tryz.pinned.checked.prog.wideKeysFrom ·))=true:=by kernel_rfl
theorem Zarq:(Rows.viewOwnRow.veiled==(Tryz.f3.params.toList++Rows.viewOwnSpec.plain.varTypes Tryz.pinned.checked.prog++Tryz.f3.resultTypes.toList).any (Tryz.pinned.checked.prog.veiledRec ·))=true:=by kernel_rfl
theorem Zarr:Rows.viewOwnRow.veiledFits Tryz.pinned.checked.prog Tryz.f3.params.toList (Tryz.f3.params.toList++Rows.viewOwnSpec.plain.varTypes Tryz.pinned.checked.prog++Tryz.f3.resultTypes.toList)=true:=by kernel_rfl
set_option maxRecDepth 100000 in
theorem Zai0:joinedFacts Tryz.pinned.checked.prog 3 Tryz.f3 Rows.viewOwnSpec Rows.viewOwnRow=true:=by
 unfold joinedFacts
 exact Zg7 (Zg7 (Zg7 (Zg7 (Zg7 (Zg7 (Zg7 (Zg7 (Zg7 (Zg7 (Zg7 (Zg7 (Zg7 (Zg7 (Zg7 (Zg7 (Zg7 (Zg7 (Zg7 (Zg7 (Zg7 (Zg7 (Zg7 (Zg7 (Zg7 (Zg7 (Zg7 (Zg7 (Zg7 (Zg7 (Zg7 (by kernel_rfl) (by kernel_rfl)) (by kernel_rfl)) (by kernel_rfl)) (by kernel_rfl)) (by kernel_rfl)) (by kernel_rfl)) (by kernel_rfl)) (by kernel_rfl)) Zari) Zarj) Zark) Zarl) Zarm) Zarn) (by kernel_rfl)) Zaro) Zarp) (by kernel_rfl)) (by kernel_rfl)) (by kernel_rfl)) (by kernel_rfl)) (by kernel_rfl)) (by kernel_rfl)) (by kernel_rfl)) (by kernel_rfl)) (by kernel_rfl)) (by kernel_rfl)) (by kernel_rfl)) (by kernel_rfl)) Zarq) Zarr
theorem viewOwn_holds:Rows.ViewOwnSaid:=
 OpenClaim.holds_of_wide 3 Tryz.f3 rfl rfl rfl rfl rfl rfl rfl ⟨rfl,rfl,rfl,rfl,rfl⟩ rfl rfl rfl rfl rfl (by kernel_rfl) Tryz.func3 Zai0
  (of_decide_eq_true (by kernel_rfl)) (by unfold Func.isWrapper;first | (rw [if_pos (by decide +kernel)];kernel_rfl) | (rw [if_neg (by decide +kernel)];exact⟨rfl,rfl⟩))
  (fun os started H enc _=>Zaiz os started H enc)
end Go.Proofs.YtiglnkgoicjjfaaGreat
