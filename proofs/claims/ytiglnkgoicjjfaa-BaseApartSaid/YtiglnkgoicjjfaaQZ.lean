import Derived.Test.YtiglnkgoicjjfaaQY
set_option linter.all false
namespace Go.Proofs.Ytiglnkgoicjjfaa
open Go.ChangeShapes Go.WideShapes Go.ChangeAt Go.RowKit Go.PW
set_option maxRecDepth 100000 in
theorem Zqv(os:Os)(started:os.Started)(H:Type)(enc:TypeId×Value->H) :
 ReturnsInHanded {} Try.checked os 3 .any (Rows.baseApartSpec.pre6 enc Try.prog Try.f3 Rows.baseApartRow.domain false) (Rows.baseApartSpec.post enc Try.prog Try.f3 false true false false):=by
 refine returnsInHanded_of_change_shaped (C:=Try.checked) Try.own started (by kernel_rfl) Try.func3
  (ChangeSpec.witness6 (enc:=enc) (C:=Try.checked) false ⟨#[],#[.slice none 0 0,.agg #[.int .i64 0,.int .i64 0,.int .i64 0,.int .i64 0,.int .i64 0,.bool false,.bool false,.bool false,.bool false,.int .i64 0,.int .i64 0,.int .i64 0,.int .i64 0,.int .i64 0,.int .i64 0,.int .i64 0,.bool false,.int .i64 0,.int .i64 0]],[]⟩ 8 (by kernel_rfl) (by kernel_rfl) (by kernel_rfl) (by kernel_rfl)) ?_
 intro W base args ds gs before hval0 hW hcnd hwt hsh _
 have hval:∀ (j:Nat) t v,Try.f3.params[j]?=some t->args[j]?=some v->Value.okWide Try.prog W .any base t v:=hval0
 have hW':=hW
 obtain⟨p,q,hA0,hV,rfl,hfz,hnd⟩:=hW
 have hA:DataW.TrodAll enc Try.prog W 0 (fun _=>true) true Try.f3.params.toList args.toList ds p:=hA0
 have hwt':(DataW.weightsEach Try.prog (Try.f3.params.toList++_) (ds++gs)).all (· <= reachBytes)=true:=hwt
 rw [Try.params3] at hA hval hwt'
 obtain⟨v0,v1,d0,d1,p0,p1,rfl,rfl,rfl,h0,h1⟩:=trodAll_two hA
 obtain⟨rfl,rfl⟩:=trodVars_none hV
 obtain⟨x0,hx0,hv0⟩:=Zwg (D:=30) (Zis Go.Proofs.Try.underlying22 (by kernel_rfl:Go.Proofs.Try.prog.bytesOf 80=176) Zuh) (by kernel_rfl) (hval 0 22 v0 rfl rfl) h0 (Zrt hwt' (i:=0) (t:=22) (d:=d0) rfl rfl)
 rw [Z25 Go.Proofs.Try.underlying22] at hv0
 obtain⟨x1,hx1,hv1⟩:=Zwg (D:=30) Zsk (by kernel_rfl) (hval 1 25 v1 rfl rfl) h1 (Zrt hwt' (i:=1) (t:=25) (d:=d1) rfl rfl)
 rw [Z03 Go.Proofs.Try.underlying25] at hv1
 refine (Z00 (Z5u W) (qs:=[_,_]) (Zql x0 x1 ((@Zpn x0 x1 (Zk2 hx0 (fun _ h=>Ztg h))).eq)) (by simp only [VRs];exact⟨v0,_,rfl,hv0,v1,[],rfl,hv1,rfl⟩)).mono fun e W' ⟨he,hB⟩=>?_
 subst he
 have hlt:∀ x∈p0++p1,x.block < W.heap.size:=fun x hx=>hW'.lt x (by simpa using hx)
 exact⟨_,rfl,_,_,_,[],_,[],hW',trodAll_mk1 (shut_bool Try.underlying4 true),trodAll_mk2 (Below.trod Try.laidOut (by kernel_rfl) (of_decide_eq_true (by kernel_rfl)) h0 hB (fun x hx=>hlt x (by simp [hx]))) (Below.trod Try.laidOut (by kernel_rfl) (of_decide_eq_true (by kernel_rfl)) h1 hB (fun x hx=>hlt x (by simp [hx]))),rfl,hB.frame _,fun h=>by cases h⟩
theorem Zc1{a b:Bool}(h:a=true)(g:b=true):(a&&b)=true:=by subst h;subst g;rfl
theorem Zui:(Rows.baseApartRow.inPlace==Try.pinned.checked.prog.inPlace 3)=true:=by kernel_rfl
theorem Zuj:(Rows.baseApartRow.unfollowed==Try.pinned.checked.prog.unfollowed 3)=true:=by kernel_rfl
theorem Zuk:(Rows.baseApartRow.recurses==Try.pinned.checked.prog.recurses 3)=true:=by kernel_rfl
theorem Zul:(Rows.baseApartRow.named==Try.pinned.checked.prog.varsNamed 3)=true:=by kernel_rfl
theorem Zum:(Rows.baseApartRow.maps==(Try.f3.params.toList++Rows.baseApartSpec.plain.varTypes Try.pinned.checked.prog).any (Try.pinned.checked.prog.mapsRec ·))=true:=by kernel_rfl
theorem Zun:(Rows.baseApartRow.ifaces==(Try.f3.params.toList++Rows.baseApartSpec.plain.varTypes Try.pinned.checked.prog).any (Try.pinned.checked.prog.ifacesRec ·))=true:=by kernel_rfl
theorem Zuo:(Rows.baseApartRow.loops==(Try.f3.params.toList++Rows.baseApartSpec.plain.varTypes Try.pinned.checked.prog).any (Try.pinned.checked.prog.loopsFrom ·))=true:=by kernel_rfl
theorem Zup:(Rows.baseApartRow.wideKeys==(Try.f3.params.toList++Rows.baseApartSpec.plain.varTypes Try.pinned.checked.prog++Try.f3.resultTypes.toList).any (Try.pinned.checked.prog.wideKeysFrom ·))=true:=by kernel_rfl
theorem Zuq:(Rows.baseApartRow.veiled==(Try.f3.params.toList++Rows.baseApartSpec.plain.varTypes Try.pinned.checked.prog++Try.f3.resultTypes.toList).any (Try.pinned.checked.prog.veiledRec ·))=true:=by kernel_rfl
theorem Zur:Rows.baseApartRow.veiledFits Try.pinned.checked.prog Try.f3.params.toList (Try.f3.params.toList++Rows.baseApartSpec.plain.varTypes Try.pinned.checked.prog++Try.f3.resultTypes.toList)=true:=by kernel_rfl
set_option maxRecDepth 100000 in
theorem Zqw:joinedFacts Try.pinned.checked.prog 3 Try.f3 Rows.baseApartSpec Rows.baseApartRow=true:=by
 unfold joinedFacts
 exact Zc1 (Zc1 (Zc1 (Zc1 (Zc1 (Zc1 (Zc1 (Zc1 (Zc1 (Zc1 (Zc1 (Zc1 (Zc1 (Zc1 (Zc1 (Zc1 (Zc1 (Zc1 (Zc1 (Zc1 (Zc1 (Zc1 (Zc1 (Zc1 (Zc1 (Zc1 (Zc1 (Zc1 (Zc1 (Zc1 (Zc1 (by kernel_rfl) (by kernel_rfl)) (by kernel_rfl)) (by kernel_rfl)) (by kernel_rfl)) (by kernel_rfl)) (by kernel_rfl)) (by kernel_rfl)) (by kernel_rfl)) Zui) Zuj) Zuk) Zul) Zum) Zun) (by kernel_rfl)) Zuo) Zup) (by kernel_rfl)) (by kernel_rfl)) (by kernel_rfl)) (by kernel_rfl)) (by kernel_rfl)) (by kernel_rfl)) (by kernel_rfl)) (by kernel_rfl)) (by kernel_rfl)) (by kernel_rfl)) (by kernel_rfl)) (by kernel_rfl)) Zuq) Zur
theorem baseApart_holds:Rows.BaseApartSaid:=
 OpenClaim.holds_of_wide 3 Try.f3 rfl rfl rfl rfl rfl rfl rfl ⟨rfl,rfl,rfl,rfl,rfl⟩ rfl rfl rfl rfl rfl (by kernel_rfl) Try.func3 Zqw
  (of_decide_eq_true (by kernel_rfl)) (by unfold Func.isWrapper;first | (rw [if_pos (by decide +kernel)];kernel_rfl) | (rw [if_neg (by decide +kernel)];exact⟨rfl,rfl⟩))
  (fun os started H enc _=>Zqv os started H enc)
end Go.Proofs.Ytiglnkgoicjjfaa
