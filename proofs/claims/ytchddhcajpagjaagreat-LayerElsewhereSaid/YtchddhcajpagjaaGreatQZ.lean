import Derived.Test.YtchddhcajpagjaaGreatQY
set_option linter.all false
namespace Go.Proofs.YtchddhcajpagjaaGreat
open Go.ChangeShapes Go.WideShapes Go.ChangeAt Go.RowKit Go.PW
set_option maxRecDepth 100000 in
theorem Z7m(os:Os)(started:os.Started)(H:Type)(enc:TypeId×Value->H) :
 ReturnsInHanded {} Tryz.checked os 6 .any (Rows.layerElsewhereSpec.pre6 enc Tryz.prog Tryz.f6 Rows.layerElsewhereRow.domain false) (Rows.layerElsewhereSpec.post enc Tryz.prog Tryz.f6 false true false false):=by
 refine returnsInHanded_of_change_shaped (C:=Tryz.checked) Tryz.own started (by kernel_rfl) Tryz.func6
  (ChangeSpec.witness6 (enc:=enc) (C:=Tryz.checked) false ⟨#[],#[.slice none 0 0,.agg #[.slice none 0 0,.slice none 0 0,.slice none 0 0,.slice none 0 0,.slice none 0 0,.slice none 0 0,.slice none 0 0,.int .i64 0,.int .i64 0,.int .i64 0,.bool false,.int .i64 0,.int .i64 0,.int .i64 0,.int .i64 0,.int .u64 0,.slice none 0 0,.int .i64 0,.int .i64 0]],[]⟩ 8 (by kernel_rfl) (by kernel_rfl) (by kernel_rfl) (by kernel_rfl)) ?_
 intro W base args ds gs before hval0 hW hcnd hwt hsh _
 have hval:∀ (j:Nat) t v,Tryz.f6.params[j]?=some t->args[j]?=some v->Value.okWide Tryz.prog W .any base t v:=hval0
 have hW':=hW
 obtain⟨p,q,hA0,hV,rfl,hfz,hnd⟩:=hW
 have hA:DataW.TrodAll enc Tryz.prog W 0 (fun _=>true) true Tryz.f6.params.toList args.toList ds p:=hA0
 have hwt':(DataW.weightsEach Tryz.prog (Tryz.f6.params.toList++_) (ds++gs)).all (· <= reachBytes)=true:=hwt
 rw [Tryz.params6] at hA hval hwt'
 obtain⟨v0,v1,d0,d1,p0,p1,rfl,rfl,rfl,h0,h1⟩:=trodAll_two hA
 obtain⟨rfl,rfl⟩:=trodVars_none hV
 obtain⟨x0,hx0,hv0⟩:=Zaux (D:=30) (Zea Go.Proofs.Tryz.underlying22 (by kernel_rfl:Go.Proofs.Tryz.prog.bytesOf 77=176) Zas2) (by kernel_rfl) (hval 0 22 v0 rfl rfl) h0 (Zakk hwt' (i:=0) (t:=22) (d:=d0) rfl rfl)
 rw [Za78 Go.Proofs.Tryz.underlying22] at hv0
 obtain⟨x1,hx1,hv1⟩:=Zaux (D:=30) Zap2 (by kernel_rfl) (hval 1 31 v1 rfl rfl) h1 (Zakk hwt' (i:=1) (t:=31) (d:=d1) rfl rfl)
 rw [Za4z Go.Proofs.Tryz.underlying31] at hv1
 refine (Za4x (Zbg2 hsh) (qs:=[_,_]) (Z7a x0 x1 ((@Z51 x0 x1 (Zfp hx0 (fun _ h=>Zapk h)) (Zam3 hx1)).eq)) (by simp only [VRs];exact⟨v0,_,rfl,hv0,v1,[],rfl,hv1,rfl⟩)).mono fun e W' ⟨he,hB⟩=>?_
 subst he
 have hlt:∀ x∈p0++p1,x.block < W.heap.size:=fun x hx=>hW'.lt x (by simpa using hx)
 exact⟨_,rfl,_,_,_,[],_,[],hW',trodAll_mk1 (shut_bool Tryz.underlying4 true),trodAll_mk2 (Below.trod Tryz.laidOut (by kernel_rfl) (of_decide_eq_true (by kernel_rfl)) h0 hB (fun x hx=>hlt x (by simp [hx]))) (Below.trod Tryz.laidOut (by kernel_rfl) (of_decide_eq_true (by kernel_rfl)) h1 hB (fun x hx=>hlt x (by simp [hx]))),rfl,hB.frame _,fun h=>by cases h⟩
theorem Zf4{a b:Bool}(h:a=true)(g:b=true):(a&&b)=true:=by subst h;subst g;rfl
theorem Zady:(Rows.layerElsewhereRow.inPlace==Tryz.pinned.checked.prog.inPlace 6)=true:=by kernel_rfl
theorem Zadz:(Rows.layerElsewhereRow.unfollowed==Tryz.pinned.checked.prog.unfollowed 6)=true:=by kernel_rfl
theorem Zad0:(Rows.layerElsewhereRow.recurses==Tryz.pinned.checked.prog.recurses 6)=true:=by kernel_rfl
theorem Zad1:(Rows.layerElsewhereRow.named==Tryz.pinned.checked.prog.varsNamed 6)=true:=by kernel_rfl
theorem Zad2:(Rows.layerElsewhereRow.maps==(Tryz.f6.params.toList++Rows.layerElsewhereSpec.plain.varTypes Tryz.pinned.checked.prog).any (Tryz.pinned.checked.prog.mapsRec ·))=true:=by kernel_rfl
theorem Zad3:(Rows.layerElsewhereRow.ifaces==(Tryz.f6.params.toList++Rows.layerElsewhereSpec.plain.varTypes Tryz.pinned.checked.prog).any (Tryz.pinned.checked.prog.ifacesRec ·))=true:=by kernel_rfl
theorem Zad4:(Rows.layerElsewhereRow.loops==(Tryz.f6.params.toList++Rows.layerElsewhereSpec.plain.varTypes Tryz.pinned.checked.prog).any (Tryz.pinned.checked.prog.loopsFrom ·))=true:=by kernel_rfl
theorem Zad5:(Rows.layerElsewhereRow.wideKeys==(Tryz.f6.params.toList++Rows.layerElsewhereSpec.plain.varTypes Tryz.pinned.checked.prog++Tryz.f6.resultTypes.toList).any (Tryz.pinned.checked.prog.wideKeysFrom ·))=true:=by kernel_rfl
theorem Zad6:(Rows.layerElsewhereRow.veiled==(Tryz.f6.params.toList++Rows.layerElsewhereSpec.plain.varTypes Tryz.pinned.checked.prog++Tryz.f6.resultTypes.toList).any (Tryz.pinned.checked.prog.veiledRec ·))=true:=by kernel_rfl
theorem Zad7:Rows.layerElsewhereRow.veiledFits Tryz.pinned.checked.prog Tryz.f6.params.toList (Tryz.f6.params.toList++Rows.layerElsewhereSpec.plain.varTypes Tryz.pinned.checked.prog++Tryz.f6.resultTypes.toList)=true:=by kernel_rfl
set_option maxRecDepth 100000 in
theorem Z7n:joinedFacts Tryz.pinned.checked.prog 6 Tryz.f6 Rows.layerElsewhereSpec Rows.layerElsewhereRow=true:=by
 unfold joinedFacts
 exact Zf4 (Zf4 (Zf4 (Zf4 (Zf4 (Zf4 (Zf4 (Zf4 (Zf4 (Zf4 (Zf4 (Zf4 (Zf4 (Zf4 (Zf4 (Zf4 (Zf4 (Zf4 (Zf4 (Zf4 (Zf4 (Zf4 (Zf4 (Zf4 (Zf4 (Zf4 (Zf4 (Zf4 (Zf4 (Zf4 (Zf4 (by kernel_rfl) (by kernel_rfl)) (by kernel_rfl)) (by kernel_rfl)) (by kernel_rfl)) (by kernel_rfl)) (by kernel_rfl)) (by kernel_rfl)) (by kernel_rfl)) Zady) Zadz) Zad0) Zad1) Zad2) Zad3) (by kernel_rfl)) Zad4) Zad5) (by kernel_rfl)) (by kernel_rfl)) (by kernel_rfl)) (by kernel_rfl)) (by kernel_rfl)) (by kernel_rfl)) (by kernel_rfl)) (by kernel_rfl)) (by kernel_rfl)) (by kernel_rfl)) (by kernel_rfl)) (by kernel_rfl)) Zad6) Zad7
theorem layerElsewhere_holds:Rows.LayerElsewhereSaid:=
 OpenClaim.holds_of_wide 6 Tryz.f6 rfl rfl rfl rfl rfl rfl rfl ⟨rfl,rfl,rfl,rfl,rfl⟩ rfl rfl rfl rfl rfl (by kernel_rfl) Tryz.func6 Z7n
  (of_decide_eq_true (by kernel_rfl)) (by unfold Func.isWrapper;first | (rw [if_pos (by decide +kernel)];kernel_rfl) | (rw [if_neg (by decide +kernel)];exact⟨rfl,rfl⟩))
  (fun os started H enc _=>Z7m os started H enc)
end Go.Proofs.YtchddhcajpagjaaGreat
