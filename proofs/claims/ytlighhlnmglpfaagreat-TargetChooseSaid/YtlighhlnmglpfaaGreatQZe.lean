import Derived.Test.YtlighhlnmglpfaaGreatQY
set_option linter.all false
namespace Go.Proofs.YtlighhlnmglpfaaGreat
open Go.ChangeShapes Go.WideShapes Go.ChangeAt Go.RowKit Go.PW
set_option maxRecDepth 100000 in
theorem Zad2(os:Os)(started:os.Started)(H:Type)(enc:TypeId×Value→H) :
 ReturnsInHanded {} Tryz.checked os 7 .any (Rows.targetChooseSpec.pre6 enc Tryz.prog Tryz.f7 Rows.targetChooseRow.domain false) (Rows.targetChooseSpec.post enc Tryz.prog Tryz.f7 false true false false):=by
 refine returnsInHanded_of_change_shaped (C:=Tryz.checked) Tryz.own started (by kernel_rfl) Tryz.func7
  (ChangeSpec.witness6 (enc:=enc) (C:=Tryz.checked) false ⟨#[],#[.slice none 0 0,.agg #[.slice none 0 0,.slice none 0 0,.slice none 0 0,.slice none 0 0,.slice none 0 0,.slice none 0 0,.slice none 0 0,.int .i64 0,.int .i64 0,.int .i64 0,.bool false,.int .i64 0,.int .i64 0,.int .i64 0,.int .i64 0,.int .u64 0,.slice none 0 0,.int .i64 0,.int .i64 0],.agg #[.int .i64 0,.int .i64 0,.int .i64 0,.slice none 0 0,.int .i64 0,.int .i64 0,.int .i64 0,.int .i64 0,.int .i64 0,.int .i64 0,.int .i64 0,.int .i64 0,.int .i64 0,.int .i64 0,.bool false,.bool false,.int .i64 0,.int .i64 0,.int .i64 0,.slice none 0 0,.slice none 0 0,.slice none 0 0]],[]⟩ 8 (by kernel_rfl) (by kernel_rfl) (by kernel_rfl) (by kernel_rfl)) ?_
 intro W base args ds gs before hval0 hW hcnd hwt hsh _
 have hval:∀ (j:Nat) t v,Tryz.f7.params[j]?=some t→args[j]?=some v→Value.okWide Tryz.prog W .any base t v:=hval0
 have hW':=hW
 obtain⟨p,q,hA0,hV,rfl,hfz,hnd⟩:=hW
 have hA:DataW.TrodAll enc Tryz.prog W 0 (fun _=>true) true Tryz.f7.params.toList args.toList ds p:=hA0
 have hwt':(DataW.weightsEach Tryz.prog (Tryz.f7.params.toList++_) (ds++gs)).all (· ≤ reachBytes)=true:=hwt
 rw [Tryz.params7] at hA hval hwt'
 obtain⟨v0,v1,v2,d0,d1,d2,p0,p1,p2,rfl,rfl,rfl,h0,h1,h2⟩:=trodAll_three hA
 obtain⟨rfl,rfl⟩:=trodVars_none hV
 obtain⟨x0,hx0,hv0⟩:=Zen (D:=30) (Zbw Go.Proofs.Tryz.underlying22 (by kernel_rfl:Go.Proofs.Tryz.prog.bytesOf 121=176) Zlt) (by kernel_rfl) (hval 0 22 v0 rfl rfl) h0 (Zc3 hwt' (i:=0) (t:=22) (d:=d0) rfl rfl)
 rw [Z02 Go.Proofs.Tryz.underlying22] at hv0
 obtain⟨x1,hx1,hv1⟩:=Zen (D:=30) Zjt (by kernel_rfl) (hval 1 31 v1 rfl rfl) h1 (Zc3 hwt' (i:=1) (t:=31) (d:=d1) rfl rfl)
 rw [Zgt Go.Proofs.Tryz.underlying31] at hv1
 obtain⟨x2,hx2,hv2⟩:=Zen (D:=30) Zdt (by kernel_rfl) (hval 2 41 v2 rfl rfl) h2 (Zc3 hwt' (i:=2) (t:=41) (d:=d2) rfl rfl)
 rw [Zgt Go.Proofs.Tryz.underlying41] at hv2
 refine (Zwr (Zaul hsh) (qs:=[_,_,_]) (Zadu x0 x1 x2 ((Zabk x0 x1 x2 (Zcf hx0 (fun _ h=>Zjp h)) (Zh8 hx1) (Zdj hx2)).eq)) (by simp only [VRs];exact⟨v0,_,rfl,hv0,v1,_,rfl,hv1,v2,[],rfl,hv2,rfl⟩)).mono fun e W' ⟨he,hB⟩=>?_
 subst he
 have hlt:∀ x∈p0++(p1++p2),x.block < W.heap.size:=fun x hx=>hW'.lt x (by simpa using hx)
 exact⟨_,rfl,_,_,_,[],_,[],hW',trodAll_mk1 (shut_bool Tryz.underlying4 true),trodAll_mk3 (Below.trod Tryz.laidOut (by kernel_rfl) (of_decide_eq_true (by kernel_rfl)) h0 hB (fun x hx=>hlt x (by simp [hx]))) (Below.trod Tryz.laidOut (by kernel_rfl) (of_decide_eq_true (by kernel_rfl)) h1 hB (fun x hx=>hlt x (by simp [hx]))) (Below.trod Tryz.laidOut (by kernel_rfl) (of_decide_eq_true (by kernel_rfl)) h2 hB (fun x hx=>hlt x (by simp [hx]))),rfl,hB.frame _,fun h=>by cases h⟩
theorem Zaa{a b:Bool}(h:a=true)(g:b=true):(a&&b)=true:=by subst h;subst g;rfl
theorem Zapl:(Rows.targetChooseRow.inPlace==Tryz.pinned.checked.prog.inPlace 7)=true:=by kernel_rfl
theorem Zapm:(Rows.targetChooseRow.unfollowed==Tryz.pinned.checked.prog.unfollowed 7)=true:=by kernel_rfl
theorem Zapn:(Rows.targetChooseRow.recurses==Tryz.pinned.checked.prog.recurses 7)=true:=by kernel_rfl
theorem Zapo:(Rows.targetChooseRow.named==Tryz.pinned.checked.prog.varsNamed 7)=true:=by kernel_rfl
theorem Zapp:(Rows.targetChooseRow.maps==(Tryz.f7.params.toList++Rows.targetChooseSpec.plain.varTypes Tryz.pinned.checked.prog).any (Tryz.pinned.checked.prog.mapsRec ·))=true:=by kernel_rfl
theorem Zapq:(Rows.targetChooseRow.ifaces==(Tryz.f7.params.toList++Rows.targetChooseSpec.plain.varTypes Tryz.pinned.checked.prog).any (Tryz.pinned.checked.prog.ifacesRec ·))=true:=by kernel_rfl
theorem Zapr:(Rows.targetChooseRow.loops==(Tryz.f7.params.toList++Rows.targetChooseSpec.plain.varTypes Tryz.pinned.checked.prog).any (Tryz.pinned.checked.prog.loopsFrom ·))=true:=by kernel_rfl
theorem Zaps:(Rows.targetChooseRow.wideKeys==(Tryz.f7.params.toList++Rows.targetChooseSpec.plain.varTypes Tryz.pinned.checked.prog++Tryz.f7.resultTypes.toList).any (Tryz.pinned.checked.prog.wideKeysFrom ·))=true:=by kernel_rfl
theorem Zapt:(Rows.targetChooseRow.veiled==(Tryz.f7.params.toList++Rows.targetChooseSpec.plain.varTypes Tryz.pinned.checked.prog++Tryz.f7.resultTypes.toList).any (Tryz.pinned.checked.prog.veiledRec ·))=true:=by kernel_rfl
theorem Zapu:Rows.targetChooseRow.veiledFits Tryz.pinned.checked.prog Tryz.f7.params.toList (Tryz.f7.params.toList++Rows.targetChooseSpec.plain.varTypes Tryz.pinned.checked.prog++Tryz.f7.resultTypes.toList)=true:=by kernel_rfl
set_option maxRecDepth 100000 in
theorem Zad3:joinedFacts Tryz.pinned.checked.prog 7 Tryz.f7 Rows.targetChooseSpec Rows.targetChooseRow=true:=by
 unfold joinedFacts
 exact Zaa (Zaa (Zaa (Zaa (Zaa (Zaa (Zaa (Zaa (Zaa (Zaa (Zaa (Zaa (Zaa (Zaa (Zaa (Zaa (Zaa (Zaa (Zaa (Zaa (Zaa (Zaa (Zaa (Zaa (Zaa (Zaa (Zaa (Zaa (Zaa (Zaa (Zaa (by kernel_rfl) (by kernel_rfl)) (by kernel_rfl)) (by kernel_rfl)) (by kernel_rfl)) (by kernel_rfl)) (by kernel_rfl)) (by kernel_rfl)) (by kernel_rfl)) Zapl) Zapm) Zapn) Zapo) Zapp) Zapq) (by kernel_rfl)) Zapr) Zaps) (by kernel_rfl)) (by kernel_rfl)) (by kernel_rfl)) (by kernel_rfl)) (by kernel_rfl)) (by kernel_rfl)) (by kernel_rfl)) (by kernel_rfl)) (by kernel_rfl)) (by kernel_rfl)) (by kernel_rfl)) (by kernel_rfl)) Zapt) Zapu
theorem targetChoose_holds:Rows.TargetChooseSaid:=
 OpenClaim.holds_of_wide 7 Tryz.f7 rfl rfl rfl rfl rfl rfl rfl ⟨rfl,rfl,rfl,rfl,rfl⟩ rfl rfl rfl rfl rfl (by kernel_rfl) Tryz.func7 Zad3
  (of_decide_eq_true (by kernel_rfl)) (by unfold Func.isWrapper;first | (rw [if_pos (by decide +kernel)];kernel_rfl) | (rw [if_neg (by decide +kernel)];exact⟨rfl,rfl⟩))
  (fun os started H enc _=>Zad2 os started H enc)
end Go.Proofs.YtlighhlnmglpfaaGreat
