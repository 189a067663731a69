import Derived.Test.YtiglnkgoicjjfaaQY
set_option linter.all false
namespace Go.Proofs.Ytiglnkgoicjjfaa
open Go.ChangeShapes Go.WideShapes Go.ChangeAt Go.RowKit Go.PW
set_option maxRecDepth 100000 in
theorem Zo3(os:Os)(started:os.Started)(H:Type)(enc:TypeId×Value->H) :
 ReturnsInHanded {} Try.checked os 4 .any (Rows.askApartSpec.pre6 enc Try.prog Try.f4 Rows.askApartRow.domain false) (Rows.askApartSpec.post enc Try.prog Try.f4 false true false false):=by
 refine returnsInHanded_of_change_shaped (C:=Try.checked) Try.own started (by kernel_rfl) Try.func4
  (ChangeSpec.witness6 (enc:=enc) (C:=Try.checked) false ⟨#[],#[.slice none 0 0,.agg #[.int .i64 0,.int .i64 0,.int .i64 0,.int .i64 0,.int .i64 0,.int .i64 0,.slice none 0 0]],[]⟩ 8 (by kernel_rfl) (by kernel_rfl) (by kernel_rfl) (by kernel_rfl)) ?_
 intro W base args ds gs before hval0 hW hcnd hwt hsh _
 have hval:∀ (j:Nat) t v,Try.f4.params[j]?=some t->args[j]?=some v->Value.okWide Try.prog W .any base t v:=hval0
 have hW':=hW
 obtain⟨p,q,hA0,hV,rfl,hfz,hnd⟩:=hW
 have hA:DataW.TrodAll enc Try.prog W 0 (fun _=>true) true Try.f4.params.toList args.toList ds p:=hA0
 have hwt':(DataW.weightsEach Try.prog (Try.f4.params.toList++_) (ds++gs)).all (· <= reachBytes)=true:=hwt
 rw [Try.params4] at hA hval hwt'
 obtain⟨v0,v1,d0,d1,p0,p1,rfl,rfl,rfl,h0,h1⟩:=trodAll_two hA
 obtain⟨rfl,rfl⟩:=trodVars_none hV
 obtain⟨x0,hx0,hv0⟩:=Zsj (D:=30) (Zps Go.Proofs.Try.underlying67 (by kernel_rfl:Go.Proofs.Try.prog.bytesOf 73=24) (Zps Go.Proofs.Try.underlying73 (by kernel_rfl:Go.Proofs.Try.prog.bytesOf 3=8) (Zez Go.Proofs.Try.underlying3))) (by kernel_rfl) (hval 0 67 v0 rfl rfl) h0 (Zop hwt' (i:=0) (t:=67) (d:=d0) rfl rfl)
 rw [Zyz Go.Proofs.Try.underlying67] at hv0
 obtain⟨x1,hx1,hv1⟩:=Zsj (D:=30) Zo2 (by kernel_rfl) (hval 1 70 v1 rfl rfl) h1 (Zop hwt' (i:=1) (t:=70) (d:=d1) rfl rfl)
 rw [Zw0 Go.Proofs.Try.underlying70] at hv1
 refine (Zwz (Z09 W) (qs:=[_,_]) (Zox x0 x1 ((@Zns x0 x1 (Zsk hx0 (fun _ h=>Zsk h (fun _ _=>trivial))) (Znk hx1)).eq)) (by simp only [VRs];exact⟨v0,_,rfl,hv0,v1,[],rfl,hv1,rfl⟩)).mono fun e W' ⟨he,hB⟩=>?_
 subst he
 have hlt:∀ x∈p0++p1,x.block < W.heap.size:=fun x hx=>hW'.lt x (by simpa using hx)
 exact⟨_,rfl,_,_,_,[],_,[],hW',trodAll_mk1 (shut_bool Try.underlying4 true),trodAll_mk2 (Below.trod Try.laidOut (by kernel_rfl) (of_decide_eq_true (by kernel_rfl)) h0 hB (fun x hx=>hlt x (by simp [hx]))) (Below.trod Try.laidOut (by kernel_rfl) (of_decide_eq_true (by kernel_rfl)) h1 hB (fun x hx=>hlt x (by simp [hx]))),rfl,hB.frame _,fun h=>by cases h⟩
theorem Zbh{a b:Bool}(h:a=true)(g:b=true):(a&&b)=true:=by subst h;subst g;rfl
theorem Zsv:(Rows.askApartRow.inPlace==Try.pinned.checked.prog.inPlace 4)=true:=by kernel_rfl
theorem Zsw:(Rows.askApartRow.unfollowed==Try.pinned.checked.prog.unfollowed 4)=true:=by kernel_rfl
theorem Zsx:(Rows.askApartRow.recurses==Try.pinned.checked.prog.recurses 4)=true:=by kernel_rfl
theorem Zsy:(Rows.askApartRow.named==Try.pinned.checked.prog.varsNamed 4)=true:=by kernel_rfl
theorem Zsz:(Rows.askApartRow.maps==(Try.f4.params.toList++Rows.askApartSpec.plain.varTypes Try.pinned.checked.prog).any (Try.pinned.checked.prog.mapsRec ·))=true:=by kernel_rfl
theorem Zs0:(Rows.askApartRow.ifaces==(Try.f4.params.toList++Rows.askApartSpec.plain.varTypes Try.pinned.checked.prog).any (Try.pinned.checked.prog.ifacesRec ·))=true:=by kernel_rfl
theorem Zs1:(Rows.askApartRow.loops==(Try.f4.params.toList++Rows.askApartSpec.plain.varTypes Try.pinned.checked.prog).any (Try.pinned.checked.prog.loopsFrom ·))=true:=by kernel_rfl
theorem Zs2:(Rows.askApartRow.wideKeys==(Try.f4.params.toList++Rows.askApartSpec.plain.varTypes Try.pinned.checked.prog++Try.f4.resultTypes.toList).any (Try.pinned.checked.prog.wideKeysFrom ·))=true:=by kernel_rfl
theorem Zs3:(Rows.askApartRow.veiled==(Try.f4.params.toList++Rows.askApartSpec.plain.varTypes Try.pinned.checked.prog++Try.f4.resultTypes.toList).any (Try.pinned.checked.prog.veiledRec ·))=true:=by kernel_rfl
theorem Zs4:Rows.askApartRow.veiledFits Try.pinned.checked.prog Try.f4.params.toList (Try.f4.params.toList++Rows.askApartSpec.plain.varTypes Try.pinned.checked.prog++Try.f4.resultTypes.toList)=true:=by kernel_rfl
set_option maxRecDepth 100000 in
theorem Zo4:joinedFacts Try.pinned.checked.prog 4 Try.f4 Rows.askApartSpec Rows.askApartRow=true:=by
 unfold joinedFacts
 exact Zbh (Zbh (Zbh (Zbh (Zbh (Zbh (Zbh (Zbh (Zbh (Zbh (Zbh (Zbh (Zbh (Zbh (Zbh (Zbh (Zbh (Zbh (Zbh (Zbh (Zbh (Zbh (Zbh (Zbh (Zbh (Zbh (Zbh (Zbh (Zbh (Zbh (Zbh (by kernel_rfl) (by kernel_rfl)) (by kernel_rfl)) (by kernel_rfl)) (by kernel_rfl)) (by kernel_rfl)) (by kernel_rfl)) (by kernel_rfl)) (by kernel_rfl)) Zsv) Zsw) Zsx) Zsy) Zsz) Zs0) (by kernel_rfl)) Zs1) Zs2) (by kernel_rfl)) (by kernel_rfl)) (by kernel_rfl)) (by kernel_rfl)) (by kernel_rfl)) (by kernel_rfl)) (by kernel_rfl)) (by kernel_rfl)) (by kernel_rfl)) (by kernel_rfl)) (by kernel_rfl)) (by kernel_rfl)) Zs3) Zs4
theorem askApart_holds:Rows.AskApartSaid:=
 OpenClaim.holds_of_wide 4 Try.f4 rfl rfl rfl rfl rfl rfl rfl ⟨rfl,rfl,rfl,rfl,rfl⟩ rfl rfl rfl rfl rfl (by kernel_rfl) Try.func4 Zo4
  (of_decide_eq_true (by kernel_rfl)) (by unfold Func.isWrapper;first | (rw [if_pos (by decide +kernel)];kernel_rfl) | (rw [if_neg (by decide +kernel)];exact⟨rfl,rfl⟩))
  (fun os started H enc _=>Zo3 os started H enc)
end Go.Proofs.Ytiglnkgoicjjfaa
