import Derived.Test.YtdjfkajcchcdkaaGreatQY
set_option linter.all false
namespace Go.Proofs.YtdjfkajcchcdkaaGreat
open Go.ChangeShapes Go.WideShapes Go.ChangeAt Go.RowKit Go.PW
set_option maxRecDepth 100000 in
def Zad(os:Os)(started:os.Started)(H:Type)(enc:TypeId×Value->H) :
 ReturnsInHanded {} Tryz.checked os 6 .any (Rows.stackTargetsSpec.pre6 enc Tryz.prog Tryz.f6 Rows.stackTargetsRow.domain false) (Rows.stackTargetsSpec.post enc Tryz.prog Tryz.f6 false true false false):=by
 refine returnsInHanded_of_change_shaped (C:=Tryz.checked) Tryz.own started ar Tryz.func6
  (ChangeSpec.witness6 (enc:=enc) (C:=Tryz.checked) false ⟨#[],#[.slice none 0 0,.agg #[.slice none 0 0,.slice none 0 0,.slice none 0 0,.slice none 0 0,.slice none 0 0,.slice none 0 0,.slice none 0 0,.int .i64 0,.int .i64 0,.int .i64 0,.bool false,.int .i64 0,.int .i64 0,.int .i64 0,.int .i64 0,.int .u64 0,.slice none 0 0,.int .i64 0,.int .i64 0],.slice none 0 0],[]⟩ 8 ar ar ar ar) ?_
 intro W base args ds gs before hval0 hW hcnd hwt hsh _;have hval:∀(j:Nat) t v,Tryz.f6.params[j]?=some t->args[j]?=some v->Value.okWide Tryz.prog W .any base t v:=hval0;have hW':=hW;obtain⟨p,q,hA0,hV,rfl,hfz,hnd⟩:=hW;have hA:DataW.TrodAll enc Tryz.prog W 0 (λ_=>true) true Tryz.f6.params.toList args.toList ds p:=hA0;have hwt':(DataW.weightsEach Tryz.prog (Tryz.f6.params.toList++_) (ds++gs)).all (· <= reachBytes)=true:=hwt;rw[Tryz.params6]at hA hval hwt';obtain⟨v0,v1,v2,d0,d1,d2,p0,p1,p2,rfl,rfl,rfl,h0,h1,h2⟩:=trodAll_three hA;obtain⟨rfl,rfl⟩:=trodVars_none hV;obtain⟨x0,hx0,hv0⟩:=Z00 (D:=30) (dE Go.Proofs.Tryz.underlying22 (by kernel_rfl:Go.Proofs.Tryz.prog.bytesOf 124=176) Jl) ar (hval 0 22 v0 rfl rfl) h0 (nC hwt' (i:=0) (t:=22) (d:=d0) rfl rfl);rw[uS Go.Proofs.Tryz.underlying22]at hv0;obtain⟨x1,hx1,hv1⟩:=Z00 (D:=30) Jm ar (hval 1 31 v1 rfl rfl) h1 (nC hwt' (i:=1) (t:=31) (d:=d1) rfl rfl);rw[Jn Go.Proofs.Tryz.underlying31]at hv1;obtain⟨x2,hx2,hv2⟩:=Z00 (D:=30) (dE Go.Proofs.Tryz.underlying73 (by kernel_rfl:Go.Proofs.Tryz.prog.bytesOf 25=24) (dE Go.Proofs.Tryz.underlying25 (by kernel_rfl:Go.Proofs.Tryz.prog.bytesOf 3=8) (Z8 Go.Proofs.Tryz.underlying3))) ar (hval 2 73 v2 rfl rfl) h2 (nC hwt' (i:=2) (t:=73) (d:=d2) rfl rfl);rw[uS Go.Proofs.Tryz.underlying73]at hv2;refine(Jo (Jp hsh) (qs:=[_,_,_]) (Zae x0 x1 x2 ((@Zaf x0 x1 x2 (dF hx0 (λ_ h=>Jq h)) (Jr hx1) (dF hx2 (λ_ h=>dF h (λ_ _=>trivial)))).eq)) (by simp only[VRs];exact⟨v0,_,rfl,hv0,v1,_,rfl,hv1,v2,[],rfl,hv2,rfl⟩)).mono λe W' ⟨he,hB⟩=>?_;subst he;have hlt:∀x∈p0++(p1++p2),x.block<W.heap.size:=λx hx=>hW'.lt x qn;exact⟨_,rfl,_,_,_,[],_,[],hW',trodAll_mk1 (shut_bool Tryz.underlying4 true),trodAll_mk3 (Below.trod Tryz.laidOut ar (gE ar) h0 hB (λx hx=>hlt x (by simp[hx]))) (Below.trod Tryz.laidOut ar (gE ar) h1 hB (λx hx=>hlt x (by simp[hx]))) (Below.trod Tryz.laidOut ar (gE ar) h2 hB (λx hx=>hlt x (by simp[hx]))),rfl,hB.frame _,λh=>by cases h⟩
def bu{a b:Bool}(h:a=true)(g:b=true):(a&&b)=true:=by subst h;subst g;rfl
def Zag:(Rows.stackTargetsRow.inPlace==Tryz.pinned.checked.prog.inPlace 6)=true:=ar
def Zah:(Rows.stackTargetsRow.unfollowed==Tryz.pinned.checked.prog.unfollowed 6)=true:=ar
def Zai:(Rows.stackTargetsRow.recurses==Tryz.pinned.checked.prog.recurses 6)=true:=ar
def Zaj:(Rows.stackTargetsRow.named==Tryz.pinned.checked.prog.varsNamed 6)=true:=ar
def Zak:(Rows.stackTargetsRow.maps==(Tryz.f6.params.toList++Rows.stackTargetsSpec.plain.varTypes Tryz.pinned.checked.prog).any (Tryz.pinned.checked.prog.mapsRec ·))=true:=ar
def Zal:(Rows.stackTargetsRow.ifaces==(Tryz.f6.params.toList++Rows.stackTargetsSpec.plain.varTypes Tryz.pinned.checked.prog).any (Tryz.pinned.checked.prog.ifacesRec ·))=true:=ar
def Zam:(Rows.stackTargetsRow.loops==(Tryz.f6.params.toList++Rows.stackTargetsSpec.plain.varTypes Tryz.pinned.checked.prog).any (Tryz.pinned.checked.prog.loopsFrom ·))=true:=ar
def Zan:(Rows.stackTargetsRow.wideKeys==(Tryz.f6.params.toList++Rows.stackTargetsSpec.plain.varTypes Tryz.pinned.checked.prog++Tryz.f6.resultTypes.toList).any (Tryz.pinned.checked.prog.wideKeysFrom ·))=true:=ar
def Zao:(Rows.stackTargetsRow.veiled==(Tryz.f6.params.toList++Rows.stackTargetsSpec.plain.varTypes Tryz.pinned.checked.prog++Tryz.f6.resultTypes.toList).any (Tryz.pinned.checked.prog.veiledRec ·))=true:=ar
def Zap:Rows.stackTargetsRow.veiledFits Tryz.pinned.checked.prog Tryz.f6.params.toList (Tryz.f6.params.toList++Rows.stackTargetsSpec.plain.varTypes Tryz.pinned.checked.prog++Tryz.f6.resultTypes.toList)=true:=ar
set_option maxRecDepth 100000 in
def Zaq:joinedFacts Tryz.pinned.checked.prog 6 Tryz.f6 Rows.stackTargetsSpec Rows.stackTargetsRow=true:=by unfold joinedFacts;exact bu (bu (bu (bu (bu (bu (bu (bu (bu (bu (bu (bu (bu (bu (bu (bu (bu (bu (bu (bu (bu (bu (bu (bu (bu (bu (bu (bu (bu (bu (bu ar ar) ar) ar) ar) ar) ar) ar) ar) Zag) Zah) Zai) Zaj) Zak) Zal) ar) Zam) Zan) ar) ar) ar) ar) ar) ar) ar) ar) ar) ar) ar) ar) Zao) Zap
def stackTargets_holds:Rows.StackTargetsSaid:=
 OpenClaim.holds_of_wide 6 Tryz.f6 rfl rfl rfl rfl rfl rfl rfl ⟨rfl,rfl,rfl,rfl,rfl⟩ rfl rfl rfl rfl rfl ar Tryz.func6 Zaq
  (gE ar) (by unfold Func.isWrapper;first|(rw[aP (by decide+kernel)];kernel_rfl)|(rw[aI (by decide+kernel)];exact⟨rfl,rfl⟩))
  (λos started H enc _=>Zad os started H enc)
end Go.Proofs.YtdjfkajcchcdkaaGreat
