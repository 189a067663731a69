import Derived.Test.YtchddhcajpagjaaGreatPwV
set_option linter.all false
namespace Go.PW
open Go.RowKit Go.ChangeShapes Go.WideShapes Go.ChangeAt
def oneT:List Zf->PV
 | [x] => .t x
 | _ => .nils
def Zzl(P:Program)(t:TypeId)(ts:List Zf):PV:=
 match P.underlying t with
 | some (.struct _) => .agg (ts.map .t)
 | some (.array _ _) => .agg (ts.map .t)
 | _=>oneT ts
section
variable {H:Type} {enc:TypeId×Value->H} {P:Program} {w:World}
theorem Zbam{D base:Nat}{t:TypeId}{v:Value}{d:DataW H}{p:List MemPlace}(hval:Value.okWide P w .any base t v)(hd:DataW.Trod enc P w 0 (fun _=>true) true t v d p)(hp:Zqr P D t=true)(hwt:∀ n∈d.weights P t,n<=reachBytes) :
 ∃ ts,VR (Rd w) (Zzl P t ts) v/\WT P D t ts:=by
 obtain⟨fuel,hd⟩:=hd
 obtain⟨ts,hr,hw⟩:=Zzk D fuel t _ _ hd hp hwt
 refine⟨ts,?_,hw⟩
 unfold Zzl
 unfold Value.okWide at hval
 have one:∀ u,v.cells.toList=[u]->(∀ cs,v ≠ .agg cs)->u=v:=by
  intro u hu hne
  cases v<;>first | exact absurd rfl (hne _) | (simp [Value.cells] at hu;exact hu.symm)
 have key:(∀ cs,v ≠ .agg cs)->(∃ x,ts=[x])->VR (Rd w) (oneT ts) v:=by
  rintro hne ⟨x,rfl⟩
  simp only [List.map_cons,List.map_nil,VRs] at hr
  obtain⟨u,rest,he,hv,hrest⟩:=hr
  subst hrest
  have:=one u he hne
  subst this
  exact hv
 cases D with
 | zero=>simp [Zqr] at hp
 | succ D=>
  unfold WT at hw
  unfold Zqr at hp
  cases hu:P.underlying t with
  | none=>simp [hu] at hp
  | some u=>
   simp only [hu] at hp hval hw ⊢
   cases u<;>simp only [Bool.false_eq_true] at hp hval hw ⊢
   case struct fs=>
    obtain⟨cs,rfl,_⟩:=hval
    simp only [VR]
    exact⟨cs.toList,by simp,by simpa [Value.cells] using hr⟩
   case array n e=>
    obtain⟨cs,rfl,_⟩:=hval
    simp only [VR]
    exact⟨cs.toList,by simp,by simpa [Value.cells] using hr⟩
   all_goals
    refine key (fun cs e=>?_) ?_
    .subst e
     simp [Cell.okWide,Cell.ok,hu] at hval
    .first
     | (obtain⟨b,hb⟩:=hw;exact⟨_,hb⟩)
     | (obtain⟨b,hb,_⟩:=hw;exact⟨_,hb⟩)
theorem Za6x{f:FuncId}{qs:List PV}{W:World}{args:Array Value}(hgl:Zaj4 W)(hf:Fn P f qs (.t (.bool true)))(hv:VRs (Rd W) qs args.toList) :
 Calls P f args W fun e W'=>e = .returned (.bool true)/\Below W.heap.size W W':=by
 have:=Zah3 hf (fun b=>b < W.heap.size) (fun b hb=>hb) (fun g k hg=>(hgl g k hg).1) (w:=W) (vals:=args.toList) hgl hv
 rw [Array.toArray_toList] at this
 refine this.mono ?_
 rintro e W' ⟨v,rfl,hr,hs,hb,h1,h2,h3⟩
 simp only [VR,Z0] at hr
 subst hr
 exact⟨rfl,h1,h2,h3,hs,hb⟩
end
end Go.PW
