import Derived.Test.YtiglnkgoicjjfaaPwLp
set_option linter.all false
namespace Go.PW
open Go.RowKit
theorem Zkb{k i:Nat}{es:List (List Za)}(hk:∀ el,el∈es->el.length=k)(hi:i < es.length):((es.take i).flatten.map PV.t).length=i*k:=by
 rw [List.length_map,Z3 (k:=k) (fun el hel=>hk el (List.mem_of_mem_take hel)),List.length_take,Nat.min_eq_left (Nat.le_of_lt hi)]
theorem Zx0{k i j:Nat}{es:List (List Za)}{cs:List PV}(hk:∀ el,el∈es->el.length=k)(hi:i < es.length)(hj:j < cs.length):(Zbi i es cs)[i*k+j]?=cs[j]?:=by
 unfold Zbi
 rw [List.getElem?_append_right (by rw [Zkb hk hi];omega),Zkb hk hi,Nat.add_sub_cancel_left,List.getElem?_append_left hj]
theorem Zp5{k i:Nat}{es:List (List Za)}{cs:List PV}(hk:∀ el,el∈es->el.length=k)(hi:i < es.length):i*k+cs.length<=(Zbi i es cs).length:=by
 unfold Zbi
 rw [List.length_append,Zkb hk hi,List.length_append];omega
theorem Zx1{c:Ctx}{k i:Nat}{es:List (List Za)}{cs:List PV}{vs:List Value}(hk:∀ el,el∈es->el.length=k)(hi:i < es.length)(h:VRs c (Zbi i es cs) vs) :
 ∃ us,VRs c cs us/\∀ j v,us[j]?=some v->vs[i*k+j]?=some v:=by
 have hl:=h.length
 have hp:=Zp5 (cs:=cs) hk hi
 have hg:∀ j,j < cs.length->((vs.drop (i*k)).take cs.length)[j]?=vs[i*k+j]?:=fun j hj=>by
  rw [List.getElem?_take,if_pos hj,List.getElem?_drop]
 refine⟨(vs.drop (i*k)).take cs.length,VRs.of_get (by simp;omega) (fun j p v hp' hv=>?_),fun j v hv=>?_⟩
 .have hj:=(List.getElem?_eq_some_iff.1 hp').1
  obtain⟨v',h1,h2⟩:=h.get (i*k+j) p ((Zx0 hk hi hj).trans hp')
  rw [hg j hj,h1] at hv;cases hv;exact h2
 .have hj:j < cs.length:=by have:=(List.getElem?_eq_some_iff.1 hv).1;simp at this;omega
  rwa [hg j hj] at hv
theorem Ztj{k i off:Nat}{es:List (List Za)}{cs qs:List PV}(hk:∀ el,el∈es->el.length=k)(hi:i < es.length)(hq:off+qs.length<=cs.length):splice (Zbi i es cs) (i*k+off) qs=Zbi i es (splice cs off qs):=by
 have hA:=Zkb hk hi
 unfold Zbi splice
 rw [List.take_append,hA,List.take_of_length_le (by rw [hA];omega),Nat.add_sub_cancel_left,List.take_append_of_le_length (by omega),
  List.drop_append,hA,List.drop_eq_nil_of_le (by rw [hA];omega),List.nil_append,show i*k+off+qs.length - i*k=off+qs.length by omega,List.drop_append_of_le_length hq]
 simp only [List.append_assoc]
section
variable {P:Program} {o:Oper} {ρ:List (Nat×PV)} {σ:List (Nat×Blk)}
theorem Zwc{s:TypeId}{x:Operand}{f l m q off size k i:Nat}{es:List (List Za)}{cs:List PV}(ho:o.op = .fieldAddr s x f)(hf:fieldInfo P s f=some (off,size))(hs:size≠0)(hx:Zb ρ x=some (.own l (.pp m q)))
 (hg:get σ l=some (.prow k i es cs)) (hm:es.length=m):Zr P o ρ σ [l] (.own l (.pp m (q+off))) []:=
 Z2 fun G β n tm σ' A w hop hneed _=>by
  have h1:=hop x _ (by simp [ho,Op.operands]) hx
  simp only [VR] at h1⊢
  have hgl:get σ' l=some (.prow k i es cs):=(hneed l (by simp)).trans hg
  obtain⟨b,hb,hv⟩:=(h1.1 k i es cs hgl).2 hm.symm
  refine⟨.pointer (some ⟨b,i*k+q+off,none⟩),?_,fun k' i' es' cs' hes'=>?_,rfl⟩
  .simp only [execOp,ho,hv,Sem.run_bind,Zb6 w hf hs,Result.andThen_ok,Sem.run_pure]
  .have:some (Blk.prow k' i' es' cs')=some (.prow k i es cs):=Eq.trans (Eq.symm hes') hgl
   cases this
   exact⟨by omega,fun _=>⟨b,hb,by rw [Nat.add_assoc]⟩⟩
theorem Zrx{x:Operand}{l m q k i:Nat}{es:List (List Za)}{cs:List PV}(ho:o.op = .nilCheck x)(hx:Zb ρ x=some (.own l (.pp m q)))(hg:get σ l=some (.prow k i es cs))(hm:es.length=m):Zr P o ρ σ [l] (.own l (.pp m q)) []:=
 Z2 fun G β n tm σ' A w hop hn _=>by
  have h1:=hop x _ (by simp [ho,Op.operands]) hx
  have h2:=h1
  simp only [VR] at h1
  obtain⟨b,_,hv⟩:=(h1.1 k i es cs ((hn l (by simp)).trans hg)).2 hm.symm
  exact⟨.pointer (some ⟨b,i*k+q,none⟩),by simp [execOp,ho,hv],by rw [<- hv];exact h2⟩
theorem Zx2{t:TypeId}{x:Operand}{l m q size k i:Nat}{agg:Bool}{es:List (List Za)}{cs:List PV}{p:PV}(ho:o.op = .load t x)(hT:TyF P t agg size)(hx:Zb ρ x=some (.own l (.pp m q)))(hg:get σ l=some (.prow k i es cs))(hm:es.length=m)
 (hp:Zar agg size q cs=some p):Zr P o ρ σ [l] p []:=
 Z2 fun G β n tm σ' A w hop hneed hr=>by
  have e1:=hop x _ (by simp [ho,Op.operands]) hx
  simp only [VR] at e1
  have hgl:get σ' l=some (.prow k i es cs):=(hneed l (by simp)).trans hg
  obtain⟨b,hb,hv⟩:=(e1.1 k i es cs hgl).2 hm.symm
  obtain⟨_,hkl,hi,_,_,b',sz,vs,hb',hrow,hsz,hc,hvs⟩:=hr.blk l _ hgl
  have:b'=b:=by have:=hb'.symm.trans hb;simpa using this
  subst this
  obtain⟨us,h1,h2⟩:=Zx1 hkl hi hvs
  obtain⟨v,hrun,hpv⟩:=Zcw (q:=i*k) hT w h1 (fun j v hj=>hc _ v (h2 j v hj)) hp
  exact⟨v,by simp only [execOp,ho,hv,Sem.run_bind,hrun,Result.andThen_ok,Sem.run_pure],hpv⟩
theorem Zx3{σ0:List (Nat×Blk)}{t:TypeId}{x y:Operand}{l m0 off size k i:Nat}{agg:Bool}{es:List (List Za)}{cs:List PV}{p:PV}(ho:o.op = .store t x y)(hd:o.dst=none)(hT:TyF P t agg size)(hx:Zb ρ x=some (.own l (.pp m0 off)))(hy:Zb ρ y=some p)
 (hg0:get σ0 l=some (.prow k i es cs)) (hm0:es.length=m0) (hs:(Zi p).length=size) (h1:(Zi p).all PV.one=true) (hq:off+size<=cs.length):OpF P o ρ σ0 [l] [l] (.tup []) [(l,.prow k i es (splice cs off (Zi p)))]:=by
 rintro G n tm σ a w K Q hag hneed _ ⟨β,hr⟩ hK
 have hg:get σ l=some (.prow k i es cs):=by rw [hneed l (by simp)];exact hg0
 have hop:∀ x q,x∈o.op.operands->Zb ρ x=some q->VR (ctx G β w σ) q (a.eval x):=fun x q hx hq=>Zbw hr hq (fun t r ht hr'=>hag t r (ht▸hx) hr')
 have e1:=hop x _ (by simp [ho,Op.operands]) hx
 have e2:=hop y _ (by simp [ho,Op.operands]) hy
 simp only [VR] at e1
 obtain⟨b,hb,hv⟩:=(e1.1 k i es cs hg).2 hm0.symm
 obtain⟨hk0,hkl,hi,hcl,hone,b',sz,vs,hb',hrow,hsz,hc,hvs⟩:=hr.blk l _ hg
 have:b'=b:=by have:=hb'.symm.trans hb;simpa using this
 subst this
 have hik:i*k+k<=sz:=by
  have h2:(i+1)*k<=es.length*k:=Nat.mul_le_mul_right _ hi
  rw [Nat.add_mul,Nat.one_mul] at h2
  omega
 have hrun:=Zbr hT w e2 hs h1 hrow (q:=i*k+off) (by omega)
 have hcells:=e2.cells
 have hul:(a.eval y).cells.toList.length=size:=by rw [hcells.length,hs]
 have hvl:i*k+off+size<=vs.length:=by rw [hvs.length];have:=Zp5 (cs:=cs) hkl hi;omega
 obtain⟨hr',hI,hL⟩:=Zcx hr (off:=i*k+off) (blk' := .prow k i es (splice cs off (Zi p))) (a.eval y).cells.toList hg hb (.inr (.inr (.inl ⟨k,i,es,cs,_,rfl,rfl⟩))) (fun hI hL=>by
  refine⟨hk0,hkl,hi,by rw [Zcp _ _ _ (by rw [hs];exact hq)];exact hcl,?_,b',sz,splice vs (i*k+off) (a.eval y).cells.toList,hb,Z1 _ _ _ _ hrow,hsz,Zb2 hc (by rw [hul];exact hvl),?_⟩
  .unfold splice
   simp only [List.all_append,Bool.and_eq_true]
   exact⟨⟨List.all_eq_true.2 fun z hz=>List.all_eq_true.1 hone z (List.mem_of_mem_take hz),h1⟩,List.all_eq_true.2 fun z hz=>List.all_eq_true.1 hone z (List.mem_of_mem_drop hz)⟩
  .rw [<- Ztj hkl hi (by rw [hs];exact hq)]
   exact (VRs.step hI _ _ (fun m _=>hL m) hvs).splice _ (VRs.step hI _ _ (fun m _=>hL m) hcells))
 have hrun2:(execOp a.eval o).run P w = .ok .skip (w.setCells b' (i*k+off) (a.eval y).cells.toList):=by
  simp only [execOp,ho,hv,Sem.run_bind,hrun,Result.andThen_ok,Sem.run_pure]
 unfold Oper.wp
 rw [hrun2,Oper.upon_skip,hd]
 have:=hK (.tuple #[]) (w.setCells b' (i*k+off) (a.eval y).cells.toList) ⟨β,hr',by simp [VR,VRs]⟩
 rw [hd] at this
 exact this
end
theorem Ztu{G:Frm}{β:Nat->Option Nat}{n:Nat}{tm tm':List (Nat×PV)}{σ σ':List (Nat×Blk)}{a:Act}{w:World}(h:Zq G β ⟨n,tm,σ⟩ a w){l:Nat}{B B':Blk}(hl:1000<=l)
 (hg:get σ l=some B) (hg':get σ' l=some B') (hown:∀ b,Zj β w l B' b->Zj β w l B b)
 {Tn:List PV->List PV->Prop} (hσ:∀ m o',m≠l->get σ' m=some o'->∃ o,get σ m=some o/\((o'=o/\o.has l=false)\/∃ cs cs',o = .box cs/\o' = .box cs'/\cs'.length=cs.length/\cs'.all PV.one=true/\Tn cs cs'))
 (hT:(∀ b,(ctx G β w σ).I b->(ctx G β w σ').I b/\(ctx G β w σ').w.heap[b]?=(ctx G β w σ).w.heap[b]?)->(∀ m,m≠l->Zm (ctx G β w σ) (ctx G β w σ') m)->∀ cs cs',Tn cs cs'->∀ vs,VRs (ctx G β w σ) cs vs->VRs (ctx G β w σ') cs' vs)
 (hbr:(∀ b,(ctx G β w σ).I b->(ctx G β w σ').I b/\(ctx G β w σ').w.heap[b]?=(ctx G β w σ).w.heap[b]?)->(∀ m,m≠l->Zm (ctx G β w σ) (ctx G β w σ') m)->BR (ctx G β w σ) l B->BR (ctx G β w σ') l B')
 (ht:(∀ b,(ctx G β w σ).I b->(ctx G β w σ').I b/\(ctx G β w σ').w.heap[b]?=(ctx G β w σ).w.heap[b]?)->(∀ m,m≠l->Zm (ctx G β w σ) (ctx G β w σ') m)->∀ i q,get tm' i=some q->∃ p,get tm i=some p/\∀ v,VR (ctx G β w σ) p v->VR (ctx G β w σ') q v) :
 Zq G β ⟨n,tm',σ'⟩ a w:=by
 have hO:∀ m o' b,get σ' m=some o'->Zj β w m o' b->∃ o,get σ m=some o/\Zj β w m o b:=fun m o' b hm ho=>by
  by_cases e:m=l
  .subst e
   rw [hg'] at hm;cases hm
   exact⟨B,hg,hown b ho⟩
  .obtain⟨o,h1,h2⟩:=hσ m o' e hm
   rcases h2 with ⟨rfl,_⟩ | ⟨cs,cs',rfl,rfl,_⟩
   .exact⟨_,h1,ho⟩
   .exact⟨_,h1,.inl (Zj.flat (o := .box cs') trivial ho)⟩
 have hI:∀ b,(ctx G β w σ).I b->(ctx G β w σ').I b/\(ctx G β w σ').w.heap[b]?=(ctx G β w σ).w.heap[b]?:=fun b hb=>
  ⟨⟨hb.1,hb.2.1,fun m o hm ho=>by obtain⟨o2,h1,h2⟩:=hO m o b hm ho;exact hb.2.2 m o2 h1 h2⟩,rfl⟩
 have hL:∀ m,m≠l->Zm (ctx G β w σ) (ctx G β w σ') m:=fun m e=>by
  refine⟨fun k es' hm=>?_,fun cs' hm=>?_,fun k q es' hm=>?_,fun ag es' hm=>?_,fun k i es' cs' hm=>?_,fun h' hm=>?_,fun k i r es' hm=>?_⟩
  all_goals obtain⟨o,h1,h2⟩:=hσ m _ e hm
  .rcases h2 with ⟨h2,_⟩ | ⟨_,_,_,h2,_⟩
   .subst h2;exact⟨es',h1,Nat.le_refl _,fun _=>⟨rfl,fun _ _ _ h=>h⟩⟩
   .cases h2
  .rcases h2 with ⟨h2,_⟩ | ⟨cs,cs2,h3,h2,_⟩
   .subst h2;exact⟨cs',h1,rfl⟩
   .subst h3;exact⟨cs,h1,rfl⟩
  .rcases h2 with ⟨h2,_⟩ | ⟨_,_,_,h2,_⟩
   .subst h2;exact⟨es',h1,Nat.le_refl _,fun _=>⟨rfl,fun _ _=>⟨fun _ h=>h,fun _ _=>rfl⟩⟩⟩
   .cases h2
  .rcases h2 with ⟨h2,_⟩ | ⟨_,_,_,h2,_⟩
   .subst h2;exact⟨_,es',h1,rfl⟩
   .cases h2
  .rcases h2 with ⟨h2,_⟩ | ⟨_,_,_,h2,_⟩
   .subst h2;exact⟨es',cs',h1,rfl,rfl,fun _ _ _ h=>h⟩
   .cases h2
  .rcases h2 with ⟨h2,_⟩ | ⟨_,_,_,h2,_⟩
   .subst h2;exact⟨h1,fun n hn=>⟨n,hn,fun _ hb=>⟨hb,ShB.same rfl⟩⟩⟩
   .cases h2
  .rcases h2 with ⟨h2,_⟩ | ⟨_,_,_,h2,_⟩
   .subst h2;exact⟨i,es',h1,Nat.le_refl _,fun _=>⟨rfl,fun _ _ _ h=>h⟩⟩
   .cases h2
 exact { defers := h.defers, sz := h.sz, base := h.base, os := h.os, tape := h.tape, output := h.output, old := h.old, A := h.A, gl := h.gl,
         inj:=fun m m' o o' b hm hm' hb hb'=>by
          obtain⟨o1,h1,h2⟩:=hO m o b hm hb
          obtain⟨o2,h3,h4⟩:=hO m' o' b hm' hb'
          exact h.inj m m' o1 o2 b h1 h3 h2 h4,
         sep:=fun m o b hm hb=>by obtain⟨o1,h1,h2⟩:=hO m o b hm hb;exact h.sep m o1 b h1 h2,
         fix:=fun m cs hm1 hm=>by
          have e:m≠l:=by omega
          obtain⟨o,h1,h2⟩:=hσ m _ e hm
          rcases h2 with ⟨h2,_⟩ | ⟨cs0,cs2,h3,h2,_⟩
          .subst h2;exact h.fix m cs hm1 h1
          .subst h3;exact h.fix m cs0 hm1 h1,
         row0:=h.row0.step (fun m hm=>hL m (by omega)),
         blk:=fun m o hm=>by
          by_cases e:m=l
          .subst e
           have:some o=some B':=Eq.trans (Eq.symm hm) hg'
           cases this
           exact hbr hI hL (h.blk m _ hg)
          .obtain⟨o0,h1,h2⟩:=hσ m o e hm
           have hb:=h.blk m o0 h1
           rcases h2 with ⟨rfl,h3⟩ | ⟨cs,cs',rfl,rfl,h3,h4,h5⟩
           .exact BR.step hI rfl (fun _ _=>rfl) (fun q hq=>hL q (fun e2=>by subst e2;rw [h3] at hq;cases hq)) hb
           .obtain⟨b,vs,f1,f2,f3,f4,f5⟩:=hb
            exact⟨b,vs,f1,by rw [h3];exact f2,f3,hT hI hL cs cs' h5 vs f4,h4⟩,
         tm:=fun i q hq=>by
          obtain⟨p,hp,hv⟩:=ht hI hL i q hq
          exact⟨(h.tm i p hp).1,hv _ (h.tm i p hp).2⟩ }
def Zm4(l i:Nat):PV->Option (List Prop×PV)
 | .osl m n=>bif Nat.beq m l then some ([],.own l (.pw n)) else some ([],.osl m n)
 | .rptr m n j off=>bif Nat.beq m l then some ([j=i],.own l (.pp n off)) else some ([],.rptr m n j off)
 | p=>bif p.has l then none else some ([],p)
def Zld(l i len:Nat):PV->Option (List Prop×PV)
 | .own m (.pw n)=>bif Nat.beq m l then some ([n=len],.osl l n) else some ([],.own m (.pw n))
 | .own m (.pp n off)=>bif Nat.beq m l then some ([n=len],.rptr l n i off) else some ([],.own m (.pp n off))
 | p=>bif p.has l then none else some ([],p)
def Ze5(f:PV->Option (List Prop×PV)):List PV->Option (List Prop×List PV)
 | []=>some ([],[])
 | p::ps=>
  match f p,Ze5 f ps with
  | some (q,p'),some (qs,ps')=>some (q++qs,p'::ps')
  | _,_=>none
def Zfw(f:PV->Option (List Prop×PV)):List (Nat×PV)->Option (List Prop×List (Nat×PV))
 | []=>some ([],[])
 | (i,p)::r=>
  match f p,Zfw f r with
  | some (q,p'),some (qs,r')=>some (q++qs,(i,p')::r')
  | _,_=>none
def Zih(l:Nat)(B':Blk)(f:PV->Option (List Prop×PV)):List (Nat×Blk)->Option (List Prop×List (Nat×Blk))
 | []=>some ([],[])
 | (m,b)::r=>
  match Zih l B' f r with
  | none=>none
  | some (qs,r')=>
   bif Nat.beq m l then some (qs,(m,B')::r') else
   match b with
   | .box cs=>match Ze5 f cs with | some (q,cs')=>bif cs'.all PV.one then some (q++qs,(m,.box cs')::r') else none | none=>none
   | b=>bif b.has l then none else some (qs,(m,b)::r')
theorem Zry{f:PV->Option (List Prop×PV)}{c c':Ctx}(hf:∀ p qs p',f p=some (qs,p')->Zo qs->∀ v,VR c p v->VR c' p' v):∀ {ps:List PV} {qs:List Prop} {ps':List PV},Ze5 f ps=some (qs,ps')->Zo qs->ps'.length=ps.length/\∀ vs,VRs c ps vs->VRs c' ps' vs
 | [],qs,ps',h,_=>by simp only [Ze5,Option.some.injEq,Prod.mk.injEq] at h;obtain⟨_,rfl⟩:=h;exact⟨rfl,fun vs h=>h⟩
 | p::ps,qs,ps',h,hc=>by
  simp only [Ze5] at h
  split at h
  .rename_i q p' qs' ps2 h1 h2
   cases h
   obtain⟨c1,c2⟩:=Zf.1 hc
   obtain⟨g1,g2⟩:=Zry hf h2 c2
   refine⟨by simp [g1],fun vs hv=>?_⟩
   simp only [VRs] at hv⊢
   obtain⟨v,rest,rfl,hv,hr⟩:=hv
   exact⟨v,rest,rfl,hf p q p' h1 c1 v hv,g2 rest hr⟩
  .cases h
theorem Zrz{f:PV->Option (List Prop×PV)}:∀ {tm tm':List (Nat×PV)} {qs:List Prop},Zfw f tm=some (qs,tm')->Zo qs->∀ i q,get tm' i=some q->∃ p r,get tm i=some p/\f p=some (r,q)/\Zo r
 | [],tm',qs,h,_,i,q,hq=>by simp only [Zfw,Option.some.injEq,Prod.mk.injEq] at h;obtain⟨_,rfl⟩:=h;cases hq
 | (j,p)::r,tm',qs,h,hc,i,q,hq=>by
  simp only [Zfw] at h
  split at h
  .rename_i q1 p' qs' r' h1 h2
   cases h
   obtain⟨c1,c2⟩:=Zf.1 hc
   simp only [PW.get] at hq⊢
   cases hb:Nat.beq j i with
   | true=>simp only [hb,cond_true,Option.some.injEq] at hq⊢;subst hq;exact⟨p,q1,rfl,h1,c1⟩
   | false=>simp only [hb,cond_false] at hq⊢;exact Zrz h2 c2 i q hq
  .cases h
theorem Zp6{f:PV->Option (List Prop×PV)}:∀ {ps:List PV} {qs:List Prop} {ps':List PV},Ze5 f ps=some (qs,ps')->ps'.length=ps.length
 | [],qs,ps',h=>by simp only [Ze5,Option.some.injEq,Prod.mk.injEq] at h;obtain⟨_,rfl⟩:=h;rfl
 | p::ps,qs,ps',h=>by
  simp only [Ze5] at h
  split at h
  .rename_i q p' qs' ps2 h1 h2
   cases h
   simp [Zp6 h2]
  .cases h
theorem Zpb{l:Nat}{B':Blk}{f:PV->Option (List Prop×PV)}:∀ {σ σ':List (Nat×Blk)} {qs:List Prop},Zih l B' f σ=some (qs,σ')->Zo qs ->
 (∀ m o',m≠l->get σ' m=some o'->∃ o,get σ m=some o/\((o'=o/\o.has l=false)\/∃ cs cs',o = .box cs/\o' = .box cs'/\cs'.length=cs.length/\cs'.all PV.one=true/\∃ q,Ze5 f cs=some (q,cs')/\Zo q)) /\
 ((∃ o,get σ l=some o)->get σ' l=some B')
 | [],σ',qs,h,_=>by
  simp only [Zih,Option.some.injEq,Prod.mk.injEq] at h
  obtain⟨_,rfl⟩:=h
  exact⟨fun m o' _ h=>(by cases h),fun⟨o,h⟩=>(by cases h)⟩
 | (j,b)::r,σ',qs,h,hc=>by
  simp only [Zih] at h
  split at h
  .cases h
  .rename_i qs' r' h1
   cases hb:Nat.beq j l with
   | true=>
    simp only [hb,cond_true,Option.some.injEq,Prod.mk.injEq] at h
    obtain⟨rfl,rfl⟩:=h
    obtain⟨g1,_⟩:=Zpb h1 hc
    have hjl:j=l:=(Ze _ _).1 hb
    subst hjl
    refine⟨fun m o' hm ho=>?_,fun _=>by simp [PW.get]⟩
    simp only [PW.get,Zai (Ne.symm hm),cond_false] at ho⊢
    exact g1 m o' hm ho
   | false=>
    simp only [hb,cond_false] at h
    have hjl:j≠l:=fun e=>by subst e;simp at hb
    have key:∀ (b':Blk) (q:List Prop),σ'=(j,b')::r'->(Zo qs')->((b'=b/\b.has l=false)\/∃ cs cs',b = .box cs/\b' = .box cs'/\cs'.length=cs.length/\cs'.all PV.one=true/\∃ q,Ze5 f cs=some (q,cs')/\Zo q) ->
     (∀ m o',m≠l->get σ' m=some o'->∃ o,get ((j,b)::r) m=some o/\((o'=o/\o.has l=false)\/∃ cs cs',o = .box cs/\o' = .box cs'/\cs'.length=cs.length/\cs'.all PV.one=true/\∃ q,Ze5 f cs=some (q,cs')/\Zo q)) /\
     ((∃ o,get ((j,b)::r) l=some o)->get σ' l=some B'):=by
     intro b' q hσ hcq hbb
     subst hσ
     obtain⟨g1,g2⟩:=Zpb h1 hcq
     refine⟨fun m o' hm ho=>?_,fun ho=>?_⟩
     .simp only [PW.get] at ho⊢
      cases hm2:Nat.beq j m with
      | true=>simp only [hm2,cond_true,Option.some.injEq] at ho⊢;subst ho;exact⟨b,rfl,hbb⟩
      | false=>simp only [hm2,cond_false] at ho⊢;exact g1 m o' hm ho
     .simp only [PW.get,Zai hjl,cond_false] at ho⊢
      exact g2 ho
    split at h
    .rename_i cs
     split at h
     .rename_i q cs' h2
      cases ho:cs'.all PV.one with
      | false=>simp [ho] at h
      | true=>
       simp only [ho,cond_true,Option.some.injEq,Prod.mk.injEq] at h
       obtain⟨rfl,rfl⟩:=h
       obtain⟨c1,c2⟩:=Zf.1 hc
       exact key _ q rfl c2 (.inr ⟨cs,cs',rfl,rfl,Zp6 h2,ho,q,h2,c1⟩)
     .cases h
    .cases hh:b.has l with
     | true=>simp [hh] at h
     | false=>
      simp only [hh,cond_false,Option.some.injEq,Prod.mk.injEq] at h
      obtain⟨rfl,rfl⟩:=h
      exact key b [] rfl hc (.inl ⟨rfl,hh⟩)
section
variable {G:Frm} {β:Nat->Option Nat} {w:World} {σ σ':List (Nat×Blk)} {l i k:Nat} {es:List (List Za)}
theorem Zm5{n:Nat}{tm tm':List (Nat×PV)}{a:Act}{f:PV->Option (List Prop×PV)}{B B':Blk}{qs rs:List Prop}(h:Zq G β ⟨n,tm,σ⟩ a w)(hl:1000<=l)(hg:get σ l=some B)(hown:∀ b,Zj β w l B' b->Zj β w l B b)
 (htm:Zfw f tm=some (qs,tm')) (hσ:Zih l B' f σ=some (rs,σ')) (cq:Zo qs) (cr:Zo rs)
 (hf:(∀ b,(ctx G β w σ).I b->(ctx G β w σ').I b/\(ctx G β w σ').w.heap[b]?=(ctx G β w σ).w.heap[b]?)->(∀ m,m≠l->Zm (ctx G β w σ) (ctx G β w σ') m)->get σ' l=some B'->∀ p qs p',f p=some (qs,p')->Zo qs->∀ v,VR (ctx G β w σ) p v->VR (ctx G β w σ') p' v)
 (hbr:(∀ b,(ctx G β w σ).I b->(ctx G β w σ').I b/\(ctx G β w σ').w.heap[b]?=(ctx G β w σ).w.heap[b]?)->(∀ m,m≠l->Zm (ctx G β w σ) (ctx G β w σ') m)->BR (ctx G β w σ) l B->BR (ctx G β w σ') l B'):Zq G β ⟨n,tm',σ'⟩ a w:=by
 obtain⟨g1,g2⟩:=Zpb hσ cr
 have hg':=g2 ⟨_,hg⟩
 refine Ztu h hl hg hg' hown (Tn:=fun cs cs'=>∃ q,Ze5 f cs=some (q,cs')/\Zo q) g1 (fun hI hL cs cs' ⟨q,h1,h2⟩ vs hv=>(Zry (hf hI hL hg') h1 h2).2 vs hv) hbr (fun hI hL j q hq=>?_)
 obtain⟨p,r,h1,h2,h3⟩:=Zrz htm cq j q hq
 exact⟨p,h1,fun v hv=>hf hI hL hg' p r q h2 h3 v hv⟩
theorem Zuq{p p':PV}{qs:List Prop}(hI:∀ b,(ctx G β w σ).I b->(ctx G β w σ').I b/\(ctx G β w σ').w.heap[b]?=(ctx G β w σ).w.heap[b]?)(hL:∀ m,m≠l->Zm (ctx G β w σ) (ctx G β w σ') m)
 (h:(bif p.has l then none else some (([]:List Prop),p))=some (qs,p')) (v:Value) (hv:VR (ctx G β w σ) p v):VR (ctx G β w σ') p' v:=by
 cases hh:p.has l with
 | true=>simp [hh] at h
 | false=>
  simp only [hh,cond_false,Option.some.injEq,Prod.mk.injEq] at h
  obtain⟨_,rfl⟩:=h
  exact VR.step hI p v (fun m hm=>hL m (fun e=>by subst e;rw [hh] at hm;cases hm)) hv
theorem Wk.opn{n:Nat}{tm tm':List (Nat×PV)}{e:List Za}{qs rs:List Prop}(hl:1000<=l)(hg:get σ l=some (.row k es))(he:es[i]?=some e)(htm:Zfw (Zm4 l i) tm=some (qs,tm'))(hσ:Zih l (.prow k i es (e.map .t)) (Zm4 l i) σ=some (rs,σ'))(cq:Zo qs)(cr:Zo rs) :
 Wk ⟨n,tm,σ⟩ ⟨n,tm',σ'⟩:=by
 rintro G a w ⟨β,h⟩
 have hi:i < es.length:=(List.getElem?_eq_some_iff.1 he).1
 obtain⟨hk0,hkl,hb⟩:=h.blk l _ hg
 rcases hb with ⟨_,hb⟩ | ⟨b,m,hb,hrow,hsz,hel⟩
 .subst hb;simp at hi
 refine⟨β,Zm5 h hl hg (B' := .prow k i es (e.map .t)) (fun b hb => .inl (Zj.flat (o := .prow k i es (e.map .t)) trivial hb)) htm hσ cq cr (fun hI hL hg' p qs p' hp hq v hv=>?_) (fun hI hL _=>?_)⟩
 .cases p
  case osl m0 n0=>
   simp only [Zm4] at hp
   cases hb2:Nat.beq m0 l with
   | false=>
    simp only [hb2,cond_false,Option.some.injEq,Prod.mk.injEq] at hp
    obtain⟨_,rfl⟩:=hp
    exact VR.step hI _ v (fun q hq2=>hL q (fun e2=>by subst e2;simp only [PV.has] at hq2;rw [hq2] at hb2;cases hb2)) hv
   | true=>
    simp only [hb2,cond_true,Option.some.injEq,Prod.mk.injEq] at hp
    obtain⟨_,rfl⟩:=hp
    have:=(Ze _ _).1 hb2
    subst this
    simp only [VR] at hv⊢
    obtain⟨ho,a0,m1,cap1,rfl⟩:=hv
    refine⟨fun k' i' es' cs' hes'=>?_,rfl⟩
    have:some (Blk.prow k' i' es' cs')=some (.prow k i es (e.map .t)):=Eq.trans (Eq.symm hes') hg'
    cases this
    obtain⟨g1,g2⟩:=ho k es hg
    refine⟨g1,fun hn=>?_⟩
    obtain⟨a2,cap,hv2,hc1,hc2,h3⟩:=g2 hn
    rcases h3 with ⟨h3,_⟩ | ⟨b2,m2,h3,h4,h5,h6⟩
    .omega
    .exact⟨b2,m2,cap,by rw [hv2,h3],hc1,hc2,h4,h5,h6⟩
  case rptr m0 n0 j off=>
   simp only [Zm4] at hp
   cases hb2:Nat.beq m0 l with
   | false=>
    simp only [hb2,cond_false,Option.some.injEq,Prod.mk.injEq] at hp
    obtain⟨_,rfl⟩:=hp
    exact VR.step hI _ v (fun q hq2=>hL q (fun e2=>by subst e2;simp only [PV.has] at hq2;rw [hq2] at hb2;cases hb2)) hv
   | true=>
    simp only [hb2,cond_true,Option.some.injEq,Prod.mk.injEq] at hp
    obtain⟨rfl,rfl⟩:=hp
    have:=(Ze _ _).1 hb2
    subst this
    obtain⟨rfl,_⟩:=hq
    simp only [VR] at hv⊢
    obtain⟨ho,a0,rfl⟩:=hv
    refine⟨fun k' i' es' cs' hes'=>?_,rfl⟩
    have:some (Blk.prow k' i' es' cs')=some (.prow k j es (e.map .t)):=Eq.trans (Eq.symm hes') hg'
    cases this
    obtain⟨g1,g2⟩:=ho k es hg
    exact⟨g1,fun hn=>g2 hn⟩
  all_goals (simp only [Zm4] at hp;exact Zuq hI hL hp v hv)
 .have hflat:=Zc.flat.1 hel
  obtain⟨vs,hvs,hcs⟩:=Zh.vals (c:=ctx G β w σ) hflat
  refine⟨hk0,hkl,hi,by rw [List.length_map];exact hkl e (List.mem_of_getElem? he),by rw [List.all_map];exact List.all_eq_true.2 fun _ _=>rfl,b,m,vs,hb,hrow,hsz,fun j v hj=>by have:=hcs j v hj;rwa [Nat.zero_add] at this,?_⟩
  have hsplit:es.flatten.map PV.t=Zbi i es (e.map .t):=by
   have h1:es=es.take i++e::es.drop (i+1):=by
    have h2:=List.getElem_cons_drop hi
    have h3:es[i]=e:=by rw [List.getElem?_eq_getElem hi] at he;exact Option.some.inj he
    rw [h3] at h2
    rw [h2,List.take_append_drop]
   unfold Zbi
   conv=>lhs;rw [h1]
   rw [List.flatten_append,List.flatten_cons,List.map_append,List.map_append]
  rw [<- hsplit]
  exact VRs.step hI _ _ (fun q hq=>by rw [Zbv] at hq;cases hq) hvs
theorem Wk.cls{n:Nat}{tm tm':List (Nat×PV)}{cs:List PV}{ts:List Za}{es':List (List Za)}{qs rs:List Prop}(hl:1000<=l)(hg:get σ l=some (.prow k i es cs))(ht:Zdv cs=some ts)(he:es.set i ts=es')(htm:Zfw (Zld l i es.length) tm=some (qs,tm'))(hσ:Zih l (.row k es') (Zld l i es.length) σ=some (rs,σ'))(cq:Zo qs)(cr:Zo rs) :
 Wk ⟨n,tm,σ⟩ ⟨n,tm',σ'⟩:=by
 rintro G a w ⟨β,h⟩
 obtain⟨hk0,hkl,hi,hcl,hone,b,m,vs,hb,hrow,hsz,hcs,hvs⟩:=h.blk l _ hg
 have hlen:es'.length=es.length:=by rw [<- he,List.length_set]
 have hcs':=Zel ht
 subst hcs'
 refine⟨β,Zm5 h hl hg (B' := .row k es') (fun b hb => .inl (Zj.flat (o := .row k es') trivial hb)) htm hσ cq cr (fun hI hL hg' p qs p' hp hq v hv=>?_) (fun hI hL _=>?_)⟩
 .cases p
  case own m0 d=>
   cases d
   case pw n0=>
    simp only [Zld] at hp
    cases hb2:Nat.beq m0 l with
    | false=>
     simp only [hb2,cond_false,Option.some.injEq,Prod.mk.injEq] at hp
     obtain⟨_,rfl⟩:=hp
     exact VR.step hI _ v (fun q hq2=>hL q (fun e2=>by subst e2;simp only [PV.has] at hq2;rw [hq2] at hb2;cases hb2)) hv
    | true=>
     simp only [hb2,cond_true,Option.some.injEq,Prod.mk.injEq] at hp
     obtain⟨rfl,rfl⟩:=hp
     obtain⟨hq,_⟩:=hq
     have:=(Ze _ _).1 hb2
     subst this
     simp only [VR] at hv⊢
     obtain⟨ho,h1⟩:=hv
     obtain⟨g1,g2⟩:=ho k i es _ hg
     obtain⟨b2,m2,cap,hv2,hc1,hc2,h4,h5,h6⟩:=g2 hq
     refine⟨fun k' es2 hes2=>?_,_,_,_,hv2⟩
     have:some (Blk.row k' es2)=some (.row k es'):=Eq.trans (Eq.symm hes2) hg'
     cases this
     exact⟨by omega,fun _=>⟨_,cap,hv2,hc1,hc2,.inr ⟨b2,m2,rfl,h4,h5,h6⟩⟩⟩
   case pp n0 off=>
    simp only [Zld] at hp
    cases hb2:Nat.beq m0 l with
    | false=>
     simp only [hb2,cond_false,Option.some.injEq,Prod.mk.injEq] at hp
     obtain⟨_,rfl⟩:=hp
     exact VR.step hI _ v (fun q hq2=>hL q (fun e2=>by subst e2;simp only [PV.has] at hq2;rw [hq2] at hb2;cases hb2)) hv
    | true=>
     simp only [hb2,cond_true,Option.some.injEq,Prod.mk.injEq] at hp
     obtain⟨rfl,rfl⟩:=hp
     obtain⟨hq,_⟩:=hq
     have:=(Ze _ _).1 hb2
     subst this
     simp only [VR] at hv⊢
     obtain⟨ho,h1⟩:=hv
     obtain⟨g1,g2⟩:=ho k i es _ hg
     obtain⟨b2,h4,hv2⟩:=g2 hq
     refine⟨fun k' es2 hes2=>?_,_,hv2⟩
     have:some (Blk.row k' es2)=some (.row k es'):=Eq.trans (Eq.symm hes2) hg'
     cases this
     exact⟨by omega,fun _=>⟨b2,h4,hv2⟩⟩
   all_goals (simp only [Zld] at hp;exact Zuq hI hL hp v hv)
  all_goals (simp only [Zld] at hp;exact Zuq hI hL hp v hv)
 .refine⟨hk0,fun el hel=>?_,.inr ⟨b,m,hb,hrow,by rw [hlen];exact hsz,Zc.flat.2 ?_⟩⟩
  .rw [<- he] at hel
   rcases List.mem_or_eq_of_mem_set hel with h1 | h1
   .exact hkl el h1
   .subst h1;rw [List.length_map] at hcl;exact hcl
  .have hsplit:es'.flatten.map PV.t=Zbi i es (ts.map .t):=by
    rw [<- he]
    unfold Zbi
    rw [List.set_eq_take_append_cons_drop,if_pos hi,List.flatten_append,List.flatten_cons,List.map_append,List.map_append]
   rw [<- hsplit] at hvs
   exact Za6 (c:=ctx G β w σ') (VRs.step hI _ _ (fun q hq=>by rw [Zbv] at hq;cases hq) hvs) (fun j v hj=>by rw [Nat.zero_add];exact hcs j v hj)
end
end Go.PW
namespace Go.PW
open Go.RowKit
def rlk(xs:List (Int×List Za))(n:Int):List (List Za):=match Zgm xs n with | some [.sl r]=>r | _=>[]
theorem Zr0{α:Type}(n:Int)(y:α):∀ xs:List (Int×α),(∃ x,x∈xs/\x.1=n)->(Zbo xs n y).map Prod.fst=xs.map Prod.fst
 | [],h=>by obtain⟨_,h,_⟩:=h;cases h
 | (j,x)::xs,h=>by
  simp only [Zbo]
  cases hb:j==n with
  | true=>rfl
  | false=>
   simp only [cond_false,List.map_cons]
   rw [Zr0 n y xs (by
    obtain⟨z,hz,hn⟩:=h
    rcases List.mem_cons.1 hz with h | h
    .subst h;simp only at hn;subst hn;simp at hb
    .exact⟨z,h,hn⟩)]
theorem Zpc{n:Int}:∀ {es:List MapEntry} {xs:List (Int×List Za)} (i:Nat),es.length=xs.length->(∀ (i:Nat) e x,es[i]?=some e->xs[i]?=some x->e.key = .int .i64 x.1) ->
 (Zgm xs n=none/\Instr.findNow (.int .i64) (.int .i64 n) es i=some none/\(∀ y,Zbo xs n y=xs++[(n,y)])/\∀ x,x∈xs->x.1≠n) \/
 ∃ (j:Nat) (e:MapEntry) (ts:List Za),xs[j]?=some (n,ts)/\es[j]?=some e/\Zgm xs n=some ts/\Instr.findNow (.int .i64) (.int .i64 n) es i=some (some (i+j,e.val))/\∀ y,Zbo xs n y=xs.set j (n,y)
 | [],[],i,_,_ => .inl ⟨rfl,rfl,fun _=>rfl,fun x h=>by cases h⟩
 | [],_::_,_,hl,_=>by simp at hl
 | _::_,[],_,hl,_=>by simp at hl
 | e::es,(m,ts)::xs,i,hl,hk=>by
  have hk0:e.key = .int .i64 m:=hk 0 e (m,ts) rfl rfl
  by_cases hmn:m=n
  .subst hmn
   exact .inr ⟨0,e,ts,rfl,rfl,by simp [Zgm],by simp [Instr.findNow,Instr.sameNow,hk0],fun y=>by simp [Zbo]⟩
  .have hb:(m==n)=false:=by simpa using hmn
   have hs:Instr.findNow (.int .i64) (.int .i64 n) (e::es) i=Instr.findNow (.int .i64) (.int .i64 n) es (i+1):=by
    simp only [Instr.findNow,hk0,Instr.sameNow,if_true]
    rw [show (n==m)=false by simpa using fun e=>hmn e.symm]
   rcases Zpc (n:=n) (i+1) (by simpa using hl) (fun i e x h1 h2=>hk (i+1) e x (by simpa using h1) (by simpa using h2)) with ⟨h1,h2,h3,h4⟩ | ⟨j,e2,t2,h1,h2,h3,h4,h5⟩
   .refine .inl ⟨by simp only [Zgm,hb,cond_false];exact h1,hs.trans h2,fun y=>by simp only [Zbo,hb,cond_false,h3,List.cons_append],fun x hx=>?_⟩
    rcases List.mem_cons.1 hx with h | h
    .subst h;exact hmn
    .exact h4 x h
   .refine .inr ⟨j+1,e2,t2,by simpa using h1,by simpa using h2,by simp only [Zgm,hb,cond_false];exact h3,?_,fun y=>by simp only [Zbo,hb,cond_false,h5,List.set_cons_succ]⟩
    rw [hs,h4];congr 3;omega
theorem Zx4{G:Frm}{β:Nat->Option Nat}{n:Nat}{tm:List (Nat×PV)}{σ:List (Nat×Blk)}{a:Act}{w:World}(h:Zq G β ⟨n,tm,σ⟩ a w){l L:Nat}{B B1 B2:Blk}(bL:Option Nat)(hL:L≠l)(h1000:1000<=L)(hl1000:(∀ k es,B1 ≠ .row k es)/\∀ cs,B1 ≠ .box cs)(hB2:∀ cs,B2 ≠ .box cs)
 (hg:get σ l=some B) (hf1:∀ i q,get tm i=some q->q.has L=false) (hf2:∀ m y,get σ m=some y->m≠L/\y.has L=false)
 (hown1:∀ b,Zj (Zy β L bL) w l B1 b->Zj β w l B b) (hown2:∀ b,Zj (Zy β L bL) w L B2 b->Zj β w l B b/\¬ Zj (Zy β L bL) w l B1 b)
 (hls:Zm (ctx G β w σ) (ctx G (Zy β L bL) w ((l,B1)::(L,B2)::Zw [l] σ)) l)
 (hbr:(∀ b,(ctx G β w σ).I b->(ctx G (Zy β L bL) w ((l,B1)::(L,B2)::Zw [l] σ)).I b/\w.heap[b]?=w.heap[b]?)->BR (ctx G (Zy β L bL) w ((l,B1)::(L,B2)::Zw [l] σ)) l B1/\BR (ctx G (Zy β L bL) w ((l,B1)::(L,B2)::Zw [l] σ)) L B2) :
 Zq G (Zy β L bL) ⟨n,tm,(l,B1)::(L,B2)::Zw [l] σ⟩ a w:=by
 have hget:∀ m o,get ((l,B1)::(L,B2)::Zw [l] σ) m=some o->(m=l/\o=B1)\/(m=L/\o=B2)\/(m≠l/\m≠L/\get σ m=some o):=fun m o hm=>by
  simp only [PW.get] at hm
  cases hb:Nat.beq l m with
  | true=>
   simp only [hb,cond_true,Option.some.injEq] at hm
   exact .inl ⟨((Ze _ _).1 hb).symm,hm.symm⟩
  | false=>
   simp only [hb,cond_false] at hm
   cases hb2:Nat.beq L m with
   | true=>
    simp only [hb2,cond_true,Option.some.injEq] at hm
    exact .inr (.inl ⟨((Ze _ _).1 hb2).symm,hm.symm⟩)
   | false=>
    simp only [hb2,cond_false] at hm
    exact .inr (.inr ⟨fun e=>by subst e;simp at hb,fun e=>by subst e;simp at hb2,(Zcv hm).2⟩)
 have hgo:∀ m,m≠l->m≠L->get ((l,B1)::(L,B2)::Zw [l] σ) m=get σ m:=fun m h1 h2=>by
  simp only [PW.get,Zai (Ne.symm h1),Zai (Ne.symm h2),cond_false]
  exact Zej (by simpa using h1)
 have hO:∀ m o,get ((l,B1)::(L,B2)::Zw [l] σ) m=some o->∀ b,Zj (Zy β L bL) w m o b->∃ m0 o0,get σ m0=some o0/\Zj β w m0 o0 b:=fun m o hm b ho=>by
  rcases hget m o hm with ⟨rfl,rfl⟩ | ⟨rfl,rfl⟩ | ⟨_,h2,h3⟩
  .exact⟨_,_,hg,hown1 b ho⟩
  .exact⟨_,_,hg,(hown2 b ho).1⟩
  .exact⟨_,_,h3,ho.of (Z5 β bL h2) (fun _ _=>rfl)⟩
 have hI:∀ b,(ctx G β w σ).I b->(ctx G (Zy β L bL) w ((l,B1)::(L,B2)::Zw [l] σ)).I b/\w.heap[b]?=w.heap[b]?:=fun b hb=>
  ⟨⟨hb.1,hb.2.1,fun m o hm ho=>by obtain⟨m0,o0,h1,h2⟩:=hO m o hm b ho;exact hb.2.2 m0 o0 h1 h2⟩,rfl⟩
 have hS:∀ m,m≠L->Zm (ctx G β w σ) (ctx G (Zy β L bL) w ((l,B1)::(L,B2)::Zw [l] σ)) m:=fun m hm=>by
  by_cases e:m=l
  .subst e;exact hls
  .exact Zm.same (hgo m e hm) (Z5 β bL hm) (fun _ _ _ _=>rfl)
 obtain⟨hb1,hb2⟩:=hbr hI
 exact { defers := h.defers, sz := h.sz, base := h.base, os := h.os, tape := h.tape, output := h.output, old := h.old, A := h.A, gl := h.gl,
         inj:=fun m m' o o' b hm hm' hb hb'=>by
          rcases hget m o hm with ⟨rfl,rfl⟩ | ⟨rfl,rfl⟩ | ⟨h1,h2,h3⟩<;>rcases hget m' o' hm' with ⟨rfl,rfl⟩ | ⟨rfl,rfl⟩ | ⟨h1',h2',h3'⟩
          .rfl
          .exact absurd hb (hown2 b hb').2
          .exact absurd (h.inj _ _ _ _ b hg h3' (hown1 b hb) (hb'.of (Z5 β bL h2') (fun _ _=>rfl))).symm h1'
          .exact absurd hb' (hown2 b hb).2
          .rfl
          .exact absurd (h.inj _ _ _ _ b hg h3' (hown2 b hb).1 (hb'.of (Z5 β bL h2') (fun _ _=>rfl))).symm h1'
          .exact absurd (h.inj _ _ _ _ b h3 hg (hb.of (Z5 β bL h2) (fun _ _=>rfl)) (hown1 b hb')) h1
          .exact absurd (h.inj _ _ _ _ b h3 hg (hb.of (Z5 β bL h2) (fun _ _=>rfl)) (hown2 b hb').1) h1
          .exact h.inj _ _ _ _ b h3 h3' (hb.of (Z5 β bL h2) (fun _ _=>rfl)) (hb'.of (Z5 β bL h2') (fun _ _=>rfl)),
         sep:=fun m o b hm hb=>by obtain⟨m0,o0,h1,h2⟩:=hO m o hm b hb;exact h.sep m0 o0 b h1 h2,
         fix:=fun m cs h1 hm=>by
          rcases hget m _ hm with ⟨_,h2⟩ | ⟨h2,_⟩ | ⟨_,h2,h3⟩
          .exact absurd h2.symm (hl1000.2 cs)
          .omega
          .rw [Z5 β bL h2];exact h.fix m cs h1 h3,
         row0:=fun m k es' hm hgm=>by
          rcases hget m _ hgm with ⟨_,h2⟩ | ⟨h2,_⟩ | ⟨h2,h3,_⟩
          .exact absurd h2.symm (hl1000.1 k es')
          .omega
          .exact h.row0.one (hS m h3) hm hgm,
         blk:=fun m o hm=>by
          rcases hget m o hm with ⟨rfl,rfl⟩ | ⟨rfl,rfl⟩ | ⟨h1,h2,h3⟩
          .exact hb1
          .exact hb2
          .exact BR.step hI (Z5 β bL h2) (fun _ _=>rfl) (fun q hq=>hS q (fun e=>by subst e;rw [(hf2 m o h3).2] at hq;cases hq)) (h.blk m o h3),
         tm:=fun i p hp=>⟨(h.tm i p hp).1,VR.step hI p _ (fun q hq=>hS q (fun e=>by subst e;rw [hf1 i p hp] at hq;cases hq)) (h.tm i p hp).2⟩ }
theorem Zm6{c:Ctx}{l k:Nat}{hole:Option Int}{es:List (Int×List Za)}(h:BR c l (.map (.rows k hole) es)) :
 ∃ b ents clock,c.β l=some b/\c.w.heap[b]?=some (.map ents clock)/\Zj1 c (.rows k hole) ents.toList es:=h
theorem Zda{w:World}{b k:Nat}{hole:Option Int}{es:List (Int×List Za)}{ents:Array MapEntry}{clock:Nat}(hm:w.heap[b]?=some (.map ents clock)){d:Nat} :
 Blk.subs w b d (.map (.rows k hole) es)↔∃ e len cap,e∈ents.toList/\MapEntry.inn hole e/\cap≠0/\e.val = .slice (some ⟨d,0,none⟩) len cap:=by
 constructor
 .rintro ⟨ents',clock',e,len,cap,h1,h2⟩
  rw [hm] at h1;cases h1
  exact⟨e,len,cap,h2⟩
 .rintro ⟨e,len,cap,h⟩
  exact⟨ents,clock,e,len,cap,hm,h⟩
theorem Zv.not_map{w:World}{d m:Nat}{ents:Array MapEntry}{clock:Nat}(h:Zv w d m):w.heap[d]?≠some (.map ents clock):=by
 obtain⟨cs,e,fr,h1,_⟩:=h
 rw [h1];intro h;cases h
theorem Ze9(e:MapEntry):MapEntry.inn none e:=fun _ _ h=>by cases h
theorem Zur{z:Value}(h:∀ cs,z ≠ .agg cs):z.cells.toList=[z]:=by
 cases z<;>first | rfl | exact absurd rfl (h _)
theorem Zx5{P:Program}{e:TypeId}(hz:Za8 P e=some [.nils])(hz':(Zg3 P false e).isSome=true)(w:World):∃ a,(zeroValue e).run P w = .ok (.slice a 0 0) w:=by
 unfold Za8 at hz
 obtain⟨z,hz1,hz2⟩:=Option.bind_eq_some_iff.1 hz
 have hna:∀ cs,z ≠ .agg cs:=fun cs h=>by
  subst h
  unfold Zg3 at hz'
  rw [hz1] at hz'
  simp at hz'
 rw [Zur hna] at hz2
 have hvs:=Zbc (c:=⟨fun _=>none,fun _=>True,w,[]⟩) hz2
 simp only [VRs,VR] at hvs
 obtain⟨v,rest,hc,⟨a,rfl⟩,rfl⟩:=hvs
 cases hc
 obtain⟨i,h1,h3⟩:=Option.bind_eq_some_iff.1 hz1
 exact⟨a,by simp [zeroValue,typeInfo,h1,h3]⟩
section
variable {P:Program} {o:Oper} {ρ:List (Nat×PV)} {σ0:List (Nat×Blk)}
theorem Zwd{t kT e:TypeId}{x y:Operand}{l L k:Nat}{es:List (Int×List Za)}{n:Int}(ho:o.op = .lookup t x y false)(ht:P.underlying t=some (.map kT e))(hk:P.underlying kT=some (.int .i64))(hz:Za8 P e=some [.nils])(hz':(Zg3 P false e).isSome=true)
 (hx:Zb ρ x=some (.own l .map)) (hy:Zb ρ y=some (.t (.int .i64 n))) (hL:L≠l) (h1000:1000<=L) (hg0:get σ0 l=some (.map (.rows k none) es)) :
 OpF P o ρ σ0 [l] [l] (.osl L (rlk es n).length) [(l,.map (.rows k (some n)) es),(L,.row k (rlk es n))]:=
 Zm3 fun G β n' tm σ A w hop hnd hfr hr=>by
  have hg:get σ l=some (.map (.rows k none) es):=(hnd l (by simp)).trans hg0
  have e1:=hop x _ (by simp [ho,Op.operands]) hx
  have e2:=hop y _ (by simp [ho,Op.operands]) hy
  obtain⟨hf1,hf2⟩:=hfr L (.row k (rlk es n)) (by simp) (by simpa using hL)
  simp only [VR,Zg] at e1 e2
  obtain⟨b0,hb0,hv⟩:=e1.1 _ es hg
  obtain⟨b,ents,clock,hb,hm,hk0,hE,hnd2,huq⟩:=Zm6 (hr.blk l _ hg)
  have:b0=b:=by have:=hb0.symm.trans hb;simpa using this
  subst this
  have hm:w.heap[b0]?=some (.map ents clock):=hm
  have hb:β l=some b0:=hb
  have hkey:MapKept.IsKey (.int .i64) (.int .i64 n):=rfl
  have key:∃ v,(Instr.lookup t (.map (some b0)) (.int .i64 n) false).run P w = .ok v w/\Zq4 (ctx G β w σ) k (rlk es n) v /\
   ∀ d len cap,cap≠0->v = .slice (some ⟨d,0,none⟩) len cap->∃ (j:Nat) (e:MapEntry),ents.toList[j]?=some e/\e.key = .int .i64 n/\e.val=v:=by
   rcases Zpc (n:=n) 0 hE.1 (fun i e x h1 h2=>(hE.2 i e x h1 h2).1) with ⟨h1,h2,_,_⟩ | ⟨j,e2,ts,h1,h2,h3,h4,_⟩
   .obtain⟨a,hz1⟩:=Zx5 hz hz' w
    refine⟨.slice a 0 0,?_,?_,fun d len cap h0 hs=>by cases hs;exact absurd rfl h0⟩
    .simp only [Instr.lookup,Sem.run_bind,run_underlying ht,Result.andThen_ok,MapKept.run_getObj_map hm,Sem.run_pure,MapKept.run_checkKey hk hkey,MapKept.run_findKey hk h2,hz1]
     rfl
    .have:rlk es n=[]:=by simp [rlk,h1]
     rw [this]
     exact⟨fun _ h=>(nomatch h),a,0,rfl,Nat.le_refl _,Nat.zero_le _,.inl rfl⟩
   .obtain⟨hkj,rows,hts,hrow⟩:=hE.2 j e2 _ h2 h1
    simp only at hkj hts
    subst hts
    refine⟨e2.val,?_,?_,fun _ _ _ _ _=>⟨j,e2,h2,hkj,rfl⟩⟩
    .simp only [Instr.lookup,Sem.run_bind,run_underlying ht,Result.andThen_ok,MapKept.run_getObj_map hm,Sem.run_pure,MapKept.run_checkKey hk hkey,MapKept.run_findKey hk h4]
     rfl
    .have:rlk es n=rows:=by simp [rlk,h3]
     rw [this];exact hrow (by simp)
  obtain⟨v,hrun,⟨hlen,a,cap,hv2,hc1,hc2,hcell⟩,hent⟩:=key
  obtain⟨bL,hbL⟩:∃ bL:Option Nat,(cap=0/\bL=none/\rlk es n=[])\/∃ d m,cap≠0/\bL=some d/\a=some ⟨d,0,none⟩/\Zv w d m/\cap*k<=m/\Zc (ctx G β w σ).I w d (rlk es n) 0:=by
   by_cases h0:cap=0
   .exact⟨none,.inl ⟨h0,rfl,List.eq_nil_of_length_eq_zero (by omega)⟩⟩
   .rcases hcell with h | ⟨d,m,h1,h2,h3,h4⟩
    .exact absurd h h0
    .exact⟨some d,.inr ⟨d,m,h0,rfl,h1,h2,h3,h4⟩⟩
  have hβl:Zy β L bL l=some b0:=by rw [Z5 β bL (Ne.symm hL)];exact hb
  have hown1:∀ c,Zj (Zy β L bL) w l (.map (.rows k (some n)) es) c->Zj β w l (.map (.rows k none) es) c:=fun c hc=>by
   rcases hc with hc | ⟨b1,h1,h2⟩
   .rw [hβl] at hc;exact .inl (hb.trans hc)
   .rw [hβl] at h1;cases h1
    obtain⟨e3,len,cap3,h3,h4,h5⟩:=(Zda hm).1 h2
    exact .inr ⟨b0,hb,(Zda hm).2 ⟨e3,len,cap3,h3,Ze9 _,h5⟩⟩
  have hrel:=Zx4 hr (L:=L) (B1 := .map (.rows k (some n)) es) (B2 := .row k (rlk es n)) bL hL h1000 ⟨fun _ _ h=>(nomatch h),fun _ h=>(nomatch h)⟩ (fun _ h=>(nomatch h)) hg hf1 hf2 hown1
   (fun c hc=>by
    have hc:=Zj.flat (o := .row k (rlk es n)) trivial hc
    rw [Zk] at hc
    rcases hbL with ⟨_,h,_⟩ | ⟨d,m,h0,h1,h2,h3,_⟩
    .rw [h] at hc;cases hc
    .obtain rfl:d=c:=by simpa [h1] using hc
     obtain⟨j,e2,hj,hkj,hval⟩:=hent d _ cap h0 (by rw [hv2,h2])
     have hval2:e2.val = .slice (some ⟨d,0,none⟩) (rlk es n).length cap:=by rw [hval,hv2,h2]
     refine⟨.inr ⟨b0,hb,(Zda hm).2 ⟨e2,_,cap,List.mem_of_getElem? hj,Ze9 _,h0,hval2⟩⟩,fun hc=>?_⟩
     rcases hc with hc | ⟨b1,g1,g2⟩
     .rw [hβl] at hc;cases hc
      exact h3.not_map hm
     .rw [hβl] at g1;cases g1
      obtain⟨e3,len,cap3,g3,g4,g5,g6⟩:=(Zda hm).1 g2
      obtain⟨q,hq,he3⟩:=List.getElem_of_mem g3
      have hq2:ents.toList[q]?=some e3:=by rw [List.getElem?_eq_getElem hq,he3]
      have:=huq j q e2 e3 d _ _ cap cap3 hj hq2 (Ze9 _) (Ze9 _) h0 g5 hval2 g6
      subst this
      rw [hj] at hq2;cases hq2
      exact g4 n hkj rfl)
   ⟨fun k' es' h=>by simp [ctx,PW.get] at h,fun cs' h=>by simp [ctx,PW.get] at h,fun k' q' es' h=>by simp [ctx,PW.get] at h,fun mk' es' h=>⟨_,es,hg,Z5 β bL (Ne.symm hL)⟩,fun k' i' es' cs' h=>by simp [ctx,PW.get] at h,fun h' h=>by simp [ctx,PW.get] at h,fun k' i' r' es' h=>by simp [ctx,PW.get] at h⟩
   (fun hI=>⟨⟨b0,ents,clock,hβl,hm,hk0,⟨hE.1,fun i e x h1 h2=>by
    obtain⟨g1,rows,g2,g3⟩:=hE.2 i e x h1 h2
    exact⟨g1,rows,g2,fun _=>(g3 (by simp)).step hI (fun _ _ _ _ _=>rfl)⟩⟩,hnd2,fun i j ei ej d l1 l2 c1 c2 h1 h2 h3 h4=>huq i j ei ej d l1 l2 c1 c2 h1 h2 (Ze9 _) (Ze9 _)⟩,
    hk0,hlen,by
     rcases hbL with ⟨_,h,h2⟩ | ⟨d,m,h0,h1,h2,h3,h4,h5⟩
     .exact .inl ⟨(Zk β L bL).trans h,h2⟩
     .refine .inr ⟨d,m,(Zk β L bL).trans h1,h3,Nat.le_trans (Nat.mul_le_mul_right k hc1) h4,Zc.mono hI rfl _ _ h5⟩⟩)
  refine⟨v,w,?_,Zy β L bL,hrel,?_⟩
  .simp only [execOp,ho,hv,e2,Sem.run_bind,hrun,Result.andThen_ok,Sem.run_pure]
  .simp only [VR]
   refine⟨fun k' es' hg'=>?_,a,_,cap,hv2⟩
   have hgL:get (ctx G (Zy β L bL) w ([(l,Blk.map (.rows k (some n)) es),(L,.row k (rlk es n))]++Zw [l] σ)).σ L=some (.row k (rlk es n)):=by simp [ctx,PW.get,Zai (Ne.symm hL)]
   rw [hgL] at hg';cases hg'
   refine⟨Nat.le_refl _,fun _=>⟨a,cap,hv2,hc1,hc2,?_⟩⟩
   rcases hbL with ⟨h0,h,_⟩ | ⟨d,m,h0,h1,h2,h3,h4,h5⟩
   .exact .inl ⟨h0,(Zk β L bL).trans h⟩
   .exact .inr ⟨d,m,h2,(Zk β L bL).trans h1,h3,h4⟩
theorem Zwe{t kT e:TypeId}{x y z:Operand}{l L k m:Nat}{es:List (Int×List Za)}{rows:List (List Za)}{i:Int}(ho:o.op = .mapUpdate t x y z)(hd:o.dst=none)(ht:P.underlying t=some (.map kT e))(hk:P.underlying kT=some (.int .i64))
 (hx:Zb ρ x=some (.own l .map)) (hy:Zb ρ y=some (.t (.int .i64 i))) (hz:Zb ρ z=some (.osl L m)) (hL:L≠l) (hg0:get σ0 l=some (.map (.rows k (some i)) es)) (hgL0:get σ0 L=some (.row k rows)) (hm0:rows.length=m) :
 OpF P o ρ σ0 [l,L] [l,L] (.tup []) [(l,.map (.rows k none) (Zbo es i [.sl rows]))]:=by
 rintro G n tm σ a w K Q hag hneed _ ⟨β,hr⟩ hK
 have hg:get σ l=some (.map (.rows k (some i)) es):=(hneed l (by simp)).trans hg0
 have hgL:get σ L=some (.row k rows):=(hneed L (by simp)).trans hgL0
 have hop:∀ x q,x∈o.op.operands->Zb ρ x=some q->VR (ctx G β w σ) q (a.eval x):=fun x q hx hq=>Zbw hr hq (fun t r ht hr'=>hag t r (ht▸hx) hr')
 have e1:=hop x _ (by simp [ho,Op.operands]) hx
 have e2:=hop y _ (by simp [ho,Op.operands]) hy
 have e3:=hop z _ (by simp [ho,Op.operands]) hz
 simp only [VR,Zg] at e1 e2 e3
 obtain⟨b0,hb0,hv⟩:=e1.1 _ es hg
 obtain⟨b,ents,clock,hb,hm,hk0,hE,hnd2,huq⟩:=Zm6 (hr.blk l _ hg)
 have:b0=b:=by have:=hb0.symm.trans hb;simpa using this
 subst this
 have hm:w.heap[b0]?=some (.map ents clock):=hm
 have hb:β l=some b0:=hb
 obtain⟨_,h3⟩:=e3.1 k rows hgL
 obtain⟨ad,cap,hvz,hc1,hc2,hc3⟩:=h3 hm0.symm
 obtain⟨_,hlen,hrowL⟩:=hr.blk L _ hgL
 have hOL:∀ d len cap,cap≠0->a.eval z = .slice (some ⟨d,0,none⟩) len cap->β L=some d:=fun d len cap' h0 hs=>by
  rw [hvz] at hs;cases hs
  rcases hc3 with ⟨h,_⟩ | ⟨b,m,h,h2,_⟩
  .exact absurd h h0
  .cases h;exact h2
 have hnb:∀ m o,get σ m=some o->m≠l->∀ d,Zj β w m o d->d≠b0:=fun m o h1 h2 d h3 h4=>h2 (hr.inj m l o _ d h1 hg h3 (.inl (h4▸hb)))
 have hkey:MapKept.IsKey (.int .i64) (.int .i64 i):=rfl
 have hsubO:∀ e3 d len cap,e3∈ents.toList->MapEntry.inn (some i) e3->cap≠0->e3.val = .slice (some ⟨d,0,none⟩) len cap->Zj β w l (.map (.rows k (some i)) es) d:=fun e3 d len cap h1 h2 h3 h4 => .inr ⟨b0,hb,(Zda hm).2 ⟨e3,len,cap,h1,h2,h3,h4⟩⟩
 have hne0:∀ d m,Zv w d m->d≠b0:=fun d m h e=>by subst e;exact h.not_map hm
 have main:∀ (ents':Array MapEntry) (clock':Nat),ents'.toList.length=(Zbo es i [Za.sl rows]).length->((Zbo es i [Za.sl rows]).map Prod.fst).Nodup ->
  (∀ (q:Nat) e,ents'.toList[q]?=some e->(∃ x,(Zbo es i [Za.sl rows])[q]?=some x/\e.key = .int .i64 x.1/\((e.key = .int .i64 i/\e.val=a.eval z/\x=(i,[.sl rows]))\/(x.1≠i/\ents.toList[q]?=some e/\es[q]?=some x)))) ->
  (Instr.mapUpdate t (.map (some b0)) (.int .i64 i) (a.eval z)).run P w = .ok () { w with heap:=w.heap.setIfInBounds b0 (.map ents' clock') }->o.wp P a w K Q:=by
  intro ents' clock' hlen' hnod hent hrun
  obtain⟨hs1,hs2⟩:=MapKept.heap_set (o':=Obj.map ents' clock') hm
  have hinn:∀ (q:Nat) e x,ents'.toList[q]?=some e->es[q]?=some x->x.1≠i->e.key = .int .i64 x.1->MapEntry.inn (some i) e:=fun q e x _ _ h1 h2 n hn h3=>by
   rw [h2] at hn;cases hn;cases h3;exact h1 rfl
  have hnk:∀ (q:Nat) e x,ents.toList[q]?=some e->es[q]?=some x->e.key = .int .i64 x.1:=fun q e x h1 h2=>(hE.2 q e x h1 h2).1
  have hOW:∀ (q:Nat) e d len cap,ents'.toList[q]?=some e->cap≠0->e.val = .slice (some ⟨d,0,none⟩) len cap->∃ m o,m∈[l,L]/\get σ m=some o/\Zj β w m o d:=fun q e d len cap h1 h2 h3=>by
   obtain⟨x,hx1,hx2,hx3⟩:=hent q e h1
   rcases hx3 with ⟨_,h5,_⟩ | ⟨h4,h5,h6⟩
   .exact⟨L,_,by simp,hgL,.inl (hOL d len cap h2 (h5▸h3))⟩
   .exact⟨l,_,by simp,hg,hsubO e d len cap (List.mem_of_getElem? h5) (hinn q e x h1 h6 h4 hx2) h2 h3⟩
  have habs:=Zb4 hr { w with heap:=w.heap.setIfInBounds b0 (.map ents' clock') } (some b0) l (.map (.rows k none) (Zbo es i [.sl rows])) [l,L] (by simp) rfl rfl rfl (by simp)
   (fun b2 _ hn=>hs2 b2 (fun e=>hn l _ (by simp) hg (by rw [e];exact .inl hb))) (fun c hc => .inr ?_) (.inl ?_) (fun hI=>⟨b0,ents',clock',Zk _ _ _,hs1,hk0,⟨hlen',fun q e x h1 h2=>?_⟩,hnod,?_⟩)
  .unfold Oper.wp
   have hrun2:(execOp a.eval o).run P w = .ok .skip { w with heap:=w.heap.setIfInBounds b0 (.map ents' clock') }:=by
    simp only [execOp,ho,hv,e2,Sem.run_bind,hrun,Result.andThen_ok,Sem.run_pure]
   rw [hrun2,Oper.upon_skip,hd]
   have:=hK (.tuple #[]) { w with heap:=w.heap.setIfInBounds b0 (.map ents' clock') } ⟨_,habs,by simp [VR,VRs]⟩
   rw [hd] at this
   exact this
  .rcases hc with hc | ⟨b1,h1,h2⟩
   .rw [Zk] at hc;cases hc
    exact⟨l,_,by simp,hg,.inl hb⟩
   .rw [Zk] at h1;cases h1
    obtain⟨e,len,cap,h3,_,h4,h5⟩:=(Zda hs1).1 h2
    obtain⟨q,hq,he⟩:=List.getElem_of_mem h3
    exact hOW q e c len cap (by rw [List.getElem?_eq_getElem hq,he]) h4 h5
  .have hgs:get (ctx G (Zy β l (some b0)) { w with heap:=w.heap.setIfInBounds b0 (.map ents' clock') } ((l,.map (.rows k none) (Zbo es i [.sl rows]))::Zw [l,L] σ)).σ l=some (.map (.rows k none) (Zbo es i [.sl rows])):=by simp [ctx,PW.get]
   refine⟨fun k' es' h=>?_,fun cs' h=>?_,fun k' q' es' h=>?_,fun k' es' h=>?_,fun k' i' es' cs' h=>?_,fun h' h=>?_,fun k' i' r' es' h=>?_⟩
   .rw [hgs] at h;cases h
   .rw [hgs] at h;cases h
   .rw [hgs] at h;cases h
   .exact⟨_,es,hg,by show Zy β l (some b0) l=β l;rw [Zk];exact hb.symm⟩
   .rw [hgs] at h;cases h
   .rw [hgs] at h;cases h
   .rw [hgs] at h;cases h
  .obtain⟨x',hx1,hx2,hx3⟩:=hent q e h1
   rw [h2] at hx1;cases hx1
   refine⟨hx2,?_⟩
   rcases hx3 with ⟨_,h5,h6⟩ | ⟨h4,h5,h6⟩
   .subst h6
    refine⟨rows,rfl,fun _=>⟨hlen,ad,cap,by rw [h5,hvz,hm0],by omega,hc2,?_⟩⟩
    rcases hc3 with ⟨h,_⟩ | ⟨b,mm,h,h2,h3,h4⟩
    .exact .inl h
    .refine .inr ⟨b,mm,h,h3.of_heap (hs2 b (hne0 b mm h3)),h4,?_⟩
     rcases hrowL with ⟨g1,g2⟩ | ⟨b',m',g1,g2,g3,g4⟩
     .rw [g2];trivial
     .have:b'=b:=by have:=g1.symm.trans h2;simpa using this
      subst this
      exact Zc.mono hI (hs2 b' (hne0 b' m' g2)) _ _ g4
   .obtain⟨g1,rows2,g2,g3⟩:=hE.2 q e x h5 h6
    refine⟨rows2,g2,fun _=>(g3 (by intro h;cases h;exact h4 rfl)).step hI (fun d len cap h7 h8=>hs2 d ?_)⟩
    intro hdb
    have:=hsubO e d len cap (List.mem_of_getElem? h5) (hinn q e x h1 h6 h4 hx2) h7 h8
    subst hdb
    obtain⟨_,a2,cap2,k1,_,_,k4⟩:=g3 (by intro h;cases h;exact h4 rfl)
    rw [h8] at k1;cases k1
    rcases k4 with k4 | ⟨d2,m2,k5,k6,_⟩
    .exact h7 k4
    .cases k5;exact hne0 _ _ k6 rfl
  .intro p q ep eq d l1 l2 c1 c2 h1 h2 _ _ h3 h4 h5 h6
   obtain⟨xp,hp1,hp2,hp3⟩:=hent p ep h1
   obtain⟨xq,hq1,hq2,hq3⟩:=hent q eq h2
   rcases hp3 with ⟨_,hp4,hp5⟩ | ⟨hp4,hp5,hp6⟩<;>rcases hq3 with ⟨_,hq4,hq5⟩ | ⟨hq4,hq5,hq6⟩
   .subst hp5;subst hq5
    have hpl:=(List.getElem?_eq_some_iff.1 hp1).1
    have hql:=(List.getElem?_eq_some_iff.1 hq1).1
    have f1:((Zbo es i [Za.sl rows]).map Prod.fst)[p]?=some i:=by rw [List.getElem?_map,hp1];rfl
    have f2:((Zbo es i [Za.sl rows]).map Prod.fst)[q]?=some i:=by rw [List.getElem?_map,hq1];rfl
    exact (List.getElem?_inj (by simpa using hpl) hnod).1 (f1.trans f2.symm)
   .exact absurd (hr.inj L l _ _ d hgL hg (.inl (hOL d l1 c1 h3 (hp4▸h5))) (hsubO eq d l2 c2 (List.mem_of_getElem? hq5) (hinn q eq xq h2 hq6 hq4 hq2) h4 h6)) hL
   .exact absurd (hr.inj L l _ _ d hgL hg (.inl (hOL d l2 c2 h4 (hq4▸h6))) (hsubO ep d l1 c1 (List.mem_of_getElem? hp5) (hinn p ep xp h1 hp6 hp4 hp2) h3 h5)) hL
   .exact huq p q ep eq d l1 l2 c1 c2 hp5 hq5 (hinn p ep xp h1 hp6 hp4 hp2) (hinn q eq xq h2 hq6 hq4 hq2) h3 h4 h5 h6
 rcases Zpc (n:=i) 0 hE.1 (fun i e x h1 h2=>(hE.2 i e x h1 h2).1) with ⟨h1,h2,h3,h4⟩ | ⟨j,e2',ts,h1,h2,h3,h4,h5⟩
 .refine main (ents.push { key := .int .i64 i,val:=a.eval z,born:=clock }) (clock+1) ?_ ?_ (fun q e he=>?_) ?_
  .rw [Array.toList_push,h3];simpa using hE.1
  .rw [h3,List.map_append,List.nodup_append]
   refine⟨hnd2,by simp,fun x hx y hy=>?_⟩
   obtain⟨p,hp,rfl⟩:=List.mem_map.1 hx
   simp only [List.map_cons,List.map_nil,List.mem_singleton] at hy
   rw [hy];exact h4 p hp
  .rw [Array.toList_push] at he
   rw [h3]
   rcases Nat.lt_or_ge q ents.toList.length with hq | hq
   .rw [List.getElem?_append_left hq] at he
    obtain⟨x,hx⟩:∃ x,es[q]?=some x:=⟨_,List.getElem?_eq_getElem (by rw [<- hE.1];exact hq)⟩
    exact⟨x,by rw [List.getElem?_append_left (by rw [<- hE.1];exact hq)];exact hx,(hE.2 q e x he hx).1,.inr ⟨h4 x (List.mem_of_getElem? hx),he,hx⟩⟩
   .rw [List.getElem?_append_right hq] at he
    have hq0:q - ents.toList.length=0:=by have:=(List.getElem?_eq_some_iff.1 he).1;simp at this;omega
    rw [hq0] at he
    simp only [List.getElem?_cons_zero,Option.some.injEq] at he
    subst he
    exact⟨(i,[.sl rows]),by rw [List.getElem?_append_right (by rw [<- hE.1];exact hq),<- hE.1,hq0];rfl,rfl,.inl ⟨rfl,rfl,rfl⟩⟩
  .simp only [Instr.mapUpdate,Sem.run_bind,run_underlying ht,Result.andThen_ok,MapKept.run_getObj_map hm,MapKept.run_checkKey hk hkey,MapKept.run_findKey hk h2,MapKept.run_setObj_map _ hm]
 .have hke:e2'.key = .int .i64 i:=(hE.2 j e2' _ h2 h1).1
  refine main (ents.modify j fun x=>{ x with key := .int .i64 i,val:=a.eval z }) clock ?_ ?_ (fun q e he=>?_) ?_
  .rw [Array.toList_modify,h5];simpa using hE.1
  .rw [Zr0 i _ es ⟨_,List.mem_of_getElem? h1,rfl⟩];exact hnd2
  .rw [Array.toList_modify,List.getElem?_modify] at he
   rw [h5]
   by_cases hqj:j=q
   .subst hqj
    rw [h2] at he
    simp only [if_true,Option.map_eq_map,Option.map_some,Option.some.injEq] at he
    subst he
    exact⟨(i,[.sl rows]),List.getElem?_set_self (List.getElem?_eq_some_iff.1 h1).1,rfl,.inl ⟨rfl,rfl,rfl⟩⟩
   .have he2:ents.toList[q]?=some e:=by
     simpa [hqj] using he
    have hq:=(List.getElem?_eq_some_iff.1 he2).1
    obtain⟨x,hx⟩:∃ x,es[q]?=some x:=⟨_,List.getElem?_eq_getElem (by rw [<- hE.1];exact hq)⟩
    refine⟨x,by rw [List.getElem?_set_ne hqj];exact hx,(hE.2 q e x he2 hx).1,.inr ⟨fun hxi=>hqj ?_,he2,hx⟩⟩
    have f1:(es.map Prod.fst)[q]?=some i:=by rw [List.getElem?_map,hx,Option.map_some,hxi]
    have f2:(es.map Prod.fst)[j]?=some i:=by rw [List.getElem?_map,h1];rfl
    exact (List.getElem?_inj (by simpa using (List.getElem?_eq_some_iff.1 h1).1) hnd2).1 (f2.trans f1.symm)
  .have hej:((ents[j]?).map (·.key)).getD (.int .i64 i) = .int .i64 i:=by
    rw [<- Array.getElem?_toList,h2,Option.map_some,Option.getD_some,hke]
   rw [Nat.zero_add] at h4
   simp only [Instr.mapUpdate,Sem.run_bind,run_underlying ht,Result.andThen_ok,MapKept.run_getObj_map hm,MapKept.run_checkKey hk hkey,MapKept.run_findKey hk h4,hej,MapKept.run_keyThatStays hkey,MapKept.run_setObj_map _ hm]
end
theorem Wk.tomr{st:St}{l k:Nat}{mk:MK}(hk:0 < k)(hmk:∃ ag,mk = .v ag)(hg:get st.σ l=some (.map mk [])):Wk st ⟨st.n,st.tm,(l,.map (.rows k none) [])::Zw [l] st.σ⟩:=by
 rintro G a w ⟨β,hr⟩
 obtain⟨n,tm,σ⟩:=st
 have hg:get σ l=some (.map mk []):=hg
 obtain⟨ag,rfl⟩:=hmk
 obtain⟨b,ents,clock,hb,hm,he⟩:=hr.blk l _ hg
 have hm:w.heap[b]?=some (.map ents clock):=hm
 have hb:β l=some b:=hb
 have h0:ents.toList=[]:=List.eq_nil_of_length_eq_zero (by rw [Zbp.length (show Zbp _ ag ents.toList [] from he)];rfl)
 have:=Zb4 hr w (some b) l (.map (.rows k none) []) [l] (Nat.le_refl _) rfl rfl rfl (by simp) (fun _ _ _=>rfl) (fun c hc => .inr ⟨l,_,by simp,hg,?_⟩) (.inl ?_) (fun hI=>⟨b,ents,clock,Zk _ _ _,hm,hk,⟨by rw [h0];rfl,fun i e x h1=>by rw [h0] at h1;simp at h1⟩,List.nodup_nil,fun i j ei ej d l1 l2 c1 c2 h1=>by rw [h0] at h1;simp at h1⟩)
 .exact⟨_,this⟩
 .rcases hc with hc | ⟨b1,h1,h2⟩
  .rw [Zk] at hc;exact .inl (hb.trans hc)
  .rw [Zk] at h1;cases h1
   obtain⟨e,_,_,h3,_⟩:=(Zda hm).1 h2
   rw [h0] at h3;cases h3
 .refine⟨fun k' es' h=>by simp [ctx,PW.get] at h,fun cs' h=>by simp [ctx,PW.get] at h,fun k' q' es' h=>by simp [ctx,PW.get] at h,fun mk' es' h=>⟨_,_,hg,by show Zy β l (some b) l=β l;rw [Zk,hb]⟩,fun k' i' es' cs' h=>by simp [ctx,PW.get] at h,fun h' h=>by simp [ctx,PW.get] at h,fun k' i' r' es' h=>by simp [ctx,PW.get] at h⟩
theorem Wk.frzm{st:St}{l k:Nat}{es:List (Int×List Za)}(hg:get st.σ l=some (.map (.rows k none) es)):Wk st ⟨st.n,st.tm,(l,.map (.v false) es)::Zw [l] st.σ⟩:=by
 rintro G a w ⟨β,hr⟩
 obtain⟨n,tm,σ⟩:=st
 have hg:get σ l=some (.map (.rows k none) es):=hg
 obtain⟨b,ents,clock,hb,hm,hk0,hE,hnd,huq⟩:=Zm6 (hr.blk l _ hg)
 have hm:w.heap[b]?=some (.map ents clock):=hm
 have hb:β l=some b:=hb
 have key:∀ {es':List MapEntry} {xs:List (Int×List Za)} {c:Ctx},es'.length=xs.length->(∀ (i:Nat) e x,es'[i]?=some e->xs[i]?=some x->e.key = .int .i64 x.1/\VR c (mvP false x.2) e.val)->Zbp c false es' xs:=by
  intro es'
  induction es' with
  | nil=>intro xs c hl _;exact List.eq_nil_of_length_eq_zero hl.symm
  | cons e es' ih=>
   intro xs c hl h
   match xs,hl with
   | (n,ts)::r,hl=>
    obtain⟨h1,h2⟩:=h 0 e (n,ts) rfl rfl
    exact⟨n,ts,r,rfl,h1,h2,ih (by simpa using hl) (fun i e x h3 h4=>h (i+1) e x (by simpa using h3) (by simpa using h4))⟩
 have:=Zb4 hr w (some b) l (.map (.v false) es) [l] (Nat.le_refl _) rfl rfl rfl (by simp) (fun _ _ _=>rfl) (fun c hc => .inr ⟨l,_,by simp,hg,?_⟩) (.inl ?_) (fun hI=>⟨b,ents,clock,Zk _ _ _,hm,key hE.1 fun i e x h1 h2=>?_⟩)
 .exact⟨_,this⟩
 .have hc:=Zj.flat (o := .map (.v false) es) trivial hc
  rw [Zk] at hc;exact .inl (hb.trans hc)
 .refine⟨fun k' es' h=>by simp [ctx,PW.get] at h,fun cs' h=>by simp [ctx,PW.get] at h,fun k' q' es' h=>by simp [ctx,PW.get] at h,fun mk' es' h=>⟨_,_,hg,by show Zy β l (some b) l=β l;rw [Zk,hb]⟩,fun k' i' es' cs' h=>by simp [ctx,PW.get] at h,fun h' h=>by simp [ctx,PW.get] at h,fun k' i' r' es' h=>by simp [ctx,PW.get] at h⟩
 .obtain⟨g1,rows,g2,g3⟩:=hE.2 i e x h1 h2
  refine⟨g1,?_⟩
  obtain⟨_,ad,cap,g4,g5,g6,g7⟩:=g3 (by simp)
  rw [g2]
  show VR _ (.t (.sl rows)) _
  simp only [VR,Zg]
  refine⟨ad,cap,g4,g5,g6,?_⟩
  by_cases h0:cap=0
  .exact .inl (List.eq_nil_of_length_eq_zero (by omega))
  .rcases g7 with g7 | ⟨d,m,k1,k2,k3,k4⟩
   .exact absurd g7 h0
   .have hO:Zj β w l (.map (.rows k none) es) d := .inr ⟨b,hb,(Zda hm).2 ⟨e,_,cap,List.mem_of_getElem? h1,Ze9 _,h0,by rw [g4,k1]⟩⟩
    have hsep:=hr.sep l _ d hg hO
    refine .inr ⟨d,0,k1,⟨hsep.1,by rcases hsep.2 with h | h;exact .inl h;exact .inr (.inr h),fun m o hm2 ho=>?_⟩,Zc.mono hI rfl _ _ k4⟩
    have hm2:get ((l,Blk.map (.v false) es)::Zw [l] σ) m=some o:=hm2
    simp only [PW.get] at hm2
    cases hbq:Nat.beq l m with
    | true=>
     have:l=m:=(Ze _ _).1 hbq
     subst this
     simp only [hbq,cond_true,Option.some.injEq] at hm2
     subst hm2
     have ho:=Zj.flat (o := .map (.v false) es) trivial ho
     rw [Zk] at ho;cases ho
     exact k2.not_map hm
    | false=>
     simp only [hbq,cond_false] at hm2
     have hml:m≠l:=fun e=>by subst e;simp at hbq
     exact hml (hr.inj m l o _ d (Zcv hm2).2 hg (ho.of (Z5 β _ hml) (fun _ _=>rfl)) hO)
end Go.PW
namespace Go.PW
open Go.RowKit
def rgL(h:Bool)(l:Nat)(t:Za):PV:=bif h then .own l (.rg t) else rgP l t
theorem Zc1.oneCell{I:Nat->Prop}{w:World}{t:Za}{v:Value}(h:Zc1 I w t v):v.oneCell'=true:=by
 cases t<;>simp only [Zc1] at h
 case con c=>exact h.1▸h.2.1
 case sl es=>obtain⟨a,cap,rfl,_⟩:=h;rfl
 all_goals (obtain⟨_,rfl⟩:=h;rfl)
theorem Zi8.vr{c:Ctx}{l n:Nat}{h:Bool}(hg:get c.σ l=some (.reg h))(hn:c.β l=some n){t:Za}{v:Value}(hx:Zi8 h (fun b=>n.testBit b=true) c.w t v):VR c (rgL h l t) v:=by
 have own:v.oneCell'=true->VR c (.own l (.rg t)) v:=fun h1=>by
  simp only [VR]
  exact⟨fun h' hg'=>by rw [hg] at hg';cases hg';exact⟨n,hn,hx⟩,h1⟩
 cases h with
 | true=>exact own (Zc1.oneCell hx)
 | false=>
  have hx':Zg (fun b=>n.testBit b=true) c.w t v:=hx
  cases t with
  | sl es=>exact own hx'.oneCell
  | bool b=>simpa only [rgL,cond_false,rgP,VR,Zg] using hx'
  | int k m=>simpa only [rgL,cond_false,rgP,VR,Zg] using hx'
  | str s=>simpa only [rgL,cond_false,rgP,VR,Zg] using hx'
  | con d=>simpa only [rgL,cond_false,rgP,VR,Zg] using hx'
theorem Zc2.vals{c:Ctx}{l n b:Nat}{h:Bool}(hg:get c.σ l=some (.reg h))(hn:c.β l=some n):∀ {ts:List Za} {off:Nat},Zc2 h (fun b=>n.testBit b=true) c.w b ts off ->
 ∃ vs,VRs c (ts.map (rgL h l)) vs/\∀ j v,vs[j]?=some v->c.w.cell? ⟨b,off+j,none⟩=some v
 | [],_,_=>⟨[],by simp [VRs],by simp⟩
 | t::ts,off,hc=>by
  have hc':(∃ v,c.w.cell? ⟨b,off,none⟩=some v/\Zi8 h (fun b=>n.testBit b=true) c.w t v)/\Zc2 h (fun b=>n.testBit b=true) c.w b ts (off+1):=by
   cases h<;>exact hc
  obtain⟨⟨v,hv,ht⟩,hr⟩:=hc'
  obtain⟨vs,h1,h2⟩:=Zc2.vals hg hn hr
  refine⟨v::vs,by simp only [List.map_cons,VRs];exact⟨v,vs,rfl,ht.vr hg hn,h1⟩,fun j u hu=>?_⟩
  cases j with
  | zero=>simp at hu;subst hu;simpa using hv
  | succ j=>
   have:=h2 j u (by simpa using hu)
   rwa [show off+(j+1)=off+1+j by omega]
theorem Zcj.get{I:Nat->Prop}{w:World}{b k:Nat}:∀ {es:List (List Za)} {off:Nat} (i:Nat) (e:List Za),Zcj I w b es off->(∀ el,el∈es->el.length=k)->es[i]?=some e->Za9 I w b e (off+i*k)
 | [],_,i,e,_,_,h=>by simp at h
 | e0::es,off,0,e,h,_,he=>by
  simp only [Zcj] at h
  simp at he;subst he
  simpa using h.1
 | e0::es,off,i+1,e,h,hk,he=>by
  simp only [Zcj] at h
  have h0:=hk e0 (by simp)
  have:=Zcj.get i e h.2 (fun el hel=>hk el (List.mem_cons_of_mem _ hel)) (by simpa using he)
  rw [h0] at this
  rwa [show off+(i+1)*k=off+k+i*k by rw [Nat.add_mul,Nat.one_mul];omega]
theorem Za9.drop{I:Nat->Prop}{w:World}{b:Nat}:∀ (k:Nat) (ts:List Za) (off:Nat),Za9 I w b ts off->Za9 I w b (ts.drop k) (off+k)
 | 0,ts,off,h=>by simpa using h
 | k+1,[],off,_=>by simp [Za9]
 | k+1,t::ts,off,h=>by
  simp only [Za9] at h
  have:=Za9.drop k ts (off+1) h.2
  rwa [List.drop_succ_cons,show off+(k+1)=off+1+k by omega]
theorem Zc2.drop{h:Bool}{I:Nat->Prop}{w:World}{b:Nat}(k:Nat)(ts:List Za)(off:Nat)(hc:Zc2 h I w b ts off):Zc2 h I w b (ts.drop k) (off+k):=by
 cases h with
 | false=>exact Zh.drop k ts off hc
 | true=>exact Za9.drop k ts off hc
theorem Zi8.sl{h:Bool}{I:Nat->Prop}{w:World}{es:List (List Za)}{v:Value}(hx:Zi8 h I w (.sl es) v) :
 ∃ a cap,v = .slice a es.length cap/\es.length<=cap/\cap<=maxLen/\(es=[]\/∃ b off,a=some ⟨b,off,none⟩/\I b/\∀ k i e,(∀ el,el∈es->el.length=k)->es[i]?=some e->Zc2 h I w b e (off+i*k)):=by
 cases h with
 | false=>
  have hx:Zg I w (.sl es) v:=hx
  simp only [Zg] at hx
  obtain⟨a,cap,h1,h2,h3,h4⟩:=hx
  refine⟨a,cap,h1,h2,h3,h4.imp id ?_⟩
  rintro ⟨b,off,h5,h6,h7⟩
  exact⟨b,off,h5,h6,fun k i e hk he=>h7.get i e hk he⟩
 | true=>
  have hx:Zc1 I w (.sl es) v:=hx
  simp only [Zc1] at hx
  obtain⟨a,cap,h1,h2,h3,h4⟩:=hx
  refine⟨a,cap,h1,h2,h3,h4.imp id ?_⟩
  rintro ⟨b,off,h5,h6,h7⟩
  exact⟨b,off,h5,h6,fun k i e hk he=>h7.get i e hk he⟩
section
variable {P:Program} {o:Oper} {ρ:List (Nat×PV)} {σ:List (Nat×Blk)}
theorem Zzq{t:TypeId}{x:Operand}{e:TypeId}{l:Nat}{h:Bool}{es:List (List Za)}(ho:o.op = .call { callee := .builtin .len,args := #[x],argTypes := #[t] })(hT:P.underlying t=some (.slice e))
 (hx:Zb ρ x=some (.own l (.rg (.sl es)))) (hg:get σ l=some (.reg h)):Zr P o ρ σ [l] (.t (.int .i64 es.length)) []:=
 Z2 fun G β n tm σ' A w hop hneed _=>by
  have h1:=hop x _ (by simp [ho,Op.operands,Call.operands]) hx
  simp only [VR] at h1
  obtain⟨m,_,hr⟩:=h1.1 h (by rw [<- hg];exact hneed l (by simp))
  obtain⟨a,cap,hv,_⟩:=hr.sl
  exact⟨.int .i64 es.length,by simp [execOp,ho,resolve,invoke,builtin,Builtin.len_,hv,run_underlying hT,goInt],by simp [VR,Zg]⟩
theorem Zwf{t:TypeId}{x y:Operand}{k l:Nat}{h:Bool}{es:List (List Za)}{e:List Za}{ki:IntKind}{i:Int}(ho:o.op = .indexAddr t x y)(ha:slInfo P t=some k)(hx:Zb ρ x=some (.own l (.rg (.sl es))))(hy:Zb ρ y=some (.t (.int ki i)))
 (hg:get σ l=some (.reg h)) (hk:∀ el,el∈es->el.length=k) (h0:0<=i) (he:es[i.toNat]?=some e):Zr P o ρ σ [l] (.own l (.rp e)) []:=
 Z2 fun G β n tm σ' A w hop hneed _=>by
  have e1:=hop x _ (by simp [ho,Op.operands]) hx
  have e2:=hop y _ (by simp [ho,Op.operands]) hy
  simp only [VR,Zg] at e1 e2⊢
  have hgl:get σ' l=some (.reg h):=(hneed l (by simp)).trans hg
  obtain⟨m,hm,hr⟩:=e1.1 h hgl
  obtain⟨a,cap,hv,hlc,hcm,hb⟩:=hr.sl
  have hlt:i.toNat < es.length:=(List.getElem?_eq_some_iff.1 he).1
  rcases hb with hb | ⟨b,q,ha',hI,hel⟩
  .subst hb;simp at he
  .subst ha'
   refine⟨.pointer (some ⟨b,q+i.toNat*k,none⟩),?_,fun h' hg'=>?_,rfl⟩
   .simp only [execOp,ho,hv,e2,Sem.run_bind,Zb7 w ha h0 (by omega:i < es.length),Result.andThen_ok,Sem.run_pure]
   .have:some (Blk.reg h')=some (.reg h):=Eq.trans (Eq.symm hg') hgl
    cases this
    exact⟨m,b,q+i.toNat*k,hm,rfl,fun _=>hI,hel k _ e hk he⟩
theorem Zwg{s:TypeId}{x:Operand}{i off size l:Nat}{h:Bool}{cs:List Za}(ho:o.op = .fieldAddr s x i)(hf:fieldInfo P s i=some (off,size))(hs:size≠0)(hx:Zb ρ x=some (.own l (.rp cs)))(hg:get σ l=some (.reg h)) :
 Zr P o ρ σ [l] (.own l (.rp (cs.drop off))) []:=
 Z2 fun G β n tm σ' A w hop hneed _=>by
  have h1:=hop x _ (by simp [ho,Op.operands]) hx
  simp only [VR] at h1⊢
  have hgl:get σ' l=some (.reg h):=(hneed l (by simp)).trans hg
  obtain⟨m,b,q,hm,hv,hI,hc⟩:=h1.1 h hgl
  refine⟨.pointer (some ⟨b,q+off,none⟩),?_,fun h' hg'=>?_,rfl⟩
  .simp only [execOp,ho,hv,Sem.run_bind,Zb6 w hf hs,Result.andThen_ok,Sem.run_pure]
  .have:some (Blk.reg h')=some (.reg h):=Eq.trans (Eq.symm hg') hgl
   cases this
   exact⟨m,b,q+off,hm,rfl,fun hne=>hI (fun e=>hne (by rw [e];simp)),hc.drop off⟩
theorem Zr1{x:Operand}{l:Nat}{h:Bool}{cs:List Za}(ho:o.op = .nilCheck x)(hx:Zb ρ x=some (.own l (.rp cs)))(hg:get σ l=some (.reg h)):Zr P o ρ σ [l] (.own l (.rp cs)) []:=
 Z2 fun G β n tm σ' A w hop hneed _=>by
  have h1:=hop x _ (by simp [ho,Op.operands]) hx
  have h2:=h1
  simp only [VR] at h1
  obtain⟨m,b,q,_,hv,_⟩:=h1.1 h ((hneed l (by simp)).trans hg)
  exact⟨.pointer (some ⟨b,q,none⟩),by simp [execOp,ho,hv],by rw [<- hv];exact h2⟩
theorem Zx6{t:TypeId}{x:Operand}{size l:Nat}{h agg:Bool}{cs:List Za}{p:PV}(ho:o.op = .load t x)(hT:TyF P t agg size)(hx:Zb ρ x=some (.own l (.rp cs)))(hg:get σ l=some (.reg h))(hp:Zar agg size 0 (cs.map (rgL h l))=some p) :
 Zr P o ρ σ [l] p []:=
 Z2 fun G β n tm σ' A w hop hneed hr=>by
  have e1:=hop x _ (by simp [ho,Op.operands]) hx
  simp only [VR] at e1
  have hgl:get σ' l=some (.reg h):=(hneed l (by simp)).trans hg
  obtain⟨m,b,q,hm,hv,hI,hc⟩:=e1.1 h hgl
  obtain⟨vs,h1,h2⟩:=Zc2.vals (c:=ctx G β w σ') hgl hm hc
  obtain⟨v,hrun,hpv⟩:=Zcw (q:=q) hT w h1 h2 hp
  rw [Nat.add_zero] at hrun
  exact⟨v,by simp only [execOp,ho,hv,Sem.run_bind,hrun,Result.andThen_ok,Sem.run_pure],hpv⟩
theorem Zzr{t:TypeId}{x:Operand}{l:Nat}{b:Bool}(ho:o.op = .unOp .not t x)(hx:Zb ρ x=some (.own l (.rg (.bool b))))(hg:get σ l=some (.reg true)):Zr P o ρ σ [l] (.own l (.rg (.bool b))) []:=
 Z2 fun G β n tm σ' A w hop hneed _=>by
  have h1:=hop x _ (by simp [ho,Op.operands]) hx
  simp only [VR] at h1⊢
  have hgl:get σ' l=some (.reg true):=(hneed l (by simp)).trans hg
  obtain⟨m,hm,hr⟩:=h1.1 true hgl
  obtain⟨b',hv⟩:∃ b',A.eval x = .bool b':=hr
  refine⟨.bool (!b'),by simp [execOp,ho,hv,Op.unary],fun h' hg'=>?_,rfl⟩
  have:some (Blk.reg h')=some (.reg true):=Eq.trans (Eq.symm hg') hgl
  cases this
  exact⟨m,hm,!b',rfl⟩
theorem Zzs{t t2:TypeId}{x y:Operand}{l:Nat}{k:IntKind}{i j:Int}(ho:o.op = .binOp .add t x y t2)(hx:Zb ρ x=some (.own l (.rg (.int k i))))(hy:Zb ρ y=some (.t (.int k j)))(hg:get σ l=some (.reg true)):Zr P o ρ σ [l] (.own l (.rg (.int k i))) []:=
 Z2 fun G β n tm σ' A w hop hneed _=>by
  have h1:=hop x _ (by simp [ho,Op.operands]) hx
  have h2:=hop y _ (by simp [ho,Op.operands]) hy
  simp only [VR,Zg] at h1 h2⊢
  have hgl:get σ' l=some (.reg true):=(hneed l (by simp)).trans hg
  obtain⟨m,hm,hr⟩:=h1.1 true hgl
  obtain⟨a,hv⟩:∃ a,A.eval x = .int k a:=hr
  have hq:=Zau (P:=P) (op := .add) (t:=t) (x:=x) (y:=y) (u := .int k a) (v := .int k j) w trivial
  refine⟨.int k (k.wrap (a+j)),by simp [execOp,ho,hv,h2,hq,binOp,Op.intArith],fun h' hg'=>?_,rfl⟩
  have:some (Blk.reg h')=some (.reg true):=Eq.trans (Eq.symm hg') hgl
  cases this
  exact⟨m,hm,_,rfl⟩
end
theorem Zzt{w:World}{b q m:Nat}{c:Value}(hr:Zv w b m)(hc:w.cell? ⟨b,q,none⟩=some c):q < m:=by
 obtain⟨cs,e,fr,h1,h2,_⟩:=hr
 rw [cell_of_row w b q cs e fr h1] at hc
 have:=(Array.getElem?_eq_some_iff.1 hc).1
 omega
theorem Zwh{G:Frm}{β:Nat->Option Nat}{n:Nat}{tm:List (Nat×PV)}{σ:List (Nat×Blk)}{a:Act}{w:World}(h:Zq G β ⟨n,tm,σ⟩ a w){l m b q:Nat}{c v:Value}(hg:get σ l=some (.reg true))(hm:β l=some m)(hb:m.testBit b=true)
 (hc:w.cell? ⟨b,q,none⟩=some c) (hk:Zia c v):Zq G β ⟨n,tm,σ⟩ a (w.setCells b q [v]):=by
 have hown:Zj β w l (.reg true) b := .inr ⟨m,hm,hb⟩
 have hsep:=h.sep l _ b hg hown
 have hoth:∀ q o b',q≠l->get σ q=some o->Zj β w q o b'->b'≠b:=fun q o b' hq ho hb' e=>hq (h.inj q l o _ b ho hg (e▸hb') hown)
 have hheap:∀ b',b'≠b->(w.setCells b q [v]).heap[b']?=w.heap[b']?:=fun b' hb'=>Zab b [v] q w b' hb'
 have hO:∀ q' o b',get σ q'=some o->Zj β (w.setCells b q [v]) q' o b'->Zj β w q' o b':=fun q' o b' ho hb'=>by
  by_cases e:q'=l
  .subst e
   rw [hg] at ho;cases ho
   rcases hb' with ⟨_,hr⟩ | ⟨n',h1,h2⟩
   .cases hr
   .exact .inr ⟨n',h1,h2⟩
  .exact hb'.of_heap (fun b2 h2=>hheap b2 (hoth q' o b2 e ho h2))
 have hI:∀ b',(ctx G β w σ).I b'->(ctx G β (w.setCells b q [v]) σ).I b'/\(ctx G β (w.setCells b q [v]) σ).w.heap[b']?=(ctx G β w σ).w.heap[b']?:=fun b' hb'=>
  ⟨⟨by rw [Za4];exact hb'.1,hb'.2.1,fun q' o ho hq=>hb'.2.2 q' o ho (hO q' o b' ho hq)⟩,hheap b' (fun e=>hb'.2.2 l _ hg (e▸hown))⟩
 have hL:∀ q',Zm (ctx G β w σ) (ctx G β (w.setCells b q [v]) σ) q':=fun q'=>by
  by_cases e:q'=l
  .subst e
   have bad:∀ {x:Blk},get (ctx G β (w.setCells b q [v]) σ).σ q'=some x->x = .reg true:=fun hx=>Option.some.inj (Eq.trans (Eq.symm hx) hg)
   refine⟨fun _ _ hx=>absurd (bad hx) (by simp),fun _ hx=>absurd (bad hx) (by simp),fun _ _ _ hx=>absurd (bad hx) (by simp),fun _ _ hx=>absurd (bad hx) (by simp),fun _ _ _ _ hx=>absurd (bad hx) (by simp),fun h' hx=>?_,fun _ _ _ _ hx=>absurd (bad hx) (by simp)⟩
   cases bad hx
   refine⟨hg,fun n' hn'=>⟨n',hn',fun b' hb'=>⟨hb',?_⟩⟩⟩
   by_cases eb:b'=b
   .subst eb
    refine⟨fun off c0 h0=>?_,fun m hr=>Z1 b' [v] q w hr⟩
    show ∃ c',(w.setCells b' q [v]).cell? _=some c'/\Zia c0 c'
    by_cases eo:off=q
    .subst eo
     have:=World.cell?_setCells_in b' [v] off w (fun j hj=>by
      have:j=0:=by simpa using hj
      subst this
      rw [Nat.add_zero,hc];rfl) 0 (by simp)
     rw [Nat.add_zero] at this
     have h0:w.cell? ⟨b',off,none⟩=some c0:=h0
     rw [hc] at h0;cases h0
     exact⟨v,this,hk⟩
    .rw [World.cell?_setCells_out b' [v] q w ⟨b',off,none⟩ (fun _ _=>by simp;omega)]
     exact⟨c0,h0,.inl rfl⟩
   .exact ShB.same (hheap b' eb)
  .exact Zm.same rfl rfl (fun o b2 ho h2=>hheap b2 (hoth q' o b2 e ho h2))
 obtain⟨e1,e2,e3⟩:=Za5 b [v] q w
 exact { defers := h.defers, sz := h.sz, base := by rw [Za4]; exact h.base, os := e1.trans h.os, tape := e2.trans h.tape, output := e3.trans h.output,
         old:=fun b' hb' ho=>by
          have:b'≠b:=by
           rintro rfl
           rcases hsep.2 with h4 | h4
           .omega
           .exact ho h4
          exact (hheap b' this).trans (h.old b' hb' ho),
         A:=h.A,gl:=h.gl,
         inj:=fun q1 q2 o o' b' h1 h2 h3 h4=>h.inj q1 q2 o o' b' h1 h2 (hO q1 o b' h1 h3) (hO q2 o' b' h2 h4),
         sep:=fun q1 o b' h1 h3=>by rw [Za4];exact h.sep q1 o b' h1 (hO q1 o b' h1 h3),
         fix:=h.fix,row0:=h.row0.step (fun q1 _=>hL q1),
         blk:=fun q1 o ho=>by
          by_cases e:q1=l
          .subst e
           have ho:get σ q1=some o:=ho
           rw [hg] at ho;cases ho
           obtain⟨n',h1,h2⟩:=h.blk q1 _ hg
           exact⟨n',h1,fun b' hb'=>by obtain⟨s,hs⟩:=h2 b' hb';exact⟨s,Z1 b [v] q w hs⟩⟩
          .exact BR.step hI rfl (fun b' hb'=>hheap b' (hoth q1 o b' e ho hb')) (fun q2 _=>hL q2) (h.blk q1 o ho),
         tm:=fun i p hp=>⟨(h.tm i p hp).1,VR.step hI p _ (fun q1 _=>hL q1) (h.tm i p hp).2⟩ }
def Zjq:Za->Za->Bool
 | .bool _,.bool _=>true
 | .int k _,.int k' _=>decide (k=k')
 | .str _,.str _=>true
 | _,_=>false
theorem Zzu{I I':Nat->Prop}{w w':World}{x y:Za}{c v:Value}(hk:Zjq x y=true)(hx:Zc1 I w x c)(hy:Zc1 I' w' y v):Zia c v:=by
 cases x<;>cases y<;>simp only [Zjq,Bool.false_eq_true,decide_eq_true_eq] at hk
 .obtain⟨a,rfl⟩:=hx;obtain⟨b,rfl⟩:=hy;exact .inr (.inl ⟨a,b,rfl,rfl⟩)
 .subst hk;obtain⟨a,rfl⟩:=hx;obtain⟨b,rfl⟩:=hy;exact .inr (.inr (.inl ⟨_,a,b,rfl,rfl⟩))
 .obtain⟨a,rfl⟩:=hx;obtain⟨b,rfl⟩:=hy;exact .inr (.inr (.inr ⟨a,b,rfl,rfl⟩))
theorem Z0t{I:Nat->Prop}{w:World}{x y:Za}{v:Value}(hk:Zjq x y=true)(h:Zg I w y v):Zc1 I w y v:=by
 cases x<;>cases y<;>simp only [Zjq,Bool.false_eq_true] at hk<;>simp only [Zg] at h<;>exact⟨_,h⟩
def Zoa(σ:List (Nat×Blk)):PV->Option Za
 | .t z=>some z
 | .own l (.rg z)=>match get σ l with | some (.reg true)=>some z | _=>none
 | _=>none
section
variable {P:Program} {o:Oper} {ρ:List (Nat×PV)} {σ:List (Nat×Blk)}
theorem Zx7{t:TypeId}{x y:Operand}{l:Nat}{c0 z:Za}{cs:List Za}{p:PV}{need:List Nat}(hl:l∈need)(hpn:∀ m,p.has m=true->m∈need)(ho:o.op = .store t x y)(hd:o.dst=none)(hT:TyF P t false 1)(hx:Zb ρ x=some (.own l (.rp (c0::cs))))(hy:Zb ρ y=some p)
 (hg0:get σ l=some (.reg true)) (hz:Zoa σ p=some z) (hk:Zjq c0 z=true):OpF P o ρ σ need [] (.tup []) []:=by
 rintro G n tm σ' a w K Q hag hneed _ ⟨β,hr⟩ hK
 have hg:get σ' l=some (.reg true):=by rw [hneed l hl];exact hg0
 have hop:∀ x q,x∈o.op.operands->Zb ρ x=some q->VR (ctx G β w σ') q (a.eval x):=fun x q hx hq=>Zbw hr hq (fun t r ht hr'=>hag t r (ht▸hx) hr')
 have e1:=hop x _ (by simp [ho,Op.operands]) hx
 have e2:=hop y _ (by simp [ho,Op.operands]) hy
 simp only [VR] at e1
 obtain⟨m,b,q,hm,hv,hI,hcs⟩:=e1.1 true hg
 have hb:=hI (by simp)
 have hcs:Za9 _ w b (c0::cs) q:=hcs
 simp only [Za9] at hcs
 obtain⟨⟨c,hc,hs⟩,_⟩:=hcs
 obtain⟨n',hn',hrows⟩:=hr.blk l _ hg
 have:n'=m:=by have:=hn'.symm.trans hm;simpa using this
 subst this
 obtain⟨sz,hrow⟩:=hrows b hb
 have hrow:Zv w b sz:=hrow
 have hlt:=Zzt hrow hc
 have hsv:∃ I,Zc1 I w z (a.eval y):=by
  unfold Zoa at hz
  split at hz
  .cases hz
   simp only [VR] at e2
   exact⟨_,Z0t hk e2⟩
  .rename_i l' z'
   split at hz
   .rename_i hg'
    cases hz
    simp only [VR] at e2
    obtain⟨m',_,h2⟩:=e2.1 true ((hneed l' (hpn l' (by simp [PV.has]))).trans hg')
    exact⟨_,h2⟩
   .cases hz
  .cases hz
 obtain⟨I',hsv⟩:=hsv
 have hke:=Zzu hk hs hsv
 have hone:(a.eval y).oneCell'=true:=hsv.oneCell
 have hp1:(Zi p).length=1/\(Zi p).all PV.one=true:=by
  unfold Zoa at hz
  split at hz
  .exact⟨rfl,rfl⟩
  .exact⟨rfl,rfl⟩
  .cases hz
 have hrun:=Zbr hT w e2 hp1.1 hp1.2 hrow (q:=q) (by omega)
 have hcell:(a.eval y).cells.toList=[a.eval y]:=by
  have h1:=e2.cells
  have h2:Zi p=[p]:=by
   unfold Zoa at hz
   split at hz
   .rfl
   .rfl
   .cases hz
  rw [h2] at h1
  have h3:=h1.length
  cases hv':a.eval y<;>simp_all [Value.cells,Value.oneCell']
 rw [hcell] at hrun
 have hrun2:(execOp a.eval o).run P w = .ok .skip (w.setCells b q [a.eval y]):=by
  simp only [execOp,ho,hv,Sem.run_bind,hrun,Result.andThen_ok,Sem.run_pure]
 have hr':=Zwh hr (a:=a) hg hm hb hc hke
 unfold Oper.wp
 rw [hrun2,Oper.upon_skip,hd]
 have:=hK (.tuple #[]) (w.setCells b q [a.eval y]) ⟨β,hr',by simp [VR,VRs]⟩
 rw [hd] at this
 exact this
end
theorem Zm.told{c c':Ctx}{m:Nat}(hβ:c'.β m=c.β m)(hw:c'.w=c.w)(h:∀ o',get c'.σ m=some o'->∃ o,get c.σ m=some o/\(o'=o\/∃ cs cs',o = .box cs/\o' = .box cs')):Zm c c' m:=by
 refine⟨fun k es' hm=>?_,fun cs' hm=>?_,fun k q es' hm=>?_,fun ag es' hm=>?_,fun k i es' cs' hm=>?_,fun h' hm=>?_,fun k i r es' hm=>?_⟩
 all_goals obtain⟨o,h1,h2⟩:=h _ hm
 .rcases h2 with h2 | ⟨_,_,_,h2⟩
  .subst h2;exact⟨es',h1,Nat.le_refl _,fun _=>⟨hβ,fun _ _ _ h=>by rw [hw];exact h⟩⟩
  .cases h2
 .rcases h2 with h2 | ⟨cs,cs2,h3,h2⟩
  .subst h2;exact⟨cs',h1,hβ⟩
  .subst h3;exact⟨cs,h1,hβ⟩
 .rcases h2 with h2 | ⟨_,_,_,h2⟩
  .subst h2;exact⟨es',h1,Nat.le_refl _,fun _=>⟨hβ,fun _ _=>⟨fun _ h=>by rw [hw];exact h,fun _ _=>by rw [hw]⟩⟩⟩
  .cases h2
 .rcases h2 with h2 | ⟨_,_,_,h2⟩
  .subst h2;exact⟨_,es',h1,hβ⟩
  .cases h2
 .rcases h2 with h2 | ⟨_,_,_,h2⟩
  .subst h2;exact⟨es',cs',h1,rfl,hβ,fun _ _ _ h=>by rw [hw];exact h⟩
  .cases h2
 .rcases h2 with h2 | ⟨_,_,_,h2⟩
  .subst h2;exact⟨h1,fun n hn=>⟨n,hβ.trans hn,fun _ hb=>⟨hb,by rw [hw];exact ShB.same rfl⟩⟩⟩
  .cases h2
 .rcases h2 with h2 | ⟨_,_,_,h2⟩
  .subst h2;exact⟨i,es',h1,Nat.le_refl _,fun _=>⟨hβ,fun _ _ _ h=>by rw [hw];exact h⟩⟩
  .cases h2
theorem Zi4{G:Frm}{β:Nat->Option Nat}{n:Nat}{tm tm':List (Nat×PV)}{σ σ':List (Nat×Blk)}{a:Act}{w:World}(h:Zq G β ⟨n,tm,σ⟩ a w){l r N M:Nat}{B:Blk}(hl0:1000<=l)(hl:get σ l=some (.reg false))(hN:β l=some N)(hr:get σ r=some B)(hlr:l≠r)
 (hM:∀ b,M.testBit b=true->Zj β w r B b/\∃ m,Zv w b m) {Tn:List PV->List PV->Prop}
 (hσ:∀ m o',get σ' m=some o'->m≠r/\∃ o,get σ m=some o/\(o'=o\/∃ cs cs',o = .box cs/\o' = .box cs'/\cs'.length=cs.length/\cs'.all PV.one=true/\Tn cs cs'))
 (hT:(∀ b,(ctx G β w σ).I b->(ctx G (Zy β l (some (N ||| M))) w σ').I b/\(ctx G (Zy β l (some (N ||| M))) w σ').w.heap[b]?=(ctx G β w σ).w.heap[b]?)->(∀ m,Zm (ctx G β w σ) (ctx G (Zy β l (some (N ||| M))) w σ') m) ->
  (∀ cs cs',Tn cs cs'->∀ vs,VRs (ctx G β w σ) cs vs->VRs (ctx G (Zy β l (some (N ||| M))) w σ') cs' vs) /\
  ∀ i q,get tm' i=some q->∃ p,get tm i=some p/\∀ v,VR (ctx G β w σ) p v->VR (ctx G (Zy β l (some (N ||| M))) w σ') q v) :
 Zq G (Zy β l (some (N ||| M))) ⟨n,tm',σ'⟩ a w/\(∀ b,(ctx G β w σ).I b->(ctx G (Zy β l (some (N ||| M))) w σ').I b/\(ctx G (Zy β l (some (N ||| M))) w σ').w.heap[b]?=(ctx G β w σ).w.heap[b]?)/\∀ m,Zm (ctx G β w σ) (ctx G (Zy β l (some (N ||| M))) w σ') m:=by
 have hl':∀ o',get σ' l=some o'->o' = .reg false:=fun o' ho=>by
  obtain⟨_,o,h1,h2⟩:=hσ l o' ho
  rw [hl] at h1;cases h1
  rcases h2 with h2 | ⟨_,_,h2,_⟩
  .exact h2
  .cases h2
 have hO:∀ m o' b,get σ' m=some o'->Zj (Zy β l (some (N ||| M))) w m o' b->(∃ o,get σ m=some o/\Zj β w m o b)\/(m=l/\Zj β w r B b):=fun m o' b hm ho=>by
  by_cases e:m=l
  .subst e
   have:=hl' o' hm
   subst this
   rcases ho with ⟨_,hr⟩ | ⟨n',h1,h2⟩
   .cases hr
   .rw [Zk] at h1
    cases h1
    have h2:(N ||| M).testBit b=true:=h2
    rw [Nat.testBit_or,Bool.or_eq_true] at h2
    rcases h2 with h2 | h2
    .exact .inl ⟨_,hl,.inr ⟨N,hN,h2⟩⟩
    .exact .inr ⟨rfl,(hM b h2).1⟩
  .obtain⟨_,o,h1,h2⟩:=hσ m o' hm
   rcases h2 with rfl | ⟨cs,cs',rfl,rfl,_⟩
   .exact .inl ⟨_,h1,ho.of (Z5 β _ e) (fun _ _=>rfl)⟩
   .exact .inl ⟨_,h1,.inl ((Z5 β _ e).symm.trans (Zj.flat (o := .box cs') trivial ho))⟩
 have hI:∀ b,(ctx G β w σ).I b->(ctx G (Zy β l (some (N ||| M))) w σ').I b/\(ctx G (Zy β l (some (N ||| M))) w σ').w.heap[b]?=(ctx G β w σ).w.heap[b]?:=fun b hb=>
  ⟨⟨hb.1,hb.2.1,fun m o hm ho=>by
   rcases hO m o b hm ho with ⟨o2,h1,h2⟩ | ⟨_,h2⟩
   .exact hb.2.2 m o2 h1 h2
   .exact hb.2.2 r B hr h2⟩,rfl⟩
 have hL:∀ m,Zm (ctx G β w σ) (ctx G (Zy β l (some (N ||| M))) w σ') m:=fun m=>by
  by_cases e:m=l
  .subst e
   cases hg:get σ' m with
   | none=>exact Zm.none hg
   | some o'=>
    have:=hl' o' hg
    subst this
    have bad:∀ {x:Blk},get (ctx G (Zy β m (some (N ||| M))) w σ').σ m=some x->x = .reg false:=fun hx=>hl' _ hx
    refine⟨fun _ _ hx=>absurd (bad hx) (by simp),fun _ hx=>absurd (bad hx) (by simp),fun _ _ _ hx=>absurd (bad hx) (by simp),fun _ _ hx=>absurd (bad hx) (by simp),fun _ _ _ _ hx=>absurd (bad hx) (by simp),fun h' hx=>?_,fun _ _ _ _ hx=>absurd (bad hx) (by simp)⟩
    cases bad hx
    refine⟨hl,fun n' hn'=>⟨N ||| M,Zk _ _ _,fun b hb=>⟨?_,ShB.same rfl⟩⟩⟩
    have:n'=N:=by have:=hN.symm.trans hn';simpa using this.symm
    subst this
    rw [Nat.testBit_or,hb];rfl
  .exact Zm.told (Z5 β _ e) rfl (fun o' ho'=>by
    obtain⟨_,o,h1,h2⟩:=hσ m o' ho'
    refine⟨o,h1,h2.imp id ?_⟩
    rintro ⟨cs,cs',h3,h4,_⟩
    exact⟨cs,cs',h3,h4⟩)
 obtain⟨hT1,hT2⟩:=hT hI hL
 refine⟨?_,hI,hL⟩
 exact { defers := h.defers, sz := h.sz, base := h.base, os := h.os, tape := h.tape, output := h.output, old := h.old, A := h.A, gl := h.gl,
         inj:=fun m m' o o' b hm hm' hb hb'=>by
          have k1:=(hσ m o hm).1
          have k2:=(hσ m' o' hm').1
          rcases hO m o b hm hb with ⟨o1,h1,h2⟩ | ⟨h1,h2⟩<;>rcases hO m' o' b hm' hb' with ⟨o3,h3,h4⟩ | ⟨h3,h4⟩
          .exact h.inj m m' o1 o3 b h1 h3 h2 h4
          .exact absurd (h.inj m r o1 B b h1 hr h2 h4) k1
          .exact absurd (h.inj m' r o3 B b h3 hr h4 h2) k2
          .exact h1.trans h3.symm,
         sep:=fun m o b hm hb=>by
          rcases hO m o b hm hb with ⟨o1,h1,h2⟩ | ⟨_,h2⟩
          .exact h.sep m o1 b h1 h2
          .exact h.sep r B b hr h2,
         fix:=fun m cs hm1 hm=>by
          have e:m≠l:=by omega
          rw [Z5 β _ e]
          obtain⟨_,o,h1,h2⟩:=hσ m _ hm
          rcases h2 with h2 | ⟨cs0,_,h2,_⟩
          .subst h2;exact h.fix m cs hm1 h1
          .subst h2;exact h.fix m cs0 hm1 h1,
         row0:=h.row0.step (fun m _=>hL m),
         blk:=fun m o hm=>by
          by_cases e:m=l
          .subst e
           have:=hl' o hm
           subst this
           refine⟨N ||| M,Zk _ _ _,fun b hb=>?_⟩
           rw [Nat.testBit_or,Bool.or_eq_true] at hb
           rcases hb with hb | hb
           .obtain⟨n',h1,h2⟩:=h.blk m _ hl
            have:n'=N:=by have:=h1.symm.trans hN;simpa using this
            subst this
            exact h2 b hb
           .exact (hM b hb).2
          .obtain⟨_,o0,h1,h2⟩:=hσ m o hm
           have hb:=h.blk m o0 h1
           rcases h2 with rfl | ⟨cs,cs',rfl,rfl,h3,h4,h5⟩
           .exact BR.step hI (Z5 β _ e) (fun _ _=>rfl) (fun q _=>hL q) hb
           .obtain⟨b,vs,f1,f2,f3,f4,f5⟩:=hb
            exact⟨b,vs,(Z5 β _ e).trans f1,by rw [h3];exact f2,f3,hT1 cs cs' h5 vs f4,h4⟩,
         tm:=fun i q hq=>by
          obtain⟨p,hp,hv⟩:=hT2 i q hq
          exact⟨(h.tm i p hp).1,hv _ (h.tm i p hp).2⟩ }
theorem Zm7(m:Nat):Nat.beq m m=true:=(Ze m m).2 rfl
mutual
def Zfx(g:Nat)(r l:Nat)(es:List (List Za)):PV->List Prop×PV
 | .t x=>([],.t x)
 | .nils=>([],.nils)
 | .osl m n=>bif Nat.beq g 0&&Nat.beq m r then ([es.length=n],.own l (.rg (.sl es))) else ([],.osl m n)
 | .bptr m o=>([],.bptr m o)
 | .rptr m n i o=>([],.rptr m n i o)
 | .vptr cs=>([],.vptr cs)
 | .agg cs=>((Zay g r l es cs).1,.agg (Zay g r l es cs).2)
 | .tup cs=>((Zay g r l es cs).1,.tup (Zay g r l es cs).2)
 | .fn f cs=>((Zay g r l es cs).1,.fn f (Zay g r l es cs).2)
 | .own m (.xw n)=>bif Nat.beq g 1&&Nat.beq m r then ([es.length=n],.own l (.rg (.sl es))) else ([],.own m (.xw n))
 | .own m (.rg x)=>bif Nat.beq g 2&&Nat.beq m r then ([],.own l (.rg x)) else bif Nat.beq g 3&&Nat.beq m r then ([],.t x) else ([],.own m (.rg x))
 | .own m d=>([],.own m d)
def Zay(g:Nat)(r l:Nat)(es:List (List Za)):List PV->List Prop×List PV
 | []=>([],[])
 | c::cs=>((Zfx g r l es c).1++(Zay g r l es cs).1,(Zfx g r l es c).2::(Zay g r l es cs).2)
end
def Zb0(g:Nat)(r l:Nat)(es:List (List Za)):List (Nat×PV)->List Prop×List (Nat×PV)
 | []=>([],[])
 | (i,p)::q=>((Zfx g r l es p).1++(Zb0 g r l es q).1,(i,(Zfx g r l es p).2)::(Zb0 g r l es q).2)
def Zhp(g:Nat)(r l:Nat)(es:List (List Za)):List (Nat×Blk)->Option (List Prop×List (Nat×Blk))
 | []=>some ([],[])
 | (m,b)::q=>
  match Zhp g r l es q with
  | none=>none
  | some (ps,q')=>
   bif Nat.beq m r then some (ps,q') else
   match b with
   | .box cs=>bif (Zay g r l es cs).2.all PV.one then some ((Zay g r l es cs).1++ps,(m,.box (Zay g r l es cs).2)::q') else none
   | b=>bif b.has r then none else some (ps,(m,b)::q')
section
variable {c c':Ctx} {g:Nat} {r l:Nat} {es:List (List Za)}
mutual
theorem Zjr(hI:∀ b,c.I b->c'.I b/\c'.w.heap[b]?=c.w.heap[b]?)(hL:∀ m,Zm c c' m)
 (hrow:g=0->∀ v,VR c (.osl r es.length) v->VR c' (.own l (.rg (.sl es))) v) (hxr:g=1->∀ v,VR c (.own r (.xw es.length)) v->VR c' (.own l (.rg (.sl es))) v)
 (hreg:(g=2->∀ x v,VR c (.own r (.rg x)) v->VR c' (.own l (.rg x)) v)/\(g=3->∀ x v,VR c (.own r (.rg x)) v->VR c' (.t x) v)):∀ (p:PV) (v:Value),Zo (Zfx g r l es p).1->VR c p v->VR c' (Zfx g r l es p).2 v
 | .t x,v,_,h=>VR.step hI (.t x) v (fun m _=>hL m) h
 | .nils,v,_,h=>h
 | .osl m n,v,hc,h=>by
  simp only [Zfx] at hc⊢
  cases hb:Nat.beq g 0&&Nat.beq m r with
  | true=>
   simp only [Bool.and_eq_true,Ze] at hb
   obtain⟨rfl,rfl⟩:=hb
   simp only [Zm7,Bool.true_and,cond_true] at hc⊢
   exact hrow rfl v (hc.1▸h)
  | false=>simp only [cond_false];exact VR.step hI (.osl m n) v (fun m _=>hL m) h
 | .bptr m o,v,_,h=>VR.step hI (.bptr m o) v (fun m _=>hL m) h
 | .rptr m n i o,v,_,h=>VR.step hI (.rptr m n i o) v (fun m _=>hL m) h
 | .vptr cs,v,_,h=>VR.step hI (.vptr cs) v (fun m _=>hL m) h
 | .agg cs,v,hc,h=>by
  simp only [Zfx,VR] at hc h⊢
  obtain⟨vs,hv,hs⟩:=h
  exact⟨vs,hv,Zea hI hL hrow hxr hreg cs vs hc hs⟩
 | .tup cs,v,hc,h=>by
  simp only [Zfx,VR] at hc h⊢
  obtain⟨vs,hv,hs⟩:=h
  exact⟨vs,hv,Zea hI hL hrow hxr hreg cs vs hc hs⟩
 | .fn f cs,v,hc,h=>by
  simp only [Zfx,VR] at hc h⊢
  obtain⟨vs,hv,hs⟩:=h
  exact⟨vs,hv,Zea hI hL hrow hxr hreg cs vs hc hs⟩
 | .own m d,v,hc,h=>by
  have same:VR c' (.own m d) v:=VR.step hI (.own m d) v (fun m _=>hL m) h
  cases d with
  | xw n=>
   simp only [Zfx] at hc⊢
   cases hb:Nat.beq g 1&&Nat.beq m r with
   | true=>
    simp only [Bool.and_eq_true,Ze] at hb
    obtain⟨rfl,rfl⟩:=hb
    simp only [Zm7,Bool.true_and,cond_true] at hc⊢
    exact hxr rfl v (hc.1▸h)
   | false=>simp only [cond_false];exact same
  | rg x=>
   simp only [Zfx] at hc⊢
   cases hb:Nat.beq g 2&&Nat.beq m r with
   | true=>
    simp only [Bool.and_eq_true,Ze] at hb
    obtain⟨rfl,rfl⟩:=hb
    simp only [Zm7,Bool.true_and,cond_true] at hc⊢
    exact hreg.1 rfl x v h
   | false=>
    simp only [cond_false]
    cases hb2:Nat.beq g 3&&Nat.beq m r with
    | true=>
     simp only [Bool.and_eq_true,Ze] at hb2
     obtain⟨rfl,rfl⟩:=hb2
     simp only [cond_true]
     exact hreg.2 rfl x v h
    | false=>simp only [cond_false];exact same
  | _=>exact same
theorem Zea(hI:∀ b,c.I b->c'.I b/\c'.w.heap[b]?=c.w.heap[b]?)(hL:∀ m,Zm c c' m)
 (hrow:g=0->∀ v,VR c (.osl r es.length) v->VR c' (.own l (.rg (.sl es))) v) (hxr:g=1->∀ v,VR c (.own r (.xw es.length)) v->VR c' (.own l (.rg (.sl es))) v)
 (hreg:(g=2->∀ x v,VR c (.own r (.rg x)) v->VR c' (.own l (.rg x)) v)/\(g=3->∀ x v,VR c (.own r (.rg x)) v->VR c' (.t x) v)):∀ (cs:List PV) (vs:List Value),Zo (Zay g r l es cs).1->VRs c cs vs->VRs c' (Zay g r l es cs).2 vs
 | [],vs,_,h=>h
 | p::cs,vs,hc,h=>by
  simp only [Zay,VRs] at hc h⊢
  obtain⟨h1,h2⟩:=Zf.1 hc
  obtain⟨v,rest,rfl,hv,hr⟩:=h
  exact⟨v,rest,rfl,Zjr hI hL hrow hxr hreg p v h1 hv,Zea hI hL hrow hxr hreg cs rest h2 hr⟩
end
theorem Zp7:∀ (cs:List PV),(Zay g r l es cs).2.length=cs.length
 | []=>rfl
 | p::cs=>by simp only [Zay,List.length_cons,Zp7 cs]
theorem Zg9:∀ (tm:List (Nat×PV)) (i:Nat) (q:PV),Zo (Zb0 g r l es tm).1->get (Zb0 g r l es tm).2 i=some q->∃ p,get tm i=some p/\q=(Zfx g r l es p).2/\Zo (Zfx g r l es p).1
 | [],i,q,_,h=>by cases h
 | (j,p)::tm,i,q,hc,h=>by
  simp only [Zb0] at hc h
  obtain⟨h1,h2⟩:=Zf.1 hc
  simp only [PW.get] at h⊢
  cases hb:Nat.beq j i with
  | true=>simp only [hb,cond_true,Option.some.injEq] at h⊢;exact⟨p,rfl,h.symm,h1⟩
  | false=>simp only [hb,cond_false] at h⊢;exact Zg9 tm i q h2 h
theorem Zgn:∀ {σ σ':List (Nat×Blk)} {ps:List Prop},Zhp g r l es σ=some (ps,σ')->Zo ps ->
 (∀ m o',get σ' m=some o'->m≠r/\∃ o,get σ m=some o/\((o'=o/\∀ cs,o ≠ .box cs)\/∃ cs cs',o = .box cs/\o' = .box cs'/\cs'.length=cs.length/\cs'.all PV.one=true/\(cs'=(Zay g r l es cs).2/\Zo (Zay g r l es cs).1))) /\
 (∀ m o,m≠r->get σ m=some o->(∀ cs,o ≠ .box cs)->get σ' m=some o)
 | [],σ',ps,h,_=>by
  simp only [Zhp,Option.some.injEq,Prod.mk.injEq] at h
  obtain⟨_,rfl⟩:=h
  exact⟨fun m o' h=>(by cases h),fun m o _ h _=>(by cases h)⟩
 | (j,b)::q,σ',ps,h,hc=>by
  simp only [Zhp] at h
  split at h
  .cases h
  .rename_i ps' q' hq
   cases hb:Nat.beq j r with
   | true=>
    simp only [hb,cond_true,Option.some.injEq,Prod.mk.injEq] at h
    obtain⟨rfl,rfl⟩:=h
    have hjr:j=r:=(Ze _ _).1 hb
    obtain⟨g1,g2⟩:=Zgn hq hc
    refine⟨fun m o' hm=>?_,fun m o hm hg hbx=>g2 m o hm (by simp only [PW.get] at hg;rwa [Zai (by rw [hjr];exact Ne.symm hm),cond_false] at hg) hbx⟩
    obtain⟨h1,o,h2,h3⟩:=g1 m o' hm
    exact⟨h1,o,by simp only [PW.get];rw [Zai (by rw [hjr];exact Ne.symm h1),cond_false];exact h2,h3⟩
   | false=>
    simp only [hb,cond_false] at h
    have hjr:j≠r:=fun e=>by subst e;simp at hb
    have key:∀ b',σ'=(j,b')::q'->Zo ps'->((b'=b/\∀ cs,b ≠ .box cs)\/∃ cs cs',b = .box cs/\b' = .box cs'/\cs'.length=cs.length/\cs'.all PV.one=true/\(cs'=(Zay g r l es cs).2/\Zo (Zay g r l es cs).1)) ->
     (∀ m o',get σ' m=some o'->m≠r/\∃ o,get ((j,b)::q) m=some o/\((o'=o/\∀ cs,o ≠ .box cs)\/∃ cs cs',o = .box cs/\o' = .box cs'/\cs'.length=cs.length/\cs'.all PV.one=true/\(cs'=(Zay g r l es cs).2/\Zo (Zay g r l es cs).1))) /\
     (∀ m o,m≠r->get ((j,b)::q) m=some o->(∀ cs,o ≠ .box cs)->get σ' m=some o):=by
     intro b' hσ hcq hbb
     subst hσ
     obtain⟨g1,g2⟩:=Zgn hq hcq
     refine⟨fun m o' hm=>?_,fun m o hm hg hbx=>?_⟩
     .simp only [PW.get] at hm⊢
      cases hm2:Nat.beq j m with
      | true=>
       simp only [hm2,cond_true,Option.some.injEq] at hm⊢
       subst hm
       exact⟨fun e=>hjr (((Ze _ _).1 hm2).trans e),b,rfl,hbb⟩
      | false=>simp only [hm2,cond_false] at hm⊢;exact g1 m o' hm
     .simp only [PW.get] at hg⊢
      cases hm2:Nat.beq j m with
      | true=>
       simp only [hm2,cond_true,Option.some.injEq] at hg⊢
       subst hg
       rcases hbb with ⟨hbb,_⟩ | ⟨cs,_,hbb,_⟩
       .exact hbb
       .exact absurd hbb (hbx cs)
      | false=>simp only [hm2,cond_false] at hg⊢;exact g2 m o hm hg hbx
    split at h
    .rename_i cs
     cases ho:(Zay g r l es cs).2.all PV.one with
     | false=>simp [ho] at h
     | true=>
      simp only [ho,cond_true,Option.some.injEq,Prod.mk.injEq] at h
      obtain⟨rfl,rfl⟩:=h
      obtain⟨c1,c2⟩:=Zf.1 hc
      exact key _ rfl c2 (.inr ⟨cs,_,rfl,rfl,Zp7 cs,ho,rfl,c1⟩)
    .rename_i hbx
     cases hh:b.has r with
     | true=>simp [hh] at h
     | false=>
      simp only [hh,cond_false,Option.some.injEq,Prod.mk.injEq] at h
      obtain⟨rfl,rfl⟩:=h
      exact key b rfl hc (.inl ⟨rfl,fun cs e=>hbx cs e⟩)
end
def Ze6:Option Nat->Nat
 | some b=>2 ^ b
 | none=>0
theorem Zle{o:Option Nat}{b:Nat}(h:(Ze6 o).testBit b=true):o=some b:=by
 cases o with
 | none=>simp [Ze6] at h
 | some b0=>simp only [Ze6,Nat.testBit_two_pow,decide_eq_true_eq] at h;rw [h]
theorem Zkc(b:Nat):(Ze6 (some b)).testBit b=true:=by simp [Ze6,Nat.testBit_two_pow]
section
variable {n l r k:Nat} {tm:List (Nat×PV)} {σ σ':List (Nat×Blk)} {es:List (List Za)} {ps:List Prop}
theorem Wk.absRow(hl0:1000<=l)(hlr:l≠r)(hl:get σ l=some (.reg false))(hr:get σ r=some (.row k es))(hsc:∀ el,el∈es->∀ x,x∈el->Za.scal x=true)
 (hσ:Zhp 0 r l es σ=some (ps,σ')) (hc:Zo ps) (hct:Zo (Zb0 0 r l es tm).1):Wk ⟨n,tm,σ⟩ ⟨n,(Zb0 0 r l es tm).2,σ'⟩:=by
 rintro G a w ⟨β,h⟩
 obtain⟨N,hN,_⟩:=h.blk l _ hl
 obtain⟨hσ1,hσ2⟩:=Zgn hσ hc
 have hl':get σ' l=some (.reg false):=hσ2 l _ hlr hl (fun cs e=>by cases e)
 obtain⟨_,hkl,hb⟩:=h.blk r _ hr
 refine⟨_,And.left <| Zi4 h hl0 hl hN hr hlr (M:=Ze6 (β r)) (fun b hb1=>?_) (Tn:=fun cs cs'=>cs'=(Zay 0 r l es cs).2/\Zo (Zay 0 r l es cs).1) (fun m o' ho=>?_) (fun hI hL=>?_)⟩
 .have:=Zle hb1
  refine⟨.inl this,?_⟩
  rcases hb with ⟨h1,_⟩ | ⟨b',m,h1,h2,_⟩
  .exact absurd (this.symm.trans h1) (by simp)
  .have:b'=b:=by have:=h1.symm.trans this;simpa using this
   subst this;exact⟨m,h2⟩
 .obtain⟨h1,o,h2,h3⟩:=hσ1 m o' ho
  exact⟨h1,o,h2,h3.imp (fun h=>h.1) id⟩
 .have hrow:∀ v,VR (ctx G β w σ) (.osl r es.length) v->VR (ctx G (Zy β l (some (N ||| Ze6 (β r)))) w σ') (.own l (.rg (.sl es))) v:=fun v hv=>by
   simp only [VR] at hv⊢
   obtain⟨a0,cap,hv1,hc1,hc2,h3⟩:=(hv.1 k es hr).2 rfl
   refine⟨fun h' hg'=>?_,by rw [hv1];rfl⟩
   have:some (Blk.reg h')=some (.reg false):=Eq.trans (Eq.symm hg') hl'
   cases this
   refine⟨_,Zk _ _ _,?_⟩
   show Zg _ w (.sl es) v
   simp only [Zg]
   refine⟨a0,cap,hv1,hc1,hc2,?_⟩
   rcases hb with ⟨_,he⟩ | ⟨b,sz,hb,_,_,hel⟩
   .exact .inl he
   .rcases h3 with ⟨_,hb'⟩ | ⟨b',sz',ha,hb',_,_⟩
    .exact absurd (hb.symm.trans hb') (by simp)
    .have:b'=b:=by have:=hb'.symm.trans hb;simpa using this
     subst this
     refine .inr ⟨b',0,ha,?_,Zc.scal es 0 hsc hel⟩
     rw [show β r=some b' from hb',Nat.testBit_or,Zkc,Bool.or_true]
  have hV:=Zjr (g:=0) (r:=r) (l:=l) (es:=es) hI hL (fun _=>hrow) (fun e=>by cases e) ⟨fun e=>(by cases e),fun e=>(by cases e)⟩
  have hVs:=Zea (g:=0) (r:=r) (l:=l) (es:=es) hI hL (fun _=>hrow) (fun e=>by cases e) ⟨fun e=>(by cases e),fun e=>(by cases e)⟩
  refine⟨fun cs cs' hcs vs hv=>?_,fun i q hq=>?_⟩
  .obtain⟨rfl,h1⟩:=hcs;exact hVs cs vs h1 hv
  .obtain⟨p,hp,rfl,h1⟩:=Zg9 tm i q hct hq
   exact⟨p,hp,fun v hv=>hV p v h1 hv⟩
theorem Ztv{c:Ctx}{N:Nat}{l:Nat}(hl:get c.σ l=some (.reg false))(hN:c.β l=some N){t:Za}{v:Value}(h:VR c (rgP l t) v):Zg (fun b=>N.testBit b=true) c.w t v:=by
 cases t with
 | sl es=>
  simp only [rgP,VR] at h
  obtain⟨n',h1,h2⟩:=h.1 false hl
  rw [hN] at h1;cases h1
  exact h2
 | bool b=>simpa only [rgP,VR,Zg] using h
 | int k m=>simpa only [rgP,VR,Zg] using h
 | str s=>simpa only [rgP,VR,Zg] using h
 | con d=>simpa only [rgP,VR,Zg] using h
theorem Zp8{c:Ctx}{N:Nat}{l b:Nat}(hl:get c.σ l=some (.reg false))(hN:c.β l=some N):∀ {ts:List Za} {vs:List Value} {off:Nat},VRs c (ts.map (rgP l)) vs->(∀ j v,vs[j]?=some v->c.w.cell? ⟨b,off+j,none⟩=some v)->Zh (fun b=>N.testBit b=true) c.w b ts off
 | [],_,_,_,_=>trivial
 | t::ts,vs,off,h,hc=>by
  simp only [List.map_cons,VRs] at h
  obtain⟨v,rest,rfl,hv,hr⟩:=h
  refine⟨⟨v,by simpa using hc 0 v rfl,Ztv hl hN hv⟩,Zp8 hl hN hr (fun j u hj=>?_)⟩
  rw [Nat.add_assoc,Nat.add_comm 1 j]
  exact hc (j+1) u (by simpa using hj)
theorem Zgo{r:Nat}{es:List (List Za)}:xPs es.length r es=es.flatten.map (rgP r):=by
 unfold xPs;rw [List.take_length,List.drop_length];simp
theorem Wk.absX{i0:Nat}(hl0:1000<=l)(hlr:l≠r)(hl:get σ l=some (.reg false))(hr:get σ r=some (.xrow k i0 l es))(hi0:es.length<=i0)
 (hσ:Zhp 1 r l es σ=some (ps,σ')) (hc:Zo ps) (hct:Zo (Zb0 1 r l es tm).1):Wk ⟨n,tm,σ⟩ ⟨n,(Zb0 1 r l es tm).2,σ'⟩:=by
 rintro G a w ⟨β,h⟩
 obtain rfl:i0=es.length:=Nat.le_antisymm (h.blk r _ hr).2.2.1 hi0
 obtain⟨N,hN,_⟩:=h.blk l _ hl
 obtain⟨hσ1,hσ2⟩:=Zgn hσ hc
 have hl':get σ' l=some (.reg false):=hσ2 l _ hlr hl (fun cs e=>by cases e)
 obtain⟨_,hkl,_,hb⟩:=h.blk r _ hr
 refine⟨_,And.left <| Zi4 h hl0 hl hN hr hlr (M:=Ze6 (β r)) (fun b hb1=>?_) (Tn:=fun cs cs'=>cs'=(Zay 1 r l es cs).2/\Zo (Zay 1 r l es cs).1) (fun m o' ho=>?_) (fun hI hL=>?_)⟩
 .have:=Zle hb1
  refine⟨.inl this,?_⟩
  rcases hb with ⟨h1,_⟩ | ⟨b',m,_,h1,h2,_⟩
  .exact absurd (this.symm.trans h1) (by simp)
  .have:b'=b:=by have:=h1.symm.trans this;simpa using this
   subst this;exact⟨m,h2⟩
 .obtain⟨h1,o,h2,h3⟩:=hσ1 m o' ho
  exact⟨h1,o,h2,h3.imp (fun h=>h.1) id⟩
 .have hrow:∀ v,VR (ctx G β w σ) (.own r (.xw es.length)) v->VR (ctx G (Zy β l (some (N ||| Ze6 (β r)))) w σ') (.own l (.rg (.sl es))) v:=fun v hv=>by
   simp only [VR] at hv⊢
   obtain⟨a0,cap,hv1,hc1,hc2,h3⟩:=(hv.1 k _ l es hr).2 rfl
   refine⟨fun h' hg'=>?_,by rw [hv1];rfl⟩
   have:some (Blk.reg h')=some (.reg false):=Eq.trans (Eq.symm hg') hl'
   cases this
   refine⟨_,Zk _ _ _,?_⟩
   show Zg _ w (.sl es) v
   simp only [Zg]
   refine⟨a0,cap,hv1,hc1,hc2,?_⟩
   rcases hb with ⟨_,he⟩ | ⟨b,sz,vs,hb,_,_,hcs,hvs⟩
   .exact .inl he
   .rcases h3 with ⟨_,hb'⟩ | ⟨b',sz',ha,hb',_,_⟩
    .exact absurd (hb.symm.trans hb') (by simp)
    .have:b'=b:=by have:=hb'.symm.trans hb;simpa using this
     subst this
     rw [Zgo] at hvs
     have h5:=Zp8 (c:=ctx G β w σ) (b:=b') (off:=0) hl hN hvs (fun j v hj=>by rw [Nat.zero_add];exact hcs j v hj)
     refine .inr ⟨b',0,ha,by rw [show β r=some b' from hb',Nat.testBit_or,Zkc,Bool.or_true],Zc.mono (w:=w) (w':=w) (fun b hb=>⟨by rw [Nat.testBit_or,hb];rfl,rfl⟩) rfl _ _ (Zc.flat.2 h5)⟩
  have hV:=Zjr (g:=1) (r:=r) (l:=l) (es:=es) hI hL (fun e=>by cases e) (fun _=>hrow) ⟨fun e=>(by cases e),fun e=>(by cases e)⟩
  have hVs:=Zea (g:=1) (r:=r) (l:=l) (es:=es) hI hL (fun e=>by cases e) (fun _=>hrow) ⟨fun e=>(by cases e),fun e=>(by cases e)⟩
  refine⟨fun cs cs' hcs vs hv=>?_,fun i q hq=>?_⟩
  .obtain⟨rfl,h1⟩:=hcs;exact hVs cs vs h1 hv
  .obtain⟨p,hp,rfl,h1⟩:=Zg9 tm i q hct hq
   exact⟨p,hp,fun v hv=>hV p v h1 hv⟩
theorem Wk.absG(hl0:1000<=l)(hlr:l≠r)(hl:get σ l=some (.reg false))(hr:get σ r=some (.reg false))
 (hσ:Zhp 2 r l [] σ=some (ps,σ')) (hc:Zo ps) (hct:Zo (Zb0 2 r l [] tm).1):Wk ⟨n,tm,σ⟩ ⟨n,(Zb0 2 r l [] tm).2,σ'⟩:=by
 rintro G a w ⟨β,h⟩
 obtain⟨N,hN,_⟩:=h.blk l _ hl
 obtain⟨M,hM,hrows⟩:=h.blk r _ hr
 obtain⟨hσ1,hσ2⟩:=Zgn hσ hc
 have hl':get σ' l=some (.reg false):=hσ2 l _ hlr hl (fun cs e=>by cases e)
 refine⟨_,And.left <| Zi4 h hl0 hl hN hr hlr (M:=M) (fun b hb1=>⟨.inr ⟨M,hM,hb1⟩,hrows b hb1⟩) (Tn:=fun cs cs'=>cs'=(Zay 2 r l [] cs).2/\Zo (Zay 2 r l [] cs).1) (fun m o' ho=>?_) (fun hI hL=>?_)⟩
 .obtain⟨h1,o,h2,h3⟩:=hσ1 m o' ho
  exact⟨h1,o,h2,h3.imp (fun h=>h.1) id⟩
 .have hrg:∀ x v,VR (ctx G β w σ) (.own r (.rg x)) v->VR (ctx G (Zy β l (some (N ||| M))) w σ') (.own l (.rg x)) v:=fun x v hv=>by
   simp only [VR] at hv⊢
   obtain⟨n',h1,h2⟩:=hv.1 false hr
   have:n'=M:=by have:=h1.symm.trans hM;simpa using this
   subst this
   refine⟨fun h' hg'=>?_,hv.2⟩
   have:some (Blk.reg h')=some (.reg false):=Eq.trans (Eq.symm hg') hl'
   cases this
   exact⟨_,Zk _ _ _,h2.mono (fun b hb=>⟨by rw [Nat.testBit_or,hb,Bool.or_true],ShB.same rfl⟩)⟩
  have hV:=Zjr (g:=2) (r:=r) (l:=l) (es:=[]) hI hL (fun e=>by cases e) (fun e=>by cases e) ⟨fun _=>hrg,fun e=>(by cases e)⟩
  have hVs:=Zea (g:=2) (r:=r) (l:=l) (es:=[]) hI hL (fun e=>by cases e) (fun e=>by cases e) ⟨fun _=>hrg,fun e=>(by cases e)⟩
  refine⟨fun cs cs' hcs vs hv=>?_,fun i q hq=>?_⟩
  .obtain⟨rfl,h1⟩:=hcs;exact hVs cs vs h1 hv
  .obtain⟨p,hp,rfl,h1⟩:=Zg9 tm i q hct hq
   exact⟨p,hp,fun v hv=>hV p v h1 hv⟩
end
section
variable {n r:Nat} {tm:List (Nat×PV)} {σ σ':List (Nat×Blk)} {ps:List Prop}
theorem Wk.dropG(hr:get σ r=some (.reg false))(hσ:Zhp 3 r 0 [] σ=some (ps,σ'))(hc:Zo ps)(hct:Zo (Zb0 3 r 0 [] tm).1):Wk ⟨n,tm,σ⟩ ⟨n,(Zb0 3 r 0 [] tm).2,σ'⟩:=by
 rintro G a w ⟨β,h⟩
 obtain⟨hσ1,_⟩:=Zgn hσ hc
 have hO:∀ m o' b,get σ' m=some o'->Zj β w m o' b->∃ o,get σ m=some o/\Zj β w m o b:=fun m o' b hm ho=>by
  obtain⟨_,o,h1,h2⟩:=hσ1 m o' hm
  rcases h2 with ⟨rfl,_⟩ | ⟨cs,cs',rfl,rfl,_⟩
  .exact⟨_,h1,ho⟩
  .exact⟨_,h1,.inl (Zj.flat (o := .box cs') trivial ho)⟩
 have hI:∀ b,(ctx G β w σ).I b->(ctx G β w σ').I b/\(ctx G β w σ').w.heap[b]?=(ctx G β w σ).w.heap[b]?:=fun b hb=>
  ⟨⟨hb.1,hb.2.1,fun m o hm ho=>by obtain⟨o2,h1,h2⟩:=hO m o b hm ho;exact hb.2.2 m o2 h1 h2⟩,rfl⟩
 have hF:∀ b,Zj β w r (.reg false) b->(ctx G β w σ').I b:=fun b hb=>by
  refine⟨(h.sep r _ b hr hb).1,?_,fun m o hm ho=>?_⟩
  .rcases (h.sep r _ b hr hb).2 with h1 | h1
   .exact .inl h1
   .exact .inr (.inr h1)
  .obtain⟨o2,h1,h2⟩:=hO m o b hm ho
   exact (hσ1 m o hm).1 (h.inj m r o2 _ b h1 hr h2 hb)
 have hL:∀ m,Zm (ctx G β w σ) (ctx G β w σ') m:=fun m=>Zm.told rfl rfl (fun o' ho'=>by
  obtain⟨_,o,h1,h2⟩:=hσ1 m o' ho'
  refine⟨o,h1,h2.imp (fun h=>h.1) ?_⟩
  rintro ⟨cs,cs',h3,h4,_⟩
  exact⟨cs,cs',h3,h4⟩)
 have hrg:∀ x v,VR (ctx G β w σ) (.own r (.rg x)) v->VR (ctx G β w σ') (.t x) v:=fun x v hv=>by
  simp only [VR] at hv⊢
  obtain⟨M,h1,h2⟩:=hv.1 false hr
  exact Zg.mono (w:=w) (w':=w) (fun b hb=>⟨hF b (.inr ⟨M,h1,hb⟩),rfl⟩) x v h2
 have hV:=Zjr (g:=3) (r:=r) (l:=0) (es:=[]) hI hL (fun e=>by cases e) (fun e=>by cases e) ⟨fun e=>(by cases e),fun _=>hrg⟩
 have hVs:=Zea (g:=3) (r:=r) (l:=0) (es:=[]) hI hL (fun e=>by cases e) (fun e=>by cases e) ⟨fun e=>(by cases e),fun _=>hrg⟩
 refine⟨β,?_⟩
 exact { defers := h.defers, sz := h.sz, base := h.base, os := h.os, tape := h.tape, output := h.output, old := h.old, A := h.A, gl := h.gl,
         inj:=fun m m' o o' b hm hm' hb hb'=>by
          obtain⟨o1,h1,h2⟩:=hO m o b hm hb
          obtain⟨o2,h3,h4⟩:=hO m' o' b hm' hb'
          exact h.inj m m' o1 o2 b h1 h3 h2 h4,
         sep:=fun m o b hm hb=>by obtain⟨o1,h1,h2⟩:=hO m o b hm hb;exact h.sep m o1 b h1 h2,
         fix:=fun m cs hm1 hm=>by
          obtain⟨_,o,h1,h2⟩:=hσ1 m _ hm
          rcases h2 with ⟨h2,_⟩ | ⟨cs0,_,h2,_⟩
          .subst h2;exact h.fix m cs hm1 h1
          .subst h2;exact h.fix m cs0 hm1 h1,
         row0:=h.row0.step (fun m _=>hL m),
         blk:=fun m o hm=>by
          obtain⟨_,o0,h1,h2⟩:=hσ1 m o hm
          have hb:=h.blk m o0 h1
          rcases h2 with ⟨rfl,_⟩ | ⟨cs,cs',rfl,rfl,h3,h4,h5,h6⟩
          .exact BR.step hI rfl (fun _ _=>rfl) (fun q _=>hL q) hb
          .obtain⟨b,vs,f1,f2,f3,f4,f5⟩:=hb
           subst h5
           exact⟨b,vs,f1,by rw [h3];exact f2,f3,hVs cs vs h6 f4,h4⟩,
         tm:=fun i q hq=>by
          obtain⟨p,hp,rfl,h1⟩:=Zg9 tm i q hct hq
          exact⟨(h.tm i p hp).1,hV p _ h1 (h.tm i p hp).2⟩ }
end
theorem Wk.newReg{n l:Nat}{tm:List (Nat×PV)}{σ:List (Nat×Blk)}(hl:1000<=l)(hf1:∀ i q,get tm i=some q->q.has l=false)(hf2:∀ m y,get σ m=some y->m≠l/\y.has l=false):Wk ⟨n,tm,σ⟩ ⟨n,tm,(l,.reg false)::σ⟩:=by
 rintro G a w ⟨β,h⟩
 exact⟨_,Zhz h w (some 0) l (.reg false) [] (Nat.le_refl _) rfl rfl rfl ⟨fun cs e=>(by cases e),.inl hl⟩ (fun _ _ _=>rfl)
  (fun c hc=>by
   rcases hc with ⟨_,hr⟩ | ⟨b0,h1,h2⟩
   .cases hr
   .rw [Zk] at h1;cases h1
    have h2:(0:Nat).testBit c=true:=h2
    simp at h2)
  (fun hI hL=>⟨fun i p v hp hv=>VR.step (c:=ctx G β w σ) (c':=ctx G (Zy β l (some 0)) w ((l,.reg false)::Zw [] σ)) (fun b hb=>hI b hb) p v (fun m hm=>hL m (fun e=>by subst e;rw [hf1 i p hp] at hm;cases hm)) hv,
   fun q o hq ho hh hb=>BR.step (c:=ctx G β w σ) (c':=ctx G (Zy β l (some 0)) w ((l,.reg false)::Zw [] σ)) (fun b hb=>hI b hb) (Z5 β _ hq) hh (fun m hm=>hL m (fun e=>by subst e;rw [(hf2 q o ho).2] at hm;cases hm)) hb⟩)
  (fun _=>⟨0,Zk _ _ _,fun b hb=>by simp at hb⟩)⟩
mutual
theorem Zg.toS{I:Nat->Prop}{w:World}:∀ (t:Za) (v:Value),Zg I w t v->Zc1 I w t v
 | .bool b,v,h=>⟨b,h⟩
 | .int k n,v,h=>⟨n,h⟩
 | .str s,v,h=>⟨s,h⟩
 | .con c,v,h=>h
 | .sl es,v,h=>by
  simp only [Zg,Zc1] at h⊢
  obtain⟨a,cap,h1,h2,h3,h4⟩:=h
  refine⟨a,cap,h1,h2,h3,h4.imp id ?_⟩
  rintro ⟨b,off,h5,h6,h7⟩
  exact⟨b,off,h5,h6,Zc.toS b es off h7⟩
theorem Zc.toS{I:Nat->Prop}{w:World}(b:Nat):∀ (es:List (List Za)) (off:Nat),Zc I w b es off->Zcj I w b es off
 | [],_,_=>trivial
 | e::es,off,h=>by simp only [Zc,Zcj] at h⊢;exact⟨Zh.toS b e off h.1,Zc.toS b es _ h.2⟩
theorem Zh.toS{I:Nat->Prop}{w:World}(b:Nat):∀ (ts:List Za) (off:Nat),Zh I w b ts off->Za9 I w b ts off
 | [],_,_=>trivial
 | t::ts,off,h=>by
  simp only [Zh,Za9] at h⊢
  obtain⟨⟨c,hc,ht⟩,hr⟩:=h
  exact⟨⟨c,hc,Zg.toS t c ht⟩,Zh.toS b ts _ hr⟩
end
section
variable {c c':Ctx} {l:Nat}
theorem VR.toH(hI:∀ b,c.I b->c'.I b/\c'.w.heap[b]?=c.w.heap[b]?)(hL:∀ m,m≠l->Zm c c' m)(hw:c'.w=c.w)(hβ:c'.β l=c.β l)(hg:get c.σ l=some (.reg false))(hg':get c'.σ l=some (.reg true)):Zm c c' l\/(∀ d v,ODR c l v d->ODR c' l v d):=by
 refine .inr fun d v h=>?_
 have bad:∀ {x:Blk},get c'.σ l=some x->x = .reg true:=fun hx=>Option.some.inj (Eq.trans (Eq.symm hx) hg')
 cases d with
 | rg x=>
  intro h' hx
  cases bad hx
  obtain⟨n,hn,hr⟩:=h false hg
  refine⟨n,hβ.trans hn,?_⟩
  rw [hw]
  exact Zg.toS x v hr
 | rp cs=>
  intro h' hx
  cases bad hx
  obtain⟨n,b,off,hn,hv,hb,hr⟩:=h false hg
  refine⟨n,b,off,hβ.trans hn,hv,hb,?_⟩
  rw [hw]
  exact Zh.toS b cs off hr
 | tail n i=>exact fun k es hx=>by cases bad hx
 | msl n=>exact fun k q es hx=>by cases bad hx
 | mpt n j off=>exact fun k q es hx=>by cases bad hx
 | mrow n j=>exact⟨h.1,fun k q es hx=>by cases bad hx⟩
 | mel n j i=>exact⟨h.1,fun k q es hx=>by cases bad hx⟩
 | map=>exact fun ag es hx=>by cases bad hx
 | pw n=>exact fun k i es cs hx=>by cases bad hx
 | pp n off=>exact fun k i es cs hx=>by cases bad hx
 | xw n=>exact fun k i r es hx=>by cases bad hx
 | xp n j off=>exact fun k i r es hx=>by cases bad hx
mutual
theorem VR.turn(hI:∀ b,c.I b->c'.I b/\c'.w.heap[b]?=c.w.heap[b]?)(hL:∀ m,m≠l->Zm c c' m)(hg':get c'.σ l=some (.reg true))(hD:∀ d v,ODR c l v d->ODR c' l v d):∀ (p:PV) (v:Value),VR c p v->VR c' p v
 | .t x,v,h=>VR.step hI (.t x) v (fun m hm=>by simp [PV.has] at hm) h
 | .nils,v,h=>h
 | .osl m n,v,h=>by
  by_cases e:m=l
  .subst e
   simp only [VR] at h⊢
   exact⟨fun k es hx=>(by rw [hg'] at hx;cases hx),h.2⟩
  .exact VR.step hI (.osl m n) v (fun q hq=>hL q (by rw [<- (Ze _ _).1 hq];exact e)) h
 | .bptr m o,v,h=>by
  by_cases e:m=l
  .subst e
   simp only [VR] at h⊢
   exact⟨fun cs hx=>(by rw [hg'] at hx;cases hx),h.2⟩
  .exact VR.step hI (.bptr m o) v (fun q hq=>hL q (by rw [<- (Ze _ _).1 hq];exact e)) h
 | .rptr m n i o,v,h=>by
  by_cases e:m=l
  .subst e
   simp only [VR] at h⊢
   exact⟨fun k es hx=>(by rw [hg'] at hx;cases hx),h.2⟩
  .exact VR.step hI (.rptr m n i o) v (fun q hq=>hL q (by rw [<- (Ze _ _).1 hq];exact e)) h
 | .vptr cs,v,h=>VR.step hI (.vptr cs) v (fun m hm=>by simp [PV.has] at hm) h
 | .agg cs,v,h=>by
  simp only [VR] at h⊢
  obtain⟨vs,hv,hs⟩:=h
  exact⟨vs,hv,VRs.turn hI hL hg' hD cs vs hs⟩
 | .tup cs,v,h=>by
  simp only [VR] at h⊢
  obtain⟨vs,hv,hs⟩:=h
  exact⟨vs,hv,VRs.turn hI hL hg' hD cs vs hs⟩
 | .fn f cs,v,h=>by
  simp only [VR] at h⊢
  obtain⟨vs,hv,hs⟩:=h
  exact⟨vs,hv,VRs.turn hI hL hg' hD cs vs hs⟩
 | .own m d,v,h=>by
  by_cases e:m=l
  .subst e
   simp only [VR] at h⊢
   exact⟨hD d v h.1,h.2⟩
  .exact VR.step hI (.own m d) v (fun q hq=>hL q (by rw [<- (Ze _ _).1 hq];exact e)) h
theorem VRs.turn(hI:∀ b,c.I b->c'.I b/\c'.w.heap[b]?=c.w.heap[b]?)(hL:∀ m,m≠l->Zm c c' m)(hg':get c'.σ l=some (.reg true))(hD:∀ d v,ODR c l v d->ODR c' l v d):∀ (ps:List PV) (vs:List Value),VRs c ps vs->VRs c' ps vs
 | [],vs,h=>h
 | p::ps,vs,h=>by
  simp only [VRs] at h⊢
  obtain⟨v,rest,rfl,hv,hr⟩:=h
  exact⟨v,rest,rfl,VR.turn hI hL hg' hD p v hv,VRs.turn hI hL hg' hD ps rest hr⟩
end
end
def Zpd(l:Nat):List (Nat×Blk)->Option (List (Nat×Blk))
 | []=>some []
 | (m,b)::q=>
  match Zpd l q with
  | none=>none
  | some q'=>
   bif Nat.beq m l then some ((m,.reg true)::q') else
   match b with
   | .box cs=>bif cs.all PV.one then some ((m,.box cs)::q') else none
   | b=>bif b.has l then none else some ((m,b)::q')
theorem Zr2{l:Nat}:∀ {σ σ':List (Nat×Blk)},Zpd l σ=some σ' ->
 (∀ m o',m≠l->get σ' m=some o'->∃ o,get σ m=some o/\((o'=o/\o.has l=false)\/∃ cs cs',o = .box cs/\o' = .box cs'/\cs'.length=cs.length/\cs'.all PV.one=true/\cs'=cs))/\((∃ o,get σ l=some o)->get σ' l=some (.reg true))
 | [],σ',h=>by
  simp only [Zpd,Option.some.injEq] at h
  subst h
  exact⟨fun m o' _ h=>(by cases h),fun⟨o,h⟩=>(by cases h)⟩
 | (j,b)::q,σ',h=>by
  simp only [Zpd] at h
  split at h
  .cases h
  .rename_i q' hq
   obtain⟨g1,g2⟩:=Zr2 hq
   cases hb:Nat.beq j l with
   | true=>
    simp only [hb,cond_true,Option.some.injEq] at h
    subst h
    have hjl:j=l:=(Ze _ _).1 hb
    subst hjl
    refine⟨fun m o' hm ho=>?_,fun _=>by simp [PW.get]⟩
    simp only [PW.get,Zai (Ne.symm hm),cond_false] at ho⊢
    exact g1 m o' hm ho
   | false=>
    simp only [hb,cond_false] at h
    have hjl:j≠l:=fun e=>by subst e;simp at hb
    have key:∀ b',σ'=(j,b')::q'->((b'=b/\b.has l=false)\/∃ cs cs',b = .box cs/\b' = .box cs'/\cs'.length=cs.length/\cs'.all PV.one=true/\cs'=cs) ->
     (∀ m o',m≠l->get σ' m=some o'->∃ o,get ((j,b)::q) m=some o/\((o'=o/\o.has l=false)\/∃ cs cs',o = .box cs/\o' = .box cs'/\cs'.length=cs.length/\cs'.all PV.one=true/\cs'=cs))/\((∃ o,get ((j,b)::q) l=some o)->get σ' l=some (.reg true)):=by
     intro b' hσ hbb
     subst hσ
     refine⟨fun m o' hm ho=>?_,fun ho=>?_⟩
     .simp only [PW.get] at ho⊢
      cases hm2:Nat.beq j m with
      | true=>simp only [hm2,cond_true,Option.some.injEq] at ho⊢;subst ho;exact⟨b,rfl,hbb⟩
      | false=>simp only [hm2,cond_false] at ho⊢;exact g1 m o' hm ho
     .simp only [PW.get,Zai hjl,cond_false] at ho⊢
      exact g2 ho
    split at h
    .rename_i cs
     cases ho:cs.all PV.one with
     | false=>simp [ho] at h
     | true=>
      simp only [ho,cond_true,Option.some.injEq] at h
      exact key _ h.symm (.inr ⟨cs,cs,rfl,rfl,rfl,ho,rfl⟩)
    .cases hh:b.has l with
     | true=>simp [hh] at h
     | false=>
      simp only [hh,cond_false,Option.some.injEq] at h
      exact key b h.symm (.inl ⟨rfl,hh⟩)
theorem Wk.toH{n l:Nat}{tm:List (Nat×PV)}{σ σ':List (Nat×Blk)}(hl:1000<=l)(hg:get σ l=some (.reg false))(hσ:Zpd l σ=some σ'):Wk ⟨n,tm,σ⟩ ⟨n,tm,σ'⟩:=by
 rintro G a w ⟨β,h⟩
 obtain⟨g1,g2⟩:=Zr2 hσ
 have hg':=g2 ⟨_,hg⟩
 have hD:(∀ b,(ctx G β w σ).I b->(ctx G β w σ').I b/\(ctx G β w σ').w.heap[b]?=(ctx G β w σ).w.heap[b]?)->(∀ m,m≠l->Zm (ctx G β w σ) (ctx G β w σ') m)->∀ d v,ODR (ctx G β w σ) l v d->ODR (ctx G β w σ') l v d:=fun hI hL d v hv=>by
  rcases VR.toH (c:=ctx G β w σ) (c':=ctx G β w σ') hI hL rfl rfl hg hg' with h1 | h1
  .exact hv.step h1
  .exact h1 d v hv
 refine⟨β,Ztu h hl hg hg' (fun b hb=>?_) (Tn:=fun cs cs'=>cs'=cs) g1 (fun hI hL cs cs' e vs hv=>by subst e;exact VRs.turn hI hL hg' (hD hI hL) _ vs hv) (fun hI hL hb=>?_) (fun hI hL i q hq=>⟨q,hq,fun v hv=>VR.turn hI hL hg' (hD hI hL) q v hv⟩)⟩
 .rcases hb with ⟨_,hr⟩ | ⟨m,h1,h2⟩
  .cases hr
  .exact .inr ⟨m,h1,h2⟩
 .obtain⟨m,h1,h2⟩:=hb;exact⟨m,h1,h2⟩
mutual
def Zkd(r:Nat):PV->Option PV
 | .osl m n=>bif Nat.beq m r then some (.own r (.xw n)) else some (.osl m n)
 | .rptr m n j off=>bif Nat.beq m r then some (.own r (.xp n j off)) else some (.rptr m n j off)
 | .agg cs=>match Zob r cs with | some ds=>some (.agg ds) | none=>none
 | p=>bif p.has r then none else some p
def Zob(r:Nat):List PV->Option (List PV)
 | []=>some []
 | p::ps=>match Zkd r p,Zob r ps with | some q,some qs=>some (q::qs) | _,_=>none
end
section
variable {G:Frm} {β:Nat->Option Nat} {w:World} {σ σ':List (Nat×Blk)} {r l k:Nat} {es:List (List Za)}
mutual
theorem Ztw(hI:∀ b,(ctx G β w σ).I b->(ctx G β w σ').I b/\(ctx G β w σ').w.heap[b]?=(ctx G β w σ).w.heap[b]?)(hL:∀ m,m≠r->Zm (ctx G β w σ) (ctx G β w σ') m)(hg:get σ r=some (.row k es))(hg':get σ' r=some (.xrow k 0 l es)) :
 ∀ (p q:PV) (v:Value),Zkd r p=some q->VR (ctx G β w σ) p v->VR (ctx G β w σ') q v
 | .osl m n,q,v,hp,hv=>by
  simp only [Zkd] at hp
  cases hb:Nat.beq m r with
  | false=>
   simp only [hb,cond_false,Option.some.injEq] at hp
   subst hp
   exact VR.step hI _ v (fun q hq=>hL q (fun e=>by subst e;simp only [PV.has] at hq;rw [hq] at hb;cases hb)) hv
  | true=>
   simp only [hb,cond_true,Option.some.injEq] at hp
   subst hp
   have:=(Ze _ _).1 hb
   subst this
   simp only [VR] at hv⊢
   obtain⟨h1,a,m',cap,h2⟩:=hv
   refine⟨fun k' i' r' es' hx=>?_,by rw [h2];rfl⟩
   have:some (Blk.xrow k' i' r' es')=some (.xrow k 0 l es):=Eq.trans (Eq.symm hx) hg'
   cases this
   exact h1 k es hg
 | .rptr m n j off,q,v,hp,hv=>by
  simp only [Zkd] at hp
  cases hb:Nat.beq m r with
  | false=>
   simp only [hb,cond_false,Option.some.injEq] at hp
   subst hp
   exact VR.step hI _ v (fun q hq=>hL q (fun e=>by subst e;simp only [PV.has] at hq;rw [hq] at hb;cases hb)) hv
  | true=>
   simp only [hb,cond_true,Option.some.injEq] at hp
   subst hp
   have:=(Ze _ _).1 hb
   subst this
   simp only [VR] at hv⊢
   obtain⟨h1,a,h2⟩:=hv
   refine⟨fun k' i' r' es' hx=>?_,by rw [h2];rfl⟩
   have:some (Blk.xrow k' i' r' es')=some (.xrow k 0 l es):=Eq.trans (Eq.symm hx) hg'
   cases this
   exact h1 k es hg
 | .agg cs,q,v,hp,hv=>by
  simp only [Zkd] at hp
  split at hp
  .rename_i ds hd
   cases hp
   simp only [VR] at hv⊢
   obtain⟨vs,h1,h2⟩:=hv
   exact⟨vs,h1,Zr3 hI hL hg hg' cs ds vs hd h2⟩
  .cases hp
 | .t x,q,v,hp,hv=>Zgp hI hL (.t x) q v hp hv
 | .nils,q,v,hp,hv=>Zgp hI hL .nils q v hp hv
 | .bptr m o,q,v,hp,hv=>Zgp hI hL (.bptr m o) q v hp hv
 | .vptr cs,q,v,hp,hv=>Zgp hI hL (.vptr cs) q v hp hv
 | .tup cs,q,v,hp,hv=>Zgp hI hL (.tup cs) q v hp hv
 | .fn f cs,q,v,hp,hv=>Zgp hI hL (.fn f cs) q v hp hv
 | .own m d,q,v,hp,hv=>Zgp hI hL (.own m d) q v hp hv
theorem Zgp(hI:∀ b,(ctx G β w σ).I b->(ctx G β w σ').I b/\(ctx G β w σ').w.heap[b]?=(ctx G β w σ).w.heap[b]?)(hL:∀ m,m≠r->Zm (ctx G β w σ) (ctx G β w σ') m):∀ (p q:PV) (v:Value),(bif p.has r then none else some p)=some q->VR (ctx G β w σ) p v->VR (ctx G β w σ') q v:=
 fun p q v hp hv=>by
  cases hh:p.has r with
  | true=>simp [hh] at hp
  | false=>
   simp only [hh,cond_false,Option.some.injEq] at hp
   subst hp
   exact VR.step hI p v (fun m hm=>hL m (fun e=>by subst e;rw [hh] at hm;cases hm)) hv
theorem Zr3(hI:∀ b,(ctx G β w σ).I b->(ctx G β w σ').I b/\(ctx G β w σ').w.heap[b]?=(ctx G β w σ).w.heap[b]?)(hL:∀ m,m≠r->Zm (ctx G β w σ) (ctx G β w σ') m)(hg:get σ r=some (.row k es))(hg':get σ' r=some (.xrow k 0 l es)) :
 ∀ (ps qs:List PV) (vs:List Value),Zob r ps=some qs->VRs (ctx G β w σ) ps vs->VRs (ctx G β w σ') qs vs
 | [],qs,vs,hp,hv=>by simp only [Zob,Option.some.injEq] at hp;subst hp;exact hv
 | p::ps,qs,vs,hp,hv=>by
  simp only [Zob] at hp
  split at hp
  .rename_i q qs' h1 h2
   cases hp
   simp only [VRs] at hv⊢
   obtain⟨v,rest,rfl,hv,hr⟩:=hv
   exact⟨v,rest,rfl,Ztw hI hL hg hg' p q v h1 hv,Zr3 hI hL hg hg' ps qs' rest h2 hr⟩
  .cases hp
end
theorem Wk.toX{n:Nat}{tm tm':List (Nat×PV)}{qs rs:List Prop}(hr0:1000<=r)(hg:get σ r=some (.row k es))(htm:Zfw (fun p=>(Zkd r p).map fun q=>([],q)) tm=some (qs,tm'))
 (hσ:Zih r (.xrow k 0 l es) (fun p=>(Zkd r p).map fun q=>([],q)) σ=some (rs,σ')) (cq:Zo qs) (cr:Zo rs):Wk ⟨n,tm,σ⟩ ⟨n,tm',σ'⟩:=by
 rintro G a w ⟨β,h⟩
 obtain⟨hk0,hkl,hb⟩:=h.blk r _ hg
 refine⟨β,Zm5 h hr0 hg (B' := .xrow k 0 l es) (fun b hb => .inl (Zj.flat (o := .xrow k 0 l es) trivial hb)) htm hσ cq cr (fun hI hL hg' p qs p' hp _ v hv=>?_) (fun hI hL _=>?_)⟩
 .simp only [Option.map_eq_some_iff,Prod.mk.injEq] at hp
  obtain⟨q,h1,_,rfl⟩:=hp
  exact Ztw hI hL hg hg' p q v h1 hv
 .refine⟨hk0,hkl,Nat.zero_le _,?_⟩
  rcases hb with ⟨hb,he⟩ | ⟨b,m,hb,hrow,hsz,hel⟩
  .exact .inl ⟨hb,he⟩
  .obtain⟨vs,hvs,hcs⟩:=Zh.vals (c:=ctx G β w σ) (Zc.flat.1 hel)
   refine .inr ⟨b,m,vs,hb,hrow,hsz,fun j v hj=>by have:=hcs j v hj;rwa [Nat.zero_add] at this,?_⟩
   have:xPs 0 l es=es.flatten.map .t:=by unfold xPs;simp
   rw [this]
   exact VRs.step hI _ _ (fun q hq=>by rw [Zbv] at hq;cases hq) hvs
end
theorem Zus{G:Frm}{β:Nat->Option Nat}{n:Nat}{tm:List (Nat×PV)}{σ:List (Nat×Blk)}{a:Act}{w:World}(h:Zq G β ⟨n,tm,σ⟩ a w)(cs:Array Value)(e:TypeId){l k i0 i1 r:Nat}{es es':List (List Za)}
 (hg:get σ l=some (.xrow k i0 r es)) (hlt:es.length < es'.length)
 (hblk:(∀ b,(ctx G β w σ).I b->(ctx G (Za2 β l w.heap.size) (w.alloc (.cells cs e)) (put σ l (.xrow k i1 r es'))).I b/\(ctx G (Za2 β l w.heap.size) (w.alloc (.cells cs e)) (put σ l (.xrow k i1 r es'))).w.heap[b]?=(ctx G β w σ).w.heap[b]?) ->
  (∀ m,Zm (ctx G β w σ) (ctx G (Za2 β l w.heap.size) (w.alloc (.cells cs e)) (put σ l (.xrow k i1 r es'))) m)->Zv (w.alloc (.cells cs e)) w.heap.size cs.size->BR (ctx G (Za2 β l w.heap.size) (w.alloc (.cells cs e)) (put σ l (.xrow k i1 r es'))) l (.xrow k i1 r es')) :
 Zq G (Za2 β l w.heap.size) ⟨n,tm,put σ l (.xrow k i1 r es')⟩ a (w.alloc (.cells cs e))/\Zv (w.alloc (.cells cs e)) w.heap.size cs.size:=by
 have hgl:∀ m,m≠l->get (put σ l (.xrow k i1 r es')) m=get σ m:=fun m hm=>Z8 σ _ (Ne.symm hm)
 have hgs:get (put σ l (.xrow k i1 r es')) l=some (.xrow k i1 r es'):=Z4 σ l _
 have hltI:∀ b,Imm G β w σ b->b < w.heap.size:=fun b hb=>hb.1
 have hO:∀ m o,m≠l->get σ m=some o->∀ b,Zj (Za2 β l w.heap.size) (w.alloc (.cells cs e)) m o b->Zj β w m o b:=fun m o hm hg b ho=>ho.of (Zbg β _ hm) (fun b hb=>Zs w _ b (h.sep m o b hg hb).1)
 have hrow:Zv (w.alloc (.cells cs e)) w.heap.size cs.size:=⟨cs,e,(0,0),heap_alloc_new w _,rfl,.inl rfl⟩
 have hI:∀ b,(ctx G β w σ).I b->(ctx G (Za2 β l w.heap.size) (w.alloc (.cells cs e)) (put σ l (.xrow k i1 r es'))).I b/\(ctx G (Za2 β l w.heap.size) (w.alloc (.cells cs e)) (put σ l (.xrow k i1 r es'))).w.heap[b]?=(ctx G β w σ).w.heap[b]?:=fun b hb=>by
  refine⟨?_,Zs w _ b (hltI b hb)⟩
  have hbl:=hltI b hb
  obtain⟨h1,h2,h3⟩:=hb
  .refine⟨by simp;omega,h2,fun m o hm=>?_⟩
   by_cases hml:m=l
   .subst hml
    have:some o=some (.xrow k i1 r es'):=Eq.trans (Eq.symm hm) hgs
    cases this
    intro hh
    have:=Zj.flat (o := .xrow _ _ _ _) trivial hh
    rw [Z9] at this
    cases this;omega
   .have hm':=(hgl m hml).symm.trans hm
    exact fun ho=>h3 m o hm' (hO m o hml hm' b ho)
 have hL:∀ m,Zm (ctx G β w σ) (ctx G (Za2 β l w.heap.size) (w.alloc (.cells cs e)) (put σ l (.xrow k i1 r es'))) m:=fun m=>by
  by_cases hml:m=l
  .subst hml
   refine⟨fun k' es'' hg'=>?_,fun cs' hg'=>?_,fun k' q' es'' hg'=>?_,fun k' es'' hg'=>?_,fun k' i' es'' cs' hg'=>?_,fun h' hg'=>?_,fun k' i' r' es'' hg'=>?_⟩
   .have:some (Blk.row k' es'')=some (.xrow k i1 r es'):=Eq.trans (Eq.symm hg') hgs
    cases this
   .have:some (Blk.box cs')=some (.xrow k i1 r es'):=Eq.trans (Eq.symm hg') hgs
    cases this
   .have:some (Blk.mat k' q' es'')=some (.xrow k i1 r es'):=Eq.trans (Eq.symm hg') hgs
    cases this
   .have:some (Blk.map k' es'')=some (.xrow k i1 r es'):=Eq.trans (Eq.symm hg') hgs
    cases this
   .have:some (Blk.prow k' i' es'' cs')=some (.xrow k i1 r es'):=Eq.trans (Eq.symm hg') hgs
    cases this
   .have:some (Blk.reg h')=some (.xrow k i1 r es'):=Eq.trans (Eq.symm hg') hgs
    cases this
   .have:some (Blk.xrow k' i' r' es'')=some (.xrow k i1 r es'):=Eq.trans (Eq.symm hg') hgs
    cases this
    exact⟨i0,es,hg,Nat.le_of_lt hlt,fun he=>by omega⟩
  .have hg':=hgl m hml
   cases hgm:get σ m with
   | none=>exact Zm.none (hg'.trans hgm)
   | some o=>exact Zm.same hg' (Zbg β _ hml) (fun o b hgm hb=>Zs w _ b (h.sep m o b hgm hb).1)
 have hns:∀ m o,m≠l->get (put σ l (.xrow k i1 r es')) m=some o->get σ m=some o:=fun m o hm hg=>(hgl m hm).symm.trans hg
 have hnew:∀ o b,get (put σ l (.xrow k i1 r es')) l=some o->Zj (Za2 β l w.heap.size) (w.alloc (.cells cs e)) l o b->w.heap.size=b:=fun o b hm ho=>by
  have:some o=some (.xrow k i1 r es'):=Eq.trans (Eq.symm hm) hgs
  cases this
  have:=Zj.flat (o := .xrow _ _ _ _) trivial ho
  rw [Z9] at this
  exact Option.some.inj this
 refine⟨?_,hrow⟩
 exact { defers := h.defers, sz := h.sz, base := by simp; have := h.base; omega, os := h.os, tape := h.tape, output := h.output,
         old:=fun b hb ho=>(Zs w _ b (Nat.lt_of_lt_of_le hb h.base)).trans (h.old b hb ho),A:=h.A,gl:=h.gl,
         inj:=fun m m' o o' b hm hm' hb hb'=>by
          by_cases h1:m=l
          .by_cases h2:m'=l
           .rw [h1,h2]
           .subst h1
            have hb:=hnew o b hm hb
            have:=(h.sep m' o' b (hns m' o' h2 hm') (hO m' o' h2 (hns m' o' h2 hm') b hb')).1
            omega
          .by_cases h2:m'=l
           .subst h2
            have hb':=hnew o' b hm' hb'
            have:=(h.sep m o b (hns m o h1 hm) (hO m o h1 (hns m o h1 hm) b hb)).1
            omega
           .exact h.inj m m' o o' b (hns m o h1 hm) (hns m' o' h2 hm') (hO m o h1 (hns m o h1 hm) b hb) (hO m' o' h2 (hns m' o' h2 hm') b hb'),
         sep:=fun m o b hm hb=>by
          by_cases h1:m=l
          .subst h1
           have hb:=hnew o b hm hb
           subst hb
           exact⟨by simp,.inl h.base⟩
          .have:=h.sep m o b (hns m o h1 hm) (hO m o h1 (hns m o h1 hm) b hb)
           exact⟨by simp;omega,this.2⟩,
         fix:=fun m cs' h1 hm=>by
          have h2:m≠l:=fun e=>by
           subst e
           have:some (Blk.box cs')=some (.xrow k i1 r es'):=Eq.trans (Eq.symm hm) hgs
           cases this
          rw [Zbg β _ h2]
          exact h.fix m cs' h1 (hns m _ h2 hm),
         row0:=h.row0.step (fun m _=>hL m),
         blk:=fun m o hm=>by
          by_cases h1:m=l
          .subst h1
           have:some o=some (.xrow k i1 r es'):=Eq.trans (Eq.symm hm) hgs
           cases this
           exact hblk hI hL hrow
          .have hm':=hns m o h1 hm
           exact BR.step hI (Zbg β _ h1) (fun b hb=>Zs w _ b (h.sep m o b hm' hb).1) (fun q _=>hL q) (h.blk m o hm'),
         tm:=fun i p hp=>⟨(h.tm i p hp).1,VR.step hI p _ (fun q _=>hL q) (h.tm i p hp).2⟩ }
def Zfa(l:Nat):List PV->Option (List Za)
 | []=>some []
 | .t x::ps=>(match x with | .sl _=>none | x=>(Zfa l ps).map (x :: ·))
 | .own m (.rg x)::ps=>(match x with | .sl es=>bif Nat.beq m l then (Zfa l ps).map (.sl es :: ·) else none | _=>none)
 | _::_=>none
theorem Zjs{l:Nat}:∀ {ps:List PV} {ts:List Za},Zfa l ps=some ts->ps=ts.map (rgP l)
 | [],ts,h=>by simp only [Zfa,Option.some.injEq] at h;subst h;rfl
 | p::ps,ts,h=>by
  cases p
  case t x=>
   cases x<;>simp only [Zfa,Option.map_eq_some_iff] at h
   case sl=>cases h
   all_goals
    obtain⟨ts',h1,rfl⟩:=h
    rw [Zjs h1];rfl
  case own m d=>
   cases d<;>try (simp only [Zfa] at h;cases h)
   case rg x=>
    cases x<;>simp only [Zfa] at h<;>try cases h
    case sl es=>
     cases hb:Nat.beq m l with
     | false=>simp [hb] at h
     | true=>
      simp only [hb,cond_true,Option.map_eq_some_iff] at h
      obtain⟨ts',h1,rfl⟩:=h
      have:=(Ze _ _).1 hb
      subst this
      rw [Zjs h1];rfl
  all_goals (simp only [Zfa] at h;cases h)
theorem Ztx{l:Nat}:∀ (ts:List Za),(ts.map (rgP l)).all PV.one=true
 | []=>rfl
 | t::ts=>by
  simp only [List.map_cons,List.all_cons,Ztx ts,Bool.and_true]
  cases t<;>rfl
theorem Zzv{k i r:Nat}{es:List (List Za)}(hk:∀ el,el∈es->el.length=k):(xPs i r es).length=es.length*k:=by
 unfold xPs
 rw [List.length_append,List.length_map,List.length_map,Z3 (k:=k) (fun el hel=>hk el (List.mem_of_mem_take hel)),Z3 (k:=k) (fun el hel=>hk el (List.mem_of_mem_drop hel)),<- Nat.add_mul,List.length_take,List.length_drop]
 congr 1;omega
theorem Z0u{k i r j:Nat}{es:List (List Za)}{e:List Za}(hk:∀ el,el∈es->el.length=k)(hi:i<=j)(he:es[j]?=some e):((xPs i r es).drop (j*k)).take k=e.map .t:=by
 have hj:=(List.getElem?_eq_some_iff.1 he).1
 unfold xPs
 have hA:((es.take i).flatten.map (rgP r)).length=i*k:=by
  rw [List.length_map,Z3 (k:=k) (fun el hel=>hk el (List.mem_of_mem_take hel)),List.length_take,Nat.min_eq_left (by omega)]
 have hsp:es.drop i=(es.drop i).take (j - i)++e::es.drop (j+1):=by
  have h1:(es.drop i)[j - i]?=some e:=by rw [List.getElem?_drop];rw [show i+(j - i)=j by omega];exact he
  have hlt:=(List.getElem?_eq_some_iff.1 h1).1
  have h2:=List.getElem_cons_drop hlt
  have h3:(es.drop i)[j - i]=e:=by rw [List.getElem?_eq_getElem hlt] at h1;exact Option.some.inj h1
  rw [h3,List.drop_drop,show i+(j - i+1)=j+1 by omega] at h2
  rw [h2,List.take_append_drop]
 have hB:(((es.drop i).take (j - i)).flatten.map PV.t).length=(j - i)*k:=by
  rw [List.length_map,Z3 (k:=k) (fun el hel=>hk el (List.mem_of_mem_drop (List.mem_of_mem_take hel))),List.length_take,List.length_drop,Nat.min_eq_left (by omega)]
 rw [List.drop_append,List.drop_eq_nil_of_le (by rw [hA];exact Nat.mul_le_mul_right _ hi),hA,List.nil_append,hsp,List.flatten_append,List.flatten_cons,List.map_append,List.map_append,
  List.drop_append,List.drop_eq_nil_of_le (by rw [hB,Nat.sub_mul];omega),hB,List.nil_append,Nat.sub_mul,Nat.sub_self,List.drop_zero,List.take_append_of_le_length (by rw [List.length_map,hk e (List.mem_of_getElem? he)];omega),List.take_of_length_le (by rw [List.length_map,hk e (List.mem_of_getElem? he)];omega)]
section
variable {P:Program} {o:Oper} {ρ:List (Nat×PV)} {σ:List (Nat×Blk)}
theorem Zzw{t:TypeId}{x:Operand}{e:TypeId}{l m k i r:Nat}{es:List (List Za)}(ho:o.op = .call { callee := .builtin .len,args := #[x],argTypes := #[t] })(hT:P.underlying t=some (.slice e))
 (hx:Zb ρ x=some (.own l (.xw m))) (hg:get σ l=some (.xrow k i r es)) (hm:es.length=m):Zr P o ρ σ [l] (.t (.int .i64 m)) []:=
 Z2 fun G β n tm σ' A w hop hneed _=>by
  have h1:=hop x _ (by simp [ho,Op.operands,Call.operands]) hx
  simp only [VR] at h1
  obtain⟨a,cap,hv,_⟩:=(h1.1 k i r es (by rw [<- hg];exact hneed l (by simp))).2 hm.symm
  exact⟨.int .i64 m,by simp [execOp,ho,resolve,invoke,builtin,Builtin.len_,hv,run_underlying hT,goInt],by simp [VR,Zg]⟩
theorem Zwi{t:TypeId}{x y:Operand}{k l m i0 r:Nat}{es:List (List Za)}{ki:IntKind}{i:Int}(ho:o.op = .indexAddr t x y)(ha:slInfo P t=some k)(hx:Zb ρ x=some (.own l (.xw m)))(hy:Zb ρ y=some (.t (.int ki i)))
 (hg:get σ l=some (.xrow k i0 r es)) (hm:es.length=m) (h0:0<=i) (h1:i < m):Zr P o ρ σ [l] (.own l (.xp m i.toNat 0)) []:=
 Z2 fun G β n tm σ' A w hop hneed _=>by
  have e1:=hop x _ (by simp [ho,Op.operands]) hx
  have e2:=hop y _ (by simp [ho,Op.operands]) hy
  simp only [VR,Zg] at e1 e2⊢
  have hgl:get σ' l=some (.xrow k i0 r es):=(hneed l (by simp)).trans hg
  obtain⟨a,cap,hv,hmc,hcm,h⟩:=(e1.1 k i0 r es hgl).2 hm.symm
  rcases h with ⟨hc,_⟩ | ⟨b,sz,ha',hb,hrow,hsz⟩
  .omega
  .subst ha'
   refine⟨.pointer (some ⟨b,i.toNat*k,none⟩),?_,fun k' i' r' es' hes'=>?_,rfl⟩
   .simp only [execOp,ho,hv,e2,Sem.run_bind,Zb7 w ha h0 h1,Result.andThen_ok,Sem.run_pure,Nat.zero_add]
   .have:some (Blk.xrow k' i' r' es')=some (.xrow k i0 r es):=Eq.trans (Eq.symm hes') hgl
    cases this
    exact⟨by omega,fun _=>⟨b,hb,by simp⟩⟩
theorem Zwj{s:TypeId}{x:Operand}{f l m j q off size k i0 r:Nat}{es:List (List Za)}(ho:o.op = .fieldAddr s x f)(hf:fieldInfo P s f=some (off,size))(hs:size≠0)(hx:Zb ρ x=some (.own l (.xp m j q)))
 (hg:get σ l=some (.xrow k i0 r es)) (hm:es.length=m):Zr P o ρ σ [l] (.own l (.xp m j (q+off))) []:=
 Z2 fun G β n tm σ' A w hop hneed _=>by
  have h1:=hop x _ (by simp [ho,Op.operands]) hx
  simp only [VR] at h1⊢
  have hgl:get σ' l=some (.xrow k i0 r es):=(hneed l (by simp)).trans hg
  obtain⟨b,hb,hv⟩:=(h1.1 k i0 r es hgl).2 hm.symm
  refine⟨.pointer (some ⟨b,j*k+q+off,none⟩),?_,fun k' i' r' es' hes'=>?_,rfl⟩
  .simp only [execOp,ho,hv,Sem.run_bind,Zb6 w hf hs,Result.andThen_ok,Sem.run_pure]
  .have:some (Blk.xrow k' i' r' es')=some (.xrow k i0 r es):=Eq.trans (Eq.symm hes') hgl
   cases this
   exact⟨by omega,fun _=>⟨b,hb,by rw [Nat.add_assoc]⟩⟩
theorem Zr4{x:Operand}{l m j q k i0 r:Nat}{es:List (List Za)}(ho:o.op = .nilCheck x)(hx:Zb ρ x=some (.own l (.xp m j q)))(hg:get σ l=some (.xrow k i0 r es))(hm:es.length=m):Zr P o ρ σ [l] (.own l (.xp m j q)) []:=
 Z2 fun G β n tm σ' A w hop hneed _=>by
  have h1:=hop x _ (by simp [ho,Op.operands]) hx
  have h2:=h1
  simp only [VR] at h1
  obtain⟨b,_,hv⟩:=(h1.1 k i0 r es ((hneed l (by simp)).trans hg)).2 hm.symm
  exact⟨.pointer (some ⟨b,j*k+q,none⟩),by simp [execOp,ho,hv],by rw [<- hv];exact h2⟩
theorem Zx8{t:TypeId}{x:Operand}{l m j q size k i0 r:Nat}{agg:Bool}{es:List (List Za)}{e:List Za}{p:PV}(ho:o.op = .load t x)(hT:TyF P t agg size)(hx:Zb ρ x=some (.own l (.xp m j q)))(hg:get σ l=some (.xrow k i0 r es))(hm:es.length=m)
 (hi:i0<=j) (he:es[j]?=some e) (hp:Zar agg size q (e.map .t)=some p):Zr P o ρ σ [l] p []:=
 Z2 fun G β n tm σ' A w hop hneed hr=>by
  have e1:=hop x _ (by simp [ho,Op.operands]) hx
  simp only [VR] at e1
  have hgl:get σ' l=some (.xrow k i0 r es):=(hneed l (by simp)).trans hg
  obtain⟨b,hb,hv⟩:=(e1.1 k i0 r es hgl).2 hm.symm
  obtain⟨hk0,hkl,hi0,h⟩:=hr.blk l _ hgl
  rcases h with ⟨_,h⟩ | ⟨b',sz,vs,hb',hrow,hsz,hcs,hvs⟩
  .subst h;simp at he
  .have:b'=b:=by have:=hb'.symm.trans hb;simpa using this
   subst this
   have h1:=(hvs.drop (j*k)).take k
   rw [Z0u hkl hi he] at h1
   obtain⟨v,hrun,hpv⟩:=Zcw (q:=j*k) hT w h1 (fun j' v hj'=>by
    rw [List.getElem?_take] at hj'
    split at hj'
    .rw [List.getElem?_drop] at hj';exact hcs _ v hj'
    .cases hj') hp
   exact⟨v,by simp only [execOp,ho,hv,Sem.run_bind,hrun,Result.andThen_ok,Sem.run_pure],hpv⟩
theorem Zmn{G:Frm}{β:Nat->Option Nat}{n:Nat}{tm:List (Nat×PV)}{a:Act}{w:World}(hr:Zq G β ⟨n,tm,σ⟩ a w){t:TypeId}{x y:Operand}{l m0 off size k i r:Nat}{agg:Bool}{es:List (List Za)}{e ts:List Za}{p:PV}(ho:o.op = .store t x y)(hT:TyF P t agg size)(e1:VR (ctx G β w σ) (.own l (.xp m0 i off)) (a.eval x))(e2:VR (ctx G β w σ) p (a.eval y))
 (hg:get σ l=some (.xrow k i r es)) (hm0:es.length=m0) (he:es[i]?=some e) (hs:(Zi p).length=size) (h1:(Zi p).all PV.one=true) (hq:off+size<=k) (hts:Zfa r (splice (e.map .t) off (Zi p))=some ts) :
 ∃ w',(execOp a.eval o).run P w = .ok .skip w'/\Zq G β ⟨n,tm,put σ l (.xrow k (i+1) r (es.set i ts))⟩ a w':=by
 simp only [VR] at e1
 obtain⟨b,hb,hv⟩:=(e1.1 k i r es hg).2 hm0.symm
 obtain⟨hk0,hkl,hi0,h⟩:=hr.blk l _ hg
 rcases h with ⟨_,h⟩ | ⟨b',sz,vs,hb',hrow,hsz,hcs,hvs⟩
 .subst h;simp at he
 have:b'=b:=by have:=hb'.symm.trans hb;simpa using this
 subst this
 have hi:i < es.length:=(List.getElem?_eq_some_iff.1 he).1
 have hel:=hkl e (List.mem_of_getElem? he)
 have hik:i*k+k<=es.length*k:=by
  have h2:(i+1)*k<=es.length*k:=Nat.mul_le_mul_right _ hi
  rw [Nat.add_mul,Nat.one_mul] at h2
  exact h2
 have hrun:=Zbr hT w e2 hs h1 hrow (q:=i*k+off) (by omega)
 have hcells:=e2.cells
 have hul:(a.eval y).cells.toList.length=size:=by rw [hcells.length,hs]
 have hvl:vs.length=es.length*k:=by rw [hvs.length,Zzv hkl]
 have htl:ts.length=k:=by
  have:=congrArg List.length (Zjs hts)
  rw [Zcp _ _ _ (by rw [List.length_map,hel,hs];exact hq),List.length_map,List.length_map,hel] at this
  exact this.symm
 have hkl':∀ el,el∈es.set i ts->el.length=k:=fun el hel'=>by
  rcases List.mem_or_eq_of_mem_set hel' with h | h
  .exact hkl el h
  .rw [h];exact htl
 have hnew:xPs (i+1) r (es.set i ts)=splice (xPs i r es) (i*k+off) (Zi p):=by
  have hA:((es.take i).flatten.map (rgP r)).length=i*k:=by
   rw [List.length_map,Z3 (k:=k) (fun el hel=>hkl el (List.mem_of_mem_take hel)),List.length_take,Nat.min_eq_left (by omega)]
  have hdr:es.drop i=e::es.drop (i+1):=by
   have h2:=List.getElem_cons_drop hi
   have h3:es[i]=e:=by rw [List.getElem?_eq_getElem hi] at he;exact Option.some.inj he
   rw [h3] at h2;exact h2.symm
  have hL:xPs (i+1) r (es.set i ts)=(es.take i).flatten.map (rgP r)++(ts.map (rgP r)++(es.drop (i+1)).flatten.map .t):=by
   unfold xPs
   rw [List.set_eq_take_append_cons_drop,if_pos hi,List.take_append,List.take_of_length_le (by simp;omega),List.length_take,Nat.min_eq_left (by omega),show i+1 - i=1 by omega,List.take_succ_cons,List.take_zero,List.drop_append,List.drop_eq_nil_of_le (by simp;omega),List.length_take,Nat.min_eq_left (by omega),show i+1 - i=1 by omega,List.drop_succ_cons,List.drop_zero,List.nil_append,List.flatten_append,List.flatten_cons,List.flatten_nil,List.append_nil,List.map_append,List.append_assoc]
  rw [hL,<- Zjs hts]
  unfold xPs splice
  rw [hdr,List.flatten_cons,List.map_append,List.take_append,hA,List.take_of_length_le (l:=(es.take i).flatten.map (rgP r)) (by rw [hA];omega),Nat.add_sub_cancel_left,List.take_append_of_le_length (by rw [List.length_map,hel];omega),
   List.drop_append,hA,List.drop_eq_nil_of_le («as» := (es.take i).flatten.map (rgP r)) (by rw [hA];omega),List.nil_append,show i*k+off+(Zi p).length - i*k=off+(Zi p).length by omega,List.drop_append_of_le_length (by rw [List.length_map,hel,hs];exact hq)]
  simp only [List.append_assoc]
 obtain⟨hr',hI,hL⟩:=Zcx hr (off:=i*k+off) (blk' := .xrow k (i+1) r (es.set i ts)) (a.eval y).cells.toList hg hb (.inr (.inr (.inr ⟨k,i,i+1,r,es,_,rfl,rfl,by simp⟩))) (fun hI hL=>by
  refine⟨hk0,hkl',by rw [List.length_set];exact hi,.inr ⟨b',sz,splice vs (i*k+off) (a.eval y).cells.toList,hb,Z1 _ _ _ _ hrow,by simpa using hsz,Zb2 hcs (by rw [hul,hvl];omega),?_⟩⟩
  rw [hnew]
  exact (VRs.step hI _ _ (fun m _=>hL m) hvs).splice _ (VRs.step hI _ _ (fun m _=>hL m) hcells))
 have hrun2:(execOp a.eval o).run P w = .ok .skip (w.setCells b' (i*k+off) (a.eval y).cells.toList):=by
  simp only [execOp,ho,hv,Sem.run_bind,hrun,Result.andThen_ok,Sem.run_pure]
 exact⟨_,hrun2,hr'⟩
theorem Zx9{σ0:List (Nat×Blk)}{t:TypeId}{x y:Operand}{l m0 off size k i r:Nat}{agg:Bool}{es:List (List Za)}{e ts:List Za}{p:PV}(ho:o.op = .store t x y)(hd:o.dst=none)(hT:TyF P t agg size)(hx:Zb ρ x=some (.own l (.xp m0 i off)))(hy:Zb ρ y=some p)
 (hg0:get σ0 l=some (.xrow k i r es)) (hm0:es.length=m0) (he:es[i]?=some e) (hs:(Zi p).length=size) (h1:(Zi p).all PV.one=true) (hq:off+size<=k) (hts:Zfa r (splice (e.map .t) off (Zi p))=some ts) :
 OpF P o ρ σ0 [l] [l] (.tup []) [(l,.xrow k (i+1) r (es.set i ts))]:=by
 rintro G n tm σ a w K Q hag hneed _ ⟨β,hr⟩ hK
 have hg:get σ l=some (.xrow k i r es):=by rw [hneed l (by simp)];exact hg0
 have hop:∀ x q,x∈o.op.operands->Zb ρ x=some q->VR (ctx G β w σ) q (a.eval x):=fun x q hx hq=>Zbw hr hq (fun t r ht hr'=>hag t r (ht▸hx) hr')
 have e1:=hop x _ (by simp [ho,Op.operands]) hx
 have e2:=hop y _ (by simp [ho,Op.operands]) hy
 obtain⟨w',hrun2,hr'⟩:=Zmn hr ho hT e1 e2 hg hm0 he hs h1 hq hts
 unfold Oper.wp
 rw [hrun2,Oper.upon_skip,hd]
 have:=hK (.tuple #[]) w' ⟨β,hr',by simp [VR,VRs]⟩
 rw [hd] at this
 exact this
theorem Zzx{G:Frm}{β β':Nat->Option Nat}{w:World}{σ σ':List (Nat×Blk)}{l r k N:Nat}{es:List (List Za)}{v:Value}(hr:get σ r=some (.row k es))(hb:BR (ctx G β w σ) r (.row k es))(hsc:∀ el,el∈es->∀ x,x∈el->Za.scal x=true)
 (hl':get σ' l=some (.reg false)) (hβ:β' l=some (N ||| Ze6 (β r))) (hv:VR (ctx G β w σ) (.osl r es.length) v):VR (ctx G β' w σ') (.own l (.rg (.sl es))) v:=by
 obtain⟨_,hkl,hb⟩:=hb
 simp only [VR] at hv⊢
 obtain⟨a0,cap,hv1,hc1,hc2,h3⟩:=(hv.1 k es hr).2 rfl
 refine⟨fun h' hg'=>?_,by rw [hv1];rfl⟩
 have:some (Blk.reg h')=some (.reg false):=Eq.trans (Eq.symm hg') hl'
 cases this
 refine⟨_,hβ,?_⟩
 show Zg _ w (.sl es) v
 simp only [Zg]
 refine⟨a0,cap,hv1,hc1,hc2,?_⟩
 rcases hb with ⟨_,he⟩ | ⟨b,sz,hb,_,_,hel⟩
 .exact .inl he
 .rcases h3 with ⟨_,hb'⟩ | ⟨b',sz',ha,hb',_,_⟩
  .exact absurd (hb.symm.trans hb') (by simp)
  .have:b'=b:=by have:=hb'.symm.trans hb;simpa using this
   subst this
   refine .inr ⟨b',0,ha,?_,Zc.scal es 0 hsc hel⟩
   rw [show β r=some b' from hb',Nat.testBit_or,Zkc,Bool.or_true]
theorem Zp9{r m:Nat}{σ:List (Nat×Blk)}{o:Blk}(h:get (Zw [r] σ) m=some o):m≠r/\get σ m=some o:=by
 obtain⟨h1,h2⟩:=Zcv h
 exact⟨fun e=>h1 (by simp [e]),h2⟩
theorem Zty{G:Frm}{β:Nat->Option Nat}{n:Nat}{tm:List (Nat×PV)}{σ:List (Nat×Blk)}{a:Act}{w:World}(h:Zq G β ⟨n,tm,σ⟩ a w){l r N M:Nat}{B:Blk}(hl0:1000<=l)(hl:get σ l=some (.reg false))(hN:β l=some N)(hr:get σ r=some B)(hlr:l≠r)
 (hM:∀ b,M.testBit b=true->Zj β w r B b/\∃ m,Zv w b m) :
 Zq G (Zy β l (some (N ||| M))) ⟨n,tm,Zw [r] σ⟩ a w/\(∀ p v,VR (ctx G β w σ) p v->VR (ctx G (Zy β l (some (N ||| M))) w (Zw [r] σ)) p v):=by
 obtain⟨h1,hI,hL⟩:=Zi4 h hl0 hl hN hr hlr hM (tm':=tm) (σ':=Zw [r] σ) (Tn:=fun _ _=>False) (fun m o' hm=>⟨(Zp9 hm).1,o',(Zp9 hm).2,.inl rfl⟩)
  (fun hI hL=>⟨fun _ _ h=>h.elim,fun i q hq=>⟨q,hq,fun v hv=>VR.step hI q v (fun m _=>hL m) hv⟩⟩)
 exact⟨h1,fun p v hv=>VR.step hI p v (fun m _=>hL m) hv⟩
theorem Zwk{σ0:List (Nat×Blk)}{t:TypeId}{x y:Operand}{l m0 off k i r r2 n2 k2:Nat}{es es2:List (List Za)}{e ts:List Za}(hr0:1000<=r)(hrr:r≠r2)(hlr:l≠r)(hlr2:l≠r2)(ho:o.op = .store t x y)(hd:o.dst=none)(hT:TyF P t false 1)
 (hx:Zb ρ x=some (.own l (.xp m0 i off))) (hy:Zb ρ y=some (.osl r2 n2)) (hg0:get σ0 l=some (.xrow k i r es)) (hgr0:get σ0 r=some (.reg false)) (hg20:get σ0 r2=some (.row k2 es2)) (hm0:es.length=m0) (he:es[i]?=some e) (hn2:es2.length=n2)
 (hsc:∀ el,el∈es2->∀ x,x∈el->Za.scal x=true) (hq:off+1<=k) (hts:Zfa r (splice (e.map .t) off [.own r (.rg (.sl es2))])=some ts) :
 OpF P o ρ σ0 [l,r,r2] [l,r,r2] (.tup []) [(l,.xrow k (i+1) r (es.set i ts)),(r,.reg false)]:=by
 rintro G n tm σ a w K Q hag hneed _ ⟨β,hr⟩ hK
 have hg:get σ l=some (.xrow k i r es):=by rw [hneed l (by simp)];exact hg0
 have hgr:get σ r=some (.reg false):=by rw [hneed r (by simp)];exact hgr0
 have hg2:get σ r2=some (.row k2 es2):=by rw [hneed r2 (by simp)];exact hg20
 have hop:∀ x q,x∈o.op.operands->Zb ρ x=some q->VR (ctx G β w σ) q (a.eval x):=fun x q hx hq=>Zbw hr hq (fun t r ht hr'=>hag t r (ht▸hx) hr')
 have e1:=hop x _ (by simp [ho,Op.operands]) hx
 have e2:=hop y _ (by simp [ho,Op.operands]) hy
 obtain⟨N,hN,_⟩:=hr.blk r _ hgr
 have hb2:=hr.blk r2 _ hg2
 obtain⟨hr1,hV⟩:=Zty hr hr0 hgr hN hg2 hrr (M:=Ze6 (β r2)) (fun b hb1=>by
  have:=Zle hb1
  refine⟨.inl this,?_⟩
  rcases hb2.2.2 with ⟨h1,_⟩ | ⟨b',m,h1,h2,_⟩
  .exact absurd (this.symm.trans h1) (by simp)
  .have:b'=b:=by have:=h1.symm.trans this;simpa using this
   subst this;exact⟨m,h2⟩)
 have hd1:∀ m,m≠r2->get (Zw [r2] σ) m=get σ m:=fun m hm=>Zej (by simpa using hm)
 subst hn2
 have e2':=Zzx (β':=Zy β r (some (N ||| Ze6 (β r2)))) (σ':=Zw [r2] σ) (l:=r) hg2 hb2 hsc ((hd1 r hrr).trans hgr) (Zk _ _ _) e2
 obtain⟨w',hrun2,hr'⟩:=Zmn hr1 ho hT (hV _ _ e1) e2' ((hd1 l hlr2).trans hg) hm0 he rfl rfl hq hts
 unfold Oper.wp
 rw [hrun2,Oper.upon_skip,hd]
 have:=hK (.tuple #[]) w' ⟨_,hr'.sub (Nat.le_refl _) (fun i p hp=>⟨hp,(hr'.tm i p hp).1⟩) (fun m o' hm=>by
  have hm:get ((l,Blk.xrow k (i+1) r (es.set i ts))::(r,Blk.reg false)::Zw [l,r,r2] σ) m=some o':=hm
  by_cases h1:m=l
  .subst h1
   rw [show o'=_ from by simpa [PW.get] using hm.symm];exact Z4 _ _ _
  .simp only [PW.get,Zai (Ne.symm h1),cond_false] at hm
   show get (put (Zw [r2] σ) l _) m=_
   rw [Z8 _ _ (Ne.symm h1)]
   by_cases h2:m=r
   .subst h2
    simp at hm
    rw [hd1 m hrr,hgr,hm]
   .simp only [Zai (Ne.symm h2),cond_false] at hm
    obtain⟨h3,h4⟩:=Zcv hm
    rw [hd1 m (fun e=>h3 (by simp [e])),h4]),by simp [VR,VRs]⟩
 rw [hd] at this
 exact this
end
section
variable {P:Program} {o:Oper} {ρ:List (Nat×PV)} {σ:List (Nat×Blk)}
theorem Zzy{t e:TypeId}{len k bytes r:Nat}{zero out:List PV}{ts:List Za}{parts:Array (Nat×Operand)}{ps:List (Nat×PV)}{need:List Nat}(l:Nat)(hlab:1000<=l)(hlr:l≠r)(ho:o.op = .buildSlice t len parts)(hE:ElF P t e k bytes zero)
 (hp:Zbj ρ parts.toList=some ps) (hsmall:len*k<=16777216) (hf:Zcd (Zcf k len) (rep len zero) ps=some out) (hts:Zfa r out=some ts) (hlen:ts.length=len*k) :
 Zr P o ρ σ need (.own l (.xw len)) [(l,.xrow k len r (chunk k len ts))]:=
 Zgk (fun G β n tm σ' A w hop _ hf1 hf2 hr=>by
  have hv:=Zdh (ρ:=ρ) (c:=ctx G β w σ') A.eval parts.toList ps (fun x q hx hq=>(hop x q (by simpa [ho,Op.operands] using hx) hq).1) hp
  obtain⟨us,h1,h2⟩:=Zjo hE (c:=ctx G β w σ') w (vals:=parts.map fun (i,x)=>(i,A.eval x)) (by rw [Zg6];exact hv) hsmall hf
  have hout:=Zjs hts
  rw [hout] at h2
  have husl:us.length=len*k:=by rw [h2.length,List.length_map,hlen]
  have hfl:(chunk k len ts).flatten=ts:=by
   have:∀ (n:Nat) (ts:List Za),ts.length=n*k->(chunk k n ts).flatten=ts:=by
    intro n
    induction n with
    | zero=>intro ts h;rw [Nat.zero_mul] at h;rw [List.eq_nil_of_length_eq_zero h];rfl
    | succ n ih=>
     intro ts h
     rw [Nat.add_mul,Nat.one_mul] at h
     simp only [chunk,List.flatten_cons]
     rw [ih (ts.drop k) (by simp;omega),List.take_append_drop]
   exact this len ts hlen
  have hx:xPs len r (chunk k len ts)=ts.map (rgP r):=by
   have:=Zgo (r:=r) (es:=chunk k len ts)
   rw [Zbq] at this
   rw [this,hfl]
  obtain⟨hr',hrow,hI,hL⟩:=hr.allocOwn us.toArray e l (.xrow k len r (chunk k len ts)) hlab trivial hf1 hf2 (fun hI hL hrow=>
   ⟨hE.pos,Zk9 k len ts hlen,by rw [Zbq];exact Nat.le_refl _,.inr ⟨w.heap.size,_,us,Z9 _ _ _,hrow,by rw [Zbq];simp [husl],fun j v hj=>VRs.cellsAt w us e j v hj,by
    rw [hx]
    exact VRs.step hI _ _ (fun m hm=>hL m (fun e=>by
     subst e
     have:Nat.beq r m=false:=Zai (Ne.symm hlr)
     rw [Zhw this] at hm;cases hm)) h2⟩⟩)
  refine⟨.slice (some ⟨w.heap.size,0,none⟩) len len,w.alloc (.cells us.toArray e),?_,_,hr',?_⟩
  .simp only [execOp,ho,Sem.run_bind,h1,Result.andThen_ok,Sem.run_pure]
  .simp only [VR]
   refine⟨fun k' i' r' es' hg=>?_,rfl⟩
   have hgs:get ((l,Blk.xrow k len r (chunk k len ts))::σ') l=some (.xrow k len r (chunk k len ts)):=by simp [get]
   have hg':some (Blk.xrow k' i' r' es')=some (.xrow k len r (chunk k len ts)):=hg.symm.trans hgs
   cases hg'
   rw [Zbq]
   refine⟨Nat.le_refl _,fun _=>⟨_,len,rfl,Nat.le_refl _,?_,.inr ⟨w.heap.size,_,rfl,Z9 _ _ _,hrow,by simp [husl]⟩⟩⟩
   have:=hE.pos
   have:len<=len*k:=Nat.le_mul_of_pos_right _ this
   simp only [maxLen];omega) (fun _ _ _ hx hq=>Ze7 l hx hq)
end
theorem Zzz{G:Frm}{β:Nat->Option Nat}{n:Nat}{tm:List (Nat×PV)}{σ:List (Nat×Blk)}{a:Act}{w:World}(h:Zq G β ⟨n,tm,σ⟩ a w)(l k r:Nat)(hk:0 < k)(hlab:1000<=l)
 (hf1:∀ i q,get tm i=some q->q.has l=false) (hf2:∀ m y,get σ m=some y->m≠l/\y.has l=false):Zq G (Zy β l none) ⟨n,tm,(l,.xrow k 0 r [])::σ⟩ a w:=
 Zhz h w none l (.xrow k 0 r []) [] (Nat.le_refl _) rfl rfl rfl ⟨fun cs e=>(by cases e),.inl hlab⟩ (fun _ _ _=>rfl)
  (fun c hc=>by
   have:=Zj.flat (o := .xrow k 0 r []) trivial hc
   rw [Zk] at this;cases this)
  (fun hI hL=>⟨fun i p v hp hv=>VR.step (c:=ctx G β w σ) (c':=ctx G (Zy β l none) w ((l,.xrow k 0 r [])::Zw [] σ)) (fun b hb=>hI b hb) p v (fun m hm=>hL m (fun e=>by subst e;rw [hf1 i p hp] at hm;cases hm)) hv,
   fun q o hq ho hh hb=>BR.step (c:=ctx G β w σ) (c':=ctx G (Zy β l none) w ((l,.xrow k 0 r [])::Zw [] σ)) (fun b hb=>hI b hb) (Z5 β _ hq) hh (fun m hm=>hL m (fun e=>by subst e;rw [(hf2 q o ho).2] at hm;cases hm)) hb⟩)
  (fun _=>⟨hk,(fun el h=>by cases h),Nat.le_refl _,.inl ⟨Zk _ _ _,rfl⟩⟩)
section
variable {P:Program} {o:Oper} {n:Nat} {tm:List (Nat×PV)} {σ:List (Nat×Blk)}
theorem Zya{G:Frm}{β:Nat->Option Nat}{a:Act}{w:World}(hr:Zq G β ⟨n,tm,σ⟩ a w){l r k:Nat}{es:List (List Za)}{v:Value}{tx e:TypeId}(hg:get σ l=some (.xrow k es.length r es))(hv:VR (ctx G β w σ) (.own l (.xw es.length)) v)
 (htx:P.underlying tx=some (.slice e)):∃ news,Src P k tx v es.length news w/\VRs (ctx G β w σ) (es.flatten.map (rgP r)) news:=by
 simp only [VR] at hv
 obtain⟨a',cap,rfl,_,_,h3⟩:=(hv.1 k _ r es hg).2 rfl
 obtain⟨_,hk,_,hb⟩:=hr.blk l _ hg
 rcases hb with ⟨_,he⟩ | ⟨b,sz,vs,hb,_,_,hcs,hvs⟩
 .subst he
  cases a' with
  | none=>exact⟨[],Src.ofNil w htx cap,by simp [VRs]⟩
  | some ad=>exact⟨[],Src.ofSlice w htx ad 0 cap [] (by simp) (by simp) (by simp),by simp [VRs]⟩
 .rcases h3 with ⟨hc,hb'⟩ | ⟨b',sz',ha,hb',_,_⟩
  .exact absurd (hb.symm.trans hb') (by simp)
  .have:b'=b:=by have:=hb'.symm.trans hb;simpa using this
   subst this;subst ha
   rw [Zgo] at hvs
   refine⟨vs,Src.ofSlice w htx ⟨b',0,none⟩ es.length cap vs ?_ (fun j u hu=>by rw [Addr.add_mid,Nat.zero_add];exact hcs j u hu) (Zl3 hvs (Ztx _)),hvs⟩
   rw [hvs.length,List.length_map,Z3 hk]
theorem Zql{ρ:List (Nat×PV)}{t tx e:TypeId}{x y:Operand}{k bytes:Nat}{zero:List PV}{es:List (List Za)}{l2 r:Nat}{need:List Nat}(l:Nat)(hlab:1000<=l)(hlr:l≠r)(ho:o.op = .call { callee := .builtin .append,args := #[x,y],argTypes := #[t,tx] })
 (hE:ElF P t e k bytes zero) (htx:∃ e',P.underlying tx=some (.slice e')) (hx:Zb ρ x=some .nils) (hy:Zb ρ y=some (.own l2 (.xw es.length))) (hg2:get σ l2=some (.xrow k es.length r es)) (hneed:l2∈need)
 (h63:es.length<=9223372036854775807) (hby:es.length*bytes<=140737488355328):Zr P o ρ σ need (.own l (.xw es.length)) [(l,.xrow k es.length r es)]:=
 Zgk (fun G β n tm σ' A w hop hnd hf1 hf2 hr=>by
  obtain⟨e1,_⟩:=hop x _ (by simp [ho,Op.operands,Call.operands]) hx
  obtain⟨e2,_⟩:=hop y _ (by simp [ho,Op.operands,Call.operands]) hy
  simp only [VR] at e1
  obtain⟨a0,e1⟩:=e1
  obtain⟨e',htx⟩:=htx
  have hgl2:=(hnd l2 hneed).trans hg2
  obtain⟨_,hk,_,_⟩:=hr.blk l2 _ hgl2
  obtain⟨news,hs,hnv⟩:=Zya (P:=P) (tx:=tx) hr hgl2 e2 htx
  have hnewsl:news.length=es.length*k:=hs.newsLen
  cases hi:P.info? e with
  | none=>have:=hE.info;simp [hi] at this
  | some i=>
   have hik:i.size=k/\i.bytes=bytes:=by have:=hE.info;simpa [hi] using this
   have hz:=hE.z
   unfold Za8 at hz
   simp only [hi,Option.bind_some,Option.bind_eq_some_iff] at hz
   obtain⟨z,hiz,hz⟩:=hz
   have hzl:z.cells.size=k:=by have:=(Zbc (c:=ctx G β w σ') hz).length;rw [hE.len] at this;simpa using this
   have hexec:∀ r,(Builtin.append_ #[t,tx] o.type #[.slice a0 0 0,A.eval y]).run P w=r->(execOp A.eval o).run P w=r.andThen fun v w => .ok (.value v) w:=by
    intro r hr
    simp only [execOp,ho,resolve,invoke,builtin,Sem.run_bind,Sem.run_pure,Result.andThen_ok,List.map_toArray,List.map_cons,List.map_nil,e1,hr]
   by_cases hem:es.length=0
   .have hes:es=[]:=List.eq_nil_of_length_eq_zero hem
    subst hes
    have hnil:news=[]:=List.eq_nil_of_length_eq_zero (by simpa using hnewsl)
    subst hnil
    have hrun:=Zd1 w t tx o.type e i hE.und hi a0 0 0 (Nat.le_refl _) (A.eval y) (by rw [hik.1];exact hs)
    refine⟨.slice a0 0 0,w,by rw [hexec _ hrun];rfl,_,Zzz hr l k r hE.pos hlab hf1 hf2,?_⟩
    simp only [VR]
    refine⟨fun k' i' r' es' hg=>?_,rfl⟩
    have hgs:get ((l,Blk.xrow k 0 r [])::σ') l=some (.xrow k 0 r []):=by simp [get]
    have:some (Blk.xrow k' i' r' es')=some (.xrow k 0 r []):=Eq.trans (Eq.symm hg) hgs
    cases this
    exact⟨Nat.le_refl _,fun _=>⟨a0,0,rfl,Nat.le_refl _,by simp [maxLen],.inl ⟨rfl,Zk _ _ _⟩⟩⟩
   .have hpos:0 < es.length:=Nat.pos_of_ne_zero hem
    have hrun:=run_append_grow_src (P:=P) w t tx o.type e i z hE.und hi hiz a0 0 0 [] (by cases a0<;>simp [Builtin.firstCells,loadCells,loadCellsFrom]) (A.eval y) es.length news (by rw [hik.1];exact hs) (by omega) (by omega)
     (by rw [hik.2];exact growslice_fits (by omega) (by simpa using hby))
    simp only [List.nil_append,Nat.zero_add] at hrun
    generalize hcs:news.toArray++Builtin.zeroCells z.cells (grownCap w es.length 0 e - es.length)=cs at hrun
    have hge:=grownCap_ge w es.length 0 e
    have hcm:grownCap w es.length 0 e<=maxLen:=grownCap_le_maxLen w es.length 0 e (by simp only [maxLen];omega)
    have hcsz:cs.size=grownCap w es.length 0 e*k:=by
     rw [<- hcs]
     simp only [Array.size_append,List.size_toArray,size_zeroCells,hzl,hnewsl,<- Nat.add_mul]
     congr 1;omega
    obtain⟨hr',hrow,hI,hL⟩:=(Zq.drew hr).allocOwn cs e l (.xrow k es.length r es) hlab trivial hf1 hf2 (fun hI hL hrow=>
     ⟨hE.pos,hk,Nat.le_refl _,.inr ⟨w.heap.size,cs.size,news,Z9 _ _ _,hrow,by rw [hcsz];exact Nat.mul_le_mul_right _ hge,(fun j v hj=>by
      show (w.drew.alloc _).cell? ⟨w.drew.heap.size,_,none⟩=_
      rw [World.cell?_alloc_new,<- hcs]
      have hlt:=(List.getElem?_eq_some_iff.1 hj).1
      rw [Array.getElem?_append_left (by simpa using hlt)]
      simpa using hj),by
      rw [Zgo]
      exact VRs.step (c:=ctx G β w.drew σ') hI _ _ (fun q hq=>hL q (fun e=>by
       subst e
       rw [Zhw (Zai (Ne.symm hlr))] at hq;cases hq)) (VRs.step (c:=ctx G β w σ') (c':=ctx G β w.drew σ') Zg5 _ _ (fun q _=>Zm.drew q) hnv)⟩⟩)
    refine⟨.slice (some ⟨w.heap.size,0,none⟩) es.length (grownCap w es.length 0 e),_,by rw [hexec _ hrun];rfl,_,hr',?_⟩
    simp only [VR]
    refine⟨fun k' i' r' es' hg=>?_,rfl⟩
    have hgs:get ((l,Blk.xrow k es.length r es)::σ') l=some (.xrow k es.length r es):=by simp [get]
    have:some (Blk.xrow k' i' r' es')=some (.xrow k es.length r es):=Eq.trans (Eq.symm hg) hgs
    cases this
    exact⟨Nat.le_refl _,fun _=>⟨_,_,rfl,hge,hcm,.inr ⟨w.heap.size,cs.size,rfl,Z9 _ _ _,hrow,by rw [hcsz];exact Nat.le_refl _⟩⟩⟩) (fun _ _ _ hx hq=>Ze7 l hx hq)
theorem Zlf{G:Frm}{β:Nat->Option Nat}{n:Nat}{tm:List (Nat×PV)}{σ:List (Nat×Blk)}{A:Act}{w:World}(hr:Zq G β ⟨n,tm,σ⟩ A w){t tx e:TypeId}{x y:Operand}{k bytes l r m:Nat}{zero:List PV}{es0 es:List (List Za)}{news:List Value}(ho:o.op = .call { callee := .builtin .append,args := #[x,y],argTypes := #[t,tx] })
 (hE:ElF P t e k bytes zero) (e1:VR (ctx G β w σ) (.own l (.xw m)) (A.eval x)) (hg:get σ l=some (.xrow k m r es0)) (hm:es0.length=m) (hk:∀ el,el∈es->el.length=k) (hs:Src P k tx (A.eval y) es.length news w) (hnv:VRs (ctx G β w σ) (es.flatten.map (rgP r)) news)
 (h63:m+es.length<=9223372036854775807) (hby:(m+es.length)*bytes<=140737488355328) :
 ∃ v w',(execOp A.eval o).run P w = .ok (.value v) w'/\∃ β',Zq G β' ⟨n,tm,put σ l (.xrow k (m+es.length) r (es0++es))⟩ A w'/\VR (ctx G β' w' (put σ l (.xrow k (m+es.length) r (es0++es)))) (.own l (.xw (m+es.length))) v:=by
 simp only [VR] at e1
 obtain⟨a0,cap,hv,hmc,hcm0,h3⟩:=(e1.1 k m r es0 hg).2 hm.symm
 have hnewsl:news.length=es.length*k:=hs.newsLen
 have hnv1:∀ u,u∈news->u.oneCell'=true:=hs.one
 obtain⟨hk0,hkl,_,hbr⟩:=hr.blk l _ hg
 have hkl':∀ el,el∈es0++es->el.length=k:=fun el hel=>(List.mem_append.1 hel).elim (hkl el) (hk el)
 cases hi:P.info? e with
 | none=>have:=hE.info;simp [hi] at this
 | some i=>
  have hik:i.size=k/\i.bytes=bytes:=by have:=hE.info;simpa [hi] using this
  have hz:=hE.z
  unfold Za8 at hz
  simp only [hi,Option.bind_some,Option.bind_eq_some_iff] at hz
  obtain⟨z,hiz,hz⟩:=hz
  have hzl:z.cells.size=k:=by have:=(Zbc (c:=ctx G β w σ) hz).length;rw [hE.len] at this;simpa using this
  have hexec:∀ r,(Builtin.append_ #[t,tx] o.type #[.slice a0 m cap,A.eval y]).run P w=r->(execOp A.eval o).run P w=r.andThen fun v w => .ok (.value v) w:=by
   intro r hr
   simp only [execOp,ho,resolve,invoke,builtin,Sem.run_bind,Sem.run_pure,Result.andThen_ok,List.map_toArray,List.map_cons,List.map_nil,hv,hr]
  have hx0:xPs m r es0=es0.flatten.map (rgP r):=by rw [<- hm];exact Zgo
  have hxn:xPs (m+es.length) r (es0++es)=(es0.flatten.map (rgP r))++(es.flatten.map (rgP r)):=by
   have:=Zgo (r:=r) (es:=es0++es)
   rw [List.length_append,hm] at this
   rw [this,List.flatten_append,List.map_append]
  have holds:∃ olds,VRs (ctx G β w σ) (es0.flatten.map (rgP r)) olds/\(Builtin.firstCells i.size m (.slice a0 m cap)).run P w.drew = .ok olds.toArray w.drew /\
   (∀ b,β l=some b->∀ j v,olds[j]?=some v->w.cell? ⟨b,j,none⟩=some v):=by
   rcases hbr with ⟨hb,he⟩ | ⟨b,sz,vs,hb,hrow,hsz,hcs,hvs⟩
   .subst he
    have hm0:m=0:=by simpa using hm.symm
    subst hm0
    refine⟨[],by simp [VRs],by cases a0<;>simp [Builtin.firstCells,loadCells,loadCellsFrom],fun b hb'=>?_⟩
    intro j v hj;simp at hj
   .rw [hx0] at hvs
    refine⟨vs,hvs,?_,fun b' hb' j v hj=>?_⟩
    .rcases h3 with ⟨_,hb'⟩ | ⟨b',sz',ha,hb',_,_⟩
     .exact absurd (hb.symm.trans hb') (by simp)
     .have:b'=b:=by have:=hb'.symm.trans hb;simpa using this
      subst this;subst ha
      refine run_firstCells_some w.drew i.size m ⟨b',0,none⟩ m cap vs ?_ (fun j v hj=>?_)
      .rw [hvs.length,List.length_map,Z3 hkl,hm,hik.1]
      .rw [Addr.add_mid,Nat.zero_add];exact hcs j v hj
    .have:b'=b:=by have:=hb'.symm.trans hb;simpa using this
     subst this
     exact hcs j v hj
  obtain⟨olds,hov,hold,hoc⟩:=holds
  have holl:olds.length=m*k:=by rw [hov.length,List.length_map,Z3 hkl,hm]
  by_cases hroom:m+es.length<=cap
  .rcases h3 with ⟨hc0,hb⟩ | ⟨b,sz,ha,hb,hrow,hsz⟩
   ·-- nothing there,nothing appended
    have hem:es.length=0:=by omega
    have hm0:m=0:=by omega
    have hes:es=[]:=List.eq_nil_of_length_eq_zero hem
    subst hes
    have hnil:news=[]:=List.eq_nil_of_length_eq_zero (by simpa using hnewsl)
    subst hnil
    have hrun:=Zd1 w t tx o.type e i hE.und hi a0 m cap hmc (A.eval y) (by rw [hik.1];exact hs)
    refine⟨.slice a0 m cap,w,(by rw [hexec _ hrun];rfl),β,?_⟩
    have hsame:∀ q,get (put σ l (.xrow k (m+([]:List (List Za)).length) r (es0++[]))) q=get σ q:=fun q=>by
     by_cases hq:q=l
     .subst hq;rw [Z4,hg,List.append_nil,List.length_nil,Nat.add_zero]
     .exact Z8 σ _ (Ne.symm hq)
    have hr2:Zq G β ⟨n,tm,put σ l (.xrow k (m+([]:List (List Za)).length) r (es0++[]))⟩ A w:=hr.sub (Nat.le_refl _) (fun i p hp=>⟨hp,(hr.tm i p hp).1⟩) (fun q o hq=>by rw [<- hsame q];exact hq)
    refine⟨hr2,?_⟩
    simp only [VR,List.length_nil,Nat.add_zero]
    refine⟨fun k' i' r' es' hg'=>?_,rfl⟩
    have hgl:get σ l=some (.xrow k' i' r' es'):=(hsame l).symm.trans hg'
    rw [hg] at hgl
    cases hgl
    exact⟨by omega,fun _=>⟨a0,cap,rfl,hmc,hcm0,.inl ⟨hc0,hb⟩⟩⟩
   ·-- in place
    subst ha
    have hle:(m+es.length)*k<=sz:=Nat.le_trans (Nat.mul_le_mul_right _ hroom) hsz
    rw [Nat.add_mul] at hle
    have hth:=Zcr hrow (o:=m*k) (n:=es.length*k) hle
    have hrun:=run_append_room_src (P:=P) w t tx o.type e i hE.und hi b 0 m cap (A.eval y) es.length news (by rw [hik.1];exact hs) hroom (fun j hj=>by
     have:=(hth j (by omega)).1
     rwa [hik.1,Nat.zero_add]) (fun j hj=>by
     have:=(hth j (by omega)).2
     rwa [hik.1,Nat.zero_add])
    rw [hik.1,Nat.zero_add] at hrun
    obtain⟨hr',hI,hL⟩:=Zcx hr (off:=m*k) (blk' := .xrow k (m+es.length) r (es0++es)) news hg hb (.inr (.inr (.inr ⟨k,m,m+es.length,r,es0,_,rfl,rfl,by simp⟩))) (fun hI hL=>by
     refine⟨hk0,hkl',by rw [List.length_append,hm];exact Nat.le_refl _,.inr ⟨b,sz,olds++news,hb,Z1 _ _ _ _ hrow,?_,fun j v hj=>?_,?_⟩⟩
     .rw [List.length_append,Nat.add_mul,hm];exact hle
     .show (w.setCells b (m*k) news).cell? _=_
      rcases Nat.lt_or_ge j olds.length with h | h
      .rw [List.getElem?_append_left h] at hj
       rw [World.cell?_setCells_out b news (m*k) w ⟨b,j,none⟩ (fun _ _ => .inl (by simp;omega))]
       exact hoc b hb j v hj
      .rw [List.getElem?_append_right h] at hj
       have hjl:=(List.getElem?_eq_some_iff.1 hj).1
       have:=World.cell?_setCells_in b news (m*k) w (fun j' hj'=>(hth j' (by omega)).1) (j - olds.length) hjl
       rw [show m*k+(j - olds.length)=j by omega] at this
       rw [this,<- hj,List.getElem?_eq_getElem hjl]
     .rw [hxn]
      exact (VRs.step hI _ _ (fun q _=>hL q) hov).append (VRs.step hI _ _ (fun q _=>hL q) hnv))
    refine⟨.slice (some ⟨b,0,none⟩) (m+es.length) cap,w.setCells b (m*k) news,(by rw [hexec _ hrun];rfl),β,hr',?_⟩
    simp only [VR]
    refine⟨fun k' i' r' es' hg'=>?_,rfl⟩
    have:some (Blk.xrow k' i' r' es')=some (.xrow k (m+es.length) r (es0++es)):=Eq.trans (Eq.symm hg') (Z4 σ l _)
    cases this
    rw [List.length_append,hm]
    exact⟨Nat.le_refl _,fun _=>⟨_,cap,rfl,hroom,hcm0,.inr ⟨b,sz,rfl,hb,Z1 _ _ _ _ hrow,hsz⟩⟩⟩
  ·-- a new row
   have hgt:cap < m+es.length:=by omega
   have hpos:0 < es.length:=by omega
   have hrun:=run_append_grow_src (P:=P) w t tx o.type e i z hE.und hi hiz a0 m cap olds hold (A.eval y) es.length news (by rw [hik.1];exact hs) hgt (by omega) (by rw [hik.2];exact growslice_fits hgt hby)
   generalize hcs:(olds++news).toArray++Builtin.zeroCells z.cells (grownCap w (m+es.length) cap e - (m+es.length))=cs at hrun
   have hge:=grownCap_ge w (m+es.length) cap e
   have hcm:grownCap w (m+es.length) cap e<=maxLen:=grownCap_le_maxLen w (m+es.length) cap e (by simp only [maxLen];omega)
   have hcsz:cs.size=grownCap w (m+es.length) cap e*k:=by
    rw [<- hcs]
    simp only [Array.size_append,List.size_toArray,List.length_append,size_zeroCells,hzl,hnewsl,holl,<- Nat.add_mul]
    congr 1;omega
   obtain⟨hr',hrow⟩:=Zus (Zq.drew hr) cs e (i1:=m+es.length) (es':=es0++es) hg (by simp;omega) (fun hI hL hrow=>
    ⟨hk0,hkl',by rw [List.length_append,hm];exact Nat.le_refl _,.inr ⟨w.heap.size,cs.size,olds++news,Z9 _ _ _,hrow,by rw [hcsz,List.length_append,hm];exact Nat.mul_le_mul_right _ hge,(fun j v hj=>by
     show (w.drew.alloc _).cell? ⟨w.drew.heap.size,_,none⟩=_
     rw [World.cell?_alloc_new,<- hcs]
     have hlt:=(List.getElem?_eq_some_iff.1 hj).1
     rw [Array.getElem?_append_left (by simpa using hlt)]
     simpa using hj),by
     rw [hxn]
     exact (VRs.step hI _ _ (fun q _=>hL q) (VRs.step (c:=ctx G β w σ) (c':=ctx G β w.drew σ) Zg5 _ _ (fun q _=>Zm.drew q) hov)).append (VRs.step hI _ _ (fun q _=>hL q) (VRs.step (c:=ctx G β w σ) (c':=ctx G β w.drew σ) Zg5 _ _ (fun q _=>Zm.drew q) hnv))⟩⟩)
   refine⟨.slice (some ⟨w.heap.size,0,none⟩) (m+es.length) (grownCap w (m+es.length) cap e),_,(by rw [hexec _ hrun];rfl),_,hr',?_⟩
   simp only [VR]
   refine⟨fun k' i' r' es' hg'=>?_,rfl⟩
   have:some (Blk.xrow k' i' r' es')=some (.xrow k (m+es.length) r (es0++es)):=Eq.trans (Eq.symm hg') (Z4 σ l _)
   cases this
   rw [List.length_append,hm]
   exact⟨Nat.le_refl _,fun _=>⟨_,_,rfl,hge,hcm,.inr ⟨w.heap.size,cs.size,rfl,Z9 _ _ _,hrow,by rw [hcsz];exact Nat.le_refl _⟩⟩⟩
theorem Zwl{ρ:List (Nat×PV)}{σ0:List (Nat×Blk)}{need:List Nat}{t tx e:TypeId}{x y:Operand}{k bytes l l2 r m:Nat}{zero:List PV}{es0 es:List (List Za)}(ho:o.op = .call { callee := .builtin .append,args := #[x,y],argTypes := #[t,tx] })
 (hE:ElF P t e k bytes zero) (htx:∃ e',P.underlying tx=some (.slice e')) (hx:Zb ρ x=some (.own l (.xw m))) (hg0:get σ0 l=some (.xrow k m r es0)) (hm:es0.length=m) (hy:Zb ρ y=some (.own l2 (.xw es.length))) (hg20:get σ0 l2=some (.xrow k es.length r es)) (hn1:l∈need) (hn2:l2∈need)
 (h63:m+es.length<=9223372036854775807) (hby:(m+es.length)*bytes<=140737488355328) :
 OpF P o ρ σ0 need [l] (.own l (.xw (m+es.length))) [(l,.xrow k (m+es.length) r (es0++es))]:=
 opF fun G β n tm σ A w hop hnd hr=>by
  have e1:=hop x _ (by simp [ho,Op.operands,Call.operands]) hx
  have e2:=hop y _ (by simp [ho,Op.operands,Call.operands]) hy
  have hg:=(hnd l hn1).trans hg0
  have hg2:=(hnd l2 hn2).trans hg20
  obtain⟨_,hk,_,_⟩:=hr.blk l2 _ hg2
  obtain⟨e',htx⟩:=htx
  obtain⟨news,hs,hnv⟩:=Zya (P:=P) (tx:=tx) hr hg2 e2 htx
  exact Zlf hr ho hE e1 hg hm hk hs hnv h63 hby
theorem Zut{ρ:List (Nat×PV)}{σ0:List (Nat×Blk)}{t tx e:TypeId}{x y:Operand}{k bytes l l2 r r2 m:Nat}{zero:List PV}{es0 es:List (List Za)}(hr0:1000<=r)(hrr:r≠r2)(hlr:l≠r)(hlr2:l≠r2)(ho:o.op = .call { callee := .builtin .append,args := #[x,y],argTypes := #[t,tx] })
 (hE:ElF P t e k bytes zero) (htx:∃ e',P.underlying tx=some (.slice e')) (hx:Zb ρ x=some (.own l (.xw m))) (hg0:get σ0 l=some (.xrow k m r es0)) (hm:es0.length=m) (hy:Zb ρ y=some (.own l2 (.xw es.length))) (hg20:get σ0 l2=some (.xrow k es.length r2 es)) (hgr0:get σ0 r=some (.reg false)) (hgr20:get σ0 r2=some (.reg false))
 (h63:m+es.length<=9223372036854775807) (hby:(m+es.length)*bytes<=140737488355328) :
 OpF P o ρ σ0 [l,l2,r,r2] [l,r,r2] (.own l (.xw (m+es.length))) [(l,.xrow k (m+es.length) r (es0++es)),(r,.reg false)]:=
 opF fun G β n tm σ A w hop hnd hr=>by
  have e1:=hop x _ (by simp [ho,Op.operands,Call.operands]) hx
  have e2:=hop y _ (by simp [ho,Op.operands,Call.operands]) hy
  have hg:=(hnd l (by simp)).trans hg0
  have hg2:=(hnd l2 (by simp)).trans hg20
  have hgr:=(hnd r (by simp)).trans hgr0
  have hgr2:=(hnd r2 (by simp)).trans hgr20
  obtain⟨_,hk,_,_⟩:=hr.blk l2 _ hg2
  obtain⟨e',htx⟩:=htx
  obtain⟨news,hs,hnv⟩:=Zya (P:=P) (tx:=tx) hr hg2 e2 htx
  obtain⟨N,hN,_⟩:=hr.blk r _ hgr
  obtain⟨M,hM,hrows⟩:=hr.blk r2 _ hgr2
  obtain⟨hr1,hV⟩:=Zty hr hr0 hgr hN hgr2 hrr (M:=M) (fun b hb=>⟨.inr ⟨M,hM,hb⟩,hrows b hb⟩)
  have hd1:∀ m,m≠r2->get (Zw [r2] σ) m=get σ m:=fun m hm=>Zej (by simpa using hm)
  have hcell:∀ (ts:List Za) (vs:List Value),VRs (ctx G β w σ) (ts.map (rgP r2)) vs->VRs (ctx G (Zy β r (some (N ||| M))) w (Zw [r2] σ)) (ts.map (rgP r)) vs:=by
   intro ts
   induction ts with
   | nil=>intro vs h;exact h
   | cons t ts ih=>
    intro vs h
    simp only [List.map_cons,VRs] at h⊢
    obtain⟨v,rest,rfl,hv,hr⟩:=h
    have ht:=Ztv (c:=ctx G β w σ) hgr2 hM hv
    have:=Zi8.vr (c:=ctx G (Zy β r (some (N ||| M))) w (Zw [r2] σ)) (l:=r) (h:=false) ((hd1 r hrr).trans hgr) (Zk _ _ _) (t:=t) (v:=v) (Zg.mono (w:=w) (w':=w) (fun b hb=>⟨by rw [Nat.testBit_or,hb,Bool.or_true],rfl⟩) t v ht)
    exact⟨v,rest,rfl,this,ih rest hr⟩
  obtain⟨v,w',hrun,β',hr',hv'⟩:=Zlf hr1 ho hE (hV _ _ e1) ((hd1 l hlr2).trans hg) hm hk hs (hcell _ _ hnv) h63 hby
  have hsub:∀ m o',get ([(l,Blk.xrow k (m+es.length) r (es0++es))]:List (Nat×Blk)) m=some o'->True:=fun _ _ _=>trivial
  have hget:∀ q o',get ([(l,Blk.xrow k (m+es.length) r (es0++es)),(r,Blk.reg false)]++Zw [l,r,r2] σ) q=some o'->get (put (Zw [r2] σ) l (.xrow k (m+es.length) r (es0++es))) q=some o':=fun q o' hm=>by
   have hm:get ((l,Blk.xrow k (m+es.length) r (es0++es))::(r,Blk.reg false)::Zw [l,r,r2] σ) q=some o':=hm
   by_cases h1:q=l
   .subst h1
    rw [show o'=_ from by simpa [PW.get] using hm.symm];exact Z4 _ _ _
   .simp only [PW.get,Zai (Ne.symm h1),cond_false] at hm
    rw [Z8 _ _ (Ne.symm h1)]
    by_cases h2:q=r
    .subst h2
     simp at hm
     rw [hd1 q hrr,hgr,hm]
    .simp only [Zai (Ne.symm h2),cond_false] at hm
     obtain⟨h3,h4⟩:=Zcv hm
     rw [hd1 q (fun e=>h3 (by simp [e])),h4]
  refine⟨v,w',hrun,β',hr'.sub (Nat.le_refl _) (fun i p hp=>⟨hp,(hr'.tm i p hp).1⟩) hget,?_⟩
  exact VR.step (c:=ctx G β' w' (put (Zw [r2] σ) l (.xrow k (m+es.length) r (es0++es)))) (c':=ctx G β' w' ([(l,Blk.xrow k (m+es.length) r (es0++es)),(r,Blk.reg false)]++Zw [l,r,r2] σ)) (fun b hb=>⟨Imm.sub hget b hb,rfl⟩) _ v (fun q _=>Zm.sub hget q) hv'
end
end Go.PW
